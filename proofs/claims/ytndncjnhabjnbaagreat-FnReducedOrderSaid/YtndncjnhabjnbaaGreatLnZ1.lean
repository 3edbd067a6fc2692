/- Helper of the proof (see the last text). -/
import Derived.Test.YtndncjnhabjnbaaGreatLnN
import Derived.Sort.LotA
import Derived.Shelf.SlSortCmp.Insertion1
import Derived.Sort.WalkA
import Derived.Sort.WalkB2
import Derived.Sort.WalkB12
import Derived.Deep.LoopGhost
import Derived.Test.YtndncjnhabjnbaaGreatProg
import Derived.Shelf.SlGeneric
import Derived.Ground.SlsfProg
set_option linter.unusedVariables false
set_option linter.unusedSimpArgs false
namespace Go.LN
def clrL{α:Type}(l:List α)(i:Int)(z:α):Option (List α):=if 0<=i/\i<=(l.length:Int) then some (l.take i.toNat++List.replicate (l.length - i.toNat) z) else none
theorem zNO{zc:List Value}(hz:0<zc.length)(n:Nat):(Builtin.zeroCells ⟨zc⟩ (n+1)).toList=zc++(Builtin.zeroCells ⟨zc⟩ n).toList:=by
 have e:∀k,(Builtin.zeroCells ⟨zc⟩ k).toList=(List.range (k*zc.length)).map λi=>zc[i % zc.length]!:=λk=>by
  unfold Builtin.zeroCells;simp[List.size_toArray]
 rw[e,e];refine ew (by simp[dz];omega) λi h1 h2=>?_;rw[List.getElem_map,gn];by_cases hi:i<zc.length
 ·rw[List.getElem_append_left hi,Nat.mod_eq_of_lt hi,getElem!_pos zc i hi]
 ·rw[List.getElem_append_right (by omega),List.getElem_map,gn,Nat.mod_eq_sub_mod (by omega)]
theorem zLI{α:Type}[Rp α]{imm:Imm}{zc:List Value}{z:α}(h:Rp.rep imm zc z):∀n,RL imm (Builtin.zeroCells ⟨zc⟩ n).toList (List.replicate n z)
 | 0=>by
  have:(Builtin.zeroCells ⟨zc⟩ 0).toList=[]:=by unfold Builtin.zeroCells;simp
  rw[this];exact RepL.nil
 | n+1=>by
  have hl:zc.length=Rp.sz α:=Rp.len h
  have hp:=Rp.pos (α:=α)
  rw[zNO (by omega),List.replicate_succ]
  exact RepL.append (RepL.single hl h) (zLI h n)
theorem zPS{α:Type}[Rp α]{imm:Imm}{v:Value}{o:Option α}(h:FP imm v o):∃q,v=.pointer q:=by
 cases o with
 | none=>exact⟨none,h⟩
 | some x=>obtain⟨ad,_,e,_⟩:=h;exact⟨some ad,e⟩
theorem zOM{α:Type}[Rp α]{imm:Imm}{q:Option Addr}{o:Option α}{x:α}(h:FP imm (.pointer q) o)(e:o=some x):∃ad cs,q=some ad/\At imm ad cs/\Rp.rep imm cs x:=by
 obtain⟨ad,cs,h1,h2⟩:=zMa h e;exact⟨ad,cs,by injection h1,h2⟩
section
variable {P:Program}{n:Nat}{B:Base}{af:List Oper}{Q:Exit->Act->World->Prop}{pc:Nat}{imm:Imm}{hs:List HA}{m:FM}{d:Nat}
def clrT(P:Program)(t:TypeId):Option (Nat×Array Value):=match P.underlying t with
 | some (.slice e)=>match sizeT P e,zeroC P e with
  | some s,some z=>some (s,z)
  | _,_=>none
 | _=>none
theorem zQu{o:Oper}(ho:af[pc]?=some o)(hg:guardB af m o.guard=some true)(hd:o.dst=none)
 (h:∀a w,Fr n a m->Good B imm hs w->∃v w' am ag,(execOp a.eval o).run P w=.ok (.value v) w'/\Good B am ag w'/\R P n B af Q (pc+1) am ag m):R P n B af Q pc imm hs m:=
 zG9 ho hg λa w f g=>by
  obtain⟨v,w',am,ag,h1,h2,h3⟩:=h a w f g
  unfold Oper.wp
  rw[h1]
  simp only[Oper.upon,hd]
  exact h3 _ w' f h2
theorem zQv{α:Type}[Rp α]{t:TypeId}{x:Operand}{lo:Option Operand}{ty ty2:TypeId}{pos pos2:String}{after after2:Array Edge}{v:Value}{i:Int}{cs:List Value}{l y:List α}(z:α)(zc:List Value)(j:Nat)
 (ho:af[pc]?=some ⟨some d,.slice t x lo none none,ty,pos,after,none⟩) (ho2:af[pc+1]?=some ⟨none,.call { callee:=.builtin .clear,args:=#[.tmp d],argTypes:=#[t] },ty2,pos2,after2,none⟩)
 (hj:hs[j]?=some (.osl v (Rp.sz α) cs)) (hlo:bnd m 0 lo=some i) (hr:RL imm cs l) (hy:clrL l i z=some y) (hzr:Rp.rep imm zc z)
 (next:∀cs' v',RL imm cs' y->y.length=l.length->R P n B af Q (pc+2) imm (hs.set j (.osl v (Rp.sz α) cs')) ((d,v')::m))
 (hn:Nat.blt d n=true:=by kernel_rfl) (hx:val m x=some v:=by kernel_rfl) (ht:clrT P t=some (Rp.sz α,⟨zc⟩):=by kernel_rfl):R P n B af Q pc imm hs m:=by
 unfold clrL at hy
 split at hy
 ·rename_i hb
  cases hy
  have aJ:=hr.length
  have hzp:=Rp.pos (α:=α)
  have hzl:zc.length=Rp.sz α:=Rp.len hzr
  have bX:=Rp.one hzr
  obtain⟨e,hu,hse,hz⟩:∃e,P.underlying t=some (.slice e)/\sizeT P e=some (Rp.sz α)/\zeroC P e=some ⟨zc⟩:=by
   unfold clrT at ht
   split at ht
   ·rename_i e hq
    split at ht
    ·rename_i s zz h1 h2
     injection ht with ht
     injection ht with h3 h4
     subst h3;subst h4
     exact⟨e,hq,h1,h2⟩
    ·cases ht
   ·cases ht
  obtain⟨zv,hzv,hzc⟩:∃zv,(∀w,(zeroValue e).run P w=.ok zv w)/\zv.cells=⟨zc⟩:=by
   have hz':=hz
   unfold zeroC at hz'
   cases hi:P.info? e with
   | none=>rw[hi] at hz';cases hz'
   | some q=>
    rw[hi] at hz'
    simp only[Option.bind_some] at hz'
    cases hq:q.zero with
    | none=>rw[hq] at hz';cases hz'
    | some zv=>
     rw[hq] at hz'
     simp only[Option.map_some,Option.some.injEq] at hz'
     exact⟨zv,λw=>by simp[zeroValue,typeInfo,hi,hq],hz'⟩
  have hzr2:=zLI hzr (l.length - i.toNat)
  have hrt:=(hr.take i.toNat).append hzr2
  refine jR ho rfl rfl hn λa w f gd=>?_
  have step:∀(ad:Option Addr) (cap:Nat),v=.slice ad l.length cap->l.length<=cap ->
   ∃v' w' am ag,(execOp a.eval ⟨some d,.slice t x lo none none,ty,pos,after,none⟩).run P w=.ok (.value v') w'/\Good B am ag w'/\R P n B af Q (pc+1) am ag ((d,v')::m):=by
   intro ad cap hv hlc
   subst hv
   have hbd:=zAu (P:=P) (w:=w) (hi:=none) (k:=(l.length:Int)) f hlo rfl hb.1 hb.2 (Int.le_refl _) hlc
   refine⟨.slice (if cap=i.toNat then ad else ad.map (·.add (i.toNat*Rp.sz α))) (l.length - i.toNat) (cap - i.toNat),w,imm,hs,?_,gd,?_⟩
   ·rw[gy,Option.map_none] at hbd
    simp only[execOp,f.eval hx,Option.map_none,Instr.sliceAt,Instr.slice,Sem.run_bind,xE hu,Result.andThen_ok,hbd,pZ hse,Sem.run_pure]
   ·refine zQu ho2 rfl rfl λa2 w2 f2 gd2=>?_
    have hv2:a2.eval (.tmp d)=.slice (if cap=i.toNat then ad else ad.map (·.add (i.toNat*Rp.sz α))) (l.length - i.toNat) (cap - i.toNat):=f2.eval (by simp[val,look])
    by_cases h0:l.length - i.toNat=0
    ·have hil:i.toNat=l.length:=by omega
     have bS:(cs.take (i.toNat*Rp.sz α))++(Builtin.zeroCells ⟨zc⟩ (l.length - i.toNat)).toList=cs:=by
      rw[h0,hil,<- aJ]
      have:(Builtin.zeroCells ⟨zc⟩ 0).toList=[]:=by unfold Builtin.zeroCells;simp
      rw[this];simp
     rw[bS] at hrt
     have hN:=next cs (.slice (if cap=i.toNat then ad else ad.map (·.add (i.toNat*Rp.sz α))) (l.length - i.toNat) (cap - i.toNat)) hrt (by simp;omega)
     have hjl:=(cj.1 hj)
     rw[show hs.set j (.osl (.slice ad l.length cap) (Rp.sz α) cs)=hs from by
      obtain⟨h1,h2⟩:=hjl
      rw[<- h2];exact List.set_getElem_self h1] at hN
     refine⟨.tuple #[],w2,imm,hs,?_,gd2,hN⟩
     simp only[execOp,resolve,List.map_toArray,cL,d8,hv2,Sem.run_bind,Sem.run_pure,Result.andThen_ok,invoke,builtin,Builtin.clear_,dx,d6,xE hu,h0]
     generalize (if cap=i.toNat then ad else Option.map (λx=>x.add (i.toNat*Rp.sz α)) ad)=q
     cases q <;> simp
    ·have hic:cap ≠ i.toNat:=by omega
     rcases gd2.own _ (sZ hj) with⟨e1,_⟩|⟨b,off,len,cap2,all,ty',e1,hp1,hp2,hw,hcap,hlc2,bZ,bS,hcM⟩
     ·injection e1 with e1 e2 e3
      omega
     ·injection e1 with e1 e2 e3
      subst e1;subst e2;subst e3
      have hmul:∀{p q:Nat},p<=q->p*Rp.sz α<=q*Rp.sz α:=λh=>cR _ h
      have m1:=hmul (show i.toNat<=l.length by omega)
      have m2:=hmul hlc2
      have hzl2:(Builtin.zeroCells ⟨zc⟩ (l.length - i.toNat)).toList.length=l.length*Rp.sz α - i.toNat*Rp.sz α:=by
       rw[df,zDU]
       show (l.length - i.toNat)*zc.length=_
       rw[hzl,gc]
      have hone2:=RepL.one (λc a h=>Rp.one h) hzr2
      have hblt:b<w2.heap.size:=((gd2.own _ (sZ hj)).lt (by simp[HA.fp])).1
      have hst:=zAZ (P:=P) (off:=off+i.toNat*Rp.sz α) (Builtin.zeroCells ⟨zc⟩ (l.length - i.toNat)).toList 0 all w2 hw hone2 (by rw[hzl2];omega)
      have hcd:cs.drop (i.toNat*Rp.sz α+(Builtin.zeroCells ⟨zc⟩ (l.length - i.toNat)).toList.length)=[]:=da.2 (by rw[hzl2];omega)
      have hN:=next _ (.slice (if cap=i.toNat then some ⟨b,off,none⟩ else(some (⟨b,off,none⟩:Addr)).map (·.add (i.toNat*Rp.sz α))) (l.length - i.toNat) (cap - i.toNat)) hrt (by simp;omega)
      refine⟨.tuple #[],setBlk w2 b (.cells (wr all (off+i.toNat*Rp.sz α+0) (Builtin.zeroCells ⟨zc⟩ (l.length - i.toNat)).toList) ty' (0,0)),imm,_,?_,?_,hN⟩
      ·obtain⟨q,hq⟩:∃q,l.length - i.toNat=q+1:=⟨l.length - i.toNat - 1,by omega⟩
       rw[hq] at hv2 hst ⊢
       simp only[execOp,resolve,List.map_toArray,cL,d8,hv2,if_neg hic,Option.map_some,gV,Sem.run_bind,Sem.run_pure,Result.andThen_ok,invoke,builtin,Builtin.clear_,dx,d6,xE hu,hzv,hzc,hst]
      ·refine gd2.write_at hj (by simp[HA.fp]) (by simp[HA.fp]) _ (.inr ⟨b,off,l.length,cap,_,ty',rfl,hp1,hp2,zAX hblt,by rw[zKT];exact hcap,hlc2,?_,?_,hcM⟩)
       ·rw[cQ,cx,hzl2];omega
       ·rw[zGa _ _ _ (by rw[hzl2];omega),<- bS]
        have:=zHZ all.toList (Builtin.zeroCells ⟨zc⟩ (l.length - i.toNat)).toList off (l.length*Rp.sz α) (i.toNat*Rp.sz α) (by rw[hzl2];omega) (by simp;omega)
        rw[bS,hcd,co] at this
        rw[gk,this,bS]
  rcases gd.own _ (sZ hj) with⟨rfl,rfl⟩|⟨b,off,len,cap,all,ty',rfl,hp1,hp2,hw,hcap,hlc,bZ,bS,hcM⟩
  ·have hl0:l.length=0:=by
    have:l.length*Rp.sz α=0:=by rw[<- aJ];rfl
    rcases gh.1 this with h|h <;> omega
   exact step none 0 (by rw[hl0]) (by omega)
  ·have hll:len=l.length:=mU hzp (by omega)
   subst hll
   exact step _ cap rfl hlc
 ·cases hy
end
end Go.LN
namespace Go.Proofs
open Go.Sort
variable {α : Type} [Inhabited α]
def swR(d : Array α)(a b i : Nat): Nat -> Array α
 | 0=>d
 | k+1=>swR (swp d (a+i) (b+i)) a b (i+1) k
theorem zBR(a b : Nat): ∀(k i : Nat) (d : Array α),(swR d a b i k).size = d.size
 | 0,i,d=>rfl
 | k+1,i,d=>by rw[swR,zBR a b k,size_swp]
def rotF : Nat -> Array α -> Nat -> Nat -> Nat -> Array α
 | 0,d,_,_,_=>d
 | k+1,d,m,i,j=>if i = j then swR d (m - i) m 0 i else if j<i then rotF k (swR d (m - i) m 0 j) m (i - j) j else rotF k (swR d (m - i) (m+j - i) 0 i) m i (j - i)
theorem zEJ : ∀(k : Nat) (d : Array α) (m i j : Nat),(rotF k d m i j).size = d.size
 | 0,d,m,i,j=>rfl
 | k+1,d,m,i,j=>by
  rw[rotF]
  split
  ·exact zBR _ _ _ _ _
  split <;> rw[zEJ k,zBR]
def bsG(p : Nat -> Bool): Nat -> Nat -> Nat -> Nat
 | 0,i,_=>i
 | f+1,i,j=>if i<j then(if p ((i+j) / 2) then bsG p f ((i+j) / 2+1) j else bsG p f i ((i+j) / 2)) else i
theorem zI2(p : Nat -> Bool): ∀(f i j : Nat),i<=j -> i<=bsG p f i j /\ bsG p f i j<=j
 | 0,i,j,h=>⟨Nat.le_refl _,h⟩
 | f+1,i,j,h=>by
  rw[bsG]
  split
  ·split
   ·have:=zI2 p f ((i+j) / 2+1) j (by omega);omega
   ·have:=zI2 p f i ((i+j) / 2) (by omega);omega
  ·omega
def upR : Nat -> Array α -> Nat -> Array α
 | 0,d,_=>d
 | n+1,d,k=>upR n (swp d k (k+1)) (k+1)
def dnR : Nat -> Array α -> Nat -> Array α
 | 0,d,_=>d
 | n+1,d,k=>dnR n (swp d k (k - 1)) (k - 1)
theorem zI3 : ∀(n : Nat) (d : Array α) (k : Nat),(upR n d k).size = d.size
 | 0,d,k=>rfl
 | n+1,d,k=>by rw[upR,zI3 n,size_swp]
theorem zI4 : ∀(n : Nat) (d : Array α) (k : Nat),(dnR n d k).size = d.size
 | 0,d,k=>rfl
 | n+1,d,k=>by rw[dnR,zI4 n,size_swp]
def smS(lt : α -> α -> Bool)(d : Array α)(a m b : Nat): Nat:=
 if(a+b) / 2<m then bsG (λc => !lt d[(a+b) / 2+m - 1 - c]! d[c]!) b ((a+b) / 2+m - b) ((a+b) / 2) else bsG (λc => !lt d[(a+b) / 2+m - 1 - c]! d[c]!) b a m
def smF(lt : α -> α -> Bool): Nat -> Array α -> Nat -> Nat -> Nat -> Array α
 | 0,d,_,_,_=>d
 | f+1,d,a,m,b=>
  if m - a = 1 then upR (bsG (λh=>lt d[h]! d[a]!) b m b - 1 - a) d a
  else if b - m = 1 then dnR (m - bsG (λh => !lt d[m]! d[h]!) m a m) d m
  else
   let s:=smS lt d a m b
   let e:=(a+b) / 2+m - s
   let d1:=if s<m /\ m<e then rotF (e - s) d m (m - s) (e - m) else d
   let d2:=if a<s /\ s<(a+b) / 2 then smF lt f d1 a s ((a+b) / 2) else d1
   if(a+b) / 2<e /\ e<b then smF lt f d2 ((a+b) / 2) e b else d2
theorem zCI(lt : α -> α -> Bool): ∀(f : Nat) (d : Array α) (a m b : Nat),(smF lt f d a m b).size = d.size
 | 0,d,a,m,b=>rfl
 | f+1,d,a,m,b=>by
  rw[smF]
  split;· exact zI3 _ _ _
  split;· exact zI4 _ _ _
  simp only
  repeat' split
  all_goals simp only[zCI lt f,zEJ]
def stI(lt : α -> α -> Bool): Nat -> Array α -> Nat -> Nat -> Array α
 | 0,d,n,a=>Sort.insertionSort lt d a n
 | f+1,d,n,a=>if a+20<=n then stI lt f (Sort.insertionSort lt d a (a+20)) n (a+20) else Sort.insertionSort lt d a n
def stM(lt : α -> α -> Bool): Nat -> Array α -> Nat -> Nat -> Nat -> Array α
 | 0,d,_,_,_=>d
 | f+1,d,n,bs,a=>if a+2*bs<=n then stM lt f (smF lt n d a (a+bs) (a+2*bs)) n bs (a+2*bs) else if a+bs<n then smF lt n d a (a+bs) n else d
def stO(lt : α -> α -> Bool): Nat -> Array α -> Nat -> Nat -> Array α
 | 0,d,_,_=>d
 | f+1,d,n,bs=>if bs<n then stO lt f (stM lt n d n bs 0) n (2*bs) else d
def stA(lt : α -> α -> Bool)(d : Array α)(n : Nat): Array α:=stO lt n (stI lt n d n 0) n 20
theorem zKE(lt : α -> α -> Bool)(a : Nat): ∀(j : Nat) (d : Array α),(insInner lt a j d).size = d.size
 | 0,d=>rfl
 | j+1,d=>by
  rw[insInner]
  split
  ·rw[zKE lt a j,size_swp]
  rfl
theorem zKF(lt : α -> α -> Bool)(a b : Nat): ∀(k i : Nat) (d : Array α),b - i<=k -> (insOuter lt a b i d).size = d.size
 | 0,i,d,h=>by rw[insOuter,if_neg (by omega)]
 | k+1,i,d,h=>by
  rw[insOuter];split
  ·rw[zKF lt a b k (i+1) _ (by omega),zKE]
  ·rfl
theorem zD0(lt : α -> α -> Bool)(d : Array α)(a b : Nat): (Sort.insertionSort lt d a b).size = d.size:=by
 unfold Sort.insertionSort;exact zKF lt a b _ _ d (Nat.le_refl _)
theorem zIF(a b : Nat): ∀(k i : Nat) (d : Array α),a+i+k<=b+i -> b+i+k<=d.size -> ∀q,(swR d a b i k)[q]! = if a+i<=q /\ q<a+i+k then d[q+(b - a)]! else if b+i<=q /\ q<b+i+k then d[q - (b - a)]! else d[q]!
 | 0,i,d,_,_,q=>by rw[swR,if_neg (by omega),if_neg (by omega)]
 | k+1,i,d,h1,h2,q=>by
  rw[swR,zIF a b k (i+1) (swp d (a+i) (b+i)) (by omega) (by rw[size_swp];omega) q]
  have g:=λq=>Go.Sort.swp_get d (i:=a+i) (j:=b+i) (by omega) (by omega) q
  rw[g,g,g]
  repeat' split
  all_goals first|(exfalso;omega)|rfl|(congr 1;omega)
theorem zI5 : ∀(k : Nat) (d : Array α) (m i j : Nat),0<i -> 0<j -> i<=m -> m+j<=d.size -> i+j<=k -> ∀q,
 (rotF k d m i j)[q]! = if m - i<=q /\ q<m - i+j then d[q+i]! else if m - i+j<=q /\ q<m+j then d[q - j]! else d[q]!
 | 0,d,m,i,j,h1,h2,h3,h4,h5,q=>by omega
 | k+1,d,m,i,j,h1,h2,h3,h4,h5,q=>by
  rw[rotF]
  by_cases e : i = j
  ·subst e
   rw[if_pos rfl,zIF (m - i) m i 0 d (by omega) (by omega) q]
   repeat' split
   all_goals first|(exfalso;omega)|rfl|(congr 1;omega)
  ·rw[if_neg e]
   by_cases hl : j<i
   ·rw[if_pos hl,zI5 k _ m (i - j) j (by omega) h2 (by omega) (by rw[zBR];omega) (by omega) q]
    have g:=λq=>zIF (m - i) m j 0 d (by omega) (by omega) q
    rw[g,g,g]
    repeat' split
    all_goals first|(exfalso;omega)|rfl|(congr 1;omega)
   ·rw[if_neg hl,zI5 k _ m i (j - i) h1 (by omega) h3 (by rw[zBR];omega) (by omega) q]
    have g:=λq=>zIF (m - i) (m+j - i) i 0 d (by omega) (by omega) q
    rw[g,g,g]
    repeat' split
    all_goals first|(exfalso;omega)|rfl|(congr 1;omega)
theorem zMe : ∀(n : Nat) (d : Array α) (k : Nat),k+n<d.size -> ∀q,(upR n d k)[q]! = if k<=q /\ q<k+n then d[q+1]! else if q = k+n then d[k]! else d[q]!
 | 0,d,k,h,q=>by
  rw[upR,if_neg (by omega)]
  split
  ·congr 1
  ·rfl
 | n+1,d,k,h,q=>by
  rw[upR,zMe n (swp d k (k+1)) (k+1) (by rw[size_swp];omega) q]
  have g:=λq=>Go.Sort.swp_get d (i:=k) (j:=k+1) (by omega) (by omega) q
  rw[g,g,g]
  repeat' split
  all_goals first|(exfalso;omega)|rfl|(congr 1;omega)
theorem zMf : ∀(n : Nat) (d : Array α) (k : Nat),n<=k -> k<d.size -> ∀q,(dnR n d k)[q]! = if q+n = k then d[k]! else if k<q+n /\ q<=k then d[q - 1]! else d[q]!
 | 0,d,k,h,h2,q=>by
  rw[dnR]
  split
  ·congr 1
  ·rw[if_neg (by omega)]
 | n+1,d,k,h,h2,q=>by
  rw[dnR,zMf n (swp d k (k - 1)) (k - 1) (by omega) (by rw[size_swp];omega) q]
  have g:=λq=>Go.Sort.swp_get d (i:=k) (j:=k - 1) (by omega) (by omega) q
  rw[g,g,g]
  repeat' split
  all_goals first|(exfalso;omega)|rfl|(congr 1;omega)
theorem zD1(p : Nat -> Bool): ∀(f i j : Nat),i<=j -> j - i<=f -> (∀x y,i<=x -> x<y -> y<j -> p y = true -> p x = true) ->
 (∀x,i<=x -> x<bsG p f i j -> p x = true) /\ (∀x,bsG p f i j<=x -> x<j -> p x = false)
 | 0,i,j,h,hf,hm=>by
  rw[bsG]
  exact⟨λx a b=>by omega,λx a b=>by omega⟩
 | f+1,i,j,h,hf,hm=>by
  rw[bsG]
  split
  ·rename_i ax
   obtain⟨c,hc⟩ : ∃c,c = (i+j) / 2:=⟨_,rfl⟩
   rw[<- hc]
   have c1 : i<=c:=by omega
   have c2 : c<j:=by omega
   cases hp : p c with
   | true=>
    rw[if_pos rfl]
    obtain⟨h1,h2⟩:=zD1 p f (c+1) j (by omega) (by omega) (λx y a b=>hm x y (by omega) b)
    refine⟨λx a b => ?_,h2⟩
    by_cases hx : c+1<=x
    ·exact h1 x hx b
    ·by_cases hx2 : x = c
     ·rw[hx2];exact hp
     ·exact hm x c a (by omega) c2 hp
   | false=>
    rw[if_neg (by simp)]
    obtain⟨h1,h2⟩:=zD1 p f i c (by omega) (by omega) (λx y a b e=>hm x y a b (by omega))
    refine⟨h1,λx a b => ?_⟩
    by_cases hx : x<c
    ·exact h2 x a hx
    ·by_cases hx2 : x = c
     ·rw[hx2];exact hp
     ·cases hq : p x with
      | false=>rfl
      | true=>rw[hm c x c1 (by omega) b hq] at hp;cases hp
  ·exact⟨λx a b=>by omega,λx a b=>by omega⟩
variable (lv nm : α -> Int)
def ltV(x y : α): Bool:=decide (lv x<lv y)
def TT(x y : α): Prop:=lv x<lv y∨(lv x = lv y /\ nm x<nm y)
def SrtT(d : Array α)(a b : Nat): Prop := ∀i j,a<=i -> i<j -> j<b -> TT lv nm d[i]! d[j]!
def CrsN(d : Array α)(a m b : Nat): Prop := ∀i j,a<=i -> i<m -> m<=j -> j<b -> nm d[i]! < nm d[j]!
structure Within(d d' : Array α)(a b : Nat): Prop where
 sz : d'.size = d.size
 out : ∀q,q<a∨b<=q -> d'[q]! = d[q]!
 sub : ∀q,a<=q -> q<b -> ∃r,a<=r /\ r<b /\ d'[q]! = d[r]!
theorem Within.refl(d : Array α)(a b : Nat): Within d d a b:=⟨rfl,λ_ _=>rfl,λq h1 h2=>⟨q,h1,h2,rfl⟩⟩
theorem Within.trans{d d' d'' : Array α}{a b : Nat}(h : Within d d' a b)(k : Within d' d'' a b): Within d d'' a b:=
 ⟨k.sz.trans h.sz,λq hq=>(k.out q hq).trans (h.out q hq),λq h1 h2=>by
  obtain⟨r,r1,r2,e⟩:=k.sub q h1 h2
  obtain⟨r',r3,r4,e'⟩:=h.sub r r1 r2
  exact⟨r',r3,r4,e.trans e'⟩⟩
theorem Within.mono{d d' : Array α}{a b a' b' : Nat}(h : Within d d' a b)(h1 : a'<=a)(h2 : b<=b'): Within d d' a' b' :=
 ⟨h.sz,λq hq=>h.out q (by omega),λq q1 q2=>by
  by_cases hq : a<=q /\ q<b
  ·obtain⟨r,r1,r2,e⟩:=h.sub q hq.1 hq.2
   exact⟨r,by omega,by omega,e⟩
  ·exact⟨q,q1,q2,h.out q (by omega)⟩⟩
omit [Inhabited α] in
theorem TT.le{lv nm : α -> Int}{x y : α}(h : TT lv nm x y): lv x<=lv y:=by unfold TT at h;omega
theorem SrtT.le{lv nm : α -> Int}{d : Array α}{a b : Nat}(h : SrtT lv nm d a b){i j : Nat}(h1 : a<=i)(h2 : i<=j)(h3 : j<b): lv d[i]! <= lv d[j]! := by
 by_cases e : i = j
 ·rw[e];exact Int.le_refl _
 ·exact(h i j h1 (by omega) h3).le
theorem zQM(d : Array α)(a m b : Nat)(ham : m = a+1)(hmb : m<b)(hb : b<=d.size)(h2 : SrtT lv nm d m b)(hc : CrsN nm d a m b):
 Within d (upR (bsG (λh=>ltV lv d[h]! d[a]!) b m b - 1 - a) d a) a b /\ SrtT lv nm (upR (bsG (λh=>ltV lv d[h]! d[a]!) b m b - 1 - a) d a) a b:=by
 have hi:=zI2 (λh=>ltV lv d[h]! d[a]!) b m b (by omega)
 have hs:=zD1 (λh=>ltV lv d[h]! d[a]!) b m b (by omega) (by omega) (λx y q1 q2 q3 e=>by
  simp only[ltV,decide_eq_true_eq] at e ⊢
  have:=h2.le (i:=x) (j:=y) q1 (by omega) q3
  omega)
 generalize bsG (λh=>ltV lv d[h]! d[a]!) b m b = s at hi hs ⊢
 obtain⟨hs1,av⟩:=hs
 simp only[ltV,decide_eq_true_eq,decide_eq_false_iff_not] at hs1 av
 obtain⟨n,rfl⟩ : ∃n,s = a+1+n:=⟨s - (a+1),by omega⟩
 rw[show a+1+n - 1 - a = n by omega]
 have g:=zMe n d a (by omega)
 have hz:=zI3 n d a
 generalize upR n d a = d' at g hz ⊢
 have hw : Within d d' a b:=by
  refine⟨hz,λq hq => ?_,λq q1 q2 => ?_⟩
  ·rw[g,if_neg (by omega),if_neg (by omega)]
  ·rw[g]
   split
   ·exact⟨q+1,by omega,by omega,rfl⟩
   ·split
    ·exact⟨a,by omega,by omega,rfl⟩
    ·exact⟨q,by omega,by omega,rfl⟩
 refine⟨hw,λi j q1 q2 q3 => ?_⟩
 rw[g,g]
 by_cases e1 : a<=i /\ i<a+n
 ·rw[if_pos e1]
  by_cases e2 : a<=j /\ j<a+n
  ·rw[if_pos e2];exact h2 _ _ (by omega) (by omega) (by omega)
  ·rw[if_neg e2]
   by_cases e3 : j = a+n
   ·rw[if_pos e3]
    exact .inl (hs1 (i+1) (by omega) (by omega))
   ·rw[if_neg e3];exact h2 _ _ (by omega) (by omega) (by omega)
 ·rw[if_neg e1,if_neg (show ¬ (a<=j /\ j<a+n) by omega)]
  by_cases e3 : i = a+n
  ·rw[if_pos e3,if_neg (by omega)]
   have k1:=av j (by omega) (by omega)
   have k2:=hc a j (by omega) (by omega) (by omega) (by omega)
   unfold TT;omega
  ·rw[if_neg e3,if_neg (by omega)]
   exact h2 _ _ (by omega) (by omega) (by omega)
theorem zQN(d : Array α)(a m b : Nat)(ham : a<m)(hmb : b = m+1)(hb : b<=d.size)(h1 : SrtT lv nm d a m)(hc : CrsN nm d a m b):
 Within d (dnR (m - bsG (λh => !ltV lv d[m]! d[h]!) m a m) d m) a b /\ SrtT lv nm (dnR (m - bsG (λh => !ltV lv d[m]! d[h]!) m a m) d m) a b:=by
 have hi:=zI2 (λh => !ltV lv d[m]! d[h]!) m a m (by omega)
 have hs:=zD1 (λh => !ltV lv d[m]! d[h]!) m a m (by omega) (by omega) (λx y q1 q2 q3 e=>by
  simp only[ltV,Bool.not_eq_true',decide_eq_false_iff_not] at e ⊢
  have:=h1.le (i:=x) (j:=y) q1 (by omega) q3
  omega)
 generalize bsG (λh => !ltV lv d[m]! d[h]!) m a m = s at hi hs ⊢
 obtain⟨hs1,av⟩:=hs
 simp only[ltV,Bool.not_eq_true',Bool.not_eq_false',decide_eq_true_eq,decide_eq_false_iff_not] at hs1 av
 obtain⟨n,hn⟩ : ∃n,n = m - s:=⟨_,rfl⟩
 rw[<- hn]
 have g:=zMf n d m (by omega) (by omega)
 have hz:=zI4 n d m
 generalize dnR n d m = d' at g hz ⊢
 have hw : Within d d' a b:=by
  refine⟨hz,λq hq => ?_,λq q1 q2 => ?_⟩
  ·rw[g,if_neg (by omega),if_neg (by omega)]
  ·rw[g]
   split
   ·exact⟨m,by omega,by omega,rfl⟩
   ·split
    ·exact⟨q - 1,by omega,by omega,rfl⟩
    ·exact⟨q,by omega,by omega,rfl⟩
 refine⟨hw,λi j q1 q2 q3 => ?_⟩
 rw[g,g]
 by_cases e1 : i+n = m
 ·rw[if_pos e1,if_neg (by omega),if_pos (by omega)]
  exact .inl (av (j - 1) (by omega) (by omega))
 ·rw[if_neg e1]
  by_cases e2 : m<i+n /\ i<=m
  ·rw[if_pos e2,if_neg (by omega),if_pos (by omega)]
   exact h1 _ _ (by omega) (by omega) (by omega)
  ·rw[if_neg e2]
   by_cases e3 : j+n = m
   ·rw[if_pos e3]
    have k1:=hs1 i (by omega) (by omega)
    have k2:=hc i m (by omega) (by omega) (by omega) (by omega)
    unfold TT;omega
   ·rw[if_neg e3]
    by_cases e4 : m<j+n /\ j<=m
    ·rw[if_pos e4]
     exact h1 _ _ (by omega) (by omega) (by omega)
    ·rw[if_neg e4]
     exact h1 _ _ (by omega) (by omega) (by omega)
theorem zQO(d : Array α)(a m b : Nat)(ham : a<m)(hmb : m<b)(_ : m - a ≠ 1)(_ : b - m ≠ 1)(h1 : SrtT lv nm d a m)(h2 : SrtT lv nm d m b)(hc : CrsN nm d a m b){s e mid : Nat}
 (hmid : mid = (a+b) / 2) (hs : s = smS (ltV lv) d a m b) (he : e = mid+m - s) : a<=s /\ s<=m /\ s<=mid /\ m<=e /\ e<=b /\ (∀i j,a<=i -> i<s -> e<=j -> j<b -> TT lv nm d[i]! d[j]!) /\ (∀i j,m<=i -> i<e -> s<=j -> j<m -> TT lv nm d[i]! d[j]!):=by
 obtain⟨lo,hi,f,h3,h4,h5,h6,h7,h8,h9,h10⟩ : ∃lo hi f,lo<=hi /\ hi - lo<=f /\ s = bsG (λc => !ltV lv d[mid+m - 1 - c]! d[c]!) f lo hi /\ a<=lo /\ hi<=m /\ hi<=mid /\ (lo+b = mid+m∨(lo = a /\ mid+m<=a+b)) /\ (hi = mid∨hi = m):=by
  unfold smS at hs
  rw[<- hmid] at hs
  by_cases k : mid<m
  ·rw[if_pos k] at hs
   exact⟨mid+m - b,mid,b,by omega,by omega,hs,by omega,by omega,by omega,by omega,by omega⟩
  ·rw[if_neg k] at hs
   exact⟨a,m,b,by omega,by omega,hs,by omega,by omega,by omega,by omega,by omega⟩
 have hin:=zI2 (λc => !ltV lv d[mid+m - 1 - c]! d[c]!) f lo hi h3
 have hsp:=zD1 (λc => !ltV lv d[mid+m - 1 - c]! d[c]!) f lo hi h3 h4 (λx y q1 q2 q3 e=>by
  simp only[ltV,Bool.not_eq_true',decide_eq_false_iff_not] at e ⊢
  have k1:=h1.le (i:=x) (j:=y) (by omega) (by omega) (by omega)
  have k2:=h2.le (i:=mid+m - 1 - y) (j:=mid+m - 1 - x) (by omega) (by omega) (by omega)
  omega)
 rw[<- h5] at hin hsp
 obtain⟨hs1,av⟩:=hsp
 simp only[ltV,Bool.not_eq_true',Bool.not_eq_false',decide_eq_true_eq,decide_eq_false_iff_not] at hs1 av
 refine⟨by omega,by omega,by omega,by omega,by omega,λi j k1 k2 k3 k4 => ?_,λi j k1 k2 k3 k4 => ?_⟩
 ·have e1:=hs1 (s - 1) (by omega) (by omega)
  rw[show mid+m - 1 - (s - 1) = e by omega] at e1
  have e2:=h1.le (i:=i) (j:=s - 1) (by omega) (by omega) (by omega)
  have e3:=h2.le (i:=e) (j:=j) (by omega) (by omega) (by omega)
  have e4:=hc i j (by omega) (by omega) (by omega) (by omega)
  unfold TT;omega
 ·have e1:=av s (by omega) (by omega)
  rw[show mid+m - 1 - s = e - 1 by omega] at e1
  have e2:=h2.le (i:=i) (j:=e - 1) (by omega) (by omega) (by omega)
  have e3:=h1.le (i:=s) (j:=j) (by omega) (by omega) (by omega)
  unfold TT;omega
theorem zK3 : ∀(f : Nat) (d : Array α) (a m b : Nat),a<m -> m<b -> b<=d.size -> b - a<=f -> SrtT lv nm d a m -> SrtT lv nm d m b -> CrsN nm d a m b ->
 Within d (smF (ltV lv) f d a m b) a b /\ SrtT lv nm (smF (ltV lv) f d a m b) a b
 | 0,d,a,m,b,ham,hmb,hb,hf,h1,h2,hc=>by omega
 | f+1,d,a,m,b,ham,hmb,hb,hf,h1,h2,hc=>by
  rw[smF]
  by_cases q1 : m - a = 1
  ·rw[if_pos q1];exact zQM lv nm d a m b (by omega) hmb hb h2 hc
  ·rw[if_neg q1]
   by_cases q2 : b - m = 1
   ·rw[if_pos q2];exact zQN lv nm d a m b ham (by omega) hb h1 hc
   ·rw[if_neg q2]
    obtain⟨mid,hmid⟩ : ∃mid,mid = (a+b) / 2:=⟨_,rfl⟩
    obtain⟨s,hs⟩ : ∃s,s = smS (ltV lv) d a m b:=⟨_,rfl⟩
    obtain⟨e,he⟩ : ∃e,e = mid+m - s:=⟨_,rfl⟩
    obtain⟨p1,p2,p3,p4,p5,hx,hy⟩:=zQO lv nm d a m b ham hmb q1 q2 h1 h2 hc hmid hs he
    simp only[<- hmid,<- hs,<- he]
    have hm1 : a<mid:=by omega
    have hm2 : mid<b:=by omega
    clear hmid hs
    obtain⟨d1,hd1⟩ : ∃d1,d1 = if s<m /\ m<e then rotF (e - s) d m (m - s) (e - m) else d:=⟨_,rfl⟩
    rw[<- hd1]
    have hz1 : d1.size = d.size:=by
     rw[hd1]
     split
     ·exact zEJ _ _ _ _ _
     rfl
    have g : ∀q,d1[q]! = if s<=q /\ q<mid then d[q+(m - s)]! else if mid<=q /\ q<e then d[q - (e - m)]! else d[q]! := λq=>by
     rw[hd1]
     split
     ·rw[zI5 (e - s) d m (m - s) (e - m) (by omega) (by omega) (by omega) (by omega) (by omega) q]
      rw[show m - (m - s) = s by omega,show s+(e - m) = mid by omega,show m+(e - m) = e by omega]
     ·repeat' split
      all_goals first|(exfalso;omega)|rfl|(congr 1;omega)
    clear hd1
    have hw1 : Within d d1 a b:=by
     refine⟨hz1,λq hq=>by rw[g,if_neg (by omega),if_neg (by omega)],λq k1 k2 => ?_⟩
     rw[g]
     split
     ·exact⟨q+(m - s),by omega,by omega,rfl⟩
     ·split
      ·exact⟨q - (e - m),by omega,by omega,rfl⟩
      ·exact⟨q,k1,k2,rfl⟩
    have hL : SrtT lv nm d1 a s:=λi j k1 k2 k3=>by
     rw[g,g,if_neg (by omega),if_neg (by omega),if_neg (by omega),if_neg (by omega)]
     exact h1 _ _ (by omega) k2 (by omega)
    have hLR : SrtT lv nm d1 s mid:=λi j k1 k2 k3=>by
     rw[g,g,if_pos (by omega),if_pos (by omega)]
     exact h2 _ _ (by omega) (by omega) (by omega)
    have hRL : SrtT lv nm d1 mid e:=λi j k1 k2 k3=>by
     rw[g,g,if_neg (by omega),if_pos (by omega),if_neg (by omega),if_pos (by omega)]
     exact h1 _ _ (by omega) (by omega) (by omega)
    have hRR : SrtT lv nm d1 e b:=λi j k1 k2 k3=>by
     rw[g,g,if_neg (by omega),if_neg (by omega),if_neg (by omega),if_neg (by omega)]
     exact h2 _ _ (by omega) k2 (by omega)
    have hcL : CrsN nm d1 a s mid:=λi j k1 k2 k3 k4=>by
     rw[g,g,if_neg (by omega),if_neg (by omega),if_pos (by omega)]
     exact hc _ _ (by omega) (by omega) (by omega) (by omega)
    have hcR : CrsN nm d1 mid e b:=λi j k1 k2 k3 k4=>by
     rw[g,g,if_neg (by omega),if_pos (by omega),if_neg (by omega),if_neg (by omega)]
     exact hc _ _ (by omega) (by omega) (by omega) (by omega)
    have hX : ∀i j,a<=i -> i<mid -> mid<=j -> j<b -> TT lv nm d1[i]! d1[j]! := λi j k1 k2 k3 k4=>by
     rw[g,g]
     by_cases c1 : s<=i /\ i<mid
     ·rw[if_pos c1,if_neg (by omega)]
      by_cases c2 : mid<=j /\ j<e
      ·rw[if_pos c2];exact hy _ _ (by omega) (by omega) (by omega) (by omega)
      ·rw[if_neg c2];exact h2 _ _ (by omega) (by omega) (by omega)
     ·rw[if_neg c1,if_neg (by omega),if_neg (by omega)]
      by_cases c2 : mid<=j /\ j<e
      ·rw[if_pos c2];exact h1 _ _ (by omega) (by omega) (by omega)
      ·rw[if_neg c2];exact hx _ _ (by omega) (by omega) (by omega) (by omega)
    clear g hx hy h1 h2 hc
    obtain⟨d2,hd2⟩ : ∃d2,d2 = if a<s /\ s<mid then smF (ltV lv) f d1 a s mid else d1:=⟨_,rfl⟩
    rw[<- hd2]
    have hw2 : Within d1 d2 a mid /\ SrtT lv nm d2 a mid:=by
     rw[hd2]
     by_cases c : a<s /\ s<mid
     ·rw[if_pos c]
      exact zK3 f d1 a s mid c.1 c.2 (by omega) (by omega) hL hLR hcL
     ·rw[if_neg c]
      refine⟨Within.refl _ _ _,?_⟩
      by_cases c2 : a<s
      ·rw[show mid = s by omega];exact hL
      ·rw[show a = s by omega];exact hLR
    obtain⟨hw2,hS2⟩:=hw2
    clear hd2
    have ht2 : ∀q,mid<=q -> d2[q]! = d1[q]! := λq hq=>hw2.out q (by omega)
    obtain⟨d3,hd3⟩ : ∃d3,d3 = if mid<e /\ e<b then smF (ltV lv) f d2 mid e b else d2:=⟨_,rfl⟩
    rw[<- hd3]
    have hw3 : Within d2 d3 mid b /\ SrtT lv nm d3 mid b:=by
     have hRL' : SrtT lv nm d2 mid e:=λi j k1 k2 k3=>by rw[ht2 _ (by omega),ht2 _ (by omega)];exact hRL i j k1 k2 k3
     have hRR' : SrtT lv nm d2 e b:=λi j k1 k2 k3=>by rw[ht2 _ (by omega),ht2 _ (by omega)];exact hRR i j k1 k2 k3
     rw[hd3]
     by_cases c : mid<e /\ e<b
     ·rw[if_pos c]
      exact zK3 f d2 mid e b c.1 c.2 (by rw[hw2.sz];omega) (by omega) hRL' hRR' λi j k1 k2 k3 k4=>by rw[ht2 _ (by omega),ht2 _ (by omega)];exact hcR i j k1 k2 k3 k4
     ·rw[if_neg c]
      refine⟨Within.refl _ _ _,?_⟩
      by_cases c2 : mid<e
      ·rw[show b = e by omega];exact hRL'
      ·rw[show mid = e by omega];exact hRR'
    obtain⟨hw3,hS3⟩:=hw3
    clear hd3
    refine⟨hw1.trans ((hw2.mono (Nat.le_refl _) (by omega)).trans (hw3.mono (by omega) (Nat.le_refl _))),λi j k1 k2 k3 => ?_⟩
    by_cases c1 : mid<=i
    ·exact hS3 i j c1 k2 k3
    ·by_cases c2 : j<mid
     ·rw[hw3.out i (by omega),hw3.out j (by omega)]
      exact hS2 i j k1 k2 c2
     ·rw[hw3.out i (by omega)]
      obtain⟨j',j1,j2,ej⟩:=hw3.sub j (by omega) k3
      obtain⟨i',i1,i2,ei⟩:=hw2.sub i k1 (by omega)
      rw[ej,ei,ht2 j' j1]
      exact hX i' j' i1 i2 j1 j2
theorem zMg : ∀(j : Nat) (d : Array α) (a : Nat),j<d.size -> a<=j -> SrtT lv nm d a j -> CrsN nm d a j (j+1) -> Within d (insInner (ltV lv) a j d) a (j+1) /\ SrtT lv nm (insInner (ltV lv) a j d) a (j+1)
 | 0,d,a,h,ha,h1,hc=>⟨Within.refl _ _ _,λi j _ _ _=>by omega⟩
 | j+1,d,a,h,ha,h1,hc=>by
  rw[insInner]
  by_cases c : (decide (j+1>a)&&ltV lv d[j+1]! d[j]!) = true
  ·rw[if_pos c]
   simp only[ltV,Bool.and_eq_true,decide_eq_true_eq] at c
   have g:=λq=>Go.Sort.swp_get d (i:=j+1) (j:=j) (by omega) (by omega) q
   have hz:=size_swp d (j+1) j
   generalize swp d (j+1) j = d1 at g hz ⊢
   obtain⟨hw,hS⟩:=zMg j d1 a (by omega) (by omega)
    (λi k k1 k2 k3=>by rw[g,g,if_neg (by omega),if_neg (by omega),if_neg (by omega),if_neg (by omega)];exact h1 i k k1 k2 (by omega))
    (λi k k1 k2 k3 k4=>by rw[g,g,if_neg (by omega),if_neg (by omega),if_pos (by omega)];exact hc i (j+1) k1 (by omega) (by omega) (by omega))
   generalize insInner (ltV lv) a j d1 = d2 at hw hS ⊢
   have hw0 : Within d d1 a (j+1+1):=by
    refine⟨hz,λq hq=>by rw[g,if_neg (by omega),if_neg (by omega)],λq k1 k2 => ?_⟩
    rw[g]
    split
    ·exact⟨j+1,by omega,by omega,rfl⟩
    ·split
     ·exact⟨j,by omega,by omega,rfl⟩
     ·exact⟨q,k1,k2,rfl⟩
   refine⟨hw0.trans (hw.mono (Nat.le_refl _) (by omega)),λi k k1 k2 k3 => ?_⟩
   by_cases e : k<j+1
   ·exact hS i k k1 k2 e
   ·have e : k = j+1:=by omega
    subst e
    rw[hw.out (j+1) (by omega)]
    obtain⟨r,r1,r2,er⟩:=hw.sub i k1 (by omega)
    rw[er,g,g,if_neg (show ¬ j+1 = j by omega),if_pos rfl]
    by_cases e2 : r = j
    ·rw[if_pos e2];exact .inl c.2
    ·rw[if_neg e2,if_neg (by omega)];exact h1 r j r1 (by omega) (by omega)
  ·rw[if_neg c]
   simp only[ltV,Bool.and_eq_true,decide_eq_true_eq] at c
   refine⟨Within.refl _ _ _,λi k k1 k2 k3 => ?_⟩
   by_cases e : k<j+1
   ·exact h1 i k k1 k2 e
   ·have e : k = j+1:=by omega
    subst e
    have e1:=h1.le (i:=i) (j:=j) k1 (by omega) (by omega)
    have e2:=hc i (j+1) k1 (by omega) (by omega) (by omega)
    unfold TT;omega
def Asc(d : Array α)(a i b : Nat): Prop := ∀p q,a<=p -> p<q -> i<=q -> q<b -> nm d[p]! < nm d[q]!
theorem zMh : ∀(k i : Nat) (d : Array α) (a b : Nat),b - i<=k -> a<=i -> i<=b -> b<=d.size -> SrtT lv nm d a i -> Asc nm d a i b -> Within d (insOuter (ltV lv) a b i d) a b /\ SrtT lv nm (insOuter (ltV lv) a b i d) a b
 | 0,i,d,a,b,h,h1,h2,h3,hS,hA=>by
  rw[insOuter,if_neg (by omega)]
  exact⟨Within.refl _ _ _,by rw[show b = i by omega];exact hS⟩
 | k+1,i,d,a,b,h,h1,h2,h3,hS,hA=>by
  rw[insOuter]
  split
  ·rename_i ax
   obtain⟨hw,hS'⟩:=zMg lv nm i d a (by omega) h1 hS λp q q1 q2 q3 q4=>hA p q q1 (by omega) q3 (by omega)
   generalize insInner (ltV lv) a i d = d1 at hw hS' ⊢
   obtain⟨hw2,hS2⟩:=zMh k (i+1) d1 a b (by omega) (by omega) (by omega) (by rw[hw.sz];exact h3) hS' λp q q1 q2 q3 q4=>by
    rw[hw.out q (by omega)]
    by_cases c : p<i+1
    ·obtain⟨r,r1,r2,er⟩:=hw.sub p q1 c
     rw[er]
     exact hA r q r1 (by omega) (by omega) q4
    ·rw[hw.out p (by omega)]
     exact hA p q q1 q2 (by omega) q4
   exact⟨(hw.mono (Nat.le_refl _) (by omega)).trans hw2,hS2⟩
  ·exact⟨Within.refl _ _ _,by rw[show b = i by omega];exact hS⟩
theorem zMH(d : Array α)(a b : Nat)(hab : a<=b)(hb : b<=d.size)(hA : Asc nm d a a b): Within d (Sort.insertionSort (ltV lv) d a b) a b /\ SrtT lv nm (Sort.insertionSort (ltV lv) d a b) a b:=by
 unfold Sort.insertionSort
 by_cases h : a+1<=b
 ·exact zMh lv nm _ (a+1) d a b (Nat.le_refl _) (by omega) h hb (λi j _ _ _=>by omega) λp q q1 q2 q3 q4=>hA p q q1 q2 (by omega) q4
 ·rw[insOuter,if_neg (by omega)]
  exact⟨Within.refl _ _ _,λi j _ _ _=>by omega⟩
def Bk(d : Array α)(bs a n : Nat): Prop := ∀t,(∀i j,a+t*bs<=i -> i<j -> j<a+t*bs+bs -> j<n -> TT lv nm d[i]! d[j]!) /\ (∀i j,a<=i -> i<a+t*bs -> a+t*bs<=j -> j<n -> nm d[i]! < nm d[j]!)
theorem Bk.cons{d : Array α}{bs a n : Nat}(h1 : ∀i j,a<=i -> i<j -> j<a+bs -> j<n -> TT lv nm d[i]! d[j]!)(h2 : ∀i j,a<=i -> i<a+bs -> a+bs<=j -> j<n -> nm d[i]! < nm d[j]!)(h : Bk lv nm d bs (a+bs) n): Bk lv nm d bs a n:=λt=>by
 cases t with
 | zero=>
  rw[Nat.zero_mul,Nat.add_zero]
  exact⟨h1,λi j k1 k2 k3 k4=>by omega⟩
 | succ t=>
  obtain⟨g1,g2⟩:=h t
  have e : a+(t+1)*bs = a+bs+t*bs:=by rw[Nat.succ_mul];omega
  rw[e]
  refine⟨g1,λi j k1 k2 k3 k4 => ?_⟩
  by_cases c : i<a+bs
  ·exact h2 i j k1 c (by omega) k4
  ·exact g2 i j (by omega) k2 k3 k4
theorem Bk.last{d : Array α}{bs a n : Nat}(h1 : ∀i j,a<=i -> i<j -> j<n -> TT lv nm d[i]! d[j]!)(h : n<=a+bs): Bk lv nm d bs a n:=λt=>by
 refine⟨λi j k1 k2 k3 k4=>h1 i j (by omega) k2 k4,λi j k1 k2 k3 k4 => ?_⟩
 cases t with
 | zero=>omega
 | succ t=>rw[Nat.succ_mul] at k3;omega
theorem zON : ∀(f : Nat) (d : Array α) (n a : Nat),n - a<=f -> a<=n -> n<=d.size -> Asc nm d a a n -> Within d (stI (ltV lv) f d n a) a n /\ Bk lv nm (stI (ltV lv) f d n a) 20 a n
 | 0,d,n,a,hf,ha,hn,hA=>by
  rw[stI]
  obtain⟨hw,hS⟩:=zMH lv nm d a n ha hn hA
  exact⟨hw,Bk.last lv nm (λi j k1 k2 k3=>hS i j k1 k2 k3) (by omega)⟩
 | f+1,d,n,a,hf,ha,hn,hA=>by
  rw[stI]
  split
  ·rename_i ax
   obtain⟨hw,hS⟩:=zMH lv nm d a (a+20) (by omega) (by omega) λp q q1 q2 q3 q4=>hA p q q1 q2 q3 (by omega)
   generalize Sort.insertionSort (ltV lv) d a (a+20) = d1 at hw hS ⊢
   obtain⟨hw2,hB⟩:=zON f d1 n (a+20) (by omega) (by omega) (by rw[hw.sz];exact hn) λp q q1 q2 q3 q4=>by
    rw[hw.out p (by omega),hw.out q (by omega)]
    exact hA p q (by omega) q2 (by omega) q4
   refine⟨(hw.mono (Nat.le_refl _) (by omega)).trans (hw2.mono (by omega) (Nat.le_refl _)),Bk.cons lv nm (λi j k1 k2 k3 k4 => ?_) (λi j k1 k2 k3 k4 => ?_) hB⟩
   ·rw[hw2.out i (by omega),hw2.out j (by omega)]
    exact hS i j k1 k2 k3
   ·rw[hw2.out i (by omega)]
    obtain⟨j',j1,j2,ej⟩:=hw2.sub j k3 k4
    obtain⟨i',i1,i2,ei⟩:=hw.sub i k1 k2
    rw[ej,ei,hw.out j' (by omega)]
    exact hA i' j' i1 (by omega) (by omega) j2
  ·obtain⟨hw,hS⟩:=zMH lv nm d a n ha hn hA
   exact⟨hw,Bk.last lv nm (λi j k1 k2 k3=>hS i j k1 k2 k3) (by omega)⟩
theorem zOO : ∀(f : Nat) (d : Array α) (n bs a : Nat),0<bs -> n - a<=f -> a<=n -> n<=d.size -> Bk lv nm d bs a n -> Within d (stM (ltV lv) f d n bs a) a n /\ Bk lv nm (stM (ltV lv) f d n bs a) (2*bs) a n
 | 0,d,n,bs,a,hb,hf,ha,hn,hB=>by
  rw[stM]
  exact⟨Within.refl _ _ _,Bk.last lv nm (λi j k1 k2 k3=>by omega) (by omega)⟩
 | f+1,d,n,bs,a,hb,hf,ha,hn,hB=>by
  have b0:=hB 0
  have b1:=hB 1
  have b2:=hB 2
  rw[Nat.zero_mul,Nat.add_zero] at b0
  rw[Nat.one_mul] at b1
  rw[stM]
  split
  ·rename_i ax
   obtain⟨hw,hS⟩:=zK3 lv nm n d a (a+bs) (a+2*bs) (by omega) (by omega) (by omega) (by omega) (λi j k1 k2 k3=>b0.1 i j k1 k2 k3 (by omega)) (λi j k1 k2 k3=>b1.1 i j k1 k2 (by omega) (by omega)) (λi j k1 k2 k3 k4=>b1.2 i j k1 k2 k3 (by omega))
   generalize smF (ltV lv) n d a (a+bs) (a+2*bs) = d1 at hw hS ⊢
   obtain⟨hw2,hB2⟩:=zOO f d1 n bs (a+2*bs) hb (by omega) ax (by rw[hw.sz];exact hn) λt=>by
    obtain⟨g1,g2⟩:=hB (t+2)
    have e : a+(t+2)*bs = a+2*bs+t*bs:=by rw[Nat.add_mul];omega
    rw[e] at g1 g2
    refine⟨λi j k1 k2 k3 k4 => ?_,λi j k1 k2 k3 k4 => ?_⟩
    ·have : 0<=t*bs:=Nat.zero_le _
     rw[hw.out i (by omega),hw.out j (by omega)]
     exact g1 i j k1 k2 k3 k4
    ·rw[hw.out i (by omega),hw.out j (by omega)]
     exact g2 i j (by omega) k2 k3 k4
   refine⟨(hw.mono (Nat.le_refl _) (by omega)).trans (hw2.mono (by omega) (Nat.le_refl _)),Bk.cons lv nm (λi j k1 k2 k3 k4 => ?_) (λi j k1 k2 k3 k4 => ?_) hB2⟩
   ·rw[hw2.out i (by omega),hw2.out j (by omega)]
    exact hS i j k1 k2 k3
   ·rw[hw2.out i (by omega)]
    obtain⟨j',j1,j2,ej⟩:=hw2.sub j k3 k4
    obtain⟨i',i1,i2,ei⟩:=hw.sub i k1 k2
    rw[ej,ei,hw.out j' (by omega)]
    exact b2.2 i' j' i1 i2 j1 j2
  ·split
   ·rename_i ax
    obtain⟨hw,hS⟩:=zK3 lv nm n d a (a+bs) n (by omega) (by omega) (by omega) (by omega) (λi j k1 k2 k3=>b0.1 i j k1 k2 k3 (by omega)) (λi j k1 k2 k3=>b1.1 i j k1 k2 (by omega) (by omega)) (λi j k1 k2 k3 k4=>b1.2 i j k1 k2 k3 (by omega))
    exact⟨hw,Bk.last lv nm (λi j k1 k2 k3=>hS i j k1 k2 k3) (by omega)⟩
   ·exact⟨Within.refl _ _ _,Bk.last lv nm (λi j k1 k2 k3=>b0.1 i j k1 k2 (by omega) k3) (by omega)⟩
theorem zOP : ∀(f : Nat) (d : Array α) (n bs : Nat),0<bs -> n - bs<=f -> n<=d.size -> Bk lv nm d bs 0 n -> Within d (stO (ltV lv) f d n bs) 0 n /\ SrtT lv nm (stO (ltV lv) f d n bs) 0 n
 | 0,d,n,bs,hb,hf,hn,hB=>by
  rw[stO]
  have b0:=(hB 0).1
  rw[Nat.zero_mul,Nat.add_zero] at b0
  exact⟨Within.refl _ _ _,λi j k1 k2 k3=>b0 i j k1 k2 (by omega) k3⟩
 | f+1,d,n,bs,hb,hf,hn,hB=>by
  rw[stO]
  split
  ·obtain⟨hw,hB2⟩:=zOO lv nm n d n bs 0 hb (by omega) (by omega) hn hB
   generalize stM (ltV lv) n d n bs 0 = d1 at hw hB2 ⊢
   obtain⟨hw2,hS⟩:=zOP f d1 n (2*bs) (by omega) (by omega) (by rw[hw.sz];exact hn) hB2
   exact⟨hw.trans hw2,hS⟩
  ·have b0:=(hB 0).1
   rw[Nat.zero_mul,Nat.add_zero] at b0
   exact⟨Within.refl _ _ _,λi j k1 k2 k3=>b0 i j k1 k2 (by omega) k3⟩
theorem zQP(d : Array α)(hA : Asc nm d 0 0 d.size): Within d (stA (ltV lv) d d.size) 0 d.size /\ SrtT lv nm (stA (ltV lv) d d.size) 0 d.size:=by
 unfold stA
 obtain⟨hw,hB⟩:=zON lv nm d.size d d.size 0 (by omega) (by omega) (Nat.le_refl _) hA
 generalize stI (ltV lv) d.size d d.size 0 = d1 at hw hB ⊢
 obtain⟨hw2,hS⟩:=zOP lv nm d.size d1 d.size 20 (by omega) (by omega) (by rw[hw.sz];exact Nat.le_refl _) hB
 exact⟨hw.trans hw2,hS⟩
end Go.Proofs
namespace Go.Proofs
open Go.Shelf Go.RowKit Go.Lib Go.Sort
variable {α : Type} [Inhabited α]
theorem stF : Tryz.prog.follows .mixedOrders = true /\ Tryz.prog.underlying 0 = some (.tuple #[]) /\ (∀w,(isAgg 0).run Tryz.prog w = .ok false w) /\ (∀w,(sizeOf 0).run Tryz.prog w = .ok 1 w) /\ (∀w,(zeroValue 0).run Tryz.prog w = .ok (.tuple #[]) w) /\ Tryz.prog.underlying 3 = some (.int .i64) /\ (∀w,(isAgg 3).run Tryz.prog w = .ok false w) /\ (∀w,(sizeOf 3).run Tryz.prog w = .ok 1 w) /\ (∀w,(zeroValue 3).run Tryz.prog w = .ok (.int .i64 0) w) /\ Tryz.prog.underlying 4 = some (.bool) /\ (∀w,(isAgg 4).run Tryz.prog w = .ok false w) /\ (∀w,(sizeOf 4).run Tryz.prog w = .ok 1 w) /\ (∀w,(zeroValue 4).run Tryz.prog w = .ok (.bool false) w) /\ Tryz.prog.underlying 28 = some (.slice 3) /\ (∀w,(isAgg 28).run Tryz.prog w = .ok false w) /\ (∀w,(sizeOf 28).run Tryz.prog w = .ok 1 w) /\ (∀w,(zeroValue 28).run Tryz.prog w = .ok (.slice none 0 0) w) /\ Tryz.prog.underlying 40 = some (.func #[3,3] #[3] false) /\ (∀w,(isAgg 40).run Tryz.prog w = .ok false w) /\ (∀w,(sizeOf 40).run Tryz.prog w = .ok 1 w) /\ (∀w,(zeroValue 40).run Tryz.prog w = .ok (.nilFunc) w) /\ Tryz.prog.underlying 159 = some (.int .u64) /\ (∀w,(isAgg 159).run Tryz.prog w = .ok false w) /\ (∀w,(sizeOf 159).run Tryz.prog w = .ok 1 w) /\ (∀w,(zeroValue 159).run Tryz.prog w = .ok (.int .u64 0) w) /\ (∀w,(underlying 28).run Tryz.prog w = .ok (.slice 3) w) /\ (∀w,(underlying 3).run Tryz.prog w = .ok (.int .i64) w) /\ (∀w,(underlying 159).run Tryz.prog w = .ok (.int .u64) w):=
 ⟨by kernel_rfl,Tryz.underlying0,Tryz.isAgg0,Tryz.sizeOf0,Tryz.zeroValue0,Tryz.underlying3,Tryz.isAgg3,Tryz.sizeOf3,Tryz.zeroValue3,Tryz.underlying4,Tryz.isAgg4,Tryz.sizeOf4,Tryz.zeroValue4,Tryz.underlying28,Tryz.isAgg28,Tryz.sizeOf28,Tryz.zeroValue28,Tryz.underlying40,Tryz.isAgg40,Tryz.sizeOf40,Tryz.zeroValue40,Tryz.underlying159,Tryz.isAgg159,Tryz.sizeOf159,Tryz.zeroValue159,Go.run_underlying Tryz.underlying28,Go.run_underlying Tryz.underlying3,Go.run_underlying Tryz.underlying159⟩
set_option maxHeartbeats 4000000 in
set_option maxRecDepth 1000000 in
theorem zCb(enc : α -> Value)(g : Nat)(cb : Array Value)(blk off cap N a b n : Nat)(d0 d : Array α)(w0 w : World)
 (R : Row1 enc w0 blk off d0) (hs : d0.size = N) (hN : d.size = N) (S : SW enc w0 blk off d w) (ha : a+n<=N) (hb : b+n<=N) (bN : N<4611686018427387904) :
 Calls Tryz.prog 152 #[.slice (some ⟨blk,off,none⟩) N cap,.int .i64 a,.int .i64 b,.int .i64 n,.func (.func g) #[] cb] w λe w' => e = .returned (.tuple #[]) /\ SW enc w0 blk off (swR d a b 0 n) w' := by
 subst hN
 obtain⟨mixed,t0,a0,z0,v0,t3,a3,z3,v3,t4,a4,z4,v4,t28,a28,z28,v28,t40,a40,z40,v40,t159,a159,z159,v159,u28,u3,u159⟩:=stF
 have hcl0:=R.hO.cells
 simp only[Value.cells] at hcl0
 have hst:=R.hO.store Tryz.prog
 have S0 : Aside (SW enc w0 blk off d w):=S
 clear S
 go_enter Tryz.func152,Tryz.ntmps152
 go_wp2
 go_loopg [10] n (λkx s10 wr => ∃(i : Nat) (dk : Array α),s10 = .int .i64 i /\ i<=n /\ n - i<=kx /\ dk.size = d.size /\ Aside (SW enc w0 blk off dk wr) /\ swR dk a b i (n - i) = swR d a b 0 n)
 case atStart=>exact⟨0,d,rfl,by omega,by omega,rfl,S0,rfl⟩
 case round=>
  clear S0
  obtain⟨i,dk,rfl,hin,hkx,hds,S1,heq⟩:=hrel
  by_cases ax : i<n
  ·have hltz : (i : Int)<(n : Int):=by omega
   go_wp2_with fail
   obtain⟨iN,hiN⟩ : ∃q,q = a+i:=⟨_,rfl⟩
   obtain⟨jN,hjN⟩ : ∃q,q = b+i:=⟨_,rfl⟩
   have ea : ((a : Int)+(i : Int)).toNat = iN:=by omega
   have pa : (0 : Int)<=(a : Int)+(i : Int):=by omega
   have ba : (a : Int)+(i : Int)<(d.size : Int):=by omega
   have ra : IntKind.i64.wrap ((a : Int)+(i : Int)) = (a : Int)+(i : Int):=by rw[IntKind.wrap_i64];omega
   have ec : ((b : Int)+(i : Int)).toNat = jN:=by omega
   have pc : (0 : Int)<=(b : Int)+(i : Int):=by omega
   have bc : (b : Int)+(i : Int)<(d.size : Int):=by omega
   have rc : IntKind.i64.wrap ((b : Int)+(i : Int)) = (b : Int)+(i : Int):=by rw[IntKind.wrap_i64];omega
   obtain⟨x1,hx1⟩ : ∃x,x = dk[a+i]! := ⟨_,rfl⟩
   obtain⟨y1,ay⟩ : ∃x,x = dk[b+i]! := ⟨_,rfl⟩
   have S2 : Aside (SW enc w0 blk off (swp dk (a+i) (b+i)) ((wr.setCell ⟨blk,off+iN,none⟩ (enc y1)).setCell ⟨blk,off+jN,none⟩ (enc x1)).drew):=by rw[hiN,hjN,hx1,ay];exact S1.out.swapped R (a+i) (b+i) (by omega) (by omega)
   have c1a:=S1.out.c1 R (by omega) (a+i) (by omega)
   have c1b:=S1.out.c1 R (by omega) (b+i) (by omega)
   have f1a:=S1.out.f1 R (by omega) (a+i) (by omega)
   have f1b:=S1.out.f1 R (by omega) (b+i) (by omega)
   obtain⟨u1,c1c⟩:=S1.out.c2 R (by omega) (a+i) (b+i) (by omega) (by omega) (enc y1)
   rw[<- hjN,<- hiN] at c1c
   rw[<- hx1,<- hiN] at c1a
   rw[<- ay,<- hjN] at c1b
   rw[<- hiN] at f1a
   rw[<- hjN] at f1b
   clear S1 hx1 ay hiN hjN
   go_wp2_with fail
   go_big_region_o
   clear c1a c1b c1c f1a f1b
   generalize ((wr.setCell ⟨blk,off+iN,none⟩ (enc y1)).setCell ⟨blk,off+jN,none⟩ (enc x1)).drew = w2 at S2 ⊢
   clear ea ec
   go_wp2
   go_roundg (n - (i+1))
   case measure=>omega
   case rel=>
    rw[show n - i = (n - (i+1))+1 by omega,swR] at heq
    exact⟨i+1,swp dk (a+i) (b+i),by first|rfl|go_num,by omega,Nat.le_refl _,by rw[size_swp];exact hds,S2,heq⟩
  ·have hltz : ¬ (i : Int)<(n : Int):=by omega
   go_wp2
   go_end0
   refine⟨rfl,?_⟩
   rw[show n - i = 0 by omega,swR] at heq
   rw[<- heq]
   exact S1.out
end Go.Proofs
namespace Go.Proofs
open Go.Shelf Go.RowKit Go.Lib Go.Sort
variable {α : Type} [Inhabited α]
set_option maxHeartbeats 1000000 in
set_option maxRecDepth 1000000 in
theorem zNP(enc : α -> Value)(g : Nat)(cb : Array Value)(blk off cap N a m b : Nat)(d0 d : Array α)(w0 w : World)
 (R : Row1 enc w0 blk off d0) (hs : d0.size = N) (hN : d.size = N) (S : SW enc w0 blk off d w) (ham : a<m) (hmb : m<b) (hb : b<=N) (bN : N<4611686018427387904) :
 Calls Tryz.prog 116 #[.slice (some ⟨blk,off,none⟩) N cap,.int .i64 a,.int .i64 m,.int .i64 b,.func (.func g) #[] cb] w λe w' => e = .returned (.tuple #[]) /\ SW enc w0 blk off (rotF (b - a) d m (m - a) (b - m)) w' := by
 obtain⟨mixed,t0,a0,z0,v0,t3,a3,z3,v3,t4,a4,z4,v4,t28,a28,z28,v28,t40,a40,z40,v40,t159,a159,z159,v159,u28,u3,u159⟩:=stF
 have e152 : ∀args w,(callFunc 152 args).run Tryz.prog w = .ok (.enter 152 args) w:=enters_of Tryz.func152 (by kernel_rfl) rfl
 have S0 : Aside (SW enc w0 blk off d w):=S
 clear S
 have z1 : IntKind.i64.wrap ((m : Int) - (a : Int)) = ((m - a : Nat) : Int):=by rw[IntKind.wrap_i64];omega
 have z2 : IntKind.i64.wrap ((b : Int) - (m : Int)) = ((b - m : Nat) : Int):=by rw[IntKind.wrap_i64];omega
 go_enter Tryz.func116,Tryz.ntmps116
 go_wp2
 go_loopg [10,11] (b - a) (λkx s10 s11 wr => ∃(i j f : Nat) (dk : Array α),s10 = .int .i64 i /\ s11 = .int .i64 j /\ 0<i /\ 0<j /\ i<=m /\ m+j<=N /\ i+j<=kx /\ i+j<=f /\ dk.size = N /\ Aside (SW enc w0 blk off dk wr) /\ rotF f dk m i j = rotF (b - a) d m (m - a) (b - m))
 case atStart=>exact⟨m - a,b - m,b - a,d,by first|rfl|go_num,by first|rfl|go_num,by omega,by omega,by omega,by omega,by omega,by omega,hN,S0,rfl⟩
 case round=>
  clear S0 z1 z2
  obtain⟨i,j,f,dk,rfl,rfl,hi0,hj0,ca,hjn,hkx,hf,hds,S1,heq⟩:=hrel
  obtain⟨f,rfl⟩ : ∃q,f = q+1:=⟨f - 1,by omega⟩
  have r1 : IntKind.i64.wrap ((m : Int) - (i : Int)) = ((m - i : Nat) : Int):=by rw[IntKind.wrap_i64];omega
  by_cases hij : i = j
  ·subst hij
   have hc:=zCb enc g cb blk off cap N (m - i) m i d0 dk w0 wr R hs hds S1.out (by omega) (by omega) bN
   go_wp2_with (go_at_call 152;refine hc.mono ?_;rintro e w1 ⟨rfl,S2⟩)
   go_end0
   refine⟨rfl,?_⟩
   rw[rotF,if_pos rfl] at heq
   rw[<- heq]
   exact S2
  ·have hijz : ¬ (i : Int) = (j : Int):=by omega
   rw[rotF,if_neg hij] at heq
   by_cases ax : j<i
   ·rw[if_pos ax] at heq
    have hltz : (j : Int)<(i : Int):=by omega
    have r2 : IntKind.i64.wrap ((i : Int) - (j : Int)) = ((i - j : Nat) : Int):=by rw[IntKind.wrap_i64];omega
    have hc:=zCb enc g cb blk off cap N (m - i) m j d0 dk w0 wr R hs hds S1.out (by omega) (by omega) bN
    go_wp2_with (go_at_call 152;refine hc.mono ?_;rintro e w1 ⟨rfl,S2⟩)
    go_roundg (i - j+j)
    case measure=>omega
    case rel=>exact⟨i - j,j,f,_,by first|rfl|go_num,rfl,by omega,hj0,by omega,hjn,by omega,by omega,by rw[zBR];exact hds,S2,heq⟩
   ·rw[if_neg ax] at heq
    have hltz : ¬ (j : Int)<(i : Int):=by omega
    have r2 : IntKind.i64.wrap ((j : Int) - (i : Int)) = ((j - i : Nat) : Int):=by rw[IntKind.wrap_i64];omega
    have hc:=zCb enc g cb blk off cap N (m - i) (m+j - i) i d0 dk w0 wr R hs hds S1.out (by omega) (by omega) bN
    rw[show ((m+j - i : Nat) : Int) = (m : Int)+(j : Int) - (i : Int) by omega] at hc
    go_wp2_with (go_at_call 152;refine hc.mono ?_;rintro e w1 ⟨rfl,S2⟩)
    go_roundg (i+(j - i))
    case measure=>omega
    case rel=>exact⟨i,j - i,f,_,rfl,by first|rfl|go_num,hi0,by omega,ca,by omega,by omega,by omega,by rw[zBR];exact hds,S2,heq⟩
end Go.Proofs
namespace Go.Proofs
open Go.Shelf Go.RowKit Go.Lib Go.Sort
variable {α : Type} [Inhabited α]
set_option maxHeartbeats 4000000 in
set_option maxRecDepth 1000000 in
theorem zQQ(enc : α -> Value)(g : Nat)(cb : Array Value)(cf : α -> α -> Int)(blk off cap N a m b : Nat)(d0 d : Array α)(w0 w : World)
 (eg : ∀args w,(callFunc g args).run Tryz.prog w = .ok (.enter g args) w) (hcmp : CmpLays1 Tryz.prog g cb enc cf blk off d0.size w0)
 (R : Row1 enc w0 blk off d0) (hs : d0.size = N) (hN : d.size = N) (S : SW enc w0 blk off d w) (ham : a<m) (hmb : m<b) (hb : b<=N) (bN : N<2305843009213693952) (h1 : m - a = 1) :
 Calls Tryz.prog 79 #[.slice (some ⟨blk,off,none⟩) N cap,.int .i64 a,.int .i64 m,.int .i64 b,.func (.func g) #[] cb] w λe w' => e = .returned (.tuple #[]) /\ SW enc w0 blk off (upR (bsG (λh=>ltOf cf d[h]! d[a]!) b m b - 1 - a) d a) w' := by
 obtain⟨mixed,t0,a0,z0,v0,t3,a3,z3,v3,t4,a4,z4,v4,t28,a28,z28,v28,t40,a40,z40,v40,t159,a159,z159,v159,u28,u3,u159⟩:=stF
 have hcl0:=R.hO.cells
 simp only[Value.cells] at hcl0
 have hst:=R.hO.store Tryz.prog
 have HC : Aside _:=hcmp
 have S0 : Aside (SW enc w0 blk off d w):=S
 clear S hcmp
 have hz : (m : Int) - (a : Int) = 1:=by omega
 go_enter Tryz.func79,Tryz.ntmps79
 go_wp2
 go_loopg [10,11] N (λkx si sj wr => ∃(i j f : Nat),si = .int .i64 i /\ sj = .int .i64 j /\ m<=i /\ i<=j /\ j<=b /\ j - i<=kx /\ j - i<=f /\ Aside (SW enc w0 blk off d wr) /\ Hid (bsG (λh=>ltOf cf d[h]! d[a]!) f i j = bsG (λh=>ltOf cf d[h]! d[a]!) b (m) (b)))
 case atStart=>exact⟨m,b,b,by first|rfl|go_num,by first|rfl|go_num,by omega,by omega,by omega,by omega,by omega,S0,rfl⟩
 case round=>
  clear S0
  obtain⟨i,j,f,rfl,rfl,hlo,hij,hhi,hkx,hf,S1,HB⟩:=hrel
  by_cases ax : i<j
  ·obtain⟨f,rfl⟩ : ∃q,f = q+1:=⟨f - 1,by omega⟩
   have hltz : (i : Int)<(j : Int):=by omega
   obtain⟨iN1,hiN1⟩ : ∃q,q = (i+j) / 2:=⟨_,rfl⟩
   obtain⟨jN1,hjN1⟩ : ∃q,q = a:=⟨_,rfl⟩
   have ea1 : (((i : Int)+(j : Int)) / 2).toNat = iN1:=by omega
   have pa1 : (0 : Int)<=((i : Int)+(j : Int)) / 2:=by omega
   have ba1 : ((i : Int)+(j : Int)) / 2<(N : Int):=by omega
   have ra1 : IntKind.i64.wrap (((i : Int)+(j : Int)) / 2) = ((i : Int)+(j : Int)) / 2:=by rw[IntKind.wrap_i64];omega
   have ec1 : ((a : Int)).toNat = jN1:=by omega
   have pc1 : (0 : Int)<=(a : Int):=by omega
   have bc1 : (a : Int)<(N : Int):=by omega
   have rc1 : IntKind.i64.wrap ((a : Int)) = (a : Int):=by rw[IntKind.wrap_i64];omega
   obtain⟨x1,hx1⟩ : ∃x,x = d[(i+j) / 2]! := ⟨_,rfl⟩
   obtain⟨y1,ay⟩ : ∃x,x = d[a]! := ⟨_,rfl⟩
   have l1a:=S1.out.cl R (by omega) ((i+j) / 2) (by omega)
   have l1b:=S1.out.cl R (by omega) (a) (by omega)
   rw[<- hx1,<- hiN1] at l1a
   rw[<- ay,<- hjN1] at l1b
   have aE:=S1.out.cmp HC.out (by omega) x1 y1
   have hd1 : decide (cf x1 y1<0) = ltOf cf d[(i+j) / 2]! d[a]! := by rw[hx1,ay];rfl
   clear hx1 ay hiN1 hjN1
   go_wp2_with fail
   go_quiet_grown (first|(go_at_fn g;refine Calls.grown_of (aE _ _)))
   have S2 : Aside (SW enc w0 blk off d (grow (wr.drewN nq) osq)):=S1.out.grown nq osq
   clear l1a l1b aE S1
   generalize grow (wr.drewN nq) osq = w2 at S2 ⊢
   clear nq osq
   clear ea1 ec1
   try simp only[hd1]
   clear hd1
   cases hlv : ltOf cf d[(i+j) / 2]! d[a]! with
   | true=>
    go_wp2
    go_roundg (j - ((i+j) / 2+1))
    case measure=>omega
    case rel=>exact⟨(i+j) / 2+1,j,f,by first|rfl|go_num|(congr 1;omega),rfl,by omega,by omega,by omega,Nat.le_refl _,by omega,S2,(show Hid _ from by rw[<- HB.out,bsG,if_pos ax];simp only[hlv];exact rfl)⟩
   | false=>
    go_wp2
    go_roundg ((i+j) / 2 - i)
    case measure=>omega
    case rel=>exact⟨i,(i+j) / 2,f,rfl,by first|rfl|go_num|(congr 1;omega),by omega,by omega,by omega,Nat.le_refl _,by omega,S2,(show Hid _ from by rw[<- HB.out,bsG,if_pos ax];simp only[hlv];exact rfl)⟩
  ·obtain rfl : j = i:=by omega
   have hltz : ¬ (j : Int)<(j : Int):=by omega
   have hend : bsG (λh=>ltOf cf d[h]! d[a]!) b (m) (b) = j:=by
    rw[<- HB.out];cases f with
    | zero=>rfl
    | succ f=>rw[bsG,if_neg ax]
   clear HB
   go_wp2
   go_loopg [13] N (λkx sk wr => ∃(k : Nat) (dk : Array α),sk = .int .i64 k /\ a<=k /\ k<=j - 1 /\ j - 1 - k<=kx /\ dk.size = N /\ Aside (SW enc w0 blk off dk wr) /\ Hid (upR (j - 1 - k) dk k = upR (j - 1 - a) d a))
   case atStart=>exact⟨a,d,rfl,by omega,by omega,by omega,hN,S1,rfl⟩
   case round=>
    clear S1
    obtain⟨k,dk,rfl,hak,hkj,hkx2,hds,S2,HU⟩:=hrel
    by_cases hk : k<j - 1
    ·have hkz : (k : Int)<(j : Int) - 1:=by omega
     obtain⟨iN3,hiN3⟩ : ∃q,q = k:=⟨_,rfl⟩
     obtain⟨jN3,hjN3⟩ : ∃q,q = k+1:=⟨_,rfl⟩
     have ea3 : ((k : Int)).toNat = iN3:=by omega
     have pa3 : (0 : Int)<=(k : Int):=by omega
     have ba3 : (k : Int)<(N : Int):=by omega
     have ra3 : IntKind.i64.wrap ((k : Int)) = (k : Int):=by rw[IntKind.wrap_i64];omega
     have ec3 : ((k : Int)+1).toNat = jN3:=by omega
     have pc3 : (0 : Int)<=(k : Int)+1:=by omega
     have bc3 : (k : Int)+1<(N : Int):=by omega
     have rc3 : IntKind.i64.wrap ((k : Int)+1) = (k : Int)+1:=by rw[IntKind.wrap_i64];omega
     obtain⟨x3,hx3⟩ : ∃x,x = dk[k]! := ⟨_,rfl⟩
     obtain⟨y3,aX⟩ : ∃x,x = dk[k+1]! := ⟨_,rfl⟩
     have S3 : Aside (SW enc w0 blk off (swp dk (k) (k+1)) ((wr.setCell ⟨blk,off+iN3,none⟩ (enc y3)).setCell ⟨blk,off+jN3,none⟩ (enc x3)).drew):=by rw[hiN3,hjN3,hx3,aX];exact S2.out.swapped R (k) (k+1) (by omega) (by omega)
     have c3a:=S2.out.c1 R (by omega) (k) (by omega)
     have c3b:=S2.out.c1 R (by omega) (k+1) (by omega)
     have f3a:=S2.out.f1 R (by omega) (k) (by omega)
     have f3b:=S2.out.f1 R (by omega) (k+1) (by omega)
     obtain⟨u3,c3c⟩:=S2.out.c2 R (by omega) (k) (k+1) (by omega) (by omega) (enc y3)
     rw[<- hjN3,<- hiN3] at c3c
     rw[<- hx3,<- hiN3] at c3a
     rw[<- aX,<- hjN3] at c3b
     rw[<- hiN3] at f3a
     rw[<- hjN3] at f3b
     clear S2 hx3 aX hiN3 hjN3
     go_wp2_with fail
     go_big_region_o
     clear c3a c3b c3c f3a f3b
     generalize ((wr.setCell ⟨blk,off+iN3,none⟩ (enc y3)).setCell ⟨blk,off+jN3,none⟩ (enc x3)).drew = w3 at S3 ⊢
     clear ea3 ec3
     go_wp2
     go_roundg (j - 1 - (k+1))
     case measure=>omega
     case rel=>exact⟨k+1,swp dk k (k+1),by first|rfl|go_num,by omega,by omega,Nat.le_refl _,by rw[size_swp];exact hds,S3,(show Hid _ from by rw[<- HU.out,show j - 1 - k = (j - 1 - (k+1))+1 by omega,upR];exact rfl)⟩
    ·have hkz : ¬ (k : Int)<(j : Int) - 1:=by omega
     go_wp2
     ((try simp only[Exit.inBlock,Exit.then]);refine bodyPost_ret (results_none rfl _ _ _) rfl ?_)
     refine⟨rfl,?_⟩
     have e1:=HU.out
     rw[show j - 1 - k = 0 by omega,upR] at e1
     first|rw[hend,<- e1]|rw[<- e1]
     exact S2.out
end Go.Proofs
namespace Go.Proofs
open Go.Shelf Go.RowKit Go.Lib Go.Sort
variable {α : Type} [Inhabited α]
set_option maxHeartbeats 4000000 in
set_option maxRecDepth 1000000 in
theorem zQR(enc : α -> Value)(g : Nat)(cb : Array Value)(cf : α -> α -> Int)(blk off cap N a m b : Nat)(d0 d : Array α)(w0 w : World)
 (eg : ∀args w,(callFunc g args).run Tryz.prog w = .ok (.enter g args) w) (hcmp : CmpLays1 Tryz.prog g cb enc cf blk off d0.size w0)
 (R : Row1 enc w0 blk off d0) (hs : d0.size = N) (hN : d.size = N) (S : SW enc w0 blk off d w) (ham : a<m) (hmb : m<b) (hb : b<=N) (bN : N<2305843009213693952) (h1 : m - a ≠ 1) (h2 : b - m = 1) :
 Calls Tryz.prog 79 #[.slice (some ⟨blk,off,none⟩) N cap,.int .i64 a,.int .i64 m,.int .i64 b,.func (.func g) #[] cb] w λe w' => e = .returned (.tuple #[]) /\ SW enc w0 blk off (dnR (m - bsG (λh => !ltOf cf d[m]! d[h]!) m a m) d m) w' := by
 obtain⟨mixed,t0,a0,z0,v0,t3,a3,z3,v3,t4,a4,z4,v4,t28,a28,z28,v28,t40,a40,z40,v40,t159,a159,z159,v159,u28,u3,u159⟩:=stF
 have hcl0:=R.hO.cells
 simp only[Value.cells] at hcl0
 have hst:=R.hO.store Tryz.prog
 have HC : Aside _:=hcmp
 have S0 : Aside (SW enc w0 blk off d w):=S
 clear S hcmp
 have hz : ¬ ((m : Int) - (a : Int) = 1):=by omega
 have hz2 : (b : Int) - (m : Int) = 1:=by omega
 have hzb : ((m : Int) - (a : Int)==1) = false:=by simpa using hz
 have hzb2 : ((b : Int) - (m : Int)==1) = true:=by simpa using hz2
 go_enter Tryz.func79,Tryz.ntmps79
 go_wp2
 try simp only[hzb,hzb2]
 go_loopg [14,15] N (λkx si sj wr => ∃(i j f : Nat),si = .int .i64 i /\ sj = .int .i64 j /\ a<=i /\ i<=j /\ j<=m /\ j - i<=kx /\ j - i<=f /\ Aside (SW enc w0 blk off d wr) /\ Hid (bsG (λh => !ltOf cf d[m]! d[h]!) f i j = bsG (λh => !ltOf cf d[m]! d[h]!) m (a) (m)))
 case atStart=>exact⟨a,m,m,by first|rfl|go_num,by first|rfl|go_num,by omega,by omega,by omega,by omega,by omega,S0,rfl⟩
 case round=>
  clear S0
  obtain⟨i,j,f,rfl,rfl,hlo,hij,hhi,hkx,hf,S1,HB⟩:=hrel
  by_cases ax : i<j
  ·obtain⟨f,rfl⟩ : ∃q,f = q+1:=⟨f - 1,by omega⟩
   have hltz : (i : Int)<(j : Int):=by omega
   obtain⟨iN1,hiN1⟩ : ∃q,q = m:=⟨_,rfl⟩
   obtain⟨jN1,hjN1⟩ : ∃q,q = (i+j) / 2:=⟨_,rfl⟩
   have ea1 : ((m : Int)).toNat = iN1:=by omega
   have pa1 : (0 : Int)<=(m : Int):=by omega
   have ba1 : (m : Int)<(N : Int):=by omega
   have ra1 : IntKind.i64.wrap ((m : Int)) = (m : Int):=by rw[IntKind.wrap_i64];omega
   have ec1 : (((i : Int)+(j : Int)) / 2).toNat = jN1:=by omega
   have pc1 : (0 : Int)<=((i : Int)+(j : Int)) / 2:=by omega
   have bc1 : ((i : Int)+(j : Int)) / 2<(N : Int):=by omega
   have rc1 : IntKind.i64.wrap (((i : Int)+(j : Int)) / 2) = ((i : Int)+(j : Int)) / 2:=by rw[IntKind.wrap_i64];omega
   obtain⟨x1,hx1⟩ : ∃x,x = d[m]! := ⟨_,rfl⟩
   obtain⟨y1,ay⟩ : ∃x,x = d[(i+j) / 2]! := ⟨_,rfl⟩
   have l1a:=S1.out.cl R (by omega) (m) (by omega)
   have l1b:=S1.out.cl R (by omega) ((i+j) / 2) (by omega)
   rw[<- hx1,<- hiN1] at l1a
   rw[<- ay,<- hjN1] at l1b
   have aE:=S1.out.cmp HC.out (by omega) x1 y1
   have hd1 : decide (cf x1 y1<0) = ltOf cf d[m]! d[(i+j) / 2]! := by rw[hx1,ay];rfl
   clear hx1 ay hiN1 hjN1
   go_wp2_with fail
   go_quiet_grown (first|(go_at_fn g;refine Calls.grown_of (aE _ _)))
   have S2 : Aside (SW enc w0 blk off d (grow (wr.drewN nq) osq)):=S1.out.grown nq osq
   clear l1a l1b aE S1
   generalize grow (wr.drewN nq) osq = w2 at S2 ⊢
   clear nq osq
   clear ea1 ec1
   try simp only[hd1]
   clear hd1
   cases hlv : ltOf cf d[m]! d[(i+j) / 2]! with
   | true=>
    go_wp2
    go_roundg ((i+j) / 2 - i)
    case measure=>omega
    case rel=>exact⟨i,(i+j) / 2,f,rfl,by first|rfl|go_num|(congr 1;omega),by omega,by omega,by omega,Nat.le_refl _,by omega,S2,(show Hid _ from by rw[<- HB.out,bsG,if_pos ax];simp only[hlv];exact rfl)⟩
   | false=>
    go_wp2
    go_roundg (j - ((i+j) / 2+1))
    case measure=>omega
    case rel=>exact⟨(i+j) / 2+1,j,f,by first|rfl|go_num|(congr 1;omega),rfl,by omega,by omega,by omega,Nat.le_refl _,by omega,S2,(show Hid _ from by rw[<- HB.out,bsG,if_pos ax];simp only[hlv];exact rfl)⟩
  ·obtain rfl : j = i:=by omega
   have hltz : ¬ (j : Int)<(j : Int):=by omega
   have hend : bsG (λh => !ltOf cf d[m]! d[h]!) m (a) (m) = j:=by
    rw[<- HB.out];cases f with
    | zero=>rfl
    | succ f=>rw[bsG,if_neg ax]
   clear HB
   go_wp2
   go_loopg [17] N (λkx sk wr => ∃(k : Nat) (dk : Array α),sk = .int .i64 k /\ j<=k /\ k<=m /\ k - j<=kx /\ dk.size = N /\ Aside (SW enc w0 blk off dk wr) /\ Hid (dnR (k - j) dk k = dnR (m - j) d m))
   case atStart=>exact⟨m,d,rfl,by omega,by omega,by omega,hN,S1,rfl⟩
   case round=>
    clear S1
    obtain⟨k,dk,rfl,hjk,hkm,hkx2,hds,S2,HU⟩:=hrel
    by_cases hk : j<k
    ·have hkz : (j : Int)<(k : Int):=by omega
     obtain⟨iN3,hiN3⟩ : ∃q,q = k:=⟨_,rfl⟩
     obtain⟨jN3,hjN3⟩ : ∃q,q = k - 1:=⟨_,rfl⟩
     have ea3 : ((k : Int)).toNat = iN3:=by omega
     have pa3 : (0 : Int)<=(k : Int):=by omega
     have ba3 : (k : Int)<(N : Int):=by omega
     have ra3 : IntKind.i64.wrap ((k : Int)) = (k : Int):=by rw[IntKind.wrap_i64];omega
     have ec3 : ((k : Int) - 1).toNat = jN3:=by omega
     have pc3 : (0 : Int)<=(k : Int) - 1:=by omega
     have bc3 : (k : Int) - 1<(N : Int):=by omega
     have rc3 : IntKind.i64.wrap ((k : Int) - 1) = (k : Int) - 1:=by rw[IntKind.wrap_i64];omega
     obtain⟨x3,hx3⟩ : ∃x,x = dk[k]! := ⟨_,rfl⟩
     obtain⟨y3,aX⟩ : ∃x,x = dk[k - 1]! := ⟨_,rfl⟩
     have S3 : Aside (SW enc w0 blk off (swp dk (k) (k - 1)) ((wr.setCell ⟨blk,off+iN3,none⟩ (enc y3)).setCell ⟨blk,off+jN3,none⟩ (enc x3)).drew):=by rw[hiN3,hjN3,hx3,aX];exact S2.out.swapped R (k) (k - 1) (by omega) (by omega)
     have c3a:=S2.out.c1 R (by omega) (k) (by omega)
     have c3b:=S2.out.c1 R (by omega) (k - 1) (by omega)
     have f3a:=S2.out.f1 R (by omega) (k) (by omega)
     have f3b:=S2.out.f1 R (by omega) (k - 1) (by omega)
     obtain⟨u3,c3c⟩:=S2.out.c2 R (by omega) (k) (k - 1) (by omega) (by omega) (enc y3)
     rw[<- hjN3,<- hiN3] at c3c
     rw[<- hx3,<- hiN3] at c3a
     rw[<- aX,<- hjN3] at c3b
     rw[<- hiN3] at f3a
     rw[<- hjN3] at f3b
     clear S2 hx3 aX hiN3 hjN3
     go_wp2_with fail
     go_big_region_o
     clear c3a c3b c3c f3a f3b
     generalize ((wr.setCell ⟨blk,off+iN3,none⟩ (enc y3)).setCell ⟨blk,off+jN3,none⟩ (enc x3)).drew = w3 at S3 ⊢
     clear ea3 ec3
     go_wp2
     go_roundg (k - 1 - j)
     case measure=>omega
     case rel=>exact⟨k - 1,swp dk k (k - 1),by first|rfl|go_num|(congr 1;omega),by omega,by omega,Nat.le_refl _,by rw[size_swp];exact hds,S3,(show Hid _ from by rw[<- HU.out,show k - j = (k - 1 - j)+1 by omega,dnR];exact rfl)⟩
    ·have hkz : ¬ (j : Int)<(k : Int):=by omega
     go_wp2
     ((try simp only[Exit.inBlock,Exit.then]);refine bodyPost_ret (results_none rfl _ _ _) rfl ?_)
     refine⟨rfl,?_⟩
     have e1:=HU.out
     rw[show k - j = 0 by omega,dnR] at e1
     first|rw[hend,<- e1]|rw[<- e1]
     exact S2.out
end Go.Proofs
namespace Go.Proofs
open Go.Shelf Go.RowKit Go.Lib Go.Sort
variable {α : Type} [Inhabited α]
set_option maxHeartbeats 60000000 in
set_option maxRecDepth 1000000 in
theorem zQS(enc : α -> Value)(f0 g : Nat)(cb : Array Value)(cf : α -> α -> Int)(blk off cap N a m b : Nat)(d0 d : Array α)(w0 w : World)
 (eg : ∀args w,(callFunc g args).run Tryz.prog w = .ok (.enter g args) w) (hcmp : CmpLays1 Tryz.prog g cb enc cf blk off d0.size w0)
 (R : Row1 enc w0 blk off d0) (hs : d0.size = N) (hN : d.size = N) (S : SW enc w0 blk off d w) (ham : a<m) (hmb : m<b) (hb : b<=N) (bN : N<2305843009213693952) (h1 : m - a ≠ 1) (h2 : b - m ≠ 1) (hf0 : b - a<=f0+1)
 (IH : ∀(d : Array α) (w : World) (a m b : Nat),d.size = N -> SW enc w0 blk off d w -> a<m -> m<b -> b<=N -> b - a<=f0 -> Calls Tryz.prog 79 #[.slice (some ⟨blk,off,none⟩) N cap,.int .i64 a,.int .i64 m,.int .i64 b,.func (.func g) #[] cb] w λe w' => e = .returned (.tuple #[]) /\ SW enc w0 blk off (smF (ltOf cf) f0 d a m b) w') :
 Calls Tryz.prog 79 #[.slice (some ⟨blk,off,none⟩) N cap,.int .i64 a,.int .i64 m,.int .i64 b,.func (.func g) #[] cb] w λe w' => e = .returned (.tuple #[]) /\ SW enc w0 blk off (smF (ltOf cf) (f0+1) d a m b) w' := by
 obtain⟨mixed,t0,a0,z0,v0,t3,a3,z3,v3,t4,a4,z4,v4,t28,a28,z28,v28,t40,a40,z40,v40,t159,a159,z159,v159,u28,u3,u159⟩:=stF
 have hcl0:=R.hO.cells
 simp only[Value.cells] at hcl0
 have hst:=R.hO.store Tryz.prog
 have HC : Aside _:=hcmp
 have S0 : Aside (SW enc w0 blk off d w):=S
 clear S hcmp
 have hz : ¬ ((m : Int) - (a : Int) = 1):=by omega
 have hz2 : ¬ ((b : Int) - (m : Int) = 1):=by omega
 have hzb : ((m : Int) - (a : Int)==1) = false:=by simpa using hz
 have hzb2 : ((b : Int) - (m : Int)==1) = false:=by simpa using hz2
 obtain⟨mid,hmid⟩ : ∃q,q = (a+b) / 2:=⟨_,rfl⟩
 obtain⟨pp,hpp⟩ : ∃q,q = mid+m - 1:=⟨_,rfl⟩
 have hm1 : 2*mid<=a+b:=by omega
 have hm2 : a+b<=2*mid+1:=by omega
 have hp1 : pp+1<=mid+m:=by omega
 have hp2 : mid+m<=pp+1:=by omega
 have hmidz : Hid (((a : Int)+(b : Int)) / 2 = (mid : Int)):=(show ((a : Int)+(b : Int)) / 2 = (mid : Int) by omega)
 have hppz : Hid ((mid : Int)+(m : Int) - 1 = (pp : Int)):=(show (mid : Int)+(m : Int) - 1 = (pp : Int) by omega)
 obtain⟨lo,hi,l1,l2,l3,l4,l5,l6,hq⟩ : ∃lo hi,a<=lo /\ lo<=hi /\ hi<=m /\ hi<=mid /\ mid+m<=lo+b /\ ((mid<m /\ lo+b<=mid+m /\ mid<=hi)∨(¬ mid<m /\ lo<=a /\ m<=hi)) /\ Hid (smS (ltOf cf) d a m b = bsG (λc => !ltOf cf d[pp - c]! d[c]!) b lo hi):=by
  rw[hpp,hmid]
  by_cases h : (a+b) / 2<m
  ·exact⟨(a+b) / 2+m - b,(a+b) / 2,by omega,by omega,by omega,by omega,by omega,.inl ⟨h,by omega,by omega⟩,(show smS _ _ _ _ _ = _ by simp only[smS,h,if_true])⟩
  ·exact⟨a,m,by omega,by omega,by omega,by omega,by omega,.inr ⟨h,by omega,by omega⟩,(show smS _ _ _ _ _ = _ by simp only[smS,h,if_false])⟩
 clear hmid hpp
 go_enter Tryz.func79,Tryz.ntmps79
 rcases l6 with⟨hmm,l6,l7⟩|⟨hmm,l6,l7⟩
 all_goals
  have hmz:=hmm
  rw[<- Int.ofNat_lt] at hmz
  have hmy:=hmz
  rw[<- hmidz.out] at hmy
  go_wp2
  try simp only[hzb,hzb2]
  try simp only[hmidz.out]
  try simp only[hppz.out]
  clear hmy
  go_loopg [20,21] N (λkx si sj wr => ∃(i j f : Nat),si = .int .i64 i /\ sj = .int .i64 j /\ lo<=i /\ i<=j /\ j<=hi /\ j - i<=kx /\ j - i<=f /\ Aside (SW enc w0 blk off d wr) /\ Hid (bsG (λc => !ltOf cf d[pp - c]! d[c]!) f i j = bsG (λc => !ltOf cf d[pp - c]! d[c]!) b lo hi))
  case atStart=>exact⟨lo,hi,b,by first|rfl|(congr 1;omega),by first|rfl|(congr 1;omega),by omega,by omega,by omega,by omega,by omega,S0,rfl⟩
  case round=>
   clear S0
   obtain⟨i,j,f,rfl,rfl,hlo,hij,hhi,hkx,hf,S1,HB⟩:=hrel
   by_cases ax : i<j
   ·obtain⟨f,rfl⟩ : ∃q,f = q+1:=⟨f - 1,by omega⟩
    have hltz : (i : Int)<(j : Int):=by omega
    obtain⟨c,bJ⟩ : ∃q,q = (i+j) / 2:=⟨_,rfl⟩
    have hcz : Hid (((i : Int)+(j : Int)) / 2 = (c : Int)):=(show ((i : Int)+(j : Int)) / 2 = (c : Int) by omega)
    have aE : 2*c<=i+j:=by omega
    have aV : i+j<=2*c+1:=by omega
    clear bJ
    obtain⟨jN2,hjN2⟩ : ∃q,q = c:=⟨_,rfl⟩
    have pb2 : c<=pp:=by omega
    have pa2 : (0 : Int)<=(pp : Int) - (c : Int):=by omega
    have ba2 : (pp : Int) - (c : Int)<(N : Int):=by omega
    have ra2 : IntKind.i64.wrap ((pp : Int) - (c : Int)) = (pp : Int) - (c : Int):=by rw[IntKind.wrap_i64];omega
    have ec2 : ((c : Int)).toNat = jN2:=by omega
    have pc2 : (0 : Int)<=(c : Int):=by omega
    have bc2 : (c : Int)<(N : Int):=by omega
    have rc2 : IntKind.i64.wrap ((c : Int)) = (c : Int):=by rw[IntKind.wrap_i64];omega
    obtain⟨x2,hx2⟩ : ∃x,x = d[pp - c]! := ⟨_,rfl⟩
    obtain⟨y2,aF⟩ : ∃x,x = d[c]! := ⟨_,rfl⟩
    have l2a:=S1.out.cl R (by omega) (pp - c) (by omega)
    have l2b:=S1.out.cl R (by omega) (c) (by omega)
    rw[<- hx2] at l2a
    rw[<- aF,<- hjN2] at l2b
    have bD:=S1.out.cmp HC.out (by omega) x2 y2
    have hd2 : decide (cf x2 y2<0) = ltOf cf d[pp - c]! d[c]! := by rw[hx2,aF];rfl
    clear hx2 aF hjN2
    go_wp2_with fail
    try simp only[hcz.out]
    go_quiet_grown (first|(go_at_fn g;refine Calls.grown_of (bD _ _)))
    have S2 : Aside (SW enc w0 blk off d (grow (wr.drewN nq) osq)):=S1.out.grown nq osq
    clear l2a l2b bD S1
    generalize grow (wr.drewN nq) osq = w2 at S2 ⊢
    clear nq osq
    clear pb2 ec2
    try simp only[hd2]
    clear hd2
    cases hlv : ltOf cf d[pp - c]! d[c]! with
    | true=>
     go_wp2
     go_roundg ((i+j) / 2 - i)
     case measure=>omega
     case rel=>exact⟨i,(i+j) / 2,f,rfl,by first|rfl|(congr 1;omega),by omega,by omega,by omega,Nat.le_refl _,by omega,S2,(show Hid _ from by rw[<- HB.out,bsG,if_pos ax,<- (show c = (i+j) / 2 by omega)];simp only[hlv];exact rfl)⟩
    | false=>
     go_wp2
     go_roundg (j - ((i+j) / 2+1))
     case measure=>omega
     case rel=>exact⟨(i+j) / 2+1,j,f,by first|rfl|(congr 1;omega),rfl,by omega,by omega,by omega,Nat.le_refl _,by omega,S2,(show Hid _ from by rw[<- HB.out,bsG,if_pos ax,<- (show c = (i+j) / 2 by omega)];simp only[hlv];exact rfl)⟩
   ·obtain rfl : j = i:=by omega
    have hltz : ¬ (j : Int)<(j : Int):=by omega
    have hS : smS (ltOf cf) d a m b = j:=by
     rw[hq.out,<- HB.out];cases f with
     | zero=>rfl
     | succ f=>rw[bsG,if_neg ax]
    clear HB hq
    obtain⟨e,he⟩ : ∃q,q = mid+m - j:=⟨_,rfl⟩
    have ez : Hid ((e : Int) = (mid : Int)+(m : Int) - (j : Int)):=(show (e : Int) = (mid : Int)+(m : Int) - (j : Int) by omega)
    obtain⟨d1,hd1⟩ : ∃q,q = if j<m /\ m<e then rotF (e - j) d m (m - j) (e - m) else d:=⟨_,rfl⟩
    obtain⟨d2,hd2⟩ : ∃q,q = if a<j /\ j<mid then smF (ltOf cf) f0 d1 a j mid else d1:=⟨_,rfl⟩
    obtain⟨d3,hd3⟩ : ∃q,q = if mid<e /\ e<b then smF (ltOf cf) f0 d2 mid e b else d2:=⟨_,rfl⟩
    have hfin : smF (ltOf cf) (f0+1) d a m b = d3:=by
     rw[smF,if_neg h1,if_neg h2]
     simp only[hS,<- (show mid = (a+b) / 2 by omega),<- he,<- hd1,<- hd2,<- hd3]
    have g1 : d1.size = N:=by rw[hd1];split <;> simp only[zEJ,hN]
    have g2 : d2.size = N:=by rw[hd2];split <;> simp only[zCI,g1]
    have k1 : j<m /\ j<mid -> ∀w,SW enc w0 blk off d w -> Calls Tryz.prog 116 #[.slice (some ⟨blk,off,none⟩) N cap,.int .i64 j,.int .i64 m,.int .i64 ((mid : Int)+(m : Int) - (j : Int)),.func (.func g) #[] cb] w λe w' => e = .returned (.tuple #[]) /\ SW enc w0 blk off d1 w' := λh w S=>by
     have:=zNP enc g cb blk off cap N j m e d0 d w0 w R hs hN S h.1 (by omega) (by omega) (by omega)
     rw[ez.out] at this
     rw[hd1,if_pos (by omega)];exact this
    have k2 : a<j /\ j<mid -> ∀w,SW enc w0 blk off d1 w -> Calls Tryz.prog 79 #[.slice (some ⟨blk,off,none⟩) N cap,.int .i64 a,.int .i64 j,.int .i64 mid,.func (.func g) #[] cb] w λe w' => e = .returned (.tuple #[]) /\ SW enc w0 blk off d2 w' := λh w S=>by
     rw[hd2,if_pos h];exact IH d1 w a j mid g1 S h.1 h.2 (by omega) (by omega)
    have k3 : j<m /\ mid+m<b+j -> ∀w,SW enc w0 blk off d2 w -> Calls Tryz.prog 79 #[.slice (some ⟨blk,off,none⟩) N cap,.int .i64 mid,.int .i64 ((mid : Int)+(m : Int) - (j : Int)),.int .i64 b,.func (.func g) #[] cb] w λe w' => e = .returned (.tuple #[]) /\ SW enc w0 blk off d3 w' := λh w S=>by
     have:=IH d2 w mid e b g2 S (by omega) (by omega) (by omega) (by omega)
     rw[ez.out] at this
     rw[hd3,if_pos (by omega)];exact this
    have n1 : ¬ (j<m /\ j<mid) -> ∀w,SW enc w0 blk off d w -> SW enc w0 blk off d1 w:=λh w S=>by rw[hd1,if_neg (by omega)];exact S
    have n2 : ¬ (a<j /\ j<mid) -> ∀w,SW enc w0 blk off d1 w -> SW enc w0 blk off d2 w:=λh w S=>by rw[hd2,if_neg h];exact S
    have n3 : ¬ (j<m /\ mid+m<b+j) -> ∀w,SW enc w0 blk off d2 w -> SW enc w0 blk off d3 w:=λh w S=>by rw[hd3,if_neg (by omega)];exact S
    subst hfin
    clear hd1 hd2 hd3 hS IH he ez
    by_cases x1 : j<m <;> by_cases x5 : j<mid <;> by_cases x3 : a<j <;> by_cases x4 : mid+m<b+j
    all_goals first|(exfalso;omega)|skip
    all_goals
     have x1z:=x1
     have x5z:=x5
     have x3z:=x3
     have x4z:=x4
     rw[<- Int.ofNat_lt] at x1z x5z x3z x4z
     have x2z:=x5z
     have x6z:=x1z
     rw[show ((j : Int)<(mid : Int)) = ((m : Int)<(mid : Int)+(m : Int) - (j : Int)) from propext (by omega)] at x2z
     rw[show ((j : Int)<(m : Int)) = ((mid : Int)<(mid : Int)+(m : Int) - (j : Int)) from propext (by omega)] at x6z
     rw[show (((mid+m : Nat) : Int)<((b+j : Nat) : Int)) = ((mid : Int)+(m : Int) - (j : Int)<(b : Int)) from propext (by omega)] at x4z
     go_wp2_with fail
     first
     | (go_at_call 116;refine(k1 ⟨x1,x5⟩ _ S1.out).mono ?_;rintro e5 w5 ⟨rfl,T1⟩;go_wp2_with fail)
     | have T1:=n1 (by omega) _ S1.out
     first
     | (go_at_call 79;refine(k2 ⟨x3,x5⟩ _ T1).mono ?_;rintro e6 w6 ⟨rfl,T2⟩;go_wp2_with fail)
     | have T2:=n2 (by omega) _ T1
     first
     | (go_at_call 79;refine(k3 ⟨x1,x4⟩ _ T2).mono ?_;rintro e7 w7 ⟨rfl,T3⟩;go_wp2)
     | have T3:=n3 (by omega) _ T2
     first
     | done
     | (go_end0;exact⟨rfl,T3⟩)
end Go.Proofs
namespace Go.Proofs
open Go.Shelf
def Tryz.laysIns_ren : Go.Shelf.Ren:=⟨fun|20=>78|n=>n,fun|24=>3|22=>28|3=>3|25=>40|4=>4|0=>0|n=>n,fun|n=>n⟩
theorem Tryz.laysIns : Go.Proofs.SlLaysF.n20 Tryz.prog Tryz.laysIns_ren := {
 mixed:=by kernel_rfl
 f20:=⟨Tryz.f78.name,by decide,Tryz.func78.trans (congrArg some (by kernel_rfl))⟩
 t0:=Tryz.underlying0
 a0:=Tryz.isAgg0
 z0:=Tryz.sizeOf0
 v0:=Tryz.zeroValue0
 t3:=Tryz.underlying3
 a3:=Tryz.isAgg3
 z3:=Tryz.sizeOf3
 v3:=Tryz.zeroValue3
 t4:=Tryz.underlying4
 a4:=Tryz.isAgg4
 z4:=Tryz.sizeOf4
 v4:=Tryz.zeroValue4
 t22:=Tryz.underlying28
 a22:=Tryz.isAgg28
 z22:=Tryz.sizeOf28
 v22:=Tryz.zeroValue28
 a24:=Tryz.isAgg3
 z24:=Tryz.sizeOf3
 t25:=Tryz.underlying40
 a25:=Tryz.isAgg40
 z25:=Tryz.sizeOf40
 v25:=Tryz.zeroValue40 }
end Go.Proofs
namespace Go.Proofs
open Go.Shelf Go.RowKit Go.Lib Go.Sort
variable {α : Type} [Inhabited α]
theorem zOQ(enc : α -> Value)(g : Nat)(cb : Array Value)(cf : α -> α -> Int)(blk off cap N : Nat)(d0 : Array α)(w0 : World)
 (eg : ∀args w,(callFunc g args).run Tryz.prog w = .ok (.enter g args) w) (hcmp : CmpLays1 Tryz.prog g cb enc cf blk off d0.size w0)
 (R : Row1 enc w0 blk off d0) (hs : d0.size = N) (bN : N<2305843009213693952) : ∀(f : Nat) (d : Array α) (w : World) (a m b : Nat),d.size = N -> SW enc w0 blk off d w -> a<m -> m<b -> b<=N -> b - a<=f -> Calls Tryz.prog 79 #[.slice (some ⟨blk,off,none⟩) N cap,.int .i64 a,.int .i64 m,.int .i64 b,.func (.func g) #[] cb] w λe w' => e = .returned (.tuple #[]) /\ SW enc w0 blk off (smF (ltOf cf) f d a m b) w'
 | 0,d,w,a,m,b,hN,S,h1,h2,h3,h4=>by omega
 | f+1,d,w,a,m,b,hN,S,h1,h2,h3,h4=>by
  by_cases q1 : m - a = 1
  ·rw[smF,if_pos q1]
   exact zQQ enc g cb cf blk off cap N a m b d0 d w0 w eg hcmp R hs hN S h1 h2 h3 bN q1
  ·by_cases q2 : b - m = 1
   ·rw[smF,if_neg q1,if_pos q2]
    exact zQR enc g cb cf blk off cap N a m b d0 d w0 w eg hcmp R hs hN S h1 h2 h3 bN q1 q2
   ·exact zQS enc f g cb cf blk off cap N a m b d0 d w0 w eg hcmp R hs hN S h1 h2 h3 bN q1 q2 h4 (λd w a m b e1 e2 e3 e4 e5 e6=>zOQ enc g cb cf blk off cap N d0 w0 eg hcmp R hs bN f d w a m b e1 e2 e3 e4 e5 e6)
set_option maxHeartbeats 4000000 in
set_option maxRecDepth 1000000 in
theorem zNQ(enc : α -> Value)(g : Nat)(cb : Array Value)(cf : α -> α -> Int)(blk off cap N : Nat)(d0 : Array α)(w0 : World)
 (eg : ∀args w,(callFunc g args).run Tryz.prog w = .ok (.enter g args) w) (hcmp : CmpLays1 Tryz.prog g cb enc cf blk off d0.size w0)
 (R : Row1 enc w0 blk off d0) (hs : d0.size = N) (bN : N<2305843009213693952) (d : Array α) (w : World) (hN : d.size = N) (S : SW enc w0 blk off d w) :
 Calls Tryz.prog 42 #[.slice (some ⟨blk,off,none⟩) N cap,.int .i64 N,.func (.func g) #[] cb] w λe w' => e = .returned (.tuple #[]) /\ SW enc w0 blk off (stA (ltOf cf) d N) w' := by
 obtain⟨mixed,t0,a0,z0,v0,t3,a3,z3,v3,t4,a4,z4,v4,t28,a28,z28,v28,t40,a40,z40,v40,t159,a159,z159,v159,u28,u3,u159⟩:=stF
 have hcl0:=R.hO.cells
 simp only[Value.cells] at hcl0
 have hst:=R.hO.store Tryz.prog
 have HI:=λ(a b : Nat) (dk : Array α) (wr : World) (hds : dk.size = N) (S : SW enc w0 blk off dk wr) (hab : a<=b) (hb : b<=N)=>
  show Calls Tryz.prog 78 #[.slice (some ⟨blk,off,none⟩) N cap,.int .i64 a,.int .i64 b,.func (.func g) #[] cb] wr λe w' => e = .returned (.tuple #[]) /\ SW enc w0 blk off (Sort.insertionSort (ltOf cf) dk a b) w' from by
   have h:=Any.insertionSortCmpFunc_s Tryz.laysIns enc cf g cb blk off cap a b d0 dk w0 wr eg hcmp R (by omega) S hab (by omega) (by omega)
   rw[hds] at h
   exact h
 have HS:=zOQ enc g cb cf blk off cap N d0 w0 eg hcmp R hs bN N
 have HI : Aside _:=HI
 have HS : Aside _:=HS
 have S0 : Aside (SW enc w0 blk off d w):=S
 clear S hcmp
 go_enter Tryz.func42,Tryz.ntmps42
 go_wp2
 go_loopg [7,8] N (λkx sa sb wr => ∃(a b f : Nat) (dk : Array α),sa = .int .i64 a /\ sb = .int .i64 b /\ b<=a+20 /\ a+20<=b /\ a<=N /\ N - a<=kx /\ N - a<=f /\ dk.size = N /\ Aside (SW enc w0 blk off dk wr) /\ Hid (stI (ltOf cf) f dk N a = stI (ltOf cf) N d N 0))
 case atStart=>exact⟨0,20,N,d,rfl,rfl,by omega,by omega,by omega,by omega,by omega,hN,S0,rfl⟩
 case round=>
  clear S0
  obtain⟨a,b,f,dk,rfl,rfl,hab,haw,haN,hkx,hf,hds,S1,HB⟩:=hrel
  by_cases ax : b<=N
  ·obtain⟨f,rfl⟩ : ∃q,f = q+1:=⟨f - 1,by omega⟩
   have hltz : (b : Int)<=(N : Int):=by omega
   have hc:=HI.out a b dk wr hds S1.out (by omega) ax
   have hB : stI (ltOf cf) f (Sort.insertionSort (ltOf cf) dk a b) N b = stI (ltOf cf) N d N 0:=by
    have e:=HB.out
    rw[stI,if_pos (by omega)] at e
    rw[show b = a+20 by omega];exact e
   have HB2 : Hid _:=hB
   have hsz2 : (Sort.insertionSort (ltOf cf) dk a b).size = N:=by rw[zD0];exact hds
   generalize Sort.insertionSort (ltOf cf) dk a b = dk2 at hc HB2 hsz2
   clear hB
   go_wp2_with (go_at_call 78;refine hc.mono ?_;rintro e w1 ⟨rfl,S2⟩)
   go_roundg (N - b)
   case measure=>omega
   case rel=>exact⟨b,b+20,f,dk2,rfl,by first|rfl|go_num,by omega,by omega,ax,Nat.le_refl _,by omega,hsz2,S2,HB2⟩
  ·have hltz : ¬ (b : Int)<=(N : Int):=by omega
   have hc:=HI.out a N dk wr hds S1.out (by omega) (by omega)
   have hB : Sort.insertionSort (ltOf cf) dk a N = stI (ltOf cf) N d N 0:=by
    have e:=HB.out
    cases f with
    | zero=>exact e
    | succ f=>rw[stI,if_neg (by omega)] at e;exact e
   have hsz2 : (Sort.insertionSort (ltOf cf) dk a N).size = N:=by rw[zD0];exact hds
   rw[hB] at hc hsz2
   have HA : Hid (stO (ltOf cf) N (stI (ltOf cf) N d N 0) N 20 = stA (ltOf cf) d N):=rfl
   generalize stI (ltOf cf) N d N 0 = d1 at hc hsz2 HA
   clear hB HB
   go_wp2_with (go_at_call 78;refine hc.mono ?_;rintro e w1 ⟨rfl,S2⟩)
   have S2 : Aside (SW enc w0 blk off d1 w1):=S2
   go_loopg [6] N (λkx sb wr => ∃(bs f : Nat) (dk : Array α),sb = .int .i64 bs /\ 0<bs /\ bs<=2*N+20 /\ N - bs<=kx /\ N - bs<=f /\ dk.size = N /\ Aside (SW enc w0 blk off dk wr) /\ Hid (stO (ltOf cf) f dk N bs = stA (ltOf cf) d N))
   case atStart=>exact⟨20,N,d1,rfl,by omega,by omega,by omega,by omega,hsz2,S2,HA⟩
   case round=>
    clear S2 S1 HA hc
    obtain⟨bs,f,dk,rfl,hb0,hbN,hkx2,hf2,hds2,S3,HO⟩:=hrel
    by_cases hq : bs<N
    ·obtain⟨f,rfl⟩ : ∃q,f = q+1:=⟨f - 1,by omega⟩
     have hqz : (bs : Int)<(N : Int):=by omega
     have hO : stO (ltOf cf) f (stM (ltOf cf) N dk N bs 0) N (2*bs) = stA (ltOf cf) d N:=by
      have e:=HO.out
      rw[stO,if_pos hq] at e;exact e
     have HO2 : Hid _:=hO
     clear hO HO
     go_wp2
     go_loopg [7,8] N (λkx sa sb wr => ∃(a b f : Nat) (dj : Array α),sa = .int .i64 a /\ sb = .int .i64 b /\ b<=a+2*bs /\ a+2*bs<=b /\ a<=N /\ N - a<=kx /\ N - a<=f /\ dj.size = N /\ Aside (SW enc w0 blk off dj wr) /\ Hid (stM (ltOf cf) f dj N bs a = stM (ltOf cf) N dk N bs 0))
     case atStart=>exact⟨0,2*bs,N,dk,rfl,by first|rfl|go_num,by omega,by omega,by omega,by omega,by omega,hds2,S3,rfl⟩
     case round=>
      clear S3
      obtain⟨a2,b2,f2,dj,rfl,rfl,hab2,haw2,haN2,hkx3,hf3,hds3,S4,HM⟩:=hrel
      have z1 : Hid ((a2 : Int)+(bs : Int) = ((a2+bs : Nat) : Int)):=(show (a2 : Int)+(bs : Int) = ((a2+bs : Nat) : Int) by omega)
      by_cases hp : b2<=N
      ·obtain⟨f2,rfl⟩ : ∃q,f2 = q+1:=⟨f2 - 1,by omega⟩
       have hpz : (b2 : Int)<=(N : Int):=by omega
       have hc:=HS.out dj wr a2 (a2+bs) b2 hds3 S4.out (by omega) (by omega) hp (by omega)
       have hM : stM (ltOf cf) f2 (smF (ltOf cf) N dj a2 (a2+bs) b2) N bs b2 = stM (ltOf cf) N dk N bs 0:=by
        have e:=HM.out
        rw[stM,if_pos (by omega)] at e
        rw[show b2 = a2+2*bs by omega];exact e
       have HM2 : Hid _:=hM
       have hsz3 : (smF (ltOf cf) N dj a2 (a2+bs) b2).size = N:=by rw[zCI];exact hds3
       generalize smF (ltOf cf) N dj a2 (a2+bs) b2 = dj2 at hc HM2 hsz3
       clear hM
       rw[<- z1.out] at hc
       go_wp2_with (go_at_call 79;refine hc.mono ?_;rintro e w2 ⟨rfl,S5⟩)
       go_roundg (N - b2)
       case measure=>omega
       case rel=>exact⟨b2,b2+2*bs,f2,dj2,rfl,by first|rfl|go_num,by omega,by omega,hp,Nat.le_refl _,by omega,hsz3,S5,HM2⟩
      ·have hpz : ¬ (b2 : Int)<=(N : Int):=by omega
       by_cases hm : a2+bs<N
       ·have hmz : (a2 : Int)+(bs : Int)<(N : Int):=by omega
        have hc:=HS.out dj wr a2 (a2+bs) N hds3 S4.out (by omega) (by omega) (by omega) (by omega)
        have hM : smF (ltOf cf) N dj a2 (a2+bs) N = stM (ltOf cf) N dk N bs 0:=by
         have e:=HM.out
         cases f2 with
         | zero=>omega
         | succ f2=>rw[stM,if_neg (by omega),if_pos hm] at e;exact e
        have hsz3 : (smF (ltOf cf) N dj a2 (a2+bs) N).size = N:=by rw[zCI];exact hds3
        rw[hM] at hc hsz3
        rw[<- z1.out] at hc
        clear hM HM
        go_wp2_with (go_at_call 79;refine hc.mono ?_;rintro e w2 ⟨rfl,S5⟩)
        go_roundg (N - 2*bs)
        case measure=>omega
        case rel=>exact⟨2*bs,f,_,by first|rfl|go_num|(congr 1;omega),by omega,by omega,Nat.le_refl _,by omega,hsz3,S5,HO2⟩
       ·have hmz : ¬ (a2 : Int)+(bs : Int)<(N : Int):=by omega
        have hM : dj = stM (ltOf cf) N dk N bs 0:=by
         have e:=HM.out
         cases f2 with
         | zero=>exact e
         | succ f2=>rw[stM,if_neg (by omega),if_neg hm] at e;exact e
        have S5 : Aside (SW enc w0 blk off (stM (ltOf cf) N dk N bs 0) wr):=by rw[<- hM];exact S4
        have hsz3 : (stM (ltOf cf) N dk N bs 0).size = N:=by rw[<- hM];exact hds3
        clear hM HM S4
        go_wp2
        go_roundg (N - 2*bs)
        case measure=>omega
        case rel=>exact⟨2*bs,f,_,by first|rfl|go_num|(congr 1;omega),by omega,by omega,Nat.le_refl _,by omega,hsz3,S5,HO2⟩
    ·have hqz : ¬ (bs : Int)<(N : Int):=by omega
     have hO : dk = stA (ltOf cf) d N:=by
      have e:=HO.out
      cases f with
      | zero=>exact e
      | succ f=>rw[stO,if_neg hq] at e;exact e
     have S5 : Aside (SW enc w0 blk off (stA (ltOf cf) d N) wr):=by rw[<- hO];exact S3
     clear hO HO S3
     go_wp2
     go_end0
     exact⟨rfl,S5.out⟩
theorem zPT(enc : α -> Value)(g : Nat)(cb : Array Value)(cf : α -> α -> Int)(blk off cap N : Nat)(d0 : Array α)(w0 : World)
 (eg : ∀args w,(callFunc g args).run Tryz.prog w = .ok (.enter g args) w) (hcmp : CmpLays1 Tryz.prog g cb enc cf blk off d0.size w0)
 (R : Row1 enc w0 blk off d0) (hs : d0.size = N) (bN : N<2305843009213693952) (d : Array α) (w : World) (hN : d.size = N) (S : SW enc w0 blk off d w) :
 Calls Tryz.prog 19 #[.slice (some ⟨blk,off,none⟩) N cap,.func (.func g) #[] cb] w λe w' => e = .returned (.tuple #[]) /\ SW enc w0 blk off (stA (ltOf cf) d N) w' := by
 obtain⟨mixed,t0,a0,z0,v0,t3,a3,z3,v3,t4,a4,z4,v4,t28,a28,z28,v28,t40,a40,z40,v40,t159,a159,z159,v159,u28,u3,u159⟩:=stF
 have hcl0:=R.hO.cells
 simp only[Value.cells] at hcl0
 have hst:=R.hO.store Tryz.prog
 have hc:=zNQ enc g cb cf blk off cap N d0 w0 eg hcmp R hs bN d w hN S
 clear S hcmp
 go_enter Tryz.func19,Tryz.ntmps19
 go_wp2_with (go_at_call 42;refine hc.mono ?_;rintro e w1 ⟨rfl,S2⟩)
 go_end0
 exact⟨rfl,S2⟩
end Go.Proofs
namespace Go.Proofs
open Go.Shelf Go.RowKit Go.Lib Go.Sort
theorem zPU(p : Option Addr)(cap : Nat)(fv : Value)(w : World): Calls Tryz.prog 78 #[.slice p 0 cap,.int .i64 0,.int .i64 0,fv] w λe w' => e = .returned (.tuple #[]) /\ w' = w:=by
 obtain⟨mixed,t0,a0,z0,v0,t3,a3,z3,v3,t4,a4,z4,v4,t28,a28,z28,v28,t40,a40,z40,v40,t159,a159,z159,v159,u28,u3,u159⟩:=stF
 go_enter Tryz.func78,Tryz.ntmps78
 go_wp2
 refine wp_loop_rounds 1 ?_
 rw[rounds_succ]
 go_wp2
 go_end0
 exact⟨rfl,rfl⟩
theorem zMI(p : Option Addr)(cap : Nat)(fv : Value)(w : World): Calls Tryz.prog 42 #[.slice p 0 cap,.int .i64 0,fv] w λe w' => e = .returned (.tuple #[]) /\ w' = w:=by
 obtain⟨mixed,t0,a0,z0,v0,t3,a3,z3,v3,t4,a4,z4,v4,t28,a28,z28,v28,t40,a40,z40,v40,t159,a159,z159,v159,u28,u3,u159⟩:=stF
 have hi:=zPU p cap fv
 go_enter Tryz.func42,Tryz.ntmps42
 go_wp2
 refine wp_loop_rounds 1 ?_
 rw[rounds_succ]
 go_wp2_with (go_at_call 78;refine(hi _).mono ?_;rintro e w1 ⟨rfl,rfl⟩)
 refine wp_loop_rounds 1 ?_
 rw[rounds_succ]
 go_wp2
 go_end0
 exact⟨rfl,rfl⟩
theorem zOR(p : Option Addr)(cap : Nat)(fv : Value)(w : World): Calls Tryz.prog 19 #[.slice p 0 cap,fv] w λe w' => e = .returned (.tuple #[]) /\ w' = w:=by
 obtain⟨mixed,t0,a0,z0,v0,t3,a3,z3,v3,t4,a4,z4,v4,t28,a28,z28,v28,t40,a40,z40,v40,t159,a159,z159,v159,u28,u3,u159⟩:=stF
 have hi:=zMI p cap fv
 go_enter Tryz.func19,Tryz.ntmps19
 go_wp2_with (go_at_call 42;refine(hi _).mono ?_;rintro e w1 ⟨rfl,rfl⟩)
 go_end0
 exact⟨rfl,rfl⟩
end Go.Proofs
namespace Go.LN
open Go.Sort Go.Proofs
theorem zOS{imm am : Imm}{w w' : World}{hs : List HA}(g : Good ⟨w,imm,[]⟩ am hs w'): ∃q os,w' = Sort.grow (w.drewN q) os:=by
 refine⟨w'.drawn - w.drawn,w'.heap.extract w.heap.size w'.heap.size,?_⟩
 have h1:=g.frm.drawn
 have h2:=g.frm.size
 have h3 : w'.heap = w.heap++w'.heap.extract w.heap.size w'.heap.size:=by
  apply gv
  intro k
  rcases cW k w.heap.size with hk|hk
  ·rw[gu hk]
   exact g.frm.heap k hk (by simp)
  ·rw[Array.getElem?_append_right hk,Array.getElem?_extract]
   split
   ·congr 1;omega
   ·rw[d9 (by omega)]
 have h4:=g.frm.os
 have h5:=g.frm.tape
 have h6:=g.frm.output
 cases w' with
 | mk heap tape drawn os output=>
  dsimp only at *
  unfold Sort.grow World.drewN
  have h7 : drawn = w.drawn+(drawn - w.drawn):=by omega
  rw[<- h7,<- h3,h4,h5,h6]
theorem zMJ{imm : Imm}{w : World}(h : ∀b c,imm b = some c -> ∃ty fr,w.heap[b]? = some (.cells c ty fr)): Good ⟨w,imm,[]⟩ imm [] w:=
 ⟨h,by simp,by simp,⟨rfl,rfl,rfl,cI _,λ_ _ _=>rfl,λ_ _ _=>rfl,cI _⟩⟩
theorem zLJ{w : World}{b k : Nat}{f : Array Value -> Array Value}(h : b ≠ k): (Sort.mapBlock w b f).heap[k]? = w.heap[k]? := by
 unfold Sort.mapBlock
 rw[Array.getElem?_modify,if_neg h]
abbrev Nm(x : List Int):= { v : Int // v∈x }
def encN{x : List Int}(a : Nm x): Value:=vI a.val
def cfN{x : List Int}(φ : Int -> Int -> Option Int)(a b : Nm x): Int:=(φ a.val b.val).getD 0
def rowN(x : List Int): Array (Nm x):=x.attach.toArray
theorem zBO(x : List Int): (rowN x).size = x.length:=by simp[rowN]
abbrev inhN(y : Int)(ys : List Int): Inhabited (Nm (y :: ys)):=⟨⟨y,ci ..⟩⟩
def srS(x : List Int)(φ : Int -> Int -> Option Int): List Int:=
 match x with
 | []=>[]
 | y :: ys=>haveI:=inhN y ys;(stA (ltOf (cfN φ)) (rowN (y :: ys)) (y :: ys).length).toList.map (·.val)
section
variable {α : Type} [Inhabited α]
theorem zLK(lt : α -> α -> Bool): ∀(f : Nat) (d : Array α) (n a : Nat),(stI lt f d n a).size = d.size
 | 0,d,n,a=>by rw[stI,zD0]
 | f+1,d,n,a=>by
  rw[stI]
  split
  ·rw[zLK lt f,zD0]
  rw[zD0]
theorem zLL(lt : α -> α -> Bool): ∀(f : Nat) (d : Array α) (n bs a : Nat),(Go.Proofs.stM lt f d n bs a).size = d.size
 | 0,d,n,bs,a=>rfl
 | f+1,d,n,bs,a=>by
  rw[Go.Proofs.stM]
  split;· rw[zLL lt f,zCI]
  split;· rw[zCI]
  rfl
theorem zLM(lt : α -> α -> Bool): ∀(f : Nat) (d : Array α) (n bs : Nat),(stO lt f d n bs).size = d.size
 | 0,d,n,bs=>rfl
 | f+1,d,n,bs=>by
  rw[stO]
  split
  ·rw[zLM lt f,zLL]
  rfl
theorem zLN(lt : α -> α -> Bool)(d : Array α)(n : Nat): (stA lt d n).size = d.size:=by unfold stA;rw[zLM,zLK]
end
theorem zEl(x : List Int)(φ : Int -> Int -> Option Int): (srS x φ).length = x.length:=by
 unfold srS
 cases x with
 | nil=>rfl
 | cons y ys=>simp only[dm,df];exact(@zLN _ (inhN y ys) _ _ _).trans (zBO _)
theorem zMi{imm : Imm}: ∀{s : List Int} {cs : List Value},RL imm cs s -> cs = s.map vI
 | [],cs,h=>by have h : cs = []:=h;rw[h];rfl
 | l :: s,cs,⟨c1,c2,h1,_,h3,h4⟩=>by
  have h3 : c1 = [vI l]:=h3
  rw[h1,h3,zMi h4];rfl
theorem zMj{imm : Imm}: ∀(s : List Int),RL imm (s.map vI) s
 | []=>rfl
 | l :: s=>⟨[vI l],s.map vI,rfl,rfl,rfl,zMj s⟩
theorem oneN{x : List Int}: OneCell (encN (x:=x)):=λa=>rfl
theorem zNR{P : Program}{g : FuncId}{imm : Imm}{b off n : Nat}{w : World}{cap : List Value}{x : List Int}[Inhabited (Nm x)]{φ : Int -> Int -> Option Int}(hr : ∀u v : Nm x,Ret P g ([vI u.val,vI v.val]++cap) imm [] λ_ _ ag r=>ag = [] /\ r = .int .i64 (cfN φ u v))
 (hi : ∀b c,imm b = some c -> ∃ty fr,w.heap[b]? = some (.cells c ty fr)) (hb : imm b = none) : CmpLays1 P g ⟨cap⟩ (encN (x:=x)) (cfN φ) b off n w:=λm os dk _ u v=>by
 have hW : ∀b' c,imm b' = some c -> ∃ty fr,(sortWorld (encN (x:=x)) w b off m dk os).heap[b']? = some (.cells c ty fr):=λb' c e=>by
  obtain⟨ty,fr,e'⟩:=hi b' c e
  refine⟨ty,fr,?_⟩
  have hne : b ≠ b' := by rintro rfl;rw[hb] at e;cases e
  have ax : b'<w.heap.size:=by
   rcases cW b' w.heap.size with h|h
   ·exact h
   ·rw[d9 h] at e';cases e'
  have e2 : (Sort.putRow (encN (x:=x)) (Sort.ahead w m) b off dk).heap[b']? = some (.cells c ty fr):=by
   unfold Sort.putRow
   rw[zLJ hne];exact e'
  unfold sortWorld Sort.grow
  show (_++os)[b']? = _
  rw[gu (by rw[Sort.size_putRow];exact ax)]
  exact e2
 have h:=hr u v _ (zMJ hW)
 rw[show (#[encN u,encN v]++⟨cap⟩ : Array Value) = ([vI u.val,vI v.val]++cap : List Value).toArray by simp[encN]]
 refine h.mono λe w' he => ?_
 cases e with
 | returned r=>
  obtain⟨i,ag,⟨rfl,rfl⟩,g'⟩:=he
  exact⟨rfl,zOS g'⟩
 | panicked c=>exact he.elim
 | outgrown=>exact he.elim
theorem zMK{P : Program}{f g : FuncId}{imm : Imm}{cap : List Value}{φ : Int -> Int -> Option Int}
 (hc : ∀{x : List Int} [Inhabited (Nm x)] (blk off c : Nat) (d : Array (Nm x)) (w : World),CmpLays1 P g ⟨cap⟩ (encN (x:=x)) (cfN φ) blk off d.size w -> Row1 (encN (x:=x)) w blk off d -> d.size<2305843009213693952 ->
  Calls P f #[.slice (some ⟨blk,off,none⟩) d.size c,.func (.func g) #[] ⟨cap⟩] w λe w' => e = .returned (.tuple #[]) /\ SW (encN (x:=x)) w blk off (stA (ltOf (cfN φ)) d d.size) w')
 (hn : ∀(p : Option Addr) (c : Nat) (w : World),Calls P f #[.slice p 0 c,.func (.func g) #[] ⟨cap⟩] w λe w' => e = .returned (.tuple #[]) /\ w' = w)
 {s : List Int} (hs : s.length<2305843009213693952) (hF : FV2 P imm [] (.func (.func g) ⟨[]⟩ ⟨cap⟩) φ) (hφ : ∀a∈s,∀b∈s,(φ a b).isSome = true) {p : Option Addr} {c : Nat} {cs : List Value} (h : RL imm cs s) {post : Nat -> Imm -> List HA -> Value -> Prop}
 (hp : ∀k cs',RL imm cs' (srS s φ) -> post k imm [hO Int (vS p (srS s φ) c) cs'] (tupV [])) :
 Ret P f [vS p s c,.func (.func g) ⟨[]⟩ ⟨cap⟩] imm [hO Int (vS p s c) cs] post:=by
 intro w gd
 cases s with
 | nil=>
  have h : cs = []:=h
  subst h
  refine(hn p c w).mono λe w' ⟨he,hw'⟩ => ?_
  subst he;subst hw'
  exact⟨imm,_,hp _ [] RepL.nil,gd⟩
 | cons y ys=>
  have ecs:=zMi h
  obtain⟨s,I,hS,hres⟩ : ∃(s : List Int) (I : Inhabited (Nm s)),s = y :: ys /\ srS (y :: ys) φ = (@stA _ I (ltOf (cfN φ)) (rowN s) s.length).toList.map (·.val):=⟨y :: ys,inhN y ys,rfl,rfl⟩
  have hy : 0<s.length:=by rw[hS];exact Nat.succ_pos _
  rw[<- hS] at hs hφ h hres hp gd ecs
  rw[<- hS]
  have hsz0:=zBO s
  rcases gd.own _ (ci ..) with⟨e,_⟩|⟨b,off,len,cp,all,ty,e,h1,h2,hw,hcap,hlc,bZ,hal,hM⟩
  ·injection e with k1 k2 k3
   omega
  ·injection e with k1 k2 k3
   subst k1;subst k2;subst k3
   simp only[show Rp.sz Int = 1 from rfl,Nat.mul_one] at hcap bZ hal
   have hcell : ∀q,q<s.length -> all[off+q]? = some (encN ((rowN s)[q]!)):=by
    intro q hq
    have h0 : cs[q]? = some (encN ((rowN s)[q]!)):=by
     rw[ecs,dt,cd hq,Option.map_some,getElem!_pos (rowN s) q (by rw[hsz0];exact hq)]
     simp[rowN,encN]
    rw[<- hal,dy,if_pos hq,dq,Array.getElem?_toList] at h0
    exact h0
   have hH : Sort.Holds (encN (x:=s)) w b off (rowN s):=by
    intro q hq
    rw[hsz0] at hq
    refine⟨?_,?_⟩
    ·simp only[World.cell?,hw,Option.isSome_none,cU,if_false]
     exact hcell q hq
    ·simp only[World.frozen?,hw]
     simp
   have ax : b<w.heap.size:=(gd.mem_lt (b:=b) (by simp[HA.fp])).1
   obtain⟨f1,first,cap1,e1,hca,hcl1⟩:=hF
   injection e1 with e1 e2 e3
   injection e1 with e1
   injection e2 with e2
   injection e3 with e3
   subst e1;subst e2;subst e3
   have hr : ∀u v : Nm s,Ret P g ([vI u.val,vI v.val]++cap) imm [] λ_ _ ag r=>ag = [] /\ r = .int .i64 (cfN φ u v):=λu v=>by
    have hso:=hφ u.val u.property v.val v.property
    obtain⟨r,hr⟩:=Option.isSome_iff_exists.1 hso
    have h9:=hcl1 imm (Imm.le.refl _) u.val v.val r (vI u.val) (vI v.val) hr rfl rfl
    have e9 : cfN φ u v = r:=by unfold cfN;rw[hr];rfl
    rw[e9]
    exact h9
   have hc' := hc b off c (rowN s) w (zNR hr gd.inv h2) ⟨oneN,hH,ax⟩ (by omega)
   rw[hsz0] at hc'
   refine hc'.mono λe w' ⟨he,n,os,hw'⟩ => ?_
   subst he;subst hw'
   obtain⟨d',hd⟩ : ∃d',d' = stA (ltOf (cfN φ)) (rowN s) s.length:=⟨_,rfl⟩
   rw[<- hd] at hres ⊢
   have hd' : d'.size = s.length:=by rw[hd,zLN,hsz0]
   have hsl : (srS s φ).length = s.length:=zEl s φ
   let all' := Sort.putCells (encN (x:=s)) off d' all
   have bN : all'.size = all.size:=by simp[all',Sort.putCells]
   have hw2 : Sort.putRow (encN (x:=s)) (Sort.ahead w n) b off d' = setBlk (Sort.ahead w n) b (.cells all' ty (0,0)):=by
    unfold Sort.putRow Sort.mapBlock setBlk
    congr 1
    apply gv
    intro k
    rw[Array.getElem?_modify,gj]
    by_cases hk : b = k
    ·subst hk
     have hw3 : (Sort.ahead w n).heap[b]? = some (.cells all ty (0,0)):=hw
     have hlt' : b<(Sort.ahead w n).heap.size:=ax
     rw[if_pos rfl,if_pos rfl,if_pos hlt',hw3]
     rfl
    ·rw[if_neg hk,if_neg hk]
   have hg2 : Good ⟨w,imm,(([hO Int (vS (some ⟨b,off,none⟩) s c) cs] : List HA)).flatMap HA.fp⟩ imm [hO Int (vS (some ⟨b,off,none⟩) s c) cs] (Sort.ahead w n):=gd.draw _ (ga _ _)
   have hget : ∀k,k<s.length -> all'[off+k]? = some (encN (d'[k]!)):=by
    intro k hk
    have h0:=hcell k hk
    simp only[all',Sort.putCells,Array.getElem?_mapIdx,h0,Option.map_some]
    rw[if_pos ⟨by omega,by omega⟩,show off+k - off = k by omega]
   have hcs' : (srS s φ).map vI = d'.toList.map encN:=by rw[hres,List.map_map];rfl
   have hRL : RL imm (d'.toList.map encN) (srS s φ):=by rw[<- hcs'];exact zMj _
   have hlen' : (d'.toList.map encN).length = s.length:=by simp[hd']
   refine⟨imm,_,hp _ (d'.toList.map encN) hRL,?_⟩
   have hg3 : Good ⟨w,imm,(([hO Int (vS (some ⟨b,off,none⟩) s c) cs] : List HA)).flatMap HA.fp⟩ imm [hO Int (vS (some ⟨b,off,none⟩) (srS s φ) c) (d'.toList.map encN)] (Sort.putRow (encN (x:=s)) (Sort.ahead w n) b off d'):=by
    rw[hw2]
    refine hg2.write (A' := .osl (vS (some ⟨b,off,none⟩) (srS s φ) c) (Rp.sz Int) (d'.toList.map encN)) (b:=b) (by simp[HA.fp]) (by simp[HA.fp]) _ (.inr ⟨b,off,_,c,all',ty,rfl,h1,h2,?_,?_,?_,?_,?_,hM⟩)
    ·exact zAX (show b<(Sort.ahead w n).heap.size from ax)
    ·rw[bN,show Rp.sz Int = 1 from rfl,Nat.mul_one];exact hcap
    ·rw[hsl];exact hlc
    ·rw[hlen',hsl,show Rp.sz Int = 1 from rfl,Nat.mul_one]
    ·apply fi
     intro k
     rw[show Rp.sz Int = 1 from rfl,Nat.mul_one,hsl,dy,dq,Array.getElem?_toList]
     by_cases hk : k<s.length
     ·rw[if_pos hk,hget k hk,dt,Array.getElem?_toList,cS (by omega),Option.map_some,getElem!_pos d' k (by omega)]
     ·rw[if_neg hk,di (by omega)]
   exact hg3.grow 0 os
end Go.LN
