/- Helper of the proof (see the last text). -/
import Derived.Test.YtcmjkmdecmabaaaGreatLnP
import Derived.Shelf.SlSortCmp.NoneTotal
set_option linter.unusedVariables false
set_option linter.unusedSimpArgs false
namespace Go.LN
open Go.Sort Go.Proofs
def cmpL:List Int->List Int->Int
  | [],[]=>0
  | [],_::_=>-1
  | _::_,[]=>1
  | a::s,b::t=>if a<b then -1 else if b<a then 1 else cmpL s t
theorem zJO:∀ a:List Int,cmpL a a=0
  | []=>rfl
  | a::s=>by rw [cmpL,if_neg (Int.lt_irrefl a),if_neg (Int.lt_irrefl a),zJO s]
theorem zBt:∀ a b:List Int,cmpL b a=- cmpL a b
  | [],[]=>rfl
  | [],_::_=>rfl
  | _::_,[]=>rfl
  | a::s,b::t=>by
    rw [cmpL,cmpL]
    by_cases h1:a<b
    · rw [if_pos h1,if_neg (by omega),if_pos h1]; rfl
    · by_cases h2:b<a
      · rw [if_pos h2,if_neg h1,if_pos h2]
      · rw [if_neg h1,if_neg h2,if_neg h2,if_neg h1,zBt s t]
theorem zJe:∀ a b:List Int,cmpL a b=0->a=b
  | [],[],_=>rfl
  | [],_::_,h=>by simp [cmpL] at h
  | _::_,[],h=>by simp [cmpL] at h
  | a::s,b::t,h=>by
    rw [cmpL] at h
    split at h
    · cases h
    · split at h
      · cases h
      · rw [zJe s t h,show a=b by omega]
theorem zET:∀ a b c:List Int,cmpL a b<0->cmpL b c<0->cmpL a c<0
  | [],[],c,h,_=>by simp [cmpL] at h
  | [],_::_,[],_,h=>by simp [cmpL] at h
  | [],_::_,_::_,_,_=>by simp [cmpL]
  | _::_,[],_,h,_=>by simp [cmpL] at h
  | _::_,_::_,[],_,h=>by simp [cmpL] at h
  | a::s,b::t,c::u,h1,h2=>by
    rw [cmpL] at h1 h2 ⊢
    by_cases k1:a<b
    · by_cases k2:b<c
      · rw [if_pos (by omega)]; decide
      · rw [if_neg k2] at h2
        by_cases k3:c<b
        · rw [if_pos k3] at h2; cases h2
        · rw [if_pos (by omega)]; decide
    · rw [if_neg k1] at h1
      by_cases k2:b<a
      · rw [if_pos k2] at h1; cases h1
      · rw [if_neg k2] at h1
        by_cases k3:b<c
        · rw [if_pos (by omega)]; decide
        · rw [if_neg k3] at h2
          by_cases k4:c<b
          · rw [if_pos k4] at h2; cases h2
          · rw [if_neg k4] at h2
            rw [if_neg (by omega),if_neg (by omega)]
            exact zET s t u h1 h2
def ltL (a b:List Int):Bool:=decide (cmpL a b<0)
theorem swoL:SWO ltL where
  irrefl x:=by unfold ltL; rw [zJO]; rfl
  trans x y z h1 h2:=by
    unfold ltL at *
    simp only [decide_eq_true_eq] at *
    exact zET x y z h1 h2
  ntrans x y z h1 h2:=by
    unfold ltL at *
    simp only [decide_eq_false_iff_not,Int.not_lt] at *
    have a1:=zBt x y
    have a2:=zBt y z
    have a3:=zBt x z
    by_cases h:cmpL x z<0
    · exfalso
      by_cases h3:0<cmpL y z
      · have:=zET x z y h (by omega)
        omega
      · have e:y=z:=zJe y z (by omega)
        subst e
        omega
    · omega
theorem zPb (x y:List Int) (h1:ltL x y=false) (h2:ltL y x=false):x=y:=by
  unfold ltL at *;simp only [decide_eq_false_iff_not,Int.not_lt] at *;have:=zBt x y;exact zJe x y (by omega)
def srtL (x:List (List Int)):List (List Int):=x.mergeSort fun a b=>!ltL b a
structure Lrow (imm:Imm) where
  v:Value
  l:List Int
  h:SL imm v l
  hb:l.length<4611686018427387904
instance {imm:Imm}:Inhabited (Lrow imm):=⟨⟨.slice none 0 0,[],SL.nil _,by decide⟩⟩
def cfR {imm:Imm} (x y:Lrow imm):Int:=cmpL x.l y.l
theorem swoR {imm:Imm}:SWO (ltOf (cfR (imm:=imm))) where
  irrefl x:=swoL.irrefl x.l
  trans x y z h1 h2:=swoL.trans x.l y.l z.l h1 h2
  ntrans x y z h1 h2:=swoL.ntrans x.l y.l z.l h1 h2
theorem zMG {imm:Imm}:∀ {s:List (List Int)}{cs:List Value},RL imm cs s->(∀ l∈s,l.length<4611686018427387904)->∃ ds:List (Lrow imm),ds.map (·.v)=cs/\ds.map (·.l)=s
  | [],cs,h,_=>⟨[],by have h:cs=[]:=h; rw [h]; rfl,rfl⟩
  | l::s,cs,⟨c1,c2,h1,_,h3,h4⟩,hb=>by
    obtain ⟨v,e,hv⟩:=h3
    obtain ⟨ds,e1,e2⟩:=zMG h4 fun l hl=>hb l (ci _ hl)
    exact ⟨⟨v,l,hv,hb l (cj ..)⟩::ds,by rw [h1,e,<- e1]; rfl,by show l::ds.map (·.l)=_; rw [e2]⟩
theorem zMH {imm:Imm}:∀ ds:List (Lrow imm),RL imm (ds.map (·.v)) (ds.map (·.l))
  | []=>rfl
  | d::ds=>⟨[d.v],ds.map (·.v),rfl,rfl,⟨d.v,rfl,d.h⟩,zMH ds⟩
theorem oneR {imm:Imm}:OneCell fun x:Lrow imm=>x.v:=fun x=>by
  obtain ⟨aP,hs,_⟩:=x.h;rcases hs with ⟨e,_⟩ | ⟨b,off,len,cap,c,e,_⟩
  · show x.v.oneCell'=true;rw [e]; rfl
  · show x.v.oneCell'=true;rw [e]; rfl
theorem zFC {imm:Imm} (d:Array (Lrow imm)) (i:Nat):((d.map (·.l))[i]!)=(d[i]!).l:=by
  by_cases h:i<d.size
  · rw [getElem!_pos d i h,getElem!_pos _ i (by simpa using h)]; simp
  · rw [getElem!_neg d i h,getElem!_neg _ i (by simpa using h)]; rfl
theorem zPc {imm:Imm}{d d':Array (Lrow imm)} (hp:PermIn 0 d.size d d') (hs:SortedIn (ltOf cfR) 0 d.size d'):d'.toList.map (·.l)=srtL (d.toList.map (·.l)):=by
  obtain ⟨h1,h2,h3⟩:=hp;have hP:PermIn 0 (d.map (·.l)).size (d.map (·.l)) (d'.map (·.l)):=by
    refine ⟨by simp [h1],fun i hi=>?_,?_⟩
    · rw [zFC,zFC];rw [Array.size_map] at hi;rw [h2 i hi]
    · have e1:d'.extract 0 d.size=d':=by rw [<- h1]; simp
      have e2:d.extract 0 d.size=d:=by simp
      rw [e1,e2] at h3;have e3:(d'.map (·.l)).extract 0 (d.map (·.l)).size=d'.map (·.l):=by
        rw [Array.size_map,<- h1,<- Array.size_map (f:=fun x:Lrow imm=>x.l) (xs:=d')]; simp
      have e4:(d.map (·.l)).extract 0 (d.map (·.l)).size=d.map (·.l):=by simp
      rw [e3,e4,d8,d8];exact h3.map _
  have hS:SortedIn ltL 0 (d.map (·.l)).size (d'.map (·.l)):=fun i j h0 hij hj=>by
    rw [zFC,zFC];rw [Array.size_map] at hj;exact hs i j h0 hij hj
  have:=sorted_unique_holds swoL zPb (d.map (·.l)) (d'.map (·.l)) hP hS;rw [d8,d8] at this;exact this
theorem zN6 {imm ar:Imm}{w w':World}{hs:List HA} (g:Good ⟨w,imm,[]⟩ ar hs w'):∃ q os,w'=Sort.grow (w.drewN q) os:=by
  refine ⟨w'.drawn - w.drawn,w'.heap.extract w.heap.size w'.heap.size,?_⟩;have h1:=g.frm.drawn;have h2:=g.frm.size;have h3:w'.heap=w.heap++w'.heap.extract w.heap.size w'.heap.size:=by
    apply gk;intro k;rcases d6 k w.heap.size with hk | hk
    · rw [ic hk];exact g.frm.heap k hk (by simp)
    · rw [Array.getElem?_append_right hk,Array.getElem?_extract];split
      · congr 1; omega
      · rw [ed (by omega)]
  have h4:=g.frm.os;have h5:=g.frm.tape;have h6:=g.frm.output;cases w' with
  | mk heap tape drawn os output =>
    dsimp only at *;unfold Sort.grow World.drewN;have h7:drawn=w.drawn+(drawn - w.drawn):=by omega
    rw [<- h7,<- h3,h4,h5,h6]
theorem zL9 {imm:Imm}{w:World} (h:∀ b c,imm b=some c->∃ ty fr,w.heap[b]?=some (.cells c ty fr)):Good ⟨w,imm,[]⟩ imm [] w :=
  ⟨h,by simp,by simp,⟨rfl,rfl,rfl,cP _,fun _ _ _=>rfl,fun _ _ _=>rfl,cP _⟩⟩
theorem zK4 {w:World}{b k:Nat}{f:Array Value->Array Value} (h:b ≠ k):(Sort.mapBlock w b f).heap[k]?=w.heap[k]?:=by
  unfold Sort.mapBlock;rw [gx,if_neg h]
theorem zN7 {P:Program}{g:FuncId}{imm:Imm}{b off n:Nat}{w:World} (hr:∀ x y:Lrow imm,Ret P g [x.v,y.v] imm [] fun _ _ ah u=>ah=[]/\u=.int .i64 (cmpL x.l y.l))
    (hi:∀ b c,imm b=some c->∃ ty fr,w.heap[b]?=some (.cells c ty fr)) (hb:imm b=none):CmpLays1 P g #[] (fun x:Lrow imm=>x.v) cfR b off n w:=fun m os dk _ x y=>by
  have hW:∀ b' c,imm b'=some c->∃ ty fr,(sortWorld (fun x:Lrow imm=>x.v) w b off m dk os).heap[b']?=some (.cells c ty fr):=fun b' c e=>by
    obtain ⟨ty,fr,e'⟩:=hi b' c e
    refine ⟨ty,fr,?_⟩
    have hne:b ≠ b':=by rintro rfl; rw [hb] at e; cases e
    have aE:b'<w.heap.size:=by
      rcases d6 b' w.heap.size with h | h
      · exact h
      · rw [ed h] at e'; cases e'
    have e2:(Sort.putRow (fun x:Lrow imm=>x.v) (Sort.ahead w m) b off dk).heap[b']?=some (.cells c ty fr):=by
      unfold Sort.putRow
      rw [zK4 hne]; exact e'
    unfold sortWorld Sort.grow
    show (_++os)[b']?=_
    rw [ic (by rw [Sort.size_putRow]; exact aE)]
    exact e2
  have h:=hr x y _ (zL9 hW)
  rw [show (#[x.v,y.v] ++ #[]:Array Value)=([x.v,y.v]:List Value).toArray by simp]
  refine h.mono fun e w' he=>?_
  cases e with
  | returned u =>
    obtain ⟨i,ah,⟨rfl,rfl⟩,g'⟩:=he
    exact ⟨rfl,zN6 g'⟩
  | panicked c=>exact he.elim
  | outgrown=>exact he.elim
theorem zN8 {P:Program}{f g:FuncId}{imm:Imm}
    (hc:∀ (blk off cap:Nat) (d:Array (Lrow imm)) (w:World),CmpLays1 P g #[] (fun x:Lrow imm=>x.v) cfR blk off d.size w->Sort.Holds (fun x:Lrow imm=>x.v) w blk off d->blk<w.heap.size->d.size<4611686018427387904 ->
      Calls P f #[.slice (some ⟨blk,off,none⟩) d.size cap,.func (.func g) #[] #[]] w fun e w'=>e=.returned (.tuple #[])/\∃ d' n os,PermIn 0 d.size d d'/\SortedIn (ltOf cfR) 0 d.size d'/\w'=sortWorld (fun x:Lrow imm=>x.v) w blk off n d' os)
    (hn:∀ w:World,Calls P f #[.slice none 0 0,.func (.func g) #[] #[]] w fun e w'=>e=.returned (.tuple #[])/\∃ n os,w'=Sort.grow (w.drewN n) os)
    (hr:∀ x y:Lrow imm,Ret P g [x.v,y.v] imm [] fun _ _ ah u=>ah=[]/\u=.int .i64 (cmpL x.l y.l))
    {s:List (List Int)} (hs:s.length<4611686018427387904) (hsb:∀ l∈s,l.length<4611686018427387904) {p:Option Addr}{c:Nat}{cs:List Value} (h:RL imm cs s) {post:Nat->Imm->List HA->Value->Prop}
    (hp:∀ k cs',RL imm cs' (srtL s)->post k imm [hO (List Int) (vS p (srtL s) c) cs'] (tupV [])) :
    Ret P f [vS p s c,.func (.func g) #[] #[]] imm [hO (List Int) (vS p s c) cs] post:=by
  intro w gd
  obtain ⟨ds,e1,e2⟩:=zMG h hsb
  have hl:ds.length=s.length:=by rw [<- e2,dt]
  have hsl:(srtL s).length=s.length:=List.length_mergeSort s
  rcases gd.own _ (cj ..) with ⟨e,ecs⟩ | ⟨b,off,len,cap,all,ty,e,h1,h2,hw,hcap,hlc,cd,hal,hM⟩
  · injection e with k1 k2 k3
    have hs0:s=[]:=dw.1 k2
    subst hs0; subst k1; subst k3; subst ecs
    refine (hn w).mono fun e w' ⟨he,n,os,hw'⟩=>?_
    subst he; subst hw'
    have e0:srtL []=[]:=by simp [srtL]
    rw [e0] at hp
    exact ⟨imm,_,hp _ [] RepL.nil,gd.grow n os⟩
  · injection e with k1 k2 k3
    subst k1; subst k2; subst k3
    simp only [show Rp.sz (List Int)=1 from rfl,f5] at hcap cd hal
    have hcell:∀ q,q<s.length->all[off+q]?=some (ds.toArray[q]!).v:=by
      intro q hq
      have hq':q<ds.length:=by omega
      have h0:cs[q]?=some (ds.toArray[q]!).v:=by
        rw [<- e1,dv,cg hq',Option.map_some,getElem!_pos ds.toArray q (by simpa using hq')]
        simp
      rw [<- hal,dy,if_pos hq,dr,f3] at h0
      exact h0
    have hsz0:ds.toArray.size=s.length:=by simpa using hl
    have hH:Sort.Holds (fun x:Lrow imm=>x.v) w b off ds.toArray:=by
      intro q hq
      rw [hsz0] at hq
      refine ⟨?_,?_⟩
      · simp only [World.cell?,hw,Option.isSome_none,cI,if_false]
        exact hcell q hq
      · simp only [World.frozen?,hw]
        simp
    have aE:b<w.heap.size:=(gd.mem_lt (b:=b) (by simp [HA.fp])).1
    have hc':=hc b off c ds.toArray w (zN7 hr gd.inv h2) hH aE (by omega)
    rw [hsz0] at hc'
    refine hc'.mono fun e w' ⟨he,d',n,os,hP,hS,hw'⟩=>?_
    subst he; subst hw'
    have hsr:d'.toList.map (·.l)=srtL s:=by rw [<- hsz0] at hP hS; rw [zPc hP hS]; simp [e2]
    have hd':d'.size=s.length:=by rw [hP.1,hsz0]
    let all':=Sort.putCells (fun x:Lrow imm=>x.v) off d' all
    have bV:all'.size=all.size:=by simp [all',Sort.putCells]
    have hw2:Sort.putRow (fun x:Lrow imm=>x.v) (Sort.ahead w n) b off d'=setBlk (Sort.ahead w n) b (.cells all' ty (0,0)):=by
      unfold Sort.putRow Sort.mapBlock setBlk
      congr 1
      apply gk
      intro k
      rw [gx,fx]
      by_cases hk:b=k
      · subst hk
        have hw3:(Sort.ahead w n).heap[b]?=some (.cells all ty (0,0)):=hw
        have hlt':b<(Sort.ahead w n).heap.size:=aE
        rw [if_pos rfl,if_pos rfl,if_pos hlt',hw3]
        rfl
      · rw [if_neg hk,if_neg hk]
    have hg2:Good ⟨w,imm,(([hO (List Int) (vS (some ⟨b,off,none⟩) s c) cs]:List HA)).flatMap HA.fp⟩ imm [hO (List Int) (vS (some ⟨b,off,none⟩) s c) cs] (Sort.ahead w n):=gd.draw _ (ga _ _)
    have hget:∀ k,k<s.length->all'[off+k]?=some (d'[k]!).v:=by
      intro k hk
      have h0:=hcell k hk
      simp only [all',Sort.putCells,Array.getElem?_mapIdx,h0,Option.map_some]
      rw [if_pos ⟨by omega,by omega⟩,show off+k - off=k by omega]
    have hRL:RL imm (d'.toList.map (·.v)) (srtL s):=by rw [<- hsr]; exact zMH _
    have hlen':(d'.toList.map (·.v)).length=s.length:=by simp [hd']
    refine ⟨imm,_,hp _ (d'.toList.map (·.v)) hRL,?_⟩
    have hg3:Good ⟨w,imm,(([hO (List Int) (vS (some ⟨b,off,none⟩) s c) cs]:List HA)).flatMap HA.fp⟩ imm [hO (List Int) (vS (some ⟨b,off,none⟩) (srtL s) c) (d'.toList.map (·.v))] (Sort.putRow (fun x:Lrow imm=>x.v) (Sort.ahead w n) b off d'):=by
      rw [hw2]
      refine hg2.write (A':=.osl (vS (some ⟨b,off,none⟩) (srtL s) c) (Rp.sz (List Int)) (d'.toList.map (·.v))) (b:=b) (by simp [HA.fp]) (by simp [HA.fp]) _ (.inr ⟨b,off,_,c,all',ty,rfl,h1,h2,?_,?_,?_,?_,?_,hM⟩)
      · exact fR (show b<(Sort.ahead w n).heap.size from aE)
      · rw [bV,show Rp.sz (List Int)=1 from rfl,f5]; exact hcap
      · rw [hsl]; exact hlc
      · rw [hlen',hsl,show Rp.sz (List Int)=1 from rfl,f5]
      · apply fk
        intro k
        rw [show Rp.sz (List Int)=1 from rfl,f5,hsl,dy,dr,f3]
        by_cases hk:k<s.length
        · rw [if_pos hk,hget k hk,dv,f3,dd (by omega),Option.map_some,getElem!_pos d' k (by omega)]
        · rw [if_neg hk,ea (by omega)]
    exact hg3.grow 0 os
end Go.LN
namespace Go.LN
def Win (p:Option Addr) (sz:Nat) (k:Int) (wa:Option Addr) (n:Nat):Prop:=n=0∨p=none∨∃ b off,p=some ⟨b,off,none⟩/\0<=k/\wa=some ⟨b,off+k.toNat*sz,none⟩
theorem Win.mono {i j:Imm}{p:Option Addr}{sz:Nat}{k:Int}{wa:Option Addr}{n:Nat} (h:Win p sz k wa n) (_:i.le j):Win p sz k wa n:=h
instance {i j:Imm}{p:Option Addr}{sz:Nat}{k:Int}{wa:Option Addr}{n:Nat}:Mo (Win p sz k wa n) i j (Win p sz k wa n):=⟨fun _ x=>x⟩
section
variable {P:Program}{n:Nat}{B:Base}{af:List Oper}{Q:Exit->Act->World->Prop}{pc:Nat}{imm:Imm}{hs:List HA}{m:FM}{d:Nat}
  {ty:TypeId}{pos:String}{after:Array Edge}{g:Option (Nat×Bool)}
theorem zQU {α:Type} [Rp α] {t:TypeId}{x lo:Operand}{p:Option Addr}{c:Nat}{i:Int}{cs:List Value}{l y:List α} (j:Nat)
    (ho:af[pc]?=some ⟨some d,.slice t x (some lo) none none,ty,pos,after,g⟩) (hj:hs[j]?=some (.osl (vS p l c) (Rp.sz α) cs)) (hr:RepL (Rp.rep imm) (Rp.sz α) cs l) (hy:slc l i l.length=some y)
    (next:∀ wa wc,Win p (Rp.sz α) i wa y.length->R P n B af Q (pc+1) imm hs ((d,vS wa y wc)::m)) (hx:val m x=some (vS p l c):=by kernel_rfl) (hlo:bnd m 0 (some lo)=some i:=by kernel_rfl)
    (hg:guardB af m g=some true:=by kernel_rfl) (hn:Nat.blt d n=true:=by kernel_rfl) (ht:elemT P t=some (Rp.sz α):=by kernel_rfl):R P n B af Q pc imm hs m:=by
  refine mT ho hg rfl hn fun a w f gd=>?_
  unfold slc at hy
  split at hy
  · rename_i hb
    cases hy
    have hz:=Rp.pos (α:=α)
    have aU:=hr.length
    have hyl:((l.take ((l.length:Int)).toNat).drop i.toNat).length=l.length - i.toNat:=by simp
    obtain ⟨e,hu,hse⟩:∃ e,P.underlying t=some (.slice e)/\sizeT P e=some (Rp.sz α):=by
      unfold elemT at ht
      split at ht
      · rename_i e hu; exact ⟨e,hu,ht⟩
      · cases ht
    have hlc:l.length<=c/\(p=none∨∃ b off,p=some ⟨b,off,none⟩):=by
      rcases gd.own _ (tV hj) with ⟨e1,_⟩ | ⟨b,off,len,cap,all,ty',e1,_,_,_,_,hlc,_⟩
      · injection e1 with k1 k2 k3; exact ⟨by omega,.inl k1⟩
      · injection e1 with k1 k2 k3; exact ⟨by omega,.inr ⟨b,off,k1⟩⟩
    have hbd:=dO (P:=P) (w:=w) f hlo (show bnd m l.length none=some (l.length:Int) from rfl) hb.1 hb.2.1 hb.2.2 hlc.1
    have hk:((l.length:Int)).toNat=l.length:=gq _
    rw [hk,Option.map_none] at hbd
    have hne:=next (if c=i.toNat then p else p.map (·.add (i.toNat*Rp.sz α))) (c - i.toNat) (by
      rw [hyl]
      by_cases h0:l.length - i.toNat=0
      · exact .inl h0
      · rw [if_neg (by omega)]
        rcases hlc.2 with hp | ⟨b,off,hp⟩
        · exact .inr (.inl hp)
        · refine .inr (.inr ⟨b,off,hp,hb.1,?_⟩)
          rw [hp,Option.map_some,kS])
    unfold vS at hne
    rw [hyl] at hne
    refine ⟨_,w,imm,hs,?_,gd,hne⟩
    simp only [execOp,f.eval hx,Option.map_none,Instr.sliceAt,Instr.slice,Sem.run_bind,xB hu,Result.andThen_ok,hbd,qY hse,Sem.run_pure]
  · cases hy
theorem zN9 {α:Type} [Rp α] {t:TypeId}{x xi:Operand}{p wa:Option Addr}{c wc:Nat}{i k0:Int}{cs:List Value}{l lw:List α}{y y0:α} (j:Nat)
    (ho:af[pc]?=some ⟨some d,.indexAddr t x xi,ty,pos,after,g⟩) (hi:val m xi=some (.int .i64 i)) (hw:Win p (Rp.sz α) k0 wa lw.length) (hj:hs[j]?=some (.osl (vS p l c) (Rp.sz α) cs)) (hr:RepL (Rp.rep imm) (Rp.sz α) cs l)
    (h0:idx lw i=some y0) (hy:idx l (k0+i)=some y)
    (next:∀ ad cc,AtO (vS p l c) (Rp.sz α) (k0+i).toNat ad->(cs.drop ((k0+i).toNat*Rp.sz α)).take (Rp.sz α)=cc->Rp.rep imm cc y->R P n B af Q (pc+1) imm hs ((d,.pointer (some ad))::m))
    (hx:val m x=some (vS wa lw wc):=by kernel_rfl) (hg:guardB af m g=some true:=by kernel_rfl) (hn:Nat.blt d n=true:=by kernel_rfl) (ht:elemT P t=some (Rp.sz α):=by kernel_rfl):R P n B af Q pc imm hs m:=by
  obtain ⟨a0,a1,a2⟩:=vW h0
  obtain ⟨b0,b1,b2⟩:=vW hy
  refine mT ho hg rfl hn fun a w f gd=>?_
  have aU:=hr.length
  obtain ⟨am,hbd⟩:=hr.at b2
  rcases gd.readO (tV hj) with ⟨e,e2⟩ | ⟨b,off,len,cap,cc,ty',fr,e,hw',bN,cd,bU⟩
  · have:=Rp.pos (α:=α)
    rw [e2] at hbd
    simp at hbd; omega
  · injection e with k1 k2 k3
    have hll:len=l.length:=oY (Rp.pos (α:=α)) (by omega)
    rcases hw with h | h | ⟨b',off',hp,hk,hwa⟩
    · omega
    · rw [h] at k1; cases k1
    · rw [hp] at k1
      injection k1 with k1
      injection k1 with k4 k5
      subst k4; subst k5
      have hadd:off'+k0.toNat*Rp.sz α+i.toNat*Rp.sz α=off'+(k0+i).toNat*Rp.sz α:=by
        rw [show (k0+i).toNat=k0.toNat+i.toNat by omega,fg,fl]
      subst hwa
      refine ⟨.pointer (some ⟨b',off'+k0.toNat*Rp.sz α+i.toNat*Rp.sz α,none⟩),w,imm,hs,by simp only [execOp,f.eval hx,f.eval hi,Sem.run_bind,zBV ht a0 a1,Result.andThen_ok,Sem.run_pure],gd,?_⟩
      rw [hadd]
      exact next _ _ ⟨b',off',l.length,c,by rw [hp],rfl,by omega⟩ rfl am
end
end Go.LN
