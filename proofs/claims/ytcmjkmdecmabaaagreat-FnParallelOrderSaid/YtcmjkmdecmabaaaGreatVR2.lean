/- Helper of the proof (see the last text). -/
import Derived.Test.YtcmjkmdecmabaaaGreatVC1
import Derived.Test.YtcmjkmdecmabaaaGreatVB1
set_option linter.unusedVariables false
set_option linter.unusedSimpArgs false
namespace Go.LN
def chF (cs:List Int) (n0 many:Nat):Int:=if cs.length=0 then 0 else if (cs.getD (n0 % cs.length) 0).tmod (many:Int)>0 then (cs.getD (n0 % cs.length) 0).tmod (many:Int) else 0
theorem zM4 (cs:List Int) (n0:Nat) {many:Nat} (hm:0<many):0<=chF cs n0 many/\chF cs n0 many<(many:Int):=by
  unfold chF;have aE:=Int.tmod_lt_of_pos (cs.getD (n0 % cs.length) 0) (show (0:Int)<(many:Int) by omega);split
  · omega
  · split <;> omega
theorem zLO {cs:List Int} (h:¬cs.length=0) (n0:Nat) {many:Nat} (hm:0<many):rem (n0:Int) (cs.length:Int)=some ((n0 % cs.length:Nat):Int)/\idx cs ((n0 % cs.length:Nat):Int)=some (cs.getD (n0 % cs.length) 0)/\rem (cs.getD (n0 % cs.length) 0) (many:Int)=some ((cs.getD (n0 % cs.length) 0).tmod (many:Int)):=by
  have hq:n0 % cs.length<cs.length:=Nat.mod_lt _ (by omega);refine ⟨?_,?_,?_⟩
  · unfold rem;rw [if_neg (by omega)]; rfl
  · rw [yJ hq]; simp [hq]
  · unfold rem;rw [if_neg (by omega)]
theorem implCh (cs:List Int) (n0:Nat) {many:Nat} (hm:0<many):dJ cs (n0:Int) (many:Int)=some (chF cs n0 many):=by
  unfold dJ chF;by_cases h:cs.length=0
  · have e:((cs.length:Int)==0)=true:=by simp [h]
    rw [if_pos e,if_pos h]; rfl
  · have e:¬(((cs.length:Int)==0)=true):=by simp; intro e; exact h (by rw [e]; rfl)
    obtain ⟨h1,h2,h3⟩:=zLO h n0 hm;rw [if_neg e,if_neg h];simp only [h1,h2,h3,oB,oS,oP,id]
theorem specCh (cs:List Int) (n0:Nat) {many:Nat} (hm:0<many):kY cs (n0:Int) (many:Int)=some (chF cs n0 many):=by
  unfold kY chF;by_cases h:cs.length=0
  · have e:((cs.length:Int)==0)=true:=by simp [h]
    rw [if_pos e,if_pos h]; rfl
  · have e:¬(((cs.length:Int)==0)=true):=by simp; intro e; exact h (by rw [e]; rfl)
    obtain ⟨h1,h2,h3⟩:=zLO h n0 hm;rw [if_neg e,if_neg h];simp only [h1,h2,h3,oB,oS,oP,id];generalize (cs.getD (n0 % cs.length) 0).tmod (many:Int)=q;by_cases h4:q<0
    · rw [if_pos (by simpa using h4),if_neg (by omega)]
    · rw [if_neg (by simpa using h4)];by_cases h5:q>0
      · rw [if_pos h5]
      · rw [if_neg h5]; exact congrArg some (by omega)
def asI (l:List Nat):List Int:=l.map fun x:Nat=>(x:Int)
def aI2 (l:List (List Nat)):List (List Int):=l.map asI
def aI3 (l:List (List (List Nat))):List (List (List Int)):=l.map aI2
theorem zOC (l:List Nat) (i:Nat):asI (l++[i])=asI l++[(i:Int)]:=by simp [asI]
theorem zB9 (l m:List Nat):asI (l++m)=asI l++asI m:=by simp [asI]
theorem oR (l:List Nat):(asI l).length=l.length:=by simp [asI]
theorem zPH {l:List Nat}{i:Nat} (h:i<l.length):idx (asI l) (i:Int)=some ((l[i]:Nat):Int):=by rw [yJ (by rw [oR]; exact h)]; simp [asI]
theorem zI6 (l:List (List Nat)) (i:List Nat):aI2 (l++[i])=aI2 l++[asI i]:=by simp [aI2]
theorem zFt (l:List (List (List Nat))) (i:List (List Nat)):aI3 (l++[i])=aI3 l++[aI2 i]:=by simp [aI3]
def Jf (P:zD) (part:Int) (i:Nat):List Nat:=(List.range i).filter fun i=>(zIns P i).Part==part
def ptl (P:zD) (part:Int):List Nat:=Jf P part (progI P).length
def ky (P:zD) (k i:Nat):List Int:=(zIns P i).Point.take k
theorem zPI (P:zD) (part:Int) (i:Nat):Jf P part (i+1)=if (zIns P i).Part=part then Jf P part i++[i] else Jf P part i:=by
  unfold Jf;rw [List.range_succ,List.filter_append];by_cases h:(zIns P i).Part=part <;> simp [h]
theorem zBp {P:zD}{part:Int}{n i:Nat}:i∈Jf P part n↔i<n/\(zIns P i).Part=part:=by
  unfold Jf;rw [d5,cC];simp
theorem zOD (P:zD) (part:Int) (n:Nat):(Jf P part n).Pairwise (· < ·):=List.Pairwise.filter _ List.pairwise_lt_range
theorem zOE (P:zD) (part:Int) (n:Nat):(Jf P part n).length<=n:=by
  unfold Jf;exact cX (f1 _ _) (by simp)
theorem zLP:∀ (k:Nat) {a b:List Int},lexlt a b->a.take k=b.take k∨lexlt (a.take k) (b.take k)
  | 0,a,b,_=>.inl (by simp)
  | k+1,x::a,y::b,h=>by
    rcases h with h | ⟨rfl,h⟩
    · exact .inr (.inl h)
    · rcases zLP k h with e | e
      · exact .inl (by simp [e])
      · exact .inr (.inr ⟨rfl,e⟩)
  | k+1,[],_,h=>h.elim
  | k+1,_::_,[],h=>h.elim
def leP (a b:List Int):Prop:=a=b∨lexlt a b
theorem zOF (a b:List Int) (h:leP a b) (h2:leP b a):a=b:=by
  rcases h with h | h
  · exact h
  · rcases h2 with h2 | h2
    · exact h2.symm
    · exact (zLF (zDe h h2)).elim
theorem zQ0 {P:zD}{i j:Nat} (k:Nat) (h:i<j) (hj:j<(progI P).length) (hp:(zIns P i).Part=(zIns P j).Part):leP (ky P k i) (ky P k j):=by
  rcases zI4 h hj with h | ⟨_,h | ⟨h,_⟩⟩
  · omega
  · exact zLP k h
  · exact .inl (by unfold ky; rw [h])
theorem zKD (P:zD) (part:Int) (k:Nat):Cont (ky P k) (ptl P part):=by
  refine zPG (ky P k) zOF ((zOD P part _).imp_of_mem fun {i j} hi hj h=>?_);have hi:=zBp.1 hi;have hj:=zBp.1 hj;exact zQ0 k h hj.1 (by rw [hi.2,hj.2])
theorem zPJ {P:zD}{k i j:Nat} (h:ky P (k+1) i=ky P (k+1) j):ky P k i=ky P k j:=by
  have:=congrArg (List.take k) h;unfold ky at this ⊢;rwa [er,er,Nat.min_eq_left (by omega)] at this
theorem zI7 {L:List (List Nat)}{l g:List Nat} (h:L.flatten=l) (hg:g∈L):∃ p q,l=p++g++q:=by
  obtain ⟨s,t,rfl⟩:=List.append_of_mem hg;exact ⟨s.flatten,t.flatten,by rw [<- h]; simp⟩
theorem zLQ {P:zD}{part:Int}{k:Nat}{g:List Nat} (hg:g∈grp (ky P k) (ptl P part)) (k2:Nat):Cont (ky P k2) g:=by
  obtain ⟨p,q,e⟩:=zI7 (rE (ky P k) (ptl P part)) hg;have:=zKD P part k2;rw [e] at this;exact this.mid
theorem zH1 {P:zD}{part:Int}{k:Nat}{g:List Nat} (hg:g∈grp (ky P k) (ptl P part)) {a:Nat} (ha:a∈g):a∈ptl P part:=by
  rw [<- rE (ky P k) (ptl P part)];exact gb.2 ⟨g,hg,ha⟩
theorem zLx {P:zD}{part:Int}{k:Nat}{g:List Nat} (hg:g∈grp (ky P k) (ptl P part)) {r:List Nat} (hr:r∈grp (ky P (k+1)) g) {c:List Int} (hc:keyOf (ky P (k+1)) r=some c) :
    (ptl P part).filter (fun a=>decide (ky P (k+1) a=c))=r:=by
  have h1:=(zFs (ky P (k+1)) g (zLQ hg _)).1 r hr c hc
  obtain ⟨g1,g2⟩:=fL (ky P k) (ptl P part) g hg
  obtain ⟨r1,r2⟩:=fL (ky P (k+1)) g r hr
  obtain ⟨a0,ha0⟩:=List.exists_mem_of_ne_nil r r1
  have ha1:a0∈g:=by rw [<- rE (ky P (k+1)) g]; exact gb.2 ⟨r,hr,ha0⟩
  have hk0:ky P (k+1) a0=c:=by have:=(r2 a0 ha0).symm.trans hc; exact Option.some.inj this
  have hgf:=(zFs (ky P k) (ptl P part) (zKD P part k)).1 g hg (ky P k a0) (g2 a0 ha1)
  rw [<- h1]
  conv=>rhs; rw [<- hgf]
  rw [ia]
  refine gp fun a ha=>?_
  by_cases h:ky P (k+1) a=c
  · have:=zPJ (h.trans hk0.symm)
    simp [h,this]
  · simp [h]
theorem zBa {P:zD} (hb:BG P) (hv:validP P=true) {part:Int}{i:Nat} (hi:i<(progI P).length) (hp:(zIns P i).Part=part):(zIns P i).Point.length=(gP P part.toNat).Nest.length/\(zIns P i).Point.length<=4:=by
  have hs:=zHZ hb hv hi hi rfl;refine ⟨by rw [hs.2,hp],(zAg hb hv (zCp hi)).pt⟩
theorem zKE {P:zD} (hb:BG P) (hv:validP P=true) {part:Int}{i k:Nat} (hi:i<(progI P).length) (hp:(zIns P i).Part=part) (hk:k<=(gP P part.toNat).Nest.length):slc (zIns P i).Point 0 (k:Int)=some (ky P k i):=by
  have hl:=zBa hb hv hi hp;have s1:=zLo (s:=(zIns P i).Point) (f:=0) (i:=k) (fb _) (by omega);rw [nZ,cq] at s1;exact s1
theorem zQ1 {P:zD} (hb:BG P) (hv:validP P=true) {part:Int}{a b k:Nat} (ha:a<(progI P).length) (hpa:(zIns P a).Part=part) (hbn:b<(progI P).length) (hpb:(zIns P b).Part=part) (hk:k<(gP P part.toNat).Nest.length) :
    ∃ x y,idx (zIns P a).Point (k:Int)=some x/\idx (zIns P b).Point (k:Int)=some y/\(ky P k a=ky P k b->((x==y)=decide (ky P (k+1) a=ky P (k+1) b))):=by
  have la:=(zBa hb hv ha hpa).1
  have lb:=(zBa hb hv hbn hpb).1
  refine ⟨(zIns P a).Point[k],(zIns P b).Point[k],yJ (by omega),yJ (by omega),fun h=>?_⟩
  unfold ky at h ⊢
  rw [du (by omega),du (by omega),h]
  by_cases e:(zIns P a).Point[k]=(zIns P b).Point[k]
  · simp [e]
  · rw [beq_false_of_ne e]; symm; rw [decide_eq_false_iff_not]; intro h'; exact e (List.cons.inj (List.append_cancel_left h')).1
theorem zIx1 {P:zD}{i:Nat} (h:i<(progI P).length):idx (progI P) (i:Int)=some (zIns P i):=by rw [yJ h,zDd h]
theorem dM {α:Type}{xs:List α}{y:α} (h:xs.length<=1000000):idx (xs++[y]) (W (((xs++[y]).length:Int) - 1))=some y/\∀ z,(xs++[y]).set (W (((xs++[y]).length:Int) - 1)).toNat z=xs++[z]:=by
  have e:W (((xs++[y]).length:Int) - 1)=(xs.length:Int):=by rw [lA,en,sP (by omega) (by omega)]; omega
  rw [e];refine ⟨?_,fun z=>?_⟩
  · unfold idx;rw [if_pos (by omega),iN];simp
  · rw [iN]; simp
end Go.LN
namespace Go.LN
def gg (P:zD) (k:Nat) (l:List Nat):List (List (List Nat)):=(grp (ky P k) l).map (grp (ky P (k+1)))
theorem zPK {P:zD}{k:Nat}{l:List Nat}{gs:List (List Nat)}{g:List Nat}{hs:List (List Nat)}{h:List Nat}{b i:Nat} (e1:grp (ky P k) l=gs++[g]) (e2:grp (ky P (k+1)) g=hs++[h]) (hg:g.getLast?=some b) (hh:h.getLast?=some b) :
    gg P k (l++[i])=if ky P k b=ky P k i then gs.map (grp (ky P (k+1)))++[if ky P (k+1) b=ky P (k+1) i then hs++[h++[i]] else hs++[h]++[[i]]] else gs.map (grp (ky P (k+1)))++[hs++[h]]++[[[i]]]:=by
  unfold gg
  rw [zBJ,e1,zCS _ _ _ b i hg]
  by_cases hk:ky P k b=ky P k i
  · rw [if_pos hk,if_pos hk,de,dx,zBJ,e2,zCS _ _ _ b i hh]
  · rw [if_neg hk,if_neg hk,de,de,dx,dx,e2]; rfl
def lastI (l:List Nat):Int:=match l.getLast? with | some b=>(b:Int) | none=>-1
theorem app24 {α:Type}{l m:List α} (h:l.length+m.length<=1000000):app 24 l m=some (l++m):=oO (by omega)
theorem app8 {α:Type}{l m:List α} (h:l.length+m.length<=1000000):app 8 l m=some (l++m):=oO (by omega)
theorem zCh {κ:Type} [DecidableEq κ] (f:Nat->κ) (l:List Nat):(grp f l).length<=l.length:=by
  have h1:=rE f l;have h2:∀ L:List (List Nat),(∀ g∈L,g ≠ [])->L.length<=L.flatten.length:=by
    intro L
    induction L with
    | nil=>intro _; simp
    | cons g L ih =>
      intro h;have:=ih fun x hx=>h x (ci _ hx);have hg:=h g (cj ..);have:0<g.length:=List.length_pos_iff.2 hg;simp only [fj,lA,cx]; omega
  have:=h2 (grp f l) fun g hg=>(fL f l g hg).1;rwa [h1] at this
theorem zPL {P:zD} (hb:BG P) (hv:validP P=true) {part:Int}{k:Nat} (hk:k<(gP P part.toNat).Nest.length):∀ (j i:Nat),i+j=(progI P).length ->
    xZ (trcP P) part (k:Int) (aI3 (gg P k (Jf P part i))) (lastI (Jf P part i)) (i:Int)=some (aI3 (gg P k (ptl P part))):=by
  have aU:=(uT hv).2.2.2
  have hn4:k<4:=by
    by_cases hp:part.toNat<P.Parts.length
    · exact gi hk (nest4 hv hp)
    · exfalso
      have:gP P part.toNat=⟨[],[]⟩:=by unfold gP; simp [hp]
      rw [this] at hk; simp at hk
  intro j
  induction j with
  | zero =>
    intro i hi
    rw [xZ]
    have e:i=(progI P).length:=by omega
    subst e
    have:¬(((progI P).length:Int)<((trcP P).list.length:Int)):=by rw [zA4]; omega
    simp only [this,dF,bF,if_false,oP,id]; rfl
  | succ j ih =>
    intro i hi
    have hin:i<(progI P).length:=by omega
    have hc:((i:Int)<((progI P).length:Int)):=by omega
    rw [xZ]
    simp only [hc,dT,if_true,zA4,zIx1 hin,oB,oS]
    have ih:=ih (i+1) (by omega)
    rw [zPI] at ih
    by_cases hp:(zIns P i).Part=part
    · rw [if_pos hp] at ih
      have hJl:=zOE P part i
      simp only [hp,bne_self_eq_false,bF,if_false]
      have hpi:=zKE hb hv hin hp (k:=k) (by omega)
      by_cases hJ:Jf P part i=[]
      · rw [hJ] at ih ⊢
        have e0:lastI ([]:List Nat)=-1:=rfl
        have e1:gg P k []=[]:=rfl
        have e2:W (((aI3 ([]:List (List (List Nat)))++[[]]).length:Int) - 1)=0:=by decide
        have e3:W ((([]++[[]]:List (List Int)).length:Int) - 1)=0:=by decide
        rw [e0,e1]
        simp only [show ¬((-1:Int)>=0) by omega,dF,bF,if_false,oS,oP,aI3,fa]
        rw [app24 (by simp)]
        simp only [oS,cu,en]
        have e4:W ((((1:Nat):Int)) - 1)=0:=by decide
        rw [e4]
        have e5:idx ([[]]:List (List (List Int))) 0=some []:=rfl
        simp only [e5,oS]
        rw [app24 (by simp)]
        simp only [oS,cu,en]
        rw [e4]
        have e6:idx ([[]]:List (List Int)) 0=some []:=rfl
        simp only [e6,oS]
        rw [app8 (by simp)]
        simp only [oS,cu]
        rw [wB (by omega)]
        have e7:aI3 (gg P k ([]++[i]))=[[[(i:Int)]]]:=rfl
        have e8:lastI ([]++[i])=(i:Int):=rfl
        rw [e7,e8] at ih
        exact ih
      · obtain ⟨gs,g,e1,hg,hgl⟩:=zCR (ky P k) _ hJ
        obtain ⟨hs,h,e2,hh,hhl⟩:=zCR (ky P (k+1)) g hg
        obtain ⟨b,hb'⟩:∃ b,g.getLast?=some b:=by rw [eu hg]; exact ⟨_,rfl⟩
        have hJb:(Jf P part i).getLast?=some b:=hgl ▸ hb'
        obtain ⟨hbi,hbp⟩:=zBp.1 (fi hJb)
        have hbn:b<(progI P).length:=by omega
        have hpb:=zKE hb hv hbn hbp (k:=k) (by omega)
        obtain ⟨x,y,hx,hy,hxy⟩:=zQ1 hb hv hbn hbp hin hp hk
        have hE:=implEqR (ky P k b) (ky P k i) (by unfold ky; rw [cv]; omega)
        rw [zPK e1 e2 hb' (hhl ▸ hb')] at ih
        have e0:lastI (Jf P part i)=(b:Int):=by unfold lastI; rw [hJb]
        have e8:lastI (Jf P part i++[i])=(i:Int):=by unfold lastI; simp
        have eg:gg P k (Jf P part i)=gs.map (grp (ky P (k+1)))++[hs++[h]]:=by unfold gg; rw [e1,de,dx,e2]
        rw [e8] at ih
        rw [e0,eg]
        have lg:gs.length+1<=120:=by have:=zCh (ky P k) (Jf P part i); rw [e1] at this; simp at this; omega
        have lJ:(grp (ky P k) (Jf P part i)).flatten.length<=120:=by rw [rE]; omega
        have lgg:g.length<=120:=by
          rw [e1] at lJ; simp at lJ; omega
        have lh:hs.length+1<=120:=by have:=zCh (ky P (k+1)) g; rw [e2] at this; simp at this; omega
        have lhh:h.length<=120:=by
          have:(grp (ky P (k+1)) g).flatten.length<=120:=by rw [rE]; exact lgg
          rw [e2] at this; simp at this; omega
        simp only [show ((b:Int)>=0) by omega,dT,if_true,zIx1 hbn,oS,hpb,hpi,hE,oP,id]
        have lx:(aI3 (gs.map (grp (ky P (k+1))))).length<=1000000:=by simp [aI3]; omega
        have ly:(aI2 hs).length<=1000000:=by simp [aI2]; omega
        by_cases hk1:ky P k b=ky P k i
        · rw [if_pos hk1] at ih
          simp only [hk1,dT,if_true,hx,hy,oS]
          rw [zFt]
          simp only [(dM lx).1,oS]
          rw [hxy hk1]
          by_cases hk2:ky P (k+1) b=ky P (k+1) i
          · rw [if_pos hk2] at ih
            simp only [hk2,dT,if_true,oS]
            rw [zI6]
            simp only [(dM ly).1,oS]
            rw [app8 (by rw [oR]; simp; omega)]
            simp only [oS]
            rw [(dM ly).2,(dM lx).2,wB (by omega)]
            rw [zFt,zI6,zOC] at ih
            exact ih
          · rw [if_neg hk2] at ih
            simp only [hk2,dF,bF,if_false]
            rw [app24 (by simp [aI2]; omega)]
            simp only [oS]
            have lz:(aI2 (hs++[h])).length<=1000000:=by simp [aI2]; omega
            simp only [(dM lz).1,oS]
            rw [app8 (by simp)]
            simp only [oS]
            rw [(dM lz).2,(dM lx).2,wB (by omega)]
            rw [zFt,zI6] at ih
            exact ih
        · rw [if_neg hk1] at ih
          simp only [hk1,dF,bF,if_false,oS]
          have lx2:(aI3 (gs.map (grp (ky P (k+1)))++[hs++[h]])).length<=1000000:=by simp [aI3]; omega
          rw [app24 (by simp [aI3]; omega)]
          simp only [oS,(dM lx2).1]
          rw [app24 (by simp)]
          simp only [oS,cu,en]
          have e4:W ((((1:Nat):Int)) - 1)=0:=by decide
          rw [e4]
          have e6:idx ([[]]:List (List Int)) 0=some []:=rfl
          simp only [e6,oS]
          rw [app8 (by simp)]
          simp only [oS,cu]
          rw [(dM lx2).2,wB (by omega)]
          rw [zFt (l:=_++[hs++[h]])] at ih
          exact ih
    · rw [if_neg hp] at ih
      have:((zIns P i).Part != part)=true:=by simp [hp]
      simp only [this,if_true]
      rw [wB (by omega)]
      exact ih
theorem iterV {P:zD} (hb:BG P) (hv:validP P=true) {part:Int}{k:Nat} (hk:k<(gP P part.toNat).Nest.length):qT (trcP P) part (k:Int)=some (aI3 (gg P k (ptl P part))):=by
  unfold qT;have:=zPL hb hv hk (progI P).length 0 (cw _);have e:aI3 (gg P k (Jf P part 0))=[]:=rfl;have e2:lastI (Jf P part 0)=-1:=rfl;rw [e,e2] at this;have this2:xZ (trcP P) part (k:Int) [] (-1) 0=some (aI3 (gg P k (ptl P part))):=this;rw [this2]; rfl
theorem gather {F:List Int->Int->Option (List Int)}{n:Nat} (hn:n<=100000) (p:Nat->Bool) (step:∀ (o:List Int) (i:Nat),i<n->F o (i:Int)=if p i then (app 8 o [(i:Int)]).bind fun o'=>F o' ((i+1:Nat):Int) else F o ((i+1:Nat):Int)) (fin:∀ o,F o (n:Int)=some o) :
    ∀ (j i:Nat) (o:List Int),i+j=n->o.length+j<=900000->F o (i:Int)=some (o++asI ((List.range' i j).filter p)):=by
  intro j
  induction j with
  | zero =>
    intro i o hi _
    rw [show i=n by omega,fin]; simp [asI]
  | succ j ih =>
    intro i o hi ho
    rw [step o i (by omega),dh,List.filter_cons]
    cases hp:p i with
    | true =>
      simp only [if_true]
      rw [app8 (by simp; omega)]
      simp only [oS]
      rw [ih (i+1) _ (by omega) (by simp; omega)]
      simp [asI]
    | false =>
      simp only [bF,if_false]
      exact ih (i+1) o (by omega) (by omega)
theorem gather0 {F:List Int->Int->Option (List Int)}{n:Nat} (hn:n<=100000) (p:Nat->Bool) (step:∀ (o:List Int) (i:Nat),i<n->F o (i:Int)=if p i then (app 8 o [(i:Int)]).bind fun o'=>F o' ((i+1:Nat):Int) else F o ((i+1:Nat):Int)) (fin:∀ o,F o (n:Int)=some o) (o:List Int) (ho:o.length<=800000) :
    F o 0=some (o++asI ((List.range n).filter p)):=by
  have:=gather hn p step fin n 0 o (cw _) (by omega)
  rw [List.range_eq_range']
  exact this
def ptR (P:zD) (a b:Int):List Nat:=(List.range (progI P).length).filter fun i=>decide (a<=(zIns P i).Part)&&decide ((zIns P i).Part<b)
theorem specParts {P:zD} (hv:validP P=true) (a b:Int):gI (progI P) a b=some (asI (ptR P a b)):=by
  have aU:=(uT hv).2.2.2;unfold gI;have:=gather0 (F:=fun o i=>qF (progI P) a b o i) (n:=(progI P).length) (by omega) (fun i=>decide (a<=(zIns P i).Part)&&decide ((zIns P i).Part<b)) (fun o i hi=>by
    rw [qF];have hc:((i:Int)<((progI P).length:Int)):=by omega
    simp only [hc,dT,if_true,zIx1 hi,oB,oS,oP,id];rw [wB (by omega)];by_cases h1:(zIns P i).Part>=a
    · by_cases h2:(zIns P i).Part<b
      · simp [h1,h2]
      · simp [h1,h2]
    · simp [h1,show ¬(a<=(zIns P i).Part) from h1]) (fun o=>by rw [qF]; simp) [] (by simp)
  rw [cu] at this;have this2:qF (progI P) a b [] 0=_:=this;rw [this2]; rfl
theorem specGroup {P:zD} (hb:BG P) (hv:validP P=true) {part:Int}{k:Nat} (hk:k<=(gP P part.toNat).Nest.length) {c:List Int} (hc:c.length=k):rD (progI P) part c=some (asI ((ptl P part).filter fun a=>decide (ky P k a=c))):=by
  have aU:=(uT hv).2.2.2;unfold rD;have:=gather0 (F:=fun o i=>qH (progI P) part c o i) (n:=(progI P).length) (by omega) (fun i=>(decide (ky P k i=c))&&((zIns P i).Part==part)) (fun o i hi=>by
    rw [qH];have bM:((i:Int)<((progI P).length:Int)):=by omega
    simp only [bM,dT,if_true,zIx1 hi,oB,oS,oP,id];rw [wB (by omega)];by_cases h1:(zIns P i).Part=part
    · have hs:=zKE hb hv hi h1 (k:=k) hk;have hE:=specEqR (ky P k i) c (by unfold ky; rw [cv]; have:=(zBa hb hv hi h1).2; omega);simp only [h1,bQ,if_true,hc,hs,hE,oS,ij];by_cases h2:ky P k i=c <;> simp [h2]
    · have:((zIns P i).Part==part)=false:=by simp [h1]
      simp [this]) (fun o=>by rw [qH]; simp) [] (by simp)
  rw [cu] at this;have this2:qH (progI P) part c [] 0=_:=this;rw [this2];unfold ptl Jf;rw [ia]; rfl
def hds (P:zD) (k:Nat) (l:List Nat):List (List Int):=(grp (ky P k) l).map fun g=>ky P k (g.headD 0)
theorem zOG {P:zD}{k:Nat}{l:List Nat}{i b:Nat} (hb:l.getLast?=some b):(∃ H,hds P k l=H++[ky P k b])/\hds P k (l++[i])=if ky P k b=ky P k i then hds P k l else hds P k l++[ky P k i]:=by
  have hl:l ≠ []:=by intro e; rw [e] at hb; cases hb
  obtain ⟨gs,g,e1,hg,hgl⟩:=zCR (ky P k) l hl;have hgb:g.getLast?=some b:=by rw [hgl,hb]
  have hgk:=(fL (ky P k) l g (by rw [e1]; simp)).2 b (fi hgb);have hgh:ky P k (g.headD 0)=ky P k b:=by
    unfold keyOf at hgk;cases g with
    | nil=>exact absurd rfl hg
    | cons a t=>exact Option.some.inj hgk
  unfold hds;refine ⟨⟨gs.map fun g=>ky P k (g.headD 0),by rw [e1,de,dx,hgh]⟩,?_⟩;rw [zBJ,e1,zCS _ _ _ b i hgb];split
  · rw [de,de,dx,dx]
    congr 3
    cases g with
    | nil=>exact absurd rfl hg
    | cons a t=>rfl
  · rw [de (l₂:=[[i]])]; rfl
theorem zKF {P:zD} (hb:BG P) (hv:validP P=true) {part:Int}{k:Nat} (hk:k<=(gP P part.toNat).Nest.length) {g:List Nat} (hg:∀ a∈g,a∈ptl P part) (hgl:g.length<=120):∀ (j i:Nat),i+j=g.length ->
    qG (progI P) (asI g) (k:Int) (hds P k (g.take i)) (i:Int)=some (hds P k g):=by
  intro j
  induction j with
  | zero =>
    intro i hi
    rw [qG]
    have:¬((i:Int)<((asI g).length:Int)):=by rw [oR]; omega
    simp only [this,dF,bF,if_false,oP,id]
    rw [df (by omega)]
  | succ j ih =>
    intro i hi
    have aE:i<g.length:=by omega
    rw [qG]
    have hc:((i:Int)<((asI g).length:Int)):=by rw [oR]; omega
    obtain ⟨hin,hip⟩:=zBp.1 (hg _ (gM aE))
    have hs:=zKE hb hv hin hip (k:=k) hk
    simp only [hc,dT,if_true,zPH aE,zIx1 hin,hs,oB,oS]
    have ih:=ih (i+1) (by omega)
    rw [du aE] at ih
    rw [wB (by omega)]
    by_cases h0:i=0
    · subst h0
      have e:hds P k ([]++[g[0]])=[ky P k g[0]]:=rfl
      rw [List.take_zero,e] at ih
      have e2:hds P k (g.take 0)=[]:=rfl
      rw [e2]
      simp only [cS,nZ,bQ,if_true,oS,oP,id]
      rw [app24 (by simp)]
      exact ih
    · obtain ⟨b,hbl⟩:∃ b,(g.take i).getLast?=some b:=by
        have:g.take i ≠ []:=by intro e; have:=congrArg List.length e; rw [cv,cS] at this; omega
        rw [eu this]; exact ⟨_,rfl⟩
      obtain ⟨⟨H,eH⟩,e1⟩:=zOG (P:=P) (k:=k) (i:=g[i]) hbl
      rw [e1] at ih
      rw [eH] at ih ⊢
      obtain ⟨hbn,hbp⟩:=zBp.1 (hg b (List.mem_of_mem_take (fi hbl)))
      have hE:=specEqR (ky P k b) (ky P k g[i]) (by unfold ky; rw [cv]; have:=(zBa hb hv hbn hbp).2; omega)
      have hl:(grp (ky P k) (g.take i)).length<=120:=by have:=zCh (ky P k) (g.take i); rw [cv] at this; omega
      have hHl:H.length+1<=120:=by have:=congrArg List.length eH; unfold hds at this; simp at this; omega
      have hne:(((H++[ky P k b]).length:Int)==0)=false:=by simp; omega
      simp only [hne,bF,if_false,(dM (xs:=H) (y:=ky P k b) (by omega)).1,oS,hE,oP,id]
      by_cases hk1:ky P k b=ky P k g[i]
      · rw [if_pos hk1] at ih
        simp only [hk1,dT,bT,bF,if_false,oS]
        rw [<- hk1]; exact ih
      · rw [if_neg hk1] at ih
        simp only [hk1,dF,dl,if_true]
        rw [app24 (by simp; omega)]
        exact ih
theorem specHeads {P:zD} (hb:BG P) (hv:validP P=true) {part:Int}{k:Nat} (hk:k<=(gP P part.toNat).Nest.length) {g:List Nat} (hg:∀ a∈g,a∈ptl P part) (hgl:g.length<=120):gJ (progI P) (asI g) (k:Int)=some (hds P k g):=by
  unfold gJ;have:=zKF hb hv hk hg hgl g.length 0 (cw _);have e:hds P k (g.take 0)=[]:=rfl;rw [e] at this;have this2:qG (progI P) (asI g) (k:Int) [] 0=_:=this;rw [this2]; rfl
end Go.LN
namespace Go.LN
def tkF (c:Nat->Nat->Nat):Nat->Nat->List (List Nat)->List Nat×Nat
  | 0,n,_=>([],n)
  | f+1,n,R=>if R.length=0 then ([],n) else ((R.getD (c n R.length) [])++(tkF c f (n+1) (R.eraseIdx (c n R.length))).1,(tkF c f (n+1) (R.eraseIdx (c n R.length))).2)
theorem zKG {α:Type}{R:List α}{k:Nat} (h:k<R.length):R.Perm (R[k]::R.eraseIdx k):=by
  rw [gr];have e:R=R.take k++R[k]::R.drop (k+1):=by rw [<- gC h,gt]
  conv=>lhs; rw [e]
  exact List.perm_middle
theorem zDn {c:Nat->Nat->Nat} (hc:∀ n m,0<m->c n m<m):∀ (f n:Nat) (R:List (List Nat)),R.length=f->(tkF c f n R).1.Perm R.flatten/\(tkF c f n R).2=n+f
  | 0,n,R,h=>by
    rw [dw.1 h]
    exact ⟨List.Perm.refl _,rfl⟩
  | f+1,n,R,h=>by
    rw [tkF,if_neg (by omega)]
    have hk:=hc n R.length (by omega)
    obtain ⟨h1,h2⟩:=zDn hc f (n+1) (R.eraseIdx (c n R.length)) (by rw [gz,if_pos hk]; omega)
    refine ⟨?_,by dsimp only; rw [h2]; omega⟩
    have e:R.getD (c n R.length) []=R[c n R.length]:=by simp [hk]
    dsimp only
    rw [e]
    have hp:=(zKG hk).flatten
    rw [fj] at hp
    exact (List.Perm.append_left _ h1).trans hp.symm
section
variable {κ:Type} (f:Nat->κ)
def RunsOk (R:List (List Nat)):Prop:=(R.map (keyOf f)).Nodup/\∀ r∈R,r.Pairwise (· < ·)/\∀ a∈r,keyOf f r=some (f a)
def Keeps (l:List Nat):Prop:=l.Pairwise fun a b=>f a=f b->a<b
theorem RunsOk.sub {κ:Type} (f:Nat->κ) {R S:List (List Nat)} (h:RunsOk f R) (hs:S.Sublist R):RunsOk f S:=⟨h.1.sublist (hs.map _),fun r hr=>h.2 r (hs.subset hr)⟩
theorem zLR {c:Nat->Nat->Nat} (hc:∀ n m,0<m->c n m<m):∀ (q n:Nat) (R:List (List Nat)),R.length=q->RunsOk f R->Keeps f (tkF c q n R).1
  | 0,n,R,h,_=>List.Pairwise.nil
  | q+1,n,R,h,hR=>by
    rw [tkF,if_neg (by omega)]
    have hk:=hc n R.length (by omega)
    have hl:(R.eraseIdx (c n R.length)).length=q:=by rw [gz,if_pos hk]; omega
    have e:R.getD (c n R.length) []=R[c n R.length]:=by simp [hk]
    dsimp only
    rw [e]
    refine dm.2 ⟨((hR.2 _ (gM hk)).1).imp (fun {a b} (h:a<b) (_:f a=f b)=>h),zLR hc q (n+1) _ hl (hR.sub f (List.eraseIdx_sublist ..)),fun a ha b hb hab=>?_⟩
    exfalso
    have hb2:=(zDn hc q (n+1) _ hl).1.mem_iff.1 hb
    obtain ⟨r,hr,hbr⟩:=gb.1 hb2
    have k1:=(hR.2 _ (gM hk)).2 a ha
    have k2:=(hR.2 r ((List.eraseIdx_sublist ..).subset hr)).2 b hbr
    have hp:=((zKG hk).map (keyOf f)).nodup_iff.1 hR.1
    rw [cJ,fw] at hp
    exact hp.1 (eb.2 ⟨r,hr,by rw [k2,k1,hab]⟩)
def row (t:Nat) (R:List (List Nat)):List Nat:=R.flatMap fun l=>l[t]?.toList
end
def foldT (T:Nat->List (List Nat)->List Nat×Nat):Nat->List (List (List Nat))->List Nat×Nat
  | n,[]=>([],n)
  | n,R::A=>((T n R).1++(foldT T (T n R).2 A).1,(foldT T (T n R).2 A).2)
theorem zBK {T:Nat->List (List Nat)->List Nat×Nat}:∀ (A:List (List (List Nat))) (n:Nat),(∀ R∈A,∀ n,(T n R).1.Perm R.flatten)->(foldT T n A).1.Perm (A.map List.flatten).flatten
  | [],n,_=>List.Perm.refl _
  | R::A,n,h=>by
    rw [foldT,cJ,fj]
    exact (h R (cj ..) n).append (zBK A _ fun S hS=>h S (ci _ hS))
theorem zLS {T:Nat->List (List Nat)->List Nat×Nat}{S:Nat->Nat->Prop}:∀ (A:List (List (List Nat))) (n:Nat),(∀ R∈A,∀ n,(T n R).1.Perm R.flatten/\(T n R).1.Pairwise S)->((A.map List.flatten).Pairwise fun g h=>∀ a∈g,∀ b∈h,S a b)->(foldT T n A).1.Pairwise S
  | [],n,_,_=>List.Pairwise.nil
  | R::A,n,h,hp=>by
    rw [cJ,gj] at hp
    rw [foldT]
    have hA:=fun Q hQ=>h Q (ci R hQ)
    refine dm.2 ⟨(h R (cj ..) n).2,zLS A _ hA hp.2,fun a ha b hb=>?_⟩
    have ha2:=(h R (cj ..) n).1.mem_iff.1 ha
    have hb2:=(zBK A _ fun Q hQ n=>(hA Q hQ n).1).mem_iff.1 hb
    obtain ⟨g,hg,hbg⟩:=gb.1 hb2
    exact hp.1 g hg a ha2 b hbg
end Go.LN
namespace Go.LN
def cF (cs:List Int) (n m:Nat):Nat:=(chF cs n m).toNat
theorem zI8 (cs:List Int):∀ n m,0<m->cF cs n m<m:=fun n m h=>by
  have:=zM4 cs n h;unfold cF; omega
theorem zPX (cs:List Int) {n m:Nat} (h:0<m):chF cs n m=((cF cs n m:Nat):Int):=by
  have:=zM4 cs n h;unfold cF; omega
def tkP (cs:List Int) (n:Nat) (R:List (List Nat)):List Nat×Nat:=tkF (cF cs) R.length n R
theorem zH2 (R:List (List Nat)):(aI2 R).length=R.length:=by simp [aI2]
theorem zPM {R:List (List Nat)}{k:Nat} (h:k<R.length):idx (aI2 R) (k:Int)=some (asI R[k]):=by rw [yJ (by rw [zH2]; exact h)]; simp [aI2]
theorem zI9 {R:List (List Nat)}{k:Nat} (h:k<R.length):R.flatten.length=R[k].length+(R.eraseIdx k).flatten.length:=by
  have:=(zKG h).flatten.length_eq;rw [fj,lA] at this;exact this
theorem zOH (cs:List Int):∀ (f n:Nat) (R:List (List Nat)) (out:List Int),R.length=f->R.flatten.length+out.length<=500000->f<=1000->n+f<=1000000 ->
    uE cs out (aI2 R) (n:Int)=some (out++asI (tkF (cF cs) f n R).1,(((tkF (cF cs) f n R).2:Nat):Int))
  | 0,n,R,out,h,_,_,_=>by
    rw [dw.1 h,uE]
    simp [aI2,asI,tkF]
  | f+1,n,R,out,h,hb,hf,hn=>by
    rw [uE,tkF,if_neg (show ¬R.length=0 by omega)]
    have hm:0<R.length:=by omega
    have hk:=zI8 cs n R.length hm
    have hc:(R.length:Int)>0:=by omega
    have e:R.getD (cF cs n R.length) []=R[cF cs n R.length]:=by simp [hk]
    have hfl:=zI9 hk
    simp only [hc,dT,if_true,zH2,implCh cs n hm,zPX cs hm,zPM hk,oB,oS]
    rw [app8 (by rw [oR]; omega)]
    simp only [oS]
    rw [wB (by omega),wB (by omega)]
    have hd:jG (aI2 R) ((cF cs n R.length:Nat):Int) ((cF cs n R.length+1:Nat):Int)=some (aI2 (R.eraseIdx (cF cs n R.length))):=by
      unfold jG delG
      rw [if_pos ⟨by omega,by omega,by rw [zH2]; omega,by rw [zH2]; omega⟩,iN,iN,gr]
      simp [aI2]
    simp only [hd,oS]
    rw [zOH cs f (n+1) _ _ (by rw [gz,if_pos hk]; omega) (by rw [lA,oR]; omega) (by omega) (by omega)]
    rw [e,zB9,co]
theorem tkI (cs:List Int) (R:List (List Nat)) (n:Nat) (hb:R.flatten.length<=400000) (hf:R.length<=1000) (hn:n<=900000):vQ (aI2 R) cs (n:Int)=some (asI (tkP cs n R).1,(((tkP cs n R).2:Nat):Int)):=by
  unfold vQ jV;rw [app24 (by simp [aI2]; omega)];simp only [oB,oS,cu];rw [zOH cs R.length n R [] rfl (by rw [cS]; omega) hf (by omega)];rfl
theorem specCh2 (cs:List Int) {n m:Nat} (h:0<m):kY cs (n:Int) (m:Int)=some ((cF cs n m:Nat):Int):=by rw [specCh cs n h,zPX cs h]
theorem zOI {Z:List zK}{part:Int} (cs:List Int) {key:List Nat->List Int}:∀ (f n:Nat) (R:List (List Nat)) (out:List Int),(∀ r∈R,rD Z part (key r)=some (asI r))->R.length=f->R.flatten.length+out.length<=500000->f<=1000->n+f<=1000000 ->
    uB part cs Z out (n:Int) (R.map key)=some (out++asI (tkF (cF cs) f n R).1,(((tkF (cF cs) f n R).2:Nat):Int))
  | 0,n,R,out,_,h,_,_,_=>by
    rw [dw.1 h,uB]
    simp [asI,tkF]
  | f+1,n,R,out,hg,h,hb,hf,hn=>by
    rw [uB,tkF,if_neg (show ¬R.length=0 by omega)]
    have hm:0<R.length:=by omega
    have hk:=zI8 cs n R.length hm
    have hc:(R.length:Int)>0:=by omega
    have e:R.getD (cF cs n R.length) []=R[cF cs n R.length]:=by simp [hk]
    have hfl:=zI9 hk
    have hx:idx (R.map key) ((cF cs n R.length:Nat):Int)=some (key R[cF cs n R.length]):=by rw [yJ (by rw [lM]; exact hk)]; simp
    simp only [hc,dT,if_true,lM,specCh2 cs hm,hx,hg _ (gM hk),oB,oS]
    rw [app8 (by rw [oR]; omega)]
    have s1:=zLo (s:=R.map key) (f:=0) (i:=cF cs n R.length) (fb _) (by rw [lM]; omega)
    rw [nZ,cq] at s1
    have s2:=zLo (s:=R.map key) (f:=cF cs n R.length+1) (i:=R.length) (by omega) (by rw [lM]; omega)
    simp only [oS,s1]
    rw [wB (by omega),wB (by omega)]
    rw [app24 (by simp; omega)]
    simp only [oS,s2]
    rw [app24 (by simp; omega)]
    simp only [oS]
    have e2:[]++(R.map key).take (cF cs n R.length)++((R.map key).take R.length).drop (cF cs n R.length+1)=(R.eraseIdx (cF cs n R.length)).map key:=by
      have e3:(R.map key).take R.length=R.map key:=df (by rw [lM]; omega)
      rw [cu,e3,gr,de,List.map_take,List.map_drop]
    rw [e2,zOI cs f (n+1) _ _ (fun r hr=>hg r ((List.eraseIdx_sublist ..).subset hr)) (by rw [gz,if_pos hk]; omega) (by rw [lA,oR]; omega) (by omega) (by omega)]
    rw [e,zB9,co]
theorem zGi {T:Nat->List (List Nat)->List Nat×Nat}{R:List (List Nat)}{A:List (List (List Nat))}{n:Nat}:foldT T n (R::A)=((T n R).1++(foldT T (T n R).2 A).1,(foldT T (T n R).2 A).2):=rfl
theorem zQE {σ:Type}{taken:List (List Int)->σ->Option (List Int×σ)}{enc:Nat->σ}{T:Nat->List (List Nat)->List Nat×Nat} (A:List (List (List Nat))) (hA:A.length<=1000) (hT:∀ R∈A,∀ n,n<=500000->taken (aI2 R) (enc n)=some (asI (T n R).1,enc (T n R).2)/\(T n R).2<=n+120/\(T n R).1.length<=120) :
    ∀ (j i n:Nat) (out:List Int),i+j=A.length->n+120*j<=400000->out.length+120*j<=800000->nO taken (aI3 A) out (enc n) (i:Int)=some (out++asI (foldT T n (A.drop i)).1,enc (foldT T n (A.drop i)).2):=by
  intro j
  induction j with
  | zero =>
    intro i n out hi _ _
    rw [nO]
    have:¬((i:Int)<((aI3 A).length:Int)):=by simp [aI3]; omega
    simp only [this,dF,bF,if_false,oP]
    rw [dN.2 (show A.length<=i by omega)]
    simp [foldT,asI]
  | succ j ih =>
    intro i n out hi hn ho
    have aE:i<A.length:=by omega
    rw [nO]
    have hc:((i:Int)<((aI3 A).length:Int)):=by simp [aI3]; omega
    have hx:idx (aI3 A) (i:Int)=some (aI2 A[i]):=by rw [yJ (by simp [aI3]; omega)]; simp [aI3]
    obtain ⟨t1,t2,t3⟩:=hT _ (gM aE) n (by omega)
    simp only [hc,dT,if_true,hx,t1,oB,oS]
    rw [app8 (by rw [oR]; omega)]
    simp only [oS]
    rw [wB (by omega),ih (i+1) _ _ (by omega) (by omega) (by rw [lA,oR]; omega),gC aE,zGi,zB9,co]
def preI (P:zD) (part:Int):List Nat:=(List.range (progI P).length).filter fun i=>decide ((zIns P i).Part<part)
def posI (P:zD) (part:Int):List Nat:=(List.range (progI P).length).filter fun i=>decide ((zIns P i).Part>part)
def ordT (P:zD) (part:Int) (k:Nat) (T:Nat->List (List Nat)->List Nat×Nat):List Nat:=preI P part++(foldT T 0 (gg P k (ptl P part))).1++posI P part
def rngL (P:zD) (part loop:Int):Prop:=(0<=part/\part<=(P.Parts.length:Int) - 1)/\0<=loop/\loop<=((gP P part.toNat).Nest.length:Int) - 1
instance (P:zD) (part loop:Int):Decidable (rngL P part loop):=inferInstanceAs (Decidable (_/\_))
theorem isLoopV {P:zD} (hb:BG P) (hv:validP P=true) (part loop:Int):sS P part loop=some (decide (rngL P part loop)):=by
  unfold rngL;simp only [sS,isPartL hb,oB,oS,oP,id];by_cases h:0<=part/\part<=(P.Parts.length:Int) - 1
  · have h4:=nest4 hv (show part.toNat<P.Parts.length by omega);simp only [h.1,h.2,dT,fo,if_true,zKC h,oS,oG,sP (x:=((gP P part.toNat).Nest.length:Int) - 1) (by omega) (by omega),true_and]
    congr 1
    rw [ef,bA,decide_eq_true_eq,decide_eq_true_eq,decide_eq_true_eq]
  · simp only [zM1 h,bF,if_false,h,false_and,dF,oS]
theorem specHas8 {P:zD} (hb:BG P) (part loop:Int):zAH P part loop=some (validP P&&decide (rngL P part loop)):=by
  unfold zAH rngL;rw [specValidP P hb];cases hv:validP P with
  | false=>simp
  | true =>
    by_cases a:0<=part
    · by_cases b:part<=(P.Parts.length:Int) - 1
      · by_cases c:0<=loop
        · have b':part<(P.Parts.length:Int):=by omega
          simp only [if_true,oB,oS,oP,id,ge_iff_le,a,b,b',c,dT,zKC ⟨a,b⟩,true_and,cA]
          congr 1
          rw [ef,decide_eq_true_eq,decide_eq_true_eq];omega
        · have b':part<(P.Parts.length:Int):=by omega
          simp [a,b',c]
      · have b':¬part<(P.Parts.length:Int):=by omega
        simp [a,b',b]
    · simp [a]
theorem zH3 (P:zD) (k:Nat) (l:List Nat):(gg P k l).map List.flatten=grp (ky P k) l:=by
  unfold gg;rw [List.map_map]
  conv=>rhs; rw [<- List.map_id (grp (ky P k) l)]
  exact List.map_congr_left fun g _=>rE (ky P (k+1)) g
theorem zOJ {P:zD}{k:Nat}{l:List Nat} (hl:l.length<=120):(gg P k l).length<=120/\∀ R∈gg P k l,R.flatten.length<=120/\R.length<=120/\∀ r∈R,r.length<=120:=by
  have h1:=zCh (ky P k) l;refine ⟨by unfold gg; rw [lM]; omega,fun R hR=>?_⟩;obtain ⟨g,hg,rfl⟩:=eb.1 hR;obtain ⟨p,q,e⟩:=zI7 (rE (ky P k) l) hg;have hgl:g.length<=120:=by have:=congrArg List.length e; simp at this; omega
  have h2:=zCh (ky P (k+1)) g;refine ⟨by rw [rE]; exact hgl,by omega,fun r hr=>?_⟩;obtain ⟨p2,q2,e2⟩:=zI7 (rE (ky P (k+1)) g) hr;have:=congrArg List.length e2;simp at this; omega
theorem zKH {P:zD} (hv:validP P=true) (part:Int):(ptl P part).length<=120:=cX (zOE P part _) (uT hv).2.2.2
theorem zQ2 {P:zD} (hv:validP P=true) (part:Int) (o:List Int) (ho:o.length<=700000):pJ part (trcP P) o 0=some (o++asI (preI P part)):=by
  have aU:=(uT hv).2.2.2;refine gather0 (F:=fun o i=>pJ part (trcP P) o i) (n:=(progI P).length) (by omega) (fun i=>decide ((zIns P i).Part<part)) (fun o i hi=>?_) (fun o=>?_) o (by omega)
  · rw [pJ];have hc:((i:Int)<((progI P).length:Int)):=by omega
    simp only [hc,dT,if_true,zA4,zIx1 hi,oB,oS,oP,id];rw [wB (by omega)];by_cases h1:(zIns P i).Part<part <;> simp [h1]
  · rw [pJ]; simp [zA4]
theorem zQ3 {P:zD} (hv:validP P=true) (part:Int) (o:List Int) (ho:o.length<=700000):pK part (trcP P) o 0=some (o++asI (posI P part)):=by
  have aU:=(uT hv).2.2.2;refine gather0 (F:=fun o i=>pK part (trcP P) o i) (n:=(progI P).length) (by omega) (fun i=>decide ((zIns P i).Part>part)) (fun o i hi=>?_) (fun o=>?_) o (by omega)
  · rw [pK];have hc:((i:Int)<((progI P).length:Int)):=by omega
    simp only [hc,dT,if_true,zA4,zIx1 hi,oB,oS,oP,id];rw [wB (by omega)];by_cases h1:(zIns P i).Part>part <;> simp [h1]
  · rw [pK]; simp [zA4]
def ordF (P:zD) (part loop:Int) (T:Nat->List (List Nat)->List Nat×Nat):List Int×Bool:=if validP P=true/\rngL P part loop then (asI (ordT P part loop.toNat T),true) else ([],false)
theorem aroundV {σ:Type}{P:zD} (hb:BG P) (part loop:Int) {taken:List (List Int)->σ->Option (List Int×σ)}{enc:Nat->σ}{T:Nat->List (List Nat)->List Nat×Nat}
    (hT:∀ R:List (List Nat),R.flatten.length<=120->R.length<=120->(∀ r∈R,r.length<=120)->∀ n,n<=500000->taken (aI2 R) (enc n)=some (asI (T n R).1,enc (T n R).2)/\(T n R).2<=n+120/\(T n R).1.length<=120) :
    ∃ s,fH P part loop taken (enc 0)=some (ordF P part loop T,s):=by
  unfold fH ordF
  rw [implTrace P hb]
  cases hv:validP P with
  | false=>exact ⟨_,rfl⟩
  | true =>
    simp only [if_true,oB,oS,oP,bT,bF,if_false,isLoopV hb hv,true_and]
    by_cases h:rngL P part loop
    · obtain ⟨h1,h2⟩:=h
      have hk:loop.toNat<(gP P part.toNat).Nest.length:=by omega
      have hl:((loop.toNat:Nat):Int)=loop:=by omega
      have aU:=(uT hv).2.2.2
      have hpl:(preI P part).length<=120:=by unfold preI; exact cX (f1 _ _) (by simp; omega)
      have hit:=iterV hb hv (part:=part) hk
      rw [hl] at hit
      obtain ⟨b1,b2⟩:=zOJ (P:=P) (k:=loop.toNat) (zKH hv part)
      have h2':=zQE (taken:=taken) (enc:=enc) (T:=T) (gg P loop.toNat (ptl P part)) (by omega) (fun R hR n hn=>hT R (b2 R hR).1 (b2 R hR).2.1 (b2 R hR).2.2 n hn) _ 0 0 (asI (preI P part)) (cw _) (by omega) (by rw [oR]; omega)
      rw [cq,nZ] at h2'
      have hml:∀ (A:List (List (List Nat))) (n:Nat),(∀ R∈A,∀ n,n<=500000->(T n R).2<=n+120/\(T n R).1.length<=120)->n+120*A.length<=400000->(foldT T n A).1.length<=120*A.length:=by
        intro A
        induction A with
        | nil=>intro n _ _; simp [foldT]
        | cons R A ih =>
          intro n h hn
          rw [zGi,lA]
          have hR:=h R (cj ..) n (by simp at hn; omega)
          have:=ih (T n R).2 (fun S hS=>h S (ci _ hS)) (by simp at hn; omega)
          simp only [cx]; omega
      have hm:=hml (gg P loop.toNat (ptl P part)) 0 (fun R hR n hn=>(hT R (b2 R hR).1 (b2 R hR).2.1 (b2 R hR).2.2 n hn).2) (by omega)
      have a1:=zQ2 hv part [] (by simp)
      rw [cu] at a1
      have a3:=zQ3 hv part (asI (preI P part)++asI (foldT T 0 (gg P loop.toNat (ptl P part))).1) (by rw [lA,oR,oR]; omega)
      have hr:rngL P part loop:=⟨h1,h2⟩
      simp only [hr,dT,bT,bF,if_false,if_true,oS,a1,hit,h2',a3]
      refine ⟨enc (foldT T 0 (gg P loop.toNat (ptl P part))).2,?_⟩
      unfold ordT
      rw [zB9,zB9]
    · simp only [h,dF,dl,if_true,if_false]
      exact ⟨_,rfl⟩
theorem implPO {P:zD} (hb:BG P) (part loop:Int) (cs:List Int):mD P part loop cs=some (ordF P part loop (tkP cs)):=by
  unfold mD;obtain ⟨s,h⟩:=aroundV hb part loop (taken:=fun x0 n=>vQ x0 cs n) (enc:=fun n:Nat=>(n:Int)) (T:=tkP cs) (fun R h1 h2 h3 n hn=>by
    have hp:=zDn (zI8 cs) R.length n R rfl;exact ⟨tkI cs R n (by omega) (by omega) (by omega),by unfold tkP; rw [hp.2]; omega,by unfold tkP; rw [hp.1.length_eq]; exact h1⟩)
  have h':fH P part loop (fun x0 n=>vQ x0 cs n) (0:Int)=some (ordF P part loop (tkP cs),s):=h;rw [h']; rfl
end Go.LN
namespace Go.LN
theorem zM5 {P:zD} (hv:validP P=true) {i:Nat} (hi:i<(progI P).length):0<=(zIns P i).Part/\(zIns P i).Part<(P.Parts.length:Int):=by
  obtain ⟨p,s,hp,hs,e,_⟩:=zJV hv (zCp hi);omega
theorem zQF {P:zD} (hv:validP P=true) (part:Int):ptR P 0 part=preI P part:=by
  unfold ptR preI;refine gp fun i hi=>?_;have:=zM5 hv (cC.1 hi);simp [this.1]
theorem zQG {P:zD} (hv:validP P=true) (part:Int):ptR P (part+1) (P.Parts.length:Int)=posI P part:=by
  unfold ptR posI;refine gp fun i hi=>?_;have:=zM5 hv (cC.1 hi);simp only [this.2,dT,ij];rw [ef,decide_eq_true_eq,decide_eq_true_eq];omega
theorem zMy {P:zD} (hb:BG P) (hv:validP P=true) (part:Int):rD (progI P) part []=some (asI (ptl P part)):=by
  rw [specGroup hb hv (part:=part) (k:=0) (fb _) rfl]
  congr 2
  rw [List.filter_eq_self];intro a _;simp [ky]
def key1 (P:zD) (k:Nat) (r:List Nat):List Int:=ky P k (r.headD 0)
theorem zLT {P:zD}{k:Nat}{l g:List Nat} (hg:g∈grp (ky P k) l):keyOf (ky P k) g=some (key1 P k g):=by
  obtain ⟨h1,h2⟩:=fL (ky P k) l g hg;cases g with
  | nil=>exact absurd rfl h1
  | cons a t=>rfl
theorem zM6 {P:zD} (hb:BG P) (hv:validP P=true) {part:Int}{k:Nat} (hk:k<=(gP P part.toNat).Nest.length) {g:List Nat} (hg:∀ a∈g,a∈ptl P part) (hne:g ≠ []):(key1 P k g).length=k:=by
  cases g with
  | nil=>exact absurd rfl hne
  | cons a t =>
    obtain ⟨h1,h2⟩:=zBp.1 (hg a (cj ..));have:=(zBa hb hv h1 h2).1;show ((zIns P a).Point.take k).length=k;rw [cv]; omega
theorem zLU {P:zD} (hb:BG P) (hv:validP P=true) {part:Int}{k:Nat} (hk:k<=(gP P part.toNat).Nest.length) {g:List Nat} (hg:g∈grp (ky P k) (ptl P part)):rD (progI P) part (key1 P k g)=some (asI g):=by
  rw [specGroup hb hv hk (zM6 hb hv hk (fun a ha=>zH1 hg ha) (fL _ _ _ hg).1)];rw [(zFs (ky P k) (ptl P part) (zKD P part k)).1 g hg _ (zLT hg)]
theorem zLV {P:zD} (hb:BG P) (hv:validP P=true) {part:Int}{k:Nat} (hk:k+1<=(gP P part.toNat).Nest.length) {g:List Nat} (hg:g∈grp (ky P k) (ptl P part)) {r:List Nat} (hr:r∈grp (ky P (k+1)) g):rD (progI P) part (key1 P (k+1) r)=some (asI r):=by
  have hrm:∀ a∈r,a∈ptl P part:=fun a ha=>zH1 hg (by rw [<- rE (ky P (k+1)) g]; exact gb.2 ⟨r,hr,ha⟩);rw [specGroup hb hv hk (zM6 hb hv hk hrm (fL _ _ _ hr).1)];rw [zLx hg hr (zLT hr)]
theorem zQH {P:zD} (hb:BG P) (hv:validP P=true) {part:Int}{k:Nat} (hk:k+1<=(gP P part.toNat).Nest.length) (hk4:k<4) (cs:List Int):∀ (j i n:Nat) (out:List Int),i+j=(grp (ky P k) (ptl P part)).length->n+120*j<=400000->out.length+120*j<=300000 ->
    tL part (k:Int) cs (progI P) (hds P k (ptl P part)) out (n:Int) (i:Int)=some (out++asI (foldT (tkP cs) n ((gg P k (ptl P part)).drop i)).1):=by
  have hpl:=zKH hv part
  have hgl:=zCh (ky P k) (ptl P part)
  intro j
  induction j with
  | zero =>
    intro i n out hi _ _
    rw [tL]
    have:¬((i:Int)<((hds P k (ptl P part)).length:Int)):=by unfold hds; rw [lM]; omega
    simp only [this,dF,bF,if_false,oP,id]
    rw [dN.2 (by unfold gg; rw [lM]; omega)]
    simp [foldT,asI]
  | succ j ih =>
    intro i n out hi hn ho
    have aE:i<(grp (ky P k) (ptl P part)).length:=by omega
    rw [tL]
    have hc:((i:Int)<((hds P k (ptl P part)).length:Int)):=by unfold hds; rw [lM]; omega
    have hg:=gM aE
    have hx:idx (hds P k (ptl P part)) (i:Int)=some (key1 P k (grp (ky P k) (ptl P part))[i]):=by
      unfold hds
      rw [yJ (by rw [lM]; exact aE)]; simp [key1]
    have hgi:(gg P k (ptl P part)).drop i=grp (ky P (k+1)) (grp (ky P k) (ptl P part))[i]::(gg P k (ptl P part)).drop (i+1):=by
      rw [gC (by unfold gg; rw [lM]; exact aE)]
      congr 1
      simp [gg]
    obtain ⟨b1,b2⟩:=zOJ (P:=P) (k:=k) hpl
    obtain ⟨c1,c2,c3⟩:=b2 _ (show grp (ky P (k+1)) (grp (ky P k) (ptl P part))[i]∈gg P k (ptl P part) by unfold gg; exact List.mem_map_of_mem hg)
    rw [rE] at c1
    have hH:=specHeads hb hv (part:=part) (k:=k+1) hk (g:=(grp (ky P k) (ptl P part))[i]) (fun a ha=>zH1 hg ha) c1
    simp only [hc,dT,if_true,hx,zLU hb hv (by omega) hg,oB,oS]
    rw [wB (by omega),hH]
    simp only [oS]
    have h2:=zOI (Z:=progI P) (part:=part) cs (key:=key1 P (k+1)) _ n (grp (ky P (k+1)) (grp (ky P k) (ptl P part))[i]) out (fun r hr=>zLV hb hv hk hg hr) rfl (by rw [rE]; omega) (by omega) (by omega)
    have h3:uB part cs (progI P) out (n:Int) (hds P (k+1) (grp (ky P k) (ptl P part))[i])=_:=h2
    rw [h3]
    simp only [oS]
    have hp:=zDn (zI8 cs) _ n (grp (ky P (k+1)) (grp (ky P k) (ptl P part))[i]) rfl
    have hpl2:=hp.1.length_eq
    rw [rE] at hpl2
    rw [wB (by omega),ih (i+1) _ _ (by omega) (by rw [hp.2]; omega) (by rw [lA,oR]; omega),hgi,zGi,zB9,co]
    rfl
theorem specPO {P:zD} (hb:BG P) (part loop:Int) (cs:List Int):mE P part loop cs=some (ordF P part loop (tkP cs)):=by
  unfold mE ordF;rw [specHas8 hb];by_cases h:validP P=true/\rngL P part loop
  · obtain ⟨hv,hr⟩:=h;have hr':=hr;obtain ⟨h1,h2⟩:=hr;have hk:loop.toNat+1<=(gP P part.toNat).Nest.length:=by omega
    have hl:((loop.toNat:Nat):Int)=loop:=by omega
    have h4:=nest4 hv (show part.toNat<P.Parts.length by omega);have aU:=(uT hv).2.2.2;have hpl:=zKH hv part;have hgl:=zCh (ky P loop.toNat) (ptl P part);have hH:=specHeads hb hv (part:=part) (k:=loop.toNat) (by omega) (g:=ptl P part) (fun a ha=>ha) hpl;rw [hl] at hH;have hprl:(preI P part).length<=120:=by unfold preI; exact cX (f1 _ _) (by simp; omega)
    have hpol:(posI P part).length<=120:=by unfold posI; exact cX (f1 _ _) (by simp; omega)
    have hL:=zQH hb hv (part:=part) (k:=loop.toNat) hk (by omega) cs _ 0 0 (asI (preI P part)) (cw _) (by omega) (by rw [oR]; omega);rw [hl,cq,nZ] at hL;have hm:=zBK (T:=tkP cs) (gg P loop.toNat (ptl P part)) 0 (fun R _ n=>(zDn (zI8 cs) R.length n R rfl).1);rw [zH3,rE] at hm;have hml:=hm.length_eq;have hw:W (part+1)=part+1:=sP (by omega) (by have:=(uT hv).2.1; omega);simp only [hv,hr',dT,fo,bT,bF,if_false,oB,oS,oP,specInst4 P hv,specParts hv,zQF hv,zMy hb hv,hH,hL,hw,zQG hv,and_self,if_true];rw [app8 (by rw [lA,oR,oR,oR]; omega)];simp only [oS];unfold ordT;rw [zB9,zB9]
  · rw [if_neg h];have:(validP P&&decide (rngL P part loop))=false:=by
      cases hq:(validP P&&decide (rngL P part loop)) with
      | false=>rfl
      | true=>rw [bA,decide_eq_true_eq] at hq; exact absurd hq h
    rw [this]; rfl
theorem zLy (P:zD) (part:Int):(preI P part++ptl P part++posI P part).Perm (List.range (progI P).length):=by
  have h1:=List.filter_append_perm (fun i=>decide ((zIns P i).Part<part)) (List.range (progI P).length);have h2:=List.filter_append_perm (fun i=>(zIns P i).Part==part) ((List.range (progI P).length).filter fun i=>!decide ((zIns P i).Part<part));refine List.Perm.trans ?_ h1;rw [co];refine List.Perm.append_left _ (List.Perm.trans (List.Perm.of_eq ?_) h2);rw [ia,ia];unfold ptl Jf posI
  congr 1
  · refine gp fun i _=>?_;by_cases h:(zIns P i).Part=part <;> simp [h]
  · refine gp fun i _=>?_;rw [ef];simp;omega
theorem zJ0 {P:zD}{part:Int}{k:Nat}{T:Nat->List (List Nat)->List Nat×Nat} (hT:∀ R∈gg P k (ptl P part),∀ n,(T n R).1.Perm R.flatten):(ordT P part k T).Perm (List.range (progI P).length):=by
  refine List.Perm.trans ?_ (zLy P part);unfold ordT;have hm:=zBK (gg P k (ptl P part)) 0 hT;rw [zH3,rE] at hm;exact (List.Perm.append_left _ hm).append_right _
theorem zKI {n:Nat}{L:List Nat} (h:L.Perm (List.range n)):permB n (asI L)=true:=by
  rw [zGe];refine ⟨⟨fun x hx=>?_,?_⟩,by rw [oR,h.length_eq,f4]⟩
  · obtain ⟨a,ha,rfl⟩:=eb.1 hx;have:=cC.1 (h.mem_iff.1 ha);omega
  · unfold asI;have hn:L.Nodup:=h.nodup_iff.2 List.nodup_range;exact (List.pairwise_map.2 (hn.imp fun {a b} hab e=>hab (by omega)))
theorem zMz {P:zD} (hv:validP P=true) {L:List Nat} (hp:L.Perm (List.range (progI P).length)) (hl:L.Pairwise fun a b=>b<a->kindI P b a=0):(brF P (asI L)).isNone=true:=by
  unfold brF;rw [Option.isNone_iff_eq_none,List.find?_eq_none];intro d hd;unfold dpF at hd;rw [if_pos hv] at hd;obtain ⟨i,k,rfl,hik,hk,hne⟩:=zJw hd;obtain ⟨ji,hji,ei⟩:=f7.1 (hp.mem_iff.2 (cC.2 (show i<(progI P).length by omega)));obtain ⟨jk,hjk,ek⟩:=f7.1 (hp.mem_iff.2 (cC.2 hk));have hn:=(zGe _ _).1 (zKI hp);have hpl:∀ (j:Nat) (hj:j<L.length),plo (asI L) L[j]=(j:Int):=fun j hj=>by
    have:=zOB (asI L) 0 (fun _=>0) hn.1.2 (fun x hx=>(hn.1.1 x hx).1) j (by rw [oR]; exact hj);rw [cw] at this;unfold plo;rw [<- this]
    congr 1
    simp [asI]
  unfold brk;simp only [iN,decide_eq_true_eq];rw [<- ei,<- ek,hpl ji hji,hpl jk hjk];intro aE;have:=List.pairwise_iff_getElem.1 hl jk ji hjk hji (by omega);rw [ei,ek] at this;exact hne (this hik)
theorem zQI {P:zD} (hb:BG P) (hv:validP P=true) {part:Int}{k:Nat} (hk:k<(gP P part.toNat).Nest.length) (hc:crd P part k=false) {a b:Nat} (ha:a∈ptl P part) (hbm:b∈ptl P part) (aE:b<a) (h1:ky P k b=ky P k a) (h2:ky P (k+1) b ≠ ky P (k+1) a):kindI P b a=0:=by
  obtain ⟨han,hap⟩:=zBp.1 ha;obtain ⟨hbn,hbp⟩:=zBp.1 hbm;by_cases h0:kindI P b a=0
  · exact h0
  · exfalso
    have hd:(⟨(b:Int),(a:Int),kindI P b a⟩:yR)∈dpF P:=by
      unfold dpF;rw [if_pos hv,<- zPw P];exact zPv (P:=kn P) aE han h0
    rw [zPC hb] at hc;have:=(List.any_eq_false.1 hc) _ hd;apply this;have la:=(zBa hb hv han hap).1;have lb:=(zBa hb hv hbn hbp).1;unfold carB inPt;simp only [iN,hbp,hap,bQ,fo,cA,bA,decide_eq_true_eq];refine ⟨by omega,h1,?_⟩;unfold ky at h1 h2;rw [du (by omega),du (by omega),h1] at h2;have:(zIns P b).Point[k]'(by omega) ≠ (zIns P a).Point[k]'(by omega):=fun e=>h2 (by rw [e]);simp [show k<(zIns P b).Point.length by omega,show k<(zIns P a).Point.length by omega,this]
theorem zM7 {P:zD}{part:Int}{k:Nat}{R:List (List Nat)} (hR:R∈gg P k (ptl P part)):RunsOk (ky P (k+1)) R/\(∀ a∈R.flatten,a∈ptl P part)/\∀ a∈R.flatten,∀ b∈R.flatten,ky P k a=ky P k b:=by
  obtain ⟨g,hg,rfl⟩:=eb.1 hR;have hgm:∀ a∈g,a∈ptl P part:=fun a ha=>zH1 hg ha;obtain ⟨p,q,e⟩:=zI7 (rE (ky P k) (ptl P part)) hg;have hgp:g.Pairwise (· < ·):=by
    have:=zOD P part (progI P).length;have e':Jf P part (progI P).length=p++g++q:=e;rw [e'] at this;exact (dm.1 (dm.1 this).1).2.1
  refine ⟨⟨(zFs (ky P (k+1)) g (zLQ hg _)).2,fun r hr=>⟨?_,(fL (ky P (k+1)) g r hr).2⟩⟩,by rw [rE]; exact hgm,by
    rw [rE];intro a ha b hb;have h2:=(fL (ky P k) _ g hg).2;exact Option.some.inj ((h2 a ha).symm.trans (h2 b hb))⟩
  obtain ⟨p2,q2,e2⟩:=zI7 (rE (ky P (k+1)) g) hr;rw [e2] at hgp;exact (dm.1 (dm.1 hgp).1).2.1
theorem zKJ {P:zD}{a b:Nat} (ha:a<(progI P).length) (hb:b<(progI P).length) (h:(zIns P a).Part<(zIns P b).Part):a<b:=by
  rcases Nat.lt_trichotomy a b with h1 | h1 | h1
  · exact h1
  · subst h1; omega
  · rcases zI4 h1 ha with h2 | ⟨h2,_⟩ <;> omega
theorem zPN {P:zD} (hb:BG P) (hv:validP P=true) {part:Int}{k:Nat} (hk:k<(gP P part.toNat).Nest.length) (hc:crd P part k=false) {T:Nat->List (List Nat)->List Nat×Nat} (hT:∀ R∈gg P k (ptl P part),∀ n,(T n R).1.Perm R.flatten/\Keeps (ky P (k+1)) (T n R).1) :
    (ordT P part k T).Pairwise fun a b=>b<a->kindI P b a=0:=by
  have up:∀ {l:List Nat},l.Pairwise (· < ·)->l.Pairwise fun a b=>b<a->kindI P b a=0:=fun h=>h.imp fun {a b} hab hba=>by omega
  have hpre:(preI P part).Pairwise (· < ·):=List.Pairwise.filter _ List.pairwise_lt_range
  have hpos:(posI P part).Pairwise (· < ·):=List.Pairwise.filter _ List.pairwise_lt_range
  have hm:=zBK (gg P k (ptl P part)) 0 (fun R hR n=>(hT R hR n).1)
  rw [zH3,rE] at hm
  have mpre:∀ a∈preI P part,a<(progI P).length/\(zIns P a).Part<part:=fun a ha=>by
    unfold preI at ha
    have:=d5.1 ha
    exact ⟨cC.1 this.1,by simpa using this.2⟩
  have mpos:∀ a∈posI P part,a<(progI P).length/\part<(zIns P a).Part:=fun a ha=>by
    unfold posI at ha
    have:=d5.1 ha
    exact ⟨cC.1 this.1,by simpa using this.2⟩
  unfold ordT
  refine dm.2 ⟨dm.2 ⟨up hpre,?_,fun a ha b hbm hba=>?_⟩,up hpos,fun a ha b hbm hba=>?_⟩
  · refine zLS (S:=fun a b=>b<a->kindI P b a=0) (gg P k (ptl P part)) 0 (fun R hR n=>?_) ?_
    · obtain ⟨t1,t2⟩:=hT R hR n
      obtain ⟨_,r2,r3⟩:=zM7 hR
      refine ⟨t1,t2.imp_of_mem fun {a b} ha hbm h hba=>?_⟩
      have ha':=t1.mem_iff.1 ha
      have hb':=t1.mem_iff.1 hbm
      by_cases e:ky P (k+1) a=ky P (k+1) b
      · have:=h e; omega
      · exact zQI hb hv hk hc (r2 a ha') (r2 b hb') hba (r3 b hb' a ha') (fun e'=>e e'.symm)
    · rw [zH3]
      have hI:(grp (ky P k) (ptl P part)).flatten.Pairwise (· < ·):=by rw [rE]; exact zOD P part _
      exact ((List.pairwise_flatten.1 hI).2).imp fun {g h} hgh a ha b hbm hba=>by have:=hgh a ha b hbm; omega
  · obtain ⟨q1,q2⟩:=mpre a ha
    obtain ⟨w1,w2⟩:=zBp.1 (hm.mem_iff.1 hbm)
    have:=zKJ q1 w1 (by omega)
    omega
  · obtain ⟨w1,w2⟩:=mpos b hbm
    rcases da.1 ha with ha | ha
    · obtain ⟨q1,q2⟩:=mpre a ha
      have:=zKJ q1 w1 (by omega)
      omega
    · obtain ⟨q1,q2⟩:=zBp.1 (hm.mem_iff.1 ha)
      have:=zKJ q1 w1 (by omega)
      omega
theorem zOK {P:zD}{part:Int}{k:Nat} (cs:List Int):∀ R∈gg P k (ptl P part),∀ n,(tkP cs n R).1.Perm R.flatten/\Keeps (ky P (k+1)) (tkP cs n R).1:=fun R hR n =>
  ⟨(zDn (zI8 cs) R.length n R rfl).1,zLR (ky P (k+1)) (zI8 cs) R.length n R rfl (zM7 hR).1⟩
theorem zOL {P:zD} (hb:BG P) {part loop:Int} (hv:validP P=true) (hr:rngL P part loop) {T:Nat->List (List Nat)->List Nat×Nat} (hT:∀ R∈gg P loop.toNat (ptl P part),∀ n,(T n R).1.Perm R.flatten/\Keeps (ky P (loop.toNat+1)) (T n R).1) :
    (oE P (asI (ordT P part loop.toNat T))).bind (fun y13=>if y13=true then (oF P part loop).bind fun y14=>if (!y14)=true then some true else (mI P (asI (ordT P part loop.toNat T))).bind fun y15=>some y15 else some false)=some true:=by
  have hp:=zJ0 fun R hR n=>(hT R hR n).1
  have aU:=(uT hv).2.2.2
  have bW:(asI (ordT P part loop.toNat T)).length<=1048576:=by rw [oR,hp.length_eq,f4]; omega
  have hk:loop.toNat<(gP P part.toNat).Nest.length:=by obtain ⟨h1,h2⟩:=hr; omega
  rw [implOrd P hb _ bW,zKI hp,hv]
  simp only [oS,fo,if_true,implLP P hb]
  rw [zM2 ⟨hv,hr⟩]
  cases hc:crd P part loop.toNat with
  | true=>rfl
  | false =>
    simp only [dl,bT,bF,if_false]
    rw [implLegal P hb _ bW,hv,zKI hp,zMz hv hp (zPN hb hv hk hc hT)]
    rfl
theorem args9r (s:zM) (hs:0<=s.p/\s.p<=1000):Ok (dI s) (fun y=>BG y.1/\0<=y.2.2.2.p/\y.2.2.2.p<=700002000):=by
  unfold dI zAW;refine Ok.bind (φ:=fun y=>BG y.1/\0<=y.2.2.2.2.p/\y.2.2.2.2.p<=700002000) ?_ fun y hy=>Ok.pure hy;refine Ok.call (zLn s) ⟨by omega,by omega⟩ fun a t g1 g2 g3=>?_;refine Ok.bind (mut4 t a g1.dp (by omega) (by omega)) fun p hp=>?_;obtain ⟨P,r⟩:=p;obtain ⟨⟨hp1,_⟩,hp2,hp3⟩:=hp;dsimp only at hp2 hp3;exact Ok.call (wO r _) ⟨by decide,hp2,by omega,by decide⟩ fun y s2 _ _ k5=>Ok.call (wO s2 _) ⟨by decide,by omega,by omega,by decide⟩ fun y3 s3 _ _ k6=>Ok.call (wO s3 _) ⟨by decide,by omega,by omega,by decide⟩ fun y4 s4 _ _ k7=>Ok.pure ⟨hp1,by dsimp only; omega,by dsimp only; omega⟩
theorem zLW:∀ (m:Nat) (o:List Int) (x:zM),0<=x.p->x.p+20*(m:Int)<=900000000->o.length+m<=1000->Ok (vH o (m:Int) x) (fun _=>True)
  | 0,o,x,h0,h1,ho=>by
    rw [vH]
    exact ⟨o,rfl,trivial⟩
  | m+1,o,x,h0,h1,ho=>by
    rw [vH]
    have hc:((m+1:Nat):Int)>0:=by omega
    rw [if_pos (by simp)]
    refine Ok.call (wO x _) ⟨by decide,h0,by omega,by decide⟩ fun y s g1 g2 g3=>Ok.app (by show (_+1)*8<=_; omega) ?_
    rw [show W (((m+1:Nat):Int) - 1)=(m:Int) by rw [sP (by omega) (by omega)]; omega]
    exact zLW m _ s (by omega) (by omega) (by rw [lA]; simp; omega)
theorem drawPO (code:List UInt8):Ok (qR code) (fun y=>BG y.1):=by
  unfold qR;refine Ok.call (zKh code) trivial fun s hs=>Ok.bind (args9r s (by omega)) fun y hy=>?_;obtain ⟨P,part,loop,r⟩:=y;obtain ⟨h1,h2,h3⟩:=hy;dsimp only at h1 h2 h3;refine Ok.call (wO r _) ⟨by decide,h2,by omega,by decide⟩ fun y s2 g1 g2 g3=>?_;obtain ⟨m,hm⟩:∃ m:Nat,y=(m:Int)/\m<=5:=by
    simp only [cQ,List.mem_nil_iff,or_false] at g1;exact ⟨y.toNat,by omega,by omega⟩
  rw [hm.1];exact Ok.bind (zLW m [] s2 (by omega) (by omega) (by simp; omega)) fun o _=>Ok.pure h1
theorem zOM {P:zD}{part loop:Int}{T:Nat->List (List Nat)->List Nat×Nat} (hT:validP P=true->∀ R∈gg P loop.toNat (ptl P part),∀ n,(T n R).1.Perm R.flatten):(ordF P part loop T).1.length<=1048576:=by
  unfold ordF;split
  · rename_i h;have:=(zJ0 (hT h.1)).length_eq;have aU:=(uT h.1).2.2.2;dsimp only;rw [oR,this,f4]; omega
  · simp
theorem zM8 (code:List UInt8):∃ r,mW code=some r/\r=true:=by
  unfold mW;by_cases hl:(code.length:Int)>1048576
  · exact ⟨true,by simp only [hl,dT,if_true]; rfl,rfl⟩
  simp only [hl,dF,bF,if_false];obtain ⟨⟨P,part,loop,cs⟩,hy,hb⟩:=drawPO code;rw [hy];have hI:=intsV (ordF P part loop (tkP cs)).1 (ordF P part loop (tkP cs)).1 (zOM fun _ R hR n=>(zOK cs R hR n).1);simp only [oB,oS,implPO hb,specPO hb,bQ,bT,bF,if_false,hI,dT,oP,if_true,id];refine ⟨true,?_,rfl⟩;by_cases h:validP P=true/\rngL P part loop
  · have e:ordF P part loop (tkP cs)=(asI (ordT P part loop.toNat (tkP cs)),true):=by unfold ordF; rw [if_pos h]
    rw [e];simp only [bT,bF,if_false];have:=zOL hb h.1 h.2 (T:=tkP cs) (zOK cs);rw [this]; rfl
  · have e:ordF P part loop (tkP cs)=([],false):=by unfold ordF; rw [if_neg h]
    rw [e]; rfl
end Go.LN
