/- Helper of the proof (see the last text). -/
import Derived.Test.YtcmjkmdecmabaaaGreatVC1
import Derived.Test.YtcmjkmdecmabaaaGreatVB1
set_option linter.unusedVariables false
set_option linter.unusedSimpArgs false
namespace Go.LN
def asI (l:List Nat):List Int:=l.map fun x:Nat=>(x:Int)
def aI2 (l:List (List Nat)):List (List Int):=l.map asI
def aI3 (l:List (List (List Nat))):List (List (List Int)):=l.map aI2
theorem zNv (l:List Nat) (i:Nat):asI (l++[i])=asI l++[(i:Int)]:=by simp [asI]
theorem zB1 (l m:List Nat):asI (l++m)=asI l++asI m:=by simp [asI]
theorem oR (l:List Nat):(asI l).length=l.length:=by simp [asI]
theorem zJx {l:List Nat}{i:Nat} (h:i<l.length):idx (asI l) (i:Int)=some ((l[i]:Nat):Int):=by rw [yI (by rw [oR]; exact h)]; simp [asI]
theorem zFo (l:List (List Nat)) (i:List Nat):aI2 (l++[i])=aI2 l++[asI i]:=by simp [aI2]
theorem zFp (l:List (List (List Nat))) (i:List (List Nat)):aI3 (l++[i])=aI3 l++[aI2 i]:=by simp [aI3]
def Jf (P:zD) (part:Int) (i:Nat):List Nat:=(List.range i).filter fun i=>(zIns P i).Part==part
def ptl (P:zD) (part:Int):List Nat:=Jf P part (progI P).length
def ky (P:zD) (k i:Nat):List Int:=(zIns P i).Point.take k
theorem zOz (P:zD) (part:Int) (i:Nat):Jf P part (i+1)=if (zIns P i).Part=part then Jf P part i++[i] else Jf P part i:=by
  unfold Jf;rw [List.range_succ,List.filter_append];by_cases h:(zIns P i).Part=part <;> simp [h]
theorem zBf {P:zD}{part:Int}{n i:Nat}:i∈Jf P part n↔i<n/\(zIns P i).Part=part:=by
  unfold Jf;rw [dv,cC];simp
theorem zNw (P:zD) (part:Int) (n:Nat):(Jf P part n).Pairwise (· < ·):=List.Pairwise.filter _ gc
theorem zNx (P:zD) (part:Int) (n:Nat):(Jf P part n).length<=n:=by
  unfold Jf;exact cW (fu _ _) (by simp)
theorem zLI:∀ (k:Nat) {a b:List Int},lexlt a b->a.take k=b.take k∨lexlt (a.take k) (b.take k)
  | 0,a,b,_=>.inl (by simp)
  | k+1,x::a,y::b,h=>by
    rcases h with h | ⟨rfl,h⟩
    · exact .inr (.inl h)
    · rcases zLI k h with e | e
      · exact .inl (by simp [e])
      · exact .inr (.inr ⟨rfl,e⟩)
  | k+1,[],_,h=>h.elim
  | k+1,_::_,[],h=>h.elim
def leP (a b:List Int):Prop:=a=b∨lexlt a b
theorem zNy (a b:List Int) (h:leP a b) (h2:leP b a):a=b:=by
  rcases h with h | h
  · exact h
  · rcases h2 with h2 | h2
    · exact h2.symm
    · exact (zKz (zD8 h h2)).elim
theorem zQX {P:zD}{i j:Nat} (k:Nat) (h:i<j) (hj:j<(progI P).length) (hp:(zIns P i).Part=(zIns P j).Part):leP (ky P k i) (ky P k j):=by
  rcases zI0 h hj with h | ⟨_,h | ⟨h,_⟩⟩
  · omega
  · exact zLI k h
  · exact .inl (by unfold ky; rw [h])
theorem zJy (P:zD) (part:Int) (k:Nat):Cont (ky P k) (ptl P part):=by
  refine zOy (ky P k) zNy ((zNw P part _).imp_of_mem fun {i j} hi hj h=>?_);have hi:=zBf.1 hi;have hj:=zBf.1 hj;exact zQX k h hj.1 (by rw [hi.2,hj.2])
theorem zPA {P:zD}{k i j:Nat} (h:ky P (k+1) i=ky P (k+1) j):ky P k i=ky P k j:=by
  have:=congrArg (List.take k) h;unfold ky at this ⊢;rwa [en,en,Nat.min_eq_left (by omega)] at this
theorem zI2 {L:List (List Nat)}{l g:List Nat} (h:L.flatten=l) (hg:g∈L):∃ p q,l=p++g++q:=by
  obtain ⟨s,t,rfl⟩:=List.append_of_mem hg;exact ⟨s.flatten,t.flatten,by rw [<- h]; simp⟩
theorem zLJ {P:zD}{part:Int}{k:Nat}{g:List Nat} (hg:g∈grp (ky P k) (ptl P part)) (k2:Nat):Cont (ky P k2) g:=by
  obtain ⟨p,q,e⟩:=zI2 (rS (ky P k) (ptl P part)) hg;have:=zJy P part k2;rw [e] at this;exact this.mid
theorem zHY {P:zD}{part:Int}{k:Nat}{g:List Nat} (hg:g∈grp (ky P k) (ptl P part)) {a:Nat} (ha:a∈g):a∈ptl P part:=by
  rw [<- rS (ky P k) (ptl P part)];exact gn.2 ⟨g,hg,ha⟩
theorem zLp {P:zD}{part:Int}{k:Nat}{g:List Nat} (hg:g∈grp (ky P k) (ptl P part)) {r:List Nat} (hr:r∈grp (ky P (k+1)) g) {c:List Int} (hc:keyOf (ky P (k+1)) r=some c) :
    (ptl P part).filter (fun a=>decide (ky P (k+1) a=c))=r:=by
  have h1:=(zFn (ky P (k+1)) g (zLJ hg _)).1 r hr c hc
  obtain ⟨g1,g2⟩:=fG (ky P k) (ptl P part) g hg
  obtain ⟨r1,r2⟩:=fG (ky P (k+1)) g r hr
  obtain ⟨a0,ha0⟩:=List.exists_mem_of_ne_nil r r1
  have ha1:a0∈g:=by rw [<- rS (ky P (k+1)) g]; exact gn.2 ⟨r,hr,ha0⟩
  have hk0:ky P (k+1) a0=c:=by have:=(r2 a0 ha0).symm.trans hc; exact Option.some.inj this
  have hgf:=(zFn (ky P k) (ptl P part) (zJy P part k)).1 g hg (ky P k a0) (g2 a0 ha1)
  rw [<- h1]
  conv=>rhs; rw [<- hgf]
  rw [gx]
  refine gf fun a ha=>?_
  by_cases h:ky P (k+1) a=c
  · have:=zPA (h.trans hk0.symm)
    simp [h,this]
  · simp [h]
theorem zB2 {P:zD} (hb:BG P) (hv:validP P=true) {part:Int}{i:Nat} (hi:i<(progI P).length) (hp:(zIns P i).Part=part):(zIns P i).Point.length=(gP P part.toNat).Nest.length/\(zIns P i).Point.length<=4:=by
  have hs:=zHW hb hv hi hi rfl;refine ⟨by rw [hs.2,hp],(zAb hb hv (zCi hi)).pt⟩
theorem zJz {P:zD} (hb:BG P) (hv:validP P=true) {part:Int}{i k:Nat} (hi:i<(progI P).length) (hp:(zIns P i).Part=part) (hk:k<=(gP P part.toNat).Nest.length):slc (zIns P i).Point 0 (k:Int)=some (ky P k i):=by
  have hl:=zB2 hb hv hi hp;have s1:=zPg (s:=(zIns P i).Point) (f:=0) (i:=k) (ff _) (by omega);rw [nZ,co] at s1;exact s1
theorem zQY {P:zD} (hb:BG P) (hv:validP P=true) {part:Int}{a b k:Nat} (ha:a<(progI P).length) (hpa:(zIns P a).Part=part) (hbn:b<(progI P).length) (hpb:(zIns P b).Part=part) (hk:k<(gP P part.toNat).Nest.length) :
    ∃ x y,idx (zIns P a).Point (k:Int)=some x/\idx (zIns P b).Point (k:Int)=some y/\(ky P k a=ky P k b->((x==y)=decide (ky P (k+1) a=ky P (k+1) b))):=by
  have la:=(zB2 hb hv ha hpa).1
  have lb:=(zB2 hb hv hbn hpb).1
  refine ⟨(zIns P a).Point[k],(zIns P b).Point[k],yI (by omega),yI (by omega),fun h=>?_⟩
  unfold ky at h ⊢
  rw [df (by omega),df (by omega),h]
  by_cases e:(zIns P a).Point[k]=(zIns P b).Point[k]
  · simp [e]
  · rw [beq_false_of_ne e]; symm; rw [decide_eq_false_iff_not]; intro h'; exact e (List.cons.inj (List.append_cancel_left h')).1
theorem zIx1 {P:zD}{i:Nat} (h:i<(progI P).length):idx (progI P) (i:Int)=some (zIns P i):=by rw [yI h,zD7 h]
theorem dH {α:Type}{xs:List α}{y:α} (h:xs.length<=1000000):idx (xs++[y]) (W (((xs++[y]).length:Int) - 1))=some y/\∀ z,(xs++[y]).set (W (((xs++[y]).length:Int) - 1)).toNat z=xs++[z]:=by
  have e:W (((xs++[y]).length:Int) - 1)=(xs.length:Int):=by rw [lA,ee,sT (by omega) (by omega)]; omega
  rw [e];refine ⟨?_,fun z=>?_⟩
  · unfold idx;rw [if_pos (by omega),iN];simp
  · rw [iN]; simp
end Go.LN
namespace Go.LN
def gg (P:zD) (k:Nat) (l:List Nat):List (List (List Nat)):=(grp (ky P k) l).map (grp (ky P (k+1)))
theorem zPB {P:zD}{k:Nat}{l:List Nat}{gs:List (List Nat)}{g:List Nat}{hs:List (List Nat)}{h:List Nat}{b i:Nat} (e1:grp (ky P k) l=gs++[g]) (e2:grp (ky P (k+1)) g=hs++[h]) (hg:g.getLast?=some b) (hh:h.getLast?=some b) :
    gg P k (l++[i])=if ky P k b=ky P k i then gs.map (grp (ky P (k+1)))++[if ky P (k+1) b=ky P (k+1) i then hs++[h++[i]] else hs++[h]++[[i]]] else gs.map (grp (ky P (k+1)))++[hs++[h]]++[[[i]]]:=by
  unfold gg
  rw [zBC,e1,zCI _ _ _ b i hg]
  by_cases hk:ky P k b=ky P k i
  · rw [if_pos hk,if_pos hk,dr,dt,zBC,e2,zCI _ _ _ b i hh]
  · rw [if_neg hk,if_neg hk,dr,dr,dt,dt,e2]; rfl
def lastI (l:List Nat):Int:=match l.getLast? with | some b=>(b:Int) | none=>-1
theorem app24 {α:Type}{l m:List α} (h:l.length+m.length<=1000000):app 24 l m=some (l++m):=oO (by omega)
theorem app8 {α:Type}{l m:List α} (h:l.length+m.length<=1000000):app 8 l m=some (l++m):=oO (by omega)
theorem zCa {κ:Type} [DecidableEq κ] (f:Nat->κ) (l:List Nat):(grp f l).length<=l.length:=by
  have h1:=rS f l;have h2:∀ L:List (List Nat),(∀ g∈L,g ≠ [])->L.length<=L.flatten.length:=by
    intro L
    induction L with
    | nil=>intro _; simp
    | cons g L ih =>
      intro h;have:=ih fun x hx=>h x (ci _ hx);have hg:=h g (cj ..);have:0<g.length:=List.length_pos_iff.2 hg;simp only [fx,lA,cx]; omega
  have:=h2 (grp f l) fun g hg=>(fG f l g hg).1;rwa [h1] at this
theorem zPC {P:zD} (hb:BG P) (hv:validP P=true) {part:Int}{k:Nat} (hk:k<(gP P part.toNat).Nest.length):∀ (j i:Nat),i+j=(progI P).length ->
    xZ (trcP P) part (k:Int) (aI3 (gg P k (Jf P part i))) (lastI (Jf P part i)) (i:Int)=some (aI3 (gg P k (ptl P part))):=by
  have aV:=(uP hv).2.2.2
  have hn4:k<4:=by
    by_cases hp:part.toNat<P.Parts.length
    · exact f8 hk (nest4 hv hp)
    · exfalso
      have:gP P part.toNat=⟨[],[]⟩:=by unfold gP; simp [hp]
      rw [this] at hk; simp at hk
  intro j
  induction j with
  | zero =>
    intro i hi
    rw [xZ]
    have e:i=(progI P).length:=by omega
    subst e
    have:¬(((progI P).length:Int)<((trcP P).list.length:Int)):=by rw [zAZ]; omega
    simp only [this,dF,bF,if_false,oP,id]; rfl
  | succ j ih =>
    intro i hi
    have hin:i<(progI P).length:=by omega
    have hc:((i:Int)<((progI P).length:Int)):=by omega
    rw [xZ]
    simp only [hc,dT,if_true,zAZ,zIx1 hin,oB,oS]
    have ih:=ih (i+1) (by omega)
    rw [zOz] at ih
    by_cases hp:(zIns P i).Part=part
    · rw [if_pos hp] at ih
      have hJl:=zNx P part i
      simp only [hp,bne_self_eq_false,bF,if_false]
      have hpi:=zJz hb hv hin hp (k:=k) (by omega)
      by_cases hJ:Jf P part i=[]
      · rw [hJ] at ih ⊢
        have e0:lastI ([]:List Nat)=-1:=rfl
        have e1:gg P k []=[]:=rfl
        have e2:W (((aI3 ([]:List (List (List Nat)))++[[]]).length:Int) - 1)=0:=by decide
        have e3:W ((([]++[[]]:List (List Int)).length:Int) - 1)=0:=by decide
        rw [e0,e1]
        simp only [show ¬((-1:Int)>=0) by omega,dF,bF,if_false,oS,oP,aI3,eu]
        rw [app24 (by simp)]
        simp only [oS,cv,ee]
        have e4:W ((((1:Nat):Int)) - 1)=0:=by decide
        rw [e4]
        have e5:idx ([[]]:List (List (List Int))) 0=some []:=rfl
        simp only [e5,oS]
        rw [app24 (by simp)]
        simp only [oS,cv,ee]
        rw [e4]
        have e6:idx ([[]]:List (List Int)) 0=some []:=rfl
        simp only [e6,oS]
        rw [app8 (by simp)]
        simp only [oS,cv]
        rw [xY (by omega)]
        have e7:aI3 (gg P k ([]++[i]))=[[[(i:Int)]]]:=rfl
        have e8:lastI ([]++[i])=(i:Int):=rfl
        rw [e7,e8] at ih
        exact ih
      · obtain ⟨gs,g,e1,hg,hgl⟩:=zCH (ky P k) _ hJ
        obtain ⟨hs,h,e2,hh,hhl⟩:=zCH (ky P (k+1)) g hg
        obtain ⟨b,hb'⟩:∃ b,g.getLast?=some b:=by rw [eo hg]; exact ⟨_,rfl⟩
        have hJb:(Jf P part i).getLast?=some b:=hgl ▸ hb'
        obtain ⟨hbi,hbp⟩:=zBf.1 (fi hJb)
        have hbn:b<(progI P).length:=by omega
        have hpb:=zJz hb hv hbn hbp (k:=k) (by omega)
        obtain ⟨x,y,hx,hy,hxy⟩:=zQY hb hv hbn hbp hin hp hk
        have hE:=implEqR (ky P k b) (ky P k i) (by unfold ky; rw [cw]; omega)
        rw [zPB e1 e2 hb' (hhl ▸ hb')] at ih
        have e0:lastI (Jf P part i)=(b:Int):=by unfold lastI; rw [hJb]
        have e8:lastI (Jf P part i++[i])=(i:Int):=by unfold lastI; simp
        have eg:gg P k (Jf P part i)=gs.map (grp (ky P (k+1)))++[hs++[h]]:=by unfold gg; rw [e1,dr,dt,e2]
        rw [e8] at ih
        rw [e0,eg]
        have lg:gs.length+1<=120:=by have:=zCa (ky P k) (Jf P part i); rw [e1] at this; simp at this; omega
        have lJ:(grp (ky P k) (Jf P part i)).flatten.length<=120:=by rw [rS]; omega
        have lgg:g.length<=120:=by
          rw [e1] at lJ; simp at lJ; omega
        have lh:hs.length+1<=120:=by have:=zCa (ky P (k+1)) g; rw [e2] at this; simp at this; omega
        have lhh:h.length<=120:=by
          have:(grp (ky P (k+1)) g).flatten.length<=120:=by rw [rS]; exact lgg
          rw [e2] at this; simp at this; omega
        simp only [show ((b:Int)>=0) by omega,dT,if_true,zIx1 hbn,oS,hpb,hpi,hE,oP,id]
        have lx:(aI3 (gs.map (grp (ky P (k+1))))).length<=1000000:=by simp [aI3]; omega
        have ly:(aI2 hs).length<=1000000:=by simp [aI2]; omega
        by_cases hk1:ky P k b=ky P k i
        · rw [if_pos hk1] at ih
          simp only [hk1,dT,if_true,hx,hy,oS]
          rw [zFp]
          simp only [(dH lx).1,oS]
          rw [hxy hk1]
          by_cases hk2:ky P (k+1) b=ky P (k+1) i
          · rw [if_pos hk2] at ih
            simp only [hk2,dT,if_true,oS]
            rw [zFo]
            simp only [(dH ly).1,oS]
            rw [app8 (by rw [oR]; simp; omega)]
            simp only [oS]
            rw [(dH ly).2,(dH lx).2,xY (by omega)]
            rw [zFp,zFo,zNv] at ih
            exact ih
          · rw [if_neg hk2] at ih
            simp only [hk2,dF,bF,if_false]
            rw [app24 (by simp [aI2]; omega)]
            simp only [oS]
            have lz:(aI2 (hs++[h])).length<=1000000:=by simp [aI2]; omega
            simp only [(dH lz).1,oS]
            rw [app8 (by simp)]
            simp only [oS]
            rw [(dH lz).2,(dH lx).2,xY (by omega)]
            rw [zFp,zFo] at ih
            exact ih
        · rw [if_neg hk1] at ih
          simp only [hk1,dF,bF,if_false,oS]
          have lx2:(aI3 (gs.map (grp (ky P (k+1)))++[hs++[h]])).length<=1000000:=by simp [aI3]; omega
          rw [app24 (by simp [aI3]; omega)]
          simp only [oS,(dH lx2).1]
          rw [app24 (by simp)]
          simp only [oS,cv,ee]
          have e4:W ((((1:Nat):Int)) - 1)=0:=by decide
          rw [e4]
          have e6:idx ([[]]:List (List Int)) 0=some []:=rfl
          simp only [e6,oS]
          rw [app8 (by simp)]
          simp only [oS,cv]
          rw [(dH lx2).2,xY (by omega)]
          rw [zFp (l:=_++[hs++[h]])] at ih
          exact ih
    · rw [if_neg hp] at ih
      have:((zIns P i).Part != part)=true:=by simp [hp]
      simp only [this,if_true]
      rw [xY (by omega)]
      exact ih
theorem iterV {P:zD} (hb:BG P) (hv:validP P=true) {part:Int}{k:Nat} (hk:k<(gP P part.toNat).Nest.length):qT (trcP P) part (k:Int)=some (aI3 (gg P k (ptl P part))):=by
  unfold qT;have:=zPC hb hv hk (progI P).length 0 (cu _);have e:aI3 (gg P k (Jf P part 0))=[]:=rfl;have e2:lastI (Jf P part 0)=-1:=rfl;rw [e,e2] at this;have this2:xZ (trcP P) part (k:Int) [] (-1) 0=some (aI3 (gg P k (ptl P part))):=this;rw [this2]; rfl
theorem gather {F:List Int->Int->Option (List Int)}{n:Nat} (hn:n<=100000) (p:Nat->Bool) (step:∀ (o:List Int) (i:Nat),i<n->F o (i:Int)=if p i then (app 8 o [(i:Int)]).bind fun o'=>F o' ((i+1:Nat):Int) else F o ((i+1:Nat):Int)) (fin:∀ o,F o (n:Int)=some o) :
    ∀ (j i:Nat) (o:List Int),i+j=n->o.length+j<=900000->F o (i:Int)=some (o++asI ((List.range' i j).filter p)):=by
  intro j
  induction j with
  | zero =>
    intro i o hi _
    rw [show i=n by omega,fin]; simp [asI]
  | succ j ih =>
    intro i o hi ho
    rw [step o i (by omega),cU,List.filter_cons]
    cases hp:p i with
    | true =>
      simp only [if_true]
      rw [app8 (by simp; omega)]
      simp only [oS]
      rw [ih (i+1) _ (by omega) (by simp; omega)]
      simp [asI]
    | false =>
      simp only [bF,if_false]
      exact ih (i+1) o (by omega) (by omega)
theorem gather0 {F:List Int->Int->Option (List Int)}{n:Nat} (hn:n<=100000) (p:Nat->Bool) (step:∀ (o:List Int) (i:Nat),i<n->F o (i:Int)=if p i then (app 8 o [(i:Int)]).bind fun o'=>F o' ((i+1:Nat):Int) else F o ((i+1:Nat):Int)) (fin:∀ o,F o (n:Int)=some o) (o:List Int) (ho:o.length<=800000) :
    F o 0=some (o++asI ((List.range n).filter p)):=by
  have:=gather hn p step fin n 0 o (cu _) (by omega)
  rw [List.range_eq_range']
  exact this
def ptR (P:zD) (a b:Int):List Nat:=(List.range (progI P).length).filter fun i=>decide (a<=(zIns P i).Part)&&decide ((zIns P i).Part<b)
theorem specParts {P:zD} (hv:validP P=true) (a b:Int):gD (progI P) a b=some (asI (ptR P a b)):=by
  have aV:=(uP hv).2.2.2;unfold gD;have:=gather0 (F:=fun o i=>qI (progI P) a b o i) (n:=(progI P).length) (by omega) (fun i=>decide (a<=(zIns P i).Part)&&decide ((zIns P i).Part<b)) (fun o i hi=>by
    rw [qI];have hc:((i:Int)<((progI P).length:Int)):=by omega
    simp only [hc,dT,if_true,zIx1 hi,oB,oS,oP,id];rw [xY (by omega)];by_cases h1:(zIns P i).Part>=a
    · by_cases h2:(zIns P i).Part<b
      · simp [h1,h2]
      · simp [h1,h2]
    · simp [h1,show ¬(a<=(zIns P i).Part) from h1]) (fun o=>by rw [qI]; simp) [] (by simp)
  rw [cv] at this;have this2:qI (progI P) a b [] 0=_:=this;rw [this2]; rfl
theorem specGroup {P:zD} (hb:BG P) (hv:validP P=true) {part:Int}{k:Nat} (hk:k<=(gP P part.toNat).Nest.length) {c:List Int} (hc:c.length=k):rA (progI P) part c=some (asI ((ptl P part).filter fun a=>decide (ky P k a=c))):=by
  have aV:=(uP hv).2.2.2;unfold rA;have:=gather0 (F:=fun o i=>qK (progI P) part c o i) (n:=(progI P).length) (by omega) (fun i=>(decide (ky P k i=c))&&((zIns P i).Part==part)) (fun o i hi=>by
    rw [qK];have bM:((i:Int)<((progI P).length:Int)):=by omega
    simp only [bM,dT,if_true,zIx1 hi,oB,oS,oP,id];rw [xY (by omega)];by_cases h1:(zIns P i).Part=part
    · have hs:=zJz hb hv hi h1 (k:=k) hk;have hE:=specEqR (ky P k i) c (by unfold ky; rw [cw]; have:=(zB2 hb hv hi h1).2; omega);simp only [h1,bQ,if_true,hc,hs,hE,oS,ia];by_cases h2:ky P k i=c <;> simp [h2]
    · have:((zIns P i).Part==part)=false:=by simp [h1]
      simp [this]) (fun o=>by rw [qK]; simp) [] (by simp)
  rw [cv] at this;have this2:qK (progI P) part c [] 0=_:=this;rw [this2];unfold ptl Jf;rw [gx]; rfl
def hds (P:zD) (k:Nat) (l:List Nat):List (List Int):=(grp (ky P k) l).map fun g=>ky P k (g.headD 0)
theorem zNz {P:zD}{k:Nat}{l:List Nat}{i b:Nat} (hb:l.getLast?=some b):(∃ H,hds P k l=H++[ky P k b])/\hds P k (l++[i])=if ky P k b=ky P k i then hds P k l else hds P k l++[ky P k i]:=by
  have hl:l ≠ []:=by intro e; rw [e] at hb; cases hb
  obtain ⟨gs,g,e1,hg,hgl⟩:=zCH (ky P k) l hl;have hgb:g.getLast?=some b:=by rw [hgl,hb]
  have hgk:=(fG (ky P k) l g (by rw [e1]; simp)).2 b (fi hgb);have hgh:ky P k (g.headD 0)=ky P k b:=by
    unfold keyOf at hgk;cases g with
    | nil=>exact absurd rfl hg
    | cons a t=>exact Option.some.inj hgk
  unfold hds;refine ⟨⟨gs.map fun g=>ky P k (g.headD 0),by rw [e1,dr,dt,hgh]⟩,?_⟩;rw [zBC,e1,zCI _ _ _ b i hgb];split
  · rw [dr,dr,dt,dt]
    congr 3
    cases g with
    | nil=>exact absurd rfl hg
    | cons a t=>rfl
  · rw [dr (l₂:=[[i]])]; rfl
theorem zKA {P:zD} (hb:BG P) (hv:validP P=true) {part:Int}{k:Nat} (hk:k<=(gP P part.toNat).Nest.length) {g:List Nat} (hg:∀ a∈g,a∈ptl P part) (hgl:g.length<=120):∀ (j i:Nat),i+j=g.length ->
    qJ (progI P) (asI g) (k:Int) (hds P k (g.take i)) (i:Int)=some (hds P k g):=by
  intro j
  induction j with
  | zero =>
    intro i hi
    rw [qJ]
    have:¬((i:Int)<((asI g).length:Int)):=by rw [oR]; omega
    simp only [this,dF,bF,if_false,oP,id]
    rw [dg (by omega)]
  | succ j ih =>
    intro i hi
    have aE:i<g.length:=by omega
    rw [qJ]
    have hc:((i:Int)<((asI g).length:Int)):=by rw [oR]; omega
    obtain ⟨hin,hip⟩:=zBf.1 (hg _ (gM aE))
    have hs:=zJz hb hv hin hip (k:=k) hk
    simp only [hc,dT,if_true,zJx aE,zIx1 hin,hs,oB,oS]
    have ih:=ih (i+1) (by omega)
    rw [df aE] at ih
    rw [xY (by omega)]
    by_cases h0:i=0
    · subst h0
      have e:hds P k ([]++[g[0]])=[ky P k g[0]]:=rfl
      rw [List.take_zero,e] at ih
      have e2:hds P k (g.take 0)=[]:=rfl
      rw [e2]
      simp only [cV,nZ,bQ,if_true,oS,oP,id]
      rw [app24 (by simp)]
      exact ih
    · obtain ⟨b,hbl⟩:∃ b,(g.take i).getLast?=some b:=by
        have:g.take i ≠ []:=by intro e; have:=congrArg List.length e; rw [cw,cV] at this; omega
        rw [eo this]; exact ⟨_,rfl⟩
      obtain ⟨⟨H,eH⟩,e1⟩:=zNz (P:=P) (k:=k) (i:=g[i]) hbl
      rw [e1] at ih
      rw [eH] at ih ⊢
      obtain ⟨hbn,hbp⟩:=zBf.1 (hg b (List.mem_of_mem_take (fi hbl)))
      have hE:=specEqR (ky P k b) (ky P k g[i]) (by unfold ky; rw [cw]; have:=(zB2 hb hv hbn hbp).2; omega)
      have hl:(grp (ky P k) (g.take i)).length<=120:=by have:=zCa (ky P k) (g.take i); rw [cw] at this; omega
      have hHl:H.length+1<=120:=by have:=congrArg List.length eH; unfold hds at this; simp at this; omega
      have hne:(((H++[ky P k b]).length:Int)==0)=false:=by simp; omega
      simp only [hne,bF,if_false,(dH (xs:=H) (y:=ky P k b) (by omega)).1,oS,hE,oP,id]
      by_cases hk1:ky P k b=ky P k g[i]
      · rw [if_pos hk1] at ih
        simp only [hk1,dT,bT,bF,if_false,oS]
        rw [<- hk1]; exact ih
      · rw [if_neg hk1] at ih
        simp only [hk1,dF,dl,if_true]
        rw [app24 (by simp; omega)]
        exact ih
theorem specHeads {P:zD} (hb:BG P) (hv:validP P=true) {part:Int}{k:Nat} (hk:k<=(gP P part.toNat).Nest.length) {g:List Nat} (hg:∀ a∈g,a∈ptl P part) (hgl:g.length<=120):gE (progI P) (asI g) (k:Int)=some (hds P k g):=by
  unfold gE;have:=zKA hb hv hk hg hgl g.length 0 (cu _);have e:hds P k (g.take 0)=[]:=rfl;rw [e] at this;have this2:qJ (progI P) (asI g) (k:Int) [] 0=_:=this;rw [this2]; rfl
end Go.LN
namespace Go.LN
section
variable {κ:Type} (f:Nat->κ)
def RunsOk (R:List (List Nat)):Prop:=(R.map (keyOf f)).Nodup/\∀ r∈R,r.Pairwise (· < ·)/\∀ a∈r,keyOf f r=some (f a)
def Keeps (l:List Nat):Prop:=l.Pairwise fun a b=>f a=f b->a<b
theorem RunsOk.sub {κ:Type} (f:Nat->κ) {R S:List (List Nat)} (h:RunsOk f R) (hs:S.Sublist R):RunsOk f S:=⟨h.1.sublist (hs.map _),fun r hr=>h.2 r (hs.subset hr)⟩
def row (t:Nat) (R:List (List Nat)):List Nat:=R.flatMap fun l=>l[t]?.toList
def waveF (m:Nat) (R:List (List Nat)):List Nat:=(List.range m).flatMap fun t=>row t R
theorem zLK {g h:Nat->List Nat}:∀ l:List Nat,(l.flatMap fun t=>g t++h t).Perm (l.flatMap g++l.flatMap h)
  | []=>List.Perm.refl _
  | t::l=>by
    simp only [ck]
    have:=zLK (g:=g) (h:=h) l
    refine (List.Perm.append_left _ this).trans ?_
    simp only [cq]
    exact List.Perm.append_left _ (List.perm_append_comm_assoc ..)
theorem zMq:∀ (l:List Nat) (m:Nat),l.length<=m->((List.range m).flatMap fun t=>l[t]?.toList)=l:=by
  intro l m h;have:∀ j i,i+j=m->((List.range' i j).flatMap fun t=>l[t]?.toList)=l.drop i:=by
    intro j
    induction j with
    | zero=>intro i hi; rw [dN.2 (by omega)]; rfl
    | succ j ih =>
      intro i hi;rw [cU,ck,ih (i+1) (by omega)];by_cases hl:i<l.length
      · rw [cg hl,gC hl]; rfl
      · rw [dd (by omega),dN.2 (by omega),dN.2 (by omega)]; rfl
  rw [List.range_eq_range',this m 0 (cu _),co]
theorem zCJ (m:Nat):∀ R:List (List Nat),(∀ l∈R,l.length<=m)->(waveF m R).Perm R.flatten
  | [],_=>by
    unfold waveF row
    simp
  | l::R,h=>by
    have h1:=zCJ m R fun x hx=>h x (ci _ hx)
    have h2:=zMq l m (h l (cj ..))
    unfold waveF at h1 ⊢
    have e:(fun t=>row t (l::R))=fun t=>l[t]?.toList++row t R:=by funext t; unfold row; rw [ck]
    rw [e]
    refine (zLK _).trans ?_
    rw [h2,fx]
    exact List.Perm.append_left _ h1
theorem zKB {t:Nat}{R:List (List Nat)}{a:Nat} (h:a∈row t R):∃ r∈R,r[t]?=some a:=by
  unfold row at h;obtain ⟨r,hr,ha⟩:=cA.1 h;refine ⟨r,hr,?_⟩;cases e:r[t]? with
  | none=>rw [e] at ha; cases ha
  | some x=>rw [e] at ha; rw [cr.1 ha]
theorem zPD {R:List (List Nat)} (h:(R.map (keyOf f)).Nodup) {r s:List Nat} (hr:r∈R) (hs:s∈R) (e:keyOf f r=keyOf f s):r=s:=by
  induction R with
  | nil=>cases hr
  | cons x R ih =>
    rw [cH,fc] at h;rcases cK.1 hr with h1 | h1
    · rcases cK.1 hs with h2 | h2
      · rw [h1,h2]
      · exact (h.1 (dx.2 ⟨s,h2,by rw [<- e,h1]⟩)).elim
    · rcases cK.1 hs with h2 | h2
      · exact (h.1 (dx.2 ⟨r,h1,by rw [e,h2]⟩)).elim
      · exact ih h.2 h1 h2
theorem zOA {t:Nat}:∀ {R:List (List Nat)},RunsOk f R->(row t R).Pairwise fun a b=>f a=f b->a<b
  | [],_=>List.Pairwise.nil
  | l::R,h=>by
    have h1:=zOA (t:=t) (h.sub f (List.sublist_cons_self ..))
    unfold row at h1 ⊢
    rw [ck]
    refine dm.2 ⟨?_,h1,fun a ha b hb hab=>?_⟩
    · cases l[t]? with
      | none=>exact List.Pairwise.nil
      | some x=>exact List.pairwise_singleton ..
    · exfalso
      have hal:a∈l:=by
        cases e:l[t]? with
        | none=>rw [e] at ha; cases ha
        | some x=>rw [e] at ha; rw [cr.1 ha]; exact cI e
      obtain ⟨r,hr,hbr⟩:=zKB (t:=t) (R:=R) hb
      have k1:=(h.2 l (cj ..)).2 a hal
      have k2:=(h.2 r (ci _ hr)).2 b (cI hbr)
      have hn:=h.1
      rw [cH,fc] at hn
      exact hn.1 (dx.2 ⟨r,hr,by rw [k2,k1,hab]⟩)
theorem zLq (m:Nat) {R:List (List Nat)} (h:RunsOk f R):Keeps f (waveF m R):=by
  unfold Keeps waveF;rw [List.pairwise_flatMap];refine ⟨fun t _=>zOA f h,gc.imp fun {s t} hst a ha b hb hab=>?_⟩;obtain ⟨r,hr,har⟩:=zKB ha;obtain ⟨q,hq,hbq⟩:=zKB hb;have k1:=(h.2 r hr).2 a (cI har);have k2:=(h.2 q hq).2 b (cI hbq);have:r=q:=zPD f h.1 hr hq (by rw [k1,k2,hab]);subst this;obtain ⟨h1,e1⟩:=cm.1 har;obtain ⟨h2,e2⟩:=cm.1 hbq;rw [<- e1,<- e2];exact hU.1 (h.2 r hr).1 s t h1 h2 hst
end
def foldT (T:Nat->List (List Nat)->List Nat×Nat):Nat->List (List (List Nat))->List Nat×Nat
  | n,[]=>([],n)
  | n,R::A=>((T n R).1++(foldT T (T n R).2 A).1,(foldT T (T n R).2 A).2)
theorem zBD {T:Nat->List (List Nat)->List Nat×Nat}:∀ (A:List (List (List Nat))) (n:Nat),(∀ R∈A,∀ n,(T n R).1.Perm R.flatten)->(foldT T n A).1.Perm (A.map List.flatten).flatten
  | [],n,_=>List.Perm.refl _
  | R::A,n,h=>by
    rw [foldT,cH,fx]
    exact (h R (cj ..) n).append (zBD A _ fun S hS=>h S (ci _ hS))
theorem zLL {T:Nat->List (List Nat)->List Nat×Nat}{S:Nat->Nat->Prop}:∀ (A:List (List (List Nat))) (n:Nat),(∀ R∈A,∀ n,(T n R).1.Perm R.flatten/\(T n R).1.Pairwise S)->((A.map List.flatten).Pairwise fun g h=>∀ a∈g,∀ b∈h,S a b)->(foldT T n A).1.Pairwise S
  | [],n,_,_=>List.Pairwise.nil
  | R::A,n,h,hp=>by
    rw [cH,f9] at hp
    rw [foldT]
    have hA:=fun Q hQ=>h Q (ci R hQ)
    refine dm.2 ⟨(h R (cj ..) n).2,zLL A _ hA hp.2,fun a ha b hb=>?_⟩
    have ha2:=(h R (cj ..) n).1.mem_iff.1 ha
    have hb2:=(zBD A _ fun Q hQ n=>(hA Q hQ n).1).mem_iff.1 hb
    obtain ⟨g,hg,hbg⟩:=gn.1 hb2
    exact hp.1 g hg a ha2 b hbg
end Go.LN
namespace Go.LN
theorem zFq (R:List (List Nat)):(aI2 R).length=R.length:=by simp [aI2]
theorem zMX {R:List (List Nat)}{k:Nat} (h:k<R.length):idx (aI2 R) (k:Int)=some (asI R[k]):=by rw [yI (by rw [zFq]; exact h)]; simp [aI2]
theorem zKC (t:Nat):∀ R:List (List Nat),(row t R).length<=R.length
  | []=>by simp [row]
  | l::R=>by
    have:=zKC t R
    unfold row at this ⊢
    rw [ck,lA,cx]
    have h2:(l[t]?.toList).length<=1:=by cases l[t]? <;> simp
    omega
theorem zI3 (t:Nat) (l:List Nat) (R:List (List Nat)):row t (l::R)=l[t]?.toList++row t R:=by unfold row; rw [ck]
theorem zOB (t:Nat) (R:List (List Nat)) (hR:R.length<=1000):∀ (j i:Nat) (out:List Int) (b:Bool),i+j=R.length->out.length+j<=800000 ->
    sP (aI2 R) (t:Int) out b (i:Int)=some (out++asI (row t (R.drop i)),b||(R.drop i).any fun l=>decide (t<l.length)):=by
  intro j
  induction j with
  | zero =>
    intro i out b hi _
    rw [sP]
    have:¬((i:Int)<((aI2 R).length:Int)):=by rw [zFq]; omega
    simp only [this,dF,bF,if_false,oP]
    rw [dN.2 (show R.length<=i by omega)]
    simp [row,asI]
  | succ j ih =>
    intro i out b hi ho
    have aE:i<R.length:=by omega
    rw [sP]
    have hc:((i:Int)<((aI2 R).length:Int)):=by rw [zFq]; omega
    simp only [hc,dT,if_true,zMX aE,oB,oS,oR]
    rw [xY (by omega),gC aE,zI3,hZ]
    by_cases ht:t<R[i].length
    · have ht2:(t:Int)<(R[i].length:Int):=by omega
      simp only [ht2,dT,if_true,zJx ht,oS,oP]
      rw [app8 (by simp; omega)]
      simp only [oS]
      rw [ih (i+1) _ true (by omega) (by simp; omega),cg ht]
      simp [asI,ht]
    · have ht2:¬(t:Int)<(R[i].length:Int):=by omega
      simp only [ht2,dF,bF,if_false,oS,oP]
      rw [ih (i+1) out b (by omega) (by omega),dd (by omega)]
      simp [ht]
theorem zFr {t:Nat}:∀ {R:List (List Nat)},R.any (fun l=>decide (t<l.length))=false->row t R=[]
  | [],_=>rfl
  | l::R,h=>by
    rw [hZ,Bool.or_eq_false_iff] at h
    rw [zI3,zFr h.2,dd (by have:=h.1; simp at this; omega)]; rfl
theorem zJT {t:Nat}{R:List (List Nat)} (h:R.any (fun l=>decide (t<l.length))=false):∀ j s,t<=s->((List.range' s j).flatMap fun u=>row u R)=[]
  | 0,s,_=>rfl
  | j+1,s,hs=>by
    rw [cU,ck,zJT h j (s+1) (by omega)]
    have:R.any (fun l=>decide (s<l.length))=false:=by
      rw [List.any_eq_false] at h ⊢
      intro l hl
      have:=h l hl
      simp at this ⊢
      omega
    rw [zFr this]; rfl
theorem zPv (R:List (List Nat)) (hR:R.length<=120) (hm:∀ l∈R,l.length<=120):∀ (j t:Nat) (out:List Int),t+j=120->out.length+120*(j+1)<=600000 ->
    wZ (aI2 R) out (t:Int) true=some (out++asI ((List.range' t j).flatMap fun u=>row u R)):=by
  have hfin:∀ (o:List Int) (t:Int),wZ (aI2 R) o t false=some o:=fun o t=>by rw [wZ]; simp
  intro j
  induction j with
  | zero =>
    intro t out ht ho
    have hno:R.any (fun l=>decide (t<l.length))=false:=by
      rw [List.any_eq_false]; intro l hl; have:=hm l hl; simp; omega
    rw [wZ]
    have h2:=zOB t R (by omega) R.length 0 out false (cu _) (by omega)
    rw [co,hno,zFr hno,nZ] at h2
    simp only [if_true,h2,oB,oS]
    rw [Bool.or_false,hfin]
    simp [asI]
  | succ j ih =>
    intro t out ht ho
    rw [wZ]
    have h2:=zOB t R (by omega) R.length 0 out false (cu _) (by omega)
    rw [co,nZ,ex] at h2
    have hrl:=zKC t R
    simp only [if_true,h2,oB,oS]
    rw [cU,ck,xY (by omega)]
    cases hno:R.any (fun l=>decide (t<l.length)) with
    | true =>
      rw [ih (t+1) _ (by omega) (by rw [lA,oR]; omega),zB1,cq]
    | false =>
      rw [hfin,zFr hno,zJT hno j (t+1) (by omega)]
      simp [asI]
def wvP (n:Nat) (R:List (List Nat)):List Nat×Nat:=(waveF 120 R,n)
theorem wvI (R:List (List Nat)) (hR:R.length<=120) (hm:∀ l∈R,l.length<=120):rB (aI2 R)=some (asI (waveF 120 R)):=by
  unfold rB;have:=zPv R hR hm 120 0 [] (cu _) (by simp);rw [cv,<- List.range_eq_range'] at this;have this2:wZ (aI2 R) [] 0 true=some (asI (waveF 120 R)):=this;rw [this2]; rfl
theorem zPw (t:Nat) (R:List (List Nat)) (hR:R.length<=1000):∀ (j i:Nat) (out:List Int),i+j=R.length->out.length+j<=800000 ->
    qC (aI2 R) (t:Int) out (i:Int)=some (out++asI (row t (R.drop i))):=by
  intro j
  induction j with
  | zero =>
    intro i out hi _
    rw [qC]
    have:¬((i:Int)<((aI2 R).length:Int)):=by rw [zFq]; omega
    simp only [this,dF,bF,if_false,oP]
    rw [dN.2 (show R.length<=i by omega)]
    simp [row,asI]
  | succ j ih =>
    intro i out hi ho
    have aE:i<R.length:=by omega
    rw [qC]
    have hc:((i:Int)<((aI2 R).length:Int)):=by rw [zFq]; omega
    simp only [hc,dT,if_true,zMX aE,oB,oS,oR]
    rw [xY (by omega),gC aE,zI3]
    by_cases ht:t<R[i].length
    · have ht2:(t:Int)<(R[i].length:Int):=by omega
      simp only [ht2,dT,if_true,zJx ht,oS,oP,id]
      rw [app8 (by simp; omega)]
      simp only [oS]
      rw [ih (i+1) _ (by omega) (by simp; omega),cg ht]
      simp [asI]
    · have ht2:¬(t:Int)<(R[i].length:Int):=by omega
      simp only [ht2,dF,bF,if_false,oS,oP,id]
      rw [ih (i+1) out (by omega) (by omega),dd (by omega)]
      simp
theorem zPx (R:List (List Nat)) (hR:R.length<=120):∀ (j t:Nat) (out:List Int),t+j=120->out.length+120*(j+1)<=600000 ->
    qD (aI2 R) out (t:Int)=some (out++asI ((List.range' t j).flatMap fun u=>row u R)):=by
  intro j
  induction j with
  | zero =>
    intro t out ht ho
    rw [qD]
    have:¬((t:Int)<120):=by omega
    simp [this,asI]
  | succ j ih =>
    intro t out ht ho
    rw [qD]
    have hc:((t:Int)<120):=by omega
    have h2:=zPw t R (by omega) R.length 0 out (cu _) (by omega)
    rw [co,nZ] at h2
    have hrl:=zKC t R
    simp only [hc,dT,if_true,h2,oB,oS]
    rw [xY (by omega),ih (t+1) _ (by omega) (by rw [lA,oR]; omega),cU,ck,zB1,cq]
theorem zPy {Z:List zK}{part:Int}{key:List Nat->List Int} (R:List (List Nat)) (hg:∀ r∈R,rA Z part (key r)=some (asI r)) (hR:R.length<=1000):∀ (j i:Nat),i+j=R.length ->
    sI part Z (R.map key) (aI2 (R.take i)) (i:Int)=some (aI2 R):=by
  intro j
  induction j with
  | zero =>
    intro i hi
    rw [sI]
    have:¬((i:Int)<((R.map key).length:Int)):=by rw [lM]; omega
    simp only [this,dF,bF,if_false,oP,id]
    rw [dg (by omega)]
  | succ j ih =>
    intro i hi
    have aE:i<R.length:=by omega
    rw [sI]
    have hc:((i:Int)<((R.map key).length:Int)):=by rw [lM]; omega
    have hx:idx (R.map key) (i:Int)=some (key R[i]):=by rw [yI (by rw [lM]; exact aE)]; simp
    simp only [hc,dT,if_true,hx,hg _ (gM aE),oB,oS]
    rw [app24 (by simp [aI2]; omega)]
    simp only [oS]
    have:=ih (i+1) (by omega)
    rw [df aE,zFo] at this
    rw [xY (by omega)]
    exact this
theorem zGf {T:Nat->List (List Nat)->List Nat×Nat}{R:List (List Nat)}{A:List (List (List Nat))}{n:Nat}:foldT T n (R::A)=((T n R).1++(foldT T (T n R).2 A).1,(foldT T (T n R).2 A).2):=rfl
theorem zPz {σ:Type}{taken:List (List Int)->σ->Option (List Int×σ)}{enc:Nat->σ}{T:Nat->List (List Nat)->List Nat×Nat} (A:List (List (List Nat))) (hA:A.length<=1000) (hT:∀ R∈A,∀ n,n<=500000->taken (aI2 R) (enc n)=some (asI (T n R).1,enc (T n R).2)/\(T n R).2<=n+120/\(T n R).1.length<=120) :
    ∀ (j i n:Nat) (out:List Int),i+j=A.length->n+120*j<=400000->out.length+120*j<=800000->nO taken (aI3 A) out (enc n) (i:Int)=some (out++asI (foldT T n (A.drop i)).1,enc (foldT T n (A.drop i)).2):=by
  intro j
  induction j with
  | zero =>
    intro i n out hi _ _
    rw [nO]
    have:¬((i:Int)<((aI3 A).length:Int)):=by simp [aI3]; omega
    simp only [this,dF,bF,if_false,oP]
    rw [dN.2 (show A.length<=i by omega)]
    simp [foldT,asI]
  | succ j ih =>
    intro i n out hi hn ho
    have aE:i<A.length:=by omega
    rw [nO]
    have hc:((i:Int)<((aI3 A).length:Int)):=by simp [aI3]; omega
    have hx:idx (aI3 A) (i:Int)=some (aI2 A[i]):=by rw [yI (by simp [aI3]; omega)]; simp [aI3]
    obtain ⟨t1,t2,t3⟩:=hT _ (gM aE) n (by omega)
    simp only [hc,dT,if_true,hx,t1,oB,oS]
    rw [app8 (by rw [oR]; omega)]
    simp only [oS]
    rw [xY (by omega),ih (i+1) _ _ (by omega) (by omega) (by rw [lA,oR]; omega),gC aE,zGf,zB1,cq]
def preI (P:zD) (part:Int):List Nat:=(List.range (progI P).length).filter fun i=>decide ((zIns P i).Part<part)
def posI (P:zD) (part:Int):List Nat:=(List.range (progI P).length).filter fun i=>decide ((zIns P i).Part>part)
def ordT (P:zD) (part:Int) (k:Nat) (T:Nat->List (List Nat)->List Nat×Nat):List Nat:=preI P part++(foldT T 0 (gg P k (ptl P part))).1++posI P part
def rngL (P:zD) (part loop:Int):Prop:=(0<=part/\part<=(P.Parts.length:Int) - 1)/\0<=loop/\loop<=((gP P part.toNat).Nest.length:Int) - 1
instance (P:zD) (part loop:Int):Decidable (rngL P part loop):=inferInstanceAs (Decidable (_/\_))
theorem isLoopV {P:zD} (hb:BG P) (hv:validP P=true) (part loop:Int):sM P part loop=some (decide (rngL P part loop)):=by
  unfold rngL;simp only [sM,isPartL hb,oB,oS,oP,id];by_cases h:0<=part/\part<=(P.Parts.length:Int) - 1
  · have h4:=nest4 hv (show part.toNat<P.Parts.length by omega);simp only [h.1,h.2,dT,fk,if_true,zJw h,oS,oH,sT (x:=((gP P part.toNat).Nest.length:Int) - 1) (by omega) (by omega),true_and]
    congr 1
    rw [ea,bA,decide_eq_true_eq,decide_eq_true_eq,decide_eq_true_eq]
  · simp only [zMU h,bF,if_false,h,false_and,dF,oS]
theorem specHas8 {P:zD} (hb:BG P) (part loop:Int):zAC P part loop=some (validP P&&decide (rngL P part loop)):=by
  unfold zAC rngL;rw [specValidP P hb];cases hv:validP P with
  | false=>simp
  | true =>
    by_cases a:0<=part
    · by_cases b:part<=(P.Parts.length:Int) - 1
      · by_cases c:0<=loop
        · have b':part<(P.Parts.length:Int):=by omega
          simp only [if_true,oB,oS,oP,id,ge_iff_le,a,b,b',c,dT,zJw ⟨a,b⟩,true_and,cz]
          congr 1
          rw [ea,decide_eq_true_eq,decide_eq_true_eq];omega
        · have b':part<(P.Parts.length:Int):=by omega
          simp [a,b',c]
      · have b':¬part<(P.Parts.length:Int):=by omega
        simp [a,b',b]
    · simp [a]
theorem zHZ (P:zD) (k:Nat) (l:List Nat):(gg P k l).map List.flatten=grp (ky P k) l:=by
  unfold gg;rw [List.map_map]
  conv=>rhs; rw [<- List.map_id (grp (ky P k) l)]
  exact List.map_congr_left fun g _=>rS (ky P (k+1)) g
theorem zKD {P:zD}{k:Nat}{l:List Nat} (hl:l.length<=120):(gg P k l).length<=120/\∀ R∈gg P k l,R.flatten.length<=120/\R.length<=120/\∀ r∈R,r.length<=120:=by
  have h1:=zCa (ky P k) l;refine ⟨by unfold gg; rw [lM]; omega,fun R hR=>?_⟩;obtain ⟨g,hg,rfl⟩:=dx.1 hR;obtain ⟨p,q,e⟩:=zI2 (rS (ky P k) l) hg;have hgl:g.length<=120:=by have:=congrArg List.length e; simp at this; omega
  have h2:=zCa (ky P (k+1)) g;refine ⟨by rw [rS]; exact hgl,by omega,fun r hr=>?_⟩;obtain ⟨p2,q2,e2⟩:=zI2 (rS (ky P (k+1)) g) hr;have:=congrArg List.length e2;simp at this; omega
theorem zH0 {P:zD} (hv:validP P=true) (part:Int):(ptl P part).length<=120:=cW (zNx P part _) (uP hv).2.2.2
theorem zQZ {P:zD} (hv:validP P=true) (part:Int) (o:List Int) (ho:o.length<=700000):pJ part (trcP P) o 0=some (o++asI (preI P part)):=by
  have aV:=(uP hv).2.2.2;refine gather0 (F:=fun o i=>pJ part (trcP P) o i) (n:=(progI P).length) (by omega) (fun i=>decide ((zIns P i).Part<part)) (fun o i hi=>?_) (fun o=>?_) o (by omega)
  · rw [pJ];have hc:((i:Int)<((progI P).length:Int)):=by omega
    simp only [hc,dT,if_true,zAZ,zIx1 hi,oB,oS,oP,id];rw [xY (by omega)];by_cases h1:(zIns P i).Part<part <;> simp [h1]
  · rw [pJ]; simp [zAZ]
theorem zQ0 {P:zD} (hv:validP P=true) (part:Int) (o:List Int) (ho:o.length<=700000):pK part (trcP P) o 0=some (o++asI (posI P part)):=by
  have aV:=(uP hv).2.2.2;refine gather0 (F:=fun o i=>pK part (trcP P) o i) (n:=(progI P).length) (by omega) (fun i=>decide ((zIns P i).Part>part)) (fun o i hi=>?_) (fun o=>?_) o (by omega)
  · rw [pK];have hc:((i:Int)<((progI P).length:Int)):=by omega
    simp only [hc,dT,if_true,zAZ,zIx1 hi,oB,oS,oP,id];rw [xY (by omega)];by_cases h1:(zIns P i).Part>part <;> simp [h1]
  · rw [pK]; simp [zAZ]
def ordF (P:zD) (part loop:Int) (T:Nat->List (List Nat)->List Nat×Nat):List Int×Bool:=if validP P=true/\rngL P part loop then (asI (ordT P part loop.toNat T),true) else ([],false)
theorem aroundV {σ:Type}{P:zD} (hb:BG P) (part loop:Int) {taken:List (List Int)->σ->Option (List Int×σ)}{enc:Nat->σ}{T:Nat->List (List Nat)->List Nat×Nat}
    (hT:∀ R:List (List Nat),R.flatten.length<=120->R.length<=120->(∀ r∈R,r.length<=120)->∀ n,n<=500000->taken (aI2 R) (enc n)=some (asI (T n R).1,enc (T n R).2)/\(T n R).2<=n+120/\(T n R).1.length<=120) :
    ∃ s,dD P part loop taken (enc 0)=some (ordF P part loop T,s):=by
  unfold dD ordF
  rw [implTrace P hb]
  cases hv:validP P with
  | false=>exact ⟨_,rfl⟩
  | true =>
    simp only [if_true,oB,oS,oP,bT,bF,if_false,isLoopV hb hv,true_and]
    by_cases h:rngL P part loop
    · obtain ⟨h1,h2⟩:=h
      have hk:loop.toNat<(gP P part.toNat).Nest.length:=by omega
      have hl:((loop.toNat:Nat):Int)=loop:=by omega
      have aV:=(uP hv).2.2.2
      have hpl:(preI P part).length<=120:=by unfold preI; exact cW (fu _ _) (by simp; omega)
      have hit:=iterV hb hv (part:=part) hk
      rw [hl] at hit
      obtain ⟨b1,b2⟩:=zKD (P:=P) (k:=loop.toNat) (zH0 hv part)
      have h2':=zPz (taken:=taken) (enc:=enc) (T:=T) (gg P loop.toNat (ptl P part)) (by omega) (fun R hR n hn=>hT R (b2 R hR).1 (b2 R hR).2.1 (b2 R hR).2.2 n hn) _ 0 0 (asI (preI P part)) (cu _) (by omega) (by rw [oR]; omega)
      rw [co,nZ] at h2'
      have hml:∀ (A:List (List (List Nat))) (n:Nat),(∀ R∈A,∀ n,n<=500000->(T n R).2<=n+120/\(T n R).1.length<=120)->n+120*A.length<=400000->(foldT T n A).1.length<=120*A.length:=by
        intro A
        induction A with
        | nil=>intro n _ _; simp [foldT]
        | cons R A ih =>
          intro n h hn
          rw [zGf,lA]
          have hR:=h R (cj ..) n (by simp at hn; omega)
          have:=ih (T n R).2 (fun S hS=>h S (ci _ hS)) (by simp at hn; omega)
          simp only [cx]; omega
      have hm:=hml (gg P loop.toNat (ptl P part)) 0 (fun R hR n hn=>(hT R (b2 R hR).1 (b2 R hR).2.1 (b2 R hR).2.2 n hn).2) (by omega)
      have a1:=zQZ hv part [] (by simp)
      rw [cv] at a1
      have a3:=zQ0 hv part (asI (preI P part)++asI (foldT T 0 (gg P loop.toNat (ptl P part))).1) (by rw [lA,oR,oR]; omega)
      have hr:rngL P part loop:=⟨h1,h2⟩
      simp only [hr,dT,bT,bF,if_false,if_true,oS,a1,hit,h2',a3]
      refine ⟨enc (foldT T 0 (gg P loop.toNat (ptl P part))).2,?_⟩
      unfold ordT
      rw [zB1,zB1]
    · simp only [h,dF,dl,if_true,if_false]
      exact ⟨_,rfl⟩
theorem implWO {P:zD} (hb:BG P) (part loop:Int):gF P part loop=some (ordF P part loop wvP):=by
  unfold gF;obtain ⟨s,h⟩:=aroundV hb part loop (taken:=fun x0 (_:Unit)=>(rB x0).bind fun y=>some (y,())) (enc:=fun _:Nat=>()) (T:=wvP) (fun R h1 h2 h3 n hn=>by
    refine ⟨by rw [wvI R h2 h3]; rfl,by unfold wvP; dsimp only; omega,?_⟩;unfold wvP;dsimp only;rw [(zCJ 120 R h3).length_eq]; exact h1)
  rw [h]; rfl
end Go.LN
namespace Go.LN
theorem zMY {P:zD} (hv:validP P=true) {i:Nat} (hi:i<(progI P).length):0<=(zIns P i).Part/\(zIns P i).Part<(P.Parts.length:Int):=by
  obtain ⟨p,s,hp,hs,e,_⟩:=zJO hv (zCi hi);omega
theorem zQA {P:zD} (hv:validP P=true) (part:Int):ptR P 0 part=preI P part:=by
  unfold ptR preI;refine gf fun i hi=>?_;have:=zMY hv (cC.1 hi);simp [this.1]
theorem zQB {P:zD} (hv:validP P=true) (part:Int):ptR P (part+1) (P.Parts.length:Int)=posI P part:=by
  unfold ptR posI;refine gf fun i hi=>?_;have:=zMY hv (cC.1 hi);simp only [this.2,dT,ia];rw [ea,decide_eq_true_eq,decide_eq_true_eq];omega
theorem zMr {P:zD} (hb:BG P) (hv:validP P=true) (part:Int):rA (progI P) part []=some (asI (ptl P part)):=by
  rw [specGroup hb hv (part:=part) (k:=0) (ff _) rfl]
  congr 2
  rw [List.filter_eq_self];intro a _;simp [ky]
def key1 (P:zD) (k:Nat) (r:List Nat):List Int:=ky P k (r.headD 0)
theorem zLM {P:zD}{k:Nat}{l g:List Nat} (hg:g∈grp (ky P k) l):keyOf (ky P k) g=some (key1 P k g):=by
  obtain ⟨h1,h2⟩:=fG (ky P k) l g hg;cases g with
  | nil=>exact absurd rfl h1
  | cons a t=>rfl
theorem zMZ {P:zD} (hb:BG P) (hv:validP P=true) {part:Int}{k:Nat} (hk:k<=(gP P part.toNat).Nest.length) {g:List Nat} (hg:∀ a∈g,a∈ptl P part) (hne:g ≠ []):(key1 P k g).length=k:=by
  cases g with
  | nil=>exact absurd rfl hne
  | cons a t =>
    obtain ⟨h1,h2⟩:=zBf.1 (hg a (cj ..));have:=(zB2 hb hv h1 h2).1;show ((zIns P a).Point.take k).length=k;rw [cw]; omega
theorem zLN {P:zD} (hb:BG P) (hv:validP P=true) {part:Int}{k:Nat} (hk:k<=(gP P part.toNat).Nest.length) {g:List Nat} (hg:g∈grp (ky P k) (ptl P part)):rA (progI P) part (key1 P k g)=some (asI g):=by
  rw [specGroup hb hv hk (zMZ hb hv hk (fun a ha=>zHY hg ha) (fG _ _ _ hg).1)];rw [(zFn (ky P k) (ptl P part) (zJy P part k)).1 g hg _ (zLM hg)]
theorem zLO {P:zD} (hb:BG P) (hv:validP P=true) {part:Int}{k:Nat} (hk:k+1<=(gP P part.toNat).Nest.length) {g:List Nat} (hg:g∈grp (ky P k) (ptl P part)) {r:List Nat} (hr:r∈grp (ky P (k+1)) g):rA (progI P) part (key1 P (k+1) r)=some (asI r):=by
  have hrm:∀ a∈r,a∈ptl P part:=fun a ha=>zHY hg (by rw [<- rS (ky P (k+1)) g]; exact gn.2 ⟨r,hr,ha⟩);rw [specGroup hb hv hk (zMZ hb hv hk hrm (fG _ _ _ hr).1)];rw [zLp hg hr (zLM hr)]
theorem zQC {P:zD} (hb:BG P) (hv:validP P=true) {part:Int}{k:Nat} (hk:k+1<=(gP P part.toNat).Nest.length) (hk4:k<4):∀ (j i n:Nat) (out:List Int),i+j=(grp (ky P k) (ptl P part)).length->out.length+120*j<=300000 ->
    qE part (k:Int) (progI P) (hds P k (ptl P part)) out (i:Int)=some (out++asI (foldT wvP n ((gg P k (ptl P part)).drop i)).1):=by
  have hpl:=zH0 hv part
  have hgl:=zCa (ky P k) (ptl P part)
  intro j
  induction j with
  | zero =>
    intro i n out hi _
    rw [qE]
    have:¬((i:Int)<((hds P k (ptl P part)).length:Int)):=by unfold hds; rw [lM]; omega
    simp only [this,dF,bF,if_false,oP,id]
    rw [dN.2 (by unfold gg; rw [lM]; omega)]
    simp [foldT,asI]
  | succ j ih =>
    intro i n out hi ho
    have aE:i<(grp (ky P k) (ptl P part)).length:=by omega
    rw [qE]
    have hc:((i:Int)<((hds P k (ptl P part)).length:Int)):=by unfold hds; rw [lM]; omega
    have hg:=gM aE
    have hx:idx (hds P k (ptl P part)) (i:Int)=some (key1 P k (grp (ky P k) (ptl P part))[i]):=by
      unfold hds
      rw [yI (by rw [lM]; exact aE)]; simp [key1]
    have hgi:(gg P k (ptl P part)).drop i=grp (ky P (k+1)) (grp (ky P k) (ptl P part))[i]::(gg P k (ptl P part)).drop (i+1):=by
      rw [gC (by unfold gg; rw [lM]; exact aE)]
      congr 1
      simp [gg]
    obtain ⟨b1,b2⟩:=zKD (P:=P) (k:=k) hpl
    obtain ⟨c1,c2,c3⟩:=b2 _ (show grp (ky P (k+1)) (grp (ky P k) (ptl P part))[i]∈gg P k (ptl P part) by unfold gg; exact List.mem_map_of_mem hg)
    rw [rS] at c1
    have hH:=specHeads hb hv (part:=part) (k:=k+1) hk (g:=(grp (ky P k) (ptl P part))[i]) (fun a ha=>zHY hg ha) c1
    simp only [hc,dT,if_true,hx,zLN hb hv (by omega) hg,oB,oS]
    rw [xY (by omega),hH]
    simp only [oS]
    have h2:=zPy (Z:=progI P) (part:=part) (key:=key1 P (k+1)) (grp (ky P (k+1)) (grp (ky P k) (ptl P part))[i]) (fun r hr=>zLO hb hv hk hg hr) (by omega) _ 0 (cu _)
    have h3:sI part (progI P) (hds P (k+1) (grp (ky P k) (ptl P part))[i]) [] 0=_:=h2
    rw [h3]
    simp only [oS]
    have h4:=zPx (grp (ky P (k+1)) (grp (ky P k) (ptl P part))[i]) (by omega) 120 0 out (cu _) (by omega)
    rw [<- List.range_eq_range',nZ] at h4
    rw [h4]
    simp only [oS]
    have hp:=(zCJ 120 _ c3).length_eq
    rw [rS] at hp
    have hwl:(((List.range 120).flatMap fun u=>row u (grp (ky P (k+1)) (grp (ky P k) (ptl P part))[i])):List Nat).length<=120:=by
      have:(waveF 120 (grp (ky P (k+1)) (grp (ky P k) (ptl P part))[i])).length<=120:=by rw [hp]; exact c1
      exact this
    rw [xY (by omega),ih (i+1) n _ (by omega) (by rw [lA,oR]; omega),hgi,zGf,zB1,cq]
    rfl
theorem specWO {P:zD} (hb:BG P) (part loop:Int):gG P part loop=some (ordF P part loop wvP):=by
  unfold gG ordF;rw [specHas8 hb];by_cases h:validP P=true/\rngL P part loop
  · obtain ⟨hv,hr⟩:=h;have hr':=hr;obtain ⟨h1,h2⟩:=hr;have hk:loop.toNat+1<=(gP P part.toNat).Nest.length:=by omega
    have hl:((loop.toNat:Nat):Int)=loop:=by omega
    have h4:=nest4 hv (show part.toNat<P.Parts.length by omega);have aV:=(uP hv).2.2.2;have hpl:=zH0 hv part;have hgl:=zCa (ky P loop.toNat) (ptl P part);have hH:=specHeads hb hv (part:=part) (k:=loop.toNat) (by omega) (g:=ptl P part) (fun a ha=>ha) hpl;rw [hl] at hH;have hprl:(preI P part).length<=120:=by unfold preI; exact cW (fu _ _) (by simp; omega)
    have hpol:(posI P part).length<=120:=by unfold posI; exact cW (fu _ _) (by simp; omega)
    have hL:=zQC hb hv (part:=part) (k:=loop.toNat) hk (by omega) _ 0 0 (asI (preI P part)) (cu _) (by rw [oR]; omega);rw [hl,co,nZ] at hL;obtain ⟨b1,b2⟩:=zKD (P:=P) (k:=loop.toNat) hpl;have hm:=zBD (T:=wvP) (gg P loop.toNat (ptl P part)) 0 (fun R hR n=>zCJ 120 R (b2 R hR).2.2);rw [zHZ,rS] at hm;have hml:=hm.length_eq;have hw:W (part+1)=part+1:=sT (by omega) (by have:=(uP hv).2.1; omega);simp only [hv,hr',dT,fk,bT,bF,if_false,oB,oS,oP,specInst4 P hv,specParts hv,zQA hv,zMr hb hv,hH,hL,hw,zQB hv,and_self,if_true];rw [app8 (by rw [lA,oR,oR,oR]; omega)];simp only [oS];unfold ordT;rw [zB1,zB1]
  · rw [if_neg h];have:(validP P&&decide (rngL P part loop))=false:=by
      cases hq:(validP P&&decide (rngL P part loop)) with
      | false=>rfl
      | true=>rw [bA,decide_eq_true_eq] at hq; exact absurd hq h
    rw [this]; rfl
theorem zLr (P:zD) (part:Int):(preI P part++ptl P part++posI P part).Perm (List.range (progI P).length):=by
  have h1:=List.filter_append_perm (fun i=>decide ((zIns P i).Part<part)) (List.range (progI P).length);have h2:=List.filter_append_perm (fun i=>(zIns P i).Part==part) ((List.range (progI P).length).filter fun i=>!decide ((zIns P i).Part<part));refine List.Perm.trans ?_ h1;rw [cq];refine List.Perm.append_left _ (List.Perm.trans (List.Perm.of_eq ?_) h2);rw [gx,gx];unfold ptl Jf posI
  congr 1
  · refine gf fun i _=>?_;by_cases h:(zIns P i).Part=part <;> simp [h]
  · refine gf fun i _=>?_;rw [ea];simp;omega
theorem zJU {P:zD}{part:Int}{k:Nat}{T:Nat->List (List Nat)->List Nat×Nat} (hT:∀ R∈gg P k (ptl P part),∀ n,(T n R).1.Perm R.flatten):(ordT P part k T).Perm (List.range (progI P).length):=by
  refine List.Perm.trans ?_ (zLr P part);unfold ordT;have hm:=zBD (gg P k (ptl P part)) 0 hT;rw [zHZ,rS] at hm;exact (List.Perm.append_left _ hm).append_right _
theorem zKE {n:Nat}{L:List Nat} (h:L.Perm (List.range n)):permB n (asI L)=true:=by
  rw [zGb];refine ⟨⟨fun x hx=>?_,?_⟩,by rw [oR,h.length_eq,fw]⟩
  · obtain ⟨a,ha,rfl⟩:=dx.1 hx;have:=cC.1 (h.mem_iff.1 ha);omega
  · unfold asI;have hn:L.Nodup:=h.nodup_iff.2 List.nodup_range;exact (List.pairwise_map.2 (hn.imp fun {a b} hab e=>hab (by omega)))
theorem zMs {P:zD} (hv:validP P=true) {L:List Nat} (hp:L.Perm (List.range (progI P).length)) (hl:L.Pairwise fun a b=>b<a->kindI P b a=0):(brF P (asI L)).isNone=true:=by
  unfold brF;rw [Option.isNone_iff_eq_none,List.find?_eq_none];intro d hd;unfold dpF at hd;rw [if_pos hv] at hd;obtain ⟨i,k,rfl,hik,hk,hne⟩:=zJq hd;obtain ⟨ji,hji,ei⟩:=f1.1 (hp.mem_iff.2 (cC.2 (show i<(progI P).length by omega)));obtain ⟨jk,hjk,ek⟩:=f1.1 (hp.mem_iff.2 (cC.2 hk));have hn:=(zGb _ _).1 (zKE hp);have hpl:∀ (j:Nat) (hj:j<L.length),plo (asI L) L[j]=(j:Int):=fun j hj=>by
    have:=zNu (asI L) 0 (fun _=>0) hn.1.2 (fun x hx=>(hn.1.1 x hx).1) j (by rw [oR]; exact hj);rw [cu] at this;unfold plo;rw [<- this]
    congr 1
    simp [asI]
  unfold brk;simp only [iN,decide_eq_true_eq];rw [<- ei,<- ek,hpl ji hji,hpl jk hjk];intro aE;have:=hU.1 hl jk ji hjk hji (by omega);rw [ei,ek] at this;exact hne (this hik)
theorem zQD {P:zD} (hb:BG P) (hv:validP P=true) {part:Int}{k:Nat} (hk:k<(gP P part.toNat).Nest.length) (hc:crd P part k=false) {a b:Nat} (ha:a∈ptl P part) (hbm:b∈ptl P part) (aE:b<a) (h1:ky P k b=ky P k a) (h2:ky P (k+1) b ≠ ky P (k+1) a):kindI P b a=0:=by
  obtain ⟨han,hap⟩:=zBf.1 ha;obtain ⟨hbn,hbp⟩:=zBf.1 hbm;by_cases h0:kindI P b a=0
  · exact h0
  · exfalso
    have hd:(⟨(b:Int),(a:Int),kindI P b a⟩:yP)∈dpF P:=by
      unfold dpF;rw [if_pos hv,<- zPn P];exact zPm (P:=kn P) aE han h0
    rw [zOu hb] at hc;have:=(List.any_eq_false.1 hc) _ hd;apply this;have la:=(zB2 hb hv han hap).1;have lb:=(zB2 hb hv hbn hbp).1;unfold carB inPt;simp only [iN,hbp,hap,bQ,fk,cz,bA,decide_eq_true_eq];refine ⟨by omega,h1,?_⟩;unfold ky at h1 h2;rw [df (by omega),df (by omega),h1] at h2;have:(zIns P b).Point[k]'(by omega) ≠ (zIns P a).Point[k]'(by omega):=fun e=>h2 (by rw [e]);simp [show k<(zIns P b).Point.length by omega,show k<(zIns P a).Point.length by omega,this]
theorem zM0 {P:zD}{part:Int}{k:Nat}{R:List (List Nat)} (hR:R∈gg P k (ptl P part)):RunsOk (ky P (k+1)) R/\(∀ a∈R.flatten,a∈ptl P part)/\∀ a∈R.flatten,∀ b∈R.flatten,ky P k a=ky P k b:=by
  obtain ⟨g,hg,rfl⟩:=dx.1 hR;have hgm:∀ a∈g,a∈ptl P part:=fun a ha=>zHY hg ha;obtain ⟨p,q,e⟩:=zI2 (rS (ky P k) (ptl P part)) hg;have hgp:g.Pairwise (· < ·):=by
    have:=zNw P part (progI P).length;have e':Jf P part (progI P).length=p++g++q:=e;rw [e'] at this;exact (dm.1 (dm.1 this).1).2.1
  refine ⟨⟨(zFn (ky P (k+1)) g (zLJ hg _)).2,fun r hr=>⟨?_,(fG (ky P (k+1)) g r hr).2⟩⟩,by rw [rS]; exact hgm,by
    rw [rS];intro a ha b hb;have h2:=(fG (ky P k) _ g hg).2;exact Option.some.inj ((h2 a ha).symm.trans (h2 b hb))⟩
  obtain ⟨p2,q2,e2⟩:=zI2 (rS (ky P (k+1)) g) hr;rw [e2] at hgp;exact (dm.1 (dm.1 hgp).1).2.1
theorem zKF {P:zD}{a b:Nat} (ha:a<(progI P).length) (hb:b<(progI P).length) (h:(zIns P a).Part<(zIns P b).Part):a<b:=by
  rcases Nat.lt_trichotomy a b with h1 | h1 | h1
  · exact h1
  · subst h1; omega
  · rcases zI0 h1 ha with h2 | ⟨h2,_⟩ <;> omega
theorem zPE {P:zD} (hb:BG P) (hv:validP P=true) {part:Int}{k:Nat} (hk:k<(gP P part.toNat).Nest.length) (hc:crd P part k=false) {T:Nat->List (List Nat)->List Nat×Nat} (hT:∀ R∈gg P k (ptl P part),∀ n,(T n R).1.Perm R.flatten/\Keeps (ky P (k+1)) (T n R).1) :
    (ordT P part k T).Pairwise fun a b=>b<a->kindI P b a=0:=by
  have up:∀ {l:List Nat},l.Pairwise (· < ·)->l.Pairwise fun a b=>b<a->kindI P b a=0:=fun h=>h.imp fun {a b} hab hba=>by omega
  have hpre:(preI P part).Pairwise (· < ·):=List.Pairwise.filter _ gc
  have hpos:(posI P part).Pairwise (· < ·):=List.Pairwise.filter _ gc
  have hm:=zBD (gg P k (ptl P part)) 0 (fun R hR n=>(hT R hR n).1)
  rw [zHZ,rS] at hm
  have mpre:∀ a∈preI P part,a<(progI P).length/\(zIns P a).Part<part:=fun a ha=>by
    unfold preI at ha
    have:=dv.1 ha
    exact ⟨cC.1 this.1,by simpa using this.2⟩
  have mpos:∀ a∈posI P part,a<(progI P).length/\part<(zIns P a).Part:=fun a ha=>by
    unfold posI at ha
    have:=dv.1 ha
    exact ⟨cC.1 this.1,by simpa using this.2⟩
  unfold ordT
  refine dm.2 ⟨dm.2 ⟨up hpre,?_,fun a ha b hbm hba=>?_⟩,up hpos,fun a ha b hbm hba=>?_⟩
  · refine zLL (S:=fun a b=>b<a->kindI P b a=0) (gg P k (ptl P part)) 0 (fun R hR n=>?_) ?_
    · obtain ⟨t1,t2⟩:=hT R hR n
      obtain ⟨_,r2,r3⟩:=zM0 hR
      refine ⟨t1,t2.imp_of_mem fun {a b} ha hbm h hba=>?_⟩
      have ha':=t1.mem_iff.1 ha
      have hb':=t1.mem_iff.1 hbm
      by_cases e:ky P (k+1) a=ky P (k+1) b
      · have:=h e; omega
      · exact zQD hb hv hk hc (r2 a ha') (r2 b hb') hba (r3 b hb' a ha') (fun e'=>e e'.symm)
    · rw [zHZ]
      have hI:(grp (ky P k) (ptl P part)).flatten.Pairwise (· < ·):=by rw [rS]; exact zNw P part _
      exact ((List.pairwise_flatten.1 hI).2).imp fun {g h} hgh a ha b hbm hba=>by have:=hgh a ha b hbm; omega
  · obtain ⟨q1,q2⟩:=mpre a ha
    obtain ⟨w1,w2⟩:=zBf.1 (hm.mem_iff.1 hbm)
    have:=zKF q1 w1 (by omega)
    omega
  · obtain ⟨w1,w2⟩:=mpos b hbm
    rcases cZ.1 ha with ha | ha
    · obtain ⟨q1,q2⟩:=mpre a ha
      have:=zKF q1 w1 (by omega)
      omega
    · obtain ⟨q1,q2⟩:=zBf.1 (hm.mem_iff.1 ha)
      have:=zKF q1 w1 (by omega)
      omega
theorem zOC {P:zD} (hv:validP P=true) {part:Int}{k:Nat}:∀ R∈gg P k (ptl P part),∀ n,(wvP n R).1.Perm R.flatten/\Keeps (ky P (k+1)) (wvP n R).1:=fun R hR n =>
  ⟨zCJ 120 R ((zKD (zH0 hv part)).2 R hR).2.2,zLq (ky P (k+1)) 120 (zM0 hR).1⟩
theorem zOD {P:zD} (hb:BG P) {part loop:Int} (hv:validP P=true) (hr:rngL P part loop) {T:Nat->List (List Nat)->List Nat×Nat} (hT:∀ R∈gg P loop.toNat (ptl P part),∀ n,(T n R).1.Perm R.flatten/\Keeps (ky P (loop.toNat+1)) (T n R).1) :
    (oF P (asI (ordT P part loop.toNat T))).bind (fun y13=>if y13=true then (oG P part loop).bind fun y14=>if (!y14)=true then some true else (mG P (asI (ordT P part loop.toNat T))).bind fun y15=>some y15 else some false)=some true:=by
  have hp:=zJU fun R hR n=>(hT R hR n).1
  have aV:=(uP hv).2.2.2
  have bU:(asI (ordT P part loop.toNat T)).length<=1048576:=by rw [oR,hp.length_eq,fw]; omega
  have hk:loop.toNat<(gP P part.toNat).Nest.length:=by obtain ⟨h1,h2⟩:=hr; omega
  rw [implOrd P hb _ bU,zKE hp,hv]
  simp only [oS,fk,if_true,implLP P hb]
  rw [zMV ⟨hv,hr⟩]
  cases hc:crd P part loop.toNat with
  | true=>rfl
  | false =>
    simp only [dl,bT,bF,if_false]
    rw [implLegal P hb _ bU,hv,zKE hp,zMs hv hp (zPE hb hv hk hc hT)]
    rfl
theorem args9r (s:zN) (hs:0<=s.p/\s.p<=1000):Ok (dC s) (fun y=>BG y.1/\0<=y.2.2.2.p/\y.2.2.2.p<=700002000):=by
  unfold dC zAS;refine Ok.bind (φ:=fun y=>BG y.1/\0<=y.2.2.2.2.p/\y.2.2.2.2.p<=700002000) ?_ fun y hy=>Ok.pure hy;refine Ok.call (zLg s) ⟨by omega,by omega⟩ fun a t g1 g2 g3=>?_;refine Ok.bind (mut4 t a g1.dp (by omega) (by omega)) fun p hp=>?_;obtain ⟨P,r⟩:=p;obtain ⟨⟨hp1,_⟩,hp2,hp3⟩:=hp;dsimp only at hp2 hp3;exact Ok.call (vM r _) ⟨by decide,hp2,by omega,by decide⟩ fun y s2 _ _ k5=>Ok.call (vM s2 _) ⟨by decide,by omega,by omega,by decide⟩ fun y3 s3 _ _ k6=>Ok.call (vM s3 _) ⟨by decide,by omega,by omega,by decide⟩ fun y4 s4 _ _ k7=>Ok.pure ⟨hp1,by dsimp only; omega,by dsimp only; omega⟩
theorem drawWO (code:List UInt8):Ok (mD code) (fun y=>BG y.1):=by
  unfold mD;exact Ok.call (zKb code) trivial fun s hs=>Ok.bind (args9r s (by omega)) fun y hy=>Ok.pure hy.1
theorem zOE {P:zD}{part loop:Int}{T:Nat->List (List Nat)->List Nat×Nat} (hT:validP P=true->∀ R∈gg P loop.toNat (ptl P part),∀ n,(T n R).1.Perm R.flatten):(ordF P part loop T).1.length<=1048576:=by
  unfold ordF;split
  · rename_i h;have:=(zJU (hT h.1)).length_eq;have aV:=(uP h.1).2.2.2;dsimp only;rw [oR,this,fw]; omega
  · simp
theorem zOW (code:List UInt8):∃ r,gV code=some r/\r=true:=by
  unfold gV;by_cases hl:(code.length:Int)>1048576
  · exact ⟨true,by simp only [hl,dT,if_true]; rfl,rfl⟩
  simp only [hl,dF,bF,if_false];obtain ⟨⟨P,part,loop⟩,hy,hb⟩:=drawWO code;rw [hy];have hI:=intsV (ordF P part loop wvP).1 (ordF P part loop wvP).1 (zOE fun hv R hR n=>(zOC hv R hR n).1);simp only [oB,oS,implWO hb,specWO hb,bQ,bT,bF,if_false,hI,dT,oP,if_true,id];refine ⟨true,?_,rfl⟩;by_cases h:validP P=true/\rngL P part loop
  · have e:ordF P part loop wvP=(asI (ordT P part loop.toNat wvP),true):=by unfold ordF; rw [if_pos h]
    rw [e];simp only [bT,bF,if_false];have:=zOD hb h.1 h.2 (T:=wvP) (zOC h.1);rw [this]; rfl
  · have e:ordF P part loop wvP=([],false):=by unfold ordF; rw [if_neg h]
    rw [e]; rfl
end Go.LN
