/- Helper of the proof (see the last text). -/
import Derived.Test.YtcmjkmdecmabaaaGreatVC1
set_option linter.unusedVariables false
set_option linter.unusedSimpArgs false
namespace Go.LN
theorem zK4 {P:zD} (hv:validP P=true) {i:Nat} (hi:i<(progI P).length):0<=(zIns P i).Part/\(zIns P i).Part<(P.Parts.length:Int):=by
  obtain ⟨p,s,hp,hs,e,_⟩:=zHr hv (zKZ hi);omega
theorem zNV {P:zD} (hv:validP P=true) (part:Int):ptR P 0 part=preI P part:=by
  unfold ptR preI;refine fi fun i hi=>?_;have:=zK4 hv (cy.1 hi);simp [this.1]
theorem zNW {P:zD} (hv:validP P=true) (part:Int):ptR P (part+1) (P.Parts.length:Int)=posI P part:=by
  unfold ptR posI;refine fi fun i hi=>?_;have:=zK4 hv (cy.1 hi);simp only [this.2,dT,gf];rw [ed,decide_eq_true_eq,decide_eq_true_eq];omega
theorem zKr {P:zD} (hb:BG P) (hv:validP P=true) (part:Int):sI (progI P) part []=some (asI (ptl P part)):=by
  rw [specGroup hb hv (part:=part) (k:=0) (ee _) rfl]
  congr 2
  rw [List.filter_eq_self];intro a _;simp [ky]
def key1 (P:zD) (k:Nat) (r:List Nat):List Int:=ky P k (r.headD 0)
theorem zJ4 {P:zD}{k:Nat}{l g:List Nat} (hg:g∈grp (ky P k) l):keyOf (ky P k) g=some (key1 P k g):=by
  obtain ⟨h1,h2⟩:=jV (ky P k) l g hg;cases g with
  | nil=>exact absurd rfl h1
  | cons a t=>rfl
theorem zK5 {P:zD} (hb:BG P) (hv:validP P=true) {part:Int}{k:Nat} (hk:k<=(gP P part.toNat).Nest.length) {g:List Nat} (hg:∀ a∈g,a∈ptl P part) (hne:g ≠ []):(key1 P k g).length=k:=by
  cases g with
  | nil=>exact absurd rfl hne
  | cons a t =>
    obtain ⟨h1,h2⟩:=zC1.1 (hg a (cf ..));have:=(zCb hb hv h1 h2).1;show ((zIns P a).Point.take k).length=k;rw [cp]; omega
theorem zJ5 {P:zD} (hb:BG P) (hv:validP P=true) {part:Int}{k:Nat} (hk:k<=(gP P part.toNat).Nest.length) {g:List Nat} (hg:g∈grp (ky P k) (ptl P part)):sI (progI P) part (key1 P k g)=some (asI g):=by
  rw [specGroup hb hv hk (zK5 hb hv hk (fun a ha=>zFz hg ha) (jV _ _ _ hg).1)];rw [(zE8 (ky P k) (ptl P part) (zIW P part k)).1 g hg _ (zJ4 hg)]
theorem zJ6 {P:zD} (hb:BG P) (hv:validP P=true) {part:Int}{k:Nat} (hk:k+1<=(gP P part.toNat).Nest.length) {g:List Nat} (hg:g∈grp (ky P k) (ptl P part)) {r:List Nat} (hr:r∈grp (ky P (k+1)) g):sI (progI P) part (key1 P (k+1) r)=some (asI r):=by
  have hrm:∀ a∈r,a∈ptl P part:=fun a ha=>zFz hg (by rw [<- sW (ky P (k+1)) g]; exact fu.2 ⟨r,hr,ha⟩);rw [specGroup hb hv hk (zK5 hb hv hk hrm (jV _ _ _ hr).1)];rw [zKD hg hr (zJ4 hr)]
theorem zNX {P:zD} (hb:BG P) (hv:validP P=true) {part:Int}{k:Nat} (hk:k+1<=(gP P part.toNat).Nest.length) (hk4:k<4) (cs:List Int):∀ (j i n:Nat) (out:List Int),i+j=(grp (ky P k) (ptl P part)).length->n+120*j<=400000->out.length+120*j<=300000 ->
    uY part (k:Int) cs (progI P) (hds P k (ptl P part)) out (n:Int) (i:Int)=some (out++asI (foldT (tkP cs) n ((gg P k (ptl P part)).drop i)).1):=by
  have hpl:=zI1 hv part
  have hgl:=zB8 (ky P k) (ptl P part)
  intro j
  induction j with
  | zero =>
    intro i n out hi _ _
    rw [uY]
    have:¬((i:Int)<((hds P k (ptl P part)).length:Int)):=by unfold hds; rw [lM]; omega
    simp only [this,dF,bF,if_false,oP,id]
    rw [dN.2 (by unfold gg; rw [lM]; omega)]
    simp [foldT,asI]
  | succ j ih =>
    intro i n out hi hn ho
    have aF:i<(grp (ky P k) (ptl P part)).length:=by omega
    rw [uY]
    have hc:((i:Int)<((hds P k (ptl P part)).length:Int)):=by unfold hds; rw [lM]; omega
    have hg:=gM aF
    have hx:idx (hds P k (ptl P part)) (i:Int)=some (key1 P k (grp (ky P k) (ptl P part))[i]):=by
      unfold hds
      rw [yS (by rw [lM]; exact aF)]; simp [key1]
    have hgi:(gg P k (ptl P part)).drop i=grp (ky P (k+1)) (grp (ky P k) (ptl P part))[i]::(gg P k (ptl P part)).drop (i+1):=by
      rw [gC (by unfold gg; rw [lM]; exact aF)]
      congr 1
      simp [gg]
    obtain ⟨b1,b2⟩:=zLq (P:=P) (k:=k) hpl
    obtain ⟨c1,c2,c3⟩:=b2 _ (show grp (ky P (k+1)) (grp (ky P k) (ptl P part))[i]∈gg P k (ptl P part) by unfold gg; exact List.mem_map_of_mem hg)
    rw [sW] at c1
    have hH:=specHeads hb hv (part:=part) (k:=k+1) hk (g:=(grp (ky P k) (ptl P part))[i]) (fun a ha=>zFz hg ha) c1
    simp only [hc,dT,if_true,hx,zJ5 hb hv (by omega) hg,oB,oS]
    rw [wP (by omega),hH]
    simp only [oS]
    have h2:=zLp (Z:=progI P) (part:=part) cs (key:=key1 P (k+1)) _ n (grp (ky P (k+1)) (grp (ky P k) (ptl P part))[i]) out (fun r hr=>zJ6 hb hv hk hg hr) rfl (by rw [sW]; omega) (by omega) (by omega)
    have h3:vJ part cs (progI P) out (n:Int) (hds P (k+1) (grp (ky P k) (ptl P part))[i])=_:=h2
    rw [h3]
    simp only [oS]
    have hp:=zCc (zHE cs) _ n (grp (ky P (k+1)) (grp (ky P k) (ptl P part))[i]) rfl
    have hpl2:=hp.1.length_eq
    rw [sW] at hpl2
    rw [wP (by omega),ih (i+1) _ _ (by omega) (by rw [hp.2]; omega) (by rw [lA,pO]; omega),hgi,zFU,zAa,co]
    rfl
theorem specPO {P:zD} (hb:BG P) (part loop:Int) (cs:List Int):oX P part loop cs=some (ordF P part loop (tkP cs)):=by
  unfold oX ordF;rw [specHas8 hb];by_cases h:validP P=true/\rngL P part loop
  · obtain ⟨hv,hr⟩:=h;have hr':=hr;obtain ⟨h1,h2⟩:=hr;have hk:loop.toNat+1<=(gP P part.toNat).Nest.length:=by omega
    have hl:((loop.toNat:Nat):Int)=loop:=by omega
    have h4:=nest4 hv (show part.toNat<P.Parts.length by omega);have bh:=(rJ hv).2.2.2;have hpl:=zI1 hv part;have hgl:=zB8 (ky P loop.toNat) (ptl P part);have hH:=specHeads hb hv (part:=part) (k:=loop.toNat) (by omega) (g:=ptl P part) (fun a ha=>ha) hpl;rw [hl] at hH;have hprl:(preI P part).length<=120:=by unfold preI; exact cS (fo _ _) (by simp; omega)
    have hpol:(posI P part).length<=120:=by unfold posI; exact cS (fo _ _) (by simp; omega)
    have hL:=zNX hb hv (part:=part) (k:=loop.toNat) hk (by omega) cs _ 0 0 (asI (preI P part)) (cw _) (by omega) (by rw [pO]; omega);rw [hl,cq,nZ] at hL;have hm:=zDb (T:=tkP cs) (gg P loop.toNat (ptl P part)) 0 (fun R _ n=>(zCc (zHE cs) R.length n R rfl).1);rw [zI0,sW] at hm;have hml:=hm.length_eq;have hw:W (part+1)=part+1:=sL (by omega) (by have:=(rJ hv).2.1; omega);simp only [hv,hr',dT,Bool.and_self,bT,bF,if_false,oB,oS,oP,specInst4 P hv,specParts hv,zNV hv,zKr hb hv,hH,hL,hw,zNW hv,and_self,if_true];rw [app8 (by rw [lA,pO,pO,pO]; omega)];simp only [oS];unfold ordT;rw [zAa,zAa]
  · rw [if_neg h];have:(validP P&&decide (rngL P part loop))=false:=by
      cases hq:(validP P&&decide (rngL P part loop)) with
      | false=>rfl
      | true=>rw [bA,decide_eq_true_eq] at hq; exact absurd hq h
    rw [this]; rfl
theorem zKE (P:zD) (part:Int):(preI P part++ptl P part++posI P part).Perm (List.range (progI P).length):=by
  have h1:=List.filter_append_perm (fun i=>decide ((zIns P i).Part<part)) (List.range (progI P).length);have h2:=List.filter_append_perm (fun i=>(zIns P i).Part==part) ((List.range (progI P).length).filter fun i=>!decide ((zIns P i).Part<part));refine List.Perm.trans ?_ h1;rw [co];refine List.Perm.append_left _ (List.Perm.trans (List.Perm.of_eq ?_) h2);rw [f3,f3];unfold ptl Jf posI
  congr 1
  · refine fi fun i _=>?_;by_cases h:(zIns P i).Part=part <;> simp [h]
  · refine fi fun i _=>?_;rw [ed];simp;omega
theorem zFV {P:zD}{part:Int}{k:Nat}{T:Nat->List (List Nat)->List Nat×Nat} (hT:∀ R∈gg P k (ptl P part),∀ n,(T n R).1.Perm R.flatten):(ordT P part k T).Perm (List.range (progI P).length):=by
  refine List.Perm.trans ?_ (zKE P part);unfold ordT;have hm:=zDb (gg P k (ptl P part)) 0 hT;rw [zI0,sW] at hm;exact (List.Perm.append_left _ hm).append_right _
theorem zMh {P:zD}{part:Int}{k:Nat}{R:List (List Nat)} (hR:R∈gg P k (ptl P part)):RunsOk (ky P (k+1)) R/\(∀ a∈R.flatten,a∈ptl P part)/\∀ a∈R.flatten,∀ b∈R.flatten,ky P k a=ky P k b:=by
  obtain ⟨g,hg,rfl⟩:=eq.1 hR;have hgm:∀ a∈g,a∈ptl P part:=fun a ha=>zFz hg ha;obtain ⟨p,q,e⟩:=zHD (sW (ky P k) (ptl P part)) hg;have hgp:g.Pairwise (· < ·):=by
    have:=zLk P part (progI P).length;have e':Jf P part (progI P).length=p++g++q:=e;rw [e'] at this;exact (db.1 (db.1 this).1).2.1
  refine ⟨⟨(zE8 (ky P (k+1)) g (zJ0 hg _)).2,fun r hr=>⟨?_,(jV (ky P (k+1)) g r hr).2⟩⟩,by rw [sW]; exact hgm,by
    rw [sW];intro a ha b hb;have h2:=(jV (ky P k) _ g hg).2;exact Option.some.inj ((h2 a ha).symm.trans (h2 b hb))⟩
  obtain ⟨p2,q2,e2⟩:=zHD (sW (ky P (k+1)) g) hr;rw [e2] at hgp;exact (db.1 (db.1 hgp).1).2.1
theorem zI2 {P:zD}{a b:Nat} (ha:a<(progI P).length) (hb:b<(progI P).length) (h:(zIns P a).Part<(zIns P b).Part):a<b:=by
  rcases Nat.lt_trichotomy a b with h1 | h1 | h1
  · exact h1
  · subst h1; omega
  · rcases zJW h1 ha with h2 | ⟨h2,_⟩ <;> omega
theorem zKF {P:zD}{part:Int}{k:Nat} (cs:List Int):∀ R∈gg P k (ptl P part),∀ n,(tkP cs n R).1.Perm R.flatten/\Keeps (ky P (k+1)) (tkP cs n R).1:=fun R hR n =>
  ⟨(zCc (zHE cs) R.length n R rfl).1,zJ2 (ky P (k+1)) (zHE cs) R.length n R rfl (zMh hR).1⟩
theorem args9r (s:zK) (hs:0<=s.p/\s.p<=1000):Ok (fF s) (fun y=>BG y.1/\0<=y.2.2.2.p/\y.2.2.2.p<=700002000):=by
  unfold fF eV;refine Ok.bind (φ:=fun y=>BG y.1/\0<=y.2.2.2.2.p/\y.2.2.2.2.p<=700002000) ?_ fun y hy=>Ok.pure hy;refine Ok.call (zJx s) ⟨by omega,by omega⟩ fun a t g1 g2 g3=>?_;refine Ok.bind (mut4 t a g1.dp (by omega) (by omega)) fun p hp=>?_;obtain ⟨P,r⟩:=p;obtain ⟨⟨hp1,_⟩,hp2,hp3⟩:=hp;dsimp only at hp2 hp3;exact Ok.call (wA r _) ⟨by decide,hp2,by omega,by decide⟩ fun y s2 _ _ k5=>Ok.call (wA s2 _) ⟨by decide,by omega,by omega,by decide⟩ fun y3 s3 _ _ k6=>Ok.call (wA s3 _) ⟨by decide,by omega,by omega,by decide⟩ fun y4 s4 _ _ k7=>Ok.pure ⟨hp1,by dsimp only; omega,by dsimp only; omega⟩
theorem zJ7:∀ (m:Nat) (o:List Int) (x:zK),0<=x.p->x.p+20*(m:Int)<=900000000->o.length+m<=1000->Ok (wT o (m:Int) x) (fun _=>True)
  | 0,o,x,h0,h1,ho=>by
    rw [wT]
    exact ⟨o,rfl,trivial⟩
  | m+1,o,x,h0,h1,ho=>by
    rw [wT]
    have hc:((m+1:Nat):Int)>0:=by omega
    rw [if_pos (by simp)]
    refine Ok.call (wA x _) ⟨by decide,h0,by omega,by decide⟩ fun y s g1 g2 g3=>Ok.app (by show (_+1)*8<=_; omega) ?_
    rw [show W (((m+1:Nat):Int) - 1)=(m:Int) by rw [sL (by omega) (by omega)]; omega]
    exact zJ7 m _ s (by omega) (by omega) (by rw [lA]; simp; omega)
theorem drawPO (code:List UInt8):Ok (rS code) (fun y=>BG y.1):=by
  unfold rS;refine Ok.call (zIx code) trivial fun s hs=>Ok.bind (args9r s (by omega)) fun y hy=>?_;obtain ⟨P,part,loop,r⟩:=y;obtain ⟨h1,h2,h3⟩:=hy;dsimp only at h1 h2 h3;refine Ok.call (wA r _) ⟨by decide,h2,by omega,by decide⟩ fun y s2 g1 g2 g3=>?_;obtain ⟨m,hm⟩:∃ m:Nat,y=(m:Int)/\m<=5:=by
    simp only [cT,List.mem_nil_iff,or_false] at g1;exact ⟨y.toNat,by omega,by omega⟩
  rw [hm.1];exact Ok.bind (zJ7 m [] s2 (by omega) (by omega) (by simp; omega)) fun o _=>Ok.pure h1
theorem zLr {P:zD}{part loop:Int}{T:Nat->List (List Nat)->List Nat×Nat} (hT:validP P=true->∀ R∈gg P loop.toNat (ptl P part),∀ n,(T n R).1.Perm R.flatten):(ordF P part loop T).1.length<=1048576:=by
  unfold ordF;split
  · rename_i h;have:=(zFV (hT h.1)).length_eq;have bh:=(rJ h.1).2.2.2;dsimp only;rw [pO,this,gb]; omega
  · simp
theorem zNY (n m:Nat):cF [] n m=0:=by unfold cF chF; simp
theorem zMi (P:zD) (part:Int) (k:Nat):ordT P part k (tkP [])=List.range (progI P).length:=by
  have hp:=zFV (P:=P) (part:=part) (k:=k) (T:=tkP []) (fun R hR n=>(zKF [] R hR n).1);refine List.Perm.eq_of_pairwise (le:=(· < ·)) (fun a b _ _ h1 h2=>by omega) ?_ fh hp;have hm:(foldT (tkP []) 0 (gg P k (ptl P part))).1=ptl P part:=by
    rw [zJ3 (T:=tkP []) _ _ fun R _ n=>zJ1 zNY R.length n R rfl,zI0,sW]
  unfold ordT;rw [hm];have hpre:(preI P part).Pairwise (· < ·):=List.Pairwise.filter _ fh;have hpos:(posI P part).Pairwise (· < ·):=List.Pairwise.filter _ fh;have mpre:∀ a∈preI P part,a<(progI P).length/\(zIns P a).Part<part:=fun a ha=>by
    unfold preI at ha;have:=d5.1 ha;exact ⟨cy.1 this.1,by simpa using this.2⟩
  have mpos:∀ a∈posI P part,a<(progI P).length/\part<(zIns P a).Part:=fun a ha=>by
    unfold posI at ha;have:=d5.1 ha;exact ⟨cy.1 this.1,by simpa using this.2⟩
  refine db.2 ⟨db.2 ⟨hpre,zLk P part _,fun a ha b hb=>?_⟩,hpos,fun a ha b hb=>?_⟩
  · obtain ⟨q1,q2⟩:=mpre a ha;obtain ⟨w1,w2⟩:=zC1.1 hb;exact zI2 q1 w1 (by omega)
  · obtain ⟨w1,w2⟩:=mpos b hb;rcases cQ.1 ha with ha | ha
    · obtain ⟨q1,q2⟩:=mpre a ha;exact zI2 q1 w1 (by omega)
    · obtain ⟨q1,q2⟩:=zC1.1 ha;exact zI2 q1 w1 (by omega)
theorem zLs {n:Nat} (hn:n<=100000):∀ (j i:Nat),i+j=n->vQ (asI (List.range n)) (i:Int)=some (.done ()):=by
  intro j
  induction j with
  | zero =>
    intro i hi;rw [vQ];have:¬((i:Int)<((asI (List.range n)).length:Int)):=by rw [pO,gb]; omega
    simp only [this,dF,bF,if_false,oP]
  | succ j ih =>
    intro i hi;rw [vQ];have hc:((i:Int)<((asI (List.range n)).length:Int)):=by rw [pO,gb]; omega
    have hx:idx (asI (List.range n)) (i:Int)=some (i:Int):=by rw [zK3 (by simp; omega)]; simp
    simp only [hc,dT,if_true,hx,oB,oS,bne_self_eq_false,bF,if_false];rw [wP (by omega)];exact ih (i+1) (by omega)
theorem zK6 (code:List UInt8):∃ r,nP code=some r/\r=true:=by
  unfold nP;by_cases hl:(code.length:Int)>1048576
  · exact ⟨true,by simp only [hl,dT,if_true]; rfl,rfl⟩
  simp only [hl,dF,bF,if_false];obtain ⟨⟨P,part,loop,cs⟩,hy,hb⟩:=drawPO code;rw [hy];have hI:=intsV (ordF P part loop (tkP [])).1 (ordF P part loop (tkP [])).1 (zLr fun _ R hR n=>(zKF [] R hR n).1);simp only [oB,oS,implPO hb,specPO hb,bQ,bT,bF,if_false,hI,dT,oP,if_true,id];refine ⟨true,?_,rfl⟩;by_cases h:validP P=true/\rngL P part loop
  · have e:∀ cs,ordF P part loop (tkP cs)=(asI (ordT P part loop.toNat (tkP cs)),true):=fun cs=>by unfold ordF; rw [if_pos h]
    rw [e,e,zMi];have bh:=(rJ h.1).2.2.2;have hF:=zLs (n:=(progI P).length) (by omega) _ 0 (cw _);rw [nZ] at hF;have hp:=(zFV (P:=P) (part:=part) (k:=loop.toNat) (T:=tkP cs) (fun R hR n=>(zKF cs R hR n).1)).length_eq;simp only [bT,bF,if_false,hF,oS,if_true,pO,hp,bQ]
  · have e:ordF P part loop (tkP [])=([],false):=by unfold ordF; rw [if_neg h]
    rw [e]; rfl
end Go.LN
