/- Helper of the proof (see the last text). -/
import Derived.Test.YtpacccdphbhfbaaGreatVB8
set_option linter.unusedVariables false
set_option linter.unusedSimpArgs false
namespace Go.LN
theorem zFo:∀ {a b c:List Int},lexlt a b→lexlt b c→lexlt a c
  | x::a,y::b,z::c,h1,h2=>by
    rcases h1 with h1 | ⟨rfl,h1⟩
    · rcases h2 with h2 | ⟨rfl,h2⟩
      · exact .inl (by omega)
      · exact .inl h1
    · rcases h2 with h2 | ⟨rfl,h2⟩
      · exact .inl h2
      · exact .inr ⟨rfl,zFo h1 h2⟩
  | [],_,_,h1,_=>h1.elim
  | _::_,[],_,h1,_=>h1.elim
  | _::_,_::_,[],_,h2=>h2.elim
def ordI (a b:zL):Prop:=a.Part < b.Part∨(a.Part=b.Part∧(lexlt a.Point b.Point∨(a.Point=b.Point∧a.Stmt < b.Stmt)))
theorem zKU {a b c:zL} (h1:ordI a b) (h2:ordI b c):ordI a c:=by
  rcases h1 with h1 | ⟨e1,h1⟩
  · rcases h2 with h2 | ⟨e2,_⟩
    · exact .inl (by omega)
    · exact .inl (by omega)
  · rcases h2 with h2 | ⟨e2,h2⟩
    · exact .inl (by omega)
    · refine .inr ⟨by omega,?_⟩;rcases h1 with h1 | ⟨p1,h1⟩
      · rcases h2 with h2 | ⟨p2,_⟩
        · exact .inl (zFo h1 h2)
        · exact .inl (p2 ▸ h1)
      · rcases h2 with h2 | ⟨p2,h2⟩
        · exact .inl (p1 ▸ h2)
        · exact .inr ⟨p1.trans p2,by omega⟩
theorem zKk {a b:zL} (h:nxt a b):ordI a b:=by
  rcases h with h | ⟨e,h | ⟨p,h⟩⟩
  · exact .inl h
  · exact .inr ⟨e,.inl h⟩
  · exact .inr ⟨e,.inr ⟨p,by omega⟩⟩
theorem zKl:∀ {l:List zL},Ch nxt l→l.Pairwise ordI
  | [],_=>List.Pairwise.nil
  | [a],_=>List.pairwise_singleton ..
  | a::b::l,h=>by
    have ih:=zKl (l:=b::l) h.2
    refine List.pairwise_cons.2 ⟨fun x hx=>?_,ih⟩
    rcases List.mem_cons.1 hx with rfl | hx
    · exact zKk h.1
    · exact zKU (zKk h.1) ((List.pairwise_cons.1 ih).1 x hx)
theorem zM0 {P:zD}{i k:Nat} (h:i < k) (hk:k < (progI P).length):ordI (zIns P i) (zIns P k):=by
  have hp:=List.pairwise_iff_getElem.1 (zKl (zML P)) i k (by omega) hk h;rw [zAy (by omega),zAy hk]; exact hp
def nzF:List Int→Option (Nat×Int)
  | []=>none
  | x::l=>if x=0 then (nzF l).map fun y=>(y.1 + 1,y.2) else some (0,x)
def zr (n:Nat):List Int:=List.replicate n 0
theorem zM1 {q:List Int} (h:ptB q=true):∀ x ∈ q,-9999 ≤ x∧x ≤ 9999:=fun x hx=>by
  simp only [ptB,bA,List.all_eq_true,decide_eq_true_eq] at h;exact h.2 x hx
theorem zKm:∀ {a b:List Int},lexlt a b→a.length=b.length→(∀ x ∈ a,-9999 ≤ x∧x ≤ 9999)→(∀ x ∈ b,-9999 ≤ x∧x ≤ 9999)→ltL (zr (minV b a).length) (minV b a)=true∧∃ k v,nzF (minV b a)=some (k,v)∧0 < v
  | x::a,y::b,h,hl,ha,hb=>by
    have h1:=ha x (List.mem_cons_self ..)
    have h2:=hb y (List.mem_cons_self ..)
    have e:minV (y::b) (x::a)=(y - x)::minV b a:=by
      show W (y - x)::minV b a=_
      rw [rH (by omega) (by omega)]
    rw [e]
    have ez:zr ((y - x)::minV b a).length=0::zr (minV b a).length:=rfl
    rw [ez]
    rcases h with h | ⟨rfl,h⟩
    · refine ⟨?_,0,y - x,?_,by omega⟩
      · unfold ltL; rw [cmpL,if_pos (by omega)]; rfl
      · rw [nzF,if_neg (by omega)]
    · obtain ⟨g1,k,v,g2,g3⟩:=zKm h (by simpa using hl) (fun z hz=>ha z (List.mem_cons_of_mem _ hz)) (fun z hz=>hb z (List.mem_cons_of_mem _ hz))
      refine ⟨?_,k + 1,v,?_,g3⟩
      · unfold ltL at g1 ⊢
        rw [cmpL,if_neg (by omega),if_neg (by omega)]; exact g1
      · rw [nzF,if_pos (by omega),g2]; rfl
  | [],_,h,_,_,_=>h.elim
  | _::_,[],h,_,_,_=>h.elim
theorem zJn:∀ a:List Int,minV a a=zr (minV a a).length∧nzF (minV a a)=none
  | []=>⟨rfl,rfl⟩
  | x::a=>by
    have e:minV (x::a) (x::a)=0::minV a a:=by
      show W (x - x)::minV a a=_
      rw [Int.sub_self]; rfl
    obtain ⟨h1,h2⟩:=zJn a
    rw [e]
    refine ⟨?_,?_⟩
    · show 0::minV a a=0::zr (minV a a).length
      rw [← h1]
    · rw [nzF,if_pos rfl,h2]; rfl
theorem zKV:∀ {d:List Int}{k:Nat}{v:Int},nzF d=some (k,v)→∃ h:k < d.length,d[k]=v
  | x::l,k,v,h=>by
    rw [nzF] at h
    by_cases e:x=0
    · rw [if_pos e] at h
      cases hn:nzF l with
      | none=>rw [hn] at h; cases h
      | some y =>
        rw [hn] at h
        obtain ⟨k2,v2⟩:=y
        have h:=Option.some.inj h
        injection h with h3 h4
        subst h3; subst h4
        obtain ⟨g1,g2⟩:=zKV hn
        exact ⟨by rw [List.length_cons]; omega,g2⟩
    · rw [if_neg e] at h
      have h:=Option.some.inj h
      injection h with h3 h4
      subst h3; subst h4
      exact ⟨by simp,rfl⟩
theorem carryV {d:List Int} (hl:d.length ≤ 1000000):mZ d=some (match nzF d with | none=>-1 | some y=>(y.1:Int)):=by
  have key:∀ (j q:Nat),q + j=d.length→xM d rQ (q:Int)=some (match nzF (d.drop q) with | none=>.done () | some y=>.ret ((q + y.1:Nat):Int)):=by
    intro j
    induction j with
    | zero =>
      intro q hq;rw [xM];have:¬((q:Int) < (d.length:Int)):=by omega
      simp only [this,dF,bF,if_false,oP];rw [dN.2 (show d.length ≤ q by omega)]; rfl
    | succ j ih =>
      intro q hq;have h1:q < d.length:=by omega
      have hc:((q:Int) < (d.length:Int)):=by omega
      rw [xM,gC h1,nzF];simp only [hc,dT,if_true,yJ h1,rQ,oB,oS,oP];by_cases e:d[q]=0
      · have:(d[q] != 0)=false:=by simp [e]
        simp only [this,bF,if_false,e,if_true];rw [wD (by omega),ih (q + 1) (by omega)];cases nzF (d.drop (q + 1)) with
        | none=>rfl
        | some y =>
          show some (Out.ret _)=some (Out.ret _)
          congr 2
          show ((q + 1 + y.1:Nat):Int)=((q + (y.1 + 1):Nat):Int);omega
      · have:(d[q] != 0)=true:=by simp [e]
        simp only [this,if_true,e,if_false];rfl
  have h:=key d.length 0 (Nat.zero_add _);rw [nZ,List.drop_zero] at h;unfold mZ tC;rw [h];cases nzF d with
  | none=>rfl
  | some y=>simp
theorem zIo {P:zD} (hb:BG P) {part:Int}{d:List Int} (h:d ∈ dsF P part):d.length ≤ 4∧ltL d (zr d.length)=false∧(∀ k v,nzF d=some (k,v)→0 < v) ∧
    (0 ≤ part∧part.toNat < P.Parts.length∧d.length=(gP P part.toNat).Nest.length∧((gP P part.toNat).Body.length=1→nzF d ≠ none)):=by
  have hs:=zFe hb (zMX.1 h)
  obtain ⟨hv,i,k,h1,h2,p1,p2,rfl⟩:=zKj hb (zMX.1 h)
  have hi:i < (progI P).length:=by omega
  have ai:=dG hb hv (zB0 hi)
  have ak:=dG hb hv (zB0 h2)
  have hsame:=zKi hb hv hi h2 (by rw [p1,p2])
  have ho:=zM0 h1 h2
  have hpart:=ak.part
  have hln:(minV (zIns P k).Point (zIns P i).Point).length=(gP P part.toNat).Nest.length:=by rw [zH3,hsame.1,Nat.min_self,hsame.2,p2]
  rw [p2] at hpart
  rcases ho with ho | ⟨_,ho | ⟨ho,hst⟩⟩
  · rw [p1,p2] at ho; omega
  · obtain ⟨g1,kk,v,g2,g3⟩:=zKm ho hsame.1 (zM1 ai.pin.2.2.1) (zM1 ak.pin.2.2.1)
    refine ⟨hs,zKT g1,fun k' v' e=>?_,hpart.1,by omega,hln,fun _=>by rw [g2]; simp⟩
    rw [g2] at e
    have e:=Option.some.inj e
    injection e with _ e2
    omega
  · rw [ho]
    obtain ⟨g1,g2⟩:=zJn (zIns P k).Point
    refine ⟨by rw [ho] at hs; exact hs,?_,fun k' v' e=>(by rw [g2] at e; cases e),hpart.1,by omega,by rw [ho] at hln; exact hln,fun hB=>?_⟩
    · rw [← g1]; exact zIj _
    · exfalso
      have s1:=ai.stmt
      have s2:=ak.stmt
      rw [p1,hB] at s1
      rw [p2,hB] at s2
      omega
end Go.LN
namespace Go.LN
def atK (k:Nat) (d:List Int):Bool:=match nzF d with | some y=>y.1 == k | none=>false
def crd (P:zD) (part:Int) (k:Nat):Bool:=(dsF P part).any (atK k)
def bsL (n:Nat) (g:Nat→Bool):List Bool:=(List.range n).map g
theorem zEp (n:Nat) (g:Nat→Bool):(bsL n g).length=n:=by unfold bsL; rw [lM,List.length_range]
theorem zKW {n i:Nat}{g:Nat→Bool} (h:i < (bsL n g).length):(bsL n g)[i]=g i:=by simp [bsL]
theorem zKn {n m:Nat}{g:Nat→Bool} (h:m < n):idx (bsL n g) (m:Int)=some (g m):=by
  rw [yJ (by rw [zEp]; exact h)];simp [bsL]
theorem zKo {n m:Nat}{g:Nat→Bool}:(bsL n g).set m true=bsL n fun x=>g x || x == m:=by
  refine List.ext_getElem (by rw [List.length_set,zEp,zEp]) fun i h1 h2=>?_;rw [List.getElem_set,zKW,zKW];by_cases e:m=i
  · rw [if_pos e,e]; simp
  · rw [if_neg e];have:(i == m)=false:=by simpa using fun h=>e h.symm
    simp [this]
theorem zM2 (n:Nat):List.replicate n false=bsL n fun _=>false:=by
  refine List.ext_getElem (by rw [List.length_replicate,zEp]) fun i h1 h2=>?_;rw [zKW,List.getElem_replicate]
end Go.LN
namespace Go.LN
def lvF (n:Nat) (g:Nat→Bool):List Int:=((List.range n).filter g).map fun x:Nat=>(x:Int)
theorem zKp (g:Nat→Bool):∀ n i,choF ((List.range' i n).map g) i=((List.range' i n).filter g).map fun x:Nat=>(x:Int)
  | 0,i=>rfl
  | n + 1,i=>by
    rw [List.range'_succ,List.map_cons,choF,zKp g n (i + 1),List.filter_cons]
    cases g i <;> rfl
theorem choB (n:Nat) (g:Nat→Bool):choF (bsL n g) 0=lvF n g:=by
  have h:=zKp g n 0;rw [← List.range_eq_range'] at h;exact h
theorem zOD (n:Nat) (g:Nat→Bool):(lvF n g).length ≤ n:=by
  unfold lvF;rw [lM];have:=List.length_filter_le g (List.range n);rwa [List.length_range] at this
theorem zOE {n:Nat}{g:Nat→Bool} (k:Nat):hasB (lvF n g) (k:Int)=(decide (k < n) && g k):=by
  rw [Bool.eq_iff_iff];unfold hasB lvF;rw [List.any_eq_true,bA,decide_eq_true_eq];constructor
  · rintro ⟨x,hx,h⟩;obtain ⟨y,hy,rfl⟩:=List.mem_map.1 hx;rw [List.mem_filter,List.mem_range] at hy;have e:(y:Int)=(k:Int):=by simpa using h
    have e:y=k:=by omega
    rwa [e] at hy
  · rintro ⟨h1,h2⟩;exact ⟨(k:Int),List.mem_map.2 ⟨k,List.mem_filter.2 ⟨List.mem_range.2 h1,h2⟩,rfl⟩,by simp⟩
end Go.LN
namespace Go.LN
theorem zN3 {P:zD}{part:Int} (h:0 ≤ part∧part ≤ (P.Parts.length:Int) - 1):idx P.Parts part=some (gP P part.toNat):=by
  have b2:part.toNat < P.Parts.length:=by omega
  rw [show part=((part.toNat:Nat):Int) by omega,yJ b2,iN];simp [gP,b2]
theorem nest4 {P:zD} (hv:validP P=true) {i:Nat} (hi:i < P.Parts.length):(gP P i).Nest.length ≤ 4 :=
  (zEm (zJ8 ((jM hv).2.2.1 i hi)).2.1).1
theorem specCarry {d:List Int} (hl:d.length ≤ 1000000):kC d=some (match nzF d with | none=>-1 | some y=>(y.1:Int)):=by
  have key:∀ (j q:Nat),q + j=d.length→sQ d (q:Int)=some (match nzF (d.drop q) with | none=>.done () | some y=>.ret ((q + y.1:Nat):Int)):=by
    intro j
    induction j with
    | zero =>
      intro q hq;rw [sQ];have:¬((q:Int) < (d.length:Int)):=by omega
      simp only [this,dF,bF,if_false,oP];rw [dN.2 (show d.length ≤ q by omega)]; rfl
    | succ j ih =>
      intro q hq;have h1:q < d.length:=by omega
      have hc:((q:Int) < (d.length:Int)):=by omega
      rw [sQ,gC h1,nzF];simp only [hc,dT,if_true,yJ h1,oB,oS,oP];by_cases e:d[q]=0
      · have:(d[q] != 0)=false:=by simp [e]
        simp only [this,bF,if_false,e,if_true];rw [wD (by omega),ih (q + 1) (by omega)];cases nzF (d.drop (q + 1)) with
        | none=>rfl
        | some y =>
          show some (Out.ret _)=some (Out.ret _)
          congr 2
          show ((q + 1 + y.1:Nat):Int)=((q + (y.1 + 1):Nat):Int);omega
      · have:(d[q] != 0)=true:=by simp [e]
        simp only [this,if_true,e,if_false];rfl
  have h:=key d.length 0 (Nat.zero_add _);rw [nZ,List.drop_zero] at h;unfold kC;rw [h];cases nzF d with
  | none=>rfl
  | some y=>simp
theorem zOF {D:List (List Int)} (hD:D.length ≤ 1000000) {n:Nat} (hn:∀ d ∈ D,d.length ≤ 4∧∀ k v,nzF d=some (k,v)→k < n):∀ (j i:Nat) (g:Nat→Bool),i + j=D.length→uL D (bsL n g) (i:Int)=some (bsL n fun x=>g x || (D.drop i).any (atK x)):=by
  intro j
  induction j with
  | zero =>
    intro i g hi;rw [uL];have:¬((i:Int) < (D.length:Int)):=by omega
    have e:D.drop i=[]:=dN.2 (by omega);simp only [this,dF,bF,if_false,oP,id,e,List.any_nil,Bool.or_false]
  | succ j ih =>
    intro i g hi;have h1:i < D.length:=by omega
    have hc:((i:Int) < (D.length:Int)):=by omega
    obtain ⟨hl,hk⟩:=hn _ (gM h1);rw [uL,gC h1];simp only [hc,dT,if_true,yJ h1,carryV (show D[i].length ≤ 1000000 by omega),oB,oS,oP];cases e:nzF D[i] with
    | none =>
      have:¬((-1:Int) ≥ 0):=by omega
      simp only [this,dF,bF,if_false,oS,id];rw [wD (by omega),ih (i + 1) g (by omega)];refine congrArg (fun f=>some (bsL n f)) (funext fun x=>?_);have:atK x D[i]=false:=by unfold atK; rw [e]
      rw [List.any_cons,this,Bool.false_or]
    | some y =>
      obtain ⟨k,v⟩:=y;have hkn:=hk k v e;have hge:((k:Int) ≥ 0):=by omega
      simp only [hge,dT,if_true,zKn hkn,oS,id,iN,zKo];rw [wD (by omega),ih (i + 1) _ (by omega)];refine congrArg (fun f=>some (bsL n f)) (funext fun x=>?_);have h2:atK x D[i]=(k == x):=by unfold atK; rw [e]
      have h3:(x == k)=(k == x):=by rw [Bool.eq_iff_iff,beq_iff_eq,beq_iff_eq]; exact eq_comm
      rw [List.any_cons,h2,h3,Bool.or_assoc]
theorem zNR {D:List (List Int)} (hD:D.length ≤ 1000000) {n:Nat} (hn:∀ d ∈ D,d.length ≤ 4∧∀ k v,nzF d=some (k,v)→k < n):∀ (j i:Nat) (g:Nat→Bool),i + j=D.length→tE D (bsL n g) (i:Int)=some (bsL n fun x=>g x || (D.drop i).any (atK x)):=by
  intro j
  induction j with
  | zero =>
    intro i g hi;rw [tE];have:¬((i:Int) < (D.length:Int)):=by omega
    have e:D.drop i=[]:=dN.2 (by omega);simp only [this,dF,bF,if_false,oP,id,e,List.any_nil,Bool.or_false]
  | succ j ih =>
    intro i g hi;have h1:i < D.length:=by omega
    have hc:((i:Int) < (D.length:Int)):=by omega
    obtain ⟨hl,hk⟩:=hn _ (gM h1);rw [tE,gC h1];simp only [hc,dT,if_true,yJ h1,specCarry (show D[i].length ≤ 1000000 by omega),oB,oS,oP];cases e:nzF D[i] with
    | none =>
      have:¬((-1:Int) ≥ 0):=by omega
      simp only [this,dF,bF,if_false,oS,id];rw [wD (by omega),ih (i + 1) g (by omega)];refine congrArg (fun f=>some (bsL n f)) (funext fun x=>?_);have:atK x D[i]=false:=by unfold atK; rw [e]
      rw [List.any_cons,this,Bool.false_or]
    | some y =>
      obtain ⟨k,v⟩:=y;have hkn:=hk k v e;have hge:((k:Int) ≥ 0):=by omega
      simp only [hge,dT,if_true,zKn hkn,oS,id,iN,zKo];rw [wD (by omega),ih (i + 1) _ (by omega)];refine congrArg (fun f=>some (bsL n f)) (funext fun x=>?_);have h2:atK x D[i]=(k == x):=by unfold atK; rw [e]
      have h3:(x == k)=(k == x):=by rw [Bool.eq_iff_iff,beq_iff_eq,beq_iff_eq]; exact eq_comm
      rw [List.any_cons,h2,h3,Bool.or_assoc]
theorem mk1 (n:Nat) (hn:n ≤ 1000000):mkrow 1 (n:Int) (false:Bool)=some (bsL n fun _=>false):=by
  unfold mkrow;rw [if_pos ⟨by omega,by omega⟩,iN,zM2]
theorem zOG {P:zD} (hb:BG P) {part:Int}:∀ d ∈ dsF P part,d.length ≤ 4∧∀ k v,nzF d=some (k,v)→k < (gP P part.toNat).Nest.length:=fun d hd=>by
  obtain ⟨a,_,_,_,_,c,_⟩:=zIo hb hd;refine ⟨a,fun k v e=>?_⟩;obtain ⟨hk,_⟩:=zKV e;omega
theorem crdV {P:zD} (hb:BG P) (hv:validP P=true) {part:Int} (h:0 ≤ part∧part ≤ (P.Parts.length:Int) - 1):mI (trcP P) part=some (bsL (gP P part.toNat).Nest.length (crd P part)):=by
  have h4:=nest4 hv (show part.toNat < P.Parts.length by omega);have hx:idx (trcP P).Program.Parts part=some (gP P part.toNat):=zN3 h;have hd:=zMY (P:=P) part;have hl:=zOF (D:=dsF P part) (by omega) (zOG hb) _ 0 (fun _=>false) (Nat.zero_add _);rw [nZ,List.drop_zero] at hl;unfold mI;simp only [hx,mk1 _ (show (gP P part.toNat).Nest.length ≤ 1000000 by omega),tdist hb hv,hl,oB,oS,oP,id,Bool.false_or];rfl
theorem zO3 {P:zD}{part:Int} (h:¬(0 ≤ part∧part ≤ (P.Parts.length:Int) - 1)):(decide (0 ≤ part) && decide (part ≤ (P.Parts.length:Int) - 1))=false:=by
  cases hq:(decide (0 ≤ part) && decide (part ≤ (P.Parts.length:Int) - 1)) with
  | false=>rfl
  | true=>simp only [bA,decide_eq_true_eq] at hq; exact absurd hq h
theorem specCar (P:zD) (hb:BG P) (part:Int):nE P part=some (lvF 4 (crd P part)):=by
  have hd:=zMY (P:=P) part;have hl:=zNR (D:=dsF P part) (n:=4) (by omega) (fun d hd=>⟨(zIo hb hd).1,fun k v e=>by obtain ⟨hk,_⟩:=zKV e; have:=(zIo hb hd).1; omega⟩) _ 0 (fun _=>false) (Nat.zero_add _);rw [nZ,List.drop_zero] at hl;have hm:mkrow 1 (4:Int) (false:Bool)=some (bsL 4 fun _=>false):=mk1 4 (by omega);unfold nE;simp only [hm,specDist P hb part,hl,oB,oS,oP,id,Bool.false_or];have e:(bsL 4 fun x=>(dsF P part).any (atK x))=bsL 4 (crd P part):=rfl;rw [e,specCho _ (by rw [zEp]; omega),choB];rfl
def lpB (P:zD) (part loop:Int):Bool:=decide (validP P=true∧(0 ≤ part∧part ≤ (P.Parts.length:Int) - 1)∧0 ≤ loop∧loop ≤ ((gP P part.toNat).Nest.length:Int) - 1) && !crd P part loop.toNat
theorem zOH {P:zD}{part loop:Int} (h:¬(validP P=true∧(0 ≤ part∧part ≤ (P.Parts.length:Int) - 1)∧0 ≤ loop∧loop ≤ ((gP P part.toNat).Nest.length:Int) - 1)):lpB P part loop=false:=by
  unfold lpB;rw [decide_eq_false h,Bool.false_and]
theorem zNS {P:zD}{part loop:Int} (h:validP P=true∧(0 ≤ part∧part ≤ (P.Parts.length:Int) - 1)∧0 ≤ loop∧loop ≤ ((gP P part.toNat).Nest.length:Int) - 1):lpB P part loop=!crd P part loop.toNat:=by
  unfold lpB;rw [decide_eq_true h,Bool.true_and]
theorem specLP (P:zD) (hb:BG P) (part loop:Int):kU P part loop=some (lpB P part loop):=by
  have h8:eO P part loop=some (decide (validP P=true∧(0 ≤ part∧part ≤ (P.Parts.length:Int) - 1)∧0 ≤ loop∧loop ≤ ((gP P part.toNat).Nest.length:Int) - 1)):=by
    unfold eO;rw [specValidP P hb];cases hv:validP P with
    | false=>simp
    | true =>
      by_cases a:0 ≤ part
      · by_cases b:part ≤ (P.Parts.length:Int) - 1
        · by_cases c:0 ≤ loop
          · have b':part < (P.Parts.length:Int):=by omega
            simp only [if_true,oB,oS,oP,id,ge_iff_le,a,b,b',c,dT,zN3 ⟨a,b⟩,true_and]
            congr 1
            rw [Bool.eq_iff_iff,decide_eq_true_eq,decide_eq_true_eq];omega
          · have b':part < (P.Parts.length:Int):=by omega
            simp [a,b',c]
        · have b':¬part < (P.Parts.length:Int):=by omega
          simp [a,b',b]
      · simp [a]
  unfold kU;rw [h8];by_cases h:validP P=true∧(0 ≤ part∧part ≤ (P.Parts.length:Int) - 1)∧0 ≤ loop∧loop ≤ ((gP P part.toNat).Nest.length:Int) - 1
  · have h4:=nest4 h.1 (show part.toNat < P.Parts.length by omega);have hh:hasB (lvF 4 (crd P part)) loop=crd P part loop.toNat:=by
      have:=zOE (n:=4) (g:=crd P part) loop.toNat;rw [show ((loop.toNat:Nat):Int)=loop by omega,decide_eq_true (show loop.toNat < 4 by omega),Bool.true_and] at this;exact this
    have hn:=zOD 4 (crd P part);rw [decide_eq_true h,zNS h];simp only [if_true,oB,oS,oP,id,specCar P hb part,specHas _ loop (show (lvF 4 (crd P part)).length ≤ 1048576 by omega),hh]
  · rw [decide_eq_false h,zOH h]; rfl
end Go.LN
namespace Go.LN
theorem args9 (s:zM) (hs:0 ≤ s.p∧s.p ≤ 1000):Ok (dJ s) (fun y=>BG y.1):=by
  unfold dJ dI;refine Ok.bind ?_ fun y hy=>Ok.pure hy;refine Ok.call (zKP s) ⟨by omega,by omega⟩ fun a t g1 g2 g3=>?_;refine Ok.bind (mut4 t a g1.dp (by omega) (by omega)) fun p hp=>?_;obtain ⟨P,r⟩:=p;obtain ⟨⟨hp1,_⟩,hp2,hp3⟩:=hp;dsimp only at hp2 hp3;exact Ok.call (vH r _) ⟨by decide,hp2,by omega,by decide⟩ fun y s2 _ _ k5=>Ok.call (vH s2 _) ⟨by decide,by omega,by omega,by decide⟩ fun y3 s3 _ _ k6=>Ok.call (vH s3 _) ⟨by decide,by omega,by omega,by decide⟩ fun y4 s4 _ _ k7=>Ok.pure hp1
end Go.LN
