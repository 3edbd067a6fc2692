/- Helper of the proof (see the last text). -/
import Derived.Test.YtaflkghnfcjahaaGreatVB8
set_option linter.unusedVariables false
set_option linter.unusedSimpArgs false
namespace Go.LN
theorem zEe:∀ {a b c:List Int},lexlt a b→lexlt b c→lexlt a c
  | x::a,y::b,z::c,h1,h2=>by
    rcases h1 with h1 | ⟨rfl,h1⟩
    · rcases h2 with h2 | ⟨rfl,h2⟩
      · exact .inl (by omega)
      · exact .inl h1
    · rcases h2 with h2 | ⟨rfl,h2⟩
      · exact .inl h2
      · exact .inr ⟨rfl,zEe h1 h2⟩
  | [],_,_,h1,_=>h1.elim
  | _::_,[],_,h1,_=>h1.elim
  | _::_,_::_,[],_,h2=>h2.elim
def ordI (a b:zK):Prop:=a.Part < b.Part∨(a.Part=b.Part∧(lexlt a.Point b.Point∨(a.Point=b.Point∧a.Stmt < b.Stmt)))
theorem zJC {a b c:zK} (h1:ordI a b) (h2:ordI b c):ordI a c:=by
  rcases h1 with h1 | ⟨e1,h1⟩
  · rcases h2 with h2 | ⟨e2,_⟩
    · exact .inl (by omega)
    · exact .inl (by omega)
  · rcases h2 with h2 | ⟨e2,h2⟩
    · exact .inl (by omega)
    · refine .inr ⟨by omega,?_⟩;rcases h1 with h1 | ⟨p1,h1⟩
      · rcases h2 with h2 | ⟨p2,_⟩
        · exact .inl (zEe h1 h2)
        · exact .inl (p2 ▸ h1)
      · rcases h2 with h2 | ⟨p2,h2⟩
        · exact .inl (p1 ▸ h2)
        · exact .inr ⟨p1.trans p2,by omega⟩
theorem zJ1 {a b:zK} (h:nxt a b):ordI a b:=by
  rcases h with h | ⟨e,h | ⟨p,h⟩⟩
  · exact .inl h
  · exact .inr ⟨e,.inl h⟩
  · exact .inr ⟨e,.inr ⟨p,by omega⟩⟩
theorem zJ2:∀ {l:List zK},Ch nxt l→l.Pairwise ordI
  | [],_=>List.Pairwise.nil
  | [a],_=>List.pairwise_singleton ..
  | a::b::l,h=>by
    have ih:=zJ2 (l:=b::l) h.2
    refine List.pairwise_cons.2 ⟨fun x hx=>?_,ih⟩
    rcases List.mem_cons.1 hx with rfl | hx
    · exact zJ1 h.1
    · exact zJC (zJ1 h.1) ((List.pairwise_cons.1 ih).1 x hx)
theorem zLD {P:zE}{i k:Nat} (h:i < k) (hk:k < (progI P).length):ordI (zIns P i) (zIns P k):=by
  have hp:=List.pairwise_iff_getElem.1 (zJ2 (zKq P)) i k (by omega) hk h;rw [zAT (by omega),zAT hk]; exact hp
def nzF:List Int→Option (Nat×Int)
  | []=>none
  | x::l=>if x=0 then (nzF l).map fun y=>(y.1 + 1,y.2) else some (0,x)
def zr (n:Nat):List Int:=List.replicate n 0
theorem zLE {q:List Int} (h:ptB q=true):∀ x ∈ q,-9999 ≤ x∧x ≤ 9999:=fun x hx=>by
  simp only [ptB,bA,List.all_eq_true,decide_eq_true_eq] at h;exact h.2 x hx
theorem zJ3:∀ {a b:List Int},lexlt a b→a.length=b.length→(∀ x ∈ a,-9999 ≤ x∧x ≤ 9999)→(∀ x ∈ b,-9999 ≤ x∧x ≤ 9999)→ltL (zr (minV b a).length) (minV b a)=true∧∃ k v,nzF (minV b a)=some (k,v)∧0 < v
  | x::a,y::b,h,hl,ha,hb=>by
    have h1:=ha x (List.mem_cons_self ..)
    have h2:=hb y (List.mem_cons_self ..)
    have e:minV (y::b) (x::a)=(y - x)::minV b a:=by
      show W (y - x)::minV b a=_
      rw [rC (by omega) (by omega)]
    rw [e]
    have ez:zr ((y - x)::minV b a).length=0::zr (minV b a).length:=rfl
    rw [ez]
    rcases h with h | ⟨rfl,h⟩
    · refine ⟨?_,0,y - x,?_,by omega⟩
      · unfold ltL; rw [cmpL,if_pos (by omega)]; rfl
      · rw [nzF,if_neg (by omega)]
    · obtain ⟨g1,k,v,g2,g3⟩:=zJ3 h (by simpa using hl) (fun z hz=>ha z (List.mem_cons_of_mem _ hz)) (fun z hz=>hb z (List.mem_cons_of_mem _ hz))
      refine ⟨?_,k + 1,v,?_,g3⟩
      · unfold ltL at g1 ⊢
        rw [cmpL,if_neg (by omega),if_neg (by omega)]; exact g1
      · rw [nzF,if_pos (by omega),g2]; rfl
  | [],_,h,_,_,_=>h.elim
  | _::_,[],h,_,_,_=>h.elim
theorem zI7:∀ a:List Int,minV a a=zr (minV a a).length∧nzF (minV a a)=none
  | []=>⟨rfl,rfl⟩
  | x::a=>by
    have e:minV (x::a) (x::a)=0::minV a a:=by
      show W (x - x)::minV a a=_
      rw [Int.sub_self]; rfl
    obtain ⟨h1,h2⟩:=zI7 a
    rw [e]
    refine ⟨?_,?_⟩
    · show 0::minV a a=0::zr (minV a a).length
      rw [← h1]
    · rw [nzF,if_pos rfl,h2]; rfl
theorem carryV {d:List Int} (hl:d.length ≤ 1000000):kZ d=some (match nzF d with | none=>-1 | some y=>(y.1:Int)):=by
  have key:∀ (j q:Nat),q + j=d.length→xJ d sX (q:Int)=some (match nzF (d.drop q) with | none=>.done () | some y=>.ret ((q + y.1:Nat):Int)):=by
    intro j
    induction j with
    | zero =>
      intro q hq;rw [xJ];have:¬((q:Int) < (d.length:Int)):=by omega
      simp only [this,dF,bF,if_false,oP];rw [dN.2 (show d.length ≤ q by omega)]; rfl
    | succ j ih =>
      intro q hq;have h1:q < d.length:=by omega
      have hc:((q:Int) < (d.length:Int)):=by omega
      rw [xJ,gC h1,nzF];simp only [hc,dT,if_true,yI h1,sX,oB,oS,oP];by_cases e:d[q]=0
      · have:(d[q] != 0)=false:=by simp [e]
        simp only [this,bF,if_false,e,if_true];rw [wF (by omega),ih (q + 1) (by omega)];cases nzF (d.drop (q + 1)) with
        | none=>rfl
        | some y =>
          show some (Out.ret _)=some (Out.ret _)
          congr 2
          show ((q + 1 + y.1:Nat):Int)=((q + (y.1 + 1):Nat):Int);omega
      · have:(d[q] != 0)=true:=by simp [e]
        simp only [this,if_true,e,if_false];rfl
  have h:=key d.length 0 (Nat.zero_add _);rw [nZ,List.drop_zero] at h;unfold kZ uS;rw [h];cases nzF d with
  | none=>rfl
  | some y=>simp
theorem zMu {P:zE} (hb:BG P) {part:Int}{d:List Int} (h:d ∈ dsF P part):d.length ≤ 4∧ltL d (zr d.length)=false∧(∀ k v,nzF d=some (k,v)→0 < v) ∧
    (0 ≤ part∧part.toNat < P.Parts.length∧d.length=(gP P part.toNat).Nest.length∧((gP P part.toNat).Body.length=1→nzF d ≠ none)):=by
  have hs:=zE6 hb (zLB.1 h)
  obtain ⟨hv,i,k,h1,h2,p1,p2,rfl⟩:=zHa hb (zLB.1 h)
  have hi:i < (progI P).length:=by omega
  have ai:=fJ hb hv (zAM hi)
  have ak:=fJ hb hv (zAM h2)
  have hsame:=zJ0 hb hv hi h2 (by rw [p1,p2])
  have ho:=zLD h1 h2
  have hpart:=ak.part
  have hln:(minV (zIns P k).Point (zIns P i).Point).length=(gP P part.toNat).Nest.length:=by rw [zGS,hsame.1,Nat.min_self,hsame.2,p2]
  rw [p2] at hpart
  rcases ho with ho | ⟨_,ho | ⟨ho,hst⟩⟩
  · rw [p1,p2] at ho; omega
  · obtain ⟨g1,kk,v,g2,g3⟩:=zJ3 ho hsame.1 (zLE ai.pin.2.2.1) (zLE ak.pin.2.2.1)
    refine ⟨hs,zJB g1,fun k' v' e=>?_,hpart.1,by omega,hln,fun _=>by rw [g2]; simp⟩
    rw [g2] at e
    have e:=Option.some.inj e
    injection e with _ e2
    omega
  · rw [ho]
    obtain ⟨g1,g2⟩:=zI7 (zIns P k).Point
    refine ⟨by rw [ho] at hs; exact hs,?_,fun k' v' e=>(by rw [g2] at e; cases e),hpart.1,by omega,by rw [ho] at hln; exact hln,fun hB=>?_⟩
    · rw [← g1]; exact zH5 _
    · exfalso
      have s1:=ai.stmt
      have s2:=ak.stmt
      rw [p1,hB] at s1
      rw [p2,hB] at s2
      omega
theorem zMa {l:List (List Int)} (hl:l.length ≤ 1000000) (hr:∀ x ∈ l,x.length ≤ 1048576):fG l l=some true:=by
  have key:∀ (j q:Nat),q + j=l.length→qO l l (q:Int)=some (.done ()):=by
    intro j
    induction j with
    | zero =>
      intro q hq;rw [qO];have:¬((q:Int) < (l.length:Int)):=by omega
      simp only [this,dF,bF,if_false,oP]
    | succ j ih =>
      intro q hq;have h1:q < l.length:=by omega
      have hc:((q:Int) < (l.length:Int)):=by omega
      rw [qO];simp only [hc,dT,if_true,yI h1,zJp _ (hr _ (gM h1)),bT,bF,if_false,oB,oS];rw [wF (by omega),ih (q + 1) (by omega)]
  have h:=key l.length 0 (Nat.zero_add _);rw [nZ] at h;unfold fG;simp only [bne_self_eq_false,bF,if_false,h,oB,oS,oP]
end Go.LN
