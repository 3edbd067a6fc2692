/- Helper of the proof (see the last text). -/
import Derived.Test.YtpacccdphbhfbaaGreatVB1
import Derived.Test.YtpacccdphbhfbaaGreatQZ
set_option linter.unusedVariables false
set_option linter.unusedSimpArgs false
namespace Go.LN
def BP (x:zN):Prop:=BN x.Nest∧x.Body.length ≤ 100000∧∀ s ∈ x.Body,BS s
def bodyB (x:zN):Bool:=(decide (1 ≤ x.Body.length) && decide (x.Body.length ≤ 4)) && x.Body.all fun s=>stmtB s (x.Nest.length:Int)
def partB (A:List zF) (x:zN):Bool:=(nestPts x.Nest).2 && bodyB x && (nestPts x.Nest).1.all fun q=>ptB q && x.Body.all fun s=>stOk A s q
def instR (k:Int) (q:List Int) (i j:Nat):List zL:=(List.range' i j).map fun (i:Nat)=>⟨k,(i:Int),q⟩
theorem zFa (k:Int) (q:List Int) (i j:Nat):(instR k q i j).length=j:=by simp [instR]
theorem len14 (n:Nat):(decide ((1:Int) ≤ (n:Int)) && decide ((n:Int) ≤ 4))=(decide (1 ≤ n) && decide (n ≤ 4)):=by
  have e1:decide ((1:Int) ≤ (n:Int))=decide (1 ≤ n):=by simp; omega
  have e2:decide ((n:Int) ≤ 4)=decide (n ≤ 4):=by simp; omega
  rw [e1,e2]
theorem zNF (P:zD) (k:Int) (x:zN) (q:List Int) (hq:q.length ≤ 4) (hb:x.Body.length ≤ 4) (hs:∀ s ∈ x.Body,stmtB s (x.Nest.length:Int)=true) (hR:RV P.Arrays) :
    ∀ (j i:Nat) (o:List zL),i + j=x.Body.length→o.length + j ≤ 1000000→vD P k x q o (i:Int)=some (if (x.Body.drop i).all (fun s=>stOk P.Arrays s q) then .done (o ++ instR k q i j) else .ret ([],false)):=by
  intro j
  induction j with
  | zero =>
    intro i o hi ho
    rw [vD]
    have:¬((i:Int) < (x.Body.length:Int)):=by omega
    simp only [this,dF,bF,if_false]
    rw [show x.Body.drop i=[] from dN.2 (by omega)]
    simp [instR]
  | succ j ih =>
    intro i o hi ho
    rw [vD]
    have hlt:i < x.Body.length:=by omega
    have hc:((i:Int) < (x.Body.length:Int)):=by omega
    have happ:app 40 o [(⟨k,(i:Int),q⟩:zL)]=some (o ++ [⟨k,(i:Int),q⟩]):=rS (by simp; omega)
    simp only [hc,dT,if_true,yJ hlt,oB,oS,implStmtOk P _ q (hs _ (gM hlt)) hq hR,zHT q (by omega),happ]
    rw [wD (by omega),gC hlt,List.all_cons]
    cases stOk P.Arrays x.Body[i] q with
    | false=>rfl
    | true =>
      simp only [bT,bF,if_false,Bool.true_and]
      rw [ih (i + 1) _ (by omega) (by simp; omega),List.append_assoc]
      simp only [instR,List.range'_succ,List.map_cons,List.singleton_append]
def ptOk (A:List zF) (x:zN) (q:List Int):Bool:=ptB q && x.Body.all fun s=>stOk A s q
theorem zNG (P:zD) (k:Int) (x:zN) (qs:List (List Int)) (hq:∀ q ∈ qs,q.length ≤ 4) (hql:qs.length ≤ 120) (hb:x.Body.length ≤ 4) (hs:∀ s ∈ x.Body,stmtB s (x.Nest.length:Int)=true) (hR:RV P.Arrays) :
    ∀ (j i:Nat) (o:List zL),i + j=qs.length→o.length + 4 * j ≤ 1000000→vE P k x qs o (i:Int)=some (if (qs.drop i).all (ptOk P.Arrays x) then .done (o ++ (qs.drop i).flatMap fun q=>instR k q 0 x.Body.length) else .ret ([],false)):=by
  intro j
  induction j with
  | zero =>
    intro i o hi ho
    rw [vE]
    have:¬((i:Int) < (qs.length:Int)):=by omega
    simp only [this,dF,bF,if_false]
    rw [show qs.drop i=[] from dN.2 (by omega)]
    simp
  | succ j ih =>
    intro i o hi ho
    rw [vE]
    have hlt:i < qs.length:=by omega
    have hc:((i:Int) < (qs.length:Int)):=by omega
    have hq4:=hq _ (gM hlt)
    have h3:=zNF P k x qs[i] hq4 hb hs hR x.Body.length 0 o (Nat.zero_add _) (by omega)
    rw [nZ,List.drop_zero] at h3
    simp only [hc,dT,if_true,yJ hlt,oB,oS,implPoint _ (show qs[i].length ≤ 1048576 by omega),h3]
    rw [wD (by omega),gC hlt,List.all_cons,List.flatMap_cons,ptOk]
    cases ptB qs[i] with
    | false=>rfl
    | true =>
      simp only [bT,bF,if_false,Bool.true_and]
      cases x.Body.all fun s=>stOk P.Arrays s qs[i] with
      | false=>rfl
      | true =>
        simp only [if_true,oS,Bool.true_and]
        rw [ih (i + 1) _ (by omega) (by rw [lA,zFa]; omega),List.append_assoc]
def partI (k:Int) (x:zN):List zL:=(nestPts x.Nest).1.flatMap fun q=>instR k q 0 x.Body.length
theorem zJ5 (k:Int) (b:Nat):∀ qs:List (List Int),(qs.flatMap fun q=>instR k q 0 b).length=qs.length * b
  | []=>by simp
  | q::qs=>by rw [List.flatMap_cons,lA,zFa,zJ5 k b qs,List.length_cons,Nat.succ_mul]; omega
theorem zIK (k:Int) (x:zN):(partI k x).length=(nestPts x.Nest).1.length * x.Body.length:=zJ5 _ _ _
theorem zBo {x:zN} (h:bodyB x=true):1 ≤ x.Body.length∧x.Body.length ≤ 4∧∀ s ∈ x.Body,stmtB s (x.Nest.length:Int)=true:=by
  simp only [bodyB,bA,decide_eq_true_eq] at h;exact ⟨h.1.1,h.1.2,List.all_eq_true.1 h.2⟩
theorem zHX (k:Int) {A:List zF}{x:zN} (h:partB A x=true):(partI k x).length ≤ 480:=by
  simp only [partB,bA] at h;obtain ⟨h1,h2,_⟩:=zBo h.1.2;have:=(zCg (nest:=x.Nest)).1;rw [zIK];exact Nat.mul_le_mul this h2
def gP (P:zD) (i:Nat):zN:=P.Parts.getD i ⟨[],[]⟩
theorem zNH (P:zD) (hP:P.Parts.length ≤ 4) (hb:∀ x ∈ P.Parts,BP x) (hR:RV P.Arrays) :
    ∀ (j i:Nat) (o:List zL),i + j=P.Parts.length→o.length ≤ 480 * i→vG P o (i:Int)=some (if (List.range' i j).all (fun i=>partB P.Arrays (gP P i)) then .done (o ++ (List.range' i j).flatMap fun (i:Nat)=>partI (i:Int) (gP P i)) else .ret ([],false)):=by
  intro j
  induction j with
  | zero =>
    intro i o hi ho
    rw [vG]
    have:¬((i:Int) < (P.Parts.length:Int)):=by omega
    simp only [this,dF,bF,if_false]
    simp
  | succ j ih =>
    intro i o hi ho
    rw [vG]
    have hlt:i < P.Parts.length:=by omega
    have hc:((i:Int) < (P.Parts.length:Int)):=by omega
    obtain ⟨b1,b2,b3⟩:=hb _ (gM hlt)
    have hg:gP P i=P.Parts[i]:=by simp [gP,hlt]
    have hcs:=zI9 (f:=fun x0=>vM x0 P.Parts[i]) (p:=fun s=>!(stmtB s (P.Parts[i].Nest.length:Int))) P.Parts[i].Body (fun s hs=>by
        unfold vM
        rw [implStmt s _ (b3 s hs)]; rfl) (by omega)
    simp only [hc,dT,if_true,yJ hlt,oB,oS,implPoints _ b1,mD,len14,hcs,oP,id]
    rw [wD (by omega),List.range'_succ,List.all_cons,List.flatMap_cons,hg]
    have hnl:=zCg (nest:=P.Parts[i].Nest)
    cases hn:(nestPts P.Parts[i].Nest).2 with
    | false=>simp [partB,hn]
    | true =>
      cases hb4:(decide (1 ≤ P.Parts[i].Body.length) && decide (P.Parts[i].Body.length ≤ 4)) with
      | false=>simp [partB,bodyB,hb4]
      | true =>
        have hany:(P.Parts[i].Body.any fun s=>!(stmtB s (P.Parts[i].Nest.length:Int)))=!(P.Parts[i].Body.all fun s=>stmtB s (P.Parts[i].Nest.length:Int)):=by
          rw [Bool.eq_iff_iff]; simp
        simp only [bT,bF,if_false,oS,hany]
        cases hall:P.Parts[i].Body.all fun s=>stmtB s (P.Parts[i].Nest.length:Int) with
        | false=>simp [partB,bodyB,hall]
        | true =>
          have hbb:bodyB P.Parts[i]=true:=by rw [bodyB,hb4,hall]; rfl
          obtain ⟨q1,q2,q3⟩:=zBo hbb
          have h2:=zNG P (i:Int) P.Parts[i] (nestPts P.Parts[i].Nest).1 hnl.2 hnl.1 q2 q3 hR _ 0 o (Nat.zero_add _) (by have:=hnl.1; omega)
          rw [nZ,List.drop_zero] at h2
          simp only [bT,bF,if_false,h2]
          have hpB:partB P.Arrays P.Parts[i]=(nestPts P.Parts[i].Nest).1.all (ptOk P.Arrays P.Parts[i]):=by rw [partB,hn,hbb]; rfl
          rw [hpB]
          cases hpt:(nestPts P.Parts[i].Nest).1.all (ptOk P.Arrays P.Parts[i]) with
          | false=>simp
          | true =>
            have hle:=zHX (i:Int) (A:=P.Arrays) (x:=P.Parts[i]) (by rw [hpB,hpt])
            simp only [if_true,oS,Bool.true_and]
            rw [show (o ++ (nestPts P.Parts[i].Nest).1.flatMap fun q=>instR (i:Int) q 0 P.Parts[i].Body.length)=o ++ partI (i:Int) P.Parts[i] from rfl]
            rw [ih (i + 1) _ (by omega) (by rw [lA]; omega),List.append_assoc]
def BG (P:zD):Prop:=BR P.Arrays∧P.Parts.length ≤ 100000∧∀ x ∈ P.Parts,BP x
def progB (P:zD):Bool:=arrB P.Arrays && decide (P.Parts.length ≤ 4) && (List.range' 0 P.Parts.length).all fun i=>partB P.Arrays (gP P i)
def progI (P:zD):List zL:=(List.range' 0 P.Parts.length).flatMap fun (i:Nat)=>partI (i:Int) (gP P i)
def validP (P:zD):Bool:=progB P && decide ((progI P).length ≤ 120)
theorem implInstances (P:zD) (h:BG P):qG P=some (if progB P then (progI P,decide ((progI P).length ≤ 120)) else ([],false)):=by
  obtain ⟨h1,h2,h3⟩:=h;unfold qG progB;rw [implArrays _ h1];cases ha:arrB P.Arrays with
  | false=>simp
  | true =>
    by_cases h4:P.Parts.length ≤ 4
    · have e:¬((P.Parts.length:Int) > 4):=by omega
      have hl:=zNH P h4 h3 (RV.of h1 ha) _ 0 [] (Nat.zero_add _) (by simp);rw [nZ,List.nil_append] at hl;simp only [bT,bF,if_false,e,dF,oP,oB,oS,hl,h4,dT,Bool.true_and];cases hA:(List.range' 0 P.Parts.length).all fun i=>partB P.Arrays (gP P i) with
      | false=>simp
      | true =>
        simp only [if_true,progI]
        congr 2
        simp; omega
    · have e:((P.Parts.length:Int) > 4):=by omega
      simp [e,h4]
theorem zIL {R:Type}{r0:R}{n:Nat}{f:Int→Option (Out Unit R)}{P:Nat→Bool} (step:∀ i,i < n→f (i:Int)=if P i then f ((i + 1:Nat):Int) else some (.ret r0)) (fin:f (n:Int)=some (.done ())):f 0=some (if (List.range n).all P then .done () else .ret r0):=by
  have key:∀ j i,i + j=n→f (i:Int)=some (if (List.range' i j).all P then .done () else .ret r0):=by
    intro j
    induction j with
    | zero=>intro i hi; rw [show i=n by omega,fin]; rfl
    | succ j ih =>
      intro i hi;rw [step i (by omega),List.range'_succ,List.all_cons];cases hP:P i with
      | false=>simp
      | true=>simp only [if_true,Bool.true_and]; exact ih (i + 1) (by omega)
  have:=key n 0 (by omega);rw [List.range_eq_range'];exact this
theorem zJ6 (A:List zF) (x:zN) (qs:List (List Int)) (hq:∀ q ∈ qs,q.length ≤ 4) (hql:qs.length ≤ 120) (i:Nat) (hi:i < x.Body.length) (hs:stmtB x.Body[i] (x.Nest.length:Int)=true) (hbs:BS x.Body[i]) (hR:RV A) :
    uW A x qs (i:Int) 0=some (if qs.all (fun q=>stOk A x.Body[i] q && ptB q) then .done () else .ret (0,false)):=by
  have hl:=zIL (r0:=((0:Int),false)) (n:=qs.length) (f:=uW A x qs (i:Int)) (P:=fun k=>stOk A x.Body[i] (qs.getD k []) && ptB (qs.getD k [])) (fun k hk=>by
      rw [uW]
      have h1:((k:Int) < (qs.length:Int)):=by omega
      have hg:qs.getD k []=qs[k]:=by simp [hk]
      have hk4:=hq _ (gM hk)
      simp only [h1,dT,if_true,yJ hi,yJ hk,oB,oS,specCells A _ qs[k] hs hbs hk4 hR,specPoint _ (show qs[k].length ≤ 1048576 by omega),hg]
      rw [wD (by omega)]
      cases stOk A x.Body[i] qs[k] with
      | false=>simp
      | true=>cases ptB qs[k] <;> simp) (by
      rw [uW]; simp)
  rw [hl,dC qs (fun q=>stOk A x.Body[i] q && ptB q)]
def EXz:zH:=zH.mk 0 0 (zA.mk [] 0) (zJ.mk ⟨[]⟩ []) []
theorem zJ7 (A:List zF) (x:zN) (hx:BP x) (qs:List (List Int)) (hq:∀ q ∈ qs,q.length ≤ 4) (hql:qs.length ≤ 120) (hR:RV A) :
    uX A x qs 0=some (if x.Body.all (fun s=>stmtB s (x.Nest.length:Int) && qs.all (fun q=>stOk A s q && ptB q)) then .done () else .ret (0,false)):=by
  obtain ⟨b1,b2,b3⟩:=hx
  have hl:=zIL (r0:=((0:Int),false)) (n:=x.Body.length) (f:=uX A x qs) (P:=fun i=>(fun s=>stmtB s (x.Nest.length:Int) && qs.all (fun q=>stOk A s q && ptB q)) (x.Body.getD i ⟨⟨⟨[]⟩,[]⟩,EXz⟩)) (fun i hi=>by
      rw [uX]
      have h1:((i:Int) < (x.Body.length:Int)):=by omega
      have hg:x.Body.getD i ⟨⟨⟨[]⟩,[]⟩,EXz⟩=x.Body[i]:=by simp [hi]
      have hbs:=b3 _ (gM hi)
      simp only [h1,dT,if_true,yJ hi,oB,oS,specStmt _ _ hbs,hg]
      rw [wD (by omega)]
      cases hst:stmtB x.Body[i] (x.Nest.length:Int) with
      | false=>simp
      | true =>
        simp only [bT,bF,if_false,zJ6 A x qs hq hql i hi hst hbs hR,Bool.true_and]
        cases qs.all (fun q=>stOk A x.Body[i] q && ptB q) <;> simp) (by
      rw [uX]; simp)
  rw [hl,dC x.Body (fun s=>stmtB s (x.Nest.length:Int) && qs.all (fun q=>stOk A s q && ptB q))]
theorem zMJ {A:List zF}{x:zN}{qs:List (List Int)} (h1:1 ≤ x.Body.length) :
    (x.Body.all (fun s=>stmtB s (x.Nest.length:Int) && qs.all (fun q=>stOk A s q && ptB q)))=((x.Body.all fun s=>stmtB s (x.Nest.length:Int)) && qs.all (ptOk A x)):=by
  rw [Bool.eq_iff_iff,bA,List.all_eq_true,List.all_eq_true,List.all_eq_true]
  constructor
  · intro h
    refine ⟨fun s hs=>((bA _ _).mp (h s hs)).1,fun q hq=>?_⟩
    have hall:∀ s ∈ x.Body,stOk A s q=true∧ptB q=true:=fun s hs=>by
      have:=((bA _ _).mp (h s hs)).2
      have:=List.all_eq_true.1 this q hq
      rwa [bA] at this
    rw [ptOk,bA,List.all_eq_true]
    exact ⟨(hall x.Body[0] (gM (by omega))).2,fun s hs=>(hall s hs).1⟩
  · rintro ⟨h2,h3⟩ s hs
    rw [bA,List.all_eq_true]
    refine ⟨h2 s hs,fun q hq=>?_⟩
    have:=h3 q hq
    rw [ptOk,bA,List.all_eq_true] at this
    rw [bA]
    exact ⟨this.2 s hs,this.1⟩
theorem specPart (A:List zF) (x:zN) (hx:BP x) (hR:RV A):oW A x=some (if partB A x then (((nestPts x.Nest).1.length * x.Body.length:Nat):Int) else 0,partB A x):=by
  have hnl:=zCg (nest:=x.Nest);have hl:=zJ7 A x hx (nestPts x.Nest).1 hnl.2 hnl.1 hR;obtain ⟨b1,b2,b3⟩:=hx;unfold oW partB;rw [specPoints _ b1];cases hn:(nestPts x.Nest).2 with
  | false=>simp [hn]
  | true =>
    by_cases q1:1 ≤ x.Body.length
    · have q1':¬((x.Body.length:Int) < 1):=by omega
      by_cases q2:x.Body.length ≤ 4
      · have q2':¬((x.Body.length:Int) > 4):=by omega
        have hm:(nestPts x.Nest).1.length * x.Body.length ≤ 120 * 4:=Nat.mul_le_mul hnl.1 q2;have hW:W (((nestPts x.Nest).1.length:Int) * (x.Body.length:Int))=(((nestPts x.Nest).1.length * x.Body.length:Nat):Int):=by
          rw [← Int.natCast_mul]; exact rH (by omega) (by omega)
        have hb:bodyB x=x.Body.all fun s=>stmtB s (x.Nest.length:Int):=by simp [bodyB,q1,q2]
        have hsw:=zMJ (A:=A) (qs:=(nestPts x.Nest).1) q1;rw [hsw] at hl;have hpt:((nestPts x.Nest).1.all fun q=>ptB q && x.Body.all fun s=>stOk A s q)=(nestPts x.Nest).1.all (ptOk A x):=rfl;simp only [hn,bT,bF,if_false,q1',q2',dF,oP,oB,oS,hl,hb,hpt,hW,Bool.true_and];cases ((x.Body.all fun s=>stmtB s (x.Nest.length:Int)) && (nestPts x.Nest).1.all (ptOk A x)) <;> simp
      · have q2':((x.Body.length:Int) > 4):=by omega
        have hb:bodyB x=false:=by simp [bodyB,q2]
        simp [hn,q1',q2',hb]
    · have q1':((x.Body.length:Int) < 1):=by omega
      have hb:bodyB x=false:=by simp [bodyB,q1]
      simp [hn,q1',hb]
theorem zHY (P:zD) (hP:P.Parts.length ≤ 4) (hb:∀ x ∈ P.Parts,BP x) (hR:RV P.Arrays) :
    ∀ (j i t:Nat),i + j=P.Parts.length→t ≤ 480 * i→wF P (t:Int) (i:Int)=some (if (List.range' i j).all (fun i=>partB P.Arrays (gP P i)) then .done (((t + ((List.range' i j).flatMap fun (i:Nat)=>partI (i:Int) (gP P i)).length:Nat)):Int) else .ret false):=by
  intro j
  induction j with
  | zero =>
    intro i t hi ht
    rw [wF]
    have:¬((i:Int) < (P.Parts.length:Int)):=by omega
    simp only [this,dF,bF,if_false]
    simp
  | succ j ih =>
    intro i t hi ht
    rw [wF]
    have hlt:i < P.Parts.length:=by omega
    have hc:((i:Int) < (P.Parts.length:Int)):=by omega
    have hg:gP P i=P.Parts[i]:=by simp [gP,hlt]
    simp only [hc,dT,if_true,yJ hlt,oB,oS,specPart P.Arrays _ (hb _ (gM hlt)) hR]
    rw [wD (by omega),List.range'_succ,List.all_cons,List.flatMap_cons,hg]
    cases hp:partB P.Arrays P.Parts[i] with
    | false=>simp
    | true =>
      have hle:=zHX (i:Int) hp
      have hpl:=zIK (i:Int) P.Parts[i]
      rw [hpl] at hle
      have hW:W ((t:Int) + (((nestPts P.Parts[i].Nest).1.length * P.Parts[i].Body.length:Nat):Int))=((t + (nestPts P.Parts[i].Nest).1.length * P.Parts[i].Body.length:Nat):Int):=by
        rw [rH (by omega) (by omega)]; omega
      simp only [if_true,bT,bF,if_false,Bool.true_and,hW]
      rw [ih (i + 1) _ (by omega) (by omega),lA,hpl,Nat.add_assoc]
theorem specValidP (P:zD) (h:BG P):vR P=some (validP P):=by
  obtain ⟨h1,h2,h3⟩:=h;unfold vR validP progB;rw [specArrays _ h1];cases ha:arrB P.Arrays with
  | false=>simp
  | true =>
    by_cases h4:P.Parts.length ≤ 4
    · have e:¬((P.Parts.length:Int) > 4):=by omega
      have hl:=zHY P h4 h3 (RV.of h1 ha) _ 0 0 (Nat.zero_add _) (by simp);rw [nZ,Nat.zero_add] at hl;simp only [bT,bF,if_false,e,dF,oP,oB,oS,hl,h4,dT,Bool.true_and];cases hA:(List.range' 0 P.Parts.length).all fun i=>partB P.Arrays (gP P i) with
      | false=>simp
      | true =>
        simp only [if_true,progI,Bool.true_and]
        congr 1
        simp; omega
    · have e:((P.Parts.length:Int) > 4):=by omega
      simp [e,h4]
end Go.LN
namespace Go.LN
theorem dE {α:Type}{l:List α}{f:Int→List α→Option (List α)} (step:∀ (i:Nat) (h:i < l.length) (o:List α),o.length=i→f (i:Int) o=f ((i + 1:Nat):Int) (o ++ [l[i]])) (fin:∀ o,f (l.length:Int) o=some o):f 0 []=some l:=by
  have key:∀ j i,i + j=l.length→f (i:Int) (l.take i)=some l:=by
    intro j
    induction j with
    | zero =>
      intro i hi;rw [show i=l.length by omega,fin,List.take_of_length_le (Nat.le_refl _)]
    | succ j ih =>
      intro i hi;have hlt:i < l.length:=by omega
      have:=ih (i + 1) (by omega);rw [List.take_add_one,List.getElem?_eq_getElem hlt,Option.toList_some] at this;rw [step i hlt _ (by rw [List.length_take]; omega)];exact this
  exact key _ 0 (Nat.zero_add _)
theorem copyExpr:∀ (m:Nat) (e:zH),BE m e→qZ e=some e
  | m,e,h=>by
    obtain ⟨h1,h2,h3⟩:=h.own
    rw [qZ]
    have hl:=dE (l:=e.Kids) (f:=fun i o=>uC e i o) (fun i hi o ho=>by
        show uC e (i:Int) o=_
        rw [uC]
        have k1:((i:Int) < (e.Kids.length:Int)):=by omega
        obtain ⟨m',hm,hm'⟩:=h.kid (gM hi)
        have happ:app 112 o [e.Kids[i]]=some (o ++ [e.Kids[i]]):=rS (by simp; omega)
        have hr:=copyExpr m' e.Kids[i] hm'
        simp only [k1,dT,if_true,yJ hi,oB,oS,same,hr,happ]
        rw [wD (by omega)]) (fun o=>by
        show uC e (e.Kids.length:Int) o=_
        rw [uC]; simp)
    simp only [specCopyAff _ h1,specCopyAcc _ h2,oB,oS,same]
    rw [show uC e 0 []=some e.Kids from hl]
    clear hl h h1 h2 h3
    cases e; rfl
theorem copyStmt (s:zP) (h:BS s):gA s=some s:=by
  obtain ⟨h1,m,h2⟩:=h;unfold gA;rw [specCopyAcc _ h1,copyExpr m _ h2];rfl
theorem copyNest (nest:List zE) (h:BN nest):nW nest=some nest:=by
  obtain ⟨h1,h2⟩:=h;unfold nW;have hl:=dE (l:=nest) (f:=fun i o=>uS nest o i) (fun i hi o ho=>by
      show uS nest o (i:Int)=_;rw [uS];have k1:((i:Int) < (nest.length:Int)):=by omega
      obtain ⟨⟨q1,q2⟩,q3,q4⟩:=h2 _ (gM hi);have happ:app 48 o [nest[i]]=some (o ++ [nest[i]]):=rS (by simp; omega);have hlo:=dE (l:=nest[i].Lo) (f:=fun k o=>sU nest (i:Int) k o) (fun k hk o ho=>by
          show sU nest (i:Int) (k:Int) o=_;rw [sU];have k2:((k:Int) < (nest[i].Lo.length:Int)):=by omega
          have hp:app 32 o [nest[i].Lo[k]]=some (o ++ [nest[i].Lo[k]]):=rS (by simp; omega);have ha:=q2 _ (gM hk);have hpn:app 8 ([]:List Int) nest[i].Lo[k].Coefs=some nest[i].Lo[k].Coefs:=zAL _ (by unfold BA at ha; omega);simp only [yJ hi,k2,dT,if_true,yJ hk,oB,oS,hpn,hp];rw [wD (by omega)]) (fun o=>by
          show sU nest (i:Int) (nest[i].Lo.length:Int) o=_;rw [sU]; simp [yJ hi])
      have hhi:=dE (l:=nest[i].Hi) (f:=fun k o=>sV nest (i:Int) k o) (fun k hk o ho=>by
          show sV nest (i:Int) (k:Int) o=_;rw [sV];have k2:((k:Int) < (nest[i].Hi.length:Int)):=by omega
          have hp:app 32 o [nest[i].Hi[k]]=some (o ++ [nest[i].Hi[k]]):=rS (by simp; omega);have ha:=q4 _ (gM hk);have hpn:app 8 ([]:List Int) nest[i].Hi[k].Coefs=some nest[i].Hi[k].Coefs:=zAL _ (by unfold BA at ha; omega);simp only [yJ hi,k2,dT,if_true,yJ hk,oB,oS,hpn,hp];rw [wD (by omega)]) (fun o=>by
          show sV nest (i:Int) (nest[i].Hi.length:Int) o=_;rw [sV]; simp [yJ hi])
      simp only [k1,dT,if_true,oB,oS,hlo,hhi,happ];rw [wD (by omega)]) (fun o=>by
      show uS nest o (nest.length:Int)=_;rw [uS]; simp)
  rw [hl]; rfl
theorem copyProg (P:zD) (h:BG P):qX P=some P:=by
  obtain ⟨⟨h1,h1'⟩,h2,h3⟩:=h;unfold qX;have ha:=dE (l:=P.Arrays) (f:=fun i o=>sW P i o) (fun i hi o ho=>by
      show sW P (i:Int) o=_;rw [sW];have k1:((i:Int) < (P.Arrays.length:Int)):=by omega
      have hd:=h1' _ (gM hi);have happ:app 40 o [P.Arrays[i]]=some (o ++ [P.Arrays[i]]):=rS (by simp; omega);have hpn:app 8 ([]:List Int) P.Arrays[i].Dims=some P.Arrays[i].Dims:=zAL _ (by omega);simp only [k1,dT,if_true,yJ hi,oB,oS,hpn,happ];rw [wD (by omega)]) (fun o=>by
      show sW P (P.Arrays.length:Int) o=_;rw [sW]; simp)
  have hp:=dE (l:=P.Parts) (f:=fun i o=>uT P i o) (fun i hi o ho=>by
      show uT P (i:Int) o=_;rw [uT];have k1:((i:Int) < (P.Parts.length:Int)):=by omega
      obtain ⟨b1,b2,b3⟩:=h3 _ (gM hi);have happ:app 48 o [P.Parts[i]]=some (o ++ [P.Parts[i]]):=rS (by simp; omega);have hb:=dE (l:=P.Parts[i].Body) (f:=fun k o=>sX P (i:Int) k o) (fun k hk o ho=>by
          show sX P (i:Int) (k:Int) o=_;rw [sX];have k2:((k:Int) < (P.Parts[i].Body.length:Int)):=by omega
          have hp:app 152 o [P.Parts[i].Body[k]]=some (o ++ [P.Parts[i].Body[k]]):=rS (by simp; omega);simp only [yJ hi,k2,dT,if_true,yJ hk,oB,oS,copyStmt _ (b3 _ (gM hk)),hp];rw [wD (by omega)]) (fun o=>by
          show sX P (i:Int) (P.Parts[i].Body.length:Int) o=_;rw [sX]; simp [yJ hi])
      simp only [k1,dT,if_true,yJ hi,oB,oS,copyNest _ b1,hb,happ];rw [wD (by omega)]) (fun o=>by
      show uT P (P.Parts.length:Int) o=_;rw [uT]; simp)
  rw [ha,hp]; rfl
end Go.LN
namespace Go.LN
theorem BE.up1:∀ {n:Nat}{e:zH},BE n e→BE (n + 1) e
  | 0,e,⟨h1,h2,h3⟩=>⟨h1,h2,by rw [h3]; simp,by rw [h3]; intro k hk; cases hk⟩
  | n + 1,e,⟨h1,h2,h3,h4⟩=>⟨h1,h2,h3,fun k hk=>BE.up1 (h4 k hk)⟩
theorem BE.up {n m:Nat}{e:zH} (h:BE n e) (hm:n ≤ m):BE m e:=by
  obtain ⟨k,rfl⟩:=Nat.exists_eq_add_of_le hm
  induction k with
  | zero=>exact h
  | succ k ih=>exact BE.up1 (ih (by omega))
def QL (q:Nat) (l:List zA):Prop:=l.length ≤ q∧∀ a ∈ l,BA a
def QN (q:Nat) (nest:List zE):Prop:=nest.length ≤ 2000∧∀ x ∈ nest,QL q x.Lo∧QL q x.Hi
def QS (q:Nat) (s:zP):Prop:=QL q s.Write.Subs∧BA s.Value.Index∧BL s.Value.Read.Subs∧s.Value.Kids.length ≤ q∧∀ k ∈ s.Value.Kids,BE 6 k
theorem QL.up {q r:Nat}{l:List zA} (h:QL q l) (hq:q ≤ r):QL r l:=⟨Nat.le_trans h.1 hq,h.2⟩
theorem QL.bl {q:Nat}{l:List zA} (h:QL q l) (hq:q ≤ 1000):BL l:=⟨Nat.le_trans h.1 hq,h.2⟩
theorem QL.app {q k:Nat}{l m:List zA} (h:QL q l) (hm:QL k m):QL (q + k) (l ++ m):=by
  refine ⟨by rw [lA]; exact Nat.add_le_add h.1 hm.1,fun a ha=>?_⟩;rcases List.mem_append.1 ha with ha | ha
  · exact h.2 a ha
  · exact hm.2 a ha
theorem QL.nil {q:Nat}:QL q []:=⟨Nat.zero_le _,fun _ h=>by cases h⟩
theorem QL.one {a:zA} (h:BA a):QL 1 [a]:=⟨Nat.le_refl _,fun _ h'=>List.mem_singleton.1 h' ▸ h⟩
theorem QL.two {a b:zA} (h:BA a) (h2:BA b):QL 2 [a,b]:=QL.app (QL.one h) (QL.one h2)
theorem QN.up {q r:Nat}{l:List zE} (h:QN q l) (hq:q ≤ r):QN r l:=⟨h.1,fun x hx=>⟨(h.2 x hx).1.up hq,(h.2 x hx).2.up hq⟩⟩
theorem QN.bn {q:Nat}{l:List zE} (h:QN q l) (hq:q ≤ 1000):BN l:=⟨by have:=h.1; omega,fun x hx=>⟨(h.2 x hx).1.bl hq,(h.2 x hx).2.bl hq⟩⟩
theorem QN.set {q:Nat}{l:List zE} (h:QN q l) {x:zE} (hx:QL q x.Lo∧QL q x.Hi) (k:Nat):QN q (l.set k x):=⟨by rw [List.length_set]; exact h.1,zEj h.2 hx k⟩
theorem QS.up {q r:Nat}{s:zP} (h:QS q s) (hq:q ≤ r):QS r s:=⟨h.1.up hq,h.2.1,h.2.2.1,Nat.le_trans h.2.2.2.1 hq,h.2.2.2.2⟩
theorem QS.bs {q:Nat}{s:zP} (h:QS q s) (hq:q ≤ 1000):BS s:=⟨h.1.bl hq,7,h.2.1,h.2.2.1,by have:=h.2.2.2.1; omega,h.2.2.2.2⟩
theorem zIM {a:zA} (h:a.Coefs.length=4):BA a:=by unfold BA; omega
theorem zKd (q:Nat):∀ (j:Nat) (out:List zE),5 ≤ out.length + j→1 ≤ out.length→QN q out→Ok (qM out) (QN q)
  | 0,out,hj,h1,h=>by
    rw [qM]
    refine Ok.ite_dec (fun hc=>absurd hc (by omega)) fun _=>Ok.pure h
  | j + 1,out,hj,h1,h=>by
    rw [qM]
    refine Ok.ite_dec (fun hc=>?_) fun _=>Ok.pure h
    refine Ok.idx (by omega) (by omega) fun x hx _=>Ok.app (by simp; omega) ?_
    refine zKd q j _ (by rw [lA]; simp; omega) (by rw [lA]; omega) ⟨by rw [lA]; simp; omega,fun y hy=>?_⟩
    rcases List.mem_append.1 hy with hy | hy
    · exact h.2 y hy
    · rw [List.mem_singleton.1 hy]; exact h.2 x hx
theorem mut2 (q:Nat) (hq:q ≤ 300) (r:zM) (nest:List zE) (h:QN q nest) (h0:0 ≤ r.p) (h1:r.p ≤ 900000000):Ok (nI r nest) (fun y=>QN (q + 2) y.1∧0 ≤ y.2.p∧y.2.p ≤ r.p + 2):=by
  have hup:=h.up (show q ≤ q + 2 by omega);unfold nI;rw [copyNest nest (h.bn (by omega))];refine Ok.bind_some (Ok.ite_beq (fun _=>Ok.pure ⟨hup,h0,by dsimp only; omega⟩) fun hne=>?_);have hpos:0 < nest.length:=by omega
  have hlen:=h.1;have hW:W ((nest.length:Int) - 1)=((nest.length - 1:Nat):Int):=by rw [rH (by omega) (by omega)]; omega
  refine Ok.call (fP r 40) ⟨h0,by omega⟩ fun y2 s g1 g2 g3=>?_;refine Ok.ite_beq (fun _=>?_) fun _=>Ok.ite_beq (fun _=>?_) fun _=>Ok.ite_beq (fun _=>?_) fun _=>Ok.ite_beq (fun _=>?_) fun _=>Ok.ite_beq (fun _=>?_) fun _=>?_
  · refine Ok.idx (by omega) (by omega) fun x hx _=>Ok.call (fP s 2) ⟨by omega,by omega⟩ fun y5 s2 k1 k2 k3=>Ok.call (zCn y5) ⟨k1,by omega⟩ fun a c1 c2=>?_;have hxx:=h.2 x hx;refine Ok.app (by have:=hxx.1.1; simp; omega) (Ok.pure ⟨QN.set (x:=⟨x.Lo ++ [a],x.Hi⟩) hup ⟨(hxx.1.app (QL.one (zIM c1))).up (show q + 1 ≤ q + 2 by omega),hxx.2.up (show q ≤ q + 2 by omega)⟩ _,by dsimp only; omega,by dsimp only; omega⟩)
  · rw [hW];refine Ok.idx (by omega) (by omega) fun x hx _=>?_;have hxx:=h.2 x hx;exact Ok.pure ⟨QN.set (x:=⟨x.Lo,[]⟩) hup ⟨hxx.1.up (show q ≤ q + 2 by omega),QL.nil⟩ _,by dsimp only; omega,by dsimp only; omega⟩
  · rw [hW];refine Ok.idx (by omega) (by omega) fun x hx _=>Ok.call (kD 1) trivial (Ok.call (kD 2) trivial ?_);have hxx:=h.2 x hx;exact Ok.app (by have:=hxx.2.1; simp; omega) (Ok.pure ⟨QN.set (x:=⟨x.Lo,x.Hi ++ [⟨[0,0,0,0],1⟩,⟨[0,0,0,0],2⟩]⟩) hup ⟨hxx.1.up (show q ≤ q + 2 by omega),hxx.2.app (QL.two (zIM rfl) (zIM rfl))⟩ _,by dsimp only; omega,by dsimp only; omega⟩)
  · refine Ok.call (kD 99) trivial (Ok.idx (by omega) (by omega) fun x hx _=>?_);have hxx:=h.2 x hx;exact Ok.pure ⟨QN.set (x:=⟨x.Lo,[⟨[0,0,0,0],99⟩]⟩) hup ⟨hxx.1.up (show q ≤ q + 2 by omega),(QL.one (zIM rfl)).up (show 1 ≤ q + 2 by omega)⟩ _,by dsimp only; omega,by dsimp only; omega⟩
  · refine Ok.bind (zKd q 5 nest (by omega) hpos h) fun z hz=>Ok.pure ⟨hz.up (by omega),by dsimp only; omega,by dsimp only; omega⟩
  · exact Ok.pure ⟨hup,by dsimp only; omega,by dsimp only; omega⟩
theorem mut3 (q:Nat) (hq:q ≤ 300) (r:zM) (s:zP) (h:QS q s) (h0:0 ≤ r.p) (h1:r.p ≤ 900000000):Ok (sR r s) (fun y=>QS (q + 2) y.1∧0 ≤ y.2.p∧y.2.p ≤ r.p + 2):=by
  obtain ⟨w1,w2,w3,w4,w5⟩:=h.up (show q ≤ q + 2 by omega);obtain ⟨v1,_,_,v4,_⟩:=id h;have v11:=v1.1;unfold sR;rw [copyStmt s (h.bs (by omega))];refine Ok.bind_some (Ok.call (fP r 40) ⟨h0,by omega⟩ fun y2 y3 g1 g2 g3=>?_);have fin:∀ (o:Str×List zA×Int×Int×List zH×zM),(QL (q + 2) o.2.1∧(o.2.2.2.2.1.length ≤ q + 2∧∀ k ∈ o.2.2.2.2.1,BE 6 k)∧0 ≤ o.2.2.2.2.2.p∧o.2.2.2.2.2.p ≤ r.p + 2)→QS (q + 2) (zP.mk (zJ.mk o.1 o.2.1) (zH.mk o.2.2.1 o.2.2.2.1 s.Value.Index s.Value.Read o.2.2.2.2.1))∧0 ≤ o.2.2.2.2.2.p∧o.2.2.2.2.2.p ≤ r.p + 2 :=
    fun o ⟨a,b,c⟩=>⟨⟨a,w2,w3,b.1,b.2⟩,c⟩
  refine Ok.bind (φ:=fun o:Str×List zA×Int×Int×List zH×zM=>QL (q + 2) o.2.1∧(o.2.2.2.2.1.length ≤ q + 2∧∀ k ∈ o.2.2.2.2.1,BE 6 k)∧0 ≤ o.2.2.2.2.2.p∧o.2.2.2.2.2.p ≤ r.p + 2) ?_ fun o ho=>by
    obtain ⟨o1,o2,o3,o4,o5,o6⟩:=o;exact Ok.pure (fin _ ho)
  refine Ok.ite_beq (fun _=>?_) fun _=>?_
  · exact Ok.call (zAK y3 _) ⟨by decide,by omega,by omega⟩ fun z t _ k3=>Ok.pure ⟨w1,⟨w4,w5⟩,by dsimp only; omega,by dsimp only; omega⟩
  refine Ok.bind (φ:=fun o:List zA×Int×Int×List zH×zM=>QL (q + 2) o.1∧(o.2.2.2.1.length ≤ q + 2∧∀ k ∈ o.2.2.2.1,BE 6 k)∧0 ≤ o.2.2.2.2.p∧o.2.2.2.2.p ≤ r.p + 2) ?_ fun o ho=>by
    obtain ⟨o2,o3,o4,o5,o6⟩:=o;exact Ok.pure ho
  refine Ok.ite_beq (fun _=>?_) fun _=>?_
  · exact Ok.call (zCn 3) (by omega) fun a c1 c2=>Ok.call dB trivial (Ok.app (by simp; omega) (Ok.pure ⟨v1.app (QL.two (zIM c1) (zIM rfl)),⟨w4,w5⟩,by dsimp only; omega,by dsimp only; omega⟩))
  refine Ok.bind (φ:=fun o:Int×Int×List zH×zM=>(o.2.2.1.length ≤ q + 2∧∀ k ∈ o.2.2.1,BE 6 k)∧0 ≤ o.2.2.2.p∧o.2.2.2.p ≤ r.p + 2) ?_ fun o ho=>by
    obtain ⟨o3,o4,o5,o6⟩:=o;exact Ok.pure ⟨w1,ho⟩
  refine Ok.ite_beq (fun _=>?_) fun _=>?_
  · exact Ok.call (vH y3 _) ⟨by decide,by omega,by omega,by decide⟩ fun z t _ _ k3=>Ok.pure ⟨⟨w4,w5⟩,by dsimp only; omega,by dsimp only; omega⟩
  refine Ok.bind (φ:=fun o:Int×List zH×zM=>(o.2.1.length ≤ q + 2∧∀ k ∈ o.2.1,BE 6 k)∧0 ≤ o.2.2.p∧o.2.2.p ≤ r.p + 2) ?_ fun o ho=>by
    obtain ⟨o4,o5,o6⟩:=o;exact Ok.pure ho
  refine Ok.ite_beq (fun _=>?_) fun _=>?_
  · exact Ok.call (vH y3 _) ⟨by decide,by omega,by omega,by decide⟩ fun z t _ _ k3=>Ok.pure ⟨⟨w4,w5⟩,by dsimp only; omega,by dsimp only; omega⟩
  refine Ok.bind (φ:=fun o:List zH=>o.length ≤ q + 2∧∀ k ∈ o,BE 6 k) ?_ fun o ho=>Ok.pure ⟨ho,by dsimp only; omega,by dsimp only; omega⟩;refine Ok.ite_beq (fun _=>?_) fun _=>Ok.pure ⟨w4,w5⟩;refine Ok.app (by show (_ + 1) * 112 ≤ _; omega) (Ok.pure ⟨by show (_ ++ _:List zH).length ≤ _; rw [lA]; show _ + 1 ≤ _; omega,fun k hk=>?_⟩);rcases List.mem_append.1 hk with hk | hk
  · exact w5 k hk
  · rw [List.mem_singleton.1 hk];exact BE.up (n:=0) ⟨Nat.zero_le _,⟨Nat.zero_le _,fun _ h=>by cases h⟩,rfl⟩ (by omega)
end Go.LN
namespace Go.LN
def DX (x:zN):Prop:=QN 100 x.Nest∧x.Body.length ≤ 1000∧∀ s ∈ x.Body,QS 100 s
def DP (P:zD):Prop:=(P.Arrays.length ≤ 1000∧∀ a ∈ P.Arrays,a.Dims.length ≤ 1000)∧P.Parts.length ≤ 1000∧∀ x ∈ P.Parts,DX x
theorem DX.bp {x:zN} (h:DX x):BP x:=⟨h.1.bn (by omega),by have:=h.2.1; omega,fun s hs=>(h.2.2 s hs).bs (by omega)⟩
theorem DP.bg {P:zD} (h:DP P):BG P:=⟨⟨by have:=h.1.1; omega,h.1.2⟩,by have:=h.2.1; omega,fun x hx=>(h.2.2 x hx).bp⟩
def PB (l:List zN):Prop:=l.length ≤ 1000∧∀ x ∈ l,BP x
theorem PB.set {l:List zN} (h:PB l) {x:zN} (hx:BP x) (k:Nat):PB (l.set k x):=⟨by rw [List.length_set]; exact h.1,zEj h.2 hx k⟩
def AR (l:List zF):Prop:=l.length ≤ 2000∧∀ a ∈ l,a.Dims.length ≤ 1000
def RD (s:zM):Prop:=0 ≤ s.p∧s.p ≤ 700001000
theorem mut4 (r:zM) (P:zD) (h:DP P) (h0:0 ≤ r.p) (h1:r.p ≤ 700000000):Ok (pP r P) (fun y=>(BG y.1∧AR y.1.Arrays)∧RD y.2):=by
  obtain ⟨⟨a1,a2⟩,p1,p2⟩:=id h;have hA:AR P.Arrays:=⟨by omega,a2⟩;have hP:PB P.Parts:=⟨p1,fun x hx=>(p2 x hx).bp⟩;have hW:0 < P.Parts.length→W ((P.Parts.length:Int) - 1)=((P.Parts.length - 1:Nat):Int):=fun hp=>by rw [rH (by omega) (by omega)]; omega
  unfold pP;rw [copyProg P h.bg];refine Ok.bind_some (Ok.call (fP r 60) ⟨h0,by omega⟩ fun y2 y3 g1 g2 g3=>?_);have hR:RD y3:=⟨by omega,by omega⟩;refine Ok.bind (φ:=fun o:List zF×List zN×zM=>AR o.1∧PB o.2.1∧RD o.2.2) ?_ fun o ho=>by
    obtain ⟨o1,o2,o3⟩:=o;exact Ok.pure ⟨⟨⟨⟨by have:=ho.1.1; dsimp only at this ⊢; omega,ho.1.2⟩,by have:=ho.2.1.1; dsimp only at this ⊢; omega,ho.2.1.2⟩,ho.1⟩,ho.2.2⟩
  refine Ok.ite_beq (fun _=>?_) fun _=>?_
  · refine Ok.call (zAK y3 _) ⟨by decide,by omega,by omega⟩ fun z t _ k3=>Ok.call (vH t _) ⟨by decide,by omega,by omega,by decide⟩ fun z2 t2 _ _ k4=>Ok.app (by show (_ + 1) * 40 ≤ _; omega) (Ok.pure ⟨⟨by show (_ ++ _:List zF).length ≤ _; rw [lA]; show _ + 1 ≤ _; omega,fun a ha=>?_⟩,hP,⟨by dsimp only; omega,by dsimp only; omega⟩⟩);rcases List.mem_append.1 ha with ha | ha
    · exact a2 a ha
    · rw [List.mem_singleton.1 ha]; show 1 ≤ 1000; omega
  refine Ok.bind (φ:=fun o:List zF×List zN×zM=>AR o.1∧PB o.2.1∧RD o.2.2) ?_ fun o ho=>by
    obtain ⟨o1,o2,o3⟩:=o;exact Ok.pure ho
  refine Ok.ite_beq (fun _=>?_) fun _=>?_
  · refine Ok.bind (φ:=fun o:List zF×zM=>AR o.1∧RD o.2) ?_ fun o ho=>by
      obtain ⟨o1,o3⟩:=o;exact Ok.pure ⟨ho.1,hP,ho.2⟩
    refine Ok.ite_dec (fun hc=>?_) fun _=>Ok.pure ⟨hA,hR⟩;refine Ok.call (vH y3 _) ⟨by decide,by omega,by omega,by decide⟩ fun z t _ _ k3=>Ok.idx (by omega) (by omega) fun x hx _=>Ok.bind_pure (Ok.pure ⟨⟨by show (List.set _ _ _).length ≤ _; rw [List.length_set]; exact hA.1,zEj hA.2 (show ([z]:List Int).length ≤ 1000 by simp) _⟩,⟨by dsimp only; omega,by dsimp only; omega⟩⟩)
  refine Ok.bind (φ:=fun o:List zN×zM=>PB o.1∧RD o.2) ?_ fun o ho=>by
    obtain ⟨o1,o3⟩:=o;exact Ok.pure ⟨hA,ho⟩
  refine Ok.ite_beq (fun _=>?_) fun _=>?_
  · refine Ok.bind (φ:=fun o:List zN×zM=>PB o.1∧RD o.2) ?_ fun o ho=>by
      obtain ⟨o1,o3⟩:=o;exact Ok.pure ho
    refine Ok.ite_dec (fun hc=>?_) fun _=>Ok.pure ⟨hP,hR⟩;refine Ok.idx (by omega) (by omega) fun x hx _=>?_;refine Ok.bind (mut2 100 (by omega) y3 x.Nest (p2 x hx).1 (by omega) (by omega)) fun q1 k1=>?_;obtain ⟨n1,s1⟩:=q1;obtain ⟨c1,c2,c3⟩:=k1;refine Ok.bind (mut2 (100 + 2) (by omega) s1 n1 c1 c2 (by dsimp only at c3; omega)) fun q2 k2=>?_;obtain ⟨n2,s2⟩:=q2;obtain ⟨d1,d2,d3⟩:=k2;refine Ok.bind (mut2 (100 + 2 + 2) (by omega) s2 n2 d1 d2 (by dsimp only at c3 d3; omega)) fun q3 k3=>?_;obtain ⟨n,s⟩:=q3;have hn:=k3.1;refine Ok.idx (by omega) (by omega) fun x7 hx7 _=>Ok.bind_pure (Ok.pure ⟨hP.set (x:=⟨n,x7.Body⟩) ⟨hn.bn (by omega),(p2 x7 hx7).bp.2.1,(p2 x7 hx7).bp.2.2⟩ _,⟨k3.2.1,by have:=k3.2.2; dsimp only at this c3 d3 ⊢; omega⟩⟩)
  refine Ok.bind (φ:=fun o:List zN×zM=>PB o.1∧RD o.2) ?_ fun o ho=>by
    obtain ⟨o1,o3⟩:=o;exact Ok.pure ho
  refine Ok.ite_beq (fun _=>?_) fun _=>?_
  · refine Ok.bind (φ:=fun b=>b=true→0 < P.Parts.length∧∀ x,P.Parts[P.Parts.length - 1]?=some x→0 < x.Body.length) ?_ fun b hb=>?_
    · refine Ok.ite_dec (fun hc=>?_) fun _=>Ok.pure (fun h=>by cases h);have hp:0 < P.Parts.length:=by omega
      rw [hW hp];refine Ok.idx (by omega) (by omega) fun x hx he=>Ok.pure fun hd=>⟨hp,fun x' hx'=>?_⟩;rw [iN] at he;rw [he] at hx';cases hx'
      have:=of_decide_eq_true hd;omega
    · refine Ok.bind (φ:=fun o:List zN×zM=>PB o.1∧RD o.2) ?_ fun o ho=>by
        obtain ⟨o1,o3⟩:=o;exact Ok.pure ho
      refine Ok.ite (fun hc=>?_) fun _=>Ok.pure ⟨hP,hR⟩;obtain ⟨hp,hbody⟩:=hb hc;rw [hW hp];refine Ok.idx (by omega) (by omega) fun x hx he=>?_;rw [iN] at he;have hb0:=hbody x he;have hdx:=p2 x hx;refine Ok.idx (by omega) (by omega) fun x0 hx0 _=>?_;refine Ok.bind (mut3 100 (by omega) y3 x0 (hdx.2.2 x0 hx0) (by omega) (by omega)) fun q1 k1=>?_;obtain ⟨n1,s1⟩:=q1;obtain ⟨c1,c2,c3⟩:=k1;refine Ok.bind (mut3 (100 + 2) (by omega) s1 n1 c1 c2 (by dsimp only at c3; omega)) fun q2 k2=>?_;obtain ⟨n2,s2⟩:=q2;obtain ⟨d1,d2,d3⟩:=k2;refine Ok.bind (mut3 (100 + 2 + 2) (by omega) s2 n2 d1 d2 (by dsimp only at c3 d3; omega)) fun q3 k3=>?_;obtain ⟨n,s⟩:=q3;have hn:=k3.1;refine Ok.bind_pure (Ok.pure ⟨hP.set (x:=⟨x.Nest,x.Body.set 0 n⟩) ⟨hdx.bp.1,by rw [List.length_set]; exact hdx.bp.2.1,zEj hdx.bp.2.2 (hn.bs (by omega)) _⟩ _,⟨k3.2.1,by have:=k3.2.2; dsimp only at this c3 d3 ⊢; omega⟩⟩)
  refine Ok.bind (φ:=fun o:List zN=>PB o) ?_ fun o ho=>Ok.pure ⟨ho,hR⟩;refine Ok.ite_beq (fun _=>?_) fun _=>Ok.pure hP;refine Ok.bind (φ:=fun o:List zN=>PB o) ?_ fun o ho=>Ok.pure ho;refine Ok.ite_dec (fun hc=>?_) fun _=>Ok.pure hP;have hp:0 < P.Parts.length:=by omega
  rw [hW hp];refine Ok.idx (by omega) (by omega) fun x hx he=>Ok.bind_pure (Ok.pure (hP.set (x:=⟨x.Nest,[]⟩) ⟨(p2 x hx).bp.1,by show 0 ≤ 100000; omega,fun _ h=>by cases h⟩ _))
theorem SE.be:∀ {n:Nat}{e:zH},SE n e→BE n e
  | 0,e,⟨h1,h2,h3⟩=>⟨by have:=h1.1; unfold BA; omega,⟨by have:=h2.2.1; omega,fun a ha=>by have:=(h2.2.2 a ha).1; unfold BA; omega⟩,h3⟩
  | n + 1,e,⟨h1,h2,h3,h4⟩=>⟨by have:=h1.1; unfold BA; omega,⟨by have:=h2.2.1; omega,fun a ha=>by have:=(h2.2.2 a ha).1; unfold BA; omega⟩,by omega,fun k hk=>SE.be (h4 k hk)⟩
theorem SS.qs {s:zP} (h:SS s):QS 100 s:=by
  obtain ⟨h1,h2⟩:=h;have hb:=SE.be h2;exact ⟨⟨h1.2.1,fun a ha=>by have:=(h1.2.2 a ha).1; unfold BA; omega⟩,hb.1,hb.2.1,by have:=h2.2.2.1; omega,fun k hk=>BE.up (n:=4) (m:=6) (hb.2.2.2 k hk) (by omega)⟩
theorem LL.ql {l:List zA} (h:LL l):QL 100 l:=⟨h.1,fun a ha=>by have:=(h.2 a ha).1; unfold BA; omega⟩
theorem SG.dp {P:zD} (h:SG 1000 P):DP P:=by
  obtain ⟨⟨h1,h2⟩,h3,h4⟩:=h;refine ⟨⟨h1,fun a ha=>by have:=(h2 a ha).2; omega⟩,h3,fun x hx=>?_⟩;obtain ⟨⟨k1,k2⟩,k3,k4⟩:=h4 x hx;exact ⟨⟨by omega,fun y hy=>⟨(k2 y hy).1.ql,(k2 y hy).2.ql⟩⟩,k3,fun s hs=>(k4 s hs).qs⟩
end Go.LN
namespace Go.LN
theorem zJ8 {A:List zF}{x:zN} (h:partB A x=true):(nestPts x.Nest).1=pts x.Nest []∧nestB x.Nest=true∧(pts x.Nest []).length ≤ 120:=by
  simp only [partB,bA] at h;have h1:=h.1.1;unfold nestPts at h1 ⊢;split at h1
  · rename_i hc;rw [if_pos hc];exact ⟨rfl,hc.1,hc.2.2⟩
  · cases h1
theorem zJ9 (P:zD) (i:Nat) (hi:i < P.Parts.length) (y:List (List Int)) (k:Nat) (hk:k < y.length) (hq:y[k].length ≤ 4) (hb:P.Parts[i].Body.length ≤ 4) :
    ∀ (j s:Nat) (o:List zL),s + j=P.Parts[i].Body.length→o.length + j ≤ 1000000→wQ P (i:Int) y (k:Int) o (s:Int)=some (o ++ instR (i:Int) y[k] s j):=by
  intro j
  induction j with
  | zero =>
    intro s o hs ho
    rw [wQ]
    have:¬((s:Int) < (P.Parts[i].Body.length:Int)):=by omega
    simp only [yJ hi,this,dF,bF,if_false,oB,oS,oP]
    simp [instR]
  | succ j ih =>
    intro s o hs ho
    rw [wQ]
    have hc:((s:Int) < (P.Parts[i].Body.length:Int)):=by omega
    have hpn:app 8 ([]:List Int) y[k]=some y[k]:=zAL _ (by omega)
    have happ:app 40 o [(⟨(i:Int),(s:Int),y[k]⟩:zL)]=some (o ++ [⟨(i:Int),(s:Int),y[k]⟩]):=rS (by simp; omega)
    simp only [yJ hi,hc,dT,if_true,yJ hk,oB,oS,hpn,happ]
    rw [wD (by omega),ih (s + 1) _ (by omega) (by simp; omega),List.append_assoc]
    simp only [instR,List.range'_succ,List.map_cons,List.singleton_append]
theorem zJa (P:zD) (i:Nat) (hi:i < P.Parts.length) (y:List (List Int)) (hy:y.length ≤ 120) (hq:∀ q ∈ y,q.length ≤ 4) (hb:P.Parts[i].Body.length ≤ 4) :
    ∀ (j k:Nat) (o:List zL),k + j=y.length→o.length + 4 * j ≤ 1000000→wR P (i:Int) y o (k:Int)=some (o ++ (y.drop k).flatMap fun q=>instR (i:Int) q 0 P.Parts[i].Body.length):=by
  intro j
  induction j with
  | zero =>
    intro k o hk ho
    rw [wR]
    have:¬((k:Int) < (y.length:Int)):=by omega
    simp only [this,dF,bF,if_false]
    rw [show y.drop k=[] from dN.2 (by omega)]
    simp
  | succ j ih =>
    intro k o hk ho
    rw [wR]
    have hlt:k < y.length:=by omega
    have hc:((k:Int) < (y.length:Int)):=by omega
    have h3:=zJ9 P i hi y k hlt (hq _ (gM hlt)) hb P.Parts[i].Body.length 0 o (Nat.zero_add _) (by omega)
    rw [nZ] at h3
    simp only [hc,dT,if_true,oB,oS,h3]
    rw [wD (by omega),ih (k + 1) _ (by omega) (by rw [lA,zFa]; omega),gC hlt,List.flatMap_cons,List.append_assoc]
theorem zFm (P:zD) (hP:P.Parts.length ≤ 4) (hb:∀ i,i < P.Parts.length→partB P.Arrays (gP P i)=true) :
    ∀ (j i:Nat) (o:List zL),i + j=P.Parts.length→o.length ≤ 480 * i→wS P o (i:Int)=some (o ++ (List.range' i j).flatMap fun (i:Nat)=>partI (i:Int) (gP P i)):=by
  intro j
  induction j with
  | zero =>
    intro i o hi ho
    rw [wS]
    have:¬((i:Int) < (P.Parts.length:Int)):=by omega
    simp [this]
  | succ j ih =>
    intro i o hi ho
    rw [wS]
    have hlt:i < P.Parts.length:=by omega
    have hc:((i:Int) < (P.Parts.length:Int)):=by omega
    have hg:gP P i=P.Parts[i]:=by simp [gP,hlt]
    have hp:=hb i hlt
    rw [hg] at hp
    obtain ⟨p1,p2,p3⟩:=zJ8 hp
    obtain ⟨n1,n2⟩:=zEm p2
    have hpp:=hp
    simp only [partB,bA] at hpp
    obtain ⟨_,q2,_⟩:=zBo hpp.1.2
    have hpts:=specPts P.Parts[i].Nest P.Parts[i].Nest [] [] n2 rfl (by simp) n1 (by simp)
    rw [List.nil_append,List.take_of_length_le (by omega)] at hpts
    have h2:=zJa P i hlt (pts P.Parts[i].Nest []) p3 (fun q hq=>by have:=zIh _ _ q hq; simp at this; omega) q2 _ 0 o (Nat.zero_add _) (by omega)
    rw [nZ,List.drop_zero] at h2
    simp only [hc,dT,if_true,yJ hlt,oB,oS,hpts,h2]
    have hI:((pts P.Parts[i].Nest []).flatMap fun q=>instR (i:Int) q 0 P.Parts[i].Body.length)=partI (i:Int) P.Parts[i]:=by rw [partI,p1]
    have hle:=zHX (i:Int) hp
    rw [hI,wD (by omega),ih (i + 1) _ (by omega) (by rw [lA]; omega),List.range'_succ,List.flatMap_cons,hg,List.append_assoc]
theorem jM {P:zD} (h:validP P=true):arrB P.Arrays=true∧P.Parts.length ≤ 4∧(∀ i,i < P.Parts.length→partB P.Arrays (gP P i)=true)∧(progI P).length ≤ 120:=by
  simp only [validP,progB,bA,decide_eq_true_eq] at h;obtain ⟨⟨⟨h1,h2⟩,h3⟩,h4⟩:=h;exact ⟨h1,h2,fun i hi=>List.all_eq_true.1 h3 i (List.mem_range'_1.2 ⟨Nat.zero_le _,by omega⟩),h4⟩
theorem specInst4 (P:zD) (hv:validP P=true):uM P=some (progI P):=by
  obtain ⟨_,v2,v3,_⟩:=jM hv;have hl:=zFm P v2 v3 _ 0 [] (Nat.zero_add _) (by simp);rw [nZ,List.nil_append] at hl;simp only [uM,hl,oB,oS,oP,id];rfl
end Go.LN
namespace Go.LN
def DA (x:zF):Prop:=(∃ d,x.Dims=[d]∧1 ≤ d∧d ≤ 6)∨∃ d e,x.Dims=[d,e]∧(1 ≤ d∧d ≤ 6)∧1 ≤ e∧e ≤ 6
theorem mul36 {d e:Int} (h1:1 ≤ d) (h2:d ≤ 6) (h3:1 ≤ e) (h4:e ≤ 6):1 ≤ d * e∧d * e ≤ 36:=by
  have:d=1∨d=2∨d=3∨d=4∨d=5∨d=6:=by omega
  rcases this with rfl | rfl | rfl | rfl | rfl | rfl <;> omega
theorem zNu {x:zF}{d:Int} (h:x.Dims=[d]) (h1:1 ≤ d) (h2:d ≤ 6):sizeF x=d:=by
  unfold sizeF;rw [h,szL,szL,Int.one_mul,rH (by omega) (by omega)]
theorem zNv {x:zF}{d e:Int} (h:x.Dims=[d,e]) (h1:1 ≤ d) (h2:d ≤ 6) (h3:1 ≤ e) (h4:e ≤ 6):sizeF x=d * e:=by
  unfold sizeF;have:=mul36 h1 h2 h3 h4;rw [h,szL,szL,szL,Int.one_mul,rH (x:=d) (by omega) (by omega),rH (by omega) (by omega)]
theorem DA.size {x:zF} (h:DA x):1 ≤ sizeF x∧sizeF x ≤ 36:=by
  rcases h with ⟨d,h,h1,h2⟩ | ⟨d,e,h,⟨h1,h2⟩,h3,h4⟩
  · rw [zNu h h1 h2]; omega
  · rw [zNv h h1 h2 h3 h4]; exact mul36 h1 h2 h3 h4
def nm (l:List zF) (i:Nat):Nat:=match (l.getD i ⟨⟨[]⟩,[]⟩).Name.l with | c::_=>c.toNat | []=>0
end Go.LN
namespace Go.LN
end Go.LN
namespace Go.LN
theorem specInsts (P:zD) (hv:validP P=true):uM P=some (progI P):=by
  obtain ⟨_,v2,v3,_⟩:=jM hv;have hl:=zFm P v2 v3 _ 0 [] (Nat.zero_add _) (by simp);rw [nZ,List.nil_append] at hl;simp only [oB,oS,uM,hl,oP,id];rfl
end Go.LN
namespace Go.LN
def c0 (n:Int):zA:=⟨[0,0,0,0],n⟩
end Go.LN
namespace Go.LN
theorem zJb {P:zD} (h:BG P) (hv:validP P=true):RV P.Arrays:=by
  simp only [validP,progB,bA] at hv;exact RV.of h.1 hv.1.1.1
theorem zNw {p:List Int} (h:ptB p=true):p.length ≤ 4:=by
  simp only [ptB,bA,decide_eq_true_eq] at h;exact h.1
end Go.LN
namespace Go.LN
end Go.LN
namespace Go.LN
theorem zHZ:∀ {k:Nat}{a v:Int},v ∈ rngK k a ↔ a ≤ v∧v < a + (k:Int)
  | 0,a,v=>by simp [rngK]
  | k + 1,a,v=>by rw [rngK,List.mem_cons,zHZ]; omega
theorem zNI {a b v:Int}:v ∈ rng a b ↔ a ≤ v∧v < b:=by
  unfold rng;rw [zHZ]; omega
theorem zKe:∀ (k:Nat) (a:Int),(rngK k a).Pairwise (· < ·)
  | 0,a=>List.Pairwise.nil
  | k + 1,a=>by
    rw [rngK]
    refine List.Pairwise.cons (fun v hv=>?_) (zKe k (a + 1))
    have:=(zHZ.1 hv).1
    omega
def inP:List zE→List Int→List Int→Prop
  | [],_,[]=>True
  | l::ls,p,v::r=>(loF l p ≤ v∧v < hiF l p)∧inP ls (p ++ [v]) r
  | _,_,_=>False
theorem zGX:∀ {ls:List zE}{p q:List Int},q ∈ pts ls p→∃ r,q=p ++ r∧inP ls p r
  | [],p,q,h=>by
    rw [pts,List.mem_singleton] at h
    exact ⟨[],by rw [h,List.append_nil],trivial⟩
  | l::ls,p,q,h=>by
    rw [pts,List.mem_flatMap] at h
    obtain ⟨v,hv,hq⟩:=h
    obtain ⟨r,e,hr⟩:=zGX hq
    exact ⟨v::r,by rw [e,List.append_assoc]; rfl,zNI.1 hv,hr⟩
def lexlt:List Int→List Int→Prop
  | x::xs,y::ys=>x < y∨(x=y∧lexlt xs ys)
  | _,_=>False
theorem zKf:∀ (ls:List zE) (p:List Int),(pts ls p).Pairwise fun q w=>∃ r s,q=p ++ r∧w=p ++ s∧lexlt r s
  | [],p=>by rw [pts]; exact List.pairwise_singleton ..
  | l::ls,p=>by
    rw [pts,List.pairwise_flatMap]
    refine ⟨fun v hv=>(zKf ls (p ++ [v])).imp ?_,(zKe _ _).imp ?_⟩
    · rintro q w ⟨r,s,e1,e2,h⟩
      exact ⟨v::r,v::s,by rw [e1,List.append_assoc]; rfl,by rw [e2,List.append_assoc]; rfl,.inr ⟨rfl,h⟩⟩
    · intro v w hvw q hq z hz
      obtain ⟨r,e1,_⟩:=zGX hq
      obtain ⟨s,e2,_⟩:=zGX hz
      exact ⟨v::r,w::s,by rw [e1,List.append_assoc]; rfl,by rw [e2,List.append_assoc]; rfl,.inl hvw⟩
def Ch {α:Type} (R:α→α→Prop):List α→Prop
  | a::b::l=>R a b∧Ch R (b::l)
  | _=>True
theorem Ch.append {α:Type}{R:α→α→Prop}:∀ {l m:List α},Ch R l→Ch R m→(∀ a ∈ l,∀ b ∈ m,R a b)→Ch R (l ++ m)
  | [],m,_,h2,_=>h2
  | [a],[],_,_,_=>trivial
  | [a],b::m,_,h2,h=>⟨h a (List.mem_cons_self ..) b (List.mem_cons_self ..),h2⟩
  | a::b::l,m,h1,h2,h=>⟨h1.1,Ch.append (l:=b::l) h1.2 h2 fun x hx=>h x (List.mem_cons_of_mem _ hx)⟩
theorem Ch.flat {α β:Type}{R:β→β→Prop}{f:α→List β}:∀ {l:List α},(∀ x ∈ l,Ch R (f x))→(l.Pairwise fun x y=>∀ a ∈ f x,∀ b ∈ f y,R a b)→Ch R (l.flatMap f)
  | [],_,_=>trivial
  | x::l,h1,h2=>by
    rw [List.flatMap_cons]
    have h2':=List.pairwise_cons.1 h2
    refine Ch.append (h1 x (List.mem_cons_self ..)) (Ch.flat (fun y hy=>h1 y (List.mem_cons_of_mem _ hy)) h2'.2) fun a ha b hb=>?_
    obtain ⟨y,hy,hb⟩:=List.mem_flatMap.1 hb
    exact h2'.1 y hy a ha b hb
theorem Ch.get {α:Type}{R:α→α→Prop}:∀ {l:List α} (i:Nat) (h:i + 1 < l.length),Ch R l→R l[i] l[i + 1]
  | a::b::l,0,_,hc=>hc.1
  | a::b::l,i + 1,h,hc=>Ch.get (l:=b::l) i (by simpa using h) hc.2
  | [a],i,h,_=>by simp at h
  | [],i,h,_=>by simp at h
def nxt (a b:zL):Prop:=a.Part < b.Part∨(a.Part=b.Part∧(lexlt a.Point b.Point∨(a.Point=b.Point∧a.Stmt + 1=b.Stmt)))
theorem zJc (k:Int) (q:List Int):∀ (j i:Nat),Ch nxt (instR k q i j)
  | 0,_=>trivial
  | 1,_=>trivial
  | j + 2,i=>by
    have:=zJc k q (j + 1) (i + 1)
    unfold instR at this ⊢
    rw [List.range'_succ,List.map_cons,List.range'_succ,List.map_cons]
    rw [List.range'_succ,List.map_cons] at this
    exact ⟨.inr ⟨rfl,.inr ⟨rfl,by dsimp only; omega⟩⟩,this⟩
theorem zCo {k:Int}{q:List Int}{i j:Nat}{z:zL} (h:z ∈ instR k q i j):z.Part=k∧z.Point=q∧∃ s:Nat,z.Stmt=(s:Int)∧s < i + j:=by
  unfold instR at h;obtain ⟨s,hs,rfl⟩:=List.mem_map.1 h;exact ⟨rfl,rfl,s,rfl,(List.mem_range'_1.1 hs).2⟩
theorem zJd (nest:List zE):(nestPts nest).1.Pairwise lexlt:=by
  unfold nestPts;split
  · refine (zKf nest []).imp ?_;rintro q w ⟨r,s,e1,e2,h⟩;rw [e1,e2]; exact h
  · exact List.Pairwise.nil
theorem zMK (k:Int) (x:zN):Ch nxt (partI k x):=by
  unfold partI;refine Ch.flat (fun q _=>zJc k q _ 0) ((zJd x.Nest).imp ?_);intro q w h a ha b hb;obtain ⟨a1,a2,_⟩:=zCo ha;obtain ⟨b1,b2,_⟩:=zCo hb;exact .inr ⟨by rw [a1,b1],.inl (by rw [a2,b2]; exact h)⟩
theorem zH0 {k:Int}{x:zN}{z:zL} (h:z ∈ partI k x):z.Part=k:=by
  unfold partI at h;obtain ⟨q,_,hz⟩:=List.mem_flatMap.1 h;exact (zCo hz).1
theorem zML (P:zD):Ch nxt (progI P):=by
  unfold progI;refine Ch.flat (fun i _=>zMK _ _) ((List.pairwise_lt_range' 1).imp ?_);intro i j h a ha b hb;exact .inl (by rw [zH0 ha,zH0 hb]; omega)
end Go.LN
namespace Go.LN
theorem zKR {P:zD} (h:validP P=true) {i:Nat} (hi:i < P.Parts.length):partB P.Arrays P.Parts[i]=true:=by
  simp only [validP,progB,bA,decide_eq_true_eq] at h;have:=List.all_eq_true.1 h.1.2 i (List.mem_range'_1.2 ⟨Nat.zero_le _,by omega⟩);have hg:gP P i=P.Parts[i]:=by simp [gP,hi]
  rwa [hg] at this
theorem zNJ {nest:List zE}{q:List Int} (h:q ∈ (nestPts nest).1):nestB nest=true∧inP nest [] q:=by
  unfold nestPts at h;split at h
  · rename_i hc;obtain ⟨r,e,hr⟩:=zGX h;rw [List.nil_append] at e;exact ⟨hc.1,e ▸ hr⟩
  · cases h
theorem zLK {P:zD} (h:validP P=true) {z:zL} (hz:z ∈ progI P):∃ (i s:Nat) (hi:i < P.Parts.length) (hs:s < P.Parts[i].Body.length),z.Part=(i:Int)∧z.Stmt=(s:Int)∧nestB P.Parts[i].Nest=true∧inP P.Parts[i].Nest [] z.Point∧ptB z.Point=true∧stOk P.Arrays P.Parts[i].Body[s] z.Point=true∧stmtB P.Parts[i].Body[s] (P.Parts[i].Nest.length:Int)=true:=by
  unfold progI at hz;obtain ⟨i,hi,hz⟩:=List.mem_flatMap.1 hz;have hi:i < P.Parts.length:=by have:=(List.mem_range'_1.1 hi).2; omega
  have hg:gP P i=P.Parts[i]:=by simp [gP,hi]
  rw [hg] at hz;have hp:=zKR h hi;unfold partI at hz;obtain ⟨q,hq,hz⟩:=List.mem_flatMap.1 hz;obtain ⟨z1,z2,s,z3,hs⟩:=zCo hz;have hs:s < P.Parts[i].Body.length:=by omega
  obtain ⟨n1,n2⟩:=zNJ hq;simp only [partB,bA] at hp;have hq2:=List.all_eq_true.1 hp.2 q hq;rw [bA] at hq2;refine ⟨i,s,hi,hs,z1,z3,n1,?_,?_,?_,?_⟩
  · rw [z2]; exact n2
  · rw [z2]; exact hq2.1
  · rw [z2]; exact List.all_eq_true.1 hq2.2 _ (gM hs)
  · exact (zBo hp.1.2).2.2 _ (gM hs)
theorem zGY:∀ {ls:List zE}{p r:List Int},inP ls p r→r.length=ls.length
  | [],_,[],_=>rfl
  | l::ls,p,v::r,h=>by rw [List.length_cons,List.length_cons,zGY h.2]
  | [],_,_::_,h=>h.elim
  | _::_,_,[],h=>h.elim
end Go.LN
namespace Go.LN
end Go.LN
namespace Go.LN
theorem zKS (P:zD) (x:zL) (ys:List zJ) (hy:ys.length ≤ 1048576) (ha:∀ a ∈ ys,AV a) (hp:x.Point.length ≤ 4) (hR:RV P.Arrays):∀ (j i:Nat) (o:List Int),i + j=ys.length→o.length=i→vU P x ys o (i:Int)=some (o ++ (ys.drop i).map (cellA P.Arrays x.Point)):=by
  intro j
  induction j with
  | zero =>
    intro i o hi ho;rw [vU];have:¬((i:Int) < (ys.length:Int)):=by omega
    simp only [this,dF,bF,if_false,oP,id];rw [dN.2 (by omega),List.map_nil,List.append_nil]
  | succ j ih =>
    intro i o hi ho;rw [vU];have hlt:i < ys.length:=by omega
    have hc:((i:Int) < (ys.length:Int)):=by omega
    simp only [hc,dT,if_true,yJ hlt,implCell P ys[i] x.Point (ha _ (gM hlt)) hp hR,oB,oS,rS (show (o.length + [cellF ys[i] x.Point P.Arrays 0].length) * 8 ≤ 140737488355328 by simp; omega)];rw [wD (by omega),ih (i + 1) _ (by omega) (by rw [lA]; simp; omega),gC hlt,List.map_cons,List.append_assoc];rfl
end Go.LN
namespace Go.LN
def STz:zP:=zP.mk (zJ.mk ⟨[]⟩ []) EXz
def stI (P:zD) (z:zL):zP:=(gP P z.Part.toNat).Body.getD z.Stmt.toNat STz
def rdI (P:zD) (z:zL):List Int:=(readsF 5 (stI P z).Value).map (cellA P.Arrays z.Point)
def wrI (P:zD) (z:zL):Int:=cellA P.Arrays z.Point (stI P z).Write
structure InP (P:zD) (z:zL):Prop where
  idxP:idx P.Parts z.Part=some (gP P z.Part.toNat)
  idxS:idx (gP P z.Part.toNat).Body z.Stmt=some (stI P z)
  part:0 ≤ z.Part∧z.Part < (P.Parts.length:Int)
  stmt:0 ≤ z.Stmt∧z.Stmt < ((gP P z.Part.toNat).Body.length:Int)
  pin:BN (gP P z.Part.toNat).Nest∧nestB (gP P z.Part.toNat).Nest=true∧ptB z.Point=true∧inP (gP P z.Part.toNat).Nest [] z.Point
  pt:z.Point.length ≤ 4
  bs:BS (stI P z)
  st:∃ d,stmtB (stI P z) d=true
  ok:stOk P.Arrays (stI P z) z.Point=true
theorem dG {P:zD} (hb:BG P) (h:validP P=true) {z:zL} (hz:z ∈ progI P):InP P z:=by
  obtain ⟨i,s,hi,hs,z1,z2,hn,hin,hpt,hst,hsb⟩:=zLK h hz;have hbp:=hb.2.2 _ (gM hi);have hg:gP P z.Part.toNat=P.Parts[i]:=by rw [z1,iN]; simp [gP,hi]
  have hS:stI P z=P.Parts[i].Body[s]:=by unfold stI; rw [hg,z2,iN]; simp [hs]
  refine ⟨?_,?_,by rw [z1]; omega,by rw [hg,z2]; omega,?_,zNw hpt,?_,?_,?_⟩
  · rw [hg,z1,yJ hi]
  · rw [hS,hg,z2,yJ hs]
  · rw [hg]; exact ⟨hbp.1,hn,hpt,hin⟩
  · rw [hS]; exact hbp.2.2 _ (gM hs)
  · rw [hS]; exact ⟨_,hsb⟩
  · rw [hS]; exact hst
theorem zGZ {P:zD}{z:zL} (h:InP P z):(rdI P z).length ≤ 32:=by
  obtain ⟨d,hd⟩:=h.st;have:=jW 5 (stI P z).Value (zBn hd).2.1;unfold rdI;rw [lM]; omega
theorem touchedV {P:zD} (hb:BG P) (hv:validP P=true) {z:zL} (h:InP P z):pK P z=some (rdI P z,wrI P z):=by
  obtain ⟨d,hd⟩:=h.st;obtain ⟨s1,s2,s3⟩:=zBn hd;have hR:=zJb hb hv;have hrd:=implReads 5 (stI P z).Value s2 (by omega);have hrl:=jW 5 (stI P z).Value s2;have htl:=zKS P z (readsF 5 (stI P z).Value) (by omega) s3 h.pt hR _ 0 [] (Nat.zero_add _) rfl;rw [nZ,List.drop_zero,List.nil_append] at htl;have hw:=implCell P (stI P z).Write z.Point s1 h.pt hR;unfold pK kT;simp only [h.idxP,h.idxS,hrd,htl,hw,oB,oS,oP,id];rfl
def trcP (P:zD):vQ:=⟨P,progI P,(progI P).map (rdI P),(progI P).map (wrI P)⟩
theorem zMM {P:zD} (hb:BG P) (hv:validP P=true):∀ (j i:Nat) (rs:List (List Int)) (ws:List Int),i + j=(progI P).length→rs.length=i→ws.length=i→nM P (progI P) (i:Int) rs ws=some (rs ++ ((progI P).drop i).map (rdI P),ws ++ ((progI P).drop i).map (wrI P)):=by
  have hlen:=(jM hv).2.2.2;intro j
  induction j with
  | zero =>
    intro i rs ws hi hr hw;rw [nM];have:¬((i:Int) < ((progI P).length:Int)):=by omega
    simp only [this,dF,bF,if_false,oP];rw [dN.2 (by omega),List.map_nil,List.map_nil,List.append_nil,List.append_nil]
  | succ j ih =>
    intro i rs ws hi hr hw;rw [nM];have hlt:i < (progI P).length:=by omega
    have hc:((i:Int) < ((progI P).length:Int)):=by omega
    have hz:=dG hb hv (gM hlt);simp only [hc,dT,if_true,yJ hlt,touchedV hb hv hz,oB,oS,rS (show (rs.length + [rdI P (progI P)[i]].length) * 24 ≤ 140737488355328 by simp; omega),rS (show (ws.length + [wrI P (progI P)[i]].length) * 8 ≤ 140737488355328 by simp; omega)];rw [wD (by omega),ih (i + 1) _ _ (by omega) (by rw [lA]; simp; omega) (by rw [lA]; simp; omega),gC hlt,List.map_cons,List.map_cons,List.append_assoc,List.append_assoc];rfl
theorem implTrace (P:zD) (hb:BG P):zAH P=some (if validP P then (some (trcP P),true) else (none,false)):=by
  unfold zAH;rw [implInstances P hb];cases hv:validP P with
  | false =>
    unfold validP at hv;cases hp:progB P with
    | false=>rfl
    | true =>
      rw [hp,Bool.true_and] at hv;simp [hv]
  | true =>
    have hv':=hv;unfold validP at hv';rw [bA] at hv';have hl:=zMM hb hv _ 0 [] [] (Nat.zero_add _) rfl rfl;rw [nZ,List.drop_zero,List.nil_append,List.nil_append] at hl;simp only [hv'.1,hv'.2,if_true,oB,oS,bT,bF,if_false,hl,oP];rfl
def useI (P:zD) (z:zL):xI:=⟨rdI P z,wrI P z⟩
theorem zNK {P:zD} (hb:BG P) (hv:validP P=true):∀ (j i:Nat) (o:List xI),i + j=(progI P).length→o.length=i→tZ P (progI P) o (i:Int)=some (o ++ ((progI P).drop i).map (useI P)):=by
  have hlen:=(jM hv).2.2.2;have hR:=zJb hb hv;intro j
  induction j with
  | zero =>
    intro i o hi ho;rw [tZ];have:¬((i:Int) < ((progI P).length:Int)):=by omega
    simp only [this,dF,bF,if_false,oP,id];rw [dN.2 (by omega),List.map_nil,List.append_nil]
  | succ j ih =>
    intro i o hi ho;rw [tZ];have hlt:i < (progI P).length:=by omega
    have hc:((i:Int) < ((progI P).length:Int)):=by omega
    have hz:=dG hb hv (gM hlt);obtain ⟨d,hd⟩:=hz.st;have hcl:=specCells P.Arrays (stI P (progI P)[i]) (progI P)[i].Point hd hz.bs hz.pt hR;rw [if_pos hz.ok] at hcl;simp only [hc,dT,if_true,yJ hlt,hz.idxP,hz.idxS,hcl,oB,oS,rS (show (o.length + [xI.mk ((readsF 5 (stI P (progI P)[i]).Value).map (cellA P.Arrays (progI P)[i].Point)) (cellA P.Arrays (progI P)[i].Point (stI P (progI P)[i]).Write)].length) * 32 ≤ 140737488355328 by simp; omega)];rw [wD (by omega),ih (i + 1) _ (by omega) (by rw [lA]; simp; omega),gC hlt,List.map_cons,List.append_assoc];rfl
theorem specUses (P:zD) (hb:BG P) (hv:validP P=true):kR P=some ((progI P).map (useI P)):=by
  unfold kR;have hl:=zNK hb hv _ 0 [] (Nat.zero_add _) rfl;rw [nZ,List.drop_zero,List.nil_append] at hl;simp only [specInsts P hv,hl,oB,oS,oP,id]
end Go.LN
namespace Go.LN
def hasB (l:List Int) (n:Int):Bool:=l.any (fun x=>x == n)
theorem zLL (x:Int) (l:List Int) (n:Int):hasB (x::l) n=(x == n || hasB l n):=by unfold hasB; rw [List.any_cons]
def kindF (r1:List Int) (w1:Int) (r2:List Int) (w2:Int):Int:=(if hasB r2 w1 then 1 else 0) + (if hasB r1 w2 then 2 else 0) + (if w1 == w2 then 4 else 0)
theorem zLM (r1:List Int) (w1:Int) (r2:List Int) (w2:Int):0 ≤ kindF r1 w1 r2 w2∧kindF r1 w1 r2 w2 ≤ 7:=by
  unfold kindF;cases hasB r2 w1 <;> cases hasB r1 w2 <;> cases (w1 == w2) <;> simp
theorem zMN {R:Type}{r0:R}{n:Nat}{f:Int→Option (Out Unit R)}{P:Nat→Bool} (step:∀ i,i < n→f (i:Int)=if P i then some (.ret r0) else f ((i + 1:Nat):Int)) (fin:f (n:Int)=some (.done ())):f 0=some (if (List.range n).any P then .ret r0 else .done ()):=by
  have key:∀ (j i:Nat),i + j=n→f (i:Int)=some (if (List.range' i j).any P then .ret r0 else .done ()):=by
    intro j
    induction j with
    | zero=>intro i hi; rw [show i=n by omega,fin]; simp
    | succ j ih =>
      intro i hi;rw [step i (by omega),ih (i + 1) (by omega),List.range'_succ,List.any_cons];cases P i <;> rfl
  have:=key n 0 (Nat.zero_add _);rw [nZ] at this;rw [this,List.range_eq_range']
theorem zLN {α:Type} (l:List α) (P:α→Bool) (d:α):(List.range l.length).any (fun i=>P (l.getD i d))=l.any P:=by
  rw [Bool.eq_iff_iff,List.any_eq_true,List.any_eq_true];constructor
  · rintro ⟨i,hi,h⟩;have hi:=List.mem_range.1 hi;have hg:l.getD i d=l[i]:=by simp [hi]
    rw [hg] at h;exact ⟨_,gM hi,h⟩
  · rintro ⟨x,hx,h⟩;obtain ⟨i,hi,rfl⟩:=List.mem_iff_getElem.1 hx;exact ⟨i,List.mem_range.2 hi,by simpa [hi] using h⟩
end Go.LN
namespace Go.LN
theorem specHas (l:List Int) (n:Int) (hl:l.length ≤ 1048576):jU l n=some (hasB l n):=by
  unfold jU;have h:=zMN (R:=Bool) (r0:=true) (n:=l.length) (f:=nN l n) (P:=fun i=>l.getD i 0 == n) (fun i hi=>by
      rw [nN];have h1:((i:Int) < (l.length:Int)):=by omega
      have hg:l.getD i 0=l[i]:=by simp [hi]
      simp only [h1,dT,if_true,yJ hi,oB,oS,oP,hg];rw [wD (by omega)]) (by rw [nN]; simp)
  rw [zLN l (fun x=>x == n) 0] at h;rw [h];unfold hasB;cases l.any fun x=>x == n <;> rfl
theorem zNL (l:List Int) (v:Int) (hl:l.length ≤ 1048576):∀ (j i:Nat),i + j=l.length→∃ x,vV l v (i:Int)=some x∧((hasB (l.drop i) v=true∧∃ k:Nat,x=.ret (k:Int))∨(hasB (l.drop i) v=false∧x=.done ())):=by
  intro j
  induction j with
  | zero =>
    intro i hi;rw [vV];have:¬((i:Int) < (l.length:Int)):=by omega
    refine ⟨_,by simp only [this,dF,bF,if_false,oP],.inr ⟨?_,rfl⟩⟩;rw [dN.2 (by omega)]; rfl
  | succ j ih =>
    intro i hi;rw [vV];have hlt:i < l.length:=by omega
    have hc:((i:Int) < (l.length:Int)):=by omega
    rw [gC hlt,zLL];by_cases e:v=l[i]
    · refine ⟨_,by simp only [hc,dT,if_true,yJ hlt,oB,oS,oP,e,bQ],.inl ⟨?_,i,rfl⟩⟩;rw [e,bQ,Bool.true_or]
    · have e1:(v == l[i])=false:=by simpa using e
      have e2:(l[i] == v)=false:=by simpa using fun h=>e h.symm
      obtain ⟨x,hx,hr⟩:=ih (i + 1) (by omega);refine ⟨x,?_,by rw [e2,Bool.false_or]; exact hr⟩;simp only [hc,dT,if_true,yJ hlt,oB,oS,oP,e1,bF,if_false];rw [wD (by omega),hx]
theorem containsV (l:List Int) (v:Int) (hl:l.length ≤ 1048576):tL l v=some (hasB l v):=by
  unfold tL nU;obtain ⟨x,hx,hr⟩:=zNL l v hl l.length 0 (Nat.zero_add _);rw [nZ] at hx;rw [List.drop_zero] at hr;rw [hx];rcases hr with ⟨h,k,rfl⟩ | ⟨h,rfl⟩
  · have:((k:Int) ≥ 0):=by omega
    simp [h,this]
  · rw [h]; rfl
def zIns (P:zD) (a:Nat):zL:=(progI P).getD a ⟨0,0,[]⟩
theorem zAy {P:zD}{a:Nat} (h:a < (progI P).length):zIns P a=(progI P)[a]:=by simp [zIns,h]
theorem zB0 {P:zD}{a:Nat} (h:a < (progI P).length):zIns P a ∈ progI P:=by rw [zAy h]; exact gM h
theorem zJe {P:zD}{a:Nat} (h:a < (progI P).length):idx ((progI P).map (rdI P)) (a:Int)=some (rdI P (zIns P a)):=by rw [yJ (by rw [lM]; exact h),zAy h]; simp
theorem zIN {P:zD}{a:Nat} (h:a < (progI P).length):idx ((progI P).map (wrI P)) (a:Int)=some (wrI P (zIns P a)):=by rw [yJ (by rw [lM]; exact h),zAy h]; simp
theorem zKg {P:zD}{a:Nat} (h:a < (progI P).length):idx ((progI P).map (useI P)) (a:Int)=some (useI P (zIns P a)):=by rw [yJ (by rw [lM]; exact h),zAy h]; simp
def kindI (P:zD) (a b:Nat):Int:=kindF (rdI P (zIns P a)) (wrI P (zIns P a)) (rdI P (zIns P b)) (wrI P (zIns P b))
theorem betweenV {P:zD} (hi:∀ z ∈ progI P,InP P z) {a b:Nat} (ha:a < (progI P).length) (hb:b < (progI P).length):pW (trcP P) (a:Int) (b:Int)=some (kindI P a b):=by
  have l1:=zGZ (hi _ (zB0 ha));have l2:=zGZ (hi _ (zB0 hb));unfold pW kindI kindF;simp only [trcP,zJe ha,zJe hb,zIN ha,zIN hb,containsV _ _ (show (rdI P (zIns P a)).length ≤ 1048576 by omega),containsV _ _ (show (rdI P (zIns P b)).length ≤ 1048576 by omega),oB,oS,oP,id];by_cases e:wrI P (zIns P a)=wrI P (zIns P b)
  · have e1:(wrI P (zIns P a) == wrI P (zIns P b))=true:=by simpa using e
    simp only [e1,if_true];cases hasB (rdI P (zIns P b)) (wrI P (zIns P a)) <;> cases hasB (rdI P (zIns P a)) (wrI P (zIns P b)) <;> rfl
  · have e1:(wrI P (zIns P a) == wrI P (zIns P b))=false:=by simpa using e
    simp only [e1,bF,if_false];cases hasB (rdI P (zIns P b)) (wrI P (zIns P a)) <;> cases hasB (rdI P (zIns P a)) (wrI P (zIns P b)) <;> rfl
theorem kindsV {P:zD} (hi:∀ z ∈ progI P,InP P z) {a b:Nat} (ha:a < (progI P).length) (hb:b < (progI P).length):gW (useI P (zIns P a)) (useI P (zIns P b))=some (kindI P a b):=by
  have l1:=zGZ (hi _ (zB0 ha));have l2:=zGZ (hi _ (zB0 hb));unfold gW kindI kindF;simp only [useI,specHas _ _ (show (rdI P (zIns P a)).length ≤ 1048576 by omega),specHas _ _ (show (rdI P (zIns P b)).length ≤ 1048576 by omega),oB,oS,oP,id];by_cases e:wrI P (zIns P a)=wrI P (zIns P b)
  · have e1:(wrI P (zIns P a) == wrI P (zIns P b))=true:=by simpa using e
    simp only [e1,if_true];cases hasB (rdI P (zIns P b)) (wrI P (zIns P a)) <;> cases hasB (rdI P (zIns P a)) (wrI P (zIns P b)) <;> rfl
  · have e1:(wrI P (zIns P a) == wrI P (zIns P b))=false:=by simpa using e
    simp only [e1,bF,if_false];cases hasB (rdI P (zIns P b)) (wrI P (zIns P a)) <;> cases hasB (rdI P (zIns P a)) (wrI P (zIns P b)) <;> rfl
end Go.LN
namespace Go.LN
def choF:List Bool→Nat→List Int
  | [],_=>[]
  | b::l,i=>(if b then [(i:Int)] else []) ++ choF l (i + 1)
theorem specCho (l:List Bool) (hl:l.length ≤ 1000000):jF l=some (choF l 0):=by
  have key:∀ (j i:Nat) (o:List Int),i + j=l.length→o.length ≤ i→rR l o (i:Int)=some (o ++ choF (l.drop i) i):=by
    intro j
    induction j with
    | zero =>
      intro i o hi ho;rw [rR];have:¬((i:Int) < (l.length:Int)):=by omega
      simp only [this,dF,bF,if_false,oP,id];rw [dN.2 (by omega),choF,List.append_nil]
    | succ j ih =>
      intro i o hi ho;rw [rR];have hlt:i < l.length:=by omega
      have hc:((i:Int) < (l.length:Int)):=by omega
      rw [gC hlt,choF];simp only [hc,dT,if_true,yJ hlt,oB,oS,oP,id,rS (show (o.length + [(i:Int)].length) * 8 ≤ 140737488355328 by simp; omega)];rw [wD (by omega)];cases l[i] with
      | false =>
        simp only [bF,if_false,oS];rw [ih (i + 1) o (by omega) (by omega),List.nil_append]
      | true =>
        simp only [if_true,oS];rw [ih (i + 1) _ (by omega) (by rw [lA]; simp; omega),List.append_assoc]
  have:=key _ 0 [] (Nat.zero_add _) (Nat.le_refl _);rw [nZ,List.drop_zero,List.nil_append] at this;unfold jF;rw [this]; rfl
end Go.LN
namespace Go.LN
def dep1 (P:zD) (i q:Nat):List yH:=if kindI P i q == 0 then [] else [⟨(i:Int),(q:Int),kindI P i q⟩]
def depR (P:zD) (i k j:Nat):List yH:=(List.range' k j).flatMap fun q=>dep1 P i q
def depA (P:zD) (i j:Nat):List yH:=(List.range' i j).flatMap fun q=>depR P q (q + 1) ((progI P).length - (q + 1))
theorem zFb (P:zD) (i k j:Nat):depR P i k (j + 1)=dep1 P i k ++ depR P i (k + 1) j:=by unfold depR; rw [List.range'_succ,List.flatMap_cons]
theorem zFc (P:zD) (i j:Nat):depA P i (j + 1)=depR P i (i + 1) ((progI P).length - (i + 1)) ++ depA P (i + 1) j:=by unfold depA; rw [List.range'_succ,List.flatMap_cons]
theorem zMO (P:zD) (i q:Nat):(dep1 P i q).length ≤ 1:=by unfold dep1; split <;> simp
theorem zEn (P:zD) (i:Nat):∀ (j k:Nat),(depR P i k j).length ≤ j
  | 0,k=>by simp [depR]
  | j + 1,k=>by
    have h1:=zMO P i k
    have h2:=zEn P i j (k + 1)
    rw [zFb,lA]; omega
theorem zJf (P:zD):∀ (j i:Nat),(depA P i j).length ≤ j * (progI P).length
  | 0,i=>by simp [depA]
  | j + 1,i=>by
    have h1:=zEn P i ((progI P).length - (i + 1)) (i + 1)
    have h2:=zJf P j (i + 1)
    rw [zFc,lA,Nat.add_mul,Nat.one_mul]; omega
theorem zLO (P:zD) (a b:Nat):0 ≤ kindI P a b∧kindI P a b ≤ 7:=zLM _ _ _ _
theorem zNM {P:zD} (hi:∀ z ∈ progI P,InP P z) (hlen:(progI P).length ≤ 120) (i:Nat) (hin:i < (progI P).length):∀ (j k:Nat) (o:List yH),k + j=(progI P).length→o.length + j ≤ 1000000→sF (trcP P) (i:Int) o (k:Int)=some (o ++ depR P i k j):=by
  intro j
  induction j with
  | zero =>
    intro k o hk ho;rw [sF];have:¬((k:Int) < ((trcP P).list.length:Int)):=by show ¬((k:Int) < ((progI P).length:Int)); omega
    simp only [this,dF,bF,if_false,oP,id];simp [depR]
  | succ j ih =>
    intro k o hk ho;rw [sF,zFb];have hlt:k < (progI P).length:=by omega
    have hc:((k:Int) < ((trcP P).list.length:Int)):=by show ((k:Int) < ((progI P).length:Int)); omega
    have hr:=zLO P i k;simp only [hc,dT,if_true,betweenV hi hin hlt,oB,oS,oP,id,rS (show (o.length + [yH.mk (i:Int) (k:Int) (kindI P i k)].length) * 24 ≤ 140737488355328 by simp; omega)];rw [wD (by omega)];unfold dep1;by_cases h0:kindI P i k=0
    · have e1:¬(kindI P i k > 0):=by omega
      have e2:(kindI P i k == 0)=true:=by simpa using h0
      simp only [e1,e2,dF,bF,if_false,if_true,oS,List.nil_append];exact ih (k + 1) o (by omega) (by omega)
    · have e1:kindI P i k > 0:=by omega
      have e2:¬((kindI P i k == 0)=true):=by simpa using h0
      simp only [e1,dT,if_true,oS];rw [if_neg e2,ih (k + 1) _ (by omega) (by rw [lA]; simp; omega),List.append_assoc]
theorem zNN {P:zD} (hi:∀ z ∈ progI P,InP P z) (hlen:(progI P).length ≤ 120):∀ (j i:Nat) (o:List yH),i + j=(progI P).length→o.length ≤ 120 * i→sG (trcP P) o (i:Int)=some (o ++ depA P i j):=by
  intro j
  induction j with
  | zero =>
    intro i o hij ho;rw [sG];have:¬((i:Int) < ((trcP P).list.length:Int)):=by show ¬((i:Int) < ((progI P).length:Int)); omega
    simp only [this,dF,bF,if_false,oP,id];simp [depA]
  | succ j ih =>
    intro i o hij ho;rw [sG,zFc];have hlt:i < (progI P).length:=by omega
    have hc:((i:Int) < ((trcP P).list.length:Int)):=by show ((i:Int) < ((progI P).length:Int)); omega
    have hl:=zEn P i ((progI P).length - (i + 1)) (i + 1);have h2:=zNM hi hlen i hlt ((progI P).length - (i + 1)) (i + 1) o (by omega) (by omega);simp only [hc,dT,if_true,wD (show i < 9223372036854775807 by omega),h2,oB,oS];rw [ih (i + 1) _ (by omega) (by rw [lA]; omega),List.append_assoc]
theorem zMP {P:zD} (hi:∀ z ∈ progI P,InP P z) (hlen:(progI P).length ≤ 120) (i:Nat) (hin:i < (progI P).length):∀ (j k:Nat) (o:List yH),k + j=(progI P).length→o.length + j ≤ 1000000→oO ((progI P).map (useI P)) (i:Int) o (k:Int)=some (o ++ depR P i k j):=by
  intro j
  induction j with
  | zero =>
    intro k o hk ho;rw [oO];have:¬((k:Int) < (((progI P).map (useI P)).length:Int)):=by rw [lM]; omega
    simp only [this,dF,bF,if_false,oP,id];simp [depR]
  | succ j ih =>
    intro k o hk ho;rw [oO,zFb];have hlt:k < (progI P).length:=by omega
    have hc:((k:Int) < (((progI P).map (useI P)).length:Int)):=by rw [lM]; omega
    simp only [hc,dT,if_true,zKg hin,zKg hlt,kindsV hi hin hlt,oB,oS,oP,id,rS (show (o.length + [yH.mk (i:Int) (k:Int) (kindI P i k)].length) * 24 ≤ 140737488355328 by simp; omega)];rw [wD (by omega)];unfold dep1;by_cases h0:kindI P i k=0
    · have e1:(kindI P i k != 0)=false:=by simpa using h0
      have e2:(kindI P i k == 0)=true:=by simpa using h0
      simp only [e1,e2,bF,if_false,if_true,oS,List.nil_append];exact ih (k + 1) o (by omega) (by omega)
    · have e1:(kindI P i k != 0)=true:=by simpa using h0
      have e2:¬((kindI P i k == 0)=true):=by simpa using h0
      simp only [e1,if_true,oS];rw [if_neg e2,ih (k + 1) _ (by omega) (by rw [lA]; simp; omega),List.append_assoc]
theorem zMQ {P:zD} (hi:∀ z ∈ progI P,InP P z) (hlen:(progI P).length ≤ 120):∀ (j i:Nat) (o:List yH),i + j=(progI P).length→o.length ≤ 120 * i→oQ ((progI P).map (useI P)) o (i:Int)=some (o ++ depA P i j):=by
  intro j
  induction j with
  | zero =>
    intro i o hij ho;rw [oQ];have:¬((i:Int) < (((progI P).map (useI P)).length:Int)):=by rw [lM]; omega
    simp only [this,dF,bF,if_false,oP,id];simp [depA]
  | succ j ih =>
    intro i o hij ho;rw [oQ,zFc];have hlt:i < (progI P).length:=by omega
    have hc:((i:Int) < (((progI P).map (useI P)).length:Int)):=by rw [lM]; omega
    have hl:=zEn P i ((progI P).length - (i + 1)) (i + 1);have h2:=zMP hi hlen i hlt ((progI P).length - (i + 1)) (i + 1) o (by omega) (by omega);simp only [hc,dT,if_true,wD (show i < 9223372036854775807 by omega),h2,oB,oS];rw [ih (i + 1) _ (by omega) (by rw [lA]; omega),List.append_assoc]
def dpF (P:zD):List yH:=if validP P then depA P 0 (progI P).length else []
theorem zIi {P:zD}:(dpF P).length ≤ 14400:=by
  unfold dpF;split
  · rename_i hv;have hlen:=(jM hv).2.2.2;have:=zJf P (progI P).length 0;have h2:(progI P).length * (progI P).length ≤ 120 * 120:=Nat.mul_le_mul hlen hlen;omega
  · simp
end Go.LN
namespace Go.LN
structure Kn where
  k:Nat→Nat→Int
  n:Nat
def dq1 (P:Kn) (i q:Nat):List yH:=if P.k i q == 0 then [] else [⟨(i:Int),(q:Int),P.k i q⟩]
def dqR (P:Kn) (i k j:Nat):List yH:=(List.range' k j).flatMap fun q=>dq1 P i q
def dqA (P:Kn) (i j:Nat):List yH:=(List.range' i j).flatMap fun q=>dqR P q (q + 1) (P.n - (q + 1))
theorem zNx {P:Kn}{d:yH} (h:d ∈ dqA P 0 P.n):∃ i k:Nat,d=⟨(i:Int),(k:Int),P.k i k⟩∧i < k∧k < P.n∧P.k i k ≠ 0:=by
  unfold dqA at h;obtain ⟨i,hi,h⟩:=List.mem_flatMap.1 h;unfold dqR at h;obtain ⟨k,hk,h⟩:=List.mem_flatMap.1 h;have hi:=List.mem_range'_1.1 hi;have hk:=List.mem_range'_1.1 hk;unfold dq1 at h;split at h
  · cases h
  · rename_i h0;exact ⟨i,k,List.mem_singleton.1 h,by omega,by omega,by simpa using h0⟩
def kn (P:zD):Kn:=⟨kindI P,(progI P).length⟩
theorem zNO {P:zD}{d:yH} (h:d ∈ depA P 0 (progI P).length):∃ i k:Nat,d=⟨(i:Int),(k:Int),kindI P i k⟩∧i < k∧k < (progI P).length∧kindI P i k ≠ 0:=zNx (P:=kn P) h
theorem specDeps6 (P:zD) (hb:BG P) (hv:validP P=true):fN P=some (depA P 0 (progI P).length):=by
  have hlen:=(jM hv).2.2.2;have hi:∀ z ∈ progI P,InP P z:=fun z hz=>dG hb hv hz;have hl:=zMQ hi hlen _ 0 [] (Nat.zero_add _) (by simp);rw [nZ,List.nil_append] at hl;simp only [fN,specUses P hb hv,hl,oB,oS,oP,id]
end Go.LN
namespace Go.LN
theorem zNy {a b x:List Int} (h:ltL a b=true) (h2:ltL x b=false):ltL a x=true:=by
  cases h3:ltL a x with
  | true=>rfl
  | false=>rw [Go.Sort.SWO.ntrans swoL a x b h3 h2] at h; cases h
theorem zMR {a b:List Int} (h:ltL b a=false) (hne:a ≠ b):ltL a b=true:=by
  cases h3:ltL a b with
  | true=>rfl
  | false=>exact absurd (zLn a b h3 h) hne
theorem zKT {a b:List Int} (h:ltL a b=true):ltL b a=false:=by
  cases h3:ltL b a with
  | false=>rfl
  | true =>
    have:=Go.Sort.SWO.trans swoL a b a h h3;rw [Go.Sort.SWO.irrefl swoL a] at this; cases this
theorem zIj (a:List Int):ltL a a=false:=Go.Sort.SWO.irrefl swoL a
theorem zNz {a b c:List Int} (h:ltL a b=true) (h2:ltL b c=true):ltL a c=true:=Go.Sort.SWO.trans swoL a b c h h2
def uniqL:List (List Int)→List (List Int)
  | a::b::l=>if a=b then uniqL (b::l) else a::uniqL (b::l)
  | [a]=>[a]
  | []=>[]
theorem zB1:∀ {l:List (List Int)}{x:List Int},x ∈ uniqL l ↔ x ∈ l
  | [],x=>Iff.rfl
  | [a],x=>Iff.rfl
  | a::b::l,x=>by
    rw [uniqL]
    by_cases h:a=b
    · rw [if_pos h,zB1,h]; simp
    · rw [if_neg h,List.mem_cons,zB1,List.mem_cons]; simp
theorem zBp:∀ {l:List (List Int)},l.Pairwise (fun a b=>ltL b a=false)→(uniqL l).Pairwise fun a b=>ltL a b=true
  | [],_=>List.Pairwise.nil
  | [a],_=>List.pairwise_singleton ..
  | a::b::l,h=>by
    have h2:=List.pairwise_cons.1 h
    rw [uniqL]
    by_cases e:a=b
    · rw [if_pos e]; exact zBp h2.2
    · rw [if_neg e]
      refine List.pairwise_cons.2 ⟨fun x hx=>?_,zBp h2.2⟩
      have hab:=zMR (h2.1 b (List.mem_cons_self ..)) e
      rcases List.mem_cons.1 (zB1.1 hx) with rfl | hx
      · exact hab
      · exact zNy hab ((List.pairwise_cons.1 h2.2).1 x hx)
theorem zJg:∀ l:List (List Int),(uniqL l).length ≤ l.length
  | []=>Nat.le_refl _
  | [a]=>Nat.le_refl _
  | a::b::l=>by
    have:=zJg (b::l)
    rw [uniqL]
    split
    · exact Nat.le_succ_of_le this
    · exact Nat.succ_le_succ this
theorem zFd:∀ (l:List (List Int)) (y x:List Int),uniqL (l ++ [y] ++ [x])=if y=x then uniqL (l ++ [y]) else uniqL (l ++ [y]) ++ [x]
  | [],y,x=>by
    show (if y=x then uniqL [x] else y::uniqL [x])=_
    by_cases h:y=x
    · rw [if_pos h,if_pos h,h]; rfl
    · rw [if_neg h,if_neg h]; rfl
  | [a],y,x=>by
    show (if a=y then uniqL ([] ++ [y] ++ [x]) else a::uniqL ([] ++ [y] ++ [x]))=if y=x then (if a=y then uniqL [y] else a::uniqL [y]) else (if a=y then uniqL [y] else a::uniqL [y]) ++ [x]
    rw [zFd [] y x]
    by_cases h:a=y <;> by_cases h2:y=x <;> simp [h,h2]
  | a::b::l,y,x=>by
    show (if a=b then uniqL ((b::l) ++ [y] ++ [x]) else a::uniqL ((b::l) ++ [y] ++ [x]))=if y=x then (if a=b then uniqL ((b::l) ++ [y]) else a::uniqL ((b::l) ++ [y])) else (if a=b then uniqL ((b::l) ++ [y]) else a::uniqL ((b::l) ++ [y])) ++ [x]
    rw [zFd (b::l) y x]
    by_cases h:a=b <;> by_cases h2:y=x <;> simp [h,h2]
theorem zIO {s:List (List Int)}{n:Nat} (h0:0 < n) (h:n < s.length):uniqL (s.take (n + 1))=if s[n - 1]'(by omega)=s[n] then uniqL (s.take n) else uniqL (s.take n) ++ [s[n]]:=by
  obtain ⟨k,rfl⟩:∃ k,n=k + 1:=⟨n - 1,by omega⟩;have e1:s.take (k + 1 + 1)=s.take k ++ [s[k]'(by omega)] ++ [s[k + 1]]:=by
    rw [List.take_add_one,List.getElem?_eq_getElem h,List.take_add_one,List.getElem?_eq_getElem (show k < s.length by omega)]; rfl
  have e2:s.take (k + 1)=s.take k ++ [s[k]'(by omega)]:=by
    rw [List.take_add_one,List.getElem?_eq_getElem (show k < s.length by omega)]; rfl
  rw [e1,e2,zFd]; rfl
theorem zMS (l:List (List Int)):(srtL l).Pairwise fun a b=>ltL b a=false:=by
  have h:=List.pairwise_mergeSort (le:=fun a b=>!ltL b a) (fun a b c h1 h2=>by
    simp only [Bool.not_eq_true'] at *;exact Go.Sort.SWO.ntrans swoL c b a h2 h1) (fun a b=>by
    cases h1:ltL b a with
    | false=>rfl
    | true=>simp [zKT h1]) l
  exact h.imp fun h=>by simpa using h
theorem zIk {l:List (List Int)}{x:List Int}:x ∈ srtL l ↔ x ∈ l:=List.mem_mergeSort
theorem zKh (l:List (List Int)):(srtL l).length=l.length:=List.length_mergeSort l
theorem zH1:∀ {l m:List (List Int)},l.Pairwise (fun a b=>ltL a b=true)→m.Pairwise (fun a b=>ltL a b=true)→(∀ x,x ∈ l ↔ x ∈ m)→l=m
  | [],[],_,_,_=>rfl
  | [],b::m,_,_,h=>absurd ((h b).2 (List.mem_cons_self ..)) (by simp)
  | a::l,[],_,_,h=>absurd ((h a).1 (List.mem_cons_self ..)) (by simp)
  | a::l,b::m,h1,h2,h=>by
    have p1:=List.pairwise_cons.1 h1
    have p2:=List.pairwise_cons.1 h2
    have e:a=b:=by
      rcases List.mem_cons.1 ((h a).1 (List.mem_cons_self ..)) with e | ha
      · exact e
      · rcases List.mem_cons.1 ((h b).2 (List.mem_cons_self ..)) with e | hb
        · exact e.symm
        · have k1:=p2.1 a ha
          have k2:=zKT (p1.1 b hb)
          rw [k1] at k2; cases k2
    subst e
    have:=zH1 p1.2 p2.2 fun x=>by
      have hx:=h x
      rw [List.mem_cons,List.mem_cons] at hx
      constructor
      · intro hl
        rcases hx.1 (.inr hl) with e | e
        · subst e; have:=p1.1 x hl; rw [zIj] at this; cases this
        · exact e
      · intro hl
        rcases hx.2 (.inr hl) with e | e
        · subst e; have:=p2.1 x hl; rw [zIj] at this; cases this
        · exact e
    rw [this]
def insB (d:List Int):List (List Int)→List (List Int)
  | []=>[d]
  | x::l=>if ltL d x then d::x::l else x::insB d l
def addF (l:List (List Int)) (d:List Int):List (List Int):=if d ∈ l then l else insB d l
theorem zEo {d:List Int}:∀ {l:List (List Int)}{x:List Int},x ∈ insB d l ↔ x=d∨x ∈ l
  | [],x=>by simp [insB]
  | y::l,x=>by
    rw [insB]
    split
    · simp
    · rw [List.mem_cons,zEo,List.mem_cons]
      constructor
      · rintro (h | h | h)
        · exact .inr (.inl h)
        · exact .inl h
        · exact .inr (.inr h)
      · rintro (h | h | h)
        · exact .inr (.inl h)
        · exact .inl h
        · exact .inr (.inr h)
theorem zFn {d:List Int}:∀ {l:List (List Int)},l.Pairwise (fun a b=>ltL a b=true)→d ∉ l→(insB d l).Pairwise fun a b=>ltL a b=true
  | [],_,_=>List.pairwise_singleton ..
  | y::l,h,hd=>by
    have p:=List.pairwise_cons.1 h
    rw [insB]
    by_cases c:ltL d y=true
    · rw [if_pos c]
      refine List.pairwise_cons.2 ⟨fun x hx=>?_,h⟩
      rcases List.mem_cons.1 hx with rfl | hx
      · exact c
      · exact zNz c (p.1 x hx)
    · rw [if_neg c]
      have c:ltL d y=false:=by simpa using c
      refine List.pairwise_cons.2 ⟨fun x hx=>?_,zFn p.2 fun h=>hd (List.mem_cons_of_mem _ h)⟩
      rcases zEo.1 hx with rfl | hx
      · exact zMR c fun e=>hd (by rw [← e]; exact List.mem_cons_self ..)
      · exact p.1 x hx
theorem zJh (d:List Int):∀ l:List (List Int),(insB d l).length=l.length + 1
  | []=>rfl
  | y::l=>by
    rw [insB]
    split
    · rfl
    · rw [List.length_cons,zJh d l]; rfl
theorem zMT (l:List (List Int)) (d:List Int):(addF l d).length ≤ l.length + 1:=by
  unfold addF;split
  · omega
  · rw [zJh]; exact Nat.le_refl _
theorem zJi:∀ (v l:List (List Int)),l.Pairwise (fun a b=>ltL a b=true)→(v.foldl addF l).Pairwise (fun a b=>ltL a b=true)∧∀ x,x ∈ v.foldl addF l ↔ x ∈ l∨x ∈ v
  | [],l,h=>⟨h,fun x=>by simp⟩
  | d::v,l,h=>by
    have h2:(addF l d).Pairwise (fun a b=>ltL a b=true)∧∀ x,x ∈ addF l d ↔ x ∈ l∨x=d:=by
      unfold addF
      by_cases c:d ∈ l
      · rw [if_pos c]
        exact ⟨h,fun x=>⟨.inl,fun h=>by
          rcases h with h | rfl
          · exact h
          · exact c⟩⟩
      · rw [if_neg c]
        exact ⟨zFn h c,fun x=>by rw [zEo]; exact or_comm⟩
    have h3:=zJi v (addF l d) h2.1
    refine ⟨h3.1,fun x=>?_⟩
    rw [List.foldl_cons,h3.2 x,h2.2 x,List.mem_cons,or_assoc]
theorem zLP (v:List (List Int)):v.foldl addF []=uniqL (srtL v):=by
  have h:=zJi v [] List.Pairwise.nil;refine zH1 h.1 (zBp (zMS v)) fun x=>?_;rw [h.2 x,zB1,zIk];simp
theorem zMU:uniqL (srtL [])=[]:=by unfold srtL; rw [List.mergeSort_nil]; rfl
def insC (d:List Int):Bool→List (List Int)→List (List Int)×Bool
  | b,[]=>([],b)
  | true,x::l=>(x::(insC d true l).1,(insC d true l).2)
  | false,x::l=>if ltL d x then (d::x::(insC d true l).1,(insC d true l).2) else (x::(insC d false l).1,(insC d false l).2)
theorem zCp (d:List Int):∀ l,insC d true l=(l,true)
  | []=>rfl
  | x::l=>by rw [insC,zCp d l]
theorem zH2 (d:List Int):∀ l,(if (insC d false l).2 then (insC d false l).1 else (insC d false l).1 ++ [d])=insB d l
  | []=>rfl
  | x::l=>by
    rw [insC,insB]
    by_cases c:ltL d x=true
    · rw [if_pos c,if_pos c,zCp]; rfl
    · rw [if_neg c,if_neg c,← zH2 d l]
      cases (insC d false l).2 <;> rfl
theorem zJj (d:List Int):∀ b l,(insC d b l).1.length ≤ l.length + 1
  | b,[]=>by cases b <;> simp [insC]
  | true,x::l=>by rw [zCp]; exact Nat.le_succ _
  | false,x::l=>by
    have:=zJj d false l
    rw [insC]
    split
    · rw [zCp]; simp
    · simp; omega
end Go.LN
namespace Go.LN
def eqR:List Int→List Int→Bool
  | [],[]=>true
  | x::a,y::b=>(x == y) && eqR a b
  | _,_=>false
theorem zIl:∀ a b:List Int,eqR a b=decide (a=b)
  | [],[]=>rfl
  | [],_::_=>by simp [eqR]
  | _::_,[]=>by simp [eqR]
  | x::a,y::b=>by
    rw [eqR,zIl a b]
    by_cases h:x=y <;> simp [h]
theorem zJk {a b:List Int}{f:Int→Option (Out Unit Bool)} (hl:a.length=b.length) (step:∀ (i:Nat) (h1:i < a.length) (h2:i < b.length),f (i:Int)=if a[i]=b[i] then f ((i + 1:Nat):Int) else some (.ret false)) (fin:f (a.length:Int)=some (.done ())):f 0=some (if eqR a b then .done () else .ret false):=by
  have key:∀ (j i:Nat),i + j=a.length→f (i:Int)=some (if eqR (a.drop i) (b.drop i) then .done () else .ret false):=by
    intro j
    induction j with
    | zero =>
      intro i hi;rw [show i=a.length by omega,fin,dN.2 (Nat.le_refl a.length),dN.2 (show b.length ≤ a.length by omega)]; rfl
    | succ j ih =>
      intro i hi;have h1:i < a.length:=by omega
      have h2:i < b.length:=by omega
      rw [step i h1 h2,ih (i + 1) (by omega),gC h1,gC h2,eqR];by_cases e:a[i]=b[i] <;> simp [e]
  have:=key a.length 0 (Nat.zero_add _);rwa [nZ,List.drop_zero,List.drop_zero] at this
theorem implEqR (a b:List Int) (h:a.length ≤ 1048576):rE a b=some (decide (a=b)):=by
  unfold rE;by_cases hl:a.length=b.length
  · have hf:=zJk hl (f:=vW a b) (fun i h1 h2=>by
      rw [vW];have c:((i:Int) < (a.length:Int)):=by omega
      simp only [c,dT,if_true,yJ h1,yJ h2,oB,oS,oP];rw [wD (by omega)];by_cases e:a[i]=b[i]
      · simp [e]
      · simp [e]) (by rw [vW]; simp)
    have e:((a.length:Int) != (b.length:Int))=false:=by simp [hl]
    rw [hf,e,zIl];by_cases h:a=b <;> simp [h]
  · have e:((a.length:Int) != (b.length:Int))=true:=by simp; omega
    have hne:a ≠ b:=fun h=>hl (by rw [h]);rw [e];simp [hne]
theorem specEqR (a b:List Int) (h:a.length ≤ 1048576):fO a b=some (decide (a=b)):=by
  unfold fO;by_cases hl:a.length=b.length
  · have hf:=zJk hl (f:=oR a b) (fun i h1 h2=>by
      rw [oR];have c:((i:Int) < (a.length:Int)):=by omega
      simp only [c,dT,if_true,yJ h1,yJ h2,oB,oS,oP];rw [wD (by omega)];by_cases e:a[i]=b[i]
      · simp [e]
      · simp [e]) (by rw [oR]; simp)
    have e:((a.length:Int) != (b.length:Int))=false:=by simp [hl]
    rw [hf,e,zIl];by_cases h:a=b <;> simp [h]
  · have e:((a.length:Int) != (b.length:Int))=true:=by simp; omega
    have hne:a ≠ b:=fun h=>hl (by rw [h]);rw [e];simp [hne]
theorem zMV {k:Nat} (h1:1 ≤ k) (h:k ≤ 1000000):W ((k:Int) - 1)=((k - 1:Nat):Int):=by rw [rH (by omega) (by omega)]; omega
theorem zJl {α:Type}{a b:List α}{n i:Nat} (h:a.drop n=b.drop n) (hi:n ≤ i) (ha:i < a.length) (hb:i < b.length):a[i]=b[i]:=by
  have e:(a.drop n)[i - n]?=(b.drop n)[i - n]?:=by rw [h]
  rw [List.getElem?_drop,List.getElem?_drop,show n + (i - n)=i by omega,List.getElem?_eq_getElem ha,List.getElem?_eq_getElem hb] at e;exact Option.some.inj e
theorem zOA {s:List (List Int)}{k0:Nat} (hk0:1 ≤ k0) (hk:k0 < s.length) (hl:s.length ≤ 1000000) (hb:∀ l ∈ s,l.length ≤ 1048576):∀ (j k2:Nat) (s3:List (List Int)) (k1:Nat),k2 + j=s.length - k0→1 ≤ k2→k1 + 1 ≤ k0 + k2→s3.length=s.length→s3.drop (k0 + k2 - 1)=s.drop (k0 + k2 - 1)→s3.take k1=uniqL (s.take (k0 + k2)) →
    ∃ (s4:List (List Int)) (k4:Nat),xR (k0:Int) (s.drop k0) s3 (k1:Int) (k2:Int)=some (s4,(k4:Int))∧k4 ≤ s4.length∧s4.take k4=uniqL s∧s4.length=s.length:=by
  intro j
  induction j with
  | zero =>
    intro k2 s3 k1 hj h1 h2 h3 h4 h5
    refine ⟨s3,k1,?_,by omega,?_,h3⟩
    · rw [xR]
      have:¬((k2:Int) < ((s.drop k0).length:Int)):=by rw [List.length_drop]; omega
      simp only [this,dF,bF,if_false,oP]
    · rw [h5,show k0 + k2=s.length by omega,List.take_length]
  | succ j ih =>
    intro k2 s3 k1 hj h1 h2 h3 h4 h5
    have hc:((k2:Int) < ((s.drop k0).length:Int)):=by rw [List.length_drop]; omega
    have hn:k0 + k2 < s.length:=by omega
    have i1:idx (s.drop k0) (k2:Int)=some ((s.drop k0)[k2]'(by rw [List.length_drop]; omega)):=yJ _
    have i2:idx (s.drop k0) ((k2 - 1:Nat):Int)=some ((s.drop k0)[k2 - 1]'(by rw [List.length_drop]; omega)):=yJ _
    have e1:s3[k0 + k2]'(by omega)=s[k0 + k2]:=zJl h4 (by omega) (by omega) hn
    have e2:s3[k0 + k2 - 1]'(by omega)=s[k0 + k2 - 1]'(by omega):=zJl h4 (Nat.le_refl _) (by omega) (by omega)
    have i3:idx s3 ((k0:Int) + (k2:Int))=some s[k0 + k2]:=by
      rw [show (k0:Int) + (k2:Int)=((k0 + k2:Nat):Int) by omega,yJ (by omega),e1]
    have i4:idx s3 ((k0:Int) + ((k2 - 1:Nat):Int))=some (s[k0 + k2 - 1]'(by omega)):=by
      rw [show (k0:Int) + ((k2 - 1:Nat):Int)=((k0 + k2 - 1:Nat):Int) by omega,yJ (by omega),e2]
    have i5:idx s3 (k1:Int)=some (s3[k1]'(by omega)):=yJ _
    have hq:=implEqR s[k0 + k2] (s[k0 + k2 - 1]'(by omega)) (hb _ (gM hn))
    have hu:=zIO (s:=s) (n:=k0 + k2) (by omega) hn
    have hd2:s3.drop (k0 + k2)=s.drop (k0 + k2):=by
      have:(s3.drop (k0 + k2 - 1)).drop 1=(s.drop (k0 + k2 - 1)).drop 1:=by rw [h4]
      rwa [List.drop_drop,List.drop_drop,show k0 + k2 - 1 + 1=k0 + k2 by omega] at this
    rw [xR]
    simp only [hc,dT,if_true,i1,i3,zMV h1 (show k2 ≤ 1000000 by omega),i2,i4,i5,hq,oB,oS,oP,iN]
    by_cases e:s[k0 + k2]=s[k0 + k2 - 1]'(by omega)
    · simp only [e,dT,bT,bF,if_false,oS]
      rw [wD (by omega)]
      exact ih (k2 + 1) s3 k1 (by omega) (by omega) (by omega) h3 (by rw [show k0 + (k2 + 1) - 1=k0 + k2 by omega]; exact hd2) (by
        rw [show k0 + (k2 + 1)=k0 + k2 + 1 by omega,hu,if_pos e.symm]; exact h5)
    · simp only [e,dF,Bool.not_false,if_true,oS]
      rw [wD (show k1 < 9223372036854775807 by omega),wD (show k2 < 9223372036854775807 by omega)]
      exact ih (k2 + 1) (s3.set k1 s[k0 + k2]) (k1 + 1) (by omega) (by omega) (by omega) (by rw [List.length_set]; exact h3)
        (by rw [show k0 + (k2 + 1) - 1=k0 + k2 by omega,List.drop_set_of_lt (by omega)]; exact hd2) (by
        rw [show k0 + (k2 + 1)=k0 + k2 + 1 by omega,hu,if_neg (fun h=>e h.symm),← h5,List.take_add_one,List.getElem?_set_self (by omega),List.take_set_of_le (Nat.le_refl _)]; rfl)
theorem zOB {s:List (List Int)} (hl:s.length ≤ 1000000) (hb:∀ l ∈ s,l.length ≤ 1048576):∀ (j k:Nat),k + j=s.length→1 ≤ k→uniqL (s.take k)=s.take k →
    xS s (k:Int)=some (.ret (uniqL s))∨(xS s (k:Int)=some (.done s)∧uniqL s=s):=by
  intro j
  induction j with
  | zero =>
    intro k hj h1 h2
    refine .inr ⟨?_,?_⟩
    · rw [xS]
      have:¬((k:Int) < (s.length:Int)):=by omega
      simp only [this,dF,bF,if_false,oP]
    · rw [show k=s.length by omega,List.take_length] at h2; exact h2
  | succ j ih =>
    intro k hj h1 h2
    have hn:k < s.length:=by omega
    have hc:((k:Int) < (s.length:Int)):=by omega
    have i4:idx s ((k - 1:Nat):Int)=some (s[k - 1]'(by omega)):=yJ _
    have hq:=implEqR s[k] (s[k - 1]'(by omega)) (hb _ (gM hn))
    have hu:=zIO (s:=s) (n:=k) (by omega) hn
    rw [xS]
    simp only [hc,dT,if_true,yJ hn,zMV h1 (show k ≤ 1000000 by omega),i4,hq,oB,oS,oP]
    by_cases e:s[k]=s[k - 1]'(by omega)
    · have es:slc s (k:Int) (s.length:Int)=some (s.drop k):=by
        unfold slc
        rw [if_pos ⟨by omega,by omega,by omega⟩,iN,iN,List.take_length]
      obtain ⟨s4,k4,g1,g2,g3,g4⟩:=zOA h1 hn hl hb _ 1 s k (Nat.add_sub_cancel' (by omega)) (Nat.le_refl _) (by omega) rfl rfl (by rw [hu,if_pos e.symm,h2])
      have g1:xR (k:Int) (s.drop k) s (k:Int) 1=some (s4,(k4:Int)):=g1
      have ec:clrL s4 (k4:Int) ([]:List Int)=some (s4.take k4 ++ List.replicate (s4.length - k4) []):=by
        unfold clrL
        rw [if_pos ⟨by omega,by omega⟩]; rfl
      have e3:slc (s4.take k4 ++ List.replicate (s4.length - k4) ([]:List Int)) 0 (k4:Int)=some (s4.take k4):=by
        unfold slc
        rw [if_pos ⟨by omega,by omega,by simp; omega⟩,iN,List.take_append_of_le_length (by rw [List.length_take]; omega),List.take_take,Nat.min_self]; rfl
      refine .inl ?_
      simp only [e,dT,if_true,es,g1,ec,e3,oS]
      rw [g3]
    · have h3:uniqL (s.take (k + 1))=s.take (k + 1):=by
        rw [hu,if_neg (fun h=>e h.symm),h2,List.take_add_one,List.getElem?_eq_getElem hn]; rfl
      simp only [e,dF,bF,if_false]
      rw [wD (by omega)]
      exact ih (k + 1) (by omega) (by omega) h3
theorem compactV {s:List (List Int)} (hl:s.length ≤ 1000000) (hb:∀ l ∈ s,l.length ≤ 1048576):uA s=some (uniqL s):=by
  unfold uA;by_cases h:(s.length:Int) < 2
  · simp only [h,dT,if_true,oP,id];refine congrArg some ?_
    match s,h with
    | [],_=>rfl
    | [a],_=>rfl
    | a::b::l,h=>simp at h; omega
  · have h1:uniqL (s.take 1)=s.take 1:=by
      match s,h with
      | [],h=>rfl
      | a::l,_=>rfl
    have hm:=zOB hl hb _ 1 (Nat.add_sub_cancel' (show 1 ≤ s.length by omega)) (Nat.le_refl _) h1;rw [show ((1:Nat):Int)=1 from rfl] at hm;simp only [h,dF,bF,if_false];rcases hm with hm | ⟨hm,hu⟩
    · simp only [hm,oB,oS,oP]
    · simp only [hm,hu,oB,oS,oP,id]
def minV (a b:List Int):List Int:=List.zipWith (fun x y=>W (x - y)) a b
def inPt (P:zD) (part:Int) (d:yH):Bool:=(zIns P d.From.toNat).Part == part && (zIns P d.To.toNat).Part == part
def dvF (P:zD) (d:yH):List Int:=minV (zIns P d.To.toNat).Point (zIns P d.From.toNat).Point
def dvs (P:zD) (part:Int):List (List Int):=((dpF P).filter (inPt P part)).map (dvF P)
def dsF (P:zD) (part:Int):List (List Int):=uniqL (srtL (dvs P part))
theorem zIm {P:zD}{d:yH} (h:d ∈ dpF P):validP P=true∧∃ i k:Nat,d.From=(i:Int)∧d.To=(k:Int)∧i < k∧k < (progI P).length:=by
  unfold dpF at h;split at h
  · rename_i hv;obtain ⟨i,k,rfl,h1,h2,_⟩:=zNO h;exact ⟨hv,i,k,rfl,rfl,h1,h2⟩
  · cases h
theorem zKi {P:zD} (hb:BG P) (hv:validP P=true) {i k:Nat} (hi:i < (progI P).length) (hk:k < (progI P).length) (hp:(zIns P i).Part=(zIns P k).Part):(zIns P i).Point.length=(zIns P k).Point.length∧(zIns P k).Point.length=(gP P (zIns P k).Part.toNat).Nest.length:=by
  have a:=zGY (dG hb hv (zB0 hi)).pin.2.2.2;have b:=zGY (dG hb hv (zB0 hk)).pin.2.2.2;rw [hp] at a;exact ⟨by rw [a,b],b⟩
theorem zNP {a b:zL} (hl:a.Point.length=b.Point.length) (h4:b.Point.length ≤ 4):∀ (j q:Nat) (o:List Int),q + j=b.Point.length→o.length ≤ q→vO a b o (q:Int)=some (o ++ minV (b.Point.drop q) (a.Point.drop q)):=by
  intro j
  induction j with
  | zero =>
    intro q o hq ho;rw [vO];have:¬((q:Int) < (b.Point.length:Int)):=by omega
    simp only [this,dF,bF,if_false,oP,id];rw [dN.2 (show b.Point.length ≤ q by omega)];simp [minV]
  | succ j ih =>
    intro q o hq ho;have h1:q < b.Point.length:=by omega
    have h2:q < a.Point.length:=by omega
    have hc:((q:Int) < (b.Point.length:Int)):=by omega
    rw [vO,gC h1,gC h2];simp only [hc,dT,if_true,yJ h1,yJ h2,oB,oS,rS (show (o.length + [W (b.Point[q] - a.Point[q])].length) * 8 ≤ 140737488355328 by simp; omega)];rw [wD (by omega),ih (q + 1) _ (by omega) (by rw [lA]; simp; omega),List.append_assoc]; rfl
theorem zMW {a b:List Int} (hl:a.length=b.length) (h4:a.length ≤ 4):∀ (j q:Nat) (o:List Int),q + j=a.length→o.length ≤ q→pL a b o (q:Int)=some (o ++ minV (a.drop q) (b.drop q)):=by
  intro j
  induction j with
  | zero =>
    intro q o hq ho;rw [pL];have:¬((q:Int) < (a.length:Int)):=by omega
    simp only [this,dF,bF,if_false,oP,id];rw [dN.2 (show a.length ≤ q by omega)];simp [minV]
  | succ j ih =>
    intro q o hq ho;have h1:q < a.length:=by omega
    have h2:q < b.length:=by omega
    have hc:((q:Int) < (a.length:Int)):=by omega
    rw [pL,gC h1,gC h2];simp only [hc,dT,if_true,yJ h1,yJ h2,oB,oS,rS (show (o.length + [W (a[q] - b[q])].length) * 8 ≤ 140737488355328 by simp; omega)];rw [wD (by omega),ih (q + 1) _ (by omega) (by rw [lA]; simp; omega),List.append_assoc]; rfl
theorem specMinus {a b:List Int} (hl:a.length=b.length) (h4:a.length ≤ 4):gY a b=some (minV a b):=by
  have h:=zMW hl h4 a.length 0 [] (Nat.zero_add _) (Nat.le_refl _);rw [nZ,List.drop_zero,List.drop_zero,List.nil_append] at h;unfold gY;rw [h]; rfl
theorem zJm (P:zD):(trcP P).list=progI P:=rfl
theorem zNQ {P:zD} (hb:BG P) (hv:validP P=true) (part:Int) {D:List yH} (hD:∀ d ∈ D,d ∈ dpF P) (hl:D.length ≤ 1000000):∀ (j q:Nat) (o:List (List Int)),q + j=D.length→o.length ≤ q→xX (trcP P) part D o (q:Int)=some (o ++ ((D.drop q).filter (inPt P part)).map (dvF P)):=by
  intro j
  induction j with
  | zero =>
    intro q o hq ho;rw [xX];have:¬((q:Int) < (D.length:Int)):=by omega
    simp only [this,dF,bF,if_false,oP,id];rw [dN.2 (by omega)]; simp
  | succ j ih =>
    intro q o hq ho;have hlt:q < D.length:=by omega
    have hc:((q:Int) < (D.length:Int)):=by omega
    obtain ⟨_,i,k,e1,e2,h1,h2⟩:=zIm (hD D[q] (gM hlt));have hi:i < (progI P).length:=by omega
    have x1:idx (trcP P).list D[q].From=some (zIns P i):=by rw [zJm,e1,yJ hi,zAy hi]
    have x2:idx (trcP P).list D[q].To=some (zIns P k):=by rw [zJm,e2,yJ h2,zAy h2]
    have hpt:inPt P part D[q]=((zIns P i).Part == part && (zIns P k).Part == part):=by unfold inPt; rw [e1,e2,iN,iN]
    rw [xX,gC hlt,List.filter_cons,hpt];have et:(if ((zIns P i).Part != part)=true then some true else some ((zIns P k).Part != part))=some (!((zIns P i).Part == part && (zIns P k).Part == part)):=by
      unfold bne;cases (zIns P i).Part == part <;> rfl
    simp only [hc,dT,if_true,yJ hlt,x1,x2,oB,oS,oP,et];cases hp:((zIns P i).Part == part && (zIns P k).Part == part) with
    | false =>
      simp only [Bool.not_false,if_true,bF,if_false];rw [wD (by omega),ih (q + 1) _ (by omega) (by omega)]
    | true =>
      simp only [bA,beq_iff_eq] at hp;have hs:=(zKi hb hv hi h2 (by rw [hp.1,hp.2])).1;have h4:=(dG hb hv (zB0 h2)).pt;have hd:=zNP hs h4 _ 0 [] (Nat.zero_add _) (Nat.le_refl 0);rw [nZ,List.drop_zero,List.drop_zero,List.nil_append] at hd;have ev:dvF P D[q]=minV (zIns P k).Point (zIns P i).Point:=by unfold dvF; rw [e1,e2,iN,iN]
      simp only [bT,bF,if_false,if_true,hd,oS,rS (show (o.length + [minV (zIns P k).Point (zIns P i).Point].length) * 24 ≤ 140737488355328 by simp; omega)];rw [wD (by omega),ih (q + 1) _ (by omega) (by rw [lA]; simp; omega),List.append_assoc,List.map_cons,ev]; rfl
theorem zH3 (a b:List Int):(minV a b).length=min a.length b.length:=List.length_zipWith
theorem zIn {P:zD} (part:Int):(dvs P part).length ≤ 14400:=by
  unfold dvs;rw [lM];exact Nat.le_trans (List.length_filter_le _ _) zIi
theorem zKj {P:zD} (hb:BG P) {part:Int}{l:List Int} (h:l ∈ dvs P part):validP P=true∧∃ i k:Nat,i < k∧k < (progI P).length∧(zIns P i).Part=part∧(zIns P k).Part=part∧l=minV (zIns P k).Point (zIns P i).Point:=by
  unfold dvs at h;obtain ⟨d,hd,rfl⟩:=List.mem_map.1 h;rw [List.mem_filter] at hd;obtain ⟨hv,i,k,e1,e2,h1,h2⟩:=zIm hd.1;have hp:=hd.2;unfold inPt at hp;rw [e1,e2,iN,iN,bA,beq_iff_eq,beq_iff_eq] at hp;exact ⟨hv,i,k,h1,h2,hp.1,hp.2,by unfold dvF; rw [e1,e2,iN,iN]⟩
theorem zFe {P:zD} (hb:BG P) {part:Int}{l:List Int} (h:l ∈ dvs P part):l.length ≤ 4:=by
  obtain ⟨hv,i,k,h1,h2,_,_,rfl⟩:=zKj hb h;have:=(dG hb hv (zB0 h2)).pt;rw [zH3]; omega
theorem zMX {P:zD}{part:Int}{l:List Int}:l ∈ dsF P part ↔ l ∈ dvs P part:=by unfold dsF; rw [zB1,zIk]
theorem zMY {P:zD} (part:Int):(dsF P part).length ≤ 14400:=by
  have h1:=zJg (srtL (dvs P part));have h2:=zKh (dvs P part);have h3:=zIn (P:=P) part;unfold dsF; omega
theorem isPartL {P:zD} (hb:BG P) (part:Int):mH P part=some (decide (0 ≤ part) && decide (part ≤ (P.Parts.length:Int) - 1)):=by
  have:=hb.2.1;unfold mH;simp only [mD,rH (x:=(P.Parts.length:Int) - 1) (by omega) (by omega),oB,oS,oP,id]
theorem tdist {P:zD} (hb:BG P) (hv:validP P=true) (part:Int):qU (trcP P) part=some (dsF P part):=by
  have hy:mF (trcP P)=some (dpF P):=by
    have hlen:=(jM hv).2.2.2;have hi:∀ z ∈ progI P,InP P z:=fun z hz=>dG hb hv hz;have hl:=zNN hi hlen _ 0 [] (Nat.zero_add _) (by simp);rw [nZ,List.nil_append] at hl;unfold dpF;simp only [mF,hl,hv,if_true,oB,oS,oP,id]
  have hlen:=zIi (P:=P);have h1:=zNQ hb hv part (D:=dpF P) (fun _ h=>h) (by omega) _ 0 [] (Nat.zero_add _) (Nat.le_refl 0);rw [nZ,List.drop_zero,List.nil_append] at h1;have h1:xX (trcP P) part (dpF P) [] 0=some (dvs P part):=h1;have hs:rF (dvs P part)=some (srtL (dvs P part)):=by
    unfold rF;have:=zIn (P:=P) part;rw [if_pos ⟨by omega,fun l hl=>by have:=zFe hb hl; omega⟩]
  have hc:uA (srtL (dvs P part))=some (dsF P part) :=
    compactV (by rw [zKh]; have:=zIn (P:=P) part; omega) fun l hl=>by have:=zFe hb (zIk.1 hl); omega
  unfold qU;simp only [hy,h1,hs,hc,oB,oS,oP,id]
theorem specLex (a b:List Int) (ha:a.length ≤ 1048576) (hl:a.length=b.length):gX a b=some (ltL a b):=by
  have key:∀ (j q:Nat),q + j=a.length→(∃ c,rW a b (q:Int)=some (.ret c)∧c=ltL (a.drop q) (b.drop q))∨(rW a b (q:Int)=some (.done ())∧ltL (a.drop q) (b.drop q)=false):=by
    intro j
    induction j with
    | zero =>
      intro q hq;refine .inr ⟨?_,?_⟩
      · rw [rW];have:¬((q:Int) < (a.length:Int)):=by omega
        simp only [this,dF,bF,if_false,oB,oS,oP]
      · rw [dN.2 (show a.length ≤ q by omega),dN.2 (show b.length ≤ q by omega)]; rfl
    | succ j ih =>
      intro q hq;have h1:q < a.length:=by omega
      have h2:q < b.length:=by omega
      have hc:((q:Int) < (a.length:Int)):=by omega
      have hc2:((q:Int) < (b.length:Int)):=by omega
      rw [rW,gC h1,gC h2];simp only [hc,hc2,dT,if_true,yJ h1,yJ h2,oB,oS,oP];unfold ltL;rw [cmpL];by_cases e1:a[q] < b[q]
      · refine .inl ⟨true,?_,?_⟩
        · have:(a[q] != b[q])=true:=by simp; omega
          simp [this,e1]
        · simp [e1]
      · by_cases e2:b[q] < a[q]
        · refine .inl ⟨false,?_,?_⟩
          · have:(a[q] != b[q])=true:=by simp; omega
            simp [this,e1]
          · simp [e1,e2]
        · have:(a[q] != b[q])=false:=by simp; omega
          simp only [this,bF,if_false,e1,e2];rw [wD (by omega)];exact ih (q + 1) (by omega)
  unfold gX;have h:=key a.length 0 (Nat.zero_add _);rw [nZ,List.drop_zero,List.drop_zero] at h;rcases h with ⟨c,h,rfl⟩ | ⟨h,h2⟩
  · simp only [h,oB,oS,oP]
  · have:¬((a.length:Int) < (b.length:Int)):=by omega
    simp only [h,h2,this,dF,oB,oS,oP]
theorem zOC {list:List (List Int)}{d:List Int}{m:Nat} (hm:m ≤ 4) (hd:d.length=m) (hr:∀ x ∈ list,x.length=m) (hl:list.length ≤ 100000):∀ (j q:Nat) (o:List (List Int)) (b:Bool),q + j=list.length→o.length ≤ 2 * q →
    pT list d o b (q:Int)=some (if d ∈ list.drop q then .ret list else .done (o ++ (insC d b (list.drop q)).1,(insC d b (list.drop q)).2)):=by
  intro j
  induction j with
  | zero =>
    intro q o b hq ho
    rw [pT]
    have:¬((q:Int) < (list.length:Int)):=by omega
    simp only [this,dF,bF,if_false,oP]
    rw [dN.2 (show list.length ≤ q by omega)]
    cases b <;> simp [insC]
  | succ j ih =>
    intro q o b hq ho
    have h1:q < list.length:=by omega
    have hc:((q:Int) < (list.length:Int)):=by omega
    have hx:list[q].length=m:=hr _ (gM h1)
    rw [pT,gC h1]
    simp only [hc,dT,if_true,yJ h1,specEqR list[q] d (by omega),oB,oS,oP]
    by_cases e:list[q]=d
    · have hin:d ∈ list[q]::list.drop (q + 1):=by rw [e]; exact List.mem_cons_self ..
      simp only [e,dT,if_true]
      rw [if_pos (by rw [e] at hin; exact hin)]
    · have hin:(d ∈ list[q]::list.drop (q + 1)) ↔ d ∈ list.drop (q + 1):=by
        rw [List.mem_cons]
        exact ⟨fun h=>h.resolve_left fun h=>e h.symm,.inr⟩
      simp only [e,dF,bF,if_false]
      have hcase:∀ (o2:List (List Int)) (b2:Bool),o2.length ≤ 2 * q + 1→(app 24 o2 [list[q]]).bind (fun o4=>pT list d o4 b2 (W ((q:Int) + 1)))=some (if d ∈ list.drop (q + 1) then .ret list else .done (o2 ++ [list[q]] ++ (insC d b2 (list.drop (q + 1))).1,(insC d b2 (list.drop (q + 1))).2)):=fun o2 b2 ho2=>by
        rw [rS (show (o2.length + [list[q]].length) * 24 ≤ 140737488355328 by simp; omega),oS,wD (by omega),ih (q + 1) _ b2 (by omega) (by rw [lA]; simp; omega)]
      cases b with
      | true =>
        simp only [bT,bF,if_false,oS]
        rw [hcase o true (by omega)]
        simp only [hin,insC,List.append_assoc,List.singleton_append]
      | false =>
        simp only [Bool.not_false,if_true,specLex d list[q] (by omega) (by omega),oS,id]
        cases hlt:ltL d list[q] with
        | true =>
          simp only [if_true,rS (show (o.length + [d].length) * 24 ≤ 140737488355328 by simp; omega),oS]
          rw [hcase (o ++ [d]) true (by rw [lA]; simp; omega)]
          simp only [hin,insC,hlt,if_true,List.append_assoc,List.singleton_append,List.cons_append,List.nil_append]
        | false =>
          simp only [bF,if_false,oS]
          rw [hcase o false (by omega)]
          simp only [hin,insC,hlt,bF,if_false,List.append_assoc,List.singleton_append]
theorem specAdd {list:List (List Int)}{d:List Int}{m:Nat} (hm:m ≤ 4) (hd:d.length=m) (hr:∀ x ∈ list,x.length=m) (hl:list.length ≤ 100000):eN list d=some (addF list d):=by
  have h:=zOC hm hd hr hl _ 0 [] false (Nat.zero_add list.length) (Nat.le_refl 0);rw [nZ,List.drop_zero,List.nil_append] at h;unfold eN addF;rw [h];by_cases c:d ∈ list
  · rw [if_pos c,if_pos c]; rfl
  · rw [if_neg c,if_neg c];have hi:=zH2 d list;have hn:=zJj d false list;simp only [oB,oS,oP];cases hb:(insC d false list).2 with
    | true =>
      rw [hb,if_pos rfl] at hi;simp only [bT,bF,if_false,oS,id,hi]
    | false =>
      rw [hb,if_neg (by decide)] at hi;simp only [Bool.not_false,if_true,rS (show ((insC d false list).1.length + [d].length) * 24 ≤ 140737488355328 by simp; omega),oS,id,hi]
theorem zMZ {m:Nat}{l:List (List Int)}{d:List Int} (hd:d.length=m) (h:∀ x ∈ l,x.length=m):∀ x ∈ addF l d,x.length=m:=by
  unfold addF;split
  · exact h
  · intro x hx;rcases zEo.1 hx with rfl | hx
    · exact hd
    · exact h x hx
theorem zLQ {P:zD} (hb:BG P) (hv:validP P=true) (part:Int) {D:List yH} (hD:∀ d ∈ D,d ∈ dpF P) (hl:D.length ≤ 20000) {m:Nat} (hm:m ≤ 4) (hN:∀ k,k < (progI P).length→(zIns P k).Part=part→(zIns P k).Point.length=m):∀ (j q:Nat) (o:List (List Int)),q + j=D.length→o.length ≤ q→(∀ x ∈ o,x.length=m)→uO part (progI P) D o (q:Int)=some ((((D.drop q).filter (inPt P part)).map (dvF P)).foldl addF o):=by
  intro j
  induction j with
  | zero =>
    intro q o hq ho hor;rw [uO];have:¬((q:Int) < (D.length:Int)):=by omega
    simp only [this,dF,bF,if_false,oP,id];rw [dN.2 (by omega)]; rfl
  | succ j ih =>
    intro q o hq ho hor;have hlt:q < D.length:=by omega
    have hc:((q:Int) < (D.length:Int)):=by omega
    obtain ⟨_,i,k,e1,e2,h1,h2⟩:=zIm (hD D[q] (gM hlt));have hi:i < (progI P).length:=by omega
    have x1:idx (progI P) D[q].From=some (zIns P i):=by rw [e1,yJ hi,zAy hi]
    have x2:idx (progI P) D[q].To=some (zIns P k):=by rw [e2,yJ h2,zAy h2]
    have hpt:inPt P part D[q]=((zIns P i).Part == part && (zIns P k).Part == part):=by unfold inPt; rw [e1,e2,iN,iN]
    rw [uO,gC hlt,List.filter_cons,hpt];have et:(if ((zIns P i).Part == part)=true then some ((zIns P k).Part == part) else some false)=some ((zIns P i).Part == part && (zIns P k).Part == part):=by
      cases (zIns P i).Part == part <;> rfl
    simp only [hc,dT,if_true,yJ hlt,x1,x2,oB,oS,oP,et];cases hp:((zIns P i).Part == part && (zIns P k).Part == part) with
    | false =>
      simp only [bF,if_false,oS,id];rw [wD (by omega),ih (q + 1) _ (by omega) (by omega) hor]
    | true =>
      simp only [bA,beq_iff_eq] at hp;have n1:=hN i hi hp.1;have n2:=hN k h2 hp.2;have ev:dvF P D[q]=minV (zIns P k).Point (zIns P i).Point:=by unfold dvF; rw [e1,e2,iN,iN]
      have hdl:(minV (zIns P k).Point (zIns P i).Point).length=m:=by rw [zH3,n1,n2,Nat.min_self]
      have ha:=zMT o (minV (zIns P k).Point (zIns P i).Point);simp only [if_true,specMinus (show (zIns P k).Point.length=(zIns P i).Point.length by rw [n1,n2]) (by omega),specAdd hm hdl hor (by omega),oS,id];rw [wD (by omega),ih (q + 1) _ (by omega) (by omega) (zMZ hdl hor),List.map_cons,List.foldl_cons,ev]
theorem specDist (P:zD) (hb:BG P) (part:Int):jE P part=some (dsF P part):=by
  unfold jE;rw [specValidP P hb];cases hv:validP P with
  | false =>
    have e:dvs P part=[]:=by unfold dvs dpF; rw [hv]; rfl
    have e2:dsF P part=[]:=by unfold dsF; rw [e]; exact zMU
    rw [e2]; rfl
  | true =>
    have hD:dpF P=depA P 0 (progI P).length:=by unfold dpF; rw [hv]; rfl
    have hlen:=zIi (P:=P);have h:=zLQ hb hv part (D:=dpF P) (fun _ h=>h) (by omega) (m:=if part.toNat < P.Parts.length then min (gP P part.toNat).Nest.length 4 else 0) (by split <;> omega) (fun k hk hp=>by
      have a:=zGY (dG hb hv (zB0 hk)).pin.2.2.2;have b:=(dG hb hv (zB0 hk)).part;have c:=(dG hb hv (zB0 hk)).pt;rw [hp] at a b;rw [if_pos (by omega)]; omega) _ 0 [] (Nat.zero_add _) (Nat.le_refl 0) (by simp)
    rw [nZ,List.drop_zero] at h;have h:uO part (progI P) (dpF P) [] 0=some ((dvs P part).foldl addF []):=h;rw [zLP,hD] at h;simp only [oB,oS,bT,bF,if_false,jV,specInst4 P hv,specDeps6 P hb hv,h,oP,id];rfl
end Go.LN
