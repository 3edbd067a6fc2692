/- Helper of the proof (see the last text). -/
import Derived.Test.YtpacccdphbhfbaaGreatVB1
import Derived.Test.YtpacccdphbhfbaaGreatQZ
set_option linter.unusedVariables false
set_option linter.unusedSimpArgs false
namespace Go.LN
def BP (x:zL):Prop:=BN x.Nest∧x.Body.length ≤ 100000∧∀ s ∈ x.Body,BS s
def bodyB (x:zL):Bool:=(decide (1 ≤ x.Body.length) && decide (x.Body.length ≤ 4)) && x.Body.all fun s=>stmtB s (x.Nest.length:Int)
def partB (A:List zF) (x:zL):Bool:=(nestPts x.Nest).2 && bodyB x && (nestPts x.Nest).1.all fun q=>ptB q && x.Body.all fun s=>stOk A s q
def instR (k:Int) (q:List Int) (i j:Nat):List zM:=(List.range' i j).map fun (i:Nat)=>⟨k,(i:Int),q⟩
theorem zDm (k:Int) (q:List Int) (i j:Nat):(instR k q i j).length=j:=by simp [instR]
theorem len14 (n:Nat):(decide ((1:Int) ≤ (n:Int)) && decide ((n:Int) ≤ 4))=(decide (1 ≤ n) && decide (n ≤ 4)):=by
  have e1:decide ((1:Int) ≤ (n:Int))=decide (1 ≤ n):=by simp; omega
  have e2:decide ((n:Int) ≤ 4)=decide (n ≤ 4):=by simp; omega
  rw [e1,e2]
theorem zKK (P:zK) (k:Int) (x:zL) (q:List Int) (hq:q.length ≤ 4) (hb:x.Body.length ≤ 4) (hs:∀ s ∈ x.Body,stmtB s (x.Nest.length:Int)=true) (hR:RV P.Arrays) :
    ∀ (j i:Nat) (o:List zM),i + j=x.Body.length→o.length + j ≤ 1000000→wP P k x q o (i:Int)=some (if (x.Body.drop i).all (fun s=>stOk P.Arrays s q) then .done (o ++ instR k q i j) else .ret ([],false)):=by
  intro j
  induction j with
  | zero =>
    intro i o hi ho
    rw [wP]
    have:¬((i:Int) < (x.Body.length:Int)):=by omega
    simp only [this,dF,bF,if_false]
    rw [show x.Body.drop i=[] from dN.2 (by omega)]
    simp [instR]
  | succ j ih =>
    intro i o hi ho
    rw [wP]
    have hlt:i < x.Body.length:=by omega
    have hc:((i:Int) < (x.Body.length:Int)):=by omega
    have happ:app 40 o [(⟨k,(i:Int),q⟩:zM)]=some (o ++ [⟨k,(i:Int),q⟩]):=nH (by simp; omega)
    simp only [hc,dT,if_true,yT hlt,oB,oS,implStmtOk P _ q (hs _ (gM hlt)) hq hR,zFM q (by omega),happ]
    rw [tC (by omega),gC hlt,List.all_cons]
    cases stOk P.Arrays x.Body[i] q with
    | false=>rfl
    | true =>
      simp only [bT,bF,if_false,Bool.true_and]
      rw [ih (i + 1) _ (by omega) (by simp; omega),List.append_assoc]
      simp only [instR,List.range'_succ,List.map_cons,List.singleton_append]
def ptOk (A:List zF) (x:zL) (q:List Int):Bool:=ptB q && x.Body.all fun s=>stOk A s q
theorem zKL (P:zK) (k:Int) (x:zL) (qs:List (List Int)) (hq:∀ q ∈ qs,q.length ≤ 4) (hql:qs.length ≤ 120) (hb:x.Body.length ≤ 4) (hs:∀ s ∈ x.Body,stmtB s (x.Nest.length:Int)=true) (hR:RV P.Arrays) :
    ∀ (j i:Nat) (o:List zM),i + j=qs.length→o.length + 4 * j ≤ 1000000→wQ P k x qs o (i:Int)=some (if (qs.drop i).all (ptOk P.Arrays x) then .done (o ++ (qs.drop i).flatMap fun q=>instR k q 0 x.Body.length) else .ret ([],false)):=by
  intro j
  induction j with
  | zero =>
    intro i o hi ho
    rw [wQ]
    have:¬((i:Int) < (qs.length:Int)):=by omega
    simp only [this,dF,bF,if_false]
    rw [show qs.drop i=[] from dN.2 (by omega)]
    simp
  | succ j ih =>
    intro i o hi ho
    rw [wQ]
    have hlt:i < qs.length:=by omega
    have hc:((i:Int) < (qs.length:Int)):=by omega
    have hq4:=hq _ (gM hlt)
    have h3:=zKK P k x qs[i] hq4 hb hs hR x.Body.length 0 o (Nat.zero_add _) (by omega)
    rw [nZ,List.drop_zero] at h3
    simp only [hc,dT,if_true,yT hlt,oB,oS,implPoint _ (show qs[i].length ≤ 1048576 by omega),h3]
    rw [tC (by omega),gC hlt,List.all_cons,List.flatMap_cons,ptOk]
    cases ptB qs[i] with
    | false=>rfl
    | true =>
      simp only [bT,bF,if_false,Bool.true_and]
      cases x.Body.all fun s=>stOk P.Arrays s qs[i] with
      | false=>rfl
      | true =>
        simp only [if_true,oS,Bool.true_and]
        rw [ih (i + 1) _ (by omega) (by rw [lA,zDm]; omega),List.append_assoc]
def partI (k:Int) (x:zL):List zM:=(nestPts x.Nest).1.flatMap fun q=>instR k q 0 x.Body.length
theorem zHL (k:Int) (b:Nat):∀ qs:List (List Int),(qs.flatMap fun q=>instR k q 0 b).length=qs.length * b
  | []=>by simp
  | q::qs=>by rw [List.flatMap_cons,lA,zDm,zHL k b qs,List.length_cons,Nat.succ_mul]; omega
theorem zFx (k:Int) (x:zL):(partI k x).length=(nestPts x.Nest).1.length * x.Body.length:=zHL _ _ _
theorem zAa {x:zL} (h:bodyB x=true):1 ≤ x.Body.length∧x.Body.length ≤ 4∧∀ s ∈ x.Body,stmtB s (x.Nest.length:Int)=true:=by
  simp only [bodyB,bA,decide_eq_true_eq] at h;exact ⟨h.1.1,h.1.2,List.all_eq_true.1 h.2⟩
theorem zFP (k:Int) {A:List zF}{x:zL} (h:partB A x=true):(partI k x).length ≤ 480:=by
  simp only [partB,bA] at h;obtain ⟨h1,h2,_⟩:=zAa h.1.2;have:=(zBS (nest:=x.Nest)).1;rw [zFx];exact Nat.mul_le_mul this h2
def gP (P:zK) (i:Nat):zL:=P.Parts.getD i ⟨[],[]⟩
theorem zKM (P:zK) (hP:P.Parts.length ≤ 4) (hb:∀ x ∈ P.Parts,BP x) (hR:RV P.Arrays) :
    ∀ (j i:Nat) (o:List zM),i + j=P.Parts.length→o.length ≤ 480 * i→wR P o (i:Int)=some (if (List.range' i j).all (fun i=>partB P.Arrays (gP P i)) then .done (o ++ (List.range' i j).flatMap fun (i:Nat)=>partI (i:Int) (gP P i)) else .ret ([],false)):=by
  intro j
  induction j with
  | zero =>
    intro i o hi ho
    rw [wR]
    have:¬((i:Int) < (P.Parts.length:Int)):=by omega
    simp only [this,dF,bF,if_false]
    simp
  | succ j ih =>
    intro i o hi ho
    rw [wR]
    have hlt:i < P.Parts.length:=by omega
    have hc:((i:Int) < (P.Parts.length:Int)):=by omega
    obtain ⟨b1,b2,b3⟩:=hb _ (gM hlt)
    have hg:gP P i=P.Parts[i]:=by simp [gP,hlt]
    have hcs:=zGU (f:=fun x0=>wY x0 P.Parts[i]) (p:=fun s=>!(stmtB s (P.Parts[i].Nest.length:Int))) P.Parts[i].Body (fun s hs=>by
        unfold wY
        rw [implStmt s _ (b3 s hs)]; rfl) (by omega)
    simp only [hc,dT,if_true,yT hlt,oB,oS,implPoints _ b1,qL,len14,hcs,oP,id]
    rw [tC (by omega),List.range'_succ,List.all_cons,List.flatMap_cons,hg]
    have hnl:=zBS (nest:=P.Parts[i].Nest)
    cases hn:(nestPts P.Parts[i].Nest).2 with
    | false=>simp [partB,hn]
    | true =>
      cases hb4:(decide (1 ≤ P.Parts[i].Body.length) && decide (P.Parts[i].Body.length ≤ 4)) with
      | false=>simp [partB,bodyB,hb4]
      | true =>
        have hany:(P.Parts[i].Body.any fun s=>!(stmtB s (P.Parts[i].Nest.length:Int)))=!(P.Parts[i].Body.all fun s=>stmtB s (P.Parts[i].Nest.length:Int)):=by
          rw [Bool.eq_iff_iff]; simp
        simp only [bT,bF,if_false,oS,hany]
        cases hall:P.Parts[i].Body.all fun s=>stmtB s (P.Parts[i].Nest.length:Int) with
        | false=>simp [partB,bodyB,hall]
        | true =>
          have hbb:bodyB P.Parts[i]=true:=by rw [bodyB,hb4,hall]; rfl
          obtain ⟨q1,q2,q3⟩:=zAa hbb
          have h2:=zKL P (i:Int) P.Parts[i] (nestPts P.Parts[i].Nest).1 hnl.2 hnl.1 q2 q3 hR _ 0 o (Nat.zero_add _) (by have:=hnl.1; omega)
          rw [nZ,List.drop_zero] at h2
          simp only [bT,bF,if_false,h2]
          have hpB:partB P.Arrays P.Parts[i]=(nestPts P.Parts[i].Nest).1.all (ptOk P.Arrays P.Parts[i]):=by rw [partB,hn,hbb]; rfl
          rw [hpB]
          cases hpt:(nestPts P.Parts[i].Nest).1.all (ptOk P.Arrays P.Parts[i]) with
          | false=>simp
          | true =>
            have hle:=zFP (i:Int) (A:=P.Arrays) (x:=P.Parts[i]) (by rw [hpB,hpt])
            simp only [if_true,oS,Bool.true_and]
            rw [show (o ++ (nestPts P.Parts[i].Nest).1.flatMap fun q=>instR (i:Int) q 0 P.Parts[i].Body.length)=o ++ partI (i:Int) P.Parts[i] from rfl]
            rw [ih (i + 1) _ (by omega) (by rw [lA]; omega),List.append_assoc]
def BG (P:zK):Prop:=BR P.Arrays∧P.Parts.length ≤ 100000∧∀ x ∈ P.Parts,BP x
def progB (P:zK):Bool:=arrB P.Arrays && decide (P.Parts.length ≤ 4) && (List.range' 0 P.Parts.length).all fun i=>partB P.Arrays (gP P i)
def progI (P:zK):List zM:=(List.range' 0 P.Parts.length).flatMap fun (i:Nat)=>partI (i:Int) (gP P i)
def validP (P:zK):Bool:=progB P && decide ((progI P).length ≤ 120)
theorem implInstances (P:zK) (h:BG P):sT P=some (if progB P then (progI P,decide ((progI P).length ≤ 120)) else ([],false)):=by
  obtain ⟨h1,h2,h3⟩:=h;unfold sT progB;rw [implArrays _ h1];cases ha:arrB P.Arrays with
  | false=>simp
  | true =>
    by_cases h4:P.Parts.length ≤ 4
    · have e:¬((P.Parts.length:Int) > 4):=by omega
      have hl:=zKM P h4 h3 (RV.of h1 ha) _ 0 [] (Nat.zero_add _) (by simp);rw [nZ,List.nil_append] at hl;simp only [bT,bF,if_false,e,dF,oP,oB,oS,hl,h4,dT,Bool.true_and];cases hA:(List.range' 0 P.Parts.length).all fun i=>partB P.Arrays (gP P i) with
      | false=>simp
      | true =>
        simp only [if_true,progI]
        congr 2
        simp; omega
    · have e:((P.Parts.length:Int) > 4):=by omega
      simp [e,h4]
theorem implValidP (P:zK) (h:BG P):oK P=some (validP P):=by
  unfold oK validP;rw [implInstances P h];cases progB P <;> rfl
theorem zFy {R:Type}{r0:R}{n:Nat}{f:Int→Option (Out Unit R)}{P:Nat→Bool} (step:∀ i,i < n→f (i:Int)=if P i then f ((i + 1:Nat):Int) else some (.ret r0)) (fin:f (n:Int)=some (.done ())):f 0=some (if (List.range n).all P then .done () else .ret r0):=by
  have key:∀ j i,i + j=n→f (i:Int)=some (if (List.range' i j).all P then .done () else .ret r0):=by
    intro j
    induction j with
    | zero=>intro i hi; rw [show i=n by omega,fin]; rfl
    | succ j ih =>
      intro i hi;rw [step i (by omega),List.range'_succ,List.all_cons];cases hP:P i with
      | false=>simp
      | true=>simp only [if_true,Bool.true_and]; exact ih (i + 1) (by omega)
  have:=key n 0 (by omega);rw [List.range_eq_range'];exact this
theorem zHM (A:List zF) (x:zL) (qs:List (List Int)) (hq:∀ q ∈ qs,q.length ≤ 4) (hql:qs.length ≤ 120) (i:Nat) (hi:i < x.Body.length) (hs:stmtB x.Body[i] (x.Nest.length:Int)=true) (hbs:BS x.Body[i]) (hR:RV A) :
    uF A x qs (i:Int) 0=some (if qs.all (fun q=>stOk A x.Body[i] q && ptB q) then .done () else .ret (0,false)):=by
  have hl:=zFy (r0:=((0:Int),false)) (n:=qs.length) (f:=uF A x qs (i:Int)) (P:=fun k=>stOk A x.Body[i] (qs.getD k []) && ptB (qs.getD k [])) (fun k hk=>by
      rw [uF]
      have h1:((k:Int) < (qs.length:Int)):=by omega
      have hg:qs.getD k []=qs[k]:=by simp [hk]
      have hk4:=hq _ (gM hk)
      simp only [h1,dT,if_true,yT hi,yT hk,oB,oS,specCells A _ qs[k] hs hbs hk4 hR,specPoint _ (show qs[k].length ≤ 1048576 by omega),hg]
      rw [tC (by omega)]
      cases stOk A x.Body[i] qs[k] with
      | false=>simp
      | true=>cases ptB qs[k] <;> simp) (by
      rw [uF]; simp)
  rw [hl,gB qs (fun q=>stOk A x.Body[i] q && ptB q)]
def EXz:zD:=zD.mk 0 0 (zA.mk [] 0) (zG.mk ⟨[]⟩ []) []
theorem zHN (A:List zF) (x:zL) (hx:BP x) (qs:List (List Int)) (hq:∀ q ∈ qs,q.length ≤ 4) (hql:qs.length ≤ 120) (hR:RV A) :
    uG A x qs 0=some (if x.Body.all (fun s=>stmtB s (x.Nest.length:Int) && qs.all (fun q=>stOk A s q && ptB q)) then .done () else .ret (0,false)):=by
  obtain ⟨b1,b2,b3⟩:=hx
  have hl:=zFy (r0:=((0:Int),false)) (n:=x.Body.length) (f:=uG A x qs) (P:=fun i=>(fun s=>stmtB s (x.Nest.length:Int) && qs.all (fun q=>stOk A s q && ptB q)) (x.Body.getD i ⟨⟨⟨[]⟩,[]⟩,EXz⟩)) (fun i hi=>by
      rw [uG]
      have h1:((i:Int) < (x.Body.length:Int)):=by omega
      have hg:x.Body.getD i ⟨⟨⟨[]⟩,[]⟩,EXz⟩=x.Body[i]:=by simp [hi]
      have hbs:=b3 _ (gM hi)
      simp only [h1,dT,if_true,yT hi,oB,oS,specStmt _ _ hbs,hg]
      rw [tC (by omega)]
      cases hst:stmtB x.Body[i] (x.Nest.length:Int) with
      | false=>simp
      | true =>
        simp only [bT,bF,if_false,zHM A x qs hq hql i hi hst hbs hR,Bool.true_and]
        cases qs.all (fun q=>stOk A x.Body[i] q && ptB q) <;> simp) (by
      rw [uG]; simp)
  rw [hl,gB x.Body (fun s=>stmtB s (x.Nest.length:Int) && qs.all (fun q=>stOk A s q && ptB q))]
theorem zJZ {A:List zF}{x:zL}{qs:List (List Int)} (h1:1 ≤ x.Body.length) :
    (x.Body.all (fun s=>stmtB s (x.Nest.length:Int) && qs.all (fun q=>stOk A s q && ptB q)))=((x.Body.all fun s=>stmtB s (x.Nest.length:Int)) && qs.all (ptOk A x)):=by
  rw [Bool.eq_iff_iff,bA,List.all_eq_true,List.all_eq_true,List.all_eq_true]
  constructor
  · intro h
    refine ⟨fun s hs=>((bA _ _).mp (h s hs)).1,fun q hq=>?_⟩
    have hall:∀ s ∈ x.Body,stOk A s q=true∧ptB q=true:=fun s hs=>by
      have:=((bA _ _).mp (h s hs)).2
      have:=List.all_eq_true.1 this q hq
      rwa [bA] at this
    rw [ptOk,bA,List.all_eq_true]
    exact ⟨(hall x.Body[0] (gM (by omega))).2,fun s hs=>(hall s hs).1⟩
  · rintro ⟨h2,h3⟩ s hs
    rw [bA,List.all_eq_true]
    refine ⟨h2 s hs,fun q hq=>?_⟩
    have:=h3 q hq
    rw [ptOk,bA,List.all_eq_true] at this
    rw [bA]
    exact ⟨this.2 s hs,this.1⟩
theorem specPart (A:List zF) (x:zL) (hx:BP x) (hR:RV A):pS A x=some (if partB A x then (((nestPts x.Nest).1.length * x.Body.length:Nat):Int) else 0,partB A x):=by
  have hnl:=zBS (nest:=x.Nest);have hl:=zHN A x hx (nestPts x.Nest).1 hnl.2 hnl.1 hR;obtain ⟨b1,b2,b3⟩:=hx;unfold pS partB;rw [specPoints _ b1];cases hn:(nestPts x.Nest).2 with
  | false=>simp [hn]
  | true =>
    by_cases q1:1 ≤ x.Body.length
    · have q1':¬((x.Body.length:Int) < 1):=by omega
      by_cases q2:x.Body.length ≤ 4
      · have q2':¬((x.Body.length:Int) > 4):=by omega
        have hm:(nestPts x.Nest).1.length * x.Body.length ≤ 120 * 4:=Nat.mul_le_mul hnl.1 q2;have hW:W (((nestPts x.Nest).1.length:Int) * (x.Body.length:Int))=(((nestPts x.Nest).1.length * x.Body.length:Nat):Int):=by
          rw [← Int.natCast_mul]; exact uP (by omega) (by omega)
        have hb:bodyB x=x.Body.all fun s=>stmtB s (x.Nest.length:Int):=by simp [bodyB,q1,q2]
        have hsw:=zJZ (A:=A) (qs:=(nestPts x.Nest).1) q1;rw [hsw] at hl;have hpt:((nestPts x.Nest).1.all fun q=>ptB q && x.Body.all fun s=>stOk A s q)=(nestPts x.Nest).1.all (ptOk A x):=rfl;simp only [hn,bT,bF,if_false,q1',q2',dF,oP,oB,oS,hl,hb,hpt,hW,Bool.true_and];cases ((x.Body.all fun s=>stmtB s (x.Nest.length:Int)) && (nestPts x.Nest).1.all (ptOk A x)) <;> simp
      · have q2':((x.Body.length:Int) > 4):=by omega
        have hb:bodyB x=false:=by simp [bodyB,q2]
        simp [hn,q1',q2',hb]
    · have q1':((x.Body.length:Int) < 1):=by omega
      have hb:bodyB x=false:=by simp [bodyB,q1]
      simp [hn,q1',hb]
theorem zFQ (P:zK) (hP:P.Parts.length ≤ 4) (hb:∀ x ∈ P.Parts,BP x) (hR:RV P.Arrays) :
    ∀ (j i t:Nat),i + j=P.Parts.length→t ≤ 480 * i→wB P (t:Int) (i:Int)=some (if (List.range' i j).all (fun i=>partB P.Arrays (gP P i)) then .done (((t + ((List.range' i j).flatMap fun (i:Nat)=>partI (i:Int) (gP P i)).length:Nat)):Int) else .ret false):=by
  intro j
  induction j with
  | zero =>
    intro i t hi ht
    rw [wB]
    have:¬((i:Int) < (P.Parts.length:Int)):=by omega
    simp only [this,dF,bF,if_false]
    simp
  | succ j ih =>
    intro i t hi ht
    rw [wB]
    have hlt:i < P.Parts.length:=by omega
    have hc:((i:Int) < (P.Parts.length:Int)):=by omega
    have hg:gP P i=P.Parts[i]:=by simp [gP,hlt]
    simp only [hc,dT,if_true,yT hlt,oB,oS,specPart P.Arrays _ (hb _ (gM hlt)) hR]
    rw [tC (by omega),List.range'_succ,List.all_cons,List.flatMap_cons,hg]
    cases hp:partB P.Arrays P.Parts[i] with
    | false=>simp
    | true =>
      have hle:=zFP (i:Int) hp
      have hpl:=zFx (i:Int) P.Parts[i]
      rw [hpl] at hle
      have hW:W ((t:Int) + (((nestPts P.Parts[i].Nest).1.length * P.Parts[i].Body.length:Nat):Int))=((t + (nestPts P.Parts[i].Nest).1.length * P.Parts[i].Body.length:Nat):Int):=by
        rw [uP (by omega) (by omega)]; omega
      simp only [if_true,bT,bF,if_false,Bool.true_and,hW]
      rw [ih (i + 1) _ (by omega) (by omega),lA,hpl,Nat.add_assoc]
theorem specValidP (P:zK) (h:BG P):vC P=some (validP P):=by
  obtain ⟨h1,h2,h3⟩:=h;unfold vC validP progB;rw [specArrays _ h1];cases ha:arrB P.Arrays with
  | false=>simp
  | true =>
    by_cases h4:P.Parts.length ≤ 4
    · have e:¬((P.Parts.length:Int) > 4):=by omega
      have hl:=zFQ P h4 h3 (RV.of h1 ha) _ 0 0 (Nat.zero_add _) (by simp);rw [nZ,Nat.zero_add] at hl;simp only [bT,bF,if_false,e,dF,oP,oB,oS,hl,h4,dT,Bool.true_and];cases hA:(List.range' 0 P.Parts.length).all fun i=>partB P.Arrays (gP P i) with
      | false=>simp
      | true =>
        simp only [if_true,progI,Bool.true_and]
        congr 1
        simp; omega
    · have e:((P.Parts.length:Int) > 4):=by omega
      simp [e,h4]
end Go.LN
namespace Go.LN
theorem fA {α:Type}{l:List α}{f:Int→List α→Option (List α)} (step:∀ (i:Nat) (h:i < l.length) (o:List α),o.length=i→f (i:Int) o=f ((i + 1:Nat):Int) (o ++ [l[i]])) (fin:∀ o,f (l.length:Int) o=some o):f 0 []=some l:=by
  have key:∀ j i,i + j=l.length→f (i:Int) (l.take i)=some l:=by
    intro j
    induction j with
    | zero =>
      intro i hi;rw [show i=l.length by omega,fin,List.take_of_length_le (Nat.le_refl _)]
    | succ j ih =>
      intro i hi;have hlt:i < l.length:=by omega
      have:=ih (i + 1) (by omega);rw [List.take_add_one,List.getElem?_eq_getElem hlt,Option.toList_some] at this;rw [step i hlt _ (by rw [List.length_take]; omega)];exact this
  exact key _ 0 (Nat.zero_add _)
theorem copyExpr:∀ (m:Nat) (e:zD),BE m e→rV e=some e
  | m,e,h=>by
    obtain ⟨h1,h2,h3⟩:=h.own
    rw [rV]
    have hl:=fA (l:=e.Kids) (f:=fun i o=>vG e i o) (fun i hi o ho=>by
        show vG e (i:Int) o=_
        rw [vG]
        have k1:((i:Int) < (e.Kids.length:Int)):=by omega
        obtain ⟨m',hm,hm'⟩:=h.kid (gM hi)
        have happ:app 112 o [e.Kids[i]]=some (o ++ [e.Kids[i]]):=nH (by simp; omega)
        have hr:=copyExpr m' e.Kids[i] hm'
        simp only [k1,dT,if_true,yT hi,oB,oS,same,hr,happ]
        rw [tC (by omega)]) (fun o=>by
        show vG e (e.Kids.length:Int) o=_
        rw [vG]; simp)
    simp only [specCopyAff _ h1,specCopyAcc _ h2,oB,oS,same]
    rw [show vG e 0 []=some e.Kids from hl]
    clear hl h h1 h2 h3
    cases e; rfl
theorem copyStmt (s:zN) (h:BS s):kM s=some s:=by
  obtain ⟨h1,m,h2⟩:=h;unfold kM;rw [specCopyAcc _ h1,copyExpr m _ h2];rfl
theorem copyNest (nest:List zE) (h:BN nest):oN nest=some nest:=by
  obtain ⟨h1,h2⟩:=h;unfold oN;have hl:=fA (l:=nest) (f:=fun i o=>uB nest o i) (fun i hi o ho=>by
      show uB nest o (i:Int)=_;rw [uB];have k1:((i:Int) < (nest.length:Int)):=by omega
      obtain ⟨⟨q1,q2⟩,q3,q4⟩:=h2 _ (gM hi);have happ:app 48 o [nest[i]]=some (o ++ [nest[i]]):=nH (by simp; omega);have hlo:=fA (l:=nest[i].Lo) (f:=fun k o=>tW nest (i:Int) k o) (fun k hk o ho=>by
          show tW nest (i:Int) (k:Int) o=_;rw [tW];have k2:((k:Int) < (nest[i].Lo.length:Int)):=by omega
          have hp:app 32 o [nest[i].Lo[k]]=some (o ++ [nest[i].Lo[k]]):=nH (by simp; omega);have ha:=q2 _ (gM hk);have hpn:app 8 ([]:List Int) nest[i].Lo[k].Coefs=some nest[i].Lo[k].Coefs:=fD _ (by unfold BA at ha; omega);simp only [yT hi,k2,dT,if_true,yT hk,oB,oS,hpn,hp];rw [tC (by omega)]) (fun o=>by
          show tW nest (i:Int) (nest[i].Lo.length:Int) o=_;rw [tW]; simp [yT hi])
      have hhi:=fA (l:=nest[i].Hi) (f:=fun k o=>tX nest (i:Int) k o) (fun k hk o ho=>by
          show tX nest (i:Int) (k:Int) o=_;rw [tX];have k2:((k:Int) < (nest[i].Hi.length:Int)):=by omega
          have hp:app 32 o [nest[i].Hi[k]]=some (o ++ [nest[i].Hi[k]]):=nH (by simp; omega);have ha:=q4 _ (gM hk);have hpn:app 8 ([]:List Int) nest[i].Hi[k].Coefs=some nest[i].Hi[k].Coefs:=fD _ (by unfold BA at ha; omega);simp only [yT hi,k2,dT,if_true,yT hk,oB,oS,hpn,hp];rw [tC (by omega)]) (fun o=>by
          show tX nest (i:Int) (nest[i].Hi.length:Int) o=_;rw [tX]; simp [yT hi])
      simp only [k1,dT,if_true,oB,oS,hlo,hhi,happ];rw [tC (by omega)]) (fun o=>by
      show uB nest o (nest.length:Int)=_;rw [uB]; simp)
  rw [hl]; rfl
theorem copyProg (P:zK) (h:BG P):rK P=some P:=by
  obtain ⟨⟨h1,h1'⟩,h2,h3⟩:=h;unfold rK;have ha:=fA (l:=P.Arrays) (f:=fun i o=>tY P i o) (fun i hi o ho=>by
      show tY P (i:Int) o=_;rw [tY];have k1:((i:Int) < (P.Arrays.length:Int)):=by omega
      have hd:=h1' _ (gM hi);have happ:app 40 o [P.Arrays[i]]=some (o ++ [P.Arrays[i]]):=nH (by simp; omega);have hpn:app 8 ([]:List Int) P.Arrays[i].Dims=some P.Arrays[i].Dims:=fD _ (by omega);simp only [k1,dT,if_true,yT hi,oB,oS,hpn,happ];rw [tC (by omega)]) (fun o=>by
      show tY P (P.Arrays.length:Int) o=_;rw [tY]; simp)
  have hp:=fA (l:=P.Parts) (f:=fun i o=>uC P i o) (fun i hi o ho=>by
      show uC P (i:Int) o=_;rw [uC];have k1:((i:Int) < (P.Parts.length:Int)):=by omega
      obtain ⟨b1,b2,b3⟩:=h3 _ (gM hi);have happ:app 48 o [P.Parts[i]]=some (o ++ [P.Parts[i]]):=nH (by simp; omega);have hb:=fA (l:=P.Parts[i].Body) (f:=fun k o=>tZ P (i:Int) k o) (fun k hk o ho=>by
          show tZ P (i:Int) (k:Int) o=_;rw [tZ];have k2:((k:Int) < (P.Parts[i].Body.length:Int)):=by omega
          have hp:app 152 o [P.Parts[i].Body[k]]=some (o ++ [P.Parts[i].Body[k]]):=nH (by simp; omega);simp only [yT hi,k2,dT,if_true,yT hk,oB,oS,copyStmt _ (b3 _ (gM hk)),hp];rw [tC (by omega)]) (fun o=>by
          show tZ P (i:Int) (P.Parts[i].Body.length:Int) o=_;rw [tZ]; simp [yT hi])
      simp only [k1,dT,if_true,yT hi,oB,oS,copyNest _ b1,hb,happ];rw [tC (by omega)]) (fun o=>by
      show uC P (P.Parts.length:Int) o=_;rw [uC]; simp)
  rw [ha,hp]; rfl
end Go.LN
namespace Go.LN
theorem BE.up1:∀ {n:Nat}{e:zD},BE n e→BE (n + 1) e
  | 0,e,⟨h1,h2,h3⟩=>⟨h1,h2,by rw [h3]; simp,by rw [h3]; intro k hk; cases hk⟩
  | n + 1,e,⟨h1,h2,h3,h4⟩=>⟨h1,h2,h3,fun k hk=>BE.up1 (h4 k hk)⟩
theorem BE.up {n m:Nat}{e:zD} (h:BE n e) (hm:n ≤ m):BE m e:=by
  obtain ⟨k,rfl⟩:=Nat.exists_eq_add_of_le hm
  induction k with
  | zero=>exact h
  | succ k ih=>exact BE.up1 (ih (by omega))
def QL (q:Nat) (l:List zA):Prop:=l.length ≤ q∧∀ a ∈ l,BA a
def QN (q:Nat) (nest:List zE):Prop:=nest.length ≤ 2000∧∀ x ∈ nest,QL q x.Lo∧QL q x.Hi
def QS (q:Nat) (s:zN):Prop:=QL q s.Write.Subs∧BA s.Value.Index∧BL s.Value.Read.Subs∧s.Value.Kids.length ≤ q∧∀ k ∈ s.Value.Kids,BE 6 k
theorem QL.up {q r:Nat}{l:List zA} (h:QL q l) (hq:q ≤ r):QL r l:=⟨Nat.le_trans h.1 hq,h.2⟩
theorem QL.bl {q:Nat}{l:List zA} (h:QL q l) (hq:q ≤ 1000):BL l:=⟨Nat.le_trans h.1 hq,h.2⟩
theorem QL.app {q k:Nat}{l m:List zA} (h:QL q l) (hm:QL k m):QL (q + k) (l ++ m):=by
  refine ⟨by rw [lA]; exact Nat.add_le_add h.1 hm.1,fun a ha=>?_⟩;rcases List.mem_append.1 ha with ha | ha
  · exact h.2 a ha
  · exact hm.2 a ha
theorem QL.nil {q:Nat}:QL q []:=⟨Nat.zero_le _,fun _ h=>by cases h⟩
theorem QL.one {a:zA} (h:BA a):QL 1 [a]:=⟨Nat.le_refl _,fun _ h'=>List.mem_singleton.1 h' ▸ h⟩
theorem QL.two {a b:zA} (h:BA a) (h2:BA b):QL 2 [a,b]:=QL.app (QL.one h) (QL.one h2)
theorem QN.up {q r:Nat}{l:List zE} (h:QN q l) (hq:q ≤ r):QN r l:=⟨h.1,fun x hx=>⟨(h.2 x hx).1.up hq,(h.2 x hx).2.up hq⟩⟩
theorem QN.bn {q:Nat}{l:List zE} (h:QN q l) (hq:q ≤ 1000):BN l:=⟨by have:=h.1; omega,fun x hx=>⟨(h.2 x hx).1.bl hq,(h.2 x hx).2.bl hq⟩⟩
theorem QN.set {q:Nat}{l:List zE} (h:QN q l) {x:zE} (hx:QL q x.Lo∧QL q x.Hi) (k:Nat):QN q (l.set k x):=⟨by rw [List.length_set]; exact h.1,zEW h.2 hx k⟩
theorem QS.up {q r:Nat}{s:zN} (h:QS q s) (hq:q ≤ r):QS r s:=⟨h.1.up hq,h.2.1,h.2.2.1,Nat.le_trans h.2.2.2.1 hq,h.2.2.2.2⟩
theorem QS.bs {q:Nat}{s:zN} (h:QS q s) (hq:q ≤ 1000):BS s:=⟨h.1.bl hq,7,h.2.1,h.2.2.1,by have:=h.2.2.2.1; omega,h.2.2.2.2⟩
theorem zFz {a:zA} (h:a.Coefs.length=4):BA a:=by unfold BA; omega
theorem zIF (q:Nat):∀ (j:Nat) (out:List zE),5 ≤ out.length + j→1 ≤ out.length→QN q out→Ok (sY out) (QN q)
  | 0,out,hj,h1,h=>by
    rw [sY]
    refine Ok.ite_dec (fun hc=>absurd hc (by omega)) fun _=>Ok.pure h
  | j + 1,out,hj,h1,h=>by
    rw [sY]
    refine Ok.ite_dec (fun hc=>?_) fun _=>Ok.pure h
    refine Ok.idx (by omega) (by omega) fun x hx _=>Ok.app (by simp; omega) ?_
    refine zIF q j _ (by rw [lA]; simp; omega) (by rw [lA]; omega) ⟨by rw [lA]; simp; omega,fun y hy=>?_⟩
    rcases List.mem_append.1 hy with hy | hy
    · exact h.2 y hy
    · rw [List.mem_singleton.1 hy]; exact h.2 x hx
theorem mut2 (q:Nat) (hq:q ≤ 300) (r:zH) (nest:List zE) (h:QN q nest) (h0:0 ≤ r.p) (h1:r.p ≤ 900000000):Ok (oD r nest) (fun y=>QN (q + 2) y.1∧0 ≤ y.2.p∧y.2.p ≤ r.p + 2):=by
  have hup:=h.up (show q ≤ q + 2 by omega);unfold oD;rw [copyNest nest (h.bn (by omega))];refine Ok.bind_some (Ok.ite_beq (fun _=>Ok.pure ⟨hup,h0,by dsimp only; omega⟩) fun hne=>?_);have hpos:0 < nest.length:=by omega
  have hlen:=h.1;have hW:W ((nest.length:Int) - 1)=((nest.length - 1:Nat):Int):=by rw [uP (by omega) (by omega)]; omega
  refine Ok.call (nW r 40) ⟨h0,by omega⟩ fun y2 s g1 g2 g3=>?_;refine Ok.ite_beq (fun _=>?_) fun _=>Ok.ite_beq (fun _=>?_) fun _=>Ok.ite_beq (fun _=>?_) fun _=>Ok.ite_beq (fun _=>?_) fun _=>Ok.ite_beq (fun _=>?_) fun _=>?_
  · refine Ok.idx (by omega) (by omega) fun x hx _=>Ok.call (nW s 2) ⟨by omega,by omega⟩ fun y5 s2 k1 k2 k3=>Ok.call (zB0 y5) ⟨k1,by omega⟩ fun a c1 c2=>?_;have hxx:=h.2 x hx;refine Ok.app (by have:=hxx.1.1; simp; omega) (Ok.pure ⟨QN.set (x:=⟨x.Lo ++ [a],x.Hi⟩) hup ⟨(hxx.1.app (QL.one (zFz c1))).up (show q + 1 ≤ q + 2 by omega),hxx.2.up (show q ≤ q + 2 by omega)⟩ _,by dsimp only; omega,by dsimp only; omega⟩)
  · rw [hW];refine Ok.idx (by omega) (by omega) fun x hx _=>?_;have hxx:=h.2 x hx;exact Ok.pure ⟨QN.set (x:=⟨x.Lo,[]⟩) hup ⟨hxx.1.up (show q ≤ q + 2 by omega),QL.nil⟩ _,by dsimp only; omega,by dsimp only; omega⟩
  · rw [hW];refine Ok.idx (by omega) (by omega) fun x hx _=>Ok.call (nX 1) trivial (Ok.call (nX 2) trivial ?_);have hxx:=h.2 x hx;exact Ok.app (by have:=hxx.2.1; simp; omega) (Ok.pure ⟨QN.set (x:=⟨x.Lo,x.Hi ++ [⟨[0,0,0,0],1⟩,⟨[0,0,0,0],2⟩]⟩) hup ⟨hxx.1.up (show q ≤ q + 2 by omega),hxx.2.app (QL.two (zFz rfl) (zFz rfl))⟩ _,by dsimp only; omega,by dsimp only; omega⟩)
  · refine Ok.call (nX 99) trivial (Ok.idx (by omega) (by omega) fun x hx _=>?_);have hxx:=h.2 x hx;exact Ok.pure ⟨QN.set (x:=⟨x.Lo,[⟨[0,0,0,0],99⟩]⟩) hup ⟨hxx.1.up (show q ≤ q + 2 by omega),(QL.one (zFz rfl)).up (show 1 ≤ q + 2 by omega)⟩ _,by dsimp only; omega,by dsimp only; omega⟩
  · refine Ok.bind (zIF q 5 nest (by omega) hpos h) fun z hz=>Ok.pure ⟨hz.up (by omega),by dsimp only; omega,by dsimp only; omega⟩
  · exact Ok.pure ⟨hup,by dsimp only; omega,by dsimp only; omega⟩
theorem mut3 (q:Nat) (hq:q ≤ 300) (r:zH) (s:zN) (h:QS q s) (h0:0 ≤ r.p) (h1:r.p ≤ 900000000):Ok (tT r s) (fun y=>QS (q + 2) y.1∧0 ≤ y.2.p∧y.2.p ≤ r.p + 2):=by
  obtain ⟨w1,w2,w3,w4,w5⟩:=h.up (show q ≤ q + 2 by omega);obtain ⟨v1,_,_,v4,_⟩:=id h;have v11:=v1.1;unfold tT;rw [copyStmt s (h.bs (by omega))];refine Ok.bind_some (Ok.call (nW r 40) ⟨h0,by omega⟩ fun y2 y3 g1 g2 g3=>?_);have fin:∀ (o:Str×List zA×Int×Int×List zD×zH),(QL (q + 2) o.2.1∧(o.2.2.2.2.1.length ≤ q + 2∧∀ k ∈ o.2.2.2.2.1,BE 6 k)∧0 ≤ o.2.2.2.2.2.p∧o.2.2.2.2.2.p ≤ r.p + 2)→QS (q + 2) (zN.mk (zG.mk o.1 o.2.1) (zD.mk o.2.2.1 o.2.2.2.1 s.Value.Index s.Value.Read o.2.2.2.2.1))∧0 ≤ o.2.2.2.2.2.p∧o.2.2.2.2.2.p ≤ r.p + 2 :=
    fun o ⟨a,b,c⟩=>⟨⟨a,w2,w3,b.1,b.2⟩,c⟩
  refine Ok.bind (φ:=fun o:Str×List zA×Int×Int×List zD×zH=>QL (q + 2) o.2.1∧(o.2.2.2.2.1.length ≤ q + 2∧∀ k ∈ o.2.2.2.2.1,BE 6 k)∧0 ≤ o.2.2.2.2.2.p∧o.2.2.2.2.2.p ≤ r.p + 2) ?_ fun o ho=>by
    obtain ⟨o1,o2,o3,o4,o5,o6⟩:=o;exact Ok.pure (fin _ ho)
  refine Ok.ite_beq (fun _=>?_) fun _=>?_
  · exact Ok.call (zA8 y3 _) ⟨by decide,by omega,by omega⟩ fun z t _ k3=>Ok.pure ⟨w1,⟨w4,w5⟩,by dsimp only; omega,by dsimp only; omega⟩
  refine Ok.bind (φ:=fun o:List zA×Int×Int×List zD×zH=>QL (q + 2) o.1∧(o.2.2.2.1.length ≤ q + 2∧∀ k ∈ o.2.2.2.1,BE 6 k)∧0 ≤ o.2.2.2.2.p∧o.2.2.2.2.p ≤ r.p + 2) ?_ fun o ho=>by
    obtain ⟨o2,o3,o4,o5,o6⟩:=o;exact Ok.pure ho
  refine Ok.ite_beq (fun _=>?_) fun _=>?_
  · exact Ok.call (zB0 3) (by omega) fun a c1 c2=>Ok.call gY trivial (Ok.app (by simp; omega) (Ok.pure ⟨v1.app (QL.two (zFz c1) (zFz rfl)),⟨w4,w5⟩,by dsimp only; omega,by dsimp only; omega⟩))
  refine Ok.bind (φ:=fun o:Int×Int×List zD×zH=>(o.2.2.1.length ≤ q + 2∧∀ k ∈ o.2.2.1,BE 6 k)∧0 ≤ o.2.2.2.p∧o.2.2.2.p ≤ r.p + 2) ?_ fun o ho=>by
    obtain ⟨o3,o4,o5,o6⟩:=o;exact Ok.pure ⟨w1,ho⟩
  refine Ok.ite_beq (fun _=>?_) fun _=>?_
  · exact Ok.call (xU y3 _) ⟨by decide,by omega,by omega,by decide⟩ fun z t _ _ k3=>Ok.pure ⟨⟨w4,w5⟩,by dsimp only; omega,by dsimp only; omega⟩
  refine Ok.bind (φ:=fun o:Int×List zD×zH=>(o.2.1.length ≤ q + 2∧∀ k ∈ o.2.1,BE 6 k)∧0 ≤ o.2.2.p∧o.2.2.p ≤ r.p + 2) ?_ fun o ho=>by
    obtain ⟨o4,o5,o6⟩:=o;exact Ok.pure ho
  refine Ok.ite_beq (fun _=>?_) fun _=>?_
  · exact Ok.call (xU y3 _) ⟨by decide,by omega,by omega,by decide⟩ fun z t _ _ k3=>Ok.pure ⟨⟨w4,w5⟩,by dsimp only; omega,by dsimp only; omega⟩
  refine Ok.bind (φ:=fun o:List zD=>o.length ≤ q + 2∧∀ k ∈ o,BE 6 k) ?_ fun o ho=>Ok.pure ⟨ho,by dsimp only; omega,by dsimp only; omega⟩;refine Ok.ite_beq (fun _=>?_) fun _=>Ok.pure ⟨w4,w5⟩;refine Ok.app (by show (_ + 1) * 112 ≤ _; omega) (Ok.pure ⟨by show (_ ++ _:List zD).length ≤ _; rw [lA]; show _ + 1 ≤ _; omega,fun k hk=>?_⟩);rcases List.mem_append.1 hk with hk | hk
  · exact w5 k hk
  · rw [List.mem_singleton.1 hk];exact BE.up (n:=0) ⟨Nat.zero_le _,⟨Nat.zero_le _,fun _ h=>by cases h⟩,rfl⟩ (by omega)
end Go.LN
namespace Go.LN
def DX (x:zL):Prop:=QN 100 x.Nest∧x.Body.length ≤ 1000∧∀ s ∈ x.Body,QS 100 s
def DP (P:zK):Prop:=(P.Arrays.length ≤ 1000∧∀ a ∈ P.Arrays,a.Dims.length ≤ 1000)∧P.Parts.length ≤ 1000∧∀ x ∈ P.Parts,DX x
theorem DX.bp {x:zL} (h:DX x):BP x:=⟨h.1.bn (by omega),by have:=h.2.1; omega,fun s hs=>(h.2.2 s hs).bs (by omega)⟩
theorem DP.bg {P:zK} (h:DP P):BG P:=⟨⟨by have:=h.1.1; omega,h.1.2⟩,by have:=h.2.1; omega,fun x hx=>(h.2.2 x hx).bp⟩
def PB (l:List zL):Prop:=l.length ≤ 1000∧∀ x ∈ l,BP x
theorem PB.set {l:List zL} (h:PB l) {x:zL} (hx:BP x) (k:Nat):PB (l.set k x):=⟨by rw [List.length_set]; exact h.1,zEW h.2 hx k⟩
def AR (l:List zF):Prop:=l.length ≤ 2000∧∀ a ∈ l,a.Dims.length ≤ 1000
def RD (s:zH):Prop:=0 ≤ s.p∧s.p ≤ 700001000
theorem mut4 (r:zH) (P:zK) (h:DP P) (h0:0 ≤ r.p) (h1:r.p ≤ 700000000):Ok (qM r P) (fun y=>(BG y.1∧AR y.1.Arrays)∧RD y.2):=by
  obtain ⟨⟨a1,a2⟩,p1,p2⟩:=id h;have hA:AR P.Arrays:=⟨by omega,a2⟩;have hP:PB P.Parts:=⟨p1,fun x hx=>(p2 x hx).bp⟩;have hW:0 < P.Parts.length→W ((P.Parts.length:Int) - 1)=((P.Parts.length - 1:Nat):Int):=fun hp=>by rw [uP (by omega) (by omega)]; omega
  unfold qM;rw [copyProg P h.bg];refine Ok.bind_some (Ok.call (nW r 60) ⟨h0,by omega⟩ fun y2 y3 g1 g2 g3=>?_);have hR:RD y3:=⟨by omega,by omega⟩;refine Ok.bind (φ:=fun o:List zF×List zL×zH=>AR o.1∧PB o.2.1∧RD o.2.2) ?_ fun o ho=>by
    obtain ⟨o1,o2,o3⟩:=o;exact Ok.pure ⟨⟨⟨⟨by have:=ho.1.1; dsimp only at this ⊢; omega,ho.1.2⟩,by have:=ho.2.1.1; dsimp only at this ⊢; omega,ho.2.1.2⟩,ho.1⟩,ho.2.2⟩
  refine Ok.ite_beq (fun _=>?_) fun _=>?_
  · refine Ok.call (zA8 y3 _) ⟨by decide,by omega,by omega⟩ fun z t _ k3=>Ok.call (xU t _) ⟨by decide,by omega,by omega,by decide⟩ fun z2 t2 _ _ k4=>Ok.app (by show (_ + 1) * 40 ≤ _; omega) (Ok.pure ⟨⟨by show (_ ++ _:List zF).length ≤ _; rw [lA]; show _ + 1 ≤ _; omega,fun a ha=>?_⟩,hP,⟨by dsimp only; omega,by dsimp only; omega⟩⟩);rcases List.mem_append.1 ha with ha | ha
    · exact a2 a ha
    · rw [List.mem_singleton.1 ha]; show 1 ≤ 1000; omega
  refine Ok.bind (φ:=fun o:List zF×List zL×zH=>AR o.1∧PB o.2.1∧RD o.2.2) ?_ fun o ho=>by
    obtain ⟨o1,o2,o3⟩:=o;exact Ok.pure ho
  refine Ok.ite_beq (fun _=>?_) fun _=>?_
  · refine Ok.bind (φ:=fun o:List zF×zH=>AR o.1∧RD o.2) ?_ fun o ho=>by
      obtain ⟨o1,o3⟩:=o;exact Ok.pure ⟨ho.1,hP,ho.2⟩
    refine Ok.ite_dec (fun hc=>?_) fun _=>Ok.pure ⟨hA,hR⟩;refine Ok.call (xU y3 _) ⟨by decide,by omega,by omega,by decide⟩ fun z t _ _ k3=>Ok.idx (by omega) (by omega) fun x hx _=>Ok.bind_pure (Ok.pure ⟨⟨by show (List.set _ _ _).length ≤ _; rw [List.length_set]; exact hA.1,zEW hA.2 (show ([z]:List Int).length ≤ 1000 by simp) _⟩,⟨by dsimp only; omega,by dsimp only; omega⟩⟩)
  refine Ok.bind (φ:=fun o:List zL×zH=>PB o.1∧RD o.2) ?_ fun o ho=>by
    obtain ⟨o1,o3⟩:=o;exact Ok.pure ⟨hA,ho⟩
  refine Ok.ite_beq (fun _=>?_) fun _=>?_
  · refine Ok.bind (φ:=fun o:List zL×zH=>PB o.1∧RD o.2) ?_ fun o ho=>by
      obtain ⟨o1,o3⟩:=o;exact Ok.pure ho
    refine Ok.ite_dec (fun hc=>?_) fun _=>Ok.pure ⟨hP,hR⟩;refine Ok.idx (by omega) (by omega) fun x hx _=>?_;refine Ok.bind (mut2 100 (by omega) y3 x.Nest (p2 x hx).1 (by omega) (by omega)) fun q1 k1=>?_;obtain ⟨n1,s1⟩:=q1;obtain ⟨c1,c2,c3⟩:=k1;refine Ok.bind (mut2 (100 + 2) (by omega) s1 n1 c1 c2 (by dsimp only at c3; omega)) fun q2 k2=>?_;obtain ⟨n2,s2⟩:=q2;obtain ⟨d1,d2,d3⟩:=k2;refine Ok.bind (mut2 (100 + 2 + 2) (by omega) s2 n2 d1 d2 (by dsimp only at c3 d3; omega)) fun q3 k3=>?_;obtain ⟨n,s⟩:=q3;have hn:=k3.1;refine Ok.idx (by omega) (by omega) fun x7 hx7 _=>Ok.bind_pure (Ok.pure ⟨hP.set (x:=⟨n,x7.Body⟩) ⟨hn.bn (by omega),(p2 x7 hx7).bp.2.1,(p2 x7 hx7).bp.2.2⟩ _,⟨k3.2.1,by have:=k3.2.2; dsimp only at this c3 d3 ⊢; omega⟩⟩)
  refine Ok.bind (φ:=fun o:List zL×zH=>PB o.1∧RD o.2) ?_ fun o ho=>by
    obtain ⟨o1,o3⟩:=o;exact Ok.pure ho
  refine Ok.ite_beq (fun _=>?_) fun _=>?_
  · refine Ok.bind (φ:=fun b=>b=true→0 < P.Parts.length∧∀ x,P.Parts[P.Parts.length - 1]?=some x→0 < x.Body.length) ?_ fun b hb=>?_
    · refine Ok.ite_dec (fun hc=>?_) fun _=>Ok.pure (fun h=>by cases h);have hp:0 < P.Parts.length:=by omega
      rw [hW hp];refine Ok.idx (by omega) (by omega) fun x hx he=>Ok.pure fun hd=>⟨hp,fun x' hx'=>?_⟩;rw [iN] at he;rw [he] at hx';cases hx'
      have:=of_decide_eq_true hd;omega
    · refine Ok.bind (φ:=fun o:List zL×zH=>PB o.1∧RD o.2) ?_ fun o ho=>by
        obtain ⟨o1,o3⟩:=o;exact Ok.pure ho
      refine Ok.ite (fun hc=>?_) fun _=>Ok.pure ⟨hP,hR⟩;obtain ⟨hp,hbody⟩:=hb hc;rw [hW hp];refine Ok.idx (by omega) (by omega) fun x hx he=>?_;rw [iN] at he;have hb0:=hbody x he;have hdx:=p2 x hx;refine Ok.idx (by omega) (by omega) fun x0 hx0 _=>?_;refine Ok.bind (mut3 100 (by omega) y3 x0 (hdx.2.2 x0 hx0) (by omega) (by omega)) fun q1 k1=>?_;obtain ⟨n1,s1⟩:=q1;obtain ⟨c1,c2,c3⟩:=k1;refine Ok.bind (mut3 (100 + 2) (by omega) s1 n1 c1 c2 (by dsimp only at c3; omega)) fun q2 k2=>?_;obtain ⟨n2,s2⟩:=q2;obtain ⟨d1,d2,d3⟩:=k2;refine Ok.bind (mut3 (100 + 2 + 2) (by omega) s2 n2 d1 d2 (by dsimp only at c3 d3; omega)) fun q3 k3=>?_;obtain ⟨n,s⟩:=q3;have hn:=k3.1;refine Ok.bind_pure (Ok.pure ⟨hP.set (x:=⟨x.Nest,x.Body.set 0 n⟩) ⟨hdx.bp.1,by rw [List.length_set]; exact hdx.bp.2.1,zEW hdx.bp.2.2 (hn.bs (by omega)) _⟩ _,⟨k3.2.1,by have:=k3.2.2; dsimp only at this c3 d3 ⊢; omega⟩⟩)
  refine Ok.bind (φ:=fun o:List zL=>PB o) ?_ fun o ho=>Ok.pure ⟨ho,hR⟩;refine Ok.ite_beq (fun _=>?_) fun _=>Ok.pure hP;refine Ok.bind (φ:=fun o:List zL=>PB o) ?_ fun o ho=>Ok.pure ho;refine Ok.ite_dec (fun hc=>?_) fun _=>Ok.pure hP;have hp:0 < P.Parts.length:=by omega
  rw [hW hp];refine Ok.idx (by omega) (by omega) fun x hx he=>Ok.bind_pure (Ok.pure (hP.set (x:=⟨x.Nest,[]⟩) ⟨(p2 x hx).bp.1,by show 0 ≤ 100000; omega,fun _ h=>by cases h⟩ _))
theorem SE.be:∀ {n:Nat}{e:zD},SE n e→BE n e
  | 0,e,⟨h1,h2,h3⟩=>⟨by have:=h1.1; unfold BA; omega,⟨by have:=h2.2.1; omega,fun a ha=>by have:=(h2.2.2 a ha).1; unfold BA; omega⟩,h3⟩
  | n + 1,e,⟨h1,h2,h3,h4⟩=>⟨by have:=h1.1; unfold BA; omega,⟨by have:=h2.2.1; omega,fun a ha=>by have:=(h2.2.2 a ha).1; unfold BA; omega⟩,by omega,fun k hk=>SE.be (h4 k hk)⟩
theorem SS.qs {s:zN} (h:SS s):QS 100 s:=by
  obtain ⟨h1,h2⟩:=h;have hb:=SE.be h2;exact ⟨⟨h1.2.1,fun a ha=>by have:=(h1.2.2 a ha).1; unfold BA; omega⟩,hb.1,hb.2.1,by have:=h2.2.2.1; omega,fun k hk=>BE.up (n:=4) (m:=6) (hb.2.2.2 k hk) (by omega)⟩
theorem LL.ql {l:List zA} (h:LL l):QL 100 l:=⟨h.1,fun a ha=>by have:=(h.2 a ha).1; unfold BA; omega⟩
theorem SG.dp {P:zK} (h:SG 1000 P):DP P:=by
  obtain ⟨⟨h1,h2⟩,h3,h4⟩:=h;refine ⟨⟨h1,fun a ha=>by have:=(h2 a ha).2; omega⟩,h3,fun x hx=>?_⟩;obtain ⟨⟨k1,k2⟩,k3,k4⟩:=h4 x hx;exact ⟨⟨by omega,fun y hy=>⟨(k2 y hy).1.ql,(k2 y hy).2.ql⟩⟩,k3,fun s hs=>(k4 s hs).qs⟩
def totL:List zF→Int→Int
  | [],n=>n
  | x::l,n=>totL l (W (n + sizeF x))
theorem implCells (P:zK) (h:BR P.Arrays):pU P=some (totL P.Arrays 0):=by
  unfold pU;obtain ⟨h1,h2⟩:=h;have key:∀ (j i:Nat) (n:Int),i + j=P.Arrays.length→uI P n (i:Int)=some (totL (P.Arrays.drop i) n):=by
    intro j
    induction j with
    | zero =>
      intro i n hi;rw [uI];have:¬((i:Int) < (P.Arrays.length:Int)):=by omega
      simp only [this,dF,bF,if_false];rw [dN.2 (by omega)]; rfl
    | succ j ih =>
      intro i n hi;rw [uI];have hlt:i < P.Arrays.length:=by omega
      have hc:((i:Int) < (P.Arrays.length:Int)):=by omega
      have hd:=h2 _ (gM hlt);simp only [hc,dT,if_true,yT hlt,oB,oS,implSize _ (show P.Arrays[i].Dims.length ≤ 1048576 by omega)];rw [tC (by omega),ih (i + 1) _ (by omega),gC hlt,totL]
  have:=key _ 0 0 (Nat.zero_add _);rw [nZ,List.drop_zero] at this;rw [this]; rfl
theorem specTotal (P:zK) (h:BR P.Arrays):mP P=some (totL P.Arrays 0):=by
  unfold mP;obtain ⟨h1,h2⟩:=h;have key:∀ (j i:Nat) (n:Int),i + j=P.Arrays.length→qE P n (i:Int)=some (totL (P.Arrays.drop i) n):=by
    intro j
    induction j with
    | zero =>
      intro i n hi;rw [qE];have:¬((i:Int) < (P.Arrays.length:Int)):=by omega
      simp only [this,dF,bF,if_false];rw [dN.2 (by omega)]; rfl
    | succ j ih =>
      intro i n hi;rw [qE];have hlt:i < P.Arrays.length:=by omega
      have hc:((i:Int) < (P.Arrays.length:Int)):=by omega
      have hd:=h2 _ (gM hlt);simp only [hc,dT,if_true,yT hlt,oB,oS,specSize _ (show P.Arrays[i].Dims.length ≤ 1048576 by omega)];rw [tC (by omega),ih (i + 1) _ (by omega),gC hlt,totL]
  have:=key _ 0 0 (Nat.zero_add _);rw [nZ,List.drop_zero] at this;rw [this]; rfl
theorem specCountC (P:zK) (h:BG P):nU P=some (if validP P then totL P.Arrays 0 else 0):=by
  unfold nU;rw [specValidP P h,specTotal P h.1];cases validP P <;> rfl
end Go.LN
namespace Go.LN
theorem zJ0 {A:List zF}{x:zL} (h:partB A x=true):(nestPts x.Nest).1=pts x.Nest []∧nestB x.Nest=true∧(pts x.Nest []).length ≤ 120:=by
  simp only [partB,bA] at h;have h1:=h.1.1;unfold nestPts at h1 ⊢;split at h1
  · rename_i hc;rw [if_pos hc];exact ⟨rfl,hc.1,hc.2.2⟩
  · cases h1
theorem zHO (P:zK) (i:Nat) (hi:i < P.Parts.length) (y:List (List Int)) (k:Nat) (hk:k < y.length) (hq:y[k].length ≤ 4) (hb:P.Parts[i].Body.length ≤ 4) :
    ∀ (j s:Nat) (o:List zM),s + j=P.Parts[i].Body.length→o.length + j ≤ 1000000→wH P (i:Int) y (k:Int) o (s:Int)=some (o ++ instR (i:Int) y[k] s j):=by
  intro j
  induction j with
  | zero =>
    intro s o hs ho
    rw [wH]
    have:¬((s:Int) < (P.Parts[i].Body.length:Int)):=by omega
    simp only [yT hi,this,dF,bF,if_false,oB,oS,oP]
    simp [instR]
  | succ j ih =>
    intro s o hs ho
    rw [wH]
    have hc:((s:Int) < (P.Parts[i].Body.length:Int)):=by omega
    have hpn:app 8 ([]:List Int) y[k]=some y[k]:=fD _ (by omega)
    have happ:app 40 o [(⟨(i:Int),(s:Int),y[k]⟩:zM)]=some (o ++ [⟨(i:Int),(s:Int),y[k]⟩]):=nH (by simp; omega)
    simp only [yT hi,hc,dT,if_true,yT hk,oB,oS,hpn,happ]
    rw [tC (by omega),ih (s + 1) _ (by omega) (by simp; omega),List.append_assoc]
    simp only [instR,List.range'_succ,List.map_cons,List.singleton_append]
theorem zHP (P:zK) (i:Nat) (hi:i < P.Parts.length) (y:List (List Int)) (hy:y.length ≤ 120) (hq:∀ q ∈ y,q.length ≤ 4) (hb:P.Parts[i].Body.length ≤ 4) :
    ∀ (j k:Nat) (o:List zM),k + j=y.length→o.length + 4 * j ≤ 1000000→wI P (i:Int) y o (k:Int)=some (o ++ (y.drop k).flatMap fun q=>instR (i:Int) q 0 P.Parts[i].Body.length):=by
  intro j
  induction j with
  | zero =>
    intro k o hk ho
    rw [wI]
    have:¬((k:Int) < (y.length:Int)):=by omega
    simp only [this,dF,bF,if_false]
    rw [show y.drop k=[] from dN.2 (by omega)]
    simp
  | succ j ih =>
    intro k o hk ho
    rw [wI]
    have hlt:k < y.length:=by omega
    have hc:((k:Int) < (y.length:Int)):=by omega
    have h3:=zHO P i hi y k hlt (hq _ (gM hlt)) hb P.Parts[i].Body.length 0 o (Nat.zero_add _) (by omega)
    rw [nZ] at h3
    simp only [hc,dT,if_true,oB,oS,h3]
    rw [tC (by omega),ih (k + 1) _ (by omega) (by rw [lA,zDm]; omega),gC hlt,List.flatMap_cons,List.append_assoc]
theorem zHQ (P:zK) (hP:P.Parts.length ≤ 4) (hb:∀ i,i < P.Parts.length→partB P.Arrays (gP P i)=true) :
    ∀ (j i:Nat) (o:List zM),i + j=P.Parts.length→o.length ≤ 480 * i→wJ P o (i:Int)=some (o ++ (List.range' i j).flatMap fun (i:Nat)=>partI (i:Int) (gP P i)):=by
  intro j
  induction j with
  | zero =>
    intro i o hi ho
    rw [wJ]
    have:¬((i:Int) < (P.Parts.length:Int)):=by omega
    simp [this]
  | succ j ih =>
    intro i o hi ho
    rw [wJ]
    have hlt:i < P.Parts.length:=by omega
    have hc:((i:Int) < (P.Parts.length:Int)):=by omega
    have hg:gP P i=P.Parts[i]:=by simp [gP,hlt]
    have hp:=hb i hlt
    rw [hg] at hp
    obtain ⟨p1,p2,p3⟩:=zJ0 hp
    obtain ⟨n1,n2⟩:=zB1 p2
    have hpp:=hp
    simp only [partB,bA] at hpp
    obtain ⟨_,q2,_⟩:=zAa hpp.1.2
    have hpts:=specPts P.Parts[i].Nest P.Parts[i].Nest [] [] n2 rfl (by simp) n1 (by simp)
    rw [List.nil_append,List.take_of_length_le (by omega)] at hpts
    have h2:=zHP P i hlt (pts P.Parts[i].Nest []) p3 (fun q hq=>by have:=zG3 _ _ q hq; simp at this; omega) q2 _ 0 o (Nat.zero_add _) (by omega)
    rw [nZ,List.drop_zero] at h2
    simp only [hc,dT,if_true,yT hlt,oB,oS,hpts,h2]
    have hI:((pts P.Parts[i].Nest []).flatMap fun q=>instR (i:Int) q 0 P.Parts[i].Body.length)=partI (i:Int) P.Parts[i]:=by rw [partI,p1]
    have hle:=zFP (i:Int) hp
    rw [hI,tC (by omega),ih (i + 1) _ (by omega) (by rw [lA]; omega),List.range'_succ,List.flatMap_cons,hg,List.append_assoc]
theorem dU {P:zK} (h:validP P=true):arrB P.Arrays=true∧P.Parts.length ≤ 4∧(∀ i,i < P.Parts.length→partB P.Arrays (gP P i)=true)∧(progI P).length ≤ 120:=by
  simp only [validP,progB,bA,decide_eq_true_eq] at h;obtain ⟨⟨⟨h1,h2⟩,h3⟩,h4⟩:=h;exact ⟨h1,h2,fun i hi=>List.all_eq_true.1 h3 i (List.mem_range'_1.2 ⟨Nat.zero_le _,by omega⟩),h4⟩
theorem specInstP (P:zK) (h:BG P):rH P=some (if validP P then progI P else []):=by
  unfold rH;rw [specValidP P h];cases hv:validP P with
  | false=>rfl
  | true =>
    obtain ⟨_,v2,v3,_⟩:=dU hv;have hl:=zHQ P v2 v3 _ 0 [] (Nat.zero_add _) (by simp);rw [nZ,List.nil_append] at hl;simp only [bT,bF,if_false,oB,oS,pI,hl,oP,id,if_true];rfl
end Go.LN
namespace Go.LN
def DA (x:zF):Prop:=(∃ d,x.Dims=[d]∧1 ≤ d∧d ≤ 6)∨∃ d e,x.Dims=[d,e]∧(1 ≤ d∧d ≤ 6)∧1 ≤ e∧e ≤ 6
def GA (l:List zF):Prop:=l.length ≤ 4∧(∀ x ∈ l,DA x)∧l.Pairwise fun x y=>x.Name.l ≠ y.Name.l
theorem mul36 {d e:Int} (h1:1 ≤ d) (h2:d ≤ 6) (h3:1 ≤ e) (h4:e ≤ 6):1 ≤ d * e∧d * e ≤ 36:=by
  have:d=1∨d=2∨d=3∨d=4∨d=5∨d=6:=by omega
  rcases this with rfl | rfl | rfl | rfl | rfl | rfl <;> omega
theorem zJ1 {x:zF}{d:Int} (h:x.Dims=[d]) (h1:1 ≤ d) (h2:d ≤ 6):sizeF x=d:=by
  unfold sizeF;rw [h,szL,szL,Int.one_mul,uP (by omega) (by omega)]
theorem zJ2 {x:zF}{d e:Int} (h:x.Dims=[d,e]) (h1:1 ≤ d) (h2:d ≤ 6) (h3:1 ≤ e) (h4:e ≤ 6):sizeF x=d * e:=by
  unfold sizeF;have:=mul36 h1 h2 h3 h4;rw [h,szL,szL,szL,Int.one_mul,uP (x:=d) (by omega) (by omega),uP (by omega) (by omega)]
theorem DA.size {x:zF} (h:DA x):1 ≤ sizeF x∧sizeF x ≤ 36:=by
  rcases h with ⟨d,h,h1,h2⟩ | ⟨d,e,h,⟨h1,h2⟩,h3,h4⟩
  · rw [zJ1 h h1 h2]; omega
  · rw [zJ2 h h1 h2 h3 h4]; exact mul36 h1 h2 h3 h4
def sumS:List zF→Int
  | []=>0
  | x::l=>sizeF x + sumS l
theorem zFR:∀ {l:List zF},(∀ x ∈ l,DA x)→0 ≤ sumS l∧sumS l ≤ 36 * (l.length:Int)
  | [],_=>⟨Int.le_refl _,Int.le_refl _⟩
  | x::l,h=>by
    have h1:=(h x (List.mem_cons_self ..)).size
    have h2:=zFR (l:=l) fun y hy=>h y (List.mem_cons_of_mem _ hy)
    rw [sumS,List.length_cons]; omega
theorem zIG:∀ {l:List zF}{n:Int},(∀ x ∈ l,DA x)→0 ≤ n→n + 36 * (l.length:Int) ≤ 1000000→totL l n=n + sumS l
  | [],n,_,_,_=>by rw [totL,sumS]; omega
  | x::l,n,h,h0,h1=>by
    have hs:=(h x (List.mem_cons_self ..)).size
    rw [List.length_cons] at h1
    rw [totL,uP (by omega) (by omega),zIG (fun y hy=>h y (List.mem_cons_of_mem _ hy)) (by omega) (by omega),sumS]; omega
theorem zHR {n:Nat}{f:Nat→Nat} (h:∀ i,i + 1 < n→f i < f (i + 1)):∀ (d i:Nat),i + d + 1 < n→f i < f (i + d + 1)
  | 0,i,hi=>h i hi
  | d + 1,i,hi=>Nat.lt_trans (zHR h d i (by omega)) (h (i + d + 1) hi)
theorem zHS {l:List UInt8} (h:nameL l=true):∃ c,l=[c]:=by
  match l with
  | []=>cases h
  | [c]=>exact ⟨c,rfl⟩
  | c::d::r=>cases h
def nm (l:List zF) (i:Nat):Nat:=match (l.getD i ⟨⟨[]⟩,[]⟩).Name.l with | c::_=>c.toNat | []=>0
theorem zJ3 {l:List zF} (h:arrB l=true):GA l:=by
  simp only [arrB,bA,decide_eq_true_eq] at h;obtain ⟨h4,hall⟩:=h;have hi:∀ i,i < l.length→arrI l i=true:=fun i hi=>List.all_eq_true.1 hall i (List.mem_range.2 hi);refine ⟨h4,fun x hx=>?_,?_⟩
  · obtain ⟨i,hi',rfl⟩:=List.mem_iff_getElem.1 hx;have:=hi i hi';have hg:l.getD i ⟨⟨[]⟩,[]⟩=l[i]:=by simp [hi']
    simp only [arrI,hg,bA,decide_eq_true_eq] at this;obtain ⟨⟨_,h1,h2⟩,h3⟩:=this;have h3:=List.all_eq_true.1 h3
    match hd:l[i].Dims with
    | []=>rw [hd] at h1; simp at h1
    | [d] =>
      have:=h3 d (by rw [hd]; simp);simp only [dimB,bA,decide_eq_true_eq] at this;exact .inl ⟨d,hd,this⟩
    | [d,e] =>
      have k1:=h3 d (by rw [hd]; simp);have k2:=h3 e (by rw [hd]; simp);simp only [dimB,bA,decide_eq_true_eq] at k1 k2;exact .inr ⟨d,e,hd,k1,k2⟩
    | d::e::f::r=>rw [hd] at h2; simp at h2
  · have hlt:∀ i,i + 1 < l.length→nm l i < nm l (i + 1):=by
      intro i hi1;have a1:=hi i (by omega);have a2:=hi (i + 1) hi1;simp only [arrI,bA,Bool.or_eq_true,decide_eq_true_eq] at a1 a2;obtain ⟨c,hc⟩:=zHS a1.1.1.1;obtain ⟨d,hd⟩:=zHS a2.1.1.1;have hb:=a2.1.1.2;rw [show i + 1 - 1=i by omega] at hb;unfold nm;rw [hc,hd] at hb;rw [hc,hd];rcases hb with hb | hb
      · omega
      · simp only [Op.bytesLess,Bool.and_false,Bool.or_false,decide_eq_true_eq] at hb;exact hb
    refine List.pairwise_iff_getElem.2 fun i j hi1 hj1 hij e=>?_;have hk:=zHR (n:=l.length) (f:=nm l) hlt (j - i - 1) i (by omega);rw [show i + (j - i - 1) + 1=j by omega] at hk;have g1:l.getD i ⟨⟨[]⟩,[]⟩=l[i]:=by simp [hi1]
    have g2:l.getD j ⟨⟨[]⟩,[]⟩=l[j]:=by simp [hj1]
    unfold nm at hk;rw [g1,g2,e] at hk;exact Nat.lt_irrefl _ hk
theorem zFS {P:zK} (h:validP P=true):GA P.Arrays:=by
  simp only [validP,progB,bA] at h;exact zJ3 h.1.1.1
theorem zGA {P:zK} (h:validP P=true):totL P.Arrays 0=sumS P.Arrays∧0 ≤ sumS P.Arrays∧sumS P.Arrays ≤ 144:=by
  obtain ⟨h1,h2,_⟩:=zFS h;have:=zFR h2;rw [zIG h2 (Int.le_refl _) (by omega)];omega
theorem cellS1 {p:List Int}{d:Int}{s:zA} (h1:1 ≤ d) (h2:d ≤ 6):cellS p [d] [s] 0=if 0 ≤ evA s p∧evA s p < d then some (evA s p) else none:=by
  rw [cellS];by_cases h:0 ≤ evA s p∧evA s p < d
  · rw [if_pos h,if_pos h,cellS,Int.zero_mul,uP (x:=0) (by omega) (by omega),uP (by omega) (by omega),Int.zero_add]
  · rw [if_neg h,if_neg h]
theorem cellS2 {p:List Int}{d e:Int}{s t:zA} (h1:1 ≤ d) (h2:d ≤ 6) (h3:1 ≤ e) (h4:e ≤ 6):cellS p [d,e] [s,t] 0=if 0 ≤ evA s p∧evA s p < d then (if 0 ≤ evA t p∧evA t p < e then some (evA s p * e + evA t p) else none) else none:=by
  rw [cellS];by_cases h:0 ≤ evA s p∧evA s p < d
  · rw [if_pos h,if_pos h,cellS,Int.zero_mul,uP (x:=0) (by omega) (by omega),uP (x:=0 + evA s p) (by omega) (by omega),Int.zero_add];by_cases hk:0 ≤ evA t p∧evA t p < e
    · have hm:0 ≤ evA s p * e∧evA s p * e ≤ 36:=by
        have:evA s p=0∨evA s p=1∨evA s p=2∨evA s p=3∨evA s p=4∨evA s p=5:=by omega
        rcases this with e | e | e | e | e | e <;> rw [e] <;> omega
      rw [if_pos hk,if_pos hk,cellS,uP (x:=evA s p * e) (by omega) (by omega),uP (by omega) (by omega)]
    · rw [if_neg hk,if_neg hk]
  · rw [if_neg h,if_neg h]
theorem zKN {d e i j:Int} (hi:0 ≤ i∧i < d) (hd:d ≤ 6) (hj:0 ≤ j∧j < e) (he:e ≤ 6):0 ≤ i * e + j∧i * e + j < d * e:=by
  have h1:i=0∨i=1∨i=2∨i=3∨i=4∨i=5:=by omega
  have h2:d=1∨d=2∨d=3∨d=4∨d=5∨d=6:=by omega
  rcases h1 with rfl | rfl | rfl | rfl | rfl | rfl <;> rcases h2 with rfl | rfl | rfl | rfl | rfl | rfl <;> omega
theorem zKO {l:List zA}{d:Int} (h:l.length=[d].length):∃ s,l=[s]:=by
  match l with
  | []=>cases h
  | [s]=>exact ⟨s,rfl⟩
  | a::b::r=>simp at h
theorem zKP {l:List zA}{d e:Int} (h:l.length=[d,e].length):∃ s t,l=[s,t]:=by
  match l with
  | []=>cases h
  | [s]=>cases h
  | [s,t]=>exact ⟨s,t,rfl⟩
  | a::b::c::r=>simp at h
theorem zI9 {x:zF}{subs:List zA}{p:List Int}{n:Int} (h:DA x) (hl:subs.length=x.Dims.length) (hc:cellS p x.Dims subs 0=some n):0 ≤ n∧n < sizeF x:=by
  rcases h with ⟨d,h,h1,h2⟩ | ⟨d,e,h,⟨h1,h2⟩,h3,h4⟩
  · rw [h] at hl hc;obtain ⟨s,rfl⟩:=zKO hl;rw [zJ1 h h1 h2];rw [cellS1 h1 h2] at hc;split at hc
    · cases hc; assumption
    · cases hc
  · rw [h] at hl hc;obtain ⟨s,t,rfl⟩:=zKP hl;rw [zJ2 h h1 h2 h3 h4];rw [cellS2 h1 h2 h3 h4] at hc;split at hc
    · split at hc
      · cases hc
        exact zKN ‹_› h2 ‹_› h4
      · cases hc
    · cases hc
theorem zHT (a:zG) (p:List Int):∀ (l:List zF) (first:Int),(∀ x ∈ l,DA x)→0 ≤ first→first + sumS l ≤ 1000000→cellF a p l first=-1∨(first ≤ cellF a p l first∧cellF a p l first < first + sumS l)
  | [],first,_,_,_=>.inl rfl
  | x::l,first,h,h0,h1=>by
    have hx:=h x (List.mem_cons_self ..)
    have hs:=hx.size
    have hl:=zFR (l:=l) fun y hy=>h y (List.mem_cons_of_mem _ hy)
    rw [sumS] at h1 ⊢
    rw [cellF]
    by_cases hn:x.Name.l=a.Array.l
    · rw [if_pos hn]
      by_cases hd:a.Subs.length=x.Dims.length
      · rw [if_pos hd]
        cases hc:cellS p x.Dims a.Subs 0 with
        | none=>exact .inl rfl
        | some n =>
          have:=zI9 hx hd hc
          refine .inr ?_
          dsimp only
          rw [uP (by omega) (by omega)]; omega
      · rw [if_neg hd]; exact .inl rfl
    · rw [if_neg hn,uP (by omega) (by omega)]
      rcases zHT a p l (first + sizeF x) (fun y hy=>h y (List.mem_cons_of_mem _ hy)) (by omega) (by omega) with k | k
      · exact .inl k
      · exact .inr (by omega)
theorem zIH {P:zK} (h:validP P=true) (a:zG) (p:List Int):-1 ≤ cellF a p P.Arrays 0∧cellF a p P.Arrays 0 < totL P.Arrays 0:=by
  obtain ⟨h1,h2,h3⟩:=zGA h;rcases zHT a p P.Arrays 0 (zFS h).2.1 (Int.le_refl _) (by omega) with k | k <;> omega
end Go.LN
namespace Go.LN
end Go.LN
namespace Go.LN
end Go.LN
namespace Go.LN
def c0 (n:Int):zA:=⟨[0,0,0,0],n⟩
end Go.LN
namespace Go.LN
theorem zHU {P:zK} (h:BG P) (hv:validP P=true):RV P.Arrays:=by
  simp only [validP,progB,bA] at hv;exact RV.of h.1 hv.1.1.1
theorem zJ4 {p:List Int} (h:ptB p=true):p.length ≤ 4:=by
  simp only [ptB,bA,decide_eq_true_eq] at h;exact h.1
end Go.LN
namespace Go.LN
def valB (n:Int):Bool:=decide (0 ≤ n) && decide (n ≤ 999)
def memB (P:zK) (m:List Int):Bool:=validP P && (decide ((m.length:Int)=totL P.Arrays 0) && m.all valB)
theorem implMem (P:zK) (h:BG P) (m:List Int) (hm:m.length ≤ 1048576):nE P m=some (memB P m):=by
  unfold nE memB;have hc:=fK (f:=tP) (p:=fun n=>!(valB n)) m (fun x _=>by unfold tP; rw [qL]; rfl) (by omega);rw [implValidP P h,implCells P h.1,hc];cases validP P with
  | false=>rfl
  | true =>
    by_cases e:(m.length:Int)=totL P.Arrays 0
    · simp [e,List.all_eq_not_any_not]
    · simp [e]
theorem specMem (P:zK) (h:BG P) (m:List Int) (hm:m.length ≤ 1048576):nF P m=some (memB P m):=by
  unfold nF memB;have hl:=jT (n:=m.length) (f:=tF m) (P:=fun i=>valB (m.getD i 0)) (fun i hi=>by
      rw [tF];have h1:((i:Int) < (m.length:Int)):=by omega
      have hg:m.getD i 0=m[i]:=by simp [hi]
      simp only [h1,dT,if_true,yT hi,oB,oS,oP,hg,valB];by_cases h2:m[i] < 0
      · have h3:¬(0 ≤ m[i]):=by omega
        simp [h2,h3]
      · have h3:0 ≤ m[i]:=by omega
        by_cases h4:m[i] > 999
        · have h5:¬(m[i] ≤ 999):=by omega
          simp [h2,h3,h4,h5]
        · have h5:m[i] ≤ 999:=by omega
          simp only [h2,h3,h4,h5,dT,dF,bF,if_false,oS,Bool.and_self,if_true];rw [tC (by omega)]) (by rw [tF]; simp)
  rw [gB m valB 0] at hl;rw [hl];cases hv:m.all valB with
  | false=>simp
  | true =>
    simp only [oB,oS,if_true,specValidP P h,specTotal P h.1,Bool.and_true];cases validP P with
    | false=>rfl
    | true =>
      by_cases e:(m.length:Int)=totL P.Arrays 0
      · simp [e]
      · simp [e]
theorem zGB:∀ (n:Nat) (out:List Int) (x:zH),0 ≤ x.p→x.p + (n:Int) ≤ 900000000→out.length + n ≤ 1000000→Ok (rA out (n:Int) x) (fun y=>y.1.length=out.length + n∧0 ≤ y.2.p∧y.2.p ≤ x.p + (n:Int))
  | 0,out,x,h0,h1,ho=>by
    rw [rA]
    exact ⟨(out,x),rfl,rfl,h0,by dsimp only; omega⟩
  | n + 1,out,x,h0,h1,ho=>by
    rw [rA]
    refine Ok.ite_dec (fun hc=>?_) fun hc=>absurd hc (by omega)
    refine Ok.call (xU x _) ⟨by decide,h0,by omega,by decide⟩ fun y s _ _ g3=>Ok.app (by simp; omega) ?_
    rw [show W (((n + 1:Nat):Int) - 1)=(n:Int) by rw [uP (by omega) (by omega)]; omega]
    refine Ok.mono (zGB n _ s (by omega) (by omega) (by rw [lA]; simp; omega)) fun r hr=>⟨by rw [hr.1,lA]; simp; omega,hr.2.1,by have:=hr.2.2; omega⟩
theorem drawMem1 (r:zH) (P:zK) (h:BG P) (hr:RD r):Ok (kJ r P) (fun y=>y.1.length ≤ 144∧0 ≤ y.2.p∧y.2.p ≤ 800000000):=by
  obtain ⟨h0,h1⟩:=hr;unfold kJ;rw [specCountC P h];obtain ⟨n,hn,hn2⟩:∃ n:Nat,(if validP P then totL P.Arrays 0 else 0)=(n:Int)∧n ≤ 144:=by
    cases hv:validP P with
    | false=>exact ⟨0,rfl,by omega⟩
    | true =>
      obtain ⟨t1,t2,t3⟩:=zGA hv;refine ⟨(sumS P.Arrays).toNat,?_,by omega⟩;simp only [if_true];rw [t1]; omega
  rw [hn];refine Ok.bind_some (Ok.bind (zGB n [] r h0 (by omega) (by simp; omega)) fun z hz=>?_);obtain ⟨o,s⟩:=z;obtain ⟨z1,z2,z3⟩:=hz;exact Ok.pure ⟨by dsimp only at z1 ⊢; simp at z1; omega,z2,by dsimp only at z3 ⊢; omega⟩
def BK (z:List Int×zH):Prop:=z.1.length ≤ 145∧0 ≤ z.2.p∧z.2.p ≤ 800001000
theorem zKQ (r:zH) (m:List Int) (hm:m.length ≤ 144) (h0:0 ≤ r.p) (h1:r.p ≤ 800000000):Ok (jS r m) BK:=by
  unfold jS;rw [fD m (by omega)];refine Ok.bind_some (Ok.call (nW r _) ⟨h0,by omega⟩ fun y s k1 k2 k3=>?_);refine Ok.bind (φ:=BK) ?_ fun z hz=>by
    obtain ⟨o,t⟩:=z;exact Ok.pure hz
  refine Ok.ite_beq (fun _=>Ok.app (by simp; omega) (Ok.pure ⟨by show (_ ++ _:List Int).length ≤ _; rw [lA]; simp; omega,by dsimp only; omega,by dsimp only; omega⟩)) fun _=>?_;refine Ok.bind (φ:=BK) ?_ fun z hz=>by
    obtain ⟨o,t⟩:=z;exact Ok.pure hz
  refine Ok.ite_beq (fun _=>?_) fun _=>Ok.pure ⟨by dsimp only; omega,by dsimp only; omega,by dsimp only; omega⟩;refine Ok.bind (φ:=BK) ?_ fun z hz=>by
    obtain ⟨o,t⟩:=z;exact Ok.pure hz
  refine Ok.ite_dec (fun hc=>?_) fun _=>Ok.pure ⟨by dsimp only; omega,by dsimp only; omega,by dsimp only; omega⟩;exact Ok.call (nW s _) ⟨by omega,by omega⟩ fun z t g1 g2 g3=>Ok.call (xU t _) ⟨by decide,by omega,by omega,by decide⟩ fun z2 t2 _ k4 k5=>Ok.idx (by omega) (by omega) fun x _ _=>Ok.bind_pure (Ok.pure ⟨by show (List.set _ _ _).length ≤ _; rw [List.length_set]; omega,by dsimp only; omega,by dsimp only; omega⟩)
end Go.LN
namespace Go.LN
theorem zHV:∀ {k:Nat}{a v:Int},v ∈ rngK k a ↔ a ≤ v∧v < a + (k:Int)
  | 0,a,v=>by simp [rngK]
  | k + 1,a,v=>by rw [rngK,List.mem_cons,zHV]; omega
theorem zII {a b v:Int}:v ∈ rng a b ↔ a ≤ v∧v < b:=by
  unfold rng;rw [zHV]; omega
def inP:List zE→List Int→List Int→Prop
  | [],_,[]=>True
  | l::ls,p,v::r=>(loF l p ≤ v∧v < hiF l p)∧inP ls (p ++ [v]) r
  | _,_,_=>False
theorem zIJ:∀ {ls:List zE}{p q:List Int},q ∈ pts ls p→∃ r,q=p ++ r∧inP ls p r
  | [],p,q,h=>by
    rw [pts,List.mem_singleton] at h
    exact ⟨[],by rw [h,List.append_nil],trivial⟩
  | l::ls,p,q,h=>by
    rw [pts,List.mem_flatMap] at h
    obtain ⟨v,hv,hq⟩:=h
    obtain ⟨r,e,hr⟩:=zIJ hq
    exact ⟨v::r,by rw [e,List.append_assoc]; rfl,zII.1 hv,hr⟩
def Ch {α:Type} (R:α→α→Prop):List α→Prop
  | a::b::l=>R a b∧Ch R (b::l)
  | _=>True
theorem Ch.append {α:Type}{R:α→α→Prop}:∀ {l m:List α},Ch R l→Ch R m→(∀ a ∈ l,∀ b ∈ m,R a b)→Ch R (l ++ m)
  | [],m,_,h2,_=>h2
  | [a],[],_,_,_=>trivial
  | [a],b::m,_,h2,h=>⟨h a (List.mem_cons_self ..) b (List.mem_cons_self ..),h2⟩
  | a::b::l,m,h1,h2,h=>⟨h1.1,Ch.append (l:=b::l) h1.2 h2 fun x hx=>h x (List.mem_cons_of_mem _ hx)⟩
theorem Ch.flat {α β:Type}{R:β→β→Prop}{f:α→List β}:∀ {l:List α},(∀ x ∈ l,Ch R (f x))→(l.Pairwise fun x y=>∀ a ∈ f x,∀ b ∈ f y,R a b)→Ch R (l.flatMap f)
  | [],_,_=>trivial
  | x::l,h1,h2=>by
    rw [List.flatMap_cons]
    have h2':=List.pairwise_cons.1 h2
    refine Ch.append (h1 x (List.mem_cons_self ..)) (Ch.flat (fun y hy=>h1 y (List.mem_cons_of_mem _ hy)) h2'.2) fun a ha b hb=>?_
    obtain ⟨y,hy,hb⟩:=List.mem_flatMap.1 hb
    exact h2'.1 y hy a ha b hb
theorem Ch.get {α:Type}{R:α→α→Prop}:∀ {l:List α} (i:Nat) (h:i + 1 < l.length),Ch R l→R l[i] l[i + 1]
  | a::b::l,0,_,hc=>hc.1
  | a::b::l,i + 1,h,hc=>Ch.get (l:=b::l) i (by simpa using h) hc.2
  | [a],i,h,_=>by simp at h
  | [],i,h,_=>by simp at h
theorem zIa {k:Int}{q:List Int}{i j:Nat}{z:zM} (h:z ∈ instR k q i j):z.Part=k∧z.Point=q∧∃ s:Nat,z.Stmt=(s:Int)∧s < i + j:=by
  unfold instR at h;obtain ⟨s,hs,rfl⟩:=List.mem_map.1 h;exact ⟨rfl,rfl,s,rfl,(List.mem_range'_1.1 hs).2⟩
end Go.LN
namespace Go.LN
theorem zHo {P:zK} (h:validP P=true) {i:Nat} (hi:i < P.Parts.length):partB P.Arrays P.Parts[i]=true:=by
  simp only [validP,progB,bA,decide_eq_true_eq] at h;have:=List.all_eq_true.1 h.1.2 i (List.mem_range'_1.2 ⟨Nat.zero_le _,by omega⟩);have hg:gP P i=P.Parts[i]:=by simp [gP,hi]
  rwa [hg] at this
theorem zKR {nest:List zE}{q:List Int} (h:q ∈ (nestPts nest).1):nestB nest=true∧inP nest [] q:=by
  unfold nestPts at h;split at h
  · rename_i hc;obtain ⟨r,e,hr⟩:=zIJ h;rw [List.nil_append] at e;exact ⟨hc.1,e ▸ hr⟩
  · cases h
theorem zIb {P:zK} (h:validP P=true) {z:zM} (hz:z ∈ progI P):∃ (i s:Nat) (hi:i < P.Parts.length) (hs:s < P.Parts[i].Body.length),z.Part=(i:Int)∧z.Stmt=(s:Int)∧nestB P.Parts[i].Nest=true∧inP P.Parts[i].Nest [] z.Point∧ptB z.Point=true∧stOk P.Arrays P.Parts[i].Body[s] z.Point=true∧stmtB P.Parts[i].Body[s] (P.Parts[i].Nest.length:Int)=true:=by
  unfold progI at hz;obtain ⟨i,hi,hz⟩:=List.mem_flatMap.1 hz;have hi:i < P.Parts.length:=by have:=(List.mem_range'_1.1 hi).2; omega
  have hg:gP P i=P.Parts[i]:=by simp [gP,hi]
  rw [hg] at hz;have hp:=zHo h hi;unfold partI at hz;obtain ⟨q,hq,hz⟩:=List.mem_flatMap.1 hz;obtain ⟨z1,z2,s,z3,hs⟩:=zIa hz;have hs:s < P.Parts[i].Body.length:=by omega
  obtain ⟨n1,n2⟩:=zKR hq;simp only [partB,bA] at hp;have hq2:=List.all_eq_true.1 hp.2 q hq;rw [bA] at hq2;refine ⟨i,s,hi,hs,z1,z3,n1,?_,?_,?_,?_⟩
  · rw [z2]; exact n2
  · rw [z2]; exact hq2.1
  · rw [z2]; exact List.all_eq_true.1 hq2.2 _ (gM hs)
  · exact (zAa hp.1.2).2.2 _ (gM hs)
end Go.LN
namespace Go.LN
end Go.LN
namespace Go.LN
end Go.LN
namespace Go.LN
def STz:zN:=zN.mk (zG.mk ⟨[]⟩ []) EXz
def stI (P:zK) (z:zM):zN:=(gP P z.Part.toNat).Body.getD z.Stmt.toNat STz
def rdI (P:zK) (z:zM):List Int:=(readsF 5 (stI P z).Value).map (cellA P.Arrays z.Point)
def wrI (P:zK) (z:zM):Int:=cellA P.Arrays z.Point (stI P z).Write
structure InP (P:zK) (z:zM):Prop where
  idxP:idx P.Parts z.Part=some (gP P z.Part.toNat)
  idxS:idx (gP P z.Part.toNat).Body z.Stmt=some (stI P z)
  part:0 ≤ z.Part∧z.Part < (P.Parts.length:Int)
  stmt:0 ≤ z.Stmt∧z.Stmt < ((gP P z.Part.toNat).Body.length:Int)
  pin:BN (gP P z.Part.toNat).Nest∧nestB (gP P z.Part.toNat).Nest=true∧ptB z.Point=true∧inP (gP P z.Part.toNat).Nest [] z.Point
  pt:z.Point.length ≤ 4
  bs:BS (stI P z)
  st:∃ d,stmtB (stI P z) d=true
  ok:stOk P.Arrays (stI P z) z.Point=true
theorem zKS {P:zK}{z:zM} (hv:validP P=true) (h:InP P z):(∀ c ∈ rdI P z,0 ≤ c∧c < totL P.Arrays 0)∧0 ≤ wrI P z∧wrI P z < totL P.Arrays 0:=by
  have hst:=h.ok;simp only [stOk,bA,decide_eq_true_eq] at hst;refine ⟨fun c hc=>?_,hst.1,(zIH hv _ _).2⟩;obtain ⟨a,ha,rfl⟩:=List.mem_map.1 hc;exact ⟨of_decide_eq_true (List.all_eq_true.1 hst.2 a ha),(zIH hv _ _).2⟩
end Go.LN
namespace Go.LN
end Go.LN
namespace Go.LN
end Go.LN
namespace Go.LN
end Go.LN
namespace Go.LN
end Go.LN
namespace Go.LN
end Go.LN
namespace Go.LN
def inB:List zE→List Int→List Int→Bool
  | [],_,[]=>true
  | [],_,_::_=>false
  | _::_,_,[]=>false
  | l::ls,p,v::r=>decide (loF l p ≤ v∧v < hiF l p) && inB ls (p ++ [v]) r
theorem zIK:∀ (ls:List zE) (p r:List Int),inB ls p r=true ↔ inP ls p r
  | [],p,[]=>by simp [inB,inP]
  | [],p,_::_=>by simp [inB,inP]
  | _::_,p,[]=>by simp [inB,inP]
  | l::ls,p,v::r=>by rw [inB,inP,bA,decide_eq_true_eq,zIK ls]
theorem zIL:∀ {ls:List zE}{p r:List Int},inP ls p r→p ++ r ∈ pts ls p
  | [],p,[],_=>by simp [pts]
  | [],p,_::_,h=>h.elim
  | _::_,p,[],h=>h.elim
  | l::ls,p,v::r,h=>by
    obtain ⟨h1,h2⟩:=h
    rw [pts,List.mem_flatMap]
    refine ⟨v,zII.2 h1,?_⟩
    have:=zIL h2
    rwa [List.append_assoc] at this
theorem zIM (q:List Int) (hq:q.length ≤ 4) (nest:List zE) (hl:q.length=nest.length):∀ (ls:List zE) (n:Nat),(∀ x ∈ ls,OL x)→nest.drop n=ls→n ≤ nest.length→qI nest q (n:Int)=some (if inB ls (q.take n) (q.drop n) then .done () else .ret false)
  | [],n,hv,hd,hn=>by
    rw [qI]
    have hge:=dN.1 hd
    have:¬((n:Int) < (nest.length:Int)):=by omega
    rw [dN.2 (show q.length ≤ n by omega)]
    simp only [this,dF,bF,if_false,oP,inB,if_true]
  | l::ls,n,hv,hd,hn=>by
    obtain ⟨hlt,hx,hd'⟩:=zAV hd
    have hnq:n < q.length:=by omega
    rw [gC hnq]
    rw [qI]
    have hc:((n:Int) < (nest.length:Int)):=by omega
    have hsl:slc q 0 (n:Int)=some (q.take n):=by
      have:=zJU (s:=q) (f:=0) (i:=n) (Nat.zero_le _) (by omega)
      rw [nZ,List.drop_zero] at this
      exact this
    obtain ⟨o1,o2⟩:=hv l (List.mem_cons_self ..)
    have hsp:=implSpan l (q.take n) (by rw [List.length_take]; omega) o1 o2
    have ih:=zIM q hq nest hl ls (n + 1) (fun x hx=>hv x (List.mem_cons_of_mem _ hx)) hd' (by omega)
    rw [List.take_succ_eq_append_getElem hnq] at ih
    rw [inB]
    simp only [hc,dT,if_true,yT hlt,hx,hsl,hsp,yT hnq,oB,oS,oP]
    rw [tC (by omega),ih]
    by_cases e1:q[n] < loF l (q.take n)
    · have e2:¬(loF l (q.take n) ≤ q[n]∧q[n] < hiF l (q.take n)):=by omega
      simp [e1,e2]
    · by_cases e3:q[n] ≥ hiF l (q.take n)
      · have e2:¬(loF l (q.take n) ≤ q[n]∧q[n] < hiF l (q.take n)):=by omega
        simp [e1,e2,e3]
      · have e2:loF l (q.take n) ≤ q[n]∧q[n] < hiF l (q.take n):=by omega
        simp [e1,e2,e3]
def pinB (nest:List zE) (q:List Int):Bool:=nestB nest && (ptB q && (decide (q.length=nest.length) && inB nest [] q))
theorem implPin {nest:List zE} (hb:BN nest) {q:List Int} (hq:q.length ≤ 1048576):jC nest q=some (pinB nest q):=by
  unfold jC pinB;rw [implNest nest hb,implPoint q hq];cases hn:nestB nest with
  | false=>simp
  | true =>
    cases hp:ptB q with
    | false=>simp
    | true =>
      by_cases hl:q.length=nest.length
      · obtain ⟨n1,n2⟩:=zB1 hn;have h:=zIM q (by omega) nest hl nest 0 n2 rfl (Nat.zero_le _);rw [nZ,List.take_zero,List.drop_zero] at h;have e:((q.length:Int) != (nest.length:Int))=false:=by simp [hl]
        have e2:decide (q.length=nest.length)=true:=by simp [hl]
        simp only [h,e,e2,oB,oS,oP,bT,bF,if_false,Bool.true_and];cases inB nest [] q <;> rfl
      · have e:((q.length:Int) != (nest.length:Int))=true:=by simp; omega
        simp [e,hl]
theorem zIN (q:List Int) (hq:q.length ≤ 4) (nest:List zE) (hl:q.length=nest.length):∀ (ls:List zE) (n:Nat),(∀ x ∈ ls,OL x)→nest.drop n=ls→n ≤ nest.length→qJ nest q (n:Int)=some (if inB ls (q.take n) (q.drop n) then .done () else .ret false)
  | [],n,hv,hd,hn=>by
    rw [qJ]
    have hge:=dN.1 hd
    have:¬((n:Int) < (q.length:Int)):=by omega
    rw [dN.2 (show q.length ≤ n by omega)]
    simp only [this,dF,bF,if_false,oP,inB,if_true]
  | l::ls,n,hv,hd,hn=>by
    obtain ⟨hlt,hx,hd'⟩:=zAV hd
    have hnq:n < q.length:=by omega
    rw [gC hnq]
    rw [qJ]
    have hc:((n:Int) < (q.length:Int)):=by omega
    have hsl:slc q 0 (n:Int)=some (q.take n):=by
      have:=zJU (s:=q) (f:=0) (i:=n) (Nat.zero_le _) (by omega)
      rw [nZ,List.drop_zero] at this
      exact this
    obtain ⟨o1,o2⟩:=hv l (List.mem_cons_self ..)
    have hsp:=specSpan l (q.take n) (by rw [List.length_take]; omega) o1 o2
    have ih:=zIN q hq nest hl ls (n + 1) (fun x hx=>hv x (List.mem_cons_of_mem _ hx)) hd' (by omega)
    rw [List.take_succ_eq_append_getElem hnq] at ih
    rw [inB]
    simp only [hc,dT,if_true,yT hlt,hx,hsl,hsp,yT hnq,oB,oS,oP]
    rw [tC (by omega),ih]
    by_cases e1:q[n] < loF l (q.take n)
    · have e2:¬(loF l (q.take n) ≤ q[n]∧q[n] < hiF l (q.take n)):=by omega
      simp [e1,e2]
    · by_cases e3:q[n] ≥ hiF l (q.take n)
      · have e2:¬(loF l (q.take n) ≤ q[n]∧q[n] < hiF l (q.take n)):=by omega
        simp [e1,e2,e3]
      · have e2:loF l (q.take n) ≤ q[n]∧q[n] < hiF l (q.take n):=by omega
        simp [e1,e2,e3]
theorem specPin {nest:List zE} (hb:BN nest) {q:List Int} (hq:q.length ≤ 1048576):jD nest q=some (pinB nest q):=by
  unfold jD pinB;rw [specNest nest hb,specPoint q hq];cases hn:nestB nest with
  | false=>simp
  | true =>
    cases hp:ptB q with
    | false=>simp
    | true =>
      by_cases hl:q.length=nest.length
      · obtain ⟨n1,n2⟩:=zB1 hn;have h:=zIN q (by omega) nest hl nest 0 n2 rfl (Nat.zero_le _);rw [nZ,List.take_zero,List.drop_zero] at h;have e:((q.length:Int) != (nest.length:Int))=false:=by simp [hl]
        have e2:decide (q.length=nest.length)=true:=by simp [hl]
        simp only [h,e,e2,oB,oS,oP,bT,bF,if_false,Bool.true_and];cases inB nest [] q <;> rfl
      · have e:((q.length:Int) != (nest.length:Int))=true:=by simp; omega
        simp [e,hl]
def isB (P:zK) (x:zM):Bool:=(decide (0 ≤ x.Part) && decide (x.Part < (P.Parts.length:Int))) && ((decide (0 ≤ x.Stmt) && decide (x.Stmt < ((gP P x.Part.toNat).Body.length:Int))) && pinB (gP P x.Part.toNat).Nest x.Point)
theorem zJ5 {P:zK}{k:Nat} (h:k < P.Parts.length):idx P.Parts (k:Int)=some (gP P k):=by
  rw [yT h];simp [gP,h]
theorem implIs (P:zK) (hb:BG P) (x:zM) (hx:x.Point.length ≤ 1048576):sE P x=some (isB P x):=by
  have hpl:=hb.2.1;unfold sE isB;rw [qL,uP (by omega) (by omega)];by_cases h:0 ≤ x.Part∧x.Part < (P.Parts.length:Int)
  · have a1:x.Part ≤ (P.Parts.length:Int) - 1:=by omega
    obtain ⟨k,hk⟩:∃ k:Nat,x.Part=(k:Int):=⟨x.Part.toNat,by omega⟩;have hkl:k < P.Parts.length:=by omega
    have hg:gP P k=P.Parts[k]:=by simp [gP,hkl]
    have hbp:=hb.2.2 _ (gM hkl);rw [← hg] at hbp;rw [hk] at h a1;simp only [h.1,h.2,a1,dT,Bool.and_self,if_true,hk,zJ5 hkl,iN,oB,oS,oP,Bool.true_and];rw [qL,uP (by have:=hbp.2.1; omega) (by have:=hbp.2.1; omega)];by_cases h2:0 ≤ x.Stmt∧x.Stmt < ((gP P k).Body.length:Int)
    · have a2:x.Stmt ≤ ((gP P k).Body.length:Int) - 1:=by omega
      simp [h2.1,h2.2,a2,implPin hbp.1 hx]
    · by_cases h3:0 ≤ x.Stmt
      · have a2:¬(x.Stmt ≤ ((gP P k).Body.length:Int) - 1):=by omega
        have a3:¬(x.Stmt < ((gP P k).Body.length:Int)):=by omega
        simp [h3,a2,a3]
      · simp [h3]
  · by_cases h3:0 ≤ x.Part
    · have a2:¬(x.Part ≤ (P.Parts.length:Int) - 1):=by omega
      have a3:¬(x.Part < (P.Parts.length:Int)):=by omega
      simp [h3,a2,a3]
    · simp [h3]
theorem specIs (P:zK) (hb:BG P) (x:zM) (hx:x.Point.length ≤ 1048576):fJ P x=some (isB P x):=by
  unfold fJ isB;by_cases h0:x.Part < 0
  · have:¬(0 ≤ x.Part):=by omega
    simp [h0,this]
  · by_cases h1:x.Part ≥ (P.Parts.length:Int)
    · have a3:¬(x.Part < (P.Parts.length:Int)):=by omega
      simp [h0,h1,a3]
    · obtain ⟨k,hk⟩:∃ k:Nat,x.Part=(k:Int):=⟨x.Part.toNat,by omega⟩;have hkl:k < P.Parts.length:=by omega
      have hg:gP P k=P.Parts[k]:=by simp [gP,hkl]
      have hbp:=hb.2.2 _ (gM hkl);rw [← hg] at hbp;have a0:0 ≤ (k:Int):=by omega
      have a1:(k:Int) < (P.Parts.length:Int):=by omega
      rw [hk] at h0 h1;simp only [h0,h1,a0,a1,hk,zJ5 hkl,iN,dT,dF,bF,if_false,Bool.and_self,Bool.true_and,oB,oS,oP];by_cases h2:x.Stmt ≥ 0
      · by_cases h3:x.Stmt < ((gP P k).Body.length:Int)
        · simp [h2,h3,specPin hbp.1 hx]
        · simp [h2,h3]
      · simp [h2]
theorem zHp {P:zK} (hb:BG P) (hv:validP P=true) {x:zM} (h:isB P x=true):InP P x:=by
  simp only [isB,bA,decide_eq_true_eq] at h;obtain ⟨⟨p1,p2⟩,⟨s1,s2⟩,h3⟩:=h;simp only [pinB,bA,decide_eq_true_eq] at h3;obtain ⟨n1,q1,q2,q3⟩:=h3;have hin:=(zIK _ _ _).1 q3;obtain ⟨k,hk⟩:∃ k:Nat,x.Part=(k:Int):=⟨x.Part.toNat,by omega⟩;obtain ⟨s,hs⟩:∃ s:Nat,x.Stmt=(s:Int):=⟨x.Stmt.toNat,by omega⟩;have hkl:k < P.Parts.length:=by omega
  have hg:gP P k=P.Parts[k]:=by simp [gP,hkl]
  have hpb:=(dU hv).2.2.1 k hkl;have hbp:=hb.2.2 _ (gM hkl);rw [← hg] at hbp;rw [hk,iN] at s2 n1 q2 q3 hin;have hsl:s < (gP P k).Body.length:=by omega
  have hS:stI P x=(gP P k).Body[s]:=by unfold stI; rw [hk,hs,iN,iN]; simp [hsl]
  simp only [partB,bA,List.all_eq_true] at hpb;obtain ⟨⟨b1,b2⟩,b3⟩:=hpb;have hmem:x.Point ∈ (nestPts (gP P k).Nest).1:=by
    have:=zIL hin;rw [List.nil_append] at this;unfold nestPts at b1 ⊢;split at b1
    · rename_i hc; rw [if_pos hc]; exact this
    · cases b1
  obtain ⟨c1,c2⟩:=b3 _ hmem;have c3:=c2 _ (gM hsl);refine ⟨?_,?_,⟨p1,p2⟩,⟨s1,by rw [hk,iN]; exact s2⟩,?_,zJ4 q1,?_,?_,?_⟩
  · rw [hk,iN]; exact zJ5 hkl
  · rw [hk,iN,hS,hs]; exact yT hsl
  · rw [hk,iN]; exact ⟨hbp.1,n1,q1,hin⟩
  · rw [hS]; exact hbp.2.2 _ (gM hsl)
  · rw [hS];simp only [bodyB,bA,List.all_eq_true] at b2;exact ⟨_,b2.2 _ (gM hsl)⟩
  · rw [hS]; exact c3
end Go.LN
namespace Go.LN
def wrM (q:Int):Int:=if q.tmod 1000 < 0 then q.tmod 1000 + 1000 else q.tmod 1000
theorem zJ6 (q:Int):-1000 < q.tmod 1000∧q.tmod 1000 < 1000:=by
  have h1:=Int.tmod_lt_of_pos q (show (0:Int) < 1000 by omega);have h2:=Int.lt_tmod_of_pos q (show (0:Int) < 1000 by omega);omega
theorem zLG {q:Int} (h0:0 ≤ q) (h1:q < 1000):q.tmod 1000=q:=by rw [Int.tmod_eq_emod_of_nonneg h0]; omega
theorem zLM {q:Int} (h0:1000 ≤ q) (h1:q < 2000):q.tmod 1000=q - 1000:=by rw [Int.tmod_eq_emod_of_nonneg (by omega)]; omega
theorem implMod (q:Int):oR q=some (wrM q):=by
  have h:=zJ6 q;unfold oR wrM;rw [uP (show -9223372036854775808 ≤ q.tmod 1000 + 999 by omega) (by omega),uP (by omega) (by omega)];by_cases h0:q.tmod 1000 < 0
  · rw [if_pos h0,zLG (by omega) (by omega)];exact congrArg some (by omega)
  · rw [if_neg h0,zLM (by omega) (by omega)];exact congrArg some (by omega)
theorem specMod (q:Int):oT q=some (wrM q):=by
  have h:=zJ6 q;unfold oT wrM;by_cases h0:q.tmod 1000 < 0
  · rw [if_pos h0,if_pos (by simpa using h0),uP (show -9223372036854775808 ≤ q.tmod 1000 + 999 by omega) (by omega),uP (by omega) (by omega)];exact congrArg some (by omega)
  · rw [if_neg h0,if_neg (by simpa using h0)]; rfl
def evF (A:List zF) (m:List Int) (p:List Int):Nat→zD→Int
  | 0,_=>0
  | n + 1,e =>
    if e.Kind=1 then e.Num
    else if e.Kind=2 then wrM (evA e.Index p)
    else if e.Kind=3 then m.getD (cellA A p e.Read).toNat 0
    else match e.Kids with
      | [a,b]=>if e.Kind=4 then wrM (W (evF A m p n a + evF A m p n b)) else if e.Kind=5 then wrM (W (evF A m p n a - evF A m p n b)) else wrM (W (evF A m p n a * evF A m p n b))
      | _=>0
theorem zAb {d:Int}{n:Nat}{e:zD} (h:shapeB d (n + 1) e=true):(e.Kind=1∨e.Kind=2∨e.Kind=3)∨((e.Kind=4∨e.Kind=5∨e.Kind=6)∧∃ a b,e.Kids=[a,b]):=by
  simp only [shapeB,bA] at h;have hk:=eq_of_beq h.1.1;unfold kidsN at hk;by_cases h1:e.Kind=1∨e.Kind=2∨e.Kind=3
  · exact .inl h1
  · rw [if_neg h1] at hk;by_cases h2:e.Kind=4∨e.Kind=5∨e.Kind=6
    · rw [if_pos h2] at hk;refine .inr ⟨h2,?_⟩;have hl:e.Kids.length=2:=by omega
      match e.Kids,hl with
      | [a,b],_=>exact ⟨a,b,rfl⟩
    · rw [if_neg h2] at hk; omega
theorem dV {d:Int}{n:Nat}{e:zD} (h:shapeB d (n + 1) e=true) (h2:e.Kind=2):okA d e.Index=true:=by
  simp only [shapeB,bA] at h;have ho:=h.1.2;simp only [ownB,h2,if_true,bA] at ho;exact ho.2
theorem zHq {d:Int}{a:zA} (h:okA d a=true):a.Coefs.length=4:=by
  simp only [okA,validB,constB,bA,decide_eq_true_eq] at h;exact h.1.1.1
def RdIn (A:List zF) (m p:List Int) (l:List zG):Prop:=∀ a ∈ l,0 ≤ cellA A p a∧cellA A p a < (m.length:Int)
theorem implVal {d:Int} (P:zK) (m p:List Int) (hp:p.length ≤ 4) (hR:RV P.Arrays):∀ (n:Nat) (e:zD),shapeB d n e=true→RdIn P.Arrays m p (readsF n e)→tQ P m e p=some (evF P.Arrays m p n e)
  | 0,e,h,_=>by cases h
  | n + 1,e,h,hr=>by
    rw [tQ,evF]
    rw [readsF] at hr
    rcases zAb h with hk | ⟨hk,a,b,hab⟩
    · rcases hk with k | k | k
      · have e1:(e.Kind == 1)=true:=by simpa using k
        rw [if_pos k]
        simp [e1]
      · have e1:(e.Kind == 1)=false:=by simp; omega
        have e2:(e.Kind == 2)=true:=by simpa using k
        have hc:=zHq (dV h k)
        rw [if_neg (show ¬e.Kind=1 by omega),if_pos k]
        simp [e1,e2,implEval e.Index p (by omega) (by omega),implMod]
      · have e1:(e.Kind == 1)=false:=by simp; omega
        have e2:(e.Kind == 2)=false:=by simp; omega
        have e3:(e.Kind == 3)=true:=by simpa using k
        rw [if_pos k] at hr
        obtain ⟨c0,c1⟩:=hr _ (List.mem_singleton.2 rfl)
        have hav:=AV.of (gZ h k).2
        rw [if_neg (show ¬e.Kind=1 by omega),if_neg (show ¬e.Kind=2 by omega),if_pos k]
        have hcl:=implCell P e.Read p hav hp hR
        obtain ⟨c,hcc⟩:∃ c:Nat,cellA P.Arrays p e.Read=(c:Int):=⟨(cellA P.Arrays p e.Read).toNat,by omega⟩
        have hcl:tB P e.Read p=some (c:Int):=by rw [hcl]; exact congrArg some hcc
        have hlt:c < m.length:=by omega
        rw [hcc,iN]
        simp [e1,e2,e3,hcl,yT hlt,hlt]
    · have e1:(e.Kind == 1)=false:=by simp; omega
      have e2:(e.Kind == 2)=false:=by simp; omega
      have e3:(e.Kind == 3)=false:=by simp; omega
      have h2:=(pL h).2
      rw [if_neg (show ¬e.Kind=3 by omega)] at hr
      rw [hab] at h2 hr ⊢
      have ea:=implVal P m p hp hR n a (h2 a (by simp)) fun x hx=>hr x (List.mem_flatMap.2 ⟨a,by simp,hx⟩)
      have eb:=implVal P m p hp hR n b (h2 b (by simp)) fun x hx=>hr x (List.mem_flatMap.2 ⟨b,by simp,hx⟩)
      have i0:idx [a,b] 0=some a:=rfl
      have i1:idx [a,b] 1=some b:=rfl
      rw [if_neg (show ¬e.Kind=1 by omega),if_neg (show ¬e.Kind=2 by omega),if_neg (show ¬e.Kind=3 by omega)]
      dsimp only
      by_cases k4:e.Kind=4
      · have e4:(e.Kind == 4)=true:=by simpa using k4
        rw [if_pos k4]
        simp [e1,e2,e3,e4,i0,i1,same,ea,eb,implMod]
      · have e4:(e.Kind == 4)=false:=by simpa using k4
        rw [if_neg k4]
        by_cases k5:e.Kind=5
        · have e5:(e.Kind == 5)=true:=by simpa using k5
          rw [if_pos k5]
          simp [e1,e2,e3,e4,e5,i0,i1,same,ea,eb,implMod]
        · have e5:(e.Kind == 5)=false:=by simpa using k5
          rw [if_neg k5]
          simp [e1,e2,e3,e4,e5,i0,i1,same,ea,eb,implMod]
theorem specVal {d:Int} (A:List zF) (m p:List Int) (hp:p.length ≤ 4) (hR:RV A):∀ (n:Nat) (e:zD),shapeB d n e=true→RdIn A m p (readsF n e)→mH A m e p=some (evF A m p n e)
  | 0,e,h,_=>by cases h
  | n + 1,e,h,hr=>by
    rw [mH,evF]
    rw [readsF] at hr
    rcases zAb h with hk | ⟨hk,a,b,hab⟩
    · rcases hk with k | k | k
      · have e1:(e.Kind == 1)=true:=by simpa using k
        rw [if_pos k]
        simp [e1]
      · have e1:(e.Kind == 1)=false:=by simp; omega
        have e2:(e.Kind == 2)=true:=by simpa using k
        have hc:=zHq (dV h k)
        rw [if_neg (show ¬e.Kind=1 by omega),if_pos k]
        simp [e1,e2,specEval e.Index p (by omega) (by omega),specMod]
      · have e1:(e.Kind == 1)=false:=by simp; omega
        have e2:(e.Kind == 2)=false:=by simp; omega
        have e3:(e.Kind == 3)=true:=by simpa using k
        rw [if_pos k] at hr
        obtain ⟨c0,c1⟩:=hr _ (List.mem_singleton.2 rfl)
        have hav:=AV.of (gZ h k).2
        rw [if_neg (show ¬e.Kind=1 by omega),if_neg (show ¬e.Kind=2 by omega),if_pos k]
        have hcl:=specCell A e.Read p hav hp hR
        obtain ⟨c,hcc⟩:∃ c:Nat,cellA A p e.Read=(c:Int):=⟨(cellA A p e.Read).toNat,by omega⟩
        have hcl:rL A e.Read p=some (c:Int):=by rw [hcl]; exact congrArg some hcc
        have hlt:c < m.length:=by omega
        rw [hcc,iN]
        simp [e1,e2,e3,hcl,yT hlt,hlt]
    · have e1:(e.Kind == 1)=false:=by simp; omega
      have e2:(e.Kind == 2)=false:=by simp; omega
      have e3:(e.Kind == 3)=false:=by simp; omega
      have h2:=(pL h).2
      rw [if_neg (show ¬e.Kind=3 by omega)] at hr
      rw [hab] at h2 hr ⊢
      have ea:=specVal A m p hp hR n a (h2 a (by simp)) fun x hx=>hr x (List.mem_flatMap.2 ⟨a,by simp,hx⟩)
      have eb:=specVal A m p hp hR n b (h2 b (by simp)) fun x hx=>hr x (List.mem_flatMap.2 ⟨b,by simp,hx⟩)
      have i0:idx [a,b] 0=some a:=rfl
      have i1:idx [a,b] 1=some b:=rfl
      rw [if_neg (show ¬e.Kind=1 by omega),if_neg (show ¬e.Kind=2 by omega),if_neg (show ¬e.Kind=3 by omega)]
      dsimp only
      by_cases k4:e.Kind=4
      · have e4:(e.Kind == 4)=true:=by simpa using k4
        rw [if_pos k4]
        simp [e1,e2,e3,e4,i0,i1,same,ea,eb,specMod]
      · have e4:(e.Kind == 4)=false:=by simpa using k4
        rw [if_neg k4]
        by_cases k5:e.Kind=5
        · have e5:(e.Kind == 5)=true:=by simpa using k5
          rw [if_pos k5]
          simp [e1,e2,e3,e4,e5,i0,i1,same,ea,eb,specMod]
        · have e5:(e.Kind == 5)=false:=by simpa using k5
          rw [if_neg k5]
          simp [e1,e2,e3,e4,e5,i0,i1,same,ea,eb,specMod]
def ivF (P:zK) (m:List Int) (x:zM):Int×Bool:=if memB P m && isB P x then (evF P.Arrays m x.Point 5 (stI P x).Value,true) else (0,false)
theorem zK2 {P:zK}{m:List Int} (hm:memB P m=true) {x:zM} (h:InP P x):RdIn P.Arrays m x.Point (readsF 5 (stI P x).Value):=by
  simp only [memB,bA,decide_eq_true_eq] at hm;intro a ha;have:=(zKS hm.1 h).1 (cellA P.Arrays x.Point a) (List.mem_map.2 ⟨a,ha,rfl⟩);omega
theorem implIV (P:zK) (hb:BG P) (m:List Int) (hm:m.length ≤ 1048576) (x:zM) (hx:x.Point.length ≤ 1048576):tR P m x=some (ivF P m x):=by
  unfold tR ivF;rw [implMem P hb m hm];cases hmb:memB P m with
  | false=>simp
  | true =>
    have hv:validP P=true:=by simp only [memB,bA] at hmb; exact hmb.1
    rw [implIs P hb x hx];cases hi:isB P x with
    | false=>simp
    | true =>
      have h:=zHp hb hv hi;obtain ⟨d,hd⟩:=h.st;have hvl:=implVal P m x.Point h.pt (zHU hb hv) 5 (stI P x).Value (jF hd).2.1 (zK2 hmb h);unfold mJ;simp [h.idxP,h.idxS,hvl]
theorem specIV (P:zK) (hb:BG P) (m:List Int) (hm:m.length ≤ 1048576) (x:zM) (hx:x.Point.length ≤ 1048576):pV P m x=some (ivF P m x):=by
  unfold pV ivF;rw [specMem P hb m hm];cases hmb:memB P m with
  | false=>simp
  | true =>
    have hv:validP P=true:=by simp only [memB,bA] at hmb; exact hmb.1
    rw [specIs P hb x hx];cases hi:isB P x with
    | false=>simp
    | true =>
      have h:=zHp hb hv hi;obtain ⟨d,hd⟩:=h.st;have hvl:=specVal P.Arrays m x.Point h.pt (zHU hb hv) 5 (stI P x).Value (jF hd).2.1 (zK2 hmb h);simp [h.idxP,h.idxS,hvl]
end Go.LN
namespace Go.LN
theorem zHW:∀ (n:Nat) (out:List Int) (x:zH),0 ≤ x.p→x.p + 20 * (n:Int) ≤ 900000000→out.length + n ≤ 1000→Ok (qF out (n:Int) x) (fun y=>y.1.length ≤ out.length + n∧0 ≤ y.2.p∧y.2.p ≤ x.p + 20 * (n:Int))
  | 0,out,x,h0,h1,ho=>by
    rw [qF]
    exact ⟨(out,x),rfl,Nat.le_refl _,h0,by dsimp only; omega⟩
  | n + 1,out,x,h0,h1,ho=>by
    rw [qF]
    refine Ok.ite_dec (fun hc=>?_) fun hc=>absurd hc (by omega)
    refine Ok.call (xU x _) ⟨by decide,h0,by omega,by decide⟩ fun y s _ g2 g3=>Ok.app (by simp; omega) ?_
    rw [show W (((n + 1:Nat):Int) - 1)=(n:Int) by rw [uP (by omega) (by omega)]; omega]
    refine Ok.mono (zHW n _ s (by omega) (by omega) (by rw [lA]; simp; omega)) fun r hr=>⟨by have:=hr.1; rw [lA] at this; simp at this; omega,hr.2.1,by have:=hr.2.2; omega⟩
theorem zJ7 (r:zH) (h0:0 ≤ r.p) (h1:r.p ≤ 880000000):Ok (kZ r) (fun y=>y.1.length ≤ 100):=by
  unfold kZ;refine Ok.call (xU r _) ⟨by decide,h0,by omega,by decide⟩ fun y s g1 g2 g3=>?_;obtain ⟨n,hn⟩:∃ n:Nat,y=(n:Int)∧n ≤ 4:=by
    simp only [List.mem_cons,List.mem_nil_iff,or_false] at g1;exact ⟨y.toNat,by omega,by omega⟩
  rw [hn.1];refine Ok.bind (zHW n [] s (by omega) (by omega) (by simp; omega)) fun z hz=>?_;obtain ⟨o,t⟩:=z;obtain ⟨z1,z2,z3⟩:=hz;dsimp only at z1 z2 z3;rw [List.length_nil] at z1;refine Ok.call (nW t _) ⟨z2,by omega⟩ fun y2 s2 k1 k2 k3=>?_;refine Ok.bind (φ:=fun z:List Int×zH=>z.1.length ≤ 100) (Ok.ite_beq (fun _=>?_) fun _=>Ok.pure (by dsimp only; omega)) fun z hz=>by
    obtain ⟨o2,t2⟩:=z;exact Ok.pure hz
  exact Ok.call (xU s2 _) ⟨by decide,by omega,by omega,by decide⟩ fun y3 s3 _ _ _=>Ok.app (by simp; omega) (Ok.pure (by show (_ ++ _:List Int).length ≤ _; rw [lA]; simp; omega))
theorem zLH {P:zK} (hv:validP P=true) {z:zM} (h:z ∈ progI P):z.Point.length ≤ 100:=by
  obtain ⟨i,s,hi,hs,z1,z2,hn,hin,hpt,_⟩:=zIb hv h;have:=zJ4 hpt;omega
theorem zKp (r:zH) (P:zK) (h:BG P) (h0:0 ≤ r.p) (h1:r.p ≤ 800001000):Ok (gH r P) (fun y=>y.1.Point.length ≤ 100):=by
  unfold gH;rw [specInstP P h];have hL:∀ z ∈ (if validP P then progI P else []),z.Point.length ≤ 100:=by
    intro z hz;cases hv:validP P with
    | false=>rw [hv] at hz; cases hz
    | true=>rw [hv] at hz; exact zLH hv hz
  have hlen:(if validP P then progI P else []).length ≤ 120:=by
    cases hv:validP P with
    | false=>simp
    | true=>have:=(dU hv).2.2.2; simpa using this
  generalize (if validP P then progI P else [])=L at hL hlen;refine Ok.bind_some ?_;refine Ok.bind (φ:=fun z:Bool×zH=>(z.1=true→0 < L.length)∧0 ≤ z.2.p∧z.2.p ≤ 800002000) (Ok.ite_dec (fun hc=>Ok.call (nW r _) ⟨h0,by omega⟩ fun y s k1 k2 k3=>Ok.pure ⟨fun _=>by omega,by dsimp only; omega,by dsimp only; omega⟩) fun _=>Ok.pure ⟨fun h=>(by cases h),h0,by dsimp only; omega⟩) fun z hz=>?_;obtain ⟨b,t⟩:=z;obtain ⟨w1,w2,w3⟩:=hz;dsimp only at w1 w2 w3;refine Ok.ite (fun hc=>?_) fun _=>?_
  · have:=w1 hc;exact Ok.call (nW t _) ⟨w2,by omega⟩ fun y s k1 k2 k3=>Ok.idx (by omega) (by omega) fun x hx _=>Ok.pure (hL x hx)
  · exact Ok.call (xU t _) ⟨by decide,by omega,by omega,by decide⟩ fun y1 s1 _ k4 k5=>Ok.call (xU s1 _) ⟨by decide,by omega,by omega,by decide⟩ fun y2 s2 _ k6 k7=>Ok.bind (zJ7 s2 (by omega) (by omega)) fun z hz=>by
      obtain ⟨o,t3⟩:=z;exact Ok.pure hz
theorem drawIV (code:List UInt8):Ok (sR code) (fun y=>BG y.1∧y.2.1.length ≤ 145∧y.2.2.Point.length ≤ 100):=by
  unfold sR;refine Ok.call (zGx code) trivial fun s hs=>Ok.call (zHm s) ⟨by omega,by omega⟩ fun a t g1 g2 g3=>?_;refine Ok.bind (mut4 t a g1.dp (by omega) (by omega)) fun p hp=>?_;obtain ⟨P,r⟩:=p;refine Ok.bind (drawMem1 r P hp.1.1 hp.2) fun q hq=>?_;obtain ⟨l,r2⟩:=q;refine Ok.bind (zKQ r2 l hq.1 hq.2.1 hq.2.2) fun w hw=>?_;obtain ⟨l2,r3⟩:=w;obtain ⟨w1,w2,w3⟩:=hw;refine Ok.bind (zKp r3 P hp.1.1 w2 w3) fun o ho=>?_;obtain ⟨x,r4⟩:=o;exact Ok.pure ⟨hp.1.1,w1,ho⟩
end Go.LN
namespace Go.LN
def cmA (p:List Int) (a:zA):zA:=⟨[0,0,0,0],evA a p⟩
def cmC (p:List Int) (a:zG):zG:=⟨a.Array,a.Subs.map (cmA p)⟩
theorem zJ8 (p:List Int) (a:zA):evA (cmA p a) []=evA a p:=zGZ _ _
theorem zHX (p:List Int):∀ (ds:List Int) (ss:List zA) (n:Int),cellS [] ds (ss.map (cmA p)) n=cellS p ds ss n
  | _,[],n=>by simp [cellS]
  | [],_::_,n=>by simp [cellS]
  | d::ds,s::ss,n=>by
    rw [List.map_cons,cellS,cellS,zJ8]
    split
    · exact zHX p ds ss _
    · rfl
theorem zDJ (p:List Int) (a:zG):∀ (l:List zF) (first:Int),cellF (cmC p a) [] l first=cellF a p l first
  | [],_=>rfl
  | x::l,first=>by
    have e1:(cmC p a).Array=a.Array:=rfl
    have e2:(cmC p a).Subs=a.Subs.map (cmA p):=rfl
    rw [cellF,cellF,e1,e2,lM,zHX,zDJ p a l]
def cmE (p:List Int):Nat→zD→zD
  | 0,e=>e
  | n + 1,e=>.mk e.Kind e.Num (if e.Kind=2 then cmA p e.Index else ⟨[],0⟩) (if e.Kind=3 then cmC p e.Read else ⟨⟨[]⟩,[]⟩) (e.Kids.map (cmE p n))
theorem zHr {d:Int}{A:List zF}{m p:List Int}:∀ (n:Nat) (e:zD),shapeB d n e=true→evF A m [] n (cmE p n e)=evF A m p n e
  | 0,e,_=>rfl
  | n + 1,e,h=>by
    have k1:(cmE p (n + 1) e).Kind=e.Kind:=rfl
    have k2:(cmE p (n + 1) e).Num=e.Num:=rfl
    have k3:(cmE p (n + 1) e).Index=if e.Kind=2 then cmA p e.Index else ⟨[],0⟩:=rfl
    have k4:(cmE p (n + 1) e).Read=if e.Kind=3 then cmC p e.Read else ⟨⟨[]⟩,[]⟩:=rfl
    have k5:(cmE p (n + 1) e).Kids=e.Kids.map (cmE p n):=rfl
    rw [evF,evF,k1,k2,k3,k4,k5]
    rcases zAb h with hk | ⟨hk,a,b,hab⟩
    · rcases hk with k | k | k
      · rw [if_pos k,if_pos k]
      · rw [if_neg (show ¬e.Kind=1 by omega),if_neg (show ¬e.Kind=1 by omega),if_pos k,if_pos k,if_pos k,zJ8]
      · rw [if_neg (show ¬e.Kind=1 by omega),if_neg (show ¬e.Kind=1 by omega),if_neg (show ¬e.Kind=2 by omega),if_neg (show ¬e.Kind=2 by omega),if_pos k,if_pos k,if_pos k]
        unfold cellA
        rw [zDJ]
    · have h2:=(pL h).2
      rw [hab] at h2 ⊢
      have ea:=zHr (A:=A) (m:=m) (p:=p) n a (h2 a (by simp))
      have eb:=zHr (A:=A) (m:=m) (p:=p) n b (h2 b (by simp))
      have e0:[a,b].map (cmE p n)=[cmE p n a,cmE p n b]:=rfl
      rw [e0]
      dsimp only
      rw [ea,eb,if_neg (show ¬e.Kind=1 by omega),if_neg (show ¬e.Kind=2 by omega),if_neg (show ¬e.Kind=3 by omega),if_neg (show ¬e.Kind=1 by omega),if_neg (show ¬e.Kind=2 by omega),if_neg (show ¬e.Kind=3 by omega)]
theorem zDn {d:Int}{p:List Int}:∀ (n:Nat) (e:zD),shapeB d n e=true→readsF n (cmE p n e)=(readsF n e).map (cmC p)
  | 0,e,_=>rfl
  | n + 1,e,h=>by
    have k1:(cmE p (n + 1) e).Kind=e.Kind:=rfl
    have k4:(cmE p (n + 1) e).Read=if e.Kind=3 then cmC p e.Read else ⟨⟨[]⟩,[]⟩:=rfl
    have k5:(cmE p (n + 1) e).Kids=e.Kids.map (cmE p n):=rfl
    rw [readsF,readsF,k1,k4,k5]
    by_cases h3:e.Kind=3
    · rw [if_pos h3,if_pos h3,if_pos h3]; rfl
    · rw [if_neg h3,if_neg h3]
      obtain ⟨h1,h2⟩:=pL h
      rcases h1 with hk | ⟨a,b,hk⟩
      · rw [hk]; rfl
      · rw [hk] at h2 ⊢
        have ea:=zDn (p:=p) n a (h2 a (by simp))
        have eb:=zDn (p:=p) n b (h2 b (by simp))
        simp [ea,eb]
def cmS (p:List Int) (s:zN):zN:=⟨cmC p s.Write,cmE p 5 s.Value⟩
theorem zKT {A:List zF}{p:List Int}{s:zN}{d:Int} (hs:shapeB d 5 s.Value=true) (h:stOk A s p=true):stOk A (cmS p s) []=true:=by
  unfold stOk at h ⊢;have e1:cellA A [] (cmS p s).Write=cellA A p s.Write:=zDJ p s.Write A 0;have e2:(cmS p s).Value=cmE p 5 s.Value:=rfl;rw [e1,e2,zDn 5 _ hs];rw [bA] at h ⊢;refine ⟨h.1,?_⟩;rw [List.all_eq_true] at h ⊢;intro a ha;obtain ⟨b,hb,rfl⟩:=List.mem_map.1 ha;have e3:cellA A [] (cmC p b)=cellA A p b:=zDJ p b A 0;rw [e3];exact h.2 b hb
def onP (A:List zF) (s:zN):zK:=⟨A,[⟨[],[s]⟩]⟩
theorem zIc {P:zK} (hv:validP P=true) {s:zN} (hs:stmtB s 0=true) (hok:stOk P.Arrays s []=true):validP (onP P.Arrays s)=true∧isB (onP P.Arrays s) ⟨0,0,[]⟩=true:=by
  have ha:=(dU hv).1;have hn:nestB []=true:=by rfl
  have hpt:ptB []=true:=by rfl
  have hp:nestPts []=([[]],true):=by
    unfold nestPts;rw [if_pos ⟨hn,by decide,by decide⟩]; rfl
  have hpart:partB P.Arrays ⟨[],[s]⟩=true:=by
    unfold partB bodyB;show ((nestPts []).2 && ((decide (1 ≤ [s].length) && decide ([s].length ≤ 4)) && [s].all fun s=>stmtB s (([]:List zE).length:Int)) && (nestPts []).1.all fun q=>ptB q && [s].all fun s=>stOk P.Arrays s q)=true;rw [hp];simp [hpt,hok,hs]
  have hI:progI (onP P.Arrays s)=[⟨0,0,[]⟩]:=by
    unfold progI;show (List.range' 0 1).flatMap (fun (i:Nat)=>partI (i:Int) (gP (onP P.Arrays s) i))=_;rfl
  refine ⟨?_,?_⟩
  · unfold validP progB;rw [hI];have hpl:(onP P.Arrays s).Parts.length=1:=rfl;have hA:(onP P.Arrays s).Arrays=P.Arrays:=rfl;have hg:gP (onP P.Arrays s) 0=⟨[],[s]⟩:=rfl;rw [hpl,hA,ha];simp [hg,hpart]
  · unfold isB pinB;have hg:gP (onP P.Arrays s) 0=⟨[],[s]⟩:=rfl;show ((decide ((0:Int) ≤ 0) && decide ((0:Int) < (((onP P.Arrays s).Parts.length:Nat):Int))) && ((decide ((0:Int) ≤ 0) && decide ((0:Int) < (((gP (onP P.Arrays s) 0).Body.length:Nat):Int))) && (nestB (gP (onP P.Arrays s) 0).Nest && (ptB [] && (decide (([]:List Int).length=(gP (onP P.Arrays s) 0).Nest.length) && inB (gP (onP P.Arrays s) 0).Nest [] [])))))=true;rw [hg];have hpl:(onP P.Arrays s).Parts.length=1:=rfl;rw [hpl];simp [hn,hpt,inB]
end Go.LN
namespace Go.LN
end Go.LN
namespace Go.LN
theorem AV.bl {a:zG} (h:AV a):BL a.Subs:=⟨by have:=h.2.1; omega,fun s hs=>by have:=h.2.2 s hs; unfold BA; omega⟩
end Go.LN
namespace Go.LN
end Go.LN
namespace Go.LN
end Go.LN
namespace Go.LN
def mpA (f:zA→zA) (a:zG):zG:=⟨a.Array,a.Subs.map f⟩
theorem zKq {ch:zA→Option zA}{f:zA→zA} (a:zG) (hs:a.Subs.length ≤ 1000) (ha:∀ s ∈ a.Subs,ch s=some (f s)):∀ (j i:Nat) (o:List zA),i + j=a.Subs.length→o.length=i→sL a ch (i:Int) o=some (o ++ (a.Subs.drop i).map f):=by
  intro j
  induction j with
  | zero =>
    intro i o hi ho;rw [sL];have:¬((i:Int) < (a.Subs.length:Int)):=by omega
    simp only [this,dF,bF,if_false,oP,id];rw [dN.2 (by omega),List.map_nil,List.append_nil]
  | succ j ih =>
    intro i o hi ho;rw [sL];have hlt:i < a.Subs.length:=by omega
    have hc:((i:Int) < (a.Subs.length:Int)):=by omega
    rw [gC hlt,List.map_cons];simp only [hc,dT,if_true,yT hlt,ha _ (gM hlt),nH (show (o.length + [f a.Subs[i]].length) * 32 ≤ 140737488355328 by simp; omega),oB,oS];rw [tC (by omega),ih (i + 1) _ (by omega) (by rw [lA]; simp; omega),List.append_assoc]; rfl
theorem mpAV {d:Int}{ch:zA→Option zA}{f:zA→zA} (hch:∀ a,okA d a=true→ch a=some (f a)) {a:zG} (h:accB a d=true):oX a ch=some (mpA f a):=by
  have hv:=AV.of h;have hs:∀ s ∈ a.Subs,ch s=some (f s):=fun s hs=>by
    simp only [accB,bA,List.all_eq_true] at h;exact hch s (h.2 s hs)
  have h2:=hv.2.1;have hl:=zKq a (by omega) hs _ 0 [] (Nat.zero_add _) rfl;rw [nZ,List.drop_zero,List.nil_append] at hl;unfold oX;simp only [hl,oB,oS,oP];rfl
def mpE (f:zA→zA):Nat→zD→zD
  | 0,e=>e
  | n + 1,e=>.mk e.Kind e.Num (if e.Kind=2 then f e.Index else ⟨[],0⟩) (if e.Kind=3 then mpA f e.Read else ⟨⟨[]⟩,[]⟩) (e.Kids.map (mpE f n))
theorem mpEV {d:Int}{ch:zA→Option zA}{f:zA→zA} (hch:∀ a,okA d a=true→ch a=some (f a)):∀ (n:Nat) (e:zD),shapeB d n e=true→nG e ch=some (mpE f n e)
  | 0,e,h=>by cases h
  | n + 1,e,h=>by
    rw [nG,mpE]
    obtain ⟨h1,h2⟩:=pL h
    have hkl:sN e ch 0 []=some (e.Kids.map (mpE f n)):=by
      rcases h1 with hk | ⟨a,b,hk⟩
      · rw [sN]
        simp [hk]
      · have ra:=mpEV hch n a (h2 a (by rw [hk]; simp))
        have rb:=mpEV hch n b (h2 b (by rw [hk]; simp))
        have l0:((0:Int) < (e.Kids.length:Int)):=by rw [hk]; simp
        have l1:((1:Int) < (e.Kids.length:Int)):=by rw [hk]; simp
        have l2:¬((2:Int) < (e.Kids.length:Int)):=by rw [hk]; simp
        have i0:idx e.Kids 0=some a:=by rw [hk]; rfl
        have i1:idx e.Kids 1=some b:=by rw [hk]; rfl
        have w0:W ((0:Int) + 1)=1:=by rw [uP (by omega) (by omega)]; rfl
        have w1:W ((1:Int) + 1)=2:=by rw [uP (by omega) (by omega)]; rfl
        have p0:app 112 ([]:List zD) [mpE f n a]=some [mpE f n a]:=by rw [nH (by simp)]; rfl
        have p1:app 112 [mpE f n a] [mpE f n b]=some [mpE f n a,mpE f n b]:=by rw [nH (by simp)]; rfl
        rw [sN]
        simp only [l0,dT,if_true,oB,oS,i0,same,ra,p0,w0]
        rw [sN]
        simp only [l1,dT,if_true,oB,oS,i1,same,rb,p1,w1]
        rw [sN]
        simp only [l2,dF,bF,if_false,oP,id]
        rw [hk]; rfl
    rcases zAb h with hk | ⟨hk,_⟩
    · rcases hk with k | k | k
      · have e2:(e.Kind == 2)=false:=by simp; omega
        have e3:(e.Kind == 3)=false:=by simp; omega
        rw [if_neg (show ¬e.Kind=2 by omega),if_neg (show ¬e.Kind=3 by omega)]
        simp [e2,e3,same,hkl]
      · have e2:(e.Kind == 2)=true:=by simpa using k
        rw [if_pos k,if_neg (show ¬e.Kind=3 by omega)]
        simp [e2,same,hkl,hch _ (dV h k)]
      · have e2:(e.Kind == 2)=false:=by simp; omega
        have e3:(e.Kind == 3)=true:=by simpa using k
        rw [if_neg (show ¬e.Kind=2 by omega),if_pos k]
        simp [e2,e3,same,hkl,mpAV hch (gZ h k).2]
    · have e2:(e.Kind == 2)=false:=by simp; omega
      have e3:(e.Kind == 3)=false:=by simp; omega
      rw [if_neg (show ¬e.Kind=2 by omega),if_neg (show ¬e.Kind=3 by omega)]
      simp [e2,e3,same,hkl]
def mpS (f:zA→zA) (s:zN):zN:=⟨mpA f s.Write,mpE f 5 s.Value⟩
theorem mpSV {d:Int}{ch:zA→Option zA}{f:zA→zA} (hch:∀ a,okA d a=true→ch a=some (f a)) {s:zN} (h:stmtB s d=true):jE s ch=some (mpS f s):=by
  have hw:accB s.Write d=true:=by simp only [stmtB,bA] at h; exact h.1.2
  unfold jE;simp only [mpAV hch hw,mpEV hch 5 _ (jF h).2.1,oB,oS,oP];rfl
theorem zKr {d:Int}{f:zA→zA} (hf:∀ a,okA d a=true→BA (f a)):∀ (n:Nat) (e:zD),shapeB d (n + 1) e=true→BE n (mpE f (n + 1) e):=by
  have own:∀ (n:Nat) (e:zD),shapeB d (n + 1) e=true→BA (mpE f (n + 1) e).Index∧BL (mpE f (n + 1) e).Read.Subs:=fun n e h=>by
    constructor
    · show BA (if e.Kind=2 then f e.Index else ⟨[],0⟩);by_cases k:e.Kind=2
      · rw [if_pos k]; exact hf _ (dV h k)
      · rw [if_neg k]; show (0:Nat) ≤ 1000; omega
    · show BL (if e.Kind=3 then mpA f e.Read else ⟨⟨[]⟩,[]⟩:zG).Subs;by_cases k:e.Kind=3
      · rw [if_pos k];have ha:=(gZ h k).2;have hv:=AV.of ha;refine ⟨by show (e.Read.Subs.map f).length ≤ 1000; rw [lM]; have:=hv.2.1; omega,fun x hx=>?_⟩;obtain ⟨y,hy,rfl⟩:=List.mem_map.1 hx;simp only [accB,bA,List.all_eq_true] at ha;exact hf y (ha.2 y hy)
      · rw [if_neg k]; exact ⟨by show (0:Nat) ≤ 1000; omega,fun x hx=>by cases hx⟩
  intro n
  induction n with
  | zero =>
    intro e h;obtain ⟨h1,h2⟩:=pL h;refine ⟨(own 0 e h).1,(own 0 e h).2,?_⟩;rcases h1 with h0 | ⟨a,b,h0⟩
    · show e.Kids.map (mpE f 0)=[];rw [h0]; rfl
    · exact absurd (h2 a (by rw [h0]; simp)) (by simp [shapeB])
  | succ n ih =>
    intro e h;obtain ⟨h1,h2⟩:=pL h;refine ⟨(own _ e h).1,(own _ e h).2,?_,fun k hk=>?_⟩
    · show (e.Kids.map (mpE f (n + 1))).length ≤ 1000;rcases h1 with h0 | ⟨a,b,h0⟩ <;> rw [h0] <;> simp
    · obtain ⟨y,hy,rfl⟩:=List.mem_map.1 hk;exact ih y (h2 y hy)
theorem zKs {d:Int}{f:zA→zA} (hf:∀ a,okA d a=true→BA (f a)) {s:zN} (h:stmtB s d=true):BS (mpS f s):=by
  have hw:accB s.Write d=true:=by simp only [stmtB,bA] at h; exact h.1.2
  have hv:=AV.of hw;refine ⟨⟨by show (s.Write.Subs.map f).length ≤ 1000; rw [lM]; have:=hv.2.1; omega,fun x hx=>?_⟩,4,zKr hf 4 _ (jF h).2.1⟩;obtain ⟨y,hy,rfl⟩:=List.mem_map.1 hx;simp only [accB,bA,List.all_eq_true] at hw;exact hf y (hw.2 y hy)
end Go.LN
namespace Go.LN
def N61 (s:Str):Prop:=∀ c ∈ s.l,c ≠ 61
instance (s:Str):Decidable (N61 s):=inferInstanceAs (Decidable (∀ c ∈ s.l,c ≠ 61))
theorem N61.nil:N61 ⟨[]⟩:=by decide
theorem zJ9 {a b s:Str} (h:cat a b=some s):s.l=a.l ++ b.l:=by
  unfold cat at h;split at h
  · cases h; rfl
  · cases h
theorem N61.cat {a b s:Str} (h:cat a b=some s) (ha:N61 a) (hb:N61 b):N61 s:=fun c hc=>by
  rw [zJ9 h,List.mem_append] at hc;exact hc.elim (ha c) (hb c)
end Go.LN
namespace Go.LN
end Go.LN
namespace Go.LN
theorem zK3 (p:List Int):∀ (n:Nat) (e:zD),mpE (cmA p) n e=cmE p n e
  | 0,e=>rfl
  | n + 1,e=>by
    rw [mpE,cmE]
    have:e.Kids.map (mpE (cmA p) n)=e.Kids.map (cmE p n):=List.map_congr_left fun x _=>zK3 p n x
    rw [this]; rfl
theorem zKt (p:List Int) (s:zN):mpS (cmA p) s=cmS p s:=by
  unfold mpS cmS;rw [zK3]; rfl
theorem ptc {p:List Int} (hp:p.length ≤ 4) {b:zA} (h:b.Coefs.length=4):tS b p=some (cmA p b):=by
  unfold tS jV;have hm:mkrow 8 (4:Int) (0:Int)=some [0,0,0,0]:=by
    unfold mkrow;rw [if_pos ⟨by omega,by decide⟩]; rfl
  simp only [implEval b p (by omega) (by omega),hm,oB,oS,oP,id];rfl
theorem pointS (s:zN) (hb:BS s) (p:List Int) (hp:p.length ≤ 4):∃ o,mV s p=some o∧(o.2=true→o.1=cmS p s∧stmtB (cmS p s) 0=true∧BS (cmS p s)):=by
  unfold mV;rw [implStmt s _ hb];cases h:stmtB s (p.length:Int) with
  | false=>exact ⟨_,rfl,fun h=>by cases h⟩
  | true =>
    have hc:=fK (f:=rD) (p:=fun n=>!(decide (-99 ≤ n) && decide (n ≤ 99))) p (fun x _=>by unfold rD mR; rw [qL]; rfl) (by omega);have hm:=mpSV (ch:=fun x0=>tS x0 p) (f:=cmA p) (fun b hb=>ptc hp (zHq hb)) h;have hbs:=zKs (f:=cmA p) (fun b hb=>by show (4:Nat) ≤ 1000; omega) h;rw [zKt] at hm hbs;simp only [hc,hm,implStmt _ 0 hbs,bT,bF,if_false,oB,oS,oP,id];cases p.any fun n=>!(decide (-99 ≤ n) && decide (n ≤ 99)) with
    | true=>exact ⟨_,rfl,fun h=>by cases h⟩
    | false =>
      simp only [bF,if_false];cases hq:stmtB (cmS p s) 0 with
      | false=>exact ⟨_,rfl,fun h=>by cases h⟩
      | true=>exact ⟨_,rfl,fun _=>⟨rfl,rfl,hbs⟩⟩
theorem zJa (code:List UInt8):∃ r,mK code=some r∧r=true:=by
  obtain ⟨⟨P,m,x⟩,hy,hb,hm,hx⟩:=drawIV code;dsimp only at hb hm hx;unfold mK;refine ⟨true,?_,rfl⟩;by_cases h1:(code.length:Int) > 1048576
  · simp [h1]
  · simp only [h1,dF,bF,if_false,hy,implIV P hb m (by omega) x (by omega),specIV P hb m (by omega) x (by omega),bQ,bne_self_eq_false,bT,oB,oS,oP,id,if_true];unfold ivF;cases hc:memB P m && isB P x with
    | false=>simp
    | true =>
      rw [bA] at hc;obtain ⟨hmb,hi⟩:=hc;have hmm:=hmb;simp only [memB,bA] at hmm;have hv:=hmm.1;have h:=zHp hb hv hi;obtain ⟨d,hd⟩:=h.st;obtain ⟨o,ho,ho2⟩:=pointS (stI P x) h.bs x.Point h.pt;obtain ⟨o1,o2⟩:=o;simp only [if_true,bT,bF,if_false,h.idxP,h.idxS,ho,oS];cases o2 with
      | false=>rfl
      | true =>
        obtain ⟨g1,g2,g3⟩:=ho2 rfl;dsimp only at g1;subst g1;have hok:=zKT (jF hd).2.1 h.ok;obtain ⟨q1,q2⟩:=zIc hv g2 hok;have hbq:BG (onP P.Arrays (cmS x.Point (stI P x))):=⟨hb.1,by show (1:Nat) ≤ 100000; omega,fun y hy=>by
          have e:y=⟨[],[cmS x.Point (stI P x)]⟩:=List.mem_singleton.1 hy;subst e;exact ⟨⟨by show (0:Nat) ≤ 100000; omega,fun z hz=>by cases hz⟩,by show (1:Nat) ≤ 100000; omega,fun z hz=>by rw [List.mem_singleton.1 hz]; exact g3⟩⟩
        have hI:=implIV _ hbq m (by omega) ⟨0,0,[]⟩ (by show (0:Nat) ≤ 1048576; omega);have hmq:memB (onP P.Arrays (cmS x.Point (stI P x))) m=true:=by
          unfold memB;rw [q1,Bool.true_and,bA]; exact hmm.2
        have hS:stI (onP P.Arrays (cmS x.Point (stI P x))) ⟨0,0,[]⟩=cmS x.Point (stI P x):=rfl;unfold ivF at hI;rw [hmq,q2,hS] at hI;have he:evF P.Arrays m [] 5 (cmS x.Point (stI P x)).Value=evF P.Arrays m x.Point 5 (stI P x).Value:=zHr 5 _ (jF hd).2.1;have hI:tR (zK.mk P.Arrays [zL.mk [] [cmS x.Point (stI P x)]]) m (zM.mk 0 0 [])=some (evF P.Arrays m x.Point 5 (stI P x).Value,true):=by rw [← he]; exact hI
        simp only [bT,bF,if_false,hI,oS,if_true,bQ]
end Go.LN
