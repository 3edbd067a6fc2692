/- Helper of the proof (see the last text). -/
import Derived.Test.YtaflkghnfcjahaaGreatVB1
import Derived.Test.YtaflkghnfcjahaaGreatQZ
set_option linter.unusedVariables false
set_option linter.unusedSimpArgs false
namespace Go.LN
def BP (x:zM):Prop:=BN x.Nest∧x.Body.length ≤ 100000∧∀ s ∈ x.Body,BS s
def bodyB (x:zM):Bool:=(decide (1 ≤ x.Body.length) && decide (x.Body.length ≤ 4)) && x.Body.all fun s=>stmtB s (x.Nest.length:Int)
def partB (A:List zF) (x:zM):Bool:=(nestPts x.Nest).2 && bodyB x && (nestPts x.Nest).1.all fun q=>ptB q && x.Body.all fun s=>stOk A s q
def instR (k:Int) (q:List Int) (i j:Nat):List zO:=(List.range' i j).map fun (i:Nat)=>⟨k,(i:Int),q⟩
theorem zFO (k:Int) (q:List Int) (i j:Nat):(instR k q i j).length=j:=by simp [instR]
theorem len14 (n:Nat):(decide ((1:Int) ≤ (n:Int)) && decide ((n:Int) ≤ 4))=(decide (1 ≤ n) && decide (n ≤ 4)):=by
  have e1:decide ((1:Int) ≤ (n:Int))=decide (1 ≤ n):=by simp; omega
  have e2:decide ((n:Int) ≤ 4)=decide (n ≤ 4):=by simp; omega
  rw [e1,e2]
theorem zLc (P:zE) (k:Int) (x:zM) (q:List Int) (hq:q.length ≤ 4) (hb:x.Body.length ≤ 4) (hs:∀ s ∈ x.Body,stmtB s (x.Nest.length:Int)=true) (hR:RV P.Arrays) :
    ∀ (j i:Nat) (o:List zO),i + j=x.Body.length→o.length + j ≤ 1000000→wZ P k x q o (i:Int)=some (if (x.Body.drop i).all (fun s=>stOk P.Arrays s q) then .done (o ++ instR k q i j) else .ret ([],false)):=by
  intro j
  induction j with
  | zero =>
    intro i o hi ho
    rw [wZ]
    have:¬((i:Int) < (x.Body.length:Int)):=by omega
    simp only [this,dF,bF,if_false]
    rw [show x.Body.drop i=[] from dN.2 (by omega)]
    simp [instR]
  | succ j ih =>
    intro i o hi ho
    rw [wZ]
    have hlt:i < x.Body.length:=by omega
    have hc:((i:Int) < (x.Body.length:Int)):=by omega
    have happ:app 40 o [(⟨k,(i:Int),q⟩:zO)]=some (o ++ [⟨k,(i:Int),q⟩]):=oT (by simp; omega)
    simp only [hc,dT,if_true,yZ hlt,oB,oS,implStmtOk P _ q (hs _ (gM hlt)) hq hR,zGn q (by omega),happ]
    rw [tE (by omega),gC hlt,List.all_cons]
    cases stOk P.Arrays x.Body[i] q with
    | false=>rfl
    | true =>
      simp only [bT,bF,if_false,Bool.true_and]
      rw [ih (i + 1) _ (by omega) (by simp; omega),List.append_assoc]
      simp only [instR,List.range'_succ,List.map_cons,List.singleton_append]
def ptOk (A:List zF) (x:zM) (q:List Int):Bool:=ptB q && x.Body.all fun s=>stOk A s q
theorem zLd (P:zE) (k:Int) (x:zM) (qs:List (List Int)) (hq:∀ q ∈ qs,q.length ≤ 4) (hql:qs.length ≤ 120) (hb:x.Body.length ≤ 4) (hs:∀ s ∈ x.Body,stmtB s (x.Nest.length:Int)=true) (hR:RV P.Arrays) :
    ∀ (j i:Nat) (o:List zO),i + j=qs.length→o.length + 4 * j ≤ 1000000→vC P k x qs o (i:Int)=some (if (qs.drop i).all (ptOk P.Arrays x) then .done (o ++ (qs.drop i).flatMap fun q=>instR k q 0 x.Body.length) else .ret ([],false)):=by
  intro j
  induction j with
  | zero =>
    intro i o hi ho
    rw [vC]
    have:¬((i:Int) < (qs.length:Int)):=by omega
    simp only [this,dF,bF,if_false]
    rw [show qs.drop i=[] from dN.2 (by omega)]
    simp
  | succ j ih =>
    intro i o hi ho
    rw [vC]
    have hlt:i < qs.length:=by omega
    have hc:((i:Int) < (qs.length:Int)):=by omega
    have hq4:=hq _ (gM hlt)
    have h3:=zLc P k x qs[i] hq4 hb hs hR x.Body.length 0 o (Nat.zero_add _) (by omega)
    rw [nZ,List.drop_zero] at h3
    simp only [hc,dT,if_true,yZ hlt,oB,oS,implPoint _ (show qs[i].length ≤ 1048576 by omega),h3]
    rw [tE (by omega),gC hlt,List.all_cons,List.flatMap_cons,ptOk]
    cases ptB qs[i] with
    | false=>rfl
    | true =>
      simp only [bT,bF,if_false,Bool.true_and]
      cases x.Body.all fun s=>stOk P.Arrays s qs[i] with
      | false=>rfl
      | true =>
        simp only [if_true,oS,Bool.true_and]
        rw [ih (i + 1) _ (by omega) (by rw [lA,zFO]; omega),List.append_assoc]
def partI (k:Int) (x:zM):List zO:=(nestPts x.Nest).1.flatMap fun q=>instR k q 0 x.Body.length
theorem zIn (k:Int) (b:Nat):∀ qs:List (List Int),(qs.flatMap fun q=>instR k q 0 b).length=qs.length * b
  | []=>by simp
  | q::qs=>by rw [List.flatMap_cons,lA,zFO,zIn k b qs,List.length_cons,Nat.succ_mul]; omega
theorem zH9 (k:Int) (x:zM):(partI k x).length=(nestPts x.Nest).1.length * x.Body.length:=zIn _ _ _
theorem zB9 {x:zM} (h:bodyB x=true):1 ≤ x.Body.length∧x.Body.length ≤ 4∧∀ s ∈ x.Body,stmtB s (x.Nest.length:Int)=true:=by
  simp only [bodyB,bA,decide_eq_true_eq] at h;exact ⟨h.1.1,h.1.2,List.all_eq_true.1 h.2⟩
theorem zGr (k:Int) {A:List zF}{x:zM} (h:partB A x=true):(partI k x).length ≤ 480:=by
  simp only [partB,bA] at h;obtain ⟨h1,h2,_⟩:=zB9 h.1.2;have:=(zC2 (nest:=x.Nest)).1;rw [zH9];exact Nat.mul_le_mul this h2
def gP (P:zE) (i:Nat):zM:=P.Parts.getD i ⟨[],[]⟩
theorem zLe (P:zE) (hP:P.Parts.length ≤ 4) (hb:∀ x ∈ P.Parts,BP x) (hR:RV P.Arrays) :
    ∀ (j i:Nat) (o:List zO),i + j=P.Parts.length→o.length ≤ 480 * i→vD P o (i:Int)=some (if (List.range' i j).all (fun i=>partB P.Arrays (gP P i)) then .done (o ++ (List.range' i j).flatMap fun (i:Nat)=>partI (i:Int) (gP P i)) else .ret ([],false)):=by
  intro j
  induction j with
  | zero =>
    intro i o hi ho
    rw [vD]
    have:¬((i:Int) < (P.Parts.length:Int)):=by omega
    simp only [this,dF,bF,if_false]
    simp
  | succ j ih =>
    intro i o hi ho
    rw [vD]
    have hlt:i < P.Parts.length:=by omega
    have hc:((i:Int) < (P.Parts.length:Int)):=by omega
    obtain ⟨b1,b2,b3⟩:=hb _ (gM hlt)
    have hg:gP P i=P.Parts[i]:=by simp [gP,hlt]
    have hcs:=zHv (f:=fun x0=>vL x0 P.Parts[i]) (p:=fun s=>!(stmtB s (P.Parts[i].Nest.length:Int))) P.Parts[i].Body (fun s hs=>by
        unfold vL
        rw [implStmt s _ (b3 s hs)]; rfl) (by omega)
    simp only [hc,dT,if_true,yZ hlt,oB,oS,implPoints _ b1,mD,len14,hcs,oP,id]
    rw [tE (by omega),List.range'_succ,List.all_cons,List.flatMap_cons,hg]
    have hnl:=zC2 (nest:=P.Parts[i].Nest)
    cases hn:(nestPts P.Parts[i].Nest).2 with
    | false=>simp [partB,hn]
    | true =>
      cases hb4:(decide (1 ≤ P.Parts[i].Body.length) && decide (P.Parts[i].Body.length ≤ 4)) with
      | false=>simp [partB,bodyB,hb4]
      | true =>
        have hany:(P.Parts[i].Body.any fun s=>!(stmtB s (P.Parts[i].Nest.length:Int)))=!(P.Parts[i].Body.all fun s=>stmtB s (P.Parts[i].Nest.length:Int)):=by
          rw [Bool.eq_iff_iff]; simp
        simp only [bT,bF,if_false,oS,hany]
        cases hall:P.Parts[i].Body.all fun s=>stmtB s (P.Parts[i].Nest.length:Int) with
        | false=>simp [partB,bodyB,hall]
        | true =>
          have hbb:bodyB P.Parts[i]=true:=by rw [bodyB,hb4,hall]; rfl
          obtain ⟨q1,q2,q3⟩:=zB9 hbb
          have h2:=zLd P (i:Int) P.Parts[i] (nestPts P.Parts[i].Nest).1 hnl.2 hnl.1 q2 q3 hR _ 0 o (Nat.zero_add _) (by have:=hnl.1; omega)
          rw [nZ,List.drop_zero] at h2
          simp only [bT,bF,if_false,h2]
          have hpB:partB P.Arrays P.Parts[i]=(nestPts P.Parts[i].Nest).1.all (ptOk P.Arrays P.Parts[i]):=by rw [partB,hn,hbb]; rfl
          rw [hpB]
          cases hpt:(nestPts P.Parts[i].Nest).1.all (ptOk P.Arrays P.Parts[i]) with
          | false=>simp
          | true =>
            have hle:=zGr (i:Int) (A:=P.Arrays) (x:=P.Parts[i]) (by rw [hpB,hpt])
            simp only [if_true,oS,Bool.true_and]
            rw [show (o ++ (nestPts P.Parts[i].Nest).1.flatMap fun q=>instR (i:Int) q 0 P.Parts[i].Body.length)=o ++ partI (i:Int) P.Parts[i] from rfl]
            rw [ih (i + 1) _ (by omega) (by rw [lA]; omega),List.append_assoc]
def BG (P:zE):Prop:=BR P.Arrays∧P.Parts.length ≤ 100000∧∀ x ∈ P.Parts,BP x
def progB (P:zE):Bool:=arrB P.Arrays && decide (P.Parts.length ≤ 4) && (List.range' 0 P.Parts.length).all fun i=>partB P.Arrays (gP P i)
def progI (P:zE):List zO:=(List.range' 0 P.Parts.length).flatMap fun (i:Nat)=>partI (i:Int) (gP P i)
def validP (P:zE):Bool:=progB P && decide ((progI P).length ≤ 120)
theorem implInstances (P:zE) (h:BG P):rP P=some (if progB P then (progI P,decide ((progI P).length ≤ 120)) else ([],false)):=by
  obtain ⟨h1,h2,h3⟩:=h;unfold rP progB;rw [implArrays _ h1];cases ha:arrB P.Arrays with
  | false=>simp
  | true =>
    by_cases h4:P.Parts.length ≤ 4
    · have e:¬((P.Parts.length:Int) > 4):=by omega
      have hl:=zLe P h4 h3 (RV.of h1 ha) _ 0 [] (Nat.zero_add _) (by simp);rw [nZ,List.nil_append] at hl;simp only [bT,bF,if_false,e,dF,oP,oB,oS,hl,h4,dT,Bool.true_and];cases hA:(List.range' 0 P.Parts.length).all fun i=>partB P.Arrays (gP P i) with
      | false=>simp
      | true =>
        simp only [if_true,progI]
        congr 2
        simp; omega
    · have e:((P.Parts.length:Int) > 4):=by omega
      simp [e,h4]
theorem zHa {R:Type}{r0:R}{n:Nat}{f:Int→Option (Out Unit R)}{P:Nat→Bool} (step:∀ i,i < n→f (i:Int)=if P i then f ((i + 1:Nat):Int) else some (.ret r0)) (fin:f (n:Int)=some (.done ())):f 0=some (if (List.range n).all P then .done () else .ret r0):=by
  have key:∀ j i,i + j=n→f (i:Int)=some (if (List.range' i j).all P then .done () else .ret r0):=by
    intro j
    induction j with
    | zero=>intro i hi; rw [show i=n by omega,fin]; rfl
    | succ j ih =>
      intro i hi;rw [step i (by omega),List.range'_succ,List.all_cons];cases hP:P i with
      | false=>simp
      | true=>simp only [if_true,Bool.true_and]; exact ih (i + 1) (by omega)
  have:=key n 0 (by omega);rw [List.range_eq_range'];exact this
theorem zIo (A:List zF) (x:zM) (qs:List (List Int)) (hq:∀ q ∈ qs,q.length ≤ 4) (hql:qs.length ≤ 120) (i:Nat) (hi:i < x.Body.length) (hs:stmtB x.Body[i] (x.Nest.length:Int)=true) (hbs:BS x.Body[i]) (hR:RV A) :
    uR A x qs (i:Int) 0=some (if qs.all (fun q=>stOk A x.Body[i] q && ptB q) then .done () else .ret (0,false)):=by
  have hl:=zHa (r0:=((0:Int),false)) (n:=qs.length) (f:=uR A x qs (i:Int)) (P:=fun k=>stOk A x.Body[i] (qs.getD k []) && ptB (qs.getD k [])) (fun k hk=>by
      rw [uR]
      have h1:((k:Int) < (qs.length:Int)):=by omega
      have hg:qs.getD k []=qs[k]:=by simp [hk]
      have hk4:=hq _ (gM hk)
      simp only [h1,dT,if_true,yZ hi,yZ hk,oB,oS,specCells A _ qs[k] hs hbs hk4 hR,specPoint _ (show qs[k].length ≤ 1048576 by omega),hg]
      rw [tE (by omega)]
      cases stOk A x.Body[i] qs[k] with
      | false=>simp
      | true=>cases ptB qs[k] <;> simp) (by
      rw [uR]; simp)
  rw [hl,eX qs (fun q=>stOk A x.Body[i] q && ptB q)]
def EXz:zG:=zG.mk 0 0 (zA.mk [] 0) (zJ.mk ⟨[]⟩ []) []
theorem zIp (A:List zF) (x:zM) (hx:BP x) (qs:List (List Int)) (hq:∀ q ∈ qs,q.length ≤ 4) (hql:qs.length ≤ 120) (hR:RV A) :
    uS A x qs 0=some (if x.Body.all (fun s=>stmtB s (x.Nest.length:Int) && qs.all (fun q=>stOk A s q && ptB q)) then .done () else .ret (0,false)):=by
  obtain ⟨b1,b2,b3⟩:=hx
  have hl:=zHa (r0:=((0:Int),false)) (n:=x.Body.length) (f:=uS A x qs) (P:=fun i=>(fun s=>stmtB s (x.Nest.length:Int) && qs.all (fun q=>stOk A s q && ptB q)) (x.Body.getD i ⟨⟨⟨[]⟩,[]⟩,EXz⟩)) (fun i hi=>by
      rw [uS]
      have h1:((i:Int) < (x.Body.length:Int)):=by omega
      have hg:x.Body.getD i ⟨⟨⟨[]⟩,[]⟩,EXz⟩=x.Body[i]:=by simp [hi]
      have hbs:=b3 _ (gM hi)
      simp only [h1,dT,if_true,yZ hi,oB,oS,specStmt _ _ hbs,hg]
      rw [tE (by omega)]
      cases hst:stmtB x.Body[i] (x.Nest.length:Int) with
      | false=>simp
      | true =>
        simp only [bT,bF,if_false,zIo A x qs hq hql i hi hst hbs hR,Bool.true_and]
        cases qs.all (fun q=>stOk A x.Body[i] q && ptB q) <;> simp) (by
      rw [uS]; simp)
  rw [hl,eX x.Body (fun s=>stmtB s (x.Nest.length:Int) && qs.all (fun q=>stOk A s q && ptB q))]
theorem zKv {A:List zF}{x:zM}{qs:List (List Int)} (h1:1 ≤ x.Body.length) :
    (x.Body.all (fun s=>stmtB s (x.Nest.length:Int) && qs.all (fun q=>stOk A s q && ptB q)))=((x.Body.all fun s=>stmtB s (x.Nest.length:Int)) && qs.all (ptOk A x)):=by
  rw [Bool.eq_iff_iff,bA,List.all_eq_true,List.all_eq_true,List.all_eq_true]
  constructor
  · intro h
    refine ⟨fun s hs=>((bA _ _).mp (h s hs)).1,fun q hq=>?_⟩
    have hall:∀ s ∈ x.Body,stOk A s q=true∧ptB q=true:=fun s hs=>by
      have:=((bA _ _).mp (h s hs)).2
      have:=List.all_eq_true.1 this q hq
      rwa [bA] at this
    rw [ptOk,bA,List.all_eq_true]
    exact ⟨(hall x.Body[0] (gM (by omega))).2,fun s hs=>(hall s hs).1⟩
  · rintro ⟨h2,h3⟩ s hs
    rw [bA,List.all_eq_true]
    refine ⟨h2 s hs,fun q hq=>?_⟩
    have:=h3 q hq
    rw [ptOk,bA,List.all_eq_true] at this
    rw [bA]
    exact ⟨this.2 s hs,this.1⟩
theorem specPart (A:List zF) (x:zM) (hx:BP x) (hR:RV A):oL A x=some (if partB A x then (((nestPts x.Nest).1.length * x.Body.length:Nat):Int) else 0,partB A x):=by
  have hnl:=zC2 (nest:=x.Nest);have hl:=zIp A x hx (nestPts x.Nest).1 hnl.2 hnl.1 hR;obtain ⟨b1,b2,b3⟩:=hx;unfold oL partB;rw [specPoints _ b1];cases hn:(nestPts x.Nest).2 with
  | false=>simp [hn]
  | true =>
    by_cases q1:1 ≤ x.Body.length
    · have q1':¬((x.Body.length:Int) < 1):=by omega
      by_cases q2:x.Body.length ≤ 4
      · have q2':¬((x.Body.length:Int) > 4):=by omega
        have hm:(nestPts x.Nest).1.length * x.Body.length ≤ 120 * 4:=Nat.mul_le_mul hnl.1 q2;have hW:W (((nestPts x.Nest).1.length:Int) * (x.Body.length:Int))=(((nestPts x.Nest).1.length * x.Body.length:Nat):Int):=by
          rw [← Int.natCast_mul]; exact rU (by omega) (by omega)
        have hb:bodyB x=x.Body.all fun s=>stmtB s (x.Nest.length:Int):=by simp [bodyB,q1,q2]
        have hsw:=zKv (A:=A) (qs:=(nestPts x.Nest).1) q1;rw [hsw] at hl;have hpt:((nestPts x.Nest).1.all fun q=>ptB q && x.Body.all fun s=>stOk A s q)=(nestPts x.Nest).1.all (ptOk A x):=rfl;simp only [hn,bT,bF,if_false,q1',q2',dF,oP,oB,oS,hl,hb,hpt,hW,Bool.true_and];cases ((x.Body.all fun s=>stmtB s (x.Nest.length:Int)) && (nestPts x.Nest).1.all (ptOk A x)) <;> simp
      · have q2':((x.Body.length:Int) > 4):=by omega
        have hb:bodyB x=false:=by simp [bodyB,q2]
        simp [hn,q1',q2',hb]
    · have q1':((x.Body.length:Int) < 1):=by omega
      have hb:bodyB x=false:=by simp [bodyB,q1]
      simp [hn,q1',hb]
theorem zGs (P:zE) (hP:P.Parts.length ≤ 4) (hb:∀ x ∈ P.Parts,BP x) (hR:RV P.Arrays) :
    ∀ (j i t:Nat),i + j=P.Parts.length→t ≤ 480 * i→wD P (t:Int) (i:Int)=some (if (List.range' i j).all (fun i=>partB P.Arrays (gP P i)) then .done (((t + ((List.range' i j).flatMap fun (i:Nat)=>partI (i:Int) (gP P i)).length:Nat)):Int) else .ret false):=by
  intro j
  induction j with
  | zero =>
    intro i t hi ht
    rw [wD]
    have:¬((i:Int) < (P.Parts.length:Int)):=by omega
    simp only [this,dF,bF,if_false]
    simp
  | succ j ih =>
    intro i t hi ht
    rw [wD]
    have hlt:i < P.Parts.length:=by omega
    have hc:((i:Int) < (P.Parts.length:Int)):=by omega
    have hg:gP P i=P.Parts[i]:=by simp [gP,hlt]
    simp only [hc,dT,if_true,yZ hlt,oB,oS,specPart P.Arrays _ (hb _ (gM hlt)) hR]
    rw [tE (by omega),List.range'_succ,List.all_cons,List.flatMap_cons,hg]
    cases hp:partB P.Arrays P.Parts[i] with
    | false=>simp
    | true =>
      have hle:=zGr (i:Int) hp
      have hpl:=zH9 (i:Int) P.Parts[i]
      rw [hpl] at hle
      have hW:W ((t:Int) + (((nestPts P.Parts[i].Nest).1.length * P.Parts[i].Body.length:Nat):Int))=((t + (nestPts P.Parts[i].Nest).1.length * P.Parts[i].Body.length:Nat):Int):=by
        rw [rU (by omega) (by omega)]; omega
      simp only [if_true,bT,bF,if_false,Bool.true_and,hW]
      rw [ih (i + 1) _ (by omega) (by omega),lA,hpl,Nat.add_assoc]
theorem specValidP (P:zE) (h:BG P):uJ P=some (validP P):=by
  obtain ⟨h1,h2,h3⟩:=h;unfold uJ validP progB;rw [specArrays _ h1];cases ha:arrB P.Arrays with
  | false=>simp
  | true =>
    by_cases h4:P.Parts.length ≤ 4
    · have e:¬((P.Parts.length:Int) > 4):=by omega
      have hl:=zGs P h4 h3 (RV.of h1 ha) _ 0 0 (Nat.zero_add _) (by simp);rw [nZ,Nat.zero_add] at hl;simp only [bT,bF,if_false,e,dF,oP,oB,oS,hl,h4,dT,Bool.true_and];cases hA:(List.range' 0 P.Parts.length).all fun i=>partB P.Arrays (gP P i) with
      | false=>simp
      | true =>
        simp only [if_true,progI,Bool.true_and]
        congr 1
        simp; omega
    · have e:((P.Parts.length:Int) > 4):=by omega
      simp [e,h4]
end Go.LN
namespace Go.LN
theorem eZ {α:Type}{l:List α}{f:Int→List α→Option (List α)} (step:∀ (i:Nat) (h:i < l.length) (o:List α),o.length=i→f (i:Int) o=f ((i + 1:Nat):Int) (o ++ [l[i]])) (fin:∀ o,f (l.length:Int) o=some o):f 0 []=some l:=by
  have key:∀ j i,i + j=l.length→f (i:Int) (l.take i)=some l:=by
    intro j
    induction j with
    | zero =>
      intro i hi;rw [show i=l.length by omega,fin,List.take_of_length_le (Nat.le_refl _)]
    | succ j ih =>
      intro i hi;have hlt:i < l.length:=by omega
      have:=ih (i + 1) (by omega);rw [List.take_add_one,List.getElem?_eq_getElem hlt,Option.toList_some] at this;rw [step i hlt _ (by rw [List.length_take]; omega)];exact this
  exact key _ 0 (Nat.zero_add _)
theorem copyExpr:∀ (m:Nat) (e:zG),BE m e→qR e=some e
  | m,e,h=>by
    obtain ⟨h1,h2,h3⟩:=h.own
    rw [qR]
    have hl:=eZ (l:=e.Kids) (f:=fun i o=>uC e i o) (fun i hi o ho=>by
        show uC e (i:Int) o=_
        rw [uC]
        have k1:((i:Int) < (e.Kids.length:Int)):=by omega
        obtain ⟨m',hm,hm'⟩:=h.kid (gM hi)
        have happ:app 112 o [e.Kids[i]]=some (o ++ [e.Kids[i]]):=oT (by simp; omega)
        have hr:=copyExpr m' e.Kids[i] hm'
        simp only [k1,dT,if_true,yZ hi,oB,oS,same,hr,happ]
        rw [tE (by omega)]) (fun o=>by
        show uC e (e.Kids.length:Int) o=_
        rw [uC]; simp)
    simp only [specCopyAff _ h1,specCopyAcc _ h2,oB,oS,same]
    rw [show uC e 0 []=some e.Kids from hl]
    clear hl h h1 h2 h3
    cases e; rfl
theorem copyStmt (s:zN) (h:BS s):jN s=some s:=by
  obtain ⟨h1,m,h2⟩:=h;unfold jN;rw [specCopyAcc _ h1,copyExpr m _ h2];rfl
theorem copyNest (nest:List zD) (h:BN nest):nK nest=some nest:=by
  obtain ⟨h1,h2⟩:=h;unfold nK;have hl:=eZ (l:=nest) (f:=fun i o=>uN nest o i) (fun i hi o ho=>by
      show uN nest o (i:Int)=_;rw [uN];have k1:((i:Int) < (nest.length:Int)):=by omega
      obtain ⟨⟨q1,q2⟩,q3,q4⟩:=h2 _ (gM hi);have happ:app 48 o [nest[i]]=some (o ++ [nest[i]]):=oT (by simp; omega);have hlo:=eZ (l:=nest[i].Lo) (f:=fun k o=>sR nest (i:Int) k o) (fun k hk o ho=>by
          show sR nest (i:Int) (k:Int) o=_;rw [sR];have k2:((k:Int) < (nest[i].Lo.length:Int)):=by omega
          have hp:app 32 o [nest[i].Lo[k]]=some (o ++ [nest[i].Lo[k]]):=oT (by simp; omega);have ha:=q2 _ (gM hk);have hpn:app 8 ([]:List Int) nest[i].Lo[k].Coefs=some nest[i].Lo[k].Coefs:=zAB _ (by unfold BA at ha; omega);simp only [yZ hi,k2,dT,if_true,yZ hk,oB,oS,hpn,hp];rw [tE (by omega)]) (fun o=>by
          show sR nest (i:Int) (nest[i].Lo.length:Int) o=_;rw [sR]; simp [yZ hi])
      have hhi:=eZ (l:=nest[i].Hi) (f:=fun k o=>sS nest (i:Int) k o) (fun k hk o ho=>by
          show sS nest (i:Int) (k:Int) o=_;rw [sS];have k2:((k:Int) < (nest[i].Hi.length:Int)):=by omega
          have hp:app 32 o [nest[i].Hi[k]]=some (o ++ [nest[i].Hi[k]]):=oT (by simp; omega);have ha:=q4 _ (gM hk);have hpn:app 8 ([]:List Int) nest[i].Hi[k].Coefs=some nest[i].Hi[k].Coefs:=zAB _ (by unfold BA at ha; omega);simp only [yZ hi,k2,dT,if_true,yZ hk,oB,oS,hpn,hp];rw [tE (by omega)]) (fun o=>by
          show sS nest (i:Int) (nest[i].Hi.length:Int) o=_;rw [sS]; simp [yZ hi])
      simp only [k1,dT,if_true,oB,oS,hlo,hhi,happ];rw [tE (by omega)]) (fun o=>by
      show uN nest o (nest.length:Int)=_;rw [uN]; simp)
  rw [hl]; rfl
theorem copyProg (P:zE) (h:BG P):qJ P=some P:=by
  obtain ⟨⟨h1,h1'⟩,h2,h3⟩:=h;unfold qJ;have ha:=eZ (l:=P.Arrays) (f:=fun i o=>sT P i o) (fun i hi o ho=>by
      show sT P (i:Int) o=_;rw [sT];have k1:((i:Int) < (P.Arrays.length:Int)):=by omega
      have hd:=h1' _ (gM hi);have happ:app 40 o [P.Arrays[i]]=some (o ++ [P.Arrays[i]]):=oT (by simp; omega);have hpn:app 8 ([]:List Int) P.Arrays[i].Dims=some P.Arrays[i].Dims:=zAB _ (by omega);simp only [k1,dT,if_true,yZ hi,oB,oS,hpn,happ];rw [tE (by omega)]) (fun o=>by
      show sT P (P.Arrays.length:Int) o=_;rw [sT]; simp)
  have hp:=eZ (l:=P.Parts) (f:=fun i o=>uO P i o) (fun i hi o ho=>by
      show uO P (i:Int) o=_;rw [uO];have k1:((i:Int) < (P.Parts.length:Int)):=by omega
      obtain ⟨b1,b2,b3⟩:=h3 _ (gM hi);have happ:app 48 o [P.Parts[i]]=some (o ++ [P.Parts[i]]):=oT (by simp; omega);have hb:=eZ (l:=P.Parts[i].Body) (f:=fun k o=>sU P (i:Int) k o) (fun k hk o ho=>by
          show sU P (i:Int) (k:Int) o=_;rw [sU];have k2:((k:Int) < (P.Parts[i].Body.length:Int)):=by omega
          have hp:app 152 o [P.Parts[i].Body[k]]=some (o ++ [P.Parts[i].Body[k]]):=oT (by simp; omega);simp only [yZ hi,k2,dT,if_true,yZ hk,oB,oS,copyStmt _ (b3 _ (gM hk)),hp];rw [tE (by omega)]) (fun o=>by
          show sU P (i:Int) (P.Parts[i].Body.length:Int) o=_;rw [sU]; simp [yZ hi])
      simp only [k1,dT,if_true,yZ hi,oB,oS,copyNest _ b1,hb,happ];rw [tE (by omega)]) (fun o=>by
      show uO P (P.Parts.length:Int) o=_;rw [uO]; simp)
  rw [ha,hp]; rfl
end Go.LN
namespace Go.LN
theorem BE.up1:∀ {n:Nat}{e:zG},BE n e→BE (n + 1) e
  | 0,e,⟨h1,h2,h3⟩=>⟨h1,h2,by rw [h3]; simp,by rw [h3]; intro k hk; cases hk⟩
  | n + 1,e,⟨h1,h2,h3,h4⟩=>⟨h1,h2,h3,fun k hk=>BE.up1 (h4 k hk)⟩
theorem BE.up {n m:Nat}{e:zG} (h:BE n e) (hm:n ≤ m):BE m e:=by
  obtain ⟨k,rfl⟩:=Nat.exists_eq_add_of_le hm
  induction k with
  | zero=>exact h
  | succ k ih=>exact BE.up1 (ih (by omega))
def QL (q:Nat) (l:List zA):Prop:=l.length ≤ q∧∀ a ∈ l,BA a
def QN (q:Nat) (nest:List zD):Prop:=nest.length ≤ 2000∧∀ x ∈ nest,QL q x.Lo∧QL q x.Hi
def QS (q:Nat) (s:zN):Prop:=QL q s.Write.Subs∧BA s.Value.Index∧BL s.Value.Read.Subs∧s.Value.Kids.length ≤ q∧∀ k ∈ s.Value.Kids,BE 6 k
theorem QL.up {q r:Nat}{l:List zA} (h:QL q l) (hq:q ≤ r):QL r l:=⟨Nat.le_trans h.1 hq,h.2⟩
theorem QL.bl {q:Nat}{l:List zA} (h:QL q l) (hq:q ≤ 1000):BL l:=⟨Nat.le_trans h.1 hq,h.2⟩
theorem QL.app {q k:Nat}{l m:List zA} (h:QL q l) (hm:QL k m):QL (q + k) (l ++ m):=by
  refine ⟨by rw [lA]; exact Nat.add_le_add h.1 hm.1,fun a ha=>?_⟩;rcases List.mem_append.1 ha with ha | ha
  · exact h.2 a ha
  · exact hm.2 a ha
theorem QL.nil {q:Nat}:QL q []:=⟨Nat.zero_le _,fun _ h=>by cases h⟩
theorem QL.one {a:zA} (h:BA a):QL 1 [a]:=⟨Nat.le_refl _,fun _ h'=>List.mem_singleton.1 h' ▸ h⟩
theorem QL.two {a b:zA} (h:BA a) (h2:BA b):QL 2 [a,b]:=QL.app (QL.one h) (QL.one h2)
theorem QN.up {q r:Nat}{l:List zD} (h:QN q l) (hq:q ≤ r):QN r l:=⟨h.1,fun x hx=>⟨(h.2 x hx).1.up hq,(h.2 x hx).2.up hq⟩⟩
theorem QN.bn {q:Nat}{l:List zD} (h:QN q l) (hq:q ≤ 1000):BN l:=⟨by have:=h.1; omega,fun x hx=>⟨(h.2 x hx).1.bl hq,(h.2 x hx).2.bl hq⟩⟩
theorem QN.set {q:Nat}{l:List zD} (h:QN q l) {x:zD} (hx:QL q x.Lo∧QL q x.Hi) (k:Nat):QN q (l.set k x):=⟨by rw [List.length_set]; exact h.1,zE1 h.2 hx k⟩
theorem QS.up {q r:Nat}{s:zN} (h:QS q s) (hq:q ≤ r):QS r s:=⟨h.1.up hq,h.2.1,h.2.2.1,Nat.le_trans h.2.2.2.1 hq,h.2.2.2.2⟩
theorem QS.bs {q:Nat}{s:zN} (h:QS q s) (hq:q ≤ 1000):BS s:=⟨h.1.bl hq,7,h.2.1,h.2.2.1,by have:=h.2.2.2.1; omega,h.2.2.2.2⟩
theorem zHb {a:zA} (h:a.Coefs.length=4):BA a:=by unfold BA; omega
theorem zJh (q:Nat):∀ (j:Nat) (out:List zD),5 ≤ out.length + j→1 ≤ out.length→QN q out→Ok (qB out) (QN q)
  | 0,out,hj,h1,h=>by
    rw [qB]
    refine Ok.ite_dec (fun hc=>absurd hc (by omega)) fun _=>Ok.pure h
  | j + 1,out,hj,h1,h=>by
    rw [qB]
    refine Ok.ite_dec (fun hc=>?_) fun _=>Ok.pure h
    refine Ok.idx (by omega) (by omega) fun x hx _=>Ok.app (by simp; omega) ?_
    refine zJh q j _ (by rw [lA]; simp; omega) (by rw [lA]; omega) ⟨by rw [lA]; simp; omega,fun y hy=>?_⟩
    rcases List.mem_append.1 hy with hy | hy
    · exact h.2 y hy
    · rw [List.mem_singleton.1 hy]; exact h.2 x hx
theorem mut2 (q:Nat) (hq:q ≤ 300) (r:zL) (nest:List zD) (h:QN q nest) (h0:0 ≤ r.p) (h1:r.p ≤ 900000000):Ok (oY r nest) (fun y=>QN (q + 2) y.1∧0 ≤ y.2.p∧y.2.p ≤ r.p + 2):=by
  have hup:=h.up (show q ≤ q + 2 by omega);unfold oY;rw [copyNest nest (h.bn (by omega))];refine Ok.bind_some (Ok.ite_beq (fun _=>Ok.pure ⟨hup,h0,by dsimp only; omega⟩) fun hne=>?_);have hpos:0 < nest.length:=by omega
  have hlen:=h.1;have hW:W ((nest.length:Int) - 1)=((nest.length - 1:Nat):Int):=by rw [rU (by omega) (by omega)]; omega
  refine Ok.call (fO r 40) ⟨h0,by omega⟩ fun y2 s g1 g2 g3=>?_;refine Ok.ite_beq (fun _=>?_) fun _=>Ok.ite_beq (fun _=>?_) fun _=>Ok.ite_beq (fun _=>?_) fun _=>Ok.ite_beq (fun _=>?_) fun _=>Ok.ite_beq (fun _=>?_) fun _=>?_
  · refine Ok.idx (by omega) (by omega) fun x hx _=>Ok.call (fO s 2) ⟨by omega,by omega⟩ fun y5 s2 k1 k2 k3=>Ok.call (zCa y5) ⟨k1,by omega⟩ fun a c1 c2=>?_;have hxx:=h.2 x hx;refine Ok.app (by have:=hxx.1.1; simp; omega) (Ok.pure ⟨QN.set (x:=⟨x.Lo ++ [a],x.Hi⟩) hup ⟨(hxx.1.app (QL.one (zHb c1))).up (show q + 1 ≤ q + 2 by omega),hxx.2.up (show q ≤ q + 2 by omega)⟩ _,by dsimp only; omega,by dsimp only; omega⟩)
  · rw [hW];refine Ok.idx (by omega) (by omega) fun x hx _=>?_;have hxx:=h.2 x hx;exact Ok.pure ⟨QN.set (x:=⟨x.Lo,[]⟩) hup ⟨hxx.1.up (show q ≤ q + 2 by omega),QL.nil⟩ _,by dsimp only; omega,by dsimp only; omega⟩
  · rw [hW];refine Ok.idx (by omega) (by omega) fun x hx _=>Ok.call (mO 1) trivial (Ok.call (mO 2) trivial ?_);have hxx:=h.2 x hx;exact Ok.app (by have:=hxx.2.1; simp; omega) (Ok.pure ⟨QN.set (x:=⟨x.Lo,x.Hi ++ [⟨[0,0,0,0],1⟩,⟨[0,0,0,0],2⟩]⟩) hup ⟨hxx.1.up (show q ≤ q + 2 by omega),hxx.2.app (QL.two (zHb rfl) (zHb rfl))⟩ _,by dsimp only; omega,by dsimp only; omega⟩)
  · refine Ok.call (mO 99) trivial (Ok.idx (by omega) (by omega) fun x hx _=>?_);have hxx:=h.2 x hx;exact Ok.pure ⟨QN.set (x:=⟨x.Lo,[⟨[0,0,0,0],99⟩]⟩) hup ⟨hxx.1.up (show q ≤ q + 2 by omega),(QL.one (zHb rfl)).up (show 1 ≤ q + 2 by omega)⟩ _,by dsimp only; omega,by dsimp only; omega⟩
  · refine Ok.bind (zJh q 5 nest (by omega) hpos h) fun z hz=>Ok.pure ⟨hz.up (by omega),by dsimp only; omega,by dsimp only; omega⟩
  · exact Ok.pure ⟨hup,by dsimp only; omega,by dsimp only; omega⟩
theorem mut3 (q:Nat) (hq:q ≤ 300) (r:zL) (s:zN) (h:QS q s) (h0:0 ≤ r.p) (h1:r.p ≤ 900000000):Ok (sM r s) (fun y=>QS (q + 2) y.1∧0 ≤ y.2.p∧y.2.p ≤ r.p + 2):=by
  obtain ⟨w1,w2,w3,w4,w5⟩:=h.up (show q ≤ q + 2 by omega);obtain ⟨v1,_,_,v4,_⟩:=id h;have v11:=v1.1;unfold sM;rw [copyStmt s (h.bs (by omega))];refine Ok.bind_some (Ok.call (fO r 40) ⟨h0,by omega⟩ fun y2 y3 g1 g2 g3=>?_);have fin:∀ (o:Str×List zA×Int×Int×List zG×zL),(QL (q + 2) o.2.1∧(o.2.2.2.2.1.length ≤ q + 2∧∀ k ∈ o.2.2.2.2.1,BE 6 k)∧0 ≤ o.2.2.2.2.2.p∧o.2.2.2.2.2.p ≤ r.p + 2)→QS (q + 2) (zN.mk (zJ.mk o.1 o.2.1) (zG.mk o.2.2.1 o.2.2.2.1 s.Value.Index s.Value.Read o.2.2.2.2.1))∧0 ≤ o.2.2.2.2.2.p∧o.2.2.2.2.2.p ≤ r.p + 2 :=
    fun o ⟨a,b,c⟩=>⟨⟨a,w2,w3,b.1,b.2⟩,c⟩
  refine Ok.bind (φ:=fun o:Str×List zA×Int×Int×List zG×zL=>QL (q + 2) o.2.1∧(o.2.2.2.2.1.length ≤ q + 2∧∀ k ∈ o.2.2.2.2.1,BE 6 k)∧0 ≤ o.2.2.2.2.2.p∧o.2.2.2.2.2.p ≤ r.p + 2) ?_ fun o ho=>by
    obtain ⟨o1,o2,o3,o4,o5,o6⟩:=o;exact Ok.pure (fin _ ho)
  refine Ok.ite_beq (fun _=>?_) fun _=>?_
  · exact Ok.call (zAA y3 _) ⟨by decide,by omega,by omega⟩ fun z t _ k3=>Ok.pure ⟨w1,⟨w4,w5⟩,by dsimp only; omega,by dsimp only; omega⟩
  refine Ok.bind (φ:=fun o:List zA×Int×Int×List zG×zL=>QL (q + 2) o.1∧(o.2.2.2.1.length ≤ q + 2∧∀ k ∈ o.2.2.2.1,BE 6 k)∧0 ≤ o.2.2.2.2.p∧o.2.2.2.2.p ≤ r.p + 2) ?_ fun o ho=>by
    obtain ⟨o2,o3,o4,o5,o6⟩:=o;exact Ok.pure ho
  refine Ok.ite_beq (fun _=>?_) fun _=>?_
  · exact Ok.call (zCa 3) (by omega) fun a c1 c2=>Ok.call eW trivial (Ok.app (by simp; omega) (Ok.pure ⟨v1.app (QL.two (zHb c1) (zHb rfl)),⟨w4,w5⟩,by dsimp only; omega,by dsimp only; omega⟩))
  refine Ok.bind (φ:=fun o:Int×Int×List zG×zL=>(o.2.2.1.length ≤ q + 2∧∀ k ∈ o.2.2.1,BE 6 k)∧0 ≤ o.2.2.2.p∧o.2.2.2.p ≤ r.p + 2) ?_ fun o ho=>by
    obtain ⟨o3,o4,o5,o6⟩:=o;exact Ok.pure ⟨w1,ho⟩
  refine Ok.ite_beq (fun _=>?_) fun _=>?_
  · exact Ok.call (tD y3 _) ⟨by decide,by omega,by omega,by decide⟩ fun z t _ _ k3=>Ok.pure ⟨⟨w4,w5⟩,by dsimp only; omega,by dsimp only; omega⟩
  refine Ok.bind (φ:=fun o:Int×List zG×zL=>(o.2.1.length ≤ q + 2∧∀ k ∈ o.2.1,BE 6 k)∧0 ≤ o.2.2.p∧o.2.2.p ≤ r.p + 2) ?_ fun o ho=>by
    obtain ⟨o4,o5,o6⟩:=o;exact Ok.pure ho
  refine Ok.ite_beq (fun _=>?_) fun _=>?_
  · exact Ok.call (tD y3 _) ⟨by decide,by omega,by omega,by decide⟩ fun z t _ _ k3=>Ok.pure ⟨⟨w4,w5⟩,by dsimp only; omega,by dsimp only; omega⟩
  refine Ok.bind (φ:=fun o:List zG=>o.length ≤ q + 2∧∀ k ∈ o,BE 6 k) ?_ fun o ho=>Ok.pure ⟨ho,by dsimp only; omega,by dsimp only; omega⟩;refine Ok.ite_beq (fun _=>?_) fun _=>Ok.pure ⟨w4,w5⟩;refine Ok.app (by show (_ + 1) * 112 ≤ _; omega) (Ok.pure ⟨by show (_ ++ _:List zG).length ≤ _; rw [lA]; show _ + 1 ≤ _; omega,fun k hk=>?_⟩);rcases List.mem_append.1 hk with hk | hk
  · exact w5 k hk
  · rw [List.mem_singleton.1 hk];exact BE.up (n:=0) ⟨Nat.zero_le _,⟨Nat.zero_le _,fun _ h=>by cases h⟩,rfl⟩ (by omega)
end Go.LN
namespace Go.LN
def DX (x:zM):Prop:=QN 100 x.Nest∧x.Body.length ≤ 1000∧∀ s ∈ x.Body,QS 100 s
def DP (P:zE):Prop:=(P.Arrays.length ≤ 1000∧∀ a ∈ P.Arrays,a.Dims.length ≤ 1000)∧P.Parts.length ≤ 1000∧∀ x ∈ P.Parts,DX x
theorem DX.bp {x:zM} (h:DX x):BP x:=⟨h.1.bn (by omega),by have:=h.2.1; omega,fun s hs=>(h.2.2 s hs).bs (by omega)⟩
theorem DP.bg {P:zE} (h:DP P):BG P:=⟨⟨by have:=h.1.1; omega,h.1.2⟩,by have:=h.2.1; omega,fun x hx=>(h.2.2 x hx).bp⟩
def PB (l:List zM):Prop:=l.length ≤ 1000∧∀ x ∈ l,BP x
theorem PB.set {l:List zM} (h:PB l) {x:zM} (hx:BP x) (k:Nat):PB (l.set k x):=⟨by rw [List.length_set]; exact h.1,zE1 h.2 hx k⟩
def AR (l:List zF):Prop:=l.length ≤ 2000∧∀ a ∈ l,a.Dims.length ≤ 1000
def RD (s:zL):Prop:=0 ≤ s.p∧s.p ≤ 700001000
theorem mut4 (r:zL) (P:zE) (h:DP P) (h0:0 ≤ r.p) (h1:r.p ≤ 700000000):Ok (pH r P) (fun y=>(BG y.1∧AR y.1.Arrays)∧RD y.2):=by
  obtain ⟨⟨a1,a2⟩,p1,p2⟩:=id h;have hA:AR P.Arrays:=⟨by omega,a2⟩;have hP:PB P.Parts:=⟨p1,fun x hx=>(p2 x hx).bp⟩;have hW:0 < P.Parts.length→W ((P.Parts.length:Int) - 1)=((P.Parts.length - 1:Nat):Int):=fun hp=>by rw [rU (by omega) (by omega)]; omega
  unfold pH;rw [copyProg P h.bg];refine Ok.bind_some (Ok.call (fO r 60) ⟨h0,by omega⟩ fun y2 y3 g1 g2 g3=>?_);have hR:RD y3:=⟨by omega,by omega⟩;refine Ok.bind (φ:=fun o:List zF×List zM×zL=>AR o.1∧PB o.2.1∧RD o.2.2) ?_ fun o ho=>by
    obtain ⟨o1,o2,o3⟩:=o;exact Ok.pure ⟨⟨⟨⟨by have:=ho.1.1; dsimp only at this ⊢; omega,ho.1.2⟩,by have:=ho.2.1.1; dsimp only at this ⊢; omega,ho.2.1.2⟩,ho.1⟩,ho.2.2⟩
  refine Ok.ite_beq (fun _=>?_) fun _=>?_
  · refine Ok.call (zAA y3 _) ⟨by decide,by omega,by omega⟩ fun z t _ k3=>Ok.call (tD t _) ⟨by decide,by omega,by omega,by decide⟩ fun z2 t2 _ _ k4=>Ok.app (by show (_ + 1) * 40 ≤ _; omega) (Ok.pure ⟨⟨by show (_ ++ _:List zF).length ≤ _; rw [lA]; show _ + 1 ≤ _; omega,fun a ha=>?_⟩,hP,⟨by dsimp only; omega,by dsimp only; omega⟩⟩);rcases List.mem_append.1 ha with ha | ha
    · exact a2 a ha
    · rw [List.mem_singleton.1 ha]; show 1 ≤ 1000; omega
  refine Ok.bind (φ:=fun o:List zF×List zM×zL=>AR o.1∧PB o.2.1∧RD o.2.2) ?_ fun o ho=>by
    obtain ⟨o1,o2,o3⟩:=o;exact Ok.pure ho
  refine Ok.ite_beq (fun _=>?_) fun _=>?_
  · refine Ok.bind (φ:=fun o:List zF×zL=>AR o.1∧RD o.2) ?_ fun o ho=>by
      obtain ⟨o1,o3⟩:=o;exact Ok.pure ⟨ho.1,hP,ho.2⟩
    refine Ok.ite_dec (fun hc=>?_) fun _=>Ok.pure ⟨hA,hR⟩;refine Ok.call (tD y3 _) ⟨by decide,by omega,by omega,by decide⟩ fun z t _ _ k3=>Ok.idx (by omega) (by omega) fun x hx _=>Ok.bind_pure (Ok.pure ⟨⟨by show (List.set _ _ _).length ≤ _; rw [List.length_set]; exact hA.1,zE1 hA.2 (show ([z]:List Int).length ≤ 1000 by simp) _⟩,⟨by dsimp only; omega,by dsimp only; omega⟩⟩)
  refine Ok.bind (φ:=fun o:List zM×zL=>PB o.1∧RD o.2) ?_ fun o ho=>by
    obtain ⟨o1,o3⟩:=o;exact Ok.pure ⟨hA,ho⟩
  refine Ok.ite_beq (fun _=>?_) fun _=>?_
  · refine Ok.bind (φ:=fun o:List zM×zL=>PB o.1∧RD o.2) ?_ fun o ho=>by
      obtain ⟨o1,o3⟩:=o;exact Ok.pure ho
    refine Ok.ite_dec (fun hc=>?_) fun _=>Ok.pure ⟨hP,hR⟩;refine Ok.idx (by omega) (by omega) fun x hx _=>?_;refine Ok.bind (mut2 100 (by omega) y3 x.Nest (p2 x hx).1 (by omega) (by omega)) fun q1 k1=>?_;obtain ⟨n1,s1⟩:=q1;obtain ⟨c1,c2,c3⟩:=k1;refine Ok.bind (mut2 (100 + 2) (by omega) s1 n1 c1 c2 (by dsimp only at c3; omega)) fun q2 k2=>?_;obtain ⟨n2,s2⟩:=q2;obtain ⟨d1,d2,d3⟩:=k2;refine Ok.bind (mut2 (100 + 2 + 2) (by omega) s2 n2 d1 d2 (by dsimp only at c3 d3; omega)) fun q3 k3=>?_;obtain ⟨n,s⟩:=q3;have hn:=k3.1;refine Ok.idx (by omega) (by omega) fun x7 hx7 _=>Ok.bind_pure (Ok.pure ⟨hP.set (x:=⟨n,x7.Body⟩) ⟨hn.bn (by omega),(p2 x7 hx7).bp.2.1,(p2 x7 hx7).bp.2.2⟩ _,⟨k3.2.1,by have:=k3.2.2; dsimp only at this c3 d3 ⊢; omega⟩⟩)
  refine Ok.bind (φ:=fun o:List zM×zL=>PB o.1∧RD o.2) ?_ fun o ho=>by
    obtain ⟨o1,o3⟩:=o;exact Ok.pure ho
  refine Ok.ite_beq (fun _=>?_) fun _=>?_
  · refine Ok.bind (φ:=fun b=>b=true→0 < P.Parts.length∧∀ x,P.Parts[P.Parts.length - 1]?=some x→0 < x.Body.length) ?_ fun b hb=>?_
    · refine Ok.ite_dec (fun hc=>?_) fun _=>Ok.pure (fun h=>by cases h);have hp:0 < P.Parts.length:=by omega
      rw [hW hp];refine Ok.idx (by omega) (by omega) fun x hx he=>Ok.pure fun hd=>⟨hp,fun x' hx'=>?_⟩;rw [iN] at he;rw [he] at hx';cases hx'
      have:=of_decide_eq_true hd;omega
    · refine Ok.bind (φ:=fun o:List zM×zL=>PB o.1∧RD o.2) ?_ fun o ho=>by
        obtain ⟨o1,o3⟩:=o;exact Ok.pure ho
      refine Ok.ite (fun hc=>?_) fun _=>Ok.pure ⟨hP,hR⟩;obtain ⟨hp,hbody⟩:=hb hc;rw [hW hp];refine Ok.idx (by omega) (by omega) fun x hx he=>?_;rw [iN] at he;have hb0:=hbody x he;have hdx:=p2 x hx;refine Ok.idx (by omega) (by omega) fun x0 hx0 _=>?_;refine Ok.bind (mut3 100 (by omega) y3 x0 (hdx.2.2 x0 hx0) (by omega) (by omega)) fun q1 k1=>?_;obtain ⟨n1,s1⟩:=q1;obtain ⟨c1,c2,c3⟩:=k1;refine Ok.bind (mut3 (100 + 2) (by omega) s1 n1 c1 c2 (by dsimp only at c3; omega)) fun q2 k2=>?_;obtain ⟨n2,s2⟩:=q2;obtain ⟨d1,d2,d3⟩:=k2;refine Ok.bind (mut3 (100 + 2 + 2) (by omega) s2 n2 d1 d2 (by dsimp only at c3 d3; omega)) fun q3 k3=>?_;obtain ⟨n,s⟩:=q3;have hn:=k3.1;refine Ok.bind_pure (Ok.pure ⟨hP.set (x:=⟨x.Nest,x.Body.set 0 n⟩) ⟨hdx.bp.1,by rw [List.length_set]; exact hdx.bp.2.1,zE1 hdx.bp.2.2 (hn.bs (by omega)) _⟩ _,⟨k3.2.1,by have:=k3.2.2; dsimp only at this c3 d3 ⊢; omega⟩⟩)
  refine Ok.bind (φ:=fun o:List zM=>PB o) ?_ fun o ho=>Ok.pure ⟨ho,hR⟩;refine Ok.ite_beq (fun _=>?_) fun _=>Ok.pure hP;refine Ok.bind (φ:=fun o:List zM=>PB o) ?_ fun o ho=>Ok.pure ho;refine Ok.ite_dec (fun hc=>?_) fun _=>Ok.pure hP;have hp:0 < P.Parts.length:=by omega
  rw [hW hp];refine Ok.idx (by omega) (by omega) fun x hx he=>Ok.bind_pure (Ok.pure (hP.set (x:=⟨x.Nest,[]⟩) ⟨(p2 x hx).bp.1,by show 0 ≤ 100000; omega,fun _ h=>by cases h⟩ _))
theorem SE.be:∀ {n:Nat}{e:zG},SE n e→BE n e
  | 0,e,⟨h1,h2,h3⟩=>⟨by have:=h1.1; unfold BA; omega,⟨by have:=h2.2.1; omega,fun a ha=>by have:=(h2.2.2 a ha).1; unfold BA; omega⟩,h3⟩
  | n + 1,e,⟨h1,h2,h3,h4⟩=>⟨by have:=h1.1; unfold BA; omega,⟨by have:=h2.2.1; omega,fun a ha=>by have:=(h2.2.2 a ha).1; unfold BA; omega⟩,by omega,fun k hk=>SE.be (h4 k hk)⟩
theorem SS.qs {s:zN} (h:SS s):QS 100 s:=by
  obtain ⟨h1,h2⟩:=h;have hb:=SE.be h2;exact ⟨⟨h1.2.1,fun a ha=>by have:=(h1.2.2 a ha).1; unfold BA; omega⟩,hb.1,hb.2.1,by have:=h2.2.2.1; omega,fun k hk=>BE.up (n:=4) (m:=6) (hb.2.2.2 k hk) (by omega)⟩
theorem LL.ql {l:List zA} (h:LL l):QL 100 l:=⟨h.1,fun a ha=>by have:=(h.2 a ha).1; unfold BA; omega⟩
theorem SG.dp {P:zE} (h:SG 1000 P):DP P:=by
  obtain ⟨⟨h1,h2⟩,h3,h4⟩:=h;refine ⟨⟨h1,fun a ha=>by have:=(h2 a ha).2; omega⟩,h3,fun x hx=>?_⟩;obtain ⟨⟨k1,k2⟩,k3,k4⟩:=h4 x hx;exact ⟨⟨by omega,fun y hy=>⟨(k2 y hy).1.ql,(k2 y hy).2.ql⟩⟩,k3,fun s hs=>(k4 s hs).qs⟩
end Go.LN
namespace Go.LN
theorem zKw {A:List zF}{x:zM} (h:partB A x=true):(nestPts x.Nest).1=pts x.Nest []∧nestB x.Nest=true∧(pts x.Nest []).length ≤ 120:=by
  simp only [partB,bA] at h;have h1:=h.1.1;unfold nestPts at h1 ⊢;split at h1
  · rename_i hc;rw [if_pos hc];exact ⟨rfl,hc.1,hc.2.2⟩
  · cases h1
theorem zIq (P:zE) (i:Nat) (hi:i < P.Parts.length) (y:List (List Int)) (k:Nat) (hk:k < y.length) (hq:y[k].length ≤ 4) (hb:P.Parts[i].Body.length ≤ 4) :
    ∀ (j s:Nat) (o:List zO),s + j=P.Parts[i].Body.length→o.length + j ≤ 1000000→wM P (i:Int) y (k:Int) o (s:Int)=some (o ++ instR (i:Int) y[k] s j):=by
  intro j
  induction j with
  | zero =>
    intro s o hs ho
    rw [wM]
    have:¬((s:Int) < (P.Parts[i].Body.length:Int)):=by omega
    simp only [yZ hi,this,dF,bF,if_false,oB,oS,oP]
    simp [instR]
  | succ j ih =>
    intro s o hs ho
    rw [wM]
    have hc:((s:Int) < (P.Parts[i].Body.length:Int)):=by omega
    have hpn:app 8 ([]:List Int) y[k]=some y[k]:=zAB _ (by omega)
    have happ:app 40 o [(⟨(i:Int),(s:Int),y[k]⟩:zO)]=some (o ++ [⟨(i:Int),(s:Int),y[k]⟩]):=oT (by simp; omega)
    simp only [yZ hi,hc,dT,if_true,yZ hk,oB,oS,hpn,happ]
    rw [tE (by omega),ih (s + 1) _ (by omega) (by simp; omega),List.append_assoc]
    simp only [instR,List.range'_succ,List.map_cons,List.singleton_append]
theorem zIr (P:zE) (i:Nat) (hi:i < P.Parts.length) (y:List (List Int)) (hy:y.length ≤ 120) (hq:∀ q ∈ y,q.length ≤ 4) (hb:P.Parts[i].Body.length ≤ 4) :
    ∀ (j k:Nat) (o:List zO),k + j=y.length→o.length + 4 * j ≤ 1000000→wN P (i:Int) y o (k:Int)=some (o ++ (y.drop k).flatMap fun q=>instR (i:Int) q 0 P.Parts[i].Body.length):=by
  intro j
  induction j with
  | zero =>
    intro k o hk ho
    rw [wN]
    have:¬((k:Int) < (y.length:Int)):=by omega
    simp only [this,dF,bF,if_false]
    rw [show y.drop k=[] from dN.2 (by omega)]
    simp
  | succ j ih =>
    intro k o hk ho
    rw [wN]
    have hlt:k < y.length:=by omega
    have hc:((k:Int) < (y.length:Int)):=by omega
    have h3:=zIq P i hi y k hlt (hq _ (gM hlt)) hb P.Parts[i].Body.length 0 o (Nat.zero_add _) (by omega)
    rw [nZ] at h3
    simp only [hc,dT,if_true,oB,oS,h3]
    rw [tE (by omega),ih (k + 1) _ (by omega) (by rw [lA,zFO]; omega),gC hlt,List.flatMap_cons,List.append_assoc]
theorem zIs (P:zE) (hP:P.Parts.length ≤ 4) (hb:∀ i,i < P.Parts.length→partB P.Arrays (gP P i)=true) :
    ∀ (j i:Nat) (o:List zO),i + j=P.Parts.length→o.length ≤ 480 * i→wO P o (i:Int)=some (o ++ (List.range' i j).flatMap fun (i:Nat)=>partI (i:Int) (gP P i)):=by
  intro j
  induction j with
  | zero =>
    intro i o hi ho
    rw [wO]
    have:¬((i:Int) < (P.Parts.length:Int)):=by omega
    simp [this]
  | succ j ih =>
    intro i o hi ho
    rw [wO]
    have hlt:i < P.Parts.length:=by omega
    have hc:((i:Int) < (P.Parts.length:Int)):=by omega
    have hg:gP P i=P.Parts[i]:=by simp [gP,hlt]
    have hp:=hb i hlt
    rw [hg] at hp
    obtain ⟨p1,p2,p3⟩:=zKw hp
    obtain ⟨n1,n2⟩:=zFx p2
    have hpp:=hp
    simp only [partB,bA] at hpp
    obtain ⟨_,q2,_⟩:=zB9 hpp.1.2
    have hpts:=specPts P.Parts[i].Nest P.Parts[i].Nest [] [] n2 rfl (by simp) n1 (by simp)
    rw [List.nil_append,List.take_of_length_le (by omega)] at hpts
    have h2:=zIr P i hlt (pts P.Parts[i].Nest []) p3 (fun q hq=>by have:=zID _ _ q hq; simp at this; omega) q2 _ 0 o (Nat.zero_add _) (by omega)
    rw [nZ,List.drop_zero] at h2
    simp only [hc,dT,if_true,yZ hlt,oB,oS,hpts,h2]
    have hI:((pts P.Parts[i].Nest []).flatMap fun q=>instR (i:Int) q 0 P.Parts[i].Body.length)=partI (i:Int) P.Parts[i]:=by rw [partI,p1]
    have hle:=zGr (i:Int) hp
    rw [hI,tE (by omega),ih (i + 1) _ (by omega) (by rw [lA]; omega),List.range'_succ,List.flatMap_cons,hg,List.append_assoc]
theorem fT {P:zE} (h:validP P=true):arrB P.Arrays=true∧P.Parts.length ≤ 4∧(∀ i,i < P.Parts.length→partB P.Arrays (gP P i)=true)∧(progI P).length ≤ 120:=by
  simp only [validP,progB,bA,decide_eq_true_eq] at h;obtain ⟨⟨⟨h1,h2⟩,h3⟩,h4⟩:=h;exact ⟨h1,h2,fun i hi=>List.all_eq_true.1 h3 i (List.mem_range'_1.2 ⟨Nat.zero_le _,by omega⟩),h4⟩
end Go.LN
namespace Go.LN
def DA (x:zF):Prop:=(∃ d,x.Dims=[d]∧1 ≤ d∧d ≤ 6)∨∃ d e,x.Dims=[d,e]∧(1 ≤ d∧d ≤ 6)∧1 ≤ e∧e ≤ 6
theorem mul36 {d e:Int} (h1:1 ≤ d) (h2:d ≤ 6) (h3:1 ≤ e) (h4:e ≤ 6):1 ≤ d * e∧d * e ≤ 36:=by
  have:d=1∨d=2∨d=3∨d=4∨d=5∨d=6:=by omega
  rcases this with rfl | rfl | rfl | rfl | rfl | rfl <;> omega
theorem zMU {x:zF}{d:Int} (h:x.Dims=[d]) (h1:1 ≤ d) (h2:d ≤ 6):sizeF x=d:=by
  unfold sizeF;rw [h,szL,szL,Int.one_mul,rU (by omega) (by omega)]
theorem zMV {x:zF}{d e:Int} (h:x.Dims=[d,e]) (h1:1 ≤ d) (h2:d ≤ 6) (h3:1 ≤ e) (h4:e ≤ 6):sizeF x=d * e:=by
  unfold sizeF;have:=mul36 h1 h2 h3 h4;rw [h,szL,szL,szL,Int.one_mul,rU (x:=d) (by omega) (by omega),rU (by omega) (by omega)]
theorem DA.size {x:zF} (h:DA x):1 ≤ sizeF x∧sizeF x ≤ 36:=by
  rcases h with ⟨d,h,h1,h2⟩ | ⟨d,e,h,⟨h1,h2⟩,h3,h4⟩
  · rw [zMU h h1 h2]; omega
  · rw [zMV h h1 h2 h3 h4]; exact mul36 h1 h2 h3 h4
def nm (l:List zF) (i:Nat):Nat:=match (l.getD i ⟨⟨[]⟩,[]⟩).Name.l with | c::_=>c.toNat | []=>0
end Go.LN
namespace Go.LN
end Go.LN
namespace Go.LN
theorem specInsts (P:zE) (hv:validP P=true):sL P=some (progI P):=by
  obtain ⟨_,v2,v3,_⟩:=fT hv;have hl:=zIs P v2 v3 _ 0 [] (Nat.zero_add _) (by simp);rw [nZ,List.nil_append] at hl;simp only [oB,oS,sL,hl,oP,id];rfl
end Go.LN
namespace Go.LN
def c0 (n:Int):zA:=⟨[0,0,0,0],n⟩
end Go.LN
namespace Go.LN
theorem zIt {P:zE} (h:BG P) (hv:validP P=true):RV P.Arrays:=by
  simp only [validP,progB,bA] at hv;exact RV.of h.1 hv.1.1.1
theorem zMW {p:List Int} (h:ptB p=true):p.length ≤ 4:=by
  simp only [ptB,bA,decide_eq_true_eq] at h;exact h.1
end Go.LN
namespace Go.LN
end Go.LN
namespace Go.LN
theorem zIu:∀ {k:Nat}{a v:Int},v ∈ rngK k a ↔ a ≤ v∧v < a + (k:Int)
  | 0,a,v=>by simp [rngK]
  | k + 1,a,v=>by rw [rngK,List.mem_cons,zIu]; omega
theorem zLf {a b v:Int}:v ∈ rng a b ↔ a ≤ v∧v < b:=by
  unfold rng;rw [zIu]; omega
def inP:List zD→List Int→List Int→Prop
  | [],_,[]=>True
  | l::ls,p,v::r=>(loF l p ≤ v∧v < hiF l p)∧inP ls (p ++ [v]) r
  | _,_,_=>False
theorem zJi:∀ {ls:List zD}{p q:List Int},q ∈ pts ls p→∃ r,q=p ++ r∧inP ls p r
  | [],p,q,h=>by
    rw [pts,List.mem_singleton] at h
    exact ⟨[],by rw [h,List.append_nil],trivial⟩
  | l::ls,p,q,h=>by
    rw [pts,List.mem_flatMap] at h
    obtain ⟨v,hv,hq⟩:=h
    obtain ⟨r,e,hr⟩:=zJi hq
    exact ⟨v::r,by rw [e,List.append_assoc]; rfl,zLf.1 hv,hr⟩
def Ch {α:Type} (R:α→α→Prop):List α→Prop
  | a::b::l=>R a b∧Ch R (b::l)
  | _=>True
theorem Ch.append {α:Type}{R:α→α→Prop}:∀ {l m:List α},Ch R l→Ch R m→(∀ a ∈ l,∀ b ∈ m,R a b)→Ch R (l ++ m)
  | [],m,_,h2,_=>h2
  | [a],[],_,_,_=>trivial
  | [a],b::m,_,h2,h=>⟨h a (List.mem_cons_self ..) b (List.mem_cons_self ..),h2⟩
  | a::b::l,m,h1,h2,h=>⟨h1.1,Ch.append (l:=b::l) h1.2 h2 fun x hx=>h x (List.mem_cons_of_mem _ hx)⟩
theorem Ch.flat {α β:Type}{R:β→β→Prop}{f:α→List β}:∀ {l:List α},(∀ x ∈ l,Ch R (f x))→(l.Pairwise fun x y=>∀ a ∈ f x,∀ b ∈ f y,R a b)→Ch R (l.flatMap f)
  | [],_,_=>trivial
  | x::l,h1,h2=>by
    rw [List.flatMap_cons]
    have h2':=List.pairwise_cons.1 h2
    refine Ch.append (h1 x (List.mem_cons_self ..)) (Ch.flat (fun y hy=>h1 y (List.mem_cons_of_mem _ hy)) h2'.2) fun a ha b hb=>?_
    obtain ⟨y,hy,hb⟩:=List.mem_flatMap.1 hb
    exact h2'.1 y hy a ha b hb
theorem Ch.get {α:Type}{R:α→α→Prop}:∀ {l:List α} (i:Nat) (h:i + 1 < l.length),Ch R l→R l[i] l[i + 1]
  | a::b::l,0,_,hc=>hc.1
  | a::b::l,i + 1,h,hc=>Ch.get (l:=b::l) i (by simpa using h) hc.2
  | [a],i,h,_=>by simp at h
  | [],i,h,_=>by simp at h
theorem zKF {k:Int}{q:List Int}{i j:Nat}{z:zO} (h:z ∈ instR k q i j):z.Part=k∧z.Point=q∧∃ s:Nat,z.Stmt=(s:Int)∧s < i + j:=by
  unfold instR at h;obtain ⟨s,hs,rfl⟩:=List.mem_map.1 h;exact ⟨rfl,rfl,s,rfl,(List.mem_range'_1.1 hs).2⟩
end Go.LN
namespace Go.LN
theorem zJ0 {P:zE} (h:validP P=true) {i:Nat} (hi:i < P.Parts.length):partB P.Arrays P.Parts[i]=true:=by
  simp only [validP,progB,bA,decide_eq_true_eq] at h;have:=List.all_eq_true.1 h.1.2 i (List.mem_range'_1.2 ⟨Nat.zero_le _,by omega⟩);have hg:gP P i=P.Parts[i]:=by simp [gP,hi]
  rwa [hg] at this
theorem zLg {nest:List zD}{q:List Int} (h:q ∈ (nestPts nest).1):nestB nest=true∧inP nest [] q:=by
  unfold nestPts at h;split at h
  · rename_i hc;obtain ⟨r,e,hr⟩:=zJi h;rw [List.nil_append] at e;exact ⟨hc.1,e ▸ hr⟩
  · cases h
theorem zKG {P:zE} (h:validP P=true) {z:zO} (hz:z ∈ progI P):∃ (i s:Nat) (hi:i < P.Parts.length) (hs:s < P.Parts[i].Body.length),z.Part=(i:Int)∧z.Stmt=(s:Int)∧nestB P.Parts[i].Nest=true∧inP P.Parts[i].Nest [] z.Point∧ptB z.Point=true∧stOk P.Arrays P.Parts[i].Body[s] z.Point=true∧stmtB P.Parts[i].Body[s] (P.Parts[i].Nest.length:Int)=true:=by
  unfold progI at hz;obtain ⟨i,hi,hz⟩:=List.mem_flatMap.1 hz;have hi:i < P.Parts.length:=by have:=(List.mem_range'_1.1 hi).2; omega
  have hg:gP P i=P.Parts[i]:=by simp [gP,hi]
  rw [hg] at hz;have hp:=zJ0 h hi;unfold partI at hz;obtain ⟨q,hq,hz⟩:=List.mem_flatMap.1 hz;obtain ⟨z1,z2,s,z3,hs⟩:=zKF hz;have hs:s < P.Parts[i].Body.length:=by omega
  obtain ⟨n1,n2⟩:=zLg hq;simp only [partB,bA] at hp;have hq2:=List.all_eq_true.1 hp.2 q hq;rw [bA] at hq2;refine ⟨i,s,hi,hs,z1,z3,n1,?_,?_,?_,?_⟩
  · rw [z2]; exact n2
  · rw [z2]; exact hq2.1
  · rw [z2]; exact List.all_eq_true.1 hq2.2 _ (gM hs)
  · exact (zB9 hp.1.2).2.2 _ (gM hs)
end Go.LN
namespace Go.LN
end Go.LN
namespace Go.LN
theorem zJ1 (P:zE) (x:zO) (ys:List zJ) (hy:ys.length ≤ 1048576) (ha:∀ a ∈ ys,AV a) (hp:x.Point.length ≤ 4) (hR:RV P.Arrays):∀ (j i:Nat) (o:List Int),i + j=ys.length→o.length=i→vR P x ys o (i:Int)=some (o ++ (ys.drop i).map (cellA P.Arrays x.Point)):=by
  intro j
  induction j with
  | zero =>
    intro i o hi ho;rw [vR];have:¬((i:Int) < (ys.length:Int)):=by omega
    simp only [this,dF,bF,if_false,oP,id];rw [dN.2 (by omega),List.map_nil,List.append_nil]
  | succ j ih =>
    intro i o hi ho;rw [vR];have hlt:i < ys.length:=by omega
    have hc:((i:Int) < (ys.length:Int)):=by omega
    simp only [hc,dT,if_true,yZ hlt,implCell P ys[i] x.Point (ha _ (gM hlt)) hp hR,oB,oS,oT (show (o.length + [cellF ys[i] x.Point P.Arrays 0].length) * 8 ≤ 140737488355328 by simp; omega)];rw [tE (by omega),ih (i + 1) _ (by omega) (by rw [lA]; simp; omega),gC hlt,List.map_cons,List.append_assoc];rfl
end Go.LN
namespace Go.LN
def STz:zN:=zN.mk (zJ.mk ⟨[]⟩ []) EXz
def stI (P:zE) (z:zO):zN:=(gP P z.Part.toNat).Body.getD z.Stmt.toNat STz
def rdI (P:zE) (z:zO):List Int:=(readsF 5 (stI P z).Value).map (cellA P.Arrays z.Point)
def wrI (P:zE) (z:zO):Int:=cellA P.Arrays z.Point (stI P z).Write
structure InP (P:zE) (z:zO):Prop where
  idxP:idx P.Parts z.Part=some (gP P z.Part.toNat)
  idxS:idx (gP P z.Part.toNat).Body z.Stmt=some (stI P z)
  part:0 ≤ z.Part∧z.Part < (P.Parts.length:Int)
  stmt:0 ≤ z.Stmt∧z.Stmt < ((gP P z.Part.toNat).Body.length:Int)
  pin:BN (gP P z.Part.toNat).Nest∧nestB (gP P z.Part.toNat).Nest=true∧ptB z.Point=true∧inP (gP P z.Part.toNat).Nest [] z.Point
  pt:z.Point.length ≤ 4
  bs:BS (stI P z)
  st:∃ d,stmtB (stI P z) d=true
  ok:stOk P.Arrays (stI P z) z.Point=true
theorem zIE {P:zE} (hb:BG P) (h:validP P=true) {z:zO} (hz:z ∈ progI P):InP P z:=by
  obtain ⟨i,s,hi,hs,z1,z2,hn,hin,hpt,hst,hsb⟩:=zKG h hz;have hbp:=hb.2.2 _ (gM hi);have hg:gP P z.Part.toNat=P.Parts[i]:=by rw [z1,iN]; simp [gP,hi]
  have hS:stI P z=P.Parts[i].Body[s]:=by unfold stI; rw [hg,z2,iN]; simp [hs]
  refine ⟨?_,?_,by rw [z1]; omega,by rw [hg,z2]; omega,?_,zMW hpt,?_,?_,?_⟩
  · rw [hg,z1,yZ hi]
  · rw [hS,hg,z2,yZ hs]
  · rw [hg]; exact ⟨hbp.1,hn,hpt,hin⟩
  · rw [hS]; exact hbp.2.2 _ (gM hs)
  · rw [hS]; exact ⟨_,hsb⟩
  · rw [hS]; exact hst
theorem zFy {P:zE}{z:zO} (h:InP P z):(rdI P z).length ≤ 32:=by
  obtain ⟨d,hd⟩:=h.st;have:=jJ 5 (stI P z).Value (zB8 hd).2.1;unfold rdI;rw [lM]; omega
theorem touchedV {P:zE} (hb:BG P) (hv:validP P=true) {z:zO} (h:InP P z):pA P z=some (rdI P z,wrI P z):=by
  obtain ⟨d,hd⟩:=h.st;obtain ⟨s1,s2,s3⟩:=zB8 hd;have hR:=zIt hb hv;have hrd:=implReads 5 (stI P z).Value s2 (by omega);have hrl:=jJ 5 (stI P z).Value s2;have htl:=zJ1 P z (readsF 5 (stI P z).Value) (by omega) s3 h.pt hR _ 0 [] (Nat.zero_add _) rfl;rw [nZ,List.drop_zero,List.nil_append] at htl;have hw:=implCell P (stI P z).Write z.Point s1 h.pt hR;unfold pA pC;simp only [h.idxP,h.idxS,hrd,htl,hw,oB,oS,oP,id];rfl
def trcP (P:zE):tT:=⟨P,progI P,(progI P).map (rdI P),(progI P).map (wrI P)⟩
theorem zKx {P:zE} (hb:BG P) (hv:validP P=true):∀ (j i:Nat) (rs:List (List Int)) (ws:List Int),i + j=(progI P).length→rs.length=i→ws.length=i→nA P (progI P) (i:Int) rs ws=some (rs ++ ((progI P).drop i).map (rdI P),ws ++ ((progI P).drop i).map (wrI P)):=by
  have hlen:=(fT hv).2.2.2;intro j
  induction j with
  | zero =>
    intro i rs ws hi hr hw;rw [nA];have:¬((i:Int) < ((progI P).length:Int)):=by omega
    simp only [this,dF,bF,if_false,oP];rw [dN.2 (by omega),List.map_nil,List.map_nil,List.append_nil,List.append_nil]
  | succ j ih =>
    intro i rs ws hi hr hw;rw [nA];have hlt:i < (progI P).length:=by omega
    have hc:((i:Int) < ((progI P).length:Int)):=by omega
    have hz:=zIE hb hv (gM hlt);simp only [hc,dT,if_true,yZ hlt,touchedV hb hv hz,oB,oS,oT (show (rs.length + [rdI P (progI P)[i]].length) * 24 ≤ 140737488355328 by simp; omega),oT (show (ws.length + [wrI P (progI P)[i]].length) * 8 ≤ 140737488355328 by simp; omega)];rw [tE (by omega),ih (i + 1) _ _ (by omega) (by rw [lA]; simp; omega) (by rw [lA]; simp; omega),gC hlt,List.map_cons,List.map_cons,List.append_assoc,List.append_assoc];rfl
theorem implTrace (P:zE) (hb:BG P):gU P=some (if validP P then (some (trcP P),true) else (none,false)):=by
  unfold gU;rw [implInstances P hb];cases hv:validP P with
  | false =>
    unfold validP at hv;cases hp:progB P with
    | false=>rfl
    | true =>
      rw [hp,Bool.true_and] at hv;simp [hv]
  | true =>
    have hv':=hv;unfold validP at hv';rw [bA] at hv';have hl:=zKx hb hv _ 0 [] [] (Nat.zero_add _) rfl rfl;rw [nZ,List.drop_zero,List.nil_append,List.nil_append] at hl;simp only [hv'.1,hv'.2,if_true,oB,oS,bT,bF,if_false,hl,oP];rfl
def useI (P:zE) (z:zO):xK:=⟨rdI P z,wrI P z⟩
theorem zLh {P:zE} (hb:BG P) (hv:validP P=true):∀ (j i:Nat) (o:List xK),i + j=(progI P).length→o.length=i→tS P (progI P) o (i:Int)=some (o ++ ((progI P).drop i).map (useI P)):=by
  have hlen:=(fT hv).2.2.2;have hR:=zIt hb hv;intro j
  induction j with
  | zero =>
    intro i o hi ho;rw [tS];have:¬((i:Int) < ((progI P).length:Int)):=by omega
    simp only [this,dF,bF,if_false,oP,id];rw [dN.2 (by omega),List.map_nil,List.append_nil]
  | succ j ih =>
    intro i o hi ho;rw [tS];have hlt:i < (progI P).length:=by omega
    have hc:((i:Int) < ((progI P).length:Int)):=by omega
    have hz:=zIE hb hv (gM hlt);obtain ⟨d,hd⟩:=hz.st;have hcl:=specCells P.Arrays (stI P (progI P)[i]) (progI P)[i].Point hd hz.bs hz.pt hR;rw [if_pos hz.ok] at hcl;simp only [hc,dT,if_true,yZ hlt,hz.idxP,hz.idxS,hcl,oB,oS,oT (show (o.length + [xK.mk ((readsF 5 (stI P (progI P)[i]).Value).map (cellA P.Arrays (progI P)[i].Point)) (cellA P.Arrays (progI P)[i].Point (stI P (progI P)[i]).Write)].length) * 32 ≤ 140737488355328 by simp; omega)];rw [tE (by omega),ih (i + 1) _ (by omega) (by rw [lA]; simp; omega),gC hlt,List.map_cons,List.append_assoc];rfl
theorem specUses (P:zE) (hb:BG P) (hv:validP P=true):kC P=some ((progI P).map (useI P)):=by
  unfold kC;have hl:=zLh hb hv _ 0 [] (Nat.zero_add _) rfl;rw [nZ,List.drop_zero,List.nil_append] at hl;simp only [specInsts P hv,hl,oB,oS,oP,id]
end Go.LN
namespace Go.LN
def hasB (l:List Int) (n:Int):Bool:=l.any (fun x=>x == n)
theorem zKH (x:Int) (l:List Int) (n:Int):hasB (x::l) n=(x == n || hasB l n):=by unfold hasB; rw [List.any_cons]
def kindF (r1:List Int) (w1:Int) (r2:List Int) (w2:Int):Int:=(if hasB r2 w1 then 1 else 0) + (if hasB r1 w2 then 2 else 0) + (if w1 == w2 then 4 else 0)
theorem zKI (r1:List Int) (w1:Int) (r2:List Int) (w2:Int):0 ≤ kindF r1 w1 r2 w2∧kindF r1 w1 r2 w2 ≤ 7:=by
  unfold kindF;cases hasB r2 w1 <;> cases hasB r1 w2 <;> cases (w1 == w2) <;> simp
theorem zKy {R:Type}{r0:R}{n:Nat}{f:Int→Option (Out Unit R)}{P:Nat→Bool} (step:∀ i,i < n→f (i:Int)=if P i then some (.ret r0) else f ((i + 1:Nat):Int)) (fin:f (n:Int)=some (.done ())):f 0=some (if (List.range n).any P then .ret r0 else .done ()):=by
  have key:∀ (j i:Nat),i + j=n→f (i:Int)=some (if (List.range' i j).any P then .ret r0 else .done ()):=by
    intro j
    induction j with
    | zero=>intro i hi; rw [show i=n by omega,fin]; simp
    | succ j ih =>
      intro i hi;rw [step i (by omega),ih (i + 1) (by omega),List.range'_succ,List.any_cons];cases P i <;> rfl
  have:=key n 0 (Nat.zero_add _);rw [nZ] at this;rw [this,List.range_eq_range']
theorem zKJ {α:Type} (l:List α) (P:α→Bool) (d:α):(List.range l.length).any (fun i=>P (l.getD i d))=l.any P:=by
  rw [Bool.eq_iff_iff,List.any_eq_true,List.any_eq_true];constructor
  · rintro ⟨i,hi,h⟩;have hi:=List.mem_range.1 hi;have hg:l.getD i d=l[i]:=by simp [hi]
    rw [hg] at h;exact ⟨_,gM hi,h⟩
  · rintro ⟨x,hx,h⟩;obtain ⟨i,hi,rfl⟩:=List.mem_iff_getElem.1 hx;exact ⟨i,List.mem_range.2 hi,by simpa [hi] using h⟩
end Go.LN
namespace Go.LN
theorem specHas (l:List Int) (n:Int) (hl:l.length ≤ 1048576):gX l n=some (hasB l n):=by
  unfold gX;have h:=zKy (R:=Bool) (r0:=true) (n:=l.length) (f:=nB l n) (P:=fun i=>l.getD i 0 == n) (fun i hi=>by
      rw [nB];have h1:((i:Int) < (l.length:Int)):=by omega
      have hg:l.getD i 0=l[i]:=by simp [hi]
      simp only [h1,dT,if_true,yZ hi,oB,oS,oP,hg];rw [tE (by omega)]) (by rw [nB]; simp)
  rw [zKJ l (fun x=>x == n) 0] at h;rw [h];unfold hasB;cases l.any fun x=>x == n <;> rfl
theorem zLi (l:List Int) (v:Int) (hl:l.length ≤ 1048576):∀ (j i:Nat),i + j=l.length→∃ x,vU l v (i:Int)=some x∧((hasB (l.drop i) v=true∧∃ k:Nat,x=.ret (k:Int))∨(hasB (l.drop i) v=false∧x=.done ())):=by
  intro j
  induction j with
  | zero =>
    intro i hi;rw [vU];have:¬((i:Int) < (l.length:Int)):=by omega
    refine ⟨_,by simp only [this,dF,bF,if_false,oP],.inr ⟨?_,rfl⟩⟩;rw [dN.2 (by omega)]; rfl
  | succ j ih =>
    intro i hi;rw [vU];have hlt:i < l.length:=by omega
    have hc:((i:Int) < (l.length:Int)):=by omega
    rw [gC hlt,zKH];by_cases e:v=l[i]
    · refine ⟨_,by simp only [hc,dT,if_true,yZ hlt,oB,oS,oP,e,bQ],.inl ⟨?_,i,rfl⟩⟩;rw [e,bQ,Bool.true_or]
    · have e1:(v == l[i])=false:=by simpa using e
      have e2:(l[i] == v)=false:=by simpa using fun h=>e h.symm
      obtain ⟨x,hx,hr⟩:=ih (i + 1) (by omega);refine ⟨x,?_,by rw [e2,Bool.false_or]; exact hr⟩;simp only [hc,dT,if_true,yZ hlt,oB,oS,oP,e1,bF,if_false];rw [tE (by omega),hx]
theorem containsV (l:List Int) (v:Int) (hl:l.length ≤ 1048576):tF l v=some (hasB l v):=by
  unfold tF nJ;obtain ⟨x,hx,hr⟩:=zLi l v hl l.length 0 (Nat.zero_add _);rw [nZ] at hx;rw [List.drop_zero] at hr;rw [hx];rcases hr with ⟨h,k,rfl⟩ | ⟨h,rfl⟩
  · have:((k:Int) ≥ 0):=by omega
    simp [h,this]
  · rw [h]; rfl
def zIns (P:zE) (a:Nat):zO:=(progI P).getD a ⟨0,0,[]⟩
theorem zIF {P:zE}{a:Nat} (h:a < (progI P).length):zIns P a=(progI P)[a]:=by simp [zIns,h]
theorem zJj {P:zE}{a:Nat} (h:a < (progI P).length):zIns P a ∈ progI P:=by rw [zIF h]; exact gM h
theorem zIv {P:zE}{a:Nat} (h:a < (progI P).length):idx ((progI P).map (rdI P)) (a:Int)=some (rdI P (zIns P a)):=by rw [yZ (by rw [lM]; exact h),zIF h]; simp
theorem zHc {P:zE}{a:Nat} (h:a < (progI P).length):idx ((progI P).map (wrI P)) (a:Int)=some (wrI P (zIns P a)):=by rw [yZ (by rw [lM]; exact h),zIF h]; simp
theorem zJk {P:zE}{a:Nat} (h:a < (progI P).length):idx ((progI P).map (useI P)) (a:Int)=some (useI P (zIns P a)):=by rw [yZ (by rw [lM]; exact h),zIF h]; simp
def kindI (P:zE) (a b:Nat):Int:=kindF (rdI P (zIns P a)) (wrI P (zIns P a)) (rdI P (zIns P b)) (wrI P (zIns P b))
theorem betweenV {P:zE} (hi:∀ z ∈ progI P,InP P z) {a b:Nat} (ha:a < (progI P).length) (hb:b < (progI P).length):pM (trcP P) (a:Int) (b:Int)=some (kindI P a b):=by
  have l1:=zFy (hi _ (zJj ha));have l2:=zFy (hi _ (zJj hb));unfold pM kindI kindF;simp only [trcP,zIv ha,zIv hb,zHc ha,zHc hb,containsV _ _ (show (rdI P (zIns P a)).length ≤ 1048576 by omega),containsV _ _ (show (rdI P (zIns P b)).length ≤ 1048576 by omega),oB,oS,oP,id];by_cases e:wrI P (zIns P a)=wrI P (zIns P b)
  · have e1:(wrI P (zIns P a) == wrI P (zIns P b))=true:=by simpa using e
    simp only [e1,if_true];cases hasB (rdI P (zIns P b)) (wrI P (zIns P a)) <;> cases hasB (rdI P (zIns P a)) (wrI P (zIns P b)) <;> rfl
  · have e1:(wrI P (zIns P a) == wrI P (zIns P b))=false:=by simpa using e
    simp only [e1,bF,if_false];cases hasB (rdI P (zIns P b)) (wrI P (zIns P a)) <;> cases hasB (rdI P (zIns P a)) (wrI P (zIns P b)) <;> rfl
theorem kindsV {P:zE} (hi:∀ z ∈ progI P,InP P z) {a b:Nat} (ha:a < (progI P).length) (hb:b < (progI P).length):gR (useI P (zIns P a)) (useI P (zIns P b))=some (kindI P a b):=by
  have l1:=zFy (hi _ (zJj ha));have l2:=zFy (hi _ (zJj hb));unfold gR kindI kindF;simp only [useI,specHas _ _ (show (rdI P (zIns P a)).length ≤ 1048576 by omega),specHas _ _ (show (rdI P (zIns P b)).length ≤ 1048576 by omega),oB,oS,oP,id];by_cases e:wrI P (zIns P a)=wrI P (zIns P b)
  · have e1:(wrI P (zIns P a) == wrI P (zIns P b))=true:=by simpa using e
    simp only [e1,if_true];cases hasB (rdI P (zIns P b)) (wrI P (zIns P a)) <;> cases hasB (rdI P (zIns P a)) (wrI P (zIns P b)) <;> rfl
  · have e1:(wrI P (zIns P a) == wrI P (zIns P b))=false:=by simpa using e
    simp only [e1,bF,if_false];cases hasB (rdI P (zIns P b)) (wrI P (zIns P a)) <;> cases hasB (rdI P (zIns P a)) (wrI P (zIns P b)) <;> rfl
end Go.LN
namespace Go.LN
def dep1 (P:zE) (i q:Nat):List zV:=if kindI P i q == 0 then [] else [⟨(i:Int),(q:Int),kindI P i q⟩]
def depR (P:zE) (i k j:Nat):List zV:=(List.range' k j).flatMap fun q=>dep1 P i q
def depA (P:zE) (i j:Nat):List zV:=(List.range' i j).flatMap fun q=>depR P q (q + 1) ((progI P).length - (q + 1))
theorem zFP (P:zE) (i k j:Nat):depR P i k (j + 1)=dep1 P i k ++ depR P i (k + 1) j:=by unfold depR; rw [List.range'_succ,List.flatMap_cons]
theorem zFQ (P:zE) (i j:Nat):depA P i (j + 1)=depR P i (i + 1) ((progI P).length - (i + 1)) ++ depA P (i + 1) j:=by unfold depA; rw [List.range'_succ,List.flatMap_cons]
theorem zKz (P:zE) (i q:Nat):(dep1 P i q).length ≤ 1:=by unfold dep1; split <;> simp
theorem zE4 (P:zE) (i:Nat):∀ (j k:Nat),(depR P i k j).length ≤ j
  | 0,k=>by simp [depR]
  | j + 1,k=>by
    have h1:=zKz P i k
    have h2:=zE4 P i j (k + 1)
    rw [zFP,lA]; omega
theorem zIw (P:zE):∀ (j i:Nat),(depA P i j).length ≤ j * (progI P).length
  | 0,i=>by simp [depA]
  | j + 1,i=>by
    have h1:=zE4 P i ((progI P).length - (i + 1)) (i + 1)
    have h2:=zIw P j (i + 1)
    rw [zFQ,lA,Nat.add_mul,Nat.one_mul]; omega
theorem zKK (P:zE) (a b:Nat):0 ≤ kindI P a b∧kindI P a b ≤ 7:=zKI _ _ _ _
theorem zLj {P:zE} (hi:∀ z ∈ progI P,InP P z) (hlen:(progI P).length ≤ 120) (i:Nat) (hin:i < (progI P).length):∀ (j k:Nat) (o:List zV),k + j=(progI P).length→o.length + j ≤ 1000000→tZ (trcP P) (i:Int) o (k:Int)=some (o ++ depR P i k j):=by
  intro j
  induction j with
  | zero =>
    intro k o hk ho;rw [tZ];have:¬((k:Int) < ((trcP P).list.length:Int)):=by show ¬((k:Int) < ((progI P).length:Int)); omega
    simp only [this,dF,bF,if_false,oP,id];simp [depR]
  | succ j ih =>
    intro k o hk ho;rw [tZ,zFP];have hlt:k < (progI P).length:=by omega
    have hc:((k:Int) < ((trcP P).list.length:Int)):=by show ((k:Int) < ((progI P).length:Int)); omega
    have hr:=zKK P i k;simp only [hc,dT,if_true,betweenV hi hin hlt,oB,oS,oP,id,oT (show (o.length + [zV.mk (i:Int) (k:Int) (kindI P i k)].length) * 24 ≤ 140737488355328 by simp; omega)];rw [tE (by omega)];unfold dep1;by_cases h0:kindI P i k=0
    · have e1:¬(kindI P i k > 0):=by omega
      have e2:(kindI P i k == 0)=true:=by simpa using h0
      simp only [e1,e2,dF,bF,if_false,if_true,oS,List.nil_append];exact ih (k + 1) o (by omega) (by omega)
    · have e1:kindI P i k > 0:=by omega
      have e2:¬((kindI P i k == 0)=true):=by simpa using h0
      simp only [e1,dT,if_true,oS];rw [if_neg e2,ih (k + 1) _ (by omega) (by rw [lA]; simp; omega),List.append_assoc]
theorem zLk {P:zE} (hi:∀ z ∈ progI P,InP P z) (hlen:(progI P).length ≤ 120):∀ (j i:Nat) (o:List zV),i + j=(progI P).length→o.length ≤ 120 * i→sA (trcP P) o (i:Int)=some (o ++ depA P i j):=by
  intro j
  induction j with
  | zero =>
    intro i o hij ho;rw [sA];have:¬((i:Int) < ((trcP P).list.length:Int)):=by show ¬((i:Int) < ((progI P).length:Int)); omega
    simp only [this,dF,bF,if_false,oP,id];simp [depA]
  | succ j ih =>
    intro i o hij ho;rw [sA,zFQ];have hlt:i < (progI P).length:=by omega
    have hc:((i:Int) < ((trcP P).list.length:Int)):=by show ((i:Int) < ((progI P).length:Int)); omega
    have hl:=zE4 P i ((progI P).length - (i + 1)) (i + 1);have h2:=zLj hi hlen i hlt ((progI P).length - (i + 1)) (i + 1) o (by omega) (by omega);simp only [hc,dT,if_true,tE (show i < 9223372036854775807 by omega),h2,oB,oS];rw [ih (i + 1) _ (by omega) (by rw [lA]; omega),List.append_assoc]
theorem zLA {P:zE} (hi:∀ z ∈ progI P,InP P z) (hlen:(progI P).length ≤ 120) (i:Nat) (hin:i < (progI P).length):∀ (j k:Nat) (o:List zV),k + j=(progI P).length→o.length + j ≤ 1000000→oF ((progI P).map (useI P)) (i:Int) o (k:Int)=some (o ++ depR P i k j):=by
  intro j
  induction j with
  | zero =>
    intro k o hk ho;rw [oF];have:¬((k:Int) < (((progI P).map (useI P)).length:Int)):=by rw [lM]; omega
    simp only [this,dF,bF,if_false,oP,id];simp [depR]
  | succ j ih =>
    intro k o hk ho;rw [oF,zFP];have hlt:k < (progI P).length:=by omega
    have hc:((k:Int) < (((progI P).map (useI P)).length:Int)):=by rw [lM]; omega
    simp only [hc,dT,if_true,zJk hin,zJk hlt,kindsV hi hin hlt,oB,oS,oP,id,oT (show (o.length + [zV.mk (i:Int) (k:Int) (kindI P i k)].length) * 24 ≤ 140737488355328 by simp; omega)];rw [tE (by omega)];unfold dep1;by_cases h0:kindI P i k=0
    · have e1:(kindI P i k != 0)=false:=by simpa using h0
      have e2:(kindI P i k == 0)=true:=by simpa using h0
      simp only [e1,e2,bF,if_false,if_true,oS,List.nil_append];exact ih (k + 1) o (by omega) (by omega)
    · have e1:(kindI P i k != 0)=true:=by simpa using h0
      have e2:¬((kindI P i k == 0)=true):=by simpa using h0
      simp only [e1,if_true,oS];rw [if_neg e2,ih (k + 1) _ (by omega) (by rw [lA]; simp; omega),List.append_assoc]
theorem zLB {P:zE} (hi:∀ z ∈ progI P,InP P z) (hlen:(progI P).length ≤ 120):∀ (j i:Nat) (o:List zV),i + j=(progI P).length→o.length ≤ 120 * i→oG ((progI P).map (useI P)) o (i:Int)=some (o ++ depA P i j):=by
  intro j
  induction j with
  | zero =>
    intro i o hij ho;rw [oG];have:¬((i:Int) < (((progI P).map (useI P)).length:Int)):=by rw [lM]; omega
    simp only [this,dF,bF,if_false,oP,id];simp [depA]
  | succ j ih =>
    intro i o hij ho;rw [oG,zFQ];have hlt:i < (progI P).length:=by omega
    have hc:((i:Int) < (((progI P).map (useI P)).length:Int)):=by rw [lM]; omega
    have hl:=zE4 P i ((progI P).length - (i + 1)) (i + 1);have h2:=zLA hi hlen i hlt ((progI P).length - (i + 1)) (i + 1) o (by omega) (by omega);simp only [hc,dT,if_true,tE (show i < 9223372036854775807 by omega),h2,oB,oS];rw [ih (i + 1) _ (by omega) (by rw [lA]; omega),List.append_assoc]
def dpF (P:zE):List zV:=if validP P then depA P 0 (progI P).length else []
theorem implDeps (P:zE) (hb:BG P):jI P=some (dpF P):=by
  unfold jI dpF;rw [implTrace P hb];cases hv:validP P with
  | false=>rfl
  | true =>
    have hlen:=(fT hv).2.2.2;have hi:∀ z ∈ progI P,InP P z:=fun z hz=>zIE hb hv hz;have hl:=zLk hi hlen _ 0 [] (Nat.zero_add _) (by simp);rw [nZ,List.nil_append] at hl;simp only [if_true,oB,oS,bT,bF,if_false,nS,hl,oP,id]
theorem zMg {P:zE}:(dpF P).length ≤ 14400:=by
  unfold dpF;split
  · rename_i hv;have hlen:=(fT hv).2.2.2;have:=zIw P (progI P).length 0;have h2:(progI P).length * (progI P).length ≤ 120 * 120:=Nat.mul_le_mul hlen hlen;omega
  · simp
end Go.LN
namespace Go.LN
structure Kn where
  k:Nat→Nat→Int
  n:Nat
def dq1 (P:Kn) (i q:Nat):List zV:=if P.k i q == 0 then [] else [⟨(i:Int),(q:Int),P.k i q⟩]
def dqR (P:Kn) (i k j:Nat):List zV:=(List.range' k j).flatMap fun q=>dq1 P i q
def dqA (P:Kn) (i j:Nat):List zV:=(List.range' i j).flatMap fun q=>dqR P q (q + 1) (P.n - (q + 1))
theorem zMX {P:Kn}{d:zV} (h:d ∈ dqA P 0 P.n):∃ i k:Nat,d=⟨(i:Int),(k:Int),P.k i k⟩∧i < k∧k < P.n∧P.k i k ≠ 0:=by
  unfold dqA at h;obtain ⟨i,hi,h⟩:=List.mem_flatMap.1 h;unfold dqR at h;obtain ⟨k,hk,h⟩:=List.mem_flatMap.1 h;have hi:=List.mem_range'_1.1 hi;have hk:=List.mem_range'_1.1 hk;unfold dq1 at h;split at h
  · cases h
  · rename_i h0;exact ⟨i,k,List.mem_singleton.1 h,by omega,by omega,by simpa using h0⟩
def kn (P:zE):Kn:=⟨kindI P,(progI P).length⟩
theorem zMh {P:zE}{d:zV} (h:d ∈ depA P 0 (progI P).length):∃ i k:Nat,d=⟨(i:Int),(k:Int),kindI P i k⟩∧i < k∧k < (progI P).length∧kindI P i k ≠ 0:=zMX (P:=kn P) h
theorem specDeps6 (P:zE) (hb:BG P) (hv:validP P=true):fN P=some (depA P 0 (progI P).length):=by
  have hlen:=(fT hv).2.2.2;have hi:∀ z ∈ progI P,InP P z:=fun z hz=>zIE hb hv hz;have hl:=zLB hi hlen _ 0 [] (Nat.zero_add _) (by simp);rw [nZ,List.nil_append] at hl;simp only [fN,specUses P hb hv,hl,oB,oS,oP,id]
end Go.LN
namespace Go.LN
end Go.LN
namespace Go.LN
theorem zMY {d:Int}{n:Nat}{e:zG} (h:shapeB d (n + 1) e=true):(e.Kind=1∨e.Kind=2∨e.Kind=3)∨((e.Kind=4∨e.Kind=5∨e.Kind=6)∧∃ a b,e.Kids=[a,b]):=by
  simp only [shapeB,bA] at h;have hk:=eq_of_beq h.1.1;unfold kidsN at hk;by_cases h1:e.Kind=1∨e.Kind=2∨e.Kind=3
  · exact .inl h1
  · rw [if_neg h1] at hk;by_cases h2:e.Kind=4∨e.Kind=5∨e.Kind=6
    · rw [if_pos h2] at hk;refine .inr ⟨h2,?_⟩;have hl:e.Kids.length=2:=by omega
      match e.Kids,hl with
      | [a,b],_=>exact ⟨a,b,rfl⟩
    · rw [if_neg h2] at hk; omega
end Go.LN
namespace Go.LN
end Go.LN
