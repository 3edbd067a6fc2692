/- Helper of the proof (see the last text). -/
import Derived.Test.YtaflkghnfcjahaaGreatVB1
import Derived.Test.YtaflkghnfcjahaaGreatQZ
set_option linter.unusedVariables false
set_option linter.unusedSimpArgs false
namespace Go.LN
def BP (x:zN):Prop:=BN x.Nest∧x.Body.length ≤ 100000∧∀ s ∈ x.Body,BS s
def bodyB (x:zN):Bool:=(decide (1 ≤ x.Body.length) && decide (x.Body.length ≤ 4)) && x.Body.all fun s=>stmtB s (x.Nest.length:Int)
def partB (A:List zH) (x:zN):Bool:=(nestPts x.Nest).2 && bodyB x && (nestPts x.Nest).1.all fun q=>ptB q && x.Body.all fun s=>stOk A s q
def instR (k:Int) (q:List Int) (i j:Nat):List zK:=(List.range' i j).map fun (i:Nat)=>⟨k,(i:Int),q⟩
theorem zE2 (k:Int) (q:List Int) (i j:Nat):(instR k q i j).length=j:=by simp [instR]
theorem len14 (n:Nat):(decide ((1:Int) ≤ (n:Int)) && decide ((n:Int) ≤ 4))=(decide (1 ≤ n) && decide (n ≤ 4)):=by
  have e1:decide ((1:Int) ≤ (n:Int))=decide (1 ≤ n):=by simp; omega
  have e2:decide ((n:Int) ≤ 4)=decide (n ≤ 4):=by simp; omega
  rw [e1,e2]
theorem zLg (P:zE) (k:Int) (x:zN) (q:List Int) (hq:q.length ≤ 4) (hb:x.Body.length ≤ 4) (hs:∀ s ∈ x.Body,stmtB s (x.Nest.length:Int)=true) (hR:RV P.Arrays) :
    ∀ (j i:Nat) (o:List zK),i + j=x.Body.length→o.length + j ≤ 1000000→wS P k x q o (i:Int)=some (if (x.Body.drop i).all (fun s=>stOk P.Arrays s q) then .done (o ++ instR k q i j) else .ret ([],false)):=by
  intro j
  induction j with
  | zero =>
    intro i o hi ho
    rw [wS]
    have:¬((i:Int) < (x.Body.length:Int)):=by omega
    simp only [this,dF,bF,if_false]
    rw [show x.Body.drop i=[] from dN.2 (by omega)]
    simp [instR]
  | succ j ih =>
    intro i o hi ho
    rw [wS]
    have hlt:i < x.Body.length:=by omega
    have hc:((i:Int) < (x.Body.length:Int)):=by omega
    have happ:app 40 o [(⟨k,(i:Int),q⟩:zK)]=some (o ++ [⟨k,(i:Int),q⟩]):=rG (by simp; omega)
    simp only [hc,dT,if_true,yI hlt,oB,oS,implStmtOk P _ q (hs _ (gM hlt)) hq hR,zGH q (by omega),happ]
    rw [wF (by omega),gC hlt,List.all_cons]
    cases stOk P.Arrays x.Body[i] q with
    | false=>rfl
    | true =>
      simp only [bT,bF,if_false,Bool.true_and]
      rw [ih (i + 1) _ (by omega) (by simp; omega),List.append_assoc]
      simp only [instR,List.range'_succ,List.map_cons,List.singleton_append]
def ptOk (A:List zH) (x:zN) (q:List Int):Bool:=ptB q && x.Body.all fun s=>stOk A s q
theorem zLh (P:zE) (k:Int) (x:zN) (qs:List (List Int)) (hq:∀ q ∈ qs,q.length ≤ 4) (hql:qs.length ≤ 120) (hb:x.Body.length ≤ 4) (hs:∀ s ∈ x.Body,stmtB s (x.Nest.length:Int)=true) (hR:RV P.Arrays) :
    ∀ (j i:Nat) (o:List zK),i + j=qs.length→o.length + 4 * j ≤ 1000000→wT P k x qs o (i:Int)=some (if (qs.drop i).all (ptOk P.Arrays x) then .done (o ++ (qs.drop i).flatMap fun q=>instR k q 0 x.Body.length) else .ret ([],false)):=by
  intro j
  induction j with
  | zero =>
    intro i o hi ho
    rw [wT]
    have:¬((i:Int) < (qs.length:Int)):=by omega
    simp only [this,dF,bF,if_false]
    rw [show qs.drop i=[] from dN.2 (by omega)]
    simp
  | succ j ih =>
    intro i o hi ho
    rw [wT]
    have hlt:i < qs.length:=by omega
    have hc:((i:Int) < (qs.length:Int)):=by omega
    have hq4:=hq _ (gM hlt)
    have h3:=zLg P k x qs[i] hq4 hb hs hR x.Body.length 0 o (Nat.zero_add _) (by omega)
    rw [nZ,List.drop_zero] at h3
    simp only [hc,dT,if_true,yI hlt,oB,oS,implPoint _ (show qs[i].length ≤ 1048576 by omega),h3]
    rw [wF (by omega),gC hlt,List.all_cons,List.flatMap_cons,ptOk]
    cases ptB qs[i] with
    | false=>rfl
    | true =>
      simp only [bT,bF,if_false,Bool.true_and]
      cases x.Body.all fun s=>stOk P.Arrays s qs[i] with
      | false=>rfl
      | true =>
        simp only [if_true,oS,Bool.true_and]
        rw [ih (i + 1) _ (by omega) (by rw [lA,zE2]; omega),List.append_assoc]
def partI (k:Int) (x:zN):List zK:=(nestPts x.Nest).1.flatMap fun q=>instR k q 0 x.Body.length
theorem zIQ (k:Int) (b:Nat):∀ qs:List (List Int),(qs.flatMap fun q=>instR k q 0 b).length=qs.length * b
  | []=>by simp
  | q::qs=>by rw [List.flatMap_cons,lA,zE2,zIQ k b qs,List.length_cons,Nat.succ_mul]; omega
theorem zGy (k:Int) (x:zN):(partI k x).length=(nestPts x.Nest).1.length * x.Body.length:=zIQ _ _ _
theorem zBE {x:zN} (h:bodyB x=true):1 ≤ x.Body.length∧x.Body.length ≤ 4∧∀ s ∈ x.Body,stmtB s (x.Nest.length:Int)=true:=by
  simp only [bodyB,bA,decide_eq_true_eq] at h;exact ⟨h.1.1,h.1.2,List.all_eq_true.1 h.2⟩
theorem zGL (k:Int) {A:List zH}{x:zN} (h:partB A x=true):(partI k x).length ≤ 480:=by
  simp only [partB,bA] at h;obtain ⟨h1,h2,_⟩:=zBE h.1.2;have:=(zBi (nest:=x.Nest)).1;rw [zGy];exact Nat.mul_le_mul this h2
def gP (P:zE) (i:Nat):zN:=P.Parts.getD i ⟨[],[]⟩
theorem zLi (P:zE) (hP:P.Parts.length ≤ 4) (hb:∀ x ∈ P.Parts,BP x) (hR:RV P.Arrays) :
    ∀ (j i:Nat) (o:List zK),i + j=P.Parts.length→o.length ≤ 480 * i→wU P o (i:Int)=some (if (List.range' i j).all (fun i=>partB P.Arrays (gP P i)) then .done (o ++ (List.range' i j).flatMap fun (i:Nat)=>partI (i:Int) (gP P i)) else .ret ([],false)):=by
  intro j
  induction j with
  | zero =>
    intro i o hi ho
    rw [wU]
    have:¬((i:Int) < (P.Parts.length:Int)):=by omega
    simp only [this,dF,bF,if_false]
    simp
  | succ j ih =>
    intro i o hi ho
    rw [wU]
    have hlt:i < P.Parts.length:=by omega
    have hc:((i:Int) < (P.Parts.length:Int)):=by omega
    obtain ⟨b1,b2,b3⟩:=hb _ (gM hlt)
    have hg:gP P i=P.Parts[i]:=by simp [gP,hlt]
    have hcs:=zHV (f:=fun x0=>vD x0 P.Parts[i]) (p:=fun s=>!(stmtB s (P.Parts[i].Nest.length:Int))) P.Parts[i].Body (fun s hs=>by
        unfold vD
        rw [implStmt s _ (b3 s hs)]; rfl) (by omega)
    simp only [hc,dT,if_true,yI hlt,oB,oS,implPoints _ b1,nG,len14,hcs,oP,id]
    rw [wF (by omega),List.range'_succ,List.all_cons,List.flatMap_cons,hg]
    have hnl:=zBi (nest:=P.Parts[i].Nest)
    cases hn:(nestPts P.Parts[i].Nest).2 with
    | false=>simp [partB,hn]
    | true =>
      cases hb4:(decide (1 ≤ P.Parts[i].Body.length) && decide (P.Parts[i].Body.length ≤ 4)) with
      | false=>simp [partB,bodyB,hb4]
      | true =>
        have hany:(P.Parts[i].Body.any fun s=>!(stmtB s (P.Parts[i].Nest.length:Int)))=!(P.Parts[i].Body.all fun s=>stmtB s (P.Parts[i].Nest.length:Int)):=by
          rw [Bool.eq_iff_iff]; simp
        simp only [bT,bF,if_false,oS,hany]
        cases hall:P.Parts[i].Body.all fun s=>stmtB s (P.Parts[i].Nest.length:Int) with
        | false=>simp [partB,bodyB,hall]
        | true =>
          have hbb:bodyB P.Parts[i]=true:=by rw [bodyB,hb4,hall]; rfl
          obtain ⟨q1,q2,q3⟩:=zBE hbb
          have h2:=zLh P (i:Int) P.Parts[i] (nestPts P.Parts[i].Nest).1 hnl.2 hnl.1 q2 q3 hR _ 0 o (Nat.zero_add _) (by have:=hnl.1; omega)
          rw [nZ,List.drop_zero] at h2
          simp only [bT,bF,if_false,h2]
          have hpB:partB P.Arrays P.Parts[i]=(nestPts P.Parts[i].Nest).1.all (ptOk P.Arrays P.Parts[i]):=by rw [partB,hn,hbb]; rfl
          rw [hpB]
          cases hpt:(nestPts P.Parts[i].Nest).1.all (ptOk P.Arrays P.Parts[i]) with
          | false=>simp
          | true =>
            have hle:=zGL (i:Int) (A:=P.Arrays) (x:=P.Parts[i]) (by rw [hpB,hpt])
            simp only [if_true,oS,Bool.true_and]
            rw [show (o ++ (nestPts P.Parts[i].Nest).1.flatMap fun q=>instR (i:Int) q 0 P.Parts[i].Body.length)=o ++ partI (i:Int) P.Parts[i] from rfl]
            rw [ih (i + 1) _ (by omega) (by rw [lA]; omega),List.append_assoc]
def BG (P:zE):Prop:=BR P.Arrays∧P.Parts.length ≤ 100000∧∀ x ∈ P.Parts,BP x
def progB (P:zE):Bool:=arrB P.Arrays && decide (P.Parts.length ≤ 4) && (List.range' 0 P.Parts.length).all fun i=>partB P.Arrays (gP P i)
def progI (P:zE):List zK:=(List.range' 0 P.Parts.length).flatMap fun (i:Nat)=>partI (i:Int) (gP P i)
def validP (P:zE):Bool:=progB P && decide ((progI P).length ≤ 120)
theorem implInstances (P:zE) (h:BG P):rF P=some (if progB P then (progI P,decide ((progI P).length ≤ 120)) else ([],false)):=by
  obtain ⟨h1,h2,h3⟩:=h;unfold rF progB;rw [implArrays _ h1];cases ha:arrB P.Arrays with
  | false=>simp
  | true =>
    by_cases h4:P.Parts.length ≤ 4
    · have e:¬((P.Parts.length:Int) > 4):=by omega
      have hl:=zLi P h4 h3 (RV.of h1 ha) _ 0 [] (Nat.zero_add _) (by simp);rw [nZ,List.nil_append] at hl;simp only [bT,bF,if_false,e,dF,oP,oB,oS,hl,h4,dT,Bool.true_and];cases hA:(List.range' 0 P.Parts.length).all fun i=>partB P.Arrays (gP P i) with
      | false=>simp
      | true =>
        simp only [if_true,progI]
        congr 2
        simp; omega
    · have e:((P.Parts.length:Int) > 4):=by omega
      simp [e,h4]
theorem zGz {R:Type}{r0:R}{n:Nat}{f:Int→Option (Out Unit R)}{P:Nat→Bool} (step:∀ i,i < n→f (i:Int)=if P i then f ((i + 1:Nat):Int) else some (.ret r0)) (fin:f (n:Int)=some (.done ())):f 0=some (if (List.range n).all P then .done () else .ret r0):=by
  have key:∀ j i,i + j=n→f (i:Int)=some (if (List.range' i j).all P then .done () else .ret r0):=by
    intro j
    induction j with
    | zero=>intro i hi; rw [show i=n by omega,fin]; rfl
    | succ j ih =>
      intro i hi;rw [step i (by omega),List.range'_succ,List.all_cons];cases hP:P i with
      | false=>simp
      | true=>simp only [if_true,Bool.true_and]; exact ih (i + 1) (by omega)
  have:=key n 0 (by omega);rw [List.range_eq_range'];exact this
theorem zIR (A:List zH) (x:zN) (qs:List (List Int)) (hq:∀ q ∈ qs,q.length ≤ 4) (hql:qs.length ≤ 120) (i:Nat) (hi:i < x.Body.length) (hs:stmtB x.Body[i] (x.Nest.length:Int)=true) (hbs:BS x.Body[i]) (hR:RV A) :
    uQ A x qs (i:Int) 0=some (if qs.all (fun q=>stOk A x.Body[i] q && ptB q) then .done () else .ret (0,false)):=by
  have hl:=zGz (r0:=((0:Int),false)) (n:=qs.length) (f:=uQ A x qs (i:Int)) (P:=fun k=>stOk A x.Body[i] (qs.getD k []) && ptB (qs.getD k [])) (fun k hk=>by
      rw [uQ]
      have h1:((k:Int) < (qs.length:Int)):=by omega
      have hg:qs.getD k []=qs[k]:=by simp [hk]
      have hk4:=hq _ (gM hk)
      simp only [h1,dT,if_true,yI hi,yI hk,oB,oS,specCells A _ qs[k] hs hbs hk4 hR,specPoint _ (show qs[k].length ≤ 1048576 by omega),hg]
      rw [wF (by omega)]
      cases stOk A x.Body[i] qs[k] with
      | false=>simp
      | true=>cases ptB qs[k] <;> simp) (by
      rw [uQ]; simp)
  rw [hl,fS qs (fun q=>stOk A x.Body[i] q && ptB q)]
def EXz:zG:=zG.mk 0 0 (zA.mk [] 0) (zJ.mk ⟨[]⟩ []) []
theorem zIS (A:List zH) (x:zN) (hx:BP x) (qs:List (List Int)) (hq:∀ q ∈ qs,q.length ≤ 4) (hql:qs.length ≤ 120) (hR:RV A) :
    uR A x qs 0=some (if x.Body.all (fun s=>stmtB s (x.Nest.length:Int) && qs.all (fun q=>stOk A s q && ptB q)) then .done () else .ret (0,false)):=by
  obtain ⟨b1,b2,b3⟩:=hx
  have hl:=zGz (r0:=((0:Int),false)) (n:=x.Body.length) (f:=uR A x qs) (P:=fun i=>(fun s=>stmtB s (x.Nest.length:Int) && qs.all (fun q=>stOk A s q && ptB q)) (x.Body.getD i ⟨⟨⟨[]⟩,[]⟩,EXz⟩)) (fun i hi=>by
      rw [uR]
      have h1:((i:Int) < (x.Body.length:Int)):=by omega
      have hg:x.Body.getD i ⟨⟨⟨[]⟩,[]⟩,EXz⟩=x.Body[i]:=by simp [hi]
      have hbs:=b3 _ (gM hi)
      simp only [h1,dT,if_true,yI hi,oB,oS,specStmt _ _ hbs,hg]
      rw [wF (by omega)]
      cases hst:stmtB x.Body[i] (x.Nest.length:Int) with
      | false=>simp
      | true =>
        simp only [bT,bF,if_false,zIR A x qs hq hql i hi hst hbs hR,Bool.true_and]
        cases qs.all (fun q=>stOk A x.Body[i] q && ptB q) <;> simp) (by
      rw [uR]; simp)
  rw [hl,fS x.Body (fun s=>stmtB s (x.Nest.length:Int) && qs.all (fun q=>stOk A s q && ptB q))]
theorem zKn {A:List zH}{x:zN}{qs:List (List Int)} (h1:1 ≤ x.Body.length) :
    (x.Body.all (fun s=>stmtB s (x.Nest.length:Int) && qs.all (fun q=>stOk A s q && ptB q)))=((x.Body.all fun s=>stmtB s (x.Nest.length:Int)) && qs.all (ptOk A x)):=by
  rw [Bool.eq_iff_iff,bA,List.all_eq_true,List.all_eq_true,List.all_eq_true]
  constructor
  · intro h
    refine ⟨fun s hs=>((bA _ _).mp (h s hs)).1,fun q hq=>?_⟩
    have hall:∀ s ∈ x.Body,stOk A s q=true∧ptB q=true:=fun s hs=>by
      have:=((bA _ _).mp (h s hs)).2
      have:=List.all_eq_true.1 this q hq
      rwa [bA] at this
    rw [ptOk,bA,List.all_eq_true]
    exact ⟨(hall x.Body[0] (gM (by omega))).2,fun s hs=>(hall s hs).1⟩
  · rintro ⟨h2,h3⟩ s hs
    rw [bA,List.all_eq_true]
    refine ⟨h2 s hs,fun q hq=>?_⟩
    have:=h3 q hq
    rw [ptOk,bA,List.all_eq_true] at this
    rw [bA]
    exact ⟨this.2 s hs,this.1⟩
theorem specPart (A:List zH) (x:zN) (hx:BP x) (hR:RV A):pZ A x=some (if partB A x then (((nestPts x.Nest).1.length * x.Body.length:Nat):Int) else 0,partB A x):=by
  have hnl:=zBi (nest:=x.Nest);have hl:=zIS A x hx (nestPts x.Nest).1 hnl.2 hnl.1 hR;obtain ⟨b1,b2,b3⟩:=hx;unfold pZ partB;rw [specPoints _ b1];cases hn:(nestPts x.Nest).2 with
  | false=>simp [hn]
  | true =>
    by_cases q1:1 ≤ x.Body.length
    · have q1':¬((x.Body.length:Int) < 1):=by omega
      by_cases q2:x.Body.length ≤ 4
      · have q2':¬((x.Body.length:Int) > 4):=by omega
        have hm:(nestPts x.Nest).1.length * x.Body.length ≤ 120 * 4:=Nat.mul_le_mul hnl.1 q2;have hW:W (((nestPts x.Nest).1.length:Int) * (x.Body.length:Int))=(((nestPts x.Nest).1.length * x.Body.length:Nat):Int):=by
          rw [← Int.natCast_mul]; exact rC (by omega) (by omega)
        have hb:bodyB x=x.Body.all fun s=>stmtB s (x.Nest.length:Int):=by simp [bodyB,q1,q2]
        have hsw:=zKn (A:=A) (qs:=(nestPts x.Nest).1) q1;rw [hsw] at hl;have hpt:((nestPts x.Nest).1.all fun q=>ptB q && x.Body.all fun s=>stOk A s q)=(nestPts x.Nest).1.all (ptOk A x):=rfl;simp only [hn,bT,bF,if_false,q1',q2',dF,oP,oB,oS,hl,hb,hpt,hW,Bool.true_and];cases ((x.Body.all fun s=>stmtB s (x.Nest.length:Int)) && (nestPts x.Nest).1.all (ptOk A x)) <;> simp
      · have q2':((x.Body.length:Int) > 4):=by omega
        have hb:bodyB x=false:=by simp [bodyB,q2]
        simp [hn,q1',q2',hb]
    · have q1':((x.Body.length:Int) < 1):=by omega
      have hb:bodyB x=false:=by simp [bodyB,q1]
      simp [hn,q1',hb]
theorem zGM (P:zE) (hP:P.Parts.length ≤ 4) (hb:∀ x ∈ P.Parts,BP x) (hR:RV P.Arrays) :
    ∀ (j i t:Nat),i + j=P.Parts.length→t ≤ 480 * i→wD P (t:Int) (i:Int)=some (if (List.range' i j).all (fun i=>partB P.Arrays (gP P i)) then .done (((t + ((List.range' i j).flatMap fun (i:Nat)=>partI (i:Int) (gP P i)).length:Nat)):Int) else .ret false):=by
  intro j
  induction j with
  | zero =>
    intro i t hi ht
    rw [wD]
    have:¬((i:Int) < (P.Parts.length:Int)):=by omega
    simp only [this,dF,bF,if_false]
    simp
  | succ j ih =>
    intro i t hi ht
    rw [wD]
    have hlt:i < P.Parts.length:=by omega
    have hc:((i:Int) < (P.Parts.length:Int)):=by omega
    have hg:gP P i=P.Parts[i]:=by simp [gP,hlt]
    simp only [hc,dT,if_true,yI hlt,oB,oS,specPart P.Arrays _ (hb _ (gM hlt)) hR]
    rw [wF (by omega),List.range'_succ,List.all_cons,List.flatMap_cons,hg]
    cases hp:partB P.Arrays P.Parts[i] with
    | false=>simp
    | true =>
      have hle:=zGL (i:Int) hp
      have hpl:=zGy (i:Int) P.Parts[i]
      rw [hpl] at hle
      have hW:W ((t:Int) + (((nestPts P.Parts[i].Nest).1.length * P.Parts[i].Body.length:Nat):Int))=((t + (nestPts P.Parts[i].Nest).1.length * P.Parts[i].Body.length:Nat):Int):=by
        rw [rC (by omega) (by omega)]; omega
      simp only [if_true,bT,bF,if_false,Bool.true_and,hW]
      rw [ih (i + 1) _ (by omega) (by omega),lA,hpl,Nat.add_assoc]
theorem specValidP (P:zE) (h:BG P):tP P=some (validP P):=by
  obtain ⟨h1,h2,h3⟩:=h;unfold tP validP progB;rw [specArrays _ h1];cases ha:arrB P.Arrays with
  | false=>simp
  | true =>
    by_cases h4:P.Parts.length ≤ 4
    · have e:¬((P.Parts.length:Int) > 4):=by omega
      have hl:=zGM P h4 h3 (RV.of h1 ha) _ 0 0 (Nat.zero_add _) (by simp);rw [nZ,Nat.zero_add] at hl;simp only [bT,bF,if_false,e,dF,oP,oB,oS,hl,h4,dT,Bool.true_and];cases hA:(List.range' 0 P.Parts.length).all fun i=>partB P.Arrays (gP P i) with
      | false=>simp
      | true =>
        simp only [if_true,progI,Bool.true_and]
        congr 1
        simp; omega
    · have e:((P.Parts.length:Int) > 4):=by omega
      simp [e,h4]
end Go.LN
namespace Go.LN
theorem fU {α:Type}{l:List α}{f:Int→List α→Option (List α)} (step:∀ (i:Nat) (h:i < l.length) (o:List α),o.length=i→f (i:Int) o=f ((i + 1:Nat):Int) (o ++ [l[i]])) (fin:∀ o,f (l.length:Int) o=some o):f 0 []=some l:=by
  have key:∀ j i,i + j=l.length→f (i:Int) (l.take i)=some l:=by
    intro j
    induction j with
    | zero =>
      intro i hi;rw [show i=l.length by omega,fin,List.take_of_length_le (Nat.le_refl _)]
    | succ j ih =>
      intro i hi;have hlt:i < l.length:=by omega
      have:=ih (i + 1) (by omega);rw [List.take_add_one,List.getElem?_eq_getElem hlt,Option.toList_some] at this;rw [step i hlt _ (by rw [List.length_take]; omega)];exact this
  exact key _ 0 (Nat.zero_add _)
theorem copyExpr:∀ (m:Nat) (e:zG),BE m e→qE e=some e
  | m,e,h=>by
    obtain ⟨h1,h2,h3⟩:=h.own
    rw [qE]
    have hl:=fU (l:=e.Kids) (f:=fun i o=>vR e i o) (fun i hi o ho=>by
        show vR e (i:Int) o=_
        rw [vR]
        have k1:((i:Int) < (e.Kids.length:Int)):=by omega
        obtain ⟨m',hm,hm'⟩:=h.kid (gM hi)
        have happ:app 112 o [e.Kids[i]]=some (o ++ [e.Kids[i]]):=rG (by simp; omega)
        have hr:=copyExpr m' e.Kids[i] hm'
        simp only [k1,dT,if_true,yI hi,oB,oS,same,hr,happ]
        rw [wF (by omega)]) (fun o=>by
        show vR e (e.Kids.length:Int) o=_
        rw [vR]; simp)
    simp only [specCopyAff _ h1,specCopyAcc _ h2,oB,oS,same]
    rw [show vR e 0 []=some e.Kids from hl]
    clear hl h h1 h2 h3
    cases e; rfl
theorem copyStmt (s:zQ) (h:BS s):kV s=some s:=by
  obtain ⟨h1,m,h2⟩:=h;unfold kV;rw [specCopyAcc _ h1,copyExpr m _ h2];rfl
theorem copyNest (nest:List zD) (h:BN nest):nA nest=some nest:=by
  obtain ⟨h1,h2⟩:=h;unfold nA;have hl:=fU (l:=nest) (f:=fun i o=>uM nest o i) (fun i hi o ho=>by
      show uM nest o (i:Int)=_;rw [uM];have k1:((i:Int) < (nest.length:Int)):=by omega
      obtain ⟨⟨q1,q2⟩,q3,q4⟩:=h2 _ (gM hi);have happ:app 48 o [nest[i]]=some (o ++ [nest[i]]):=rG (by simp; omega);have hlo:=fU (l:=nest[i].Lo) (f:=fun k o=>sG nest (i:Int) k o) (fun k hk o ho=>by
          show sG nest (i:Int) (k:Int) o=_;rw [sG];have k2:((k:Int) < (nest[i].Lo.length:Int)):=by omega
          have hp:app 32 o [nest[i].Lo[k]]=some (o ++ [nest[i].Lo[k]]):=rG (by simp; omega);have ha:=q2 _ (gM hk);have hpn:app 8 ([]:List Int) nest[i].Lo[k].Coefs=some nest[i].Lo[k].Coefs:=dA _ (by unfold BA at ha; omega);simp only [yI hi,k2,dT,if_true,yI hk,oB,oS,hpn,hp];rw [wF (by omega)]) (fun o=>by
          show sG nest (i:Int) (nest[i].Lo.length:Int) o=_;rw [sG]; simp [yI hi])
      have hhi:=fU (l:=nest[i].Hi) (f:=fun k o=>sH nest (i:Int) k o) (fun k hk o ho=>by
          show sH nest (i:Int) (k:Int) o=_;rw [sH];have k2:((k:Int) < (nest[i].Hi.length:Int)):=by omega
          have hp:app 32 o [nest[i].Hi[k]]=some (o ++ [nest[i].Hi[k]]):=rG (by simp; omega);have ha:=q4 _ (gM hk);have hpn:app 8 ([]:List Int) nest[i].Hi[k].Coefs=some nest[i].Hi[k].Coefs:=dA _ (by unfold BA at ha; omega);simp only [yI hi,k2,dT,if_true,yI hk,oB,oS,hpn,hp];rw [wF (by omega)]) (fun o=>by
          show sH nest (i:Int) (nest[i].Hi.length:Int) o=_;rw [sH]; simp [yI hi])
      simp only [k1,dT,if_true,oB,oS,hlo,hhi,happ];rw [wF (by omega)]) (fun o=>by
      show uM nest o (nest.length:Int)=_;rw [uM]; simp)
  rw [hl]; rfl
theorem copyProg (P:zE) (h:BG P):rX P=some P:=by
  obtain ⟨⟨h1,h1'⟩,h2,h3⟩:=h;unfold rX;have ha:=fU (l:=P.Arrays) (f:=fun i o=>sI P i o) (fun i hi o ho=>by
      show sI P (i:Int) o=_;rw [sI];have k1:((i:Int) < (P.Arrays.length:Int)):=by omega
      have hd:=h1' _ (gM hi);have happ:app 40 o [P.Arrays[i]]=some (o ++ [P.Arrays[i]]):=rG (by simp; omega);have hpn:app 8 ([]:List Int) P.Arrays[i].Dims=some P.Arrays[i].Dims:=dA _ (by omega);simp only [k1,dT,if_true,yI hi,oB,oS,hpn,happ];rw [wF (by omega)]) (fun o=>by
      show sI P (P.Arrays.length:Int) o=_;rw [sI]; simp)
  have hp:=fU (l:=P.Parts) (f:=fun i o=>uN P i o) (fun i hi o ho=>by
      show uN P (i:Int) o=_;rw [uN];have k1:((i:Int) < (P.Parts.length:Int)):=by omega
      obtain ⟨b1,b2,b3⟩:=h3 _ (gM hi);have happ:app 48 o [P.Parts[i]]=some (o ++ [P.Parts[i]]):=rG (by simp; omega);have hb:=fU (l:=P.Parts[i].Body) (f:=fun k o=>sJ P (i:Int) k o) (fun k hk o ho=>by
          show sJ P (i:Int) (k:Int) o=_;rw [sJ];have k2:((k:Int) < (P.Parts[i].Body.length:Int)):=by omega
          have hp:app 152 o [P.Parts[i].Body[k]]=some (o ++ [P.Parts[i].Body[k]]):=rG (by simp; omega);simp only [yI hi,k2,dT,if_true,yI hk,oB,oS,copyStmt _ (b3 _ (gM hk)),hp];rw [wF (by omega)]) (fun o=>by
          show sJ P (i:Int) (P.Parts[i].Body.length:Int) o=_;rw [sJ]; simp [yI hi])
      simp only [k1,dT,if_true,yI hi,oB,oS,copyNest _ b1,hb,happ];rw [wF (by omega)]) (fun o=>by
      show uN P (P.Parts.length:Int) o=_;rw [uN]; simp)
  rw [ha,hp]; rfl
end Go.LN
namespace Go.LN
theorem BE.up1:∀ {n:Nat}{e:zG},BE n e→BE (n + 1) e
  | 0,e,⟨h1,h2,h3⟩=>⟨h1,h2,by rw [h3]; simp,by rw [h3]; intro k hk; cases hk⟩
  | n + 1,e,⟨h1,h2,h3,h4⟩=>⟨h1,h2,h3,fun k hk=>BE.up1 (h4 k hk)⟩
theorem BE.up {n m:Nat}{e:zG} (h:BE n e) (hm:n ≤ m):BE m e:=by
  obtain ⟨k,rfl⟩:=Nat.exists_eq_add_of_le hm
  induction k with
  | zero=>exact h
  | succ k ih=>exact BE.up1 (ih (by omega))
def QL (q:Nat) (l:List zA):Prop:=l.length ≤ q∧∀ a ∈ l,BA a
def QN (q:Nat) (nest:List zD):Prop:=nest.length ≤ 2000∧∀ x ∈ nest,QL q x.Lo∧QL q x.Hi
def QS (q:Nat) (s:zQ):Prop:=QL q s.Write.Subs∧BA s.Value.Index∧BL s.Value.Read.Subs∧s.Value.Kids.length ≤ q∧∀ k ∈ s.Value.Kids,BE 6 k
theorem QL.up {q r:Nat}{l:List zA} (h:QL q l) (hq:q ≤ r):QL r l:=⟨Nat.le_trans h.1 hq,h.2⟩
theorem QL.bl {q:Nat}{l:List zA} (h:QL q l) (hq:q ≤ 1000):BL l:=⟨Nat.le_trans h.1 hq,h.2⟩
theorem QL.app {q k:Nat}{l m:List zA} (h:QL q l) (hm:QL k m):QL (q + k) (l ++ m):=by
  refine ⟨by rw [lA]; exact Nat.add_le_add h.1 hm.1,fun a ha=>?_⟩;rcases List.mem_append.1 ha with ha | ha
  · exact h.2 a ha
  · exact hm.2 a ha
theorem QL.nil {q:Nat}:QL q []:=⟨Nat.zero_le _,fun _ h=>by cases h⟩
theorem QL.one {a:zA} (h:BA a):QL 1 [a]:=⟨Nat.le_refl _,fun _ h'=>List.mem_singleton.1 h' ▸ h⟩
theorem QL.two {a b:zA} (h:BA a) (h2:BA b):QL 2 [a,b]:=QL.app (QL.one h) (QL.one h2)
theorem QN.up {q r:Nat}{l:List zD} (h:QN q l) (hq:q ≤ r):QN r l:=⟨h.1,fun x hx=>⟨(h.2 x hx).1.up hq,(h.2 x hx).2.up hq⟩⟩
theorem QN.bn {q:Nat}{l:List zD} (h:QN q l) (hq:q ≤ 1000):BN l:=⟨by have:=h.1; omega,fun x hx=>⟨(h.2 x hx).1.bl hq,(h.2 x hx).2.bl hq⟩⟩
theorem QN.set {q:Nat}{l:List zD} (h:QN q l) {x:zD} (hx:QL q x.Lo∧QL q x.Hi) (k:Nat):QN q (l.set k x):=⟨by rw [List.length_set]; exact h.1,zFL h.2 hx k⟩
theorem QS.up {q r:Nat}{s:zQ} (h:QS q s) (hq:q ≤ r):QS r s:=⟨h.1.up hq,h.2.1,h.2.2.1,Nat.le_trans h.2.2.2.1 hq,h.2.2.2.2⟩
theorem QS.bs {q:Nat}{s:zQ} (h:QS q s) (hq:q ≤ 1000):BS s:=⟨h.1.bl hq,7,h.2.1,h.2.2.1,by have:=h.2.2.2.1; omega,h.2.2.2.2⟩
theorem zHA {a:zA} (h:a.Coefs.length=4):BA a:=by unfold BA; omega
theorem zJV (q:Nat):∀ (j:Nat) (out:List zD),5 ≤ out.length + j→1 ≤ out.length→QN q out→Ok (rL out) (QN q)
  | 0,out,hj,h1,h=>by
    rw [rL]
    refine Ok.ite_dec (fun hc=>absurd hc (by omega)) fun _=>Ok.pure h
  | j + 1,out,hj,h1,h=>by
    rw [rL]
    refine Ok.ite_dec (fun hc=>?_) fun _=>Ok.pure h
    refine Ok.idx (by omega) (by omega) fun x hx _=>Ok.app (by simp; omega) ?_
    refine zJV q j _ (by rw [lA]; simp; omega) (by rw [lA]; omega) ⟨by rw [lA]; simp; omega,fun y hy=>?_⟩
    rcases List.mem_append.1 hy with hy | hy
    · exact h.2 y hy
    · rw [List.mem_singleton.1 hy]; exact h.2 x hx
theorem mut2 (q:Nat) (hq:q ≤ 300) (r:zM) (nest:List zD) (h:QN q nest) (h0:0 ≤ r.p) (h1:r.p ≤ 900000000):Ok (oL r nest) (fun y=>QN (q + 2) y.1∧0 ≤ y.2.p∧y.2.p ≤ r.p + 2):=by
  have hup:=h.up (show q ≤ q + 2 by omega);unfold oL;rw [copyNest nest (h.bn (by omega))];refine Ok.bind_some (Ok.ite_beq (fun _=>Ok.pure ⟨hup,h0,by dsimp only; omega⟩) fun hne=>?_);have hpos:0 < nest.length:=by omega
  have hlen:=h.1;have hW:W ((nest.length:Int) - 1)=((nest.length - 1:Nat):Int):=by rw [rC (by omega) (by omega)]; omega
  refine Ok.call (fI r 40) ⟨h0,by omega⟩ fun y2 s g1 g2 g3=>?_;refine Ok.ite_beq (fun _=>?_) fun _=>Ok.ite_beq (fun _=>?_) fun _=>Ok.ite_beq (fun _=>?_) fun _=>Ok.ite_beq (fun _=>?_) fun _=>Ok.ite_beq (fun _=>?_) fun _=>?_
  · refine Ok.idx (by omega) (by omega) fun x hx _=>Ok.call (fI s 2) ⟨by omega,by omega⟩ fun y5 s2 k1 k2 k3=>Ok.call (zBp y5) ⟨k1,by omega⟩ fun a c1 c2=>?_;have hxx:=h.2 x hx;refine Ok.app (by have:=hxx.1.1; simp; omega) (Ok.pure ⟨QN.set (x:=⟨x.Lo ++ [a],x.Hi⟩) hup ⟨(hxx.1.app (QL.one (zHA c1))).up (show q + 1 ≤ q + 2 by omega),hxx.2.up (show q ≤ q + 2 by omega)⟩ _,by dsimp only; omega,by dsimp only; omega⟩)
  · rw [hW];refine Ok.idx (by omega) (by omega) fun x hx _=>?_;have hxx:=h.2 x hx;exact Ok.pure ⟨QN.set (x:=⟨x.Lo,[]⟩) hup ⟨hxx.1.up (show q ≤ q + 2 by omega),QL.nil⟩ _,by dsimp only; omega,by dsimp only; omega⟩
  · rw [hW];refine Ok.idx (by omega) (by omega) fun x hx _=>Ok.call (mH 1) trivial (Ok.call (mH 2) trivial ?_);have hxx:=h.2 x hx;exact Ok.app (by have:=hxx.2.1; simp; omega) (Ok.pure ⟨QN.set (x:=⟨x.Lo,x.Hi ++ [⟨[0,0,0,0],1⟩,⟨[0,0,0,0],2⟩]⟩) hup ⟨hxx.1.up (show q ≤ q + 2 by omega),hxx.2.app (QL.two (zHA rfl) (zHA rfl))⟩ _,by dsimp only; omega,by dsimp only; omega⟩)
  · refine Ok.call (mH 99) trivial (Ok.idx (by omega) (by omega) fun x hx _=>?_);have hxx:=h.2 x hx;exact Ok.pure ⟨QN.set (x:=⟨x.Lo,[⟨[0,0,0,0],99⟩]⟩) hup ⟨hxx.1.up (show q ≤ q + 2 by omega),(QL.one (zHA rfl)).up (show 1 ≤ q + 2 by omega)⟩ _,by dsimp only; omega,by dsimp only; omega⟩
  · refine Ok.bind (zJV q 5 nest (by omega) hpos h) fun z hz=>Ok.pure ⟨hz.up (by omega),by dsimp only; omega,by dsimp only; omega⟩
  · exact Ok.pure ⟨hup,by dsimp only; omega,by dsimp only; omega⟩
theorem mut3 (q:Nat) (hq:q ≤ 300) (r:zM) (s:zQ) (h:QS q s) (h0:0 ≤ r.p) (h1:r.p ≤ 900000000):Ok (sE r s) (fun y=>QS (q + 2) y.1∧0 ≤ y.2.p∧y.2.p ≤ r.p + 2):=by
  obtain ⟨w1,w2,w3,w4,w5⟩:=h.up (show q ≤ q + 2 by omega);obtain ⟨v1,_,_,v4,_⟩:=id h;have v11:=v1.1;unfold sE;rw [copyStmt s (h.bs (by omega))];refine Ok.bind_some (Ok.call (fI r 40) ⟨h0,by omega⟩ fun y2 y3 g1 g2 g3=>?_);have fin:∀ (o:Str×List zA×Int×Int×List zG×zM),(QL (q + 2) o.2.1∧(o.2.2.2.2.1.length ≤ q + 2∧∀ k ∈ o.2.2.2.2.1,BE 6 k)∧0 ≤ o.2.2.2.2.2.p∧o.2.2.2.2.2.p ≤ r.p + 2)→QS (q + 2) (zQ.mk (zJ.mk o.1 o.2.1) (zG.mk o.2.2.1 o.2.2.2.1 s.Value.Index s.Value.Read o.2.2.2.2.1))∧0 ≤ o.2.2.2.2.2.p∧o.2.2.2.2.2.p ≤ r.p + 2 :=
    fun o ⟨a,b,c⟩=>⟨⟨a,w2,w3,b.1,b.2⟩,c⟩
  refine Ok.bind (φ:=fun o:Str×List zA×Int×Int×List zG×zM=>QL (q + 2) o.2.1∧(o.2.2.2.2.1.length ≤ q + 2∧∀ k ∈ o.2.2.2.2.1,BE 6 k)∧0 ≤ o.2.2.2.2.2.p∧o.2.2.2.2.2.p ≤ r.p + 2) ?_ fun o ho=>by
    obtain ⟨o1,o2,o3,o4,o5,o6⟩:=o;exact Ok.pure (fin _ ho)
  refine Ok.ite_beq (fun _=>?_) fun _=>?_
  · exact Ok.call (zBB y3 _) ⟨by decide,by omega,by omega⟩ fun z t _ k3=>Ok.pure ⟨w1,⟨w4,w5⟩,by dsimp only; omega,by dsimp only; omega⟩
  refine Ok.bind (φ:=fun o:List zA×Int×Int×List zG×zM=>QL (q + 2) o.1∧(o.2.2.2.1.length ≤ q + 2∧∀ k ∈ o.2.2.2.1,BE 6 k)∧0 ≤ o.2.2.2.2.p∧o.2.2.2.2.p ≤ r.p + 2) ?_ fun o ho=>by
    obtain ⟨o2,o3,o4,o5,o6⟩:=o;exact Ok.pure ho
  refine Ok.ite_beq (fun _=>?_) fun _=>?_
  · exact Ok.call (zBp 3) (by omega) fun a c1 c2=>Ok.call fR trivial (Ok.app (by simp; omega) (Ok.pure ⟨v1.app (QL.two (zHA c1) (zHA rfl)),⟨w4,w5⟩,by dsimp only; omega,by dsimp only; omega⟩))
  refine Ok.bind (φ:=fun o:Int×Int×List zG×zM=>(o.2.2.1.length ≤ q + 2∧∀ k ∈ o.2.2.1,BE 6 k)∧0 ≤ o.2.2.2.p∧o.2.2.2.p ≤ r.p + 2) ?_ fun o ho=>by
    obtain ⟨o3,o4,o5,o6⟩:=o;exact Ok.pure ⟨w1,ho⟩
  refine Ok.ite_beq (fun _=>?_) fun _=>?_
  · exact Ok.call (uE y3 _) ⟨by decide,by omega,by omega,by decide⟩ fun z t _ _ k3=>Ok.pure ⟨⟨w4,w5⟩,by dsimp only; omega,by dsimp only; omega⟩
  refine Ok.bind (φ:=fun o:Int×List zG×zM=>(o.2.1.length ≤ q + 2∧∀ k ∈ o.2.1,BE 6 k)∧0 ≤ o.2.2.p∧o.2.2.p ≤ r.p + 2) ?_ fun o ho=>by
    obtain ⟨o4,o5,o6⟩:=o;exact Ok.pure ho
  refine Ok.ite_beq (fun _=>?_) fun _=>?_
  · exact Ok.call (uE y3 _) ⟨by decide,by omega,by omega,by decide⟩ fun z t _ _ k3=>Ok.pure ⟨⟨w4,w5⟩,by dsimp only; omega,by dsimp only; omega⟩
  refine Ok.bind (φ:=fun o:List zG=>o.length ≤ q + 2∧∀ k ∈ o,BE 6 k) ?_ fun o ho=>Ok.pure ⟨ho,by dsimp only; omega,by dsimp only; omega⟩;refine Ok.ite_beq (fun _=>?_) fun _=>Ok.pure ⟨w4,w5⟩;refine Ok.app (by show (_ + 1) * 112 ≤ _; omega) (Ok.pure ⟨by show (_ ++ _:List zG).length ≤ _; rw [lA]; show _ + 1 ≤ _; omega,fun k hk=>?_⟩);rcases List.mem_append.1 hk with hk | hk
  · exact w5 k hk
  · rw [List.mem_singleton.1 hk];exact BE.up (n:=0) ⟨Nat.zero_le _,⟨Nat.zero_le _,fun _ h=>by cases h⟩,rfl⟩ (by omega)
end Go.LN
namespace Go.LN
def DX (x:zN):Prop:=QN 100 x.Nest∧x.Body.length ≤ 1000∧∀ s ∈ x.Body,QS 100 s
def DP (P:zE):Prop:=(P.Arrays.length ≤ 1000∧∀ a ∈ P.Arrays,a.Dims.length ≤ 1000)∧P.Parts.length ≤ 1000∧∀ x ∈ P.Parts,DX x
theorem DX.bp {x:zN} (h:DX x):BP x:=⟨h.1.bn (by omega),by have:=h.2.1; omega,fun s hs=>(h.2.2 s hs).bs (by omega)⟩
theorem DP.bg {P:zE} (h:DP P):BG P:=⟨⟨by have:=h.1.1; omega,h.1.2⟩,by have:=h.2.1; omega,fun x hx=>(h.2.2 x hx).bp⟩
def PB (l:List zN):Prop:=l.length ≤ 1000∧∀ x ∈ l,BP x
theorem PB.set {l:List zN} (h:PB l) {x:zN} (hx:BP x) (k:Nat):PB (l.set k x):=⟨by rw [List.length_set]; exact h.1,zFL h.2 hx k⟩
def AR (l:List zH):Prop:=l.length ≤ 2000∧∀ a ∈ l,a.Dims.length ≤ 1000
def RD (s:zM):Prop:=0 ≤ s.p∧s.p ≤ 700001000
theorem mut4 (r:zM) (P:zE) (h:DP P) (h0:0 ≤ r.p) (h1:r.p ≤ 700000000):Ok (qR r P) (fun y=>(BG y.1∧AR y.1.Arrays)∧RD y.2):=by
  obtain ⟨⟨a1,a2⟩,p1,p2⟩:=id h;have hA:AR P.Arrays:=⟨by omega,a2⟩;have hP:PB P.Parts:=⟨p1,fun x hx=>(p2 x hx).bp⟩;have hW:0 < P.Parts.length→W ((P.Parts.length:Int) - 1)=((P.Parts.length - 1:Nat):Int):=fun hp=>by rw [rC (by omega) (by omega)]; omega
  unfold qR;rw [copyProg P h.bg];refine Ok.bind_some (Ok.call (fI r 60) ⟨h0,by omega⟩ fun y2 y3 g1 g2 g3=>?_);have hR:RD y3:=⟨by omega,by omega⟩;refine Ok.bind (φ:=fun o:List zH×List zN×zM=>AR o.1∧PB o.2.1∧RD o.2.2) ?_ fun o ho=>by
    obtain ⟨o1,o2,o3⟩:=o;exact Ok.pure ⟨⟨⟨⟨by have:=ho.1.1; dsimp only at this ⊢; omega,ho.1.2⟩,by have:=ho.2.1.1; dsimp only at this ⊢; omega,ho.2.1.2⟩,ho.1⟩,ho.2.2⟩
  refine Ok.ite_beq (fun _=>?_) fun _=>?_
  · refine Ok.call (zBB y3 _) ⟨by decide,by omega,by omega⟩ fun z t _ k3=>Ok.call (uE t _) ⟨by decide,by omega,by omega,by decide⟩ fun z2 t2 _ _ k4=>Ok.app (by show (_ + 1) * 40 ≤ _; omega) (Ok.pure ⟨⟨by show (_ ++ _:List zH).length ≤ _; rw [lA]; show _ + 1 ≤ _; omega,fun a ha=>?_⟩,hP,⟨by dsimp only; omega,by dsimp only; omega⟩⟩);rcases List.mem_append.1 ha with ha | ha
    · exact a2 a ha
    · rw [List.mem_singleton.1 ha]; show 1 ≤ 1000; omega
  refine Ok.bind (φ:=fun o:List zH×List zN×zM=>AR o.1∧PB o.2.1∧RD o.2.2) ?_ fun o ho=>by
    obtain ⟨o1,o2,o3⟩:=o;exact Ok.pure ho
  refine Ok.ite_beq (fun _=>?_) fun _=>?_
  · refine Ok.bind (φ:=fun o:List zH×zM=>AR o.1∧RD o.2) ?_ fun o ho=>by
      obtain ⟨o1,o3⟩:=o;exact Ok.pure ⟨ho.1,hP,ho.2⟩
    refine Ok.ite_dec (fun hc=>?_) fun _=>Ok.pure ⟨hA,hR⟩;refine Ok.call (uE y3 _) ⟨by decide,by omega,by omega,by decide⟩ fun z t _ _ k3=>Ok.idx (by omega) (by omega) fun x hx _=>Ok.bind_pure (Ok.pure ⟨⟨by show (List.set _ _ _).length ≤ _; rw [List.length_set]; exact hA.1,zFL hA.2 (show ([z]:List Int).length ≤ 1000 by simp) _⟩,⟨by dsimp only; omega,by dsimp only; omega⟩⟩)
  refine Ok.bind (φ:=fun o:List zN×zM=>PB o.1∧RD o.2) ?_ fun o ho=>by
    obtain ⟨o1,o3⟩:=o;exact Ok.pure ⟨hA,ho⟩
  refine Ok.ite_beq (fun _=>?_) fun _=>?_
  · refine Ok.bind (φ:=fun o:List zN×zM=>PB o.1∧RD o.2) ?_ fun o ho=>by
      obtain ⟨o1,o3⟩:=o;exact Ok.pure ho
    refine Ok.ite_dec (fun hc=>?_) fun _=>Ok.pure ⟨hP,hR⟩;refine Ok.idx (by omega) (by omega) fun x hx _=>?_;refine Ok.bind (mut2 100 (by omega) y3 x.Nest (p2 x hx).1 (by omega) (by omega)) fun q1 k1=>?_;obtain ⟨n1,s1⟩:=q1;obtain ⟨c1,c2,c3⟩:=k1;refine Ok.bind (mut2 (100 + 2) (by omega) s1 n1 c1 c2 (by dsimp only at c3; omega)) fun q2 k2=>?_;obtain ⟨n2,s2⟩:=q2;obtain ⟨d1,d2,d3⟩:=k2;refine Ok.bind (mut2 (100 + 2 + 2) (by omega) s2 n2 d1 d2 (by dsimp only at c3 d3; omega)) fun q3 k3=>?_;obtain ⟨n,s⟩:=q3;have hn:=k3.1;refine Ok.idx (by omega) (by omega) fun x7 hx7 _=>Ok.bind_pure (Ok.pure ⟨hP.set (x:=⟨n,x7.Body⟩) ⟨hn.bn (by omega),(p2 x7 hx7).bp.2.1,(p2 x7 hx7).bp.2.2⟩ _,⟨k3.2.1,by have:=k3.2.2; dsimp only at this c3 d3 ⊢; omega⟩⟩)
  refine Ok.bind (φ:=fun o:List zN×zM=>PB o.1∧RD o.2) ?_ fun o ho=>by
    obtain ⟨o1,o3⟩:=o;exact Ok.pure ho
  refine Ok.ite_beq (fun _=>?_) fun _=>?_
  · refine Ok.bind (φ:=fun b=>b=true→0 < P.Parts.length∧∀ x,P.Parts[P.Parts.length - 1]?=some x→0 < x.Body.length) ?_ fun b hb=>?_
    · refine Ok.ite_dec (fun hc=>?_) fun _=>Ok.pure (fun h=>by cases h);have hp:0 < P.Parts.length:=by omega
      rw [hW hp];refine Ok.idx (by omega) (by omega) fun x hx he=>Ok.pure fun hd=>⟨hp,fun x' hx'=>?_⟩;rw [iN] at he;rw [he] at hx';cases hx'
      have:=of_decide_eq_true hd;omega
    · refine Ok.bind (φ:=fun o:List zN×zM=>PB o.1∧RD o.2) ?_ fun o ho=>by
        obtain ⟨o1,o3⟩:=o;exact Ok.pure ho
      refine Ok.ite (fun hc=>?_) fun _=>Ok.pure ⟨hP,hR⟩;obtain ⟨hp,hbody⟩:=hb hc;rw [hW hp];refine Ok.idx (by omega) (by omega) fun x hx he=>?_;rw [iN] at he;have hb0:=hbody x he;have hdx:=p2 x hx;refine Ok.idx (by omega) (by omega) fun x0 hx0 _=>?_;refine Ok.bind (mut3 100 (by omega) y3 x0 (hdx.2.2 x0 hx0) (by omega) (by omega)) fun q1 k1=>?_;obtain ⟨n1,s1⟩:=q1;obtain ⟨c1,c2,c3⟩:=k1;refine Ok.bind (mut3 (100 + 2) (by omega) s1 n1 c1 c2 (by dsimp only at c3; omega)) fun q2 k2=>?_;obtain ⟨n2,s2⟩:=q2;obtain ⟨d1,d2,d3⟩:=k2;refine Ok.bind (mut3 (100 + 2 + 2) (by omega) s2 n2 d1 d2 (by dsimp only at c3 d3; omega)) fun q3 k3=>?_;obtain ⟨n,s⟩:=q3;have hn:=k3.1;refine Ok.bind_pure (Ok.pure ⟨hP.set (x:=⟨x.Nest,x.Body.set 0 n⟩) ⟨hdx.bp.1,by rw [List.length_set]; exact hdx.bp.2.1,zFL hdx.bp.2.2 (hn.bs (by omega)) _⟩ _,⟨k3.2.1,by have:=k3.2.2; dsimp only at this c3 d3 ⊢; omega⟩⟩)
  refine Ok.bind (φ:=fun o:List zN=>PB o) ?_ fun o ho=>Ok.pure ⟨ho,hR⟩;refine Ok.ite_beq (fun _=>?_) fun _=>Ok.pure hP;refine Ok.bind (φ:=fun o:List zN=>PB o) ?_ fun o ho=>Ok.pure ho;refine Ok.ite_dec (fun hc=>?_) fun _=>Ok.pure hP;have hp:0 < P.Parts.length:=by omega
  rw [hW hp];refine Ok.idx (by omega) (by omega) fun x hx he=>Ok.bind_pure (Ok.pure (hP.set (x:=⟨x.Nest,[]⟩) ⟨(p2 x hx).bp.1,by show 0 ≤ 100000; omega,fun _ h=>by cases h⟩ _))
theorem SE.be:∀ {n:Nat}{e:zG},SE n e→BE n e
  | 0,e,⟨h1,h2,h3⟩=>⟨by have:=h1.1; unfold BA; omega,⟨by have:=h2.2.1; omega,fun a ha=>by have:=(h2.2.2 a ha).1; unfold BA; omega⟩,h3⟩
  | n + 1,e,⟨h1,h2,h3,h4⟩=>⟨by have:=h1.1; unfold BA; omega,⟨by have:=h2.2.1; omega,fun a ha=>by have:=(h2.2.2 a ha).1; unfold BA; omega⟩,by omega,fun k hk=>SE.be (h4 k hk)⟩
theorem SS.qs {s:zQ} (h:SS s):QS 100 s:=by
  obtain ⟨h1,h2⟩:=h;have hb:=SE.be h2;exact ⟨⟨h1.2.1,fun a ha=>by have:=(h1.2.2 a ha).1; unfold BA; omega⟩,hb.1,hb.2.1,by have:=h2.2.2.1; omega,fun k hk=>BE.up (n:=4) (m:=6) (hb.2.2.2 k hk) (by omega)⟩
theorem LL.ql {l:List zA} (h:LL l):QL 100 l:=⟨h.1,fun a ha=>by have:=(h.2 a ha).1; unfold BA; omega⟩
theorem SG.dp {P:zE} (h:SG 1000 P):DP P:=by
  obtain ⟨⟨h1,h2⟩,h3,h4⟩:=h;refine ⟨⟨h1,fun a ha=>by have:=(h2 a ha).2; omega⟩,h3,fun x hx=>?_⟩;obtain ⟨⟨k1,k2⟩,k3,k4⟩:=h4 x hx;exact ⟨⟨by omega,fun y hy=>⟨(k2 y hy).1.ql,(k2 y hy).2.ql⟩⟩,k3,fun s hs=>(k4 s hs).qs⟩
end Go.LN
namespace Go.LN
theorem zKo {A:List zH}{x:zN} (h:partB A x=true):(nestPts x.Nest).1=pts x.Nest []∧nestB x.Nest=true∧(pts x.Nest []).length ≤ 120:=by
  simp only [partB,bA] at h;have h1:=h.1.1;unfold nestPts at h1 ⊢;split at h1
  · rename_i hc;rw [if_pos hc];exact ⟨rfl,hc.1,hc.2.2⟩
  · cases h1
theorem zIT (P:zE) (i:Nat) (hi:i < P.Parts.length) (y:List (List Int)) (k:Nat) (hk:k < y.length) (hq:y[k].length ≤ 4) (hb:P.Parts[i].Body.length ≤ 4) :
    ∀ (j s:Nat) (o:List zK),s + j=P.Parts[i].Body.length→o.length + j ≤ 1000000→wI P (i:Int) y (k:Int) o (s:Int)=some (o ++ instR (i:Int) y[k] s j):=by
  intro j
  induction j with
  | zero =>
    intro s o hs ho
    rw [wI]
    have:¬((s:Int) < (P.Parts[i].Body.length:Int)):=by omega
    simp only [yI hi,this,dF,bF,if_false,oB,oS,oP]
    simp [instR]
  | succ j ih =>
    intro s o hs ho
    rw [wI]
    have hc:((s:Int) < (P.Parts[i].Body.length:Int)):=by omega
    have hpn:app 8 ([]:List Int) y[k]=some y[k]:=dA _ (by omega)
    have happ:app 40 o [(⟨(i:Int),(s:Int),y[k]⟩:zK)]=some (o ++ [⟨(i:Int),(s:Int),y[k]⟩]):=rG (by simp; omega)
    simp only [yI hi,hc,dT,if_true,yI hk,oB,oS,hpn,happ]
    rw [wF (by omega),ih (s + 1) _ (by omega) (by simp; omega),List.append_assoc]
    simp only [instR,List.range'_succ,List.map_cons,List.singleton_append]
theorem zIU (P:zE) (i:Nat) (hi:i < P.Parts.length) (y:List (List Int)) (hy:y.length ≤ 120) (hq:∀ q ∈ y,q.length ≤ 4) (hb:P.Parts[i].Body.length ≤ 4) :
    ∀ (j k:Nat) (o:List zK),k + j=y.length→o.length + 4 * j ≤ 1000000→wJ P (i:Int) y o (k:Int)=some (o ++ (y.drop k).flatMap fun q=>instR (i:Int) q 0 P.Parts[i].Body.length):=by
  intro j
  induction j with
  | zero =>
    intro k o hk ho
    rw [wJ]
    have:¬((k:Int) < (y.length:Int)):=by omega
    simp only [this,dF,bF,if_false]
    rw [show y.drop k=[] from dN.2 (by omega)]
    simp
  | succ j ih =>
    intro k o hk ho
    rw [wJ]
    have hlt:k < y.length:=by omega
    have hc:((k:Int) < (y.length:Int)):=by omega
    have h3:=zIT P i hi y k hlt (hq _ (gM hlt)) hb P.Parts[i].Body.length 0 o (Nat.zero_add _) (by omega)
    rw [nZ] at h3
    simp only [hc,dT,if_true,oB,oS,h3]
    rw [wF (by omega),ih (k + 1) _ (by omega) (by rw [lA,zE2]; omega),gC hlt,List.flatMap_cons,List.append_assoc]
theorem zEc (P:zE) (hP:P.Parts.length ≤ 4) (hb:∀ i,i < P.Parts.length→partB P.Arrays (gP P i)=true) :
    ∀ (j i:Nat) (o:List zK),i + j=P.Parts.length→o.length ≤ 480 * i→wK P o (i:Int)=some (o ++ (List.range' i j).flatMap fun (i:Nat)=>partI (i:Int) (gP P i)):=by
  intro j
  induction j with
  | zero =>
    intro i o hi ho
    rw [wK]
    have:¬((i:Int) < (P.Parts.length:Int)):=by omega
    simp [this]
  | succ j ih =>
    intro i o hi ho
    rw [wK]
    have hlt:i < P.Parts.length:=by omega
    have hc:((i:Int) < (P.Parts.length:Int)):=by omega
    have hg:gP P i=P.Parts[i]:=by simp [gP,hlt]
    have hp:=hb i hlt
    rw [hg] at hp
    obtain ⟨p1,p2,p3⟩:=zKo hp
    obtain ⟨n1,n2⟩:=zFM p2
    have hpp:=hp
    simp only [partB,bA] at hpp
    obtain ⟨_,q2,_⟩:=zBE hpp.1.2
    have hpts:=specPts P.Parts[i].Nest P.Parts[i].Nest [] [] n2 rfl (by simp) n1 (by simp)
    rw [List.nil_append,List.take_of_length_le (by omega)] at hpts
    have h2:=zIU P i hlt (pts P.Parts[i].Nest []) p3 (fun q hq=>by have:=zH3 _ _ q hq; simp at this; omega) q2 _ 0 o (Nat.zero_add _) (by omega)
    rw [nZ,List.drop_zero] at h2
    simp only [hc,dT,if_true,yI hlt,oB,oS,hpts,h2]
    have hI:((pts P.Parts[i].Nest []).flatMap fun q=>instR (i:Int) q 0 P.Parts[i].Body.length)=partI (i:Int) P.Parts[i]:=by rw [partI,p1]
    have hle:=zGL (i:Int) hp
    rw [hI,wF (by omega),ih (i + 1) _ (by omega) (by rw [lA]; omega),List.range'_succ,List.flatMap_cons,hg,List.append_assoc]
theorem jQ {P:zE} (h:validP P=true):arrB P.Arrays=true∧P.Parts.length ≤ 4∧(∀ i,i < P.Parts.length→partB P.Arrays (gP P i)=true)∧(progI P).length ≤ 120:=by
  simp only [validP,progB,bA,decide_eq_true_eq] at h;obtain ⟨⟨⟨h1,h2⟩,h3⟩,h4⟩:=h;exact ⟨h1,h2,fun i hi=>List.all_eq_true.1 h3 i (List.mem_range'_1.2 ⟨Nat.zero_le _,by omega⟩),h4⟩
theorem specInst4 (P:zE) (hv:validP P=true):uD P=some (progI P):=by
  obtain ⟨_,v2,v3,_⟩:=jQ hv;have hl:=zEc P v2 v3 _ 0 [] (Nat.zero_add _) (by simp);rw [nZ,List.nil_append] at hl;simp only [uD,hl,oB,oS,oP,id];rfl
theorem zJp (l:List Int) (h:l.length ≤ 1048576):gJ l l=some true:=by
  unfold gJ;have hl:=gN (n:=l.length) (f:=pR l l) (P:=fun _=>true) (fun i hi=>by
      rw [pR];have h1:((i:Int) < (l.length:Int)):=by omega
      simp only [h1,dT,if_true,yI hi,oB,oS,bne_self_eq_false,bF,if_false];rw [wF (by omega)]) (by rw [pR]; simp)
  rw [hl];have:((List.range l.length).all fun _=>true)=true:=by simp
  simp [this]
end Go.LN
namespace Go.LN
def DA (x:zH):Prop:=(∃ d,x.Dims=[d]∧1 ≤ d∧d ≤ 6)∨∃ d e,x.Dims=[d,e]∧(1 ≤ d∧d ≤ 6)∧1 ≤ e∧e ≤ 6
theorem mul36 {d e:Int} (h1:1 ≤ d) (h2:d ≤ 6) (h3:1 ≤ e) (h4:e ≤ 6):1 ≤ d * e∧d * e ≤ 36:=by
  have:d=1∨d=2∨d=3∨d=4∨d=5∨d=6:=by omega
  rcases this with rfl | rfl | rfl | rfl | rfl | rfl <;> omega
theorem zM1 {x:zH}{d:Int} (h:x.Dims=[d]) (h1:1 ≤ d) (h2:d ≤ 6):sizeF x=d:=by
  unfold sizeF;rw [h,szL,szL,Int.one_mul,rC (by omega) (by omega)]
theorem zM2 {x:zH}{d e:Int} (h:x.Dims=[d,e]) (h1:1 ≤ d) (h2:d ≤ 6) (h3:1 ≤ e) (h4:e ≤ 6):sizeF x=d * e:=by
  unfold sizeF;have:=mul36 h1 h2 h3 h4;rw [h,szL,szL,szL,Int.one_mul,rC (x:=d) (by omega) (by omega),rC (by omega) (by omega)]
theorem DA.size {x:zH} (h:DA x):1 ≤ sizeF x∧sizeF x ≤ 36:=by
  rcases h with ⟨d,h,h1,h2⟩ | ⟨d,e,h,⟨h1,h2⟩,h3,h4⟩
  · rw [zM1 h h1 h2]; omega
  · rw [zM2 h h1 h2 h3 h4]; exact mul36 h1 h2 h3 h4
def nm (l:List zH) (i:Nat):Nat:=match (l.getD i ⟨⟨[]⟩,[]⟩).Name.l with | c::_=>c.toNat | []=>0
end Go.LN
namespace Go.LN
end Go.LN
namespace Go.LN
theorem specInsts (P:zE) (hv:validP P=true):uD P=some (progI P):=by
  obtain ⟨_,v2,v3,_⟩:=jQ hv;have hl:=zEc P v2 v3 _ 0 [] (Nat.zero_add _) (by simp);rw [nZ,List.nil_append] at hl;simp only [oB,oS,uD,hl,oP,id];rfl
end Go.LN
namespace Go.LN
def c0 (n:Int):zA:=⟨[0,0,0,0],n⟩
end Go.LN
namespace Go.LN
theorem zIV {P:zE} (h:BG P) (hv:validP P=true):RV P.Arrays:=by
  simp only [validP,progB,bA] at hv;exact RV.of h.1 hv.1.1.1
theorem zM3 {p:List Int} (h:ptB p=true):p.length ≤ 4:=by
  simp only [ptB,bA,decide_eq_true_eq] at h;exact h.1
end Go.LN
namespace Go.LN
end Go.LN
namespace Go.LN
theorem zGN:∀ {k:Nat}{a v:Int},v ∈ rngK k a ↔ a ≤ v∧v < a + (k:Int)
  | 0,a,v=>by simp [rngK]
  | k + 1,a,v=>by rw [rngK,List.mem_cons,zGN]; omega
theorem zLj {a b v:Int}:v ∈ rng a b ↔ a ≤ v∧v < b:=by
  unfold rng;rw [zGN]; omega
theorem zJW:∀ (k:Nat) (a:Int),(rngK k a).Pairwise (· < ·)
  | 0,a=>List.Pairwise.nil
  | k + 1,a=>by
    rw [rngK]
    refine List.Pairwise.cons (fun v hv=>?_) (zJW k (a + 1))
    have:=(zGN.1 hv).1
    omega
def inP:List zD→List Int→List Int→Prop
  | [],_,[]=>True
  | l::ls,p,v::r=>(loF l p ≤ v∧v < hiF l p)∧inP ls (p ++ [v]) r
  | _,_,_=>False
theorem zFN:∀ {ls:List zD}{p q:List Int},q ∈ pts ls p→∃ r,q=p ++ r∧inP ls p r
  | [],p,q,h=>by
    rw [pts,List.mem_singleton] at h
    exact ⟨[],by rw [h,List.append_nil],trivial⟩
  | l::ls,p,q,h=>by
    rw [pts,List.mem_flatMap] at h
    obtain ⟨v,hv,hq⟩:=h
    obtain ⟨r,e,hr⟩:=zFN hq
    exact ⟨v::r,by rw [e,List.append_assoc]; rfl,zLj.1 hv,hr⟩
def lexlt:List Int→List Int→Prop
  | x::xs,y::ys=>x < y∨(x=y∧lexlt xs ys)
  | _,_=>False
theorem zJX:∀ (ls:List zD) (p:List Int),(pts ls p).Pairwise fun q w=>∃ r s,q=p ++ r∧w=p ++ s∧lexlt r s
  | [],p=>by rw [pts]; exact List.pairwise_singleton ..
  | l::ls,p=>by
    rw [pts,List.pairwise_flatMap]
    refine ⟨fun v hv=>(zJX ls (p ++ [v])).imp ?_,(zJW _ _).imp ?_⟩
    · rintro q w ⟨r,s,e1,e2,h⟩
      exact ⟨v::r,v::s,by rw [e1,List.append_assoc]; rfl,by rw [e2,List.append_assoc]; rfl,.inr ⟨rfl,h⟩⟩
    · intro v w hvw q hq z hz
      obtain ⟨r,e1,_⟩:=zFN hq
      obtain ⟨s,e2,_⟩:=zFN hz
      exact ⟨v::r,w::s,by rw [e1,List.append_assoc]; rfl,by rw [e2,List.append_assoc]; rfl,.inl hvw⟩
def Ch {α:Type} (R:α→α→Prop):List α→Prop
  | a::b::l=>R a b∧Ch R (b::l)
  | _=>True
theorem Ch.append {α:Type}{R:α→α→Prop}:∀ {l m:List α},Ch R l→Ch R m→(∀ a ∈ l,∀ b ∈ m,R a b)→Ch R (l ++ m)
  | [],m,_,h2,_=>h2
  | [a],[],_,_,_=>trivial
  | [a],b::m,_,h2,h=>⟨h a (List.mem_cons_self ..) b (List.mem_cons_self ..),h2⟩
  | a::b::l,m,h1,h2,h=>⟨h1.1,Ch.append (l:=b::l) h1.2 h2 fun x hx=>h x (List.mem_cons_of_mem _ hx)⟩
theorem Ch.flat {α β:Type}{R:β→β→Prop}{f:α→List β}:∀ {l:List α},(∀ x ∈ l,Ch R (f x))→(l.Pairwise fun x y=>∀ a ∈ f x,∀ b ∈ f y,R a b)→Ch R (l.flatMap f)
  | [],_,_=>trivial
  | x::l,h1,h2=>by
    rw [List.flatMap_cons]
    have h2':=List.pairwise_cons.1 h2
    refine Ch.append (h1 x (List.mem_cons_self ..)) (Ch.flat (fun y hy=>h1 y (List.mem_cons_of_mem _ hy)) h2'.2) fun a ha b hb=>?_
    obtain ⟨y,hy,hb⟩:=List.mem_flatMap.1 hb
    exact h2'.1 y hy a ha b hb
theorem Ch.get {α:Type}{R:α→α→Prop}:∀ {l:List α} (i:Nat) (h:i + 1 < l.length),Ch R l→R l[i] l[i + 1]
  | a::b::l,0,_,hc=>hc.1
  | a::b::l,i + 1,h,hc=>Ch.get (l:=b::l) i (by simpa using h) hc.2
  | [a],i,h,_=>by simp at h
  | [],i,h,_=>by simp at h
def nxt (a b:zK):Prop:=a.Part < b.Part∨(a.Part=b.Part∧(lexlt a.Point b.Point∨(a.Point=b.Point∧a.Stmt + 1=b.Stmt)))
theorem zIW (k:Int) (q:List Int):∀ (j i:Nat),Ch nxt (instR k q i j)
  | 0,_=>trivial
  | 1,_=>trivial
  | j + 2,i=>by
    have:=zIW k q (j + 1) (i + 1)
    unfold instR at this ⊢
    rw [List.range'_succ,List.map_cons,List.range'_succ,List.map_cons]
    rw [List.range'_succ,List.map_cons] at this
    exact ⟨.inr ⟨rfl,.inr ⟨rfl,by dsimp only; omega⟩⟩,this⟩
theorem zBq {k:Int}{q:List Int}{i j:Nat}{z:zK} (h:z ∈ instR k q i j):z.Part=k∧z.Point=q∧∃ s:Nat,z.Stmt=(s:Int)∧s < i + j:=by
  unfold instR at h;obtain ⟨s,hs,rfl⟩:=List.mem_map.1 h;exact ⟨rfl,rfl,s,rfl,(List.mem_range'_1.1 hs).2⟩
theorem zIX (nest:List zD):(nestPts nest).1.Pairwise lexlt:=by
  unfold nestPts;split
  · refine (zJX nest []).imp ?_;rintro q w ⟨r,s,e1,e2,h⟩;rw [e1,e2]; exact h
  · exact List.Pairwise.nil
theorem zKp (k:Int) (x:zN):Ch nxt (partI k x):=by
  unfold partI;refine Ch.flat (fun q _=>zIW k q _ 0) ((zIX x.Nest).imp ?_);intro q w h a ha b hb;obtain ⟨a1,a2,_⟩:=zBq ha;obtain ⟨b1,b2,_⟩:=zBq hb;exact .inr ⟨by rw [a1,b1],.inl (by rw [a2,b2]; exact h)⟩
theorem zGO {k:Int}{x:zN}{z:zK} (h:z ∈ partI k x):z.Part=k:=by
  unfold partI at h;obtain ⟨q,_,hz⟩:=List.mem_flatMap.1 h;exact (zBq hz).1
theorem zKq (P:zE):Ch nxt (progI P):=by
  unfold progI;refine Ch.flat (fun i _=>zKp _ _) ((List.pairwise_lt_range' 1).imp ?_);intro i j h a ha b hb;exact .inl (by rw [zGO ha,zGO hb]; omega)
end Go.LN
namespace Go.LN
theorem zIz {P:zE} (h:validP P=true) {i:Nat} (hi:i < P.Parts.length):partB P.Arrays P.Parts[i]=true:=by
  simp only [validP,progB,bA,decide_eq_true_eq] at h;have:=List.all_eq_true.1 h.1.2 i (List.mem_range'_1.2 ⟨Nat.zero_le _,by omega⟩);have hg:gP P i=P.Parts[i]:=by simp [gP,hi]
  rwa [hg] at this
theorem zLk {nest:List zD}{q:List Int} (h:q ∈ (nestPts nest).1):nestB nest=true∧inP nest [] q:=by
  unfold nestPts at h;split at h
  · rename_i hc;obtain ⟨r,e,hr⟩:=zFN h;rw [List.nil_append] at e;exact ⟨hc.1,e ▸ hr⟩
  · cases h
theorem zJq {P:zE} (h:validP P=true) {z:zK} (hz:z ∈ progI P):∃ (i s:Nat) (hi:i < P.Parts.length) (hs:s < P.Parts[i].Body.length),z.Part=(i:Int)∧z.Stmt=(s:Int)∧nestB P.Parts[i].Nest=true∧inP P.Parts[i].Nest [] z.Point∧ptB z.Point=true∧stOk P.Arrays P.Parts[i].Body[s] z.Point=true∧stmtB P.Parts[i].Body[s] (P.Parts[i].Nest.length:Int)=true:=by
  unfold progI at hz;obtain ⟨i,hi,hz⟩:=List.mem_flatMap.1 hz;have hi:i < P.Parts.length:=by have:=(List.mem_range'_1.1 hi).2; omega
  have hg:gP P i=P.Parts[i]:=by simp [gP,hi]
  rw [hg] at hz;have hp:=zIz h hi;unfold partI at hz;obtain ⟨q,hq,hz⟩:=List.mem_flatMap.1 hz;obtain ⟨z1,z2,s,z3,hs⟩:=zBq hz;have hs:s < P.Parts[i].Body.length:=by omega
  obtain ⟨n1,n2⟩:=zLk hq;simp only [partB,bA] at hp;have hq2:=List.all_eq_true.1 hp.2 q hq;rw [bA] at hq2;refine ⟨i,s,hi,hs,z1,z3,n1,?_,?_,?_,?_⟩
  · rw [z2]; exact n2
  · rw [z2]; exact hq2.1
  · rw [z2]; exact List.all_eq_true.1 hq2.2 _ (gM hs)
  · exact (zBE hp.1.2).2.2 _ (gM hs)
theorem zFO:∀ {ls:List zD}{p r:List Int},inP ls p r→r.length=ls.length
  | [],_,[],_=>rfl
  | l::ls,p,v::r,h=>by rw [List.length_cons,List.length_cons,zFO h.2]
  | [],_,_::_,h=>h.elim
  | _::_,_,[],h=>h.elim
end Go.LN
namespace Go.LN
end Go.LN
namespace Go.LN
theorem zJA (P:zE) (x:zK) (ys:List zJ) (hy:ys.length ≤ 1048576) (ha:∀ a ∈ ys,AV a) (hp:x.Point.length ≤ 4) (hR:RV P.Arrays):∀ (j i:Nat) (o:List Int),i + j=ys.length→o.length=i→vH P x ys o (i:Int)=some (o ++ (ys.drop i).map (cellA P.Arrays x.Point)):=by
  intro j
  induction j with
  | zero =>
    intro i o hi ho;rw [vH];have:¬((i:Int) < (ys.length:Int)):=by omega
    simp only [this,dF,bF,if_false,oP,id];rw [dN.2 (by omega),List.map_nil,List.append_nil]
  | succ j ih =>
    intro i o hi ho;rw [vH];have hlt:i < ys.length:=by omega
    have hc:((i:Int) < (ys.length:Int)):=by omega
    simp only [hc,dT,if_true,yI hlt,implCell P ys[i] x.Point (ha _ (gM hlt)) hp hR,oB,oS,rG (show (o.length + [cellF ys[i] x.Point P.Arrays 0].length) * 8 ≤ 140737488355328 by simp; omega)];rw [wF (by omega),ih (i + 1) _ (by omega) (by rw [lA]; simp; omega),gC hlt,List.map_cons,List.append_assoc];rfl
end Go.LN
namespace Go.LN
def STz:zQ:=zQ.mk (zJ.mk ⟨[]⟩ []) EXz
def stI (P:zE) (z:zK):zQ:=(gP P z.Part.toNat).Body.getD z.Stmt.toNat STz
def rdI (P:zE) (z:zK):List Int:=(readsF 5 (stI P z).Value).map (cellA P.Arrays z.Point)
def wrI (P:zE) (z:zK):Int:=cellA P.Arrays z.Point (stI P z).Write
structure InP (P:zE) (z:zK):Prop where
  idxP:idx P.Parts z.Part=some (gP P z.Part.toNat)
  idxS:idx (gP P z.Part.toNat).Body z.Stmt=some (stI P z)
  part:0 ≤ z.Part∧z.Part < (P.Parts.length:Int)
  stmt:0 ≤ z.Stmt∧z.Stmt < ((gP P z.Part.toNat).Body.length:Int)
  pin:BN (gP P z.Part.toNat).Nest∧nestB (gP P z.Part.toNat).Nest=true∧ptB z.Point=true∧inP (gP P z.Part.toNat).Nest [] z.Point
  pt:z.Point.length ≤ 4
  bs:BS (stI P z)
  st:∃ d,stmtB (stI P z) d=true
  ok:stOk P.Arrays (stI P z) z.Point=true
theorem fJ {P:zE} (hb:BG P) (h:validP P=true) {z:zK} (hz:z ∈ progI P):InP P z:=by
  obtain ⟨i,s,hi,hs,z1,z2,hn,hin,hpt,hst,hsb⟩:=zJq h hz;have hbp:=hb.2.2 _ (gM hi);have hg:gP P z.Part.toNat=P.Parts[i]:=by rw [z1,iN]; simp [gP,hi]
  have hS:stI P z=P.Parts[i].Body[s]:=by unfold stI; rw [hg,z2,iN]; simp [hs]
  refine ⟨?_,?_,by rw [z1]; omega,by rw [hg,z2]; omega,?_,zM3 hpt,?_,?_,?_⟩
  · rw [hg,z1,yI hi]
  · rw [hS,hg,z2,yI hs]
  · rw [hg]; exact ⟨hbp.1,hn,hpt,hin⟩
  · rw [hS]; exact hbp.2.2 _ (gM hs)
  · rw [hS]; exact ⟨_,hsb⟩
  · rw [hS]; exact hst
theorem zFP {P:zE}{z:zK} (h:InP P z):(rdI P z).length ≤ 32:=by
  obtain ⟨d,hd⟩:=h.st;have:=kS 5 (stI P z).Value (zBD hd).2.1;unfold rdI;rw [lM]; omega
theorem touchedV {P:zE} (hb:BG P) (hv:validP P=true) {z:zK} (h:InP P z):qN P z=some (rdI P z,wrI P z):=by
  obtain ⟨d,hd⟩:=h.st;obtain ⟨s1,s2,s3⟩:=zBD hd;have hR:=zIV hb hv;have hrd:=implReads 5 (stI P z).Value s2 (by omega);have hrl:=kS 5 (stI P z).Value s2;have htl:=zJA P z (readsF 5 (stI P z).Value) (by omega) s3 h.pt hR _ 0 [] (Nat.zero_add _) rfl;rw [nZ,List.drop_zero,List.nil_append] at htl;have hw:=implCell P (stI P z).Write z.Point s1 h.pt hR;unfold qN mU;simp only [h.idxP,h.idxS,hrd,htl,hw,oB,oS,oP,id];rfl
def trcP (P:zE):vQ:=⟨P,progI P,(progI P).map (rdI P),(progI P).map (wrI P)⟩
theorem zKr {P:zE} (hb:BG P) (hv:validP P=true):∀ (j i:Nat) (rs:List (List Int)) (ws:List Int),i + j=(progI P).length→rs.length=i→ws.length=i→oQ P (progI P) (i:Int) rs ws=some (rs ++ ((progI P).drop i).map (rdI P),ws ++ ((progI P).drop i).map (wrI P)):=by
  have hlen:=(jQ hv).2.2.2;intro j
  induction j with
  | zero =>
    intro i rs ws hi hr hw;rw [oQ];have:¬((i:Int) < ((progI P).length:Int)):=by omega
    simp only [this,dF,bF,if_false,oP];rw [dN.2 (by omega),List.map_nil,List.map_nil,List.append_nil,List.append_nil]
  | succ j ih =>
    intro i rs ws hi hr hw;rw [oQ];have hlt:i < (progI P).length:=by omega
    have hc:((i:Int) < ((progI P).length:Int)):=by omega
    have hz:=fJ hb hv (gM hlt);simp only [hc,dT,if_true,yI hlt,touchedV hb hv hz,oB,oS,rG (show (rs.length + [rdI P (progI P)[i]].length) * 24 ≤ 140737488355328 by simp; omega),rG (show (ws.length + [wrI P (progI P)[i]].length) * 8 ≤ 140737488355328 by simp; omega)];rw [wF (by omega),ih (i + 1) _ _ (by omega) (by rw [lA]; simp; omega) (by rw [lA]; simp; omega),gC hlt,List.map_cons,List.map_cons,List.append_assoc,List.append_assoc];rfl
theorem implTrace (P:zE) (hb:BG P):fD P=some (if validP P then (some (trcP P),true) else (none,false)):=by
  unfold fD;rw [implInstances P hb];cases hv:validP P with
  | false =>
    unfold validP at hv;cases hp:progB P with
    | false=>rfl
    | true =>
      rw [hp,Bool.true_and] at hv;simp [hv]
  | true =>
    have hv':=hv;unfold validP at hv';rw [bA] at hv';have hl:=zKr hb hv _ 0 [] [] (Nat.zero_add _) rfl rfl;rw [nZ,List.drop_zero,List.nil_append,List.nil_append] at hl;simp only [hv'.1,hv'.2,if_true,oB,oS,bT,bF,if_false,hl,oP];rfl
def useI (P:zE) (z:zK):xH:=⟨rdI P z,wrI P z⟩
theorem zLl {P:zE} (hb:BG P) (hv:validP P=true):∀ (j i:Nat) (o:List xH),i + j=(progI P).length→o.length=i→tN P (progI P) o (i:Int)=some (o ++ ((progI P).drop i).map (useI P)):=by
  have hlen:=(jQ hv).2.2.2;have hR:=zIV hb hv;intro j
  induction j with
  | zero =>
    intro i o hi ho;rw [tN];have:¬((i:Int) < ((progI P).length:Int)):=by omega
    simp only [this,dF,bF,if_false,oP,id];rw [dN.2 (by omega),List.map_nil,List.append_nil]
  | succ j ih =>
    intro i o hi ho;rw [tN];have hlt:i < (progI P).length:=by omega
    have hc:((i:Int) < ((progI P).length:Int)):=by omega
    have hz:=fJ hb hv (gM hlt);obtain ⟨d,hd⟩:=hz.st;have hcl:=specCells P.Arrays (stI P (progI P)[i]) (progI P)[i].Point hd hz.bs hz.pt hR;rw [if_pos hz.ok] at hcl;simp only [hc,dT,if_true,yI hlt,hz.idxP,hz.idxS,hcl,oB,oS,rG (show (o.length + [xH.mk ((readsF 5 (stI P (progI P)[i]).Value).map (cellA P.Arrays (progI P)[i].Point)) (cellA P.Arrays (progI P)[i].Point (stI P (progI P)[i]).Write)].length) * 32 ≤ 140737488355328 by simp; omega)];rw [wF (by omega),ih (i + 1) _ (by omega) (by rw [lA]; simp; omega),gC hlt,List.map_cons,List.append_assoc];rfl
theorem specUses (P:zE) (hb:BG P) (hv:validP P=true):mR P=some ((progI P).map (useI P)):=by
  unfold mR;have hl:=zLl hb hv _ 0 [] (Nat.zero_add _) rfl;rw [nZ,List.drop_zero,List.nil_append] at hl;simp only [specInsts P hv,hl,oB,oS,oP,id]
end Go.LN
namespace Go.LN
def hasB (l:List Int) (n:Int):Bool:=l.any (fun x=>x == n)
theorem zJr (x:Int) (l:List Int) (n:Int):hasB (x::l) n=(x == n || hasB l n):=by unfold hasB; rw [List.any_cons]
def kindF (r1:List Int) (w1:Int) (r2:List Int) (w2:Int):Int:=(if hasB r2 w1 then 1 else 0) + (if hasB r1 w2 then 2 else 0) + (if w1 == w2 then 4 else 0)
theorem zJs (r1:List Int) (w1:Int) (r2:List Int) (w2:Int):0 ≤ kindF r1 w1 r2 w2∧kindF r1 w1 r2 w2 ≤ 7:=by
  unfold kindF;cases hasB r2 w1 <;> cases hasB r1 w2 <;> cases (w1 == w2) <;> simp
theorem zKs {R:Type}{r0:R}{n:Nat}{f:Int→Option (Out Unit R)}{P:Nat→Bool} (step:∀ i,i < n→f (i:Int)=if P i then some (.ret r0) else f ((i + 1:Nat):Int)) (fin:f (n:Int)=some (.done ())):f 0=some (if (List.range n).any P then .ret r0 else .done ()):=by
  have key:∀ (j i:Nat),i + j=n→f (i:Int)=some (if (List.range' i j).any P then .ret r0 else .done ()):=by
    intro j
    induction j with
    | zero=>intro i hi; rw [show i=n by omega,fin]; simp
    | succ j ih =>
      intro i hi;rw [step i (by omega),ih (i + 1) (by omega),List.range'_succ,List.any_cons];cases P i <;> rfl
  have:=key n 0 (Nat.zero_add _);rw [nZ] at this;rw [this,List.range_eq_range']
theorem zJt {α:Type} (l:List α) (P:α→Bool) (d:α):(List.range l.length).any (fun i=>P (l.getD i d))=l.any P:=by
  rw [Bool.eq_iff_iff,List.any_eq_true,List.any_eq_true];constructor
  · rintro ⟨i,hi,h⟩;have hi:=List.mem_range.1 hi;have hg:l.getD i d=l[i]:=by simp [hi]
    rw [hg] at h;exact ⟨_,gM hi,h⟩
  · rintro ⟨x,hx,h⟩;obtain ⟨i,hi,rfl⟩:=List.mem_iff_getElem.1 hx;exact ⟨i,List.mem_range.2 hi,by simpa [hi] using h⟩
end Go.LN
namespace Go.LN
theorem specHas (l:List Int) (n:Int) (hl:l.length ≤ 1048576):jV l n=some (hasB l n):=by
  unfold jV;have h:=zKs (R:=Bool) (r0:=true) (n:=l.length) (f:=oR l n) (P:=fun i=>l.getD i 0 == n) (fun i hi=>by
      rw [oR];have h1:((i:Int) < (l.length:Int)):=by omega
      have hg:l.getD i 0=l[i]:=by simp [hi]
      simp only [h1,dT,if_true,yI hi,oB,oS,oP,hg];rw [wF (by omega)]) (by rw [oR]; simp)
  rw [zJt l (fun x=>x == n) 0] at h;rw [h];unfold hasB;cases l.any fun x=>x == n <;> rfl
theorem zLm (l:List Int) (v:Int) (hl:l.length ≤ 1048576):∀ (j i:Nat),i + j=l.length→∃ x,vJ l v (i:Int)=some x∧((hasB (l.drop i) v=true∧∃ k:Nat,x=.ret (k:Int))∨(hasB (l.drop i) v=false∧x=.done ())):=by
  intro j
  induction j with
  | zero =>
    intro i hi;rw [vJ];have:¬((i:Int) < (l.length:Int)):=by omega
    refine ⟨_,by simp only [this,dF,bF,if_false,oP],.inr ⟨?_,rfl⟩⟩;rw [dN.2 (by omega)]; rfl
  | succ j ih =>
    intro i hi;rw [vJ];have hlt:i < l.length:=by omega
    have hc:((i:Int) < (l.length:Int)):=by omega
    rw [gC hlt,zJr];by_cases e:v=l[i]
    · refine ⟨_,by simp only [hc,dT,if_true,yI hlt,oB,oS,oP,e,bQ],.inl ⟨?_,i,rfl⟩⟩;rw [e,bQ,Bool.true_or]
    · have e1:(v == l[i])=false:=by simpa using e
      have e2:(l[i] == v)=false:=by simpa using fun h=>e h.symm
      obtain ⟨x,hx,hr⟩:=ih (i + 1) (by omega);refine ⟨x,?_,by rw [e2,Bool.false_or]; exact hr⟩;simp only [hc,dT,if_true,yI hlt,oB,oS,oP,e1,bF,if_false];rw [wF (by omega),hx]
theorem containsV (l:List Int) (v:Int) (hl:l.length ≤ 1048576):tA l v=some (hasB l v):=by
  unfold tA oZ;obtain ⟨x,hx,hr⟩:=zLm l v hl l.length 0 (Nat.zero_add _);rw [nZ] at hx;rw [List.drop_zero] at hr;rw [hx];rcases hr with ⟨h,k,rfl⟩ | ⟨h,rfl⟩
  · have:((k:Int) ≥ 0):=by omega
    simp [h,this]
  · rw [h]; rfl
def zIns (P:zE) (a:Nat):zK:=(progI P).getD a ⟨0,0,[]⟩
theorem zAT {P:zE}{a:Nat} (h:a < (progI P).length):zIns P a=(progI P)[a]:=by simp [zIns,h]
theorem zAM {P:zE}{a:Nat} (h:a < (progI P).length):zIns P a ∈ progI P:=by rw [zAT h]; exact gM h
theorem zIY {P:zE}{a:Nat} (h:a < (progI P).length):idx ((progI P).map (rdI P)) (a:Int)=some (rdI P (zIns P a)):=by rw [yI (by rw [lM]; exact h),zAT h]; simp
theorem zHB {P:zE}{a:Nat} (h:a < (progI P).length):idx ((progI P).map (wrI P)) (a:Int)=some (wrI P (zIns P a)):=by rw [yI (by rw [lM]; exact h),zAT h]; simp
theorem zJY {P:zE}{a:Nat} (h:a < (progI P).length):idx ((progI P).map (useI P)) (a:Int)=some (useI P (zIns P a)):=by rw [yI (by rw [lM]; exact h),zAT h]; simp
def kindI (P:zE) (a b:Nat):Int:=kindF (rdI P (zIns P a)) (wrI P (zIns P a)) (rdI P (zIns P b)) (wrI P (zIns P b))
theorem betweenV {P:zE} (hi:∀ z ∈ progI P,InP P z) {a b:Nat} (ha:a < (progI P).length) (hb:b < (progI P).length):qZ (trcP P) (a:Int) (b:Int)=some (kindI P a b):=by
  have l1:=zFP (hi _ (zAM ha));have l2:=zFP (hi _ (zAM hb));unfold qZ kindI kindF;simp only [trcP,zIY ha,zIY hb,zHB ha,zHB hb,containsV _ _ (show (rdI P (zIns P a)).length ≤ 1048576 by omega),containsV _ _ (show (rdI P (zIns P b)).length ≤ 1048576 by omega),oB,oS,oP,id];by_cases e:wrI P (zIns P a)=wrI P (zIns P b)
  · have e1:(wrI P (zIns P a) == wrI P (zIns P b))=true:=by simpa using e
    simp only [e1,if_true];cases hasB (rdI P (zIns P b)) (wrI P (zIns P a)) <;> cases hasB (rdI P (zIns P a)) (wrI P (zIns P b)) <;> rfl
  · have e1:(wrI P (zIns P a) == wrI P (zIns P b))=false:=by simpa using e
    simp only [e1,bF,if_false];cases hasB (rdI P (zIns P b)) (wrI P (zIns P a)) <;> cases hasB (rdI P (zIns P a)) (wrI P (zIns P b)) <;> rfl
theorem kindsV {P:zE} (hi:∀ z ∈ progI P,InP P z) {a b:Nat} (ha:a < (progI P).length) (hb:b < (progI P).length):jN (useI P (zIns P a)) (useI P (zIns P b))=some (kindI P a b):=by
  have l1:=zFP (hi _ (zAM ha));have l2:=zFP (hi _ (zAM hb));unfold jN kindI kindF;simp only [useI,specHas _ _ (show (rdI P (zIns P a)).length ≤ 1048576 by omega),specHas _ _ (show (rdI P (zIns P b)).length ≤ 1048576 by omega),oB,oS,oP,id];by_cases e:wrI P (zIns P a)=wrI P (zIns P b)
  · have e1:(wrI P (zIns P a) == wrI P (zIns P b))=true:=by simpa using e
    simp only [e1,if_true];cases hasB (rdI P (zIns P b)) (wrI P (zIns P a)) <;> cases hasB (rdI P (zIns P a)) (wrI P (zIns P b)) <;> rfl
  · have e1:(wrI P (zIns P a) == wrI P (zIns P b))=false:=by simpa using e
    simp only [e1,bF,if_false];cases hasB (rdI P (zIns P b)) (wrI P (zIns P a)) <;> cases hasB (rdI P (zIns P a)) (wrI P (zIns P b)) <;> rfl
end Go.LN
namespace Go.LN
def dep1 (P:zE) (i q:Nat):List yC:=if kindI P i q == 0 then [] else [⟨(i:Int),(q:Int),kindI P i q⟩]
def depR (P:zE) (i k j:Nat):List yC:=(List.range' k j).flatMap fun q=>dep1 P i q
def depA (P:zE) (i j:Nat):List yC:=(List.range' i j).flatMap fun q=>depR P q (q + 1) ((progI P).length - (q + 1))
theorem zE3 (P:zE) (i k j:Nat):depR P i k (j + 1)=dep1 P i k ++ depR P i (k + 1) j:=by unfold depR; rw [List.range'_succ,List.flatMap_cons]
theorem zE4 (P:zE) (i j:Nat):depA P i (j + 1)=depR P i (i + 1) ((progI P).length - (i + 1)) ++ depA P (i + 1) j:=by unfold depA; rw [List.range'_succ,List.flatMap_cons]
theorem zKt (P:zE) (i q:Nat):(dep1 P i q).length ≤ 1:=by unfold dep1; split <;> simp
theorem zDl (P:zE) (i:Nat):∀ (j k:Nat),(depR P i k j).length ≤ j
  | 0,k=>by simp [depR]
  | j + 1,k=>by
    have h1:=zKt P i k
    have h2:=zDl P i j (k + 1)
    rw [zE3,lA]; omega
theorem zIZ (P:zE):∀ (j i:Nat),(depA P i j).length ≤ j * (progI P).length
  | 0,i=>by simp [depA]
  | j + 1,i=>by
    have h1:=zDl P i ((progI P).length - (i + 1)) (i + 1)
    have h2:=zIZ P j (i + 1)
    rw [zE4,lA,Nat.add_mul,Nat.one_mul]; omega
theorem zJu (P:zE) (a b:Nat):0 ≤ kindI P a b∧kindI P a b ≤ 7:=zJs _ _ _ _
theorem zLn {P:zE} (hi:∀ z ∈ progI P,InP P z) (hlen:(progI P).length ≤ 120) (i:Nat) (hin:i < (progI P).length):∀ (j k:Nat) (o:List yC),k + j=(progI P).length→o.length + j ≤ 1000000→tU (trcP P) (i:Int) o (k:Int)=some (o ++ depR P i k j):=by
  intro j
  induction j with
  | zero =>
    intro k o hk ho;rw [tU];have:¬((k:Int) < ((trcP P).list.length:Int)):=by show ¬((k:Int) < ((progI P).length:Int)); omega
    simp only [this,dF,bF,if_false,oP,id];simp [depR]
  | succ j ih =>
    intro k o hk ho;rw [tU,zE3];have hlt:k < (progI P).length:=by omega
    have hc:((k:Int) < ((trcP P).list.length:Int)):=by show ((k:Int) < ((progI P).length:Int)); omega
    have hr:=zJu P i k;simp only [hc,dT,if_true,betweenV hi hin hlt,oB,oS,oP,id,rG (show (o.length + [yC.mk (i:Int) (k:Int) (kindI P i k)].length) * 24 ≤ 140737488355328 by simp; omega)];rw [wF (by omega)];unfold dep1;by_cases h0:kindI P i k=0
    · have e1:¬(kindI P i k > 0):=by omega
      have e2:(kindI P i k == 0)=true:=by simpa using h0
      simp only [e1,e2,dF,bF,if_false,if_true,oS,List.nil_append];exact ih (k + 1) o (by omega) (by omega)
    · have e1:kindI P i k > 0:=by omega
      have e2:¬((kindI P i k == 0)=true):=by simpa using h0
      simp only [e1,dT,if_true,oS];rw [if_neg e2,ih (k + 1) _ (by omega) (by rw [lA]; simp; omega),List.append_assoc]
theorem zLo {P:zE} (hi:∀ z ∈ progI P,InP P z) (hlen:(progI P).length ≤ 120):∀ (j i:Nat) (o:List yC),i + j=(progI P).length→o.length ≤ 120 * i→tV (trcP P) o (i:Int)=some (o ++ depA P i j):=by
  intro j
  induction j with
  | zero =>
    intro i o hij ho;rw [tV];have:¬((i:Int) < ((trcP P).list.length:Int)):=by show ¬((i:Int) < ((progI P).length:Int)); omega
    simp only [this,dF,bF,if_false,oP,id];simp [depA]
  | succ j ih =>
    intro i o hij ho;rw [tV,zE4];have hlt:i < (progI P).length:=by omega
    have hc:((i:Int) < ((trcP P).list.length:Int)):=by show ((i:Int) < ((progI P).length:Int)); omega
    have hl:=zDl P i ((progI P).length - (i + 1)) (i + 1);have h2:=zLn hi hlen i hlt ((progI P).length - (i + 1)) (i + 1) o (by omega) (by omega);simp only [hc,dT,if_true,wF (show i < 9223372036854775807 by omega),h2,oB,oS];rw [ih (i + 1) _ (by omega) (by rw [lA]; omega),List.append_assoc]
theorem zKu {P:zE} (hi:∀ z ∈ progI P,InP P z) (hlen:(progI P).length ≤ 120) (i:Nat) (hin:i < (progI P).length):∀ (j k:Nat) (o:List yC),k + j=(progI P).length→o.length + j ≤ 1000000→pS ((progI P).map (useI P)) (i:Int) o (k:Int)=some (o ++ depR P i k j):=by
  intro j
  induction j with
  | zero =>
    intro k o hk ho;rw [pS];have:¬((k:Int) < (((progI P).map (useI P)).length:Int)):=by rw [lM]; omega
    simp only [this,dF,bF,if_false,oP,id];simp [depR]
  | succ j ih =>
    intro k o hk ho;rw [pS,zE3];have hlt:k < (progI P).length:=by omega
    have hc:((k:Int) < (((progI P).map (useI P)).length:Int)):=by rw [lM]; omega
    simp only [hc,dT,if_true,zJY hin,zJY hlt,kindsV hi hin hlt,oB,oS,oP,id,rG (show (o.length + [yC.mk (i:Int) (k:Int) (kindI P i k)].length) * 24 ≤ 140737488355328 by simp; omega)];rw [wF (by omega)];unfold dep1;by_cases h0:kindI P i k=0
    · have e1:(kindI P i k != 0)=false:=by simpa using h0
      have e2:(kindI P i k == 0)=true:=by simpa using h0
      simp only [e1,e2,bF,if_false,if_true,oS,List.nil_append];exact ih (k + 1) o (by omega) (by omega)
    · have e1:(kindI P i k != 0)=true:=by simpa using h0
      have e2:¬((kindI P i k == 0)=true):=by simpa using h0
      simp only [e1,if_true,oS];rw [if_neg e2,ih (k + 1) _ (by omega) (by rw [lA]; simp; omega),List.append_assoc]
theorem zKv {P:zE} (hi:∀ z ∈ progI P,InP P z) (hlen:(progI P).length ≤ 120):∀ (j i:Nat) (o:List yC),i + j=(progI P).length→o.length ≤ 120 * i→pT ((progI P).map (useI P)) o (i:Int)=some (o ++ depA P i j):=by
  intro j
  induction j with
  | zero =>
    intro i o hij ho;rw [pT];have:¬((i:Int) < (((progI P).map (useI P)).length:Int)):=by rw [lM]; omega
    simp only [this,dF,bF,if_false,oP,id];simp [depA]
  | succ j ih =>
    intro i o hij ho;rw [pT,zE4];have hlt:i < (progI P).length:=by omega
    have hc:((i:Int) < (((progI P).map (useI P)).length:Int)):=by rw [lM]; omega
    have hl:=zDl P i ((progI P).length - (i + 1)) (i + 1);have h2:=zKu hi hlen i hlt ((progI P).length - (i + 1)) (i + 1) o (by omega) (by omega);simp only [hc,dT,if_true,wF (show i < 9223372036854775807 by omega),h2,oB,oS];rw [ih (i + 1) _ (by omega) (by rw [lA]; omega),List.append_assoc]
def dpF (P:zE):List yC:=if validP P then depA P 0 (progI P).length else []
theorem zH4 {P:zE}:(dpF P).length ≤ 14400:=by
  unfold dpF;split
  · rename_i hv;have hlen:=(jQ hv).2.2.2;have:=zIZ P (progI P).length 0;have h2:(progI P).length * (progI P).length ≤ 120 * 120:=Nat.mul_le_mul hlen hlen;omega
  · simp
end Go.LN
namespace Go.LN
structure Kn where
  k:Nat→Nat→Int
  n:Nat
def dq1 (P:Kn) (i q:Nat):List yC:=if P.k i q == 0 then [] else [⟨(i:Int),(q:Int),P.k i q⟩]
def dqR (P:Kn) (i k j:Nat):List yC:=(List.range' k j).flatMap fun q=>dq1 P i q
def dqA (P:Kn) (i j:Nat):List yC:=(List.range' i j).flatMap fun q=>dqR P q (q + 1) (P.n - (q + 1))
theorem zM4 {P:Kn}{d:yC} (h:d ∈ dqA P 0 P.n):∃ i k:Nat,d=⟨(i:Int),(k:Int),P.k i k⟩∧i < k∧k < P.n∧P.k i k ≠ 0:=by
  unfold dqA at h;obtain ⟨i,hi,h⟩:=List.mem_flatMap.1 h;unfold dqR at h;obtain ⟨k,hk,h⟩:=List.mem_flatMap.1 h;have hi:=List.mem_range'_1.1 hi;have hk:=List.mem_range'_1.1 hk;unfold dq1 at h;split at h
  · cases h
  · rename_i h0;exact ⟨i,k,List.mem_singleton.1 h,by omega,by omega,by simpa using h0⟩
def kn (P:zE):Kn:=⟨kindI P,(progI P).length⟩
theorem zLp {P:zE}{d:yC} (h:d ∈ depA P 0 (progI P).length):∃ i k:Nat,d=⟨(i:Int),(k:Int),kindI P i k⟩∧i < k∧k < (progI P).length∧kindI P i k ≠ 0:=zM4 (P:=kn P) h
theorem specDeps6 (P:zE) (hb:BG P) (hv:validP P=true):gK P=some (depA P 0 (progI P).length):=by
  have hlen:=(jQ hv).2.2.2;have hi:∀ z ∈ progI P,InP P z:=fun z hz=>fJ hb hv hz;have hl:=zKv hi hlen _ 0 [] (Nat.zero_add _) (by simp);rw [nZ,List.nil_append] at hl;simp only [gK,specUses P hb hv,hl,oB,oS,oP,id]
end Go.LN
namespace Go.LN
theorem zM5 {a b x:List Int} (h:ltL a b=true) (h2:ltL x b=false):ltL a x=true:=by
  cases h3:ltL a x with
  | true=>rfl
  | false=>rw [Go.Sort.SWO.ntrans swoL a x b h3 h2] at h; cases h
theorem zKw {a b:List Int} (h:ltL b a=false) (hne:a ≠ b):ltL a b=true:=by
  cases h3:ltL a b with
  | true=>rfl
  | false=>exact absurd (zK2 a b h3 h) hne
theorem zJB {a b:List Int} (h:ltL a b=true):ltL b a=false:=by
  cases h3:ltL b a with
  | false=>rfl
  | true =>
    have:=Go.Sort.SWO.trans swoL a b a h h3;rw [Go.Sort.SWO.irrefl swoL a] at this; cases this
theorem zH5 (a:List Int):ltL a a=false:=Go.Sort.SWO.irrefl swoL a
theorem zM6 {a b c:List Int} (h:ltL a b=true) (h2:ltL b c=true):ltL a c=true:=Go.Sort.SWO.trans swoL a b c h h2
def uniqL:List (List Int)→List (List Int)
  | a::b::l=>if a=b then uniqL (b::l) else a::uniqL (b::l)
  | [a]=>[a]
  | []=>[]
theorem zAi:∀ {l:List (List Int)}{x:List Int},x ∈ uniqL l ↔ x ∈ l
  | [],x=>Iff.rfl
  | [a],x=>Iff.rfl
  | a::b::l,x=>by
    rw [uniqL]
    by_cases h:a=b
    · rw [if_pos h,zAi,h]; simp
    · rw [if_neg h,List.mem_cons,zAi,List.mem_cons]; simp
theorem zBF:∀ {l:List (List Int)},l.Pairwise (fun a b=>ltL b a=false)→(uniqL l).Pairwise fun a b=>ltL a b=true
  | [],_=>List.Pairwise.nil
  | [a],_=>List.pairwise_singleton ..
  | a::b::l,h=>by
    have h2:=List.pairwise_cons.1 h
    rw [uniqL]
    by_cases e:a=b
    · rw [if_pos e]; exact zBF h2.2
    · rw [if_neg e]
      refine List.pairwise_cons.2 ⟨fun x hx=>?_,zBF h2.2⟩
      have hab:=zKw (h2.1 b (List.mem_cons_self ..)) e
      rcases List.mem_cons.1 (zAi.1 hx) with rfl | hx
      · exact hab
      · exact zM5 hab ((List.pairwise_cons.1 h2.2).1 x hx)
theorem zI0:∀ l:List (List Int),(uniqL l).length ≤ l.length
  | []=>Nat.le_refl _
  | [a]=>Nat.le_refl _
  | a::b::l=>by
    have:=zI0 (b::l)
    rw [uniqL]
    split
    · exact Nat.le_succ_of_le this
    · exact Nat.succ_le_succ this
theorem zE5:∀ (l:List (List Int)) (y x:List Int),uniqL (l ++ [y] ++ [x])=if y=x then uniqL (l ++ [y]) else uniqL (l ++ [y]) ++ [x]
  | [],y,x=>by
    show (if y=x then uniqL [x] else y::uniqL [x])=_
    by_cases h:y=x
    · rw [if_pos h,if_pos h,h]; rfl
    · rw [if_neg h,if_neg h]; rfl
  | [a],y,x=>by
    show (if a=y then uniqL ([] ++ [y] ++ [x]) else a::uniqL ([] ++ [y] ++ [x]))=if y=x then (if a=y then uniqL [y] else a::uniqL [y]) else (if a=y then uniqL [y] else a::uniqL [y]) ++ [x]
    rw [zE5 [] y x]
    by_cases h:a=y <;> by_cases h2:y=x <;> simp [h,h2]
  | a::b::l,y,x=>by
    show (if a=b then uniqL ((b::l) ++ [y] ++ [x]) else a::uniqL ((b::l) ++ [y] ++ [x]))=if y=x then (if a=b then uniqL ((b::l) ++ [y]) else a::uniqL ((b::l) ++ [y])) else (if a=b then uniqL ((b::l) ++ [y]) else a::uniqL ((b::l) ++ [y])) ++ [x]
    rw [zE5 (b::l) y x]
    by_cases h:a=b <;> by_cases h2:y=x <;> simp [h,h2]
theorem zHC {s:List (List Int)}{n:Nat} (h0:0 < n) (h:n < s.length):uniqL (s.take (n + 1))=if s[n - 1]'(by omega)=s[n] then uniqL (s.take n) else uniqL (s.take n) ++ [s[n]]:=by
  obtain ⟨k,rfl⟩:∃ k,n=k + 1:=⟨n - 1,by omega⟩;have e1:s.take (k + 1 + 1)=s.take k ++ [s[k]'(by omega)] ++ [s[k + 1]]:=by
    rw [List.take_add_one,List.getElem?_eq_getElem h,List.take_add_one,List.getElem?_eq_getElem (show k < s.length by omega)]; rfl
  have e2:s.take (k + 1)=s.take k ++ [s[k]'(by omega)]:=by
    rw [List.take_add_one,List.getElem?_eq_getElem (show k < s.length by omega)]; rfl
  rw [e1,e2,zE5]; rfl
theorem zKx (l:List (List Int)):(srtL l).Pairwise fun a b=>ltL b a=false:=by
  have h:=List.pairwise_mergeSort (le:=fun a b=>!ltL b a) (fun a b c h1 h2=>by
    simp only [Bool.not_eq_true'] at *;exact Go.Sort.SWO.ntrans swoL c b a h2 h1) (fun a b=>by
    cases h1:ltL b a with
    | false=>rfl
    | true=>simp [zJB h1]) l
  exact h.imp fun h=>by simpa using h
theorem zH6 {l:List (List Int)}{x:List Int}:x ∈ srtL l ↔ x ∈ l:=List.mem_mergeSort
theorem zJZ (l:List (List Int)):(srtL l).length=l.length:=List.length_mergeSort l
theorem zGP:∀ {l m:List (List Int)},l.Pairwise (fun a b=>ltL a b=true)→m.Pairwise (fun a b=>ltL a b=true)→(∀ x,x ∈ l ↔ x ∈ m)→l=m
  | [],[],_,_,_=>rfl
  | [],b::m,_,_,h=>absurd ((h b).2 (List.mem_cons_self ..)) (by simp)
  | a::l,[],_,_,h=>absurd ((h a).1 (List.mem_cons_self ..)) (by simp)
  | a::l,b::m,h1,h2,h=>by
    have p1:=List.pairwise_cons.1 h1
    have p2:=List.pairwise_cons.1 h2
    have e:a=b:=by
      rcases List.mem_cons.1 ((h a).1 (List.mem_cons_self ..)) with e | ha
      · exact e
      · rcases List.mem_cons.1 ((h b).2 (List.mem_cons_self ..)) with e | hb
        · exact e.symm
        · have k1:=p2.1 a ha
          have k2:=zJB (p1.1 b hb)
          rw [k1] at k2; cases k2
    subst e
    have:=zGP p1.2 p2.2 fun x=>by
      have hx:=h x
      rw [List.mem_cons,List.mem_cons] at hx
      constructor
      · intro hl
        rcases hx.1 (.inr hl) with e | e
        · subst e; have:=p1.1 x hl; rw [zH5] at this; cases this
        · exact e
      · intro hl
        rcases hx.2 (.inr hl) with e | e
        · subst e; have:=p2.1 x hl; rw [zH5] at this; cases this
        · exact e
    rw [this]
def insB (d:List Int):List (List Int)→List (List Int)
  | []=>[d]
  | x::l=>if ltL d x then d::x::l else x::insB d l
def addF (l:List (List Int)) (d:List Int):List (List Int):=if d ∈ l then l else insB d l
theorem zDm {d:List Int}:∀ {l:List (List Int)}{x:List Int},x ∈ insB d l ↔ x=d∨x ∈ l
  | [],x=>by simp [insB]
  | y::l,x=>by
    rw [insB]
    split
    · simp
    · rw [List.mem_cons,zDm,List.mem_cons]
      constructor
      · rintro (h | h | h)
        · exact .inr (.inl h)
        · exact .inl h
        · exact .inr (.inr h)
      · rintro (h | h | h)
        · exact .inr (.inl h)
        · exact .inl h
        · exact .inr (.inr h)
theorem zEd {d:List Int}:∀ {l:List (List Int)},l.Pairwise (fun a b=>ltL a b=true)→d ∉ l→(insB d l).Pairwise fun a b=>ltL a b=true
  | [],_,_=>List.pairwise_singleton ..
  | y::l,h,hd=>by
    have p:=List.pairwise_cons.1 h
    rw [insB]
    by_cases c:ltL d y=true
    · rw [if_pos c]
      refine List.pairwise_cons.2 ⟨fun x hx=>?_,h⟩
      rcases List.mem_cons.1 hx with rfl | hx
      · exact c
      · exact zM6 c (p.1 x hx)
    · rw [if_neg c]
      have c:ltL d y=false:=by simpa using c
      refine List.pairwise_cons.2 ⟨fun x hx=>?_,zEd p.2 fun h=>hd (List.mem_cons_of_mem _ h)⟩
      rcases zDm.1 hx with rfl | hx
      · exact zKw c fun e=>hd (by rw [← e]; exact List.mem_cons_self ..)
      · exact p.1 x hx
theorem zI1 (d:List Int):∀ l:List (List Int),(insB d l).length=l.length + 1
  | []=>rfl
  | y::l=>by
    rw [insB]
    split
    · rfl
    · rw [List.length_cons,zI1 d l]; rfl
theorem zKy (l:List (List Int)) (d:List Int):(addF l d).length ≤ l.length + 1:=by
  unfold addF;split
  · omega
  · rw [zI1]; exact Nat.le_refl _
theorem zI2:∀ (v l:List (List Int)),l.Pairwise (fun a b=>ltL a b=true)→(v.foldl addF l).Pairwise (fun a b=>ltL a b=true)∧∀ x,x ∈ v.foldl addF l ↔ x ∈ l∨x ∈ v
  | [],l,h=>⟨h,fun x=>by simp⟩
  | d::v,l,h=>by
    have h2:(addF l d).Pairwise (fun a b=>ltL a b=true)∧∀ x,x ∈ addF l d ↔ x ∈ l∨x=d:=by
      unfold addF
      by_cases c:d ∈ l
      · rw [if_pos c]
        exact ⟨h,fun x=>⟨.inl,fun h=>by
          rcases h with h | rfl
          · exact h
          · exact c⟩⟩
      · rw [if_neg c]
        exact ⟨zEd h c,fun x=>by rw [zDm]; exact or_comm⟩
    have h3:=zI2 v (addF l d) h2.1
    refine ⟨h3.1,fun x=>?_⟩
    rw [List.foldl_cons,h3.2 x,h2.2 x,List.mem_cons,or_assoc]
theorem zJv (v:List (List Int)):v.foldl addF []=uniqL (srtL v):=by
  have h:=zI2 v [] List.Pairwise.nil;refine zGP h.1 (zBF (zKx v)) fun x=>?_;rw [h.2 x,zAi,zH6];simp
theorem zGQ:uniqL (srtL [])=[]:=by unfold srtL; rw [List.mergeSort_nil]; rfl
def insC (d:List Int):Bool→List (List Int)→List (List Int)×Bool
  | b,[]=>([],b)
  | true,x::l=>(x::(insC d true l).1,(insC d true l).2)
  | false,x::l=>if ltL d x then (d::x::(insC d true l).1,(insC d true l).2) else (x::(insC d false l).1,(insC d false l).2)
theorem zBr (d:List Int):∀ l,insC d true l=(l,true)
  | []=>rfl
  | x::l=>by rw [insC,zBr d l]
theorem zGR (d:List Int):∀ l,(if (insC d false l).2 then (insC d false l).1 else (insC d false l).1 ++ [d])=insB d l
  | []=>rfl
  | x::l=>by
    rw [insC,insB]
    by_cases c:ltL d x=true
    · rw [if_pos c,if_pos c,zBr]; rfl
    · rw [if_neg c,if_neg c,← zGR d l]
      cases (insC d false l).2 <;> rfl
theorem zI3 (d:List Int):∀ b l,(insC d b l).1.length ≤ l.length + 1
  | b,[]=>by cases b <;> simp [insC]
  | true,x::l=>by rw [zBr]; exact Nat.le_succ _
  | false,x::l=>by
    have:=zI3 d false l
    rw [insC]
    split
    · rw [zBr]; simp
    · simp; omega
end Go.LN
namespace Go.LN
def eqR:List Int→List Int→Bool
  | [],[]=>true
  | x::a,y::b=>(x == y) && eqR a b
  | _,_=>false
theorem zH7:∀ a b:List Int,eqR a b=decide (a=b)
  | [],[]=>rfl
  | [],_::_=>by simp [eqR]
  | _::_,[]=>by simp [eqR]
  | x::a,y::b=>by
    rw [eqR,zH7 a b]
    by_cases h:x=y <;> simp [h]
theorem zI4 {a b:List Int}{f:Int→Option (Out Unit Bool)} (hl:a.length=b.length) (step:∀ (i:Nat) (h1:i < a.length) (h2:i < b.length),f (i:Int)=if a[i]=b[i] then f ((i + 1:Nat):Int) else some (.ret false)) (fin:f (a.length:Int)=some (.done ())):f 0=some (if eqR a b then .done () else .ret false):=by
  have key:∀ (j i:Nat),i + j=a.length→f (i:Int)=some (if eqR (a.drop i) (b.drop i) then .done () else .ret false):=by
    intro j
    induction j with
    | zero =>
      intro i hi;rw [show i=a.length by omega,fin,dN.2 (Nat.le_refl a.length),dN.2 (show b.length ≤ a.length by omega)]; rfl
    | succ j ih =>
      intro i hi;have h1:i < a.length:=by omega
      have h2:i < b.length:=by omega
      rw [step i h1 h2,ih (i + 1) (by omega),gC h1,gC h2,eqR];by_cases e:a[i]=b[i] <;> simp [e]
  have:=key a.length 0 (Nat.zero_add _);rwa [nZ,List.drop_zero,List.drop_zero] at this
theorem implEqR (a b:List Int) (h:a.length ≤ 1048576):sP a b=some (decide (a=b)):=by
  unfold sP;by_cases hl:a.length=b.length
  · have hf:=zI4 hl (f:=vK a b) (fun i h1 h2=>by
      rw [vK];have c:((i:Int) < (a.length:Int)):=by omega
      simp only [c,dT,if_true,yI h1,yI h2,oB,oS,oP];rw [wF (by omega)];by_cases e:a[i]=b[i]
      · simp [e]
      · simp [e]) (by rw [vK]; simp)
    have e:((a.length:Int) != (b.length:Int))=false:=by simp [hl]
    rw [hf,e,zH7];by_cases h:a=b <;> simp [h]
  · have e:((a.length:Int) != (b.length:Int))=true:=by simp; omega
    have hne:a ≠ b:=fun h=>hl (by rw [h]);rw [e];simp [hne]
theorem specEqR (a b:List Int) (h:a.length ≤ 1048576):gL a b=some (decide (a=b)):=by
  unfold gL;by_cases hl:a.length=b.length
  · have hf:=zI4 hl (f:=pU a b) (fun i h1 h2=>by
      rw [pU];have c:((i:Int) < (a.length:Int)):=by omega
      simp only [c,dT,if_true,yI h1,yI h2,oB,oS,oP];rw [wF (by omega)];by_cases e:a[i]=b[i]
      · simp [e]
      · simp [e]) (by rw [pU]; simp)
    have e:((a.length:Int) != (b.length:Int))=false:=by simp [hl]
    rw [hf,e,zH7];by_cases h:a=b <;> simp [h]
  · have e:((a.length:Int) != (b.length:Int))=true:=by simp; omega
    have hne:a ≠ b:=fun h=>hl (by rw [h]);rw [e];simp [hne]
theorem zKz {k:Nat} (h1:1 ≤ k) (h:k ≤ 1000000):W ((k:Int) - 1)=((k - 1:Nat):Int):=by rw [rC (by omega) (by omega)]; omega
theorem zI5 {α:Type}{a b:List α}{n i:Nat} (h:a.drop n=b.drop n) (hi:n ≤ i) (ha:i < a.length) (hb:i < b.length):a[i]=b[i]:=by
  have e:(a.drop n)[i - n]?=(b.drop n)[i - n]?:=by rw [h]
  rw [List.getElem?_drop,List.getElem?_drop,show n + (i - n)=i by omega,List.getElem?_eq_getElem ha,List.getElem?_eq_getElem hb] at e;exact Option.some.inj e
theorem zM7 {s:List (List Int)}{k0:Nat} (hk0:1 ≤ k0) (hk:k0 < s.length) (hl:s.length ≤ 1000000) (hb:∀ l ∈ s,l.length ≤ 1048576):∀ (j k2:Nat) (s3:List (List Int)) (k1:Nat),k2 + j=s.length - k0→1 ≤ k2→k1 + 1 ≤ k0 + k2→s3.length=s.length→s3.drop (k0 + k2 - 1)=s.drop (k0 + k2 - 1)→s3.take k1=uniqL (s.take (k0 + k2)) →
    ∃ (s4:List (List Int)) (k4:Nat),xO (k0:Int) (s.drop k0) s3 (k1:Int) (k2:Int)=some (s4,(k4:Int))∧k4 ≤ s4.length∧s4.take k4=uniqL s∧s4.length=s.length:=by
  intro j
  induction j with
  | zero =>
    intro k2 s3 k1 hj h1 h2 h3 h4 h5
    refine ⟨s3,k1,?_,by omega,?_,h3⟩
    · rw [xO]
      have:¬((k2:Int) < ((s.drop k0).length:Int)):=by rw [List.length_drop]; omega
      simp only [this,dF,bF,if_false,oP]
    · rw [h5,show k0 + k2=s.length by omega,List.take_length]
  | succ j ih =>
    intro k2 s3 k1 hj h1 h2 h3 h4 h5
    have hc:((k2:Int) < ((s.drop k0).length:Int)):=by rw [List.length_drop]; omega
    have hn:k0 + k2 < s.length:=by omega
    have i1:idx (s.drop k0) (k2:Int)=some ((s.drop k0)[k2]'(by rw [List.length_drop]; omega)):=yI _
    have i2:idx (s.drop k0) ((k2 - 1:Nat):Int)=some ((s.drop k0)[k2 - 1]'(by rw [List.length_drop]; omega)):=yI _
    have e1:s3[k0 + k2]'(by omega)=s[k0 + k2]:=zI5 h4 (by omega) (by omega) hn
    have e2:s3[k0 + k2 - 1]'(by omega)=s[k0 + k2 - 1]'(by omega):=zI5 h4 (Nat.le_refl _) (by omega) (by omega)
    have i3:idx s3 ((k0:Int) + (k2:Int))=some s[k0 + k2]:=by
      rw [show (k0:Int) + (k2:Int)=((k0 + k2:Nat):Int) by omega,yI (by omega),e1]
    have i4:idx s3 ((k0:Int) + ((k2 - 1:Nat):Int))=some (s[k0 + k2 - 1]'(by omega)):=by
      rw [show (k0:Int) + ((k2 - 1:Nat):Int)=((k0 + k2 - 1:Nat):Int) by omega,yI (by omega),e2]
    have i5:idx s3 (k1:Int)=some (s3[k1]'(by omega)):=yI _
    have hq:=implEqR s[k0 + k2] (s[k0 + k2 - 1]'(by omega)) (hb _ (gM hn))
    have hu:=zHC (s:=s) (n:=k0 + k2) (by omega) hn
    have hd2:s3.drop (k0 + k2)=s.drop (k0 + k2):=by
      have:(s3.drop (k0 + k2 - 1)).drop 1=(s.drop (k0 + k2 - 1)).drop 1:=by rw [h4]
      rwa [List.drop_drop,List.drop_drop,show k0 + k2 - 1 + 1=k0 + k2 by omega] at this
    rw [xO]
    simp only [hc,dT,if_true,i1,i3,zKz h1 (show k2 ≤ 1000000 by omega),i2,i4,i5,hq,oB,oS,oP,iN]
    by_cases e:s[k0 + k2]=s[k0 + k2 - 1]'(by omega)
    · simp only [e,dT,bT,bF,if_false,oS]
      rw [wF (by omega)]
      exact ih (k2 + 1) s3 k1 (by omega) (by omega) (by omega) h3 (by rw [show k0 + (k2 + 1) - 1=k0 + k2 by omega]; exact hd2) (by
        rw [show k0 + (k2 + 1)=k0 + k2 + 1 by omega,hu,if_pos e.symm]; exact h5)
    · simp only [e,dF,Bool.not_false,if_true,oS]
      rw [wF (show k1 < 9223372036854775807 by omega),wF (show k2 < 9223372036854775807 by omega)]
      exact ih (k2 + 1) (s3.set k1 s[k0 + k2]) (k1 + 1) (by omega) (by omega) (by omega) (by rw [List.length_set]; exact h3)
        (by rw [show k0 + (k2 + 1) - 1=k0 + k2 by omega,List.drop_set_of_lt (by omega)]; exact hd2) (by
        rw [show k0 + (k2 + 1)=k0 + k2 + 1 by omega,hu,if_neg (fun h=>e h.symm),← h5,List.take_add_one,List.getElem?_set_self (by omega),List.take_set_of_le (Nat.le_refl _)]; rfl)
theorem zM8 {s:List (List Int)} (hl:s.length ≤ 1000000) (hb:∀ l ∈ s,l.length ≤ 1048576):∀ (j k:Nat),k + j=s.length→1 ≤ k→uniqL (s.take k)=s.take k →
    xP s (k:Int)=some (.ret (uniqL s))∨(xP s (k:Int)=some (.done s)∧uniqL s=s):=by
  intro j
  induction j with
  | zero =>
    intro k hj h1 h2
    refine .inr ⟨?_,?_⟩
    · rw [xP]
      have:¬((k:Int) < (s.length:Int)):=by omega
      simp only [this,dF,bF,if_false,oP]
    · rw [show k=s.length by omega,List.take_length] at h2; exact h2
  | succ j ih =>
    intro k hj h1 h2
    have hn:k < s.length:=by omega
    have hc:((k:Int) < (s.length:Int)):=by omega
    have i4:idx s ((k - 1:Nat):Int)=some (s[k - 1]'(by omega)):=yI _
    have hq:=implEqR s[k] (s[k - 1]'(by omega)) (hb _ (gM hn))
    have hu:=zHC (s:=s) (n:=k) (by omega) hn
    rw [xP]
    simp only [hc,dT,if_true,yI hn,zKz h1 (show k ≤ 1000000 by omega),i4,hq,oB,oS,oP]
    by_cases e:s[k]=s[k - 1]'(by omega)
    · have es:slc s (k:Int) (s.length:Int)=some (s.drop k):=by
        unfold slc
        rw [if_pos ⟨by omega,by omega,by omega⟩,iN,iN,List.take_length]
      obtain ⟨s4,k4,g1,g2,g3,g4⟩:=zM7 h1 hn hl hb _ 1 s k (Nat.add_sub_cancel' (by omega)) (Nat.le_refl _) (by omega) rfl rfl (by rw [hu,if_pos e.symm,h2])
      have g1:xO (k:Int) (s.drop k) s (k:Int) 1=some (s4,(k4:Int)):=g1
      have ec:clrL s4 (k4:Int) ([]:List Int)=some (s4.take k4 ++ List.replicate (s4.length - k4) []):=by
        unfold clrL
        rw [if_pos ⟨by omega,by omega⟩]; rfl
      have e3:slc (s4.take k4 ++ List.replicate (s4.length - k4) ([]:List Int)) 0 (k4:Int)=some (s4.take k4):=by
        unfold slc
        rw [if_pos ⟨by omega,by omega,by simp; omega⟩,iN,List.take_append_of_le_length (by rw [List.length_take]; omega),List.take_take,Nat.min_self]; rfl
      refine .inl ?_
      simp only [e,dT,if_true,es,g1,ec,e3,oS]
      rw [g3]
    · have h3:uniqL (s.take (k + 1))=s.take (k + 1):=by
        rw [hu,if_neg (fun h=>e h.symm),h2,List.take_add_one,List.getElem?_eq_getElem hn]; rfl
      simp only [e,dF,bF,if_false]
      rw [wF (by omega)]
      exact ih (k + 1) (by omega) (by omega) h3
theorem compactV {s:List (List Int)} (hl:s.length ≤ 1000000) (hb:∀ l ∈ s,l.length ≤ 1048576):vO s=some (uniqL s):=by
  unfold vO;by_cases h:(s.length:Int) < 2
  · simp only [h,dT,if_true,oP,id];refine congrArg some ?_
    match s,h with
    | [],_=>rfl
    | [a],_=>rfl
    | a::b::l,h=>simp at h; omega
  · have h1:uniqL (s.take 1)=s.take 1:=by
      match s,h with
      | [],h=>rfl
      | a::l,_=>rfl
    have hm:=zM8 hl hb _ 1 (Nat.add_sub_cancel' (show 1 ≤ s.length by omega)) (Nat.le_refl _) h1;rw [show ((1:Nat):Int)=1 from rfl] at hm;simp only [h,dF,bF,if_false];rcases hm with hm | ⟨hm,hu⟩
    · simp only [hm,oB,oS,oP]
    · simp only [hm,hu,oB,oS,oP,id]
def minV (a b:List Int):List Int:=List.zipWith (fun x y=>W (x - y)) a b
def inPt (P:zE) (part:Int) (d:yC):Bool:=(zIns P d.From.toNat).Part == part && (zIns P d.To.toNat).Part == part
def dvF (P:zE) (d:yC):List Int:=minV (zIns P d.To.toNat).Point (zIns P d.From.toNat).Point
def dvs (P:zE) (part:Int):List (List Int):=((dpF P).filter (inPt P part)).map (dvF P)
def dsF (P:zE) (part:Int):List (List Int):=uniqL (srtL (dvs P part))
theorem zH8 {P:zE}{d:yC} (h:d ∈ dpF P):validP P=true∧∃ i k:Nat,d.From=(i:Int)∧d.To=(k:Int)∧i < k∧k < (progI P).length:=by
  unfold dpF at h;split at h
  · rename_i hv;obtain ⟨i,k,rfl,h1,h2,_⟩:=zLp h;exact ⟨hv,i,k,rfl,rfl,h1,h2⟩
  · cases h
theorem zJ0 {P:zE} (hb:BG P) (hv:validP P=true) {i k:Nat} (hi:i < (progI P).length) (hk:k < (progI P).length) (hp:(zIns P i).Part=(zIns P k).Part):(zIns P i).Point.length=(zIns P k).Point.length∧(zIns P k).Point.length=(gP P (zIns P k).Part.toNat).Nest.length:=by
  have a:=zFO (fJ hb hv (zAM hi)).pin.2.2.2;have b:=zFO (fJ hb hv (zAM hk)).pin.2.2.2;rw [hp] at a;exact ⟨by rw [a,b],b⟩
theorem zLq {a b:zK} (hl:a.Point.length=b.Point.length) (h4:b.Point.length ≤ 4):∀ (j q:Nat) (o:List Int),q + j=b.Point.length→o.length ≤ q→vE a b o (q:Int)=some (o ++ minV (b.Point.drop q) (a.Point.drop q)):=by
  intro j
  induction j with
  | zero =>
    intro q o hq ho;rw [vE];have:¬((q:Int) < (b.Point.length:Int)):=by omega
    simp only [this,dF,bF,if_false,oP,id];rw [dN.2 (show b.Point.length ≤ q by omega)];simp [minV]
  | succ j ih =>
    intro q o hq ho;have h1:q < b.Point.length:=by omega
    have h2:q < a.Point.length:=by omega
    have hc:((q:Int) < (b.Point.length:Int)):=by omega
    rw [vE,gC h1,gC h2];simp only [hc,dT,if_true,yI h1,yI h2,oB,oS,rG (show (o.length + [W (b.Point[q] - a.Point[q])].length) * 8 ≤ 140737488355328 by simp; omega)];rw [wF (by omega),ih (q + 1) _ (by omega) (by rw [lA]; simp; omega),List.append_assoc]; rfl
theorem zLA {a b:List Int} (hl:a.length=b.length) (h4:a.length ≤ 4):∀ (j q:Nat) (o:List Int),q + j=a.length→o.length ≤ q→qP a b o (q:Int)=some (o ++ minV (a.drop q) (b.drop q)):=by
  intro j
  induction j with
  | zero =>
    intro q o hq ho;rw [qP];have:¬((q:Int) < (a.length:Int)):=by omega
    simp only [this,dF,bF,if_false,oP,id];rw [dN.2 (show a.length ≤ q by omega)];simp [minV]
  | succ j ih =>
    intro q o hq ho;have h1:q < a.length:=by omega
    have h2:q < b.length:=by omega
    have hc:((q:Int) < (a.length:Int)):=by omega
    rw [qP,gC h1,gC h2];simp only [hc,dT,if_true,yI h1,yI h2,oB,oS,rG (show (o.length + [W (a[q] - b[q])].length) * 8 ≤ 140737488355328 by simp; omega)];rw [wF (by omega),ih (q + 1) _ (by omega) (by rw [lA]; simp; omega),List.append_assoc]; rfl
theorem specMinus {a b:List Int} (hl:a.length=b.length) (h4:a.length ≤ 4):jP a b=some (minV a b):=by
  have h:=zLA hl h4 a.length 0 [] (Nat.zero_add _) (Nat.le_refl _);rw [nZ,List.drop_zero,List.drop_zero,List.nil_append] at h;unfold jP;rw [h]; rfl
theorem zI6 (P:zE):(trcP P).list=progI P:=rfl
theorem zLr {P:zE} (hb:BG P) (hv:validP P=true) (part:Int) {D:List yC} (hD:∀ d ∈ D,d ∈ dpF P) (hl:D.length ≤ 1000000):∀ (j q:Nat) (o:List (List Int)),q + j=D.length→o.length ≤ q→xX (trcP P) part D o (q:Int)=some (o ++ ((D.drop q).filter (inPt P part)).map (dvF P)):=by
  intro j
  induction j with
  | zero =>
    intro q o hq ho;rw [xX];have:¬((q:Int) < (D.length:Int)):=by omega
    simp only [this,dF,bF,if_false,oP,id];rw [dN.2 (by omega)]; simp
  | succ j ih =>
    intro q o hq ho;have hlt:q < D.length:=by omega
    have hc:((q:Int) < (D.length:Int)):=by omega
    obtain ⟨_,i,k,e1,e2,h1,h2⟩:=zH8 (hD D[q] (gM hlt));have hi:i < (progI P).length:=by omega
    have x1:idx (trcP P).list D[q].From=some (zIns P i):=by rw [zI6,e1,yI hi,zAT hi]
    have x2:idx (trcP P).list D[q].To=some (zIns P k):=by rw [zI6,e2,yI h2,zAT h2]
    have hpt:inPt P part D[q]=((zIns P i).Part == part && (zIns P k).Part == part):=by unfold inPt; rw [e1,e2,iN,iN]
    rw [xX,gC hlt,List.filter_cons,hpt];have et:(if ((zIns P i).Part != part)=true then some true else some ((zIns P k).Part != part))=some (!((zIns P i).Part == part && (zIns P k).Part == part)):=by
      unfold bne;cases (zIns P i).Part == part <;> rfl
    simp only [hc,dT,if_true,yI hlt,x1,x2,oB,oS,oP,et];cases hp:((zIns P i).Part == part && (zIns P k).Part == part) with
    | false =>
      simp only [Bool.not_false,if_true,bF,if_false];rw [wF (by omega),ih (q + 1) _ (by omega) (by omega)]
    | true =>
      simp only [bA,beq_iff_eq] at hp;have hs:=(zJ0 hb hv hi h2 (by rw [hp.1,hp.2])).1;have h4:=(fJ hb hv (zAM h2)).pt;have hd:=zLq hs h4 _ 0 [] (Nat.zero_add _) (Nat.le_refl 0);rw [nZ,List.drop_zero,List.drop_zero,List.nil_append] at hd;have ev:dvF P D[q]=minV (zIns P k).Point (zIns P i).Point:=by unfold dvF; rw [e1,e2,iN,iN]
      simp only [bT,bF,if_false,if_true,hd,oS,rG (show (o.length + [minV (zIns P k).Point (zIns P i).Point].length) * 24 ≤ 140737488355328 by simp; omega)];rw [wF (by omega),ih (q + 1) _ (by omega) (by rw [lA]; simp; omega),List.append_assoc,List.map_cons,ev]; rfl
theorem zGS (a b:List Int):(minV a b).length=min a.length b.length:=List.length_zipWith
theorem zH9 {P:zE} (part:Int):(dvs P part).length ≤ 14400:=by
  unfold dvs;rw [lM];exact Nat.le_trans (List.length_filter_le _ _) zH4
theorem zHa {P:zE} (hb:BG P) {part:Int}{l:List Int} (h:l ∈ dvs P part):validP P=true∧∃ i k:Nat,i < k∧k < (progI P).length∧(zIns P i).Part=part∧(zIns P k).Part=part∧l=minV (zIns P k).Point (zIns P i).Point:=by
  unfold dvs at h;obtain ⟨d,hd,rfl⟩:=List.mem_map.1 h;rw [List.mem_filter] at hd;obtain ⟨hv,i,k,e1,e2,h1,h2⟩:=zH8 hd.1;have hp:=hd.2;unfold inPt at hp;rw [e1,e2,iN,iN,bA,beq_iff_eq,beq_iff_eq] at hp;exact ⟨hv,i,k,h1,h2,hp.1,hp.2,by unfold dvF; rw [e1,e2,iN,iN]⟩
theorem zE6 {P:zE} (hb:BG P) {part:Int}{l:List Int} (h:l ∈ dvs P part):l.length ≤ 4:=by
  obtain ⟨hv,i,k,h1,h2,_,_,rfl⟩:=zHa hb h;have:=(fJ hb hv (zAM h2)).pt;rw [zGS]; omega
theorem zLB {P:zE}{part:Int}{l:List Int}:l ∈ dsF P part ↔ l ∈ dvs P part:=by unfold dsF; rw [zAi,zH6]
theorem zMy {P:zE} (part:Int):(dsF P part).length ≤ 14400:=by
  have h1:=zI0 (srtL (dvs P part));have h2:=zJZ (dvs P part);have h3:=zH9 (P:=P) part;unfold dsF; omega
theorem zLs {P:zE} (hb:BG P) {part:Int} (h:¬(0 ≤ part∧part ≤ (P.Parts.length:Int) - 1)):dvs P part=[]:=by
  cases e:dvs P part with
  | nil=>rfl
  | cons l r =>
    obtain ⟨hv,i,k,h1,h2,h3,h4,_⟩:=zHa hb (part:=part) (l:=l) (by rw [e]; exact List.mem_cons_self ..);have:=(fJ hb hv (zAM h2)).part;rw [h4] at this;exact absurd ⟨this.1,by omega⟩ h
theorem isPartL {P:zE} (hb:BG P) (part:Int):qY P part=some (decide (0 ≤ part) && decide (part ≤ (P.Parts.length:Int) - 1)):=by
  have:=hb.2.1;unfold qY;simp only [nG,rC (x:=(P.Parts.length:Int) - 1) (by omega) (by omega),oB,oS,oP,id]
theorem tdist {P:zE} (hb:BG P) (hv:validP P=true) (part:Int):rU (trcP P) part=some (dsF P part):=by
  have hy:nM (trcP P)=some (dpF P):=by
    have hlen:=(jQ hv).2.2.2;have hi:∀ z ∈ progI P,InP P z:=fun z hz=>fJ hb hv hz;have hl:=zLo hi hlen _ 0 [] (Nat.zero_add _) (by simp);rw [nZ,List.nil_append] at hl;unfold dpF;simp only [nM,hl,hv,if_true,oB,oS,oP,id]
  have hlen:=zH4 (P:=P);have h1:=zLr hb hv part (D:=dpF P) (fun _ h=>h) (by omega) _ 0 [] (Nat.zero_add _) (Nat.le_refl 0);rw [nZ,List.drop_zero,List.nil_append] at h1;have h1:xX (trcP P) part (dpF P) [] 0=some (dvs P part):=h1;have hs:sQ (dvs P part)=some (srtL (dvs P part)):=by
    unfold sQ;have:=zH9 (P:=P) part;rw [if_pos ⟨by omega,fun l hl=>by have:=zE6 hb hl; omega⟩]
  have hc:vO (srtL (dvs P part))=some (dsF P part) :=
    compactV (by rw [zJZ]; have:=zH9 (P:=P) part; omega) fun l hl=>by have:=zE6 hb (zH6.1 hl); omega
  unfold rU;simp only [hy,h1,hs,hc,oB,oS,oP,id]
theorem implDist (P:zE) (hb:BG P) (part:Int):jU P part=some (dsF P part):=by
  unfold jU;rw [implTrace P hb];cases hv:validP P with
  | false =>
    have e:dvs P part=[]:=by unfold dvs dpF; rw [hv]; rfl
    have e2:dsF P part=[]:=by unfold dsF; rw [e]; exact zGQ
    rw [e2]; rfl
  | true =>
    simp only [if_true,oB,oS,bT,bF,if_false,isPartL hb,oP];by_cases h:0 ≤ part∧part ≤ (P.Parts.length:Int) - 1
    · simp only [h.1,h.2,dT,Bool.and_self,bT,bF,if_false,tdist hb hv,oS,id]
    · have e:(decide (0 ≤ part) && decide (part ≤ (P.Parts.length:Int) - 1))=false:=by
        cases hq:(decide (0 ≤ part) && decide (part ≤ (P.Parts.length:Int) - 1)) with
        | false=>rfl
        | true=>simp only [bA,decide_eq_true_eq] at hq; exact absurd hq h
      have e2:dsF P part=[]:=by unfold dsF; rw [zLs hb h]; exact zGQ
      simp only [e,Bool.not_false,if_true,e2]
theorem specLex (a b:List Int) (ha:a.length ≤ 1048576) (hl:a.length=b.length):jO a b=some (ltL a b):=by
  have key:∀ (j q:Nat),q + j=a.length→(∃ c,sZ a b (q:Int)=some (.ret c)∧c=ltL (a.drop q) (b.drop q))∨(sZ a b (q:Int)=some (.done ())∧ltL (a.drop q) (b.drop q)=false):=by
    intro j
    induction j with
    | zero =>
      intro q hq;refine .inr ⟨?_,?_⟩
      · rw [sZ];have:¬((q:Int) < (a.length:Int)):=by omega
        simp only [this,dF,bF,if_false,oB,oS,oP]
      · rw [dN.2 (show a.length ≤ q by omega),dN.2 (show b.length ≤ q by omega)]; rfl
    | succ j ih =>
      intro q hq;have h1:q < a.length:=by omega
      have h2:q < b.length:=by omega
      have hc:((q:Int) < (a.length:Int)):=by omega
      have hc2:((q:Int) < (b.length:Int)):=by omega
      rw [sZ,gC h1,gC h2];simp only [hc,hc2,dT,if_true,yI h1,yI h2,oB,oS,oP];unfold ltL;rw [cmpL];by_cases e1:a[q] < b[q]
      · refine .inl ⟨true,?_,?_⟩
        · have:(a[q] != b[q])=true:=by simp; omega
          simp [this,e1]
        · simp [e1]
      · by_cases e2:b[q] < a[q]
        · refine .inl ⟨false,?_,?_⟩
          · have:(a[q] != b[q])=true:=by simp; omega
            simp [this,e1]
          · simp [e1,e2]
        · have:(a[q] != b[q])=false:=by simp; omega
          simp only [this,bF,if_false,e1,e2];rw [wF (by omega)];exact ih (q + 1) (by omega)
  unfold jO;have h:=key a.length 0 (Nat.zero_add _);rw [nZ,List.drop_zero,List.drop_zero] at h;rcases h with ⟨c,h,rfl⟩ | ⟨h,h2⟩
  · simp only [h,oB,oS,oP]
  · have:¬((a.length:Int) < (b.length:Int)):=by omega
    simp only [h,h2,this,dF,oB,oS,oP]
theorem zM9 {list:List (List Int)}{d:List Int}{m:Nat} (hm:m ≤ 4) (hd:d.length=m) (hr:∀ x ∈ list,x.length=m) (hl:list.length ≤ 100000):∀ (j q:Nat) (o:List (List Int)) (b:Bool),q + j=list.length→o.length ≤ 2 * q →
    qV list d o b (q:Int)=some (if d ∈ list.drop q then .ret list else .done (o ++ (insC d b (list.drop q)).1,(insC d b (list.drop q)).2)):=by
  intro j
  induction j with
  | zero =>
    intro q o b hq ho
    rw [qV]
    have:¬((q:Int) < (list.length:Int)):=by omega
    simp only [this,dF,bF,if_false,oP]
    rw [dN.2 (show list.length ≤ q by omega)]
    cases b <;> simp [insC]
  | succ j ih =>
    intro q o b hq ho
    have h1:q < list.length:=by omega
    have hc:((q:Int) < (list.length:Int)):=by omega
    have hx:list[q].length=m:=hr _ (gM h1)
    rw [qV,gC h1]
    simp only [hc,dT,if_true,yI h1,specEqR list[q] d (by omega),oB,oS,oP]
    by_cases e:list[q]=d
    · have hin:d ∈ list[q]::list.drop (q + 1):=by rw [e]; exact List.mem_cons_self ..
      simp only [e,dT,if_true]
      rw [if_pos (by rw [e] at hin; exact hin)]
    · have hin:(d ∈ list[q]::list.drop (q + 1)) ↔ d ∈ list.drop (q + 1):=by
        rw [List.mem_cons]
        exact ⟨fun h=>h.resolve_left fun h=>e h.symm,.inr⟩
      simp only [e,dF,bF,if_false]
      have hcase:∀ (o2:List (List Int)) (b2:Bool),o2.length ≤ 2 * q + 1→(app 24 o2 [list[q]]).bind (fun o4=>qV list d o4 b2 (W ((q:Int) + 1)))=some (if d ∈ list.drop (q + 1) then .ret list else .done (o2 ++ [list[q]] ++ (insC d b2 (list.drop (q + 1))).1,(insC d b2 (list.drop (q + 1))).2)):=fun o2 b2 ho2=>by
        rw [rG (show (o2.length + [list[q]].length) * 24 ≤ 140737488355328 by simp; omega),oS,wF (by omega),ih (q + 1) _ b2 (by omega) (by rw [lA]; simp; omega)]
      cases b with
      | true =>
        simp only [bT,bF,if_false,oS]
        rw [hcase o true (by omega)]
        simp only [hin,insC,List.append_assoc,List.singleton_append]
      | false =>
        simp only [Bool.not_false,if_true,specLex d list[q] (by omega) (by omega),oS,id]
        cases hlt:ltL d list[q] with
        | true =>
          simp only [if_true,rG (show (o.length + [d].length) * 24 ≤ 140737488355328 by simp; omega),oS]
          rw [hcase (o ++ [d]) true (by rw [lA]; simp; omega)]
          simp only [hin,insC,hlt,if_true,List.append_assoc,List.singleton_append,List.cons_append,List.nil_append]
        | false =>
          simp only [bF,if_false,oS]
          rw [hcase o false (by omega)]
          simp only [hin,insC,hlt,bF,if_false,List.append_assoc,List.singleton_append]
theorem specAdd {list:List (List Int)}{d:List Int}{m:Nat} (hm:m ≤ 4) (hd:d.length=m) (hr:∀ x ∈ list,x.length=m) (hl:list.length ≤ 100000):fH list d=some (addF list d):=by
  have h:=zM9 hm hd hr hl _ 0 [] false (Nat.zero_add list.length) (Nat.le_refl 0);rw [nZ,List.drop_zero,List.nil_append] at h;unfold fH addF;rw [h];by_cases c:d ∈ list
  · rw [if_pos c,if_pos c]; rfl
  · rw [if_neg c,if_neg c];have hi:=zGR d list;have hn:=zI3 d false list;simp only [oB,oS,oP];cases hb:(insC d false list).2 with
    | true =>
      rw [hb,if_pos rfl] at hi;simp only [bT,bF,if_false,oS,id,hi]
    | false =>
      rw [hb,if_neg (by decide)] at hi;simp only [Bool.not_false,if_true,rG (show ((insC d false list).1.length + [d].length) * 24 ≤ 140737488355328 by simp; omega),oS,id,hi]
theorem zLC {m:Nat}{l:List (List Int)}{d:List Int} (hd:d.length=m) (h:∀ x ∈ l,x.length=m):∀ x ∈ addF l d,x.length=m:=by
  unfold addF;split
  · exact h
  · intro x hx;rcases zDm.1 hx with rfl | hx
    · exact hd
    · exact h x hx
theorem zJw {P:zE} (hb:BG P) (hv:validP P=true) (part:Int) {D:List yC} (hD:∀ d ∈ D,d ∈ dpF P) (hl:D.length ≤ 20000) {m:Nat} (hm:m ≤ 4) (hN:∀ k,k < (progI P).length→(zIns P k).Part=part→(zIns P k).Point.length=m):∀ (j q:Nat) (o:List (List Int)),q + j=D.length→o.length ≤ q→(∀ x ∈ o,x.length=m)→uI part (progI P) D o (q:Int)=some ((((D.drop q).filter (inPt P part)).map (dvF P)).foldl addF o):=by
  intro j
  induction j with
  | zero =>
    intro q o hq ho hor;rw [uI];have:¬((q:Int) < (D.length:Int)):=by omega
    simp only [this,dF,bF,if_false,oP,id];rw [dN.2 (by omega)]; rfl
  | succ j ih =>
    intro q o hq ho hor;have hlt:q < D.length:=by omega
    have hc:((q:Int) < (D.length:Int)):=by omega
    obtain ⟨_,i,k,e1,e2,h1,h2⟩:=zH8 (hD D[q] (gM hlt));have hi:i < (progI P).length:=by omega
    have x1:idx (progI P) D[q].From=some (zIns P i):=by rw [e1,yI hi,zAT hi]
    have x2:idx (progI P) D[q].To=some (zIns P k):=by rw [e2,yI h2,zAT h2]
    have hpt:inPt P part D[q]=((zIns P i).Part == part && (zIns P k).Part == part):=by unfold inPt; rw [e1,e2,iN,iN]
    rw [uI,gC hlt,List.filter_cons,hpt];have et:(if ((zIns P i).Part == part)=true then some ((zIns P k).Part == part) else some false)=some ((zIns P i).Part == part && (zIns P k).Part == part):=by
      cases (zIns P i).Part == part <;> rfl
    simp only [hc,dT,if_true,yI hlt,x1,x2,oB,oS,oP,et];cases hp:((zIns P i).Part == part && (zIns P k).Part == part) with
    | false =>
      simp only [bF,if_false,oS,id];rw [wF (by omega),ih (q + 1) _ (by omega) (by omega) hor]
    | true =>
      simp only [bA,beq_iff_eq] at hp;have n1:=hN i hi hp.1;have n2:=hN k h2 hp.2;have ev:dvF P D[q]=minV (zIns P k).Point (zIns P i).Point:=by unfold dvF; rw [e1,e2,iN,iN]
      have hdl:(minV (zIns P k).Point (zIns P i).Point).length=m:=by rw [zGS,n1,n2,Nat.min_self]
      have ha:=zKy o (minV (zIns P k).Point (zIns P i).Point);simp only [if_true,specMinus (show (zIns P k).Point.length=(zIns P i).Point.length by rw [n1,n2]) (by omega),specAdd hm hdl hor (by omega),oS,id];rw [wF (by omega),ih (q + 1) _ (by omega) (by omega) (zLC hdl hor),List.map_cons,List.foldl_cons,ev]
theorem specDist (P:zE) (hb:BG P) (part:Int):jW P part=some (dsF P part):=by
  unfold jW;rw [specValidP P hb];cases hv:validP P with
  | false =>
    have e:dvs P part=[]:=by unfold dvs dpF; rw [hv]; rfl
    have e2:dsF P part=[]:=by unfold dsF; rw [e]; exact zGQ
    rw [e2]; rfl
  | true =>
    have hD:dpF P=depA P 0 (progI P).length:=by unfold dpF; rw [hv]; rfl
    have hlen:=zH4 (P:=P);have h:=zJw hb hv part (D:=dpF P) (fun _ h=>h) (by omega) (m:=if part.toNat < P.Parts.length then min (gP P part.toNat).Nest.length 4 else 0) (by split <;> omega) (fun k hk hp=>by
      have a:=zFO (fJ hb hv (zAM hk)).pin.2.2.2;have b:=(fJ hb hv (zAM hk)).part;have c:=(fJ hb hv (zAM hk)).pt;rw [hp] at a b;rw [if_pos (by omega)]; omega) _ 0 [] (Nat.zero_add _) (Nat.le_refl 0) (by simp)
    rw [nZ,List.drop_zero] at h;have h:uI part (progI P) (dpF P) [] 0=some ((dvs P part).foldl addF []):=h;rw [zJv,hD] at h;simp only [oB,oS,bT,bF,if_false,kR,specInst4 P hv,specDeps6 P hb hv,h,oP,id];rfl
theorem drawDist (code:List UInt8):Ok (mC code) (fun y=>BG y.1):=by
  unfold mC;refine Ok.call (zIC code) trivial fun s hs=>Ok.call (zIx s) ⟨by omega,by omega⟩ fun a t g1 g2 g3=>?_;refine Ok.bind (mut4 t a g1.dp (by omega) (by omega)) fun p hp=>?_;obtain ⟨P,r⟩:=p;obtain ⟨⟨hp1,_⟩,hp2,hp3⟩:=hp;dsimp only at hp2 hp3;exact Ok.call (uE r _) ⟨by decide,hp2,by omega,by decide⟩ fun y s2 _ _ k5=>Ok.pure hp1
end Go.LN
