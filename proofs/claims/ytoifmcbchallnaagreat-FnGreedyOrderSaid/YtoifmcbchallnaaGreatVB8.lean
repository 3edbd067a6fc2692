/- Helper of the proof (see the last text). -/
import Derived.Test.YtoifmcbchallnaaGreatVB1
import Derived.Test.YtoifmcbchallnaaGreatQZ
set_option linter.unusedVariables false
set_option linter.unusedSimpArgs false
namespace Go.LN
def BP (x:zN):Prop:=BN x.Nest∧x.Body.length ≤ 100000∧∀ s ∈ x.Body,BS s
def bodyB (x:zN):Bool:=(decide (1 ≤ x.Body.length) && decide (x.Body.length ≤ 4)) && x.Body.all fun s=>stmtB s (x.Nest.length:Int)
def partB (A:List zG) (x:zN):Bool:=(nestPts x.Nest).2 && bodyB x && (nestPts x.Nest).1.all fun q=>ptB q && x.Body.all fun s=>stOk A s q
def instR (k:Int) (q:List Int) (i j:Nat):List zP:=(List.range' i j).map fun (i:Nat)=>⟨k,(i:Int),q⟩
theorem zD1 (k:Int) (q:List Int) (i j:Nat):(instR k q i j).length=j:=by simp [instR]
theorem len14 (n:Nat):(decide ((1:Int) ≤ (n:Int)) && decide ((n:Int) ≤ 4))=(decide (1 ≤ n) && decide (n ≤ 4)):=by
  have e1:decide ((1:Int) ≤ (n:Int))=decide (1 ≤ n):=by simp; omega
  have e2:decide ((n:Int) ≤ 4)=decide (n ≤ 4):=by simp; omega
  rw [e1,e2]
theorem zJl (P:zJ) (k:Int) (x:zN) (q:List Int) (hq:q.length ≤ 4) (hb:x.Body.length ≤ 4) (hs:∀ s ∈ x.Body,stmtB s (x.Nest.length:Int)=true) (hR:RV P.Arrays) :
    ∀ (j i:Nat) (o:List zP),i + j=x.Body.length→o.length + j ≤ 1000000→wO P k x q o (i:Int)=some (if (x.Body.drop i).all (fun s=>stOk P.Arrays s q) then .done (o ++ instR k q i j) else .ret ([],false)):=by
  intro j
  induction j with
  | zero =>
    intro i o hi ho
    rw [wO]
    have:¬((i:Int) < (x.Body.length:Int)):=by omega
    simp only [this,decide_false,bF,if_false]
    rw [show x.Body.drop i=[] from List.drop_eq_nil_iff.2 (by omega)]
    simp [instR]
  | succ j ih =>
    intro i o hi ho
    rw [wO]
    have hlt:i < x.Body.length:=by omega
    have hc:((i:Int) < (x.Body.length:Int)):=by omega
    have happ:app 40 o [(⟨k,(i:Int),q⟩:zP)]=some (o ++ [⟨k,(i:Int),q⟩]):=qX (by simp; omega)
    simp only [hc,decide_true,if_true,yT hlt,oB,oS,implStmtOk P _ q (hs _ (List.getElem_mem hlt)) hq hR,zEv q (by omega),happ]
    rw [vR (by omega),gC hlt,List.all_cons]
    cases stOk P.Arrays x.Body[i] q with
    | false=>rfl
    | true =>
      simp only [Bool.not_true,bF,if_false,Bool.true_and]
      rw [ih (i + 1) _ (by omega) (by simp; omega),List.append_assoc]
      simp only [instR,List.range'_succ,List.map_cons,List.singleton_append]
def ptOk (A:List zG) (x:zN) (q:List Int):Bool:=ptB q && x.Body.all fun s=>stOk A s q
theorem zJm (P:zJ) (k:Int) (x:zN) (qs:List (List Int)) (hq:∀ q ∈ qs,q.length ≤ 4) (hql:qs.length ≤ 120) (hb:x.Body.length ≤ 4) (hs:∀ s ∈ x.Body,stmtB s (x.Nest.length:Int)=true) (hR:RV P.Arrays) :
    ∀ (j i:Nat) (o:List zP),i + j=qs.length→o.length + 4 * j ≤ 1000000→wP P k x qs o (i:Int)=some (if (qs.drop i).all (ptOk P.Arrays x) then .done (o ++ (qs.drop i).flatMap fun q=>instR k q 0 x.Body.length) else .ret ([],false)):=by
  intro j
  induction j with
  | zero =>
    intro i o hi ho
    rw [wP]
    have:¬((i:Int) < (qs.length:Int)):=by omega
    simp only [this,decide_false,bF,if_false]
    rw [show qs.drop i=[] from List.drop_eq_nil_iff.2 (by omega)]
    simp
  | succ j ih =>
    intro i o hi ho
    rw [wP]
    have hlt:i < qs.length:=by omega
    have hc:((i:Int) < (qs.length:Int)):=by omega
    have hq4:=hq _ (List.getElem_mem hlt)
    have h3:=zJl P k x qs[i] hq4 hb hs hR x.Body.length 0 o (Nat.zero_add _) (by omega)
    rw [Int.natCast_zero,List.drop_zero] at h3
    simp only [hc,decide_true,if_true,yT hlt,oB,oS,implPoint _ (show qs[i].length ≤ 1048576 by omega),h3]
    rw [vR (by omega),gC hlt,List.all_cons,List.flatMap_cons,ptOk]
    cases ptB qs[i] with
    | false=>rfl
    | true =>
      simp only [Bool.not_true,bF,if_false,Bool.true_and]
      cases x.Body.all fun s=>stOk P.Arrays s qs[i] with
      | false=>rfl
      | true =>
        simp only [if_true,oS,Bool.true_and]
        rw [ih (i + 1) _ (by omega) (by rw [List.length_append,zD1]; omega),List.append_assoc]
def partI (k:Int) (x:zN):List zP:=(nestPts x.Nest).1.flatMap fun q=>instR k q 0 x.Body.length
theorem zGv (k:Int) (b:Nat):∀ qs:List (List Int),(qs.flatMap fun q=>instR k q 0 b).length=qs.length * b
  | []=>by simp
  | q::qs=>by rw [List.flatMap_cons,List.length_append,zD1,zGv k b qs,List.length_cons,Nat.succ_mul]; omega
theorem zFi (k:Int) (x:zN):(partI k x).length=(nestPts x.Nest).1.length * x.Body.length:=zGv _ _ _
theorem zAS {x:zN} (h:bodyB x=true):1 ≤ x.Body.length∧x.Body.length ≤ 4∧∀ s ∈ x.Body,stmtB s (x.Nest.length:Int)=true:=by
  simp only [bodyB,Bool.and_eq_true,decide_eq_true_eq] at h;exact ⟨h.1.1,h.1.2,List.all_eq_true.1 h.2⟩
theorem zEz (k:Int) {A:List zG}{x:zN} (h:partB A x=true):(partI k x).length ≤ 480:=by
  simp only [partB,Bool.and_eq_true] at h;obtain ⟨h1,h2,_⟩:=zAS h.1.2;have:=(zAs (nest:=x.Nest)).1;rw [zFi];exact Nat.mul_le_mul this h2
def gP (P:zJ) (i:Nat):zN:=P.Parts.getD i ⟨[],[]⟩
theorem zJn (P:zJ) (hP:P.Parts.length ≤ 4) (hb:∀ x ∈ P.Parts,BP x) (hR:RV P.Arrays) :
    ∀ (j i:Nat) (o:List zP),i + j=P.Parts.length→o.length ≤ 480 * i→wQ P o (i:Int)=some (if (List.range' i j).all (fun i=>partB P.Arrays (gP P i)) then .done (o ++ (List.range' i j).flatMap fun (i:Nat)=>partI (i:Int) (gP P i)) else .ret ([],false)):=by
  intro j
  induction j with
  | zero =>
    intro i o hi ho
    rw [wQ]
    have:¬((i:Int) < (P.Parts.length:Int)):=by omega
    simp only [this,decide_false,bF,if_false]
    simp
  | succ j ih =>
    intro i o hi ho
    rw [wQ]
    have hlt:i < P.Parts.length:=by omega
    have hc:((i:Int) < (P.Parts.length:Int)):=by omega
    obtain ⟨b1,b2,b3⟩:=hb _ (List.getElem_mem hlt)
    have hg:gP P i=P.Parts[i]:=by simp [gP,hlt]
    have hcs:=zGD (f:=fun x0=>wV x0 P.Parts[i]) (p:=fun s=>!(stmtB s (P.Parts[i].Nest.length:Int))) P.Parts[i].Body (fun s hs=>by
        unfold wV
        rw [implStmt s _ (b3 s hs)]; rfl) (by omega)
    simp only [hc,decide_true,if_true,yT hlt,oB,oS,implPoints _ b1,oE,len14,hcs,oP,id]
    rw [vR (by omega),List.range'_succ,List.all_cons,List.flatMap_cons,hg]
    have hnl:=zAs (nest:=P.Parts[i].Nest)
    cases hn:(nestPts P.Parts[i].Nest).2 with
    | false=>simp [partB,hn]
    | true =>
      cases hb4:(decide (1 ≤ P.Parts[i].Body.length) && decide (P.Parts[i].Body.length ≤ 4)) with
      | false=>simp [partB,bodyB,hb4]
      | true =>
        have hany:(P.Parts[i].Body.any fun s=>!(stmtB s (P.Parts[i].Nest.length:Int)))=!(P.Parts[i].Body.all fun s=>stmtB s (P.Parts[i].Nest.length:Int)):=by
          rw [Bool.eq_iff_iff]; simp
        simp only [Bool.not_true,bF,if_false,oS,hany]
        cases hall:P.Parts[i].Body.all fun s=>stmtB s (P.Parts[i].Nest.length:Int) with
        | false=>simp [partB,bodyB,hall]
        | true =>
          have hbb:bodyB P.Parts[i]=true:=by rw [bodyB,hb4,hall]; rfl
          obtain ⟨q1,q2,q3⟩:=zAS hbb
          have h2:=zJm P (i:Int) P.Parts[i] (nestPts P.Parts[i].Nest).1 hnl.2 hnl.1 q2 q3 hR _ 0 o (Nat.zero_add _) (by have:=hnl.1; omega)
          rw [Int.natCast_zero,List.drop_zero] at h2
          simp only [Bool.not_true,bF,if_false,h2]
          have hpB:partB P.Arrays P.Parts[i]=(nestPts P.Parts[i].Nest).1.all (ptOk P.Arrays P.Parts[i]):=by rw [partB,hn,hbb]; rfl
          rw [hpB]
          cases hpt:(nestPts P.Parts[i].Nest).1.all (ptOk P.Arrays P.Parts[i]) with
          | false=>simp
          | true =>
            have hle:=zEz (i:Int) (A:=P.Arrays) (x:=P.Parts[i]) (by rw [hpB,hpt])
            simp only [if_true,oS,Bool.true_and]
            rw [show (o ++ (nestPts P.Parts[i].Nest).1.flatMap fun q=>instR (i:Int) q 0 P.Parts[i].Body.length)=o ++ partI (i:Int) P.Parts[i] from rfl]
            rw [ih (i + 1) _ (by omega) (by rw [List.length_append]; omega),List.append_assoc]
def BG (P:zJ):Prop:=BR P.Arrays∧P.Parts.length ≤ 100000∧∀ x ∈ P.Parts,BP x
def progB (P:zJ):Bool:=arrB P.Arrays && decide (P.Parts.length ≤ 4) && (List.range' 0 P.Parts.length).all fun i=>partB P.Arrays (gP P i)
def progI (P:zJ):List zP:=(List.range' 0 P.Parts.length).flatMap fun (i:Nat)=>partI (i:Int) (gP P i)
def validP (P:zJ):Bool:=progB P && decide ((progI P).length ≤ 120)
theorem implInstances (P:zJ) (h:BG P):tE P=some (if progB P then (progI P,decide ((progI P).length ≤ 120)) else ([],false)):=by
  obtain ⟨h1,h2,h3⟩:=h;unfold tE progB;rw [implArrays _ h1];cases ha:arrB P.Arrays with
  | false=>simp
  | true =>
    by_cases h4:P.Parts.length ≤ 4
    · have e:¬((P.Parts.length:Int) > 4):=by omega
      have hl:=zJn P h4 h3 (RV.of h1 ha) _ 0 [] (Nat.zero_add _) (by simp);rw [Int.natCast_zero,List.nil_append] at hl;simp only [Bool.not_true,bF,if_false,e,decide_false,oP,oB,oS,hl,h4,decide_true,Bool.true_and];cases hA:(List.range' 0 P.Parts.length).all fun i=>partB P.Arrays (gP P i) with
      | false=>simp
      | true =>
        simp only [if_true,progI]
        congr 2
        simp; omega
    · have e:((P.Parts.length:Int) > 4):=by omega
      simp [e,h4]
theorem zFj {R:Type}{r0:R}{n:Nat}{f:Int→Option (Out Unit R)}{P:Nat→Bool} (step:∀ i,i < n→f (i:Int)=if P i then f ((i + 1:Nat):Int) else some (.ret r0)) (fin:f (n:Int)=some (.done ())):f 0=some (if (List.range n).all P then .done () else .ret r0):=by
  have key:∀ j i,i + j=n→f (i:Int)=some (if (List.range' i j).all P then .done () else .ret r0):=by
    intro j
    induction j with
    | zero=>intro i hi; rw [show i=n by omega,fin]; rfl
    | succ j ih =>
      intro i hi;rw [step i (by omega),List.range'_succ,List.all_cons];cases hP:P i with
      | false=>simp
      | true=>simp only [if_true,Bool.true_and]; exact ih (i + 1) (by omega)
  have:=key n 0 (by omega);rw [List.range_eq_range'];exact this
theorem zGw (A:List zG) (x:zN) (qs:List (List Int)) (hq:∀ q ∈ qs,q.length ≤ 4) (hql:qs.length ≤ 120) (i:Nat) (hi:i < x.Body.length) (hs:stmtB x.Body[i] (x.Nest.length:Int)=true) (hbs:BS x.Body[i]) (hR:RV A) :
    uE A x qs (i:Int) 0=some (if qs.all (fun q=>stOk A x.Body[i] q && ptB q) then .done () else .ret (0,false)):=by
  have hl:=zFj (r0:=((0:Int),false)) (n:=qs.length) (f:=uE A x qs (i:Int)) (P:=fun k=>stOk A x.Body[i] (qs.getD k []) && ptB (qs.getD k [])) (fun k hk=>by
      rw [uE]
      have h1:((k:Int) < (qs.length:Int)):=by omega
      have hg:qs.getD k []=qs[k]:=by simp [hk]
      have hk4:=hq _ (List.getElem_mem hk)
      simp only [h1,decide_true,if_true,yT hi,yT hk,oB,oS,specCells A _ qs[k] hs hbs hk4 hR,specPoint _ (show qs[k].length ≤ 1048576 by omega),hg]
      rw [vR (by omega)]
      cases stOk A x.Body[i] qs[k] with
      | false=>simp
      | true=>cases ptB qs[k] <;> simp) (by
      rw [uE]; simp)
  rw [hl,gF qs (fun q=>stOk A x.Body[i] q && ptB q)]
def EXz:zF:=zF.mk 0 0 (zA.mk [] 0) (zK.mk ⟨[]⟩ []) []
theorem zGx (A:List zG) (x:zN) (hx:BP x) (qs:List (List Int)) (hq:∀ q ∈ qs,q.length ≤ 4) (hql:qs.length ≤ 120) (hR:RV A) :
    uF A x qs 0=some (if x.Body.all (fun s=>stmtB s (x.Nest.length:Int) && qs.all (fun q=>stOk A s q && ptB q)) then .done () else .ret (0,false)):=by
  obtain ⟨b1,b2,b3⟩:=hx
  have hl:=zFj (r0:=((0:Int),false)) (n:=x.Body.length) (f:=uF A x qs) (P:=fun i=>(fun s=>stmtB s (x.Nest.length:Int) && qs.all (fun q=>stOk A s q && ptB q)) (x.Body.getD i ⟨⟨⟨[]⟩,[]⟩,EXz⟩)) (fun i hi=>by
      rw [uF]
      have h1:((i:Int) < (x.Body.length:Int)):=by omega
      have hg:x.Body.getD i ⟨⟨⟨[]⟩,[]⟩,EXz⟩=x.Body[i]:=by simp [hi]
      have hbs:=b3 _ (List.getElem_mem hi)
      simp only [h1,decide_true,if_true,yT hi,oB,oS,specStmt _ _ hbs,hg]
      rw [vR (by omega)]
      cases hst:stmtB x.Body[i] (x.Nest.length:Int) with
      | false=>simp
      | true =>
        simp only [Bool.not_true,bF,if_false,zGw A x qs hq hql i hi hst hbs hR,Bool.true_and]
        cases qs.all (fun q=>stOk A x.Body[i] q && ptB q) <;> simp) (by
      rw [uF]; simp)
  rw [hl,gF x.Body (fun s=>stmtB s (x.Nest.length:Int) && qs.all (fun q=>stOk A s q && ptB q))]
theorem zJD {A:List zG}{x:zN}{qs:List (List Int)} (h1:1 ≤ x.Body.length) :
    (x.Body.all (fun s=>stmtB s (x.Nest.length:Int) && qs.all (fun q=>stOk A s q && ptB q)))=((x.Body.all fun s=>stmtB s (x.Nest.length:Int)) && qs.all (ptOk A x)):=by
  rw [Bool.eq_iff_iff,Bool.and_eq_true,List.all_eq_true,List.all_eq_true,List.all_eq_true]
  constructor
  · intro h
    refine ⟨fun s hs=>((Bool.and_eq_true _ _).mp (h s hs)).1,fun q hq=>?_⟩
    have hall:∀ s ∈ x.Body,stOk A s q=true∧ptB q=true:=fun s hs=>by
      have:=((Bool.and_eq_true _ _).mp (h s hs)).2
      have:=List.all_eq_true.1 this q hq
      rwa [Bool.and_eq_true] at this
    rw [ptOk,Bool.and_eq_true,List.all_eq_true]
    exact ⟨(hall x.Body[0] (List.getElem_mem (by omega))).2,fun s hs=>(hall s hs).1⟩
  · rintro ⟨h2,h3⟩ s hs
    rw [Bool.and_eq_true,List.all_eq_true]
    refine ⟨h2 s hs,fun q hq=>?_⟩
    have:=h3 q hq
    rw [ptOk,Bool.and_eq_true,List.all_eq_true] at this
    rw [Bool.and_eq_true]
    exact ⟨this.2 s hs,this.1⟩
theorem specPart (A:List zG) (x:zN) (hx:BP x) (hR:RV A):pD A x=some (if partB A x then (((nestPts x.Nest).1.length * x.Body.length:Nat):Int) else 0,partB A x):=by
  have hnl:=zAs (nest:=x.Nest);have hl:=zGx A x hx (nestPts x.Nest).1 hnl.2 hnl.1 hR;obtain ⟨b1,b2,b3⟩:=hx;unfold pD partB;rw [specPoints _ b1];cases hn:(nestPts x.Nest).2 with
  | false=>simp [hn]
  | true =>
    by_cases q1:1 ≤ x.Body.length
    · have q1':¬((x.Body.length:Int) < 1):=by omega
      by_cases q2:x.Body.length ≤ 4
      · have q2':¬((x.Body.length:Int) > 4):=by omega
        have hm:(nestPts x.Nest).1.length * x.Body.length ≤ 120 * 4:=Nat.mul_le_mul hnl.1 q2;have hW:W (((nestPts x.Nest).1.length:Int) * (x.Body.length:Int))=(((nestPts x.Nest).1.length * x.Body.length:Nat):Int):=by
          rw [← Int.natCast_mul]; exact sT (by omega) (by omega)
        have hb:bodyB x=x.Body.all fun s=>stmtB s (x.Nest.length:Int):=by simp [bodyB,q1,q2]
        have hsw:=zJD (A:=A) (qs:=(nestPts x.Nest).1) q1;rw [hsw] at hl;have hpt:((nestPts x.Nest).1.all fun q=>ptB q && x.Body.all fun s=>stOk A s q)=(nestPts x.Nest).1.all (ptOk A x):=rfl;simp only [hn,Bool.not_true,bF,if_false,q1',q2',decide_false,oP,oB,oS,hl,hb,hpt,hW,Bool.true_and];cases ((x.Body.all fun s=>stmtB s (x.Nest.length:Int)) && (nestPts x.Nest).1.all (ptOk A x)) <;> simp
      · have q2':((x.Body.length:Int) > 4):=by omega
        have hb:bodyB x=false:=by simp [bodyB,q2]
        simp [hn,q1',q2',hb]
    · have q1':((x.Body.length:Int) < 1):=by omega
      have hb:bodyB x=false:=by simp [bodyB,q1]
      simp [hn,q1',hb]
theorem zFA (P:zJ) (hP:P.Parts.length ≤ 4) (hb:∀ x ∈ P.Parts,BP x) (hR:RV P.Arrays) :
    ∀ (j i t:Nat),i + j=P.Parts.length→t ≤ 480 * i→wA P (t:Int) (i:Int)=some (if (List.range' i j).all (fun i=>partB P.Arrays (gP P i)) then .done (((t + ((List.range' i j).flatMap fun (i:Nat)=>partI (i:Int) (gP P i)).length:Nat)):Int) else .ret false):=by
  intro j
  induction j with
  | zero =>
    intro i t hi ht
    rw [wA]
    have:¬((i:Int) < (P.Parts.length:Int)):=by omega
    simp only [this,decide_false,bF,if_false]
    simp
  | succ j ih =>
    intro i t hi ht
    rw [wA]
    have hlt:i < P.Parts.length:=by omega
    have hc:((i:Int) < (P.Parts.length:Int)):=by omega
    have hg:gP P i=P.Parts[i]:=by simp [gP,hlt]
    simp only [hc,decide_true,if_true,yT hlt,oB,oS,specPart P.Arrays _ (hb _ (List.getElem_mem hlt)) hR]
    rw [vR (by omega),List.range'_succ,List.all_cons,List.flatMap_cons,hg]
    cases hp:partB P.Arrays P.Parts[i] with
    | false=>simp
    | true =>
      have hle:=zEz (i:Int) hp
      have hpl:=zFi (i:Int) P.Parts[i]
      rw [hpl] at hle
      have hW:W ((t:Int) + (((nestPts P.Parts[i].Nest).1.length * P.Parts[i].Body.length:Nat):Int))=((t + (nestPts P.Parts[i].Nest).1.length * P.Parts[i].Body.length:Nat):Int):=by
        rw [sT (by omega) (by omega)]; omega
      simp only [if_true,Bool.not_true,bF,if_false,Bool.true_and,hW]
      rw [ih (i + 1) _ (by omega) (by omega),List.length_append,hpl,Nat.add_assoc]
theorem specValidP (P:zJ) (h:BG P):vV P=some (validP P):=by
  obtain ⟨h1,h2,h3⟩:=h;unfold vV validP progB;rw [specArrays _ h1];cases ha:arrB P.Arrays with
  | false=>simp
  | true =>
    by_cases h4:P.Parts.length ≤ 4
    · have e:¬((P.Parts.length:Int) > 4):=by omega
      have hl:=zFA P h4 h3 (RV.of h1 ha) _ 0 0 (Nat.zero_add _) (by simp);rw [Int.natCast_zero,Nat.zero_add] at hl;simp only [Bool.not_true,bF,if_false,e,decide_false,oP,oB,oS,hl,h4,decide_true,Bool.true_and];cases hA:(List.range' 0 P.Parts.length).all fun i=>partB P.Arrays (gP P i) with
      | false=>simp
      | true =>
        simp only [if_true,progI,Bool.true_and]
        congr 1
        simp; omega
    · have e:((P.Parts.length:Int) > 4):=by omega
      simp [e,h4]
end Go.LN
namespace Go.LN
theorem gH {α:Type}{l:List α}{f:Int→List α→Option (List α)} (step:∀ (i:Nat) (h:i < l.length) (o:List α),o.length=i→f (i:Int) o=f ((i + 1:Nat):Int) (o ++ [l[i]])) (fin:∀ o,f (l.length:Int) o=some o):f 0 []=some l:=by
  have key:∀ j i,i + j=l.length→f (i:Int) (l.take i)=some l:=by
    intro j
    induction j with
    | zero =>
      intro i hi;rw [show i=l.length by omega,fin,List.take_of_length_le (Nat.le_refl _)]
    | succ j ih =>
      intro i hi;have hlt:i < l.length:=by omega
      have:=ih (i + 1) (by omega);rw [List.take_add_one,List.getElem?_eq_getElem hlt,Option.toList_some] at this;rw [step i hlt _ (by rw [List.length_take]; omega)];exact this
  exact key _ 0 (Nat.zero_add _)
theorem copyExpr:∀ (m:Nat) (e:zF),BE m e→rJ e=some e
  | m,e,h=>by
    obtain ⟨h1,h2,h3⟩:=h.own
    rw [rJ]
    have hl:=gH (l:=e.Kids) (f:=fun i o=>vD e i o) (fun i hi o ho=>by
        show vD e (i:Int) o=_
        rw [vD]
        have k1:((i:Int) < (e.Kids.length:Int)):=by omega
        obtain ⟨m',hm,hm'⟩:=h.kid (List.getElem_mem hi)
        have happ:app 112 o [e.Kids[i]]=some (o ++ [e.Kids[i]]):=qX (by simp; omega)
        have hr:=copyExpr m' e.Kids[i] hm'
        simp only [k1,decide_true,if_true,yT hi,oB,oS,same,hr,happ]
        rw [vR (by omega)]) (fun o=>by
        show vD e (e.Kids.length:Int) o=_
        rw [vD]; simp)
    simp only [specCopyAff _ h1,specCopyAcc _ h2,oB,oS,same]
    rw [show vD e 0 []=some e.Kids from hl]
    clear hl h h1 h2 h3
    cases e; rfl
theorem copyStmt (s:zR) (h:BS s):mT s=some s:=by
  obtain ⟨h1,m,h2⟩:=h;unfold mT;rw [specCopyAcc _ h1,copyExpr m _ h2];rfl
theorem copyNest (nest:List zH) (h:BN nest):pY nest=some nest:=by
  obtain ⟨h1,h2⟩:=h;unfold pY;have hl:=gH (l:=nest) (f:=fun i o=>uA nest o i) (fun i hi o ho=>by
      show uA nest o (i:Int)=_;rw [uA];have k1:((i:Int) < (nest.length:Int)):=by omega
      obtain ⟨⟨q1,q2⟩,q3,q4⟩:=h2 _ (List.getElem_mem hi);have happ:app 48 o [nest[i]]=some (o ++ [nest[i]]):=qX (by simp; omega);have hlo:=gH (l:=nest[i].Lo) (f:=fun k o=>tW nest (i:Int) k o) (fun k hk o ho=>by
          show tW nest (i:Int) (k:Int) o=_;rw [tW];have k2:((k:Int) < (nest[i].Lo.length:Int)):=by omega
          have hp:app 32 o [nest[i].Lo[k]]=some (o ++ [nest[i].Lo[k]]):=qX (by simp; omega);have ha:=q2 _ (List.getElem_mem hk);have hpn:app 8 ([]:List Int) nest[i].Lo[k].Coefs=some nest[i].Lo[k].Coefs:=fI _ (by unfold BA at ha; omega);simp only [yT hi,k2,decide_true,if_true,yT hk,oB,oS,hpn,hp];rw [vR (by omega)]) (fun o=>by
          show tW nest (i:Int) (nest[i].Lo.length:Int) o=_;rw [tW]; simp [yT hi])
      have hhi:=gH (l:=nest[i].Hi) (f:=fun k o=>tX nest (i:Int) k o) (fun k hk o ho=>by
          show tX nest (i:Int) (k:Int) o=_;rw [tX];have k2:((k:Int) < (nest[i].Hi.length:Int)):=by omega
          have hp:app 32 o [nest[i].Hi[k]]=some (o ++ [nest[i].Hi[k]]):=qX (by simp; omega);have ha:=q4 _ (List.getElem_mem hk);have hpn:app 8 ([]:List Int) nest[i].Hi[k].Coefs=some nest[i].Hi[k].Coefs:=fI _ (by unfold BA at ha; omega);simp only [yT hi,k2,decide_true,if_true,yT hk,oB,oS,hpn,hp];rw [vR (by omega)]) (fun o=>by
          show tX nest (i:Int) (nest[i].Hi.length:Int) o=_;rw [tX]; simp [yT hi])
      simp only [k1,decide_true,if_true,oB,oS,hlo,hhi,happ];rw [vR (by omega)]) (fun o=>by
      show uA nest o (nest.length:Int)=_;rw [uA]; simp)
  rw [hl]; rfl
theorem copyProg (P:zJ) (h:BG P):rD P=some P:=by
  obtain ⟨⟨h1,h1'⟩,h2,h3⟩:=h;unfold rD;have ha:=gH (l:=P.Arrays) (f:=fun i o=>tY P i o) (fun i hi o ho=>by
      show tY P (i:Int) o=_;rw [tY];have k1:((i:Int) < (P.Arrays.length:Int)):=by omega
      have hd:=h1' _ (List.getElem_mem hi);have happ:app 40 o [P.Arrays[i]]=some (o ++ [P.Arrays[i]]):=qX (by simp; omega);have hpn:app 8 ([]:List Int) P.Arrays[i].Dims=some P.Arrays[i].Dims:=fI _ (by omega);simp only [k1,decide_true,if_true,yT hi,oB,oS,hpn,happ];rw [vR (by omega)]) (fun o=>by
      show tY P (P.Arrays.length:Int) o=_;rw [tY]; simp)
  have hp:=gH (l:=P.Parts) (f:=fun i o=>uB P i o) (fun i hi o ho=>by
      show uB P (i:Int) o=_;rw [uB];have k1:((i:Int) < (P.Parts.length:Int)):=by omega
      obtain ⟨b1,b2,b3⟩:=h3 _ (List.getElem_mem hi);have happ:app 48 o [P.Parts[i]]=some (o ++ [P.Parts[i]]):=qX (by simp; omega);have hb:=gH (l:=P.Parts[i].Body) (f:=fun k o=>tZ P (i:Int) k o) (fun k hk o ho=>by
          show tZ P (i:Int) (k:Int) o=_;rw [tZ];have k2:((k:Int) < (P.Parts[i].Body.length:Int)):=by omega
          have hp:app 152 o [P.Parts[i].Body[k]]=some (o ++ [P.Parts[i].Body[k]]):=qX (by simp; omega);simp only [yT hi,k2,decide_true,if_true,yT hk,oB,oS,copyStmt _ (b3 _ (List.getElem_mem hk)),hp];rw [vR (by omega)]) (fun o=>by
          show tZ P (i:Int) (P.Parts[i].Body.length:Int) o=_;rw [tZ]; simp [yT hi])
      simp only [k1,decide_true,if_true,yT hi,oB,oS,copyNest _ b1,hb,happ];rw [vR (by omega)]) (fun o=>by
      show uB P (P.Parts.length:Int) o=_;rw [uB]; simp)
  rw [ha,hp]; rfl
end Go.LN
namespace Go.LN
theorem BE.up1:∀ {n:Nat}{e:zF},BE n e→BE (n + 1) e
  | 0,e,⟨h1,h2,h3⟩=>⟨h1,h2,by rw [h3]; simp,by rw [h3]; intro k hk; cases hk⟩
  | n + 1,e,⟨h1,h2,h3,h4⟩=>⟨h1,h2,h3,fun k hk=>BE.up1 (h4 k hk)⟩
theorem BE.up {n m:Nat}{e:zF} (h:BE n e) (hm:n ≤ m):BE m e:=by
  obtain ⟨k,rfl⟩:=Nat.exists_eq_add_of_le hm
  induction k with
  | zero=>exact h
  | succ k ih=>exact BE.up1 (ih (by omega))
def QL (q:Nat) (l:List zA):Prop:=l.length ≤ q∧∀ a ∈ l,BA a
def QN (q:Nat) (nest:List zH):Prop:=nest.length ≤ 2000∧∀ x ∈ nest,QL q x.Lo∧QL q x.Hi
def QS (q:Nat) (s:zR):Prop:=QL q s.Write.Subs∧BA s.Value.Index∧BL s.Value.Read.Subs∧s.Value.Kids.length ≤ q∧∀ k ∈ s.Value.Kids,BE 6 k
theorem QL.up {q r:Nat}{l:List zA} (h:QL q l) (hq:q ≤ r):QL r l:=⟨Nat.le_trans h.1 hq,h.2⟩
theorem QL.bl {q:Nat}{l:List zA} (h:QL q l) (hq:q ≤ 1000):BL l:=⟨Nat.le_trans h.1 hq,h.2⟩
theorem QL.app {q k:Nat}{l m:List zA} (h:QL q l) (hm:QL k m):QL (q + k) (l ++ m):=by
  refine ⟨by rw [List.length_append]; exact Nat.add_le_add h.1 hm.1,fun a ha=>?_⟩;rcases List.mem_append.1 ha with ha | ha
  · exact h.2 a ha
  · exact hm.2 a ha
theorem QL.nil {q:Nat}:QL q []:=⟨Nat.zero_le _,fun _ h=>by cases h⟩
theorem QL.one {a:zA} (h:BA a):QL 1 [a]:=⟨Nat.le_refl _,fun _ h'=>List.mem_singleton.1 h' ▸ h⟩
theorem QL.two {a b:zA} (h:BA a) (h2:BA b):QL 2 [a,b]:=QL.app (QL.one h) (QL.one h2)
theorem QN.up {q r:Nat}{l:List zH} (h:QN q l) (hq:q ≤ r):QN r l:=⟨h.1,fun x hx=>⟨(h.2 x hx).1.up hq,(h.2 x hx).2.up hq⟩⟩
theorem QN.bn {q:Nat}{l:List zH} (h:QN q l) (hq:q ≤ 1000):BN l:=⟨by have:=h.1; omega,fun x hx=>⟨(h.2 x hx).1.bl hq,(h.2 x hx).2.bl hq⟩⟩
theorem QN.set {q:Nat}{l:List zH} (h:QN q l) {x:zH} (hx:QL q x.Lo∧QL q x.Hi) (k:Nat):QN q (l.set k x):=⟨by rw [List.length_set]; exact h.1,zEC h.2 hx k⟩
theorem QS.up {q r:Nat}{s:zR} (h:QS q s) (hq:q ≤ r):QS r s:=⟨h.1.up hq,h.2.1,h.2.2.1,Nat.le_trans h.2.2.2.1 hq,h.2.2.2.2⟩
theorem QS.bs {q:Nat}{s:zR} (h:QS q s) (hq:q ≤ 1000):BS s:=⟨h.1.bl hq,7,h.2.1,h.2.2.1,by have:=h.2.2.2.1; omega,h.2.2.2.2⟩
theorem zFk {a:zA} (h:a.Coefs.length=4):BA a:=by unfold BA; omega
theorem zHk (q:Nat):∀ (j:Nat) (out:List zH),5 ≤ out.length + j→1 ≤ out.length→QN q out→Ok (sU out) (QN q)
  | 0,out,hj,h1,h=>by
    rw [sU]
    refine Ok.ite_dec (fun hc=>absurd hc (by omega)) fun _=>Ok.pure h
  | j + 1,out,hj,h1,h=>by
    rw [sU]
    refine Ok.ite_dec (fun hc=>?_) fun _=>Ok.pure h
    refine Ok.idx (by omega) (by omega) fun x hx _=>Ok.app (by simp; omega) ?_
    refine zHk q j _ (by rw [List.length_append]; simp; omega) (by rw [List.length_append]; omega) ⟨by rw [List.length_append]; simp; omega,fun y hy=>?_⟩
    rcases List.mem_append.1 hy with hy | hy
    · exact h.2 y hy
    · rw [List.mem_singleton.1 hy]; exact h.2 x hx
theorem mut2 (q:Nat) (hq:q ≤ 300) (r:zO) (nest:List zH) (h:QN q nest) (h0:0 ≤ r.p) (h1:r.p ≤ 900000000):Ok (pL r nest) (fun y=>QN (q + 2) y.1∧0 ≤ y.2.p∧y.2.p ≤ r.p + 2):=by
  have hup:=h.up (show q ≤ q + 2 by omega);unfold pL;rw [copyNest nest (h.bn (by omega))];refine Ok.bind_some (Ok.ite_beq (fun _=>Ok.pure ⟨hup,h0,by dsimp only; omega⟩) fun hne=>?_);have hpos:0 < nest.length:=by omega
  have hlen:=h.1;have hW:W ((nest.length:Int) - 1)=((nest.length - 1:Nat):Int):=by rw [sT (by omega) (by omega)]; omega
  refine Ok.call (jV r 40) ⟨h0,by omega⟩ fun y2 s g1 g2 g3=>?_;refine Ok.ite_beq (fun _=>?_) fun _=>Ok.ite_beq (fun _=>?_) fun _=>Ok.ite_beq (fun _=>?_) fun _=>Ok.ite_beq (fun _=>?_) fun _=>Ok.ite_beq (fun _=>?_) fun _=>?_
  · refine Ok.idx (by omega) (by omega) fun x hx _=>Ok.call (jV s 2) ⟨by omega,by omega⟩ fun y5 s2 k1 k2 k3=>Ok.call (zAy y5) ⟨k1,by omega⟩ fun a c1 c2=>?_;have hxx:=h.2 x hx;refine Ok.app (by have:=hxx.1.1; simp; omega) (Ok.pure ⟨QN.set (x:=⟨x.Lo ++ [a],x.Hi⟩) hup ⟨(hxx.1.app (QL.one (zFk c1))).up (show q + 1 ≤ q + 2 by omega),hxx.2.up (show q ≤ q + 2 by omega)⟩ _,by dsimp only; omega,by dsimp only; omega⟩)
  · rw [hW];refine Ok.idx (by omega) (by omega) fun x hx _=>?_;have hxx:=h.2 x hx;exact Ok.pure ⟨QN.set (x:=⟨x.Lo,[]⟩) hup ⟨hxx.1.up (show q ≤ q + 2 by omega),QL.nil⟩ _,by dsimp only; omega,by dsimp only; omega⟩
  · rw [hW];refine Ok.idx (by omega) (by omega) fun x hx _=>Ok.call (nF 1) trivial (Ok.call (nF 2) trivial ?_);have hxx:=h.2 x hx;exact Ok.app (by have:=hxx.2.1; simp; omega) (Ok.pure ⟨QN.set (x:=⟨x.Lo,x.Hi ++ [⟨[0,0,0,0],1⟩,⟨[0,0,0,0],2⟩]⟩) hup ⟨hxx.1.up (show q ≤ q + 2 by omega),hxx.2.app (QL.two (zFk rfl) (zFk rfl))⟩ _,by dsimp only; omega,by dsimp only; omega⟩)
  · refine Ok.call (nF 99) trivial (Ok.idx (by omega) (by omega) fun x hx _=>?_);have hxx:=h.2 x hx;exact Ok.pure ⟨QN.set (x:=⟨x.Lo,[⟨[0,0,0,0],99⟩]⟩) hup ⟨hxx.1.up (show q ≤ q + 2 by omega),(QL.one (zFk rfl)).up (show 1 ≤ q + 2 by omega)⟩ _,by dsimp only; omega,by dsimp only; omega⟩
  · refine Ok.bind (zHk q 5 nest (by omega) hpos h) fun z hz=>Ok.pure ⟨hz.up (by omega),by dsimp only; omega,by dsimp only; omega⟩
  · exact Ok.pure ⟨hup,by dsimp only; omega,by dsimp only; omega⟩
theorem mut3 (q:Nat) (hq:q ≤ 300) (r:zO) (s:zR) (h:QS q s) (h0:0 ≤ r.p) (h1:r.p ≤ 900000000):Ok (tU r s) (fun y=>QS (q + 2) y.1∧0 ≤ y.2.p∧y.2.p ≤ r.p + 2):=by
  obtain ⟨w1,w2,w3,w4,w5⟩:=h.up (show q ≤ q + 2 by omega);obtain ⟨v1,_,_,v4,_⟩:=id h;have v11:=v1.1;unfold tU;rw [copyStmt s (h.bs (by omega))];refine Ok.bind_some (Ok.call (jV r 40) ⟨h0,by omega⟩ fun y2 y3 g1 g2 g3=>?_);have fin:∀ (o:Str×List zA×Int×Int×List zF×zO),(QL (q + 2) o.2.1∧(o.2.2.2.2.1.length ≤ q + 2∧∀ k ∈ o.2.2.2.2.1,BE 6 k)∧0 ≤ o.2.2.2.2.2.p∧o.2.2.2.2.2.p ≤ r.p + 2)→QS (q + 2) (zR.mk (zK.mk o.1 o.2.1) (zF.mk o.2.2.1 o.2.2.2.1 s.Value.Index s.Value.Read o.2.2.2.2.1))∧0 ≤ o.2.2.2.2.2.p∧o.2.2.2.2.2.p ≤ r.p + 2 :=
    fun o ⟨a,b,c⟩=>⟨⟨a,w2,w3,b.1,b.2⟩,c⟩
  refine Ok.bind (φ:=fun o:Str×List zA×Int×Int×List zF×zO=>QL (q + 2) o.2.1∧(o.2.2.2.2.1.length ≤ q + 2∧∀ k ∈ o.2.2.2.2.1,BE 6 k)∧0 ≤ o.2.2.2.2.2.p∧o.2.2.2.2.2.p ≤ r.p + 2) ?_ fun o ho=>by
    obtain ⟨o1,o2,o3,o4,o5,o6⟩:=o;exact Ok.pure (fin _ ho)
  refine Ok.ite_beq (fun _=>?_) fun _=>?_
  · exact Ok.call (zAP y3 _) ⟨by decide,by omega,by omega⟩ fun z t _ k3=>Ok.pure ⟨w1,⟨w4,w5⟩,by dsimp only; omega,by dsimp only; omega⟩
  refine Ok.bind (φ:=fun o:List zA×Int×Int×List zF×zO=>QL (q + 2) o.1∧(o.2.2.2.1.length ≤ q + 2∧∀ k ∈ o.2.2.2.1,BE 6 k)∧0 ≤ o.2.2.2.2.p∧o.2.2.2.2.p ≤ r.p + 2) ?_ fun o ho=>by
    obtain ⟨o2,o3,o4,o5,o6⟩:=o;exact Ok.pure ho
  refine Ok.ite_beq (fun _=>?_) fun _=>?_
  · exact Ok.call (zAy 3) (by omega) fun a c1 c2=>Ok.call gE trivial (Ok.app (by simp; omega) (Ok.pure ⟨v1.app (QL.two (zFk c1) (zFk rfl)),⟨w4,w5⟩,by dsimp only; omega,by dsimp only; omega⟩))
  refine Ok.bind (φ:=fun o:Int×Int×List zF×zO=>(o.2.2.1.length ≤ q + 2∧∀ k ∈ o.2.2.1,BE 6 k)∧0 ≤ o.2.2.2.p∧o.2.2.2.p ≤ r.p + 2) ?_ fun o ho=>by
    obtain ⟨o3,o4,o5,o6⟩:=o;exact Ok.pure ⟨w1,ho⟩
  refine Ok.ite_beq (fun _=>?_) fun _=>?_
  · exact Ok.call (uN y3 _) ⟨by decide,by omega,by omega,by decide⟩ fun z t _ _ k3=>Ok.pure ⟨⟨w4,w5⟩,by dsimp only; omega,by dsimp only; omega⟩
  refine Ok.bind (φ:=fun o:Int×List zF×zO=>(o.2.1.length ≤ q + 2∧∀ k ∈ o.2.1,BE 6 k)∧0 ≤ o.2.2.p∧o.2.2.p ≤ r.p + 2) ?_ fun o ho=>by
    obtain ⟨o4,o5,o6⟩:=o;exact Ok.pure ho
  refine Ok.ite_beq (fun _=>?_) fun _=>?_
  · exact Ok.call (uN y3 _) ⟨by decide,by omega,by omega,by decide⟩ fun z t _ _ k3=>Ok.pure ⟨⟨w4,w5⟩,by dsimp only; omega,by dsimp only; omega⟩
  refine Ok.bind (φ:=fun o:List zF=>o.length ≤ q + 2∧∀ k ∈ o,BE 6 k) ?_ fun o ho=>Ok.pure ⟨ho,by dsimp only; omega,by dsimp only; omega⟩;refine Ok.ite_beq (fun _=>?_) fun _=>Ok.pure ⟨w4,w5⟩;refine Ok.app (by show (_ + 1) * 112 ≤ _; omega) (Ok.pure ⟨by show (_ ++ _:List zF).length ≤ _; rw [List.length_append]; show _ + 1 ≤ _; omega,fun k hk=>?_⟩);rcases List.mem_append.1 hk with hk | hk
  · exact w5 k hk
  · rw [List.mem_singleton.1 hk];exact BE.up (n:=0) ⟨Nat.zero_le _,⟨Nat.zero_le _,fun _ h=>by cases h⟩,rfl⟩ (by omega)
end Go.LN
namespace Go.LN
def DX (x:zN):Prop:=QN 100 x.Nest∧x.Body.length ≤ 1000∧∀ s ∈ x.Body,QS 100 s
def DP (P:zJ):Prop:=(P.Arrays.length ≤ 1000∧∀ a ∈ P.Arrays,a.Dims.length ≤ 1000)∧P.Parts.length ≤ 1000∧∀ x ∈ P.Parts,DX x
theorem DX.bp {x:zN} (h:DX x):BP x:=⟨h.1.bn (by omega),by have:=h.2.1; omega,fun s hs=>(h.2.2 s hs).bs (by omega)⟩
theorem DP.bg {P:zJ} (h:DP P):BG P:=⟨⟨by have:=h.1.1; omega,h.1.2⟩,by have:=h.2.1; omega,fun x hx=>(h.2.2 x hx).bp⟩
def PB (l:List zN):Prop:=l.length ≤ 1000∧∀ x ∈ l,BP x
theorem PB.set {l:List zN} (h:PB l) {x:zN} (hx:BP x) (k:Nat):PB (l.set k x):=⟨by rw [List.length_set]; exact h.1,zEC h.2 hx k⟩
def AR (l:List zG):Prop:=l.length ≤ 2000∧∀ a ∈ l,a.Dims.length ≤ 1000
def RD (s:zO):Prop:=0 ≤ s.p∧s.p ≤ 700001000
theorem mut4 (r:zO) (P:zJ) (h:DP P) (h0:0 ≤ r.p) (h1:r.p ≤ 700000000):Ok (pM r P) (fun y=>(BG y.1∧AR y.1.Arrays)∧RD y.2):=by
  obtain ⟨⟨a1,a2⟩,p1,p2⟩:=id h;have hA:AR P.Arrays:=⟨by omega,a2⟩;have hP:PB P.Parts:=⟨p1,fun x hx=>(p2 x hx).bp⟩;have hW:0 < P.Parts.length→W ((P.Parts.length:Int) - 1)=((P.Parts.length - 1:Nat):Int):=fun hp=>by rw [sT (by omega) (by omega)]; omega
  unfold pM;rw [copyProg P h.bg];refine Ok.bind_some (Ok.call (jV r 60) ⟨h0,by omega⟩ fun y2 y3 g1 g2 g3=>?_);have hR:RD y3:=⟨by omega,by omega⟩;refine Ok.bind (φ:=fun o:List zG×List zN×zO=>AR o.1∧PB o.2.1∧RD o.2.2) ?_ fun o ho=>by
    obtain ⟨o1,o2,o3⟩:=o;exact Ok.pure ⟨⟨⟨⟨by have:=ho.1.1; dsimp only at this ⊢; omega,ho.1.2⟩,by have:=ho.2.1.1; dsimp only at this ⊢; omega,ho.2.1.2⟩,ho.1⟩,ho.2.2⟩
  refine Ok.ite_beq (fun _=>?_) fun _=>?_
  · refine Ok.call (zAP y3 _) ⟨by decide,by omega,by omega⟩ fun z t _ k3=>Ok.call (uN t _) ⟨by decide,by omega,by omega,by decide⟩ fun z2 t2 _ _ k4=>Ok.app (by show (_ + 1) * 40 ≤ _; omega) (Ok.pure ⟨⟨by show (_ ++ _:List zG).length ≤ _; rw [List.length_append]; show _ + 1 ≤ _; omega,fun a ha=>?_⟩,hP,⟨by dsimp only; omega,by dsimp only; omega⟩⟩);rcases List.mem_append.1 ha with ha | ha
    · exact a2 a ha
    · rw [List.mem_singleton.1 ha]; show 1 ≤ 1000; omega
  refine Ok.bind (φ:=fun o:List zG×List zN×zO=>AR o.1∧PB o.2.1∧RD o.2.2) ?_ fun o ho=>by
    obtain ⟨o1,o2,o3⟩:=o;exact Ok.pure ho
  refine Ok.ite_beq (fun _=>?_) fun _=>?_
  · refine Ok.bind (φ:=fun o:List zG×zO=>AR o.1∧RD o.2) ?_ fun o ho=>by
      obtain ⟨o1,o3⟩:=o;exact Ok.pure ⟨ho.1,hP,ho.2⟩
    refine Ok.ite_dec (fun hc=>?_) fun _=>Ok.pure ⟨hA,hR⟩;refine Ok.call (uN y3 _) ⟨by decide,by omega,by omega,by decide⟩ fun z t _ _ k3=>Ok.idx (by omega) (by omega) fun x hx _=>Ok.bind_pure (Ok.pure ⟨⟨by show (List.set _ _ _).length ≤ _; rw [List.length_set]; exact hA.1,zEC hA.2 (show ([z]:List Int).length ≤ 1000 by simp) _⟩,⟨by dsimp only; omega,by dsimp only; omega⟩⟩)
  refine Ok.bind (φ:=fun o:List zN×zO=>PB o.1∧RD o.2) ?_ fun o ho=>by
    obtain ⟨o1,o3⟩:=o;exact Ok.pure ⟨hA,ho⟩
  refine Ok.ite_beq (fun _=>?_) fun _=>?_
  · refine Ok.bind (φ:=fun o:List zN×zO=>PB o.1∧RD o.2) ?_ fun o ho=>by
      obtain ⟨o1,o3⟩:=o;exact Ok.pure ho
    refine Ok.ite_dec (fun hc=>?_) fun _=>Ok.pure ⟨hP,hR⟩;refine Ok.idx (by omega) (by omega) fun x hx _=>?_;refine Ok.bind (mut2 100 (by omega) y3 x.Nest (p2 x hx).1 (by omega) (by omega)) fun q1 k1=>?_;obtain ⟨n1,s1⟩:=q1;obtain ⟨c1,c2,c3⟩:=k1;refine Ok.bind (mut2 (100 + 2) (by omega) s1 n1 c1 c2 (by dsimp only at c3; omega)) fun q2 k2=>?_;obtain ⟨n2,s2⟩:=q2;obtain ⟨d1,d2,d3⟩:=k2;refine Ok.bind (mut2 (100 + 2 + 2) (by omega) s2 n2 d1 d2 (by dsimp only at c3 d3; omega)) fun q3 k3=>?_;obtain ⟨n,s⟩:=q3;have hn:=k3.1;refine Ok.idx (by omega) (by omega) fun x7 hx7 _=>Ok.bind_pure (Ok.pure ⟨hP.set (x:=⟨n,x7.Body⟩) ⟨hn.bn (by omega),(p2 x7 hx7).bp.2.1,(p2 x7 hx7).bp.2.2⟩ _,⟨k3.2.1,by have:=k3.2.2; dsimp only at this c3 d3 ⊢; omega⟩⟩)
  refine Ok.bind (φ:=fun o:List zN×zO=>PB o.1∧RD o.2) ?_ fun o ho=>by
    obtain ⟨o1,o3⟩:=o;exact Ok.pure ho
  refine Ok.ite_beq (fun _=>?_) fun _=>?_
  · refine Ok.bind (φ:=fun b=>b=true→0 < P.Parts.length∧∀ x,P.Parts[P.Parts.length - 1]?=some x→0 < x.Body.length) ?_ fun b hb=>?_
    · refine Ok.ite_dec (fun hc=>?_) fun _=>Ok.pure (fun h=>by cases h);have hp:0 < P.Parts.length:=by omega
      rw [hW hp];refine Ok.idx (by omega) (by omega) fun x hx he=>Ok.pure fun hd=>⟨hp,fun x' hx'=>?_⟩;rw [iN] at he;rw [he] at hx';cases hx'
      have:=of_decide_eq_true hd;omega
    · refine Ok.bind (φ:=fun o:List zN×zO=>PB o.1∧RD o.2) ?_ fun o ho=>by
        obtain ⟨o1,o3⟩:=o;exact Ok.pure ho
      refine Ok.ite (fun hc=>?_) fun _=>Ok.pure ⟨hP,hR⟩;obtain ⟨hp,hbody⟩:=hb hc;rw [hW hp];refine Ok.idx (by omega) (by omega) fun x hx he=>?_;rw [iN] at he;have hb0:=hbody x he;have hdx:=p2 x hx;refine Ok.idx (by omega) (by omega) fun x0 hx0 _=>?_;refine Ok.bind (mut3 100 (by omega) y3 x0 (hdx.2.2 x0 hx0) (by omega) (by omega)) fun q1 k1=>?_;obtain ⟨n1,s1⟩:=q1;obtain ⟨c1,c2,c3⟩:=k1;refine Ok.bind (mut3 (100 + 2) (by omega) s1 n1 c1 c2 (by dsimp only at c3; omega)) fun q2 k2=>?_;obtain ⟨n2,s2⟩:=q2;obtain ⟨d1,d2,d3⟩:=k2;refine Ok.bind (mut3 (100 + 2 + 2) (by omega) s2 n2 d1 d2 (by dsimp only at c3 d3; omega)) fun q3 k3=>?_;obtain ⟨n,s⟩:=q3;have hn:=k3.1;refine Ok.bind_pure (Ok.pure ⟨hP.set (x:=⟨x.Nest,x.Body.set 0 n⟩) ⟨hdx.bp.1,by rw [List.length_set]; exact hdx.bp.2.1,zEC hdx.bp.2.2 (hn.bs (by omega)) _⟩ _,⟨k3.2.1,by have:=k3.2.2; dsimp only at this c3 d3 ⊢; omega⟩⟩)
  refine Ok.bind (φ:=fun o:List zN=>PB o) ?_ fun o ho=>Ok.pure ⟨ho,hR⟩;refine Ok.ite_beq (fun _=>?_) fun _=>Ok.pure hP;refine Ok.bind (φ:=fun o:List zN=>PB o) ?_ fun o ho=>Ok.pure ho;refine Ok.ite_dec (fun hc=>?_) fun _=>Ok.pure hP;have hp:0 < P.Parts.length:=by omega
  rw [hW hp];refine Ok.idx (by omega) (by omega) fun x hx he=>Ok.bind_pure (Ok.pure (hP.set (x:=⟨x.Nest,[]⟩) ⟨(p2 x hx).bp.1,by show 0 ≤ 100000; omega,fun _ h=>by cases h⟩ _))
theorem SE.be:∀ {n:Nat}{e:zF},SE n e→BE n e
  | 0,e,⟨h1,h2,h3⟩=>⟨by have:=h1.1; unfold BA; omega,⟨by have:=h2.2.1; omega,fun a ha=>by have:=(h2.2.2 a ha).1; unfold BA; omega⟩,h3⟩
  | n + 1,e,⟨h1,h2,h3,h4⟩=>⟨by have:=h1.1; unfold BA; omega,⟨by have:=h2.2.1; omega,fun a ha=>by have:=(h2.2.2 a ha).1; unfold BA; omega⟩,by omega,fun k hk=>SE.be (h4 k hk)⟩
theorem SS.qs {s:zR} (h:SS s):QS 100 s:=by
  obtain ⟨h1,h2⟩:=h;have hb:=SE.be h2;exact ⟨⟨h1.2.1,fun a ha=>by have:=(h1.2.2 a ha).1; unfold BA; omega⟩,hb.1,hb.2.1,by have:=h2.2.2.1; omega,fun k hk=>BE.up (n:=4) (m:=6) (hb.2.2.2 k hk) (by omega)⟩
theorem LL.ql {l:List zA} (h:LL l):QL 100 l:=⟨h.1,fun a ha=>by have:=(h.2 a ha).1; unfold BA; omega⟩
theorem SG.dp {P:zJ} (h:SG 1000 P):DP P:=by
  obtain ⟨⟨h1,h2⟩,h3,h4⟩:=h;refine ⟨⟨h1,fun a ha=>by have:=(h2 a ha).2; omega⟩,h3,fun x hx=>?_⟩;obtain ⟨⟨k1,k2⟩,k3,k4⟩:=h4 x hx;exact ⟨⟨by omega,fun y hy=>⟨(k2 y hy).1.ql,(k2 y hy).2.ql⟩⟩,k3,fun s hs=>(k4 s hs).qs⟩
end Go.LN
namespace Go.LN
theorem zJE {A:List zG}{x:zN} (h:partB A x=true):(nestPts x.Nest).1=pts x.Nest []∧nestB x.Nest=true∧(pts x.Nest []).length ≤ 120:=by
  simp only [partB,Bool.and_eq_true] at h;have h1:=h.1.1;unfold nestPts at h1 ⊢;split at h1
  · rename_i hc;rw [if_pos hc];exact ⟨rfl,hc.1,hc.2.2⟩
  · cases h1
theorem zGy (P:zJ) (i:Nat) (hi:i < P.Parts.length) (y:List (List Int)) (k:Nat) (hk:k < y.length) (hq:y[k].length ≤ 4) (hb:P.Parts[i].Body.length ≤ 4) :
    ∀ (j s:Nat) (o:List zP),s + j=P.Parts[i].Body.length→o.length + j ≤ 1000000→wG P (i:Int) y (k:Int) o (s:Int)=some (o ++ instR (i:Int) y[k] s j):=by
  intro j
  induction j with
  | zero =>
    intro s o hs ho
    rw [wG]
    have:¬((s:Int) < (P.Parts[i].Body.length:Int)):=by omega
    simp only [yT hi,this,decide_false,bF,if_false,oB,oS,oP]
    simp [instR]
  | succ j ih =>
    intro s o hs ho
    rw [wG]
    have hc:((s:Int) < (P.Parts[i].Body.length:Int)):=by omega
    have hpn:app 8 ([]:List Int) y[k]=some y[k]:=fI _ (by omega)
    have happ:app 40 o [(⟨(i:Int),(s:Int),y[k]⟩:zP)]=some (o ++ [⟨(i:Int),(s:Int),y[k]⟩]):=qX (by simp; omega)
    simp only [yT hi,hc,decide_true,if_true,yT hk,oB,oS,hpn,happ]
    rw [vR (by omega),ih (s + 1) _ (by omega) (by simp; omega),List.append_assoc]
    simp only [instR,List.range'_succ,List.map_cons,List.singleton_append]
theorem zGz (P:zJ) (i:Nat) (hi:i < P.Parts.length) (y:List (List Int)) (hy:y.length ≤ 120) (hq:∀ q ∈ y,q.length ≤ 4) (hb:P.Parts[i].Body.length ≤ 4) :
    ∀ (j k:Nat) (o:List zP),k + j=y.length→o.length + 4 * j ≤ 1000000→wH P (i:Int) y o (k:Int)=some (o ++ (y.drop k).flatMap fun q=>instR (i:Int) q 0 P.Parts[i].Body.length):=by
  intro j
  induction j with
  | zero =>
    intro k o hk ho
    rw [wH]
    have:¬((k:Int) < (y.length:Int)):=by omega
    simp only [this,decide_false,bF,if_false]
    rw [show y.drop k=[] from List.drop_eq_nil_iff.2 (by omega)]
    simp
  | succ j ih =>
    intro k o hk ho
    rw [wH]
    have hlt:k < y.length:=by omega
    have hc:((k:Int) < (y.length:Int)):=by omega
    have h3:=zGy P i hi y k hlt (hq _ (List.getElem_mem hlt)) hb P.Parts[i].Body.length 0 o (Nat.zero_add _) (by omega)
    rw [Int.natCast_zero] at h3
    simp only [hc,decide_true,if_true,oB,oS,h3]
    rw [vR (by omega),ih (k + 1) _ (by omega) (by rw [List.length_append,zD1]; omega),gC hlt,List.flatMap_cons,List.append_assoc]
theorem zHA (P:zJ) (hP:P.Parts.length ≤ 4) (hb:∀ i,i < P.Parts.length→partB P.Arrays (gP P i)=true) :
    ∀ (j i:Nat) (o:List zP),i + j=P.Parts.length→o.length ≤ 480 * i→wI P o (i:Int)=some (o ++ (List.range' i j).flatMap fun (i:Nat)=>partI (i:Int) (gP P i)):=by
  intro j
  induction j with
  | zero =>
    intro i o hi ho
    rw [wI]
    have:¬((i:Int) < (P.Parts.length:Int)):=by omega
    simp [this]
  | succ j ih =>
    intro i o hi ho
    rw [wI]
    have hlt:i < P.Parts.length:=by omega
    have hc:((i:Int) < (P.Parts.length:Int)):=by omega
    have hg:gP P i=P.Parts[i]:=by simp [gP,hlt]
    have hp:=hb i hlt
    rw [hg] at hp
    obtain ⟨p1,p2,p3⟩:=zJE hp
    obtain ⟨n1,n2⟩:=zED p2
    have hpp:=hp
    simp only [partB,Bool.and_eq_true] at hpp
    obtain ⟨_,q2,_⟩:=zAS hpp.1.2
    have hpts:=specPts P.Parts[i].Nest P.Parts[i].Nest [] [] n2 rfl (by simp) n1 (by simp)
    rw [List.nil_append,List.take_of_length_le (by omega)] at hpts
    have h2:=zGz P i hlt (pts P.Parts[i].Nest []) p3 (fun q hq=>by have:=zGL _ _ q hq; simp at this; omega) q2 _ 0 o (Nat.zero_add _) (by omega)
    rw [Int.natCast_zero,List.drop_zero] at h2
    simp only [hc,decide_true,if_true,yT hlt,oB,oS,hpts,h2]
    have hI:((pts P.Parts[i].Nest []).flatMap fun q=>instR (i:Int) q 0 P.Parts[i].Body.length)=partI (i:Int) P.Parts[i]:=by rw [partI,p1]
    have hle:=zEz (i:Int) hp
    rw [hI,vR (by omega),ih (i + 1) _ (by omega) (by rw [List.length_append]; omega),List.range'_succ,List.flatMap_cons,hg,List.append_assoc]
theorem kR {P:zJ} (h:validP P=true):arrB P.Arrays=true∧P.Parts.length ≤ 4∧(∀ i,i < P.Parts.length→partB P.Arrays (gP P i)=true)∧(progI P).length ≤ 120:=by
  simp only [validP,progB,Bool.and_eq_true,decide_eq_true_eq] at h;obtain ⟨⟨⟨h1,h2⟩,h3⟩,h4⟩:=h;exact ⟨h1,h2,fun i hi=>List.all_eq_true.1 h3 i (List.mem_range'_1.2 ⟨Nat.zero_le _,by omega⟩),h4⟩
end Go.LN
namespace Go.LN
def DA (x:zG):Prop:=(∃ d,x.Dims=[d]∧1 ≤ d∧d ≤ 6)∨∃ d e,x.Dims=[d,e]∧(1 ≤ d∧d ≤ 6)∧1 ≤ e∧e ≤ 6
theorem mul36 {d e:Int} (h1:1 ≤ d) (h2:d ≤ 6) (h3:1 ≤ e) (h4:e ≤ 6):1 ≤ d * e∧d * e ≤ 36:=by
  have:d=1∨d=2∨d=3∨d=4∨d=5∨d=6:=by omega
  rcases this with rfl | rfl | rfl | rfl | rfl | rfl <;> omega
theorem zKa {x:zG}{d:Int} (h:x.Dims=[d]) (h1:1 ≤ d) (h2:d ≤ 6):sizeF x=d:=by
  unfold sizeF;rw [h,szL,szL,Int.one_mul,sT (by omega) (by omega)]
theorem zKb {x:zG}{d e:Int} (h:x.Dims=[d,e]) (h1:1 ≤ d) (h2:d ≤ 6) (h3:1 ≤ e) (h4:e ≤ 6):sizeF x=d * e:=by
  unfold sizeF;have:=mul36 h1 h2 h3 h4;rw [h,szL,szL,szL,Int.one_mul,sT (x:=d) (by omega) (by omega),sT (by omega) (by omega)]
theorem DA.size {x:zG} (h:DA x):1 ≤ sizeF x∧sizeF x ≤ 36:=by
  rcases h with ⟨d,h,h1,h2⟩ | ⟨d,e,h,⟨h1,h2⟩,h3,h4⟩
  · rw [zKa h h1 h2]; omega
  · rw [zKb h h1 h2 h3 h4]; exact mul36 h1 h2 h3 h4
def nm (l:List zG) (i:Nat):Nat:=match (l.getD i ⟨⟨[]⟩,[]⟩).Name.l with | c::_=>c.toNat | []=>0
end Go.LN
namespace Go.LN
def permL (n:Nat):List Int→List Bool→Bool
  | [],_=>true
  | x::l,seen=>if 0 ≤ x∧x < (n:Int)∧seen.getD x.toNat true=false then permL n l (seen.set x.toNat true) else false
theorem zFl (s:List Bool) (i:Nat):(s.set i true).getD i true=true:=by
  rw [List.getD_eq_getElem?_getD,List.getElem?_set];by_cases h:i < s.length <;> simp [h]
theorem zFB (s:List Bool) {i j:Nat} (h:i ≠ j):(s.set i true).getD j true=s.getD j true:=by
  rw [List.getD_eq_getElem?_getD,List.getElem?_set,if_neg h,← List.getD_eq_getElem?_getD]
theorem zHB (n:Nat):∀ (l:List Int) (seen:List Bool),permL n l seen=true ↔ (∀ x ∈ l,0 ≤ x∧x < (n:Int)∧seen.getD x.toNat true=false)∧l.Nodup
  | [],seen=>by simp [permL]
  | x::l,seen=>by
    rw [permL]
    by_cases hx:0 ≤ x∧x < (n:Int)∧seen.getD x.toNat true=false
    · rw [if_pos hx,zHB n l _,List.nodup_cons]
      constructor
      · rintro ⟨h1,h2⟩
        refine ⟨fun y hy=>?_,fun hm=>?_,h2⟩
        · rcases List.mem_cons.1 hy with e | hy
          · rw [e]; exact hx
          · obtain ⟨k1,k2,k3⟩:=h1 y hy
            refine ⟨k1,k2,?_⟩
            by_cases e:x.toNat=y.toNat
            · rw [e,zFl] at k3; cases k3
            · rwa [zFB _ e] at k3
        · have:=(h1 x hm).2.2
          rw [zFl] at this; cases this
      · rintro ⟨h1,h2,h3⟩
        refine ⟨fun y hy=>?_,h3⟩
        obtain ⟨k1,k2,k3⟩:=h1 y (List.mem_cons_of_mem _ hy)
        refine ⟨k1,k2,?_⟩
        have e:x.toNat ≠ y.toNat:=fun e=>by
          have:x=y:=by have:=hx.1; omega
          exact h2 (this ▸ hy)
        rw [zFB _ e]; exact k3
    · rw [if_neg hx]
      constructor
      · intro h; cases h
      · rintro ⟨h1,_⟩
        exact absurd (h1 x (List.mem_cons_self ..)) hx
def permB (n:Nat) (l:List Int):Bool:=permL n l (List.replicate n false) && decide (l.length=n)
theorem zIJ (n:Nat) (l:List Int):permB n l=true ↔ ((∀ x ∈ l,0 ≤ x∧x < (n:Int))∧l.Nodup)∧l.length=n:=by
  unfold permB;rw [Bool.and_eq_true,zHB,decide_eq_true_eq];constructor
  · rintro ⟨⟨h1,h2⟩,h3⟩;exact ⟨⟨fun x hx=>⟨(h1 x hx).1,(h1 x hx).2.1⟩,h2⟩,h3⟩
  · rintro ⟨⟨h1,h2⟩,h3⟩;refine ⟨⟨fun x hx=>⟨(h1 x hx).1,(h1 x hx).2,?_⟩,h2⟩,h3⟩;have:=h1 x hx;have hlt:x.toNat < n:=by omega
    rw [List.getD_eq_getElem?_getD,List.getElem?_replicate,if_pos hlt]; rfl
end Go.LN
namespace Go.LN
theorem zH3 (n:Nat) (hn:n ≤ 1000000) (l:List Int) (hl:l.length ≤ 1048576):∀ (j i:Nat) (seen:List Bool),i + j=l.length→seen.length=n→rU l (n:Int) seen (i:Int)=some (if permL n (l.drop i) seen=true then .done () else .ret false):=by
  intro j
  induction j with
  | zero =>
    intro i seen hi hs;rw [rU];have:¬((i:Int) < (l.length:Int)):=by omega
    simp only [this,decide_false,bF,if_false];rw [List.drop_eq_nil_iff.2 (by omega)]; rfl
  | succ j ih =>
    intro i seen hi hs;rw [rU];have hlt:i < l.length:=by omega
    have hc:((i:Int) < (l.length:Int)):=by omega
    rw [gC hlt,permL];have hW:W ((n:Int) - 1)=(n:Int) - 1:=sT (by omega) (by omega);simp only [hc,decide_true,if_true,yT hlt,oB,oS,oE,hW];by_cases hr:0 ≤ l[i]∧l[i] < (n:Int)
    · obtain ⟨k,hk⟩:∃ k:Nat,l[i]=(k:Int):=⟨l[i].toNat,by omega⟩;have hks:k < seen.length:=by omega
      have hg:seen.getD k true=seen[k]:=by simp [hks]
      have h1:(0:Int) ≤ (k:Int):=by omega
      have h2:(k:Int) ≤ (n:Int) - 1:=by omega
      have h3:(k:Int) < (n:Int):=by omega
      rw [hk];simp only [h1,h2,h3,decide_true,Bool.and_self,Bool.not_true,bF,if_false,yT hks,oP,oS,id,iN,hg,true_and];cases hb:seen[k] with
      | true=>simp
      | false =>
        simp only [bF,if_false,if_true];rw [vR (by omega),ih (i + 1) _ (by omega) (by rw [List.length_set]; exact hs)]
    · have h4:(!(decide (0 ≤ l[i]) && decide (l[i] ≤ (n:Int) - 1)))=true:=by
        simp; omega
      have h5:¬(0 ≤ l[i]∧l[i] < (n:Int)∧seen.getD l[i].toNat true=false):=fun h=>hr ⟨h.1,h.2.1⟩;simp only [h4,if_true,if_neg h5,oP,oS,bF,if_false]
theorem zKc (n:Nat) (hn:n ≤ 1000000):mkrow 1 (n:Int) (false:Bool)=some (List.replicate n false):=by
  unfold mkrow;rw [if_pos ⟨by omega,by omega⟩,iN]
theorem implPerm (n:Nat) (hn:n ≤ 1000000) (l:List Int) (hl:l.length ≤ 1048576):kQ l (n:Int)=some (permB n l):=by
  unfold kQ permB;have h:=zH3 n hn l hl l.length 0 (List.replicate n false) (Nat.zero_add _) (List.length_replicate ..);rw [Int.natCast_zero,List.drop_zero] at h;simp only [zKc n hn,h,oB,oS];cases permL n l (List.replicate n false)
  · rfl
  · simp;by_cases e:l.length=n
    · simp [e]
    · have:¬((l.length:Int)=(n:Int)):=by omega
      simp [e,this]
theorem specInsts (P:zJ) (hv:validP P=true):tT P=some (progI P):=by
  obtain ⟨_,v2,v3,_⟩:=kR hv;have hl:=zHA P v2 v3 _ 0 [] (Nat.zero_add _) (by simp);rw [Int.natCast_zero,List.nil_append] at hl;simp only [oB,oS,tT,hl,oP,id];rfl
theorem implOrd (P:zJ) (h:BG P) (l:List Int) (hl:l.length ≤ 1048576):nE P l=some (validP P && permB (progI P).length l):=by
  unfold nE;rw [implInstances P h];unfold validP;cases progB P with
  | false=>rfl
  | true =>
    by_cases hk:(progI P).length ≤ 120
    · simp [hk,implPerm (progI P).length (by omega) l hl]
    · simp [hk]
end Go.LN
namespace Go.LN
def c0 (n:Int):zA:=⟨[0,0,0,0],n⟩
end Go.LN
namespace Go.LN
theorem zHC {P:zJ} (h:BG P) (hv:validP P=true):RV P.Arrays:=by
  simp only [validP,progB,Bool.and_eq_true] at hv;exact RV.of h.1 hv.1.1.1
theorem zKd {p:List Int} (h:ptB p=true):p.length ≤ 4:=by
  simp only [ptB,Bool.and_eq_true,decide_eq_true_eq] at h;exact h.1
end Go.LN
namespace Go.LN
theorem zHD:∀ {k:Nat}{a v:Int},v ∈ rngK k a ↔ a ≤ v∧v < a + (k:Int)
  | 0,a,v=>by simp [rngK]
  | k + 1,a,v=>by rw [rngK,List.mem_cons,zHD]; omega
theorem zJo {a b v:Int}:v ∈ rng a b ↔ a ≤ v∧v < b:=by
  unfold rng;rw [zHD]; omega
def inP:List zH→List Int→List Int→Prop
  | [],_,[]=>True
  | l::ls,p,v::r=>(loF l p ≤ v∧v < hiF l p)∧inP ls (p ++ [v]) r
  | _,_,_=>False
theorem zHl:∀ {ls:List zH}{p q:List Int},q ∈ pts ls p→∃ r,q=p ++ r∧inP ls p r
  | [],p,q,h=>by
    rw [pts,List.mem_singleton] at h
    exact ⟨[],by rw [h,List.append_nil],trivial⟩
  | l::ls,p,q,h=>by
    rw [pts,List.mem_flatMap] at h
    obtain ⟨v,hv,hq⟩:=h
    obtain ⟨r,e,hr⟩:=zHl hq
    exact ⟨v::r,by rw [e,List.append_assoc]; rfl,zJo.1 hv,hr⟩
def Ch {α:Type} (R:α→α→Prop):List α→Prop
  | a::b::l=>R a b∧Ch R (b::l)
  | _=>True
theorem Ch.append {α:Type}{R:α→α→Prop}:∀ {l m:List α},Ch R l→Ch R m→(∀ a ∈ l,∀ b ∈ m,R a b)→Ch R (l ++ m)
  | [],m,_,h2,_=>h2
  | [a],[],_,_,_=>trivial
  | [a],b::m,_,h2,h=>⟨h a (List.mem_cons_self ..) b (List.mem_cons_self ..),h2⟩
  | a::b::l,m,h1,h2,h=>⟨h1.1,Ch.append (l:=b::l) h1.2 h2 fun x hx=>h x (List.mem_cons_of_mem _ hx)⟩
theorem Ch.flat {α β:Type}{R:β→β→Prop}{f:α→List β}:∀ {l:List α},(∀ x ∈ l,Ch R (f x))→(l.Pairwise fun x y=>∀ a ∈ f x,∀ b ∈ f y,R a b)→Ch R (l.flatMap f)
  | [],_,_=>trivial
  | x::l,h1,h2=>by
    rw [List.flatMap_cons]
    have h2':=List.pairwise_cons.1 h2
    refine Ch.append (h1 x (List.mem_cons_self ..)) (Ch.flat (fun y hy=>h1 y (List.mem_cons_of_mem _ hy)) h2'.2) fun a ha b hb=>?_
    obtain ⟨y,hy,hb⟩:=List.mem_flatMap.1 hb
    exact h2'.1 y hy a ha b hb
theorem Ch.get {α:Type}{R:α→α→Prop}:∀ {l:List α} (i:Nat) (h:i + 1 < l.length),Ch R l→R l[i] l[i + 1]
  | a::b::l,0,_,hc=>hc.1
  | a::b::l,i + 1,h,hc=>Ch.get (l:=b::l) i (by simpa using h) hc.2
  | [a],i,h,_=>by simp at h
  | [],i,h,_=>by simp at h
theorem zIK {k:Int}{q:List Int}{i j:Nat}{z:zP} (h:z ∈ instR k q i j):z.Part=k∧z.Point=q∧∃ s:Nat,z.Stmt=(s:Int)∧s < i + j:=by
  unfold instR at h;obtain ⟨s,hs,rfl⟩:=List.mem_map.1 h;exact ⟨rfl,rfl,s,rfl,(List.mem_range'_1.1 hs).2⟩
end Go.LN
namespace Go.LN
theorem zH4 {P:zJ} (h:validP P=true) {i:Nat} (hi:i < P.Parts.length):partB P.Arrays P.Parts[i]=true:=by
  simp only [validP,progB,Bool.and_eq_true,decide_eq_true_eq] at h;have:=List.all_eq_true.1 h.1.2 i (List.mem_range'_1.2 ⟨Nat.zero_le _,by omega⟩);have hg:gP P i=P.Parts[i]:=by simp [gP,hi]
  rwa [hg] at this
theorem zJp {nest:List zH}{q:List Int} (h:q ∈ (nestPts nest).1):nestB nest=true∧inP nest [] q:=by
  unfold nestPts at h;split at h
  · rename_i hc;obtain ⟨r,e,hr⟩:=zHl h;rw [List.nil_append] at e;exact ⟨hc.1,e ▸ hr⟩
  · cases h
theorem zIL {P:zJ} (h:validP P=true) {z:zP} (hz:z ∈ progI P):∃ (i s:Nat) (hi:i < P.Parts.length) (hs:s < P.Parts[i].Body.length),z.Part=(i:Int)∧z.Stmt=(s:Int)∧nestB P.Parts[i].Nest=true∧inP P.Parts[i].Nest [] z.Point∧ptB z.Point=true∧stOk P.Arrays P.Parts[i].Body[s] z.Point=true∧stmtB P.Parts[i].Body[s] (P.Parts[i].Nest.length:Int)=true:=by
  unfold progI at hz;obtain ⟨i,hi,hz⟩:=List.mem_flatMap.1 hz;have hi:i < P.Parts.length:=by have:=(List.mem_range'_1.1 hi).2; omega
  have hg:gP P i=P.Parts[i]:=by simp [gP,hi]
  rw [hg] at hz;have hp:=zH4 h hi;unfold partI at hz;obtain ⟨q,hq,hz⟩:=List.mem_flatMap.1 hz;obtain ⟨z1,z2,s,z3,hs⟩:=zIK hz;have hs:s < P.Parts[i].Body.length:=by omega
  obtain ⟨n1,n2⟩:=zJp hq;simp only [partB,Bool.and_eq_true] at hp;have hq2:=List.all_eq_true.1 hp.2 q hq;rw [Bool.and_eq_true] at hq2;refine ⟨i,s,hi,hs,z1,z3,n1,?_,?_,?_,?_⟩
  · rw [z2]; exact n2
  · rw [z2]; exact hq2.1
  · rw [z2]; exact List.all_eq_true.1 hq2.2 _ (List.getElem_mem hs)
  · exact (zAS hp.1.2).2.2 _ (List.getElem_mem hs)
end Go.LN
namespace Go.LN
end Go.LN
namespace Go.LN
theorem zH5 (P:zJ) (x:zP) (ys:List zK) (hy:ys.length ≤ 1048576) (ha:∀ a ∈ ys,AV a) (hp:x.Point.length ≤ 4) (hR:RV P.Arrays):∀ (j i:Nat) (o:List Int),i + j=ys.length→o.length=i→wW P x ys o (i:Int)=some (o ++ (ys.drop i).map (cellA P.Arrays x.Point)):=by
  intro j
  induction j with
  | zero =>
    intro i o hi ho;rw [wW];have:¬((i:Int) < (ys.length:Int)):=by omega
    simp only [this,decide_false,bF,if_false,oP,id];rw [List.drop_eq_nil_iff.2 (by omega),List.map_nil,List.append_nil]
  | succ j ih =>
    intro i o hi ho;rw [wW];have hlt:i < ys.length:=by omega
    have hc:((i:Int) < (ys.length:Int)):=by omega
    simp only [hc,decide_true,if_true,yT hlt,implCell P ys[i] x.Point (ha _ (List.getElem_mem hlt)) hp hR,oB,oS,qX (show (o.length + [cellF ys[i] x.Point P.Arrays 0].length) * 8 ≤ 140737488355328 by simp; omega)];rw [vR (by omega),ih (i + 1) _ (by omega) (by rw [List.length_append]; simp; omega),gC hlt,List.map_cons,List.append_assoc];rfl
end Go.LN
namespace Go.LN
def STz:zR:=zR.mk (zK.mk ⟨[]⟩ []) EXz
def stI (P:zJ) (z:zP):zR:=(gP P z.Part.toNat).Body.getD z.Stmt.toNat STz
def rdI (P:zJ) (z:zP):List Int:=(readsF 5 (stI P z).Value).map (cellA P.Arrays z.Point)
def wrI (P:zJ) (z:zP):Int:=cellA P.Arrays z.Point (stI P z).Write
structure InP (P:zJ) (z:zP):Prop where
  idxP:idx P.Parts z.Part=some (gP P z.Part.toNat)
  idxS:idx (gP P z.Part.toNat).Body z.Stmt=some (stI P z)
  part:0 ≤ z.Part∧z.Part < (P.Parts.length:Int)
  stmt:0 ≤ z.Stmt∧z.Stmt < ((gP P z.Part.toNat).Body.length:Int)
  pin:BN (gP P z.Part.toNat).Nest∧nestB (gP P z.Part.toNat).Nest=true∧ptB z.Point=true∧inP (gP P z.Part.toNat).Nest [] z.Point
  pt:z.Point.length ≤ 4
  bs:BS (stI P z)
  st:∃ d,stmtB (stI P z) d=true
  ok:stOk P.Arrays (stI P z) z.Point=true
theorem zGM {P:zJ} (hb:BG P) (h:validP P=true) {z:zP} (hz:z ∈ progI P):InP P z:=by
  obtain ⟨i,s,hi,hs,z1,z2,hn,hin,hpt,hst,hsb⟩:=zIL h hz;have hbp:=hb.2.2 _ (List.getElem_mem hi);have hg:gP P z.Part.toNat=P.Parts[i]:=by rw [z1,iN]; simp [gP,hi]
  have hS:stI P z=P.Parts[i].Body[s]:=by unfold stI; rw [hg,z2,iN]; simp [hs]
  refine ⟨?_,?_,by rw [z1]; omega,by rw [hg,z2]; omega,?_,zKd hpt,?_,?_,?_⟩
  · rw [hg,z1,yT hi]
  · rw [hS,hg,z2,yT hs]
  · rw [hg]; exact ⟨hbp.1,hn,hpt,hin⟩
  · rw [hS]; exact hbp.2.2 _ (List.getElem_mem hs)
  · rw [hS]; exact ⟨_,hsb⟩
  · rw [hS]; exact hst
theorem zEE {P:zJ}{z:zP} (h:InP P z):(rdI P z).length ≤ 32:=by
  obtain ⟨d,hd⟩:=h.st;have:=mQ 5 (stI P z).Value (zAR hd).2.1;unfold rdI;rw [List.length_map]; omega
theorem touchedV {P:zJ} (hb:BG P) (hv:validP P=true) {z:zP} (h:InP P z):rT P z=some (rdI P z,wrI P z):=by
  obtain ⟨d,hd⟩:=h.st;obtain ⟨s1,s2,s3⟩:=zAR hd;have hR:=zHC hb hv;have hrd:=implReads 5 (stI P z).Value s2 (by omega);have hrl:=mQ 5 (stI P z).Value s2;have htl:=zH5 P z (readsF 5 (stI P z).Value) (by omega) s3 h.pt hR _ 0 [] (Nat.zero_add _) rfl;rw [Int.natCast_zero,List.drop_zero,List.nil_append] at htl;have hw:=implCell P (stI P z).Write z.Point s1 h.pt hR;unfold rT nS;simp only [h.idxP,h.idxS,hrd,htl,hw,oB,oS,oP,id];rfl
def trcP (P:zJ):tN:=⟨P,progI P,(progI P).map (rdI P),(progI P).map (wrI P)⟩
theorem zJF {P:zJ} (hb:BG P) (hv:validP P=true):∀ (j i:Nat) (rs:List (List Int)) (ws:List Int),i + j=(progI P).length→rs.length=i→ws.length=i→pR P (progI P) (i:Int) rs ws=some (rs ++ ((progI P).drop i).map (rdI P),ws ++ ((progI P).drop i).map (wrI P)):=by
  have hlen:=(kR hv).2.2.2;intro j
  induction j with
  | zero =>
    intro i rs ws hi hr hw;rw [pR];have:¬((i:Int) < ((progI P).length:Int)):=by omega
    simp only [this,decide_false,bF,if_false,oP];rw [List.drop_eq_nil_iff.2 (by omega),List.map_nil,List.map_nil,List.append_nil,List.append_nil]
  | succ j ih =>
    intro i rs ws hi hr hw;rw [pR];have hlt:i < (progI P).length:=by omega
    have hc:((i:Int) < ((progI P).length:Int)):=by omega
    have hz:=zGM hb hv (List.getElem_mem hlt);simp only [hc,decide_true,if_true,yT hlt,touchedV hb hv hz,oB,oS,qX (show (rs.length + [rdI P (progI P)[i]].length) * 24 ≤ 140737488355328 by simp; omega),qX (show (ws.length + [wrI P (progI P)[i]].length) * 8 ≤ 140737488355328 by simp; omega)];rw [vR (by omega),ih (i + 1) _ _ (by omega) (by rw [List.length_append]; simp; omega) (by rw [List.length_append]; simp; omega),gC hlt,List.map_cons,List.map_cons,List.append_assoc,List.append_assoc];rfl
theorem implTrace (P:zJ) (hb:BG P):jU P=some (if validP P then (some (trcP P),true) else (none,false)):=by
  unfold jU;rw [implInstances P hb];cases hv:validP P with
  | false =>
    unfold validP at hv;cases hp:progB P with
    | false=>rfl
    | true =>
      rw [hp,Bool.true_and] at hv;simp [hv]
  | true =>
    have hv':=hv;unfold validP at hv';rw [Bool.and_eq_true] at hv';have hl:=zJF hb hv _ 0 [] [] (Nat.zero_add _) rfl rfl;rw [Int.natCast_zero,List.drop_zero,List.nil_append,List.nil_append] at hl;simp only [hv'.1,hv'.2,if_true,oB,oS,Bool.not_true,bF,if_false,hl,oP];rfl
def useI (P:zJ) (z:zP):xN:=⟨rdI P z,wrI P z⟩
theorem zJq {P:zJ} (hb:BG P) (hv:validP P=true):∀ (j i:Nat) (o:List xN),i + j=(progI P).length→o.length=i→qU P (progI P) o (i:Int)=some (o ++ ((progI P).drop i).map (useI P)):=by
  have hlen:=(kR hv).2.2.2;have hR:=zHC hb hv;intro j
  induction j with
  | zero =>
    intro i o hi ho;rw [qU];have:¬((i:Int) < ((progI P).length:Int)):=by omega
    simp only [this,decide_false,bF,if_false,oP,id];rw [List.drop_eq_nil_iff.2 (by omega),List.map_nil,List.append_nil]
  | succ j ih =>
    intro i o hi ho;rw [qU];have hlt:i < (progI P).length:=by omega
    have hc:((i:Int) < ((progI P).length:Int)):=by omega
    have hz:=zGM hb hv (List.getElem_mem hlt);obtain ⟨d,hd⟩:=hz.st;have hcl:=specCells P.Arrays (stI P (progI P)[i]) (progI P)[i].Point hd hz.bs hz.pt hR;rw [if_pos hz.ok] at hcl;simp only [hc,decide_true,if_true,yT hlt,hz.idxP,hz.idxS,hcl,oB,oS,qX (show (o.length + [xN.mk ((readsF 5 (stI P (progI P)[i]).Value).map (cellA P.Arrays (progI P)[i].Point)) (cellA P.Arrays (progI P)[i].Point (stI P (progI P)[i]).Write)].length) * 32 ≤ 140737488355328 by simp; omega)];rw [vR (by omega),ih (i + 1) _ (by omega) (by rw [List.length_append]; simp; omega),gC hlt,List.map_cons,List.append_assoc];rfl
theorem specUses (P:zJ) (hb:BG P) (hv:validP P=true):jG P=some ((progI P).map (useI P)):=by
  unfold jG;have hl:=zJq hb hv _ 0 [] (Nat.zero_add _) rfl;rw [Int.natCast_zero,List.drop_zero,List.nil_append] at hl;simp only [specInsts P hv,hl,oB,oS,oP,id]
end Go.LN
namespace Go.LN
def hasB (l:List Int) (n:Int):Bool:=l.any (fun x=>x == n)
theorem zIM (x:Int) (l:List Int) (n:Int):hasB (x::l) n=(x == n || hasB l n):=by unfold hasB; rw [List.any_cons]
def kindF (r1:List Int) (w1:Int) (r2:List Int) (w2:Int):Int:=(if hasB r2 w1 then 1 else 0) + (if hasB r1 w2 then 2 else 0) + (if w1 == w2 then 4 else 0)
theorem zIN (r1:List Int) (w1:Int) (r2:List Int) (w2:Int):0 ≤ kindF r1 w1 r2 w2∧kindF r1 w1 r2 w2 ≤ 7:=by
  unfold kindF;cases hasB r2 w1 <;> cases hasB r1 w2 <;> cases (w1 == w2) <;> simp
theorem zJG {R:Type}{r0:R}{n:Nat}{f:Int→Option (Out Unit R)}{P:Nat→Bool} (step:∀ i,i < n→f (i:Int)=if P i then some (.ret r0) else f ((i + 1:Nat):Int)) (fin:f (n:Int)=some (.done ())):f 0=some (if (List.range n).any P then .ret r0 else .done ()):=by
  have key:∀ (j i:Nat),i + j=n→f (i:Int)=some (if (List.range' i j).any P then .ret r0 else .done ()):=by
    intro j
    induction j with
    | zero=>intro i hi; rw [show i=n by omega,fin]; simp
    | succ j ih =>
      intro i hi;rw [step i (by omega),ih (i + 1) (by omega),List.range'_succ,List.any_cons];cases P i <;> rfl
  have:=key n 0 (Nat.zero_add _);rw [Int.natCast_zero] at this;rw [this,List.range_eq_range']
theorem zIO {α:Type} (l:List α) (P:α→Bool) (d:α):(List.range l.length).any (fun i=>P (l.getD i d))=l.any P:=by
  rw [Bool.eq_iff_iff,List.any_eq_true,List.any_eq_true];constructor
  · rintro ⟨i,hi,h⟩;have hi:=List.mem_range.1 hi;have hg:l.getD i d=l[i]:=by simp [hi]
    rw [hg] at h;exact ⟨_,List.getElem_mem hi,h⟩
  · rintro ⟨x,hx,h⟩;obtain ⟨i,hi,rfl⟩:=List.mem_iff_getElem.1 hx;exact ⟨i,List.mem_range.2 hi,by simpa [hi] using h⟩
end Go.LN
namespace Go.LN
theorem specHas (l:List Int) (n:Int) (hl:l.length ≤ 1048576):kV l n=some (hasB l n):=by
  unfold kV;have h:=zJG (R:=Bool) (r0:=true) (n:=l.length) (f:=pS l n) (P:=fun i=>l.getD i 0 == n) (fun i hi=>by
      rw [pS];have h1:((i:Int) < (l.length:Int)):=by omega
      have hg:l.getD i 0=l[i]:=by simp [hi]
      simp only [h1,decide_true,if_true,yT hi,oB,oS,oP,hg];rw [vR (by omega)]) (by rw [pS]; simp)
  rw [zIO l (fun x=>x == n) 0] at h;rw [h];unfold hasB;cases l.any fun x=>x == n <;> rfl
theorem zJr (l:List Int) (v:Int) (hl:l.length ≤ 1048576):∀ (j i:Nat),i + j=l.length→∃ x,wX l v (i:Int)=some x∧((hasB (l.drop i) v=true∧∃ k:Nat,x=.ret (k:Int))∨(hasB (l.drop i) v=false∧x=.done ())):=by
  intro j
  induction j with
  | zero =>
    intro i hi;rw [wX];have:¬((i:Int) < (l.length:Int)):=by omega
    refine ⟨_,by simp only [this,decide_false,bF,if_false,oP],.inr ⟨?_,rfl⟩⟩;rw [List.drop_eq_nil_iff.2 (by omega)]; rfl
  | succ j ih =>
    intro i hi;rw [wX];have hlt:i < l.length:=by omega
    have hc:((i:Int) < (l.length:Int)):=by omega
    rw [gC hlt,zIM];by_cases e:v=l[i]
    · refine ⟨_,by simp only [hc,decide_true,if_true,yT hlt,oB,oS,oP,e,beq_self_eq_true],.inl ⟨?_,i,rfl⟩⟩;rw [e,beq_self_eq_true,Bool.true_or]
    · have e1:(v == l[i])=false:=by simpa using e
      have e2:(l[i] == v)=false:=by simpa using fun h=>e h.symm
      obtain ⟨x,hx,hr⟩:=ih (i + 1) (by omega);refine ⟨x,?_,by rw [e2,Bool.false_or]; exact hr⟩;simp only [hc,decide_true,if_true,yT hlt,oB,oS,oP,e1,bF,if_false];rw [vR (by omega),hx]
theorem containsV (l:List Int) (v:Int) (hl:l.length ≤ 1048576):uS l v=some (hasB l v):=by
  unfold uS pX;obtain ⟨x,hx,hr⟩:=zJr l v hl l.length 0 (Nat.zero_add _);rw [Int.natCast_zero] at hx;rw [List.drop_zero] at hr;rw [hx];rcases hr with ⟨h,k,rfl⟩ | ⟨h,rfl⟩
  · have:((k:Int) ≥ 0):=by omega
    simp [h,this]
  · rw [h]; rfl
def zIns (P:zJ) (a:Nat):zP:=(progI P).getD a ⟨0,0,[]⟩
theorem zGN {P:zJ}{a:Nat} (h:a < (progI P).length):zIns P a=(progI P)[a]:=by simp [zIns,h]
theorem zHm {P:zJ}{a:Nat} (h:a < (progI P).length):zIns P a ∈ progI P:=by rw [zGN h]; exact List.getElem_mem h
theorem zHE {P:zJ}{a:Nat} (h:a < (progI P).length):idx ((progI P).map (rdI P)) (a:Int)=some (rdI P (zIns P a)):=by rw [yT (by rw [List.length_map]; exact h),zGN h]; simp
theorem zFm {P:zJ}{a:Nat} (h:a < (progI P).length):idx ((progI P).map (wrI P)) (a:Int)=some (wrI P (zIns P a)):=by rw [yT (by rw [List.length_map]; exact h),zGN h]; simp
theorem zHn {P:zJ}{a:Nat} (h:a < (progI P).length):idx ((progI P).map (useI P)) (a:Int)=some (useI P (zIns P a)):=by rw [yT (by rw [List.length_map]; exact h),zGN h]; simp
def kindI (P:zJ) (a b:Nat):Int:=kindF (rdI P (zIns P a)) (wrI P (zIns P a)) (rdI P (zIns P b)) (wrI P (zIns P b))
theorem betweenV {P:zJ} (hi:∀ z ∈ progI P,InP P z) {a b:Nat} (ha:a < (progI P).length) (hb:b < (progI P).length):qC (trcP P) (a:Int) (b:Int)=some (kindI P a b):=by
  have l1:=zEE (hi _ (zHm ha));have l2:=zEE (hi _ (zHm hb));unfold qC kindI kindF;simp only [trcP,zHE ha,zHE hb,zFm ha,zFm hb,containsV _ _ (show (rdI P (zIns P a)).length ≤ 1048576 by omega),containsV _ _ (show (rdI P (zIns P b)).length ≤ 1048576 by omega),oB,oS,oP,id];by_cases e:wrI P (zIns P a)=wrI P (zIns P b)
  · have e1:(wrI P (zIns P a) == wrI P (zIns P b))=true:=by simpa using e
    simp only [e1,if_true];cases hasB (rdI P (zIns P b)) (wrI P (zIns P a)) <;> cases hasB (rdI P (zIns P a)) (wrI P (zIns P b)) <;> rfl
  · have e1:(wrI P (zIns P a) == wrI P (zIns P b))=false:=by simpa using e
    simp only [e1,bF,if_false];cases hasB (rdI P (zIns P b)) (wrI P (zIns P a)) <;> cases hasB (rdI P (zIns P a)) (wrI P (zIns P b)) <;> rfl
theorem kindsV {P:zJ} (hi:∀ z ∈ progI P,InP P z) {a b:Nat} (ha:a < (progI P).length) (hb:b < (progI P).length):kP (useI P (zIns P a)) (useI P (zIns P b))=some (kindI P a b):=by
  have l1:=zEE (hi _ (zHm ha));have l2:=zEE (hi _ (zHm hb));unfold kP kindI kindF;simp only [useI,specHas _ _ (show (rdI P (zIns P a)).length ≤ 1048576 by omega),specHas _ _ (show (rdI P (zIns P b)).length ≤ 1048576 by omega),oB,oS,oP,id];by_cases e:wrI P (zIns P a)=wrI P (zIns P b)
  · have e1:(wrI P (zIns P a) == wrI P (zIns P b))=true:=by simpa using e
    simp only [e1,if_true];cases hasB (rdI P (zIns P b)) (wrI P (zIns P a)) <;> cases hasB (rdI P (zIns P a)) (wrI P (zIns P b)) <;> rfl
  · have e1:(wrI P (zIns P a) == wrI P (zIns P b))=false:=by simpa using e
    simp only [e1,bF,if_false];cases hasB (rdI P (zIns P b)) (wrI P (zIns P a)) <;> cases hasB (rdI P (zIns P a)) (wrI P (zIns P b)) <;> rfl
end Go.LN
namespace Go.LN
def dep1 (P:zJ) (i q:Nat):List yG:=if kindI P i q == 0 then [] else [⟨(i:Int),(q:Int),kindI P i q⟩]
def depR (P:zJ) (i k j:Nat):List yG:=(List.range' k j).flatMap fun q=>dep1 P i q
def depA (P:zJ) (i j:Nat):List yG:=(List.range' i j).flatMap fun q=>depR P q (q + 1) ((progI P).length - (q + 1))
theorem zD2 (P:zJ) (i k j:Nat):depR P i k (j + 1)=dep1 P i k ++ depR P i (k + 1) j:=by unfold depR; rw [List.range'_succ,List.flatMap_cons]
theorem zD3 (P:zJ) (i j:Nat):depA P i (j + 1)=depR P i (i + 1) ((progI P).length - (i + 1)) ++ depA P (i + 1) j:=by unfold depA; rw [List.range'_succ,List.flatMap_cons]
theorem zJH (P:zJ) (i q:Nat):(dep1 P i q).length ≤ 1:=by unfold dep1; split <;> simp
theorem zCm (P:zJ) (i:Nat):∀ (j k:Nat),(depR P i k j).length ≤ j
  | 0,k=>by simp [depR]
  | j + 1,k=>by
    have h1:=zJH P i k
    have h2:=zCm P i j (k + 1)
    rw [zD2,List.length_append]; omega
theorem zFC (P:zJ):∀ (j i:Nat),(depA P i j).length ≤ j * (progI P).length
  | 0,i=>by simp [depA]
  | j + 1,i=>by
    have h1:=zCm P i ((progI P).length - (i + 1)) (i + 1)
    have h2:=zFC P j (i + 1)
    rw [zD3,List.length_append,Nat.add_mul,Nat.one_mul]; omega
theorem zIP (P:zJ) (a b:Nat):0 ≤ kindI P a b∧kindI P a b ≤ 7:=zIN _ _ _ _
theorem zJs {P:zJ} (hi:∀ z ∈ progI P,InP P z) (hlen:(progI P).length ≤ 120) (i:Nat) (hin:i < (progI P).length):∀ (j k:Nat) (o:List yG),k + j=(progI P).length→o.length + j ≤ 1000000→tK (trcP P) (i:Int) o (k:Int)=some (o ++ depR P i k j):=by
  intro j
  induction j with
  | zero =>
    intro k o hk ho;rw [tK];have:¬((k:Int) < ((trcP P).list.length:Int)):=by show ¬((k:Int) < ((progI P).length:Int)); omega
    simp only [this,decide_false,bF,if_false,oP,id];simp [depR]
  | succ j ih =>
    intro k o hk ho;rw [tK,zD2];have hlt:k < (progI P).length:=by omega
    have hc:((k:Int) < ((trcP P).list.length:Int)):=by show ((k:Int) < ((progI P).length:Int)); omega
    have hr:=zIP P i k;simp only [hc,decide_true,if_true,betweenV hi hin hlt,oB,oS,oP,id,qX (show (o.length + [yG.mk (i:Int) (k:Int) (kindI P i k)].length) * 24 ≤ 140737488355328 by simp; omega)];rw [vR (by omega)];unfold dep1;by_cases h0:kindI P i k=0
    · have e1:¬(kindI P i k > 0):=by omega
      have e2:(kindI P i k == 0)=true:=by simpa using h0
      simp only [e1,e2,decide_false,bF,if_false,if_true,oS,List.nil_append];exact ih (k + 1) o (by omega) (by omega)
    · have e1:kindI P i k > 0:=by omega
      have e2:¬((kindI P i k == 0)=true):=by simpa using h0
      simp only [e1,decide_true,if_true,oS];rw [if_neg e2,ih (k + 1) _ (by omega) (by rw [List.length_append]; simp; omega),List.append_assoc]
theorem zJt {P:zJ} (hi:∀ z ∈ progI P,InP P z) (hlen:(progI P).length ≤ 120):∀ (j i:Nat) (o:List yG),i + j=(progI P).length→o.length ≤ 120 * i→tL (trcP P) o (i:Int)=some (o ++ depA P i j):=by
  intro j
  induction j with
  | zero =>
    intro i o hij ho;rw [tL];have:¬((i:Int) < ((trcP P).list.length:Int)):=by show ¬((i:Int) < ((progI P).length:Int)); omega
    simp only [this,decide_false,bF,if_false,oP,id];simp [depA]
  | succ j ih =>
    intro i o hij ho;rw [tL,zD3];have hlt:i < (progI P).length:=by omega
    have hc:((i:Int) < ((trcP P).list.length:Int)):=by show ((i:Int) < ((progI P).length:Int)); omega
    have hl:=zCm P i ((progI P).length - (i + 1)) (i + 1);have h2:=zJs hi hlen i hlt ((progI P).length - (i + 1)) (i + 1) o (by omega) (by omega);simp only [hc,decide_true,if_true,vR (show i < 9223372036854775807 by omega),h2,oB,oS];rw [ih (i + 1) _ (by omega) (by rw [List.length_append]; omega),List.append_assoc]
theorem zJI {P:zJ} (hi:∀ z ∈ progI P,InP P z) (hlen:(progI P).length ≤ 120) (i:Nat) (hin:i < (progI P).length):∀ (j k:Nat) (o:List yG),k + j=(progI P).length→o.length + j ≤ 1000000→qV ((progI P).map (useI P)) (i:Int) o (k:Int)=some (o ++ depR P i k j):=by
  intro j
  induction j with
  | zero =>
    intro k o hk ho;rw [qV];have:¬((k:Int) < (((progI P).map (useI P)).length:Int)):=by rw [List.length_map]; omega
    simp only [this,decide_false,bF,if_false,oP,id];simp [depR]
  | succ j ih =>
    intro k o hk ho;rw [qV,zD2];have hlt:k < (progI P).length:=by omega
    have hc:((k:Int) < (((progI P).map (useI P)).length:Int)):=by rw [List.length_map]; omega
    simp only [hc,decide_true,if_true,zHn hin,zHn hlt,kindsV hi hin hlt,oB,oS,oP,id,qX (show (o.length + [yG.mk (i:Int) (k:Int) (kindI P i k)].length) * 24 ≤ 140737488355328 by simp; omega)];rw [vR (by omega)];unfold dep1;by_cases h0:kindI P i k=0
    · have e1:(kindI P i k != 0)=false:=by simpa using h0
      have e2:(kindI P i k == 0)=true:=by simpa using h0
      simp only [e1,e2,bF,if_false,if_true,oS,List.nil_append];exact ih (k + 1) o (by omega) (by omega)
    · have e1:(kindI P i k != 0)=true:=by simpa using h0
      have e2:¬((kindI P i k == 0)=true):=by simpa using h0
      simp only [e1,if_true,oS];rw [if_neg e2,ih (k + 1) _ (by omega) (by rw [List.length_append]; simp; omega),List.append_assoc]
theorem zJJ {P:zJ} (hi:∀ z ∈ progI P,InP P z) (hlen:(progI P).length ≤ 120):∀ (j i:Nat) (o:List yG),i + j=(progI P).length→o.length ≤ 120 * i→qW ((progI P).map (useI P)) o (i:Int)=some (o ++ depA P i j):=by
  intro j
  induction j with
  | zero =>
    intro i o hij ho;rw [qW];have:¬((i:Int) < (((progI P).map (useI P)).length:Int)):=by rw [List.length_map]; omega
    simp only [this,decide_false,bF,if_false,oP,id];simp [depA]
  | succ j ih =>
    intro i o hij ho;rw [qW,zD3];have hlt:i < (progI P).length:=by omega
    have hc:((i:Int) < (((progI P).map (useI P)).length:Int)):=by rw [List.length_map]; omega
    have hl:=zCm P i ((progI P).length - (i + 1)) (i + 1);have h2:=zJI hi hlen i hlt ((progI P).length - (i + 1)) (i + 1) o (by omega) (by omega);simp only [hc,decide_true,if_true,vR (show i < 9223372036854775807 by omega),h2,oB,oS];rw [ih (i + 1) _ (by omega) (by rw [List.length_append]; omega),List.append_assoc]
def dpF (P:zJ):List yG:=if validP P then depA P 0 (progI P).length else []
theorem implDeps (P:zJ) (hb:BG P):oK P=some (dpF P):=by
  unfold oK dpF;rw [implTrace P hb];cases hv:validP P with
  | false=>rfl
  | true =>
    have hlen:=(kR hv).2.2.2;have hi:∀ z ∈ progI P,InP P z:=fun z hz=>zGM hb hv hz;have hl:=zJt hi hlen _ 0 [] (Nat.zero_add _) (by simp);rw [Int.natCast_zero,List.nil_append] at hl;simp only [if_true,oB,oS,Bool.not_true,bF,if_false,mP,hl,oP,id]
theorem specDeps (P:zJ) (hb:BG P):jK P=some (dpF P):=by
  unfold jK dpF;rw [specValidP P hb];cases hv:validP P with
  | false=>rfl
  | true =>
    have hlen:=(kR hv).2.2.2;have hi:∀ z ∈ progI P,InP P z:=fun z hz=>zGM hb hv hz;have hl:=zJJ hi hlen _ 0 [] (Nat.zero_add _) (by simp);rw [Int.natCast_zero,List.nil_append] at hl;simp only [if_true,oB,oS,Bool.not_true,bF,if_false,nP,specUses P hb hv,hl,oP,id]
theorem zJu {P:zJ}:(dpF P).length ≤ 14400:=by
  unfold dpF;split
  · rename_i hv;have hlen:=(kR hv).2.2.2;have:=zFC P (progI P).length 0;have h2:(progI P).length * (progI P).length ≤ 120 * 120:=Nat.mul_le_mul hlen hlen;omega
  · simp
end Go.LN
namespace Go.LN
def upd (g:Nat→Int) (m:Nat) (v:Int):Nat→Int:=fun x=>if x=m then v else g x
def stL (n:Nat) (g:Nat→Int):List Int:=(List.range n).map g
theorem zEF (n:Nat) (g:Nat→Int):(stL n g).length=n:=by unfold stL; rw [List.length_map,List.length_range]
theorem zGO {n m:Nat}{g:Nat→Int} (h:m < n):idx (stL n g) (m:Int)=some (g m):=by
  rw [yT (by rw [zEF]; exact h)];simp [stL]
theorem zH6 {n i:Nat}{g:Nat→Int} (h:i < (stL n g).length):(stL n g)[i]=g i:=by simp [stL]
theorem zJv {n m:Nat}{g:Nat→Int}{v:Int} (h:m < n):(stL n g).set m v=stL n (upd g m v):=by
  refine List.ext_getElem (by rw [List.length_set,zEF,zEF]) fun i h1 h2=>?_;rw [List.getElem_set,zH6,zH6];unfold upd;by_cases e:m=i
  · rw [if_pos e,if_pos e.symm]
  · rw [if_neg e,if_neg fun h=>e h.symm]
theorem zJw {P:zJ}{d:yG} (h:d ∈ depA P 0 (progI P).length):∃ i k:Nat,d=⟨(i:Int),(k:Int),kindI P i k⟩∧i < k∧k < (progI P).length∧kindI P i k ≠ 0:=by
  unfold depA at h;obtain ⟨i,hi,h⟩:=List.mem_flatMap.1 h;unfold depR at h;obtain ⟨k,hk,h⟩:=List.mem_flatMap.1 h;have hi:=List.mem_range'_1.1 hi;have hk:=List.mem_range'_1.1 hk;unfold dep1 at h;split at h
  · cases h
  · rename_i h0;exact ⟨i,k,List.mem_singleton.1 h,by omega,by omega,by simpa using h0⟩
end Go.LN
namespace Go.LN
theorem zKv (n:Nat) (hn:n ≤ 1000000):mkrow 8 (n:Int) (0:Int)=some (List.replicate n 0):=by
  unfold mkrow;rw [if_pos ⟨by omega,by omega⟩,iN]
theorem zJK (n:Nat):List.replicate n (0:Int)=stL n fun _=>0:=by
  refine List.ext_getElem (by rw [List.length_replicate,zEF]) fun i h1 h2=>?_;rw [zH6,List.getElem_replicate]
def DB (n:Nat) (d:yG):Prop:=∃ i k:Nat,d.From=(i:Int)∧d.To=(k:Int)∧i < n∧k < n
theorem zJx {P:zJ}:∀ d ∈ depA P 0 (progI P).length,DB (progI P).length d:=by
  intro d hd;obtain ⟨i,k,rfl,h1,h2,_⟩:=zJw hd;exact ⟨i,k,rfl,rfl,by omega,h2⟩
theorem zKw {P:zJ} (h:(progI P).length ≤ 120):(depA P 0 (progI P).length).length ≤ 14400:=by
  have:=zFC P (progI P).length 0;have h2:(progI P).length * (progI P).length ≤ 120 * 120:=Nat.mul_le_mul h h;omega
theorem specDeps6 (P:zJ) (hb:BG P) (hv:validP P=true):nP P=some (depA P 0 (progI P).length):=by
  have h:=specDeps P hb;unfold jK dpF at h;rw [specValidP P hb,hv] at h;simp only [if_true,oB,oS,Bool.not_true,bF,if_false,oP,id] at h;cases hd:nP P with
  | none=>rw [hd] at h; cases h
  | some y=>rw [hd] at h; exact h
def stB (n:Nat) (g:Nat→Bool):List Bool:=(List.range n).map g
theorem zEG (n:Nat) (g:Nat→Bool):(stB n g).length=n:=by unfold stB; rw [List.length_map,List.length_range]
theorem zKx {n m:Nat}{g:Nat→Bool} (h:m < n):idx (stB n g) (m:Int)=some (g m):=by
  rw [yT (by rw [zEG]; exact h)];simp [stB]
theorem zH7 {n i:Nat}{g:Nat→Bool} (h:i < (stB n g).length):(stB n g)[i]=g i:=by simp [stB]
theorem zKy {n m:Nat}{g:Nat→Bool} (h:m < n):(stB n g).set m true=stB n (fun x=>g x || x == m):=by
  refine List.ext_getElem (by rw [List.length_set,zEG,zEG]) fun i h1 h2=>?_;rw [List.getElem_set,zH7,zH7];by_cases e:m=i
  · rw [if_pos e,e]; simp
  · rw [if_neg e];have:(i == m)=false:=by simpa using fun h=>e h.symm
    rw [this,Bool.or_false]
theorem zKz (n:Nat):List.replicate n false=stB n fun _=>false:=by
  refine List.ext_getElem (by rw [List.length_replicate,zEG]) fun i h1 h2=>?_;rw [zH7,List.getElem_replicate]
end Go.LN
namespace Go.LN
def choF:List Bool→Nat→List Int
  | [],_=>[]
  | b::l,i=>(if b then [(i:Int)] else []) ++ choF l (i + 1)
theorem zJy {c:Int}:∀ {l:List Bool}{i:Nat},c ∈ choF l i ↔ ∃ k:Nat,c=((i + k:Nat):Int)∧l.getD k false=true
  | [],i=>by simp [choF]
  | b::l,i=>by
    rw [choF,List.mem_append,zJy (l:=l)]
    constructor
    · rintro (h | ⟨k,h1,h2⟩)
      · cases b with
        | false=>simp at h
        | true=>exact ⟨0,by simpa using h,rfl⟩
      · exact ⟨k + 1,by rw [h1]; omega,by simpa using h2⟩
    · rintro ⟨k,h1,h2⟩
      cases k with
      | zero =>
        have hb:b=true:=by simpa using h2
        left; rw [hb]; simpa using h1
      | succ k=>exact .inr ⟨k,by rw [h1]; omega,by simpa using h2⟩
theorem specCho (l:List Bool) (hl:l.length ≤ 1000000):mD l=some (choF l 0):=by
  have key:∀ (j i:Nat) (o:List Int),i + j=l.length→o.length ≤ i→sL l o (i:Int)=some (o ++ choF (l.drop i) i):=by
    intro j
    induction j with
    | zero =>
      intro i o hi ho;rw [sL];have:¬((i:Int) < (l.length:Int)):=by omega
      simp only [this,decide_false,bF,if_false,oP,id];rw [List.drop_eq_nil_iff.2 (by omega),choF,List.append_nil]
    | succ j ih =>
      intro i o hi ho;rw [sL];have hlt:i < l.length:=by omega
      have hc:((i:Int) < (l.length:Int)):=by omega
      rw [gC hlt,choF];simp only [hc,decide_true,if_true,yT hlt,oB,oS,oP,id,qX (show (o.length + [(i:Int)].length) * 8 ≤ 140737488355328 by simp; omega)];rw [vR (by omega)];cases l[i] with
      | false =>
        simp only [bF,if_false,oS];rw [ih (i + 1) o (by omega) (by omega),List.nil_append]
      | true =>
        simp only [if_true,oS];rw [ih (i + 1) _ (by omega) (by rw [List.length_append]; simp; omega),List.append_assoc]
  have:=key _ 0 [] (Nat.zero_add _) (Nat.le_refl _);rw [Int.natCast_zero,List.drop_zero,List.nil_append] at this;unfold mD;rw [this]; rfl
end Go.LN
namespace Go.LN
def plc:List Int→Nat→(Nat→Int)→Nat→Int
  | [],_,g=>g
  | x::l,k,g=>plc l (k + 1) (upd g x.toNat (k:Int))
theorem zHo:∀ (l:List Int) (k:Nat) (g:Nat→Int) (y:Nat),(∀ x ∈ l,x.toNat ≠ y)→plc l k g y=g y
  | [],_,_,_,_=>rfl
  | x::l,k,g,y,h=>by
    rw [plc,zHo l _ _ y fun z hz=>h z (List.mem_cons_of_mem _ hz)]
    unfold upd
    rw [if_neg fun e=>h x (List.mem_cons_self ..) e.symm]
theorem zKe:∀ (l:List Int) (k:Nat) (g:Nat→Int),l.Nodup→(∀ x ∈ l,0 ≤ x)→∀ (j:Nat) (hj:j < l.length),plc l k g l[j].toNat=((k + j:Nat):Int)
  | x::l,k,g,hn,h0,0,_=>by
    have hn:=List.nodup_cons.1 hn
    show plc l (k + 1) (upd g x.toNat (k:Int)) x.toNat=_
    rw [zHo l _ _ _ fun z hz e=>by
      have h1:=h0 x (List.mem_cons_self ..)
      have h2:=h0 z (List.mem_cons_of_mem _ hz)
      exact hn.1 ((show z=x by omega) ▸ hz)]
    unfold upd
    rw [if_pos rfl]; rfl
  | x::l,k,g,hn,h0,j + 1,hj=>by
    have hn:=List.nodup_cons.1 hn
    have:=zKe l (k + 1) (upd g x.toNat (k:Int)) hn.2 (fun z hz=>h0 z (List.mem_cons_of_mem _ hz)) j (by simpa using hj)
    have e:(x::l)[j + 1]=l[j]'(by simpa using hj):=rfl
    rw [e]
    show plc l (k + 1) (upd g x.toNat (k:Int)) (l[j]'(by simpa using hj)).toNat=_
    rw [this]; omega
theorem zKf {n:Nat}{o:List Int} (hn:o.length ≤ 1000000) (ho:∀ x ∈ o,0 ≤ x∧x < (n:Int)):∀ (j q:Nat) (g:Nat→Int),q + j=o.length→rB o (q:Int) (stL n g)=some (stL n (plc (o.drop q) q g)):=by
  intro j
  induction j with
  | zero =>
    intro q g hq;rw [rB];have:¬((q:Int) < (o.length:Int)):=by omega
    simp only [this,decide_false,bF,if_false,oP,id];rw [List.drop_eq_nil_iff.2 (by omega)]; rfl
  | succ j ih =>
    intro q g hq;rw [rB];have hlt:q < o.length:=by omega
    have hc:((q:Int) < (o.length:Int)):=by omega
    obtain ⟨x,hx⟩:∃ x:Nat,o[q]=(x:Int):=⟨o[q].toNat,by have:=ho _ (List.getElem_mem hlt); omega⟩;have hxn:x < n:=by have:=ho _ (List.getElem_mem hlt); omega
    rw [gC hlt,plc];simp only [hc,decide_true,if_true,yT hlt,hx,zGO hxn,oB,oS,oP,iN,zJv hxn];rw [vR (by omega)];exact ih (q + 1) _ (by omega)
def brk (g:Nat→Int) (d:yG):Bool:=decide (g d.To.toNat < g d.From.toNat)
def plo (o:List Int):Nat→Int:=plc o 0 fun _=>0
theorem zJz {n:Nat}{g:Nat→Int}{D:List yG} (hD:∀ d ∈ D,DB n d) (hl:D.length ≤ 1000000):∀ (j q:Nat),q + j=D.length→∃ r,xO D (fun x0=>qA x0 (stL n g)) (q:Int)=some r∧((r=.done ()∧(D.drop q).find? (brk g)=none)∨∃ (k:Nat) (h:k < D.length),r=.ret (k:Int)∧(D.drop q).find? (brk g)=some D[k]):=by
  intro j
  induction j with
  | zero =>
    intro q hq;rw [xO];have:¬((q:Int) < (D.length:Int)):=by omega
    refine ⟨_,by simp only [this,decide_false,bF,if_false,oP],.inl ⟨rfl,?_⟩⟩;rw [List.drop_eq_nil_iff.2 (by omega)]; rfl
  | succ j ih =>
    intro q hq;rw [xO];have hlt:q < D.length:=by omega
    have hc:((q:Int) < (D.length:Int)):=by omega
    obtain ⟨i,k,e1,e2,h1,h2⟩:=hD D[q] (List.getElem_mem hlt);have hb:qA D[q] (stL n g)=some (brk g D[q]):=by
      unfold qA brk;simp only [e1,e2,zGO h1,zGO h2,oB,oS,oP,iN]
    rw [gC hlt,List.find?_cons];cases hk:brk g D[q] with
    | true=>exact ⟨_,by simp only [hc,decide_true,if_true,yT hlt,hb,hk,oB,oS,oP],.inr ⟨q,hlt,rfl,rfl⟩⟩
    | false =>
      obtain ⟨r,hr,hc2⟩:=ih (q + 1) (by omega);refine ⟨r,?_,hc2⟩;simp only [hc,decide_true,if_true,yT hlt,hb,hk,oB,oS,oP,bF,if_false];rw [vR (by omega),hr]
theorem implBrk {n:Nat}{o:List Int}{D:List yG} (hD:∀ d ∈ D,DB n d) (hl:D.length ≤ 1000000) (hn:n ≤ 1000000) (hp:permB n o=true):(mW D o=some (-1)∧D.find? (brk (plo o))=none)∨∃ (k:Nat) (h:k < D.length),mW D o=some (k:Int)∧D.find? (brk (plo o))=some D[k]:=by
  obtain ⟨⟨p1,p2⟩,p3⟩:=(zIJ _ _).1 hp;have h1:=zKf (n:=n) (by omega) p1 _ 0 (fun _=>0) (Nat.zero_add o.length);rw [Int.natCast_zero,List.drop_zero,← zJK] at h1;obtain ⟨r,hr,hc⟩:=zJz (g:=plo o) hD hl _ 0 (Nat.zero_add D.length);rw [Int.natCast_zero] at hr;rw [List.drop_zero] at hc;unfold mW vW;rw [p3];have h2:rB o 0 (List.replicate n 0)=some (stL n (plo o)):=h1;simp only [zKv n hn,h2,hr,oB,oS];rcases hc with ⟨rfl,h⟩ | ⟨k,hk,rfl,h⟩
  · exact .inl ⟨rfl,h⟩
  · exact .inr ⟨k,hk,rfl,h⟩
def brF (P:zJ) (o:List Int):Option yG:=(dpF P).find? (brk (plo o))
theorem zKA {P:zJ} (hv:validP P=true):∀ d ∈ dpF P,DB (progI P).length d:=by
  have e:dpF P=depA P 0 (progI P).length:=by unfold dpF; rw [hv]; rfl
  rw [e]; exact zJx
theorem implLegal (P:zJ) (hb:BG P) (o:List Int) (ho:o.length ≤ 1048576):kD P o=some (validP P && permB (progI P).length o && (brF P o).isNone):=by
  unfold kD fH;simp only [implOrd P hb o ho,implDeps P hb,oB,oS,oP,id];cases hv:validP P with
  | false=>rfl
  | true =>
    have hlen:=(kR hv).2.2.2;have hl:=zJu (P:=P);cases hp:permB (progI P).length o with
    | false=>rfl
    | true =>
      unfold brF;rcases implBrk (zKA hv) (by omega) (by omega) hp with ⟨h1,h2⟩ | ⟨k,hk,h1,h2⟩
      · rw [h2];simp [h1]
      · rw [h2];simp [h1]
end Go.LN
