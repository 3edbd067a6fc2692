/- Helper of the proof (see the last text). -/
import Derived.Test.YtmlnffbepjijhaaGreatVB1
import Derived.Test.YtmlnffbepjijhaaGreatQZ
set_option linter.unusedVariables false
set_option linter.unusedSimpArgs false
namespace Go.LN
def BP (x:zI):Prop:=BN x.Nest/\x.Body.length<=100000/\∀ s∈x.Body,BS s
def bodyB (x:zI):Bool:=(decide (1<=x.Body.length)&&decide (x.Body.length<=4))&&x.Body.all fun s=>stmtB s (x.Nest.length:Int)
def partB (A:List zD) (x:zI):Bool:=(nestPts x.Nest).2&&bodyB x&&(nestPts x.Nest).1.all fun q=>ptB q&&x.Body.all fun s=>stOk A s q
def instR (k:Int) (q:List Int) (i j:Nat):List zN:=(List.range' i j).map fun (i:Nat)=>⟨k,(i:Int),q⟩
theorem zG0 (k:Int) (q:List Int) (i j:Nat):(instR k q i j).length=j:=by simp [instR]
theorem len14 (n:Nat):(decide ((1:Int)<=(n:Int))&&decide ((n:Int)<=4))=(decide (1<=n)&&decide (n<=4)):=by
  have e1:decide ((1:Int)<=(n:Int))=decide (1<=n):=by simp; omega
  have e2:decide ((n:Int)<=4)=decide (n<=4):=by simp; omega
  rw [e1,e2]
theorem zNe (P:zF) (k:Int) (x:zI) (q:List Int) (hq:q.length<=4) (hb:x.Body.length<=4) (hs:∀ s∈x.Body,stmtB s (x.Nest.length:Int)=true) (hR:RV P.Arrays) :
    ∀ (j i:Nat) (o:List zN),i+j=x.Body.length->o.length+j<=1000000->uI P k x q o (i:Int)=some (if (x.Body.drop i).all (fun s=>stOk P.Arrays s q) then .done (o++instR k q i j) else .ret ([],false)):=by
  intro j
  induction j with
  | zero =>
    intro i o hi ho
    rw [uI]
    have:¬((i:Int)<(x.Body.length:Int)):=by omega
    simp only [this,dF,bF,if_false]
    rw [show x.Body.drop i=[] from dN.2 (by omega)]
    simp [instR]
  | succ j ih =>
    intro i o hi ho
    rw [uI]
    have hlt:i<x.Body.length:=by omega
    have hc:((i:Int)<(x.Body.length:Int)):=by omega
    have happ:app 40 o [(⟨k,(i:Int),q⟩:zN)]=some (o++[⟨k,(i:Int),q⟩]):=qB (by simp; omega)
    simp only [hc,dT,if_true,yP hlt,oB,oS,implStmtOk P _ q (hs _ (gM hlt)) hq hR,zDf q (by omega),happ]
    rw [wY (by omega),gC hlt,List.all_cons]
    cases stOk P.Arrays x.Body[i] q with
    | false=>rfl
    | true =>
      simp only [bT,bF,if_false,Bool.true_and]
      rw [ih (i+1) _ (by omega) (by simp; omega),List.append_assoc]
      simp only [instR,List.range'_succ,List.map_cons,List.singleton_append]
def ptOk (A:List zD) (x:zI) (q:List Int):Bool:=ptB q&&x.Body.all fun s=>stOk A s q
theorem zNf (P:zF) (k:Int) (x:zI) (qs:List (List Int)) (hq:∀ q∈qs,q.length<=4) (hql:qs.length<=120) (hb:x.Body.length<=4) (hs:∀ s∈x.Body,stmtB s (x.Nest.length:Int)=true) (hR:RV P.Arrays) :
    ∀ (j i:Nat) (o:List zN),i+j=qs.length->o.length+4*j<=1000000->uJ P k x qs o (i:Int)=some (if (qs.drop i).all (ptOk P.Arrays x) then .done (o++(qs.drop i).flatMap fun q=>instR k q 0 x.Body.length) else .ret ([],false)):=by
  intro j
  induction j with
  | zero =>
    intro i o hi ho
    rw [uJ]
    have:¬((i:Int)<(qs.length:Int)):=by omega
    simp only [this,dF,bF,if_false]
    rw [show qs.drop i=[] from dN.2 (by omega)]
    simp
  | succ j ih =>
    intro i o hi ho
    rw [uJ]
    have hlt:i<qs.length:=by omega
    have hc:((i:Int)<(qs.length:Int)):=by omega
    have hq4:=hq _ (gM hlt)
    have h3:=zNe P k x qs[i] hq4 hb hs hR x.Body.length 0 o (Nat.zero_add _) (by omega)
    rw [nZ,List.drop_zero] at h3
    simp only [hc,dT,if_true,yP hlt,oB,oS,implPoint _ (show qs[i].length<=1048576 by omega),h3]
    rw [wY (by omega),gC hlt,List.all_cons,List.flatMap_cons,ptOk]
    cases ptB qs[i] with
    | false=>rfl
    | true =>
      simp only [bT,bF,if_false,Bool.true_and]
      cases x.Body.all fun s=>stOk P.Arrays s qs[i] with
      | false=>rfl
      | true =>
        simp only [if_true,oS,Bool.true_and]
        rw [ih (i+1) _ (by omega) (by rw [lA,zG0]; omega),List.append_assoc]
def partI (k:Int) (x:zI):List zN:=(nestPts x.Nest).1.flatMap fun q=>instR k q 0 x.Body.length
theorem zKI (k:Int) (b:Nat):∀ qs:List (List Int),(qs.flatMap fun q=>instR k q 0 b).length=qs.length*b
  | []=>by simp
  | q::qs=>by rw [List.flatMap_cons,lA,zG0,zKI k b qs,List.length_cons,Nat.succ_mul]; omega
theorem zIr (k:Int) (x:zI):(partI k x).length=(nestPts x.Nest).1.length*x.Body.length:=zKI _ _ _
theorem zBR {x:zI} (h:bodyB x=true):1<=x.Body.length/\x.Body.length<=4/\∀ s∈x.Body,stmtB s (x.Nest.length:Int)=true:=by
  simp only [bodyB,bA,decide_eq_true_eq] at h;exact ⟨h.1.1,h.1.2,List.all_eq_true.1 h.2⟩
theorem zIB (k:Int) {A:List zD}{x:zI} (h:partB A x=true):(partI k x).length<=480:=by
  simp only [partB,bA] at h;obtain ⟨h1,h2,_⟩:=zBR h.1.2;have:=(zDg (nest:=x.Nest)).1;rw [zIr];exact Nat.mul_le_mul this h2
def gP (P:zF) (i:Nat):zI:=P.Parts.getD i ⟨[],[]⟩
theorem zNg (P:zF) (hP:P.Parts.length<=4) (hb:∀ x∈P.Parts,BP x) (hR:RV P.Arrays) :
    ∀ (j i:Nat) (o:List zN),i+j=P.Parts.length->o.length<=480*i->uK P o (i:Int)=some (if (List.range' i j).all (fun i=>partB P.Arrays (gP P i)) then .done (o++(List.range' i j).flatMap fun (i:Nat)=>partI (i:Int) (gP P i)) else .ret ([],false)):=by
  intro j
  induction j with
  | zero =>
    intro i o hi ho
    rw [uK]
    have:¬((i:Int)<(P.Parts.length:Int)):=by omega
    simp only [this,dF,bF,if_false]
    simp
  | succ j ih =>
    intro i o hi ho
    rw [uK]
    have hlt:i<P.Parts.length:=by omega
    have hc:((i:Int)<(P.Parts.length:Int)):=by omega
    obtain ⟨b1,b2,b3⟩:=hb _ (gM hlt)
    have hg:gP P i=P.Parts[i]:=by simp [gP,hlt]
    have hcs:=zJK (f:=fun x0=>uT x0 P.Parts[i]) (p:=fun s=>!(stmtB s (P.Parts[i].Nest.length:Int))) P.Parts[i].Body (fun s hs=>by
        unfold uT
        rw [implStmt s _ (b3 s hs)]; rfl) (by omega)
    simp only [hc,dT,if_true,yP hlt,oB,oS,implPoints _ b1,jW,len14,hcs,oP,id]
    rw [wY (by omega),List.range'_succ,List.all_cons,List.flatMap_cons,hg]
    have hnl:=zDg (nest:=P.Parts[i].Nest)
    cases hn:(nestPts P.Parts[i].Nest).2 with
    | false=>simp [partB,hn]
    | true =>
      cases hb4:(decide (1<=P.Parts[i].Body.length)&&decide (P.Parts[i].Body.length<=4)) with
      | false=>simp [partB,bodyB,hb4]
      | true =>
        have hany:(P.Parts[i].Body.any fun s=>!(stmtB s (P.Parts[i].Nest.length:Int)))=!(P.Parts[i].Body.all fun s=>stmtB s (P.Parts[i].Nest.length:Int)):=by
          rw [Bool.eq_iff_iff]; simp
        simp only [bT,bF,if_false,oS,hany]
        cases hall:P.Parts[i].Body.all fun s=>stmtB s (P.Parts[i].Nest.length:Int) with
        | false=>simp [partB,bodyB,hall]
        | true =>
          have hbb:bodyB P.Parts[i]=true:=by rw [bodyB,hb4,hall]; rfl
          obtain ⟨q1,q2,q3⟩:=zBR hbb
          have h2:=zNf P (i:Int) P.Parts[i] (nestPts P.Parts[i].Nest).1 hnl.2 hnl.1 q2 q3 hR _ 0 o (Nat.zero_add _) (by have:=hnl.1; omega)
          rw [nZ,List.drop_zero] at h2
          simp only [bT,bF,if_false,h2]
          have hpB:partB P.Arrays P.Parts[i]=(nestPts P.Parts[i].Nest).1.all (ptOk P.Arrays P.Parts[i]):=by rw [partB,hn,hbb]; rfl
          rw [hpB]
          cases hpt:(nestPts P.Parts[i].Nest).1.all (ptOk P.Arrays P.Parts[i]) with
          | false=>simp
          | true =>
            have hle:=zIB (i:Int) (A:=P.Arrays) (x:=P.Parts[i]) (by rw [hpB,hpt])
            simp only [if_true,oS,Bool.true_and]
            rw [show (o++(nestPts P.Parts[i].Nest).1.flatMap fun q=>instR (i:Int) q 0 P.Parts[i].Body.length)=o++partI (i:Int) P.Parts[i] from rfl]
            rw [ih (i+1) _ (by omega) (by rw [lA]; omega),List.append_assoc]
def BG (P:zF):Prop:=BR P.Arrays/\P.Parts.length<=100000/\∀ x∈P.Parts,BP x
def progB (P:zF):Bool:=arrB P.Arrays&&decide (P.Parts.length<=4)&&(List.range' 0 P.Parts.length).all fun i=>partB P.Arrays (gP P i)
def progI (P:zF):List zN:=(List.range' 0 P.Parts.length).flatMap fun (i:Nat)=>partI (i:Int) (gP P i)
def validP (P:zF):Bool:=progB P&&decide ((progI P).length<=120)
theorem implInstances (P:zF) (h:BG P):tS P=some (if progB P then (progI P,decide ((progI P).length<=120)) else ([],false)):=by
  obtain ⟨h1,h2,h3⟩:=h;unfold tS progB;rw [implArrays _ h1];cases ha:arrB P.Arrays with
  | false=>simp
  | true =>
    by_cases h4:P.Parts.length<=4
    · have e:¬((P.Parts.length:Int)>4):=by omega
      have hl:=zNg P h4 h3 (RV.of h1 ha) _ 0 [] (Nat.zero_add _) (by simp);rw [nZ,List.nil_append] at hl;simp only [bT,bF,if_false,e,dF,oP,oB,oS,hl,h4,dT,Bool.true_and];cases hA:(List.range' 0 P.Parts.length).all fun i=>partB P.Arrays (gP P i) with
      | false=>simp
      | true =>
        simp only [if_true,progI]
        congr 2
        simp; omega
    · have e:((P.Parts.length:Int)>4):=by omega
      simp [e,h4]
theorem implValidP (P:zF) (h:BG P):nM P=some (validP P):=by
  unfold nM validP;rw [implInstances P h];cases progB P <;> rfl
theorem implInstP (P:zF) (h:BG P):qC P=some (if validP P then progI P else []):=by
  unfold qC validP;rw [implInstances P h];cases progB P with
  | false=>rfl
  | true=>cases hd:decide ((progI P).length<=120) <;> simp [hd]
theorem zIs {R:Type}{r0:R}{n:Nat}{f:Int->Option (Out Unit R)}{P:Nat->Bool} (step:∀ i,i<n->f (i:Int)=if P i then f ((i+1:Nat):Int) else some (.ret r0)) (fin:f (n:Int)=some (.done ())):f 0=some (if (List.range n).all P then .done () else .ret r0):=by
  have key:∀ j i,i+j=n->f (i:Int)=some (if (List.range' i j).all P then .done () else .ret r0):=by
    intro j
    induction j with
    | zero=>intro i hi; rw [show i=n by omega,fin]; rfl
    | succ j ih =>
      intro i hi;rw [step i (by omega),List.range'_succ,List.all_cons];cases hP:P i with
      | false=>simp
      | true=>simp only [if_true,Bool.true_and]; exact ih (i+1) (by omega)
  have:=key n 0 (by omega);rw [List.range_eq_range'];exact this
theorem zKJ (A:List zD) (x:zI) (qs:List (List Int)) (hq:∀ q∈qs,q.length<=4) (hql:qs.length<=120) (i:Nat) (hi:i<x.Body.length) (hs:stmtB x.Body[i] (x.Nest.length:Int)=true) (hbs:BS x.Body[i]) (hR:RV A) :
    sF A x qs (i:Int) 0=some (if qs.all (fun q=>stOk A x.Body[i] q&&ptB q) then .done () else .ret (0,false)):=by
  have hl:=zIs (r0:=((0:Int),false)) (n:=qs.length) (f:=sF A x qs (i:Int)) (P:=fun k=>stOk A x.Body[i] (qs.getD k [])&&ptB (qs.getD k [])) (fun k hk=>by
      rw [sF]
      have h1:((k:Int)<(qs.length:Int)):=by omega
      have hg:qs.getD k []=qs[k]:=by simp [hk]
      have hk4:=hq _ (gM hk)
      simp only [h1,dT,if_true,yP hi,yP hk,oB,oS,specCells A _ qs[k] hs hbs hk4 hR,specPoint _ (show qs[k].length<=1048576 by omega),hg]
      rw [wY (by omega)]
      cases stOk A x.Body[i] qs[k] with
      | false=>simp
      | true=>cases ptB qs[k] <;> simp) (by
      rw [sF]; simp)
  rw [hl,zA8 qs (fun q=>stOk A x.Body[i] q&&ptB q)]
def EXz:zH:=zH.mk 0 0 (zA.mk [] 0) (zG.mk ⟨[]⟩ []) []
theorem zKK (A:List zD) (x:zI) (hx:BP x) (qs:List (List Int)) (hq:∀ q∈qs,q.length<=4) (hql:qs.length<=120) (hR:RV A) :
    sG A x qs 0=some (if x.Body.all (fun s=>stmtB s (x.Nest.length:Int)&&qs.all (fun q=>stOk A s q&&ptB q)) then .done () else .ret (0,false)):=by
  obtain ⟨b1,b2,b3⟩:=hx
  have hl:=zIs (r0:=((0:Int),false)) (n:=x.Body.length) (f:=sG A x qs) (P:=fun i=>(fun s=>stmtB s (x.Nest.length:Int)&&qs.all (fun q=>stOk A s q&&ptB q)) (x.Body.getD i ⟨⟨⟨[]⟩,[]⟩,EXz⟩)) (fun i hi=>by
      rw [sG]
      have h1:((i:Int)<(x.Body.length:Int)):=by omega
      have hg:x.Body.getD i ⟨⟨⟨[]⟩,[]⟩,EXz⟩=x.Body[i]:=by simp [hi]
      have hbs:=b3 _ (gM hi)
      simp only [h1,dT,if_true,yP hi,oB,oS,specStmt _ _ hbs,hg]
      rw [wY (by omega)]
      cases hst:stmtB x.Body[i] (x.Nest.length:Int) with
      | false=>simp
      | true =>
        simp only [bT,bF,if_false,zKJ A x qs hq hql i hi hst hbs hR,Bool.true_and]
        cases qs.all (fun q=>stOk A x.Body[i] q&&ptB q) <;> simp) (by
      rw [sG]; simp)
  rw [hl,zA8 x.Body (fun s=>stmtB s (x.Nest.length:Int)&&qs.all (fun q=>stOk A s q&&ptB q))]
theorem zMm {A:List zD}{x:zI}{qs:List (List Int)} (h1:1<=x.Body.length) :
    (x.Body.all (fun s=>stmtB s (x.Nest.length:Int)&&qs.all (fun q=>stOk A s q&&ptB q)))=((x.Body.all fun s=>stmtB s (x.Nest.length:Int))&&qs.all (ptOk A x)):=by
  rw [Bool.eq_iff_iff,bA,List.all_eq_true,List.all_eq_true,List.all_eq_true]
  constructor
  · intro h
    refine ⟨fun s hs=>((bA _ _).mp (h s hs)).1,fun q hq=>?_⟩
    have hall:∀ s∈x.Body,stOk A s q=true/\ptB q=true:=fun s hs=>by
      have:=((bA _ _).mp (h s hs)).2
      have:=List.all_eq_true.1 this q hq
      rwa [bA] at this
    rw [ptOk,bA,List.all_eq_true]
    exact ⟨(hall x.Body[0] (gM (by omega))).2,fun s hs=>(hall s hs).1⟩
  · rintro ⟨h2,h3⟩ s hs
    rw [bA,List.all_eq_true]
    refine ⟨h2 s hs,fun q hq=>?_⟩
    have:=h3 q hq
    rw [ptOk,bA,List.all_eq_true] at this
    rw [bA]
    exact ⟨this.2 s hs,this.1⟩
theorem specPart (A:List zD) (x:zI) (hx:BP x) (hR:RV A):mX A x=some (if partB A x then (((nestPts x.Nest).1.length*x.Body.length:Nat):Int) else 0,partB A x):=by
  have hnl:=zDg (nest:=x.Nest);have hl:=zKK A x hx (nestPts x.Nest).1 hnl.2 hnl.1 hR;obtain ⟨b1,b2,b3⟩:=hx;unfold mX partB;rw [specPoints _ b1];cases hn:(nestPts x.Nest).2 with
  | false=>simp [hn]
  | true =>
    by_cases q1:1<=x.Body.length
    · have q1':¬((x.Body.length:Int)<1):=by omega
      by_cases q2:x.Body.length<=4
      · have q2':¬((x.Body.length:Int)>4):=by omega
        have hm:(nestPts x.Nest).1.length*x.Body.length<=120*4:=Nat.mul_le_mul hnl.1 q2;have hW:W (((nestPts x.Nest).1.length:Int)*(x.Body.length:Int))=(((nestPts x.Nest).1.length*x.Body.length:Nat):Int):=by
          rw [<- Int.natCast_mul]; exact rF (by omega) (by omega)
        have hb:bodyB x=x.Body.all fun s=>stmtB s (x.Nest.length:Int):=by simp [bodyB,q1,q2]
        have hsw:=zMm (A:=A) (qs:=(nestPts x.Nest).1) q1;rw [hsw] at hl;have hpt:((nestPts x.Nest).1.all fun q=>ptB q&&x.Body.all fun s=>stOk A s q)=(nestPts x.Nest).1.all (ptOk A x):=rfl;simp only [hn,bT,bF,if_false,q1',q2',dF,oP,oB,oS,hl,hb,hpt,hW,Bool.true_and];cases ((x.Body.all fun s=>stmtB s (x.Nest.length:Int))&&(nestPts x.Nest).1.all (ptOk A x)) <;> simp
      · have q2':((x.Body.length:Int)>4):=by omega
        have hb:bodyB x=false:=by simp [bodyB,q2]
        simp [hn,q1',q2',hb]
    · have q1':((x.Body.length:Int)<1):=by omega
      have hb:bodyB x=false:=by simp [bodyB,q1]
      simp [hn,q1',hb]
theorem zIC (P:zF) (hP:P.Parts.length<=4) (hb:∀ x∈P.Parts,BP x) (hR:RV P.Arrays) :
    ∀ (j i t:Nat),i+j=P.Parts.length->t<=480*i->vE P (t:Int) (i:Int)=some (if (List.range' i j).all (fun i=>partB P.Arrays (gP P i)) then .done (((t+((List.range' i j).flatMap fun (i:Nat)=>partI (i:Int) (gP P i)).length:Nat)):Int) else .ret false):=by
  intro j
  induction j with
  | zero =>
    intro i t hi ht
    rw [vE]
    have:¬((i:Int)<(P.Parts.length:Int)):=by omega
    simp only [this,dF,bF,if_false]
    simp
  | succ j ih =>
    intro i t hi ht
    rw [vE]
    have hlt:i<P.Parts.length:=by omega
    have hc:((i:Int)<(P.Parts.length:Int)):=by omega
    have hg:gP P i=P.Parts[i]:=by simp [gP,hlt]
    simp only [hc,dT,if_true,yP hlt,oB,oS,specPart P.Arrays _ (hb _ (gM hlt)) hR]
    rw [wY (by omega),List.range'_succ,List.all_cons,List.flatMap_cons,hg]
    cases hp:partB P.Arrays P.Parts[i] with
    | false=>simp
    | true =>
      have hle:=zIB (i:Int) hp
      have hpl:=zIr (i:Int) P.Parts[i]
      rw [hpl] at hle
      have hW:W ((t:Int)+(((nestPts P.Parts[i].Nest).1.length*P.Parts[i].Body.length:Nat):Int))=((t+(nestPts P.Parts[i].Nest).1.length*P.Parts[i].Body.length:Nat):Int):=by
        rw [rF (by omega) (by omega)]; omega
      simp only [if_true,bT,bF,if_false,Bool.true_and,hW]
      rw [ih (i+1) _ (by omega) (by omega),lA,hpl,Nat.add_assoc]
theorem specValidP (P:zF) (h:BG P):tV P=some (validP P):=by
  obtain ⟨h1,h2,h3⟩:=h;unfold tV validP progB;rw [specArrays _ h1];cases ha:arrB P.Arrays with
  | false=>simp
  | true =>
    by_cases h4:P.Parts.length<=4
    · have e:¬((P.Parts.length:Int)>4):=by omega
      have hl:=zIC P h4 h3 (RV.of h1 ha) _ 0 0 (Nat.zero_add _) (by simp);rw [nZ,Nat.zero_add] at hl;simp only [bT,bF,if_false,e,dF,oP,oB,oS,hl,h4,dT,Bool.true_and];cases hA:(List.range' 0 P.Parts.length).all fun i=>partB P.Arrays (gP P i) with
      | false=>simp
      | true =>
        simp only [if_true,progI,Bool.true_and]
        congr 1
        simp; omega
    · have e:((P.Parts.length:Int)>4):=by omega
      simp [e,h4]
end Go.LN
namespace Go.LN
theorem pP {α:Type}{l:List α}{f:Int->List α->Option (List α)} (step:∀ (i:Nat) (h:i<l.length) (o:List α),o.length=i->f (i:Int) o=f ((i+1:Nat):Int) (o++[l[i]])) (fin:∀ o,f (l.length:Int) o=some o):f 0 []=some l:=by
  have key:∀ j i,i+j=l.length->f (i:Int) (l.take i)=some l:=by
    intro j
    induction j with
    | zero =>
      intro i hi;rw [show i=l.length by omega,fin,List.take_of_length_le (Nat.le_refl _)]
    | succ j ih =>
      intro i hi;have hlt:i<l.length:=by omega
      have:=ih (i+1) (by omega);rw [List.take_add_one,List.getElem?_eq_getElem hlt,Option.toList_some] at this;rw [step i hlt _ (by rw [List.length_take]; omega)];exact this
  exact key _ 0 (Nat.zero_add _)
theorem copyExpr:∀ (m:Nat) (e:zH),BE m e->oO e=some e
  | m,e,h=>by
    obtain ⟨h1,h2,h3⟩:=h.own
    rw [oO]
    have hl:=pP (l:=e.Kids) (f:=fun i o=>tE e i o) (fun i hi o ho=>by
        show tE e (i:Int) o=_
        rw [tE]
        have k1:((i:Int)<(e.Kids.length:Int)):=by omega
        obtain ⟨m',hm,hm'⟩:=h.kid (gM hi)
        have happ:app 112 o [e.Kids[i]]=some (o++[e.Kids[i]]):=qB (by simp; omega)
        have hr:=copyExpr m' e.Kids[i] hm'
        simp only [k1,dT,if_true,yP hi,oB,oS,same,hr,happ]
        rw [wY (by omega)]) (fun o=>by
        show tE e (e.Kids.length:Int) o=_
        rw [tE]; simp)
    simp only [specCopyAff _ h1,specCopyAcc _ h2,oB,oS,same]
    rw [show tE e 0 []=some e.Kids from hl]
    clear hl h h1 h2 h3
    cases e; rfl
theorem copyStmt (s:zJ) (h:BS s):eF s=some s:=by
  obtain ⟨h1,m,h2⟩:=h;unfold eF;rw [specCopyAcc _ h1,copyExpr m _ h2];rfl
theorem copyNest (nest:List zE) (h:BN nest):kY nest=some nest:=by
  obtain ⟨h1,h2⟩:=h;unfold kY;have hl:=pP (l:=nest) (f:=fun i o=>sA nest o i) (fun i hi o ho=>by
      show sA nest o (i:Int)=_;rw [sA];have k1:((i:Int)<(nest.length:Int)):=by omega
      obtain ⟨⟨q1,q2⟩,q3,q4⟩:=h2 _ (gM hi);have happ:app 48 o [nest[i]]=some (o++[nest[i]]):=qB (by simp; omega);have hlo:=pP (l:=nest[i].Lo) (f:=fun k o=>qO nest (i:Int) k o) (fun k hk o ho=>by
          show qO nest (i:Int) (k:Int) o=_;rw [qO];have k2:((k:Int)<(nest[i].Lo.length:Int)):=by omega
          have hp:app 32 o [nest[i].Lo[k]]=some (o++[nest[i].Lo[k]]):=qB (by simp; omega);have ha:=q2 _ (gM hk);have hpn:app 8 ([]:List Int) nest[i].Lo[k].Coefs=some nest[i].Lo[k].Coefs:=zAY _ (by unfold BA at ha; omega);simp only [yP hi,k2,dT,if_true,yP hk,oB,oS,hpn,hp];rw [wY (by omega)]) (fun o=>by
          show qO nest (i:Int) (nest[i].Lo.length:Int) o=_;rw [qO]; simp [yP hi])
      have hhi:=pP (l:=nest[i].Hi) (f:=fun k o=>qP nest (i:Int) k o) (fun k hk o ho=>by
          show qP nest (i:Int) (k:Int) o=_;rw [qP];have k2:((k:Int)<(nest[i].Hi.length:Int)):=by omega
          have hp:app 32 o [nest[i].Hi[k]]=some (o++[nest[i].Hi[k]]):=qB (by simp; omega);have ha:=q4 _ (gM hk);have hpn:app 8 ([]:List Int) nest[i].Hi[k].Coefs=some nest[i].Hi[k].Coefs:=zAY _ (by unfold BA at ha; omega);simp only [yP hi,k2,dT,if_true,yP hk,oB,oS,hpn,hp];rw [wY (by omega)]) (fun o=>by
          show qP nest (i:Int) (nest[i].Hi.length:Int) o=_;rw [qP]; simp [yP hi])
      simp only [k1,dT,if_true,oB,oS,hlo,hhi,happ];rw [wY (by omega)]) (fun o=>by
      show sA nest o (nest.length:Int)=_;rw [sA]; simp)
  rw [hl]; rfl
theorem copyProg (P:zF) (h:BG P):rK P=some P:=by
  obtain ⟨⟨h1,h1'⟩,h2,h3⟩:=h;unfold rK;have ha:=pP (l:=P.Arrays) (f:=fun i o=>sB P i o) (fun i hi o ho=>by
      show sB P (i:Int) o=_;rw [sB];have k1:((i:Int)<(P.Arrays.length:Int)):=by omega
      have hd:=h1' _ (gM hi);have happ:app 40 o [P.Arrays[i]]=some (o++[P.Arrays[i]]):=qB (by simp; omega);have hpn:app 8 ([]:List Int) P.Arrays[i].Dims=some P.Arrays[i].Dims:=zAY _ (by omega);simp only [k1,dT,if_true,yP hi,oB,oS,hpn,happ];rw [wY (by omega)]) (fun o=>by
      show sB P (P.Arrays.length:Int) o=_;rw [sB]; simp)
  have hp:=pP (l:=P.Parts) (f:=fun i o=>sC P i o) (fun i hi o ho=>by
      show sC P (i:Int) o=_;rw [sC];have k1:((i:Int)<(P.Parts.length:Int)):=by omega
      obtain ⟨b1,b2,b3⟩:=h3 _ (gM hi);have happ:app 48 o [P.Parts[i]]=some (o++[P.Parts[i]]):=qB (by simp; omega);have hb:=pP (l:=P.Parts[i].Body) (f:=fun k o=>qQ P (i:Int) k o) (fun k hk o ho=>by
          show qQ P (i:Int) (k:Int) o=_;rw [qQ];have k2:((k:Int)<(P.Parts[i].Body.length:Int)):=by omega
          have hp:app 152 o [P.Parts[i].Body[k]]=some (o++[P.Parts[i].Body[k]]):=qB (by simp; omega);simp only [yP hi,k2,dT,if_true,yP hk,oB,oS,copyStmt _ (b3 _ (gM hk)),hp];rw [wY (by omega)]) (fun o=>by
          show qQ P (i:Int) (P.Parts[i].Body.length:Int) o=_;rw [qQ]; simp [yP hi])
      simp only [k1,dT,if_true,yP hi,oB,oS,copyNest _ b1,hb,happ];rw [wY (by omega)]) (fun o=>by
      show sC P (P.Parts.length:Int) o=_;rw [sC]; simp)
  rw [ha,hp]; rfl
end Go.LN
namespace Go.LN
theorem BE.up1:∀ {n:Nat}{e:zH},BE n e->BE (n+1) e
  | 0,e,⟨h1,h2,h3⟩=>⟨h1,h2,by rw [h3]; simp,by rw [h3]; intro k hk; cases hk⟩
  | n+1,e,⟨h1,h2,h3,h4⟩=>⟨h1,h2,h3,fun k hk=>BE.up1 (h4 k hk)⟩
theorem BE.up {n m:Nat}{e:zH} (h:BE n e) (hm:n<=m):BE m e:=by
  obtain ⟨k,rfl⟩:=Nat.exists_eq_add_of_le hm
  induction k with
  | zero=>exact h
  | succ k ih=>exact BE.up1 (ih (by omega))
def QL (q:Nat) (l:List zA):Prop:=l.length<=q/\∀ a∈l,BA a
def QN (q:Nat) (nest:List zE):Prop:=nest.length<=2000/\∀ x∈nest,QL q x.Lo/\QL q x.Hi
def QS (q:Nat) (s:zJ):Prop:=QL q s.Write.Subs/\BA s.Value.Index/\BL s.Value.Read.Subs/\s.Value.Kids.length<=q/\∀ k∈s.Value.Kids,BE 6 k
theorem QL.up {q r:Nat}{l:List zA} (h:QL q l) (hq:q<=r):QL r l:=⟨Nat.le_trans h.1 hq,h.2⟩
theorem QL.bl {q:Nat}{l:List zA} (h:QL q l) (hq:q<=1000):BL l:=⟨Nat.le_trans h.1 hq,h.2⟩
theorem QL.app {q k:Nat}{l m:List zA} (h:QL q l) (hm:QL k m):QL (q+k) (l++m):=by
  refine ⟨by rw [lA]; exact Nat.add_le_add h.1 hm.1,fun a ha=>?_⟩;rcases List.mem_append.1 ha with ha | ha
  · exact h.2 a ha
  · exact hm.2 a ha
theorem QL.nil {q:Nat}:QL q []:=⟨Nat.zero_le _,fun _ h=>by cases h⟩
theorem QL.one {a:zA} (h:BA a):QL 1 [a]:=⟨Nat.le_refl _,fun _ h'=>List.mem_singleton.1 h' ▸ h⟩
theorem QL.two {a b:zA} (h:BA a) (h2:BA b):QL 2 [a,b]:=QL.app (QL.one h) (QL.one h2)
theorem QN.up {q r:Nat}{l:List zE} (h:QN q l) (hq:q<=r):QN r l:=⟨h.1,fun x hx=>⟨(h.2 x hx).1.up hq,(h.2 x hx).2.up hq⟩⟩
theorem QN.bn {q:Nat}{l:List zE} (h:QN q l) (hq:q<=1000):BN l:=⟨by have:=h.1; omega,fun x hx=>⟨(h.2 x hx).1.bl hq,(h.2 x hx).2.bl hq⟩⟩
theorem QN.set {q:Nat}{l:List zE} (h:QN q l) {x:zE} (hx:QL q x.Lo/\QL q x.Hi) (k:Nat):QN q (l.set k x):=⟨by rw [List.length_set]; exact h.1,zCn h.2 hx k⟩
theorem QS.up {q r:Nat}{s:zJ} (h:QS q s) (hq:q<=r):QS r s:=⟨h.1.up hq,h.2.1,h.2.2.1,Nat.le_trans h.2.2.2.1 hq,h.2.2.2.2⟩
theorem QS.bs {q:Nat}{s:zJ} (h:QS q s) (hq:q<=1000):BS s:=⟨h.1.bl hq,7,h.2.1,h.2.2.1,by have:=h.2.2.2.1; omega,h.2.2.2.2⟩
theorem zIt {a:zA} (h:a.Coefs.length=4):BA a:=by unfold BA; omega
theorem zLW (q:Nat):∀ (j:Nat) (out:List zE),5<=out.length+j->1<=out.length->QN q out->Ok (pX out) (QN q)
  | 0,out,hj,h1,h=>by
    rw [pX]
    refine Ok.ite_dec (fun hc=>absurd hc (by omega)) fun _=>Ok.pure h
  | j+1,out,hj,h1,h=>by
    rw [pX]
    refine Ok.ite_dec (fun hc=>?_) fun _=>Ok.pure h
    refine Ok.idx (by omega) (by omega) fun x hx _=>Ok.app (by simp; omega) ?_
    refine zLW q j _ (by rw [lA]; simp; omega) (by rw [lA]; omega) ⟨by rw [lA]; simp; omega,fun y hy=>?_⟩
    rcases List.mem_append.1 hy with hy | hy
    · exact h.2 y hy
    · rw [List.mem_singleton.1 hy]; exact h.2 x hx
theorem mut2 (q:Nat) (hq:q<=300) (r:zP) (nest:List zE) (h:QN q nest) (h0:0<=r.p) (h1:r.p<=900000000):Ok (kO r nest) (fun y=>QN (q+2) y.1/\0<=y.2.p/\y.2.p<=r.p+2):=by
  have hup:=h.up (show q<=q+2 by omega);unfold kO;rw [copyNest nest (h.bn (by omega))];refine Ok.bind_some (Ok.ite_beq (fun _=>Ok.pure ⟨hup,h0,by dsimp only; omega⟩) fun hne=>?_);have hpos:0<nest.length:=by omega
  have hlen:=h.1;have hW:W ((nest.length:Int) - 1)=((nest.length - 1:Nat):Int):=by rw [rF (by omega) (by omega)]; omega
  refine Ok.call (dO r 40) ⟨h0,by omega⟩ fun y2 s g1 g2 g3=>?_;refine Ok.ite_beq (fun _=>?_) fun _=>Ok.ite_beq (fun _=>?_) fun _=>Ok.ite_beq (fun _=>?_) fun _=>Ok.ite_beq (fun _=>?_) fun _=>Ok.ite_beq (fun _=>?_) fun _=>?_
  · refine Ok.idx (by omega) (by omega) fun x hx _=>Ok.call (dO s 2) ⟨by omega,by omega⟩ fun y5 s2 k1 k2 k3=>Ok.call (zDo y5) ⟨k1,by omega⟩ fun a c1 c2=>?_;have hxx:=h.2 x hx;refine Ok.app (by have:=hxx.1.1; simp; omega) (Ok.pure ⟨QN.set (x:=⟨x.Lo++[a],x.Hi⟩) hup ⟨(hxx.1.app (QL.one (zIt c1))).up (show q+1<=q+2 by omega),hxx.2.up (show q<=q+2 by omega)⟩ _,by dsimp only; omega,by dsimp only; omega⟩)
  · rw [hW];refine Ok.idx (by omega) (by omega) fun x hx _=>?_;have hxx:=h.2 x hx;exact Ok.pure ⟨QN.set (x:=⟨x.Lo,[]⟩) hup ⟨hxx.1.up (show q<=q+2 by omega),QL.nil⟩ _,by dsimp only; omega,by dsimp only; omega⟩
  · rw [hW];refine Ok.idx (by omega) (by omega) fun x hx _=>Ok.call (gH 1) trivial (Ok.call (gH 2) trivial ?_);have hxx:=h.2 x hx;exact Ok.app (by have:=hxx.2.1; simp; omega) (Ok.pure ⟨QN.set (x:=⟨x.Lo,x.Hi++[⟨[0,0,0,0],1⟩,⟨[0,0,0,0],2⟩]⟩) hup ⟨hxx.1.up (show q<=q+2 by omega),hxx.2.app (QL.two (zIt rfl) (zIt rfl))⟩ _,by dsimp only; omega,by dsimp only; omega⟩)
  · refine Ok.call (gH 99) trivial (Ok.idx (by omega) (by omega) fun x hx _=>?_);have hxx:=h.2 x hx;exact Ok.pure ⟨QN.set (x:=⟨x.Lo,[⟨[0,0,0,0],99⟩]⟩) hup ⟨hxx.1.up (show q<=q+2 by omega),(QL.one (zIt rfl)).up (show 1<=q+2 by omega)⟩ _,by dsimp only; omega,by dsimp only; omega⟩
  · refine Ok.bind (zLW q 5 nest (by omega) hpos h) fun z hz=>Ok.pure ⟨hz.up (by omega),by dsimp only; omega,by dsimp only; omega⟩
  · exact Ok.pure ⟨hup,by dsimp only; omega,by dsimp only; omega⟩
theorem mut3 (q:Nat) (hq:q<=300) (r:zP) (s:zJ) (h:QS q s) (h0:0<=r.p) (h1:r.p<=900000000):Ok (qL r s) (fun y=>QS (q+2) y.1/\0<=y.2.p/\y.2.p<=r.p+2):=by
  obtain ⟨w1,w2,w3,w4,w5⟩:=h.up (show q<=q+2 by omega);obtain ⟨v1,_,_,v4,_⟩:=id h;have v11:=v1.1;unfold qL;rw [copyStmt s (h.bs (by omega))];refine Ok.bind_some (Ok.call (dO r 40) ⟨h0,by omega⟩ fun y2 y3 g1 g2 g3=>?_);have fin:∀ (o:Str×List zA×Int×Int×List zH×zP),(QL (q+2) o.2.1/\(o.2.2.2.2.1.length<=q+2/\∀ k∈o.2.2.2.2.1,BE 6 k)/\0<=o.2.2.2.2.2.p/\o.2.2.2.2.2.p<=r.p+2)->QS (q+2) (zJ.mk (zG.mk o.1 o.2.1) (zH.mk o.2.2.1 o.2.2.2.1 s.Value.Index s.Value.Read o.2.2.2.2.1))/\0<=o.2.2.2.2.2.p/\o.2.2.2.2.2.p<=r.p+2 :=
    fun o ⟨a,b,c⟩=>⟨⟨a,w2,w3,b.1,b.2⟩,c⟩
  refine Ok.bind (φ:=fun o:Str×List zA×Int×Int×List zH×zP=>QL (q+2) o.2.1/\(o.2.2.2.2.1.length<=q+2/\∀ k∈o.2.2.2.2.1,BE 6 k)/\0<=o.2.2.2.2.2.p/\o.2.2.2.2.2.p<=r.p+2) ?_ fun o ho=>by
    obtain ⟨o1,o2,o3,o4,o5,o6⟩:=o;exact Ok.pure (fin _ ho)
  refine Ok.ite_beq (fun _=>?_) fun _=>?_
  · exact Ok.call (dV y3 _) ⟨by decide,by omega,by omega⟩ fun z t _ k3=>Ok.pure ⟨w1,⟨w4,w5⟩,by dsimp only; omega,by dsimp only; omega⟩
  refine Ok.bind (φ:=fun o:List zA×Int×Int×List zH×zP=>QL (q+2) o.1/\(o.2.2.2.1.length<=q+2/\∀ k∈o.2.2.2.1,BE 6 k)/\0<=o.2.2.2.2.p/\o.2.2.2.2.p<=r.p+2) ?_ fun o ho=>by
    obtain ⟨o2,o3,o4,o5,o6⟩:=o;exact Ok.pure ho
  refine Ok.ite_beq (fun _=>?_) fun _=>?_
  · exact Ok.call (zDo 3) (by omega) fun a c1 c2=>Ok.call zA7 trivial (Ok.app (by simp; omega) (Ok.pure ⟨v1.app (QL.two (zIt c1) (zIt rfl)),⟨w4,w5⟩,by dsimp only; omega,by dsimp only; omega⟩))
  refine Ok.bind (φ:=fun o:Int×Int×List zH×zP=>(o.2.2.1.length<=q+2/\∀ k∈o.2.2.1,BE 6 k)/\0<=o.2.2.2.p/\o.2.2.2.p<=r.p+2) ?_ fun o ho=>by
    obtain ⟨o3,o4,o5,o6⟩:=o;exact Ok.pure ⟨w1,ho⟩
  refine Ok.ite_beq (fun _=>?_) fun _=>?_
  · exact Ok.call (tT y3 _) ⟨by decide,by omega,by omega,by decide⟩ fun z t _ _ k3=>Ok.pure ⟨⟨w4,w5⟩,by dsimp only; omega,by dsimp only; omega⟩
  refine Ok.bind (φ:=fun o:Int×List zH×zP=>(o.2.1.length<=q+2/\∀ k∈o.2.1,BE 6 k)/\0<=o.2.2.p/\o.2.2.p<=r.p+2) ?_ fun o ho=>by
    obtain ⟨o4,o5,o6⟩:=o;exact Ok.pure ho
  refine Ok.ite_beq (fun _=>?_) fun _=>?_
  · exact Ok.call (tT y3 _) ⟨by decide,by omega,by omega,by decide⟩ fun z t _ _ k3=>Ok.pure ⟨⟨w4,w5⟩,by dsimp only; omega,by dsimp only; omega⟩
  refine Ok.bind (φ:=fun o:List zH=>o.length<=q+2/\∀ k∈o,BE 6 k) ?_ fun o ho=>Ok.pure ⟨ho,by dsimp only; omega,by dsimp only; omega⟩;refine Ok.ite_beq (fun _=>?_) fun _=>Ok.pure ⟨w4,w5⟩;refine Ok.app (by show (_+1)*112<=_; omega) (Ok.pure ⟨by show (_++_:List zH).length<=_; rw [lA]; show _+1<=_; omega,fun k hk=>?_⟩);rcases List.mem_append.1 hk with hk | hk
  · exact w5 k hk
  · rw [List.mem_singleton.1 hk];exact BE.up (n:=0) ⟨Nat.zero_le _,⟨Nat.zero_le _,fun _ h=>by cases h⟩,rfl⟩ (by omega)
end Go.LN
namespace Go.LN
def DX (x:zI):Prop:=QN 100 x.Nest/\x.Body.length<=1000/\∀ s∈x.Body,QS 100 s
def DP (P:zF):Prop:=(P.Arrays.length<=1000/\∀ a∈P.Arrays,a.Dims.length<=1000)/\P.Parts.length<=1000/\∀ x∈P.Parts,DX x
theorem DX.bp {x:zI} (h:DX x):BP x:=⟨h.1.bn (by omega),by have:=h.2.1; omega,fun s hs=>(h.2.2 s hs).bs (by omega)⟩
theorem DP.bg {P:zF} (h:DP P):BG P:=⟨⟨by have:=h.1.1; omega,h.1.2⟩,by have:=h.2.1; omega,fun x hx=>(h.2.2 x hx).bp⟩
def PB (l:List zI):Prop:=l.length<=1000/\∀ x∈l,BP x
theorem PB.set {l:List zI} (h:PB l) {x:zI} (hx:BP x) (k:Nat):PB (l.set k x):=⟨by rw [List.length_set]; exact h.1,zCn h.2 hx k⟩
def AR (l:List zD):Prop:=l.length<=2000/\∀ a∈l,a.Dims.length<=1000
def RD (s:zP):Prop:=0<=s.p/\s.p<=700001000
theorem mut4 (r:zP) (P:zF) (h:DP P) (h0:0<=r.p) (h1:r.p<=700000000):Ok (nO r P) (fun y=>(BG y.1/\AR y.1.Arrays)/\RD y.2):=by
  obtain ⟨⟨a1,a2⟩,p1,p2⟩:=id h;have hA:AR P.Arrays:=⟨by omega,a2⟩;have hP:PB P.Parts:=⟨p1,fun x hx=>(p2 x hx).bp⟩;have hW:0<P.Parts.length->W ((P.Parts.length:Int) - 1)=((P.Parts.length - 1:Nat):Int):=fun hp=>by rw [rF (by omega) (by omega)]; omega
  unfold nO;rw [copyProg P h.bg];refine Ok.bind_some (Ok.call (dO r 60) ⟨h0,by omega⟩ fun y2 y3 g1 g2 g3=>?_);have hR:RD y3:=⟨by omega,by omega⟩;refine Ok.bind (φ:=fun o:List zD×List zI×zP=>AR o.1/\PB o.2.1/\RD o.2.2) ?_ fun o ho=>by
    obtain ⟨o1,o2,o3⟩:=o;exact Ok.pure ⟨⟨⟨⟨by have:=ho.1.1; dsimp only at this ⊢; omega,ho.1.2⟩,by have:=ho.2.1.1; dsimp only at this ⊢; omega,ho.2.1.2⟩,ho.1⟩,ho.2.2⟩
  refine Ok.ite_beq (fun _=>?_) fun _=>?_
  · refine Ok.call (dV y3 _) ⟨by decide,by omega,by omega⟩ fun z t _ k3=>Ok.call (tT t _) ⟨by decide,by omega,by omega,by decide⟩ fun z2 t2 _ _ k4=>Ok.app (by show (_+1)*40<=_; omega) (Ok.pure ⟨⟨by show (_++_:List zD).length<=_; rw [lA]; show _+1<=_; omega,fun a ha=>?_⟩,hP,⟨by dsimp only; omega,by dsimp only; omega⟩⟩);rcases List.mem_append.1 ha with ha | ha
    · exact a2 a ha
    · rw [List.mem_singleton.1 ha]; show 1<=1000; omega
  refine Ok.bind (φ:=fun o:List zD×List zI×zP=>AR o.1/\PB o.2.1/\RD o.2.2) ?_ fun o ho=>by
    obtain ⟨o1,o2,o3⟩:=o;exact Ok.pure ho
  refine Ok.ite_beq (fun _=>?_) fun _=>?_
  · refine Ok.bind (φ:=fun o:List zD×zP=>AR o.1/\RD o.2) ?_ fun o ho=>by
      obtain ⟨o1,o3⟩:=o;exact Ok.pure ⟨ho.1,hP,ho.2⟩
    refine Ok.ite_dec (fun hc=>?_) fun _=>Ok.pure ⟨hA,hR⟩;refine Ok.call (tT y3 _) ⟨by decide,by omega,by omega,by decide⟩ fun z t _ _ k3=>Ok.idx (by omega) (by omega) fun x hx _=>Ok.bind_pure (Ok.pure ⟨⟨by show (List.set _ _ _).length<=_; rw [List.length_set]; exact hA.1,zCn hA.2 (show ([z]:List Int).length<=1000 by simp) _⟩,⟨by dsimp only; omega,by dsimp only; omega⟩⟩)
  refine Ok.bind (φ:=fun o:List zI×zP=>PB o.1/\RD o.2) ?_ fun o ho=>by
    obtain ⟨o1,o3⟩:=o;exact Ok.pure ⟨hA,ho⟩
  refine Ok.ite_beq (fun _=>?_) fun _=>?_
  · refine Ok.bind (φ:=fun o:List zI×zP=>PB o.1/\RD o.2) ?_ fun o ho=>by
      obtain ⟨o1,o3⟩:=o;exact Ok.pure ho
    refine Ok.ite_dec (fun hc=>?_) fun _=>Ok.pure ⟨hP,hR⟩;refine Ok.idx (by omega) (by omega) fun x hx _=>?_;refine Ok.bind (mut2 100 (by omega) y3 x.Nest (p2 x hx).1 (by omega) (by omega)) fun q1 k1=>?_;obtain ⟨n1,s1⟩:=q1;obtain ⟨c1,c2,c3⟩:=k1;refine Ok.bind (mut2 (100+2) (by omega) s1 n1 c1 c2 (by dsimp only at c3; omega)) fun q2 k2=>?_;obtain ⟨n2,s2⟩:=q2;obtain ⟨d1,d2,d3⟩:=k2;refine Ok.bind (mut2 (100+2+2) (by omega) s2 n2 d1 d2 (by dsimp only at c3 d3; omega)) fun q3 k3=>?_;obtain ⟨n,s⟩:=q3;have hn:=k3.1;refine Ok.idx (by omega) (by omega) fun x7 hx7 _=>Ok.bind_pure (Ok.pure ⟨hP.set (x:=⟨n,x7.Body⟩) ⟨hn.bn (by omega),(p2 x7 hx7).bp.2.1,(p2 x7 hx7).bp.2.2⟩ _,⟨k3.2.1,by have:=k3.2.2; dsimp only at this c3 d3 ⊢; omega⟩⟩)
  refine Ok.bind (φ:=fun o:List zI×zP=>PB o.1/\RD o.2) ?_ fun o ho=>by
    obtain ⟨o1,o3⟩:=o;exact Ok.pure ho
  refine Ok.ite_beq (fun _=>?_) fun _=>?_
  · refine Ok.bind (φ:=fun b=>b=true->0<P.Parts.length/\∀ x,P.Parts[P.Parts.length - 1]?=some x->0<x.Body.length) ?_ fun b hb=>?_
    · refine Ok.ite_dec (fun hc=>?_) fun _=>Ok.pure (fun h=>by cases h);have hp:0<P.Parts.length:=by omega
      rw [hW hp];refine Ok.idx (by omega) (by omega) fun x hx he=>Ok.pure fun hd=>⟨hp,fun x' hx'=>?_⟩;rw [iN] at he;rw [he] at hx';cases hx'
      have:=of_decide_eq_true hd;omega
    · refine Ok.bind (φ:=fun o:List zI×zP=>PB o.1/\RD o.2) ?_ fun o ho=>by
        obtain ⟨o1,o3⟩:=o;exact Ok.pure ho
      refine Ok.ite (fun hc=>?_) fun _=>Ok.pure ⟨hP,hR⟩;obtain ⟨hp,hbody⟩:=hb hc;rw [hW hp];refine Ok.idx (by omega) (by omega) fun x hx he=>?_;rw [iN] at he;have hb0:=hbody x he;have hdx:=p2 x hx;refine Ok.idx (by omega) (by omega) fun x0 hx0 _=>?_;refine Ok.bind (mut3 100 (by omega) y3 x0 (hdx.2.2 x0 hx0) (by omega) (by omega)) fun q1 k1=>?_;obtain ⟨n1,s1⟩:=q1;obtain ⟨c1,c2,c3⟩:=k1;refine Ok.bind (mut3 (100+2) (by omega) s1 n1 c1 c2 (by dsimp only at c3; omega)) fun q2 k2=>?_;obtain ⟨n2,s2⟩:=q2;obtain ⟨d1,d2,d3⟩:=k2;refine Ok.bind (mut3 (100+2+2) (by omega) s2 n2 d1 d2 (by dsimp only at c3 d3; omega)) fun q3 k3=>?_;obtain ⟨n,s⟩:=q3;have hn:=k3.1;refine Ok.bind_pure (Ok.pure ⟨hP.set (x:=⟨x.Nest,x.Body.set 0 n⟩) ⟨hdx.bp.1,by rw [List.length_set]; exact hdx.bp.2.1,zCn hdx.bp.2.2 (hn.bs (by omega)) _⟩ _,⟨k3.2.1,by have:=k3.2.2; dsimp only at this c3 d3 ⊢; omega⟩⟩)
  refine Ok.bind (φ:=fun o:List zI=>PB o) ?_ fun o ho=>Ok.pure ⟨ho,hR⟩;refine Ok.ite_beq (fun _=>?_) fun _=>Ok.pure hP;refine Ok.bind (φ:=fun o:List zI=>PB o) ?_ fun o ho=>Ok.pure ho;refine Ok.ite_dec (fun hc=>?_) fun _=>Ok.pure hP;have hp:0<P.Parts.length:=by omega
  rw [hW hp];refine Ok.idx (by omega) (by omega) fun x hx he=>Ok.bind_pure (Ok.pure (hP.set (x:=⟨x.Nest,[]⟩) ⟨(p2 x hx).bp.1,by show 0<=100000; omega,fun _ h=>by cases h⟩ _))
theorem SE.be:∀ {n:Nat}{e:zH},SE n e->BE n e
  | 0,e,⟨h1,h2,h3⟩=>⟨by have:=h1.1; unfold BA; omega,⟨by have:=h2.2.1; omega,fun a ha=>by have:=(h2.2.2 a ha).1; unfold BA; omega⟩,h3⟩
  | n+1,e,⟨h1,h2,h3,h4⟩=>⟨by have:=h1.1; unfold BA; omega,⟨by have:=h2.2.1; omega,fun a ha=>by have:=(h2.2.2 a ha).1; unfold BA; omega⟩,by omega,fun k hk=>SE.be (h4 k hk)⟩
theorem SS.qs {s:zJ} (h:SS s):QS 100 s:=by
  obtain ⟨h1,h2⟩:=h;have hb:=SE.be h2;exact ⟨⟨h1.2.1,fun a ha=>by have:=(h1.2.2 a ha).1; unfold BA; omega⟩,hb.1,hb.2.1,by have:=h2.2.2.1; omega,fun k hk=>BE.up (n:=4) (m:=6) (hb.2.2.2 k hk) (by omega)⟩
theorem LL.ql {l:List zA} (h:LL l):QL 100 l:=⟨h.1,fun a ha=>by have:=(h.2 a ha).1; unfold BA; omega⟩
theorem SG.dp {P:zF} (h:SG 1000 P):DP P:=by
  obtain ⟨⟨h1,h2⟩,h3,h4⟩:=h;refine ⟨⟨h1,fun a ha=>by have:=(h2 a ha).2; omega⟩,h3,fun x hx=>?_⟩;obtain ⟨⟨k1,k2⟩,k3,k4⟩:=h4 x hx;exact ⟨⟨by omega,fun y hy=>⟨(k2 y hy).1.ql,(k2 y hy).2.ql⟩⟩,k3,fun s hs=>(k4 s hs).qs⟩
def totL:List zD->Int->Int
  | [],n=>n
  | x::l,n=>totL l (W (n+sizeF x))
theorem implCells (P:zF) (h:BR P.Arrays):kE P=some (totL P.Arrays 0):=by
  unfold kE;obtain ⟨h1,h2⟩:=h;have key:∀ (j i:Nat) (n:Int),i+j=P.Arrays.length->sN P n (i:Int)=some (totL (P.Arrays.drop i) n):=by
    intro j
    induction j with
    | zero =>
      intro i n hi;rw [sN];have:¬((i:Int)<(P.Arrays.length:Int)):=by omega
      simp only [this,dF,bF,if_false];rw [dN.2 (by omega)]; rfl
    | succ j ih =>
      intro i n hi;rw [sN];have hlt:i<P.Arrays.length:=by omega
      have hc:((i:Int)<(P.Arrays.length:Int)):=by omega
      have hd:=h2 _ (gM hlt);simp only [hc,dT,if_true,yP hlt,oB,oS,implSize _ (show P.Arrays[i].Dims.length<=1048576 by omega)];rw [wY (by omega),ih (i+1) _ (by omega),gC hlt,totL]
  have:=key _ 0 0 (Nat.zero_add _);rw [nZ,List.drop_zero] at this;rw [this]; rfl
theorem implCount (P:zF) (h:BG P):kK P=some (if validP P then totL P.Arrays 0 else 0):=by
  unfold kK;rw [implValidP P h,implCells P h.1];cases validP P <;> rfl
end Go.LN
namespace Go.LN
theorem zMn {A:List zD}{x:zI} (h:partB A x=true):(nestPts x.Nest).1=pts x.Nest []/\nestB x.Nest=true/\(pts x.Nest []).length<=120:=by
  simp only [partB,bA] at h;have h1:=h.1.1;unfold nestPts at h1 ⊢;split at h1
  · rename_i hc;rw [if_pos hc];exact ⟨rfl,hc.1,hc.2.2⟩
  · cases h1
theorem zKL (P:zF) (i:Nat) (hi:i<P.Parts.length) (y:List (List Int)) (k:Nat) (hk:k<y.length) (hq:y[k].length<=4) (hb:P.Parts[i].Body.length<=4) :
    ∀ (j s:Nat) (o:List zN),s+j=P.Parts[i].Body.length->o.length+j<=1000000->vX P (i:Int) y (k:Int) o (s:Int)=some (o++instR (i:Int) y[k] s j):=by
  intro j
  induction j with
  | zero =>
    intro s o hs ho
    rw [vX]
    have:¬((s:Int)<(P.Parts[i].Body.length:Int)):=by omega
    simp only [yP hi,this,dF,bF,if_false,oB,oS,oP]
    simp [instR]
  | succ j ih =>
    intro s o hs ho
    rw [vX]
    have hc:((s:Int)<(P.Parts[i].Body.length:Int)):=by omega
    have hpn:app 8 ([]:List Int) y[k]=some y[k]:=zAY _ (by omega)
    have happ:app 40 o [(⟨(i:Int),(s:Int),y[k]⟩:zN)]=some (o++[⟨(i:Int),(s:Int),y[k]⟩]):=qB (by simp; omega)
    simp only [yP hi,hc,dT,if_true,yP hk,oB,oS,hpn,happ]
    rw [wY (by omega),ih (s+1) _ (by omega) (by simp; omega),List.append_assoc]
    simp only [instR,List.range'_succ,List.map_cons,List.singleton_append]
theorem zKM (P:zF) (i:Nat) (hi:i<P.Parts.length) (y:List (List Int)) (hy:y.length<=120) (hq:∀ q∈y,q.length<=4) (hb:P.Parts[i].Body.length<=4) :
    ∀ (j k:Nat) (o:List zN),k+j=y.length->o.length+4*j<=1000000->vZ P (i:Int) y o (k:Int)=some (o++(y.drop k).flatMap fun q=>instR (i:Int) q 0 P.Parts[i].Body.length):=by
  intro j
  induction j with
  | zero =>
    intro k o hk ho
    rw [vZ]
    have:¬((k:Int)<(y.length:Int)):=by omega
    simp only [this,dF,bF,if_false]
    rw [show y.drop k=[] from dN.2 (by omega)]
    simp
  | succ j ih =>
    intro k o hk ho
    rw [vZ]
    have hlt:k<y.length:=by omega
    have hc:((k:Int)<(y.length:Int)):=by omega
    have h3:=zKL P i hi y k hlt (hq _ (gM hlt)) hb P.Parts[i].Body.length 0 o (Nat.zero_add _) (by omega)
    rw [nZ] at h3
    simp only [hc,dT,if_true,oB,oS,h3]
    rw [wY (by omega),ih (k+1) _ (by omega) (by rw [lA,zG0]; omega),gC hlt,List.flatMap_cons,List.append_assoc]
theorem zKN (P:zF) (hP:P.Parts.length<=4) (hb:∀ i,i<P.Parts.length->partB P.Arrays (gP P i)=true) :
    ∀ (j i:Nat) (o:List zN),i+j=P.Parts.length->o.length<=480*i->uA P o (i:Int)=some (o++(List.range' i j).flatMap fun (i:Nat)=>partI (i:Int) (gP P i)):=by
  intro j
  induction j with
  | zero =>
    intro i o hi ho
    rw [uA]
    have:¬((i:Int)<(P.Parts.length:Int)):=by omega
    simp [this]
  | succ j ih =>
    intro i o hi ho
    rw [uA]
    have hlt:i<P.Parts.length:=by omega
    have hc:((i:Int)<(P.Parts.length:Int)):=by omega
    have hg:gP P i=P.Parts[i]:=by simp [gP,hlt]
    have hp:=hb i hlt
    rw [hg] at hp
    obtain ⟨p1,p2,p3⟩:=zMn hp
    obtain ⟨n1,n2⟩:=zHJ p2
    have hpp:=hp
    simp only [partB,bA] at hpp
    obtain ⟨_,q2,_⟩:=zBR hpp.1.2
    have hpts:=specPts P.Parts[i].Nest P.Parts[i].Nest [] [] n2 rfl (by simp) n1 (by simp)
    rw [List.nil_append,List.take_of_length_le (by omega)] at hpts
    have h2:=zKM P i hlt (pts P.Parts[i].Nest []) p3 (fun q hq=>by have:=zJS _ _ q hq; simp at this; omega) q2 _ 0 o (Nat.zero_add _) (by omega)
    rw [nZ,List.drop_zero] at h2
    simp only [hc,dT,if_true,yP hlt,oB,oS,hpts,h2]
    have hI:((pts P.Parts[i].Nest []).flatMap fun q=>instR (i:Int) q 0 P.Parts[i].Body.length)=partI (i:Int) P.Parts[i]:=by rw [partI,p1]
    have hle:=zIB (i:Int) hp
    rw [hI,wY (by omega),ih (i+1) _ (by omega) (by rw [lA]; omega),List.range'_succ,List.flatMap_cons,hg,List.append_assoc]
theorem zAk {P:zF} (h:validP P=true):arrB P.Arrays=true/\P.Parts.length<=4/\(∀ i,i<P.Parts.length->partB P.Arrays (gP P i)=true)/\(progI P).length<=120:=by
  simp only [validP,progB,bA,decide_eq_true_eq] at h;obtain ⟨⟨⟨h1,h2⟩,h3⟩,h4⟩:=h;exact ⟨h1,h2,fun i hi=>List.all_eq_true.1 h3 i (List.mem_range'_1.2 ⟨Nat.zero_le _,by omega⟩),h4⟩
theorem specInst4 (P:zF) (hv:validP P=true):oE P=some (progI P):=by
  obtain ⟨_,v2,v3,_⟩:=zAk hv;have hl:=zKN P v2 v3 _ 0 [] (Nat.zero_add _) (by simp);rw [nZ,List.nil_append] at hl;simp only [oE,hl,oB,oS,oP,id];rfl
end Go.LN
namespace Go.LN
def DA (x:zD):Prop:=(∃ d,x.Dims=[d]/\1<=d/\d<=6)∨∃ d e,x.Dims=[d,e]/\(1<=d/\d<=6)/\1<=e/\e<=6
def GA (l:List zD):Prop:=l.length<=4/\(∀ x∈l,DA x)/\l.Pairwise fun x y=>x.Name.l ≠ y.Name.l
theorem mul36 {d e:Int} (h1:1<=d) (h2:d<=6) (h3:1<=e) (h4:e<=6):1<=d*e/\d*e<=36:=by
  have:d=1∨d=2∨d=3∨d=4∨d=5∨d=6:=by omega
  rcases this with rfl | rfl | rfl | rfl | rfl | rfl <;> omega
theorem zJT {x:zD}{d:Int} (h:x.Dims=[d]) (h1:1<=d) (h2:d<=6):sizeF x=d:=by
  unfold sizeF;rw [h,szL,szL,Int.one_mul,rF (by omega) (by omega)]
theorem zJU {x:zD}{d e:Int} (h:x.Dims=[d,e]) (h1:1<=d) (h2:d<=6) (h3:1<=e) (h4:e<=6):sizeF x=d*e:=by
  unfold sizeF;have:=mul36 h1 h2 h3 h4;rw [h,szL,szL,szL,Int.one_mul,rF (x:=d) (by omega) (by omega),rF (by omega) (by omega)]
theorem DA.size {x:zD} (h:DA x):1<=sizeF x/\sizeF x<=36:=by
  rcases h with ⟨d,h,h1,h2⟩ | ⟨d,e,h,⟨h1,h2⟩,h3,h4⟩
  · rw [zJT h h1 h2]; omega
  · rw [zJU h h1 h2 h3 h4]; exact mul36 h1 h2 h3 h4
def sumS:List zD->Int
  | []=>0
  | x::l=>sizeF x+sumS l
theorem zID:∀ {l:List zD},(∀ x∈l,DA x)->0<=sumS l/\sumS l<=36*(l.length:Int)
  | [],_=>⟨Int.le_refl _,Int.le_refl _⟩
  | x::l,h=>by
    have h1:=(h x (List.mem_cons_self ..)).size
    have h2:=zID (l:=l) fun y hy=>h y (List.mem_cons_of_mem _ hy)
    rw [sumS,List.length_cons]; omega
theorem zLX:∀ {l:List zD}{n:Int},(∀ x∈l,DA x)->0<=n->n+36*(l.length:Int)<=1000000->totL l n=n+sumS l
  | [],n,_,_,_=>by rw [totL,sumS]; omega
  | x::l,n,h,h0,h1=>by
    have hs:=(h x (List.mem_cons_self ..)).size
    rw [List.length_cons] at h1
    rw [totL,rF (by omega) (by omega),zLX (fun y hy=>h y (List.mem_cons_of_mem _ hy)) (by omega) (by omega),sumS]; omega
theorem zKO {n:Nat}{f:Nat->Nat} (h:∀ i,i+1<n->f i<f (i+1)):∀ (d i:Nat),i+d+1<n->f i<f (i+d+1)
  | 0,i,hi=>h i hi
  | d+1,i,hi=>Nat.lt_trans (zKO h d i (by omega)) (h (i+d+1) hi)
theorem zKP {l:List UInt8} (h:nameL l=true):∃ c,l=[c]:=by
  match l with
  | []=>cases h
  | [c]=>exact ⟨c,rfl⟩
  | c::d::r=>cases h
def nm (l:List zD) (i:Nat):Nat:=match (l.getD i ⟨⟨[]⟩,[]⟩).Name.l with | c::_=>c.toNat | []=>0
theorem zMo {l:List zD} (h:arrB l=true):GA l:=by
  simp only [arrB,bA,decide_eq_true_eq] at h;obtain ⟨h4,hall⟩:=h;have hi:∀ i,i<l.length->arrI l i=true:=fun i hi=>List.all_eq_true.1 hall i (List.mem_range.2 hi);refine ⟨h4,fun x hx=>?_,?_⟩
  · obtain ⟨i,hi',rfl⟩:=List.mem_iff_getElem.1 hx;have:=hi i hi';have hg:l.getD i ⟨⟨[]⟩,[]⟩=l[i]:=by simp [hi']
    simp only [arrI,hg,bA,decide_eq_true_eq] at this;obtain ⟨⟨_,h1,h2⟩,h3⟩:=this;have h3:=List.all_eq_true.1 h3
    match hd:l[i].Dims with
    | []=>rw [hd] at h1; simp at h1
    | [d] =>
      have:=h3 d (by rw [hd]; simp);simp only [dimB,bA,decide_eq_true_eq] at this;exact .inl ⟨d,hd,this⟩
    | [d,e] =>
      have k1:=h3 d (by rw [hd]; simp);have k2:=h3 e (by rw [hd]; simp);simp only [dimB,bA,decide_eq_true_eq] at k1 k2;exact .inr ⟨d,e,hd,k1,k2⟩
    | d::e::f::r=>rw [hd] at h2; simp at h2
  · have hlt:∀ i,i+1<l.length->nm l i<nm l (i+1):=by
      intro i hi1;have a1:=hi i (by omega);have a2:=hi (i+1) hi1;simp only [arrI,bA,Bool.or_eq_true,decide_eq_true_eq] at a1 a2;obtain ⟨c,hc⟩:=zKP a1.1.1.1;obtain ⟨d,hd⟩:=zKP a2.1.1.1;have hb:=a2.1.1.2;rw [show i+1 - 1=i by omega] at hb;unfold nm;rw [hc,hd] at hb;rw [hc,hd];rcases hb with hb | hb
      · omega
      · simp only [Op.bytesLess,Bool.and_false,Bool.or_false,decide_eq_true_eq] at hb;exact hb
    refine List.pairwise_iff_getElem.2 fun i j hi1 hj1 hij e=>?_;have hk:=zKO (n:=l.length) (f:=nm l) hlt (j - i - 1) i (by omega);rw [show i+(j - i - 1)+1=j by omega] at hk;have g1:l.getD i ⟨⟨[]⟩,[]⟩=l[i]:=by simp [hi1]
    have g2:l.getD j ⟨⟨[]⟩,[]⟩=l[j]:=by simp [hj1]
    unfold nm at hk;rw [g1,g2,e] at hk;exact Nat.lt_irrefl _ hk
theorem zAN {P:zF} (h:validP P=true):GA P.Arrays:=by
  simp only [validP,progB,bA] at h;exact zMo h.1.1.1
theorem zIu {P:zF} (h:validP P=true):totL P.Arrays 0=sumS P.Arrays/\0<=sumS P.Arrays/\sumS P.Arrays<=144:=by
  obtain ⟨h1,h2,_⟩:=zAN h;have:=zID h2;rw [zLX h2 (Int.le_refl _) (by omega)];omega
theorem cellS1 {p:List Int}{d:Int}{s:zA} (h1:1<=d) (h2:d<=6):cellS p [d] [s] 0=if 0<=evA s p/\evA s p<d then some (evA s p) else none:=by
  rw [cellS];by_cases h:0<=evA s p/\evA s p<d
  · rw [if_pos h,if_pos h,cellS,Int.zero_mul,rF (x:=0) (by omega) (by omega),rF (by omega) (by omega),Int.zero_add]
  · rw [if_neg h,if_neg h]
theorem cellS2 {p:List Int}{d e:Int}{s t:zA} (h1:1<=d) (h2:d<=6) (h3:1<=e) (h4:e<=6):cellS p [d,e] [s,t] 0=if 0<=evA s p/\evA s p<d then (if 0<=evA t p/\evA t p<e then some (evA s p*e+evA t p) else none) else none:=by
  rw [cellS];by_cases h:0<=evA s p/\evA s p<d
  · rw [if_pos h,if_pos h,cellS,Int.zero_mul,rF (x:=0) (by omega) (by omega),rF (x:=0+evA s p) (by omega) (by omega),Int.zero_add];by_cases hk:0<=evA t p/\evA t p<e
    · have hm:0<=evA s p*e/\evA s p*e<=36:=by
        have:evA s p=0∨evA s p=1∨evA s p=2∨evA s p=3∨evA s p=4∨evA s p=5:=by omega
        rcases this with e | e | e | e | e | e <;> rw [e] <;> omega
      rw [if_pos hk,if_pos hk,cellS,rF (x:=evA s p*e) (by omega) (by omega),rF (by omega) (by omega)]
    · rw [if_neg hk,if_neg hk]
  · rw [if_neg h,if_neg h]
theorem zNh {d e i j:Int} (hi:0<=i/\i<d) (hd:d<=6) (hj:0<=j/\j<e) (he:e<=6):0<=i*e+j/\i*e+j<d*e:=by
  have h1:i=0∨i=1∨i=2∨i=3∨i=4∨i=5:=by omega
  have h2:d=1∨d=2∨d=3∨d=4∨d=5∨d=6:=by omega
  rcases h1 with rfl | rfl | rfl | rfl | rfl | rfl <;> rcases h2 with rfl | rfl | rfl | rfl | rfl | rfl <;> omega
theorem zNi {l:List zA}{d:Int} (h:l.length=[d].length):∃ s,l=[s]:=by
  match l with
  | []=>cases h
  | [s]=>exact ⟨s,rfl⟩
  | a::b::r=>simp at h
theorem zNj {l:List zA}{d e:Int} (h:l.length=[d,e].length):∃ s t,l=[s,t]:=by
  match l with
  | []=>cases h
  | [s]=>cases h
  | [s,t]=>exact ⟨s,t,rfl⟩
  | a::b::c::r=>simp at h
theorem zLu {x:zD}{subs:List zA}{p:List Int}{n:Int} (h:DA x) (hl:subs.length=x.Dims.length) (hc:cellS p x.Dims subs 0=some n):0<=n/\n<sizeF x:=by
  rcases h with ⟨d,h,h1,h2⟩ | ⟨d,e,h,⟨h1,h2⟩,h3,h4⟩
  · rw [h] at hl hc;obtain ⟨s,rfl⟩:=zNi hl;rw [zJT h h1 h2];rw [cellS1 h1 h2] at hc;split at hc
    · cases hc; assumption
    · cases hc
  · rw [h] at hl hc;obtain ⟨s,t,rfl⟩:=zNj hl;rw [zJU h h1 h2 h3 h4];rw [cellS2 h1 h2 h3 h4] at hc;split at hc
    · split at hc
      · cases hc
        exact zNh ‹_› h2 ‹_› h4
      · cases hc
    · cases hc
theorem zLY (a:zG) (p:List Int) (x:zD) (post:List zD):∀ (pre:List zD) (first:Int),(∀ y∈pre,DA y)->(∀ y∈pre,y.Name.l ≠ x.Name.l)->0<=first->first+36*(pre.length:Int)<=1000000->a.Array.l=x.Name.l->a.Subs.length=x.Dims.length->cellF a p (pre++x::post) first=(match cellS p x.Dims a.Subs 0 with | none=>-1 | some n=>W (first+sumS pre+n))
  | [],first,_,_,h0,h1,ha,hd=>by
    rw [List.nil_append,cellF,if_pos ha.symm,if_pos hd,sumS,Int.add_zero]
    cases cellS p x.Dims a.Subs 0 <;> rfl
  | y::pre,first,h,hn,h0,h1,ha,hd=>by
    have hs:=(h y (List.mem_cons_self ..)).size
    rw [List.length_cons] at h1
    rw [List.cons_append,cellF,if_neg (by rw [ha]; exact hn y (List.mem_cons_self ..)),rF (by omega) (by omega),zLY a p x post pre (first+sizeF y) (fun z hz=>h z (List.mem_cons_of_mem _ hz)) (fun z hz=>hn z (List.mem_cons_of_mem _ hz)) (by omega) (by omega) ha hd,sumS,Int.add_assoc first]
end Go.LN
namespace Go.LN
end Go.LN
namespace Go.LN
end Go.LN
namespace Go.LN
def c0 (n:Int):zA:=⟨[0,0,0,0],n⟩
theorem zIE:∀ (l m:List zD),sumS (l++m)=sumS l+sumS m
  | [],m=>by rw [List.nil_append,sumS,Int.zero_add]
  | x::l,m=>by rw [List.cons_append,sumS,sumS,zIE l m,Int.add_assoc]
end Go.LN
namespace Go.LN
theorem zOZ {p:List Int} (h:ptB p=true):p.length<=4:=by
  simp only [ptB,bA,decide_eq_true_eq] at h;exact h.1
end Go.LN
namespace Go.LN
end Go.LN
namespace Go.LN
theorem zKQ:∀ {k:Nat}{a v:Int},v∈rngK k a↔a<=v/\v<a+(k:Int)
  | 0,a,v=>by simp [rngK]
  | k+1,a,v=>by rw [rngK,List.mem_cons,zKQ]; omega
theorem zNk {a b v:Int}:v∈rng a b↔a<=v/\v<b:=by
  unfold rng;rw [zKQ]; omega
def inP:List zE->List Int->List Int->Prop
  | [],_,[]=>True
  | l::ls,p,v::r=>(loF l p<=v/\v<hiF l p)/\inP ls (p++[v]) r
  | _,_,_=>False
theorem zLZ:∀ {ls:List zE}{p q:List Int},q∈pts ls p->∃ r,q=p++r/\inP ls p r
  | [],p,q,h=>by
    rw [pts,List.mem_singleton] at h
    exact ⟨[],by rw [h,List.append_nil],trivial⟩
  | l::ls,p,q,h=>by
    rw [pts,List.mem_flatMap] at h
    obtain ⟨v,hv,hq⟩:=h
    obtain ⟨r,e,hr⟩:=zLZ hq
    exact ⟨v::r,by rw [e,List.append_assoc]; rfl,zNk.1 hv,hr⟩
def Ch {α:Type} (R:α->α->Prop):List α->Prop
  | a::b::l=>R a b/\Ch R (b::l)
  | _=>True
theorem Ch.append {α:Type}{R:α->α->Prop}:∀ {l m:List α},Ch R l->Ch R m->(∀ a∈l,∀ b∈m,R a b)->Ch R (l++m)
  | [],m,_,h2,_=>h2
  | [a],[],_,_,_=>trivial
  | [a],b::m,_,h2,h=>⟨h a (List.mem_cons_self ..) b (List.mem_cons_self ..),h2⟩
  | a::b::l,m,h1,h2,h=>⟨h1.1,Ch.append (l:=b::l) h1.2 h2 fun x hx=>h x (List.mem_cons_of_mem _ hx)⟩
theorem Ch.flat {α β:Type}{R:β->β->Prop}{f:α->List β}:∀ {l:List α},(∀ x∈l,Ch R (f x))->(l.Pairwise fun x y=>∀ a∈f x,∀ b∈f y,R a b)->Ch R (l.flatMap f)
  | [],_,_=>trivial
  | x::l,h1,h2=>by
    rw [List.flatMap_cons]
    have h2':=List.pairwise_cons.1 h2
    refine Ch.append (h1 x (List.mem_cons_self ..)) (Ch.flat (fun y hy=>h1 y (List.mem_cons_of_mem _ hy)) h2'.2) fun a ha b hb=>?_
    obtain ⟨y,hy,hb⟩:=List.mem_flatMap.1 hb
    exact h2'.1 y hy a ha b hb
theorem Ch.get {α:Type}{R:α->α->Prop}:∀ {l:List α} (i:Nat) (h:i+1<l.length),Ch R l->R l[i] l[i+1]
  | a::b::l,0,_,hc=>hc.1
  | a::b::l,i+1,h,hc=>Ch.get (l:=b::l) i (by simpa using h) hc.2
  | [a],i,h,_=>by simp at h
  | [],i,h,_=>by simp at h
theorem zLv {k:Int}{q:List Int}{i j:Nat}{z:zN} (h:z∈instR k q i j):z.Part=k/\z.Point=q/\∃ s:Nat,z.Stmt=(s:Int)/\s<i+j:=by
  unfold instR at h;obtain ⟨s,hs,rfl⟩:=List.mem_map.1 h;exact ⟨rfl,rfl,s,rfl,(List.mem_range'_1.1 hs).2⟩
end Go.LN
namespace Go.LN
theorem zKy {P:zF} (h:validP P=true) {i:Nat} (hi:i<P.Parts.length):partB P.Arrays P.Parts[i]=true:=by
  simp only [validP,progB,bA,decide_eq_true_eq] at h;have:=List.all_eq_true.1 h.1.2 i (List.mem_range'_1.2 ⟨Nat.zero_le _,by omega⟩);have hg:gP P i=P.Parts[i]:=by simp [gP,hi]
  rwa [hg] at this
theorem zNl {nest:List zE}{q:List Int} (h:q∈(nestPts nest).1):nestB nest=true/\inP nest [] q:=by
  unfold nestPts at h;split at h
  · rename_i hc;obtain ⟨r,e,hr⟩:=zLZ h;rw [List.nil_append] at e;exact ⟨hc.1,e ▸ hr⟩
  · cases h
theorem zLw {P:zF} (h:validP P=true) {z:zN} (hz:z∈progI P):∃ (i s:Nat) (hi:i<P.Parts.length) (hs:s<P.Parts[i].Body.length),z.Part=(i:Int)/\z.Stmt=(s:Int)/\nestB P.Parts[i].Nest=true/\inP P.Parts[i].Nest [] z.Point/\ptB z.Point=true/\stOk P.Arrays P.Parts[i].Body[s] z.Point=true/\stmtB P.Parts[i].Body[s] (P.Parts[i].Nest.length:Int)=true:=by
  unfold progI at hz;obtain ⟨i,hi,hz⟩:=List.mem_flatMap.1 hz;have hi:i<P.Parts.length:=by have:=(List.mem_range'_1.1 hi).2; omega
  have hg:gP P i=P.Parts[i]:=by simp [gP,hi]
  rw [hg] at hz;have hp:=zKy h hi;unfold partI at hz;obtain ⟨q,hq,hz⟩:=List.mem_flatMap.1 hz;obtain ⟨z1,z2,s,z3,hs⟩:=zLv hz;have hs:s<P.Parts[i].Body.length:=by omega
  obtain ⟨n1,n2⟩:=zNl hq;simp only [partB,bA] at hp;have hq2:=List.all_eq_true.1 hp.2 q hq;rw [bA] at hq2;refine ⟨i,s,hi,hs,z1,z3,n1,?_,?_,?_,?_⟩
  · rw [z2]; exact n2
  · rw [z2]; exact hq2.1
  · rw [z2]; exact List.all_eq_true.1 hq2.2 _ (gM hs)
  · exact (zBR hp.1.2).2.2 _ (gM hs)
end Go.LN
namespace Go.LN
end Go.LN
namespace Go.LN
end Go.LN
namespace Go.LN
def STz:zJ:=zJ.mk (zG.mk ⟨[]⟩ []) EXz
def stI (P:zF) (z:zN):zJ:=(gP P z.Part.toNat).Body.getD z.Stmt.toNat STz
structure InP (P:zF) (z:zN):Prop where
  idxP:idx P.Parts z.Part=some (gP P z.Part.toNat)
  idxS:idx (gP P z.Part.toNat).Body z.Stmt=some (stI P z)
  part:0<=z.Part/\z.Part<(P.Parts.length:Int)
  stmt:0<=z.Stmt/\z.Stmt<((gP P z.Part.toNat).Body.length:Int)
  pin:BN (gP P z.Part.toNat).Nest/\nestB (gP P z.Part.toNat).Nest=true/\ptB z.Point=true/\inP (gP P z.Part.toNat).Nest [] z.Point
  pt:z.Point.length<=4
  bs:BS (stI P z)
  st:∃ d,stmtB (stI P z) d=true
  ok:stOk P.Arrays (stI P z) z.Point=true
theorem zKz {P:zF} (hb:BG P) (h:validP P=true) {z:zN} (hz:z∈progI P):InP P z:=by
  obtain ⟨i,s,hi,hs,z1,z2,hn,hin,hpt,hst,hsb⟩:=zLw h hz;have hbp:=hb.2.2 _ (gM hi);have hg:gP P z.Part.toNat=P.Parts[i]:=by rw [z1,iN]; simp [gP,hi]
  have hS:stI P z=P.Parts[i].Body[s]:=by unfold stI; rw [hg,z2,iN]; simp [hs]
  refine ⟨?_,?_,by rw [z1]; omega,by rw [hg,z2]; omega,?_,zOZ hpt,?_,?_,?_⟩
  · rw [hg,z1,yP hi]
  · rw [hS,hg,z2,yP hs]
  · rw [hg]; exact ⟨hbp.1,hn,hpt,hin⟩
  · rw [hS]; exact hbp.2.2 _ (gM hs)
  · rw [hS]; exact ⟨_,hsb⟩
  · rw [hS]; exact hst
end Go.LN
namespace Go.LN
end Go.LN
namespace Go.LN
end Go.LN
namespace Go.LN
end Go.LN
namespace Go.LN
end Go.LN
namespace Go.LN
end Go.LN
namespace Go.LN
end Go.LN
namespace Go.LN
end Go.LN
namespace Go.LN
theorem zLA {d:Int}{n:Nat}{e:zH} (h:shapeB d (n+1) e=true):(e.Kind=1∨e.Kind=2∨e.Kind=3)∨((e.Kind=4∨e.Kind=5∨e.Kind=6)/\∃ a b,e.Kids=[a,b]):=by
  simp only [shapeB,bA] at h;have hk:=eq_of_beq h.1.1;unfold kidsN at hk;by_cases h1:e.Kind=1∨e.Kind=2∨e.Kind=3
  · exact .inl h1
  · rw [if_neg h1] at hk;by_cases h2:e.Kind=4∨e.Kind=5∨e.Kind=6
    · rw [if_pos h2] at hk;refine .inr ⟨h2,?_⟩;have hl:e.Kids.length=2:=by omega
      match e.Kids,hl with
      | [a,b],_=>exact ⟨a,b,rfl⟩
    · rw [if_neg h2] at hk; omega
theorem zKR {d:Int}{n:Nat}{e:zH} (h:shapeB d (n+1) e=true) (h2:e.Kind=2):okA d e.Index=true:=by
  simp only [shapeB,bA] at h;have ho:=h.1.2;simp only [ownB,h2,if_true,bA] at ho;exact ho.2
end Go.LN
namespace Go.LN
end Go.LN
namespace Go.LN
end Go.LN
namespace Go.LN
end Go.LN
namespace Go.LN
theorem AV.bl {a:zG} (h:AV a):BL a.Subs:=⟨by have:=h.2.1; omega,fun s hs=>by have:=h.2.2 s hs; unfold BA; omega⟩
end Go.LN
namespace Go.LN
instance zKS (r:zP):Tot (dD r) (0<=r.p/\r.p<=30000000) (fun φ=>∀ a s,SG 1000 a->r.p<=s.p->s.p<=r.p+4000000->φ (a,s)):=⟨by
  rintro ⟨h0,h1⟩ φ hk
  unfold dD
  refine Ok.call (dV r _) ⟨by decide,h0,by omega⟩ fun y s g1 g2=>?_
  have hy:y.l.length<=1000:=by
    revert g1 y
    decide
  refine Ok.cat (by simp; omega) fun t _ ht=>?_
  simp only [List.length_cons,List.length_nil] at ht
  refine Ok.call (zCW t) (by omega) fun p b hp=>?_
  refine Ok.bind (φ:=fun o=>r.p<=o.2.p/\o.2.p<=r.p+2) ?_ ?_
  · exact Ok.ite (fun _=>Ok.call (dO s 2) ⟨by omega,by omega⟩ fun y u k1 k2 k3=>Ok.pure ⟨by dsimp only; omega,by dsimp only; omega⟩) fun _=>Ok.pure ⟨by dsimp only; omega,by dsimp only; omega⟩
  rintro ⟨z,u⟩ ⟨g3,g4⟩
  dsimp only at g3 g4 ⊢
  refine Ok.ite (fun _=>Ok.pure (hk _ _ hp g3 (by omega))) fun _=>Ok.call (zKw u) ⟨by omega,by omega⟩ fun a v g5 g6 g7=>Ok.pure (hk _ v g5 (by omega) (by omega))⟩
theorem args11 (r:zP) (h0:r.p=0):Ok (dE r) (fun y=>BG y.1/\0<=y.2.2.p/\y.2.2.p<=800000000):=by
  unfold dE;refine Ok.call (zKS r) ⟨by omega,by omega⟩ fun a s g1 g2 g3=>?_;refine Ok.bind (mut4 s a g1.dp (by omega) (by omega)) fun p hp=>?_;obtain ⟨P,t⟩:=p;have k0:0<=t.p:=hp.2.1;have k1:t.p<=700001000:=hp.2.2;exact Ok.call (tT t _) ⟨by decide,k0,by omega,by decide⟩ fun y s2 _ _ k5=>Ok.pure ⟨hp.1.1,by dsimp only; omega,by dsimp only; omega⟩
end Go.LN
namespace Go.LN
def eqL {α:Type} (q:α->α->Bool):List α->List α->Bool
  | [],[]=>true
  | x::a,y::b=>q x y&&eqL q a b
  | _,_=>false
theorem zNm {α:Type}{a b:List α} (hl:a.length=b.length) {q:α->α->Bool}{f:Int->Option (Out Unit Bool)} (step:∀ (i:Nat) (h1:i<a.length) (h2:i<b.length),f (i:Int)=if q a[i] b[i] then f ((i+1:Nat):Int) else some (.ret false)) (fin:f (a.length:Int)=some (.done ())):f 0=some (if eqL q a b then .done () else .ret false):=by
  have key:∀ (j i:Nat),i+j=a.length->f (i:Int)=some (if eqL q (a.drop i) (b.drop i) then .done () else .ret false):=by
    intro j
    induction j with
    | zero =>
      intro i hi;rw [show i=a.length by omega,fin,dN.2 (Nat.le_refl a.length),dN.2 (show b.length<=a.length by omega)]; rfl
    | succ j ih =>
      intro i hi;have h1:i<a.length:=by omega
      have h2:i<b.length:=by omega
      rw [step i h1 h2,ih (i+1) (by omega),gC h1,gC h2,eqL];cases q a[i] b[i] <;> rfl
  have:=key a.length 0 (Nat.zero_add _);rwa [nZ,List.drop_zero,List.drop_zero] at this
theorem zL0 {α:Type}{q:α->α->Bool}:∀ {a b:List α},a.length ≠ b.length->eqL q a b=false
  | [],[],h=>absurd rfl h
  | [],_::_,_=>rfl
  | _::_,[],_=>rfl
  | x::a,y::b,h=>by rw [eqL,zL0 (by simpa using h),Bool.and_false]
def eqI (a b:List Int):Bool:=eqL (fun x y=>x==y) a b
theorem implEqI (a b:List Int) (h:a.length<=1048576):qW a b=some (eqI a b):=by
  unfold qW eqI;by_cases hl:a.length=b.length
  · have hf:=zNm (q:=fun x y=>x==y) hl (f:=uY a b) (fun i h1 h2=>by
      rw [uY];have c:((i:Int)<(a.length:Int)):=by omega
      simp only [c,dT,if_true,yP h1,yP h2,oB,oS,oP];rw [wY (by omega)];by_cases e:a[i]=b[i]
      · simp [e]
      · simp [e]) (by rw [uY]; simp)
    have e:((a.length:Int) != (b.length:Int))=false:=by simp [hl]
    rw [hf,e];cases eqL (fun x y=>x==y) a b <;> rfl
  · have e:((a.length:Int) != (b.length:Int))=true:=by simp; omega
    rw [e,zL0 hl]; rfl
def afB (x y:zA):Bool:=eqI x.Coefs y.Coefs&&x.Const==y.Const
theorem implAff (x y:zA) (h:x.Coefs.length<=1048576):wI x y=some (afB x y):=by
  unfold wI afB;rw [implEqI _ _ h];cases eqI x.Coefs y.Coefs <;> rfl
end Go.LN
namespace Go.LN
def mpA (f:zA->zA) (a:zG):zG:=⟨a.Array,a.Subs.map f⟩
theorem zO0 {ch:zA->Option zA}{f:zA->zA} (a:zG) (hs:a.Subs.length<=1000) (ha:∀ s∈a.Subs,ch s=some (f s)):∀ (j i:Nat) (o:List zA),i+j=a.Subs.length->o.length=i->pF a ch (i:Int) o=some (o++(a.Subs.drop i).map f):=by
  intro j
  induction j with
  | zero =>
    intro i o hi ho;rw [pF];have:¬((i:Int)<(a.Subs.length:Int)):=by omega
    simp only [this,dF,bF,if_false,oP,id];rw [dN.2 (by omega),List.map_nil,List.append_nil]
  | succ j ih =>
    intro i o hi ho;rw [pF];have hlt:i<a.Subs.length:=by omega
    have hc:((i:Int)<(a.Subs.length:Int)):=by omega
    rw [gC hlt,List.map_cons];simp only [hc,dT,if_true,yP hlt,ha _ (gM hlt),qB (show (o.length+[f a.Subs[i]].length)*32<=140737488355328 by simp; omega),oB,oS];rw [wY (by omega),ih (i+1) _ (by omega) (by rw [lA]; simp; omega),List.append_assoc]; rfl
theorem mpAV {d:Int}{ch:zA->Option zA}{f:zA->zA} (hch:∀ a,okA d a=true->ch a=some (f a)) {a:zG} (h:accB a d=true):jE a ch=some (mpA f a):=by
  have hv:=AV.of h;have hs:∀ s∈a.Subs,ch s=some (f s):=fun s hs=>by
    simp only [accB,bA,List.all_eq_true] at h;exact hch s (h.2 s hs)
  have h2:=hv.2.1;have hl:=zO0 a (by omega) hs _ 0 [] (Nat.zero_add _) rfl;rw [nZ,List.drop_zero,List.nil_append] at hl;unfold jE;simp only [hl,oB,oS,oP];rfl
def mpE (f:zA->zA):Nat->zH->zH
  | 0,e=>e
  | n+1,e=>.mk e.Kind e.Num (if e.Kind=2 then f e.Index else ⟨[],0⟩) (if e.Kind=3 then mpA f e.Read else ⟨⟨[]⟩,[]⟩) (e.Kids.map (mpE f n))
theorem mpEV {d:Int}{ch:zA->Option zA}{f:zA->zA} (hch:∀ a,okA d a=true->ch a=some (f a)):∀ (n:Nat) (e:zH),shapeB d n e=true->jH e ch=some (mpE f n e)
  | 0,e,h=>by cases h
  | n+1,e,h=>by
    rw [jH,mpE]
    obtain ⟨h1,h2⟩:=dP h
    have hkl:pJ e ch 0 []=some (e.Kids.map (mpE f n)):=by
      rcases h1 with hk | ⟨a,b,hk⟩
      · rw [pJ]
        simp [hk]
      · have ra:=mpEV hch n a (h2 a (by rw [hk]; simp))
        have rb:=mpEV hch n b (h2 b (by rw [hk]; simp))
        have l0:((0:Int)<(e.Kids.length:Int)):=by rw [hk]; simp
        have l1:((1:Int)<(e.Kids.length:Int)):=by rw [hk]; simp
        have l2:¬((2:Int)<(e.Kids.length:Int)):=by rw [hk]; simp
        have i0:idx e.Kids 0=some a:=by rw [hk]; rfl
        have i1:idx e.Kids 1=some b:=by rw [hk]; rfl
        have w0:W ((0:Int)+1)=1:=by rw [rF (by omega) (by omega)]; rfl
        have w1:W ((1:Int)+1)=2:=by rw [rF (by omega) (by omega)]; rfl
        have p0:app 112 ([]:List zH) [mpE f n a]=some [mpE f n a]:=by rw [qB (by simp)]; rfl
        have p1:app 112 [mpE f n a] [mpE f n b]=some [mpE f n a,mpE f n b]:=by rw [qB (by simp)]; rfl
        rw [pJ]
        simp only [l0,dT,if_true,oB,oS,i0,same,ra,p0,w0]
        rw [pJ]
        simp only [l1,dT,if_true,oB,oS,i1,same,rb,p1,w1]
        rw [pJ]
        simp only [l2,dF,bF,if_false,oP,id]
        rw [hk]; rfl
    rcases zLA h with hk | ⟨hk,_⟩
    · rcases hk with k | k | k
      · have e2:(e.Kind==2)=false:=by simp; omega
        have e3:(e.Kind==3)=false:=by simp; omega
        rw [if_neg (show ¬e.Kind=2 by omega),if_neg (show ¬e.Kind=3 by omega)]
        simp [e2,e3,same,hkl]
      · have e2:(e.Kind==2)=true:=by simpa using k
        rw [if_pos k,if_neg (show ¬e.Kind=3 by omega)]
        simp [e2,same,hkl,hch _ (zKR h k)]
      · have e2:(e.Kind==2)=false:=by simp; omega
        have e3:(e.Kind==3)=true:=by simpa using k
        rw [if_neg (show ¬e.Kind=2 by omega),if_pos k]
        simp [e2,e3,same,hkl,mpAV hch (zEw h k).2]
    · have e2:(e.Kind==2)=false:=by simp; omega
      have e3:(e.Kind==3)=false:=by simp; omega
      rw [if_neg (show ¬e.Kind=2 by omega),if_neg (show ¬e.Kind=3 by omega)]
      simp [e2,e3,same,hkl]
def mpS (f:zA->zA) (s:zJ):zJ:=⟨mpA f s.Write,mpE f 5 s.Value⟩
theorem mpSV {d:Int}{ch:zA->Option zA}{f:zA->zA} (hch:∀ a,okA d a=true->ch a=some (f a)) {s:zJ} (h:stmtB s d=true):dI s ch=some (mpS f s):=by
  have hw:accB s.Write d=true:=by simp only [stmtB,bA] at h; exact h.1.2
  unfold dI;simp only [mpAV hch hw,mpEV hch 5 _ (dQ h).2.1,oB,oS,oP];rfl
theorem zKT {α:Type}{q:α->α->Bool} (hq:∀ x,q x x=true):∀ a:List α,eqL q a a=true
  | []=>rfl
  | x::a=>by rw [eqL,hq,zKT hq a]; rfl
theorem zKU (a:List Int):eqI a a=true:=zKT (fun x=>by simp) a
theorem zMp (x:zA):afB x x=true:=by unfold afB; rw [zKU,bQ]; rfl
end Go.LN
namespace Go.LN
def fitA (p:List Int):List Int->List zA->Prop
  | [],[]=>True
  | d::ds,s::ss=>(0<=evA s p/\evA s p<d)/\fitA p ds ss
  | [],_::_=>False
  | _::_,[]=>False
theorem zJV {p:List Int}:∀ {ds:List Int}{ss:List zA},fitA p ds ss->ss.length=ds.length
  | [],[],_=>rfl
  | d::ds,s::ss,h=>by rw [List.length_cons,List.length_cons,zJV h.2]
theorem zKV {p:List Int}:∀ {ds:List Int}{ss:List zA} (n:Int),fitA p ds ss->∃ m,cellS p ds ss n=some m
  | [],[],n,_=>⟨n,by rw [cellS]⟩
  | d::ds,s::ss,n,h=>by
    obtain ⟨m,hm⟩:=zKV (W (W (n*d)+evA s p)) h.2
    exact ⟨m,by rw [cellS,if_pos h.1,hm]⟩
theorem zKW {p:List Int}:∀ {ds:List Int}{ss:List zA}{n m:Int},ss.length=ds.length->cellS p ds ss n=some m->fitA p ds ss
  | [],[],n,m,_,_=>trivial
  | d::ds,s::ss,n,m,hl,h=>by
    rw [cellS] at h
    split at h
    · rename_i hv
      exact ⟨hv,zKW (by simpa using hl) h⟩
    · cases h
theorem zG1 (a:zG) (p:List Int):∀ (l:List zD) (first:Int),cellF a p l first ≠ -1->∃ i,∃ hi:i<l.length,a.Array.l=l[i].Name.l/\fitA p l[i].Dims a.Subs
  | [],first,h=>absurd rfl h
  | x::l,first,h=>by
    rw [cellF] at h
    by_cases hn:x.Name.l=a.Array.l
    · rw [if_pos hn] at h
      by_cases hd:a.Subs.length=x.Dims.length
      · rw [if_pos hd] at h
        cases hc:cellS p x.Dims a.Subs 0 with
        | none=>rw [hc] at h; exact absurd rfl h
        | some n=>exact ⟨0,Nat.succ_pos _,hn.symm,zKW hd hc⟩
      · rw [if_neg hd] at h; exact absurd rfl h
    · rw [if_neg hn] at h
      obtain ⟨i,hi,h1,h2⟩:=zG1 a p l _ h
      exact ⟨i+1,Nat.succ_lt_succ hi,h1,h2⟩
theorem zIF {α:Type}{l:List α}{i:Nat} (hi:i<l.length):l=l.take i++l[i]::l.drop (i+1):=by
  rw [<- gC hi,List.take_append_drop]
theorem GA.ne {l:List zD} (hg:GA l) {i j:Nat} (hi:i<l.length) (hj:j<l.length) (h:i ≠ j):l[i].Name.l ≠ l[j].Name.l:=by
  have hp:=List.pairwise_iff_getElem.1 hg.2.2;rcases Nat.lt_or_gt_of_ne h with k | k
  · exact hp i j hi hj k
  · exact (hp j i hj hi k).symm
theorem zLx {l:List zD} (hg:GA l) {a:zG}{p:List Int}{i:Nat} (hi:i<l.length) (hn:a.Array.l=l[i].Name.l) (hf:fitA p l[i].Dims a.Subs) :
    ∃ n,cellS p l[i].Dims a.Subs 0=some n/\0<=n/\n<sizeF l[i]/\cellF a p l 0=sumS (l.take i)+n/\0<=sumS (l.take i):=by
  obtain ⟨n,hc⟩:=zKV 0 hf
  have hl:=zJV hf
  have hD:=hg.2.1 _ (gM hi)
  have hr:=zLu hD hl hc
  have hs:=hD.size
  have htk:∀ y∈l.take i,DA y:=fun y hy=>hg.2.1 y (List.mem_of_mem_take hy)
  have hsum:=zID htk
  have htl:(l.take i).length<=4:=by rw [List.length_take]; have:=hg.1; omega
  have hat:=zLY a p l[i] (l.drop (i+1)) (l.take i) 0 htk (fun y hy=>by
    obtain ⟨j,hj,rfl⟩:=List.mem_iff_getElem.1 hy
    rw [List.length_take] at hj
    rw [List.getElem_take]
    exact hg.ne (by omega) hi (by omega)) (Int.le_refl _) (by omega) hn hl
  rw [<- zIF hi,hc] at hat
  dsimp only at hat
  rw [Int.zero_add,rF (by omega) (by omega)] at hat
  exact ⟨n,hc,hr.1,hr.2,hat,hsum.1⟩
theorem GA.set {l:List zD} (hg:GA l) {k:Nat} (hk:k<l.length) {y:zD} (hn:y.Name.l=l[k].Name.l) (hy:DA y):GA (l.set k y):=by
  refine ⟨by rw [List.length_set]; exact hg.1,zCn hg.2.1 hy k,List.pairwise_iff_getElem.2 fun i j hi hj hij=>?_⟩;rw [List.length_set] at hi hj;rw [List.getElem_set,List.getElem_set];by_cases h1:k=i
  · rw [if_pos h1,if_neg (by omega),hn]; exact hg.ne hk hj (by omega)
  · rw [if_neg h1];by_cases h2:k=j
    · rw [if_pos h2,hn]; exact hg.ne hi hk (by omega)
    · rw [if_neg h2]; exact hg.ne hi hj (by omega)
theorem zMq {l:List zD} (hg:GA l) {k:Nat} (hk:k<l.length) {y:zD} (hn:y.Name.l=l[k].Name.l) (hy:DA y) {a:zG}{p:List Int} (ha:0<=cellF a p l 0) (hf:a.Array.l=l[k].Name.l->fitA p y.Dims a.Subs):0<=cellF a p (l.set k y) 0:=by
  obtain ⟨i,hi,a1,a2⟩:=zG1 a p l 0 (by omega);have hg':=hg.set hk hn hy;have hi':i<(l.set k y).length:=by rw [List.length_set]; exact hi
  have key:a.Array.l=(l.set k y)[i].Name.l/\fitA p (l.set k y)[i].Dims a.Subs:=by
    rw [List.getElem_set];by_cases h:k=i
    · subst h;rw [if_pos rfl];exact ⟨a1.trans hn.symm,hf a1⟩
    · rw [if_neg h]; exact ⟨a1,a2⟩
  obtain ⟨n,n1,n2,n3,n4,n5⟩:=zLx hg' hi' key.1 key.2;omega
theorem zIv {l:List zD} (hg:GA l) {k:Nat} (hk:k<l.length) {a:zG}{p:List Int} (ha:0<=cellF a p l 0) (h:a.Array.l=l[k].Name.l):fitA p l[k].Dims a.Subs:=by
  obtain ⟨i,hi,a1,a2⟩:=zG1 a p l 0 (by omega);by_cases hik:i=k
  · subst hik; exact a2
  · exact absurd (a1.symm.trans h) (hg.ne hi hk hik)
theorem DA.arr {x:zD} (h:DA x):(1<=x.Dims.length/\x.Dims.length<=2)/\x.Dims.all dimB=true:=by
  rcases h with ⟨d,h,k1,k2⟩ | ⟨d,e,h,⟨k1,k2⟩,k3,k4⟩
  · rw [h]; simp [dimB,k1,k2]
  · rw [h]; simp [dimB,k1,k2,k3,k4]
theorem zNn {l:List zD} (h:arrB l=true) {k:Nat} (hk:k<l.length) {y:zD} (hn:y.Name=l[k].Name) (hy:DA y):arrB (l.set k y)=true:=by
  simp only [arrB,bA,decide_eq_true_eq,List.length_set] at h ⊢;refine ⟨h.1,List.all_eq_true.2 fun i hi=>?_⟩;have hi':=List.mem_range.1 hi;have h1:=List.all_eq_true.1 h.2 i hi;have hname:∀ j,j<l.length->((l.set k y).getD j ⟨⟨[]⟩,[]⟩).Name=(l.getD j ⟨⟨[]⟩,[]⟩).Name:=by
    intro j hj;rw [List.getD_eq_getElem?_getD,List.getD_eq_getElem?_getD,List.getElem?_set];by_cases e:k=j
    · subst e; simp [hk,hn]
    · rw [if_neg e]
  have hdim:(decide (1<=((l.set k y).getD i ⟨⟨[]⟩,[]⟩).Dims.length)&&decide (((l.set k y).getD i ⟨⟨[]⟩,[]⟩).Dims.length<=2))=true/\((l.set k y).getD i ⟨⟨[]⟩,[]⟩).Dims.all dimB=true:=by
    simp only [arrI,bA] at h1;rw [List.getD_eq_getElem?_getD,List.getElem?_set];by_cases e:k=i
    · subst e;have:=hy.arr;simp [hk,this.1.1,this.1.2,this.2]
    · rw [if_neg e,<- List.getD_eq_getElem?_getD,bA];exact ⟨h1.1.2,h1.2⟩
  simp only [arrI,bA] at h1 ⊢;rw [bA] at hdim;refine ⟨⟨⟨?_,?_⟩,hdim.1⟩,hdim.2⟩
  · rw [hname i hi']; exact h1.1.1.1
  · by_cases h0:i=0
    · simp [h0]
    · rw [hname i hi',hname (i - 1) (by omega)]; exact h1.1.1.2
end Go.LN
namespace Go.LN
def leD:List Int->List Int->Prop
  | [],[]=>True
  | x::xs,y::ys=>x<=y/\leD xs ys
  | [],_::_=>False
  | _::_,[]=>False
theorem leD.refl:∀ d:List Int,leD d d
  | []=>trivial
  | x::d=>⟨Int.le_refl _,leD.refl d⟩
theorem leD.trans:∀ {a b c:List Int},leD a b->leD b c->leD a c
  | [],[],[],_,_=>trivial
  | x::a,y::b,z::c,h,k=>⟨Int.le_trans h.1 k.1,leD.trans h.2 k.2⟩
theorem leD.len:∀ {a b:List Int},leD a b->a.length=b.length
  | [],[],_=>rfl
  | x::a,y::b,h=>by rw [List.length_cons,List.length_cons,h.2.len]
def mx1 (p:List Int):List Int->List zA->List Int
  | d::ds,s::ss=>max d (evA s p+1)::mx1 p ds ss
  | ds,[]=>ds
  | [],_::_=>[]
theorem zJW (p:List Int):∀ (d:List Int) (ss:List zA),(mx1 p d ss).length=d.length
  | d::ds,s::ss=>by rw [mx1,List.length_cons,List.length_cons,zJW p ds ss]
  | ds,[]=>by cases ds <;> rw [mx1]
  | [],_::_=>by rw [mx1]
theorem zMr (p:List Int):∀ (d:List Int) (ss:List zA),leD d (mx1 p d ss)
  | d::ds,s::ss=>by rw [mx1]; exact ⟨Int.le_max_left ..,zMr p ds ss⟩
  | [],[]=>trivial
  | d::ds,[]=>by rw [mx1]; exact leD.refl _
  | [],_::_=>trivial
theorem zL1 {p:List Int}:∀ {d D:List Int}{ss:List zA},leD d D->fitA p D ss->fitA p (mx1 p d ss) ss/\leD (mx1 p d ss) D
  | [],[],[],_,_=>⟨trivial,trivial⟩
  | d::ds,D::Ds,s::ss,h,k=>by
    obtain ⟨h1,h2⟩:=zL1 h.2 k.2
    rw [mx1]
    have k1:=k.1
    have h0:=h.1
    exact ⟨⟨⟨k1.1,by omega⟩,h1⟩,⟨by omega,h2⟩⟩
theorem zLB {p:List Int}:∀ {d D:List Int}{ss:List zA},fitA p d ss->leD d D->fitA p D ss
  | [],[],[],_,_=>trivial
  | d::ds,D::Ds,s::ss,h,k=>⟨⟨h.1.1,by have:=h.1.2; have:=k.1; omega⟩,zLB h.2 k.2⟩
def mxA (nm:List UInt8) (p:List Int) (d:List Int) (a:zG):List Int:=if a.Array.l=nm then mx1 p d a.Subs else d
theorem zL2 {nm:List UInt8}{p D:List Int}:∀ (L:List zG) (d:List Int),leD d D->(∀ a∈L,a.Array.l=nm->fitA p D a.Subs)->leD d (L.foldl (mxA nm p) d)/\leD (L.foldl (mxA nm p) d) D/\∀ a∈L,a.Array.l=nm->fitA p (L.foldl (mxA nm p) d) a.Subs
  | [],d,h,_=>⟨leD.refl _,h,fun _ h=>by cases h⟩
  | a::L,d,h,hf=>by
    have step:leD d (mxA nm p d a)/\leD (mxA nm p d a) D/\(a.Array.l=nm->fitA p (mxA nm p d a) a.Subs):=by
      unfold mxA
      by_cases hn:a.Array.l=nm
      · rw [if_pos hn]
        have:=zL1 h (hf a (List.mem_cons_self ..) hn)
        exact ⟨zMr ..,this.2,fun _=>this.1⟩
      · rw [if_neg hn]
        exact ⟨leD.refl _,h,fun h=>absurd h hn⟩
    obtain ⟨i1,i2,i3⟩:=zL2 L _ step.2.1 (fun b hb=>hf b (List.mem_cons_of_mem _ hb))
    rw [List.foldl_cons]
    refine ⟨step.1.trans i1,i2,fun b hb hn=>?_⟩
    rcases List.mem_cons.1 hb with rfl | hb
    · exact zLB (step.2.2 hn) i1
    · exact i3 b hb hn
def accI (P:zF) (z:zN):List zG:=readsF 5 (stI P z).Value++[(stI P z).Write]
def mxI (P:zF) (nm:List UInt8) (d:List Int) (z:zN):List Int:=(accI P z).foldl (mxA nm z.Point) d
theorem zL3 {P:zF}{nm:List UInt8}{D:List Int}:∀ (L:List zN) (d:List Int),leD d D->(∀ z∈L,∀ a∈accI P z,a.Array.l=nm->fitA z.Point D a.Subs)->leD d (L.foldl (mxI P nm) d)/\leD (L.foldl (mxI P nm) d) D/\∀ z∈L,∀ a∈accI P z,a.Array.l=nm->fitA z.Point (L.foldl (mxI P nm) d) a.Subs
  | [],d,h,_=>⟨leD.refl _,h,fun _ h=>by cases h⟩
  | z::L,d,h,hf=>by
    obtain ⟨s1,s2,s3⟩:=zL2 (accI P z) d h (hf z (List.mem_cons_self ..))
    obtain ⟨i1,i2,i3⟩:=zL3 L (mxI P nm d z) s2 (fun b hb=>hf b (List.mem_cons_of_mem _ hb))
    rw [List.foldl_cons]
    refine ⟨leD.trans s1 i1,i2,fun b hb a ha hn=>?_⟩
    rcases List.mem_cons.1 hb with rfl | hb
    · exact zLB (s3 a ha hn) i1
    · exact i3 b hb a ha hn
def shD (P:zF) (nm:List UInt8) (n:Nat):List Int:=(progI P).foldl (mxI P nm) (List.replicate n 1)
def arK (P:zF) (k:Nat):zD:=P.Arrays.getD k ⟨⟨[]⟩,[]⟩
def shA (P:zF) (k:Nat):zD:=⟨(arK P k).Name,shD P (arK P k).Name.l (arK P k).Dims.length⟩
def shP (P:zF) (k:Nat):zF:=⟨P.Arrays.set k (shA P k),P.Parts⟩
theorem zDp {P:zF}{k:Nat} (h:k<P.Arrays.length):arK P k=P.Arrays[k]:=by simp [arK,h]
theorem zLC {P:zF} (hb:BG P) (hv:validP P=true) {z:zN} (hz:z∈progI P) {a:zG} (ha:a∈accI P z):0<=cellF a z.Point P.Arrays 0:=by
  have h:=(zKz hb hv hz).ok;simp only [stOk,bA,decide_eq_true_eq] at h;rcases List.mem_append.1 ha with k | k
  · exact of_decide_eq_true (List.all_eq_true.1 h.2 a k)
  · rw [List.mem_singleton.1 k]; exact h.1
theorem zMs {P:zF}{z:zN} (h:InP P z) {a:zG} (ha:a∈accI P z):AV a:=by
  obtain ⟨d,hd⟩:=h.st;obtain ⟨s1,_,s3⟩:=dQ hd;rcases List.mem_append.1 ha with k | k
  · exact s3 a k
  · rw [List.mem_singleton.1 k]; exact s1
theorem zNo {x:zD} (h:DA x):leD (List.replicate x.Dims.length 1) x.Dims:=by
  rcases h with ⟨d,h,k1,k2⟩ | ⟨d,e,h,⟨k1,k2⟩,k3,k4⟩
  · rw [h]; exact ⟨k1,trivial⟩
  · rw [h]; exact ⟨k1,k3,trivial⟩
theorem zHK {P:zF} (hb:BG P) (hv:validP P=true) {k:Nat} (hk:k<P.Arrays.length) :
    leD (List.replicate P.Arrays[k].Dims.length 1) (shA P k).Dims/\leD (shA P k).Dims P.Arrays[k].Dims/\∀ z∈progI P,∀ a∈accI P z,a.Array.l=P.Arrays[k].Name.l->fitA z.Point (shA P k).Dims a.Subs:=by
  have hg:=zAN hv
  have hl:=zL3 (P:=P) (nm:=P.Arrays[k].Name.l) (D:=P.Arrays[k].Dims) (progI P) (List.replicate P.Arrays[k].Dims.length 1) (zNo (hg.2.1 _ (gM hk))) (fun z hz a ha hn=>zIv hg hk (zLC hb hv hz ha) hn)
  have e:(shA P k).Dims=shD P P.Arrays[k].Name.l P.Arrays[k].Dims.length:=by unfold shA; rw [zDp hk]
  rw [e]
  exact hl
theorem zJX {P:zF} (hb:BG P) (hv:validP P=true) {k:Nat} (hk:k<P.Arrays.length):DA (shA P k)/\sizeF (shA P k)<=sizeF P.Arrays[k]:=by
  obtain ⟨h1,h2,_⟩:=zHK hb hv hk;have hD:=(zAN hv).2.1 _ (gM hk);rcases hD with ⟨d,h,k1,k2⟩ | ⟨d,e,h,⟨k1,k2⟩,k3,k4⟩
  · rw [h] at h1 h2;rw [zJT h k1 k2]
    match hd:(shA P k).Dims with
    | []=>rw [hd] at h1; exact h1.elim
    | [d'] =>
      rw [hd] at h1 h2;rw [zJT hd h1.1 (Int.le_trans h2.1 k2)];exact ⟨.inl ⟨d',hd,h1.1,Int.le_trans h2.1 k2⟩,h2.1⟩
    | d'::e'::r=>rw [hd] at h1; exact h1.2.elim
  · rw [h] at h1 h2;rw [zJU h k1 k2 k3 k4]
    match hd:(shA P k).Dims with
    | []=>rw [hd] at h1; exact h1.elim
    | [d']=>rw [hd] at h1; exact h1.2.elim
    | [d',e'] =>
      rw [hd] at h1 h2;have a1:=h1.1;have a2:=h1.2.1;have b1:=h2.1;have b2:=h2.2.1;rw [zJU hd a1 (Int.le_trans b1 k2) a2 (Int.le_trans b2 k4)];exact ⟨.inr ⟨d',e',hd,⟨a1,Int.le_trans b1 k2⟩,a2,Int.le_trans b2 k4⟩,Int.mul_le_mul b1 b2 (by omega) (by omega)⟩
    | d'::e'::f::r=>rw [hd] at h1; exact h1.2.2.elim
theorem zFo {P:zF}{k:Nat} (hk:k<P.Arrays.length):(shA P k).Name=P.Arrays[k].Name:=by unfold shA; rw [zDp hk]
theorem zNp {P:zF} (hb:BG P) (hv:validP P=true) {k:Nat} (hk:k<P.Arrays.length) {z:zN} (hz:z∈progI P) {a:zG} (ha:a∈accI P z):0<=cellF a z.Point (shP P k).Arrays 0 :=
  zMq (zAN hv) hk (by rw [zFo hk]) (zJX hb hv hk).1 (zLC hb hv hz ha) ((zHK hb hv hk).2.2 z hz a ha)
theorem zMt {P:zF}{i j:Nat}{q:List Int} (hi:i<P.Parts.length) (hq:q∈(nestPts P.Parts[i].Nest).1) (hj:j<P.Parts[i].Body.length):(⟨(i:Int),(j:Int),q⟩:zN)∈progI P:=by
  have hg:gP P i=P.Parts[i]:=by simp [gP,hi]
  refine List.mem_flatMap.2 ⟨i,List.mem_range'_1.2 ⟨by omega,by omega⟩,?_⟩;rw [hg];exact List.mem_flatMap.2 ⟨q,hq,List.mem_map.2 ⟨j,List.mem_range'_1.2 ⟨by omega,by omega⟩,rfl⟩⟩
theorem zKX {P:zF} (hb:BG P) (hv:validP P=true) {k:Nat} (hk:k<P.Arrays.length):validP (shP P k)=true:=by
  have hv':=hv;obtain ⟨h1,h2,h3,h4⟩:=zAk hv;have hda:=(zJX hb hv hk).1;simp only [validP,progB,bA,decide_eq_true_eq];refine ⟨⟨⟨zNn h1 hk (zFo hk) hda,h2⟩,List.all_eq_true.2 fun i hi=>?_⟩,h4⟩;have hi':i<P.Parts.length:=by
    have:=(List.mem_range'_1.1 hi).2;rw [Nat.zero_add] at this;exact this
  have hp:=h3 i hi';have hg:gP P i=P.Parts[i]:=by simp [gP,hi']
  show partB (P.Arrays.set k (shA P k)) (gP P i)=true;rw [hg] at hp ⊢;simp only [partB,bA] at hp ⊢;refine ⟨hp.1,List.all_eq_true.2 fun q hq=>?_⟩;have hq1:=List.all_eq_true.1 hp.2 q hq;rw [bA] at hq1 ⊢;refine ⟨hq1.1,List.all_eq_true.2 fun s hs=>?_⟩;obtain ⟨j,hj,rfl⟩:=List.mem_iff_getElem.1 hs;have hz:=zMt hi' hq hj;have hst:stI P ⟨(i:Int),(j:Int),q⟩=P.Parts[i].Body[j]:=by
    unfold stI;simp only [iN];rw [hg]; simp [hj]
  have hc:=fun a ha=>zNp hb hv hk hz (a:=a) ha;unfold accI at hc;rw [hst] at hc;simp only [stOk,bA,decide_eq_true_eq];exact ⟨hc _ (List.mem_append_right _ (List.mem_singleton.2 rfl)),List.all_eq_true.2 fun a ha=>decide_eq_true (hc a (List.mem_append_left _ ha))⟩
theorem zOk {P:zF} (hb:BG P) (hv:validP P=true) {k:Nat} (hk:k<P.Arrays.length):BG (shP P k):=by
  obtain ⟨⟨h1,h2⟩,h3⟩:=hb;refine ⟨⟨?_,?_⟩,h3⟩
  · show (P.Arrays.set k (shA P k)).length<=_;rw [List.length_set]; exact h1
  · refine zCn h2 ?_ k;have:=(zJX ⟨⟨h1,h2⟩,h3⟩ hv hk).1.arr.1.2;omega
theorem zMu {l:List zD}{k:Nat} (hk:k<l.length) (y:zD) (h:sizeF y<=sizeF l[k]):sumS (l.set k y)<=sumS l:=by
  have e:=zIF hk;have e2:l.set k y=l.take k++y::l.drop (k+1):=List.set_eq_take_append_cons_drop ▸ by rw [if_pos hk]
  rw [e2]
  conv=>rhs; rw [e]
  rw [zIE,zIE,sumS,sumS];omega
theorem zO1 {P:zF} (hb:BG P) (hv:validP P=true) {k:Nat} (hk:k<P.Arrays.length):totL (shP P k).Arrays 0<=totL P.Arrays 0:=by
  rw [(zIu hv).1,(zIu (zKX hb hv hk)).1];exact zMu hk _ (zJX hb hv hk).2
def fnN (nm:List UInt8):List (List UInt8)->Nat->Option Nat
  | [],_=>none
  | x::l,i=>if x=nm then some i else fnN nm l (i+1)
def nmsP (P:zF):List (List UInt8):=P.Arrays.map fun x=>x.Name.l
theorem zKY {nm:List UInt8}:∀ {l:List (List UInt8)}{i k:Nat},fnN nm l i=some k->∃ j,k=i+j/\l[j]?=some nm
  | [],i,k,h=>by cases h
  | x::l,i,k,h=>by
    rw [fnN] at h
    split at h
    · rename_i e; cases h; exact ⟨0,rfl,by simp [e]⟩
    · obtain ⟨j,h1,h2⟩:=zKY h
      exact ⟨j+1,by omega,by simpa using h2⟩
theorem zMv {P:zF}{nm:List UInt8}{k:Nat} (h:fnN nm (nmsP P) 0=some k):∃ hk:k<P.Arrays.length,P.Arrays[k].Name.l=nm:=by
  obtain ⟨j,h1,h2⟩:=zKY h;rw [Nat.zero_add] at h1;subst h1;unfold nmsP at h2;rw [List.getElem?_map,Option.map_eq_some_iff] at h2;obtain ⟨x,h3,h4⟩:=h2;obtain ⟨hk,e⟩:=List.getElem?_eq_some_iff.1 h3;exact ⟨hk,by rw [e]; exact h4⟩
theorem zO2 {P:zF}{k:Nat} (hk:k<P.Arrays.length):nmsP (shP P k)=nmsP P:=by
  show (P.Arrays.set k (shA P k)).map _=_;rw [List.map_set,zFo hk];have:(P.Arrays.map fun x=>x.Name.l)[k]?=some P.Arrays[k].Name.l:=by simp [hk]
  obtain ⟨hk',e⟩:=List.getElem?_eq_some_iff.1 this;rw [<- e,List.set_getElem_self];rfl
theorem zMw {P:zF} (hb:BG P) (hv:validP P=true) {k:Nat} (hk:k<P.Arrays.length):shA (shP P k) k=shA P k:=by
  have e:arK (shP P k) k=shA P k:=by
    show (P.Arrays.set k (shA P k)).getD k _=_;rw [List.getD_eq_getElem?_getD,List.getElem?_set_self hk]; rfl
  have hl:=(zHK hb hv hk).2.1.len;have hn:=zFo (P:=P) hk;show (⟨(arK (shP P k) k).Name,shD P (arK (shP P k) k).Name.l (arK (shP P k) k).Dims.length⟩:zD)=_;rw [e,hl,hn];show _=(⟨(arK P k).Name,shD P (arK P k).Name.l (arK P k).Dims.length⟩:zD);rw [zDp hk]
theorem zNq {P:zF} (hb:BG P) (hv:validP P=true) {k:Nat} (hk:k<P.Arrays.length):shP (shP P k) k=shP P k:=by
  show (⟨(P.Arrays.set k (shA P k)).set k (shA (shP P k) k),P.Parts⟩:zF)=_;rw [zMw hb hv hk,List.set_set];rfl
end Go.LN
namespace Go.LN
theorem ownAf (a:zA) (h:BA a):oI a=some a:=by
  unfold oI;rw [zDf a.Coefs (by unfold BA at h; omega)]; rfl
theorem ownAfs (l:List zA) (h:BL l):kH l=some l:=by
  unfold kH;have hl:=pP (l:=l) (f:=fun i o=>uM l o i) (fun i hi o ho=>by
      show uM l o (i:Int)=_;rw [uM];have k1:((i:Int)<(l.length:Int)):=by omega
      have hb:=h.1;have happ:app 32 o [l[i]]=some (o++[l[i]]):=qB (by simp; omega);simp only [k1,dT,if_true,yP hi,oB,oS,ownAf _ (h.2 _ (gM hi)),happ];rw [wY (by omega)]) (fun o=>by
      show uM l o (l.length:Int)=_;rw [uM]; simp)
  rw [show uM l [] 0=some l from hl]; rfl
theorem ownNs (l:List zE) (h:BN l):dK l=some l:=by
  unfold dK;have hl:=pP (l:=l) (f:=fun i o=>sU l o i) (fun i hi o ho=>by
      show sU l o (i:Int)=_;rw [sU];have k1:((i:Int)<(l.length:Int)):=by omega
      have hb:=h.1;have happ:app 48 o [l[i]]=some (o++[l[i]]):=qB (by simp; omega);have hx:=h.2 _ (gM hi);have e:(zE.mk l[i].Lo l[i].Hi)=l[i]:=rfl;simp only [k1,dT,if_true,yP hi,oB,oS,ownAfs _ hx.1,ownAfs _ hx.2,e,happ];rw [wY (by omega)]) (fun o=>by
      show sU l o (l.length:Int)=_;rw [sU]; simp)
  rw [show sU l [] 0=some l from hl]; rfl
theorem zLD {a:zA} (h:noA a=true):a=⟨[],0⟩:=by
  simp only [noA,bA,decide_eq_true_eq,beq_iff_eq] at h;obtain ⟨C,k⟩:=a;obtain ⟨h1,h2⟩:=h;have:=List.length_eq_zero_iff.1 h1;simp only at this h2;rw [this,h2]
theorem zLE {a:zG} (h:noC a=true):a=⟨⟨[]⟩,[]⟩:=by
  simp only [noC,bA,decide_eq_true_eq,beq_iff_eq] at h;obtain ⟨⟨N⟩,S⟩:=a;obtain ⟨h1,h2⟩:=h;have:=List.length_eq_zero_iff.1 h2;simp only at this h1;rw [this,h1]
theorem zMx (a:zG):mpA (fun a=>a) a=a:=by unfold mpA; rw [List.map_id']
theorem zMy {d:Int}:∀ (n:Nat) (e:zH),shapeB d n e=true->mpE (fun a=>a) n e=e
  | 0,e,h=>rfl
  | n+1,e,h=>by
    obtain ⟨_,h2⟩:=dP h
    have hk:e.Kids.map (mpE (fun a=>a) n)=e.Kids:=by
      rw [List.map_congr_left (g:=fun k=>k) (fun k hk=>zMy n k (h2 k hk))]; exact List.map_id' _
    simp only [shapeB,bA] at h
    have ho:=h.1.2
    rw [mpE,hk]
    have hI:(if e.Kind=2 then e.Index else (⟨[],0⟩:zA))=e.Index:=by
      by_cases h2:e.Kind=2
      · rw [if_pos h2]
      · rw [if_neg h2]
        unfold ownB at ho
        rw [if_neg h2] at ho
        by_cases h3:e.Kind=3
        · rw [if_pos h3,bA,bA] at ho
          exact (zLD ho.1.2).symm
        · rw [if_neg h3] at ho
          by_cases h1:e.Kind=1
          · rw [if_pos h1,bA,bA] at ho
            exact (zLD ho.1.2).symm
          · rw [if_neg h1,bA,bA] at ho
            exact (zLD ho.1.2).symm
    have hR:(if e.Kind=3 then mpA (fun a=>a) e.Read else (⟨⟨[]⟩,[]⟩:zG))=e.Read:=by
      by_cases h3:e.Kind=3
      · rw [if_pos h3,zMx]
      · rw [if_neg h3]
        unfold ownB at ho
        by_cases h2:e.Kind=2
        · rw [if_pos h2,bA,bA] at ho
          exact (zLE ho.1.2).symm
        · rw [if_neg h2,if_neg h3] at ho
          by_cases h1:e.Kind=1
          · rw [if_pos h1,bA,bA] at ho
            exact (zLE ho.2).symm
          · rw [if_neg h1,bA,bA] at ho
            exact (zLE ho.2).symm
    rw [hI,hR]
    clear hI hR hk ho h h2
    cases e; rfl
theorem zO3 {s:zJ}{d:Int} (h:stmtB s d=true):mpS (fun a=>a) s=s:=by
  unfold mpS;rw [zMx,zMy 5 _ (dQ h).2.1]
theorem ownSt {s:zJ}{d:Int} (h:stmtB s d=true):dJ s=some s:=by
  unfold dJ;rw [mpSV (d:=d) (f:=fun a=>a) (fun b hb=>ownAf b (by
    simp only [okA,validB,bA,decide_eq_true_eq] at hb;have:=hb.1.1.1;unfold BA; omega)) h,zO3 h]
  rfl
theorem ownPt {x:zI} (hb:BP x) (h:bodyB x=true):dL x=some x:=by
  obtain ⟨b1,b2,b3⟩:=zBR h;unfold dL;have hl:=pP (l:=x.Body) (f:=fun i o=>sV x i o) (fun i hi o ho=>by
      show sV x (i:Int) o=_;rw [sV];have k1:((i:Int)<(x.Body.length:Int)):=by omega
      have happ:app 152 o [x.Body[i]]=some (o++[x.Body[i]]):=qB (by simp; omega);simp only [k1,dT,if_true,yP hi,oB,oS,ownSt (b3 _ (gM hi)),happ];rw [wY (by omega)]) (fun o=>by
      show sV x (x.Body.length:Int) o=_;rw [sV]; simp)
  rw [show sV x 0 []=some x.Body from hl,ownNs _ hb.1];rfl
theorem ownPg {P:zF} (hb:BG P) (hv:validP P=true):jI P=some P:=by
  obtain ⟨⟨a1,a2⟩,p1,p2⟩:=hb;obtain ⟨v1,v2,v3,v4⟩:=zAk hv;unfold jI;have hl:=pP (l:=P.Arrays) (f:=fun i o=>vU P i o) (fun i hi o ho=>by
      show vU P (i:Int) o=_;rw [vU];have k1:((i:Int)<(P.Arrays.length:Int)):=by omega
      have happ:app 40 o [P.Arrays[i]]=some (o++[P.Arrays[i]]):=qB (by simp; omega);have hd:=a2 _ (gM hi);have e:(zD.mk P.Arrays[i].Name P.Arrays[i].Dims)=P.Arrays[i]:=rfl;simp only [k1,dT,if_true,yP hi,oB,oS,zDf P.Arrays[i].Dims (by omega),e,happ];rw [wY (by omega)]) (fun o=>by
      show vU P (P.Arrays.length:Int) o=_;rw [vU]; simp)
  have hl2:=pP (l:=P.Parts) (f:=fun i o=>vV P i o) (fun i hi o ho=>by
      show vV P (i:Int) o=_;rw [vV];have k1:((i:Int)<(P.Parts.length:Int)):=by omega
      have happ:app 48 o [P.Parts[i]]=some (o++[P.Parts[i]]):=qB (by simp; omega);have hg:gP P i=P.Parts[i]:=by simp [gP,hi]
      have hp:=v3 i hi;rw [hg] at hp;have hB:bodyB P.Parts[i]=true:=by
        simp only [partB,bA] at hp; exact hp.1.2
      simp only [k1,dT,if_true,yP hi,oB,oS,ownPt (p2 _ (gM hi)) hB,happ];rw [wY (by omega)]) (fun o=>by
      show vV P (P.Parts.length:Int) o=_;rw [vV]; simp)
  rw [show vU P 0 []=some P.Arrays from hl];simp only [oB,oS];rw [show vV P 0 []=some P.Parts from hl2];rfl
theorem sowAf (a:zA) (h:BA a):nK a=some a:=by
  unfold nK;rw [zAY a.Coefs (by unfold BA at h; omega)]; rfl
theorem sowAfs (l:List zA) (h:BL l):sM l=some l:=by
  unfold sM;have hl:=pP (l:=l) (f:=fun i o=>wJ l o i) (fun i hi o ho=>by
      show wJ l o (i:Int)=_;rw [wJ];have k1:((i:Int)<(l.length:Int)):=by omega
      have hb:=h.1;have happ:app 32 o [l[i]]=some (o++[l[i]]):=qB (by simp; omega);simp only [k1,dT,if_true,yP hi,oB,oS,sowAf _ (h.2 _ (gM hi)),happ];rw [wY (by omega)]) (fun o=>by
      show wJ l o (l.length:Int)=_;rw [wJ]; simp)
  rw [show wJ l [] 0=some l from hl]; rfl
theorem sowNs (l:List zE) (h:BN l):nW l=some l:=by
  unfold nW;have hl:=pP (l:=l) (f:=fun i o=>wQ l o i) (fun i hi o ho=>by
      show wQ l o (i:Int)=_;rw [wQ];have k1:((i:Int)<(l.length:Int)):=by omega
      have hb:=h.1;have happ:app 48 o [l[i]]=some (o++[l[i]]):=qB (by simp; omega);have hx:=h.2 _ (gM hi);have e:gD l[i]=some l[i]:=by
        unfold gD;rw [sowAfs _ hx.1,sowAfs _ hx.2]; rfl
      simp only [k1,dT,if_true,yP hi,oB,oS,e,happ];rw [wY (by omega)]) (fun o=>by
      show wQ l o (l.length:Int)=_;rw [wQ]; simp)
  rw [show wQ l [] 0=some l from hl]; rfl
theorem sowAc (a:zG) (h:BL a.Subs):nL a=some a:=by
  unfold nL;rw [sowAfs _ h]; rfl
theorem sowE:∀ (m:Nat) (e:zH),BE m e->kI e=some e
  | m,e,h=>by
    obtain ⟨h1,h2,h3⟩:=h.own
    rw [kI]
    have hl:=pP (l:=e.Kids) (f:=fun i o=>vG e.Kids o i) (fun i hi o ho=>by
        show vG e.Kids o (i:Int)=_
        rw [vG]
        have k1:((i:Int)<(e.Kids.length:Int)):=by omega
        obtain ⟨m',hm,hm'⟩:=h.kid (gM hi)
        have happ:app 112 o [e.Kids[i]]=some (o++[e.Kids[i]]):=qB (by simp; omega)
        have hr:=sowE m' e.Kids[i] hm'
        simp only [k1,dT,if_true,yP hi,oB,oS,same,hr,happ]
        rw [wY (by omega)]) (fun o=>by
        show vG e.Kids o (e.Kids.length:Int)=_
        rw [vG]; simp)
    have hL:nX e.Kids=some e.Kids:=by
      rw [nX]
      simp only [same]
      rw [show vG e.Kids [] 0=some e.Kids from hl]; rfl
    simp only [sowAf _ h1,sowAc _ h2,hL,oB,oS,oP]
    clear hl hL h h1 h2 h3
    cases e; rfl
theorem sowSt (s:zJ) (h:BS s):gE s=some s:=by
  obtain ⟨h1,m,h2⟩:=h;unfold gE;rw [sowAc _ h1,sowE m _ h2]; rfl
theorem sowPt (x:zI) (h:BP x):gF x=some x:=by
  obtain ⟨b1,b2,b3⟩:=h;unfold gF jL;have hl:=pP (l:=x.Body) (f:=fun i o=>wR x.Body o i) (fun i hi o ho=>by
      show wR x.Body o (i:Int)=_;rw [wR];have k1:((i:Int)<(x.Body.length:Int)):=by omega
      have happ:app 152 o [x.Body[i]]=some (o++[x.Body[i]]):=qB (by simp; omega);simp only [k1,dT,if_true,yP hi,oB,oS,sowSt _ (b3 _ (gM hi)),happ];rw [wY (by omega)]) (fun o=>by
      show wR x.Body o (x.Body.length:Int)=_;rw [wR]; simp)
  rw [show wR x.Body [] 0=some x.Body from hl,sowNs _ b1]; rfl
theorem sowPg (P:zF) (h:BG P):kD P=some P:=by
  obtain ⟨⟨a1,a2⟩,p1,p2⟩:=h;unfold kD kX jM;have hl:=pP (l:=P.Arrays) (f:=fun i o=>wN P.Arrays o i) (fun i hi o ho=>by
      show wN P.Arrays o (i:Int)=_;rw [wN];have k1:((i:Int)<(P.Arrays.length:Int)):=by omega
      have happ:app 40 o [P.Arrays[i]]=some (o++[P.Arrays[i]]):=qB (by simp; omega);have hd:=a2 _ (gM hi);have e:jJ P.Arrays[i]=some P.Arrays[i]:=by
        unfold jJ;rw [zAY P.Arrays[i].Dims (by omega)]; rfl
      simp only [k1,dT,if_true,yP hi,oB,oS,e,happ];rw [wY (by omega)]) (fun o=>by
      show wN P.Arrays o (P.Arrays.length:Int)=_;rw [wN]; simp)
  have hl2:=pP (l:=P.Parts) (f:=fun i o=>wS P.Parts o i) (fun i hi o ho=>by
      show wS P.Parts o (i:Int)=_;rw [wS];have k1:((i:Int)<(P.Parts.length:Int)):=by omega
      have happ:app 48 o [P.Parts[i]]=some (o++[P.Parts[i]]):=qB (by simp; omega);simp only [k1,dT,if_true,yP hi,oB,oS,sowPt _ (p2 _ (gM hi)),happ];rw [wY (by omega)]) (fun o=>by
      show wS P.Parts o (P.Parts.length:Int)=_;rw [wS]; simp)
  rw [show wN P.Arrays [] 0=some P.Arrays from hl,show wS P.Parts [] 0=some P.Parts from hl2];rfl
theorem zBA {n:Nat}{f:Int->Option (Out Unit Bool)} (step:∀ i,i<n->f (i:Int)=f ((i+1:Nat):Int)) (fin:f (n:Int)=some (.done ())):f 0=some (.done ()):=by
  have key:∀ j i,i+j=n->f (i:Int)=some (.done ()):=by
    intro j
    induction j with
    | zero=>intro i hi; rw [show i=n by omega,fin]
    | succ j ih=>intro i hi; rw [step i (by omega)]; exact ih (i+1) (by omega)
  exact key n 0 (by omega)
theorem sAf (a:zA) (h:BA a):wI a a=some true:=by
  rw [implAff a a (by unfold BA at h; omega),zMp]
theorem sAfs (l:List zA) (h:BL l):yN l l wI=some true:=by
  unfold yN;have hb:=h.1;have hl:=zBA (n:=l.length) (f:=yK l l wI) (fun i hi=>by
      rw [yK];have k1:((i:Int)<(l.length:Int)):=by omega
      simp only [k1,dT,if_true,yP hi,oB,oS,sAf _ (h.2 _ (gM hi)),bT,bF,if_false];rw [wY (by omega)]) (by rw [yK]; simp)
  simp only [bne_self_eq_false,bF,if_false,hl,oB,oS];rfl
theorem sNs (l:List zE) (h:BN l):eC l l=some true:=by
  unfold eC wE;have hb:=h.1;have hl:=zBA (n:=l.length) (f:=yQ l l pK) (fun i hi=>by
      rw [yQ];have k1:((i:Int)<(l.length:Int)):=by omega
      have hx:=h.2 _ (gM hi);have e:pK l[i] l[i]=some true:=by
        unfold pK;rw [sAfs _ hx.1,sAfs _ hx.2]; rfl
      simp only [k1,dT,if_true,yP hi,oB,oS,e,bT,bF,if_false];rw [wY (by omega)]) (by rw [yQ]; simp)
  simp only [bne_self_eq_false,bF,if_false,hl,oB,oS];rfl
theorem sAc (a:zG) (h:BL a.Subs):kJ a a=some true:=by
  unfold kJ;simp only [bQ,if_true,sAfs _ h,oB,oS];rfl
theorem sEx:∀ (m:Nat) (e:zH),BE m e->jV e e=some true
  | m,e,h=>by
    obtain ⟨h1,h2,h3⟩:=h.own
    have hl:=zBA (n:=e.Kids.length) (f:=xA e.Kids e.Kids) (fun i hi=>by
        rw [xA]
        have k1:((i:Int)<(e.Kids.length:Int)):=by omega
        obtain ⟨m',hm,hm'⟩:=h.kid (gM hi)
        have hr:=sEx m' e.Kids[i] hm'
        simp only [k1,dT,if_true,yP hi,oB,oS,same,hr,bT,bF,if_false]
        rw [wY (by omega)]) (by rw [xA]; simp)
    have hL:xN e.Kids e.Kids=some true:=by
      rw [xN]
      simp only [bne_self_eq_false,bF,if_false,same,hl,oB,oS]
      rfl
    rw [jV]
    simp only [bQ,if_true,sAf _ h1,sAc _ h2,hL,oB,oS]
    rfl
theorem sSt (s:zJ) (h:BS s):pU s s=some true:=by
  obtain ⟨h1,m,h2⟩:=h;unfold pU;simp only [sAc _ h1,sEx m _ h2,if_true,oB,oS];rfl
theorem sPg (P:zF) (h:BG P):rD P P=some true:=by
  obtain ⟨⟨a1,a2⟩,p1,p2⟩:=h;unfold rD xZ wF;have hl:=zBA (n:=P.Arrays.length) (f:=yO P.Arrays P.Arrays sY) (fun i hi=>by
      rw [yO];have k1:((i:Int)<(P.Arrays.length:Int)):=by omega
      have hd:=a2 _ (gM hi);have e:sY P.Arrays[i] P.Arrays[i]=some true:=by
        unfold sY;simp only [bQ,if_true,implEqI P.Arrays[i].Dims P.Arrays[i].Dims (by omega),zKU,oB,oS];rfl
      simp only [k1,dT,if_true,yP hi,oB,oS,e,bT,bF,if_false];rw [wY (by omega)]) (by rw [yO]; simp)
  have hl2:=zBA (n:=P.Parts.length) (f:=yS P.Parts P.Parts sZ) (fun i hi=>by
      rw [yS];have k1:((i:Int)<(P.Parts.length:Int)):=by omega
      obtain ⟨x1,x2,x3⟩:=p2 _ (gM hi);have hS:xM P.Parts[i].Body P.Parts[i].Body pU=some true:=by
        unfold xM;have hl3:=zBA (n:=P.Parts[i].Body.length) (f:=yR P.Parts[i].Body P.Parts[i].Body pU) (fun k hk=>by
            rw [yR];have k2:((k:Int)<(P.Parts[i].Body.length:Int)):=by omega
            simp only [k2,dT,if_true,yP hk,oB,oS,sSt _ (x3 _ (gM hk)),bT,bF,if_false];rw [wY (by omega)]) (by rw [yR]; simp)
        simp only [bne_self_eq_false,bF,if_false,hl3,oB,oS];rfl
      have e:sZ P.Parts[i] P.Parts[i]=some true:=by
        unfold sZ;simp only [sNs _ x1,if_true,hS,oB,oS];rfl
      simp only [k1,dT,if_true,yP hi,oB,oS,e,bT,bF,if_false];rw [wY (by omega)]) (by rw [yS]; simp)
  simp only [bne_self_eq_false,bF,if_false,hl,hl2,oB,oS];rfl
theorem sNil:rD ⟨[],[]⟩ ⟨[],[]⟩=some true:=sPg _ ⟨⟨by simp,fun _ h=>by cases h⟩,by simp,fun _ h=>by cases h⟩
end Go.LN
