/- Helper of the proof (see the last text). -/
import Derived.Test.YtknadcjnkbdpdaaGreatLnA
import Derived.Test.YtknadcjnkbdpdaaGreatLnI
import Derived.Test.YtknadcjnkbdpdaaGreatLnP
import Derived.Test.YtknadcjnkbdpdaaGreatTryzShelf
import Derived.Test.YtknadcjnkbdpdaaGreatHM1
import Derived.Test.YtknadcjnkbdpdaaGreatHM2
import Derived.Test.YtknadcjnkbdpdaaGreatHM3
import Derived.Test.YtknadcjnkbdpdaaGreatHM4
import Derived.Test.YtknadcjnkbdpdaaGreatHM5
import Derived.Test.YtknadcjnkbdpdaaGreatHM6
import Derived.Test.YtknadcjnkbdpdaaGreatHM7
import Derived.Test.YtknadcjnkbdpdaaGreatQT
import Derived.Test.YtknadcjnkbdpdaaGreatQZ
import Derived.Test.YtknadcjnkbdpdaaGreatVB1
import Derived.Test.YtknadcjnkbdpdaaGreatVB8
import Derived.Test.YtknadcjnkbdpdaaGreatLnR
set_option linter.unusedVariables false
set_option linter.unusedSimpArgs false
namespace Go.LN
end Go.LN
namespace Go.LN
end Go.LN
namespace Go.LN
theorem zKs {d d2:Int} (h:d ≤ d2) {a:zA} (k:okA d a=true):okA d2 a=true:=by
  simp only [okA,bA,decide_eq_true_eq] at k ⊢;exact ⟨k.1,by omega⟩
theorem zKt {d d2:Int} (h:d ≤ d2) {a:zJ} (k:accB a d=true):accB a d2=true:=by
  simp only [accB,bA,List.all_eq_true] at k ⊢;exact ⟨k.1,fun s hs=>zKs h (k.2 s hs)⟩
theorem zKp {d d2:Int} (h:d ≤ d2):∀ (n:Nat) (e:zG),shapeB d n e=true→shapeB d2 n e=true
  | 0,e,k=>by cases k
  | n + 1,e,k=>by
    simp only [shapeB,bA,List.all_eq_true] at k ⊢
    refine ⟨⟨k.1.1,?_⟩,fun y hy=>zKp h n y (k.2 y hy)⟩
    have ho:=k.1.2
    unfold ownB at ho ⊢
    by_cases h2:e.Kind=2
    · rw [if_pos h2,bA] at ho ⊢
      exact ⟨ho.1,zKs h ho.2⟩
    · rw [if_neg h2] at ho ⊢
      by_cases h3:e.Kind=3
      · rw [if_pos h3,bA] at ho ⊢
        exact ⟨ho.1,zKt h ho.2⟩
      · rw [if_neg h3] at ho ⊢
        exact ho
theorem zKx {s:zI}{d:Int} (h:stmtB s d=true):stmtB s 4=true:=by
  simp only [stmtB,bA,decide_eq_true_eq] at h ⊢;obtain ⟨⟨⟨d0,d1⟩,ha⟩,hs,hc⟩:=h;exact ⟨⟨by omega,zKt d1 ha⟩,zKp d1 5 _ hs,hc⟩
theorem AV.bl {a:zJ} (h:AV a):BL a.Subs:=⟨by have:=h.2.1; omega,fun s hs=>by have:=h.2.2 s hs; unfold BA; omega⟩
end Go.LN
namespace Go.LN
end Go.LN
namespace Go.LN
def eqL {α:Type} (q:α→α→Bool):List α→List α→Bool
  | [],[]=>true
  | x::a,y::b=>q x y && eqL q a b
  | _,_=>false
theorem zKo {α:Type}{a b:List α} (hl:a.length=b.length) {q:α→α→Bool}{f:Int→Option (Out Unit Bool)} (step:∀ (i:Nat) (h1:i < a.length) (h2:i < b.length),f (i:Int)=if q a[i] b[i] then f ((i + 1:Nat):Int) else some (.ret false)) (fin:f (a.length:Int)=some (.done ())):f 0=some (if eqL q a b then .done () else .ret false):=by
  have key:∀ (j i:Nat),i + j=a.length→f (i:Int)=some (if eqL q (a.drop i) (b.drop i) then .done () else .ret false):=by
    intro j
    induction j with
    | zero =>
      intro i hi;rw [show i=a.length by omega,fin,dN.2 (Nat.le_refl a.length),dN.2 (show b.length ≤ a.length by omega)]; rfl
    | succ j ih =>
      intro i hi;have h1:i < a.length:=by omega
      have h2:i < b.length:=by omega
      rw [step i h1 h2,ih (i + 1) (by omega),gC h1,gC h2,eqL];cases q a[i] b[i] <;> rfl
  have:=key a.length 0 (Nat.zero_add _);rwa [nZ,List.drop_zero,List.drop_zero] at this
theorem zKn {α:Type}{q:α→α→Bool}:∀ {a b:List α},a.length ≠ b.length→eqL q a b=false
  | [],[],h=>absurd rfl h
  | [],_::_,_=>rfl
  | _::_,[],_=>rfl
  | x::a,y::b,h=>by rw [eqL,zKn (by simpa using h),Bool.and_false]
def eqI (a b:List Int):Bool:=eqL (fun x y=>x == y) a b
theorem implEqI (a b:List Int) (h:a.length ≤ 1048576):mR a b=some (eqI a b):=by
  unfold mR eqI;by_cases hl:a.length=b.length
  · have hf:=zKo (q:=fun x y=>x == y) hl (f:=qL a b) (fun i h1 h2=>by
      rw [qL];have c:((i:Int) < (a.length:Int)):=by omega
      simp only [c,dT,if_true,xL h1,xL h2,oB,oS,oP];rw [sS (by omega)];by_cases e:a[i]=b[i]
      · simp [e]
      · simp [e]) (by rw [qL]; simp)
    have e:((a.length:Int) != (b.length:Int))=false:=by simp [hl]
    rw [hf,e];cases eqL (fun x y=>x == y) a b <;> rfl
  · have e:((a.length:Int) != (b.length:Int))=true:=by simp; omega
    rw [e,zKn hl]; rfl
theorem specEqI (a b:List Int) (h:a.length ≤ 1048576):dX a b=some (eqI a b):=by
  unfold dX eqI;by_cases hl:a.length=b.length
  · have hf:=zKo (q:=fun x y=>x == y) hl (f:=jA a b) (fun i h1 h2=>by
      rw [jA];have c:((i:Int) < (a.length:Int)):=by omega
      simp only [c,dT,if_true,xL h1,xL h2,oB,oS,oP];rw [sS (by omega)];by_cases e:a[i]=b[i]
      · simp [e]
      · simp [e]) (by rw [jA]; simp)
    have e:((a.length:Int) != (b.length:Int))=false:=by simp [hl]
    rw [hf,e];cases eqL (fun x y=>x == y) a b <;> rfl
  · have e:((a.length:Int) != (b.length:Int))=true:=by simp; omega
    rw [e,zKn hl]; rfl
def afB (x y:zA):Bool:=eqI x.Coefs y.Coefs && x.Const == y.Const
theorem implAff (x y:zA) (h:x.Coefs.length ≤ 1048576):nE x y=some (afB x y):=by
  unfold nE afB;rw [implEqI _ _ h];cases eqI x.Coefs y.Coefs <;> rfl
theorem specAff (x y:zA) (h:x.Coefs.length ≤ 1048576):gK x y=some (afB x y):=by
  unfold gK afB;rw [specEqI _ _ h];cases eqI x.Coefs y.Coefs <;> cases x.Const == y.Const <;> rfl
def acB (a b:zJ):Bool:=a.Array.l == b.Array.l && eqL afB a.Subs b.Subs
theorem implAcS (a b:zJ) (ha:AV a):kH a b=some (acB a b):=by
  unfold kH acB;cases a.Array.l == b.Array.l with
  | false=>rfl
  | true =>
    have h2:=ha.2.1;unfold xW;by_cases hl:a.Subs.length=b.Subs.length
    · have hf:=zKo (q:=afB) hl (f:=xF a.Subs b.Subs nE) (fun i h1 h2=>by
        rw [xF];have c:((i:Int) < (a.Subs.length:Int)):=by omega
        have hc:=ha.2.2 _ (gM h1);simp only [c,dT,if_true,xL h1,xL h2,implAff _ _ (show a.Subs[i].Coefs.length ≤ 1048576 by omega),oB,oS,oP];rw [sS (by omega)];cases afB a.Subs[i] b.Subs[i] <;> rfl) (by rw [xF]; simp)
      have e:((a.Subs.length:Int) != (b.Subs.length:Int))=false:=by simp [hl]
      rw [hf,e];cases eqL afB a.Subs b.Subs <;> rfl
    · have e:((a.Subs.length:Int) != (b.Subs.length:Int))=true:=by simp; omega
      rw [e,zKn hl]; rfl
theorem specAcS (a b:zJ) (ha:AV a):jD a b=some (acB a b):=by
  unfold jD acB;cases a.Array.l == b.Array.l with
  | false=>rfl
  | true =>
    have h2:=ha.2.1;unfold gL;by_cases hl:a.Subs.length=b.Subs.length
    · have hf:=zKo (q:=afB) hl (f:=nF a.Subs b.Subs) (fun i h1 h2=>by
        rw [nF];have c:((i:Int) < (a.Subs.length:Int)):=by omega
        have hc:=ha.2.2 _ (gM h1);simp only [c,dT,if_true,xL h1,xL h2,specAff _ _ (show a.Subs[i].Coefs.length ≤ 1048576 by omega),oB,oS,oP];rw [sS (by omega)];cases afB a.Subs[i] b.Subs[i] <;> rfl) (by rw [nF]; simp)
      have e:((a.Subs.length:Int) != (b.Subs.length:Int))=false:=by simp [hl]
      rw [hf,e];cases eqL afB a.Subs b.Subs <;> rfl
    · have e:((a.Subs.length:Int) != (b.Subs.length:Int))=true:=by simp; omega
      rw [e,zKn hl]; rfl
def usB (n:Nat) (e:zG) (l:List UInt8):Bool:=(readsF n e).any fun a=>a.Array.l == l
theorem specUs {d:Int}:∀ (n:Nat) (e:zG) (nm:Str),shapeB d n e=true→kY e nm=some (usB n e nm.l)
  | 0,e,nm,h=>by cases h
  | n + 1,e,nm,h=>by
    rw [kY]
    unfold usB
    rw [readsF]
    obtain ⟨h1,h2⟩:=gY h
    by_cases h3:e.Kind=3
    · have e3:(e.Kind == 3)=true:=by simpa using h3
      have hk:=(zF8 h h3).1
      have hl:gN e nm 0=some (.done ()):=by rw [gN]; simp [hk]
      rw [if_pos h3]
      simp only [e3,if_true,same,hl,oB,oS,oP,List.any_cons,List.any_nil,Bool.or_false]
      cases e.Read.Array.l == nm.l <;> rfl
    · have e3:(e.Kind == 3)=false:=by simpa using h3
      rw [if_neg h3]
      simp only [e3,bF,if_false,same,oB,oS,oP]
      rcases h1 with hk | ⟨a,b,hk⟩
      · have hl:gN e nm 0=some (.done ()):=by rw [gN]; simp [hk]
        rw [hl,hk]; rfl
      · have ra:=specUs n a nm (h2 a (by rw [hk]; simp))
        have rb:=specUs n b nm (h2 b (by rw [hk]; simp))
        have l0:((0:Int) < (e.Kids.length:Int)):=by rw [hk]; simp
        have l1:((1:Int) < (e.Kids.length:Int)):=by rw [hk]; simp
        have l2:¬((2:Int) < (e.Kids.length:Int)):=by rw [hk]; simp
        have i0:idx e.Kids 0=some a:=by rw [hk]; rfl
        have i1:idx e.Kids 1=some b:=by rw [hk]; rfl
        have w0:W ((0:Int) + 1)=1:=by rw [rB (by omega) (by omega)]; rfl
        have w1:W ((1:Int) + 1)=2:=by rw [rB (by omega) (by omega)]; rfl
        have f2:gN e nm 2=some (.done ()):=by rw [gN]; simp only [l2,dF,bF,if_false,oP]
        have f1:gN e nm 1=some (if usB n b nm.l then .ret true else .done ()):=by
          rw [gN]
          simp only [l1,dT,if_true,i1,same,rb,w1,f2,oB,oS,oP]
          cases usB n b nm.l <;> rfl
        have f0:gN e nm 0=some (if usB n a nm.l || usB n b nm.l then .ret true else .done ()):=by
          rw [gN]
          simp only [l0,dT,if_true,i0,same,ra,w0,f1,oB,oS,oP]
          cases usB n a nm.l <;> rfl
        have eu:(e.Kids.flatMap (readsF n)).any (fun x=>x.Array.l == nm.l)=(usB n a nm.l || usB n b nm.l):=by
          rw [hk]
          unfold usB
          simp
        rw [f0,eu]
        cases usB n a nm.l <;> cases usB n b nm.l <;> rfl
def redB (s:zI):Bool:=match s.Value.Kids with
  | [x,y]=>(s.Value.Kind == 4 || s.Value.Kind == 5) && (x.Kind == 3 && (acB x.Read s.Write && !usB 4 y s.Write.Array.l))
  | _=>false
theorem implRed (s:zI) {d:Int} (hs:stmtB s d=true):gJ s=some (redB s):=by
  obtain ⟨s1,s2,s3⟩:=zFa hs;unfold gJ redB;rcases zK4 s2 with hk | ⟨hk,x,y,hxy⟩
  · have h4:(s.Value.Kind != 4)=true:=by simp; omega
    have h5:(s.Value.Kind != 5)=true:=by simp; omega
    have hn:s.Value.Kids=[]:=by
      rcases (gY s2).1 with h | ⟨a,b,h⟩
      · exact h
      · have h0:=s2;simp only [shapeB,bA] at h0;have h1:=eq_of_beq h0.1.1;unfold kidsN at h1;rw [if_pos hk,h] at h1;simp at h1
    rw [hn];simp [h4,h5]
  · have h2:=(gY s2).2;rw [hxy] at h2 ⊢;have sx:=h2 x (by simp);have sy:=h2 y (by simp);have i0:idx [x,y] 0=some x:=rfl;have i1:idx [x,y] 1=some y:=rfl;have hr:=implReads 4 y sy (by omega);have hlen:=jW 4 y sy;have hc:=zGe (f:=fun x0=>mF x0 s) (p:=fun a=>a.Array.l == s.Write.Array.l) (readsF 4 y) (fun a ha=>rfl) (by omega);have hu:(readsF 4 y).any (fun a=>a.Array.l == s.Write.Array.l)=usB 4 y s.Write.Array.l:=rfl;rw [hu] at hc;dsimp only;by_cases k3:x.Kind=3
    · have hx:=AV.of (zF8 sx k3).2;have e3:(x.Kind != 3)=false:=by simpa using k3
      have e3':(x.Kind == 3)=true:=by simpa using k3
      by_cases k4:s.Value.Kind=4
      · have e4:(s.Value.Kind != 4)=false:=by simpa using k4
        have e4':(s.Value.Kind == 4)=true:=by simpa using k4
        simp only [e4,e4',e3,e3',bF,if_false,i0,i1,implAcS x.Read s.Write hx,hr,hc,oB,oS,oP,Bool.true_or,Bool.true_and];cases acB x.Read s.Write <;> rfl
      · have e4:(s.Value.Kind != 4)=true:=by simpa using k4
        have e4':(s.Value.Kind == 4)=false:=by simpa using k4
        by_cases k5:s.Value.Kind=5
        · have e5:(s.Value.Kind != 5)=false:=by simpa using k5
          have e5':(s.Value.Kind == 5)=true:=by simpa using k5
          simp only [e4,e4',e5,e5',e3,e3',bF,if_false,if_true,i0,i1,implAcS x.Read s.Write hx,hr,hc,oB,oS,oP,Bool.or_true,Bool.true_and];cases acB x.Read s.Write <;> rfl
        · have e5:(s.Value.Kind != 5)=true:=by simpa using k5
          have e5':(s.Value.Kind == 5)=false:=by simpa using k5
          simp only [e4,e4',e5,e5',if_true,oB,oS,oP,Bool.or_self,Bool.false_and]
    · have e3:(x.Kind != 3)=true:=by simpa using k3
      have e3':(x.Kind == 3)=false:=by simpa using k3
      by_cases k4:s.Value.Kind=4
      · have e4:(s.Value.Kind != 4)=false:=by simpa using k4
        simp only [e4,e3,e3',bF,if_false,if_true,i0,oB,oS,oP,Bool.false_and,Bool.and_false]
      · have e4:(s.Value.Kind != 4)=true:=by simpa using k4
        by_cases k5:s.Value.Kind=5
        · have e5:(s.Value.Kind != 5)=false:=by simpa using k5
          simp only [e4,e5,e3,e3',bF,if_false,if_true,i0,oB,oS,oP,Bool.false_and,Bool.and_false]
        · have e5:(s.Value.Kind != 5)=true:=by simpa using k5
          simp only [e4,e5,e3',if_true,oB,oS,oP,Bool.false_and,Bool.and_false]
theorem specRed (s:zI) {d:Int} (hs:stmtB s d=true):zAb s=some (redB s):=by
  obtain ⟨s1,s2,s3⟩:=zFa hs;unfold zAb redB;rcases zK4 s2 with hk | ⟨hk,x,y,hxy⟩
  · have h4:(s.Value.Kind != 4)=true:=by simp; omega
    have h5:(s.Value.Kind != 5)=true:=by simp; omega
    have hn:s.Value.Kids=[]:=by
      rcases (gY s2).1 with h | ⟨a,b,h⟩
      · exact h
      · have h0:=s2;simp only [shapeB,bA] at h0;have h1:=eq_of_beq h0.1.1;unfold kidsN at h1;rw [if_pos hk,h] at h1;simp at h1
    rw [hn];simp [h4,h5]
  · have h2:=(gY s2).2;rw [hxy] at h2 ⊢;have sx:=h2 x (by simp);have sy:=h2 y (by simp);have i0:idx [x,y] 0=some x:=rfl;have i1:idx [x,y] 1=some y:=rfl;have hu:=specUs 4 y s.Write.Array sy;dsimp only;have hT:(if (s.Value.Kind != 4)=true then some (s.Value.Kind != 5) else some false)=some (!(s.Value.Kind == 4 || s.Value.Kind == 5)):=by
      unfold bne;cases s.Value.Kind == 4 <;> rfl
    simp only [oP,oB,hT,oS];cases (s.Value.Kind == 4 || s.Value.Kind == 5) with
    | false=>rfl
    | true =>
      simp only [bT,bF,if_false,i0,i1,oS,Bool.true_and];by_cases k3:x.Kind=3
      · have hx:=AV.of (zF8 sx k3).2;have e3':(x.Kind == 3)=true:=by simpa using k3
        simp only [e3',if_true,specAcS x.Read s.Write hx,hu,oS,Bool.true_and];cases acB x.Read s.Write <;> rfl
      · have e3':(x.Kind == 3)=false:=by simpa using k3
        simp only [e3',bF,if_false,Bool.false_and];rfl
def namF (P:zK) (z:zS):Str:=if redB (stI P z) then (stI P z).Write.Array else ⟨[]⟩
theorem zKu {P:zK} (hb:BG P) (hv:validP P=true):∀ (j i:Nat) (o:List Str),i + j=(progI P).length→o.length=i→mS P (progI P) o (i:Int)=some (o ++ ((progI P).drop i).map (namF P)):=by
  have hlen:=(zEI hv).2.2.2;intro j
  induction j with
  | zero =>
    intro i o hi ho;rw [mS];have:¬((i:Int) < ((progI P).length:Int)):=by omega
    simp only [this,dF,bF,if_false,oP,id];rw [dN.2 (by omega)]; simp
  | succ j ih =>
    intro i o hi ho;rw [mS];have hlt:i < (progI P).length:=by omega
    have hc:((i:Int) < ((progI P).length:Int)):=by omega
    have hz:=zKk hb hv (gM hlt);obtain ⟨d,hd⟩:=hz.st;rw [gC hlt,List.map_cons];simp only [hc,dT,if_true,xL hlt,hz.idxP,hz.idxS,specRed _ hd,oB,oS,oP];have en:(if redB (stI P (progI P)[i])=true then some (stI P (progI P)[i]).Write.Array else some (⟨[]⟩:Str))=some (namF P (progI P)[i]):=by
      unfold namF;cases redB (stI P (progI P)[i]) <;> rfl
    rw [en,sS (by omega)];simp only [oS,mG (show (o.length + [namF P (progI P)[i]].length) * 16 ≤ 140737488355328 by simp; omega)];rw [ih (i + 1) _ (by omega) (by rw [lA]; simp; omega),List.append_assoc]; rfl
def rgF (P:zK) (k:Int):Str×Bool:=if validP P=true∧0 ≤ k∧k < ((progI P).length:Int) then (if redB (stI P (zIns P k.toNat)) then ((stI P (zIns P k.toNat)).Write.Array,true) else (⟨[]⟩,false)) else (⟨[]⟩,false)
theorem implRG (P:zK) (hb:BG P) (k:Int):kE P k=some (rgF P k):=by
  unfold kE rgF;rw [implInstances P hb];cases hv:validP P with
  | false =>
    have e0:∀ x y:Str×Bool,(if false=true∧0 ≤ k∧k < ((progI P).length:Int) then x else y)=y:=fun x y=>if_neg fun h=>by cases h.1
    rw [e0];unfold validP at hv;cases hp:progB P with
    | false=>simp
    | true =>
      rw [hp,Bool.true_and] at hv;simp [hv]
  | true =>
    have hlen:=(zEI hv).2.2.2;have hp:progB P=true:=by unfold validP at hv; rw [bA] at hv; exact hv.1
    have hW:W (((progI P).length:Int) - 1)=((progI P).length:Int) - 1:=by rw [rB (by omega) (by omega)]
    simp only [hp,if_true,hlen,dT,bT,bF,if_false,oX,hW,true_and,oB,oS,oP];by_cases h:0 ≤ k∧k < ((progI P).length:Int)
    · rw [if_pos h];obtain ⟨m,rfl⟩:∃ m:Nat,k=(m:Int):=⟨k.toNat,by omega⟩;have hm:m < (progI P).length:=by omega
      have hz:=zKk hb hv (gM hm);obtain ⟨d,hd⟩:=hz.st;have e1:(0:Int) ≤ (m:Int):=by omega
      have e2:(m:Int) ≤ ((progI P).length:Int) - 1:=by omega
      unfold nS;simp only [e1,e2,dT,Bool.and_self,bT,bF,if_false,xL hm,hz.idxP,hz.idxS,implRed _ hd,oB,oS,oP,id,iN,zKl hm];cases redB (stI P (progI P)[m]) <;> rfl
    · rw [if_neg h];have e4:(!(decide (0 ≤ k) && decide (k ≤ ((progI P).length:Int) - 1)))=true:=by simp; omega
      simp only [e4,if_true,oS]
theorem specRG (P:zK) (hb:BG P) (k:Int):kF P k=some (rgF P k):=by
  unfold kF rgF;rw [specValidP P hb];cases hv:validP P with
  | false =>
    have e0:∀ x y:Str×Bool,(if false=true∧0 ≤ k∧k < ((progI P).length:Int) then x else y)=y:=fun x y=>if_neg fun h=>by cases h.1
    rw [e0]; rfl
  | true =>
    have hlen:=(zEI hv).2.2.2;have hn:fO P=some ((progI P).map (namF P)):=by
      have h:=zKu hb hv _ 0 [] (Nat.zero_add _) rfl;rw [nZ,List.drop_zero,List.nil_append] at h;unfold fO;simp only [specInsts P hv,h,oB,oS,oP,id]
    simp only [hn,bT,bF,if_false,true_and,lM,oB,oS,oP];by_cases h:0 ≤ k∧k < ((progI P).length:Int)
    · rw [if_pos h];obtain ⟨m,rfl⟩:∃ m:Nat,k=(m:Int):=⟨k.toNat,by omega⟩;have hm:m < (progI P).length:=by omega
      have hz:=zKk hb hv (gM hm);obtain ⟨d,hd⟩:=hz.st;have e1:¬((m:Int) < 0):=by omega
      have e2:¬((m:Int) ≥ ((progI P).length:Int)):=by omega
      have hg:idx ((progI P).map (namF P)) (m:Int)=some (namF P (progI P)[m]):=by
        rw [xL (by rw [lM]; exact hm)]; simp
      simp only [e1,e2,dF,bF,if_false,hg,oS,iN,zKl hm];unfold namF;cases hr:redB (stI P (progI P)[m]) with
      | false=>rfl
      | true =>
        have hw:accB (stI P (progI P)[m]).Write d=true:=by simp only [stmtB,bA] at hd; exact hd.1.2
        have hne:((stI P (progI P)[m]).Write.Array.l == [])=false:=by
          cases hl:(stI P (progI P)[m]).Write.Array.l with
          | nil =>
            simp only [accB,bA] at hw;rw [hl] at hw;exact absurd hw.1.1 (by decide)
          | cons x l=>rfl
        simp only [if_true,hne,bF,if_false]
    · rw [if_neg h];by_cases h0:k < 0
      · simp [h0]
      · have h1:k ≥ ((progI P).length:Int):=by omega
        simp [h0,h1]
instance zKq (r:zO):Tot (eJ r) (0 ≤ r.p∧r.p ≤ 30000000) (fun φ=>∀ a s,SG 1000 a→r.p ≤ s.p→s.p ≤ r.p + 4000000→φ (a,s)):=⟨by
  rintro ⟨h0,h1⟩ φ hk
  unfold eJ
  refine Ok.call (fW r _) ⟨by decide,h0,by omega⟩ fun y s g1 g2=>?_
  have hy:y.l.length ≤ 1000:=by
    revert g1 y
    decide
  refine Ok.cat (by simp; omega) fun t _ ht=>?_
  simp only [List.length_cons,List.length_nil] at ht
  refine Ok.call (zDy t) (by omega) fun p b hp=>?_
  refine Ok.bind (φ:=fun o=>r.p ≤ o.2.p∧o.2.p ≤ r.p + 2) ?_ ?_
  · exact Ok.ite (fun _=>Ok.call (mU s 3) ⟨by omega,by omega⟩ fun y u k1 k2 k3=>Ok.pure ⟨by dsimp only; omega,by dsimp only; omega⟩) fun _=>Ok.pure ⟨by dsimp only; omega,by dsimp only; omega⟩
  rintro ⟨z,u⟩ ⟨g3,g4⟩
  dsimp only at g3 g4 ⊢
  refine Ok.ite (fun _=>Ok.pure (hk _ _ hp g3 (by omega))) fun _=>Ok.call (zK0 u) ⟨by omega,by omega⟩ fun a v g5 g6 g7=>Ok.pure (hk _ v g5 (by omega) (by omega))⟩
theorem drawRG (code:List UInt8):Ok (oN code) (fun y=>BG y.1):=by
  unfold oN;refine Ok.call (zKD code) trivial fun s hs=>Ok.call (zKq s) ⟨by omega,by omega⟩ fun a t g1 g2 g3=>?_;refine Ok.bind (mut4 t a g1.dp (by omega) (by omega)) fun p hp=>?_;obtain ⟨P,r⟩:=p;have k0:0 ≤ r.p:=hp.2.1;have k1:r.p ≤ 700001000:=hp.2.2;refine Ok.bind (zKj r P hp.1.1 k0 (by omega)) fun q hq=>?_;obtain ⟨k,r2⟩:=q;exact Ok.pure hp.1.1
theorem zKm (code:List UInt8):∃ r,jZ code=some r∧r=true:=by
  obtain ⟨⟨P,k⟩,hy,hb⟩:=drawRG code;dsimp only at hb;unfold jZ;refine ⟨true,?_,rfl⟩;by_cases h1:(code.length:Int) > 1048576
  · simp [h1]
  · simp only [h1,dF,bF,if_false,hy,implRG P hb,specRG P hb,implInstP P hb,bQ,bT,if_true,oP,oB,oS,id];cases hv:validP P with
    | false =>
      by_cases h0:k < 0
      · simp [h0]
      · have h2:k ≥ 0:=by omega
        simp [h0,h2]
    | true =>
      simp only [if_true];by_cases h0:k < 0
      · simp [h0]
      · by_cases h2:k ≥ ((progI P).length:Int)
        · simp [h0,h2]
        · obtain ⟨m,rfl⟩:∃ m:Nat,k=(m:Int):=⟨k.toNat,by omega⟩;have hm:m < (progI P).length:=by omega
          have hz:=zKk hb hv (gM hm);obtain ⟨d,hd⟩:=hz.st;have h4:=zKx hd;have hro:jV (stI P (progI P)[m])=some (redB (stI P (progI P)[m])):=by
            unfold jV dZ;simp only [implStmt _ 4 hz.bs,h4,implRed _ hd,if_true,oB,oS,oP,id]
          have er:rgF P (m:Int)=if redB (stI P (progI P)[m]) then ((stI P (progI P)[m]).Write.Array,true) else (⟨[]⟩,false):=by
            unfold rgF;rw [if_pos ⟨hv,by omega,by omega⟩,iN,zKl hm]
          simp only [h0,h2,dF,bF,if_false,xL hm,hz.idxP,hz.idxS,hro,oS];rw [er];cases redB (stI P (progI P)[m]) with
          | false=>rfl
          | true=>simp
end Go.LN
