/- Helper of the proof (see the last text). -/
import Derived.Test.YtpacccdphbhfbaaGreatVB1
set_option linter.unusedVariables false
set_option linter.unusedSimpArgs false
namespace Go.LN
def eqL {α:Type} (q:α→α→Bool):List α→List α→Bool
  | [],[]=>true
  | x::a,y::b=>q x y && eqL q a b
  | _,_=>false
theorem zCy {α:Type}{a b:List α} (hl:a.length=b.length) {q:α→α→Bool}{f:Int→Option (Out Unit Bool)} (step:∀ (i:Nat) (h1:i < a.length) (h2:i < b.length),f (i:Int)=if q a[i] b[i] then f ((i + 1:Nat):Int) else some (.ret false)) (fin:f (a.length:Int)=some (.done ())):f 0=some (if eqL q a b then .done () else .ret false):=by
  have key:∀ (j i:Nat),i + j=a.length→f (i:Int)=some (if eqL q (a.drop i) (b.drop i) then .done () else .ret false):=by
    intro j
    induction j with
    | zero =>
      intro i hi;rw [show i=a.length by omega,fin,dN.2 (Nat.le_refl a.length),dN.2 (show b.length ≤ a.length by omega)]; rfl
    | succ j ih =>
      intro i hi;have h1:i < a.length:=by omega
      have h2:i < b.length:=by omega
      rw [step i h1 h2,ih (i + 1) (by omega),gC h1,gC h2,eqL];cases q a[i] b[i] <;> rfl
  have:=key a.length 0 (Nat.zero_add _);rwa [nZ,List.drop_zero,List.drop_zero] at this
theorem zBi {α:Type}{q:α→α→Bool}:∀ {a b:List α},a.length ≠ b.length→eqL q a b=false
  | [],[],h=>absurd rfl h
  | [],_::_,_=>rfl
  | _::_,[],_=>rfl
  | x::a,y::b,h=>by rw [eqL,zBi (by simpa using h),Bool.and_false]
def eqI (a b:List Int):Bool:=eqL (fun x y=>x == y) a b
theorem implEqI (a b:List Int) (h:a.length ≤ 1048576):tK a b=some (eqI a b):=by
  unfold tK eqI;by_cases hl:a.length=b.length
  · have hf:=zCy (q:=fun x y=>x == y) hl (f:=wQ a b) (fun i h1 h2=>by
      rw [wQ];have c:((i:Int) < (a.length:Int)):=by omega
      simp only [c,dT,if_true,wA h1,wA h2,oB,oS,oP];rw [oE (by omega)];by_cases e:a[i]=b[i]
      · simp [e]
      · simp [e]) (by rw [wQ]; simp)
    have e:((a.length:Int) != (b.length:Int))=false:=by simp [hl]
    rw [hf,e];cases eqL (fun x y=>x == y) a b <;> rfl
  · have e:((a.length:Int) != (b.length:Int))=true:=by simp; omega
    rw [e,zBi hl]; rfl
theorem specEqI (a b:List Int) (h:a.length ≤ 1048576):mT a b=some (eqI a b):=by
  unfold mT eqI;by_cases hl:a.length=b.length
  · have hf:=zCy (q:=fun x y=>x == y) hl (f:=rS a b) (fun i h1 h2=>by
      rw [rS];have c:((i:Int) < (a.length:Int)):=by omega
      simp only [c,dT,if_true,wA h1,wA h2,oB,oS,oP];rw [oE (by omega)];by_cases e:a[i]=b[i]
      · simp [e]
      · simp [e]) (by rw [rS]; simp)
    have e:((a.length:Int) != (b.length:Int))=false:=by simp [hl]
    rw [hf,e];cases eqL (fun x y=>x == y) a b <;> rfl
  · have e:((a.length:Int) != (b.length:Int))=true:=by simp; omega
    rw [e,zBi hl]; rfl
def afB (x y:zA):Bool:=eqI x.Coefs y.Coefs && x.Const == y.Const
theorem implAff (x y:zA) (h:x.Coefs.length ≤ 1048576):wJ x y=some (afB x y):=by
  unfold wJ afB;rw [implEqI _ _ h];cases eqI x.Coefs y.Coefs <;> rfl
theorem specAff (x y:zA) (h:x.Coefs.length ≤ 1048576):pL x y=some (afB x y):=by
  unfold pL afB;rw [specEqI _ _ h];cases eqI x.Coefs y.Coefs <;> cases x.Const == y.Const <;> rfl
def acB (a b:zF):Bool:=a.Array.l == b.Array.l && eqL afB a.Subs b.Subs
theorem implAcS (a b:zF) (ha:AV a):wV a b=some (acB a b):=by
  unfold wV acB;cases a.Array.l == b.Array.l with
  | false=>rfl
  | true =>
    have h2:=ha.2.1;unfold yK;by_cases hl:a.Subs.length=b.Subs.length
    · have hf:=zCy (q:=afB) hl (f:=zW a.Subs b.Subs wJ) (fun i h1 h2=>by
        rw [zW];have c:((i:Int) < (a.Subs.length:Int)):=by omega
        have hc:=ha.2.2 _ (gM h1);simp only [c,dT,if_true,wA h1,wA h2,implAff _ _ (show a.Subs[i].Coefs.length ≤ 1048576 by omega),oB,oS,oP];rw [oE (by omega)];cases afB a.Subs[i] b.Subs[i] <;> rfl) (by rw [zW]; simp)
      have e:((a.Subs.length:Int) != (b.Subs.length:Int))=false:=by simp [hl]
      rw [hf,e];cases eqL afB a.Subs b.Subs <;> rfl
    · have e:((a.Subs.length:Int) != (b.Subs.length:Int))=true:=by simp; omega
      rw [e,zBi hl]; rfl
theorem specAcS (a b:zF) (ha:AV a):qG a b=some (acB a b):=by
  unfold qG acB;cases a.Array.l == b.Array.l with
  | false=>rfl
  | true =>
    have h2:=ha.2.1;unfold nL;by_cases hl:a.Subs.length=b.Subs.length
    · have hf:=zCy (q:=afB) hl (f:=tC a.Subs b.Subs) (fun i h1 h2=>by
        rw [tC];have c:((i:Int) < (a.Subs.length:Int)):=by omega
        have hc:=ha.2.2 _ (gM h1);simp only [c,dT,if_true,wA h1,wA h2,specAff _ _ (show a.Subs[i].Coefs.length ≤ 1048576 by omega),oB,oS,oP];rw [oE (by omega)];cases afB a.Subs[i] b.Subs[i] <;> rfl) (by rw [tC]; simp)
      have e:((a.Subs.length:Int) != (b.Subs.length:Int))=false:=by simp [hl]
      rw [hf,e];cases eqL afB a.Subs b.Subs <;> rfl
    · have e:((a.Subs.length:Int) != (b.Subs.length:Int))=true:=by simp; omega
      rw [e,zBi hl]; rfl
def usB (n:Nat) (e:zD) (l:List UInt8):Bool:=(readsF n e).any fun a=>a.Array.l == l
theorem specUs {d:Int}:∀ (n:Nat) (e:zD) (nm:Str),shapeB d n e=true→qY e nm=some (usB n e nm.l)
  | 0,e,nm,h=>by cases h
  | n + 1,e,nm,h=>by
    rw [qY]
    unfold usB
    rw [readsF]
    obtain ⟨h1,h2⟩:=uT h
    by_cases h3:e.Kind=3
    · have e3:(e.Kind == 3)=true:=by simpa using h3
      have hk:=(mA h h3).1
      have hl:xZ e nm 0=some (.done ()):=by rw [xZ]; simp [hk]
      rw [if_pos h3]
      simp only [e3,if_true,same,hl,oB,oS,oP,List.any_cons,List.any_nil,Bool.or_false]
      cases e.Read.Array.l == nm.l <;> rfl
    · have e3:(e.Kind == 3)=false:=by simpa using h3
      rw [if_neg h3]
      simp only [e3,bF,if_false,same,oB,oS,oP]
      rcases h1 with hk | ⟨a,b,hk⟩
      · have hl:xZ e nm 0=some (.done ()):=by rw [xZ]; simp [hk]
        rw [hl,hk]; rfl
      · have ra:=specUs n a nm (h2 a (by rw [hk]; simp))
        have rb:=specUs n b nm (h2 b (by rw [hk]; simp))
        have l0:((0:Int) < (e.Kids.length:Int)):=by rw [hk]; simp
        have l1:((1:Int) < (e.Kids.length:Int)):=by rw [hk]; simp
        have l2:¬((2:Int) < (e.Kids.length:Int)):=by rw [hk]; simp
        have i0:idx e.Kids 0=some a:=by rw [hk]; rfl
        have i1:idx e.Kids 1=some b:=by rw [hk]; rfl
        have w0:W ((0:Int) + 1)=1:=by rw [tT (by omega) (by omega)]; rfl
        have w1:W ((1:Int) + 1)=2:=by rw [tT (by omega) (by omega)]; rfl
        have f2:xZ e nm 2=some (.done ()):=by rw [xZ]; simp only [l2,dF,bF,if_false,oP]
        have f1:xZ e nm 1=some (if usB n b nm.l then .ret true else .done ()):=by
          rw [xZ]
          simp only [l1,dT,if_true,i1,same,rb,w1,f2,oB,oS,oP]
          cases usB n b nm.l <;> rfl
        have f0:xZ e nm 0=some (if usB n a nm.l || usB n b nm.l then .ret true else .done ()):=by
          rw [xZ]
          simp only [l0,dT,if_true,i0,same,ra,w0,f1,oB,oS,oP]
          cases usB n a nm.l <;> rfl
        have eu:(e.Kids.flatMap (readsF n)).any (fun x=>x.Array.l == nm.l)=(usB n a nm.l || usB n b nm.l):=by
          rw [hk]
          unfold usB
          simp
        rw [f0,eu]
        cases usB n a nm.l <;> cases usB n b nm.l <;> rfl
def redB (s:zK):Bool:=match s.Value.Kids with
  | [x,y]=>(s.Value.Kind == 4 || s.Value.Kind == 5) && (x.Kind == 3 && (acB x.Read s.Write && !usB 4 y s.Write.Array.l))
  | _=>false
theorem implRed (s:zK) {d:Int} (hs:stmtB s d=true):nY s=some (redB s):=by
  obtain ⟨s1,s2,s3⟩:=mB hs;unfold nY redB;rcases zAw s2 with hk | ⟨hk,x,y,hxy⟩
  · have h4:(s.Value.Kind != 4)=true:=by simp; omega
    have h5:(s.Value.Kind != 5)=true:=by simp; omega
    have hn:s.Value.Kids=[]:=by
      rcases (uT s2).1 with h | ⟨a,b,h⟩
      · exact h
      · have h0:=s2;simp only [shapeB,bA] at h0;have h1:=eq_of_beq h0.1.1;unfold kidsN at h1;rw [if_pos hk,h] at h1;simp at h1
    rw [hn];simp [h4,h5]
  · have h2:=(uT s2).2;rw [hxy] at h2 ⊢;have sx:=h2 x (by simp);have sy:=h2 y (by simp);have i0:idx [x,y] 0=some x:=rfl;have i1:idx [x,y] 1=some y:=rfl;have hr:=implReads 4 y sy (by omega);have hlen:=mY 4 y sy;have hc:=zEu (f:=fun x0=>qP x0 s) (p:=fun a=>a.Array.l == s.Write.Array.l) (readsF 4 y) (fun a ha=>rfl) (by omega);have hu:(readsF 4 y).any (fun a=>a.Array.l == s.Write.Array.l)=usB 4 y s.Write.Array.l:=rfl;rw [hu] at hc;dsimp only;by_cases k3:x.Kind=3
    · have hx:=AV.of (mA sx k3).2;have e3:(x.Kind != 3)=false:=by simpa using k3
      have e3':(x.Kind == 3)=true:=by simpa using k3
      by_cases k4:s.Value.Kind=4
      · have e4:(s.Value.Kind != 4)=false:=by simpa using k4
        have e4':(s.Value.Kind == 4)=true:=by simpa using k4
        simp only [e4,e4',e3,e3',bF,if_false,i0,i1,implAcS x.Read s.Write hx,hr,hc,oB,oS,oP,Bool.true_or,Bool.true_and];cases acB x.Read s.Write <;> rfl
      · have e4:(s.Value.Kind != 4)=true:=by simpa using k4
        have e4':(s.Value.Kind == 4)=false:=by simpa using k4
        by_cases k5:s.Value.Kind=5
        · have e5:(s.Value.Kind != 5)=false:=by simpa using k5
          have e5':(s.Value.Kind == 5)=true:=by simpa using k5
          simp only [e4,e4',e5,e5',e3,e3',bF,if_false,if_true,i0,i1,implAcS x.Read s.Write hx,hr,hc,oB,oS,oP,Bool.or_true,Bool.true_and];cases acB x.Read s.Write <;> rfl
        · have e5:(s.Value.Kind != 5)=true:=by simpa using k5
          have e5':(s.Value.Kind == 5)=false:=by simpa using k5
          simp only [e4,e4',e5,e5',if_true,oB,oS,oP,Bool.or_self,Bool.false_and]
    · have e3:(x.Kind != 3)=true:=by simpa using k3
      have e3':(x.Kind == 3)=false:=by simpa using k3
      by_cases k4:s.Value.Kind=4
      · have e4:(s.Value.Kind != 4)=false:=by simpa using k4
        simp only [e4,e3,e3',bF,if_false,if_true,i0,oB,oS,oP,Bool.false_and,Bool.and_false]
      · have e4:(s.Value.Kind != 4)=true:=by simpa using k4
        by_cases k5:s.Value.Kind=5
        · have e5:(s.Value.Kind != 5)=false:=by simpa using k5
          simp only [e4,e5,e3,e3',bF,if_false,if_true,i0,oB,oS,oP,Bool.false_and,Bool.and_false]
        · have e5:(s.Value.Kind != 5)=true:=by simpa using k5
          simp only [e4,e5,e3',if_true,oB,oS,oP,Bool.false_and,Bool.and_false]
theorem specRed (s:zK) {d:Int} (hs:stmtB s d=true):kL s=some (redB s):=by
  obtain ⟨s1,s2,s3⟩:=mB hs;unfold kL redB;rcases zAw s2 with hk | ⟨hk,x,y,hxy⟩
  · have h4:(s.Value.Kind != 4)=true:=by simp; omega
    have h5:(s.Value.Kind != 5)=true:=by simp; omega
    have hn:s.Value.Kids=[]:=by
      rcases (uT s2).1 with h | ⟨a,b,h⟩
      · exact h
      · have h0:=s2;simp only [shapeB,bA] at h0;have h1:=eq_of_beq h0.1.1;unfold kidsN at h1;rw [if_pos hk,h] at h1;simp at h1
    rw [hn];simp [h4,h5]
  · have h2:=(uT s2).2;rw [hxy] at h2 ⊢;have sx:=h2 x (by simp);have sy:=h2 y (by simp);have i0:idx [x,y] 0=some x:=rfl;have i1:idx [x,y] 1=some y:=rfl;have hu:=specUs 4 y s.Write.Array sy;dsimp only;have hT:(if (s.Value.Kind != 4)=true then some (s.Value.Kind != 5) else some false)=some (!(s.Value.Kind == 4 || s.Value.Kind == 5)):=by
      unfold bne;cases s.Value.Kind == 4 <;> rfl
    simp only [oP,oB,hT,oS];cases (s.Value.Kind == 4 || s.Value.Kind == 5) with
    | false=>rfl
    | true =>
      simp only [bT,bF,if_false,i0,i1,oS,Bool.true_and];by_cases k3:x.Kind=3
      · have hx:=AV.of (mA sx k3).2;have e3':(x.Kind == 3)=true:=by simpa using k3
        simp only [e3',if_true,specAcS x.Read s.Write hx,hu,oS,Bool.true_and];cases acB x.Read s.Write <;> rfl
      · have e3':(x.Kind == 3)=false:=by simpa using k3
        simp only [e3',bF,if_false,Bool.false_and];rfl
instance zIb (r:zJ):Tot (qX r) (0 ≤ r.p∧r.p ≤ 30000000) (fun φ=>∀ a s,SG 1000 a→r.p ≤ s.p→s.p ≤ r.p + 4000000→φ (a,s)):=⟨by
  rintro ⟨h0,h1⟩ φ hk
  unfold qX
  refine Ok.call (mG r _) ⟨by decide,h0,by omega⟩ fun y s g1 g2=>?_
  have hy:y.l.length ≤ 1000:=by
    revert g1 y
    decide
  refine Ok.cat (by simp; omega) fun t _ ht=>?_
  simp only [List.length_cons,List.length_nil] at ht
  refine Ok.call (eG t) (by omega) fun p b hp=>?_
  refine Ok.bind (φ:=fun o=>r.p ≤ o.2.p∧o.2.p ≤ r.p + 2) ?_ ?_
  · exact Ok.ite (fun _=>Ok.call (nF s 3) ⟨by omega,by omega⟩ fun y u k1 k2 k3=>Ok.pure ⟨by dsimp only; omega,by dsimp only; omega⟩) fun _=>Ok.pure ⟨by dsimp only; omega,by dsimp only; omega⟩
  rintro ⟨z,u⟩ ⟨g3,g4⟩
  dsimp only at g3 g4 ⊢
  refine Ok.ite (fun _=>Ok.pure (hk _ _ hp g3 (by omega))) fun _=>Ok.call (zGG u) ⟨by omega,by omega⟩ fun a v g5 g6 g7=>Ok.pure (hk _ v g5 (by omega) (by omega))⟩
end Go.LN
namespace Go.LN
def mpA (f:zA→zA) (a:zF):zF:=⟨a.Array,a.Subs.map f⟩
theorem zIz {ch:zA→Option zA}{f:zA→zA} (a:zF) (hs:a.Subs.length ≤ 1000) (ha:∀ s ∈ a.Subs,ch s=some (f s)):∀ (j i:Nat) (o:List zA),i + j=a.Subs.length→o.length=i→tO a ch (i:Int) o=some (o ++ (a.Subs.drop i).map f):=by
  intro j
  induction j with
  | zero =>
    intro i o hi ho;rw [tO];have:¬((i:Int) < (a.Subs.length:Int)):=by omega
    simp only [this,dF,bF,if_false,oP,id];rw [dN.2 (by omega),List.map_nil,List.append_nil]
  | succ j ih =>
    intro i o hi ho;rw [tO];have hlt:i < a.Subs.length:=by omega
    have hc:((i:Int) < (a.Subs.length:Int)):=by omega
    rw [gC hlt,List.map_cons];simp only [hc,dT,if_true,wA hlt,ha _ (gM hlt),kQ (show (o.length + [f a.Subs[i]].length) * 32 ≤ 140737488355328 by simp; omega),oB,oS];rw [oE (by omega),ih (i + 1) _ (by omega) (by rw [lA]; simp; omega),List.append_assoc]; rfl
theorem mpAV {d:Int}{ch:zA→Option zA}{f:zA→zA} (hch:∀ a,okA d a=true→ch a=some (f a)) {a:zF} (h:accB a d=true):qO a ch=some (mpA f a):=by
  have hv:=AV.of h;have hs:∀ s ∈ a.Subs,ch s=some (f s):=fun s hs=>by
    simp only [accB,bA,List.all_eq_true] at h;exact hch s (h.2 s hs)
  have h2:=hv.2.1;have hl:=zIz a (by omega) hs _ 0 [] (Nat.zero_add _) rfl;rw [nZ,List.drop_zero,List.nil_append] at hl;unfold qO;simp only [hl,oB,oS,oP];rfl
def mpE (f:zA→zA):Nat→zD→zD
  | 0,e=>e
  | n + 1,e=>.mk e.Kind e.Num (if e.Kind=2 then f e.Index else ⟨[],0⟩) (if e.Kind=3 then mpA f e.Read else ⟨⟨[]⟩,[]⟩) (e.Kids.map (mpE f n))
theorem mpEV {d:Int}{ch:zA→Option zA}{f:zA→zA} (hch:∀ a,okA d a=true→ch a=some (f a)):∀ (n:Nat) (e:zD),shapeB d n e=true→qW e ch=some (mpE f n e)
  | 0,e,h=>by cases h
  | n + 1,e,h=>by
    rw [qW,mpE]
    obtain ⟨h1,h2⟩:=uT h
    have hkl:tQ e ch 0 []=some (e.Kids.map (mpE f n)):=by
      rcases h1 with hk | ⟨a,b,hk⟩
      · rw [tQ]
        simp [hk]
      · have ra:=mpEV hch n a (h2 a (by rw [hk]; simp))
        have rb:=mpEV hch n b (h2 b (by rw [hk]; simp))
        have l0:((0:Int) < (e.Kids.length:Int)):=by rw [hk]; simp
        have l1:((1:Int) < (e.Kids.length:Int)):=by rw [hk]; simp
        have l2:¬((2:Int) < (e.Kids.length:Int)):=by rw [hk]; simp
        have i0:idx e.Kids 0=some a:=by rw [hk]; rfl
        have i1:idx e.Kids 1=some b:=by rw [hk]; rfl
        have w0:W ((0:Int) + 1)=1:=by rw [tT (by omega) (by omega)]; rfl
        have w1:W ((1:Int) + 1)=2:=by rw [tT (by omega) (by omega)]; rfl
        have p0:app 112 ([]:List zD) [mpE f n a]=some [mpE f n a]:=by rw [kQ (by simp)]; rfl
        have p1:app 112 [mpE f n a] [mpE f n b]=some [mpE f n a,mpE f n b]:=by rw [kQ (by simp)]; rfl
        rw [tQ]
        simp only [l0,dT,if_true,oB,oS,i0,same,ra,p0,w0]
        rw [tQ]
        simp only [l1,dT,if_true,oB,oS,i1,same,rb,p1,w1]
        rw [tQ]
        simp only [l2,dF,bF,if_false,oP,id]
        rw [hk]; rfl
    rcases zAw h with hk | ⟨hk,_⟩
    · rcases hk with k | k | k
      · have e2:(e.Kind == 2)=false:=by simp; omega
        have e3:(e.Kind == 3)=false:=by simp; omega
        rw [if_neg (show ¬e.Kind=2 by omega),if_neg (show ¬e.Kind=3 by omega)]
        simp [e2,e3,same,hkl]
      · have e2:(e.Kind == 2)=true:=by simpa using k
        rw [if_pos k,if_neg (show ¬e.Kind=3 by omega)]
        simp [e2,same,hkl,hch _ (zCZ h k)]
      · have e2:(e.Kind == 2)=false:=by simp; omega
        have e3:(e.Kind == 3)=true:=by simpa using k
        rw [if_neg (show ¬e.Kind=2 by omega),if_pos k]
        simp [e2,e3,same,hkl,mpAV hch (mA h k).2]
    · have e2:(e.Kind == 2)=false:=by simp; omega
      have e3:(e.Kind == 3)=false:=by simp; omega
      rw [if_neg (show ¬e.Kind=2 by omega),if_neg (show ¬e.Kind=3 by omega)]
      simp [e2,e3,same,hkl]
def mpS (f:zA→zA) (s:zK):zK:=⟨mpA f s.Write,mpE f 5 s.Value⟩
theorem mpSV {d:Int}{ch:zA→Option zA}{f:zA→zA} (hch:∀ a,okA d a=true→ch a=some (f a)) {s:zK} (h:stmtB s d=true):oO s ch=some (mpS f s):=by
  have hw:accB s.Write d=true:=by simp only [stmtB,bA] at h; exact h.1.2
  unfold oO;simp only [mpAV hch hw,mpEV hch 5 _ (mB h).2.1,oB,oS,oP];rfl
theorem zBj {d:Int} (f:zA→zA):∀ (n:Nat) (e:zD),shapeB d n e=true→readsF n (mpE f n e)=(readsF n e).map (mpA f)
  | 0,e,h=>by cases h
  | n + 1,e,h=>by
    have k1:(mpE f (n + 1) e).Kind=e.Kind:=rfl
    have k4:(mpE f (n + 1) e).Read=if e.Kind=3 then mpA f e.Read else ⟨⟨[]⟩,[]⟩:=rfl
    have k5:(mpE f (n + 1) e).Kids=e.Kids.map (mpE f n):=rfl
    obtain ⟨h1,h2⟩:=uT h
    rw [readsF,readsF,k1,k4,k5]
    by_cases h3:e.Kind=3
    · rw [if_pos h3,if_pos h3,if_pos h3]; rfl
    · rw [if_neg h3,if_neg h3]
      rcases h1 with h0 | ⟨a,b,h0⟩
      · rw [h0]; rfl
      · have ea:=zBj f n a (h2 a (by rw [h0]; simp))
        have eb:=zBj f n b (h2 b (by rw [h0]; simp))
        rw [h0]
        simp [ea,eb]
theorem zJA {d d2:Int}{f:zA→zA} (hf:∀ a,okA d a=true→okA d2 (f a)=true) {a:zF} (h:accB a d=true):accB (mpA f a) d2=true:=by
  simp only [accB,bA,List.all_eq_true] at h ⊢;refine ⟨?_,fun x hx=>?_⟩
  · show nameL a.Array.l=true∧decide (1 ≤ (a.Subs.map f).length)=true∧decide ((a.Subs.map f).length ≤ 2)=true;rw [lM]; exact h.1
  · obtain ⟨y,hy,rfl⟩:=List.mem_map.1 hx;exact hf y (h.2 y hy)
theorem zFg {d d2:Int}{f:zA→zA} (hf:∀ a,okA d a=true→okA d2 (f a)=true):∀ (n:Nat) (e:zD),shapeB d n e=true→shapeB d2 n (mpE f n e)=true
  | 0,e,h=>by cases h
  | n + 1,e,h=>by
    have k1:(mpE f (n + 1) e).Kind=e.Kind:=rfl
    have k2:(mpE f (n + 1) e).Num=e.Num:=rfl
    have k3:(mpE f (n + 1) e).Index=if e.Kind=2 then f e.Index else ⟨[],0⟩:=rfl
    have k4:(mpE f (n + 1) e).Read=if e.Kind=3 then mpA f e.Read else ⟨⟨[]⟩,[]⟩:=rfl
    have k5:(mpE f (n + 1) e).Kids=e.Kids.map (mpE f n):=rfl
    have hk:=(uT h).2
    simp only [shapeB,bA] at h ⊢
    rw [k1,k5,lM]
    refine ⟨⟨h.1.1,?_⟩,?_⟩
    · have ho:=h.1.2
      have na:noA ⟨[],0⟩=true:=rfl
      have nc:noC ⟨⟨[]⟩,[]⟩=true:=rfl
      unfold ownB at ho ⊢
      rw [k1,k2,k3,k4]
      by_cases h2:e.Kind=2
      · rw [if_pos h2] at ho ⊢
        simp only [h2,show ¬(2:Int)=3 by decide,if_true,if_false,nc,Bool.and_true,bA] at ho ⊢
        exact ⟨ho.1.1,hf _ ho.2⟩
      · rw [if_neg h2] at ho ⊢
        by_cases h3:e.Kind=3
        · rw [if_pos h3] at ho ⊢
          simp only [h3,show ¬(3:Int)=2 by decide,if_true,if_false,na,Bool.and_true,bA] at ho ⊢
          exact ⟨ho.1.1,zJA hf ho.2⟩
        · rw [if_neg h3] at ho ⊢
          rw [if_neg h2,if_neg h3]
          by_cases h4:e.Kind=1
          · rw [if_pos h4] at ho ⊢
            simp only [na,nc,Bool.and_true,bA] at ho ⊢
            exact ho.1.1
          · rw [if_neg h4] at ho ⊢
            simp only [na,nc,Bool.and_true,bA] at ho ⊢
            exact ho.1.1
    · rw [List.all_eq_true]
      intro z hz
      obtain ⟨y,hy,rfl⟩:=List.mem_map.1 hz
      exact zFg hf n y (hk y hy)
theorem zJB {d:Int}{f:zA→zA} (hf:∀ a,okA d a=true→BA (f a)):∀ (n:Nat) (e:zD),shapeB d (n + 1) e=true→BE n (mpE f (n + 1) e):=by
  have own:∀ (n:Nat) (e:zD),shapeB d (n + 1) e=true→BA (mpE f (n + 1) e).Index∧BL (mpE f (n + 1) e).Read.Subs:=fun n e h=>by
    constructor
    · show BA (if e.Kind=2 then f e.Index else ⟨[],0⟩);by_cases k:e.Kind=2
      · rw [if_pos k]; exact hf _ (zCZ h k)
      · rw [if_neg k]; show (0:Nat) ≤ 1000; omega
    · show BL (if e.Kind=3 then mpA f e.Read else ⟨⟨[]⟩,[]⟩:zF).Subs;by_cases k:e.Kind=3
      · rw [if_pos k];have ha:=(mA h k).2;have hv:=AV.of ha;refine ⟨by show (e.Read.Subs.map f).length ≤ 1000; rw [lM]; have:=hv.2.1; omega,fun x hx=>?_⟩;obtain ⟨y,hy,rfl⟩:=List.mem_map.1 hx;simp only [accB,bA,List.all_eq_true] at ha;exact hf y (ha.2 y hy)
      · rw [if_neg k]; exact ⟨by show (0:Nat) ≤ 1000; omega,fun x hx=>by cases hx⟩
  intro n
  induction n with
  | zero =>
    intro e h;obtain ⟨h1,h2⟩:=uT h;refine ⟨(own 0 e h).1,(own 0 e h).2,?_⟩;rcases h1 with h0 | ⟨a,b,h0⟩
    · show e.Kids.map (mpE f 0)=[];rw [h0]; rfl
    · exact absurd (h2 a (by rw [h0]; simp)) (by simp [shapeB])
  | succ n ih =>
    intro e h;obtain ⟨h1,h2⟩:=uT h;refine ⟨(own _ e h).1,(own _ e h).2,?_,fun k hk=>?_⟩
    · show (e.Kids.map (mpE f (n + 1))).length ≤ 1000;rcases h1 with h0 | ⟨a,b,h0⟩ <;> rw [h0] <;> simp
    · obtain ⟨y,hy,rfl⟩:=List.mem_map.1 hk;exact ih y (h2 y hy)
theorem zJC {d:Int}{f:zA→zA} (hf:∀ a,okA d a=true→BA (f a)) {s:zK} (h:stmtB s d=true):BS (mpS f s):=by
  have hw:accB s.Write d=true:=by simp only [stmtB,bA] at h; exact h.1.2
  have hv:=AV.of hw;refine ⟨⟨by show (s.Write.Subs.map f).length ≤ 1000; rw [lM]; have:=hv.2.1; omega,fun x hx=>?_⟩,4,zJB hf 4 _ (mB h).2.1⟩;obtain ⟨y,hy,rfl⟩:=List.mem_map.1 hx;simp only [accB,bA,List.all_eq_true] at hw;exact hf y (hw.2 y hy)
theorem zGK {α:Type}{q:α→α→Bool} (hq:∀ x y,q x y=true→x=y):∀ {a b:List α},eqL q a b=true→a=b
  | [],[],_=>rfl
  | [],_::_,h=>by cases h
  | _::_,[],h=>by cases h
  | x::a,y::b,h=>by
    rw [eqL,bA] at h
    rw [hq _ _ h.1,zGK hq h.2]
theorem zDq {α:Type}{q:α→α→Bool} (hq:∀ x,q x x=true):∀ a:List α,eqL q a a=true
  | []=>rfl
  | x::a=>by rw [eqL,hq,zDq hq a]; rfl
theorem zJD {a b:List Int} (h:eqI a b=true):a=b:=zGK (fun x y h=>by simpa using h) h
theorem zHc (a:List Int):eqI a a=true:=zDq (fun x=>by simp) a
theorem zJE {x y:zA} (h:afB x y=true):x=y:=by
  unfold afB at h;rw [bA,beq_iff_eq] at h;obtain ⟨a,b⟩:=x;obtain ⟨c,e⟩:=y;obtain ⟨h1,h2⟩:=h;have h1:=zJD h1;dsimp only at h1 h2;rw [h1,h2]
theorem zHd (x:zA):afB x x=true:=by unfold afB; rw [zHc,bQ]; rfl
theorem zJF {a b:zF} (h:acB a b=true):a.Array.l=b.Array.l∧a.Subs=b.Subs:=by
  unfold acB at h;rw [bA,beq_iff_eq] at h;exact ⟨h.1,zGK (fun x y h=>zJE h) h.2⟩
theorem zJG {a b:zF} (h:a.Array.l=b.Array.l) (h2:a.Subs=b.Subs):acB a b=true:=by
  unfold acB;rw [h,h2,bQ,zDq zHd]; rfl
theorem zJW {d:Int} (f:zA→zA) {n:Nat}{e:zD} (h:shapeB d n e=true) (l:List UInt8):usB n (mpE f n e) l=usB n e l:=by
  unfold usB;rw [zBj f n e h,List.any_map];rfl
theorem zJH {d:Int} (f:zA→zA) {s:zK} (h:stmtB s d=true) (hr:redB s=true):redB (mpS f s)=true:=by
  have hs:=(mB h).2.1;obtain ⟨h1,h2⟩:=uT hs;rcases h1 with h0 | ⟨x,y,h0⟩
  · unfold redB at hr; rw [h0] at hr; cases hr
  · have sx:=h2 x (by rw [h0]; simp);have sy:=h2 y (by rw [h0]; simp);unfold redB at hr;rw [h0] at hr;simp only [bA] at hr;obtain ⟨r1,r2,r3,r4⟩:=hr;have k3:x.Kind=3:=eq_of_beq r2;obtain ⟨a1,a2⟩:=zJF r3;have e:(mpS f s).Value.Kids=[mpE f 4 x,mpE f 4 y]:=by
      show s.Value.Kids.map (mpE f 4)=_;rw [h0]; rfl
    unfold redB;rw [e];have kx:(mpE f 4 x).Kind=x.Kind:=rfl;have rx:(mpE f 4 x).Read=mpA f x.Read:=by
      show (if x.Kind=3 then mpA f x.Read else ⟨⟨[]⟩,[]⟩)=_;rw [if_pos k3]
    have ks:(mpS f s).Value.Kind=s.Value.Kind:=rfl;have wa:(mpS f s).Write.Array.l=s.Write.Array.l:=rfl;simp only [kx,rx,ks,wa,zJW f sy,r1,r2,r4,Bool.true_and,Bool.and_true];exact zJG a1 (by show x.Read.Subs.map f=s.Write.Subs.map f; rw [a2])
end Go.LN
namespace Go.LN
def N61 (s:Str):Prop:=∀ c ∈ s.l,c ≠ 61
instance (s:Str):Decidable (N61 s):=inferInstanceAs (Decidable (∀ c ∈ s.l,c ≠ 61))
theorem N61.nil:N61 ⟨[]⟩:=by decide
theorem zHe {a b s:Str} (h:cat a b=some s):s.l=a.l ++ b.l:=by
  unfold cat at h;split at h
  · cases h; rfl
  · cases h
theorem N61.cat {a b s:Str} (h:cat a b=some s) (ha:N61 a) (hb:N61 b):N61 s:=fun c hc=>by
  rw [zHe h,List.mem_append] at hc;exact hc.elim (ha c) (hb c)
theorem dig61 {m:Int} (h:0 ≤ m∧m ≤ 9):N61 ⟨[u8 (W (48 + m))]⟩:=by
  have hm:m=0∨m=1∨m=2∨m=3∨m=4∨m=5∨m=6∨m=7∨m=8∨m=9:=by omega
  intro c hc;have e:c=u8 (W (48 + m)):=by simpa using hc
  subst e;rw [tT (by omega) (by omega)];rcases hm with rfl | rfl | rfl | rfl | rfl | rfl | rfl | rfl | rfl | rfl <;> decide
theorem zIV:∀ (n:Int) (o:Str) (r:Int×Str),tH n o=some r→0 ≤ n→n ≤ 9223372036854775807→N61 o→(0 ≤ r.1∧r.1 ≤ 9)∧N61 r.2:=by
  refine tH.partial_correctness _ ?_;intro f ih n o r h h0 h1 ho;by_cases c:n > 9
  · simp only [c,dT,if_true] at h;obtain ⟨s,g1,g2⟩:=zC h;have ht:0 ≤ n.tdiv 10∧n.tdiv 10 ≤ n:=by rw [Int.tdiv_eq_ediv_of_nonneg h0]; omega
    have hm:0 ≤ n.tmod 10∧n.tmod 10 ≤ 9:=by rw [Int.tmod_eq_emod_of_nonneg h0]; omega
    rw [tT (by omega) (by omega)] at g2;exact ih _ _ _ g2 ht.1 (by omega) (N61.cat g1 (dig61 hm) ho)
  · simp only [c,dF,bF,if_false] at h;obtain rfl:=zB h;exact ⟨⟨h0,by dsimp only; omega⟩,ho⟩
theorem dec61 {n:Int}{r:Str} (h:uM n=some r) (h0:0 ≤ n) (h1:n ≤ 1000000):N61 r:=by
  unfold uM at h;have c1:¬n < -9223372036854775807:=by omega
  have c2:¬n < 0:=by omega
  simp only [c1,c2,dF,bF,if_false] at h;obtain ⟨⟨m,o⟩,g1,g2⟩:=zC h;obtain ⟨s,g3,g4⟩:=zC g2;obtain rfl:=zB g4;obtain ⟨k1,k2⟩:=zIV _ _ _ g1 h0 (by omega) N61.nil;exact N61.cat g3 (dig61 k1) k2
theorem zGL {α:Type}{l:List α}{i:Int}{x:α} (h:idx l i=some x):x ∈ l:=by
  unfold idx at h;split at h
  · exact List.mem_of_getElem? h
  · cases h
theorem zIW (p:zO) (i:Int) (hd:∀ a ∈ p.Arrays,∀ d ∈ a.Dims,dimB d=true):∀ (o:Str) (k:Int) (r:Str),xX p i o k=some r→N61 o→N61 r:=by
  refine xX.partial_correctness p i _ ?_;intro f ih o k r h ho;obtain ⟨x,g1,h⟩:=zC h;by_cases c:k < (x.Dims.length:Int)
  · simp only [c,dT,if_true] at h;obtain ⟨s2,g2,h⟩:=zC h;obtain ⟨x2,g3,h⟩:=zC h;obtain ⟨x3,g4,h⟩:=zC h;obtain ⟨y1,g5,h⟩:=zC h;obtain ⟨s3,g6,h⟩:=zC h;have hb:=hd x2 (zGL g3) x3 (zGL g4);unfold dimB at hb;simp only [bA,decide_eq_true_eq] at hb;exact ih _ _ _ h (N61.cat g6 (N61.cat g2 ho (by decide)) (dec61 g5 (by omega) (by omega)))
  · simp only [c,dF,bF,if_false] at h;obtain rfl:=zB h;exact ho
theorem zIX (p:zO) (hd:∀ a ∈ p.Arrays,∀ d ∈ a.Dims,dimB d=true) (hn:∀ a ∈ p.Arrays,N61 a.Name):∀ (o:Str) (i:Int) (r:Str),xY p o i=some r→N61 o→N61 r:=by
  refine xY.partial_correctness p _ ?_;intro f ih o i r h ho;by_cases c:i < (p.Arrays.length:Int)
  · simp only [c,dT,if_true] at h;obtain ⟨s,g1,h⟩:=zC h;obtain ⟨x,g2,h⟩:=zC h;obtain ⟨s1,g3,h⟩:=zC h;obtain ⟨s2,g4,h⟩:=zC h;obtain ⟨s3,g5,h⟩:=zC h;have k1:=N61.cat g3 (N61.cat g1 ho (by decide)) (hn x (zGL g2));exact ih _ _ _ h (N61.cat g5 (zIW p i hd _ _ _ g4 k1) (by decide))
  · simp only [c,dF,bF,if_false] at h;obtain rfl:=zB h;exact ho
theorem zHf {l:List zN} (h:arrB l=true) {a:zN} (ha:a ∈ l):nameL a.Name.l=true∧∀ d ∈ a.Dims,dimB d=true:=by
  obtain ⟨i,hi,rfl⟩:=List.mem_iff_getElem.1 ha;unfold arrB at h;rw [bA] at h;have h2:=List.all_eq_true.1 h.2 i (List.mem_range.2 hi);have e:l.getD i ⟨⟨[]⟩,[]⟩=l[i]:=by simp [hi]
  unfold arrI at h2;rw [e] at h2;simp only [bA] at h2;exact ⟨h2.1.1.1,List.all_eq_true.1 h2.2⟩
theorem name61 {s:Str} (h:nameL s.l=true):N61 s:=by
  intro c hc;unfold nameL at h;split at h
  · rename_i c2 e;rw [e] at hc;have e2:c=c2:=by simpa using hc
    subst e2;simp only [bA,decide_eq_true_eq] at h;rintro rfl;exact absurd h.1 (by decide)
  · cases h
theorem zHg {P:zO} (hb:BG P) {z:Str} (h:tB P=some z) (hz:¬N61 z):validP P=true∧P.Parts ≠ []:=by
  unfold tB at h;rw [specValidP P hb] at h;obtain ⟨y,g1,h⟩:=zC h;cases g1
  cases hv:validP P with
  | false =>
    rw [hv] at h;obtain rfl:=zB h;exact absurd N61.nil hz
  | true =>
    rw [hv] at h;refine ⟨rfl,fun e=>hz ?_⟩;simp only [bT,bF,if_false] at h;obtain ⟨o1,g2,h⟩:=zC h;obtain ⟨o2,g3,h⟩:=zC h;obtain rfl:=zB h;have ha:=(zFf hv).1;have k1:=zIX P (fun a h=>(zHf ha h).2) (fun a h=>name61 (zHf ha h).1) _ _ _ g2 (by decide);rw [wO] at g3;have c:¬((0:Int) < (P.Parts.length:Int)):=by rw [e]; simp
    simp only [c,dF,bF,if_false] at g3;obtain rfl:=zB g3;exact k1
def NEP (P:zO):Prop:=P.Parts ≠ []∧∀ x ∈ P.Parts,x.Body ≠ []
theorem zGs {P:zO} (hv:validP P=true) (h:P.Parts ≠ []):NEP P:=by
  refine ⟨h,fun x hx e=>?_⟩;obtain ⟨i,hi,rfl⟩:=List.mem_iff_getElem.1 hx;have hp:=zGJ hv hi;simp only [partB,bodyB,bA,decide_eq_true_eq] at hp;have:=hp.1.2.1.1;rw [e] at this;simp at this
theorem zEb (t:Str) (h0:t.l.length ≤ 1000000) (h61:¬N61 t):Ok (uR t) (fun o=>SG 1000 o.1∧(o.2=true→NEP o.1)):=by
  unfold uR;refine Ok.call (zAt t _) h0 fun y g1 g2=>Ok.ite_dec (fun _=>Ok.pure ⟨SG.nil,fun h=>by cases h⟩) fun hy=>?_;refine Ok.bind (φ:=fun p=>SG 1000 p) (jW y (by omega) (up g2 h0) (y.length + 2) 0 _ 1 ⟨by omega,by omega,by omega,by omega,by omega⟩ ⟨⟨by simp,by simp⟩,by simp,by simp⟩ _ fun _ h=>h) fun p hp=>?_;obtain ⟨z,hz,_⟩:=(zBf p).ok hp _ (fun r (h:r.l.length ≤ 1000000000)=>h);rw [hz];by_cases e:z.l=t.l
  · have ez:z=t:=by cases z; cases t; simp only [Str.mk.injEq]; exact e
    have hq:=zHg hp.dp.bg hz (by rw [ez]; exact h61);have hn:∀ b:Bool,Ok (if b=true then (Pure.pure (zO.mk [] [],false):Option (zO×Bool)) else Pure.pure (p,true)) (fun o=>SG 1000 o.1∧(o.2=true→NEP o.1)):=fun b =>
      Ok.ite (fun _=>Ok.pure ⟨SG.nil,fun h=>by cases h⟩) fun _=>Ok.pure ⟨hp,fun _=>zGs hq.1 hq.2⟩
    exact Ok.bind (φ:=fun _=>True) Ok.go fun b _=>hn b
  · have hn:∀ b:Bool,b=true→Ok (if b=true then (Pure.pure (zO.mk [] [],false):Option (zO×Bool)) else Pure.pure (p,true)) (fun o=>SG 1000 o.1∧(o.2=true→NEP o.1)):=fun b hb =>
      Ok.ite (fun _=>Ok.pure ⟨SG.nil,fun h=>by cases h⟩) fun h=>absurd hb h
    refine Ok.bind (φ:=fun b=>b=true) ?_ fun b hb=>hn b hb;have e2:(z.l == t.l)=false:=by simpa using e
    refine Ok.ite (fun _=>Ok.pure rfl) fun _=>?_;exact ⟨true,by simp only [oB,oS,e2]; rfl,rfl⟩
theorem zIY {l:List zN}{x:zS}{n:Int} (h:tW l x=some (n,true)):x.Body ≠ []:=by
  intro e;unfold tW at h;obtain ⟨⟨y1,y2⟩,g1,h⟩:=zC h;have c:((x.Body.length:Int) < 1):=by rw [e]; simp
  have hb:(if (!y2)=true then (some true:Option Bool) else some true)=some true:=by cases y2 <;> rfl
  simp only [c,dT,if_true,oP,oB,hb,oS] at h;cases h
theorem zHh (x:zS):∀ (k:Nat) (i:Int) (r:zJ),4 - i < (k:Int)∧0 < (k:Int)∧0 ≤ i∧i ≤ 4∧0 ≤ r.p∧r.p + 100000 * (4 - i) ≤ 300000000→∀ φ:Out (zS×zJ) (zS×zJ)→Prop,(∀ s,r.p ≤ s.p→s.p ≤ r.p + 100000 * (4 - i)→φ (.done (x,s)))→(∀ a s,SP 1000 a→a.Body ≠ []→r.p ≤ s.p→s.p ≤ r.p + 100000 * (4 - i)→φ (.ret (a,s)))→Ok (uN x i r) φ:=by
  intro k
  induction k with
  | zero=>intro i r h; exact absurd h.2.1 (by omega)
  | succ k ih =>
    intro i r;rintro ⟨v0,v1,v2,v3,v4,v5⟩ φ hd hr;unfold uN;refine Ok.ite_dec (fun h=>?_) fun _=>Ok.pure (hd r (Int.le_refl _) (by omega));refine Ok.call (zDk r) ⟨v4,by omega⟩ fun y s g1 g2 g3 g4=>?_;refine Ok.call (vX s _) ⟨by decide,by omega,by omega,by decide⟩ fun n t g5 _ e3=>?_;simp only [List.mem_cons,List.not_mem_nil,or_false] at g5;refine Ok.call (zA5 y n [] t) ⟨g1,g2,by omega,by simp; omega,fun _ h=>absurd h List.not_mem_nil,by omega,by omega⟩ fun b u g6 g7 g8 g9=>Ok.call mX trivial fun l hl=>?_;have hs:SP 1000 (zS.mk y b):=⟨g1,Nat.le_trans g6 (by decide),g7⟩;obtain ⟨⟨m,c⟩,hp,_⟩:=(zAs l (zS.mk y b)).ok ⟨hl,hs⟩ (fun _=>True) (fun m c _=>trivial);refine Ok.bind (φ:=fun o=>o=(m,c)) ⟨_,hp,rfl⟩ fun o ho=>?_;subst ho;dsimp only;have hrec:Ok (uN x (W (i + 1)) u) φ:=by
      rw [tT (by omega) (by omega)];exact ih _ u ⟨by omega,by omega,by omega,by omega,by omega,by omega⟩ φ (fun s h1 h2=>hd s (by omega) (by omega)) fun a s h0 hb h1 h2=>hr a s h0 hb (by omega) (by omega)
    cases c with
    | false=>exact Ok.bind (φ:=fun z=>z=false) (Ok.pure rfl) fun z hz=>Ok.ite (fun h=>absurd h (by rw [hz]; simp)) fun _=>hrec
    | true=>exact Ok.bind (φ:=fun _=>True) Ok.go fun z _=>Ok.ite (fun _=>Ok.pure (hr _ _ hs (zIY hp) (by omega) (by omega))) fun _=>hrec
theorem zIZ (r:zJ) (h0:0 ≤ r.p) (h1:r.p ≤ 200000000):Ok (pV r) (fun o=>SP 1000 o.1∧o.1.Body ≠ []∧r.p ≤ o.2.p∧o.2.p ≤ r.p + 400000):=by
  unfold pV;refine Ok.bind (zHh _ 5 0 r ⟨by omega,by omega,by omega,by omega,by omega,by omega⟩ (fun o=>match o with | .done y=>r.p ≤ y.2.p∧y.2.p ≤ r.p + 400000 | .ret y=>SP 1000 y.1∧y.1.Body ≠ []∧r.p ≤ y.2.p∧y.2.p ≤ r.p + 400000) (fun s g1 g2=>⟨g1,by dsimp only; omega⟩) fun a s g1 gb g2 g3=>⟨g1,gb,g2,by dsimp only; omega⟩) fun o ho=>?_;cases o with
  | ret y=>exact Ok.pure ho
  | done y =>
    obtain ⟨x,s⟩:=y;exact Ok.call (fM _) (by decide) fun a b g3=>Ok.call (zCW _) trivial fun n c g4=>Ok.pure ⟨SP.one g4 g3,by simp,ho.1,ho.2⟩
theorem zHi:∀ (k:Nat) (i:Int) (o:List zS) (r:zJ),i < (k:Int)∧0 < (k:Int)∧0 ≤ i∧(o.length:Int) + i ≤ 10∧(∀ x ∈ o,SP 1000 x∧x.Body ≠ [])∧0 ≤ r.p∧r.p + 400000 * i ≤ 100000000→Ok (tI i o r) (fun y=>(y.1.length:Int)=o.length + i∧(∀ x ∈ y.1,SP 1000 x∧x.Body ≠ [])∧r.p ≤ y.2.p∧y.2.p ≤ r.p + 400000 * i):=by
  intro k
  induction k with
  | zero=>intro i o r h; exact absurd h.2.1 (by omega)
  | succ k ih =>
    intro i o r;rintro ⟨v0,v1,v2,v3,v4,v5,v6⟩;unfold tI;refine Ok.ite_dec (fun h=>?_) fun h=>Ok.pure ⟨by dsimp only; omega,v4,by dsimp only; omega,by dsimp only; omega⟩;refine Ok.bind (zIZ r v5 (by omega)) fun y hy=>?_;obtain ⟨x,u⟩:=y;obtain ⟨g1,g2,g3,g4⟩:=hy;dsimp only at g1 g2 g3 g4;refine Ok.app (by simp; omega) ?_;rw [tT (by omega) (by omega)];refine (ih (i - 1) (o ++ [x]) u ⟨by omega,by omega,by omega,by simp; omega,fun z hz=>?_,by omega,by omega⟩).mono fun y hy=>?_
    · rcases List.mem_append.1 hz with hz | hz
      · exact v4 z hz
      · rw [List.mem_singleton.1 hz]; exact ⟨g1,g2⟩
    · obtain ⟨k1,k2,k3,k4⟩:=hy;refine ⟨by rw [k1,lA]; simp; omega,k2,by omega,by omega⟩
theorem zHj (r:zJ) (h0:0 ≤ r.p) (h1:r.p ≤ 50000000):Ok (pW r) (fun o=>(SG 1000 o.1∧NEP o.1)∧r.p ≤ o.2.p∧o.2.p ≤ r.p + 2000000):=by
  unfold pW;refine Ok.call mX trivial fun l hl=>Ok.call (vX r _) ⟨by decide,h0,by omega,by decide⟩ fun n t g5 _ e3=>?_;simp only [List.mem_cons,List.not_mem_nil,or_false] at g5;refine Ok.bind (zHi 10 n [] t ⟨by omega,by omega,by omega,by simp; omega,fun _ h=>absurd h List.not_mem_nil,by omega,by omega⟩) fun y hy=>?_;obtain ⟨a,s⟩:=y;obtain ⟨g1,g2,g3,g4⟩:=hy;dsimp only at g1 g2 g3 g4;simp only [List.length_nil] at g1;have hp:SG 1000 (zO.mk l a):=⟨hl,by dsimp only; omega,fun x hx=>(g2 x hx).1⟩;have hne:NEP (zO.mk l a):=⟨by intro e; have e:a=[]:=e; rw [e] at g1; simp at g1; omega,fun x hx=>(g2 x hx).2⟩;dsimp only;refine Ok.call (kX _) hp fun b _=>Ok.ite (fun _=>Ok.pure ⟨⟨hp,hne⟩,by dsimp only; omega,by dsimp only; omega⟩) fun _=>Ok.call mX trivial fun l2 hl2=>?_;refine Ok.slc (by omega) (by omega) (by omega) fun m hm hml=>Ok.pure ⟨⟨⟨hl2,by dsimp only; omega,fun x hx=>(g2 x ?_).1⟩,by intro e; have e:m=[]:=e; rw [e] at hml; simp at hml,fun x hx=>(g2 x ?_).2⟩,by dsimp only; omega,by dsimp only; omega⟩
  · subst hm;exact List.mem_of_mem_take (List.mem_of_mem_drop hx)
  · subst hm;exact List.mem_of_mem_take (List.mem_of_mem_drop hx)
theorem zG6 {a t:Str}{y:Str} (ht:t.l=a.l ++ y.l) (h:¬N61 y):¬N61 t:=fun hn=>h fun c hc=>hn c (by rw [ht]; exact List.mem_append_right _ hc)
theorem zHk (r:zJ) (h0:0 ≤ r.p) (h1:r.p ≤ 40000000):Ok (oC r) (fun o=>(SG 1000 o.1∧NEP o.1)∧r.p ≤ o.2.p∧o.2.p ≤ r.p + 3000000):=by
  unfold oC;refine Ok.call (mG r _) ⟨by decide,h0,by omega⟩ fun y s g1 g2=>?_;have hy:y.l.length ≤ 1000∧¬N61 y:=by
    revert g1 y;decide
  refine Ok.cat (by simp; omega) fun t ht2 ht=>?_;simp only [List.length_cons,List.length_nil] at ht;refine Ok.bind (zEb t (by omega) (zG6 ht2 hy.2)) fun o ho=>?_;obtain ⟨p,b⟩:=o;obtain ⟨hp,hq⟩:=ho;dsimp only at hp hq ⊢;refine Ok.bind (φ:=fun o=>(o.1=true→b=true)∧r.p ≤ o.2.p∧o.2.p ≤ r.p + 2) ?_ ?_
  · exact Ok.ite (fun h=>Ok.call (nF s 3) ⟨by omega,by omega⟩ fun y u k1 k2 k3=>Ok.pure ⟨fun _=>h,by dsimp only; omega,by dsimp only; omega⟩) fun h=>Ok.pure ⟨(fun h=>by cases h),by dsimp only; omega,by dsimp only; omega⟩
  rintro ⟨z,u⟩ ⟨gz,g3,g4⟩;dsimp only at gz g3 g4 ⊢;exact Ok.ite (fun h=>Ok.pure ⟨⟨hp,hq (gz h)⟩,g3,by dsimp only; omega⟩) fun _=>Ok.bind (zHj u (by omega) (by omega)) fun a ha=>Ok.pure ⟨ha.1,by have:=ha.2.1; dsimp only; omega,by have:=ha.2.2; dsimp only; omega⟩
theorem zGt (r:zJ) (h0:0 ≤ r.p) (h1:r.p ≤ 30000000):Ok (qX r) (fun o=>(SG 1000 o.1∧NEP o.1)∧r.p ≤ o.2.p∧o.2.p ≤ r.p + 4000000):=by
  unfold qX;refine Ok.call (mG r _) ⟨by decide,h0,by omega⟩ fun y s g1 g2=>?_;have hy:y.l.length ≤ 1000∧¬N61 y:=by
    revert g1 y;decide
  refine Ok.cat (by simp; omega) fun t ht2 ht=>?_;simp only [List.length_cons,List.length_nil] at ht;refine Ok.bind (zEb t (by omega) (zG6 ht2 hy.2)) fun o ho=>?_;obtain ⟨p,b⟩:=o;obtain ⟨hp,hq⟩:=ho;dsimp only at hp hq ⊢;refine Ok.bind (φ:=fun o=>(o.1=true→b=true)∧r.p ≤ o.2.p∧o.2.p ≤ r.p + 2) ?_ ?_
  · exact Ok.ite (fun h=>Ok.call (nF s 3) ⟨by omega,by omega⟩ fun y u k1 k2 k3=>Ok.pure ⟨fun _=>h,by dsimp only; omega,by dsimp only; omega⟩) fun h=>Ok.pure ⟨(fun h=>by cases h),by dsimp only; omega,by dsimp only; omega⟩
  rintro ⟨z,u⟩ ⟨gz,g3,g4⟩;dsimp only at gz g3 g4 ⊢;exact Ok.ite (fun h=>Ok.pure ⟨⟨hp,hq (gz h)⟩,g3,by dsimp only; omega⟩) fun _=>Ok.bind (zHk u (by omega) (by omega)) fun a ha=>Ok.pure ⟨ha.1,by have:=ha.2.1; dsimp only; omega,by have:=ha.2.2; dsimp only; omega⟩
theorem drawRO (code:List UInt8):Ok (sW code) (fun s=>BS s):=by
  unfold sW;refine Ok.call (zF3 code) trivial fun s hs=>Ok.bind (zGt s (by omega) (by omega)) fun o ho=>?_;obtain ⟨P,t⟩:=o;obtain ⟨⟨hp,hn⟩,g1,g2⟩:=ho;dsimp only at hp hn g1 g2 ⊢;have hd:=hp.dp;have l1:0 < P.Parts.length:=List.length_pos_iff.2 hn.1;refine Ok.call (nF t _) ⟨by omega,by omega⟩ fun y u k1 k2 k3=>Ok.idx k1 (by omega) fun x hx _=>?_;have l2:0 < x.Body.length:=List.length_pos_iff.2 (hn.2 x hx);refine Ok.call (nF u _) ⟨by omega,by omega⟩ fun y2 u2 k4 k5 k6=>Ok.idx k4 (by omega) fun x1 hx1 _=>?_;have hq:=(hd.2.2 x hx).2.2 x1 hx1;exact Ok.bind (mut3 100 (by omega) u2 x1 hq (by omega) (by omega)) fun y hy=>Ok.pure (hy.1.bs (by omega))
end Go.LN
namespace Go.LN
theorem redO (s:zK) (hb:BS s):rR s=some (stmtB s 4 && redB s):=by
  unfold rR rY;simp only [implStmt s 4 hb,oB,oS,oP,id];cases h:stmtB s 4 with
  | false=>rfl
  | true=>simp only [implRed s h,if_true,oS,Bool.true_and]
theorem redOS (s:zK) (hb:BS s):rU s=some (stmtB s 4 && redB s):=by
  unfold rU;simp only [specStmt s 4 hb,oB,oS,oP,id];cases h:stmtB s 4 with
  | false=>rfl
  | true=>simp only [specRed s h,if_true,oS,Bool.true_and]
theorem zJI (k:Int) (b:zA) (hb:b.Coefs.length ≤ 1000):∀ (j i:Nat) (C:List Int),i + j=b.Coefs.length→C.length=b.Coefs.length→∃ r,oD k b (i:Int) C=some r∧r.length=C.length:=by
  intro j
  induction j with
  | zero =>
    intro i C hi hC;refine ⟨C,?_,rfl⟩;rw [oD];have:¬((i:Int) < (b.Coefs.length:Int)):=by omega
    simp only [this,dF,bF,if_false,oP,id]
  | succ j ih =>
    intro i C hi hC;have hlt:i < b.Coefs.length:=by omega
    have hlt2:i < C.length:=by omega
    have hc:((i:Int) < (b.Coefs.length:Int)):=by omega
    obtain ⟨r,h1,h2⟩:=ih (i + 1) (C.set i (W (C[i] + W (k * b.Coefs[i])))) (by omega) (by rw [List.length_set]; exact hC);refine ⟨r,?_,by rw [h2,List.length_set]⟩;rw [oD];simp only [hc,dT,if_true,wA hlt,wA hlt2,oB,oS,oP,iN];rw [oE (by omega),h1]
theorem ownA2 (a:zA) (h:a.Coefs.length ≤ 1000000):uO a=some a:=by
  unfold uO qJ;rw [kQ (by simp; omega)]; rfl
theorem zHl {v:Int}{b a:zA} (hb:b.Coefs.length=4) (ha:a.Coefs.length=4) (hv:0 ≤ v∧v ≤ 3):∃ r,mF b v a=some r∧r.Coefs.length=4:=by
  obtain ⟨m,rfl⟩:∃ m:Nat,v=(m:Int):=⟨v.toNat,by omega⟩;have hm:m < b.Coefs.length:=by omega
  obtain ⟨r,h1,h2⟩:=zJI b.Coefs[m] a (by omega) _ 0 (b.Coefs.set m 0) (Nat.zero_add _) (by rw [List.length_set]; omega);rw [nZ] at h1;have ho:=ownA2 ⟨b.Coefs.set m 0,b.Const⟩ (by show (b.Coefs.set m 0).length ≤ 1000000; rw [List.length_set]; omega);rw [List.length_set] at h2;unfold mF eN;simp only [ownA2 b (by omega),wA hm,oB,oS,oP,iN,ho,h1,id];exact ⟨_,rfl,by show r.length=4; omega⟩
def sbF (v:Int) (a b:zA):zA:=(mF b v a).getD ⟨[],0⟩
theorem zHm {v:Int}{a b:zA} (hb:okA 4 b=true) (ha:a.Coefs.length=4) (hv:0 ≤ v∧v ≤ 3):tD b v a=some (sbF v a b)∧BA (sbF v a b):=by
  obtain ⟨r,h1,h2⟩:=zHl (zHb hb) ha hv;have e:sbF v a b=r:=by unfold sbF; rw [h1]; rfl
  rw [e];refine ⟨by unfold tD; rw [h1]; rfl,by unfold BA; omega⟩
theorem subS {s:zK} (hb:BS s) (h:stmtB s 4=true) {v:Int}{a:zA} (ha:validB a=true) (hal:a.Coefs.length=4) (hv:0 ≤ v∧v ≤ 3):∃ x,oR s v a=some x∧(x.2=true→x.1=mpS (sbF v a) s∧stmtB x.1 4=true∧BS x.1):=by
  have hm:=mpSV (ch:=fun x0=>tD x0 v a) (f:=sbF v a) (fun b hb=>(zHm hb hal hv).1) h;have hbs:=zJC (f:=sbF v a) (fun b hb=>(zHm hb hal hv).2) h;unfold oR rY jY;simp only [implStmt s 4 hb,h,implValid a (by omega),ha,kZ,hv.1,hv.2,dT,Bool.and_self,bT,bF,if_false,hm,implStmt _ 4 hbs,oB,oS,oP,id];cases hq:stmtB (mpS (sbF v a) s) 4 with
  | false=>exact ⟨_,rfl,fun h=>by cases h⟩
  | true=>exact ⟨_,rfl,fun _=>⟨rfl,hq,hbs⟩⟩
theorem zJJ (s:zK) (hb:BS s) (h:stmtB s 4=true):oQ s=some ((readsF 5 s.Value).map (mpA fun a=>a)):=by
  have hm:=mpSV (d:=4) (ch:=uO) (f:=fun a=>a) (fun b hb=>ownA2 b (by have:=zHb hb; omega)) h;have hsh:=(mB h).2.1;have hr:=zBj (fun a=>a) 5 _ hsh;have hs2:shapeB 4 5 (mpE (fun a=>a) 5 s.Value)=true:=zFg (fun a h=>h) 5 _ hsh;have hI:=implReads 5 _ hs2 (by omega);unfold oQ rY kO;have hv:(mpS (fun a=>a) s).Value=mpE (fun a=>a) 5 s.Value:=rfl;simp only [implStmt s 4 hb,h,hm,hv,hI,hr,bT,bF,if_false,oB,oS,oP,id]
def zE:zD:=.mk 0 0 ⟨[],0⟩ ⟨⟨[]⟩,[]⟩ []
theorem zI0:pF zE zE=some true:=by
  have e1:tK ([]:List Int) []=some true:=by rw [implEqI _ _ (by simp)]; rfl
  have e2:wJ ⟨[],0⟩ ⟨[],0⟩=some true:=by unfold wJ; simp [e1]
  have e3:wV ⟨⟨[]⟩,[]⟩ ⟨⟨[]⟩,[]⟩=some true:=by
    unfold wV yK;rw [zW];rfl
  have e4:yJ [] []=some true:=by
    rw [yJ];simp only [same];rw [xA];rfl
  have e2:wJ zE.Index zE.Index=some true:=e2;have e3:wV zE.Read zE.Read=some true:=e3;have e4:yJ zE.Kids zE.Kids=some true:=e4;rw [pF];simp only [e2,e3,e4,bQ,if_true,oB,oS,oP,id]
theorem zHB (code more:List UInt8):∃ r,pM code more=some r∧r=true:=by
  obtain ⟨s,hy,hb⟩:=drawRO code;unfold pM;refine ⟨true,?_,rfl⟩;by_cases h1:(code.length:Int) > 1048576
  · simp [h1]
  · by_cases h2:(more.length:Int) > 1048576
    · simp [h2]
    · simp only [h1,h2,dF,bF,if_false,hy,redO s hb,redOS s hb,bQ,bT,oB,oS,oP];cases hq:stmtB s 4 && redB s with
      | false=>rfl
      | true =>
        rw [bA] at hq;obtain ⟨h4,hr⟩:=hq;have hv:0 ≤ (more.length:Int).tmod 4∧(more.length:Int).tmod 4 ≤ 3:=by
          have a:=Int.tmod_nonneg (a:=(more.length:Int)) 4 (by omega);have b:=Int.tmod_lt_of_pos (more.length:Int) (b:=4) (by omega);omega
        obtain ⟨x,hx,hx2⟩:=subS hb h4 (a:=⟨[0,1,0,0],1⟩) (by decide) rfl hv;obtain ⟨x1,x2⟩:=x;have hs:=(mB h4).2.1;obtain ⟨k1,k2⟩:=uT hs;rcases k1 with k0 | ⟨u,w,k0⟩
        · unfold redB at hr; rw [k0] at hr; cases hr
        · have su:=k2 u (by rw [k0]; simp);have hr0:=hr;unfold redB at hr0;rw [k0] at hr0;simp only [bA] at hr0;obtain ⟨r1,r2,r3,_⟩:=hr0;have k3:u.Kind=3:=eq_of_beq r2;have n3:¬s.Value.Kind=3:=by
            rcases Bool.or_eq_true_iff.1 r1 with r1 | r1
            · have:=eq_of_beq r1; omega
            · have:=eq_of_beq r1; omega
          have er:((readsF 5 s.Value).map (mpA fun a=>a))=mpA (fun a=>a) u.Read::(readsF 4 w).map (mpA fun a=>a):=by
            rw [readsF,if_neg n3,k0,List.flatMap_cons,List.flatMap_cons,List.flatMap_nil,readsF,if_pos k3];simp
          have hid:mpA (fun a=>a) u.Read=u.Read:=by unfold mpA; rw [List.map_id']
          rw [hid] at er;have i0:idx (u.Read::(readsF 4 w).map (mpA fun a=>a)) 0=some u.Read:=rfl;have hvu:=AV.of (mA su k3).2;have hsame:pG ⟨u.Read,zE⟩ ⟨s.Write,zE⟩=some true:=by
            unfold pG;simp only [implAcS _ _ hvu,r3,zI0,if_true,oB,oS,oP,id]
          have hsame:pG ⟨u.Read,.mk 0 0 ⟨[],0⟩ ⟨⟨[]⟩,[]⟩ []⟩ ⟨s.Write,.mk 0 0 ⟨[],0⟩ ⟨⟨[]⟩,[]⟩ []⟩=some true:=hsame;have hlen:((u.Read::(readsF 4 w).map (mpA fun a=>a)).length:Int) > 0:=by rw [List.length_cons]; omega
          simp only [zJJ s hb h4,hx,er,i0,hlen,dT,hsame,bT,bF,if_false,if_true,oS];cases x2 with
          | false=>rfl
          | true =>
            obtain ⟨g1,g2,g3⟩:=hx2 rfl;dsimp only at g1 g2 g3;have hq:=zJH (sbF ((more.length:Int).tmod 4) ⟨[0,1,0,0],1⟩) h4 hr;rw [← g1] at hq;simp only [redO x1 g3,g2,hq,bT,bF,if_false,oS,Bool.and_self,id]
end Go.LN
namespace Go.LN
end Go.LN
