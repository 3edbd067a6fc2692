/- Helper of the proof (see the last text). -/
import Derived.Test.YtkipogionmkncaaGreatDoorQT
import Derived.Test.YtkipogionmkncaaGreatDoorHM8
import Derived.Test.YtkipogionmkncaaGreatDoorQZ
set_option linter.unusedVariables false
set_option linter.unusedSimpArgs false
namespace Go.LN
theorem oS{α β:Type}(x:α)(f:α->Option β):(some x).bind f=f x:=rfl
theorem oB{α β:Type}(x:Option α)(f:α->Option β):(x>>=f)=x.bind f:=rfl
theorem oP{α:Type}(x:α):(pure x:Option α)=some x:=rfl
theorem bF:(false=true)=False:=by simp
theorem iN(n:Nat):((n:Int)).toNat=n:=fc n
theorem gC{α:Type}{l:List α}{i:Nat}(h:i<l.length):l.drop i=l[i]::l.drop (i+1):=cC h
theorem dT(h:Decidable True):decide True=true:=by simp
theorem dF(h:Decidable False):decide False=false:=by simp
theorem gM{α:Type}{l:List α}{i:Nat}(h:i<l.length):l[i]∈l:=List.getElem_mem h
theorem nZ:((0:Nat):Int)=0:=rfl
theorem dN{α:Type}{l:List α}{i:Nat}:l.drop i=[]↔l.length<=i:=cE
theorem bA(a b:Bool):((a&&b)=true)=(a=true/\b=true):=cg a b
theorem bT:(!true)=false:=rfl
theorem bQ{α:Type}[BEq α][ReflBEq α](a:α):(a==a)=true:=beq_self_eq_true a
theorem lA{α:Type}{a b:List α}:(a++b).length=a.length+b.length:=cw
theorem lM{α β:Type}{l:List α}(f:α->β):(l.map f).length=l.length:=cW f
theorem zIt{s:Str}{f i:Nat}(hf:f<=i)(hi:i<=s.l.length):sslc s (f:Int) (i:Int)=some ⟨(s.l.take i).drop f⟩:=by
 unfold sslc slc;rw[if_pos (by omega)];simp
theorem gV{α:Type}{b:Nat}{l k:List α}(h:(l.length+k.length)*b<=140737488355328):app b l k=some (l++k):=by
 unfold app;rw[if_pos h]
theorem zJ3(a b:UInt8):((a.toNat:Int)==(b.toNat:Int))=decide (a=b):=by
 by_cases h:a=b
 ·subst h;simp
 ·rw[decide_eq_false h];exact beq_false_of_ne (λe=>h (UInt8.toNat_inj.1 (by omega)))
theorem zAA(a:UInt8)(n:Nat)(hn:n<256):((a.toNat:Int)==(n:Int))=decide (a=UInt8.ofNat n):=by
 have:=zJ3 a (UInt8.ofNat n);rwa[UInt8.toNat_ofNat_of_lt' (by exact hn)] at this
theorem zKV{f:Int->Option Bool}{p:Int->Bool}(s:List Int)(hf:∀x∈s,f x=some (p x))(hs:s.length<=9223372036854775806):∀j k,k+j=s.length ->
 wR s f (k:Int)=some (match (s.drop k).findIdx? p with|some i=>.ret (((k+i:Nat)):Int)|none=>.done ()):=by
 intro j
 induction j with
 | zero=>
  intro k hk
  rw[wR]
  have:¬((k:Int)<(s.length:Int)):=by omega
  simp[this,dN.2 (show s.length<=k by omega)]
 | succ j ih=>
  intro k hk
  rw[wR]
  have aV:k<s.length:=by omega
  have:((k:Int)<(s.length:Int)):=by omega
  simp only[this,dT,if_true,fO,ce aV,oB,oS,hf _ (gM aV)]
  rw[gC aV,ex]
  cases hp:p s[k] with
  | true=>simp
  | false=>
   simp only[bF,if_false]
   rw[eV (by omega),ih (k+1) (by omega)]
   cases hx:List.findIdx? p (List.drop (k+1) s) with
   | none=>simp
   | some i=>simp;omega
theorem zBp{f:Int->Option Bool}{p:Int->Bool}(s:List Int)(hf:∀x∈s,f x=some (p x))(hs:s.length<=9223372036854775806):xR s f=some (s.any p):=by
 unfold xR qC;have:=zKV s hf hs s.length 0 (by omega);rw[cz] at this;simp only[nZ,oB] at this ⊢;rw[this];cases h:List.findIdx? p s with
 | none=>
  have:s.any p=false:=by simpa using ee.1 h
  simp[this]
 | some i=>
  have:s.any p=true:=by
   obtain⟨h1,h2⟩:=dn.1 h;exact List.any_eq_true.2 ⟨s[i],gM h1,h2.1⟩
  simp[this]
def coefB(c:Int):Bool:=decide (-9<=c)&&decide (c<=9)
def constB(c:Int):Bool:=decide (-99<=c)&&decide (c<=99)
def validB(a:zA):Bool:=decide (a.Coefs.length=4)&&constB a.Const&&a.Coefs.all coefB
theorem mM(n lo hi:Int):wT n lo hi=some (decide (lo<=n)&&decide (n<=hi)):=by
 unfold wT;by_cases h:lo<=n <;> simp[h]
theorem implValid(a:zA)(h:a.Coefs.length<=1048576):rB a=some (validB a):=by
 unfold rB validB fQ;have e:((a.Coefs.length:Int)==4)=decide (a.Coefs.length=4):=by
  by_cases h4:a.Coefs.length=4
  ·simp[h4]
  ·have:¬(a.Coefs.length:Int)=4:=by omega
   simp[h4,this]
 rw[mM,e];by_cases h4:a.Coefs.length=4
 ·have hc:xR a.Coefs tK=some (a.Coefs.any λc=>!coefB c):=by
   refine zBp _ (λx _=>?_) (by omega);unfold tK;rw[mM];rfl
  simp only[h4,dT,if_true,oB,oS,oP,id,hc,cP];rw[show (decide (-99<=a.Const)&&decide (a.Const<=99))=constB a.Const from rfl];cases hk:constB a.Const with
  | false=>simp
  | true=>
   simp only[if_true,oB,oS,cP];rw[dw];simp
 ·simp[h4]
theorem zHA{f:zA->Option Bool}{p:zA->Bool}(s:List zA)(hf:∀x∈s,f x=some (p x))(hs:s.length<=9223372036854775806):∀j k,k+j=s.length ->
 xE s f (k:Int)=some (match (s.drop k).findIdx? p with|some i=>.ret (((k+i:Nat)):Int)|none=>.done ()):=by
 intro j
 induction j with
 | zero=>
  intro k hk
  rw[xE]
  have:¬((k:Int)<(s.length:Int)):=by omega
  simp[this,dN.2 (show s.length<=k by omega)]
 | succ j ih=>
  intro k hk
  rw[xE]
  have aV:k<s.length:=by omega
  have:((k:Int)<(s.length:Int)):=by omega
  simp only[this,dT,if_true,fO,ce aV,oB,oS,hf _ (gM aV)]
  rw[gC aV,ex]
  cases hp:p s[k] with
  | true=>simp
  | false=>
   simp only[bF,if_false]
   rw[eV (by omega),ih (k+1) (by omega)]
   cases hx:List.findIdx? p (List.drop (k+1) s) with
   | none=>simp
   | some i=>simp;omega
theorem zDg{f:zA->Option Bool}{p:zA->Bool}(s:List zA)(hf:∀x∈s,f x=some (p x))(hs:s.length<=9223372036854775806):xO s f=some (s.any p):=by
 unfold xO wY;have:=zHA s hf hs s.length 0 (by omega);rw[cz] at this;simp only[nZ,oB] at this ⊢;rw[this];cases h:List.findIdx? p s with
 | none=>
  have:s.any p=false:=by simpa using ee.1 h
  simp[this]
 | some i=>
  have:s.any p=true:=by
   obtain⟨h1,h2⟩:=dn.1 h;exact List.any_eq_true.2 ⟨s[i],gM h1,h2.1⟩
  simp[this]
theorem zHB{f:zM->Option Bool}{p:zM->Bool}(s:List zM)(hf:∀x∈s,f x=some (p x))(hs:s.length<=9223372036854775806):∀j k,k+j=s.length ->
 xM s f (k:Int)=some (match (s.drop k).findIdx? p with|some i=>.ret (((k+i:Nat)):Int)|none=>.done ()):=by
 intro j
 induction j with
 | zero=>
  intro k hk
  rw[xM]
  have:¬((k:Int)<(s.length:Int)):=by omega
  simp[this,dN.2 (show s.length<=k by omega)]
 | succ j ih=>
  intro k hk
  rw[xM]
  have aV:k<s.length:=by omega
  have:((k:Int)<(s.length:Int)):=by omega
  simp only[this,dT,if_true,fO,ce aV,oB,oS,hf _ (gM aV)]
  rw[gC aV,ex]
  cases hp:p s[k] with
  | true=>simp
  | false=>
   simp only[bF,if_false]
   rw[eV (by omega),ih (k+1) (by omega)]
   cases hx:List.findIdx? p (List.drop (k+1) s) with
   | none=>simp
   | some i=>simp;omega
theorem zHC{f:zM->Option Bool}{p:zM->Bool}(s:List zM)(hf:∀x∈s,f x=some (p x))(hs:s.length<=9223372036854775806):wL s f=some (s.any p):=by
 unfold wL vU;have:=zHB s hf hs s.length 0 (by omega);rw[cz] at this;simp only[nZ,oB] at this ⊢;rw[this];cases h:List.findIdx? p s with
 | none=>
  have:s.any p=false:=by simpa using ee.1 h
  simp[this]
 | some i=>
  have:s.any p=true:=by
   obtain⟨h1,h2⟩:=dn.1 h;exact List.any_eq_true.2 ⟨s[i],gM h1,h2.1⟩
  simp[this]
theorem zHD{f:zH->Option Bool}{p:zH->Bool}(s:List zH)(hf:∀x∈s,f x=some (p x))(hs:s.length<=9223372036854775806):∀j k,k+j=s.length ->
 xF s f (k:Int)=some (match (s.drop k).findIdx? p with|some i=>.ret (((k+i:Nat)):Int)|none=>.done ()):=by
 intro j
 induction j with
 | zero=>
  intro k hk
  rw[xF]
  have:¬((k:Int)<(s.length:Int)):=by omega
  simp[this,dN.2 (show s.length<=k by omega)]
 | succ j ih=>
  intro k hk
  rw[xF]
  have aV:k<s.length:=by omega
  have:((k:Int)<(s.length:Int)):=by omega
  simp only[this,dT,if_true,fO,ce aV,oB,oS,hf _ (gM aV)]
  rw[gC aV,ex]
  cases hp:p s[k] with
  | true=>simp
  | false=>
   simp only[bF,if_false]
   rw[eV (by omega),ih (k+1) (by omega)]
   cases hx:List.findIdx? p (List.drop (k+1) s) with
   | none=>simp
   | some i=>simp;omega
theorem zHE{f:zH->Option Bool}{p:zH->Bool}(s:List zH)(hf:∀x∈s,f x=some (p x))(hs:s.length<=9223372036854775806):wF s f=some (s.any p):=by
 unfold wF wZ;have:=zHD s hf hs s.length 0 (by omega);rw[cz] at this;simp only[nZ,oB] at this ⊢;rw[this];cases h:List.findIdx? p s with
 | none=>
  have:s.any p=false:=by simpa using ee.1 h
  simp[this]
 | some i=>
  have:s.any p=true:=by
   obtain⟨h1,h2⟩:=dn.1 h;exact List.any_eq_true.2 ⟨s[i],gM h1,h2.1⟩
  simp[this]
theorem zHj{n:Nat}{f:Int->Option (Out Unit Bool)}{P:Nat->Bool}(step:∀i,i<n->f (i:Int)=if P i then f ((i+1:Nat):Int) else some (.ret false))(fin:f (n:Int)=some (.done ())):f 0=some (if(List.range n).all P then .done () else .ret false):=by
 have key:∀j i,i+j=n->f (i:Int)=some (if(List.range' i j).all P then .done () else .ret false):=by
  intro j
  induction j with
  | zero=>intro i hi;rw[show i=n by omega,fin];rfl
  | succ j ih=>
   intro i hi;rw[step i (by omega),List.range'_succ,da];cases hP:P i with
   | false=>simp
   | true=>simp only[if_true,cP];exact ih (i+1) (by omega)
 have:=key n 0 (by omega);rw[List.range_eq_range'];exact this
theorem xK{α:Type}{l:List α}{i:Nat}(h:i<l.length):idx l (i:Int)=some l[i]:=by rw[fO,ce h]
theorem sT{i:Nat}(h:i<9223372036854775807):W ((i:Int)+1)=((i+1:Nat):Int):=by rw[oM (by omega) (by omega)];omega
def depL:List Int->Nat->Nat->Nat
 | [],_,n=>n
 | c::C,i,n=>depL C (i+1) (if c=0 then n else i+1)
def depF(a:zA):Nat:=depL a.Coefs 0 0
theorem zHk:∀(C D:List Int) (i n:Nat),depL (C++D) i n=depL D (i+C.length) (depL C i n)
 | [],D,i,n=>rfl
 | c::C,D,i,n=>by rw[cy,depL,depL,zHk C D,co,show i+1+C.length=i+(C.length+1) by omega]
theorem zHF(a:zA)(h:a.Coefs.length<=1048576):∀n,n<=a.Coefs.length->depL (a.Coefs.drop n) n n=n->∀m:Nat,(∀k,depL (a.Coefs.drop n) n k=k)->uQ a (n:Int)=some ((depL (a.Coefs.take n) 0 0:Nat):Int):=by
 intro n
 induction n with
 | zero=>
  intro _ _ _ _;rw[uQ];rfl
 | succ n ih=>
  intro hn h1 m hk;rw[uQ];have h0:(((n+1:Nat):Int)>0):=by omega
  have aV:n<a.Coefs.length:=by omega
  have hW:W (((n+1:Nat):Int) - 1)=(n:Int):=by rw[oM (by omega) (by omega)];omega
  simp only[h0,dT,if_true,hW,xK aV,oB,oS,oP];rw[fa,ce aV,Option.toList_some,zHk];by_cases hc:a.Coefs[n]=0
  ·simp only[hc,BEq.rfl,if_true,depL];have hk':∀k,depL (a.Coefs.drop n) n k=k:=λk=>by rw[gC aV,depL,hc,if_pos rfl];exact hk k
   exact ih (by omega) (hk' n) 0 hk'
  ·have hb:(a.Coefs[n]==0)=false:=by simpa using hc
   simp only[hb,bF,if_false,depL,hc,id,cr];rw[show 0+min n a.Coefs.length+1=n+1 by omega]
theorem implDepth(a:zA)(h:a.Coefs.length<=1048576):sC a=some ((depF a:Nat):Int):=by
 unfold sC depF;have hd:∀k,depL (a.Coefs.drop a.Coefs.length) a.Coefs.length k=k:=λk=>by rw[List.drop_length];rfl
 have:=zHF a h a.Coefs.length (cU _) (hd _) 0 hd;rw[List.take_length] at this;rw[this];rfl
def BA(a:zA):Prop:=a.Coefs.length<=1000
def BL(l:List zA):Prop:=l.length<=1000/\∀a∈l,BA a
def okA(aa:Int)(a:zA):Bool:=validB a&&decide ((depF a:Int)<=aa)
def sideB(l:List zA)(aa:Int):Bool:=(decide (1<=l.length)&&decide (l.length<=2))&&l.all (okA aa)
theorem implBound(a:zA)(h:BA a)(d:Int):sK a d=some (!(okA d a)):=by
 unfold sK okA;have h':a.Coefs.length<=1048576:=by unfold BA at h;omega
 rw[implValid a h',implDepth a h'];cases validB a with
 | false=>rfl
 | true=>
  by_cases hd:(depF a:Int)<=d
  ·have:¬((depF a:Int)>d):=by omega
   simp[hd,this]
  ·have:((depF a:Int)>d):=by omega
   simp[hd,this]
theorem implSide(l:List zA)(h:BL l)(d:Int):mH l d=some (sideB l d):=by
 unfold mH sideB;rw[mM];have e1:decide ((1:Int)<=(l.length:Int))=decide (1<=l.length):=by simp;omega
 have e2:decide ((l.length:Int)<=2)=decide (l.length<=2):=by simp;omega
 rw[e1,e2];have hc:=zDg (f:=λx0=>sK x0 d) (p:=λx=>!(okA d x)) l (λx hx=>implBound x (h.2 x hx) d) (by have:=h.1;omega);cases hb:(decide (1<=l.length)&&decide (l.length<=2)) with
 | false=>rfl
 | true=>
  simp only[oB,oS,if_true,hc,oP,id,cP];rw[dw];simp
def BN(nest:List zE):Prop:=nest.length<=100000/\∀x∈nest,BL x.Lo/\BL x.Hi
def nestB(nest:List zE):Bool:=decide (nest.length<=4)&&(List.range nest.length).all λi=>sideB (nest.getD i ⟨[],[]⟩).Lo i&&sideB (nest.getD i ⟨[],[]⟩).Hi i
theorem implNest(nest:List zE)(h:BN nest):kL nest=some (nestB nest):=by
 unfold kL nestB;have bo:=h.1;have hl:=zHj (n:=nest.length) (f:=sD nest) (P:=λi=>sideB (nest.getD i ⟨[],[]⟩).Lo i&&sideB (nest.getD i ⟨[],[]⟩).Hi i) (λi hi=>by
  rw[sD];have h1:((i:Int)<(nest.length:Int)):=by omega
  have ha:=h.2 _ (gM hi);have hg:nest.getD i ⟨[],[]⟩=nest[i]:=by simp[hi]
  simp only[h1,dT,if_true,xK hi,oB,oS,implSide _ ha.1,implSide _ ha.2,hg];rw[sT (by omega)];cases sideB nest[i].Lo i with
  | false=>rfl
  | true=>cases sideB nest[i].Hi i <;> rfl) (by
  rw[sD];simp)
 rw[hl];have e2:decide ((nest.length:Int)<=4)=decide (nest.length<=4):=by simp;omega
 cases hb:(List.range nest.length).all λi=>sideB (nest.getD i ⟨[],[]⟩).Lo i&&sideB (nest.getD i ⟨[],[]⟩).Hi i with
 | false=>simp
 | true=>simp[e2]
end Go.LN
namespace Go.LN
def J64(x:Int):Prop:=-9223372036854775808<=x/\x<=9223372036854775807
theorem zMV(x:Int):J64 (W x):=by
 show -9223372036854775808<=IntKind.i64.wrap x/\IntKind.i64.wrap x<=9223372036854775807;rw[IntKind.wrap_i64];omega
def evC:List Int->List Int->Int->Int
 | c::C,x::p,n=>evC C p (W (n+W (c*x)))
 | _,_,n=>n
def evA(a:zA)(p:List Int):Int:=evC a.Coefs p a.Const
theorem zLF(C:List Int)(n:Int):evC C [] n=n:=by cases C <;> rfl
theorem zKW(p:List Int)(n:Int):evC [] p n=n:=by cases p <;> rfl
theorem zDh:∀(C p:List Int) (n:Int),J64 n->J64 (evC C p n)
 | [],p,n,h=>by rw[zKW];exact h
 | c::C,[],n,h=>h
 | c::C,x::p,n,h=>zDh C p _ (zMV _)
theorem zHl(a:zA)(p:List Int)(h:p.length<=a.Coefs.length)(hp:p.length<=1048576):∀j i n,i+j=p.length->uZ a p n (i:Int)=some (evC (a.Coefs.drop i) (p.drop i) n):=by
 intro j
 induction j with
 | zero=>
  intro i n hi;rw[uZ];have:¬((i:Int)<(p.length:Int)):=by omega
  simp only[this,dF,bF,if_false];rw[show p.drop i=[] from dN.2 (by omega),zLF];rfl
 | succ j ih=>
  intro i n hi;rw[uZ];have aV:i<p.length:=by omega
  have hlt2:i<a.Coefs.length:=by omega
  have h1:((i:Int)<(p.length:Int)):=by omega
  simp only[h1,dT,if_true,xK aV,xK hlt2,oB,oS];rw[sT (by omega),ih (i+1) _ (by omega),gC aV,gC hlt2,evC]
theorem implEval(a:zA)(p:List Int)(h:p.length<=a.Coefs.length)(hp:p.length<=1048576):uR a p=some (evA a p):=by
 unfold uR evA;have:=zHl a p h hp _ 0 a.Const (cO _);rw[nZ,cz,cz] at this;rw[this];rfl
def mxF(p:List Int):List zA->Int->Int
 | [],n=>n
 | a::l,n=>mxF p l (if evA a p>n then evA a p else n)
def mnF(p:List Int):List zA->Int->Int
 | [],n=>n
 | a::l,n=>mnF p l (if evA a p<n then evA a p else n)
def loF(l:zE)(p:List Int):Int:=match l.Lo with|[]=>0|a::r=>mxF p r (evA a p)
def hiF(l:zE)(p:List Int):Int:=match l.Hi with|[]=>0|a::r=>mnF p r (evA a p)
def OV(l:List zA):Prop:=l ≠ []/\l.length<=1000/\∀a∈l,a.Coefs.length=4/\J64 a.Const
theorem zIu(p:List Int):∀(l:List zA) (n:Int),J64 n->(∀a∈l,J64 a.Const)->J64 (mxF p l n)
 | [],n,h,_=>h
 | a::l,n,h,hl=>by
  refine zIu p l _ ?_ (λx hx=>hl x (cd _ hx))
  split
  ·exact zDh _ _ _ (hl a (cf ..))
  ·exact h
theorem zIv(p:List Int):∀(l:List zA) (n:Int),J64 n->(∀a∈l,J64 a.Const)->J64 (mnF p l n)
 | [],n,h,_=>h
 | a::l,n,h,hl=>by
  refine zIv p l _ ?_ (λx hx=>hl x (cd _ hx))
  split
  ·exact zDh _ _ _ (hl a (cf ..))
  ·exact h
theorem zLG{l:zE}(p:List Int)(h:OV l.Lo):J64 (loF l p):=by
 unfold loF;obtain⟨h1,_,h2⟩:=h;cases hl:l.Lo with
 | nil=>exact absurd hl h1
 | cons a r=>
  rw[hl] at h2;exact zIu _ _ _ (zDh _ _ _ (h2 a (cf ..)).2) λx hx=>(h2 x (cd _ hx)).2
theorem zLH{l:zE}(p:List Int)(h:OV l.Hi):J64 (hiF l p):=by
 unfold hiF;obtain⟨h1,_,h2⟩:=h;cases hl:l.Hi with
 | nil=>exact absurd hl h1
 | cons a r=>
  rw[hl] at h2;exact zIv _ _ _ (zDh _ _ _ (h2 a (cf ..)).2) λx hx=>(h2 x (cd _ hx)).2
theorem zHm(l:zE)(p:List Int)(hp:p.length<=4)(h:OV l.Lo):∀j i n,i+j=l.Lo.length->sE l p n (i:Int)=some (mxF p (l.Lo.drop i) n):=by
 obtain⟨_,hl,h2⟩:=h;intro j
 induction j with
 | zero=>
  intro i n hi;rw[sE];have:¬((i:Int)<(l.Lo.length:Int)):=by omega
  simp only[this,dF,bF,if_false];rw[dN.2 (by omega)];rfl
 | succ j ih=>
  intro i n hi;rw[sE];have aV:i<l.Lo.length:=by omega
  have h1:((i:Int)<(l.Lo.length:Int)):=by omega
  have ha:=(h2 _ (gM aV)).1;simp only[h1,dT,if_true,xK aV,oB,oS,implEval _ _ (show p.length<=l.Lo[i].Coefs.length by omega) (by omega)];rw[sT (by omega),ih (i+1) _ (by omega),gC aV,mxF]
theorem zHn(l:zE)(p:List Int)(hp:p.length<=4)(h:OV l.Hi):∀j i n,i+j=l.Hi.length->sF l p n (i:Int)=some (mnF p (l.Hi.drop i) n):=by
 obtain⟨_,hl,h2⟩:=h;intro j
 induction j with
 | zero=>
  intro i n hi;rw[sF];have:¬((i:Int)<(l.Hi.length:Int)):=by omega
  simp only[this,dF,bF,if_false];rw[dN.2 (by omega)];rfl
 | succ j ih=>
  intro i n hi;rw[sF];have aV:i<l.Hi.length:=by omega
  have h1:((i:Int)<(l.Hi.length:Int)):=by omega
  have ha:=(h2 _ (gM aV)).1;simp only[h1,dT,if_true,xK aV,oB,oS,implEval _ _ (show p.length<=l.Hi[i].Coefs.length by omega) (by omega)];rw[sT (by omega),ih (i+1) _ (by omega),gC aV,mnF]
theorem implSpan(l:zE)(p:List Int)(hp:p.length<=4)(hlo:OV l.Lo)(hhi:OV l.Hi):kN l p=some (loF l p,hiF l p):=by
 unfold kN loF hiF;have h1:=zHm l p hp hlo;have h2:=zHn l p hp hhi;obtain⟨n1,_,q1⟩:=hlo;obtain⟨n2,_,q2⟩:=hhi;cases hl:l.Lo with
 | nil=>exact absurd hl n1
 | cons a r=>
  cases hh:l.Hi with
  | nil=>exact absurd hh n2
  | cons b s=>
   rw[hl] at q1;rw[hh] at q2;have ha:=(q1 a (cf ..)).1;have hb:=(q2 b (cf ..)).1;have i1:idx (a::r) 0=some a:=rfl;have i2:idx (b::s) 0=some b:=rfl;have k1:=h1 _ 0 (evA a p) (cO _);have k2:=h2 _ 0 (evA b p) (cO _);rw[nZ,cz,hl,mxF] at k1;rw[nZ,cz,hh,mnF] at k2;simp only[i1,i2,oB,oS,implEval _ _ (show p.length<=a.Coefs.length by omega) (by omega),implEval _ _ (show p.length<=b.Coefs.length by omega) (by omega),k1,k2,oP];simp
end Go.LN
namespace Go.LN
def rngK:Nat->Int->List Int
 | 0,_=>[]
 | k+1,v=>v::rngK k (v+1)
def rng(lo hi:Int):List Int:=rngK (hi - lo).toNat lo
def wrk:List zE->List Int->Nat
 | [],_=>1
 | l::ls,p=>1+((rng (loF l p) (hiF l p)).map λv=>wrk ls (p++[v])).sum
def pts:List zE->List Int->List (List Int)
 | [],p=>[p]
 | l::ls,p=>(rng (loF l p) (hiF l p)).flatMap λv=>pts ls (p++[v])
def OL(x:zE):Prop:=OV x.Lo/\OV x.Hi
theorem zLI:∀(ls:List zE) (p:List Int),1<=wrk ls p
 | [],_=>cU _
 | _::_,_=>Nat.le_add_right ..
theorem zDi{b:Nat}(p:List Int)(h:p.length*b<=140737488355328):app b ([]:List Int) p=some p:=by
 rw[gV (by simpa using h)];rfl
theorem zJ4{α:Type}{nest:List α}{n:Nat}{l:α}{ls:List α}(h:nest.drop n=l::ls):∃hn:n<nest.length,nest[n]=l/\nest.drop (n+1)=ls:=by
 have hn:n<nest.length:=by
  rcases db n nest.length with h' | h'
  ·exact h'
  ·rw[dN.2 h'] at h;cases h
 rw[gC hn] at h;injection h with h1 h2;exact⟨hn,h1,h2⟩
theorem zFs(p:List Int)(h:p.length<=1048576):tU p=some p:=zDi p (by omega)
theorem implWalk:∀(ls nest:List zE) (p:List Int) (steps:Nat) (out:List (List Int)),(∀x∈ls,OL x)->nest.drop p.length=ls->p.length+ls.length=nest.length->nest.length<=4->steps<=1199->out.length<=120 ->
 ∃r w,uW ⟨nest,(steps:Int),out⟩ p=some (r,w)/\(steps+wrk ls p<=1200/\out.length+(pts ls p).length<=120->r=true/\w=⟨nest,((steps+wrk ls p - 1:Nat):Int),out++pts ls p⟩)/\(¬(steps+wrk ls p<=1200/\out.length+(pts ls p).length<=120)->r=false)
 | [],nest,p,steps,out,hv,hd,hl,h4,hs,ho=>by
  rw[uW]
  have:((p.length:Int)==(nest.length:Int))=true:=by simp at hl;simp;omega
  have hp4:p.length<=4:=by simp at hl;omega
  have happ:app 24 out [p]=some (out++[p]):=gV (by simp;omega)
  simp only[this,if_true,oP,oB,oS,zFs p (by omega),happ]
  refine⟨_,_,rfl,λh=>?_,λh=>?_⟩
  ·simp only[wrk,pts,ep] at h ⊢
   refine⟨by simp;omega,?_⟩
   rw[show steps+1 - 1=steps by omega]
  ·simp only[wrk,pts,ep] at h
   simp;omega
 | l::ls,nest,p,steps,out,hv,hd,hl,h4,hs,ho=>by
  rw[uW]
  obtain⟨hn,hnl,hd'⟩:=zJ4 hd
  have hne:((p.length:Int)==(nest.length:Int))=false:=by simp;omega
  have hp4:p.length<=4:=by omega
  obtain⟨o1,o2⟩:=hv l (cf ..)
  simp only[hne,bF,if_false,xK hn,hnl,oB,oS,implSpan l p hp4 o1 o2,same,oP]
  have hlo:=zLG p o1
  have hhi:=zLH p o2
  have key:∀(k:Nat) (steps:Nat) (out:List (List Int)) (v:Int),(hiF l p - v).toNat=k->J64 v->steps<=1199->out.length<=120 ->
   ∃o,tV p (hiF l p) v nest (steps:Int) out=some o/\(steps+((rngK k v).map λv=>wrk ls (p++[v])).sum<=1199/\out.length+((rngK k v).flatMap λv=>pts ls (p++[v])).length<=120 ->
    o=.done (nest,((steps+((rngK k v).map λv=>wrk ls (p++[v])).sum:Nat):Int),out++(rngK k v).flatMap λv=>pts ls (p++[v])))/\(¬(steps+((rngK k v).map λv=>wrk ls (p++[v])).sum<=1199/\out.length+((rngK k v).flatMap λv=>pts ls (p++[v])).length<=120)->∃w,o=.ret (false,w)):=by
   intro k
   induction k with
   | zero=>
    intro steps out v hk hv' ai ho'
    rw[tV]
    have:¬(v<hiF l p):=by omega
    simp only[this,dF,bF,if_false,oP]
    simp only[rngK,List.map_nil,List.sum_nil,List.flatMap_nil,cq,cx,Nat.add_zero]
    exact⟨_,rfl,λ_=>rfl,λh=>absurd ⟨ai,ho'⟩ h⟩
   | succ k ih=>
    intro steps out v hk hv' ai ho'
    rw[tV]
    have aV:v<hiF l p:=by omega
    have bo:(p++[v]).length=p.length+1:=by simp
    have e1:W ((steps:Int)+1)=((steps+1:Nat):Int):=sT (by omega)
    have e2:W (((steps+1:Nat):Int)+1)=((steps+2:Nat):Int):=sT (by omega)
    have e3:W (v+1)=v+1:=oM (by unfold J64 at hv';omega) (by unfold J64 at hhi;omega)
    have hpos:=zLI ls (p++[v])
    simp only[rngK,cS,List.sum_cons,ck,lA]
    by_cases bH:steps+2>1200
    ·have h1:(((steps+2:Nat):Int)>1200):=by omega
     simp only[aV,e1,e2,h1,dT,if_true,oP,oB,oS]
     exact⟨_,rfl,λh=>absurd h.1 (by omega),λ_=>⟨_,rfl⟩⟩
    ·have h1:¬(((steps+2:Nat):Int)>1200):=by omega
     have hpp:app 8 p [v]=some (p++[v]):=gV (by simp;omega)
     obtain⟨r,w,hw,hc⟩:=implWalk ls nest (p++[v]) (steps+1) out (λx hx=>hv x (cd _ hx)) (by rw[bo];exact hd') (by rw[bo];simp only[co] at hl;omega) h4 (by omega) ho'
     simp only[aV,e1,e2,h1,dT,dF,bF,if_false,if_true,oP,oB,oS,zFs p (by omega),hpp,same,hw,e3]
     generalize hW:wrk ls (p++[v])=wv at hc hpos ⊢
     generalize hP:pts ls (p++[v])=pv at hc ⊢
     by_cases bJ:steps+1+wv<=1200/\out.length+pv.length<=120
     ·obtain⟨rfl,rfl⟩:=hc.1 bJ
      simp only[bT,bF,if_false]
      rw[show steps+1+wv - 1=steps+wv by omega]
      obtain⟨o,ho1,ho2⟩:=ih (steps+wv) (out++pv) (v+1) (by omega) (by unfold J64 at hv' hhi ⊢;omega) (by omega) (by rw[lA];omega)
      refine⟨o,ho1,?_⟩
      rw[lA,ef,ef,cI] at ho2
      exact ho2
     ·obtain rfl:=hc.2 bJ
      simp only[dx,if_true]
      exact⟨_,rfl,λh=>absurd h (by omega),λ_=>⟨_,rfl⟩⟩
  obtain⟨o,ho1,ho2⟩:=key _ steps out (loF l p) rfl hlo (by omega) ho
  rw[ho1]
  simp only[wrk,pts,rng]
  by_cases hc:steps+((rngK (hiF l p - loF l p).toNat (loF l p)).map λv=>wrk ls (p++[v])).sum<=1199/\out.length+((rngK (hiF l p - loF l p).toNat (loF l p)).flatMap λv=>pts ls (p++[v])).length<=120
  ·obtain rfl:=ho2.1 hc
   refine⟨_,_,rfl,λ_=>⟨rfl,?_⟩,λh=>absurd ⟨by omega,hc.2⟩ h⟩
   rw[show steps+(1+((rngK (hiF l p - loF l p).toNat (loF l p)).map λv=>wrk ls (p++[v])).sum) - 1=steps+((rngK (hiF l p - loF l p).toNat (loF l p)).map λv=>wrk ls (p++[v])).sum by omega]
  ·obtain⟨w,rfl⟩:=ho2.2 hc
   exact⟨_,_,rfl,λh=>absurd ⟨by omega,h.2⟩ hc,λ_=>rfl⟩
def nestPts(nest:List zE):List (List Int)×Bool:=if nestB nest=true/\wrk nest []<=1200/\(pts nest []).length<=120 then(pts nest [],true) else([],false)
theorem zIw{l:List zA}{d:Int}(h:sideB l d=true):OV l:=by
 simp only[sideB,bA,decide_eq_true_eq] at h;obtain⟨⟨h1,h2⟩,h3⟩:=h;refine⟨by rintro rfl;simp at h1,by omega,λa ha=>?_⟩;have:=ci.1 h3 a ha;simp only[okA,validB,constB,bA,decide_eq_true_eq] at this;exact⟨this.1.1.1,by unfold J64;omega⟩
theorem zIx{nest:List zE}(h:nestB nest=true):nest.length<=4/\∀x∈nest,OL x:=by
 simp only[nestB,bA,decide_eq_true_eq] at h;refine⟨h.1,λx hx=>?_⟩;obtain⟨i,hi,rfl⟩:=ec.1 hx;have:=ci.1 h.2 i (cG.2 hi);rw[bA] at this;have hg:nest.getD i ⟨[],[]⟩=nest[i]:=by simp[hi]
 rw[hg] at this;exact⟨zIw this.1,zIw this.2⟩
theorem implPoints(nest:List zE)(h:BN nest):mO nest=some (nestPts nest):=by
 unfold mO nestPts;rw[implNest nest h];cases hb:nestB nest with
 | false=>simp
 | true=>
  obtain⟨h4,hv⟩:=zIx hb;obtain⟨r,w,hw,hc⟩:=implWalk nest nest [] 0 [] hv rfl (by simp) h4 (by omega) (by simp);rw[nZ] at hw;simp only[bT,bF,if_false,oB,oS,hw,true_and];simp only[cO,cx,cM] at hc;by_cases bJ:wrk nest []<=1200/\(pts nest []).length<=120
  ·obtain⟨rfl,rfl⟩:=hc.1 bJ;rw[if_pos bJ];rfl
  ·obtain rfl:=hc.2 bJ;rw[if_neg bJ];rfl
end Go.LN
namespace Go.LN
def nameL:List UInt8->Bool
 | [c]=>decide (65<=c.toNat)&&decide (c.toNat<=68)
 | _=>false
theorem zLq{P:UInt8->Prop}(h:∀n:Fin 256,P (UInt8.ofNat n.val))(c:UInt8):P c:=by
 have:=h ⟨c.toNat,c.toNat_lt⟩;simpa using this
theorem zLJ(c:UInt8):decide (0<=Lib.indexByte [65,66,67,68] c)=nameL [c]:=
 zLq (P:=λc=>decide (0<=Lib.indexByte [65,66,67,68] c)=nameL [c]) (by decide +kernel) c
theorem implIsArray(s:Str):kK s=some (nameL s.l):=by
 obtain⟨l⟩:=s;unfold kK
 match l with
 | []=>rfl
 | [c]=>
  have:jA ⟨[65,66,67,68]⟩ ⟨[c]⟩=some (decide (0<=Lib.indexByte [65,66,67,68] c)):=rfl;simp only[this,zLJ];rfl
 | c::d::r=>
  have:(((c::d::r).length:Int)==1)=false:=by simp;omega
  simp only[this,bF,if_false];rfl
def BR(l:List zG):Prop:=l.length<=100000/\∀a∈l,a.Dims.length<=1000
def dimB(n:Int):Bool:=decide (1<=n)&&decide (n<=6)
def arrI(l:List zG)(i:Nat):Bool:=
 nameL (l.getD i ⟨⟨[]⟩,[]⟩).Name.l&&(decide (i=0)||Op.bytesLess (l.getD (i - 1) ⟨⟨[]⟩,[]⟩).Name.l (l.getD i ⟨⟨[]⟩,[]⟩).Name.l)&&(decide (1<=(l.getD i ⟨⟨[]⟩,[]⟩).Dims.length)&&decide ((l.getD i ⟨⟨[]⟩,[]⟩).Dims.length<=2))&&(l.getD i ⟨⟨[]⟩,[]⟩).Dims.all dimB
def arrB(l:List zG):Bool:=decide (l.length<=4)&&(List.range l.length).all (arrI l)
theorem implDims(d:List Int)(h:d.length<=1000):xR d uL=some (!(d.all dimB)):=by
 rw[zBp (p:=λx=>!(dimB x)) d (λx _=>by unfold uL;rw[mM];rfl) (by omega)]
 congr 1
 rw[eu];simp
theorem len12(n:Nat):(decide ((1:Int)<=(n:Int))&&decide ((n:Int)<=2))=(decide (1<=n)&&decide (n<=2)):=by
 have e1:decide ((1:Int)<=(n:Int))=decide (1<=n):=by simp;omega
 have e2:decide ((n:Int)<=2)=decide (n<=2):=by simp;omega
 rw[e1,e2]
theorem implArrays(l:List zG)(h:BR l):jI l=some (arrB l):=by
 unfold jI arrB;have bo:=h.1;have hl:=zHj (n:=l.length) (f:=rA l) (P:=arrI l) (λi hi=>by
  rw[rA];have h1:((i:Int)<(l.length:Int)):=by omega
  have ha:=h.2 _ (gM hi);have hg:l.getD i ⟨⟨[]⟩,[]⟩=l[i]:=by simp[hi]
  simp only[h1,dT,if_true,xK hi,oB,oS,implIsArray,arrI,hg];rw[sT (by omega)];cases hn:nameL l[i].Name.l with
  | false=>simp
  | true=>
   have hwd:wT (l[i].Dims.length:Int) 1 2=some (decide (1<=l[i].Dims.length)&&decide (l[i].Dims.length<=2)):=by rw[mM,len12]
   by_cases h0:i=0
   ·subst h0;have hz:¬(((0:Nat):Int)>0):=by omega
    simp only[hz,dF,dT,bF,if_false,bT,hwd,oS,Bool.true_or,cP,oP,implDims _ ha,id];cases (decide (1<=l[0].Dims.length)&&decide (l[0].Dims.length<=2)) with
    | false=>simp
    | true=>cases l[0].Dims.all dimB <;> simp
   ·have hz:((i:Int)>0):=by omega
    have hW:W ((i:Int) - 1)=((i - 1:Nat):Int):=by rw[oM (by omega) (by omega)];omega
    have hi1:i - 1<l.length:=by omega
    have hg1:l.getD (i - 1) ⟨⟨[]⟩,[]⟩=l[i - 1]:=by simp[hi1]
    simp only[hz,h0,hW,xK hi1,hg1,dF,dT,bF,if_false,if_true,bT,hwd,oS,Bool.false_or,cP,oP,implDims _ ha,id];cases Op.bytesLess l[i - 1].Name.l l[i].Name.l with
    | false=>simp
    | true=>
     cases (decide (1<=l[i].Dims.length)&&decide (l[i].Dims.length<=2)) with
     | false=>simp
     | true=>cases l[i].Dims.all dimB <;> simp) (by
  rw[rA];simp)
 rw[hl];have e2:decide ((l.length:Int)<=4)=decide (l.length<=4):=by simp;omega
 cases hb:(List.range l.length).all (arrI l) with
 | false=>simp
 | true=>simp[e2]
def accB(a:zH)(d:Int):Bool:=nameL a.Array.l&&(decide (1<=a.Subs.length)&&decide (a.Subs.length<=2))&&a.Subs.all (okA d)
theorem implAcc1(a:zA)(h:BA a)(d:Int):qD a d=some (!(okA d a)):=implBound a h d
theorem implAccess(a:zH)(h:BL a.Subs)(d:Int):mI a d=some (accB a d):=by
 unfold mI accB;rw[implIsArray,mM,len12];have hc:=zDg (f:=λx0=>qD x0 d) (p:=λx=>!(okA d x)) a.Subs (λx hx=>implAcc1 x (h.2 x hx) d) (by have:=h.1;omega);cases nameL a.Array.l with
 | false=>rfl
 | true=>
  cases hb:(decide (1<=a.Subs.length)&&decide (a.Subs.length<=2)) with
  | false=>rfl
  | true=>
   simp only[oB,oS,if_true,hc,oP,id,cP];rw[dw];simp
end Go.LN
namespace Go.LN
def noA(a:zA):Bool:=decide (a.Coefs.length=0)&&(a.Const==0)
def noC(a:zH):Bool:=(a.Array.l==[])&&decide (a.Subs.length=0)
theorem len0(n:Nat):((n:Int)==0)=decide (n=0):=by
 by_cases h:n=0
 ·simp[h]
 ·have:¬(n:Int)=0:=by omega
  simp[h]
theorem implNoA(a:zA):mJ a=some (noA a):=by
 unfold mJ noA;rw[len0];by_cases h:a.Coefs.length=0 <;> simp[h]
theorem implNoC(a:zH):pE a=some (noC a):=by
 unfold pE noC;rw[len0];cases h:(a.Array.l==[]) <;> simp
def BE:Nat->zD->Prop
 | 0,e=>BA e.Index/\BL e.Read.Subs/\e.Kids=[]
 | n+1,e=>BA e.Index/\BL e.Read.Subs/\e.Kids.length<=1000/\∀k∈e.Kids,BE n k
theorem BE.own{n:Nat}{e:zD}(h:BE n e):BA e.Index/\BL e.Read.Subs/\e.Kids.length<=1000:=by
 cases n with
 | zero=>obtain⟨h1,h2,h3⟩:=h;exact⟨h1,h2,by simp[h3]⟩
 | succ n=>exact⟨h.1,h.2.1,h.2.2.1⟩
theorem BE.kid{n:Nat}{e k:zD}(h:BE n e)(hk:k∈e.Kids):∃m,n=m+1/\BE m k:=by
 cases n with
 | zero=>obtain⟨_,_,h3⟩:=h;rw[h3] at hk;cases hk
 | succ n=>exact⟨n,rfl,h.2.2.2 k hk⟩
def kidsN(k:Int):Int:=if k=1∨k=2∨k=3 then 0 else if k=4∨k=5∨k=6 then 2 else -1
def ownB(e:zD)(d:Int):Bool:=
 if e.Kind=2 then(e.Num==0)&&noC e.Read&&okA d e.Index
 else if e.Kind=3 then(e.Num==0)&&noA e.Index&&accB e.Read d
 else if e.Kind=1 then(decide (0<=e.Num)&&decide (e.Num<=99))&&noA e.Index&&noC e.Read
 else(e.Num==0)&&noA e.Index&&noC e.Read
theorem zLr(a:zA)(d:Int):okA d a=(validB a&&decide ((depF a:Int)<=d)):=rfl
def shapeB(d:Int):Nat->zD->Bool
 | 0,_=>false
 | n+1,e=>(kidsN e.Kind==(e.Kids.length:Int))&&ownB e d&&e.Kids.all (shapeB d n)
def cnt:Nat->zD->Nat
 | 0,_=>1
 | n+1,e=>1+(e.Kids.map (cnt n)).sum
theorem zCu{d:Int}{n:Nat}{e:zD}(h:shapeB d (n+1) e=true):(e.Kids=[]∨∃a b,e.Kids=[a,b])/\∀k∈e.Kids,shapeB d n k=true:=by
 simp only[shapeB,bA] at h;refine⟨?_,ci.1 h.2⟩;have:=eq_of_beq h.1.1;unfold kidsN at this
 match hk:e.Kids with
 | []=>exact .inl rfl
 | [a]=>rw[hk] at this;simp at this;split at this <;> (try split at this) <;> omega
 | [a,b]=>exact .inr ⟨a,b,rfl⟩
 | a::b::c::r=>rw[hk] at this;simp at this;split at this <;> (try split at this) <;> omega
def headB(e:zD)(d:Int):Bool:=(kidsN e.Kind==(e.Kids.length:Int))&&ownB e d
theorem zJ5(e:zD)(d deep c:Int)(h1:BA e.Index)(h2:BL e.Read.Subs)(hc:¬(W (c+1)>12))(hd:¬(deep>5)):
 uG e d deep c=if headB e d=true then(if e.Kids.length=0 then some (true,W (c+1)) else(do
  let x1<-idx e.Kids 0
  let (y12,y13)<-uG x1 d (W (deep+1)) (W (c+1))
  if y12 then
   let x2<-idx e.Kids 1
   let (y15,y16)<-uG x2 d (W (deep+1)) y13
   pure (y15,y16)
  else
   pure (false,y13))) else some (false,W (c+1)):=by
 have h':e.Index.Coefs.length<=1048576:=by unfold BA at h1;omega
 have hop:eJ e.Kind=some (decide (4<=e.Kind)&&decide (e.Kind<=6)):=by unfold eJ;rw[mM];rfl
 rw[uG]
 simp only[hc,hd,dF,bF,if_false,oP,oB,oS,implNoA,implNoC,implValid _ h',implDepth _ h',implAccess _ h2,hop,mM,len0,same,headB,ownB]
 by_cases k1:e.Kind=1
 ·have hk:kidsN e.Kind=0:=by rw[k1];rfl
  have b1:(e.Kind != 1)=false:=by simp[k1]
  have b1':(e.Kind==1)=true:=by simp[k1]
  have b2:(e.Kind != 2)=true:=by simp[k1]
  have b3:(e.Kind != 3)=true:=by simp[k1]
  have n2:¬e.Kind=2:=by omega
  have n3:¬e.Kind=3:=by omega
  have hz:((0:Int)==(e.Kids.length:Int))=decide (e.Kids.length=0):=by rw[<- len0];exact Bool.beq_comm
  simp only[b1,b1',b2,b3,hk,hz,n2,n3,k1,show kidsN 1=0 from rfl,if_true,if_false,bF]
  cases noA e.Index <;> cases noC e.Read <;> cases (decide (0<=e.Num)&&decide (e.Num<=99)) <;> by_cases hl:e.Kids.length=0 <;> simp[hl]
 ·have b1:(e.Kind != 1)=true:=by simp[k1]
  have b1':(e.Kind==1)=false:=by simp[k1]
  by_cases k2:e.Kind=2
  ·have hk:kidsN e.Kind=0:=by rw[k2];rfl
   have b2:(e.Kind != 2)=false:=by simp[k2]
   have b2':(e.Kind==2)=true:=by simp[k2]
   have b3:(e.Kind != 3)=true:=by simp[k2]
   have hz:((0:Int)==(e.Kids.length:Int))=decide (e.Kids.length=0):=by rw[<- len0];exact Bool.beq_comm
   simp only[b1,b1',b2,b2',b3,hk,hz,k2,show kidsN 2=0 from rfl,if_true,if_false,bF,zLr,bne]
   cases (e.Num==0) <;> cases noC e.Read <;> cases validB e.Index <;> by_cases hdd:(depF e.Index:Int)<=d <;> by_cases hl:e.Kids.length=0 <;> simp[hl,hdd]
  ·have b2:(e.Kind != 2)=true:=by simp[k2]
   have b2':(e.Kind==2)=false:=by simp[k2]
   by_cases k3:e.Kind=3
   ·have hk:kidsN e.Kind=0:=by rw[k3];rfl
    have b3:(e.Kind != 3)=false:=by simp[k3]
    have b3':(e.Kind==3)=true:=by simp[k3]
    have hz:((0:Int)==(e.Kids.length:Int))=decide (e.Kids.length=0):=by rw[<- len0];exact Bool.beq_comm
    simp only[b1,b1',b2,b2',b3,b3',hk,hz,k3,k2,show kidsN 3=0 from rfl,if_true,if_false,bF,bne]
    cases (e.Num==0) <;> cases noA e.Index <;> cases accB e.Read d <;> by_cases hl:e.Kids.length=0 <;> simp[hl]
   ·have b3:(e.Kind != 3)=true:=by simp[k3]
    have b3':(e.Kind==3)=false:=by simp[k3]
    simp only[b1,b1',b2,b2',b3,b3',k1,k2,k3,if_true,if_false,bF,bne]
    by_cases ho:4<=e.Kind/\e.Kind<=6
    ·have hk:kidsN e.Kind=2:=by unfold kidsN;rw[if_neg (by omega),if_pos (by omega)]
     have hz:((2:Int)==(e.Kids.length:Int))=decide (e.Kids.length=2):=by
      by_cases hl:e.Kids.length=2
      ·simp[hl]
      ·have:¬(2:Int)=(e.Kids.length:Int):=by omega
       simp[hl,this]
     have hz':((e.Kids.length:Int)==2)=decide (e.Kids.length=2):=by rw[<- hz];exact Bool.beq_comm
     simp only[hk,hz,hz',ho.1,ho.2,dT,cP]
     have eta:∀(o:Option (Bool×Int)),(o.bind λx=>some (x.fst,x.snd))=o:=by rintro(_|⟨a,b⟩) <;> rfl
     cases (e.Num==0) <;> cases noA e.Index <;> cases noC e.Read <;> by_cases hl:e.Kids.length=2 <;> first|(simp[hl];done)|(simp[hl];exact eta _)
    ·have hk:kidsN e.Kind=-1:=by unfold kidsN;rw[if_neg (by omega),if_neg (by omega)]
     have hz:((-1:Int)==(e.Kids.length:Int))=false:=beq_false_of_ne (by omega)
     have ho':(decide (4<=e.Kind)&&decide (e.Kind<=6))=false:=by
      rw[Bool.and_eq_false_iff];simp;omega
     simp only[hk,hz,ho']
     cases (e.Num==0) <;> cases noA e.Index <;> cases noC e.Read <;> simp
theorem implScan(d:Int):∀(L m:Nat) (e:zD) (c:Nat),L<=5->BE m e->c<=12->∃r c',uG e d (6 - (L:Int)) (c:Int)=some (r,c')/\(shapeB d L e=true/\c+cnt L e<=12->r=true/\c'=((c+cnt L e:Nat):Int))/\(¬(shapeB d L e=true/\c+cnt L e<=12)->r=false)
 | 0,m,e,c,hL,hb,hc=>by
  have hw:W ((c:Int)+1)=((c+1:Nat):Int):=sT (by omega)
  rw[uG]
  have hd:((6:Int) - ((0:Nat):Int)>5):=by omega
  simp only[hd,dT,oP]
  refine⟨false,W ((c:Int)+1),?_,⟨λh=>(by cases h.1),λ_=>rfl⟩⟩
  by_cases h:W ((c:Int)+1)>12 <;> simp[h]
 | L+1,m,e,c,hL,hb,hc=>by
  have hw:W ((c:Int)+1)=((c+1:Nat):Int):=sT (by omega)
  obtain⟨b1,b2,b3⟩:=hb.own
  have hd:¬((6:Int) - ((L+1:Nat):Int)>5):=by omega
  have hdw:W ((6:Int) - ((L+1:Nat):Int)+1)=6 - (L:Int):=by rw[oM (by omega) (by omega)];omega
  have hcp:1<=cnt (L+1) e:=by rw[cnt];omega
  by_cases hc12:c+1>12
  ·rw[uG]
   have h12:(W ((c:Int)+1)>12):=by rw[hw];omega
   simp only[h12,dT,if_true,oP,oB,oS]
   exact⟨false,_,rfl,λh=>absurd h.2 (by omega),λ_=>rfl⟩
  ·have h12:¬(W ((c:Int)+1)>12):=by rw[hw];omega
   rw[zJ5 e d _ _ b1 b2 h12 hd]
   by_cases hh:headB e d=true
   ·rw[if_pos hh]
    have hsh:shapeB d (L+1) e=e.Kids.all (shapeB d L):=by
     unfold headB at hh
     rw[shapeB,hh,cP]
    by_cases hl:e.Kids.length=0
    ·rw[if_pos hl]
     have hn:e.Kids=[]:=ei.1 hl
     refine⟨true,_,rfl,λ_=>⟨rfl,?_⟩,λh=>absurd ⟨by rw[hsh,hn];rfl,by rw[cnt,hn];simp;omega⟩ h⟩
     rw[hw,cnt,hn];rfl
    ·rw[if_neg hl]
     have hkn:∃a b,e.Kids=[a,b]:=by
      simp only[headB,bA] at hh
      have:=eq_of_beq hh.1
      unfold kidsN at this
      match hk:e.Kids with
      | []=>rw[hk] at hl;simp at hl
      | [a]=>rw[hk] at this;simp at this;split at this <;> (try split at this) <;> omega
      | [a,b]=>exact⟨a,b,rfl⟩
      | a::b::c::r=>rw[hk] at this;simp at this;split at this <;> (try split at this) <;> omega
     obtain⟨a,b,hk⟩:=hkn
     obtain⟨m1,_,hba⟩:=hb.kid (k:=a) (by rw[hk];simp)
     obtain⟨m2,_,hbb⟩:=hb.kid (k:=b) (by rw[hk];simp)
     have i0:idx e.Kids 0=some a:=by rw[hk];rfl
     have i1:idx e.Kids 1=some b:=by rw[hk];rfl
     have hcnt:cnt (L+1) e=1+(cnt L a+cnt L b):=by rw[cnt,hk];simp
     have hsh2:shapeB d (L+1) e=(shapeB d L a&&shapeB d L b):=by rw[hsh,hk];simp
     rw[hdw,hw]
     obtain⟨r1,c1,e1,k1,k2⟩:=implScan d L m1 a (c+1) (by omega) hba (by omega)
     simp only[i0,i1,e1,oB,oS,oP]
     by_cases q1:shapeB d L a=true/\c+1+cnt L a<=12
     ·obtain⟨rfl,rfl⟩:=k1 q1
      obtain⟨r2,c2,e2,k3,k4⟩:=implScan d L m2 b (c+1+cnt L a) (by omega) hbb q1.2
      simp only[if_true,e2,oS]
      refine⟨r2,c2,rfl,λh=>?_,λh=>?_⟩
      ·rw[hsh2,hcnt,bA] at h
       obtain⟨rfl,rfl⟩:=k3 ⟨h.1.2,by omega⟩
       refine⟨rfl,?_⟩
       rw[hcnt];congr 1;omega
      ·refine k4 λh'=>h ⟨by rw[hsh2,q1.1,h'.1];rfl,by rw[hcnt];omega⟩
     ·obtain rfl:=k2 q1
      simp only[bF,if_false]
      refine⟨false,c1,rfl,λh=>?_,λ_=>rfl⟩
      rw[hsh2,hcnt,bA] at h
      exact absurd ⟨h.1.1,by omega⟩ q1
   ·rw[if_neg hh]
    refine⟨false,_,rfl,λh=>?_,λ_=>rfl⟩
    have:=h.1
    unfold headB at hh
    rw[shapeB,bA] at this
    exact absurd this.1 hh
def BS(s:zM):Prop:=BL s.Write.Subs/\∃m,BE m s.Value
def stmtB(s:zM)(d:Int):Bool:=(decide (0<=d)&&decide (d<=4))&&accB s.Write d&&(shapeB d 5 s.Value&&decide (cnt 5 s.Value<=12))
theorem implStmt(s:zM)(d:Int)(h:BS s):kP s d=some (stmtB s d):=by
 obtain⟨h1,m,h2⟩:=h;unfold kP stmtB;rw[mM,implAccess _ h1];obtain⟨r,c',e1,k1,k2⟩:=implScan d 5 m s.Value 0 (by omega) h2 (by omega);rw[show (6:Int) - ((5:Nat):Int)=1 by omega,nZ] at e1;rw[e1];simp only[cO] at k1 k2;have hr:r=(shapeB d 5 s.Value&&decide (cnt 5 s.Value<=12)):=by
  by_cases q:shapeB d 5 s.Value=true/\cnt 5 s.Value<=12
  ·rw[(k1 q).1,q.1];simp[q.2]
  ·rw[k2 q];cases hs:shapeB d 5 s.Value with
   | false=>rfl
   | true=>
    have:¬cnt 5 s.Value<=12:=λh=>q ⟨hs,h⟩;simp[this]
 rw[hr];cases (decide (0<=d)&&decide (d<=4)) <;> cases accB s.Write d <;> simp
end Go.LN
namespace Go.LN
def szL:List Int->Int->Int
 | [],n=>n
 | d::l,n=>szL l (W (n*d))
def sizeF(a:zG):Int:=szL a.Dims 1
theorem zHo(a:zG)(h:a.Dims.length<=1048576):∀(j i:Nat) (n:Int),i+j=a.Dims.length->tL a n (i:Int)=some (szL (a.Dims.drop i) n):=by
 intro j
 induction j with
 | zero=>
  intro i n hi;rw[tL];have:¬((i:Int)<(a.Dims.length:Int)):=by omega
  simp only[this,dF,bF,if_false];rw[dN.2 (by omega)];rfl
 | succ j ih=>
  intro i n hi;rw[tL];have aV:i<a.Dims.length:=by omega
  have h1:((i:Int)<(a.Dims.length:Int)):=by omega
  simp only[h1,dT,if_true,xK aV,oB,oS];rw[sT (by omega),ih (i+1) _ (by omega),gC aV,szL]
theorem implSize(a:zG)(h:a.Dims.length<=1048576):mP a=some (sizeF a):=by
 unfold mP sizeF;have:=zHo a h _ 0 1 (cO _);rw[nZ,cz] at this;rw[this];rfl
def cellS(p:List Int):List Int->List zA->Int->Option Int
 | _,[],n=>some n
 | [],_::_,_=>none
 | d::ds,s::ss,n=>if 0<=evA s p/\evA s p<d then cellS p ds ss (W (W (n*d)+evA s p)) else none
def cellF(a:zH)(p:List Int):List zG->Int->Int
 | [],_=>-1
 | x::l,first=>if x.Name.l=a.Array.l then(if a.Subs.length=x.Dims.length then(match cellS p x.Dims a.Subs 0 with|none=>-1|some n=>W (first+n)) else -1) else cellF a p l (W (first+sizeF x))
def AV(a:zH):Prop:=a.Subs ≠ []/\a.Subs.length<=2/\∀s∈a.Subs,s.Coefs.length=4
def RVa(l:List zG):Prop:=l.length<=100000/\∀x∈l,x.Dims.length<=1000/\∀d∈x.Dims,dimB d=true
theorem AV.of{a:zH}{d:Int}(h:accB a d=true):AV a:=by
 simp only[accB,bA,decide_eq_true_eq] at h;obtain⟨⟨h1,h2,h3⟩,h4⟩:=h;refine⟨by intro e;rw[e] at h2;simp at h2,h3,λs hs=>?_⟩;have:=ci.1 h4 s hs;simp only[okA,validB,bA,decide_eq_true_eq] at this;exact this.1.1.1
theorem RVa.of{l:List zG}(h:BR l)(hb:arrB l=true):RVa l:=by
 refine⟨h.1,λx hx=>⟨h.2 x hx,?_⟩⟩;simp only[arrB,bA] at hb;obtain⟨i,hi,rfl⟩:=ec.1 hx;have:=ci.1 hb.2 i (cG.2 hi);have hg:l.getD i ⟨⟨[]⟩,[]⟩=l[i]:=by simp[hi]
 simp only[arrI,hg,bA] at this;exact ci.1 this.2
theorem zHp(a:zH)(p:List Int)(x:zG)(ha:AV a)(hp:p.length<=4)(hx:x.Dims.length<=1000/\∀d∈x.Dims,dimB d=true)(hl:a.Subs.length=x.Dims.length):
 ∀(j i:Nat) (n:Int),i+j=a.Subs.length->uS a p x n (i:Int)=some (match cellS p (x.Dims.drop i) (a.Subs.drop i) n with|none=>.ret (-1)|some m=>.done m):=by
 obtain⟨a1,a2,a3⟩:=ha
 intro j
 induction j with
 | zero=>
  intro i n hi
  rw[uS]
  have:¬((i:Int)<(a.Subs.length:Int)):=by omega
  simp only[this,dF,bF,if_false]
  rw[show a.Subs.drop i=[] from dN.2 (by omega),cellS];rfl
 | succ j ih=>
  intro i n hi
  rw[uS]
  have aV:i<a.Subs.length:=by omega
  have hlt2:i<x.Dims.length:=by omega
  have h1:((i:Int)<(a.Subs.length:Int)):=by omega
  have hc:=a3 _ (gM aV)
  have hd:=hx.2 _ (gM hlt2)
  simp only[dimB,bA,decide_eq_true_eq] at hd
  have hW:W (x.Dims[i] - 1)=x.Dims[i] - 1:=oM (by omega) (by omega)
  simp only[h1,dT,if_true,xK aV,xK hlt2,oB,oS,implEval _ _ (show p.length<=a.Subs[i].Coefs.length by omega) (by omega),hW,mM]
  rw[sT (by omega),gC aV,gC hlt2,cellS]
  by_cases hv:0<=evA a.Subs[i] p/\evA a.Subs[i] p<x.Dims[i]
  ·have e1:(decide (0<=evA a.Subs[i] p)&&decide (evA a.Subs[i] p<=x.Dims[i] - 1))=true:=by
    rw[bA,decide_eq_true_eq,decide_eq_true_eq];omega
   simp only[e1,bT,bF,if_false]
   rw[if_pos hv]
   exact ih (i+1) _ (by omega)
  ·have e1:(decide (0<=evA a.Subs[i] p)&&decide (evA a.Subs[i] p<=x.Dims[i] - 1))=false:=by
    rw[Bool.and_eq_false_iff,decide_eq_false_iff_not,decide_eq_false_iff_not];omega
   simp only[e1,dx,if_true]
   rw[if_neg hv];rfl
theorem zHq(P:zP)(a:zH)(p:List Int)(ha:AV a)(hp:p.length<=4)(hR:RVa P.Arrays):∀(j i:Nat) (first:Int),i+j=P.Arrays.length ->
 (match vV P a p first (i:Int) with|none=>none|some (.ret r)=>some r|some (.done _)=>some (-1))=some (cellF a p (P.Arrays.drop i) first):=by
 obtain⟨r1,r2⟩:=hR
 intro j
 induction j with
 | zero=>
  intro i first hi
  rw[vV]
  have:¬((i:Int)<(P.Arrays.length:Int)):=by omega
  simp only[this,dF,bF,if_false]
  rw[dN.2 (by omega)];rfl
 | succ j ih=>
  intro i first hi
  rw[vV]
  have aV:i<P.Arrays.length:=by omega
  have h1:((i:Int)<(P.Arrays.length:Int)):=by omega
  have hx:=r2 _ (gM aV)
  simp only[h1,dT,if_true,xK aV,oB,oS,implSize _ (show P.Arrays[i].Dims.length<=1048576 by omega)]
  rw[sT (by omega),gC aV,cellF]
  by_cases hn:P.Arrays[i].Name.l=a.Array.l
  ·have hb:(P.Arrays[i].Name.l==a.Array.l)=true:=by simpa using hn
   rw[if_pos hn]
   simp only[hb,bT,bF,if_false]
   clear hb hn
   by_cases hl:a.Subs.length=P.Arrays[i].Dims.length
   ·have hl':((a.Subs.length:Int) != (P.Arrays[i].Dims.length:Int))=false:=by simp[hl]
    have h2:=zHp a p P.Arrays[i] ha hp hx hl _ 0 0 (cO _)
    rw[nZ,cz,cz] at h2
    rw[if_pos hl]
    simp only[hl',bF,if_false,h2,oS]
    cases cellS p P.Arrays[i].Dims a.Subs 0 <;> rfl
   ·have hl':((a.Subs.length:Int) != (P.Arrays[i].Dims.length:Int))=true:=by simp;omega
    rw[if_neg hl]
    simp only[hl',if_true]
    rfl
  ·have hb:(P.Arrays[i].Name.l==a.Array.l)=false:=by simpa using hn
   rw[if_neg hn]
   simp only[hb,dx,if_true]
   exact ih (i+1) _ (by omega)
theorem implCell(P:zP)(a:zH)(p:List Int)(ha:AV a)(hp:p.length<=4)(hR:RVa P.Arrays):qY P a p=some (cellF a p P.Arrays 0):=by
 unfold qY;have:=zHq P a p ha hp hR _ 0 0 (cO _);rw[nZ,cz] at this;cases h:vV P a p 0 0 with
 | none=>rw[h] at this;cases this
 | some o=>
  rw[h] at this;cases o with
  | ret r=>exact this
  | done u=>exact this
end Go.LN
namespace Go.LN
theorem specCopyAff(a:zA)(h:BA a):uX a=some a:=by
 obtain⟨C,k⟩:=a;unfold uX BA at *;simp only[len0] at h ⊢;by_cases h0:C.length=0
 ·have:C=[]:=ei.1 h0;subst this;rfl
 ·have hpn:app 8 ([]:List Int) C=some C:=zDi C (by omega);simp only[h0,dF,bF,if_false,hpn,oB,oS];rfl
theorem zFt(a:zH)(h:BL a.Subs):∀(j i:Nat) (o:List zA),i+j=a.Subs.length->o.length=i->wP a (i:Int) o=some (o++a.Subs.drop i):=by
 obtain⟨h1,h2⟩:=h;intro j
 induction j with
 | zero=>
  intro i o hi ho;rw[wP];have:¬((i:Int)<(a.Subs.length:Int)):=by omega
  simp only[this,dF,bF,if_false];rw[show a.Subs.drop i=[] from dN.2 (by omega),cq];rfl
 | succ j ih=>
  intro i o hi ho;rw[wP];have aV:i<a.Subs.length:=by omega
  have hc:((i:Int)<(a.Subs.length:Int)):=by omega
  have happ:app 32 o [a.Subs[i]]=some (o++[a.Subs[i]]):=gV (by simp;omega);simp only[hc,dT,if_true,xK aV,oB,oS,specCopyAff _ (h2 _ (gM aV)),happ];rw[sT (by omega),ih (i+1) _ (by omega) (by simp[ho]),cI,List.singleton_append,<- gC aV]
theorem specCopyAcc(a:zH)(h:BL a.Subs):uF a=some a:=by
 unfold uF;have:=zFt a h _ 0 [] (cO _) rfl;rw[nZ,cz,cM] at this;rw[this];rfl
def readsF:Nat->zD->List zH
 | 0,_=>[]
 | n+1,e=>if e.Kind=3 then[e.Read] else e.Kids.flatMap (readsF n)
theorem zI4{d:Int}{n:Nat}{e:zD}(h:shapeB d (n+1) e=true)(h3:e.Kind=3):e.Kids=[]/\accB e.Read d=true:=by
 simp only[shapeB,bA] at h;have hk:=eq_of_beq h.1.1;rw[h3,show kidsN 3=0 from rfl] at hk;refine⟨ei.1 (by omega),?_⟩;have ho:=h.1.2;simp only[ownB,h3,show ¬(3:Int)=2 by decide,if_false,if_true,bA] at ho;exact ho.2
theorem zFu{d:Int}:∀(n:Nat) (e:zD),shapeB d n e=true->∀a∈readsF n e,accB a d=true
 | 0,e,h,a,ha=>by cases ha
 | n+1,e,h,a,ha=>by
  rw[readsF] at ha
  by_cases h3:e.Kind=3
  ·rw[if_pos h3] at ha
   rw[cA.1 ha]
   exact(zI4 h h3).2
  ·rw[if_neg h3] at ha
   obtain⟨k,hk,hk'⟩:=cD.1 ha
   exact zFu n k ((zCu h).2 k hk) a hk'
theorem zAB{d:Int}:∀(n:Nat) (e:zD),shapeB d n e=true->(readsF n e).length<=2 ^ n
 | 0,e,h=>by cases h
 | n+1,e,h=>by
  have hp:=Nat.one_le_two_pow (n:=n)
  rw[readsF,Nat.pow_succ]
  by_cases h3:e.Kind=3
  ·rw[if_pos h3];simp;omega
  ·rw[if_neg h3]
   obtain⟨h1,h2⟩:=zCu h
   rcases h1 with hk|⟨a,b,hk⟩
   ·rw[hk];simp
   ·rw[hk] at h2 ⊢
    have ha:=zAB n a (h2 a (by simp))
    have hb:=zAB n b (h2 b (by simp))
    simp only[ck,List.flatMap_nil,cq,lA]
    omega
theorem implReads{d:Int}:∀(n:Nat) (e:zD),shapeB d n e=true->n<=10->jE e=some (readsF n e)
 | 0,e,h,_=>by cases h
 | n+1,e,h,hn=>by
  have hpw:2 ^ n<=2 ^ 10:=Nat.pow_le_pow_right (by omega) (by omega)
  rw[jE,readsF]
  by_cases h3:e.Kind=3
  ·have:(e.Kind==3)=true:=by simpa using h3
   rw[if_pos h3,if_pos this];rfl
  ·have:(e.Kind==3)=false:=by simpa using h3
   rw[if_neg h3]
   simp only[this,bF,if_false,same]
   obtain⟨h1,h2⟩:=zCu h
   rcases h1 with hk|⟨a,b,hk⟩
   ·rw[nC]
    simp[hk]
   ·rw[hk] at h2 ⊢
    have ra:=implReads n a (h2 a (by simp)) (by omega)
    have rb:=implReads n b (h2 b (by simp)) (by omega)
    have la:=zAB n a (h2 a (by simp))
    have lb:=zAB n b (h2 b (by simp))
    have l0:((0:Int)<(e.Kids.length:Int)):=by rw[hk];simp
    have l1:((1:Int)<(e.Kids.length:Int)):=by rw[hk];simp
    have l2:¬((2:Int)<(e.Kids.length:Int)):=by rw[hk];simp
    have i0:idx e.Kids 0=some a:=by rw[hk];rfl
    have i1:idx e.Kids 1=some b:=by rw[hk];rfl
    have w0:W ((0:Int)+1)=1:=by rw[oM (by omega) (by omega)];rfl
    have w1:W ((1:Int)+1)=2:=by rw[oM (by omega) (by omega)];rfl
    have p0:app 40 ([]:List zH) (readsF n a)=some (readsF n a):=by rw[gV (by simp;omega)];rfl
    have p1:app 40 (readsF n a) (readsF n b)=some (readsF n a++readsF n b):=gV (by omega)
    rw[nC]
    simp only[l0,dT,if_true,oB,oS,i0,same,ra,p0,w0]
    rw[nC]
    simp only[l1,dT,if_true,oB,oS,i1,same,rb,p1,w1]
    rw[nC]
    simp only[l2,dF,bF,if_false,oP,oS,id,ck,List.flatMap_nil,cq]
def cellA(A:List zG)(p:List Int)(a:zH):Int:=cellF a p A 0
def stOk(A:List zG)(s:zM)(p:List Int):Bool:=decide (0<=cellA A p s.Write)&&(readsF 5 s.Value).all λa=>decide (0<=cellA A p a)
theorem zI5{s:zM}{d:Int}(h:stmtB s d=true):AV s.Write/\shapeB d 5 s.Value=true/\∀a∈readsF 5 s.Value,AV a:=by
 simp only[stmtB,bA] at h;exact⟨AV.of h.1.2,h.2.1,λa ha=>AV.of (zFu 5 _ h.2.1 a ha)⟩
theorem implStmtOk(P:zP)(s:zM)(p:List Int){d:Int}(h:stmtB s d=true)(hp:p.length<=4)(hR:RVa P.Arrays):pH P s p=some (stOk P.Arrays s p):=by
 obtain⟨h1,h2,h3⟩:=zI5 h;have hl:=zAB 5 _ h2;unfold pH stOk;have hc:=zHE (f:=λx0=>uI x0 P p) (p:=λa=>!(decide (0<=cellA P.Arrays p a))) (readsF 5 s.Value) (λa ha=>by
  unfold uI;rw[implCell P a p (h3 a ha) hp hR];simp only[oB,oS,oP,cellA];by_cases q:0<=cellF a p P.Arrays 0
  ·have:¬cellF a p P.Arrays 0<0:=by omega
   simp[q,this]
  ·have:cellF a p P.Arrays 0<0:=by omega
   simp[q,this]) (by omega)
 rw[implCell P s.Write p h1 hp hR,implReads 5 s.Value h2 (by omega)];simp only[oB,oS,hc,oP,cellA];by_cases q:0<=cellF s.Write p P.Arrays 0
 ·have:cellF s.Write p P.Arrays 0>=0:=q;simp only[this,q,dT,if_true,oS,id,cP];rw[dw];simp
 ·have:¬cellF s.Write p P.Arrays 0>=0:=q;simp[this,q]
def ptB(p:List Int):Bool:=decide (p.length<=4)&&p.all λn=>decide (-9999<=n)&&decide (n<=9999)
theorem implPoint(p:List Int)(h:p.length<=1048576):gG p=some (ptB p):=by
 unfold gG ptB;have hc:=zBp (f:=pM) (p:=λn=>!(decide (-9999<=n)&&decide (n<=9999))) p (λx _=>by unfold pM;rw[mM];rfl) (by omega);have e:decide ((p.length:Int)<=4)=decide (p.length<=4):=by simp;omega
 rw[e];by_cases h4:p.length<=4
 ·simp only[h4,dT,if_true,hc,oB,oS,oP,id,cP];rw[dw];simp
 ·simp[h4]
theorem zIy:∀(ls:List zE) (p q:List Int),q∈pts ls p->q.length=p.length+ls.length
 | [],p,q,h=>by rw[pts,cA] at h;subst h;rfl
 | l::ls,p,q,h=>by
  rw[pts] at h
  obtain⟨v,_,hv⟩:=cD.1 h
  have:=zIy ls (p++[v]) q hv
  rw[this];simp;omega
theorem zEb{nest:List zE}:(nestPts nest).1.length<=120/\∀q∈(nestPts nest).1,q.length<=4:=by
 unfold nestPts;split
 ·rename_i h;refine⟨h.2.2,λq hq=>?_⟩;have:=zIy nest [] q hq;have:=(zIx h.1).1;simp at *;omega
 ·exact⟨by simp,λq hq=>by cases hq⟩
end Go.LN
namespace Go.LN
def BP(x:zJ):Prop:=BN x.Nest/\x.Body.length<=100000/\∀s∈x.Body,BS s
def bodyB(x:zJ):Bool:=(decide (1<=x.Body.length)&&decide (x.Body.length<=4))&&x.Body.all λs=>stmtB s (x.Nest.length:Int)
def partB(A:List zG)(x:zJ):Bool:=(nestPts x.Nest).2&&bodyB x&&(nestPts x.Nest).1.all λq=>ptB q&&x.Body.all λs=>stOk A s q
def instR(k:Int)(q:List Int)(i j:Nat):List zX:=(List.range' i j).map λ(i:Nat)=>⟨k,(i:Int),q⟩
theorem zGj(k:Int)(q:List Int)(i j:Nat):(instR k q i j).length=j:=by simp[instR]
theorem len14(n:Nat):(decide ((1:Int)<=(n:Int))&&decide ((n:Int)<=4))=(decide (1<=n)&&decide (n<=4)):=by
 have e1:decide ((1:Int)<=(n:Int))=decide (1<=n):=by simp;omega
 have e2:decide ((n:Int)<=4)=decide (n<=4):=by simp;omega
 rw[e1,e2]
theorem zLK(P:zP)(k:Int)(x:zJ)(q:List Int)(hq:q.length<=4)(hb:x.Body.length<=4)(hs:∀s∈x.Body,stmtB s (x.Nest.length:Int)=true)(hR:RVa P.Arrays):
 ∀(j i:Nat) (o:List zX),i+j=x.Body.length->o.length+j<=1000000->vC P k x q o (i:Int)=some (if(x.Body.drop i).all (λs=>stOk P.Arrays s q) then .done (o++instR k q i j) else .ret ([],false)):=by
 intro j
 induction j with
 | zero=>
  intro i o hi ho
  rw[vC]
  have:¬((i:Int)<(x.Body.length:Int)):=by omega
  simp only[this,dF,bF,if_false]
  rw[show x.Body.drop i=[] from dN.2 (by omega)]
  simp[instR]
 | succ j ih=>
  intro i o hi ho
  rw[vC]
  have aV:i<x.Body.length:=by omega
  have hc:((i:Int)<(x.Body.length:Int)):=by omega
  have happ:app 40 o [(⟨k,(i:Int),q⟩:zX)]=some (o++[⟨k,(i:Int),q⟩]):=gV (by simp;omega)
  simp only[hc,dT,if_true,xK aV,oB,oS,implStmtOk P _ q (hs _ (gM aV)) hq hR,zFs q (by omega),happ]
  rw[sT (by omega),gC aV,da]
  cases stOk P.Arrays x.Body[i] q with
  | false=>rfl
  | true=>
   simp only[bT,bF,if_false,cP]
   rw[ih (i+1) _ (by omega) (by simp;omega),cI]
   simp only[instR,List.range'_succ,cS,List.singleton_append]
def ptOk(A:List zG)(x:zJ)(q:List Int):Bool:=ptB q&&x.Body.all λs=>stOk A s q
theorem zLL(P:zP)(k:Int)(x:zJ)(qs:List (List Int))(hq:∀q∈qs,q.length<=4)(hql:qs.length<=120)(hb:x.Body.length<=4)(hs:∀s∈x.Body,stmtB s (x.Nest.length:Int)=true)(hR:RVa P.Arrays):
 ∀(j i:Nat) (o:List zX),i+j=qs.length->o.length+4*j<=1000000->vD P k x qs o (i:Int)=some (if(qs.drop i).all (ptOk P.Arrays x) then .done (o++(qs.drop i).flatMap λq=>instR k q 0 x.Body.length) else .ret ([],false)):=by
 intro j
 induction j with
 | zero=>
  intro i o hi ho
  rw[vD]
  have:¬((i:Int)<(qs.length:Int)):=by omega
  simp only[this,dF,bF,if_false]
  rw[show qs.drop i=[] from dN.2 (by omega)]
  simp
 | succ j ih=>
  intro i o hi ho
  rw[vD]
  have aV:i<qs.length:=by omega
  have hc:((i:Int)<(qs.length:Int)):=by omega
  have hq4:=hq _ (gM aV)
  have h3:=zLK P k x qs[i] hq4 hb hs hR x.Body.length 0 o (cO _) (by omega)
  rw[nZ,cz] at h3
  simp only[hc,dT,if_true,xK aV,oB,oS,implPoint _ (show qs[i].length<=1048576 by omega),h3]
  rw[sT (by omega),gC aV,da,ck,ptOk]
  cases ptB qs[i] with
  | false=>rfl
  | true=>
   simp only[bT,bF,if_false,cP]
   cases x.Body.all λs=>stOk P.Arrays s qs[i] with
   | false=>rfl
   | true=>
    simp only[if_true,oS,cP]
    rw[ih (i+1) _ (by omega) (by rw[lA,zGj];omega),cI]
def partI(k:Int)(x:zJ):List zX:=(nestPts x.Nest).1.flatMap λq=>instR k q 0 x.Body.length
theorem zHr(k:Int)(b:Nat):∀qs:List (List Int),(qs.flatMap λq=>instR k q 0 b).length=qs.length*b
 | []=>by simp
 | q::qs=>by rw[ck,lA,zGj,zHr k b qs,co,du];omega
theorem zJ6(k:Int)(x:zJ):(partI k x).length=(nestPts x.Nest).1.length*x.Body.length:=zHr _ _ _
theorem zFv{x:zJ}(h:bodyB x=true):1<=x.Body.length/\x.Body.length<=4/\∀s∈x.Body,stmtB s (x.Nest.length:Int)=true:=by
 simp only[bodyB,bA,decide_eq_true_eq] at h;exact⟨h.1.1,h.1.2,ci.1 h.2⟩
theorem zKX(k:Int){A:List zG}{x:zJ}(h:partB A x=true):(partI k x).length<=480:=by
 simp only[partB,bA] at h;obtain⟨h1,h2,_⟩:=zFv h.1.2;have:=(zEb (nest:=x.Nest)).1;rw[zJ6];exact Nat.mul_le_mul this h2
def gP(P:zP)(i:Nat):zJ:=P.Parts.getD i ⟨[],[]⟩
theorem zLM(P:zP)(hP:P.Parts.length<=4)(hb:∀x∈P.Parts,BP x)(hR:RVa P.Arrays):
 ∀(j i:Nat) (o:List zX),i+j=P.Parts.length->o.length<=480*i->vE P o (i:Int)=some (if(List.range' i j).all (λi=>partB P.Arrays (gP P i)) then .done (o++(List.range' i j).flatMap λ(i:Nat)=>partI (i:Int) (gP P i)) else .ret ([],false)):=by
 intro j
 induction j with
 | zero=>
  intro i o hi ho
  rw[vE]
  have:¬((i:Int)<(P.Parts.length:Int)):=by omega
  simp only[this,dF,bF,if_false]
  simp
 | succ j ih=>
  intro i o hi ho
  rw[vE]
  have aV:i<P.Parts.length:=by omega
  have hc:((i:Int)<(P.Parts.length:Int)):=by omega
  obtain⟨b1,b2,b3⟩:=hb _ (gM aV)
  have hg:gP P i=P.Parts[i]:=by simp[gP,aV]
  have bS:=zHC (f:=λx0=>vK x0 P.Parts[i]) (p:=λs=>!(stmtB s (P.Parts[i].Nest.length:Int))) P.Parts[i].Body (λs hs=>by
   unfold vK
   rw[implStmt s _ (b3 s hs)];rfl) (by omega)
  simp only[hc,dT,if_true,xK aV,oB,oS,implPoints _ b1,mM,len14,bS,oP,id]
  rw[sT (by omega),List.range'_succ,da,ck,hg]
  have hnl:=zEb (nest:=P.Parts[i].Nest)
  cases hn:(nestPts P.Parts[i].Nest).2 with
  | false=>simp[partB,hn]
  | true=>
   cases hb4:(decide (1<=P.Parts[i].Body.length)&&decide (P.Parts[i].Body.length<=4)) with
   | false=>simp[partB,bodyB,hb4]
   | true=>
    have hany:(P.Parts[i].Body.any λs=>!(stmtB s (P.Parts[i].Nest.length:Int)))=!(P.Parts[i].Body.all λs=>stmtB s (P.Parts[i].Nest.length:Int)):=by
     rw[eu];simp
    simp only[bT,bF,if_false,oS,hany]
    cases hall:P.Parts[i].Body.all λs=>stmtB s (P.Parts[i].Nest.length:Int) with
    | false=>simp[partB,bodyB,hall]
    | true=>
     have hbb:bodyB P.Parts[i]=true:=by rw[bodyB,hb4,hall];rfl
     obtain⟨q1,q2,q3⟩:=zFv hbb
     have h2:=zLL P (i:Int) P.Parts[i] (nestPts P.Parts[i].Nest).1 hnl.2 hnl.1 q2 q3 hR _ 0 o (cO _) (by have:=hnl.1;omega)
     rw[nZ,cz] at h2
     simp only[bT,bF,if_false,h2]
     have hpB:partB P.Arrays P.Parts[i]=(nestPts P.Parts[i].Nest).1.all (ptOk P.Arrays P.Parts[i]):=by rw[partB,hn,hbb];rfl
     rw[hpB]
     cases hpt:(nestPts P.Parts[i].Nest).1.all (ptOk P.Arrays P.Parts[i]) with
     | false=>simp
     | true=>
      have bH:=zKX (i:Int) (A:=P.Arrays) (x:=P.Parts[i]) (by rw[hpB,hpt])
      simp only[if_true,oS,cP]
      rw[show (o++(nestPts P.Parts[i].Nest).1.flatMap λq=>instR (i:Int) q 0 P.Parts[i].Body.length)=o++partI (i:Int) P.Parts[i] from rfl]
      rw[ih (i+1) _ (by omega) (by rw[lA];omega),cI]
def BG(P:zP):Prop:=BR P.Arrays/\P.Parts.length<=100000/\∀x∈P.Parts,BP x
def progB(P:zP):Bool:=arrB P.Arrays&&decide (P.Parts.length<=4)&&(List.range' 0 P.Parts.length).all λi=>partB P.Arrays (gP P i)
def progI(P:zP):List zX:=(List.range' 0 P.Parts.length).flatMap λ(i:Nat)=>partI (i:Int) (gP P i)
def validP(P:zP):Bool:=progB P&&decide ((progI P).length<=120)
theorem implInstances(P:zP)(h:BG P):sR P=some (if progB P then(progI P,decide ((progI P).length<=120)) else([],false)):=by
 obtain⟨h1,h2,h3⟩:=h;unfold sR progB;rw[implArrays _ h1];cases ha:arrB P.Arrays with
 | false=>simp
 | true=>
  by_cases h4:P.Parts.length<=4
  ·have e:¬((P.Parts.length:Int)>4):=by omega
   have hl:=zLM P h4 h3 (RVa.of h1 ha) _ 0 [] (cO _) (by simp);rw[nZ,cM] at hl;simp only[bT,bF,if_false,e,dF,oP,oB,oS,hl,h4,dT,cP];cases hA:(List.range' 0 P.Parts.length).all λi=>partB P.Arrays (gP P i) with
   | false=>simp
   | true=>
    simp only[if_true,progI]
    congr 2
    simp;omega
  ·have e:((P.Parts.length:Int)>4):=by omega
   simp[e,h4]
theorem implValidP(P:zP)(h:BG P):nK P=some (validP P):=by
 unfold nK validP;rw[implInstances P h];cases progB P <;> rfl
end Go.LN
namespace Go.LN
theorem eH{α:Type}{l:List α}{f:Int->List α->Option (List α)}(step:∀(i:Nat) (h:i<l.length) (o:List α),o.length=i->f (i:Int) o=f ((i+1:Nat):Int) (o++[l[i]]))(fin:∀o,f (l.length:Int) o=some o):f 0 []=some l:=by
 have key:∀j i,i+j=l.length->f (i:Int) (l.take i)=some l:=by
  intro j
  induction j with
  | zero=>
   intro i hi;rw[show i=l.length by omega,fin,dk (cU _)]
  | succ j ih=>
   intro i hi;have aV:i<l.length:=by omega
   have:=ih (i+1) (by omega);rw[fa,ce aV,Option.toList_some] at this;rw[step i aV _ (by rw[cr];omega)];exact this
 exact key _ 0 (cO _)
theorem copyExpr:∀(m:Nat) (e:zD),BE m e->qU e=some e
 | m,e,h=>by
  obtain⟨h1,h2,h3⟩:=h.own
  rw[qU]
  have hl:=eH (l:=e.Kids) (f:=λi o=>vZ e i o) (λi hi o ho=>by
   show vZ e (i:Int) o=_
   rw[vZ]
   have k1:((i:Int)<(e.Kids.length:Int)):=by omega
   obtain⟨m',hm,hm'⟩:=h.kid (gM hi)
   have happ:app 112 o [e.Kids[i]]=some (o++[e.Kids[i]]):=gV (by simp;omega)
   have hr:=copyExpr m' e.Kids[i] hm'
   simp only[k1,dT,if_true,xK hi,oB,oS,same,hr,happ]
   rw[sT (by omega)]) (λo=>by
   show vZ e (e.Kids.length:Int) o=_
   rw[vZ];simp)
  simp only[specCopyAff _ h1,specCopyAcc _ h2,oB,oS,same]
  rw[show vZ e 0 []=some e.Kids from hl]
  clear hl h h1 h2 h3
  cases e;rfl
theorem copyStmt(s:zM)(h:BS s):jX s=some s:=by
 obtain⟨h1,m,h2⟩:=h;unfold jX;rw[specCopyAcc _ h1,copyExpr m _ h2];rfl
theorem copyNest(nest:List zE)(h:BN nest):nP nest=some nest:=by
 obtain⟨h1,h2⟩:=h;unfold nP;have hl:=eH (l:=nest) (f:=λi o=>uJ nest o i) (λi hi o ho=>by
  show uJ nest o (i:Int)=_;rw[uJ];have k1:((i:Int)<(nest.length:Int)):=by omega
  obtain⟨⟨q1,q2⟩,q3,q4⟩:=h2 _ (gM hi);have happ:app 48 o [nest[i]]=some (o++[nest[i]]):=gV (by simp;omega);have hlo:=eH (l:=nest[i].Lo) (f:=λk o=>tX nest (i:Int) k o) (λk hk o ho=>by
   show tX nest (i:Int) (k:Int) o=_;rw[tX];have k2:((k:Int)<(nest[i].Lo.length:Int)):=by omega
   have hp:app 32 o [nest[i].Lo[k]]=some (o++[nest[i].Lo[k]]):=gV (by simp;omega);have ha:=q2 _ (gM hk);have hpn:app 8 ([]:List Int) nest[i].Lo[k].Coefs=some nest[i].Lo[k].Coefs:=zDi _ (by unfold BA at ha;omega);simp only[xK hi,k2,dT,if_true,xK hk,oB,oS,hpn,hp];rw[sT (by omega)]) (λo=>by
   show tX nest (i:Int) (nest[i].Lo.length:Int) o=_;rw[tX];simp[xK hi])
  have hhi:=eH (l:=nest[i].Hi) (f:=λk o=>tY nest (i:Int) k o) (λk hk o ho=>by
   show tY nest (i:Int) (k:Int) o=_;rw[tY];have k2:((k:Int)<(nest[i].Hi.length:Int)):=by omega
   have hp:app 32 o [nest[i].Hi[k]]=some (o++[nest[i].Hi[k]]):=gV (by simp;omega);have ha:=q4 _ (gM hk);have hpn:app 8 ([]:List Int) nest[i].Hi[k].Coefs=some nest[i].Hi[k].Coefs:=zDi _ (by unfold BA at ha;omega);simp only[xK hi,k2,dT,if_true,xK hk,oB,oS,hpn,hp];rw[sT (by omega)]) (λo=>by
   show tY nest (i:Int) (nest[i].Hi.length:Int) o=_;rw[tY];simp[xK hi])
  simp only[k1,dT,if_true,oB,oS,hlo,hhi,happ];rw[sT (by omega)]) (λo=>by
  show uJ nest o (nest.length:Int)=_;rw[uJ];simp)
 rw[hl];rfl
theorem copyProg(P:zP)(h:BG P):rX P=some P:=by
 obtain⟨⟨h1,h1'⟩,h2,h3⟩:=h;unfold rX;have ha:=eH (l:=P.Arrays) (f:=λi o=>tZ P i o) (λi hi o ho=>by
  show tZ P (i:Int) o=_;rw[tZ];have k1:((i:Int)<(P.Arrays.length:Int)):=by omega
  have hd:=h1' _ (gM hi);have happ:app 40 o [P.Arrays[i]]=some (o++[P.Arrays[i]]):=gV (by simp;omega);have hpn:app 8 ([]:List Int) P.Arrays[i].Dims=some P.Arrays[i].Dims:=zDi _ (by omega);simp only[k1,dT,if_true,xK hi,oB,oS,hpn,happ];rw[sT (by omega)]) (λo=>by
  show tZ P (P.Arrays.length:Int) o=_;rw[tZ];simp)
 have hp:=eH (l:=P.Parts) (f:=λi o=>uK P i o) (λi hi o ho=>by
  show uK P (i:Int) o=_;rw[uK];have k1:((i:Int)<(P.Parts.length:Int)):=by omega
  obtain⟨b1,b2,b3⟩:=h3 _ (gM hi);have happ:app 48 o [P.Parts[i]]=some (o++[P.Parts[i]]):=gV (by simp;omega);have hb:=eH (l:=P.Parts[i].Body) (f:=λk o=>sA P (i:Int) k o) (λk hk o ho=>by
   show sA P (i:Int) (k:Int) o=_;rw[sA];have k2:((k:Int)<(P.Parts[i].Body.length:Int)):=by omega
   have hp:app 152 o [P.Parts[i].Body[k]]=some (o++[P.Parts[i].Body[k]]):=gV (by simp;omega);simp only[xK hi,k2,dT,if_true,xK hk,oB,oS,copyStmt _ (b3 _ (gM hk)),hp];rw[sT (by omega)]) (λo=>by
   show sA P (i:Int) (P.Parts[i].Body.length:Int) o=_;rw[sA];simp[xK hi])
  simp only[k1,dT,if_true,xK hi,oB,oS,copyNest _ b1,hb,happ];rw[sT (by omega)]) (λo=>by
  show uK P (P.Parts.length:Int) o=_;rw[uK];simp)
 rw[ha,hp];rfl
end Go.LN
namespace Go.LN
theorem BE.up1:∀{n:Nat}{e:zD},BE n e->BE (n+1) e
 | 0,e,⟨h1,h2,h3⟩=>⟨h1,h2,by rw[h3];simp,by rw[h3];intro k hk;cases hk⟩
 | n+1,e,⟨h1,h2,h3,h4⟩=>⟨h1,h2,h3,λk hk=>BE.up1 (h4 k hk)⟩
theorem BE.up{n m:Nat}{e:zD}(h:BE n e)(hm:n<=m):BE m e:=by
 obtain⟨k,rfl⟩:=Nat.exists_eq_add_of_le hm
 induction k with
 | zero=>exact h
 | succ k ih=>exact BE.up1 (ih (by omega))
def QL(q:Nat)(l:List zA):Prop:=l.length<=q/\∀a∈l,BA a
def QN(q:Nat)(nest:List zE):Prop:=nest.length<=2000/\∀x∈nest,QL q x.Lo/\QL q x.Hi
def QS(q:Nat)(s:zM):Prop:=QL q s.Write.Subs/\BA s.Value.Index/\BL s.Value.Read.Subs/\s.Value.Kids.length<=q/\∀k∈s.Value.Kids,BE 6 k
theorem QL.up{q r:Nat}{l:List zA}(h:QL q l)(hq:q<=r):QL r l:=⟨dh h.1 hq,h.2⟩
theorem QL.bl{q:Nat}{l:List zA}(h:QL q l)(hq:q<=1000):BL l:=⟨dh h.1 hq,h.2⟩
theorem QL.app{q k:Nat}{l m:List zA}(h:QL q l)(hm:QL k m):QL (q+k) (l++m):=by
 refine⟨by rw[lA];exact Nat.add_le_add h.1 hm.1,λa ha=>?_⟩;rcases cF.1 ha with ha|ha
 ·exact h.2 a ha
 ·exact hm.2 a ha
theorem QL.nil{q:Nat}:QL q []:=⟨d9 _,λ_ h=>by cases h⟩
theorem QL.one{a:zA}(h:BA a):QL 1 [a]:=⟨cU _,λ_ h'=>cA.1 h' ▸ h⟩
theorem QL.two{a b:zA}(h:BA a)(h2:BA b):QL 2 [a,b]:=QL.app (QL.one h) (QL.one h2)
theorem QN.up{q r:Nat}{l:List zE}(h:QN q l)(hq:q<=r):QN r l:=⟨h.1,λx hx=>⟨(h.2 x hx).1.up hq,(h.2 x hx).2.up hq⟩⟩
theorem QN.bn{q:Nat}{l:List zE}(h:QN q l)(hq:q<=1000):BN l:=⟨by have:=h.1;omega,λx hx=>⟨(h.2 x hx).1.bl hq,(h.2 x hx).2.bl hq⟩⟩
theorem QN.set{q:Nat}{l:List zE}(h:QN q l){x:zE}(hx:QL q x.Lo/\QL q x.Hi)(k:Nat):QN q (l.set k x):=⟨by rw[cQ];exact h.1,zBw h.2 hx k⟩
theorem QS.up{q r:Nat}{s:zM}(h:QS q s)(hq:q<=r):QS r s:=⟨h.1.up hq,h.2.1,h.2.2.1,dh h.2.2.2.1 hq,h.2.2.2.2⟩
theorem QS.bs{q:Nat}{s:zM}(h:QS q s)(hq:q<=1000):BS s:=⟨h.1.bl hq,7,h.2.1,h.2.2.1,by have:=h.2.2.2.1;omega,h.2.2.2.2⟩
theorem zGk{a:zA}(h:a.Coefs.length=4):BA a:=by unfold BA;omega
theorem zIz(q:Nat):∀(j:Nat) (out:List zE),5<=out.length+j->1<=out.length->QN q out->Ok (rK out) (QN q)
 | 0,out,hj,h1,h=>by
  rw[rK]
  refine Ok.ite_dec (λhc=>absurd hc (by omega)) λ_=>Ok.pure h
 | j+1,out,hj,h1,h=>by
  rw[rK]
  refine Ok.ite_dec (λhc=>?_) λ_=>Ok.pure h
  refine Ok.idx (by omega) (by omega) λx hx _=>Ok.app (by simp;omega) ?_
  refine zIz q j _ (by rw[lA];simp;omega) (by rw[lA];omega) ⟨by rw[lA];simp;omega,λy hy=>?_⟩
  rcases cF.1 hy with hy|hy
  ·exact h.2 y hy
  ·rw[cA.1 hy];exact h.2 x hx
theorem mut2(q:Nat)(hq:q<=300)(r:zK)(nest:List zE)(h:QN q nest)(h0:0<=r.p)(h1:r.p<=900000000):Ok (nF r nest) (λy=>QN (q+2) y.1/\0<=y.2.p/\y.2.p<=r.p+2):=by
 have hup:=h.up (show q<=q+2 by omega);unfold nF;rw[copyNest nest (h.bn (by omega))];refine Ok.bind_some (Ok.ite_beq (λ_=>Ok.pure ⟨hup,h0,by dsimp only;omega⟩) λhne=>?_);have hpos:0<nest.length:=by omega
 have bo:=h.1;have hW:W ((nest.length:Int) - 1)=((nest.length - 1:Nat):Int):=by rw[oM (by omega) (by omega)];omega
 refine Ok.call (fE r 40) ⟨h0,by omega⟩ λy2 s g1 g2 g3=>?_;refine Ok.ite_beq (λ_=>?_) λ_=>Ok.ite_beq (λ_=>?_) λ_=>Ok.ite_beq (λ_=>?_) λ_=>Ok.ite_beq (λ_=>?_) λ_=>Ok.ite_beq (λ_=>?_) λ_=>?_
 ·refine Ok.idx (by omega) (by omega) λx hx _=>Ok.call (fE s 2) ⟨by omega,by omega⟩ λy5 s2 k1 k2 k3=>Ok.call (zBx y5) ⟨k1,by omega⟩ λa c1 c2=>?_;have hxx:=h.2 x hx;refine Ok.app (by have:=hxx.1.1;simp;omega) (Ok.pure ⟨QN.set (x:=⟨x.Lo++[a],x.Hi⟩) hup ⟨(hxx.1.app (QL.one (zGk c1))).up (show q+1<=q+2 by omega),hxx.2.up (show q<=q+2 by omega)⟩ _,by dsimp only;omega,by dsimp only;omega⟩)
 ·rw[hW];refine Ok.idx (by omega) (by omega) λx hx _=>?_;have hxx:=h.2 x hx;exact Ok.pure ⟨QN.set (x:=⟨x.Lo,[]⟩) hup ⟨hxx.1.up (show q<=q+2 by omega),QL.nil⟩ _,by dsimp only;omega,by dsimp only;omega⟩
 ·rw[hW];refine Ok.idx (by omega) (by omega) λx hx _=>Ok.call (mU 1) trivial (Ok.call (mU 2) trivial ?_);have hxx:=h.2 x hx;exact Ok.app (by have:=hxx.2.1;simp;omega) (Ok.pure ⟨QN.set (x:=⟨x.Lo,x.Hi++[⟨[0,0,0,0],1⟩,⟨[0,0,0,0],2⟩]⟩) hup ⟨hxx.1.up (show q<=q+2 by omega),hxx.2.app (QL.two (zGk rfl) (zGk rfl))⟩ _,by dsimp only;omega,by dsimp only;omega⟩)
 ·refine Ok.call (mU 99) trivial (Ok.idx (by omega) (by omega) λx hx _=>?_);have hxx:=h.2 x hx;exact Ok.pure ⟨QN.set (x:=⟨x.Lo,[⟨[0,0,0,0],99⟩]⟩) hup ⟨hxx.1.up (show q<=q+2 by omega),(QL.one (zGk rfl)).up (show 1<=q+2 by omega)⟩ _,by dsimp only;omega,by dsimp only;omega⟩
 ·refine Ok.bind (zIz q 5 nest (by omega) hpos h) λz hz=>Ok.pure ⟨hz.up (by omega),by dsimp only;omega,by dsimp only;omega⟩
 ·exact Ok.pure ⟨hup,by dsimp only;omega,by dsimp only;omega⟩
theorem mut3(q:Nat)(hq:q<=300)(r:zK)(s:zM)(h:QS q s)(h0:0<=r.p)(h1:r.p<=900000000):Ok (tR r s) (λy=>QS (q+2) y.1/\0<=y.2.p/\y.2.p<=r.p+2):=by
 obtain⟨w1,w2,w3,w4,w5⟩:=h.up (show q<=q+2 by omega);obtain⟨v1,_,_,v4,_⟩:=id h;have v11:=v1.1;unfold tR;rw[copyStmt s (h.bs (by omega))];refine Ok.bind_some (Ok.call (fE r 40) ⟨h0,by omega⟩ λy2 y3 g1 g2 g3=>?_);have fin:∀(o:Str×List zA×Int×Int×List zD×zK),(QL (q+2) o.2.1/\(o.2.2.2.2.1.length<=q+2/\∀k∈o.2.2.2.2.1,BE 6 k)/\0<=o.2.2.2.2.2.p/\o.2.2.2.2.2.p<=r.p+2)->QS (q+2) (zM.mk (zH.mk o.1 o.2.1) (zD.mk o.2.2.1 o.2.2.2.1 s.Value.Index s.Value.Read o.2.2.2.2.1))/\0<=o.2.2.2.2.2.p/\o.2.2.2.2.2.p<=r.p+2:=
  λo ⟨a,b,c⟩=>⟨⟨a,w2,w3,b.1,b.2⟩,c⟩
 refine Ok.bind (φ:=λo:Str×List zA×Int×Int×List zD×zK=>QL (q+2) o.2.1/\(o.2.2.2.2.1.length<=q+2/\∀k∈o.2.2.2.2.1,BE 6 k)/\0<=o.2.2.2.2.2.p/\o.2.2.2.2.2.p<=r.p+2) ?_ λo ho=>by
  obtain⟨o1,o2,o3,o4,o5,o6⟩:=o;exact Ok.pure (fin _ ho)
 refine Ok.ite_beq (λ_=>?_) λ_=>?_
 ·exact Ok.call (zBC y3 _) ⟨by decide,by omega,by omega⟩ λz t _ k3=>Ok.pure ⟨w1,⟨w4,w5⟩,by dsimp only;omega,by dsimp only;omega⟩
 refine Ok.bind (φ:=λo:List zA×Int×Int×List zD×zK=>QL (q+2) o.1/\(o.2.2.2.1.length<=q+2/\∀k∈o.2.2.2.1,BE 6 k)/\0<=o.2.2.2.2.p/\o.2.2.2.2.p<=r.p+2) ?_ λo ho=>by
  obtain⟨o2,o3,o4,o5,o6⟩:=o;exact Ok.pure ho
 refine Ok.ite_beq (λ_=>?_) λ_=>?_
 ·exact Ok.call (zBx 3) (by omega) λa c1 c2=>Ok.call eG trivial (Ok.app (by simp;omega) (Ok.pure ⟨v1.app (QL.two (zGk c1) (zGk rfl)),⟨w4,w5⟩,by dsimp only;omega,by dsimp only;omega⟩))
 refine Ok.bind (φ:=λo:Int×Int×List zD×zK=>(o.2.2.1.length<=q+2/\∀k∈o.2.2.1,BE 6 k)/\0<=o.2.2.2.p/\o.2.2.2.p<=r.p+2) ?_ λo ho=>by
  obtain⟨o3,o4,o5,o6⟩:=o;exact Ok.pure ⟨w1,ho⟩
 refine Ok.ite_beq (λ_=>?_) λ_=>?_
 ·exact Ok.call (uM y3 _) ⟨by decide,by omega,by omega,by decide⟩ λz t _ _ k3=>Ok.pure ⟨⟨w4,w5⟩,by dsimp only;omega,by dsimp only;omega⟩
 refine Ok.bind (φ:=λo:Int×List zD×zK=>(o.2.1.length<=q+2/\∀k∈o.2.1,BE 6 k)/\0<=o.2.2.p/\o.2.2.p<=r.p+2) ?_ λo ho=>by
  obtain⟨o4,o5,o6⟩:=o;exact Ok.pure ho
 refine Ok.ite_beq (λ_=>?_) λ_=>?_
 ·exact Ok.call (uM y3 _) ⟨by decide,by omega,by omega,by decide⟩ λz t _ _ k3=>Ok.pure ⟨⟨w4,w5⟩,by dsimp only;omega,by dsimp only;omega⟩
 refine Ok.bind (φ:=λo:List zD=>o.length<=q+2/\∀k∈o,BE 6 k) ?_ λo ho=>Ok.pure ⟨ho,by dsimp only;omega,by dsimp only;omega⟩;refine Ok.ite_beq (λ_=>?_) λ_=>Ok.pure ⟨w4,w5⟩;refine Ok.app (by show (_+1)*112<=_;omega) (Ok.pure ⟨by show (_++_:List zD).length<=_;rw[lA];show _+1<=_;omega,λk hk=>?_⟩);rcases cF.1 hk with hk|hk
 ·exact w5 k hk
 ·rw[cA.1 hk];exact BE.up (n:=0) ⟨d9 _,⟨d9 _,λ_ h=>by cases h⟩,rfl⟩ (by omega)
end Go.LN
namespace Go.LN
def DX(x:zJ):Prop:=QN 100 x.Nest/\x.Body.length<=1000/\∀s∈x.Body,QS 100 s
def DP(P:zP):Prop:=(P.Arrays.length<=1000/\∀a∈P.Arrays,a.Dims.length<=1000)/\P.Parts.length<=1000/\∀x∈P.Parts,DX x
theorem DX.bp{x:zJ}(h:DX x):BP x:=⟨h.1.bn (by omega),by have:=h.2.1;omega,λs hs=>(h.2.2 s hs).bs (by omega)⟩
theorem DP.bg{P:zP}(h:DP P):BG P:=⟨⟨by have:=h.1.1;omega,h.1.2⟩,by have:=h.2.1;omega,λx hx=>(h.2.2 x hx).bp⟩
def PB(l:List zJ):Prop:=l.length<=1000/\∀x∈l,BP x
theorem PB.set{l:List zJ}(h:PB l){x:zJ}(hx:BP x)(k:Nat):PB (l.set k x):=⟨by rw[cQ];exact h.1,zBw h.2 hx k⟩
theorem SE.be:∀{n:Nat}{e:zD},SE n e->BE n e
 | 0,e,⟨h1,h2,h3⟩=>⟨by have:=h1.1;unfold BA;omega,⟨by have:=h2.2.1;omega,λa ha=>by have:=(h2.2.2 a ha).1;unfold BA;omega⟩,h3⟩
 | n+1,e,⟨h1,h2,h3,h4⟩=>⟨by have:=h1.1;unfold BA;omega,⟨by have:=h2.2.1;omega,λa ha=>by have:=(h2.2.2 a ha).1;unfold BA;omega⟩,by omega,λk hk=>SE.be (h4 k hk)⟩
theorem SS.qs{s:zM}(h:SS s):QS 100 s:=by
 obtain⟨h1,h2⟩:=h;have hb:=SE.be h2;exact⟨⟨h1.2.1,λa ha=>by have:=(h1.2.2 a ha).1;unfold BA;omega⟩,hb.1,hb.2.1,by have:=h2.2.2.1;omega,λk hk=>BE.up (n:=4) (m:=6) (hb.2.2.2 k hk) (by omega)⟩
theorem LL.ql{l:List zA}(h:LL l):QL 100 l:=⟨h.1,λa ha=>by have:=(h.2 a ha).1;unfold BA;omega⟩
theorem SG.dp{P:zP}(h:SG 1000 P):DP P:=by
 obtain⟨⟨h1,h2⟩,h3,h4⟩:=h;refine⟨⟨h1,λa ha=>by have:=(h2 a ha).2;omega⟩,h3,λx hx=>?_⟩;obtain⟨⟨k1,k2⟩,k3,k4⟩:=h4 x hx;exact⟨⟨by omega,λy hy=>⟨(k2 y hy).1.ql,(k2 y hy).2.ql⟩⟩,k3,λs hs=>(k4 s hs).qs⟩
end Go.LN
namespace Go.LN
end Go.LN
namespace Go.LN
def DA(x:zG):Prop:=(∃d,x.Dims=[d]/\1<=d/\d<=6)∨∃d e,x.Dims=[d,e]/\(1<=d/\d<=6)/\1<=e/\e<=6
def GA(l:List zG):Prop:=l.length<=4/\(∀x∈l,DA x)/\l.Pairwise λx y=>x.Name.l ≠ y.Name.l
theorem mul36{d e:Int}(h1:1<=d)(h2:d<=6)(h3:1<=e)(h4:e<=6):1<=d*e/\d*e<=36:=by
 have:d=1∨d=2∨d=3∨d=4∨d=5∨d=6:=by omega
 rcases this with rfl|rfl|rfl|rfl|rfl|rfl <;> omega
theorem zLs{x:zG}{d:Int}(h:x.Dims=[d])(h1:1<=d)(h2:d<=6):sizeF x=d:=by
 unfold sizeF;rw[h,szL,szL,Int.one_mul,oM (by omega) (by omega)]
theorem zLt{x:zG}{d e:Int}(h:x.Dims=[d,e])(h1:1<=d)(h2:d<=6)(h3:1<=e)(h4:e<=6):sizeF x=d*e:=by
 unfold sizeF;have:=mul36 h1 h2 h3 h4;rw[h,szL,szL,szL,Int.one_mul,oM (x:=d) (by omega) (by omega),oM (by omega) (by omega)]
theorem DA.size{x:zG}(h:DA x):1<=sizeF x/\sizeF x<=36:=by
 rcases h with⟨d,h,h1,h2⟩|⟨d,e,h,⟨h1,h2⟩,h3,h4⟩
 ·rw[zLs h h1 h2];omega
 ·rw[zLt h h1 h2 h3 h4];exact mul36 h1 h2 h3 h4
def nm(l:List zG)(i:Nat):Nat:=match (l.getD i ⟨⟨[]⟩,[]⟩).Name.l with|c::_=>c.toNat|[]=>0
end Go.LN
namespace Go.LN
end Go.LN
namespace Go.LN
end Go.LN
namespace Go.LN
def c0(n:Int):zA:=⟨[0,0,0,0],n⟩
end Go.LN
namespace Go.LN
end Go.LN
namespace Go.LN
end Go.LN
namespace Go.LN
def Ch{α:Type}(R:α->α->Prop):List α->Prop
 | a::b::l=>R a b/\Ch R (b::l)
 | _=>True
theorem Ch.append{α:Type}{R:α->α->Prop}:∀{l m:List α},Ch R l->Ch R m->(∀a∈l,∀b∈m,R a b)->Ch R (l++m)
 | [],m,_,h2,_=>h2
 | [a],[],_,_,_=>trivial
 | [a],b::m,_,h2,h=>⟨h a (cf ..) b (cf ..),h2⟩
 | a::b::l,m,h1,h2,h=>⟨h1.1,Ch.append (l:=b::l) h1.2 h2 λx hx=>h x (cd _ hx)⟩
theorem Ch.flat{α β:Type}{R:β->β->Prop}{f:α->List β}:∀{l:List α},(∀x∈l,Ch R (f x))->(l.Pairwise λx y=>∀a∈f x,∀b∈f y,R a b)->Ch R (l.flatMap f)
 | [],_,_=>trivial
 | x::l,h1,h2=>by
  rw[ck]
  have h2':=List.pairwise_cons.1 h2
  refine Ch.append (h1 x (cf ..)) (Ch.flat (λy hy=>h1 y (cd _ hy)) h2'.2) λa ha b hb=>?_
  obtain⟨y,hy,hb⟩:=cD.1 hb
  exact h2'.1 y hy a ha b hb
theorem Ch.get{α:Type}{R:α->α->Prop}:∀{l:List α} (i:Nat) (h:i+1<l.length),Ch R l->R l[i] l[i+1]
 | a::b::l,0,_,hc=>hc.1
 | a::b::l,i+1,h,hc=>Ch.get (l:=b::l) i (by simpa using h) hc.2
 | [a],i,h,_=>by simp at h
 | [],i,h,_=>by simp at h
end Go.LN
namespace Go.LN
end Go.LN
namespace Go.LN
end Go.LN
namespace Go.LN
end Go.LN
namespace Go.LN
end Go.LN
namespace Go.LN
end Go.LN
namespace Go.LN
end Go.LN
namespace Go.LN
end Go.LN
namespace Go.LN
end Go.LN
namespace Go.LN
end Go.LN
namespace Go.LN
end Go.LN
namespace Go.LN
end Go.LN
namespace Go.LN
end Go.LN
namespace Go.LN
end Go.LN
namespace Go.LN
end Go.LN
namespace Go.LN
theorem AV.bl{a:zH}(h:AV a):BL a.Subs:=⟨by have:=h.2.1;omega,λs hs=>by have:=h.2.2 s hs;unfold BA;omega⟩
end Go.LN
namespace Go.LN
end Go.LN
namespace Go.LN
def eqL{α:Type}(q:α->α->Bool):List α->List α->Bool
 | [],[]=>true
 | x::a,y::b=>q x y&&eqL q a b
 | _,_=>false
theorem zBy{α:Type}{a b:List α}(hl:a.length=b.length){q:α->α->Bool}{f:Int->Option (Out Unit Bool)}(step:∀(i:Nat) (h1:i<a.length) (h2:i<b.length),f (i:Int)=if q a[i] b[i] then f ((i+1:Nat):Int) else some (.ret false))(fin:f (a.length:Int)=some (.done ())):f 0=some (if eqL q a b then .done () else .ret false):=by
 have key:∀(j i:Nat),i+j=a.length->f (i:Int)=some (if eqL q (a.drop i) (b.drop i) then .done () else .ret false):=by
  intro j
  induction j with
  | zero=>
   intro i hi;rw[show i=a.length by omega,fin,dN.2 (cU a.length),dN.2 (show b.length<=a.length by omega)];rfl
  | succ j ih=>
   intro i hi;have h1:i<a.length:=by omega
   have h2:i<b.length:=by omega
   rw[step i h1 h2,ih (i+1) (by omega),gC h1,gC h2,eqL];cases q a[i] b[i] <;> rfl
 have:=key a.length 0 (cO _);rwa[nZ,cz,cz] at this
theorem zBE{α:Type}{q:α->α->Bool}:∀{a b:List α},a.length ≠ b.length->eqL q a b=false
 | [],[],h=>absurd rfl h
 | [],_::_,_=>rfl
 | _::_,[],_=>rfl
 | x::a,y::b,h=>by rw[eqL,zBE (by simpa using h),Bool.and_false]
def eqI(a b:List Int):Bool:=eqL (λx y=>x==y) a b
theorem implEqI(a b:List Int)(h:a.length<=1048576):tW a b=some (eqI a b):=by
 unfold tW eqI;by_cases hl:a.length=b.length
 ·have hf:=zBy (q:=λx y=>x==y) hl (f:=vR a b) (λi h1 h2=>by
   rw[vR];have c:((i:Int)<(a.length:Int)):=by omega
   simp only[c,dT,if_true,xK h1,xK h2,oB,oS,oP];rw[sT (by omega)];by_cases e:a[i]=b[i]
   ·simp[e]
   ·simp[e]) (by rw[vR];simp)
  have e:((a.length:Int) != (b.length:Int))=false:=by simp[hl]
  rw[hf,e];cases eqL (λx y=>x==y) a b <;> rfl
 ·have e:((a.length:Int) != (b.length:Int))=true:=by simp;omega
  rw[e,zBE hl];rfl
theorem specEqI(a b:List Int)(h:a.length<=1048576):jY a b=some (eqI a b):=by
 unfold jY eqI;by_cases hl:a.length=b.length
 ·have hf:=zBy (q:=λx y=>x==y) hl (f:=oJ a b) (λi h1 h2=>by
   rw[oJ];have c:((i:Int)<(a.length:Int)):=by omega
   simp only[c,dT,if_true,xK h1,xK h2,oB,oS,oP];rw[sT (by omega)];by_cases e:a[i]=b[i]
   ·simp[e]
   ·simp[e]) (by rw[oJ];simp)
  have e:((a.length:Int) != (b.length:Int))=false:=by simp[hl]
  rw[hf,e];cases eqL (λx y=>x==y) a b <;> rfl
 ·have e:((a.length:Int) != (b.length:Int))=true:=by simp;omega
  rw[e,zBE hl];rfl
def afB(x y:zA):Bool:=eqI x.Coefs y.Coefs&&x.Const==y.Const
theorem implAff(x y:zA)(h:x.Coefs.length<=1048576):wG x y=some (afB x y):=by
 unfold wG afB;rw[implEqI _ _ h];cases eqI x.Coefs y.Coefs <;> rfl
theorem specAff(x y:zA)(h:x.Coefs.length<=1048576):oY x y=some (afB x y):=by
 unfold oY afB;rw[specEqI _ _ h];cases eqI x.Coefs y.Coefs <;> cases x.Const==y.Const <;> rfl
end Go.LN
namespace Go.LN
end Go.LN
namespace Go.LN
theorem GA.ne{l:List zG}(hg:GA l){i j:Nat}(hi:i<l.length)(hj:j<l.length)(h:i ≠ j):l[i].Name.l ≠ l[j].Name.l:=by
 have hp:=List.pairwise_iff_getElem.1 hg.2.2;rcases Nat.lt_or_gt_of_ne h with k|k
 ·exact hp i j hi hj k
 ·exact(hp j i hj hi k).symm
theorem GA.set{l:List zG}(hg:GA l){k:Nat}(hk:k<l.length){y:zG}(hn:y.Name.l=l[k].Name.l)(hy:DA y):GA (l.set k y):=by
 refine⟨by rw[cQ];exact hg.1,zBw hg.2.1 hy k,List.pairwise_iff_getElem.2 λi j hi hj hij=>?_⟩;rw[cQ] at hi hj;rw[List.getElem_set,List.getElem_set];by_cases h1:k=i
 ·rw[if_pos h1,if_neg (by omega),hn];exact hg.ne hk hj (by omega)
 ·rw[if_neg h1];by_cases h2:k=j
  ·rw[if_pos h2,hn];exact hg.ne hi hk (by omega)
  ·rw[if_neg h2];exact hg.ne hi hj (by omega)
theorem DA.arr{x:zG}(h:DA x):(1<=x.Dims.length/\x.Dims.length<=2)/\x.Dims.all dimB=true:=by
 rcases h with⟨d,h,k1,k2⟩|⟨d,e,h,⟨k1,k2⟩,k3,k4⟩
 ·rw[h];simp[dimB,k1,k2]
 ·rw[h];simp[dimB,k1,k2,k3,k4]
end Go.LN
namespace Go.LN
def leD:List Int->List Int->Prop
 | [],[]=>True
 | x::xs,y::ys=>x<=y/\leD xs ys
 | [],_::_=>False
 | _::_,[]=>False
theorem leD.refl:∀d:List Int,leD d d
 | []=>trivial
 | x::d=>⟨Int.le_refl _,leD.refl d⟩
theorem leD.trans:∀{a b c:List Int},leD a b->leD b c->leD a c
 | [],[],[],_,_=>trivial
 | x::a,y::b,z::c,h,k=>⟨Int.le_trans h.1 k.1,leD.trans h.2 k.2⟩
theorem leD.len:∀{a b:List Int},leD a b->a.length=b.length
 | [],[],_=>rfl
 | x::a,y::b,h=>by rw[co,co,h.2.len]
end Go.LN
namespace Go.LN
end Go.LN
namespace Go.LN
theorem zBF{α:Type}{q:α->α->Bool}(hq:∀x y,q x y=true↔x=y):∀{a b:List α},eqL q a b=true↔a=b
 | [],[]=>by simp[eqL]
 | [],_::_=>by simp[eqL]
 | _::_,[]=>by simp[eqL]
 | x::a,y::b=>by rw[eqL,bA,hq,zBF hq,List.cons.injEq]
theorem zHG{a b:List Int}:eqI a b=true↔a=b:=zBF (λx y=>by simp)
theorem zBz(x y:zA):afB x y=true↔x=y:=by
 cases x;cases y
 unfold afB;rw[bA,zHG];simp
def lpB(x y:zE):Bool:=eqL afB x.Lo y.Lo&&eqL afB x.Hi y.Hi
theorem zLN(x y:zE):lpB x y=true↔x=y:=by
 cases x;cases y
 unfold lpB;rw[bA,zBF zBz,zBF zBz];simp
theorem zJA{a b:List zE}:eqL lpB a b=true↔a=b:=zBF zLN
theorem implSd(a b:List zA)(ha:BL a):yH a b wG=some (eqL afB a b):=by
 have hb:=ha.1;unfold yH;by_cases hl:a.length=b.length
 ·have hf:=zBy (q:=afB) hl (f:=yF a b wG) (λi h1 h2=>by
   rw[yF];have c:((i:Int)<(a.length:Int)):=by omega
   have hc:=ha.2 _ (gM h1);simp only[c,dT,if_true,xK h1,xK h2,implAff _ _ (show a[i].Coefs.length<=1048576 by unfold BA at hc;omega),oB,oS,oP];rw[sT (by omega)];cases afB a[i] b[i] <;> rfl) (by rw[yF];simp)
  have e:((a.length:Int) != (b.length:Int))=false:=by simp[hl]
  rw[hf,e];cases eqL afB a b <;> rfl
 ·have e:((a.length:Int) != (b.length:Int))=true:=by simp;omega
  rw[e,zBE hl];rfl
theorem specSd(a b:List zA)(ha:BL a):qW a b=some (eqL afB a b):=by
 have hb:=ha.1;unfold qW;by_cases hl:a.length=b.length
 ·have hf:=zBy (q:=afB) hl (f:=tO a b) (λi h1 h2=>by
   rw[tO];have c:((i:Int)<(a.length:Int)):=by omega
   have hc:=ha.2 _ (gM h1);simp only[c,dT,if_true,xK h1,xK h2,specAff _ _ (show a[i].Coefs.length<=1048576 by unfold BA at hc;omega),oB,oS,oP];rw[sT (by omega)];cases afB a[i] b[i] <;> rfl) (by rw[tO];simp)
  have e:((a.length:Int) != (b.length:Int))=false:=by simp[hl]
  rw[hf,e];cases eqL afB a b <;> rfl
 ·have e:((a.length:Int) != (b.length:Int))=true:=by simp;omega
  rw[e,zBE hl];rfl
theorem implNs(a b:List zE)(ha:BN a):jL a b=some (eqL lpB a b):=by
 have hb:=ha.1;unfold jL xV;by_cases hl:a.length=b.length
 ·have hf:=zBy (q:=lpB) hl (f:=yL a b sL) (λi h1 h2=>by
   rw[yL];have c:((i:Int)<(a.length:Int)):=by omega
   have hc:=ha.2 _ (gM h1);have e:sL a[i] b[i]=some (lpB a[i] b[i]):=by
    unfold sL lpB;rw[implSd _ _ hc.1,implSd _ _ hc.2];cases eqL afB a[i].Lo b[i].Lo <;> rfl
   simp only[c,dT,if_true,xK h1,xK h2,e,oB,oS,oP];rw[sT (by omega)];cases lpB a[i] b[i] <;> rfl) (by rw[yL];simp)
  have e:((a.length:Int) != (b.length:Int))=false:=by simp[hl]
  rw[hf,e];cases eqL lpB a b <;> rfl
 ·have e:((a.length:Int) != (b.length:Int))=true:=by simp;omega
  rw[e,zBE hl];rfl
theorem specNs(a b:List zE)(ha:BN a):jN a b=some (eqL lpB a b):=by
 have hb:=ha.1;unfold jN;by_cases hl:a.length=b.length
 ·have hf:=zBy (q:=lpB) hl (f:=rL a b) (λi h1 h2=>by
   rw[rL];have c:((i:Int)<(a.length:Int)):=by omega
   have hc:=ha.2 _ (gM h1);simp only[c,dT,if_true,xK h1,xK h2,specSd _ _ hc.1,specSd _ _ hc.2,oB,oS,oP];rw[sT (by omega)];unfold lpB;cases eqL afB a[i].Lo b[i].Lo <;> cases eqL afB a[i].Hi b[i].Hi <;> rfl) (by rw[rL];simp)
  have e:((a.length:Int) != (b.length:Int))=false:=by simp[hl]
  rw[hf,e];cases eqL lpB a b <;> rfl
 ·have e:((a.length:Int) != (b.length:Int))=true:=by simp;omega
  rw[e,zBE hl];rfl
end Go.LN
namespace Go.LN
open Lib (itoa decDigits)
theorem zDj{u:Nat}(h:u<10):decDigits u=[UInt8.ofNat (48+u)]:=by rw[decDigits];simp[h]
theorem zHH{u:Nat}(h:¬u<10):decDigits u=decDigits (u / 10)++[UInt8.ofNat (48+u % 10)]:=by rw[decDigits];simp[h]
def dtx(n:Nat):List UInt8:=if n<10 then[UInt8.ofNat (48+n)] else[UInt8.ofNat (48+n / 10),UInt8.ofNat (48+n % 10)]
theorem zLu{n:Nat}(h:n<=99):decDigits n=dtx n:=by
 unfold dtx;by_cases h1:n<10
 ·rw[if_pos h1,zDj h1]
 ·rw[if_neg h1,zHH h1,zDj (by omega)];rfl
theorem zBG(n:Nat):1<=(dtx n).length/\(dtx n).length<=2:=by unfold dtx;split <;> simp
theorem zCA(n:Nat)(h:n<=99):oT (n:Int)=some ⟨dtx n⟩:=by
 unfold oT;rw[if_pos (by omega),Lib.itoa_nonneg,zLu h]
def sgn(c:Int):UInt8:=if c<0 then 45 else 43
def bodyV(k:Nat)(i:Nat):List UInt8:=if k=1 then[UInt8.ofNat (105+i)] else dtx k++[42,UInt8.ofNat (105+i)]
def T0:List Int->Nat->List UInt8
 | [],_=>[]
 | c::cs,i=>(if c=0 then[] else sgn c::bodyV c.natAbs i)++T0 cs (i+1)
def TK(c:Int):List UInt8:=if c=0 then[] else sgn c::dtx c.natAbs
def raw(a:zA):List UInt8:=T0 a.Coefs 0++TK a.Const
def strip(l:List UInt8):List UInt8:=match l with|[]=>[]|b::r=>if b=43 then r else b::r
def tx(a:zA):List UInt8:=if raw a=[] then[48] else strip (raw a)
theorem zE4(k i:Nat):1<=(bodyV k i).length/\(bodyV k i).length<=4:=by
 have:=zBG k;unfold bodyV;split <;> simp <;> omega
theorem zHI:∀(cs:List Int) (i:Nat),(T0 cs i).length<=5*cs.length
 | [],_=>by simp[T0]
 | c::cs,i=>by
  have h1:=zE4 c.natAbs i
  have h2:=zHI cs (i+1)
  unfold T0
  by_cases h:c=0 <;> simp[h] <;> omega
theorem zLv(c:Int):(TK c).length<=3:=by
 have:=zBG c.natAbs;unfold TK;split <;> simp;omega
theorem zI6(i:Nat)(hi:i<4):sslc (⟨[105,106,107,108]⟩:Str) (i:Int) ((i+1:Nat):Int)=some ⟨[UInt8.ofNat (105+i)]⟩:=by
 rw[zIt (by omega) (by simp;omega)]
 match i,hi with
 | 0,_|1,_|2,_|3,_=>rfl
theorem zJB:∀(cs:List Int) (i:Nat),T0 cs i=[]∨∃s r,T0 cs i=s::r/\(s=43∨s=45)/\r ≠ []
 | [],_=>.inl rfl
 | c::cs,i=>by
  unfold T0
  by_cases h:c=0
  ·simp only[h,if_true,cM];exact zJB cs (i+1)
  ·refine .inr ⟨sgn c,bodyV c.natAbs i++T0 cs (i+1),by simp[h],?_,?_⟩
   ·unfold sgn;split
    ·exact .inr rfl
    ·exact .inl rfl
   ·have:=zE4 c.natAbs i
    intro e
    rw[en] at e
    rw[e.1] at this
    simp at this
theorem zGl(c:Int)(x:Str)(hx:x.l.length<=1000):qZ c x=some ⟨x.l++(if c<0 then[45] else if x.l=[] then[] else[43])⟩:=by
 unfold qZ;by_cases h:c<0
 ·simp only[h,decide_true,if_true,Option.bind_eq_bind,Option.bind_some,Option.pure_def];rw[zB5 (by simp;omega)];rfl
 ·simp only[h,decide_false,cj,if_false,Option.bind_eq_bind,Option.bind_some,Option.pure_def];cases hx0:x.l with
  | nil=>obtain⟨l⟩:=x;simp only at hx0;subst hx0;simp
  | cons b r=>
   have hne:((b::r:List UInt8)==[])=false:=rfl;rw[hne];simp only[dx,if_true];rw[zB5 (by rw[hx0] at hx ⊢;simp at hx ⊢;omega)];simp[hx0]
theorem zJC(c:Int)(h:-100<=c/\c<=100):(if(W (0 - c))>c then(W (0 - c)) else c)=((c.natAbs:Nat):Int):=by
 rw[oM (by omega) (by omega)];split <;> omega
theorem zJ7{A t:List UInt8}(h:A ≠ []):strip (A++t)=strip A++t:=by
 cases A with
 | nil=>exact absurd rfl h
 | cons b r=>simp only[cy,strip];split <;> rfl
theorem zFw(A:List UInt8)(hA:A=[]∨strip A ≠ [])(c:Int)(body:List UInt8):strip (A++sgn c::body)=strip A++(if c<0 then[45] else if strip A=[] then[] else[43])++body:=by
 by_cases h:A=[]
 ·subst h;unfold sgn;by_cases hc:c<0 <;> simp[hc,strip]
 ·have hs:=hA.resolve_left h;rw[zJ7 h];unfold sgn;by_cases hc:c<0 <;> simp[hc,hs]
theorem zJD:∀(cs:List Int) (c:Int) (i:Nat),T0 (cs++[c]) i=T0 cs i++(if c=0 then[] else sgn c::bodyV c.natAbs (i+cs.length))
 | [],c,i=>by simp[T0]
 | d::cs,c,i=>by
  rw[cy,T0,zJD cs c (i+1),T0,cI,co,show i+1+cs.length=i+(cs.length+1) by omega]
theorem zHs(cs:List Int)(i:Nat):T0 cs i=[]∨strip (T0 cs i) ≠ []:=by
 rcases zJB cs i with h|⟨s,r,h,_,hr⟩
 ·exact .inl h
 ·right;rw[h,strip];split
  ·exact hr
  ·simp
theorem zE5(l:List UInt8):(strip l).length<=l.length:=by
 unfold strip;split
 ·simp
 ·split <;> simp
theorem zHJ(a:zA)(ha:validB a=true):∀(j k:Nat),k+j=4->uO a (k:Int) ⟨strip (T0 (a.Coefs.take k) 0)⟩=some ⟨strip (T0 a.Coefs 0)⟩:=by
 simp only[validB,cg,decide_eq_true_eq] at ha;obtain⟨⟨h4,hk⟩,hall⟩:=ha;intro j
 induction j with
 | zero=>
  intro k hk;rw[uO];have:¬((k:Int)<(a.Coefs.length:Int)):=by omega
  simp[this,dk (show a.Coefs.length<=k by omega)]
 | succ j ih=>
  intro k hk;rw[uO];have aV:k<a.Coefs.length:=by omega
  have h1:((k:Int)<(a.Coefs.length:Int)):=by omega
  have hc:=ci.1 hall _ (List.getElem_mem aV);have hih:=ih (k+1) (by omega);rw[fa,ce aV] at hih;simp only[Option.toList_some] at hih;rw[zJD] at hih;simp only[h1,decide_true,if_true,fO,ce aV,Option.bind_eq_bind,Option.bind_some];have bo:(a.Coefs.take k).length=k:=by rw[cr];omega
  rw[bo,cO] at hih;have hst:=zHs (a.Coefs.take k) 0;have hT:=zHI (a.Coefs.take k) 0;rw[bo] at hT;have hsl:=zE5 (T0 (a.Coefs.take k) 0);generalize T0 (a.Coefs.take k) 0=A at hst hT hsl hih ⊢;generalize a.Coefs[k]=c at hc hih ⊢;by_cases h0:c=0
  ·subst h0;simp only[BEq.rfl,if_true];rw[eV (by omega)];simpa using hih
  ·have hb:(c==0)=false:=by simpa using h0
   simp only[coefB,cg,decide_eq_true_eq] at hc;simp only[h0,if_false] at hih;rw[zFw A hst] at hih;have cb:=zE4 c.natAbs k;have hds:=zBG c.natAbs;simp only[hb,cj,if_false];rw[zGl c _ (by show (strip A).length<=1000;omega)];simp only[Option.bind_some];rw[eV (by omega),zI6 k (by omega),zJC c (by omega)];generalize hX:strip A++(if c<0 then[45] else if strip A=[] then[] else[43])=X at hih ⊢;have hXl:X.length<=101:=by
    rw[<- hX,cw];split
    ·simp;omega
    ·split <;> simp <;> omega
   by_cases hn:c.natAbs=1
   ·have h9:¬(((c.natAbs:Nat):Int)>1):=by omega
    simp only[h9,decide_false,cj,if_false,Option.pure_def,Option.bind_some,id];rw[zB5 (by simp;omega)];simp only[Option.bind_some];rw[bodyV,if_pos hn] at hih;exact hih
   ·have h9:(((c.natAbs:Nat):Int)>1):=by omega
    simp only[h9,decide_true,if_true,zCA _ (show c.natAbs<=99 by omega),Option.bind_some];rw[zB5 (by simp;omega)];simp only[Option.bind_some];rw[zB5 (by simp;omega)];simp only[Option.pure_def,Option.bind_some,id];rw[zB5 (by simp;omega)];simp only[Option.bind_some];rw[bodyV,if_neg hn] at hih;simpa using hih
theorem zGm(a:zA)(ha:validB a=true):oU a=some ⟨tx a⟩:=by
 have hv:=ha;simp only[validB,cg,decide_eq_true_eq] at hv;obtain⟨⟨h4,hk⟩,hall⟩:=hv;unfold oU tx;have h1:=zHJ a ha 4 0 (by omega);rw[Int.natCast_zero,List.take_zero] at h1;rw[show (⟨[]⟩:Str)=⟨strip (T0 [] 0)⟩ from rfl,h1];have hT:=zHI a.Coefs 0;have hst:=zHs a.Coefs 0;have hsl:=zE5 (T0 a.Coefs 0);simp only[Option.bind_eq_bind,Option.bind_some];unfold raw;generalize T0 a.Coefs 0=A at hT hst hsl ⊢;by_cases h0:a.Const=0
 ·have hb:(a.Const != 0)=false:=by simp[h0]
  simp only[hb,cj,if_false,Option.pure_def,Option.bind_some,id];rw[TK,if_pos h0,cq];by_cases hA:A=[]
  ·subst hA;rfl
  ·have hs:=hst.resolve_left hA;have:(strip A==([]:List UInt8))=false:=by simpa using hs
   simp only[this,cj,if_false,hA]
 ·have hb:(a.Const != 0)=true:=by simpa using h0
  simp only[constB,cg,decide_eq_true_eq] at hk;have hds:=zBG a.Const.natAbs;simp only[hb,if_true];rw[zGl a.Const _ (by show (strip A).length<=1000;omega),zJC a.Const (by omega)];simp only[Option.bind_some,zCA _ (show a.Const.natAbs<=99 by omega)];have hss:=zFw A hst a.Const (dtx a.Const.natAbs);generalize hX:strip A++(if a.Const<0 then[45] else if strip A=[] then[] else[43])=X at hss ⊢;have hXl:X.length<=101:=by
   rw[<- hX,cw];split
   ·simp;omega
   ·split <;> simp <;> omega
  rw[zB5 (by simp;omega)];simp only[Option.pure_def,Option.bind_some,id];have hne:(X++dtx a.Const.natAbs==([]:List UInt8))=false:=by
   have:X++dtx a.Const.natAbs ≠ []:=by
    intro e;rw[en] at e;rw[e.2] at hds;simp at hds
   simpa using this
  simp only[hne,cj,if_false];rw[TK,if_neg h0,if_neg (by simp),hss]
end Go.LN
namespace Go.LN
open Lib (itoa decDigits)
def isSg(b:UInt8):Bool:=b==43||b==45
def nsg(b:UInt8):Bool:=!(isSg b)
def digs11:List UInt8:=[48,49,50,51,52,53,54,55,56,57,42]
def cutEnd(s suf:List UInt8):List UInt8:=if suf.length<=s.length/\s.drop (s.length - suf.length)=suf then s.take (s.length - suf.length) else s
def nameOf(body:List UInt8):List UInt8:=Lib.trimLeftS body digs11
def digOf(body:List UInt8):List UInt8:=cutEnd (cutEnd body (nameOf body)) [42]
def numOf(body:List UInt8):Option Int:=if digOf body=[] then some 1 else if(atoiM ⟨digOf body⟩).2||decide ((atoiM ⟨digOf body⟩).1>1000) then none else some (atoiM ⟨digOf body⟩).1
def signOf(rest:List UInt8):Int:=match rest with|[]=>1|b::_=>if b=45 then -1 else 1
end Go.LN
namespace Go.LN
open Lib (itoa decDigits)
theorem zJE:∀(k:Fin 100),numOf (dtx k.val)=some (k.val:Int)/\nameOf (dtx k.val)=[]/\(dtx k.val).all nsg=true/\asc (dtx k.val)=true:=by decide +kernel
theorem zI7{a:zA}(ha:validB a=true):(tx a).length<=23:=by
 simp only[validB,cg,decide_eq_true_eq] at ha;have h1:=zHI a.Coefs 0;have h2:=zLv a.Const;have h3:=zE5 (raw a);unfold tx;split
 ·simp
 ·unfold raw at h3 ⊢;rw[cw] at h3;omega
theorem zHt(c:Int)(h:-100<=c/\c<=100):W (0+W ((if c<0 then -1 else 1)*((c.natAbs:Nat):Int)))=c:=by
 by_cases h0:c<0
 ·simp only[h0,if_true];rw[oM (x:=(-1)*((c.natAbs:Nat):Int)) (by omega) (by omega),oM (by omega) (by omega)];omega
 ·simp only[h0,if_false];rw[oM (x:=1*((c.natAbs:Nat):Int)) (by omega) (by omega),oM (by omega) (by omega)];omega
end Go.LN
