/- Helper of the proof (see the last text). -/
import Derived.Test.YtkipogionmkncaaGreatDoorQT
import Derived.Test.YtkipogionmkncaaGreatDoorHM7
set_option linter.unusedVariables false
set_option linter.unusedSimpArgs false
namespace Go.LN
theorem oS{α β:Type}(x:α)(f:α->Option β):(some x).bind f=f x:=rfl
theorem oB{α β:Type}(x:Option α)(f:α->Option β):(x>>=f)=x.bind f:=rfl
theorem oP{α:Type}(x:α):(pure x:Option α)=some x:=rfl
theorem bF:(false=true)=False:=by simp
theorem iN(n:Nat):((n:Int)).toNat=n:=zq n
theorem gC{α:Type}{l:List α}{i:Nat}(h:i<l.length):l.drop i=l[i]::l.drop (i+1):=yp h
theorem dT(h:Decidable True):decide True=true:=by simp
theorem dF(h:Decidable False):decide False=false:=by simp
theorem gM{α:Type}{l:List α}{i:Nat}(h:i<l.length):l[i]∈l:=List.getElem_mem h
theorem nZ:((0:Nat):Int)=0:=rfl
theorem dN{α:Type}{l:List α}{i:Nat}:l.drop i=[]↔l.length<=i:=yw
theorem bA(a b:Bool):((a&&b)=true)=(a=true/\b=true):=xv a b
theorem bT:(!true)=false:=rfl
theorem lA{α:Type}{a b:List α}:(a++b).length=a.length+b.length:=yc
theorem lM{α β:Type}{l:List α}(f:α->β):(l.map f).length=l.length:=ym f
theorem zAY{s:Str}{f i:Nat}(hf:f<=i)(hi:i<=s.l.length):sslc s (f:Int) (i:Int)=some ⟨(s.l.take i).drop f⟩:=by
 unfold sslc slc;rw[if_pos (by omega)];simp
theorem sX{α:Type}{b:Nat}{l k:List α}(h:(l.length+k.length)*b<=140737488355328):app b l k=some (l++k):=by
 unfold app;rw[if_pos h]
theorem zJj(a b:UInt8):((a.toNat:Int)==(b.toNat:Int))=decide (a=b):=by
 by_cases h:a=b
 ·subst h;simp
 ·rw[Az h];exact beq_false_of_ne (λe=>h (UInt8.toNat_inj.1 (by omega)))
theorem zAK(a:UInt8)(n:Nat)(hn:n<256):((a.toNat:Int)==(n:Int))=decide (a=UInt8.ofNat n):=by
 have:=zJj a (UInt8.ofNat n);rwa[UInt8.toNat_ofNat_of_lt' (by exact hn)] at this
theorem zO3{f:Int->Option Bool}{p:Int->Bool}(s:List Int)(hf:∀x∈s,f x=some (p x))(hs:s.length<=9223372036854775806):∀j k,k+j=s.length ->
 vV s f (k:Int)=some (match (s.drop k).findIdx? p with|some i=>.ret (((k+i:Nat)):Int)|none=>.done ()):=by
 intro j
 induction j with
 | zero=>
  intro k hk
  rw[vV]
  have:¬((k:Int)<(s.length:Int)):=by omega
  simp[this,dN.2 (show s.length<=k by omega)]
 | succ j ih=>
  intro k hk
  rw[vV]
  have aG:k<s.length:=by omega
  have:((k:Int)<(s.length:Int)):=by omega
  simp only[this,dT,xu,gK,ya aG,oB,oS,hf _ (gM aG)]
  rw[gC aG,Bf]
  cases hp:p s[k] with
  | true=>simp
  | false=>
   simp only[bF,xt]
   rw[fV (by omega),ih (k+1) (by omega)]
   cases hx:List.findIdx? p (List.drop (k+1) s) with
   | none=>simp
   | some i=>simp;omega
theorem zDw{f:Int->Option Bool}{p:Int->Bool}(s:List Int)(hf:∀x∈s,f x=some (p x))(hs:s.length<=9223372036854775806):wF s f=some (s.any p):=by
 unfold wF nT;have:=zO3 s hf hs s.length 0 (by omega);rw[yn] at this;simp only[nZ,oB] at this ⊢;rw[this];cases h:List.findIdx? p s with
 | none=>
  have:s.any p=false:=by simpa using AM.1 h
  simp[this]
 | some i=>
  have:s.any p=true:=by
   obtain⟨h1,h2⟩:=Ak.1 h;exact List.any_eq_true.2 ⟨s[i],gM h1,h2.1⟩
  simp[this]
def coefB(c:Int):Bool:=decide (-9<=c)&&decide (c<=9)
def constB(c:Int):Bool:=decide (-99<=c)&&decide (c<=99)
def validB(a:zA):Bool:=decide (a.Coefs.length=4)&&constB a.Const&&a.Coefs.all coefB
theorem gI(n lo hi:Int):uF n lo hi=some (decide (lo<=n)&&decide (n<=hi)):=by
 unfold uF;by_cases h:lo<=n <;> simp[h]
theorem implValid(a:zA)(h:a.Coefs.length<=1048576):qU a=some (validB a):=by
 unfold qU validB zAW;have e:((a.Coefs.length:Int)==4)=decide (a.Coefs.length=4):=by
  by_cases h4:a.Coefs.length=4
  ·simp[h4]
  ·have:¬(a.Coefs.length:Int)=4:=by omega
   simp[h4,this]
 rw[gI,e];by_cases h4:a.Coefs.length=4
 ·have hc:wF a.Coefs qT=some (a.Coefs.any λc=>!coefB c):=by
   refine zDw _ (λx _=>?_) (by omega);unfold qT;rw[gI];rfl
  simp only[h4,dT,xu,oB,oS,oP,id,hc,yz];rw[show (decide (-99<=a.Const)&&decide (a.Const<=99))=constB a.Const from rfl];cases hk:constB a.Const with
  | false=>simp
  | true=>
   simp only[xu,oB,oS,yz];rw[Ar];simp
 ·simp[h4]
theorem specWithin(n:Int)(k:Nat)(hk:k<=1000):tH n (k:Int)=some (decide (-(k:Int)<=n)&&decide (n<=k)):=by
 unfold tH;rw[tV (by omega) (by omega)];by_cases h:(-(k:Int))<=n
 ·have:n>=0 - (k:Int):=by omega
  simp[h,this]
 ·have:¬n>=0 - (k:Int):=by omega
  simp[h,this]
theorem zKK(a:zA)(h:a.Coefs.length<=1048576):∀j k,k+j=a.Coefs.length->uD a (k:Int)=some (if(a.Coefs.drop k).all coefB then .done () else .ret false):=by
 intro j
 induction j with
 | zero=>
  intro k hk;rw[uD];have:¬((k:Int)<(a.Coefs.length:Int)):=by omega
  simp[this,dN.2 (show a.Coefs.length<=k by omega)]
 | succ j ih=>
  intro k hk;rw[uD];have aG:k<a.Coefs.length:=by omega
  have h1:((k:Int)<(a.Coefs.length:Int)):=by omega
  have hw:tH a.Coefs[k] 9=some (coefB a.Coefs[k]):=specWithin _ 9 (by omega);simp only[h1,dT,xu,gK,ya aG,oB,oS,hw];rw[gC aG,zh];cases hp:coefB a.Coefs[k] with
  | false=>simp
  | true=>
   simp only[bT,bF,xt,yz];rw[fV (by omega),ih (k+1) (by omega)]
theorem specValid(a:zA)(h:a.Coefs.length<=1048576):sA a=some (validB a):=by
 unfold sA validB;have e:((a.Coefs.length:Int)==4)=decide (a.Coefs.length=4):=by
  by_cases h4:a.Coefs.length=4
  ·simp[h4]
  ·have:¬(a.Coefs.length:Int)=4:=by omega
   simp[h4,this]
 have hl:=zKK a h _ 0 (yv _);have hw:tH a.Const 99=some (constB a.Const):=specWithin _ 99 (by omega);rw[yn,nZ] at hl;rw[hl,e,hw];by_cases hall:a.Coefs.all coefB=true
 ·simp only[hall,xu,oB,oS];by_cases h4:a.Coefs.length=4 <;> simp[h4]
 ·simp only[hall,xt,oB,oS];simp
theorem zKL{f:zA->Option Bool}{p:zA->Bool}(s:List zA)(hf:∀x∈s,f x=some (p x))(hs:s.length<=9223372036854775806):∀j k,k+j=s.length ->
 xN s f (k:Int)=some (match (s.drop k).findIdx? p with|some i=>.ret (((k+i:Nat)):Int)|none=>.done ()):=by
 intro j
 induction j with
 | zero=>
  intro k hk
  rw[xN]
  have:¬((k:Int)<(s.length:Int)):=by omega
  simp[this,dN.2 (show s.length<=k by omega)]
 | succ j ih=>
  intro k hk
  rw[xN]
  have aG:k<s.length:=by omega
  have:((k:Int)<(s.length:Int)):=by omega
  simp only[this,dT,xu,gK,ya aG,oB,oS,hf _ (gM aG)]
  rw[gC aG,Bf]
  cases hp:p s[k] with
  | true=>simp
  | false=>
   simp only[bF,xt]
   rw[fV (by omega),ih (k+1) (by omega)]
   cases hx:List.findIdx? p (List.drop (k+1) s) with
   | none=>simp
   | some i=>simp;omega
theorem zFy{f:zA->Option Bool}{p:zA->Bool}(s:List zA)(hf:∀x∈s,f x=some (p x))(hs:s.length<=9223372036854775806):xY s f=some (s.any p):=by
 unfold xY uL;have:=zKL s hf hs s.length 0 (by omega);rw[yn] at this;simp only[nZ,oB] at this ⊢;rw[this];cases h:List.findIdx? p s with
 | none=>
  have:s.any p=false:=by simpa using AM.1 h
  simp[this]
 | some i=>
  have:s.any p=true:=by
   obtain⟨h1,h2⟩:=Ak.1 h;exact List.any_eq_true.2 ⟨s[i],gM h1,h2.1⟩
  simp[this]
theorem zKM{f:zI->Option Bool}{p:zI->Bool}(s:List zI)(hf:∀x∈s,f x=some (p x))(hs:s.length<=9223372036854775806):∀j k,k+j=s.length ->
 xU s f (k:Int)=some (match (s.drop k).findIdx? p with|some i=>.ret (((k+i:Nat)):Int)|none=>.done ()):=by
 intro j
 induction j with
 | zero=>
  intro k hk
  rw[xU]
  have:¬((k:Int)<(s.length:Int)):=by omega
  simp[this,dN.2 (show s.length<=k by omega)]
 | succ j ih=>
  intro k hk
  rw[xU]
  have aG:k<s.length:=by omega
  have:((k:Int)<(s.length:Int)):=by omega
  simp only[this,dT,xu,gK,ya aG,oB,oS,hf _ (gM aG)]
  rw[gC aG,Bf]
  cases hp:p s[k] with
  | true=>simp
  | false=>
   simp only[bF,xt]
   rw[fV (by omega),ih (k+1) (by omega)]
   cases hx:List.findIdx? p (List.drop (k+1) s) with
   | none=>simp
   | some i=>simp;omega
theorem zKN{f:zI->Option Bool}{p:zI->Bool}(s:List zI)(hf:∀x∈s,f x=some (p x))(hs:s.length<=9223372036854775806):vD s f=some (s.any p):=by
 unfold vD tO;have:=zKM s hf hs s.length 0 (by omega);rw[yn] at this;simp only[nZ,oB] at this ⊢;rw[this];cases h:List.findIdx? p s with
 | none=>
  have:s.any p=false:=by simpa using AM.1 h
  simp[this]
 | some i=>
  have:s.any p=true:=by
   obtain⟨h1,h2⟩:=Ak.1 h;exact List.any_eq_true.2 ⟨s[i],gM h1,h2.1⟩
  simp[this]
theorem zKO{f:zJ->Option Bool}{p:zJ->Bool}(s:List zJ)(hf:∀x∈s,f x=some (p x))(hs:s.length<=9223372036854775806):∀j k,k+j=s.length ->
 xO s f (k:Int)=some (match (s.drop k).findIdx? p with|some i=>.ret (((k+i:Nat)):Int)|none=>.done ()):=by
 intro j
 induction j with
 | zero=>
  intro k hk
  rw[xO]
  have:¬((k:Int)<(s.length:Int)):=by omega
  simp[this,dN.2 (show s.length<=k by omega)]
 | succ j ih=>
  intro k hk
  rw[xO]
  have aG:k<s.length:=by omega
  have:((k:Int)<(s.length:Int)):=by omega
  simp only[this,dT,xu,gK,ya aG,oB,oS,hf _ (gM aG)]
  rw[gC aG,Bf]
  cases hp:p s[k] with
  | true=>simp
  | false=>
   simp only[bF,xt]
   rw[fV (by omega),ih (k+1) (by omega)]
   cases hx:List.findIdx? p (List.drop (k+1) s) with
   | none=>simp
   | some i=>simp;omega
theorem zKP{f:zJ->Option Bool}{p:zJ->Bool}(s:List zJ)(hf:∀x∈s,f x=some (p x))(hs:s.length<=9223372036854775806):wS s f=some (s.any p):=by
 unfold wS uM;have:=zKO s hf hs s.length 0 (by omega);rw[yn] at this;simp only[nZ,oB] at this ⊢;rw[this];cases h:List.findIdx? p s with
 | none=>
  have:s.any p=false:=by simpa using AM.1 h
  simp[this]
 | some i=>
  have:s.any p=true:=by
   obtain⟨h1,h2⟩:=Ak.1 h;exact List.any_eq_true.2 ⟨s[i],gM h1,h2.1⟩
  simp[this]
theorem zAZ{n:Nat}{f:Int->Option (Out Unit Bool)}{P:Nat->Bool}(step:∀i,i<n->f (i:Int)=if P i then f ((i+1:Nat):Int) else some (.ret false))(fin:f (n:Int)=some (.done ())):f 0=some (if(List.range n).all P then .done () else .ret false):=by
 have fh:∀j i,i+j=n->f (i:Int)=some (if(List.range' i j).all P then .done () else .ret false):=by
  intro j
  induction j with
  | zero=>intro i hi;rw[show i=n by omega,fin];rfl
  | succ j ih=>
   intro i hi;rw[step i (by omega),A6,zh];cases hP:P i with
   | false=>simp
   | true=>simp only[xu,yz];exact ih (i+1) (by omega)
 have:=fh n 0 (by omega);rw[List.range_eq_range'];exact this
theorem zAh{α:Type}(l:List α)(P:α->Bool)(d:α):(List.range l.length).all (λi=>P (l.getD i d))=l.all P:=by
 rw[Bool.eq_iff_iff,yb,yb];constructor
 ·intro h x hx;obtain⟨i,hi,rfl⟩:=Ao.1 hx;have:=h i (zg.2 hi);simpa [hi] using this
 ·intro h i hi;have hi:=zg.1 hi;simp only[zp,ya hi,zx];exact h _ (gM hi)
theorem yN{α:Type}{l:List α}{i:Nat}(h:i<l.length):idx l (i:Int)=some l[i]:=by rw[gK,ya h]
theorem wY{i:Nat}(h:i<9223372036854775807):W ((i:Int)+1)=((i+1:Nat):Int):=by rw[tV (by omega) (by omega)];omega
def depL:List Int->Nat->Nat->Nat
 | [],_,n=>n
 | c::C,i,n=>depL C (i+1) (if c=0 then n else i+1)
def depF(a:zA):Nat:=depL a.Coefs 0 0
theorem zKQ(a:zA)(h:a.Coefs.length<=1048576):∀(j i n:Nat),i+j=a.Coefs.length->sY a (n:Int) (i:Int)=some ((depL (a.Coefs.drop i) i n:Nat):Int):=by
 intro j
 induction j with
 | zero=>
  intro i n hi;rw[sY];have:¬((i:Int)<(a.Coefs.length:Int)):=by omega
  simp only[this,dF,bF,xt];rw[dN.2 (by omega)];rfl
 | succ j ih=>
  intro i n hi;rw[sY];have aG:i<a.Coefs.length:=by omega
  have h1:((i:Int)<(a.Coefs.length:Int)):=by omega
  simp only[h1,dT,xu,yN aG,oB,oS];rw[gC aG,depL,wY (by omega)];by_cases h0:a.Coefs[i]=0
  ·simp only[h0,bne_self_eq_false,bF,xt,xu,oP,oS,id];exact ih (i+1) n (by omega)
  ·have hb:(a.Coefs[i] != 0)=true:=by simpa using h0
   simp only[hb,xu,h0,xt,oP,oS];exact ih (i+1) (i+1) (by omega)
theorem specDepth(a:zA)(h:a.Coefs.length<=1048576):nK a=some ((depF a:Nat):Int):=by
 unfold nK depF;have:=zKQ a h _ 0 0 (yv _);rw[nZ,yn] at this;rw[this];rfl
theorem zLK:∀(C D:List Int) (i n:Nat),depL (C++D) i n=depL D (i+C.length) (depL C i n)
 | [],D,i,n=>rfl
 | c::C,D,i,n=>by rw[ze,depL,depL,zLK C D,xy,show i+1+C.length=i+(C.length+1) by omega]
theorem zKR(a:zA)(h:a.Coefs.length<=1048576):∀n,n<=a.Coefs.length->depL (a.Coefs.drop n) n n=n->∀m:Nat,(∀k,depL (a.Coefs.drop n) n k=k)->rM a (n:Int)=some ((depL (a.Coefs.take n) 0 0:Nat):Int):=by
 intro n
 induction n with
 | zero=>
  intro _ _ _ _;rw[rM];rfl
 | succ n ih=>
  intro hn h1 m hk;rw[rM];have h0:(((n+1:Nat):Int)>0):=by omega
  have aG:n<a.Coefs.length:=by omega
  have hW:W (((n+1:Nat):Int) - 1)=(n:Int):=by rw[tV (by omega) (by omega)];omega
  simp only[h0,dT,xu,hW,yN aG,oB,oS,oP];rw[Ab,ya aG,Bc,zLK];by_cases hc:a.Coefs[n]=0
  ·simp only[hc,BEq.rfl,xu,depL];have hk':∀k,depL (a.Coefs.drop n) n k=k:=λk=>by rw[gC aG,depL,hc,if_pos rfl];exact hk k
   exact ih (by omega) (hk' n) 0 hk'
  ·have hb:(a.Coefs[n]==0)=false:=by simpa using hc
   simp only[hb,bF,xt,depL,hc,id,yl];rw[show 0+min n a.Coefs.length+1=n+1 by omega]
theorem implDepth(a:zA)(h:a.Coefs.length<=1048576):pT a=some ((depF a:Nat):Int):=by
 unfold pT depF;have hd:∀k,depL (a.Coefs.drop a.Coefs.length) a.Coefs.length k=k:=λk=>by rw[A8];rfl
 have:=zKR a h a.Coefs.length (zf _) (hd _) 0 hd;rw[z7] at this;rw[this];rfl
def BA(a:zA):Prop:=a.Coefs.length<=1000
def BL(l:List zA):Prop:=l.length<=1000/\∀a∈l,BA a
def okA(aa:Int)(a:zA):Bool:=validB a&&decide ((depF a:Int)<=aa)
def sideB(l:List zA)(aa:Int):Bool:=(decide (1<=l.length)&&decide (l.length<=2))&&l.all (okA aa)
theorem implBound(a:zA)(h:BA a)(d:Int):oA a d=some (!(okA d a)):=by
 unfold oA okA;have h':a.Coefs.length<=1048576:=by unfold BA at h;omega
 rw[implValid a h',implDepth a h'];cases validB a with
 | false=>rfl
 | true=>
  by_cases hd:(depF a:Int)<=d
  ·have:¬((depF a:Int)>d):=by omega
   simp[hd,this]
  ·have:((depF a:Int)>d):=by omega
   simp[hd,this]
theorem implSide(l:List zA)(h:BL l)(d:Int):gA l d=some (sideB l d):=by
 unfold gA sideB;rw[gI];have e1:decide ((1:Int)<=(l.length:Int))=decide (1<=l.length):=by simp;omega
 have e2:decide ((l.length:Int)<=2)=decide (l.length<=2):=by simp;omega
 rw[e1,e2];have hc:=zFy (f:=λx0=>oA x0 d) (p:=λx=>!(okA d x)) l (λx hx=>implBound x (h.2 x hx) d) (by have:=h.1;omega);cases hb:(decide (1<=l.length)&&decide (l.length<=2)) with
 | false=>rfl
 | true=>
  simp only[oB,oS,xu,hc,oP,id,yz];rw[Ar];simp
theorem specSide(l:List zA)(h:BL l)(d:Int):jI l d=some (sideB l d):=by
 unfold jI sideB;have aP:=h.1;have hl:=zAZ (n:=l.length) (f:=rV l d) (P:=λi=>okA d (l.getD i ⟨[],0⟩)) (λi hi=>by
  rw[rV];have h1:((i:Int)<(l.length:Int)):=by omega
  have ha:l[i].Coefs.length<=1048576:=by have:=h.2 _ (gM hi);unfold BA at this;omega
  have hg:l.getD i ⟨[],0⟩=l[i]:=by simp[hi]
  simp only[h1,dT,xu,yN hi,oB,oS,specValid _ ha,specDepth _ ha,hg,okA];rw[wY (by omega)];cases validB l[i] with
  | false=>rfl
  | true=>
   by_cases hd:(depF l[i]:Int)<=d
   ·have:¬((depF l[i]:Int)>d):=by omega
    simp[hd,this]
   ·have:((depF l[i]:Int)>d):=by omega
    simp[hd,this]) (by
  rw[rV];simp)
 rw[hl,zAh l (okA d)];cases hb:l.all (okA d) with
 | false=>simp
 | true=>
  simp only[xu,oB,oS,Bl];by_cases e1:1<=l.length
  ·have:((l.length:Int)>=1):=by omega
   have e2:decide ((l.length:Int)<=2)=decide (l.length<=2):=by simp;omega
   simp[this,e1,e2]
  ·have:¬((l.length:Int)>=1):=by omega
   simp[this,e1]
def BN(nest:List zD):Prop:=nest.length<=100000/\∀x∈nest,BL x.Lo/\BL x.Hi
def nestB(nest:List zD):Bool:=decide (nest.length<=4)&&(List.range nest.length).all λi=>sideB (nest.getD i ⟨[],[]⟩).Lo i&&sideB (nest.getD i ⟨[],[]⟩).Hi i
theorem implNest(nest:List zD)(h:BN nest):fK nest=some (nestB nest):=by
 unfold fK nestB;have aP:=h.1;have hl:=zAZ (n:=nest.length) (f:=pU nest) (P:=λi=>sideB (nest.getD i ⟨[],[]⟩).Lo i&&sideB (nest.getD i ⟨[],[]⟩).Hi i) (λi hi=>by
  rw[pU];have h1:((i:Int)<(nest.length:Int)):=by omega
  have ha:=h.2 _ (gM hi);have hg:nest.getD i ⟨[],[]⟩=nest[i]:=by simp[hi]
  simp only[h1,dT,xu,yN hi,oB,oS,implSide _ ha.1,implSide _ ha.2,hg];rw[wY (by omega)];cases sideB nest[i].Lo i with
  | false=>rfl
  | true=>cases sideB nest[i].Hi i <;> rfl) (by
  rw[pU];simp)
 rw[hl];have e2:decide ((nest.length:Int)<=4)=decide (nest.length<=4):=by simp;omega
 cases hb:(List.range nest.length).all λi=>sideB (nest.getD i ⟨[],[]⟩).Lo i&&sideB (nest.getD i ⟨[],[]⟩).Hi i with
 | false=>simp
 | true=>simp[e2]
theorem specNest(nest:List zD)(h:BN nest):mT nest=some (nestB nest):=by
 unfold mT nestB;have aP:=h.1;have e2:decide ((nest.length:Int)<=4)=decide (nest.length<=4):=by simp;omega
 by_cases h4:nest.length<=4
 ·have hl:=zAZ (n:=nest.length) (f:=uG nest) (P:=λi=>sideB (nest.getD i ⟨[],[]⟩).Lo i&&sideB (nest.getD i ⟨[],[]⟩).Hi i) (λi hi=>by
   rw[uG];have h1:((i:Int)<(nest.length:Int)):=by omega
   have ha:=h.2 _ (gM hi);have hg:nest.getD i ⟨[],[]⟩=nest[i]:=by simp[hi]
   simp only[h1,e2,h4,dT,xu,yN hi,oP,oB,oS,specSide _ ha.1,specSide _ ha.2,hg];rw[wY (by omega)];cases sideB nest[i].Lo i with
   | false=>rfl
   | true=>cases sideB nest[i].Hi i <;> rfl) (by
   rw[uG];simp)
  rw[hl,e2];cases hb:(List.range nest.length).all λi=>sideB (nest.getD i ⟨[],[]⟩).Lo i&&sideB (nest.getD i ⟨[],[]⟩).Hi i with
  | false=>simp
  | true=>simp
 ·rw[uG];by_cases h0:(0:Int)<(nest.length:Int) <;> simp[h0,e2,h4]
def J64(x:Int):Prop:=-9223372036854775808<=x/\x<=9223372036854775807
theorem zRK(x:Int):J64 (W x):=by
 show -9223372036854775808<=IntKind.i64.wrap x/\IntKind.i64.wrap x<=9223372036854775807;rw[IntKind.wrap_i64];omega
def evC:List Int->List Int->Int->Int
 | c::C,x::p,n=>evC C p (W (n+W (c*x)))
 | _,_,n=>n
def evA(a:zA)(p:List Int):Int:=evC a.Coefs p a.Const
theorem zMk(C:List Int)(n:Int):evC C [] n=n:=by cases C <;> rfl
theorem zO4(p:List Int)(n:Int):evC [] p n=n:=by cases p <;> rfl
theorem zFz:∀(C p:List Int) (n:Int),J64 n->J64 (evC C p n)
 | [],p,n,h=>by rw[zO4];exact h
 | c::C,[],n,h=>h
 | c::C,x::p,n,h=>zFz C p _ (zRK _)
theorem zLL(a:zA)(p:List Int)(h:p.length<=a.Coefs.length)(hp:p.length<=1048576):∀j i n,i+j=p.length->qE a p n (i:Int)=some (evC (a.Coefs.drop i) (p.drop i) n):=by
 intro j
 induction j with
 | zero=>
  intro i n hi;rw[qE];have:¬((i:Int)<(p.length:Int)):=by omega
  simp only[this,dF,bF,xt];rw[show p.drop i=[] from dN.2 (by omega),zMk];rfl
 | succ j ih=>
  intro i n hi;rw[qE];have aG:i<p.length:=by omega
  have ke:i<a.Coefs.length:=by omega
  have h1:((i:Int)<(p.length:Int)):=by omega
  simp only[h1,dT,xu,yN aG,yN ke,oB,oS];rw[wY (by omega),ih (i+1) _ (by omega),gC aG,gC ke,evC]
theorem implEval(a:zA)(p:List Int)(h:p.length<=a.Coefs.length)(hp:p.length<=1048576):rO a p=some (evA a p):=by
 unfold rO evA;have:=zLL a p h hp _ 0 a.Const (yv _);rw[nZ,yn,yn] at this;rw[this];rfl
theorem zLM(a:zA)(p:List Int)(h:p.length<=a.Coefs.length)(hp:p.length<=1048576):∀j i n,i+j=p.length->rW a p n (i:Int)=some (evC (a.Coefs.drop i) (p.drop i) n):=by
 intro j
 induction j with
 | zero=>
  intro i n hi;rw[rW];have:¬((i:Int)<(p.length:Int)):=by omega
  simp only[this,dF,bF,xt,oP,oB,oS];rw[show p.drop i=[] from dN.2 (by omega),zMk];rfl
 | succ j ih=>
  intro i n hi;rw[rW];have aG:i<p.length:=by omega
  have ke:i<a.Coefs.length:=by omega
  have h1:((i:Int)<(p.length:Int)):=by omega
  have h2:((i:Int)<(a.Coefs.length:Int)):=by omega
  simp only[h1,h2,dT,xu,yN aG,yN ke,oP,oB,oS];rw[wY (by omega),ih (i+1) _ (by omega),gC aG,gC ke,evC]
theorem specEval(a:zA)(p:List Int)(h:p.length<=a.Coefs.length)(hp:p.length<=1048576):oE a p=some (evA a p):=by
 unfold oE evA;have:=zLM a p h hp _ 0 a.Const (yv _);rw[nZ,yn,yn] at this;rw[this];rfl
def mxF(p:List Int):List zA->Int->Int
 | [],n=>n
 | a::l,n=>mxF p l (if evA a p>n then evA a p else n)
def mnF(p:List Int):List zA->Int->Int
 | [],n=>n
 | a::l,n=>mnF p l (if evA a p<n then evA a p else n)
def loF(l:zD)(p:List Int):Int:=match l.Lo with|[]=>0|a::r=>mxF p r (evA a p)
def hiF(l:zD)(p:List Int):Int:=match l.Hi with|[]=>0|a::r=>mnF p r (evA a p)
def OV(l:List zA):Prop:=l ≠ []/\l.length<=1000/\∀a∈l,a.Coefs.length=4/\J64 a.Const
theorem zMl(p:List Int):∀(l:List zA) (n:Int),J64 n->(∀a∈l,J64 a.Const)->J64 (mxF p l n)
 | [],n,h,_=>h
 | a::l,n,h,hl=>by
  refine zMl p l _ ?_ (λx hx=>hl x (xx _ hx))
  split
  ·exact zFz _ _ _ (hl a (xz ..))
  ·exact h
theorem zMm(p:List Int):∀(l:List zA) (n:Int),J64 n->(∀a∈l,J64 a.Const)->J64 (mnF p l n)
 | [],n,h,_=>h
 | a::l,n,h,hl=>by
  refine zMm p l _ ?_ (λx hx=>hl x (xx _ hx))
  split
  ·exact zFz _ _ _ (hl a (xz ..))
  ·exact h
theorem zKS{l:zD}(p:List Int)(h:OV l.Lo):J64 (loF l p):=by
 unfold loF;obtain⟨h1,_,h2⟩:=h;cases hl:l.Lo with
 | nil=>exact absurd hl h1
 | cons a r=>
  rw[hl] at h2;exact zMl _ _ _ (zFz _ _ _ (h2 a (xz ..)).2) λx hx=>(h2 x (xx _ hx)).2
theorem zKT{l:zD}(p:List Int)(h:OV l.Hi):J64 (hiF l p):=by
 unfold hiF;obtain⟨h1,_,h2⟩:=h;cases hl:l.Hi with
 | nil=>exact absurd hl h1
 | cons a r=>
  rw[hl] at h2;exact zMm _ _ _ (zFz _ _ _ (h2 a (xz ..)).2) λx hx=>(h2 x (xx _ hx)).2
theorem zLN(l:zD)(p:List Int)(hp:p.length<=4)(h:OV l.Lo):∀j i n,i+j=l.Lo.length->pV l p n (i:Int)=some (mxF p (l.Lo.drop i) n):=by
 obtain⟨_,hl,h2⟩:=h;intro j
 induction j with
 | zero=>
  intro i n hi;rw[pV];have:¬((i:Int)<(l.Lo.length:Int)):=by omega
  simp only[this,dF,bF,xt];rw[dN.2 (by omega)];rfl
 | succ j ih=>
  intro i n hi;rw[pV];have aG:i<l.Lo.length:=by omega
  have h1:((i:Int)<(l.Lo.length:Int)):=by omega
  have ha:=(h2 _ (gM aG)).1;simp only[h1,dT,xu,yN aG,oB,oS,implEval _ _ (show p.length<=l.Lo[i].Coefs.length by omega) (by omega)];rw[wY (by omega),ih (i+1) _ (by omega),gC aG,mxF]
theorem zLO(l:zD)(p:List Int)(hp:p.length<=4)(h:OV l.Hi):∀j i n,i+j=l.Hi.length->pW l p n (i:Int)=some (mnF p (l.Hi.drop i) n):=by
 obtain⟨_,hl,h2⟩:=h;intro j
 induction j with
 | zero=>
  intro i n hi;rw[pW];have:¬((i:Int)<(l.Hi.length:Int)):=by omega
  simp only[this,dF,bF,xt];rw[dN.2 (by omega)];rfl
 | succ j ih=>
  intro i n hi;rw[pW];have aG:i<l.Hi.length:=by omega
  have h1:((i:Int)<(l.Hi.length:Int)):=by omega
  have ha:=(h2 _ (gM aG)).1;simp only[h1,dT,xu,yN aG,oB,oS,implEval _ _ (show p.length<=l.Hi[i].Coefs.length by omega) (by omega)];rw[wY (by omega),ih (i+1) _ (by omega),gC aG,mnF]
theorem zLP(l:zD)(p:List Int)(hp:p.length<=4)(h:OV l.Lo):∀j i n,i+j=l.Lo.length->sZ l p n (i:Int)=some (mxF p (l.Lo.drop i) n):=by
 obtain⟨_,hl,h2⟩:=h;intro j
 induction j with
 | zero=>
  intro i n hi;rw[sZ];have:¬((i:Int)<(l.Lo.length:Int)):=by omega
  simp only[this,dF,bF,xt];rw[dN.2 (by omega)];rfl
 | succ j ih=>
  intro i n hi;rw[sZ];have aG:i<l.Lo.length:=by omega
  have h1:((i:Int)<(l.Lo.length:Int)):=by omega
  have ha:=(h2 _ (gM aG)).1;simp only[h1,dT,xu,yN aG,oB,oS,specEval _ _ (show p.length<=l.Lo[i].Coefs.length by omega) (by omega)];rw[wY (by omega),gC aG,mxF];by_cases hc:evA l.Lo[i] p>n
  ·simp only[hc,dT,xu,oP,oS,id];exact ih (i+1) _ (by omega)
  ·simp only[hc,dF,bF,xt,oP,oS,id];exact ih (i+1) _ (by omega)
theorem zLQ(l:zD)(p:List Int)(hp:p.length<=4)(h:OV l.Hi):∀j i n,i+j=l.Hi.length->rA l p n (i:Int)=some (mnF p (l.Hi.drop i) n):=by
 obtain⟨_,hl,h2⟩:=h;intro j
 induction j with
 | zero=>
  intro i n hi;rw[rA];have:¬((i:Int)<(l.Hi.length:Int)):=by omega
  simp only[this,dF,bF,xt];rw[dN.2 (by omega)];rfl
 | succ j ih=>
  intro i n hi;rw[rA];have aG:i<l.Hi.length:=by omega
  have h1:((i:Int)<(l.Hi.length:Int)):=by omega
  have ha:=(h2 _ (gM aG)).1;simp only[h1,dT,xu,yN aG,oB,oS,specEval _ _ (show p.length<=l.Hi[i].Coefs.length by omega) (by omega)];rw[wY (by omega),gC aG,mnF];by_cases hc:evA l.Hi[i] p<n
  ·simp only[hc,dT,xu,oP,oS,id];exact ih (i+1) _ (by omega)
  ·simp only[hc,dF,bF,xt,oP,oS,id];exact ih (i+1) _ (by omega)
theorem implSpan(l:zD)(p:List Int)(hp:p.length<=4)(iy:OV l.Lo)(iI:OV l.Hi):fM l p=some (loF l p,hiF l p):=by
 unfold fM loF hiF;have h1:=zLN l p hp iy;have h2:=zLO l p hp iI;obtain⟨n1,_,q1⟩:=iy;obtain⟨n2,_,q2⟩:=iI;cases hl:l.Lo with
 | nil=>exact absurd hl n1
 | cons a r=>
  cases hh:l.Hi with
  | nil=>exact absurd hh n2
  | cons b s=>
   rw[hl] at q1;rw[hh] at q2;have ha:=(q1 a (xz ..)).1;have hb:=(q2 b (xz ..)).1;have i1:idx (a::r) 0=some a:=rfl;have i2:idx (b::s) 0=some b:=rfl;have k1:=h1 _ 0 (evA a p) (yv _);have k2:=h2 _ 0 (evA b p) (yv _);rw[nZ,yn,hl,mxF] at k1;rw[nZ,yn,hh,mnF] at k2;simp only[i1,i2,oB,oS,implEval _ _ (show p.length<=a.Coefs.length by omega) (by omega),implEval _ _ (show p.length<=b.Coefs.length by omega) (by omega),k1,k2,oP];simp
theorem specSpan(l:zD)(p:List Int)(hp:p.length<=4)(iy:OV l.Lo)(iI:OV l.Hi):kR l p=some (loF l p,hiF l p):=by
 unfold kR loF hiF;have h1:=zLP l p hp iy;have h2:=zLQ l p hp iI;obtain⟨n1,_,q1⟩:=iy;obtain⟨n2,_,q2⟩:=iI;cases hl:l.Lo with
 | nil=>exact absurd hl n1
 | cons a r=>
  cases hh:l.Hi with
  | nil=>exact absurd hh n2
  | cons b s=>
   rw[hl] at q1;rw[hh] at q2;have ha:=(q1 a (xz ..)).1;have hb:=(q2 b (xz ..)).1;have i1:idx (a::r) 0=some a:=rfl;have i2:idx (b::s) 0=some b:=rfl;have k1:=h1 r.length 1 (evA a p) (by rw[hl,xy];omega);have k2:=h2 s.length 1 (evA b p) (by rw[hh,xy];omega);rw[hl,List.drop_one,List.tail_cons] at k1;rw[hh,List.drop_one,List.tail_cons] at k2;simp only[i1,i2,oB,oS,specEval _ _ (show p.length<=a.Coefs.length by omega) (by omega),specEval _ _ (show p.length<=b.Coefs.length by omega) (by omega),oP]
   erw [k1]
   simp only[oS]
   erw [k2]
   rfl
def rngK:Nat->Int->List Int
 | 0,_=>[]
 | k+1,v=>v::rngK k (v+1)
def rng(lo hi:Int):List Int:=rngK (hi - lo).toNat lo
def wrk:List zD->List Int->Nat
 | [],_=>1
 | l::ls,p=>1+((rng (loF l p) (hiF l p)).map λv=>wrk ls (p++[v])).sum
def pts:List zD->List Int->List (List Int)
 | [],p=>[p]
 | l::ls,p=>(rng (loF l p) (hiF l p)).flatMap λv=>pts ls (p++[v])
def OL(x:zD):Prop:=OV x.Lo/\OV x.Hi
theorem zPf:∀(ls:List zD) (p:List Int),1<=wrk ls p
 | [],_=>zf _
 | _::_,_=>Nat.le_add_right ..
theorem zBt{b:Nat}(p:List Int)(h:p.length*b<=140737488355328):app b ([]:List Int) p=some p:=by
 rw[sX (by simpa using h)];rfl
theorem zGw{α:Type}{nest:List α}{n:Nat}{l:α}{ls:List α}(h:nest.drop n=l::ls):∃hn:n<nest.length,nest[n]=l/\nest.drop (n+1)=ls:=by
 have hn:n<nest.length:=by
  rcases z6 n nest.length with h' | h'
  ·exact h'
  ·rw[dN.2 h'] at h;cases h
 rw[gC hn] at h;injection h with h1 h2;exact⟨hn,h1,h2⟩
theorem specWork:∀(ls nest:List zD) (p:List Int) (m:Nat),(∀x∈ls,OL x)->nest.drop p.length=ls->p.length+ls.length=nest.length->nest.length<=4->m<=1200->qZ nest p (m:Int)=some ((min (wrk ls p) (m+1):Nat):Int)
 | [],nest,p,m,hv,hd,hl,h4,hm=>by
  rw[qZ]
  have:((p.length:Int)==(nest.length:Int))=true:=by simp at hl;simp;omega
  simp only[this,xu,wrk,id,oP]
  rw[show min 1 (m+1)=1 by omega];rfl
 | l::ls,nest,p,m,hv,hd,hl,h4,hm=>by
  rw[qZ]
  obtain⟨hn,ow,my⟩:=zGw hd
  have cT:((p.length:Int)==(nest.length:Int))=false:=by simp;omega
  have hp4:p.length<=4:=by omega
  obtain⟨o1,o2⟩:=hv l (xz ..)
  simp only[cT,bF,xt,yN hn,ow,oB,oS,specSpan l p hp4 o1 o2,same,oP]
  have iy:=zKS p o1
  have iI:=zKT p o2
  have fh:∀(k:Nat) (n:Nat) (v:Int),(hiF l p - v).toNat=k->J64 v->n<=m+1->pF nest p (m:Int) (hiF l p) (n:Int) v=some ((min (n+((rngK k v).map λv=>wrk ls (p++[v])).sum) (m+1):Nat):Int):=by
   intro k
   induction k with
   | zero=>
    intro n v hk m8 hn'
    rw[pF]
    have:¬(v<hiF l p):=by omega
    simp only[this,dF,bF,xt,oP,oB,oS,rngK,List.map_nil,List.sum_nil,id]
    congr 1;omega
   | succ k ih=>
    intro n v hk m8 hn'
    rw[pF]
    have aG:v<hiF l p:=by omega
    have aP:(p++[v]).length=p.length+1:=by simp
    by_cases cM:n<=m
    ·have h1:((n:Int)<=(m:Int)):=by omega
     have e1:W ((m:Int) - (n:Int))=((m - n:Nat):Int):=by rw[tV (by omega) (by omega)];omega
     have hw:=specWork ls nest (p++[v]) (m - n) (λx hx=>hv x (xx _ hx)) (by rw[aP];exact my) (by rw[aP];simp only[xy] at hl;omega) h4 (by omega)
     have hpp:app 8 p [v]=some (p++[v]):=sX (by simp;omega)
     have r6:app 8 ([]:List Int) p=some p:=zBt p (by omega)
     simp only[aG,h1,dT,xu,oP,oB,oS,r6,hpp,same,e1,hw]
     generalize hww:wrk ls (p++[v])=w at hw ⊢
     have e2:W ((n:Int)+((min w (m - n+1):Nat):Int))=((n+min w (m - n+1):Nat):Int):=by rw[tV (by omega) (by omega)];omega
     have e3:W (v+1)=v+1:=tV (by unfold J64 at m8;omega) (by unfold J64 at iI;omega)
     rw[e2,e3,ih _ _ (by omega) (by unfold J64 at m8 iI ⊢;omega) (by omega),rngK,zl,List.sum_cons,hww]
     rw[show min (n+min w (m - n+1)+((rngK k (v+1)).map λv=>wrk ls (p++[v])).sum) (m+1)=min (n+(w+((rngK k (v+1)).map λv=>wrk ls (p++[v])).sum)) (m+1) by omega]
    ·have h1:¬((n:Int)<=(m:Int)):=by omega
     simp only[aG,h1,dT,dF,bF,xt,xu,oP,oB,oS,id]
     congr 1;omega
  have:=fh _ 1 (loF l p) rfl iy (by omega)
  rw[Int.natCast_one] at this
  rw[this]
  rfl
theorem zN3(a b:List (List Int))(n:Nat):((a.take n)++b).take n=(a++b).take n:=by
 rw[List.take_append,List.take_append,AG,Nat.min_self,yl];rcases Nat.le_total a.length n with h|h
 ·rw[Nat.min_eq_right h]
 ·rw[Nat.min_eq_left h,Nat.sub_self,show n - a.length=0 by omega]
theorem specPts:∀(ls nest:List zD) (p:List Int) (out:List (List Int)),(∀x∈ls,OL x)->nest.drop p.length=ls->p.length+ls.length=nest.length->nest.length<=4->out.length<=120->sM out nest p=some ((out++pts ls p).take 121)
 | [],nest,p,out,hv,hd,hl,h4,ho=>by
  rw[sM]
  have:((p.length:Int)==(nest.length:Int))=true:=by simp at hl;simp;omega
  have hp4:p.length<=4:=by simp at hl;omega
  have iw:app 24 out [p]=some (out++[p]):=sX (by simp;omega)
  have r6:app 8 ([]:List Int) p=some p:=zBt p (by omega)
  simp only[this,xu,pts,id,oP,oB,oS,r6,iw]
  rw[zb (by simp;omega)]
 | l::ls,nest,p,out,hv,hd,hl,h4,ho=>by
  rw[sM]
  obtain⟨hn,ow,my⟩:=zGw hd
  have cT:((p.length:Int)==(nest.length:Int))=false:=by simp;omega
  have hp4:p.length<=4:=by omega
  obtain⟨o1,o2⟩:=hv l (xz ..)
  simp only[cT,bF,xt,yN hn,ow,oB,oS,specSpan l p hp4 o1 o2,same,oP]
  have iy:=zKS p o1
  have iI:=zKT p o2
  have fh:∀(k:Nat) (out:List (List Int)) (v:Int),(hiF l p - v).toNat=k->J64 v->out.length<=121->rK nest p (hiF l p) out v=some ((out++(rngK k v).flatMap λv=>pts ls (p++[v])).take 121):=by
   intro k
   induction k with
   | zero=>
    intro out v hk m8 pu
    rw[rK]
    have:¬(v<hiF l p):=by omega
    simp only[this,dF,bF,xt,oP,oB,oS,rngK,Au,yk,id]
    rw[zb pu]
   | succ k ih=>
    intro out v hk m8 pu
    rw[rK]
    have aG:v<hiF l p:=by omega
    have aP:(p++[v]).length=p.length+1:=by simp
    by_cases cM:out.length<=120
    ·have h1:((out.length:Int)<=120):=by omega
     have hw:=specPts ls nest (p++[v]) out (λx hx=>hv x (xx _ hx)) (by rw[aP];exact my) (by rw[aP];simp only[xy] at hl;omega) h4 cM
     have hpp:app 8 p [v]=some (p++[v]):=sX (by simp;omega)
     have e3:W (v+1)=v+1:=tV (by unfold J64 at m8;omega) (by unfold J64 at iI;omega)
     have r6:app 8 ([]:List Int) p=some p:=zBt p (by omega)
     simp only[aG,h1,dT,xu,oP,oB,oS,r6,hpp,same,hw,e3]
     rw[ih _ _ (by omega) (by unfold J64 at m8 iI ⊢;omega) (by rw[yl];omega),zN3,rngK,yf,yu]
    ·have h1:¬((out.length:Int)<=120):=by omega
     simp only[aG,h1,dT,dF,bF,xt,xu,oP,oB,oS,id]
     rw[AO (by omega)]
  have:=fh _ out (loF l p) rfl iy (by omega)
  rw[this]
  rfl
theorem zIb(p:List Int)(h:p.length<=1048576):pM p=some p:=zBt p (by omega)
theorem implWalk:∀(ls nest:List zD) (p:List Int) (steps:Nat) (out:List (List Int)),(∀x∈ls,OL x)->nest.drop p.length=ls->p.length+ls.length=nest.length->nest.length<=4->steps<=1199->out.length<=120 ->
 ∃r w,qC ⟨nest,(steps:Int),out⟩ p=some (r,w)/\(steps+wrk ls p<=1200/\out.length+(pts ls p).length<=120->r=true/\w=⟨nest,((steps+wrk ls p - 1:Nat):Int),out++pts ls p⟩)/\(¬(steps+wrk ls p<=1200/\out.length+(pts ls p).length<=120)->r=false)
 | [],nest,p,steps,out,hv,hd,hl,h4,hs,ho=>by
  rw[qC]
  have:((p.length:Int)==(nest.length:Int))=true:=by simp at hl;simp;omega
  have hp4:p.length<=4:=by simp at hl;omega
  have iw:app 24 out [p]=some (out++[p]):=sX (by simp;omega)
  simp only[this,xu,oP,oB,oS,zIb p (by omega),iw]
  refine⟨_,_,rfl,λh=>?_,λh=>?_⟩
  ·simp only[wrk,pts,Ai] at h ⊢
   refine⟨by simp;omega,?_⟩
   rw[show steps+1 - 1=steps by omega]
  ·simp only[wrk,pts,Ai] at h
   simp;omega
 | l::ls,nest,p,steps,out,hv,hd,hl,h4,hs,ho=>by
  rw[qC]
  obtain⟨hn,ow,my⟩:=zGw hd
  have cT:((p.length:Int)==(nest.length:Int))=false:=by simp;omega
  have hp4:p.length<=4:=by omega
  obtain⟨o1,o2⟩:=hv l (xz ..)
  simp only[cT,bF,xt,yN hn,ow,oB,oS,implSpan l p hp4 o1 o2,same,oP]
  have iy:=zKS p o1
  have iI:=zKT p o2
  have fh:∀(k:Nat) (steps:Nat) (out:List (List Int)) (v:Int),(hiF l p - v).toNat=k->J64 v->steps<=1199->out.length<=120 ->
   ∃o,pO p (hiF l p) v nest (steps:Int) out=some o/\(steps+((rngK k v).map λv=>wrk ls (p++[v])).sum<=1199/\out.length+((rngK k v).flatMap λv=>pts ls (p++[v])).length<=120 ->
    o=.done (nest,((steps+((rngK k v).map λv=>wrk ls (p++[v])).sum:Nat):Int),out++(rngK k v).flatMap λv=>pts ls (p++[v])))/\(¬(steps+((rngK k v).map λv=>wrk ls (p++[v])).sum<=1199/\out.length+((rngK k v).flatMap λv=>pts ls (p++[v])).length<=120)->∃w,o=.ret (false,w)):=by
   intro k
   induction k with
   | zero=>
    intro steps out v hk m8 ah pu
    rw[pO]
    have:¬(v<hiF l p):=by omega
    simp only[this,dF,bF,xt,oP]
    simp only[rngK,List.map_nil,List.sum_nil,Au,yk,yo,Nat.add_zero]
    exact⟨_,rfl,λ_=>rfl,λh=>absurd ⟨ah,pu⟩ h⟩
   | succ k ih=>
    intro steps out v hk m8 ah pu
    rw[pO]
    have aG:v<hiF l p:=by omega
    have aP:(p++[v]).length=p.length+1:=by simp
    have e1:W ((steps:Int)+1)=((steps+1:Nat):Int):=wY (by omega)
    have e2:W (((steps+1:Nat):Int)+1)=((steps+2:Nat):Int):=wY (by omega)
    have e3:W (v+1)=v+1:=tV (by unfold J64 at m8;omega) (by unfold J64 at iI;omega)
    have jq:=zPf ls (p++[v])
    simp only[rngK,zl,List.sum_cons,yf,lA]
    by_cases cM:steps+2>1200
    ·have h1:(((steps+2:Nat):Int)>1200):=by omega
     simp only[aG,e1,e2,h1,dT,xu,oP,oB,oS]
     exact⟨_,rfl,λh=>absurd h.1 (by omega),λ_=>⟨_,rfl⟩⟩
    ·have h1:¬(((steps+2:Nat):Int)>1200):=by omega
     have hpp:app 8 p [v]=some (p++[v]):=sX (by simp;omega)
     obtain⟨r,w,hw,hc⟩:=implWalk ls nest (p++[v]) (steps+1) out (λx hx=>hv x (xx _ hx)) (by rw[aP];exact my) (by rw[aP];simp only[xy] at hl;omega) h4 (by omega) pu
     simp only[aG,e1,e2,h1,dT,dF,bF,xt,xu,oP,oB,oS,zIb p (by omega),hpp,same,hw,e3]
     generalize hW:wrk ls (p++[v])=wv at hc jq ⊢
     generalize hP:pts ls (p++[v])=pv at hc ⊢
     by_cases cQ:steps+1+wv<=1200/\out.length+pv.length<=120
     ·obtain⟨rfl,rfl⟩:=hc.1 cQ
      simp only[bT,bF,xt]
      rw[show steps+1+wv - 1=steps+wv by omega]
      obtain⟨o,ho1,ho2⟩:=ih (steps+wv) (out++pv) (v+1) (by omega) (by unfold J64 at m8 iI ⊢;omega) (by omega) (by rw[lA];omega)
      refine⟨o,ho1,?_⟩
      rw[lA,AB,AB,yu] at ho2
      exact ho2
     ·obtain rfl:=hc.2 cQ
      simp only[yx,xu]
      exact⟨_,rfl,λh=>absurd h (by omega),λ_=>⟨_,rfl⟩⟩
  obtain⟨o,ho1,ho2⟩:=fh _ steps out (loF l p) rfl iy (by omega) ho
  rw[ho1]
  simp only[wrk,pts,rng]
  by_cases hc:steps+((rngK (hiF l p - loF l p).toNat (loF l p)).map λv=>wrk ls (p++[v])).sum<=1199/\out.length+((rngK (hiF l p - loF l p).toNat (loF l p)).flatMap λv=>pts ls (p++[v])).length<=120
  ·obtain rfl:=ho2.1 hc
   refine⟨_,_,rfl,λ_=>⟨rfl,?_⟩,λh=>absurd ⟨by omega,hc.2⟩ h⟩
   rw[show steps+(1+((rngK (hiF l p - loF l p).toNat (loF l p)).map λv=>wrk ls (p++[v])).sum) - 1=steps+((rngK (hiF l p - loF l p).toNat (loF l p)).map λv=>wrk ls (p++[v])).sum by omega]
  ·obtain⟨w,rfl⟩:=ho2.2 hc
   exact⟨_,_,rfl,λh=>absurd ⟨by omega,h.2⟩ hc,λ_=>rfl⟩
def nestPts(nest:List zD):List (List Int)×Bool:=if nestB nest=true/\wrk nest []<=1200/\(pts nest []).length<=120 then(pts nest [],true) else([],false)
theorem zMn{l:List zA}{d:Int}(h:sideB l d=true):OV l:=by
 simp only[sideB,bA,yd] at h;obtain⟨⟨h1,h2⟩,h3⟩:=h;refine⟨by rintro rfl;simp at h1,by omega,λa ha=>?_⟩;have:=yb.1 h3 a ha;simp only[okA,validB,constB,bA,yd] at this;exact⟨this.1.1.1,by unfold J64;omega⟩
theorem zKU{nest:List zD}(h:nestB nest=true):nest.length<=4/\∀x∈nest,OL x:=by
 simp only[nestB,bA,yd] at h;refine⟨h.1,λx hx=>?_⟩;obtain⟨i,hi,rfl⟩:=Ao.1 hx;have:=yb.1 h.2 i (zg.2 hi);rw[bA] at this;have hg:nest.getD i ⟨[],[]⟩=nest[i]:=by simp[hi]
 rw[hg] at this;exact⟨zMn this.1,zMn this.2⟩
theorem implPoints(nest:List zD)(h:BN nest):gL nest=some (nestPts nest):=by
 unfold gL nestPts;rw[implNest nest h];cases hb:nestB nest with
 | false=>simp
 | true=>
  obtain⟨h4,hv⟩:=zKU hb;obtain⟨r,w,hw,hc⟩:=implWalk nest nest [] 0 [] hv rfl (by simp) h4 (by omega) (by simp);rw[nZ] at hw;simp only[bT,bF,xt,oB,oS,hw,true_and];simp only[yv,yo,yy] at hc;by_cases cQ:wrk nest []<=1200/\(pts nest []).length<=120
  ·obtain⟨rfl,rfl⟩:=hc.1 cQ;rw[if_pos cQ];rfl
  ·obtain rfl:=hc.2 cQ;rw[if_neg cQ];rfl
theorem specPoints(nest:List zD)(h:BN nest):nM nest=some (nestPts nest):=by
 unfold nM nestPts;rw[specNest nest h];cases hb:nestB nest with
 | false=>simp
 | true=>
  obtain⟨h4,hv⟩:=zKU hb;have hw:=specWork nest nest [] 1200 hv rfl (by simp) h4 (by omega);have hp:=specPts nest nest [] [] hv rfl (by simp) h4 (by simp);rw[show ((1200:Nat):Int)=1200 from rfl] at hw;simp only[bT,bF,xt,oB,oS,hw,hp,true_and,oP,yy];generalize wrk nest []=w;generalize pts nest []=P;by_cases h1:w<=1200
  ·have e:¬(((min w (1200+1):Nat):Int)>1200):=by omega
   simp only[e,dF,bF,xt,h1,true_and,yl];by_cases h2:P.length<=120
   ·have e2:¬(((min 121 P.length:Nat):Int)>120):=by omega
    simp only[e2,h2,dF,bF,xt,xu];rw[zb (by omega)]
   ·have e2:(((min 121 P.length:Nat):Int)>120):=by omega
    simp only[e2,h2,dT,xu,xt]
  ·have e:(((min w (1200+1):Nat):Int)>1200):=by omega
   simp only[e,dT,xu,h1,false_and,xt]
def nameL:List UInt8->Bool
 | [c]=>decide (65<=c.toNat)&&decide (c.toNat<=68)
 | _=>false
theorem zO5{P:UInt8->Prop}(h:∀n:Fin 256,P (UInt8.ofNat n.val))(c:UInt8):P c:=by
 have:=h ⟨c.toNat,c.toNat_lt⟩;simpa using this
theorem zPg(c:UInt8):decide (0<=Lib.indexByte [65,66,67,68] c)=nameL [c]:=
 zO5 (P:=λc=>decide (0<=Lib.indexByte [65,66,67,68] c)=nameL [c]) (by decide +kernel) c
theorem zPh(c:UInt8):(!(Op.bytesLess [c] [65])&&(Op.bytesLess [c] [68]||[c]==[68]))=nameL [c]:=
 zO5 (P:=λc=>(!(Op.bytesLess [c] [65])&&(Op.bytesLess [c] [68]||[c]==[68]))=nameL [c]) (by decide +kernel) c
theorem implIsArray(s:Str):fJ s=some (nameL s.l):=by
 obtain⟨l⟩:=s;unfold fJ
 match l with
 | []=>rfl
 | [c]=>
  have:fY ⟨[65,66,67,68]⟩ ⟨[c]⟩=some (decide (0<=Lib.indexByte [65,66,67,68] c)):=rfl;simp only[this,zPg];rfl
 | c::d::r=>
  have:(((c::d::r).length:Int)==1)=false:=by simp;omega
  simp only[this,bF,xt];rfl
def BR(l:List zE):Prop:=l.length<=100000/\∀a∈l,a.Dims.length<=1000
def dimB(n:Int):Bool:=decide (1<=n)&&decide (n<=6)
def arrI(l:List zE)(i:Nat):Bool:=
 nameL (l.getD i ⟨⟨[]⟩,[]⟩).Name.l&&(decide (i=0)||Op.bytesLess (l.getD (i - 1) ⟨⟨[]⟩,[]⟩).Name.l (l.getD i ⟨⟨[]⟩,[]⟩).Name.l)&&(decide (1<=(l.getD i ⟨⟨[]⟩,[]⟩).Dims.length)&&decide ((l.getD i ⟨⟨[]⟩,[]⟩).Dims.length<=2))&&(l.getD i ⟨⟨[]⟩,[]⟩).Dims.all dimB
def arrB(l:List zE):Bool:=decide (l.length<=4)&&(List.range l.length).all (arrI l)
theorem implDims(d:List Int)(h:d.length<=1000):wF d rE=some (!(d.all dimB)):=by
 rw[zDw (p:=λx=>!(dimB x)) d (λx _=>by unfold rE;rw[gI];rfl) (by omega)]
 congr 1
 rw[Bool.eq_iff_iff];simp
theorem len12(n:Nat):(decide ((1:Int)<=(n:Int))&&decide ((n:Int)<=2))=(decide (1<=n)&&decide (n<=2)):=by
 have e1:decide ((1:Int)<=(n:Int))=decide (1<=n):=by simp;omega
 have e2:decide ((n:Int)<=2)=decide (n<=2):=by simp;omega
 rw[e1,e2]
theorem implArrays(l:List zE)(h:BR l):eH l=some (arrB l):=by
 unfold eH arrB;have aP:=h.1;have hl:=zAZ (n:=l.length) (f:=oR l) (P:=arrI l) (λi hi=>by
  rw[oR];have h1:((i:Int)<(l.length:Int)):=by omega
  have ha:=h.2 _ (gM hi);have hg:l.getD i ⟨⟨[]⟩,[]⟩=l[i]:=by simp[hi]
  simp only[h1,dT,xu,yN hi,oB,oS,implIsArray,arrI,hg];rw[wY (by omega)];cases hn:nameL l[i].Name.l with
  | false=>simp
  | true=>
   have hwd:uF (l[i].Dims.length:Int) 1 2=some (decide (1<=l[i].Dims.length)&&decide (l[i].Dims.length<=2)):=by rw[gI,len12]
   by_cases h0:i=0
   ·subst h0;have hz:¬(((0:Nat):Int)>0):=by omega
    simp only[hz,dF,dT,bF,xt,bT,hwd,oS,Bool.true_or,yz,oP,implDims _ ha,id];cases (decide (1<=l[0].Dims.length)&&decide (l[0].Dims.length<=2)) with
    | false=>simp
    | true=>cases l[0].Dims.all dimB <;> simp
   ·have hz:((i:Int)>0):=by omega
    have hW:W ((i:Int) - 1)=((i - 1:Nat):Int):=by rw[tV (by omega) (by omega)];omega
    have n7:i - 1<l.length:=by omega
    have hg1:l.getD (i - 1) ⟨⟨[]⟩,[]⟩=l[i - 1]:=by simp[n7]
    simp only[hz,h0,hW,yN n7,hg1,dF,dT,bF,xt,xu,bT,hwd,oS,AN,yz,oP,implDims _ ha,id];cases Op.bytesLess l[i - 1].Name.l l[i].Name.l with
    | false=>simp
    | true=>
     cases (decide (1<=l[i].Dims.length)&&decide (l[i].Dims.length<=2)) with
     | false=>simp
     | true=>cases l[i].Dims.all dimB <;> simp) (by
  rw[oR];simp)
 rw[hl];have e2:decide ((l.length:Int)<=4)=decide (l.length<=4):=by simp;omega
 cases hb:(List.range l.length).all (arrI l) with
 | false=>simp
 | true=>simp[e2]
theorem specDims(x:zE)(h:x.Dims.length<=1000):uY x 0=some (if x.Dims.all dimB then .done () else .ret false):=by
 have hl:=zAZ (n:=x.Dims.length) (f:=uY x) (P:=λi=>dimB (x.Dims.getD i 0)) (λi hi=>by
  rw[uY];have h1:((i:Int)<(x.Dims.length:Int)):=by omega
  have hg:x.Dims.getD i 0=x.Dims[i]:=by simp[hi]
  simp only[h1,dT,xu,yN hi,oB,oS,hg,dimB];rw[wY (by omega)];by_cases k1:x.Dims[i]<1
  ·have:¬(1<=x.Dims[i]):=by omega
   simp[k1,this]
  ·have:(1<=x.Dims[i]):=by omega
   by_cases k2:x.Dims[i]>6
   ·have:¬(x.Dims[i]<=6):=by omega
    simp[k1,k2,this]
   ·have k3:(x.Dims[i]<=6):=by omega
    simp[k1,k2,this,k3]) (by
  rw[uY];simp)
 rw[hl,zAh x.Dims dimB]
theorem zN4(n:Nat):(if decide ((n:Int)<1)=true then some true else some (decide ((n:Int)>2)))=some (!(decide (1<=n)&&decide (n<=2))):=by
 by_cases h1:n<1
 ·have k1:((n:Int)<1):=by omega
  have k2:¬(1<=n):=by omega
  simp[k1,k2]
 ·have k1:¬((n:Int)<1):=by omega
  have k2:(1<=n):=by omega
  by_cases h2:n<=2
  ·have k3:¬((n:Int)>2):=by omega
   simp[k1,k2,k3,h2]
  ·have k3:((n:Int)>2):=by omega
   simp[k1,k2,k3,h2]
theorem zHL(l:List UInt8):(nameL l=false/\((l.length:Int) != 1)=true)∨(((l.length:Int) != 1)=false/\nameL l=(!(Op.bytesLess l [65])&&(Op.bytesLess l [68]||l==[68]))):=by
 match l with
 | []=>exact .inl ⟨rfl,rfl⟩
 | [c]=>exact .inr ⟨rfl,(zPh c).symm⟩
 | c::d::r=>exact .inl ⟨rfl,by simp;omega⟩
theorem specArrays(l:List zE)(h:BR l):jB l=some (arrB l):=by
 unfold jB arrB;have aP:=h.1;have hl:=zAZ (n:=l.length) (f:=tZ l) (P:=arrI l) (λi hi=>by
  rw[tZ];have h1:((i:Int)<(l.length:Int)):=by omega
  have ha:=h.2 _ (gM hi);have hg:l.getD i ⟨⟨[]⟩,[]⟩=l[i]:=by simp[hi]
  simp only[h1,dT,xu,yN hi,oB,oS,arrI,hg,oP,zN4,specDims _ ha];rw[wY (by omega)];rcases zHL l[i].Name.l with⟨n1,n2⟩|⟨n1,n2⟩
  ·simp[n1,n2]
  ·simp only[n1,n2,bF,xt];cases k1:Op.bytesLess l[i].Name.l [65] with
   | true=>simp
   | false=>
    cases k2:(Op.bytesLess l[i].Name.l [68]||l[i].Name.l==[68]) with
    | false=>simp
    | true=>
     by_cases h0:i=0
     ·subst h0;have hz:¬(((0:Nat):Int)>0):=by omega
      simp only[hz,dF,dT,bF,xt,bT,yx,oS,Bool.true_or,yz,Bool.and_self];cases (decide (1<=l[0].Dims.length)&&decide (l[0].Dims.length<=2)) with
      | false=>simp
      | true=>cases l[0].Dims.all dimB <;> simp
     ·have hz:((i:Int)>0):=by omega
      have hW:W ((i:Int) - 1)=((i - 1:Nat):Int):=by rw[tV (by omega) (by omega)];omega
      have n7:i - 1<l.length:=by omega
      have hg1:l.getD (i - 1) ⟨⟨[]⟩,[]⟩=l[i - 1]:=by simp[n7]
      simp only[hz,h0,hW,yN n7,hg1,dF,dT,bF,xt,xu,bT,yx,oS,AN,yz,Bool.and_self];cases Op.bytesLess l[i - 1].Name.l l[i].Name.l with
      | false=>simp
      | true=>
       cases (decide (1<=l[i].Dims.length)&&decide (l[i].Dims.length<=2)) with
       | false=>simp
       | true=>cases l[i].Dims.all dimB <;> simp) (by
  rw[tZ];simp)
 rw[hl];have e2:decide ((l.length:Int)<=4)=decide (l.length<=4):=by simp;omega
 cases hb:(List.range l.length).all (arrI l) with
 | false=>simp
 | true=>simp[e2]
def accB(a:zJ)(d:Int):Bool:=nameL a.Array.l&&(decide (1<=a.Subs.length)&&decide (a.Subs.length<=2))&&a.Subs.all (okA d)
theorem implAcc1(a:zA)(h:BA a)(d:Int):nU a d=some (!(okA d a)):=implBound a h d
theorem implAccess(a:zJ)(h:BL a.Subs)(d:Int):gB a d=some (accB a d):=by
 unfold gB accB;rw[implIsArray,gI,len12];have hc:=zFy (f:=λx0=>nU x0 d) (p:=λx=>!(okA d x)) a.Subs (λx hx=>implAcc1 x (h.2 x hx) d) (by have:=h.1;omega);cases nameL a.Array.l with
 | false=>rfl
 | true=>
  cases hb:(decide (1<=a.Subs.length)&&decide (a.Subs.length<=2)) with
  | false=>rfl
  | true=>
   simp only[oB,oS,xu,hc,oP,id,yz];rw[Ar];simp
theorem specAccess(a:zJ)(h:BL a.Subs)(d:Int):mF a d=some (accB a d):=by
 unfold mF accB;have aP:=h.1;have hl:=zAZ (n:=a.Subs.length) (f:=sB a d) (P:=λi=>okA d (a.Subs.getD i ⟨[],0⟩)) (λi hi=>by
  rw[sB];have h1:((i:Int)<(a.Subs.length:Int)):=by omega
  have ha:a.Subs[i].Coefs.length<=1048576:=by have:=h.2 _ (gM hi);unfold BA at this;omega
  have hg:a.Subs.getD i ⟨[],0⟩=a.Subs[i]:=by simp[hi]
  simp only[h1,dT,xu,yN hi,oB,oS,specValid _ ha,specDepth _ ha,hg,okA];rw[wY (by omega)];cases validB a.Subs[i] with
  | false=>rfl
  | true=>
   by_cases hd:(depF a.Subs[i]:Int)<=d
   ·have:¬((depF a.Subs[i]:Int)>d):=by omega
    simp[hd,this]
   ·have:((depF a.Subs[i]:Int)>d):=by omega
    simp[hd,this]) (by
  rw[sB];simp)
 rw[hl,zAh a.Subs (okA d)];cases hb:a.Subs.all (okA d) with
 | false=>simp
 | true=>
  simp only[xu,oB,oS,Bl];rcases zHL a.Array.l with⟨n1,n2⟩|⟨n1,n2⟩
  ·have:((a.Array.l.length:Int)==1)=false:=by simpa [bne] using n2
   simp[n1,this]
  ·have:((a.Array.l.length:Int)==1)=true:=by simpa [bne] using n1
   simp only[this,xu,n2];cases Op.bytesLess a.Array.l [65] with
   | true=>simp
   | false=>
    cases (Op.bytesLess a.Array.l [68]||a.Array.l==[68]) with
    | false=>simp
    | true=>
     by_cases e1:1<=a.Subs.length
     ·have:((a.Subs.length:Int)>=1):=by omega
      have e2:decide ((a.Subs.length:Int)<=2)=decide (a.Subs.length<=2):=by simp;omega
      simp[this,e1,e2]
     ·have:¬((a.Subs.length:Int)>=1):=by omega
      simp[this,e1]
def noA(a:zA):Bool:=decide (a.Coefs.length=0)&&(a.Const==0)
def noC(a:zJ):Bool:=(a.Array.l==[])&&decide (a.Subs.length=0)
theorem len0(n:Nat):((n:Int)==0)=decide (n=0):=by
 by_cases h:n=0
 ·simp[h]
 ·have:¬(n:Int)=0:=by omega
  simp[h]
theorem implNoA(a:zA):gD a=some (noA a):=by
 unfold gD noA;rw[len0];by_cases h:a.Coefs.length=0 <;> simp[h]
theorem specNoA(a:zA):kI a=some (noA a):=by
 unfold kI noA;rw[len0];by_cases h:a.Coefs.length=0 <;> simp[h]
theorem implNoC(a:zJ):mJ a=some (noC a):=by
 unfold mJ noC;rw[len0];cases h:(a.Array.l==[]) <;> simp
theorem specNoC(a:zJ):nL a=some (noC a):=by
 unfold nL noC;rw[len0];cases h:(a.Array.l==[]) <;> simp
def BE:Nat->zF->Prop
 | 0,e=>BA e.Index/\BL e.Read.Subs/\e.Kids=[]
 | n+1,e=>BA e.Index/\BL e.Read.Subs/\e.Kids.length<=1000/\∀k∈e.Kids,BE n k
theorem BE.own{n:Nat}{e:zF}(h:BE n e):BA e.Index/\BL e.Read.Subs/\e.Kids.length<=1000:=by
 cases n with
 | zero=>obtain⟨h1,h2,h3⟩:=h;exact⟨h1,h2,by simp[h3]⟩
 | succ n=>exact⟨h.1,h.2.1,h.2.2.1⟩
theorem BE.kid{n:Nat}{e k:zF}(h:BE n e)(hk:k∈e.Kids):∃m,n=m+1/\BE m k:=by
 cases n with
 | zero=>obtain⟨_,_,h3⟩:=h;rw[h3] at hk;cases hk
 | succ n=>exact⟨n,rfl,h.2.2.2 k hk⟩
def kidsN(k:Int):Int:=if k=1∨k=2∨k=3 then 0 else if k=4∨k=5∨k=6 then 2 else -1
def ownB(e:zF)(d:Int):Bool:=
 if e.Kind=2 then(e.Num==0)&&noC e.Read&&okA d e.Index
 else if e.Kind=3 then(e.Num==0)&&noA e.Index&&accB e.Read d
 else if e.Kind=1 then(decide (0<=e.Num)&&decide (e.Num<=99))&&noA e.Index&&noC e.Read
 else(e.Num==0)&&noA e.Index&&noC e.Read
theorem specKids(k:Int):gT k=some (kidsN k):=by
 unfold gT kidsN;by_cases h1:k=1
 ·subst h1;rfl
 ·by_cases h2:k=2
  ·subst h2;rfl
  ·by_cases h3:k=3
   ·subst h3;rfl
   ·by_cases h4:k=4
    ·subst h4;rfl
    ·by_cases h5:k=5
     ·subst h5;rfl
     ·by_cases h6:k=6
      ·subst h6;rfl
      ·simp[h1,h2,h3,h4,h5,h6]
theorem zO6(a:zA)(d:Int):okA d a=(validB a&&decide ((depF a:Int)<=d)):=rfl
theorem specOwn(e:zF)(d:Int)(h1:BA e.Index)(h2:BL e.Read.Subs):fW e d=some (ownB e d):=by
 unfold fW ownB;have h':e.Index.Coefs.length<=1048576:=by unfold BA at h1;omega
 simp only[specNoC,specNoA,specValid _ h',specDepth _ h',specAccess _ h2,oB,oS,oP,id];by_cases k2:e.Kind=2
 ·have:(e.Kind==2)=true:=by simpa using k2
  simp only[this,xu,k2];cases (e.Num==0) with
  | false=>simp
  | true=>
   cases noC e.Read with
   | false=>simp
   | true=>rw[zO6];cases validB e.Index <;> simp
 ·have q2:(e.Kind==2)=false:=by simpa using k2
  by_cases k3:e.Kind=3
  ·have:(e.Kind==3)=true:=by simpa using k3
   simp only[q2,k2,this,xu,k3,bF,xt];cases (e.Num==0) with
   | false=>simp
   | true=>cases noA e.Index <;> simp
  ·have q3:(e.Kind==3)=false:=by simpa using k3
   by_cases k1:e.Kind=1
   ·have:(e.Kind==1)=true:=by simpa using k1
    simp only[q2,k2,q3,k3,this,xu,k1,bF,xt];by_cases n0:0<=e.Num
    ·have n0':e.Num>=0:=n0;by_cases n9:e.Num<=99
     ·simp only[n0,n0',n9,dT,xu,yz];cases noA e.Index <;> simp
     ·simp[n0,n0',n9]
    ·have n0':¬e.Num>=0:=n0;simp[n0,n0']
   ·have q1:(e.Kind==1)=false:=by simpa using k1
    simp only[q2,k2,q3,k3,q1,k1,bF,xt];cases (e.Num==0) with
    | false=>simp
    | true=>cases noA e.Index <;> simp
def shapeB(d:Int):Nat->zF->Bool
 | 0,_=>false
 | n+1,e=>(kidsN e.Kind==(e.Kids.length:Int))&&ownB e d&&e.Kids.all (shapeB d n)
def cnt:Nat->zF->Nat
 | 0,_=>1
 | n+1,e=>1+(e.Kids.map (cnt n)).sum
theorem specShape(d:Int):∀(n m:Nat) (e:zF),n<=100->BE m e->rU e d (n:Int)=some (shapeB d n e)
 | 0,m,e,hn,hb=>by
  rw[rU]
  rfl
 | n+1,m,e,hn,hb=>by
  rw[rU]
  obtain⟨b1,b2,b3⟩:=hb.own
  have h1:¬(((n+1:Nat):Int)<1):=by omega
  have hW:W (((n+1:Nat):Int) - 1)=(n:Int):=by rw[tV (by omega) (by omega)];omega
  have hl:=zAZ (n:=e.Kids.length) (f:=tJ e d ((n+1:Nat):Int)) (P:=λi=>shapeB d n (e.Kids.getD i e)) (λi hi=>by
   rw[tJ]
   have k1:((i:Int)<(e.Kids.length:Int)):=by omega
   have hg:e.Kids.getD i e=e.Kids[i]:=by simp[hi]
   obtain⟨m',_,hm'⟩:=hb.kid (gM hi)
   simp only[k1,dT,xu,yN hi,oB,oS,same,hW,specShape d n m' _ (by omega) hm',hg]
   rw[wY (by omega)]
   cases shapeB d n e.Kids[i] <;> rfl) (by
   rw[tJ];simp)
  simp only[h1,dF,bF,xt,oB,oS,specKids,specOwn e d b1 b2,shapeB,same,hl,zAh e.Kids (shapeB d n)]
  cases hk:(kidsN e.Kind==(e.Kids.length:Int)) with
  | false=>
   have:(kidsN e.Kind != (e.Kids.length:Int))=true:=by simp[bne,hk]
   simp[this]
  | true=>
   have:(kidsN e.Kind != (e.Kids.length:Int))=false:=by simp[bne,hk]
   simp only[this,bF,xt,oP,oS,yz]
   cases ownB e d with
   | false=>simp
   | true=>cases e.Kids.all (shapeB d n) <;> simp
theorem zAi{d:Int}{n:Nat}{e:zF}(h:shapeB d (n+1) e=true):(e.Kids=[]∨∃a b,e.Kids=[a,b])/\∀k∈e.Kids,shapeB d n k=true:=by
 simp only[shapeB,bA] at h;refine⟨?_,yb.1 h.2⟩;have:=eq_of_beq h.1.1;unfold kidsN at this
 match hk:e.Kids with
 | []=>exact .inl rfl
 | [a]=>rw[hk] at this;simp at this;split at this <;> (try split at this) <;> omega
 | [a,b]=>exact .inr ⟨a,b,rfl⟩
 | a::b::c::r=>rw[hk] at this;simp at this;split at this <;> (try split at this) <;> omega
theorem zMS{d:Int}:∀(n:Nat) (e:zF),shapeB d n e=true->cnt n e+1<=2 ^ n
 | 0,e,h=>by cases h
 | n+1,e,h=>by
  obtain⟨h1,h2⟩:=zAi h
  rw[cnt,Nat.pow_succ]
  rcases h1 with hk|⟨a,b,hk⟩
  ·rw[hk]
   have:=AP (n:=n)
   simp;omega
  ·rw[hk] at h2 ⊢
   have ha:=zMS n a (h2 a (by simp))
   have hb:=zMS n b (h2 b (by simp))
   simp only[zl,List.map_nil,List.sum_cons,List.sum_nil]
   omega
theorem specCount(d:Int):∀(n m:Nat) (e:zF),shapeB d n e=true->n<=m->n<=10->m<=100->qQ e (m:Int)=some ((cnt n e:Nat):Int)
 | 0,m,e,h,_,_,_=>by cases h
 | n+1,m,e,h,hm,bQ,h100=>by
  have hc:=zMS (n+1) e h
  have vd:2 ^ (n+1)<=2 ^ 10:=AD (by omega) bQ
  obtain⟨h1,h2⟩:=zAi h
  have jq:((m:Int)>0):=by omega
  have hW:W ((m:Int) - 1)=((m - 1:Nat):Int):=by rw[tV (by omega) (by omega)];omega
  rw[qQ]
  simp only[same,cnt] at hc ⊢
  rcases h1 with hk|⟨a,b,hk⟩
  ·rw[tK]
   simp[hk]
  ·rw[hk] at h2 hc ⊢
   have ha:=specCount d n (m - 1) a (h2 a (by simp)) (by omega) (by omega) (by omega)
   have hb:=specCount d n (m - 1) b (h2 b (by simp)) (by omega) (by omega) (by omega)
   simp only[zl,List.map_nil,List.sum_cons,List.sum_nil] at hc ⊢
   have l0:((0:Int)<(e.Kids.length:Int)):=by rw[hk];simp
   have l1:((1:Int)<(e.Kids.length:Int)):=by rw[hk];simp
   have l2:¬((2:Int)<(e.Kids.length:Int)):=by rw[hk];simp
   have i0:idx e.Kids 0=some a:=by rw[hk];rfl
   have i1:idx e.Kids 1=some b:=by rw[hk];rfl
   have w0:W ((0:Int)+1)=1:=by rw[tV (by omega) (by omega)];rfl
   have w1:W ((1:Int)+1)=2:=by rw[tV (by omega) (by omega)];rfl
   rw[tK]
   simp only[l0,jq,dT,xu,oP,oB,oS,i0,same,hW,ha,w0]
   rw[tK]
   simp only[l1,jq,dT,xu,oP,oB,oS,i1,same,hW,hb,w1]
   rw[tK]
   simp only[l2,dF,bF,xt,oP,oB,oS,id]
   generalize cnt n a=x at hc ⊢
   generalize cnt n b=y at hc ⊢
   have e1:W ((1:Int)+(x:Int))=((1+x:Nat):Int):=by rw[tV (by omega) (by omega)];omega
   have e2:W (((1+x:Nat):Int)+(y:Int))=((1+x+y:Nat):Int):=by rw[tV (by omega) (by omega)];omega
   rw[e1,e2]
   congr 2
   omega
def headB(e:zF)(d:Int):Bool:=(kidsN e.Kind==(e.Kids.length:Int))&&ownB e d
theorem zN5(e:zF)(d cf c:Int)(h1:BA e.Index)(h2:BL e.Read.Subs)(hc:¬(W (c+1)>12))(hd:¬(cf>5)):
 sO e d cf c=if headB e d=true then(if e.Kids.length=0 then some (true,W (c+1)) else(do
  let x1<-idx e.Kids 0
  let (ef,y13)<-sO x1 d (W (cf+1)) (W (c+1))
  if ef then
   let x2<-idx e.Kids 1
   let (je,ii)<-sO x2 d (W (cf+1)) y13
   pure (je,ii)
  else
   pure (false,y13))) else some (false,W (c+1)):=by
 have h':e.Index.Coefs.length<=1048576:=by unfold BA at h1;omega
 have hop:zAo e.Kind=some (decide (4<=e.Kind)&&decide (e.Kind<=6)):=by unfold zAo;rw[gI];rfl
 rw[sO]
 simp only[hc,hd,dF,bF,xt,oP,oB,oS,implNoA,implNoC,implValid _ h',implDepth _ h',implAccess _ h2,hop,gI,len0,same,headB,ownB]
 by_cases k1:e.Kind=1
 ·have hk:kidsN e.Kind=0:=by rw[k1];rfl
  have b1:(e.Kind != 1)=false:=by simp[k1]
  have b1':(e.Kind==1)=true:=by simp[k1]
  have b2:(e.Kind != 2)=true:=by simp[k1]
  have b3:(e.Kind != 3)=true:=by simp[k1]
  have n2:¬e.Kind=2:=by omega
  have n3:¬e.Kind=3:=by omega
  have hz:((0:Int)==(e.Kids.length:Int))=decide (e.Kids.length=0):=by rw[<- len0];exact Bool.beq_comm
  simp only[b1,b1',b2,b3,hk,hz,n2,n3,k1,show kidsN 1=0 from rfl,xu,xt,bF]
  cases noA e.Index <;> cases noC e.Read <;> cases (decide (0<=e.Num)&&decide (e.Num<=99)) <;> by_cases hl:e.Kids.length=0 <;> simp[hl]
 ·have b1:(e.Kind != 1)=true:=by simp[k1]
  have b1':(e.Kind==1)=false:=by simp[k1]
  by_cases k2:e.Kind=2
  ·have hk:kidsN e.Kind=0:=by rw[k2];rfl
   have b2:(e.Kind != 2)=false:=by simp[k2]
   have b2':(e.Kind==2)=true:=by simp[k2]
   have b3:(e.Kind != 3)=true:=by simp[k2]
   have hz:((0:Int)==(e.Kids.length:Int))=decide (e.Kids.length=0):=by rw[<- len0];exact Bool.beq_comm
   simp only[b1,b1',b2,b2',b3,hk,hz,k2,show kidsN 2=0 from rfl,xu,xt,bF,zO6,bne]
   cases (e.Num==0) <;> cases noC e.Read <;> cases validB e.Index <;> by_cases hdd:(depF e.Index:Int)<=d <;> by_cases hl:e.Kids.length=0 <;> simp[hl,hdd]
  ·have b2:(e.Kind != 2)=true:=by simp[k2]
   have b2':(e.Kind==2)=false:=by simp[k2]
   by_cases k3:e.Kind=3
   ·have hk:kidsN e.Kind=0:=by rw[k3];rfl
    have b3:(e.Kind != 3)=false:=by simp[k3]
    have b3':(e.Kind==3)=true:=by simp[k3]
    have hz:((0:Int)==(e.Kids.length:Int))=decide (e.Kids.length=0):=by rw[<- len0];exact Bool.beq_comm
    simp only[b1,b1',b2,b2',b3,b3',hk,hz,k3,k2,show kidsN 3=0 from rfl,xu,xt,bF,bne]
    cases (e.Num==0) <;> cases noA e.Index <;> cases accB e.Read d <;> by_cases hl:e.Kids.length=0 <;> simp[hl]
   ·have b3:(e.Kind != 3)=true:=by simp[k3]
    have b3':(e.Kind==3)=false:=by simp[k3]
    simp only[b1,b1',b2,b2',b3,b3',k1,k2,k3,xu,xt,bF,bne]
    by_cases ho:4<=e.Kind/\e.Kind<=6
    ·have hk:kidsN e.Kind=2:=by unfold kidsN;rw[if_neg (by omega),if_pos (by omega)]
     have hz:((2:Int)==(e.Kids.length:Int))=decide (e.Kids.length=2):=by
      by_cases hl:e.Kids.length=2
      ·simp[hl]
      ·have:¬(2:Int)=(e.Kids.length:Int):=by omega
       simp[hl,this]
     have hz':((e.Kids.length:Int)==2)=decide (e.Kids.length=2):=by rw[<- hz];exact Bool.beq_comm
     simp only[hk,hz,hz',ho.1,ho.2,dT,yz]
     have eta:∀(o:Option (Bool×Int)),(o.bind λx=>some (x.fst,x.snd))=o:=by rintro(_|⟨a,b⟩) <;> rfl
     cases (e.Num==0) <;> cases noA e.Index <;> cases noC e.Read <;> by_cases hl:e.Kids.length=2 <;> first|(simp[hl];done)|(simp[hl];exact eta _)
    ·have hk:kidsN e.Kind=-1:=by unfold kidsN;rw[if_neg (by omega),if_neg (by omega)]
     have hz:((-1:Int)==(e.Kids.length:Int))=false:=beq_false_of_ne (by omega)
     have pu:(decide (4<=e.Kind)&&decide (e.Kind<=6))=false:=by
      rw[Bool.and_eq_false_iff];simp;omega
     simp only[hk,hz,pu]
     cases (e.Num==0) <;> cases noA e.Index <;> cases noC e.Read <;> simp
theorem implScan(d:Int):∀(L m:Nat) (e:zF) (c:Nat),L<=5->BE m e->c<=12->∃r c',sO e d (6 - (L:Int)) (c:Int)=some (r,c')/\(shapeB d L e=true/\c+cnt L e<=12->r=true/\c'=((c+cnt L e:Nat):Int))/\(¬(shapeB d L e=true/\c+cnt L e<=12)->r=false)
 | 0,m,e,c,hL,hb,hc=>by
  have hw:W ((c:Int)+1)=((c+1:Nat):Int):=wY (by omega)
  rw[sO]
  have hd:((6:Int) - ((0:Nat):Int)>5):=by omega
  simp only[hd,dT,oP]
  refine⟨false,W ((c:Int)+1),?_,⟨λh=>(by cases h.1),λ_=>rfl⟩⟩
  by_cases h:W ((c:Int)+1)>12 <;> simp[h]
 | L+1,m,e,c,hL,hb,hc=>by
  have hw:W ((c:Int)+1)=((c+1:Nat):Int):=wY (by omega)
  obtain⟨b1,b2,b3⟩:=hb.own
  have hd:¬((6:Int) - ((L+1:Nat):Int)>5):=by omega
  have hdw:W ((6:Int) - ((L+1:Nat):Int)+1)=6 - (L:Int):=by rw[tV (by omega) (by omega)];omega
  have hcp:1<=cnt (L+1) e:=by rw[cnt];omega
  by_cases nz:c+1>12
  ·rw[sO]
   have bW:(W ((c:Int)+1)>12):=by rw[hw];omega
   simp only[bW,dT,xu,oP,oB,oS]
   exact⟨false,_,rfl,λh=>absurd h.2 (by omega),λ_=>rfl⟩
  ·have bW:¬(W ((c:Int)+1)>12):=by rw[hw];omega
   rw[zN5 e d _ _ b1 b2 bW hd]
   by_cases hh:headB e d=true
   ·rw[if_pos hh]
    have hsh:shapeB d (L+1) e=e.Kids.all (shapeB d L):=by
     unfold headB at hh
     rw[shapeB,hh,yz]
    by_cases hl:e.Kids.length=0
    ·rw[if_pos hl]
     have hn:e.Kids=[]:=AT.1 hl
     refine⟨true,_,rfl,λ_=>⟨rfl,?_⟩,λh=>absurd ⟨by rw[hsh,hn];rfl,by rw[cnt,hn];simp;omega⟩ h⟩
     rw[hw,cnt,hn];rfl
    ·rw[if_neg hl]
     have hkn:∃a b,e.Kids=[a,b]:=by
      simp only[headB,bA] at hh
      have:=eq_of_beq hh.1
      unfold kidsN at this
      match hk:e.Kids with
      | []=>rw[hk] at hl;simp at hl
      | [a]=>rw[hk] at this;simp at this;split at this <;> (try split at this) <;> omega
      | [a,b]=>exact⟨a,b,rfl⟩
      | a::b::c::r=>rw[hk] at this;simp at this;split at this <;> (try split at this) <;> omega
     obtain⟨a,b,hk⟩:=hkn
     obtain⟨m1,_,hba⟩:=hb.kid (k:=a) (by rw[hk];simp)
     obtain⟨m2,_,qu⟩:=hb.kid (k:=b) (by rw[hk];simp)
     have i0:idx e.Kids 0=some a:=by rw[hk];rfl
     have i1:idx e.Kids 1=some b:=by rw[hk];rfl
     have rx:cnt (L+1) e=1+(cnt L a+cnt L b):=by rw[cnt,hk];simp
     have hsh2:shapeB d (L+1) e=(shapeB d L a&&shapeB d L b):=by rw[hsh,hk];simp
     rw[hdw,hw]
     obtain⟨r1,c1,e1,k1,k2⟩:=implScan d L m1 a (c+1) (by omega) hba (by omega)
     simp only[i0,i1,e1,oB,oS,oP]
     by_cases q1:shapeB d L a=true/\c+1+cnt L a<=12
     ·obtain⟨rfl,rfl⟩:=k1 q1
      obtain⟨r2,c2,e2,k3,k4⟩:=implScan d L m2 b (c+1+cnt L a) (by omega) qu q1.2
      simp only[xu,e2,oS]
      refine⟨r2,c2,rfl,λh=>?_,λh=>?_⟩
      ·rw[hsh2,rx,bA] at h
       obtain⟨rfl,rfl⟩:=k3 ⟨h.1.2,by omega⟩
       refine⟨rfl,?_⟩
       rw[rx];congr 1;omega
      ·refine k4 λh'=>h ⟨by rw[hsh2,q1.1,h'.1];rfl,by rw[rx];omega⟩
     ·obtain rfl:=k2 q1
      simp only[bF,xt]
      refine⟨false,c1,rfl,λh=>?_,λ_=>rfl⟩
      rw[hsh2,rx,bA] at h
      exact absurd ⟨h.1.1,by omega⟩ q1
   ·rw[if_neg hh]
    refine⟨false,_,rfl,λh=>?_,λ_=>rfl⟩
    have:=h.1
    unfold headB at hh
    rw[shapeB,bA] at this
    exact absurd this.1 hh
def BS(s:zI):Prop:=BL s.Write.Subs/\∃m,BE m s.Value
def stmtB(s:zI)(d:Int):Bool:=(decide (0<=d)&&decide (d<=4))&&accB s.Write d&&(shapeB d 5 s.Value&&decide (cnt 5 s.Value<=12))
theorem implStmt(s:zI)(d:Int)(h:BS s):jO s d=some (stmtB s d):=by
 obtain⟨h1,m,h2⟩:=h;unfold jO stmtB;rw[gI,implAccess _ h1];obtain⟨r,c',e1,k1,k2⟩:=implScan d 5 m s.Value 0 (by omega) h2 (by omega);rw[show (6:Int) - ((5:Nat):Int)=1 by omega,nZ] at e1;rw[e1];simp only[yv] at k1 k2;have hr:r=(shapeB d 5 s.Value&&decide (cnt 5 s.Value<=12)):=by
  by_cases q:shapeB d 5 s.Value=true/\cnt 5 s.Value<=12
  ·rw[(k1 q).1,q.1];simp[q.2]
  ·rw[k2 q];cases hs:shapeB d 5 s.Value with
   | false=>rfl
   | true=>
    have:¬cnt 5 s.Value<=12:=λh=>q ⟨hs,h⟩;simp[this]
 rw[hr];cases (decide (0<=d)&&decide (d<=4)) <;> cases accB s.Write d <;> simp
theorem specStmt(s:zI)(d:Int)(h:BS s):pE s d=some (stmtB s d):=by
 obtain⟨h1,m,h2⟩:=h;unfold pE stmtB;have hs:=specShape d 5 m s.Value (by omega) h2;rw[show ((5:Nat):Int)=5 from rfl] at hs;rw[specAccess _ h1,hs];by_cases d0:0<=d
 ·have d0':¬d<0:=by omega
  by_cases d4:d<=4
  ·have d4':¬d>4:=by omega
   cases accB s.Write d with
   | false=>simp[d0,d0',d4,d4']
   | true=>
    cases hsh:shapeB d 5 s.Value with
    | false=>simp[d0,d0',d4,d4']
    | true=>
     have hc:=specCount d 5 5 s.Value hsh (by omega) (by omega) (by omega);rw[show ((5:Nat):Int)=5 from rfl] at hc;have e:decide (((cnt 5 s.Value:Nat):Int)<=12)=decide (cnt 5 s.Value<=12):=by simp;omega
     simp[d0,d0',d4,d4',hc,e]
  ·have d4':d>4:=by omega
   simp[d0,d0',d4,d4']
 ·have d0':d<0:=by omega
  simp[d0,d0']
def szL:List Int->Int->Int
 | [],n=>n
 | d::l,n=>szL l (W (n*d))
def sizeF(a:zE):Int:=szL a.Dims 1
theorem zLR(a:zE)(h:a.Dims.length<=1048576):∀(j i:Nat) (n:Int),i+j=a.Dims.length->qV a n (i:Int)=some (szL (a.Dims.drop i) n):=by
 intro j
 induction j with
 | zero=>
  intro i n hi;rw[qV];have:¬((i:Int)<(a.Dims.length:Int)):=by omega
  simp only[this,dF,bF,xt];rw[dN.2 (by omega)];rfl
 | succ j ih=>
  intro i n hi;rw[qV];have aG:i<a.Dims.length:=by omega
  have h1:((i:Int)<(a.Dims.length:Int)):=by omega
  simp only[h1,dT,xu,yN aG,oB,oS];rw[wY (by omega),ih (i+1) _ (by omega),gC aG,szL]
theorem implSize(a:zE)(h:a.Dims.length<=1048576):gN a=some (sizeF a):=by
 unfold gN sizeF;have:=zLR a h _ 0 1 (yv _);rw[nZ,yn] at this;rw[this];rfl
theorem zLS(a:zE)(h:a.Dims.length<=1048576):∀(j i:Nat) (n:Int),i+j=a.Dims.length->rX a n (i:Int)=some (szL (a.Dims.drop i) n):=by
 intro j
 induction j with
 | zero=>
  intro i n hi;rw[rX];have:¬((i:Int)<(a.Dims.length:Int)):=by omega
  simp only[this,dF,bF,xt];rw[dN.2 (by omega)];rfl
 | succ j ih=>
  intro i n hi;rw[rX];have aG:i<a.Dims.length:=by omega
  have h1:((i:Int)<(a.Dims.length:Int)):=by omega
  simp only[h1,dT,xu,yN aG,oB,oS];rw[wY (by omega),ih (i+1) _ (by omega),gC aG,szL]
theorem specSize(a:zE)(h:a.Dims.length<=1048576):gU a=some (sizeF a):=by
 unfold gU sizeF;have:=zLS a h _ 0 1 (yv _);rw[nZ,yn] at this;rw[this];rfl
def cellS(p:List Int):List Int->List zA->Int->Option Int
 | _,[],n=>some n
 | [],_::_,_=>none
 | d::ds,s::ss,n=>if 0<=evA s p/\evA s p<d then cellS p ds ss (W (W (n*d)+evA s p)) else none
def cellF(a:zJ)(p:List Int):List zE->Int->Int
 | [],_=>-1
 | x::l,first=>if x.Name.l=a.Array.l then(if a.Subs.length=x.Dims.length then(match cellS p x.Dims a.Subs 0 with|none=>-1|some n=>W (first+n)) else -1) else cellF a p l (W (first+sizeF x))
def AV(a:zJ):Prop:=a.Subs ≠ []/\a.Subs.length<=2/\∀s∈a.Subs,s.Coefs.length=4
def RVa(l:List zE):Prop:=l.length<=100000/\∀x∈l,x.Dims.length<=1000/\∀d∈x.Dims,dimB d=true
theorem AV.of{a:zJ}{d:Int}(h:accB a d=true):AV a:=by
 simp only[accB,bA,yd] at h;obtain⟨⟨h1,h2,h3⟩,h4⟩:=h;refine⟨by intro e;rw[e] at h2;simp at h2,h3,λs hs=>?_⟩;have:=yb.1 h4 s hs;simp only[okA,validB,bA,yd] at this;exact this.1.1.1
theorem RVa.of{l:List zE}(h:BR l)(hb:arrB l=true):RVa l:=by
 refine⟨h.1,λx hx=>⟨h.2 x hx,?_⟩⟩;simp only[arrB,bA] at hb;obtain⟨i,hi,rfl⟩:=Ao.1 hx;have:=yb.1 hb.2 i (zg.2 hi);have hg:l.getD i ⟨⟨[]⟩,[]⟩=l[i]:=by simp[hi]
 simp only[arrI,hg,bA] at this;exact yb.1 this.2
theorem zLT(a:zJ)(p:List Int)(x:zE)(ha:AV a)(hp:p.length<=4)(hx:x.Dims.length<=1000/\∀d∈x.Dims,dimB d=true)(hl:a.Subs.length=x.Dims.length):
 ∀(j i:Nat) (n:Int),i+j=a.Subs.length->rP a p x n (i:Int)=some (match cellS p (x.Dims.drop i) (a.Subs.drop i) n with|none=>.ret (-1)|some m=>.done m):=by
 obtain⟨a1,a2,a3⟩:=ha
 intro j
 induction j with
 | zero=>
  intro i n hi
  rw[rP]
  have:¬((i:Int)<(a.Subs.length:Int)):=by omega
  simp only[this,dF,bF,xt]
  rw[show a.Subs.drop i=[] from dN.2 (by omega),cellS];rfl
 | succ j ih=>
  intro i n hi
  rw[rP]
  have aG:i<a.Subs.length:=by omega
  have ke:i<x.Dims.length:=by omega
  have h1:((i:Int)<(a.Subs.length:Int)):=by omega
  have hc:=a3 _ (gM aG)
  have hd:=hx.2 _ (gM ke)
  simp only[dimB,bA,yd] at hd
  have hW:W (x.Dims[i] - 1)=x.Dims[i] - 1:=tV (by omega) (by omega)
  simp only[h1,dT,xu,yN aG,yN ke,oB,oS,implEval _ _ (show p.length<=a.Subs[i].Coefs.length by omega) (by omega),hW,gI]
  rw[wY (by omega),gC aG,gC ke,cellS]
  by_cases hv:0<=evA a.Subs[i] p/\evA a.Subs[i] p<x.Dims[i]
  ·have e1:(decide (0<=evA a.Subs[i] p)&&decide (evA a.Subs[i] p<=x.Dims[i] - 1))=true:=by
    rw[bA,yd,yd];omega
   simp only[e1,bT,bF,xt]
   rw[if_pos hv]
   exact ih (i+1) _ (by omega)
  ·have e1:(decide (0<=evA a.Subs[i] p)&&decide (evA a.Subs[i] p<=x.Dims[i] - 1))=false:=by
    rw[Bool.and_eq_false_iff,decide_eq_false_iff_not,decide_eq_false_iff_not];omega
   simp only[e1,yx,xu]
   rw[if_neg hv];rfl
theorem zLU(P:zH)(a:zJ)(p:List Int)(ha:AV a)(hp:p.length<=4)(hR:RVa P.Arrays):∀(j i:Nat) (first:Int),i+j=P.Arrays.length ->
 (match tP P a p first (i:Int) with|none=>none|some (.ret r)=>some r|some (.done _)=>some (-1))=some (cellF a p (P.Arrays.drop i) first):=by
 obtain⟨r1,r2⟩:=hR
 intro j
 induction j with
 | zero=>
  intro i first hi
  rw[tP]
  have:¬((i:Int)<(P.Arrays.length:Int)):=by omega
  simp only[this,dF,bF,xt]
  rw[dN.2 (by omega)];rfl
 | succ j ih=>
  intro i first hi
  rw[tP]
  have aG:i<P.Arrays.length:=by omega
  have h1:((i:Int)<(P.Arrays.length:Int)):=by omega
  have hx:=r2 _ (gM aG)
  simp only[h1,dT,xu,yN aG,oB,oS,implSize _ (show P.Arrays[i].Dims.length<=1048576 by omega)]
  rw[wY (by omega),gC aG,cellF]
  by_cases hn:P.Arrays[i].Name.l=a.Array.l
  ·have hb:(P.Arrays[i].Name.l==a.Array.l)=true:=by simpa using hn
   rw[if_pos hn]
   simp only[hb,bT,bF,xt]
   clear hb hn
   by_cases hl:a.Subs.length=P.Arrays[i].Dims.length
   ·have hl':((a.Subs.length:Int) != (P.Arrays[i].Dims.length:Int))=false:=by simp[hl]
    have h2:=zLT a p P.Arrays[i] ha hp hx hl _ 0 0 (yv _)
    rw[nZ,yn,yn] at h2
    rw[if_pos hl]
    simp only[hl',bF,xt,h2,oS]
    cases cellS p P.Arrays[i].Dims a.Subs 0 <;> rfl
   ·have hl':((a.Subs.length:Int) != (P.Arrays[i].Dims.length:Int))=true:=by simp;omega
    rw[if_neg hl]
    simp only[hl',xu]
    rfl
  ·have hb:(P.Arrays[i].Name.l==a.Array.l)=false:=by simpa using hn
   rw[if_neg hn]
   simp only[hb,yx,xu]
   exact ih (i+1) _ (by omega)
theorem implCell(P:zH)(a:zJ)(p:List Int)(ha:AV a)(hp:p.length<=4)(hR:RVa P.Arrays):mB P a p=some (cellF a p P.Arrays 0):=by
 unfold mB;have:=zLU P a p ha hp hR _ 0 0 (yv _);rw[nZ,yn] at this;cases h:tP P a p 0 0 with
 | none=>rw[h] at this;cases this
 | some o=>
  rw[h] at this;cases o with
  | ret r=>exact this
  | done u=>exact this
theorem zLV(l:List zE)(a:zJ)(p:List Int)(q:Nat)(hq:q<l.length)(ha:AV a)(hp:p.length<=4)(hx:l[q].Dims.length<=1000/\∀d∈l[q].Dims,dimB d=true)(hl:a.Subs.length=l[q].Dims.length):
 ∀(j i:Nat) (n:Int),i+j=a.Subs.length->sP l a p (q:Int) n (i:Int)=some (match cellS p (l[q].Dims.drop i) (a.Subs.drop i) n with|none=>.ret (-1)|some m=>.done m):=by
 obtain⟨a1,a2,a3⟩:=ha
 intro j
 induction j with
 | zero=>
  intro i n hi
  rw[sP]
  have:¬((i:Int)<(a.Subs.length:Int)):=by omega
  simp only[this,dF,bF,xt]
  rw[show a.Subs.drop i=[] from dN.2 (by omega),cellS];rfl
 | succ j ih=>
  intro i n hi
  rw[sP]
  have aG:i<a.Subs.length:=by omega
  have ke:i<l[q].Dims.length:=by omega
  have h1:((i:Int)<(a.Subs.length:Int)):=by omega
  have hc:=a3 _ (gM aG)
  have hl':((a.Subs.length:Int) != (l[q].Dims.length:Int))=false:=by simp[hl]
  simp only[h1,dT,xu,yN aG,yN hq,yN ke,hl',bF,xt,oB,oS,specEval _ _ (show p.length<=a.Subs[i].Coefs.length by omega) (by omega),oP]
  rw[wY (by omega),gC aG,gC ke,cellS]
  by_cases h0:0<=evA a.Subs[i] p
  ·have h0':¬(evA a.Subs[i] p<0):=by omega
   by_cases hd:evA a.Subs[i] p<l[q].Dims[i]
   ·have my:¬(evA a.Subs[i] p>=l[q].Dims[i]):=by omega
    simp only[h0,h0',hd,my,dF,bF,xt,oS,and_self,xu]
    exact ih (i+1) _ (by omega)
   ·have my:(evA a.Subs[i] p>=l[q].Dims[i]):=by omega
    simp only[h0,h0',hd,my,dF,dT,bF,xt,oS,and_false,xu]
  ·have h0':(evA a.Subs[i] p<0):=by omega
   simp only[h0,h0',dT,xu,oS,false_and,xt]
theorem zLW(l:List zE)(a:zJ)(p:List Int)(ha:AV a)(hp:p.length<=4)(hR:RVa l):∀(j i:Nat) (first:Int),i+j=l.length ->
 (match sQ l a p first (i:Int) with|none=>none|some (.ret r)=>some r|some (.done _)=>some (-1))=some (cellF a p (l.drop i) first):=by
 obtain⟨r1,r2⟩:=hR
 intro j
 induction j with
 | zero=>
  intro i first hi
  rw[sQ]
  have:¬((i:Int)<(l.length:Int)):=by omega
  simp only[this,dF,bF,xt]
  rw[dN.2 (by omega)];rfl
 | succ j ih=>
  intro i first hi
  rw[sQ]
  have aG:i<l.length:=by omega
  have h1:((i:Int)<(l.length:Int)):=by omega
  have hx:=r2 _ (gM aG)
  simp only[h1,dT,xu,yN aG,oB,oS,specSize _ (show l[i].Dims.length<=1048576 by omega)]
  rw[wY (by omega),gC aG,cellF]
  by_cases hn:l[i].Name.l=a.Array.l
  ·have hb:(l[i].Name.l==a.Array.l)=true:=by simpa using hn
   rw[if_pos hn]
   simp only[hb,bT,bF,xt]
   clear hb hn
   by_cases hl:a.Subs.length=l[i].Dims.length
   ·have h2:=zLV l a p i aG ha hp hx hl _ 0 0 (yv _)
    rw[nZ,yn,yn] at h2
    rw[if_pos hl]
    simp only[h2,oS]
    cases cellS p l[i].Dims a.Subs 0 <;> rfl
   ·have hl':((a.Subs.length:Int) != (l[i].Dims.length:Int))=true:=by simp;omega
    have jq:((0:Int)<(a.Subs.length:Int)):=by
     have:=List.length_pos_iff.2 ha.1;omega
    rw[sP]
    rw[if_neg hl]
    simp only[jq,dT,xu,yN aG,oB,oS,hl']
    rfl
  ·have hb:(l[i].Name.l==a.Array.l)=false:=by simpa using hn
   rw[if_neg hn]
   simp only[hb,yx,xu]
   exact ih (i+1) _ (by omega)
theorem specCell(l:List zE)(a:zJ)(p:List Int)(ha:AV a)(hp:p.length<=4)(hR:RVa l):jJ l a p=some (cellF a p l 0):=by
 unfold jJ;have:=zLW l a p ha hp hR _ 0 0 (yv _);rw[nZ,yn] at this;cases h:sQ l a p 0 0 with
 | none=>rw[h] at this;cases this
 | some o=>
  rw[h] at this;cases o with
  | ret r=>exact this
  | done u=>exact this
theorem specCopyAff(a:zA)(h:BA a):qB a=some a:=by
 obtain⟨C,k⟩:=a;unfold qB BA at *;simp only[len0] at h ⊢;by_cases h0:C.length=0
 ·have:C=[]:=AT.1 h0;subst this;rfl
 ·have r6:app 8 ([]:List Int) C=some C:=zBt C (by omega);simp only[h0,dF,bF,xt,r6,oB,oS];rfl
theorem zIc(a:zJ)(h:BL a.Subs):∀(j i:Nat) (o:List zA),i+j=a.Subs.length->o.length=i->vQ a (i:Int) o=some (o++a.Subs.drop i):=by
 obtain⟨h1,h2⟩:=h;intro j
 induction j with
 | zero=>
  intro i o hi ho;rw[vQ];have:¬((i:Int)<(a.Subs.length:Int)):=by omega
  simp only[this,dF,bF,xt];rw[show a.Subs.drop i=[] from dN.2 (by omega),yk];rfl
 | succ j ih=>
  intro i o hi ho;rw[vQ];have aG:i<a.Subs.length:=by omega
  have hc:((i:Int)<(a.Subs.length:Int)):=by omega
  have iw:app 32 o [a.Subs[i]]=some (o++[a.Subs[i]]):=sX (by simp;omega);simp only[hc,dT,xu,yN aG,oB,oS,specCopyAff _ (h2 _ (gM aG)),iw];rw[wY (by omega),ih (i+1) _ (by omega) (by simp[ho]),yu,List.singleton_append,<- gC aG]
theorem specCopyAcc(a:zJ)(h:BL a.Subs):sJ a=some a:=by
 unfold sJ;have:=zIc a h _ 0 [] (yv _) rfl;rw[nZ,yn,yy] at this;rw[this];rfl
def readsF:Nat->zF->List zJ
 | 0,_=>[]
 | n+1,e=>if e.Kind=3 then[e.Read] else e.Kids.flatMap (readsF n)
theorem zId{d:Int}{n:Nat}{e:zF}(h:shapeB d (n+1) e=true)(h3:e.Kind=3):e.Kids=[]/\accB e.Read d=true:=by
 simp only[shapeB,bA] at h;have hk:=eq_of_beq h.1.1;rw[h3,show kidsN 3=0 from rfl] at hk;refine⟨AT.1 (by omega),?_⟩;have ho:=h.1.2;simp only[ownB,h3,show ¬(3:Int)=2 by decide,xt,xu,bA] at ho;exact ho.2
theorem zIe{d:Int}:∀(n:Nat) (e:zF),shapeB d n e=true->∀a∈readsF n e,accB a d=true
 | 0,e,h,a,ha=>by cases ha
 | n+1,e,h,a,ha=>by
  rw[readsF] at ha
  by_cases h3:e.Kind=3
  ·rw[if_pos h3] at ha
   rw[yq.1 ha]
   exact(zId h h3).2
  ·rw[if_neg h3] at ha
   obtain⟨k,hk,hk'⟩:=zd.1 ha
   exact zIe n k ((zAi h).2 k hk) a hk'
theorem zAL{d:Int}:∀(n:Nat) (e:zF),shapeB d n e=true->(readsF n e).length<=2 ^ n
 | 0,e,h=>by cases h
 | n+1,e,h=>by
  have hp:=AP (n:=n)
  rw[readsF,Nat.pow_succ]
  by_cases h3:e.Kind=3
  ·rw[if_pos h3];simp;omega
  ·rw[if_neg h3]
   obtain⟨h1,h2⟩:=zAi h
   rcases h1 with hk|⟨a,b,hk⟩
   ·rw[hk];simp
   ·rw[hk] at h2 ⊢
    have ha:=zAL n a (h2 a (by simp))
    have hb:=zAL n b (h2 b (by simp))
    simp only[yf,Au,yk,lA]
    omega
theorem implReads{d:Int}:∀(n:Nat) (e:zF),shapeB d n e=true->n<=10->eE e=some (readsF n e)
 | 0,e,h,_=>by cases h
 | n+1,e,h,hn=>by
  have vd:2 ^ n<=2 ^ 10:=AD (by omega) (by omega)
  rw[eE,readsF]
  by_cases h3:e.Kind=3
  ·have:(e.Kind==3)=true:=by simpa using h3
   rw[if_pos h3,if_pos this];rfl
  ·have:(e.Kind==3)=false:=by simpa using h3
   rw[if_neg h3]
   simp only[this,bF,xt,same]
   obtain⟨h1,h2⟩:=zAi h
   rcases h1 with hk|⟨a,b,hk⟩
   ·rw[jE]
    simp[hk]
   ·rw[hk] at h2 ⊢
    have ra:=implReads n a (h2 a (by simp)) (by omega)
    have rb:=implReads n b (h2 b (by simp)) (by omega)
    have la:=zAL n a (h2 a (by simp))
    have lb:=zAL n b (h2 b (by simp))
    have l0:((0:Int)<(e.Kids.length:Int)):=by rw[hk];simp
    have l1:((1:Int)<(e.Kids.length:Int)):=by rw[hk];simp
    have l2:¬((2:Int)<(e.Kids.length:Int)):=by rw[hk];simp
    have i0:idx e.Kids 0=some a:=by rw[hk];rfl
    have i1:idx e.Kids 1=some b:=by rw[hk];rfl
    have w0:W ((0:Int)+1)=1:=by rw[tV (by omega) (by omega)];rfl
    have w1:W ((1:Int)+1)=2:=by rw[tV (by omega) (by omega)];rfl
    have p0:app 40 ([]:List zJ) (readsF n a)=some (readsF n a):=by rw[sX (by simp;omega)];rfl
    have p1:app 40 (readsF n a) (readsF n b)=some (readsF n a++readsF n b):=sX (by omega)
    rw[jE]
    simp only[l0,dT,xu,oB,oS,i0,same,ra,p0,w0]
    rw[jE]
    simp only[l1,dT,xu,oB,oS,i1,same,rb,p1,w1]
    rw[jE]
    simp only[l2,dF,bF,xt,oP,oS,id,yf,Au,yk]
theorem specReads{d:Int}:∀(n m:Nat) (e:zF) (out:List zJ),shapeB d n e=true->BE m e->n<=10->out.length<=1000000 - 2 ^ n->qR out e=some (out++readsF n e)
 | 0,m,e,out,h,_,_,_=>by cases h
 | n+1,m,e,out,h,hb,hn,ho=>by
  have vd:2 ^ n<=2 ^ 10:=AD (by omega) (by omega)
  have vy:2 ^ (n+1)=2 ^ n*2:=Nat.pow_succ ..
  have hp:=AP (n:=n)
  rw[qR,readsF]
  by_cases h3:e.Kind=3
  ·have:(e.Kind==3)=true:=by simpa using h3
   obtain⟨hk,_⟩:=zId h h3
   have hpa:app 40 out [e.Read]=some (out++[e.Read]):=sX (by simp;omega)
   rw[if_pos h3]
   simp only[this,xu,oB,oS,specCopyAcc _ hb.own.2.1,hpa,oP,id,same]
   rw[uB]
   simp[hk]
  ·have:(e.Kind==3)=false:=by simpa using h3
   rw[if_neg h3]
   simp only[this,bF,xt,oB,oS,oP,id,same]
   obtain⟨h1,h2⟩:=zAi h
   rcases h1 with hk|⟨a,b,hk⟩
   ·rw[uB]
    simp[hk]
   ·obtain⟨m1,_,hba⟩:=hb.kid (k:=a) (by rw[hk];simp)
    obtain⟨m2,_,qu⟩:=hb.kid (k:=b) (by rw[hk];simp)
    rw[hk] at h2 ⊢
    have la:=zAL n a (h2 a (by simp))
    have ra:=specReads n m1 a out (h2 a (by simp)) hba (by omega) (by omega)
    have rb:=specReads n m2 b (out++readsF n a) (h2 b (by simp)) qu (by omega) (by rw[lA];omega)
    have l0:((0:Int)<(e.Kids.length:Int)):=by rw[hk];simp
    have l1:((1:Int)<(e.Kids.length:Int)):=by rw[hk];simp
    have l2:¬((2:Int)<(e.Kids.length:Int)):=by rw[hk];simp
    have i0:idx e.Kids 0=some a:=by rw[hk];rfl
    have i1:idx e.Kids 1=some b:=by rw[hk];rfl
    have w0:W ((0:Int)+1)=1:=by rw[tV (by omega) (by omega)];rfl
    have w1:W ((1:Int)+1)=2:=by rw[tV (by omega) (by omega)];rfl
    rw[uB]
    simp only[l0,dT,xu,oB,oS,i0,same,ra,w0]
    rw[uB]
    simp only[l1,dT,xu,oB,oS,i1,same,rb,w1]
    rw[uB]
    simp only[l2,dF,bF,xt,oP,oS,id,yf,Au,yk,yu]
def cellA(A:List zE)(p:List Int)(a:zJ):Int:=cellF a p A 0
def stOk(A:List zE)(s:zI)(p:List Int):Bool:=decide (0<=cellA A p s.Write)&&(readsF 5 s.Value).all λa=>decide (0<=cellA A p a)
theorem zIf{s:zI}{d:Int}(h:stmtB s d=true):AV s.Write/\shapeB d 5 s.Value=true/\∀a∈readsF 5 s.Value,AV a:=by
 simp only[stmtB,bA] at h;exact⟨AV.of h.1.2,h.2.1,λa ha=>AV.of (zIe 5 _ h.2.1 a ha)⟩
theorem implStmtOk(P:zH)(s:zI)(p:List Int){d:Int}(h:stmtB s d=true)(hp:p.length<=4)(hR:RVa P.Arrays):mN P s p=some (stOk P.Arrays s p):=by
 obtain⟨h1,h2,h3⟩:=zIf h;have hl:=zAL 5 _ h2;unfold mN stOk;have hc:=zKP (f:=λx0=>sW x0 P p) (p:=λa=>!(decide (0<=cellA P.Arrays p a))) (readsF 5 s.Value) (λa ha=>by
  unfold sW;rw[implCell P a p (h3 a ha) hp hR];simp only[oB,oS,oP,cellA];by_cases q:0<=cellF a p P.Arrays 0
  ·have:¬cellF a p P.Arrays 0<0:=by omega
   simp[q,this]
  ·have:cellF a p P.Arrays 0<0:=by omega
   simp[q,this]) (by omega)
 rw[implCell P s.Write p h1 hp hR,implReads 5 s.Value h2 (by omega)];simp only[oB,oS,hc,oP,cellA];by_cases q:0<=cellF s.Write p P.Arrays 0
 ·have:cellF s.Write p P.Arrays 0>=0:=q;simp only[this,q,dT,xu,oS,id,yz];rw[Ar];simp
 ·have:¬cellF s.Write p P.Arrays 0>=0:=q;simp[this,q]
theorem zKV(l:List zE)(p:List Int)(ys:List zJ)(hy:ys.length<=1048576)(ha:∀a∈ys,AV a)(hp:p.length<=4)(hR:RVa l):∀(j i:Nat) (o:List Int),i+j=ys.length->o.length=i ->
 rB l p ys o (i:Int)=some (if(ys.drop i).all (λa=>decide (0<=cellA l p a)) then .done (o++(ys.drop i).map (cellA l p)) else .ret ([],0,false)):=by
 intro j
 induction j with
 | zero=>
  intro i o hi ho
  rw[rB]
  have:¬((i:Int)<(ys.length:Int)):=by omega
  simp only[this,dF,bF,xt]
  rw[show ys.drop i=[] from dN.2 (by omega)]
  simp
 | succ j ih=>
  intro i o hi ho
  rw[rB]
  have aG:i<ys.length:=by omega
  have hc:((i:Int)<(ys.length:Int)):=by omega
  have iw:∀v:Int,app 8 o [v]=some (o++[v]):=λv=>sX (by simp;omega)
  simp only[hc,dT,xu,yN aG,oB,oS,specCell l _ p (ha _ (gM aG)) hp hR,iw]
  rw[wY (by omega),gC aG,zh,zl]
  by_cases q:0<=cellA l p ys[i]
  ·have:¬cellF ys[i] p l 0<0:=by unfold cellA at q;omega
   simp only[this,q,dF,dT,bF,xt,yz]
   rw[ih (i+1) _ (by omega) (by simp[ho]),yu,List.singleton_append]
   rfl
  ·have:cellF ys[i] p l 0<0:=by unfold cellA at q;omega
   simp only[this,q,dF,dT,xu,Bg,bF,xt]
   rfl
theorem specCells(l:List zE)(s:zI)(p:List Int){d:Int}(h:stmtB s d=true)(hs:BS s)(hp:p.length<=4)(hR:RVa l):jP l s p=some (if stOk l s p then((readsF 5 s.Value).map (cellA l p),cellA l p s.Write,true) else([],0,false)):=by
 obtain⟨h1,h2,h3⟩:=zIf h;obtain⟨_,m,hb⟩:=hs;have hl:=zAL 5 _ h2;unfold jP stOk;have hr:=specReads 5 m s.Value [] h2 hb (by omega) (by simp);rw[yy] at hr;have hc:=zKV l p (readsF 5 s.Value) (by omega) h3 hp hR _ 0 [] (yv _) rfl;rw[nZ,yn,yy] at hc;rw[hr];simp only[oB,oS,hc];cases hA:(readsF 5 s.Value).all λa=>decide (0<=cellA l p a) with
 | false=>simp
 | true=>
  simp only[xu,oS,specCell l s.Write p h1 hp hR,Bl,oP];by_cases q:0<=cellA l p s.Write
  ·have:¬cellF s.Write p l 0<0:=by unfold cellA at q;omega
   have q':0<=cellF s.Write p l 0:=q;simp[this,q',cellA]
  ·have:cellF s.Write p l 0<0:=by unfold cellA at q;omega
   simp[this,q]
def ptB(p:List Int):Bool:=decide (p.length<=4)&&p.all λn=>decide (-9999<=n)&&decide (n<=9999)
theorem implPoint(p:List Int)(h:p.length<=1048576):dI p=some (ptB p):=by
 unfold dI ptB;have hc:=zDw (f:=kD) (p:=λn=>!(decide (-9999<=n)&&decide (n<=9999))) p (λx _=>by unfold kD;rw[gI];rfl) (by omega);have e:decide ((p.length:Int)<=4)=decide (p.length<=4):=by simp;omega
 rw[e];by_cases h4:p.length<=4
 ·simp only[h4,dT,xu,hc,oB,oS,oP,id,yz];rw[Ar];simp
 ·simp[h4]
theorem specPoint(p:List Int)(h:p.length<=1048576):jQ p=some (ptB p):=by
 unfold jQ ptB;have hl:=zAZ (n:=p.length) (f:=rC p) (P:=λi=>decide (-9999<=p.getD i 0)&&decide (p.getD i 0<=9999)) (λi hi=>by
  rw[rC];have h1:((i:Int)<(p.length:Int)):=by omega
  have hg:p.getD i 0=p[i]:=by simp[hi]
  have hw:tH p[i] 9999=some (decide (-9999<=p[i])&&decide (p[i]<=9999)):=by
   unfold tH;rw[show W (0 - 9999)=-9999 by rw[tV (by omega) (by omega)];rfl];by_cases q:-9999<=p[i]
   ·have:p[i] >= -9999:=q;simp[q,this]
   ·have:¬p[i] >= -9999:=q;simp[q,this]
  simp only[h1,dT,xu,yN hi,oB,oS,hg,hw];rw[wY (by omega)];cases (decide (-9999<=p[i])&&decide (p[i]<=9999)) <;> rfl) (by
  rw[rC];simp)
 rw[hl,zAh p (λn=>decide (-9999<=n)&&decide (n<=9999))];have e:decide ((p.length:Int)<=4)=decide (p.length<=4):=by simp;omega
 cases p.all λn=>decide (-9999<=n)&&decide (n<=9999) with
 | false=>simp
 | true=>simp[e]
theorem zMo:∀(ls:List zD) (p q:List Int),q∈pts ls p->q.length=p.length+ls.length
 | [],p,q,h=>by rw[pts,yq] at h;subst h;rfl
 | l::ls,p,q,h=>by
  rw[pts] at h
  obtain⟨v,_,hv⟩:=zd.1 h
  have:=zMo ls (p++[v]) q hv
  rw[this];simp;omega
theorem zDx{nest:List zD}:(nestPts nest).1.length<=120/\∀q∈(nestPts nest).1,q.length<=4:=by
 unfold nestPts;split
 ·rename_i h;refine⟨h.2.2,λq hq=>?_⟩;have:=zMo nest [] q hq;have:=(zKU h.1).1;simp at *;omega
 ·exact⟨by simp,λq hq=>by cases hq⟩
def BP(x:zL):Prop:=BN x.Nest/\x.Body.length<=100000/\∀s∈x.Body,BS s
def bodyB(x:zL):Bool:=(decide (1<=x.Body.length)&&decide (x.Body.length<=4))&&x.Body.all λs=>stmtB s (x.Nest.length:Int)
def partB(A:List zE)(x:zL):Bool:=(nestPts x.Nest).2&&bodyB x&&(nestPts x.Nest).1.all λq=>ptB q&&x.Body.all λs=>stOk A s q
def instR(k:Int)(q:List Int)(i j:Nat):List yE:=(List.range' i j).map λ(i:Nat)=>⟨k,(i:Int),q⟩
theorem zJk(k:Int)(q:List Int)(i j:Nat):(instR k q i j).length=j:=by simp[instR]
theorem len14(n:Nat):(decide ((1:Int)<=(n:Int))&&decide ((n:Int)<=4))=(decide (1<=n)&&decide (n<=4)):=by
 have e1:decide ((1:Int)<=(n:Int))=decide (1<=n):=by simp;omega
 have e2:decide ((n:Int)<=4)=decide (n<=4):=by simp;omega
 rw[e1,e2]
theorem zPi(P:zH)(k:Int)(x:zL)(q:List Int)(hq:q.length<=4)(hb:x.Body.length<=4)(hs:∀s∈x.Body,stmtB s (x.Nest.length:Int)=true)(hR:RVa P.Arrays):
 ∀(j i:Nat) (o:List yE),i+j=x.Body.length->o.length+j<=1000000->uN P k x q o (i:Int)=some (if(x.Body.drop i).all (λs=>stOk P.Arrays s q) then .done (o++instR k q i j) else .ret ([],false)):=by
 intro j
 induction j with
 | zero=>
  intro i o hi ho
  rw[uN]
  have:¬((i:Int)<(x.Body.length:Int)):=by omega
  simp only[this,dF,bF,xt]
  rw[show x.Body.drop i=[] from dN.2 (by omega)]
  simp[instR]
 | succ j ih=>
  intro i o hi ho
  rw[uN]
  have aG:i<x.Body.length:=by omega
  have hc:((i:Int)<(x.Body.length:Int)):=by omega
  have iw:app 40 o [(⟨k,(i:Int),q⟩:yE)]=some (o++[⟨k,(i:Int),q⟩]):=sX (by simp;omega)
  simp only[hc,dT,xu,yN aG,oB,oS,implStmtOk P _ q (hs _ (gM aG)) hq hR,zIb q (by omega),iw]
  rw[wY (by omega),gC aG,zh]
  cases stOk P.Arrays x.Body[i] q with
  | false=>rfl
  | true=>
   simp only[bT,bF,xt,yz]
   rw[ih (i+1) _ (by omega) (by simp;omega),yu]
   simp only[instR,A6,zl,List.singleton_append]
def ptOk(A:List zE)(x:zL)(q:List Int):Bool:=ptB q&&x.Body.all λs=>stOk A s q
theorem zPj(P:zH)(k:Int)(x:zL)(qs:List (List Int))(hq:∀q∈qs,q.length<=4)(hql:qs.length<=120)(hb:x.Body.length<=4)(hs:∀s∈x.Body,stmtB s (x.Nest.length:Int)=true)(hR:RVa P.Arrays):
 ∀(j i:Nat) (o:List yE),i+j=qs.length->o.length+4*j<=1000000->uO P k x qs o (i:Int)=some (if(qs.drop i).all (ptOk P.Arrays x) then .done (o++(qs.drop i).flatMap λq=>instR k q 0 x.Body.length) else .ret ([],false)):=by
 intro j
 induction j with
 | zero=>
  intro i o hi ho
  rw[uO]
  have:¬((i:Int)<(qs.length:Int)):=by omega
  simp only[this,dF,bF,xt]
  rw[show qs.drop i=[] from dN.2 (by omega)]
  simp
 | succ j ih=>
  intro i o hi ho
  rw[uO]
  have aG:i<qs.length:=by omega
  have hc:((i:Int)<(qs.length:Int)):=by omega
  have hq4:=hq _ (gM aG)
  have h3:=zPi P k x qs[i] hq4 hb hs hR x.Body.length 0 o (yv _) (by omega)
  rw[nZ,yn] at h3
  simp only[hc,dT,xu,yN aG,oB,oS,implPoint _ (show qs[i].length<=1048576 by omega),h3]
  rw[wY (by omega),gC aG,zh,yf,ptOk]
  cases ptB qs[i] with
  | false=>rfl
  | true=>
   simp only[bT,bF,xt,yz]
   cases x.Body.all λs=>stOk P.Arrays s qs[i] with
   | false=>rfl
   | true=>
    simp only[xu,oS,yz]
    rw[ih (i+1) _ (by omega) (by rw[lA,zJk];omega),yu]
def partI(k:Int)(x:zL):List yE:=(nestPts x.Nest).1.flatMap λq=>instR k q 0 x.Body.length
theorem zLX(k:Int)(b:Nat):∀qs:List (List Int),(qs.flatMap λq=>instR k q 0 b).length=qs.length*b
 | []=>by simp
 | q::qs=>by rw[yf,lA,zJk,zLX k b qs,xy,Ag];omega
theorem zJl(k:Int)(x:zL):(partI k x).length=(nestPts x.Nest).1.length*x.Body.length:=zLX _ _ _
theorem zIg{x:zL}(h:bodyB x=true):1<=x.Body.length/\x.Body.length<=4/\∀s∈x.Body,stmtB s (x.Nest.length:Int)=true:=by
 simp only[bodyB,bA,yd] at h;exact⟨h.1.1,h.1.2,yb.1 h.2⟩
theorem zLY(k:Int){A:List zE}{x:zL}(h:partB A x=true):(partI k x).length<=480:=by
 simp only[partB,bA] at h;obtain⟨h1,h2,_⟩:=zIg h.1.2;have:=(zDx (nest:=x.Nest)).1;rw[zJl];exact Nat.mul_le_mul this h2
def gP(P:zH)(i:Nat):zL:=P.Parts.getD i ⟨[],[]⟩
theorem zPk(P:zH)(hP:P.Parts.length<=4)(hb:∀x∈P.Parts,BP x)(hR:RVa P.Arrays):
 ∀(j i:Nat) (o:List yE),i+j=P.Parts.length->o.length<=480*i->uP P o (i:Int)=some (if(List.range' i j).all (λi=>partB P.Arrays (gP P i)) then .done (o++(List.range' i j).flatMap λ(i:Nat)=>partI (i:Int) (gP P i)) else .ret ([],false)):=by
 intro j
 induction j with
 | zero=>
  intro i o hi ho
  rw[uP]
  have:¬((i:Int)<(P.Parts.length:Int)):=by omega
  simp only[this,dF,bF,xt]
  simp
 | succ j ih=>
  intro i o hi ho
  rw[uP]
  have aG:i<P.Parts.length:=by omega
  have hc:((i:Int)<(P.Parts.length:Int)):=by omega
  obtain⟨b1,b2,b3⟩:=hb _ (gM aG)
  have hg:gP P i=P.Parts[i]:=by simp[gP,aG]
  have gy:=zKN (f:=λx0=>tB x0 P.Parts[i]) (p:=λs=>!(stmtB s (P.Parts[i].Nest.length:Int))) P.Parts[i].Body (λs hs=>by
   unfold tB
   rw[implStmt s _ (b3 s hs)];rfl) (by omega)
  simp only[hc,dT,xu,yN aG,oB,oS,implPoints _ b1,gI,len14,gy,oP,id]
  rw[wY (by omega),A6,zh,yf,hg]
  have ow:=zDx (nest:=P.Parts[i].Nest)
  cases hn:(nestPts P.Parts[i].Nest).2 with
  | false=>simp[partB,hn]
  | true=>
   cases tr:(decide (1<=P.Parts[i].Body.length)&&decide (P.Parts[i].Body.length<=4)) with
   | false=>simp[partB,bodyB,tr]
   | true=>
    have hany:(P.Parts[i].Body.any λs=>!(stmtB s (P.Parts[i].Nest.length:Int)))=!(P.Parts[i].Body.all λs=>stmtB s (P.Parts[i].Nest.length:Int)):=by
     rw[Bool.eq_iff_iff];simp
    simp only[bT,bF,xt,oS,hany]
    cases hall:P.Parts[i].Body.all λs=>stmtB s (P.Parts[i].Nest.length:Int) with
    | false=>simp[partB,bodyB,hall]
    | true=>
     have qu:bodyB P.Parts[i]=true:=by rw[bodyB,tr,hall];rfl
     obtain⟨q1,q2,q3⟩:=zIg qu
     have h2:=zPj P (i:Int) P.Parts[i] (nestPts P.Parts[i].Nest).1 ow.2 ow.1 q2 q3 hR _ 0 o (yv _) (by have:=ow.1;omega)
     rw[nZ,yn] at h2
     simp only[bT,bF,xt,h2]
     have hpB:partB P.Arrays P.Parts[i]=(nestPts P.Parts[i].Nest).1.all (ptOk P.Arrays P.Parts[i]):=by rw[partB,hn,qu];rfl
     rw[hpB]
     cases hpt:(nestPts P.Parts[i].Nest).1.all (ptOk P.Arrays P.Parts[i]) with
     | false=>simp
     | true=>
      have cM:=zLY (i:Int) (A:=P.Arrays) (x:=P.Parts[i]) (by rw[hpB,hpt])
      simp only[xu,oS,yz]
      rw[show (o++(nestPts P.Parts[i].Nest).1.flatMap λq=>instR (i:Int) q 0 P.Parts[i].Body.length)=o++partI (i:Int) P.Parts[i] from rfl]
      rw[ih (i+1) _ (by omega) (by rw[lA];omega),yu]
def BG(P:zH):Prop:=BR P.Arrays/\P.Parts.length<=100000/\∀x∈P.Parts,BP x
def progB(P:zH):Bool:=arrB P.Arrays&&decide (P.Parts.length<=4)&&(List.range' 0 P.Parts.length).all λi=>partB P.Arrays (gP P i)
def progI(P:zH):List yE:=(List.range' 0 P.Parts.length).flatMap λ(i:Nat)=>partI (i:Int) (gP P i)
def validP(P:zH):Bool:=progB P&&decide ((progI P).length<=120)
theorem implInstances(P:zH)(h:BG P):oK P=some (if progB P then(progI P,decide ((progI P).length<=120)) else([],false)):=by
 obtain⟨h1,h2,h3⟩:=h;unfold oK progB;rw[implArrays _ h1];cases ha:arrB P.Arrays with
 | false=>simp
 | true=>
  by_cases h4:P.Parts.length<=4
  ·have e:¬((P.Parts.length:Int)>4):=by omega
   have hl:=zPk P h4 h3 (RVa.of h1 ha) _ 0 [] (yv _) (by simp);rw[nZ,yy] at hl;simp only[bT,bF,xt,e,dF,oP,oB,oS,hl,h4,dT,yz];cases hA:(List.range' 0 P.Parts.length).all λi=>partB P.Arrays (gP P i) with
   | false=>simp
   | true=>
    simp only[xu,progI]
    congr 2
    simp;omega
  ·have e:((P.Parts.length:Int)>4):=by omega
   simp[e,h4]
theorem implValidP(P:zH)(h:BG P):pX P=some (validP P):=by
 unfold pX validP;rw[implInstances P h];cases progB P <;> rfl
theorem zJm{R:Type}{r0:R}{n:Nat}{f:Int->Option (Out Unit R)}{P:Nat->Bool}(step:∀i,i<n->f (i:Int)=if P i then f ((i+1:Nat):Int) else some (.ret r0))(fin:f (n:Int)=some (.done ())):f 0=some (if(List.range n).all P then .done () else .ret r0):=by
 have fh:∀j i,i+j=n->f (i:Int)=some (if(List.range' i j).all P then .done () else .ret r0):=by
  intro j
  induction j with
  | zero=>intro i hi;rw[show i=n by omega,fin];rfl
  | succ j ih=>
   intro i hi;rw[step i (by omega),A6,zh];cases hP:P i with
   | false=>simp
   | true=>simp only[xu,yz];exact ih (i+1) (by omega)
 have:=fh n 0 (by omega);rw[List.range_eq_range'];exact this
theorem zLZ(A:List zE)(x:zL)(qs:List (List Int))(hq:∀q∈qs,q.length<=4)(hql:qs.length<=120)(i:Nat)(hi:i<x.Body.length)(hs:stmtB x.Body[i] (x.Nest.length:Int)=true)(hbs:BS x.Body[i])(hR:RVa A):
 sR A x qs (i:Int) 0=some (if qs.all (λq=>stOk A x.Body[i] q&&ptB q) then .done () else .ret (0,false)):=by
 have hl:=zJm (r0:=((0:Int),false)) (n:=qs.length) (f:=sR A x qs (i:Int)) (P:=λk=>stOk A x.Body[i] (qs.getD k [])&&ptB (qs.getD k [])) (λk hk=>by
  rw[sR]
  have h1:((k:Int)<(qs.length:Int)):=by omega
  have hg:qs.getD k []=qs[k]:=by simp[hk]
  have hk4:=hq _ (gM hk)
  simp only[h1,dT,xu,yN hi,yN hk,oB,oS,specCells A _ qs[k] hs hbs hk4 hR,specPoint _ (show qs[k].length<=1048576 by omega),hg]
  rw[wY (by omega)]
  cases stOk A x.Body[i] qs[k] with
  | false=>simp
  | true=>cases ptB qs[k] <;> simp) (by
  rw[sR];simp)
 rw[hl,zAh qs (λq=>stOk A x.Body[i] q&&ptB q)]
def EXz:zF:=zF.mk 0 0 (zA.mk [] 0) (zJ.mk ⟨[]⟩ []) []
theorem zL0(A:List zE)(x:zL)(hx:BP x)(qs:List (List Int))(hq:∀q∈qs,q.length<=4)(hql:qs.length<=120)(hR:RVa A):
 sS A x qs 0=some (if x.Body.all (λs=>stmtB s (x.Nest.length:Int)&&qs.all (λq=>stOk A s q&&ptB q)) then .done () else .ret (0,false)):=by
 obtain⟨b1,b2,b3⟩:=hx
 have hl:=zJm (r0:=((0:Int),false)) (n:=x.Body.length) (f:=sS A x qs) (P:=λi=>(λs=>stmtB s (x.Nest.length:Int)&&qs.all (λq=>stOk A s q&&ptB q)) (x.Body.getD i ⟨⟨⟨[]⟩,[]⟩,EXz⟩)) (λi hi=>by
  rw[sS]
  have h1:((i:Int)<(x.Body.length:Int)):=by omega
  have hg:x.Body.getD i ⟨⟨⟨[]⟩,[]⟩,EXz⟩=x.Body[i]:=by simp[hi]
  have hbs:=b3 _ (gM hi)
  simp only[h1,dT,xu,yN hi,oB,oS,specStmt _ _ hbs,hg]
  rw[wY (by omega)]
  cases r7:stmtB x.Body[i] (x.Nest.length:Int) with
  | false=>simp
  | true=>
   simp only[bT,bF,xt,zLZ A x qs hq hql i hi r7 hbs hR,yz]
   cases qs.all (λq=>stOk A x.Body[i] q&&ptB q) <;> simp) (by
  rw[sS];simp)
 rw[hl,zAh x.Body (λs=>stmtB s (x.Nest.length:Int)&&qs.all (λq=>stOk A s q&&ptB q))]
theorem zO7{A:List zE}{x:zL}{qs:List (List Int)}(h1:1<=x.Body.length):
 (x.Body.all (λs=>stmtB s (x.Nest.length:Int)&&qs.all (λq=>stOk A s q&&ptB q)))=((x.Body.all λs=>stmtB s (x.Nest.length:Int))&&qs.all (ptOk A x)):=by
 rw[Bool.eq_iff_iff,bA,yb,yb,yb]
 constructor
 ·intro h
  refine⟨λs hs=>((bA _ _).mp (h s hs)).1,λq hq=>?_⟩
  have hall:∀s∈x.Body,stOk A s q=true/\ptB q=true:=λs hs=>by
   have:=((bA _ _).mp (h s hs)).2
   have:=yb.1 this q hq
   rwa[bA] at this
  rw[ptOk,bA,yb]
  exact⟨(hall x.Body[0] (gM (by omega))).2,λs hs=>(hall s hs).1⟩
 ·rintro⟨h2,h3⟩ s hs
  rw[bA,yb]
  refine⟨h2 s hs,λq hq=>?_⟩
  have:=h3 q hq
  rw[ptOk,bA,yb] at this
  rw[bA]
  exact⟨this.2 s hs,this.1⟩
theorem specPart(A:List zE)(x:zL)(hx:BP x)(hR:RVa A):kJ A x=some (if partB A x then(((nestPts x.Nest).1.length*x.Body.length:Nat):Int) else 0,partB A x):=by
 have ow:=zDx (nest:=x.Nest);have hl:=zL0 A x hx (nestPts x.Nest).1 ow.2 ow.1 hR;obtain⟨b1,b2,b3⟩:=hx;unfold kJ partB;rw[specPoints _ b1];cases hn:(nestPts x.Nest).2 with
 | false=>simp[hn]
 | true=>
  by_cases q1:1<=x.Body.length
  ·have q1':¬((x.Body.length:Int)<1):=by omega
   by_cases q2:x.Body.length<=4
   ·have q2':¬((x.Body.length:Int)>4):=by omega
    have hm:(nestPts x.Nest).1.length*x.Body.length<=120*4:=Nat.mul_le_mul ow.1 q2;have hW:W (((nestPts x.Nest).1.length:Int)*(x.Body.length:Int))=(((nestPts x.Nest).1.length*x.Body.length:Nat):Int):=by
     rw[<- Int.natCast_mul];exact tV (by omega) (by omega)
    have hb:bodyB x=x.Body.all λs=>stmtB s (x.Nest.length:Int):=by simp[bodyB,q1,q2]
    have hsw:=zO7 (A:=A) (qs:=(nestPts x.Nest).1) q1;rw[hsw] at hl;have hpt:((nestPts x.Nest).1.all λq=>ptB q&&x.Body.all λs=>stOk A s q)=(nestPts x.Nest).1.all (ptOk A x):=rfl;simp only[hn,bT,bF,xt,q1',q2',dF,oP,oB,oS,hl,hb,hpt,hW,yz];cases ((x.Body.all λs=>stmtB s (x.Nest.length:Int))&&(nestPts x.Nest).1.all (ptOk A x)) <;> simp
   ·have q2':((x.Body.length:Int)>4):=by omega
    have hb:bodyB x=false:=by simp[bodyB,q2]
    simp[hn,q1',q2',hb]
  ·have q1':((x.Body.length:Int)<1):=by omega
   have hb:bodyB x=false:=by simp[bodyB,q1]
   simp[hn,q1',hb]
theorem zIh(P:zH)(hP:P.Parts.length<=4)(hb:∀x∈P.Parts,BP x)(hR:RVa P.Arrays):
 ∀(j i t:Nat),i+j=P.Parts.length->t<=480*i->vR P (t:Int) (i:Int)=some (if(List.range' i j).all (λi=>partB P.Arrays (gP P i)) then .done (((t+((List.range' i j).flatMap λ(i:Nat)=>partI (i:Int) (gP P i)).length:Nat)):Int) else .ret false):=by
 intro j
 induction j with
 | zero=>
  intro i t hi ht
  rw[vR]
  have:¬((i:Int)<(P.Parts.length:Int)):=by omega
  simp only[this,dF,bF,xt]
  simp
 | succ j ih=>
  intro i t hi ht
  rw[vR]
  have aG:i<P.Parts.length:=by omega
  have hc:((i:Int)<(P.Parts.length:Int)):=by omega
  have hg:gP P i=P.Parts[i]:=by simp[gP,aG]
  simp only[hc,dT,xu,yN aG,oB,oS,specPart P.Arrays _ (hb _ (gM aG)) hR]
  rw[wY (by omega),A6,zh,yf,hg]
  cases hp:partB P.Arrays P.Parts[i] with
  | false=>simp
  | true=>
   have cM:=zLY (i:Int) hp
   have qx:=zJl (i:Int) P.Parts[i]
   rw[qx] at cM
   have hW:W ((t:Int)+(((nestPts P.Parts[i].Nest).1.length*P.Parts[i].Body.length:Nat):Int))=((t+(nestPts P.Parts[i].Nest).1.length*P.Parts[i].Body.length:Nat):Int):=by
    rw[tV (by omega) (by omega)];omega
   simp only[xu,bT,bF,xt,yz,hW]
   rw[ih (i+1) _ (by omega) (by omega),lA,qx,AB]
theorem specValidP(P:zH)(h:BG P):uH P=some (validP P):=by
 obtain⟨h1,h2,h3⟩:=h;unfold uH validP progB;rw[specArrays _ h1];cases ha:arrB P.Arrays with
 | false=>simp
 | true=>
  by_cases h4:P.Parts.length<=4
  ·have e:¬((P.Parts.length:Int)>4):=by omega
   have hl:=zIh P h4 h3 (RVa.of h1 ha) _ 0 0 (yv _) (by simp);rw[nZ,yv] at hl;simp only[bT,bF,xt,e,dF,oP,oB,oS,hl,h4,dT,yz];cases hA:(List.range' 0 P.Parts.length).all λi=>partB P.Arrays (gP P i) with
   | false=>simp
   | true=>
    simp only[xu,progI,yz]
    congr 1
    simp;omega
  ·have e:((P.Parts.length:Int)>4):=by omega
   simp[e,h4]
end Go.LN
