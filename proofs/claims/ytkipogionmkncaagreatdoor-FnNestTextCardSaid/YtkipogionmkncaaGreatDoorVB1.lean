/- Helper of the proof (see the last text). -/
import Derived.Test.YtkipogionmkncaaGreatDoorQT
import Derived.Test.YtkipogionmkncaaGreatDoorHM8
import Derived.Test.YtkipogionmkncaaGreatDoorQZ
set_option linter.unusedVariables false
set_option linter.unusedSimpArgs false
namespace Go.LN
theorem oS{α β:Type}(x:α)(f:α->Option β):(some x).bind f=f x:=rfl
theorem oB{α β:Type}(x:Option α)(f:α->Option β):(x>>=f)=x.bind f:=rfl
theorem oP{α:Type}(x:α):(pure x:Option α)=some x:=rfl
theorem bF:(false=true)=False:=by simp
theorem gC{α:Type}{l:List α}{i:Nat}(h:i<l.length):l.drop i=l[i]::l.drop (i+1):=cm h
theorem dT(h:Decidable True):decide True=true:=by simp
theorem dF(h:Decidable False):decide False=false:=by simp
theorem gM{α:Type}{l:List α}{i:Nat}(h:i<l.length):l[i]∈l:=List.getElem_mem h
theorem nZ:((0:Nat):Int)=0:=rfl
theorem dN{α:Type}{l:List α}{i:Nat}:l.drop i=[]↔l.length<=i:=ck
theorem bA(a b:Bool):((a&&b)=true)=(a=true/\b=true):=bX a b
theorem bT:(!true)=false:=rfl
theorem lA{α:Type}{a b:List α}:(a++b).length=a.length+b.length:=ca
theorem lM{α β:Type}{l:List α}(f:α->β):(l.map f).length=l.length:=ce f
theorem qJ{s:Str}{f i:Nat}(hf:f<=i)(hi:i<=s.l.length):sslc s (f:Int) (i:Int)=some ⟨(s.l.take i).drop f⟩:=by
 unfold sslc slc;rw[if_pos (by omega)];simp
theorem qR{α:Type}{b:Nat}{l k:List α}(h:(l.length+k.length)*b<=140737488355328):app b l k=some (l++k):=by
 unfold app;rw[if_pos h]
theorem zAe(a b:UInt8):((a.toNat:Int)==(b.toNat:Int))=decide (a=b):=by
 by_cases h:a=b
 ·subst h;simp
 ·rw[decide_eq_false h];exact beq_false_of_ne (λe=>h (UInt8.toNat_inj.1 (by omega)))
theorem rR(a:UInt8)(n:Nat)(hn:n<256):((a.toNat:Int)==(n:Int))=decide (a=UInt8.ofNat n):=by
 have:=zAe a (UInt8.ofNat n);rwa[UInt8.toNat_ofNat_of_lt' (by exact hn)] at this
theorem zDo{f:Int->Option Bool}{p:Int->Bool}(s:List Int)(hf:∀x∈s,f x=some (p x))(hs:s.length<=9223372036854775806):∀j k,k+j=s.length ->
 yM s f (k:Int)=some (match (s.drop k).findIdx? p with|some i=>.ret (((k+i:Nat)):Int)|none=>.done ()):=by
 intro j
 induction j with
 | zero=>
  intro k hk
  rw[yM]
  have:¬((k:Int)<(s.length:Int)):=by omega
  simp[this,dN.2 (show s.length<=k by omega)]
 | succ j ih=>
  intro k hk
  rw[yM]
  have av:k<s.length:=by omega
  have:((k:Int)<(s.length:Int)):=by omega
  simp only[this,dT,if_true,rH,bW av,oB,oS,hf _ (gM av)]
  rw[gC av,List.findIdx?_cons]
  cases hp:p s[k] with
  | true=>simp
  | false=>
   simp only[bF,if_false]
   rw[rD (by omega),ih (k+1) (by omega)]
   cases hx:List.findIdx? p (List.drop (k+1) s) with
   | none=>simp
   | some i=>simp;omega
theorem zBd{f:Int->Option Bool}{p:Int->Bool}(s:List Int)(hf:∀x∈s,f x=some (p x))(hs:s.length<=9223372036854775806):xB s f=some (s.any p):=by
 unfold xB vQ;have:=zDo s hf hs s.length 0 (by omega);rw[cN] at this;simp only[nZ,oB] at this ⊢;rw[this];cases h:List.findIdx? p s with
 | none=>
  have:s.any p=false:=by simpa using List.findIdx?_eq_none_iff.1 h
  simp[this]
 | some i=>
  have:s.any p=true:=by
   obtain⟨h1,h2⟩:=List.findIdx?_eq_some_iff_getElem.1 h;exact List.any_eq_true.2 ⟨s[i],gM h1,h2.1⟩
  simp[this]
def coefB(c:Int):Bool:=decide (-9<=c)&&decide (c<=9)
def constB(c:Int):Bool:=decide (-99<=c)&&decide (c<=99)
def validB(a:zA):Bool:=decide (a.Coefs.length=4)&&constB a.Const&&a.Coefs.all coefB
theorem fT(n lo hi:Int):tZ n lo hi=some (decide (lo<=n)&&decide (n<=hi)):=by
 unfold tZ;by_cases h:lo<=n <;> simp[h]
theorem implValid(a:zA)(h:a.Coefs.length<=1048576):uG a=some (validB a):=by
 unfold uG validB qE;have e:((a.Coefs.length:Int)==4)=decide (a.Coefs.length=4):=by
  by_cases h4:a.Coefs.length=4
  ·simp[h4]
  ·have:¬(a.Coefs.length:Int)=4:=by omega
   simp[h4,this]
 rw[fT,e];by_cases h4:a.Coefs.length=4
 ·have hc:xB a.Coefs wE=some (a.Coefs.any λc=>!coefB c):=by
   refine zBd _ (λx _=>?_) (by omega);unfold wE;rw[fT];rfl
  simp only[h4,dT,if_true,oB,oS,oP,id,hc,dm];rw[show (decide (-99<=a.Const)&&decide (a.Const<=99))=constB a.Const from rfl];cases hk:constB a.Const with
  | false=>simp
  | true=>
   simp only[if_true,oB,oS,dm];rw[List.not_any_eq_all_not];simp
 ·simp[h4]
theorem specWithin(n:Int)(k:Nat)(hk:k<=1000):wH n (k:Int)=some (decide (-(k:Int)<=n)&&decide (n<=k)):=by
 unfold wH;rw[tW (by omega) (by omega)];by_cases h:(-(k:Int))<=n
 ·have:n>=0 - (k:Int):=by omega
  simp[h,this]
 ·have:¬n>=0 - (k:Int):=by omega
  simp[h,this]
theorem zBB(a:zA)(h:a.Coefs.length<=1048576):∀j k,k+j=a.Coefs.length->yP a (k:Int)=some (if(a.Coefs.drop k).all coefB then .done () else .ret false):=by
 intro j
 induction j with
 | zero=>
  intro k hk;rw[yP];have:¬((k:Int)<(a.Coefs.length:Int)):=by omega
  simp[this,dN.2 (show a.Coefs.length<=k by omega)]
 | succ j ih=>
  intro k hk;rw[yP];have av:k<a.Coefs.length:=by omega
  have h1:((k:Int)<(a.Coefs.length:Int)):=by omega
  have hw:wH a.Coefs[k] 9=some (coefB a.Coefs[k]):=specWithin _ 9 (by omega);simp only[h1,dT,if_true,rH,bW av,oB,oS,hw];rw[gC av,cX];cases hp:coefB a.Coefs[k] with
  | false=>simp
  | true=>
   simp only[bT,bF,if_false,dm];rw[rD (by omega),ih (k+1) (by omega)]
theorem specValid(a:zA)(h:a.Coefs.length<=1048576):wF a=some (validB a):=by
 unfold wF validB;have e:((a.Coefs.length:Int)==4)=decide (a.Coefs.length=4):=by
  by_cases h4:a.Coefs.length=4
  ·simp[h4]
  ·have:¬(a.Coefs.length:Int)=4:=by omega
   simp[h4,this]
 have hl:=zBB a h _ 0 (cS _);have hw:wH a.Const 99=some (constB a.Const):=specWithin _ 99 (by omega);rw[cN,nZ] at hl;rw[hl,e,hw];by_cases hall:a.Coefs.all coefB=true
 ·simp only[hall,if_true,oB,oS];by_cases h4:a.Coefs.length=4 <;> simp[h4]
 ·simp only[hall,if_false,oB,oS];simp
theorem zBC{f:zA->Option Bool}{p:zA->Bool}(s:List zA)(hf:∀x∈s,f x=some (p x))(hs:s.length<=9223372036854775806):∀j k,k+j=s.length ->
 zS s f (k:Int)=some (match (s.drop k).findIdx? p with|some i=>.ret (((k+i:Nat)):Int)|none=>.done ()):=by
 intro j
 induction j with
 | zero=>
  intro k hk
  rw[zS]
  have:¬((k:Int)<(s.length:Int)):=by omega
  simp[this,dN.2 (show s.length<=k by omega)]
 | succ j ih=>
  intro k hk
  rw[zS]
  have av:k<s.length:=by omega
  have:((k:Int)<(s.length:Int)):=by omega
  simp only[this,dT,if_true,rH,bW av,oB,oS,hf _ (gM av)]
  rw[gC av,List.findIdx?_cons]
  cases hp:p s[k] with
  | true=>simp
  | false=>
   simp only[bF,if_false]
   rw[rD (by omega),ih (k+1) (by omega)]
   cases hx:List.findIdx? p (List.drop (k+1) s) with
   | none=>simp
   | some i=>simp;omega
theorem zBD{f:zA->Option Bool}{p:zA->Bool}(s:List zA)(hf:∀x∈s,f x=some (p x))(hs:s.length<=9223372036854775806):yF s f=some (s.any p):=by
 unfold yF yU;have:=zBC s hf hs s.length 0 (by omega);rw[cN] at this;simp only[nZ,oB] at this ⊢;rw[this];cases h:List.findIdx? p s with
 | none=>
  have:s.any p=false:=by simpa using List.findIdx?_eq_none_iff.1 h
  simp[this]
 | some i=>
  have:s.any p=true:=by
   obtain⟨h1,h2⟩:=List.findIdx?_eq_some_iff_getElem.1 h;exact List.any_eq_true.2 ⟨s[i],gM h1,h2.1⟩
  simp[this]
theorem zAF{n:Nat}{f:Int->Option (Out Unit Bool)}{P:Nat->Bool}(step:∀i,i<n->f (i:Int)=if P i then f ((i+1:Nat):Int) else some (.ret false))(fin:f (n:Int)=some (.done ())):f 0=some (if(List.range n).all P then .done () else .ret false):=by
 have key:∀j i,i+j=n->f (i:Int)=some (if(List.range' i j).all P then .done () else .ret false):=by
  intro j
  induction j with
  | zero=>intro i hi;rw[show i=n by omega,fin];rfl
  | succ j ih=>
   intro i hi;rw[step i (by omega),List.range'_succ,cX];cases hP:P i with
   | false=>simp
   | true=>simp only[if_true,dm];exact ih (i+1) (by omega)
 have:=key n 0 (by omega);rw[List.range_eq_range'];exact this
theorem zCz{α:Type}(l:List α)(P:α->Bool)(d:α):(List.range l.length).all (λi=>P (l.getD i d))=l.all P:=by
 rw[Bool.eq_iff_iff,cb,cb];constructor
 ·intro h x hx;obtain⟨i,hi,rfl⟩:=List.mem_iff_getElem.1 hx;have:=h i (cA.2 hi);simpa [hi] using this
 ·intro h i hi;have hi:=cA.1 hi;simp only[cH,bW hi,Option.getD_some];exact h _ (gM hi)
theorem wW{α:Type}{l:List α}{i:Nat}(h:i<l.length):idx l (i:Int)=some l[i]:=by rw[rH,bW h]
theorem rW{i:Nat}(h:i<9223372036854775807):W ((i:Int)+1)=((i+1:Nat):Int):=by rw[tW (by omega) (by omega)];omega
def depL:List Int->Nat->Nat->Nat
 | [],_,n=>n
 | c::C,i,n=>depL C (i+1) (if c=0 then n else i+1)
def depF(a:zA):Nat:=depL a.Coefs 0 0
theorem zBE(a:zA)(h:a.Coefs.length<=1048576):∀(j i n:Nat),i+j=a.Coefs.length->xQ a (n:Int) (i:Int)=some ((depL (a.Coefs.drop i) i n:Nat):Int):=by
 intro j
 induction j with
 | zero=>
  intro i n hi;rw[xQ];have:¬((i:Int)<(a.Coefs.length:Int)):=by omega
  simp only[this,dF,bF,if_false];rw[dN.2 (by omega)];rfl
 | succ j ih=>
  intro i n hi;rw[xQ];have av:i<a.Coefs.length:=by omega
  have h1:((i:Int)<(a.Coefs.length:Int)):=by omega
  simp only[h1,dT,if_true,wW av,oB,oS];rw[gC av,depL,rW (by omega)];by_cases h0:a.Coefs[i]=0
  ·simp only[h0,bne_self_eq_false,bF,if_false,if_true,oP,oS,id];exact ih (i+1) n (by omega)
  ·have hb:(a.Coefs[i] != 0)=true:=by simpa using h0
   simp only[hb,if_true,h0,if_false,oP,oS];exact ih (i+1) (i+1) (by omega)
theorem specDepth(a:zA)(h:a.Coefs.length<=1048576):tJ a=some ((depF a:Nat):Int):=by
 unfold tJ depF;have:=zBE a h _ 0 0 (cS _);rw[nZ,cN] at this;rw[this];rfl
theorem zBe:∀(C D:List Int) (i n:Nat),depL (C++D) i n=depL D (i+C.length) (depL C i n)
 | [],D,i,n=>rfl
 | c::C,D,i,n=>by rw[cO,depL,depL,zBe C D,cg,show i+1+C.length=i+(C.length+1) by omega]
theorem zBF(a:zA)(h:a.Coefs.length<=1048576):∀n,n<=a.Coefs.length->depL (a.Coefs.drop n) n n=n->∀m:Nat,(∀k,depL (a.Coefs.drop n) n k=k)->xS a (n:Int)=some ((depL (a.Coefs.take n) 0 0:Nat):Int):=by
 intro n
 induction n with
 | zero=>
  intro _ _ _ _;rw[xS];rfl
 | succ n ih=>
  intro hn h1 m hk;rw[xS];have h0:(((n+1:Nat):Int)>0):=by omega
  have av:n<a.Coefs.length:=by omega
  have hW:W (((n+1:Nat):Int) - 1)=(n:Int):=by rw[tW (by omega) (by omega)];omega
  simp only[h0,dT,if_true,hW,wW av,oB,oS,oP];rw[cU,bW av,Option.toList_some,zBe];by_cases hc:a.Coefs[n]=0
  ·simp only[hc,BEq.rfl,if_true,depL];have hk':∀k,depL (a.Coefs.drop n) n k=k:=λk=>by rw[gC av,depL,hc,if_pos rfl];exact hk k
   exact ih (by omega) (hk' n) 0 hk'
  ·have hb:(a.Coefs[n]==0)=false:=by simpa using hc
   simp only[hb,bF,if_false,depL,hc,id,ci];rw[show 0+min n a.Coefs.length+1=n+1 by omega]
theorem implDepth(a:zA)(h:a.Coefs.length<=1048576):tB a=some ((depF a:Nat):Int):=by
 unfold tB depF;have hd:∀k,depL (a.Coefs.drop a.Coefs.length) a.Coefs.length k=k:=λk=>by rw[List.drop_length];rfl
 have:=zBF a h a.Coefs.length (cw _) (hd _) 0 hd;rw[d8] at this;rw[this];rfl
def BA(a:zA):Prop:=a.Coefs.length<=1000
def BL(l:List zA):Prop:=l.length<=1000/\∀a∈l,BA a
def okA(ap:Int)(a:zA):Bool:=validB a&&decide ((depF a:Int)<=ap)
def sideB(l:List zA)(ap:Int):Bool:=(decide (1<=l.length)&&decide (l.length<=2))&&l.all (okA ap)
theorem implBound(a:zA)(h:BA a)(d:Int):wT a d=some (!(okA d a)):=by
 unfold wT okA;have h':a.Coefs.length<=1048576:=by unfold BA at h;omega
 rw[implValid a h',implDepth a h'];cases validB a with
 | false=>rfl
 | true=>
  by_cases hd:(depF a:Int)<=d
  ·have:¬((depF a:Int)>d):=by omega
   simp[hd,this]
  ·have:((depF a:Int)>d):=by omega
   simp[hd,this]
theorem implSide(l:List zA)(h:BL l)(d:Int):tR l d=some (sideB l d):=by
 unfold tR sideB;rw[fT];have e1:decide ((1:Int)<=(l.length:Int))=decide (1<=l.length):=by simp;omega
 have e2:decide ((l.length:Int)<=2)=decide (l.length<=2):=by simp;omega
 rw[e1,e2];have hc:=zBD (f:=λx0=>wT x0 d) (p:=λx=>!(okA d x)) l (λx hx=>implBound x (h.2 x hx) d) (by have:=h.1;omega);cases hb:(decide (1<=l.length)&&decide (l.length<=2)) with
 | false=>rfl
 | true=>
  simp only[oB,oS,if_true,hc,oP,id,dm];rw[List.not_any_eq_all_not];simp
theorem specSide(l:List zA)(h:BL l)(d:Int):sX l d=some (sideB l d):=by
 unfold sX sideB;have ar:=h.1;have hl:=zAF (n:=l.length) (f:=xV l d) (P:=λi=>okA d (l.getD i ⟨[],0⟩)) (λi hi=>by
  rw[xV];have h1:((i:Int)<(l.length:Int)):=by omega
  have ha:l[i].Coefs.length<=1048576:=by have:=h.2 _ (gM hi);unfold BA at this;omega
  have hg:l.getD i ⟨[],0⟩=l[i]:=by simp[hi]
  simp only[h1,dT,if_true,wW hi,oB,oS,specValid _ ha,specDepth _ ha,hg,okA];rw[rW (by omega)];cases validB l[i] with
  | false=>rfl
  | true=>
   by_cases hd:(depF l[i]:Int)<=d
   ·have:¬((depF l[i]:Int)>d):=by omega
    simp[hd,this]
   ·have:((depF l[i]:Int)>d):=by omega
    simp[hd,this]) (by
  rw[xV];simp)
 rw[hl,zCz l (okA d)];cases hb:l.all (okA d) with
 | false=>simp
 | true=>
  simp only[if_true,oB,oS,Bool.and_true];by_cases e1:1<=l.length
  ·have:((l.length:Int)>=1):=by omega
   have e2:decide ((l.length:Int)<=2)=decide (l.length<=2):=by simp;omega
   simp[this,e1,e2]
  ·have:¬((l.length:Int)>=1):=by omega
   simp[this,e1]
def BN(ae:List zB):Prop:=ae.length<=100000/\∀x∈ae,BL x.Lo/\BL x.Hi
def nestB(ae:List zB):Bool:=decide (ae.length<=4)&&(List.range ae.length).all λi=>sideB (ae.getD i ⟨[],[]⟩).Lo i&&sideB (ae.getD i ⟨[],[]⟩).Hi i
theorem implNest(ae:List zB)(h:BN ae):vH ae=some (nestB ae):=by
 unfold vH nestB;have ar:=h.1;have hl:=zAF (n:=ae.length) (f:=wP ae) (P:=λi=>sideB (ae.getD i ⟨[],[]⟩).Lo i&&sideB (ae.getD i ⟨[],[]⟩).Hi i) (λi hi=>by
  rw[wP];have h1:((i:Int)<(ae.length:Int)):=by omega
  have ha:=h.2 _ (gM hi);have hg:ae.getD i ⟨[],[]⟩=ae[i]:=by simp[hi]
  simp only[h1,dT,if_true,wW hi,oB,oS,implSide _ ha.1,implSide _ ha.2,hg];rw[rW (by omega)];cases sideB ae[i].Lo i with
  | false=>rfl
  | true=>cases sideB ae[i].Hi i <;> rfl) (by
  rw[wP];simp)
 rw[hl];have e2:decide ((ae.length:Int)<=4)=decide (ae.length<=4):=by simp;omega
 cases hb:(List.range ae.length).all λi=>sideB (ae.getD i ⟨[],[]⟩).Lo i&&sideB (ae.getD i ⟨[],[]⟩).Hi i with
 | false=>simp
 | true=>simp[e2]
theorem specNest(ae:List zB)(h:BN ae):uI ae=some (nestB ae):=by
 unfold uI nestB;have ar:=h.1;have e2:decide ((ae.length:Int)<=4)=decide (ae.length<=4):=by simp;omega
 by_cases h4:ae.length<=4
 ·have hl:=zAF (n:=ae.length) (f:=wA ae) (P:=λi=>sideB (ae.getD i ⟨[],[]⟩).Lo i&&sideB (ae.getD i ⟨[],[]⟩).Hi i) (λi hi=>by
   rw[wA];have h1:((i:Int)<(ae.length:Int)):=by omega
   have ha:=h.2 _ (gM hi);have hg:ae.getD i ⟨[],[]⟩=ae[i]:=by simp[hi]
   simp only[h1,e2,h4,dT,if_true,wW hi,oP,oB,oS,specSide _ ha.1,specSide _ ha.2,hg];rw[rW (by omega)];cases sideB ae[i].Lo i with
   | false=>rfl
   | true=>cases sideB ae[i].Hi i <;> rfl) (by
   rw[wA];simp)
  rw[hl,e2];cases hb:(List.range ae.length).all λi=>sideB (ae.getD i ⟨[],[]⟩).Lo i&&sideB (ae.getD i ⟨[],[]⟩).Hi i with
  | false=>simp
  | true=>simp
 ·rw[wA];by_cases h0:(0:Int)<(ae.length:Int) <;> simp[h0,e2,h4]
end Go.LN
namespace Go.LN
end Go.LN
namespace Go.LN
theorem zC7{b:Nat}(p:List Int)(h:p.length*b<=140737488355328):app b ([]:List Int) p=some p:=by
 rw[qR (by simpa using h)];rfl
end Go.LN
namespace Go.LN
def dimB(n:Int):Bool:=decide (1<=n)&&decide (n<=6)
end Go.LN
namespace Go.LN
theorem len0(n:Nat):((n:Int)==0)=decide (n=0):=by
 by_cases h:n=0
 ·simp[h]
 ·have:¬(n:Int)=0:=by omega
  simp[h]
def BE:Nat->zT->Prop
 | 0,e=>BA e.Index/\BL e.Read.Subs/\e.Kids=[]
 | n+1,e=>BA e.Index/\BL e.Read.Subs/\e.Kids.length<=1000/\∀k∈e.Kids,BE n k
theorem BE.own{n:Nat}{e:zT}(h:BE n e):BA e.Index/\BL e.Read.Subs/\e.Kids.length<=1000:=by
 cases n with
 | zero=>obtain⟨h1,h2,h3⟩:=h;exact⟨h1,h2,by simp[h3]⟩
 | succ n=>exact⟨h.1,h.2.1,h.2.2.1⟩
def BS(s:xE):Prop:=BL s.Write.Subs/\∃m,BE m s.Value
end Go.LN
namespace Go.LN
def szL:List Int->Int->Int
 | [],n=>n
 | d::l,n=>szL l (W (n*d))
def sizeF(a:zZ):Int:=szL a.Dims 1
def AV(a:uO):Prop:=a.Subs ≠ []/\a.Subs.length<=2/\∀s∈a.Subs,s.Coefs.length=4
end Go.LN
namespace Go.LN
end Go.LN
namespace Go.LN
def BP(x:yJ):Prop:=BN x.Nest/\x.Body.length<=100000/\∀s∈x.Body,BS s
end Go.LN
namespace Go.LN
theorem fU{α:Type}{l:List α}{f:Int->List α->Option (List α)}(step:∀(i:Nat) (h:i<l.length) (o:List α),o.length=i->f (i:Int) o=f ((i+1:Nat):Int) (o++[l[i]]))(fin:∀o,f (l.length:Int) o=some o):f 0 []=some l:=by
 have key:∀j i,i+j=l.length->f (i:Int) (l.take i)=some l:=by
  intro j
  induction j with
  | zero=>
   intro i hi;rw[show i=l.length by omega,fin,cv (cw _)]
  | succ j ih=>
   intro i hi;have av:i<l.length:=by omega
   have:=ih (i+1) (by omega);rw[cU,bW av,Option.toList_some] at this;rw[step i av _ (by rw[ci];omega)];exact this
 exact key _ 0 (cS _)
theorem copyNest(ae:List zB)(h:BN ae):rL ae=some ae:=by
 obtain⟨h1,h2⟩:=h;unfold rL;have hl:=fU (l:=ae) (f:=λi o=>wO ae o i) (λi hi o ho=>by
  show wO ae o (i:Int)=_;rw[wO];have k1:((i:Int)<(ae.length:Int)):=by omega
  obtain⟨⟨q1,q2⟩,q3,q4⟩:=h2 _ (gM hi);have happ:app 48 o [ae[i]]=some (o++[ae[i]]):=qR (by simp;omega);have hlo:=fU (l:=ae[i].Lo) (f:=λk o=>wM ae (i:Int) k o) (λk hk o ho=>by
   show wM ae (i:Int) (k:Int) o=_;rw[wM];have k2:((k:Int)<(ae[i].Lo.length:Int)):=by omega
   have hp:app 32 o [ae[i].Lo[k]]=some (o++[ae[i].Lo[k]]):=qR (by simp;omega);have ha:=q2 _ (gM hk);have hpn:app 8 ([]:List Int) ae[i].Lo[k].Coefs=some ae[i].Lo[k].Coefs:=zC7 _ (by unfold BA at ha;omega);simp only[wW hi,k2,dT,if_true,wW hk,oB,oS,hpn,hp];rw[rW (by omega)]) (λo=>by
   show wM ae (i:Int) (ae[i].Lo.length:Int) o=_;rw[wM];simp[wW hi])
  have hhi:=fU (l:=ae[i].Hi) (f:=λk o=>wN ae (i:Int) k o) (λk hk o ho=>by
   show wN ae (i:Int) (k:Int) o=_;rw[wN];have k2:((k:Int)<(ae[i].Hi.length:Int)):=by omega
   have hp:app 32 o [ae[i].Hi[k]]=some (o++[ae[i].Hi[k]]):=qR (by simp;omega);have ha:=q4 _ (gM hk);have hpn:app 8 ([]:List Int) ae[i].Hi[k].Coefs=some ae[i].Hi[k].Coefs:=zC7 _ (by unfold BA at ha;omega);simp only[wW hi,k2,dT,if_true,wW hk,oB,oS,hpn,hp];rw[rW (by omega)]) (λo=>by
   show wN ae (i:Int) (ae[i].Hi.length:Int) o=_;rw[wN];simp[wW hi])
  simp only[k1,dT,if_true,oB,oS,hlo,hhi,happ];rw[rW (by omega)]) (λo=>by
  show wO ae o (ae.length:Int)=_;rw[wO];simp)
 rw[hl];rfl
end Go.LN
namespace Go.LN
theorem BE.up1:∀{n:Nat}{e:zT},BE n e->BE (n+1) e
 | 0,e,⟨h1,h2,h3⟩=>⟨h1,h2,by rw[h3];simp,by rw[h3];intro k hk;cases hk⟩
 | n+1,e,⟨h1,h2,h3,h4⟩=>⟨h1,h2,h3,λk hk=>BE.up1 (h4 k hk)⟩
theorem BE.up{n m:Nat}{e:zT}(h:BE n e)(hm:n<=m):BE m e:=by
 obtain⟨k,rfl⟩:=Nat.exists_eq_add_of_le hm
 induction k with
 | zero=>exact h
 | succ k ih=>exact BE.up1 (ih (by omega))
def QL(q:Nat)(l:List zA):Prop:=l.length<=q/\∀a∈l,BA a
def QN(q:Nat)(ae:List zB):Prop:=ae.length<=2000/\∀x∈ae,QL q x.Lo/\QL q x.Hi
def QS(q:Nat)(s:xE):Prop:=QL q s.Write.Subs/\BA s.Value.Index/\BL s.Value.Read.Subs/\s.Value.Kids.length<=q/\∀k∈s.Value.Kids,BE 6 k
theorem QL.up{q r:Nat}{l:List zA}(h:QL q l)(hq:q<=r):QL r l:=⟨cQ h.1 hq,h.2⟩
theorem QL.bl{q:Nat}{l:List zA}(h:QL q l)(hq:q<=1000):BL l:=⟨cQ h.1 hq,h.2⟩
theorem QL.app{q k:Nat}{l m:List zA}(h:QL q l)(hm:QL k m):QL (q+k) (l++m):=by
 refine⟨by rw[lA];exact Nat.add_le_add h.1 hm.1,λa ha=>?_⟩;rcases cC.1 ha with ha|ha
 ·exact h.2 a ha
 ·exact hm.2 a ha
theorem QL.nil{q:Nat}:QL q []:=⟨eg _,λ_ h=>by cases h⟩
theorem QL.one{a:zA}(h:BA a):QL 1 [a]:=⟨cw _,λ_ h'=>co.1 h' ▸ h⟩
theorem QL.two{a b:zA}(h:BA a)(h2:BA b):QL 2 [a,b]:=QL.app (QL.one h) (QL.one h2)
theorem QN.up{q r:Nat}{l:List zB}(h:QN q l)(hq:q<=r):QN r l:=⟨h.1,λx hx=>⟨(h.2 x hx).1.up hq,(h.2 x hx).2.up hq⟩⟩
theorem QN.bn{q:Nat}{l:List zB}(h:QN q l)(hq:q<=1000):BN l:=⟨by have:=h.1;omega,λx hx=>⟨(h.2 x hx).1.bl hq,(h.2 x hx).2.bl hq⟩⟩
theorem QN.set{q:Nat}{l:List zB}(h:QN q l){x:zB}(hx:QL q x.Lo/\QL q x.Hi)(k:Nat):QN q (l.set k x):=⟨by rw[cR];exact h.1,zBA h.2 hx k⟩
theorem QS.up{q r:Nat}{s:xE}(h:QS q s)(hq:q<=r):QS r s:=⟨h.1.up hq,h.2.1,h.2.2.1,cQ h.2.2.2.1 hq,h.2.2.2.2⟩
theorem QS.bs{q:Nat}{s:xE}(h:QS q s)(hq:q<=1000):BS s:=⟨h.1.bl hq,7,h.2.1,h.2.2.1,by have:=h.2.2.2.1;omega,h.2.2.2.2⟩
theorem zC8{a:zA}(h:a.Coefs.length=4):BA a:=by unfold BA;omega
theorem zC9(q:Nat):∀(j:Nat) (ak:List zB),5<=ak.length+j->1<=ak.length->QN q ak->Ok (vE ak) (QN q)
 | 0,ak,hj,h1,h=>by
  rw[vE]
  refine Ok.ite_dec (λhc=>absurd hc (by omega)) λ_=>Ok.pure h
 | j+1,ak,hj,h1,h=>by
  rw[vE]
  refine Ok.ite_dec (λhc=>?_) λ_=>Ok.pure h
  refine Ok.idx (by omega) (by omega) λx hx _=>Ok.app (by simp;omega) ?_
  refine zC9 q j _ (by rw[lA];simp;omega) (by rw[lA];omega) ⟨by rw[lA];simp;omega,λy hy=>?_⟩
  rcases cC.1 hy with hy|hy
  ·exact h.2 y hy
  ·rw[co.1 hy];exact h.2 x hx
theorem mut2(q:Nat)(hq:q<=300)(r:zH)(ae:List zB)(h:QN q ae)(h0:0<=r.p)(h1:r.p<=900000000):Ok (sT r ae) (λy=>QN (q+2) y.1/\0<=y.2.p/\y.2.p<=r.p+2):=by
 have hup:=h.up (show q<=q+2 by omega);unfold sT;rw[copyNest ae (h.bn (by omega))];refine Ok.bind_some (Ok.ite_beq (λ_=>Ok.pure ⟨hup,h0,by dsimp only;omega⟩) λhne=>?_);have hpos:0<ae.length:=by omega
 have ar:=h.1;have hW:W ((ae.length:Int) - 1)=((ae.length - 1:Nat):Int):=by rw[tW (by omega) (by omega)];omega
 refine Ok.call (sV r 40) ⟨h0,by omega⟩ λy2 s g1 g2 g3=>?_;refine Ok.ite_beq (λ_=>?_) λ_=>Ok.ite_beq (λ_=>?_) λ_=>Ok.ite_beq (λ_=>?_) λ_=>Ok.ite_beq (λ_=>?_) λ_=>Ok.ite_beq (λ_=>?_) λ_=>?_
 ·refine Ok.idx (by omega) (by omega) λx hx _=>Ok.call (sV s 2) ⟨by omega,by omega⟩ λy5 s2 k1 k2 k3=>Ok.call (fR y5) ⟨k1,by omega⟩ λa c1 c2=>?_;have hxx:=h.2 x hx;refine Ok.app (by have:=hxx.1.1;simp;omega) (Ok.pure ⟨QN.set (x:=⟨x.Lo++[a],x.Hi⟩) hup ⟨(hxx.1.app (QL.one (zC8 c1))).up (show q+1<=q+2 by omega),hxx.2.up (show q<=q+2 by omega)⟩ _,by dsimp only;omega,by dsimp only;omega⟩)
 ·rw[hW];refine Ok.idx (by omega) (by omega) λx hx _=>?_;have hxx:=h.2 x hx;exact Ok.pure ⟨QN.set (x:=⟨x.Lo,[]⟩) hup ⟨hxx.1.up (show q<=q+2 by omega),QL.nil⟩ _,by dsimp only;omega,by dsimp only;omega⟩
 ·rw[hW];refine Ok.idx (by omega) (by omega) λx hx _=>Ok.call (vL 1) trivial (Ok.call (vL 2) trivial ?_);have hxx:=h.2 x hx;exact Ok.app (by have:=hxx.2.1;simp;omega) (Ok.pure ⟨QN.set (x:=⟨x.Lo,x.Hi++[⟨[0,0,0,0],1⟩,⟨[0,0,0,0],2⟩]⟩) hup ⟨hxx.1.up (show q<=q+2 by omega),hxx.2.app (QL.two (zC8 rfl) (zC8 rfl))⟩ _,by dsimp only;omega,by dsimp only;omega⟩)
 ·refine Ok.call (vL 99) trivial (Ok.idx (by omega) (by omega) λx hx _=>?_);have hxx:=h.2 x hx;exact Ok.pure ⟨QN.set (x:=⟨x.Lo,[⟨[0,0,0,0],99⟩]⟩) hup ⟨hxx.1.up (show q<=q+2 by omega),(QL.one (zC8 rfl)).up (show 1<=q+2 by omega)⟩ _,by dsimp only;omega,by dsimp only;omega⟩
 ·refine Ok.bind (zC9 q 5 ae (by omega) hpos h) λz hz=>Ok.pure ⟨hz.up (by omega),by dsimp only;omega,by dsimp only;omega⟩
 ·exact Ok.pure ⟨hup,by dsimp only;omega,by dsimp only;omega⟩
end Go.LN
namespace Go.LN
def PB(l:List yJ):Prop:=l.length<=1000/\∀x∈l,BP x
theorem PB.set{l:List yJ}(h:PB l){x:yJ}(hx:BP x)(k:Nat):PB (l.set k x):=⟨by rw[cR];exact h.1,zBA h.2 hx k⟩
theorem SE.be:∀{n:Nat}{e:zT},SE n e->BE n e
 | 0,e,⟨h1,h2,h3⟩=>⟨by have:=h1.1;unfold BA;omega,⟨by have:=h2.2.1;omega,λa ha=>by have:=(h2.2.2 a ha).1;unfold BA;omega⟩,h3⟩
 | n+1,e,⟨h1,h2,h3,h4⟩=>⟨by have:=h1.1;unfold BA;omega,⟨by have:=h2.2.1;omega,λa ha=>by have:=(h2.2.2 a ha).1;unfold BA;omega⟩,by omega,λk hk=>SE.be (h4 k hk)⟩
theorem SS.qs{s:xE}(h:SS s):QS 100 s:=by
 obtain⟨h1,h2⟩:=h;have hb:=SE.be h2;exact⟨⟨h1.2.1,λa ha=>by have:=(h1.2.2 a ha).1;unfold BA;omega⟩,hb.1,hb.2.1,by have:=h2.2.2.1;omega,λk hk=>BE.up (n:=4) (m:=6) (hb.2.2.2 k hk) (by omega)⟩
theorem LL.ql{l:List zA}(h:LL l):QL 100 l:=⟨h.1,λa ha=>by have:=(h.2 a ha).1;unfold BA;omega⟩
end Go.LN
namespace Go.LN
end Go.LN
namespace Go.LN
def DA(x:zZ):Prop:=(∃d,x.Dims=[d]/\1<=d/\d<=6)∨∃d e,x.Dims=[d,e]/\(1<=d/\d<=6)/\1<=e/\e<=6
def GA(l:List zZ):Prop:=l.length<=4/\(∀x∈l,DA x)/\l.Pairwise λx y=>x.Name.l ≠ y.Name.l
theorem mul36{d e:Int}(h1:1<=d)(h2:d<=6)(h3:1<=e)(h4:e<=6):1<=d*e/\d*e<=36:=by
 have:d=1∨d=2∨d=3∨d=4∨d=5∨d=6:=by omega
 rcases this with rfl|rfl|rfl|rfl|rfl|rfl <;> omega
theorem zEx{x:zZ}{d:Int}(h:x.Dims=[d])(h1:1<=d)(h2:d<=6):sizeF x=d:=by
 unfold sizeF;rw[h,szL,szL,Int.one_mul,tW (by omega) (by omega)]
theorem zEy{x:zZ}{d e:Int}(h:x.Dims=[d,e])(h1:1<=d)(h2:d<=6)(h3:1<=e)(h4:e<=6):sizeF x=d*e:=by
 unfold sizeF;have:=mul36 h1 h2 h3 h4;rw[h,szL,szL,szL,Int.one_mul,tW (x:=d) (by omega) (by omega),tW (by omega) (by omega)]
theorem DA.size{x:zZ}(h:DA x):1<=sizeF x/\sizeF x<=36:=by
 rcases h with⟨d,h,h1,h2⟩|⟨d,e,h,⟨h1,h2⟩,h3,h4⟩
 ·rw[zEx h h1 h2];omega
 ·rw[zEy h h1 h2 h3 h4];exact mul36 h1 h2 h3 h4
def nm(l:List zZ)(i:Nat):Nat:=match (l.getD i ⟨⟨[]⟩,[]⟩).Name.l with|c::_=>c.toNat|[]=>0
end Go.LN
namespace Go.LN
end Go.LN
namespace Go.LN
end Go.LN
namespace Go.LN
def c0(n:Int):zA:=⟨[0,0,0,0],n⟩
end Go.LN
namespace Go.LN
end Go.LN
namespace Go.LN
end Go.LN
namespace Go.LN
def Ch{α:Type}(R:α->α->Prop):List α->Prop
 | a::b::l=>R a b/\Ch R (b::l)
 | _=>True
theorem Ch.append{α:Type}{R:α->α->Prop}:∀{l m:List α},Ch R l->Ch R m->(∀a∈l,∀b∈m,R a b)->Ch R (l++m)
 | [],m,_,h2,_=>h2
 | [a],[],_,_,_=>trivial
 | [a],b::m,_,h2,h=>⟨h a (bZ ..) b (bZ ..),h2⟩
 | a::b::l,m,h1,h2,h=>⟨h1.1,Ch.append (l:=b::l) h1.2 h2 λx hx=>h x (bY _ hx)⟩
theorem Ch.flat{α β:Type}{R:β->β->Prop}{f:α->List β}:∀{l:List α},(∀x∈l,Ch R (f x))->(l.Pairwise λx y=>∀a∈f x,∀b∈f y,R a b)->Ch R (l.flatMap f)
 | [],_,_=>trivial
 | x::l,h1,h2=>by
  rw[cd]
  have h2':=List.pairwise_cons.1 h2
  refine Ch.append (h1 x (bZ ..)) (Ch.flat (λy hy=>h1 y (bY _ hy)) h2'.2) λa ha b hb=>?_
  obtain⟨y,hy,hb⟩:=cu.1 hb
  exact h2'.1 y hy a ha b hb
end Go.LN
namespace Go.LN
end Go.LN
namespace Go.LN
end Go.LN
namespace Go.LN
end Go.LN
namespace Go.LN
end Go.LN
namespace Go.LN
end Go.LN
namespace Go.LN
end Go.LN
namespace Go.LN
end Go.LN
namespace Go.LN
end Go.LN
namespace Go.LN
end Go.LN
namespace Go.LN
end Go.LN
namespace Go.LN
end Go.LN
namespace Go.LN
end Go.LN
namespace Go.LN
end Go.LN
namespace Go.LN
end Go.LN
namespace Go.LN
theorem AV.bl{a:uO}(h:AV a):BL a.Subs:=⟨by have:=h.2.1;omega,λs hs=>by have:=h.2.2 s hs;unfold BA;omega⟩
end Go.LN
namespace Go.LN
end Go.LN
namespace Go.LN
def eqL{α:Type}(q:α->α->Bool):List α->List α->Bool
 | [],[]=>true
 | x::a,y::b=>q x y&&eqL q a b
 | _,_=>false
theorem zBG{α:Type}{a b:List α}(hl:a.length=b.length){q:α->α->Bool}{f:Int->Option (Out Unit Bool)}(step:∀(i:Nat) (h1:i<a.length) (h2:i<b.length),f (i:Int)=if q a[i] b[i] then f ((i+1:Nat):Int) else some (.ret false))(fin:f (a.length:Int)=some (.done ())):f 0=some (if eqL q a b then .done () else .ret false):=by
 have key:∀(j i:Nat),i+j=a.length->f (i:Int)=some (if eqL q (a.drop i) (b.drop i) then .done () else .ret false):=by
  intro j
  induction j with
  | zero=>
   intro i hi;rw[show i=a.length by omega,fin,dN.2 (cw a.length),dN.2 (show b.length<=a.length by omega)];rfl
  | succ j ih=>
   intro i hi;have h1:i<a.length:=by omega
   have h2:i<b.length:=by omega
   rw[step i h1 h2,ih (i+1) (by omega),gC h1,gC h2,eqL];cases q a[i] b[i] <;> rfl
 have:=key a.length 0 (cS _);rwa[nZ,cN,cN] at this
theorem dB{α:Type}{q:α->α->Bool}:∀{a b:List α},a.length ≠ b.length->eqL q a b=false
 | [],[],h=>absurd rfl h
 | [],_::_,_=>rfl
 | _::_,[],_=>rfl
 | x::a,y::b,h=>by rw[eqL,dB (by simpa using h),Bool.and_false]
def eqI(a b:List Int):Bool:=eqL (λx y=>x==y) a b
theorem implEqI(a b:List Int)(h:a.length<=1048576):vU a b=some (eqI a b):=by
 unfold vU eqI;by_cases hl:a.length=b.length
 ·have hf:=zBG (q:=λx y=>x==y) hl (f:=xD a b) (λi h1 h2=>by
   rw[xD];have c:((i:Int)<(a.length:Int)):=by omega
   simp only[c,dT,if_true,wW h1,wW h2,oB,oS,oP];rw[rW (by omega)];by_cases e:a[i]=b[i]
   ·simp[e]
   ·simp[e]) (by rw[xD];simp)
  have e:((a.length:Int) != (b.length:Int))=false:=by simp[hl]
  rw[hf,e];cases eqL (λx y=>x==y) a b <;> rfl
 ·have e:((a.length:Int) != (b.length:Int))=true:=by simp;omega
  rw[e,dB hl];rfl
def afB(x y:zA):Bool:=eqI x.Coefs y.Coefs&&x.Const==y.Const
theorem implAff(x y:zA)(h:x.Coefs.length<=1048576):yX x y=some (afB x y):=by
 unfold yX afB;rw[implEqI _ _ h];cases eqI x.Coefs y.Coefs <;> rfl
end Go.LN
namespace Go.LN
end Go.LN
namespace Go.LN
theorem GA.ne{l:List zZ}(hg:GA l){i j:Nat}(hi:i<l.length)(hj:j<l.length)(h:i ≠ j):l[i].Name.l ≠ l[j].Name.l:=by
 have hp:=List.pairwise_iff_getElem.1 hg.2.2;rcases Nat.lt_or_gt_of_ne h with k|k
 ·exact hp i j hi hj k
 ·exact(hp j i hj hi k).symm
theorem GA.set{l:List zZ}(hg:GA l){k:Nat}(hk:k<l.length){y:zZ}(hn:y.Name.l=l[k].Name.l)(hy:DA y):GA (l.set k y):=by
 refine⟨by rw[cR];exact hg.1,zBA hg.2.1 hy k,List.pairwise_iff_getElem.2 λi j hi hj hij=>?_⟩;rw[cR] at hi hj;rw[List.getElem_set,List.getElem_set];by_cases h1:k=i
 ·rw[if_pos h1,if_neg (by omega),hn];exact hg.ne hk hj (by omega)
 ·rw[if_neg h1];by_cases h2:k=j
  ·rw[if_pos h2,hn];exact hg.ne hi hk (by omega)
  ·rw[if_neg h2];exact hg.ne hi hj (by omega)
theorem DA.arr{x:zZ}(h:DA x):(1<=x.Dims.length/\x.Dims.length<=2)/\x.Dims.all dimB=true:=by
 rcases h with⟨d,h,k1,k2⟩|⟨d,e,h,⟨k1,k2⟩,k3,k4⟩
 ·rw[h];simp[dimB,k1,k2]
 ·rw[h];simp[dimB,k1,k2,k3,k4]
end Go.LN
namespace Go.LN
def leD:List Int->List Int->Prop
 | [],[]=>True
 | x::xs,y::ys=>x<=y/\leD xs ys
 | [],_::_=>False
 | _::_,[]=>False
theorem leD.refl:∀d:List Int,leD d d
 | []=>trivial
 | x::d=>⟨Int.le_refl _,leD.refl d⟩
theorem leD.trans:∀{a b c:List Int},leD a b->leD b c->leD a c
 | [],[],[],_,_=>trivial
 | x::a,y::b,z::c,h,k=>⟨Int.le_trans h.1 k.1,leD.trans h.2 k.2⟩
theorem leD.len:∀{a b:List Int},leD a b->a.length=b.length
 | [],[],_=>rfl
 | x::a,y::b,h=>by rw[cg,cg,h.2.len]
end Go.LN
namespace Go.LN
end Go.LN
namespace Go.LN
theorem gQ{α:Type}{q:α->α->Bool}(hq:∀x y,q x y=true↔x=y):∀{a b:List α},eqL q a b=true↔a=b
 | [],[]=>by simp[eqL]
 | [],_::_=>by simp[eqL]
 | _::_,[]=>by simp[eqL]
 | x::a,y::b=>by rw[eqL,bA,hq,gQ hq,List.cons.injEq]
theorem zEZ{a b:List Int}:eqI a b=true↔a=b:=gQ (λx y=>by simp)
theorem zCa(x y:zA):afB x y=true↔x=y:=by
 cases x;cases y
 unfold afB;rw[bA,zEZ];simp
def lpB(x y:zB):Bool:=eqL afB x.Lo y.Lo&&eqL afB x.Hi y.Hi
theorem zE0(x y:zB):lpB x y=true↔x=y:=by
 cases x;cases y
 unfold lpB;rw[bA,gQ zCa,gQ zCa];simp
theorem zE1{a b:List zB}:eqL lpB a b=true↔a=b:=gQ zE0
theorem implSd(a b:List zA)(ha:BL a):zM a b yX=some (eqL afB a b):=by
 have hb:=ha.1;unfold zM;by_cases hl:a.length=b.length
 ·have hf:=zBG (q:=afB) hl (f:=zI a b yX) (λi h1 h2=>by
   rw[zI];have c:((i:Int)<(a.length:Int)):=by omega
   have hc:=ha.2 _ (gM h1);simp only[c,dT,if_true,wW h1,wW h2,implAff _ _ (show a[i].Coefs.length<=1048576 by unfold BA at hc;omega),oB,oS,oP];rw[rW (by omega)];cases afB a[i] b[i] <;> rfl) (by rw[zI];simp)
  have e:((a.length:Int) != (b.length:Int))=false:=by simp[hl]
  rw[hf,e];cases eqL afB a b <;> rfl
 ·have e:((a.length:Int) != (b.length:Int))=true:=by simp;omega
  rw[e,dB hl];rfl
theorem implNs(a b:List zB)(ha:BN a):tT a b=some (eqL lpB a b):=by
 have hb:=ha.1;unfold tT zY;by_cases hl:a.length=b.length
 ·have hf:=zBG (q:=lpB) hl (f:=zK a b wU) (λi h1 h2=>by
   rw[zK];have c:((i:Int)<(a.length:Int)):=by omega
   have hc:=ha.2 _ (gM h1);have e:wU a[i] b[i]=some (lpB a[i] b[i]):=by
    unfold wU lpB;rw[implSd _ _ hc.1,implSd _ _ hc.2];cases eqL afB a[i].Lo b[i].Lo <;> rfl
   simp only[c,dT,if_true,wW h1,wW h2,e,oB,oS,oP];rw[rW (by omega)];cases lpB a[i] b[i] <;> rfl) (by rw[zK];simp)
  have e:((a.length:Int) != (b.length:Int))=false:=by simp[hl]
  rw[hf,e];cases eqL lpB a b <;> rfl
 ·have e:((a.length:Int) != (b.length:Int))=true:=by simp;omega
  rw[e,dB hl];rfl
end Go.LN
namespace Go.LN
open Lib (itoa decDigits)
theorem gR{u:Nat}(h:u<10):decDigits u=[UInt8.ofNat (48+u)]:=by rw[decDigits];simp[h]
theorem zBH{u:Nat}(h:¬u<10):decDigits u=decDigits (u / 10)++[UInt8.ofNat (48+u % 10)]:=by rw[decDigits];simp[h]
theorem zAG(d:Nat)(h:d<10):u8 (W (48+(d:Int)))=UInt8.ofNat (48+d):=by
 rw[tW (by omega) (by omega)];unfold u8;rw[wraps_u8 _ (by omega) (by omega)]
 congr 1
def dtx(n:Nat):List UInt8:=if n<10 then[UInt8.ofNat (48+n)] else[UInt8.ofNat (48+n / 10),UInt8.ofNat (48+n % 10)]
theorem zEz{n:Nat}(h:n<=99):decDigits n=dtx n:=by
 unfold dtx;by_cases h1:n<10
 ·rw[if_pos h1,gR h1]
 ·rw[if_neg h1,zBH h1,gR (by omega)];rfl
theorem qK(n:Nat):1<=(dtx n).length/\(dtx n).length<=2:=by unfold dtx;split <;> simp
theorem zAH(n:Nat)(h:n<=99):xW (n:Int)=some ⟨dtx n⟩:=by
 rw[xW];have h1:¬((n:Int) < -9223372036854775807):=by omega
 have h2:¬((n:Int)<0):=by omega
 simp only[h1,h2,decide_false,bV,if_false];rw[wL];by_cases h10:n<10
 ·have:¬((n:Int)>9):=by omega
  simp only[this,decide_false,bV,if_false,Option.bind_eq_bind,Option.bind_some,Option.pure_def];rw[zAG _ h10,sP (by simp)];simp[dtx,h10]
 ·have h9:((n:Int)>9):=by omega
  have hm:((n:Int).tmod 10)=((n % 10:Nat):Int):=by rw[Int.tmod_eq_emod_of_nonneg (by omega)];omega
  have hd:((n:Int).tdiv 10)=((n / 10:Nat):Int):=by rw[dr (by omega)];omega
  simp only[h9,decide_true,if_true,hm,hd];rw[zAG _ (Nat.mod_lt _ (by omega)),tW (by omega) (by omega),sP (by simp)];simp only[Option.bind_eq_bind,Option.bind_some];rw[wL];have:¬(((n / 10:Nat):Int)>9):=by omega
  simp only[this,decide_false,bV,if_false,Option.bind_some,Option.pure_def];rw[zAG _ (by omega),sP (by simp)];simp[dtx,h10]
theorem zAf(n:Nat)(h:n<=99):sI (n:Int)=some ⟨dtx n⟩:=by
 unfold sI;rw[if_pos (by omega),Lib.itoa_nonneg,zEz h]
def sgn(c:Int):UInt8:=if c<0 then 45 else 43
def bodyV(k:Nat)(i:Nat):List UInt8:=if k=1 then[UInt8.ofNat (105+i)] else dtx k++[42,UInt8.ofNat (105+i)]
def T0:List Int->Nat->List UInt8
 | [],_=>[]
 | c::cs,i=>(if c=0 then[] else sgn c::bodyV c.natAbs i)++T0 cs (i+1)
def TK(c:Int):List UInt8:=if c=0 then[] else sgn c::dtx c.natAbs
def raw(a:zA):List UInt8:=T0 a.Coefs 0++TK a.Const
def strip(l:List UInt8):List UInt8:=match l with|[]=>[]|b::r=>if b=43 then r else b::r
def tx(a:zA):List UInt8:=if raw a=[] then[48] else strip (raw a)
theorem nC(k i:Nat):1<=(bodyV k i).length/\(bodyV k i).length<=4:=by
 have:=qK k;unfold bodyV;split <;> simp <;> omega
theorem fV:∀(cs:List Int) (i:Nat),(T0 cs i).length<=5*cs.length
 | [],_=>by simp[T0]
 | c::cs,i=>by
  have h1:=nC c.natAbs i
  have h2:=fV cs (i+1)
  unfold T0
  by_cases h:c=0 <;> simp[h] <;> omega
theorem zBI(c:Int):(TK c).length<=3:=by
 have:=qK c.natAbs;unfold TK;split <;> simp;omega
theorem zAI(i:Nat)(hi:i<4):sslc (⟨[105,106,107,108]⟩:Str) (i:Int) ((i+1:Nat):Int)=some ⟨[UInt8.ofNat (105+i)]⟩:=by
 rw[qJ (by omega) (by simp;omega)]
 match i,hi with
 | 0,_|1,_|2,_|3,_=>rfl
theorem zDA(c:Int)(hc:c ≠ 0)(h:constB c=true):wX c ⟨[]⟩=some ⟨sgn c::dtx c.natAbs⟩:=by
 simp only[constB,bX,decide_eq_true_eq] at h;unfold wX sgn;have hl:=qK c.natAbs;by_cases h0:c<0
 ·have e:W (0 - c)=((c.natAbs:Nat):Int):=by rw[tW (by omega) (by omega)];omega
  simp only[h0,decide_true,if_true,Option.bind_eq_bind,Option.bind_some,Option.pure_def,e,zAH _ (show c.natAbs<=99 by omega)];simp only[BEq.rfl,if_true];rw[sP (by simp;omega)];rfl
 ·have e:c=((c.natAbs:Nat):Int):=by omega
  simp only[h0,decide_false,bV,if_false,Option.bind_eq_bind,Option.bind_some,Option.pure_def];have:=zAH c.natAbs (by omega);rw[<- e] at this;simp only[BEq.rfl,if_true,this,Option.bind_some];rw[sP (by simp;omega)];rfl
theorem zBf(c:Int)(hc:c ≠ 0)(h:coefB c=true)(i:Nat):wX c ⟨[UInt8.ofNat (105+i)]⟩=some ⟨sgn c::bodyV c.natAbs i⟩:=by
 simp only[coefB,bX,decide_eq_true_eq] at h;unfold wX sgn bodyV;have hl:=qK c.natAbs;have key:∀(n:Nat) (sg:UInt8),1<=n->n<=9->(if(([UInt8.ofNat (105+i)]:List UInt8)==[])=true then(do
  let y<-xW (n:Int)
  let s<-cat ⟨[sg]⟩ y
  pure (id s))
  else if((n:Int)==1)=true then(do
   let s1<-cat ⟨[sg]⟩ ⟨[UInt8.ofNat (105+i)]⟩
   pure (id s1))
  else(do
   let y1<-xW (n:Int)
   let s2<-cat ⟨[sg]⟩ y1
   let s3<-cat s2 ⟨[42]⟩
   let s4<-cat s3 ⟨[UInt8.ofNat (105+i)]⟩
   pure (id s4)):Option Str)=some ⟨sg::(if n=1 then[UInt8.ofNat (105+i)] else dtx n++[42,UInt8.ofNat (105+i)])⟩:=by
  intro n sg h1 h9;have hl:=qK n;have hne:(([UInt8.ofNat (105+i)]:List UInt8)==[])=false:=rfl;rw[hne];simp only[bV,if_false];by_cases hn:n=1
  ·subst hn;simp only[Int.natCast_one,BEq.rfl,if_true,Option.bind_eq_bind,Option.bind_some,Option.pure_def];rw[sP (by simp)];rfl
  ·have:((n:Int)==1)=false:=by simp;omega
   simp only[this,bV,if_false,hn,zAH n (by omega),Option.bind_eq_bind,Option.bind_some,Option.pure_def];rw[sP (by simp;omega)];simp only[Option.bind_some];rw[sP (by simp;omega)];simp only[Option.bind_some];rw[sP (by simp;omega)];simp
 by_cases h0:c<0
 ·have e:W (0 - c)=((c.natAbs:Nat):Int):=by rw[tW (by omega) (by omega)];omega
  simp only[h0,decide_true,if_true,e];exact key c.natAbs 45 (by omega) (by omega)
 ·have e:c=((c.natAbs:Nat):Int):=by omega
  simp only[h0,decide_false,bV,if_false];have:=key c.natAbs 43 (by omega) (by omega);rw[<- e] at this;exact this
theorem zBJ(a:zA)(ha:validB a=true):∀j k (ak:Str),k+j=4->ak.l.length<=100*k->xX a ak (k:Int)=some ⟨ak.l++T0 (a.Coefs.drop k) k⟩:=by
 simp only[validB,bX,decide_eq_true_eq] at ha;obtain⟨⟨h4,hk⟩,hall⟩:=ha;intro j
 induction j with
 | zero=>
  intro k ak hk ho;rw[xX];have:¬((k:Int)<(a.Coefs.length:Int)):=by omega
  simp[this,ck.2 (show a.Coefs.length<=k by omega),T0]
 | succ j ih=>
  intro k ak hk ho;rw[xX];have av:k<a.Coefs.length:=by omega
  have h1:((k:Int)<(a.Coefs.length:Int)):=by omega
  have hc:=cb.1 hall _ (List.getElem_mem av);simp only[h1,decide_true,if_true,rH,bW av,Option.bind_eq_bind,Option.bind_some];rw[rD (by omega),zAI k (by omega),cm av,T0];generalize a.Coefs[k]=c at hc;by_cases h0:c=0
  ·subst h0;simp only[bne_self_eq_false,bV,if_false,Option.pure_def,Option.bind_some,id,if_true,cx];exact ih (k+1) ak (by omega) (by omega)
  ·have hb:(c != 0)=true:=by simpa using h0
   have hl:=nC c.natAbs k;simp only[hb,if_true,Option.bind_some,zBf c h0 hc k,h0,if_false];rw[sP (by simp;omega)];simp only[Option.bind_some,Option.pure_def,id];rw[ih (k+1) _ (by omega) (by simp;omega)];simp
theorem zBK:∀(cs:List Int) (i:Nat),T0 cs i=[]∨∃s r,T0 cs i=s::r/\(s=43∨s=45)/\r ≠ []
 | [],_=>.inl rfl
 | c::cs,i=>by
  unfold T0
  by_cases h:c=0
  ·simp only[h,if_true,cx];exact zBK cs (i+1)
  ·refine .inr ⟨sgn c,bodyV c.natAbs i++T0 cs (i+1),by simp[h],?_,?_⟩
   ·unfold sgn;split
    ·exact .inr rfl
    ·exact .inl rfl
   ·have:=nC c.natAbs i
    intro e
    rw[List.append_eq_nil_iff] at e
    rw[e.1] at this
    simp at this
theorem zE2(c:Int):TK c=[]∨∃s r,TK c=s::r/\(s=43∨s=45)/\r ≠ []:=by
 unfold TK;by_cases h:c=0
 ·exact .inl (by simp[h])
 ·refine .inr ⟨sgn c,dtx c.natAbs,by simp[h],?_,?_⟩
  ·unfold sgn;split
   ·exact .inr rfl
   ·exact .inl rfl
  ·have:=qK c.natAbs;intro e;rw[e] at this;simp at this
theorem zAg(a:zA)(ha:validB a=true):tF a=some ⟨tx a⟩:=by
 have hv:=ha;simp only[validB,bX,decide_eq_true_eq] at hv;obtain⟨⟨h4,hk⟩,hall⟩:=hv;unfold tF tx;have h1:=zBJ a ha 4 0 ⟨[]⟩ (by omega) (by simp);rw[cK,cN,cx] at h1;rw[h1];have ht:=fV a.Coefs 0;have hl2:=zBI a.Const;have e:(do
  if(a.Const != 0) then
   let y1<-wX a.Const (⟨[]⟩:Str)
   let s2<-cat ⟨T0 a.Coefs 0⟩ y1
   pure (id s2)
  else
   pure (id ⟨T0 a.Coefs 0⟩):Option Str)=some ⟨raw a⟩:=by
  unfold raw TK;by_cases h0:a.Const=0
  ·simp[h0]
  ·have hb:(a.Const != 0)=true:=by simpa using h0
   have hd:=qK a.Const.natAbs;simp only[hb,if_true,Option.bind_eq_bind,Option.bind_some,zDA _ h0 hk,h0,if_false];rw[sP (by simp;omega)];rfl
 simp only[Option.bind_eq_bind,Option.bind_some] at e ⊢;rw[e];simp only[Option.bind_some];have hraw:(raw a).length<=100:=by unfold raw;rw[ca];omega
 cases hr:raw a with
 | nil=>simp
 | cons b r=>
  have hne:((b::r:List UInt8)==[])=false:=rfl;rw[hr] at hraw;have hsl:sslc ⟨b::r⟩ 0 1=some ⟨[b]⟩:=by
   have:=qJ (s:=⟨b::r⟩) (f:=0) (i:=1) (by omega) (by simp);exact this.trans (by simp)
  have hsl2:sslc ⟨b::r⟩ 1 (((b::r).length:Nat):Int)=some ⟨r⟩:=by
   have:=qJ (s:=⟨b::r⟩) (f:=1) (i:=(b::r).length) (by simp) (by simp);exact this.trans (by simp)
  simp only[hne,bV,if_false,hsl,hsl2,Option.bind_some,reduceCtorEq,strip];by_cases hb:b=43
  ·subst hb;simp
  ·have:(([b]:List UInt8)==[43])=false:=by simpa using hb
   simp[this,hb]
theorem zAh(c:Int)(x:Str)(hx:x.l.length<=1000):vW c x=some ⟨x.l++(if c<0 then[45] else if x.l=[] then[] else[43])⟩:=by
 unfold vW;by_cases h:c<0
 ·simp only[h,decide_true,if_true,Option.bind_eq_bind,Option.bind_some,Option.pure_def];rw[sP (by simp;omega)];rfl
 ·simp only[h,decide_false,bV,if_false,Option.bind_eq_bind,Option.bind_some,Option.pure_def];cases hx0:x.l with
  | nil=>obtain⟨l⟩:=x;simp only at hx0;subst hx0;simp
  | cons b r=>
   have hne:((b::r:List UInt8)==[])=false:=rfl;rw[hne];simp only[cJ,if_true];rw[sP (by rw[hx0] at hx ⊢;simp at hx ⊢;omega)];simp[hx0]
theorem zCb(c:Int)(h:-100<=c/\c<=100):(if(W (0 - c))>c then(W (0 - c)) else c)=((c.natAbs:Nat):Int):=by
 rw[tW (by omega) (by omega)];split <;> omega
theorem zDB{A t:List UInt8}(h:A ≠ []):strip (A++t)=strip A++t:=by
 cases A with
 | nil=>exact absurd rfl h
 | cons b r=>simp only[cO,strip];split <;> rfl
theorem zAJ(A:List UInt8)(hA:A=[]∨strip A ≠ [])(c:Int)(body:List UInt8):strip (A++sgn c::body)=strip A++(if c<0 then[45] else if strip A=[] then[] else[43])++body:=by
 by_cases h:A=[]
 ·subst h;unfold sgn;by_cases hc:c<0 <;> simp[hc,strip]
 ·have hs:=hA.resolve_left h;rw[zDB h];unfold sgn;by_cases hc:c<0 <;> simp[hc,hs]
theorem zCc:∀(cs:List Int) (c:Int) (i:Nat),T0 (cs++[c]) i=T0 cs i++(if c=0 then[] else sgn c::bodyV c.natAbs (i+cs.length))
 | [],c,i=>by simp[T0]
 | d::cs,c,i=>by
  rw[cO,T0,zCc cs c (i+1),T0,cE,cg,show i+1+cs.length=i+(cs.length+1) by omega]
theorem zBg(cs:List Int)(i:Nat):T0 cs i=[]∨strip (T0 cs i) ≠ []:=by
 rcases zBK cs i with h|⟨s,r,h,_,hr⟩
 ·exact .inl h
 ·right;rw[h,strip];split
  ·exact hr
  ·simp
theorem fW(l:List UInt8):(strip l).length<=l.length:=by
 unfold strip;split
 ·simp
 ·split <;> simp
theorem zBL(a:zA)(ha:validB a=true):∀(j k:Nat),k+j=4->xR a (k:Int) ⟨strip (T0 (a.Coefs.take k) 0)⟩=some ⟨strip (T0 a.Coefs 0)⟩:=by
 simp only[validB,bX,decide_eq_true_eq] at ha;obtain⟨⟨h4,hk⟩,hall⟩:=ha;intro j
 induction j with
 | zero=>
  intro k hk;rw[xR];have:¬((k:Int)<(a.Coefs.length:Int)):=by omega
  simp[this,cv (show a.Coefs.length<=k by omega)]
 | succ j ih=>
  intro k hk;rw[xR];have av:k<a.Coefs.length:=by omega
  have h1:((k:Int)<(a.Coefs.length:Int)):=by omega
  have hc:=cb.1 hall _ (List.getElem_mem av);have hih:=ih (k+1) (by omega);rw[cU,bW av] at hih;simp only[Option.toList_some] at hih;rw[zCc] at hih;simp only[h1,decide_true,if_true,rH,bW av,Option.bind_eq_bind,Option.bind_some];have ar:(a.Coefs.take k).length=k:=by rw[ci];omega
  rw[ar,cS] at hih;have hst:=zBg (a.Coefs.take k) 0;have hT:=fV (a.Coefs.take k) 0;rw[ar] at hT;have hsl:=fW (T0 (a.Coefs.take k) 0);generalize T0 (a.Coefs.take k) 0=A at hst hT hsl hih ⊢;generalize a.Coefs[k]=c at hc hih ⊢;by_cases h0:c=0
  ·subst h0;simp only[BEq.rfl,if_true];rw[rD (by omega)];simpa using hih
  ·have hb:(c==0)=false:=by simpa using h0
   simp only[coefB,bX,decide_eq_true_eq] at hc;simp only[h0,if_false] at hih;rw[zAJ A hst] at hih;have bU:=nC c.natAbs k;have hds:=qK c.natAbs;simp only[hb,bV,if_false];rw[zAh c _ (by show (strip A).length<=1000;omega)];simp only[Option.bind_some];rw[rD (by omega),zAI k (by omega),zCb c (by omega)];generalize hX:strip A++(if c<0 then[45] else if strip A=[] then[] else[43])=X at hih ⊢;have hXl:X.length<=101:=by
    rw[<- hX,ca];split
    ·simp;omega
    ·split <;> simp <;> omega
   by_cases hn:c.natAbs=1
   ·have h9:¬(((c.natAbs:Nat):Int)>1):=by omega
    simp only[h9,decide_false,bV,if_false,Option.pure_def,Option.bind_some,id];rw[sP (by simp;omega)];simp only[Option.bind_some];rw[bodyV,if_pos hn] at hih;exact hih
   ·have h9:(((c.natAbs:Nat):Int)>1):=by omega
    simp only[h9,decide_true,if_true,zAf _ (show c.natAbs<=99 by omega),Option.bind_some];rw[sP (by simp;omega)];simp only[Option.bind_some];rw[sP (by simp;omega)];simp only[Option.pure_def,Option.bind_some,id];rw[sP (by simp;omega)];simp only[Option.bind_some];rw[bodyV,if_neg hn] at hih;simpa using hih
theorem zAi(a:zA)(ha:validB a=true):uT a=some ⟨tx a⟩:=by
 have hv:=ha;simp only[validB,bX,decide_eq_true_eq] at hv;obtain⟨⟨h4,hk⟩,hall⟩:=hv;unfold uT tx;have h1:=zBL a ha 4 0 (by omega);rw[cK,List.take_zero] at h1;rw[show (⟨[]⟩:Str)=⟨strip (T0 [] 0)⟩ from rfl,h1];have hT:=fV a.Coefs 0;have hst:=zBg a.Coefs 0;have hsl:=fW (T0 a.Coefs 0);simp only[Option.bind_eq_bind,Option.bind_some];unfold raw;generalize T0 a.Coefs 0=A at hT hst hsl ⊢;by_cases h0:a.Const=0
 ·have hb:(a.Const != 0)=false:=by simp[h0]
  simp only[hb,bV,if_false,Option.pure_def,Option.bind_some,id];rw[TK,if_pos h0,cG];by_cases hA:A=[]
  ·subst hA;rfl
  ·have hs:=hst.resolve_left hA;have:(strip A==([]:List UInt8))=false:=by simpa using hs
   simp only[this,bV,if_false,hA]
 ·have hb:(a.Const != 0)=true:=by simpa using h0
  simp only[constB,bX,decide_eq_true_eq] at hk;have hds:=qK a.Const.natAbs;simp only[hb,if_true];rw[zAh a.Const _ (by show (strip A).length<=1000;omega),zCb a.Const (by omega)];simp only[Option.bind_some,zAf _ (show a.Const.natAbs<=99 by omega)];have hss:=zAJ A hst a.Const (dtx a.Const.natAbs);generalize hX:strip A++(if a.Const<0 then[45] else if strip A=[] then[] else[43])=X at hss ⊢;have hXl:X.length<=101:=by
   rw[<- hX,ca];split
   ·simp;omega
   ·split <;> simp <;> omega
  rw[sP (by simp;omega)];simp only[Option.pure_def,Option.bind_some,id];have hne:(X++dtx a.Const.natAbs==([]:List UInt8))=false:=by
   have:X++dtx a.Const.natAbs ≠ []:=by
    intro e;rw[List.append_eq_nil_iff] at e;rw[e.2] at hds;simp at hds
   simpa using this
  simp only[hne,bV,if_false];rw[TK,if_neg h0,if_neg (by simp),hss]
end Go.LN
namespace Go.LN
open Lib (itoa decDigits)
def isSg(b:UInt8):Bool:=b==43||b==45
def nsg(b:UInt8):Bool:=!(isSg b)
def digs11:List UInt8:=[48,49,50,51,52,53,54,55,56,57,42]
def ijkl:List UInt8:=[105,106,107,108]
def cutEnd(s suf:List UInt8):List UInt8:=if suf.length<=s.length/\s.drop (s.length - suf.length)=suf then s.take (s.length - suf.length) else s
theorem kZ(s suf:Str)(h:s.l.length<=1048576):vK s suf=some ⟨cutEnd s.l suf.l⟩:=by
 obtain⟨s⟩:=s;obtain⟨u⟩:=suf;simp only at h;unfold vK M.internal_stringslite_TrimSuffix M.internal_stringslite_HasSuffix cutEnd;by_cases hl:u.length<=s.length
 ·have h1:((s.length:Int)>=(u.length:Int)):=by omega
  have hW:W ((s.length:Int) - (u.length:Int))=((s.length - u.length:Nat):Int):=by rw[tW (by omega) (by omega)];omega
  have h2:sslc ⟨s⟩ ((s.length - u.length:Nat):Int) (s.length:Int)=some ⟨s.drop (s.length - u.length)⟩:=by
   have:=qJ (s:=⟨s⟩) (f:=s.length - u.length) (i:=s.length) (by omega) (by simp);exact this.trans (by simp)
  have h3:sslc ⟨s⟩ 0 ((s.length - u.length:Nat):Int)=some ⟨s.take (s.length - u.length)⟩:=by
   have:=qJ (s:=⟨s⟩) (f:=0) (i:=s.length - u.length) (by omega) (by simp);exact this.trans (by simp)
  simp only[h1,decide_true,if_true,hW,h2,h3,Option.bind_eq_bind,Option.bind_some,Option.pure_def,id,hl,true_and];by_cases he:s.drop (s.length - u.length)=u
  ·simp[he]
  ·have:(s.drop (s.length - u.length)==u)=false:=by simpa using he
   simp only[this,he,bV,if_false];rfl
 ·have h1:¬((s.length:Int)>=(u.length:Int)):=by omega
  simp[h1,hl]
theorem jA:∀l:List UInt8,(Lib.indexAny l [43,45]=-1/\l.takeWhile nsg=l/\l.dropWhile nsg=[])∨(Lib.indexAny l [43,45]=((l.takeWhile nsg).length:Int)/\l.dropWhile nsg ≠ [])
 | []=>.inl ⟨rfl,rfl,rfl⟩
 | b::l=>by
  rw[Lib.indexAny,List.takeWhile_cons,List.dropWhile_cons]
  have hc:([43,45]:List UInt8).contains b=isSg b:=by
   by_cases h1:b=43 <;> by_cases h2:b=45 <;> simp[isSg,h1,h2]
  rw[hc]
  cases hb:isSg b with
  | true=>right;simp[nsg,hb]
  | false=>
   have hn:nsg b=true:=by simp[nsg,hb]
   simp only[bV,if_false,hn,if_true]
   rcases jA l with⟨h1,h2,h3⟩|⟨h1,h2⟩
   ·left;rw[h1,h2];exact⟨by simp,rfl,h3⟩
   ·right
    rw[h1]
    have:¬(((l.takeWhile nsg).length:Int) == -1)=true:=by simp
    rw[if_neg this]
    exact⟨by simp,h2⟩
def nameOf(body:List UInt8):List UInt8:=Lib.trimLeftS body digs11
def digOf(body:List UInt8):List UInt8:=cutEnd (cutEnd body (nameOf body)) [42]
def numOf(body:List UInt8):Option Int:=if digOf body=[] then some 1 else if(atoiM ⟨digOf body⟩).2||decide ((atoiM ⟨digOf body⟩).1>1000) then none else some (atoiM ⟨digOf body⟩).1
def signOf(rest:List UInt8):Int:=match rest with|[]=>1|b::_=>if b=45 then -1 else 1
def unsign(rest:List UInt8):List UInt8:=match rest with|[]=>[]|b::r=>if isSg b then r else b::r
theorem dC{a b:List UInt8}(h:asc (a++b)=true):asc a=true/\asc b=true:=by
 unfold asc at h ⊢;rw[ec,bX] at h;exact h
theorem zAK{r:List UInt8}(h:asc r=true):asc (unsign r)=true:=by
 unfold unsign;split
 ·rfl
 ·split
  ·have:asc ([_]++_)=true:=h;exact(dC this).2
  ·exact h
theorem zCQ(r:List UInt8):(unsign r).length<=r.length:=by
 unfold unsign;split
 ·simp
 ·split <;> simp
theorem zDp(b:UInt8):Lib.index ijkl [b]<=3:=by
 by_cases h1:b=105
 ·subst h1;decide
 by_cases h2:b=106
 ·subst h2;decide
 by_cases h3:b=107
 ·subst h3;decide
 by_cases h4:b=108
 ·subst h4;decide
 simp[ijkl,Lib.index,List.isPrefixOf,h1,h2,h3,h4]
theorem eV(nm:List UInt8)(h:nm.length=1):Lib.index ijkl nm<=3:=by
 match nm,h with
 | [b],_=>exact zDp b
theorem gstep(rest:List UInt8)(hne:rest ≠ [])(ha:asc rest=true)(hl:rest.length<=1000)(C:List Int)(K:Int)(x:zA)(hC:C.length=4):
 zP ⟨rest⟩ x C K=(match numOf ((unsign rest).takeWhile nsg) with
  | none=>some (.ret (⟨[],0⟩,false))
  | some n=>
   let nm:=nameOf ((unsign rest).takeWhile nsg)
   if nm=[] then zP ⟨(unsign rest).dropWhile nsg⟩ x C (W (K+W (signOf rest*n)))
   else if nm.length=1/\0<=Lib.index ijkl nm then zP ⟨(unsign rest).dropWhile nsg⟩ x (C.set (Lib.index ijkl nm).toNat (W (C.getD (Lib.index ijkl nm).toNat 0+W (signOf rest*n)))) K
   else some (.ret (⟨[],0⟩,false))):=by
 obtain⟨b,r,rfl⟩:∃b r,rest=b::r:=by cases rest with|nil=>exact absurd rfl hne|cons b r=>exact⟨b,r,rfl⟩
 have hub:∀s:List UInt8,tL ⟨s⟩ ⟨[48,49,50,51,52,53,54,55,56,57,42]⟩=some ⟨Lib.trimLeftS s digs11⟩:=λs=>by
  unfold tL
  rw[if_pos ⟨by simp,by decide⟩]
  rfl
 conv=>lhs;rw[zP]
 have h0:((b::r:List UInt8)==[])=false:=rfl
 have i0:sidx (⟨b::r⟩:Str) 0=some b:=rfl
 have k43:((b.toNat:Int)==43)=decide (b=43):=rR b 43 (by omega)
 have k45:((b.toNat:Int)==45)=decide (b=45):=rR b 45 (by omega)
 have hs1:sslc ⟨b::r⟩ 1 (((b::r).length:Nat):Int)=some ⟨r⟩:=by
  have:=qJ (s:=⟨b::r⟩) (f:=1) (i:=(b::r).length) (by simp) (by simp)
  exact this.trans (by simp)
 simp only[h0,cJ,if_true,i0,k43,k45,Option.bind_eq_bind,Option.bind_some,Option.pure_def,hs1]
 -- the sign
 have hsg:∀(f:Str×Int->Option (Out (zA×List Int×Int) (zA×Bool))),
  (Option.bind (if(decide (b=43))=true then some true else some (decide (b=45))) λt30=>
   Option.bind (if t30=true then Option.bind (if(decide (b=45))=true then some (-1) else some (id 1)) λby01=>some ((⟨r⟩:Str),by01) else some ((⟨b::r⟩:Str),(1:Int))) f)
  = f (⟨unsign (b::r)⟩,signOf (b::r)):=by
  intro f
  by_cases h43:b=43
  ·subst h43;rfl
  ·by_cases h45:b=45
   ·subst h45;rfl
   ·have:isSg b=false:=by simp[isSg,h43,h45]
    simp[h43,h45,unsign,signOf,this]
 have hul:=zCQ (b::r)
 have hua:=zAK ha
 rw[show (λ(t30:Bool)=>_)=_ from rfl]
 refine(hsg _).trans ?_
 generalize unsign (b::r)=u at hul hua ⊢
 generalize signOf (b::r)=sg
 have hix:tK ⟨u⟩ ⟨[43,45]⟩=some (Lib.indexAny u [43,45]):=by
  unfold tK
  rw[if_pos ⟨⟨by show u.length<_;omega,by simp⟩,hua,by decide⟩]
 have htd:u.takeWhile nsg++u.dropWhile nsg=u:=List.takeWhile_append_dropWhile
 have hend:(if(decide (Lib.indexAny u [43,45]<0))=true then some (u.length:Int) else some (id (Lib.indexAny u [43,45])))=some (((u.takeWhile nsg).length:Nat):Int):=by
  rcases jA u with⟨h1,h2,h3⟩|⟨h1,h2⟩
  ·rw[h1,h2];rfl
  ·rw[h1]
   have:¬(((u.takeWhile nsg).length:Int)<0):=by omega
   simp only[this,decide_false,bV,if_false,id]
 have hbl:(u.takeWhile nsg).length<=u.length:=by
  have:=congrArg List.length htd
  rw[ca] at this;omega
 have aG:sslc ⟨u⟩ 0 (((u.takeWhile nsg).length:Nat):Int)=some ⟨u.takeWhile nsg⟩:=by
  have:=qJ (s:=⟨u⟩) (f:=0) (i:=(u.takeWhile nsg).length) (by omega) hbl
  refine this.trans ?_
  rw[cN]
  conv=>lhs;arg 1;arg 1;arg 2;rw[show (⟨u⟩:Str).l=u from rfl,<- htd]
  rw[List.take_left' rfl]
 have aR:sslc ⟨u⟩ (((u.takeWhile nsg).length:Nat):Int) (u.length:Int)=some ⟨u.dropWhile nsg⟩:=by
  have:=qJ (s:=⟨u⟩) (f:=(u.takeWhile nsg).length) (i:=u.length) hbl (cw _)
  refine this.trans ?_
  rw[show (⟨u⟩:Str).l=u from rfl,d8]
  conv=>lhs;arg 1;arg 1;arg 2;rw[<- htd]
  rw[List.drop_left' rfl]
 simp only[hix,Option.bind_some,hend,aG,aR,hub]
 have hbl2:(u.takeWhile nsg).length<=1048576:=by omega
 generalize u.takeWhile nsg=body at hbl2 ⊢
 generalize u.dropWhile nsg=tail
 rw[kZ ⟨body⟩ _ hbl2]
 have hce:∀(s v:List UInt8),(cutEnd s v).length<=s.length:=λs v=>by unfold cutEnd;split <;> simp
 have hdl1:=hce body (nameOf body)
 have hdl2:=hce (cutEnd body (nameOf body)) [42]
 simp only[Option.bind_some]
 rw[kZ _ _ (by show (cutEnd body (Lib.trimLeftS body digs11)).length<=_;exact cQ hdl1 hbl2)]
 simp only[Option.bind_some]
 have hdd:cutEnd (cutEnd body (Lib.trimLeftS body digs11)) [42]=digOf body:=rfl
 have hnn:Lib.trimLeftS body digs11=nameOf body:=rfl
 rw[hdd,hnn]
 have hdl:(digOf body).length<=1048576:=by show (cutEnd (cutEnd body (nameOf body)) [42]).length<=_;omega
 have au:rE ⟨digOf body⟩=some (atoiM ⟨digOf body⟩):=by
  unfold rE
  rw[if_pos (by show (digOf body).length<=_;omega)]
 have hi2:tU ⟨[105,106,107,108]⟩ ⟨nameOf body⟩=some (Lib.index ijkl (nameOf body)):=by
  unfold tU
  rw[if_pos (by simp)]
  rfl
 -- the number
 have rest_eq:∀n:Int,(Option.bind (tU ⟨[105,106,107,108]⟩ ⟨nameOf body⟩) λy8=>
  Option.bind (if(nameOf body==([]:List UInt8))=true then some (Out.done (x,C,W (K+W (sg*n))))
   else Option.bind (if(((nameOf body).length:Int)==1)=true then some (decide (y8>=0)) else some false) λt82=>
    if t82=true then Option.bind (idx C y8) λx4=>Option.bind (idx C y8) λx5=>Option.bind (some (C.set y8.toNat (W (x4+W (sg*n))))) λl=>some (Out.done (x,l,K))
    else some (Out.ret ((⟨[],0⟩:zA),false)):Option (Out (zA×List Int×Int) (zA×Bool))) λo=>match o with
   | .ret r0=>some (Out.ret r0)
   | .done (x3,Coefs2,Const2)=>zP ⟨tail⟩ x3 Coefs2 Const2) =
  (if nameOf body=[] then zP ⟨tail⟩ x C (W (K+W (sg*n)))
   else if(nameOf body).length=1/\0<=Lib.index ijkl (nameOf body) then zP ⟨tail⟩ x (C.set (Lib.index ijkl (nameOf body)).toNat (W (C.getD (Lib.index ijkl (nameOf body)).toNat 0+W (sg*n)))) K
   else some (.ret (⟨[],0⟩,false))):=by
  intro n
  rw[hi2]
  simp only[Option.bind_some]
  by_cases hnm:nameOf body=[]
  ·have:(nameOf body==([]:List UInt8))=true:=by simp[hnm]
   rw[if_pos hnm]
   simp only[this,if_true,Option.bind_some]
  ·have:(nameOf body==([]:List UInt8))=false:=by simpa using hnm
   rw[if_neg hnm]
   simp only[this,bV,if_false]
   by_cases hln:(nameOf body).length=1
   ·have e1:(((nameOf body).length:Int)==1)=true:=by simp[hln]
    simp only[e1,if_true,Option.bind_some]
    by_cases hge:Lib.index ijkl (nameOf body)>=0
    ·have av:=eV _ hln
     have hge':0<=Lib.index ijkl (nameOf body):=hge
     have hx:idx C (Lib.index ijkl (nameOf body))=some (C.getD (Lib.index ijkl (nameOf body)).toNat 0):=by
      rw[zDd hge',cH,bW (by omega)]
      rfl
     have hcond:(nameOf body).length=1/\0<=Lib.index ijkl (nameOf body):=⟨hln,hge'⟩
     rw[if_pos hcond]
     simp only[hge,decide_true,if_true,hx,Option.bind_some]
    ·have hge':¬0<=Lib.index ijkl (nameOf body):=hge
     have hcond:¬((nameOf body).length=1/\0<=Lib.index ijkl (nameOf body)):=λh=>hge' h.2
     rw[if_neg hcond]
     simp only[hge,decide_false,bV,if_false,Option.bind_some]
   ·have e1:(((nameOf body).length:Int)==1)=false:=by simp;omega
    have hcond:¬((nameOf body).length=1/\0<=Lib.index ijkl (nameOf body)):=λh=>hln h.1
    rw[if_neg hcond]
    simp only[e1,bV,if_false,Option.bind_some]
 unfold numOf
 by_cases hd0:digOf body=[]
 ·have:(digOf body==([]:List UInt8))=true:=by simp[hd0]
  simp only[this,cP,bV,if_false,Option.bind_some,hd0,if_true]
  exact rest_eq 1
 ·have:(digOf body==([]:List UInt8))=false:=by simpa using hd0
  simp only[this,cJ,if_true,au,Option.bind_some,hd0,if_false]
  cases he:(atoiM ⟨digOf body⟩).2 with
  | true=>simp
  | false=>
   simp only[bV,if_false,Option.bind_some,ek]
   by_cases h1000:(atoiM ⟨digOf body⟩).1>1000
   ·simp[h1000]
   ·simp only[h1000,decide_false,bV,if_false,Option.bind_some]
    exact rest_eq _
end Go.LN
namespace Go.LN
open Lib (itoa decDigits)
theorem fX:∀(k:Fin 10) (i:Fin 4),1<=k.val->numOf (bodyV k.val i.val)=some (k.val:Int)/\nameOf (bodyV k.val i.val)=[UInt8.ofNat (105+i.val)]/\Lib.index ijkl [UInt8.ofNat (105+i.val)]=(i.val:Int)/\(bodyV k.val i.val).all nsg=true/\asc (bodyV k.val i.val)=true:=by decide +kernel
theorem zBM:∀(k:Fin 100),numOf (dtx k.val)=some (k.val:Int)/\nameOf (dtx k.val)=[]/\(dtx k.val).all nsg=true/\asc (dtx k.val)=true:=by decide +kernel
def Hd(t:List UInt8):Prop:=t=[]∨∃s r,t=s::r/\(s=43∨s=45)
theorem zAj{body t:List UInt8}(hb:body.all nsg=true)(ht:Hd t):(body++t).takeWhile nsg=body/\(body++t).dropWhile nsg=t:=by
 induction body with
 | nil=>
  rcases ht with rfl|⟨s,r,rfl,hs⟩
  ·exact⟨rfl,rfl⟩
  ·have:nsg s=false:=by rcases hs with rfl|rfl <;> rfl
   simp[this]
 | cons b body ih=>
  rw[cX,bX] at hb;obtain⟨i1,i2⟩:=ih hb.2;rw[cO,List.takeWhile_cons,List.dropWhile_cons,hb.1];simp[i1,i2]
theorem zFU(cs:List Int)(i:Nat)(k:Int):Hd (T0 cs i++TK k):=by
 rcases zBK cs i with h|⟨s,r,h,hs,_⟩
 ·rw[h,cx];rcases zE2 k with h|⟨s,r,h,hs,_⟩
  ·exact .inl h
  ·exact .inr ⟨s,r,h,hs⟩
 ·exact .inr ⟨s,r++TK k,by rw[h];rfl,hs⟩
theorem zCR:∀(cs:List Int) (i:Nat),(∀c∈cs,coefB c=true)->i+cs.length<=4->asc (T0 cs i)=true
 | [],_,_,_=>rfl
 | c::cs,i,h,hi=>by
  have h1:=h c (bZ ..)
  simp only[coefB,bX,decide_eq_true_eq] at h1
  simp only[cg] at hi
  have ih:=zCR cs (i+1) (λx hx=>h x (bY _ hx)) (by omega)
  unfold T0
  by_cases h0:c=0
  ·simpa [h0] using ih
  ·have hb:=(fX ⟨c.natAbs,by omega⟩ ⟨i,by omega⟩ (by show 1<=c.natAbs;omega)).2.2.2.2
   have hsg:asc [sgn c]=true:=by unfold sgn;split <;> rfl
   simp only[h0,if_false]
   unfold asc at hb ih hsg ⊢
   simp only[ec,cX,List.all_nil,Bool.and_true] at hsg ⊢
   simp only at hb
   rw[hsg,hb,ih];rfl
theorem zCS(k:Int)(h:constB k=true):asc (TK k)=true:=by
 simp only[constB,bX,decide_eq_true_eq] at h;unfold TK;split
 ·rfl
 ·have hb:=(zBM ⟨k.natAbs,by omega⟩).2.2.2;have hsg:asc [sgn k]=true:=by unfold sgn;split <;> rfl
  unfold asc at hb hsg ⊢;simp only[cX,List.all_nil,Bool.and_true] at hsg ⊢;simp only at hb;rw[hsg,hb];rfl
theorem nD{a b:List UInt8}(h1:asc a=true)(h2:asc b=true):asc (a++b)=true:=by
 unfold asc at *;rw[ec,h1,h2];rfl
theorem zDC{l:List UInt8}(h:asc l=true):asc (strip l)=true:=by
 unfold strip;split
 ·rfl
 ·split
  ·have:asc ([_]++_)=true:=h;exact(dC this).2
  ·exact h
theorem zDq{a:zA}(ha:validB a=true):asc (tx a)=true:=by
 simp only[validB,bX,decide_eq_true_eq] at ha;obtain⟨⟨h4,hk⟩,hall⟩:=ha;unfold tx;split
 ·rfl
 ·exact zDC (nD (zCR _ 0 (λc hc=>cb.1 hall c hc) (by omega)) (zCS _ hk))
theorem fY{a:zA}(ha:validB a=true):(tx a).length<=23:=by
 simp only[validB,bX,decide_eq_true_eq] at ha;have h1:=fV a.Coefs 0;have h2:=zBI a.Const;have h3:=fW (raw a);unfold tx;split
 ·simp
 ·unfold raw at h3 ⊢;rw[ca] at h3;omega
theorem nS(c:Int)(u:List UInt8):unsign (sgn c::u)=u/\signOf (sgn c::u)=if c<0 then -1 else 1:=by
 unfold sgn;by_cases h:c<0 <;> simp[h,unsign,signOf,isSg]
theorem gS(c:Int)(h:-100<=c/\c<=100):W (0+W ((if c<0 then -1 else 1)*((c.natAbs:Nat):Int)))=c:=by
 by_cases h0:c<0
 ·simp only[h0,if_true];rw[tW (x:=(-1)*((c.natAbs:Nat):Int)) (by omega) (by omega),tW (by omega) (by omega)];omega
 ·simp only[h0,if_false];rw[tW (x:=1*((c.natAbs:Nat):Int)) (by omega) (by omega),tW (by omega) (by omega)];omega
theorem qW(x:zA)(C:List Int)(K:Int):zP ⟨[]⟩ x C K=some (.done (x,C,K)):=by
 rw[zP];rfl
theorem zBh(x:zA)(k:Int)(hk:constB k=true):∀(cs pre:List Int),(∀c∈cs,coefB c=true)->pre.length+cs.length=4 ->
 zP ⟨T0 cs pre.length++TK k⟩ x (pre++List.replicate cs.length 0) 0=some (.done (x,pre++cs,k)):=by
 intro cs
 induction cs with
 | nil=>
  intro pre hc hl
  simp only[T0,cx,cF,List.replicate_zero,cG] at hl ⊢
  have hka:=zCS k hk
  have hkl:=zBI k
  simp only[constB,bX,decide_eq_true_eq] at hk
  by_cases h0:k=0
  ·subst h0
   exact qW _ _ _
  ·have e:TK k=sgn k::(dtx k.natAbs++[]):=by rw[TK,if_neg h0,cG]
   obtain⟨f1,f2,f3,f4⟩:=zBM ⟨k.natAbs,by omega⟩
   simp only at f1 f2 f3 f4
   obtain⟨t1,t2⟩:=zAj f3 (t:=[]) (.inl rfl)
   rw[gstep (TK k) (by rw[e];simp) hka (by omega) _ _ _ (by omega),e]
   rw[(nS k _).1,(nS k _).2,t1,t2,f1]
   simp only[f2,if_true]
   rw[qW,gS k (by omega)]
 | cons c cs ih=>
  intro pre hc hl
  have aG:=hc c (bZ ..)
  have aR:∀y∈cs,coefB y=true:=λy hy=>hc y (bY _ hy)
  have hasc:=nD (zCR (c::cs) pre.length hc (by omega)) (zCS k hk)
  have hlen1:=fV (c::cs) pre.length
  have hlen2:=zBI k
  simp only[coefB,bX,decide_eq_true_eq] at aG
  simp only[cg] at hl hlen1
  have ih':=ih (pre++[c]) aR (by simp;omega)
  rw[ca,List.length_singleton,cE,cE] at ih'
  by_cases h0:c=0
  ·subst h0
   simpa [T0,dh] using ih'
  ·have e:T0 (c::cs) pre.length++TK k=sgn c::(bodyV c.natAbs pre.length++(T0 cs (pre.length+1)++TK k)):=by
    rw[T0,if_neg h0,cE,cO]
   obtain⟨f1,f2,f3,f4,f5⟩:=fX ⟨c.natAbs,by omega⟩ ⟨pre.length,by omega⟩ (by show 1<=c.natAbs;omega)
   simp only at f1 f2 f3 f4
   obtain⟨t1,t2⟩:=zAj f4 (zFU cs (pre.length+1) k)
   rw[gstep (T0 (c::cs) pre.length++TK k) (by rw[e];simp) hasc (by rw[ca];omega) _ _ _ (by simp;omega),e]
   rw[(nS c _).1,(nS c _).2,t1,t2,f1]
   simp only[f2,f3]
   rw[if_neg (by simp),if_pos ⟨by simp,by omega⟩,d7]
   have hg:(pre++List.replicate (cs.length+1) (0:Int)).getD pre.length 0=0:=by
    rw[cH,dp (cw _),Nat.sub_self,dh];rfl
   have hset:(pre++List.replicate (cs.length+1) (0:Int)).set pre.length c=pre++([c]++List.replicate cs.length 0):=by
    rw[List.set_append_right _ _ (cw _),Nat.sub_self,dh];rfl
   rw[cg,hg,gS c (by omega),hset]
   exact ih'
theorem unplus(u:List UInt8)(hu:u ≠ [])(hh:unsign u=u)(hs:signOf u=1)(ha:asc u=true)(hl:u.length<=900)(x:zA)(C:List Int)(K:Int)(hC:C.length=4):
 zP ⟨u⟩ x C K=zP ⟨43::u⟩ x C K:=by
 have h43:asc (43::u)=true:=nD (a:=[43]) rfl ha
 rw[gstep u hu ha (by omega) C K x hC,gstep (43::u) (by simp) h43 (by simp;omega) C K x hC]
 have e1:unsign (43::u)=u:=rfl
 have e2:signOf (43::u)=1:=rfl
 rw[e1,e2,hh,hs]
theorem zDD(k:Nat)(b:List UInt8)(hb:b.all nsg=true)(hn:b ≠ [])(t:List UInt8):unsign (b++t)=b++t/\signOf (b++t)=1:=by
 cases b with
 | nil=>exact absurd rfl hn
 | cons c r=>
  rw[cX,bX] at hb;have h1:isSg c=false:=by have:=hb.1;unfold nsg at this;simpa using this
  have h2:c ≠ 45:=by rintro rfl;cases h1
  simp[unsign,signOf,h1,h2]
theorem zAk(a:zA)(ha:validB a=true):raw a=[]∨∃(c:Int) (b t:List UInt8),raw a=sgn c::(b++t)/\b.all nsg=true/\b ≠ []:=by
 simp only[validB,bX,decide_eq_true_eq] at ha;obtain⟨⟨h4,hk⟩,hall⟩:=ha;have key:∀(cs:List Int) (i:Nat),(∀c∈cs,coefB c=true)->i+cs.length=4->T0 cs i++TK a.Const=[]∨∃(c:Int) (b t:List UInt8),T0 cs i++TK a.Const=sgn c::(b++t)/\b.all nsg=true/\b ≠ []:=by
  intro cs
  induction cs with
  | nil=>
   intro i _ _;simp only[constB,bX,decide_eq_true_eq] at hk;simp only[T0,cx];by_cases h0:a.Const=0
   ·left;simp[TK,h0]
   ·obtain⟨f1,f2,f3,f4⟩:=zBM ⟨a.Const.natAbs,by omega⟩;have:=qK a.Const.natAbs;exact .inr ⟨a.Const,dtx a.Const.natAbs,[],by rw[TK,if_neg h0,cG],f3,by intro e;rw[e] at this;simp at this⟩
  | cons c cs ih=>
   intro i hc hi;have aG:=hc c (bZ ..);simp only[coefB,bX,decide_eq_true_eq] at aG;simp only[cg] at hi;by_cases h0:c=0
   ·rw[T0,if_pos h0,cx];exact ih (i+1) (λy hy=>hc y (bY _ hy)) (by omega)
   ·obtain⟨f1,f2,f3,f4,f5⟩:=fX ⟨c.natAbs,by omega⟩ ⟨i,by omega⟩ (by show 1<=c.natAbs;omega);have:=nC c.natAbs i;exact .inr ⟨c,bodyV c.natAbs i,T0 cs (i+1)++TK a.Const,by rw[T0,if_neg h0,cE,cO],f4,by intro e;rw[e] at this;simp at this⟩
 exact key a.Coefs 0 (λc hc=>cb.1 hall c hc) (by omega)
theorem zBN(a:zA)(ha:validB a=true)(x:zA):zP ⟨tx a⟩ x [0,0,0,0] 0=some (.done (x,a.Coefs,a.Const)):=by
 have hv:=ha;simp only[validB,bX,decide_eq_true_eq] at hv;obtain⟨⟨h4,hk⟩,hall⟩:=hv;have hval:=zBh x a.Const hk a.Coefs [] (λc hc=>cb.1 hall c hc) (by simp[h4]);simp only[cF,cx,h4] at hval;have al:List.replicate 4 (0:Int)=[0,0,0,0]:=rfl;rw[al] at hval;change zP ⟨raw a⟩ x [0,0,0,0] 0=_ at hval;have hta:=zDq ha;have htl:=fY ha;unfold tx at hta htl ⊢;rcases zAk a ha with h|⟨c,b,t,h,hb,hn⟩
 ·rw[h,qW] at hval;rw[if_pos h];have hg:=gstep [48] (by simp) rfl (by simp) [0,0,0,0] 0 x rfl;have f1:numOf ((unsign [48]).takeWhile nsg)=some 0:=by decide +kernel
  have f2:nameOf ((unsign [48]).takeWhile nsg)=[]:=by decide +kernel
  have f3:(unsign [48]).dropWhile nsg=[]:=by decide +kernel
  rw[hg,f1,f3];simp only[f2,if_true];rw[qW];rw[<- hval];rfl
 ·have hne:raw a ≠ []:=by rw[h];simp
  rw[if_neg hne] at hta htl ⊢;rw[h] at hval hta htl ⊢;unfold strip at hta htl ⊢;by_cases hc:c<0
  ·have e:sgn c=45:=by unfold sgn;rw[if_pos hc]
   rw[e] at hval hta htl ⊢;exact hval
  ·have e:sgn c=43:=by unfold sgn;rw[if_neg hc]
   rw[e] at hval hta htl ⊢;simp only[if_true] at hta htl ⊢;obtain⟨g1,g2⟩:=zDD 0 b hb hn t;rw[unplus (b++t) (by simp[hn]) g1 g2 hta (by omega) _ _ _ rfl];exact hval
theorem zE3(rest:List UInt8)(h:rest ≠ []):((unsign rest).dropWhile nsg).length<rest.length:=by
 cases rest with
 | nil=>exact absurd rfl h
 | cons b r=>
  have hd:∀l:List UInt8,(l.dropWhile nsg).length<=l.length:=λl=>(List.dropWhile_sublist _).length_le;by_cases hb:isSg b=true
  ·simp only[unsign,hb,if_true,cg];have:=hd r;omega
  ·have hn:nsg b=true:=by simp[nsg,hb]
   have hb':isSg b=false:=by simpa using hb
   simp only[unsign,hb',bV,if_false,List.dropWhile_cons,hn,if_true,cg];have:=hd r;omega
theorem zDr{l:List UInt8}(h:asc l=true):asc (l.dropWhile nsg)=true:=by
 have:=List.takeWhile_append_dropWhile (p:=nsg) (l:=l);rw[<- this] at h;exact(dC h).2
theorem zA5:∀(n:Nat) (rest:List UInt8) (x:zA) (C:List Int) (K:Int),rest.length<n->asc rest=true->rest.length<=1000->C.length=4 ->
 (zP ⟨rest⟩ x C K=some (.ret (⟨[],0⟩,false)))∨∃C' K',C'.length=4/\zP ⟨rest⟩ x C K=some (.done (x,C',K')):=by
 intro n
 induction n with
 | zero=>intro rest x C K h;omega
 | succ n ih=>
  intro rest x C K hn ha hl hC
  by_cases hne:rest=[]
  ·subst hne
   exact .inr ⟨C,K,hC,qW _ _ _⟩
  ·have av:=zE3 rest hne
   have had:=zDr (zAK ha)
   rw[gstep rest hne ha hl C K x hC]
   cases numOf ((unsign rest).takeWhile nsg) with
   | none=>exact .inl rfl
   | some v=>
    simp only
    split
    ·exact ih _ _ _ _ (by omega) had (by omega) hC
    ·split
     ·exact ih _ _ _ _ (by omega) had (by omega) (by rw[cR];exact hC)
     ·exact .inl rfl
def ResA(t:List UInt8)(r:zA×Bool):Prop:=(r.2=true/\validB r.1=true/\t=tx r.1)∨(r.2=false/\r.1=⟨[],0⟩/\∀a,validB a=true->t ≠ tx a)
theorem implParse(t:Str)(ha:asc t.l=true)(hl:t.l.length<=1048576):∃r,tM t=some r/\ResA t.l r:=by
 obtain⟨t⟩:=t;simp only at ha hl;unfold tM;have hcn:rO 0=some ⟨[0,0,0,0],0⟩:=rfl;simp only[hcn,Option.bind_eq_bind,Option.bind_some,Option.pure_def];by_cases h100:t.length>100
 ·have:((t.length:Nat):Int)>100:=by omega
  simp only[this,decide_true,if_true];exact⟨_,rfl,.inr ⟨rfl,rfl,λa hv e=>by have:=fY hv;rw[<- e] at this;omega⟩⟩
 ·have:¬((t.length:Nat):Int)>100:=by omega
  simp only[this,decide_false,bV,if_false];have hval:∀a,validB a=true->t=tx a->zP ⟨t⟩ ⟨[],0⟩ [0,0,0,0] 0=some (.done (⟨[],0⟩,a.Coefs,a.Const)):=by
   rintro a hv rfl;exact zBN a hv _
  rcases zA5 (t.length+1) t ⟨[],0⟩ [0,0,0,0] 0 (by omega) ha (by omega) rfl with h|⟨C,K,hC,h⟩
  ·rw[h];simp only[Option.bind_some];exact⟨_,rfl,.inr ⟨rfl,rfl,λa hv e=>by have:=hval a hv e;rw[h] at this;cases this⟩⟩
  ·rw[h];have hvl:=implValid ⟨C,K⟩ (by show C.length<=_;omega);simp only[Option.bind_some,hvl];have hne:∀a,validB a=true->t=tx a->a=⟨C,K⟩:=by
    intro a hv e;have:=hval a hv e;rw[h] at this;obtain⟨c,k⟩:=a;simp only[Option.some.injEq,Out.done.injEq,Prod.mk.injEq,true_and] at this;rw[this.1,this.2]
   cases hv:validB ⟨C,K⟩ with
   | false=>
    simp only[cJ,if_true,Option.bind_some];exact⟨_,rfl,.inr ⟨rfl,rfl,λa hva e=>by rw[hne a hva e,hv] at hva;cases hva⟩⟩
   | true=>
    simp only[cP,bV,if_false,zAi _ hv,Option.bind_some];cases he:tx ⟨C,K⟩==t with
    | true=>
     simp only[cP,bV,if_false];exact⟨_,rfl,.inl ⟨rfl,hv,(beq_iff_eq.1 he).symm⟩⟩
    | false=>
     simp only[cJ,if_true];exact⟨_,rfl,.inr ⟨rfl,rfl,λa hva e=>by rw[hne a hva e] at e;rw[e] at he;simp at he⟩⟩
end Go.LN
namespace Go.LN
open Lib (itoa decDigits)
def digs:List UInt8->Int->Option Int
 | [],n=>some n
 | b::l,n=>if(decide ((b.toNat:Int)<48)||decide ((b.toNat:Int)>57)) then none else digs l (W ((W (n*10))+(W (IntKind.u8.wrap ((b.toNat:Int) - 48)))))
theorem zE4(s:Str)(hs:s.l.length<=1048576):∀j i n,i+j=s.l.length ->
 xY s n (i:Int)=some (match digs (s.l.drop i) n with|none=>.ret (0,false)|some v=>.done v):=by
 intro j
 induction j with
 | zero=>
  intro i n hi
  rw[xY]
  have:¬((i:Int)<(s.l.length:Int)):=by omega
  simp only[this,decide_false,bV,if_false]
  rw[ck.2 (by omega)]
  rfl
 | succ j ih=>
  intro i n hi
  rw[xY]
  have av:i<s.l.length:=by omega
  have h1:((i:Int)<(s.l.length:Int)):=by omega
  simp only[h1,decide_true,if_true,sidx,rH,bW av,Option.pure_def,Option.bind_eq_bind,Option.bind_some]
  rw[cm av,digs]
  by_cases ha:(s.l[i].toNat:Int)<48
  ·simp[ha]
  ·by_cases hb:(s.l[i].toNat:Int)>57
   ·simp[ha,hb]
   ·simp only[ha,hb,decide_false,bV,if_false,Option.bind_some,Bool.or_self]
    rw[rD (by omega),ih (i+1) _ (by omega)]
def numU(s:List UInt8):Int×Bool:=
 if s.length=0∨s.length>17 then(0,false)
 else if(match s with|[]=>false|b::t=>decide (b=48)&&decide (t.length>0)) then(0,false)
 else match digs s 0 with
  | none=>(0,false)
  | some n=>(n,true)
theorem zFA(s:Str)(hs:s.l.length<=1048576)(hn:s.l.head? ≠ some 45):sD s=some (numU s.l):=by
 obtain⟨s⟩:=s;simp only at hs hn;unfold sD numU;cases s with
 | nil=>rfl
 | cons b t=>
  have h45:b ≠ 45:=by simpa using hn
  have k45:((b.toNat:Int)==45)=decide (b=45):=rR b 45 (by omega);have k48:((b.toNat:Int)==48)=decide (b=48):=rR b 48 (by omega);have h0:(((b::t).length:Nat):Int)>0:=by simp
  have hl:(((b::t).length:Int)==0)=false:=by simp;omega
  have i0:sidx (⟨b::t⟩:Str) 0=some b:=rfl;simp only[h0,decide_true,if_true,i0,k45,h45,decide_false,bV,if_false,id,hl,Option.pure_def,Option.bind_eq_bind,Option.bind_some];by_cases h17:(b::t).length>17
  ·have:(((b::t).length:Nat):Int)>17:=by omega
   rw[if_pos (Or.inr h17)];simp only[this,decide_true,if_true,Option.bind_some]
  ·have:¬(((b::t).length:Nat):Int)>17:=by omega
   have hor:¬((b::t).length=0∨(b::t).length>17):=by simp only[cg] at h17 ⊢;omega
   rw[if_neg hor];have hd:=zE4 ⟨b::t⟩ hs _ 0 0 (cS _);rw[cN,cK] at hd;simp only[this,decide_false,bV,if_false,k48,Option.bind_some];by_cases h48:b=48
   ·subst h48;by_cases ht:t.length>0
    ·have e1:(((((48:UInt8)::t).length:Nat):Int)>1):=by simp only[cg];omega
     simp only[e1,ht,decide_true,if_true,dm,Option.bind_some]
    ·have e1:¬(((((48:UInt8)::t).length:Nat):Int)>1):=by simp only[cg];omega
     simp only[e1,ht,decide_true,decide_false,if_true,bV,if_false,dm,Option.bind_some];rw[hd];cases digs (48::t) 0 <;> rfl
   ·simp only[h48,decide_false,bV,if_false,Bool.false_and,Option.bind_some];rw[hd];cases digs (b::t) 0 <;> rfl
def isDg(b:UInt8):Bool:=decide (48<=b.toNat)&&decide (b.toNat<=57)
def run:List UInt8->Nat->Nat
 | _,0=>0
 | [],_+1=>0
 | b::u,n+1=>if isDg b then 1+run u n else 0
theorem zCT:∀(u:List UInt8) (n:Nat),run u n<=n/\run u n<=u.length
 | u,0=>by cases u <;> simp[run]
 | [],n+1=>by simp[run]
 | b::u,n+1=>by
  have:=zCT u n
  rw[run]
  split
  ·simp;omega
  ·simp
theorem zFB(s:Str)(p:Nat)(hs:s.l.length<=1048576)(hp:p<=s.l.length):∀j i,i+j=2->p+i<=s.l.length->xI s (p:Int) ((p+i:Nat):Int)=some ((p+i+run (s.l.drop (p+i)) j:Nat):Int):=by
 intro j
 induction j with
 | zero=>
  intro i hi hl;rw[xI];have h2:¬(((p+i:Nat):Int)<W ((p:Int)+2)):=by rw[tW (by omega) (by omega)];omega
  have hr:run (s.l.drop (p+i)) 0=0:=by cases s.l.drop (p+i) <;> rfl
  rw[hr];by_cases h1:((p+i:Nat):Int)<(s.l.length:Int)
  ·simp only[h1,h2,decide_true,decide_false,if_true,bV,if_false,Option.pure_def,Option.bind_eq_bind,Option.bind_some,id];rfl
  ·simp only[h1,decide_false,bV,if_false,Option.pure_def,Option.bind_eq_bind,Option.bind_some,id];rfl
 | succ j ih=>
  intro i hi hl;rw[xI];have h2:(((p+i:Nat):Int)<W ((p:Int)+2)):=by rw[tW (by omega) (by omega)];omega
  by_cases h1:p+i<s.l.length
  ·have h1':((p+i:Nat):Int)<(s.l.length:Int):=by omega
   simp only[h1',h2,decide_true,if_true,sidx,rH,bW h1,Option.pure_def,Option.bind_eq_bind,Option.bind_some];rw[cm h1,run];unfold isDg;by_cases ha:(48:Nat)<=s.l[p+i].toNat
   ·have ha':((s.l[p+i].toNat:Int)>=48):=by omega
    by_cases hb:s.l[p+i].toNat<=57
    ·have hb':((s.l[p+i].toNat:Int)<=57):=by omega
     simp only[ha,ha',hb,hb',decide_true,if_true,Option.bind_some,Bool.and_self];rw[rD (by omega)];have:=ih (i+1) (by omega) (by omega);rw[show p+(i+1)=p+i+1 by omega] at this;rw[this]
     congr 2
     omega
    ·have hb':¬((s.l[p+i].toNat:Int)<=57):=by omega
     simp only[ha,ha',hb,hb',decide_true,decide_false,if_true,bV,if_false,Option.bind_some,Bool.and_false,id];rfl
   ·have ha':¬((s.l[p+i].toNat:Int)>=48):=by omega
    simp only[ha,ha',decide_false,bV,if_false,Option.bind_some,Bool.false_and,id];rfl
  ·have h1':¬((p+i:Nat):Int)<(s.l.length:Int):=by omega
   rw[ck.2 (by omega),run];simp only[h1',decide_false,bV,if_false,Option.pure_def,Option.bind_eq_bind,Option.bind_some,id];rfl
theorem zCd:∀(u:List UInt8) (n:Nat),(u.take (run u n)).all isDg=true
 | u,0=>by cases u <;> simp[run]
 | [],n+1=>by simp[run]
 | b::u,n+1=>by
  rw[run]
  split
  ·rename_i h
   rw[Nat.add_comm,List.take_succ_cons,cX,h,zCd u n];rfl
  ·simp
theorem zDs{l:List UInt8}(h:l.all isDg=true):l.head? ≠ some 45:=by
 cases l with
 | nil=>simp
 | cons b l=>
  rw[cX,bX] at h;rintro e;simp only[List.head?_cons,Option.some.injEq] at e;subst e;exact absurd h.1 (by decide)
theorem zDE(s:Str)(p:Nat)(hs:s.l.length<=1048576)(hp:p<=s.l.length):
 vX s (p:Int)=some (if(numU ((s.l.drop p).take (run (s.l.drop p) 2))).2 then((numU ((s.l.drop p).take (run (s.l.drop p) 2))).1,((p+run (s.l.drop p) 2:Nat):Int)) else(1,(p:Int))):=by
 unfold vX
 have h:=zFB s p hs hp 2 0 rfl (by omega)
 simp only[Nat.add_zero] at h
 have hr:=zCT (s.l.drop p) 2
 rw[cj] at hr
 have hsl:sslc s (p:Int) ((p+run (s.l.drop p) 2:Nat):Int)=some ⟨(s.l.drop p).take (run (s.l.drop p) 2)⟩:=by
  rw[qJ (by omega) (by omega),List.take_drop]
 have hnum:=zFA ⟨(s.l.drop p).take (run (s.l.drop p) 2)⟩ (by show (List.take _ _).length<=_;rw[ci,cj];omega) (zDs (zCd _ _))
 rw[h]
 simp only[Option.bind_eq_bind,Option.bind_some,hsl,hnum]
 cases (numU ((s.l.drop p).take (run (s.l.drop p) 2))).2 <;> rfl
def nmOf(u:List UInt8):Int:=match u with|[]=>-1|b::_=>if b.toNat<105∨b.toNat>108 then -1 else(b.toNat:Int) - 105
theorem zE5(s:Str)(p:Nat)(hp:p<=s.l.length):tG s (p:Int)=some (nmOf (s.l.drop p)):=by
 unfold tG;by_cases h:p=s.l.length
 ·have h1:((p:Int)>=(s.l.length:Int)):=by omega
  simp only[h1,decide_true,if_true,Option.pure_def,Option.bind_eq_bind,Option.bind_some];rw[ck.2 (by omega)];rfl
 ·have h1:¬((p:Int)>=(s.l.length:Int)):=by omega
  have av:p<s.l.length:=by omega
  simp only[h1,decide_false,bV,if_false,sidx,rH,bW av,Option.pure_def,Option.bind_eq_bind,Option.bind_some];rw[cm av,nmOf];have hb:=s.l[p].toNat_lt;by_cases ha:s.l[p].toNat<105
  ·have:((s.l[p].toNat:Int)<105):=by omega
   simp[ha,this]
  ·have ha':¬((s.l[p].toNat:Int)<105):=by omega
   by_cases hc:s.l[p].toNat>108
   ·have:((s.l[p].toNat:Int)>108):=by omega
    simp[ha',hc,this]
   ·have hc':¬((s.l[p].toNat:Int)>108):=by omega
    simp only[ha',hc',ha,hc,decide_false,bV,if_false,Option.bind_some,or_self];rw[tW (x:=(s.l[p].toNat:Int)) (by omega) (by omega),tW (by omega) (by omega)]
def dgt(u:List UInt8):Int×Nat:=if(numU (u.take (run u 2))).2 then((numU (u.take (run u 2))).1,run u 2) else(1,0)
def star(u:List UInt8):Nat:=if 0<(dgt u).2/\(u.drop (dgt u).2).head?=some 42 then(dgt u).2+1 else(dgt u).2
theorem zDt(u:List UInt8):(dgt u).2<=u.length:=by
 have:=zCT u 2;unfold dgt;split
 ·exact this.2
 ·exact eg _
theorem zE6(u:List UInt8):star u<=u.length:=by
 have:=zDt u;unfold star;split
 ·rename_i h;have:(u.drop (dgt u).2).length>0:=by
   cases hd:u.drop (dgt u).2 with
   | nil=>rw[hd] at h;cases h.2
   | cons b r=>simp
  rw[cj] at this;omega
 ·exact this
def sgo(u:List UInt8):Nat:=match u with|[]=>0|b::_=>if isSg b then 1 else 0
theorem zBO(a:zA)(s:Str)(hs:s.l.length<=1048576)(hC:a.Coefs.length=4)(sg:Int)(q:Nat)(ho:q<=s.l.length):
 (do
 let (y1,y2)<-vX s (q:Int)
 let t51<-(do
  if(decide (y2>(q:Int))) then
   if(decide (y2<(s.l.length:Int))) then
    let b5<-idx s.l y2
    pure ((b5.toNat:Int)==42)
   else
    pure false
  else
   pure false
    : Option Bool)
 let star<-(do
  if t51 then
   pure (W (y2+1))
  else
   pure (id y2)
    : Option Int)
 let y3<-tG s star
 let l<-app 8 ([]:List Int) a.Coefs
 let t75<-(do
  if(decide (y3>=0)) then
   if(decide (star>y2)) then
    pure true
   else
    pure (y2==(q:Int))
  else
   pure false
    : Option Bool)
 if t75 then
  let x<-idx l y3
  let x1<-idx l y3
  let l1<-pure (l.set y3.toNat (W (x+(W (sg*y1)))))
  pure ((zA.mk l1 a.Const),(W (star+1)))
 else
  if(y2==(q:Int)) then
   pure (a,(-1))
  else
   pure ((zA.mk l (W (a.Const+(W (sg*y1))))),y2):Option (zA×Int))=some (let u:=s.l.drop q
    if 0<=nmOf (u.drop (star u))/\((dgt u).2<star u∨(dgt u).2=0) then
     (⟨a.Coefs.set (nmOf (u.drop (star u))).toNat (W (a.Coefs.getD (nmOf (u.drop (star u))).toNat 0+W (sg*(dgt u).1))),a.Const⟩,((q+star u+1:Nat):Int))
    else if(dgt u).2=0 then(a,-1) else(⟨a.Coefs,W (a.Const+W (sg*(dgt u).1))⟩,((q+(dgt u).2:Nat):Int))):=by
  rw[zDE s q hs ho]
  have hdl:=zDt (s.l.drop q)
  have hstl:=zE6 (s.l.drop q)
  rw[cj] at hdl hstl
  have hdig:(if(numU ((s.l.drop q).take (run (s.l.drop q) 2))).2=true then((numU ((s.l.drop q).take (run (s.l.drop q) 2))).1,((q+run (s.l.drop q) 2:Nat):Int)) else(1,(q:Int)))=((dgt (s.l.drop q)).1,((q+(dgt (s.l.drop q)).2:Nat):Int)):=by
   unfold dgt
   split <;> rfl
  rw[hdig]
  simp only[Option.pure_def,Option.bind_eq_bind,Option.bind_some]
  have hstar:∀(f:Int->Option (zA×Int)),(Option.bind (if(decide (((q+(dgt (s.l.drop q)).2:Nat):Int)>(q:Int)))=true then
   (if(decide (((q+(dgt (s.l.drop q)).2:Nat):Int)<(s.l.length:Int)))=true then
    Option.bind (idx s.l ((q+(dgt (s.l.drop q)).2:Nat):Int)) λb5=>some ((b5.toNat:Int)==42)
   else some false) else some false) λt51=>Option.bind (if t51=true then some (W (((q+(dgt (s.l.drop q)).2:Nat):Int)+1)) else some (id ((q+(dgt (s.l.drop q)).2:Nat):Int))) f)=f ((q+star (s.l.drop q):Nat):Int):=by
   intro f
   unfold star
   rw[cI,rH]
   by_cases h0:0<(dgt (s.l.drop q)).2
   ·have h0':(((q+(dgt (s.l.drop q)).2:Nat):Int)>(q:Int)):=by omega
    by_cases h1:q+(dgt (s.l.drop q)).2<s.l.length
    ·have h1':(((q+(dgt (s.l.drop q)).2:Nat):Int)<(s.l.length:Int)):=by omega
     have k42:((s.l[q+(dgt (s.l.drop q)).2].toNat:Int)==42)=decide (s.l[q+(dgt (s.l.drop q)).2]=42):=rR _ 42 (by omega)
     have hhd:(s.l.drop (q+(dgt (s.l.drop q)).2)).head?=some (s.l[q+(dgt (s.l.drop q)).2]):=by rw[cm h1];rfl
     simp only[h0',h1',decide_true,if_true,bW h1,Option.bind_some,k42,h0,true_and,hhd,Option.some.injEq]
     by_cases h42:s.l[q+(dgt (s.l.drop q)).2]=42
     ·simp only[h42,decide_true,if_true,Option.bind_some]
      rw[rD (by omega)];rfl
     ·simp only[h42,decide_false,bV,if_false,Option.bind_some,id]
    ·have h1':¬(((q+(dgt (s.l.drop q)).2:Nat):Int)<(s.l.length:Int)):=by omega
     have hhd:(s.l.drop (q+(dgt (s.l.drop q)).2)).head?=none:=by
      rw[show s.l.drop (q+(dgt (s.l.drop q)).2)=[] from ck.2 (by omega)];rfl
     simp only[h0',h1',decide_true,decide_false,if_true,bV,if_false,Option.bind_some,hhd,reduceCtorEq,and_false,id]
   ·have h0':¬(((q+(dgt (s.l.drop q)).2:Nat):Int)>(q:Int)):=by omega
    simp only[h0',h0,decide_false,bV,if_false,Option.bind_some,false_and,id]
  refine(hstar _).trans ?_
  rw[zE5 s _ (by omega),qR (by simp;omega),<- cI]
  simp only[Option.bind_some,cx]
  generalize hu:s.l.drop q=u at hdl hstl ⊢
  have hnm:nmOf (u.drop (star u))<4:=by
   unfold nmOf
   split
   ·omega
   ·split <;> omega
  generalize nmOf (u.drop (star u))=v at hnm ⊢
  by_cases hv:0<=v
  ·have hv':v>=0:=hv
   have hx:idx a.Coefs v=some (a.Coefs.getD v.toNat 0):=by
    rw[zDd hv,cH,bW (by omega)]
    rfl
   by_cases h1:(dgt u).2<star u
   ·have h1':(((q+star u:Nat):Int)>((q+(dgt u).2:Nat):Int)):=by omega
    simp only[hv,hv',h1,h1',decide_true,if_true,Option.bind_some,hx,true_or,and_self]
    rw[rD (by omega)]
   ·have h1':¬(((q+star u:Nat):Int)>((q+(dgt u).2:Nat):Int)):=by omega
    by_cases h2:(dgt u).2=0
    ·have h2':(((q+(dgt u).2:Nat):Int)==(q:Int))=true:=by simp;omega
     simp only[hv,hv',h1,h1',h2',decide_true,decide_false,if_true,bV,if_false,Option.bind_some,hx]
     rw[if_pos ⟨trivial,.inr h2⟩,rD (by omega)]
    ·have h2':(((q+(dgt u).2:Nat):Int)==(q:Int))=false:=by simp;omega
     simp only[hv,hv',h1,h1',h2',h2,decide_true,decide_false,if_true,bV,if_false,Option.bind_some,or_self,and_false]
  ·have hv':¬v>=0:=hv
   simp only[hv,hv',decide_false,bV,if_false,Option.bind_some,false_and]
   by_cases h2:(dgt u).2=0
   ·have h2':(((q+(dgt u).2:Nat):Int)==(q:Int))=true:=by simp;omega
    rw[if_pos h2',if_pos h2]
   ·have h2':(((q+(dgt u).2:Nat):Int)==(q:Int))=false:=by simp;omega
    rw[if_neg (by rw[h2'];simp),if_neg h2]
theorem zAL(a:zA)(s:Str)(p:Nat)(hs:s.l.length<=1048576)(hp:p<s.l.length)(hC:a.Coefs.length=4):
 wY a s (p:Int)=some (let u0:=s.l.drop p;let o:=sgo u0;let u:=s.l.drop (p+o)
  if 0<=nmOf (u.drop (star u))/\((dgt u).2<star u∨(dgt u).2=0) then
   (⟨a.Coefs.set (nmOf (u.drop (star u))).toNat (W (a.Coefs.getD (nmOf (u.drop (star u))).toNat 0+W (signOf u0*(dgt u).1))),a.Const⟩,((p+o+star u+1:Nat):Int))
  else if(dgt u).2=0 then(a,-1) else(⟨a.Coefs,W (a.Const+W (signOf u0*(dgt u).1))⟩,((p+o+(dgt u).2:Nat):Int))):=by
 unfold wY
 have hd0:=cm hp
 have k43:((s.l[p].toNat:Int)==43)=decide (s.l[p]=43):=rR _ 43 (by omega)
 have k45:((s.l[p].toNat:Int)==45)=decide (s.l[p]=45):=rR _ 45 (by omega)
 simp only[sidx,rH,bW hp,k43,k45,Option.pure_def,Option.bind_eq_bind,Option.bind_some]
 rw[hd0]
 simp only[sgo,signOf]
 have hs1:(if(decide (s.l[p]=45))=true then some (-1:Int) else some (id 1))=some (if s.l[p]=45 then -1 else 1):=by
  by_cases h:s.l[p]=45 <;> simp[h]
 have aw:(if(decide (s.l[p]=45))=true then some true else some (decide (s.l[p]=43)))=some (isSg s.l[p]):=by
  unfold isSg
  by_cases h:s.l[p]=45 <;> by_cases h':s.l[p]=43 <;> simp[h,h']
 rw[hs1]
 simp only[Option.bind_some]
 rw[aw]
 simp only[Option.bind_some]
 have au:(if isSg s.l[p]=true then some (W ((p:Int)+1)) else some (id (p:Int)))=some ((p+(if isSg s.l[p]=true then 1 else 0):Nat):Int):=by
  split
  ·rw[rD (by omega)]
  ·rfl
 rw[au]
 simp only[Option.bind_some]
 have ho:p+(if isSg s.l[p]=true then 1 else 0)<=s.l.length:=by split <;> omega
 exact zBO a s hs hC _ _ ho
end Go.LN
namespace Go.LN
open Lib (itoa decDigits)
def Sg(f:List UInt8)(sg:Int):Prop:=(f=[]/\sg=1)∨(f=[43]/\sg=1)∨(f=[45]/\sg=-1)
theorem zFC{b:UInt8}(h:isSg b=false):b ≠ 45:=by rintro rfl;cases h
theorem bodyU(k i:Nat)(hk:1<=k/\k<=9)(hi:i<4)(t:List UInt8):
 dgt (bodyV k i++t)=((k:Int),if k=1 then 0 else 1)/\star (bodyV k i++t)=(if k=1 then 0 else 2)/\nmOf ((bodyV k i++t).drop (if k=1 then 0 else 2))=(i:Int)/\(bodyV k i).length=(if k=1 then 1 else 3)/\isSg ((bodyV k i++t).headD 0)=false/\(bodyV k i++t).headD 0 ≠ 45/\bodyV k i ≠ []:=by
 obtain⟨h1,h2⟩:=hk
 have c1:k=1∨k=2∨k=3∨k=4∨k=5∨k=6∨k=7∨k=8∨k=9:=by omega
 have c2:i=0∨i=1∨i=2∨i=3:=by omega
 rcases c1 with rfl|rfl|rfl|rfl|rfl|rfl|rfl|rfl|rfl <;> rcases c2 with rfl|rfl|rfl|rfl <;> exact⟨rfl,rfl,rfl,rfl,rfl,zFC rfl,by simp[bodyV,dtx]⟩
theorem dtxU:∀(k:Fin 100),dgt (dtx k.val)=((k.val:Int),(dtx k.val).length)/\star (dtx k.val)=(dtx k.val).length/\isSg ((dtx k.val).headD 0)=false/\(dtx k.val).headD 0 ≠ 45/\dtx k.val ≠ []:=by decide +kernel
theorem zCe{f:List UInt8}{sg:Int}(hf:Sg f sg){u:List UInt8}(hne:u ≠ [])(hu:isSg (u.headD 0)=false)(hn:u.headD 0 ≠ 45):sgo (f++u)=f.length/\signOf (f++u)=sg/\f++u ≠ []:=by
 rcases hf with⟨rfl,rfl⟩|⟨rfl,rfl⟩|⟨rfl,rfl⟩
 ·cases u with
  | nil=>exact absurd rfl hne
  | cons b r=>
   simp only[List.headD_cons] at hu hn;simp[sgo,signOf,hu,hn]
 ·exact⟨rfl,rfl,by simp⟩
 ·exact⟨rfl,rfl,by simp⟩
theorem stepV(T:Str)(hT:T.l.length<=1048576)(p:Nat)(f:List UInt8)(sg:Int)(hf:Sg f sg)(k i:Nat)(hk:1<=k/\k<=9)(hi:i<4)(t:List UInt8)
 (hd:T.l.drop p=f++(bodyV k i++t)) (C:List Int) (K:Int) (hC:C.length=4) :
 ∃q:Nat,wY ⟨C,K⟩ T (p:Int)=some (⟨C.set i (W (C.getD i 0+W (sg*(k:Int)))),K⟩,(q:Int))/\T.l.drop q=t/\p<T.l.length/\q<=T.l.length:=by
 obtain⟨b1,b2,b3,b4,b5,b6,b7⟩:=bodyU k i hk hi t
 obtain⟨s1,s2,s3⟩:=zCe hf (u:=bodyV k i++t) (by simp[b7]) b5 b6
 have hp:p<T.l.length:=by
  rcases cY p T.l.length with h|h
  ·exact h
  ·rw[ck.2 h] at hd;exact absurd hd.symm s3
 have ar:=congrArg List.length hd
 rw[cj,ca,ca,b4] at ar
 have hu:T.l.drop (p+f.length)=bodyV k i++t:=by
  rw[<- cI,hd,List.drop_left]
 refine⟨p+f.length+(if k=1 then 0 else 2)+1,?_,?_,hp,?_⟩
 ·rw[zAL _ T p hT hp hC]
  simp only[hd,s1,hu,s2,b1,b2,b3,d7]
  rw[if_pos]
  refine⟨by omega,?_⟩
  by_cases h:k=1
  ·right;simp[h]
  ·left;simp[h]
 ·have:p+f.length+(if k=1 then 0 else 2)+1=p+f.length+(bodyV k i).length:=by rw[b4];split <;> omega
  rw[this,<- cI,hu,List.drop_left]
 ·split at ar <;> rename_i h <;> simp only[h,if_true,if_false] <;> omega
theorem stepK(T:Str)(hT:T.l.length<=1048576)(p:Nat)(f:List UInt8)(sg:Int)(hf:Sg f sg)(k:Nat)(hk:k<=99)
 (hd:T.l.drop p=f++dtx k) (C:List Int) (K:Int) (hC:C.length=4) :
 wY ⟨C,K⟩ T (p:Int)=some (⟨C,W (K+W (sg*(k:Int)))⟩,(T.l.length:Int))/\p<T.l.length:=by
 obtain⟨b1,b2,b5,b6,b7⟩:=dtxU ⟨k,by omega⟩
 simp only at b1 b2 b5 b6 b7
 obtain⟨s1,s2,s3⟩:=zCe hf (u:=dtx k) b7 b5 b6
 have hp:p<T.l.length:=by
  rcases cY p T.l.length with h|h
  ·exact h
  ·rw[ck.2 h] at hd;exact absurd hd.symm s3
 have ar:=congrArg List.length hd
 rw[cj,ca] at ar
 have hu:T.l.drop (p+f.length)=dtx k:=by
  rw[<- cI,hd,List.drop_left]
 have hdl:=qK k
 refine⟨?_,hp⟩
 rw[zAL _ T p hT hp hC]
 have hnm:nmOf ([]:List UInt8)=-1:=rfl
 simp only[hd,s1,hu,s2,b1,b2,List.drop_length,hnm]
 rw[if_neg (by omega),if_neg (by omega)]
 congr 3
 omega
theorem kC(T:Str)(p:Nat)(hp:T.l.length<=p)(x:zA):zX T (p:Int) x=some x:=by
 rw[zX];have h1:((p:Int)>=0):=by omega
 have h2:¬((p:Int)<(T.l.length:Int)):=by omega
 simp[h1,h2]
theorem zBP(T:Str)(p:Nat)(hp:p<T.l.length)(x y:zA)(q:Int)(h:wY x T (p:Int)=some (y,q)):zX T (p:Int) x=zX T q y:=by
 conv=>lhs;rw[zX]
 have h1:((p:Int)>=0):=by omega
 have h2:((p:Int)<(T.l.length:Int)):=by omega
 simp only[h1,h2,decide_true,if_true,Option.pure_def,Option.bind_eq_bind,Option.bind_some,h]
def st(f:Bool)(l:List UInt8):List UInt8:=if f then strip l else l
theorem zDu(f:Bool)(c:Int)(u:List UInt8):∃g,st f (sgn c::u)=g++u/\Sg g (if c<0 then -1 else 1):=by
 unfold st strip sgn;by_cases hc:c<0
 ·exact⟨[45],by simp[hc],by simp[Sg,hc]⟩
 ·cases f with
  | true=>exact⟨[],by simp[hc],by simp[Sg,hc]⟩
  | false=>exact⟨[43],by simp[hc],by simp[Sg,hc]⟩
theorem zBi(T:Str)(hT:T.l.length<=1048576)(k:Int)(hk:constB k=true):∀(cs pre:List Int) (f:Bool) (p:Nat),(∀c∈cs,coefB c=true)->pre.length+cs.length=4->p<=T.l.length ->
 T.l.drop p=st f (T0 cs pre.length++TK k)->zX T (p:Int) ⟨pre++List.replicate cs.length 0,0⟩=some ⟨pre++cs,k⟩:=by
 intro cs
 induction cs with
 | nil=>
  intro pre f p hc hl hp hd
  simp only[T0,cx,cF,List.replicate_zero,cG] at hl hd ⊢
  simp only[constB,bX,decide_eq_true_eq] at hk
  by_cases h0:k=0
  ·subst h0
   have:T.l.length<=p:=by
    rw[TK,if_pos rfl] at hd
    have:st f []=[]:=by cases f <;> rfl
    rw[this] at hd
    exact ck.1 hd
   exact kC T p this _
  ·rw[TK,if_neg h0] at hd
   obtain⟨g,hg,hs⟩:=zDu f k (dtx k.natAbs)
   rw[hg] at hd
   obtain⟨e1,e2⟩:=stepK T hT p g _ hs k.natAbs (by omega) hd pre 0 hl
   rw[zBP T p e2 _ _ _ e1,gS k (by omega)]
   exact kC T _ (cw _) _
 | cons c cs ih=>
  intro pre f p hc hl hp hd
  have aG:=hc c (bZ ..)
  have aR:∀y∈cs,coefB y=true:=λy hy=>hc y (bY _ hy)
  simp only[coefB,bX,decide_eq_true_eq] at aG
  simp only[cg] at hl
  have ih':=λg q=>ih (pre++[c]) g q aR (by simp;omega)
  simp only[ca,List.length_singleton,cE] at ih'
  by_cases h0:c=0
  ·subst h0
   rw[T0,if_pos rfl,cx] at hd
   simpa [dh] using ih' f p hp hd
  ·rw[T0,if_neg h0,cE,cO] at hd
   obtain⟨g,hg,hs⟩:=zDu f c (bodyV c.natAbs pre.length++(T0 cs (pre.length+1)++TK k))
   rw[hg] at hd
   obtain⟨q,e1,e2,e3,e4⟩:=stepV T hT p g _ hs c.natAbs pre.length (by omega) (by omega) _ hd (pre++List.replicate (cs.length+1) 0) 0 (by simp;omega)
   have hgd:(pre++List.replicate (cs.length+1) (0:Int)).getD pre.length 0=0:=by
    rw[cH,dp (cw _),Nat.sub_self,dh];rfl
   have hset:(pre++List.replicate (cs.length+1) (0:Int)).set pre.length c=pre++([c]++List.replicate cs.length 0):=by
    rw[List.set_append_right _ _ (cw _),Nat.sub_self,dh];rfl
   rw[cg,zBP T p e3 _ _ _ e1,hgd,gS c (by omega),hset]
   exact ih' false q e4 e2
theorem nT(a:zA)(ha:validB a=true):zX ⟨tx a⟩ 0 ⟨[0,0,0,0],0⟩=some a:=by
 have hv:=ha;simp only[validB,bX,decide_eq_true_eq] at hv;obtain⟨⟨h4,hk⟩,hall⟩:=hv;have htl:=fY ha;have al:List.replicate 4 (0:Int)=[0,0,0,0]:=rfl;have bb:=λc hc=>cb.1 hall c hc;by_cases hr:raw a=[]
 ·have key:=zBi ⟨[]⟩ (by simp) a.Const hk a.Coefs [] false 0 bb (by simp[h4]) (by simp) (by rw[cF];exact hr.symm);rw[cx,cx,h4,al] at key;have hend:=kC ⟨[]⟩ 0 (by simp) ⟨[0,0,0,0],0⟩;rw[hend] at key;have ea:(⟨[0,0,0,0],0⟩:zA)=a:=by
   simp only[Option.some.injEq] at key;exact key
  unfold tx;rw[if_pos hr];obtain⟨e1,e2⟩:=stepK ⟨[48]⟩ (by simp) 0 [] 1 (.inl ⟨rfl,rfl⟩) 0 (by omega) rfl [0,0,0,0] 0 rfl;have:=zBP ⟨[48]⟩ 0 e2 _ _ _ e1;rw[cK] at this;rw[this,kC _ _ (cw _),<- ea];rfl
 ·unfold tx at htl ⊢;rw[if_neg hr] at htl ⊢;have key:=zBi ⟨strip (raw a)⟩ (by simp only;omega) a.Const hk a.Coefs [] true 0 bb (by simp[h4]) (by simp) (by rw[cF];rfl);rw[cx,cx,h4,al] at key;exact key
theorem specFormat(a:zA)(h:a.Coefs.length<=1048576):wR a=some (if validB a then⟨tx a⟩ else⟨[]⟩):=by
 unfold wR;rw[specValid a h];cases hv:validB a with
 | false=>rfl
 | true=>simp[zAg a hv]
theorem zFV(a:zA)(ha:validB a=true):tx a ≠ []:=by
 unfold tx;split
 ·simp
 ·rename_i h;rcases zAk a ha with h' | ⟨c,b,t,h',hb,hn⟩
  ·exact absurd h' h
  ·rw[h',strip];split
   ·simp[hn]
   ·simp
theorem zDv{a b:zA}(ha:validB a=true)(hb:validB b=true)(h:tx a=tx b):a=b:=by
 have e1:=nT a ha;rw[h,nT b hb,Option.some.injEq] at e1;exact e1.symm
theorem zA6(s:Str)(h0:s.l.length<=1000000):∃x,zX s 0 ⟨[0,0,0,0],0⟩=some x/\VA x:=by
 have:=(pS s h0 (s.l.length+2) 0 ⟨[0,0,0,0],0⟩).ok ⟨⟨by omega,by omega,by omega⟩,rfl,by simp[I64],by simp[I64]⟩ (λx=>VA x) (λx hx=>hx);exact this
theorem specParse(t:Str)(hl:t.l.length<=1000000):∃r,vD t=some r/\ResA t.l r:=by
 obtain⟨t⟩:=t;simp only at hl;unfold vD;have hz:sC=some ⟨[0,0,0,0],0⟩:=rfl;simp only[hz,Option.bind_eq_bind,Option.bind_some,Option.pure_def];by_cases h40:t.length>40
 ·have:((t.length:Nat):Int)>40:=by omega
  simp only[this,decide_true,if_true];exact⟨_,rfl,.inr ⟨rfl,rfl,λa hv e=>by have:=fY hv;rw[<- e] at this;omega⟩⟩
 ·have:¬((t.length:Nat):Int)>40:=by omega
  simp only[this,decide_false,bV,if_false];obtain⟨x,hx,hvx⟩:=zA6 ⟨t⟩ hl;rw[hx];simp only[Option.bind_some];rw[specFormat x (by rw[hvx.1];decide)];simp only[Option.bind_some];have hval:∀a,validB a=true->t=tx a->a=x:=by
   rintro a hv rfl;rw[nT a hv,Option.some.injEq] at hx;exact hx
  cases hv:validB x with
  | false=>
   simp only[bV,if_false];have hno:∀a,validB a=true->t ≠ tx a:=λa hva e=>by rw[hval a hva e,hv] at hva;cases hva
   by_cases ht:t=[]
   ·exact absurd ht (by
     intro ht;subst ht;have:=kC ⟨[]⟩ 0 (by simp) ⟨[0,0,0,0],0⟩;rw[cK,hx,Option.some.injEq] at this;subst this;exact absurd hv (by decide))
   ·have:(([]:List UInt8)==t)=false:=by simpa using ht
    simp only[this,cJ,if_true];exact⟨_,rfl,.inr ⟨rfl,rfl,hno⟩⟩
  | true=>
   simp only[if_true];cases he:tx x==t with
   | true=>
    simp only[cP,bV,if_false];exact⟨_,rfl,.inl ⟨rfl,hv,(beq_iff_eq.1 he).symm⟩⟩
   | false=>
    simp only[cJ,if_true];exact⟨_,rfl,.inr ⟨rfl,rfl,λa hva e=>by rw[hval a hva e] at e;rw[e] at he;simp at he⟩⟩
end Go.LN
