/- Helper of the proof (see the last text). -/
import Derived.Test.YtkipogionmkncaaGreatDoorQT
import Derived.Test.YtkipogionmkncaaGreatDoorHM8
import Derived.Test.YtkipogionmkncaaGreatDoorQZ
set_option linter.unusedVariables false
set_option linter.unusedSimpArgs false
namespace Go.LN
theorem oS{α β:Type}(x:α)(f:α->Option β):(some x).bind f=f x:=rfl
theorem oB{α β:Type}(x:Option α)(f:α->Option β):(x>>=f)=x.bind f:=rfl
theorem oP{α:Type}(x:α):(pure x:Option α)=some x:=rfl
theorem bF:(false=true)=False:=by simp
theorem gC{α:Type}{l:List α}{i:Nat}(h:i<l.length):l.drop i=l[i]::l.drop (i+1):=cf h
theorem dT(h:Decidable True):decide True=true:=by simp
theorem dF(h:Decidable False):decide False=false:=by simp
theorem gM{α:Type}{l:List α}{i:Nat}(h:i<l.length):l[i]∈l:=List.getElem_mem h
theorem nZ:((0:Nat):Int)=0:=rfl
theorem dN{α:Type}{l:List α}{i:Nat}:l.drop i=[]↔l.length<=i:=ci
theorem bA(a b:Bool):((a&&b)=true)=(a=true/\b=true):=bW a b
theorem bT:(!true)=false:=rfl
theorem lA{α:Type}{a b:List α}:(a++b).length=a.length+b.length:=ca
theorem lM{α β:Type}{l:List α}(f:α->β):(l.map f).length=l.length:=cp f
theorem pV{s:Str}{f i:Nat}(hf:f<=i)(hi:i<=s.l.length):sslc s (f:Int) (i:Int)=some ⟨(s.l.take i).drop f⟩:=by
 unfold sslc slc;rw[if_pos (by omega)];simp
theorem jD{α:Type}{b:Nat}{l k:List α}(h:(l.length+k.length)*b<=140737488355328):app b l k=some (l++k):=by
 unfold app;rw[if_pos h]
theorem zCS(a b:UInt8):((a.toNat:Int)==(b.toNat:Int))=decide (a=b):=by
 by_cases h:a=b
 ·subst h;simp
 ·rw[decide_eq_false h];exact beq_false_of_ne (λe=>h (UInt8.toNat_inj.1 (by omega)))
theorem pL(a:UInt8)(n:Nat)(hn:n<256):((a.toNat:Int)==(n:Int))=decide (a=UInt8.ofNat n):=by
 have:=zCS a (UInt8.ofNat n);rwa[UInt8.toNat_ofNat_of_lt' (by exact hn)] at this
theorem zFu{f:Int->Option Bool}{p:Int->Bool}(s:List Int)(hf:∀x∈s,f x=some (p x))(hs:s.length<=9223372036854775806):∀j k,k+j=s.length ->
 xJ s f (k:Int)=some (match (s.drop k).findIdx? p with|some i=>.ret (((k+i:Nat)):Int)|none=>.done ()):=by
 intro j
 induction j with
 | zero=>
  intro k hk
  rw[xJ]
  have:¬((k:Int)<(s.length:Int)):=by omega
  simp[this,dN.2 (show s.length<=k by omega)]
 | succ j ih=>
  intro k hk
  rw[xJ]
  have av:k<s.length:=by omega
  have:((k:Int)<(s.length:Int)):=by omega
  simp only[this,dT,if_true,pE,bX av,oB,oS,hf _ (gM av)]
  rw[gC av,List.findIdx?_cons]
  cases hp:p s[k] with
  | true=>simp
  | false=>
   simp only[bF,if_false]
   rw[pH (by omega),ih (k+1) (by omega)]
   cases hx:List.findIdx? p (List.drop (k+1) s) with
   | none=>simp
   | some i=>simp;omega
theorem zD3{f:Int->Option Bool}{p:Int->Bool}(s:List Int)(hf:∀x∈s,f x=some (p x))(hs:s.length<=9223372036854775806):xU s f=some (s.any p):=by
 unfold xU uW;have:=zFu s hf hs s.length 0 (by omega);rw[cI] at this;simp only[nZ,oB] at this ⊢;rw[this];cases h:List.findIdx? p s with
 | none=>
  have:s.any p=false:=by simpa using List.findIdx?_eq_none_iff.1 h
  simp[this]
 | some i=>
  have:s.any p=true:=by
   obtain⟨h1,h2⟩:=List.findIdx?_eq_some_iff_getElem.1 h;exact List.any_eq_true.2 ⟨s[i],gM h1,h2.1⟩
  simp[this]
def coefB(c:Int):Bool:=decide (-9<=c)&&decide (c<=9)
def constB(c:Int):Bool:=decide (-99<=c)&&decide (c<=99)
def validB(a:zA):Bool:=decide (a.Coefs.length=4)&&constB a.Const&&a.Coefs.all coefB
theorem nL(n lo hi:Int):uV n lo hi=some (decide (lo<=n)&&decide (n<=hi)):=by
 unfold uV;by_cases h:lo<=n <;> simp[h]
theorem implValid(a:zA)(h:a.Coefs.length<=1048576):vU a=some (validB a):=by
 unfold vU validB pR;have e:((a.Coefs.length:Int)==4)=decide (a.Coefs.length=4):=by
  by_cases h4:a.Coefs.length=4
  ·simp[h4]
  ·have:¬(a.Coefs.length:Int)=4:=by omega
   simp[h4,this]
 rw[nL,e];by_cases h4:a.Coefs.length=4
 ·have hc:xU a.Coefs vR=some (a.Coefs.any λc=>!coefB c):=by
   refine zD3 _ (λx _=>?_) (by omega);unfold vR;rw[nL];rfl
  simp only[h4,dT,if_true,oB,oS,oP,id,hc,cW];rw[show (decide (-99<=a.Const)&&decide (a.Const<=99))=constB a.Const from rfl];cases hk:constB a.Const with
  | false=>simp
  | true=>
   simp only[if_true,oB,oS,cW];rw[List.not_any_eq_all_not];simp
 ·simp[h4]
theorem specWithin(n:Int)(k:Nat)(hk:k<=1000):uB n (k:Int)=some (decide (-(k:Int)<=n)&&decide (n<=k)):=by
 unfold uB;rw[vM (by omega) (by omega)];by_cases h:(-(k:Int))<=n
 ·have:n>=0 - (k:Int):=by omega
  simp[h,this]
 ·have:¬n>=0 - (k:Int):=by omega
  simp[h,this]
theorem zCe(a:zA)(h:a.Coefs.length<=1048576):∀j k,k+j=a.Coefs.length->xL a (k:Int)=some (if(a.Coefs.drop k).all coefB then .done () else .ret false):=by
 intro j
 induction j with
 | zero=>
  intro k hk;rw[xL];have:¬((k:Int)<(a.Coefs.length:Int)):=by omega
  simp[this,dN.2 (show a.Coefs.length<=k by omega)]
 | succ j ih=>
  intro k hk;rw[xL];have av:k<a.Coefs.length:=by omega
  have h1:((k:Int)<(a.Coefs.length:Int)):=by omega
  have hw:uB a.Coefs[k] 9=some (coefB a.Coefs[k]):=specWithin _ 9 (by omega);simp only[h1,dT,if_true,pE,bX av,oB,oS,hw];rw[gC av,cG];cases hp:coefB a.Coefs[k] with
  | false=>simp
  | true=>
   simp only[bT,bF,if_false,cW];rw[pH (by omega),ih (k+1) (by omega)]
theorem specValid(a:zA)(h:a.Coefs.length<=1048576):wX a=some (validB a):=by
 unfold wX validB;have e:((a.Coefs.length:Int)==4)=decide (a.Coefs.length=4):=by
  by_cases h4:a.Coefs.length=4
  ·simp[h4]
  ·have:¬(a.Coefs.length:Int)=4:=by omega
   simp[h4,this]
 have hl:=zCe a h _ 0 (cO _);have hw:uB a.Const 99=some (constB a.Const):=specWithin _ 99 (by omega);rw[cI,nZ] at hl;rw[hl,e,hw];by_cases hall:a.Coefs.all coefB=true
 ·simp only[hall,if_true,oB,oS];by_cases h4:a.Coefs.length=4 <;> simp[h4]
 ·simp only[hall,if_false,oB,oS];simp
theorem zCf{f:zA->Option Bool}{p:zA->Bool}(s:List zA)(hf:∀x∈s,f x=some (p x))(hs:s.length<=9223372036854775806):∀j k,k+j=s.length ->
 yC s f (k:Int)=some (match (s.drop k).findIdx? p with|some i=>.ret (((k+i:Nat)):Int)|none=>.done ()):=by
 intro j
 induction j with
 | zero=>
  intro k hk
  rw[yC]
  have:¬((k:Int)<(s.length:Int)):=by omega
  simp[this,dN.2 (show s.length<=k by omega)]
 | succ j ih=>
  intro k hk
  rw[yC]
  have av:k<s.length:=by omega
  have:((k:Int)<(s.length:Int)):=by omega
  simp only[this,dT,if_true,pE,bX av,oB,oS,hf _ (gM av)]
  rw[gC av,List.findIdx?_cons]
  cases hp:p s[k] with
  | true=>simp
  | false=>
   simp only[bF,if_false]
   rw[pH (by omega),ih (k+1) (by omega)]
   cases hx:List.findIdx? p (List.drop (k+1) s) with
   | none=>simp
   | some i=>simp;omega
theorem zCg{f:zA->Option Bool}{p:zA->Bool}(s:List zA)(hf:∀x∈s,f x=some (p x))(hs:s.length<=9223372036854775806):yU s f=some (s.any p):=by
 unfold yU xQ;have:=zCf s hf hs s.length 0 (by omega);rw[cI] at this;simp only[nZ,oB] at this ⊢;rw[this];cases h:List.findIdx? p s with
 | none=>
  have:s.any p=false:=by simpa using List.findIdx?_eq_none_iff.1 h
  simp[this]
 | some i=>
  have:s.any p=true:=by
   obtain⟨h1,h2⟩:=List.findIdx?_eq_some_iff_getElem.1 h;exact List.any_eq_true.2 ⟨s[i],gM h1,h2.1⟩
  simp[this]
theorem zD4{n:Nat}{f:Int->Option (Out Unit Bool)}{P:Nat->Bool}(step:∀i,i<n->f (i:Int)=if P i then f ((i+1:Nat):Int) else some (.ret false))(fin:f (n:Int)=some (.done ())):f 0=some (if(List.range n).all P then .done () else .ret false):=by
 have key:∀j i,i+j=n->f (i:Int)=some (if(List.range' i j).all P then .done () else .ret false):=by
  intro j
  induction j with
  | zero=>intro i hi;rw[show i=n by omega,fin];rfl
  | succ j ih=>
   intro i hi;rw[step i (by omega),List.range'_succ,cG];cases hP:P i with
   | false=>simp
   | true=>simp only[if_true,cW];exact ih (i+1) (by omega)
 have:=key n 0 (by omega);rw[List.range_eq_range'];exact this
theorem zCT{α:Type}(l:List α)(P:α->Bool)(d:α):(List.range l.length).all (λi=>P (l.getD i d))=l.all P:=by
 rw[Bool.eq_iff_iff,b8,b8];constructor
 ·intro h x hx;obtain⟨i,hi,rfl⟩:=List.mem_iff_getElem.1 hx;have:=h i (cw.2 hi);simpa [hi] using this
 ·intro h i hi;have hi:=cw.1 hi;simp only[cE,bX hi,Option.getD_some];exact h _ (gM hi)
theorem tX{α:Type}{l:List α}{i:Nat}(h:i<l.length):idx l (i:Int)=some l[i]:=by rw[pE,bX h]
theorem qI{i:Nat}(h:i<9223372036854775807):W ((i:Int)+1)=((i+1:Nat):Int):=by rw[vM (by omega) (by omega)];omega
def depL:List Int->Nat->Nat->Nat
 | [],_,n=>n
 | c::C,i,n=>depL C (i+1) (if c=0 then n else i+1)
def depF(a:zA):Nat:=depL a.Coefs 0 0
theorem zCh(a:zA)(h:a.Coefs.length<=1048576):∀(j i n:Nat),i+j=a.Coefs.length->wQ a (n:Int) (i:Int)=some ((depL (a.Coefs.drop i) i n:Nat):Int):=by
 intro j
 induction j with
 | zero=>
  intro i n hi;rw[wQ];have:¬((i:Int)<(a.Coefs.length:Int)):=by omega
  simp only[this,dF,bF,if_false];rw[dN.2 (by omega)];rfl
 | succ j ih=>
  intro i n hi;rw[wQ];have av:i<a.Coefs.length:=by omega
  have h1:((i:Int)<(a.Coefs.length:Int)):=by omega
  simp only[h1,dT,if_true,tX av,oB,oS];rw[gC av,depL,qI (by omega)];by_cases h0:a.Coefs[i]=0
  ·simp only[h0,bne_self_eq_false,bF,if_false,if_true,oP,oS,id];exact ih (i+1) n (by omega)
  ·have hb:(a.Coefs[i] != 0)=true:=by simpa using h0
   simp only[hb,if_true,h0,if_false,oP,oS];exact ih (i+1) (i+1) (by omega)
theorem specDepth(a:zA)(h:a.Coefs.length<=1048576):tZ a=some ((depF a:Nat):Int):=by
 unfold tZ depF;have:=zCh a h _ 0 0 (cO _);rw[nZ,cI] at this;rw[this];rfl
theorem zD5:∀(C D:List Int) (i n:Nat),depL (C++D) i n=depL D (i+C.length) (depL C i n)
 | [],D,i,n=>rfl
 | c::C,D,i,n=>by rw[cy,depL,depL,zD5 C D,bY,show i+1+C.length=i+(C.length+1) by omega]
theorem zCi(a:zA)(h:a.Coefs.length<=1048576):∀n,n<=a.Coefs.length->depL (a.Coefs.drop n) n n=n->∀m:Nat,(∀k,depL (a.Coefs.drop n) n k=k)->wW a (n:Int)=some ((depL (a.Coefs.take n) 0 0:Nat):Int):=by
 intro n
 induction n with
 | zero=>
  intro _ _ _ _;rw[wW];rfl
 | succ n ih=>
  intro hn h1 m hk;rw[wW];have h0:(((n+1:Nat):Int)>0):=by omega
  have av:n<a.Coefs.length:=by omega
  have hW:W (((n+1:Nat):Int) - 1)=(n:Int):=by rw[vM (by omega) (by omega)];omega
  simp only[h0,dT,if_true,hW,tX av,oB,oS,oP];rw[cY,bX av,Option.toList_some,zD5];by_cases hc:a.Coefs[n]=0
  ·simp only[hc,BEq.rfl,if_true,depL];have hk':∀k,depL (a.Coefs.drop n) n k=k:=λk=>by rw[gC av,depL,hc,if_pos rfl];exact hk k
   exact ih (by omega) (hk' n) 0 hk'
  ·have hb:(a.Coefs[n]==0)=false:=by simpa using hc
   simp only[hb,bF,if_false,depL,hc,id,cd];rw[show 0+min n a.Coefs.length+1=n+1 by omega]
theorem implDepth(a:zA)(h:a.Coefs.length<=1048576):uG a=some ((depF a:Nat):Int):=by
 unfold uG depF;have hd:∀k,depL (a.Coefs.drop a.Coefs.length) a.Coefs.length k=k:=λk=>by rw[d7];rfl
 have:=zCi a h a.Coefs.length (cu _) (hd _) 0 hd;rw[cV] at this;rw[this];rfl
def BA(a:zA):Prop:=a.Coefs.length<=1000
def BL(l:List zA):Prop:=l.length<=1000/\∀a∈l,BA a
def okA(ae:Int)(a:zA):Bool:=validB a&&decide ((depF a:Int)<=ae)
def sideB(l:List zA)(ae:Int):Bool:=(decide (1<=l.length)&&decide (l.length<=2))&&l.all (okA ae)
theorem implBound(a:zA)(h:BA a)(d:Int):mI a d=some (!(okA d a)):=by
 unfold mI okA;have h':a.Coefs.length<=1048576:=by unfold BA at h;omega
 rw[implValid a h',implDepth a h'];cases validB a with
 | false=>rfl
 | true=>
  by_cases hd:(depF a:Int)<=d
  ·have:¬((depF a:Int)>d):=by omega
   simp[hd,this]
  ·have:((depF a:Int)>d):=by omega
   simp[hd,this]
def BN(bi:List yD):Prop:=bi.length<=100000/\∀x∈bi,BL x.Lo/\BL x.Hi
def nestB(bi:List yD):Bool:=decide (bi.length<=4)&&(List.range bi.length).all λi=>sideB (bi.getD i ⟨[],[]⟩).Lo i&&sideB (bi.getD i ⟨[],[]⟩).Hi i
end Go.LN
namespace Go.LN
end Go.LN
namespace Go.LN
theorem zGe{b:Nat}(p:List Int)(h:p.length*b<=140737488355328):app b ([]:List Int) p=some p:=by
 rw[jD (by simpa using h)];rfl
end Go.LN
namespace Go.LN
def nameL:List UInt8->Bool
 | [c]=>decide (65<=c.toNat)&&decide (c.toNat<=68)
 | _=>false
theorem zFv{P:UInt8->Prop}(h:∀n:Fin 256,P (UInt8.ofNat n.val))(c:UInt8):P c:=by
 have:=h ⟨c.toNat,c.toNat_lt⟩;simpa using this
theorem zGf(c:UInt8):decide (0<=Lib.indexByte [65,66,67,68] c)=nameL [c]:=
 zFv (P:=λc=>decide (0<=Lib.indexByte [65,66,67,68] c)=nameL [c]) (by decide +kernel) c
theorem zGg(c:UInt8):(!(Op.bytesLess [c] [65])&&(Op.bytesLess [c] [68]||[c]==[68]))=nameL [c]:=
 zFv (P:=λc=>(!(Op.bytesLess [c] [65])&&(Op.bytesLess [c] [68]||[c]==[68]))=nameL [c]) (by decide +kernel) c
theorem implIsArray(s:Str):qR s=some (nameL s.l):=by
 obtain⟨l⟩:=s;unfold qR
 match l with
 | []=>rfl
 | [c]=>
  have:qD ⟨[65,66,67,68]⟩ ⟨[c]⟩=some (decide (0<=Lib.indexByte [65,66,67,68] c)):=rfl;simp only[this,zGf];rfl
 | c::d::r=>
  have:(((c::d::r).length:Int)==1)=false:=by simp;omega
  simp only[this,bF,if_false];rfl
def dimB(n:Int):Bool:=decide (1<=n)&&decide (n<=6)
theorem len12(n:Nat):(decide ((1:Int)<=(n:Int))&&decide ((n:Int)<=2))=(decide (1<=n)&&decide (n<=2)):=by
 have e1:decide ((1:Int)<=(n:Int))=decide (1<=n):=by simp;omega
 have e2:decide ((n:Int)<=2)=decide (n<=2):=by simp;omega
 rw[e1,e2]
theorem zD6(l:List UInt8):(nameL l=false/\((l.length:Int) != 1)=true)∨(((l.length:Int) != 1)=false/\nameL l=(!(Op.bytesLess l [65])&&(Op.bytesLess l [68]||l==[68]))):=by
 match l with
 | []=>exact .inl ⟨rfl,rfl⟩
 | [c]=>exact .inr ⟨rfl,(zGg c).symm⟩
 | c::d::r=>exact .inl ⟨rfl,by simp;omega⟩
def accB(a:zE)(d:Int):Bool:=nameL a.Array.l&&(decide (1<=a.Subs.length)&&decide (a.Subs.length<=2))&&a.Subs.all (okA d)
theorem implAcc1(a:zA)(h:BA a)(d:Int):uX a d=some (!(okA d a)):=implBound a h d
theorem implAccess(a:zE)(h:BL a.Subs)(d:Int):sX a d=some (accB a d):=by
 unfold sX accB;rw[implIsArray,nL,len12];have hc:=zCg (f:=λx0=>uX x0 d) (p:=λx=>!(okA d x)) a.Subs (λx hx=>implAcc1 x (h.2 x hx) d) (by have:=h.1;omega);cases nameL a.Array.l with
 | false=>rfl
 | true=>
  cases hb:(decide (1<=a.Subs.length)&&decide (a.Subs.length<=2)) with
  | false=>rfl
  | true=>
   simp only[oB,oS,if_true,hc,oP,id,cW];rw[List.not_any_eq_all_not];simp
theorem specAccess(a:zE)(h:BL a.Subs)(d:Int):tI a d=some (accB a d):=by
 unfold tI accB;have aE:=h.1;have hl:=zD4 (n:=a.Subs.length) (f:=wH a d) (P:=λi=>okA d (a.Subs.getD i ⟨[],0⟩)) (λi hi=>by
  rw[wH];have h1:((i:Int)<(a.Subs.length:Int)):=by omega
  have ha:a.Subs[i].Coefs.length<=1048576:=by have:=h.2 _ (gM hi);unfold BA at this;omega
  have hg:a.Subs.getD i ⟨[],0⟩=a.Subs[i]:=by simp[hi]
  simp only[h1,dT,if_true,tX hi,oB,oS,specValid _ ha,specDepth _ ha,hg,okA];rw[qI (by omega)];cases validB a.Subs[i] with
  | false=>rfl
  | true=>
   by_cases hd:(depF a.Subs[i]:Int)<=d
   ·have:¬((depF a.Subs[i]:Int)>d):=by omega
    simp[hd,this]
   ·have:((depF a.Subs[i]:Int)>d):=by omega
    simp[hd,this]) (by
  rw[wH];simp)
 rw[hl,zCT a.Subs (okA d)];cases hb:a.Subs.all (okA d) with
 | false=>simp
 | true=>
  simp only[if_true,oB,oS,Bool.and_true];rcases zD6 a.Array.l with⟨n1,n2⟩|⟨n1,n2⟩
  ·have:((a.Array.l.length:Int)==1)=false:=by simpa [bne] using n2
   simp[n1,this]
  ·have:((a.Array.l.length:Int)==1)=true:=by simpa [bne] using n1
   simp only[this,if_true,n2];cases Op.bytesLess a.Array.l [65] with
   | true=>simp
   | false=>
    cases (Op.bytesLess a.Array.l [68]||a.Array.l==[68]) with
    | false=>simp
    | true=>
     by_cases e1:1<=a.Subs.length
     ·have:((a.Subs.length:Int)>=1):=by omega
      have e2:decide ((a.Subs.length:Int)<=2)=decide (a.Subs.length<=2):=by simp;omega
      simp[this,e1,e2]
     ·have:¬((a.Subs.length:Int)>=1):=by omega
      simp[this,e1]
end Go.LN
namespace Go.LN
def noA(a:zA):Bool:=decide (a.Coefs.length=0)&&(a.Const==0)
def noC(a:zE):Bool:=(a.Array.l==[])&&decide (a.Subs.length=0)
theorem len0(n:Nat):((n:Int)==0)=decide (n=0):=by
 by_cases h:n=0
 ·simp[h]
 ·have:¬(n:Int)=0:=by omega
  simp[h]
theorem implNoA(a:zA):sY a=some (noA a):=by
 unfold sY noA;rw[len0];by_cases h:a.Coefs.length=0 <;> simp[h]
theorem specNoA(a:zA):tU a=some (noA a):=by
 unfold tU noA;rw[len0];by_cases h:a.Coefs.length=0 <;> simp[h]
theorem implNoC(a:zE):tG a=some (noC a):=by
 unfold tG noC;rw[len0];cases h:(a.Array.l==[]) <;> simp
theorem specNoC(a:zE):tA a=some (noC a):=by
 unfold tA noC;rw[len0];cases h:(a.Array.l==[]) <;> simp
def BE:Nat->zB->Prop
 | 0,e=>BA e.Index/\BL e.Read.Subs/\e.Kids=[]
 | n+1,e=>BA e.Index/\BL e.Read.Subs/\e.Kids.length<=1000/\∀k∈e.Kids,BE n k
theorem BE.own{n:Nat}{e:zB}(h:BE n e):BA e.Index/\BL e.Read.Subs/\e.Kids.length<=1000:=by
 cases n with
 | zero=>obtain⟨h1,h2,h3⟩:=h;exact⟨h1,h2,by simp[h3]⟩
 | succ n=>exact⟨h.1,h.2.1,h.2.2.1⟩
theorem BE.kid{n:Nat}{e k:zB}(h:BE n e)(hk:k∈e.Kids):∃m,n=m+1/\BE m k:=by
 cases n with
 | zero=>obtain⟨_,_,h3⟩:=h;rw[h3] at hk;cases hk
 | succ n=>exact⟨n,rfl,h.2.2.2 k hk⟩
def kidsN(k:Int):Int:=if k=1∨k=2∨k=3 then 0 else if k=4∨k=5∨k=6 then 2 else -1
def ownB(e:zB)(d:Int):Bool:=
 if e.Kind=2 then(e.Num==0)&&noC e.Read&&okA d e.Index
 else if e.Kind=3 then(e.Num==0)&&noA e.Index&&accB e.Read d
 else if e.Kind=1 then(decide (0<=e.Num)&&decide (e.Num<=99))&&noA e.Index&&noC e.Read
 else(e.Num==0)&&noA e.Index&&noC e.Read
theorem specKids(k:Int):rH k=some (kidsN k):=by
 unfold rH kidsN;by_cases h1:k=1
 ·subst h1;rfl
 ·by_cases h2:k=2
  ·subst h2;rfl
  ·by_cases h3:k=3
   ·subst h3;rfl
   ·by_cases h4:k=4
    ·subst h4;rfl
    ·by_cases h5:k=5
     ·subst h5;rfl
     ·by_cases h6:k=6
      ·subst h6;rfl
      ·simp[h1,h2,h3,h4,h5,h6]
theorem zFw(a:zA)(d:Int):okA d a=(validB a&&decide ((depF a:Int)<=d)):=rfl
theorem specOwn(e:zB)(d:Int)(h1:BA e.Index)(h2:BL e.Read.Subs):qE e d=some (ownB e d):=by
 unfold qE ownB;have h':e.Index.Coefs.length<=1048576:=by unfold BA at h1;omega
 simp only[specNoC,specNoA,specValid _ h',specDepth _ h',specAccess _ h2,oB,oS,oP,id];by_cases k2:e.Kind=2
 ·have:(e.Kind==2)=true:=by simpa using k2
  simp only[this,if_true,k2];cases (e.Num==0) with
  | false=>simp
  | true=>
   cases noC e.Read with
   | false=>simp
   | true=>rw[zFw];cases validB e.Index <;> simp
 ·have q2:(e.Kind==2)=false:=by simpa using k2
  by_cases k3:e.Kind=3
  ·have:(e.Kind==3)=true:=by simpa using k3
   simp only[q2,k2,this,if_true,k3,bF,if_false];cases (e.Num==0) with
   | false=>simp
   | true=>cases noA e.Index <;> simp
  ·have q3:(e.Kind==3)=false:=by simpa using k3
   by_cases k1:e.Kind=1
   ·have:(e.Kind==1)=true:=by simpa using k1
    simp only[q2,k2,q3,k3,this,if_true,k1,bF,if_false];by_cases n0:0<=e.Num
    ·have n0':e.Num>=0:=n0;by_cases n9:e.Num<=99
     ·simp only[n0,n0',n9,dT,if_true,cW];cases noA e.Index <;> simp
     ·simp[n0,n0',n9]
    ·have n0':¬e.Num>=0:=n0;simp[n0,n0']
   ·have q1:(e.Kind==1)=false:=by simpa using k1
    simp only[q2,k2,q3,k3,q1,k1,bF,if_false];cases (e.Num==0) with
    | false=>simp
    | true=>cases noA e.Index <;> simp
def shapeB(d:Int):Nat->zB->Bool
 | 0,_=>false
 | n+1,e=>(kidsN e.Kind==(e.Kids.length:Int))&&ownB e d&&e.Kids.all (shapeB d n)
def cnt:Nat->zB->Nat
 | 0,_=>1
 | n+1,e=>1+(e.Kids.map (cnt n)).sum
theorem specShape(d:Int):∀(n m:Nat) (e:zB),n<=100->BE m e->vC e d (n:Int)=some (shapeB d n e)
 | 0,m,e,hn,hb=>by
  rw[vC]
  rfl
 | n+1,m,e,hn,hb=>by
  rw[vC]
  obtain⟨b1,b2,b3⟩:=hb.own
  have h1:¬(((n+1:Nat):Int)<1):=by omega
  have hW:W (((n+1:Nat):Int) - 1)=(n:Int):=by rw[vM (by omega) (by omega)];omega
  have hl:=zD4 (n:=e.Kids.length) (f:=xY e d ((n+1:Nat):Int)) (P:=λi=>shapeB d n (e.Kids.getD i e)) (λi hi=>by
   rw[xY]
   have k1:((i:Int)<(e.Kids.length:Int)):=by omega
   have hg:e.Kids.getD i e=e.Kids[i]:=by simp[hi]
   obtain⟨m',_,hm'⟩:=hb.kid (gM hi)
   simp only[k1,dT,if_true,tX hi,oB,oS,same,hW,specShape d n m' _ (by omega) hm',hg]
   rw[qI (by omega)]
   cases shapeB d n e.Kids[i] <;> rfl) (by
   rw[xY];simp)
  simp only[h1,dF,bF,if_false,oB,oS,specKids,specOwn e d b1 b2,shapeB,same,hl,zCT e.Kids (shapeB d n)]
  cases hk:(kidsN e.Kind==(e.Kids.length:Int)) with
  | false=>
   have:(kidsN e.Kind != (e.Kids.length:Int))=true:=by simp[bne,hk]
   simp[this]
  | true=>
   have:(kidsN e.Kind != (e.Kids.length:Int))=false:=by simp[bne,hk]
   simp only[this,bF,if_false,oP,oS,cW]
   cases ownB e d with
   | false=>simp
   | true=>cases e.Kids.all (shapeB d n) <;> simp
theorem zB8{d:Int}{n:Nat}{e:zB}(h:shapeB d (n+1) e=true):(e.Kids=[]∨∃a b,e.Kids=[a,b])/\∀k∈e.Kids,shapeB d n k=true:=by
 simp only[shapeB,bA] at h;refine⟨?_,b8.1 h.2⟩;have:=eq_of_beq h.1.1;unfold kidsN at this
 match hk:e.Kids with
 | []=>exact .inl rfl
 | [a]=>rw[hk] at this;simp at this;split at this <;> (try split at this) <;> omega
 | [a,b]=>exact .inr ⟨a,b,rfl⟩
 | a::b::c::r=>rw[hk] at this;simp at this;split at this <;> (try split at this) <;> omega
theorem zEM{d:Int}:∀(n:Nat) (e:zB),shapeB d n e=true->cnt n e+1<=2 ^ n
 | 0,e,h=>by cases h
 | n+1,e,h=>by
  obtain⟨h1,h2⟩:=zB8 h
  rw[cnt,Nat.pow_succ]
  rcases h1 with hk|⟨a,b,hk⟩
  ·rw[hk]
   have:=Nat.one_le_two_pow (n:=n)
   simp;omega
  ·rw[hk] at h2 ⊢
   have ha:=zEM n a (h2 a (by simp))
   have hb:=zEM n b (h2 b (by simp))
   simp only[cM,List.map_nil,List.sum_cons,List.sum_nil]
   omega
theorem specCount(d:Int):∀(n m:Nat) (e:zB),shapeB d n e=true->n<=m->n<=10->m<=100->vV e (m:Int)=some ((cnt n e:Nat):Int)
 | 0,m,e,h,_,_,_=>by cases h
 | n+1,m,e,h,hm,h10,h100=>by
  have hc:=zEM (n+1) e h
  have hpw:2 ^ (n+1)<=2 ^ 10:=Nat.pow_le_pow_right (by omega) h10
  obtain⟨h1,h2⟩:=zB8 h
  have hpos:((m:Int)>0):=by omega
  have hW:W ((m:Int) - 1)=((m - 1:Nat):Int):=by rw[vM (by omega) (by omega)];omega
  rw[vV]
  simp only[same,cnt] at hc ⊢
  rcases h1 with hk|⟨a,b,hk⟩
  ·rw[xZ]
   simp[hk]
  ·rw[hk] at h2 hc ⊢
   have ha:=specCount d n (m - 1) a (h2 a (by simp)) (by omega) (by omega) (by omega)
   have hb:=specCount d n (m - 1) b (h2 b (by simp)) (by omega) (by omega) (by omega)
   simp only[cM,List.map_nil,List.sum_cons,List.sum_nil] at hc ⊢
   have l0:((0:Int)<(e.Kids.length:Int)):=by rw[hk];simp
   have l1:((1:Int)<(e.Kids.length:Int)):=by rw[hk];simp
   have l2:¬((2:Int)<(e.Kids.length:Int)):=by rw[hk];simp
   have i0:idx e.Kids 0=some a:=by rw[hk];rfl
   have i1:idx e.Kids 1=some b:=by rw[hk];rfl
   have w0:W ((0:Int)+1)=1:=by rw[vM (by omega) (by omega)];rfl
   have w1:W ((1:Int)+1)=2:=by rw[vM (by omega) (by omega)];rfl
   rw[xZ]
   simp only[l0,hpos,dT,if_true,oP,oB,oS,i0,same,hW,ha,w0]
   rw[xZ]
   simp only[l1,hpos,dT,if_true,oP,oB,oS,i1,same,hW,hb,w1]
   rw[xZ]
   simp only[l2,dF,bF,if_false,oP,oB,oS,id]
   generalize cnt n a=x at hc ⊢
   generalize cnt n b=y at hc ⊢
   have e1:W ((1:Int)+(x:Int))=((1+x:Nat):Int):=by rw[vM (by omega) (by omega)];omega
   have e2:W (((1+x:Nat):Int)+(y:Int))=((1+x+y:Nat):Int):=by rw[vM (by omega) (by omega)];omega
   rw[e1,e2]
   congr 2
   omega
def headB(e:zB)(d:Int):Bool:=(kidsN e.Kind==(e.Kids.length:Int))&&ownB e d
theorem zFH(e:zB)(d deep c:Int)(h1:BA e.Index)(h2:BL e.Read.Subs)(hc:¬(W (c+1)>12))(hd:¬(deep>5)):
 wN e d deep c=if headB e d=true then(if e.Kids.length=0 then some (true,W (c+1)) else(do
  let x1<-idx e.Kids 0
  let (y12,y13)<-wN x1 d (W (deep+1)) (W (c+1))
  if y12 then
   let x2<-idx e.Kids 1
   let (y15,y16)<-wN x2 d (W (deep+1)) y13
   pure (y15,y16)
  else
   pure (false,y13))) else some (false,W (c+1)):=by
 have h':e.Index.Coefs.length<=1048576:=by unfold BA at h1;omega
 have hop:oM e.Kind=some (decide (4<=e.Kind)&&decide (e.Kind<=6)):=by unfold oM;rw[nL];rfl
 rw[wN]
 simp only[hc,hd,dF,bF,if_false,oP,oB,oS,implNoA,implNoC,implValid _ h',implDepth _ h',implAccess _ h2,hop,nL,len0,same,headB,ownB]
 by_cases k1:e.Kind=1
 ·have hk:kidsN e.Kind=0:=by rw[k1];rfl
  have b1:(e.Kind != 1)=false:=by simp[k1]
  have b1':(e.Kind==1)=true:=by simp[k1]
  have b2:(e.Kind != 2)=true:=by simp[k1]
  have b3:(e.Kind != 3)=true:=by simp[k1]
  have n2:¬e.Kind=2:=by omega
  have n3:¬e.Kind=3:=by omega
  have hz:((0:Int)==(e.Kids.length:Int))=decide (e.Kids.length=0):=by rw[<- len0];exact Bool.beq_comm
  simp only[b1,b1',b2,b3,hk,hz,n2,n3,k1,show kidsN 1=0 from rfl,if_true,if_false,bF]
  cases noA e.Index <;> cases noC e.Read <;> cases (decide (0<=e.Num)&&decide (e.Num<=99)) <;> by_cases hl:e.Kids.length=0 <;> simp[hl]
 ·have b1:(e.Kind != 1)=true:=by simp[k1]
  have b1':(e.Kind==1)=false:=by simp[k1]
  by_cases k2:e.Kind=2
  ·have hk:kidsN e.Kind=0:=by rw[k2];rfl
   have b2:(e.Kind != 2)=false:=by simp[k2]
   have b2':(e.Kind==2)=true:=by simp[k2]
   have b3:(e.Kind != 3)=true:=by simp[k2]
   have hz:((0:Int)==(e.Kids.length:Int))=decide (e.Kids.length=0):=by rw[<- len0];exact Bool.beq_comm
   simp only[b1,b1',b2,b2',b3,hk,hz,k2,show kidsN 2=0 from rfl,if_true,if_false,bF,zFw,bne]
   cases (e.Num==0) <;> cases noC e.Read <;> cases validB e.Index <;> by_cases hdd:(depF e.Index:Int)<=d <;> by_cases hl:e.Kids.length=0 <;> simp[hl,hdd]
  ·have b2:(e.Kind != 2)=true:=by simp[k2]
   have b2':(e.Kind==2)=false:=by simp[k2]
   by_cases k3:e.Kind=3
   ·have hk:kidsN e.Kind=0:=by rw[k3];rfl
    have b3:(e.Kind != 3)=false:=by simp[k3]
    have b3':(e.Kind==3)=true:=by simp[k3]
    have hz:((0:Int)==(e.Kids.length:Int))=decide (e.Kids.length=0):=by rw[<- len0];exact Bool.beq_comm
    simp only[b1,b1',b2,b2',b3,b3',hk,hz,k3,k2,show kidsN 3=0 from rfl,if_true,if_false,bF,bne]
    cases (e.Num==0) <;> cases noA e.Index <;> cases accB e.Read d <;> by_cases hl:e.Kids.length=0 <;> simp[hl]
   ·have b3:(e.Kind != 3)=true:=by simp[k3]
    have b3':(e.Kind==3)=false:=by simp[k3]
    simp only[b1,b1',b2,b2',b3,b3',k1,k2,k3,if_true,if_false,bF,bne]
    by_cases ho:4<=e.Kind/\e.Kind<=6
    ·have hk:kidsN e.Kind=2:=by unfold kidsN;rw[if_neg (by omega),if_pos (by omega)]
     have hz:((2:Int)==(e.Kids.length:Int))=decide (e.Kids.length=2):=by
      by_cases hl:e.Kids.length=2
      ·simp[hl]
      ·have:¬(2:Int)=(e.Kids.length:Int):=by omega
       simp[hl,this]
     have hz':((e.Kids.length:Int)==2)=decide (e.Kids.length=2):=by rw[<- hz];exact Bool.beq_comm
     simp only[hk,hz,hz',ho.1,ho.2,dT,cW]
     have eta:∀(o:Option (Bool×Int)),(o.bind λx=>some (x.fst,x.snd))=o:=by rintro(_|⟨a,b⟩) <;> rfl
     cases (e.Num==0) <;> cases noA e.Index <;> cases noC e.Read <;> by_cases hl:e.Kids.length=2 <;> first|(simp[hl];done)|(simp[hl];exact eta _)
    ·have hk:kidsN e.Kind=-1:=by unfold kidsN;rw[if_neg (by omega),if_neg (by omega)]
     have hz:((-1:Int)==(e.Kids.length:Int))=false:=beq_false_of_ne (by omega)
     have ho':(decide (4<=e.Kind)&&decide (e.Kind<=6))=false:=by
      rw[Bool.and_eq_false_iff];simp;omega
     simp only[hk,hz,ho']
     cases (e.Num==0) <;> cases noA e.Index <;> cases noC e.Read <;> simp
theorem implScan(d:Int):∀(L m:Nat) (e:zB) (c:Nat),L<=5->BE m e->c<=12->∃r c',wN e d (6 - (L:Int)) (c:Int)=some (r,c')/\(shapeB d L e=true/\c+cnt L e<=12->r=true/\c'=((c+cnt L e:Nat):Int))/\(¬(shapeB d L e=true/\c+cnt L e<=12)->r=false)
 | 0,m,e,c,hL,hb,hc=>by
  have hw:W ((c:Int)+1)=((c+1:Nat):Int):=qI (by omega)
  rw[wN]
  have hd:((6:Int) - ((0:Nat):Int)>5):=by omega
  simp only[hd,dT,oP]
  refine⟨false,W ((c:Int)+1),?_,⟨λh=>(by cases h.1),λ_=>rfl⟩⟩
  by_cases h:W ((c:Int)+1)>12 <;> simp[h]
 | L+1,m,e,c,hL,hb,hc=>by
  have hw:W ((c:Int)+1)=((c+1:Nat):Int):=qI (by omega)
  obtain⟨b1,b2,b3⟩:=hb.own
  have hd:¬((6:Int) - ((L+1:Nat):Int)>5):=by omega
  have hdw:W ((6:Int) - ((L+1:Nat):Int)+1)=6 - (L:Int):=by rw[vM (by omega) (by omega)];omega
  have hcp:1<=cnt (L+1) e:=by rw[cnt];omega
  by_cases hc12:c+1>12
  ·rw[wN]
   have h12:(W ((c:Int)+1)>12):=by rw[hw];omega
   simp only[h12,dT,if_true,oP,oB,oS]
   exact⟨false,_,rfl,λh=>absurd h.2 (by omega),λ_=>rfl⟩
  ·have h12:¬(W ((c:Int)+1)>12):=by rw[hw];omega
   rw[zFH e d _ _ b1 b2 h12 hd]
   by_cases hh:headB e d=true
   ·rw[if_pos hh]
    have hsh:shapeB d (L+1) e=e.Kids.all (shapeB d L):=by
     unfold headB at hh
     rw[shapeB,hh,cW]
    by_cases hl:e.Kids.length=0
    ·rw[if_pos hl]
     have hn:e.Kids=[]:=List.length_eq_zero_iff.1 hl
     refine⟨true,_,rfl,λ_=>⟨rfl,?_⟩,λh=>absurd ⟨by rw[hsh,hn];rfl,by rw[cnt,hn];simp;omega⟩ h⟩
     rw[hw,cnt,hn];rfl
    ·rw[if_neg hl]
     have hkn:∃a b,e.Kids=[a,b]:=by
      simp only[headB,bA] at hh
      have:=eq_of_beq hh.1
      unfold kidsN at this
      match hk:e.Kids with
      | []=>rw[hk] at hl;simp at hl
      | [a]=>rw[hk] at this;simp at this;split at this <;> (try split at this) <;> omega
      | [a,b]=>exact⟨a,b,rfl⟩
      | a::b::c::r=>rw[hk] at this;simp at this;split at this <;> (try split at this) <;> omega
     obtain⟨a,b,hk⟩:=hkn
     obtain⟨m1,_,hba⟩:=hb.kid (k:=a) (by rw[hk];simp)
     obtain⟨m2,_,hbb⟩:=hb.kid (k:=b) (by rw[hk];simp)
     have i0:idx e.Kids 0=some a:=by rw[hk];rfl
     have i1:idx e.Kids 1=some b:=by rw[hk];rfl
     have hcnt:cnt (L+1) e=1+(cnt L a+cnt L b):=by rw[cnt,hk];simp
     have hsh2:shapeB d (L+1) e=(shapeB d L a&&shapeB d L b):=by rw[hsh,hk];simp
     rw[hdw,hw]
     obtain⟨r1,c1,e1,k1,k2⟩:=implScan d L m1 a (c+1) (by omega) hba (by omega)
     simp only[i0,i1,e1,oB,oS,oP]
     by_cases q1:shapeB d L a=true/\c+1+cnt L a<=12
     ·obtain⟨rfl,rfl⟩:=k1 q1
      obtain⟨r2,c2,e2,k3,k4⟩:=implScan d L m2 b (c+1+cnt L a) (by omega) hbb q1.2
      simp only[if_true,e2,oS]
      refine⟨r2,c2,rfl,λh=>?_,λh=>?_⟩
      ·rw[hsh2,hcnt,bA] at h
       obtain⟨rfl,rfl⟩:=k3 ⟨h.1.2,by omega⟩
       refine⟨rfl,?_⟩
       rw[hcnt];congr 1;omega
      ·refine k4 λh'=>h ⟨by rw[hsh2,q1.1,h'.1];rfl,by rw[hcnt];omega⟩
     ·obtain rfl:=k2 q1
      simp only[bF,if_false]
      refine⟨false,c1,rfl,λh=>?_,λ_=>rfl⟩
      rw[hsh2,hcnt,bA] at h
      exact absurd ⟨h.1.1,by omega⟩ q1
   ·rw[if_neg hh]
    refine⟨false,_,rfl,λh=>?_,λ_=>rfl⟩
    have:=h.1
    unfold headB at hh
    rw[shapeB,bA] at this
    exact absurd this.1 hh
def BS(s:zL):Prop:=BL s.Write.Subs/\∃m,BE m s.Value
def stmtB(s:zL)(d:Int):Bool:=(decide (0<=d)&&decide (d<=4))&&accB s.Write d&&(shapeB d 5 s.Value&&decide (cnt 5 s.Value<=12))
theorem implStmt(s:zL)(d:Int)(h:BS s):tN s d=some (stmtB s d):=by
 obtain⟨h1,m,h2⟩:=h;unfold tN stmtB;rw[nL,implAccess _ h1];obtain⟨r,c',e1,k1,k2⟩:=implScan d 5 m s.Value 0 (by omega) h2 (by omega);rw[show (6:Int) - ((5:Nat):Int)=1 by omega,nZ] at e1;rw[e1];simp only[cO] at k1 k2;have hr:r=(shapeB d 5 s.Value&&decide (cnt 5 s.Value<=12)):=by
  by_cases q:shapeB d 5 s.Value=true/\cnt 5 s.Value<=12
  ·rw[(k1 q).1,q.1];simp[q.2]
  ·rw[k2 q];cases hs:shapeB d 5 s.Value with
   | false=>rfl
   | true=>
    have:¬cnt 5 s.Value<=12:=λh=>q ⟨hs,h⟩;simp[this]
 rw[hr];cases (decide (0<=d)&&decide (d<=4)) <;> cases accB s.Write d <;> simp
theorem specStmt(s:zL)(d:Int)(h:BS s):uS s d=some (stmtB s d):=by
 obtain⟨h1,m,h2⟩:=h;unfold uS stmtB;have hs:=specShape d 5 m s.Value (by omega) h2;rw[show ((5:Nat):Int)=5 from rfl] at hs;rw[specAccess _ h1,hs];by_cases d0:0<=d
 ·have d0':¬d<0:=by omega
  by_cases d4:d<=4
  ·have d4':¬d>4:=by omega
   cases accB s.Write d with
   | false=>simp[d0,d0',d4,d4']
   | true=>
    cases hsh:shapeB d 5 s.Value with
    | false=>simp[d0,d0',d4,d4']
    | true=>
     have hc:=specCount d 5 5 s.Value hsh (by omega) (by omega) (by omega);rw[show ((5:Nat):Int)=5 from rfl] at hc;have e:decide (((cnt 5 s.Value:Nat):Int)<=12)=decide (cnt 5 s.Value<=12):=by simp;omega
     simp[d0,d0',d4,d4',hc,e]
  ·have d4':d>4:=by omega
   simp[d0,d0',d4,d4']
 ·have d0':d<0:=by omega
  simp[d0,d0']
end Go.LN
namespace Go.LN
def szL:List Int->Int->Int
 | [],n=>n
 | d::l,n=>szL l (W (n*d))
def sizeF(a:yQ):Int:=szL a.Dims 1
def AV(a:zE):Prop:=a.Subs ≠ []/\a.Subs.length<=2/\∀s∈a.Subs,s.Coefs.length=4
end Go.LN
namespace Go.LN
theorem specCopyAff(a:zA)(h:BA a):vH a=some a:=by
 obtain⟨C,k⟩:=a;unfold vH BA at *;simp only[len0] at h ⊢;by_cases h0:C.length=0
 ·have:C=[]:=List.length_eq_zero_iff.1 h0;subst this;rfl
 ·have hpn:app 8 ([]:List Int) C=some C:=zGe C (by omega);simp only[h0,dF,bF,if_false,hpn,oB,oS];rfl
theorem zB9(a:zE)(h:BL a.Subs):∀(j i:Nat) (o:List zA),i+j=a.Subs.length->o.length=i->xI a (i:Int) o=some (o++a.Subs.drop i):=by
 obtain⟨h1,h2⟩:=h;intro j
 induction j with
 | zero=>
  intro i o hi ho;rw[xI];have:¬((i:Int)<(a.Subs.length:Int)):=by omega
  simp only[this,dF,bF,if_false];rw[show a.Subs.drop i=[] from dN.2 (by omega),cr];rfl
 | succ j ih=>
  intro i o hi ho;rw[xI];have av:i<a.Subs.length:=by omega
  have hc:((i:Int)<(a.Subs.length:Int)):=by omega
  have happ:app 32 o [a.Subs[i]]=some (o++[a.Subs[i]]):=jD (by simp;omega);simp only[hc,dT,if_true,tX av,oB,oS,specCopyAff _ (h2 _ (gM av)),happ];rw[qI (by omega),ih (i+1) _ (by omega) (by simp[ho]),cA,List.singleton_append,<- gC av]
theorem specCopyAcc(a:zE)(h:BL a.Subs):vJ a=some a:=by
 unfold vJ;have:=zB9 a h _ 0 [] (cO _) rfl;rw[nZ,cI,cq] at this;rw[this];rfl
end Go.LN
namespace Go.LN
def BP(x:xF):Prop:=BN x.Nest/\x.Body.length<=100000/\∀s∈x.Body,BS s
end Go.LN
namespace Go.LN
theorem zFI{α:Type}{l:List α}{f:Int->List α->Option (List α)}(step:∀(i:Nat) (h:i<l.length) (o:List α),o.length=i->f (i:Int) o=f ((i+1:Nat):Int) (o++[l[i]]))(fin:∀o,f (l.length:Int) o=some o):f 0 []=some l:=by
 have key:∀j i,i+j=l.length->f (i:Int) (l.take i)=some l:=by
  intro j
  induction j with
  | zero=>
   intro i hi;rw[show i=l.length by omega,fin,cC (cu _)]
  | succ j ih=>
   intro i hi;have av:i<l.length:=by omega
   have:=ih (i+1) (by omega);rw[cY,bX av,Option.toList_some] at this;rw[step i av _ (by rw[cd];omega)];exact this
 exact key _ 0 (cO _)
theorem copyExpr:∀(m:Nat) (e:zB),BE m e->tD e=some e
 | m,e,h=>by
  obtain⟨h1,h2,h3⟩:=h.own
  rw[tD]
  have hl:=zFI (l:=e.Kids) (f:=λi o=>wD e i o) (λi hi o ho=>by
   show wD e (i:Int) o=_
   rw[wD]
   have k1:((i:Int)<(e.Kids.length:Int)):=by omega
   obtain⟨m',hm,hm'⟩:=h.kid (gM hi)
   have happ:app 112 o [e.Kids[i]]=some (o++[e.Kids[i]]):=jD (by simp;omega)
   have hr:=copyExpr m' e.Kids[i] hm'
   simp only[k1,dT,if_true,tX hi,oB,oS,same,hr,happ]
   rw[qI (by omega)]) (λo=>by
   show wD e (e.Kids.length:Int) o=_
   rw[wD];simp)
  simp only[specCopyAff _ h1,specCopyAcc _ h2,oB,oS,same]
  rw[show wD e 0 []=some e.Kids from hl]
  clear hl h h1 h2 h3
  cases e;rfl
theorem copyStmt(s:zL)(h:BS s):pB s=some s:=by
 obtain⟨h1,m,h2⟩:=h;unfold pB;rw[specCopyAcc _ h1,copyExpr m _ h2];rfl
end Go.LN
namespace Go.LN
theorem BE.up1:∀{n:Nat}{e:zB},BE n e->BE (n+1) e
 | 0,e,⟨h1,h2,h3⟩=>⟨h1,h2,by rw[h3];simp,by rw[h3];intro k hk;cases hk⟩
 | n+1,e,⟨h1,h2,h3,h4⟩=>⟨h1,h2,h3,λk hk=>BE.up1 (h4 k hk)⟩
theorem BE.up{n m:Nat}{e:zB}(h:BE n e)(hm:n<=m):BE m e:=by
 obtain⟨k,rfl⟩:=Nat.exists_eq_add_of_le hm
 induction k with
 | zero=>exact h
 | succ k ih=>exact BE.up1 (ih (by omega))
def QL(q:Nat)(l:List zA):Prop:=l.length<=q/\∀a∈l,BA a
def QN(q:Nat)(bi:List yD):Prop:=bi.length<=2000/\∀x∈bi,QL q x.Lo/\QL q x.Hi
def QS(q:Nat)(s:zL):Prop:=QL q s.Write.Subs/\BA s.Value.Index/\BL s.Value.Read.Subs/\s.Value.Kids.length<=q/\∀k∈s.Value.Kids,BE 6 k
theorem QL.up{q r:Nat}{l:List zA}(h:QL q l)(hq:q<=r):QL r l:=⟨cT h.1 hq,h.2⟩
theorem QL.bl{q:Nat}{l:List zA}(h:QL q l)(hq:q<=1000):BL l:=⟨cT h.1 hq,h.2⟩
theorem QL.app{q k:Nat}{l m:List zA}(h:QL q l)(hm:QL k m):QL (q+k) (l++m):=by
 refine⟨by rw[lA];exact Nat.add_le_add h.1 hm.1,λa ha=>?_⟩;rcases cH.1 ha with ha|ha
 ·exact h.2 a ha
 ·exact hm.2 a ha
theorem QL.nil{q:Nat}:QL q []:=⟨cN _,λ_ h=>by cases h⟩
theorem QL.one{a:zA}(h:BA a):QL 1 [a]:=⟨cu _,λ_ h'=>cm.1 h' ▸ h⟩
theorem QL.two{a b:zA}(h:BA a)(h2:BA b):QL 2 [a,b]:=QL.app (QL.one h) (QL.one h2)
theorem QN.up{q r:Nat}{l:List yD}(h:QN q l)(hq:q<=r):QN r l:=⟨h.1,λx hx=>⟨(h.2 x hx).1.up hq,(h.2 x hx).2.up hq⟩⟩
theorem QN.set{q:Nat}{l:List yD}(h:QN q l){x:yD}(hx:QL q x.Lo/\QL q x.Hi)(k:Nat):QN q (l.set k x):=⟨by rw[cZ];exact h.1,zCd h.2 hx k⟩
theorem QS.up{q r:Nat}{s:zL}(h:QS q s)(hq:q<=r):QS r s:=⟨h.1.up hq,h.2.1,h.2.2.1,cT h.2.2.2.1 hq,h.2.2.2.2⟩
theorem QS.bs{q:Nat}{s:zL}(h:QS q s)(hq:q<=1000):BS s:=⟨h.1.bl hq,7,h.2.1,h.2.2.1,by have:=h.2.2.2.1;omega,h.2.2.2.2⟩
theorem zHL{a:zA}(h:a.Coefs.length=4):BA a:=by unfold BA;omega
theorem mut3(q:Nat)(hq:q<=300)(r:zK)(s:zL)(h:QS q s)(h0:0<=r.p)(h1:r.p<=900000000):Ok (qG r s) (λy=>QS (q+2) y.1/\0<=y.2.p/\y.2.p<=r.p+2):=by
 obtain⟨w1,w2,w3,w4,w5⟩:=h.up (show q<=q+2 by omega);obtain⟨v1,_,_,v4,_⟩:=id h;have v11:=v1.1;unfold qG;rw[copyStmt s (h.bs (by omega))];refine Ok.bind_some (Ok.call (mA r 40) ⟨h0,by omega⟩ λy2 y3 g1 g2 g3=>?_);have fin:∀(o:Str×List zA×Int×Int×List zB×zK),(QL (q+2) o.2.1/\(o.2.2.2.2.1.length<=q+2/\∀k∈o.2.2.2.2.1,BE 6 k)/\0<=o.2.2.2.2.2.p/\o.2.2.2.2.2.p<=r.p+2)->QS (q+2) (zL.mk (zE.mk o.1 o.2.1) (zB.mk o.2.2.1 o.2.2.2.1 s.Value.Index s.Value.Read o.2.2.2.2.1))/\0<=o.2.2.2.2.2.p/\o.2.2.2.2.2.p<=r.p+2:=
  λo ⟨a,b,c⟩=>⟨⟨a,w2,w3,b.1,b.2⟩,c⟩
 refine Ok.bind (φ:=λo:Str×List zA×Int×Int×List zB×zK=>QL (q+2) o.2.1/\(o.2.2.2.2.1.length<=q+2/\∀k∈o.2.2.2.2.1,BE 6 k)/\0<=o.2.2.2.2.2.p/\o.2.2.2.2.2.p<=r.p+2) ?_ λo ho=>by
  obtain⟨o1,o2,o3,o4,o5,o6⟩:=o;exact Ok.pure (fin _ ho)
 refine Ok.ite_beq (λ_=>?_) λ_=>?_
 ·exact Ok.call (jC y3 _) ⟨by decide,by omega,by omega⟩ λz t _ k3=>Ok.pure ⟨w1,⟨w4,w5⟩,by dsimp only;omega,by dsimp only;omega⟩
 refine Ok.bind (φ:=λo:List zA×Int×Int×List zB×zK=>QL (q+2) o.1/\(o.2.2.2.1.length<=q+2/\∀k∈o.2.2.2.1,BE 6 k)/\0<=o.2.2.2.2.p/\o.2.2.2.2.p<=r.p+2) ?_ λo ho=>by
  obtain⟨o2,o3,o4,o5,o6⟩:=o;exact Ok.pure ho
 refine Ok.ite_beq (λ_=>?_) λ_=>?_
 ·exact Ok.call (zFF 3) (by omega) λa c1 c2=>Ok.call mB trivial (Ok.app (by simp;omega) (Ok.pure ⟨v1.app (QL.two (zHL c1) (zHL rfl)),⟨w4,w5⟩,by dsimp only;omega,by dsimp only;omega⟩))
 refine Ok.bind (φ:=λo:Int×Int×List zB×zK=>(o.2.2.1.length<=q+2/\∀k∈o.2.2.1,BE 6 k)/\0<=o.2.2.2.p/\o.2.2.2.p<=r.p+2) ?_ λo ho=>by
  obtain⟨o3,o4,o5,o6⟩:=o;exact Ok.pure ⟨w1,ho⟩
 refine Ok.ite_beq (λ_=>?_) λ_=>?_
 ·exact Ok.call (qM y3 _) ⟨by decide,by omega,by omega,by decide⟩ λz t _ _ k3=>Ok.pure ⟨⟨w4,w5⟩,by dsimp only;omega,by dsimp only;omega⟩
 refine Ok.bind (φ:=λo:Int×List zB×zK=>(o.2.1.length<=q+2/\∀k∈o.2.1,BE 6 k)/\0<=o.2.2.p/\o.2.2.p<=r.p+2) ?_ λo ho=>by
  obtain⟨o4,o5,o6⟩:=o;exact Ok.pure ho
 refine Ok.ite_beq (λ_=>?_) λ_=>?_
 ·exact Ok.call (qM y3 _) ⟨by decide,by omega,by omega,by decide⟩ λz t _ _ k3=>Ok.pure ⟨⟨w4,w5⟩,by dsimp only;omega,by dsimp only;omega⟩
 refine Ok.bind (φ:=λo:List zB=>o.length<=q+2/\∀k∈o,BE 6 k) ?_ λo ho=>Ok.pure ⟨ho,by dsimp only;omega,by dsimp only;omega⟩;refine Ok.ite_beq (λ_=>?_) λ_=>Ok.pure ⟨w4,w5⟩;refine Ok.app (by show (_+1)*112<=_;omega) (Ok.pure ⟨by show (_++_:List zB).length<=_;rw[lA];show _+1<=_;omega,λk hk=>?_⟩);rcases cH.1 hk with hk|hk
 ·exact w5 k hk
 ·rw[cm.1 hk];exact BE.up (n:=0) ⟨cN _,⟨cN _,λ_ h=>by cases h⟩,rfl⟩ (by omega)
end Go.LN
namespace Go.LN
def PB(l:List xF):Prop:=l.length<=1000/\∀x∈l,BP x
theorem PB.set{l:List xF}(h:PB l){x:xF}(hx:BP x)(k:Nat):PB (l.set k x):=⟨by rw[cZ];exact h.1,zCd h.2 hx k⟩
theorem SE.be:∀{n:Nat}{e:zB},SE n e->BE n e
 | 0,e,⟨h1,h2,h3⟩=>⟨by have:=h1.1;unfold BA;omega,⟨by have:=h2.2.1;omega,λa ha=>by have:=(h2.2.2 a ha).1;unfold BA;omega⟩,h3⟩
 | n+1,e,⟨h1,h2,h3,h4⟩=>⟨by have:=h1.1;unfold BA;omega,⟨by have:=h2.2.1;omega,λa ha=>by have:=(h2.2.2 a ha).1;unfold BA;omega⟩,by omega,λk hk=>SE.be (h4 k hk)⟩
theorem SS.qs{s:zL}(h:SS s):QS 100 s:=by
 obtain⟨h1,h2⟩:=h;have hb:=SE.be h2;exact⟨⟨h1.2.1,λa ha=>by have:=(h1.2.2 a ha).1;unfold BA;omega⟩,hb.1,hb.2.1,by have:=h2.2.2.1;omega,λk hk=>BE.up (n:=4) (m:=6) (hb.2.2.2 k hk) (by omega)⟩
end Go.LN
namespace Go.LN
end Go.LN
namespace Go.LN
def DA(x:yQ):Prop:=(∃d,x.Dims=[d]/\1<=d/\d<=6)∨∃d e,x.Dims=[d,e]/\(1<=d/\d<=6)/\1<=e/\e<=6
def GA(l:List yQ):Prop:=l.length<=4/\(∀x∈l,DA x)/\l.Pairwise λx y=>x.Name.l ≠ y.Name.l
theorem mul36{d e:Int}(h1:1<=d)(h2:d<=6)(h3:1<=e)(h4:e<=6):1<=d*e/\d*e<=36:=by
 have:d=1∨d=2∨d=3∨d=4∨d=5∨d=6:=by omega
 rcases this with rfl|rfl|rfl|rfl|rfl|rfl <;> omega
theorem zH2{x:yQ}{d:Int}(h:x.Dims=[d])(h1:1<=d)(h2:d<=6):sizeF x=d:=by
 unfold sizeF;rw[h,szL,szL,Int.one_mul,vM (by omega) (by omega)]
theorem zH3{x:yQ}{d e:Int}(h:x.Dims=[d,e])(h1:1<=d)(h2:d<=6)(h3:1<=e)(h4:e<=6):sizeF x=d*e:=by
 unfold sizeF;have:=mul36 h1 h2 h3 h4;rw[h,szL,szL,szL,Int.one_mul,vM (x:=d) (by omega) (by omega),vM (by omega) (by omega)]
theorem DA.size{x:yQ}(h:DA x):1<=sizeF x/\sizeF x<=36:=by
 rcases h with⟨d,h,h1,h2⟩|⟨d,e,h,⟨h1,h2⟩,h3,h4⟩
 ·rw[zH2 h h1 h2];omega
 ·rw[zH3 h h1 h2 h3 h4];exact mul36 h1 h2 h3 h4
def nm(l:List yQ)(i:Nat):Nat:=match (l.getD i ⟨⟨[]⟩,[]⟩).Name.l with|c::_=>c.toNat|[]=>0
end Go.LN
namespace Go.LN
end Go.LN
namespace Go.LN
end Go.LN
namespace Go.LN
def c0(n:Int):zA:=⟨[0,0,0,0],n⟩
end Go.LN
namespace Go.LN
end Go.LN
namespace Go.LN
end Go.LN
namespace Go.LN
def Ch{α:Type}(R:α->α->Prop):List α->Prop
 | a::b::l=>R a b/\Ch R (b::l)
 | _=>True
theorem Ch.append{α:Type}{R:α->α->Prop}:∀{l m:List α},Ch R l->Ch R m->(∀a∈l,∀b∈m,R a b)->Ch R (l++m)
 | [],m,_,h2,_=>h2
 | [a],[],_,_,_=>trivial
 | [a],b::m,_,h2,h=>⟨h a (b9 ..) b (b9 ..),h2⟩
 | a::b::l,m,h1,h2,h=>⟨h1.1,Ch.append (l:=b::l) h1.2 h2 λx hx=>h x (bZ _ hx)⟩
theorem Ch.flat{α β:Type}{R:β->β->Prop}{f:α->List β}:∀{l:List α},(∀x∈l,Ch R (f x))->(l.Pairwise λx y=>∀a∈f x,∀b∈f y,R a b)->Ch R (l.flatMap f)
 | [],_,_=>trivial
 | x::l,h1,h2=>by
  rw[cj]
  have h2':=List.pairwise_cons.1 h2
  refine Ch.append (h1 x (b9 ..)) (Ch.flat (λy hy=>h1 y (bZ _ hy)) h2'.2) λa ha b hb=>?_
  obtain⟨y,hy,hb⟩:=cD.1 hb
  exact h2'.1 y hy a ha b hb
end Go.LN
namespace Go.LN
end Go.LN
namespace Go.LN
end Go.LN
namespace Go.LN
end Go.LN
namespace Go.LN
end Go.LN
namespace Go.LN
end Go.LN
namespace Go.LN
end Go.LN
namespace Go.LN
end Go.LN
namespace Go.LN
end Go.LN
namespace Go.LN
end Go.LN
namespace Go.LN
end Go.LN
namespace Go.LN
end Go.LN
namespace Go.LN
end Go.LN
namespace Go.LN
end Go.LN
namespace Go.LN
end Go.LN
namespace Go.LN
theorem AV.bl{a:zE}(h:AV a):BL a.Subs:=⟨by have:=h.2.1;omega,λs hs=>by have:=h.2.2 s hs;unfold BA;omega⟩
end Go.LN
namespace Go.LN
end Go.LN
namespace Go.LN
def eqL{α:Type}(q:α->α->Bool):List α->List α->Bool
 | [],[]=>true
 | x::a,y::b=>q x y&&eqL q a b
 | _,_=>false
theorem zE7{α:Type}{a b:List α}(hl:a.length=b.length){q:α->α->Bool}{f:Int->Option (Out Unit Bool)}(step:∀(i:Nat) (h1:i<a.length) (h2:i<b.length),f (i:Int)=if q a[i] b[i] then f ((i+1:Nat):Int) else some (.ret false))(fin:f (a.length:Int)=some (.done ())):f 0=some (if eqL q a b then .done () else .ret false):=by
 have key:∀(j i:Nat),i+j=a.length->f (i:Int)=some (if eqL q (a.drop i) (b.drop i) then .done () else .ret false):=by
  intro j
  induction j with
  | zero=>
   intro i hi;rw[show i=a.length by omega,fin,dN.2 (cu a.length),dN.2 (show b.length<=a.length by omega)];rfl
  | succ j ih=>
   intro i hi;have h1:i<a.length:=by omega
   have h2:i<b.length:=by omega
   rw[step i h1 h2,ih (i+1) (by omega),gC h1,gC h2,eqL];cases q a[i] b[i] <;> rfl
 have:=key a.length 0 (cO _);rwa[nZ,cI,cI] at this
theorem zCj{α:Type}{q:α->α->Bool}:∀{a b:List α},a.length ≠ b.length->eqL q a b=false
 | [],[],h=>absurd rfl h
 | [],_::_,_=>rfl
 | _::_,[],_=>rfl
 | x::a,y::b,h=>by rw[eqL,zCj (by simpa using h),Bool.and_false]
def eqI(a b:List Int):Bool:=eqL (λx y=>x==y) a b
theorem implEqI(a b:List Int)(h:a.length<=1048576):uZ a b=some (eqI a b):=by
 unfold uZ eqI;by_cases hl:a.length=b.length
 ·have hf:=zE7 (q:=λx y=>x==y) hl (f:=xV a b) (λi h1 h2=>by
   rw[xV];have c:((i:Int)<(a.length:Int)):=by omega
   simp only[c,dT,if_true,tX h1,tX h2,oB,oS,oP];rw[qI (by omega)];by_cases e:a[i]=b[i]
   ·simp[e]
   ·simp[e]) (by rw[xV];simp)
  have e:((a.length:Int) != (b.length:Int))=false:=by simp[hl]
  rw[hf,e];cases eqL (λx y=>x==y) a b <;> rfl
 ·have e:((a.length:Int) != (b.length:Int))=true:=by simp;omega
  rw[e,zCj hl];rfl
def afB(x y:zA):Bool:=eqI x.Coefs y.Coefs&&x.Const==y.Const
theorem implAff(x y:zA)(h:x.Coefs.length<=1048576):wP x y=some (afB x y):=by
 unfold wP afB;rw[implEqI _ _ h];cases eqI x.Coefs y.Coefs <;> rfl
end Go.LN
namespace Go.LN
end Go.LN
namespace Go.LN
theorem GA.ne{l:List yQ}(hg:GA l){i j:Nat}(hi:i<l.length)(hj:j<l.length)(h:i ≠ j):l[i].Name.l ≠ l[j].Name.l:=by
 have hp:=List.pairwise_iff_getElem.1 hg.2.2;rcases Nat.lt_or_gt_of_ne h with k|k
 ·exact hp i j hi hj k
 ·exact(hp j i hj hi k).symm
theorem GA.set{l:List yQ}(hg:GA l){k:Nat}(hk:k<l.length){y:yQ}(hn:y.Name.l=l[k].Name.l)(hy:DA y):GA (l.set k y):=by
 refine⟨by rw[cZ];exact hg.1,zCd hg.2.1 hy k,List.pairwise_iff_getElem.2 λi j hi hj hij=>?_⟩;rw[cZ] at hi hj;rw[List.getElem_set,List.getElem_set];by_cases h1:k=i
 ·rw[if_pos h1,if_neg (by omega),hn];exact hg.ne hk hj (by omega)
 ·rw[if_neg h1];by_cases h2:k=j
  ·rw[if_pos h2,hn];exact hg.ne hi hk (by omega)
  ·rw[if_neg h2];exact hg.ne hi hj (by omega)
theorem DA.arr{x:yQ}(h:DA x):(1<=x.Dims.length/\x.Dims.length<=2)/\x.Dims.all dimB=true:=by
 rcases h with⟨d,h,k1,k2⟩|⟨d,e,h,⟨k1,k2⟩,k3,k4⟩
 ·rw[h];simp[dimB,k1,k2]
 ·rw[h];simp[dimB,k1,k2,k3,k4]
end Go.LN
namespace Go.LN
def leD:List Int->List Int->Prop
 | [],[]=>True
 | x::xs,y::ys=>x<=y/\leD xs ys
 | [],_::_=>False
 | _::_,[]=>False
theorem leD.refl:∀d:List Int,leD d d
 | []=>trivial
 | x::d=>⟨Int.le_refl _,leD.refl d⟩
theorem leD.trans:∀{a b c:List Int},leD a b->leD b c->leD a c
 | [],[],[],_,_=>trivial
 | x::a,y::b,z::c,h,k=>⟨Int.le_trans h.1 k.1,leD.trans h.2 k.2⟩
theorem leD.len:∀{a b:List Int},leD a b->a.length=b.length
 | [],[],_=>rfl
 | x::a,y::b,h=>by rw[bY,bY,h.2.len]
end Go.LN
namespace Go.LN
end Go.LN
namespace Go.LN
theorem zCk{α:Type}{q:α->α->Bool}(hq:∀x y,q x y=true↔x=y):∀{a b:List α},eqL q a b=true↔a=b
 | [],[]=>by simp[eqL]
 | [],_::_=>by simp[eqL]
 | _::_,[]=>by simp[eqL]
 | x::a,y::b=>by rw[eqL,bA,hq,zCk hq,List.cons.injEq]
theorem zGh{a b:List Int}:eqI a b=true↔a=b:=zCk (λx y=>by simp)
theorem zE8(x y:zA):afB x y=true↔x=y:=by
 cases x;cases y
 unfold afB;rw[bA,zGh];simp
theorem implSd(a b:List zA)(ha:BL a):zY a b wP=some (eqL afB a b):=by
 have hb:=ha.1;unfold zY;by_cases hl:a.length=b.length
 ·have hf:=zE7 (q:=afB) hl (f:=zM a b wP) (λi h1 h2=>by
   rw[zM];have c:((i:Int)<(a.length:Int)):=by omega
   have hc:=ha.2 _ (gM h1);simp only[c,dT,if_true,tX h1,tX h2,implAff _ _ (show a[i].Coefs.length<=1048576 by unfold BA at hc;omega),oB,oS,oP];rw[qI (by omega)];cases afB a[i] b[i] <;> rfl) (by rw[zM];simp)
  have e:((a.length:Int) != (b.length:Int))=false:=by simp[hl]
  rw[hf,e];cases eqL afB a b <;> rfl
 ·have e:((a.length:Int) != (b.length:Int))=true:=by simp;omega
  rw[e,zCj hl];rfl
end Go.LN
namespace Go.LN
open Lib (itoa decDigits)
theorem dJ{u:Nat}(h:u<10):decDigits u=[UInt8.ofNat (48+u)]:=by rw[decDigits];simp[h]
theorem zCl{u:Nat}(h:¬u<10):decDigits u=decDigits (u / 10)++[UInt8.ofNat (48+u % 10)]:=by rw[decDigits];simp[h]
theorem zBa(d:Nat)(h:d<10):u8 (W (48+(d:Int)))=UInt8.ofNat (48+d):=by
 rw[vM (by omega) (by omega)];unfold u8;rw[wraps_u8 _ (by omega) (by omega)]
 congr 1
def dtx(n:Nat):List UInt8:=if n<10 then[UInt8.ofNat (48+n)] else[UInt8.ofNat (48+n / 10),UInt8.ofNat (48+n % 10)]
theorem zH4{n:Nat}(h:n<=99):decDigits n=dtx n:=by
 unfold dtx;by_cases h1:n<10
 ·rw[if_pos h1,dJ h1]
 ·rw[if_neg h1,zCl h1,dJ (by omega)];rfl
theorem rQ(n:Nat):1<=(dtx n).length/\(dtx n).length<=2:=by unfold dtx;split <;> simp
theorem dK(n:Nat)(h:n<=99):wR (n:Int)=some ⟨dtx n⟩:=by
 rw[wR];have h1:¬((n:Int) < -9223372036854775807):=by omega
 have h2:¬((n:Int)<0):=by omega
 simp only[h1,h2,decide_false,bV,if_false];rw[uD];by_cases h10:n<10
 ·have:¬((n:Int)>9):=by omega
  simp only[this,decide_false,bV,if_false,Option.bind_eq_bind,Option.bind_some,Option.pure_def];rw[zBa _ h10,qC (by simp)];simp[dtx,h10]
 ·have h9:((n:Int)>9):=by omega
  have hm:((n:Int).tmod 10)=((n % 10:Nat):Int):=by rw[Int.tmod_eq_emod_of_nonneg (by omega)];omega
  have hd:((n:Int).tdiv 10)=((n / 10:Nat):Int):=by rw[dq (by omega)];omega
  simp only[h9,decide_true,if_true,hm,hd];rw[zBa _ (Nat.mod_lt _ (by omega)),vM (by omega) (by omega),qC (by simp)];simp only[Option.bind_eq_bind,Option.bind_some];rw[uD];have:¬(((n / 10:Nat):Int)>9):=by omega
  simp only[this,decide_false,bV,if_false,Option.bind_some,Option.pure_def];rw[zBa _ (by omega),qC (by simp)];simp[dtx,h10]
theorem zAY(n:Nat)(h:n<=99):sN (n:Int)=some ⟨dtx n⟩:=by
 unfold sN;rw[if_pos (by omega),Lib.itoa_nonneg,zH4 h]
def sgn(c:Int):UInt8:=if c<0 then 45 else 43
def bodyV(k:Nat)(i:Nat):List UInt8:=if k=1 then[UInt8.ofNat (105+i)] else dtx k++[42,UInt8.ofNat (105+i)]
def T0:List Int->Nat->List UInt8
 | [],_=>[]
 | c::cs,i=>(if c=0 then[] else sgn c::bodyV c.natAbs i)++T0 cs (i+1)
def TK(c:Int):List UInt8:=if c=0 then[] else sgn c::dtx c.natAbs
def raw(a:zA):List UInt8:=T0 a.Coefs 0++TK a.Const
def strip(l:List UInt8):List UInt8:=match l with|[]=>[]|b::r=>if b=43 then r else b::r
def tx(a:zA):List UInt8:=if raw a=[] then[48] else strip (raw a)
theorem kN(k i:Nat):1<=(bodyV k i).length/\(bodyV k i).length<=4:=by
 have:=rQ k;unfold bodyV;split <;> simp <;> omega
theorem zAZ:∀(cs:List Int) (i:Nat),(T0 cs i).length<=5*cs.length
 | [],_=>by simp[T0]
 | c::cs,i=>by
  have h1:=kN c.natAbs i
  have h2:=zAZ cs (i+1)
  unfold T0
  by_cases h:c=0 <;> simp[h] <;> omega
theorem zCm(c:Int):(TK c).length<=3:=by
 have:=rQ c.natAbs;unfold TK;split <;> simp;omega
theorem zBb(i:Nat)(hi:i<4):sslc (⟨[105,106,107,108]⟩:Str) (i:Int) ((i+1:Nat):Int)=some ⟨[UInt8.ofNat (105+i)]⟩:=by
 rw[pV (by omega) (by simp;omega)]
 match i,hi with
 | 0,_|1,_|2,_|3,_=>rfl
theorem zFJ(c:Int)(hc:c ≠ 0)(h:constB c=true):uL c ⟨[]⟩=some ⟨sgn c::dtx c.natAbs⟩:=by
 simp only[constB,bW,decide_eq_true_eq] at h;unfold uL sgn;have hl:=rQ c.natAbs;by_cases h0:c<0
 ·have e:W (0 - c)=((c.natAbs:Nat):Int):=by rw[vM (by omega) (by omega)];omega
  simp only[h0,decide_true,if_true,Option.bind_eq_bind,Option.bind_some,Option.pure_def,e,dK _ (show c.natAbs<=99 by omega)];simp only[BEq.rfl,if_true];rw[qC (by simp;omega)];rfl
 ·have e:c=((c.natAbs:Nat):Int):=by omega
  simp only[h0,decide_false,bV,if_false,Option.bind_eq_bind,Option.bind_some,Option.pure_def];have:=dK c.natAbs (by omega);rw[<- e] at this;simp only[BEq.rfl,if_true,this,Option.bind_some];rw[qC (by simp;omega)];rfl
theorem zD7(c:Int)(hc:c ≠ 0)(h:coefB c=true)(i:Nat):uL c ⟨[UInt8.ofNat (105+i)]⟩=some ⟨sgn c::bodyV c.natAbs i⟩:=by
 simp only[coefB,bW,decide_eq_true_eq] at h;unfold uL sgn bodyV;have hl:=rQ c.natAbs;have key:∀(n:Nat) (sg:UInt8),1<=n->n<=9->(if(([UInt8.ofNat (105+i)]:List UInt8)==[])=true then(do
  let y<-wR (n:Int)
  let s<-cat ⟨[sg]⟩ y
  pure (id s))
  else if((n:Int)==1)=true then(do
   let s1<-cat ⟨[sg]⟩ ⟨[UInt8.ofNat (105+i)]⟩
   pure (id s1))
  else(do
   let y1<-wR (n:Int)
   let s2<-cat ⟨[sg]⟩ y1
   let s3<-cat s2 ⟨[42]⟩
   let s4<-cat s3 ⟨[UInt8.ofNat (105+i)]⟩
   pure (id s4)):Option Str)=some ⟨sg::(if n=1 then[UInt8.ofNat (105+i)] else dtx n++[42,UInt8.ofNat (105+i)])⟩:=by
  intro n sg h1 h9;have hl:=rQ n;have hne:(([UInt8.ofNat (105+i)]:List UInt8)==[])=false:=rfl;rw[hne];simp only[bV,if_false];by_cases hn:n=1
  ·subst hn;simp only[Int.natCast_one,BEq.rfl,if_true,Option.bind_eq_bind,Option.bind_some,Option.pure_def];rw[qC (by simp)];rfl
  ·have:((n:Int)==1)=false:=by simp;omega
   simp only[this,bV,if_false,hn,dK n (by omega),Option.bind_eq_bind,Option.bind_some,Option.pure_def];rw[qC (by simp;omega)];simp only[Option.bind_some];rw[qC (by simp;omega)];simp only[Option.bind_some];rw[qC (by simp;omega)];simp
 by_cases h0:c<0
 ·have e:W (0 - c)=((c.natAbs:Nat):Int):=by rw[vM (by omega) (by omega)];omega
  simp only[h0,decide_true,if_true,e];exact key c.natAbs 45 (by omega) (by omega)
 ·have e:c=((c.natAbs:Nat):Int):=by omega
  simp only[h0,decide_false,bV,if_false];have:=key c.natAbs 43 (by omega) (by omega);rw[<- e] at this;exact this
theorem zCn(a:zA)(ha:validB a=true):∀j k (aF:Str),k+j=4->aF.l.length<=100*k->vE a aF (k:Int)=some ⟨aF.l++T0 (a.Coefs.drop k) k⟩:=by
 simp only[validB,bW,decide_eq_true_eq] at ha;obtain⟨⟨h4,hk⟩,hall⟩:=ha;intro j
 induction j with
 | zero=>
  intro k aF hk ho;rw[vE];have:¬((k:Int)<(a.Coefs.length:Int)):=by omega
  simp[this,ci.2 (show a.Coefs.length<=k by omega),T0]
 | succ j ih=>
  intro k aF hk ho;rw[vE];have av:k<a.Coefs.length:=by omega
  have h1:((k:Int)<(a.Coefs.length:Int)):=by omega
  have hc:=b8.1 hall _ (List.getElem_mem av);simp only[h1,decide_true,if_true,pE,bX av,Option.bind_eq_bind,Option.bind_some];rw[pH (by omega),zBb k (by omega),cf av,T0];generalize a.Coefs[k]=c at hc;by_cases h0:c=0
  ·subst h0;simp only[bne_self_eq_false,bV,if_false,Option.pure_def,Option.bind_some,id,if_true,cq];exact ih (k+1) aF (by omega) (by omega)
  ·have hb:(c != 0)=true:=by simpa using h0
   have hl:=kN c.natAbs k;simp only[hb,if_true,Option.bind_some,zD7 c h0 hc k,h0,if_false];rw[qC (by simp;omega)];simp only[Option.bind_some,Option.pure_def,id];rw[ih (k+1) _ (by omega) (by simp;omega)];simp
theorem zCo:∀(cs:List Int) (i:Nat),T0 cs i=[]∨∃s r,T0 cs i=s::r/\(s=43∨s=45)/\r ≠ []
 | [],_=>.inl rfl
 | c::cs,i=>by
  unfold T0
  by_cases h:c=0
  ·simp only[h,if_true,cq];exact zCo cs (i+1)
  ·refine .inr ⟨sgn c,bodyV c.natAbs i++T0 cs (i+1),by simp[h],?_,?_⟩
   ·unfold sgn;split
    ·exact .inr rfl
    ·exact .inl rfl
   ·have:=kN c.natAbs i
    intro e
    rw[List.append_eq_nil_iff] at e
    rw[e.1] at this
    simp at this
theorem zGi(c:Int):TK c=[]∨∃s r,TK c=s::r/\(s=43∨s=45)/\r ≠ []:=by
 unfold TK;by_cases h:c=0
 ·exact .inl (by simp[h])
 ·refine .inr ⟨sgn c,dtx c.natAbs,by simp[h],?_,?_⟩
  ·unfold sgn;split
   ·exact .inr rfl
   ·exact .inl rfl
  ·have:=rQ c.natAbs;intro e;rw[e] at this;simp at this
theorem zA0(a:zA)(ha:validB a=true):tV a=some ⟨tx a⟩:=by
 have hv:=ha;simp only[validB,bW,decide_eq_true_eq] at hv;obtain⟨⟨h4,hk⟩,hall⟩:=hv;unfold tV tx;have h1:=zCn a ha 4 0 ⟨[]⟩ (by omega) (by simp);rw[cS,cI,cq] at h1;rw[h1];have ht:=zAZ a.Coefs 0;have hl2:=zCm a.Const;have e:(do
  if(a.Const != 0) then
   let y1<-uL a.Const (⟨[]⟩:Str)
   let s2<-cat ⟨T0 a.Coefs 0⟩ y1
   pure (id s2)
  else
   pure (id ⟨T0 a.Coefs 0⟩):Option Str)=some ⟨raw a⟩:=by
  unfold raw TK;by_cases h0:a.Const=0
  ·simp[h0]
  ·have hb:(a.Const != 0)=true:=by simpa using h0
   have hd:=rQ a.Const.natAbs;simp only[hb,if_true,Option.bind_eq_bind,Option.bind_some,zFJ _ h0 hk,h0,if_false];rw[qC (by simp;omega)];rfl
 simp only[Option.bind_eq_bind,Option.bind_some] at e ⊢;rw[e];simp only[Option.bind_some];have hraw:(raw a).length<=100:=by unfold raw;rw[ca];omega
 cases hr:raw a with
 | nil=>simp
 | cons b r=>
  have hne:((b::r:List UInt8)==[])=false:=rfl;rw[hr] at hraw;have hsl:sslc ⟨b::r⟩ 0 1=some ⟨[b]⟩:=by
   have:=pV (s:=⟨b::r⟩) (f:=0) (i:=1) (by omega) (by simp);exact this.trans (by simp)
  have hsl2:sslc ⟨b::r⟩ 1 (((b::r).length:Nat):Int)=some ⟨r⟩:=by
   have:=pV (s:=⟨b::r⟩) (f:=1) (i:=(b::r).length) (by simp) (by simp);exact this.trans (by simp)
  simp only[hne,bV,if_false,hsl,hsl2,Option.bind_some,reduceCtorEq,strip];by_cases hb:b=43
  ·subst hb;simp
  ·have:(([b]:List UInt8)==[43])=false:=by simpa using hb
   simp[this,hb]
theorem zCU(c:Int)(x:Str)(hx:x.l.length<=1000):tF c x=some ⟨x.l++(if c<0 then[45] else if x.l=[] then[] else[43])⟩:=by
 unfold tF;by_cases h:c<0
 ·simp only[h,decide_true,if_true,Option.bind_eq_bind,Option.bind_some,Option.pure_def];rw[qC (by simp;omega)];rfl
 ·simp only[h,decide_false,bV,if_false,Option.bind_eq_bind,Option.bind_some,Option.pure_def];cases hx0:x.l with
  | nil=>obtain⟨l⟩:=x;simp only at hx0;subst hx0;simp
  | cons b r=>
   have hne:((b::r:List UInt8)==[])=false:=rfl;rw[hne];simp only[cB,if_true];rw[qC (by rw[hx0] at hx ⊢;simp at hx ⊢;omega)];simp[hx0]
theorem zE9(c:Int)(h:-100<=c/\c<=100):(if(W (0 - c))>c then(W (0 - c)) else c)=((c.natAbs:Nat):Int):=by
 rw[vM (by omega) (by omega)];split <;> omega
theorem zFK{A t:List UInt8}(h:A ≠ []):strip (A++t)=strip A++t:=by
 cases A with
 | nil=>exact absurd rfl h
 | cons b r=>simp only[cy,strip];split <;> rfl
theorem zBc(A:List UInt8)(hA:A=[]∨strip A ≠ [])(c:Int)(body:List UInt8):strip (A++sgn c::body)=strip A++(if c<0 then[45] else if strip A=[] then[] else[43])++body:=by
 by_cases h:A=[]
 ·subst h;unfold sgn;by_cases hc:c<0 <;> simp[hc,strip]
 ·have hs:=hA.resolve_left h;rw[zFK h];unfold sgn;by_cases hc:c<0 <;> simp[hc,hs]
theorem zEa:∀(cs:List Int) (c:Int) (i:Nat),T0 (cs++[c]) i=T0 cs i++(if c=0 then[] else sgn c::bodyV c.natAbs (i+cs.length))
 | [],c,i=>by simp[T0]
 | d::cs,c,i=>by
  rw[cy,T0,zEa cs c (i+1),T0,cA,bY,show i+1+cs.length=i+(cs.length+1) by omega]
theorem zD8(cs:List Int)(i:Nat):T0 cs i=[]∨strip (T0 cs i) ≠ []:=by
 rcases zCo cs i with h|⟨s,r,h,_,hr⟩
 ·exact .inl h
 ·right;rw[h,strip];split
  ·exact hr
  ·simp
theorem zA1(l:List UInt8):(strip l).length<=l.length:=by
 unfold strip;split
 ·simp
 ·split <;> simp
theorem zCp(a:zA)(ha:validB a=true):∀(j k:Nat),k+j=4->wV a (k:Int) ⟨strip (T0 (a.Coefs.take k) 0)⟩=some ⟨strip (T0 a.Coefs 0)⟩:=by
 simp only[validB,bW,decide_eq_true_eq] at ha;obtain⟨⟨h4,hk⟩,hall⟩:=ha;intro j
 induction j with
 | zero=>
  intro k hk;rw[wV];have:¬((k:Int)<(a.Coefs.length:Int)):=by omega
  simp[this,cC (show a.Coefs.length<=k by omega)]
 | succ j ih=>
  intro k hk;rw[wV];have av:k<a.Coefs.length:=by omega
  have h1:((k:Int)<(a.Coefs.length:Int)):=by omega
  have hc:=b8.1 hall _ (List.getElem_mem av);have hih:=ih (k+1) (by omega);rw[cY,bX av] at hih;simp only[Option.toList_some] at hih;rw[zEa] at hih;simp only[h1,decide_true,if_true,pE,bX av,Option.bind_eq_bind,Option.bind_some];have aE:(a.Coefs.take k).length=k:=by rw[cd];omega
  rw[aE,cO] at hih;have hst:=zD8 (a.Coefs.take k) 0;have hT:=zAZ (a.Coefs.take k) 0;rw[aE] at hT;have hsl:=zA1 (T0 (a.Coefs.take k) 0);generalize T0 (a.Coefs.take k) 0=A at hst hT hsl hih ⊢;generalize a.Coefs[k]=c at hc hih ⊢;by_cases h0:c=0
  ·subst h0;simp only[BEq.rfl,if_true];rw[pH (by omega)];simpa using hih
  ·have hb:(c==0)=false:=by simpa using h0
   simp only[coefB,bW,decide_eq_true_eq] at hc;simp only[h0,if_false] at hih;rw[zBc A hst] at hih;have bS:=kN c.natAbs k;have hds:=rQ c.natAbs;simp only[hb,bV,if_false];rw[zCU c _ (by show (strip A).length<=1000;omega)];simp only[Option.bind_some];rw[pH (by omega),zBb k (by omega),zE9 c (by omega)];generalize hX:strip A++(if c<0 then[45] else if strip A=[] then[] else[43])=X at hih ⊢;have hXl:X.length<=101:=by
    rw[<- hX,ca];split
    ·simp;omega
    ·split <;> simp <;> omega
   by_cases hn:c.natAbs=1
   ·have h9:¬(((c.natAbs:Nat):Int)>1):=by omega
    simp only[h9,decide_false,bV,if_false,Option.pure_def,Option.bind_some,id];rw[qC (by simp;omega)];simp only[Option.bind_some];rw[bodyV,if_pos hn] at hih;exact hih
   ·have h9:(((c.natAbs:Nat):Int)>1):=by omega
    simp only[h9,decide_true,if_true,zAY _ (show c.natAbs<=99 by omega),Option.bind_some];rw[qC (by simp;omega)];simp only[Option.bind_some];rw[qC (by simp;omega)];simp only[Option.pure_def,Option.bind_some,id];rw[qC (by simp;omega)];simp only[Option.bind_some];rw[bodyV,if_neg hn] at hih;simpa using hih
theorem zA2(a:zA)(ha:validB a=true):uY a=some ⟨tx a⟩:=by
 have hv:=ha;simp only[validB,bW,decide_eq_true_eq] at hv;obtain⟨⟨h4,hk⟩,hall⟩:=hv;unfold uY tx;have h1:=zCp a ha 4 0 (by omega);rw[cS,List.take_zero] at h1;rw[show (⟨[]⟩:Str)=⟨strip (T0 [] 0)⟩ from rfl,h1];have hT:=zAZ a.Coefs 0;have hst:=zD8 a.Coefs 0;have hsl:=zA1 (T0 a.Coefs 0);simp only[Option.bind_eq_bind,Option.bind_some];unfold raw;generalize T0 a.Coefs 0=A at hT hst hsl ⊢;by_cases h0:a.Const=0
 ·have hb:(a.Const != 0)=false:=by simp[h0]
  simp only[hb,bV,if_false,Option.pure_def,Option.bind_some,id];rw[TK,if_pos h0,cr];by_cases hA:A=[]
  ·subst hA;rfl
  ·have hs:=hst.resolve_left hA;have:(strip A==([]:List UInt8))=false:=by simpa using hs
   simp only[this,bV,if_false,hA]
 ·have hb:(a.Const != 0)=true:=by simpa using h0
  simp only[constB,bW,decide_eq_true_eq] at hk;have hds:=rQ a.Const.natAbs;simp only[hb,if_true];rw[zCU a.Const _ (by show (strip A).length<=1000;omega),zE9 a.Const (by omega)];simp only[Option.bind_some,zAY _ (show a.Const.natAbs<=99 by omega)];have hss:=zBc A hst a.Const (dtx a.Const.natAbs);generalize hX:strip A++(if a.Const<0 then[45] else if strip A=[] then[] else[43])=X at hss ⊢;have hXl:X.length<=101:=by
   rw[<- hX,ca];split
   ·simp;omega
   ·split <;> simp <;> omega
  rw[qC (by simp;omega)];simp only[Option.pure_def,Option.bind_some,id];have hne:(X++dtx a.Const.natAbs==([]:List UInt8))=false:=by
   have:X++dtx a.Const.natAbs ≠ []:=by
    intro e;rw[List.append_eq_nil_iff] at e;rw[e.2] at hds;simp at hds
   simpa using this
  simp only[hne,bV,if_false];rw[TK,if_neg h0,if_neg (by simp),hss]
end Go.LN
namespace Go.LN
open Lib (itoa decDigits)
def isSg(b:UInt8):Bool:=b==43||b==45
def nsg(b:UInt8):Bool:=!(isSg b)
def digs11:List UInt8:=[48,49,50,51,52,53,54,55,56,57,42]
def ijkl:List UInt8:=[105,106,107,108]
def cutEnd(s suf:List UInt8):List UInt8:=if suf.length<=s.length/\s.drop (s.length - suf.length)=suf then s.take (s.length - suf.length) else s
theorem fQ(s suf:Str)(h:s.l.length<=1048576):uT s suf=some ⟨cutEnd s.l suf.l⟩:=by
 obtain⟨s⟩:=s;obtain⟨u⟩:=suf;simp only at h;unfold uT M.internal_stringslite_TrimSuffix M.internal_stringslite_HasSuffix cutEnd;by_cases hl:u.length<=s.length
 ·have h1:((s.length:Int)>=(u.length:Int)):=by omega
  have hW:W ((s.length:Int) - (u.length:Int))=((s.length - u.length:Nat):Int):=by rw[vM (by omega) (by omega)];omega
  have h2:sslc ⟨s⟩ ((s.length - u.length:Nat):Int) (s.length:Int)=some ⟨s.drop (s.length - u.length)⟩:=by
   have:=pV (s:=⟨s⟩) (f:=s.length - u.length) (i:=s.length) (by omega) (by simp);exact this.trans (by simp)
  have h3:sslc ⟨s⟩ 0 ((s.length - u.length:Nat):Int)=some ⟨s.take (s.length - u.length)⟩:=by
   have:=pV (s:=⟨s⟩) (f:=0) (i:=s.length - u.length) (by omega) (by simp);exact this.trans (by simp)
  simp only[h1,decide_true,if_true,hW,h2,h3,Option.bind_eq_bind,Option.bind_some,Option.pure_def,id,hl,true_and];by_cases he:s.drop (s.length - u.length)=u
  ·simp[he]
  ·have:(s.drop (s.length - u.length)==u)=false:=by simpa using he
   simp only[this,he,bV,if_false];rfl
 ·have h1:¬((s.length:Int)>=(u.length:Int)):=by omega
  simp[h1,hl]
theorem fR:∀l:List UInt8,(Lib.indexAny l [43,45]=-1/\l.takeWhile nsg=l/\l.dropWhile nsg=[])∨(Lib.indexAny l [43,45]=((l.takeWhile nsg).length:Int)/\l.dropWhile nsg ≠ [])
 | []=>.inl ⟨rfl,rfl,rfl⟩
 | b::l=>by
  rw[Lib.indexAny,List.takeWhile_cons,List.dropWhile_cons]
  have hc:([43,45]:List UInt8).contains b=isSg b:=by
   by_cases h1:b=43 <;> by_cases h2:b=45 <;> simp[isSg,h1,h2]
  rw[hc]
  cases hb:isSg b with
  | true=>right;simp[nsg,hb]
  | false=>
   have hn:nsg b=true:=by simp[nsg,hb]
   simp only[bV,if_false,hn,if_true]
   rcases fR l with⟨h1,h2,h3⟩|⟨h1,h2⟩
   ·left;rw[h1,h2];exact⟨by simp,rfl,h3⟩
   ·right
    rw[h1]
    have:¬(((l.takeWhile nsg).length:Int) == -1)=true:=by simp
    rw[if_neg this]
    exact⟨by simp,h2⟩
def nameOf(body:List UInt8):List UInt8:=Lib.trimLeftS body digs11
def digOf(body:List UInt8):List UInt8:=cutEnd (cutEnd body (nameOf body)) [42]
def numOf(body:List UInt8):Option Int:=if digOf body=[] then some 1 else if(atoiM ⟨digOf body⟩).2||decide ((atoiM ⟨digOf body⟩).1>1000) then none else some (atoiM ⟨digOf body⟩).1
def signOf(rest:List UInt8):Int:=match rest with|[]=>1|b::_=>if b=45 then -1 else 1
def unsign(rest:List UInt8):List UInt8:=match rest with|[]=>[]|b::r=>if isSg b then r else b::r
theorem zAz{a b:List UInt8}(h:asc (a++b)=true):asc a=true/\asc b=true:=by
 unfold asc at h ⊢;rw[d9,bW] at h;exact h
theorem zBd{r:List UInt8}(h:asc r=true):asc (unsign r)=true:=by
 unfold unsign;split
 ·rfl
 ·split
  ·have:asc ([_]++_)=true:=h;exact(zAz this).2
  ·exact h
theorem zEN(r:List UInt8):(unsign r).length<=r.length:=by
 unfold unsign;split
 ·simp
 ·split <;> simp
theorem zFx(b:UInt8):Lib.index ijkl [b]<=3:=by
 by_cases h1:b=105
 ·subst h1;decide
 by_cases h2:b=106
 ·subst h2;decide
 by_cases h3:b=107
 ·subst h3;decide
 by_cases h4:b=108
 ·subst h4;decide
 simp[ijkl,Lib.index,List.isPrefixOf,h1,h2,h3,h4]
theorem zAu(nm:List UInt8)(h:nm.length=1):Lib.index ijkl nm<=3:=by
 match nm,h with
 | [b],_=>exact zFx b
theorem gstep(rest:List UInt8)(hne:rest ≠ [])(ha:asc rest=true)(hl:rest.length<=1000)(C:List Int)(K:Int)(x:zA)(hC:C.length=4):
 zT ⟨rest⟩ x C K=(match numOf ((unsign rest).takeWhile nsg) with
  | none=>some (.ret (⟨[],0⟩,false))
  | some n=>
   let nm:=nameOf ((unsign rest).takeWhile nsg)
   if nm=[] then zT ⟨(unsign rest).dropWhile nsg⟩ x C (W (K+W (signOf rest*n)))
   else if nm.length=1/\0<=Lib.index ijkl nm then zT ⟨(unsign rest).dropWhile nsg⟩ x (C.set (Lib.index ijkl nm).toNat (W (C.getD (Lib.index ijkl nm).toNat 0+W (signOf rest*n)))) K
   else some (.ret (⟨[],0⟩,false))):=by
 obtain⟨b,r,rfl⟩:∃b r,rest=b::r:=by cases rest with|nil=>exact absurd rfl hne|cons b r=>exact⟨b,r,rfl⟩
 have hub:∀s:List UInt8,sR ⟨s⟩ ⟨[48,49,50,51,52,53,54,55,56,57,42]⟩=some ⟨Lib.trimLeftS s digs11⟩:=λs=>by
  unfold sR
  rw[if_pos ⟨by simp,by decide⟩]
  rfl
 conv=>lhs;rw[zT]
 have h0:((b::r:List UInt8)==[])=false:=rfl
 have i0:sidx (⟨b::r⟩:Str) 0=some b:=rfl
 have k43:((b.toNat:Int)==43)=decide (b=43):=pL b 43 (by omega)
 have k45:((b.toNat:Int)==45)=decide (b=45):=pL b 45 (by omega)
 have hs1:sslc ⟨b::r⟩ 1 (((b::r).length:Nat):Int)=some ⟨r⟩:=by
  have:=pV (s:=⟨b::r⟩) (f:=1) (i:=(b::r).length) (by simp) (by simp)
  exact this.trans (by simp)
 simp only[h0,cB,if_true,i0,k43,k45,Option.bind_eq_bind,Option.bind_some,Option.pure_def,hs1]
 -- the sign
 have hsg:∀(f:Str×Int->Option (Out (zA×List Int×Int) (zA×Bool))),
  (Option.bind (if(decide (b=43))=true then some true else some (decide (b=45))) λt30=>
   Option.bind (if t30=true then Option.bind (if(decide (b=45))=true then some (-1) else some (id 1)) λby01=>some ((⟨r⟩:Str),by01) else some ((⟨b::r⟩:Str),(1:Int))) f)
  = f (⟨unsign (b::r)⟩,signOf (b::r)):=by
  intro f
  by_cases h43:b=43
  ·subst h43;rfl
  ·by_cases h45:b=45
   ·subst h45;rfl
   ·have:isSg b=false:=by simp[isSg,h43,h45]
    simp[h43,h45,unsign,signOf,this]
 have hul:=zEN (b::r)
 have hua:=zBd ha
 rw[show (λ(t30:Bool)=>_)=_ from rfl]
 refine(hsg _).trans ?_
 generalize unsign (b::r)=u at hul hua ⊢
 generalize signOf (b::r)=sg
 have hix:sQ ⟨u⟩ ⟨[43,45]⟩=some (Lib.indexAny u [43,45]):=by
  unfold sQ
  rw[if_pos ⟨⟨by show u.length<_;omega,by simp⟩,hua,by decide⟩]
 have htd:u.takeWhile nsg++u.dropWhile nsg=u:=List.takeWhile_append_dropWhile
 have hend:(if(decide (Lib.indexAny u [43,45]<0))=true then some (u.length:Int) else some (id (Lib.indexAny u [43,45])))=some (((u.takeWhile nsg).length:Nat):Int):=by
  rcases fR u with⟨h1,h2,h3⟩|⟨h1,h2⟩
  ·rw[h1,h2];rfl
  ·rw[h1]
   have:¬(((u.takeWhile nsg).length:Int)<0):=by omega
   simp only[this,decide_false,bV,if_false,id]
 have hbl:(u.takeWhile nsg).length<=u.length:=by
  have:=congrArg List.length htd
  rw[ca] at this;omega
 have ay:sslc ⟨u⟩ 0 (((u.takeWhile nsg).length:Nat):Int)=some ⟨u.takeWhile nsg⟩:=by
  have:=pV (s:=⟨u⟩) (f:=0) (i:=(u.takeWhile nsg).length) (by omega) hbl
  refine this.trans ?_
  rw[cI]
  conv=>lhs;arg 1;arg 1;arg 2;rw[show (⟨u⟩:Str).l=u from rfl,<- htd]
  rw[List.take_left' rfl]
 have aJ:sslc ⟨u⟩ (((u.takeWhile nsg).length:Nat):Int) (u.length:Int)=some ⟨u.dropWhile nsg⟩:=by
  have:=pV (s:=⟨u⟩) (f:=(u.takeWhile nsg).length) (i:=u.length) hbl (cu _)
  refine this.trans ?_
  rw[show (⟨u⟩:Str).l=u from rfl,cV]
  conv=>lhs;arg 1;arg 1;arg 2;rw[<- htd]
  rw[List.drop_left' rfl]
 simp only[hix,Option.bind_some,hend,ay,aJ,hub]
 have hbl2:(u.takeWhile nsg).length<=1048576:=by omega
 generalize u.takeWhile nsg=body at hbl2 ⊢
 generalize u.dropWhile nsg=tail
 rw[fQ ⟨body⟩ _ hbl2]
 have hce:∀(s v:List UInt8),(cutEnd s v).length<=s.length:=λs v=>by unfold cutEnd;split <;> simp
 have hdl1:=hce body (nameOf body)
 have hdl2:=hce (cutEnd body (nameOf body)) [42]
 simp only[Option.bind_some]
 rw[fQ _ _ (by show (cutEnd body (Lib.trimLeftS body digs11)).length<=_;exact cT hdl1 hbl2)]
 simp only[Option.bind_some]
 have hdd:cutEnd (cutEnd body (Lib.trimLeftS body digs11)) [42]=digOf body:=rfl
 have hnn:Lib.trimLeftS body digs11=nameOf body:=rfl
 rw[hdd,hnn]
 have hdl:(digOf body).length<=1048576:=by show (cutEnd (cutEnd body (nameOf body)) [42]).length<=_;omega
 have az:uN ⟨digOf body⟩=some (atoiM ⟨digOf body⟩):=by
  unfold uN
  rw[if_pos (by show (digOf body).length<=_;omega)]
 have hi2:rB ⟨[105,106,107,108]⟩ ⟨nameOf body⟩=some (Lib.index ijkl (nameOf body)):=by
  unfold rB
  rw[if_pos (by simp)]
  rfl
 -- the number
 have rest_eq:∀n:Int,(Option.bind (rB ⟨[105,106,107,108]⟩ ⟨nameOf body⟩) λy8=>
  Option.bind (if(nameOf body==([]:List UInt8))=true then some (Out.done (x,C,W (K+W (sg*n))))
   else Option.bind (if(((nameOf body).length:Int)==1)=true then some (decide (y8>=0)) else some false) λt82=>
    if t82=true then Option.bind (idx C y8) λx4=>Option.bind (idx C y8) λx5=>Option.bind (some (C.set y8.toNat (W (x4+W (sg*n))))) λl=>some (Out.done (x,l,K))
    else some (Out.ret ((⟨[],0⟩:zA),false)):Option (Out (zA×List Int×Int) (zA×Bool))) λo=>match o with
   | .ret r0=>some (Out.ret r0)
   | .done (x3,Coefs2,Const2)=>zT ⟨tail⟩ x3 Coefs2 Const2) =
  (if nameOf body=[] then zT ⟨tail⟩ x C (W (K+W (sg*n)))
   else if(nameOf body).length=1/\0<=Lib.index ijkl (nameOf body) then zT ⟨tail⟩ x (C.set (Lib.index ijkl (nameOf body)).toNat (W (C.getD (Lib.index ijkl (nameOf body)).toNat 0+W (sg*n)))) K
   else some (.ret (⟨[],0⟩,false))):=by
  intro n
  rw[hi2]
  simp only[Option.bind_some]
  by_cases hnm:nameOf body=[]
  ·have:(nameOf body==([]:List UInt8))=true:=by simp[hnm]
   rw[if_pos hnm]
   simp only[this,if_true,Option.bind_some]
  ·have:(nameOf body==([]:List UInt8))=false:=by simpa using hnm
   rw[if_neg hnm]
   simp only[this,bV,if_false]
   by_cases hln:(nameOf body).length=1
   ·have e1:(((nameOf body).length:Int)==1)=true:=by simp[hln]
    simp only[e1,if_true,Option.bind_some]
    by_cases hge:Lib.index ijkl (nameOf body)>=0
    ·have av:=zAu _ hln
     have hge':0<=Lib.index ijkl (nameOf body):=hge
     have hx:idx C (Lib.index ijkl (nameOf body))=some (C.getD (Lib.index ijkl (nameOf body)).toNat 0):=by
      rw[zFn hge',cE,bX (by omega)]
      rfl
     have hcond:(nameOf body).length=1/\0<=Lib.index ijkl (nameOf body):=⟨hln,hge'⟩
     rw[if_pos hcond]
     simp only[hge,decide_true,if_true,hx,Option.bind_some]
    ·have hge':¬0<=Lib.index ijkl (nameOf body):=hge
     have hcond:¬((nameOf body).length=1/\0<=Lib.index ijkl (nameOf body)):=λh=>hge' h.2
     rw[if_neg hcond]
     simp only[hge,decide_false,bV,if_false,Option.bind_some]
   ·have e1:(((nameOf body).length:Int)==1)=false:=by simp;omega
    have hcond:¬((nameOf body).length=1/\0<=Lib.index ijkl (nameOf body)):=λh=>hln h.1
    rw[if_neg hcond]
    simp only[e1,bV,if_false,Option.bind_some]
 unfold numOf
 by_cases hd0:digOf body=[]
 ·have:(digOf body==([]:List UInt8))=true:=by simp[hd0]
  simp only[this,cJ,bV,if_false,Option.bind_some,hd0,if_true]
  exact rest_eq 1
 ·have:(digOf body==([]:List UInt8))=false:=by simpa using hd0
  simp only[this,cB,if_true,az,Option.bind_some,hd0,if_false]
  cases he:(atoiM ⟨digOf body⟩).2 with
  | true=>simp
  | false=>
   simp only[bV,if_false,Option.bind_some,eh]
   by_cases h1000:(atoiM ⟨digOf body⟩).1>1000
   ·simp[h1000]
   ·simp only[h1000,decide_false,bV,if_false,Option.bind_some]
    exact rest_eq _
end Go.LN
namespace Go.LN
open Lib (itoa decDigits)
theorem zA3:∀(k:Fin 10) (i:Fin 4),1<=k.val->numOf (bodyV k.val i.val)=some (k.val:Int)/\nameOf (bodyV k.val i.val)=[UInt8.ofNat (105+i.val)]/\Lib.index ijkl [UInt8.ofNat (105+i.val)]=(i.val:Int)/\(bodyV k.val i.val).all nsg=true/\asc (bodyV k.val i.val)=true:=by decide +kernel
theorem gX:∀(k:Fin 100),numOf (dtx k.val)=some (k.val:Int)/\nameOf (dtx k.val)=[]/\(dtx k.val).all nsg=true/\asc (dtx k.val)=true:=by decide +kernel
def Hd(t:List UInt8):Prop:=t=[]∨∃s r,t=s::r/\(s=43∨s=45)
theorem zCV{body t:List UInt8}(hb:body.all nsg=true)(ht:Hd t):(body++t).takeWhile nsg=body/\(body++t).dropWhile nsg=t:=by
 induction body with
 | nil=>
  rcases ht with rfl|⟨s,r,rfl,hs⟩
  ·exact⟨rfl,rfl⟩
  ·have:nsg s=false:=by rcases hs with rfl|rfl <;> rfl
   simp[this]
 | cons b body ih=>
  rw[cG,bW] at hb;obtain⟨i1,i2⟩:=ih hb.2;rw[cy,List.takeWhile_cons,List.dropWhile_cons,hb.1];simp[i1,i2]
theorem zHr(cs:List Int)(i:Nat)(k:Int):Hd (T0 cs i++TK k):=by
 rcases zCo cs i with h|⟨s,r,h,hs,_⟩
 ·rw[h,cq];rcases zGi k with h|⟨s,r,h,hs,_⟩
  ·exact .inl h
  ·exact .inr ⟨s,r,h,hs⟩
 ·exact .inr ⟨s,r++TK k,by rw[h];rfl,hs⟩
theorem zEO:∀(cs:List Int) (i:Nat),(∀c∈cs,coefB c=true)->i+cs.length<=4->asc (T0 cs i)=true
 | [],_,_,_=>rfl
 | c::cs,i,h,hi=>by
  have h1:=h c (b9 ..)
  simp only[coefB,bW,decide_eq_true_eq] at h1
  simp only[bY] at hi
  have ih:=zEO cs (i+1) (λx hx=>h x (bZ _ hx)) (by omega)
  unfold T0
  by_cases h0:c=0
  ·simpa [h0] using ih
  ·have hb:=(zA3 ⟨c.natAbs,by omega⟩ ⟨i,by omega⟩ (by show 1<=c.natAbs;omega)).2.2.2.2
   have hsg:asc [sgn c]=true:=by unfold sgn;split <;> rfl
   simp only[h0,if_false]
   unfold asc at hb ih hsg ⊢
   simp only[d9,cG,List.all_nil,Bool.and_true] at hsg ⊢
   simp only at hb
   rw[hsg,hb,ih];rfl
theorem zEP(k:Int)(h:constB k=true):asc (TK k)=true:=by
 simp only[constB,bW,decide_eq_true_eq] at h;unfold TK;split
 ·rfl
 ·have hb:=(gX ⟨k.natAbs,by omega⟩).2.2.2;have hsg:asc [sgn k]=true:=by unfold sgn;split <;> rfl
  unfold asc at hb hsg ⊢;simp only[cG,List.all_nil,Bool.and_true] at hsg ⊢;simp only at hb;rw[hsg,hb];rfl
theorem kO{a b:List UInt8}(h1:asc a=true)(h2:asc b=true):asc (a++b)=true:=by
 unfold asc at *;rw[d9,h1,h2];rfl
theorem zFL{l:List UInt8}(h:asc l=true):asc (strip l)=true:=by
 unfold strip;split
 ·rfl
 ·split
  ·have:asc ([_]++_)=true:=h;exact(zAz this).2
  ·exact h
theorem zBe{a:zA}(ha:validB a=true):asc (tx a)=true:=by
 simp only[validB,bW,decide_eq_true_eq] at ha;obtain⟨⟨h4,hk⟩,hall⟩:=ha;unfold tx;split
 ·rfl
 ·exact zFL (kO (zEO _ 0 (λc hc=>b8.1 hall c hc) (by omega)) (zEP _ hk))
theorem mV{a:zA}(ha:validB a=true):(tx a).length<=23:=by
 simp only[validB,bW,decide_eq_true_eq] at ha;have h1:=zAZ a.Coefs 0;have h2:=zCm a.Const;have h3:=zA1 (raw a);unfold tx;split
 ·simp
 ·unfold raw at h3 ⊢;rw[ca] at h3;omega
theorem jE(c:Int)(u:List UInt8):unsign (sgn c::u)=u/\signOf (sgn c::u)=if c<0 then -1 else 1:=by
 unfold sgn;by_cases h:c<0 <;> simp[h,unsign,signOf,isSg]
theorem dL(c:Int)(h:-100<=c/\c<=100):W (0+W ((if c<0 then -1 else 1)*((c.natAbs:Nat):Int)))=c:=by
 by_cases h0:c<0
 ·simp only[h0,if_true];rw[vM (x:=(-1)*((c.natAbs:Nat):Int)) (by omega) (by omega),vM (by omega) (by omega)];omega
 ·simp only[h0,if_false];rw[vM (x:=1*((c.natAbs:Nat):Int)) (by omega) (by omega),vM (by omega) (by omega)];omega
theorem oU(x:zA)(C:List Int)(K:Int):zT ⟨[]⟩ x C K=some (.done (x,C,K)):=by
 rw[zT];rfl
theorem zD9(x:zA)(k:Int)(hk:constB k=true):∀(cs pre:List Int),(∀c∈cs,coefB c=true)->pre.length+cs.length=4 ->
 zT ⟨T0 cs pre.length++TK k⟩ x (pre++List.replicate cs.length 0) 0=some (.done (x,pre++cs,k)):=by
 intro cs
 induction cs with
 | nil=>
  intro pre hc hl
  simp only[T0,cq,co,List.replicate_zero,cr] at hl ⊢
  have hka:=zEP k hk
  have hkl:=zCm k
  simp only[constB,bW,decide_eq_true_eq] at hk
  by_cases h0:k=0
  ·subst h0
   exact oU _ _ _
  ·have e:TK k=sgn k::(dtx k.natAbs++[]):=by rw[TK,if_neg h0,cr]
   obtain⟨f1,f2,f3,f4⟩:=gX ⟨k.natAbs,by omega⟩
   simp only at f1 f2 f3 f4
   obtain⟨t1,t2⟩:=zCV f3 (t:=[]) (.inl rfl)
   rw[gstep (TK k) (by rw[e];simp) hka (by omega) _ _ _ (by omega),e]
   rw[(jE k _).1,(jE k _).2,t1,t2,f1]
   simp only[f2,if_true]
   rw[oU,dL k (by omega)]
 | cons c cs ih=>
  intro pre hc hl
  have ay:=hc c (b9 ..)
  have aJ:∀y∈cs,coefB y=true:=λy hy=>hc y (bZ _ hy)
  have hasc:=kO (zEO (c::cs) pre.length hc (by omega)) (zEP k hk)
  have hlen1:=zAZ (c::cs) pre.length
  have hlen2:=zCm k
  simp only[coefB,bW,decide_eq_true_eq] at ay
  simp only[bY] at hl hlen1
  have ih':=ih (pre++[c]) aJ (by simp;omega)
  rw[ca,List.length_singleton,cA,cA] at ih'
  by_cases h0:c=0
  ·subst h0
   simpa [T0,de] using ih'
  ·have e:T0 (c::cs) pre.length++TK k=sgn c::(bodyV c.natAbs pre.length++(T0 cs (pre.length+1)++TK k)):=by
    rw[T0,if_neg h0,cA,cy]
   obtain⟨f1,f2,f3,f4,f5⟩:=zA3 ⟨c.natAbs,by omega⟩ ⟨pre.length,by omega⟩ (by show 1<=c.natAbs;omega)
   simp only at f1 f2 f3 f4
   obtain⟨t1,t2⟩:=zCV f4 (zHr cs (pre.length+1) k)
   rw[gstep (T0 (c::cs) pre.length++TK k) (by rw[e];simp) hasc (by rw[ca];omega) _ _ _ (by simp;omega),e]
   rw[(jE c _).1,(jE c _).2,t1,t2,f1]
   simp only[f2,f3]
   rw[if_neg (by simp),if_pos ⟨by simp,by omega⟩,cP]
   have hg:(pre++List.replicate (cs.length+1) (0:Int)).getD pre.length 0=0:=by
    rw[cE,dn (cu _),Nat.sub_self,de];rfl
   have hset:(pre++List.replicate (cs.length+1) (0:Int)).set pre.length c=pre++([c]++List.replicate cs.length 0):=by
    rw[List.set_append_right _ _ (cu _),Nat.sub_self,de];rfl
   rw[bY,hg,dL c (by omega),hset]
   exact ih'
theorem unplus(u:List UInt8)(hu:u ≠ [])(hh:unsign u=u)(hs:signOf u=1)(ha:asc u=true)(hl:u.length<=900)(x:zA)(C:List Int)(K:Int)(hC:C.length=4):
 zT ⟨u⟩ x C K=zT ⟨43::u⟩ x C K:=by
 have h43:asc (43::u)=true:=kO (a:=[43]) rfl ha
 rw[gstep u hu ha (by omega) C K x hC,gstep (43::u) (by simp) h43 (by simp;omega) C K x hC]
 have e1:unsign (43::u)=u:=rfl
 have e2:signOf (43::u)=1:=rfl
 rw[e1,e2,hh,hs]
theorem zFM(k:Nat)(b:List UInt8)(hb:b.all nsg=true)(hn:b ≠ [])(t:List UInt8):unsign (b++t)=b++t/\signOf (b++t)=1:=by
 cases b with
 | nil=>exact absurd rfl hn
 | cons c r=>
  rw[cG,bW] at hb;have h1:isSg c=false:=by have:=hb.1;unfold nsg at this;simpa using this
  have h2:c ≠ 45:=by rintro rfl;cases h1
  simp[unsign,signOf,h1,h2]
theorem zCW(a:zA)(ha:validB a=true):raw a=[]∨∃(c:Int) (b t:List UInt8),raw a=sgn c::(b++t)/\b.all nsg=true/\b ≠ []:=by
 simp only[validB,bW,decide_eq_true_eq] at ha;obtain⟨⟨h4,hk⟩,hall⟩:=ha;have key:∀(cs:List Int) (i:Nat),(∀c∈cs,coefB c=true)->i+cs.length=4->T0 cs i++TK a.Const=[]∨∃(c:Int) (b t:List UInt8),T0 cs i++TK a.Const=sgn c::(b++t)/\b.all nsg=true/\b ≠ []:=by
  intro cs
  induction cs with
  | nil=>
   intro i _ _;simp only[constB,bW,decide_eq_true_eq] at hk;simp only[T0,cq];by_cases h0:a.Const=0
   ·left;simp[TK,h0]
   ·obtain⟨f1,f2,f3,f4⟩:=gX ⟨a.Const.natAbs,by omega⟩;have:=rQ a.Const.natAbs;exact .inr ⟨a.Const,dtx a.Const.natAbs,[],by rw[TK,if_neg h0,cr],f3,by intro e;rw[e] at this;simp at this⟩
  | cons c cs ih=>
   intro i hc hi;have ay:=hc c (b9 ..);simp only[coefB,bW,decide_eq_true_eq] at ay;simp only[bY] at hi;by_cases h0:c=0
   ·rw[T0,if_pos h0,cq];exact ih (i+1) (λy hy=>hc y (bZ _ hy)) (by omega)
   ·obtain⟨f1,f2,f3,f4,f5⟩:=zA3 ⟨c.natAbs,by omega⟩ ⟨i,by omega⟩ (by show 1<=c.natAbs;omega);have:=kN c.natAbs i;exact .inr ⟨c,bodyV c.natAbs i,T0 cs (i+1)++TK a.Const,by rw[T0,if_neg h0,cA,cy],f4,by intro e;rw[e] at this;simp at this⟩
 exact key a.Coefs 0 (λc hc=>b8.1 hall c hc) (by omega)
theorem zCq(a:zA)(ha:validB a=true)(x:zA):zT ⟨tx a⟩ x [0,0,0,0] 0=some (.done (x,a.Coefs,a.Const)):=by
 have hv:=ha;simp only[validB,bW,decide_eq_true_eq] at hv;obtain⟨⟨h4,hk⟩,hall⟩:=hv;have hval:=zD9 x a.Const hk a.Coefs [] (λc hc=>b8.1 hall c hc) (by simp[h4]);simp only[co,cq,h4] at hval;have ap:List.replicate 4 (0:Int)=[0,0,0,0]:=rfl;rw[ap] at hval;change zT ⟨raw a⟩ x [0,0,0,0] 0=_ at hval;have hta:=zBe ha;have htl:=mV ha;unfold tx at hta htl ⊢;rcases zCW a ha with h|⟨c,b,t,h,hb,hn⟩
 ·rw[h,oU] at hval;rw[if_pos h];have hg:=gstep [48] (by simp) rfl (by simp) [0,0,0,0] 0 x rfl;have f1:numOf ((unsign [48]).takeWhile nsg)=some 0:=by decide +kernel
  have f2:nameOf ((unsign [48]).takeWhile nsg)=[]:=by decide +kernel
  have f3:(unsign [48]).dropWhile nsg=[]:=by decide +kernel
  rw[hg,f1,f3];simp only[f2,if_true];rw[oU];rw[<- hval];rfl
 ·have hne:raw a ≠ []:=by rw[h];simp
  rw[if_neg hne] at hta htl ⊢;rw[h] at hval hta htl ⊢;unfold strip at hta htl ⊢;by_cases hc:c<0
  ·have e:sgn c=45:=by unfold sgn;rw[if_pos hc]
   rw[e] at hval hta htl ⊢;exact hval
  ·have e:sgn c=43:=by unfold sgn;rw[if_neg hc]
   rw[e] at hval hta htl ⊢;simp only[if_true] at hta htl ⊢;obtain⟨g1,g2⟩:=zFM 0 b hb hn t;rw[unplus (b++t) (by simp[hn]) g1 g2 hta (by omega) _ _ _ rfl];exact hval
theorem zGj(rest:List UInt8)(h:rest ≠ []):((unsign rest).dropWhile nsg).length<rest.length:=by
 cases rest with
 | nil=>exact absurd rfl h
 | cons b r=>
  have hd:∀l:List UInt8,(l.dropWhile nsg).length<=l.length:=λl=>(List.dropWhile_sublist _).length_le;by_cases hb:isSg b=true
  ·simp only[unsign,hb,if_true,bY];have:=hd r;omega
  ·have hn:nsg b=true:=by simp[nsg,hb]
   have hb':isSg b=false:=by simpa using hb
   simp only[unsign,hb',bV,if_false,List.dropWhile_cons,hn,if_true,bY];have:=hd r;omega
theorem zFy{l:List UInt8}(h:asc l=true):asc (l.dropWhile nsg)=true:=by
 have:=List.takeWhile_append_dropWhile (p:=nsg) (l:=l);rw[<- this] at h;exact(zAz h).2
theorem zCF:∀(n:Nat) (rest:List UInt8) (x:zA) (C:List Int) (K:Int),rest.length<n->asc rest=true->rest.length<=1000->C.length=4 ->
 (zT ⟨rest⟩ x C K=some (.ret (⟨[],0⟩,false)))∨∃C' K',C'.length=4/\zT ⟨rest⟩ x C K=some (.done (x,C',K')):=by
 intro n
 induction n with
 | zero=>intro rest x C K h;omega
 | succ n ih=>
  intro rest x C K hn ha hl hC
  by_cases hne:rest=[]
  ·subst hne
   exact .inr ⟨C,K,hC,oU _ _ _⟩
  ·have av:=zGj rest hne
   have had:=zFy (zBd ha)
   rw[gstep rest hne ha hl C K x hC]
   cases numOf ((unsign rest).takeWhile nsg) with
   | none=>exact .inl rfl
   | some v=>
    simp only
    split
    ·exact ih _ _ _ _ (by omega) had (by omega) hC
    ·split
     ·exact ih _ _ _ _ (by omega) had (by omega) (by rw[cZ];exact hC)
     ·exact .inl rfl
def ResA(t:List UInt8)(r:zA×Bool):Prop:=(r.2=true/\validB r.1=true/\t=tx r.1)∨(r.2=false/\r.1=⟨[],0⟩/\∀a,validB a=true->t ≠ tx a)
theorem implParse(t:Str)(ha:asc t.l=true)(hl:t.l.length<=1048576):∃r,tQ t=some r/\ResA t.l r:=by
 obtain⟨t⟩:=t;simp only at ha hl;unfold tQ;have hcn:pF 0=some ⟨[0,0,0,0],0⟩:=rfl;simp only[hcn,Option.bind_eq_bind,Option.bind_some,Option.pure_def];by_cases h100:t.length>100
 ·have:((t.length:Nat):Int)>100:=by omega
  simp only[this,decide_true,if_true];exact⟨_,rfl,.inr ⟨rfl,rfl,λa hv e=>by have:=mV hv;rw[<- e] at this;omega⟩⟩
 ·have:¬((t.length:Nat):Int)>100:=by omega
  simp only[this,decide_false,bV,if_false];have hval:∀a,validB a=true->t=tx a->zT ⟨t⟩ ⟨[],0⟩ [0,0,0,0] 0=some (.done (⟨[],0⟩,a.Coefs,a.Const)):=by
   rintro a hv rfl;exact zCq a hv _
  rcases zCF (t.length+1) t ⟨[],0⟩ [0,0,0,0] 0 (by omega) ha (by omega) rfl with h|⟨C,K,hC,h⟩
  ·rw[h];simp only[Option.bind_some];exact⟨_,rfl,.inr ⟨rfl,rfl,λa hv e=>by have:=hval a hv e;rw[h] at this;cases this⟩⟩
  ·rw[h];have hvl:=implValid ⟨C,K⟩ (by show C.length<=_;omega);simp only[Option.bind_some,hvl];have hne:∀a,validB a=true->t=tx a->a=⟨C,K⟩:=by
    intro a hv e;have:=hval a hv e;rw[h] at this;obtain⟨c,k⟩:=a;simp only[Option.some.injEq,Out.done.injEq,Prod.mk.injEq,true_and] at this;rw[this.1,this.2]
   cases hv:validB ⟨C,K⟩ with
   | false=>
    simp only[cB,if_true,Option.bind_some];exact⟨_,rfl,.inr ⟨rfl,rfl,λa hva e=>by rw[hne a hva e,hv] at hva;cases hva⟩⟩
   | true=>
    simp only[cJ,bV,if_false,zA2 _ hv,Option.bind_some];cases he:tx ⟨C,K⟩==t with
    | true=>
     simp only[cJ,bV,if_false];exact⟨_,rfl,.inl ⟨rfl,hv,(beq_iff_eq.1 he).symm⟩⟩
    | false=>
     simp only[cB,if_true];exact⟨_,rfl,.inr ⟨rfl,rfl,λa hva e=>by rw[hne a hva e] at e;rw[e] at he;simp at he⟩⟩
end Go.LN
