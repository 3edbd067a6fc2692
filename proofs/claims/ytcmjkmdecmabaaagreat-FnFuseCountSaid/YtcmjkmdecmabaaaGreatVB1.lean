/- Helper of the proof (see the last text). -/
import Derived.Test.YtcmjkmdecmabaaaGreatQT
import Derived.Test.YtcmjkmdecmabaaaGreatHM9
set_option linter.unusedVariables false
set_option linter.unusedSimpArgs false
namespace Go.LN
theorem oS{α β:Type}(x:α)(f:α->Option β):(some x).bind f=f x:=rfl
theorem oB{α β:Type}(x:Option α)(f:α->Option β):(x>>=f)=x.bind f:=rfl
theorem oP{α:Type}(x:α):(pure x:Option α)=some x:=rfl
theorem bF:(false=true)=False:=by simp
theorem iN(n:Nat):((n:Int)).toNat=n:=cL n
theorem gC{α:Type}{l:List α}{i:Nat}(h:i<l.length):l.drop i=l[i]::l.drop (i+1):=dn h
theorem dT(h:Decidable True):decide True=true:=by simp
theorem dF(h:Decidable False):decide False=false:=by simp
theorem gM{α:Type}{l:List α}{i:Nat}(h:i<l.length):l[i]∈l:=List.getElem_mem h
theorem nZ:((0:Nat):Int)=0:=rfl
theorem dN{α:Type}{l:List α}{i:Nat}:l.drop i=[]↔l.length<=i:=dr
theorem bA(a b:Bool):((a&&b)=true)=(a=true/\b=true):=cO a b
theorem bT:(!true)=false:=rfl
theorem bQ{α:Type}[BEq α][ReflBEq α](a:α):(a==a)=true:=beq_self_eq_true a
theorem lA{α:Type}{a b:List α}:(a++b).length=a.length+b.length:=cA
theorem lM{α β:Type}{l:List α}(f:α->β):(l.map f).length=l.length:=cS f
theorem zJy{α:Type}{s:List α}{f i:Nat}(hf:f<=i)(hi:i<=s.length):slc s (f:Int) (i:Int)=some ((s.take i).drop f):=by
 unfold slc;rw[if_pos (by omega)];simp
theorem qJ{α:Type}{b:Nat}{l k:List α}(h:(l.length+k.length)*b<=140737488355328):app b l k=some (l++k):=by
 unfold app;rw[if_pos h]
theorem zNZ{f:Int->Option Bool}{p:Int->Bool}(s:List Int)(hf:∀x∈s,f x=some (p x))(hs:s.length<=9223372036854775806):∀j k,k+j=s.length ->
 vU s f (k:Int)=some (match (s.drop k).findIdx? p with|some i=>.ret (((k+i:Nat)):Int)|none=>.done ()):=by
 intro j
 induction j with
 | zero=>
  intro k hk
  rw[vU]
  have:¬((k:Int)<(s.length:Int)):=by omega
  simp[this,dN.2 (show s.length<=k by omega)]
 | succ j ih=>
  intro k hk
  rw[vU]
  have aK:k<s.length:=by omega
  have:((k:Int)<(s.length:Int)):=by omega
  simp only[this,dT,if_true,zE0,cd aK,oB,oS,hf _ (gM aK)]
  rw[gC aK,ft]
  cases hp:p s[k] with
  | true=>simp
  | false=>
   simp only[bF,if_false]
   rw[zIV (by omega),ih (k+1) (by omega)]
   cases hx:List.findIdx? p (List.drop (k+1) s) with
   | none=>simp
   | some i=>simp;omega
theorem zES{f:Int->Option Bool}{p:Int->Bool}(s:List Int)(hf:∀x∈s,f x=some (p x))(hs:s.length<=9223372036854775806):wD s f=some (s.any p):=by
 unfold wD oQ;have:=zNZ s hf hs s.length 0 (by omega);rw[cr] at this;simp only[nZ,oB] at this ⊢;rw[this];cases h:List.findIdx? p s with
 | none=>
  have:s.any p=false:=by simpa using fe.1 h
  simp[this]
 | some i=>
  have:s.any p=true:=by
   obtain⟨h1,h2⟩:=ea.1 h;exact fc.2 ⟨s[i],gM h1,h2.1⟩
  simp[this]
def coefB(c:Int):Bool:=decide (-9<=c)&&decide (c<=9)
def constB(c:Int):Bool:=decide (-99<=c)&&decide (c<=99)
def validB(a:zA):Bool:=decide (a.Coefs.length=4)&&constB a.Const&&a.Coefs.all coefB
theorem kR(n lo hi:Int):wX n lo hi=some (decide (lo<=n)&&decide (n<=hi)):=by
 unfold wX;by_cases h:lo<=n <;> simp[h]
theorem implValid(a:zA)(h:a.Coefs.length<=1048576):pY a=some (validB a):=by
 unfold pY validB zAh;have e:((a.Coefs.length:Int)==4)=decide (a.Coefs.length=4):=by
  by_cases h4:a.Coefs.length=4
  ·simp[h4]
  ·have:¬(a.Coefs.length:Int)=4:=by omega
   simp[h4,this]
 rw[kR,e];by_cases h4:a.Coefs.length=4
 ·have hc:wD a.Coefs qC=some (a.Coefs.any λc=>!coefB c):=by
   refine zES _ (λx _=>?_) (by omega);unfold qC;rw[kR];rfl
  simp only[h4,dT,if_true,oB,oS,oP,id,hc,cu];rw[show (decide (-99<=a.Const)&&decide (a.Const<=99))=constB a.Const from rfl];cases hk:constB a.Const with
  | false=>simp
  | true=>
   simp only[if_true,oB,oS,cu];rw[eg];simp
 ·simp[h4]
theorem specWithin(n:Int)(k:Nat)(hk:k<=1000):tF n (k:Int)=some (decide (-(k:Int)<=n)&&decide (n<=k)):=by
 unfold tF;rw[rE (by omega) (by omega)];by_cases h:(-(k:Int))<=n
 ·have:n>=0 - (k:Int):=by omega
  simp[h,this]
 ·have:¬n>=0 - (k:Int):=by omega
  simp[h,this]
theorem zJz(a:zA)(h:a.Coefs.length<=1048576):∀j k,k+j=a.Coefs.length->vW a (k:Int)=some (if(a.Coefs.drop k).all coefB then .done () else .ret false):=by
 intro j
 induction j with
 | zero=>
  intro k hk;rw[vW];have:¬((k:Int)<(a.Coefs.length:Int)):=by omega
  simp[this,dN.2 (show a.Coefs.length<=k by omega)]
 | succ j ih=>
  intro k hk;rw[vW];have aK:k<a.Coefs.length:=by omega
  have h1:((k:Int)<(a.Coefs.length:Int)):=by omega
  have hw:tF a.Coefs[k] 9=some (coefB a.Coefs[k]):=specWithin _ 9 (by omega);simp only[h1,dT,if_true,zE0,cd aK,oB,oS,hw];rw[gC aK,ey];cases hp:coefB a.Coefs[k] with
  | false=>simp
  | true=>
   simp only[bT,bF,if_false,cu];rw[zIV (by omega),ih (k+1) (by omega)]
theorem specValid(a:zA)(h:a.Coefs.length<=1048576):tR a=some (validB a):=by
 unfold tR validB;have e:((a.Coefs.length:Int)==4)=decide (a.Coefs.length=4):=by
  by_cases h4:a.Coefs.length=4
  ·simp[h4]
  ·have:¬(a.Coefs.length:Int)=4:=by omega
   simp[h4,this]
 have hl:=zJz a h _ 0 (cy _);have hw:tF a.Const 99=some (constB a.Const):=specWithin _ 99 (by omega);rw[cr,nZ] at hl;rw[hl,e,hw];by_cases hall:a.Coefs.all coefB=true
 ·simp only[hall,if_true,oB,oS];by_cases h4:a.Coefs.length=4 <;> simp[h4]
 ·simp only[hall,if_false,oB,oS];simp
theorem zKA{f:zA->Option Bool}{p:zA->Bool}(s:List zA)(hf:∀x∈s,f x=some (p x))(hs:s.length<=9223372036854775806):∀j k,k+j=s.length ->
 xQ s f (k:Int)=some (match (s.drop k).findIdx? p with|some i=>.ret (((k+i:Nat)):Int)|none=>.done ()):=by
 intro j
 induction j with
 | zero=>
  intro k hk
  rw[xQ]
  have:¬((k:Int)<(s.length:Int)):=by omega
  simp[this,dN.2 (show s.length<=k by omega)]
 | succ j ih=>
  intro k hk
  rw[xQ]
  have aK:k<s.length:=by omega
  have:((k:Int)<(s.length:Int)):=by omega
  simp only[this,dT,if_true,zE0,cd aK,oB,oS,hf _ (gM aK)]
  rw[gC aK,ft]
  cases hp:p s[k] with
  | true=>simp
  | false=>
   simp only[bF,if_false]
   rw[zIV (by omega),ih (k+1) (by omega)]
   cases hx:List.findIdx? p (List.drop (k+1) s) with
   | none=>simp
   | some i=>simp;omega
theorem zG5{f:zA->Option Bool}{p:zA->Bool}(s:List zA)(hf:∀x∈s,f x=some (p x))(hs:s.length<=9223372036854775806):wA s f=some (s.any p):=by
 unfold wA uG;have:=zKA s hf hs s.length 0 (by omega);rw[cr] at this;simp only[nZ,oB] at this ⊢;rw[this];cases h:List.findIdx? p s with
 | none=>
  have:s.any p=false:=by simpa using fe.1 h
  simp[this]
 | some i=>
  have:s.any p=true:=by
   obtain⟨h1,h2⟩:=ea.1 h;exact fc.2 ⟨s[i],gM h1,h2.1⟩
  simp[this]
theorem zKB{f:zI->Option Bool}{p:zI->Bool}(s:List zI)(hf:∀x∈s,f x=some (p x))(hs:s.length<=9223372036854775806):∀j k,k+j=s.length ->
 xZ s f (k:Int)=some (match (s.drop k).findIdx? p with|some i=>.ret (((k+i:Nat)):Int)|none=>.done ()):=by
 intro j
 induction j with
 | zero=>
  intro k hk
  rw[xZ]
  have:¬((k:Int)<(s.length:Int)):=by omega
  simp[this,dN.2 (show s.length<=k by omega)]
 | succ j ih=>
  intro k hk
  rw[xZ]
  have aK:k<s.length:=by omega
  have:((k:Int)<(s.length:Int)):=by omega
  simp only[this,dT,if_true,zE0,cd aK,oB,oS,hf _ (gM aK)]
  rw[gC aK,ft]
  cases hp:p s[k] with
  | true=>simp
  | false=>
   simp only[bF,if_false]
   rw[zIV (by omega),ih (k+1) (by omega)]
   cases hx:List.findIdx? p (List.drop (k+1) s) with
   | none=>simp
   | some i=>simp;omega
theorem zKC{f:zI->Option Bool}{p:zI->Bool}(s:List zI)(hf:∀x∈s,f x=some (p x))(hs:s.length<=9223372036854775806):wV s f=some (s.any p):=by
 unfold wV tI;have:=zKB s hf hs s.length 0 (by omega);rw[cr] at this;simp only[nZ,oB] at this ⊢;rw[this];cases h:List.findIdx? p s with
 | none=>
  have:s.any p=false:=by simpa using fe.1 h
  simp[this]
 | some i=>
  have:s.any p=true:=by
   obtain⟨h1,h2⟩:=ea.1 h;exact fc.2 ⟨s[i],gM h1,h2.1⟩
  simp[this]
theorem zKD{f:zM->Option Bool}{p:zM->Bool}(s:List zM)(hf:∀x∈s,f x=some (p x))(hs:s.length<=9223372036854775806):∀j k,k+j=s.length ->
 xR s f (k:Int)=some (match (s.drop k).findIdx? p with|some i=>.ret (((k+i:Nat)):Int)|none=>.done ()):=by
 intro j
 induction j with
 | zero=>
  intro k hk
  rw[xR]
  have:¬((k:Int)<(s.length:Int)):=by omega
  simp[this,dN.2 (show s.length<=k by omega)]
 | succ j ih=>
  intro k hk
  rw[xR]
  have aK:k<s.length:=by omega
  have:((k:Int)<(s.length:Int)):=by omega
  simp only[this,dT,if_true,zE0,cd aK,oB,oS,hf _ (gM aK)]
  rw[gC aK,ft]
  cases hp:p s[k] with
  | true=>simp
  | false=>
   simp only[bF,if_false]
   rw[zIV (by omega),ih (k+1) (by omega)]
   cases hx:List.findIdx? p (List.drop (k+1) s) with
   | none=>simp
   | some i=>simp;omega
theorem zKE{f:zM->Option Bool}{p:zM->Bool}(s:List zM)(hf:∀x∈s,f x=some (p x))(hs:s.length<=9223372036854775806):wQ s f=some (s.any p):=by
 unfold wQ uI;have:=zKD s hf hs s.length 0 (by omega);rw[cr] at this;simp only[nZ,oB] at this ⊢;rw[this];cases h:List.findIdx? p s with
 | none=>
  have:s.any p=false:=by simpa using fe.1 h
  simp[this]
 | some i=>
  have:s.any p=true:=by
   obtain⟨h1,h2⟩:=ea.1 h;exact fc.2 ⟨s[i],gM h1,h2.1⟩
  simp[this]
theorem zAp{n:Nat}{f:Int->Option (Out Unit Bool)}{P:Nat->Bool}(step:∀i,i<n->f (i:Int)=if P i then f ((i+1:Nat):Int) else some (.ret false))(fin:f (n:Int)=some (.done ())):f 0=some (if(List.range n).all P then .done () else .ret false):=by
 have key:∀j i,i+j=n->f (i:Int)=some (if(List.range' i j).all P then .done () else .ret false):=by
  intro j
  induction j with
  | zero=>intro i hi;rw[show i=n by omega,fin];rfl
  | succ j ih=>
   intro i hi;rw[step i (by omega),dk,ey];cases hP:P i with
   | false=>simp
   | true=>simp only[if_true,cu];exact ih (i+1) (by omega)
 have:=key n 0 (by omega);rw[List.range_eq_range'];exact this
theorem zBA{α:Type}(l:List α)(P:α->Bool)(d:α):(List.range l.length).all (λi=>P (l.getD i d))=l.all P:=by
 rw[fo,ce,ce];constructor
 ·intro h x hx;obtain⟨i,hi,rfl⟩:=e6.1 hx;have:=h i (cH.2 hi);simpa [hi] using this
 ·intro h i hi;have hi:=cH.1 hi;simp only[e7,cd hi,Option.getD_some];exact h _ (gM hi)
theorem xA{α:Type}{l:List α}{i:Nat}(h:i<l.length):idx l (i:Int)=some l[i]:=by rw[zE0,cd h]
theorem uF{i:Nat}(h:i<9223372036854775807):W ((i:Int)+1)=((i+1:Nat):Int):=by rw[rE (by omega) (by omega)];omega
def depL:List Int->Nat->Nat->Nat
 | [],_,n=>n
 | c::C,i,n=>depL C (i+1) (if c=0 then n else i+1)
def depF(a:zA):Nat:=depL a.Coefs 0 0
theorem zKF(a:zA)(h:a.Coefs.length<=1048576):∀(j i n:Nat),i+j=a.Coefs.length->sR a (n:Int) (i:Int)=some ((depL (a.Coefs.drop i) i n:Nat):Int):=by
 intro j
 induction j with
 | zero=>
  intro i n hi;rw[sR];have:¬((i:Int)<(a.Coefs.length:Int)):=by omega
  simp only[this,dF,bF,if_false];rw[dN.2 (by omega)];rfl
 | succ j ih=>
  intro i n hi;rw[sR];have aK:i<a.Coefs.length:=by omega
  have h1:((i:Int)<(a.Coefs.length:Int)):=by omega
  simp only[h1,dT,if_true,xA aK,oB,oS];rw[gC aK,depL,uF (by omega)];by_cases h0:a.Coefs[i]=0
  ·simp only[h0,bne_self_eq_false,bF,if_false,if_true,oP,oS,id];exact ih (i+1) n (by omega)
  ·have hb:(a.Coefs[i] != 0)=true:=by simpa using h0
   simp only[hb,if_true,h0,if_false,oP,oS];exact ih (i+1) (i+1) (by omega)
theorem specDepth(a:zA)(h:a.Coefs.length<=1048576):nC a=some ((depF a:Nat):Int):=by
 unfold nC depF;have:=zKF a h _ 0 0 (cy _);rw[nZ,cr] at this;rw[this];rfl
theorem zKk:∀(C D:List Int) (i n:Nat),depL (C++D) i n=depL D (i+C.length) (depL C i n)
 | [],D,i,n=>rfl
 | c::C,D,i,n=>by rw[ep,depL,depL,zKk C D,cj,show i+1+C.length=i+(C.length+1) by omega]
theorem zKG(a:zA)(h:a.Coefs.length<=1048576):∀n,n<=a.Coefs.length->depL (a.Coefs.drop n) n n=n->∀m:Nat,(∀k,depL (a.Coefs.drop n) n k=k)->rA a (n:Int)=some ((depL (a.Coefs.take n) 0 0:Nat):Int):=by
 intro n
 induction n with
 | zero=>
  intro _ _ _ _;rw[rA];rfl
 | succ n ih=>
  intro hn h1 m hk;rw[rA];have h0:(((n+1:Nat):Int)>0):=by omega
  have aK:n<a.Coefs.length:=by omega
  have hW:W (((n+1:Nat):Int) - 1)=(n:Int):=by rw[rE (by omega) (by omega)];omega
  simp only[h0,dT,if_true,hW,xA aK,oB,oS,oP];rw[f2,cd aK,Option.toList_some,zKk];by_cases hc:a.Coefs[n]=0
  ·simp only[hc,BEq.rfl,if_true,depL];have hk':∀k,depL (a.Coefs.drop n) n k=k:=λk=>by rw[gC aK,depL,hc,if_pos rfl];exact hk k
   exact ih (by omega) (hk' n) 0 hk'
  ·have hb:(a.Coefs[n]==0)=false:=by simpa using hc
   simp only[hb,bF,if_false,depL,hc,id,ci];rw[show 0+min n a.Coefs.length+1=n+1 by omega]
theorem implDepth(a:zA)(h:a.Coefs.length<=1048576):pA a=some ((depF a:Nat):Int):=by
 unfold pA depF;have hd:∀k,depL (a.Coefs.drop a.Coefs.length) a.Coefs.length k=k:=λk=>by rw[List.drop_length];rfl
 have:=zKG a h a.Coefs.length (cW _) (hd _) 0 hd;rw[fa] at this;rw[this];rfl
def BA(a:zA):Prop:=a.Coefs.length<=1000
def BL(l:List zA):Prop:=l.length<=1000/\∀a∈l,BA a
def okA(ae:Int)(a:zA):Bool:=validB a&&decide ((depF a:Int)<=ae)
def sideB(l:List zA)(ae:Int):Bool:=(decide (1<=l.length)&&decide (l.length<=2))&&l.all (okA ae)
theorem implBound(a:zA)(h:BA a)(d:Int):pJ a d=some (!(okA d a)):=by
 unfold pJ okA;have h':a.Coefs.length<=1048576:=by unfold BA at h;omega
 rw[implValid a h',implDepth a h'];cases validB a with
 | false=>rfl
 | true=>
  by_cases hd:(depF a:Int)<=d
  ·have:¬((depF a:Int)>d):=by omega
   simp[hd,this]
  ·have:((depF a:Int)>d):=by omega
   simp[hd,this]
theorem implSide(l:List zA)(h:BL l)(d:Int):jZ l d=some (sideB l d):=by
 unfold jZ sideB;rw[kR];have e1:decide ((1:Int)<=(l.length:Int))=decide (1<=l.length):=by simp;omega
 have e2:decide ((l.length:Int)<=2)=decide (l.length<=2):=by simp;omega
 rw[e1,e2];have hc:=zG5 (f:=λx0=>pJ x0 d) (p:=λx=>!(okA d x)) l (λx hx=>implBound x (h.2 x hx) d) (by have:=h.1;omega);cases hb:(decide (1<=l.length)&&decide (l.length<=2)) with
 | false=>rfl
 | true=>
  simp only[oB,oS,if_true,hc,oP,id,cu];rw[eg];simp
theorem specSide(l:List zA)(h:BL l)(d:Int):jL l d=some (sideB l d):=by
 unfold jL sideB;have bf:=h.1;have hl:=zAp (n:=l.length) (f:=rL l d) (P:=λi=>okA d (l.getD i ⟨[],0⟩)) (λi hi=>by
  rw[rL];have h1:((i:Int)<(l.length:Int)):=by omega
  have ha:l[i].Coefs.length<=1048576:=by have:=h.2 _ (gM hi);unfold BA at this;omega
  have hg:l.getD i ⟨[],0⟩=l[i]:=by simp[hi]
  simp only[h1,dT,if_true,xA hi,oB,oS,specValid _ ha,specDepth _ ha,hg,okA];rw[uF (by omega)];cases validB l[i] with
  | false=>rfl
  | true=>
   by_cases hd:(depF l[i]:Int)<=d
   ·have:¬((depF l[i]:Int)>d):=by omega
    simp[hd,this]
   ·have:((depF l[i]:Int)>d):=by omega
    simp[hd,this]) (by
  rw[rL];simp)
 rw[hl,zBA l (okA d)];cases hb:l.all (okA d) with
 | false=>simp
 | true=>
  simp only[if_true,oB,oS,Bool.and_true];by_cases e1:1<=l.length
  ·have:((l.length:Int)>=1):=by omega
   have e2:decide ((l.length:Int)<=2)=decide (l.length<=2):=by simp;omega
   simp[this,e1,e2]
  ·have:¬((l.length:Int)>=1):=by omega
   simp[this,e1]
def BN(nest:List zG):Prop:=nest.length<=100000/\∀x∈nest,BL x.Lo/\BL x.Hi
def nestB(nest:List zG):Bool:=decide (nest.length<=4)&&(List.range nest.length).all λi=>sideB (nest.getD i ⟨[],[]⟩).Lo i&&sideB (nest.getD i ⟨[],[]⟩).Hi i
theorem implNest(nest:List zG)(h:BN nest):fQ nest=some (nestB nest):=by
 unfold fQ nestB;have bf:=h.1;have hl:=zAp (n:=nest.length) (f:=pC nest) (P:=λi=>sideB (nest.getD i ⟨[],[]⟩).Lo i&&sideB (nest.getD i ⟨[],[]⟩).Hi i) (λi hi=>by
  rw[pC];have h1:((i:Int)<(nest.length:Int)):=by omega
  have ha:=h.2 _ (gM hi);have hg:nest.getD i ⟨[],[]⟩=nest[i]:=by simp[hi]
  simp only[h1,dT,if_true,xA hi,oB,oS,implSide _ ha.1,implSide _ ha.2,hg];rw[uF (by omega)];cases sideB nest[i].Lo i with
  | false=>rfl
  | true=>cases sideB nest[i].Hi i <;> rfl) (by
  rw[pC];simp)
 rw[hl];have e2:decide ((nest.length:Int)<=4)=decide (nest.length<=4):=by simp;omega
 cases hb:(List.range nest.length).all λi=>sideB (nest.getD i ⟨[],[]⟩).Lo i&&sideB (nest.getD i ⟨[],[]⟩).Hi i with
 | false=>simp
 | true=>simp[e2]
theorem specNest(nest:List zG)(h:BN nest):mQ nest=some (nestB nest):=by
 unfold mQ nestB;have bf:=h.1;have e2:decide ((nest.length:Int)<=4)=decide (nest.length<=4):=by simp;omega
 by_cases h4:nest.length<=4
 ·have hl:=zAp (n:=nest.length) (f:=uD nest) (P:=λi=>sideB (nest.getD i ⟨[],[]⟩).Lo i&&sideB (nest.getD i ⟨[],[]⟩).Hi i) (λi hi=>by
   rw[uD];have h1:((i:Int)<(nest.length:Int)):=by omega
   have ha:=h.2 _ (gM hi);have hg:nest.getD i ⟨[],[]⟩=nest[i]:=by simp[hi]
   simp only[h1,e2,h4,dT,if_true,xA hi,oP,oB,oS,specSide _ ha.1,specSide _ ha.2,hg];rw[uF (by omega)];cases sideB nest[i].Lo i with
   | false=>rfl
   | true=>cases sideB nest[i].Hi i <;> rfl) (by
   rw[uD];simp)
  rw[hl,e2];cases hb:(List.range nest.length).all λi=>sideB (nest.getD i ⟨[],[]⟩).Lo i&&sideB (nest.getD i ⟨[],[]⟩).Hi i with
  | false=>simp
  | true=>simp
 ·rw[uD];by_cases h0:(0:Int)<(nest.length:Int) <;> simp[h0,e2,h4]
end Go.LN
namespace Go.LN
def J64(x:Int):Prop:=-9223372036854775808<=x/\x<=9223372036854775807
theorem zPl(x:Int):J64 (W x):=by
 show -9223372036854775808<=IntKind.i64.wrap x/\IntKind.i64.wrap x<=9223372036854775807;rw[IntKind.wrap_i64];omega
def evC:List Int->List Int->Int->Int
 | c::C,x::p,n=>evC C p (W (n+W (c*x)))
 | _,_,n=>n
def evA(a:zA)(p:List Int):Int:=evC a.Coefs p a.Const
theorem zMA(C:List Int)(n:Int):evC C [] n=n:=by cases C <;> rfl
theorem zN0(p:List Int)(n:Int):evC [] p n=n:=by cases p <;> rfl
theorem zG6:∀(C p:List Int) (n:Int),J64 n->J64 (evC C p n)
 | [],p,n,h=>by rw[zN0];exact h
 | c::C,[],n,h=>h
 | c::C,x::p,n,h=>zG6 C p _ (zPl _)
theorem zKl(a:zA)(p:List Int)(h:p.length<=a.Coefs.length)(hp:p.length<=1048576):∀j i n,i+j=p.length->rU a p n (i:Int)=some (evC (a.Coefs.drop i) (p.drop i) n):=by
 intro j
 induction j with
 | zero=>
  intro i n hi;rw[rU];have:¬((i:Int)<(p.length:Int)):=by omega
  simp only[this,dF,bF,if_false];rw[show p.drop i=[] from dN.2 (by omega),zMA];rfl
 | succ j ih=>
  intro i n hi;rw[rU];have aK:i<p.length:=by omega
  have hlt2:i<a.Coefs.length:=by omega
  have h1:((i:Int)<(p.length:Int)):=by omega
  simp only[h1,dT,if_true,xA aK,xA hlt2,oB,oS];rw[uF (by omega),ih (i+1) _ (by omega),gC aK,gC hlt2,evC]
theorem implEval(a:zA)(p:List Int)(h:p.length<=a.Coefs.length)(hp:p.length<=1048576):rB a p=some (evA a p):=by
 unfold rB evA;have:=zKl a p h hp _ 0 a.Const (cy _);rw[nZ,cr,cr] at this;rw[this];rfl
theorem zKm(a:zA)(p:List Int)(h:p.length<=a.Coefs.length)(hp:p.length<=1048576):∀j i n,i+j=p.length->rK a p n (i:Int)=some (evC (a.Coefs.drop i) (p.drop i) n):=by
 intro j
 induction j with
 | zero=>
  intro i n hi;rw[rK];have:¬((i:Int)<(p.length:Int)):=by omega
  simp only[this,dF,bF,if_false,oP,oB,oS];rw[show p.drop i=[] from dN.2 (by omega),zMA];rfl
 | succ j ih=>
  intro i n hi;rw[rK];have aK:i<p.length:=by omega
  have hlt2:i<a.Coefs.length:=by omega
  have h1:((i:Int)<(p.length:Int)):=by omega
  have h2:((i:Int)<(a.Coefs.length:Int)):=by omega
  simp only[h1,h2,dT,if_true,xA aK,xA hlt2,oP,oB,oS];rw[uF (by omega),ih (i+1) _ (by omega),gC aK,gC hlt2,evC]
theorem specEval(a:zA)(p:List Int)(h:p.length<=a.Coefs.length)(hp:p.length<=1048576):pT a p=some (evA a p):=by
 unfold pT evA;have:=zKm a p h hp _ 0 a.Const (cy _);rw[nZ,cr,cr] at this;rw[this];rfl
def mxF(p:List Int):List zA->Int->Int
 | [],n=>n
 | a::l,n=>mxF p l (if evA a p>n then evA a p else n)
def mnF(p:List Int):List zA->Int->Int
 | [],n=>n
 | a::l,n=>mnF p l (if evA a p<n then evA a p else n)
def loF(l:zG)(p:List Int):Int:=match l.Lo with|[]=>0|a::r=>mxF p r (evA a p)
def hiF(l:zG)(p:List Int):Int:=match l.Hi with|[]=>0|a::r=>mnF p r (evA a p)
def OV(l:List zA):Prop:=l ≠ []/\l.length<=1000/\∀a∈l,a.Coefs.length=4/\J64 a.Const
theorem zMB(p:List Int):∀(l:List zA) (n:Int),J64 n->(∀a∈l,J64 a.Const)->J64 (mxF p l n)
 | [],n,h,_=>h
 | a::l,n,h,hl=>by
  refine zMB p l _ ?_ (λx hx=>hl x (cf _ hx))
  split
  ·exact zG6 _ _ _ (hl a (ck ..))
  ·exact h
theorem zMC(p:List Int):∀(l:List zA) (n:Int),J64 n->(∀a∈l,J64 a.Const)->J64 (mnF p l n)
 | [],n,h,_=>h
 | a::l,n,h,hl=>by
  refine zMC p l _ ?_ (λx hx=>hl x (cf _ hx))
  split
  ·exact zG6 _ _ _ (hl a (ck ..))
  ·exact h
theorem zKH{l:zG}(p:List Int)(h:OV l.Lo):J64 (loF l p):=by
 unfold loF;obtain⟨h1,_,h2⟩:=h;cases hl:l.Lo with
 | nil=>exact absurd hl h1
 | cons a r=>
  rw[hl] at h2;exact zMB _ _ _ (zG6 _ _ _ (h2 a (ck ..)).2) λx hx=>(h2 x (cf _ hx)).2
theorem zKI{l:zG}(p:List Int)(h:OV l.Hi):J64 (hiF l p):=by
 unfold hiF;obtain⟨h1,_,h2⟩:=h;cases hl:l.Hi with
 | nil=>exact absurd hl h1
 | cons a r=>
  rw[hl] at h2;exact zMC _ _ _ (zG6 _ _ _ (h2 a (ck ..)).2) λx hx=>(h2 x (cf _ hx)).2
theorem zKn(l:zG)(p:List Int)(hp:p.length<=4)(h:OV l.Lo):∀j i n,i+j=l.Lo.length->pD l p n (i:Int)=some (mxF p (l.Lo.drop i) n):=by
 obtain⟨_,hl,h2⟩:=h;intro j
 induction j with
 | zero=>
  intro i n hi;rw[pD];have:¬((i:Int)<(l.Lo.length:Int)):=by omega
  simp only[this,dF,bF,if_false];rw[dN.2 (by omega)];rfl
 | succ j ih=>
  intro i n hi;rw[pD];have aK:i<l.Lo.length:=by omega
  have h1:((i:Int)<(l.Lo.length:Int)):=by omega
  have ha:=(h2 _ (gM aK)).1;simp only[h1,dT,if_true,xA aK,oB,oS,implEval _ _ (show p.length<=l.Lo[i].Coefs.length by omega) (by omega)];rw[uF (by omega),ih (i+1) _ (by omega),gC aK,mxF]
theorem zKo(l:zG)(p:List Int)(hp:p.length<=4)(h:OV l.Hi):∀j i n,i+j=l.Hi.length->pE l p n (i:Int)=some (mnF p (l.Hi.drop i) n):=by
 obtain⟨_,hl,h2⟩:=h;intro j
 induction j with
 | zero=>
  intro i n hi;rw[pE];have:¬((i:Int)<(l.Hi.length:Int)):=by omega
  simp only[this,dF,bF,if_false];rw[dN.2 (by omega)];rfl
 | succ j ih=>
  intro i n hi;rw[pE];have aK:i<l.Hi.length:=by omega
  have h1:((i:Int)<(l.Hi.length:Int)):=by omega
  have ha:=(h2 _ (gM aK)).1;simp only[h1,dT,if_true,xA aK,oB,oS,implEval _ _ (show p.length<=l.Hi[i].Coefs.length by omega) (by omega)];rw[uF (by omega),ih (i+1) _ (by omega),gC aK,mnF]
theorem zKp(l:zG)(p:List Int)(hp:p.length<=4)(h:OV l.Lo):∀j i n,i+j=l.Lo.length->sS l p n (i:Int)=some (mxF p (l.Lo.drop i) n):=by
 obtain⟨_,hl,h2⟩:=h;intro j
 induction j with
 | zero=>
  intro i n hi;rw[sS];have:¬((i:Int)<(l.Lo.length:Int)):=by omega
  simp only[this,dF,bF,if_false];rw[dN.2 (by omega)];rfl
 | succ j ih=>
  intro i n hi;rw[sS];have aK:i<l.Lo.length:=by omega
  have h1:((i:Int)<(l.Lo.length:Int)):=by omega
  have ha:=(h2 _ (gM aK)).1;simp only[h1,dT,if_true,xA aK,oB,oS,specEval _ _ (show p.length<=l.Lo[i].Coefs.length by omega) (by omega)];rw[uF (by omega),gC aK,mxF];by_cases hc:evA l.Lo[i] p>n
  ·simp only[hc,dT,if_true,oP,oS,id];exact ih (i+1) _ (by omega)
  ·simp only[hc,dF,bF,if_false,oP,oS,id];exact ih (i+1) _ (by omega)
theorem zKq(l:zG)(p:List Int)(hp:p.length<=4)(h:OV l.Hi):∀j i n,i+j=l.Hi.length->sT l p n (i:Int)=some (mnF p (l.Hi.drop i) n):=by
 obtain⟨_,hl,h2⟩:=h;intro j
 induction j with
 | zero=>
  intro i n hi;rw[sT];have:¬((i:Int)<(l.Hi.length:Int)):=by omega
  simp only[this,dF,bF,if_false];rw[dN.2 (by omega)];rfl
 | succ j ih=>
  intro i n hi;rw[sT];have aK:i<l.Hi.length:=by omega
  have h1:((i:Int)<(l.Hi.length:Int)):=by omega
  have ha:=(h2 _ (gM aK)).1;simp only[h1,dT,if_true,xA aK,oB,oS,specEval _ _ (show p.length<=l.Hi[i].Coefs.length by omega) (by omega)];rw[uF (by omega),gC aK,mnF];by_cases hc:evA l.Hi[i] p<n
  ·simp only[hc,dT,if_true,oP,oS,id];exact ih (i+1) _ (by omega)
  ·simp only[hc,dF,bF,if_false,oP,oS,id];exact ih (i+1) _ (by omega)
theorem implSpan(l:zG)(p:List Int)(hp:p.length<=4)(hlo:OV l.Lo)(hhi:OV l.Hi):fR l p=some (loF l p,hiF l p):=by
 unfold fR loF hiF;have h1:=zKn l p hp hlo;have h2:=zKo l p hp hhi;obtain⟨n1,_,q1⟩:=hlo;obtain⟨n2,_,q2⟩:=hhi;cases hl:l.Lo with
 | nil=>exact absurd hl n1
 | cons a r=>
  cases hh:l.Hi with
  | nil=>exact absurd hh n2
  | cons b s=>
   rw[hl] at q1;rw[hh] at q2;have ha:=(q1 a (ck ..)).1;have hb:=(q2 b (ck ..)).1;have i1:idx (a::r) 0=some a:=rfl;have i2:idx (b::s) 0=some b:=rfl;have k1:=h1 _ 0 (evA a p) (cy _);have k2:=h2 _ 0 (evA b p) (cy _);rw[nZ,cr,hl,mxF] at k1;rw[nZ,cr,hh,mnF] at k2;simp only[i1,i2,oB,oS,implEval _ _ (show p.length<=a.Coefs.length by omega) (by omega),implEval _ _ (show p.length<=b.Coefs.length by omega) (by omega),k1,k2,oP];simp
theorem specSpan(l:zG)(p:List Int)(hp:p.length<=4)(hlo:OV l.Lo)(hhi:OV l.Hi):kK l p=some (loF l p,hiF l p):=by
 unfold kK loF hiF;have h1:=zKp l p hp hlo;have h2:=zKq l p hp hhi;obtain⟨n1,_,q1⟩:=hlo;obtain⟨n2,_,q2⟩:=hhi;cases hl:l.Lo with
 | nil=>exact absurd hl n1
 | cons a r=>
  cases hh:l.Hi with
  | nil=>exact absurd hh n2
  | cons b s=>
   rw[hl] at q1;rw[hh] at q2;have ha:=(q1 a (ck ..)).1;have hb:=(q2 b (ck ..)).1;have i1:idx (a::r) 0=some a:=rfl;have i2:idx (b::s) 0=some b:=rfl;have k1:=h1 r.length 1 (evA a p) (by rw[hl,cj];omega);have k2:=h2 s.length 1 (evA b p) (by rw[hh,cj];omega);rw[hl,List.drop_one,List.tail_cons] at k1;rw[hh,List.drop_one,List.tail_cons] at k2;simp only[i1,i2,oB,oS,specEval _ _ (show p.length<=a.Coefs.length by omega) (by omega),specEval _ _ (show p.length<=b.Coefs.length by omega) (by omega),oP]
   erw [k1]
   simp only[oS]
   erw [k2]
   rfl
end Go.LN
namespace Go.LN
def rngK:Nat->Int->List Int
 | 0,_=>[]
 | k+1,v=>v::rngK k (v+1)
def rng(lo hi:Int):List Int:=rngK (hi - lo).toNat lo
def wrk:List zG->List Int->Nat
 | [],_=>1
 | l::ls,p=>1+((rng (loF l p) (hiF l p)).map λv=>wrk ls (p++[v])).sum
def pts:List zG->List Int->List (List Int)
 | [],p=>[p]
 | l::ls,p=>(rng (loF l p) (hiF l p)).flatMap λv=>pts ls (p++[v])
def OL(x:zG):Prop:=OV x.Lo/\OV x.Hi
theorem zOT:∀(ls:List zG) (p:List Int),1<=wrk ls p
 | [],_=>cW _
 | _::_,_=>Nat.le_add_right ..
theorem zAq{b:Nat}(p:List Int)(h:p.length*b<=140737488355328):app b ([]:List Int) p=some p:=by
 rw[qJ (by simpa using h)];rfl
theorem zHP{α:Type}{nest:List α}{n:Nat}{l:α}{ls:List α}(h:nest.drop n=l::ls):∃hn:n<nest.length,nest[n]=l/\nest.drop (n+1)=ls:=by
 have hn:n<nest.length:=by
  rcases dx n nest.length with h' | h'
  ·exact h'
  ·rw[dN.2 h'] at h;cases h
 rw[gC hn] at h;injection h with h1 h2;exact⟨hn,h1,h2⟩
theorem specWork:∀(ls nest:List zG) (p:List Int) (m:Nat),(∀x∈ls,OL x)->nest.drop p.length=ls->p.length+ls.length=nest.length->nest.length<=4->m<=1200->qM nest p (m:Int)=some ((min (wrk ls p) (m+1):Nat):Int)
 | [],nest,p,m,hv,hd,hl,h4,hm=>by
  rw[qM]
  have:((p.length:Int)==(nest.length:Int))=true:=by simp at hl;simp;omega
  simp only[this,if_true,wrk,id,oP]
  rw[show min 1 (m+1)=1 by omega];rfl
 | l::ls,nest,p,m,hv,hd,hl,h4,hm=>by
  rw[qM]
  obtain⟨hn,hnl,hd'⟩:=zHP hd
  have hne:((p.length:Int)==(nest.length:Int))=false:=by simp;omega
  have hp4:p.length<=4:=by omega
  obtain⟨o1,o2⟩:=hv l (ck ..)
  simp only[hne,bF,if_false,xA hn,hnl,oB,oS,specSpan l p hp4 o1 o2,same,oP]
  have hlo:=zKH p o1
  have hhi:=zKI p o2
  have key:∀(k:Nat) (n:Nat) (v:Int),(hiF l p - v).toNat=k->J64 v->n<=m+1->qV nest p (m:Int) (hiF l p) (n:Int) v=some ((min (n+((rngK k v).map λv=>wrk ls (p++[v])).sum) (m+1):Nat):Int):=by
   intro k
   induction k with
   | zero=>
    intro n v hk hv' hn'
    rw[qV]
    have:¬(v<hiF l p):=by omega
    simp only[this,dF,bF,if_false,oP,oB,oS,rngK,df,List.sum_nil,id]
    congr 1;omega
   | succ k ih=>
    intro n v hk hv' hn'
    rw[qV]
    have aK:v<hiF l p:=by omega
    have bf:(p++[v]).length=p.length+1:=by simp
    by_cases bH:n<=m
    ·have h1:((n:Int)<=(m:Int)):=by omega
     have e1:W ((m:Int) - (n:Int))=((m - n:Nat):Int):=by rw[rE (by omega) (by omega)];omega
     have hw:=specWork ls nest (p++[v]) (m - n) (λx hx=>hv x (cf _ hx)) (by rw[bf];exact hd') (by rw[bf];simp only[cj] at hl;omega) h4 (by omega)
     have hpp:app 8 p [v]=some (p++[v]):=qJ (by simp;omega)
     have hpn:app 8 ([]:List Int) p=some p:=zAq p (by omega)
     simp only[aK,h1,dT,if_true,oP,oB,oS,hpn,hpp,same,e1,hw]
     generalize hww:wrk ls (p++[v])=w at hw ⊢
     have e2:W ((n:Int)+((min w (m - n+1):Nat):Int))=((n+min w (m - n+1):Nat):Int):=by rw[rE (by omega) (by omega)];omega
     have e3:W (v+1)=v+1:=rE (by unfold J64 at hv';omega) (by unfold J64 at hhi;omega)
     rw[e2,e3,ih _ _ (by omega) (by unfold J64 at hv' hhi ⊢;omega) (by omega),rngK,cG,List.sum_cons,hww]
     rw[show min (n+min w (m - n+1)+((rngK k (v+1)).map λv=>wrk ls (p++[v])).sum) (m+1)=min (n+(w+((rngK k (v+1)).map λv=>wrk ls (p++[v])).sum)) (m+1) by omega]
    ·have h1:¬((n:Int)<=(m:Int)):=by omega
     simp only[aK,h1,dT,dF,bF,if_false,if_true,oP,oB,oS,id]
     congr 1;omega
  have:=key _ 1 (loF l p) rfl hlo (by omega)
  rw[Int.natCast_one] at this
  rw[this]
  rfl
theorem zM5(a b:List (List Int))(n:Nat):((a.take n)++b).take n=(a++b).take n:=by
 rw[List.take_append,List.take_append,d6,Nat.min_self,ci];rcases Nat.le_total a.length n with h|h
 ·rw[Nat.min_eq_right h]
 ·rw[Nat.min_eq_left h,Nat.sub_self,show n - a.length=0 by omega]
theorem specPts:∀(ls nest:List zG) (p:List Int) (out:List (List Int)),(∀x∈ls,OL x)->nest.drop p.length=ls->p.length+ls.length=nest.length->nest.length<=4->out.length<=120->tG out nest p=some ((out++pts ls p).take 121)
 | [],nest,p,out,hv,hd,hl,h4,ho=>by
  rw[tG]
  have:((p.length:Int)==(nest.length:Int))=true:=by simp at hl;simp;omega
  have hp4:p.length<=4:=by simp at hl;omega
  have happ:app 24 out [p]=some (out++[p]):=qJ (by simp;omega)
  have hpn:app 8 ([]:List Int) p=some p:=zAq p (by omega)
  simp only[this,if_true,pts,id,oP,oB,oS,hpn,happ]
  rw[dj (by simp;omega)]
 | l::ls,nest,p,out,hv,hd,hl,h4,ho=>by
  rw[tG]
  obtain⟨hn,hnl,hd'⟩:=zHP hd
  have hne:((p.length:Int)==(nest.length:Int))=false:=by simp;omega
  have hp4:p.length<=4:=by omega
  obtain⟨o1,o2⟩:=hv l (ck ..)
  simp only[hne,bF,if_false,xA hn,hnl,oB,oS,specSpan l p hp4 o1 o2,same,oP]
  have hlo:=zKH p o1
  have hhi:=zKI p o2
  have key:∀(k:Nat) (out:List (List Int)) (v:Int),(hiF l p - v).toNat=k->J64 v->out.length<=121->rD nest p (hiF l p) out v=some ((out++(rngK k v).flatMap λv=>pts ls (p++[v])).take 121):=by
   intro k
   induction k with
   | zero=>
    intro out v hk hv' ho'
    rw[rD]
    have:¬(v<hiF l p):=by omega
    simp only[this,dF,bF,if_false,oP,oB,oS,rngK,fb,cx,id]
    rw[dj ho']
   | succ k ih=>
    intro out v hk hv' ho'
    rw[rD]
    have aK:v<hiF l p:=by omega
    have bf:(p++[v]).length=p.length+1:=by simp
    by_cases bH:out.length<=120
    ·have h1:((out.length:Int)<=120):=by omega
     have hw:=specPts ls nest (p++[v]) out (λx hx=>hv x (cf _ hx)) (by rw[bf];exact hd') (by rw[bf];simp only[cj] at hl;omega) h4 bH
     have hpp:app 8 p [v]=some (p++[v]):=qJ (by simp;omega)
     have e3:W (v+1)=v+1:=rE (by unfold J64 at hv';omega) (by unfold J64 at hhi;omega)
     have hpn:app 8 ([]:List Int) p=some p:=zAq p (by omega)
     simp only[aK,h1,dT,if_true,oP,oB,oS,hpn,hpp,same,hw,e3]
     rw[ih _ _ (by omega) (by unfold J64 at hv' hhi ⊢;omega) (by rw[ci];omega),zM5,rngK,cg,cm]
    ·have h1:¬((out.length:Int)<=120):=by omega
     simp only[aK,h1,dT,dF,bF,if_false,if_true,oP,oB,oS,id]
     rw[List.take_left' (by omega)]
  have:=key _ out (loF l p) rfl hlo (by omega)
  rw[this]
  rfl
theorem zET(p:List Int)(h:p.length<=1048576):uH p=some p:=zAq p (by omega)
theorem implWalk:∀(ls nest:List zG) (p:List Int) (steps:Nat) (out:List (List Int)),(∀x∈ls,OL x)->nest.drop p.length=ls->p.length+ls.length=nest.length->nest.length<=4->steps<=1199->out.length<=120 ->
 ∃r w,rQ ⟨nest,(steps:Int),out⟩ p=some (r,w)/\(steps+wrk ls p<=1200/\out.length+(pts ls p).length<=120->r=true/\w=⟨nest,((steps+wrk ls p - 1:Nat):Int),out++pts ls p⟩)/\(¬(steps+wrk ls p<=1200/\out.length+(pts ls p).length<=120)->r=false)
 | [],nest,p,steps,out,hv,hd,hl,h4,hs,ho=>by
  rw[rQ]
  have:((p.length:Int)==(nest.length:Int))=true:=by simp at hl;simp;omega
  have hp4:p.length<=4:=by simp at hl;omega
  have happ:app 24 out [p]=some (out++[p]):=qJ (by simp;omega)
  simp only[this,if_true,oP,oB,oS,zET p (by omega),happ]
  refine⟨_,_,rfl,λh=>?_,λh=>?_⟩
  ·simp only[wrk,pts,List.length_singleton] at h ⊢
   refine⟨by simp;omega,?_⟩
   rw[show steps+1 - 1=steps by omega]
  ·simp only[wrk,pts,List.length_singleton] at h
   simp;omega
 | l::ls,nest,p,steps,out,hv,hd,hl,h4,hs,ho=>by
  rw[rQ]
  obtain⟨hn,hnl,hd'⟩:=zHP hd
  have hne:((p.length:Int)==(nest.length:Int))=false:=by simp;omega
  have hp4:p.length<=4:=by omega
  obtain⟨o1,o2⟩:=hv l (ck ..)
  simp only[hne,bF,if_false,xA hn,hnl,oB,oS,implSpan l p hp4 o1 o2,same,oP]
  have hlo:=zKH p o1
  have hhi:=zKI p o2
  have key:∀(k:Nat) (steps:Nat) (out:List (List Int)) (v:Int),(hiF l p - v).toNat=k->J64 v->steps<=1199->out.length<=120 ->
   ∃o,qO p (hiF l p) v nest (steps:Int) out=some o/\(steps+((rngK k v).map λv=>wrk ls (p++[v])).sum<=1199/\out.length+((rngK k v).flatMap λv=>pts ls (p++[v])).length<=120 ->
    o=.done (nest,((steps+((rngK k v).map λv=>wrk ls (p++[v])).sum:Nat):Int),out++(rngK k v).flatMap λv=>pts ls (p++[v])))/\(¬(steps+((rngK k v).map λv=>wrk ls (p++[v])).sum<=1199/\out.length+((rngK k v).flatMap λv=>pts ls (p++[v])).length<=120)->∃w,o=.ret (false,w)):=by
   intro k
   induction k with
   | zero=>
    intro steps out v hk hv' ag ho'
    rw[qO]
    have:¬(v<hiF l p):=by omega
    simp only[this,dF,bF,if_false,oP]
    simp only[rngK,df,List.sum_nil,fb,cx,cK,fg]
    exact⟨_,rfl,λ_=>rfl,λh=>absurd ⟨ag,ho'⟩ h⟩
   | succ k ih=>
    intro steps out v hk hv' ag ho'
    rw[qO]
    have aK:v<hiF l p:=by omega
    have bf:(p++[v]).length=p.length+1:=by simp
    have e1:W ((steps:Int)+1)=((steps+1:Nat):Int):=uF (by omega)
    have e2:W (((steps+1:Nat):Int)+1)=((steps+2:Nat):Int):=uF (by omega)
    have e3:W (v+1)=v+1:=rE (by unfold J64 at hv';omega) (by unfold J64 at hhi;omega)
    have hpos:=zOT ls (p++[v])
    simp only[rngK,cG,List.sum_cons,cg,lA]
    by_cases bH:steps+2>1200
    ·have h1:(((steps+2:Nat):Int)>1200):=by omega
     simp only[aK,e1,e2,h1,dT,if_true,oP,oB,oS]
     exact⟨_,rfl,λh=>absurd h.1 (by omega),λ_=>⟨_,rfl⟩⟩
    ·have h1:¬(((steps+2:Nat):Int)>1200):=by omega
     have hpp:app 8 p [v]=some (p++[v]):=qJ (by simp;omega)
     obtain⟨r,w,hw,hc⟩:=implWalk ls nest (p++[v]) (steps+1) out (λx hx=>hv x (cf _ hx)) (by rw[bf];exact hd') (by rw[bf];simp only[cj] at hl;omega) h4 (by omega) ho'
     simp only[aK,e1,e2,h1,dT,dF,bF,if_false,if_true,oP,oB,oS,zET p (by omega),hpp,same,hw,e3]
     generalize hW:wrk ls (p++[v])=wv at hc hpos ⊢
     generalize hP:pts ls (p++[v])=pv at hc ⊢
     by_cases bI:steps+1+wv<=1200/\out.length+pv.length<=120
     ·obtain⟨rfl,rfl⟩:=hc.1 bI
      simp only[bT,bF,if_false]
      rw[show steps+1+wv - 1=steps+wv by omega]
      obtain⟨o,ho1,ho2⟩:=ih (steps+wv) (out++pv) (v+1) (by omega) (by unfold J64 at hv' hhi ⊢;omega) (by omega) (by rw[lA];omega)
      refine⟨o,ho1,?_⟩
      rw[lA,ex,ex,cm] at ho2
      exact ho2
     ·obtain rfl:=hc.2 bI
      simp only[di,if_true]
      exact⟨_,rfl,λh=>absurd h (by omega),λ_=>⟨_,rfl⟩⟩
  obtain⟨o,ho1,ho2⟩:=key _ steps out (loF l p) rfl hlo (by omega) ho
  rw[ho1]
  simp only[wrk,pts,rng]
  by_cases hc:steps+((rngK (hiF l p - loF l p).toNat (loF l p)).map λv=>wrk ls (p++[v])).sum<=1199/\out.length+((rngK (hiF l p - loF l p).toNat (loF l p)).flatMap λv=>pts ls (p++[v])).length<=120
  ·obtain rfl:=ho2.1 hc
   refine⟨_,_,rfl,λ_=>⟨rfl,?_⟩,λh=>absurd ⟨by omega,hc.2⟩ h⟩
   rw[show steps+(1+((rngK (hiF l p - loF l p).toNat (loF l p)).map λv=>wrk ls (p++[v])).sum) - 1=steps+((rngK (hiF l p - loF l p).toNat (loF l p)).map λv=>wrk ls (p++[v])).sum by omega]
  ·obtain⟨w,rfl⟩:=ho2.2 hc
   exact⟨_,_,rfl,λh=>absurd ⟨by omega,h.2⟩ hc,λ_=>rfl⟩
def nestPts(nest:List zG):List (List Int)×Bool:=if nestB nest=true/\wrk nest []<=1200/\(pts nest []).length<=120 then(pts nest [],true) else([],false)
theorem zMD{l:List zA}{d:Int}(h:sideB l d=true):OV l:=by
 simp only[sideB,bA,decide_eq_true_eq] at h;obtain⟨⟨h1,h2⟩,h3⟩:=h;refine⟨by rintro rfl;simp at h1,by omega,λa ha=>?_⟩;have:=ce.1 h3 a ha;simp only[okA,validB,constB,bA,decide_eq_true_eq] at this;exact⟨this.1.1.1,by unfold J64;omega⟩
theorem zIC{nest:List zG}(h:nestB nest=true):nest.length<=4/\∀x∈nest,OL x:=by
 simp only[nestB,bA,decide_eq_true_eq] at h;refine⟨h.1,λx hx=>?_⟩;obtain⟨i,hi,rfl⟩:=e6.1 hx;have:=ce.1 h.2 i (cH.2 hi);rw[bA] at this;have hg:nest.getD i ⟨[],[]⟩=nest[i]:=by simp[hi]
 rw[hg] at this;exact⟨zMD this.1,zMD this.2⟩
theorem implPoints(nest:List zG)(h:BN nest):gK nest=some (nestPts nest):=by
 unfold gK nestPts;rw[implNest nest h];cases hb:nestB nest with
 | false=>simp
 | true=>
  obtain⟨h4,hv⟩:=zIC hb;obtain⟨r,w,hw,hc⟩:=implWalk nest nest [] 0 [] hv rfl (by simp) h4 (by omega) (by simp);rw[nZ] at hw;simp only[bT,bF,if_false,oB,oS,hw,true_and];simp only[cy,cK,cC] at hc;by_cases bI:wrk nest []<=1200/\(pts nest []).length<=120
  ·obtain⟨rfl,rfl⟩:=hc.1 bI;rw[if_pos bI];rfl
  ·obtain rfl:=hc.2 bI;rw[if_neg bI];rfl
theorem specPoints(nest:List zG)(h:BN nest):nF nest=some (nestPts nest):=by
 unfold nF nestPts;rw[specNest nest h];cases hb:nestB nest with
 | false=>simp
 | true=>
  obtain⟨h4,hv⟩:=zIC hb;have hw:=specWork nest nest [] 1200 hv rfl (by simp) h4 (by omega);have hp:=specPts nest nest [] [] hv rfl (by simp) h4 (by simp);rw[show ((1200:Nat):Int)=1200 from rfl] at hw;simp only[bT,bF,if_false,oB,oS,hw,hp,true_and,oP,cC];generalize wrk nest []=w;generalize pts nest []=P;by_cases h1:w<=1200
  ·have e:¬(((min w (1200+1):Nat):Int)>1200):=by omega
   simp only[e,dF,bF,if_false,h1,true_and,ci];by_cases h2:P.length<=120
   ·have e2:¬(((min 121 P.length:Nat):Int)>120):=by omega
    simp only[e2,h2,dF,bF,if_false,if_true];rw[dj (by omega)]
   ·have e2:(((min 121 P.length:Nat):Int)>120):=by omega
    simp only[e2,h2,dT,if_true,if_false]
  ·have e:(((min w (1200+1):Nat):Int)>1200):=by omega
   simp only[e,dT,if_true,h1,false_and,if_false]
end Go.LN
namespace Go.LN
def nameL:List UInt8->Bool
 | [c]=>decide (65<=c.toNat)&&decide (c.toNat<=68)
 | _=>false
theorem zN1{P:UInt8->Prop}(h:∀n:Fin 256,P (UInt8.ofNat n.val))(c:UInt8):P c:=by
 have:=h ⟨c.toNat,c.toNat_lt⟩;simpa using this
theorem zOU(c:UInt8):decide (0<=Lib.indexByte [65,66,67,68] c)=nameL [c]:=
 zN1 (P:=λc=>decide (0<=Lib.indexByte [65,66,67,68] c)=nameL [c]) (by decide +kernel) c
theorem zOV(c:UInt8):(!(Op.bytesLess [c] [65])&&(Op.bytesLess [c] [68]||[c]==[68]))=nameL [c]:=
 zN1 (P:=λc=>(!(Op.bytesLess [c] [65])&&(Op.bytesLess [c] [68]||[c]==[68]))=nameL [c]) (by decide +kernel) c
theorem implIsArray(s:Str):fP s=some (nameL s.l):=by
 obtain⟨l⟩:=s;unfold fP
 match l with
 | []=>rfl
 | [c]=>
  have:eF ⟨[65,66,67,68]⟩ ⟨[c]⟩=some (decide (0<=Lib.indexByte [65,66,67,68] c)):=rfl;simp only[this,zOU];rfl
 | c::d::r=>
  have:(((c::d::r).length:Int)==1)=false:=by simp;omega
  simp only[this,bF,if_false];rfl
def BR(l:List zD):Prop:=l.length<=100000/\∀a∈l,a.Dims.length<=1000
def dimB(n:Int):Bool:=decide (1<=n)&&decide (n<=6)
def arrI(l:List zD)(i:Nat):Bool:=
 nameL (l.getD i ⟨⟨[]⟩,[]⟩).Name.l&&(decide (i=0)||Op.bytesLess (l.getD (i - 1) ⟨⟨[]⟩,[]⟩).Name.l (l.getD i ⟨⟨[]⟩,[]⟩).Name.l)&&(decide (1<=(l.getD i ⟨⟨[]⟩,[]⟩).Dims.length)&&decide ((l.getD i ⟨⟨[]⟩,[]⟩).Dims.length<=2))&&(l.getD i ⟨⟨[]⟩,[]⟩).Dims.all dimB
def arrB(l:List zD):Bool:=decide (l.length<=4)&&(List.range l.length).all (arrI l)
theorem implDims(d:List Int)(h:d.length<=1000):wD d sQ=some (!(d.all dimB)):=by
 rw[zES (p:=λx=>!(dimB x)) d (λx _=>by unfold sQ;rw[kR];rfl) (by omega)]
 congr 1
 rw[fo];simp
theorem len12(n:Nat):(decide ((1:Int)<=(n:Int))&&decide ((n:Int)<=2))=(decide (1<=n)&&decide (n<=2)):=by
 have e1:decide ((1:Int)<=(n:Int))=decide (1<=n):=by simp;omega
 have e2:decide ((n:Int)<=2)=decide (n<=2):=by simp;omega
 rw[e1,e2]
theorem implArrays(l:List zD)(h:BR l):eT l=some (arrB l):=by
 unfold eT arrB;have bf:=h.1;have hl:=zAp (n:=l.length) (f:=pX l) (P:=arrI l) (λi hi=>by
  rw[pX];have h1:((i:Int)<(l.length:Int)):=by omega
  have ha:=h.2 _ (gM hi);have hg:l.getD i ⟨⟨[]⟩,[]⟩=l[i]:=by simp[hi]
  simp only[h1,dT,if_true,xA hi,oB,oS,implIsArray,arrI,hg];rw[uF (by omega)];cases hn:nameL l[i].Name.l with
  | false=>simp
  | true=>
   have hwd:wX (l[i].Dims.length:Int) 1 2=some (decide (1<=l[i].Dims.length)&&decide (l[i].Dims.length<=2)):=by rw[kR,len12]
   by_cases h0:i=0
   ·subst h0;have hz:¬(((0:Nat):Int)>0):=by omega
    simp only[hz,dF,dT,bF,if_false,bT,hwd,oS,Bool.true_or,cu,oP,implDims _ ha,id];cases (decide (1<=l[0].Dims.length)&&decide (l[0].Dims.length<=2)) with
    | false=>simp
    | true=>cases l[0].Dims.all dimB <;> simp
   ·have hz:((i:Int)>0):=by omega
    have hW:W ((i:Int) - 1)=((i - 1:Nat):Int):=by rw[rE (by omega) (by omega)];omega
    have hi1:i - 1<l.length:=by omega
    have hg1:l.getD (i - 1) ⟨⟨[]⟩,[]⟩=l[i - 1]:=by simp[hi1]
    simp only[hz,h0,hW,xA hi1,hg1,dF,dT,bF,if_false,if_true,bT,hwd,oS,fk,cu,oP,implDims _ ha,id];cases Op.bytesLess l[i - 1].Name.l l[i].Name.l with
    | false=>simp
    | true=>
     cases (decide (1<=l[i].Dims.length)&&decide (l[i].Dims.length<=2)) with
     | false=>simp
     | true=>cases l[i].Dims.all dimB <;> simp) (by
  rw[pX];simp)
 rw[hl];have e2:decide ((l.length:Int)<=4)=decide (l.length<=4):=by simp;omega
 cases hb:(List.range l.length).all (arrI l) with
 | false=>simp
 | true=>simp[e2]
theorem specDims(x:zD)(h:x.Dims.length<=1000):uU x 0=some (if x.Dims.all dimB then .done () else .ret false):=by
 have hl:=zAp (n:=x.Dims.length) (f:=uU x) (P:=λi=>dimB (x.Dims.getD i 0)) (λi hi=>by
  rw[uU];have h1:((i:Int)<(x.Dims.length:Int)):=by omega
  have hg:x.Dims.getD i 0=x.Dims[i]:=by simp[hi]
  simp only[h1,dT,if_true,xA hi,oB,oS,hg,dimB];rw[uF (by omega)];by_cases k1:x.Dims[i]<1
  ·have:¬(1<=x.Dims[i]):=by omega
   simp[k1,this]
  ·have:(1<=x.Dims[i]):=by omega
   by_cases k2:x.Dims[i]>6
   ·have:¬(x.Dims[i]<=6):=by omega
    simp[k1,k2,this]
   ·have k3:(x.Dims[i]<=6):=by omega
    simp[k1,k2,this,k3]) (by
  rw[uU];simp)
 rw[hl,zBA x.Dims dimB]
theorem zM6(n:Nat):(if decide ((n:Int)<1)=true then some true else some (decide ((n:Int)>2)))=some (!(decide (1<=n)&&decide (n<=2))):=by
 by_cases h1:n<1
 ·have k1:((n:Int)<1):=by omega
  have k2:¬(1<=n):=by omega
  simp[k1,k2]
 ·have k1:¬((n:Int)<1):=by omega
  have k2:(1<=n):=by omega
  by_cases h2:n<=2
  ·have k3:¬((n:Int)>2):=by omega
   simp[k1,k2,k3,h2]
  ·have k3:((n:Int)>2):=by omega
   simp[k1,k2,k3,h2]
theorem zH0(l:List UInt8):(nameL l=false/\((l.length:Int) != 1)=true)∨(((l.length:Int) != 1)=false/\nameL l=(!(Op.bytesLess l [65])&&(Op.bytesLess l [68]||l==[68]))):=by
 match l with
 | []=>exact .inl ⟨rfl,rfl⟩
 | [c]=>exact .inr ⟨rfl,(zOV c).symm⟩
 | c::d::r=>exact .inl ⟨rfl,by simp;omega⟩
theorem specArrays(l:List zD)(h:BR l):kY l=some (arrB l):=by
 unfold kY arrB;have bf:=h.1;have hl:=zAp (n:=l.length) (f:=tT l) (P:=arrI l) (λi hi=>by
  rw[tT];have h1:((i:Int)<(l.length:Int)):=by omega
  have ha:=h.2 _ (gM hi);have hg:l.getD i ⟨⟨[]⟩,[]⟩=l[i]:=by simp[hi]
  simp only[h1,dT,if_true,xA hi,oB,oS,arrI,hg,oP,zM6,specDims _ ha];rw[uF (by omega)];rcases zH0 l[i].Name.l with⟨n1,n2⟩|⟨n1,n2⟩
  ·simp[n1,n2]
  ·simp only[n1,n2,bF,if_false];cases k1:Op.bytesLess l[i].Name.l [65] with
   | true=>simp
   | false=>
    cases k2:(Op.bytesLess l[i].Name.l [68]||l[i].Name.l==[68]) with
    | false=>simp
    | true=>
     by_cases h0:i=0
     ·subst h0;have hz:¬(((0:Nat):Int)>0):=by omega
      simp only[hz,dF,dT,bF,if_false,bT,di,oS,Bool.true_or,cu,f3];cases (decide (1<=l[0].Dims.length)&&decide (l[0].Dims.length<=2)) with
      | false=>simp
      | true=>cases l[0].Dims.all dimB <;> simp
     ·have hz:((i:Int)>0):=by omega
      have hW:W ((i:Int) - 1)=((i - 1:Nat):Int):=by rw[rE (by omega) (by omega)];omega
      have hi1:i - 1<l.length:=by omega
      have hg1:l.getD (i - 1) ⟨⟨[]⟩,[]⟩=l[i - 1]:=by simp[hi1]
      simp only[hz,h0,hW,xA hi1,hg1,dF,dT,bF,if_false,if_true,bT,di,oS,fk,cu,f3];cases Op.bytesLess l[i - 1].Name.l l[i].Name.l with
      | false=>simp
      | true=>
       cases (decide (1<=l[i].Dims.length)&&decide (l[i].Dims.length<=2)) with
       | false=>simp
       | true=>cases l[i].Dims.all dimB <;> simp) (by
  rw[tT];simp)
 rw[hl];have e2:decide ((l.length:Int)<=4)=decide (l.length<=4):=by simp;omega
 cases hb:(List.range l.length).all (arrI l) with
 | false=>simp
 | true=>simp[e2]
def accB(a:zM)(d:Int):Bool:=nameL a.Array.l&&(decide (1<=a.Subs.length)&&decide (a.Subs.length<=2))&&a.Subs.all (okA d)
theorem implAcc1(a:zA)(h:BA a)(d:Int):oR a d=some (!(okA d a)):=implBound a h d
theorem implAccess(a:zM)(h:BL a.Subs)(d:Int):gA a d=some (accB a d):=by
 unfold gA accB;rw[implIsArray,kR,len12];have hc:=zG5 (f:=λx0=>oR x0 d) (p:=λx=>!(okA d x)) a.Subs (λx hx=>implAcc1 x (h.2 x hx) d) (by have:=h.1;omega);cases nameL a.Array.l with
 | false=>rfl
 | true=>
  cases hb:(decide (1<=a.Subs.length)&&decide (a.Subs.length<=2)) with
  | false=>rfl
  | true=>
   simp only[oB,oS,if_true,hc,oP,id,cu];rw[eg];simp
theorem specAccess(a:zM)(h:BL a.Subs)(d:Int):nV a d=some (accB a d):=by
 unfold nV accB;have bf:=h.1;have hl:=zAp (n:=a.Subs.length) (f:=tS a d) (P:=λi=>okA d (a.Subs.getD i ⟨[],0⟩)) (λi hi=>by
  rw[tS];have h1:((i:Int)<(a.Subs.length:Int)):=by omega
  have ha:a.Subs[i].Coefs.length<=1048576:=by have:=h.2 _ (gM hi);unfold BA at this;omega
  have hg:a.Subs.getD i ⟨[],0⟩=a.Subs[i]:=by simp[hi]
  simp only[h1,dT,if_true,xA hi,oB,oS,specValid _ ha,specDepth _ ha,hg,okA];rw[uF (by omega)];cases validB a.Subs[i] with
  | false=>rfl
  | true=>
   by_cases hd:(depF a.Subs[i]:Int)<=d
   ·have:¬((depF a.Subs[i]:Int)>d):=by omega
    simp[hd,this]
   ·have:((depF a.Subs[i]:Int)>d):=by omega
    simp[hd,this]) (by
  rw[tS];simp)
 rw[hl,zBA a.Subs (okA d)];cases hb:a.Subs.all (okA d) with
 | false=>simp
 | true=>
  simp only[if_true,oB,oS,Bool.and_true];rcases zH0 a.Array.l with⟨n1,n2⟩|⟨n1,n2⟩
  ·have:((a.Array.l.length:Int)==1)=false:=by simpa [bne] using n2
   simp[n1,this]
  ·have:((a.Array.l.length:Int)==1)=true:=by simpa [bne] using n1
   simp only[this,if_true,n2];cases Op.bytesLess a.Array.l [65] with
   | true=>simp
   | false=>
    cases (Op.bytesLess a.Array.l [68]||a.Array.l==[68]) with
    | false=>simp
    | true=>
     by_cases e1:1<=a.Subs.length
     ·have:((a.Subs.length:Int)>=1):=by omega
      have e2:decide ((a.Subs.length:Int)<=2)=decide (a.Subs.length<=2):=by simp;omega
      simp[this,e1,e2]
     ·have:¬((a.Subs.length:Int)>=1):=by omega
      simp[this,e1]
end Go.LN
namespace Go.LN
def noA(a:zA):Bool:=decide (a.Coefs.length=0)&&(a.Const==0)
def noC(a:zM):Bool:=(a.Array.l==[])&&decide (a.Subs.length=0)
theorem len0(n:Nat):((n:Int)==0)=decide (n=0):=by
 by_cases h:n=0
 ·simp[h]
 ·have:¬(n:Int)=0:=by omega
  simp[h]
theorem implNoA(a:zA):gB a=some (noA a):=by
 unfold gB noA;rw[len0];by_cases h:a.Coefs.length=0 <;> simp[h]
theorem specNoA(a:zA):kH a=some (noA a):=by
 unfold kH noA;rw[len0];by_cases h:a.Coefs.length=0 <;> simp[h]
theorem implNoC(a:zM):nR a=some (noC a):=by
 unfold nR noC;rw[len0];cases h:(a.Array.l==[]) <;> simp
theorem specNoC(a:zM):nD a=some (noC a):=by
 unfold nD noC;rw[len0];cases h:(a.Array.l==[]) <;> simp
def BE:Nat->zH->Prop
 | 0,e=>BA e.Index/\BL e.Read.Subs/\e.Kids=[]
 | n+1,e=>BA e.Index/\BL e.Read.Subs/\e.Kids.length<=1000/\∀k∈e.Kids,BE n k
theorem BE.own{n:Nat}{e:zH}(h:BE n e):BA e.Index/\BL e.Read.Subs/\e.Kids.length<=1000:=by
 cases n with
 | zero=>obtain⟨h1,h2,h3⟩:=h;exact⟨h1,h2,by simp[h3]⟩
 | succ n=>exact⟨h.1,h.2.1,h.2.2.1⟩
theorem BE.kid{n:Nat}{e k:zH}(h:BE n e)(hk:k∈e.Kids):∃m,n=m+1/\BE m k:=by
 cases n with
 | zero=>obtain⟨_,_,h3⟩:=h;rw[h3] at hk;cases hk
 | succ n=>exact⟨n,rfl,h.2.2.2 k hk⟩
def kidsN(k:Int):Int:=if k=1∨k=2∨k=3 then 0 else if k=4∨k=5∨k=6 then 2 else -1
def ownB(e:zH)(d:Int):Bool:=
 if e.Kind=2 then(e.Num==0)&&noC e.Read&&okA d e.Index
 else if e.Kind=3 then(e.Num==0)&&noA e.Index&&accB e.Read d
 else if e.Kind=1 then(decide (0<=e.Num)&&decide (e.Num<=99))&&noA e.Index&&noC e.Read
 else(e.Num==0)&&noA e.Index&&noC e.Read
theorem specKids(k:Int):fD k=some (kidsN k):=by
 unfold fD kidsN;by_cases h1:k=1
 ·subst h1;rfl
 ·by_cases h2:k=2
  ·subst h2;rfl
  ·by_cases h3:k=3
   ·subst h3;rfl
   ·by_cases h4:k=4
    ·subst h4;rfl
    ·by_cases h5:k=5
     ·subst h5;rfl
     ·by_cases h6:k=6
      ·subst h6;rfl
      ·simp[h1,h2,h3,h4,h5,h6]
theorem zN2(a:zA)(d:Int):okA d a=(validB a&&decide ((depF a:Int)<=d)):=rfl
theorem specOwn(e:zH)(d:Int)(h1:BA e.Index)(h2:BL e.Read.Subs):eM e d=some (ownB e d):=by
 unfold eM ownB;have h':e.Index.Coefs.length<=1048576:=by unfold BA at h1;omega
 simp only[specNoC,specNoA,specValid _ h',specDepth _ h',specAccess _ h2,oB,oS,oP,id];by_cases k2:e.Kind=2
 ·have:(e.Kind==2)=true:=by simpa using k2
  simp only[this,if_true,k2];cases (e.Num==0) with
  | false=>simp
  | true=>
   cases noC e.Read with
   | false=>simp
   | true=>rw[zN2];cases validB e.Index <;> simp
 ·have q2:(e.Kind==2)=false:=by simpa using k2
  by_cases k3:e.Kind=3
  ·have:(e.Kind==3)=true:=by simpa using k3
   simp only[q2,k2,this,if_true,k3,bF,if_false];cases (e.Num==0) with
   | false=>simp
   | true=>cases noA e.Index <;> simp
  ·have q3:(e.Kind==3)=false:=by simpa using k3
   by_cases k1:e.Kind=1
   ·have:(e.Kind==1)=true:=by simpa using k1
    simp only[q2,k2,q3,k3,this,if_true,k1,bF,if_false];by_cases n0:0<=e.Num
    ·have n0':e.Num>=0:=n0;by_cases n9:e.Num<=99
     ·simp only[n0,n0',n9,dT,if_true,cu];cases noA e.Index <;> simp
     ·simp[n0,n0',n9]
    ·have n0':¬e.Num>=0:=n0;simp[n0,n0']
   ·have q1:(e.Kind==1)=false:=by simpa using k1
    simp only[q2,k2,q3,k3,q1,k1,bF,if_false];cases (e.Num==0) with
    | false=>simp
    | true=>cases noA e.Index <;> simp
def shapeB(d:Int):Nat->zH->Bool
 | 0,_=>false
 | n+1,e=>(kidsN e.Kind==(e.Kids.length:Int))&&ownB e d&&e.Kids.all (shapeB d n)
def cnt:Nat->zH->Nat
 | 0,_=>1
 | n+1,e=>1+(e.Kids.map (cnt n)).sum
theorem specShape(d:Int):∀(n m:Nat) (e:zH),n<=100->BE m e->rG e d (n:Int)=some (shapeB d n e)
 | 0,m,e,hn,hb=>by
  rw[rG]
  rfl
 | n+1,m,e,hn,hb=>by
  rw[rG]
  obtain⟨b1,b2,b3⟩:=hb.own
  have h1:¬(((n+1:Nat):Int)<1):=by omega
  have hW:W (((n+1:Nat):Int) - 1)=(n:Int):=by rw[rE (by omega) (by omega)];omega
  have hl:=zAp (n:=e.Kids.length) (f:=tM e d ((n+1:Nat):Int)) (P:=λi=>shapeB d n (e.Kids.getD i e)) (λi hi=>by
   rw[tM]
   have k1:((i:Int)<(e.Kids.length:Int)):=by omega
   have hg:e.Kids.getD i e=e.Kids[i]:=by simp[hi]
   obtain⟨m',_,hm'⟩:=hb.kid (gM hi)
   simp only[k1,dT,if_true,xA hi,oB,oS,same,hW,specShape d n m' _ (by omega) hm',hg]
   rw[uF (by omega)]
   cases shapeB d n e.Kids[i] <;> rfl) (by
   rw[tM];simp)
  simp only[h1,dF,bF,if_false,oB,oS,specKids,specOwn e d b1 b2,shapeB,same,hl,zBA e.Kids (shapeB d n)]
  cases hk:(kidsN e.Kind==(e.Kids.length:Int)) with
  | false=>
   have:(kidsN e.Kind != (e.Kids.length:Int))=true:=by simp[bne,hk]
   simp[this]
  | true=>
   have:(kidsN e.Kind != (e.Kids.length:Int))=false:=by simp[bne,hk]
   simp only[this,bF,if_false,oP,oS,cu]
   cases ownB e d with
   | false=>simp
   | true=>cases e.Kids.all (shapeB d n) <;> simp
theorem zAD{d:Int}{n:Nat}{e:zH}(h:shapeB d (n+1) e=true):(e.Kids=[]∨∃a b,e.Kids=[a,b])/\∀k∈e.Kids,shapeB d n k=true:=by
 simp only[shapeB,bA] at h;refine⟨?_,ce.1 h.2⟩;have:=eq_of_beq h.1.1;unfold kidsN at this
 match hk:e.Kids with
 | []=>exact .inl rfl
 | [a]=>rw[hk] at this;simp at this;split at this <;> (try split at this) <;> omega
 | [a,b]=>exact .inr ⟨a,b,rfl⟩
 | a::b::c::r=>rw[hk] at this;simp at this;split at this <;> (try split at this) <;> omega
theorem zLe{d:Int}:∀(n:Nat) (e:zH),shapeB d n e=true->cnt n e+1<=2 ^ n
 | 0,e,h=>by cases h
 | n+1,e,h=>by
  obtain⟨h1,h2⟩:=zAD h
  rw[cnt,Nat.pow_succ]
  rcases h1 with hk|⟨a,b,hk⟩
  ·rw[hk]
   have:=Nat.one_le_two_pow (n:=n)
   simp;omega
  ·rw[hk] at h2 ⊢
   have ha:=zLe n a (h2 a (by simp))
   have hb:=zLe n b (h2 b (by simp))
   simp only[cG,df,List.sum_cons,List.sum_nil]
   omega
theorem specCount(d:Int):∀(n m:Nat) (e:zH),shapeB d n e=true->n<=m->n<=10->m<=100->qG e (m:Int)=some ((cnt n e:Nat):Int)
 | 0,m,e,h,_,_,_=>by cases h
 | n+1,m,e,h,hm,h10,h100=>by
  have hc:=zLe (n+1) e h
  have hpw:2 ^ (n+1)<=2 ^ 10:=Nat.pow_le_pow_right (by omega) h10
  obtain⟨h1,h2⟩:=zAD h
  have hpos:((m:Int)>0):=by omega
  have hW:W ((m:Int) - 1)=((m - 1:Nat):Int):=by rw[rE (by omega) (by omega)];omega
  rw[qG]
  simp only[same,cnt] at hc ⊢
  rcases h1 with hk|⟨a,b,hk⟩
  ·rw[tN]
   simp[hk]
  ·rw[hk] at h2 hc ⊢
   have ha:=specCount d n (m - 1) a (h2 a (by simp)) (by omega) (by omega) (by omega)
   have hb:=specCount d n (m - 1) b (h2 b (by simp)) (by omega) (by omega) (by omega)
   simp only[cG,df,List.sum_cons,List.sum_nil] at hc ⊢
   have l0:((0:Int)<(e.Kids.length:Int)):=by rw[hk];simp
   have l1:((1:Int)<(e.Kids.length:Int)):=by rw[hk];simp
   have l2:¬((2:Int)<(e.Kids.length:Int)):=by rw[hk];simp
   have i0:idx e.Kids 0=some a:=by rw[hk];rfl
   have i1:idx e.Kids 1=some b:=by rw[hk];rfl
   have w0:W ((0:Int)+1)=1:=by rw[rE (by omega) (by omega)];rfl
   have w1:W ((1:Int)+1)=2:=by rw[rE (by omega) (by omega)];rfl
   rw[tN]
   simp only[l0,hpos,dT,if_true,oP,oB,oS,i0,same,hW,ha,w0]
   rw[tN]
   simp only[l1,hpos,dT,if_true,oP,oB,oS,i1,same,hW,hb,w1]
   rw[tN]
   simp only[l2,dF,bF,if_false,oP,oB,oS,id]
   generalize cnt n a=x at hc ⊢
   generalize cnt n b=y at hc ⊢
   have e1:W ((1:Int)+(x:Int))=((1+x:Nat):Int):=by rw[rE (by omega) (by omega)];omega
   have e2:W (((1+x:Nat):Int)+(y:Int))=((1+x+y:Nat):Int):=by rw[rE (by omega) (by omega)];omega
   rw[e1,e2]
   congr 2
   omega
def headB(e:zH)(d:Int):Bool:=(kidsN e.Kind==(e.Kids.length:Int))&&ownB e d
theorem zM7(e:zH)(d deep c:Int)(h1:BA e.Index)(h2:BL e.Read.Subs)(hc:¬(W (c+1)>12))(hd:¬(deep>5)):
 sB e d deep c=if headB e d=true then(if e.Kids.length=0 then some (true,W (c+1)) else(do
  let x1<-idx e.Kids 0
  let (y12,y13)<-sB x1 d (W (deep+1)) (W (c+1))
  if y12 then
   let x2<-idx e.Kids 1
   let (y15,y16)<-sB x2 d (W (deep+1)) y13
   pure (y15,y16)
  else
   pure (false,y13))) else some (false,W (c+1)):=by
 have h':e.Index.Coefs.length<=1048576:=by unfold BA at h1;omega
 have hop:zBK e.Kind=some (decide (4<=e.Kind)&&decide (e.Kind<=6)):=by unfold zBK;rw[kR];rfl
 rw[sB]
 simp only[hc,hd,dF,bF,if_false,oP,oB,oS,implNoA,implNoC,implValid _ h',implDepth _ h',implAccess _ h2,hop,kR,len0,same,headB,ownB]
 by_cases k1:e.Kind=1
 ·have hk:kidsN e.Kind=0:=by rw[k1];rfl
  have b1:(e.Kind != 1)=false:=by simp[k1]
  have b1':(e.Kind==1)=true:=by simp[k1]
  have b2:(e.Kind != 2)=true:=by simp[k1]
  have b3:(e.Kind != 3)=true:=by simp[k1]
  have n2:¬e.Kind=2:=by omega
  have n3:¬e.Kind=3:=by omega
  have hz:((0:Int)==(e.Kids.length:Int))=decide (e.Kids.length=0):=by rw[<- len0];exact Bool.beq_comm
  simp only[b1,b1',b2,b3,hk,hz,n2,n3,k1,show kidsN 1=0 from rfl,if_true,if_false,bF]
  cases noA e.Index <;> cases noC e.Read <;> cases (decide (0<=e.Num)&&decide (e.Num<=99)) <;> by_cases hl:e.Kids.length=0 <;> simp[hl]
 ·have b1:(e.Kind != 1)=true:=by simp[k1]
  have b1':(e.Kind==1)=false:=by simp[k1]
  by_cases k2:e.Kind=2
  ·have hk:kidsN e.Kind=0:=by rw[k2];rfl
   have b2:(e.Kind != 2)=false:=by simp[k2]
   have b2':(e.Kind==2)=true:=by simp[k2]
   have b3:(e.Kind != 3)=true:=by simp[k2]
   have hz:((0:Int)==(e.Kids.length:Int))=decide (e.Kids.length=0):=by rw[<- len0];exact Bool.beq_comm
   simp only[b1,b1',b2,b2',b3,hk,hz,k2,show kidsN 2=0 from rfl,if_true,if_false,bF,zN2,bne]
   cases (e.Num==0) <;> cases noC e.Read <;> cases validB e.Index <;> by_cases hdd:(depF e.Index:Int)<=d <;> by_cases hl:e.Kids.length=0 <;> simp[hl,hdd]
  ·have b2:(e.Kind != 2)=true:=by simp[k2]
   have b2':(e.Kind==2)=false:=by simp[k2]
   by_cases k3:e.Kind=3
   ·have hk:kidsN e.Kind=0:=by rw[k3];rfl
    have b3:(e.Kind != 3)=false:=by simp[k3]
    have b3':(e.Kind==3)=true:=by simp[k3]
    have hz:((0:Int)==(e.Kids.length:Int))=decide (e.Kids.length=0):=by rw[<- len0];exact Bool.beq_comm
    simp only[b1,b1',b2,b2',b3,b3',hk,hz,k3,k2,show kidsN 3=0 from rfl,if_true,if_false,bF,bne]
    cases (e.Num==0) <;> cases noA e.Index <;> cases accB e.Read d <;> by_cases hl:e.Kids.length=0 <;> simp[hl]
   ·have b3:(e.Kind != 3)=true:=by simp[k3]
    have b3':(e.Kind==3)=false:=by simp[k3]
    simp only[b1,b1',b2,b2',b3,b3',k1,k2,k3,if_true,if_false,bF,bne]
    by_cases ho:4<=e.Kind/\e.Kind<=6
    ·have hk:kidsN e.Kind=2:=by unfold kidsN;rw[if_neg (by omega),if_pos (by omega)]
     have hz:((2:Int)==(e.Kids.length:Int))=decide (e.Kids.length=2):=by
      by_cases hl:e.Kids.length=2
      ·simp[hl]
      ·have:¬(2:Int)=(e.Kids.length:Int):=by omega
       simp[hl,this]
     have hz':((e.Kids.length:Int)==2)=decide (e.Kids.length=2):=by rw[<- hz];exact Bool.beq_comm
     simp only[hk,hz,hz',ho.1,ho.2,dT,cu]
     have eta:∀(o:Option (Bool×Int)),(o.bind λx=>some (x.fst,x.snd))=o:=by rintro(_|⟨a,b⟩) <;> rfl
     cases (e.Num==0) <;> cases noA e.Index <;> cases noC e.Read <;> by_cases hl:e.Kids.length=2 <;> first|(simp[hl];done)|(simp[hl];exact eta _)
    ·have hk:kidsN e.Kind=-1:=by unfold kidsN;rw[if_neg (by omega),if_neg (by omega)]
     have hz:((-1:Int)==(e.Kids.length:Int))=false:=beq_false_of_ne (by omega)
     have ho':(decide (4<=e.Kind)&&decide (e.Kind<=6))=false:=by
      rw[Bool.and_eq_false_iff];simp;omega
     simp only[hk,hz,ho']
     cases (e.Num==0) <;> cases noA e.Index <;> cases noC e.Read <;> simp
theorem implScan(d:Int):∀(L m:Nat) (e:zH) (c:Nat),L<=5->BE m e->c<=12->∃r c',sB e d (6 - (L:Int)) (c:Int)=some (r,c')/\(shapeB d L e=true/\c+cnt L e<=12->r=true/\c'=((c+cnt L e:Nat):Int))/\(¬(shapeB d L e=true/\c+cnt L e<=12)->r=false)
 | 0,m,e,c,hL,hb,hc=>by
  have hw:W ((c:Int)+1)=((c+1:Nat):Int):=uF (by omega)
  rw[sB]
  have hd:((6:Int) - ((0:Nat):Int)>5):=by omega
  simp only[hd,dT,oP]
  refine⟨false,W ((c:Int)+1),?_,⟨λh=>(by cases h.1),λ_=>rfl⟩⟩
  by_cases h:W ((c:Int)+1)>12 <;> simp[h]
 | L+1,m,e,c,hL,hb,hc=>by
  have hw:W ((c:Int)+1)=((c+1:Nat):Int):=uF (by omega)
  obtain⟨b1,b2,b3⟩:=hb.own
  have hd:¬((6:Int) - ((L+1:Nat):Int)>5):=by omega
  have hdw:W ((6:Int) - ((L+1:Nat):Int)+1)=6 - (L:Int):=by rw[rE (by omega) (by omega)];omega
  have hcp:1<=cnt (L+1) e:=by rw[cnt];omega
  by_cases hc12:c+1>12
  ·rw[sB]
   have h12:(W ((c:Int)+1)>12):=by rw[hw];omega
   simp only[h12,dT,if_true,oP,oB,oS]
   exact⟨false,_,rfl,λh=>absurd h.2 (by omega),λ_=>rfl⟩
  ·have h12:¬(W ((c:Int)+1)>12):=by rw[hw];omega
   rw[zM7 e d _ _ b1 b2 h12 hd]
   by_cases hh:headB e d=true
   ·rw[if_pos hh]
    have hsh:shapeB d (L+1) e=e.Kids.all (shapeB d L):=by
     unfold headB at hh
     rw[shapeB,hh,cu]
    by_cases hl:e.Kids.length=0
    ·rw[if_pos hl]
     have hn:e.Kids=[]:=ek.1 hl
     refine⟨true,_,rfl,λ_=>⟨rfl,?_⟩,λh=>absurd ⟨by rw[hsh,hn];rfl,by rw[cnt,hn];simp;omega⟩ h⟩
     rw[hw,cnt,hn];rfl
    ·rw[if_neg hl]
     have hkn:∃a b,e.Kids=[a,b]:=by
      simp only[headB,bA] at hh
      have:=eq_of_beq hh.1
      unfold kidsN at this
      match hk:e.Kids with
      | []=>rw[hk] at hl;simp at hl
      | [a]=>rw[hk] at this;simp at this;split at this <;> (try split at this) <;> omega
      | [a,b]=>exact⟨a,b,rfl⟩
      | a::b::c::r=>rw[hk] at this;simp at this;split at this <;> (try split at this) <;> omega
     obtain⟨a,b,hk⟩:=hkn
     obtain⟨m1,_,hba⟩:=hb.kid (k:=a) (by rw[hk];simp)
     obtain⟨m2,_,hbb⟩:=hb.kid (k:=b) (by rw[hk];simp)
     have i0:idx e.Kids 0=some a:=by rw[hk];rfl
     have i1:idx e.Kids 1=some b:=by rw[hk];rfl
     have hcnt:cnt (L+1) e=1+(cnt L a+cnt L b):=by rw[cnt,hk];simp
     have hsh2:shapeB d (L+1) e=(shapeB d L a&&shapeB d L b):=by rw[hsh,hk];simp
     rw[hdw,hw]
     obtain⟨r1,c1,e1,k1,k2⟩:=implScan d L m1 a (c+1) (by omega) hba (by omega)
     simp only[i0,i1,e1,oB,oS,oP]
     by_cases q1:shapeB d L a=true/\c+1+cnt L a<=12
     ·obtain⟨rfl,rfl⟩:=k1 q1
      obtain⟨r2,c2,e2,k3,k4⟩:=implScan d L m2 b (c+1+cnt L a) (by omega) hbb q1.2
      simp only[if_true,e2,oS]
      refine⟨r2,c2,rfl,λh=>?_,λh=>?_⟩
      ·rw[hsh2,hcnt,bA] at h
       obtain⟨rfl,rfl⟩:=k3 ⟨h.1.2,by omega⟩
       refine⟨rfl,?_⟩
       rw[hcnt];congr 1;omega
      ·refine k4 λh'=>h ⟨by rw[hsh2,q1.1,h'.1];rfl,by rw[hcnt];omega⟩
     ·obtain rfl:=k2 q1
      simp only[bF,if_false]
      refine⟨false,c1,rfl,λh=>?_,λ_=>rfl⟩
      rw[hsh2,hcnt,bA] at h
      exact absurd ⟨h.1.1,by omega⟩ q1
   ·rw[if_neg hh]
    refine⟨false,_,rfl,λh=>?_,λ_=>rfl⟩
    have:=h.1
    unfold headB at hh
    rw[shapeB,bA] at this
    exact absurd this.1 hh
def BS(s:zI):Prop:=BL s.Write.Subs/\∃m,BE m s.Value
def stmtB(s:zI)(d:Int):Bool:=(decide (0<=d)&&decide (d<=4))&&accB s.Write d&&(shapeB d 5 s.Value&&decide (cnt 5 s.Value<=12))
theorem implStmt(s:zI)(d:Int)(h:BS s):fT s d=some (stmtB s d):=by
 obtain⟨h1,m,h2⟩:=h;unfold fT stmtB;rw[kR,implAccess _ h1];obtain⟨r,c',e1,k1,k2⟩:=implScan d 5 m s.Value 0 (by omega) h2 (by omega);rw[show (6:Int) - ((5:Nat):Int)=1 by omega,nZ] at e1;rw[e1];simp only[cy] at k1 k2;have hr:r=(shapeB d 5 s.Value&&decide (cnt 5 s.Value<=12)):=by
  by_cases q:shapeB d 5 s.Value=true/\cnt 5 s.Value<=12
  ·rw[(k1 q).1,q.1];simp[q.2]
  ·rw[k2 q];cases hs:shapeB d 5 s.Value with
   | false=>rfl
   | true=>
    have:¬cnt 5 s.Value<=12:=λh=>q ⟨hs,h⟩;simp[this]
 rw[hr];cases (decide (0<=d)&&decide (d<=4)) <;> cases accB s.Write d <;> simp
theorem specStmt(s:zI)(d:Int)(h:BS s):qU s d=some (stmtB s d):=by
 obtain⟨h1,m,h2⟩:=h;unfold qU stmtB;have hs:=specShape d 5 m s.Value (by omega) h2;rw[show ((5:Nat):Int)=5 from rfl] at hs;rw[specAccess _ h1,hs];by_cases d0:0<=d
 ·have d0':¬d<0:=by omega
  by_cases d4:d<=4
  ·have d4':¬d>4:=by omega
   cases accB s.Write d with
   | false=>simp[d0,d0',d4,d4']
   | true=>
    cases hsh:shapeB d 5 s.Value with
    | false=>simp[d0,d0',d4,d4']
    | true=>
     have hc:=specCount d 5 5 s.Value hsh (by omega) (by omega) (by omega);rw[show ((5:Nat):Int)=5 from rfl] at hc;have e:decide (((cnt 5 s.Value:Nat):Int)<=12)=decide (cnt 5 s.Value<=12):=by simp;omega
     simp[d0,d0',d4,d4',hc,e]
  ·have d4':d>4:=by omega
   simp[d0,d0',d4,d4']
 ·have d0':d<0:=by omega
  simp[d0,d0']
end Go.LN
namespace Go.LN
def szL:List Int->Int->Int
 | [],n=>n
 | d::l,n=>szL l (W (n*d))
def sizeF(a:zD):Int:=szL a.Dims 1
theorem zKr(a:zD)(h:a.Dims.length<=1048576):∀(j i:Nat) (n:Int),i+j=a.Dims.length->qD a n (i:Int)=some (szL (a.Dims.drop i) n):=by
 intro j
 induction j with
 | zero=>
  intro i n hi;rw[qD];have:¬((i:Int)<(a.Dims.length:Int)):=by omega
  simp only[this,dF,bF,if_false];rw[dN.2 (by omega)];rfl
 | succ j ih=>
  intro i n hi;rw[qD];have aK:i<a.Dims.length:=by omega
  have h1:((i:Int)<(a.Dims.length:Int)):=by omega
  simp only[h1,dT,if_true,xA aK,oB,oS];rw[uF (by omega),ih (i+1) _ (by omega),gC aK,szL]
theorem implSize(a:zD)(h:a.Dims.length<=1048576):gL a=some (sizeF a):=by
 unfold gL sizeF;have:=zKr a h _ 0 1 (cy _);rw[nZ,cr] at this;rw[this];rfl
theorem zKs(a:zD)(h:a.Dims.length<=1048576):∀(j i:Nat) (n:Int),i+j=a.Dims.length->rM a n (i:Int)=some (szL (a.Dims.drop i) n):=by
 intro j
 induction j with
 | zero=>
  intro i n hi;rw[rM];have:¬((i:Int)<(a.Dims.length:Int)):=by omega
  simp only[this,dF,bF,if_false];rw[dN.2 (by omega)];rfl
 | succ j ih=>
  intro i n hi;rw[rM];have aK:i<a.Dims.length:=by omega
  have h1:((i:Int)<(a.Dims.length:Int)):=by omega
  simp only[h1,dT,if_true,xA aK,oB,oS];rw[uF (by omega),ih (i+1) _ (by omega),gC aK,szL]
theorem specSize(a:zD)(h:a.Dims.length<=1048576):fE a=some (sizeF a):=by
 unfold fE sizeF;have:=zKs a h _ 0 1 (cy _);rw[nZ,cr] at this;rw[this];rfl
def cellS(p:List Int):List Int->List zA->Int->Option Int
 | _,[],n=>some n
 | [],_::_,_=>none
 | d::ds,s::ss,n=>if 0<=evA s p/\evA s p<d then cellS p ds ss (W (W (n*d)+evA s p)) else none
def cellF(a:zM)(p:List Int):List zD->Int->Int
 | [],_=>-1
 | x::l,first=>if x.Name.l=a.Array.l then(if a.Subs.length=x.Dims.length then(match cellS p x.Dims a.Subs 0 with|none=>-1|some n=>W (first+n)) else -1) else cellF a p l (W (first+sizeF x))
def AV(a:zM):Prop:=a.Subs ≠ []/\a.Subs.length<=2/\∀s∈a.Subs,s.Coefs.length=4
def RVa(l:List zD):Prop:=l.length<=100000/\∀x∈l,x.Dims.length<=1000/\∀d∈x.Dims,dimB d=true
theorem AV.of{a:zM}{d:Int}(h:accB a d=true):AV a:=by
 simp only[accB,bA,decide_eq_true_eq] at h;obtain⟨⟨h1,h2,h3⟩,h4⟩:=h;refine⟨by intro e;rw[e] at h2;simp at h2,h3,λs hs=>?_⟩;have:=ce.1 h4 s hs;simp only[okA,validB,bA,decide_eq_true_eq] at this;exact this.1.1.1
theorem RVa.of{l:List zD}(h:BR l)(hb:arrB l=true):RVa l:=by
 refine⟨h.1,λx hx=>⟨h.2 x hx,?_⟩⟩;simp only[arrB,bA] at hb;obtain⟨i,hi,rfl⟩:=e6.1 hx;have:=ce.1 hb.2 i (cH.2 hi);have hg:l.getD i ⟨⟨[]⟩,[]⟩=l[i]:=by simp[hi]
 simp only[arrI,hg,bA] at this;exact ce.1 this.2
theorem zKt(a:zM)(p:List Int)(x:zD)(ha:AV a)(hp:p.length<=4)(hx:x.Dims.length<=1000/\∀d∈x.Dims,dimB d=true)(hl:a.Subs.length=x.Dims.length):
 ∀(j i:Nat) (n:Int),i+j=a.Subs.length->rC a p x n (i:Int)=some (match cellS p (x.Dims.drop i) (a.Subs.drop i) n with|none=>.ret (-1)|some m=>.done m):=by
 obtain⟨a1,a2,a3⟩:=ha
 intro j
 induction j with
 | zero=>
  intro i n hi
  rw[rC]
  have:¬((i:Int)<(a.Subs.length:Int)):=by omega
  simp only[this,dF,bF,if_false]
  rw[show a.Subs.drop i=[] from dN.2 (by omega),cellS];rfl
 | succ j ih=>
  intro i n hi
  rw[rC]
  have aK:i<a.Subs.length:=by omega
  have hlt2:i<x.Dims.length:=by omega
  have h1:((i:Int)<(a.Subs.length:Int)):=by omega
  have hc:=a3 _ (gM aK)
  have hd:=hx.2 _ (gM hlt2)
  simp only[dimB,bA,decide_eq_true_eq] at hd
  have hW:W (x.Dims[i] - 1)=x.Dims[i] - 1:=rE (by omega) (by omega)
  simp only[h1,dT,if_true,xA aK,xA hlt2,oB,oS,implEval _ _ (show p.length<=a.Subs[i].Coefs.length by omega) (by omega),hW,kR]
  rw[uF (by omega),gC aK,gC hlt2,cellS]
  by_cases hv:0<=evA a.Subs[i] p/\evA a.Subs[i] p<x.Dims[i]
  ·have e1:(decide (0<=evA a.Subs[i] p)&&decide (evA a.Subs[i] p<=x.Dims[i] - 1))=true:=by
    rw[bA,decide_eq_true_eq,decide_eq_true_eq];omega
   simp only[e1,bT,bF,if_false]
   rw[if_pos hv]
   exact ih (i+1) _ (by omega)
  ·have e1:(decide (0<=evA a.Subs[i] p)&&decide (evA a.Subs[i] p<=x.Dims[i] - 1))=false:=by
    rw[Bool.and_eq_false_iff,decide_eq_false_iff_not,decide_eq_false_iff_not];omega
   simp only[e1,di,if_true]
   rw[if_neg hv];rfl
theorem zKu(P:zC)(a:zM)(p:List Int)(ha:AV a)(hp:p.length<=4)(hR:RVa P.Arrays):∀(j i:Nat) (first:Int),i+j=P.Arrays.length ->
 (match tJ P a p first (i:Int) with|none=>none|some (.ret r)=>some r|some (.done _)=>some (-1))=some (cellF a p (P.Arrays.drop i) first):=by
 obtain⟨r1,r2⟩:=hR
 intro j
 induction j with
 | zero=>
  intro i first hi
  rw[tJ]
  have:¬((i:Int)<(P.Arrays.length:Int)):=by omega
  simp only[this,dF,bF,if_false]
  rw[dN.2 (by omega)];rfl
 | succ j ih=>
  intro i first hi
  rw[tJ]
  have aK:i<P.Arrays.length:=by omega
  have h1:((i:Int)<(P.Arrays.length:Int)):=by omega
  have hx:=r2 _ (gM aK)
  simp only[h1,dT,if_true,xA aK,oB,oS,implSize _ (show P.Arrays[i].Dims.length<=1048576 by omega)]
  rw[uF (by omega),gC aK,cellF]
  by_cases hn:P.Arrays[i].Name.l=a.Array.l
  ·have hb:(P.Arrays[i].Name.l==a.Array.l)=true:=by simpa using hn
   rw[if_pos hn]
   simp only[hb,bT,bF,if_false]
   clear hb hn
   by_cases hl:a.Subs.length=P.Arrays[i].Dims.length
   ·have hl':((a.Subs.length:Int) != (P.Arrays[i].Dims.length:Int))=false:=by simp[hl]
    have h2:=zKt a p P.Arrays[i] ha hp hx hl _ 0 0 (cy _)
    rw[nZ,cr,cr] at h2
    rw[if_pos hl]
    simp only[hl',bF,if_false,h2,oS]
    cases cellS p P.Arrays[i].Dims a.Subs 0 <;> rfl
   ·have hl':((a.Subs.length:Int) != (P.Arrays[i].Dims.length:Int))=true:=by simp;omega
    rw[if_neg hl]
    simp only[hl',if_true]
    rfl
  ·have hb:(P.Arrays[i].Name.l==a.Array.l)=false:=by simpa using hn
   rw[if_neg hn]
   simp only[hb,di,if_true]
   exact ih (i+1) _ (by omega)
theorem implCell(P:zC)(a:zM)(p:List Int)(ha:AV a)(hp:p.length<=4)(hR:RVa P.Arrays):rR P a p=some (cellF a p P.Arrays 0):=by
 unfold rR;have:=zKu P a p ha hp hR _ 0 0 (cy _);rw[nZ,cr] at this;cases h:tJ P a p 0 0 with
 | none=>rw[h] at this;cases this
 | some o=>
  rw[h] at this;cases o with
  | ret r=>exact this
  | done u=>exact this
theorem zKv(l:List zD)(a:zM)(p:List Int)(q:Nat)(hq:q<l.length)(ha:AV a)(hp:p.length<=4)(hx:l[q].Dims.length<=1000/\∀d∈l[q].Dims,dimB d=true)(hl:a.Subs.length=l[q].Dims.length):
 ∀(j i:Nat) (n:Int),i+j=a.Subs.length->sG l a p (q:Int) n (i:Int)=some (match cellS p (l[q].Dims.drop i) (a.Subs.drop i) n with|none=>.ret (-1)|some m=>.done m):=by
 obtain⟨a1,a2,a3⟩:=ha
 intro j
 induction j with
 | zero=>
  intro i n hi
  rw[sG]
  have:¬((i:Int)<(a.Subs.length:Int)):=by omega
  simp only[this,dF,bF,if_false]
  rw[show a.Subs.drop i=[] from dN.2 (by omega),cellS];rfl
 | succ j ih=>
  intro i n hi
  rw[sG]
  have aK:i<a.Subs.length:=by omega
  have hlt2:i<l[q].Dims.length:=by omega
  have h1:((i:Int)<(a.Subs.length:Int)):=by omega
  have hc:=a3 _ (gM aK)
  have hl':((a.Subs.length:Int) != (l[q].Dims.length:Int))=false:=by simp[hl]
  simp only[h1,dT,if_true,xA aK,xA hq,xA hlt2,hl',bF,if_false,oB,oS,specEval _ _ (show p.length<=a.Subs[i].Coefs.length by omega) (by omega),oP]
  rw[uF (by omega),gC aK,gC hlt2,cellS]
  by_cases h0:0<=evA a.Subs[i] p
  ·have h0':¬(evA a.Subs[i] p<0):=by omega
   by_cases hd:evA a.Subs[i] p<l[q].Dims[i]
   ·have hd':¬(evA a.Subs[i] p>=l[q].Dims[i]):=by omega
    simp only[h0,h0',hd,hd',dF,bF,if_false,oS,and_self,if_true]
    exact ih (i+1) _ (by omega)
   ·have hd':(evA a.Subs[i] p>=l[q].Dims[i]):=by omega
    simp only[h0,h0',hd,hd',dF,dT,bF,if_false,oS,and_false,if_true]
  ·have h0':(evA a.Subs[i] p<0):=by omega
   simp only[h0,h0',dT,if_true,oS,false_and,if_false]
theorem zKw(l:List zD)(a:zM)(p:List Int)(ha:AV a)(hp:p.length<=4)(hR:RVa l):∀(j i:Nat) (first:Int),i+j=l.length ->
 (match sH l a p first (i:Int) with|none=>none|some (.ret r)=>some r|some (.done _)=>some (-1))=some (cellF a p (l.drop i) first):=by
 obtain⟨r1,r2⟩:=hR
 intro j
 induction j with
 | zero=>
  intro i first hi
  rw[sH]
  have:¬((i:Int)<(l.length:Int)):=by omega
  simp only[this,dF,bF,if_false]
  rw[dN.2 (by omega)];rfl
 | succ j ih=>
  intro i first hi
  rw[sH]
  have aK:i<l.length:=by omega
  have h1:((i:Int)<(l.length:Int)):=by omega
  have hx:=r2 _ (gM aK)
  simp only[h1,dT,if_true,xA aK,oB,oS,specSize _ (show l[i].Dims.length<=1048576 by omega)]
  rw[uF (by omega),gC aK,cellF]
  by_cases hn:l[i].Name.l=a.Array.l
  ·have hb:(l[i].Name.l==a.Array.l)=true:=by simpa using hn
   rw[if_pos hn]
   simp only[hb,bT,bF,if_false]
   clear hb hn
   by_cases hl:a.Subs.length=l[i].Dims.length
   ·have h2:=zKv l a p i aK ha hp hx hl _ 0 0 (cy _)
    rw[nZ,cr,cr] at h2
    rw[if_pos hl]
    simp only[h2,oS]
    cases cellS p l[i].Dims a.Subs 0 <;> rfl
   ·have hl':((a.Subs.length:Int) != (l[i].Dims.length:Int))=true:=by simp;omega
    have hpos:((0:Int)<(a.Subs.length:Int)):=by
     have:=List.length_pos_iff.2 ha.1;omega
    rw[sG]
    rw[if_neg hl]
    simp only[hpos,dT,if_true,xA aK,oB,oS,hl']
    rfl
  ·have hb:(l[i].Name.l==a.Array.l)=false:=by simpa using hn
   rw[if_neg hn]
   simp only[hb,di,if_true]
   exact ih (i+1) _ (by omega)
theorem specCell(l:List zD)(a:zM)(p:List Int)(ha:AV a)(hp:p.length<=4)(hR:RVa l):jM l a p=some (cellF a p l 0):=by
 unfold jM;have:=zKw l a p ha hp hR _ 0 0 (cy _);rw[nZ,cr] at this;cases h:sH l a p 0 0 with
 | none=>rw[h] at this;cases this
 | some o=>
  rw[h] at this;cases o with
  | ret r=>exact this
  | done u=>exact this
end Go.LN
namespace Go.LN
theorem specCopyAff(a:zA)(h:BA a):rS a=some a:=by
 obtain⟨C,k⟩:=a;unfold rS BA at *;simp only[len0] at h ⊢;by_cases h0:C.length=0
 ·have:C=[]:=ek.1 h0;subst this;rfl
 ·have hpn:app 8 ([]:List Int) C=some C:=zAq C (by omega);simp only[h0,dF,bF,if_false,hpn,oB,oS];rfl
theorem zIx(a:zM)(h:BL a.Subs):∀(j i:Nat) (o:List zA),i+j=a.Subs.length->o.length=i->vK a (i:Int) o=some (o++a.Subs.drop i):=by
 obtain⟨h1,h2⟩:=h;intro j
 induction j with
 | zero=>
  intro i o hi ho;rw[vK];have:¬((i:Int)<(a.Subs.length:Int)):=by omega
  simp only[this,dF,bF,if_false];rw[show a.Subs.drop i=[] from dN.2 (by omega),cx];rfl
 | succ j ih=>
  intro i o hi ho;rw[vK];have aK:i<a.Subs.length:=by omega
  have hc:((i:Int)<(a.Subs.length:Int)):=by omega
  have happ:app 32 o [a.Subs[i]]=some (o++[a.Subs[i]]):=qJ (by simp;omega);simp only[hc,dT,if_true,xA aK,oB,oS,specCopyAff _ (h2 _ (gM aK)),happ];rw[uF (by omega),ih (i+1) _ (by omega) (by simp[ho]),cm,fi,<- gC aK]
theorem specCopyAcc(a:zM)(h:BL a.Subs):tZ a=some a:=by
 unfold tZ;have:=zIx a h _ 0 [] (cy _) rfl;rw[nZ,cr,cC] at this;rw[this];rfl
def readsF:Nat->zH->List zM
 | 0,_=>[]
 | n+1,e=>if e.Kind=3 then[e.Read] else e.Kids.flatMap (readsF n)
theorem zFf{d:Int}{n:Nat}{e:zH}(h:shapeB d (n+1) e=true)(h3:e.Kind=3):e.Kids=[]/\accB e.Read d=true:=by
 simp only[shapeB,bA] at h;have hk:=eq_of_beq h.1.1;rw[h3,show kidsN 3=0 from rfl] at hk;refine⟨ek.1 (by omega),?_⟩;have ho:=h.1.2;simp only[ownB,h3,show ¬(3:Int)=2 by decide,if_false,if_true,bA] at ho;exact ho.2
theorem zIy{d:Int}:∀(n:Nat) (e:zH),shapeB d n e=true->∀a∈readsF n e,accB a d=true
 | 0,e,h,a,ha=>by cases ha
 | n+1,e,h,a,ha=>by
  rw[readsF] at ha
  by_cases h3:e.Kind=3
  ·rw[if_pos h3] at ha
   rw[cF.1 ha]
   exact(zFf h h3).2
  ·rw[if_neg h3] at ha
   obtain⟨k,hk,hk'⟩:=cD.1 ha
   exact zIy n k ((zAD h).2 k hk) a hk'
theorem eQ{d:Int}:∀(n:Nat) (e:zH),shapeB d n e=true->(readsF n e).length<=2 ^ n
 | 0,e,h=>by cases h
 | n+1,e,h=>by
  have hp:=Nat.one_le_two_pow (n:=n)
  rw[readsF,Nat.pow_succ]
  by_cases h3:e.Kind=3
  ·rw[if_pos h3];simp;omega
  ·rw[if_neg h3]
   obtain⟨h1,h2⟩:=zAD h
   rcases h1 with hk|⟨a,b,hk⟩
   ·rw[hk];simp
   ·rw[hk] at h2 ⊢
    have ha:=eQ n a (h2 a (by simp))
    have hb:=eQ n b (h2 b (by simp))
    simp only[cg,fb,cx,lA]
    omega
theorem implReads{d:Int}:∀(n:Nat) (e:zH),shapeB d n e=true->n<=10->gO e=some (readsF n e)
 | 0,e,h,_=>by cases h
 | n+1,e,h,hn=>by
  have hpw:2 ^ n<=2 ^ 10:=Nat.pow_le_pow_right (by omega) (by omega)
  rw[gO,readsF]
  by_cases h3:e.Kind=3
  ·have:(e.Kind==3)=true:=by simpa using h3
   rw[if_pos h3,if_pos this];rfl
  ·have:(e.Kind==3)=false:=by simpa using h3
   rw[if_neg h3]
   simp only[this,bF,if_false,same]
   obtain⟨h1,h2⟩:=zAD h
   rcases h1 with hk|⟨a,b,hk⟩
   ·rw[kV]
    simp[hk]
   ·rw[hk] at h2 ⊢
    have ra:=implReads n a (h2 a (by simp)) (by omega)
    have rb:=implReads n b (h2 b (by simp)) (by omega)
    have la:=eQ n a (h2 a (by simp))
    have lb:=eQ n b (h2 b (by simp))
    have l0:((0:Int)<(e.Kids.length:Int)):=by rw[hk];simp
    have l1:((1:Int)<(e.Kids.length:Int)):=by rw[hk];simp
    have l2:¬((2:Int)<(e.Kids.length:Int)):=by rw[hk];simp
    have i0:idx e.Kids 0=some a:=by rw[hk];rfl
    have i1:idx e.Kids 1=some b:=by rw[hk];rfl
    have w0:W ((0:Int)+1)=1:=by rw[rE (by omega) (by omega)];rfl
    have w1:W ((1:Int)+1)=2:=by rw[rE (by omega) (by omega)];rfl
    have p0:app 40 ([]:List zM) (readsF n a)=some (readsF n a):=by rw[qJ (by simp;omega)];rfl
    have p1:app 40 (readsF n a) (readsF n b)=some (readsF n a++readsF n b):=qJ (by omega)
    rw[kV]
    simp only[l0,dT,if_true,oB,oS,i0,same,ra,p0,w0]
    rw[kV]
    simp only[l1,dT,if_true,oB,oS,i1,same,rb,p1,w1]
    rw[kV]
    simp only[l2,dF,bF,if_false,oP,oS,id,cg,fb,cx]
theorem specReads{d:Int}:∀(n m:Nat) (e:zH) (out:List zM),shapeB d n e=true->BE m e->n<=10->out.length<=1000000 - 2 ^ n->qI out e=some (out++readsF n e)
 | 0,m,e,out,h,_,_,_=>by cases h
 | n+1,m,e,out,h,hb,hn,ho=>by
  have hpw:2 ^ n<=2 ^ 10:=Nat.pow_le_pow_right (by omega) (by omega)
  have hps:2 ^ (n+1)=2 ^ n*2:=Nat.pow_succ ..
  have hp:=Nat.one_le_two_pow (n:=n)
  rw[qI,readsF]
  by_cases h3:e.Kind=3
  ·have:(e.Kind==3)=true:=by simpa using h3
   obtain⟨hk,_⟩:=zFf h h3
   have hpa:app 40 out [e.Read]=some (out++[e.Read]):=qJ (by simp;omega)
   rw[if_pos h3]
   simp only[this,if_true,oB,oS,specCopyAcc _ hb.own.2.1,hpa,oP,id,same]
   rw[vV]
   simp[hk]
  ·have:(e.Kind==3)=false:=by simpa using h3
   rw[if_neg h3]
   simp only[this,bF,if_false,oB,oS,oP,id,same]
   obtain⟨h1,h2⟩:=zAD h
   rcases h1 with hk|⟨a,b,hk⟩
   ·rw[vV]
    simp[hk]
   ·obtain⟨m1,_,hba⟩:=hb.kid (k:=a) (by rw[hk];simp)
    obtain⟨m2,_,hbb⟩:=hb.kid (k:=b) (by rw[hk];simp)
    rw[hk] at h2 ⊢
    have la:=eQ n a (h2 a (by simp))
    have ra:=specReads n m1 a out (h2 a (by simp)) hba (by omega) (by omega)
    have rb:=specReads n m2 b (out++readsF n a) (h2 b (by simp)) hbb (by omega) (by rw[lA];omega)
    have l0:((0:Int)<(e.Kids.length:Int)):=by rw[hk];simp
    have l1:((1:Int)<(e.Kids.length:Int)):=by rw[hk];simp
    have l2:¬((2:Int)<(e.Kids.length:Int)):=by rw[hk];simp
    have i0:idx e.Kids 0=some a:=by rw[hk];rfl
    have i1:idx e.Kids 1=some b:=by rw[hk];rfl
    have w0:W ((0:Int)+1)=1:=by rw[rE (by omega) (by omega)];rfl
    have w1:W ((1:Int)+1)=2:=by rw[rE (by omega) (by omega)];rfl
    rw[vV]
    simp only[l0,dT,if_true,oB,oS,i0,same,ra,w0]
    rw[vV]
    simp only[l1,dT,if_true,oB,oS,i1,same,rb,w1]
    rw[vV]
    simp only[l2,dF,bF,if_false,oP,oS,id,cg,fb,cx,cm]
def cellA(A:List zD)(p:List Int)(a:zM):Int:=cellF a p A 0
def stOk(A:List zD)(s:zI)(p:List Int):Bool:=decide (0<=cellA A p s.Write)&&(readsF 5 s.Value).all λa=>decide (0<=cellA A p a)
theorem zBB{s:zI}{d:Int}(h:stmtB s d=true):AV s.Write/\shapeB d 5 s.Value=true/\∀a∈readsF 5 s.Value,AV a:=by
 simp only[stmtB,bA] at h;exact⟨AV.of h.1.2,h.2.1,λa ha=>AV.of (zIy 5 _ h.2.1 a ha)⟩
theorem implStmtOk(P:zC)(s:zI)(p:List Int){d:Int}(h:stmtB s d=true)(hp:p.length<=4)(hR:RVa P.Arrays):nY P s p=some (stOk P.Arrays s p):=by
 obtain⟨h1,h2,h3⟩:=zBB h;have hl:=eQ 5 _ h2;unfold nY stOk;have hc:=zKE (f:=λx0=>sD x0 P p) (p:=λa=>!(decide (0<=cellA P.Arrays p a))) (readsF 5 s.Value) (λa ha=>by
  unfold sD;rw[implCell P a p (h3 a ha) hp hR];simp only[oB,oS,oP,cellA];by_cases q:0<=cellF a p P.Arrays 0
  ·have:¬cellF a p P.Arrays 0<0:=by omega
   simp[q,this]
  ·have:cellF a p P.Arrays 0<0:=by omega
   simp[q,this]) (by omega)
 rw[implCell P s.Write p h1 hp hR,implReads 5 s.Value h2 (by omega)];simp only[oB,oS,hc,oP,cellA];by_cases q:0<=cellF s.Write p P.Arrays 0
 ·have:cellF s.Write p P.Arrays 0>=0:=q;simp only[this,q,dT,if_true,oS,id,cu];rw[eg];simp
 ·have:¬cellF s.Write p P.Arrays 0>=0:=q;simp[this,q]
theorem zKJ(l:List zD)(p:List Int)(ys:List zM)(hy:ys.length<=1048576)(ha:∀a∈ys,AV a)(hp:p.length<=4)(hR:RVa l):∀(j i:Nat) (o:List Int),i+j=ys.length->o.length=i ->
 sU l p ys o (i:Int)=some (if(ys.drop i).all (λa=>decide (0<=cellA l p a)) then .done (o++(ys.drop i).map (cellA l p)) else .ret ([],0,false)):=by
 intro j
 induction j with
 | zero=>
  intro i o hi ho
  rw[sU]
  have:¬((i:Int)<(ys.length:Int)):=by omega
  simp only[this,dF,bF,if_false]
  rw[show ys.drop i=[] from dN.2 (by omega)]
  simp
 | succ j ih=>
  intro i o hi ho
  rw[sU]
  have aK:i<ys.length:=by omega
  have hc:((i:Int)<(ys.length:Int)):=by omega
  have happ:∀v:Int,app 8 o [v]=some (o++[v]):=λv=>qJ (by simp;omega)
  simp only[hc,dT,if_true,xA aK,oB,oS,specCell l _ p (ha _ (gM aK)) hp hR,happ]
  rw[uF (by omega),gC aK,ey,cG]
  by_cases q:0<=cellA l p ys[i]
  ·have:¬cellF ys[i] p l 0<0:=by unfold cellA at q;omega
   simp only[this,q,dF,dT,bF,if_false,cu]
   rw[ih (i+1) _ (by omega) (by simp[ho]),cm,fi]
   rfl
  ·have:cellF ys[i] p l 0<0:=by unfold cellA at q;omega
   simp only[this,q,dF,dT,if_true,Bool.false_and,bF,if_false]
   rfl
theorem specCells(l:List zD)(s:zI)(p:List Int){d:Int}(h:stmtB s d=true)(hs:BS s)(hp:p.length<=4)(hR:RVa l):kL l s p=some (if stOk l s p then((readsF 5 s.Value).map (cellA l p),cellA l p s.Write,true) else([],0,false)):=by
 obtain⟨h1,h2,h3⟩:=zBB h;obtain⟨_,m,hb⟩:=hs;have hl:=eQ 5 _ h2;unfold kL stOk;have hr:=specReads 5 m s.Value [] h2 hb (by omega) (by simp);rw[cC] at hr;have hc:=zKJ l p (readsF 5 s.Value) (by omega) h3 hp hR _ 0 [] (cy _) rfl;rw[nZ,cr,cC] at hc;rw[hr];simp only[oB,oS,hc];cases hA:(readsF 5 s.Value).all λa=>decide (0<=cellA l p a) with
 | false=>simp
 | true=>
  simp only[if_true,oS,specCell l s.Write p h1 hp hR,Bool.and_true,oP];by_cases q:0<=cellA l p s.Write
  ·have:¬cellF s.Write p l 0<0:=by unfold cellA at q;omega
   have q':0<=cellF s.Write p l 0:=q;simp[this,q',cellA]
  ·have:cellF s.Write p l 0<0:=by unfold cellA at q;omega
   simp[this,q]
def ptB(p:List Int):Bool:=decide (p.length<=4)&&p.all λn=>decide (-9999<=n)&&decide (n<=9999)
theorem implPoint(p:List Int)(h:p.length<=1048576):dL p=some (ptB p):=by
 unfold dL ptB;have hc:=zES (f:=mI) (p:=λn=>!(decide (-9999<=n)&&decide (n<=9999))) p (λx _=>by unfold mI;rw[kR];rfl) (by omega);have e:decide ((p.length:Int)<=4)=decide (p.length<=4):=by simp;omega
 rw[e];by_cases h4:p.length<=4
 ·simp only[h4,dT,if_true,hc,oB,oS,oP,id,cu];rw[eg];simp
 ·simp[h4]
theorem specPoint(p:List Int)(h:p.length<=1048576):jR p=some (ptB p):=by
 unfold jR ptB;have hl:=zAp (n:=p.length) (f:=sV p) (P:=λi=>decide (-9999<=p.getD i 0)&&decide (p.getD i 0<=9999)) (λi hi=>by
  rw[sV];have h1:((i:Int)<(p.length:Int)):=by omega
  have hg:p.getD i 0=p[i]:=by simp[hi]
  have hw:tF p[i] 9999=some (decide (-9999<=p[i])&&decide (p[i]<=9999)):=by
   unfold tF;rw[show W (0 - 9999)=-9999 by rw[rE (by omega) (by omega)];rfl];by_cases q:-9999<=p[i]
   ·have:p[i] >= -9999:=q;simp[q,this]
   ·have:¬p[i] >= -9999:=q;simp[q,this]
  simp only[h1,dT,if_true,xA hi,oB,oS,hg,hw];rw[uF (by omega)];cases (decide (-9999<=p[i])&&decide (p[i]<=9999)) <;> rfl) (by
  rw[sV];simp)
 rw[hl,zBA p (λn=>decide (-9999<=n)&&decide (n<=9999))];have e:decide ((p.length:Int)<=4)=decide (p.length<=4):=by simp;omega
 cases p.all λn=>decide (-9999<=n)&&decide (n<=9999) with
 | false=>simp
 | true=>simp[e]
theorem zKK:∀(ls:List zG) (p q:List Int),q∈pts ls p->q.length=p.length+ls.length
 | [],p,q,h=>by rw[pts,cF] at h;subst h;rfl
 | l::ls,p,q,h=>by
  rw[pts] at h
  obtain⟨v,_,hv⟩:=cD.1 h
  have:=zKK ls (p++[v]) q hv
  rw[this];simp;omega
theorem zEU{nest:List zG}:(nestPts nest).1.length<=120/\∀q∈(nestPts nest).1,q.length<=4:=by
 unfold nestPts;split
 ·rename_i h;refine⟨h.2.2,λq hq=>?_⟩;have:=zKK nest [] q hq;have:=(zIC h.1).1;simp at *;omega
 ·exact⟨by simp,λq hq=>by cases hq⟩
end Go.LN
namespace Go.LN
def BP(x:zF):Prop:=BN x.Nest/\x.Body.length<=100000/\∀s∈x.Body,BS s
def bodyB(x:zF):Bool:=(decide (1<=x.Body.length)&&decide (x.Body.length<=4))&&x.Body.all λs=>stmtB s (x.Nest.length:Int)
def partB(A:List zD)(x:zF):Bool:=(nestPts x.Nest).2&&bodyB x&&(nestPts x.Nest).1.all λq=>ptB q&&x.Body.all λs=>stOk A s q
def instR(k:Int)(q:List Int)(i j:Nat):List zR:=(List.range' i j).map λ(i:Nat)=>⟨k,(i:Int),q⟩
theorem zHQ(k:Int)(q:List Int)(i j:Nat):(instR k q i j).length=j:=by simp[instR]
theorem len14(n:Nat):(decide ((1:Int)<=(n:Int))&&decide ((n:Int)<=4))=(decide (1<=n)&&decide (n<=4)):=by
 have e1:decide ((1:Int)<=(n:Int))=decide (1<=n):=by simp;omega
 have e2:decide ((n:Int)<=4)=decide (n<=4):=by simp;omega
 rw[e1,e2]
theorem zOW(P:zC)(k:Int)(x:zF)(q:List Int)(hq:q.length<=4)(hb:x.Body.length<=4)(hs:∀s∈x.Body,stmtB s (x.Nest.length:Int)=true)(hR:RVa P.Arrays):
 ∀(j i:Nat) (o:List zR),i+j=x.Body.length->o.length+j<=1000000->uJ P k x q o (i:Int)=some (if(x.Body.drop i).all (λs=>stOk P.Arrays s q) then .done (o++instR k q i j) else .ret ([],false)):=by
 intro j
 induction j with
 | zero=>
  intro i o hi ho
  rw[uJ]
  have:¬((i:Int)<(x.Body.length:Int)):=by omega
  simp only[this,dF,bF,if_false]
  rw[show x.Body.drop i=[] from dN.2 (by omega)]
  simp[instR]
 | succ j ih=>
  intro i o hi ho
  rw[uJ]
  have aK:i<x.Body.length:=by omega
  have hc:((i:Int)<(x.Body.length:Int)):=by omega
  have happ:app 40 o [(⟨k,(i:Int),q⟩:zR)]=some (o++[⟨k,(i:Int),q⟩]):=qJ (by simp;omega)
  simp only[hc,dT,if_true,xA aK,oB,oS,implStmtOk P _ q (hs _ (gM aK)) hq hR,zET q (by omega),happ]
  rw[uF (by omega),gC aK,ey]
  cases stOk P.Arrays x.Body[i] q with
  | false=>rfl
  | true=>
   simp only[bT,bF,if_false,cu]
   rw[ih (i+1) _ (by omega) (by simp;omega),cm]
   simp only[instR,dk,cG,fi]
def ptOk(A:List zD)(x:zF)(q:List Int):Bool:=ptB q&&x.Body.all λs=>stOk A s q
theorem zOX(P:zC)(k:Int)(x:zF)(qs:List (List Int))(hq:∀q∈qs,q.length<=4)(hql:qs.length<=120)(hb:x.Body.length<=4)(hs:∀s∈x.Body,stmtB s (x.Nest.length:Int)=true)(hR:RVa P.Arrays):
 ∀(j i:Nat) (o:List zR),i+j=qs.length->o.length+4*j<=1000000->uK P k x qs o (i:Int)=some (if(qs.drop i).all (ptOk P.Arrays x) then .done (o++(qs.drop i).flatMap λq=>instR k q 0 x.Body.length) else .ret ([],false)):=by
 intro j
 induction j with
 | zero=>
  intro i o hi ho
  rw[uK]
  have:¬((i:Int)<(qs.length:Int)):=by omega
  simp only[this,dF,bF,if_false]
  rw[show qs.drop i=[] from dN.2 (by omega)]
  simp
 | succ j ih=>
  intro i o hi ho
  rw[uK]
  have aK:i<qs.length:=by omega
  have hc:((i:Int)<(qs.length:Int)):=by omega
  have hq4:=hq _ (gM aK)
  have h3:=zOW P k x qs[i] hq4 hb hs hR x.Body.length 0 o (cy _) (by omega)
  rw[nZ,cr] at h3
  simp only[hc,dT,if_true,xA aK,oB,oS,implPoint _ (show qs[i].length<=1048576 by omega),h3]
  rw[uF (by omega),gC aK,ey,cg,ptOk]
  cases ptB qs[i] with
  | false=>rfl
  | true=>
   simp only[bT,bF,if_false,cu]
   cases x.Body.all λs=>stOk P.Arrays s qs[i] with
   | false=>rfl
   | true=>
    simp only[if_true,oS,cu]
    rw[ih (i+1) _ (by omega) (by rw[lA,zHQ];omega),cm]
def partI(k:Int)(x:zF):List zR:=(nestPts x.Nest).1.flatMap λq=>instR k q 0 x.Body.length
theorem zKx(k:Int)(b:Nat):∀qs:List (List Int),(qs.flatMap λq=>instR k q 0 b).length=qs.length*b
 | []=>by simp
 | q::qs=>by rw[cg,lA,zHQ,zKx k b qs,cj,ec];omega
theorem zJe(k:Int)(x:zF):(partI k x).length=(nestPts x.Nest).1.length*x.Body.length:=zKx _ _ _
theorem zBC{x:zF}(h:bodyB x=true):1<=x.Body.length/\x.Body.length<=4/\∀s∈x.Body,stmtB s (x.Nest.length:Int)=true:=by
 simp only[bodyB,bA,decide_eq_true_eq] at h;exact⟨h.1.1,h.1.2,ce.1 h.2⟩
theorem zIz(k:Int){A:List zD}{x:zF}(h:partB A x=true):(partI k x).length<=480:=by
 simp only[partB,bA] at h;obtain⟨h1,h2,_⟩:=zBC h.1.2;have:=(zEU (nest:=x.Nest)).1;rw[zJe];exact Nat.mul_le_mul this h2
def gP(P:zC)(i:Nat):zF:=P.Parts.getD i ⟨[],[]⟩
theorem zOY(P:zC)(hP:P.Parts.length<=4)(hb:∀x∈P.Parts,BP x)(hR:RVa P.Arrays):
 ∀(j i:Nat) (o:List zR),i+j=P.Parts.length->o.length<=480*i->uL P o (i:Int)=some (if(List.range' i j).all (λi=>partB P.Arrays (gP P i)) then .done (o++(List.range' i j).flatMap λ(i:Nat)=>partI (i:Int) (gP P i)) else .ret ([],false)):=by
 intro j
 induction j with
 | zero=>
  intro i o hi ho
  rw[uL]
  have:¬((i:Int)<(P.Parts.length:Int)):=by omega
  simp only[this,dF,bF,if_false]
  simp
 | succ j ih=>
  intro i o hi ho
  rw[uL]
  have aK:i<P.Parts.length:=by omega
  have hc:((i:Int)<(P.Parts.length:Int)):=by omega
  obtain⟨b1,b2,b3⟩:=hb _ (gM aK)
  have hg:gP P i=P.Parts[i]:=by simp[gP,aK]
  have bV:=zKC (f:=λx0=>uS x0 P.Parts[i]) (p:=λs=>!(stmtB s (P.Parts[i].Nest.length:Int))) P.Parts[i].Body (λs hs=>by
   unfold uS
   rw[implStmt s _ (b3 s hs)];rfl) (by omega)
  simp only[hc,dT,if_true,xA aK,oB,oS,implPoints _ b1,kR,len14,bV,oP,id]
  rw[uF (by omega),dk,ey,cg,hg]
  have hnl:=zEU (nest:=P.Parts[i].Nest)
  cases hn:(nestPts P.Parts[i].Nest).2 with
  | false=>simp[partB,hn]
  | true=>
   cases hb4:(decide (1<=P.Parts[i].Body.length)&&decide (P.Parts[i].Body.length<=4)) with
   | false=>simp[partB,bodyB,hb4]
   | true=>
    have hany:(P.Parts[i].Body.any λs=>!(stmtB s (P.Parts[i].Nest.length:Int)))=!(P.Parts[i].Body.all λs=>stmtB s (P.Parts[i].Nest.length:Int)):=by
     rw[fo];simp
    simp only[bT,bF,if_false,oS,hany]
    cases hall:P.Parts[i].Body.all λs=>stmtB s (P.Parts[i].Nest.length:Int) with
    | false=>simp[partB,bodyB,hall]
    | true=>
     have hbb:bodyB P.Parts[i]=true:=by rw[bodyB,hb4,hall];rfl
     obtain⟨q1,q2,q3⟩:=zBC hbb
     have h2:=zOX P (i:Int) P.Parts[i] (nestPts P.Parts[i].Nest).1 hnl.2 hnl.1 q2 q3 hR _ 0 o (cy _) (by have:=hnl.1;omega)
     rw[nZ,cr] at h2
     simp only[bT,bF,if_false,h2]
     have hpB:partB P.Arrays P.Parts[i]=(nestPts P.Parts[i].Nest).1.all (ptOk P.Arrays P.Parts[i]):=by rw[partB,hn,hbb];rfl
     rw[hpB]
     cases hpt:(nestPts P.Parts[i].Nest).1.all (ptOk P.Arrays P.Parts[i]) with
     | false=>simp
     | true=>
      have bH:=zIz (i:Int) (A:=P.Arrays) (x:=P.Parts[i]) (by rw[hpB,hpt])
      simp only[if_true,oS,cu]
      rw[show (o++(nestPts P.Parts[i].Nest).1.flatMap λq=>instR (i:Int) q 0 P.Parts[i].Body.length)=o++partI (i:Int) P.Parts[i] from rfl]
      rw[ih (i+1) _ (by omega) (by rw[lA];omega),cm]
def BG(P:zC):Prop:=BR P.Arrays/\P.Parts.length<=100000/\∀x∈P.Parts,BP x
def progB(P:zC):Bool:=arrB P.Arrays&&decide (P.Parts.length<=4)&&(List.range' 0 P.Parts.length).all λi=>partB P.Arrays (gP P i)
def progI(P:zC):List zR:=(List.range' 0 P.Parts.length).flatMap λ(i:Nat)=>partI (i:Int) (gP P i)
def validP(P:zC):Bool:=progB P&&decide ((progI P).length<=120)
theorem implInstances(P:zC)(h:BG P):rH P=some (if progB P then(progI P,decide ((progI P).length<=120)) else([],false)):=by
 obtain⟨h1,h2,h3⟩:=h;unfold rH progB;rw[implArrays _ h1];cases ha:arrB P.Arrays with
 | false=>simp
 | true=>
  by_cases h4:P.Parts.length<=4
  ·have e:¬((P.Parts.length:Int)>4):=by omega
   have hl:=zOY P h4 h3 (RVa.of h1 ha) _ 0 [] (cy _) (by simp);rw[nZ,cC] at hl;simp only[bT,bF,if_false,e,dF,oP,oB,oS,hl,h4,dT,cu];cases hA:(List.range' 0 P.Parts.length).all λi=>partB P.Arrays (gP P i) with
   | false=>simp
   | true=>
    simp only[if_true,progI]
    congr 2
    simp;omega
  ·have e:((P.Parts.length:Int)>4):=by omega
   simp[e,h4]
theorem implValidP(P:zC)(h:BG P):nK P=some (validP P):=by
 unfold nK validP;rw[implInstances P h];cases progB P <;> rfl
theorem zJf{R:Type}{r0:R}{n:Nat}{f:Int->Option (Out Unit R)}{P:Nat->Bool}(step:∀i,i<n->f (i:Int)=if P i then f ((i+1:Nat):Int) else some (.ret r0))(fin:f (n:Int)=some (.done ())):f 0=some (if(List.range n).all P then .done () else .ret r0):=by
 have key:∀j i,i+j=n->f (i:Int)=some (if(List.range' i j).all P then .done () else .ret r0):=by
  intro j
  induction j with
  | zero=>intro i hi;rw[show i=n by omega,fin];rfl
  | succ j ih=>
   intro i hi;rw[step i (by omega),dk,ey];cases hP:P i with
   | false=>simp
   | true=>simp only[if_true,cu];exact ih (i+1) (by omega)
 have:=key n 0 (by omega);rw[List.range_eq_range'];exact this
theorem zKy(A:List zD)(x:zF)(qs:List (List Int))(hq:∀q∈qs,q.length<=4)(hql:qs.length<=120)(i:Nat)(hi:i<x.Body.length)(hs:stmtB x.Body[i] (x.Nest.length:Int)=true)(hbs:BS x.Body[i])(hR:RVa A):
 sI A x qs (i:Int) 0=some (if qs.all (λq=>stOk A x.Body[i] q&&ptB q) then .done () else .ret (0,false)):=by
 have hl:=zJf (r0:=((0:Int),false)) (n:=qs.length) (f:=sI A x qs (i:Int)) (P:=λk=>stOk A x.Body[i] (qs.getD k [])&&ptB (qs.getD k [])) (λk hk=>by
  rw[sI]
  have h1:((k:Int)<(qs.length:Int)):=by omega
  have hg:qs.getD k []=qs[k]:=by simp[hk]
  have hk4:=hq _ (gM hk)
  simp only[h1,dT,if_true,xA hi,xA hk,oB,oS,specCells A _ qs[k] hs hbs hk4 hR,specPoint _ (show qs[k].length<=1048576 by omega),hg]
  rw[uF (by omega)]
  cases stOk A x.Body[i] qs[k] with
  | false=>simp
  | true=>cases ptB qs[k] <;> simp) (by
  rw[sI];simp)
 rw[hl,zBA qs (λq=>stOk A x.Body[i] q&&ptB q)]
def EXz:zH:=zH.mk 0 0 (zA.mk [] 0) (zM.mk ⟨[]⟩ []) []
theorem zKz(A:List zD)(x:zF)(hx:BP x)(qs:List (List Int))(hq:∀q∈qs,q.length<=4)(hql:qs.length<=120)(hR:RVa A):
 sJ A x qs 0=some (if x.Body.all (λs=>stmtB s (x.Nest.length:Int)&&qs.all (λq=>stOk A s q&&ptB q)) then .done () else .ret (0,false)):=by
 obtain⟨b1,b2,b3⟩:=hx
 have hl:=zJf (r0:=((0:Int),false)) (n:=x.Body.length) (f:=sJ A x qs) (P:=λi=>(λs=>stmtB s (x.Nest.length:Int)&&qs.all (λq=>stOk A s q&&ptB q)) (x.Body.getD i ⟨⟨⟨[]⟩,[]⟩,EXz⟩)) (λi hi=>by
  rw[sJ]
  have h1:((i:Int)<(x.Body.length:Int)):=by omega
  have hg:x.Body.getD i ⟨⟨⟨[]⟩,[]⟩,EXz⟩=x.Body[i]:=by simp[hi]
  have hbs:=b3 _ (gM hi)
  simp only[h1,dT,if_true,xA hi,oB,oS,specStmt _ _ hbs,hg]
  rw[uF (by omega)]
  cases hst:stmtB x.Body[i] (x.Nest.length:Int) with
  | false=>simp
  | true=>
   simp only[bT,bF,if_false,zKy A x qs hq hql i hi hst hbs hR,cu]
   cases qs.all (λq=>stOk A x.Body[i] q&&ptB q) <;> simp) (by
  rw[sJ];simp)
 rw[hl,zBA x.Body (λs=>stmtB s (x.Nest.length:Int)&&qs.all (λq=>stOk A s q&&ptB q))]
theorem zN3{A:List zD}{x:zF}{qs:List (List Int)}(h1:1<=x.Body.length):
 (x.Body.all (λs=>stmtB s (x.Nest.length:Int)&&qs.all (λq=>stOk A s q&&ptB q)))=((x.Body.all λs=>stmtB s (x.Nest.length:Int))&&qs.all (ptOk A x)):=by
 rw[fo,bA,ce,ce,ce]
 constructor
 ·intro h
  refine⟨λs hs=>((bA _ _).mp (h s hs)).1,λq hq=>?_⟩
  have hall:∀s∈x.Body,stOk A s q=true/\ptB q=true:=λs hs=>by
   have:=((bA _ _).mp (h s hs)).2
   have:=ce.1 this q hq
   rwa[bA] at this
  rw[ptOk,bA,ce]
  exact⟨(hall x.Body[0] (gM (by omega))).2,λs hs=>(hall s hs).1⟩
 ·rintro⟨h2,h3⟩ s hs
  rw[bA,ce]
  refine⟨h2 s hs,λq hq=>?_⟩
  have:=h3 q hq
  rw[ptOk,bA,ce] at this
  rw[bA]
  exact⟨this.2 s hs,this.1⟩
theorem specPart(A:List zD)(x:zF)(hx:BP x)(hR:RVa A):kI A x=some (if partB A x then(((nestPts x.Nest).1.length*x.Body.length:Nat):Int) else 0,partB A x):=by
 have hnl:=zEU (nest:=x.Nest);have hl:=zKz A x hx (nestPts x.Nest).1 hnl.2 hnl.1 hR;obtain⟨b1,b2,b3⟩:=hx;unfold kI partB;rw[specPoints _ b1];cases hn:(nestPts x.Nest).2 with
 | false=>simp[hn]
 | true=>
  by_cases q1:1<=x.Body.length
  ·have q1':¬((x.Body.length:Int)<1):=by omega
   by_cases q2:x.Body.length<=4
   ·have q2':¬((x.Body.length:Int)>4):=by omega
    have hm:(nestPts x.Nest).1.length*x.Body.length<=120*4:=Nat.mul_le_mul hnl.1 q2;have hW:W (((nestPts x.Nest).1.length:Int)*(x.Body.length:Int))=(((nestPts x.Nest).1.length*x.Body.length:Nat):Int):=by
     rw[<- Int.natCast_mul];exact rE (by omega) (by omega)
    have hb:bodyB x=x.Body.all λs=>stmtB s (x.Nest.length:Int):=by simp[bodyB,q1,q2]
    have hsw:=zN3 (A:=A) (qs:=(nestPts x.Nest).1) q1;rw[hsw] at hl;have hpt:((nestPts x.Nest).1.all λq=>ptB q&&x.Body.all λs=>stOk A s q)=(nestPts x.Nest).1.all (ptOk A x):=rfl;simp only[hn,bT,bF,if_false,q1',q2',dF,oP,oB,oS,hl,hb,hpt,hW,cu];cases ((x.Body.all λs=>stmtB s (x.Nest.length:Int))&&(nestPts x.Nest).1.all (ptOk A x)) <;> simp
   ·have q2':((x.Body.length:Int)>4):=by omega
    have hb:bodyB x=false:=by simp[bodyB,q2]
    simp[hn,q1',q2',hb]
  ·have q1':((x.Body.length:Int)<1):=by omega
   have hb:bodyB x=false:=by simp[bodyB,q1]
   simp[hn,q1',hb]
theorem zJA(P:zC)(hP:P.Parts.length<=4)(hb:∀x∈P.Parts,BP x)(hR:RVa P.Arrays):
 ∀(j i t:Nat),i+j=P.Parts.length->t<=480*i->vL P (t:Int) (i:Int)=some (if(List.range' i j).all (λi=>partB P.Arrays (gP P i)) then .done (((t+((List.range' i j).flatMap λ(i:Nat)=>partI (i:Int) (gP P i)).length:Nat)):Int) else .ret false):=by
 intro j
 induction j with
 | zero=>
  intro i t hi ht
  rw[vL]
  have:¬((i:Int)<(P.Parts.length:Int)):=by omega
  simp only[this,dF,bF,if_false]
  simp
 | succ j ih=>
  intro i t hi ht
  rw[vL]
  have aK:i<P.Parts.length:=by omega
  have hc:((i:Int)<(P.Parts.length:Int)):=by omega
  have hg:gP P i=P.Parts[i]:=by simp[gP,aK]
  simp only[hc,dT,if_true,xA aK,oB,oS,specPart P.Arrays _ (hb _ (gM aK)) hR]
  rw[uF (by omega),dk,ey,cg,hg]
  cases hp:partB P.Arrays P.Parts[i] with
  | false=>simp
  | true=>
   have bH:=zIz (i:Int) hp
   have hpl:=zJe (i:Int) P.Parts[i]
   rw[hpl] at bH
   have hW:W ((t:Int)+(((nestPts P.Parts[i].Nest).1.length*P.Parts[i].Body.length:Nat):Int))=((t+(nestPts P.Parts[i].Nest).1.length*P.Parts[i].Body.length:Nat):Int):=by
    rw[rE (by omega) (by omega)];omega
   simp only[if_true,bT,bF,if_false,cu,hW]
   rw[ih (i+1) _ (by omega) (by omega),lA,hpl,ex]
theorem specValidP(P:zC)(h:BG P):sA P=some (validP P):=by
 obtain⟨h1,h2,h3⟩:=h;unfold sA validP progB;rw[specArrays _ h1];cases ha:arrB P.Arrays with
 | false=>simp
 | true=>
  by_cases h4:P.Parts.length<=4
  ·have e:¬((P.Parts.length:Int)>4):=by omega
   have hl:=zJA P h4 h3 (RVa.of h1 ha) _ 0 0 (cy _) (by simp);rw[nZ,cy] at hl;simp only[bT,bF,if_false,e,dF,oP,oB,oS,hl,h4,dT,cu];cases hA:(List.range' 0 P.Parts.length).all λi=>partB P.Arrays (gP P i) with
   | false=>simp
   | true=>
    simp only[if_true,progI,cu]
    congr 1
    simp;omega
  ·have e:((P.Parts.length:Int)>4):=by omega
   simp[e,h4]
end Go.LN
