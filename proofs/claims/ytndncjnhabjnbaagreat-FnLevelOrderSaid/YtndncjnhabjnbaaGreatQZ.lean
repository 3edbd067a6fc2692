/- Helper of the proof (see the last text). -/
import Derived.Test.YtndncjnhabjnbaaGreatQT
import Derived.Test.YtndncjnhabjnbaaGreatHM7
set_option linter.unusedVariables false
set_option linter.unusedSimpArgs false
namespace Go.LN
def I64(x:Int):Prop:=-9223372036854775808<=x/\x<=9223372036854775807
instance (x:Int):Decidable (I64 x):=inferInstanceAs (Decidable (_/\_))
theorem zJu(x:Int):I64 (W x):=by
 show -9223372036854775808<=IntKind.i64.wrap x/\IntKind.i64.wrap x<=9223372036854775807;rw[IntKind.wrap_i64];omega
instance (x:Int):Sd (I64 (W x)):=⟨zJu x⟩
theorem I64.of{x:Int}(h0:-9223372036854775808<=x)(h1:x<=9223372036854775807):I64 x:=⟨h0,h1⟩
def SA(a:zA):Prop:=a.Coefs.length<=100/\I64 a.Const
def VA(a:zA):Prop:=a.Coefs.length=4/\(∀c∈a.Coefs,I64 c)/\I64 a.Const
def SC(a:zI):Prop:=a.Array.l.length<=1000000/\a.Subs.length<=100/\∀s∈a.Subs,SA s
def VC(a:zI):Prop:=a.Array.l.length<=1/\a.Subs.length<=2/\∀s∈a.Subs,VA s
def SE:Nat->zF->Prop
 | 0,e=>SA e.Index/\SC e.Read/\e.Kids=[]
 | n+1,e=>SA e.Index/\SC e.Read/\e.Kids.length<=10/\∀k∈e.Kids,SE n k
def VO(e:zF):Prop:=(e.Kind=1/\I64 e.Num)∨(e.Kind=2/\VA e.Index)∨(e.Kind=3/\VC e.Read)
def VE:Nat->zF->Prop
 | 0,e=>VO e
 | n+1,e=>VO e∨((e.Kind=4∨e.Kind=5∨e.Kind=6)/\e.Kids.length=2/\∀k∈e.Kids,VE n k)
def SS(s:zQ):Prop:=SC s.Write/\SE 5 s.Value
def VS(s:zQ):Prop:=VC s.Write/\VE 5 s.Value
def LL(l:List zA):Prop:=l.length<=100/\∀a∈l,SA a
def VL(l:List zA):Prop:=1<=l.length/\l.length<=2/\∀a∈l,VA a
def SL1(x:zE):Prop:=LL x.Lo/\LL x.Hi
def VL1(x:zE):Prop:=VL x.Lo/\VL x.Hi
def SN(b:Nat)(l:List zE):Prop:=l.length<=b/\∀x∈l,SL1 x
def VN(l:List zE):Prop:=l.length<=4/\∀x∈l,VL1 x
def SP(b:Nat)(p:zN):Prop:=SN b p.Nest/\p.Body.length<=b/\∀s∈p.Body,SS s
def VP(p:zN):Prop:=VN p.Nest/\p.Body.length<=4/\∀s∈p.Body,VS s
def SR(a:zG):Prop:=a.Name.l.length<=1000000/\a.Dims.length<=100
def VR(a:zG):Prop:=a.Name.l.length=1/\a.Dims.length<=2/\∀d∈a.Dims,I64 d
def SRs(b:Nat)(l:List zG):Prop:=l.length<=b/\∀a∈l,SR a
def VRs(l:List zG):Prop:=l.length<=4/\∀a∈l,VR a
def SG(b:Nat)(p:zD):Prop:=SRs b p.Arrays/\p.Parts.length<=b/\∀q∈p.Parts,SP b q
def VG(p:zD):Prop:=VRs p.Arrays/\p.Parts.length<=4/\∀q∈p.Parts,VP q
instance (a:zA):Su (SA a) (a.Coefs.length<=100/\I64 a.Const):=⟨id⟩
instance (a:zA):Su (VA a) (a.Coefs.length=4/\(∀c∈a.Coefs,I64 c)/\I64 a.Const):=⟨id⟩
instance (a:zI):Su (SC a) (a.Array.l.length<=1000000/\a.Subs.length<=100/\∀s∈a.Subs,SA s):=⟨id⟩
instance (a:zI):Su (VC a) (a.Array.l.length<=1/\a.Subs.length<=2/\∀s∈a.Subs,VA s):=⟨id⟩
instance (s:zQ):Su (SS s) (SC s.Write/\SE 5 s.Value):=⟨id⟩
instance (s:zQ):Su (VS s) (VC s.Write/\VE 5 s.Value):=⟨id⟩
instance (l:List zA):Su (LL l) (l.length<=100/\∀a∈l,SA a):=⟨id⟩
instance (l:List zA):Su (VL l) (1<=l.length/\l.length<=2/\∀a∈l,VA a):=⟨id⟩
instance (x:zE):Su (SL1 x) (LL x.Lo/\LL x.Hi):=⟨id⟩
instance (x:zE):Su (VL1 x) (VL x.Lo/\VL x.Hi):=⟨id⟩
instance (b:Nat) (l:List zE):Su (SN b l) (l.length<=b/\∀x∈l,SL1 x):=⟨id⟩
instance (l:List zE):Su (VN l) (l.length<=4/\∀x∈l,VL1 x):=⟨id⟩
instance (b:Nat) (p:zN):Su (SP b p) (SN b p.Nest/\p.Body.length<=b/\∀s∈p.Body,SS s):=⟨id⟩
instance (p:zN):Su (VP p) (VN p.Nest/\p.Body.length<=4/\∀s∈p.Body,VS s):=⟨id⟩
instance (a:zG):Su (SR a) (a.Name.l.length<=1000000/\a.Dims.length<=100):=⟨id⟩
instance (a:zG):Su (VR a) (a.Name.l.length=1/\a.Dims.length<=2/\∀d∈a.Dims,I64 d):=⟨id⟩
instance (b:Nat) (l:List zG):Su (SRs b l) (l.length<=b/\∀a∈l,SR a):=⟨id⟩
instance (l:List zG):Su (VRs l) (l.length<=4/\∀a∈l,VR a):=⟨id⟩
instance (b:Nat) (p:zD):Su (SG b p) (SRs b p.Arrays/\p.Parts.length<=b/\∀q∈p.Parts,SP b q):=⟨id⟩
instance (p:zD):Su (VG p) (VRs p.Arrays/\p.Parts.length<=4/\∀q∈p.Parts,VP q):=⟨id⟩
instance (x:Int):Su (I64 x) (-9223372036854775808<=x/\x<=9223372036854775807):=⟨id⟩
instance (x:zE):Sw (LL x.Lo) (SL1 x):=⟨And.left⟩
instance (x:zE):Sw (LL x.Hi) (SL1 x):=⟨And.right⟩
instance (s:zQ):Sw (SC s.Write) (SS s):=⟨And.left⟩
instance (s:zQ):Sw (SE 5 s.Value) (SS s):=⟨And.right⟩
theorem SE.parts:∀{n:Nat}{e:zF},SE n e->SA e.Index/\SC e.Read/\e.Kids.length<=10
 | 0,e,h=>⟨h.1,h.2.1,by rw[h.2.2];simp⟩
 | n+1,e,h=>⟨h.1,h.2.1,h.2.2.1⟩
theorem SE.succ:∀{n:Nat}{e:zF},SE n e->SE (n+1) e
 | 0,e,h=>⟨h.1,h.2.1,by rw[h.2.2];simp,by rw[h.2.2];simp⟩
 | n+1,e,h=>⟨h.1,h.2.1,h.2.2.1,λk hk=>(h.2.2.2 k hk).succ⟩
theorem SE.leaf{e:zF}(h1:SA e.Index)(h2:SC e.Read)(h3:e.Kids=[]):∀{n:Nat},SE n e
 | 0=>⟨h1,h2,h3⟩
 | n+1=>⟨h1,h2,by rw[h3];simp,by rw[h3];simp⟩
theorem SA.nil{c:Int}(h:I64 c):SA (zA.mk [] c):=⟨by simp,h⟩
theorem SA.nil0:SA (zA.mk [] 0):=⟨by simp,by simp[I64]⟩
theorem SC.nil:SC (zI.mk ⟨[]⟩ []):=by simp[SC]
instance:Sd (SA (zA.mk [] 0)):=⟨SA.nil0⟩
instance:Sd (SC (zI.mk ⟨[]⟩ [])):=⟨SC.nil⟩
theorem zFO(x:zG)(h0:SR x):∀(k:Nat) (i:Int),Tot (vC x i) ((x.Dims.length:Int) - i<(k:Int)/\0<(k:Int)/\0<=i) (λφ=>(AF x.Dims i I64->φ (.done ()))/\(φ (.ret false))):=by
 have h0:=h0.2;intro k
 induction k with
 | zero=>intro i;exact⟨λh=>absurd h.2.1 (by omega)⟩
 | succ k ih=>
  intro i;refine⟨?_⟩;rintro⟨v0,v1,v2⟩ φ ⟨hd,hr⟩;unfold vC;exact Ok.go
instance zKn(x:zG)(i:Int):Tot (vC x i) (SR x/\0<=i) (λφ=>(AF x.Dims i I64->φ (.done ()))/\(φ (.ret false))):=⟨by
 rintro⟨h0,v0⟩ φ hk
 exact(zFO x h0 (((x.Dims.length:Int) - i).toNat+1) i).ok ⟨by omega,by omega,v0⟩ φ hk⟩
theorem zFP(l:List zG)(h0:SRs 1000 l):∀(k:Nat) (i:Int),Tot (vW l i) ((l.length:Int) - i<(k:Int)/\0<(k:Int)/\0<=i) (λφ=>(AF l i VR->φ (.done ()))/\(φ (.ret false))):=by
 obtain⟨h00,h01⟩:=h0;intro k
 induction k with
 | zero=>intro i;exact⟨λh=>absurd h.2.1 (by omega)⟩
 | succ k ih=>
  intro i;refine⟨?_⟩;rintro⟨v0,v1,v2⟩ φ ⟨hd,hr⟩;unfold vW;exact Ok.go
instance zKo(l:List zG)(i:Int):Tot (vW l i) (SRs 1000 l/\0<=i) (λφ=>(AF l i VR->φ (.done ()))/\(φ (.ret false))):=⟨by
 rintro⟨h0,v0⟩ φ hk
 exact(zFP l h0 (((l.length:Int) - i).toNat+1) i).ok ⟨by omega,by omega,v0⟩ φ hk⟩
instance zMV(l:List zG):Tot (oU l) (SRs 1000 l) (λφ=>∀r,(r=true->VRs l)->φ r):=⟨by
 rintro h0 φ hk
 unfold oU
 exact Ok.go⟩
instance zK0(a:zA):Tot (tL a) (SA a) (λφ=>∀r,SA r->r.Coefs.length=a.Coefs.length->φ r):=⟨by
 rintro h0 φ hk
 obtain⟨h00,h01⟩:=h0
 unfold tL
 exact Ok.go⟩
theorem zCZ(a:zI)(h0:SC a):∀(k:Nat) (i:Int) (Subs:List zA),Tot (wA a i Subs) ((a.Subs.length:Int) - i<(k:Int)/\0<(k:Int)/\0<=i/\(Subs.length:Int)=i/\i<=a.Subs.length/\(∀s∈Subs,SA s)) (λφ=>∀r,r.length<=100->(∀s∈r,SA s)->φ r):=by
 obtain⟨h01,h02,h03⟩:=h0;intro k
 induction k with
 | zero=>intro i Subs;exact⟨λh=>absurd h.2.1 (by omega)⟩
 | succ k ih=>
  intro i Subs;refine⟨?_⟩;rintro⟨v0,v1,v2,v3,v4,v5⟩ φ hk;unfold wA;exact Ok.go
instance zJG(a:zI)(i:Int)(Subs:List zA):Tot (wA a i Subs) (SC a/\0<=i/\(Subs.length:Int)=i/\i<=a.Subs.length/\(∀s∈Subs,SA s)) (λφ=>∀r,r.length<=100->(∀s∈r,SA s)->φ r):=⟨by
 rintro⟨h0,v0,v1,v2,v3⟩ φ hk
 exact(zCZ a h0 (((a.Subs.length:Int) - i).toNat+1) i Subs).ok ⟨by omega,by omega,v0,v1,v2,v3⟩ φ hk⟩
instance zK1(a:zI):Tot (uD a) (SC a) (λφ=>∀r,SC r->φ r):=⟨by
 rintro h0 φ hk
 have h00:=h0.1
 unfold uD
 exact Ok.go⟩
def RN:Nat->Nat
 | 0=>1
 | n+1=>10*RN n+1
theorem zI6:∀(n:Nat) (out:List zI) (e:zF),Tot (tZ out e) (SE n e/\out.length+RN n<=10000000/\∀s∈out,SC s) (λφ=>∀r,r.length<=out.length+RN n->(∀s∈r,SC s)->φ r):=by
 intro n
 induction n with
 | zero=>
  intro out e;refine⟨?_⟩;rintro⟨⟨h1,h2,h3⟩,ho,hs⟩ φ hk;unfold tZ;dsimp only [same];simp only[RN] at ho hk;have hl:∀o:List zI,Tot (wF e o 0) True (λφ=>φ o):=by
   intro o;refine⟨?_⟩;rintro - φ hk;unfold wF;rw[h3];exact Ok.pure hk
  exact Ok.go
 | succ n ih=>
  intro out e;refine⟨?_⟩;rintro⟨⟨h1,h2,h3,h4⟩,ho,hs⟩ φ hk;unfold tZ;dsimp only [same];simp only[RN] at ho hk;have hl:∀(k:Nat) (i:Int) (o:List zI),Tot (wF e o i) (((e.Kids.length:Int) - i<=k/\0<=i/\k<=10)/\o.length+k*RN n<=10000000/\∀s∈o,SC s) (λφ=>∀r,r.length<=o.length+k*RN n->(∀s∈r,SC s)->φ r):=by
   intro k
   induction k with
   | zero=>
    intro i o;refine⟨?_⟩;rintro⟨⟨a1,a2,a3⟩,a4,a5⟩ φ hk;unfold wF;dsimp only [same];exact Ok.go
   | succ k ik=>
    intro i o;refine⟨?_⟩;rintro⟨⟨a1,a2,a3⟩,a4,a5⟩ φ hk;unfold wF;dsimp only [same];have e1:(k+1)*RN n=k*RN n+RN n:=by rw[en,Nat.one_mul]
    rw[e1] at a4 hk;exact Ok.go
  have hl:=hl 10 0;exact Ok.go
instance zMp(e:zF):Tot (tZ [] e) (SE 5 e) (λφ=>∀r,r.length<=111111->(∀s∈r,SC s)->φ r):=⟨λh φ hk=>(zI6 5 [] e).ok ⟨h,by decide,S⟩ φ λr h1 h2=>hk r (by simp[RN] at h1;omega) h2⟩
theorem zGj(a:zG)(h0:SR a):∀(k:Nat) (n:Int) (i:Int),Tot (tJ a n i) ((a.Dims.length:Int) - i<(k:Int)/\0<(k:Int)/\0<=i) (λφ=>∀r,φ r):=by
 have h0:=h0.2;intro k
 induction k with
 | zero=>intro n i;exact⟨λh=>absurd h.2.1 (by omega)⟩
 | succ k ih=>
  intro n i;refine⟨?_⟩;rintro⟨v0,v1,v2⟩ φ hk;unfold tJ;exact Ok.go
instance zLu(a:zG)(n:Int)(i:Int):Tot (tJ a n i) (SR a/\0<=i) (λφ=>∀r,φ r):=⟨by
 rintro⟨h0,v0⟩ φ hk
 exact(zGj a h0 (((a.Dims.length:Int) - i).toNat+1) n i).ok ⟨by omega,by omega,v0⟩ φ hk⟩
instance zNQ(a:zG):Tot (mS a) (SR a) (λφ=>∀r,φ r):=⟨by
 rintro h0 φ hk
 unfold mS
 exact Ok.go⟩
theorem zGk(a:zA)(ag:List Int)(h0:SA a):∀(k:Nat) (n:Int) (i:Int),Tot (tH a ag n i) ((a.Coefs.length:Int) - i<(k:Int)/\0<(k:Int)/\I64 n/\0<=i) (λφ=>∀r,I64 r->φ r):=by
 have h0:=h0.1;intro k
 induction k with
 | zero=>intro n i;exact⟨λh=>absurd h.2.1 (by omega)⟩
 | succ k ih=>
  intro n i;refine⟨?_⟩;rintro⟨v0,v1,v2,v3⟩ φ hk;unfold tH;exact Ok.go
instance zLv(a:zA)(ag:List Int)(n:Int)(i:Int):Tot (tH a ag n i) (SA a/\I64 n/\0<=i) (λφ=>∀r,I64 r->φ r):=⟨by
 rintro⟨h0,v0,v1⟩ φ hk
 exact(zGk a ag h0 (((a.Coefs.length:Int) - i).toNat+1) n i).ok ⟨by omega,by omega,v0,v1⟩ φ hk⟩
instance zNR(a:zA)(ag:List Int):Tot (rD a ag) (SA a) (λφ=>∀r,I64 r->φ r):=⟨by
 rintro h0 φ hk
 have h1:=h0.2
 unfold rD
 exact Ok.go⟩
theorem zGl(list:List zG)(a:zI)(ag:List Int)(i:Int)(h0:SC a)(h1:0<=i)(h2:i<(list.length:Int)):∀(k:Nat) (n:Int) (k0:Int),Tot (uK list a ag i n k0) ((a.Subs.length:Int) - k0<(k:Int)/\0<(k:Int)/\0<=k0) (λφ=>(∀r,φ (.done r))/\(∀r,φ (.ret r))):=by
 obtain⟨h01,h02,h03⟩:=h0;intro k
 induction k with
 | zero=>intro n k0;exact⟨λh=>absurd h.2.1 (by omega)⟩
 | succ k ih=>
  intro n k0;refine⟨?_⟩;rintro⟨v0,v1,v2⟩ φ ⟨hd,hr⟩;unfold uK;exact Ok.go
instance zLw(list:List zG)(a:zI)(ag:List Int)(i:Int)(n:Int)(k0:Int):Tot (uK list a ag i n k0) (SC a/\0<=i/\i<(list.length:Int)/\0<=k0) (λφ=>(∀r,φ (.done r))/\(∀r,φ (.ret r))):=⟨by
 rintro⟨h0,h1,h2,v0⟩ φ hk
 exact(zGl list a ag i h0 h1 h2 (((a.Subs.length:Int) - k0).toNat+1) n k0).ok ⟨by omega,by omega,v0⟩ φ hk⟩
theorem zGm(list:List zG)(a:zI)(ag:List Int)(h0:SC a)(h1:SRs 1000 list):∀(k:Nat) (base:Int) (i:Int),Tot (uL list a ag base i) ((list.length:Int) - i<(k:Int)/\0<(k:Int)/\0<=i) (λφ=>(φ (.done ()))/\(∀r,φ (.ret r))):=by
 obtain⟨h10,h11⟩:=h1;intro k
 induction k with
 | zero=>intro base i;exact⟨λh=>absurd h.2.1 (by omega)⟩
 | succ k ih=>
  intro base i;refine⟨?_⟩;rintro⟨v0,v1,v2⟩ φ ⟨hd,hr⟩;unfold uL;exact Ok.go
instance zLx(list:List zG)(a:zI)(ag:List Int)(base:Int)(i:Int):Tot (uL list a ag base i) (SC a/\SRs 1000 list/\0<=i) (λφ=>(φ (.done ()))/\(∀r,φ (.ret r))):=⟨by
 rintro⟨h0,h1,v0⟩ φ hk
 exact(zGm list a ag h0 h1 (((list.length:Int) - i).toNat+1) base i).ok ⟨by omega,by omega,v0⟩ φ hk⟩
instance zNS(list:List zG)(a:zI)(ag:List Int):Tot (nJ list a ag) (SC a/\SRs 1000 list) (λφ=>∀r,φ r):=⟨by
 rintro⟨h0,h1⟩ φ hk
 unfold nJ
 exact Ok.go⟩
theorem zGK(list:List zG)(ag:List Int)(y:List zI)(h0:y.length<=111111)(h1:∀s∈y,SC s)(h2:SRs 1000 list):∀(k:Nat) (out:List Int) (i:Int),Tot (uS list ag y out i) ((y.length:Int) - i<(k:Int)/\0<(k:Int)/\0<=i/\(out.length:Int)=i/\i<=(y.length:Int)) (λφ=>(∀o,o.length<=111111->φ (.done o))/\(φ (.ret ([],0,false)))):=by
 intro k
 induction k with
 | zero=>intro out i;exact⟨λh=>absurd h.2.1 (by omega)⟩
 | succ k ih=>
  intro out i;refine⟨?_⟩;rintro⟨v0,v1,v2,v3,v4⟩ φ ⟨hd,hr⟩;unfold uS;exact Ok.go
instance zL1(list:List zG)(ag:List Int)(y:List zI)(out:List Int)(i:Int):Tot (uS list ag y out i) (y.length<=111111/\(∀s∈y,SC s)/\SRs 1000 list/\0<=i/\(out.length:Int)=i/\i<=(y.length:Int)) (λφ=>(∀o,o.length<=111111->φ (.done o))/\(φ (.ret ([],0,false)))):=⟨by
 rintro⟨h0,h1,h2,v0,v1,v2⟩ φ hk
 exact(zGK list ag y h0 h1 h2 (((y.length:Int) - i).toNat+1) out i).ok ⟨by omega,by omega,v0,v1,v2⟩ φ hk⟩
instance zMq(list:List zG)(s:zQ)(ag:List Int):Tot (oJ list s ag) (SS s/\SRs 1000 list) (λφ=>∀a b c,a.length<=111111->φ (a,b,c)):=⟨by
 rintro⟨h0,h1⟩ φ hk
 obtain⟨h00,h01⟩:=h0
 unfold oJ
 exact Ok.go⟩
theorem zGL(loop:zE)(p2:List Int)(h0:LL loop.Lo):∀(k:Nat) (lo:Int) (i:Int),Tot (uP loop p2 lo i) ((loop.Lo.length:Int) - i<(k:Int)/\0<(k:Int)/\I64 lo/\0<=i) (λφ=>∀r,I64 r->φ r):=by
 obtain⟨h00,h01⟩:=h0;intro k
 induction k with
 | zero=>intro lo i;exact⟨λh=>absurd h.2.1 (by omega)⟩
 | succ k ih=>
  intro lo i;refine⟨?_⟩;rintro⟨v0,v1,v2,v3⟩ φ hk;unfold uP;exact Ok.go
instance zL2(loop:zE)(p2:List Int)(lo:Int)(i:Int):Tot (uP loop p2 lo i) (LL loop.Lo/\I64 lo/\0<=i) (λφ=>∀r,I64 r->φ r):=⟨by
 rintro⟨h0,v0,v1⟩ φ hk
 exact(zGL loop p2 h0 (((loop.Lo.length:Int) - i).toNat+1) lo i).ok ⟨by omega,by omega,v0,v1⟩ φ hk⟩
theorem zGM(loop:zE)(p2:List Int)(h0:LL loop.Hi):∀(k:Nat) (hi:Int) (i:Int),Tot (uQ loop p2 hi i) ((loop.Hi.length:Int) - i<(k:Int)/\0<(k:Int)/\I64 hi/\0<=i) (λφ=>∀r,I64 r->φ r):=by
 obtain⟨h00,h01⟩:=h0;intro k
 induction k with
 | zero=>intro hi i;exact⟨λh=>absurd h.2.1 (by omega)⟩
 | succ k ih=>
  intro hi i;refine⟨?_⟩;rintro⟨v0,v1,v2,v3⟩ φ hk;unfold uQ;exact Ok.go
instance zL3(loop:zE)(p2:List Int)(hi:Int)(i:Int):Tot (uQ loop p2 hi i) (LL loop.Hi/\I64 hi/\0<=i) (λφ=>∀r,I64 r->φ r):=⟨by
 rintro⟨h0,v0,v1⟩ φ hk
 exact(zGM loop p2 h0 (((loop.Hi.length:Int) - i).toNat+1) hi i).ok ⟨by omega,by omega,v0,v1⟩ φ hk⟩
instance zEo(loop:zE)(p2:List Int):Tot (oI loop p2) (SL1 loop/\1<=loop.Lo.length/\1<=loop.Hi.length) (λφ=>∀a b,I64 a->I64 b->φ (a,b)):=⟨by
 rintro⟨h0,h1,h2⟩ φ hk
 have h00:=h0;obtain⟨⟨h01,h02⟩,⟨h03,h04⟩⟩:=h0
 unfold oI
 exact Ok.go⟩
instance zMW(n:Int)(most:Int):Tot (vJ n most) (0<=most/\most<=1000000) (λφ=>∀r,(r=true->I64 n)->φ r):=⟨by
 rintro⟨h0,h1⟩ φ hk
 unfold vJ
 exact Ok.go⟩
theorem zDE(a:zA)(h0:SA a):∀(k:Nat) (i:Int),Tot (wH a i) ((a.Coefs.length:Int) - i<(k:Int)/\0<(k:Int)/\0<=i) (λφ=>(AF a.Coefs i I64->φ (.done ()))/\(φ (.ret false))):=by
 have h01:=h0.1;intro k
 induction k with
 | zero=>intro i;exact⟨λh=>absurd h.2.1 (by omega)⟩
 | succ k ih=>
  intro i;refine⟨?_⟩;rintro⟨v0,v1,v2⟩ φ ⟨hd,hr⟩;unfold wH;exact Ok.go
instance zJX(a:zA)(i:Int):Tot (wH a i) (SA a/\0<=i) (λφ=>(AF a.Coefs i I64->φ (.done ()))/\(φ (.ret false))):=⟨by
 rintro⟨h0,v0⟩ φ hk
 exact(zDE a h0 (((a.Coefs.length:Int) - i).toNat+1) i).ok ⟨by omega,by omega,v0⟩ φ hk⟩
instance zFQ(a:zA):Tot (vX a) (SA a) (λφ=>∀r,(r=true->VA a)->φ r):=⟨by
 rintro h0 φ hk
 have h00:=h0.2
 unfold vX
 exact Ok.go⟩
theorem zGN(a:zA)(h0:SA a):∀(k:Nat) (n:Int) (i:Int),Tot (uR a n i) ((a.Coefs.length:Int) - i<(k:Int)/\0<(k:Int)/\0<=i) (λφ=>∀r,φ r):=by
 have h01:=h0.1;intro k
 induction k with
 | zero=>intro n i;exact⟨λh=>absurd h.2.1 (by omega)⟩
 | succ k ih=>
  intro n i;refine⟨?_⟩;rintro⟨v0,v1,v2⟩ φ hk;unfold uR;exact Ok.go
instance zL4(a:zA)(n:Int)(i:Int):Tot (uR a n i) (SA a/\0<=i) (λφ=>∀r,φ r):=⟨by
 rintro⟨h0,v0⟩ φ hk
 exact(zGN a h0 (((a.Coefs.length:Int) - i).toNat+1) n i).ok ⟨by omega,by omega,v0⟩ φ hk⟩
instance zMr(a:zA):Tot (qH a) (SA a) (λφ=>∀r,φ r):=⟨by
 rintro h0 φ hk
 unfold qH
 exact Ok.go⟩
theorem zGn(list:List zA)(aa:Int)(h0:LL list):∀(k:Nat) (i:Int),Tot (tI list aa i) ((list.length:Int) - i<(k:Int)/\0<(k:Int)/\0<=i) (λφ=>(AF list i VA->φ (.done ()))/\(φ (.ret false))):=by
 obtain⟨h01,h02⟩:=h0;intro k
 induction k with
 | zero=>intro i;exact⟨λh=>absurd h.2.1 (by omega)⟩
 | succ k ih=>
  intro i;refine⟨?_⟩;rintro⟨v0,v1,v2⟩ φ ⟨hd,hr⟩;unfold tI;exact Ok.go
instance zLy(list:List zA)(aa:Int)(i:Int):Tot (tI list aa i) (LL list/\0<=i) (λφ=>(AF list i VA->φ (.done ()))/\(φ (.ret false))):=⟨by
 rintro⟨h0,v0⟩ φ hk
 exact(zGn list aa h0 (((list.length:Int) - i).toNat+1) i).ok ⟨by omega,by omega,v0⟩ φ hk⟩
instance zNT(list:List zA)(aa:Int):Tot (nI list aa) (LL list) (λφ=>∀r,(r=true->VL list)->φ r):=⟨by
 rintro h0 φ hk
 unfold nI
 exact Ok.go⟩
theorem zEh(nest:List zE)(h0:SN 1000 nest):∀(k:Nat) (i:Int),Tot (wN nest i) ((nest.length:Int) - i<(k:Int)/\0<(k:Int)/\0<=i) (λφ=>(((nest.length:Int)<=4->AF nest i VL1)->φ (.done ()))/\(φ (.ret false))):=by
 obtain⟨h00,h01⟩:=h0;intro k
 induction k with
 | zero=>intro i;exact⟨λh=>absurd h.2.1 (by omega)⟩
 | succ k ih=>
  intro i;refine⟨?_⟩;rintro⟨v0,v1,v2⟩ φ ⟨hd,hr⟩;unfold wN;exact Ok.go
instance zK2(nest:List zE)(i:Int):Tot (wN nest i) (SN 1000 nest/\0<=i) (λφ=>(((nest.length:Int)<=4->AF nest i VL1)->φ (.done ()))/\(φ (.ret false))):=⟨by
 rintro⟨h0,v0⟩ φ hk
 exact(zEh nest h0 (((nest.length:Int) - i).toNat+1) i).ok ⟨by omega,by omega,v0⟩ φ hk⟩
instance zLz(nest:List zE):Tot (pF nest) (SN 1000 nest) (λφ=>∀r,(r=true->VN nest)->φ r):=⟨by
 rintro h0 φ hk
 unfold pF
 exact Ok.go⟩
theorem VN.get{nest:List zE}{x:zE}(h:VN nest)(hx:x∈nest):1<=x.Lo.length/\1<=x.Hi.length:=⟨(h.2 x hx).1.1,(h.2 x hx).2.1⟩
theorem zHk(nest:List zE)(hn:SN 1000 nest)(hv:VN nest):∀(d:Nat) (o:List (List Int)) (p2:List Int),Tot (vH o nest p2) (p2.length+d=nest.length/\o.length<=120/\(∀q∈o,q.length<=4)) (λφ=>∀r,r.length<=121->(∀q∈r,q.length<=4)->φ r):=by
 obtain⟨hn1,hn2⟩:=hn;have hv1:=hv.1;intro d
 induction d with
 | zero=>
  intro o p2;refine⟨?_⟩;rintro⟨hp,ho,hq⟩ φ hk;unfold vH;dsimp only [same];exact Ok.ite_beq (λh=>Ok.go) λh=>absurd h (by omega)
 | succ d ih=>
  intro o p2;refine⟨?_⟩;rintro⟨hp,ho,hq⟩ φ hk;unfold vH;dsimp only [same];have hloop:∀(y2:Int) (k:Nat) (v:Int) (o:List (List Int)),Tot (tC nest p2 y2 o v) ((y2 - v<=k/\I64 v/\I64 y2/\o.length<=121)/\(∀q∈o,q.length<=4)) (λφ=>∀r,r.length<=121->(∀q∈r,q.length<=4)->φ r):=by
   intro y2 k
   induction k with
   | zero=>intro v o;refine⟨?_⟩;rintro⟨⟨a1,⟨a2,a5⟩,⟨a6,a7⟩,a3⟩,a4⟩ φ hk;unfold tC;dsimp only [same];exact Ok.go
   | succ k ik=>
    intro v o;refine⟨?_⟩;rintro⟨⟨a1,⟨a2,a5⟩,⟨a6,a7⟩,a3⟩,a4⟩ φ hk;unfold tC;dsimp only [same];exact Ok.go
  refine Ok.ite_beq (λh=>absurd h (by omega)) λh=>Ok.idx (by omega) (by omega) λx hx _=>?_;obtain⟨g1,g2⟩:=VN.get hv hx;refine Ok.call (zEo x p2) ⟨hn2 x hx,g1,g2⟩ ?_;intro a b ha hb;have hloop:=hloop b (b - a).toNat;exact Ok.go
instance zMX(nest:List zE):Tot (vH [] nest []) (SN 1000 nest/\VN nest) (λφ=>∀r,r.length<=121->(∀q∈r,q.length<=4)->φ r):=⟨λ⟨h,hv⟩ φ hk=>(zHk nest h hv nest.length [] []).ok ⟨by simp,by simp,by simp⟩ φ hk⟩
theorem zJY(nest:List zE)(hn:SN 1000 nest)(hv:VN nest):∀(d:Nat) (p2:List Int) (most:Int),Tot (sH nest p2 most) (p2.length+d=nest.length) (λφ=>∀r,φ r):=by
 obtain⟨hn1,hn2⟩:=hn;have hv1:=hv.1;intro d
 induction d with
 | zero=>
  intro p2 most;refine⟨?_⟩;rintro hp φ hk;unfold sH;dsimp only [same];exact Ok.ite_beq (λh=>Ok.go) λh=>absurd h (by omega)
 | succ d ih=>
  intro p2 most;refine⟨?_⟩;rintro hp φ hk;unfold sH;dsimp only [same];have hloop:∀(y2:Int) (k:Nat) (n v:Int),Tot (sN nest p2 most y2 n v) (y2 - v<=k/\I64 v/\I64 y2) (λφ=>∀r,φ r):=by
   intro y2 k
   induction k with
   | zero=>intro n v;refine⟨?_⟩;rintro⟨a1,⟨a2,a5⟩,⟨a6,a7⟩⟩ φ hk;unfold sN;dsimp only [same];exact Ok.go
   | succ k ik=>
    intro n v;refine⟨?_⟩;rintro⟨a1,⟨a2,a5⟩,⟨a6,a7⟩⟩ φ hk;unfold sN;dsimp only [same];exact Ok.go
  refine Ok.ite_beq (λh=>absurd h (by omega)) λh=>Ok.idx (by omega) (by omega) λx hx _=>?_;obtain⟨g1,g2⟩:=VN.get hv hx;refine Ok.call (zEo x p2) ⟨hn2 x hx,g1,g2⟩ ?_;intro a b ha hb;have hloop:=hloop b (b - a).toNat;exact Ok.go
instance zNU(nest:List zE)(most:Int):Tot (sH nest [] most) (SN 1000 nest/\VN nest) (λφ=>∀r,φ r):=⟨λ⟨h,hv⟩ φ hk=>(zJY nest h hv nest.length [] most).ok (by simp) φ hk⟩
instance zL5(nest:List zE):Tot (qI nest) (SN 1000 nest) (λφ=>∀a b,a.length<=120->(∀q∈a,q.length<=4)->(b=true->VN nest)->φ (a,b)):=⟨by
 rintro h0 φ hk
 unfold qI
 exact Ok.go⟩
theorem zFR(a:zI)(aa:Int)(h0:SC a):∀(k:Nat) (i:Int),Tot (vZ a aa i) ((a.Subs.length:Int) - i<(k:Int)/\0<(k:Int)/\0<=i) (λφ=>(AF a.Subs i VA->φ (.done ()))/\(φ (.ret false))):=by
 obtain⟨h01,h02,h03⟩:=h0;intro k
 induction k with
 | zero=>intro i;exact⟨λh=>absurd h.2.1 (by omega)⟩
 | succ k ih=>
  intro i;refine⟨?_⟩;rintro⟨v0,v1,v2⟩ φ ⟨hd,hr⟩;unfold vZ;exact Ok.go
instance zKp(a:zI)(aa:Int)(i:Int):Tot (vZ a aa i) (SC a/\0<=i) (λφ=>(AF a.Subs i VA->φ (.done ()))/\(φ (.ret false))):=⟨by
 rintro⟨h0,v0⟩ φ hk
 exact(zFR a aa h0 (((a.Subs.length:Int) - i).toNat+1) i).ok ⟨by omega,by omega,v0⟩ φ hk⟩
instance zMY(a:zI)(aa:Int):Tot (qW a aa) (SC a) (λφ=>∀r,(r=true->VC a)->φ r):=⟨by
 rintro h0 φ hk
 unfold qW
 exact Ok.go⟩
instance zGO(kind:Int):Tot (mR kind) (True) (λφ=>∀r,(r=0/\(kind=1∨kind=2∨kind=3))∨(r=2/\(kind=4∨kind=5∨kind=6))∨r=-1->φ r):=⟨by
 rintro _ φ hk
 unfold mR
 exact Ok.go⟩
instance zMs(a:zI):Tot (qJ a) (True) (λφ=>∀r:Bool,φ r):=⟨by
 rintro _ φ hk
 unfold qJ
 exact Ok.go⟩
instance zNV(a:zA):Tot (oF a) (True) (λφ=>∀r:Bool,φ r):=⟨by
 rintro _ φ hk
 unfold oF
 exact Ok.go⟩
instance zHR(e:zF)(aa:Int):Tot (kX e aa) (SA e.Index/\SC e.Read) (λφ=>∀r,(r=true->e.Kind=1->I64 e.Num)->(r=true->e.Kind=2->VA e.Index)->(r=true->e.Kind=3->VC e.Read)->φ r):=⟨by
 rintro⟨h0,h1⟩ φ hk
 unfold kX
 exact Ok.go⟩
theorem zI7:∀(n:Nat) (e:zF) (aa ai:Int),Tot (tG e aa ai) (SE n e/\ai<=100) (λφ=>∀r,(r=true->VE n e)->φ r):=by
 intro n
 induction n with
 | zero=>
  intro e aa ai;refine⟨?_⟩;rintro⟨⟨h1,h2,h3⟩,hlv⟩ φ hk;have hl:∀lv,Tot (vM e aa lv 0) True (λφ=>φ (.done ())):=by
   intro lv;refine⟨?_⟩;rintro - φ hk;unfold vM;rw[h3];exact Ok.pure hk
  have aG:e.Kids.length=0:=by rw[h3];rfl
  unfold tG;dsimp only [same];refine Ok.bind (φ:=λb=>b=false->VO e) ?_ ?_
  ·refine Ok.ite_dec (λh=>Ok.pure λh=>by cases h) λh=>Ok.call (zGO _) trivial ?_;intro r hr;refine Ok.ite_bne (λh=>Ok.pure λh=>by cases h) λh=>Ok.call (zHR e aa) ⟨h1,h2⟩ ?_;intro b b1 b2 b3;refine Ok.pure λhb=>?_;have hb:b=true:=by simpa using hb
   have:e.Kind=1∨e.Kind=2∨e.Kind=3:=by omega
   rcases this with h|h|h
   ·exact .inl ⟨h,b1 hb h⟩
   ·exact .inr (.inl ⟨h,b2 hb h⟩)
   ·exact .inr (.inr ⟨h,b3 hb h⟩)
  ·intro b hb;refine Ok.ite (λ_=>Ok.pure (hk _ λh=>by cases h)) λhz=>?_;have hz:VO e:=hb (by simpa using hz);exact Ok.go
 | succ n ih=>
  intro e aa ai;refine⟨?_⟩;rintro⟨⟨h1,h2,h3,h4⟩,hlv⟩ φ hk;unfold tG;dsimp only [same];refine Ok.bind (φ:=λb=>b=false->1<=ai/\(VO e∨((e.Kind=4∨e.Kind=5∨e.Kind=6)/\e.Kids.length=2))) ?_ ?_
  ·refine Ok.ite_dec (λh=>Ok.pure λh=>by cases h) λh=>Ok.call (zGO _) trivial ?_;intro r hr;refine Ok.ite_bne (λh=>Ok.pure λh=>by cases h) λh=>Ok.call (zHR e aa) ⟨h1,h2⟩ ?_;intro b b1 b2 b3;refine Ok.pure λhb=>⟨by omega,?_⟩;have hb:b=true:=by simpa using hb
   have:e.Kind=1∨e.Kind=2∨e.Kind=3∨((e.Kind=4∨e.Kind=5∨e.Kind=6)/\e.Kids.length=2):=by omega
   rcases this with h|h|h|h
   ·exact .inl (.inl ⟨h,b1 hb h⟩)
   ·exact .inl (.inr (.inl ⟨h,b2 hb h⟩))
   ·exact .inl (.inr (.inr ⟨h,b3 hb h⟩))
   ·exact .inr h
  ·intro b hb;refine Ok.ite (λ_=>Ok.pure (hk _ λh=>by cases h)) λhz=>?_;obtain⟨g1,g2⟩:=hb (by simpa using hz);have hl:∀(k:Nat) (i:Int),Tot (vM e aa ai i) ((e.Kids.length:Int) - i<=k/\0<=i) (λφ=>(AF e.Kids i (VE n)->φ (.done ()))/\φ (.ret false)):=by
    intro k
    induction k with
    | zero=>intro i;refine⟨?_⟩;rintro⟨a1,a2⟩ φ ⟨hd,hr⟩;unfold vM;dsimp only [same];exact Ok.go
    | succ k ik=>
     intro i;refine⟨?_⟩;rintro⟨a1,a2⟩ φ ⟨hd,hr⟩;unfold vM;dsimp only [same];exact Ok.go
   refine Ok.call (hl _ 0) ⟨Int.le_of_eq (Int.sub_zero _),by omega⟩ ⟨λhA=>Ok.pure (hk _ λ_=>?_),Ok.pure (hk _ λh=>by cases h)⟩;exact g2.elim .inl λg=>.inr ⟨g.1,g.2,AF.all hA⟩
instance zMZ(e:zF)(aa ai:Int):Tot (tG e aa ai) (SE 5 e/\ai<=100) (λφ=>∀r,(r=true->VE 5 e)->φ r):=zI7 5 e aa ai
theorem zI8:∀(n:Nat) (e:zF) (ai:Int),Tot (tY e ai) (SE n e/\ai<=100) (λφ=>∀r,φ r):=by
 intro n
 induction n with
 | zero=>
  intro e ai;refine⟨?_⟩;rintro⟨⟨h1,h2,h3⟩,hlv⟩ φ hk;unfold tY;dsimp only [same];unfold vO;have aG:e.Kids.length=0:=by rw[h3];rfl
  rw[aG];exact Ok.go
 | succ n ih=>
  intro e ai;refine⟨?_⟩;rintro⟨⟨h1,h2,h3,h4⟩,hlv⟩ φ hk;unfold tY;dsimp only [same];have hl:∀(k:Nat) (m i:Int),Tot (vO e ai m i) ((e.Kids.length:Int) - i<=k/\0<=i) (λφ=>∀r,φ r):=by
   intro k
   induction k with
   | zero=>intro m i;refine⟨?_⟩;rintro⟨a1,a2⟩ φ hk;unfold vO;dsimp only [same];exact Ok.go
   | succ k ik=>intro m i;refine⟨?_⟩;rintro⟨a1,a2⟩ φ hk;unfold vO;dsimp only [same];exact Ok.go
  have hl:=hl e.Kids.length;exact Ok.go
instance zM0(e:zF)(ai:Int):Tot (tY e ai) (SE 5 e/\ai<=100) (λφ=>∀r,φ r):=zI8 5 e ai
instance zC9(s:zQ)(aa:Int):Tot (sO s aa) (SS s) (λφ=>∀r,(r=true->VS s)->φ r):=⟨by
 rintro h0 φ hk
 unfold sO
 exact Ok.go⟩
theorem zGP(p:List Int)(h0:p.length<=4):∀(k:Nat) (i:Int),Tot (uT p i) ((p.length:Int) - i<(k:Int)/\0<(k:Int)/\0<=i) (λφ=>(φ (.done ()))/\(φ (.ret false))):=by
 intro k
 induction k with
 | zero=>intro i;exact⟨λh=>absurd h.2.1 (by omega)⟩
 | succ k ih=>
  intro i;refine⟨?_⟩;rintro⟨v0,v1,v2⟩ φ ⟨hd,hr⟩;unfold uT;exact Ok.go
instance zL6(p:List Int)(i:Int):Tot (uT p i) (p.length<=4/\0<=i) (λφ=>(φ (.done ()))/\(φ (.ret false))):=⟨by
 rintro⟨h0,v0⟩ φ hk
 exact(zGP p h0 (((p.length:Int) - i).toNat+1) i).ok ⟨by omega,by omega,v0⟩ φ hk⟩
instance zMt(p:List Int):Tot (nS p) (p.length<=4) (λφ=>∀r:Bool,φ r):=⟨by
 rintro h0 φ hk
 unfold nS
 exact Ok.go⟩
theorem zGo(list:List zG)(part:zN)(y1:List (List Int))(i:Int)(h0:SRs 1000 list)(h1:SP 1000 part)(h2:y1.length<=121)(h3:∀q∈y1,q.length<=4)(h4:0<=i)(h5:i<(part.Body.length:Int)):∀(k:Nat) (k0:Int),Tot (uM list part y1 i k0) ((y1.length:Int) - k0<(k:Int)/\0<(k:Int)/\0<=k0) (λφ=>(φ (.done ()))/\(φ (.ret (0,false)))):=by
 obtain⟨h11,h12,h13⟩:=h1;intro k
 induction k with
 | zero=>intro k0;exact⟨λh=>absurd h.2.1 (by omega)⟩
 | succ k ih=>
  intro k0;refine⟨?_⟩;rintro⟨v0,v1,v2⟩ φ ⟨hd,hr⟩;unfold uM;exact Ok.go
instance zMA(list:List zG)(part:zN)(y1:List (List Int))(i:Int)(k0:Int):Tot (uM list part y1 i k0) (SRs 1000 list/\SP 1000 part/\y1.length<=121/\(∀q∈y1,q.length<=4)/\0<=i/\i<(part.Body.length:Int)/\0<=k0) (λφ=>(φ (.done ()))/\(φ (.ret (0,false)))):=⟨by
 rintro⟨h0,h1,h2,h3,h4,h5,v0⟩ φ hk
 exact(zGo list part y1 i h0 h1 h2 h3 h4 h5 (((y1.length:Int) - k0).toNat+1) k0).ok ⟨by omega,by omega,v0⟩ φ hk⟩
theorem zGp(list:List zG)(part:zN)(y1:List (List Int))(h0:SRs 1000 list)(h1:SP 1000 part)(h2:y1.length<=121)(h3:∀q∈y1,q.length<=4):∀(k:Nat) (i:Int),Tot (uN list part y1 i) ((part.Body.length:Int) - i<(k:Int)/\0<(k:Int)/\0<=i) (λφ=>(AF part.Body i VS->φ (.done ()))/\(φ (.ret (0,false)))):=by
 have h10:=h1;obtain⟨h11,h12,h13⟩:=h1;intro k
 induction k with
 | zero=>intro i;exact⟨λh=>absurd h.2.1 (by omega)⟩
 | succ k ih=>
  intro i;refine⟨?_⟩;rintro⟨v0,v1,v2⟩ φ ⟨hd,hr⟩;unfold uN;exact Ok.go
instance zMB(list:List zG)(part:zN)(y1:List (List Int))(i:Int):Tot (uN list part y1 i) (SRs 1000 list/\SP 1000 part/\y1.length<=121/\(∀q∈y1,q.length<=4)/\0<=i) (λφ=>(AF part.Body i VS->φ (.done ()))/\(φ (.ret (0,false)))):=⟨by
 rintro⟨h0,h1,h2,h3,v0⟩ φ hk
 exact(zGp list part y1 h0 h1 h2 h3 (((part.Body.length:Int) - i).toNat+1) i).ok ⟨by omega,by omega,v0⟩ φ hk⟩
instance zGQ(list:List zG)(part:zN):Tot (oG list part) (SRs 1000 list/\SP 1000 part) (λφ=>∀n b,(b=true->VP part)->φ (n,b)):=⟨by
 rintro⟨h0,h1⟩ φ hk
 obtain⟨h11,h12,h13⟩:=id h1
 unfold oG
 exact Ok.go⟩
theorem zC0(p:zD)(h0:SG 1000 p):∀(k:Nat) (total:Int) (i:Int),Tot (wB p total i) ((p.Parts.length:Int) - i<(k:Int)/\0<(k:Int)/\0<=i) (λφ=>(∀n,AF p.Parts i VP->φ (.done n))/\(φ (.ret false))):=by
 obtain⟨h01,h02,h03⟩:=h0;intro k
 induction k with
 | zero=>intro total i;exact⟨λh=>absurd h.2.1 (by omega)⟩
 | succ k ih=>
  intro total i;refine⟨?_⟩;rintro⟨v0,v1,v2⟩ φ ⟨hd,hr⟩;unfold wB;exact Ok.go
instance zJH(p:zD)(total:Int)(i:Int):Tot (wB p total i) (SG 1000 p/\0<=i) (λφ=>(∀n,AF p.Parts i VP->φ (.done n))/\(φ (.ret false))):=⟨by
 rintro⟨h0,v0⟩ φ hk
 exact(zC0 p h0 (((p.Parts.length:Int) - i).toNat+1) total i).ok ⟨by omega,by omega,v0⟩ φ hk⟩
instance zEi(p:zD):Tot (tM p) (SG 1000 p) (λφ=>∀r,(r=true->VG p)->φ r):=⟨by
 rintro h0 φ hk
 obtain⟨h01,h02,h03⟩:=id h0
 unfold tM
 exact Ok.go⟩
def InI(p:zD)(x:zM):Prop:=(0<=x.Part/\x.Part<(p.Parts.length:Int))/\∀q,p.Parts[x.Part.toNat]?=some q->0<=x.Stmt/\x.Stmt<(q.Body.length:Int)
theorem InI.mk{p:zD}{x:zM}{q:zN}(h0:0<=x.Part)(h1:x.Part<(p.Parts.length:Int))(hq:p.Parts[x.Part.toNat]?=some q)(h2:0<=x.Stmt)(h3:x.Stmt<(q.Body.length:Int)):InI p x:=
 ⟨⟨h0,h1⟩,λq' h=>by rw[hq] at h;cases h;exact⟨h2,h3⟩⟩
theorem zDF(p:zD)(i:Int)(y:List (List Int))(k0:Int)(q:zN)(b:Nat)(h0:VP q)(h1:0<=i)(h2:i<(p.Parts.length:Int))(h3:p.Parts[i.toNat]?=some q)(h4:y.length<=121)(h5:∀q∈y,q.length<=4)(h6:0<=k0)(h7:k0<(y.length:Int)):∀(k:Nat) (out:List zM) (s:Int),Tot (wI p i y k0 out s) ((q.Body.length:Int) - s<(k:Int)/\0<(k:Int)/\0<=s/\s<=(q.Body.length:Int)/\(out.length:Int)<=b+s/\b<=100000/\(∀x∈out,InI p x)) (λφ=>∀r,r.length<=b+4->(∀x∈r,InI p x)->φ r):=by
 obtain⟨h01,h02,h03⟩:=h0;intro k
 induction k with
 | zero=>intro out s;exact⟨λh=>absurd h.2.1 (by omega)⟩
 | succ k ih=>
  intro out s;refine⟨?_⟩;rintro⟨v0,v1,v2,v3,v4,v5,v6⟩ φ hk;unfold wI;refine Ok.idx_known h3 h1 ?_;refine Ok.ite_dec (λhs=>?_) λhs=>?_
  ·refine Ok.idx (by omega) (by omega) λx hx _=>?_;have hx4:=h5 x hx;refine Ok.app S ?_;refine Ok.app (by simp only[cR,cC,cT];omega) ?_;have hI:InI p (zM.mk i s ([]++x)):=InI.mk h1 h2 h3 v2 (by omega);have hW:W (s+1)=s+1:=sI (by omega) (by omega);rw[hW];exact Ok.go
  ·exact Ok.go
theorem zDG(p:zD)(i:Int)(y:List (List Int))(k0:Int)(q:zN)(b:Nat)(out:List zM)(s:Int):Tot (wI p i y k0 out s) (VP q/\0<=i/\i<(p.Parts.length:Int)/\p.Parts[i.toNat]?=some q/\y.length<=121/\(∀q∈y,q.length<=4)/\0<=k0/\k0<(y.length:Int)/\0<=s/\s<=(q.Body.length:Int)/\(out.length:Int)<=b+s/\b<=100000/\(∀x∈out,InI p x)) (λφ=>∀r,r.length<=b+4->(∀x∈r,InI p x)->φ r):=⟨by
 rintro⟨h0,h1,h2,h3,h4,h5,h6,h7,v0,v1,v2,v3,v4⟩ φ hk;exact(zDF p i y k0 q b h0 h1 h2 h3 h4 h5 h6 h7 (((q.Body.length:Int) - s).toNat+1) out s).ok ⟨by omega,by omega,v0,v1,v2,v3,v4⟩ φ hk⟩
theorem zDH(p:zD)(i:Int)(y:List (List Int))(q:zN)(b:Nat)(h0:VP q)(h1:0<=i)(h2:i<(p.Parts.length:Int))(h3:p.Parts[i.toNat]?=some q)(h4:y.length<=121)(h5:∀q∈y,q.length<=4):∀(k:Nat) (out:List zM) (k0:Int),Tot (wJ p i y out k0) ((y.length:Int) - k0<(k:Int)/\0<(k:Int)/\0<=k0/\k0<=(y.length:Int)/\(out.length:Int)<=b+4*k0/\b<=10000/\(∀x∈out,InI p x)) (λφ=>∀r,r.length<=b+484->(∀x∈r,InI p x)->φ r):=by
 intro k
 induction k with
 | zero=>intro out k0;exact⟨λh=>absurd h.2.1 (by omega)⟩
 | succ k ih=>
  intro out k0;refine⟨?_⟩;rintro⟨v0,v1,v2,v3,v4,v5,v6⟩ φ hk;unfold wJ;have tl:=λo kk=>zDG p i y kk q o.length o 0;exact Ok.go
theorem zDI(p:zD)(i:Int)(y:List (List Int))(q:zN)(b:Nat)(out:List zM)(k0:Int):Tot (wJ p i y out k0) (VP q/\0<=i/\i<(p.Parts.length:Int)/\p.Parts[i.toNat]?=some q/\y.length<=121/\(∀q∈y,q.length<=4)/\0<=k0/\k0<=(y.length:Int)/\(out.length:Int)<=b+4*k0/\b<=10000/\(∀x∈out,InI p x)) (λφ=>∀r,r.length<=b+484->(∀x∈r,InI p x)->φ r):=⟨by
 rintro⟨h0,h1,h2,h3,h4,h5,v0,v1,v2,v3,v4⟩ φ hk;exact(zDH p i y q b h0 h1 h2 h3 h4 h5 (((y.length:Int) - k0).toNat+1) out k0).ok ⟨by omega,by omega,v0,v1,v2,v3,v4⟩ φ hk⟩
theorem zDJ(p:zD)(h0:SG 1000 p)(h1:VG p):∀(k:Nat) (out:List zM) (i:Int),Tot (wK p out i) ((p.Parts.length:Int) - i<(k:Int)/\0<(k:Int)/\0<=i/\i<=(p.Parts.length:Int)/\(out.length:Int)<=484*i/\(∀x∈out,InI p x)) (λφ=>∀r,r.length<=2000->(∀x∈r,InI p x)->φ r):=by
 obtain⟨⟨h00,h01⟩,h02,h03⟩:=id h0;obtain⟨h10,h11,h12⟩:=id h1;intro k
 induction k with
 | zero=>intro out i;exact⟨λh=>absurd h.2.1 (by omega)⟩
 | succ k ih=>
  intro out i;refine⟨?_⟩;rintro⟨v0,v1,v2,v3,v4,v5⟩ φ hk;unfold wK;refine Ok.ite_dec (λhs=>?_) λhs=>?_
  ·refine Ok.idx (by omega) (by omega) λq hq hqi=>?_;have tl:=λy o=>zDI p i y q o.length o 0;have s1:=(h03 q hq).1;obtain⟨s2,s3,s4⟩:=h12 q hq;have s5:VP q:=⟨s2,s3,s4⟩;exact Ok.go
  ·exact Ok.go
instance zJZ(p:zD)(out:List zM)(i:Int):Tot (wK p out i) (SG 1000 p/\VG p/\0<=i/\i<=(p.Parts.length:Int)/\(out.length:Int)<=484*i/\(∀x∈out,InI p x)) (λφ=>∀r,r.length<=2000->(∀x∈r,InI p x)->φ r):=⟨by
 rintro⟨h0,h1,v0,v1,v2,v3⟩ φ hk
 exact(zDJ p h0 h1 (((p.Parts.length:Int) - i).toNat+1) out i).ok ⟨by omega,by omega,v0,v1,v2,v3⟩ φ hk⟩
instance zKq(p:zD):Tot (uA p) (SG 1000 p/\VG p) (λφ=>∀r,r.length<=2000->(∀x∈r,InI p x)->φ r):=⟨by
 rintro⟨h0,h1⟩ φ hk
 unfold uA
 exact Ok.go⟩
theorem zGq(p:zD)(y:List zM)(h0:SG 1000 p)(h1:VG p)(h2:y.length<=2000)(h3:∀x∈y,InI p x):∀(k:Nat) (out:List xG) (i:Int),Tot (tK p y out i) ((y.length:Int) - i<(k:Int)/\0<(k:Int)/\0<=i/\i<=(y.length:Int)/\(out.length:Int)=i/\(∀u∈out,u.reads.length<=111111)) (λφ=>∀r,r.length<=2000->(∀u∈r,u.reads.length<=111111)->φ r):=by
 obtain⟨⟨h00,h01⟩,h02,h03⟩:=id h0;obtain⟨h10,h11,h12⟩:=id h1;intro k
 induction k with
 | zero=>intro out i;exact⟨λh=>absurd h.2.1 (by omega)⟩
 | succ k ih=>
  intro out i;refine⟨?_⟩;rintro⟨v0,v1,v2,v3,v4,v5⟩ φ hk;unfold tK;refine Ok.ite_dec (λhs=>?_) λhs=>?_
  ·refine Ok.idx (by omega) (by omega) λx hx hxi=>?_;obtain⟨⟨g0,g1⟩,g2⟩:=h3 x hx;refine Ok.idx g0 g1 λq hq hqi=>?_;obtain⟨g3,g4⟩:=g2 q hqi;refine Ok.idx_known hxi v2 (Ok.idx g3 g4 λs hs _=>?_);have s1:=(h03 q hq).2.2 s hs;exact Ok.go
  ·exact Ok.go
instance zMC(p:zD)(y:List zM)(out:List xG)(i:Int):Tot (tK p y out i) (SG 1000 p/\VG p/\y.length<=2000/\(∀x∈y,InI p x)/\0<=i/\i<=(y.length:Int)/\(out.length:Int)=i/\(∀u∈out,u.reads.length<=111111)) (λφ=>∀r,r.length<=2000->(∀u∈r,u.reads.length<=111111)->φ r):=⟨by
 rintro⟨h0,h1,h2,h3,v0,v1,v2,v3⟩ φ hk
 exact(zGq p y h0 h1 h2 h3 (((y.length:Int) - i).toNat+1) out i).ok ⟨by omega,by omega,v0,v1,v2,v3⟩ φ hk⟩
instance zNW(p:zD):Tot (mZ p) (SG 1000 p/\VG p) (λφ=>∀r,r.length<=2000->(∀u∈r,u.reads.length<=111111)->φ r):=⟨by
 rintro⟨h0,h1⟩ φ hk
 unfold mZ
 exact Ok.go⟩
theorem zDv{a n:Int}(ha:0<=a)(hn:0<n):0<=a.tmod n/\a.tmod n<n:=by
 rw[Int.tmod_eq_emod_of_nonneg ha];exact⟨Int.emod_nonneg _ (by omega),Int.emod_lt_of_pos _ hn⟩
theorem zM1{a b:Int}(ha:0<=a)(ha':a<4611686018427387904)(hb:0<=b)(hb':b<4611686018427387904):
 0<=W (((BitVec.ofInt IntKind.i64.bits a ^^^ BitVec.ofInt IntKind.i64.bits b).toNat:Nat):Int):=by
 have e:(BitVec.ofInt IntKind.i64.bits a ^^^ BitVec.ofInt IntKind.i64.bits b).toNat<4611686018427387904:=by
  rw[BitVec.toNat_xor]
  have h1:(BitVec.ofInt IntKind.i64.bits a).toNat=a.toNat:=by
   rw[BitVec.toNat_ofInt];show (a % ((2 ^ 64:Nat):Int)).toNat=_;omega
  have h2:(BitVec.ofInt IntKind.i64.bits b).toNat=b.toNat:=by
   rw[BitVec.toNat_ofInt];show (b % ((2 ^ 64:Nat):Int)).toNat=_;omega
  rw[h1,h2]
  exact Nat.xor_lt_two_pow (n:=62) (by omega) (by omega)
 rw[sI (by omega) (by omega)];omega
instance fV(r:zL)(n:Int):Tot (yW r n) (0<=r.p/\r.p<=1000000000) (λφ=>∀y s,0<=y->(y<n∨y=0)->s.p=r.p+1->φ (y,s)):=⟨by
 rintro⟨h0,h1⟩ φ hk
 unfold yW
 rw[sI (x:=r.p+1) (by omega) (by omega),sI (x:=r.p+1 - 1) (by omega) (by omega)]
 refine Ok.bind_ite (Ok.ite_dec (λ_=>Ok.bind_pure (Ok.ite_tt (Ok.pure (hk _ _ S S rfl)))) λhn=>Ok.bind_pure (Ok.ite_beq (λ_=>Ok.pure (hk _ _ S S rfl)) λhb=>?_))
 refine Ok.ite_dec (λhp=>Ok.idx (by omega) (by omega) λx _ _=>?_) λhp=>?_
 ·refine Ok.rem (by omega) (Ok.pure ?_)
  have hx:=x.toNat_lt
  have:=zDv (a:=(x.toNat:Int)) (n:=n) (by omega) (by omega)
  rw[sI (by omega) (by omega)]
  exact hk _ _ this.1 (.inl this.2) rfl
 ·refine Ok.rem (by omega) ?_
  have hp:=zDv (a:=r.p+1 - 1) (n:=(r.b.length:Int)) (by omega) (by omega)
  refine Ok.idx hp.1 hp.2 λx1 _ _=>?_
  rw[sI (x:=(r.p+1 - 1)*7) (by omega) (by omega),sI (x:=(r.p+1 - 1)*7+3) (by omega) (by omega)]
  refine Ok.rem (by omega) ?_
  have hq:=zDv (a:=(r.p+1 - 1)*7+3) (n:=(r.b.length:Int)) (by omega) (by omega)
  refine Ok.idx hq.1 hq.2 λx2 _ _=>?_
  refine Ok.quo (by omega) ?_
  have hd:0<=(r.p+1 - 1).tdiv (r.b.length:Int)/\(r.p+1 - 1).tdiv (r.b.length:Int)<=1000000000:=by
   rw[f5 (by omega)]
   exact⟨Int.ediv_nonneg (by omega) (by omega),Int.le_trans (Int.ediv_le_self _ (by omega)) (by omega)⟩
  have e1:=x1.toNat_lt
  have e2:=x2.toNat_lt
  generalize (r.p+1 - 1).tdiv (r.b.length:Int)=q3 at hd ⊢
  simp(disch:=omega) only [sI]
  refine Ok.rem (by omega) ?_
  generalize hX:(x1.toNat:Int)*131+(x2.toNat:Int)*1117+(r.p+1 - 1)*29+q3*53=X
  have hX0:0<=X:=by omega
  have hX1:X<4611686018427387904:=by omega
  have hT:0<=X.tdiv 64/\X.tdiv 64<4611686018427387904:=by rw[f5 hX0];omega
  rw[sI (x:=X.tdiv 64) (by omega) (by omega)]
  have hw:=zDv (zM1 hX0 hX1 hT.1 hT.2) (n:=n) (by omega)
  exact Ok.pure (hk _ _ hw.1 (.inl hw.2) rfl)⟩
instance zBN(r:zL)(l:List Str):Tot (oR r l) (0<l.length/\0<=r.p/\r.p<=1000000000) (λφ=>∀y s,y∈l->s.p=r.p+1->φ (y,s)):=⟨by
 rintro⟨h0,h1,h2⟩ φ hk
 unfold oR
 exact Ok.go⟩
instance uV(r:zL)(l:List Int):Tot (yV r l) (0<l.length/\0<=r.p/\r.p<=1000000000/\(∀x∈l,I64 x)) (λφ=>∀y s,y∈l->I64 y->s.p=r.p+1->φ (y,s)):=⟨by
 rintro⟨h0,h1,h2,h3⟩ φ hk
 unfold yV
 exact Ok.go⟩
theorem zGr(s:Str)(c:UInt8)(h0:s.l.length<=1000000):∀(k:Nat) (out:List Str) (f:Int) (i:Int),Tot (pJ s c out f i) ((s.l.length:Int)+1 - i<(k:Int)/\0<(k:Int)/\0<=f/\f<=i/\i<=(s.l.length:Int)+1/\(out.length:Int)<=i/\(∀x∈out,x.l.length<=s.l.length)) (λφ=>∀r,r.length<=s.l.length+1->(∀x∈r,x.l.length<=s.l.length)->φ r):=by
 intro k
 induction k with
 | zero=>intro out f i;exact⟨λh=>absurd h.2.1 (by omega)⟩
 | succ k ih=>
  intro out f i;refine⟨?_⟩;rintro⟨v0,v1,v2,v3,v4,v5,v6⟩ φ hk;unfold pJ;exact Ok.go
instance zMD(s:Str)(c:UInt8)(out:List Str)(f:Int)(i:Int):Tot (pJ s c out f i) (s.l.length<=1000000/\0<=f/\f<=i/\i<=(s.l.length:Int)+1/\(out.length:Int)<=i/\(∀x∈out,x.l.length<=s.l.length)) (λφ=>∀r,r.length<=s.l.length+1->(∀x∈r,x.l.length<=s.l.length)->φ r):=⟨by
 rintro⟨h0,v0,v1,v2,v3,v4⟩ φ hk
 exact(zGr s c h0 (((s.l.length:Int)+1 - i).toNat+1) out f i).ok ⟨by omega,by omega,v0,v1,v2,v3,v4⟩ φ hk⟩
instance zJ0(s:Str)(c:UInt8):Tot (gY s c) (s.l.length<=1000000) (λφ=>∀r,r.length<=s.l.length+1->(∀x∈r,x.l.length<=s.l.length)->φ r):=⟨by
 rintro h0 φ hk
 unfold gY
 exact Ok.go⟩
theorem zGs(s:Str)(h0:s.l.length<=1000000):∀(k:Nat) (n:Int) (i:Int),Tot (pK s n i) ((s.l.length:Int) - i<(k:Int)/\0<(k:Int)/\I64 n/\0<=i) (λφ=>(∀n,I64 n->φ (.done n))/\(φ (.ret (0,false)))):=by
 intro k
 induction k with
 | zero=>intro n i;exact⟨λh=>absurd h.2.1 (by omega)⟩
 | succ k ih=>
  intro n i;refine⟨?_⟩;rintro⟨v0,v1,v2,v3⟩ φ ⟨hd,hr⟩;unfold pK;exact Ok.go
instance zME(s:Str)(n:Int)(i:Int):Tot (pK s n i) (s.l.length<=1000000/\I64 n/\0<=i) (λφ=>(∀n,I64 n->φ (.done n))/\(φ (.ret (0,false)))):=⟨by
 rintro⟨h0,v0,v1⟩ φ hk
 exact(zGs s h0 (((s.l.length:Int) - i).toNat+1) n i).ok ⟨by omega,by omega,v0,v1⟩ φ hk⟩
instance zNX(s:Str):Tot (gZ s) (s.l.length<=1000000) (λφ=>∀n b,I64 n->φ (n,b)):=⟨by
 rintro h0 φ hk
 unfold gZ
 exact Ok.go⟩
instance eF:Tot oE True (λφ=>φ (zA.mk [0,0,0,0] 0)):=⟨λ_ _ h=>Ok.pure h⟩
instance zBO:Tot mT True (λφ=>∀r,SRs 1000 r->φ r):=⟨λ_ φ h=>Ok.pure (h _ ⟨by decide,by simp[SR]⟩)⟩
instance mP(n:Int):Tot (wM n) True (λφ=>φ (zA.mk [0,0,0,0] n)):=⟨λ_ _ h=>by unfold wM;exact Ok.call eF trivial (Ok.pure h)⟩
theorem zFS(s:Str)(a:Int)(h0:s.l.length<=1000000)(h1:0<=a)(h2:a<=(s.l.length:Int)):∀(k:Nat) (e:Int),Tot (rM s a e) ((s.l.length:Int) - e<(k:Int)/\0<(k:Int)/\a<=e/\e<=a+2/\e<=(s.l.length:Int)) (λφ=>∀r,a<=r->r<=a+2->r<=(s.l.length:Int)->φ r):=by
 intro k
 induction k with
 | zero=>intro e;exact⟨λh=>absurd h.2.1 (by omega)⟩
 | succ k ih=>
  intro e;refine⟨?_⟩;rintro⟨v0,v1,v2,v3,v4⟩ φ hk;unfold rM;exact Ok.go
instance zKr(s:Str)(a:Int)(e:Int):Tot (rM s a e) (s.l.length<=1000000/\0<=a/\a<=(s.l.length:Int)/\a<=e/\e<=a+2/\e<=(s.l.length:Int)) (λφ=>∀r,a<=r->r<=a+2->r<=(s.l.length:Int)->φ r):=⟨by
 rintro⟨h0,h1,h2,v0,v1,v2⟩ φ hk
 exact(zFS s a h0 h1 h2 (((s.l.length:Int) - e).toNat+1) e).ok ⟨by omega,by omega,v0,v1,v2⟩ φ hk⟩
instance zDw(s:Str)(a:Int):Tot (nY s a) (s.l.length<=1000000/\0<=a/\a<=(s.l.length:Int)) (λφ=>∀n e,I64 n->a<=e->e<=(s.l.length:Int)->φ (n,e)):=⟨by
 rintro⟨h0,h1,h2⟩ φ hk
 unfold nY
 exact Ok.go⟩
instance zJ1(s:Str)(a:Int):Tot (fA s a) (s.l.length<=1000000/\0<=a) (λφ=>∀r,-1<=r->r<=3->(0<=r->a<(s.l.length:Int))->φ r):=⟨by
 rintro⟨h0,h1⟩ φ hk
 unfold fA
 exact Ok.go⟩
theorem VA.set{l:List Int}{c:Int}(h:l.length=4)(hl:∀x∈l,I64 x)(hc:I64 c)(i:Nat)(x:Int):VA (zA.mk (([]++l).set i (W x)) c):=by
 refine⟨by simp[h],?_,hc⟩;intro y hy;rcases List.mem_or_eq_of_mem_set hy with hy|hy
 ·exact hl y hy
 ·exact hy ▸ zJu x
theorem VA.con{l:List Int}(h:l.length=4)(hl:∀x∈l,I64 x)(x:Int):VA (zA.mk ([]++l) (W x)):=⟨h,hl,zJu x⟩
instance zI9(a:zA)(s:Str)(n:Int):Tot (jZ a s n) (VA a/\s.l.length<=1000000/\0<=n/\n<(s.l.length:Int)) (λφ=>∀r e,VA r->(e=-1∨n<e)->e<=(s.l.length:Int)->φ (r,e)):=⟨by
 rintro⟨h0,h1,h2,h3⟩ φ hk
 have hv:=h0;obtain⟨h00,h01,h02⟩:=h0;have t1:=VA.set h00 h01 h02;have t2:=VA.con h00 h01
 unfold jZ
 refine Ok.sidx h2 h3 λb2 _ _=>?_
 refine Ok.bind (φ:=λ_=>True) Ok.go λsign _=>?_
 refine Ok.bind (φ:=λ_=>True) Ok.go λt27 _=>?_
 refine Ok.bind (φ:=λm=>n<=m/\m<=n+1) Ok.go λm hm=>?_
 refine Ok.call (zDw s m) ⟨h1,by omega,by omega⟩ λy1 y2 g1 g2 g3=>?_
 refine Ok.bind (φ:=λb=>b=true->y2<(s.l.length:Int)) Ok.go λt51 h51=>?_
 refine Ok.bind (φ:=λx=>y2<=x/\x<=(s.l.length:Int)) ?_ λstar hs=>?_
 ·refine Ok.ite (λh=>?_) λh=>Ok.go
  have h51:=h51 h
  exact Ok.go
 refine Ok.call (zJ1 s star) ⟨h1,by omega⟩ λy3 g4 g5 g6=>?_
 refine Ok.app S ?_
 refine Ok.bind (φ:=λb=>b=true->0<=y3) Ok.go λt75 h75=>?_
 refine Ok.ite (λh=>?_) λh=>?_
 ·have h75:=h75 h
  have g6:=g6 h75
  have h4:(([]:List Int)++a.Coefs).length=4:=h00
  refine Ok.idx h75 (by omega) λx _ hx=>Ok.idx_known hx h75 (Ok.bind_pure (Ok.pure ?_))
  rw[sI (x:=star+1) (by omega) (by omega)]
  exact hk _ _ (t1 _ _) (.inr (by omega)) (by omega)
 ·refine Ok.ite_beq (λh=>Ok.pure (hk _ _ hv (.inl rfl) (by omega))) λh=>Ok.pure (hk _ _ (t2 _) (.inr (by omega)) g3)⟩
theorem zGt:∀(k:Nat) (n:Int) (o:Str),Tot (pL n o) ((0<=n/\n<=9223372036854775807/\n<(2:Int) ^ k)/\o.l.length+k<=1000) (λφ=>∀a r,0<=a->a<=9->r.l.length<=o.l.length+k->φ (a,r)):=by
 intro k
 induction k with
 | zero=>intro n o;refine⟨?_⟩;rintro⟨⟨a1,a4,a2⟩,a3⟩ φ hk;unfold pL;rw[Int.pow_zero] at a2;exact Ok.go
 | succ k ih=>
  intro n o;refine⟨?_⟩;rintro⟨⟨a1,a4,a2⟩,a3⟩ φ hk;unfold pL;refine Ok.ite_dec (λh=>?_) λh=>Ok.go;refine Ok.cat (by simp;omega) λs hs hl=>?_;have ht:0<=n.tdiv 10/\n.tdiv 10<(2:Int) ^ k/\n.tdiv 10<=n:=by
   rw[f5 a1];rw[Int.pow_succ] at a2;omega
  rw[sI (by omega) (by omega)];simp only[cC,cT] at hl;refine Ok.last (ih _ _) ⟨⟨ht.1,by omega,ht.2.1⟩,by omega⟩ λa r g1 g2 g3=>hk a r g1 g2 (by omega)
theorem zGR(n:Int):Tot (qC n) (0<=n/\n<=9223372036854775807) (λφ=>∀r,r.l.length<=64->1<=r.l.length->φ r):=⟨by
 rintro⟨h0,h1⟩ φ hk;unfold qC;refine Ok.ite_dec (λh=>absurd h (by omega)) λ_=>Ok.ite_dec (λh=>absurd h (by omega)) λ_=>?_;refine Ok.call (zGt 63 n ⟨[]⟩) ⟨⟨h0,h1,by omega⟩,by decide⟩ λa r g1 g2 g3=>?_;simp only[cT] at g3;refine Ok.cat (by simp;omega) λs hs hl=>Ok.pure ?_;simp only[cC,cT] at hl;exact hk _ (by dsimp only [id];omega) (by dsimp only [id];omega)⟩
instance zNY(n:Int):Tot (qC n) (I64 n) (λφ=>∀r,r.l.length<=70->1<=r.l.length->φ r):=⟨by
 rintro⟨h0,h1⟩ φ hk
 by_cases hn:0<=n
 ·exact(zGR n).ok ⟨hn,h1⟩ φ λr g1 g2=>hk r (by omega) g2
 unfold qC
 refine Ok.ite_dec (λh=>Ok.pure (hk _ (by decide) (by decide))) λ_=>Ok.ite_dec (λh=>?_) λh=>absurd h (by omega)
 rw[sI (by omega) (by omega)]
 refine Ok.call (zGR _) ⟨by omega,by omega⟩ λr g1 g2=>?_
 refine Ok.cat (by simp;omega) λs hs hl=>Ok.pure ?_
 simp only[cC,cT] at hl
 exact hk _ (by dsimp only [id];omega) (by dsimp only [id];omega)⟩
instance zNZ(n:Int)(name:Str):Tot (jL n name) (I64 n/\name.l.length<=10) (λφ=>∀r,r.l.length<=100->1<=r.l.length->φ r):=⟨by
 rintro⟨h0,h1⟩ φ hk
 have hw:=zJu (0 - n)
 unfold jL
 refine Ok.bind (φ:=λo=>I64 o.1/\o.2.l.length=1) ?_ ?_
 ·refine Ok.ite_dec (λ_=>Ok.pure ⟨hw,rfl⟩) λ_=>Ok.pure ⟨h0,rfl⟩
 rintro⟨m,sg⟩ ⟨g1,g2⟩
 dsimp only at g1 g2 ⊢
 exact Ok.go⟩
theorem zGu(a:zA)(h0:VA a):∀(k:Nat) (o:Str) (i:Int),Tot (pM a o i) ((a.Coefs.length:Int) - i<(k:Int)/\0<(k:Int)/\0<=i/\i<=4/\(o.l.length:Int)<=100*i) (λφ=>∀r,r.l.length<=400->φ r):=by
 obtain⟨h01,h02,h03⟩:=h0;intro k
 induction k with
 | zero=>intro o i;exact⟨λh=>absurd h.2.1 (by omega)⟩
 | succ k ih=>
  intro o i;refine⟨?_⟩;rintro⟨v0,v1,v2,v3,v4⟩ φ hk;unfold pM;exact Ok.go
instance zGv(a:zA)(o:Str)(i:Int):Tot (pM a o i) (VA a/\0<=i/\i<=4/\(o.l.length:Int)<=100*i) (λφ=>∀r,r.l.length<=400->φ r):=⟨by
 rintro⟨h0,v0,v1,v2⟩ φ hk
 exact(zGu a h0 (((a.Coefs.length:Int) - i).toNat+1) o i).ok ⟨by omega,by omega,v0,v1,v2⟩ φ hk⟩
instance zN0(a:zA):Tot (mV a) (VA a) (λφ=>∀r,r.l.length<=1000->φ r):=⟨by
 rintro h0 φ hk
 have h00:=h0;obtain⟨h01,h02,h03⟩:=h0
 unfold mV
 refine Ok.call (zGv a _ _) ⟨h00,by simp⟩ λo ho=>?_
 refine Ok.bind (φ:=λr=>r.l.length<=1000) Ok.go λr hr=>?_
 refine Ok.ite_beq (λ_=>Ok.pure (hk _ (by decide))) λhne=>?_
 have hp:0<r.l.length:=List.length_pos_iff.2 hne
 exact Ok.go⟩
instance zK3(a:zA):Tot (nB a) (SA a) (λφ=>∀r,r.l.length<=1000->φ r):=⟨by
 rintro h0 φ hk
 unfold nB
 refine Ok.call (zFQ a) h0 λb hb=>?_
 refine Ok.ite_not (λ_=>Ok.go) λhv=>?_
 have hv:=hb hv
 exact Ok.go⟩
theorem zDK(s:Str)(h0:s.l.length<=1000000):∀(k:Nat) (i:Int) (x:zA),Tot (sZ s i x) (((i<0∨(s.l.length:Int) - i+1<(k:Int))/\0<(k:Int)/\i<=(s.l.length:Int))/\VA x) (λφ=>∀r,VA r->φ r):=by
 intro k
 induction k with
 | zero=>intro i x;exact⟨λh=>absurd h.1.2.1 (by omega)⟩
 | succ k ih=>
  intro i x;refine⟨?_⟩;rintro⟨⟨v0,v1,v2⟩,v3⟩ φ hk;unfold sZ;refine Ok.bind_ite (Ok.ite_dec (λh1=>Ok.bind_pure ?_) λ_=>Ok.bind_pure (Ok.ite_ff Ok.go));refine Ok.ite_dec (λh2=>Ok.call (zI9 x s i) ⟨v3,h0,h1,h2⟩ λr e g1 g2 g3=>?_) λh2=>Ok.go;refine Ok.last (ih e r) ⟨⟨by omega,by omega,g3⟩,g1⟩ hk
instance zFT(s:Str):Tot (pO s) (s.l.length<=1000000) (λφ=>∀a b,SA a->φ (a,b)):=⟨by
 rintro h0 φ hk
 unfold pO
 refine Ok.call eF trivial (Ok.ite_dec (λ_=>Ok.pure (hk _ _ SA.nil0)) λ_=>?_)
 refine Ok.call (zDK s h0 (s.l.length+2) 0 _) ⟨⟨by omega,by omega,by omega⟩,rfl,by simp[I64],by simp[I64]⟩ λx hx=>?_
 have hs:SA x:=⟨by rw[hx.1];decide,hx.2.2⟩
 exact Ok.go⟩
theorem zDL(y:List Str)(h0:y.length<=1000001)(h1:∀x∈y,x.l.length<=1000000):∀(k:Nat) (o:List zA) (i:Int),Tot (tP y o i) (3 - i<(k:Int)/\0<(k:Int)/\0<=i/\(o.length:Int)<=i/\i<=3/\(∀a∈o,SA a)) (λφ=>∀r,LL r->r.length<=100->(∀a∈r,SA a)->φ r):=by
 intro k
 induction k with
 | zero=>intro o i;exact⟨λh=>absurd h.2.1 (by omega)⟩
 | succ k ih=>
  intro o i;refine⟨?_⟩;rintro⟨v0,v1,v2,v3,v4,v5⟩ φ hk;unfold tP;exact Ok.go
instance zJ2(y:List Str)(o:List zA)(i:Int):Tot (tP y o i) (y.length<=1000001/\(∀x∈y,x.l.length<=1000000)/\0<=i/\(o.length:Int)<=i/\i<=3/\(∀a∈o,SA a)) (λφ=>∀r,LL r->r.length<=100->(∀a∈r,SA a)->φ r):=⟨by
 rintro⟨h0,h1,v0,v1,v2,v3⟩ φ hk
 exact(zDL y h0 h1 ((3 - i).toNat+1) o i).ok ⟨by omega,by omega,v0,v1,v2,v3⟩ φ hk⟩
theorem up{y:List Str}{n:Nat}(h:∀x∈y,x.l.length<=n)(hn:n<=1000000):∀x∈y,x.l.length<=1000000:=λx hx=>dg (h x hx) hn
instance zKs(s:Str):Tot (nT s) (s.l.length<=1000000) (λφ=>∀r,LL r->r.length<=100->(∀a∈r,SA a)->φ r):=⟨by
 rintro h0 φ hk
 unfold nT
 refine Ok.call (zJ0 s _) h0 λy g1 g2=>?_
 have g3:=up g2 h0
 exact Ok.go⟩
theorem zGS(s:Str)(e:UInt8)(h0:s.l.length<=1000000):∀(k:Nat) (i:Int),Tot (qL s e i) ((s.l.length:Int) - i<(k:Int)/\0<(k:Int)/\0<=i) (λφ=>(φ (.done ()))/\(∀r b,i<=r->r<(s.l.length:Int)->s.l[r.toNat]?=some b->(b.toNat:Int)=(e.toNat:Int)->φ (.ret r))):=by
 intro k
 induction k with
 | zero=>intro i;exact⟨λh=>absurd h.2.1 (by omega)⟩
 | succ k ih=>
  intro i;refine⟨?_⟩;rintro⟨v0,v1,v2⟩ φ ⟨hd,hr⟩;unfold qL;refine Ok.ite_dec (λh=>Ok.sidx v2 h λb _ hb=>Ok.ite_beq (λhe=>Ok.pure (hr i b (by omega) h hb he)) λ_=>?_) λ_=>Ok.go;rw[sI (by omega) (by omega)];exact Ok.last (ih (i+1)) ⟨by omega,by omega,by omega⟩ ⟨hd,λr b g1=>hr r b (by omega)⟩
instance zGT(s:Str)(e:UInt8)(i:Int):Tot (qL s e i) (s.l.length<=1000000/\0<=i) (λφ=>(φ (.done ()))/\(∀r b,i<=r->r<(s.l.length:Int)->s.l[r.toNat]?=some b->(b.toNat:Int)=(e.toNat:Int)->φ (.ret r))):=⟨by
 rintro⟨h0,v0⟩ φ hk
 exact(zGS s e h0 (((s.l.length:Int) - i).toNat+1) i).ok ⟨by omega,by omega,v0⟩ φ hk⟩
instance zIa(s:Str)(i:Int)(e:UInt8):Tot (kJ s i e) (s.l.length<=1000000/\0<=i) (λφ=>∀r,(r=-1∨(i<=r/\r<(s.l.length:Int)/\∃b,s.l[r.toNat]?=some b/\(b.toNat:Int)=(e.toNat:Int)))->φ r):=⟨by
 rintro⟨h0,h1⟩ φ hk
 unfold kJ
 exact Ok.call (zGT s e i) ⟨h0,h1⟩ ⟨Ok.pure (hk _ (.inl rfl)),λr b g1 g2 g3 g4=>Ok.pure (hk _ (.inr ⟨g1,g2,b,g3,g4⟩))⟩⟩
instance zA0(s:Str)(i:Int):Tot (rV s i) (s.l.length<=1000000/\0<=i/\i<=1000000) (λφ=>∀a n,SC a->(n=-1∨i<n)->n<=(s.l.length:Int)->φ (a,n)):=⟨by
 rintro⟨h0,h1,h2⟩ φ hk
 unfold rV
 exact Ok.go⟩
theorem SE.node{n:Nat}{k:Int}{a b:zF}(ha:SE n a)(hb:SE n b):SE (n+1) (zF.mk k 0 (zA.mk [] 0) (zI.mk ⟨[]⟩ []) [a,b]):=
 ⟨SA.nil0,SC.nil,cv rfl,λk hk=>by
  rcases cE.1 hk with hk|hk
  ·exact hk ▸ ha
  ·exact cx.1 hk ▸ hb⟩
theorem SE.lf{m:Nat}{k n:Int}{a:zA}{c:zI}(h1:SA a)(h2:SC c):SE m (zF.mk k n a c []):=SE.leaf (e:=zF.mk k n a c []) h1 h2 rfl
def EX0:zF:=zF.mk 0 0 (zA.mk [] 0) (zI.mk ⟨[]⟩ []) []
theorem EX0.se{n:Nat}:SE n EX0:=SE.leaf (e:=EX0) SA.nil0 SC.nil rfl
theorem zIb(s:Str)(h0:s.l.length<=1000000):∀(n:Nat) (i lv:Int),Tot (qM s i lv) (lv<=n/\n<=1000/\I64 lv) (λφ=>∀e r,SE n e->(r=-1∨(0<=i/\i<r))->r<=(s.l.length:Int)->φ (e,r)):=by
 intro n
 induction n with
 | zero=>
  intro i lv;refine⟨?_⟩;rintro⟨v0,v1,v2⟩ φ hk;unfold qM;dsimp only [same];refine Ok.bind_ite (Ok.ite_dec (λh=>Ok.bind_pure (Ok.ite_tt (Ok.pure (hk _ _ EX0.se (.inl rfl) (by omega))))) λh=>absurd h (by omega))
 | succ n ih=>
  have round:∀(i lv:Int),Tot (gA s i lv) (lv<=n/\n<=1000/\0<=i/\I64 lv) (λφ=>∀e r,SE (n+1) e->(r=-1∨(i<r))->r<=(s.l.length:Int)->φ (e,r)):=by
   intro i lv;refine⟨?_⟩;rintro⟨v0,v1,v2,v4⟩ φ hk;unfold gA;dsimp only [same];have hbad:Ok (Pure.pure (EX0,(-1:Int))) φ:=Ok.pure (hk _ _ EX0.se (.inl rfl) (by omega));refine Ok.call (ih i lv) ⟨v0,v1,v4⟩ λe1 r1 g1 g2 g3=>?_;refine Ok.bind (φ:=λb=>b=false->0<=r1/\r1<(s.l.length:Int)) Ok.go λb hb=>Ok.ite (λ_=>hbad) λhz=>?_;obtain⟨b1,b2⟩:=hb (by simpa using hz);refine Ok.sidx b1 b2 λc _ hc=>Ok.bind (φ:=λ_=>True) Ok.go λkd _=>?_;refine Ok.call (ih _ lv) ⟨v0,v1,v4⟩ λe2 r2 g4 g5 g6=>?_;rw[sI (by omega) (by omega)] at g5;refine Ok.bind (φ:=λb=>b=false->0<=r2/\r2<(s.l.length:Int)) Ok.go λb hb=>Ok.ite (λ_=>hbad) λhz=>?_;obtain⟨b3,b4⟩:=hb (by simpa using hz);refine Ok.pure ?_;rw[sI (by omega) (by omega)];exact hk _ _ (SE.node g1 g4) (.inr (by omega)) (by omega)
  intro i lv;refine⟨?_⟩;rintro⟨v0,v1,v2⟩ φ hk;unfold qM;dsimp only [same];have hbad:Ok (Pure.pure (EX0,(-1:Int))) φ:=Ok.pure (hk _ _ EX0.se (.inl rfl) (by omega));refine Ok.bind (φ:=λb=>b=false->0<=i/\i<(s.l.length:Int)/\1<=lv) Ok.go λb hb=>Ok.ite (λ_=>hbad) λhz=>?_;obtain⟨b1,b2,b3⟩:=hb (by simpa using hz);refine Ok.sidx b1 b2 λc _ hc=>Ok.ite_beq (λaF=>?_) λ_=>?_
  ·refine Ok.call (zIa s i _) ⟨h0,b1⟩ λy hy=>Ok.ite_dec (λ_=>hbad) λhy0=>?_;rcases hy with hy|⟨y1,y2,d,y3,y4⟩
   ·exact absurd hy (by omega)
   have hiy:i+1<=y:=by
    by_cases e:y=i
    ·subst e;rw[hc] at y3;cases y3
     have:((125:UInt8).toNat:Int)=125:=rfl;omega
    ·omega
   rw[sI (by omega) (by omega),sI (by omega) (by omega)];refine Ok.sslc (by omega) (by omega) (by omega) λm _ hm=>Ok.call (zFT m) (by omega) λa b ha=>Ok.pure (hk _ _ (SE.lf ha SC.nil) (.inr (by omega)) (by omega))
  ·refine Ok.bind (φ:=λ_=>True) Ok.go λt52 _=>Ok.ite (λ_=>?_) λ_=>?_
   ·refine Ok.call (zA0 s i) ⟨h0,b1,by omega⟩ λa r ha g1 g2=>Ok.pure (hk _ _ (SE.lf SA.nil0 ha) (by omega) g2)
   ·refine Ok.sidx_known hc b1 (Ok.ite_beq (λ_=>?_) λ_=>?_)
    ·obtain⟨v3,v4⟩:=v2;rw[sI (x:=lv - 1) (by omega) (by omega),sI (x:=i+1) (by omega) (by omega)];refine Ok.call (round _ _) ⟨by omega,by omega,by omega,⟨by omega,by omega⟩⟩ λe r g1 g2 g3=>Ok.pure (hk _ _ g1 (by omega) g3)
    ·refine Ok.call (zDw s i) ⟨h0,b1,by omega⟩ λn2 r g1 g2 g3=>Ok.ite_beq (λ_=>hbad) λhne=>Ok.pure (hk _ _ (SE.lf SA.nil0 SC.nil) (.inr (by omega)) g3)
instance zIc(s:Str)(i lv:Int):Tot (qM s i lv) (s.l.length<=1000000/\0<=lv/\lv<=5) (λφ=>∀e r,SE 5 e->(r=-1∨(0<=i/\i<r))->r<=(s.l.length:Int)->φ (e,r)):=⟨λ⟨h0,h1,h2⟩=>(zIb s h0 5 i lv).ok ⟨h2,by decide,⟨by omega,by omega⟩⟩⟩
theorem zDx(list:List zA)(h0:list.length<=100)(h1:∀a∈list,VA a):∀(k:Nat) (o:Str) (i:Int),Tot (sA list o i) ((list.length:Int) - i<(k:Int)/\0<(k:Int)/\0<=i/\i<=100/\(o.l.length:Int)<=1001*i) (λφ=>∀r,r.l.length<=200000->φ r):=by
 intro k
 induction k with
 | zero=>intro o i;exact⟨λh=>absurd h.2.1 (by omega)⟩
 | succ k ih=>
  intro o i;refine⟨?_⟩;rintro⟨v0,v1,v2,v3,v4⟩ φ hk;unfold sA;exact Ok.go
instance zJv(list:List zA)(o:Str)(i:Int):Tot (sA list o i) (list.length<=100/\(∀a∈list,VA a)/\0<=i/\i<=100/\(o.l.length:Int)<=1001*i) (λφ=>∀r,r.l.length<=200000->φ r):=⟨by
 rintro⟨h0,h1,v0,v1,v2⟩ φ hk
 exact(zDx list h0 h1 (((list.length:Int) - i).toNat+1) o i).ok ⟨by omega,by omega,v0,v1,v2⟩ φ hk⟩
instance zL7(list:List zA):Tot (mG list) (list.length<=100/\(∀a∈list,VA a)) (λφ=>∀r,r.l.length<=200000->φ r):=⟨by
 rintro⟨h0,h1⟩ φ hk
 unfold mG
 exact Ok.go⟩
instance zK4(a:zI):Tot (qU a) (VC a) (λφ=>∀r,r.l.length<=200100->φ r):=⟨by
 rintro h0 φ hk
 obtain⟨h01,h02,h03⟩:=h0
 unfold qU
 exact Ok.go⟩
def TN:Nat->Nat
 | 0=>200100
 | n+1=>2*TN n+10
theorem TN.ge:∀n,200100<=TN n
 | 0=>cZ _
 | n+1=>by have:=TN.ge n;simp only[TN];omega
theorem TN.mono(n:Nat):TN n<=TN (n+1):=by have:=TN.ge n;simp only[TN];omega
theorem zJ3:∀(n:Nat) (e:zF),Tot (qD e) (VE n e/\TN n<=1000000000) (λφ=>∀r,r.l.length<=TN n->φ r):=by
 have base:∀(e:zF),VO e->∀φ:Str->Prop,(∀r,r.l.length<=200100->φ r)->Ok (qD e) φ:=by
  intro e he φ hk;unfold qD;rcases he with⟨h,h1⟩|⟨h,h1⟩|⟨h,h1⟩
  ·refine Ok.ite_beq (λ_=>Ok.go) λhne=>absurd h hne
  ·refine Ok.ite_beq (λhe=>absurd (h.symm.trans he) (by decide)) λ_=>Ok.ite_beq (λ_=>Ok.go) λhne=>absurd h hne
  ·refine Ok.ite_beq (λhe=>absurd (h.symm.trans he) (by decide)) λ_=>Ok.ite_beq (λhe=>absurd (h.symm.trans he) (by decide)) λ_=>Ok.ite_beq (λ_=>Ok.go) λhne=>absurd h hne
 intro n
 induction n with
 | zero=>intro e;exact⟨λ⟨h,_⟩ φ hk=>base e h φ hk⟩
 | succ n ih=>
  intro e;refine⟨?_⟩;rintro⟨h,hn⟩ φ hk;have hm:=TN.mono n;have hg:=TN.ge n;have hg2:TN (n+1)=2*TN n+10:=rfl;rcases h with h|⟨h1,h2,h3⟩
  ·exact base e h φ λr hr=>hk r (by omega)
  unfold qD;dsimp only [same];refine Ok.ite_beq (λhe=>by omega) λ_=>Ok.ite_beq (λhe=>by omega) λ_=>Ok.ite_beq (λhe=>by omega) λ_=>?_;refine Ok.idx (by omega) (by omega) λx hx _=>?_;have hx:=h3 x hx;refine Ok.call (ih x) ⟨hx,by omega⟩ λy hy=>?_;refine Ok.cat (by simp;omega) λs2 _ g2=>?_;rw[sI (x:=e.Kind - 4) (by omega) (by omega),sI (x:=e.Kind - 4+1) (by omega) (by omega)];refine Ok.sslc (by omega) (by omega) (by simp;omega) λs3 _ g3=>?_;simp only[cC,cT] at g2;refine Ok.cat (by omega) λs4 _ g4=>Ok.idx (by omega) (by omega) λx1 hx1 _=>?_;have hx1:=h3 x1 hx1;refine Ok.call (ih x1) ⟨hx1,by omega⟩ λy4 bt=>Ok.cat (by omega) λs5 _ g5=>Ok.cat (by simp;omega) λs6 _ g6=>Ok.pure (hk _ ?_);simp only[cC,cT] at g6;dsimp only [id];omega
instance zMu(e:zF):Tot (qD e) (VE 5 e) (λφ=>∀r,r.l.length<=10000000->φ r):=⟨λh φ hk=>(zJ3 5 e).ok ⟨h,by decide⟩ φ λr hr=>hk r (dg hr (by decide))⟩
instance zGU(s:zQ):Tot (mH s) (SS s) (λφ=>∀r,r.l.length<=100000000->φ r):=⟨by
 rintro h0 φ hk
 unfold mH
 refine Ok.call (zC9 s _) h0 λb hb=>?_
 refine Ok.ite_not (λ_=>Ok.go) λhv=>?_
 obtain⟨g1,g2⟩:=hb hv
 exact Ok.go⟩
instance zGw(s:Str):Tot (kK s) (s.l.length<=1000000) (λφ=>∀a b,SS a->φ (a,b)):=⟨by
 rintro h0 φ hk
 have e0:SS (zQ.mk (zI.mk ⟨[]⟩ []) EX0):=⟨SC.nil,EX0.se⟩
 unfold kK
 refine Ok.ite_dec (λ_=>Ok.pure (hk _ _ e0)) λ_=>?_
 refine Ok.call (zA0 s 0) ⟨h0,by omega,by omega⟩ λa n g1 g2 g3=>?_
 refine Ok.bind (φ:=λ_=>True) Ok.go λt _=>Ok.ite (λ_=>Ok.pure (hk _ _ e0)) λ_=>?_
 refine Ok.call (zIc s _ 5) ⟨h0,by decide,by decide⟩ λe r g4 g5 g6=>?_
 have hs:SS (zQ.mk a e):=⟨g1,g4⟩
 refine Ok.call (zGU _) hs λt ht=>Ok.ite_not (λ_=>Ok.pure (hk _ _ e0)) λ_=>Ok.pure (hk _ _ hs)⟩
theorem zL8{α:Type}{P Q:α->Prop}{l:List α}(h:∀x∈l,P x)(hm:∀x,P x->Q x):∀x∈l,Q x:=λx hx=>hm x (h x hx)
theorem SN.mono{b:Nat}{l:List zE}(h:SN b l):SN (b+1) l:=⟨by have:=h.1;omega,h.2⟩
theorem SP.mono{b:Nat}{p:zN}(h:SP b p):SP (b+1) p:=⟨h.1.mono,by have:=h.2.1;omega,h.2.2⟩
theorem SRs.mono{b:Nat}{l:List zG}(h:SRs b l):SRs (b+1) l:=⟨by have:=h.1;omega,h.2⟩
theorem SG.mono{b:Nat}{p:zD}(h:SG b p):SG (b+1) p:=⟨h.1.mono,by have:=h.2.1;omega,zL8 h.2.2 λ_=>SP.mono⟩
theorem SG.up{b:Nat}:∀{c:Nat}{p:zD},SG b p->SG (b+c) p
 | 0,_,h=>h
 | c+1,_,h=>(SG.up (c:=c) h).mono
theorem zFZ{α:Type}{P:α->Prop}{l:List α}{x:α}(h:∀y∈l,P y)(hx:P x)(k:Nat):∀y∈l.set k x,P y:=by
 intro y hy;rcases List.mem_or_eq_of_mem_set hy with hy|hy
 ·exact h y hy
 ·exact hy ▸ hx
theorem SP.nil{b:Nat}:SP b (zN.mk [] []):=⟨⟨ex _,λ_ h=>absurd h dd⟩,ex _,λ_ h=>absurd h dd⟩
theorem SG.nil:SG 1000 (zD.mk [] []):=⟨⟨by simp,by simp⟩,by simp,by simp⟩
theorem VA4.sa{a:zA}(h:a.Coefs.length=4)(hc:I64 a.Const):SA a:=⟨by omega,hc⟩
instance zCF(v:Int):Tot (nF v) (0<=v/\v<4) (λφ=>∀r,r.Coefs.length=4->r.Const=0->φ r):=⟨by
 rintro⟨h0,h1⟩ φ hk
 unfold nF
 refine Ok.call eF trivial (Ok.idx h0 (by simp;omega) λx _ _=>Ok.bind_pure (Ok.pure (hk _ (by simp) rfl)))⟩
theorem zEj(a:zA)(x:Int)(b:zA)(y:Int)(h0:a.Coefs.length=4)(h1:b.Coefs.length=4):∀(k:Nat) (i:Int) (o:List Int),Tot (sT a x b y i o) (4 - i<(k:Int)/\0<(k:Int)/\0<=i/\i<=4/\(o.length:Int)=i) (λφ=>∀r,r.length=4->φ r):=by
 intro k
 induction k with
 | zero=>intro i o;exact⟨λh=>absurd h.2.1 (by omega)⟩
 | succ k ih=>
  intro i o;refine⟨?_⟩;rintro⟨v0,v1,v2,v3,v4⟩ φ hk;unfold sT;exact Ok.go
instance zK5(a:zA)(x:Int)(b:zA)(y:Int)(i:Int)(o:List Int):Tot (sT a x b y i o) (a.Coefs.length=4/\b.Coefs.length=4/\0<=i/\i<=4/\(o.length:Int)=i) (λφ=>∀r,r.length=4->φ r):=⟨by
 rintro⟨h0,h1,v0,v1,v2⟩ φ hk
 exact(zEj a x b y h0 h1 ((4 - i).toNat+1) i o).ok ⟨by omega,by omega,v0,v1,v2⟩ φ hk⟩
instance zGx(a:zA)(x:Int)(b:zA)(y:Int):Tot (nL a x b y) (a.Coefs.length=4/\b.Coefs.length=4) (λφ=>∀r,r.Coefs.length=4->I64 r.Const->φ r):=⟨by
 rintro⟨h0,h1⟩ φ hk
 unfold nL
 exact Ok.go⟩
theorem LL.one{a:zA}(h:SA a):LL [a]:=⟨cv rfl,λ_ h'=>cx.1 h' ▸ h⟩
theorem LL.two{a b:zA}(h:SA a)(h2:SA b):LL ([a]++[b]):=⟨cv rfl,zHj (LL.one h).2 h2⟩
theorem SA.c4{y:Int}(h:I64 y):SA (zA.mk [0,0,0,0] y):=⟨cv rfl,h⟩
instance zN1(r:zL)(aa:Int):Tot (gV r aa) (0<=r.p/\r.p<=900000000/\0<=aa/\aa<=4) (λφ=>∀a s,SL1 a->r.p<=s.p->s.p<=r.p+20->φ (a,s)):=⟨by
 rintro⟨h0,h1,h2,h3⟩ φ hk
 unfold gV
 refine Ok.call (uV r _) ⟨by decide,h0,by omega,by decide⟩ λy1 s1 _ g1 e1=>Ok.call (mP _) trivial ?_
 refine Ok.call (uV s1 _) ⟨by decide,by omega,by omega,by decide⟩ λy2 s2 _ g2 e2=>Ok.call (mP _) trivial ?_
 have a1:=SA.c4 g1
 have a2:=SA.c4 g2
 refine Ok.bind (φ:=λo=>r.p<=o.2.p/\o.2.p<=r.p+3) Ok.go ?_
 rintro⟨t,x⟩ ⟨g3,g4⟩
 dsimp only at g3 g4 ⊢
 refine Ok.bind (φ:=λo=>SA o.1/\SA o.2.1/\r.p<=o.2.2.p/\o.2.2.p<=r.p+6) (Ok.ite (λ_=>?_) λ_=>Ok.go) ?_
 ·refine Ok.call (fV x _) ⟨by omega,by omega⟩ λy s k1 k2 k3=>Ok.call (fV s _) ⟨by omega,by omega⟩ λz u k4 k5 k6=>?_
  refine Ok.bind (φ:=λo=>SA o.1/\SA o.2) (Ok.ite_beq (λ_=>?_) λ_=>?_) ?_
  ·exact Ok.call (zCF y) ⟨k1,by omega⟩ λb c1 c2=>Ok.pure ⟨⟨by dsimp only;omega,by dsimp only;rw[c2];decide⟩,a2⟩
  ·exact Ok.call (zCF y) ⟨k1,by omega⟩ λb c1 c2=>Ok.call (mP _) trivial (Ok.call (zGx b 1 _ 1) ⟨c1,rfl⟩ λd c3 c4=>Ok.pure ⟨a1,⟨by dsimp only;omega,c4⟩⟩)
  rintro⟨b,c⟩ ⟨c1,c2⟩
  exact Ok.pure ⟨c1,c2,by dsimp only at *;omega,by dsimp only at *;omega⟩
 rintro⟨b,c,u⟩ ⟨b1,b2,b3,b4⟩
 dsimp only at b1 b2 b3 b4 ⊢
 refine Ok.call (fV u _) ⟨by omega,by omega⟩ λy s k1 k2 k3=>?_
 refine Ok.bind (φ:=λo=>LL o.1/\LL o.2.1/\r.p<=o.2.2.p/\o.2.2.p<=r.p+20) (Ok.ite_beq (λ_=>?_) λ_=>?_) ?_
 ·refine Ok.call (uV s _) ⟨by decide,by omega,by omega,by decide⟩ λy3 s3 _ g3 e3=>Ok.call (mP _) trivial (Ok.app S (Ok.pure ⟨LL.one b1,LL.two b2 (SA.c4 g3),by dsimp only;omega,by dsimp only;omega⟩))
 ·refine Ok.bind (φ:=λo=>LL o.1/\r.p<=o.2.p/\o.2.p<=r.p+20) (Ok.ite_beq (λ_=>?_) λ_=>Ok.pure ⟨LL.one b1,by dsimp only;omega,by dsimp only;omega⟩) ?_
  ·refine Ok.call (uV s _) ⟨by decide,by omega,by omega,by decide⟩ λy3 s3 _ g3 e3=>Ok.call (mP _) trivial (Ok.app S (Ok.pure ⟨LL.two b1 (SA.c4 g3),by dsimp only;omega,by dsimp only;omega⟩))
  rintro⟨d,w⟩ ⟨d1,d2,d3⟩
  exact Ok.pure ⟨d1,LL.one b2,d2,d3⟩
 rintro⟨d,e,w⟩ ⟨d1,d2,d3,d4⟩
 exact Ok.pure (hk _ _ ⟨d1,d2⟩ d3 d4)⟩
theorem zGy :∀(k:Nat) (o:List zE) (i:Int) (r:zL),Tot (pG o i r) (i<(k:Int)/\0<(k:Int)/\i<=3/\0<=i/\(o.length:Int)+i<=4/\0<=r.p/\r.p+20*i<=800000100/\(∀x∈o,SL1 x)) (λφ=>∀a s,SN 1000 a->a.length<=4->r.p<=s.p->s.p<=r.p+20*i->φ (a,s)):=by
 intro k
 induction k with
 | zero=>intro o i r;exact⟨λh=>absurd h.2.1 (by omega)⟩
 | succ k ih=>
  intro o i r;refine⟨?_⟩;rintro⟨v0,v1,v2,v3,v4,v5,v6,v7⟩ φ hk;unfold pG;exact Ok.go
instance zMF  (o:List zE) (i:Int) (r:zL):Tot (pG o i r) (i<=3/\0<=i/\(o.length:Int)+i<=4/\0<=r.p/\r.p+20*i<=800000100/\(∀x∈o,SL1 x)) (λφ=>∀a s,SN 1000 a->a.length<=4->r.p<=s.p->s.p<=r.p+20*i->φ (a,s)):=⟨by
 rintro⟨v0,v1,v2,v3,v4,v5⟩ φ hk
 exact(zGy ((i).toNat+1) o i r).ok ⟨by omega,by omega,v0,v1,v2,v3,v4,v5⟩ φ hk⟩
instance zJ4(r:zL):Tot (gW r) (0<=r.p/\r.p<=800000000) (λφ=>∀a s,SN 1000 a->a.length<=4->r.p<=s.p->s.p<=r.p+100->φ (a,s)):=⟨by
 rintro⟨h0,h1⟩ φ hk
 unfold gW
 refine Ok.call (uV r _) ⟨by decide,h0,by omega,by decide⟩ λy s g1 g2 g3=>?_
 simp only[cE,dd,or_false] at g1
 exact Ok.go⟩
theorem zGz(aa:Int)(n:Int)(h0:0<=aa)(h1:aa<=4)(h2:n<=2):∀(k:Nat) (i:Int) (o:List zA) (r:zL),Tot (pH aa n i o r) (n - i<(k:Int)/\0<(k:Int)/\0<=i/\i<=2/\(o.length:Int)<=i/\0<=r.p/\r.p<=900000000+10*i/\(∀x∈o,SA x)) (λφ=>∀a s,a.length<=100->(∀x∈a,SA x)->r.p<=s.p->s.p<=r.p+20 - 10*i->φ (a,s)):=by
 intro k
 induction k with
 | zero=>intro i o r;exact⟨λh=>absurd h.2.1 (by omega)⟩
 | succ k ih=>
  intro i o r;refine⟨?_⟩;rintro⟨v0,v1,v2,v3,v4,v5,v6,v7⟩ φ hk;unfold pH;exact Ok.go
instance zMG(aa:Int)(n:Int)(i:Int)(o:List zA)(r:zL):Tot (pH aa n i o r) (0<=aa/\aa<=4/\n<=2/\0<=i/\i<=2/\(o.length:Int)<=i/\0<=r.p/\r.p<=900000000+10*i/\(∀x∈o,SA x)) (λφ=>∀a s,a.length<=100->(∀x∈a,SA x)->r.p<=s.p->s.p<=r.p+20 - 10*i->φ (a,s)):=⟨by
 rintro⟨h0,h1,h2,v0,v1,v2,v3,v4,v5⟩ φ hk
 exact(zGz aa n h0 h1 h2 ((n - i).toNat+1) i o r).ok ⟨by omega,by omega,v0,v1,v2,v3,v4,v5⟩ φ hk⟩
instance zGV(r:zL)(aa:Int):Tot (mU r aa) (0<=r.p/\r.p<=800000000/\0<=aa/\aa<=4) (λφ=>∀a s,SC a->r.p<=s.p->s.p<=r.p+30->φ (a,s)):=⟨by
 rintro⟨h0,h1,h2,h3⟩ φ hk
 unfold mU
 refine Ok.call (zBN r _) ⟨by decide,h0,by omega⟩ λy s g1 g2=>?_
 have hy:y.l.length<=1:=by
  simp only[cE,dd,or_false] at g1
  rcases g1 with rfl|rfl|rfl|rfl <;> decide
 exact Ok.go⟩
theorem zHA(aa:Int)(h0:0<=aa)(h1:aa<=4):∀(k:Nat) (i:Int) (o:List Int) (r:zL),Tot (pI aa i o r) (aa - i<(k:Int)/\0<(k:Int)/\0<=i/\i<=4/\o.length=4/\0<=r.p/\r.p<=900000000+i) (λφ=>∀a s,a.length=4->r.p<=s.p->s.p<=r.p+4 - i->φ (a,s)):=by
 intro k
 induction k with
 | zero=>intro i o r;exact⟨λh=>absurd h.2.1 (by omega)⟩
 | succ k ih=>
  intro i o r;refine⟨?_⟩;rintro⟨v0,v1,v2,v3,v4,v5,v6⟩ φ hk;unfold pI;exact Ok.go
instance zMH(aa:Int)(i:Int)(o:List Int)(r:zL):Tot (pI aa i o r) (0<=aa/\aa<=4/\0<=i/\i<=4/\o.length=4/\0<=r.p/\r.p<=900000000+i) (λφ=>∀a s,a.length=4->r.p<=s.p->s.p<=r.p+4 - i->φ (a,s)):=⟨by
 rintro⟨h0,h1,v0,v1,v2,v3,v4⟩ φ hk
 exact(zHA aa h0 h1 ((aa - i).toNat+1) i o r).ok ⟨by omega,by omega,v0,v1,v2,v3,v4⟩ φ hk⟩
instance zJ5(r:zL)(aa:Int):Tot (jK r aa) (0<=r.p/\r.p<=800000000/\0<=aa/\aa<=4) (λφ=>∀a s,SA a->a.Coefs.length=4->r.p<=s.p->s.p<=r.p+10->φ (a,s)):=⟨by
 rintro⟨h0,h1,h2,h3⟩ φ hk
 unfold jK
 exact Ok.go⟩
def PN:Nat->Nat
 | 0=>50
 | n+1=>2*PN n+50
theorem SE.kids{n:Nat}{k:Int}{l:List zF}(h:l.length<=10)(hl:∀x∈l,SE n x):SE (n+1) (zF.mk k 0 (zA.mk [] 0) (zI.mk ⟨[]⟩ []) l):=⟨SA.nil0,SC.nil,h,hl⟩
theorem zId(aa:Int)(hd0:0<=aa)(hd1:aa<=4):∀(n:Nat) (r:zL) (lv:Int),Tot (qK r aa lv) (lv<=n+1/\0<=lv/\n<=10/\0<=r.p/\r.p+PN n<=800000000) (λφ=>∀e s,SE n e->r.p<=s.p->s.p<=r.p+PN n->φ (e,s)):=by
 intro n;have leaf:∀(m:Nat) (x:zL),Tot (do
  let (y4,y5)<-yW x 4
  if(y4==0) then
   let (y7,y8)<-yV y5 ([1,2,0,99,3]:List Int)
   pure ((zF.mk 1 y7 (zA.mk ([]:List Int) 0) (zI.mk (⟨[]⟩:Str) ([]:List zA)) ([]:List zF)),y8)
  else
   if(y4==1) then
    let (y10,y11)<-jK y5 aa
    pure ((zF.mk 2 0 y10 (zI.mk (⟨[]⟩:Str) ([]:List zA)) ([]:List zF)),y11)
   else
    let (y13,y14)<-mU y5 aa
    pure ((zF.mk 3 0 (zA.mk ([]:List Int) 0) y13 ([]:List zF)),y14)) (0<=x.p/\x.p<=799999999) (λφ=>∀e s,SE m e->x.p<=s.p->s.p<=x.p+40->φ (e,s)):=by
  intro m x;refine⟨?_⟩;rintro⟨h0,h1⟩ φ hk;refine Ok.call (fV x 4) ⟨h0,by omega⟩ λy s k1 k2 k3=>?_;refine Ok.ite_beq (λ_=>?_) λ_=>Ok.ite_beq (λ_=>?_) λ_=>?_
  ·exact Ok.call (uV s _) ⟨by decide,by omega,by omega,by decide⟩ λy3 s3 _ g3 e3=>Ok.pure (hk _ _ (SE.lf SA.nil0 SC.nil) (by omega) (by omega))
  ·exact Ok.call (zJ5 s aa) ⟨by omega,by omega,hd0,hd1⟩ λa s3 g3 _ e3 e4=>Ok.pure (hk _ _ (SE.lf g3 SC.nil) (by omega) (by omega))
  ·exact Ok.call (zGV s aa) ⟨by omega,by omega,hd0,hd1⟩ λa s3 g3 e3 e4=>Ok.pure (hk _ _ (SE.lf SA.nil0 g3) (by omega) (by omega))
 induction n with
 | zero=>
  intro r lv;refine⟨?_⟩;rintro⟨v0,v1,v2,v3,v4⟩ φ hk;unfold qK;dsimp only [same];have hp:PN 0=50:=rfl;refine Ok.bind_ite (Ok.ite_dec (λ_=>Ok.bind_pure (Ok.ite_tt ?_)) λh=>absurd h (by omega));exact(leaf 0 r).ok ⟨v3,by omega⟩ φ λe s g1 g2 g3=>hk e s g1 g2 (by omega)
 | succ n ih=>
  intro r lv;refine⟨?_⟩;rintro⟨v0,v1,v2,v3,v4⟩ φ hk;unfold qK;dsimp only [same];have hp:PN (n+1)=2*PN n+50:=rfl;refine Ok.bind (φ:=λo=>(o.1=false->2<=lv)/\r.p<=o.2.p/\o.2.p<=r.p+1) ?_ ?_
  ·refine Ok.ite_dec (λ_=>Ok.pure ⟨λh=>(by cases h),by dsimp only;omega,by dsimp only;omega⟩) λh=>Ok.call (fV r 4) ⟨v3,by omega⟩ λy s k1 k2 k3=>Ok.pure ⟨λ_=>by omega,by dsimp only;omega,by dsimp only;omega⟩
  rintro⟨t,x⟩ ⟨g1,g2,g3⟩;dsimp only at g1 g2 g3 ⊢;refine Ok.ite (λ_=>?_) λhz=>?_
  ·exact(leaf (n+1) x).ok ⟨by omega,by omega⟩ φ λe s g1 g2 g3=>hk e s g1 (by omega) (by omega)
  have g1:=g1 (by simpa using hz);refine Ok.call (uV x _) ⟨by decide,by omega,by omega,by decide⟩ λy3 s3 _ _ e3=>?_;have hl:∀(k:Nat) (i:Int) (o:List zF) (x1:zL),Tot (oL aa lv i o x1) ((2 - i<=k/\0<=i/\i<=2/\k<=2/\(o.length:Int)=i/\0<=x1.p/\x1.p+k*PN n<=800000000)/\∀x∈o,SE n x) (λφ=>∀a s,a.length<=10->(∀x∈a,SE n x)->x1.p<=s.p->s.p<=x1.p+k*PN n->φ (a,s)):=by
   intro k
   induction k with
   | zero=>intro i o x1;refine⟨?_⟩;rintro⟨⟨a1,a2,a3,a4,a5,a6,a7⟩,a8⟩ φ hk;unfold oL;dsimp only [same];exact Ok.ite_dec (λh=>absurd h (by omega)) λ_=>Ok.pure (hk _ _ (by omega) a8 (by omega) (by omega))
   | succ k ik=>
    intro i o x1;refine⟨?_⟩;rintro⟨⟨a1,a2,a3,a4,a5,a6,a7⟩,a8⟩ φ hk;unfold oL;dsimp only [same];have e1:((k+1:Nat):Int)*PN n=k*PN n+PN n:=by rw[Int.natCast_add,Int.add_mul];simp
    rw[e1] at a7 hk;have hkn:0<=(k:Int)*PN n:=Int.mul_nonneg (by omega) (by omega);refine Ok.ite_dec (λh=>?_) λ_=>Ok.pure (hk _ _ (by omega) a8 (by omega) (by omega));rw[sI (by omega) (by omega)];refine Ok.call (ih x1 _) ⟨by omega,by omega,by omega,by omega,by omega⟩ λe s g1 g2 g3=>Ok.app S ?_;rw[sI (by omega) (by omega)];exact Ok.last (ik _ _ s) ⟨⟨by omega,by omega,by omega,by omega,by simp;omega,by omega,by omega⟩,zHj a8 g1⟩ λa u h1 h2 h3 h4=>hk a u h1 h2 (by omega) (by omega)
  refine Ok.call (hl 2 0 [] s3) ⟨⟨by omega,by omega,by omega,by omega,rfl,by omega,by omega⟩,λ_ h=>absurd h dd⟩ λa u h1 h2 h3 h4=>by
   dsimp only;exact Ok.pure (hk _ u (SE.kids h1 h2) (by omega) (by omega))
instance zIe(r:zL)(aa lv:Int):Tot (qK r aa lv) (0<=r.p/\r.p<=700000000/\0<=aa/\aa<=4/\0<=lv/\lv<=6) (λφ=>∀e s,SE 5 e->r.p<=s.p->s.p<=r.p+5000->φ (e,s)):=⟨λ⟨h0,h1,h2,h3,h4,h5⟩ φ hk=>by
 have hp:PN 5=3150:=rfl
 exact(zId aa h2 h3 5 r lv).ok ⟨by omega,h4,by omega,h0,by omega⟩ φ λe s g1 g2 g3=>hk e s g1 g2 (by omega)⟩
instance zJ6(r:zL)(aa:Int):Tot (gX r aa) (0<=r.p/\r.p<=600000000/\0<=aa/\aa<=4) (λφ=>∀a s,SS a->r.p<=s.p->s.p<=r.p+6000->φ (a,s)):=⟨by
 rintro⟨h0,h1,h2,h3⟩ φ hk
 unfold gX
 refine Ok.call (zGV r aa) ⟨h0,by omega,h2,h3⟩ λa s g1 g2 g3=>?_
 refine Ok.call (uV s _) ⟨by decide,by omega,by omega,by decide⟩ λy3 s3 g4 _ e3=>?_
 simp only[cE,dd,or_false] at g4
 refine Ok.call (zIe s3 aa y3) ⟨by omega,by omega,h2,h3,by omega,by omega⟩ λe u g5 g6 g7=>?_
 have hs:SS (zQ.mk a e):=⟨g1,g5⟩
 refine Ok.call (zC9 _ aa) hs λb _=>Ok.ite (λ_=>Ok.pure (hk _ _ hs (by omega) (by omega))) λ_=>Ok.call eF trivial (Ok.pure (hk _ _ ⟨⟨by decide,by decide,λ_ h=>cx.1 h ▸ SA.c4 (by decide)⟩,SE.lf SA.nil0 SC.nil⟩ (by omega) (by omega)))⟩
theorem zGW(z:List Int)(h0:z.length<=4):∀(k:Nat) (o:List zE) (i:Int),Tot (qN z o i) ((z.length:Int) - i<(k:Int)/\0<(k:Int)/\0<=i/\(o.length:Int)=i/\i<=4/\(∀x∈o,SL1 x)) (λφ=>(∀o,SN 1000 o->φ (.done o))/\(φ (.ret ([],false)))):=by
 intro k
 induction k with
 | zero=>intro o i;exact⟨λh=>absurd h.2.1 (by omega)⟩
 | succ k ih=>
  intro o i;refine⟨?_⟩;rintro⟨v0,v1,v2,v3,v4,v5⟩ φ ⟨hd,hr⟩;unfold qN;refine Ok.ite_dec (λh=>?_) λ_=>Ok.go;refine Ok.bind (φ:=λb=>b=false->∀x,z[i.toNat]?=some x->0<=x/\x<=99) ?_ ?_
  ·refine Ok.idx v2 h λx _ hx=>Ok.ite_dec (λ_=>Ok.pure λh=>by cases h) λg=>Ok.idx_known hx v2 (Ok.pure λhb y hy=>?_);rw[hx] at hy;cases hy
   have:=of_decide_eq_false hb;omega
  intro b hb;refine Ok.ite (λ_=>Ok.pure hr) λhz=>Ok.call eF trivial (Ok.idx v2 h λx _ hx=>Ok.call (mP x) trivial (Ok.app S ?_));obtain⟨b1,b2⟩:=hb (by simpa using hz) x hx;have hx:SL1 (zE.mk [zA.mk [0,0,0,0] 0] [zA.mk [0,0,0,0] x]):=⟨LL.one (SA.c4 (by decide)),LL.one (SA.c4 ⟨by omega,by omega⟩)⟩;exact Ok.go
instance zL9(z:List Int)(o:List zE)(i:Int):Tot (qN z o i) (z.length<=4/\0<=i/\(o.length:Int)=i/\i<=4/\(∀x∈o,SL1 x)) (λφ=>(∀o,SN 1000 o->φ (.done o))/\(φ (.ret ([],false)))):=⟨by
 rintro⟨h0,v0,v1,v2,v3⟩ φ hk
 exact(zGW z h0 (((z.length:Int) - i).toNat+1) o i).ok ⟨by omega,by omega,v0,v1,v2,v3⟩ φ hk⟩
instance zIf(z:List Int):Tot (gB z) (True) (λφ=>∀o b,SN 1000 o->φ (o,b)):=⟨by
 rintro _ φ hk
 unfold gB
 exact Ok.go⟩
theorem SP.one{y:List zE}{a:zQ}(h:SN 1000 y)(ha:SS a):SP 1000 (zN.mk y [a]):=⟨h,cv rfl,λ_ h=>cx.1 h ▸ ha⟩
theorem zHB(y:List zE)(h0:SN 1000 y)(h1:y.length<=4):∀(k:Nat) (o:List zQ) (n:Int) (r:zL),Tot (pP y o n r) (5 - n<(k:Int)/\0<(k:Int)/\0<=n/\n<=5/\o.length<=100/\(∀x∈o,SS x)/\0<=r.p/\r.p+6000*(5 - n)<=500000000) (λφ=>∀a s,a.length<=o.length+1->(∀x∈a,SS x)->r.p<=s.p->s.p<=r.p+6000*(5 - n)->φ (a,s)):=by
 intro k
 induction k with
 | zero=>intro o n r;exact⟨λh=>absurd h.2.1 (by omega)⟩
 | succ k ih=>
  intro o n r;refine⟨?_⟩;rintro⟨v0,v1,v2,v3,v4,v5,v6,v7⟩ φ hk;unfold pP;refine Ok.ite_dec (λh=>?_) λ_=>Ok.go;refine Ok.call (zJ6 r _) ⟨by omega,by omega,by omega,by omega⟩ λa s g1 g2 g3=>Ok.call zBO trivial λl hl=>?_;refine Ok.call (zGQ l _) ⟨hl,SP.one h0 g1⟩ λm b _=>?_;dsimp only;exact Ok.go
instance zMI(y:List zE)(o:List zQ)(n:Int)(r:zL):Tot (pP y o n r) (SN 1000 y/\y.length<=4/\0<=n/\n<=5/\o.length<=100/\(∀x∈o,SS x)/\0<=r.p/\r.p+6000*(5 - n)<=500000000) (λφ=>∀a s,a.length<=o.length+1->(∀x∈a,SS x)->r.p<=s.p->s.p<=r.p+6000*(5 - n)->φ (a,s)):=⟨by
 rintro⟨h0,h1,v0,v1,v2,v3,v4,v5⟩ φ hk
 exact(zHB y h0 h1 ((5 - n).toNat+1) o n r).ok ⟨by omega,by omega,v0,v1,v2,v3,v4,v5⟩ φ hk⟩
theorem zHC(y:List zE)(h0:SN 1000 y)(h1:y.length<=4):∀(k:Nat) (k0:Int) (o:List zQ) (r:zL),Tot (pQ y k0 o r) (k0<(k:Int)/\0<(k:Int)/\0<=k0/\(o.length:Int)+k0<=10/\(∀x∈o,SS x)/\0<=r.p/\r.p+30000*k0<=400000000) (λφ=>∀a s,a.length<=100->(∀x∈a,SS x)->r.p<=s.p->s.p<=r.p+30000*k0->φ (a,s)):=by
 intro k
 induction k with
 | zero=>intro k0 o r;exact⟨λh=>absurd h.2.1 (by omega)⟩
 | succ k ih=>
  intro k0 o r;refine⟨?_⟩;rintro⟨v0,v1,v2,v3,v4,v5,v6⟩ φ hk;unfold pQ;exact Ok.go
instance zHD(y:List zE)(k0:Int)(o:List zQ)(r:zL):Tot (pQ y k0 o r) (SN 1000 y/\y.length<=4/\0<=k0/\(o.length:Int)+k0<=10/\(∀x∈o,SS x)/\0<=r.p/\r.p+30000*k0<=400000000) (λφ=>∀a s,a.length<=100->(∀x∈a,SS x)->r.p<=s.p->s.p<=r.p+30000*k0->φ (a,s)):=⟨by
 rintro⟨h0,h1,v0,v1,v2,v3,v4⟩ φ hk
 exact(zHC y h0 h1 ((k0).toNat+1) k0 o r).ok ⟨by omega,by omega,v0,v1,v2,v3,v4⟩ φ hk⟩
theorem zHE(x:zN):∀(k:Nat) (i:Int) (r:zL),Tot (pR x i r) (4 - i<(k:Int)/\0<(k:Int)/\0<=i/\i<=4/\0<=r.p/\r.p+100000*(4 - i)<=300000000) (λφ=>(∀s,r.p<=s.p->s.p<=r.p+100000*(4 - i)->φ (.done (x,s)))/\(∀a s,SP 1000 a->r.p<=s.p->s.p<=r.p+100000*(4 - i)->φ (.ret (a,s)))):=by
 intro k
 induction k with
 | zero=>intro i r;exact⟨λh=>absurd h.2.1 (by omega)⟩
 | succ k ih=>
  intro i r;refine⟨?_⟩;rintro⟨v0,v1,v2,v3,v4,v5⟩ φ ⟨hd,hr⟩;unfold pR;refine Ok.ite_dec (λh=>?_) λ_=>Ok.go;refine Ok.call (zJ4 r) ⟨v4,by omega⟩ λy s g1 g2 g3 g4=>?_;refine Ok.call (uV s _) ⟨by decide,by omega,by omega,by decide⟩ λn t g5 _ e3=>?_;simp only[cE,dd,or_false] at g5;refine Ok.call (zHD y n [] t) ⟨g1,g2,by omega,by simp;omega,λ_ h=>absurd h dd,by omega,by omega⟩ λb u g6 g7 g8 g9=>Ok.call zBO trivial λl hl=>?_;have hs:SP 1000 (zN.mk y b):=⟨g1,dg g6 (by decide),g7⟩;refine Ok.call (zGQ l _) ⟨hl,hs⟩ λm c _=>?_;dsimp only;refine Ok.bind (φ:=λ_=>True) Ok.go λz _=>Ok.ite (λ_=>Ok.pure (hr _ _ hs (by omega) (by omega))) λ_=>?_;rw[sI (by omega) (by omega)];exact Ok.last (ih _ u) ⟨by omega,by omega,by omega,by omega,by omega,by omega⟩ ⟨λs h1 h2=>hd s (by omega) (by omega),λa s h0 h1 h2=>hr a s h0 (by omega) (by omega)⟩
instance zHF(x:zN)(i:Int)(r:zL):Tot (pR x i r) (0<=i/\i<=4/\0<=r.p/\r.p+100000*(4 - i)<=300000000) (λφ=>(∀s,r.p<=s.p->s.p<=r.p+100000*(4 - i)->φ (.done (x,s)))/\(∀a s,SP 1000 a->r.p<=s.p->s.p<=r.p+100000*(4 - i)->φ (.ret (a,s)))):=⟨by
 rintro⟨v0,v1,v2,v3⟩ φ hk
 exact(zHE x ((4 - i).toNat+1) i r).ok ⟨by omega,by omega,v0,v1,v2,v3⟩ φ hk⟩
instance zN2(r:zL):Tot (fB r) (0<=r.p/\r.p<=200000000) (λφ=>∀a s,SP 1000 a->r.p<=s.p->s.p<=r.p+400000->φ (a,s)):=⟨by
 rintro⟨h0,h1⟩ φ hk
 unfold fB
 refine Ok.call (zHF _ 0 r) ⟨by decide,by decide,h0,by omega⟩ ⟨λs g1 g2=>?_,λa s g1 g2 g3=>Ok.pure (hk _ _ g1 (by omega) (by omega))⟩
 refine Ok.call (zGw _) (by decide) λa b g3=>Ok.call (zIf _) trivial λn c g4=>Ok.pure (hk _ _ (SP.one g4 g3) (by omega) (by omega))⟩
theorem zHG :∀(k:Nat) (i:Int) (o:List zN) (r:zL),Tot (pS i o r) (i<(k:Int)/\0<(k:Int)/\0<=i/\(o.length:Int)+i<=10/\(∀x∈o,SP 1000 x)/\0<=r.p/\r.p+400000*i<=100000000) (λφ=>∀a s,(a.length:Int)=o.length+i->(∀x∈a,SP 1000 x)->r.p<=s.p->s.p<=r.p+400000*i->φ (a,s)):=by
 intro k
 induction k with
 | zero=>intro i o r;exact⟨λh=>absurd h.2.1 (by omega)⟩
 | succ k ih=>
  intro i o r;refine⟨?_⟩;rintro⟨v0,v1,v2,v3,v4,v5,v6⟩ φ hk;unfold pS;exact Ok.go
instance zHH  (i:Int) (o:List zN) (r:zL):Tot (pS i o r) (0<=i/\(o.length:Int)+i<=10/\(∀x∈o,SP 1000 x)/\0<=r.p/\r.p+400000*i<=100000000) (λφ=>∀a s,(a.length:Int)=o.length+i->(∀x∈a,SP 1000 x)->r.p<=s.p->s.p<=r.p+400000*i->φ (a,s)):=⟨by
 rintro⟨v0,v1,v2,v3,v4⟩ φ hk
 exact(zHG ((i).toNat+1) i o r).ok ⟨by omega,by omega,v0,v1,v2,v3,v4⟩ φ hk⟩
instance zJ7(r:zL):Tot (fC r) (0<=r.p/\r.p<=50000000) (λφ=>∀a s,SG 1000 a->r.p<=s.p->s.p<=r.p+2000000->φ (a,s)):=⟨by
 rintro⟨h0,h1⟩ φ hk
 unfold fC
 refine Ok.call zBO trivial λl hl=>Ok.call (uV r _) ⟨by decide,h0,by omega,by decide⟩ λn t g5 _ e3=>?_
 simp only[cE,dd,or_false] at g5
 refine Ok.call (zHH n [] t) ⟨by omega,by simp;omega,λ_ h=>absurd h dd,by omega,by omega⟩ λa s g1 g2 g3 g4=>?_
 simp only[cT] at g1
 have hp:SG 1000 (zD.mk l a):=⟨hl,by dsimp only;omega,g2⟩
 refine Ok.call (zEi _) hp λb _=>Ok.ite (λ_=>Ok.pure (hk _ _ hp (by omega) (by omega))) λ_=>Ok.call zBO trivial λl2 hl2=>?_
 refine Ok.slc (by omega) (by omega) (by omega) λm hm hml=>Ok.pure (hk _ _ ⟨hl2,by dsimp only;omega,λx hx=>g2 x ?_⟩ (by omega) (by omega))
 subst hm
 exact List.mem_of_mem_take (List.mem_of_mem_drop hx)⟩
instance zIg(code:List UInt8):Tot (jW code) (True) (λφ=>∀s,s.p=0->φ s):=⟨by
 rintro _ φ hk
 unfold jW
 exact Ok.go⟩
end Go.LN
