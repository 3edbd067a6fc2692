/- Helper of the proof (see the last text). -/
import Derived.Test.YtkipogionmkncaaGreatDoorQT
import Derived.Test.YtkipogionmkncaaGreatDoorHM7
set_option linter.unusedVariables false
set_option linter.unusedSimpArgs false
namespace Go.LN
def I64(x:Int):Prop:=-9223372036854775808<=x/\x<=9223372036854775807
instance (x:Int):Decidable (I64 x):=inferInstanceAs (Decidable (_/\_))
theorem zMh(x:Int):I64 (W x):=by
 show -9223372036854775808<=IntKind.i64.wrap x/\IntKind.i64.wrap x<=9223372036854775807;rw[IntKind.wrap_i64];omega
instance (x:Int):Sd (I64 (W x)):=⟨zMh x⟩
theorem I64.of{x:Int}(h0:-9223372036854775808<=x)(h1:x<=9223372036854775807):I64 x:=⟨h0,h1⟩
def SA(a:zA):Prop:=a.Coefs.length<=100/\I64 a.Const
def VA(a:zA):Prop:=a.Coefs.length=4/\(∀c∈a.Coefs,I64 c)/\I64 a.Const
def SC(a:zJ):Prop:=a.Array.l.length<=1000000/\a.Subs.length<=100/\∀s∈a.Subs,SA s
def VC(a:zJ):Prop:=a.Array.l.length<=1/\a.Subs.length<=2/\∀s∈a.Subs,VA s
def SE:Nat->zF->Prop
 | 0,e=>SA e.Index/\SC e.Read/\e.Kids=[]
 | n+1,e=>SA e.Index/\SC e.Read/\e.Kids.length<=10/\∀k∈e.Kids,SE n k
def VO(e:zF):Prop:=(e.Kind=1/\I64 e.Num)∨(e.Kind=2/\VA e.Index)∨(e.Kind=3/\VC e.Read)
def VE:Nat->zF->Prop
 | 0,e=>VO e
 | n+1,e=>VO e∨((e.Kind=4∨e.Kind=5∨e.Kind=6)/\e.Kids.length=2/\∀k∈e.Kids,VE n k)
def SS(s:zI):Prop:=SC s.Write/\SE 5 s.Value
def VS(s:zI):Prop:=VC s.Write/\VE 5 s.Value
def LL(l:List zA):Prop:=l.length<=100/\∀a∈l,SA a
def VL(l:List zA):Prop:=1<=l.length/\l.length<=2/\∀a∈l,VA a
def SL1(x:zD):Prop:=LL x.Lo/\LL x.Hi
def VL1(x:zD):Prop:=VL x.Lo/\VL x.Hi
def SN(b:Nat)(l:List zD):Prop:=l.length<=b/\∀x∈l,SL1 x
def VN(l:List zD):Prop:=l.length<=4/\∀x∈l,VL1 x
def SP(b:Nat)(p:zL):Prop:=SN b p.Nest/\p.Body.length<=b/\∀s∈p.Body,SS s
def VP(p:zL):Prop:=VN p.Nest/\p.Body.length<=4/\∀s∈p.Body,VS s
def SR(a:zE):Prop:=a.Name.l.length<=1000000/\a.Dims.length<=100
def VR(a:zE):Prop:=a.Name.l.length=1/\a.Dims.length<=2/\∀d∈a.Dims,I64 d
def SRs(b:Nat)(l:List zE):Prop:=l.length<=b/\∀a∈l,SR a
def VRs(l:List zE):Prop:=l.length<=4/\∀a∈l,VR a
def SG(b:Nat)(p:zH):Prop:=SRs b p.Arrays/\p.Parts.length<=b/\∀q∈p.Parts,SP b q
def VG(p:zH):Prop:=VRs p.Arrays/\p.Parts.length<=4/\∀q∈p.Parts,VP q
instance (a:zA):Su (SA a) (a.Coefs.length<=100/\I64 a.Const):=⟨id⟩
instance (a:zA):Su (VA a) (a.Coefs.length=4/\(∀c∈a.Coefs,I64 c)/\I64 a.Const):=⟨id⟩
instance (a:zJ):Su (SC a) (a.Array.l.length<=1000000/\a.Subs.length<=100/\∀s∈a.Subs,SA s):=⟨id⟩
instance (a:zJ):Su (VC a) (a.Array.l.length<=1/\a.Subs.length<=2/\∀s∈a.Subs,VA s):=⟨id⟩
instance (s:zI):Su (SS s) (SC s.Write/\SE 5 s.Value):=⟨id⟩
instance (s:zI):Su (VS s) (VC s.Write/\VE 5 s.Value):=⟨id⟩
instance (l:List zA):Su (LL l) (l.length<=100/\∀a∈l,SA a):=⟨id⟩
instance (l:List zA):Su (VL l) (1<=l.length/\l.length<=2/\∀a∈l,VA a):=⟨id⟩
instance (x:zD):Su (SL1 x) (LL x.Lo/\LL x.Hi):=⟨id⟩
instance (x:zD):Su (VL1 x) (VL x.Lo/\VL x.Hi):=⟨id⟩
instance (b:Nat) (l:List zD):Su (SN b l) (l.length<=b/\∀x∈l,SL1 x):=⟨id⟩
instance (l:List zD):Su (VN l) (l.length<=4/\∀x∈l,VL1 x):=⟨id⟩
instance (b:Nat) (p:zL):Su (SP b p) (SN b p.Nest/\p.Body.length<=b/\∀s∈p.Body,SS s):=⟨id⟩
instance (p:zL):Su (VP p) (VN p.Nest/\p.Body.length<=4/\∀s∈p.Body,VS s):=⟨id⟩
instance (a:zE):Su (SR a) (a.Name.l.length<=1000000/\a.Dims.length<=100):=⟨id⟩
instance (a:zE):Su (VR a) (a.Name.l.length=1/\a.Dims.length<=2/\∀d∈a.Dims,I64 d):=⟨id⟩
instance (b:Nat) (l:List zE):Su (SRs b l) (l.length<=b/\∀a∈l,SR a):=⟨id⟩
instance (l:List zE):Su (VRs l) (l.length<=4/\∀a∈l,VR a):=⟨id⟩
instance (b:Nat) (p:zH):Su (SG b p) (SRs b p.Arrays/\p.Parts.length<=b/\∀q∈p.Parts,SP b q):=⟨id⟩
instance (p:zH):Su (VG p) (VRs p.Arrays/\p.Parts.length<=4/\∀q∈p.Parts,VP q):=⟨id⟩
instance (x:Int):Su (I64 x) (-9223372036854775808<=x/\x<=9223372036854775807):=⟨id⟩
instance (x:zD):Sw (LL x.Lo) (SL1 x):=⟨And.left⟩
instance (x:zD):Sw (LL x.Hi) (SL1 x):=⟨And.right⟩
instance (s:zI):Sw (SC s.Write) (SS s):=⟨And.left⟩
instance (s:zI):Sw (SE 5 s.Value) (SS s):=⟨And.right⟩
theorem SE.parts:∀{n:Nat}{e:zF},SE n e->SA e.Index/\SC e.Read/\e.Kids.length<=10
 | 0,e,h=>⟨h.1,h.2.1,by rw[h.2.2];simp⟩
 | n+1,e,h=>⟨h.1,h.2.1,h.2.2.1⟩
theorem SE.succ:∀{n:Nat}{e:zF},SE n e->SE (n+1) e
 | 0,e,h=>⟨h.1,h.2.1,by rw[h.2.2];simp,by rw[h.2.2];simp⟩
 | n+1,e,h=>⟨h.1,h.2.1,h.2.2.1,λk hk=>(h.2.2.2 k hk).succ⟩
theorem SE.leaf{e:zF}(h1:SA e.Index)(h2:SC e.Read)(h3:e.Kids=[]):∀{n:Nat},SE n e
 | 0=>⟨h1,h2,h3⟩
 | n+1=>⟨h1,h2,by rw[h3];simp,by rw[h3];simp⟩
theorem SA.nil{c:Int}(h:I64 c):SA (zA.mk [] c):=⟨by simp,h⟩
theorem SA.nil0:SA (zA.mk [] 0):=⟨by simp,by simp[I64]⟩
theorem SC.nil:SC (zJ.mk ⟨[]⟩ []):=by simp[SC]
instance:Sd (SA (zA.mk [] 0)):=⟨SA.nil0⟩
instance:Sd (SC (zJ.mk ⟨[]⟩ [])):=⟨SC.nil⟩
theorem zH3(x:zE)(h0:SR x):∀(k:Nat) (i:Int),Tot (uY x i) ((x.Dims.length:Int) - i<(k:Int)/\0<(k:Int)/\0<=i) (λφ=>(AF x.Dims i I64->φ (.done ()))/\(φ (.ret false))):=by
 have h0:=h0.2;intro k
 induction k with
 | zero=>intro i;exact⟨λh=>absurd h.2.1 (by omega)⟩
 | succ k ih=>
  intro i;refine⟨?_⟩;rintro⟨v0,v1,v2⟩ φ ⟨hd,hr⟩;unfold uY;exact Ok.go
instance zNi(x:zE)(i:Int):Tot (uY x i) (SR x/\0<=i) (λφ=>(AF x.Dims i I64->φ (.done ()))/\(φ (.ret false))):=⟨by
 rintro⟨h0,v0⟩ φ hk
 exact(zH3 x h0 (((x.Dims.length:Int) - i).toNat+1) i).ok ⟨by omega,by omega,v0⟩ φ hk⟩
theorem zH4(l:List zE)(h0:SRs 1000 l):∀(k:Nat) (i:Int),Tot (tZ l i) ((l.length:Int) - i<(k:Int)/\0<(k:Int)/\0<=i) (λφ=>(AF l i VR->φ (.done ()))/\(φ (.ret false))):=by
 obtain⟨qq,kz⟩:=h0;intro k
 induction k with
 | zero=>intro i;exact⟨λh=>absurd h.2.1 (by omega)⟩
 | succ k ih=>
  intro i;refine⟨?_⟩;rintro⟨v0,v1,v2⟩ φ ⟨hd,hr⟩;unfold tZ;exact Ok.go
instance zNj(l:List zE)(i:Int):Tot (tZ l i) (SRs 1000 l/\0<=i) (λφ=>(AF l i VR->φ (.done ()))/\(φ (.ret false))):=⟨by
 rintro⟨h0,v0⟩ φ hk
 exact(zH4 l h0 (((l.length:Int) - i).toNat+1) i).ok ⟨by omega,by omega,v0⟩ φ hk⟩
instance zP8(l:List zE):Tot (jB l) (SRs 1000 l) (λφ=>∀r,(r=true->VRs l)->φ r):=⟨by
 rintro h0 φ hk
 unfold jB
 exact Ok.go⟩
instance zNW(a:zA):Tot (qB a) (SA a) (λφ=>∀r,SA r->r.Coefs.length=a.Coefs.length->φ r):=⟨by
 rintro h0 φ hk
 obtain⟨qq,kz⟩:=h0
 unfold qB
 exact Ok.go⟩
theorem zE2(a:zJ)(h0:SC a):∀(k:Nat) (i:Int) (Subs:List zA),Tot (vQ a i Subs) ((a.Subs.length:Int) - i<(k:Int)/\0<(k:Int)/\0<=i/\(Subs.length:Int)=i/\i<=a.Subs.length/\(∀s∈Subs,SA s)) (λφ=>∀r,r.length<=100->(∀s∈r,SA s)->φ r):=by
 obtain⟨kz,nh,uy⟩:=h0;intro k
 induction k with
 | zero=>intro i Subs;exact⟨λh=>absurd h.2.1 (by omega)⟩
 | succ k ih=>
  intro i Subs;refine⟨?_⟩;rintro⟨v0,v1,v2,v3,v4,v5⟩ φ hk;unfold vQ;exact Ok.go
instance zLs(a:zJ)(i:Int)(Subs:List zA):Tot (vQ a i Subs) (SC a/\0<=i/\(Subs.length:Int)=i/\i<=a.Subs.length/\(∀s∈Subs,SA s)) (λφ=>∀r,r.length<=100->(∀s∈r,SA s)->φ r):=⟨by
 rintro⟨h0,v0,v1,v2,v3⟩ φ hk
 exact(zE2 a h0 (((a.Subs.length:Int) - i).toNat+1) i Subs).ok ⟨by omega,by omega,v0,v1,v2,v3⟩ φ hk⟩
instance zNX(a:zJ):Tot (sJ a) (SC a) (λφ=>∀r,SC r->φ r):=⟨by
 rintro h0 φ hk
 have qq:=h0.1
 unfold sJ
 exact Ok.go⟩
def RN:Nat->Nat
 | 0=>1
 | n+1=>10*RN n+1
theorem zKy:∀(n:Nat) (out:List zJ) (e:zF),Tot (qR out e) (SE n e/\out.length+RN n<=10000000/\∀s∈out,SC s) (λφ=>∀r,r.length<=out.length+RN n->(∀s∈r,SC s)->φ r):=by
 intro n
 induction n with
 | zero=>
  intro out e;refine⟨?_⟩;rintro⟨⟨h1,h2,h3⟩,ho,hs⟩ φ hk;unfold qR;dsimp only [same];simp only[RN] at ho hk;have hl:∀o:List zJ,Tot (uB e o 0) True (λφ=>φ o):=by
   intro o;refine⟨?_⟩;rintro - φ hk;unfold uB;rw[h3];exact Ok.pure hk
  exact Ok.go
 | succ n ih=>
  intro out e;refine⟨?_⟩;rintro⟨⟨h1,h2,h3,h4⟩,ho,hs⟩ φ hk;unfold qR;dsimp only [same];simp only[RN] at ho hk;have hl:∀(k:Nat) (i:Int) (o:List zJ),Tot (uB e o i) (((e.Kids.length:Int) - i<=k/\0<=i/\k<=10)/\o.length+k*RN n<=10000000/\∀s∈o,SC s) (λφ=>∀r,r.length<=o.length+k*RN n->(∀s∈r,SC s)->φ r):=by
   intro k
   induction k with
   | zero=>
    intro i o;refine⟨?_⟩;rintro⟨⟨a1,a2,a3⟩,a4,a5⟩ φ hk;unfold uB;dsimp only [same];exact Ok.go
   | succ k ik=>
    intro i o;refine⟨?_⟩;rintro⟨⟨a1,a2,a3⟩,a4,a5⟩ φ hk;unfold uB;dsimp only [same];have e1:(k+1)*RN n=k*RN n+RN n:=by rw[AE,Nat.one_mul]
    rw[e1] at a4 hk;exact Ok.go
  have hl:=hl 10 0;exact Ok.go
instance zQL(e:zF):Tot (qR [] e) (SE 5 e) (λφ=>∀r,r.length<=111111->(∀s∈r,SC s)->φ r):=⟨λh φ hk=>(zKy 5 [] e).ok ⟨h,by decide,S⟩ φ λr h1 h2=>hk r (by simp[RN] at h1;omega) h2⟩
theorem zJJ(a:zE)(h0:SR a):∀(k:Nat) (n:Int) (i:Int),Tot (rX a n i) ((a.Dims.length:Int) - i<(k:Int)/\0<(k:Int)/\0<=i) (λφ=>∀r,φ r):=by
 have h0:=h0.2;intro k
 induction k with
 | zero=>intro n i;exact⟨λh=>absurd h.2.1 (by omega)⟩
 | succ k ih=>
  intro n i;refine⟨?_⟩;rintro⟨v0,v1,v2⟩ φ hk;unfold rX;exact Ok.go
instance zPJ(a:zE)(n:Int)(i:Int):Tot (rX a n i) (SR a/\0<=i) (λφ=>∀r,φ r):=⟨by
 rintro⟨h0,v0⟩ φ hk
 exact(zJJ a h0 (((a.Dims.length:Int) - i).toNat+1) n i).ok ⟨by omega,by omega,v0⟩ φ hk⟩
instance zQ7(a:zE):Tot (gU a) (SR a) (λφ=>∀r,φ r):=⟨by
 rintro h0 φ hk
 unfold gU
 exact Ok.go⟩
theorem zJK(a:zA)(ag:List Int)(h0:SA a):∀(k:Nat) (n:Int) (i:Int),Tot (rW a ag n i) ((a.Coefs.length:Int) - i<(k:Int)/\0<(k:Int)/\I64 n/\0<=i) (λφ=>∀r,I64 r->φ r):=by
 have h0:=h0.1;intro k
 induction k with
 | zero=>intro n i;exact⟨λh=>absurd h.2.1 (by omega)⟩
 | succ k ih=>
  intro n i;refine⟨?_⟩;rintro⟨v0,v1,v2,v3⟩ φ hk;unfold rW;exact Ok.go
instance zPK(a:zA)(ag:List Int)(n:Int)(i:Int):Tot (rW a ag n i) (SA a/\I64 n/\0<=i) (λφ=>∀r,I64 r->φ r):=⟨by
 rintro⟨h0,v0,v1⟩ φ hk
 exact(zJK a ag h0 (((a.Coefs.length:Int) - i).toNat+1) n i).ok ⟨by omega,by omega,v0,v1⟩ φ hk⟩
instance zQ8(a:zA)(ag:List Int):Tot (oE a ag) (SA a) (λφ=>∀r,I64 r->φ r):=⟨by
 rintro h0 φ hk
 have h1:=h0.2
 unfold oE
 exact Ok.go⟩
theorem zJL(ai:List zE)(a:zJ)(ag:List Int)(i:Int)(h0:SC a)(h1:0<=i)(h2:i<(ai.length:Int)):∀(k:Nat) (n:Int) (k0:Int),Tot (sP ai a ag i n k0) ((a.Subs.length:Int) - k0<(k:Int)/\0<(k:Int)/\0<=k0) (λφ=>(∀r,φ (.done r))/\(∀r,φ (.ret r))):=by
 obtain⟨kz,nh,uy⟩:=h0;intro k
 induction k with
 | zero=>intro n k0;exact⟨λh=>absurd h.2.1 (by omega)⟩
 | succ k ih=>
  intro n k0;refine⟨?_⟩;rintro⟨v0,v1,v2⟩ φ ⟨hd,hr⟩;unfold sP;exact Ok.go
instance zPL(ai:List zE)(a:zJ)(ag:List Int)(i:Int)(n:Int)(k0:Int):Tot (sP ai a ag i n k0) (SC a/\0<=i/\i<(ai.length:Int)/\0<=k0) (λφ=>(∀r,φ (.done r))/\(∀r,φ (.ret r))):=⟨by
 rintro⟨h0,h1,h2,v0⟩ φ hk
 exact(zJL ai a ag i h0 h1 h2 (((a.Subs.length:Int) - k0).toNat+1) n k0).ok ⟨by omega,by omega,v0⟩ φ hk⟩
theorem zJM(ai:List zE)(a:zJ)(ag:List Int)(h0:SC a)(h1:SRs 1000 ai):∀(k:Nat) (base:Int) (i:Int),Tot (sQ ai a ag base i) ((ai.length:Int) - i<(k:Int)/\0<(k:Int)/\0<=i) (λφ=>(φ (.done ()))/\(∀r,φ (.ret r))):=by
 obtain⟨bQ,bB⟩:=h1;intro k
 induction k with
 | zero=>intro base i;exact⟨λh=>absurd h.2.1 (by omega)⟩
 | succ k ih=>
  intro base i;refine⟨?_⟩;rintro⟨v0,v1,v2⟩ φ ⟨hd,hr⟩;unfold sQ;exact Ok.go
instance zPM(ai:List zE)(a:zJ)(ag:List Int)(base:Int)(i:Int):Tot (sQ ai a ag base i) (SC a/\SRs 1000 ai/\0<=i) (λφ=>(φ (.done ()))/\(∀r,φ (.ret r))):=⟨by
 rintro⟨h0,h1,v0⟩ φ hk
 exact(zJM ai a ag h0 h1 (((ai.length:Int) - i).toNat+1) base i).ok ⟨by omega,by omega,v0⟩ φ hk⟩
instance zQ9(ai:List zE)(a:zJ)(ag:List Int):Tot (jJ ai a ag) (SC a/\SRs 1000 ai) (λφ=>∀r,φ r):=⟨by
 rintro⟨h0,h1⟩ φ hk
 unfold jJ
 exact Ok.go⟩
theorem zIU(ai:List zE)(ag:List Int)(y:List zJ)(h0:y.length<=111111)(h1:∀s∈y,SC s)(h2:SRs 1000 ai):∀(k:Nat) (out:List Int) (i:Int),Tot (rB ai ag y out i) ((y.length:Int) - i<(k:Int)/\0<(k:Int)/\0<=i/\(out.length:Int)=i/\i<=(y.length:Int)) (λφ=>(∀o,o.length<=111111->φ (.done o))/\(φ (.ret ([],0,false)))):=by
 intro k
 induction k with
 | zero=>intro out i;exact⟨λh=>absurd h.2.1 (by omega)⟩
 | succ k ih=>
  intro out i;refine⟨?_⟩;rintro⟨v0,v1,v2,v3,v4⟩ φ ⟨hd,hr⟩;unfold rB;exact Ok.go
instance zOV(ai:List zE)(ag:List Int)(y:List zJ)(out:List Int)(i:Int):Tot (rB ai ag y out i) (y.length<=111111/\(∀s∈y,SC s)/\SRs 1000 ai/\0<=i/\(out.length:Int)=i/\i<=(y.length:Int)) (λφ=>(∀o,o.length<=111111->φ (.done o))/\(φ (.ret ([],0,false)))):=⟨by
 rintro⟨h0,h1,h2,v0,v1,v2⟩ φ hk
 exact(zIU ai ag y h0 h1 h2 (((y.length:Int) - i).toNat+1) out i).ok ⟨by omega,by omega,v0,v1,v2⟩ φ hk⟩
instance zQM(ai:List zE)(s:zI)(ag:List Int):Tot (jP ai s ag) (SS s/\SRs 1000 ai) (λφ=>∀a b c,a.length<=111111->φ (a,b,c)):=⟨by
 rintro⟨h0,h1⟩ φ hk
 obtain⟨qq,kz⟩:=h0
 unfold jP
 exact Ok.go⟩
theorem zIV(loop:zD)(p2:List Int)(h0:LL loop.Lo):∀(k:Nat) (lo:Int) (i:Int),Tot (sZ loop p2 lo i) ((loop.Lo.length:Int) - i<(k:Int)/\0<(k:Int)/\I64 lo/\0<=i) (λφ=>∀r,I64 r->φ r):=by
 obtain⟨qq,kz⟩:=h0;intro k
 induction k with
 | zero=>intro lo i;exact⟨λh=>absurd h.2.1 (by omega)⟩
 | succ k ih=>
  intro lo i;refine⟨?_⟩;rintro⟨v0,v1,v2,v3⟩ φ hk;unfold sZ;exact Ok.go
instance zOW(loop:zD)(p2:List Int)(lo:Int)(i:Int):Tot (sZ loop p2 lo i) (LL loop.Lo/\I64 lo/\0<=i) (λφ=>∀r,I64 r->φ r):=⟨by
 rintro⟨h0,v0,v1⟩ φ hk
 exact(zIV loop p2 h0 (((loop.Lo.length:Int) - i).toNat+1) lo i).ok ⟨by omega,by omega,v0,v1⟩ φ hk⟩
theorem zIW(loop:zD)(p2:List Int)(h0:LL loop.Hi):∀(k:Nat) (hi:Int) (i:Int),Tot (rA loop p2 hi i) ((loop.Hi.length:Int) - i<(k:Int)/\0<(k:Int)/\I64 hi/\0<=i) (λφ=>∀r,I64 r->φ r):=by
 obtain⟨qq,kz⟩:=h0;intro k
 induction k with
 | zero=>intro hi i;exact⟨λh=>absurd h.2.1 (by omega)⟩
 | succ k ih=>
  intro hi i;refine⟨?_⟩;rintro⟨v0,v1,v2,v3⟩ φ hk;unfold rA;exact Ok.go
instance zOX(loop:zD)(p2:List Int)(hi:Int)(i:Int):Tot (rA loop p2 hi i) (LL loop.Hi/\I64 hi/\0<=i) (λφ=>∀r,I64 r->φ r):=⟨by
 rintro⟨h0,v0,v1⟩ φ hk
 exact(zIW loop p2 h0 (((loop.Hi.length:Int) - i).toNat+1) hi i).ok ⟨by omega,by omega,v0,v1⟩ φ hk⟩
instance zHJ(loop:zD)(p2:List Int):Tot (kR loop p2) (SL1 loop/\1<=loop.Lo.length/\1<=loop.Hi.length) (λφ=>∀a b,I64 a->I64 b->φ (a,b)):=⟨by
 rintro⟨h0,h1,h2⟩ φ hk
 have qq:=h0;obtain⟨⟨kz,nh⟩,⟨uy,h04⟩⟩:=h0
 unfold kR
 exact Ok.go⟩
instance zP9(n:Int)(cq:Int):Tot (tH n cq) (0<=cq/\cq<=1000000) (λφ=>∀r,(r=true->I64 n)->φ r):=⟨by
 rintro⟨h0,h1⟩ φ hk
 unfold tH
 exact Ok.go⟩
theorem zFD(a:zA)(h0:SA a):∀(k:Nat) (i:Int),Tot (uD a i) ((a.Coefs.length:Int) - i<(k:Int)/\0<(k:Int)/\0<=i) (λφ=>(AF a.Coefs i I64->φ (.done ()))/\(φ (.ret false))):=by
 have kz:=h0.1;intro k
 induction k with
 | zero=>intro i;exact⟨λh=>absurd h.2.1 (by omega)⟩
 | succ k ih=>
  intro i;refine⟨?_⟩;rintro⟨v0,v1,v2⟩ φ ⟨hd,hr⟩;unfold uD;exact Ok.go
instance zMH(a:zA)(i:Int):Tot (uD a i) (SA a/\0<=i) (λφ=>(AF a.Coefs i I64->φ (.done ()))/\(φ (.ret false))):=⟨by
 rintro⟨h0,v0⟩ φ hk
 exact(zFD a h0 (((a.Coefs.length:Int) - i).toNat+1) i).ok ⟨by omega,by omega,v0⟩ φ hk⟩
instance zH5(a:zA):Tot (sA a) (SA a) (λφ=>∀r,(r=true->VA a)->φ r):=⟨by
 rintro h0 φ hk
 have qq:=h0.2
 unfold sA
 exact Ok.go⟩
theorem zIX(a:zA)(h0:SA a):∀(k:Nat) (n:Int) (i:Int),Tot (sY a n i) ((a.Coefs.length:Int) - i<(k:Int)/\0<(k:Int)/\0<=i) (λφ=>∀r,φ r):=by
 have kz:=h0.1;intro k
 induction k with
 | zero=>intro n i;exact⟨λh=>absurd h.2.1 (by omega)⟩
 | succ k ih=>
  intro n i;refine⟨?_⟩;rintro⟨v0,v1,v2⟩ φ hk;unfold sY;exact Ok.go
instance zOY(a:zA)(n:Int)(i:Int):Tot (sY a n i) (SA a/\0<=i) (λφ=>∀r,φ r):=⟨by
 rintro⟨h0,v0⟩ φ hk
 exact(zIX a h0 (((a.Coefs.length:Int) - i).toNat+1) n i).ok ⟨by omega,by omega,v0⟩ φ hk⟩
instance zQN(a:zA):Tot (nK a) (SA a) (λφ=>∀r,φ r):=⟨by
 rintro h0 φ hk
 unfold nK
 exact Ok.go⟩
theorem zJN(ai:List zA)(aa:Int)(h0:LL ai):∀(k:Nat) (i:Int),Tot (rV ai aa i) ((ai.length:Int) - i<(k:Int)/\0<(k:Int)/\0<=i) (λφ=>(AF ai i VA->φ (.done ()))/\(φ (.ret false))):=by
 obtain⟨kz,nh⟩:=h0;intro k
 induction k with
 | zero=>intro i;exact⟨λh=>absurd h.2.1 (by omega)⟩
 | succ k ih=>
  intro i;refine⟨?_⟩;rintro⟨v0,v1,v2⟩ φ ⟨hd,hr⟩;unfold rV;exact Ok.go
instance zPN(ai:List zA)(aa:Int)(i:Int):Tot (rV ai aa i) (LL ai/\0<=i) (λφ=>(AF ai i VA->φ (.done ()))/\(φ (.ret false))):=⟨by
 rintro⟨h0,v0⟩ φ hk
 exact(zJN ai aa h0 (((ai.length:Int) - i).toNat+1) i).ok ⟨by omega,by omega,v0⟩ φ hk⟩
instance zQa(ai:List zA)(aa:Int):Tot (jI ai aa) (LL ai) (λφ=>∀r,(r=true->VL ai)->φ r):=⟨by
 rintro h0 φ hk
 unfold jI
 exact Ok.go⟩
theorem zGu(nest:List zD)(h0:SN 1000 nest):∀(k:Nat) (i:Int),Tot (uG nest i) ((nest.length:Int) - i<(k:Int)/\0<(k:Int)/\0<=i) (λφ=>(((nest.length:Int)<=4->AF nest i VL1)->φ (.done ()))/\(φ (.ret false))):=by
 obtain⟨qq,kz⟩:=h0;intro k
 induction k with
 | zero=>intro i;exact⟨λh=>absurd h.2.1 (by omega)⟩
 | succ k ih=>
  intro i;refine⟨?_⟩;rintro⟨v0,v1,v2⟩ φ ⟨hd,hr⟩;unfold uG;exact Ok.go
instance zNY(nest:List zD)(i:Int):Tot (uG nest i) (SN 1000 nest/\0<=i) (λφ=>(((nest.length:Int)<=4->AF nest i VL1)->φ (.done ()))/\(φ (.ret false))):=⟨by
 rintro⟨h0,v0⟩ φ hk
 exact(zGu nest h0 (((nest.length:Int) - i).toNat+1) i).ok ⟨by omega,by omega,v0⟩ φ hk⟩
instance zPO(nest:List zD):Tot (mT nest) (SN 1000 nest) (λφ=>∀r,(r=true->VN nest)->φ r):=⟨by
 rintro h0 φ hk
 unfold mT
 exact Ok.go⟩
theorem VN.get{nest:List zD}{x:zD}(h:VN nest)(hx:x∈nest):1<=x.Lo.length/\1<=x.Hi.length:=⟨(h.2 x hx).1.1,(h.2 x hx).2.1⟩
theorem zKJ(nest:List zD)(hn:SN 1000 nest)(hv:VN nest):∀(d:Nat) (o:List (List Int)) (p2:List Int),Tot (sM o nest p2) (p2.length+d=nest.length/\o.length<=120/\(∀q∈o,q.length<=4)) (λφ=>∀r,r.length<=121->(∀q∈r,q.length<=4)->φ r):=by
 obtain⟨hn1,hn2⟩:=hn;have hv1:=hv.1;intro d
 induction d with
 | zero=>
  intro o p2;refine⟨?_⟩;rintro⟨hp,ho,hq⟩ φ hk;unfold sM;dsimp only [same];exact Ok.ite_beq (λh=>Ok.go) λh=>absurd h (by omega)
 | succ d ih=>
  intro o p2;refine⟨?_⟩;rintro⟨hp,ho,hq⟩ φ hk;unfold sM;dsimp only [same];have f6:∀(y2:Int) (k:Nat) (v:Int) (o:List (List Int)),Tot (rK nest p2 y2 o v) ((y2 - v<=k/\I64 v/\I64 y2/\o.length<=121)/\(∀q∈o,q.length<=4)) (λφ=>∀r,r.length<=121->(∀q∈r,q.length<=4)->φ r):=by
   intro y2 k
   induction k with
   | zero=>intro v o;refine⟨?_⟩;rintro⟨⟨a1,⟨a2,a5⟩,⟨a6,a7⟩,a3⟩,a4⟩ φ hk;unfold rK;dsimp only [same];exact Ok.go
   | succ k ik=>
    intro v o;refine⟨?_⟩;rintro⟨⟨a1,⟨a2,a5⟩,⟨a6,a7⟩,a3⟩,a4⟩ φ hk;unfold rK;dsimp only [same];exact Ok.go
  refine Ok.ite_beq (λh=>absurd h (by omega)) λh=>Ok.idx (by omega) (by omega) λx hx _=>?_;obtain⟨g1,g2⟩:=VN.get hv hx;refine Ok.call (zHJ x p2) ⟨hn2 x hx,g1,g2⟩ ?_;intro a b ha hb;have f6:=f6 b (b - a).toNat;exact Ok.go
instance zPa(nest:List zD):Tot (sM [] nest []) (SN 1000 nest/\VN nest) (λφ=>∀r,r.length<=121->(∀q∈r,q.length<=4)->φ r):=⟨λ⟨h,hv⟩ φ hk=>(zKJ nest h hv nest.length [] []).ok ⟨by simp,by simp,by simp⟩ φ hk⟩
theorem zMI(nest:List zD)(hn:SN 1000 nest)(hv:VN nest):∀(d:Nat) (p2:List Int) (cq:Int),Tot (qZ nest p2 cq) (p2.length+d=nest.length) (λφ=>∀r,φ r):=by
 obtain⟨hn1,hn2⟩:=hn;have hv1:=hv.1;intro d
 induction d with
 | zero=>
  intro p2 cq;refine⟨?_⟩;rintro hp φ hk;unfold qZ;dsimp only [same];exact Ok.ite_beq (λh=>Ok.go) λh=>absurd h (by omega)
 | succ d ih=>
  intro p2 cq;refine⟨?_⟩;rintro hp φ hk;unfold qZ;dsimp only [same];have f6:∀(y2:Int) (k:Nat) (n v:Int),Tot (pF nest p2 cq y2 n v) (y2 - v<=k/\I64 v/\I64 y2) (λφ=>∀r,φ r):=by
   intro y2 k
   induction k with
   | zero=>intro n v;refine⟨?_⟩;rintro⟨a1,⟨a2,a5⟩,⟨a6,a7⟩⟩ φ hk;unfold pF;dsimp only [same];exact Ok.go
   | succ k ik=>
    intro n v;refine⟨?_⟩;rintro⟨a1,⟨a2,a5⟩,⟨a6,a7⟩⟩ φ hk;unfold pF;dsimp only [same];exact Ok.go
  refine Ok.ite_beq (λh=>absurd h (by omega)) λh=>Ok.idx (by omega) (by omega) λx hx _=>?_;obtain⟨g1,g2⟩:=VN.get hv hx;refine Ok.call (zHJ x p2) ⟨hn2 x hx,g1,g2⟩ ?_;intro a b ha hb;have f6:=f6 b (b - a).toNat;exact Ok.go
instance zQb(nest:List zD)(cq:Int):Tot (qZ nest [] cq) (SN 1000 nest/\VN nest) (λφ=>∀r,φ r):=⟨λ⟨h,hv⟩ φ hk=>(zMI nest h hv nest.length [] cq).ok (by simp) φ hk⟩
instance zOZ(nest:List zD):Tot (nM nest) (SN 1000 nest) (λφ=>∀a b,a.length<=120->(∀q∈a,q.length<=4)->(b=true->VN nest)->φ (a,b)):=⟨by
 rintro h0 φ hk
 unfold nM
 exact Ok.go⟩
theorem zH6(a:zJ)(aa:Int)(h0:SC a):∀(k:Nat) (i:Int),Tot (sB a aa i) ((a.Subs.length:Int) - i<(k:Int)/\0<(k:Int)/\0<=i) (λφ=>(AF a.Subs i VA->φ (.done ()))/\(φ (.ret false))):=by
 obtain⟨kz,nh,uy⟩:=h0;intro k
 induction k with
 | zero=>intro i;exact⟨λh=>absurd h.2.1 (by omega)⟩
 | succ k ih=>
  intro i;refine⟨?_⟩;rintro⟨v0,v1,v2⟩ φ ⟨hd,hr⟩;unfold sB;exact Ok.go
instance zNk(a:zJ)(aa:Int)(i:Int):Tot (sB a aa i) (SC a/\0<=i) (λφ=>(AF a.Subs i VA->φ (.done ()))/\(φ (.ret false))):=⟨by
 rintro⟨h0,v0⟩ φ hk
 exact(zH6 a aa h0 (((a.Subs.length:Int) - i).toNat+1) i).ok ⟨by omega,by omega,v0⟩ φ hk⟩
instance zPb(a:zJ)(aa:Int):Tot (mF a aa) (SC a) (λφ=>∀r,(r=true->VC a)->φ r):=⟨by
 rintro h0 φ hk
 unfold mF
 exact Ok.go⟩
instance zIY(cv:Int):Tot (gT cv) (True) (λφ=>∀r,(r=0/\(cv=1∨cv=2∨cv=3))∨(r=2/\(cv=4∨cv=5∨cv=6))∨r=-1->φ r):=⟨by
 rintro _ φ hk
 unfold gT
 exact Ok.go⟩
instance zQO(a:zJ):Tot (nL a) (True) (λφ=>∀r:Bool,φ r):=⟨by
 rintro _ φ hk
 unfold nL
 exact Ok.go⟩
instance zQc(a:zA):Tot (kI a) (True) (λφ=>∀r:Bool,φ r):=⟨by
 rintro _ φ hk
 unfold kI
 exact Ok.go⟩
instance zJi(e:zF)(aa:Int):Tot (fW e aa) (SA e.Index/\SC e.Read) (λφ=>∀r,(r=true->e.Kind=1->I64 e.Num)->(r=true->e.Kind=2->VA e.Index)->(r=true->e.Kind=3->VC e.Read)->φ r):=⟨by
 rintro⟨h0,h1⟩ φ hk
 unfold fW
 exact Ok.go⟩
theorem zKz:∀(n:Nat) (e:zF) (aa ak:Int),Tot (rU e aa ak) (SE n e/\ak<=100) (λφ=>∀r,(r=true->VE n e)->φ r):=by
 intro n
 induction n with
 | zero=>
  intro e aa ak;refine⟨?_⟩;rintro⟨⟨h1,h2,h3⟩,vc⟩ φ hk;have hl:∀lv,Tot (tJ e aa lv 0) True (λφ=>φ (.done ())):=by
   intro lv;refine⟨?_⟩;rintro - φ hk;unfold tJ;rw[h3];exact Ok.pure hk
  have aP:e.Kids.length=0:=by rw[h3];rfl
  unfold rU;dsimp only [same];refine Ok.bind (φ:=λb=>b=false->VO e) ?_ ?_
  ·refine Ok.ite_dec (λh=>Ok.pure λh=>by cases h) λh=>Ok.call (zIY _) trivial ?_;intro r hr;refine Ok.ite_bne (λh=>Ok.pure λh=>by cases h) λh=>Ok.call (zJi e aa) ⟨h1,h2⟩ ?_;intro b b1 b2 b3;refine Ok.pure λhb=>?_;have hb:b=true:=by simpa using hb
   have:e.Kind=1∨e.Kind=2∨e.Kind=3:=by omega
   rcases this with h|h|h
   ·exact .inl ⟨h,b1 hb h⟩
   ·exact .inr (.inl ⟨h,b2 hb h⟩)
   ·exact .inr (.inr ⟨h,b3 hb h⟩)
  ·intro b hb;refine Ok.ite (λ_=>Ok.pure (hk _ λh=>by cases h)) λhz=>?_;have hz:VO e:=hb (by simpa using hz);exact Ok.go
 | succ n ih=>
  intro e aa ak;refine⟨?_⟩;rintro⟨⟨h1,h2,h3,h4⟩,vc⟩ φ hk;unfold rU;dsimp only [same];refine Ok.bind (φ:=λb=>b=false->1<=ak/\(VO e∨((e.Kind=4∨e.Kind=5∨e.Kind=6)/\e.Kids.length=2))) ?_ ?_
  ·refine Ok.ite_dec (λh=>Ok.pure λh=>by cases h) λh=>Ok.call (zIY _) trivial ?_;intro r hr;refine Ok.ite_bne (λh=>Ok.pure λh=>by cases h) λh=>Ok.call (zJi e aa) ⟨h1,h2⟩ ?_;intro b b1 b2 b3;refine Ok.pure λhb=>⟨by omega,?_⟩;have hb:b=true:=by simpa using hb
   have:e.Kind=1∨e.Kind=2∨e.Kind=3∨((e.Kind=4∨e.Kind=5∨e.Kind=6)/\e.Kids.length=2):=by omega
   rcases this with h|h|h|h
   ·exact .inl (.inl ⟨h,b1 hb h⟩)
   ·exact .inl (.inr (.inl ⟨h,b2 hb h⟩))
   ·exact .inl (.inr (.inr ⟨h,b3 hb h⟩))
   ·exact .inr h
  ·intro b hb;refine Ok.ite (λ_=>Ok.pure (hk _ λh=>by cases h)) λhz=>?_;obtain⟨g1,g2⟩:=hb (by simpa using hz);have hl:∀(k:Nat) (i:Int),Tot (tJ e aa ak i) ((e.Kids.length:Int) - i<=k/\0<=i) (λφ=>(AF e.Kids i (VE n)->φ (.done ()))/\φ (.ret false)):=by
    intro k
    induction k with
    | zero=>intro i;refine⟨?_⟩;rintro⟨a1,a2⟩ φ ⟨hd,hr⟩;unfold tJ;dsimp only [same];exact Ok.go
    | succ k ik=>
     intro i;refine⟨?_⟩;rintro⟨a1,a2⟩ φ ⟨hd,hr⟩;unfold tJ;dsimp only [same];exact Ok.go
   refine Ok.call (hl _ 0) ⟨Int.le_of_eq (Int.sub_zero _),by omega⟩ ⟨λhA=>Ok.pure (hk _ λ_=>?_),Ok.pure (hk _ λh=>by cases h)⟩;exact g2.elim .inl λg=>.inr ⟨g.1,g.2,AF.all hA⟩
instance zPc(e:zF)(aa ak:Int):Tot (rU e aa ak) (SE 5 e/\ak<=100) (λφ=>∀r,(r=true->VE 5 e)->φ r):=zKz 5 e aa ak
theorem zLA:∀(n:Nat) (e:zF) (ak:Int),Tot (qQ e ak) (SE n e/\ak<=100) (λφ=>∀r,φ r):=by
 intro n
 induction n with
 | zero=>
  intro e ak;refine⟨?_⟩;rintro⟨⟨h1,h2,h3⟩,vc⟩ φ hk;unfold qQ;dsimp only [same];unfold tK;have aP:e.Kids.length=0:=by rw[h3];rfl
  rw[aP];exact Ok.go
 | succ n ih=>
  intro e ak;refine⟨?_⟩;rintro⟨⟨h1,h2,h3,h4⟩,vc⟩ φ hk;unfold qQ;dsimp only [same];have hl:∀(k:Nat) (m i:Int),Tot (tK e ak m i) ((e.Kids.length:Int) - i<=k/\0<=i) (λφ=>∀r,φ r):=by
   intro k
   induction k with
   | zero=>intro m i;refine⟨?_⟩;rintro⟨a1,a2⟩ φ hk;unfold tK;dsimp only [same];exact Ok.go
   | succ k ik=>intro m i;refine⟨?_⟩;rintro⟨a1,a2⟩ φ hk;unfold tK;dsimp only [same];exact Ok.go
  have hl:=hl e.Kids.length;exact Ok.go
instance zPd(e:zF)(ak:Int):Tot (qQ e ak) (SE 5 e/\ak<=100) (λφ=>∀r,φ r):=zLA 5 e ak
instance zE6(s:zI)(aa:Int):Tot (pE s aa) (SS s) (λφ=>∀r,(r=true->VS s)->φ r):=⟨by
 rintro h0 φ hk
 unfold pE
 exact Ok.go⟩
theorem zIZ(p:List Int)(h0:p.length<=4):∀(k:Nat) (i:Int),Tot (rC p i) ((p.length:Int) - i<(k:Int)/\0<(k:Int)/\0<=i) (λφ=>(φ (.done ()))/\(φ (.ret false))):=by
 intro k
 induction k with
 | zero=>intro i;exact⟨λh=>absurd h.2.1 (by omega)⟩
 | succ k ih=>
  intro i;refine⟨?_⟩;rintro⟨v0,v1,v2⟩ φ ⟨hd,hr⟩;unfold rC;exact Ok.go
instance zO0(p:List Int)(i:Int):Tot (rC p i) (p.length<=4/\0<=i) (λφ=>(φ (.done ()))/\(φ (.ret false))):=⟨by
 rintro⟨h0,v0⟩ φ hk
 exact(zIZ p h0 (((p.length:Int) - i).toNat+1) i).ok ⟨by omega,by omega,v0⟩ φ hk⟩
instance zQP(p:List Int):Tot (jQ p) (p.length<=4) (λφ=>∀r:Bool,φ r):=⟨by
 rintro h0 φ hk
 unfold jQ
 exact Ok.go⟩
theorem zJO(ai:List zE)(part:zL)(y1:List (List Int))(i:Int)(h0:SRs 1000 ai)(h1:SP 1000 part)(h2:y1.length<=121)(h3:∀q∈y1,q.length<=4)(h4:0<=i)(h5:i<(part.Body.length:Int)):∀(k:Nat) (k0:Int),Tot (sR ai part y1 i k0) ((y1.length:Int) - k0<(k:Int)/\0<(k:Int)/\0<=k0) (λφ=>(φ (.done ()))/\(φ (.ret (0,false)))):=by
 obtain⟨bB,bW,cy⟩:=h1;intro k
 induction k with
 | zero=>intro k0;exact⟨λh=>absurd h.2.1 (by omega)⟩
 | succ k ih=>
  intro k0;refine⟨?_⟩;rintro⟨v0,v1,v2⟩ φ ⟨hd,hr⟩;unfold sR;exact Ok.go
instance zPP(ai:List zE)(part:zL)(y1:List (List Int))(i:Int)(k0:Int):Tot (sR ai part y1 i k0) (SRs 1000 ai/\SP 1000 part/\y1.length<=121/\(∀q∈y1,q.length<=4)/\0<=i/\i<(part.Body.length:Int)/\0<=k0) (λφ=>(φ (.done ()))/\(φ (.ret (0,false)))):=⟨by
 rintro⟨h0,h1,h2,h3,h4,h5,v0⟩ φ hk
 exact(zJO ai part y1 i h0 h1 h2 h3 h4 h5 (((y1.length:Int) - k0).toNat+1) k0).ok ⟨by omega,by omega,v0⟩ φ hk⟩
theorem zJP(ai:List zE)(part:zL)(y1:List (List Int))(h0:SRs 1000 ai)(h1:SP 1000 part)(h2:y1.length<=121)(h3:∀q∈y1,q.length<=4):∀(k:Nat) (i:Int),Tot (sS ai part y1 i) ((part.Body.length:Int) - i<(k:Int)/\0<(k:Int)/\0<=i) (λφ=>(AF part.Body i VS->φ (.done ()))/\(φ (.ret (0,false)))):=by
 have bQ:=h1;obtain⟨bB,bW,cy⟩:=h1;intro k
 induction k with
 | zero=>intro i;exact⟨λh=>absurd h.2.1 (by omega)⟩
 | succ k ih=>
  intro i;refine⟨?_⟩;rintro⟨v0,v1,v2⟩ φ ⟨hd,hr⟩;unfold sS;exact Ok.go
instance zPQ(ai:List zE)(part:zL)(y1:List (List Int))(i:Int):Tot (sS ai part y1 i) (SRs 1000 ai/\SP 1000 part/\y1.length<=121/\(∀q∈y1,q.length<=4)/\0<=i) (λφ=>(AF part.Body i VS->φ (.done ()))/\(φ (.ret (0,false)))):=⟨by
 rintro⟨h0,h1,h2,h3,v0⟩ φ hk
 exact(zJP ai part y1 h0 h1 h2 h3 (((part.Body.length:Int) - i).toNat+1) i).ok ⟨by omega,by omega,v0⟩ φ hk⟩
instance zI0(ai:List zE)(part:zL):Tot (kJ ai part) (SRs 1000 ai/\SP 1000 part) (λφ=>∀n b,(b=true->VP part)->φ (n,b)):=⟨by
 rintro⟨h0,h1⟩ φ hk
 obtain⟨bB,bW,cy⟩:=id h1
 unfold kJ
 exact Ok.go⟩
theorem zE3(p:zH)(h0:SG 1000 p):∀(k:Nat) (ed:Int) (i:Int),Tot (vR p ed i) ((p.Parts.length:Int) - i<(k:Int)/\0<(k:Int)/\0<=i) (λφ=>(∀n,AF p.Parts i VP->φ (.done n))/\(φ (.ret false))):=by
 obtain⟨kz,nh,uy⟩:=h0;intro k
 induction k with
 | zero=>intro ed i;exact⟨λh=>absurd h.2.1 (by omega)⟩
 | succ k ih=>
  intro ed i;refine⟨?_⟩;rintro⟨v0,v1,v2⟩ φ ⟨hd,hr⟩;unfold vR;exact Ok.go
instance zLt(p:zH)(ed:Int)(i:Int):Tot (vR p ed i) (SG 1000 p/\0<=i) (λφ=>(∀n,AF p.Parts i VP->φ (.done n))/\(φ (.ret false))):=⟨by
 rintro⟨h0,v0⟩ φ hk
 exact(zE3 p h0 (((p.Parts.length:Int) - i).toNat+1) ed i).ok ⟨by omega,by omega,v0⟩ φ hk⟩
instance zCb(p:zH):Tot (uH p) (SG 1000 p) (λφ=>∀r,(r=true->VG p)->φ r):=⟨by
 rintro h0 φ hk
 obtain⟨kz,nh,uy⟩:=id h0
 unfold uH
 exact Ok.go⟩
def InI(p:zH)(x:yE):Prop:=(0<=x.Part/\x.Part<(p.Parts.length:Int))/\∀q,p.Parts[x.Part.toNat]?=some q->0<=x.Stmt/\x.Stmt<(q.Body.length:Int)
theorem InI.mk{p:zH}{x:yE}{q:zL}(h0:0<=x.Part)(h1:x.Part<(p.Parts.length:Int))(hq:p.Parts[x.Part.toNat]?=some q)(h2:0<=x.Stmt)(h3:x.Stmt<(q.Body.length:Int)):InI p x:=
 ⟨⟨h0,h1⟩,λq' h=>by rw[hq] at h;cases h;exact⟨h2,h3⟩⟩
theorem zFt{a n:Int}(ha:0<=a)(hn:0<n):0<=a.tmod n/\a.tmod n<n:=by
 rw[Int.tmod_eq_emod_of_nonneg ha];exact⟨Int.emod_nonneg _ (by omega),Int.emod_lt_of_pos _ hn⟩
theorem zPe{a b:Int}(ha:0<=a)(xa:a<4611686018427387904)(hb:0<=b)(ld:b<4611686018427387904):
 0<=W (((BitVec.ofInt IntKind.i64.bits a ^^^ BitVec.ofInt IntKind.i64.bits b).toNat:Nat):Int):=by
 have e:(BitVec.ofInt IntKind.i64.bits a ^^^ BitVec.ofInt IntKind.i64.bits b).toNat<4611686018427387904:=by
  rw[BitVec.toNat_xor]
  have h1:(BitVec.ofInt IntKind.i64.bits a).toNat=a.toNat:=by
   rw[BitVec.toNat_ofInt];show (a % ((2 ^ 64:Nat):Int)).toNat=_;omega
  have h2:(BitVec.ofInt IntKind.i64.bits b).toNat=b.toNat:=by
   rw[BitVec.toNat_ofInt];show (b % ((2 ^ 64:Nat):Int)).toNat=_;omega
  rw[h1,h2]
  exact Nat.xor_lt_two_pow (n:=62) (by omega) (by omega)
 rw[tV (by omega) (by omega)];omega
instance eK(r:zP)(n:Int):Tot (xF r n) (0<=r.p/\r.p<=1000000000) (λφ=>∀y s,0<=y->(y<n∨y=0)->s.p=r.p+1->φ (y,s)):=⟨by
 rintro⟨h0,h1⟩ φ hk
 unfold xF
 rw[tV (x:=r.p+1) (by omega) (by omega),tV (x:=r.p+1 - 1) (by omega) (by omega)]
 refine Ok.bind_ite (Ok.ite_dec (λ_=>Ok.bind_pure (Ok.ite_tt (Ok.pure (hk _ _ S S rfl)))) λhn=>Ok.bind_pure (Ok.ite_beq (λ_=>Ok.pure (hk _ _ S S rfl)) λhb=>?_))
 refine Ok.ite_dec (λhp=>Ok.idx (by omega) (by omega) λx _ _=>?_) λhp=>?_
 ·refine Ok.rem (by omega) (Ok.pure ?_)
  have hx:=x.toNat_lt
  have:=zFt (a:=(x.toNat:Int)) (n:=n) (by omega) (by omega)
  rw[tV (by omega) (by omega)]
  exact hk _ _ this.1 (.inl this.2) rfl
 ·refine Ok.rem (by omega) ?_
  have hp:=zFt (a:=r.p+1 - 1) (n:=(r.b.length:Int)) (by omega) (by omega)
  refine Ok.idx hp.1 hp.2 λx1 _ _=>?_
  rw[tV (x:=(r.p+1 - 1)*7) (by omega) (by omega),tV (x:=(r.p+1 - 1)*7+3) (by omega) (by omega)]
  refine Ok.rem (by omega) ?_
  have hq:=zFt (a:=(r.p+1 - 1)*7+3) (n:=(r.b.length:Int)) (by omega) (by omega)
  refine Ok.idx hq.1 hq.2 λx2 _ _=>?_
  refine Ok.quo (by omega) ?_
  have hd:0<=(r.p+1 - 1).tdiv (r.b.length:Int)/\(r.p+1 - 1).tdiv (r.b.length:Int)<=1000000000:=by
   rw[AL (by omega)]
   exact⟨Int.ediv_nonneg (by omega) (by omega),Int.le_trans (Int.ediv_le_self _ (by omega)) (by omega)⟩
  have e1:=x1.toNat_lt
  have e2:=x2.toNat_lt
  generalize (r.p+1 - 1).tdiv (r.b.length:Int)=q3 at hd ⊢
  simp(disch:=omega) only [tV]
  refine Ok.rem (by omega) ?_
  generalize hX:(x1.toNat:Int)*131+(x2.toNat:Int)*1117+(r.p+1 - 1)*29+q3*53=X
  have hX0:0<=X:=by omega
  have hX1:X<4611686018427387904:=by omega
  have hT:0<=X.tdiv 64/\X.tdiv 64<4611686018427387904:=by rw[AL hX0];omega
  rw[tV (x:=X.tdiv 64) (by omega) (by omega)]
  have hw:=zFt (zPe hX0 hX1 hT.1 hT.2) (n:=n) (by omega)
  exact Ok.pure (hk _ _ hw.1 (.inl hw.2) rfl)⟩
instance zBP(r:zP)(l:List Str):Tot (mG r l) (0<l.length/\0<=r.p/\r.p<=1000000000) (λφ=>∀y s,y∈l->s.p=r.p+1->φ (y,s)):=⟨by
 rintro⟨h0,h1,h2⟩ φ hk
 unfold mG
 exact Ok.go⟩
instance rF(r:zP)(l:List Int):Tot (xL r l) (0<l.length/\0<=r.p/\r.p<=1000000000/\(∀x∈l,I64 x)) (λφ=>∀y s,y∈l->I64 y->s.p=r.p+1->φ (y,s)):=⟨by
 rintro⟨h0,h1,h2,h3⟩ φ hk
 unfold xL
 exact Ok.go⟩
theorem zJQ(s:Str)(c:UInt8)(h0:s.l.length<=1000000):∀(k:Nat) (out:List Str) (f:Int) (i:Int),Tot (sT s c out f i) ((s.l.length:Int)+1 - i<(k:Int)/\0<(k:Int)/\0<=f/\f<=i/\i<=(s.l.length:Int)+1/\(out.length:Int)<=i/\(∀x∈out,x.l.length<=s.l.length)) (λφ=>∀r,r.length<=s.l.length+1->(∀x∈r,x.l.length<=s.l.length)->φ r):=by
 intro k
 induction k with
 | zero=>intro out f i;exact⟨λh=>absurd h.2.1 (by omega)⟩
 | succ k ih=>
  intro out f i;refine⟨?_⟩;rintro⟨v0,v1,v2,v3,v4,v5,v6⟩ φ hk;unfold sT;exact Ok.go
instance zPR(s:Str)(c:UInt8)(out:List Str)(f:Int)(i:Int):Tot (sT s c out f i) (s.l.length<=1000000/\0<=f/\f<=i/\i<=(s.l.length:Int)+1/\(out.length:Int)<=i/\(∀x∈out,x.l.length<=s.l.length)) (λφ=>∀r,r.length<=s.l.length+1->(∀x∈r,x.l.length<=s.l.length)->φ r):=⟨by
 rintro⟨h0,v0,v1,v2,v3,v4⟩ φ hk
 exact(zJQ s c h0 (((s.l.length:Int)+1 - i).toNat+1) out f i).ok ⟨by omega,by omega,v0,v1,v2,v3,v4⟩ φ hk⟩
instance zI1(s:Str)(c:UInt8):Tot (kL s c) (s.l.length<=1000000) (λφ=>∀r,r.length<=s.l.length+1->(∀x∈r,x.l.length<=s.l.length)->φ r):=⟨by
 rintro h0 φ hk
 unfold kL
 exact Ok.go⟩
theorem zH7(y:List Str)(b:Nat)(h0:y.length<=1000001)(h1:∀x∈y,x.l.length<=b):∀(k:Nat) (out:List Str) (i:Int),Tot (sE y out i) ((y.length:Int) - i<(k:Int)/\0<(k:Int)/\0<=i/\i<=(y.length:Int)/\(out.length:Int)<=i/\(∀x∈out,x.l.length<=b)) (λφ=>∀r,r.length<=y.length->(∀x∈r,x.l.length<=b)->φ r):=by
 intro k
 induction k with
 | zero=>intro out i;exact⟨λh=>absurd h.2.1 (by omega)⟩
 | succ k ih=>
  intro out i;refine⟨?_⟩;rintro⟨v0,v1,v2,v3,v4,v5⟩ φ hk;unfold sE;exact Ok.go
theorem zH8(y:List Str)(b:Nat)(out:List Str)(i:Int):Tot (sE y out i) (y.length<=1000001/\(∀x∈y,x.l.length<=b)/\0<=i/\i<=(y.length:Int)/\(out.length:Int)<=i/\(∀x∈out,x.l.length<=b)) (λφ=>∀r,r.length<=y.length->(∀x∈r,x.l.length<=b)->φ r):=⟨by
 rintro⟨h0,h1,v0,v1,v2,v3⟩ φ hk;exact(zH7 y b h0 h1 (((y.length:Int) - i).toNat+1) out i).ok ⟨by omega,by omega,v0,v1,v2,v3⟩ φ hk⟩
instance zFu(s:Str):Tot (mK s) (s.l.length<=1000000) (λφ=>∀r,r.length<=s.l.length+1->(∀x∈r,x.l.length<=s.l.length)->φ r):=⟨by
 rintro h0 φ hk
 unfold mK
 have tl:=λy=>zH8 y s.l.length
 exact Ok.go⟩
theorem zJR(s:Str)(h0:s.l.length<=1000000):∀(k:Nat) (n:Int) (i:Int),Tot (uV s n i) ((s.l.length:Int) - i<(k:Int)/\0<(k:Int)/\I64 n/\0<=i) (λφ=>(∀n,I64 n->φ (.done n))/\(φ (.ret (0,false)))):=by
 intro k
 induction k with
 | zero=>intro n i;exact⟨λh=>absurd h.2.1 (by omega)⟩
 | succ k ih=>
  intro n i;refine⟨?_⟩;rintro⟨v0,v1,v2,v3⟩ φ ⟨hd,hr⟩;unfold uV;exact Ok.go
instance zPS(s:Str)(n:Int)(i:Int):Tot (uV s n i) (s.l.length<=1000000/\I64 n/\0<=i) (λφ=>(∀n,I64 n->φ (.done n))/\(φ (.ret (0,false)))):=⟨by
 rintro⟨h0,v0,v1⟩ φ hk
 exact(zJR s h0 (((s.l.length:Int) - i).toNat+1) n i).ok ⟨by omega,by omega,v0,v1⟩ φ hk⟩
instance zQd(s:Str):Tot (oG s) (s.l.length<=1000000) (λφ=>∀n b,I64 n->φ (n,b)):=⟨by
 rintro h0 φ hk
 unfold oG
 exact Ok.go⟩
theorem zI2(w:List Str)(b:Nat)(h0:w.length<=1000001)(h1:∀x∈w,x.l.length<=b)(h2:b<=1000000):∀(k:Nat) (i:Int) (Name:Str) (Dims:List Int),Tot (uC w i Name Dims) (5 - i<(k:Int)/\0<(k:Int)/\1<=i/\Name.l.length<=b/\(Dims.length:Int)<=i/\i<=5) (λφ=>∀a d,a.l.length<=b->d.length<=6->φ (a,d)):=by
 intro k
 induction k with
 | zero=>intro i Name Dims;exact⟨λh=>absurd h.2.1 (by omega)⟩
 | succ k ih=>
  intro i Name Dims;refine⟨?_⟩;rintro⟨v0,v1,v2,v3,v4,v5⟩ φ hk;unfold uC;have h3:∀x∈w,x.l.length<=1000000:=λx hx=>zw (h1 x hx) h2;exact Ok.go
theorem zI3(w:List Str)(b:Nat)(i:Int)(Name:Str)(Dims:List Int):Tot (uC w i Name Dims) (w.length<=1000001/\(∀x∈w,x.l.length<=b)/\b<=1000000/\1<=i/\Name.l.length<=b/\(Dims.length:Int)<=i/\i<=5) (λφ=>∀a d,a.l.length<=b->d.length<=6->φ (a,d)):=⟨by
 rintro⟨h0,h1,h2,v0,v1,v2,v3⟩ φ hk;exact(zI2 w b h0 h1 h2 ((5 - i).toNat+1) i Name Dims).ok ⟨by omega,by omega,v0,v1,v2,v3⟩ φ hk⟩
instance zLB(w:List Str):Tot (jV w) (w.length<=1000001/\(∀x∈w,x.l.length<=1000000)) (λφ=>∀r,SR r->φ r):=⟨by
 rintro⟨h0,h1⟩ φ hk
 unfold jV
 have tl:=zI3 w 1000000
 exact Ok.go⟩
instance zAg:Tot nH True (λφ=>φ (zA.mk [0,0,0,0] 0)):=⟨λ_ _ h=>Ok.pure h⟩
instance zCx:Tot gV True (λφ=>∀r,SRs 1000 r->φ r):=⟨λ_ φ h=>Ok.pure (h _ ⟨by decide,by simp[SR]⟩)⟩
instance gQ(n:Int):Tot (uI n) True (λφ=>φ (zA.mk [0,0,0,0] n)):=⟨λ_ _ h=>by unfold uI;exact Ok.call zAg trivial (Ok.pure h)⟩
theorem zH9(s:Str)(a:Int)(h0:s.l.length<=1000000)(h1:0<=a)(h2:a<=(s.l.length:Int)):∀(k:Nat) (e:Int),Tot (sD s a e) ((s.l.length:Int) - e<(k:Int)/\0<(k:Int)/\a<=e/\e<=a+2/\e<=(s.l.length:Int)) (λφ=>∀r,a<=r->r<=a+2->r<=(s.l.length:Int)->φ r):=by
 intro k
 induction k with
 | zero=>intro e;exact⟨λh=>absurd h.2.1 (by omega)⟩
 | succ k ih=>
  intro e;refine⟨?_⟩;rintro⟨v0,v1,v2,v3,v4⟩ φ hk;unfold sD;exact Ok.go
instance zNl(s:Str)(a:Int)(e:Int):Tot (sD s a e) (s.l.length<=1000000/\0<=a/\a<=(s.l.length:Int)/\a<=e/\e<=a+2/\e<=(s.l.length:Int)) (λφ=>∀r,a<=r->r<=a+2->r<=(s.l.length:Int)->φ r):=⟨by
 rintro⟨h0,h1,h2,v0,v1,v2⟩ φ hk
 exact(zH9 s a h0 h1 h2 (((s.l.length:Int) - e).toNat+1) e).ok ⟨by omega,by omega,v0,v1,v2⟩ φ hk⟩
instance zFv(s:Str)(a:Int):Tot (pA s a) (s.l.length<=1000000/\0<=a/\a<=(s.l.length:Int)) (λφ=>∀n e,I64 n->a<=e->e<=(s.l.length:Int)->φ (n,e)):=⟨by
 rintro⟨h0,h1,h2⟩ φ hk
 unfold pA
 exact Ok.go⟩
instance zMJ(s:Str)(a:Int):Tot (jK s a) (s.l.length<=1000000/\0<=a) (λφ=>∀r,-1<=r->r<=3->(0<=r->a<(s.l.length:Int))->φ r):=⟨by
 rintro⟨h0,h1⟩ φ hk
 unfold jK
 exact Ok.go⟩
theorem VA.set{l:List Int}{c:Int}(h:l.length=4)(hl:∀x∈l,I64 x)(hc:I64 c)(i:Nat)(x:Int):VA (zA.mk (([]++l).set i (W x)) c):=by
 refine⟨by simp[h],?_,hc⟩;intro y hy;rcases List.mem_or_eq_of_mem_set hy with hy|hy
 ·exact hl y hy
 ·exact hy ▸ zMh x
theorem VA.con{l:List Int}(h:l.length=4)(hl:∀x∈l,I64 x)(x:Int):VA (zA.mk ([]++l) (W x)):=⟨h,hl,zMh x⟩
instance zLC(a:zA)(s:Str)(n:Int):Tot (oH a s n) (VA a/\s.l.length<=1000000/\0<=n/\n<(s.l.length:Int)) (λφ=>∀r e,VA r->(e=-1∨n<e)->e<=(s.l.length:Int)->φ (r,e)):=⟨by
 rintro⟨h0,h1,h2,h3⟩ φ hk
 have hv:=h0;obtain⟨qq,kz,nh⟩:=h0;have t1:=VA.set qq kz nh;have t2:=VA.con qq kz
 unfold oH
 refine Ok.sidx h2 h3 λb2 _ _=>?_
 refine Ok.bind (φ:=λ_=>True) Ok.go λd8 _=>?_
 refine Ok.bind (φ:=λ_=>True) Ok.go λiQ _=>?_
 refine Ok.bind (φ:=λm=>n<=m/\m<=n+1) Ok.go λm hm=>?_
 refine Ok.call (zFv s m) ⟨h1,by omega,by omega⟩ λy1 y2 g1 g2 g3=>?_
 refine Ok.bind (φ:=λb=>b=true->y2<(s.l.length:Int)) Ok.go λt51 gu=>?_
 refine Ok.bind (φ:=λx=>y2<=x/\x<=(s.l.length:Int)) ?_ λstar hs=>?_
 ·refine Ok.ite (λh=>?_) λh=>Ok.go
  have gu:=gu h
  exact Ok.go
 refine Ok.call (zMJ s star) ⟨h1,by omega⟩ λy3 g4 g5 g6=>?_
 refine Ok.app S ?_
 refine Ok.bind (φ:=λb=>b=true->0<=y3) Ok.go λt75 h75=>?_
 refine Ok.ite (λh=>?_) λh=>?_
 ·have h75:=h75 h
  have g6:=g6 h75
  have h4:(([]:List Int)++a.Coefs).length=4:=qq
  refine Ok.idx h75 (by omega) λx _ hx=>Ok.idx_known hx h75 (Ok.bind_pure (Ok.pure ?_))
  rw[tV (x:=star+1) (by omega) (by omega)]
  exact hk _ _ (t1 _ _) (.inr (by omega)) (by omega)
 ·refine Ok.ite_beq (λh=>Ok.pure (hk _ _ hv (.inl rfl) (by omega))) λh=>Ok.pure (hk _ _ (t2 _) (.inr (by omega)) g3)⟩
theorem zJS:∀(k:Nat) (n:Int) (o:Str),Tot (pG n o) ((0<=n/\n<=9223372036854775807/\n<(2:Int) ^ k)/\o.l.length+k<=1000) (λφ=>∀a r,0<=a->a<=9->r.l.length<=o.l.length+k->φ (a,r)):=by
 intro k
 induction k with
 | zero=>intro n o;refine⟨?_⟩;rintro⟨⟨a1,a4,a2⟩,a3⟩ φ hk;unfold pG;rw[Int.pow_zero] at a2;exact Ok.go
 | succ k ih=>
  intro n o;refine⟨?_⟩;rintro⟨⟨a1,a4,a2⟩,a3⟩ φ hk;unfold pG;refine Ok.ite_dec (λh=>?_) λh=>Ok.go;refine Ok.cat (by simp;omega) λs hs hl=>?_;have ht:0<=n.tdiv 10/\n.tdiv 10<(2:Int) ^ k/\n.tdiv 10<=n:=by
   rw[AL a1];rw[Int.pow_succ] at a2;omega
  rw[tV (by omega) (by omega)];simp only[xy,yo] at hl;refine Ok.last (ih _ _) ⟨⟨ht.1,by omega,ht.2.1⟩,by omega⟩ λa r g1 g2 g3=>hk a r g1 g2 (by omega)
theorem zI4(n:Int):Tot (sC n) (0<=n/\n<=9223372036854775807) (λφ=>∀r,r.l.length<=64->1<=r.l.length->φ r):=⟨by
 rintro⟨h0,h1⟩ φ hk;unfold sC;refine Ok.ite_dec (λh=>absurd h (by omega)) λ_=>Ok.ite_dec (λh=>absurd h (by omega)) λ_=>?_;refine Ok.call (zJS 63 n ⟨[]⟩) ⟨⟨h0,h1,by omega⟩,by decide⟩ λa r g1 g2 g3=>?_;simp only[yo] at g3;refine Ok.cat (by simp;omega) λs hs hl=>Ok.pure ?_;simp only[xy,yo] at hl;exact hk _ (by dsimp only [id];omega) (by dsimp only [id];omega)⟩
instance zQe(n:Int):Tot (sC n) (I64 n) (λφ=>∀r,r.l.length<=70->1<=r.l.length->φ r):=⟨by
 rintro⟨h0,h1⟩ φ hk
 by_cases hn:0<=n
 ·exact(zI4 n).ok ⟨hn,h1⟩ φ λr g1 g2=>hk r (by omega) g2
 unfold sC
 refine Ok.ite_dec (λh=>Ok.pure (hk _ (by decide) (by decide))) λ_=>Ok.ite_dec (λh=>?_) λh=>absurd h (by omega)
 rw[tV (by omega) (by omega)]
 refine Ok.call (zI4 _) ⟨by omega,by omega⟩ λr g1 g2=>?_
 refine Ok.cat (by simp;omega) λs hs hl=>Ok.pure ?_
 simp only[xy,yo] at hl
 exact hk _ (by dsimp only [id];omega) (by dsimp only [id];omega)⟩
instance zQf(n:Int)(name:Str):Tot (oF n name) (I64 n/\name.l.length<=10) (λφ=>∀r,r.l.length<=100->1<=r.l.length->φ r):=⟨by
 rintro⟨h0,h1⟩ φ hk
 have hw:=zMh (0 - n)
 unfold oF
 refine Ok.bind (φ:=λo=>I64 o.1/\o.2.l.length=1) ?_ ?_
 ·refine Ok.ite_dec (λ_=>Ok.pure ⟨hw,rfl⟩) λ_=>Ok.pure ⟨h0,rfl⟩
 rintro⟨m,sg⟩ ⟨g1,g2⟩
 dsimp only at g1 g2 ⊢
 exact Ok.go⟩
theorem zJT(a:zA)(h0:VA a):∀(k:Nat) (o:Str) (i:Int),Tot (rY a o i) ((a.Coefs.length:Int) - i<(k:Int)/\0<(k:Int)/\0<=i/\i<=4/\(o.l.length:Int)<=100*i) (λφ=>∀r,r.l.length<=400->φ r):=by
 obtain⟨kz,nh,uy⟩:=h0;intro k
 induction k with
 | zero=>intro o i;exact⟨λh=>absurd h.2.1 (by omega)⟩
 | succ k ih=>
  intro o i;refine⟨?_⟩;rintro⟨v0,v1,v2,v3,v4⟩ φ hk;unfold rY;exact Ok.go
instance zJU(a:zA)(o:Str)(i:Int):Tot (rY a o i) (VA a/\0<=i/\i<=4/\(o.l.length:Int)<=100*i) (λφ=>∀r,r.l.length<=400->φ r):=⟨by
 rintro⟨h0,v0,v1,v2⟩ φ hk
 exact(zJT a h0 (((a.Coefs.length:Int) - i).toNat+1) o i).ok ⟨by omega,by omega,v0,v1,v2⟩ φ hk⟩
instance zQg(a:zA):Tot (kK a) (VA a) (λφ=>∀r,r.l.length<=1000->φ r):=⟨by
 rintro h0 φ hk
 have qq:=h0;obtain⟨kz,nh,uy⟩:=h0
 unfold kK
 refine Ok.call (zJU a _ _) ⟨qq,by simp⟩ λo ho=>?_
 refine Ok.bind (φ:=λr=>r.l.length<=1000) Ok.go λr hr=>?_
 refine Ok.ite_beq (λ_=>Ok.pure (hk _ (by decide))) λcT=>?_
 have hp:0<r.l.length:=List.length_pos_iff.2 cT
 exact Ok.go⟩
instance zNZ(a:zA):Tot (pR a) (SA a) (λφ=>∀r,r.l.length<=1000->φ r):=⟨by
 rintro h0 φ hk
 unfold pR
 refine Ok.call (zH5 a) h0 λb hb=>?_
 refine Ok.ite_not (λ_=>Ok.go) λhv=>?_
 have hv:=hb hv
 exact Ok.go⟩
theorem zB6(s:Str)(h0:s.l.length<=1000000):∀(k:Nat) (i:Int) (x:zA),Tot (wH s i x) (((i<0∨(s.l.length:Int) - i+1<(k:Int))/\0<(k:Int)/\i<=(s.l.length:Int))/\VA x) (λφ=>∀r,VA r->φ r):=by
 intro k
 induction k with
 | zero=>intro i x;exact⟨λh=>absurd h.1.2.1 (by omega)⟩
 | succ k ih=>
  intro i x;refine⟨?_⟩;rintro⟨⟨v0,v1,v2⟩,v3⟩ φ hk;unfold wH;refine Ok.bind_ite (Ok.ite_dec (λh1=>Ok.bind_pure ?_) λ_=>Ok.bind_pure (Ok.ite_ff Ok.go));refine Ok.ite_dec (λh2=>Ok.call (zLC x s i) ⟨v3,h0,h1,h2⟩ λr e g1 g2 g3=>?_) λh2=>Ok.go;refine Ok.last (ih e r) ⟨⟨by omega,by omega,g3⟩,g1⟩ hk
instance zHa(s:Str):Tot (qS s) (s.l.length<=1000000) (λφ=>∀a b,SA a->φ (a,b)):=⟨by
 rintro h0 φ hk
 unfold qS
 refine Ok.call zAg trivial (Ok.ite_dec (λ_=>Ok.pure (hk _ _ SA.nil0)) λ_=>?_)
 refine Ok.call (zB6 s h0 (s.l.length+2) 0 _) ⟨⟨by omega,by omega,by omega⟩,rfl,by simp[I64],by simp[I64]⟩ λx hx=>?_
 have hs:SA x:=⟨by rw[hx.1];decide,hx.2.2⟩
 exact Ok.go⟩
theorem zFE(y:List Str)(h0:y.length<=1000001)(h1:∀x∈y,x.l.length<=1000000):∀(k:Nat) (o:List zA) (i:Int),Tot (uE y o i) (3 - i<(k:Int)/\0<(k:Int)/\0<=i/\(o.length:Int)<=i/\i<=3/\(∀a∈o,SA a)) (λφ=>∀r,LL r->r.length<=100->(∀a∈r,SA a)->φ r):=by
 intro k
 induction k with
 | zero=>intro o i;exact⟨λh=>absurd h.2.1 (by omega)⟩
 | succ k ih=>
  intro o i;refine⟨?_⟩;rintro⟨v0,v1,v2,v3,v4,v5⟩ φ hk;unfold uE;exact Ok.go
instance zMK(y:List Str)(o:List zA)(i:Int):Tot (uE y o i) (y.length<=1000001/\(∀x∈y,x.l.length<=1000000)/\0<=i/\(o.length:Int)<=i/\i<=3/\(∀a∈o,SA a)) (λφ=>∀r,LL r->r.length<=100->(∀a∈r,SA a)->φ r):=⟨by
 rintro⟨h0,h1,v0,v1,v2,v3⟩ φ hk
 exact(zFE y h0 h1 ((3 - i).toNat+1) o i).ok ⟨by omega,by omega,v0,v1,v2,v3⟩ φ hk⟩
theorem up{y:List Str}{n:Nat}(h:∀x∈y,x.l.length<=n)(hn:n<=1000000):∀x∈y,x.l.length<=1000000:=λx hx=>zw (h x hx) hn
instance zNm(s:Str):Tot (rL s) (s.l.length<=1000000) (λφ=>∀r,LL r->r.length<=100->(∀a∈r,SA a)->φ r):=⟨by
 rintro h0 φ hk
 unfold rL
 refine Ok.call (zI1 s _) h0 λy g1 g2=>?_
 have g3:=up g2 h0
 exact Ok.go⟩
instance zML(s:Str):Tot (fB s) (s.l.length<=1000000) (λφ=>∀r,SL1 r->φ r):=⟨by
 rintro h0 φ hk
 unfold fB
 refine Ok.call (zFu s) h0 λy g1 g2=>?_
 have g3:=up g2 h0
 exact Ok.go⟩
theorem zI5(s:Str)(e:UInt8)(h0:s.l.length<=1000000):∀(k:Nat) (i:Int),Tot (rD s e i) ((s.l.length:Int) - i<(k:Int)/\0<(k:Int)/\0<=i) (λφ=>(φ (.done ()))/\(∀r b,i<=r->r<(s.l.length:Int)->s.l[r.toNat]?=some b->(b.toNat:Int)=(e.toNat:Int)->φ (.ret r))):=by
 intro k
 induction k with
 | zero=>intro i;exact⟨λh=>absurd h.2.1 (by omega)⟩
 | succ k ih=>
  intro i;refine⟨?_⟩;rintro⟨v0,v1,v2⟩ φ ⟨hd,hr⟩;unfold rD;refine Ok.ite_dec (λh=>Ok.sidx v2 h λb _ hb=>Ok.ite_beq (λhe=>Ok.pure (hr i b (by omega) h hb he)) λ_=>?_) λ_=>Ok.go;rw[tV (by omega) (by omega)];exact Ok.last (ih (i+1)) ⟨by omega,by omega,by omega⟩ ⟨hd,λr b g1=>hr r b (by omega)⟩
instance zI6(s:Str)(e:UInt8)(i:Int):Tot (rD s e i) (s.l.length<=1000000/\0<=i) (λφ=>(φ (.done ()))/\(∀r b,i<=r->r<(s.l.length:Int)->s.l[r.toNat]?=some b->(b.toNat:Int)=(e.toNat:Int)->φ (.ret r))):=⟨by
 rintro⟨h0,v0⟩ φ hk
 exact(zI5 s e h0 (((s.l.length:Int) - i).toNat+1) i).ok ⟨by omega,by omega,v0⟩ φ hk⟩
instance zLD(s:Str)(i:Int)(e:UInt8):Tot (nP s i e) (s.l.length<=1000000/\0<=i) (λφ=>∀r,(r=-1∨(i<=r/\r<(s.l.length:Int)/\∃b,s.l[r.toNat]?=some b/\(b.toNat:Int)=(e.toNat:Int)))->φ r):=⟨by
 rintro⟨h0,h1⟩ φ hk
 unfold nP
 exact Ok.call (zI6 s e i) ⟨h0,h1⟩ ⟨Ok.pure (hk _ (.inl rfl)),λr b g1 g2 g3 g4=>Ok.pure (hk _ (.inr ⟨g1,g2,b,g3,g4⟩))⟩⟩
instance zBs(s:Str)(i:Int):Tot (tM s i) (s.l.length<=1000000/\0<=i/\i<=1000000) (λφ=>∀a n,SC a->(n=-1∨i<n)->n<=(s.l.length:Int)->φ (a,n)):=⟨by
 rintro⟨h0,h1,h2⟩ φ hk
 unfold tM
 exact Ok.go⟩
theorem SE.node{n:Nat}{k:Int}{a b:zF}(ha:SE n a)(hb:SE n b):SE (n+1) (zF.mk k 0 (zA.mk [] 0) (zJ.mk ⟨[]⟩ []) [a,b]):=
 ⟨SA.nil0,SC.nil,za rfl,λk hk=>by
  rcases yh.1 hk with hk|hk
  ·exact hk ▸ ha
  ·exact yq.1 hk ▸ hb⟩
theorem SE.lf{m:Nat}{k n:Int}{a:zA}{c:zJ}(h1:SA a)(h2:SC c):SE m (zF.mk k n a c []):=SE.leaf (e:=zF.mk k n a c []) h1 h2 rfl
def EX0:zF:=zF.mk 0 0 (zA.mk [] 0) (zJ.mk ⟨[]⟩ []) []
theorem EX0.se{n:Nat}:SE n EX0:=SE.leaf (e:=EX0) SA.nil0 SC.nil rfl
theorem zLE(s:Str)(h0:s.l.length<=1000000):∀(n:Nat) (i lv:Int),Tot (uZ s i lv) (lv<=n/\n<=1000/\I64 lv) (λφ=>∀e r,SE n e->(r=-1∨(0<=i/\i<r))->r<=(s.l.length:Int)->φ (e,r)):=by
 intro n
 induction n with
 | zero=>
  intro i lv;refine⟨?_⟩;rintro⟨v0,v1,v2⟩ φ hk;unfold uZ;dsimp only [same];refine Ok.bind_ite (Ok.ite_dec (λh=>Ok.bind_pure (Ok.ite_tt (Ok.pure (hk _ _ EX0.se (.inl rfl) (by omega))))) λh=>absurd h (by omega))
 | succ n ih=>
  have xl:∀(i lv:Int),Tot (jR s i lv) (lv<=n/\n<=1000/\0<=i/\I64 lv) (λφ=>∀e r,SE (n+1) e->(r=-1∨(i<r))->r<=(s.l.length:Int)->φ (e,r)):=by
   intro i lv;refine⟨?_⟩;rintro⟨v0,v1,v2,v4⟩ φ hk;unfold jR;dsimp only [same];have mv:Ok (Pure.pure (EX0,(-1:Int))) φ:=Ok.pure (hk _ _ EX0.se (.inl rfl) (by omega));refine Ok.call (ih i lv) ⟨v0,v1,v4⟩ λe1 r1 g1 g2 g3=>?_;refine Ok.bind (φ:=λb=>b=false->0<=r1/\r1<(s.l.length:Int)) Ok.go λb hb=>Ok.ite (λ_=>mv) λhz=>?_;obtain⟨b1,b2⟩:=hb (by simpa using hz);refine Ok.sidx b1 b2 λc _ hc=>Ok.bind (φ:=λ_=>True) Ok.go λkd _=>?_;refine Ok.call (ih _ lv) ⟨v0,v1,v4⟩ λe2 r2 g4 g5 g6=>?_;rw[tV (by omega) (by omega)] at g5;refine Ok.bind (φ:=λb=>b=false->0<=r2/\r2<(s.l.length:Int)) Ok.go λb hb=>Ok.ite (λ_=>mv) λhz=>?_;obtain⟨b3,b4⟩:=hb (by simpa using hz);refine Ok.pure ?_;rw[tV (by omega) (by omega)];exact hk _ _ (SE.node g1 g4) (.inr (by omega)) (by omega)
  intro i lv;refine⟨?_⟩;rintro⟨v0,v1,v2⟩ φ hk;unfold uZ;dsimp only [same];have mv:Ok (Pure.pure (EX0,(-1:Int))) φ:=Ok.pure (hk _ _ EX0.se (.inl rfl) (by omega));refine Ok.bind (φ:=λb=>b=false->0<=i/\i<(s.l.length:Int)/\1<=lv) Ok.go λb hb=>Ok.ite (λ_=>mv) λhz=>?_;obtain⟨b1,b2,b3⟩:=hb (by simpa using hz);refine Ok.sidx b1 b2 λc _ hc=>Ok.ite_beq (λaI=>?_) λ_=>?_
  ·refine Ok.call (zLD s i _) ⟨h0,b1⟩ λy hy=>Ok.ite_dec (λ_=>mv) λhy0=>?_;rcases hy with hy|⟨y1,y2,d,y3,y4⟩
   ·exact absurd hy (by omega)
   have hiy:i+1<=y:=by
    by_cases e:y=i
    ·subst e;rw[hc] at y3;cases y3
     have:((125:UInt8).toNat:Int)=125:=rfl;omega
    ·omega
   rw[tV (by omega) (by omega),tV (by omega) (by omega)];refine Ok.sslc (by omega) (by omega) (by omega) λm _ hm=>Ok.call (zHa m) (by omega) λa b ha=>Ok.pure (hk _ _ (SE.lf ha SC.nil) (.inr (by omega)) (by omega))
  ·refine Ok.bind (φ:=λ_=>True) Ok.go λt52 _=>Ok.ite (λ_=>?_) λ_=>?_
   ·refine Ok.call (zBs s i) ⟨h0,b1,by omega⟩ λa r ha g1 g2=>Ok.pure (hk _ _ (SE.lf SA.nil0 ha) (by omega) g2)
   ·refine Ok.sidx_known hc b1 (Ok.ite_beq (λ_=>?_) λ_=>?_)
    ·obtain⟨v3,v4⟩:=v2;rw[tV (x:=lv - 1) (by omega) (by omega),tV (x:=i+1) (by omega) (by omega)];refine Ok.call (xl _ _) ⟨by omega,by omega,by omega,⟨by omega,by omega⟩⟩ λe r g1 g2 g3=>Ok.pure (hk _ _ g1 (by omega) g3)
    ·refine Ok.call (zFv s i) ⟨h0,b1,by omega⟩ λn2 r g1 g2 g3=>Ok.ite_beq (λ_=>mv) λcT=>Ok.pure (hk _ _ (SE.lf SA.nil0 SC.nil) (.inr (by omega)) g3)
instance zLF(s:Str)(i lv:Int):Tot (uZ s i lv) (s.l.length<=1000000/\0<=lv/\lv<=5) (λφ=>∀e r,SE 5 e->(r=-1∨(0<=i/\i<r))->r<=(s.l.length:Int)->φ (e,r)):=⟨λ⟨h0,h1,h2⟩=>(zLE s h0 5 i lv).ok ⟨h2,by decide,⟨by omega,by omega⟩⟩⟩
theorem zFw(ai:List zA)(h0:ai.length<=100)(h1:∀a∈ai,VA a):∀(k:Nat) (o:Str) (i:Int),Tot (uS ai o i) ((ai.length:Int) - i<(k:Int)/\0<(k:Int)/\0<=i/\i<=100/\(o.l.length:Int)<=1001*i) (λφ=>∀r,r.l.length<=200000->φ r):=by
 intro k
 induction k with
 | zero=>intro o i;exact⟨λh=>absurd h.2.1 (by omega)⟩
 | succ k ih=>
  intro o i;refine⟨?_⟩;rintro⟨v0,v1,v2,v3,v4⟩ φ hk;unfold uS;exact Ok.go
instance zMi(ai:List zA)(o:Str)(i:Int):Tot (uS ai o i) (ai.length<=100/\(∀a∈ai,VA a)/\0<=i/\i<=100/\(o.l.length:Int)<=1001*i) (λφ=>∀r,r.l.length<=200000->φ r):=⟨by
 rintro⟨h0,h1,v0,v1,v2⟩ φ hk
 exact(zFw ai h0 h1 (((ai.length:Int) - i).toNat+1) o i).ok ⟨by omega,by omega,v0,v1,v2⟩ φ hk⟩
instance zO1(ai:List zA):Tot (qL ai) (ai.length<=100/\(∀a∈ai,VA a)) (λφ=>∀r,r.l.length<=200000->φ r):=⟨by
 rintro⟨h0,h1⟩ φ hk
 unfold qL
 exact Ok.go⟩
instance zN0(a:zJ):Tot (sK a) (VC a) (λφ=>∀r,r.l.length<=200100->φ r):=⟨by
 rintro h0 φ hk
 obtain⟨kz,nh,uy⟩:=h0
 unfold sK
 exact Ok.go⟩
def TN:Nat->Nat
 | 0=>200100
 | n+1=>2*TN n+10
theorem TN.ge:∀n,200100<=TN n
 | 0=>zf _
 | n+1=>by have:=TN.ge n;simp only[TN];omega
theorem TN.mono(n:Nat):TN n<=TN (n+1):=by have:=TN.ge n;simp only[TN];omega
theorem zMM:∀(n:Nat) (e:zF),Tot (tE e) (VE n e/\TN n<=1000000000) (λφ=>∀r,r.l.length<=TN n->φ r):=by
 have base:∀(e:zF),VO e->∀φ:Str->Prop,(∀r,r.l.length<=200100->φ r)->Ok (tE e) φ:=by
  intro e he φ hk;unfold tE;rcases he with⟨h,h1⟩|⟨h,h1⟩|⟨h,h1⟩
  ·refine Ok.ite_beq (λ_=>Ok.go) λcT=>absurd h cT
  ·refine Ok.ite_beq (λhe=>absurd (h.symm.trans he) (by decide)) λ_=>Ok.ite_beq (λ_=>Ok.go) λcT=>absurd h cT
  ·refine Ok.ite_beq (λhe=>absurd (h.symm.trans he) (by decide)) λ_=>Ok.ite_beq (λhe=>absurd (h.symm.trans he) (by decide)) λ_=>Ok.ite_beq (λ_=>Ok.go) λcT=>absurd h cT
 intro n
 induction n with
 | zero=>intro e;exact⟨λ⟨h,_⟩ φ hk=>base e h φ hk⟩
 | succ n ih=>
  intro e;refine⟨?_⟩;rintro⟨h,hn⟩ φ hk;have hm:=TN.mono n;have hg:=TN.ge n;have hg2:TN (n+1)=2*TN n+10:=rfl;rcases h with h|⟨h1,h2,h3⟩
  ·exact base e h φ λr hr=>hk r (by omega)
  unfold tE;dsimp only [same];refine Ok.ite_beq (λhe=>by omega) λ_=>Ok.ite_beq (λhe=>by omega) λ_=>Ok.ite_beq (λhe=>by omega) λ_=>?_;refine Ok.idx (by omega) (by omega) λx hx _=>?_;have hx:=h3 x hx;refine Ok.call (ih x) ⟨hx,by omega⟩ λy hy=>?_;refine Ok.cat (by simp;omega) λs2 _ g2=>?_;rw[tV (x:=e.Kind - 4) (by omega) (by omega),tV (x:=e.Kind - 4+1) (by omega) (by omega)];refine Ok.sslc (by omega) (by omega) (by simp;omega) λs3 _ g3=>?_;simp only[xy,yo] at g2;refine Ok.cat (by omega) λs4 _ g4=>Ok.idx (by omega) (by omega) λx1 hx1 _=>?_;have hx1:=h3 x1 hx1;refine Ok.call (ih x1) ⟨hx1,by omega⟩ λy4 bL=>Ok.cat (by omega) λs5 _ g5=>Ok.cat (by simp;omega) λs6 _ g6=>Ok.pure (hk _ ?_);simp only[xy,yo] at g6;dsimp only [id];omega
instance zQQ(e:zF):Tot (tE e) (VE 5 e) (λφ=>∀r,r.l.length<=10000000->φ r):=⟨λh φ hk=>(zMM 5 e).ok ⟨h,by decide⟩ φ λr hr=>hk r (zw hr (by decide))⟩
instance zI7(s:zI):Tot (nN s) (SS s) (λφ=>∀r,r.l.length<=100000000->φ r):=⟨by
 rintro h0 φ hk
 unfold nN
 refine Ok.call (zE6 s _) h0 λb hb=>?_
 refine Ok.ite_not (λ_=>Ok.go) λhv=>?_
 obtain⟨g1,g2⟩:=hb hv
 exact Ok.go⟩
instance zE7(s:Str):Tot (oX s) (s.l.length<=1000000) (λφ=>∀a b,SS a->φ (a,b)):=⟨by
 rintro h0 φ hk
 have e0:SS (zI.mk (zJ.mk ⟨[]⟩ []) EX0):=⟨SC.nil,EX0.se⟩
 unfold oX
 refine Ok.ite_dec (λ_=>Ok.pure (hk _ _ e0)) λ_=>?_
 refine Ok.call (zBs s 0) ⟨h0,by omega,by omega⟩ λa n g1 g2 g3=>?_
 refine Ok.bind (φ:=λ_=>True) Ok.go λt _=>Ok.ite (λ_=>Ok.pure (hk _ _ e0)) λ_=>?_
 refine Ok.call (zLF s _ 5) ⟨h0,by decide,by decide⟩ λe r g4 g5 g6=>?_
 have hs:SS (zI.mk a e):=⟨g1,g4⟩
 refine Ok.call (zI7 _) hs λt ht=>Ok.ite_not (λ_=>Ok.pure (hk _ _ e0)) λ_=>Ok.pure (hk _ _ hs)⟩
theorem zJV(nest:List zD)(h0:VN nest):∀(k:Nat) (o:Str) (i:Int),Tot (rZ nest o i) ((nest.length:Int) - i<(k:Int)/\0<(k:Int)/\0<=i/\i<=4/\(o.l.length:Int)<=500000*i) (λφ=>∀r,r.l.length<=2000000->φ r):=by
 obtain⟨kz,nh⟩:=h0;intro k
 induction k with
 | zero=>intro o i;exact⟨λh=>absurd h.2.1 (by omega)⟩
 | succ k ih=>
  intro o i;refine⟨?_⟩;rintro⟨v0,v1,v2,v3,v4⟩ φ hk;unfold rZ;refine Ok.ite_dec (λh=>Ok.cat (by simp;omega) λs1 _ g1=>Ok.idx v2 h λx hx hxi=>?_) λ_=>Ok.go;obtain⟨⟨g2,g3,g4⟩,g5,g6,g7⟩:=nh x hx;exact Ok.go
instance zPT(nest:List zD)(o:Str)(i:Int):Tot (rZ nest o i) (VN nest/\0<=i/\i<=4/\(o.l.length:Int)<=500000*i) (λφ=>∀r,r.l.length<=2000000->φ r):=⟨by
 rintro⟨h0,v0,v1,v2⟩ φ hk
 exact(zJV nest h0 (((nest.length:Int) - i).toNat+1) o i).ok ⟨by omega,by omega,v0,v1,v2⟩ φ hk⟩
instance zMN(nest:List zD):Tot (fA nest) (VN nest) (λφ=>∀r,r.l.length<=2000000->φ r):=⟨by
 rintro h0 φ hk
 unfold fA
 exact Ok.go⟩
theorem zDp(p:zH)(i:Int)(a:zE)(b:Nat)(h0:VR a)(h1:0<=i)(h2:i<(p.Arrays.length:Int))(h3:p.Arrays[i.toNat]?=some a)(h4:b<=1000000000):∀(k:Nat) (o:Str) (k0:Int),Tot (wW p i o k0) ((a.Dims.length:Int) - k0<(k:Int)/\0<(k:Int)/\0<=k0/\k0<=2/\(o.l.length:Int)<=b+100*k0) (λφ=>∀r,r.l.length<=b+200->φ r):=by
 obtain⟨kz,nh,h05⟩:=h0;intro k
 induction k with
 | zero=>intro o k0;exact⟨λh=>absurd h.2.1 (by omega)⟩
 | succ k ih=>
  intro o k0;refine⟨?_⟩;rintro⟨v0,v1,v2,v3,v4⟩ φ hk;unfold wW;refine Ok.idx_known h3 h1 ?_;refine Ok.ite_dec (λh=>Ok.cat (by simp;omega) λs1 _ g1=>Ok.idx_known h3 h1 (Ok.idx v2 h λx hx hxi=>?_)) λ_=>Ok.go;have hx:=h05 x hx;exact Ok.go
theorem zDq(p:zH)(i:Int)(a:zE)(b:Nat)(o:Str)(k0:Int):Tot (wW p i o k0) (VR a/\0<=i/\i<(p.Arrays.length:Int)/\p.Arrays[i.toNat]?=some a/\b<=1000000000/\0<=k0/\k0<=2/\(o.l.length:Int)<=b+100*k0) (λφ=>∀r,r.l.length<=b+200->φ r):=⟨by
 rintro⟨h0,h1,h2,h3,h4,v0,v1,v2⟩ φ hk;exact(zDp p i a b h0 h1 h2 h3 h4 (((a.Dims.length:Int) - k0).toNat+1) o k0).ok ⟨by omega,by omega,v0,v1,v2⟩ φ hk⟩
theorem zDr(p:zH)(h0:VG p):∀(k:Nat) (o:Str) (i:Int),Tot (wX p o i) ((p.Arrays.length:Int) - i<(k:Int)/\0<(k:Int)/\0<=i/\i<=4/\(o.l.length:Int)<=8+1000*i) (λφ=>∀r,r.l.length<=5000->φ r):=by
 obtain⟨⟨kz,nh⟩,uy,h04⟩:=h0;intro k
 induction k with
 | zero=>intro o i;exact⟨λh=>absurd h.2.1 (by omega)⟩
 | succ k ih=>
  intro o i;refine⟨?_⟩;rintro⟨v0,v1,v2,v3,v4⟩ φ hk;unfold wX;refine Ok.ite_dec (λh=>Ok.cat (by simp;omega) λs1 _ g1=>Ok.idx v2 h λx hx hxi=>?_) λ_=>Ok.go;obtain⟨g2,g3,g4⟩:=nh x hx;simp only[xy,yo] at g1;refine Ok.cat (by omega) λs2 _ g5=>Ok.call (zDq p i x (o.l.length+10) s2 0) ⟨⟨g2,g3,g4⟩,v2,h,hxi,by omega,by omega,by omega,by omega⟩ λr hr=>?_;exact Ok.go
instance zDs(p:zH)(o:Str)(i:Int):Tot (wX p o i) (VG p/\0<=i/\i<=4/\(o.l.length:Int)<=8+1000*i) (λφ=>∀r,r.l.length<=5000->φ r):=⟨by
 rintro⟨h0,v0,v1,v2⟩ φ hk
 exact(zDr p h0 (((p.Arrays.length:Int) - i).toNat+1) o i).ok ⟨by omega,by omega,v0,v1,v2⟩ φ hk⟩
theorem zDt(p:zH)(i:Int)(q:zL)(b:Nat)(h0:VP q)(h1:0<=i)(h2:i<(p.Parts.length:Int))(h3:p.Parts[i.toNat]?=some q)(h4:b<=1000000000000):∀(k:Nat) (o:Str) (k0:Int),Tot (vH p i o k0) ((q.Body.length:Int) - k0<(k:Int)/\0<(k:Int)/\0<=k0/\k0<=4/\(o.l.length:Int)<=b+20000000*k0) (λφ=>∀r,r.l.length<=b+80000000->φ r):=by
 obtain⟨kz,nh,h05⟩:=h0;intro k
 induction k with
 | zero=>intro o k0;exact⟨λh=>absurd h.2.1 (by omega)⟩
 | succ k ih=>
  intro o k0;refine⟨?_⟩;rintro⟨v0,v1,v2,v3,v4⟩ φ hk;unfold vH;refine Ok.idx_known h3 h1 ?_;refine Ok.ite_dec (λh=>Ok.idx_known h3 h1 (Ok.idx v2 h λx hx hxi=>?_)) λ_=>Ok.go;obtain⟨g1,g2⟩:=h05 x hx;exact Ok.go
theorem zDu(p:zH)(i:Int)(q:zL)(b:Nat)(o:Str)(k0:Int):Tot (vH p i o k0) (VP q/\0<=i/\i<(p.Parts.length:Int)/\p.Parts[i.toNat]?=some q/\b<=1000000000000/\0<=k0/\k0<=4/\(o.l.length:Int)<=b+20000000*k0) (λφ=>∀r,r.l.length<=b+80000000->φ r):=⟨by
 rintro⟨h0,h1,h2,h3,h4,v0,v1,v2⟩ φ hk;exact(zDt p i q b h0 h1 h2 h3 h4 (((q.Body.length:Int) - k0).toNat+1) o k0).ok ⟨by omega,by omega,v0,v1,v2⟩ φ hk⟩
theorem zDv(p:zH)(h0:VG p):∀(k:Nat) (o:Str) (i:Int),Tot (wM p o i) ((p.Parts.length:Int) - i<(k:Int)/\0<(k:Int)/\0<=i/\i<=4/\(o.l.length:Int)<=5000+100000000*i) (λφ=>∀r,r.l.length<=1000000000->φ r):=by
 obtain⟨⟨kz,nh⟩,uy,h04⟩:=h0;intro k
 induction k with
 | zero=>intro o i;exact⟨λh=>absurd h.2.1 (by omega)⟩
 | succ k ih=>
  intro o i;refine⟨?_⟩;rintro⟨v0,v1,v2,v3,v4⟩ φ hk;unfold wM;refine Ok.ite_dec (λh=>Ok.cat (by simp;omega) λs1 _ g1=>Ok.idx v2 h λx hx hxi=>?_) λ_=>Ok.go;obtain⟨g2,g3,g4⟩:=h04 x hx;simp only[xy,yo] at g1;refine Ok.call (zMN x.Nest) g2 λy hy=>Ok.cat (by omega) λs2 _ g5=>Ok.call (zDu p i x (o.l.length+2000010) s2 0) ⟨⟨g2,g3,g4⟩,v2,h,hxi,by omega,by omega,by omega,by omega⟩ λr hr=>?_;exact Ok.go
instance zLG(p:zH)(o:Str)(i:Int):Tot (wM p o i) (VG p/\0<=i/\i<=4/\(o.l.length:Int)<=5000+100000000*i) (λφ=>∀r,r.l.length<=1000000000->φ r):=⟨by
 rintro⟨h0,v0,v1,v2⟩ φ hk
 exact(zDv p h0 (((p.Parts.length:Int) - i).toNat+1) o i).ok ⟨by omega,by omega,v0,v1,v2⟩ φ hk⟩
instance zMj(p:zH):Tot (vW p) (SG 1000 p) (λφ=>∀r,r.l.length<=1000000000->φ r):=⟨by
 rintro h0 φ hk
 unfold vW
 refine Ok.call (zCb p) h0 λb hb=>?_
 refine Ok.ite_not (λ_=>Ok.go) λhv=>?_
 have hv:=hb hv
 refine Ok.call (zDs p _ 0) ⟨hv,by omega,by omega,by simp⟩ λo ho=>?_
 exact Ok.go⟩
theorem zFx{α:Type}{P Q:α->Prop}{l:List α}(h:∀x∈l,P x)(hm:∀x,P x->Q x):∀x∈l,Q x:=λx hx=>hm x (h x hx)
theorem SN.mono{b:Nat}{l:List zD}(h:SN b l):SN (b+1) l:=⟨by have:=h.1;omega,h.2⟩
theorem SP.mono{b:Nat}{p:zL}(h:SP b p):SP (b+1) p:=⟨h.1.mono,by have:=h.2.1;omega,h.2.2⟩
theorem SRs.mono{b:Nat}{l:List zE}(h:SRs b l):SRs (b+1) l:=⟨by have:=h.1;omega,h.2⟩
theorem SG.mono{b:Nat}{p:zH}(h:SG b p):SG (b+1) p:=⟨h.1.mono,by have:=h.2.1;omega,zFx h.2.2 λ_=>SP.mono⟩
theorem SG.up{b:Nat}:∀{c:Nat}{p:zH},SG b p->SG (b+c) p
 | 0,_,h=>h
 | c+1,_,h=>(SG.up (c:=c) h).mono
theorem zBQ{α:Type}{P:α->Prop}{l:List α}{x:α}(h:∀y∈l,P y)(hx:P x)(k:Nat):∀y∈l.set k x,P y:=by
 intro y hy;rcases List.mem_or_eq_of_mem_set hy with hy|hy
 ·exact h y hy
 ·exact hy ▸ hx
theorem zHi{α:Type}{l:List α}{a:α}{b:Nat}(h:l.length<=b):(l++[a]).length<=b+1:=by simp;omega
theorem SG.addA{b:Nat}{p:zH}{a:zE}(h:SG b p)(ha:SR a):SG (b+1) (zH.mk (p.Arrays++[a]) p.Parts):=
 ⟨⟨zHi h.1.1,zCw h.1.2 ha⟩,Bj h.2.1,zFx h.2.2 λ_=>SP.mono⟩
theorem SG.addP{b:Nat}{p:zH}{a:zL}(h:SG b p)(ha:SP (b+1) a):SG (b+1) (zH.mk p.Arrays (p.Parts++[a])):=
 ⟨h.1.mono,zHi h.2.1,zCw (zFx h.2.2 λ_=>SP.mono) ha⟩
theorem SG.setP{b:Nat}{p:zH}{a:zL}(h:SG b p)(ha:SP (b+1) a)(k:Nat):SG (b+1) (zH.mk p.Arrays (p.Parts.set k a)):=
 ⟨h.1.mono,Bj (zw (Nat.le_of_eq zk) h.2.1),zBQ (zFx h.2.2 λ_=>SP.mono) ha k⟩
theorem SP.addN{b:Nat}{q:zL}{x:zD}(h:SP b q)(hx:SL1 x):SP (b+1) (zL.mk (q.Nest++[x]) q.Body):=
 ⟨⟨zHi h.1.1,zCw h.1.2 hx⟩,Bj h.2.1,h.2.2⟩
theorem SP.addB{b:Nat}{q:zL}{x:zI}(h:SP b q)(hx:SS x):SP (b+1) (zL.mk q.Nest (q.Body++[x])):=
 ⟨h.1.mono,zHi h.2.1,zCw h.2.2 hx⟩
theorem SP.nil{b:Nat}:SP b (zL.mk [] []):=⟨⟨zt _,λ_ h=>absurd h z8⟩,zt _,λ_ h=>absurd h z8⟩
theorem zMO(b:Nat)(p:zH)(s:Str):Tot (qA p s) ((SG b p/\b<=900)/\s.l.length<=1000000) (λφ=>∀r,SG (b+1) r->φ r):=⟨by
 rintro⟨⟨h0,h1⟩,h2⟩ φ hk;obtain⟨⟨h3,h4⟩,h5,h6⟩:=id h0;unfold qA;refine Ok.call (zFu s) h2 λy g1 g2=>?_;have g3:=up g2 h2;refine Ok.bind (φ:=λ_=>True) Ok.go λt _=>Ok.ite (λ_=>?_) λ_=>Ok.ite_beq (λ_=>?_) λ_=>?_
 ·exact Ok.call (zLB y) ⟨by omega,g3⟩ λa ha=>Ok.app S (Ok.pure (hk _ (h0.addA ha)))
 ·exact Ok.app S (Ok.pure (hk _ (h0.addP SP.nil)))
 rw[tV (x:=(p.Parts.length:Int) - 1) (by omega) (by omega)];refine Ok.bind (φ:=λb=>b=true->1<=p.Parts.length) Ok.go λt ht=>Ok.ite (λhz=>?_) λ_=>Ok.ite_dec (λhz=>?_) λ_=>Ok.pure (hk _ h0.mono)
 ·have hz:=ht hz;refine Ok.idx (by omega) (by omega) λq hq _=>?_;have hq:=h6 q hq;have q1:=hq.1.1;exact Ok.call (zML s) h2 λx hx=>Ok.app S (Ok.pure (hk _ (h0.setP (hq.addN hx) _)))
 ·refine Ok.idx (by omega) (by omega) λq hq _=>?_;have hq:=h6 q hq;have q1:=hq.2.1;exact Ok.call (zE7 s) h2 λx c hx=>Ok.app S (Ok.pure (hk _ (h0.setP (hq.addB hx) _)))⟩
theorem zBK(y:List Str)(h0:y.length<=100)(h1:∀x∈y,x.l.length<=1000000):∀(k:Nat) (b:Nat) (p:zH) (i:Int),((y.length:Int) - i<(k:Int)/\0<(k:Int)/\0<=i/\(b:Int)<=i/\i<=100)->SG b p->∀φ:zH->Prop,(∀r,SG 1000 r->φ r)->Ok (vU y p i) φ:=by
 intro k
 induction k with
 | zero=>intro b p i h;exact absurd h.2.1 (by omega)
 | succ k ih=>
  rintro b p i ⟨v0,v1,v2,v3,v5⟩ v4 φ hk;unfold vU;rw[tV (by omega) (by omega)];refine Ok.ite_dec (λh=>Ok.idx v2 (by omega) λx hx _=>?_) λh=>?_
  ·refine Ok.call (zMO b p x) ⟨⟨v4,by omega⟩,h1 x hx⟩ λr hr=>?_;exact ih (b+1) r _ ⟨by omega,by omega,by omega,by omega,by omega⟩ hr φ hk
  ·have:=SG.up (c:=1000 - b) v4;rw[show b+(1000 - b)=1000 by omega] at this;exact Ok.pure (hk _ this)
theorem SG.nil:SG 1000 (zH.mk [] []):=⟨⟨by simp,by simp⟩,by simp,by simp⟩
instance zN1(s:Str):Tot (qD s) (s.l.length<=1000000) (λφ=>∀p b,SG 1000 p->φ (p,b)):=⟨by
 rintro h0 φ hk
 unfold qD
 refine Ok.call (zI1 s _) h0 λy g1 g2=>Ok.ite_dec (λ_=>Ok.pure (hk _ _ SG.nil)) λhy=>?_
 refine Ok.bind (φ:=λp=>SG 1000 p) (zBK y (by omega) (up g2 h0) (y.length+2) 0 _ 1 ⟨by omega,by omega,by omega,by omega,by omega⟩ ⟨⟨by simp,by simp⟩,by simp,by simp⟩ _ λ_ h=>h) λp hp=>?_
 refine Ok.bind (φ:=λ_=>True) Ok.go λt _=>Ok.ite (λ_=>Ok.pure (hk _ _ SG.nil)) λ_=>Ok.pure (hk _ _ hp)⟩
theorem VA4.sa{a:zA}(h:a.Coefs.length=4)(hc:I64 a.Const):SA a:=⟨by omega,hc⟩
instance zEK(v:Int):Tot (jG v) (0<=v/\v<4) (λφ=>∀r,r.Coefs.length=4->r.Const=0->φ r):=⟨by
 rintro⟨h0,h1⟩ φ hk
 unfold jG
 refine Ok.call zAg trivial (Ok.idx h0 (by simp;omega) λx _ _=>Ok.bind_pure (Ok.pure (hk _ (by simp) rfl)))⟩
theorem zGv(a:zA)(x:Int)(b:zA)(y:Int)(h0:a.Coefs.length=4)(h1:b.Coefs.length=4):∀(k:Nat) (i:Int) (o:List Int),Tot (pS a x b y i o) (4 - i<(k:Int)/\0<(k:Int)/\0<=i/\i<=4/\(o.length:Int)=i) (λφ=>∀r,r.length=4->φ r):=by
 intro k
 induction k with
 | zero=>intro i o;exact⟨λh=>absurd h.2.1 (by omega)⟩
 | succ k ih=>
  intro i o;refine⟨?_⟩;rintro⟨v0,v1,v2,v3,v4⟩ φ hk;unfold pS;exact Ok.go
instance zN2(a:zA)(x:Int)(b:zA)(y:Int)(i:Int)(o:List Int):Tot (pS a x b y i o) (a.Coefs.length=4/\b.Coefs.length=4/\0<=i/\i<=4/\(o.length:Int)=i) (λφ=>∀r,r.length=4->φ r):=⟨by
 rintro⟨h0,h1,v0,v1,v2⟩ φ hk
 exact(zGv a x b y h0 h1 ((4 - i).toNat+1) i o).ok ⟨by omega,by omega,v0,v1,v2⟩ φ hk⟩
instance zJW(a:zA)(x:Int)(b:zA)(y:Int):Tot (jN a x b y) (a.Coefs.length=4/\b.Coefs.length=4) (λφ=>∀r,r.Coefs.length=4->I64 r.Const->φ r):=⟨by
 rintro⟨h0,h1⟩ φ hk
 unfold jN
 exact Ok.go⟩
theorem LL.one{a:zA}(h:SA a):LL [a]:=⟨za rfl,λ_ h'=>yq.1 h' ▸ h⟩
theorem LL.two{a b:zA}(h:SA a)(h2:SA b):LL ([a]++[b]):=⟨za rfl,zCw (LL.one h).2 h2⟩
theorem SA.c4{y:Int}(h:I64 y):SA (zA.mk [0,0,0,0] y):=⟨za rfl,h⟩
instance zQh(r:zP)(aa:Int):Tot (dW r aa) (0<=r.p/\r.p<=900000000/\0<=aa/\aa<=4) (λφ=>∀a s,SL1 a->r.p<=s.p->s.p<=r.p+20->φ (a,s)):=⟨by
 rintro⟨h0,h1,h2,h3⟩ φ hk
 unfold dW
 refine Ok.call (rF r _) ⟨by decide,h0,by omega,by decide⟩ λy1 s1 _ g1 e1=>Ok.call (gQ _) trivial ?_
 refine Ok.call (rF s1 _) ⟨by decide,by omega,by omega,by decide⟩ λy2 s2 _ g2 e2=>Ok.call (gQ _) trivial ?_
 have a1:=SA.c4 g1
 have a2:=SA.c4 g2
 refine Ok.bind (φ:=λo=>r.p<=o.2.p/\o.2.p<=r.p+3) Ok.go ?_
 rintro⟨t,x⟩ ⟨g3,g4⟩
 dsimp only at g3 g4 ⊢
 refine Ok.bind (φ:=λo=>SA o.1/\SA o.2.1/\r.p<=o.2.2.p/\o.2.2.p<=r.p+6) (Ok.ite (λ_=>?_) λ_=>Ok.go) ?_
 ·refine Ok.call (eK x _) ⟨by omega,by omega⟩ λy s k1 k2 k3=>Ok.call (eK s _) ⟨by omega,by omega⟩ λz u k4 k5 k6=>?_
  refine Ok.bind (φ:=λo=>SA o.1/\SA o.2) (Ok.ite_beq (λ_=>?_) λ_=>?_) ?_
  ·exact Ok.call (zEK y) ⟨k1,by omega⟩ λb c1 c2=>Ok.pure ⟨⟨by dsimp only;omega,by dsimp only;rw[c2];decide⟩,a2⟩
  ·exact Ok.call (zEK y) ⟨k1,by omega⟩ λb c1 c2=>Ok.call (gQ _) trivial (Ok.call (zJW b 1 _ 1) ⟨c1,rfl⟩ λd c3 c4=>Ok.pure ⟨a1,⟨by dsimp only;omega,c4⟩⟩)
  rintro⟨b,c⟩ ⟨c1,c2⟩
  exact Ok.pure ⟨c1,c2,by dsimp only at *;omega,by dsimp only at *;omega⟩
 rintro⟨b,c,u⟩ ⟨b1,b2,b3,b4⟩
 dsimp only at b1 b2 b3 b4 ⊢
 refine Ok.call (eK u _) ⟨by omega,by omega⟩ λy s k1 k2 k3=>?_
 refine Ok.bind (φ:=λo=>LL o.1/\LL o.2.1/\r.p<=o.2.2.p/\o.2.2.p<=r.p+20) (Ok.ite_beq (λ_=>?_) λ_=>?_) ?_
 ·refine Ok.call (rF s _) ⟨by decide,by omega,by omega,by decide⟩ λy3 s3 _ g3 e3=>Ok.call (gQ _) trivial (Ok.app S (Ok.pure ⟨LL.one b1,LL.two b2 (SA.c4 g3),by dsimp only;omega,by dsimp only;omega⟩))
 ·refine Ok.bind (φ:=λo=>LL o.1/\r.p<=o.2.p/\o.2.p<=r.p+20) (Ok.ite_beq (λ_=>?_) λ_=>Ok.pure ⟨LL.one b1,by dsimp only;omega,by dsimp only;omega⟩) ?_
  ·refine Ok.call (rF s _) ⟨by decide,by omega,by omega,by decide⟩ λy3 s3 _ g3 e3=>Ok.call (gQ _) trivial (Ok.app S (Ok.pure ⟨LL.two b1 (SA.c4 g3),by dsimp only;omega,by dsimp only;omega⟩))
  rintro⟨d,w⟩ ⟨d1,d2,d3⟩
  exact Ok.pure ⟨d1,LL.one b2,d2,d3⟩
 rintro⟨d,e,w⟩ ⟨d1,d2,d3,d4⟩
 exact Ok.pure (hk _ _ ⟨d1,d2⟩ d3 d4)⟩
theorem zJX :∀(k:Nat) (o:List zD) (i:Int) (r:zP),Tot (mU o i r) (i<(k:Int)/\0<(k:Int)/\i<=3/\0<=i/\(o.length:Int)+i<=4/\0<=r.p/\r.p+20*i<=800000100/\(∀x∈o,SL1 x)) (λφ=>∀a s,SN 1000 a->a.length<=4->r.p<=s.p->s.p<=r.p+20*i->φ (a,s)):=by
 intro k
 induction k with
 | zero=>intro o i r;exact⟨λh=>absurd h.2.1 (by omega)⟩
 | succ k ih=>
  intro o i r;refine⟨?_⟩;rintro⟨v0,v1,v2,v3,v4,v5,v6,v7⟩ φ hk;unfold mU;exact Ok.go
instance zPU  (o:List zD) (i:Int) (r:zP):Tot (mU o i r) (i<=3/\0<=i/\(o.length:Int)+i<=4/\0<=r.p/\r.p+20*i<=800000100/\(∀x∈o,SL1 x)) (λφ=>∀a s,SN 1000 a->a.length<=4->r.p<=s.p->s.p<=r.p+20*i->φ (a,s)):=⟨by
 rintro⟨v0,v1,v2,v3,v4,v5⟩ φ hk
 exact(zJX ((i).toNat+1) o i r).ok ⟨by omega,by omega,v0,v1,v2,v3,v4,v5⟩ φ hk⟩
instance zMP(r:zP):Tot (dX r) (0<=r.p/\r.p<=800000000) (λφ=>∀a s,SN 1000 a->a.length<=4->r.p<=s.p->s.p<=r.p+100->φ (a,s)):=⟨by
 rintro⟨h0,h1⟩ φ hk
 unfold dX
 refine Ok.call (rF r _) ⟨by decide,h0,by omega,by decide⟩ λy s g1 g2 g3=>?_
 simp only[yh,z8,or_false] at g1
 exact Ok.go⟩
theorem zJY(aa:Int)(n:Int)(h0:0<=aa)(h1:aa<=4)(h2:n<=2):∀(k:Nat) (i:Int) (o:List zA) (r:zP),Tot (mV aa n i o r) (n - i<(k:Int)/\0<(k:Int)/\0<=i/\i<=2/\(o.length:Int)<=i/\0<=r.p/\r.p<=900000000+10*i/\(∀x∈o,SA x)) (λφ=>∀a s,a.length<=100->(∀x∈a,SA x)->r.p<=s.p->s.p<=r.p+20 - 10*i->φ (a,s)):=by
 intro k
 induction k with
 | zero=>intro i o r;exact⟨λh=>absurd h.2.1 (by omega)⟩
 | succ k ih=>
  intro i o r;refine⟨?_⟩;rintro⟨v0,v1,v2,v3,v4,v5,v6,v7⟩ φ hk;unfold mV;exact Ok.go
instance zPV(aa:Int)(n:Int)(i:Int)(o:List zA)(r:zP):Tot (mV aa n i o r) (0<=aa/\aa<=4/\n<=2/\0<=i/\i<=2/\(o.length:Int)<=i/\0<=r.p/\r.p<=900000000+10*i/\(∀x∈o,SA x)) (λφ=>∀a s,a.length<=100->(∀x∈a,SA x)->r.p<=s.p->s.p<=r.p+20 - 10*i->φ (a,s)):=⟨by
 rintro⟨h0,h1,h2,v0,v1,v2,v3,v4,v5⟩ φ hk
 exact(zJY aa n h0 h1 h2 ((n - i).toNat+1) i o r).ok ⟨by omega,by omega,v0,v1,v2,v3,v4,v5⟩ φ hk⟩
instance zI8(r:zP)(aa:Int):Tot (gW r aa) (0<=r.p/\r.p<=800000000/\0<=aa/\aa<=4) (λφ=>∀a s,SC a->r.p<=s.p->s.p<=r.p+30->φ (a,s)):=⟨by
 rintro⟨h0,h1,h2,h3⟩ φ hk
 unfold gW
 refine Ok.call (zBP r _) ⟨by decide,h0,by omega⟩ λy s g1 g2=>?_
 have hy:y.l.length<=1:=by
  simp only[yh,z8,or_false] at g1
  rcases g1 with rfl|rfl|rfl|rfl <;> decide
 exact Ok.go⟩
theorem zJZ(aa:Int)(h0:0<=aa)(h1:aa<=4):∀(k:Nat) (i:Int) (o:List Int) (r:zP),Tot (mW aa i o r) (aa - i<(k:Int)/\0<(k:Int)/\0<=i/\i<=4/\o.length=4/\0<=r.p/\r.p<=900000000+i) (λφ=>∀a s,a.length=4->r.p<=s.p->s.p<=r.p+4 - i->φ (a,s)):=by
 intro k
 induction k with
 | zero=>intro i o r;exact⟨λh=>absurd h.2.1 (by omega)⟩
 | succ k ih=>
  intro i o r;refine⟨?_⟩;rintro⟨v0,v1,v2,v3,v4,v5,v6⟩ φ hk;unfold mW;exact Ok.go
instance zPW(aa:Int)(i:Int)(o:List Int)(r:zP):Tot (mW aa i o r) (0<=aa/\aa<=4/\0<=i/\i<=4/\o.length=4/\0<=r.p/\r.p<=900000000+i) (λφ=>∀a s,a.length=4->r.p<=s.p->s.p<=r.p+4 - i->φ (a,s)):=⟨by
 rintro⟨h0,h1,v0,v1,v2,v3,v4⟩ φ hk
 exact(zJZ aa h0 h1 ((aa - i).toNat+1) i o r).ok ⟨by omega,by omega,v0,v1,v2,v3,v4⟩ φ hk⟩
instance zMQ(r:zP)(aa:Int):Tot (eU r aa) (0<=r.p/\r.p<=800000000/\0<=aa/\aa<=4) (λφ=>∀a s,SA a->a.Coefs.length=4->r.p<=s.p->s.p<=r.p+10->φ (a,s)):=⟨by
 rintro⟨h0,h1,h2,h3⟩ φ hk
 unfold eU
 exact Ok.go⟩
def PN:Nat->Nat
 | 0=>50
 | n+1=>2*PN n+50
theorem SE.kids{n:Nat}{k:Int}{l:List zF}(h:l.length<=10)(hl:∀x∈l,SE n x):SE (n+1) (zF.mk k 0 (zA.mk [] 0) (zJ.mk ⟨[]⟩ []) l):=⟨SA.nil0,SC.nil,h,hl⟩
theorem zLH(aa:Int)(hd0:0<=aa)(hd1:aa<=4):∀(n:Nat) (r:zP) (lv:Int),Tot (nQ r aa lv) (lv<=n+1/\0<=lv/\n<=10/\0<=r.p/\r.p+PN n<=800000000) (λφ=>∀e s,SE n e->r.p<=s.p->s.p<=r.p+PN n->φ (e,s)):=by
 intro n;have leaf:∀(m:Nat) (x:zP),Tot (do
  let (y4,y5)<-xF x 4
  if(y4==0) then
   let (y7,y8)<-xL y5 ([1,2,0,99,3]:List Int)
   pure ((zF.mk 1 y7 (zA.mk ([]:List Int) 0) (zJ.mk (⟨[]⟩:Str) ([]:List zA)) ([]:List zF)),y8)
  else
   if(y4==1) then
    let (y10,fm)<-eU y5 aa
    pure ((zF.mk 2 0 y10 (zJ.mk (⟨[]⟩:Str) ([]:List zA)) ([]:List zF)),fm)
   else
    let (y13,y14)<-gW y5 aa
    pure ((zF.mk 3 0 (zA.mk ([]:List Int) 0) y13 ([]:List zF)),y14)) (0<=x.p/\x.p<=799999999) (λφ=>∀e s,SE m e->x.p<=s.p->s.p<=x.p+40->φ (e,s)):=by
  intro m x;refine⟨?_⟩;rintro⟨h0,h1⟩ φ hk;refine Ok.call (eK x 4) ⟨h0,by omega⟩ λy s k1 k2 k3=>?_;refine Ok.ite_beq (λ_=>?_) λ_=>Ok.ite_beq (λ_=>?_) λ_=>?_
  ·exact Ok.call (rF s _) ⟨by decide,by omega,by omega,by decide⟩ λy3 s3 _ g3 e3=>Ok.pure (hk _ _ (SE.lf SA.nil0 SC.nil) (by omega) (by omega))
  ·exact Ok.call (zMQ s aa) ⟨by omega,by omega,hd0,hd1⟩ λa s3 g3 _ e3 e4=>Ok.pure (hk _ _ (SE.lf g3 SC.nil) (by omega) (by omega))
  ·exact Ok.call (zI8 s aa) ⟨by omega,by omega,hd0,hd1⟩ λa s3 g3 e3 e4=>Ok.pure (hk _ _ (SE.lf SA.nil0 g3) (by omega) (by omega))
 induction n with
 | zero=>
  intro r lv;refine⟨?_⟩;rintro⟨v0,v1,v2,v3,v4⟩ φ hk;unfold nQ;dsimp only [same];have hp:PN 0=50:=rfl;refine Ok.bind_ite (Ok.ite_dec (λ_=>Ok.bind_pure (Ok.ite_tt ?_)) λh=>absurd h (by omega));exact(leaf 0 r).ok ⟨v3,by omega⟩ φ λe s g1 g2 g3=>hk e s g1 g2 (by omega)
 | succ n ih=>
  intro r lv;refine⟨?_⟩;rintro⟨v0,v1,v2,v3,v4⟩ φ hk;unfold nQ;dsimp only [same];have hp:PN (n+1)=2*PN n+50:=rfl;refine Ok.bind (φ:=λo=>(o.1=false->2<=lv)/\r.p<=o.2.p/\o.2.p<=r.p+1) ?_ ?_
  ·refine Ok.ite_dec (λ_=>Ok.pure ⟨λh=>(by cases h),by dsimp only;omega,by dsimp only;omega⟩) λh=>Ok.call (eK r 4) ⟨v3,by omega⟩ λy s k1 k2 k3=>Ok.pure ⟨λ_=>by omega,by dsimp only;omega,by dsimp only;omega⟩
  rintro⟨t,x⟩ ⟨g1,g2,g3⟩;dsimp only at g1 g2 g3 ⊢;refine Ok.ite (λ_=>?_) λhz=>?_
  ·exact(leaf (n+1) x).ok ⟨by omega,by omega⟩ φ λe s g1 g2 g3=>hk e s g1 (by omega) (by omega)
  have g1:=g1 (by simpa using hz);refine Ok.call (rF x _) ⟨by decide,by omega,by omega,by decide⟩ λy3 s3 _ _ e3=>?_;have hl:∀(k:Nat) (i:Int) (o:List zF) (x1:zP),Tot (kW aa lv i o x1) ((2 - i<=k/\0<=i/\i<=2/\k<=2/\(o.length:Int)=i/\0<=x1.p/\x1.p+k*PN n<=800000000)/\∀x∈o,SE n x) (λφ=>∀a s,a.length<=10->(∀x∈a,SE n x)->x1.p<=s.p->s.p<=x1.p+k*PN n->φ (a,s)):=by
   intro k
   induction k with
   | zero=>intro i o x1;refine⟨?_⟩;rintro⟨⟨a1,a2,a3,a4,a5,a6,a7⟩,a8⟩ φ hk;unfold kW;dsimp only [same];exact Ok.ite_dec (λh=>absurd h (by omega)) λ_=>Ok.pure (hk _ _ (by omega) a8 (by omega) (by omega))
   | succ k ik=>
    intro i o x1;refine⟨?_⟩;rintro⟨⟨a1,a2,a3,a4,a5,a6,a7⟩,a8⟩ φ hk;unfold kW;dsimp only [same];have e1:((k+1:Nat):Int)*PN n=k*PN n+PN n:=by rw[Int.natCast_add,Int.add_mul];simp
    rw[e1] at a7 hk;have hkn:0<=(k:Int)*PN n:=Int.mul_nonneg (by omega) (by omega);refine Ok.ite_dec (λh=>?_) λ_=>Ok.pure (hk _ _ (by omega) a8 (by omega) (by omega));rw[tV (by omega) (by omega)];refine Ok.call (ih x1 _) ⟨by omega,by omega,by omega,by omega,by omega⟩ λe s g1 g2 g3=>Ok.app S ?_;rw[tV (by omega) (by omega)];exact Ok.last (ik _ _ s) ⟨⟨by omega,by omega,by omega,by omega,by simp;omega,by omega,by omega⟩,zCw a8 g1⟩ λa u h1 h2 h3 h4=>hk a u h1 h2 (by omega) (by omega)
  refine Ok.call (hl 2 0 [] s3) ⟨⟨by omega,by omega,by omega,by omega,rfl,by omega,by omega⟩,λ_ h=>absurd h z8⟩ λa u h1 h2 h3 h4=>by
   dsimp only;exact Ok.pure (hk _ u (SE.kids h1 h2) (by omega) (by omega))
instance zLI(r:zP)(aa lv:Int):Tot (nQ r aa lv) (0<=r.p/\r.p<=700000000/\0<=aa/\aa<=4/\0<=lv/\lv<=6) (λφ=>∀e s,SE 5 e->r.p<=s.p->s.p<=r.p+5000->φ (e,s)):=⟨λ⟨h0,h1,h2,h3,h4,h5⟩ φ hk=>by
 have hp:PN 5=3150:=rfl
 exact(zLH aa h2 h3 5 r lv).ok ⟨by omega,h4,by omega,h0,by omega⟩ φ λe s g1 g2 g3=>hk e s g1 g2 (by omega)⟩
instance zMR(r:zP)(aa:Int):Tot (dY r aa) (0<=r.p/\r.p<=600000000/\0<=aa/\aa<=4) (λφ=>∀a s,SS a->r.p<=s.p->s.p<=r.p+6000->φ (a,s)):=⟨by
 rintro⟨h0,h1,h2,h3⟩ φ hk
 unfold dY
 refine Ok.call (zI8 r aa) ⟨h0,by omega,h2,h3⟩ λa s g1 g2 g3=>?_
 refine Ok.call (rF s _) ⟨by decide,by omega,by omega,by decide⟩ λy3 s3 g4 _ e3=>?_
 simp only[yh,z8,or_false] at g4
 refine Ok.call (zLI s3 aa y3) ⟨by omega,by omega,h2,h3,by omega,by omega⟩ λe u g5 g6 g7=>?_
 have hs:SS (zI.mk a e):=⟨g1,g5⟩
 refine Ok.call (zE6 _ aa) hs λb _=>Ok.ite (λ_=>Ok.pure (hk _ _ hs (by omega) (by omega))) λ_=>Ok.call zAg trivial (Ok.pure (hk _ _ ⟨⟨by decide,by decide,λ_ h=>yq.1 h ▸ SA.c4 (by decide)⟩,SE.lf SA.nil0 SC.nil⟩ (by omega) (by omega)))⟩
theorem zI9(z:List Int)(h0:z.length<=4):∀(k:Nat) (o:List zD) (i:Int),Tot (nR z o i) ((z.length:Int) - i<(k:Int)/\0<(k:Int)/\0<=i/\(o.length:Int)=i/\i<=4/\(∀x∈o,SL1 x)) (λφ=>(∀o,SN 1000 o->φ (.done o))/\(φ (.ret ([],false)))):=by
 intro k
 induction k with
 | zero=>intro o i;exact⟨λh=>absurd h.2.1 (by omega)⟩
 | succ k ih=>
  intro o i;refine⟨?_⟩;rintro⟨v0,v1,v2,v3,v4,v5⟩ φ ⟨hd,hr⟩;unfold nR;refine Ok.ite_dec (λh=>?_) λ_=>Ok.go;refine Ok.bind (φ:=λb=>b=false->∀x,z[i.toNat]?=some x->0<=x/\x<=99) ?_ ?_
  ·refine Ok.idx v2 h λx _ hx=>Ok.ite_dec (λ_=>Ok.pure λh=>by cases h) λg=>Ok.idx_known hx v2 (Ok.pure λhb y hy=>?_);rw[hx] at hy;cases hy
   have:=of_decide_eq_false hb;omega
  intro b hb;refine Ok.ite (λ_=>Ok.pure hr) λhz=>Ok.call zAg trivial (Ok.idx v2 h λx _ hx=>Ok.call (gQ x) trivial (Ok.app S ?_));obtain⟨b1,b2⟩:=hb (by simpa using hz) x hx;have hx:SL1 (zD.mk [zA.mk [0,0,0,0] 0] [zA.mk [0,0,0,0] x]):=⟨LL.one (SA.c4 (by decide)),LL.one (SA.c4 ⟨by omega,by omega⟩)⟩;exact Ok.go
instance zO2(z:List Int)(o:List zD)(i:Int):Tot (nR z o i) (z.length<=4/\0<=i/\(o.length:Int)=i/\i<=4/\(∀x∈o,SL1 x)) (λφ=>(∀o,SN 1000 o->φ (.done o))/\(φ (.ret ([],false)))):=⟨by
 rintro⟨h0,v0,v1,v2,v3⟩ φ hk
 exact(zI9 z h0 (((z.length:Int) - i).toNat+1) o i).ok ⟨by omega,by omega,v0,v1,v2,v3⟩ φ hk⟩
instance zLJ(z:List Int):Tot (dE z) (True) (λφ=>∀o b,SN 1000 o->φ (o,b)):=⟨by
 rintro _ φ hk
 unfold dE
 exact Ok.go⟩
theorem SP.one{y:List zD}{a:zI}(h:SN 1000 y)(ha:SS a):SP 1000 (zL.mk y [a]):=⟨h,za rfl,λ_ h=>yq.1 h ▸ ha⟩
theorem zJ0(y:List zD)(h0:SN 1000 y)(h1:y.length<=4):∀(k:Nat) (o:List zI) (n:Int) (r:zP),Tot (mX y o n r) (5 - n<(k:Int)/\0<(k:Int)/\0<=n/\n<=5/\o.length<=100/\(∀x∈o,SS x)/\0<=r.p/\r.p+6000*(5 - n)<=500000000) (λφ=>∀a s,a.length<=o.length+1->(∀x∈a,SS x)->r.p<=s.p->s.p<=r.p+6000*(5 - n)->φ (a,s)):=by
 intro k
 induction k with
 | zero=>intro o n r;exact⟨λh=>absurd h.2.1 (by omega)⟩
 | succ k ih=>
  intro o n r;refine⟨?_⟩;rintro⟨v0,v1,v2,v3,v4,v5,v6,v7⟩ φ hk;unfold mX;refine Ok.ite_dec (λh=>?_) λ_=>Ok.go;refine Ok.call (zMR r _) ⟨by omega,by omega,by omega,by omega⟩ λa s g1 g2 g3=>Ok.call zCx trivial λl hl=>?_;refine Ok.call (zI0 l _) ⟨hl,SP.one h0 g1⟩ λm b _=>?_;dsimp only;exact Ok.go
instance zPX(y:List zD)(o:List zI)(n:Int)(r:zP):Tot (mX y o n r) (SN 1000 y/\y.length<=4/\0<=n/\n<=5/\o.length<=100/\(∀x∈o,SS x)/\0<=r.p/\r.p+6000*(5 - n)<=500000000) (λφ=>∀a s,a.length<=o.length+1->(∀x∈a,SS x)->r.p<=s.p->s.p<=r.p+6000*(5 - n)->φ (a,s)):=⟨by
 rintro⟨h0,h1,v0,v1,v2,v3,v4,v5⟩ φ hk
 exact(zJ0 y h0 h1 ((5 - n).toNat+1) o n r).ok ⟨by omega,by omega,v0,v1,v2,v3,v4,v5⟩ φ hk⟩
theorem zJ1(y:List zD)(h0:SN 1000 y)(h1:y.length<=4):∀(k:Nat) (k0:Int) (o:List zI) (r:zP),Tot (mY y k0 o r) (k0<(k:Int)/\0<(k:Int)/\0<=k0/\(o.length:Int)+k0<=10/\(∀x∈o,SS x)/\0<=r.p/\r.p+30000*k0<=400000000) (λφ=>∀a s,a.length<=100->(∀x∈a,SS x)->r.p<=s.p->s.p<=r.p+30000*k0->φ (a,s)):=by
 intro k
 induction k with
 | zero=>intro k0 o r;exact⟨λh=>absurd h.2.1 (by omega)⟩
 | succ k ih=>
  intro k0 o r;refine⟨?_⟩;rintro⟨v0,v1,v2,v3,v4,v5,v6⟩ φ hk;unfold mY;exact Ok.go
instance zJ2(y:List zD)(k0:Int)(o:List zI)(r:zP):Tot (mY y k0 o r) (SN 1000 y/\y.length<=4/\0<=k0/\(o.length:Int)+k0<=10/\(∀x∈o,SS x)/\0<=r.p/\r.p+30000*k0<=400000000) (λφ=>∀a s,a.length<=100->(∀x∈a,SS x)->r.p<=s.p->s.p<=r.p+30000*k0->φ (a,s)):=⟨by
 rintro⟨h0,h1,v0,v1,v2,v3,v4⟩ φ hk
 exact(zJ1 y h0 h1 ((k0).toNat+1) k0 o r).ok ⟨by omega,by omega,v0,v1,v2,v3,v4⟩ φ hk⟩
theorem zJ3(x:zL):∀(k:Nat) (i:Int) (r:zP),Tot (mZ x i r) (4 - i<(k:Int)/\0<(k:Int)/\0<=i/\i<=4/\0<=r.p/\r.p+100000*(4 - i)<=300000000) (λφ=>(∀s,r.p<=s.p->s.p<=r.p+100000*(4 - i)->φ (.done (x,s)))/\(∀a s,SP 1000 a->r.p<=s.p->s.p<=r.p+100000*(4 - i)->φ (.ret (a,s)))):=by
 intro k
 induction k with
 | zero=>intro i r;exact⟨λh=>absurd h.2.1 (by omega)⟩
 | succ k ih=>
  intro i r;refine⟨?_⟩;rintro⟨v0,v1,v2,v3,v4,v5⟩ φ ⟨hd,hr⟩;unfold mZ;refine Ok.ite_dec (λh=>?_) λ_=>Ok.go;refine Ok.call (zMP r) ⟨v4,by omega⟩ λy s g1 g2 g3 g4=>?_;refine Ok.call (rF s _) ⟨by decide,by omega,by omega,by decide⟩ λn t g5 _ e3=>?_;simp only[yh,z8,or_false] at g5;refine Ok.call (zJ2 y n [] t) ⟨g1,g2,by omega,by simp;omega,λ_ h=>absurd h z8,by omega,by omega⟩ λb u g6 g7 g8 g9=>Ok.call zCx trivial λl hl=>?_;have hs:SP 1000 (zL.mk y b):=⟨g1,zw g6 (by decide),g7⟩;refine Ok.call (zI0 l _) ⟨hl,hs⟩ λm c _=>?_;dsimp only;refine Ok.bind (φ:=λ_=>True) Ok.go λz _=>Ok.ite (λ_=>Ok.pure (hr _ _ hs (by omega) (by omega))) λ_=>?_;rw[tV (by omega) (by omega)];exact Ok.last (ih _ u) ⟨by omega,by omega,by omega,by omega,by omega,by omega⟩ ⟨λs h1 h2=>hd s (by omega) (by omega),λa s h0 h1 h2=>hr a s h0 (by omega) (by omega)⟩
instance zJ4(x:zL)(i:Int)(r:zP):Tot (mZ x i r) (0<=i/\i<=4/\0<=r.p/\r.p+100000*(4 - i)<=300000000) (λφ=>(∀s,r.p<=s.p->s.p<=r.p+100000*(4 - i)->φ (.done (x,s)))/\(∀a s,SP 1000 a->r.p<=s.p->s.p<=r.p+100000*(4 - i)->φ (.ret (a,s)))):=⟨by
 rintro⟨v0,v1,v2,v3⟩ φ hk
 exact(zJ3 x ((4 - i).toNat+1) i r).ok ⟨by omega,by omega,v0,v1,v2,v3⟩ φ hk⟩
instance zQi(r:zP):Tot (dZ r) (0<=r.p/\r.p<=200000000) (λφ=>∀a s,SP 1000 a->r.p<=s.p->s.p<=r.p+400000->φ (a,s)):=⟨by
 rintro⟨h0,h1⟩ φ hk
 unfold dZ
 refine Ok.call (zJ4 _ 0 r) ⟨by decide,by decide,h0,by omega⟩ ⟨λs g1 g2=>?_,λa s g1 g2 g3=>Ok.pure (hk _ _ g1 (by omega) (by omega))⟩
 refine Ok.call (zE7 _) (by decide) λa b g3=>Ok.call (zLJ _) trivial λn c g4=>Ok.pure (hk _ _ (SP.one g4 g3) (by omega) (by omega))⟩
theorem zJ5 :∀(k:Nat) (i:Int) (o:List zL) (r:zP),Tot (kC i o r) (i<(k:Int)/\0<(k:Int)/\0<=i/\(o.length:Int)+i<=10/\(∀x∈o,SP 1000 x)/\0<=r.p/\r.p+400000*i<=100000000) (λφ=>∀a s,(a.length:Int)=o.length+i->(∀x∈a,SP 1000 x)->r.p<=s.p->s.p<=r.p+400000*i->φ (a,s)):=by
 intro k
 induction k with
 | zero=>intro i o r;exact⟨λh=>absurd h.2.1 (by omega)⟩
 | succ k ih=>
  intro i o r;refine⟨?_⟩;rintro⟨v0,v1,v2,v3,v4,v5,v6⟩ φ hk;unfold kC;exact Ok.go
instance zJ6  (i:Int) (o:List zL) (r:zP):Tot (kC i o r) (0<=i/\(o.length:Int)+i<=10/\(∀x∈o,SP 1000 x)/\0<=r.p/\r.p+400000*i<=100000000) (λφ=>∀a s,(a.length:Int)=o.length+i->(∀x∈a,SP 1000 x)->r.p<=s.p->s.p<=r.p+400000*i->φ (a,s)):=⟨by
 rintro⟨v0,v1,v2,v3,v4⟩ φ hk
 exact(zJ5 ((i).toNat+1) i o r).ok ⟨by omega,by omega,v0,v1,v2,v3,v4⟩ φ hk⟩
instance zIa(r:zP):Tot (eV r) (0<=r.p/\r.p<=50000000) (λφ=>∀a s,SG 1000 a->r.p<=s.p->s.p<=r.p+2000000->φ (a,s)):=⟨by
 rintro⟨h0,h1⟩ φ hk
 unfold eV
 refine Ok.call zCx trivial λl hl=>Ok.call (rF r _) ⟨by decide,h0,by omega,by decide⟩ λn t g5 _ e3=>?_
 simp only[yh,z8,or_false] at g5
 refine Ok.call (zJ6 n [] t) ⟨by omega,by simp;omega,λ_ h=>absurd h z8,by omega,by omega⟩ λa s g1 g2 g3 g4=>?_
 simp only[yo] at g1
 have hp:SG 1000 (zH.mk l a):=⟨hl,by dsimp only;omega,g2⟩
 refine Ok.call (zCb _) hp λb _=>Ok.ite (λ_=>Ok.pure (hk _ _ hp (by omega) (by omega))) λ_=>Ok.call zCx trivial λl2 r3=>?_
 refine Ok.slc (by omega) (by omega) (by omega) λm hm hml=>Ok.pure (hk _ _ ⟨r3,by dsimp only;omega,λx hx=>g2 x ?_⟩ (by omega) (by omega))
 subst hm
 exact AH (AI hx)⟩
instance zHK(bo:List UInt8):Tot (fF bo) (True) (λφ=>∀s,s.p=0->φ s):=⟨by
 rintro _ φ hk
 unfold fF
 exact Ok.go⟩
end Go.LN
