/- Helper of the proof (see the last text). -/
import Derived.Test.YtndncjnhabjnbaaGreatQT
import Derived.Test.YtndncjnhabjnbaaGreatHM8
set_option linter.unusedVariables false
set_option linter.unusedSimpArgs false
namespace Go.LN
def I64(x:Int):Prop:=-9223372036854775808<=x/\x<=9223372036854775807
instance (x:Int):Decidable (I64 x):=inferInstanceAs (Decidable (_/\_))
theorem zMk(x:Int):I64 (W x):=by
 show -9223372036854775808<=IntKind.i64.wrap x/\IntKind.i64.wrap x<=9223372036854775807;rw[IntKind.wrap_i64];omega
instance (x:Int):Sd (I64 (W x)):=⟨zMk x⟩
theorem I64.of{x:Int}(h0:-9223372036854775808<=x)(h1:x<=9223372036854775807):I64 x:=⟨h0,h1⟩
def SA(a:zA):Prop:=a.Coefs.length<=100/\I64 a.Const
def VA(a:zA):Prop:=a.Coefs.length=4/\(∀c∈a.Coefs,I64 c)/\I64 a.Const
def SC(a:zK):Prop:=a.Array.l.length<=1000000/\a.Subs.length<=100/\∀s∈a.Subs,SA s
def VC(a:zK):Prop:=a.Array.l.length<=1/\a.Subs.length<=2/\∀s∈a.Subs,VA s
def SE:Nat->zI->Prop
 | 0,e=>SA e.Index/\SC e.Read/\e.Kids=[]
 | n+1,e=>SA e.Index/\SC e.Read/\e.Kids.length<=10/\∀k∈e.Kids,SE n k
def VO(e:zI):Prop:=(e.Kind=1/\I64 e.Num)∨(e.Kind=2/\VA e.Index)∨(e.Kind=3/\VC e.Read)
def VE:Nat->zI->Prop
 | 0,e=>VO e
 | n+1,e=>VO e∨((e.Kind=4∨e.Kind=5∨e.Kind=6)/\e.Kids.length=2/\∀k∈e.Kids,VE n k)
def SS(s:zP):Prop:=SC s.Write/\SE 5 s.Value
def VS(s:zP):Prop:=VC s.Write/\VE 5 s.Value
def LL(l:List zA):Prop:=l.length<=100/\∀a∈l,SA a
def VL(l:List zA):Prop:=1<=l.length/\l.length<=2/\∀a∈l,VA a
def SL1(x:zE):Prop:=LL x.Lo/\LL x.Hi
def VL1(x:zE):Prop:=VL x.Lo/\VL x.Hi
def SN(b:Nat)(l:List zE):Prop:=l.length<=b/\∀x∈l,SL1 x
def VN(l:List zE):Prop:=l.length<=4/\∀x∈l,VL1 x
def SP(b:Nat)(p:zQ):Prop:=SN b p.Nest/\p.Body.length<=b/\∀s∈p.Body,SS s
def VP(p:zQ):Prop:=VN p.Nest/\p.Body.length<=4/\∀s∈p.Body,VS s
def SR(a:zF):Prop:=a.Name.l.length<=1000000/\a.Dims.length<=100
def VR(a:zF):Prop:=a.Name.l.length=1/\a.Dims.length<=2/\∀d∈a.Dims,I64 d
def SRs(b:Nat)(l:List zF):Prop:=l.length<=b/\∀a∈l,SR a
def VRs(l:List zF):Prop:=l.length<=4/\∀a∈l,VR a
def SG(b:Nat)(p:zC):Prop:=SRs b p.Arrays/\p.Parts.length<=b/\∀q∈p.Parts,SP b q
def VG(p:zC):Prop:=VRs p.Arrays/\p.Parts.length<=4/\∀q∈p.Parts,VP q
instance (a:zA):Su (SA a) (a.Coefs.length<=100/\I64 a.Const):=⟨id⟩
instance (a:zA):Su (VA a) (a.Coefs.length=4/\(∀c∈a.Coefs,I64 c)/\I64 a.Const):=⟨id⟩
instance (a:zK):Su (SC a) (a.Array.l.length<=1000000/\a.Subs.length<=100/\∀s∈a.Subs,SA s):=⟨id⟩
instance (a:zK):Su (VC a) (a.Array.l.length<=1/\a.Subs.length<=2/\∀s∈a.Subs,VA s):=⟨id⟩
instance (s:zP):Su (SS s) (SC s.Write/\SE 5 s.Value):=⟨id⟩
instance (s:zP):Su (VS s) (VC s.Write/\VE 5 s.Value):=⟨id⟩
instance (l:List zA):Su (LL l) (l.length<=100/\∀a∈l,SA a):=⟨id⟩
instance (l:List zA):Su (VL l) (1<=l.length/\l.length<=2/\∀a∈l,VA a):=⟨id⟩
instance (x:zE):Su (SL1 x) (LL x.Lo/\LL x.Hi):=⟨id⟩
instance (x:zE):Su (VL1 x) (VL x.Lo/\VL x.Hi):=⟨id⟩
instance (b:Nat) (l:List zE):Su (SN b l) (l.length<=b/\∀x∈l,SL1 x):=⟨id⟩
instance (l:List zE):Su (VN l) (l.length<=4/\∀x∈l,VL1 x):=⟨id⟩
instance (b:Nat) (p:zQ):Su (SP b p) (SN b p.Nest/\p.Body.length<=b/\∀s∈p.Body,SS s):=⟨id⟩
instance (p:zQ):Su (VP p) (VN p.Nest/\p.Body.length<=4/\∀s∈p.Body,VS s):=⟨id⟩
instance (a:zF):Su (SR a) (a.Name.l.length<=1000000/\a.Dims.length<=100):=⟨id⟩
instance (a:zF):Su (VR a) (a.Name.l.length=1/\a.Dims.length<=2/\∀d∈a.Dims,I64 d):=⟨id⟩
instance (b:Nat) (l:List zF):Su (SRs b l) (l.length<=b/\∀a∈l,SR a):=⟨id⟩
instance (l:List zF):Su (VRs l) (l.length<=4/\∀a∈l,VR a):=⟨id⟩
instance (b:Nat) (p:zC):Su (SG b p) (SRs b p.Arrays/\p.Parts.length<=b/\∀q∈p.Parts,SP b q):=⟨id⟩
instance (p:zC):Su (VG p) (VRs p.Arrays/\p.Parts.length<=4/\∀q∈p.Parts,VP q):=⟨id⟩
instance (x:Int):Su (I64 x) (-9223372036854775808<=x/\x<=9223372036854775807):=⟨id⟩
instance (x:zE):Sw (LL x.Lo) (SL1 x):=⟨And.left⟩
instance (x:zE):Sw (LL x.Hi) (SL1 x):=⟨And.right⟩
instance (s:zP):Sw (SC s.Write) (SS s):=⟨And.left⟩
instance (s:zP):Sw (SE 5 s.Value) (SS s):=⟨And.right⟩
theorem SE.parts:∀{n:Nat}{e:zI},SE n e->SA e.Index/\SC e.Read/\e.Kids.length<=10
 | 0,e,h=>⟨h.1,h.2.1,by rw[h.2.2];simp⟩
 | n+1,e,h=>⟨h.1,h.2.1,h.2.2.1⟩
theorem SE.succ:∀{n:Nat}{e:zI},SE n e->SE (n+1) e
 | 0,e,h=>⟨h.1,h.2.1,by rw[h.2.2];simp,by rw[h.2.2];simp⟩
 | n+1,e,h=>⟨h.1,h.2.1,h.2.2.1,λk hk=>(h.2.2.2 k hk).succ⟩
theorem SE.leaf{e:zI}(h1:SA e.Index)(h2:SC e.Read)(h3:e.Kids=[]):∀{n:Nat},SE n e
 | 0=>⟨h1,h2,h3⟩
 | n+1=>⟨h1,h2,by rw[h3];simp,by rw[h3];simp⟩
theorem SA.nil{c:Int}(h:I64 c):SA (zA.mk [] c):=⟨by simp,h⟩
theorem SA.nil0:SA (zA.mk [] 0):=⟨by simp,by simp[I64]⟩
theorem SC.nil:SC (zK.mk ⟨[]⟩ []):=by simp[SC]
instance:Sd (SA (zA.mk [] 0)):=⟨SA.nil0⟩
instance:Sd (SC (zK.mk ⟨[]⟩ [])):=⟨SC.nil⟩
theorem zHt(x:zF)(h0:SR x):∀(k:Nat) (i:Int),Tot (uF x i) ((x.Dims.length:Int) - i<(k:Int)/\0<(k:Int)/\0<=i) (λφ=>(AF x.Dims i I64->φ (.done ()))/\(φ (.ret false))):=by
 have h0:=h0.2;intro k
 induction k with
 | zero=>intro i;exact⟨λh=>absurd h.2.1 (by omega)⟩
 | succ k ih=>
  intro i;refine⟨?_⟩;rintro⟨v0,v1,v2⟩ φ ⟨hd,hr⟩;unfold uF;exact Ok.go
instance zNj(x:zF)(i:Int):Tot (uF x i) (SR x/\0<=i) (λφ=>(AF x.Dims i I64->φ (.done ()))/\(φ (.ret false))):=⟨by
 rintro⟨h0,v0⟩ φ hk
 exact(zHt x h0 (((x.Dims.length:Int) - i).toNat+1) i).ok ⟨by omega,by omega,v0⟩ φ hk⟩
theorem zHu(l:List zF)(h0:SRs 1000 l):∀(k:Nat) (i:Int),Tot (uY l i) ((l.length:Int) - i<(k:Int)/\0<(k:Int)/\0<=i) (λφ=>(AF l i VR->φ (.done ()))/\(φ (.ret false))):=by
 obtain⟨h00,h01⟩:=h0;intro k
 induction k with
 | zero=>intro i;exact⟨λh=>absurd h.2.1 (by omega)⟩
 | succ k ih=>
  intro i;refine⟨?_⟩;rintro⟨v0,v1,v2⟩ φ ⟨hd,hr⟩;unfold uY;exact Ok.go
instance zNk(l:List zF)(i:Int):Tot (uY l i) (SRs 1000 l/\0<=i) (λφ=>(AF l i VR->φ (.done ()))/\(φ (.ret false))):=⟨by
 rintro⟨h0,v0⟩ φ hk
 exact(zHu l h0 (((l.length:Int) - i).toNat+1) i).ok ⟨by omega,by omega,v0⟩ φ hk⟩
instance zPW(l:List zF):Tot (kC l) (SRs 1000 l) (λφ=>∀r,(r=true->VRs l)->φ r):=⟨by
 rintro h0 φ hk
 unfold kC
 exact Ok.go⟩
instance zNS(a:zA):Tot (sQ a) (SA a) (λφ=>∀r,SA r->r.Coefs.length=a.Coefs.length->φ r):=⟨by
 rintro h0 φ hk
 obtain⟨h00,h01⟩:=h0
 unfold sQ
 exact Ok.go⟩
theorem zE2(a:zK)(h0:SC a):∀(k:Nat) (i:Int) (Subs:List zA),Tot (wS a i Subs) ((a.Subs.length:Int) - i<(k:Int)/\0<(k:Int)/\0<=i/\(Subs.length:Int)=i/\i<=a.Subs.length/\(∀s∈Subs,SA s)) (λφ=>∀r,r.length<=100->(∀s∈r,SA s)->φ r):=by
 obtain⟨h01,h02,h03⟩:=h0;intro k
 induction k with
 | zero=>intro i Subs;exact⟨λh=>absurd h.2.1 (by omega)⟩
 | succ k ih=>
  intro i Subs;refine⟨?_⟩;rintro⟨v0,v1,v2,v3,v4,v5⟩ φ hk;unfold wS;exact Ok.go
instance zLv(a:zK)(i:Int)(Subs:List zA):Tot (wS a i Subs) (SC a/\0<=i/\(Subs.length:Int)=i/\i<=a.Subs.length/\(∀s∈Subs,SA s)) (λφ=>∀r,r.length<=100->(∀s∈r,SA s)->φ r):=⟨by
 rintro⟨h0,v0,v1,v2,v3⟩ φ hk
 exact(zE2 a h0 (((a.Subs.length:Int) - i).toNat+1) i Subs).ok ⟨by omega,by omega,v0,v1,v2,v3⟩ φ hk⟩
instance zNT(a:zK):Tot (tA a) (SC a) (λφ=>∀r,SC r->φ r):=⟨by
 rintro h0 φ hk
 have h00:=h0.1
 unfold tA
 exact Ok.go⟩
def RN:Nat->Nat
 | 0=>1
 | n+1=>10*RN n+1
theorem zLO:∀(n:Nat) (out:List zK) (e:zI),Tot (rF out e) (SE n e/\out.length+RN n<=10000000/\∀s∈out,SC s) (λφ=>∀r,r.length<=out.length+RN n->(∀s∈r,SC s)->φ r):=by
 intro n
 induction n with
 | zero=>
  intro out e;refine⟨?_⟩;rintro⟨⟨h1,h2,h3⟩,ho,hs⟩ φ hk;unfold rF;dsimp only [same];simp only[RN] at ho hk;have hl:∀o:List zK,Tot (wW e o 0) True (λφ=>φ o):=by
   intro o;refine⟨?_⟩;rintro - φ hk;unfold wW;rw[h3];exact Ok.pure hk
  exact Ok.go
 | succ n ih=>
  intro out e;refine⟨?_⟩;rintro⟨⟨h1,h2,h3,h4⟩,ho,hs⟩ φ hk;unfold rF;dsimp only [same];simp only[RN] at ho hk;have hl:∀(k:Nat) (i:Int) (o:List zK),Tot (wW e o i) (((e.Kids.length:Int) - i<=k/\0<=i/\k<=10)/\o.length+k*RN n<=10000000/\∀s∈o,SC s) (λφ=>∀r,r.length<=o.length+k*RN n->(∀s∈r,SC s)->φ r):=by
   intro k
   induction k with
   | zero=>
    intro i o;refine⟨?_⟩;rintro⟨⟨a1,a2,a3⟩,a4,a5⟩ φ hk;unfold wW;dsimp only [same];exact Ok.go
   | succ k ik=>
    intro i o;refine⟨?_⟩;rintro⟨⟨a1,a2,a3⟩,a4,a5⟩ φ hk;unfold wW;dsimp only [same];have e1:(k+1)*RN n=k*RN n+RN n:=by rw[fc,Nat.one_mul]
    rw[e1] at a4 hk;exact Ok.go
  have hl:=hl 10 0;exact Ok.go
instance zPt(e:zI):Tot (rF [] e) (SE 5 e) (λφ=>∀r,r.length<=111111->(∀s∈r,SC s)->φ r):=⟨λh φ hk=>(zLO 5 [] e).ok ⟨h,by decide,S⟩ φ λr h1 h2=>hk r (by simp[RN] at h1;omega) h2⟩
theorem zJ7(a:zF)(h0:SR a):∀(k:Nat) (n:Int) (i:Int),Tot (sL a n i) ((a.Dims.length:Int) - i<(k:Int)/\0<(k:Int)/\0<=i) (λφ=>∀r,φ r):=by
 have h0:=h0.2;intro k
 induction k with
 | zero=>intro n i;exact⟨λh=>absurd h.2.1 (by omega)⟩
 | succ k ih=>
  intro n i;refine⟨?_⟩;rintro⟨v0,v1,v2⟩ φ hk;unfold sL;exact Ok.go
instance zOv(a:zF)(n:Int)(i:Int):Tot (sL a n i) (SR a/\0<=i) (λφ=>∀r,φ r):=⟨by
 rintro⟨h0,v0⟩ φ hk
 exact(zJ7 a h0 (((a.Dims.length:Int) - i).toNat+1) n i).ok ⟨by omega,by omega,v0⟩ φ hk⟩
instance zQT(a:zF):Tot (gN a) (SR a) (λφ=>∀r,φ r):=⟨by
 rintro h0 φ hk
 unfold gN
 exact Ok.go⟩
theorem zJ8(a:zA)(ah:List Int)(h0:SA a):∀(k:Nat) (n:Int) (i:Int),Tot (sJ a ah n i) ((a.Coefs.length:Int) - i<(k:Int)/\0<(k:Int)/\I64 n/\0<=i) (λφ=>∀r,I64 r->φ r):=by
 have h0:=h0.1;intro k
 induction k with
 | zero=>intro n i;exact⟨λh=>absurd h.2.1 (by omega)⟩
 | succ k ih=>
  intro n i;refine⟨?_⟩;rintro⟨v0,v1,v2,v3⟩ φ hk;unfold sJ;exact Ok.go
instance zOw(a:zA)(ah:List Int)(n:Int)(i:Int):Tot (sJ a ah n i) (SA a/\I64 n/\0<=i) (λφ=>∀r,I64 r->φ r):=⟨by
 rintro⟨h0,v0,v1⟩ φ hk
 exact(zJ8 a ah h0 (((a.Coefs.length:Int) - i).toNat+1) n i).ok ⟨by omega,by omega,v0,v1⟩ φ hk⟩
instance zQU(a:zA)(ah:List Int):Tot (qX a ah) (SA a) (λφ=>∀r,I64 r->φ r):=⟨by
 rintro h0 φ hk
 have h1:=h0.2
 unfold qX
 exact Ok.go⟩
theorem zJ9(list:List zF)(a:zK)(ah:List Int)(i:Int)(h0:SC a)(h1:0<=i)(h2:i<(list.length:Int)):∀(k:Nat) (n:Int) (k0:Int),Tot (tI list a ah i n k0) ((a.Subs.length:Int) - k0<(k:Int)/\0<(k:Int)/\0<=k0) (λφ=>(∀r,φ (.done r))/\(∀r,φ (.ret r))):=by
 obtain⟨h01,h02,h03⟩:=h0;intro k
 induction k with
 | zero=>intro n k0;exact⟨λh=>absurd h.2.1 (by omega)⟩
 | succ k ih=>
  intro n k0;refine⟨?_⟩;rintro⟨v0,v1,v2⟩ φ ⟨hd,hr⟩;unfold tI;exact Ok.go
instance zOx(list:List zF)(a:zK)(ah:List Int)(i:Int)(n:Int)(k0:Int):Tot (tI list a ah i n k0) (SC a/\0<=i/\i<(list.length:Int)/\0<=k0) (λφ=>(∀r,φ (.done r))/\(∀r,φ (.ret r))):=⟨by
 rintro⟨h0,h1,h2,v0⟩ φ hk
 exact(zJ9 list a ah i h0 h1 h2 (((a.Subs.length:Int) - k0).toNat+1) n k0).ok ⟨by omega,by omega,v0⟩ φ hk⟩
theorem zJa(list:List zF)(a:zK)(ah:List Int)(h0:SC a)(h1:SRs 1000 list):∀(k:Nat) (base:Int) (i:Int),Tot (tJ list a ah base i) ((list.length:Int) - i<(k:Int)/\0<(k:Int)/\0<=i) (λφ=>(φ (.done ()))/\(∀r,φ (.ret r))):=by
 obtain⟨h10,h11⟩:=h1;intro k
 induction k with
 | zero=>intro base i;exact⟨λh=>absurd h.2.1 (by omega)⟩
 | succ k ih=>
  intro base i;refine⟨?_⟩;rintro⟨v0,v1,v2⟩ φ ⟨hd,hr⟩;unfold tJ;exact Ok.go
instance zOy(list:List zF)(a:zK)(ah:List Int)(base:Int)(i:Int):Tot (tJ list a ah base i) (SC a/\SRs 1000 list/\0<=i) (λφ=>(φ (.done ()))/\(∀r,φ (.ret r))):=⟨by
 rintro⟨h0,h1,v0⟩ φ hk
 exact(zJa list a ah h0 h1 (((list.length:Int) - i).toNat+1) base i).ok ⟨by omega,by omega,v0⟩ φ hk⟩
instance zQV(list:List zF)(a:zK)(ah:List Int):Tot (kU list a ah) (SC a/\SRs 1000 list) (λφ=>∀r,φ r):=⟨by
 rintro⟨h0,h1⟩ φ hk
 unfold kU
 exact Ok.go⟩
theorem zIq(list:List zF)(ah:List Int)(y:List zK)(h0:y.length<=111111)(h1:∀s∈y,SC s)(h2:SRs 1000 list):∀(k:Nat) (out:List Int) (i:Int),Tot (tV list ah y out i) ((y.length:Int) - i<(k:Int)/\0<(k:Int)/\0<=i/\(out.length:Int)=i/\i<=(y.length:Int)) (λφ=>(∀o,o.length<=111111->φ (.done o))/\(φ (.ret ([],0,false)))):=by
 intro k
 induction k with
 | zero=>intro out i;exact⟨λh=>absurd h.2.1 (by omega)⟩
 | succ k ih=>
  intro out i;refine⟨?_⟩;rintro⟨v0,v1,v2,v3,v4⟩ φ ⟨hd,hr⟩;unfold tV;exact Ok.go
instance zOX(list:List zF)(ah:List Int)(y:List zK)(out:List Int)(i:Int):Tot (tV list ah y out i) (y.length<=111111/\(∀s∈y,SC s)/\SRs 1000 list/\0<=i/\(out.length:Int)=i/\i<=(y.length:Int)) (λφ=>(∀o,o.length<=111111->φ (.done o))/\(φ (.ret ([],0,false)))):=⟨by
 rintro⟨h0,h1,h2,v0,v1,v2⟩ φ hk
 exact(zIq list ah y h0 h1 h2 (((y.length:Int) - i).toNat+1) out i).ok ⟨by omega,by omega,v0,v1,v2⟩ φ hk⟩
instance zPu(list:List zF)(s:zP)(ah:List Int):Tot (mP list s ah) (SS s/\SRs 1000 list) (λφ=>∀a b c,a.length<=111111->φ (a,b,c)):=⟨by
 rintro⟨h0,h1⟩ φ hk
 obtain⟨h00,h01⟩:=h0
 unfold mP
 exact Ok.go⟩
theorem zIr(loop:zE)(p2:List Int)(h0:LL loop.Lo):∀(k:Nat) (lo:Int) (i:Int),Tot (tT loop p2 lo i) ((loop.Lo.length:Int) - i<(k:Int)/\0<(k:Int)/\I64 lo/\0<=i) (λφ=>∀r,I64 r->φ r):=by
 obtain⟨h00,h01⟩:=h0;intro k
 induction k with
 | zero=>intro lo i;exact⟨λh=>absurd h.2.1 (by omega)⟩
 | succ k ih=>
  intro lo i;refine⟨?_⟩;rintro⟨v0,v1,v2,v3⟩ φ hk;unfold tT;exact Ok.go
instance zOY(loop:zE)(p2:List Int)(lo:Int)(i:Int):Tot (tT loop p2 lo i) (LL loop.Lo/\I64 lo/\0<=i) (λφ=>∀r,I64 r->φ r):=⟨by
 rintro⟨h0,v0,v1⟩ φ hk
 exact(zIr loop p2 h0 (((loop.Lo.length:Int) - i).toNat+1) lo i).ok ⟨by omega,by omega,v0,v1⟩ φ hk⟩
theorem zIs(loop:zE)(p2:List Int)(h0:LL loop.Hi):∀(k:Nat) (hi:Int) (i:Int),Tot (tU loop p2 hi i) ((loop.Hi.length:Int) - i<(k:Int)/\0<(k:Int)/\I64 hi/\0<=i) (λφ=>∀r,I64 r->φ r):=by
 obtain⟨h00,h01⟩:=h0;intro k
 induction k with
 | zero=>intro hi i;exact⟨λh=>absurd h.2.1 (by omega)⟩
 | succ k ih=>
  intro hi i;refine⟨?_⟩;rintro⟨v0,v1,v2,v3⟩ φ hk;unfold tU;exact Ok.go
instance zOZ(loop:zE)(p2:List Int)(hi:Int)(i:Int):Tot (tU loop p2 hi i) (LL loop.Hi/\I64 hi/\0<=i) (λφ=>∀r,I64 r->φ r):=⟨by
 rintro⟨h0,v0,v1⟩ φ hk
 exact(zIs loop p2 h0 (((loop.Hi.length:Int) - i).toNat+1) hi i).ok ⟨by omega,by omega,v0,v1⟩ φ hk⟩
instance zH3(loop:zE)(p2:List Int):Tot (mO loop p2) (SL1 loop/\1<=loop.Lo.length/\1<=loop.Hi.length) (λφ=>∀a b,I64 a->I64 b->φ (a,b)):=⟨by
 rintro⟨h0,h1,h2⟩ φ hk
 have h00:=h0;obtain⟨⟨h01,h02⟩,⟨h03,h04⟩⟩:=h0
 unfold mO
 exact Ok.go⟩
instance zPX(n:Int)(most:Int):Tot (uN n most) (0<=most/\most<=1000000) (λφ=>∀r,(r=true->I64 n)->φ r):=⟨by
 rintro⟨h0,h1⟩ φ hk
 unfold uN
 exact Ok.go⟩
theorem zFP(a:zA)(h0:SA a):∀(k:Nat) (i:Int),Tot (vC a i) ((a.Coefs.length:Int) - i<(k:Int)/\0<(k:Int)/\0<=i) (λφ=>(AF a.Coefs i I64->φ (.done ()))/\(φ (.ret false))):=by
 have h01:=h0.1;intro k
 induction k with
 | zero=>intro i;exact⟨λh=>absurd h.2.1 (by omega)⟩
 | succ k ih=>
  intro i;refine⟨?_⟩;rintro⟨v0,v1,v2⟩ φ ⟨hd,hr⟩;unfold vC;exact Ok.go
instance zML(a:zA)(i:Int):Tot (vC a i) (SA a/\0<=i) (λφ=>(AF a.Coefs i I64->φ (.done ()))/\(φ (.ret false))):=⟨by
 rintro⟨h0,v0⟩ φ hk
 exact(zFP a h0 (((a.Coefs.length:Int) - i).toNat+1) i).ok ⟨by omega,by omega,v0⟩ φ hk⟩
instance zHv(a:zA):Tot (uW a) (SA a) (λφ=>∀r,(r=true->VA a)->φ r):=⟨by
 rintro h0 φ hk
 have h00:=h0.2
 unfold uW
 exact Ok.go⟩
theorem zIt(a:zA)(h0:SA a):∀(k:Nat) (n:Int) (i:Int),Tot (tS a n i) ((a.Coefs.length:Int) - i<(k:Int)/\0<(k:Int)/\0<=i) (λφ=>∀r,φ r):=by
 have h01:=h0.1;intro k
 induction k with
 | zero=>intro n i;exact⟨λh=>absurd h.2.1 (by omega)⟩
 | succ k ih=>
  intro n i;refine⟨?_⟩;rintro⟨v0,v1,v2⟩ φ hk;unfold tS;exact Ok.go
instance zO0(a:zA)(n:Int)(i:Int):Tot (tS a n i) (SA a/\0<=i) (λφ=>∀r,φ r):=⟨by
 rintro⟨h0,v0⟩ φ hk
 exact(zIt a h0 (((a.Coefs.length:Int) - i).toNat+1) n i).ok ⟨by omega,by omega,v0⟩ φ hk⟩
instance zPv(a:zA):Tot (oI a) (SA a) (λφ=>∀r,φ r):=⟨by
 rintro h0 φ hk
 unfold oI
 exact Ok.go⟩
theorem zJb(list:List zA)(ae:Int)(h0:LL list):∀(k:Nat) (i:Int),Tot (sK list ae i) ((list.length:Int) - i<(k:Int)/\0<(k:Int)/\0<=i) (λφ=>(AF list i VA->φ (.done ()))/\(φ (.ret false))):=by
 obtain⟨h01,h02⟩:=h0;intro k
 induction k with
 | zero=>intro i;exact⟨λh=>absurd h.2.1 (by omega)⟩
 | succ k ih=>
  intro i;refine⟨?_⟩;rintro⟨v0,v1,v2⟩ φ ⟨hd,hr⟩;unfold sK;exact Ok.go
instance zOz(list:List zA)(ae:Int)(i:Int):Tot (sK list ae i) (LL list/\0<=i) (λφ=>(AF list i VA->φ (.done ()))/\(φ (.ret false))):=⟨by
 rintro⟨h0,v0⟩ φ hk
 exact(zJb list ae h0 (((list.length:Int) - i).toNat+1) i).ok ⟨by omega,by omega,v0⟩ φ hk⟩
instance zQW(list:List zA)(ae:Int):Tot (kT list ae) (LL list) (λφ=>∀r,(r=true->VL list)->φ r):=⟨by
 rintro h0 φ hk
 unfold kT
 exact Ok.go⟩
theorem zHR(nest:List zE)(h0:SN 1000 nest):∀(k:Nat) (i:Int),Tot (vQ nest i) ((nest.length:Int) - i<(k:Int)/\0<(k:Int)/\0<=i) (λφ=>(((nest.length:Int)<=4->AF nest i VL1)->φ (.done ()))/\(φ (.ret false))):=by
 obtain⟨h00,h01⟩:=h0;intro k
 induction k with
 | zero=>intro i;exact⟨λh=>absurd h.2.1 (by omega)⟩
 | succ k ih=>
  intro i;refine⟨?_⟩;rintro⟨v0,v1,v2⟩ φ ⟨hd,hr⟩;unfold vQ;exact Ok.go
instance zNU(nest:List zE)(i:Int):Tot (vQ nest i) (SN 1000 nest/\0<=i) (λφ=>(((nest.length:Int)<=4->AF nest i VL1)->φ (.done ()))/\(φ (.ret false))):=⟨by
 rintro⟨h0,v0⟩ φ hk
 exact(zHR nest h0 (((nest.length:Int) - i).toNat+1) i).ok ⟨by omega,by omega,v0⟩ φ hk⟩
instance zPA(nest:List zE):Tot (nT nest) (SN 1000 nest) (λφ=>∀r,(r=true->VN nest)->φ r):=⟨by
 rintro h0 φ hk
 unfold nT
 exact Ok.go⟩
theorem VN.get{nest:List zE}{x:zE}(h:VN nest)(hx:x∈nest):1<=x.Lo.length/\1<=x.Hi.length:=⟨(h.2 x hx).1.1,(h.2 x hx).2.1⟩
theorem zK6(nest:List zE)(hn:SN 1000 nest)(hv:VN nest):∀(d:Nat) (o:List (List Int)) (p2:List Int),Tot (uO o nest p2) (p2.length+d=nest.length/\o.length<=120/\(∀q∈o,q.length<=4)) (λφ=>∀r,r.length<=121->(∀q∈r,q.length<=4)->φ r):=by
 obtain⟨hn1,hn2⟩:=hn;have hv1:=hv.1;intro d
 induction d with
 | zero=>
  intro o p2;refine⟨?_⟩;rintro⟨hp,ho,hq⟩ φ hk;unfold uO;dsimp only [same];exact Ok.ite_beq (λh=>Ok.go) λh=>absurd h (by omega)
 | succ d ih=>
  intro o p2;refine⟨?_⟩;rintro⟨hp,ho,hq⟩ φ hk;unfold uO;dsimp only [same];have hloop:∀(y2:Int) (k:Nat) (v:Int) (o:List (List Int)),Tot (sE nest p2 y2 o v) ((y2 - v<=k/\I64 v/\I64 y2/\o.length<=121)/\(∀q∈o,q.length<=4)) (λφ=>∀r,r.length<=121->(∀q∈r,q.length<=4)->φ r):=by
   intro y2 k
   induction k with
   | zero=>intro v o;refine⟨?_⟩;rintro⟨⟨a1,⟨a2,a5⟩,⟨a6,a7⟩,a3⟩,a4⟩ φ hk;unfold sE;dsimp only [same];exact Ok.go
   | succ k ik=>
    intro v o;refine⟨?_⟩;rintro⟨⟨a1,⟨a2,a5⟩,⟨a6,a7⟩,a3⟩,a4⟩ φ hk;unfold sE;dsimp only [same];exact Ok.go
  refine Ok.ite_beq (λh=>absurd h (by omega)) λh=>Ok.idx (by omega) (by omega) λx hx _=>?_;obtain⟨g1,g2⟩:=VN.get hv hx;refine Ok.call (zH3 x p2) ⟨hn2 x hx,g1,g2⟩ ?_;intro a b ha hb;have hloop:=hloop b (b - a).toNat;exact Ok.go
instance zPY(nest:List zE):Tot (uO [] nest []) (SN 1000 nest/\VN nest) (λφ=>∀r,r.length<=121->(∀q∈r,q.length<=4)->φ r):=⟨λ⟨h,hv⟩ φ hk=>(zK6 nest h hv nest.length [] []).ok ⟨by simp,by simp,by simp⟩ φ hk⟩
theorem zMM(nest:List zE)(hn:SN 1000 nest)(hv:VN nest):∀(d:Nat) (p2:List Int) (most:Int),Tot (rL nest p2 most) (p2.length+d=nest.length) (λφ=>∀r,φ r):=by
 obtain⟨hn1,hn2⟩:=hn;have hv1:=hv.1;intro d
 induction d with
 | zero=>
  intro p2 most;refine⟨?_⟩;rintro hp φ hk;unfold rL;dsimp only [same];exact Ok.ite_beq (λh=>Ok.go) λh=>absurd h (by omega)
 | succ d ih=>
  intro p2 most;refine⟨?_⟩;rintro hp φ hk;unfold rL;dsimp only [same];have hloop:∀(y2:Int) (k:Nat) (n v:Int),Tot (rX nest p2 most y2 n v) (y2 - v<=k/\I64 v/\I64 y2) (λφ=>∀r,φ r):=by
   intro y2 k
   induction k with
   | zero=>intro n v;refine⟨?_⟩;rintro⟨a1,⟨a2,a5⟩,⟨a6,a7⟩⟩ φ hk;unfold rX;dsimp only [same];exact Ok.go
   | succ k ik=>
    intro n v;refine⟨?_⟩;rintro⟨a1,⟨a2,a5⟩,⟨a6,a7⟩⟩ φ hk;unfold rX;dsimp only [same];exact Ok.go
  refine Ok.ite_beq (λh=>absurd h (by omega)) λh=>Ok.idx (by omega) (by omega) λx hx _=>?_;obtain⟨g1,g2⟩:=VN.get hv hx;refine Ok.call (zH3 x p2) ⟨hn2 x hx,g1,g2⟩ ?_;intro a b ha hb;have hloop:=hloop b (b - a).toNat;exact Ok.go
instance zQX(nest:List zE)(most:Int):Tot (rL nest [] most) (SN 1000 nest/\VN nest) (λφ=>∀r,φ r):=⟨λ⟨h,hv⟩ φ hk=>(zMM nest h hv nest.length [] most).ok (by simp) φ hk⟩
instance zO1(nest:List zE):Tot (oL nest) (SN 1000 nest) (λφ=>∀a b,a.length<=120->(∀q∈a,q.length<=4)->(b=true->VN nest)->φ (a,b)):=⟨by
 rintro h0 φ hk
 unfold oL
 exact Ok.go⟩
theorem zHw(a:zK)(ae:Int)(h0:SC a):∀(k:Nat) (i:Int),Tot (uX a ae i) ((a.Subs.length:Int) - i<(k:Int)/\0<(k:Int)/\0<=i) (λφ=>(AF a.Subs i VA->φ (.done ()))/\(φ (.ret false))):=by
 obtain⟨h01,h02,h03⟩:=h0;intro k
 induction k with
 | zero=>intro i;exact⟨λh=>absurd h.2.1 (by omega)⟩
 | succ k ih=>
  intro i;refine⟨?_⟩;rintro⟨v0,v1,v2⟩ φ ⟨hd,hr⟩;unfold uX;exact Ok.go
instance zNl(a:zK)(ae:Int)(i:Int):Tot (uX a ae i) (SC a/\0<=i) (λφ=>(AF a.Subs i VA->φ (.done ()))/\(φ (.ret false))):=⟨by
 rintro⟨h0,v0⟩ φ hk
 exact(zHw a ae h0 (((a.Subs.length:Int) - i).toNat+1) i).ok ⟨by omega,by omega,v0⟩ φ hk⟩
instance zPZ(a:zK)(ae:Int):Tot (nA a ae) (SC a) (λφ=>∀r,(r=true->VC a)->φ r):=⟨by
 rintro h0 φ hk
 unfold nA
 exact Ok.go⟩
instance zIu(kind:Int):Tot (gL kind) (True) (λφ=>∀r,(r=0/\(kind=1∨kind=2∨kind=3))∨(r=2/\(kind=4∨kind=5∨kind=6))∨r=-1->φ r):=⟨by
 rintro _ φ hk
 unfold gL
 exact Ok.go⟩
instance zPw(a:zK):Tot (oJ a) (True) (λφ=>∀r:Bool,φ r):=⟨by
 rintro _ φ hk
 unfold oJ
 exact Ok.go⟩
instance zQY(a:zA):Tot (mK a) (True) (λφ=>∀r:Bool,φ r):=⟨by
 rintro _ φ hk
 unfold mK
 exact Ok.go⟩
instance zKG(e:zI)(ae:Int):Tot (fW e ae) (SA e.Index/\SC e.Read) (λφ=>∀r,(r=true->e.Kind=1->I64 e.Num)->(r=true->e.Kind=2->VA e.Index)->(r=true->e.Kind=3->VC e.Read)->φ r):=⟨by
 rintro⟨h0,h1⟩ φ hk
 unfold fW
 exact Ok.go⟩
theorem zLP:∀(n:Nat) (e:zI) (ae ai:Int),Tot (sH e ae ai) (SE n e/\ai<=100) (λφ=>∀r,(r=true->VE n e)->φ r):=by
 intro n
 induction n with
 | zero=>
  intro e ae ai;refine⟨?_⟩;rintro⟨⟨h1,h2,h3⟩,hlv⟩ φ hk;have hl:∀lv,Tot (uT e ae lv 0) True (λφ=>φ (.done ())):=by
   intro lv;refine⟨?_⟩;rintro - φ hk;unfold uT;rw[h3];exact Ok.pure hk
  have aJ:e.Kids.length=0:=by rw[h3];rfl
  unfold sH;dsimp only [same];refine Ok.bind (φ:=λb=>b=false->VO e) ?_ ?_
  ·refine Ok.ite_dec (λh=>Ok.pure λh=>by cases h) λh=>Ok.call (zIu _) trivial ?_;intro r hr;refine Ok.ite_bne (λh=>Ok.pure λh=>by cases h) λh=>Ok.call (zKG e ae) ⟨h1,h2⟩ ?_;intro b b1 b2 b3;refine Ok.pure λhb=>?_;have hb:b=true:=by simpa using hb
   have:e.Kind=1∨e.Kind=2∨e.Kind=3:=by omega
   rcases this with h|h|h
   ·exact .inl ⟨h,b1 hb h⟩
   ·exact .inr (.inl ⟨h,b2 hb h⟩)
   ·exact .inr (.inr ⟨h,b3 hb h⟩)
  ·intro b hb;refine Ok.ite (λ_=>Ok.pure (hk _ λh=>by cases h)) λhz=>?_;have hz:VO e:=hb (by simpa using hz);exact Ok.go
 | succ n ih=>
  intro e ae ai;refine⟨?_⟩;rintro⟨⟨h1,h2,h3,h4⟩,hlv⟩ φ hk;unfold sH;dsimp only [same];refine Ok.bind (φ:=λb=>b=false->1<=ai/\(VO e∨((e.Kind=4∨e.Kind=5∨e.Kind=6)/\e.Kids.length=2))) ?_ ?_
  ·refine Ok.ite_dec (λh=>Ok.pure λh=>by cases h) λh=>Ok.call (zIu _) trivial ?_;intro r hr;refine Ok.ite_bne (λh=>Ok.pure λh=>by cases h) λh=>Ok.call (zKG e ae) ⟨h1,h2⟩ ?_;intro b b1 b2 b3;refine Ok.pure λhb=>⟨by omega,?_⟩;have hb:b=true:=by simpa using hb
   have:e.Kind=1∨e.Kind=2∨e.Kind=3∨((e.Kind=4∨e.Kind=5∨e.Kind=6)/\e.Kids.length=2):=by omega
   rcases this with h|h|h|h
   ·exact .inl (.inl ⟨h,b1 hb h⟩)
   ·exact .inl (.inr (.inl ⟨h,b2 hb h⟩))
   ·exact .inl (.inr (.inr ⟨h,b3 hb h⟩))
   ·exact .inr h
  ·intro b hb;refine Ok.ite (λ_=>Ok.pure (hk _ λh=>by cases h)) λhz=>?_;obtain⟨g1,g2⟩:=hb (by simpa using hz);have hl:∀(k:Nat) (i:Int),Tot (uT e ae ai i) ((e.Kids.length:Int) - i<=k/\0<=i) (λφ=>(AF e.Kids i (VE n)->φ (.done ()))/\φ (.ret false)):=by
    intro k
    induction k with
    | zero=>intro i;refine⟨?_⟩;rintro⟨a1,a2⟩ φ ⟨hd,hr⟩;unfold uT;dsimp only [same];exact Ok.go
    | succ k ik=>
     intro i;refine⟨?_⟩;rintro⟨a1,a2⟩ φ ⟨hd,hr⟩;unfold uT;dsimp only [same];exact Ok.go
   refine Ok.call (hl _ 0) ⟨Int.le_of_eq (Int.sub_zero _),by omega⟩ ⟨λhA=>Ok.pure (hk _ λ_=>?_),Ok.pure (hk _ λh=>by cases h)⟩;exact g2.elim .inl λg=>.inr ⟨g.1,g.2,AF.all hA⟩
instance zP0(e:zI)(ae ai:Int):Tot (sH e ae ai) (SE 5 e/\ai<=100) (λφ=>∀r,(r=true->VE 5 e)->φ r):=zLP 5 e ae ai
theorem zLQ:∀(n:Nat) (e:zI) (ai:Int),Tot (rD e ai) (SE n e/\ai<=100) (λφ=>∀r,φ r):=by
 intro n
 induction n with
 | zero=>
  intro e ai;refine⟨?_⟩;rintro⟨⟨h1,h2,h3⟩,hlv⟩ φ hk;unfold rD;dsimp only [same];unfold uU;have aJ:e.Kids.length=0:=by rw[h3];rfl
  rw[aJ];exact Ok.go
 | succ n ih=>
  intro e ai;refine⟨?_⟩;rintro⟨⟨h1,h2,h3,h4⟩,hlv⟩ φ hk;unfold rD;dsimp only [same];have hl:∀(k:Nat) (m i:Int),Tot (uU e ai m i) ((e.Kids.length:Int) - i<=k/\0<=i) (λφ=>∀r,φ r):=by
   intro k
   induction k with
   | zero=>intro m i;refine⟨?_⟩;rintro⟨a1,a2⟩ φ hk;unfold uU;dsimp only [same];exact Ok.go
   | succ k ik=>intro m i;refine⟨?_⟩;rintro⟨a1,a2⟩ φ hk;unfold uU;dsimp only [same];exact Ok.go
  have hl:=hl e.Kids.length;exact Ok.go
instance zP1(e:zI)(ai:Int):Tot (rD e ai) (SE 5 e/\ai<=100) (λφ=>∀r,φ r):=zLQ 5 e ai
instance zEc(s:zP)(ae:Int):Tot (rW s ae) (SS s) (λφ=>∀r,(r=true->VS s)->φ r):=⟨by
 rintro h0 φ hk
 unfold rW
 exact Ok.go⟩
theorem zIv(p:List Int)(h0:p.length<=4):∀(k:Nat) (i:Int),Tot (tW p i) ((p.length:Int) - i<(k:Int)/\0<(k:Int)/\0<=i) (λφ=>(φ (.done ()))/\(φ (.ret false))):=by
 intro k
 induction k with
 | zero=>intro i;exact⟨λh=>absurd h.2.1 (by omega)⟩
 | succ k ih=>
  intro i;refine⟨?_⟩;rintro⟨v0,v1,v2⟩ φ ⟨hd,hr⟩;unfold tW;exact Ok.go
instance zO2(p:List Int)(i:Int):Tot (tW p i) (p.length<=4/\0<=i) (λφ=>(φ (.done ()))/\(φ (.ret false))):=⟨by
 rintro⟨h0,v0⟩ φ hk
 exact(zIv p h0 (((p.length:Int) - i).toNat+1) i).ok ⟨by omega,by omega,v0⟩ φ hk⟩
instance zPx(p:List Int):Tot (jB p) (p.length<=4) (λφ=>∀r:Bool,φ r):=⟨by
 rintro h0 φ hk
 unfold jB
 exact Ok.go⟩
theorem zJc(list:List zF)(part:zQ)(y1:List (List Int))(i:Int)(h0:SRs 1000 list)(h1:SP 1000 part)(h2:y1.length<=121)(h3:∀q∈y1,q.length<=4)(h4:0<=i)(h5:i<(part.Body.length:Int)):∀(k:Nat) (k0:Int),Tot (tK list part y1 i k0) ((y1.length:Int) - k0<(k:Int)/\0<(k:Int)/\0<=k0) (λφ=>(φ (.done ()))/\(φ (.ret (0,false)))):=by
 obtain⟨h11,h12,h13⟩:=h1;intro k
 induction k with
 | zero=>intro k0;exact⟨λh=>absurd h.2.1 (by omega)⟩
 | succ k ih=>
  intro k0;refine⟨?_⟩;rintro⟨v0,v1,v2⟩ φ ⟨hd,hr⟩;unfold tK;exact Ok.go
instance zPB(list:List zF)(part:zQ)(y1:List (List Int))(i:Int)(k0:Int):Tot (tK list part y1 i k0) (SRs 1000 list/\SP 1000 part/\y1.length<=121/\(∀q∈y1,q.length<=4)/\0<=i/\i<(part.Body.length:Int)/\0<=k0) (λφ=>(φ (.done ()))/\(φ (.ret (0,false)))):=⟨by
 rintro⟨h0,h1,h2,h3,h4,h5,v0⟩ φ hk
 exact(zJc list part y1 i h0 h1 h2 h3 h4 h5 (((y1.length:Int) - k0).toNat+1) k0).ok ⟨by omega,by omega,v0⟩ φ hk⟩
theorem zJd(list:List zF)(part:zQ)(y1:List (List Int))(h0:SRs 1000 list)(h1:SP 1000 part)(h2:y1.length<=121)(h3:∀q∈y1,q.length<=4):∀(k:Nat) (i:Int),Tot (tL list part y1 i) ((part.Body.length:Int) - i<(k:Int)/\0<(k:Int)/\0<=i) (λφ=>(AF part.Body i VS->φ (.done ()))/\(φ (.ret (0,false)))):=by
 have h10:=h1;obtain⟨h11,h12,h13⟩:=h1;intro k
 induction k with
 | zero=>intro i;exact⟨λh=>absurd h.2.1 (by omega)⟩
 | succ k ih=>
  intro i;refine⟨?_⟩;rintro⟨v0,v1,v2⟩ φ ⟨hd,hr⟩;unfold tL;exact Ok.go
instance zPC(list:List zF)(part:zQ)(y1:List (List Int))(i:Int):Tot (tL list part y1 i) (SRs 1000 list/\SP 1000 part/\y1.length<=121/\(∀q∈y1,q.length<=4)/\0<=i) (λφ=>(AF part.Body i VS->φ (.done ()))/\(φ (.ret (0,false)))):=⟨by
 rintro⟨h0,h1,h2,h3,v0⟩ φ hk
 exact(zJd list part y1 h0 h1 h2 h3 (((part.Body.length:Int) - i).toNat+1) i).ok ⟨by omega,by omega,v0⟩ φ hk⟩
instance zIw(list:List zF)(part:zQ):Tot (mL list part) (SRs 1000 list/\SP 1000 part) (λφ=>∀n b,(b=true->VP part)->φ (n,b)):=⟨by
 rintro⟨h0,h1⟩ φ hk
 obtain⟨h11,h12,h13⟩:=id h1
 unfold mL
 exact Ok.go⟩
theorem zE3(p:zC)(h0:SG 1000 p):∀(k:Nat) (total:Int) (i:Int),Tot (wT p total i) ((p.Parts.length:Int) - i<(k:Int)/\0<(k:Int)/\0<=i) (λφ=>(∀n,AF p.Parts i VP->φ (.done n))/\(φ (.ret false))):=by
 obtain⟨h01,h02,h03⟩:=h0;intro k
 induction k with
 | zero=>intro total i;exact⟨λh=>absurd h.2.1 (by omega)⟩
 | succ k ih=>
  intro total i;refine⟨?_⟩;rintro⟨v0,v1,v2⟩ φ ⟨hd,hr⟩;unfold wT;exact Ok.go
instance zLw(p:zC)(total:Int)(i:Int):Tot (wT p total i) (SG 1000 p/\0<=i) (λφ=>(∀n,AF p.Parts i VP->φ (.done n))/\(φ (.ret false))):=⟨by
 rintro⟨h0,v0⟩ φ hk
 exact(zE3 p h0 (((p.Parts.length:Int) - i).toNat+1) total i).ok ⟨by omega,by omega,v0⟩ φ hk⟩
instance zC6(p:zC):Tot (uG p) (SG 1000 p) (λφ=>∀r,(r=true->VG p)->φ r):=⟨by
 rintro h0 φ hk
 obtain⟨h01,h02,h03⟩:=id h0
 unfold uG
 exact Ok.go⟩
def InI(p:zC)(x:zN):Prop:=(0<=x.Part/\x.Part<(p.Parts.length:Int))/\∀q,p.Parts[x.Part.toNat]?=some q->0<=x.Stmt/\x.Stmt<(q.Body.length:Int)
theorem InI.mk{p:zC}{x:zN}{q:zQ}(h0:0<=x.Part)(h1:x.Part<(p.Parts.length:Int))(hq:p.Parts[x.Part.toNat]?=some q)(h2:0<=x.Stmt)(h3:x.Stmt<(q.Body.length:Int)):InI p x:=
 ⟨⟨h0,h1⟩,λq' h=>by rw[hq] at h;cases h;exact⟨h2,h3⟩⟩
theorem zFQ(p:zC)(i:Int)(y:List (List Int))(k0:Int)(q:zQ)(b:Nat)(h0:VP q)(h1:0<=i)(h2:i<(p.Parts.length:Int))(h3:p.Parts[i.toNat]?=some q)(h4:y.length<=121)(h5:∀q∈y,q.length<=4)(h6:0<=k0)(h7:k0<(y.length:Int)):∀(k:Nat) (out:List zN) (s:Int),Tot (vD p i y k0 out s) ((q.Body.length:Int) - s<(k:Int)/\0<(k:Int)/\0<=s/\s<=(q.Body.length:Int)/\(out.length:Int)<=b+s/\b<=100000/\(∀x∈out,InI p x)) (λφ=>∀r,r.length<=b+4->(∀x∈r,InI p x)->φ r):=by
 obtain⟨h01,h02,h03⟩:=h0;intro k
 induction k with
 | zero=>intro out s;exact⟨λh=>absurd h.2.1 (by omega)⟩
 | succ k ih=>
  intro out s;refine⟨?_⟩;rintro⟨v0,v1,v2,v3,v4,v5,v6⟩ φ hk;unfold vD;refine Ok.idx_known h3 h1 ?_;refine Ok.ite_dec (λhs=>?_) λhs=>?_
  ·refine Ok.idx (by omega) (by omega) λx hx _=>?_;have hx4:=h5 x hx;refine Ok.app S ?_;refine Ok.app (by simp only[cQ,cy,cK];omega) ?_;have hI:InI p (zN.mk i s ([]++x)):=InI.mk h1 h2 h3 v2 (by omega);have hW:W (s+1)=s+1:=rA (by omega) (by omega);rw[hW];exact Ok.go
  ·exact Ok.go
theorem zFR(p:zC)(i:Int)(y:List (List Int))(k0:Int)(q:zQ)(b:Nat)(out:List zN)(s:Int):Tot (vD p i y k0 out s) (VP q/\0<=i/\i<(p.Parts.length:Int)/\p.Parts[i.toNat]?=some q/\y.length<=121/\(∀q∈y,q.length<=4)/\0<=k0/\k0<(y.length:Int)/\0<=s/\s<=(q.Body.length:Int)/\(out.length:Int)<=b+s/\b<=100000/\(∀x∈out,InI p x)) (λφ=>∀r,r.length<=b+4->(∀x∈r,InI p x)->φ r):=⟨by
 rintro⟨h0,h1,h2,h3,h4,h5,h6,h7,v0,v1,v2,v3,v4⟩ φ hk;exact(zFQ p i y k0 q b h0 h1 h2 h3 h4 h5 h6 h7 (((q.Body.length:Int) - s).toNat+1) out s).ok ⟨by omega,by omega,v0,v1,v2,v3,v4⟩ φ hk⟩
theorem zFS(p:zC)(i:Int)(y:List (List Int))(q:zQ)(b:Nat)(h0:VP q)(h1:0<=i)(h2:i<(p.Parts.length:Int))(h3:p.Parts[i.toNat]?=some q)(h4:y.length<=121)(h5:∀q∈y,q.length<=4):∀(k:Nat) (out:List zN) (k0:Int),Tot (vG p i y out k0) ((y.length:Int) - k0<(k:Int)/\0<(k:Int)/\0<=k0/\k0<=(y.length:Int)/\(out.length:Int)<=b+4*k0/\b<=10000/\(∀x∈out,InI p x)) (λφ=>∀r,r.length<=b+484->(∀x∈r,InI p x)->φ r):=by
 intro k
 induction k with
 | zero=>intro out k0;exact⟨λh=>absurd h.2.1 (by omega)⟩
 | succ k ih=>
  intro out k0;refine⟨?_⟩;rintro⟨v0,v1,v2,v3,v4,v5,v6⟩ φ hk;unfold vG;have tl:=λo kk=>zFR p i y kk q o.length o 0;exact Ok.go
theorem zFT(p:zC)(i:Int)(y:List (List Int))(q:zQ)(b:Nat)(out:List zN)(k0:Int):Tot (vG p i y out k0) (VP q/\0<=i/\i<(p.Parts.length:Int)/\p.Parts[i.toNat]?=some q/\y.length<=121/\(∀q∈y,q.length<=4)/\0<=k0/\k0<=(y.length:Int)/\(out.length:Int)<=b+4*k0/\b<=10000/\(∀x∈out,InI p x)) (λφ=>∀r,r.length<=b+484->(∀x∈r,InI p x)->φ r):=⟨by
 rintro⟨h0,h1,h2,h3,h4,h5,v0,v1,v2,v3,v4⟩ φ hk;exact(zFS p i y q b h0 h1 h2 h3 h4 h5 (((y.length:Int) - k0).toNat+1) out k0).ok ⟨by omega,by omega,v0,v1,v2,v3,v4⟩ φ hk⟩
theorem zFU(p:zC)(h0:SG 1000 p)(h1:VG p):∀(k:Nat) (out:List zN) (i:Int),Tot (vH p out i) ((p.Parts.length:Int) - i<(k:Int)/\0<(k:Int)/\0<=i/\i<=(p.Parts.length:Int)/\(out.length:Int)<=484*i/\(∀x∈out,InI p x)) (λφ=>∀r,r.length<=2000->(∀x∈r,InI p x)->φ r):=by
 obtain⟨⟨h00,h01⟩,h02,h03⟩:=id h0;obtain⟨h10,h11,h12⟩:=id h1;intro k
 induction k with
 | zero=>intro out i;exact⟨λh=>absurd h.2.1 (by omega)⟩
 | succ k ih=>
  intro out i;refine⟨?_⟩;rintro⟨v0,v1,v2,v3,v4,v5⟩ φ hk;unfold vH;refine Ok.ite_dec (λhs=>?_) λhs=>?_
  ·refine Ok.idx (by omega) (by omega) λq hq hqi=>?_;have tl:=λy o=>zFT p i y q o.length o 0;have s1:=(h03 q hq).1;obtain⟨s2,s3,s4⟩:=h12 q hq;have s5:VP q:=⟨s2,s3,s4⟩;exact Ok.go
  ·exact Ok.go
instance zMN(p:zC)(out:List zN)(i:Int):Tot (vH p out i) (SG 1000 p/\VG p/\0<=i/\i<=(p.Parts.length:Int)/\(out.length:Int)<=484*i/\(∀x∈out,InI p x)) (λφ=>∀r,r.length<=2000->(∀x∈r,InI p x)->φ r):=⟨by
 rintro⟨h0,h1,v0,v1,v2,v3⟩ φ hk
 exact(zFU p h0 h1 (((p.Parts.length:Int) - i).toNat+1) out i).ok ⟨by omega,by omega,v0,v1,v2,v3⟩ φ hk⟩
instance zNm(p:zC):Tot (uZ p) (SG 1000 p/\VG p) (λφ=>∀r,r.length<=2000->(∀x∈r,InI p x)->φ r):=⟨by
 rintro⟨h0,h1⟩ φ hk
 unfold uZ
 exact Ok.go⟩
theorem zJe(p:zC)(y:List zN)(h0:SG 1000 p)(h1:VG p)(h2:y.length<=2000)(h3:∀x∈y,InI p x):∀(k:Nat) (out:List xT) (i:Int),Tot (sM p y out i) ((y.length:Int) - i<(k:Int)/\0<(k:Int)/\0<=i/\i<=(y.length:Int)/\(out.length:Int)=i/\(∀u∈out,u.reads.length<=111111)) (λφ=>∀r,r.length<=2000->(∀u∈r,u.reads.length<=111111)->φ r):=by
 obtain⟨⟨h00,h01⟩,h02,h03⟩:=id h0;obtain⟨h10,h11,h12⟩:=id h1;intro k
 induction k with
 | zero=>intro out i;exact⟨λh=>absurd h.2.1 (by omega)⟩
 | succ k ih=>
  intro out i;refine⟨?_⟩;rintro⟨v0,v1,v2,v3,v4,v5⟩ φ hk;unfold sM;refine Ok.ite_dec (λhs=>?_) λhs=>?_
  ·refine Ok.idx (by omega) (by omega) λx hx hxi=>?_;obtain⟨⟨g0,g1⟩,g2⟩:=h3 x hx;refine Ok.idx g0 g1 λq hq hqi=>?_;obtain⟨g3,g4⟩:=g2 q hqi;refine Ok.idx_known hxi v2 (Ok.idx g3 g4 λs hs _=>?_);have s1:=(h03 q hq).2.2 s hs;exact Ok.go
  ·exact Ok.go
instance zPD(p:zC)(y:List zN)(out:List xT)(i:Int):Tot (sM p y out i) (SG 1000 p/\VG p/\y.length<=2000/\(∀x∈y,InI p x)/\0<=i/\i<=(y.length:Int)/\(out.length:Int)=i/\(∀u∈out,u.reads.length<=111111)) (λφ=>∀r,r.length<=2000->(∀u∈r,u.reads.length<=111111)->φ r):=⟨by
 rintro⟨h0,h1,h2,h3,v0,v1,v2,v3⟩ φ hk
 exact(zJe p y h0 h1 h2 h3 (((y.length:Int) - i).toNat+1) out i).ok ⟨by omega,by omega,v0,v1,v2,v3⟩ φ hk⟩
instance zQZ(p:zC):Tot (gR p) (SG 1000 p/\VG p) (λφ=>∀r,r.length<=2000->(∀u∈r,u.reads.length<=111111)->φ r):=⟨by
 rintro⟨h0,h1⟩ φ hk
 unfold gR
 exact Ok.go⟩
theorem zGR{a n:Int}(ha:0<=a)(hn:0<n):0<=a.tmod n/\a.tmod n<n:=by
 rw[Int.tmod_eq_emod_of_nonneg ha];exact⟨Int.emod_nonneg _ (by omega),Int.emod_lt_of_pos _ hn⟩
theorem zP2{a b:Int}(ha:0<=a)(ha':a<4611686018427387904)(hb:0<=b)(hb':b<4611686018427387904):
 0<=W (((BitVec.ofInt IntKind.i64.bits a ^^^ BitVec.ofInt IntKind.i64.bits b).toNat:Nat):Int):=by
 have e:(BitVec.ofInt IntKind.i64.bits a ^^^ BitVec.ofInt IntKind.i64.bits b).toNat<4611686018427387904:=by
  rw[BitVec.toNat_xor]
  have h1:(BitVec.ofInt IntKind.i64.bits a).toNat=a.toNat:=by
   rw[BitVec.toNat_ofInt];show (a % ((2 ^ 64:Nat):Int)).toNat=_;omega
  have h2:(BitVec.ofInt IntKind.i64.bits b).toNat=b.toNat:=by
   rw[BitVec.toNat_ofInt];show (b % ((2 ^ 64:Nat):Int)).toNat=_;omega
  rw[h1,h2]
  exact Nat.xor_lt_two_pow (n:=62) (by omega) (by omega)
 rw[rA (by omega) (by omega)];omega
instance dV(r:zO)(n:Int):Tot (xC r n) (0<=r.p/\r.p<=1000000000) (λφ=>∀y s,0<=y->(y<n∨y=0)->s.p=r.p+1->φ (y,s)):=⟨by
 rintro⟨h0,h1⟩ φ hk
 unfold xC
 rw[rA (x:=r.p+1) (by omega) (by omega),rA (x:=r.p+1 - 1) (by omega) (by omega)]
 refine Ok.bind_ite (Ok.ite_dec (λ_=>Ok.bind_pure (Ok.ite_tt (Ok.pure (hk _ _ S S rfl)))) λhn=>Ok.bind_pure (Ok.ite_beq (λ_=>Ok.pure (hk _ _ S S rfl)) λhb=>?_))
 refine Ok.ite_dec (λhp=>Ok.idx (by omega) (by omega) λx _ _=>?_) λhp=>?_
 ·refine Ok.rem (by omega) (Ok.pure ?_)
  have hx:=x.toNat_lt
  have:=zGR (a:=(x.toNat:Int)) (n:=n) (by omega) (by omega)
  rw[rA (by omega) (by omega)]
  exact hk _ _ this.1 (.inl this.2) rfl
 ·refine Ok.rem (by omega) ?_
  have hp:=zGR (a:=r.p+1 - 1) (n:=(r.b.length:Int)) (by omega) (by omega)
  refine Ok.idx hp.1 hp.2 λx1 _ _=>?_
  rw[rA (x:=(r.p+1 - 1)*7) (by omega) (by omega),rA (x:=(r.p+1 - 1)*7+3) (by omega) (by omega)]
  refine Ok.rem (by omega) ?_
  have hq:=zGR (a:=(r.p+1 - 1)*7+3) (n:=(r.b.length:Int)) (by omega) (by omega)
  refine Ok.idx hq.1 hq.2 λx2 _ _=>?_
  refine Ok.quo (by omega) ?_
  have hd:0<=(r.p+1 - 1).tdiv (r.b.length:Int)/\(r.p+1 - 1).tdiv (r.b.length:Int)<=1000000000:=by
   rw[gr (by omega)]
   exact⟨Int.ediv_nonneg (by omega) (by omega),Int.le_trans (Int.ediv_le_self _ (by omega)) (by omega)⟩
  have e1:=x1.toNat_lt
  have e2:=x2.toNat_lt
  generalize (r.p+1 - 1).tdiv (r.b.length:Int)=q3 at hd ⊢
  simp(disch:=omega) only [rA]
  refine Ok.rem (by omega) ?_
  generalize hX:(x1.toNat:Int)*131+(x2.toNat:Int)*1117+(r.p+1 - 1)*29+q3*53=X
  have hX0:0<=X:=by omega
  have hX1:X<4611686018427387904:=by omega
  have hT:0<=X.tdiv 64/\X.tdiv 64<4611686018427387904:=by rw[gr hX0];omega
  rw[rA (x:=X.tdiv 64) (by omega) (by omega)]
  have hw:=zGR (zP2 hX0 hX1 hT.1 hT.2) (n:=n) (by omega)
  exact Ok.pure (hk _ _ hw.1 (.inl hw.2) rfl)⟩
instance zA8(r:zO)(l:List Str):Tot (qZ r l) (0<l.length/\0<=r.p/\r.p<=1000000000) (λφ=>∀y s,y∈l->s.p=r.p+1->φ (y,s)):=⟨by
 rintro⟨h0,h1,h2⟩ φ hk
 unfold qZ
 exact Ok.go⟩
instance uI(r:zO)(l:List Int):Tot (xB r l) (0<l.length/\0<=r.p/\r.p<=1000000000/\(∀x∈l,I64 x)) (λφ=>∀y s,y∈l->I64 y->s.p=r.p+1->φ (y,s)):=⟨by
 rintro⟨h0,h1,h2,h3⟩ φ hk
 unfold xB
 exact Ok.go⟩
theorem zJf(s:Str)(c:UInt8)(h0:s.l.length<=1000000):∀(k:Nat) (out:List Str) (f:Int) (i:Int),Tot (nN s c out f i) ((s.l.length:Int)+1 - i<(k:Int)/\0<(k:Int)/\0<=f/\f<=i/\i<=(s.l.length:Int)+1/\(out.length:Int)<=i/\(∀x∈out,x.l.length<=s.l.length)) (λφ=>∀r,r.length<=s.l.length+1->(∀x∈r,x.l.length<=s.l.length)->φ r):=by
 intro k
 induction k with
 | zero=>intro out f i;exact⟨λh=>absurd h.2.1 (by omega)⟩
 | succ k ih=>
  intro out f i;refine⟨?_⟩;rintro⟨v0,v1,v2,v3,v4,v5,v6⟩ φ hk;unfold nN;exact Ok.go
instance zPE(s:Str)(c:UInt8)(out:List Str)(f:Int)(i:Int):Tot (nN s c out f i) (s.l.length<=1000000/\0<=f/\f<=i/\i<=(s.l.length:Int)+1/\(out.length:Int)<=i/\(∀x∈out,x.l.length<=s.l.length)) (λφ=>∀r,r.length<=s.l.length+1->(∀x∈r,x.l.length<=s.l.length)->φ r):=⟨by
 rintro⟨h0,v0,v1,v2,v3,v4⟩ φ hk
 exact(zJf s c h0 (((s.l.length:Int)+1 - i).toNat+1) out f i).ok ⟨by omega,by omega,v0,v1,v2,v3,v4⟩ φ hk⟩
instance zIy(s:Str)(c:UInt8):Tot (gJ s c) (s.l.length<=1000000) (λφ=>∀r,r.length<=s.l.length+1->(∀x∈r,x.l.length<=s.l.length)->φ r):=⟨by
 rintro h0 φ hk
 unfold gJ
 exact Ok.go⟩
theorem zHx(y:List Str)(b:Nat)(h0:y.length<=1000001)(h1:∀x∈y,x.l.length<=b):∀(k:Nat) (out:List Str) (i:Int),Tot (pP y out i) ((y.length:Int) - i<(k:Int)/\0<(k:Int)/\0<=i/\i<=(y.length:Int)/\(out.length:Int)<=i/\(∀x∈out,x.l.length<=b)) (λφ=>∀r,r.length<=y.length->(∀x∈r,x.l.length<=b)->φ r):=by
 intro k
 induction k with
 | zero=>intro out i;exact⟨λh=>absurd h.2.1 (by omega)⟩
 | succ k ih=>
  intro out i;refine⟨?_⟩;rintro⟨v0,v1,v2,v3,v4,v5⟩ φ hk;unfold pP;exact Ok.go
theorem zHy(y:List Str)(b:Nat)(out:List Str)(i:Int):Tot (pP y out i) (y.length<=1000001/\(∀x∈y,x.l.length<=b)/\0<=i/\i<=(y.length:Int)/\(out.length:Int)<=i/\(∀x∈out,x.l.length<=b)) (λφ=>∀r,r.length<=y.length->(∀x∈r,x.l.length<=b)->φ r):=⟨by
 rintro⟨h0,h1,v0,v1,v2,v3⟩ φ hk;exact(zHx y b h0 h1 (((y.length:Int) - i).toNat+1) out i).ok ⟨by omega,by omega,v0,v1,v2,v3⟩ φ hk⟩
instance zGS(s:Str):Tot (jP s) (s.l.length<=1000000) (λφ=>∀r,r.length<=s.l.length+1->(∀x∈r,x.l.length<=s.l.length)->φ r):=⟨by
 rintro h0 φ hk
 unfold jP
 have tl:=λy=>zHy y s.l.length
 exact Ok.go⟩
theorem zJg(s:Str)(h0:s.l.length<=1000000):∀(k:Nat) (n:Int) (i:Int),Tot (nP s n i) ((s.l.length:Int) - i<(k:Int)/\0<(k:Int)/\I64 n/\0<=i) (λφ=>(∀n,I64 n->φ (.done n))/\(φ (.ret (0,false)))):=by
 intro k
 induction k with
 | zero=>intro n i;exact⟨λh=>absurd h.2.1 (by omega)⟩
 | succ k ih=>
  intro n i;refine⟨?_⟩;rintro⟨v0,v1,v2,v3⟩ φ ⟨hd,hr⟩;unfold nP;exact Ok.go
instance zPF(s:Str)(n:Int)(i:Int):Tot (nP s n i) (s.l.length<=1000000/\I64 n/\0<=i) (λφ=>(∀n,I64 n->φ (.done n))/\(φ (.ret (0,false)))):=⟨by
 rintro⟨h0,v0,v1⟩ φ hk
 exact(zJg s h0 (((s.l.length:Int) - i).toNat+1) n i).ok ⟨by omega,by omega,v0,v1⟩ φ hk⟩
instance zQ0(s:Str):Tot (eG s) (s.l.length<=1000000) (λφ=>∀n b,I64 n->φ (n,b)):=⟨by
 rintro h0 φ hk
 unfold eG
 exact Ok.go⟩
theorem zIz(w:List Str)(b:Nat)(h0:w.length<=1000001)(h1:∀x∈w,x.l.length<=b)(h2:b<=1000000):∀(k:Nat) (i:Int) (Name:Str) (Dims:List Int),Tot (qN w i Name Dims) (5 - i<(k:Int)/\0<(k:Int)/\1<=i/\Name.l.length<=b/\(Dims.length:Int)<=i/\i<=5) (λφ=>∀a d,a.l.length<=b->d.length<=6->φ (a,d)):=by
 intro k
 induction k with
 | zero=>intro i Name Dims;exact⟨λh=>absurd h.2.1 (by omega)⟩
 | succ k ih=>
  intro i Name Dims;refine⟨?_⟩;rintro⟨v0,v1,v2,v3,v4,v5⟩ φ hk;unfold qN;have h3:∀x∈w,x.l.length<=1000000:=λx hx=>cX (h1 x hx) h2;exact Ok.go
theorem zJA(w:List Str)(b:Nat)(i:Int)(Name:Str)(Dims:List Int):Tot (qN w i Name Dims) (w.length<=1000001/\(∀x∈w,x.l.length<=b)/\b<=1000000/\1<=i/\Name.l.length<=b/\(Dims.length:Int)<=i/\i<=5) (λφ=>∀a d,a.l.length<=b->d.length<=6->φ (a,d)):=⟨by
 rintro⟨h0,h1,h2,v0,v1,v2,v3⟩ φ hk;exact(zIz w b h0 h1 h2 ((5 - i).toNat+1) i Name Dims).ok ⟨by omega,by omega,v0,v1,v2,v3⟩ φ hk⟩
instance zLR(w:List Str):Tot (dL w) (w.length<=1000001/\(∀x∈w,x.l.length<=1000000)) (λφ=>∀r,SR r->φ r):=⟨by
 rintro⟨h0,h1⟩ φ hk
 unfold dL
 have tl:=zJA w 1000000
 exact Ok.go⟩
instance zAf:Tot mJ True (λφ=>φ (zA.mk [0,0,0,0] 0)):=⟨λ_ _ h=>Ok.pure h⟩
instance zCs:Tot gO True (λφ=>∀r,SRs 1000 r->φ r):=⟨λ_ φ h=>Ok.pure (h _ ⟨by decide,by simp[SR]⟩)⟩
instance gD(n:Int):Tot (vO n) True (λφ=>φ (zA.mk [0,0,0,0] n)):=⟨λ_ _ h=>by unfold vO;exact Ok.call zAf trivial (Ok.pure h)⟩
theorem zHz(s:Str)(a:Int)(h0:s.l.length<=1000000)(h1:0<=a)(h2:a<=(s.l.length:Int)):∀(k:Nat) (e:Int),Tot (pM s a e) ((s.l.length:Int) - e<(k:Int)/\0<(k:Int)/\a<=e/\e<=a+2/\e<=(s.l.length:Int)) (λφ=>∀r,a<=r->r<=a+2->r<=(s.l.length:Int)->φ r):=by
 intro k
 induction k with
 | zero=>intro e;exact⟨λh=>absurd h.2.1 (by omega)⟩
 | succ k ih=>
  intro e;refine⟨?_⟩;rintro⟨v0,v1,v2,v3,v4⟩ φ hk;unfold pM;exact Ok.go
instance zNn(s:Str)(a:Int)(e:Int):Tot (pM s a e) (s.l.length<=1000000/\0<=a/\a<=(s.l.length:Int)/\a<=e/\e<=a+2/\e<=(s.l.length:Int)) (λφ=>∀r,a<=r->r<=a+2->r<=(s.l.length:Int)->φ r):=⟨by
 rintro⟨h0,h1,h2,v0,v1,v2⟩ φ hk
 exact(zHz s a h0 h1 h2 (((s.l.length:Int) - e).toNat+1) e).ok ⟨by omega,by omega,v0,v1,v2⟩ φ hk⟩
instance zGT(s:Str)(a:Int):Tot (jO s a) (s.l.length<=1000000/\0<=a/\a<=(s.l.length:Int)) (λφ=>∀n e,I64 n->a<=e->e<=(s.l.length:Int)->φ (n,e)):=⟨by
 rintro⟨h0,h1,h2⟩ φ hk
 unfold jO
 exact Ok.go⟩
instance zMO(s:Str)(a:Int):Tot (zAG s a) (s.l.length<=1000000/\0<=a) (λφ=>∀r,-1<=r->r<=3->(0<=r->a<(s.l.length:Int))->φ r):=⟨by
 rintro⟨h0,h1⟩ φ hk
 unfold zAG
 exact Ok.go⟩
theorem VA.set{l:List Int}{c:Int}(h:l.length=4)(hl:∀x∈l,I64 x)(hc:I64 c)(i:Nat)(x:Int):VA (zA.mk (([]++l).set i (W x)) c):=by
 refine⟨by simp[h],?_,hc⟩;intro y hy;rcases List.mem_or_eq_of_mem_set hy with hy|hy
 ·exact hl y hy
 ·exact hy ▸ zMk x
theorem VA.con{l:List Int}(h:l.length=4)(hl:∀x∈l,I64 x)(x:Int):VA (zA.mk ([]++l) (W x)):=⟨h,hl,zMk x⟩
instance zLS(a:zA)(s:Str)(n:Int):Tot (dI a s n) (VA a/\s.l.length<=1000000/\0<=n/\n<(s.l.length:Int)) (λφ=>∀r e,VA r->(e=-1∨n<e)->e<=(s.l.length:Int)->φ (r,e)):=⟨by
 rintro⟨h0,h1,h2,h3⟩ φ hk
 have hv:=h0;obtain⟨h00,h01,h02⟩:=h0;have t1:=VA.set h00 h01 h02;have t2:=VA.con h00 h01
 unfold dI
 refine Ok.sidx h2 h3 λb2 _ _=>?_
 refine Ok.bind (φ:=λ_=>True) Ok.go λsign _=>?_
 refine Ok.bind (φ:=λ_=>True) Ok.go λt27 _=>?_
 refine Ok.bind (φ:=λm=>n<=m/\m<=n+1) Ok.go λm hm=>?_
 refine Ok.call (zGT s m) ⟨h1,by omega,by omega⟩ λy1 y2 g1 g2 g3=>?_
 refine Ok.bind (φ:=λb=>b=true->y2<(s.l.length:Int)) Ok.go λt51 h51=>?_
 refine Ok.bind (φ:=λx=>y2<=x/\x<=(s.l.length:Int)) ?_ λstar hs=>?_
 ·refine Ok.ite (λh=>?_) λh=>Ok.go
  have h51:=h51 h
  exact Ok.go
 refine Ok.call (zMO s star) ⟨h1,by omega⟩ λy3 g4 g5 g6=>?_
 refine Ok.app S ?_
 refine Ok.bind (φ:=λb=>b=true->0<=y3) Ok.go λt75 h75=>?_
 refine Ok.ite (λh=>?_) λh=>?_
 ·have h75:=h75 h
  have g6:=g6 h75
  have h4:(([]:List Int)++a.Coefs).length=4:=h00
  refine Ok.idx h75 (by omega) λx _ hx=>Ok.idx_known hx h75 (Ok.bind_pure (Ok.pure ?_))
  rw[rA (x:=star+1) (by omega) (by omega)]
  exact hk _ _ (t1 _ _) (.inr (by omega)) (by omega)
 ·refine Ok.ite_beq (λh=>Ok.pure (hk _ _ hv (.inl rfl) (by omega))) λh=>Ok.pure (hk _ _ (t2 _) (.inr (by omega)) g3)⟩
theorem zJh:∀(k:Nat) (n:Int) (o:Str),Tot (nQ n o) ((0<=n/\n<=9223372036854775807/\n<(2:Int) ^ k)/\o.l.length+k<=1000) (λφ=>∀a r,0<=a->a<=9->r.l.length<=o.l.length+k->φ (a,r)):=by
 intro k
 induction k with
 | zero=>intro n o;refine⟨?_⟩;rintro⟨⟨a1,a4,a2⟩,a3⟩ φ hk;unfold nQ;rw[Int.pow_zero] at a2;exact Ok.go
 | succ k ih=>
  intro n o;refine⟨?_⟩;rintro⟨⟨a1,a4,a2⟩,a3⟩ φ hk;unfold nQ;refine Ok.ite_dec (λh=>?_) λh=>Ok.go;refine Ok.cat (by simp;omega) λs hs hl=>?_;have ht:0<=n.tdiv 10/\n.tdiv 10<(2:Int) ^ k/\n.tdiv 10<=n:=by
   rw[gr a1];rw[Int.pow_succ] at a2;omega
  rw[rA (by omega) (by omega)];simp only[cy,cK] at hl;refine Ok.last (ih _ _) ⟨⟨ht.1,by omega,ht.2.1⟩,by omega⟩ λa r g1 g2 g3=>hk a r g1 g2 (by omega)
theorem zJB(n:Int):Tot (qV n) (0<=n/\n<=9223372036854775807) (λφ=>∀r,r.l.length<=64->1<=r.l.length->φ r):=⟨by
 rintro⟨h0,h1⟩ φ hk;unfold qV;refine Ok.ite_dec (λh=>absurd h (by omega)) λ_=>Ok.ite_dec (λh=>absurd h (by omega)) λ_=>?_;refine Ok.call (zJh 63 n ⟨[]⟩) ⟨⟨h0,h1,by omega⟩,by decide⟩ λa r g1 g2 g3=>?_;simp only[cK] at g3;refine Ok.cat (by simp;omega) λs hs hl=>Ok.pure ?_;simp only[cy,cK] at hl;exact hk _ (by dsimp only [id];omega) (by dsimp only [id];omega)⟩
instance zQ1(n:Int):Tot (qV n) (I64 n) (λφ=>∀r,r.l.length<=70->1<=r.l.length->φ r):=⟨by
 rintro⟨h0,h1⟩ φ hk
 by_cases hn:0<=n
 ·exact(zJB n).ok ⟨hn,h1⟩ φ λr g1 g2=>hk r (by omega) g2
 unfold qV
 refine Ok.ite_dec (λh=>Ok.pure (hk _ (by decide) (by decide))) λ_=>Ok.ite_dec (λh=>?_) λh=>absurd h (by omega)
 rw[rA (by omega) (by omega)]
 refine Ok.call (zJB _) ⟨by omega,by omega⟩ λr g1 g2=>?_
 refine Ok.cat (by simp;omega) λs hs hl=>Ok.pure ?_
 simp only[cy,cK] at hl
 exact hk _ (by dsimp only [id];omega) (by dsimp only [id];omega)⟩
instance zQ2(n:Int)(name:Str):Tot (eH n name) (I64 n/\name.l.length<=10) (λφ=>∀r,r.l.length<=100->1<=r.l.length->φ r):=⟨by
 rintro⟨h0,h1⟩ φ hk
 have hw:=zMk (0 - n)
 unfold eH
 refine Ok.bind (φ:=λo=>I64 o.1/\o.2.l.length=1) ?_ ?_
 ·refine Ok.ite_dec (λ_=>Ok.pure ⟨hw,rfl⟩) λ_=>Ok.pure ⟨h0,rfl⟩
 rintro⟨m,sg⟩ ⟨g1,g2⟩
 dsimp only at g1 g2 ⊢
 exact Ok.go⟩
theorem zJi(a:zA)(h0:VA a):∀(k:Nat) (o:Str) (i:Int),Tot (nR a o i) ((a.Coefs.length:Int) - i<(k:Int)/\0<(k:Int)/\0<=i/\i<=4/\(o.l.length:Int)<=100*i) (λφ=>∀r,r.l.length<=400->φ r):=by
 obtain⟨h01,h02,h03⟩:=h0;intro k
 induction k with
 | zero=>intro o i;exact⟨λh=>absurd h.2.1 (by omega)⟩
 | succ k ih=>
  intro o i;refine⟨?_⟩;rintro⟨v0,v1,v2,v3,v4⟩ φ hk;unfold nR;exact Ok.go
instance zJj(a:zA)(o:Str)(i:Int):Tot (nR a o i) (VA a/\0<=i/\i<=4/\(o.l.length:Int)<=100*i) (λφ=>∀r,r.l.length<=400->φ r):=⟨by
 rintro⟨h0,v0,v1,v2⟩ φ hk
 exact(zJi a h0 (((a.Coefs.length:Int) - i).toNat+1) o i).ok ⟨by omega,by omega,v0,v1,v2⟩ φ hk⟩
instance zQ3(a:zA):Tot (gK a) (VA a) (λφ=>∀r,r.l.length<=1000->φ r):=⟨by
 rintro h0 φ hk
 have h00:=h0;obtain⟨h01,h02,h03⟩:=h0
 unfold gK
 refine Ok.call (zJj a _ _) ⟨h00,by simp⟩ λo ho=>?_
 refine Ok.bind (φ:=λr=>r.l.length<=1000) Ok.go λr hr=>?_
 refine Ok.ite_beq (λ_=>Ok.pure (hk _ (by decide))) λhne=>?_
 have hp:0<r.l.length:=List.length_pos_iff.2 hne
 exact Ok.go⟩
instance zNV(a:zA):Tot (kI a) (SA a) (λφ=>∀r,r.l.length<=1000->φ r):=⟨by
 rintro h0 φ hk
 unfold kI
 refine Ok.call (zHv a) h0 λb hb=>?_
 refine Ok.ite_not (λ_=>Ok.go) λhv=>?_
 have hv:=hb hv
 exact Ok.go⟩
theorem zFV(s:Str)(h0:s.l.length<=1000000):∀(k:Nat) (i:Int) (x:zA),Tot (qP s i x) (((i<0∨(s.l.length:Int) - i+1<(k:Int))/\0<(k:Int)/\i<=(s.l.length:Int))/\VA x) (λφ=>∀r,VA r->φ r):=by
 intro k
 induction k with
 | zero=>intro i x;exact⟨λh=>absurd h.1.2.1 (by omega)⟩
 | succ k ih=>
  intro i x;refine⟨?_⟩;rintro⟨⟨v0,v1,v2⟩,v3⟩ φ hk;unfold qP;refine Ok.bind_ite (Ok.ite_dec (λh1=>Ok.bind_pure ?_) λ_=>Ok.bind_pure (Ok.ite_ff Ok.go));refine Ok.ite_dec (λh2=>Ok.call (zLS x s i) ⟨v3,h0,h1,h2⟩ λr e g1 g2 g3=>?_) λh2=>Ok.go;refine Ok.last (ih e r) ⟨⟨by omega,by omega,g3⟩,g1⟩ hk
instance zIA(s:Str):Tot (nS s) (s.l.length<=1000000) (λφ=>∀a b,SA a->φ (a,b)):=⟨by
 rintro h0 φ hk
 unfold nS
 refine Ok.call zAf trivial (Ok.ite_dec (λ_=>Ok.pure (hk _ _ SA.nil0)) λ_=>?_)
 refine Ok.call (zFV s h0 (s.l.length+2) 0 _) ⟨⟨by omega,by omega,by omega⟩,rfl,by simp[I64],by simp[I64]⟩ λx hx=>?_
 have hs:SA x:=⟨by rw[hx.1];decide,hx.2.2⟩
 exact Ok.go⟩
theorem zFW(y:List Str)(h0:y.length<=1000001)(h1:∀x∈y,x.l.length<=1000000):∀(k:Nat) (o:List zA) (i:Int),Tot (sU y o i) (3 - i<(k:Int)/\0<(k:Int)/\0<=i/\(o.length:Int)<=i/\i<=3/\(∀a∈o,SA a)) (λφ=>∀r,LL r->r.length<=100->(∀a∈r,SA a)->φ r):=by
 intro k
 induction k with
 | zero=>intro o i;exact⟨λh=>absurd h.2.1 (by omega)⟩
 | succ k ih=>
  intro o i;refine⟨?_⟩;rintro⟨v0,v1,v2,v3,v4,v5⟩ φ hk;unfold sU;exact Ok.go
instance zMP(y:List Str)(o:List zA)(i:Int):Tot (sU y o i) (y.length<=1000001/\(∀x∈y,x.l.length<=1000000)/\0<=i/\(o.length:Int)<=i/\i<=3/\(∀a∈o,SA a)) (λφ=>∀r,LL r->r.length<=100->(∀a∈r,SA a)->φ r):=⟨by
 rintro⟨h0,h1,v0,v1,v2,v3⟩ φ hk
 exact(zFW y h0 h1 ((3 - i).toNat+1) o i).ok ⟨by omega,by omega,v0,v1,v2,v3⟩ φ hk⟩
theorem up{y:List Str}{n:Nat}(h:∀x∈y,x.l.length<=n)(hn:n<=1000000):∀x∈y,x.l.length<=1000000:=λx hx=>cX (h x hx) hn
instance zNo(s:Str):Tot (pO s) (s.l.length<=1000000) (λφ=>∀r,LL r->r.length<=100->(∀a∈r,SA a)->φ r):=⟨by
 rintro h0 φ hk
 unfold pO
 refine Ok.call (zIy s _) h0 λy g1 g2=>?_
 have g3:=up g2 h0
 exact Ok.go⟩
instance zMQ(s:Str):Tot (zAH s) (s.l.length<=1000000) (λφ=>∀r,SL1 r->φ r):=⟨by
 rintro h0 φ hk
 unfold zAH
 refine Ok.call (zGS s) h0 λy g1 g2=>?_
 have g3:=up g2 h0
 exact Ok.go⟩
theorem zJC(s:Str)(e:UInt8)(h0:s.l.length<=1000000):∀(k:Nat) (i:Int),Tot (oG s e i) ((s.l.length:Int) - i<(k:Int)/\0<(k:Int)/\0<=i) (λφ=>(φ (.done ()))/\(∀r b,i<=r->r<(s.l.length:Int)->s.l[r.toNat]?=some b->(b.toNat:Int)=(e.toNat:Int)->φ (.ret r))):=by
 intro k
 induction k with
 | zero=>intro i;exact⟨λh=>absurd h.2.1 (by omega)⟩
 | succ k ih=>
  intro i;refine⟨?_⟩;rintro⟨v0,v1,v2⟩ φ ⟨hd,hr⟩;unfold oG;refine Ok.ite_dec (λh=>Ok.sidx v2 h λb _ hb=>Ok.ite_beq (λhe=>Ok.pure (hr i b (by omega) h hb he)) λ_=>?_) λ_=>Ok.go;rw[rA (by omega) (by omega)];exact Ok.last (ih (i+1)) ⟨by omega,by omega,by omega⟩ ⟨hd,λr b g1=>hr r b (by omega)⟩
instance zJD(s:Str)(e:UInt8)(i:Int):Tot (oG s e i) (s.l.length<=1000000/\0<=i) (λφ=>(φ (.done ()))/\(∀r b,i<=r->r<(s.l.length:Int)->s.l[r.toNat]?=some b->(b.toNat:Int)=(e.toNat:Int)->φ (.ret r))):=⟨by
 rintro⟨h0,v0⟩ φ hk
 exact(zJC s e h0 (((s.l.length:Int) - i).toNat+1) i).ok ⟨by omega,by omega,v0⟩ φ hk⟩
instance zLT(s:Str)(i:Int)(e:UInt8):Tot (fH s i e) (s.l.length<=1000000/\0<=i) (λφ=>∀r,(r=-1∨(i<=r/\r<(s.l.length:Int)/\∃b,s.l[r.toNat]?=some b/\(b.toNat:Int)=(e.toNat:Int)))->φ r):=⟨by
 rintro⟨h0,h1⟩ φ hk
 unfold fH
 exact Ok.call (zJD s e i) ⟨h0,h1⟩ ⟨Ok.pure (hk _ (.inl rfl)),λr b g1 g2 g3 g4=>Ok.pure (hk _ (.inr ⟨g1,g2,b,g3,g4⟩))⟩⟩
instance zBq(s:Str)(i:Int):Tot (pS s i) (s.l.length<=1000000/\0<=i/\i<=1000000) (λφ=>∀a n,SC a->(n=-1∨i<n)->n<=(s.l.length:Int)->φ (a,n)):=⟨by
 rintro⟨h0,h1,h2⟩ φ hk
 unfold pS
 exact Ok.go⟩
theorem SE.node{n:Nat}{k:Int}{a b:zI}(ha:SE n a)(hb:SE n b):SE (n+1) (zI.mk k 0 (zA.mk [] 0) (zK.mk ⟨[]⟩ []) [a,b]):=
 ⟨SA.nil0,SC.nil,cC rfl,λk hk=>by
  rcases cz.1 hk with hk|hk
  ·exact hk ▸ ha
  ·exact cD.1 hk ▸ hb⟩
theorem SE.lf{m:Nat}{k n:Int}{a:zA}{c:zK}(h1:SA a)(h2:SC c):SE m (zI.mk k n a c []):=SE.leaf (e:=zI.mk k n a c []) h1 h2 rfl
def EX0:zI:=zI.mk 0 0 (zA.mk [] 0) (zK.mk ⟨[]⟩ []) []
theorem EX0.se{n:Nat}:SE n EX0:=SE.leaf (e:=EX0) SA.nil0 SC.nil rfl
theorem zLU(s:Str)(h0:s.l.length<=1000000):∀(n:Nat) (i lv:Int),Tot (oH s i lv) (lv<=n/\n<=1000/\I64 lv) (λφ=>∀e r,SE n e->(r=-1∨(0<=i/\i<r))->r<=(s.l.length:Int)->φ (e,r)):=by
 intro n
 induction n with
 | zero=>
  intro i lv;refine⟨?_⟩;rintro⟨v0,v1,v2⟩ φ hk;unfold oH;dsimp only [same];refine Ok.bind_ite (Ok.ite_dec (λh=>Ok.bind_pure (Ok.ite_tt (Ok.pure (hk _ _ EX0.se (.inl rfl) (by omega))))) λh=>absurd h (by omega))
 | succ n ih=>
  have round:∀(i lv:Int),Tot (dJ s i lv) (lv<=n/\n<=1000/\0<=i/\I64 lv) (λφ=>∀e r,SE (n+1) e->(r=-1∨(i<r))->r<=(s.l.length:Int)->φ (e,r)):=by
   intro i lv;refine⟨?_⟩;rintro⟨v0,v1,v2,v4⟩ φ hk;unfold dJ;dsimp only [same];have hbad:Ok (Pure.pure (EX0,(-1:Int))) φ:=Ok.pure (hk _ _ EX0.se (.inl rfl) (by omega));refine Ok.call (ih i lv) ⟨v0,v1,v4⟩ λe1 r1 g1 g2 g3=>?_;refine Ok.bind (φ:=λb=>b=false->0<=r1/\r1<(s.l.length:Int)) Ok.go λb hb=>Ok.ite (λ_=>hbad) λhz=>?_;obtain⟨b1,b2⟩:=hb (by simpa using hz);refine Ok.sidx b1 b2 λc _ hc=>Ok.bind (φ:=λ_=>True) Ok.go λkd _=>?_;refine Ok.call (ih _ lv) ⟨v0,v1,v4⟩ λe2 r2 g4 g5 g6=>?_;rw[rA (by omega) (by omega)] at g5;refine Ok.bind (φ:=λb=>b=false->0<=r2/\r2<(s.l.length:Int)) Ok.go λb hb=>Ok.ite (λ_=>hbad) λhz=>?_;obtain⟨b3,b4⟩:=hb (by simpa using hz);refine Ok.pure ?_;rw[rA (by omega) (by omega)];exact hk _ _ (SE.node g1 g4) (.inr (by omega)) (by omega)
  intro i lv;refine⟨?_⟩;rintro⟨v0,v1,v2⟩ φ hk;unfold oH;dsimp only [same];have hbad:Ok (Pure.pure (EX0,(-1:Int))) φ:=Ok.pure (hk _ _ EX0.se (.inl rfl) (by omega));refine Ok.bind (φ:=λb=>b=false->0<=i/\i<(s.l.length:Int)/\1<=lv) Ok.go λb hb=>Ok.ite (λ_=>hbad) λhz=>?_;obtain⟨b1,b2,b3⟩:=hb (by simpa using hz);refine Ok.sidx b1 b2 λc _ hc=>Ok.ite_beq (λaE=>?_) λ_=>?_
  ·refine Ok.call (zLT s i _) ⟨h0,b1⟩ λy hy=>Ok.ite_dec (λ_=>hbad) λhy0=>?_;rcases hy with hy|⟨y1,y2,d,y3,y4⟩
   ·exact absurd hy (by omega)
   have hiy:i+1<=y:=by
    by_cases e:y=i
    ·subst e;rw[hc] at y3;cases y3
     have:((125:UInt8).toNat:Int)=125:=rfl;omega
    ·omega
   rw[rA (by omega) (by omega),rA (by omega) (by omega)];refine Ok.sslc (by omega) (by omega) (by omega) λm _ hm=>Ok.call (zIA m) (by omega) λa b ha=>Ok.pure (hk _ _ (SE.lf ha SC.nil) (.inr (by omega)) (by omega))
  ·refine Ok.bind (φ:=λ_=>True) Ok.go λt52 _=>Ok.ite (λ_=>?_) λ_=>?_
   ·refine Ok.call (zBq s i) ⟨h0,b1,by omega⟩ λa r ha g1 g2=>Ok.pure (hk _ _ (SE.lf SA.nil0 ha) (by omega) g2)
   ·refine Ok.sidx_known hc b1 (Ok.ite_beq (λ_=>?_) λ_=>?_)
    ·obtain⟨v3,v4⟩:=v2;rw[rA (x:=lv - 1) (by omega) (by omega),rA (x:=i+1) (by omega) (by omega)];refine Ok.call (round _ _) ⟨by omega,by omega,by omega,⟨by omega,by omega⟩⟩ λe r g1 g2 g3=>Ok.pure (hk _ _ g1 (by omega) g3)
    ·refine Ok.call (zGT s i) ⟨h0,b1,by omega⟩ λn2 r g1 g2 g3=>Ok.ite_beq (λ_=>hbad) λhne=>Ok.pure (hk _ _ (SE.lf SA.nil0 SC.nil) (.inr (by omega)) g3)
instance zLV(s:Str)(i lv:Int):Tot (oH s i lv) (s.l.length<=1000000/\0<=lv/\lv<=5) (λφ=>∀e r,SE 5 e->(r=-1∨(0<=i/\i<r))->r<=(s.l.length:Int)->φ (e,r)):=⟨λ⟨h0,h1,h2⟩=>(zLU s h0 5 i lv).ok ⟨h2,by decide,⟨by omega,by omega⟩⟩⟩
theorem zGU(list:List zA)(h0:list.length<=100)(h1:∀a∈list,VA a):∀(k:Nat) (o:Str) (i:Int),Tot (rE list o i) ((list.length:Int) - i<(k:Int)/\0<(k:Int)/\0<=i/\i<=100/\(o.l.length:Int)<=1001*i) (λφ=>∀r,r.l.length<=200000->φ r):=by
 intro k
 induction k with
 | zero=>intro o i;exact⟨λh=>absurd h.2.1 (by omega)⟩
 | succ k ih=>
  intro o i;refine⟨?_⟩;rintro⟨v0,v1,v2,v3,v4⟩ φ hk;unfold rE;exact Ok.go
instance zMl(list:List zA)(o:Str)(i:Int):Tot (rE list o i) (list.length<=100/\(∀a∈list,VA a)/\0<=i/\i<=100/\(o.l.length:Int)<=1001*i) (λφ=>∀r,r.l.length<=200000->φ r):=⟨by
 rintro⟨h0,h1,v0,v1,v2⟩ φ hk
 exact(zGU list h0 h1 (((list.length:Int) - i).toNat+1) o i).ok ⟨by omega,by omega,v0,v1,v2⟩ φ hk⟩
instance zO3(list:List zA):Tot (oK list) (list.length<=100/\(∀a∈list,VA a)) (λφ=>∀r,r.l.length<=200000->φ r):=⟨by
 rintro⟨h0,h1⟩ φ hk
 unfold oK
 exact Ok.go⟩
instance zNW(a:zK):Tot (qG a) (VC a) (λφ=>∀r,r.l.length<=200100->φ r):=⟨by
 rintro h0 φ hk
 obtain⟨h01,h02,h03⟩:=h0
 unfold qG
 exact Ok.go⟩
def TN:Nat->Nat
 | 0=>200100
 | n+1=>2*TN n+10
theorem TN.ge:∀n,200100<=TN n
 | 0=>cI _
 | n+1=>by have:=TN.ge n;simp only[TN];omega
theorem TN.mono(n:Nat):TN n<=TN (n+1):=by have:=TN.ge n;simp only[TN];omega
theorem zMR:∀(n:Nat) (e:zI),Tot (qW e) (VE n e/\TN n<=1000000000) (λφ=>∀r,r.l.length<=TN n->φ r):=by
 have base:∀(e:zI),VO e->∀φ:Str->Prop,(∀r,r.l.length<=200100->φ r)->Ok (qW e) φ:=by
  intro e he φ hk;unfold qW;rcases he with⟨h,h1⟩|⟨h,h1⟩|⟨h,h1⟩
  ·refine Ok.ite_beq (λ_=>Ok.go) λhne=>absurd h hne
  ·refine Ok.ite_beq (λhe=>absurd (h.symm.trans he) (by decide)) λ_=>Ok.ite_beq (λ_=>Ok.go) λhne=>absurd h hne
  ·refine Ok.ite_beq (λhe=>absurd (h.symm.trans he) (by decide)) λ_=>Ok.ite_beq (λhe=>absurd (h.symm.trans he) (by decide)) λ_=>Ok.ite_beq (λ_=>Ok.go) λhne=>absurd h hne
 intro n
 induction n with
 | zero=>intro e;exact⟨λ⟨h,_⟩ φ hk=>base e h φ hk⟩
 | succ n ih=>
  intro e;refine⟨?_⟩;rintro⟨h,hn⟩ φ hk;have hm:=TN.mono n;have hg:=TN.ge n;have hg2:TN (n+1)=2*TN n+10:=rfl;rcases h with h|⟨h1,h2,h3⟩
  ·exact base e h φ λr hr=>hk r (by omega)
  unfold qW;dsimp only [same];refine Ok.ite_beq (λhe=>by omega) λ_=>Ok.ite_beq (λhe=>by omega) λ_=>Ok.ite_beq (λhe=>by omega) λ_=>?_;refine Ok.idx (by omega) (by omega) λx hx _=>?_;have hx:=h3 x hx;refine Ok.call (ih x) ⟨hx,by omega⟩ λy hy=>?_;refine Ok.cat (by simp;omega) λs2 _ g2=>?_;rw[rA (x:=e.Kind - 4) (by omega) (by omega),rA (x:=e.Kind - 4+1) (by omega) (by omega)];refine Ok.sslc (by omega) (by omega) (by simp;omega) λs3 _ g3=>?_;simp only[cy,cK] at g2;refine Ok.cat (by omega) λs4 _ g4=>Ok.idx (by omega) (by omega) λx1 hx1 _=>?_;have hx1:=h3 x1 hx1;refine Ok.call (ih x1) ⟨hx1,by omega⟩ λy4 bk=>Ok.cat (by omega) λs5 _ g5=>Ok.cat (by simp;omega) λs6 _ g6=>Ok.pure (hk _ ?_);simp only[cy,cK] at g6;dsimp only [id];omega
instance zPy(e:zI):Tot (qW e) (VE 5 e) (λφ=>∀r,r.l.length<=10000000->φ r):=⟨λh φ hk=>(zMR 5 e).ok ⟨h,by decide⟩ φ λr hr=>hk r (cX hr (by decide))⟩
instance zJE(s:zP):Tot (jX s) (SS s) (λφ=>∀r,r.l.length<=100000000->φ r):=⟨by
 rintro h0 φ hk
 unfold jX
 refine Ok.call (zEc s _) h0 λb hb=>?_
 refine Ok.ite_not (λ_=>Ok.go) λhv=>?_
 obtain⟨g1,g2⟩:=hb hv
 exact Ok.go⟩
instance zEd(s:Str):Tot (kW s) (s.l.length<=1000000) (λφ=>∀a b,SS a->φ (a,b)):=⟨by
 rintro h0 φ hk
 have e0:SS (zP.mk (zK.mk ⟨[]⟩ []) EX0):=⟨SC.nil,EX0.se⟩
 unfold kW
 refine Ok.ite_dec (λ_=>Ok.pure (hk _ _ e0)) λ_=>?_
 refine Ok.call (zBq s 0) ⟨h0,by omega,by omega⟩ λa n g1 g2 g3=>?_
 refine Ok.bind (φ:=λ_=>True) Ok.go λt _=>Ok.ite (λ_=>Ok.pure (hk _ _ e0)) λ_=>?_
 refine Ok.call (zLV s _ 5) ⟨h0,by decide,by decide⟩ λe r g4 g5 g6=>?_
 have hs:SS (zP.mk a e):=⟨g1,g4⟩
 refine Ok.call (zJE _) hs λt ht=>Ok.ite_not (λ_=>Ok.pure (hk _ _ e0)) λ_=>Ok.pure (hk _ _ hs)⟩
theorem zJk(nest:List zE)(h0:VN nest):∀(k:Nat) (o:Str) (i:Int),Tot (nU nest o i) ((nest.length:Int) - i<(k:Int)/\0<(k:Int)/\0<=i/\i<=4/\(o.l.length:Int)<=500000*i) (λφ=>∀r,r.l.length<=2000000->φ r):=by
 obtain⟨h01,h02⟩:=h0;intro k
 induction k with
 | zero=>intro o i;exact⟨λh=>absurd h.2.1 (by omega)⟩
 | succ k ih=>
  intro o i;refine⟨?_⟩;rintro⟨v0,v1,v2,v3,v4⟩ φ hk;unfold nU;refine Ok.ite_dec (λh=>Ok.cat (by simp;omega) λs1 _ g1=>Ok.idx v2 h λx hx hxi=>?_) λ_=>Ok.go;obtain⟨⟨g2,g3,g4⟩,g5,g6,g7⟩:=h02 x hx;exact Ok.go
instance zPG(nest:List zE)(o:Str)(i:Int):Tot (nU nest o i) (VN nest/\0<=i/\i<=4/\(o.l.length:Int)<=500000*i) (λφ=>∀r,r.l.length<=2000000->φ r):=⟨by
 rintro⟨h0,v0,v1,v2⟩ φ hk
 exact(zJk nest h0 (((nest.length:Int) - i).toNat+1) o i).ok ⟨by omega,by omega,v0,v1,v2⟩ φ hk⟩
instance zMS(nest:List zE):Tot (zAJ nest) (VN nest) (λφ=>∀r,r.l.length<=2000000->φ r):=⟨by
 rintro h0 φ hk
 unfold zAJ
 exact Ok.go⟩
theorem zDr(p:zC)(i:Int)(a:zF)(b:Nat)(h0:VR a)(h1:0<=i)(h2:i<(p.Arrays.length:Int))(h3:p.Arrays[i.toNat]?=some a)(h4:b<=1000000000):∀(k:Nat) (o:Str) (k0:Int),Tot (tM p i o k0) ((a.Dims.length:Int) - k0<(k:Int)/\0<(k:Int)/\0<=k0/\k0<=2/\(o.l.length:Int)<=b+100*k0) (λφ=>∀r,r.l.length<=b+200->φ r):=by
 obtain⟨h01,h02,h05⟩:=h0;intro k
 induction k with
 | zero=>intro o k0;exact⟨λh=>absurd h.2.1 (by omega)⟩
 | succ k ih=>
  intro o k0;refine⟨?_⟩;rintro⟨v0,v1,v2,v3,v4⟩ φ hk;unfold tM;refine Ok.idx_known h3 h1 ?_;refine Ok.ite_dec (λh=>Ok.cat (by simp;omega) λs1 _ g1=>Ok.idx_known h3 h1 (Ok.idx v2 h λx hx hxi=>?_)) λ_=>Ok.go;have hx:=h05 x hx;exact Ok.go
theorem zDs(p:zC)(i:Int)(a:zF)(b:Nat)(o:Str)(k0:Int):Tot (tM p i o k0) (VR a/\0<=i/\i<(p.Arrays.length:Int)/\p.Arrays[i.toNat]?=some a/\b<=1000000000/\0<=k0/\k0<=2/\(o.l.length:Int)<=b+100*k0) (λφ=>∀r,r.l.length<=b+200->φ r):=⟨by
 rintro⟨h0,h1,h2,h3,h4,v0,v1,v2⟩ φ hk;exact(zDr p i a b h0 h1 h2 h3 h4 (((a.Dims.length:Int) - k0).toNat+1) o k0).ok ⟨by omega,by omega,v0,v1,v2⟩ φ hk⟩
theorem zDt(p:zC)(h0:VG p):∀(k:Nat) (o:Str) (i:Int),Tot (tN p o i) ((p.Arrays.length:Int) - i<(k:Int)/\0<(k:Int)/\0<=i/\i<=4/\(o.l.length:Int)<=8+1000*i) (λφ=>∀r,r.l.length<=5000->φ r):=by
 obtain⟨⟨h01,h02⟩,h03,h04⟩:=h0;intro k
 induction k with
 | zero=>intro o i;exact⟨λh=>absurd h.2.1 (by omega)⟩
 | succ k ih=>
  intro o i;refine⟨?_⟩;rintro⟨v0,v1,v2,v3,v4⟩ φ hk;unfold tN;refine Ok.ite_dec (λh=>Ok.cat (by simp;omega) λs1 _ g1=>Ok.idx v2 h λx hx hxi=>?_) λ_=>Ok.go;obtain⟨g2,g3,g4⟩:=h02 x hx;simp only[cy,cK] at g1;refine Ok.cat (by omega) λs2 _ g5=>Ok.call (zDs p i x (o.l.length+10) s2 0) ⟨⟨g2,g3,g4⟩,v2,h,hxi,by omega,by omega,by omega,by omega⟩ λr hr=>?_;exact Ok.go
instance zDu(p:zC)(o:Str)(i:Int):Tot (tN p o i) (VG p/\0<=i/\i<=4/\(o.l.length:Int)<=8+1000*i) (λφ=>∀r,r.l.length<=5000->φ r):=⟨by
 rintro⟨h0,v0,v1,v2⟩ φ hk
 exact(zDt p h0 (((p.Arrays.length:Int) - i).toNat+1) o i).ok ⟨by omega,by omega,v0,v1,v2⟩ φ hk⟩
theorem zDv(p:zC)(i:Int)(q:zQ)(b:Nat)(h0:VP q)(h1:0<=i)(h2:i<(p.Parts.length:Int))(h3:p.Parts[i.toNat]?=some q)(h4:b<=1000000000000):∀(k:Nat) (o:Str) (k0:Int),Tot (tO p i o k0) ((q.Body.length:Int) - k0<(k:Int)/\0<(k:Int)/\0<=k0/\k0<=4/\(o.l.length:Int)<=b+20000000*k0) (λφ=>∀r,r.l.length<=b+80000000->φ r):=by
 obtain⟨h01,h02,h05⟩:=h0;intro k
 induction k with
 | zero=>intro o k0;exact⟨λh=>absurd h.2.1 (by omega)⟩
 | succ k ih=>
  intro o k0;refine⟨?_⟩;rintro⟨v0,v1,v2,v3,v4⟩ φ hk;unfold tO;refine Ok.idx_known h3 h1 ?_;refine Ok.ite_dec (λh=>Ok.idx_known h3 h1 (Ok.idx v2 h λx hx hxi=>?_)) λ_=>Ok.go;obtain⟨g1,g2⟩:=h05 x hx;exact Ok.go
theorem zDw(p:zC)(i:Int)(q:zQ)(b:Nat)(o:Str)(k0:Int):Tot (tO p i o k0) (VP q/\0<=i/\i<(p.Parts.length:Int)/\p.Parts[i.toNat]?=some q/\b<=1000000000000/\0<=k0/\k0<=4/\(o.l.length:Int)<=b+20000000*k0) (λφ=>∀r,r.l.length<=b+80000000->φ r):=⟨by
 rintro⟨h0,h1,h2,h3,h4,v0,v1,v2⟩ φ hk;exact(zDv p i q b h0 h1 h2 h3 h4 (((q.Body.length:Int) - k0).toNat+1) o k0).ok ⟨by omega,by omega,v0,v1,v2⟩ φ hk⟩
theorem zDx(p:zC)(h0:VG p):∀(k:Nat) (o:Str) (i:Int),Tot (tP p o i) ((p.Parts.length:Int) - i<(k:Int)/\0<(k:Int)/\0<=i/\i<=4/\(o.l.length:Int)<=5000+100000000*i) (λφ=>∀r,r.l.length<=1000000000->φ r):=by
 obtain⟨⟨h01,h02⟩,h03,h04⟩:=h0;intro k
 induction k with
 | zero=>intro o i;exact⟨λh=>absurd h.2.1 (by omega)⟩
 | succ k ih=>
  intro o i;refine⟨?_⟩;rintro⟨v0,v1,v2,v3,v4⟩ φ hk;unfold tP;refine Ok.ite_dec (λh=>Ok.cat (by simp;omega) λs1 _ g1=>Ok.idx v2 h λx hx hxi=>?_) λ_=>Ok.go;obtain⟨g2,g3,g4⟩:=h04 x hx;simp only[cy,cK] at g1;refine Ok.call (zMS x.Nest) g2 λy hy=>Ok.cat (by omega) λs2 _ g5=>Ok.call (zDw p i x (o.l.length+2000010) s2 0) ⟨⟨g2,g3,g4⟩,v2,h,hxi,by omega,by omega,by omega,by omega⟩ λr hr=>?_;exact Ok.go
instance zLW(p:zC)(o:Str)(i:Int):Tot (tP p o i) (VG p/\0<=i/\i<=4/\(o.l.length:Int)<=5000+100000000*i) (λφ=>∀r,r.l.length<=1000000000->φ r):=⟨by
 rintro⟨h0,v0,v1,v2⟩ φ hk
 exact(zDx p h0 (((p.Parts.length:Int) - i).toNat+1) o i).ok ⟨by omega,by omega,v0,v1,v2⟩ φ hk⟩
instance zMm(p:zC):Tot (mQ p) (SG 1000 p) (λφ=>∀r,r.l.length<=1000000000->φ r):=⟨by
 rintro h0 φ hk
 unfold mQ
 refine Ok.call (zC6 p) h0 λb hb=>?_
 refine Ok.ite_not (λ_=>Ok.go) λhv=>?_
 have hv:=hb hv
 refine Ok.call (zDu p _ 0) ⟨hv,by omega,by omega,by simp⟩ λo ho=>?_
 exact Ok.go⟩
theorem zGV{α:Type}{P Q:α->Prop}{l:List α}(h:∀x∈l,P x)(hm:∀x,P x->Q x):∀x∈l,Q x:=λx hx=>hm x (h x hx)
theorem SN.mono{b:Nat}{l:List zE}(h:SN b l):SN (b+1) l:=⟨by have:=h.1;omega,h.2⟩
theorem SP.mono{b:Nat}{p:zQ}(h:SP b p):SP (b+1) p:=⟨h.1.mono,by have:=h.2.1;omega,h.2.2⟩
theorem SRs.mono{b:Nat}{l:List zF}(h:SRs b l):SRs (b+1) l:=⟨by have:=h.1;omega,h.2⟩
theorem SG.mono{b:Nat}{p:zC}(h:SG b p):SG (b+1) p:=⟨h.1.mono,by have:=h.2.1;omega,zGV h.2.2 λ_=>SP.mono⟩
theorem SG.up{b:Nat}:∀{c:Nat}{p:zC},SG b p->SG (b+c) p
 | 0,_,h=>h
 | c+1,_,h=>(SG.up (c:=c) h).mono
theorem zGW{α:Type}{P:α->Prop}{l:List α}{x:α}(h:∀y∈l,P y)(hx:P x)(k:Nat):∀y∈l.set k x,P y:=by
 intro y hy;rcases List.mem_or_eq_of_mem_set hy with hy|hy
 ·exact h y hy
 ·exact hy ▸ hx
theorem zIG{α:Type}{l:List α}{a:α}{b:Nat}(h:l.length<=b):(l++[a]).length<=b+1:=by simp;omega
theorem SG.addA{b:Nat}{p:zC}{a:zF}(h:SG b p)(ha:SR a):SG (b+1) (zC.mk (p.Arrays++[a]) p.Parts):=
 ⟨⟨zIG h.1.1,zCr h.1.2 ha⟩,gx h.2.1,zGV h.2.2 λ_=>SP.mono⟩
theorem SG.addP{b:Nat}{p:zC}{a:zQ}(h:SG b p)(ha:SP (b+1) a):SG (b+1) (zC.mk p.Arrays (p.Parts++[a])):=
 ⟨h.1.mono,zIG h.2.1,zCr (zGV h.2.2 λ_=>SP.mono) ha⟩
theorem SG.setP{b:Nat}{p:zC}{a:zQ}(h:SG b p)(ha:SP (b+1) a)(k:Nat):SG (b+1) (zC.mk p.Arrays (p.Parts.set k a)):=
 ⟨h.1.mono,gx (cX (Nat.le_of_eq cJ) h.2.1),zGW (zGV h.2.2 λ_=>SP.mono) ha k⟩
theorem SP.addN{b:Nat}{q:zQ}{x:zE}(h:SP b q)(hx:SL1 x):SP (b+1) (zQ.mk (q.Nest++[x]) q.Body):=
 ⟨⟨zIG h.1.1,zCr h.1.2 hx⟩,gx h.2.1,h.2.2⟩
theorem SP.addB{b:Nat}{q:zQ}{x:zP}(h:SP b q)(hx:SS x):SP (b+1) (zQ.mk q.Nest (q.Body++[x])):=
 ⟨h.1.mono,zIG h.2.1,zCr h.2.2 hx⟩
theorem SP.nil{b:Nat}:SP b (zQ.mk [] []):=⟨⟨fj _,λ_ h=>absurd h dd⟩,fj _,λ_ h=>absurd h dd⟩
theorem zMT(b:Nat)(p:zC)(s:Str):Tot (zAI p s) ((SG b p/\b<=900)/\s.l.length<=1000000) (λφ=>∀r,SG (b+1) r->φ r):=⟨by
 rintro⟨⟨h0,h1⟩,h2⟩ φ hk;obtain⟨⟨h3,h4⟩,h5,h6⟩:=id h0;unfold zAI;refine Ok.call (zGS s) h2 λy g1 g2=>?_;have g3:=up g2 h2;refine Ok.bind (φ:=λ_=>True) Ok.go λt _=>Ok.ite (λ_=>?_) λ_=>Ok.ite_beq (λ_=>?_) λ_=>?_
 ·exact Ok.call (zLR y) ⟨by omega,g3⟩ λa ha=>Ok.app S (Ok.pure (hk _ (h0.addA ha)))
 ·exact Ok.app S (Ok.pure (hk _ (h0.addP SP.nil)))
 rw[rA (x:=(p.Parts.length:Int) - 1) (by omega) (by omega)];refine Ok.bind (φ:=λb=>b=true->1<=p.Parts.length) Ok.go λt ht=>Ok.ite (λhz=>?_) λ_=>Ok.ite_dec (λhz=>?_) λ_=>Ok.pure (hk _ h0.mono)
 ·have hz:=ht hz;refine Ok.idx (by omega) (by omega) λq hq _=>?_;have hq:=h6 q hq;have q1:=hq.1.1;exact Ok.call (zMQ s) h2 λx hx=>Ok.app S (Ok.pure (hk _ (h0.setP (hq.addN hx) _)))
 ·refine Ok.idx (by omega) (by omega) λq hq _=>?_;have hq:=h6 q hq;have q1:=hq.2.1;exact Ok.call (zEd s) h2 λx c hx=>Ok.app S (Ok.pure (hk _ (h0.setP (hq.addB hx) _)))⟩
theorem zE4(y:List Str)(h0:y.length<=100)(h1:∀x∈y,x.l.length<=1000000):∀(k:Nat) (b:Nat) (p:zC) (i:Int),((y.length:Int) - i<(k:Int)/\0<(k:Int)/\0<=i/\(b:Int)<=i/\i<=100)->SG b p->∀φ:zC->Prop,(∀r,SG 1000 r->φ r)->Ok (rY y p i) φ:=by
 intro k
 induction k with
 | zero=>intro b p i h;exact absurd h.2.1 (by omega)
 | succ k ih=>
  rintro b p i ⟨v0,v1,v2,v3,v5⟩ v4 φ hk;unfold rY;rw[rA (by omega) (by omega)];refine Ok.ite_dec (λh=>Ok.idx v2 (by omega) λx hx _=>?_) λh=>?_
  ·refine Ok.call (zMT b p x) ⟨⟨v4,by omega⟩,h1 x hx⟩ λr hr=>?_;exact ih (b+1) r _ ⟨by omega,by omega,by omega,by omega,by omega⟩ hr φ hk
  ·have:=SG.up (c:=1000 - b) v4;rw[show b+(1000 - b)=1000 by omega] at this;exact Ok.pure (hk _ this)
theorem SG.nil:SG 1000 (zC.mk [] []):=⟨⟨by simp,by simp⟩,by simp,by simp⟩
instance zC7(s:Str):Tot (oW s) (s.l.length<=1000000) (λφ=>∀p b,SG 1000 p->φ (p,b)):=⟨by
 rintro h0 φ hk
 unfold oW
 refine Ok.call (zIy s _) h0 λy g1 g2=>Ok.ite_dec (λ_=>Ok.pure (hk _ _ SG.nil)) λhy=>?_
 refine Ok.bind (φ:=λp=>SG 1000 p) (zE4 y (by omega) (up g2 h0) (y.length+2) 0 _ 1 ⟨by omega,by omega,by omega,by omega,by omega⟩ ⟨⟨by simp,by simp⟩,by simp,by simp⟩ _ λ_ h=>h) λp hp=>?_
 refine Ok.bind (φ:=λ_=>True) Ok.go λt _=>Ok.ite (λ_=>Ok.pure (hk _ _ SG.nil)) λ_=>Ok.pure (hk _ _ hp)⟩
theorem VA4.sa{a:zA}(h:a.Coefs.length=4)(hc:I64 a.Const):SA a:=⟨by omega,hc⟩
instance zEK(v:Int):Tot (kR v) (0<=v/\v<4) (λφ=>∀r,r.Coefs.length=4->r.Const=0->φ r):=⟨by
 rintro⟨h0,h1⟩ φ hk
 unfold kR
 refine Ok.call zAf trivial (Ok.idx h0 (by simp;omega) λx _ _=>Ok.bind_pure (Ok.pure (hk _ (by simp) rfl)))⟩
theorem zHS(a:zA)(x:Int)(b:zA)(y:Int)(h0:a.Coefs.length=4)(h1:b.Coefs.length=4):∀(k:Nat) (i:Int) (o:List Int),Tot (qH a x b y i o) (4 - i<(k:Int)/\0<(k:Int)/\0<=i/\i<=4/\(o.length:Int)=i) (λφ=>∀r,r.length=4->φ r):=by
 intro k
 induction k with
 | zero=>intro i o;exact⟨λh=>absurd h.2.1 (by omega)⟩
 | succ k ih=>
  intro i o;refine⟨?_⟩;rintro⟨v0,v1,v2,v3,v4⟩ φ hk;unfold qH;exact Ok.go
instance zNX(a:zA)(x:Int)(b:zA)(y:Int)(i:Int)(o:List Int):Tot (qH a x b y i o) (a.Coefs.length=4/\b.Coefs.length=4/\0<=i/\i<=4/\(o.length:Int)=i) (λφ=>∀r,r.length=4->φ r):=⟨by
 rintro⟨h0,h1,v0,v1,v2⟩ φ hk
 exact(zHS a x b y h0 h1 ((4 - i).toNat+1) i o).ok ⟨by omega,by omega,v0,v1,v2⟩ φ hk⟩
instance zJl(a:zA)(x:Int)(b:zA)(y:Int):Tot (kX a x b y) (a.Coefs.length=4/\b.Coefs.length=4) (λφ=>∀r,r.Coefs.length=4->I64 r.Const->φ r):=⟨by
 rintro⟨h0,h1⟩ φ hk
 unfold kX
 exact Ok.go⟩
theorem LL.one{a:zA}(h:SA a):LL [a]:=⟨cC rfl,λ_ h'=>cD.1 h' ▸ h⟩
theorem LL.two{a b:zA}(h:SA a)(h2:SA b):LL ([a]++[b]):=⟨cC rfl,zCr (LL.one h).2 h2⟩
theorem SA.c4{y:Int}(h:I64 y):SA (zA.mk [0,0,0,0] y):=⟨cC rfl,h⟩
instance zQ4(r:zO)(ae:Int):Tot (zAK r ae) (0<=r.p/\r.p<=900000000/\0<=ae/\ae<=4) (λφ=>∀a s,SL1 a->r.p<=s.p->s.p<=r.p+20->φ (a,s)):=⟨by
 rintro⟨h0,h1,h2,h3⟩ φ hk
 unfold zAK
 refine Ok.call (uI r _) ⟨by decide,h0,by omega,by decide⟩ λy1 s1 _ g1 e1=>Ok.call (gD _) trivial ?_
 refine Ok.call (uI s1 _) ⟨by decide,by omega,by omega,by decide⟩ λy2 s2 _ g2 e2=>Ok.call (gD _) trivial ?_
 have a1:=SA.c4 g1
 have a2:=SA.c4 g2
 refine Ok.bind (φ:=λo=>r.p<=o.2.p/\o.2.p<=r.p+3) Ok.go ?_
 rintro⟨t,x⟩ ⟨g3,g4⟩
 dsimp only at g3 g4 ⊢
 refine Ok.bind (φ:=λo=>SA o.1/\SA o.2.1/\r.p<=o.2.2.p/\o.2.2.p<=r.p+6) (Ok.ite (λ_=>?_) λ_=>Ok.go) ?_
 ·refine Ok.call (dV x _) ⟨by omega,by omega⟩ λy s k1 k2 k3=>Ok.call (dV s _) ⟨by omega,by omega⟩ λz u k4 k5 k6=>?_
  refine Ok.bind (φ:=λo=>SA o.1/\SA o.2) (Ok.ite_beq (λ_=>?_) λ_=>?_) ?_
  ·exact Ok.call (zEK y) ⟨k1,by omega⟩ λb c1 c2=>Ok.pure ⟨⟨by dsimp only;omega,by dsimp only;rw[c2];decide⟩,a2⟩
  ·exact Ok.call (zEK y) ⟨k1,by omega⟩ λb c1 c2=>Ok.call (gD _) trivial (Ok.call (zJl b 1 _ 1) ⟨c1,rfl⟩ λd c3 c4=>Ok.pure ⟨a1,⟨by dsimp only;omega,c4⟩⟩)
  rintro⟨b,c⟩ ⟨c1,c2⟩
  exact Ok.pure ⟨c1,c2,by dsimp only at *;omega,by dsimp only at *;omega⟩
 rintro⟨b,c,u⟩ ⟨b1,b2,b3,b4⟩
 dsimp only at b1 b2 b3 b4 ⊢
 refine Ok.call (dV u _) ⟨by omega,by omega⟩ λy s k1 k2 k3=>?_
 refine Ok.bind (φ:=λo=>LL o.1/\LL o.2.1/\r.p<=o.2.2.p/\o.2.2.p<=r.p+20) (Ok.ite_beq (λ_=>?_) λ_=>?_) ?_
 ·refine Ok.call (uI s _) ⟨by decide,by omega,by omega,by decide⟩ λy3 s3 _ g3 e3=>Ok.call (gD _) trivial (Ok.app S (Ok.pure ⟨LL.one b1,LL.two b2 (SA.c4 g3),by dsimp only;omega,by dsimp only;omega⟩))
 ·refine Ok.bind (φ:=λo=>LL o.1/\r.p<=o.2.p/\o.2.p<=r.p+20) (Ok.ite_beq (λ_=>?_) λ_=>Ok.pure ⟨LL.one b1,by dsimp only;omega,by dsimp only;omega⟩) ?_
  ·refine Ok.call (uI s _) ⟨by decide,by omega,by omega,by decide⟩ λy3 s3 _ g3 e3=>Ok.call (gD _) trivial (Ok.app S (Ok.pure ⟨LL.two b1 (SA.c4 g3),by dsimp only;omega,by dsimp only;omega⟩))
  rintro⟨d,w⟩ ⟨d1,d2,d3⟩
  exact Ok.pure ⟨d1,LL.one b2,d2,d3⟩
 rintro⟨d,e,w⟩ ⟨d1,d2,d3,d4⟩
 exact Ok.pure (hk _ _ ⟨d1,d2⟩ d3 d4)⟩
theorem zJm :∀(k:Nat) (o:List zE) (i:Int) (r:zO),Tot (nV o i r) (i<(k:Int)/\0<(k:Int)/\i<=3/\0<=i/\(o.length:Int)+i<=4/\0<=r.p/\r.p+20*i<=800000100/\(∀x∈o,SL1 x)) (λφ=>∀a s,SN 1000 a->a.length<=4->r.p<=s.p->s.p<=r.p+20*i->φ (a,s)):=by
 intro k
 induction k with
 | zero=>intro o i r;exact⟨λh=>absurd h.2.1 (by omega)⟩
 | succ k ih=>
  intro o i r;refine⟨?_⟩;rintro⟨v0,v1,v2,v3,v4,v5,v6,v7⟩ φ hk;unfold nV;exact Ok.go
instance zPH  (o:List zE) (i:Int) (r:zO):Tot (nV o i r) (i<=3/\0<=i/\(o.length:Int)+i<=4/\0<=r.p/\r.p+20*i<=800000100/\(∀x∈o,SL1 x)) (λφ=>∀a s,SN 1000 a->a.length<=4->r.p<=s.p->s.p<=r.p+20*i->φ (a,s)):=⟨by
 rintro⟨v0,v1,v2,v3,v4,v5⟩ φ hk
 exact(zJm ((i).toNat+1) o i r).ok ⟨by omega,by omega,v0,v1,v2,v3,v4,v5⟩ φ hk⟩
instance zMU(r:zO):Tot (zAL r) (0<=r.p/\r.p<=800000000) (λφ=>∀a s,SN 1000 a->a.length<=4->r.p<=s.p->s.p<=r.p+100->φ (a,s)):=⟨by
 rintro⟨h0,h1⟩ φ hk
 unfold zAL
 refine Ok.call (uI r _) ⟨by decide,h0,by omega,by decide⟩ λy s g1 g2 g3=>?_
 simp only[cz,dd,or_false] at g1
 exact Ok.go⟩
theorem zJn(ae:Int)(n:Int)(h0:0<=ae)(h1:ae<=4)(h2:n<=2):∀(k:Nat) (i:Int) (o:List zA) (r:zO),Tot (nW ae n i o r) (n - i<(k:Int)/\0<(k:Int)/\0<=i/\i<=2/\(o.length:Int)<=i/\0<=r.p/\r.p<=900000000+10*i/\(∀x∈o,SA x)) (λφ=>∀a s,a.length<=100->(∀x∈a,SA x)->r.p<=s.p->s.p<=r.p+20 - 10*i->φ (a,s)):=by
 intro k
 induction k with
 | zero=>intro i o r;exact⟨λh=>absurd h.2.1 (by omega)⟩
 | succ k ih=>
  intro i o r;refine⟨?_⟩;rintro⟨v0,v1,v2,v3,v4,v5,v6,v7⟩ φ hk;unfold nW;exact Ok.go
instance zPI(ae:Int)(n:Int)(i:Int)(o:List zA)(r:zO):Tot (nW ae n i o r) (0<=ae/\ae<=4/\n<=2/\0<=i/\i<=2/\(o.length:Int)<=i/\0<=r.p/\r.p<=900000000+10*i/\(∀x∈o,SA x)) (λφ=>∀a s,a.length<=100->(∀x∈a,SA x)->r.p<=s.p->s.p<=r.p+20 - 10*i->φ (a,s)):=⟨by
 rintro⟨h0,h1,h2,v0,v1,v2,v3,v4,v5⟩ φ hk
 exact(zJn ae n h0 h1 h2 ((n - i).toNat+1) i o r).ok ⟨by omega,by omega,v0,v1,v2,v3,v4,v5⟩ φ hk⟩
instance zJF(r:zO)(ae:Int):Tot (gQ r ae) (0<=r.p/\r.p<=800000000/\0<=ae/\ae<=4) (λφ=>∀a s,SC a->r.p<=s.p->s.p<=r.p+30->φ (a,s)):=⟨by
 rintro⟨h0,h1,h2,h3⟩ φ hk
 unfold gQ
 refine Ok.call (zA8 r _) ⟨by decide,h0,by omega⟩ λy s g1 g2=>?_
 have hy:y.l.length<=1:=by
  simp only[cz,dd,or_false] at g1
  rcases g1 with rfl|rfl|rfl|rfl <;> decide
 exact Ok.go⟩
theorem zJo(ae:Int)(h0:0<=ae)(h1:ae<=4):∀(k:Nat) (i:Int) (o:List Int) (r:zO),Tot (nX ae i o r) (ae - i<(k:Int)/\0<(k:Int)/\0<=i/\i<=4/\o.length=4/\0<=r.p/\r.p<=900000000+i) (λφ=>∀a s,a.length=4->r.p<=s.p->s.p<=r.p+4 - i->φ (a,s)):=by
 intro k
 induction k with
 | zero=>intro i o r;exact⟨λh=>absurd h.2.1 (by omega)⟩
 | succ k ih=>
  intro i o r;refine⟨?_⟩;rintro⟨v0,v1,v2,v3,v4,v5,v6⟩ φ hk;unfold nX;exact Ok.go
instance zPJ(ae:Int)(i:Int)(o:List Int)(r:zO):Tot (nX ae i o r) (0<=ae/\ae<=4/\0<=i/\i<=4/\o.length=4/\0<=r.p/\r.p<=900000000+i) (λφ=>∀a s,a.length=4->r.p<=s.p->s.p<=r.p+4 - i->φ (a,s)):=⟨by
 rintro⟨h0,h1,v0,v1,v2,v3,v4⟩ φ hk
 exact(zJo ae h0 h1 ((ae - i).toNat+1) i o r).ok ⟨by omega,by omega,v0,v1,v2,v3,v4⟩ φ hk⟩
instance zMV(r:zO)(ae:Int):Tot (eI r ae) (0<=r.p/\r.p<=800000000/\0<=ae/\ae<=4) (λφ=>∀a s,SA a->a.Coefs.length=4->r.p<=s.p->s.p<=r.p+10->φ (a,s)):=⟨by
 rintro⟨h0,h1,h2,h3⟩ φ hk
 unfold eI
 exact Ok.go⟩
def PN:Nat->Nat
 | 0=>50
 | n+1=>2*PN n+50
theorem SE.kids{n:Nat}{k:Int}{l:List zI}(h:l.length<=10)(hl:∀x∈l,SE n x):SE (n+1) (zI.mk k 0 (zA.mk [] 0) (zK.mk ⟨[]⟩ []) l):=⟨SA.nil0,SC.nil,h,hl⟩
theorem zLX(ae:Int)(hd0:0<=ae)(hd1:ae<=4):∀(n:Nat) (r:zO) (lv:Int),Tot (oM r ae lv) (lv<=n+1/\0<=lv/\n<=10/\0<=r.p/\r.p+PN n<=800000000) (λφ=>∀e s,SE n e->r.p<=s.p->s.p<=r.p+PN n->φ (e,s)):=by
 intro n;have leaf:∀(m:Nat) (x:zO),Tot (do
  let (y4,y5)<-xC x 4
  if(y4==0) then
   let (y7,y8)<-xB y5 ([1,2,0,99,3]:List Int)
   pure ((zI.mk 1 y7 (zA.mk ([]:List Int) 0) (zK.mk (⟨[]⟩:Str) ([]:List zA)) ([]:List zI)),y8)
  else
   if(y4==1) then
    let (y10,y11)<-eI y5 ae
    pure ((zI.mk 2 0 y10 (zK.mk (⟨[]⟩:Str) ([]:List zA)) ([]:List zI)),y11)
   else
    let (y13,y14)<-gQ y5 ae
    pure ((zI.mk 3 0 (zA.mk ([]:List Int) 0) y13 ([]:List zI)),y14)) (0<=x.p/\x.p<=799999999) (λφ=>∀e s,SE m e->x.p<=s.p->s.p<=x.p+40->φ (e,s)):=by
  intro m x;refine⟨?_⟩;rintro⟨h0,h1⟩ φ hk;refine Ok.call (dV x 4) ⟨h0,by omega⟩ λy s k1 k2 k3=>?_;refine Ok.ite_beq (λ_=>?_) λ_=>Ok.ite_beq (λ_=>?_) λ_=>?_
  ·exact Ok.call (uI s _) ⟨by decide,by omega,by omega,by decide⟩ λy3 s3 _ g3 e3=>Ok.pure (hk _ _ (SE.lf SA.nil0 SC.nil) (by omega) (by omega))
  ·exact Ok.call (zMV s ae) ⟨by omega,by omega,hd0,hd1⟩ λa s3 g3 _ e3 e4=>Ok.pure (hk _ _ (SE.lf g3 SC.nil) (by omega) (by omega))
  ·exact Ok.call (zJF s ae) ⟨by omega,by omega,hd0,hd1⟩ λa s3 g3 e3 e4=>Ok.pure (hk _ _ (SE.lf SA.nil0 g3) (by omega) (by omega))
 induction n with
 | zero=>
  intro r lv;refine⟨?_⟩;rintro⟨v0,v1,v2,v3,v4⟩ φ hk;unfold oM;dsimp only [same];have hp:PN 0=50:=rfl;refine Ok.bind_ite (Ok.ite_dec (λ_=>Ok.bind_pure (Ok.ite_tt ?_)) λh=>absurd h (by omega));exact(leaf 0 r).ok ⟨v3,by omega⟩ φ λe s g1 g2 g3=>hk e s g1 g2 (by omega)
 | succ n ih=>
  intro r lv;refine⟨?_⟩;rintro⟨v0,v1,v2,v3,v4⟩ φ hk;unfold oM;dsimp only [same];have hp:PN (n+1)=2*PN n+50:=rfl;refine Ok.bind (φ:=λo=>(o.1=false->2<=lv)/\r.p<=o.2.p/\o.2.p<=r.p+1) ?_ ?_
  ·refine Ok.ite_dec (λ_=>Ok.pure ⟨λh=>(by cases h),by dsimp only;omega,by dsimp only;omega⟩) λh=>Ok.call (dV r 4) ⟨v3,by omega⟩ λy s k1 k2 k3=>Ok.pure ⟨λ_=>by omega,by dsimp only;omega,by dsimp only;omega⟩
  rintro⟨t,x⟩ ⟨g1,g2,g3⟩;dsimp only at g1 g2 g3 ⊢;refine Ok.ite (λ_=>?_) λhz=>?_
  ·exact(leaf (n+1) x).ok ⟨by omega,by omega⟩ φ λe s g1 g2 g3=>hk e s g1 (by omega) (by omega)
  have g1:=g1 (by simpa using hz);refine Ok.call (uI x _) ⟨by decide,by omega,by omega,by decide⟩ λy3 s3 _ _ e3=>?_;have hl:∀(k:Nat) (i:Int) (o:List zI) (x1:zO),Tot (mR ae lv i o x1) ((2 - i<=k/\0<=i/\i<=2/\k<=2/\(o.length:Int)=i/\0<=x1.p/\x1.p+k*PN n<=800000000)/\∀x∈o,SE n x) (λφ=>∀a s,a.length<=10->(∀x∈a,SE n x)->x1.p<=s.p->s.p<=x1.p+k*PN n->φ (a,s)):=by
   intro k
   induction k with
   | zero=>intro i o x1;refine⟨?_⟩;rintro⟨⟨a1,a2,a3,a4,a5,a6,a7⟩,a8⟩ φ hk;unfold mR;dsimp only [same];exact Ok.ite_dec (λh=>absurd h (by omega)) λ_=>Ok.pure (hk _ _ (by omega) a8 (by omega) (by omega))
   | succ k ik=>
    intro i o x1;refine⟨?_⟩;rintro⟨⟨a1,a2,a3,a4,a5,a6,a7⟩,a8⟩ φ hk;unfold mR;dsimp only [same];have e1:((k+1:Nat):Int)*PN n=k*PN n+PN n:=by rw[Int.natCast_add,Int.add_mul];simp
    rw[e1] at a7 hk;have hkn:0<=(k:Int)*PN n:=Int.mul_nonneg (by omega) (by omega);refine Ok.ite_dec (λh=>?_) λ_=>Ok.pure (hk _ _ (by omega) a8 (by omega) (by omega));rw[rA (by omega) (by omega)];refine Ok.call (ih x1 _) ⟨by omega,by omega,by omega,by omega,by omega⟩ λe s g1 g2 g3=>Ok.app S ?_;rw[rA (by omega) (by omega)];exact Ok.last (ik _ _ s) ⟨⟨by omega,by omega,by omega,by omega,by simp;omega,by omega,by omega⟩,zCr a8 g1⟩ λa u h1 h2 h3 h4=>hk a u h1 h2 (by omega) (by omega)
  refine Ok.call (hl 2 0 [] s3) ⟨⟨by omega,by omega,by omega,by omega,rfl,by omega,by omega⟩,λ_ h=>absurd h dd⟩ λa u h1 h2 h3 h4=>by
   dsimp only;exact Ok.pure (hk _ u (SE.kids h1 h2) (by omega) (by omega))
instance zLY(r:zO)(ae lv:Int):Tot (oM r ae lv) (0<=r.p/\r.p<=700000000/\0<=ae/\ae<=4/\0<=lv/\lv<=6) (λφ=>∀e s,SE 5 e->r.p<=s.p->s.p<=r.p+5000->φ (e,s)):=⟨λ⟨h0,h1,h2,h3,h4,h5⟩ φ hk=>by
 have hp:PN 5=3150:=rfl
 exact(zLX ae h2 h3 5 r lv).ok ⟨by omega,h4,by omega,h0,by omega⟩ φ λe s g1 g2 g3=>hk e s g1 g2 (by omega)⟩
instance zMW(r:zO)(ae:Int):Tot (zAM r ae) (0<=r.p/\r.p<=600000000/\0<=ae/\ae<=4) (λφ=>∀a s,SS a->r.p<=s.p->s.p<=r.p+6000->φ (a,s)):=⟨by
 rintro⟨h0,h1,h2,h3⟩ φ hk
 unfold zAM
 refine Ok.call (zJF r ae) ⟨h0,by omega,h2,h3⟩ λa s g1 g2 g3=>?_
 refine Ok.call (uI s _) ⟨by decide,by omega,by omega,by decide⟩ λy3 s3 g4 _ e3=>?_
 simp only[cz,dd,or_false] at g4
 refine Ok.call (zLY s3 ae y3) ⟨by omega,by omega,h2,h3,by omega,by omega⟩ λe u g5 g6 g7=>?_
 have hs:SS (zP.mk a e):=⟨g1,g5⟩
 refine Ok.call (zEc _ ae) hs λb _=>Ok.ite (λ_=>Ok.pure (hk _ _ hs (by omega) (by omega))) λ_=>Ok.call zAf trivial (Ok.pure (hk _ _ ⟨⟨by decide,by decide,λ_ h=>cD.1 h ▸ SA.c4 (by decide)⟩,SE.lf SA.nil0 SC.nil⟩ (by omega) (by omega)))⟩
theorem zJG(z:List Int)(h0:z.length<=4):∀(k:Nat) (o:List zE) (i:Int),Tot (oN z o i) ((z.length:Int) - i<(k:Int)/\0<(k:Int)/\0<=i/\(o.length:Int)=i/\i<=4/\(∀x∈o,SL1 x)) (λφ=>(∀o,SN 1000 o->φ (.done o))/\(φ (.ret ([],false)))):=by
 intro k
 induction k with
 | zero=>intro o i;exact⟨λh=>absurd h.2.1 (by omega)⟩
 | succ k ih=>
  intro o i;refine⟨?_⟩;rintro⟨v0,v1,v2,v3,v4,v5⟩ φ ⟨hd,hr⟩;unfold oN;refine Ok.ite_dec (λh=>?_) λ_=>Ok.go;refine Ok.bind (φ:=λb=>b=false->∀x,z[i.toNat]?=some x->0<=x/\x<=99) ?_ ?_
  ·refine Ok.idx v2 h λx _ hx=>Ok.ite_dec (λ_=>Ok.pure λh=>by cases h) λg=>Ok.idx_known hx v2 (Ok.pure λhb y hy=>?_);rw[hx] at hy;cases hy
   have:=of_decide_eq_false hb;omega
  intro b hb;refine Ok.ite (λ_=>Ok.pure hr) λhz=>Ok.call zAf trivial (Ok.idx v2 h λx _ hx=>Ok.call (gD x) trivial (Ok.app S ?_));obtain⟨b1,b2⟩:=hb (by simpa using hz) x hx;have hx:SL1 (zE.mk [zA.mk [0,0,0,0] 0] [zA.mk [0,0,0,0] x]):=⟨LL.one (SA.c4 (by decide)),LL.one (SA.c4 ⟨by omega,by omega⟩)⟩;exact Ok.go
instance zO4(z:List Int)(o:List zE)(i:Int):Tot (oN z o i) (z.length<=4/\0<=i/\(o.length:Int)=i/\i<=4/\(∀x∈o,SL1 x)) (λφ=>(∀o,SN 1000 o->φ (.done o))/\(φ (.ret ([],false)))):=⟨by
 rintro⟨h0,v0,v1,v2,v3⟩ φ hk
 exact(zJG z h0 (((z.length:Int) - i).toNat+1) o i).ok ⟨by omega,by omega,v0,v1,v2,v3⟩ φ hk⟩
instance zLZ(z:List Int):Tot (dO z) (True) (λφ=>∀o b,SN 1000 o->φ (o,b)):=⟨by
 rintro _ φ hk
 unfold dO
 exact Ok.go⟩
theorem SP.one{y:List zE}{a:zP}(h:SN 1000 y)(ha:SS a):SP 1000 (zQ.mk y [a]):=⟨h,cC rfl,λ_ h=>cD.1 h ▸ ha⟩
theorem zJp(y:List zE)(h0:SN 1000 y)(h1:y.length<=4):∀(k:Nat) (o:List zP) (n:Int) (r:zO),Tot (nY y o n r) (5 - n<(k:Int)/\0<(k:Int)/\0<=n/\n<=5/\o.length<=100/\(∀x∈o,SS x)/\0<=r.p/\r.p+6000*(5 - n)<=500000000) (λφ=>∀a s,a.length<=o.length+1->(∀x∈a,SS x)->r.p<=s.p->s.p<=r.p+6000*(5 - n)->φ (a,s)):=by
 intro k
 induction k with
 | zero=>intro o n r;exact⟨λh=>absurd h.2.1 (by omega)⟩
 | succ k ih=>
  intro o n r;refine⟨?_⟩;rintro⟨v0,v1,v2,v3,v4,v5,v6,v7⟩ φ hk;unfold nY;refine Ok.ite_dec (λh=>?_) λ_=>Ok.go;refine Ok.call (zMW r _) ⟨by omega,by omega,by omega,by omega⟩ λa s g1 g2 g3=>Ok.call zCs trivial λl hl=>?_;refine Ok.call (zIw l _) ⟨hl,SP.one h0 g1⟩ λm b _=>?_;dsimp only;exact Ok.go
instance zPK(y:List zE)(o:List zP)(n:Int)(r:zO):Tot (nY y o n r) (SN 1000 y/\y.length<=4/\0<=n/\n<=5/\o.length<=100/\(∀x∈o,SS x)/\0<=r.p/\r.p+6000*(5 - n)<=500000000) (λφ=>∀a s,a.length<=o.length+1->(∀x∈a,SS x)->r.p<=s.p->s.p<=r.p+6000*(5 - n)->φ (a,s)):=⟨by
 rintro⟨h0,h1,v0,v1,v2,v3,v4,v5⟩ φ hk
 exact(zJp y h0 h1 ((5 - n).toNat+1) o n r).ok ⟨by omega,by omega,v0,v1,v2,v3,v4,v5⟩ φ hk⟩
theorem zJq(y:List zE)(h0:SN 1000 y)(h1:y.length<=4):∀(k:Nat) (k0:Int) (o:List zP) (r:zO),Tot (mA y k0 o r) (k0<(k:Int)/\0<(k:Int)/\0<=k0/\(o.length:Int)+k0<=10/\(∀x∈o,SS x)/\0<=r.p/\r.p+30000*k0<=400000000) (λφ=>∀a s,a.length<=100->(∀x∈a,SS x)->r.p<=s.p->s.p<=r.p+30000*k0->φ (a,s)):=by
 intro k
 induction k with
 | zero=>intro k0 o r;exact⟨λh=>absurd h.2.1 (by omega)⟩
 | succ k ih=>
  intro k0 o r;refine⟨?_⟩;rintro⟨v0,v1,v2,v3,v4,v5,v6⟩ φ hk;unfold mA;exact Ok.go
instance zJr(y:List zE)(k0:Int)(o:List zP)(r:zO):Tot (mA y k0 o r) (SN 1000 y/\y.length<=4/\0<=k0/\(o.length:Int)+k0<=10/\(∀x∈o,SS x)/\0<=r.p/\r.p+30000*k0<=400000000) (λφ=>∀a s,a.length<=100->(∀x∈a,SS x)->r.p<=s.p->s.p<=r.p+30000*k0->φ (a,s)):=⟨by
 rintro⟨h0,h1,v0,v1,v2,v3,v4⟩ φ hk
 exact(zJq y h0 h1 ((k0).toNat+1) k0 o r).ok ⟨by omega,by omega,v0,v1,v2,v3,v4⟩ φ hk⟩
theorem zJs(x:zQ):∀(k:Nat) (i:Int) (r:zO),Tot (mB x i r) (4 - i<(k:Int)/\0<(k:Int)/\0<=i/\i<=4/\0<=r.p/\r.p+100000*(4 - i)<=300000000) (λφ=>(∀s,r.p<=s.p->s.p<=r.p+100000*(4 - i)->φ (.done (x,s)))/\(∀a s,SP 1000 a->r.p<=s.p->s.p<=r.p+100000*(4 - i)->φ (.ret (a,s)))):=by
 intro k
 induction k with
 | zero=>intro i r;exact⟨λh=>absurd h.2.1 (by omega)⟩
 | succ k ih=>
  intro i r;refine⟨?_⟩;rintro⟨v0,v1,v2,v3,v4,v5⟩ φ ⟨hd,hr⟩;unfold mB;refine Ok.ite_dec (λh=>?_) λ_=>Ok.go;refine Ok.call (zMU r) ⟨v4,by omega⟩ λy s g1 g2 g3 g4=>?_;refine Ok.call (uI s _) ⟨by decide,by omega,by omega,by decide⟩ λn t g5 _ e3=>?_;simp only[cz,dd,or_false] at g5;refine Ok.call (zJr y n [] t) ⟨g1,g2,by omega,by simp;omega,λ_ h=>absurd h dd,by omega,by omega⟩ λb u g6 g7 g8 g9=>Ok.call zCs trivial λl hl=>?_;have hs:SP 1000 (zQ.mk y b):=⟨g1,cX g6 (by decide),g7⟩;refine Ok.call (zIw l _) ⟨hl,hs⟩ λm c _=>?_;dsimp only;refine Ok.bind (φ:=λ_=>True) Ok.go λz _=>Ok.ite (λ_=>Ok.pure (hr _ _ hs (by omega) (by omega))) λ_=>?_;rw[rA (by omega) (by omega)];exact Ok.last (ih _ u) ⟨by omega,by omega,by omega,by omega,by omega,by omega⟩ ⟨λs h1 h2=>hd s (by omega) (by omega),λa s h0 h1 h2=>hr a s h0 (by omega) (by omega)⟩
instance zJt(x:zQ)(i:Int)(r:zO):Tot (mB x i r) (0<=i/\i<=4/\0<=r.p/\r.p+100000*(4 - i)<=300000000) (λφ=>(∀s,r.p<=s.p->s.p<=r.p+100000*(4 - i)->φ (.done (x,s)))/\(∀a s,SP 1000 a->r.p<=s.p->s.p<=r.p+100000*(4 - i)->φ (.ret (a,s)))):=⟨by
 rintro⟨v0,v1,v2,v3⟩ φ hk
 exact(zJs x ((4 - i).toNat+1) i r).ok ⟨by omega,by omega,v0,v1,v2,v3⟩ φ hk⟩
instance zQ5(r:zO):Tot (zAN r) (0<=r.p/\r.p<=200000000) (λφ=>∀a s,SP 1000 a->r.p<=s.p->s.p<=r.p+400000->φ (a,s)):=⟨by
 rintro⟨h0,h1⟩ φ hk
 unfold zAN
 refine Ok.call (zJt _ 0 r) ⟨by decide,by decide,h0,by omega⟩ ⟨λs g1 g2=>?_,λa s g1 g2 g3=>Ok.pure (hk _ _ g1 (by omega) (by omega))⟩
 refine Ok.call (zEd _) (by decide) λa b g3=>Ok.call (zLZ _) trivial λn c g4=>Ok.pure (hk _ _ (SP.one g4 g3) (by omega) (by omega))⟩
theorem zJu :∀(k:Nat) (i:Int) (o:List zQ) (r:zO),Tot (mC i o r) (i<(k:Int)/\0<(k:Int)/\0<=i/\(o.length:Int)+i<=10/\(∀x∈o,SP 1000 x)/\0<=r.p/\r.p+400000*i<=100000000) (λφ=>∀a s,(a.length:Int)=o.length+i->(∀x∈a,SP 1000 x)->r.p<=s.p->s.p<=r.p+400000*i->φ (a,s)):=by
 intro k
 induction k with
 | zero=>intro i o r;exact⟨λh=>absurd h.2.1 (by omega)⟩
 | succ k ih=>
  intro i o r;refine⟨?_⟩;rintro⟨v0,v1,v2,v3,v4,v5,v6⟩ φ hk;unfold mC;exact Ok.go
instance zJv  (i:Int) (o:List zQ) (r:zO):Tot (mC i o r) (0<=i/\(o.length:Int)+i<=10/\(∀x∈o,SP 1000 x)/\0<=r.p/\r.p+400000*i<=100000000) (λφ=>∀a s,(a.length:Int)=o.length+i->(∀x∈a,SP 1000 x)->r.p<=s.p->s.p<=r.p+400000*i->φ (a,s)):=⟨by
 rintro⟨v0,v1,v2,v3,v4⟩ φ hk
 exact(zJu ((i).toNat+1) i o r).ok ⟨by omega,by omega,v0,v1,v2,v3,v4⟩ φ hk⟩
instance zJH(r:zO):Tot (eJ r) (0<=r.p/\r.p<=50000000) (λφ=>∀a s,SG 1000 a->r.p<=s.p->s.p<=r.p+2000000->φ (a,s)):=⟨by
 rintro⟨h0,h1⟩ φ hk
 unfold eJ
 refine Ok.call zCs trivial λl hl=>Ok.call (uI r _) ⟨by decide,h0,by omega,by decide⟩ λn t g5 _ e3=>?_
 simp only[cz,dd,or_false] at g5
 refine Ok.call (zJv n [] t) ⟨by omega,by simp;omega,λ_ h=>absurd h dd,by omega,by omega⟩ λa s g1 g2 g3 g4=>?_
 simp only[cK] at g1
 have hp:SG 1000 (zC.mk l a):=⟨hl,by dsimp only;omega,g2⟩
 refine Ok.call (zC6 _) hp λb _=>Ok.ite (λ_=>Ok.pure (hk _ _ hp (by omega) (by omega))) λ_=>Ok.call zCs trivial λl2 hl2=>?_
 refine Ok.slc (by omega) (by omega) (by omega) λm hm hml=>Ok.pure (hk _ _ ⟨hl2,by dsimp only;omega,λx hx=>g2 x ?_⟩ (by omega) (by omega))
 subst hm
 exact List.mem_of_mem_take (List.mem_of_mem_drop hx)⟩
instance zMX(r:zO):Tot (zAO r) (0<=r.p/\r.p<=40000000) (λφ=>∀a s,SG 1000 a->r.p<=s.p->s.p<=r.p+3000000->φ (a,s)):=⟨by
 rintro⟨h0,h1⟩ φ hk
 unfold zAO
 refine Ok.call (zA8 r _) ⟨by decide,h0,by omega⟩ λy s g1 g2=>?_
 have hy:y.l.length<=1000:=by
  revert g1 y
  decide
 refine Ok.cat (by simp;omega) λt _ ht=>?_
 simp only[cy,cK] at ht
 refine Ok.call (zC7 t) (by omega) λp b hp=>?_
 refine Ok.bind (φ:=λo=>r.p<=o.2.p/\o.2.p<=r.p+2) ?_ ?_
 ·exact Ok.ite (λ_=>Ok.call (dV s 3) ⟨by omega,by omega⟩ λy u k1 k2 k3=>Ok.pure ⟨by dsimp only;omega,by dsimp only;omega⟩) λ_=>Ok.pure ⟨by dsimp only;omega,by dsimp only;omega⟩
 rintro⟨z,u⟩ ⟨g3,g4⟩
 dsimp only at g3 g4 ⊢
 refine Ok.ite (λ_=>Ok.pure (hk _ _ hp g3 (by omega))) λ_=>Ok.call (zJH u) ⟨by omega,by omega⟩ λa v g5 g6 g7=>Ok.pure (hk _ v g5 (by omega) (by omega))⟩
instance zH4(code:List UInt8):Tot (fE code) (True) (λφ=>∀s,s.p=0->φ s):=⟨by
 rintro _ φ hk
 unfold fE
 exact Ok.go⟩
end Go.LN
