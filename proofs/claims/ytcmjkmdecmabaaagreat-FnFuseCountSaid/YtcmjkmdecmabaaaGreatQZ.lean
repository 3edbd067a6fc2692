/- Helper of the proof (see the last text). -/
import Derived.Test.YtcmjkmdecmabaaaGreatQT
import Derived.Test.YtcmjkmdecmabaaaGreatHM9
set_option linter.unusedVariables false
set_option linter.unusedSimpArgs false
namespace Go.LN
def I64(x:Int):Prop:=-9223372036854775808<=x/\x<=9223372036854775807
instance (x:Int):Decidable (I64 x):=inferInstanceAs (Decidable (_/\_))
theorem zLx(x:Int):I64 (W x):=by
 show -9223372036854775808<=IntKind.i64.wrap x/\IntKind.i64.wrap x<=9223372036854775807;rw[IntKind.wrap_i64];omega
instance (x:Int):Sd (I64 (W x)):=⟨zLx x⟩
theorem I64.of{x:Int}(h0:-9223372036854775808<=x)(h1:x<=9223372036854775807):I64 x:=⟨h0,h1⟩
def SA(a:zA):Prop:=a.Coefs.length<=100/\I64 a.Const
def VA(a:zA):Prop:=a.Coefs.length=4/\(∀c∈a.Coefs,I64 c)/\I64 a.Const
def SC(a:zM):Prop:=a.Array.l.length<=1000000/\a.Subs.length<=100/\∀s∈a.Subs,SA s
def VC(a:zM):Prop:=a.Array.l.length<=1/\a.Subs.length<=2/\∀s∈a.Subs,VA s
def SE:Nat->zH->Prop
 | 0,e=>SA e.Index/\SC e.Read/\e.Kids=[]
 | n+1,e=>SA e.Index/\SC e.Read/\e.Kids.length<=10/\∀k∈e.Kids,SE n k
def VO(e:zH):Prop:=(e.Kind=1/\I64 e.Num)∨(e.Kind=2/\VA e.Index)∨(e.Kind=3/\VC e.Read)
def VE:Nat->zH->Prop
 | 0,e=>VO e
 | n+1,e=>VO e∨((e.Kind=4∨e.Kind=5∨e.Kind=6)/\e.Kids.length=2/\∀k∈e.Kids,VE n k)
def SS(s:zI):Prop:=SC s.Write/\SE 5 s.Value
def VS(s:zI):Prop:=VC s.Write/\VE 5 s.Value
def LL(l:List zA):Prop:=l.length<=100/\∀a∈l,SA a
def VL(l:List zA):Prop:=1<=l.length/\l.length<=2/\∀a∈l,VA a
def SL1(x:zG):Prop:=LL x.Lo/\LL x.Hi
def VL1(x:zG):Prop:=VL x.Lo/\VL x.Hi
def SN(b:Nat)(l:List zG):Prop:=l.length<=b/\∀x∈l,SL1 x
def VN(l:List zG):Prop:=l.length<=4/\∀x∈l,VL1 x
def SP(b:Nat)(p:zF):Prop:=SN b p.Nest/\p.Body.length<=b/\∀s∈p.Body,SS s
def VP(p:zF):Prop:=VN p.Nest/\p.Body.length<=4/\∀s∈p.Body,VS s
def SR(a:zD):Prop:=a.Name.l.length<=1000000/\a.Dims.length<=100
def VR(a:zD):Prop:=a.Name.l.length=1/\a.Dims.length<=2/\∀d∈a.Dims,I64 d
def SRs(b:Nat)(l:List zD):Prop:=l.length<=b/\∀a∈l,SR a
def VRs(l:List zD):Prop:=l.length<=4/\∀a∈l,VR a
def SG(b:Nat)(p:zC):Prop:=SRs b p.Arrays/\p.Parts.length<=b/\∀q∈p.Parts,SP b q
def VG(p:zC):Prop:=VRs p.Arrays/\p.Parts.length<=4/\∀q∈p.Parts,VP q
instance (a:zA):Su (SA a) (a.Coefs.length<=100/\I64 a.Const):=⟨id⟩
instance (a:zA):Su (VA a) (a.Coefs.length=4/\(∀c∈a.Coefs,I64 c)/\I64 a.Const):=⟨id⟩
instance (a:zM):Su (SC a) (a.Array.l.length<=1000000/\a.Subs.length<=100/\∀s∈a.Subs,SA s):=⟨id⟩
instance (a:zM):Su (VC a) (a.Array.l.length<=1/\a.Subs.length<=2/\∀s∈a.Subs,VA s):=⟨id⟩
instance (s:zI):Su (SS s) (SC s.Write/\SE 5 s.Value):=⟨id⟩
instance (s:zI):Su (VS s) (VC s.Write/\VE 5 s.Value):=⟨id⟩
instance (l:List zA):Su (LL l) (l.length<=100/\∀a∈l,SA a):=⟨id⟩
instance (l:List zA):Su (VL l) (1<=l.length/\l.length<=2/\∀a∈l,VA a):=⟨id⟩
instance (x:zG):Su (SL1 x) (LL x.Lo/\LL x.Hi):=⟨id⟩
instance (x:zG):Su (VL1 x) (VL x.Lo/\VL x.Hi):=⟨id⟩
instance (b:Nat) (l:List zG):Su (SN b l) (l.length<=b/\∀x∈l,SL1 x):=⟨id⟩
instance (l:List zG):Su (VN l) (l.length<=4/\∀x∈l,VL1 x):=⟨id⟩
instance (b:Nat) (p:zF):Su (SP b p) (SN b p.Nest/\p.Body.length<=b/\∀s∈p.Body,SS s):=⟨id⟩
instance (p:zF):Su (VP p) (VN p.Nest/\p.Body.length<=4/\∀s∈p.Body,VS s):=⟨id⟩
instance (a:zD):Su (SR a) (a.Name.l.length<=1000000/\a.Dims.length<=100):=⟨id⟩
instance (a:zD):Su (VR a) (a.Name.l.length=1/\a.Dims.length<=2/\∀d∈a.Dims,I64 d):=⟨id⟩
instance (b:Nat) (l:List zD):Su (SRs b l) (l.length<=b/\∀a∈l,SR a):=⟨id⟩
instance (l:List zD):Su (VRs l) (l.length<=4/\∀a∈l,VR a):=⟨id⟩
instance (b:Nat) (p:zC):Su (SG b p) (SRs b p.Arrays/\p.Parts.length<=b/\∀q∈p.Parts,SP b q):=⟨id⟩
instance (p:zC):Su (VG p) (VRs p.Arrays/\p.Parts.length<=4/\∀q∈p.Parts,VP q):=⟨id⟩
instance (x:Int):Su (I64 x) (-9223372036854775808<=x/\x<=9223372036854775807):=⟨id⟩
instance (x:zG):Sw (LL x.Lo) (SL1 x):=⟨And.left⟩
instance (x:zG):Sw (LL x.Hi) (SL1 x):=⟨And.right⟩
instance (s:zI):Sw (SC s.Write) (SS s):=⟨And.left⟩
instance (s:zI):Sw (SE 5 s.Value) (SS s):=⟨And.right⟩
theorem SE.parts:∀{n:Nat}{e:zH},SE n e->SA e.Index/\SC e.Read/\e.Kids.length<=10
 | 0,e,h=>⟨h.1,h.2.1,by rw[h.2.2];simp⟩
 | n+1,e,h=>⟨h.1,h.2.1,h.2.2.1⟩
theorem SE.succ:∀{n:Nat}{e:zH},SE n e->SE (n+1) e
 | 0,e,h=>⟨h.1,h.2.1,by rw[h.2.2];simp,by rw[h.2.2];simp⟩
 | n+1,e,h=>⟨h.1,h.2.1,h.2.2.1,λk hk=>(h.2.2.2 k hk).succ⟩
theorem SE.leaf{e:zH}(h1:SA e.Index)(h2:SC e.Read)(h3:e.Kids=[]):∀{n:Nat},SE n e
 | 0=>⟨h1,h2,h3⟩
 | n+1=>⟨h1,h2,by rw[h3];simp,by rw[h3];simp⟩
theorem SA.nil{c:Int}(h:I64 c):SA (zA.mk [] c):=⟨by simp,h⟩
theorem SA.nil0:SA (zA.mk [] 0):=⟨by simp,by simp[I64]⟩
theorem SC.nil:SC (zM.mk ⟨[]⟩ []):=by simp[SC]
instance:Sd (SA (zA.mk [] 0)):=⟨SA.nil0⟩
instance:Sd (SC (zM.mk ⟨[]⟩ [])):=⟨SC.nil⟩
theorem zHo(x:zD)(h0:SR x):∀(k:Nat) (i:Int),Tot (uU x i) ((x.Dims.length:Int) - i<(k:Int)/\0<(k:Int)/\0<=i) (λφ=>(AF x.Dims i I64->φ (.done ()))/\(φ (.ret false))):=by
 have h0:=h0.2;intro k
 induction k with
 | zero=>intro i;exact⟨λh=>absurd h.2.1 (by omega)⟩
 | succ k ih=>
  intro i;refine⟨?_⟩;rintro⟨v0,v1,v2⟩ φ ⟨hd,hr⟩;unfold uU;exact Ok.go
instance zMg(x:zD)(i:Int):Tot (uU x i) (SR x/\0<=i) (λφ=>(AF x.Dims i I64->φ (.done ()))/\(φ (.ret false))):=⟨by
 rintro⟨h0,v0⟩ φ hk
 exact(zHo x h0 (((x.Dims.length:Int) - i).toNat+1) i).ok ⟨by omega,by omega,v0⟩ φ hk⟩
theorem zHp(l:List zD)(h0:SRs 1000 l):∀(k:Nat) (i:Int),Tot (tT l i) ((l.length:Int) - i<(k:Int)/\0<(k:Int)/\0<=i) (λφ=>(AF l i VR->φ (.done ()))/\(φ (.ret false))):=by
 obtain⟨h00,h01⟩:=h0;intro k
 induction k with
 | zero=>intro i;exact⟨λh=>absurd h.2.1 (by omega)⟩
 | succ k ih=>
  intro i;refine⟨?_⟩;rintro⟨v0,v1,v2⟩ φ ⟨hd,hr⟩;unfold tT;exact Ok.go
instance zMh(l:List zD)(i:Int):Tot (tT l i) (SRs 1000 l/\0<=i) (λφ=>(AF l i VR->φ (.done ()))/\(φ (.ret false))):=⟨by
 rintro⟨h0,v0⟩ φ hk
 exact(zHp l h0 (((l.length:Int) - i).toNat+1) i).ok ⟨by omega,by omega,v0⟩ φ hk⟩
instance zOM(l:List zD):Tot (kY l) (SRs 1000 l) (λφ=>∀r,(r=true->VRs l)->φ r):=⟨by
 rintro h0 φ hk
 unfold kY
 exact Ok.go⟩
instance zMZ(a:zA):Tot (rS a) (SA a) (λφ=>∀r,SA r->r.Coefs.length=a.Coefs.length->φ r):=⟨by
 rintro h0 φ hk
 obtain⟨h00,h01⟩:=h0
 unfold rS
 exact Ok.go⟩
theorem zEi(a:zM)(h0:SC a):∀(k:Nat) (i:Int) (Subs:List zA),Tot (vK a i Subs) ((a.Subs.length:Int) - i<(k:Int)/\0<(k:Int)/\0<=i/\(Subs.length:Int)=i/\i<=a.Subs.length/\(∀s∈Subs,SA s)) (λφ=>∀r,r.length<=100->(∀s∈r,SA s)->φ r):=by
 obtain⟨h01,h02,h03⟩:=h0;intro k
 induction k with
 | zero=>intro i Subs;exact⟨λh=>absurd h.2.1 (by omega)⟩
 | succ k ih=>
  intro i Subs;refine⟨?_⟩;rintro⟨v0,v1,v2,v3,v4,v5⟩ φ hk;unfold vK;exact Ok.go
instance zLN(a:zM)(i:Int)(Subs:List zA):Tot (vK a i Subs) (SC a/\0<=i/\(Subs.length:Int)=i/\i<=a.Subs.length/\(∀s∈Subs,SA s)) (λφ=>∀r,r.length<=100->(∀s∈r,SA s)->φ r):=⟨by
 rintro⟨h0,v0,v1,v2,v3⟩ φ hk
 exact(zEi a h0 (((a.Subs.length:Int) - i).toNat+1) i Subs).ok ⟨by omega,by omega,v0,v1,v2,v3⟩ φ hk⟩
instance zM0(a:zM):Tot (tZ a) (SC a) (λφ=>∀r,SC r->φ r):=⟨by
 rintro h0 φ hk
 have h00:=h0.1
 unfold tZ
 exact Ok.go⟩
def RN:Nat->Nat
 | 0=>1
 | n+1=>10*RN n+1
theorem zK8:∀(n:Nat) (out:List zM) (e:zH),Tot (qI out e) (SE n e/\out.length+RN n<=10000000/\∀s∈out,SC s) (λφ=>∀r,r.length<=out.length+RN n->(∀s∈r,SC s)->φ r):=by
 intro n
 induction n with
 | zero=>
  intro out e;refine⟨?_⟩;rintro⟨⟨h1,h2,h3⟩,ho,hs⟩ φ hk;unfold qI;dsimp only [same];simp only[RN] at ho hk;have hl:∀o:List zM,Tot (vV e o 0) True (λφ=>φ o):=by
   intro o;refine⟨?_⟩;rintro - φ hk;unfold vV;rw[h3];exact Ok.pure hk
  exact Ok.go
 | succ n ih=>
  intro out e;refine⟨?_⟩;rintro⟨⟨h1,h2,h3,h4⟩,ho,hs⟩ φ hk;unfold qI;dsimp only [same];simp only[RN] at ho hk;have hl:∀(k:Nat) (i:Int) (o:List zM),Tot (vV e o i) (((e.Kids.length:Int) - i<=k/\0<=i/\k<=10)/\o.length+k*RN n<=10000000/\∀s∈o,SC s) (λφ=>∀r,r.length<=o.length+k*RN n->(∀s∈r,SC s)->φ r):=by
   intro k
   induction k with
   | zero=>
    intro i o;refine⟨?_⟩;rintro⟨⟨a1,a2,a3⟩,a4,a5⟩ φ hk;unfold vV;dsimp only [same];exact Ok.go
   | succ k ik=>
    intro i o;refine⟨?_⟩;rintro⟨⟨a1,a2,a3⟩,a4,a5⟩ φ hk;unfold vV;dsimp only [same];have e1:(k+1)*RN n=k*RN n+RN n:=by rw[ed,Nat.one_mul]
    rw[e1] at a4 hk;exact Ok.go
  have hl:=hl 10 0;exact Ok.go
instance zOj(e:zH):Tot (qI [] e) (SE 5 e) (λφ=>∀r,r.length<=111111->(∀s∈r,SC s)->φ r):=⟨λh φ hk=>(zK8 5 [] e).ok ⟨h,by decide,S⟩ φ λr h1 h2=>hk r (by simp[RN] at h1;omega) h2⟩
theorem zJH(a:zD)(h0:SR a):∀(k:Nat) (n:Int) (i:Int),Tot (rM a n i) ((a.Dims.length:Int) - i<(k:Int)/\0<(k:Int)/\0<=i) (λφ=>∀r,φ r):=by
 have h0:=h0.2;intro k
 induction k with
 | zero=>intro n i;exact⟨λh=>absurd h.2.1 (by omega)⟩
 | succ k ih=>
  intro n i;refine⟨?_⟩;rintro⟨v0,v1,v2⟩ φ hk;unfold rM;exact Ok.go
instance zNf(a:zD)(n:Int)(i:Int):Tot (rM a n i) (SR a/\0<=i) (λφ=>∀r,φ r):=⟨by
 rintro⟨h0,v0⟩ φ hk
 exact(zJH a h0 (((a.Dims.length:Int) - i).toNat+1) n i).ok ⟨by omega,by omega,v0⟩ φ hk⟩
instance zPM(a:zD):Tot (fE a) (SR a) (λφ=>∀r,φ r):=⟨by
 rintro h0 φ hk
 unfold fE
 exact Ok.go⟩
theorem zJI(a:zA)(ah:List Int)(h0:SA a):∀(k:Nat) (n:Int) (i:Int),Tot (rK a ah n i) ((a.Coefs.length:Int) - i<(k:Int)/\0<(k:Int)/\I64 n/\0<=i) (λφ=>∀r,I64 r->φ r):=by
 have h0:=h0.1;intro k
 induction k with
 | zero=>intro n i;exact⟨λh=>absurd h.2.1 (by omega)⟩
 | succ k ih=>
  intro n i;refine⟨?_⟩;rintro⟨v0,v1,v2,v3⟩ φ hk;unfold rK;exact Ok.go
instance zNg(a:zA)(ah:List Int)(n:Int)(i:Int):Tot (rK a ah n i) (SA a/\I64 n/\0<=i) (λφ=>∀r,I64 r->φ r):=⟨by
 rintro⟨h0,v0,v1⟩ φ hk
 exact(zJI a ah h0 (((a.Coefs.length:Int) - i).toNat+1) n i).ok ⟨by omega,by omega,v0,v1⟩ φ hk⟩
instance zPN(a:zA)(ah:List Int):Tot (pT a ah) (SA a) (λφ=>∀r,I64 r->φ r):=⟨by
 rintro h0 φ hk
 have h1:=h0.2
 unfold pT
 exact Ok.go⟩
theorem zJJ(list:List zD)(a:zM)(ah:List Int)(i:Int)(h0:SC a)(h1:0<=i)(h2:i<(list.length:Int)):∀(k:Nat) (n:Int) (k0:Int),Tot (sG list a ah i n k0) ((a.Subs.length:Int) - k0<(k:Int)/\0<(k:Int)/\0<=k0) (λφ=>(∀r,φ (.done r))/\(∀r,φ (.ret r))):=by
 obtain⟨h01,h02,h03⟩:=h0;intro k
 induction k with
 | zero=>intro n k0;exact⟨λh=>absurd h.2.1 (by omega)⟩
 | succ k ih=>
  intro n k0;refine⟨?_⟩;rintro⟨v0,v1,v2⟩ φ ⟨hd,hr⟩;unfold sG;exact Ok.go
instance zNh(list:List zD)(a:zM)(ah:List Int)(i:Int)(n:Int)(k0:Int):Tot (sG list a ah i n k0) (SC a/\0<=i/\i<(list.length:Int)/\0<=k0) (λφ=>(∀r,φ (.done r))/\(∀r,φ (.ret r))):=⟨by
 rintro⟨h0,h1,h2,v0⟩ φ hk
 exact(zJJ list a ah i h0 h1 h2 (((a.Subs.length:Int) - k0).toNat+1) n k0).ok ⟨by omega,by omega,v0⟩ φ hk⟩
theorem zJK(list:List zD)(a:zM)(ah:List Int)(h0:SC a)(h1:SRs 1000 list):∀(k:Nat) (base:Int) (i:Int),Tot (sH list a ah base i) ((list.length:Int) - i<(k:Int)/\0<(k:Int)/\0<=i) (λφ=>(φ (.done ()))/\(∀r,φ (.ret r))):=by
 obtain⟨h10,h11⟩:=h1;intro k
 induction k with
 | zero=>intro base i;exact⟨λh=>absurd h.2.1 (by omega)⟩
 | succ k ih=>
  intro base i;refine⟨?_⟩;rintro⟨v0,v1,v2⟩ φ ⟨hd,hr⟩;unfold sH;exact Ok.go
instance zNi(list:List zD)(a:zM)(ah:List Int)(base:Int)(i:Int):Tot (sH list a ah base i) (SC a/\SRs 1000 list/\0<=i) (λφ=>(φ (.done ()))/\(∀r,φ (.ret r))):=⟨by
 rintro⟨h0,h1,v0⟩ φ hk
 exact(zJK list a ah h0 h1 (((list.length:Int) - i).toNat+1) base i).ok ⟨by omega,by omega,v0⟩ φ hk⟩
instance zPO(list:List zD)(a:zM)(ah:List Int):Tot (jM list a ah) (SC a/\SRs 1000 list) (λφ=>∀r,φ r):=⟨by
 rintro⟨h0,h1⟩ φ hk
 unfold jM
 exact Ok.go⟩
theorem zIh(list:List zD)(ah:List Int)(y:List zM)(h0:y.length<=111111)(h1:∀s∈y,SC s)(h2:SRs 1000 list):∀(k:Nat) (out:List Int) (i:Int),Tot (sU list ah y out i) ((y.length:Int) - i<(k:Int)/\0<(k:Int)/\0<=i/\(out.length:Int)=i/\i<=(y.length:Int)) (λφ=>(∀o,o.length<=111111->φ (.done o))/\(φ (.ret ([],0,false)))):=by
 intro k
 induction k with
 | zero=>intro out i;exact⟨λh=>absurd h.2.1 (by omega)⟩
 | succ k ih=>
  intro out i;refine⟨?_⟩;rintro⟨v0,v1,v2,v3,v4⟩ φ ⟨hd,hr⟩;unfold sU;exact Ok.go
instance zNR(list:List zD)(ah:List Int)(y:List zM)(out:List Int)(i:Int):Tot (sU list ah y out i) (y.length<=111111/\(∀s∈y,SC s)/\SRs 1000 list/\0<=i/\(out.length:Int)=i/\i<=(y.length:Int)) (λφ=>(∀o,o.length<=111111->φ (.done o))/\(φ (.ret ([],0,false)))):=⟨by
 rintro⟨h0,h1,h2,v0,v1,v2⟩ φ hk
 exact(zIh list ah y h0 h1 h2 (((y.length:Int) - i).toNat+1) out i).ok ⟨by omega,by omega,v0,v1,v2⟩ φ hk⟩
instance zOk(list:List zD)(s:zI)(ah:List Int):Tot (kL list s ah) (SS s/\SRs 1000 list) (λφ=>∀a b c,a.length<=111111->φ (a,b,c)):=⟨by
 rintro⟨h0,h1⟩ φ hk
 obtain⟨h00,h01⟩:=h0
 unfold kL
 exact Ok.go⟩
theorem zIi(loop:zG)(p2:List Int)(h0:LL loop.Lo):∀(k:Nat) (lo:Int) (i:Int),Tot (sS loop p2 lo i) ((loop.Lo.length:Int) - i<(k:Int)/\0<(k:Int)/\I64 lo/\0<=i) (λφ=>∀r,I64 r->φ r):=by
 obtain⟨h00,h01⟩:=h0;intro k
 induction k with
 | zero=>intro lo i;exact⟨λh=>absurd h.2.1 (by omega)⟩
 | succ k ih=>
  intro lo i;refine⟨?_⟩;rintro⟨v0,v1,v2,v3⟩ φ hk;unfold sS;exact Ok.go
instance zNS(loop:zG)(p2:List Int)(lo:Int)(i:Int):Tot (sS loop p2 lo i) (LL loop.Lo/\I64 lo/\0<=i) (λφ=>∀r,I64 r->φ r):=⟨by
 rintro⟨h0,v0,v1⟩ φ hk
 exact(zIi loop p2 h0 (((loop.Lo.length:Int) - i).toNat+1) lo i).ok ⟨by omega,by omega,v0,v1⟩ φ hk⟩
theorem zIj(loop:zG)(p2:List Int)(h0:LL loop.Hi):∀(k:Nat) (hi:Int) (i:Int),Tot (sT loop p2 hi i) ((loop.Hi.length:Int) - i<(k:Int)/\0<(k:Int)/\I64 hi/\0<=i) (λφ=>∀r,I64 r->φ r):=by
 obtain⟨h00,h01⟩:=h0;intro k
 induction k with
 | zero=>intro hi i;exact⟨λh=>absurd h.2.1 (by omega)⟩
 | succ k ih=>
  intro hi i;refine⟨?_⟩;rintro⟨v0,v1,v2,v3⟩ φ hk;unfold sT;exact Ok.go
instance zNT(loop:zG)(p2:List Int)(hi:Int)(i:Int):Tot (sT loop p2 hi i) (LL loop.Hi/\I64 hi/\0<=i) (λφ=>∀r,I64 r->φ r):=⟨by
 rintro⟨h0,v0,v1⟩ φ hk
 exact(zIj loop p2 h0 (((loop.Hi.length:Int) - i).toNat+1) hi i).ok ⟨by omega,by omega,v0,v1⟩ φ hk⟩
instance zHZ(loop:zG)(p2:List Int):Tot (kK loop p2) (SL1 loop/\1<=loop.Lo.length/\1<=loop.Hi.length) (λφ=>∀a b,I64 a->I64 b->φ (a,b)):=⟨by
 rintro⟨h0,h1,h2⟩ φ hk
 have h00:=h0;obtain⟨⟨h01,h02⟩,⟨h03,h04⟩⟩:=h0
 unfold kK
 exact Ok.go⟩
instance zON(n:Int)(most:Int):Tot (tF n most) (0<=most/\most<=1000000) (λφ=>∀r,(r=true->I64 n)->φ r):=⟨by
 rintro⟨h0,h1⟩ φ hk
 unfold tF
 exact Ok.go⟩
theorem zF7(a:zA)(h0:SA a):∀(k:Nat) (i:Int),Tot (vW a i) ((a.Coefs.length:Int) - i<(k:Int)/\0<(k:Int)/\0<=i) (λφ=>(AF a.Coefs i I64->φ (.done ()))/\(φ (.ret false))):=by
 have h01:=h0.1;intro k
 induction k with
 | zero=>intro i;exact⟨λh=>absurd h.2.1 (by omega)⟩
 | succ k ih=>
  intro i;refine⟨?_⟩;rintro⟨v0,v1,v2⟩ φ ⟨hd,hr⟩;unfold vW;exact Ok.go
instance zL0(a:zA)(i:Int):Tot (vW a i) (SA a/\0<=i) (λφ=>(AF a.Coefs i I64->φ (.done ()))/\(φ (.ret false))):=⟨by
 rintro⟨h0,v0⟩ φ hk
 exact(zF7 a h0 (((a.Coefs.length:Int) - i).toNat+1) i).ok ⟨by omega,by omega,v0⟩ φ hk⟩
instance zHq(a:zA):Tot (tR a) (SA a) (λφ=>∀r,(r=true->VA a)->φ r):=⟨by
 rintro h0 φ hk
 have h00:=h0.2
 unfold tR
 exact Ok.go⟩
theorem zIk(a:zA)(h0:SA a):∀(k:Nat) (n:Int) (i:Int),Tot (sR a n i) ((a.Coefs.length:Int) - i<(k:Int)/\0<(k:Int)/\0<=i) (λφ=>∀r,φ r):=by
 have h01:=h0.1;intro k
 induction k with
 | zero=>intro n i;exact⟨λh=>absurd h.2.1 (by omega)⟩
 | succ k ih=>
  intro n i;refine⟨?_⟩;rintro⟨v0,v1,v2⟩ φ hk;unfold sR;exact Ok.go
instance zNU(a:zA)(n:Int)(i:Int):Tot (sR a n i) (SA a/\0<=i) (λφ=>∀r,φ r):=⟨by
 rintro⟨h0,v0⟩ φ hk
 exact(zIk a h0 (((a.Coefs.length:Int) - i).toNat+1) n i).ok ⟨by omega,by omega,v0⟩ φ hk⟩
instance zOl(a:zA):Tot (nC a) (SA a) (λφ=>∀r,φ r):=⟨by
 rintro h0 φ hk
 unfold nC
 exact Ok.go⟩
theorem zJL(list:List zA)(ae:Int)(h0:LL list):∀(k:Nat) (i:Int),Tot (rL list ae i) ((list.length:Int) - i<(k:Int)/\0<(k:Int)/\0<=i) (λφ=>(AF list i VA->φ (.done ()))/\(φ (.ret false))):=by
 obtain⟨h01,h02⟩:=h0;intro k
 induction k with
 | zero=>intro i;exact⟨λh=>absurd h.2.1 (by omega)⟩
 | succ k ih=>
  intro i;refine⟨?_⟩;rintro⟨v0,v1,v2⟩ φ ⟨hd,hr⟩;unfold rL;exact Ok.go
instance zNj(list:List zA)(ae:Int)(i:Int):Tot (rL list ae i) (LL list/\0<=i) (λφ=>(AF list i VA->φ (.done ()))/\(φ (.ret false))):=⟨by
 rintro⟨h0,v0⟩ φ hk
 exact(zJL list ae h0 (((list.length:Int) - i).toNat+1) i).ok ⟨by omega,by omega,v0⟩ φ hk⟩
instance zPP(list:List zA)(ae:Int):Tot (jL list ae) (LL list) (λφ=>∀r,(r=true->VL list)->φ r):=⟨by
 rintro h0 φ hk
 unfold jL
 exact Ok.go⟩
theorem zHM(nest:List zG)(h0:SN 1000 nest):∀(k:Nat) (i:Int),Tot (uD nest i) ((nest.length:Int) - i<(k:Int)/\0<(k:Int)/\0<=i) (λφ=>(((nest.length:Int)<=4->AF nest i VL1)->φ (.done ()))/\(φ (.ret false))):=by
 obtain⟨h00,h01⟩:=h0;intro k
 induction k with
 | zero=>intro i;exact⟨λh=>absurd h.2.1 (by omega)⟩
 | succ k ih=>
  intro i;refine⟨?_⟩;rintro⟨v0,v1,v2⟩ φ ⟨hd,hr⟩;unfold uD;exact Ok.go
instance zM1(nest:List zG)(i:Int):Tot (uD nest i) (SN 1000 nest/\0<=i) (λφ=>(((nest.length:Int)<=4->AF nest i VL1)->φ (.done ()))/\(φ (.ret false))):=⟨by
 rintro⟨h0,v0⟩ φ hk
 exact(zHM nest h0 (((nest.length:Int) - i).toNat+1) i).ok ⟨by omega,by omega,v0⟩ φ hk⟩
instance zNk(nest:List zG):Tot (mQ nest) (SN 1000 nest) (λφ=>∀r,(r=true->VN nest)->φ r):=⟨by
 rintro h0 φ hk
 unfold mQ
 exact Ok.go⟩
theorem VN.get{nest:List zG}{x:zG}(h:VN nest)(hx:x∈nest):1<=x.Lo.length/\1<=x.Hi.length:=⟨(h.2 x hx).1.1,(h.2 x hx).2.1⟩
theorem zJx(nest:List zG)(hn:SN 1000 nest)(hv:VN nest):∀(d:Nat) (o:List (List Int)) (p2:List Int),Tot (tG o nest p2) (p2.length+d=nest.length/\o.length<=120/\(∀q∈o,q.length<=4)) (λφ=>∀r,r.length<=121->(∀q∈r,q.length<=4)->φ r):=by
 obtain⟨hn1,hn2⟩:=hn;have hv1:=hv.1;intro d
 induction d with
 | zero=>
  intro o p2;refine⟨?_⟩;rintro⟨hp,ho,hq⟩ φ hk;unfold tG;dsimp only [same];exact Ok.ite_beq (λh=>Ok.go) λh=>absurd h (by omega)
 | succ d ih=>
  intro o p2;refine⟨?_⟩;rintro⟨hp,ho,hq⟩ φ hk;unfold tG;dsimp only [same];have hloop:∀(y2:Int) (k:Nat) (v:Int) (o:List (List Int)),Tot (rD nest p2 y2 o v) ((y2 - v<=k/\I64 v/\I64 y2/\o.length<=121)/\(∀q∈o,q.length<=4)) (λφ=>∀r,r.length<=121->(∀q∈r,q.length<=4)->φ r):=by
   intro y2 k
   induction k with
   | zero=>intro v o;refine⟨?_⟩;rintro⟨⟨a1,⟨a2,a5⟩,⟨a6,a7⟩,a3⟩,a4⟩ φ hk;unfold rD;dsimp only [same];exact Ok.go
   | succ k ik=>
    intro v o;refine⟨?_⟩;rintro⟨⟨a1,⟨a2,a5⟩,⟨a6,a7⟩,a3⟩,a4⟩ φ hk;unfold rD;dsimp only [same];exact Ok.go
  refine Ok.ite_beq (λh=>absurd h (by omega)) λh=>Ok.idx (by omega) (by omega) λx hx _=>?_;obtain⟨g1,g2⟩:=VN.get hv hx;refine Ok.call (zHZ x p2) ⟨hn2 x hx,g1,g2⟩ ?_;intro a b ha hb;have hloop:=hloop b (b - a).toNat;exact Ok.go
instance zOO(nest:List zG):Tot (tG [] nest []) (SN 1000 nest/\VN nest) (λφ=>∀r,r.length<=121->(∀q∈r,q.length<=4)->φ r):=⟨λ⟨h,hv⟩ φ hk=>(zJx nest h hv nest.length [] []).ok ⟨by simp,by simp,by simp⟩ φ hk⟩
theorem zL1(nest:List zG)(hn:SN 1000 nest)(hv:VN nest):∀(d:Nat) (p2:List Int) (most:Int),Tot (qM nest p2 most) (p2.length+d=nest.length) (λφ=>∀r,φ r):=by
 obtain⟨hn1,hn2⟩:=hn;have hv1:=hv.1;intro d
 induction d with
 | zero=>
  intro p2 most;refine⟨?_⟩;rintro hp φ hk;unfold qM;dsimp only [same];exact Ok.ite_beq (λh=>Ok.go) λh=>absurd h (by omega)
 | succ d ih=>
  intro p2 most;refine⟨?_⟩;rintro hp φ hk;unfold qM;dsimp only [same];have hloop:∀(y2:Int) (k:Nat) (n v:Int),Tot (qV nest p2 most y2 n v) (y2 - v<=k/\I64 v/\I64 y2) (λφ=>∀r,φ r):=by
   intro y2 k
   induction k with
   | zero=>intro n v;refine⟨?_⟩;rintro⟨a1,⟨a2,a5⟩,⟨a6,a7⟩⟩ φ hk;unfold qV;dsimp only [same];exact Ok.go
   | succ k ik=>
    intro n v;refine⟨?_⟩;rintro⟨a1,⟨a2,a5⟩,⟨a6,a7⟩⟩ φ hk;unfold qV;dsimp only [same];exact Ok.go
  refine Ok.ite_beq (λh=>absurd h (by omega)) λh=>Ok.idx (by omega) (by omega) λx hx _=>?_;obtain⟨g1,g2⟩:=VN.get hv hx;refine Ok.call (zHZ x p2) ⟨hn2 x hx,g1,g2⟩ ?_;intro a b ha hb;have hloop:=hloop b (b - a).toNat;exact Ok.go
instance zPQ(nest:List zG)(most:Int):Tot (qM nest [] most) (SN 1000 nest/\VN nest) (λφ=>∀r,φ r):=⟨λ⟨h,hv⟩ φ hk=>(zL1 nest h hv nest.length [] most).ok (by simp) φ hk⟩
instance zNV(nest:List zG):Tot (nF nest) (SN 1000 nest) (λφ=>∀a b,a.length<=120->(∀q∈a,q.length<=4)->(b=true->VN nest)->φ (a,b)):=⟨by
 rintro h0 φ hk
 unfold nF
 exact Ok.go⟩
theorem zHr(a:zM)(ae:Int)(h0:SC a):∀(k:Nat) (i:Int),Tot (tS a ae i) ((a.Subs.length:Int) - i<(k:Int)/\0<(k:Int)/\0<=i) (λφ=>(AF a.Subs i VA->φ (.done ()))/\(φ (.ret false))):=by
 obtain⟨h01,h02,h03⟩:=h0;intro k
 induction k with
 | zero=>intro i;exact⟨λh=>absurd h.2.1 (by omega)⟩
 | succ k ih=>
  intro i;refine⟨?_⟩;rintro⟨v0,v1,v2⟩ φ ⟨hd,hr⟩;unfold tS;exact Ok.go
instance zMi(a:zM)(ae:Int)(i:Int):Tot (tS a ae i) (SC a/\0<=i) (λφ=>(AF a.Subs i VA->φ (.done ()))/\(φ (.ret false))):=⟨by
 rintro⟨h0,v0⟩ φ hk
 exact(zHr a ae h0 (((a.Subs.length:Int) - i).toNat+1) i).ok ⟨by omega,by omega,v0⟩ φ hk⟩
instance zOP(a:zM)(ae:Int):Tot (nV a ae) (SC a) (λφ=>∀r,(r=true->VC a)->φ r):=⟨by
 rintro h0 φ hk
 unfold nV
 exact Ok.go⟩
instance zIl(kind:Int):Tot (fD kind) (True) (λφ=>∀r,(r=0/\(kind=1∨kind=2∨kind=3))∨(r=2/\(kind=4∨kind=5∨kind=6))∨r=-1->φ r):=⟨by
 rintro _ φ hk
 unfold fD
 exact Ok.go⟩
instance zOm(a:zM):Tot (nD a) (True) (λφ=>∀r:Bool,φ r):=⟨by
 rintro _ φ hk
 unfold nD
 exact Ok.go⟩
instance zPR(a:zA):Tot (kH a) (True) (λφ=>∀r:Bool,φ r):=⟨by
 rintro _ φ hk
 unfold kH
 exact Ok.go⟩
instance zJd(e:zH)(ae:Int):Tot (eM e ae) (SA e.Index/\SC e.Read) (λφ=>∀r,(r=true->e.Kind=1->I64 e.Num)->(r=true->e.Kind=2->VA e.Index)->(r=true->e.Kind=3->VC e.Read)->φ r):=⟨by
 rintro⟨h0,h1⟩ φ hk
 unfold eM
 exact Ok.go⟩
theorem zK9:∀(n:Nat) (e:zH) (ae ak:Int),Tot (rG e ae ak) (SE n e/\ak<=100) (λφ=>∀r,(r=true->VE n e)->φ r):=by
 intro n
 induction n with
 | zero=>
  intro e ae ak;refine⟨?_⟩;rintro⟨⟨h1,h2,h3⟩,hlv⟩ φ hk;have hl:∀lv,Tot (tM e ae lv 0) True (λφ=>φ (.done ())):=by
   intro lv;refine⟨?_⟩;rintro - φ hk;unfold tM;rw[h3];exact Ok.pure hk
  have bf:e.Kids.length=0:=by rw[h3];rfl
  unfold rG;dsimp only [same];refine Ok.bind (φ:=λb=>b=false->VO e) ?_ ?_
  ·refine Ok.ite_dec (λh=>Ok.pure λh=>by cases h) λh=>Ok.call (zIl _) trivial ?_;intro r hr;refine Ok.ite_bne (λh=>Ok.pure λh=>by cases h) λh=>Ok.call (zJd e ae) ⟨h1,h2⟩ ?_;intro b b1 b2 b3;refine Ok.pure λhb=>?_;have hb:b=true:=by simpa using hb
   have:e.Kind=1∨e.Kind=2∨e.Kind=3:=by omega
   rcases this with h|h|h
   ·exact .inl ⟨h,b1 hb h⟩
   ·exact .inr (.inl ⟨h,b2 hb h⟩)
   ·exact .inr (.inr ⟨h,b3 hb h⟩)
  ·intro b hb;refine Ok.ite (λ_=>Ok.pure (hk _ λh=>by cases h)) λhz=>?_;have hz:VO e:=hb (by simpa using hz);exact Ok.go
 | succ n ih=>
  intro e ae ak;refine⟨?_⟩;rintro⟨⟨h1,h2,h3,h4⟩,hlv⟩ φ hk;unfold rG;dsimp only [same];refine Ok.bind (φ:=λb=>b=false->1<=ak/\(VO e∨((e.Kind=4∨e.Kind=5∨e.Kind=6)/\e.Kids.length=2))) ?_ ?_
  ·refine Ok.ite_dec (λh=>Ok.pure λh=>by cases h) λh=>Ok.call (zIl _) trivial ?_;intro r hr;refine Ok.ite_bne (λh=>Ok.pure λh=>by cases h) λh=>Ok.call (zJd e ae) ⟨h1,h2⟩ ?_;intro b b1 b2 b3;refine Ok.pure λhb=>⟨by omega,?_⟩;have hb:b=true:=by simpa using hb
   have:e.Kind=1∨e.Kind=2∨e.Kind=3∨((e.Kind=4∨e.Kind=5∨e.Kind=6)/\e.Kids.length=2):=by omega
   rcases this with h|h|h|h
   ·exact .inl (.inl ⟨h,b1 hb h⟩)
   ·exact .inl (.inr (.inl ⟨h,b2 hb h⟩))
   ·exact .inl (.inr (.inr ⟨h,b3 hb h⟩))
   ·exact .inr h
  ·intro b hb;refine Ok.ite (λ_=>Ok.pure (hk _ λh=>by cases h)) λhz=>?_;obtain⟨g1,g2⟩:=hb (by simpa using hz);have hl:∀(k:Nat) (i:Int),Tot (tM e ae ak i) ((e.Kids.length:Int) - i<=k/\0<=i) (λφ=>(AF e.Kids i (VE n)->φ (.done ()))/\φ (.ret false)):=by
    intro k
    induction k with
    | zero=>intro i;refine⟨?_⟩;rintro⟨a1,a2⟩ φ ⟨hd,hr⟩;unfold tM;dsimp only [same];exact Ok.go
    | succ k ik=>
     intro i;refine⟨?_⟩;rintro⟨a1,a2⟩ φ ⟨hd,hr⟩;unfold tM;dsimp only [same];exact Ok.go
   refine Ok.call (hl _ 0) ⟨Int.le_of_eq (Int.sub_zero _),by omega⟩ ⟨λhA=>Ok.pure (hk _ λ_=>?_),Ok.pure (hk _ λh=>by cases h)⟩;exact g2.elim .inl λg=>.inr ⟨g.1,g.2,AF.all hA⟩
instance zOQ(e:zH)(ae ak:Int):Tot (rG e ae ak) (SE 5 e/\ak<=100) (λφ=>∀r,(r=true->VE 5 e)->φ r):=zK9 5 e ae ak
theorem zKa:∀(n:Nat) (e:zH) (ak:Int),Tot (qG e ak) (SE n e/\ak<=100) (λφ=>∀r,φ r):=by
 intro n
 induction n with
 | zero=>
  intro e ak;refine⟨?_⟩;rintro⟨⟨h1,h2,h3⟩,hlv⟩ φ hk;unfold qG;dsimp only [same];unfold tN;have bf:e.Kids.length=0:=by rw[h3];rfl
  rw[bf];exact Ok.go
 | succ n ih=>
  intro e ak;refine⟨?_⟩;rintro⟨⟨h1,h2,h3,h4⟩,hlv⟩ φ hk;unfold qG;dsimp only [same];have hl:∀(k:Nat) (m i:Int),Tot (tN e ak m i) ((e.Kids.length:Int) - i<=k/\0<=i) (λφ=>∀r,φ r):=by
   intro k
   induction k with
   | zero=>intro m i;refine⟨?_⟩;rintro⟨a1,a2⟩ φ hk;unfold tN;dsimp only [same];exact Ok.go
   | succ k ik=>intro m i;refine⟨?_⟩;rintro⟨a1,a2⟩ φ hk;unfold tN;dsimp only [same];exact Ok.go
  have hl:=hl e.Kids.length;exact Ok.go
instance zOR(e:zH)(ak:Int):Tot (qG e ak) (SE 5 e/\ak<=100) (λφ=>∀r,φ r):=zKa 5 e ak
instance zEw(s:zI)(ae:Int):Tot (qU s ae) (SS s) (λφ=>∀r,(r=true->VS s)->φ r):=⟨by
 rintro h0 φ hk
 unfold qU
 exact Ok.go⟩
theorem zIm(p:List Int)(h0:p.length<=4):∀(k:Nat) (i:Int),Tot (sV p i) ((p.length:Int) - i<(k:Int)/\0<(k:Int)/\0<=i) (λφ=>(φ (.done ()))/\(φ (.ret false))):=by
 intro k
 induction k with
 | zero=>intro i;exact⟨λh=>absurd h.2.1 (by omega)⟩
 | succ k ih=>
  intro i;refine⟨?_⟩;rintro⟨v0,v1,v2⟩ φ ⟨hd,hr⟩;unfold sV;exact Ok.go
instance zNW(p:List Int)(i:Int):Tot (sV p i) (p.length<=4/\0<=i) (λφ=>(φ (.done ()))/\(φ (.ret false))):=⟨by
 rintro⟨h0,v0⟩ φ hk
 exact(zIm p h0 (((p.length:Int) - i).toNat+1) i).ok ⟨by omega,by omega,v0⟩ φ hk⟩
instance zOn(p:List Int):Tot (jR p) (p.length<=4) (λφ=>∀r:Bool,φ r):=⟨by
 rintro h0 φ hk
 unfold jR
 exact Ok.go⟩
theorem zJM(list:List zD)(part:zF)(y1:List (List Int))(i:Int)(h0:SRs 1000 list)(h1:SP 1000 part)(h2:y1.length<=121)(h3:∀q∈y1,q.length<=4)(h4:0<=i)(h5:i<(part.Body.length:Int)):∀(k:Nat) (k0:Int),Tot (sI list part y1 i k0) ((y1.length:Int) - k0<(k:Int)/\0<(k:Int)/\0<=k0) (λφ=>(φ (.done ()))/\(φ (.ret (0,false)))):=by
 obtain⟨h11,h12,h13⟩:=h1;intro k
 induction k with
 | zero=>intro k0;exact⟨λh=>absurd h.2.1 (by omega)⟩
 | succ k ih=>
  intro k0;refine⟨?_⟩;rintro⟨v0,v1,v2⟩ φ ⟨hd,hr⟩;unfold sI;exact Ok.go
instance zNl(list:List zD)(part:zF)(y1:List (List Int))(i:Int)(k0:Int):Tot (sI list part y1 i k0) (SRs 1000 list/\SP 1000 part/\y1.length<=121/\(∀q∈y1,q.length<=4)/\0<=i/\i<(part.Body.length:Int)/\0<=k0) (λφ=>(φ (.done ()))/\(φ (.ret (0,false)))):=⟨by
 rintro⟨h0,h1,h2,h3,h4,h5,v0⟩ φ hk
 exact(zJM list part y1 i h0 h1 h2 h3 h4 h5 (((y1.length:Int) - k0).toNat+1) k0).ok ⟨by omega,by omega,v0⟩ φ hk⟩
theorem zJN(list:List zD)(part:zF)(y1:List (List Int))(h0:SRs 1000 list)(h1:SP 1000 part)(h2:y1.length<=121)(h3:∀q∈y1,q.length<=4):∀(k:Nat) (i:Int),Tot (sJ list part y1 i) ((part.Body.length:Int) - i<(k:Int)/\0<(k:Int)/\0<=i) (λφ=>(AF part.Body i VS->φ (.done ()))/\(φ (.ret (0,false)))):=by
 have h10:=h1;obtain⟨h11,h12,h13⟩:=h1;intro k
 induction k with
 | zero=>intro i;exact⟨λh=>absurd h.2.1 (by omega)⟩
 | succ k ih=>
  intro i;refine⟨?_⟩;rintro⟨v0,v1,v2⟩ φ ⟨hd,hr⟩;unfold sJ;exact Ok.go
instance zNm(list:List zD)(part:zF)(y1:List (List Int))(i:Int):Tot (sJ list part y1 i) (SRs 1000 list/\SP 1000 part/\y1.length<=121/\(∀q∈y1,q.length<=4)/\0<=i) (λφ=>(AF part.Body i VS->φ (.done ()))/\(φ (.ret (0,false)))):=⟨by
 rintro⟨h0,h1,h2,h3,v0⟩ φ hk
 exact(zJN list part y1 h0 h1 h2 h3 (((part.Body.length:Int) - i).toNat+1) i).ok ⟨by omega,by omega,v0⟩ φ hk⟩
instance zIn(list:List zD)(part:zF):Tot (kI list part) (SRs 1000 list/\SP 1000 part) (λφ=>∀n b,(b=true->VP part)->φ (n,b)):=⟨by
 rintro⟨h0,h1⟩ φ hk
 obtain⟨h11,h12,h13⟩:=id h1
 unfold kI
 exact Ok.go⟩
theorem zEj(p:zC)(h0:SG 1000 p):∀(k:Nat) (total:Int) (i:Int),Tot (vL p total i) ((p.Parts.length:Int) - i<(k:Int)/\0<(k:Int)/\0<=i) (λφ=>(∀n,AF p.Parts i VP->φ (.done n))/\(φ (.ret false))):=by
 obtain⟨h01,h02,h03⟩:=h0;intro k
 induction k with
 | zero=>intro total i;exact⟨λh=>absurd h.2.1 (by omega)⟩
 | succ k ih=>
  intro total i;refine⟨?_⟩;rintro⟨v0,v1,v2⟩ φ ⟨hd,hr⟩;unfold vL;exact Ok.go
instance zLO(p:zC)(total:Int)(i:Int):Tot (vL p total i) (SG 1000 p/\0<=i) (λφ=>(∀n,AF p.Parts i VP->φ (.done n))/\(φ (.ret false))):=⟨by
 rintro⟨h0,v0⟩ φ hk
 exact(zEj p h0 (((p.Parts.length:Int) - i).toNat+1) total i).ok ⟨by omega,by omega,v0⟩ φ hk⟩
instance zDA(p:zC):Tot (sA p) (SG 1000 p) (λφ=>∀r,(r=true->VG p)->φ r):=⟨by
 rintro h0 φ hk
 obtain⟨h01,h02,h03⟩:=id h0
 unfold sA
 exact Ok.go⟩
def InI(p:zC)(x:zR):Prop:=(0<=x.Part/\x.Part<(p.Parts.length:Int))/\∀q,p.Parts[x.Part.toNat]?=some q->0<=x.Stmt/\x.Stmt<(q.Body.length:Int)
theorem InI.mk{p:zC}{x:zR}{q:zF}(h0:0<=x.Part)(h1:x.Part<(p.Parts.length:Int))(hq:p.Parts[x.Part.toNat]?=some q)(h2:0<=x.Stmt)(h3:x.Stmt<(q.Body.length:Int)):InI p x:=
 ⟨⟨h0,h1⟩,λq' h=>by rw[hq] at h;cases h;exact⟨h2,h3⟩⟩
theorem zF8(p:zC)(i:Int)(y:List (List Int))(k0:Int)(q:zF)(b:Nat)(h0:VP q)(h1:0<=i)(h2:i<(p.Parts.length:Int))(h3:p.Parts[i.toNat]?=some q)(h4:y.length<=121)(h5:∀q∈y,q.length<=4)(h6:0<=k0)(h7:k0<(y.length:Int)):∀(k:Nat) (out:List zR) (s:Int),Tot (vX p i y k0 out s) ((q.Body.length:Int) - s<(k:Int)/\0<(k:Int)/\0<=s/\s<=(q.Body.length:Int)/\(out.length:Int)<=b+s/\b<=100000/\(∀x∈out,InI p x)) (λφ=>∀r,r.length<=b+4->(∀x∈r,InI p x)->φ r):=by
 obtain⟨h01,h02,h03⟩:=h0;intro k
 induction k with
 | zero=>intro out s;exact⟨λh=>absurd h.2.1 (by omega)⟩
 | succ k ih=>
  intro out s;refine⟨?_⟩;rintro⟨v0,v1,v2,v3,v4,v5,v6⟩ φ hk;unfold vX;refine Ok.idx_known h3 h1 ?_;refine Ok.ite_dec (λhs=>?_) λhs=>?_
  ·refine Ok.idx (by omega) (by omega) λx hx _=>?_;have hx4:=h5 x hx;refine Ok.app S ?_;refine Ok.app (by simp only[cA,cj,cK];omega) ?_;have hI:InI p (zR.mk i s ([]++x)):=InI.mk h1 h2 h3 v2 (by omega);have hW:W (s+1)=s+1:=rE (by omega) (by omega);rw[hW];exact Ok.go
  ·exact Ok.go
theorem zF9(p:zC)(i:Int)(y:List (List Int))(k0:Int)(q:zF)(b:Nat)(out:List zR)(s:Int):Tot (vX p i y k0 out s) (VP q/\0<=i/\i<(p.Parts.length:Int)/\p.Parts[i.toNat]?=some q/\y.length<=121/\(∀q∈y,q.length<=4)/\0<=k0/\k0<(y.length:Int)/\0<=s/\s<=(q.Body.length:Int)/\(out.length:Int)<=b+s/\b<=100000/\(∀x∈out,InI p x)) (λφ=>∀r,r.length<=b+4->(∀x∈r,InI p x)->φ r):=⟨by
 rintro⟨h0,h1,h2,h3,h4,h5,h6,h7,v0,v1,v2,v3,v4⟩ φ hk;exact(zF8 p i y k0 q b h0 h1 h2 h3 h4 h5 h6 h7 (((q.Body.length:Int) - s).toNat+1) out s).ok ⟨by omega,by omega,v0,v1,v2,v3,v4⟩ φ hk⟩
theorem zFa(p:zC)(i:Int)(y:List (List Int))(q:zF)(b:Nat)(h0:VP q)(h1:0<=i)(h2:i<(p.Parts.length:Int))(h3:p.Parts[i.toNat]?=some q)(h4:y.length<=121)(h5:∀q∈y,q.length<=4):∀(k:Nat) (out:List zR) (k0:Int),Tot (vZ p i y out k0) ((y.length:Int) - k0<(k:Int)/\0<(k:Int)/\0<=k0/\k0<=(y.length:Int)/\(out.length:Int)<=b+4*k0/\b<=10000/\(∀x∈out,InI p x)) (λφ=>∀r,r.length<=b+484->(∀x∈r,InI p x)->φ r):=by
 intro k
 induction k with
 | zero=>intro out k0;exact⟨λh=>absurd h.2.1 (by omega)⟩
 | succ k ih=>
  intro out k0;refine⟨?_⟩;rintro⟨v0,v1,v2,v3,v4,v5,v6⟩ φ hk;unfold vZ;have tl:=λo kk=>zF9 p i y kk q o.length o 0;exact Ok.go
theorem zFb(p:zC)(i:Int)(y:List (List Int))(q:zF)(b:Nat)(out:List zR)(k0:Int):Tot (vZ p i y out k0) (VP q/\0<=i/\i<(p.Parts.length:Int)/\p.Parts[i.toNat]?=some q/\y.length<=121/\(∀q∈y,q.length<=4)/\0<=k0/\k0<=(y.length:Int)/\(out.length:Int)<=b+4*k0/\b<=10000/\(∀x∈out,InI p x)) (λφ=>∀r,r.length<=b+484->(∀x∈r,InI p x)->φ r):=⟨by
 rintro⟨h0,h1,h2,h3,h4,h5,v0,v1,v2,v3,v4⟩ φ hk;exact(zFa p i y q b h0 h1 h2 h3 h4 h5 (((y.length:Int) - k0).toNat+1) out k0).ok ⟨by omega,by omega,v0,v1,v2,v3,v4⟩ φ hk⟩
theorem zFc(p:zC)(h0:SG 1000 p)(h1:VG p):∀(k:Nat) (out:List zR) (i:Int),Tot (uA p out i) ((p.Parts.length:Int) - i<(k:Int)/\0<(k:Int)/\0<=i/\i<=(p.Parts.length:Int)/\(out.length:Int)<=484*i/\(∀x∈out,InI p x)) (λφ=>∀r,r.length<=2000->(∀x∈r,InI p x)->φ r):=by
 obtain⟨⟨h00,h01⟩,h02,h03⟩:=id h0;obtain⟨h10,h11,h12⟩:=id h1;intro k
 induction k with
 | zero=>intro out i;exact⟨λh=>absurd h.2.1 (by omega)⟩
 | succ k ih=>
  intro out i;refine⟨?_⟩;rintro⟨v0,v1,v2,v3,v4,v5⟩ φ hk;unfold uA;refine Ok.ite_dec (λhs=>?_) λhs=>?_
  ·refine Ok.idx (by omega) (by omega) λq hq hqi=>?_;have tl:=λy o=>zFb p i y q o.length o 0;have s1:=(h03 q hq).1;obtain⟨s2,s3,s4⟩:=h12 q hq;have s5:VP q:=⟨s2,s3,s4⟩;exact Ok.go
  ·exact Ok.go
instance zL2(p:zC)(out:List zR)(i:Int):Tot (uA p out i) (SG 1000 p/\VG p/\0<=i/\i<=(p.Parts.length:Int)/\(out.length:Int)<=484*i/\(∀x∈out,InI p x)) (λφ=>∀r,r.length<=2000->(∀x∈r,InI p x)->φ r):=⟨by
 rintro⟨h0,h1,v0,v1,v2,v3⟩ φ hk
 exact(zFc p h0 h1 (((p.Parts.length:Int) - i).toNat+1) out i).ok ⟨by omega,by omega,v0,v1,v2,v3⟩ φ hk⟩
instance zMj(p:zC):Tot (oF p) (SG 1000 p/\VG p) (λφ=>∀r,r.length<=2000->(∀x∈r,InI p x)->φ r):=⟨by
 rintro⟨h0,h1⟩ φ hk
 unfold oF
 exact Ok.go⟩
theorem zJO(p:zC)(y:List zR)(h0:SG 1000 p)(h1:VG p)(h2:y.length<=2000)(h3:∀x∈y,InI p x):∀(k:Nat) (out:List wE) (i:Int),Tot (rP p y out i) ((y.length:Int) - i<(k:Int)/\0<(k:Int)/\0<=i/\i<=(y.length:Int)/\(out.length:Int)=i/\(∀u∈out,u.reads.length<=111111)) (λφ=>∀r,r.length<=2000->(∀u∈r,u.reads.length<=111111)->φ r):=by
 obtain⟨⟨h00,h01⟩,h02,h03⟩:=id h0;obtain⟨h10,h11,h12⟩:=id h1;intro k
 induction k with
 | zero=>intro out i;exact⟨λh=>absurd h.2.1 (by omega)⟩
 | succ k ih=>
  intro out i;refine⟨?_⟩;rintro⟨v0,v1,v2,v3,v4,v5⟩ φ hk;unfold rP;refine Ok.ite_dec (λhs=>?_) λhs=>?_
  ·refine Ok.idx (by omega) (by omega) λx hx hxi=>?_;obtain⟨⟨g0,g1⟩,g2⟩:=h3 x hx;refine Ok.idx g0 g1 λq hq hqi=>?_;obtain⟨g3,g4⟩:=g2 q hqi;refine Ok.idx_known hxi v2 (Ok.idx g3 g4 λs hs _=>?_);have s1:=(h03 q hq).2.2 s hs;exact Ok.go
  ·exact Ok.go
instance zNn(p:zC)(y:List zR)(out:List wE)(i:Int):Tot (rP p y out i) (SG 1000 p/\VG p/\y.length<=2000/\(∀x∈y,InI p x)/\0<=i/\i<=(y.length:Int)/\(out.length:Int)=i/\(∀u∈out,u.reads.length<=111111)) (λφ=>∀r,r.length<=2000->(∀u∈r,u.reads.length<=111111)->φ r):=⟨by
 rintro⟨h0,h1,h2,h3,v0,v1,v2,v3⟩ φ hk
 exact(zJO p y h0 h1 h2 h3 (((y.length:Int) - i).toNat+1) out i).ok ⟨by omega,by omega,v0,v1,v2,v3⟩ φ hk⟩
instance zPS(p:zC):Tot (fI p) (SG 1000 p/\VG p) (λφ=>∀r,r.length<=2000->(∀u∈r,u.reads.length<=111111)->φ r):=⟨by
 rintro⟨h0,h1⟩ φ hk
 unfold fI
 exact Ok.go⟩
theorem zG0{a n:Int}(ha:0<=a)(hn:0<n):0<=a.tmod n/\a.tmod n<n:=by
 rw[Int.tmod_eq_emod_of_nonneg ha];exact⟨Int.emod_nonneg _ (by omega),Int.emod_lt_of_pos _ hn⟩
theorem zOS{a b:Int}(ha:0<=a)(ha':a<4611686018427387904)(hb:0<=b)(hb':b<4611686018427387904):
 0<=W (((BitVec.ofInt IntKind.i64.bits a ^^^ BitVec.ofInt IntKind.i64.bits b).toNat:Nat):Int):=by
 have e:(BitVec.ofInt IntKind.i64.bits a ^^^ BitVec.ofInt IntKind.i64.bits b).toNat<4611686018427387904:=by
  rw[BitVec.toNat_xor]
  have h1:(BitVec.ofInt IntKind.i64.bits a).toNat=a.toNat:=by
   rw[BitVec.toNat_ofInt];show (a % ((2 ^ 64:Nat):Int)).toNat=_;omega
  have h2:(BitVec.ofInt IntKind.i64.bits b).toNat=b.toNat:=by
   rw[BitVec.toNat_ofInt];show (b % ((2 ^ 64:Nat):Int)).toNat=_;omega
  rw[h1,h2]
  exact Nat.xor_lt_two_pow (n:=62) (by omega) (by omega)
 rw[rE (by omega) (by omega)];omega
instance zA3(r:zQ)(n:Int):Tot (xN r n) (0<=r.p/\r.p<=1000000000) (λφ=>∀y s,0<=y->(y<n∨y=0)->s.p=r.p+1->φ (y,s)):=⟨by
 rintro⟨h0,h1⟩ φ hk
 unfold xN
 rw[rE (x:=r.p+1) (by omega) (by omega),rE (x:=r.p+1 - 1) (by omega) (by omega)]
 refine Ok.bind_ite (Ok.ite_dec (λ_=>Ok.bind_pure (Ok.ite_tt (Ok.pure (hk _ _ S S rfl)))) λhn=>Ok.bind_pure (Ok.ite_beq (λ_=>Ok.pure (hk _ _ S S rfl)) λhb=>?_))
 refine Ok.ite_dec (λhp=>Ok.idx (by omega) (by omega) λx _ _=>?_) λhp=>?_
 ·refine Ok.rem (by omega) (Ok.pure ?_)
  have hx:=x.toNat_lt
  have:=zG0 (a:=(x.toNat:Int)) (n:=n) (by omega) (by omega)
  rw[rE (by omega) (by omega)]
  exact hk _ _ this.1 (.inl this.2) rfl
 ·refine Ok.rem (by omega) ?_
  have hp:=zG0 (a:=r.p+1 - 1) (n:=(r.b.length:Int)) (by omega) (by omega)
  refine Ok.idx hp.1 hp.2 λx1 _ _=>?_
  rw[rE (x:=(r.p+1 - 1)*7) (by omega) (by omega),rE (x:=(r.p+1 - 1)*7+3) (by omega) (by omega)]
  refine Ok.rem (by omega) ?_
  have hq:=zG0 (a:=(r.p+1 - 1)*7+3) (n:=(r.b.length:Int)) (by omega) (by omega)
  refine Ok.idx hq.1 hq.2 λx2 _ _=>?_
  refine Ok.quo (by omega) ?_
  have hd:0<=(r.p+1 - 1).tdiv (r.b.length:Int)/\(r.p+1 - 1).tdiv (r.b.length:Int)<=1000000000:=by
   rw[fu (by omega)]
   exact⟨Int.ediv_nonneg (by omega) (by omega),Int.le_trans (Int.ediv_le_self _ (by omega)) (by omega)⟩
  have e1:=x1.toNat_lt
  have e2:=x2.toNat_lt
  generalize (r.p+1 - 1).tdiv (r.b.length:Int)=q3 at hd ⊢
  simp(disch:=omega) only [rE]
  refine Ok.rem (by omega) ?_
  generalize hX:(x1.toNat:Int)*131+(x2.toNat:Int)*1117+(r.p+1 - 1)*29+q3*53=X
  have hX0:0<=X:=by omega
  have hX1:X<4611686018427387904:=by omega
  have hT:0<=X.tdiv 64/\X.tdiv 64<4611686018427387904:=by rw[fu hX0];omega
  rw[rE (x:=X.tdiv 64) (by omega) (by omega)]
  have hw:=zG0 (zOS hX0 hX1 hT.1 hT.2) (n:=n) (by omega)
  exact Ok.pure (hk _ _ hw.1 (.inl hw.2) rfl)⟩
instance zB6(r:zQ)(l:List Str):Tot (nT r l) (0<l.length/\0<=r.p/\r.p<=1000000000) (λφ=>∀y s,y∈l->s.p=r.p+1->φ (y,s)):=⟨by
 rintro⟨h0,h1,h2⟩ φ hk
 unfold nT
 exact Ok.go⟩
instance uO(r:zQ)(l:List Int):Tot (xI r l) (0<l.length/\0<=r.p/\r.p<=1000000000/\(∀x∈l,I64 x)) (λφ=>∀y s,y∈l->I64 y->s.p=r.p+1->φ (y,s)):=⟨by
 rintro⟨h0,h1,h2,h3⟩ φ hk
 unfold xI
 exact Ok.go⟩
theorem zJP(s:Str)(c:UInt8)(h0:s.l.length<=1000000):∀(k:Nat) (out:List Str) (f:Int) (i:Int),Tot (mL s c out f i) ((s.l.length:Int)+1 - i<(k:Int)/\0<(k:Int)/\0<=f/\f<=i/\i<=(s.l.length:Int)+1/\(out.length:Int)<=i/\(∀x∈out,x.l.length<=s.l.length)) (λφ=>∀r,r.length<=s.l.length+1->(∀x∈r,x.l.length<=s.l.length)->φ r):=by
 intro k
 induction k with
 | zero=>intro out f i;exact⟨λh=>absurd h.2.1 (by omega)⟩
 | succ k ih=>
  intro out f i;refine⟨?_⟩;rintro⟨v0,v1,v2,v3,v4,v5,v6⟩ φ hk;unfold mL;exact Ok.go
instance zNo(s:Str)(c:UInt8)(out:List Str)(f:Int)(i:Int):Tot (mL s c out f i) (s.l.length<=1000000/\0<=f/\f<=i/\i<=(s.l.length:Int)+1/\(out.length:Int)<=i/\(∀x∈out,x.l.length<=s.l.length)) (λφ=>∀r,r.length<=s.l.length+1->(∀x∈r,x.l.length<=s.l.length)->φ r):=⟨by
 rintro⟨h0,v0,v1,v2,v3,v4⟩ φ hk
 exact(zJP s c h0 (((s.l.length:Int)+1 - i).toNat+1) out f i).ok ⟨by omega,by omega,v0,v1,v2,v3,v4⟩ φ hk⟩
instance zIo(s:Str)(c:UInt8):Tot (fB s c) (s.l.length<=1000000) (λφ=>∀r,r.length<=s.l.length+1->(∀x∈r,x.l.length<=s.l.length)->φ r):=⟨by
 rintro h0 φ hk
 unfold fB
 exact Ok.go⟩
theorem zHs(y:List Str)(b:Nat)(h0:y.length<=1000001)(h1:∀x∈y,x.l.length<=b):∀(k:Nat) (out:List Str) (i:Int),Tot (oC y out i) ((y.length:Int) - i<(k:Int)/\0<(k:Int)/\0<=i/\i<=(y.length:Int)/\(out.length:Int)<=i/\(∀x∈out,x.l.length<=b)) (λφ=>∀r,r.length<=y.length->(∀x∈r,x.l.length<=b)->φ r):=by
 intro k
 induction k with
 | zero=>intro out i;exact⟨λh=>absurd h.2.1 (by omega)⟩
 | succ k ih=>
  intro out i;refine⟨?_⟩;rintro⟨v0,v1,v2,v3,v4,v5⟩ φ hk;unfold oC;exact Ok.go
theorem zHt(y:List Str)(b:Nat)(out:List Str)(i:Int):Tot (oC y out i) (y.length<=1000001/\(∀x∈y,x.l.length<=b)/\0<=i/\i<=(y.length:Int)/\(out.length:Int)<=i/\(∀x∈out,x.l.length<=b)) (λφ=>∀r,r.length<=y.length->(∀x∈r,x.l.length<=b)->φ r):=⟨by
 rintro⟨h0,h1,v0,v1,v2,v3⟩ φ hk;exact(zHs y b h0 h1 (((y.length:Int) - i).toNat+1) out i).ok ⟨by omega,by omega,v0,v1,v2,v3⟩ φ hk⟩
instance zG1(s:Str):Tot (gF s) (s.l.length<=1000000) (λφ=>∀r,r.length<=s.l.length+1->(∀x∈r,x.l.length<=s.l.length)->φ r):=⟨by
 rintro h0 φ hk
 unfold gF
 have tl:=λy=>zHt y s.l.length
 exact Ok.go⟩
theorem zJQ(s:Str)(h0:s.l.length<=1000000):∀(k:Nat) (n:Int) (i:Int),Tot (mM s n i) ((s.l.length:Int) - i<(k:Int)/\0<(k:Int)/\I64 n/\0<=i) (λφ=>(∀n,I64 n->φ (.done n))/\(φ (.ret (0,false)))):=by
 intro k
 induction k with
 | zero=>intro n i;exact⟨λh=>absurd h.2.1 (by omega)⟩
 | succ k ih=>
  intro n i;refine⟨?_⟩;rintro⟨v0,v1,v2,v3⟩ φ ⟨hd,hr⟩;unfold mM;exact Ok.go
instance zNp(s:Str)(n:Int)(i:Int):Tot (mM s n i) (s.l.length<=1000000/\I64 n/\0<=i) (λφ=>(∀n,I64 n->φ (.done n))/\(φ (.ret (0,false)))):=⟨by
 rintro⟨h0,v0,v1⟩ φ hk
 exact(zJQ s h0 (((s.l.length:Int) - i).toNat+1) n i).ok ⟨by omega,by omega,v0,v1⟩ φ hk⟩
instance zPT(s:Str):Tot (eX s) (s.l.length<=1000000) (λφ=>∀n b,I64 n->φ (n,b)):=⟨by
 rintro h0 φ hk
 unfold eX
 exact Ok.go⟩
theorem zIp(w:List Str)(b:Nat)(h0:w.length<=1000001)(h1:∀x∈w,x.l.length<=b)(h2:b<=1000000):∀(k:Nat) (i:Int) (Name:Str) (Dims:List Int),Tot (pM w i Name Dims) (5 - i<(k:Int)/\0<(k:Int)/\1<=i/\Name.l.length<=b/\(Dims.length:Int)<=i/\i<=5) (λφ=>∀a d,a.l.length<=b->d.length<=6->φ (a,d)):=by
 intro k
 induction k with
 | zero=>intro i Name Dims;exact⟨λh=>absurd h.2.1 (by omega)⟩
 | succ k ih=>
  intro i Name Dims;refine⟨?_⟩;rintro⟨v0,v1,v2,v3,v4,v5⟩ φ hk;unfold pM;have h3:∀x∈w,x.l.length<=1000000:=λx hx=>de (h1 x hx) h2;exact Ok.go
theorem zIq(w:List Str)(b:Nat)(i:Int)(Name:Str)(Dims:List Int):Tot (pM w i Name Dims) (w.length<=1000001/\(∀x∈w,x.l.length<=b)/\b<=1000000/\1<=i/\Name.l.length<=b/\(Dims.length:Int)<=i/\i<=5) (λφ=>∀a d,a.l.length<=b->d.length<=6->φ (a,d)):=⟨by
 rintro⟨h0,h1,h2,v0,v1,v2,v3⟩ φ hk;exact(zIp w b h0 h1 h2 ((5 - i).toNat+1) i Name Dims).ok ⟨by omega,by omega,v0,v1,v2,v3⟩ φ hk⟩
instance zKb(w:List Str):Tot (dV w) (w.length<=1000001/\(∀x∈w,x.l.length<=1000000)) (λφ=>∀r,SR r->φ r):=⟨by
 rintro⟨h0,h1⟩ φ hk
 unfold dV
 have tl:=zIq w 1000000
 exact Ok.go⟩
instance zAz:Tot kG True (λφ=>φ (zA.mk [0,0,0,0] 0)):=⟨λ_ _ h=>Ok.pure h⟩
instance zDW:Tot fF True (λφ=>∀r,SRs 1000 r->φ r):=⟨λ_ φ h=>Ok.pure (h _ ⟨by decide,by simp[SR]⟩)⟩
instance gU(n:Int):Tot (uC n) True (λφ=>φ (zA.mk [0,0,0,0] n)):=⟨λ_ _ h=>by unfold uC;exact Ok.call zAz trivial (Ok.pure h)⟩
theorem zHu(s:Str)(a:Int)(h0:s.l.length<=1000000)(h1:0<=a)(h2:a<=(s.l.length:Int)):∀(k:Nat) (e:Int),Tot (oD s a e) ((s.l.length:Int) - e<(k:Int)/\0<(k:Int)/\a<=e/\e<=a+2/\e<=(s.l.length:Int)) (λφ=>∀r,a<=r->r<=a+2->r<=(s.l.length:Int)->φ r):=by
 intro k
 induction k with
 | zero=>intro e;exact⟨λh=>absurd h.2.1 (by omega)⟩
 | succ k ih=>
  intro e;refine⟨?_⟩;rintro⟨v0,v1,v2,v3,v4⟩ φ hk;unfold oD;exact Ok.go
instance zMk(s:Str)(a:Int)(e:Int):Tot (oD s a e) (s.l.length<=1000000/\0<=a/\a<=(s.l.length:Int)/\a<=e/\e<=a+2/\e<=(s.l.length:Int)) (λφ=>∀r,a<=r->r<=a+2->r<=(s.l.length:Int)->φ r):=⟨by
 rintro⟨h0,h1,h2,v0,v1,v2⟩ φ hk
 exact(zHu s a h0 h1 h2 (((s.l.length:Int) - e).toNat+1) e).ok ⟨by omega,by omega,v0,v1,v2⟩ φ hk⟩
instance zG2(s:Str)(a:Int):Tot (gG s a) (s.l.length<=1000000/\0<=a/\a<=(s.l.length:Int)) (λφ=>∀n e,I64 n->a<=e->e<=(s.l.length:Int)->φ (n,e)):=⟨by
 rintro⟨h0,h1,h2⟩ φ hk
 unfold gG
 exact Ok.go⟩
instance zL3(s:Str)(a:Int):Tot (zAS s a) (s.l.length<=1000000/\0<=a) (λφ=>∀r,-1<=r->r<=3->(0<=r->a<(s.l.length:Int))->φ r):=⟨by
 rintro⟨h0,h1⟩ φ hk
 unfold zAS
 exact Ok.go⟩
theorem VA.set{l:List Int}{c:Int}(h:l.length=4)(hl:∀x∈l,I64 x)(hc:I64 c)(i:Nat)(x:Int):VA (zA.mk (([]++l).set i (W x)) c):=by
 refine⟨by simp[h],?_,hc⟩;intro y hy;rcases fw hy with hy|hy
 ·exact hl y hy
 ·exact hy ▸ zLx x
theorem VA.con{l:List Int}(h:l.length=4)(hl:∀x∈l,I64 x)(x:Int):VA (zA.mk ([]++l) (W x)):=⟨h,hl,zLx x⟩
instance zKc(a:zA)(s:Str)(n:Int):Tot (dW a s n) (VA a/\s.l.length<=1000000/\0<=n/\n<(s.l.length:Int)) (λφ=>∀r e,VA r->(e=-1∨n<e)->e<=(s.l.length:Int)->φ (r,e)):=⟨by
 rintro⟨h0,h1,h2,h3⟩ φ hk
 have hv:=h0;obtain⟨h00,h01,h02⟩:=h0;have t1:=VA.set h00 h01 h02;have t2:=VA.con h00 h01
 unfold dW
 refine Ok.sidx h2 h3 λb2 _ _=>?_
 refine Ok.bind (φ:=λ_=>True) Ok.go λsign _=>?_
 refine Ok.bind (φ:=λ_=>True) Ok.go λt27 _=>?_
 refine Ok.bind (φ:=λm=>n<=m/\m<=n+1) Ok.go λm hm=>?_
 refine Ok.call (zG2 s m) ⟨h1,by omega,by omega⟩ λy1 y2 g1 g2 g3=>?_
 refine Ok.bind (φ:=λb=>b=true->y2<(s.l.length:Int)) Ok.go λt51 h51=>?_
 refine Ok.bind (φ:=λx=>y2<=x/\x<=(s.l.length:Int)) ?_ λstar hs=>?_
 ·refine Ok.ite (λh=>?_) λh=>Ok.go
  have h51:=h51 h
  exact Ok.go
 refine Ok.call (zL3 s star) ⟨h1,by omega⟩ λy3 g4 g5 g6=>?_
 refine Ok.app S ?_
 refine Ok.bind (φ:=λb=>b=true->0<=y3) Ok.go λt75 h75=>?_
 refine Ok.ite (λh=>?_) λh=>?_
 ·have h75:=h75 h
  have g6:=g6 h75
  have h4:(([]:List Int)++a.Coefs).length=4:=h00
  refine Ok.idx h75 (by omega) λx _ hx=>Ok.idx_known hx h75 (Ok.bind_pure (Ok.pure ?_))
  rw[rE (x:=star+1) (by omega) (by omega)]
  exact hk _ _ (t1 _ _) (.inr (by omega)) (by omega)
 ·refine Ok.ite_beq (λh=>Ok.pure (hk _ _ hv (.inl rfl) (by omega))) λh=>Ok.pure (hk _ _ (t2 _) (.inr (by omega)) g3)⟩
theorem zJR:∀(k:Nat) (n:Int) (o:Str),Tot (mN n o) ((0<=n/\n<=9223372036854775807/\n<(2:Int) ^ k)/\o.l.length+k<=1000) (λφ=>∀a r,0<=a->a<=9->r.l.length<=o.l.length+k->φ (a,r)):=by
 intro k
 induction k with
 | zero=>intro n o;refine⟨?_⟩;rintro⟨⟨a1,a4,a2⟩,a3⟩ φ hk;unfold mN;rw[Int.pow_zero] at a2;exact Ok.go
 | succ k ih=>
  intro n o;refine⟨?_⟩;rintro⟨⟨a1,a4,a2⟩,a3⟩ φ hk;unfold mN;refine Ok.ite_dec (λh=>?_) λh=>Ok.go;refine Ok.cat (by simp;omega) λs hs hl=>?_;have ht:0<=n.tdiv 10/\n.tdiv 10<(2:Int) ^ k/\n.tdiv 10<=n:=by
   rw[fu a1];rw[Int.pow_succ] at a2;omega
  rw[rE (by omega) (by omega)];simp only[cj,cK] at hl;refine Ok.last (ih _ _) ⟨⟨ht.1,by omega,ht.2.1⟩,by omega⟩ λa r g1 g2 g3=>hk a r g1 g2 (by omega)
theorem zIr(n:Int):Tot (pR n) (0<=n/\n<=9223372036854775807) (λφ=>∀r,r.l.length<=64->1<=r.l.length->φ r):=⟨by
 rintro⟨h0,h1⟩ φ hk;unfold pR;refine Ok.ite_dec (λh=>absurd h (by omega)) λ_=>Ok.ite_dec (λh=>absurd h (by omega)) λ_=>?_;refine Ok.call (zJR 63 n ⟨[]⟩) ⟨⟨h0,h1,by omega⟩,by decide⟩ λa r g1 g2 g3=>?_;simp only[cK] at g3;refine Ok.cat (by simp;omega) λs hs hl=>Ok.pure ?_;simp only[cj,cK] at hl;exact hk _ (by dsimp only [id];omega) (by dsimp only [id];omega)⟩
instance zPU(n:Int):Tot (pR n) (I64 n) (λφ=>∀r,r.l.length<=70->1<=r.l.length->φ r):=⟨by
 rintro⟨h0,h1⟩ φ hk
 by_cases hn:0<=n
 ·exact(zIr n).ok ⟨hn,h1⟩ φ λr g1 g2=>hk r (by omega) g2
 unfold pR
 refine Ok.ite_dec (λh=>Ok.pure (hk _ (by decide) (by decide))) λ_=>Ok.ite_dec (λh=>?_) λh=>absurd h (by omega)
 rw[rE (by omega) (by omega)]
 refine Ok.call (zIr _) ⟨by omega,by omega⟩ λr g1 g2=>?_
 refine Ok.cat (by simp;omega) λs hs hl=>Ok.pure ?_
 simp only[cj,cK] at hl
 exact hk _ (by dsimp only [id];omega) (by dsimp only [id];omega)⟩
instance zPV(n:Int)(name:Str):Tot (eY n name) (I64 n/\name.l.length<=10) (λφ=>∀r,r.l.length<=100->1<=r.l.length->φ r):=⟨by
 rintro⟨h0,h1⟩ φ hk
 have hw:=zLx (0 - n)
 unfold eY
 refine Ok.bind (φ:=λo=>I64 o.1/\o.2.l.length=1) ?_ ?_
 ·refine Ok.ite_dec (λ_=>Ok.pure ⟨hw,rfl⟩) λ_=>Ok.pure ⟨h0,rfl⟩
 rintro⟨m,sg⟩ ⟨g1,g2⟩
 dsimp only at g1 g2 ⊢
 exact Ok.go⟩
theorem zJS(a:zA)(h0:VA a):∀(k:Nat) (o:Str) (i:Int),Tot (mO a o i) ((a.Coefs.length:Int) - i<(k:Int)/\0<(k:Int)/\0<=i/\i<=4/\(o.l.length:Int)<=100*i) (λφ=>∀r,r.l.length<=400->φ r):=by
 obtain⟨h01,h02,h03⟩:=h0;intro k
 induction k with
 | zero=>intro o i;exact⟨λh=>absurd h.2.1 (by omega)⟩
 | succ k ih=>
  intro o i;refine⟨?_⟩;rintro⟨v0,v1,v2,v3,v4⟩ φ hk;unfold mO;exact Ok.go
instance zJT(a:zA)(o:Str)(i:Int):Tot (mO a o i) (VA a/\0<=i/\i<=4/\(o.l.length:Int)<=100*i) (λφ=>∀r,r.l.length<=400->φ r):=⟨by
 rintro⟨h0,v0,v1,v2⟩ φ hk
 exact(zJS a h0 (((a.Coefs.length:Int) - i).toNat+1) o i).ok ⟨by omega,by omega,v0,v1,v2⟩ φ hk⟩
instance zPW(a:zA):Tot (fC a) (VA a) (λφ=>∀r,r.l.length<=1000->φ r):=⟨by
 rintro h0 φ hk
 have h00:=h0;obtain⟨h01,h02,h03⟩:=h0
 unfold fC
 refine Ok.call (zJT a _ _) ⟨h00,by simp⟩ λo ho=>?_
 refine Ok.bind (φ:=λr=>r.l.length<=1000) Ok.go λr hr=>?_
 refine Ok.ite_beq (λ_=>Ok.pure (hk _ (by decide))) λhne=>?_
 have hp:0<r.l.length:=List.length_pos_iff.2 hne
 exact Ok.go⟩
instance zM2(a:zA):Tot (jD a) (SA a) (λφ=>∀r,r.l.length<=1000->φ r):=⟨by
 rintro h0 φ hk
 unfold jD
 refine Ok.call (zHq a) h0 λb hb=>?_
 refine Ok.ite_not (λ_=>Ok.go) λhv=>?_
 have hv:=hb hv
 exact Ok.go⟩
theorem zFd(s:Str)(h0:s.l.length<=1000000):∀(k:Nat) (i:Int) (x:zA),Tot (pO s i x) (((i<0∨(s.l.length:Int) - i+1<(k:Int))/\0<(k:Int)/\i<=(s.l.length:Int))/\VA x) (λφ=>∀r,VA r->φ r):=by
 intro k
 induction k with
 | zero=>intro i x;exact⟨λh=>absurd h.1.2.1 (by omega)⟩
 | succ k ih=>
  intro i x;refine⟨?_⟩;rintro⟨⟨v0,v1,v2⟩,v3⟩ φ hk;unfold pO;refine Ok.bind_ite (Ok.ite_dec (λh1=>Ok.bind_pure ?_) λ_=>Ok.bind_pure (Ok.ite_ff Ok.go));refine Ok.ite_dec (λh2=>Ok.call (zKc x s i) ⟨v3,h0,h1,h2⟩ λr e g1 g2 g3=>?_) λh2=>Ok.go;refine Ok.last (ih e r) ⟨⟨by omega,by omega,g3⟩,g1⟩ hk
instance zHv(s:Str):Tot (mP s) (s.l.length<=1000000) (λφ=>∀a b,SA a->φ (a,b)):=⟨by
 rintro h0 φ hk
 unfold mP
 refine Ok.call zAz trivial (Ok.ite_dec (λ_=>Ok.pure (hk _ _ SA.nil0)) λ_=>?_)
 refine Ok.call (zFd s h0 (s.l.length+2) 0 _) ⟨⟨by omega,by omega,by omega⟩,rfl,by simp[I64],by simp[I64]⟩ λx hx=>?_
 have hs:SA x:=⟨by rw[hx.1];decide,hx.2.2⟩
 exact Ok.go⟩
theorem zFe(y:List Str)(h0:y.length<=1000001)(h1:∀x∈y,x.l.length<=1000000):∀(k:Nat) (o:List zA) (i:Int),Tot (rY y o i) (3 - i<(k:Int)/\0<(k:Int)/\0<=i/\(o.length:Int)<=i/\i<=3/\(∀a∈o,SA a)) (λφ=>∀r,LL r->r.length<=100->(∀a∈r,SA a)->φ r):=by
 intro k
 induction k with
 | zero=>intro o i;exact⟨λh=>absurd h.2.1 (by omega)⟩
 | succ k ih=>
  intro o i;refine⟨?_⟩;rintro⟨v0,v1,v2,v3,v4,v5⟩ φ hk;unfold rY;exact Ok.go
instance zL4(y:List Str)(o:List zA)(i:Int):Tot (rY y o i) (y.length<=1000001/\(∀x∈y,x.l.length<=1000000)/\0<=i/\(o.length:Int)<=i/\i<=3/\(∀a∈o,SA a)) (λφ=>∀r,LL r->r.length<=100->(∀a∈r,SA a)->φ r):=⟨by
 rintro⟨h0,h1,v0,v1,v2,v3⟩ φ hk
 exact(zFe y h0 h1 ((3 - i).toNat+1) o i).ok ⟨by omega,by omega,v0,v1,v2,v3⟩ φ hk⟩
theorem up{y:List Str}{n:Nat}(h:∀x∈y,x.l.length<=n)(hn:n<=1000000):∀x∈y,x.l.length<=1000000:=λx hx=>de (h x hx) hn
instance zMl(s:Str):Tot (oE s) (s.l.length<=1000000) (λφ=>∀r,LL r->r.length<=100->(∀a∈r,SA a)->φ r):=⟨by
 rintro h0 φ hk
 unfold oE
 refine Ok.call (zIo s _) h0 λy g1 g2=>?_
 have g3:=up g2 h0
 exact Ok.go⟩
instance zL5(s:Str):Tot (zAT s) (s.l.length<=1000000) (λφ=>∀r,SL1 r->φ r):=⟨by
 rintro h0 φ hk
 unfold zAT
 refine Ok.call (zG1 s) h0 λy g1 g2=>?_
 have g3:=up g2 h0
 exact Ok.go⟩
theorem zIs(s:Str)(e:UInt8)(h0:s.l.length<=1000000):∀(k:Nat) (i:Int),Tot (nA s e i) ((s.l.length:Int) - i<(k:Int)/\0<(k:Int)/\0<=i) (λφ=>(φ (.done ()))/\(∀r b,i<=r->r<(s.l.length:Int)->s.l[r.toNat]?=some b->(b.toNat:Int)=(e.toNat:Int)->φ (.ret r))):=by
 intro k
 induction k with
 | zero=>intro i;exact⟨λh=>absurd h.2.1 (by omega)⟩
 | succ k ih=>
  intro i;refine⟨?_⟩;rintro⟨v0,v1,v2⟩ φ ⟨hd,hr⟩;unfold nA;refine Ok.ite_dec (λh=>Ok.sidx v2 h λb _ hb=>Ok.ite_beq (λhe=>Ok.pure (hr i b (by omega) h hb he)) λ_=>?_) λ_=>Ok.go;rw[rE (by omega) (by omega)];exact Ok.last (ih (i+1)) ⟨by omega,by omega,by omega⟩ ⟨hd,λr b g1=>hr r b (by omega)⟩
instance zIt(s:Str)(e:UInt8)(i:Int):Tot (nA s e i) (s.l.length<=1000000/\0<=i) (λφ=>(φ (.done ()))/\(∀r b,i<=r->r<(s.l.length:Int)->s.l[r.toNat]?=some b->(b.toNat:Int)=(e.toNat:Int)->φ (.ret r))):=⟨by
 rintro⟨h0,v0⟩ φ hk
 exact(zIs s e h0 (((s.l.length:Int) - i).toNat+1) i).ok ⟨by omega,by omega,v0⟩ φ hk⟩
instance zKd(s:Str)(i:Int)(e:UInt8):Tot (fX s i e) (s.l.length<=1000000/\0<=i) (λφ=>∀r,(r=-1∨(i<=r/\r<(s.l.length:Int)/\∃b,s.l[r.toNat]?=some b/\(b.toNat:Int)=(e.toNat:Int)))->φ r):=⟨by
 rintro⟨h0,h1⟩ φ hk
 unfold fX
 exact Ok.call (zIt s e i) ⟨h0,h1⟩ ⟨Ok.pure (hk _ (.inl rfl)),λr b g1 g2 g3 g4=>Ok.pure (hk _ (.inr ⟨g1,g2,b,g3,g4⟩))⟩⟩
instance zCR(s:Str)(i:Int):Tot (oK s i) (s.l.length<=1000000/\0<=i/\i<=1000000) (λφ=>∀a n,SC a->(n=-1∨i<n)->n<=(s.l.length:Int)->φ (a,n)):=⟨by
 rintro⟨h0,h1,h2⟩ φ hk
 unfold oK
 exact Ok.go⟩
theorem SE.node{n:Nat}{k:Int}{a b:zH}(ha:SE n a)(hb:SE n b):SE (n+1) (zH.mk k 0 (zA.mk [] 0) (zM.mk ⟨[]⟩ []) [a,b]):=
 ⟨SA.nil0,SC.nil,cE rfl,λk hk=>by
  rcases cQ.1 hk with hk|hk
  ·exact hk ▸ ha
  ·exact cF.1 hk ▸ hb⟩
theorem SE.lf{m:Nat}{k n:Int}{a:zA}{c:zM}(h1:SA a)(h2:SC c):SE m (zH.mk k n a c []):=SE.leaf (e:=zH.mk k n a c []) h1 h2 rfl
def EX0:zH:=zH.mk 0 0 (zA.mk [] 0) (zM.mk ⟨[]⟩ []) []
theorem EX0.se{n:Nat}:SE n EX0:=SE.leaf (e:=EX0) SA.nil0 SC.nil rfl
theorem zKe(s:Str)(h0:s.l.length<=1000000):∀(n:Nat) (i lv:Int),Tot (nB s i lv) (lv<=n/\n<=1000/\I64 lv) (λφ=>∀e r,SE n e->(r=-1∨(0<=i/\i<r))->r<=(s.l.length:Int)->φ (e,r)):=by
 intro n
 induction n with
 | zero=>
  intro i lv;refine⟨?_⟩;rintro⟨v0,v1,v2⟩ φ hk;unfold nB;dsimp only [same];refine Ok.bind_ite (Ok.ite_dec (λh=>Ok.bind_pure (Ok.ite_tt (Ok.pure (hk _ _ EX0.se (.inl rfl) (by omega))))) λh=>absurd h (by omega))
 | succ n ih=>
  have round:∀(i lv:Int),Tot (dX s i lv) (lv<=n/\n<=1000/\0<=i/\I64 lv) (λφ=>∀e r,SE (n+1) e->(r=-1∨(i<r))->r<=(s.l.length:Int)->φ (e,r)):=by
   intro i lv;refine⟨?_⟩;rintro⟨v0,v1,v2,v4⟩ φ hk;unfold dX;dsimp only [same];have hbad:Ok (Pure.pure (EX0,(-1:Int))) φ:=Ok.pure (hk _ _ EX0.se (.inl rfl) (by omega));refine Ok.call (ih i lv) ⟨v0,v1,v4⟩ λe1 r1 g1 g2 g3=>?_;refine Ok.bind (φ:=λb=>b=false->0<=r1/\r1<(s.l.length:Int)) Ok.go λb hb=>Ok.ite (λ_=>hbad) λhz=>?_;obtain⟨b1,b2⟩:=hb (by simpa using hz);refine Ok.sidx b1 b2 λc _ hc=>Ok.bind (φ:=λ_=>True) Ok.go λkd _=>?_;refine Ok.call (ih _ lv) ⟨v0,v1,v4⟩ λe2 r2 g4 g5 g6=>?_;rw[rE (by omega) (by omega)] at g5;refine Ok.bind (φ:=λb=>b=false->0<=r2/\r2<(s.l.length:Int)) Ok.go λb hb=>Ok.ite (λ_=>hbad) λhz=>?_;obtain⟨b3,b4⟩:=hb (by simpa using hz);refine Ok.pure ?_;rw[rE (by omega) (by omega)];exact hk _ _ (SE.node g1 g4) (.inr (by omega)) (by omega)
  intro i lv;refine⟨?_⟩;rintro⟨v0,v1,v2⟩ φ hk;unfold nB;dsimp only [same];have hbad:Ok (Pure.pure (EX0,(-1:Int))) φ:=Ok.pure (hk _ _ EX0.se (.inl rfl) (by omega));refine Ok.bind (φ:=λb=>b=false->0<=i/\i<(s.l.length:Int)/\1<=lv) Ok.go λb hb=>Ok.ite (λ_=>hbad) λhz=>?_;obtain⟨b1,b2,b3⟩:=hb (by simpa using hz);refine Ok.sidx b1 b2 λc _ hc=>Ok.ite_beq (λaH=>?_) λ_=>?_
  ·refine Ok.call (zKd s i _) ⟨h0,b1⟩ λy hy=>Ok.ite_dec (λ_=>hbad) λhy0=>?_;rcases hy with hy|⟨y1,y2,d,y3,y4⟩
   ·exact absurd hy (by omega)
   have hiy:i+1<=y:=by
    by_cases e:y=i
    ·subst e;rw[hc] at y3;cases y3
     have:((125:UInt8).toNat:Int)=125:=rfl;omega
    ·omega
   rw[rE (by omega) (by omega),rE (by omega) (by omega)];refine Ok.sslc (by omega) (by omega) (by omega) λm _ hm=>Ok.call (zHv m) (by omega) λa b ha=>Ok.pure (hk _ _ (SE.lf ha SC.nil) (.inr (by omega)) (by omega))
  ·refine Ok.bind (φ:=λ_=>True) Ok.go λt52 _=>Ok.ite (λ_=>?_) λ_=>?_
   ·refine Ok.call (zCR s i) ⟨h0,b1,by omega⟩ λa r ha g1 g2=>Ok.pure (hk _ _ (SE.lf SA.nil0 ha) (by omega) g2)
   ·refine Ok.sidx_known hc b1 (Ok.ite_beq (λ_=>?_) λ_=>?_)
    ·obtain⟨v3,v4⟩:=v2;rw[rE (x:=lv - 1) (by omega) (by omega),rE (x:=i+1) (by omega) (by omega)];refine Ok.call (round _ _) ⟨by omega,by omega,by omega,⟨by omega,by omega⟩⟩ λe r g1 g2 g3=>Ok.pure (hk _ _ g1 (by omega) g3)
    ·refine Ok.call (zG2 s i) ⟨h0,b1,by omega⟩ λn2 r g1 g2 g3=>Ok.ite_beq (λ_=>hbad) λhne=>Ok.pure (hk _ _ (SE.lf SA.nil0 SC.nil) (.inr (by omega)) g3)
instance zKf(s:Str)(i lv:Int):Tot (nB s i lv) (s.l.length<=1000000/\0<=lv/\lv<=5) (λφ=>∀e r,SE 5 e->(r=-1∨(0<=i/\i<r))->r<=(s.l.length:Int)->φ (e,r)):=⟨λ⟨h0,h1,h2⟩=>(zKe s h0 5 i lv).ok ⟨h2,by decide,⟨by omega,by omega⟩⟩⟩
theorem zG3(list:List zA)(h0:list.length<=100)(h1:∀a∈list,VA a):∀(k:Nat) (o:Str) (i:Int),Tot (qH list o i) ((list.length:Int) - i<(k:Int)/\0<(k:Int)/\0<=i/\i<=100/\(o.l.length:Int)<=1001*i) (λφ=>∀r,r.l.length<=200000->φ r):=by
 intro k
 induction k with
 | zero=>intro o i;exact⟨λh=>absurd h.2.1 (by omega)⟩
 | succ k ih=>
  intro o i;refine⟨?_⟩;rintro⟨v0,v1,v2,v3,v4⟩ φ hk;unfold qH;exact Ok.go
instance zLy(list:List zA)(o:Str)(i:Int):Tot (qH list o i) (list.length<=100/\(∀a∈list,VA a)/\0<=i/\i<=100/\(o.l.length:Int)<=1001*i) (λφ=>∀r,r.l.length<=200000->φ r):=⟨by
 rintro⟨h0,h1,v0,v1,v2⟩ φ hk
 exact(zG3 list h0 h1 (((list.length:Int) - i).toNat+1) o i).ok ⟨by omega,by omega,v0,v1,v2⟩ φ hk⟩
instance zNX(list:List zA):Tot (nE list) (list.length<=100/\(∀a∈list,VA a)) (λφ=>∀r,r.l.length<=200000->φ r):=⟨by
 rintro⟨h0,h1⟩ φ hk
 unfold nE
 exact Ok.go⟩
instance zM3(a:zM):Tot (pH a) (VC a) (λφ=>∀r,r.l.length<=200100->φ r):=⟨by
 rintro h0 φ hk
 obtain⟨h01,h02,h03⟩:=h0
 unfold pH
 exact Ok.go⟩
def TN:Nat->Nat
 | 0=>200100
 | n+1=>2*TN n+10
theorem TN.ge:∀n,200100<=TN n
 | 0=>cW _
 | n+1=>by have:=TN.ge n;simp only[TN];omega
theorem TN.mono(n:Nat):TN n<=TN (n+1):=by have:=TN.ge n;simp only[TN];omega
theorem zL6:∀(n:Nat) (e:zH),Tot (pS e) (VE n e/\TN n<=1000000000) (λφ=>∀r,r.l.length<=TN n->φ r):=by
 have base:∀(e:zH),VO e->∀φ:Str->Prop,(∀r,r.l.length<=200100->φ r)->Ok (pS e) φ:=by
  intro e he φ hk;unfold pS;rcases he with⟨h,h1⟩|⟨h,h1⟩|⟨h,h1⟩
  ·refine Ok.ite_beq (λ_=>Ok.go) λhne=>absurd h hne
  ·refine Ok.ite_beq (λhe=>absurd (h.symm.trans he) (by decide)) λ_=>Ok.ite_beq (λ_=>Ok.go) λhne=>absurd h hne
  ·refine Ok.ite_beq (λhe=>absurd (h.symm.trans he) (by decide)) λ_=>Ok.ite_beq (λhe=>absurd (h.symm.trans he) (by decide)) λ_=>Ok.ite_beq (λ_=>Ok.go) λhne=>absurd h hne
 intro n
 induction n with
 | zero=>intro e;exact⟨λ⟨h,_⟩ φ hk=>base e h φ hk⟩
 | succ n ih=>
  intro e;refine⟨?_⟩;rintro⟨h,hn⟩ φ hk;have hm:=TN.mono n;have hg:=TN.ge n;have hg2:TN (n+1)=2*TN n+10:=rfl;rcases h with h|⟨h1,h2,h3⟩
  ·exact base e h φ λr hr=>hk r (by omega)
  unfold pS;dsimp only [same];refine Ok.ite_beq (λhe=>by omega) λ_=>Ok.ite_beq (λhe=>by omega) λ_=>Ok.ite_beq (λhe=>by omega) λ_=>?_;refine Ok.idx (by omega) (by omega) λx hx _=>?_;have hx:=h3 x hx;refine Ok.call (ih x) ⟨hx,by omega⟩ λy hy=>?_;refine Ok.cat (by simp;omega) λs2 _ g2=>?_;rw[rE (x:=e.Kind - 4) (by omega) (by omega),rE (x:=e.Kind - 4+1) (by omega) (by omega)];refine Ok.sslc (by omega) (by omega) (by simp;omega) λs3 _ g3=>?_;simp only[cj,cK] at g2;refine Ok.cat (by omega) λs4 _ g4=>Ok.idx (by omega) (by omega) λx1 hx1 _=>?_;have hx1:=h3 x1 hx1;refine Ok.call (ih x1) ⟨hx1,by omega⟩ λy4 bu=>Ok.cat (by omega) λs5 _ g5=>Ok.cat (by simp;omega) λs6 _ g6=>Ok.pure (hk _ ?_);simp only[cj,cK] at g6;dsimp only [id];omega
instance zOo(e:zH):Tot (pS e) (VE 5 e) (λφ=>∀r,r.l.length<=10000000->φ r):=⟨λh φ hk=>(zL6 5 e).ok ⟨h,by decide⟩ φ λr hr=>hk r (de hr (by decide))⟩
instance zIu(s:zI):Tot (gQ s) (SS s) (λφ=>∀r,r.l.length<=100000000->φ r):=⟨by
 rintro h0 φ hk
 unfold gQ
 refine Ok.call (zEw s _) h0 λb hb=>?_
 refine Ok.ite_not (λ_=>Ok.go) λhv=>?_
 obtain⟨g1,g2⟩:=hb hv
 exact Ok.go⟩
instance zEx(s:Str):Tot (jO s) (s.l.length<=1000000) (λφ=>∀a b,SS a->φ (a,b)):=⟨by
 rintro h0 φ hk
 have e0:SS (zI.mk (zM.mk ⟨[]⟩ []) EX0):=⟨SC.nil,EX0.se⟩
 unfold jO
 refine Ok.ite_dec (λ_=>Ok.pure (hk _ _ e0)) λ_=>?_
 refine Ok.call (zCR s 0) ⟨h0,by omega,by omega⟩ λa n g1 g2 g3=>?_
 refine Ok.bind (φ:=λ_=>True) Ok.go λt _=>Ok.ite (λ_=>Ok.pure (hk _ _ e0)) λ_=>?_
 refine Ok.call (zKf s _ 5) ⟨h0,by decide,by decide⟩ λe r g4 g5 g6=>?_
 have hs:SS (zI.mk a e):=⟨g1,g4⟩
 refine Ok.call (zIu _) hs λt ht=>Ok.ite_not (λ_=>Ok.pure (hk _ _ e0)) λ_=>Ok.pure (hk _ _ hs)⟩
theorem zJU(nest:List zG)(h0:VN nest):∀(k:Nat) (o:Str) (i:Int),Tot (mR nest o i) ((nest.length:Int) - i<(k:Int)/\0<(k:Int)/\0<=i/\i<=4/\(o.l.length:Int)<=500000*i) (λφ=>∀r,r.l.length<=2000000->φ r):=by
 obtain⟨h01,h02⟩:=h0;intro k
 induction k with
 | zero=>intro o i;exact⟨λh=>absurd h.2.1 (by omega)⟩
 | succ k ih=>
  intro o i;refine⟨?_⟩;rintro⟨v0,v1,v2,v3,v4⟩ φ hk;unfold mR;refine Ok.ite_dec (λh=>Ok.cat (by simp;omega) λs1 _ g1=>Ok.idx v2 h λx hx hxi=>?_) λ_=>Ok.go;obtain⟨⟨g2,g3,g4⟩,g5,g6,g7⟩:=h02 x hx;exact Ok.go
instance zNq(nest:List zG)(o:Str)(i:Int):Tot (mR nest o i) (VN nest/\0<=i/\i<=4/\(o.l.length:Int)<=500000*i) (λφ=>∀r,r.l.length<=2000000->φ r):=⟨by
 rintro⟨h0,v0,v1,v2⟩ φ hk
 exact(zJU nest h0 (((nest.length:Int) - i).toNat+1) o i).ok ⟨by omega,by omega,v0,v1,v2⟩ φ hk⟩
instance zL7(nest:List zG):Tot (zAV nest) (VN nest) (λφ=>∀r,r.l.length<=2000000->φ r):=⟨by
 rintro h0 φ hk
 unfold zAV
 exact Ok.go⟩
theorem zEL(p:zC)(i:Int)(a:zD)(b:Nat)(h0:VR a)(h1:0<=i)(h2:i<(p.Arrays.length:Int))(h3:p.Arrays[i.toNat]?=some a)(h4:b<=1000000000):∀(k:Nat) (o:Str) (k0:Int),Tot (sK p i o k0) ((a.Dims.length:Int) - k0<(k:Int)/\0<(k:Int)/\0<=k0/\k0<=2/\(o.l.length:Int)<=b+100*k0) (λφ=>∀r,r.l.length<=b+200->φ r):=by
 obtain⟨h01,h02,h05⟩:=h0;intro k
 induction k with
 | zero=>intro o k0;exact⟨λh=>absurd h.2.1 (by omega)⟩
 | succ k ih=>
  intro o k0;refine⟨?_⟩;rintro⟨v0,v1,v2,v3,v4⟩ φ hk;unfold sK;refine Ok.idx_known h3 h1 ?_;refine Ok.ite_dec (λh=>Ok.cat (by simp;omega) λs1 _ g1=>Ok.idx_known h3 h1 (Ok.idx v2 h λx hx hxi=>?_)) λ_=>Ok.go;have hx:=h05 x hx;exact Ok.go
theorem zEM(p:zC)(i:Int)(a:zD)(b:Nat)(o:Str)(k0:Int):Tot (sK p i o k0) (VR a/\0<=i/\i<(p.Arrays.length:Int)/\p.Arrays[i.toNat]?=some a/\b<=1000000000/\0<=k0/\k0<=2/\(o.l.length:Int)<=b+100*k0) (λφ=>∀r,r.l.length<=b+200->φ r):=⟨by
 rintro⟨h0,h1,h2,h3,h4,v0,v1,v2⟩ φ hk;exact(zEL p i a b h0 h1 h2 h3 h4 (((a.Dims.length:Int) - k0).toNat+1) o k0).ok ⟨by omega,by omega,v0,v1,v2⟩ φ hk⟩
theorem zEN(p:zC)(h0:VG p):∀(k:Nat) (o:Str) (i:Int),Tot (sL p o i) ((p.Arrays.length:Int) - i<(k:Int)/\0<(k:Int)/\0<=i/\i<=4/\(o.l.length:Int)<=8+1000*i) (λφ=>∀r,r.l.length<=5000->φ r):=by
 obtain⟨⟨h01,h02⟩,h03,h04⟩:=h0;intro k
 induction k with
 | zero=>intro o i;exact⟨λh=>absurd h.2.1 (by omega)⟩
 | succ k ih=>
  intro o i;refine⟨?_⟩;rintro⟨v0,v1,v2,v3,v4⟩ φ hk;unfold sL;refine Ok.ite_dec (λh=>Ok.cat (by simp;omega) λs1 _ g1=>Ok.idx v2 h λx hx hxi=>?_) λ_=>Ok.go;obtain⟨g2,g3,g4⟩:=h02 x hx;simp only[cj,cK] at g1;refine Ok.cat (by omega) λs2 _ g5=>Ok.call (zEM p i x (o.l.length+10) s2 0) ⟨⟨g2,g3,g4⟩,v2,h,hxi,by omega,by omega,by omega,by omega⟩ λr hr=>?_;exact Ok.go
instance zEO(p:zC)(o:Str)(i:Int):Tot (sL p o i) (VG p/\0<=i/\i<=4/\(o.l.length:Int)<=8+1000*i) (λφ=>∀r,r.l.length<=5000->φ r):=⟨by
 rintro⟨h0,v0,v1,v2⟩ φ hk
 exact(zEN p h0 (((p.Arrays.length:Int) - i).toNat+1) o i).ok ⟨by omega,by omega,v0,v1,v2⟩ φ hk⟩
theorem zEP(p:zC)(i:Int)(q:zF)(b:Nat)(h0:VP q)(h1:0<=i)(h2:i<(p.Parts.length:Int))(h3:p.Parts[i.toNat]?=some q)(h4:b<=1000000000000):∀(k:Nat) (o:Str) (k0:Int),Tot (sM p i o k0) ((q.Body.length:Int) - k0<(k:Int)/\0<(k:Int)/\0<=k0/\k0<=4/\(o.l.length:Int)<=b+20000000*k0) (λφ=>∀r,r.l.length<=b+80000000->φ r):=by
 obtain⟨h01,h02,h05⟩:=h0;intro k
 induction k with
 | zero=>intro o k0;exact⟨λh=>absurd h.2.1 (by omega)⟩
 | succ k ih=>
  intro o k0;refine⟨?_⟩;rintro⟨v0,v1,v2,v3,v4⟩ φ hk;unfold sM;refine Ok.idx_known h3 h1 ?_;refine Ok.ite_dec (λh=>Ok.idx_known h3 h1 (Ok.idx v2 h λx hx hxi=>?_)) λ_=>Ok.go;obtain⟨g1,g2⟩:=h05 x hx;exact Ok.go
theorem zEQ(p:zC)(i:Int)(q:zF)(b:Nat)(o:Str)(k0:Int):Tot (sM p i o k0) (VP q/\0<=i/\i<(p.Parts.length:Int)/\p.Parts[i.toNat]?=some q/\b<=1000000000000/\0<=k0/\k0<=4/\(o.l.length:Int)<=b+20000000*k0) (λφ=>∀r,r.l.length<=b+80000000->φ r):=⟨by
 rintro⟨h0,h1,h2,h3,h4,v0,v1,v2⟩ φ hk;exact(zEP p i q b h0 h1 h2 h3 h4 (((q.Body.length:Int) - k0).toNat+1) o k0).ok ⟨by omega,by omega,v0,v1,v2⟩ φ hk⟩
theorem zER(p:zC)(h0:VG p):∀(k:Nat) (o:Str) (i:Int),Tot (sN p o i) ((p.Parts.length:Int) - i<(k:Int)/\0<(k:Int)/\0<=i/\i<=4/\(o.l.length:Int)<=5000+100000000*i) (λφ=>∀r,r.l.length<=1000000000->φ r):=by
 obtain⟨⟨h01,h02⟩,h03,h04⟩:=h0;intro k
 induction k with
 | zero=>intro o i;exact⟨λh=>absurd h.2.1 (by omega)⟩
 | succ k ih=>
  intro o i;refine⟨?_⟩;rintro⟨v0,v1,v2,v3,v4⟩ φ hk;unfold sN;refine Ok.ite_dec (λh=>Ok.cat (by simp;omega) λs1 _ g1=>Ok.idx v2 h λx hx hxi=>?_) λ_=>Ok.go;obtain⟨g2,g3,g4⟩:=h04 x hx;simp only[cj,cK] at g1;refine Ok.call (zL7 x.Nest) g2 λy hy=>Ok.cat (by omega) λs2 _ g5=>Ok.call (zEQ p i x (o.l.length+2000010) s2 0) ⟨⟨g2,g3,g4⟩,v2,h,hxi,by omega,by omega,by omega,by omega⟩ λr hr=>?_;exact Ok.go
instance zKg(p:zC)(o:Str)(i:Int):Tot (sN p o i) (VG p/\0<=i/\i<=4/\(o.l.length:Int)<=5000+100000000*i) (λφ=>∀r,r.l.length<=1000000000->φ r):=⟨by
 rintro⟨h0,v0,v1,v2⟩ φ hk
 exact(zER p h0 (((p.Parts.length:Int) - i).toNat+1) o i).ok ⟨by omega,by omega,v0,v1,v2⟩ φ hk⟩
instance zLz(p:zC):Tot (kM p) (SG 1000 p) (λφ=>∀r,r.l.length<=1000000000->φ r):=⟨by
 rintro h0 φ hk
 unfold kM
 refine Ok.call (zDA p) h0 λb hb=>?_
 refine Ok.ite_not (λ_=>Ok.go) λhv=>?_
 have hv:=hb hv
 refine Ok.call (zEO p _ 0) ⟨hv,by omega,by omega,by simp⟩ λo ho=>?_
 exact Ok.go⟩
theorem zG4{α:Type}{P Q:α->Prop}{l:List α}(h:∀x∈l,P x)(hm:∀x,P x->Q x):∀x∈l,Q x:=λx hx=>hm x (h x hx)
theorem SN.mono{b:Nat}{l:List zG}(h:SN b l):SN (b+1) l:=⟨by have:=h.1;omega,h.2⟩
theorem SP.mono{b:Nat}{p:zF}(h:SP b p):SP (b+1) p:=⟨h.1.mono,by have:=h.2.1;omega,h.2.2⟩
theorem SRs.mono{b:Nat}{l:List zD}(h:SRs b l):SRs (b+1) l:=⟨by have:=h.1;omega,h.2⟩
theorem SG.mono{b:Nat}{p:zC}(h:SG b p):SG (b+1) p:=⟨h.1.mono,by have:=h.2.1;omega,zG4 h.2.2 λ_=>SP.mono⟩
theorem SG.up{b:Nat}:∀{c:Nat}{p:zC},SG b p->SG (b+c) p
 | 0,_,h=>h
 | c+1,_,h=>(SG.up (c:=c) h).mono
theorem zE1{α:Type}{P:α->Prop}{l:List α}{x:α}(h:∀y∈l,P y)(hx:P x)(k:Nat):∀y∈l.set k x,P y:=by
 intro y hy;rcases fw hy with hy|hy
 ·exact h y hy
 ·exact hy ▸ hx
theorem zIB{α:Type}{l:List α}{a:α}{b:Nat}(h:l.length<=b):(l++[a]).length<=b+1:=by simp;omega
theorem SG.addA{b:Nat}{p:zC}{a:zD}(h:SG b p)(ha:SR a):SG (b+1) (zC.mk (p.Arrays++[a]) p.Parts):=
 ⟨⟨zIB h.1.1,zDV h.1.2 ha⟩,f1 h.2.1,zG4 h.2.2 λ_=>SP.mono⟩
theorem SG.addP{b:Nat}{p:zC}{a:zF}(h:SG b p)(ha:SP (b+1) a):SG (b+1) (zC.mk p.Arrays (p.Parts++[a])):=
 ⟨h.1.mono,zIB h.2.1,zDV (zG4 h.2.2 λ_=>SP.mono) ha⟩
theorem SG.setP{b:Nat}{p:zC}{a:zF}(h:SG b p)(ha:SP (b+1) a)(k:Nat):SG (b+1) (zC.mk p.Arrays (p.Parts.set k a)):=
 ⟨h.1.mono,f1 (de (Nat.le_of_eq cP) h.2.1),zE1 (zG4 h.2.2 λ_=>SP.mono) ha k⟩
theorem SP.addN{b:Nat}{q:zF}{x:zG}(h:SP b q)(hx:SL1 x):SP (b+1) (zF.mk (q.Nest++[x]) q.Body):=
 ⟨⟨zIB h.1.1,zDV h.1.2 hx⟩,f1 h.2.1,h.2.2⟩
theorem SP.addB{b:Nat}{q:zF}{x:zI}(h:SP b q)(hx:SS x):SP (b+1) (zF.mk q.Nest (q.Body++[x])):=
 ⟨h.1.mono,zIB h.2.1,zDV h.2.2 hx⟩
theorem SP.nil{b:Nat}:SP b (zF.mk [] []):=⟨⟨et _,λ_ h=>absurd h dm⟩,et _,λ_ h=>absurd h dm⟩
theorem zL8(b:Nat)(p:zC)(s:Str):Tot (zAU p s) ((SG b p/\b<=900)/\s.l.length<=1000000) (λφ=>∀r,SG (b+1) r->φ r):=⟨by
 rintro⟨⟨h0,h1⟩,h2⟩ φ hk;obtain⟨⟨h3,h4⟩,h5,h6⟩:=id h0;unfold zAU;refine Ok.call (zG1 s) h2 λy g1 g2=>?_;have g3:=up g2 h2;refine Ok.bind (φ:=λ_=>True) Ok.go λt _=>Ok.ite (λ_=>?_) λ_=>Ok.ite_beq (λ_=>?_) λ_=>?_
 ·exact Ok.call (zKb y) ⟨by omega,g3⟩ λa ha=>Ok.app S (Ok.pure (hk _ (h0.addA ha)))
 ·exact Ok.app S (Ok.pure (hk _ (h0.addP SP.nil)))
 rw[rE (x:=(p.Parts.length:Int) - 1) (by omega) (by omega)];refine Ok.bind (φ:=λb=>b=true->1<=p.Parts.length) Ok.go λt ht=>Ok.ite (λhz=>?_) λ_=>Ok.ite_dec (λhz=>?_) λ_=>Ok.pure (hk _ h0.mono)
 ·have hz:=ht hz;refine Ok.idx (by omega) (by omega) λq hq _=>?_;have hq:=h6 q hq;have q1:=hq.1.1;exact Ok.call (zL5 s) h2 λx hx=>Ok.app S (Ok.pure (hk _ (h0.setP (hq.addN hx) _)))
 ·refine Ok.idx (by omega) (by omega) λq hq _=>?_;have hq:=h6 q hq;have q1:=hq.2.1;exact Ok.call (zEx s) h2 λx c hx=>Ok.app S (Ok.pure (hk _ (h0.setP (hq.addB hx) _)))⟩
theorem zEk(y:List Str)(h0:y.length<=100)(h1:∀x∈y,x.l.length<=1000000):∀(k:Nat) (b:Nat) (p:zC) (i:Int),((y.length:Int) - i<(k:Int)/\0<(k:Int)/\0<=i/\(b:Int)<=i/\i<=100)->SG b p->∀φ:zC->Prop,(∀r,SG 1000 r->φ r)->Ok (qW y p i) φ:=by
 intro k
 induction k with
 | zero=>intro b p i h;exact absurd h.2.1 (by omega)
 | succ k ih=>
  rintro b p i ⟨v0,v1,v2,v3,v5⟩ v4 φ hk;unfold qW;rw[rE (by omega) (by omega)];refine Ok.ite_dec (λh=>Ok.idx v2 (by omega) λx hx _=>?_) λh=>?_
  ·refine Ok.call (zL8 b p x) ⟨⟨v4,by omega⟩,h1 x hx⟩ λr hr=>?_;exact ih (b+1) r _ ⟨by omega,by omega,by omega,by omega,by omega⟩ hr φ hk
  ·have:=SG.up (c:=1000 - b) v4;rw[show b+(1000 - b)=1000 by omega] at this;exact Ok.pure (hk _ this)
theorem SG.nil:SG 1000 (zC.mk [] []):=⟨⟨by simp,by simp⟩,by simp,by simp⟩
instance zHN(s:Str):Tot (jE s) (s.l.length<=1000000) (λφ=>∀p b,SG 1000 p->φ (p,b)):=⟨by
 rintro h0 φ hk
 unfold jE
 refine Ok.call (zIo s _) h0 λy g1 g2=>Ok.ite_dec (λ_=>Ok.pure (hk _ _ SG.nil)) λhy=>?_
 refine Ok.bind (φ:=λp=>SG 1000 p) (zEk y (by omega) (up g2 h0) (y.length+2) 0 _ 1 ⟨by omega,by omega,by omega,by omega,by omega⟩ ⟨⟨by simp,by simp⟩,by simp,by simp⟩ _ λ_ h=>h) λp hp=>?_
 refine Ok.bind (φ:=λ_=>True) Ok.go λt _=>Ok.ite (λ_=>Ok.pure (hk _ _ SG.nil)) λ_=>Ok.pure (hk _ _ hp)⟩
instance zE2(v:Int):Tot (jH v) (0<=v/\v<4) (λφ=>∀r,r.Coefs.length=4->r.Const=0->φ r):=⟨by
 rintro⟨h0,h1⟩ φ hk
 unfold jH
 refine Ok.call zAz trivial (Ok.idx h0 (by simp;omega) λx _ _=>Ok.bind_pure (Ok.pure (hk _ (by simp) rfl)))⟩
theorem zHO(a:zA)(x:Int)(b:zA)(y:Int)(h0:a.Coefs.length=4)(h1:b.Coefs.length=4):∀(k:Nat) (i:Int) (o:List Int),Tot (pI a x b y i o) (4 - i<(k:Int)/\0<(k:Int)/\0<=i/\i<=4/\(o.length:Int)=i) (λφ=>∀r,r.length=4->φ r):=by
 intro k
 induction k with
 | zero=>intro i o;exact⟨λh=>absurd h.2.1 (by omega)⟩
 | succ k ih=>
  intro i o;refine⟨?_⟩;rintro⟨v0,v1,v2,v3,v4⟩ φ hk;unfold pI;exact Ok.go
instance zM4(a:zA)(x:Int)(b:zA)(y:Int)(i:Int)(o:List Int):Tot (pI a x b y i o) (a.Coefs.length=4/\b.Coefs.length=4/\0<=i/\i<=4/\(o.length:Int)=i) (λφ=>∀r,r.length=4->φ r):=⟨by
 rintro⟨h0,h1,v0,v1,v2⟩ φ hk
 exact(zHO a x b y h0 h1 ((4 - i).toNat+1) i o).ok ⟨by omega,by omega,v0,v1,v2⟩ φ hk⟩
instance zJV(a:zA)(x:Int)(b:zA)(y:Int):Tot (jP a x b y) (a.Coefs.length=4/\b.Coefs.length=4) (λφ=>∀r,r.Coefs.length=4->I64 r.Const->φ r):=⟨by
 rintro⟨h0,h1⟩ φ hk
 unfold jP
 exact Ok.go⟩
theorem LL.one{a:zA}(h:SA a):LL [a]:=⟨cE rfl,λ_ h'=>cF.1 h' ▸ h⟩
theorem LL.two{a b:zA}(h:SA a)(h2:SA b):LL ([a]++[b]):=⟨cE rfl,zDV (LL.one h).2 h2⟩
theorem SA.c4{y:Int}(h:I64 y):SA (zA.mk [0,0,0,0] y):=⟨cE rfl,h⟩
instance zPX(r:zQ)(ae:Int):Tot (zAW r ae) (0<=r.p/\r.p<=900000000/\0<=ae/\ae<=4) (λφ=>∀a s,SL1 a->r.p<=s.p->s.p<=r.p+20->φ (a,s)):=⟨by
 rintro⟨h0,h1,h2,h3⟩ φ hk
 unfold zAW
 refine Ok.call (uO r _) ⟨by decide,h0,by omega,by decide⟩ λy1 s1 _ g1 e1=>Ok.call (gU _) trivial ?_
 refine Ok.call (uO s1 _) ⟨by decide,by omega,by omega,by decide⟩ λy2 s2 _ g2 e2=>Ok.call (gU _) trivial ?_
 have a1:=SA.c4 g1
 have a2:=SA.c4 g2
 refine Ok.bind (φ:=λo=>r.p<=o.2.p/\o.2.p<=r.p+3) Ok.go ?_
 rintro⟨t,x⟩ ⟨g3,g4⟩
 dsimp only at g3 g4 ⊢
 refine Ok.bind (φ:=λo=>SA o.1/\SA o.2.1/\r.p<=o.2.2.p/\o.2.2.p<=r.p+6) (Ok.ite (λ_=>?_) λ_=>Ok.go) ?_
 ·refine Ok.call (zA3 x _) ⟨by omega,by omega⟩ λy s k1 k2 k3=>Ok.call (zA3 s _) ⟨by omega,by omega⟩ λz u k4 k5 k6=>?_
  refine Ok.bind (φ:=λo=>SA o.1/\SA o.2) (Ok.ite_beq (λ_=>?_) λ_=>?_) ?_
  ·exact Ok.call (zE2 y) ⟨k1,by omega⟩ λb c1 c2=>Ok.pure ⟨⟨by dsimp only;omega,by dsimp only;rw[c2];decide⟩,a2⟩
  ·exact Ok.call (zE2 y) ⟨k1,by omega⟩ λb c1 c2=>Ok.call (gU _) trivial (Ok.call (zJV b 1 _ 1) ⟨c1,rfl⟩ λd c3 c4=>Ok.pure ⟨a1,⟨by dsimp only;omega,c4⟩⟩)
  rintro⟨b,c⟩ ⟨c1,c2⟩
  exact Ok.pure ⟨c1,c2,by dsimp only at *;omega,by dsimp only at *;omega⟩
 rintro⟨b,c,u⟩ ⟨b1,b2,b3,b4⟩
 dsimp only at b1 b2 b3 b4 ⊢
 refine Ok.call (zA3 u _) ⟨by omega,by omega⟩ λy s k1 k2 k3=>?_
 refine Ok.bind (φ:=λo=>LL o.1/\LL o.2.1/\r.p<=o.2.2.p/\o.2.2.p<=r.p+20) (Ok.ite_beq (λ_=>?_) λ_=>?_) ?_
 ·refine Ok.call (uO s _) ⟨by decide,by omega,by omega,by decide⟩ λy3 s3 _ g3 e3=>Ok.call (gU _) trivial (Ok.app S (Ok.pure ⟨LL.one b1,LL.two b2 (SA.c4 g3),by dsimp only;omega,by dsimp only;omega⟩))
 ·refine Ok.bind (φ:=λo=>LL o.1/\r.p<=o.2.p/\o.2.p<=r.p+20) (Ok.ite_beq (λ_=>?_) λ_=>Ok.pure ⟨LL.one b1,by dsimp only;omega,by dsimp only;omega⟩) ?_
  ·refine Ok.call (uO s _) ⟨by decide,by omega,by omega,by decide⟩ λy3 s3 _ g3 e3=>Ok.call (gU _) trivial (Ok.app S (Ok.pure ⟨LL.two b1 (SA.c4 g3),by dsimp only;omega,by dsimp only;omega⟩))
  rintro⟨d,w⟩ ⟨d1,d2,d3⟩
  exact Ok.pure ⟨d1,LL.one b2,d2,d3⟩
 rintro⟨d,e,w⟩ ⟨d1,d2,d3,d4⟩
 exact Ok.pure (hk _ _ ⟨d1,d2⟩ d3 d4)⟩
theorem zJW :∀(k:Nat) (o:List zG) (i:Int) (r:zQ),Tot (mS o i r) (i<(k:Int)/\0<(k:Int)/\i<=3/\0<=i/\(o.length:Int)+i<=4/\0<=r.p/\r.p+20*i<=800000100/\(∀x∈o,SL1 x)) (λφ=>∀a s,SN 1000 a->a.length<=4->r.p<=s.p->s.p<=r.p+20*i->φ (a,s)):=by
 intro k
 induction k with
 | zero=>intro o i r;exact⟨λh=>absurd h.2.1 (by omega)⟩
 | succ k ih=>
  intro o i r;refine⟨?_⟩;rintro⟨v0,v1,v2,v3,v4,v5,v6,v7⟩ φ hk;unfold mS;exact Ok.go
instance zNr  (o:List zG) (i:Int) (r:zQ):Tot (mS o i r) (i<=3/\0<=i/\(o.length:Int)+i<=4/\0<=r.p/\r.p+20*i<=800000100/\(∀x∈o,SL1 x)) (λφ=>∀a s,SN 1000 a->a.length<=4->r.p<=s.p->s.p<=r.p+20*i->φ (a,s)):=⟨by
 rintro⟨v0,v1,v2,v3,v4,v5⟩ φ hk
 exact(zJW ((i).toNat+1) o i r).ok ⟨by omega,by omega,v0,v1,v2,v3,v4,v5⟩ φ hk⟩
instance zL9(r:zQ):Tot (zAX r) (0<=r.p/\r.p<=800000000) (λφ=>∀a s,SN 1000 a->a.length<=4->r.p<=s.p->s.p<=r.p+100->φ (a,s)):=⟨by
 rintro⟨h0,h1⟩ φ hk
 unfold zAX
 refine Ok.call (uO r _) ⟨by decide,h0,by omega,by decide⟩ λy s g1 g2 g3=>?_
 simp only[cQ,dm,or_false] at g1
 exact Ok.go⟩
theorem zJX(ae:Int)(n:Int)(h0:0<=ae)(h1:ae<=4)(h2:n<=2):∀(k:Nat) (i:Int) (o:List zA) (r:zQ),Tot (mT ae n i o r) (n - i<(k:Int)/\0<(k:Int)/\0<=i/\i<=2/\(o.length:Int)<=i/\0<=r.p/\r.p<=900000000+10*i/\(∀x∈o,SA x)) (λφ=>∀a s,a.length<=100->(∀x∈a,SA x)->r.p<=s.p->s.p<=r.p+20 - 10*i->φ (a,s)):=by
 intro k
 induction k with
 | zero=>intro i o r;exact⟨λh=>absurd h.2.1 (by omega)⟩
 | succ k ih=>
  intro i o r;refine⟨?_⟩;rintro⟨v0,v1,v2,v3,v4,v5,v6,v7⟩ φ hk;unfold mT;exact Ok.go
instance zNs(ae:Int)(n:Int)(i:Int)(o:List zA)(r:zQ):Tot (mT ae n i o r) (0<=ae/\ae<=4/\n<=2/\0<=i/\i<=2/\(o.length:Int)<=i/\0<=r.p/\r.p<=900000000+10*i/\(∀x∈o,SA x)) (λφ=>∀a s,a.length<=100->(∀x∈a,SA x)->r.p<=s.p->s.p<=r.p+20 - 10*i->φ (a,s)):=⟨by
 rintro⟨h0,h1,h2,v0,v1,v2,v3,v4,v5⟩ φ hk
 exact(zJX ae n h0 h1 h2 ((n - i).toNat+1) i o r).ok ⟨by omega,by omega,v0,v1,v2,v3,v4,v5⟩ φ hk⟩
instance zIv(r:zQ)(ae:Int):Tot (fG r ae) (0<=r.p/\r.p<=800000000/\0<=ae/\ae<=4) (λφ=>∀a s,SC a->r.p<=s.p->s.p<=r.p+30->φ (a,s)):=⟨by
 rintro⟨h0,h1,h2,h3⟩ φ hk
 unfold fG
 refine Ok.call (zB6 r _) ⟨by decide,h0,by omega⟩ λy s g1 g2=>?_
 have hy:y.l.length<=1:=by
  simp only[cQ,dm,or_false] at g1
  rcases g1 with rfl|rfl|rfl|rfl <;> decide
 exact Ok.go⟩
theorem zJY(ae:Int)(h0:0<=ae)(h1:ae<=4):∀(k:Nat) (i:Int) (o:List Int) (r:zQ),Tot (mU ae i o r) (ae - i<(k:Int)/\0<(k:Int)/\0<=i/\i<=4/\o.length=4/\0<=r.p/\r.p<=900000000+i) (λφ=>∀a s,a.length=4->r.p<=s.p->s.p<=r.p+4 - i->φ (a,s)):=by
 intro k
 induction k with
 | zero=>intro i o r;exact⟨λh=>absurd h.2.1 (by omega)⟩
 | succ k ih=>
  intro i o r;refine⟨?_⟩;rintro⟨v0,v1,v2,v3,v4,v5,v6⟩ φ hk;unfold mU;exact Ok.go
instance zNt(ae:Int)(i:Int)(o:List Int)(r:zQ):Tot (mU ae i o r) (0<=ae/\ae<=4/\0<=i/\i<=4/\o.length=4/\0<=r.p/\r.p<=900000000+i) (λφ=>∀a s,a.length=4->r.p<=s.p->s.p<=r.p+4 - i->φ (a,s)):=⟨by
 rintro⟨h0,h1,v0,v1,v2,v3,v4⟩ φ hk
 exact(zJY ae h0 h1 ((ae - i).toNat+1) i o r).ok ⟨by omega,by omega,v0,v1,v2,v3,v4⟩ φ hk⟩
instance zLa(r:zQ)(ae:Int):Tot (eZ r ae) (0<=r.p/\r.p<=800000000/\0<=ae/\ae<=4) (λφ=>∀a s,SA a->a.Coefs.length=4->r.p<=s.p->s.p<=r.p+10->φ (a,s)):=⟨by
 rintro⟨h0,h1,h2,h3⟩ φ hk
 unfold eZ
 exact Ok.go⟩
def PN:Nat->Nat
 | 0=>50
 | n+1=>2*PN n+50
theorem SE.kids{n:Nat}{k:Int}{l:List zH}(h:l.length<=10)(hl:∀x∈l,SE n x):SE (n+1) (zH.mk k 0 (zA.mk [] 0) (zM.mk ⟨[]⟩ []) l):=⟨SA.nil0,SC.nil,h,hl⟩
theorem zKh(ae:Int)(hd0:0<=ae)(hd1:ae<=4):∀(n:Nat) (r:zQ) (lv:Int),Tot (nH r ae lv) (lv<=n+1/\0<=lv/\n<=10/\0<=r.p/\r.p+PN n<=800000000) (λφ=>∀e s,SE n e->r.p<=s.p->s.p<=r.p+PN n->φ (e,s)):=by
 intro n;have leaf:∀(m:Nat) (x:zQ),Tot (do
  let (y4,y5)<-xN x 4
  if(y4==0) then
   let (y7,y8)<-xI y5 ([1,2,0,99,3]:List Int)
   pure ((zH.mk 1 y7 (zA.mk ([]:List Int) 0) (zM.mk (⟨[]⟩:Str) ([]:List zA)) ([]:List zH)),y8)
  else
   if(y4==1) then
    let (y10,y11)<-eZ y5 ae
    pure ((zH.mk 2 0 y10 (zM.mk (⟨[]⟩:Str) ([]:List zA)) ([]:List zH)),y11)
   else
    let (y13,y14)<-fG y5 ae
    pure ((zH.mk 3 0 (zA.mk ([]:List Int) 0) y13 ([]:List zH)),y14)) (0<=x.p/\x.p<=799999999) (λφ=>∀e s,SE m e->x.p<=s.p->s.p<=x.p+40->φ (e,s)):=by
  intro m x;refine⟨?_⟩;rintro⟨h0,h1⟩ φ hk;refine Ok.call (zA3 x 4) ⟨h0,by omega⟩ λy s k1 k2 k3=>?_;refine Ok.ite_beq (λ_=>?_) λ_=>Ok.ite_beq (λ_=>?_) λ_=>?_
  ·exact Ok.call (uO s _) ⟨by decide,by omega,by omega,by decide⟩ λy3 s3 _ g3 e3=>Ok.pure (hk _ _ (SE.lf SA.nil0 SC.nil) (by omega) (by omega))
  ·exact Ok.call (zLa s ae) ⟨by omega,by omega,hd0,hd1⟩ λa s3 g3 _ e3 e4=>Ok.pure (hk _ _ (SE.lf g3 SC.nil) (by omega) (by omega))
  ·exact Ok.call (zIv s ae) ⟨by omega,by omega,hd0,hd1⟩ λa s3 g3 e3 e4=>Ok.pure (hk _ _ (SE.lf SA.nil0 g3) (by omega) (by omega))
 induction n with
 | zero=>
  intro r lv;refine⟨?_⟩;rintro⟨v0,v1,v2,v3,v4⟩ φ hk;unfold nH;dsimp only [same];have hp:PN 0=50:=rfl;refine Ok.bind_ite (Ok.ite_dec (λ_=>Ok.bind_pure (Ok.ite_tt ?_)) λh=>absurd h (by omega));exact(leaf 0 r).ok ⟨v3,by omega⟩ φ λe s g1 g2 g3=>hk e s g1 g2 (by omega)
 | succ n ih=>
  intro r lv;refine⟨?_⟩;rintro⟨v0,v1,v2,v3,v4⟩ φ hk;unfold nH;dsimp only [same];have hp:PN (n+1)=2*PN n+50:=rfl;refine Ok.bind (φ:=λo=>(o.1=false->2<=lv)/\r.p<=o.2.p/\o.2.p<=r.p+1) ?_ ?_
  ·refine Ok.ite_dec (λ_=>Ok.pure ⟨λh=>(by cases h),by dsimp only;omega,by dsimp only;omega⟩) λh=>Ok.call (zA3 r 4) ⟨v3,by omega⟩ λy s k1 k2 k3=>Ok.pure ⟨λ_=>by omega,by dsimp only;omega,by dsimp only;omega⟩
  rintro⟨t,x⟩ ⟨g1,g2,g3⟩;dsimp only at g1 g2 g3 ⊢;refine Ok.ite (λ_=>?_) λhz=>?_
  ·exact(leaf (n+1) x).ok ⟨by omega,by omega⟩ φ λe s g1 g2 g3=>hk e s g1 (by omega) (by omega)
  have g1:=g1 (by simpa using hz);refine Ok.call (uO x _) ⟨by decide,by omega,by omega,by decide⟩ λy3 s3 _ _ e3=>?_;have hl:∀(k:Nat) (i:Int) (o:List zH) (x1:zQ),Tot (kQ ae lv i o x1) ((2 - i<=k/\0<=i/\i<=2/\k<=2/\(o.length:Int)=i/\0<=x1.p/\x1.p+k*PN n<=800000000)/\∀x∈o,SE n x) (λφ=>∀a s,a.length<=10->(∀x∈a,SE n x)->x1.p<=s.p->s.p<=x1.p+k*PN n->φ (a,s)):=by
   intro k
   induction k with
   | zero=>intro i o x1;refine⟨?_⟩;rintro⟨⟨a1,a2,a3,a4,a5,a6,a7⟩,a8⟩ φ hk;unfold kQ;dsimp only [same];exact Ok.ite_dec (λh=>absurd h (by omega)) λ_=>Ok.pure (hk _ _ (by omega) a8 (by omega) (by omega))
   | succ k ik=>
    intro i o x1;refine⟨?_⟩;rintro⟨⟨a1,a2,a3,a4,a5,a6,a7⟩,a8⟩ φ hk;unfold kQ;dsimp only [same];have e1:((k+1:Nat):Int)*PN n=k*PN n+PN n:=by rw[Int.natCast_add,Int.add_mul];simp
    rw[e1] at a7 hk;have hkn:0<=(k:Int)*PN n:=Int.mul_nonneg (by omega) (by omega);refine Ok.ite_dec (λh=>?_) λ_=>Ok.pure (hk _ _ (by omega) a8 (by omega) (by omega));rw[rE (by omega) (by omega)];refine Ok.call (ih x1 _) ⟨by omega,by omega,by omega,by omega,by omega⟩ λe s g1 g2 g3=>Ok.app S ?_;rw[rE (by omega) (by omega)];exact Ok.last (ik _ _ s) ⟨⟨by omega,by omega,by omega,by omega,by simp;omega,by omega,by omega⟩,zDV a8 g1⟩ λa u h1 h2 h3 h4=>hk a u h1 h2 (by omega) (by omega)
  refine Ok.call (hl 2 0 [] s3) ⟨⟨by omega,by omega,by omega,by omega,rfl,by omega,by omega⟩,λ_ h=>absurd h dm⟩ λa u h1 h2 h3 h4=>by
   dsimp only;exact Ok.pure (hk _ u (SE.kids h1 h2) (by omega) (by omega))
instance zKi(r:zQ)(ae lv:Int):Tot (nH r ae lv) (0<=r.p/\r.p<=700000000/\0<=ae/\ae<=4/\0<=lv/\lv<=6) (λφ=>∀e s,SE 5 e->r.p<=s.p->s.p<=r.p+5000->φ (e,s)):=⟨λ⟨h0,h1,h2,h3,h4,h5⟩ φ hk=>by
 have hp:PN 5=3150:=rfl
 exact(zKh ae h2 h3 5 r lv).ok ⟨by omega,h4,by omega,h0,by omega⟩ φ λe s g1 g2 g3=>hk e s g1 g2 (by omega)⟩
instance zLb(r:zQ)(ae:Int):Tot (zAY r ae) (0<=r.p/\r.p<=600000000/\0<=ae/\ae<=4) (λφ=>∀a s,SS a->r.p<=s.p->s.p<=r.p+6000->φ (a,s)):=⟨by
 rintro⟨h0,h1,h2,h3⟩ φ hk
 unfold zAY
 refine Ok.call (zIv r ae) ⟨h0,by omega,h2,h3⟩ λa s g1 g2 g3=>?_
 refine Ok.call (uO s _) ⟨by decide,by omega,by omega,by decide⟩ λy3 s3 g4 _ e3=>?_
 simp only[cQ,dm,or_false] at g4
 refine Ok.call (zKi s3 ae y3) ⟨by omega,by omega,h2,h3,by omega,by omega⟩ λe u g5 g6 g7=>?_
 have hs:SS (zI.mk a e):=⟨g1,g5⟩
 refine Ok.call (zEw _ ae) hs λb _=>Ok.ite (λ_=>Ok.pure (hk _ _ hs (by omega) (by omega))) λ_=>Ok.call zAz trivial (Ok.pure (hk _ _ ⟨⟨by decide,by decide,λ_ h=>cF.1 h ▸ SA.c4 (by decide)⟩,SE.lf SA.nil0 SC.nil⟩ (by omega) (by omega)))⟩
theorem zIw(z:List Int)(h0:z.length<=4):∀(k:Nat) (o:List zG) (i:Int),Tot (nI z o i) ((z.length:Int) - i<(k:Int)/\0<(k:Int)/\0<=i/\(o.length:Int)=i/\i<=4/\(∀x∈o,SL1 x)) (λφ=>(∀o,SN 1000 o->φ (.done o))/\(φ (.ret ([],false)))):=by
 intro k
 induction k with
 | zero=>intro o i;exact⟨λh=>absurd h.2.1 (by omega)⟩
 | succ k ih=>
  intro o i;refine⟨?_⟩;rintro⟨v0,v1,v2,v3,v4,v5⟩ φ ⟨hd,hr⟩;unfold nI;refine Ok.ite_dec (λh=>?_) λ_=>Ok.go;refine Ok.bind (φ:=λb=>b=false->∀x,z[i.toNat]?=some x->0<=x/\x<=99) ?_ ?_
  ·refine Ok.idx v2 h λx _ hx=>Ok.ite_dec (λ_=>Ok.pure λh=>by cases h) λg=>Ok.idx_known hx v2 (Ok.pure λhb y hy=>?_);rw[hx] at hy;cases hy
   have:=of_decide_eq_false hb;omega
  intro b hb;refine Ok.ite (λ_=>Ok.pure hr) λhz=>Ok.call zAz trivial (Ok.idx v2 h λx _ hx=>Ok.call (gU x) trivial (Ok.app S ?_));obtain⟨b1,b2⟩:=hb (by simpa using hz) x hx;have hx:SL1 (zG.mk [zA.mk [0,0,0,0] 0] [zA.mk [0,0,0,0] x]):=⟨LL.one (SA.c4 (by decide)),LL.one (SA.c4 ⟨by omega,by omega⟩)⟩;exact Ok.go
instance zNY(z:List Int)(o:List zG)(i:Int):Tot (nI z o i) (z.length<=4/\0<=i/\(o.length:Int)=i/\i<=4/\(∀x∈o,SL1 x)) (λφ=>(∀o,SN 1000 o->φ (.done o))/\(φ (.ret ([],false)))):=⟨by
 rintro⟨h0,v0,v1,v2,v3⟩ φ hk
 exact(zIw z h0 (((z.length:Int) - i).toNat+1) o i).ok ⟨by omega,by omega,v0,v1,v2,v3⟩ φ hk⟩
instance zKj(z:List Int):Tot (zAB z) (True) (λφ=>∀o b,SN 1000 o->φ (o,b)):=⟨by
 rintro _ φ hk
 unfold zAB
 exact Ok.go⟩
theorem SP.one{y:List zG}{a:zI}(h:SN 1000 y)(ha:SS a):SP 1000 (zF.mk y [a]):=⟨h,cE rfl,λ_ h=>cF.1 h ▸ ha⟩
theorem zJZ(y:List zG)(h0:SN 1000 y)(h1:y.length<=4):∀(k:Nat) (o:List zI) (n:Int) (r:zQ),Tot (mV y o n r) (5 - n<(k:Int)/\0<(k:Int)/\0<=n/\n<=5/\o.length<=100/\(∀x∈o,SS x)/\0<=r.p/\r.p+6000*(5 - n)<=500000000) (λφ=>∀a s,a.length<=o.length+1->(∀x∈a,SS x)->r.p<=s.p->s.p<=r.p+6000*(5 - n)->φ (a,s)):=by
 intro k
 induction k with
 | zero=>intro o n r;exact⟨λh=>absurd h.2.1 (by omega)⟩
 | succ k ih=>
  intro o n r;refine⟨?_⟩;rintro⟨v0,v1,v2,v3,v4,v5,v6,v7⟩ φ hk;unfold mV;refine Ok.ite_dec (λh=>?_) λ_=>Ok.go;refine Ok.call (zLb r _) ⟨by omega,by omega,by omega,by omega⟩ λa s g1 g2 g3=>Ok.call zDW trivial λl hl=>?_;refine Ok.call (zIn l _) ⟨hl,SP.one h0 g1⟩ λm b _=>?_;dsimp only;exact Ok.go
instance zNu(y:List zG)(o:List zI)(n:Int)(r:zQ):Tot (mV y o n r) (SN 1000 y/\y.length<=4/\0<=n/\n<=5/\o.length<=100/\(∀x∈o,SS x)/\0<=r.p/\r.p+6000*(5 - n)<=500000000) (λφ=>∀a s,a.length<=o.length+1->(∀x∈a,SS x)->r.p<=s.p->s.p<=r.p+6000*(5 - n)->φ (a,s)):=⟨by
 rintro⟨h0,h1,v0,v1,v2,v3,v4,v5⟩ φ hk
 exact(zJZ y h0 h1 ((5 - n).toNat+1) o n r).ok ⟨by omega,by omega,v0,v1,v2,v3,v4,v5⟩ φ hk⟩
theorem zJ0(y:List zG)(h0:SN 1000 y)(h1:y.length<=4):∀(k:Nat) (k0:Int) (o:List zI) (r:zQ),Tot (mW y k0 o r) (k0<(k:Int)/\0<(k:Int)/\0<=k0/\(o.length:Int)+k0<=10/\(∀x∈o,SS x)/\0<=r.p/\r.p+30000*k0<=400000000) (λφ=>∀a s,a.length<=100->(∀x∈a,SS x)->r.p<=s.p->s.p<=r.p+30000*k0->φ (a,s)):=by
 intro k
 induction k with
 | zero=>intro k0 o r;exact⟨λh=>absurd h.2.1 (by omega)⟩
 | succ k ih=>
  intro k0 o r;refine⟨?_⟩;rintro⟨v0,v1,v2,v3,v4,v5,v6⟩ φ hk;unfold mW;exact Ok.go
instance zJ1(y:List zG)(k0:Int)(o:List zI)(r:zQ):Tot (mW y k0 o r) (SN 1000 y/\y.length<=4/\0<=k0/\(o.length:Int)+k0<=10/\(∀x∈o,SS x)/\0<=r.p/\r.p+30000*k0<=400000000) (λφ=>∀a s,a.length<=100->(∀x∈a,SS x)->r.p<=s.p->s.p<=r.p+30000*k0->φ (a,s)):=⟨by
 rintro⟨h0,h1,v0,v1,v2,v3,v4⟩ φ hk
 exact(zJ0 y h0 h1 ((k0).toNat+1) k0 o r).ok ⟨by omega,by omega,v0,v1,v2,v3,v4⟩ φ hk⟩
theorem zJ2(x:zF):∀(k:Nat) (i:Int) (r:zQ),Tot (mX x i r) (4 - i<(k:Int)/\0<(k:Int)/\0<=i/\i<=4/\0<=r.p/\r.p+100000*(4 - i)<=300000000) (λφ=>(∀s,r.p<=s.p->s.p<=r.p+100000*(4 - i)->φ (.done (x,s)))/\(∀a s,SP 1000 a->r.p<=s.p->s.p<=r.p+100000*(4 - i)->φ (.ret (a,s)))):=by
 intro k
 induction k with
 | zero=>intro i r;exact⟨λh=>absurd h.2.1 (by omega)⟩
 | succ k ih=>
  intro i r;refine⟨?_⟩;rintro⟨v0,v1,v2,v3,v4,v5⟩ φ ⟨hd,hr⟩;unfold mX;refine Ok.ite_dec (λh=>?_) λ_=>Ok.go;refine Ok.call (zL9 r) ⟨v4,by omega⟩ λy s g1 g2 g3 g4=>?_;refine Ok.call (uO s _) ⟨by decide,by omega,by omega,by decide⟩ λn t g5 _ e3=>?_;simp only[cQ,dm,or_false] at g5;refine Ok.call (zJ1 y n [] t) ⟨g1,g2,by omega,by simp;omega,λ_ h=>absurd h dm,by omega,by omega⟩ λb u g6 g7 g8 g9=>Ok.call zDW trivial λl hl=>?_;have hs:SP 1000 (zF.mk y b):=⟨g1,de g6 (by decide),g7⟩;refine Ok.call (zIn l _) ⟨hl,hs⟩ λm c _=>?_;dsimp only;refine Ok.bind (φ:=λ_=>True) Ok.go λz _=>Ok.ite (λ_=>Ok.pure (hr _ _ hs (by omega) (by omega))) λ_=>?_;rw[rE (by omega) (by omega)];exact Ok.last (ih _ u) ⟨by omega,by omega,by omega,by omega,by omega,by omega⟩ ⟨λs h1 h2=>hd s (by omega) (by omega),λa s h0 h1 h2=>hr a s h0 (by omega) (by omega)⟩
instance zJ3(x:zF)(i:Int)(r:zQ):Tot (mX x i r) (0<=i/\i<=4/\0<=r.p/\r.p+100000*(4 - i)<=300000000) (λφ=>(∀s,r.p<=s.p->s.p<=r.p+100000*(4 - i)->φ (.done (x,s)))/\(∀a s,SP 1000 a->r.p<=s.p->s.p<=r.p+100000*(4 - i)->φ (.ret (a,s)))):=⟨by
 rintro⟨v0,v1,v2,v3⟩ φ hk
 exact(zJ2 x ((4 - i).toNat+1) i r).ok ⟨by omega,by omega,v0,v1,v2,v3⟩ φ hk⟩
instance zPY(r:zQ):Tot (zAZ r) (0<=r.p/\r.p<=200000000) (λφ=>∀a s,SP 1000 a->r.p<=s.p->s.p<=r.p+400000->φ (a,s)):=⟨by
 rintro⟨h0,h1⟩ φ hk
 unfold zAZ
 refine Ok.call (zJ3 _ 0 r) ⟨by decide,by decide,h0,by omega⟩ ⟨λs g1 g2=>?_,λa s g1 g2 g3=>Ok.pure (hk _ _ g1 (by omega) (by omega))⟩
 refine Ok.call (zEx _) (by decide) λa b g3=>Ok.call (zKj _) trivial λn c g4=>Ok.pure (hk _ _ (SP.one g4 g3) (by omega) (by omega))⟩
theorem zJ4 :∀(k:Nat) (i:Int) (o:List zF) (r:zQ),Tot (mY i o r) (i<(k:Int)/\0<(k:Int)/\0<=i/\(o.length:Int)+i<=10/\(∀x∈o,SP 1000 x)/\0<=r.p/\r.p+400000*i<=100000000) (λφ=>∀a s,(a.length:Int)=o.length+i->(∀x∈a,SP 1000 x)->r.p<=s.p->s.p<=r.p+400000*i->φ (a,s)):=by
 intro k
 induction k with
 | zero=>intro i o r;exact⟨λh=>absurd h.2.1 (by omega)⟩
 | succ k ih=>
  intro i o r;refine⟨?_⟩;rintro⟨v0,v1,v2,v3,v4,v5,v6⟩ φ hk;unfold mY;exact Ok.go
instance zJ5  (i:Int) (o:List zF) (r:zQ):Tot (mY i o r) (0<=i/\(o.length:Int)+i<=10/\(∀x∈o,SP 1000 x)/\0<=r.p/\r.p+400000*i<=100000000) (λφ=>∀a s,(a.length:Int)=o.length+i->(∀x∈a,SP 1000 x)->r.p<=s.p->s.p<=r.p+400000*i->φ (a,s)):=⟨by
 rintro⟨v0,v1,v2,v3,v4⟩ φ hk
 exact(zJ4 ((i).toNat+1) i o r).ok ⟨by omega,by omega,v0,v1,v2,v3,v4⟩ φ hk⟩
instance zLc(r:zQ):Tot (zA0 r) (0<=r.p/\r.p<=50000000) (λφ=>∀a s,SG 1000 a->r.p<=s.p->s.p<=r.p+2000000->φ (a,s)):=⟨by
 rintro⟨h0,h1⟩ φ hk
 unfold zA0
 refine Ok.call zDW trivial λl hl=>Ok.call (uO r _) ⟨by decide,h0,by omega,by decide⟩ λn t g5 _ e3=>?_
 simp only[cQ,dm,or_false] at g5
 refine Ok.call (zJ5 n [] t) ⟨by omega,by simp;omega,λ_ h=>absurd h dm,by omega,by omega⟩ λa s g1 g2 g3 g4=>?_
 simp only[cK] at g1
 have hp:SG 1000 (zC.mk l a):=⟨hl,by dsimp only;omega,g2⟩
 refine Ok.call (zDA _) hp λb _=>Ok.ite (λ_=>Ok.pure (hk _ _ hp (by omega) (by omega))) λ_=>Ok.call zDW trivial λl2 hl2=>?_
 refine Ok.slc (by omega) (by omega) (by omega) λm hm hml=>Ok.pure (hk _ _ ⟨hl2,by dsimp only;omega,λx hx=>g2 x ?_⟩ (by omega) (by omega))
 subst hm
 exact fm (dy hx)⟩
instance zLd(r:zQ):Tot (zA1 r) (0<=r.p/\r.p<=40000000) (λφ=>∀a s,SG 1000 a->r.p<=s.p->s.p<=r.p+3000000->φ (a,s)):=⟨by
 rintro⟨h0,h1⟩ φ hk
 unfold zA1
 refine Ok.call (zB6 r _) ⟨by decide,h0,by omega⟩ λy s g1 g2=>?_
 have hy:y.l.length<=1000:=by
  revert g1 y
  decide
 refine Ok.cat (by simp;omega) λt _ ht=>?_
 simp only[cj,cK] at ht
 refine Ok.call (zHN t) (by omega) λp b hp=>?_
 refine Ok.bind (φ:=λo=>r.p<=o.2.p/\o.2.p<=r.p+2) ?_ ?_
 ·exact Ok.ite (λ_=>Ok.call (zA3 s 3) ⟨by omega,by omega⟩ λy u k1 k2 k3=>Ok.pure ⟨by dsimp only;omega,by dsimp only;omega⟩) λ_=>Ok.pure ⟨by dsimp only;omega,by dsimp only;omega⟩
 rintro⟨z,u⟩ ⟨g3,g4⟩
 dsimp only at g3 g4 ⊢
 refine Ok.ite (λ_=>Ok.pure (hk _ _ hp g3 (by omega))) λ_=>Ok.call (zLc u) ⟨by omega,by omega⟩ λa v g5 g6 g7=>Ok.pure (hk _ v g5 (by omega) (by omega))⟩
instance zOp(code:List UInt8):Tot (zAk code) (True) (λφ=>∀s,s.p=0->φ s):=⟨by
 rintro _ φ hk
 unfold zAk
 exact Ok.go⟩
end Go.LN
