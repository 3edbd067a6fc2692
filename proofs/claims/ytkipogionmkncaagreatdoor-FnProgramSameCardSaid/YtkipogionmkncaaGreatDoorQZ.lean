/- Helper of the proof (see the last text). -/
import Derived.Test.YtkipogionmkncaaGreatDoorQT
import Derived.Test.YtkipogionmkncaaGreatDoorHM8
set_option linter.unusedVariables false
set_option linter.unusedSimpArgs false
namespace Go.LN
def I64(x:Int):Prop:=-9223372036854775808<=x/\x<=9223372036854775807
instance (x:Int):Decidable (I64 x):=inferInstanceAs (Decidable (_/\_))
theorem zIr(x:Int):I64 (W x):=by
 show -9223372036854775808<=IntKind.i64.wrap x/\IntKind.i64.wrap x<=9223372036854775807;rw[IntKind.wrap_i64];omega
instance (x:Int):Sd (I64 (W x)):=⟨zIr x⟩
theorem I64.of{x:Int}(h0:-9223372036854775808<=x)(h1:x<=9223372036854775807):I64 x:=⟨h0,h1⟩
def SA(a:zA):Prop:=a.Coefs.length<=100/\I64 a.Const
def VA(a:zA):Prop:=a.Coefs.length=4/\(∀c∈a.Coefs,I64 c)/\I64 a.Const
def SC(a:zH):Prop:=a.Array.l.length<=1000000/\a.Subs.length<=100/\∀s∈a.Subs,SA s
def VC(a:zH):Prop:=a.Array.l.length<=1/\a.Subs.length<=2/\∀s∈a.Subs,VA s
def SE:Nat->zD->Prop
 | 0,e=>SA e.Index/\SC e.Read/\e.Kids=[]
 | n+1,e=>SA e.Index/\SC e.Read/\e.Kids.length<=10/\∀k∈e.Kids,SE n k
def VO(e:zD):Prop:=(e.Kind=1/\I64 e.Num)∨(e.Kind=2/\VA e.Index)∨(e.Kind=3/\VC e.Read)
def VE:Nat->zD->Prop
 | 0,e=>VO e
 | n+1,e=>VO e∨((e.Kind=4∨e.Kind=5∨e.Kind=6)/\e.Kids.length=2/\∀k∈e.Kids,VE n k)
def SS(s:zM):Prop:=SC s.Write/\SE 5 s.Value
def VS(s:zM):Prop:=VC s.Write/\VE 5 s.Value
def LL(l:List zA):Prop:=l.length<=100/\∀a∈l,SA a
def VL(l:List zA):Prop:=1<=l.length/\l.length<=2/\∀a∈l,VA a
def SL1(x:zE):Prop:=LL x.Lo/\LL x.Hi
def VL1(x:zE):Prop:=VL x.Lo/\VL x.Hi
def SN(b:Nat)(l:List zE):Prop:=l.length<=b/\∀x∈l,SL1 x
def VN(l:List zE):Prop:=l.length<=4/\∀x∈l,VL1 x
def SP(b:Nat)(p:zJ):Prop:=SN b p.Nest/\p.Body.length<=b/\∀s∈p.Body,SS s
def VP(p:zJ):Prop:=VN p.Nest/\p.Body.length<=4/\∀s∈p.Body,VS s
def SR(a:zG):Prop:=a.Name.l.length<=1000000/\a.Dims.length<=100
def VR(a:zG):Prop:=a.Name.l.length=1/\a.Dims.length<=2/\∀d∈a.Dims,I64 d
def SRs(b:Nat)(l:List zG):Prop:=l.length<=b/\∀a∈l,SR a
def VRs(l:List zG):Prop:=l.length<=4/\∀a∈l,VR a
def SG(b:Nat)(p:zP):Prop:=SRs b p.Arrays/\p.Parts.length<=b/\∀q∈p.Parts,SP b q
def VG(p:zP):Prop:=VRs p.Arrays/\p.Parts.length<=4/\∀q∈p.Parts,VP q
instance (a:zA):Su (SA a) (a.Coefs.length<=100/\I64 a.Const):=⟨id⟩
instance (a:zA):Su (VA a) (a.Coefs.length=4/\(∀c∈a.Coefs,I64 c)/\I64 a.Const):=⟨id⟩
instance (a:zH):Su (SC a) (a.Array.l.length<=1000000/\a.Subs.length<=100/\∀s∈a.Subs,SA s):=⟨id⟩
instance (a:zH):Su (VC a) (a.Array.l.length<=1/\a.Subs.length<=2/\∀s∈a.Subs,VA s):=⟨id⟩
instance (s:zM):Su (SS s) (SC s.Write/\SE 5 s.Value):=⟨id⟩
instance (s:zM):Su (VS s) (VC s.Write/\VE 5 s.Value):=⟨id⟩
instance (l:List zA):Su (LL l) (l.length<=100/\∀a∈l,SA a):=⟨id⟩
instance (l:List zA):Su (VL l) (1<=l.length/\l.length<=2/\∀a∈l,VA a):=⟨id⟩
instance (x:zE):Su (SL1 x) (LL x.Lo/\LL x.Hi):=⟨id⟩
instance (x:zE):Su (VL1 x) (VL x.Lo/\VL x.Hi):=⟨id⟩
instance (b:Nat) (l:List zE):Su (SN b l) (l.length<=b/\∀x∈l,SL1 x):=⟨id⟩
instance (l:List zE):Su (VN l) (l.length<=4/\∀x∈l,VL1 x):=⟨id⟩
instance (b:Nat) (p:zJ):Su (SP b p) (SN b p.Nest/\p.Body.length<=b/\∀s∈p.Body,SS s):=⟨id⟩
instance (p:zJ):Su (VP p) (VN p.Nest/\p.Body.length<=4/\∀s∈p.Body,VS s):=⟨id⟩
instance (a:zG):Su (SR a) (a.Name.l.length<=1000000/\a.Dims.length<=100):=⟨id⟩
instance (a:zG):Su (VR a) (a.Name.l.length=1/\a.Dims.length<=2/\∀d∈a.Dims,I64 d):=⟨id⟩
instance (b:Nat) (l:List zG):Su (SRs b l) (l.length<=b/\∀a∈l,SR a):=⟨id⟩
instance (l:List zG):Su (VRs l) (l.length<=4/\∀a∈l,VR a):=⟨id⟩
instance (b:Nat) (p:zP):Su (SG b p) (SRs b p.Arrays/\p.Parts.length<=b/\∀q∈p.Parts,SP b q):=⟨id⟩
instance (p:zP):Su (VG p) (VRs p.Arrays/\p.Parts.length<=4/\∀q∈p.Parts,VP q):=⟨id⟩
instance (x:Int):Su (I64 x) (-9223372036854775808<=x/\x<=9223372036854775807):=⟨id⟩
instance (x:zE):Sw (LL x.Lo) (SL1 x):=⟨And.left⟩
instance (x:zE):Sw (LL x.Hi) (SL1 x):=⟨And.right⟩
instance (s:zM):Sw (SC s.Write) (SS s):=⟨And.left⟩
instance (s:zM):Sw (SE 5 s.Value) (SS s):=⟨And.right⟩
theorem SE.parts:∀{n:Nat}{e:zD},SE n e->SA e.Index/\SC e.Read/\e.Kids.length<=10
 | 0,e,h=>⟨h.1,h.2.1,by rw[h.2.2];simp⟩
 | n+1,e,h=>⟨h.1,h.2.1,h.2.2.1⟩
theorem SE.succ:∀{n:Nat}{e:zD},SE n e->SE (n+1) e
 | 0,e,h=>⟨h.1,h.2.1,by rw[h.2.2];simp,by rw[h.2.2];simp⟩
 | n+1,e,h=>⟨h.1,h.2.1,h.2.2.1,λk hk=>(h.2.2.2 k hk).succ⟩
theorem SE.leaf{e:zD}(h1:SA e.Index)(h2:SC e.Read)(h3:e.Kids=[]):∀{n:Nat},SE n e
 | 0=>⟨h1,h2,h3⟩
 | n+1=>⟨h1,h2,by rw[h3];simp,by rw[h3];simp⟩
theorem SA.nil{c:Int}(h:I64 c):SA (zA.mk [] c):=⟨by simp,h⟩
theorem SA.nil0:SA (zA.mk [] 0):=⟨by simp,by simp[I64]⟩
theorem SC.nil:SC (zH.mk ⟨[]⟩ []):=by simp[SC]
instance:Sd (SA (zA.mk [] 0)):=⟨SA.nil0⟩
instance:Sd (SC (zH.mk ⟨[]⟩ [])):=⟨SC.nil⟩
theorem zEv(x:zG)(h0:SR x):∀(k:Nat) (i:Int),Tot (rG x i) ((x.Dims.length:Int) - i<(k:Int)/\0<(k:Int)/\0<=i) (λφ=>(AF x.Dims i I64->φ (.done ()))/\(φ (.ret false))):=by
 have h0:=h0.2;intro k
 induction k with
 | zero=>intro i;exact⟨λh=>absurd h.2.1 (by omega)⟩
 | succ k ih=>
  intro i;refine⟨?_⟩;rintro⟨v0,v1,v2⟩ φ ⟨hd,hr⟩;unfold rG;exact Ok.go
instance zJf(x:zG)(i:Int):Tot (rG x i) (SR x/\0<=i) (λφ=>(AF x.Dims i I64->φ (.done ()))/\(φ (.ret false))):=⟨by
 rintro⟨h0,v0⟩ φ hk
 exact(zEv x h0 (((x.Dims.length:Int) - i).toNat+1) i).ok ⟨by omega,by omega,v0⟩ φ hk⟩
theorem zEw(l:List zG)(h0:SRs 1000 l):∀(k:Nat) (i:Int),Tot (rH l i) ((l.length:Int) - i<(k:Int)/\0<(k:Int)/\0<=i) (λφ=>(AF l i VR->φ (.done ()))/\(φ (.ret false))):=by
 obtain⟨h00,h01⟩:=h0;intro k
 induction k with
 | zero=>intro i;exact⟨λh=>absurd h.2.1 (by omega)⟩
 | succ k ih=>
  intro i;refine⟨?_⟩;rintro⟨v0,v1,v2⟩ φ ⟨hd,hr⟩;unfold rH;exact Ok.go
instance zJg(l:List zG)(i:Int):Tot (rH l i) (SRs 1000 l/\0<=i) (λφ=>(AF l i VR->φ (.done ()))/\(φ (.ret false))):=⟨by
 rintro⟨h0,v0⟩ φ hk
 exact(zEw l h0 (((l.length:Int) - i).toNat+1) i).ok ⟨by omega,by omega,v0⟩ φ hk⟩
instance zKy(l:List zG):Tot (jM l) (SRs 1000 l) (λφ=>∀r,(r=true->VRs l)->φ r):=⟨by
 rintro h0 φ hk
 unfold jM
 exact Ok.go⟩
instance zJX(a:zA):Tot (uX a) (SA a) (λφ=>∀r,SA r->r.Coefs.length=a.Coefs.length->φ r):=⟨by
 rintro h0 φ hk
 obtain⟨h00,h01⟩:=h0
 unfold uX
 exact Ok.go⟩
theorem zCS(a:zH)(h0:SC a):∀(k:Nat) (i:Int) (Subs:List zA),Tot (wP a i Subs) ((a.Subs.length:Int) - i<(k:Int)/\0<(k:Int)/\0<=i/\(Subs.length:Int)=i/\i<=a.Subs.length/\(∀s∈Subs,SA s)) (λφ=>∀r,r.length<=100->(∀s∈r,SA s)->φ r):=by
 obtain⟨h01,h02,h03⟩:=h0;intro k
 induction k with
 | zero=>intro i Subs;exact⟨λh=>absurd h.2.1 (by omega)⟩
 | succ k ih=>
  intro i Subs;refine⟨?_⟩;rintro⟨v0,v1,v2,v3,v4,v5⟩ φ hk;unfold wP;exact Ok.go
instance zIH(a:zH)(i:Int)(Subs:List zA):Tot (wP a i Subs) (SC a/\0<=i/\(Subs.length:Int)=i/\i<=a.Subs.length/\(∀s∈Subs,SA s)) (λφ=>∀r,r.length<=100->(∀s∈r,SA s)->φ r):=⟨by
 rintro⟨h0,v0,v1,v2,v3⟩ φ hk
 exact(zCS a h0 (((a.Subs.length:Int) - i).toNat+1) i Subs).ok ⟨by omega,by omega,v0,v1,v2,v3⟩ φ hk⟩
instance zJY(a:zH):Tot (uF a) (SC a) (λφ=>∀r,SC r->φ r):=⟨by
 rintro h0 φ hk
 have h00:=h0.1
 unfold uF
 exact Ok.go⟩
def RN:Nat->Nat
 | 0=>1
 | n+1=>10*RN n+1
theorem zH8:∀(n:Nat) (out:List zH) (e:zD),Tot (qN out e) (SE n e/\out.length+RN n<=10000000/\∀s∈out,SC s) (λφ=>∀r,r.length<=out.length+RN n->(∀s∈r,SC s)->φ r):=by
 intro n
 induction n with
 | zero=>
  intro out e;refine⟨?_⟩;rintro⟨⟨h1,h2,h3⟩,ho,hs⟩ φ hk;unfold qN;dsimp only [same];simp only[RN] at ho hk;have hl:∀o:List zH,Tot (sN e o 0) True (λφ=>φ o):=by
   intro o;refine⟨?_⟩;rintro - φ hk;unfold sN;rw[h3];exact Ok.pure hk
  exact Ok.go
 | succ n ih=>
  intro out e;refine⟨?_⟩;rintro⟨⟨h1,h2,h3,h4⟩,ho,hs⟩ φ hk;unfold qN;dsimp only [same];simp only[RN] at ho hk;have hl:∀(k:Nat) (i:Int) (o:List zH),Tot (sN e o i) (((e.Kids.length:Int) - i<=k/\0<=i/\k<=10)/\o.length+k*RN n<=10000000/\∀s∈o,SC s) (λφ=>∀r,r.length<=o.length+k*RN n->(∀s∈r,SC s)->φ r):=by
   intro k
   induction k with
   | zero=>
    intro i o;refine⟨?_⟩;rintro⟨⟨a1,a2,a3⟩,a4,a5⟩ φ hk;unfold sN;dsimp only [same];exact Ok.go
   | succ k ik=>
    intro i o;refine⟨?_⟩;rintro⟨⟨a1,a2,a3⟩,a4,a5⟩ φ hk;unfold sN;dsimp only [same];have e1:(k+1)*RN n=k*RN n+RN n:=by rw[eb,Nat.one_mul]
    rw[e1] at a4 hk;exact Ok.go
  have hl:=hl 10 0;exact Ok.go
instance zLU(e:zD):Tot (qN [] e) (SE 5 e) (λφ=>∀r,r.length<=111111->(∀s∈r,SC s)->φ r):=⟨λh φ hk=>(zH8 5 [] e).ok ⟨h,by decide,S⟩ φ λr h1 h2=>hk r (by simp[RN] at h1;omega) h2⟩
theorem zGM(a:zG)(h0:SR a):∀(k:Nat) (n:Int) (i:Int),Tot (pS a n i) ((a.Dims.length:Int) - i<(k:Int)/\0<(k:Int)/\0<=i) (λφ=>∀r,φ r):=by
 have h0:=h0.2;intro k
 induction k with
 | zero=>intro n i;exact⟨λh=>absurd h.2.1 (by omega)⟩
 | succ k ih=>
  intro n i;refine⟨?_⟩;rintro⟨v0,v1,v2⟩ φ hk;unfold pS;exact Ok.go
instance zKb(a:zG)(n:Int)(i:Int):Tot (pS a n i) (SR a/\0<=i) (λφ=>∀r,φ r):=⟨by
 rintro⟨h0,v0⟩ φ hk
 exact(zGM a h0 (((a.Dims.length:Int) - i).toNat+1) n i).ok ⟨by omega,by omega,v0⟩ φ hk⟩
instance zLe(a:zG):Tot (gX a) (SR a) (λφ=>∀r,φ r):=⟨by
 rintro h0 φ hk
 unfold gX
 exact Ok.go⟩
theorem zGN(a:zA)(ag:List Int)(h0:SA a):∀(k:Nat) (n:Int) (i:Int),Tot (pQ a ag n i) ((a.Coefs.length:Int) - i<(k:Int)/\0<(k:Int)/\I64 n/\0<=i) (λφ=>∀r,I64 r->φ r):=by
 have h0:=h0.1;intro k
 induction k with
 | zero=>intro n i;exact⟨λh=>absurd h.2.1 (by omega)⟩
 | succ k ih=>
  intro n i;refine⟨?_⟩;rintro⟨v0,v1,v2,v3⟩ φ hk;unfold pQ;exact Ok.go
instance zKc(a:zA)(ag:List Int)(n:Int)(i:Int):Tot (pQ a ag n i) (SA a/\I64 n/\0<=i) (λφ=>∀r,I64 r->φ r):=⟨by
 rintro⟨h0,v0,v1⟩ φ hk
 exact(zGN a ag h0 (((a.Coefs.length:Int) - i).toNat+1) n i).ok ⟨by omega,by omega,v0,v1⟩ φ hk⟩
instance zLf(a:zA)(ag:List Int):Tot (oN a ag) (SA a) (λφ=>∀r,I64 r->φ r):=⟨by
 rintro h0 φ hk
 have h1:=h0.2
 unfold oN
 exact Ok.go⟩
theorem zGO(ah:List zG)(a:zH)(ag:List Int)(i:Int)(h0:SC a)(h1:0<=i)(h2:i<(ah.length:Int)):∀(k:Nat) (n:Int) (k0:Int),Tot (pT ah a ag i n k0) ((a.Subs.length:Int) - k0<(k:Int)/\0<(k:Int)/\0<=k0) (λφ=>(∀r,φ (.done r))/\(∀r,φ (.ret r))):=by
 obtain⟨h01,h02,h03⟩:=h0;intro k
 induction k with
 | zero=>intro n k0;exact⟨λh=>absurd h.2.1 (by omega)⟩
 | succ k ih=>
  intro n k0;refine⟨?_⟩;rintro⟨v0,v1,v2⟩ φ ⟨hd,hr⟩;unfold pT;exact Ok.go
instance zKd(ah:List zG)(a:zH)(ag:List Int)(i:Int)(n:Int)(k0:Int):Tot (pT ah a ag i n k0) (SC a/\0<=i/\i<(ah.length:Int)/\0<=k0) (λφ=>(∀r,φ (.done r))/\(∀r,φ (.ret r))):=⟨by
 rintro⟨h0,h1,h2,v0⟩ φ hk
 exact(zGO ah a ag i h0 h1 h2 (((a.Subs.length:Int) - k0).toNat+1) n k0).ok ⟨by omega,by omega,v0⟩ φ hk⟩
theorem zGP(ah:List zG)(a:zH)(ag:List Int)(h0:SC a)(h1:SRs 1000 ah):∀(k:Nat) (base:Int) (i:Int),Tot (pU ah a ag base i) ((ah.length:Int) - i<(k:Int)/\0<(k:Int)/\0<=i) (λφ=>(φ (.done ()))/\(∀r,φ (.ret r))):=by
 obtain⟨h10,h11⟩:=h1;intro k
 induction k with
 | zero=>intro base i;exact⟨λh=>absurd h.2.1 (by omega)⟩
 | succ k ih=>
  intro base i;refine⟨?_⟩;rintro⟨v0,v1,v2⟩ φ ⟨hd,hr⟩;unfold pU;exact Ok.go
instance zKe(ah:List zG)(a:zH)(ag:List Int)(base:Int)(i:Int):Tot (pU ah a ag base i) (SC a/\SRs 1000 ah/\0<=i) (λφ=>(φ (.done ()))/\(∀r,φ (.ret r))):=⟨by
 rintro⟨h0,h1,v0⟩ φ hk
 exact(zGP ah a ag h0 h1 (((ah.length:Int) - i).toNat+1) base i).ok ⟨by omega,by omega,v0⟩ φ hk⟩
instance zLg(ah:List zG)(a:zH)(ag:List Int):Tot (jT ah a ag) (SC a/\SRs 1000 ah) (λφ=>∀r,φ r):=⟨by
 rintro⟨h0,h1⟩ φ hk
 unfold jT
 exact Ok.go⟩
theorem zFe(ah:List zG)(ag:List Int)(y:List zH)(h0:y.length<=111111)(h1:∀s∈y,SC s)(h2:SRs 1000 ah):∀(k:Nat) (out:List Int) (i:Int),Tot (qO ah ag y out i) ((y.length:Int) - i<(k:Int)/\0<(k:Int)/\0<=i/\(out.length:Int)=i/\i<=(y.length:Int)) (λφ=>(∀o,o.length<=111111->φ (.done o))/\(φ (.ret ([],0,false)))):=by
 intro k
 induction k with
 | zero=>intro out i;exact⟨λh=>absurd h.2.1 (by omega)⟩
 | succ k ih=>
  intro out i;refine⟨?_⟩;rintro⟨v0,v1,v2,v3,v4⟩ φ ⟨hd,hr⟩;unfold qO;exact Ok.go
instance zKM(ah:List zG)(ag:List Int)(y:List zH)(out:List Int)(i:Int):Tot (qO ah ag y out i) (y.length<=111111/\(∀s∈y,SC s)/\SRs 1000 ah/\0<=i/\(out.length:Int)=i/\i<=(y.length:Int)) (λφ=>(∀o,o.length<=111111->φ (.done o))/\(φ (.ret ([],0,false)))):=⟨by
 rintro⟨h0,h1,h2,v0,v1,v2⟩ φ hk
 exact(zFe ah ag y h0 h1 h2 (((y.length:Int) - i).toNat+1) out i).ok ⟨by omega,by omega,v0,v1,v2⟩ φ hk⟩
instance zLV(ah:List zG)(s:zM)(ag:List Int):Tot (gK ah s ag) (SS s/\SRs 1000 ah) (λφ=>∀a b c,a.length<=111111->φ (a,b,c)):=⟨by
 rintro⟨h0,h1⟩ φ hk
 obtain⟨h00,h01⟩:=h0
 unfold gK
 exact Ok.go⟩
theorem zFf(loop:zE)(p2:List Int)(h0:LL loop.Lo):∀(k:Nat) (lo:Int) (i:Int),Tot (qL loop p2 lo i) ((loop.Lo.length:Int) - i<(k:Int)/\0<(k:Int)/\I64 lo/\0<=i) (λφ=>∀r,I64 r->φ r):=by
 obtain⟨h00,h01⟩:=h0;intro k
 induction k with
 | zero=>intro lo i;exact⟨λh=>absurd h.2.1 (by omega)⟩
 | succ k ih=>
  intro lo i;refine⟨?_⟩;rintro⟨v0,v1,v2,v3⟩ φ hk;unfold qL;exact Ok.go
instance zKN(loop:zE)(p2:List Int)(lo:Int)(i:Int):Tot (qL loop p2 lo i) (LL loop.Lo/\I64 lo/\0<=i) (λφ=>∀r,I64 r->φ r):=⟨by
 rintro⟨h0,v0,v1⟩ φ hk
 exact(zFf loop p2 h0 (((loop.Lo.length:Int) - i).toNat+1) lo i).ok ⟨by omega,by omega,v0,v1⟩ φ hk⟩
theorem zFg(loop:zE)(p2:List Int)(h0:LL loop.Hi):∀(k:Nat) (hi:Int) (i:Int),Tot (qM loop p2 hi i) ((loop.Hi.length:Int) - i<(k:Int)/\0<(k:Int)/\I64 hi/\0<=i) (λφ=>∀r,I64 r->φ r):=by
 obtain⟨h00,h01⟩:=h0;intro k
 induction k with
 | zero=>intro hi i;exact⟨λh=>absurd h.2.1 (by omega)⟩
 | succ k ih=>
  intro hi i;refine⟨?_⟩;rintro⟨v0,v1,v2,v3⟩ φ hk;unfold qM;exact Ok.go
instance zKO(loop:zE)(p2:List Int)(hi:Int)(i:Int):Tot (qM loop p2 hi i) (LL loop.Hi/\I64 hi/\0<=i) (λφ=>∀r,I64 r->φ r):=⟨by
 rintro⟨h0,v0,v1⟩ φ hk
 exact(zFg loop p2 h0 (((loop.Hi.length:Int) - i).toNat+1) hi i).ok ⟨by omega,by omega,v0,v1⟩ φ hk⟩
instance zEa(loop:zE)(p2:List Int):Tot (kR loop p2) (SL1 loop/\1<=loop.Lo.length/\1<=loop.Hi.length) (λφ=>∀a b,I64 a->I64 b->φ (a,b)):=⟨by
 rintro⟨h0,h1,h2⟩ φ hk
 have h00:=h0;obtain⟨⟨h01,h02⟩,⟨h03,h04⟩⟩:=h0
 unfold kR
 exact Ok.go⟩
instance zKz(n:Int)(most:Int):Tot (nD n most) (0<=most/\most<=1000000) (λφ=>∀r,(r=true->I64 n)->φ r):=⟨by
 rintro⟨h0,h1⟩ φ hk
 unfold nD
 exact Ok.go⟩
theorem zCr(a:zA)(h0:SA a):∀(k:Nat) (i:Int),Tot (tE a i) ((a.Coefs.length:Int) - i<(k:Int)/\0<(k:Int)/\0<=i) (λφ=>(AF a.Coefs i I64->φ (.done ()))/\(φ (.ret false))):=by
 have h01:=h0.1;intro k
 induction k with
 | zero=>intro i;exact⟨λh=>absurd h.2.1 (by omega)⟩
 | succ k ih=>
  intro i;refine⟨?_⟩;rintro⟨v0,v1,v2⟩ φ ⟨hd,hr⟩;unfold tE;exact Ok.go
instance zIV(a:zA)(i:Int):Tot (tE a i) (SA a/\0<=i) (λφ=>(AF a.Coefs i I64->φ (.done ()))/\(φ (.ret false))):=⟨by
 rintro⟨h0,v0⟩ φ hk
 exact(zCr a h0 (((a.Coefs.length:Int) - i).toNat+1) i).ok ⟨by omega,by omega,v0⟩ φ hk⟩
instance zEx(a:zA):Tot (tM a) (SA a) (λφ=>∀r,(r=true->VA a)->φ r):=⟨by
 rintro h0 φ hk
 have h00:=h0.2
 unfold tM
 exact Ok.go⟩
theorem zFh(a:zA)(h0:SA a):∀(k:Nat) (n:Int) (i:Int),Tot (qH a n i) ((a.Coefs.length:Int) - i<(k:Int)/\0<(k:Int)/\0<=i) (λφ=>∀r,φ r):=by
 have h01:=h0.1;intro k
 induction k with
 | zero=>intro n i;exact⟨λh=>absurd h.2.1 (by omega)⟩
 | succ k ih=>
  intro n i;refine⟨?_⟩;rintro⟨v0,v1,v2⟩ φ hk;unfold qH;exact Ok.go
instance zKP(a:zA)(n:Int)(i:Int):Tot (qH a n i) (SA a/\0<=i) (λφ=>∀r,φ r):=⟨by
 rintro⟨h0,v0⟩ φ hk
 exact(zFh a h0 (((a.Coefs.length:Int) - i).toNat+1) n i).ok ⟨by omega,by omega,v0⟩ φ hk⟩
instance zLW(a:zA):Tot (mA a) (SA a) (λφ=>∀r,φ r):=⟨by
 rintro h0 φ hk
 unfold mA
 exact Ok.go⟩
theorem zGQ(ah:List zA)(aa:Int)(h0:LL ah):∀(k:Nat) (i:Int),Tot (pP ah aa i) ((ah.length:Int) - i<(k:Int)/\0<(k:Int)/\0<=i) (λφ=>(AF ah i VA->φ (.done ()))/\(φ (.ret false))):=by
 obtain⟨h01,h02⟩:=h0;intro k
 induction k with
 | zero=>intro i;exact⟨λh=>absurd h.2.1 (by omega)⟩
 | succ k ih=>
  intro i;refine⟨?_⟩;rintro⟨v0,v1,v2⟩ φ ⟨hd,hr⟩;unfold pP;exact Ok.go
instance zKf(ah:List zA)(aa:Int)(i:Int):Tot (pP ah aa i) (LL ah/\0<=i) (λφ=>(AF ah i VA->φ (.done ()))/\(φ (.ret false))):=⟨by
 rintro⟨h0,v0⟩ φ hk
 exact(zGQ ah aa h0 (((ah.length:Int) - i).toNat+1) i).ok ⟨by omega,by omega,v0⟩ φ hk⟩
instance zLh(ah:List zA)(aa:Int):Tot (jS ah aa) (LL ah) (λφ=>∀r,(r=true->VL ah)->φ r):=⟨by
 rintro h0 φ hk
 unfold jS
 exact Ok.go⟩
theorem zE1(nest:List zE)(h0:SN 1000 nest):∀(k:Nat) (i:Int),Tot (sH nest i) ((nest.length:Int) - i<(k:Int)/\0<(k:Int)/\0<=i) (λφ=>(((nest.length:Int)<=4->AF nest i VL1)->φ (.done ()))/\(φ (.ret false))):=by
 obtain⟨h00,h01⟩:=h0;intro k
 induction k with
 | zero=>intro i;exact⟨λh=>absurd h.2.1 (by omega)⟩
 | succ k ih=>
  intro i;refine⟨?_⟩;rintro⟨v0,v1,v2⟩ φ ⟨hd,hr⟩;unfold sH;exact Ok.go
instance zJZ(nest:List zE)(i:Int):Tot (sH nest i) (SN 1000 nest/\0<=i) (λφ=>(((nest.length:Int)<=4->AF nest i VL1)->φ (.done ()))/\(φ (.ret false))):=⟨by
 rintro⟨h0,v0⟩ φ hk
 exact(zE1 nest h0 (((nest.length:Int) - i).toNat+1) i).ok ⟨by omega,by omega,v0⟩ φ hk⟩
instance zKg(nest:List zE):Tot (kQ nest) (SN 1000 nest) (λφ=>∀r,(r=true->VN nest)->φ r):=⟨by
 rintro h0 φ hk
 unfold kQ
 exact Ok.go⟩
theorem VN.get{nest:List zE}{x:zE}(h:VN nest)(hx:x∈nest):1<=x.Lo.length/\1<=x.Hi.length:=⟨(h.2 x hx).1.1,(h.2 x hx).2.1⟩
theorem zGz(nest:List zE)(hn:SN 1000 nest)(hv:VN nest):∀(d:Nat) (o:List (List Int)) (p2:List Int),Tot (sW o nest p2) (p2.length+d=nest.length/\o.length<=120/\(∀q∈o,q.length<=4)) (λφ=>∀r,r.length<=121->(∀q∈r,q.length<=4)->φ r):=by
 obtain⟨hn1,hn2⟩:=hn;have hv1:=hv.1;intro d
 induction d with
 | zero=>
  intro o p2;refine⟨?_⟩;rintro⟨hp,ho,hq⟩ φ hk;unfold sW;dsimp only [same];exact Ok.ite_beq (λh=>Ok.go) λh=>absurd h (by omega)
 | succ d ih=>
  intro o p2;refine⟨?_⟩;rintro⟨hp,ho,hq⟩ φ hk;unfold sW;dsimp only [same];have hloop:∀(y2:Int) (k:Nat) (v:Int) (o:List (List Int)),Tot (pR nest p2 y2 o v) ((y2 - v<=k/\I64 v/\I64 y2/\o.length<=121)/\(∀q∈o,q.length<=4)) (λφ=>∀r,r.length<=121->(∀q∈r,q.length<=4)->φ r):=by
   intro y2 k
   induction k with
   | zero=>intro v o;refine⟨?_⟩;rintro⟨⟨a1,⟨a2,a5⟩,⟨a6,a7⟩,a3⟩,a4⟩ φ hk;unfold pR;dsimp only [same];exact Ok.go
   | succ k ik=>
    intro v o;refine⟨?_⟩;rintro⟨⟨a1,⟨a2,a5⟩,⟨a6,a7⟩,a3⟩,a4⟩ φ hk;unfold pR;dsimp only [same];exact Ok.go
  refine Ok.ite_beq (λh=>absurd h (by omega)) λh=>Ok.idx (by omega) (by omega) λx hx _=>?_;obtain⟨g1,g2⟩:=VN.get hv hx;refine Ok.call (zEa x p2) ⟨hn2 x hx,g1,g2⟩ ?_;intro a b ha hb;have hloop:=hloop b (b - a).toNat;exact Ok.go
instance zLA(nest:List zE):Tot (sW [] nest []) (SN 1000 nest/\VN nest) (λφ=>∀r,r.length<=121->(∀q∈r,q.length<=4)->φ r):=⟨λ⟨h,hv⟩ φ hk=>(zGz nest h hv nest.length [] []).ok ⟨by simp,by simp,by simp⟩ φ hk⟩
theorem zIW(nest:List zE)(hn:SN 1000 nest)(hv:VN nest):∀(d:Nat) (p2:List Int) (most:Int),Tot (oO nest p2 most) (p2.length+d=nest.length) (λφ=>∀r,φ r):=by
 obtain⟨hn1,hn2⟩:=hn;have hv1:=hv.1;intro d
 induction d with
 | zero=>
  intro p2 most;refine⟨?_⟩;rintro hp φ hk;unfold oO;dsimp only [same];exact Ok.ite_beq (λh=>Ok.go) λh=>absurd h (by omega)
 | succ d ih=>
  intro p2 most;refine⟨?_⟩;rintro hp φ hk;unfold oO;dsimp only [same];have hloop:∀(y2:Int) (k:Nat) (n v:Int),Tot (nR nest p2 most y2 n v) (y2 - v<=k/\I64 v/\I64 y2) (λφ=>∀r,φ r):=by
   intro y2 k
   induction k with
   | zero=>intro n v;refine⟨?_⟩;rintro⟨a1,⟨a2,a5⟩,⟨a6,a7⟩⟩ φ hk;unfold nR;dsimp only [same];exact Ok.go
   | succ k ik=>
    intro n v;refine⟨?_⟩;rintro⟨a1,⟨a2,a5⟩,⟨a6,a7⟩⟩ φ hk;unfold nR;dsimp only [same];exact Ok.go
  refine Ok.ite_beq (λh=>absurd h (by omega)) λh=>Ok.idx (by omega) (by omega) λx hx _=>?_;obtain⟨g1,g2⟩:=VN.get hv hx;refine Ok.call (zEa x p2) ⟨hn2 x hx,g1,g2⟩ ?_;intro a b ha hb;have hloop:=hloop b (b - a).toNat;exact Ok.go
instance zLi(nest:List zE)(most:Int):Tot (oO nest [] most) (SN 1000 nest/\VN nest) (λφ=>∀r,φ r):=⟨λ⟨h,hv⟩ φ hk=>(zIW nest h hv nest.length [] most).ok (by simp) φ hk⟩
instance zKQ(nest:List zE):Tot (mQ nest) (SN 1000 nest) (λφ=>∀a b,a.length<=120->(∀q∈a,q.length<=4)->(b=true->VN nest)->φ (a,b)):=⟨by
 rintro h0 φ hk
 unfold mQ
 exact Ok.go⟩
theorem zEy(a:zH)(aa:Int)(h0:SC a):∀(k:Nat) (i:Int),Tot (rJ a aa i) ((a.Subs.length:Int) - i<(k:Int)/\0<(k:Int)/\0<=i) (λφ=>(AF a.Subs i VA->φ (.done ()))/\(φ (.ret false))):=by
 obtain⟨h01,h02,h03⟩:=h0;intro k
 induction k with
 | zero=>intro i;exact⟨λh=>absurd h.2.1 (by omega)⟩
 | succ k ih=>
  intro i;refine⟨?_⟩;rintro⟨v0,v1,v2⟩ φ ⟨hd,hr⟩;unfold rJ;exact Ok.go
instance zJh(a:zH)(aa:Int)(i:Int):Tot (rJ a aa i) (SC a/\0<=i) (λφ=>(AF a.Subs i VA->φ (.done ()))/\(φ (.ret false))):=⟨by
 rintro⟨h0,v0⟩ φ hk
 exact(zEy a aa h0 (((a.Subs.length:Int) - i).toNat+1) i).ok ⟨by omega,by omega,v0⟩ φ hk⟩
instance zLB(a:zH)(aa:Int):Tot (mL a aa) (SC a) (λφ=>∀r,(r=true->VC a)->φ r):=⟨by
 rintro h0 φ hk
 unfold mL
 exact Ok.go⟩
instance zFi(kind:Int):Tot (gW kind) (True) (λφ=>∀r,(r=0/\(kind=1∨kind=2∨kind=3))∨(r=2/\(kind=4∨kind=5∨kind=6))∨r=-1->φ r):=⟨by
 rintro _ φ hk
 unfold gW
 exact Ok.go⟩
instance zLX(a:zH):Tot (mB a) (True) (λφ=>∀r:Bool,φ r):=⟨by
 rintro _ φ hk
 unfold mB
 exact Ok.go⟩
instance zLj(a:zA):Tot (kC a) (True) (λφ=>∀r:Bool,φ r):=⟨by
 rintro _ φ hk
 unfold kC
 exact Ok.go⟩
instance zGi(e:zD)(aa:Int):Tot (fS e aa) (SA e.Index/\SC e.Read) (λφ=>∀r,(r=true->e.Kind=1->I64 e.Num)->(r=true->e.Kind=2->VA e.Index)->(r=true->e.Kind=3->VC e.Read)->φ r):=⟨by
 rintro⟨h0,h1⟩ φ hk
 unfold fS
 exact Ok.go⟩
theorem zH9:∀(n:Nat) (e:zD) (aa aj:Int),Tot (qI e aa aj) (SE n e/\aj<=100) (λφ=>∀r,(r=true->VE n e)->φ r):=by
 intro n
 induction n with
 | zero=>
  intro e aa aj;refine⟨?_⟩;rintro⟨⟨h1,h2,h3⟩,hlv⟩ φ hk;have hl:∀lv,Tot (sM e aa lv 0) True (λφ=>φ (.done ())):=by
   intro lv;refine⟨?_⟩;rintro - φ hk;unfold sM;rw[h3];exact Ok.pure hk
  have bo:e.Kids.length=0:=by rw[h3];rfl
  unfold qI;dsimp only [same];refine Ok.bind (φ:=λb=>b=false->VO e) ?_ ?_
  ·refine Ok.ite_dec (λh=>Ok.pure λh=>by cases h) λh=>Ok.call (zFi _) trivial ?_;intro r hr;refine Ok.ite_bne (λh=>Ok.pure λh=>by cases h) λh=>Ok.call (zGi e aa) ⟨h1,h2⟩ ?_;intro b b1 b2 b3;refine Ok.pure λhb=>?_;have hb:b=true:=by simpa using hb
   have:e.Kind=1∨e.Kind=2∨e.Kind=3:=by omega
   rcases this with h|h|h
   ·exact .inl ⟨h,b1 hb h⟩
   ·exact .inr (.inl ⟨h,b2 hb h⟩)
   ·exact .inr (.inr ⟨h,b3 hb h⟩)
  ·intro b hb;refine Ok.ite (λ_=>Ok.pure (hk _ λh=>by cases h)) λhz=>?_;have hz:VO e:=hb (by simpa using hz);exact Ok.go
 | succ n ih=>
  intro e aa aj;refine⟨?_⟩;rintro⟨⟨h1,h2,h3,h4⟩,hlv⟩ φ hk;unfold qI;dsimp only [same];refine Ok.bind (φ:=λb=>b=false->1<=aj/\(VO e∨((e.Kind=4∨e.Kind=5∨e.Kind=6)/\e.Kids.length=2))) ?_ ?_
  ·refine Ok.ite_dec (λh=>Ok.pure λh=>by cases h) λh=>Ok.call (zFi _) trivial ?_;intro r hr;refine Ok.ite_bne (λh=>Ok.pure λh=>by cases h) λh=>Ok.call (zGi e aa) ⟨h1,h2⟩ ?_;intro b b1 b2 b3;refine Ok.pure λhb=>⟨by omega,?_⟩;have hb:b=true:=by simpa using hb
   have:e.Kind=1∨e.Kind=2∨e.Kind=3∨((e.Kind=4∨e.Kind=5∨e.Kind=6)/\e.Kids.length=2):=by omega
   rcases this with h|h|h|h
   ·exact .inl (.inl ⟨h,b1 hb h⟩)
   ·exact .inl (.inr (.inl ⟨h,b2 hb h⟩))
   ·exact .inl (.inr (.inr ⟨h,b3 hb h⟩))
   ·exact .inr h
  ·intro b hb;refine Ok.ite (λ_=>Ok.pure (hk _ λh=>by cases h)) λhz=>?_;obtain⟨g1,g2⟩:=hb (by simpa using hz);have hl:∀(k:Nat) (i:Int),Tot (sM e aa aj i) ((e.Kids.length:Int) - i<=k/\0<=i) (λφ=>(AF e.Kids i (VE n)->φ (.done ()))/\φ (.ret false)):=by
    intro k
    induction k with
    | zero=>intro i;refine⟨?_⟩;rintro⟨a1,a2⟩ φ ⟨hd,hr⟩;unfold sM;dsimp only [same];exact Ok.go
    | succ k ik=>
     intro i;refine⟨?_⟩;rintro⟨a1,a2⟩ φ ⟨hd,hr⟩;unfold sM;dsimp only [same];exact Ok.go
   refine Ok.call (hl _ 0) ⟨Int.le_of_eq (Int.sub_zero _),by omega⟩ ⟨λhA=>Ok.pure (hk _ λ_=>?_),Ok.pure (hk _ λh=>by cases h)⟩;exact g2.elim .inl λg=>.inr ⟨g.1,g.2,AF.all hA⟩
instance zLC(e:zD)(aa aj:Int):Tot (qI e aa aj) (SE 5 e/\aj<=100) (λφ=>∀r,(r=true->VE 5 e)->φ r):=zH9 5 e aa aj
theorem zHa:∀(n:Nat) (e:zD) (aj:Int),Tot (qJ e aj) (SE n e/\aj<=100) (λφ=>∀r,φ r):=by
 intro n
 induction n with
 | zero=>
  intro e aj;refine⟨?_⟩;rintro⟨⟨h1,h2,h3⟩,hlv⟩ φ hk;unfold qJ;dsimp only [same];unfold qK;have bo:e.Kids.length=0:=by rw[h3];rfl
  rw[bo];exact Ok.go
 | succ n ih=>
  intro e aj;refine⟨?_⟩;rintro⟨⟨h1,h2,h3,h4⟩,hlv⟩ φ hk;unfold qJ;dsimp only [same];have hl:∀(k:Nat) (m i:Int),Tot (qK e aj m i) ((e.Kids.length:Int) - i<=k/\0<=i) (λφ=>∀r,φ r):=by
   intro k
   induction k with
   | zero=>intro m i;refine⟨?_⟩;rintro⟨a1,a2⟩ φ hk;unfold qK;dsimp only [same];exact Ok.go
   | succ k ik=>intro m i;refine⟨?_⟩;rintro⟨a1,a2⟩ φ hk;unfold qK;dsimp only [same];exact Ok.go
  have hl:=hl e.Kids.length;exact Ok.go
instance zLD(e:zD)(aj:Int):Tot (qJ e aj) (SE 5 e/\aj<=100) (λφ=>∀r,φ r):=zHa 5 e aj
instance zCY(s:zM)(aa:Int):Tot (pO s aa) (SS s) (λφ=>∀r,(r=true->VS s)->φ r):=⟨by
 rintro h0 φ hk
 unfold pO
 exact Ok.go⟩
theorem zFj(p:List Int)(h0:p.length<=4):∀(k:Nat) (i:Int),Tot (qP p i) ((p.length:Int) - i<(k:Int)/\0<(k:Int)/\0<=i) (λφ=>(φ (.done ()))/\(φ (.ret false))):=by
 intro k
 induction k with
 | zero=>intro i;exact⟨λh=>absurd h.2.1 (by omega)⟩
 | succ k ih=>
  intro i;refine⟨?_⟩;rintro⟨v0,v1,v2⟩ φ ⟨hd,hr⟩;unfold qP;exact Ok.go
instance zKR(p:List Int)(i:Int):Tot (qP p i) (p.length<=4/\0<=i) (λφ=>(φ (.done ()))/\(φ (.ret false))):=⟨by
 rintro⟨h0,v0⟩ φ hk
 exact(zFj p h0 (((p.length:Int) - i).toNat+1) i).ok ⟨by omega,by omega,v0⟩ φ hk⟩
instance zLY(p:List Int):Tot (gL p) (p.length<=4) (λφ=>∀r:Bool,φ r):=⟨by
 rintro h0 φ hk
 unfold gL
 exact Ok.go⟩
theorem zGR(ah:List zG)(part:zJ)(y1:List (List Int))(i:Int)(h0:SRs 1000 ah)(h1:SP 1000 part)(h2:y1.length<=121)(h3:∀q∈y1,q.length<=4)(h4:0<=i)(h5:i<(part.Body.length:Int)):∀(k:Nat) (k0:Int),Tot (pV ah part y1 i k0) ((y1.length:Int) - k0<(k:Int)/\0<(k:Int)/\0<=k0) (λφ=>(φ (.done ()))/\(φ (.ret (0,false)))):=by
 obtain⟨h11,h12,h13⟩:=h1;intro k
 induction k with
 | zero=>intro k0;exact⟨λh=>absurd h.2.1 (by omega)⟩
 | succ k ih=>
  intro k0;refine⟨?_⟩;rintro⟨v0,v1,v2⟩ φ ⟨hd,hr⟩;unfold pV;exact Ok.go
instance zKh(ah:List zG)(part:zJ)(y1:List (List Int))(i:Int)(k0:Int):Tot (pV ah part y1 i k0) (SRs 1000 ah/\SP 1000 part/\y1.length<=121/\(∀q∈y1,q.length<=4)/\0<=i/\i<(part.Body.length:Int)/\0<=k0) (λφ=>(φ (.done ()))/\(φ (.ret (0,false)))):=⟨by
 rintro⟨h0,h1,h2,h3,h4,h5,v0⟩ φ hk
 exact(zGR ah part y1 i h0 h1 h2 h3 h4 h5 (((y1.length:Int) - k0).toNat+1) k0).ok ⟨by omega,by omega,v0⟩ φ hk⟩
theorem zGS(ah:List zG)(part:zJ)(y1:List (List Int))(h0:SRs 1000 ah)(h1:SP 1000 part)(h2:y1.length<=121)(h3:∀q∈y1,q.length<=4):∀(k:Nat) (i:Int),Tot (pW ah part y1 i) ((part.Body.length:Int) - i<(k:Int)/\0<(k:Int)/\0<=i) (λφ=>(AF part.Body i VS->φ (.done ()))/\(φ (.ret (0,false)))):=by
 have h10:=h1;obtain⟨h11,h12,h13⟩:=h1;intro k
 induction k with
 | zero=>intro i;exact⟨λh=>absurd h.2.1 (by omega)⟩
 | succ k ih=>
  intro i;refine⟨?_⟩;rintro⟨v0,v1,v2⟩ φ ⟨hd,hr⟩;unfold pW;exact Ok.go
instance zKi(ah:List zG)(part:zJ)(y1:List (List Int))(i:Int):Tot (pW ah part y1 i) (SRs 1000 ah/\SP 1000 part/\y1.length<=121/\(∀q∈y1,q.length<=4)/\0<=i) (λφ=>(AF part.Body i VS->φ (.done ()))/\(φ (.ret (0,false)))):=⟨by
 rintro⟨h0,h1,h2,h3,v0⟩ φ hk
 exact(zGS ah part y1 h0 h1 h2 h3 (((part.Body.length:Int) - i).toNat+1) i).ok ⟨by omega,by omega,v0⟩ φ hk⟩
instance zFk(ah:List zG)(part:zJ):Tot (kD ah part) (SRs 1000 ah/\SP 1000 part) (λφ=>∀n b,(b=true->VP part)->φ (n,b)):=⟨by
 rintro⟨h0,h1⟩ φ hk
 obtain⟨h11,h12,h13⟩:=id h1
 unfold kD
 exact Ok.go⟩
theorem zCT(p:zP)(h0:SG 1000 p):∀(k:Nat) (total:Int) (i:Int),Tot (uT p total i) ((p.Parts.length:Int) - i<(k:Int)/\0<(k:Int)/\0<=i) (λφ=>(∀n,AF p.Parts i VP->φ (.done n))/\(φ (.ret false))):=by
 obtain⟨h01,h02,h03⟩:=h0;intro k
 induction k with
 | zero=>intro total i;exact⟨λh=>absurd h.2.1 (by omega)⟩
 | succ k ih=>
  intro total i;refine⟨?_⟩;rintro⟨v0,v1,v2⟩ φ ⟨hd,hr⟩;unfold uT;exact Ok.go
instance zII(p:zP)(total:Int)(i:Int):Tot (uT p total i) (SG 1000 p/\0<=i) (λφ=>(∀n,AF p.Parts i VP->φ (.done n))/\(φ (.ret false))):=⟨by
 rintro⟨h0,v0⟩ φ hk
 exact(zCT p h0 (((p.Parts.length:Int) - i).toNat+1) total i).ok ⟨by omega,by omega,v0⟩ φ hk⟩
instance zE2(p:zP):Tot (nL p) (SG 1000 p) (λφ=>∀r,(r=true->VG p)->φ r):=⟨by
 rintro h0 φ hk
 obtain⟨h01,h02,h03⟩:=id h0
 unfold nL
 exact Ok.go⟩
def InI(p:zP)(x:zX):Prop:=(0<=x.Part/\x.Part<(p.Parts.length:Int))/\∀q,p.Parts[x.Part.toNat]?=some q->0<=x.Stmt/\x.Stmt<(q.Body.length:Int)
theorem InI.mk{p:zP}{x:zX}{q:zJ}(h0:0<=x.Part)(h1:x.Part<(p.Parts.length:Int))(hq:p.Parts[x.Part.toNat]?=some q)(h2:0<=x.Stmt)(h3:x.Stmt<(q.Body.length:Int)):InI p x:=
 ⟨⟨h0,h1⟩,λq' h=>by rw[hq] at h;cases h;exact⟨h2,h3⟩⟩
theorem zDd{a n:Int}(ha:0<=a)(hn:0<n):0<=a.tmod n/\a.tmod n<n:=by
 rw[Int.tmod_eq_emod_of_nonneg ha];exact⟨Int.emod_nonneg _ (by omega),Int.emod_lt_of_pos _ hn⟩
theorem zLE{a b:Int}(ha:0<=a)(ha':a<4611686018427387904)(hb:0<=b)(hb':b<4611686018427387904):
 0<=W (((BitVec.ofInt IntKind.i64.bits a ^^^ BitVec.ofInt IntKind.i64.bits b).toNat:Nat):Int):=by
 have e:(BitVec.ofInt IntKind.i64.bits a ^^^ BitVec.ofInt IntKind.i64.bits b).toNat<4611686018427387904:=by
  rw[BitVec.toNat_xor]
  have h1:(BitVec.ofInt IntKind.i64.bits a).toNat=a.toNat:=by
   rw[BitVec.toNat_ofInt];show (a % ((2 ^ 64:Nat):Int)).toNat=_;omega
  have h2:(BitVec.ofInt IntKind.i64.bits b).toNat=b.toNat:=by
   rw[BitVec.toNat_ofInt];show (b % ((2 ^ 64:Nat):Int)).toNat=_;omega
  rw[h1,h2]
  exact Nat.xor_lt_two_pow (n:=62) (by omega) (by omega)
 rw[oM (by omega) (by omega)];omega
instance fE(r:zK)(n:Int):Tot (xC r n) (0<=r.p/\r.p<=1000000000) (λφ=>∀y s,0<=y->(y<n∨y=0)->s.p=r.p+1->φ (y,s)):=⟨by
 rintro⟨h0,h1⟩ φ hk
 unfold xC
 rw[oM (x:=r.p+1) (by omega) (by omega),oM (x:=r.p+1 - 1) (by omega) (by omega)]
 refine Ok.bind_ite (Ok.ite_dec (λ_=>Ok.bind_pure (Ok.ite_tt (Ok.pure (hk _ _ S S rfl)))) λhn=>Ok.bind_pure (Ok.ite_beq (λ_=>Ok.pure (hk _ _ S S rfl)) λhb=>?_))
 refine Ok.ite_dec (λhp=>Ok.idx (by omega) (by omega) λx _ _=>?_) λhp=>?_
 ·refine Ok.rem (by omega) (Ok.pure ?_)
  have hx:=x.toNat_lt
  have:=zDd (a:=(x.toNat:Int)) (n:=n) (by omega) (by omega)
  rw[oM (by omega) (by omega)]
  exact hk _ _ this.1 (.inl this.2) rfl
 ·refine Ok.rem (by omega) ?_
  have hp:=zDd (a:=r.p+1 - 1) (n:=(r.b.length:Int)) (by omega) (by omega)
  refine Ok.idx hp.1 hp.2 λx1 _ _=>?_
  rw[oM (x:=(r.p+1 - 1)*7) (by omega) (by omega),oM (x:=(r.p+1 - 1)*7+3) (by omega) (by omega)]
  refine Ok.rem (by omega) ?_
  have hq:=zDd (a:=(r.p+1 - 1)*7+3) (n:=(r.b.length:Int)) (by omega) (by omega)
  refine Ok.idx hq.1 hq.2 λx2 _ _=>?_
  refine Ok.quo (by omega) ?_
  have hd:0<=(r.p+1 - 1).tdiv (r.b.length:Int)/\(r.p+1 - 1).tdiv (r.b.length:Int)<=1000000000:=by
   rw[ey (by omega)]
   exact⟨Int.ediv_nonneg (by omega) (by omega),Int.le_trans (Int.ediv_le_self _ (by omega)) (by omega)⟩
  have e1:=x1.toNat_lt
  have e2:=x2.toNat_lt
  generalize (r.p+1 - 1).tdiv (r.b.length:Int)=q3 at hd ⊢
  simp(disch:=omega) only [oM]
  refine Ok.rem (by omega) ?_
  generalize hX:(x1.toNat:Int)*131+(x2.toNat:Int)*1117+(r.p+1 - 1)*29+q3*53=X
  have hX0:0<=X:=by omega
  have hX1:X<4611686018427387904:=by omega
  have hT:0<=X.tdiv 64/\X.tdiv 64<4611686018427387904:=by rw[ey hX0];omega
  rw[oM (x:=X.tdiv 64) (by omega) (by omega)]
  have hw:=zDd (zLE hX0 hX1 hT.1 hT.2) (n:=n) (by omega)
  exact Ok.pure (hk _ _ hw.1 (.inl hw.2) rfl)⟩
instance zBC(r:zK)(l:List Str):Tot (nE r l) (0<l.length/\0<=r.p/\r.p<=1000000000) (λφ=>∀y s,y∈l->s.p=r.p+1->φ (y,s)):=⟨by
 rintro⟨h0,h1,h2⟩ φ hk
 unfold nE
 exact Ok.go⟩
instance uM(r:zK)(l:List Int):Tot (xD r l) (0<l.length/\0<=r.p/\r.p<=1000000000/\(∀x∈l,I64 x)) (λφ=>∀y s,y∈l->I64 y->s.p=r.p+1->φ (y,s)):=⟨by
 rintro⟨h0,h1,h2,h3⟩ φ hk
 unfold xD
 exact Ok.go⟩
theorem zGT(s:Str)(c:UInt8)(h0:s.l.length<=1000000):∀(k:Nat) (out:List Str) (f:Int) (i:Int),Tot (pZ s c out f i) ((s.l.length:Int)+1 - i<(k:Int)/\0<(k:Int)/\0<=f/\f<=i/\i<=(s.l.length:Int)+1/\(out.length:Int)<=i/\(∀x∈out,x.l.length<=s.l.length)) (λφ=>∀r,r.length<=s.l.length+1->(∀x∈r,x.l.length<=s.l.length)->φ r):=by
 intro k
 induction k with
 | zero=>intro out f i;exact⟨λh=>absurd h.2.1 (by omega)⟩
 | succ k ih=>
  intro out f i;refine⟨?_⟩;rintro⟨v0,v1,v2,v3,v4,v5,v6⟩ φ hk;unfold pZ;exact Ok.go
instance zKj(s:Str)(c:UInt8)(out:List Str)(f:Int)(i:Int):Tot (pZ s c out f i) (s.l.length<=1000000/\0<=f/\f<=i/\i<=(s.l.length:Int)+1/\(out.length:Int)<=i/\(∀x∈out,x.l.length<=s.l.length)) (λφ=>∀r,r.length<=s.l.length+1->(∀x∈r,x.l.length<=s.l.length)->φ r):=⟨by
 rintro⟨h0,v0,v1,v2,v3,v4⟩ φ hk
 exact(zGT s c h0 (((s.l.length:Int)+1 - i).toNat+1) out f i).ok ⟨by omega,by omega,v0,v1,v2,v3,v4⟩ φ hk⟩
instance zIX(s:Str)(c:UInt8):Tot (gY s c) (s.l.length<=1000000) (λφ=>∀r,r.length<=s.l.length+1->(∀x∈r,x.l.length<=s.l.length)->φ r):=⟨by
 rintro h0 φ hk
 unfold gY
 exact Ok.go⟩
theorem zGU(s:Str)(h0:s.l.length<=1000000):∀(k:Nat) (n:Int) (i:Int),Tot (uV s n i) ((s.l.length:Int) - i<(k:Int)/\0<(k:Int)/\I64 n/\0<=i) (λφ=>(∀n,I64 n->φ (.done n))/\(φ (.ret (0,false)))):=by
 intro k
 induction k with
 | zero=>intro n i;exact⟨λh=>absurd h.2.1 (by omega)⟩
 | succ k ih=>
  intro n i;refine⟨?_⟩;rintro⟨v0,v1,v2,v3⟩ φ ⟨hd,hr⟩;unfold uV;exact Ok.go
instance zKk(s:Str)(n:Int)(i:Int):Tot (uV s n i) (s.l.length<=1000000/\I64 n/\0<=i) (λφ=>(∀n,I64 n->φ (.done n))/\(φ (.ret (0,false)))):=⟨by
 rintro⟨h0,v0,v1⟩ φ hk
 exact(zGU s h0 (((s.l.length:Int) - i).toNat+1) n i).ok ⟨by omega,by omega,v0,v1⟩ φ hk⟩
instance zLk(s:Str):Tot (kG s) (s.l.length<=1000000) (λφ=>∀n b,I64 n->φ (n,b)):=⟨by
 rintro h0 φ hk
 unfold kG
 exact Ok.go⟩
instance eG:Tot oQ True (λφ=>φ (zA.mk [0,0,0,0] 0)):=⟨λ_ _ h=>Ok.pure h⟩
instance zBD:Tot kE True (λφ=>∀r,SRs 1000 r->φ r):=⟨λ_ φ h=>Ok.pure (h _ ⟨by decide,by simp[SR]⟩)⟩
instance mU(n:Int):Tot (wW n) True (λφ=>φ (zA.mk [0,0,0,0] n)):=⟨λ_ _ h=>by unfold wW;exact Ok.call eG trivial (Ok.pure h)⟩
theorem zEz(s:Str)(a:Int)(h0:s.l.length<=1000000)(h1:0<=a)(h2:a<=(s.l.length:Int)):∀(k:Nat) (e:Int),Tot (uD s a e) ((s.l.length:Int) - e<(k:Int)/\0<(k:Int)/\a<=e/\e<=a+2/\e<=(s.l.length:Int)) (λφ=>∀r,a<=r->r<=a+2->r<=(s.l.length:Int)->φ r):=by
 intro k
 induction k with
 | zero=>intro e;exact⟨λh=>absurd h.2.1 (by omega)⟩
 | succ k ih=>
  intro e;refine⟨?_⟩;rintro⟨v0,v1,v2,v3,v4⟩ φ hk;unfold uD;exact Ok.go
instance zJi(s:Str)(a:Int)(e:Int):Tot (uD s a e) (s.l.length<=1000000/\0<=a/\a<=(s.l.length:Int)/\a<=e/\e<=a+2/\e<=(s.l.length:Int)) (λφ=>∀r,a<=r->r<=a+2->r<=(s.l.length:Int)->φ r):=⟨by
 rintro⟨h0,h1,h2,v0,v1,v2⟩ φ hk
 exact(zEz s a h0 h1 h2 (((s.l.length:Int) - e).toNat+1) e).ok ⟨by omega,by omega,v0,v1,v2⟩ φ hk⟩
instance zDe(s:Str)(a:Int):Tot (sX s a) (s.l.length<=1000000/\0<=a/\a<=(s.l.length:Int)) (λφ=>∀n e,I64 n->a<=e->e<=(s.l.length:Int)->φ (n,e)):=⟨by
 rintro⟨h0,h1,h2⟩ φ hk
 unfold sX
 exact Ok.go⟩
instance zIY(s:Str)(a:Int):Tot (nO s a) (s.l.length<=1000000/\0<=a) (λφ=>∀r,-1<=r->r<=3->(0<=r->a<(s.l.length:Int))->φ r):=⟨by
 rintro⟨h0,h1⟩ φ hk
 unfold nO
 exact Ok.go⟩
theorem VA.set{l:List Int}{c:Int}(h:l.length=4)(hl:∀x∈l,I64 x)(hc:I64 c)(i:Nat)(x:Int):VA (zA.mk (([]++l).set i (W x)) c):=by
 refine⟨by simp[h],?_,hc⟩;intro y hy;rcases List.mem_or_eq_of_mem_set hy with hy|hy
 ·exact hl y hy
 ·exact hy ▸ zIr x
theorem VA.con{l:List Int}(h:l.length=4)(hl:∀x∈l,I64 x)(x:Int):VA (zA.mk ([]++l) (W x)):=⟨h,hl,zIr x⟩
instance zHb(a:zA)(s:Str)(n:Int):Tot (sS a s n) (VA a/\s.l.length<=1000000/\0<=n/\n<(s.l.length:Int)) (λφ=>∀r e,VA r->(e=-1∨n<e)->e<=(s.l.length:Int)->φ (r,e)):=⟨by
 rintro⟨h0,h1,h2,h3⟩ φ hk
 have hv:=h0;obtain⟨h00,h01,h02⟩:=h0;have t1:=VA.set h00 h01 h02;have t2:=VA.con h00 h01
 unfold sS
 refine Ok.sidx h2 h3 λb2 _ _=>?_
 refine Ok.bind (φ:=λ_=>True) Ok.go λsign _=>?_
 refine Ok.bind (φ:=λ_=>True) Ok.go λt27 _=>?_
 refine Ok.bind (φ:=λm=>n<=m/\m<=n+1) Ok.go λm hm=>?_
 refine Ok.call (zDe s m) ⟨h1,by omega,by omega⟩ λy1 y2 g1 g2 g3=>?_
 refine Ok.bind (φ:=λb=>b=true->y2<(s.l.length:Int)) Ok.go λt51 h51=>?_
 refine Ok.bind (φ:=λx=>y2<=x/\x<=(s.l.length:Int)) ?_ λstar hs=>?_
 ·refine Ok.ite (λh=>?_) λh=>Ok.go
  have h51:=h51 h
  exact Ok.go
 refine Ok.call (zIY s star) ⟨h1,by omega⟩ λy3 g4 g5 g6=>?_
 refine Ok.app S ?_
 refine Ok.bind (φ:=λb=>b=true->0<=y3) Ok.go λt75 h75=>?_
 refine Ok.ite (λh=>?_) λh=>?_
 ·have h75:=h75 h
  have g6:=g6 h75
  have h4:(([]:List Int)++a.Coefs).length=4:=h00
  refine Ok.idx h75 (by omega) λx _ hx=>Ok.idx_known hx h75 (Ok.bind_pure (Ok.pure ?_))
  rw[oM (x:=star+1) (by omega) (by omega)]
  exact hk _ _ (t1 _ _) (.inr (by omega)) (by omega)
 ·refine Ok.ite_beq (λh=>Ok.pure (hk _ _ hv (.inl rfl) (by omega))) λh=>Ok.pure (hk _ _ (t2 _) (.inr (by omega)) g3)⟩
theorem zGV:∀(k:Nat) (n:Int) (o:Str),Tot (pX n o) ((0<=n/\n<=9223372036854775807/\n<(2:Int) ^ k)/\o.l.length+k<=1000) (λφ=>∀a r,0<=a->a<=9->r.l.length<=o.l.length+k->φ (a,r)):=by
 intro k
 induction k with
 | zero=>intro n o;refine⟨?_⟩;rintro⟨⟨a1,a4,a2⟩,a3⟩ φ hk;unfold pX;rw[Int.pow_zero] at a2;exact Ok.go
 | succ k ih=>
  intro n o;refine⟨?_⟩;rintro⟨⟨a1,a4,a2⟩,a3⟩ φ hk;unfold pX;refine Ok.ite_dec (λh=>?_) λh=>Ok.go;refine Ok.cat (by simp;omega) λs hs hl=>?_;have ht:0<=n.tdiv 10/\n.tdiv 10<(2:Int) ^ k/\n.tdiv 10<=n:=by
   rw[ey a1];rw[Int.pow_succ] at a2;omega
  rw[oM (by omega) (by omega)];simp only[co,cx] at hl;refine Ok.last (ih _ _) ⟨⟨ht.1,by omega,ht.2.1⟩,by omega⟩ λa r g1 g2 g3=>hk a r g1 g2 (by omega)
theorem zFl(n:Int):Tot (rV n) (0<=n/\n<=9223372036854775807) (λφ=>∀r,r.l.length<=64->1<=r.l.length->φ r):=⟨by
 rintro⟨h0,h1⟩ φ hk;unfold rV;refine Ok.ite_dec (λh=>absurd h (by omega)) λ_=>Ok.ite_dec (λh=>absurd h (by omega)) λ_=>?_;refine Ok.call (zGV 63 n ⟨[]⟩) ⟨⟨h0,h1,by omega⟩,by decide⟩ λa r g1 g2 g3=>?_;simp only[cx] at g3;refine Ok.cat (by simp;omega) λs hs hl=>Ok.pure ?_;simp only[co,cx] at hl;exact hk _ (by dsimp only [id];omega) (by dsimp only [id];omega)⟩
instance zLl(n:Int):Tot (rV n) (I64 n) (λφ=>∀r,r.l.length<=70->1<=r.l.length->φ r):=⟨by
 rintro⟨h0,h1⟩ φ hk
 by_cases hn:0<=n
 ·exact(zFl n).ok ⟨hn,h1⟩ φ λr g1 g2=>hk r (by omega) g2
 unfold rV
 refine Ok.ite_dec (λh=>Ok.pure (hk _ (by decide) (by decide))) λ_=>Ok.ite_dec (λh=>?_) λh=>absurd h (by omega)
 rw[oM (by omega) (by omega)]
 refine Ok.call (zFl _) ⟨by omega,by omega⟩ λr g1 g2=>?_
 refine Ok.cat (by simp;omega) λs hs hl=>Ok.pure ?_
 simp only[co,cx] at hl
 exact hk _ (by dsimp only [id];omega) (by dsimp only [id];omega)⟩
instance zLm(n:Int)(name:Str):Tot (jU n name) (I64 n/\name.l.length<=10) (λφ=>∀r,r.l.length<=100->1<=r.l.length->φ r):=⟨by
 rintro⟨h0,h1⟩ φ hk
 have hw:=zIr (0 - n)
 unfold jU
 refine Ok.bind (φ:=λo=>I64 o.1/\o.2.l.length=1) ?_ ?_
 ·refine Ok.ite_dec (λ_=>Ok.pure ⟨hw,rfl⟩) λ_=>Ok.pure ⟨h0,rfl⟩
 rintro⟨m,sg⟩ ⟨g1,g2⟩
 dsimp only at g1 g2 ⊢
 exact Ok.go⟩
theorem zGW(a:zA)(h0:VA a):∀(k:Nat) (o:Str) (i:Int),Tot (pY a o i) ((a.Coefs.length:Int) - i<(k:Int)/\0<(k:Int)/\0<=i/\i<=4/\(o.l.length:Int)<=100*i) (λφ=>∀r,r.l.length<=400->φ r):=by
 obtain⟨h01,h02,h03⟩:=h0;intro k
 induction k with
 | zero=>intro o i;exact⟨λh=>absurd h.2.1 (by omega)⟩
 | succ k ih=>
  intro o i;refine⟨?_⟩;rintro⟨v0,v1,v2,v3,v4⟩ φ hk;unfold pY;exact Ok.go
instance zGX(a:zA)(o:Str)(i:Int):Tot (pY a o i) (VA a/\0<=i/\i<=4/\(o.l.length:Int)<=100*i) (λφ=>∀r,r.l.length<=400->φ r):=⟨by
 rintro⟨h0,v0,v1,v2⟩ φ hk
 exact(zGW a h0 (((a.Coefs.length:Int) - i).toNat+1) o i).ok ⟨by omega,by omega,v0,v1,v2⟩ φ hk⟩
instance zLn(a:zA):Tot (kF a) (VA a) (λφ=>∀r,r.l.length<=1000->φ r):=⟨by
 rintro h0 φ hk
 have h00:=h0;obtain⟨h01,h02,h03⟩:=h0
 unfold kF
 refine Ok.call (zGX a _ _) ⟨h00,by simp⟩ λo ho=>?_
 refine Ok.bind (φ:=λr=>r.l.length<=1000) Ok.go λr hr=>?_
 refine Ok.ite_beq (λ_=>Ok.pure (hk _ (by decide))) λhne=>?_
 have hp:0<r.l.length:=List.length_pos_iff.2 hne
 exact Ok.go⟩
instance zJ0(a:zA):Tot (nM a) (SA a) (λφ=>∀r,r.l.length<=1000->φ r):=⟨by
 rintro h0 φ hk
 unfold nM
 refine Ok.call (zEx a) h0 λb hb=>?_
 refine Ok.ite_not (λ_=>Ok.go) λhv=>?_
 have hv:=hb hv
 exact Ok.go⟩
theorem zCs(s:Str)(h0:s.l.length<=1000000):∀(k:Nat) (i:Int) (x:zA),Tot (xZ s i x) (((i<0∨(s.l.length:Int) - i+1<(k:Int))/\0<(k:Int)/\i<=(s.l.length:Int))/\VA x) (λφ=>∀r,VA r->φ r):=by
 intro k
 induction k with
 | zero=>intro i x;exact⟨λh=>absurd h.1.2.1 (by omega)⟩
 | succ k ih=>
  intro i x;refine⟨?_⟩;rintro⟨⟨v0,v1,v2⟩,v3⟩ φ hk;unfold xZ;refine Ok.bind_ite (Ok.ite_dec (λh1=>Ok.bind_pure ?_) λ_=>Ok.bind_pure (Ok.ite_ff Ok.go));refine Ok.ite_dec (λh2=>Ok.call (zHb x s i) ⟨v3,h0,h1,h2⟩ λr e g1 g2 g3=>?_) λh2=>Ok.go;refine Ok.last (ih e r) ⟨⟨by omega,by omega,g3⟩,g1⟩ hk
instance zFA(s:Str):Tot (oA s) (s.l.length<=1000000) (λφ=>∀a b,SA a->φ (a,b)):=⟨by
 rintro h0 φ hk
 unfold oA
 refine Ok.call eG trivial (Ok.ite_dec (λ_=>Ok.pure (hk _ _ SA.nil0)) λ_=>?_)
 refine Ok.call (zCs s h0 (s.l.length+2) 0 _) ⟨⟨by omega,by omega,by omega⟩,rfl,by simp[I64],by simp[I64]⟩ λx hx=>?_
 have hs:SA x:=⟨by rw[hx.1];decide,hx.2.2⟩
 exact Ok.go⟩
theorem zCt(y:List Str)(h0:y.length<=1000001)(h1:∀x∈y,x.l.length<=1000000):∀(k:Nat) (o:List zA) (i:Int),Tot (tF y o i) (3 - i<(k:Int)/\0<(k:Int)/\0<=i/\(o.length:Int)<=i/\i<=3/\(∀a∈o,SA a)) (λφ=>∀r,LL r->r.length<=100->(∀a∈r,SA a)->φ r):=by
 intro k
 induction k with
 | zero=>intro o i;exact⟨λh=>absurd h.2.1 (by omega)⟩
 | succ k ih=>
  intro o i;refine⟨?_⟩;rintro⟨v0,v1,v2,v3,v4,v5⟩ φ hk;unfold tF;exact Ok.go
instance zIZ(y:List Str)(o:List zA)(i:Int):Tot (tF y o i) (y.length<=1000001/\(∀x∈y,x.l.length<=1000000)/\0<=i/\(o.length:Int)<=i/\i<=3/\(∀a∈o,SA a)) (λφ=>∀r,LL r->r.length<=100->(∀a∈r,SA a)->φ r):=⟨by
 rintro⟨h0,h1,v0,v1,v2,v3⟩ φ hk
 exact(zCt y h0 h1 ((3 - i).toNat+1) o i).ok ⟨by omega,by omega,v0,v1,v2,v3⟩ φ hk⟩
theorem up{y:List Str}{n:Nat}(h:∀x∈y,x.l.length<=n)(hn:n<=1000000):∀x∈y,x.l.length<=1000000:=λx hx=>dh (h x hx) hn
instance zJj(s:Str):Tot (mC s) (s.l.length<=1000000) (λφ=>∀r,LL r->r.length<=100->(∀a∈r,SA a)->φ r):=⟨by
 rintro h0 φ hk
 unfold mC
 refine Ok.call (zIX s _) h0 λy g1 g2=>?_
 have g3:=up g2 h0
 exact Ok.go⟩
theorem zFm(s:Str)(e:UInt8)(h0:s.l.length<=1000000):∀(k:Nat) (i:Int),Tot (qQ s e i) ((s.l.length:Int) - i<(k:Int)/\0<(k:Int)/\0<=i) (λφ=>(φ (.done ()))/\(∀r b,i<=r->r<(s.l.length:Int)->s.l[r.toNat]?=some b->(b.toNat:Int)=(e.toNat:Int)->φ (.ret r))):=by
 intro k
 induction k with
 | zero=>intro i;exact⟨λh=>absurd h.2.1 (by omega)⟩
 | succ k ih=>
  intro i;refine⟨?_⟩;rintro⟨v0,v1,v2⟩ φ ⟨hd,hr⟩;unfold qQ;refine Ok.ite_dec (λh=>Ok.sidx v2 h λb _ hb=>Ok.ite_beq (λhe=>Ok.pure (hr i b (by omega) h hb he)) λ_=>?_) λ_=>Ok.go;rw[oM (by omega) (by omega)];exact Ok.last (ih (i+1)) ⟨by omega,by omega,by omega⟩ ⟨hd,λr b g1=>hr r b (by omega)⟩
instance zFn(s:Str)(e:UInt8)(i:Int):Tot (qQ s e i) (s.l.length<=1000000/\0<=i) (λφ=>(φ (.done ()))/\(∀r b,i<=r->r<(s.l.length:Int)->s.l[r.toNat]?=some b->(b.toNat:Int)=(e.toNat:Int)->φ (.ret r))):=⟨by
 rintro⟨h0,v0⟩ φ hk
 exact(zFm s e h0 (((s.l.length:Int) - i).toNat+1) i).ok ⟨by omega,by omega,v0⟩ φ hk⟩
instance zHc(s:Str)(i:Int)(e:UInt8):Tot (kU s i e) (s.l.length<=1000000/\0<=i) (λφ=>∀r,(r=-1∨(i<=r/\r<(s.l.length:Int)/\∃b,s.l[r.toNat]?=some b/\(b.toNat:Int)=(e.toNat:Int)))->φ r):=⟨by
 rintro⟨h0,h1⟩ φ hk
 unfold kU
 exact Ok.call (zFn s e i) ⟨h0,h1⟩ ⟨Ok.pure (hk _ (.inl rfl)),λr b g1 g2 g3 g4=>Ok.pure (hk _ (.inr ⟨g1,g2,b,g3,g4⟩))⟩⟩
instance zAV(s:Str)(i:Int):Tot (rP s i) (s.l.length<=1000000/\0<=i/\i<=1000000) (λφ=>∀a n,SC a->(n=-1∨i<n)->n<=(s.l.length:Int)->φ (a,n)):=⟨by
 rintro⟨h0,h1,h2⟩ φ hk
 unfold rP
 exact Ok.go⟩
theorem SE.node{n:Nat}{k:Int}{a b:zD}(ha:SE n a)(hb:SE n b):SE (n+1) (zD.mk k 0 (zA.mk [] 0) (zH.mk ⟨[]⟩ []) [a,b]):=
 ⟨SA.nil0,SC.nil,cu rfl,λk hk=>by
  rcases cv.1 hk with hk|hk
  ·exact hk ▸ ha
  ·exact cA.1 hk ▸ hb⟩
theorem SE.lf{m:Nat}{k n:Int}{a:zA}{c:zH}(h1:SA a)(h2:SC c):SE m (zD.mk k n a c []):=SE.leaf (e:=zD.mk k n a c []) h1 h2 rfl
def EX0:zD:=zD.mk 0 0 (zA.mk [] 0) (zH.mk ⟨[]⟩ []) []
theorem EX0.se{n:Nat}:SE n EX0:=SE.leaf (e:=EX0) SA.nil0 SC.nil rfl
theorem zHd(s:Str)(h0:s.l.length<=1000000):∀(n:Nat) (i lv:Int),Tot (qR s i lv) (lv<=n/\n<=1000/\I64 lv) (λφ=>∀e r,SE n e->(r=-1∨(0<=i/\i<r))->r<=(s.l.length:Int)->φ (e,r)):=by
 intro n
 induction n with
 | zero=>
  intro i lv;refine⟨?_⟩;rintro⟨v0,v1,v2⟩ φ hk;unfold qR;dsimp only [same];refine Ok.bind_ite (Ok.ite_dec (λh=>Ok.bind_pure (Ok.ite_tt (Ok.pure (hk _ _ EX0.se (.inl rfl) (by omega))))) λh=>absurd h (by omega))
 | succ n ih=>
  have round:∀(i lv:Int),Tot (gN s i lv) (lv<=n/\n<=1000/\0<=i/\I64 lv) (λφ=>∀e r,SE (n+1) e->(r=-1∨(i<r))->r<=(s.l.length:Int)->φ (e,r)):=by
   intro i lv;refine⟨?_⟩;rintro⟨v0,v1,v2,v4⟩ φ hk;unfold gN;dsimp only [same];have hbad:Ok (Pure.pure (EX0,(-1:Int))) φ:=Ok.pure (hk _ _ EX0.se (.inl rfl) (by omega));refine Ok.call (ih i lv) ⟨v0,v1,v4⟩ λe1 r1 g1 g2 g3=>?_;refine Ok.bind (φ:=λb=>b=false->0<=r1/\r1<(s.l.length:Int)) Ok.go λb hb=>Ok.ite (λ_=>hbad) λhz=>?_;obtain⟨b1,b2⟩:=hb (by simpa using hz);refine Ok.sidx b1 b2 λc _ hc=>Ok.bind (φ:=λ_=>True) Ok.go λkd _=>?_;refine Ok.call (ih _ lv) ⟨v0,v1,v4⟩ λe2 r2 g4 g5 g6=>?_;rw[oM (by omega) (by omega)] at g5;refine Ok.bind (φ:=λb=>b=false->0<=r2/\r2<(s.l.length:Int)) Ok.go λb hb=>Ok.ite (λ_=>hbad) λhz=>?_;obtain⟨b3,b4⟩:=hb (by simpa using hz);refine Ok.pure ?_;rw[oM (by omega) (by omega)];exact hk _ _ (SE.node g1 g4) (.inr (by omega)) (by omega)
  intro i lv;refine⟨?_⟩;rintro⟨v0,v1,v2⟩ φ hk;unfold qR;dsimp only [same];have hbad:Ok (Pure.pure (EX0,(-1:Int))) φ:=Ok.pure (hk _ _ EX0.se (.inl rfl) (by omega));refine Ok.bind (φ:=λb=>b=false->0<=i/\i<(s.l.length:Int)/\1<=lv) Ok.go λb hb=>Ok.ite (λ_=>hbad) λhz=>?_;obtain⟨b1,b2,b3⟩:=hb (by simpa using hz);refine Ok.sidx b1 b2 λc _ hc=>Ok.ite_beq (λaD=>?_) λ_=>?_
  ·refine Ok.call (zHc s i _) ⟨h0,b1⟩ λy hy=>Ok.ite_dec (λ_=>hbad) λhy0=>?_;rcases hy with hy|⟨y1,y2,d,y3,y4⟩
   ·exact absurd hy (by omega)
   have hiy:i+1<=y:=by
    by_cases e:y=i
    ·subst e;rw[hc] at y3;cases y3
     have:((125:UInt8).toNat:Int)=125:=rfl;omega
    ·omega
   rw[oM (by omega) (by omega),oM (by omega) (by omega)];refine Ok.sslc (by omega) (by omega) (by omega) λm _ hm=>Ok.call (zFA m) (by omega) λa b ha=>Ok.pure (hk _ _ (SE.lf ha SC.nil) (.inr (by omega)) (by omega))
  ·refine Ok.bind (φ:=λ_=>True) Ok.go λt52 _=>Ok.ite (λ_=>?_) λ_=>?_
   ·refine Ok.call (zAV s i) ⟨h0,b1,by omega⟩ λa r ha g1 g2=>Ok.pure (hk _ _ (SE.lf SA.nil0 ha) (by omega) g2)
   ·refine Ok.sidx_known hc b1 (Ok.ite_beq (λ_=>?_) λ_=>?_)
    ·obtain⟨v3,v4⟩:=v2;rw[oM (x:=lv - 1) (by omega) (by omega),oM (x:=i+1) (by omega) (by omega)];refine Ok.call (round _ _) ⟨by omega,by omega,by omega,⟨by omega,by omega⟩⟩ λe r g1 g2 g3=>Ok.pure (hk _ _ g1 (by omega) g3)
    ·refine Ok.call (zDe s i) ⟨h0,b1,by omega⟩ λn2 r g1 g2 g3=>Ok.ite_beq (λ_=>hbad) λhne=>Ok.pure (hk _ _ (SE.lf SA.nil0 SC.nil) (.inr (by omega)) g3)
instance zHe(s:Str)(i lv:Int):Tot (qR s i lv) (s.l.length<=1000000/\0<=lv/\lv<=5) (λφ=>∀e r,SE 5 e->(r=-1∨(0<=i/\i<r))->r<=(s.l.length:Int)->φ (e,r)):=⟨λ⟨h0,h1,h2⟩=>(zHd s h0 5 i lv).ok ⟨h2,by decide,⟨by omega,by omega⟩⟩⟩
theorem zDf(ah:List zA)(h0:ah.length<=100)(h1:∀a∈ah,VA a):∀(k:Nat) (o:Str) (i:Int),Tot (tN ah o i) ((ah.length:Int) - i<(k:Int)/\0<(k:Int)/\0<=i/\i<=100/\(o.l.length:Int)<=1001*i) (λφ=>∀r,r.l.length<=200000->φ r):=by
 intro k
 induction k with
 | zero=>intro o i;exact⟨λh=>absurd h.2.1 (by omega)⟩
 | succ k ih=>
  intro o i;refine⟨?_⟩;rintro⟨v0,v1,v2,v3,v4⟩ φ hk;unfold tN;exact Ok.go
instance zIs(ah:List zA)(o:Str)(i:Int):Tot (tN ah o i) (ah.length<=100/\(∀a∈ah,VA a)/\0<=i/\i<=100/\(o.l.length:Int)<=1001*i) (λφ=>∀r,r.l.length<=200000->φ r):=⟨by
 rintro⟨h0,h1,v0,v1,v2⟩ φ hk
 exact(zDf ah h0 h1 (((ah.length:Int) - i).toNat+1) o i).ok ⟨by omega,by omega,v0,v1,v2⟩ φ hk⟩
instance zKS(ah:List zA):Tot (mR ah) (ah.length<=100/\(∀a∈ah,VA a)) (λφ=>∀r,r.l.length<=200000->φ r):=⟨by
 rintro⟨h0,h1⟩ φ hk
 unfold mR
 exact Ok.go⟩
instance zJ1(a:zH):Tot (pA a) (VC a) (λφ=>∀r,r.l.length<=200100->φ r):=⟨by
 rintro h0 φ hk
 obtain⟨h01,h02,h03⟩:=h0
 unfold pA
 exact Ok.go⟩
def TN:Nat->Nat
 | 0=>200100
 | n+1=>2*TN n+10
theorem TN.ge:∀n,200100<=TN n
 | 0=>cU _
 | n+1=>by have:=TN.ge n;simp only[TN];omega
theorem TN.mono(n:Nat):TN n<=TN (n+1):=by have:=TN.ge n;simp only[TN];omega
theorem zI0:∀(n:Nat) (e:zD),Tot (rW e) (VE n e/\TN n<=1000000000) (λφ=>∀r,r.l.length<=TN n->φ r):=by
 have base:∀(e:zD),VO e->∀φ:Str->Prop,(∀r,r.l.length<=200100->φ r)->Ok (rW e) φ:=by
  intro e he φ hk;unfold rW;rcases he with⟨h,h1⟩|⟨h,h1⟩|⟨h,h1⟩
  ·refine Ok.ite_beq (λ_=>Ok.go) λhne=>absurd h hne
  ·refine Ok.ite_beq (λhe=>absurd (h.symm.trans he) (by decide)) λ_=>Ok.ite_beq (λ_=>Ok.go) λhne=>absurd h hne
  ·refine Ok.ite_beq (λhe=>absurd (h.symm.trans he) (by decide)) λ_=>Ok.ite_beq (λhe=>absurd (h.symm.trans he) (by decide)) λ_=>Ok.ite_beq (λ_=>Ok.go) λhne=>absurd h hne
 intro n
 induction n with
 | zero=>intro e;exact⟨λ⟨h,_⟩ φ hk=>base e h φ hk⟩
 | succ n ih=>
  intro e;refine⟨?_⟩;rintro⟨h,hn⟩ φ hk;have hm:=TN.mono n;have hg:=TN.ge n;have hg2:TN (n+1)=2*TN n+10:=rfl;rcases h with h|⟨h1,h2,h3⟩
  ·exact base e h φ λr hr=>hk r (by omega)
  unfold rW;dsimp only [same];refine Ok.ite_beq (λhe=>by omega) λ_=>Ok.ite_beq (λhe=>by omega) λ_=>Ok.ite_beq (λhe=>by omega) λ_=>?_;refine Ok.idx (by omega) (by omega) λx hx _=>?_;have hx:=h3 x hx;refine Ok.call (ih x) ⟨hx,by omega⟩ λy hy=>?_;refine Ok.cat (by simp;omega) λs2 _ g2=>?_;rw[oM (x:=e.Kind - 4) (by omega) (by omega),oM (x:=e.Kind - 4+1) (by omega) (by omega)];refine Ok.sslc (by omega) (by omega) (by simp;omega) λs3 _ g3=>?_;simp only[co,cx] at g2;refine Ok.cat (by omega) λs4 _ g4=>Ok.idx (by omega) (by omega) λx1 hx1 _=>?_;have hx1:=h3 x1 hx1;refine Ok.call (ih x1) ⟨hx1,by omega⟩ λy4 br=>Ok.cat (by omega) λs5 _ g5=>Ok.cat (by simp;omega) λs6 _ g6=>Ok.pure (hk _ ?_);simp only[co,cx] at g6;dsimp only [id];omega
instance zLZ(e:zD):Tot (rW e) (VE 5 e) (λφ=>∀r,r.l.length<=10000000->φ r):=⟨λh φ hk=>(zI0 5 e).ok ⟨h,by decide⟩ φ λr hr=>hk r (dh hr (by decide))⟩
instance zFo(s:zM):Tot (mS s) (SS s) (λφ=>∀r,r.l.length<=100000000->φ r):=⟨by
 rintro h0 φ hk
 unfold mS
 refine Ok.call (zCY s _) h0 λb hb=>?_
 refine Ok.ite_not (λ_=>Ok.go) λhv=>?_
 obtain⟨g1,g2⟩:=hb hv
 exact Ok.go⟩
instance zGY(s:Str):Tot (kV s) (s.l.length<=1000000) (λφ=>∀a b,SS a->φ (a,b)):=⟨by
 rintro h0 φ hk
 have e0:SS (zM.mk (zH.mk ⟨[]⟩ []) EX0):=⟨SC.nil,EX0.se⟩
 unfold kV
 refine Ok.ite_dec (λ_=>Ok.pure (hk _ _ e0)) λ_=>?_
 refine Ok.call (zAV s 0) ⟨h0,by omega,by omega⟩ λa n g1 g2 g3=>?_
 refine Ok.bind (φ:=λ_=>True) Ok.go λt _=>Ok.ite (λ_=>Ok.pure (hk _ _ e0)) λ_=>?_
 refine Ok.call (zHe s _ 5) ⟨h0,by decide,by decide⟩ λe r g4 g5 g6=>?_
 have hs:SS (zM.mk a e):=⟨g1,g4⟩
 refine Ok.call (zFo _) hs λt ht=>Ok.ite_not (λ_=>Ok.pure (hk _ _ e0)) λ_=>Ok.pure (hk _ _ hs)⟩
theorem zKT{α:Type}{P Q:α->Prop}{l:List α}(h:∀x∈l,P x)(hm:∀x,P x->Q x):∀x∈l,Q x:=λx hx=>hm x (h x hx)
theorem SN.mono{b:Nat}{l:List zE}(h:SN b l):SN (b+1) l:=⟨by have:=h.1;omega,h.2⟩
theorem SP.mono{b:Nat}{p:zJ}(h:SP b p):SP (b+1) p:=⟨h.1.mono,by have:=h.2.1;omega,h.2.2⟩
theorem SRs.mono{b:Nat}{l:List zG}(h:SRs b l):SRs (b+1) l:=⟨by have:=h.1;omega,h.2⟩
theorem SG.mono{b:Nat}{p:zP}(h:SG b p):SG (b+1) p:=⟨h.1.mono,by have:=h.2.1;omega,zKT h.2.2 λ_=>SP.mono⟩
theorem SG.up{b:Nat}:∀{c:Nat}{p:zP},SG b p->SG (b+c) p
 | 0,_,h=>h
 | c+1,_,h=>(SG.up (c:=c) h).mono
theorem zBw{α:Type}{P:α->Prop}{l:List α}{x:α}(h:∀y∈l,P y)(hx:P x)(k:Nat):∀y∈l.set k x,P y:=by
 intro y hy;rcases List.mem_or_eq_of_mem_set hy with hy|hy
 ·exact h y hy
 ·exact hy ▸ hx
theorem SP.nil{b:Nat}:SP b (zJ.mk [] []):=⟨⟨d9 _,λ_ h=>absurd h dc⟩,d9 _,λ_ h=>absurd h dc⟩
theorem SG.nil:SG 1000 (zP.mk [] []):=⟨⟨by simp,by simp⟩,by simp,by simp⟩
theorem VA4.sa{a:zA}(h:a.Coefs.length=4)(hc:I64 a.Const):SA a:=⟨by omega,hc⟩
instance zBx(v:Int):Tot (nN v) (0<=v/\v<4) (λφ=>∀r,r.Coefs.length=4->r.Const=0->φ r):=⟨by
 rintro⟨h0,h1⟩ φ hk
 unfold nN
 refine Ok.call eG trivial (Ok.idx h0 (by simp;omega) λx _ _=>Ok.bind_pure (Ok.pure (hk _ (by simp) rfl)))⟩
theorem zE3(a:zA)(x:Int)(b:zA)(y:Int)(h0:a.Coefs.length=4)(h1:b.Coefs.length=4):∀(k:Nat) (i:Int) (o:List Int),Tot (sI a x b y i o) (4 - i<(k:Int)/\0<(k:Int)/\0<=i/\i<=4/\(o.length:Int)=i) (λφ=>∀r,r.length=4->φ r):=by
 intro k
 induction k with
 | zero=>intro i o;exact⟨λh=>absurd h.2.1 (by omega)⟩
 | succ k ih=>
  intro i o;refine⟨?_⟩;rintro⟨v0,v1,v2,v3,v4⟩ φ hk;unfold sI;exact Ok.go
instance zJ2(a:zA)(x:Int)(b:zA)(y:Int)(i:Int)(o:List Int):Tot (sI a x b y i o) (a.Coefs.length=4/\b.Coefs.length=4/\0<=i/\i<=4/\(o.length:Int)=i) (λφ=>∀r,r.length=4->φ r):=⟨by
 rintro⟨h0,h1,v0,v1,v2⟩ φ hk
 exact(zE3 a x b y h0 h1 ((4 - i).toNat+1) i o).ok ⟨by omega,by omega,v0,v1,v2⟩ φ hk⟩
instance zGZ(a:zA)(x:Int)(b:zA)(y:Int):Tot (nS a x b y) (a.Coefs.length=4/\b.Coefs.length=4) (λφ=>∀r,r.Coefs.length=4->I64 r.Const->φ r):=⟨by
 rintro⟨h0,h1⟩ φ hk
 unfold nS
 exact Ok.go⟩
theorem LL.one{a:zA}(h:SA a):LL [a]:=⟨cu rfl,λ_ h'=>cA.1 h' ▸ h⟩
theorem LL.two{a b:zA}(h:SA a)(h2:SA b):LL ([a]++[b]):=⟨cu rfl,zGy (LL.one h).2 h2⟩
theorem SA.c4{y:Int}(h:I64 y):SA (zA.mk [0,0,0,0] y):=⟨cu rfl,h⟩
instance zLo(r:zK)(aa:Int):Tot (fA r aa) (0<=r.p/\r.p<=900000000/\0<=aa/\aa<=4) (λφ=>∀a s,SL1 a->r.p<=s.p->s.p<=r.p+20->φ (a,s)):=⟨by
 rintro⟨h0,h1,h2,h3⟩ φ hk
 unfold fA
 refine Ok.call (uM r _) ⟨by decide,h0,by omega,by decide⟩ λy1 s1 _ g1 e1=>Ok.call (mU _) trivial ?_
 refine Ok.call (uM s1 _) ⟨by decide,by omega,by omega,by decide⟩ λy2 s2 _ g2 e2=>Ok.call (mU _) trivial ?_
 have a1:=SA.c4 g1
 have a2:=SA.c4 g2
 refine Ok.bind (φ:=λo=>r.p<=o.2.p/\o.2.p<=r.p+3) Ok.go ?_
 rintro⟨t,x⟩ ⟨g3,g4⟩
 dsimp only at g3 g4 ⊢
 refine Ok.bind (φ:=λo=>SA o.1/\SA o.2.1/\r.p<=o.2.2.p/\o.2.2.p<=r.p+6) (Ok.ite (λ_=>?_) λ_=>Ok.go) ?_
 ·refine Ok.call (fE x _) ⟨by omega,by omega⟩ λy s k1 k2 k3=>Ok.call (fE s _) ⟨by omega,by omega⟩ λz u k4 k5 k6=>?_
  refine Ok.bind (φ:=λo=>SA o.1/\SA o.2) (Ok.ite_beq (λ_=>?_) λ_=>?_) ?_
  ·exact Ok.call (zBx y) ⟨k1,by omega⟩ λb c1 c2=>Ok.pure ⟨⟨by dsimp only;omega,by dsimp only;rw[c2];decide⟩,a2⟩
  ·exact Ok.call (zBx y) ⟨k1,by omega⟩ λb c1 c2=>Ok.call (mU _) trivial (Ok.call (zGZ b 1 _ 1) ⟨c1,rfl⟩ λd c3 c4=>Ok.pure ⟨a1,⟨by dsimp only;omega,c4⟩⟩)
  rintro⟨b,c⟩ ⟨c1,c2⟩
  exact Ok.pure ⟨c1,c2,by dsimp only at *;omega,by dsimp only at *;omega⟩
 rintro⟨b,c,u⟩ ⟨b1,b2,b3,b4⟩
 dsimp only at b1 b2 b3 b4 ⊢
 refine Ok.call (fE u _) ⟨by omega,by omega⟩ λy s k1 k2 k3=>?_
 refine Ok.bind (φ:=λo=>LL o.1/\LL o.2.1/\r.p<=o.2.2.p/\o.2.2.p<=r.p+20) (Ok.ite_beq (λ_=>?_) λ_=>?_) ?_
 ·refine Ok.call (uM s _) ⟨by decide,by omega,by omega,by decide⟩ λy3 s3 _ g3 e3=>Ok.call (mU _) trivial (Ok.app S (Ok.pure ⟨LL.one b1,LL.two b2 (SA.c4 g3),by dsimp only;omega,by dsimp only;omega⟩))
 ·refine Ok.bind (φ:=λo=>LL o.1/\r.p<=o.2.p/\o.2.p<=r.p+20) (Ok.ite_beq (λ_=>?_) λ_=>Ok.pure ⟨LL.one b1,by dsimp only;omega,by dsimp only;omega⟩) ?_
  ·refine Ok.call (uM s _) ⟨by decide,by omega,by omega,by decide⟩ λy3 s3 _ g3 e3=>Ok.call (mU _) trivial (Ok.app S (Ok.pure ⟨LL.two b1 (SA.c4 g3),by dsimp only;omega,by dsimp only;omega⟩))
  rintro⟨d,w⟩ ⟨d1,d2,d3⟩
  exact Ok.pure ⟨d1,LL.one b2,d2,d3⟩
 rintro⟨d,e,w⟩ ⟨d1,d2,d3,d4⟩
 exact Ok.pure (hk _ _ ⟨d1,d2⟩ d3 d4)⟩
theorem zG0 :∀(k:Nat) (o:List zE) (i:Int) (r:zK),Tot (oC o i r) (i<(k:Int)/\0<(k:Int)/\i<=3/\0<=i/\(o.length:Int)+i<=4/\0<=r.p/\r.p+20*i<=800000100/\(∀x∈o,SL1 x)) (λφ=>∀a s,SN 1000 a->a.length<=4->r.p<=s.p->s.p<=r.p+20*i->φ (a,s)):=by
 intro k
 induction k with
 | zero=>intro o i r;exact⟨λh=>absurd h.2.1 (by omega)⟩
 | succ k ih=>
  intro o i r;refine⟨?_⟩;rintro⟨v0,v1,v2,v3,v4,v5,v6,v7⟩ φ hk;unfold oC;exact Ok.go
instance zKl  (o:List zE) (i:Int) (r:zK):Tot (oC o i r) (i<=3/\0<=i/\(o.length:Int)+i<=4/\0<=r.p/\r.p+20*i<=800000100/\(∀x∈o,SL1 x)) (λφ=>∀a s,SN 1000 a->a.length<=4->r.p<=s.p->s.p<=r.p+20*i->φ (a,s)):=⟨by
 rintro⟨v0,v1,v2,v3,v4,v5⟩ φ hk
 exact(zG0 ((i).toNat+1) o i r).ok ⟨by omega,by omega,v0,v1,v2,v3,v4,v5⟩ φ hk⟩
instance zI1(r:zK):Tot (fB r) (0<=r.p/\r.p<=800000000) (λφ=>∀a s,SN 1000 a->a.length<=4->r.p<=s.p->s.p<=r.p+100->φ (a,s)):=⟨by
 rintro⟨h0,h1⟩ φ hk
 unfold fB
 refine Ok.call (uM r _) ⟨by decide,h0,by omega,by decide⟩ λy s g1 g2 g3=>?_
 simp only[cv,dc,or_false] at g1
 exact Ok.go⟩
theorem zG1(aa:Int)(n:Int)(h0:0<=aa)(h1:aa<=4)(h2:n<=2):∀(k:Nat) (i:Int) (o:List zA) (r:zK),Tot (oD aa n i o r) (n - i<(k:Int)/\0<(k:Int)/\0<=i/\i<=2/\(o.length:Int)<=i/\0<=r.p/\r.p<=900000000+10*i/\(∀x∈o,SA x)) (λφ=>∀a s,a.length<=100->(∀x∈a,SA x)->r.p<=s.p->s.p<=r.p+20 - 10*i->φ (a,s)):=by
 intro k
 induction k with
 | zero=>intro i o r;exact⟨λh=>absurd h.2.1 (by omega)⟩
 | succ k ih=>
  intro i o r;refine⟨?_⟩;rintro⟨v0,v1,v2,v3,v4,v5,v6,v7⟩ φ hk;unfold oD;exact Ok.go
instance zKm(aa:Int)(n:Int)(i:Int)(o:List zA)(r:zK):Tot (oD aa n i o r) (0<=aa/\aa<=4/\n<=2/\0<=i/\i<=2/\(o.length:Int)<=i/\0<=r.p/\r.p<=900000000+10*i/\(∀x∈o,SA x)) (λφ=>∀a s,a.length<=100->(∀x∈a,SA x)->r.p<=s.p->s.p<=r.p+20 - 10*i->φ (a,s)):=⟨by
 rintro⟨h0,h1,h2,v0,v1,v2,v3,v4,v5⟩ φ hk
 exact(zG1 aa n h0 h1 h2 ((n - i).toNat+1) i o r).ok ⟨by omega,by omega,v0,v1,v2,v3,v4,v5⟩ φ hk⟩
instance zFp(r:zK)(aa:Int):Tot (kH r aa) (0<=r.p/\r.p<=800000000/\0<=aa/\aa<=4) (λφ=>∀a s,SC a->r.p<=s.p->s.p<=r.p+30->φ (a,s)):=⟨by
 rintro⟨h0,h1,h2,h3⟩ φ hk
 unfold kH
 refine Ok.call (zBC r _) ⟨by decide,h0,by omega⟩ λy s g1 g2=>?_
 have hy:y.l.length<=1:=by
  simp only[cv,dc,or_false] at g1
  rcases g1 with rfl|rfl|rfl|rfl <;> decide
 exact Ok.go⟩
theorem zG2(aa:Int)(h0:0<=aa)(h1:aa<=4):∀(k:Nat) (i:Int) (o:List Int) (r:zK),Tot (oE aa i o r) (aa - i<(k:Int)/\0<(k:Int)/\0<=i/\i<=4/\o.length=4/\0<=r.p/\r.p<=900000000+i) (λφ=>∀a s,a.length=4->r.p<=s.p->s.p<=r.p+4 - i->φ (a,s)):=by
 intro k
 induction k with
 | zero=>intro i o r;exact⟨λh=>absurd h.2.1 (by omega)⟩
 | succ k ih=>
  intro i o r;refine⟨?_⟩;rintro⟨v0,v1,v2,v3,v4,v5,v6⟩ φ hk;unfold oE;exact Ok.go
instance zKn(aa:Int)(i:Int)(o:List Int)(r:zK):Tot (oE aa i o r) (0<=aa/\aa<=4/\0<=i/\i<=4/\o.length=4/\0<=r.p/\r.p<=900000000+i) (λφ=>∀a s,a.length=4->r.p<=s.p->s.p<=r.p+4 - i->φ (a,s)):=⟨by
 rintro⟨h0,h1,v0,v1,v2,v3,v4⟩ φ hk
 exact(zG2 aa h0 h1 ((aa - i).toNat+1) i o r).ok ⟨by omega,by omega,v0,v1,v2,v3,v4⟩ φ hk⟩
instance zI2(r:zK)(aa:Int):Tot (jV r aa) (0<=r.p/\r.p<=800000000/\0<=aa/\aa<=4) (λφ=>∀a s,SA a->a.Coefs.length=4->r.p<=s.p->s.p<=r.p+10->φ (a,s)):=⟨by
 rintro⟨h0,h1,h2,h3⟩ φ hk
 unfold jV
 exact Ok.go⟩
def PN:Nat->Nat
 | 0=>50
 | n+1=>2*PN n+50
theorem SE.kids{n:Nat}{k:Int}{l:List zD}(h:l.length<=10)(hl:∀x∈l,SE n x):SE (n+1) (zD.mk k 0 (zA.mk [] 0) (zH.mk ⟨[]⟩ []) l):=⟨SA.nil0,SC.nil,h,hl⟩
theorem zHf(aa:Int)(hd0:0<=aa)(hd1:aa<=4):∀(n:Nat) (r:zK) (lv:Int),Tot (qS r aa lv) (lv<=n+1/\0<=lv/\n<=10/\0<=r.p/\r.p+PN n<=800000000) (λφ=>∀e s,SE n e->r.p<=s.p->s.p<=r.p+PN n->φ (e,s)):=by
 intro n;have leaf:∀(m:Nat) (x:zK),Tot (do
  let (y4,y5)<-xC x 4
  if(y4==0) then
   let (y7,y8)<-xD y5 ([1,2,0,99,3]:List Int)
   pure ((zD.mk 1 y7 (zA.mk ([]:List Int) 0) (zH.mk (⟨[]⟩:Str) ([]:List zA)) ([]:List zD)),y8)
  else
   if(y4==1) then
    let (y10,y11)<-jV y5 aa
    pure ((zD.mk 2 0 y10 (zH.mk (⟨[]⟩:Str) ([]:List zA)) ([]:List zD)),y11)
   else
    let (y13,y14)<-kH y5 aa
    pure ((zD.mk 3 0 (zA.mk ([]:List Int) 0) y13 ([]:List zD)),y14)) (0<=x.p/\x.p<=799999999) (λφ=>∀e s,SE m e->x.p<=s.p->s.p<=x.p+40->φ (e,s)):=by
  intro m x;refine⟨?_⟩;rintro⟨h0,h1⟩ φ hk;refine Ok.call (fE x 4) ⟨h0,by omega⟩ λy s k1 k2 k3=>?_;refine Ok.ite_beq (λ_=>?_) λ_=>Ok.ite_beq (λ_=>?_) λ_=>?_
  ·exact Ok.call (uM s _) ⟨by decide,by omega,by omega,by decide⟩ λy3 s3 _ g3 e3=>Ok.pure (hk _ _ (SE.lf SA.nil0 SC.nil) (by omega) (by omega))
  ·exact Ok.call (zI2 s aa) ⟨by omega,by omega,hd0,hd1⟩ λa s3 g3 _ e3 e4=>Ok.pure (hk _ _ (SE.lf g3 SC.nil) (by omega) (by omega))
  ·exact Ok.call (zFp s aa) ⟨by omega,by omega,hd0,hd1⟩ λa s3 g3 e3 e4=>Ok.pure (hk _ _ (SE.lf SA.nil0 g3) (by omega) (by omega))
 induction n with
 | zero=>
  intro r lv;refine⟨?_⟩;rintro⟨v0,v1,v2,v3,v4⟩ φ hk;unfold qS;dsimp only [same];have hp:PN 0=50:=rfl;refine Ok.bind_ite (Ok.ite_dec (λ_=>Ok.bind_pure (Ok.ite_tt ?_)) λh=>absurd h (by omega));exact(leaf 0 r).ok ⟨v3,by omega⟩ φ λe s g1 g2 g3=>hk e s g1 g2 (by omega)
 | succ n ih=>
  intro r lv;refine⟨?_⟩;rintro⟨v0,v1,v2,v3,v4⟩ φ hk;unfold qS;dsimp only [same];have hp:PN (n+1)=2*PN n+50:=rfl;refine Ok.bind (φ:=λo=>(o.1=false->2<=lv)/\r.p<=o.2.p/\o.2.p<=r.p+1) ?_ ?_
  ·refine Ok.ite_dec (λ_=>Ok.pure ⟨λh=>(by cases h),by dsimp only;omega,by dsimp only;omega⟩) λh=>Ok.call (fE r 4) ⟨v3,by omega⟩ λy s k1 k2 k3=>Ok.pure ⟨λ_=>by omega,by dsimp only;omega,by dsimp only;omega⟩
  rintro⟨t,x⟩ ⟨g1,g2,g3⟩;dsimp only at g1 g2 g3 ⊢;refine Ok.ite (λ_=>?_) λhz=>?_
  ·exact(leaf (n+1) x).ok ⟨by omega,by omega⟩ φ λe s g1 g2 g3=>hk e s g1 (by omega) (by omega)
  have g1:=g1 (by simpa using hz);refine Ok.call (uM x _) ⟨by decide,by omega,by omega,by decide⟩ λy3 s3 _ _ e3=>?_;have hl:∀(k:Nat) (i:Int) (o:List zD) (x1:zK),Tot (oX aa lv i o x1) ((2 - i<=k/\0<=i/\i<=2/\k<=2/\(o.length:Int)=i/\0<=x1.p/\x1.p+k*PN n<=800000000)/\∀x∈o,SE n x) (λφ=>∀a s,a.length<=10->(∀x∈a,SE n x)->x1.p<=s.p->s.p<=x1.p+k*PN n->φ (a,s)):=by
   intro k
   induction k with
   | zero=>intro i o x1;refine⟨?_⟩;rintro⟨⟨a1,a2,a3,a4,a5,a6,a7⟩,a8⟩ φ hk;unfold oX;dsimp only [same];exact Ok.ite_dec (λh=>absurd h (by omega)) λ_=>Ok.pure (hk _ _ (by omega) a8 (by omega) (by omega))
   | succ k ik=>
    intro i o x1;refine⟨?_⟩;rintro⟨⟨a1,a2,a3,a4,a5,a6,a7⟩,a8⟩ φ hk;unfold oX;dsimp only [same];have e1:((k+1:Nat):Int)*PN n=k*PN n+PN n:=by rw[Int.natCast_add,Int.add_mul];simp
    rw[e1] at a7 hk;have hkn:0<=(k:Int)*PN n:=Int.mul_nonneg (by omega) (by omega);refine Ok.ite_dec (λh=>?_) λ_=>Ok.pure (hk _ _ (by omega) a8 (by omega) (by omega));rw[oM (by omega) (by omega)];refine Ok.call (ih x1 _) ⟨by omega,by omega,by omega,by omega,by omega⟩ λe s g1 g2 g3=>Ok.app S ?_;rw[oM (by omega) (by omega)];exact Ok.last (ik _ _ s) ⟨⟨by omega,by omega,by omega,by omega,by simp;omega,by omega,by omega⟩,zGy a8 g1⟩ λa u h1 h2 h3 h4=>hk a u h1 h2 (by omega) (by omega)
  refine Ok.call (hl 2 0 [] s3) ⟨⟨by omega,by omega,by omega,by omega,rfl,by omega,by omega⟩,λ_ h=>absurd h dc⟩ λa u h1 h2 h3 h4=>by
   dsimp only;exact Ok.pure (hk _ u (SE.kids h1 h2) (by omega) (by omega))
instance zHg(r:zK)(aa lv:Int):Tot (qS r aa lv) (0<=r.p/\r.p<=700000000/\0<=aa/\aa<=4/\0<=lv/\lv<=6) (λφ=>∀e s,SE 5 e->r.p<=s.p->s.p<=r.p+5000->φ (e,s)):=⟨λ⟨h0,h1,h2,h3,h4,h5⟩ φ hk=>by
 have hp:PN 5=3150:=rfl
 exact(zHf aa h2 h3 5 r lv).ok ⟨by omega,h4,by omega,h0,by omega⟩ φ λe s g1 g2 g3=>hk e s g1 g2 (by omega)⟩
instance zI3(r:zK)(aa:Int):Tot (fC r aa) (0<=r.p/\r.p<=600000000/\0<=aa/\aa<=4) (λφ=>∀a s,SS a->r.p<=s.p->s.p<=r.p+6000->φ (a,s)):=⟨by
 rintro⟨h0,h1,h2,h3⟩ φ hk
 unfold fC
 refine Ok.call (zFp r aa) ⟨h0,by omega,h2,h3⟩ λa s g1 g2 g3=>?_
 refine Ok.call (uM s _) ⟨by decide,by omega,by omega,by decide⟩ λy3 s3 g4 _ e3=>?_
 simp only[cv,dc,or_false] at g4
 refine Ok.call (zHg s3 aa y3) ⟨by omega,by omega,h2,h3,by omega,by omega⟩ λe u g5 g6 g7=>?_
 have hs:SS (zM.mk a e):=⟨g1,g5⟩
 refine Ok.call (zCY _ aa) hs λb _=>Ok.ite (λ_=>Ok.pure (hk _ _ hs (by omega) (by omega))) λ_=>Ok.call eG trivial (Ok.pure (hk _ _ ⟨⟨by decide,by decide,λ_ h=>cA.1 h ▸ SA.c4 (by decide)⟩,SE.lf SA.nil0 SC.nil⟩ (by omega) (by omega)))⟩
theorem zFq(z:List Int)(h0:z.length<=4):∀(k:Nat) (o:List zE) (i:Int),Tot (qT z o i) ((z.length:Int) - i<(k:Int)/\0<(k:Int)/\0<=i/\(o.length:Int)=i/\i<=4/\(∀x∈o,SL1 x)) (λφ=>(∀o,SN 1000 o->φ (.done o))/\(φ (.ret ([],false)))):=by
 intro k
 induction k with
 | zero=>intro o i;exact⟨λh=>absurd h.2.1 (by omega)⟩
 | succ k ih=>
  intro o i;refine⟨?_⟩;rintro⟨v0,v1,v2,v3,v4,v5⟩ φ ⟨hd,hr⟩;unfold qT;refine Ok.ite_dec (λh=>?_) λ_=>Ok.go;refine Ok.bind (φ:=λb=>b=false->∀x,z[i.toNat]?=some x->0<=x/\x<=99) ?_ ?_
  ·refine Ok.idx v2 h λx _ hx=>Ok.ite_dec (λ_=>Ok.pure λh=>by cases h) λg=>Ok.idx_known hx v2 (Ok.pure λhb y hy=>?_);rw[hx] at hy;cases hy
   have:=of_decide_eq_false hb;omega
  intro b hb;refine Ok.ite (λ_=>Ok.pure hr) λhz=>Ok.call eG trivial (Ok.idx v2 h λx _ hx=>Ok.call (mU x) trivial (Ok.app S ?_));obtain⟨b1,b2⟩:=hb (by simpa using hz) x hx;have hx:SL1 (zE.mk [zA.mk [0,0,0,0] 0] [zA.mk [0,0,0,0] x]):=⟨LL.one (SA.c4 (by decide)),LL.one (SA.c4 ⟨by omega,by omega⟩)⟩;exact Ok.go
instance zKU(z:List Int)(o:List zE)(i:Int):Tot (qT z o i) (z.length<=4/\0<=i/\(o.length:Int)=i/\i<=4/\(∀x∈o,SL1 x)) (λφ=>(∀o,SN 1000 o->φ (.done o))/\(φ (.ret ([],false)))):=⟨by
 rintro⟨h0,v0,v1,v2,v3⟩ φ hk
 exact(zFq z h0 (((z.length:Int) - i).toNat+1) o i).ok ⟨by omega,by omega,v0,v1,v2,v3⟩ φ hk⟩
instance zHh(z:List Int):Tot (gO z) (True) (λφ=>∀o b,SN 1000 o->φ (o,b)):=⟨by
 rintro _ φ hk
 unfold gO
 exact Ok.go⟩
theorem SP.one{y:List zE}{a:zM}(h:SN 1000 y)(ha:SS a):SP 1000 (zJ.mk y [a]):=⟨h,cu rfl,λ_ h=>cA.1 h ▸ ha⟩
theorem zG3(y:List zE)(h0:SN 1000 y)(h1:y.length<=4):∀(k:Nat) (o:List zM) (n:Int) (r:zK),Tot (oF y o n r) (5 - n<(k:Int)/\0<(k:Int)/\0<=n/\n<=5/\o.length<=100/\(∀x∈o,SS x)/\0<=r.p/\r.p+6000*(5 - n)<=500000000) (λφ=>∀a s,a.length<=o.length+1->(∀x∈a,SS x)->r.p<=s.p->s.p<=r.p+6000*(5 - n)->φ (a,s)):=by
 intro k
 induction k with
 | zero=>intro o n r;exact⟨λh=>absurd h.2.1 (by omega)⟩
 | succ k ih=>
  intro o n r;refine⟨?_⟩;rintro⟨v0,v1,v2,v3,v4,v5,v6,v7⟩ φ hk;unfold oF;refine Ok.ite_dec (λh=>?_) λ_=>Ok.go;refine Ok.call (zI3 r _) ⟨by omega,by omega,by omega,by omega⟩ λa s g1 g2 g3=>Ok.call zBD trivial λl hl=>?_;refine Ok.call (zFk l _) ⟨hl,SP.one h0 g1⟩ λm b _=>?_;dsimp only;exact Ok.go
instance zKo(y:List zE)(o:List zM)(n:Int)(r:zK):Tot (oF y o n r) (SN 1000 y/\y.length<=4/\0<=n/\n<=5/\o.length<=100/\(∀x∈o,SS x)/\0<=r.p/\r.p+6000*(5 - n)<=500000000) (λφ=>∀a s,a.length<=o.length+1->(∀x∈a,SS x)->r.p<=s.p->s.p<=r.p+6000*(5 - n)->φ (a,s)):=⟨by
 rintro⟨h0,h1,v0,v1,v2,v3,v4,v5⟩ φ hk
 exact(zG3 y h0 h1 ((5 - n).toNat+1) o n r).ok ⟨by omega,by omega,v0,v1,v2,v3,v4,v5⟩ φ hk⟩
theorem zG4(y:List zE)(h0:SN 1000 y)(h1:y.length<=4):∀(k:Nat) (k0:Int) (o:List zM) (r:zK),Tot (oG y k0 o r) (k0<(k:Int)/\0<(k:Int)/\0<=k0/\(o.length:Int)+k0<=10/\(∀x∈o,SS x)/\0<=r.p/\r.p+30000*k0<=400000000) (λφ=>∀a s,a.length<=100->(∀x∈a,SS x)->r.p<=s.p->s.p<=r.p+30000*k0->φ (a,s)):=by
 intro k
 induction k with
 | zero=>intro k0 o r;exact⟨λh=>absurd h.2.1 (by omega)⟩
 | succ k ih=>
  intro k0 o r;refine⟨?_⟩;rintro⟨v0,v1,v2,v3,v4,v5,v6⟩ φ hk;unfold oG;exact Ok.go
instance zG5(y:List zE)(k0:Int)(o:List zM)(r:zK):Tot (oG y k0 o r) (SN 1000 y/\y.length<=4/\0<=k0/\(o.length:Int)+k0<=10/\(∀x∈o,SS x)/\0<=r.p/\r.p+30000*k0<=400000000) (λφ=>∀a s,a.length<=100->(∀x∈a,SS x)->r.p<=s.p->s.p<=r.p+30000*k0->φ (a,s)):=⟨by
 rintro⟨h0,h1,v0,v1,v2,v3,v4⟩ φ hk
 exact(zG4 y h0 h1 ((k0).toNat+1) k0 o r).ok ⟨by omega,by omega,v0,v1,v2,v3,v4⟩ φ hk⟩
theorem zG6(x:zJ):∀(k:Nat) (i:Int) (r:zK),Tot (oH x i r) (4 - i<(k:Int)/\0<(k:Int)/\0<=i/\i<=4/\0<=r.p/\r.p+100000*(4 - i)<=300000000) (λφ=>(∀s,r.p<=s.p->s.p<=r.p+100000*(4 - i)->φ (.done (x,s)))/\(∀a s,SP 1000 a->r.p<=s.p->s.p<=r.p+100000*(4 - i)->φ (.ret (a,s)))):=by
 intro k
 induction k with
 | zero=>intro i r;exact⟨λh=>absurd h.2.1 (by omega)⟩
 | succ k ih=>
  intro i r;refine⟨?_⟩;rintro⟨v0,v1,v2,v3,v4,v5⟩ φ ⟨hd,hr⟩;unfold oH;refine Ok.ite_dec (λh=>?_) λ_=>Ok.go;refine Ok.call (zI1 r) ⟨v4,by omega⟩ λy s g1 g2 g3 g4=>?_;refine Ok.call (uM s _) ⟨by decide,by omega,by omega,by decide⟩ λn t g5 _ e3=>?_;simp only[cv,dc,or_false] at g5;refine Ok.call (zG5 y n [] t) ⟨g1,g2,by omega,by simp;omega,λ_ h=>absurd h dc,by omega,by omega⟩ λb u g6 g7 g8 g9=>Ok.call zBD trivial λl hl=>?_;have hs:SP 1000 (zJ.mk y b):=⟨g1,dh g6 (by decide),g7⟩;refine Ok.call (zFk l _) ⟨hl,hs⟩ λm c _=>?_;dsimp only;refine Ok.bind (φ:=λ_=>True) Ok.go λz _=>Ok.ite (λ_=>Ok.pure (hr _ _ hs (by omega) (by omega))) λ_=>?_;rw[oM (by omega) (by omega)];exact Ok.last (ih _ u) ⟨by omega,by omega,by omega,by omega,by omega,by omega⟩ ⟨λs h1 h2=>hd s (by omega) (by omega),λa s h0 h1 h2=>hr a s h0 (by omega) (by omega)⟩
instance zG7(x:zJ)(i:Int)(r:zK):Tot (oH x i r) (0<=i/\i<=4/\0<=r.p/\r.p+100000*(4 - i)<=300000000) (λφ=>(∀s,r.p<=s.p->s.p<=r.p+100000*(4 - i)->φ (.done (x,s)))/\(∀a s,SP 1000 a->r.p<=s.p->s.p<=r.p+100000*(4 - i)->φ (.ret (a,s)))):=⟨by
 rintro⟨v0,v1,v2,v3⟩ φ hk
 exact(zG6 x ((4 - i).toNat+1) i r).ok ⟨by omega,by omega,v0,v1,v2,v3⟩ φ hk⟩
instance zLp(r:zK):Tot (fD r) (0<=r.p/\r.p<=200000000) (λφ=>∀a s,SP 1000 a->r.p<=s.p->s.p<=r.p+400000->φ (a,s)):=⟨by
 rintro⟨h0,h1⟩ φ hk
 unfold fD
 refine Ok.call (zG7 _ 0 r) ⟨by decide,by decide,h0,by omega⟩ ⟨λs g1 g2=>?_,λa s g1 g2 g3=>Ok.pure (hk _ _ g1 (by omega) (by omega))⟩
 refine Ok.call (zGY _) (by decide) λa b g3=>Ok.call (zHh _) trivial λn c g4=>Ok.pure (hk _ _ (SP.one g4 g3) (by omega) (by omega))⟩
theorem zG8 :∀(k:Nat) (i:Int) (o:List zJ) (r:zK),Tot (oI i o r) (i<(k:Int)/\0<(k:Int)/\0<=i/\(o.length:Int)+i<=10/\(∀x∈o,SP 1000 x)/\0<=r.p/\r.p+400000*i<=100000000) (λφ=>∀a s,(a.length:Int)=o.length+i->(∀x∈a,SP 1000 x)->r.p<=s.p->s.p<=r.p+400000*i->φ (a,s)):=by
 intro k
 induction k with
 | zero=>intro i o r;exact⟨λh=>absurd h.2.1 (by omega)⟩
 | succ k ih=>
  intro i o r;refine⟨?_⟩;rintro⟨v0,v1,v2,v3,v4,v5,v6⟩ φ hk;unfold oI;exact Ok.go
instance zG9  (i:Int) (o:List zJ) (r:zK):Tot (oI i o r) (0<=i/\(o.length:Int)+i<=10/\(∀x∈o,SP 1000 x)/\0<=r.p/\r.p+400000*i<=100000000) (λφ=>∀a s,(a.length:Int)=o.length+i->(∀x∈a,SP 1000 x)->r.p<=s.p->s.p<=r.p+400000*i->φ (a,s)):=⟨by
 rintro⟨v0,v1,v2,v3,v4⟩ φ hk
 exact(zG8 ((i).toNat+1) i o r).ok ⟨by omega,by omega,v0,v1,v2,v3,v4⟩ φ hk⟩
instance zFr(r:zK):Tot (jW r) (0<=r.p/\r.p<=50000000) (λφ=>∀a s,SG 1000 a->r.p<=s.p->s.p<=r.p+2000000->φ (a,s)):=⟨by
 rintro⟨h0,h1⟩ φ hk
 unfold jW
 refine Ok.call zBD trivial λl hl=>Ok.call (uM r _) ⟨by decide,h0,by omega,by decide⟩ λn t g5 _ e3=>?_
 simp only[cv,dc,or_false] at g5
 refine Ok.call (zG9 n [] t) ⟨by omega,by simp;omega,λ_ h=>absurd h dc,by omega,by omega⟩ λa s g1 g2 g3 g4=>?_
 simp only[cx] at g1
 have hp:SG 1000 (zP.mk l a):=⟨hl,by dsimp only;omega,g2⟩
 refine Ok.call (zE2 _) hp λb _=>Ok.ite (λ_=>Ok.pure (hk _ _ hp (by omega) (by omega))) λ_=>Ok.call zBD trivial λl2 hl2=>?_
 refine Ok.slc (by omega) (by omega) (by omega) λm hm hml=>Ok.pure (hk _ _ ⟨hl2,by dsimp only;omega,λx hx=>g2 x ?_⟩ (by omega) (by omega))
 subst hm
 exact List.mem_of_mem_take (List.mem_of_mem_drop hx)⟩
instance zHi(code:List UInt8):Tot (gH code) (True) (λφ=>∀s,s.p=0->φ s):=⟨by
 rintro _ φ hk
 unfold gH
 exact Ok.go⟩
end Go.LN
