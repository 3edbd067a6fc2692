/- Helper of the proof (see the last text). -/
import Derived.Test.YtcmjkmdecmabaaaGreatQT
import Derived.Test.YtcmjkmdecmabaaaGreatHM8
set_option linter.unusedVariables false
set_option linter.unusedSimpArgs false
namespace Go.LN
def I64 (x:Int):Prop:=-9223372036854775808<=x/\x<=9223372036854775807
instance (x:Int):Decidable (I64 x):=inferInstanceAs (Decidable (_/\_))
theorem zKP (x:Int):I64 (W x):=by
  show -9223372036854775808<=IntKind.i64.wrap x/\IntKind.i64.wrap x<=9223372036854775807;rw [IntKind.wrap_i64]; omega
instance (x:Int):Sd (I64 (W x)):=⟨zKP x⟩
theorem I64.of {x:Int} (h0:-9223372036854775808<=x) (h1:x<=9223372036854775807):I64 x:=⟨h0,h1⟩
def SA (a:zA):Prop:=a.Coefs.length<=100/\I64 a.Const
def VA (a:zA):Prop:=a.Coefs.length=4/\(∀ c∈a.Coefs,I64 c)/\I64 a.Const
def SC (a:zJ):Prop:=a.Array.l.length<=1000000/\a.Subs.length<=100/\∀ s∈a.Subs,SA s
def VC (a:zJ):Prop:=a.Array.l.length<=1/\a.Subs.length<=2/\∀ s∈a.Subs,VA s
def SE:Nat->zG->Prop
  | 0,e=>SA e.Index/\SC e.Read/\e.Kids=[]
  | n+1,e=>SA e.Index/\SC e.Read/\e.Kids.length<=10/\∀ k∈e.Kids,SE n k
def VO (e:zG):Prop:=(e.Kind=1/\I64 e.Num)∨(e.Kind=2/\VA e.Index)∨(e.Kind=3/\VC e.Read)
def VE:Nat->zG->Prop
  | 0,e=>VO e
  | n+1,e=>VO e∨((e.Kind=4∨e.Kind=5∨e.Kind=6)/\e.Kids.length=2/\∀ k∈e.Kids,VE n k)
def SS (s:zO):Prop:=SC s.Write/\SE 5 s.Value
def VS (s:zO):Prop:=VC s.Write/\VE 5 s.Value
def LL (l:List zA):Prop:=l.length<=100/\∀ a∈l,SA a
def VL (l:List zA):Prop:=1<=l.length/\l.length<=2/\∀ a∈l,VA a
def SL1 (x:zE):Prop:=LL x.Lo/\LL x.Hi
def VL1 (x:zE):Prop:=VL x.Lo/\VL x.Hi
def SN (b:Nat) (l:List zE):Prop:=l.length<=b/\∀ x∈l,SL1 x
def VN (l:List zE):Prop:=l.length<=4/\∀ x∈l,VL1 x
def SP (b:Nat) (p:zN):Prop:=SN b p.Nest/\p.Body.length<=b/\∀ s∈p.Body,SS s
def VP (p:zN):Prop:=VN p.Nest/\p.Body.length<=4/\∀ s∈p.Body,VS s
def SR (a:zF):Prop:=a.Name.l.length<=1000000/\a.Dims.length<=100
def VR (a:zF):Prop:=a.Name.l.length=1/\a.Dims.length<=2/\∀ d∈a.Dims,I64 d
def SRs (b:Nat) (l:List zF):Prop:=l.length<=b/\∀ a∈l,SR a
def VRs (l:List zF):Prop:=l.length<=4/\∀ a∈l,VR a
def SG (b:Nat) (p:zD):Prop:=SRs b p.Arrays/\p.Parts.length<=b/\∀ q∈p.Parts,SP b q
def VG (p:zD):Prop:=VRs p.Arrays/\p.Parts.length<=4/\∀ q∈p.Parts,VP q
instance (a:zA):Su (SA a) (a.Coefs.length<=100/\I64 a.Const):=⟨id⟩
instance (a:zA):Su (VA a) (a.Coefs.length=4/\(∀ c∈a.Coefs,I64 c)/\I64 a.Const):=⟨id⟩
instance (a:zJ):Su (SC a) (a.Array.l.length<=1000000/\a.Subs.length<=100/\∀ s∈a.Subs,SA s):=⟨id⟩
instance (a:zJ):Su (VC a) (a.Array.l.length<=1/\a.Subs.length<=2/\∀ s∈a.Subs,VA s):=⟨id⟩
instance (s:zO):Su (SS s) (SC s.Write/\SE 5 s.Value):=⟨id⟩
instance (s:zO):Su (VS s) (VC s.Write/\VE 5 s.Value):=⟨id⟩
instance (l:List zA):Su (LL l) (l.length<=100/\∀ a∈l,SA a):=⟨id⟩
instance (l:List zA):Su (VL l) (1<=l.length/\l.length<=2/\∀ a∈l,VA a):=⟨id⟩
instance (x:zE):Su (SL1 x) (LL x.Lo/\LL x.Hi):=⟨id⟩
instance (x:zE):Su (VL1 x) (VL x.Lo/\VL x.Hi):=⟨id⟩
instance (b:Nat) (l:List zE):Su (SN b l) (l.length<=b/\∀ x∈l,SL1 x):=⟨id⟩
instance (l:List zE):Su (VN l) (l.length<=4/\∀ x∈l,VL1 x):=⟨id⟩
instance (b:Nat) (p:zN):Su (SP b p) (SN b p.Nest/\p.Body.length<=b/\∀ s∈p.Body,SS s):=⟨id⟩
instance (p:zN):Su (VP p) (VN p.Nest/\p.Body.length<=4/\∀ s∈p.Body,VS s):=⟨id⟩
instance (a:zF):Su (SR a) (a.Name.l.length<=1000000/\a.Dims.length<=100):=⟨id⟩
instance (a:zF):Su (VR a) (a.Name.l.length=1/\a.Dims.length<=2/\∀ d∈a.Dims,I64 d):=⟨id⟩
instance (b:Nat) (l:List zF):Su (SRs b l) (l.length<=b/\∀ a∈l,SR a):=⟨id⟩
instance (l:List zF):Su (VRs l) (l.length<=4/\∀ a∈l,VR a):=⟨id⟩
instance (b:Nat) (p:zD):Su (SG b p) (SRs b p.Arrays/\p.Parts.length<=b/\∀ q∈p.Parts,SP b q):=⟨id⟩
instance (p:zD):Su (VG p) (VRs p.Arrays/\p.Parts.length<=4/\∀ q∈p.Parts,VP q):=⟨id⟩
instance (x:Int):Su (I64 x) (-9223372036854775808<=x/\x<=9223372036854775807):=⟨id⟩
instance (x:zE):Sw (LL x.Lo) (SL1 x):=⟨And.left⟩
instance (x:zE):Sw (LL x.Hi) (SL1 x):=⟨And.right⟩
instance (s:zO):Sw (SC s.Write) (SS s):=⟨And.left⟩
instance (s:zO):Sw (SE 5 s.Value) (SS s):=⟨And.right⟩
theorem SE.parts:∀ {n:Nat}{e:zG},SE n e->SA e.Index/\SC e.Read/\e.Kids.length<=10
  | 0,e,h=>⟨h.1,h.2.1,by rw [h.2.2]; simp⟩
  | n+1,e,h=>⟨h.1,h.2.1,h.2.2.1⟩
theorem SE.succ:∀ {n:Nat}{e:zG},SE n e->SE (n+1) e
  | 0,e,h=>⟨h.1,h.2.1,by rw [h.2.2]; simp,by rw [h.2.2]; simp⟩
  | n+1,e,h=>⟨h.1,h.2.1,h.2.2.1,fun k hk=>(h.2.2.2 k hk).succ⟩
theorem SE.leaf {e:zG} (h1:SA e.Index) (h2:SC e.Read) (h3:e.Kids=[]):∀ {n:Nat},SE n e
  | 0=>⟨h1,h2,h3⟩
  | n+1=>⟨h1,h2,by rw [h3]; simp,by rw [h3]; simp⟩
theorem SA.nil {c:Int} (h:I64 c):SA (zA.mk [] c):=⟨by simp,h⟩
theorem SA.nil0:SA (zA.mk [] 0):=⟨by simp,by simp [I64]⟩
theorem SC.nil:SC (zJ.mk ⟨[]⟩ []):=by simp [SC]
instance:Sd (SA (zA.mk [] 0)):=⟨SA.nil0⟩
instance:Sd (SC (zJ.mk ⟨[]⟩ [])):=⟨SC.nil⟩
theorem zFl (x:zF) (h0:SR x):∀ (k:Nat) (i:Int),Tot (vG x i) ((x.Dims.length:Int) - i<(k:Int)/\0<(k:Int)/\0<=i) (fun φ=>(AF x.Dims i I64->φ (.done ()))/\(φ (.ret false))):=by
  have h0:=h0.2;intro k
  induction k with
  | zero=>intro i; exact ⟨fun h=>absurd h.2.1 (by omega)⟩
  | succ k ih =>
    intro i; refine ⟨?_⟩; rintro ⟨v0,v1,v2⟩ φ ⟨hd,hr⟩; unfold vG;exact Ok.go
instance zKu (x:zF) (i:Int):Tot (vG x i) (SR x/\0<=i) (fun φ=>(AF x.Dims i I64->φ (.done ()))/\(φ (.ret false))):=⟨by
  rintro ⟨h0,v0⟩ φ hk
  exact (zFl x h0 (((x.Dims.length:Int) - i).toNat+1) i).ok ⟨by omega,by omega,v0⟩ φ hk⟩
theorem zFm (l:List zF) (h0:SRs 1000 l):∀ (k:Nat) (i:Int),Tot (uG l i) ((l.length:Int) - i<(k:Int)/\0<(k:Int)/\0<=i) (fun φ=>(AF l i VR->φ (.done ()))/\(φ (.ret false))):=by
  obtain ⟨h00,h01⟩:=h0;intro k
  induction k with
  | zero=>intro i; exact ⟨fun h=>absurd h.2.1 (by omega)⟩
  | succ k ih =>
    intro i; refine ⟨?_⟩; rintro ⟨v0,v1,v2⟩ φ ⟨hd,hr⟩; unfold uG;exact Ok.go
instance zKv (l:List zF) (i:Int):Tot (uG l i) (SRs 1000 l/\0<=i) (fun φ=>(AF l i VR->φ (.done ()))/\(φ (.ret false))):=⟨by
  rintro ⟨h0,v0⟩ φ hk
  exact (zFm l h0 (((l.length:Int) - i).toNat+1) i).ok ⟨by omega,by omega,v0⟩ φ hk⟩
instance zMU (l:List zF):Tot (nE l) (SRs 1000 l) (fun φ=>∀ r,(r=true->VRs l)->φ r):=⟨by
  rintro h0 φ hk
  unfold nE
  exact Ok.go⟩
instance zKi (a:zA):Tot (tT a) (SA a) (fun φ=>∀ r,SA r->r.Coefs.length=a.Coefs.length->φ r):=⟨by
  rintro h0 φ hk
  obtain ⟨h00,h01⟩:=h0
  unfold tT
  exact Ok.go⟩
theorem zCp (a:zJ) (h0:SC a):∀ (k:Nat) (i:Int) (Subs:List zA),Tot (xY a i Subs) ((a.Subs.length:Int) - i<(k:Int)/\0<(k:Int)/\0<=i/\(Subs.length:Int)=i/\i<=a.Subs.length/\(∀ s∈Subs,SA s)) (fun φ=>∀ r,r.length<=100->(∀ s∈r,SA s)->φ r):=by
  obtain ⟨h01,h02,h03⟩:=h0;intro k
  induction k with
  | zero=>intro i Subs; exact ⟨fun h=>absurd h.2.1 (by omega)⟩
  | succ k ih =>
    intro i Subs; refine ⟨?_⟩; rintro ⟨v0,v1,v2,v3,v4,v5⟩ φ hk; unfold xY;exact Ok.go
instance zJ8 (a:zJ) (i:Int) (Subs:List zA):Tot (xY a i Subs) (SC a/\0<=i/\(Subs.length:Int)=i/\i<=a.Subs.length/\(∀ s∈Subs,SA s)) (fun φ=>∀ r,r.length<=100->(∀ s∈r,SA s)->φ r):=⟨by
  rintro ⟨h0,v0,v1,v2,v3⟩ φ hk
  exact (zCp a h0 (((a.Subs.length:Int) - i).toNat+1) i Subs).ok ⟨by omega,by omega,v0,v1,v2,v3⟩ φ hk⟩
instance zKj (a:zJ):Tot (uH a) (SC a) (fun φ=>∀ r,SC r->φ r):=⟨by
  rintro h0 φ hk
  have h00:=h0.1
  unfold uH
  exact Ok.go⟩
def RN:Nat->Nat
  | 0=>1
  | n+1=>10*RN n+1
theorem zIl:∀ (n:Nat) (out:List zJ) (e:zG),Tot (sF out e) (SE n e/\out.length+RN n<=10000000/\∀ s∈out,SC s) (fun φ=>∀ r,r.length<=out.length+RN n->(∀ s∈r,SC s)->φ r):=by
  intro n
  induction n with
  | zero =>
    intro out e;refine ⟨?_⟩;rintro ⟨⟨h1,h2,h3⟩,ho,hs⟩ φ hk;unfold sF;dsimp only [same];simp only [RN] at ho hk;have hl:∀ o:List zJ,Tot (wF e o 0) True (fun φ=>φ o):=by
      intro o;refine ⟨?_⟩;rintro - φ hk;unfold wF;rw [h3];exact Ok.pure hk
    exact Ok.go
  | succ n ih =>
    intro out e;refine ⟨?_⟩;rintro ⟨⟨h1,h2,h3,h4⟩,ho,hs⟩ φ hk;unfold sF;dsimp only [same];simp only [RN] at ho hk;have hl:∀ (k:Nat) (i:Int) (o:List zJ),Tot (wF e o i) (((e.Kids.length:Int) - i<=k/\0<=i/\k<=10)/\o.length+k*RN n<=10000000/\∀ s∈o,SC s) (fun φ=>∀ r,r.length<=o.length+k*RN n->(∀ s∈r,SC s)->φ r):=by
      intro k
      induction k with
      | zero =>
        intro i o; refine ⟨?_⟩; rintro ⟨⟨a1,a2,a3⟩,a4,a5⟩ φ hk; unfold wF; dsimp only [same];exact Ok.go
      | succ k ik =>
        intro i o; refine ⟨?_⟩; rintro ⟨⟨a1,a2,a3⟩,a4,a5⟩ φ hk; unfold wF; dsimp only [same];have e1:(k+1)*RN n=k*RN n+RN n:=by rw [ey,Nat.one_mul]
        rw [e1] at a4 hk;exact Ok.go
    have hl:=hl 10 0;exact Ok.go
instance zMm (e:zG):Tot (sF [] e) (SE 5 e) (fun φ=>∀ r,r.length<=111111->(∀ s∈r,SC s)->φ r):=⟨fun h φ hk=>(zIl 5 [] e).ok ⟨h,by decide,S⟩ φ fun r h1 h2=>hk r (by simp [RN] at h1; omega) h2⟩
theorem zHP (a:zF) (h0:SR a):∀ (k:Nat) (n:Int) (i:Int),Tot (tS a n i) ((a.Dims.length:Int) - i<(k:Int)/\0<(k:Int)/\0<=i) (fun φ=>∀ r,φ r):=by
  have h0:=h0.2;intro k
  induction k with
  | zero=>intro n i; exact ⟨fun h=>absurd h.2.1 (by omega)⟩
  | succ k ih =>
    intro n i; refine ⟨?_⟩; rintro ⟨v0,v1,v2⟩ φ hk; unfold tS;exact Ok.go
instance zLu (a:zF) (n:Int) (i:Int):Tot (tS a n i) (SR a/\0<=i) (fun φ=>∀ r,φ r):=⟨by
  rintro ⟨h0,v0⟩ φ hk
  exact (zHP a h0 (((a.Dims.length:Int) - i).toNat+1) n i).ok ⟨by omega,by omega,v0⟩ φ hk⟩
instance zNF (a:zF):Tot (mW a) (SR a) (fun φ=>∀ r,φ r):=⟨by
  rintro h0 φ hk
  unfold mW
  exact Ok.go⟩
theorem zHQ (a:zA) (ag:List Int) (h0:SA a):∀ (k:Nat) (n:Int) (i:Int),Tot (tQ a ag n i) ((a.Coefs.length:Int) - i<(k:Int)/\0<(k:Int)/\I64 n/\0<=i) (fun φ=>∀ r,I64 r->φ r):=by
  have h0:=h0.1;intro k
  induction k with
  | zero=>intro n i; exact ⟨fun h=>absurd h.2.1 (by omega)⟩
  | succ k ih =>
    intro n i; refine ⟨?_⟩; rintro ⟨v0,v1,v2,v3⟩ φ hk; unfold tQ;exact Ok.go
instance zLv (a:zA) (ag:List Int) (n:Int) (i:Int):Tot (tQ a ag n i) (SA a/\I64 n/\0<=i) (fun φ=>∀ r,I64 r->φ r):=⟨by
  rintro ⟨h0,v0,v1⟩ φ hk
  exact (zHQ a ag h0 (((a.Coefs.length:Int) - i).toNat+1) n i).ok ⟨by omega,by omega,v0,v1⟩ φ hk⟩
instance zNG (a:zA) (ag:List Int):Tot (rR a ag) (SA a) (fun φ=>∀ r,I64 r->φ r):=⟨by
  rintro h0 φ hk
  have h1:=h0.2
  unfold rR
  exact Ok.go⟩
theorem zHR (list:List zF) (a:zJ) (ag:List Int) (i:Int) (h0:SC a) (h1:0<=i) (h2:i<(list.length:Int)):∀ (k:Nat) (n:Int) (k0:Int),Tot (uP list a ag i n k0) ((a.Subs.length:Int) - k0<(k:Int)/\0<(k:Int)/\0<=k0) (fun φ=>(∀ r,φ (.done r))/\(∀ r,φ (.ret r))):=by
  obtain ⟨h01,h02,h03⟩:=h0;intro k
  induction k with
  | zero=>intro n k0; exact ⟨fun h=>absurd h.2.1 (by omega)⟩
  | succ k ih =>
    intro n k0; refine ⟨?_⟩; rintro ⟨v0,v1,v2⟩ φ ⟨hd,hr⟩; unfold uP;exact Ok.go
instance zLw (list:List zF) (a:zJ) (ag:List Int) (i:Int) (n:Int) (k0:Int):Tot (uP list a ag i n k0) (SC a/\0<=i/\i<(list.length:Int)/\0<=k0) (fun φ=>(∀ r,φ (.done r))/\(∀ r,φ (.ret r))):=⟨by
  rintro ⟨h0,h1,h2,v0⟩ φ hk
  exact (zHR list a ag i h0 h1 h2 (((a.Subs.length:Int) - k0).toNat+1) n k0).ok ⟨by omega,by omega,v0⟩ φ hk⟩
theorem zHS (list:List zF) (a:zJ) (ag:List Int) (h0:SC a) (h1:SRs 1000 list):∀ (k:Nat) (base:Int) (i:Int),Tot (uQ list a ag base i) ((list.length:Int) - i<(k:Int)/\0<(k:Int)/\0<=i) (fun φ=>(φ (.done ()))/\(∀ r,φ (.ret r))):=by
  obtain ⟨h10,h11⟩:=h1;intro k
  induction k with
  | zero=>intro base i; exact ⟨fun h=>absurd h.2.1 (by omega)⟩
  | succ k ih =>
    intro base i; refine ⟨?_⟩; rintro ⟨v0,v1,v2⟩ φ ⟨hd,hr⟩; unfold uQ;exact Ok.go
instance zLx (list:List zF) (a:zJ) (ag:List Int) (base:Int) (i:Int):Tot (uQ list a ag base i) (SC a/\SRs 1000 list/\0<=i) (fun φ=>(φ (.done ()))/\(∀ r,φ (.ret r))):=⟨by
  rintro ⟨h0,h1,v0⟩ φ hk
  exact (zHS list a ag h0 h1 (((list.length:Int) - i).toNat+1) base i).ok ⟨by omega,by omega,v0⟩ φ hk⟩
instance zNH (list:List zF) (a:zJ) (ag:List Int):Tot (nS list a ag) (SC a/\SRs 1000 list) (fun φ=>∀ r,φ r):=⟨by
  rintro ⟨h0,h1⟩ φ hk
  unfold nS
  exact Ok.go⟩
theorem zGd (list:List zF) (ag:List Int) (y:List zJ) (h0:y.length<=111111) (h1:∀ s∈y,SC s) (h2:SRs 1000 list):∀ (k:Nat) (out:List Int) (i:Int),Tot (tD list ag y out i) ((y.length:Int) - i<(k:Int)/\0<(k:Int)/\0<=i/\(out.length:Int)=i/\i<=(y.length:Int)) (fun φ=>(∀ o,o.length<=111111->φ (.done o))/\(φ (.ret ([],0,false)))):=by
  intro k
  induction k with
  | zero=>intro out i; exact ⟨fun h=>absurd h.2.1 (by omega)⟩
  | succ k ih =>
    intro out i; refine ⟨?_⟩; rintro ⟨v0,v1,v2,v3,v4⟩ φ ⟨hd,hr⟩; unfold tD;exact Ok.go
instance zL1 (list:List zF) (ag:List Int) (y:List zJ) (out:List Int) (i:Int):Tot (tD list ag y out i) (y.length<=111111/\(∀ s∈y,SC s)/\SRs 1000 list/\0<=i/\(out.length:Int)=i/\i<=(y.length:Int)) (fun φ=>(∀ o,o.length<=111111->φ (.done o))/\(φ (.ret ([],0,false)))):=⟨by
  rintro ⟨h0,h1,h2,v0,v1,v2⟩ φ hk
  exact (zGd list ag y h0 h1 h2 (((y.length:Int) - i).toNat+1) out i).ok ⟨by omega,by omega,v0,v1,v2⟩ φ hk⟩
instance zMn (list:List zF) (s:zO) (ag:List Int):Tot (mA list s ag) (SS s/\SRs 1000 list) (fun φ=>∀ a b c,a.length<=111111->φ (a,b,c)):=⟨by
  rintro ⟨h0,h1⟩ φ hk
  obtain ⟨h00,h01⟩:=h0
  unfold mA
  exact Ok.go⟩
theorem zGe (loop:zE) (p2:List Int) (h0:LL loop.Lo):∀ (k:Nat) (lo:Int) (i:Int),Tot (tB loop p2 lo i) ((loop.Lo.length:Int) - i<(k:Int)/\0<(k:Int)/\I64 lo/\0<=i) (fun φ=>∀ r,I64 r->φ r):=by
  obtain ⟨h00,h01⟩:=h0;intro k
  induction k with
  | zero=>intro lo i; exact ⟨fun h=>absurd h.2.1 (by omega)⟩
  | succ k ih =>
    intro lo i; refine ⟨?_⟩; rintro ⟨v0,v1,v2,v3⟩ φ hk; unfold tB;exact Ok.go
instance zL2 (loop:zE) (p2:List Int) (lo:Int) (i:Int):Tot (tB loop p2 lo i) (LL loop.Lo/\I64 lo/\0<=i) (fun φ=>∀ r,I64 r->φ r):=⟨by
  rintro ⟨h0,v0,v1⟩ φ hk
  exact (zGe loop p2 h0 (((loop.Lo.length:Int) - i).toNat+1) lo i).ok ⟨by omega,by omega,v0,v1⟩ φ hk⟩
theorem zGf (loop:zE) (p2:List Int) (h0:LL loop.Hi):∀ (k:Nat) (hi:Int) (i:Int),Tot (tC loop p2 hi i) ((loop.Hi.length:Int) - i<(k:Int)/\0<(k:Int)/\I64 hi/\0<=i) (fun φ=>∀ r,I64 r->φ r):=by
  obtain ⟨h00,h01⟩:=h0;intro k
  induction k with
  | zero=>intro hi i; exact ⟨fun h=>absurd h.2.1 (by omega)⟩
  | succ k ih =>
    intro hi i; refine ⟨?_⟩; rintro ⟨v0,v1,v2,v3⟩ φ hk; unfold tC;exact Ok.go
instance zL3 (loop:zE) (p2:List Int) (hi:Int) (i:Int):Tot (tC loop p2 hi i) (LL loop.Hi/\I64 hi/\0<=i) (fun φ=>∀ r,I64 r->φ r):=⟨by
  rintro ⟨h0,v0,v1⟩ φ hk
  exact (zGf loop p2 h0 (((loop.Hi.length:Int) - i).toNat+1) hi i).ok ⟨by omega,by omega,v0,v1⟩ φ hk⟩
instance zF1 (loop:zE) (p2:List Int):Tot (oV loop p2) (SL1 loop/\1<=loop.Lo.length/\1<=loop.Hi.length) (fun φ=>∀ a b,I64 a->I64 b->φ (a,b)):=⟨by
  rintro ⟨h0,h1,h2⟩ φ hk
  have h00:=h0; obtain ⟨⟨h01,h02⟩,⟨h03,h04⟩⟩:=h0
  unfold oV
  exact Ok.go⟩
instance zMV (n:Int) (most:Int):Tot (vU n most) (0<=most/\most<=1000000) (fun φ=>∀ r,(r=true->I64 n)->φ r):=⟨by
  rintro ⟨h0,h1⟩ φ hk
  unfold vU
  exact Ok.go⟩
theorem zD2 (a:zA) (h0:SA a):∀ (k:Nat) (i:Int),Tot (wH a i) ((a.Coefs.length:Int) - i<(k:Int)/\0<(k:Int)/\0<=i) (fun φ=>(AF a.Coefs i I64->φ (.done ()))/\(φ (.ret false))):=by
  have h01:=h0.1;intro k
  induction k with
  | zero=>intro i; exact ⟨fun h=>absurd h.2.1 (by omega)⟩
  | succ k ih =>
    intro i; refine ⟨?_⟩; rintro ⟨v0,v1,v2⟩ φ ⟨hd,hr⟩; unfold wH;exact Ok.go
instance zJk (a:zA) (i:Int):Tot (wH a i) (SA a/\0<=i) (fun φ=>(AF a.Coefs i I64->φ (.done ()))/\(φ (.ret false))):=⟨by
  rintro ⟨h0,v0⟩ φ hk
  exact (zD2 a h0 (((a.Coefs.length:Int) - i).toNat+1) i).ok ⟨by omega,by omega,v0⟩ φ hk⟩
instance zFn (a:zA):Tot (uE a) (SA a) (fun φ=>∀ r,(r=true->VA a)->φ r):=⟨by
  rintro h0 φ hk
  have h00:=h0.2
  unfold uE
  exact Ok.go⟩
theorem zGg (a:zA) (h0:SA a):∀ (k:Nat) (n:Int) (i:Int),Tot (tA a n i) ((a.Coefs.length:Int) - i<(k:Int)/\0<(k:Int)/\0<=i) (fun φ=>∀ r,φ r):=by
  have h01:=h0.1;intro k
  induction k with
  | zero=>intro n i; exact ⟨fun h=>absurd h.2.1 (by omega)⟩
  | succ k ih =>
    intro n i; refine ⟨?_⟩; rintro ⟨v0,v1,v2⟩ φ hk; unfold tA;exact Ok.go
instance zL4 (a:zA) (n:Int) (i:Int):Tot (tA a n i) (SA a/\0<=i) (fun φ=>∀ r,φ r):=⟨by
  rintro ⟨h0,v0⟩ φ hk
  exact (zGg a h0 (((a.Coefs.length:Int) - i).toNat+1) n i).ok ⟨by omega,by omega,v0⟩ φ hk⟩
instance zMo (a:zA):Tot (qW a) (SA a) (fun φ=>∀ r,φ r):=⟨by
  rintro h0 φ hk
  unfold qW
  exact Ok.go⟩
theorem zHT (list:List zA) (aa:Int) (h0:LL list):∀ (k:Nat) (i:Int),Tot (tR list aa i) ((list.length:Int) - i<(k:Int)/\0<(k:Int)/\0<=i) (fun φ=>(AF list i VA->φ (.done ()))/\(φ (.ret false))):=by
  obtain ⟨h01,h02⟩:=h0;intro k
  induction k with
  | zero=>intro i; exact ⟨fun h=>absurd h.2.1 (by omega)⟩
  | succ k ih =>
    intro i; refine ⟨?_⟩; rintro ⟨v0,v1,v2⟩ φ ⟨hd,hr⟩; unfold tR;exact Ok.go
instance zLy (list:List zA) (aa:Int) (i:Int):Tot (tR list aa i) (LL list/\0<=i) (fun φ=>(AF list i VA->φ (.done ()))/\(φ (.ret false))):=⟨by
  rintro ⟨h0,v0⟩ φ hk
  exact (zHT list aa h0 (((list.length:Int) - i).toNat+1) i).ok ⟨by omega,by omega,v0⟩ φ hk⟩
instance zNI (list:List zA) (aa:Int):Tot (nR list aa) (LL list) (fun φ=>∀ r,(r=true->VL list)->φ r):=⟨by
  rintro h0 φ hk
  unfold nR
  exact Ok.go⟩
theorem zFP (nest:List zE) (h0:SN 1000 nest):∀ (k:Nat) (i:Int),Tot (wO nest i) ((nest.length:Int) - i<(k:Int)/\0<(k:Int)/\0<=i) (fun φ=>(((nest.length:Int)<=4->AF nest i VL1)->φ (.done ()))/\(φ (.ret false))):=by
  obtain ⟨h00,h01⟩:=h0;intro k
  induction k with
  | zero=>intro i; exact ⟨fun h=>absurd h.2.1 (by omega)⟩
  | succ k ih =>
    intro i; refine ⟨?_⟩; rintro ⟨v0,v1,v2⟩ φ ⟨hd,hr⟩; unfold wO;exact Ok.go
instance zKk (nest:List zE) (i:Int):Tot (wO nest i) (SN 1000 nest/\0<=i) (fun φ=>(((nest.length:Int)<=4->AF nest i VL1)->φ (.done ()))/\(φ (.ret false))):=⟨by
  rintro ⟨h0,v0⟩ φ hk
  exact (zFP nest h0 (((nest.length:Int) - i).toNat+1) i).ok ⟨by omega,by omega,v0⟩ φ hk⟩
instance zLz (nest:List zE):Tot (pZ nest) (SN 1000 nest) (fun φ=>∀ r,(r=true->VN nest)->φ r):=⟨by
  rintro h0 φ hk
  unfold pZ
  exact Ok.go⟩
theorem VN.get {nest:List zE}{x:zE} (h:VN nest) (hx:x∈nest):1<=x.Lo.length/\1<=x.Hi.length:=⟨(h.2 x hx).1.1,(h.2 x hx).2.1⟩
theorem zIF (nest:List zE) (hn:SN 1000 nest) (hv:VN nest):∀ (d:Nat) (o:List (List Int)) (p2:List Int),Tot (vV o nest p2) (p2.length+d=nest.length/\o.length<=120/\(∀ q∈o,q.length<=4)) (fun φ=>∀ r,r.length<=121->(∀ q∈r,q.length<=4)->φ r):=by
  obtain ⟨hn1,hn2⟩:=hn;have hv1:=hv.1;intro d
  induction d with
  | zero =>
    intro o p2;refine ⟨?_⟩;rintro ⟨hp,ho,hq⟩ φ hk;unfold vV;dsimp only [same];exact Ok.ite_beq (fun h=>Ok.go) fun h=>absurd h (by omega)
  | succ d ih =>
    intro o p2;refine ⟨?_⟩;rintro ⟨hp,ho,hq⟩ φ hk;unfold vV;dsimp only [same];have hloop:∀ (y2:Int) (k:Nat) (v:Int) (o:List (List Int)),Tot (tI nest p2 y2 o v) ((y2 - v<=k/\I64 v/\I64 y2/\o.length<=121)/\(∀ q∈o,q.length<=4)) (fun φ=>∀ r,r.length<=121->(∀ q∈r,q.length<=4)->φ r):=by
      intro y2 k
      induction k with
      | zero=>intro v o; refine ⟨?_⟩; rintro ⟨⟨a1,⟨a2,a5⟩,⟨a6,a7⟩,a3⟩,a4⟩ φ hk; unfold tI; dsimp only [same]; exact Ok.go
      | succ k ik =>
        intro v o; refine ⟨?_⟩; rintro ⟨⟨a1,⟨a2,a5⟩,⟨a6,a7⟩,a3⟩,a4⟩ φ hk; unfold tI; dsimp only [same]; exact Ok.go
    refine Ok.ite_beq (fun h=>absurd h (by omega)) fun h=>Ok.idx (by omega) (by omega) fun x hx _=>?_;obtain ⟨g1,g2⟩:=VN.get hv hx;refine Ok.call (zF1 x p2) ⟨hn2 x hx,g1,g2⟩ ?_;intro a b ha hb;have hloop:=hloop b (b - a).toNat;exact Ok.go
instance zMW (nest:List zE):Tot (vV [] nest []) (SN 1000 nest/\VN nest) (fun φ=>∀ r,r.length<=121->(∀ q∈r,q.length<=4)->φ r):=⟨fun ⟨h,hv⟩ φ hk=>(zIF nest h hv nest.length [] []).ok ⟨by simp,by simp,by simp⟩ φ hk⟩
theorem zJl (nest:List zE) (hn:SN 1000 nest) (hv:VN nest):∀ (d:Nat) (p2:List Int) (most:Int),Tot (sK nest p2 most) (p2.length+d=nest.length) (fun φ=>∀ r,φ r):=by
  obtain ⟨hn1,hn2⟩:=hn;have hv1:=hv.1;intro d
  induction d with
  | zero =>
    intro p2 most;refine ⟨?_⟩;rintro hp φ hk;unfold sK;dsimp only [same];exact Ok.ite_beq (fun h=>Ok.go) fun h=>absurd h (by omega)
  | succ d ih =>
    intro p2 most;refine ⟨?_⟩;rintro hp φ hk;unfold sK;dsimp only [same];have hloop:∀ (y2:Int) (k:Nat) (n v:Int),Tot (sR nest p2 most y2 n v) (y2 - v<=k/\I64 v/\I64 y2) (fun φ=>∀ r,φ r):=by
      intro y2 k
      induction k with
      | zero=>intro n v; refine ⟨?_⟩; rintro ⟨a1,⟨a2,a5⟩,⟨a6,a7⟩⟩ φ hk; unfold sR; dsimp only [same]; exact Ok.go
      | succ k ik =>
        intro n v; refine ⟨?_⟩; rintro ⟨a1,⟨a2,a5⟩,⟨a6,a7⟩⟩ φ hk; unfold sR; dsimp only [same]; exact Ok.go
    refine Ok.ite_beq (fun h=>absurd h (by omega)) fun h=>Ok.idx (by omega) (by omega) fun x hx _=>?_;obtain ⟨g1,g2⟩:=VN.get hv hx;refine Ok.call (zF1 x p2) ⟨hn2 x hx,g1,g2⟩ ?_;intro a b ha hb;have hloop:=hloop b (b - a).toNat;exact Ok.go
instance zNJ (nest:List zE) (most:Int):Tot (sK nest [] most) (SN 1000 nest/\VN nest) (fun φ=>∀ r,φ r):=⟨fun ⟨h,hv⟩ φ hk=>(zJl nest h hv nest.length [] most).ok (by simp) φ hk⟩
instance zL5 (nest:List zE):Tot (qZ nest) (SN 1000 nest) (fun φ=>∀ a b,a.length<=120->(∀ q∈a,q.length<=4)->(b=true->VN nest)->φ (a,b)):=⟨by
  rintro h0 φ hk
  unfold qZ
  exact Ok.go⟩
theorem zFo (a:zJ) (aa:Int) (h0:SC a):∀ (k:Nat) (i:Int),Tot (uF a aa i) ((a.Subs.length:Int) - i<(k:Int)/\0<(k:Int)/\0<=i) (fun φ=>(AF a.Subs i VA->φ (.done ()))/\(φ (.ret false))):=by
  obtain ⟨h01,h02,h03⟩:=h0;intro k
  induction k with
  | zero=>intro i; exact ⟨fun h=>absurd h.2.1 (by omega)⟩
  | succ k ih =>
    intro i; refine ⟨?_⟩; rintro ⟨v0,v1,v2⟩ φ ⟨hd,hr⟩; unfold uF;exact Ok.go
instance zKw (a:zJ) (aa:Int) (i:Int):Tot (uF a aa i) (SC a/\0<=i) (fun φ=>(AF a.Subs i VA->φ (.done ()))/\(φ (.ret false))):=⟨by
  rintro ⟨h0,v0⟩ φ hk
  exact (zFo a aa h0 (((a.Subs.length:Int) - i).toNat+1) i).ok ⟨by omega,by omega,v0⟩ φ hk⟩
instance zMX (a:zJ) (aa:Int):Tot (pJ a aa) (SC a) (fun φ=>∀ r,(r=true->VC a)->φ r):=⟨by
  rintro h0 φ hk
  unfold pJ
  exact Ok.go⟩
instance zGh (kind:Int):Tot (mV kind) (True) (fun φ=>∀ r,(r=0/\(kind=1∨kind=2∨kind=3))∨(r=2/\(kind=4∨kind=5∨kind=6))∨r=-1->φ r):=⟨by
  rintro _ φ hk
  unfold mV
  exact Ok.go⟩
instance zMp (a:zJ):Tot (qX a) (True) (fun φ=>∀ r:Bool,φ r):=⟨by
  rintro _ φ hk
  unfold qX
  exact Ok.go⟩
instance zNK (a:zA):Tot (oQ a) (True) (fun φ=>∀ r:Bool,φ r):=⟨by
  rintro _ φ hk
  unfold oQ
  exact Ok.go⟩
instance zHn (e:zG) (aa:Int):Tot (jH e aa) (SA e.Index/\SC e.Read) (fun φ=>∀ r,(r=true->e.Kind=1->I64 e.Num)->(r=true->e.Kind=2->VA e.Index)->(r=true->e.Kind=3->VC e.Read)->φ r):=⟨by
  rintro ⟨h0,h1⟩ φ hk
  unfold jH
  exact Ok.go⟩
theorem zIm:∀ (n:Nat) (e:zG) (aa ai:Int),Tot (tN e aa ai) (SE n e/\ai<=100) (fun φ=>∀ r,(r=true->VE n e)->φ r):=by
  intro n
  induction n with
  | zero =>
    intro e aa ai;refine ⟨?_⟩;rintro ⟨⟨h1,h2,h3⟩,hlv⟩ φ hk;have hl:∀ lv,Tot (vZ e aa lv 0) True (fun φ=>φ (.done ())):=by
      intro lv;refine ⟨?_⟩;rintro - φ hk;unfold vZ;rw [h3];exact Ok.pure hk
    have bh:e.Kids.length=0:=by rw [h3]; rfl
    unfold tN;dsimp only [same];refine Ok.bind (φ:=fun b=>b=false->VO e) ?_ ?_
    · refine Ok.ite_dec (fun h=>Ok.pure fun h=>by cases h) fun h=>Ok.call (zGh _) trivial ?_;intro r hr;refine Ok.ite_bne (fun h=>Ok.pure fun h=>by cases h) fun h=>Ok.call (zHn e aa) ⟨h1,h2⟩ ?_;intro b b1 b2 b3;refine Ok.pure fun hb=>?_;have hb:b=true:=by simpa using hb
      have:e.Kind=1∨e.Kind=2∨e.Kind=3:=by omega
      rcases this with h | h | h
      · exact .inl ⟨h,b1 hb h⟩
      · exact .inr (.inl ⟨h,b2 hb h⟩)
      · exact .inr (.inr ⟨h,b3 hb h⟩)
    · intro b hb;refine Ok.ite (fun _=>Ok.pure (hk _ fun h=>by cases h)) fun hz=>?_;have hz:VO e:=hb (by simpa using hz);exact Ok.go
  | succ n ih =>
    intro e aa ai;refine ⟨?_⟩;rintro ⟨⟨h1,h2,h3,h4⟩,hlv⟩ φ hk;unfold tN;dsimp only [same];refine Ok.bind (φ:=fun b=>b=false->1<=ai/\(VO e∨((e.Kind=4∨e.Kind=5∨e.Kind=6)/\e.Kids.length=2))) ?_ ?_
    · refine Ok.ite_dec (fun h=>Ok.pure fun h=>by cases h) fun h=>Ok.call (zGh _) trivial ?_;intro r hr;refine Ok.ite_bne (fun h=>Ok.pure fun h=>by cases h) fun h=>Ok.call (zHn e aa) ⟨h1,h2⟩ ?_;intro b b1 b2 b3;refine Ok.pure fun hb=>⟨by omega,?_⟩;have hb:b=true:=by simpa using hb
      have:e.Kind=1∨e.Kind=2∨e.Kind=3∨((e.Kind=4∨e.Kind=5∨e.Kind=6)/\e.Kids.length=2):=by omega
      rcases this with h | h | h | h
      · exact .inl (.inl ⟨h,b1 hb h⟩)
      · exact .inl (.inr (.inl ⟨h,b2 hb h⟩))
      · exact .inl (.inr (.inr ⟨h,b3 hb h⟩))
      · exact .inr h
    · intro b hb;refine Ok.ite (fun _=>Ok.pure (hk _ fun h=>by cases h)) fun hz=>?_;obtain ⟨g1,g2⟩:=hb (by simpa using hz);have hl:∀ (k:Nat) (i:Int),Tot (vZ e aa ai i) ((e.Kids.length:Int) - i<=k/\0<=i) (fun φ=>(AF e.Kids i (VE n)->φ (.done ()))/\φ (.ret false)):=by
        intro k
        induction k with
        | zero=>intro i; refine ⟨?_⟩; rintro ⟨a1,a2⟩ φ ⟨hd,hr⟩; unfold vZ; dsimp only [same]; exact Ok.go
        | succ k ik =>
          intro i; refine ⟨?_⟩; rintro ⟨a1,a2⟩ φ ⟨hd,hr⟩; unfold vZ; dsimp only [same]; exact Ok.go
      refine Ok.call (hl _ 0) ⟨Int.le_of_eq (Int.sub_zero _),by omega⟩ ⟨fun hA=>Ok.pure (hk _ fun _=>?_),Ok.pure (hk _ fun h=>by cases h)⟩;exact g2.elim .inl fun g=>.inr ⟨g.1,g.2,AF.all hA⟩
instance zMY (e:zG) (aa ai:Int):Tot (tN e aa ai) (SE 5 e/\ai<=100) (fun φ=>∀ r,(r=true->VE 5 e)->φ r):=zIm 5 e aa ai
theorem zIn:∀ (n:Nat) (e:zG) (ai:Int),Tot (sD e ai) (SE n e/\ai<=100) (fun φ=>∀ r,φ r):=by
  intro n
  induction n with
  | zero =>
    intro e ai;refine ⟨?_⟩;rintro ⟨⟨h1,h2,h3⟩,hlv⟩ φ hk;unfold sD;dsimp only [same];unfold uA;have bh:e.Kids.length=0:=by rw [h3]; rfl
    rw [bh];exact Ok.go
  | succ n ih =>
    intro e ai;refine ⟨?_⟩;rintro ⟨⟨h1,h2,h3,h4⟩,hlv⟩ φ hk;unfold sD;dsimp only [same];have hl:∀ (k:Nat) (m i:Int),Tot (uA e ai m i) ((e.Kids.length:Int) - i<=k/\0<=i) (fun φ=>∀ r,φ r):=by
      intro k
      induction k with
      | zero=>intro m i; refine ⟨?_⟩; rintro ⟨a1,a2⟩ φ hk; unfold uA; dsimp only [same]; exact Ok.go
      | succ k ik=>intro m i; refine ⟨?_⟩; rintro ⟨a1,a2⟩ φ hk; unfold uA; dsimp only [same]; exact Ok.go
    have hl:=hl e.Kids.length;exact Ok.go
instance zMZ (e:zG) (ai:Int):Tot (sD e ai) (SE 5 e/\ai<=100) (fun φ=>∀ r,φ r):=zIn 5 e ai
instance zCx (s:zO) (aa:Int):Tot (sQ s aa) (SS s) (fun φ=>∀ r,(r=true->VS s)->φ r):=⟨by
  rintro h0 φ hk
  unfold sQ
  exact Ok.go⟩
theorem zGi (p:List Int) (h0:p.length<=4):∀ (k:Nat) (i:Int),Tot (tE p i) ((p.length:Int) - i<(k:Int)/\0<(k:Int)/\0<=i) (fun φ=>(φ (.done ()))/\(φ (.ret false))):=by
  intro k
  induction k with
  | zero=>intro i; exact ⟨fun h=>absurd h.2.1 (by omega)⟩
  | succ k ih =>
    intro i; refine ⟨?_⟩; rintro ⟨v0,v1,v2⟩ φ ⟨hd,hr⟩; unfold tE;exact Ok.go
instance zL6 (p:List Int) (i:Int):Tot (tE p i) (p.length<=4/\0<=i) (fun φ=>(φ (.done ()))/\(φ (.ret false))):=⟨by
  rintro ⟨h0,v0⟩ φ hk
  exact (zGi p h0 (((p.length:Int) - i).toNat+1) i).ok ⟨by omega,by omega,v0⟩ φ hk⟩
instance zMq (p:List Int):Tot (mB p) (p.length<=4) (fun φ=>∀ r:Bool,φ r):=⟨by
  rintro h0 φ hk
  unfold mB
  exact Ok.go⟩
theorem zHU (list:List zF) (part:zN) (y1:List (List Int)) (i:Int) (h0:SRs 1000 list) (h1:SP 1000 part) (h2:y1.length<=121) (h3:∀ q∈y1,q.length<=4) (h4:0<=i) (h5:i<(part.Body.length:Int)):∀ (k:Nat) (k0:Int),Tot (uR list part y1 i k0) ((y1.length:Int) - k0<(k:Int)/\0<(k:Int)/\0<=k0) (fun φ=>(φ (.done ()))/\(φ (.ret (0,false)))):=by
  obtain ⟨h11,h12,h13⟩:=h1;intro k
  induction k with
  | zero=>intro k0; exact ⟨fun h=>absurd h.2.1 (by omega)⟩
  | succ k ih =>
    intro k0; refine ⟨?_⟩; rintro ⟨v0,v1,v2⟩ φ ⟨hd,hr⟩; unfold uR;exact Ok.go
instance zMA (list:List zF) (part:zN) (y1:List (List Int)) (i:Int) (k0:Int):Tot (uR list part y1 i k0) (SRs 1000 list/\SP 1000 part/\y1.length<=121/\(∀ q∈y1,q.length<=4)/\0<=i/\i<(part.Body.length:Int)/\0<=k0) (fun φ=>(φ (.done ()))/\(φ (.ret (0,false)))):=⟨by
  rintro ⟨h0,h1,h2,h3,h4,h5,v0⟩ φ hk
  exact (zHU list part y1 i h0 h1 h2 h3 h4 h5 (((y1.length:Int) - k0).toNat+1) k0).ok ⟨by omega,by omega,v0⟩ φ hk⟩
theorem zHV (list:List zF) (part:zN) (y1:List (List Int)) (h0:SRs 1000 list) (h1:SP 1000 part) (h2:y1.length<=121) (h3:∀ q∈y1,q.length<=4):∀ (k:Nat) (i:Int),Tot (uS list part y1 i) ((part.Body.length:Int) - i<(k:Int)/\0<(k:Int)/\0<=i) (fun φ=>(AF part.Body i VS->φ (.done ()))/\(φ (.ret (0,false)))):=by
  have h10:=h1; obtain ⟨h11,h12,h13⟩:=h1;intro k
  induction k with
  | zero=>intro i; exact ⟨fun h=>absurd h.2.1 (by omega)⟩
  | succ k ih =>
    intro i; refine ⟨?_⟩; rintro ⟨v0,v1,v2⟩ φ ⟨hd,hr⟩; unfold uS;exact Ok.go
instance zMB (list:List zF) (part:zN) (y1:List (List Int)) (i:Int):Tot (uS list part y1 i) (SRs 1000 list/\SP 1000 part/\y1.length<=121/\(∀ q∈y1,q.length<=4)/\0<=i) (fun φ=>(AF part.Body i VS->φ (.done ()))/\(φ (.ret (0,false)))):=⟨by
  rintro ⟨h0,h1,h2,h3,v0⟩ φ hk
  exact (zHV list part y1 h0 h1 h2 h3 (((part.Body.length:Int) - i).toNat+1) i).ok ⟨by omega,by omega,v0⟩ φ hk⟩
instance zGj (list:List zF) (part:zN):Tot (oR list part) (SRs 1000 list/\SP 1000 part) (fun φ=>∀ n b,(b=true->VP part)->φ (n,b)):=⟨by
  rintro ⟨h0,h1⟩ φ hk
  obtain ⟨h11,h12,h13⟩:=id h1
  unfold oR
  exact Ok.go⟩
theorem zCq (p:zD) (h0:SG 1000 p):∀ (k:Nat) (total:Int) (i:Int),Tot (xZ p total i) ((p.Parts.length:Int) - i<(k:Int)/\0<(k:Int)/\0<=i) (fun φ=>(∀ n,AF p.Parts i VP->φ (.done n))/\(φ (.ret false))):=by
  obtain ⟨h01,h02,h03⟩:=h0;intro k
  induction k with
  | zero=>intro total i; exact ⟨fun h=>absurd h.2.1 (by omega)⟩
  | succ k ih =>
    intro total i; refine ⟨?_⟩; rintro ⟨v0,v1,v2⟩ φ ⟨hd,hr⟩; unfold xZ;exact Ok.go
instance zJ9 (p:zD) (total:Int) (i:Int):Tot (xZ p total i) (SG 1000 p/\0<=i) (fun φ=>(∀ n,AF p.Parts i VP->φ (.done n))/\(φ (.ret false))):=⟨by
  rintro ⟨h0,v0⟩ φ hk
  exact (zCq p h0 (((p.Parts.length:Int) - i).toNat+1) total i).ok ⟨by omega,by omega,v0⟩ φ hk⟩
instance zBL (p:zD):Tot (uI p) (SG 1000 p) (fun φ=>∀ r,(r=true->VG p)->φ r):=⟨by
  rintro h0 φ hk
  obtain ⟨h01,h02,h03⟩:=id h0
  unfold uI
  exact Ok.go⟩
def InI (p:zD) (x:zL):Prop:=(0<=x.Part/\x.Part<(p.Parts.length:Int))/\∀ q,p.Parts[x.Part.toNat]?=some q->0<=x.Stmt/\x.Stmt<(q.Body.length:Int)
theorem InI.mk {p:zD}{x:zL}{q:zN} (h0:0<=x.Part) (h1:x.Part<(p.Parts.length:Int)) (hq:p.Parts[x.Part.toNat]?=some q) (h2:0<=x.Stmt) (h3:x.Stmt<(q.Body.length:Int)):InI p x :=
  ⟨⟨h0,h1⟩,fun q' h=>by rw [hq] at h; cases h; exact ⟨h2,h3⟩⟩
theorem zD3 (p:zD) (i:Int) (y:List (List Int)) (k0:Int) (q:zN) (b:Nat) (h0:VP q) (h1:0<=i) (h2:i<(p.Parts.length:Int)) (h3:p.Parts[i.toNat]?=some q) (h4:y.length<=121) (h5:∀ q∈y,q.length<=4) (h6:0<=k0) (h7:k0<(y.length:Int)):∀ (k:Nat) (out:List zL) (s:Int),Tot (wI p i y k0 out s) ((q.Body.length:Int) - s<(k:Int)/\0<(k:Int)/\0<=s/\s<=(q.Body.length:Int)/\(out.length:Int)<=b+s/\b<=100000/\(∀ x∈out,InI p x)) (fun φ=>∀ r,r.length<=b+4->(∀ x∈r,InI p x)->φ r):=by
  obtain ⟨h01,h02,h03⟩:=h0;intro k
  induction k with
  | zero=>intro out s; exact ⟨fun h=>absurd h.2.1 (by omega)⟩
  | succ k ih =>
    intro out s; refine ⟨?_⟩; rintro ⟨v0,v1,v2,v3,v4,v5,v6⟩ φ hk; unfold wI;refine Ok.idx_known h3 h1 ?_;refine Ok.ite_dec (fun hs=>?_) fun hs=>?_
    · refine Ok.idx (by omega) (by omega) fun x hx _=>?_;have hx4:=h5 x hx;refine Ok.app S ?_;refine Ok.app (by simp only [cH,cr,cI]; omega) ?_;have hI:InI p (zL.mk i s ([]++x)):=InI.mk h1 h2 h3 v2 (by omega);have hW:W (s+1)=s+1:=sL (by omega) (by omega);rw [hW];exact Ok.go
    · exact Ok.go
theorem zD4 (p:zD) (i:Int) (y:List (List Int)) (k0:Int) (q:zN) (b:Nat) (out:List zL) (s:Int):Tot (wI p i y k0 out s) (VP q/\0<=i/\i<(p.Parts.length:Int)/\p.Parts[i.toNat]?=some q/\y.length<=121/\(∀ q∈y,q.length<=4)/\0<=k0/\k0<(y.length:Int)/\0<=s/\s<=(q.Body.length:Int)/\(out.length:Int)<=b+s/\b<=100000/\(∀ x∈out,InI p x)) (fun φ=>∀ r,r.length<=b+4->(∀ x∈r,InI p x)->φ r):=⟨by
  rintro ⟨h0,h1,h2,h3,h4,h5,h6,h7,v0,v1,v2,v3,v4⟩ φ hk;exact (zD3 p i y k0 q b h0 h1 h2 h3 h4 h5 h6 h7 (((q.Body.length:Int) - s).toNat+1) out s).ok ⟨by omega,by omega,v0,v1,v2,v3,v4⟩ φ hk⟩
theorem zD5 (p:zD) (i:Int) (y:List (List Int)) (q:zN) (b:Nat) (h0:VP q) (h1:0<=i) (h2:i<(p.Parts.length:Int)) (h3:p.Parts[i.toNat]?=some q) (h4:y.length<=121) (h5:∀ q∈y,q.length<=4):∀ (k:Nat) (out:List zL) (k0:Int),Tot (wJ p i y out k0) ((y.length:Int) - k0<(k:Int)/\0<(k:Int)/\0<=k0/\k0<=(y.length:Int)/\(out.length:Int)<=b+4*k0/\b<=10000/\(∀ x∈out,InI p x)) (fun φ=>∀ r,r.length<=b+484->(∀ x∈r,InI p x)->φ r):=by
  intro k
  induction k with
  | zero=>intro out k0; exact ⟨fun h=>absurd h.2.1 (by omega)⟩
  | succ k ih =>
    intro out k0; refine ⟨?_⟩; rintro ⟨v0,v1,v2,v3,v4,v5,v6⟩ φ hk; unfold wJ;have tl:=fun o kk=>zD4 p i y kk q o.length o 0;exact Ok.go
theorem zD6 (p:zD) (i:Int) (y:List (List Int)) (q:zN) (b:Nat) (out:List zL) (k0:Int):Tot (wJ p i y out k0) (VP q/\0<=i/\i<(p.Parts.length:Int)/\p.Parts[i.toNat]?=some q/\y.length<=121/\(∀ q∈y,q.length<=4)/\0<=k0/\k0<=(y.length:Int)/\(out.length:Int)<=b+4*k0/\b<=10000/\(∀ x∈out,InI p x)) (fun φ=>∀ r,r.length<=b+484->(∀ x∈r,InI p x)->φ r):=⟨by
  rintro ⟨h0,h1,h2,h3,h4,h5,v0,v1,v2,v3,v4⟩ φ hk;exact (zD5 p i y q b h0 h1 h2 h3 h4 h5 (((y.length:Int) - k0).toNat+1) out k0).ok ⟨by omega,by omega,v0,v1,v2,v3,v4⟩ φ hk⟩
theorem zD7 (p:zD) (h0:SG 1000 p) (h1:VG p):∀ (k:Nat) (out:List zL) (i:Int),Tot (wK p out i) ((p.Parts.length:Int) - i<(k:Int)/\0<(k:Int)/\0<=i/\i<=(p.Parts.length:Int)/\(out.length:Int)<=484*i/\(∀ x∈out,InI p x)) (fun φ=>∀ r,r.length<=2000->(∀ x∈r,InI p x)->φ r):=by
  obtain ⟨⟨h00,h01⟩,h02,h03⟩:=id h0; obtain ⟨h10,h11,h12⟩:=id h1;intro k
  induction k with
  | zero=>intro out i; exact ⟨fun h=>absurd h.2.1 (by omega)⟩
  | succ k ih =>
    intro out i; refine ⟨?_⟩; rintro ⟨v0,v1,v2,v3,v4,v5⟩ φ hk; unfold wK;refine Ok.ite_dec (fun hs=>?_) fun hs=>?_
    · refine Ok.idx (by omega) (by omega) fun q hq hqi=>?_;have tl:=fun y o=>zD6 p i y q o.length o 0;have s1:=(h03 q hq).1;obtain ⟨s2,s3,s4⟩:=h12 q hq;have s5:VP q:=⟨s2,s3,s4⟩;exact Ok.go
    · exact Ok.go
instance zJm (p:zD) (out:List zL) (i:Int):Tot (wK p out i) (SG 1000 p/\VG p/\0<=i/\i<=(p.Parts.length:Int)/\(out.length:Int)<=484*i/\(∀ x∈out,InI p x)) (fun φ=>∀ r,r.length<=2000->(∀ x∈r,InI p x)->φ r):=⟨by
  rintro ⟨h0,h1,v0,v1,v2,v3⟩ φ hk
  exact (zD7 p h0 h1 (((p.Parts.length:Int) - i).toNat+1) out i).ok ⟨by omega,by omega,v0,v1,v2,v3⟩ φ hk⟩
instance zKx (p:zD):Tot (qI p) (SG 1000 p/\VG p) (fun φ=>∀ r,r.length<=2000->(∀ x∈r,InI p x)->φ r):=⟨by
  rintro ⟨h0,h1⟩ φ hk
  unfold qI
  exact Ok.go⟩
theorem zEZ {a n:Int} (ha:0<=a) (hn:0<n):0<=a.tmod n/\a.tmod n<n:=by
  rw [Int.tmod_eq_emod_of_nonneg ha];exact ⟨Int.emod_nonneg _ (by omega),Int.emod_lt_of_pos _ hn⟩
theorem zM0 {a b:Int} (ha:0<=a) (ha':a<4611686018427387904) (hb:0<=b) (hb':b<4611686018427387904) :
    0<=W (((BitVec.ofInt IntKind.i64.bits a ^^^ BitVec.ofInt IntKind.i64.bits b).toNat:Nat):Int):=by
  have e:(BitVec.ofInt IntKind.i64.bits a ^^^ BitVec.ofInt IntKind.i64.bits b).toNat<4611686018427387904:=by
    rw [BitVec.toNat_xor]
    have h1:(BitVec.ofInt IntKind.i64.bits a).toNat=a.toNat:=by
      rw [BitVec.toNat_ofInt]; show (a % ((2 ^ 64:Nat):Int)).toNat=_; omega
    have h2:(BitVec.ofInt IntKind.i64.bits b).toNat=b.toNat:=by
      rw [BitVec.toNat_ofInt]; show (b % ((2 ^ 64:Nat):Int)).toNat=_; omega
    rw [h1,h2]
    exact Nat.xor_lt_two_pow (n:=62) (by omega) (by omega)
  rw [sL (by omega) (by omega)]; omega
instance fH (r:zK) (n:Int):Tot (yX r n) (0<=r.p/\r.p<=1000000000) (fun φ=>∀ y s,0<=y->(y<n∨y=0)->s.p=r.p+1->φ (y,s)):=⟨by
  rintro ⟨h0,h1⟩ φ hk
  unfold yX
  rw [sL (x:=r.p+1) (by omega) (by omega),sL (x:=r.p+1 - 1) (by omega) (by omega)]
  refine Ok.bind_ite (Ok.ite_dec (fun _=>Ok.bind_pure (Ok.ite_tt (Ok.pure (hk _ _ S S rfl)))) fun hn=>Ok.bind_pure (Ok.ite_beq (fun _=>Ok.pure (hk _ _ S S rfl)) fun hb=>?_))
  refine Ok.ite_dec (fun hp=>Ok.idx (by omega) (by omega) fun x _ _=>?_) fun hp=>?_
  · refine Ok.rem (by omega) (Ok.pure ?_)
    have hx:=x.toNat_lt
    have:=zEZ (a:=(x.toNat:Int)) (n:=n) (by omega) (by omega)
    rw [sL (by omega) (by omega)]
    exact hk _ _ this.1 (.inl this.2) rfl
  · refine Ok.rem (by omega) ?_
    have hp:=zEZ (a:=r.p+1 - 1) (n:=(r.b.length:Int)) (by omega) (by omega)
    refine Ok.idx hp.1 hp.2 fun x1 _ _=>?_
    rw [sL (x:=(r.p+1 - 1)*7) (by omega) (by omega),sL (x:=(r.p+1 - 1)*7+3) (by omega) (by omega)]
    refine Ok.rem (by omega) ?_
    have hq:=zEZ (a:=(r.p+1 - 1)*7+3) (n:=(r.b.length:Int)) (by omega) (by omega)
    refine Ok.idx hq.1 hq.2 fun x2 _ _=>?_
    refine Ok.quo (by omega) ?_
    have hd:0<=(r.p+1 - 1).tdiv (r.b.length:Int)/\(r.p+1 - 1).tdiv (r.b.length:Int)<=1000000000:=by
      rw [f5 (by omega)]
      exact ⟨Int.ediv_nonneg (by omega) (by omega),Int.le_trans (Int.ediv_le_self _ (by omega)) (by omega)⟩
    have e1:=x1.toNat_lt
    have e2:=x2.toNat_lt
    generalize (r.p+1 - 1).tdiv (r.b.length:Int)=q3 at hd ⊢
    simp (disch:=omega) only [sL]
    refine Ok.rem (by omega) ?_
    generalize hX:(x1.toNat:Int)*131+(x2.toNat:Int)*1117+(r.p+1 - 1)*29+q3*53=X
    have hX0:0<=X:=by omega
    have hX1:X<4611686018427387904:=by omega
    have hT:0<=X.tdiv 64/\X.tdiv 64<4611686018427387904:=by rw [f5 hX0]; omega
    rw [sL (x:=X.tdiv 64) (by omega) (by omega)]
    have hw:=zEZ (zM0 hX0 hX1 hT.1 hT.2) (n:=n) (by omega)
    exact Ok.pure (hk _ _ hw.1 (.inl hw.2) rfl)⟩
instance dX (r:zK) (l:List Str):Tot (pH r l) (0<l.length/\0<=r.p/\r.p<=1000000000) (fun φ=>∀ y s,y∈l->s.p=r.p+1->φ (y,s)):=⟨by
  rintro ⟨h0,h1,h2⟩ φ hk
  unfold pH
  exact Ok.go⟩
instance wA (r:zK) (l:List Int):Tot (yN r l) (0<l.length/\0<=r.p/\r.p<=1000000000/\(∀ x∈l,I64 x)) (fun φ=>∀ y s,y∈l->I64 y->s.p=r.p+1->φ (y,s)):=⟨by
  rintro ⟨h0,h1,h2,h3⟩ φ hk
  unfold yN
  exact Ok.go⟩
theorem zHW (s:Str) (c:UInt8) (h0:s.l.length<=1000000):∀ (k:Nat) (out:List Str) (f:Int) (i:Int),Tot (pU s c out f i) ((s.l.length:Int)+1 - i<(k:Int)/\0<(k:Int)/\0<=f/\f<=i/\i<=(s.l.length:Int)+1/\(out.length:Int)<=i/\(∀ x∈out,x.l.length<=s.l.length)) (fun φ=>∀ r,r.length<=s.l.length+1->(∀ x∈r,x.l.length<=s.l.length)->φ r):=by
  intro k
  induction k with
  | zero=>intro out f i; exact ⟨fun h=>absurd h.2.1 (by omega)⟩
  | succ k ih =>
    intro out f i; refine ⟨?_⟩; rintro ⟨v0,v1,v2,v3,v4,v5,v6⟩ φ hk; unfold pU;exact Ok.go
instance zMC (s:Str) (c:UInt8) (out:List Str) (f:Int) (i:Int):Tot (pU s c out f i) (s.l.length<=1000000/\0<=f/\f<=i/\i<=(s.l.length:Int)+1/\(out.length:Int)<=i/\(∀ x∈out,x.l.length<=s.l.length)) (fun φ=>∀ r,r.length<=s.l.length+1->(∀ x∈r,x.l.length<=s.l.length)->φ r):=⟨by
  rintro ⟨h0,v0,v1,v2,v3,v4⟩ φ hk
  exact (zHW s c h0 (((s.l.length:Int)+1 - i).toNat+1) out f i).ok ⟨by omega,by omega,v0,v1,v2,v3,v4⟩ φ hk⟩
instance zGk (s:Str) (c:UInt8):Tot (mT s c) (s.l.length<=1000000) (fun φ=>∀ r,r.length<=s.l.length+1->(∀ x∈r,x.l.length<=s.l.length)->φ r):=⟨by
  rintro h0 φ hk
  unfold mT
  exact Ok.go⟩
theorem zFp (y:List Str) (b:Nat) (h0:y.length<=1000001) (h1:∀ x∈y,x.l.length<=b):∀ (k:Nat) (out:List Str) (i:Int),Tot (qD y out i) ((y.length:Int) - i<(k:Int)/\0<(k:Int)/\0<=i/\i<=(y.length:Int)/\(out.length:Int)<=i/\(∀ x∈out,x.l.length<=b)) (fun φ=>∀ r,r.length<=y.length->(∀ x∈r,x.l.length<=b)->φ r):=by
  intro k
  induction k with
  | zero=>intro out i; exact ⟨fun h=>absurd h.2.1 (by omega)⟩
  | succ k ih =>
    intro out i; refine ⟨?_⟩; rintro ⟨v0,v1,v2,v3,v4,v5⟩ φ hk; unfold qD;exact Ok.go
theorem zFq (y:List Str) (b:Nat) (out:List Str) (i:Int):Tot (qD y out i) (y.length<=1000001/\(∀ x∈y,x.l.length<=b)/\0<=i/\i<=(y.length:Int)/\(out.length:Int)<=i/\(∀ x∈out,x.l.length<=b)) (fun φ=>∀ r,r.length<=y.length->(∀ x∈r,x.l.length<=b)->φ r):=⟨by
  rintro ⟨h0,h1,v0,v1,v2,v3⟩ φ hk;exact (zFp y b h0 h1 (((y.length:Int) - i).toNat+1) out i).ok ⟨by omega,by omega,v0,v1,v2,v3⟩ φ hk⟩
instance zE0 (s:Str):Tot (mE s) (s.l.length<=1000000) (fun φ=>∀ r,r.length<=s.l.length+1->(∀ x∈r,x.l.length<=s.l.length)->φ r):=⟨by
  rintro h0 φ hk
  unfold mE
  have tl:=fun y=>zFq y s.l.length
  exact Ok.go⟩
theorem zHX (s:Str) (h0:s.l.length<=1000000):∀ (k:Nat) (n:Int) (i:Int),Tot (pV s n i) ((s.l.length:Int) - i<(k:Int)/\0<(k:Int)/\I64 n/\0<=i) (fun φ=>(∀ n,I64 n->φ (.done n))/\(φ (.ret (0,false)))):=by
  intro k
  induction k with
  | zero=>intro n i; exact ⟨fun h=>absurd h.2.1 (by omega)⟩
  | succ k ih =>
    intro n i; refine ⟨?_⟩; rintro ⟨v0,v1,v2,v3⟩ φ ⟨hd,hr⟩; unfold pV;exact Ok.go
instance zMD (s:Str) (n:Int) (i:Int):Tot (pV s n i) (s.l.length<=1000000/\I64 n/\0<=i) (fun φ=>(∀ n,I64 n->φ (.done n))/\(φ (.ret (0,false)))):=⟨by
  rintro ⟨h0,v0,v1⟩ φ hk
  exact (zHX s h0 (((s.l.length:Int) - i).toNat+1) n i).ok ⟨by omega,by omega,v0,v1⟩ φ hk⟩
instance zNL (s:Str):Tot (jP s) (s.l.length<=1000000) (fun φ=>∀ n b,I64 n->φ (n,b)):=⟨by
  rintro h0 φ hk
  unfold jP
  exact Ok.go⟩
theorem zGl (w:List Str) (b:Nat) (h0:w.length<=1000001) (h1:∀ x∈w,x.l.length<=b) (h2:b<=1000000):∀ (k:Nat) (i:Int) (Name:Str) (Dims:List Int),Tot (rD w i Name Dims) (5 - i<(k:Int)/\0<(k:Int)/\1<=i/\Name.l.length<=b/\(Dims.length:Int)<=i/\i<=5) (fun φ=>∀ a d,a.l.length<=b->d.length<=6->φ (a,d)):=by
  intro k
  induction k with
  | zero=>intro i Name Dims; exact ⟨fun h=>absurd h.2.1 (by omega)⟩
  | succ k ih =>
    intro i Name Dims; refine ⟨?_⟩; rintro ⟨v0,v1,v2,v3,v4,v5⟩ φ hk; unfold rD;have h3:∀ x∈w,x.l.length<=1000000:=fun x hx=>cS (h1 x hx) h2;exact Ok.go
theorem zGm (w:List Str) (b:Nat) (i:Int) (Name:Str) (Dims:List Int):Tot (rD w i Name Dims) (w.length<=1000001/\(∀ x∈w,x.l.length<=b)/\b<=1000000/\1<=i/\Name.l.length<=b/\(Dims.length:Int)<=i/\i<=5) (fun φ=>∀ a d,a.l.length<=b->d.length<=6->φ (a,d)):=⟨by
  rintro ⟨h0,h1,h2,v0,v1,v2,v3⟩ φ hk;exact (zGl w b h0 h1 h2 ((5 - i).toNat+1) i Name Dims).ok ⟨by omega,by omega,v0,v1,v2,v3⟩ φ hk⟩
instance zIo (w:List Str):Tot (gD w) (w.length<=1000001/\(∀ x∈w,x.l.length<=1000000)) (fun φ=>∀ r,SR r->φ r):=⟨by
  rintro ⟨h0,h1⟩ φ hk
  unfold gD
  have tl:=zGm w 1000000
  exact Ok.go⟩
instance eN:Tot oO True (fun φ=>φ (zA.mk [0,0,0,0] 0)):=⟨fun _ _ h=>Ok.pure h⟩
instance zB6:Tot mX True (fun φ=>∀ r,SRs 1000 r->φ r):=⟨fun _ φ h=>Ok.pure (h _ ⟨by decide,by simp [SR]⟩)⟩
instance mR (n:Int):Tot (wN n) True (fun φ=>φ (zA.mk [0,0,0,0] n)):=⟨fun _ _ h=>by unfold wN; exact Ok.call eN trivial (Ok.pure h)⟩
theorem zFr (s:Str) (a:Int) (h0:s.l.length<=1000000) (h1:0<=a) (h2:a<=(s.l.length:Int)):∀ (k:Nat) (e:Int),Tot (qE s a e) ((s.l.length:Int) - e<(k:Int)/\0<(k:Int)/\a<=e/\e<=a+2/\e<=(s.l.length:Int)) (fun φ=>∀ r,a<=r->r<=a+2->r<=(s.l.length:Int)->φ r):=by
  intro k
  induction k with
  | zero=>intro e; exact ⟨fun h=>absurd h.2.1 (by omega)⟩
  | succ k ih =>
    intro e; refine ⟨?_⟩; rintro ⟨v0,v1,v2,v3,v4⟩ φ hk; unfold qE;exact Ok.go
instance zKy (s:Str) (a:Int) (e:Int):Tot (qE s a e) (s.l.length<=1000000/\0<=a/\a<=(s.l.length:Int)/\a<=e/\e<=a+2/\e<=(s.l.length:Int)) (fun φ=>∀ r,a<=r->r<=a+2->r<=(s.l.length:Int)->φ r):=⟨by
  rintro ⟨h0,h1,h2,v0,v1,v2⟩ φ hk
  exact (zFr s a h0 h1 h2 (((s.l.length:Int) - e).toNat+1) e).ok ⟨by omega,by omega,v0,v1,v2⟩ φ hk⟩
instance zE1 (s:Str) (a:Int):Tot (mF s a) (s.l.length<=1000000/\0<=a/\a<=(s.l.length:Int)) (fun φ=>∀ n e,I64 n->a<=e->e<=(s.l.length:Int)->φ (n,e)):=⟨by
  rintro ⟨h0,h1,h2⟩ φ hk
  unfold mF
  exact Ok.go⟩
instance zJn (s:Str) (a:Int):Tot (gV s a) (s.l.length<=1000000/\0<=a) (fun φ=>∀ r,-1<=r->r<=3->(0<=r->a<(s.l.length:Int))->φ r):=⟨by
  rintro ⟨h0,h1⟩ φ hk
  unfold gV
  exact Ok.go⟩
theorem VA.set {l:List Int}{c:Int} (h:l.length=4) (hl:∀ x∈l,I64 x) (hc:I64 c) (i:Nat) (x:Int):VA (zA.mk (([]++l).set i (W x)) c):=by
  refine ⟨by simp [h],?_,hc⟩;intro y hy;rcases List.mem_or_eq_of_mem_set hy with hy | hy
  · exact hl y hy
  · exact hy ▸ zKP x
theorem VA.con {l:List Int} (h:l.length=4) (hl:∀ x∈l,I64 x) (x:Int):VA (zA.mk ([]++l) (W x)):=⟨h,hl,zKP x⟩
instance zIp (a:zA) (s:Str) (n:Int):Tot (gE a s n) (VA a/\s.l.length<=1000000/\0<=n/\n<(s.l.length:Int)) (fun φ=>∀ r e,VA r->(e=-1∨n<e)->e<=(s.l.length:Int)->φ (r,e)):=⟨by
  rintro ⟨h0,h1,h2,h3⟩ φ hk
  have hv:=h0; obtain ⟨h00,h01,h02⟩:=h0; have t1:=VA.set h00 h01 h02; have t2:=VA.con h00 h01
  unfold gE
  refine Ok.sidx h2 h3 fun b2 _ _=>?_
  refine Ok.bind (φ:=fun _=>True) Ok.go fun sign _=>?_
  refine Ok.bind (φ:=fun _=>True) Ok.go fun t27 _=>?_
  refine Ok.bind (φ:=fun m=>n<=m/\m<=n+1) Ok.go fun m hm=>?_
  refine Ok.call (zE1 s m) ⟨h1,by omega,by omega⟩ fun y1 y2 g1 g2 g3=>?_
  refine Ok.bind (φ:=fun b=>b=true->y2<(s.l.length:Int)) Ok.go fun t51 h51=>?_
  refine Ok.bind (φ:=fun x=>y2<=x/\x<=(s.l.length:Int)) ?_ fun star hs=>?_
  · refine Ok.ite (fun h=>?_) fun h=>Ok.go
    have h51:=h51 h
    exact Ok.go
  refine Ok.call (zJn s star) ⟨h1,by omega⟩ fun y3 g4 g5 g6=>?_
  refine Ok.app S ?_
  refine Ok.bind (φ:=fun b=>b=true->0<=y3) Ok.go fun t75 h75=>?_
  refine Ok.ite (fun h=>?_) fun h=>?_
  · have h75:=h75 h
    have g6:=g6 h75
    have h4:(([]:List Int)++a.Coefs).length=4:=h00
    refine Ok.idx h75 (by omega) fun x _ hx=>Ok.idx_known hx h75 (Ok.bind_pure (Ok.pure ?_))
    rw [sL (x:=star+1) (by omega) (by omega)]
    exact hk _ _ (t1 _ _) (.inr (by omega)) (by omega)
  · refine Ok.ite_beq (fun h=>Ok.pure (hk _ _ hv (.inl rfl) (by omega))) fun h=>Ok.pure (hk _ _ (t2 _) (.inr (by omega)) g3)⟩
theorem zHY:∀ (k:Nat) (n:Int) (o:Str),Tot (pW n o) ((0<=n/\n<=9223372036854775807/\n<(2:Int) ^ k)/\o.l.length+k<=1000) (fun φ=>∀ a r,0<=a->a<=9->r.l.length<=o.l.length+k->φ (a,r)):=by
  intro k
  induction k with
  | zero=>intro n o; refine ⟨?_⟩; rintro ⟨⟨a1,a4,a2⟩,a3⟩ φ hk; unfold pW; rw [Int.pow_zero] at a2; exact Ok.go
  | succ k ih =>
    intro n o; refine ⟨?_⟩; rintro ⟨⟨a1,a4,a2⟩,a3⟩ φ hk; unfold pW;refine Ok.ite_dec (fun h=>?_) fun h=>Ok.go;refine Ok.cat (by simp; omega) fun s hs hl=>?_;have ht:0<=n.tdiv 10/\n.tdiv 10<(2:Int) ^ k/\n.tdiv 10<=n:=by
      rw [f5 a1];rw [Int.pow_succ] at a2;omega
    rw [sL (by omega) (by omega)];simp only [cr,cI] at hl;refine Ok.last (ih _ _) ⟨⟨ht.1,by omega,ht.2.1⟩,by omega⟩ fun a r g1 g2 g3=>hk a r g1 g2 (by omega)
theorem zGn (n:Int):Tot (rP n) (0<=n/\n<=9223372036854775807) (fun φ=>∀ r,r.l.length<=64->1<=r.l.length->φ r):=⟨by
  rintro ⟨h0,h1⟩ φ hk;unfold rP;refine Ok.ite_dec (fun h=>absurd h (by omega)) fun _=>Ok.ite_dec (fun h=>absurd h (by omega)) fun _=>?_;refine Ok.call (zHY 63 n ⟨[]⟩) ⟨⟨h0,h1,by omega⟩,by decide⟩ fun a r g1 g2 g3=>?_;simp only [cI] at g3;refine Ok.cat (by simp; omega) fun s hs hl=>Ok.pure ?_;simp only [cr,cI] at hl;exact hk _ (by dsimp only [id]; omega) (by dsimp only [id]; omega)⟩
instance zNM (n:Int):Tot (rP n) (I64 n) (fun φ=>∀ r,r.l.length<=70->1<=r.l.length->φ r):=⟨by
  rintro ⟨h0,h1⟩ φ hk
  by_cases hn:0<=n
  · exact (zGn n).ok ⟨hn,h1⟩ φ fun r g1 g2=>hk r (by omega) g2
  unfold rP
  refine Ok.ite_dec (fun h=>Ok.pure (hk _ (by decide) (by decide))) fun _=>Ok.ite_dec (fun h=>?_) fun h=>absurd h (by omega)
  rw [sL (by omega) (by omega)]
  refine Ok.call (zGn _) ⟨by omega,by omega⟩ fun r g1 g2=>?_
  refine Ok.cat (by simp; omega) fun s hs hl=>Ok.pure ?_
  simp only [cr,cI] at hl
  exact hk _ (by dsimp only [id]; omega) (by dsimp only [id]; omega)⟩
instance zNN (n:Int) (name:Str):Tot (jQ n name) (I64 n/\name.l.length<=10) (fun φ=>∀ r,r.l.length<=100->1<=r.l.length->φ r):=⟨by
  rintro ⟨h0,h1⟩ φ hk
  have hw:=zKP (0 - n)
  unfold jQ
  refine Ok.bind (φ:=fun o=>I64 o.1/\o.2.l.length=1) ?_ ?_
  · refine Ok.ite_dec (fun _=>Ok.pure ⟨hw,rfl⟩) fun _=>Ok.pure ⟨h0,rfl⟩
  rintro ⟨m,sg⟩ ⟨g1,g2⟩
  dsimp only at g1 g2 ⊢
  exact Ok.go⟩
theorem zHZ (a:zA) (h0:VA a):∀ (k:Nat) (o:Str) (i:Int),Tot (pX a o i) ((a.Coefs.length:Int) - i<(k:Int)/\0<(k:Int)/\0<=i/\i<=4/\(o.l.length:Int)<=100*i) (fun φ=>∀ r,r.l.length<=400->φ r):=by
  obtain ⟨h01,h02,h03⟩:=h0;intro k
  induction k with
  | zero=>intro o i; exact ⟨fun h=>absurd h.2.1 (by omega)⟩
  | succ k ih =>
    intro o i; refine ⟨?_⟩; rintro ⟨v0,v1,v2,v3,v4⟩ φ hk; unfold pX;exact Ok.go
instance zH0 (a:zA) (o:Str) (i:Int):Tot (pX a o i) (VA a/\0<=i/\i<=4/\(o.l.length:Int)<=100*i) (fun φ=>∀ r,r.l.length<=400->φ r):=⟨by
  rintro ⟨h0,v0,v1,v2⟩ φ hk
  exact (zHZ a h0 (((a.Coefs.length:Int) - i).toNat+1) o i).ok ⟨by omega,by omega,v0,v1,v2⟩ φ hk⟩
instance zNO (a:zA):Tot (mU a) (VA a) (fun φ=>∀ r,r.l.length<=1000->φ r):=⟨by
  rintro h0 φ hk
  have h00:=h0; obtain ⟨h01,h02,h03⟩:=h0
  unfold mU
  refine Ok.call (zH0 a _ _) ⟨h00,by simp⟩ fun o ho=>?_
  refine Ok.bind (φ:=fun r=>r.l.length<=1000) Ok.go fun r hr=>?_
  refine Ok.ite_beq (fun _=>Ok.pure (hk _ (by decide))) fun hne=>?_
  have hp:0<r.l.length:=List.length_pos_iff.2 hne
  exact Ok.go⟩
instance zKl (a:zA):Tot (nJ a) (SA a) (fun φ=>∀ r,r.l.length<=1000->φ r):=⟨by
  rintro h0 φ hk
  unfold nJ
  refine Ok.call (zFn a) h0 fun b hb=>?_
  refine Ok.ite_not (fun _=>Ok.go) fun hv=>?_
  have hv:=hb hv
  exact Ok.go⟩
theorem zD8 (s:Str) (h0:s.l.length<=1000000):∀ (k:Nat) (i:Int) (x:zA),Tot (rK s i x) (((i<0∨(s.l.length:Int) - i+1<(k:Int))/\0<(k:Int)/\i<=(s.l.length:Int))/\VA x) (fun φ=>∀ r,VA r->φ r):=by
  intro k
  induction k with
  | zero=>intro i x; exact ⟨fun h=>absurd h.1.2.1 (by omega)⟩
  | succ k ih =>
    intro i x; refine ⟨?_⟩; rintro ⟨⟨v0,v1,v2⟩,v3⟩ φ hk; unfold rK;refine Ok.bind_ite (Ok.ite_dec (fun h1=>Ok.bind_pure ?_) fun _=>Ok.bind_pure (Ok.ite_ff Ok.go));refine Ok.ite_dec (fun h2=>Ok.call (zIp x s i) ⟨v3,h0,h1,h2⟩ fun r e g1 g2 g3=>?_) fun h2=>Ok.go;refine Ok.last (ih e r) ⟨⟨by omega,by omega,g3⟩,g1⟩ hk
instance zFs (s:Str):Tot (pY s) (s.l.length<=1000000) (fun φ=>∀ a b,SA a->φ (a,b)):=⟨by
  rintro h0 φ hk
  unfold pY
  refine Ok.call eN trivial (Ok.ite_dec (fun _=>Ok.pure (hk _ _ SA.nil0)) fun _=>?_)
  refine Ok.call (zD8 s h0 (s.l.length+2) 0 _) ⟨⟨by omega,by omega,by omega⟩,rfl,by simp [I64],by simp [I64]⟩ fun x hx=>?_
  have hs:SA x:=⟨by rw [hx.1]; decide,hx.2.2⟩
  exact Ok.go⟩
theorem zD9 (y:List Str) (h0:y.length<=1000001) (h1:∀ x∈y,x.l.length<=1000000):∀ (k:Nat) (o:List zA) (i:Int),Tot (tX y o i) (3 - i<(k:Int)/\0<(k:Int)/\0<=i/\(o.length:Int)<=i/\i<=3/\(∀ a∈o,SA a)) (fun φ=>∀ r,LL r->r.length<=100->(∀ a∈r,SA a)->φ r):=by
  intro k
  induction k with
  | zero=>intro o i; exact ⟨fun h=>absurd h.2.1 (by omega)⟩
  | succ k ih =>
    intro o i; refine ⟨?_⟩; rintro ⟨v0,v1,v2,v3,v4,v5⟩ φ hk; unfold tX;exact Ok.go
instance zJo (y:List Str) (o:List zA) (i:Int):Tot (tX y o i) (y.length<=1000001/\(∀ x∈y,x.l.length<=1000000)/\0<=i/\(o.length:Int)<=i/\i<=3/\(∀ a∈o,SA a)) (fun φ=>∀ r,LL r->r.length<=100->(∀ a∈r,SA a)->φ r):=⟨by
  rintro ⟨h0,h1,v0,v1,v2,v3⟩ φ hk
  exact (zD9 y h0 h1 ((3 - i).toNat+1) o i).ok ⟨by omega,by omega,v0,v1,v2,v3⟩ φ hk⟩
theorem up {y:List Str}{n:Nat} (h:∀ x∈y,x.l.length<=n) (hn:n<=1000000):∀ x∈y,x.l.length<=1000000:=fun x hx=>cS (h x hx) hn
instance zKz (s:Str):Tot (qF s) (s.l.length<=1000000) (fun φ=>∀ r,LL r->r.length<=100->(∀ a∈r,SA a)->φ r):=⟨by
  rintro h0 φ hk
  unfold qF
  refine Ok.call (zGk s _) h0 fun y g1 g2=>?_
  have g3:=up g2 h0
  exact Ok.go⟩
instance zJp (s:Str):Tot (gW s) (s.l.length<=1000000) (fun φ=>∀ r,SL1 r->φ r):=⟨by
  rintro h0 φ hk
  unfold gW
  refine Ok.call (zE0 s) h0 fun y g1 g2=>?_
  have g3:=up g2 h0
  exact Ok.go⟩
theorem zGo (s:Str) (e:UInt8) (h0:s.l.length<=1000000):∀ (k:Nat) (i:Int),Tot (qU s e i) ((s.l.length:Int) - i<(k:Int)/\0<(k:Int)/\0<=i) (fun φ=>(φ (.done ()))/\(∀ r b,i<=r->r<(s.l.length:Int)->s.l[r.toNat]?=some b->(b.toNat:Int)=(e.toNat:Int)->φ (.ret r))):=by
  intro k
  induction k with
  | zero=>intro i; exact ⟨fun h=>absurd h.2.1 (by omega)⟩
  | succ k ih =>
    intro i; refine ⟨?_⟩; rintro ⟨v0,v1,v2⟩ φ ⟨hd,hr⟩; unfold qU;refine Ok.ite_dec (fun h=>Ok.sidx v2 h fun b _ hb=>Ok.ite_beq (fun he=>Ok.pure (hr i b (by omega) h hb he)) fun _=>?_) fun _=>Ok.go;rw [sL (by omega) (by omega)];exact Ok.last (ih (i+1)) ⟨by omega,by omega,by omega⟩ ⟨hd,fun r b g1=>hr r b (by omega)⟩
instance zGp (s:Str) (e:UInt8) (i:Int):Tot (qU s e i) (s.l.length<=1000000/\0<=i) (fun φ=>(φ (.done ()))/\(∀ r b,i<=r->r<(s.l.length:Int)->s.l[r.toNat]?=some b->(b.toNat:Int)=(e.toNat:Int)->φ (.ret r))):=⟨by
  rintro ⟨h0,v0⟩ φ hk
  exact (zGo s e h0 (((s.l.length:Int) - i).toNat+1) i).ok ⟨by omega,by omega,v0⟩ φ hk⟩
instance zIq (s:Str) (i:Int) (e:UInt8):Tot (kM s i e) (s.l.length<=1000000/\0<=i) (fun φ=>∀ r,(r=-1∨(i<=r/\r<(s.l.length:Int)/\∃ b,s.l[r.toNat]?=some b/\(b.toNat:Int)=(e.toNat:Int)))->φ r):=⟨by
  rintro ⟨h0,h1⟩ φ hk
  unfold kM
  exact Ok.call (zGp s e i) ⟨h0,h1⟩ ⟨Ok.pure (hk _ (.inl rfl)),fun r b g1 g2 g3 g4=>Ok.pure (hk _ (.inr ⟨g1,g2,b,g3,g4⟩))⟩⟩
instance zA9 (s:Str) (i:Int):Tot (qJ s i) (s.l.length<=1000000/\0<=i/\i<=1000000) (fun φ=>∀ a n,SC a->(n=-1∨i<n)->n<=(s.l.length:Int)->φ (a,n)):=⟨by
  rintro ⟨h0,h1,h2⟩ φ hk
  unfold qJ
  exact Ok.go⟩
theorem SE.node {n:Nat}{k:Int}{a b:zG} (ha:SE n a) (hb:SE n b):SE (n+1) (zG.mk k 0 (zA.mk [] 0) (zJ.mk ⟨[]⟩ []) [a,b]) :=
  ⟨SA.nil0,SC.nil,cz rfl,fun k hk=>by
    rcases cT.1 hk with hk | hk
    · exact hk ▸ ha
    · exact ck.1 hk ▸ hb⟩
theorem SE.lf {m:Nat}{k n:Int}{a:zA}{c:zJ} (h1:SA a) (h2:SC c):SE m (zG.mk k n a c []):=SE.leaf (e:=zG.mk k n a c []) h1 h2 rfl
def EX0:zG:=zG.mk 0 0 (zA.mk [] 0) (zJ.mk ⟨[]⟩ []) []
theorem EX0.se {n:Nat}:SE n EX0:=SE.leaf (e:=EX0) SA.nil0 SC.nil rfl
theorem zIr (s:Str) (h0:s.l.length<=1000000):∀ (n:Nat) (i lv:Int),Tot (qV s i lv) (lv<=n/\n<=1000/\I64 lv) (fun φ=>∀ e r,SE n e->(r=-1∨(0<=i/\i<r))->r<=(s.l.length:Int)->φ (e,r)):=by
  intro n
  induction n with
  | zero =>
    intro i lv; refine ⟨?_⟩; rintro ⟨v0,v1,v2⟩ φ hk; unfold qV; dsimp only [same];refine Ok.bind_ite (Ok.ite_dec (fun h=>Ok.bind_pure (Ok.ite_tt (Ok.pure (hk _ _ EX0.se (.inl rfl) (by omega))))) fun h=>absurd h (by omega))
  | succ n ih =>
    have round:∀ (i lv:Int),Tot (gF s i lv) (lv<=n/\n<=1000/\0<=i/\I64 lv) (fun φ=>∀ e r,SE (n+1) e->(r=-1∨(i<r))->r<=(s.l.length:Int)->φ (e,r)):=by
      intro i lv; refine ⟨?_⟩; rintro ⟨v0,v1,v2,v4⟩ φ hk; unfold gF; dsimp only [same];have hbad:Ok (Pure.pure (EX0,(-1:Int))) φ:=Ok.pure (hk _ _ EX0.se (.inl rfl) (by omega));refine Ok.call (ih i lv) ⟨v0,v1,v4⟩ fun e1 r1 g1 g2 g3=>?_;refine Ok.bind (φ:=fun b=>b=false->0<=r1/\r1<(s.l.length:Int)) Ok.go fun b hb=>Ok.ite (fun _=>hbad) fun hz=>?_;obtain ⟨b1,b2⟩:=hb (by simpa using hz);refine Ok.sidx b1 b2 fun c _ hc=>Ok.bind (φ:=fun _=>True) Ok.go fun kd _=>?_;refine Ok.call (ih _ lv) ⟨v0,v1,v4⟩ fun e2 r2 g4 g5 g6=>?_;rw [sL (by omega) (by omega)] at g5;refine Ok.bind (φ:=fun b=>b=false->0<=r2/\r2<(s.l.length:Int)) Ok.go fun b hb=>Ok.ite (fun _=>hbad) fun hz=>?_;obtain ⟨b3,b4⟩:=hb (by simpa using hz);refine Ok.pure ?_;rw [sL (by omega) (by omega)];exact hk _ _ (SE.node g1 g4) (.inr (by omega)) (by omega)
    intro i lv; refine ⟨?_⟩; rintro ⟨v0,v1,v2⟩ φ hk; unfold qV; dsimp only [same];have hbad:Ok (Pure.pure (EX0,(-1:Int))) φ:=Ok.pure (hk _ _ EX0.se (.inl rfl) (by omega));refine Ok.bind (φ:=fun b=>b=false->0<=i/\i<(s.l.length:Int)/\1<=lv) Ok.go fun b hb=>Ok.ite (fun _=>hbad) fun hz=>?_;obtain ⟨b1,b2,b3⟩:=hb (by simpa using hz);refine Ok.sidx b1 b2 fun c _ hc=>Ok.ite_beq (fun aE=>?_) fun _=>?_
    · refine Ok.call (zIq s i _) ⟨h0,b1⟩ fun y hy=>Ok.ite_dec (fun _=>hbad) fun hy0=>?_;rcases hy with hy | ⟨y1,y2,d,y3,y4⟩
      · exact absurd hy (by omega)
      have hiy:i+1<=y:=by
        by_cases e:y=i
        · subst e;rw [hc] at y3;cases y3
          have:((125:UInt8).toNat:Int)=125:=rfl;omega
        · omega
      rw [sL (by omega) (by omega),sL (by omega) (by omega)];refine Ok.sslc (by omega) (by omega) (by omega) fun m _ hm=>Ok.call (zFs m) (by omega) fun a b ha=>Ok.pure (hk _ _ (SE.lf ha SC.nil) (.inr (by omega)) (by omega))
    · refine Ok.bind (φ:=fun _=>True) Ok.go fun t52 _=>Ok.ite (fun _=>?_) fun _=>?_
      · refine Ok.call (zA9 s i) ⟨h0,b1,by omega⟩ fun a r ha g1 g2=>Ok.pure (hk _ _ (SE.lf SA.nil0 ha) (by omega) g2)
      · refine Ok.sidx_known hc b1 (Ok.ite_beq (fun _=>?_) fun _=>?_)
        · obtain ⟨v3,v4⟩:=v2;rw [sL (x:=lv - 1) (by omega) (by omega),sL (x:=i+1) (by omega) (by omega)];refine Ok.call (round _ _) ⟨by omega,by omega,by omega,⟨by omega,by omega⟩⟩ fun e r g1 g2 g3=>Ok.pure (hk _ _ g1 (by omega) g3)
        · refine Ok.call (zE1 s i) ⟨h0,b1,by omega⟩ fun n2 r g1 g2 g3=>Ok.ite_beq (fun _=>hbad) fun hne=>Ok.pure (hk _ _ (SE.lf SA.nil0 SC.nil) (.inr (by omega)) g3)
instance zIs (s:Str) (i lv:Int):Tot (qV s i lv) (s.l.length<=1000000/\0<=lv/\lv<=5) (fun φ=>∀ e r,SE 5 e->(r=-1∨(0<=i/\i<r))->r<=(s.l.length:Int)->φ (e,r)):=⟨fun ⟨h0,h1,h2⟩=>(zIr s h0 5 i lv).ok ⟨h2,by decide,⟨by omega,by omega⟩⟩⟩
theorem zE2 (list:List zA) (h0:list.length<=100) (h1:∀ a∈list,VA a):∀ (k:Nat) (o:Str) (i:Int),Tot (sE list o i) ((list.length:Int) - i<(k:Int)/\0<(k:Int)/\0<=i/\i<=100/\(o.l.length:Int)<=1001*i) (fun φ=>∀ r,r.l.length<=200000->φ r):=by
  intro k
  induction k with
  | zero=>intro o i; exact ⟨fun h=>absurd h.2.1 (by omega)⟩
  | succ k ih =>
    intro o i; refine ⟨?_⟩; rintro ⟨v0,v1,v2,v3,v4⟩ φ hk; unfold sE;exact Ok.go
instance zKQ (list:List zA) (o:Str) (i:Int):Tot (sE list o i) (list.length<=100/\(∀ a∈list,VA a)/\0<=i/\i<=100/\(o.l.length:Int)<=1001*i) (fun φ=>∀ r,r.l.length<=200000->φ r):=⟨by
  rintro ⟨h0,h1,v0,v1,v2⟩ φ hk
  exact (zE2 list h0 h1 (((list.length:Int) - i).toNat+1) o i).ok ⟨by omega,by omega,v0,v1,v2⟩ φ hk⟩
instance zL7 (list:List zA):Tot (qY list) (list.length<=100/\(∀ a∈list,VA a)) (fun φ=>∀ r,r.l.length<=200000->φ r):=⟨by
  rintro ⟨h0,h1⟩ φ hk
  unfold qY
  exact Ok.go⟩
instance zKm (a:zJ):Tot (sX a) (VC a) (fun φ=>∀ r,r.l.length<=200100->φ r):=⟨by
  rintro h0 φ hk
  obtain ⟨h01,h02,h03⟩:=h0
  unfold sX
  exact Ok.go⟩
def TN:Nat->Nat
  | 0=>200100
  | n+1=>2*TN n+10
theorem TN.ge:∀ n,200100<=TN n
  | 0=>dj _
  | n+1=>by have:=TN.ge n; simp only [TN]; omega
theorem TN.mono (n:Nat):TN n<=TN (n+1):=by have:=TN.ge n; simp only [TN]; omega
theorem zJq:∀ (n:Nat) (e:zG),Tot (rQ e) (VE n e/\TN n<=1000000000) (fun φ=>∀ r,r.l.length<=TN n->φ r):=by
  have base:∀ (e:zG),VO e->∀ φ:Str->Prop,(∀ r,r.l.length<=200100->φ r)->Ok (rQ e) φ:=by
    intro e he φ hk;unfold rQ;rcases he with ⟨h,h1⟩ | ⟨h,h1⟩ | ⟨h,h1⟩
    · refine Ok.ite_beq (fun _=>Ok.go) fun hne=>absurd h hne
    · refine Ok.ite_beq (fun he=>absurd (h.symm.trans he) (by decide)) fun _=>Ok.ite_beq (fun _=>Ok.go) fun hne=>absurd h hne
    · refine Ok.ite_beq (fun he=>absurd (h.symm.trans he) (by decide)) fun _=>Ok.ite_beq (fun he=>absurd (h.symm.trans he) (by decide)) fun _=>Ok.ite_beq (fun _=>Ok.go) fun hne=>absurd h hne
  intro n
  induction n with
  | zero=>intro e; exact ⟨fun ⟨h,_⟩ φ hk=>base e h φ hk⟩
  | succ n ih =>
    intro e; refine ⟨?_⟩; rintro ⟨h,hn⟩ φ hk;have hm:=TN.mono n;have hg:=TN.ge n;have hg2:TN (n+1)=2*TN n+10:=rfl;rcases h with h | ⟨h1,h2,h3⟩
    · exact base e h φ fun r hr=>hk r (by omega)
    unfold rQ;dsimp only [same];refine Ok.ite_beq (fun he=>by omega) fun _=>Ok.ite_beq (fun he=>by omega) fun _=>Ok.ite_beq (fun he=>by omega) fun _=>?_;refine Ok.idx (by omega) (by omega) fun x hx _=>?_;have hx:=h3 x hx;refine Ok.call (ih x) ⟨hx,by omega⟩ fun y hy=>?_;refine Ok.cat (by simp; omega) fun s2 _ g2=>?_;rw [sL (x:=e.Kind - 4) (by omega) (by omega),sL (x:=e.Kind - 4+1) (by omega) (by omega)];refine Ok.sslc (by omega) (by omega) (by simp; omega) fun s3 _ g3=>?_;simp only [cr,cI] at g2;refine Ok.cat (by omega) fun s4 _ g4=>Ok.idx (by omega) (by omega) fun x1 hx1 _=>?_;have hx1:=h3 x1 hx1;refine Ok.call (ih x1) ⟨hx1,by omega⟩ fun y4 bw=>Ok.cat (by omega) fun s5 _ g5=>Ok.cat (by simp; omega) fun s6 _ g6=>Ok.pure (hk _ ?_);simp only [cr,cI] at g6;dsimp only [id];omega
instance zMr (e:zG):Tot (rQ e) (VE 5 e) (fun φ=>∀ r,r.l.length<=10000000->φ r):=⟨fun h φ hk=>(zJq 5 e).ok ⟨h,by decide⟩ φ fun r hr=>hk r (cS hr (by decide))⟩
instance zGq (s:zO):Tot (mL s) (SS s) (fun φ=>∀ r,r.l.length<=100000000->φ r):=⟨by
  rintro h0 φ hk
  unfold mL
  refine Ok.call (zCx s _) h0 fun b hb=>?_
  refine Ok.ite_not (fun _=>Ok.go) fun hv=>?_
  obtain ⟨g1,g2⟩:=hb hv
  exact Ok.go⟩
instance zCy (s:Str):Tot (nU s) (s.l.length<=1000000) (fun φ=>∀ a b,SS a->φ (a,b)):=⟨by
  rintro h0 φ hk
  have e0:SS (zO.mk (zJ.mk ⟨[]⟩ []) EX0):=⟨SC.nil,EX0.se⟩
  unfold nU
  refine Ok.ite_dec (fun _=>Ok.pure (hk _ _ e0)) fun _=>?_
  refine Ok.call (zA9 s 0) ⟨h0,by omega,by omega⟩ fun a n g1 g2 g3=>?_
  refine Ok.bind (φ:=fun _=>True) Ok.go fun t _=>Ok.ite (fun _=>Ok.pure (hk _ _ e0)) fun _=>?_
  refine Ok.call (zIs s _ 5) ⟨h0,by decide,by decide⟩ fun e r g4 g5 g6=>?_
  have hs:SS (zO.mk a e):=⟨g1,g4⟩
  refine Ok.call (zGq _) hs fun t ht=>Ok.ite_not (fun _=>Ok.pure (hk _ _ e0)) fun _=>Ok.pure (hk _ _ hs)⟩
theorem zH1 (nest:List zE) (h0:VN nest):∀ (k:Nat) (o:Str) (i:Int),Tot (oA nest o i) ((nest.length:Int) - i<(k:Int)/\0<(k:Int)/\0<=i/\i<=4/\(o.l.length:Int)<=500000*i) (fun φ=>∀ r,r.l.length<=2000000->φ r):=by
  obtain ⟨h01,h02⟩:=h0;intro k
  induction k with
  | zero=>intro o i; exact ⟨fun h=>absurd h.2.1 (by omega)⟩
  | succ k ih =>
    intro o i; refine ⟨?_⟩; rintro ⟨v0,v1,v2,v3,v4⟩ φ hk; unfold oA;refine Ok.ite_dec (fun h=>Ok.cat (by simp; omega) fun s1 _ g1=>Ok.idx v2 h fun x hx hxi=>?_) fun _=>Ok.go;obtain ⟨⟨g2,g3,g4⟩,g5,g6,g7⟩:=h02 x hx;exact Ok.go
instance zME (nest:List zE) (o:Str) (i:Int):Tot (oA nest o i) (VN nest/\0<=i/\i<=4/\(o.l.length:Int)<=500000*i) (fun φ=>∀ r,r.l.length<=2000000->φ r):=⟨by
  rintro ⟨h0,v0,v1,v2⟩ φ hk
  exact (zH1 nest h0 (((nest.length:Int) - i).toNat+1) o i).ok ⟨by omega,by omega,v0,v1,v2⟩ φ hk⟩
instance zJr (nest:List zE):Tot (gY nest) (VN nest) (fun φ=>∀ r,r.l.length<=2000000->φ r):=⟨by
  rintro h0 φ hk
  unfold gY
  exact Ok.go⟩
theorem zCR (p:zD) (i:Int) (a:zF) (b:Nat) (h0:VR a) (h1:0<=i) (h2:i<(p.Arrays.length:Int)) (h3:p.Arrays[i.toNat]?=some a) (h4:b<=1000000000):∀ (k:Nat) (o:Str) (k0:Int),Tot (uT p i o k0) ((a.Dims.length:Int) - k0<(k:Int)/\0<(k:Int)/\0<=k0/\k0<=2/\(o.l.length:Int)<=b+100*k0) (fun φ=>∀ r,r.l.length<=b+200->φ r):=by
  obtain ⟨h01,h02,h05⟩:=h0;intro k
  induction k with
  | zero=>intro o k0; exact ⟨fun h=>absurd h.2.1 (by omega)⟩
  | succ k ih =>
    intro o k0; refine ⟨?_⟩; rintro ⟨v0,v1,v2,v3,v4⟩ φ hk; unfold uT;refine Ok.idx_known h3 h1 ?_;refine Ok.ite_dec (fun h=>Ok.cat (by simp; omega) fun s1 _ g1=>Ok.idx_known h3 h1 (Ok.idx v2 h fun x hx hxi=>?_)) fun _=>Ok.go;have hx:=h05 x hx;exact Ok.go
theorem zCS (p:zD) (i:Int) (a:zF) (b:Nat) (o:Str) (k0:Int):Tot (uT p i o k0) (VR a/\0<=i/\i<(p.Arrays.length:Int)/\p.Arrays[i.toNat]?=some a/\b<=1000000000/\0<=k0/\k0<=2/\(o.l.length:Int)<=b+100*k0) (fun φ=>∀ r,r.l.length<=b+200->φ r):=⟨by
  rintro ⟨h0,h1,h2,h3,h4,v0,v1,v2⟩ φ hk;exact (zCR p i a b h0 h1 h2 h3 h4 (((a.Dims.length:Int) - k0).toNat+1) o k0).ok ⟨by omega,by omega,v0,v1,v2⟩ φ hk⟩
theorem zCT (p:zD) (h0:VG p):∀ (k:Nat) (o:Str) (i:Int),Tot (uU p o i) ((p.Arrays.length:Int) - i<(k:Int)/\0<(k:Int)/\0<=i/\i<=4/\(o.l.length:Int)<=8+1000*i) (fun φ=>∀ r,r.l.length<=5000->φ r):=by
  obtain ⟨⟨h01,h02⟩,h03,h04⟩:=h0;intro k
  induction k with
  | zero=>intro o i; exact ⟨fun h=>absurd h.2.1 (by omega)⟩
  | succ k ih =>
    intro o i; refine ⟨?_⟩; rintro ⟨v0,v1,v2,v3,v4⟩ φ hk; unfold uU;refine Ok.ite_dec (fun h=>Ok.cat (by simp; omega) fun s1 _ g1=>Ok.idx v2 h fun x hx hxi=>?_) fun _=>Ok.go;obtain ⟨g2,g3,g4⟩:=h02 x hx;simp only [cr,cI] at g1;refine Ok.cat (by omega) fun s2 _ g5=>Ok.call (zCS p i x (o.l.length+10) s2 0) ⟨⟨g2,g3,g4⟩,v2,h,hxi,by omega,by omega,by omega,by omega⟩ fun r hr=>?_;exact Ok.go
instance zCU (p:zD) (o:Str) (i:Int):Tot (uU p o i) (VG p/\0<=i/\i<=4/\(o.l.length:Int)<=8+1000*i) (fun φ=>∀ r,r.l.length<=5000->φ r):=⟨by
  rintro ⟨h0,v0,v1,v2⟩ φ hk
  exact (zCT p h0 (((p.Arrays.length:Int) - i).toNat+1) o i).ok ⟨by omega,by omega,v0,v1,v2⟩ φ hk⟩
theorem zCV (p:zD) (i:Int) (q:zN) (b:Nat) (h0:VP q) (h1:0<=i) (h2:i<(p.Parts.length:Int)) (h3:p.Parts[i.toNat]?=some q) (h4:b<=1000000000000):∀ (k:Nat) (o:Str) (k0:Int),Tot (uV p i o k0) ((q.Body.length:Int) - k0<(k:Int)/\0<(k:Int)/\0<=k0/\k0<=4/\(o.l.length:Int)<=b+20000000*k0) (fun φ=>∀ r,r.l.length<=b+80000000->φ r):=by
  obtain ⟨h01,h02,h05⟩:=h0;intro k
  induction k with
  | zero=>intro o k0; exact ⟨fun h=>absurd h.2.1 (by omega)⟩
  | succ k ih =>
    intro o k0; refine ⟨?_⟩; rintro ⟨v0,v1,v2,v3,v4⟩ φ hk; unfold uV;refine Ok.idx_known h3 h1 ?_;refine Ok.ite_dec (fun h=>Ok.idx_known h3 h1 (Ok.idx v2 h fun x hx hxi=>?_)) fun _=>Ok.go;obtain ⟨g1,g2⟩:=h05 x hx;exact Ok.go
theorem zCW (p:zD) (i:Int) (q:zN) (b:Nat) (o:Str) (k0:Int):Tot (uV p i o k0) (VP q/\0<=i/\i<(p.Parts.length:Int)/\p.Parts[i.toNat]?=some q/\b<=1000000000000/\0<=k0/\k0<=4/\(o.l.length:Int)<=b+20000000*k0) (fun φ=>∀ r,r.l.length<=b+80000000->φ r):=⟨by
  rintro ⟨h0,h1,h2,h3,h4,v0,v1,v2⟩ φ hk;exact (zCV p i q b h0 h1 h2 h3 h4 (((q.Body.length:Int) - k0).toNat+1) o k0).ok ⟨by omega,by omega,v0,v1,v2⟩ φ hk⟩
theorem zCX (p:zD) (h0:VG p):∀ (k:Nat) (o:Str) (i:Int),Tot (uW p o i) ((p.Parts.length:Int) - i<(k:Int)/\0<(k:Int)/\0<=i/\i<=4/\(o.l.length:Int)<=5000+100000000*i) (fun φ=>∀ r,r.l.length<=1000000000->φ r):=by
  obtain ⟨⟨h01,h02⟩,h03,h04⟩:=h0;intro k
  induction k with
  | zero=>intro o i; exact ⟨fun h=>absurd h.2.1 (by omega)⟩
  | succ k ih =>
    intro o i; refine ⟨?_⟩; rintro ⟨v0,v1,v2,v3,v4⟩ φ hk; unfold uW;refine Ok.ite_dec (fun h=>Ok.cat (by simp; omega) fun s1 _ g1=>Ok.idx v2 h fun x hx hxi=>?_) fun _=>Ok.go;obtain ⟨g2,g3,g4⟩:=h04 x hx;simp only [cr,cI] at g1;refine Ok.call (zJr x.Nest) g2 fun y hy=>Ok.cat (by omega) fun s2 _ g5=>Ok.call (zCW p i x (o.l.length+2000010) s2 0) ⟨⟨g2,g3,g4⟩,v2,h,hxi,by omega,by omega,by omega,by omega⟩ fun r hr=>?_;exact Ok.go
instance zIt (p:zD) (o:Str) (i:Int):Tot (uW p o i) (VG p/\0<=i/\i<=4/\(o.l.length:Int)<=5000+100000000*i) (fun φ=>∀ r,r.l.length<=1000000000->φ r):=⟨by
  rintro ⟨h0,v0,v1,v2⟩ φ hk
  exact (zCX p h0 (((p.Parts.length:Int) - i).toNat+1) o i).ok ⟨by omega,by omega,v0,v1,v2⟩ φ hk⟩
instance zKR (p:zD):Tot (oW p) (SG 1000 p) (fun φ=>∀ r,r.l.length<=1000000000->φ r):=⟨by
  rintro h0 φ hk
  unfold oW
  refine Ok.call (zBL p) h0 fun b hb=>?_
  refine Ok.ite_not (fun _=>Ok.go) fun hv=>?_
  have hv:=hb hv
  refine Ok.call (zCU p _ 0) ⟨hv,by omega,by omega,by simp⟩ fun o ho=>?_
  exact Ok.go⟩
theorem zE3 {α:Type}{P Q:α->Prop}{l:List α} (h:∀ x∈l,P x) (hm:∀ x,P x->Q x):∀ x∈l,Q x:=fun x hx=>hm x (h x hx)
theorem SN.mono {b:Nat}{l:List zE} (h:SN b l):SN (b+1) l:=⟨by have:=h.1; omega,h.2⟩
theorem SP.mono {b:Nat}{p:zN} (h:SP b p):SP (b+1) p:=⟨h.1.mono,by have:=h.2.1; omega,h.2.2⟩
theorem SRs.mono {b:Nat}{l:List zF} (h:SRs b l):SRs (b+1) l:=⟨by have:=h.1; omega,h.2⟩
theorem SG.mono {b:Nat}{p:zD} (h:SG b p):SG (b+1) p:=⟨h.1.mono,by have:=h.2.1; omega,zE3 h.2.2 fun _=>SP.mono⟩
theorem SG.up {b:Nat}:∀ {c:Nat}{p:zD},SG b p->SG (b+c) p
  | 0,_,h=>h
  | c+1,_,h=>(SG.up (c:=c) h).mono
theorem zE4 {α:Type}{P:α->Prop}{l:List α}{x:α} (h:∀ y∈l,P y) (hx:P x) (k:Nat):∀ y∈l.set k x,P y:=by
  intro y hy;rcases List.mem_or_eq_of_mem_set hy with hy | hy
  · exact h y hy
  · exact hy ▸ hx
theorem zFx {α:Type}{l:List α}{a:α}{b:Nat} (h:l.length<=b):(l++[a]).length<=b+1:=by simp; omega
theorem SG.addA {b:Nat}{p:zD}{a:zF} (h:SG b p) (ha:SR a):SG (b+1) (zD.mk (p.Arrays++[a]) p.Parts) :=
  ⟨⟨zFx h.1.1,zB5 h.1.2 ha⟩,f8 h.2.1,zE3 h.2.2 fun _=>SP.mono⟩
theorem SG.addP {b:Nat}{p:zD}{a:zN} (h:SG b p) (ha:SP (b+1) a):SG (b+1) (zD.mk p.Arrays (p.Parts++[a])) :=
  ⟨h.1.mono,zFx h.2.1,zB5 (zE3 h.2.2 fun _=>SP.mono) ha⟩
theorem SG.setP {b:Nat}{p:zD}{a:zN} (h:SG b p) (ha:SP (b+1) a) (k:Nat):SG (b+1) (zD.mk p.Arrays (p.Parts.set k a)) :=
  ⟨h.1.mono,f8 (cS (Nat.le_of_eq cR) h.2.1),zE4 (zE3 h.2.2 fun _=>SP.mono) ha k⟩
theorem SP.addN {b:Nat}{q:zN}{x:zE} (h:SP b q) (hx:SL1 x):SP (b+1) (zN.mk (q.Nest++[x]) q.Body) :=
  ⟨⟨zFx h.1.1,zB5 h.1.2 hx⟩,f8 h.2.1,h.2.2⟩
theorem SP.addB {b:Nat}{q:zN}{x:zO} (h:SP b q) (hx:SS x):SP (b+1) (zN.mk q.Nest (q.Body++[x])) :=
  ⟨h.1.mono,zFx h.2.1,zB5 h.2.2 hx⟩
theorem SP.nil {b:Nat}:SP b (zN.mk [] []):=⟨⟨ee _,fun _ h=>absurd h df⟩,ee _,fun _ h=>absurd h df⟩
theorem zJs (b:Nat) (p:zD) (s:Str):Tot (gX p s) ((SG b p/\b<=900)/\s.l.length<=1000000) (fun φ=>∀ r,SG (b+1) r->φ r):=⟨by
  rintro ⟨⟨h0,h1⟩,h2⟩ φ hk;obtain ⟨⟨h3,h4⟩,h5,h6⟩:=id h0;unfold gX;refine Ok.call (zE0 s) h2 fun y g1 g2=>?_;have g3:=up g2 h2;refine Ok.bind (φ:=fun _=>True) Ok.go fun t _=>Ok.ite (fun _=>?_) fun _=>Ok.ite_beq (fun _=>?_) fun _=>?_
  · exact Ok.call (zIo y) ⟨by omega,g3⟩ fun a ha=>Ok.app S (Ok.pure (hk _ (h0.addA ha)))
  · exact Ok.app S (Ok.pure (hk _ (h0.addP SP.nil)))
  rw [sL (x:=(p.Parts.length:Int) - 1) (by omega) (by omega)];refine Ok.bind (φ:=fun b=>b=true->1<=p.Parts.length) Ok.go fun t ht=>Ok.ite (fun hz=>?_) fun _=>Ok.ite_dec (fun hz=>?_) fun _=>Ok.pure (hk _ h0.mono)
  · have hz:=ht hz;refine Ok.idx (by omega) (by omega) fun q hq _=>?_;have hq:=h6 q hq;have q1:=hq.1.1;exact Ok.call (zJp s) h2 fun x hx=>Ok.app S (Ok.pure (hk _ (h0.setP (hq.addN hx) _)))
  · refine Ok.idx (by omega) (by omega) fun q hq _=>?_;have hq:=h6 q hq;have q1:=hq.2.1;exact Ok.call (zCy s) h2 fun x c hx=>Ok.app S (Ok.pure (hk _ (h0.setP (hq.addB hx) _)))⟩
theorem zCr (y:List Str) (h0:y.length<=100) (h1:∀ x∈y,x.l.length<=1000000):∀ (k:Nat) (b:Nat) (p:zD) (i:Int),((y.length:Int) - i<(k:Int)/\0<(k:Int)/\0<=i/\(b:Int)<=i/\i<=100)->SG b p->∀ φ:zD->Prop,(∀ r,SG 1000 r->φ r)->Ok (sS y p i) φ:=by
  intro k
  induction k with
  | zero=>intro b p i h; exact absurd h.2.1 (by omega)
  | succ k ih =>
    rintro b p i ⟨v0,v1,v2,v3,v5⟩ v4 φ hk;unfold sS;rw [sL (by omega) (by omega)];refine Ok.ite_dec (fun h=>Ok.idx v2 (by omega) fun x hx _=>?_) fun h=>?_
    · refine Ok.call (zJs b p x) ⟨⟨v4,by omega⟩,h1 x hx⟩ fun r hr=>?_;exact ih (b+1) r _ ⟨by omega,by omega,by omega,by omega,by omega⟩ hr φ hk
    · have:=SG.up (c:=1000 - b) v4;rw [show b+(1000 - b)=1000 by omega] at this;exact Ok.pure (hk _ this)
theorem SG.nil:SG 1000 (zD.mk [] []):=⟨⟨by simp,by simp⟩,by simp,by simp⟩
instance zFQ (s:Str):Tot (nK s) (s.l.length<=1000000) (fun φ=>∀ p b,SG 1000 p->φ (p,b)):=⟨by
  rintro h0 φ hk
  unfold nK
  refine Ok.call (zGk s _) h0 fun y g1 g2=>Ok.ite_dec (fun _=>Ok.pure (hk _ _ SG.nil)) fun hy=>?_
  refine Ok.bind (φ:=fun p=>SG 1000 p) (zCr y (by omega) (up g2 h0) (y.length+2) 0 _ 1 ⟨by omega,by omega,by omega,by omega,by omega⟩ ⟨⟨by simp,by simp⟩,by simp,by simp⟩ _ fun _ h=>h) fun p hp=>?_
  refine Ok.bind (φ:=fun _=>True) Ok.go fun t _=>Ok.ite (fun _=>Ok.pure (hk _ _ SG.nil)) fun _=>Ok.pure (hk _ _ hp)⟩
instance zC9 (v:Int):Tot (nO v) (0<=v/\v<4) (fun φ=>∀ r,r.Coefs.length=4->r.Const=0->φ r):=⟨by
  rintro ⟨h0,h1⟩ φ hk
  unfold nO
  refine Ok.call eN trivial (Ok.idx h0 (by simp; omega) fun x _ _=>Ok.bind_pure (Ok.pure (hk _ (by simp) rfl)))⟩
theorem zFR (a:zA) (x:Int) (b:zA) (y:Int) (h0:a.Coefs.length=4) (h1:b.Coefs.length=4):∀ (k:Nat) (i:Int) (o:List Int),Tot (sY a x b y i o) (4 - i<(k:Int)/\0<(k:Int)/\0<=i/\i<=4/\(o.length:Int)=i) (fun φ=>∀ r,r.length=4->φ r):=by
  intro k
  induction k with
  | zero=>intro i o; exact ⟨fun h=>absurd h.2.1 (by omega)⟩
  | succ k ih =>
    intro i o; refine ⟨?_⟩; rintro ⟨v0,v1,v2,v3,v4⟩ φ hk; unfold sY;exact Ok.go
instance zKn (a:zA) (x:Int) (b:zA) (y:Int) (i:Int) (o:List Int):Tot (sY a x b y i o) (a.Coefs.length=4/\b.Coefs.length=4/\0<=i/\i<=4/\(o.length:Int)=i) (fun φ=>∀ r,r.length=4->φ r):=⟨by
  rintro ⟨h0,h1,v0,v1,v2⟩ φ hk
  exact (zFR a x b y h0 h1 ((4 - i).toNat+1) i o).ok ⟨by omega,by omega,v0,v1,v2⟩ φ hk⟩
instance zH2 (a:zA) (x:Int) (b:zA) (y:Int):Tot (nV a x b y) (a.Coefs.length=4/\b.Coefs.length=4) (fun φ=>∀ r,r.Coefs.length=4->I64 r.Const->φ r):=⟨by
  rintro ⟨h0,h1⟩ φ hk
  unfold nV
  exact Ok.go⟩
theorem LL.one {a:zA} (h:SA a):LL [a]:=⟨cz rfl,fun _ h'=>ck.1 h' ▸ h⟩
theorem LL.two {a b:zA} (h:SA a) (h2:SA b):LL ([a]++[b]):=⟨cz rfl,zB5 (LL.one h).2 h2⟩
theorem SA.c4 {y:Int} (h:I64 y):SA (zA.mk [0,0,0,0] y):=⟨cz rfl,h⟩
instance zNP (r:zK) (aa:Int):Tot (gZ r aa) (0<=r.p/\r.p<=900000000/\0<=aa/\aa<=4) (fun φ=>∀ a s,SL1 a->r.p<=s.p->s.p<=r.p+20->φ (a,s)):=⟨by
  rintro ⟨h0,h1,h2,h3⟩ φ hk
  unfold gZ
  refine Ok.call (wA r _) ⟨by decide,h0,by omega,by decide⟩ fun y1 s1 _ g1 e1=>Ok.call (mR _) trivial ?_
  refine Ok.call (wA s1 _) ⟨by decide,by omega,by omega,by decide⟩ fun y2 s2 _ g2 e2=>Ok.call (mR _) trivial ?_
  have a1:=SA.c4 g1
  have a2:=SA.c4 g2
  refine Ok.bind (φ:=fun o=>r.p<=o.2.p/\o.2.p<=r.p+3) Ok.go ?_
  rintro ⟨t,x⟩ ⟨g3,g4⟩
  dsimp only at g3 g4 ⊢
  refine Ok.bind (φ:=fun o=>SA o.1/\SA o.2.1/\r.p<=o.2.2.p/\o.2.2.p<=r.p+6) (Ok.ite (fun _=>?_) fun _=>Ok.go) ?_
  · refine Ok.call (fH x _) ⟨by omega,by omega⟩ fun y s k1 k2 k3=>Ok.call (fH s _) ⟨by omega,by omega⟩ fun z u k4 k5 k6=>?_
    refine Ok.bind (φ:=fun o=>SA o.1/\SA o.2) (Ok.ite_beq (fun _=>?_) fun _=>?_) ?_
    · exact Ok.call (zC9 y) ⟨k1,by omega⟩ fun b c1 c2=>Ok.pure ⟨⟨by dsimp only; omega,by dsimp only; rw [c2]; decide⟩,a2⟩
    · exact Ok.call (zC9 y) ⟨k1,by omega⟩ fun b c1 c2=>Ok.call (mR _) trivial (Ok.call (zH2 b 1 _ 1) ⟨c1,rfl⟩ fun d c3 c4=>Ok.pure ⟨a1,⟨by dsimp only; omega,c4⟩⟩)
    rintro ⟨b,c⟩ ⟨c1,c2⟩
    exact Ok.pure ⟨c1,c2,by dsimp only at *; omega,by dsimp only at *; omega⟩
  rintro ⟨b,c,u⟩ ⟨b1,b2,b3,b4⟩
  dsimp only at b1 b2 b3 b4 ⊢
  refine Ok.call (fH u _) ⟨by omega,by omega⟩ fun y s k1 k2 k3=>?_
  refine Ok.bind (φ:=fun o=>LL o.1/\LL o.2.1/\r.p<=o.2.2.p/\o.2.2.p<=r.p+20) (Ok.ite_beq (fun _=>?_) fun _=>?_) ?_
  · refine Ok.call (wA s _) ⟨by decide,by omega,by omega,by decide⟩ fun y3 s3 _ g3 e3=>Ok.call (mR _) trivial (Ok.app S (Ok.pure ⟨LL.one b1,LL.two b2 (SA.c4 g3),by dsimp only; omega,by dsimp only; omega⟩))
  · refine Ok.bind (φ:=fun o=>LL o.1/\r.p<=o.2.p/\o.2.p<=r.p+20) (Ok.ite_beq (fun _=>?_) fun _=>Ok.pure ⟨LL.one b1,by dsimp only; omega,by dsimp only; omega⟩) ?_
    · refine Ok.call (wA s _) ⟨by decide,by omega,by omega,by decide⟩ fun y3 s3 _ g3 e3=>Ok.call (mR _) trivial (Ok.app S (Ok.pure ⟨LL.two b1 (SA.c4 g3),by dsimp only; omega,by dsimp only; omega⟩))
    rintro ⟨d,w⟩ ⟨d1,d2,d3⟩
    exact Ok.pure ⟨d1,LL.one b2,d2,d3⟩
  rintro ⟨d,e,w⟩ ⟨d1,d2,d3,d4⟩
  exact Ok.pure (hk _ _ ⟨d1,d2⟩ d3 d4)⟩
theorem zH3 :∀ (k:Nat) (o:List zE) (i:Int) (r:zK),Tot (oC o i r) (i<(k:Int)/\0<(k:Int)/\i<=3/\0<=i/\(o.length:Int)+i<=4/\0<=r.p/\r.p+20*i<=800000100/\(∀ x∈o,SL1 x)) (fun φ=>∀ a s,SN 1000 a->a.length<=4->r.p<=s.p->s.p<=r.p+20*i->φ (a,s)):=by
  intro k
  induction k with
  | zero=>intro o i r; exact ⟨fun h=>absurd h.2.1 (by omega)⟩
  | succ k ih =>
    intro o i r; refine ⟨?_⟩; rintro ⟨v0,v1,v2,v3,v4,v5,v6,v7⟩ φ hk; unfold oC;exact Ok.go
instance zMF  (o:List zE) (i:Int) (r:zK):Tot (oC o i r) (i<=3/\0<=i/\(o.length:Int)+i<=4/\0<=r.p/\r.p+20*i<=800000100/\(∀ x∈o,SL1 x)) (fun φ=>∀ a s,SN 1000 a->a.length<=4->r.p<=s.p->s.p<=r.p+20*i->φ (a,s)):=⟨by
  rintro ⟨v0,v1,v2,v3,v4,v5⟩ φ hk
  exact (zH3 ((i).toNat+1) o i r).ok ⟨by omega,by omega,v0,v1,v2,v3,v4,v5⟩ φ hk⟩
instance zJt (r:zK):Tot (fA r) (0<=r.p/\r.p<=800000000) (fun φ=>∀ a s,SN 1000 a->a.length<=4->r.p<=s.p->s.p<=r.p+100->φ (a,s)):=⟨by
  rintro ⟨h0,h1⟩ φ hk
  unfold fA
  refine Ok.call (wA r _) ⟨by decide,h0,by omega,by decide⟩ fun y s g1 g2 g3=>?_
  simp only [cT,df,or_false] at g1
  exact Ok.go⟩
theorem zH4 (aa:Int) (n:Int) (h0:0<=aa) (h1:aa<=4) (h2:n<=2):∀ (k:Nat) (i:Int) (o:List zA) (r:zK),Tot (oD aa n i o r) (n - i<(k:Int)/\0<(k:Int)/\0<=i/\i<=2/\(o.length:Int)<=i/\0<=r.p/\r.p<=900000000+10*i/\(∀ x∈o,SA x)) (fun φ=>∀ a s,a.length<=100->(∀ x∈a,SA x)->r.p<=s.p->s.p<=r.p+20 - 10*i->φ (a,s)):=by
  intro k
  induction k with
  | zero=>intro i o r; exact ⟨fun h=>absurd h.2.1 (by omega)⟩
  | succ k ih =>
    intro i o r; refine ⟨?_⟩; rintro ⟨v0,v1,v2,v3,v4,v5,v6,v7⟩ φ hk; unfold oD;exact Ok.go
instance zMG (aa:Int) (n:Int) (i:Int) (o:List zA) (r:zK):Tot (oD aa n i o r) (0<=aa/\aa<=4/\n<=2/\0<=i/\i<=2/\(o.length:Int)<=i/\0<=r.p/\r.p<=900000000+10*i/\(∀ x∈o,SA x)) (fun φ=>∀ a s,a.length<=100->(∀ x∈a,SA x)->r.p<=s.p->s.p<=r.p+20 - 10*i->φ (a,s)):=⟨by
  rintro ⟨h0,h1,h2,v0,v1,v2,v3,v4,v5⟩ φ hk
  exact (zH4 aa n h0 h1 h2 ((n - i).toNat+1) i o r).ok ⟨by omega,by omega,v0,v1,v2,v3,v4,v5⟩ φ hk⟩
instance zGr (r:zK) (aa:Int):Tot (mY r aa) (0<=r.p/\r.p<=800000000/\0<=aa/\aa<=4) (fun φ=>∀ a s,SC a->r.p<=s.p->s.p<=r.p+30->φ (a,s)):=⟨by
  rintro ⟨h0,h1,h2,h3⟩ φ hk
  unfold mY
  refine Ok.call (dX r _) ⟨by decide,h0,by omega⟩ fun y s g1 g2=>?_
  have hy:y.l.length<=1:=by
    simp only [cT,df,or_false] at g1
    rcases g1 with rfl | rfl | rfl | rfl <;> decide
  exact Ok.go⟩
theorem zH5 (aa:Int) (h0:0<=aa) (h1:aa<=4):∀ (k:Nat) (i:Int) (o:List Int) (r:zK),Tot (oE aa i o r) (aa - i<(k:Int)/\0<(k:Int)/\0<=i/\i<=4/\o.length=4/\0<=r.p/\r.p<=900000000+i) (fun φ=>∀ a s,a.length=4->r.p<=s.p->s.p<=r.p+4 - i->φ (a,s)):=by
  intro k
  induction k with
  | zero=>intro i o r; exact ⟨fun h=>absurd h.2.1 (by omega)⟩
  | succ k ih =>
    intro i o r; refine ⟨?_⟩; rintro ⟨v0,v1,v2,v3,v4,v5,v6⟩ φ hk; unfold oE;exact Ok.go
instance zMH (aa:Int) (i:Int) (o:List Int) (r:zK):Tot (oE aa i o r) (0<=aa/\aa<=4/\0<=i/\i<=4/\o.length=4/\0<=r.p/\r.p<=900000000+i) (fun φ=>∀ a s,a.length=4->r.p<=s.p->s.p<=r.p+4 - i->φ (a,s)):=⟨by
  rintro ⟨h0,h1,v0,v1,v2,v3,v4⟩ φ hk
  exact (zH5 aa h0 h1 ((aa - i).toNat+1) i o r).ok ⟨by omega,by omega,v0,v1,v2,v3,v4⟩ φ hk⟩
instance zJu (r:zK) (aa:Int):Tot (jR r aa) (0<=r.p/\r.p<=800000000/\0<=aa/\aa<=4) (fun φ=>∀ a s,SA a->a.Coefs.length=4->r.p<=s.p->s.p<=r.p+10->φ (a,s)):=⟨by
  rintro ⟨h0,h1,h2,h3⟩ φ hk
  unfold jR
  exact Ok.go⟩
def PN:Nat->Nat
  | 0=>50
  | n+1=>2*PN n+50
theorem SE.kids {n:Nat}{k:Int}{l:List zG} (h:l.length<=10) (hl:∀ x∈l,SE n x):SE (n+1) (zG.mk k 0 (zA.mk [] 0) (zJ.mk ⟨[]⟩ []) l):=⟨SA.nil0,SC.nil,h,hl⟩
theorem zIu (aa:Int) (hd0:0<=aa) (hd1:aa<=4):∀ (n:Nat) (r:zK) (lv:Int),Tot (pA r aa lv) (lv<=n+1/\0<=lv/\n<=10/\0<=r.p/\r.p+PN n<=800000000) (fun φ=>∀ e s,SE n e->r.p<=s.p->s.p<=r.p+PN n->φ (e,s)):=by
  intro n;have leaf:∀ (m:Nat) (x:zK),Tot (do
      let (y4,y5)<-yX x 4
      if (y4==0) then
        let (y7,y8)<-yN y5 ([1,2,0,99,3]:List Int)
        pure ((zG.mk 1 y7 (zA.mk ([]:List Int) 0) (zJ.mk (⟨[]⟩:Str) ([]:List zA)) ([]:List zG)),y8)
      else
        if (y4==1) then
          let (y10,y11)<-jR y5 aa
          pure ((zG.mk 2 0 y10 (zJ.mk (⟨[]⟩:Str) ([]:List zA)) ([]:List zG)),y11)
        else
          let (y13,y14)<-mY y5 aa
          pure ((zG.mk 3 0 (zA.mk ([]:List Int) 0) y13 ([]:List zG)),y14)) (0<=x.p/\x.p<=799999999) (fun φ=>∀ e s,SE m e->x.p<=s.p->s.p<=x.p+40->φ (e,s)):=by
    intro m x;refine ⟨?_⟩;rintro ⟨h0,h1⟩ φ hk;refine Ok.call (fH x 4) ⟨h0,by omega⟩ fun y s k1 k2 k3=>?_;refine Ok.ite_beq (fun _=>?_) fun _=>Ok.ite_beq (fun _=>?_) fun _=>?_
    · exact Ok.call (wA s _) ⟨by decide,by omega,by omega,by decide⟩ fun y3 s3 _ g3 e3=>Ok.pure (hk _ _ (SE.lf SA.nil0 SC.nil) (by omega) (by omega))
    · exact Ok.call (zJu s aa) ⟨by omega,by omega,hd0,hd1⟩ fun a s3 g3 _ e3 e4=>Ok.pure (hk _ _ (SE.lf g3 SC.nil) (by omega) (by omega))
    · exact Ok.call (zGr s aa) ⟨by omega,by omega,hd0,hd1⟩ fun a s3 g3 e3 e4=>Ok.pure (hk _ _ (SE.lf SA.nil0 g3) (by omega) (by omega))
  induction n with
  | zero =>
    intro r lv; refine ⟨?_⟩; rintro ⟨v0,v1,v2,v3,v4⟩ φ hk; unfold pA; dsimp only [same];have hp:PN 0=50:=rfl;refine Ok.bind_ite (Ok.ite_dec (fun _=>Ok.bind_pure (Ok.ite_tt ?_)) fun h=>absurd h (by omega));exact (leaf 0 r).ok ⟨v3,by omega⟩ φ fun e s g1 g2 g3=>hk e s g1 g2 (by omega)
  | succ n ih =>
    intro r lv; refine ⟨?_⟩; rintro ⟨v0,v1,v2,v3,v4⟩ φ hk; unfold pA; dsimp only [same];have hp:PN (n+1)=2*PN n+50:=rfl;refine Ok.bind (φ:=fun o=>(o.1=false->2<=lv)/\r.p<=o.2.p/\o.2.p<=r.p+1) ?_ ?_
    · refine Ok.ite_dec (fun _=>Ok.pure ⟨fun h=>(by cases h),by dsimp only; omega,by dsimp only; omega⟩) fun h=>Ok.call (fH r 4) ⟨v3,by omega⟩ fun y s k1 k2 k3=>Ok.pure ⟨fun _=>by omega,by dsimp only; omega,by dsimp only; omega⟩
    rintro ⟨t,x⟩ ⟨g1,g2,g3⟩;dsimp only at g1 g2 g3 ⊢;refine Ok.ite (fun _=>?_) fun hz=>?_
    · exact (leaf (n+1) x).ok ⟨by omega,by omega⟩ φ fun e s g1 g2 g3=>hk e s g1 (by omega) (by omega)
    have g1:=g1 (by simpa using hz);refine Ok.call (wA x _) ⟨by decide,by omega,by omega,by decide⟩ fun y3 s3 _ _ e3=>?_;have hl:∀ (k:Nat) (i:Int) (o:List zG) (x1:zK),Tot (oZ aa lv i o x1) ((2 - i<=k/\0<=i/\i<=2/\k<=2/\(o.length:Int)=i/\0<=x1.p/\x1.p+k*PN n<=800000000)/\∀ x∈o,SE n x) (fun φ=>∀ a s,a.length<=10->(∀ x∈a,SE n x)->x1.p<=s.p->s.p<=x1.p+k*PN n->φ (a,s)):=by
      intro k
      induction k with
      | zero=>intro i o x1; refine ⟨?_⟩; rintro ⟨⟨a1,a2,a3,a4,a5,a6,a7⟩,a8⟩ φ hk; unfold oZ; dsimp only [same]; exact Ok.ite_dec (fun h=>absurd h (by omega)) fun _=>Ok.pure (hk _ _ (by omega) a8 (by omega) (by omega))
      | succ k ik =>
        intro i o x1; refine ⟨?_⟩; rintro ⟨⟨a1,a2,a3,a4,a5,a6,a7⟩,a8⟩ φ hk; unfold oZ; dsimp only [same];have e1:((k+1:Nat):Int)*PN n=k*PN n+PN n:=by rw [Int.natCast_add,Int.add_mul]; simp
        rw [e1] at a7 hk;have hkn:0<=(k:Int)*PN n:=Int.mul_nonneg (by omega) (by omega);refine Ok.ite_dec (fun h=>?_) fun _=>Ok.pure (hk _ _ (by omega) a8 (by omega) (by omega));rw [sL (by omega) (by omega)];refine Ok.call (ih x1 _) ⟨by omega,by omega,by omega,by omega,by omega⟩ fun e s g1 g2 g3=>Ok.app S ?_;rw [sL (by omega) (by omega)];exact Ok.last (ik _ _ s) ⟨⟨by omega,by omega,by omega,by omega,by simp; omega,by omega,by omega⟩,zB5 a8 g1⟩ fun a u h1 h2 h3 h4=>hk a u h1 h2 (by omega) (by omega)
    refine Ok.call (hl 2 0 [] s3) ⟨⟨by omega,by omega,by omega,by omega,rfl,by omega,by omega⟩,fun _ h=>absurd h df⟩ fun a u h1 h2 h3 h4=>by
      dsimp only;exact Ok.pure (hk _ u (SE.kids h1 h2) (by omega) (by omega))
instance zIv (r:zK) (aa lv:Int):Tot (pA r aa lv) (0<=r.p/\r.p<=700000000/\0<=aa/\aa<=4/\0<=lv/\lv<=6) (fun φ=>∀ e s,SE 5 e->r.p<=s.p->s.p<=r.p+5000->φ (e,s)):=⟨fun ⟨h0,h1,h2,h3,h4,h5⟩ φ hk=>by
  have hp:PN 5=3150:=rfl
  exact (zIu aa h2 h3 5 r lv).ok ⟨by omega,h4,by omega,h0,by omega⟩ φ fun e s g1 g2 g3=>hk e s g1 g2 (by omega)⟩
instance zJv (r:zK) (aa:Int):Tot (fB r aa) (0<=r.p/\r.p<=600000000/\0<=aa/\aa<=4) (fun φ=>∀ a s,SS a->r.p<=s.p->s.p<=r.p+6000->φ (a,s)):=⟨by
  rintro ⟨h0,h1,h2,h3⟩ φ hk
  unfold fB
  refine Ok.call (zGr r aa) ⟨h0,by omega,h2,h3⟩ fun a s g1 g2 g3=>?_
  refine Ok.call (wA s _) ⟨by decide,by omega,by omega,by decide⟩ fun y3 s3 g4 _ e3=>?_
  simp only [cT,df,or_false] at g4
  refine Ok.call (zIv s3 aa y3) ⟨by omega,by omega,h2,h3,by omega,by omega⟩ fun e u g5 g6 g7=>?_
  have hs:SS (zO.mk a e):=⟨g1,g5⟩
  refine Ok.call (zCx _ aa) hs fun b _=>Ok.ite (fun _=>Ok.pure (hk _ _ hs (by omega) (by omega))) fun _=>Ok.call eN trivial (Ok.pure (hk _ _ ⟨⟨by decide,by decide,fun _ h=>ck.1 h ▸ SA.c4 (by decide)⟩,SE.lf SA.nil0 SC.nil⟩ (by omega) (by omega)))⟩
theorem zGs (z:List Int) (h0:z.length<=4):∀ (k:Nat) (o:List zE) (i:Int),Tot (pC z o i) ((z.length:Int) - i<(k:Int)/\0<(k:Int)/\0<=i/\(o.length:Int)=i/\i<=4/\(∀ x∈o,SL1 x)) (fun φ=>(∀ o,SN 1000 o->φ (.done o))/\(φ (.ret ([],false)))):=by
  intro k
  induction k with
  | zero=>intro o i; exact ⟨fun h=>absurd h.2.1 (by omega)⟩
  | succ k ih =>
    intro o i; refine ⟨?_⟩; rintro ⟨v0,v1,v2,v3,v4,v5⟩ φ ⟨hd,hr⟩; unfold pC;refine Ok.ite_dec (fun h=>?_) fun _=>Ok.go;refine Ok.bind (φ:=fun b=>b=false->∀ x,z[i.toNat]?=some x->0<=x/\x<=99) ?_ ?_
    · refine Ok.idx v2 h fun x _ hx=>Ok.ite_dec (fun _=>Ok.pure fun h=>by cases h) fun g=>Ok.idx_known hx v2 (Ok.pure fun hb y hy=>?_);rw [hx] at hy;cases hy
      have:=of_decide_eq_false hb;omega
    intro b hb;refine Ok.ite (fun _=>Ok.pure hr) fun hz=>Ok.call eN trivial (Ok.idx v2 h fun x _ hx=>Ok.call (mR x) trivial (Ok.app S ?_));obtain ⟨b1,b2⟩:=hb (by simpa using hz) x hx;have hx:SL1 (zE.mk [zA.mk [0,0,0,0] 0] [zA.mk [0,0,0,0] x]):=⟨LL.one (SA.c4 (by decide)),LL.one (SA.c4 ⟨by omega,by omega⟩)⟩;exact Ok.go
instance zL8 (z:List Int) (o:List zE) (i:Int):Tot (pC z o i) (z.length<=4/\0<=i/\(o.length:Int)=i/\i<=4/\(∀ x∈o,SL1 x)) (fun φ=>(∀ o,SN 1000 o->φ (.done o))/\(φ (.ret ([],false)))):=⟨by
  rintro ⟨h0,v0,v1,v2,v3⟩ φ hk
  exact (zGs z h0 (((z.length:Int) - i).toNat+1) o i).ok ⟨by omega,by omega,v0,v1,v2,v3⟩ φ hk⟩
instance zIw (z:List Int):Tot (gJ z) (True) (fun φ=>∀ o b,SN 1000 o->φ (o,b)):=⟨by
  rintro _ φ hk
  unfold gJ
  exact Ok.go⟩
theorem SP.one {y:List zE}{a:zO} (h:SN 1000 y) (ha:SS a):SP 1000 (zN.mk y [a]):=⟨h,cz rfl,fun _ h=>ck.1 h ▸ ha⟩
theorem zH6 (y:List zE) (h0:SN 1000 y) (h1:y.length<=4):∀ (k:Nat) (o:List zO) (n:Int) (r:zK),Tot (oF y o n r) (5 - n<(k:Int)/\0<(k:Int)/\0<=n/\n<=5/\o.length<=100/\(∀ x∈o,SS x)/\0<=r.p/\r.p+6000*(5 - n)<=500000000) (fun φ=>∀ a s,a.length<=o.length+1->(∀ x∈a,SS x)->r.p<=s.p->s.p<=r.p+6000*(5 - n)->φ (a,s)):=by
  intro k
  induction k with
  | zero=>intro o n r; exact ⟨fun h=>absurd h.2.1 (by omega)⟩
  | succ k ih =>
    intro o n r; refine ⟨?_⟩; rintro ⟨v0,v1,v2,v3,v4,v5,v6,v7⟩ φ hk; unfold oF;refine Ok.ite_dec (fun h=>?_) fun _=>Ok.go;refine Ok.call (zJv r _) ⟨by omega,by omega,by omega,by omega⟩ fun a s g1 g2 g3=>Ok.call zB6 trivial fun l hl=>?_;refine Ok.call (zGj l _) ⟨hl,SP.one h0 g1⟩ fun m b _=>?_;dsimp only;exact Ok.go
instance zMI (y:List zE) (o:List zO) (n:Int) (r:zK):Tot (oF y o n r) (SN 1000 y/\y.length<=4/\0<=n/\n<=5/\o.length<=100/\(∀ x∈o,SS x)/\0<=r.p/\r.p+6000*(5 - n)<=500000000) (fun φ=>∀ a s,a.length<=o.length+1->(∀ x∈a,SS x)->r.p<=s.p->s.p<=r.p+6000*(5 - n)->φ (a,s)):=⟨by
  rintro ⟨h0,h1,v0,v1,v2,v3,v4,v5⟩ φ hk
  exact (zH6 y h0 h1 ((5 - n).toNat+1) o n r).ok ⟨by omega,by omega,v0,v1,v2,v3,v4,v5⟩ φ hk⟩
theorem zH7 (y:List zE) (h0:SN 1000 y) (h1:y.length<=4):∀ (k:Nat) (k0:Int) (o:List zO) (r:zK),Tot (oG y k0 o r) (k0<(k:Int)/\0<(k:Int)/\0<=k0/\(o.length:Int)+k0<=10/\(∀ x∈o,SS x)/\0<=r.p/\r.p+30000*k0<=400000000) (fun φ=>∀ a s,a.length<=100->(∀ x∈a,SS x)->r.p<=s.p->s.p<=r.p+30000*k0->φ (a,s)):=by
  intro k
  induction k with
  | zero=>intro k0 o r; exact ⟨fun h=>absurd h.2.1 (by omega)⟩
  | succ k ih =>
    intro k0 o r; refine ⟨?_⟩; rintro ⟨v0,v1,v2,v3,v4,v5,v6⟩ φ hk; unfold oG;exact Ok.go
instance zH8 (y:List zE) (k0:Int) (o:List zO) (r:zK):Tot (oG y k0 o r) (SN 1000 y/\y.length<=4/\0<=k0/\(o.length:Int)+k0<=10/\(∀ x∈o,SS x)/\0<=r.p/\r.p+30000*k0<=400000000) (fun φ=>∀ a s,a.length<=100->(∀ x∈a,SS x)->r.p<=s.p->s.p<=r.p+30000*k0->φ (a,s)):=⟨by
  rintro ⟨h0,h1,v0,v1,v2,v3,v4⟩ φ hk
  exact (zH7 y h0 h1 ((k0).toNat+1) k0 o r).ok ⟨by omega,by omega,v0,v1,v2,v3,v4⟩ φ hk⟩
theorem zH9 (x:zN):∀ (k:Nat) (i:Int) (r:zK),Tot (oH x i r) (4 - i<(k:Int)/\0<(k:Int)/\0<=i/\i<=4/\0<=r.p/\r.p+100000*(4 - i)<=300000000) (fun φ=>(∀ s,r.p<=s.p->s.p<=r.p+100000*(4 - i)->φ (.done (x,s)))/\(∀ a s,SP 1000 a->r.p<=s.p->s.p<=r.p+100000*(4 - i)->φ (.ret (a,s)))):=by
  intro k
  induction k with
  | zero=>intro i r; exact ⟨fun h=>absurd h.2.1 (by omega)⟩
  | succ k ih =>
    intro i r; refine ⟨?_⟩; rintro ⟨v0,v1,v2,v3,v4,v5⟩ φ ⟨hd,hr⟩; unfold oH;refine Ok.ite_dec (fun h=>?_) fun _=>Ok.go;refine Ok.call (zJt r) ⟨v4,by omega⟩ fun y s g1 g2 g3 g4=>?_;refine Ok.call (wA s _) ⟨by decide,by omega,by omega,by decide⟩ fun n t g5 _ e3=>?_;simp only [cT,df,or_false] at g5;refine Ok.call (zH8 y n [] t) ⟨g1,g2,by omega,by simp; omega,fun _ h=>absurd h df,by omega,by omega⟩ fun b u g6 g7 g8 g9=>Ok.call zB6 trivial fun l hl=>?_;have hs:SP 1000 (zN.mk y b):=⟨g1,cS g6 (by decide),g7⟩;refine Ok.call (zGj l _) ⟨hl,hs⟩ fun m c _=>?_;dsimp only;refine Ok.bind (φ:=fun _=>True) Ok.go fun z _=>Ok.ite (fun _=>Ok.pure (hr _ _ hs (by omega) (by omega))) fun _=>?_;rw [sL (by omega) (by omega)];exact Ok.last (ih _ u) ⟨by omega,by omega,by omega,by omega,by omega,by omega⟩ ⟨fun s h1 h2=>hd s (by omega) (by omega),fun a s h0 h1 h2=>hr a s h0 (by omega) (by omega)⟩
instance zHa (x:zN) (i:Int) (r:zK):Tot (oH x i r) (0<=i/\i<=4/\0<=r.p/\r.p+100000*(4 - i)<=300000000) (fun φ=>(∀ s,r.p<=s.p->s.p<=r.p+100000*(4 - i)->φ (.done (x,s)))/\(∀ a s,SP 1000 a->r.p<=s.p->s.p<=r.p+100000*(4 - i)->φ (.ret (a,s)))):=⟨by
  rintro ⟨v0,v1,v2,v3⟩ φ hk
  exact (zH9 x ((4 - i).toNat+1) i r).ok ⟨by omega,by omega,v0,v1,v2,v3⟩ φ hk⟩
instance zNQ (r:zK):Tot (fC r) (0<=r.p/\r.p<=200000000) (fun φ=>∀ a s,SP 1000 a->r.p<=s.p->s.p<=r.p+400000->φ (a,s)):=⟨by
  rintro ⟨h0,h1⟩ φ hk
  unfold fC
  refine Ok.call (zHa _ 0 r) ⟨by decide,by decide,h0,by omega⟩ ⟨fun s g1 g2=>?_,fun a s g1 g2 g3=>Ok.pure (hk _ _ g1 (by omega) (by omega))⟩
  refine Ok.call (zCy _) (by decide) fun a b g3=>Ok.call (zIw _) trivial fun n c g4=>Ok.pure (hk _ _ (SP.one g4 g3) (by omega) (by omega))⟩
theorem zHb :∀ (k:Nat) (i:Int) (o:List zN) (r:zK),Tot (oI i o r) (i<(k:Int)/\0<(k:Int)/\0<=i/\(o.length:Int)+i<=10/\(∀ x∈o,SP 1000 x)/\0<=r.p/\r.p+400000*i<=100000000) (fun φ=>∀ a s,(a.length:Int)=o.length+i->(∀ x∈a,SP 1000 x)->r.p<=s.p->s.p<=r.p+400000*i->φ (a,s)):=by
  intro k
  induction k with
  | zero=>intro i o r; exact ⟨fun h=>absurd h.2.1 (by omega)⟩
  | succ k ih =>
    intro i o r; refine ⟨?_⟩; rintro ⟨v0,v1,v2,v3,v4,v5,v6⟩ φ hk; unfold oI;exact Ok.go
instance zHc  (i:Int) (o:List zN) (r:zK):Tot (oI i o r) (0<=i/\(o.length:Int)+i<=10/\(∀ x∈o,SP 1000 x)/\0<=r.p/\r.p+400000*i<=100000000) (fun φ=>∀ a s,(a.length:Int)=o.length+i->(∀ x∈a,SP 1000 x)->r.p<=s.p->s.p<=r.p+400000*i->φ (a,s)):=⟨by
  rintro ⟨v0,v1,v2,v3,v4⟩ φ hk
  exact (zHb ((i).toNat+1) i o r).ok ⟨by omega,by omega,v0,v1,v2,v3,v4⟩ φ hk⟩
instance zJw (r:zK):Tot (fD r) (0<=r.p/\r.p<=50000000) (fun φ=>∀ a s,SG 1000 a->r.p<=s.p->s.p<=r.p+2000000->φ (a,s)):=⟨by
  rintro ⟨h0,h1⟩ φ hk
  unfold fD
  refine Ok.call zB6 trivial fun l hl=>Ok.call (wA r _) ⟨by decide,h0,by omega,by decide⟩ fun n t g5 _ e3=>?_
  simp only [cT,df,or_false] at g5
  refine Ok.call (zHc n [] t) ⟨by omega,by simp; omega,fun _ h=>absurd h df,by omega,by omega⟩ fun a s g1 g2 g3 g4=>?_
  simp only [cI] at g1
  have hp:SG 1000 (zD.mk l a):=⟨hl,by dsimp only; omega,g2⟩
  refine Ok.call (zBL _) hp fun b _=>Ok.ite (fun _=>Ok.pure (hk _ _ hp (by omega) (by omega))) fun _=>Ok.call zB6 trivial fun l2 hl2=>?_
  refine Ok.slc (by omega) (by omega) (by omega) fun m hm hml=>Ok.pure (hk _ _ ⟨hl2,by dsimp only; omega,fun x hx=>g2 x ?_⟩ (by omega) (by omega))
  subst hm
  exact List.mem_of_mem_take (List.mem_of_mem_drop hx)⟩
instance zJx (r:zK):Tot (fE r) (0<=r.p/\r.p<=40000000) (fun φ=>∀ a s,SG 1000 a->r.p<=s.p->s.p<=r.p+3000000->φ (a,s)):=⟨by
  rintro ⟨h0,h1⟩ φ hk
  unfold fE
  refine Ok.call (dX r _) ⟨by decide,h0,by omega⟩ fun y s g1 g2=>?_
  have hy:y.l.length<=1000:=by
    revert g1 y
    decide
  refine Ok.cat (by simp; omega) fun t _ ht=>?_
  simp only [cr,cI] at ht
  refine Ok.call (zFQ t) (by omega) fun p b hp=>?_
  refine Ok.bind (φ:=fun o=>r.p<=o.2.p/\o.2.p<=r.p+2) ?_ ?_
  · exact Ok.ite (fun _=>Ok.call (fH s 3) ⟨by omega,by omega⟩ fun y u k1 k2 k3=>Ok.pure ⟨by dsimp only; omega,by dsimp only; omega⟩) fun _=>Ok.pure ⟨by dsimp only; omega,by dsimp only; omega⟩
  rintro ⟨z,u⟩ ⟨g3,g4⟩
  dsimp only at g3 g4 ⊢
  refine Ok.ite (fun _=>Ok.pure (hk _ _ hp g3 (by omega))) fun _=>Ok.call (zJw u) ⟨by omega,by omega⟩ fun a v g5 g6 g7=>Ok.pure (hk _ v g5 (by omega) (by omega))⟩
instance zIx (code:List UInt8):Tot (gA code) (True) (fun φ=>∀ s,s.p=0->φ s):=⟨by
  rintro _ φ hk
  unfold gA
  exact Ok.go⟩
end Go.LN
