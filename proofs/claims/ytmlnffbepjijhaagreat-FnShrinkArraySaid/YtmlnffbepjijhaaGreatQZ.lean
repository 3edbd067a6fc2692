/- Helper of the proof (see the last text). -/
import Derived.Test.YtmlnffbepjijhaaGreatQT
import Derived.Test.YtmlnffbepjijhaaGreatHM9
set_option linter.unusedVariables false
set_option linter.unusedSimpArgs false
namespace Go.LN
def I64 (x:Int):Prop:=-9223372036854775808<=x/\x<=9223372036854775807
instance (x:Int):Decidable (I64 x):=inferInstanceAs (Decidable (_/\_))
theorem zLP (x:Int):I64 (W x):=by
  show -9223372036854775808<=IntKind.i64.wrap x/\IntKind.i64.wrap x<=9223372036854775807;rw [IntKind.wrap_i64]; omega
instance (x:Int):Sd (I64 (W x)):=⟨zLP x⟩
theorem I64.of {x:Int} (h0:-9223372036854775808<=x) (h1:x<=9223372036854775807):I64 x:=⟨h0,h1⟩
def SA (a:zA):Prop:=a.Coefs.length<=100/\I64 a.Const
def VA (a:zA):Prop:=a.Coefs.length=4/\(∀ c∈a.Coefs,I64 c)/\I64 a.Const
def SC (a:zG):Prop:=a.Array.l.length<=1000000/\a.Subs.length<=100/\∀ s∈a.Subs,SA s
def VC (a:zG):Prop:=a.Array.l.length<=1/\a.Subs.length<=2/\∀ s∈a.Subs,VA s
def SE:Nat->zH->Prop
  | 0,e=>SA e.Index/\SC e.Read/\e.Kids=[]
  | n+1,e=>SA e.Index/\SC e.Read/\e.Kids.length<=10/\∀ k∈e.Kids,SE n k
def VO (e:zH):Prop:=(e.Kind=1/\I64 e.Num)∨(e.Kind=2/\VA e.Index)∨(e.Kind=3/\VC e.Read)
def VE:Nat->zH->Prop
  | 0,e=>VO e
  | n+1,e=>VO e∨((e.Kind=4∨e.Kind=5∨e.Kind=6)/\e.Kids.length=2/\∀ k∈e.Kids,VE n k)
def SS (s:zJ):Prop:=SC s.Write/\SE 5 s.Value
def VS (s:zJ):Prop:=VC s.Write/\VE 5 s.Value
def LL (l:List zA):Prop:=l.length<=100/\∀ a∈l,SA a
def VL (l:List zA):Prop:=1<=l.length/\l.length<=2/\∀ a∈l,VA a
def SL1 (x:zE):Prop:=LL x.Lo/\LL x.Hi
def VL1 (x:zE):Prop:=VL x.Lo/\VL x.Hi
def SN (b:Nat) (l:List zE):Prop:=l.length<=b/\∀ x∈l,SL1 x
def VN (l:List zE):Prop:=l.length<=4/\∀ x∈l,VL1 x
def SP (b:Nat) (p:zI):Prop:=SN b p.Nest/\p.Body.length<=b/\∀ s∈p.Body,SS s
def VP (p:zI):Prop:=VN p.Nest/\p.Body.length<=4/\∀ s∈p.Body,VS s
def SR (a:zD):Prop:=a.Name.l.length<=1000000/\a.Dims.length<=100
def VR (a:zD):Prop:=a.Name.l.length=1/\a.Dims.length<=2/\∀ d∈a.Dims,I64 d
def SRs (b:Nat) (l:List zD):Prop:=l.length<=b/\∀ a∈l,SR a
def VRs (l:List zD):Prop:=l.length<=4/\∀ a∈l,VR a
def SG (b:Nat) (p:zF):Prop:=SRs b p.Arrays/\p.Parts.length<=b/\∀ q∈p.Parts,SP b q
def VG (p:zF):Prop:=VRs p.Arrays/\p.Parts.length<=4/\∀ q∈p.Parts,VP q
instance (a:zA):Su (SA a) (a.Coefs.length<=100/\I64 a.Const):=⟨id⟩
instance (a:zA):Su (VA a) (a.Coefs.length=4/\(∀ c∈a.Coefs,I64 c)/\I64 a.Const):=⟨id⟩
instance (a:zG):Su (SC a) (a.Array.l.length<=1000000/\a.Subs.length<=100/\∀ s∈a.Subs,SA s):=⟨id⟩
instance (a:zG):Su (VC a) (a.Array.l.length<=1/\a.Subs.length<=2/\∀ s∈a.Subs,VA s):=⟨id⟩
instance (s:zJ):Su (SS s) (SC s.Write/\SE 5 s.Value):=⟨id⟩
instance (s:zJ):Su (VS s) (VC s.Write/\VE 5 s.Value):=⟨id⟩
instance (l:List zA):Su (LL l) (l.length<=100/\∀ a∈l,SA a):=⟨id⟩
instance (l:List zA):Su (VL l) (1<=l.length/\l.length<=2/\∀ a∈l,VA a):=⟨id⟩
instance (x:zE):Su (SL1 x) (LL x.Lo/\LL x.Hi):=⟨id⟩
instance (x:zE):Su (VL1 x) (VL x.Lo/\VL x.Hi):=⟨id⟩
instance (b:Nat) (l:List zE):Su (SN b l) (l.length<=b/\∀ x∈l,SL1 x):=⟨id⟩
instance (l:List zE):Su (VN l) (l.length<=4/\∀ x∈l,VL1 x):=⟨id⟩
instance (b:Nat) (p:zI):Su (SP b p) (SN b p.Nest/\p.Body.length<=b/\∀ s∈p.Body,SS s):=⟨id⟩
instance (p:zI):Su (VP p) (VN p.Nest/\p.Body.length<=4/\∀ s∈p.Body,VS s):=⟨id⟩
instance (a:zD):Su (SR a) (a.Name.l.length<=1000000/\a.Dims.length<=100):=⟨id⟩
instance (a:zD):Su (VR a) (a.Name.l.length=1/\a.Dims.length<=2/\∀ d∈a.Dims,I64 d):=⟨id⟩
instance (b:Nat) (l:List zD):Su (SRs b l) (l.length<=b/\∀ a∈l,SR a):=⟨id⟩
instance (l:List zD):Su (VRs l) (l.length<=4/\∀ a∈l,VR a):=⟨id⟩
instance (b:Nat) (p:zF):Su (SG b p) (SRs b p.Arrays/\p.Parts.length<=b/\∀ q∈p.Parts,SP b q):=⟨id⟩
instance (p:zF):Su (VG p) (VRs p.Arrays/\p.Parts.length<=4/\∀ q∈p.Parts,VP q):=⟨id⟩
instance (x:Int):Su (I64 x) (-9223372036854775808<=x/\x<=9223372036854775807):=⟨id⟩
instance (x:zE):Sw (LL x.Lo) (SL1 x):=⟨And.left⟩
instance (x:zE):Sw (LL x.Hi) (SL1 x):=⟨And.right⟩
instance (s:zJ):Sw (SC s.Write) (SS s):=⟨And.left⟩
instance (s:zJ):Sw (SE 5 s.Value) (SS s):=⟨And.right⟩
theorem SE.parts:∀ {n:Nat}{e:zH},SE n e->SA e.Index/\SC e.Read/\e.Kids.length<=10
  | 0,e,h=>⟨h.1,h.2.1,by rw [h.2.2]; simp⟩
  | n+1,e,h=>⟨h.1,h.2.1,h.2.2.1⟩
theorem SE.succ:∀ {n:Nat}{e:zH},SE n e->SE (n+1) e
  | 0,e,h=>⟨h.1,h.2.1,by rw [h.2.2]; simp,by rw [h.2.2]; simp⟩
  | n+1,e,h=>⟨h.1,h.2.1,h.2.2.1,fun k hk=>(h.2.2.2 k hk).succ⟩
theorem SE.leaf {e:zH} (h1:SA e.Index) (h2:SC e.Read) (h3:e.Kids=[]):∀ {n:Nat},SE n e
  | 0=>⟨h1,h2,h3⟩
  | n+1=>⟨h1,h2,by rw [h3]; simp,by rw [h3]; simp⟩
theorem SA.nil {c:Int} (h:I64 c):SA (zA.mk [] c):=⟨by simp,h⟩
theorem SA.nil0:SA (zA.mk [] 0):=⟨by simp,by simp [I64]⟩
theorem SC.nil:SC (zG.mk ⟨[]⟩ []):=by simp [SC]
instance:Sd (SA (zA.mk [] 0)):=⟨SA.nil0⟩
instance:Sd (SC (zG.mk ⟨[]⟩ [])):=⟨SC.nil⟩
theorem zGx (x:zD) (h0:SR x):∀ (k:Nat) (i:Int),Tot (uR x i) ((x.Dims.length:Int) - i<(k:Int)/\0<(k:Int)/\0<=i) (fun φ=>(AF x.Dims i I64->φ (.done ()))/\(φ (.ret false))):=by
  have h0:=h0.2;intro k
  induction k with
  | zero=>intro i; exact ⟨fun h=>absurd h.2.1 (by omega)⟩
  | succ k ih =>
    intro i; refine ⟨?_⟩; rintro ⟨v0,v1,v2⟩ φ ⟨hd,hr⟩; unfold uR;exact Ok.go
instance zMA (x:zD) (i:Int):Tot (uR x i) (SR x/\0<=i) (fun φ=>(AF x.Dims i I64->φ (.done ()))/\(φ (.ret false))):=⟨by
  rintro ⟨h0,v0⟩ φ hk
  exact (zGx x h0 (((x.Dims.length:Int) - i).toNat+1) i).ok ⟨by omega,by omega,v0⟩ φ hk⟩
theorem zGy (l:List zD) (h0:SRs 1000 l):∀ (k:Nat) (i:Int),Tot (tQ l i) ((l.length:Int) - i<(k:Int)/\0<(k:Int)/\0<=i) (fun φ=>(AF l i VR->φ (.done ()))/\(φ (.ret false))):=by
  obtain ⟨h00,h01⟩:=h0;intro k
  induction k with
  | zero=>intro i; exact ⟨fun h=>absurd h.2.1 (by omega)⟩
  | succ k ih =>
    intro i; refine ⟨?_⟩; rintro ⟨v0,v1,v2⟩ φ ⟨hd,hr⟩; unfold tQ;exact Ok.go
instance zMB (l:List zD) (i:Int):Tot (tQ l i) (SRs 1000 l/\0<=i) (fun φ=>(AF l i VR->φ (.done ()))/\(φ (.ret false))):=⟨by
  rintro ⟨h0,v0⟩ φ hk
  exact (zGy l h0 (((l.length:Int) - i).toNat+1) i).ok ⟨by omega,by omega,v0⟩ φ hk⟩
instance zN4 (l:List zD):Tot (kQ l) (SRs 1000 l) (fun φ=>∀ r,(r=true->VRs l)->φ r):=⟨by
  rintro h0 φ hk
  unfold kQ
  exact Ok.go⟩
instance zLl (a:zA):Tot (rQ a) (SA a) (fun φ=>∀ r,SA r->r.Coefs.length=a.Coefs.length->φ r):=⟨by
  rintro h0 φ hk
  obtain ⟨h00,h01⟩:=h0
  unfold rQ
  exact Ok.go⟩
theorem zEE (a:zG) (h0:SC a):∀ (k:Nat) (i:Int) (Subs:List zA),Tot (vD a i Subs) ((a.Subs.length:Int) - i<(k:Int)/\0<(k:Int)/\0<=i/\(Subs.length:Int)=i/\i<=a.Subs.length/\(∀ s∈Subs,SA s)) (fun φ=>∀ r,r.length<=100->(∀ s∈r,SA s)->φ r):=by
  obtain ⟨h01,h02,h03⟩:=h0;intro k
  induction k with
  | zero=>intro i Subs; exact ⟨fun h=>absurd h.2.1 (by omega)⟩
  | succ k ih =>
    intro i Subs; refine ⟨?_⟩; rintro ⟨v0,v1,v2,v3,v4,v5⟩ φ hk; unfold vD;exact Ok.go
instance zK4 (a:zG) (i:Int) (Subs:List zA):Tot (vD a i Subs) (SC a/\0<=i/\(Subs.length:Int)=i/\i<=a.Subs.length/\(∀ s∈Subs,SA s)) (fun φ=>∀ r,r.length<=100->(∀ s∈r,SA s)->φ r):=⟨by
  rintro ⟨h0,v0,v1,v2,v3⟩ φ hk
  exact (zEE a h0 (((a.Subs.length:Int) - i).toNat+1) i Subs).ok ⟨by omega,by omega,v0,v1,v2,v3⟩ φ hk⟩
instance zLm (a:zG):Tot (tU a) (SC a) (fun φ=>∀ r,SC r->φ r):=⟨by
  rintro h0 φ hk
  have h00:=h0.1
  unfold tU
  exact Ok.go⟩
def RN:Nat->Nat
  | 0=>1
  | n+1=>10*RN n+1
theorem zJi:∀ (n:Nat) (out:List zG) (e:zH),Tot (rH out e) (SE n e/\out.length+RN n<=10000000/\∀ s∈out,SC s) (fun φ=>∀ r,r.length<=out.length+RN n->(∀ s∈r,SC s)->φ r):=by
  intro n
  induction n with
  | zero =>
    intro out e;refine ⟨?_⟩;rintro ⟨⟨h1,h2,h3⟩,ho,hs⟩ φ hk;unfold rH;dsimp only [same];simp only [RN] at ho hk;have hl:∀ o:List zG,Tot (vO e o 0) True (fun φ=>φ o):=by
      intro o;refine ⟨?_⟩;rintro - φ hk;unfold vO;rw [h3];exact Ok.pure hk
    exact Ok.go
  | succ n ih =>
    intro out e;refine ⟨?_⟩;rintro ⟨⟨h1,h2,h3,h4⟩,ho,hs⟩ φ hk;unfold rH;dsimp only [same];simp only [RN] at ho hk;have hl:∀ (k:Nat) (i:Int) (o:List zG),Tot (vO e o i) (((e.Kids.length:Int) - i<=k/\0<=i/\k<=10)/\o.length+k*RN n<=10000000/\∀ s∈o,SC s) (fun φ=>∀ r,r.length<=o.length+k*RN n->(∀ s∈r,SC s)->φ r):=by
      intro k
      induction k with
      | zero =>
        intro i o; refine ⟨?_⟩; rintro ⟨⟨a1,a2,a3⟩,a4,a5⟩ φ hk; unfold vO; dsimp only [same];exact Ok.go
      | succ k ik =>
        intro i o; refine ⟨?_⟩; rintro ⟨⟨a1,a2,a3⟩,a4,a5⟩ φ hk; unfold vO; dsimp only [same];have e1:(k+1)*RN n=k*RN n+RN n:=by rw [Nat.add_mul,Nat.one_mul]
        rw [e1] at a4 hk;exact Ok.go
    have hl:=hl 10 0;exact Ok.go
instance zNx (e:zH):Tot (rH [] e) (SE 5 e) (fun φ=>∀ r,r.length<=111111->(∀ s∈r,SC s)->φ r):=⟨fun h φ hk=>(zJi 5 [] e).ok ⟨h,by decide,S⟩ φ fun r h1 h2=>hk r (by simp [RN] at h1; omega) h2⟩
theorem zIS (a:zD) (h0:SR a):∀ (k:Nat) (n:Int) (i:Int),Tot (rP a n i) ((a.Dims.length:Int) - i<(k:Int)/\0<(k:Int)/\0<=i) (fun φ=>∀ r,φ r):=by
  have h0:=h0.2;intro k
  induction k with
  | zero=>intro n i; exact ⟨fun h=>absurd h.2.1 (by omega)⟩
  | succ k ih =>
    intro n i; refine ⟨?_⟩; rintro ⟨v0,v1,v2⟩ φ hk; unfold rP;exact Ok.go
instance zNH (a:zD) (n:Int) (i:Int):Tot (rP a n i) (SR a/\0<=i) (fun φ=>∀ r,φ r):=⟨by
  rintro ⟨h0,v0⟩ φ hk
  exact (zIS a h0 (((a.Dims.length:Int) - i).toNat+1) n i).ok ⟨by omega,by omega,v0⟩ φ hk⟩
instance zON (a:zD):Tot (gO a) (SR a) (fun φ=>∀ r,φ r):=⟨by
  rintro h0 φ hk
  unfold gO
  exact Ok.go⟩
theorem zIT (a:zA) (point:List Int) (h0:SA a):∀ (k:Nat) (n:Int) (i:Int),Tot (rM a point n i) ((a.Coefs.length:Int) - i<(k:Int)/\0<(k:Int)/\I64 n/\0<=i) (fun φ=>∀ r,I64 r->φ r):=by
  have h0:=h0.1;intro k
  induction k with
  | zero=>intro n i; exact ⟨fun h=>absurd h.2.1 (by omega)⟩
  | succ k ih =>
    intro n i; refine ⟨?_⟩; rintro ⟨v0,v1,v2,v3⟩ φ hk; unfold rM;exact Ok.go
instance zNI (a:zA) (point:List Int) (n:Int) (i:Int):Tot (rM a point n i) (SA a/\I64 n/\0<=i) (fun φ=>∀ r,I64 r->φ r):=⟨by
  rintro ⟨h0,v0,v1⟩ φ hk
  exact (zIT a point h0 (((a.Coefs.length:Int) - i).toNat+1) n i).ok ⟨by omega,by omega,v0,v1⟩ φ hk⟩
instance zOO (a:zA) (point:List Int):Tot (qM a point) (SA a) (fun φ=>∀ r,I64 r->φ r):=⟨by
  rintro h0 φ hk
  have h1:=h0.2
  unfold qM
  exact Ok.go⟩
theorem zIU (list:List zD) (a:zG) (point:List Int) (i:Int) (h0:SC a) (h1:0<=i) (h2:i<(list.length:Int)):∀ (k:Nat) (n:Int) (k0:Int),Tot (sD list a point i n k0) ((a.Subs.length:Int) - k0<(k:Int)/\0<(k:Int)/\0<=k0) (fun φ=>(∀ r,φ (.done r))/\(∀ r,φ (.ret r))):=by
  obtain ⟨h01,h02,h03⟩:=h0;intro k
  induction k with
  | zero=>intro n k0; exact ⟨fun h=>absurd h.2.1 (by omega)⟩
  | succ k ih =>
    intro n k0; refine ⟨?_⟩; rintro ⟨v0,v1,v2⟩ φ ⟨hd,hr⟩; unfold sD;exact Ok.go
instance zNJ (list:List zD) (a:zG) (point:List Int) (i:Int) (n:Int) (k0:Int):Tot (sD list a point i n k0) (SC a/\0<=i/\i<(list.length:Int)/\0<=k0) (fun φ=>(∀ r,φ (.done r))/\(∀ r,φ (.ret r))):=⟨by
  rintro ⟨h0,h1,h2,v0⟩ φ hk
  exact (zIU list a point i h0 h1 h2 (((a.Subs.length:Int) - k0).toNat+1) n k0).ok ⟨by omega,by omega,v0⟩ φ hk⟩
theorem zIV (list:List zD) (a:zG) (point:List Int) (h0:SC a) (h1:SRs 1000 list):∀ (k:Nat) (base:Int) (i:Int),Tot (sE list a point base i) ((list.length:Int) - i<(k:Int)/\0<(k:Int)/\0<=i) (fun φ=>(φ (.done ()))/\(∀ r,φ (.ret r))):=by
  obtain ⟨h10,h11⟩:=h1;intro k
  induction k with
  | zero=>intro base i; exact ⟨fun h=>absurd h.2.1 (by omega)⟩
  | succ k ih =>
    intro base i; refine ⟨?_⟩; rintro ⟨v0,v1,v2⟩ φ ⟨hd,hr⟩; unfold sE;exact Ok.go
instance zNK (list:List zD) (a:zG) (point:List Int) (base:Int) (i:Int):Tot (sE list a point base i) (SC a/\SRs 1000 list/\0<=i) (fun φ=>(φ (.done ()))/\(∀ r,φ (.ret r))):=⟨by
  rintro ⟨h0,h1,v0⟩ φ hk
  exact (zIV list a point h0 h1 (((list.length:Int) - i).toNat+1) base i).ok ⟨by omega,by omega,v0⟩ φ hk⟩
instance zOP (list:List zD) (a:zG) (point:List Int):Tot (jA list a point) (SC a/\SRs 1000 list) (fun φ=>∀ r,φ r):=⟨by
  rintro ⟨h0,h1⟩ φ hk
  unfold jA
  exact Ok.go⟩
theorem zHj (list:List zD) (point:List Int) (y:List zG) (h0:y.length<=111111) (h1:∀ s∈y,SC s) (h2:SRs 1000 list):∀ (k:Nat) (out:List Int) (i:Int),Tot (sR list point y out i) ((y.length:Int) - i<(k:Int)/\0<(k:Int)/\0<=i/\(out.length:Int)=i/\i<=(y.length:Int)) (fun φ=>(∀ o,o.length<=111111->φ (.done o))/\(φ (.ret ([],0,false)))):=by
  intro k
  induction k with
  | zero=>intro out i; exact ⟨fun h=>absurd h.2.1 (by omega)⟩
  | succ k ih =>
    intro out i; refine ⟨?_⟩; rintro ⟨v0,v1,v2,v3,v4⟩ φ ⟨hd,hr⟩; unfold sR;exact Ok.go
instance zMa (list:List zD) (point:List Int) (y:List zG) (out:List Int) (i:Int):Tot (sR list point y out i) (y.length<=111111/\(∀ s∈y,SC s)/\SRs 1000 list/\0<=i/\(out.length:Int)=i/\i<=(y.length:Int)) (fun φ=>(∀ o,o.length<=111111->φ (.done o))/\(φ (.ret ([],0,false)))):=⟨by
  rintro ⟨h0,h1,h2,v0,v1,v2⟩ φ hk
  exact (zHj list point y h0 h1 h2 (((y.length:Int) - i).toNat+1) out i).ok ⟨by omega,by omega,v0,v1,v2⟩ φ hk⟩
instance zNy (list:List zD) (s:zJ) (point:List Int):Tot (jF list s point) (SS s/\SRs 1000 list) (fun φ=>∀ a b c,a.length<=111111->φ (a,b,c)):=⟨by
  rintro ⟨h0,h1⟩ φ hk
  obtain ⟨h00,h01⟩:=h0
  unfold jF
  exact Ok.go⟩
theorem zHk (loop:zE) (p2:List Int) (h0:LL loop.Lo):∀ (k:Nat) (lo:Int) (i:Int),Tot (sP loop p2 lo i) ((loop.Lo.length:Int) - i<(k:Int)/\0<(k:Int)/\I64 lo/\0<=i) (fun φ=>∀ r,I64 r->φ r):=by
  obtain ⟨h00,h01⟩:=h0;intro k
  induction k with
  | zero=>intro lo i; exact ⟨fun h=>absurd h.2.1 (by omega)⟩
  | succ k ih =>
    intro lo i; refine ⟨?_⟩; rintro ⟨v0,v1,v2,v3⟩ φ hk; unfold sP;exact Ok.go
instance zMb (loop:zE) (p2:List Int) (lo:Int) (i:Int):Tot (sP loop p2 lo i) (LL loop.Lo/\I64 lo/\0<=i) (fun φ=>∀ r,I64 r->φ r):=⟨by
  rintro ⟨h0,v0,v1⟩ φ hk
  exact (zHk loop p2 h0 (((loop.Lo.length:Int) - i).toNat+1) lo i).ok ⟨by omega,by omega,v0,v1⟩ φ hk⟩
theorem zHl (loop:zE) (p2:List Int) (h0:LL loop.Hi):∀ (k:Nat) (hi:Int) (i:Int),Tot (sQ loop p2 hi i) ((loop.Hi.length:Int) - i<(k:Int)/\0<(k:Int)/\I64 hi/\0<=i) (fun φ=>∀ r,I64 r->φ r):=by
  obtain ⟨h00,h01⟩:=h0;intro k
  induction k with
  | zero=>intro hi i; exact ⟨fun h=>absurd h.2.1 (by omega)⟩
  | succ k ih =>
    intro hi i; refine ⟨?_⟩; rintro ⟨v0,v1,v2,v3⟩ φ hk; unfold sQ;exact Ok.go
instance zMc (loop:zE) (p2:List Int) (hi:Int) (i:Int):Tot (sQ loop p2 hi i) (LL loop.Hi/\I64 hi/\0<=i) (fun φ=>∀ r,I64 r->φ r):=⟨by
  rintro ⟨h0,v0,v1⟩ φ hk
  exact (zHl loop p2 h0 (((loop.Hi.length:Int) - i).toNat+1) hi i).ok ⟨by omega,by omega,v0,v1⟩ φ hk⟩
instance zG6 (loop:zE) (p2:List Int):Tot (mZ loop p2) (SL1 loop/\1<=loop.Lo.length/\1<=loop.Hi.length) (fun φ=>∀ a b,I64 a->I64 b->φ (a,b)):=⟨by
  rintro ⟨h0,h1,h2⟩ φ hk
  have h00:=h0; obtain ⟨⟨h01,h02⟩,⟨h03,h04⟩⟩:=h0
  unfold mZ
  exact Ok.go⟩
instance zN5 (n:Int) (most:Int):Tot (tA n most) (0<=most/\most<=1000000) (fun φ=>∀ r,(r=true->I64 n)->φ r):=⟨by
  rintro ⟨h0,h1⟩ φ hk
  unfold tA
  exact Ok.go⟩
theorem zEo (a:zA) (h0:SA a):∀ (k:Nat) (i:Int),Tot (vQ a i) ((a.Coefs.length:Int) - i<(k:Int)/\0<(k:Int)/\0<=i) (fun φ=>(AF a.Coefs i I64->φ (.done ()))/\(φ (.ret false))):=by
  have h01:=h0.1;intro k
  induction k with
  | zero=>intro i; exact ⟨fun h=>absurd h.2.1 (by omega)⟩
  | succ k ih =>
    intro i; refine ⟨?_⟩; rintro ⟨v0,v1,v2⟩ φ ⟨hd,hr⟩; unfold vQ;exact Ok.go
instance zKj (a:zA) (i:Int):Tot (vQ a i) (SA a/\0<=i) (fun φ=>(AF a.Coefs i I64->φ (.done ()))/\(φ (.ret false))):=⟨by
  rintro ⟨h0,v0⟩ φ hk
  exact (zEo a h0 (((a.Coefs.length:Int) - i).toNat+1) i).ok ⟨by omega,by omega,v0⟩ φ hk⟩
instance zGz (a:zA):Tot (tO a) (SA a) (fun φ=>∀ r,(r=true->VA a)->φ r):=⟨by
  rintro h0 φ hk
  have h00:=h0.2
  unfold tO
  exact Ok.go⟩
theorem zHm (a:zA) (h0:SA a):∀ (k:Nat) (n:Int) (i:Int),Tot (sO a n i) ((a.Coefs.length:Int) - i<(k:Int)/\0<(k:Int)/\0<=i) (fun φ=>∀ r,φ r):=by
  have h01:=h0.1;intro k
  induction k with
  | zero=>intro n i; exact ⟨fun h=>absurd h.2.1 (by omega)⟩
  | succ k ih =>
    intro n i; refine ⟨?_⟩; rintro ⟨v0,v1,v2⟩ φ hk; unfold sO;exact Ok.go
instance zMd (a:zA) (n:Int) (i:Int):Tot (sO a n i) (SA a/\0<=i) (fun φ=>∀ r,φ r):=⟨by
  rintro ⟨h0,v0⟩ φ hk
  exact (zHm a h0 (((a.Coefs.length:Int) - i).toNat+1) n i).ok ⟨by omega,by omega,v0⟩ φ hk⟩
instance zNz (a:zA):Tot (oT a) (SA a) (fun φ=>∀ r,φ r):=⟨by
  rintro h0 φ hk
  unfold oT
  exact Ok.go⟩
theorem zIW (list:List zA) (depth:Int) (h0:LL list):∀ (k:Nat) (i:Int),Tot (rO list depth i) ((list.length:Int) - i<(k:Int)/\0<(k:Int)/\0<=i) (fun φ=>(AF list i VA->φ (.done ()))/\(φ (.ret false))):=by
  obtain ⟨h01,h02⟩:=h0;intro k
  induction k with
  | zero=>intro i; exact ⟨fun h=>absurd h.2.1 (by omega)⟩
  | succ k ih =>
    intro i; refine ⟨?_⟩; rintro ⟨v0,v1,v2⟩ φ ⟨hd,hr⟩; unfold rO;exact Ok.go
instance zNL (list:List zA) (depth:Int) (i:Int):Tot (rO list depth i) (LL list/\0<=i) (fun φ=>(AF list i VA->φ (.done ()))/\(φ (.ret false))):=⟨by
  rintro ⟨h0,v0⟩ φ hk
  exact (zIW list depth h0 (((list.length:Int) - i).toNat+1) i).ok ⟨by omega,by omega,v0⟩ φ hk⟩
instance zOQ (list:List zA) (depth:Int):Tot (kZ list depth) (LL list) (fun φ=>∀ r,(r=true->VL list)->φ r):=⟨by
  rintro h0 φ hk
  unfold kZ
  exact Ok.go⟩
theorem zGX (nest:List zE) (h0:SN 1000 nest):∀ (k:Nat) (i:Int),Tot (uD nest i) ((nest.length:Int) - i<(k:Int)/\0<(k:Int)/\0<=i) (fun φ=>(((nest.length:Int)<=4->AF nest i VL1)->φ (.done ()))/\(φ (.ret false))):=by
  obtain ⟨h00,h01⟩:=h0;intro k
  induction k with
  | zero=>intro i; exact ⟨fun h=>absurd h.2.1 (by omega)⟩
  | succ k ih =>
    intro i; refine ⟨?_⟩; rintro ⟨v0,v1,v2⟩ φ ⟨hd,hr⟩; unfold uD;exact Ok.go
instance zLn (nest:List zE) (i:Int):Tot (uD nest i) (SN 1000 nest/\0<=i) (fun φ=>(((nest.length:Int)<=4->AF nest i VL1)->φ (.done ()))/\(φ (.ret false))):=⟨by
  rintro ⟨h0,v0⟩ φ hk
  exact (zGX nest h0 (((nest.length:Int) - i).toNat+1) i).ok ⟨by omega,by omega,v0⟩ φ hk⟩
instance zNM (nest:List zE):Tot (mI nest) (SN 1000 nest) (fun φ=>∀ r,(r=true->VN nest)->φ r):=⟨by
  rintro h0 φ hk
  unfold mI
  exact Ok.go⟩
theorem VN.get {nest:List zE}{x:zE} (h:VN nest) (hx:x∈nest):1<=x.Lo.length/\1<=x.Hi.length:=⟨(h.2 x hx).1.1,(h.2 x hx).2.1⟩
theorem zJG (nest:List zE) (hn:SN 1000 nest) (hv:VN nest):∀ (d:Nat) (o:List (List Int)) (p2:List Int),Tot (tB o nest p2) (p2.length+d=nest.length/\o.length<=120/\(∀ q∈o,q.length<=4)) (fun φ=>∀ r,r.length<=121->(∀ q∈r,q.length<=4)->φ r):=by
  obtain ⟨hn1,hn2⟩:=hn;have hv1:=hv.1;intro d
  induction d with
  | zero =>
    intro o p2;refine ⟨?_⟩;rintro ⟨hp,ho,hq⟩ φ hk;unfold tB;dsimp only [same];exact Ok.ite_beq (fun h=>Ok.go) fun h=>absurd h (by omega)
  | succ d ih =>
    intro o p2;refine ⟨?_⟩;rintro ⟨hp,ho,hq⟩ φ hk;unfold tB;dsimp only [same];have hloop:∀ (y2:Int) (k:Nat) (v:Int) (o:List (List Int)),Tot (rA nest p2 y2 o v) ((y2 - v<=k/\I64 v/\I64 y2/\o.length<=121)/\(∀ q∈o,q.length<=4)) (fun φ=>∀ r,r.length<=121->(∀ q∈r,q.length<=4)->φ r):=by
      intro y2 k
      induction k with
      | zero=>intro v o; refine ⟨?_⟩; rintro ⟨⟨a1,⟨a2,a5⟩,⟨a6,a7⟩,a3⟩,a4⟩ φ hk; unfold rA; dsimp only [same]; exact Ok.go
      | succ k ik =>
        intro v o; refine ⟨?_⟩; rintro ⟨⟨a1,⟨a2,a5⟩,⟨a6,a7⟩,a3⟩,a4⟩ φ hk; unfold rA; dsimp only [same]; exact Ok.go
    refine Ok.ite_beq (fun h=>absurd h (by omega)) fun h=>Ok.idx (by omega) (by omega) fun x hx _=>?_;obtain ⟨g1,g2⟩:=VN.get hv hx;refine Ok.call (zG6 x p2) ⟨hn2 x hx,g1,g2⟩ ?_;intro a b ha hb;have hloop:=hloop b (b - a).toNat;exact Ok.go
instance zN6 (nest:List zE):Tot (tB [] nest []) (SN 1000 nest/\VN nest) (fun φ=>∀ r,r.length<=121->(∀ q∈r,q.length<=4)->φ r):=⟨fun ⟨h,hv⟩ φ hk=>(zJG nest h hv nest.length [] []).ok ⟨by simp,by simp,by simp⟩ φ hk⟩
theorem zKk (nest:List zE) (hn:SN 1000 nest) (hv:VN nest):∀ (d:Nat) (p2:List Int) (most:Int),Tot (qN nest p2 most) (p2.length+d=nest.length) (fun φ=>∀ r,φ r):=by
  obtain ⟨hn1,hn2⟩:=hn;have hv1:=hv.1;intro d
  induction d with
  | zero =>
    intro p2 most;refine ⟨?_⟩;rintro hp φ hk;unfold qN;dsimp only [same];exact Ok.ite_beq (fun h=>Ok.go) fun h=>absurd h (by omega)
  | succ d ih =>
    intro p2 most;refine ⟨?_⟩;rintro hp φ hk;unfold qN;dsimp only [same];have hloop:∀ (y2:Int) (k:Nat) (n v:Int),Tot (qS nest p2 most y2 n v) (y2 - v<=k/\I64 v/\I64 y2) (fun φ=>∀ r,φ r):=by
      intro y2 k
      induction k with
      | zero=>intro n v; refine ⟨?_⟩; rintro ⟨a1,⟨a2,a5⟩,⟨a6,a7⟩⟩ φ hk; unfold qS; dsimp only [same]; exact Ok.go
      | succ k ik =>
        intro n v; refine ⟨?_⟩; rintro ⟨a1,⟨a2,a5⟩,⟨a6,a7⟩⟩ φ hk; unfold qS; dsimp only [same]; exact Ok.go
    refine Ok.ite_beq (fun h=>absurd h (by omega)) fun h=>Ok.idx (by omega) (by omega) fun x hx _=>?_;obtain ⟨g1,g2⟩:=VN.get hv hx;refine Ok.call (zG6 x p2) ⟨hn2 x hx,g1,g2⟩ ?_;intro a b ha hb;have hloop:=hloop b (b - a).toNat;exact Ok.go
instance zOR (nest:List zE) (most:Int):Tot (qN nest [] most) (SN 1000 nest/\VN nest) (fun φ=>∀ r,φ r):=⟨fun ⟨h,hv⟩ φ hk=>(zKk nest h hv nest.length [] most).ok (by simp) φ hk⟩
instance zMe (nest:List zE):Tot (oW nest) (SN 1000 nest) (fun φ=>∀ a b,a.length<=120->(∀ q∈a,q.length<=4)->(b=true->VN nest)->φ (a,b)):=⟨by
  rintro h0 φ hk
  unfold oW
  exact Ok.go⟩
theorem zHA (a:zG) (depth:Int) (h0:SC a):∀ (k:Nat) (i:Int),Tot (tP a depth i) ((a.Subs.length:Int) - i<(k:Int)/\0<(k:Int)/\0<=i) (fun φ=>(AF a.Subs i VA->φ (.done ()))/\(φ (.ret false))):=by
  obtain ⟨h01,h02,h03⟩:=h0;intro k
  induction k with
  | zero=>intro i; exact ⟨fun h=>absurd h.2.1 (by omega)⟩
  | succ k ih =>
    intro i; refine ⟨?_⟩; rintro ⟨v0,v1,v2⟩ φ ⟨hd,hr⟩; unfold tP;exact Ok.go
instance zMC (a:zG) (depth:Int) (i:Int):Tot (tP a depth i) (SC a/\0<=i) (fun φ=>(AF a.Subs i VA->φ (.done ()))/\(φ (.ret false))):=⟨by
  rintro ⟨h0,v0⟩ φ hk
  exact (zHA a depth h0 (((a.Subs.length:Int) - i).toNat+1) i).ok ⟨by omega,by omega,v0⟩ φ hk⟩
instance zN7 (a:zG) (depth:Int):Tot (nP a depth) (SC a) (fun φ=>∀ r,(r=true->VC a)->φ r):=⟨by
  rintro h0 φ hk
  unfold nP
  exact Ok.go⟩
instance zHn (kind:Int):Tot (gN kind) (True) (fun φ=>∀ r,(r=0/\(kind=1∨kind=2∨kind=3))∨(r=2/\(kind=4∨kind=5∨kind=6))∨r=-1->φ r):=⟨by
  rintro _ φ hk
  unfold gN
  exact Ok.go⟩
instance zOA (a:zG):Tot (oU a) (True) (fun φ=>∀ r:Bool,φ r):=⟨by
  rintro _ φ hk
  unfold oU
  exact Ok.go⟩
instance zOS (a:zA):Tot (mW a) (True) (fun φ=>∀ r:Bool,φ r):=⟨by
  rintro _ φ hk
  unfold mW
  exact Ok.go⟩
instance zIq (e:zH) (depth:Int):Tot (fS e depth) (SA e.Index/\SC e.Read) (fun φ=>∀ r,(r=true->e.Kind=1->I64 e.Num)->(r=true->e.Kind=2->VA e.Index)->(r=true->e.Kind=3->VC e.Read)->φ r):=⟨by
  rintro ⟨h0,h1⟩ φ hk
  unfold fS
  exact Ok.go⟩
theorem zJj:∀ (n:Nat) (e:zH) (depth levels:Int),Tot (rG e depth levels) (SE n e/\levels<=100) (fun φ=>∀ r,(r=true->VE n e)->φ r):=by
  intro n
  induction n with
  | zero =>
    intro e depth levels;refine ⟨?_⟩;rintro ⟨⟨h1,h2,h3⟩,hlv⟩ φ hk;have hl:∀ lv,Tot (tF e depth lv 0) True (fun φ=>φ (.done ())):=by
      intro lv;refine ⟨?_⟩;rintro - φ hk;unfold tF;rw [h3];exact Ok.pure hk
    have hlen:e.Kids.length=0:=by rw [h3]; rfl
    unfold rG;dsimp only [same];refine Ok.bind (φ:=fun b=>b=false->VO e) ?_ ?_
    · refine Ok.ite_dec (fun h=>Ok.pure fun h=>by cases h) fun h=>Ok.call (zHn _) trivial ?_;intro r hr;refine Ok.ite_bne (fun h=>Ok.pure fun h=>by cases h) fun h=>Ok.call (zIq e depth) ⟨h1,h2⟩ ?_;intro b b1 b2 b3;refine Ok.pure fun hb=>?_;have hb:b=true:=by simpa using hb
      have:e.Kind=1∨e.Kind=2∨e.Kind=3:=by omega
      rcases this with h | h | h
      · exact .inl ⟨h,b1 hb h⟩
      · exact .inr (.inl ⟨h,b2 hb h⟩)
      · exact .inr (.inr ⟨h,b3 hb h⟩)
    · intro b hb;refine Ok.ite (fun _=>Ok.pure (hk _ fun h=>by cases h)) fun hz=>?_;have hz:VO e:=hb (by simpa using hz);exact Ok.go
  | succ n ih =>
    intro e depth levels;refine ⟨?_⟩;rintro ⟨⟨h1,h2,h3,h4⟩,hlv⟩ φ hk;unfold rG;dsimp only [same];refine Ok.bind (φ:=fun b=>b=false->1<=levels/\(VO e∨((e.Kind=4∨e.Kind=5∨e.Kind=6)/\e.Kids.length=2))) ?_ ?_
    · refine Ok.ite_dec (fun h=>Ok.pure fun h=>by cases h) fun h=>Ok.call (zHn _) trivial ?_;intro r hr;refine Ok.ite_bne (fun h=>Ok.pure fun h=>by cases h) fun h=>Ok.call (zIq e depth) ⟨h1,h2⟩ ?_;intro b b1 b2 b3;refine Ok.pure fun hb=>⟨by omega,?_⟩;have hb:b=true:=by simpa using hb
      have:e.Kind=1∨e.Kind=2∨e.Kind=3∨((e.Kind=4∨e.Kind=5∨e.Kind=6)/\e.Kids.length=2):=by omega
      rcases this with h | h | h | h
      · exact .inl (.inl ⟨h,b1 hb h⟩)
      · exact .inl (.inr (.inl ⟨h,b2 hb h⟩))
      · exact .inl (.inr (.inr ⟨h,b3 hb h⟩))
      · exact .inr h
    · intro b hb;refine Ok.ite (fun _=>Ok.pure (hk _ fun h=>by cases h)) fun hz=>?_;obtain ⟨g1,g2⟩:=hb (by simpa using hz);have hl:∀ (k:Nat) (i:Int),Tot (tF e depth levels i) ((e.Kids.length:Int) - i<=k/\0<=i) (fun φ=>(AF e.Kids i (VE n)->φ (.done ()))/\φ (.ret false)):=by
        intro k
        induction k with
        | zero=>intro i; refine ⟨?_⟩; rintro ⟨a1,a2⟩ φ ⟨hd,hr⟩; unfold tF; dsimp only [same]; exact Ok.go
        | succ k ik =>
          intro i; refine ⟨?_⟩; rintro ⟨a1,a2⟩ φ ⟨hd,hr⟩; unfold tF; dsimp only [same]; exact Ok.go
      refine Ok.call (hl _ 0) ⟨Int.le_of_eq (Int.sub_zero _),by omega⟩ ⟨fun hA=>Ok.pure (hk _ fun _=>?_),Ok.pure (hk _ fun h=>by cases h)⟩;exact g2.elim .inl fun g=>.inr ⟨g.1,g.2,AF.all hA⟩
instance zN8 (e:zH) (depth levels:Int):Tot (rG e depth levels) (SE 5 e/\levels<=100) (fun φ=>∀ r,(r=true->VE 5 e)->φ r):=zJj 5 e depth levels
theorem zJk:∀ (n:Nat) (e:zH) (levels:Int),Tot (qF e levels) (SE n e/\levels<=100) (fun φ=>∀ r,φ r):=by
  intro n
  induction n with
  | zero =>
    intro e levels;refine ⟨?_⟩;rintro ⟨⟨h1,h2,h3⟩,hlv⟩ φ hk;unfold qF;dsimp only [same];unfold tG;have hlen:e.Kids.length=0:=by rw [h3]; rfl
    rw [hlen];exact Ok.go
  | succ n ih =>
    intro e levels;refine ⟨?_⟩;rintro ⟨⟨h1,h2,h3,h4⟩,hlv⟩ φ hk;unfold qF;dsimp only [same];have hl:∀ (k:Nat) (m i:Int),Tot (tG e levels m i) ((e.Kids.length:Int) - i<=k/\0<=i) (fun φ=>∀ r,φ r):=by
      intro k
      induction k with
      | zero=>intro m i; refine ⟨?_⟩; rintro ⟨a1,a2⟩ φ hk; unfold tG; dsimp only [same]; exact Ok.go
      | succ k ik=>intro m i; refine ⟨?_⟩; rintro ⟨a1,a2⟩ φ hk; unfold tG; dsimp only [same]; exact Ok.go
    have hl:=hl e.Kids.length;exact Ok.go
instance zN9 (e:zH) (levels:Int):Tot (qF e levels) (SE 5 e/\levels<=100) (fun φ=>∀ r,φ r):=zJk 5 e levels
instance zEM (s:zJ) (depth:Int):Tot (qR s depth) (SS s) (fun φ=>∀ r,(r=true->VS s)->φ r):=⟨by
  rintro h0 φ hk
  unfold qR
  exact Ok.go⟩
theorem zHo (p:List Int) (h0:p.length<=4):∀ (k:Nat) (i:Int),Tot (sS p i) ((p.length:Int) - i<(k:Int)/\0<(k:Int)/\0<=i) (fun φ=>(φ (.done ()))/\(φ (.ret false))):=by
  intro k
  induction k with
  | zero=>intro i; exact ⟨fun h=>absurd h.2.1 (by omega)⟩
  | succ k ih =>
    intro i; refine ⟨?_⟩; rintro ⟨v0,v1,v2⟩ φ ⟨hd,hr⟩; unfold sS;exact Ok.go
instance zMf (p:List Int) (i:Int):Tot (sS p i) (p.length<=4/\0<=i) (fun φ=>(φ (.done ()))/\(φ (.ret false))):=⟨by
  rintro ⟨h0,v0⟩ φ hk
  exact (zHo p h0 (((p.length:Int) - i).toNat+1) i).ok ⟨by omega,by omega,v0⟩ φ hk⟩
instance zOB (p:List Int):Tot (jG p) (p.length<=4) (fun φ=>∀ r:Bool,φ r):=⟨by
  rintro h0 φ hk
  unfold jG
  exact Ok.go⟩
theorem zIX (list:List zD) (part:zI) (y1:List (List Int)) (i:Int) (h0:SRs 1000 list) (h1:SP 1000 part) (h2:y1.length<=121) (h3:∀ q∈y1,q.length<=4) (h4:0<=i) (h5:i<(part.Body.length:Int)):∀ (k:Nat) (k0:Int),Tot (sF list part y1 i k0) ((y1.length:Int) - k0<(k:Int)/\0<(k:Int)/\0<=k0) (fun φ=>(φ (.done ()))/\(φ (.ret (0,false)))):=by
  obtain ⟨h11,h12,h13⟩:=h1;intro k
  induction k with
  | zero=>intro k0; exact ⟨fun h=>absurd h.2.1 (by omega)⟩
  | succ k ih =>
    intro k0; refine ⟨?_⟩; rintro ⟨v0,v1,v2⟩ φ ⟨hd,hr⟩; unfold sF;exact Ok.go
instance zNN (list:List zD) (part:zI) (y1:List (List Int)) (i:Int) (k0:Int):Tot (sF list part y1 i k0) (SRs 1000 list/\SP 1000 part/\y1.length<=121/\(∀ q∈y1,q.length<=4)/\0<=i/\i<(part.Body.length:Int)/\0<=k0) (fun φ=>(φ (.done ()))/\(φ (.ret (0,false)))):=⟨by
  rintro ⟨h0,h1,h2,h3,h4,h5,v0⟩ φ hk
  exact (zIX list part y1 i h0 h1 h2 h3 h4 h5 (((y1.length:Int) - k0).toNat+1) k0).ok ⟨by omega,by omega,v0⟩ φ hk⟩
theorem zIY (list:List zD) (part:zI) (y1:List (List Int)) (h0:SRs 1000 list) (h1:SP 1000 part) (h2:y1.length<=121) (h3:∀ q∈y1,q.length<=4):∀ (k:Nat) (i:Int),Tot (sG list part y1 i) ((part.Body.length:Int) - i<(k:Int)/\0<(k:Int)/\0<=i) (fun φ=>(AF part.Body i VS->φ (.done ()))/\(φ (.ret (0,false)))):=by
  have h10:=h1; obtain ⟨h11,h12,h13⟩:=h1;intro k
  induction k with
  | zero=>intro i; exact ⟨fun h=>absurd h.2.1 (by omega)⟩
  | succ k ih =>
    intro i; refine ⟨?_⟩; rintro ⟨v0,v1,v2⟩ φ ⟨hd,hr⟩; unfold sG;exact Ok.go
instance zNO (list:List zD) (part:zI) (y1:List (List Int)) (i:Int):Tot (sG list part y1 i) (SRs 1000 list/\SP 1000 part/\y1.length<=121/\(∀ q∈y1,q.length<=4)/\0<=i) (fun φ=>(AF part.Body i VS->φ (.done ()))/\(φ (.ret (0,false)))):=⟨by
  rintro ⟨h0,h1,h2,h3,v0⟩ φ hk
  exact (zIY list part y1 h0 h1 h2 h3 (((part.Body.length:Int) - i).toNat+1) i).ok ⟨by omega,by omega,v0⟩ φ hk⟩
instance zHp (list:List zD) (part:zI):Tot (mX list part) (SRs 1000 list/\SP 1000 part) (fun φ=>∀ n b,(b=true->VP part)->φ (n,b)):=⟨by
  rintro ⟨h0,h1⟩ φ hk
  obtain ⟨h11,h12,h13⟩:=id h1
  unfold mX
  exact Ok.go⟩
theorem zEF (p:zF) (h0:SG 1000 p):∀ (k:Nat) (total:Int) (i:Int),Tot (vE p total i) ((p.Parts.length:Int) - i<(k:Int)/\0<(k:Int)/\0<=i) (fun φ=>(∀ n,AF p.Parts i VP->φ (.done n))/\(φ (.ret false))):=by
  obtain ⟨h01,h02,h03⟩:=h0;intro k
  induction k with
  | zero=>intro total i; exact ⟨fun h=>absurd h.2.1 (by omega)⟩
  | succ k ih =>
    intro total i; refine ⟨?_⟩; rintro ⟨v0,v1,v2⟩ φ ⟨hd,hr⟩; unfold vE;exact Ok.go
instance zK5 (p:zF) (total:Int) (i:Int):Tot (vE p total i) (SG 1000 p/\0<=i) (fun φ=>(∀ n,AF p.Parts i VP->φ (.done n))/\(φ (.ret false))):=⟨by
  rintro ⟨h0,v0⟩ φ hk
  exact (zEF p h0 (((p.Parts.length:Int) - i).toNat+1) total i).ok ⟨by omega,by omega,v0⟩ φ hk⟩
instance zCV (p:zF):Tot (tV p) (SG 1000 p) (fun φ=>∀ r,(r=true->VG p)->φ r):=⟨by
  rintro h0 φ hk
  obtain ⟨h01,h02,h03⟩:=id h0
  unfold tV
  exact Ok.go⟩
def InI (p:zF) (x:zN):Prop:=(0<=x.Part/\x.Part<(p.Parts.length:Int))/\∀ q,p.Parts[x.Part.toNat]?=some q->0<=x.Stmt/\x.Stmt<(q.Body.length:Int)
theorem InI.mk {p:zF}{x:zN}{q:zI} (h0:0<=x.Part) (h1:x.Part<(p.Parts.length:Int)) (hq:p.Parts[x.Part.toNat]?=some q) (h2:0<=x.Stmt) (h3:x.Stmt<(q.Body.length:Int)):InI p x :=
  ⟨⟨h0,h1⟩,fun q' h=>by rw [hq] at h; cases h; exact ⟨h2,h3⟩⟩
theorem zEp (p:zF) (i:Int) (y:List (List Int)) (k0:Int) (q:zI) (b:Nat) (h0:VP q) (h1:0<=i) (h2:i<(p.Parts.length:Int)) (h3:p.Parts[i.toNat]?=some q) (h4:y.length<=121) (h5:∀ q∈y,q.length<=4) (h6:0<=k0) (h7:k0<(y.length:Int)):∀ (k:Nat) (out:List zN) (s:Int),Tot (vX p i y k0 out s) ((q.Body.length:Int) - s<(k:Int)/\0<(k:Int)/\0<=s/\s<=(q.Body.length:Int)/\(out.length:Int)<=b+s/\b<=100000/\(∀ x∈out,InI p x)) (fun φ=>∀ r,r.length<=b+4->(∀ x∈r,InI p x)->φ r):=by
  obtain ⟨h01,h02,h03⟩:=h0;intro k
  induction k with
  | zero=>intro out s; exact ⟨fun h=>absurd h.2.1 (by omega)⟩
  | succ k ih =>
    intro out s; refine ⟨?_⟩; rintro ⟨v0,v1,v2,v3,v4,v5,v6⟩ φ hk; unfold vX;refine Ok.idx_known h3 h1 ?_;refine Ok.ite_dec (fun hs=>?_) fun hs=>?_
    · refine Ok.idx (by omega) (by omega) fun x hx _=>?_;have hx4:=h5 x hx;refine Ok.app S ?_;refine Ok.app (by simp only [List.length_append,List.length_cons,List.length_nil]; omega) ?_;have hI:InI p (zN.mk i s ([]++x)):=InI.mk h1 h2 h3 v2 (by omega);have hW:W (s+1)=s+1:=rF (by omega) (by omega);rw [hW];exact Ok.go
    · exact Ok.go
theorem zEq (p:zF) (i:Int) (y:List (List Int)) (k0:Int) (q:zI) (b:Nat) (out:List zN) (s:Int):Tot (vX p i y k0 out s) (VP q/\0<=i/\i<(p.Parts.length:Int)/\p.Parts[i.toNat]?=some q/\y.length<=121/\(∀ q∈y,q.length<=4)/\0<=k0/\k0<(y.length:Int)/\0<=s/\s<=(q.Body.length:Int)/\(out.length:Int)<=b+s/\b<=100000/\(∀ x∈out,InI p x)) (fun φ=>∀ r,r.length<=b+4->(∀ x∈r,InI p x)->φ r):=⟨by
  rintro ⟨h0,h1,h2,h3,h4,h5,h6,h7,v0,v1,v2,v3,v4⟩ φ hk;exact (zEp p i y k0 q b h0 h1 h2 h3 h4 h5 h6 h7 (((q.Body.length:Int) - s).toNat+1) out s).ok ⟨by omega,by omega,v0,v1,v2,v3,v4⟩ φ hk⟩
theorem zEr (p:zF) (i:Int) (y:List (List Int)) (q:zI) (b:Nat) (h0:VP q) (h1:0<=i) (h2:i<(p.Parts.length:Int)) (h3:p.Parts[i.toNat]?=some q) (h4:y.length<=121) (h5:∀ q∈y,q.length<=4):∀ (k:Nat) (out:List zN) (k0:Int),Tot (vZ p i y out k0) ((y.length:Int) - k0<(k:Int)/\0<(k:Int)/\0<=k0/\k0<=(y.length:Int)/\(out.length:Int)<=b+4*k0/\b<=10000/\(∀ x∈out,InI p x)) (fun φ=>∀ r,r.length<=b+484->(∀ x∈r,InI p x)->φ r):=by
  intro k
  induction k with
  | zero=>intro out k0; exact ⟨fun h=>absurd h.2.1 (by omega)⟩
  | succ k ih =>
    intro out k0; refine ⟨?_⟩; rintro ⟨v0,v1,v2,v3,v4,v5,v6⟩ φ hk; unfold vZ;have tl:=fun o kk=>zEq p i y kk q o.length o 0;exact Ok.go
theorem zEs (p:zF) (i:Int) (y:List (List Int)) (q:zI) (b:Nat) (out:List zN) (k0:Int):Tot (vZ p i y out k0) (VP q/\0<=i/\i<(p.Parts.length:Int)/\p.Parts[i.toNat]?=some q/\y.length<=121/\(∀ q∈y,q.length<=4)/\0<=k0/\k0<=(y.length:Int)/\(out.length:Int)<=b+4*k0/\b<=10000/\(∀ x∈out,InI p x)) (fun φ=>∀ r,r.length<=b+484->(∀ x∈r,InI p x)->φ r):=⟨by
  rintro ⟨h0,h1,h2,h3,h4,h5,v0,v1,v2,v3,v4⟩ φ hk;exact (zEr p i y q b h0 h1 h2 h3 h4 h5 (((y.length:Int) - k0).toNat+1) out k0).ok ⟨by omega,by omega,v0,v1,v2,v3,v4⟩ φ hk⟩
theorem zEt (p:zF) (h0:SG 1000 p) (h1:VG p):∀ (k:Nat) (out:List zN) (i:Int),Tot (uA p out i) ((p.Parts.length:Int) - i<(k:Int)/\0<(k:Int)/\0<=i/\i<=(p.Parts.length:Int)/\(out.length:Int)<=484*i/\(∀ x∈out,InI p x)) (fun φ=>∀ r,r.length<=2000->(∀ x∈r,InI p x)->φ r):=by
  obtain ⟨⟨h00,h01⟩,h02,h03⟩:=id h0; obtain ⟨h10,h11,h12⟩:=id h1;intro k
  induction k with
  | zero=>intro out i; exact ⟨fun h=>absurd h.2.1 (by omega)⟩
  | succ k ih =>
    intro out i; refine ⟨?_⟩; rintro ⟨v0,v1,v2,v3,v4,v5⟩ φ hk; unfold uA;refine Ok.ite_dec (fun hs=>?_) fun hs=>?_
    · refine Ok.idx (by omega) (by omega) fun q hq hqi=>?_;have tl:=fun y o=>zEs p i y q o.length o 0;have s1:=(h03 q hq).1;obtain ⟨s2,s3,s4⟩:=h12 q hq;have s5:VP q:=⟨s2,s3,s4⟩;exact Ok.go
    · exact Ok.go
instance zKl (p:zF) (out:List zN) (i:Int):Tot (uA p out i) (SG 1000 p/\VG p/\0<=i/\i<=(p.Parts.length:Int)/\(out.length:Int)<=484*i/\(∀ x∈out,InI p x)) (fun φ=>∀ r,r.length<=2000->(∀ x∈r,InI p x)->φ r):=⟨by
  rintro ⟨h0,h1,v0,v1,v2,v3⟩ φ hk
  exact (zEt p h0 h1 (((p.Parts.length:Int) - i).toNat+1) out i).ok ⟨by omega,by omega,v0,v1,v2,v3⟩ φ hk⟩
instance zMD (p:zF):Tot (oE p) (SG 1000 p/\VG p) (fun φ=>∀ r,r.length<=2000->(∀ x∈r,InI p x)->φ r):=⟨by
  rintro ⟨h0,h1⟩ φ hk
  unfold oE
  exact Ok.go⟩
theorem zFh {a n:Int} (ha:0<=a) (hn:0<n):0<=a.tmod n/\a.tmod n<n:=by
  rw [Int.tmod_eq_emod_of_nonneg ha];exact ⟨Int.emod_nonneg _ (by omega),Int.emod_lt_of_pos _ hn⟩
theorem zNa {a b:Int} (ha:0<=a) (ha':a<4611686018427387904) (hb:0<=b) (hb':b<4611686018427387904) :
    0<=W (((BitVec.ofInt IntKind.i64.bits a ^^^ BitVec.ofInt IntKind.i64.bits b).toNat:Nat):Int):=by
  have e:(BitVec.ofInt IntKind.i64.bits a ^^^ BitVec.ofInt IntKind.i64.bits b).toNat<4611686018427387904:=by
    rw [BitVec.toNat_xor]
    have h1:(BitVec.ofInt IntKind.i64.bits a).toNat=a.toNat:=by
      rw [BitVec.toNat_ofInt]; show (a % ((2 ^ 64:Nat):Int)).toNat=_; omega
    have h2:(BitVec.ofInt IntKind.i64.bits b).toNat=b.toNat:=by
      rw [BitVec.toNat_ofInt]; show (b % ((2 ^ 64:Nat):Int)).toNat=_; omega
    rw [h1,h2]
    exact Nat.xor_lt_two_pow (n:=62) (by omega) (by omega)
  rw [rF (by omega) (by omega)]; omega
instance dO (r:zP) (n:Int):Tot (xF r n) (0<=r.p/\r.p<=1000000000) (fun φ=>∀ y s,0<=y->(y<n∨y=0)->s.p=r.p+1->φ (y,s)):=⟨by
  rintro ⟨h0,h1⟩ φ hk
  unfold xF
  rw [rF (x:=r.p+1) (by omega) (by omega),rF (x:=r.p+1 - 1) (by omega) (by omega)]
  refine Ok.bind_ite (Ok.ite_dec (fun _=>Ok.bind_pure (Ok.ite_tt (Ok.pure (hk _ _ S S rfl)))) fun hn=>Ok.bind_pure (Ok.ite_beq (fun _=>Ok.pure (hk _ _ S S rfl)) fun hb=>?_))
  refine Ok.ite_dec (fun hp=>Ok.idx (by omega) (by omega) fun x _ _=>?_) fun hp=>?_
  · refine Ok.rem (by omega) (Ok.pure ?_)
    have hx:=x.toNat_lt
    have:=zFh (a:=(x.toNat:Int)) (n:=n) (by omega) (by omega)
    rw [rF (by omega) (by omega)]
    exact hk _ _ this.1 (.inl this.2) rfl
  · refine Ok.rem (by omega) ?_
    have hp:=zFh (a:=r.p+1 - 1) (n:=(r.b.length:Int)) (by omega) (by omega)
    refine Ok.idx hp.1 hp.2 fun x1 _ _=>?_
    rw [rF (x:=(r.p+1 - 1)*7) (by omega) (by omega),rF (x:=(r.p+1 - 1)*7+3) (by omega) (by omega)]
    refine Ok.rem (by omega) ?_
    have hq:=zFh (a:=(r.p+1 - 1)*7+3) (n:=(r.b.length:Int)) (by omega) (by omega)
    refine Ok.idx hq.1 hq.2 fun x2 _ _=>?_
    refine Ok.quo (by omega) ?_
    have hd:0<=(r.p+1 - 1).tdiv (r.b.length:Int)/\(r.p+1 - 1).tdiv (r.b.length:Int)<=1000000000:=by
      rw [Int.tdiv_eq_ediv_of_nonneg (by omega)]
      exact ⟨Int.ediv_nonneg (by omega) (by omega),Int.le_trans (Int.ediv_le_self _ (by omega)) (by omega)⟩
    have e1:=x1.toNat_lt
    have e2:=x2.toNat_lt
    generalize (r.p+1 - 1).tdiv (r.b.length:Int)=q3 at hd ⊢
    simp (disch:=omega) only [rF]
    refine Ok.rem (by omega) ?_
    generalize hX:(x1.toNat:Int)*131+(x2.toNat:Int)*1117+(r.p+1 - 1)*29+q3*53=X
    have hX0:0<=X:=by omega
    have hX1:X<4611686018427387904:=by omega
    have hT:0<=X.tdiv 64/\X.tdiv 64<4611686018427387904:=by rw [Int.tdiv_eq_ediv_of_nonneg hX0]; omega
    rw [rF (x:=X.tdiv 64) (by omega) (by omega)]
    have hw:=zFh (zNa hX0 hX1 hT.1 hT.2) (n:=n) (by omega)
    exact Ok.pure (hk _ _ hw.1 (.inl hw.2) rfl)⟩
instance dV (r:zP) (l:List Str):Tot (qK r l) (0<l.length/\0<=r.p/\r.p<=1000000000) (fun φ=>∀ y s,y∈l->s.p=r.p+1->φ (y,s)):=⟨by
  rintro ⟨h0,h1,h2⟩ φ hk
  unfold qK
  exact Ok.go⟩
instance tT (r:zP) (l:List Int):Tot (xG r l) (0<l.length/\0<=r.p/\r.p<=1000000000/\(∀ x∈l,I64 x)) (fun φ=>∀ y s,y∈l->I64 y->s.p=r.p+1->φ (y,s)):=⟨by
  rintro ⟨h0,h1,h2,h3⟩ φ hk
  unfold xG
  exact Ok.go⟩
theorem zIZ (s:Str) (c:UInt8) (h0:s.l.length<=1000000):∀ (k:Nat) (out:List Str) (f:Int) (i:Int),Tot (mD s c out f i) ((s.l.length:Int)+1 - i<(k:Int)/\0<(k:Int)/\0<=f/\f<=i/\i<=(s.l.length:Int)+1/\(out.length:Int)<=i/\(∀ x∈out,x.l.length<=s.l.length)) (fun φ=>∀ r,r.length<=s.l.length+1->(∀ x∈r,x.l.length<=s.l.length)->φ r):=by
  intro k
  induction k with
  | zero=>intro out f i; exact ⟨fun h=>absurd h.2.1 (by omega)⟩
  | succ k ih =>
    intro out f i; refine ⟨?_⟩; rintro ⟨v0,v1,v2,v3,v4,v5,v6⟩ φ hk; unfold mD;exact Ok.go
instance zNP (s:Str) (c:UInt8) (out:List Str) (f:Int) (i:Int):Tot (mD s c out f i) (s.l.length<=1000000/\0<=f/\f<=i/\i<=(s.l.length:Int)+1/\(out.length:Int)<=i/\(∀ x∈out,x.l.length<=s.l.length)) (fun φ=>∀ r,r.length<=s.l.length+1->(∀ x∈r,x.l.length<=s.l.length)->φ r):=⟨by
  rintro ⟨h0,v0,v1,v2,v3,v4⟩ φ hk
  exact (zIZ s c h0 (((s.l.length:Int)+1 - i).toNat+1) out f i).ok ⟨by omega,by omega,v0,v1,v2,v3,v4⟩ φ hk⟩
instance zHq (s:Str) (c:UInt8):Tot (gK s c) (s.l.length<=1000000) (fun φ=>∀ r,r.length<=s.l.length+1->(∀ x∈r,x.l.length<=s.l.length)->φ r):=⟨by
  rintro h0 φ hk
  unfold gK
  exact Ok.go⟩
theorem zHB (y:List Str) (b:Nat) (h0:y.length<=1000001) (h1:∀ x∈y,x.l.length<=b):∀ (k:Nat) (out:List Str) (i:Int),Tot (pY y out i) ((y.length:Int) - i<(k:Int)/\0<(k:Int)/\0<=i/\i<=(y.length:Int)/\(out.length:Int)<=i/\(∀ x∈out,x.l.length<=b)) (fun φ=>∀ r,r.length<=y.length->(∀ x∈r,x.l.length<=b)->φ r):=by
  intro k
  induction k with
  | zero=>intro out i; exact ⟨fun h=>absurd h.2.1 (by omega)⟩
  | succ k ih =>
    intro out i; refine ⟨?_⟩; rintro ⟨v0,v1,v2,v3,v4,v5⟩ φ hk; unfold pY;exact Ok.go
theorem zHC (y:List Str) (b:Nat) (out:List Str) (i:Int):Tot (pY y out i) (y.length<=1000001/\(∀ x∈y,x.l.length<=b)/\0<=i/\i<=(y.length:Int)/\(out.length:Int)<=i/\(∀ x∈out,x.l.length<=b)) (fun φ=>∀ r,r.length<=y.length->(∀ x∈r,x.l.length<=b)->φ r):=⟨by
  rintro ⟨h0,h1,v0,v1,v2,v3⟩ φ hk;exact (zHB y b h0 h1 (((y.length:Int) - i).toNat+1) out i).ok ⟨by omega,by omega,v0,v1,v2,v3⟩ φ hk⟩
instance zFi (s:Str):Tot (jQ s) (s.l.length<=1000000) (fun φ=>∀ r,r.length<=s.l.length+1->(∀ x∈r,x.l.length<=s.l.length)->φ r):=⟨by
  rintro h0 φ hk
  unfold jQ
  have tl:=fun y=>zHC y s.l.length
  exact Ok.go⟩
theorem zI0 (s:Str) (h0:s.l.length<=1000000):∀ (k:Nat) (n:Int) (i:Int),Tot (mE s n i) ((s.l.length:Int) - i<(k:Int)/\0<(k:Int)/\I64 n/\0<=i) (fun φ=>(∀ n,I64 n->φ (.done n))/\(φ (.ret (0,false)))):=by
  intro k
  induction k with
  | zero=>intro n i; exact ⟨fun h=>absurd h.2.1 (by omega)⟩
  | succ k ih =>
    intro n i; refine ⟨?_⟩; rintro ⟨v0,v1,v2,v3⟩ φ ⟨hd,hr⟩; unfold mE;exact Ok.go
instance zNQ (s:Str) (n:Int) (i:Int):Tot (mE s n i) (s.l.length<=1000000/\I64 n/\0<=i) (fun φ=>(∀ n,I64 n->φ (.done n))/\(φ (.ret (0,false)))):=⟨by
  rintro ⟨h0,v0,v1⟩ φ hk
  exact (zI0 s h0 (((s.l.length:Int) - i).toNat+1) n i).ok ⟨by omega,by omega,v0,v1⟩ φ hk⟩
instance zOT (s:Str):Tot (eG s) (s.l.length<=1000000) (fun φ=>∀ n b,I64 n->φ (n,b)):=⟨by
  rintro h0 φ hk
  unfold eG
  exact Ok.go⟩
theorem zHr (w:List Str) (b:Nat) (h0:w.length<=1000001) (h1:∀ x∈w,x.l.length<=b) (h2:b<=1000000):∀ (k:Nat) (i:Int) (Name:Str) (Dims:List Int),Tot (pH w i Name Dims) (5 - i<(k:Int)/\0<(k:Int)/\1<=i/\Name.l.length<=b/\(Dims.length:Int)<=i/\i<=5) (fun φ=>∀ a d,a.l.length<=b->d.length<=6->φ (a,d)):=by
  intro k
  induction k with
  | zero=>intro i Name Dims; exact ⟨fun h=>absurd h.2.1 (by omega)⟩
  | succ k ih =>
    intro i Name Dims; refine ⟨?_⟩; rintro ⟨v0,v1,v2,v3,v4,v5⟩ φ hk; unfold pH;have h3:∀ x∈w,x.l.length<=1000000:=fun x hx=>Nat.le_trans (h1 x hx) h2;exact Ok.go
theorem zHs (w:List Str) (b:Nat) (i:Int) (Name:Str) (Dims:List Int):Tot (pH w i Name Dims) (w.length<=1000001/\(∀ x∈w,x.l.length<=b)/\b<=1000000/\1<=i/\Name.l.length<=b/\(Dims.length:Int)<=i/\i<=5) (fun φ=>∀ a d,a.l.length<=b->d.length<=6->φ (a,d)):=⟨by
  rintro ⟨h0,h1,h2,v0,v1,v2,v3⟩ φ hk;exact (zHr w b h0 h1 h2 ((5 - i).toNat+1) i Name Dims).ok ⟨by omega,by omega,v0,v1,v2,v3⟩ φ hk⟩
instance zJl (w:List Str):Tot (eX w) (w.length<=1000001/\(∀ x∈w,x.l.length<=1000000)) (fun φ=>∀ r,SR r->φ r):=⟨by
  rintro ⟨h0,h1⟩ φ hk
  unfold eX
  have tl:=zHs w 1000000
  exact Ok.go⟩
instance zA7:Tot mV True (fun φ=>φ (zA.mk [0,0,0,0] 0)):=⟨fun _ _ h=>Ok.pure h⟩
instance zCm:Tot gQ True (fun φ=>∀ r,SRs 1000 r->φ r):=⟨fun _ φ h=>Ok.pure (h _ ⟨by decide,by simp [SR]⟩)⟩
instance gH (n:Int):Tot (uC n) True (fun φ=>φ (zA.mk [0,0,0,0] n)):=⟨fun _ _ h=>by unfold uC; exact Ok.call zA7 trivial (Ok.pure h)⟩
theorem zHD (s:Str) (a:Int) (h0:s.l.length<=1000000) (h1:0<=a) (h2:a<=(s.l.length:Int)):∀ (k:Nat) (e:Int),Tot (pZ s a e) ((s.l.length:Int) - e<(k:Int)/\0<(k:Int)/\a<=e/\e<=a+2/\e<=(s.l.length:Int)) (fun φ=>∀ r,a<=r->r<=a+2->r<=(s.l.length:Int)->φ r):=by
  intro k
  induction k with
  | zero=>intro e; exact ⟨fun h=>absurd h.2.1 (by omega)⟩
  | succ k ih =>
    intro e; refine ⟨?_⟩; rintro ⟨v0,v1,v2,v3,v4⟩ φ hk; unfold pZ;exact Ok.go
instance zME (s:Str) (a:Int) (e:Int):Tot (pZ s a e) (s.l.length<=1000000/\0<=a/\a<=(s.l.length:Int)/\a<=e/\e<=a+2/\e<=(s.l.length:Int)) (fun φ=>∀ r,a<=r->r<=a+2->r<=(s.l.length:Int)->φ r):=⟨by
  rintro ⟨h0,h1,h2,v0,v1,v2⟩ φ hk
  exact (zHD s a h0 h1 h2 (((s.l.length:Int) - e).toNat+1) e).ok ⟨by omega,by omega,v0,v1,v2⟩ φ hk⟩
instance zFj (s:Str) (a:Int):Tot (jR s a) (s.l.length<=1000000/\0<=a/\a<=(s.l.length:Int)) (fun φ=>∀ n e,I64 n->a<=e->e<=(s.l.length:Int)->φ (n,e)):=⟨by
  rintro ⟨h0,h1,h2⟩ φ hk
  unfold jR
  exact Ok.go⟩
instance zKm (s:Str) (a:Int):Tot (dY s a) (s.l.length<=1000000/\0<=a) (fun φ=>∀ r,-1<=r->r<=3->(0<=r->a<(s.l.length:Int))->φ r):=⟨by
  rintro ⟨h0,h1⟩ φ hk
  unfold dY
  exact Ok.go⟩
theorem VA.set {l:List Int}{c:Int} (h:l.length=4) (hl:∀ x∈l,I64 x) (hc:I64 c) (i:Nat) (x:Int):VA (zA.mk (([]++l).set i (W x)) c):=by
  refine ⟨by simp [h],?_,hc⟩;intro y hy;rcases List.mem_or_eq_of_mem_set hy with hy | hy
  · exact hl y hy
  · exact hy ▸ zLP x
theorem VA.con {l:List Int} (h:l.length=4) (hl:∀ x∈l,I64 x) (x:Int):VA (zA.mk ([]++l) (W x)):=⟨h,hl,zLP x⟩
instance zJm (a:zA) (s:Str) (n:Int):Tot (eY a s n) (VA a/\s.l.length<=1000000/\0<=n/\n<(s.l.length:Int)) (fun φ=>∀ r e,VA r->(e=-1∨n<e)->e<=(s.l.length:Int)->φ (r,e)):=⟨by
  rintro ⟨h0,h1,h2,h3⟩ φ hk
  have hv:=h0; obtain ⟨h00,h01,h02⟩:=h0; have t1:=VA.set h00 h01 h02; have t2:=VA.con h00 h01
  unfold eY
  refine Ok.sidx h2 h3 fun b2 _ _=>?_
  refine Ok.bind (φ:=fun _=>True) Ok.go fun sign _=>?_
  refine Ok.bind (φ:=fun _=>True) Ok.go fun t27 _=>?_
  refine Ok.bind (φ:=fun m=>n<=m/\m<=n+1) Ok.go fun m hm=>?_
  refine Ok.call (zFj s m) ⟨h1,by omega,by omega⟩ fun y1 y2 g1 g2 g3=>?_
  refine Ok.bind (φ:=fun b=>b=true->y2<(s.l.length:Int)) Ok.go fun t51 h51=>?_
  refine Ok.bind (φ:=fun x=>y2<=x/\x<=(s.l.length:Int)) ?_ fun star hs=>?_
  · refine Ok.ite (fun h=>?_) fun h=>Ok.go
    have h51:=h51 h
    exact Ok.go
  refine Ok.call (zKm s star) ⟨h1,by omega⟩ fun y3 g4 g5 g6=>?_
  refine Ok.app S ?_
  refine Ok.bind (φ:=fun b=>b=true->0<=y3) Ok.go fun t75 h75=>?_
  refine Ok.ite (fun h=>?_) fun h=>?_
  · have h75:=h75 h
    have g6:=g6 h75
    have h4:(([]:List Int)++a.Coefs).length=4:=h00
    refine Ok.idx h75 (by omega) fun x _ hx=>Ok.idx_known hx h75 (Ok.bind_pure (Ok.pure ?_))
    rw [rF (x:=star+1) (by omega) (by omega)]
    exact hk _ _ (t1 _ _) (.inr (by omega)) (by omega)
  · refine Ok.ite_beq (fun h=>Ok.pure (hk _ _ hv (.inl rfl) (by omega))) fun h=>Ok.pure (hk _ _ (t2 _) (.inr (by omega)) g3)⟩
theorem zI1:∀ (k:Nat) (n:Int) (o:Str),Tot (mF n o) ((0<=n/\n<=9223372036854775807/\n<(2:Int) ^ k)/\o.l.length+k<=1000) (fun φ=>∀ a r,0<=a->a<=9->r.l.length<=o.l.length+k->φ (a,r)):=by
  intro k
  induction k with
  | zero=>intro n o; refine ⟨?_⟩; rintro ⟨⟨a1,a4,a2⟩,a3⟩ φ hk; unfold mF; rw [Int.pow_zero] at a2; exact Ok.go
  | succ k ih =>
    intro n o; refine ⟨?_⟩; rintro ⟨⟨a1,a4,a2⟩,a3⟩ φ hk; unfold mF;refine Ok.ite_dec (fun h=>?_) fun h=>Ok.go;refine Ok.cat (by simp; omega) fun s hs hl=>?_;have ht:0<=n.tdiv 10/\n.tdiv 10<(2:Int) ^ k/\n.tdiv 10<=n:=by
      rw [Int.tdiv_eq_ediv_of_nonneg a1];rw [Int.pow_succ] at a2;omega
    rw [rF (by omega) (by omega)];simp only [List.length_cons,List.length_nil] at hl;refine Ok.last (ih _ _) ⟨⟨ht.1,by omega,ht.2.1⟩,by omega⟩ fun a r g1 g2 g3=>hk a r g1 g2 (by omega)
theorem zHt (n:Int):Tot (pQ n) (0<=n/\n<=9223372036854775807) (fun φ=>∀ r,r.l.length<=64->1<=r.l.length->φ r):=⟨by
  rintro ⟨h0,h1⟩ φ hk;unfold pQ;refine Ok.ite_dec (fun h=>absurd h (by omega)) fun _=>Ok.ite_dec (fun h=>absurd h (by omega)) fun _=>?_;refine Ok.call (zI1 63 n ⟨[]⟩) ⟨⟨h0,h1,by omega⟩,by decide⟩ fun a r g1 g2 g3=>?_;simp only [List.length_nil] at g3;refine Ok.cat (by simp; omega) fun s hs hl=>Ok.pure ?_;simp only [List.length_cons,List.length_nil] at hl;exact hk _ (by dsimp only [id]; omega) (by dsimp only [id]; omega)⟩
instance zOU (n:Int):Tot (pQ n) (I64 n) (fun φ=>∀ r,r.l.length<=70->1<=r.l.length->φ r):=⟨by
  rintro ⟨h0,h1⟩ φ hk
  by_cases hn:0<=n
  · exact (zHt n).ok ⟨hn,h1⟩ φ fun r g1 g2=>hk r (by omega) g2
  unfold pQ
  refine Ok.ite_dec (fun h=>Ok.pure (hk _ (by decide) (by decide))) fun _=>Ok.ite_dec (fun h=>?_) fun h=>absurd h (by omega)
  rw [rF (by omega) (by omega)]
  refine Ok.call (zHt _) ⟨by omega,by omega⟩ fun r g1 g2=>?_
  refine Ok.cat (by simp; omega) fun s hs hl=>Ok.pure ?_
  simp only [List.length_cons,List.length_nil] at hl
  exact hk _ (by dsimp only [id]; omega) (by dsimp only [id]; omega)⟩
instance zOV (n:Int) (name:Str):Tot (eH n name) (I64 n/\name.l.length<=10) (fun φ=>∀ r,r.l.length<=100->1<=r.l.length->φ r):=⟨by
  rintro ⟨h0,h1⟩ φ hk
  have hw:=zLP (0 - n)
  unfold eH
  refine Ok.bind (φ:=fun o=>I64 o.1/\o.2.l.length=1) ?_ ?_
  · refine Ok.ite_dec (fun _=>Ok.pure ⟨hw,rfl⟩) fun _=>Ok.pure ⟨h0,rfl⟩
  rintro ⟨m,sg⟩ ⟨g1,g2⟩
  dsimp only at g1 g2 ⊢
  exact Ok.go⟩
theorem zI2 (a:zA) (h0:VA a):∀ (k:Nat) (o:Str) (i:Int),Tot (mG a o i) ((a.Coefs.length:Int) - i<(k:Int)/\0<(k:Int)/\0<=i/\i<=4/\(o.l.length:Int)<=100*i) (fun φ=>∀ r,r.l.length<=400->φ r):=by
  obtain ⟨h01,h02,h03⟩:=h0;intro k
  induction k with
  | zero=>intro o i; exact ⟨fun h=>absurd h.2.1 (by omega)⟩
  | succ k ih =>
    intro o i; refine ⟨?_⟩; rintro ⟨v0,v1,v2,v3,v4⟩ φ hk; unfold mG;exact Ok.go
instance zI3 (a:zA) (o:Str) (i:Int):Tot (mG a o i) (VA a/\0<=i/\i<=4/\(o.l.length:Int)<=100*i) (fun φ=>∀ r,r.l.length<=400->φ r):=⟨by
  rintro ⟨h0,v0,v1,v2⟩ φ hk
  exact (zI2 a h0 (((a.Coefs.length:Int) - i).toNat+1) o i).ok ⟨by omega,by omega,v0,v1,v2⟩ φ hk⟩
instance zOW (a:zA):Tot (gL a) (VA a) (fun φ=>∀ r,r.l.length<=1000->φ r):=⟨by
  rintro h0 φ hk
  have h00:=h0; obtain ⟨h01,h02,h03⟩:=h0
  unfold gL
  refine Ok.call (zI3 a _ _) ⟨h00,by simp⟩ fun o ho=>?_
  refine Ok.bind (φ:=fun r=>r.l.length<=1000) Ok.go fun r hr=>?_
  refine Ok.ite_beq (fun _=>Ok.pure (hk _ (by decide))) fun hne=>?_
  have hp:0<r.l.length:=List.length_pos_iff.2 hne
  exact Ok.go⟩
instance zLo (a:zA):Tot (kT a) (SA a) (fun φ=>∀ r,r.l.length<=1000->φ r):=⟨by
  rintro h0 φ hk
  unfold kT
  refine Ok.call (zGz a) h0 fun b hb=>?_
  refine Ok.ite_not (fun _=>Ok.go) fun hv=>?_
  have hv:=hb hv
  exact Ok.go⟩
theorem zEu (s:Str) (h0:s.l.length<=1000000):∀ (k:Nat) (i:Int) (x:zA),Tot (pO s i x) (((i<0∨(s.l.length:Int) - i+1<(k:Int))/\0<(k:Int)/\i<=(s.l.length:Int))/\VA x) (fun φ=>∀ r,VA r->φ r):=by
  intro k
  induction k with
  | zero=>intro i x; exact ⟨fun h=>absurd h.1.2.1 (by omega)⟩
  | succ k ih =>
    intro i x; refine ⟨?_⟩; rintro ⟨⟨v0,v1,v2⟩,v3⟩ φ hk; unfold pO;refine Ok.bind_ite (Ok.ite_dec (fun h1=>Ok.bind_pure ?_) fun _=>Ok.bind_pure (Ok.ite_ff Ok.go));refine Ok.ite_dec (fun h2=>Ok.call (zJm x s i) ⟨v3,h0,h1,h2⟩ fun r e g1 g2 g3=>?_) fun h2=>Ok.go;refine Ok.last (ih e r) ⟨⟨by omega,by omega,g3⟩,g1⟩ hk
instance zHE (s:Str):Tot (mH s) (s.l.length<=1000000) (fun φ=>∀ a b,SA a->φ (a,b)):=⟨by
  rintro h0 φ hk
  unfold mH
  refine Ok.call zA7 trivial (Ok.ite_dec (fun _=>Ok.pure (hk _ _ SA.nil0)) fun _=>?_)
  refine Ok.call (zEu s h0 (s.l.length+2) 0 _) ⟨⟨by omega,by omega,by omega⟩,rfl,by simp [I64],by simp [I64]⟩ fun x hx=>?_
  have hs:SA x:=⟨by rw [hx.1]; decide,hx.2.2⟩
  exact Ok.go⟩
theorem zEv (y:List Str) (h0:y.length<=1000001) (h1:∀ x∈y,x.l.length<=1000000):∀ (k:Nat) (o:List zA) (i:Int),Tot (rU y o i) (3 - i<(k:Int)/\0<(k:Int)/\0<=i/\(o.length:Int)<=i/\i<=3/\(∀ a∈o,SA a)) (fun φ=>∀ r,LL r->r.length<=100->(∀ a∈r,SA a)->φ r):=by
  intro k
  induction k with
  | zero=>intro o i; exact ⟨fun h=>absurd h.2.1 (by omega)⟩
  | succ k ih =>
    intro o i; refine ⟨?_⟩; rintro ⟨v0,v1,v2,v3,v4,v5⟩ φ hk; unfold rU;exact Ok.go
instance zKn (y:List Str) (o:List zA) (i:Int):Tot (rU y o i) (y.length<=1000001/\(∀ x∈y,x.l.length<=1000000)/\0<=i/\(o.length:Int)<=i/\i<=3/\(∀ a∈o,SA a)) (fun φ=>∀ r,LL r->r.length<=100->(∀ a∈r,SA a)->φ r):=⟨by
  rintro ⟨h0,h1,v0,v1,v2,v3⟩ φ hk
  exact (zEv y h0 h1 ((3 - i).toNat+1) o i).ok ⟨by omega,by omega,v0,v1,v2,v3⟩ φ hk⟩
theorem up {y:List Str}{n:Nat} (h:∀ x∈y,x.l.length<=n) (hn:n<=1000000):∀ x∈y,x.l.length<=1000000:=fun x hx=>Nat.le_trans (h x hx) hn
instance zMF (s:Str):Tot (oA s) (s.l.length<=1000000) (fun φ=>∀ r,LL r->r.length<=100->(∀ a∈r,SA a)->φ r):=⟨by
  rintro h0 φ hk
  unfold oA
  refine Ok.call (zHq s _) h0 fun y g1 g2=>?_
  have g3:=up g2 h0
  exact Ok.go⟩
instance zKo (s:Str):Tot (dZ s) (s.l.length<=1000000) (fun φ=>∀ r,SL1 r->φ r):=⟨by
  rintro h0 φ hk
  unfold dZ
  refine Ok.call (zFi s) h0 fun y g1 g2=>?_
  have g3:=up g2 h0
  exact Ok.go⟩
theorem zHu (s:Str) (e:UInt8) (h0:s.l.length<=1000000):∀ (k:Nat) (i:Int),Tot (oQ s e i) ((s.l.length:Int) - i<(k:Int)/\0<(k:Int)/\0<=i) (fun φ=>(φ (.done ()))/\(∀ r b,i<=r->r<(s.l.length:Int)->s.l[r.toNat]?=some b->(b.toNat:Int)=(e.toNat:Int)->φ (.ret r))):=by
  intro k
  induction k with
  | zero=>intro i; exact ⟨fun h=>absurd h.2.1 (by omega)⟩
  | succ k ih =>
    intro i; refine ⟨?_⟩; rintro ⟨v0,v1,v2⟩ φ ⟨hd,hr⟩; unfold oQ;refine Ok.ite_dec (fun h=>Ok.sidx v2 h fun b _ hb=>Ok.ite_beq (fun he=>Ok.pure (hr i b (by omega) h hb he)) fun _=>?_) fun _=>Ok.go;rw [rF (by omega) (by omega)];exact Ok.last (ih (i+1)) ⟨by omega,by omega,by omega⟩ ⟨hd,fun r b g1=>hr r b (by omega)⟩
instance zHv (s:Str) (e:UInt8) (i:Int):Tot (oQ s e i) (s.l.length<=1000000/\0<=i) (fun φ=>(φ (.done ()))/\(∀ r b,i<=r->r<(s.l.length:Int)->s.l[r.toNat]?=some b->(b.toNat:Int)=(e.toNat:Int)->φ (.ret r))):=⟨by
  rintro ⟨h0,v0⟩ φ hk
  exact (zHu s e h0 (((s.l.length:Int) - i).toNat+1) i).ok ⟨by omega,by omega,v0⟩ φ hk⟩
instance zJn (s:Str) (i:Int) (e:UInt8):Tot (fF s i e) (s.l.length<=1000000/\0<=i) (fun φ=>∀ r,(r=-1∨(i<=r/\r<(s.l.length:Int)/\∃ b,s.l[r.toNat]?=some b/\(b.toNat:Int)=(e.toNat:Int)))->φ r):=⟨by
  rintro ⟨h0,h1⟩ φ hk
  unfold fF
  exact Ok.call (zHv s e i) ⟨h0,h1⟩ ⟨Ok.pure (hk _ (.inl rfl)),fun r b g1 g2 g3 g4=>Ok.pure (hk _ (.inr ⟨g1,g2,b,g3,g4⟩))⟩⟩
instance zBg (s:Str) (i:Int):Tot (oG s i) (s.l.length<=1000000/\0<=i/\i<=1000000) (fun φ=>∀ a n,SC a->(n=-1∨i<n)->n<=(s.l.length:Int)->φ (a,n)):=⟨by
  rintro ⟨h0,h1,h2⟩ φ hk
  unfold oG
  exact Ok.go⟩
theorem SE.node {n:Nat}{k:Int}{a b:zH} (ha:SE n a) (hb:SE n b):SE (n+1) (zH.mk k 0 (zA.mk [] 0) (zG.mk ⟨[]⟩ []) [a,b]) :=
  ⟨SA.nil0,SC.nil,Nat.le_of_ble_eq_true rfl,fun k hk=>by
    rcases List.mem_cons.1 hk with hk | hk
    · exact hk ▸ ha
    · exact List.mem_singleton.1 hk ▸ hb⟩
theorem SE.lf {m:Nat}{k n:Int}{a:zA}{c:zG} (h1:SA a) (h2:SC c):SE m (zH.mk k n a c []):=SE.leaf (e:=zH.mk k n a c []) h1 h2 rfl
def EX0:zH:=zH.mk 0 0 (zA.mk [] 0) (zG.mk ⟨[]⟩ []) []
theorem EX0.se {n:Nat}:SE n EX0:=SE.leaf (e:=EX0) SA.nil0 SC.nil rfl
theorem zJo (s:Str) (h0:s.l.length<=1000000):∀ (n:Nat) (i lv:Int),Tot (oR s i lv) (lv<=n/\n<=1000/\I64 lv) (fun φ=>∀ e r,SE n e->(r=-1∨(0<=i/\i<r))->r<=(s.l.length:Int)->φ (e,r)):=by
  intro n
  induction n with
  | zero =>
    intro i lv; refine ⟨?_⟩; rintro ⟨v0,v1,v2⟩ φ hk; unfold oR; dsimp only [same];refine Ok.bind_ite (Ok.ite_dec (fun h=>Ok.bind_pure (Ok.ite_tt (Ok.pure (hk _ _ EX0.se (.inl rfl) (by omega))))) fun h=>absurd h (by omega))
  | succ n ih =>
    have round:∀ (i lv:Int),Tot (eZ s i lv) (lv<=n/\n<=1000/\0<=i/\I64 lv) (fun φ=>∀ e r,SE (n+1) e->(r=-1∨(i<r))->r<=(s.l.length:Int)->φ (e,r)):=by
      intro i lv; refine ⟨?_⟩; rintro ⟨v0,v1,v2,v4⟩ φ hk; unfold eZ; dsimp only [same];have hbad:Ok (Pure.pure (EX0,(-1:Int))) φ:=Ok.pure (hk _ _ EX0.se (.inl rfl) (by omega));refine Ok.call (ih i lv) ⟨v0,v1,v4⟩ fun e1 r1 g1 g2 g3=>?_;refine Ok.bind (φ:=fun b=>b=false->0<=r1/\r1<(s.l.length:Int)) Ok.go fun b hb=>Ok.ite (fun _=>hbad) fun hz=>?_;obtain ⟨b1,b2⟩:=hb (by simpa using hz);refine Ok.sidx b1 b2 fun c _ hc=>Ok.bind (φ:=fun _=>True) Ok.go fun kd _=>?_;refine Ok.call (ih _ lv) ⟨v0,v1,v4⟩ fun e2 r2 g4 g5 g6=>?_;rw [rF (by omega) (by omega)] at g5;refine Ok.bind (φ:=fun b=>b=false->0<=r2/\r2<(s.l.length:Int)) Ok.go fun b hb=>Ok.ite (fun _=>hbad) fun hz=>?_;obtain ⟨b3,b4⟩:=hb (by simpa using hz);refine Ok.pure ?_;rw [rF (by omega) (by omega)];exact hk _ _ (SE.node g1 g4) (.inr (by omega)) (by omega)
    intro i lv; refine ⟨?_⟩; rintro ⟨v0,v1,v2⟩ φ hk; unfold oR; dsimp only [same];have hbad:Ok (Pure.pure (EX0,(-1:Int))) φ:=Ok.pure (hk _ _ EX0.se (.inl rfl) (by omega));refine Ok.bind (φ:=fun b=>b=false->0<=i/\i<(s.l.length:Int)/\1<=lv) Ok.go fun b hb=>Ok.ite (fun _=>hbad) fun hz=>?_;obtain ⟨b1,b2,b3⟩:=hb (by simpa using hz);refine Ok.sidx b1 b2 fun c _ hc=>Ok.ite_beq (fun hc1=>?_) fun _=>?_
    · refine Ok.call (zJn s i _) ⟨h0,b1⟩ fun y hy=>Ok.ite_dec (fun _=>hbad) fun hy0=>?_;rcases hy with hy | ⟨y1,y2,d,y3,y4⟩
      · exact absurd hy (by omega)
      have hiy:i+1<=y:=by
        by_cases e:y=i
        · subst e;rw [hc] at y3;cases y3
          have:((125:UInt8).toNat:Int)=125:=rfl;omega
        · omega
      rw [rF (by omega) (by omega),rF (by omega) (by omega)];refine Ok.sslc (by omega) (by omega) (by omega) fun m _ hm=>Ok.call (zHE m) (by omega) fun a b ha=>Ok.pure (hk _ _ (SE.lf ha SC.nil) (.inr (by omega)) (by omega))
    · refine Ok.bind (φ:=fun _=>True) Ok.go fun t52 _=>Ok.ite (fun _=>?_) fun _=>?_
      · refine Ok.call (zBg s i) ⟨h0,b1,by omega⟩ fun a r ha g1 g2=>Ok.pure (hk _ _ (SE.lf SA.nil0 ha) (by omega) g2)
      · refine Ok.sidx_known hc b1 (Ok.ite_beq (fun _=>?_) fun _=>?_)
        · obtain ⟨v3,v4⟩:=v2;rw [rF (x:=lv - 1) (by omega) (by omega),rF (x:=i+1) (by omega) (by omega)];refine Ok.call (round _ _) ⟨by omega,by omega,by omega,⟨by omega,by omega⟩⟩ fun e r g1 g2 g3=>Ok.pure (hk _ _ g1 (by omega) g3)
        · refine Ok.call (zFj s i) ⟨h0,b1,by omega⟩ fun n2 r g1 g2 g3=>Ok.ite_beq (fun _=>hbad) fun hne=>Ok.pure (hk _ _ (SE.lf SA.nil0 SC.nil) (.inr (by omega)) g3)
instance zJp (s:Str) (i lv:Int):Tot (oR s i lv) (s.l.length<=1000000/\0<=lv/\lv<=5) (fun φ=>∀ e r,SE 5 e->(r=-1∨(0<=i/\i<r))->r<=(s.l.length:Int)->φ (e,r)):=⟨fun ⟨h0,h1,h2⟩=>(zJo s h0 5 i lv).ok ⟨h2,by decide,⟨by omega,by omega⟩⟩⟩
theorem zFk (list:List zA) (h0:list.length<=100) (h1:∀ a∈list,VA a):∀ (k:Nat) (o:Str) (i:Int),Tot (qG list o i) ((list.length:Int) - i<(k:Int)/\0<(k:Int)/\0<=i/\i<=100/\(o.l.length:Int)<=1001*i) (fun φ=>∀ r,r.l.length<=200000->φ r):=by
  intro k
  induction k with
  | zero=>intro o i; exact ⟨fun h=>absurd h.2.1 (by omega)⟩
  | succ k ih =>
    intro o i; refine ⟨?_⟩; rintro ⟨v0,v1,v2,v3,v4⟩ φ hk; unfold qG;exact Ok.go
instance zLQ (list:List zA) (o:Str) (i:Int):Tot (qG list o i) (list.length<=100/\(∀ a∈list,VA a)/\0<=i/\i<=100/\(o.l.length:Int)<=1001*i) (fun φ=>∀ r,r.l.length<=200000->φ r):=⟨by
  rintro ⟨h0,h1,v0,v1,v2⟩ φ hk
  exact (zFk list h0 h1 (((list.length:Int) - i).toNat+1) o i).ok ⟨by omega,by omega,v0,v1,v2⟩ φ hk⟩
instance zMg (list:List zA):Tot (oV list) (list.length<=100/\(∀ a∈list,VA a)) (fun φ=>∀ r,r.l.length<=200000->φ r):=⟨by
  rintro ⟨h0,h1⟩ φ hk
  unfold oV
  exact Ok.go⟩
instance zLp (a:zG):Tot (qY a) (VC a) (fun φ=>∀ r,r.l.length<=200100->φ r):=⟨by
  rintro h0 φ hk
  obtain ⟨h01,h02,h03⟩:=h0
  unfold qY
  exact Ok.go⟩
def TN:Nat->Nat
  | 0=>200100
  | n+1=>2*TN n+10
theorem TN.ge:∀ n,200100<=TN n
  | 0=>Nat.le_refl _
  | n+1=>by have:=TN.ge n; simp only [TN]; omega
theorem TN.mono (n:Nat):TN n<=TN (n+1):=by have:=TN.ge n; simp only [TN]; omega
theorem zKp:∀ (n:Nat) (e:zH),Tot (pR e) (VE n e/\TN n<=1000000000) (fun φ=>∀ r,r.l.length<=TN n->φ r):=by
  have base:∀ (e:zH),VO e->∀ φ:Str->Prop,(∀ r,r.l.length<=200100->φ r)->Ok (pR e) φ:=by
    intro e he φ hk;unfold pR;rcases he with ⟨h,h1⟩ | ⟨h,h1⟩ | ⟨h,h1⟩
    · refine Ok.ite_beq (fun _=>Ok.go) fun hne=>absurd h hne
    · refine Ok.ite_beq (fun he=>absurd (h.symm.trans he) (by decide)) fun _=>Ok.ite_beq (fun _=>Ok.go) fun hne=>absurd h hne
    · refine Ok.ite_beq (fun he=>absurd (h.symm.trans he) (by decide)) fun _=>Ok.ite_beq (fun he=>absurd (h.symm.trans he) (by decide)) fun _=>Ok.ite_beq (fun _=>Ok.go) fun hne=>absurd h hne
  intro n
  induction n with
  | zero=>intro e; exact ⟨fun ⟨h,_⟩ φ hk=>base e h φ hk⟩
  | succ n ih =>
    intro e; refine ⟨?_⟩; rintro ⟨h,hn⟩ φ hk;have hm:=TN.mono n;have hg:=TN.ge n;have hg2:TN (n+1)=2*TN n+10:=rfl;rcases h with h | ⟨h1,h2,h3⟩
    · exact base e h φ fun r hr=>hk r (by omega)
    unfold pR;dsimp only [same];refine Ok.ite_beq (fun he=>by omega) fun _=>Ok.ite_beq (fun he=>by omega) fun _=>Ok.ite_beq (fun he=>by omega) fun _=>?_;refine Ok.idx (by omega) (by omega) fun x hx _=>?_;have hx:=h3 x hx;refine Ok.call (ih x) ⟨hx,by omega⟩ fun y hy=>?_;refine Ok.cat (by simp; omega) fun s2 _ g2=>?_;rw [rF (x:=e.Kind - 4) (by omega) (by omega),rF (x:=e.Kind - 4+1) (by omega) (by omega)];refine Ok.sslc (by omega) (by omega) (by simp; omega) fun s3 _ g3=>?_;simp only [List.length_cons,List.length_nil] at g2;refine Ok.cat (by omega) fun s4 _ g4=>Ok.idx (by omega) (by omega) fun x1 hx1 _=>?_;have hx1:=h3 x1 hx1;refine Ok.call (ih x1) ⟨hx1,by omega⟩ fun y4 hy4=>Ok.cat (by omega) fun s5 _ g5=>Ok.cat (by simp; omega) fun s6 _ g6=>Ok.pure (hk _ ?_);simp only [List.length_cons,List.length_nil] at g6;dsimp only [id];omega
instance zOC (e:zH):Tot (pR e) (VE 5 e) (fun φ=>∀ r,r.l.length<=10000000->φ r):=⟨fun h φ hk=>(zKp 5 e).ok ⟨h,by decide⟩ φ fun r hr=>hk r (Nat.le_trans hr (by decide))⟩
instance zHw (s:zJ):Tot (jZ s) (SS s) (fun φ=>∀ r,r.l.length<=100000000->φ r):=⟨by
  rintro h0 φ hk
  unfold jZ
  refine Ok.call (zEM s _) h0 fun b hb=>?_
  refine Ok.ite_not (fun _=>Ok.go) fun hv=>?_
  obtain ⟨g1,g2⟩:=hb hv
  exact Ok.go⟩
instance zEN (s:Str):Tot (jC s) (s.l.length<=1000000) (fun φ=>∀ a b,SS a->φ (a,b)):=⟨by
  rintro h0 φ hk
  have e0:SS (zJ.mk (zG.mk ⟨[]⟩ []) EX0):=⟨SC.nil,EX0.se⟩
  unfold jC
  refine Ok.ite_dec (fun _=>Ok.pure (hk _ _ e0)) fun _=>?_
  refine Ok.call (zBg s 0) ⟨h0,by omega,by omega⟩ fun a n g1 g2 g3=>?_
  refine Ok.bind (φ:=fun _=>True) Ok.go fun t _=>Ok.ite (fun _=>Ok.pure (hk _ _ e0)) fun _=>?_
  refine Ok.call (zJp s _ 5) ⟨h0,by decide,by decide⟩ fun e r g4 g5 g6=>?_
  have hs:SS (zJ.mk a e):=⟨g1,g4⟩
  refine Ok.call (zHw _) hs fun t ht=>Ok.ite_not (fun _=>Ok.pure (hk _ _ e0)) fun _=>Ok.pure (hk _ _ hs)⟩
theorem zI4 (nest:List zE) (h0:VN nest):∀ (k:Nat) (o:Str) (i:Int),Tot (mJ nest o i) ((nest.length:Int) - i<(k:Int)/\0<(k:Int)/\0<=i/\i<=4/\(o.l.length:Int)<=500000*i) (fun φ=>∀ r,r.l.length<=2000000->φ r):=by
  obtain ⟨h01,h02⟩:=h0;intro k
  induction k with
  | zero=>intro o i; exact ⟨fun h=>absurd h.2.1 (by omega)⟩
  | succ k ih =>
    intro o i; refine ⟨?_⟩; rintro ⟨v0,v1,v2,v3,v4⟩ φ hk; unfold mJ;refine Ok.ite_dec (fun h=>Ok.cat (by simp; omega) fun s1 _ g1=>Ok.idx v2 h fun x hx hxi=>?_) fun _=>Ok.go;obtain ⟨⟨g2,g3,g4⟩,g5,g6,g7⟩:=h02 x hx;exact Ok.go
instance zNR (nest:List zE) (o:Str) (i:Int):Tot (mJ nest o i) (VN nest/\0<=i/\i<=4/\(o.l.length:Int)<=500000*i) (fun φ=>∀ r,r.l.length<=2000000->φ r):=⟨by
  rintro ⟨h0,v0,v1,v2⟩ φ hk
  exact (zI4 nest h0 (((nest.length:Int) - i).toNat+1) o i).ok ⟨by omega,by omega,v0,v1,v2⟩ φ hk⟩
instance zKq (nest:List zE):Tot (zAB nest) (VN nest) (fun φ=>∀ r,r.l.length<=2000000->φ r):=⟨by
  rintro h0 φ hk
  unfold zAB
  exact Ok.go⟩
theorem zD7 (p:zF) (i:Int) (a:zD) (b:Nat) (h0:VR a) (h1:0<=i) (h2:i<(p.Arrays.length:Int)) (h3:p.Arrays[i.toNat]?=some a) (h4:b<=1000000000):∀ (k:Nat) (o:Str) (k0:Int),Tot (sH p i o k0) ((a.Dims.length:Int) - k0<(k:Int)/\0<(k:Int)/\0<=k0/\k0<=2/\(o.l.length:Int)<=b+100*k0) (fun φ=>∀ r,r.l.length<=b+200->φ r):=by
  obtain ⟨h01,h02,h05⟩:=h0;intro k
  induction k with
  | zero=>intro o k0; exact ⟨fun h=>absurd h.2.1 (by omega)⟩
  | succ k ih =>
    intro o k0; refine ⟨?_⟩; rintro ⟨v0,v1,v2,v3,v4⟩ φ hk; unfold sH;refine Ok.idx_known h3 h1 ?_;refine Ok.ite_dec (fun h=>Ok.cat (by simp; omega) fun s1 _ g1=>Ok.idx_known h3 h1 (Ok.idx v2 h fun x hx hxi=>?_)) fun _=>Ok.go;have hx:=h05 x hx;exact Ok.go
theorem zD8 (p:zF) (i:Int) (a:zD) (b:Nat) (o:Str) (k0:Int):Tot (sH p i o k0) (VR a/\0<=i/\i<(p.Arrays.length:Int)/\p.Arrays[i.toNat]?=some a/\b<=1000000000/\0<=k0/\k0<=2/\(o.l.length:Int)<=b+100*k0) (fun φ=>∀ r,r.l.length<=b+200->φ r):=⟨by
  rintro ⟨h0,h1,h2,h3,h4,v0,v1,v2⟩ φ hk;exact (zD7 p i a b h0 h1 h2 h3 h4 (((a.Dims.length:Int) - k0).toNat+1) o k0).ok ⟨by omega,by omega,v0,v1,v2⟩ φ hk⟩
theorem zD9 (p:zF) (h0:VG p):∀ (k:Nat) (o:Str) (i:Int),Tot (sI p o i) ((p.Arrays.length:Int) - i<(k:Int)/\0<(k:Int)/\0<=i/\i<=4/\(o.l.length:Int)<=8+1000*i) (fun φ=>∀ r,r.l.length<=5000->φ r):=by
  obtain ⟨⟨h01,h02⟩,h03,h04⟩:=h0;intro k
  induction k with
  | zero=>intro o i; exact ⟨fun h=>absurd h.2.1 (by omega)⟩
  | succ k ih =>
    intro o i; refine ⟨?_⟩; rintro ⟨v0,v1,v2,v3,v4⟩ φ hk; unfold sI;refine Ok.ite_dec (fun h=>Ok.cat (by simp; omega) fun s1 _ g1=>Ok.idx v2 h fun x hx hxi=>?_) fun _=>Ok.go;obtain ⟨g2,g3,g4⟩:=h02 x hx;simp only [List.length_cons,List.length_nil] at g1;refine Ok.cat (by omega) fun s2 _ g5=>Ok.call (zD8 p i x (o.l.length+10) s2 0) ⟨⟨g2,g3,g4⟩,v2,h,hxi,by omega,by omega,by omega,by omega⟩ fun r hr=>?_;exact Ok.go
instance zDa (p:zF) (o:Str) (i:Int):Tot (sI p o i) (VG p/\0<=i/\i<=4/\(o.l.length:Int)<=8+1000*i) (fun φ=>∀ r,r.l.length<=5000->φ r):=⟨by
  rintro ⟨h0,v0,v1,v2⟩ φ hk
  exact (zD9 p h0 (((p.Arrays.length:Int) - i).toNat+1) o i).ok ⟨by omega,by omega,v0,v1,v2⟩ φ hk⟩
theorem zDb (p:zF) (i:Int) (q:zI) (b:Nat) (h0:VP q) (h1:0<=i) (h2:i<(p.Parts.length:Int)) (h3:p.Parts[i.toNat]?=some q) (h4:b<=1000000000000):∀ (k:Nat) (o:Str) (k0:Int),Tot (sJ p i o k0) ((q.Body.length:Int) - k0<(k:Int)/\0<(k:Int)/\0<=k0/\k0<=4/\(o.l.length:Int)<=b+20000000*k0) (fun φ=>∀ r,r.l.length<=b+80000000->φ r):=by
  obtain ⟨h01,h02,h05⟩:=h0;intro k
  induction k with
  | zero=>intro o k0; exact ⟨fun h=>absurd h.2.1 (by omega)⟩
  | succ k ih =>
    intro o k0; refine ⟨?_⟩; rintro ⟨v0,v1,v2,v3,v4⟩ φ hk; unfold sJ;refine Ok.idx_known h3 h1 ?_;refine Ok.ite_dec (fun h=>Ok.idx_known h3 h1 (Ok.idx v2 h fun x hx hxi=>?_)) fun _=>Ok.go;obtain ⟨g1,g2⟩:=h05 x hx;exact Ok.go
theorem zDc (p:zF) (i:Int) (q:zI) (b:Nat) (o:Str) (k0:Int):Tot (sJ p i o k0) (VP q/\0<=i/\i<(p.Parts.length:Int)/\p.Parts[i.toNat]?=some q/\b<=1000000000000/\0<=k0/\k0<=4/\(o.l.length:Int)<=b+20000000*k0) (fun φ=>∀ r,r.l.length<=b+80000000->φ r):=⟨by
  rintro ⟨h0,h1,h2,h3,h4,v0,v1,v2⟩ φ hk;exact (zDb p i q b h0 h1 h2 h3 h4 (((q.Body.length:Int) - k0).toNat+1) o k0).ok ⟨by omega,by omega,v0,v1,v2⟩ φ hk⟩
theorem zDd (p:zF) (h0:VG p):∀ (k:Nat) (o:Str) (i:Int),Tot (sK p o i) ((p.Parts.length:Int) - i<(k:Int)/\0<(k:Int)/\0<=i/\i<=4/\(o.l.length:Int)<=5000+100000000*i) (fun φ=>∀ r,r.l.length<=1000000000->φ r):=by
  obtain ⟨⟨h01,h02⟩,h03,h04⟩:=h0;intro k
  induction k with
  | zero=>intro o i; exact ⟨fun h=>absurd h.2.1 (by omega)⟩
  | succ k ih =>
    intro o i; refine ⟨?_⟩; rintro ⟨v0,v1,v2,v3,v4⟩ φ hk; unfold sK;refine Ok.ite_dec (fun h=>Ok.cat (by simp; omega) fun s1 _ g1=>Ok.idx v2 h fun x hx hxi=>?_) fun _=>Ok.go;obtain ⟨g2,g3,g4⟩:=h04 x hx;simp only [List.length_cons,List.length_nil] at g1;refine Ok.call (zKq x.Nest) g2 fun y hy=>Ok.cat (by omega) fun s2 _ g5=>Ok.call (zDc p i x (o.l.length+2000010) s2 0) ⟨⟨g2,g3,g4⟩,v2,h,hxi,by omega,by omega,by omega,by omega⟩ fun r hr=>?_;exact Ok.go
instance zJq (p:zF) (o:Str) (i:Int):Tot (sK p o i) (VG p/\0<=i/\i<=4/\(o.l.length:Int)<=5000+100000000*i) (fun φ=>∀ r,r.l.length<=1000000000->φ r):=⟨by
  rintro ⟨h0,v0,v1,v2⟩ φ hk
  exact (zDd p h0 (((p.Parts.length:Int) - i).toNat+1) o i).ok ⟨by omega,by omega,v0,v1,v2⟩ φ hk⟩
instance zLR (p:zF):Tot (kC p) (SG 1000 p) (fun φ=>∀ r,r.l.length<=1000000000->φ r):=⟨by
  rintro h0 φ hk
  unfold kC
  refine Ok.call (zCV p) h0 fun b hb=>?_
  refine Ok.ite_not (fun _=>Ok.go) fun hv=>?_
  have hv:=hb hv
  refine Ok.call (zDa p _ 0) ⟨hv,by omega,by omega,by simp⟩ fun o ho=>?_
  exact Ok.go⟩
theorem zFl {α:Type}{P Q:α->Prop}{l:List α} (h:∀ x∈l,P x) (hm:∀ x,P x->Q x):∀ x∈l,Q x:=fun x hx=>hm x (h x hx)
theorem SN.mono {b:Nat}{l:List zE} (h:SN b l):SN (b+1) l:=⟨by have:=h.1; omega,h.2⟩
theorem SP.mono {b:Nat}{p:zI} (h:SP b p):SP (b+1) p:=⟨h.1.mono,by have:=h.2.1; omega,h.2.2⟩
theorem SRs.mono {b:Nat}{l:List zD} (h:SRs b l):SRs (b+1) l:=⟨by have:=h.1; omega,h.2⟩
theorem SG.mono {b:Nat}{p:zF} (h:SG b p):SG (b+1) p:=⟨h.1.mono,by have:=h.2.1; omega,zFl h.2.2 fun _=>SP.mono⟩
theorem SG.up {b:Nat}:∀ {c:Nat}{p:zF},SG b p->SG (b+c) p
  | 0,_,h=>h
  | c+1,_,h=>(SG.up (c:=c) h).mono
theorem zCn {α:Type}{P:α->Prop}{l:List α}{x:α} (h:∀ y∈l,P y) (hx:P x) (k:Nat):∀ y∈l.set k x,P y:=by
  intro y hy;rcases List.mem_or_eq_of_mem_set hy with hy | hy
  · exact h y hy
  · exact hy ▸ hx
theorem zHI {α:Type}{l:List α}{a:α}{b:Nat} (h:l.length<=b):(l++[a]).length<=b+1:=by simp; omega
theorem SG.addA {b:Nat}{p:zF}{a:zD} (h:SG b p) (ha:SR a):SG (b+1) (zF.mk (p.Arrays++[a]) p.Parts) :=
  ⟨⟨zHI h.1.1,zCl h.1.2 ha⟩,Nat.le_succ_of_le h.2.1,zFl h.2.2 fun _=>SP.mono⟩
theorem SG.addP {b:Nat}{p:zF}{a:zI} (h:SG b p) (ha:SP (b+1) a):SG (b+1) (zF.mk p.Arrays (p.Parts++[a])) :=
  ⟨h.1.mono,zHI h.2.1,zCl (zFl h.2.2 fun _=>SP.mono) ha⟩
theorem SG.setP {b:Nat}{p:zF}{a:zI} (h:SG b p) (ha:SP (b+1) a) (k:Nat):SG (b+1) (zF.mk p.Arrays (p.Parts.set k a)) :=
  ⟨h.1.mono,Nat.le_succ_of_le (Nat.le_trans (Nat.le_of_eq List.length_set) h.2.1),zCn (zFl h.2.2 fun _=>SP.mono) ha k⟩
theorem SP.addN {b:Nat}{q:zI}{x:zE} (h:SP b q) (hx:SL1 x):SP (b+1) (zI.mk (q.Nest++[x]) q.Body) :=
  ⟨⟨zHI h.1.1,zCl h.1.2 hx⟩,Nat.le_succ_of_le h.2.1,h.2.2⟩
theorem SP.addB {b:Nat}{q:zI}{x:zJ} (h:SP b q) (hx:SS x):SP (b+1) (zI.mk q.Nest (q.Body++[x])) :=
  ⟨h.1.mono,zHI h.2.1,zCl h.2.2 hx⟩
theorem SP.nil {b:Nat}:SP b (zI.mk [] []):=⟨⟨Nat.zero_le _,fun _ h=>absurd h List.not_mem_nil⟩,Nat.zero_le _,fun _ h=>absurd h List.not_mem_nil⟩
theorem zKr (b:Nat) (p:zF) (s:Str):Tot (zAA p s) ((SG b p/\b<=900)/\s.l.length<=1000000) (fun φ=>∀ r,SG (b+1) r->φ r):=⟨by
  rintro ⟨⟨h0,h1⟩,h2⟩ φ hk;obtain ⟨⟨h3,h4⟩,h5,h6⟩:=id h0;unfold zAA;refine Ok.call (zFi s) h2 fun y g1 g2=>?_;have g3:=up g2 h2;refine Ok.bind (φ:=fun _=>True) Ok.go fun t _=>Ok.ite (fun _=>?_) fun _=>Ok.ite_beq (fun _=>?_) fun _=>?_
  · exact Ok.call (zJl y) ⟨by omega,g3⟩ fun a ha=>Ok.app S (Ok.pure (hk _ (h0.addA ha)))
  · exact Ok.app S (Ok.pure (hk _ (h0.addP SP.nil)))
  rw [rF (x:=(p.Parts.length:Int) - 1) (by omega) (by omega)];refine Ok.bind (φ:=fun b=>b=true->1<=p.Parts.length) Ok.go fun t ht=>Ok.ite (fun hz=>?_) fun _=>Ok.ite_dec (fun hz=>?_) fun _=>Ok.pure (hk _ h0.mono)
  · have hz:=ht hz;refine Ok.idx (by omega) (by omega) fun q hq _=>?_;have hq:=h6 q hq;have q1:=hq.1.1;exact Ok.call (zKo s) h2 fun x hx=>Ok.app S (Ok.pure (hk _ (h0.setP (hq.addN hx) _)))
  · refine Ok.idx (by omega) (by omega) fun q hq _=>?_;have hq:=h6 q hq;have q1:=hq.2.1;exact Ok.call (zEN s) h2 fun x c hx=>Ok.app S (Ok.pure (hk _ (h0.setP (hq.addB hx) _)))⟩
theorem zEG (y:List Str) (h0:y.length<=100) (h1:∀ x∈y,x.l.length<=1000000):∀ (k:Nat) (b:Nat) (p:zF) (i:Int),((y.length:Int) - i<(k:Int)/\0<(k:Int)/\0<=i/\(b:Int)<=i/\i<=100)->SG b p->∀ φ:zF->Prop,(∀ r,SG 1000 r->φ r)->Ok (qT y p i) φ:=by
  intro k
  induction k with
  | zero=>intro b p i h; exact absurd h.2.1 (by omega)
  | succ k ih =>
    rintro b p i ⟨v0,v1,v2,v3,v5⟩ v4 φ hk;unfold qT;rw [rF (by omega) (by omega)];refine Ok.ite_dec (fun h=>Ok.idx v2 (by omega) fun x hx _=>?_) fun h=>?_
    · refine Ok.call (zKr b p x) ⟨⟨v4,by omega⟩,h1 x hx⟩ fun r hr=>?_;exact ih (b+1) r _ ⟨by omega,by omega,by omega,by omega,by omega⟩ hr φ hk
    · have:=SG.up (c:=1000 - b) v4;rw [show b+(1000 - b)=1000 by omega] at this;exact Ok.pure (hk _ this)
theorem SG.nil:SG 1000 (zF.mk [] []):=⟨⟨by simp,by simp⟩,by simp,by simp⟩
instance zCW (s:Str):Tot (nH s) (s.l.length<=1000000) (fun φ=>∀ p b,SG 1000 p->φ (p,b)):=⟨by
  rintro h0 φ hk
  unfold nH
  refine Ok.call (zHq s _) h0 fun y g1 g2=>Ok.ite_dec (fun _=>Ok.pure (hk _ _ SG.nil)) fun hy=>?_
  refine Ok.bind (φ:=fun p=>SG 1000 p) (zEG y (by omega) (up g2 h0) (y.length+2) 0 _ 1 ⟨by omega,by omega,by omega,by omega,by omega⟩ ⟨⟨by simp,by simp⟩,by simp,by simp⟩ _ fun _ h=>h) fun p hp=>?_
  refine Ok.bind (φ:=fun _=>True) Ok.go fun t _=>Ok.ite (fun _=>Ok.pure (hk _ _ SG.nil)) fun _=>Ok.pure (hk _ _ hp)⟩
instance zDo (v:Int):Tot (kW v) (0<=v/\v<4) (fun φ=>∀ r,r.Coefs.length=4->r.Const=0->φ r):=⟨by
  rintro ⟨h0,h1⟩ φ hk
  unfold kW
  refine Ok.call zA7 trivial (Ok.idx h0 (by simp; omega) fun x _ _=>Ok.bind_pure (Ok.pure (hk _ (by simp) rfl)))⟩
theorem zGY (a:zA) (x:Int) (b:zA) (y:Int) (h0:a.Coefs.length=4) (h1:b.Coefs.length=4):∀ (k:Nat) (i:Int) (o:List Int),Tot (qZ a x b y i o) (4 - i<(k:Int)/\0<(k:Int)/\0<=i/\i<=4/\(o.length:Int)=i) (fun φ=>∀ r,r.length=4->φ r):=by
  intro k
  induction k with
  | zero=>intro i o; exact ⟨fun h=>absurd h.2.1 (by omega)⟩
  | succ k ih =>
    intro i o; refine ⟨?_⟩; rintro ⟨v0,v1,v2,v3,v4⟩ φ hk; unfold qZ;exact Ok.go
instance zLq (a:zA) (x:Int) (b:zA) (y:Int) (i:Int) (o:List Int):Tot (qZ a x b y i o) (a.Coefs.length=4/\b.Coefs.length=4/\0<=i/\i<=4/\(o.length:Int)=i) (fun φ=>∀ r,r.length=4->φ r):=⟨by
  rintro ⟨h0,h1,v0,v1,v2⟩ φ hk
  exact (zGY a x b y h0 h1 ((4 - i).toNat+1) i o).ok ⟨by omega,by omega,v0,v1,v2⟩ φ hk⟩
instance zI5 (a:zA) (x:Int) (b:zA) (y:Int):Tot (jD a x b y) (a.Coefs.length=4/\b.Coefs.length=4) (fun φ=>∀ r,r.Coefs.length=4->I64 r.Const->φ r):=⟨by
  rintro ⟨h0,h1⟩ φ hk
  unfold jD
  exact Ok.go⟩
theorem LL.one {a:zA} (h:SA a):LL [a]:=⟨Nat.le_of_ble_eq_true rfl,fun _ h'=>List.mem_singleton.1 h' ▸ h⟩
theorem LL.two {a b:zA} (h:SA a) (h2:SA b):LL ([a]++[b]):=⟨Nat.le_of_ble_eq_true rfl,zCl (LL.one h).2 h2⟩
theorem SA.c4 {y:Int} (h:I64 y):SA (zA.mk [0,0,0,0] y):=⟨Nat.le_of_ble_eq_true rfl,h⟩
instance zOX (r:zP) (depth:Int):Tot (zAC r depth) (0<=r.p/\r.p<=900000000/\0<=depth/\depth<=4) (fun φ=>∀ a s,SL1 a->r.p<=s.p->s.p<=r.p+20->φ (a,s)):=⟨by
  rintro ⟨h0,h1,h2,h3⟩ φ hk
  unfold zAC
  refine Ok.call (tT r _) ⟨by decide,h0,by omega,by decide⟩ fun y1 s1 _ g1 e1=>Ok.call (gH _) trivial ?_
  refine Ok.call (tT s1 _) ⟨by decide,by omega,by omega,by decide⟩ fun y2 s2 _ g2 e2=>Ok.call (gH _) trivial ?_
  have a1:=SA.c4 g1
  have a2:=SA.c4 g2
  refine Ok.bind (φ:=fun o=>r.p<=o.2.p/\o.2.p<=r.p+3) Ok.go ?_
  rintro ⟨t,x⟩ ⟨g3,g4⟩
  dsimp only at g3 g4 ⊢
  refine Ok.bind (φ:=fun o=>SA o.1/\SA o.2.1/\r.p<=o.2.2.p/\o.2.2.p<=r.p+6) (Ok.ite (fun _=>?_) fun _=>Ok.go) ?_
  · refine Ok.call (dO x _) ⟨by omega,by omega⟩ fun y s k1 k2 k3=>Ok.call (dO s _) ⟨by omega,by omega⟩ fun z u k4 k5 k6=>?_
    refine Ok.bind (φ:=fun o=>SA o.1/\SA o.2) (Ok.ite_beq (fun _=>?_) fun _=>?_) ?_
    · exact Ok.call (zDo y) ⟨k1,by omega⟩ fun b c1 c2=>Ok.pure ⟨⟨by dsimp only; omega,by dsimp only; rw [c2]; decide⟩,a2⟩
    · exact Ok.call (zDo y) ⟨k1,by omega⟩ fun b c1 c2=>Ok.call (gH _) trivial (Ok.call (zI5 b 1 _ 1) ⟨c1,rfl⟩ fun d c3 c4=>Ok.pure ⟨a1,⟨by dsimp only; omega,c4⟩⟩)
    rintro ⟨b,c⟩ ⟨c1,c2⟩
    exact Ok.pure ⟨c1,c2,by dsimp only at *; omega,by dsimp only at *; omega⟩
  rintro ⟨b,c,u⟩ ⟨b1,b2,b3,b4⟩
  dsimp only at b1 b2 b3 b4 ⊢
  refine Ok.call (dO u _) ⟨by omega,by omega⟩ fun y s k1 k2 k3=>?_
  refine Ok.bind (φ:=fun o=>LL o.1/\LL o.2.1/\r.p<=o.2.2.p/\o.2.2.p<=r.p+20) (Ok.ite_beq (fun _=>?_) fun _=>?_) ?_
  · refine Ok.call (tT s _) ⟨by decide,by omega,by omega,by decide⟩ fun y3 s3 _ g3 e3=>Ok.call (gH _) trivial (Ok.app S (Ok.pure ⟨LL.one b1,LL.two b2 (SA.c4 g3),by dsimp only; omega,by dsimp only; omega⟩))
  · refine Ok.bind (φ:=fun o=>LL o.1/\r.p<=o.2.p/\o.2.p<=r.p+20) (Ok.ite_beq (fun _=>?_) fun _=>Ok.pure ⟨LL.one b1,by dsimp only; omega,by dsimp only; omega⟩) ?_
    · refine Ok.call (tT s _) ⟨by decide,by omega,by omega,by decide⟩ fun y3 s3 _ g3 e3=>Ok.call (gH _) trivial (Ok.app S (Ok.pure ⟨LL.two b1 (SA.c4 g3),by dsimp only; omega,by dsimp only; omega⟩))
    rintro ⟨d,w⟩ ⟨d1,d2,d3⟩
    exact Ok.pure ⟨d1,LL.one b2,d2,d3⟩
  rintro ⟨d,e,w⟩ ⟨d1,d2,d3,d4⟩
  exact Ok.pure (hk _ _ ⟨d1,d2⟩ d3 d4)⟩
theorem zI6 :∀ (k:Nat) (o:List zE) (i:Int) (r:zP),Tot (mK o i r) (i<(k:Int)/\0<(k:Int)/\i<=3/\0<=i/\(o.length:Int)+i<=4/\0<=r.p/\r.p+20*i<=800000100/\(∀ x∈o,SL1 x)) (fun φ=>∀ a s,SN 1000 a->a.length<=4->r.p<=s.p->s.p<=r.p+20*i->φ (a,s)):=by
  intro k
  induction k with
  | zero=>intro o i r; exact ⟨fun h=>absurd h.2.1 (by omega)⟩
  | succ k ih =>
    intro o i r; refine ⟨?_⟩; rintro ⟨v0,v1,v2,v3,v4,v5,v6,v7⟩ φ hk; unfold mK;exact Ok.go
instance zNS  (o:List zE) (i:Int) (r:zP):Tot (mK o i r) (i<=3/\0<=i/\(o.length:Int)+i<=4/\0<=r.p/\r.p+20*i<=800000100/\(∀ x∈o,SL1 x)) (fun φ=>∀ a s,SN 1000 a->a.length<=4->r.p<=s.p->s.p<=r.p+20*i->φ (a,s)):=⟨by
  rintro ⟨v0,v1,v2,v3,v4,v5⟩ φ hk
  exact (zI6 ((i).toNat+1) o i r).ok ⟨by omega,by omega,v0,v1,v2,v3,v4,v5⟩ φ hk⟩
instance zKs (r:zP):Tot (zAD r) (0<=r.p/\r.p<=800000000) (fun φ=>∀ a s,SN 1000 a->a.length<=4->r.p<=s.p->s.p<=r.p+100->φ (a,s)):=⟨by
  rintro ⟨h0,h1⟩ φ hk
  unfold zAD
  refine Ok.call (tT r _) ⟨by decide,h0,by omega,by decide⟩ fun y s g1 g2 g3=>?_
  simp only [List.mem_cons,List.not_mem_nil,or_false] at g1
  exact Ok.go⟩
theorem zI7 (depth:Int) (n:Int) (h0:0<=depth) (h1:depth<=4) (h2:n<=2):∀ (k:Nat) (i:Int) (o:List zA) (r:zP),Tot (mL depth n i o r) (n - i<(k:Int)/\0<(k:Int)/\0<=i/\i<=2/\(o.length:Int)<=i/\0<=r.p/\r.p<=900000000+10*i/\(∀ x∈o,SA x)) (fun φ=>∀ a s,a.length<=100->(∀ x∈a,SA x)->r.p<=s.p->s.p<=r.p+20 - 10*i->φ (a,s)):=by
  intro k
  induction k with
  | zero=>intro i o r; exact ⟨fun h=>absurd h.2.1 (by omega)⟩
  | succ k ih =>
    intro i o r; refine ⟨?_⟩; rintro ⟨v0,v1,v2,v3,v4,v5,v6,v7⟩ φ hk; unfold mL;exact Ok.go
instance zNT (depth:Int) (n:Int) (i:Int) (o:List zA) (r:zP):Tot (mL depth n i o r) (0<=depth/\depth<=4/\n<=2/\0<=i/\i<=2/\(o.length:Int)<=i/\0<=r.p/\r.p<=900000000+10*i/\(∀ x∈o,SA x)) (fun φ=>∀ a s,a.length<=100->(∀ x∈a,SA x)->r.p<=s.p->s.p<=r.p+20 - 10*i->φ (a,s)):=⟨by
  rintro ⟨h0,h1,h2,v0,v1,v2,v3,v4,v5⟩ φ hk
  exact (zI7 depth n h0 h1 h2 ((n - i).toNat+1) i o r).ok ⟨by omega,by omega,v0,v1,v2,v3,v4,v5⟩ φ hk⟩
instance zHx (r:zP) (depth:Int):Tot (gR r depth) (0<=r.p/\r.p<=800000000/\0<=depth/\depth<=4) (fun φ=>∀ a s,SC a->r.p<=s.p->s.p<=r.p+30->φ (a,s)):=⟨by
  rintro ⟨h0,h1,h2,h3⟩ φ hk
  unfold gR
  refine Ok.call (dV r _) ⟨by decide,h0,by omega⟩ fun y s g1 g2=>?_
  have hy:y.l.length<=1:=by
    simp only [List.mem_cons,List.not_mem_nil,or_false] at g1
    rcases g1 with rfl | rfl | rfl | rfl <;> decide
  exact Ok.go⟩
theorem zI8 (depth:Int) (h0:0<=depth) (h1:depth<=4):∀ (k:Nat) (i:Int) (o:List Int) (r:zP),Tot (mM depth i o r) (depth - i<(k:Int)/\0<(k:Int)/\0<=i/\i<=4/\o.length=4/\0<=r.p/\r.p<=900000000+i) (fun φ=>∀ a s,a.length=4->r.p<=s.p->s.p<=r.p+4 - i->φ (a,s)):=by
  intro k
  induction k with
  | zero=>intro i o r; exact ⟨fun h=>absurd h.2.1 (by omega)⟩
  | succ k ih =>
    intro i o r; refine ⟨?_⟩; rintro ⟨v0,v1,v2,v3,v4,v5,v6⟩ φ hk; unfold mM;exact Ok.go
instance zNU (depth:Int) (i:Int) (o:List Int) (r:zP):Tot (mM depth i o r) (0<=depth/\depth<=4/\0<=i/\i<=4/\o.length=4/\0<=r.p/\r.p<=900000000+i) (fun φ=>∀ a s,a.length=4->r.p<=s.p->s.p<=r.p+4 - i->φ (a,s)):=⟨by
  rintro ⟨h0,h1,v0,v1,v2,v3,v4⟩ φ hk
  exact (zI8 depth h0 h1 ((depth - i).toNat+1) i o r).ok ⟨by omega,by omega,v0,v1,v2,v3,v4⟩ φ hk⟩
instance zKt (r:zP) (depth:Int):Tot (eI r depth) (0<=r.p/\r.p<=800000000/\0<=depth/\depth<=4) (fun φ=>∀ a s,SA a->a.Coefs.length=4->r.p<=s.p->s.p<=r.p+10->φ (a,s)):=⟨by
  rintro ⟨h0,h1,h2,h3⟩ φ hk
  unfold eI
  exact Ok.go⟩
def PN:Nat->Nat
  | 0=>50
  | n+1=>2*PN n+50
theorem SE.kids {n:Nat}{k:Int}{l:List zH} (h:l.length<=10) (hl:∀ x∈l,SE n x):SE (n+1) (zH.mk k 0 (zA.mk [] 0) (zG.mk ⟨[]⟩ []) l):=⟨SA.nil0,SC.nil,h,hl⟩
theorem zJr (depth:Int) (hd0:0<=depth) (hd1:depth<=4):∀ (n:Nat) (r:zP) (lv:Int),Tot (oX r depth lv) (lv<=n+1/\0<=lv/\n<=10/\0<=r.p/\r.p+PN n<=800000000) (fun φ=>∀ e s,SE n e->r.p<=s.p->s.p<=r.p+PN n->φ (e,s)):=by
  intro n;have leaf:∀ (m:Nat) (x:zP),Tot (do
      let (y4,y5)<-xF x 4
      if (y4==0) then
        let (y7,y8)<-xG y5 ([1,2,0,99,3]:List Int)
        pure ((zH.mk 1 y7 (zA.mk ([]:List Int) 0) (zG.mk (⟨[]⟩:Str) ([]:List zA)) ([]:List zH)),y8)
      else
        if (y4==1) then
          let (y10,y11)<-eI y5 depth
          pure ((zH.mk 2 0 y10 (zG.mk (⟨[]⟩:Str) ([]:List zA)) ([]:List zH)),y11)
        else
          let (y13,y14)<-gR y5 depth
          pure ((zH.mk 3 0 (zA.mk ([]:List Int) 0) y13 ([]:List zH)),y14)) (0<=x.p/\x.p<=799999999) (fun φ=>∀ e s,SE m e->x.p<=s.p->s.p<=x.p+40->φ (e,s)):=by
    intro m x;refine ⟨?_⟩;rintro ⟨h0,h1⟩ φ hk;refine Ok.call (dO x 4) ⟨h0,by omega⟩ fun y s k1 k2 k3=>?_;refine Ok.ite_beq (fun _=>?_) fun _=>Ok.ite_beq (fun _=>?_) fun _=>?_
    · exact Ok.call (tT s _) ⟨by decide,by omega,by omega,by decide⟩ fun y3 s3 _ g3 e3=>Ok.pure (hk _ _ (SE.lf SA.nil0 SC.nil) (by omega) (by omega))
    · exact Ok.call (zKt s depth) ⟨by omega,by omega,hd0,hd1⟩ fun a s3 g3 _ e3 e4=>Ok.pure (hk _ _ (SE.lf g3 SC.nil) (by omega) (by omega))
    · exact Ok.call (zHx s depth) ⟨by omega,by omega,hd0,hd1⟩ fun a s3 g3 e3 e4=>Ok.pure (hk _ _ (SE.lf SA.nil0 g3) (by omega) (by omega))
  induction n with
  | zero =>
    intro r lv; refine ⟨?_⟩; rintro ⟨v0,v1,v2,v3,v4⟩ φ hk; unfold oX; dsimp only [same];have hp:PN 0=50:=rfl;refine Ok.bind_ite (Ok.ite_dec (fun _=>Ok.bind_pure (Ok.ite_tt ?_)) fun h=>absurd h (by omega));exact (leaf 0 r).ok ⟨v3,by omega⟩ φ fun e s g1 g2 g3=>hk e s g1 g2 (by omega)
  | succ n ih =>
    intro r lv; refine ⟨?_⟩; rintro ⟨v0,v1,v2,v3,v4⟩ φ hk; unfold oX; dsimp only [same];have hp:PN (n+1)=2*PN n+50:=rfl;refine Ok.bind (φ:=fun o=>(o.1=false->2<=lv)/\r.p<=o.2.p/\o.2.p<=r.p+1) ?_ ?_
    · refine Ok.ite_dec (fun _=>Ok.pure ⟨fun h=>(by cases h),by dsimp only; omega,by dsimp only; omega⟩) fun h=>Ok.call (dO r 4) ⟨v3,by omega⟩ fun y s k1 k2 k3=>Ok.pure ⟨fun _=>by omega,by dsimp only; omega,by dsimp only; omega⟩
    rintro ⟨t,x⟩ ⟨g1,g2,g3⟩;dsimp only at g1 g2 g3 ⊢;refine Ok.ite (fun _=>?_) fun hz=>?_
    · exact (leaf (n+1) x).ok ⟨by omega,by omega⟩ φ fun e s g1 g2 g3=>hk e s g1 (by omega) (by omega)
    have g1:=g1 (by simpa using hz);refine Ok.call (tT x _) ⟨by decide,by omega,by omega,by decide⟩ fun y3 s3 _ _ e3=>?_;have hl:∀ (k:Nat) (i:Int) (o:List zH) (x1:zP),Tot (kF depth lv i o x1) ((2 - i<=k/\0<=i/\i<=2/\k<=2/\(o.length:Int)=i/\0<=x1.p/\x1.p+k*PN n<=800000000)/\∀ x∈o,SE n x) (fun φ=>∀ a s,a.length<=10->(∀ x∈a,SE n x)->x1.p<=s.p->s.p<=x1.p+k*PN n->φ (a,s)):=by
      intro k
      induction k with
      | zero=>intro i o x1; refine ⟨?_⟩; rintro ⟨⟨a1,a2,a3,a4,a5,a6,a7⟩,a8⟩ φ hk; unfold kF; dsimp only [same]; exact Ok.ite_dec (fun h=>absurd h (by omega)) fun _=>Ok.pure (hk _ _ (by omega) a8 (by omega) (by omega))
      | succ k ik =>
        intro i o x1; refine ⟨?_⟩; rintro ⟨⟨a1,a2,a3,a4,a5,a6,a7⟩,a8⟩ φ hk; unfold kF; dsimp only [same];have e1:((k+1:Nat):Int)*PN n=k*PN n+PN n:=by rw [Int.natCast_add,Int.add_mul]; simp
        rw [e1] at a7 hk;have hkn:0<=(k:Int)*PN n:=Int.mul_nonneg (by omega) (by omega);refine Ok.ite_dec (fun h=>?_) fun _=>Ok.pure (hk _ _ (by omega) a8 (by omega) (by omega));rw [rF (by omega) (by omega)];refine Ok.call (ih x1 _) ⟨by omega,by omega,by omega,by omega,by omega⟩ fun e s g1 g2 g3=>Ok.app S ?_;rw [rF (by omega) (by omega)];exact Ok.last (ik _ _ s) ⟨⟨by omega,by omega,by omega,by omega,by simp; omega,by omega,by omega⟩,zCl a8 g1⟩ fun a u h1 h2 h3 h4=>hk a u h1 h2 (by omega) (by omega)
    refine Ok.call (hl 2 0 [] s3) ⟨⟨by omega,by omega,by omega,by omega,rfl,by omega,by omega⟩,fun _ h=>absurd h List.not_mem_nil⟩ fun a u h1 h2 h3 h4=>by
      dsimp only;exact Ok.pure (hk _ u (SE.kids h1 h2) (by omega) (by omega))
instance zJs (r:zP) (depth lv:Int):Tot (oX r depth lv) (0<=r.p/\r.p<=700000000/\0<=depth/\depth<=4/\0<=lv/\lv<=6) (fun φ=>∀ e s,SE 5 e->r.p<=s.p->s.p<=r.p+5000->φ (e,s)):=⟨fun ⟨h0,h1,h2,h3,h4,h5⟩ φ hk=>by
  have hp:PN 5=3150:=rfl
  exact (zJr depth h2 h3 5 r lv).ok ⟨by omega,h4,by omega,h0,by omega⟩ φ fun e s g1 g2 g3=>hk e s g1 g2 (by omega)⟩
instance zKu (r:zP) (depth:Int):Tot (zAE r depth) (0<=r.p/\r.p<=600000000/\0<=depth/\depth<=4) (fun φ=>∀ a s,SS a->r.p<=s.p->s.p<=r.p+6000->φ (a,s)):=⟨by
  rintro ⟨h0,h1,h2,h3⟩ φ hk
  unfold zAE
  refine Ok.call (zHx r depth) ⟨h0,by omega,h2,h3⟩ fun a s g1 g2 g3=>?_
  refine Ok.call (tT s _) ⟨by decide,by omega,by omega,by decide⟩ fun y3 s3 g4 _ e3=>?_
  simp only [List.mem_cons,List.not_mem_nil,or_false] at g4
  refine Ok.call (zJs s3 depth y3) ⟨by omega,by omega,h2,h3,by omega,by omega⟩ fun e u g5 g6 g7=>?_
  have hs:SS (zJ.mk a e):=⟨g1,g5⟩
  refine Ok.call (zEM _ depth) hs fun b _=>Ok.ite (fun _=>Ok.pure (hk _ _ hs (by omega) (by omega))) fun _=>Ok.call zA7 trivial (Ok.pure (hk _ _ ⟨⟨by decide,by decide,fun _ h=>List.mem_singleton.1 h ▸ SA.c4 (by decide)⟩,SE.lf SA.nil0 SC.nil⟩ (by omega) (by omega)))⟩
theorem zHy (z:List Int) (h0:z.length<=4):∀ (k:Nat) (o:List zE) (i:Int),Tot (oY z o i) ((z.length:Int) - i<(k:Int)/\0<(k:Int)/\0<=i/\(o.length:Int)=i/\i<=4/\(∀ x∈o,SL1 x)) (fun φ=>(∀ o,SN 1000 o->φ (.done o))/\(φ (.ret ([],false)))):=by
  intro k
  induction k with
  | zero=>intro o i; exact ⟨fun h=>absurd h.2.1 (by omega)⟩
  | succ k ih =>
    intro o i; refine ⟨?_⟩; rintro ⟨v0,v1,v2,v3,v4,v5⟩ φ ⟨hd,hr⟩; unfold oY;refine Ok.ite_dec (fun h=>?_) fun _=>Ok.go;refine Ok.bind (φ:=fun b=>b=false->∀ x,z[i.toNat]?=some x->0<=x/\x<=99) ?_ ?_
    · refine Ok.idx v2 h fun x _ hx=>Ok.ite_dec (fun _=>Ok.pure fun h=>by cases h) fun g=>Ok.idx_known hx v2 (Ok.pure fun hb y hy=>?_);rw [hx] at hy;cases hy
      have:=of_decide_eq_false hb;omega
    intro b hb;refine Ok.ite (fun _=>Ok.pure hr) fun hz=>Ok.call zA7 trivial (Ok.idx v2 h fun x _ hx=>Ok.call (gH x) trivial (Ok.app S ?_));obtain ⟨b1,b2⟩:=hb (by simpa using hz) x hx;have hx:SL1 (zE.mk [zA.mk [0,0,0,0] 0] [zA.mk [0,0,0,0] x]):=⟨LL.one (SA.c4 (by decide)),LL.one (SA.c4 ⟨by omega,by omega⟩)⟩;exact Ok.go
instance zMh (z:List Int) (o:List zE) (i:Int):Tot (oY z o i) (z.length<=4/\0<=i/\(o.length:Int)=i/\i<=4/\(∀ x∈o,SL1 x)) (fun φ=>(∀ o,SN 1000 o->φ (.done o))/\(φ (.ret ([],false)))):=⟨by
  rintro ⟨h0,v0,v1,v2,v3⟩ φ hk
  exact (zHy z h0 (((z.length:Int) - i).toNat+1) o i).ok ⟨by omega,by omega,v0,v1,v2,v3⟩ φ hk⟩
instance zJt (z:List Int):Tot (dC z) (True) (fun φ=>∀ o b,SN 1000 o->φ (o,b)):=⟨by
  rintro _ φ hk
  unfold dC
  exact Ok.go⟩
theorem SP.one {y:List zE}{a:zJ} (h:SN 1000 y) (ha:SS a):SP 1000 (zI.mk y [a]):=⟨h,Nat.le_of_ble_eq_true rfl,fun _ h=>List.mem_singleton.1 h ▸ ha⟩
theorem zI9 (y:List zE) (h0:SN 1000 y) (h1:y.length<=4):∀ (k:Nat) (o:List zJ) (n:Int) (r:zP),Tot (mN y o n r) (5 - n<(k:Int)/\0<(k:Int)/\0<=n/\n<=5/\o.length<=100/\(∀ x∈o,SS x)/\0<=r.p/\r.p+6000*(5 - n)<=500000000) (fun φ=>∀ a s,a.length<=o.length+1->(∀ x∈a,SS x)->r.p<=s.p->s.p<=r.p+6000*(5 - n)->φ (a,s)):=by
  intro k
  induction k with
  | zero=>intro o n r; exact ⟨fun h=>absurd h.2.1 (by omega)⟩
  | succ k ih =>
    intro o n r; refine ⟨?_⟩; rintro ⟨v0,v1,v2,v3,v4,v5,v6,v7⟩ φ hk; unfold mN;refine Ok.ite_dec (fun h=>?_) fun _=>Ok.go;refine Ok.call (zKu r _) ⟨by omega,by omega,by omega,by omega⟩ fun a s g1 g2 g3=>Ok.call zCm trivial fun l hl=>?_;refine Ok.call (zHp l _) ⟨hl,SP.one h0 g1⟩ fun m b _=>?_;dsimp only;exact Ok.go
instance zNV (y:List zE) (o:List zJ) (n:Int) (r:zP):Tot (mN y o n r) (SN 1000 y/\y.length<=4/\0<=n/\n<=5/\o.length<=100/\(∀ x∈o,SS x)/\0<=r.p/\r.p+6000*(5 - n)<=500000000) (fun φ=>∀ a s,a.length<=o.length+1->(∀ x∈a,SS x)->r.p<=s.p->s.p<=r.p+6000*(5 - n)->φ (a,s)):=⟨by
  rintro ⟨h0,h1,v0,v1,v2,v3,v4,v5⟩ φ hk
  exact (zI9 y h0 h1 ((5 - n).toNat+1) o n r).ok ⟨by omega,by omega,v0,v1,v2,v3,v4,v5⟩ φ hk⟩
theorem zIa (y:List zE) (h0:SN 1000 y) (h1:y.length<=4):∀ (k:Nat) (k0:Int) (o:List zJ) (r:zP),Tot (mO y k0 o r) (k0<(k:Int)/\0<(k:Int)/\0<=k0/\(o.length:Int)+k0<=10/\(∀ x∈o,SS x)/\0<=r.p/\r.p+30000*k0<=400000000) (fun φ=>∀ a s,a.length<=100->(∀ x∈a,SS x)->r.p<=s.p->s.p<=r.p+30000*k0->φ (a,s)):=by
  intro k
  induction k with
  | zero=>intro k0 o r; exact ⟨fun h=>absurd h.2.1 (by omega)⟩
  | succ k ih =>
    intro k0 o r; refine ⟨?_⟩; rintro ⟨v0,v1,v2,v3,v4,v5,v6⟩ φ hk; unfold mO;exact Ok.go
instance zIb (y:List zE) (k0:Int) (o:List zJ) (r:zP):Tot (mO y k0 o r) (SN 1000 y/\y.length<=4/\0<=k0/\(o.length:Int)+k0<=10/\(∀ x∈o,SS x)/\0<=r.p/\r.p+30000*k0<=400000000) (fun φ=>∀ a s,a.length<=100->(∀ x∈a,SS x)->r.p<=s.p->s.p<=r.p+30000*k0->φ (a,s)):=⟨by
  rintro ⟨h0,h1,v0,v1,v2,v3,v4⟩ φ hk
  exact (zIa y h0 h1 ((k0).toNat+1) k0 o r).ok ⟨by omega,by omega,v0,v1,v2,v3,v4⟩ φ hk⟩
theorem zIc (x:zI):∀ (k:Nat) (i:Int) (r:zP),Tot (mP x i r) (4 - i<(k:Int)/\0<(k:Int)/\0<=i/\i<=4/\0<=r.p/\r.p+100000*(4 - i)<=300000000) (fun φ=>(∀ s,r.p<=s.p->s.p<=r.p+100000*(4 - i)->φ (.done (x,s)))/\(∀ a s,SP 1000 a->r.p<=s.p->s.p<=r.p+100000*(4 - i)->φ (.ret (a,s)))):=by
  intro k
  induction k with
  | zero=>intro i r; exact ⟨fun h=>absurd h.2.1 (by omega)⟩
  | succ k ih =>
    intro i r; refine ⟨?_⟩; rintro ⟨v0,v1,v2,v3,v4,v5⟩ φ ⟨hd,hr⟩; unfold mP;refine Ok.ite_dec (fun h=>?_) fun _=>Ok.go;refine Ok.call (zKs r) ⟨v4,by omega⟩ fun y s g1 g2 g3 g4=>?_;refine Ok.call (tT s _) ⟨by decide,by omega,by omega,by decide⟩ fun n t g5 _ e3=>?_;simp only [List.mem_cons,List.not_mem_nil,or_false] at g5;refine Ok.call (zIb y n [] t) ⟨g1,g2,by omega,by simp; omega,fun _ h=>absurd h List.not_mem_nil,by omega,by omega⟩ fun b u g6 g7 g8 g9=>Ok.call zCm trivial fun l hl=>?_;have hs:SP 1000 (zI.mk y b):=⟨g1,Nat.le_trans g6 (by decide),g7⟩;refine Ok.call (zHp l _) ⟨hl,hs⟩ fun m c _=>?_;dsimp only;refine Ok.bind (φ:=fun _=>True) Ok.go fun z _=>Ok.ite (fun _=>Ok.pure (hr _ _ hs (by omega) (by omega))) fun _=>?_;rw [rF (by omega) (by omega)];exact Ok.last (ih _ u) ⟨by omega,by omega,by omega,by omega,by omega,by omega⟩ ⟨fun s h1 h2=>hd s (by omega) (by omega),fun a s h0 h1 h2=>hr a s h0 (by omega) (by omega)⟩
instance zId (x:zI) (i:Int) (r:zP):Tot (mP x i r) (0<=i/\i<=4/\0<=r.p/\r.p+100000*(4 - i)<=300000000) (fun φ=>(∀ s,r.p<=s.p->s.p<=r.p+100000*(4 - i)->φ (.done (x,s)))/\(∀ a s,SP 1000 a->r.p<=s.p->s.p<=r.p+100000*(4 - i)->φ (.ret (a,s)))):=⟨by
  rintro ⟨v0,v1,v2,v3⟩ φ hk
  exact (zIc x ((4 - i).toNat+1) i r).ok ⟨by omega,by omega,v0,v1,v2,v3⟩ φ hk⟩
instance zOY (r:zP):Tot (zAF r) (0<=r.p/\r.p<=200000000) (fun φ=>∀ a s,SP 1000 a->r.p<=s.p->s.p<=r.p+400000->φ (a,s)):=⟨by
  rintro ⟨h0,h1⟩ φ hk
  unfold zAF
  refine Ok.call (zId _ 0 r) ⟨by decide,by decide,h0,by omega⟩ ⟨fun s g1 g2=>?_,fun a s g1 g2 g3=>Ok.pure (hk _ _ g1 (by omega) (by omega))⟩
  refine Ok.call (zEN _) (by decide) fun a b g3=>Ok.call (zJt _) trivial fun n c g4=>Ok.pure (hk _ _ (SP.one g4 g3) (by omega) (by omega))⟩
theorem zIe :∀ (k:Nat) (i:Int) (o:List zI) (r:zP),Tot (mQ i o r) (i<(k:Int)/\0<(k:Int)/\0<=i/\(o.length:Int)+i<=10/\(∀ x∈o,SP 1000 x)/\0<=r.p/\r.p+400000*i<=100000000) (fun φ=>∀ a s,(a.length:Int)=o.length+i->(∀ x∈a,SP 1000 x)->r.p<=s.p->s.p<=r.p+400000*i->φ (a,s)):=by
  intro k
  induction k with
  | zero=>intro i o r; exact ⟨fun h=>absurd h.2.1 (by omega)⟩
  | succ k ih =>
    intro i o r; refine ⟨?_⟩; rintro ⟨v0,v1,v2,v3,v4,v5,v6⟩ φ hk; unfold mQ;exact Ok.go
instance zIf  (i:Int) (o:List zI) (r:zP):Tot (mQ i o r) (0<=i/\(o.length:Int)+i<=10/\(∀ x∈o,SP 1000 x)/\0<=r.p/\r.p+400000*i<=100000000) (fun φ=>∀ a s,(a.length:Int)=o.length+i->(∀ x∈a,SP 1000 x)->r.p<=s.p->s.p<=r.p+400000*i->φ (a,s)):=⟨by
  rintro ⟨v0,v1,v2,v3,v4⟩ φ hk
  exact (zIe ((i).toNat+1) i o r).ok ⟨by omega,by omega,v0,v1,v2,v3,v4⟩ φ hk⟩
instance zKv (r:zP):Tot (zAG r) (0<=r.p/\r.p<=50000000) (fun φ=>∀ a s,SG 1000 a->r.p<=s.p->s.p<=r.p+2000000->φ (a,s)):=⟨by
  rintro ⟨h0,h1⟩ φ hk
  unfold zAG
  refine Ok.call zCm trivial fun l hl=>Ok.call (tT r _) ⟨by decide,h0,by omega,by decide⟩ fun n t g5 _ e3=>?_
  simp only [List.mem_cons,List.not_mem_nil,or_false] at g5
  refine Ok.call (zIf n [] t) ⟨by omega,by simp; omega,fun _ h=>absurd h List.not_mem_nil,by omega,by omega⟩ fun a s g1 g2 g3 g4=>?_
  simp only [List.length_nil] at g1
  have hp:SG 1000 (zF.mk l a):=⟨hl,by dsimp only; omega,g2⟩
  refine Ok.call (zCV _) hp fun b _=>Ok.ite (fun _=>Ok.pure (hk _ _ hp (by omega) (by omega))) fun _=>Ok.call zCm trivial fun l2 hl2=>?_
  refine Ok.slc (by omega) (by omega) (by omega) fun m hm hml=>Ok.pure (hk _ _ ⟨hl2,by dsimp only; omega,fun x hx=>g2 x ?_⟩ (by omega) (by omega))
  subst hm
  exact List.mem_of_mem_take (List.mem_of_mem_drop hx)⟩
instance zKw (r:zP):Tot (zAH r) (0<=r.p/\r.p<=40000000) (fun φ=>∀ a s,SG 1000 a->r.p<=s.p->s.p<=r.p+3000000->φ (a,s)):=⟨by
  rintro ⟨h0,h1⟩ φ hk
  unfold zAH
  refine Ok.call (dV r _) ⟨by decide,h0,by omega⟩ fun y s g1 g2=>?_
  have hy:y.l.length<=1000:=by
    revert g1 y
    decide
  refine Ok.cat (by simp; omega) fun t _ ht=>?_
  simp only [List.length_cons,List.length_nil] at ht
  refine Ok.call (zCW t) (by omega) fun p b hp=>?_
  refine Ok.bind (φ:=fun o=>r.p<=o.2.p/\o.2.p<=r.p+2) ?_ ?_
  · exact Ok.ite (fun _=>Ok.call (dO s 3) ⟨by omega,by omega⟩ fun y u k1 k2 k3=>Ok.pure ⟨by dsimp only; omega,by dsimp only; omega⟩) fun _=>Ok.pure ⟨by dsimp only; omega,by dsimp only; omega⟩
  rintro ⟨z,u⟩ ⟨g3,g4⟩
  dsimp only at g3 g4 ⊢
  refine Ok.ite (fun _=>Ok.pure (hk _ _ hp g3 (by omega))) fun _=>Ok.call (zKv u) ⟨by omega,by omega⟩ fun a v g5 g6 g7=>Ok.pure (hk _ v g5 (by omega) (by omega))⟩
instance zJu (code:List UInt8):Tot (eV code) (True) (fun φ=>∀ s,s.p=0->φ s):=⟨by
  rintro _ φ hk
  unfold eV
  exact Ok.go⟩
end Go.LN
