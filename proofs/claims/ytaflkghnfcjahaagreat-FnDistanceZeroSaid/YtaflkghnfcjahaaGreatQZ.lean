/- Helper of the proof (see the last text). -/
import Derived.Test.YtaflkghnfcjahaaGreatQT
import Derived.Test.YtaflkghnfcjahaaGreatHM7
set_option linter.unusedVariables false
set_option linter.unusedSimpArgs false
namespace Go.LN
def I64 (x:Int):Prop:=-9223372036854775808 ≤ x∧x ≤ 9223372036854775807
instance (x:Int):Decidable (I64 x):=inferInstanceAs (Decidable (_∧_))
theorem zJP (x:Int):I64 (W x):=by
  show -9223372036854775808 ≤ IntKind.i64.wrap x∧IntKind.i64.wrap x ≤ 9223372036854775807;rw [IntKind.wrap_i64]; omega
instance (x:Int):Sd (I64 (W x)):=⟨zJP x⟩
theorem I64.of {x:Int} (h0:-9223372036854775808 ≤ x) (h1:x ≤ 9223372036854775807):I64 x:=⟨h0,h1⟩
def SA (a:zA):Prop:=a.Coefs.length ≤ 100∧I64 a.Const
def VA (a:zA):Prop:=a.Coefs.length=4∧(∀ c ∈ a.Coefs,I64 c)∧I64 a.Const
def SC (a:zJ):Prop:=a.Array.l.length ≤ 1000000∧a.Subs.length ≤ 100∧∀ s ∈ a.Subs,SA s
def VC (a:zJ):Prop:=a.Array.l.length ≤ 1∧a.Subs.length ≤ 2∧∀ s ∈ a.Subs,VA s
def SE:Nat→zG→Prop
  | 0,e=>SA e.Index∧SC e.Read∧e.Kids=[]
  | n + 1,e=>SA e.Index∧SC e.Read∧e.Kids.length ≤ 10∧∀ k ∈ e.Kids,SE n k
def VO (e:zG):Prop:=(e.Kind=1∧I64 e.Num)∨(e.Kind=2∧VA e.Index)∨(e.Kind=3∧VC e.Read)
def VE:Nat→zG→Prop
  | 0,e=>VO e
  | n + 1,e=>VO e∨((e.Kind=4∨e.Kind=5∨e.Kind=6)∧e.Kids.length=2∧∀ k ∈ e.Kids,VE n k)
def SS (s:zQ):Prop:=SC s.Write∧SE 5 s.Value
def VS (s:zQ):Prop:=VC s.Write∧VE 5 s.Value
def LL (l:List zA):Prop:=l.length ≤ 100∧∀ a ∈ l,SA a
def VL (l:List zA):Prop:=1 ≤ l.length∧l.length ≤ 2∧∀ a ∈ l,VA a
def SL1 (x:zD):Prop:=LL x.Lo∧LL x.Hi
def VL1 (x:zD):Prop:=VL x.Lo∧VL x.Hi
def SN (b:Nat) (l:List zD):Prop:=l.length ≤ b∧∀ x ∈ l,SL1 x
def VN (l:List zD):Prop:=l.length ≤ 4∧∀ x ∈ l,VL1 x
def SP (b:Nat) (p:zN):Prop:=SN b p.Nest∧p.Body.length ≤ b∧∀ s ∈ p.Body,SS s
def VP (p:zN):Prop:=VN p.Nest∧p.Body.length ≤ 4∧∀ s ∈ p.Body,VS s
def SR (a:zH):Prop:=a.Name.l.length ≤ 1000000∧a.Dims.length ≤ 100
def VR (a:zH):Prop:=a.Name.l.length=1∧a.Dims.length ≤ 2∧∀ d ∈ a.Dims,I64 d
def SRs (b:Nat) (l:List zH):Prop:=l.length ≤ b∧∀ a ∈ l,SR a
def VRs (l:List zH):Prop:=l.length ≤ 4∧∀ a ∈ l,VR a
def SG (b:Nat) (p:zE):Prop:=SRs b p.Arrays∧p.Parts.length ≤ b∧∀ q ∈ p.Parts,SP b q
def VG (p:zE):Prop:=VRs p.Arrays∧p.Parts.length ≤ 4∧∀ q ∈ p.Parts,VP q
instance (a:zA):Su (SA a) (a.Coefs.length ≤ 100∧I64 a.Const):=⟨id⟩
instance (a:zA):Su (VA a) (a.Coefs.length=4∧(∀ c ∈ a.Coefs,I64 c)∧I64 a.Const):=⟨id⟩
instance (a:zJ):Su (SC a) (a.Array.l.length ≤ 1000000∧a.Subs.length ≤ 100∧∀ s ∈ a.Subs,SA s):=⟨id⟩
instance (a:zJ):Su (VC a) (a.Array.l.length ≤ 1∧a.Subs.length ≤ 2∧∀ s ∈ a.Subs,VA s):=⟨id⟩
instance (s:zQ):Su (SS s) (SC s.Write∧SE 5 s.Value):=⟨id⟩
instance (s:zQ):Su (VS s) (VC s.Write∧VE 5 s.Value):=⟨id⟩
instance (l:List zA):Su (LL l) (l.length ≤ 100∧∀ a ∈ l,SA a):=⟨id⟩
instance (l:List zA):Su (VL l) (1 ≤ l.length∧l.length ≤ 2∧∀ a ∈ l,VA a):=⟨id⟩
instance (x:zD):Su (SL1 x) (LL x.Lo∧LL x.Hi):=⟨id⟩
instance (x:zD):Su (VL1 x) (VL x.Lo∧VL x.Hi):=⟨id⟩
instance (b:Nat) (l:List zD):Su (SN b l) (l.length ≤ b∧∀ x ∈ l,SL1 x):=⟨id⟩
instance (l:List zD):Su (VN l) (l.length ≤ 4∧∀ x ∈ l,VL1 x):=⟨id⟩
instance (b:Nat) (p:zN):Su (SP b p) (SN b p.Nest∧p.Body.length ≤ b∧∀ s ∈ p.Body,SS s):=⟨id⟩
instance (p:zN):Su (VP p) (VN p.Nest∧p.Body.length ≤ 4∧∀ s ∈ p.Body,VS s):=⟨id⟩
instance (a:zH):Su (SR a) (a.Name.l.length ≤ 1000000∧a.Dims.length ≤ 100):=⟨id⟩
instance (a:zH):Su (VR a) (a.Name.l.length=1∧a.Dims.length ≤ 2∧∀ d ∈ a.Dims,I64 d):=⟨id⟩
instance (b:Nat) (l:List zH):Su (SRs b l) (l.length ≤ b∧∀ a ∈ l,SR a):=⟨id⟩
instance (l:List zH):Su (VRs l) (l.length ≤ 4∧∀ a ∈ l,VR a):=⟨id⟩
instance (b:Nat) (p:zE):Su (SG b p) (SRs b p.Arrays∧p.Parts.length ≤ b∧∀ q ∈ p.Parts,SP b q):=⟨id⟩
instance (p:zE):Su (VG p) (VRs p.Arrays∧p.Parts.length ≤ 4∧∀ q ∈ p.Parts,VP q):=⟨id⟩
instance (x:Int):Su (I64 x) (-9223372036854775808 ≤ x∧x ≤ 9223372036854775807):=⟨id⟩
instance (x:zD):Sw (LL x.Lo) (SL1 x):=⟨And.left⟩
instance (x:zD):Sw (LL x.Hi) (SL1 x):=⟨And.right⟩
instance (s:zQ):Sw (SC s.Write) (SS s):=⟨And.left⟩
instance (s:zQ):Sw (SE 5 s.Value) (SS s):=⟨And.right⟩
theorem SE.parts:∀ {n:Nat}{e:zG},SE n e→SA e.Index∧SC e.Read∧e.Kids.length ≤ 10
  | 0,e,h=>⟨h.1,h.2.1,by rw [h.2.2]; simp⟩
  | n + 1,e,h=>⟨h.1,h.2.1,h.2.2.1⟩
theorem SE.succ:∀ {n:Nat}{e:zG},SE n e→SE (n + 1) e
  | 0,e,h=>⟨h.1,h.2.1,by rw [h.2.2]; simp,by rw [h.2.2]; simp⟩
  | n + 1,e,h=>⟨h.1,h.2.1,h.2.2.1,fun k hk=>(h.2.2.2 k hk).succ⟩
theorem SE.leaf {e:zG} (h1:SA e.Index) (h2:SC e.Read) (h3:e.Kids=[]):∀ {n:Nat},SE n e
  | 0=>⟨h1,h2,h3⟩
  | n + 1=>⟨h1,h2,by rw [h3]; simp,by rw [h3]; simp⟩
theorem SA.nil {c:Int} (h:I64 c):SA (zA.mk [] c):=⟨by simp,h⟩
theorem SA.nil0:SA (zA.mk [] 0):=⟨by simp,by simp [I64]⟩
theorem SC.nil:SC (zJ.mk ⟨[]⟩ []):=by simp [SC]
instance:Sd (SA (zA.mk [] 0)):=⟨SA.nil0⟩
instance:Sd (SC (zJ.mk ⟨[]⟩ [])):=⟨SC.nil⟩
theorem zFB (x:zH) (h0:SR x):∀ (k:Nat) (i:Int),Tot (vC x i) ((x.Dims.length:Int) - i < (k:Int)∧0 < (k:Int)∧0 ≤ i) (fun φ=>(AF x.Dims i I64→φ (.done ()))∧(φ (.ret false))):=by
  have h0:=h0.2;intro k
  induction k with
  | zero=>intro i; exact ⟨fun h=>absurd h.2.1 (by omega)⟩
  | succ k ih =>
    intro i; refine ⟨?_⟩; rintro ⟨v0,v1,v2⟩ φ ⟨hd,hr⟩; unfold vC;exact Ok.go
instance zKA (x:zH) (i:Int):Tot (vC x i) (SR x∧0 ≤ i) (fun φ=>(AF x.Dims i I64→φ (.done ()))∧(φ (.ret false))):=⟨by
  rintro ⟨h0,v0⟩ φ hk
  exact (zFB x h0 (((x.Dims.length:Int) - i).toNat + 1) i).ok ⟨by omega,by omega,v0⟩ φ hk⟩
theorem zFC (l:List zH) (h0:SRs 1000 l):∀ (k:Nat) (i:Int),Tot (uA l i) ((l.length:Int) - i < (k:Int)∧0 < (k:Int)∧0 ≤ i) (fun φ=>(AF l i VR→φ (.done ()))∧(φ (.ret false))):=by
  obtain ⟨h00,h01⟩:=h0;intro k
  induction k with
  | zero=>intro i; exact ⟨fun h=>absurd h.2.1 (by omega)⟩
  | succ k ih =>
    intro i; refine ⟨?_⟩; rintro ⟨v0,v1,v2⟩ φ ⟨hd,hr⟩; unfold uA;exact Ok.go
instance zKB (l:List zH) (i:Int):Tot (uA l i) (SRs 1000 l∧0 ≤ i) (fun φ=>(AF l i VR→φ (.done ()))∧(φ (.ret false))):=⟨by
  rintro ⟨h0,v0⟩ φ hk
  exact (zFC l h0 (((l.length:Int) - i).toNat + 1) i).ok ⟨by omega,by omega,v0⟩ φ hk⟩
instance zL6 (l:List zH):Tot (oM l) (SRs 1000 l) (fun φ=>∀ r,(r=true→VRs l)→φ r):=⟨by
  rintro h0 φ hk
  unfold oM
  exact Ok.go⟩
instance zJg (a:zA):Tot (tO a) (SA a) (fun φ=>∀ r,SA r→r.Coefs.length=a.Coefs.length→φ r):=⟨by
  rintro h0 φ hk
  obtain ⟨h00,h01⟩:=h0
  unfold tO
  exact Ok.go⟩
theorem zCG (a:zJ) (h0:SC a):∀ (k:Nat) (i:Int) (Subs:List zA),Tot (wC a i Subs) ((a.Subs.length:Int) - i < (k:Int)∧0 < (k:Int)∧0 ≤ i∧(Subs.length:Int)=i∧i ≤ a.Subs.length∧(∀ s ∈ Subs,SA s)) (fun φ=>∀ r,r.length ≤ 100→(∀ s ∈ r,SA s)→φ r):=by
  obtain ⟨h01,h02,h03⟩:=h0;intro k
  induction k with
  | zero=>intro i Subs; exact ⟨fun h=>absurd h.2.1 (by omega)⟩
  | succ k ih =>
    intro i Subs; refine ⟨?_⟩; rintro ⟨v0,v1,v2,v3,v4,v5⟩ φ hk; unfold wC;exact Ok.go
instance zI8 (a:zJ) (i:Int) (Subs:List zA):Tot (wC a i Subs) (SC a∧0 ≤ i∧(Subs.length:Int)=i∧i ≤ a.Subs.length∧(∀ s ∈ Subs,SA s)) (fun φ=>∀ r,r.length ≤ 100→(∀ s ∈ r,SA s)→φ r):=⟨by
  rintro ⟨h0,v0,v1,v2,v3⟩ φ hk
  exact (zCG a h0 (((a.Subs.length:Int) - i).toNat + 1) i Subs).ok ⟨by omega,by omega,v0,v1,v2,v3⟩ φ hk⟩
instance zJh (a:zJ):Tot (uJ a) (SC a) (fun φ=>∀ r,SC r→φ r):=⟨by
  rintro h0 φ hk
  have h00:=h0.1
  unfold uJ
  exact Ok.go⟩
def RN:Nat→Nat
  | 0=>1
  | n + 1=>10 * RN n + 1
theorem zHs:∀ (n:Nat) (out:List zJ) (e:zG),Tot (sA out e) (SE n e∧out.length + RN n ≤ 10000000∧∀ s ∈ out,SC s) (fun φ=>∀ r,r.length ≤ out.length + RN n→(∀ s ∈ r,SC s)→φ r):=by
  intro n
  induction n with
  | zero =>
    intro out e;refine ⟨?_⟩;rintro ⟨⟨h1,h2,h3⟩,ho,hs⟩ φ hk;unfold sA;dsimp only [same];simp only [RN] at ho hk;have hl:∀ o:List zJ,Tot (wG e o 0) True (fun φ=>φ o):=by
      intro o;refine ⟨?_⟩;rintro - φ hk;unfold wG;rw [h3];exact Ok.pure hk
    exact Ok.go
  | succ n ih =>
    intro out e;refine ⟨?_⟩;rintro ⟨⟨h1,h2,h3,h4⟩,ho,hs⟩ φ hk;unfold sA;dsimp only [same];simp only [RN] at ho hk;have hl:∀ (k:Nat) (i:Int) (o:List zJ),Tot (wG e o i) (((e.Kids.length:Int) - i ≤ k∧0 ≤ i∧k ≤ 10)∧o.length + k * RN n ≤ 10000000∧∀ s ∈ o,SC s) (fun φ=>∀ r,r.length ≤ o.length + k * RN n→(∀ s ∈ r,SC s)→φ r):=by
      intro k
      induction k with
      | zero =>
        intro i o; refine ⟨?_⟩; rintro ⟨⟨a1,a2,a3⟩,a4,a5⟩ φ hk; unfold wG; dsimp only [same];exact Ok.go
      | succ k ik =>
        intro i o; refine ⟨?_⟩; rintro ⟨⟨a1,a2,a3⟩,a4,a5⟩ φ hk; unfold wG; dsimp only [same];have e1:(k + 1) * RN n=k * RN n + RN n:=by rw [Nat.add_mul,Nat.one_mul]
        rw [e1] at a4 hk;exact Ok.go
    have hl:=hl 10 0;exact Ok.go
instance zLv (e:zG):Tot (sA [] e) (SE 5 e) (fun φ=>∀ r,r.length ≤ 111111→(∀ s ∈ r,SC s)→φ r):=⟨fun h φ hk=>(zHs 5 [] e).ok ⟨h,by decide,S⟩ φ fun r h1 h2=>hk r (by simp [RN] at h1; omega) h2⟩
theorem zG1 (a:zH) (h0:SR a):∀ (k:Nat) (n:Int) (i:Int),Tot (tM a n i) ((a.Dims.length:Int) - i < (k:Int)∧0 < (k:Int)∧0 ≤ i) (fun φ=>∀ r,φ r):=by
  have h0:=h0.2;intro k
  induction k with
  | zero=>intro n i; exact ⟨fun h=>absurd h.2.1 (by omega)⟩
  | succ k ih =>
    intro n i; refine ⟨?_⟩; rintro ⟨v0,v1,v2⟩ φ hk; unfold tM;exact Ok.go
instance zLG (a:zH) (n:Int) (i:Int):Tot (tM a n i) (SR a∧0 ≤ i) (fun φ=>∀ r,φ r):=⟨by
  rintro ⟨h0,v0⟩ φ hk
  exact (zG1 a h0 (((a.Dims.length:Int) - i).toNat + 1) n i).ok ⟨by omega,by omega,v0⟩ φ hk⟩
instance zMO (a:zH):Tot (mK a) (SR a) (fun φ=>∀ r,φ r):=⟨by
  rintro h0 φ hk
  unfold mK
  exact Ok.go⟩
theorem zG2 (a:zA) (point:List Int) (h0:SA a):∀ (k:Nat) (n:Int) (i:Int),Tot (tK a point n i) ((a.Coefs.length:Int) - i < (k:Int)∧0 < (k:Int)∧I64 n∧0 ≤ i) (fun φ=>∀ r,I64 r→φ r):=by
  have h0:=h0.1;intro k
  induction k with
  | zero=>intro n i; exact ⟨fun h=>absurd h.2.1 (by omega)⟩
  | succ k ih =>
    intro n i; refine ⟨?_⟩; rintro ⟨v0,v1,v2,v3⟩ φ hk; unfold tK;exact Ok.go
instance zLH (a:zA) (point:List Int) (n:Int) (i:Int):Tot (tK a point n i) (SA a∧I64 n∧0 ≤ i) (fun φ=>∀ r,I64 r→φ r):=⟨by
  rintro ⟨h0,v0,v1⟩ φ hk
  exact (zG2 a point h0 (((a.Coefs.length:Int) - i).toNat + 1) n i).ok ⟨by omega,by omega,v0,v1⟩ φ hk⟩
instance zMP (a:zA) (point:List Int):Tot (rD a point) (SA a) (fun φ=>∀ r,I64 r→φ r):=⟨by
  rintro h0 φ hk
  have h1:=h0.2
  unfold rD
  exact Ok.go⟩
theorem zG3 (list:List zH) (a:zJ) (point:List Int) (i:Int) (h0:SC a) (h1:0 ≤ i) (h2:i < (list.length:Int)):∀ (k:Nat) (n:Int) (k0:Int),Tot (uO list a point i n k0) ((a.Subs.length:Int) - k0 < (k:Int)∧0 < (k:Int)∧0 ≤ k0) (fun φ=>(∀ r,φ (.done r))∧(∀ r,φ (.ret r))):=by
  obtain ⟨h01,h02,h03⟩:=h0;intro k
  induction k with
  | zero=>intro n k0; exact ⟨fun h=>absurd h.2.1 (by omega)⟩
  | succ k ih =>
    intro n k0; refine ⟨?_⟩; rintro ⟨v0,v1,v2⟩ φ ⟨hd,hr⟩; unfold uO;exact Ok.go
instance zLI (list:List zH) (a:zJ) (point:List Int) (i:Int) (n:Int) (k0:Int):Tot (uO list a point i n k0) (SC a∧0 ≤ i∧i < (list.length:Int)∧0 ≤ k0) (fun φ=>(∀ r,φ (.done r))∧(∀ r,φ (.ret r))):=⟨by
  rintro ⟨h0,h1,h2,v0⟩ φ hk
  exact (zG3 list a point i h0 h1 h2 (((a.Subs.length:Int) - k0).toNat + 1) n k0).ok ⟨by omega,by omega,v0⟩ φ hk⟩
theorem zG4 (list:List zH) (a:zJ) (point:List Int) (h0:SC a) (h1:SRs 1000 list):∀ (k:Nat) (base:Int) (i:Int),Tot (uP list a point base i) ((list.length:Int) - i < (k:Int)∧0 < (k:Int)∧0 ≤ i) (fun φ=>(φ (.done ()))∧(∀ r,φ (.ret r))):=by
  obtain ⟨h10,h11⟩:=h1;intro k
  induction k with
  | zero=>intro base i; exact ⟨fun h=>absurd h.2.1 (by omega)⟩
  | succ k ih =>
    intro base i; refine ⟨?_⟩; rintro ⟨v0,v1,v2⟩ φ ⟨hd,hr⟩; unfold uP;exact Ok.go
instance zLJ (list:List zH) (a:zJ) (point:List Int) (base:Int) (i:Int):Tot (uP list a point base i) (SC a∧SRs 1000 list∧0 ≤ i) (fun φ=>(φ (.done ()))∧(∀ r,φ (.ret r))):=⟨by
  rintro ⟨h0,h1,v0⟩ φ hk
  exact (zG4 list a point h0 h1 (((list.length:Int) - i).toNat + 1) base i).ok ⟨by omega,by omega,v0⟩ φ hk⟩
instance zMQ (list:List zH) (a:zJ) (point:List Int):Tot (nC list a point) (SC a∧SRs 1000 list) (fun φ=>∀ r,φ r):=⟨by
  rintro ⟨h0,h1⟩ φ hk
  unfold nC
  exact Ok.go⟩
theorem zFu (list:List zH) (point:List Int) (y:List zJ) (h0:y.length ≤ 111111) (h1:∀ s ∈ y,SC s) (h2:SRs 1000 list):∀ (k:Nat) (out:List Int) (i:Int),Tot (uX list point y out i) ((y.length:Int) - i < (k:Int)∧0 < (k:Int)∧0 ≤ i∧(out.length:Int)=i∧i ≤ (y.length:Int)) (fun φ=>(∀ o,o.length ≤ 111111→φ (.done o))∧(φ (.ret ([],0,false)))):=by
  intro k
  induction k with
  | zero=>intro out i; exact ⟨fun h=>absurd h.2.1 (by omega)⟩
  | succ k ih =>
    intro out i; refine ⟨?_⟩; rintro ⟨v0,v1,v2,v3,v4⟩ φ ⟨hd,hr⟩; unfold uX;exact Ok.go
instance zKa (list:List zH) (point:List Int) (y:List zJ) (out:List Int) (i:Int):Tot (uX list point y out i) (y.length ≤ 111111∧(∀ s ∈ y,SC s)∧SRs 1000 list∧0 ≤ i∧(out.length:Int)=i∧i ≤ (y.length:Int)) (fun φ=>(∀ o,o.length ≤ 111111→φ (.done o))∧(φ (.ret ([],0,false)))):=⟨by
  rintro ⟨h0,h1,h2,v0,v1,v2⟩ φ hk
  exact (zFu list point y h0 h1 h2 (((y.length:Int) - i).toNat + 1) out i).ok ⟨by omega,by omega,v0,v1,v2⟩ φ hk⟩
instance zLw (list:List zH) (s:zQ) (point:List Int):Tot (oG list s point) (SS s∧SRs 1000 list) (fun φ=>∀ a b c,a.length ≤ 111111→φ (a,b,c)):=⟨by
  rintro ⟨h0,h1⟩ φ hk
  obtain ⟨h00,h01⟩:=h0
  unfold oG
  exact Ok.go⟩
theorem zFv (loop:zD) (p2:List Int) (h0:LL loop.Lo):∀ (k:Nat) (lo:Int) (i:Int),Tot (uU loop p2 lo i) ((loop.Lo.length:Int) - i < (k:Int)∧0 < (k:Int)∧I64 lo∧0 ≤ i) (fun φ=>∀ r,I64 r→φ r):=by
  obtain ⟨h00,h01⟩:=h0;intro k
  induction k with
  | zero=>intro lo i; exact ⟨fun h=>absurd h.2.1 (by omega)⟩
  | succ k ih =>
    intro lo i; refine ⟨?_⟩; rintro ⟨v0,v1,v2,v3⟩ φ hk; unfold uU;exact Ok.go
instance zKb (loop:zD) (p2:List Int) (lo:Int) (i:Int):Tot (uU loop p2 lo i) (LL loop.Lo∧I64 lo∧0 ≤ i) (fun φ=>∀ r,I64 r→φ r):=⟨by
  rintro ⟨h0,v0,v1⟩ φ hk
  exact (zFv loop p2 h0 (((loop.Lo.length:Int) - i).toNat + 1) lo i).ok ⟨by omega,by omega,v0,v1⟩ φ hk⟩
theorem zFw (loop:zD) (p2:List Int) (h0:LL loop.Hi):∀ (k:Nat) (hi:Int) (i:Int),Tot (uV loop p2 hi i) ((loop.Hi.length:Int) - i < (k:Int)∧0 < (k:Int)∧I64 hi∧0 ≤ i) (fun φ=>∀ r,I64 r→φ r):=by
  obtain ⟨h00,h01⟩:=h0;intro k
  induction k with
  | zero=>intro hi i; exact ⟨fun h=>absurd h.2.1 (by omega)⟩
  | succ k ih =>
    intro hi i; refine ⟨?_⟩; rintro ⟨v0,v1,v2,v3⟩ φ hk; unfold uV;exact Ok.go
instance zKc (loop:zD) (p2:List Int) (hi:Int) (i:Int):Tot (uV loop p2 hi i) (LL loop.Hi∧I64 hi∧0 ≤ i) (fun φ=>∀ r,I64 r→φ r):=⟨by
  rintro ⟨h0,v0,v1⟩ φ hk
  exact (zFw loop p2 h0 (((loop.Hi.length:Int) - i).toNat + 1) hi i).ok ⟨by omega,by omega,v0,v1⟩ φ hk⟩
instance zEa (loop:zD) (p2:List Int):Tot (oF loop p2) (SL1 loop∧1 ≤ loop.Lo.length∧1 ≤ loop.Hi.length) (fun φ=>∀ a b,I64 a→I64 b→φ (a,b)):=⟨by
  rintro ⟨h0,h1,h2⟩ φ hk
  have h00:=h0; obtain ⟨⟨h01,h02⟩,⟨h03,h04⟩⟩:=h0
  unfold oF
  exact Ok.go⟩
instance zL7 (n:Int) (most:Int):Tot (vM n most) (0 ≤ most∧most ≤ 1000000) (fun φ=>∀ r,(r=true→I64 n)→φ r):=⟨by
  rintro ⟨h0,h1⟩ φ hk
  unfold vM
  exact Ok.go⟩
theorem zCl (a:zA) (h0:SA a):∀ (k:Nat) (i:Int),Tot (wH a i) ((a.Coefs.length:Int) - i < (k:Int)∧0 < (k:Int)∧0 ≤ i) (fun φ=>(AF a.Coefs i I64→φ (.done ()))∧(φ (.ret false))):=by
  have h01:=h0.1;intro k
  induction k with
  | zero=>intro i; exact ⟨fun h=>absurd h.2.1 (by omega)⟩
  | succ k ih =>
    intro i; refine ⟨?_⟩; rintro ⟨v0,v1,v2⟩ φ ⟨hd,hr⟩; unfold wH;exact Ok.go
instance zIn (a:zA) (i:Int):Tot (wH a i) (SA a∧0 ≤ i) (fun φ=>(AF a.Coefs i I64→φ (.done ()))∧(φ (.ret false))):=⟨by
  rintro ⟨h0,v0⟩ φ hk
  exact (zCl a h0 (((a.Coefs.length:Int) - i).toNat + 1) i).ok ⟨by omega,by omega,v0⟩ φ hk⟩
instance zFD (a:zA):Tot (uB a) (SA a) (fun φ=>∀ r,(r=true→VA a)→φ r):=⟨by
  rintro h0 φ hk
  have h00:=h0.2
  unfold uB
  exact Ok.go⟩
theorem zFx (a:zA) (h0:SA a):∀ (k:Nat) (n:Int) (i:Int),Tot (uW a n i) ((a.Coefs.length:Int) - i < (k:Int)∧0 < (k:Int)∧0 ≤ i) (fun φ=>∀ r,φ r):=by
  have h01:=h0.1;intro k
  induction k with
  | zero=>intro n i; exact ⟨fun h=>absurd h.2.1 (by omega)⟩
  | succ k ih =>
    intro n i; refine ⟨?_⟩; rintro ⟨v0,v1,v2⟩ φ hk; unfold uW;exact Ok.go
instance zKd (a:zA) (n:Int) (i:Int):Tot (uW a n i) (SA a∧0 ≤ i) (fun φ=>∀ r,φ r):=⟨by
  rintro ⟨h0,v0⟩ φ hk
  exact (zFx a h0 (((a.Coefs.length:Int) - i).toNat + 1) n i).ok ⟨by omega,by omega,v0⟩ φ hk⟩
instance zLx (a:zA):Tot (qF a) (SA a) (fun φ=>∀ r,φ r):=⟨by
  rintro h0 φ hk
  unfold qF
  exact Ok.go⟩
theorem zG5 (list:List zA) (depth:Int) (h0:LL list):∀ (k:Nat) (i:Int),Tot (tL list depth i) ((list.length:Int) - i < (k:Int)∧0 < (k:Int)∧0 ≤ i) (fun φ=>(AF list i VA→φ (.done ()))∧(φ (.ret false))):=by
  obtain ⟨h01,h02⟩:=h0;intro k
  induction k with
  | zero=>intro i; exact ⟨fun h=>absurd h.2.1 (by omega)⟩
  | succ k ih =>
    intro i; refine ⟨?_⟩; rintro ⟨v0,v1,v2⟩ φ ⟨hd,hr⟩; unfold tL;exact Ok.go
instance zLK (list:List zA) (depth:Int) (i:Int):Tot (tL list depth i) (LL list∧0 ≤ i) (fun φ=>(AF list i VA→φ (.done ()))∧(φ (.ret false))):=⟨by
  rintro ⟨h0,v0⟩ φ hk
  exact (zG5 list depth h0 (((list.length:Int) - i).toNat + 1) i).ok ⟨by omega,by omega,v0⟩ φ hk⟩
instance zMR (list:List zA) (depth:Int):Tot (nB list depth) (LL list) (fun φ=>∀ r,(r=true→VL list)→φ r):=⟨by
  rintro h0 φ hk
  unfold nB
  exact Ok.go⟩
theorem zEY (nest:List zD) (h0:SN 1000 nest):∀ (k:Nat) (i:Int),Tot (wN nest i) ((nest.length:Int) - i < (k:Int)∧0 < (k:Int)∧0 ≤ i) (fun φ=>(((nest.length:Int) ≤ 4→AF nest i VL1)→φ (.done ()))∧(φ (.ret false))):=by
  obtain ⟨h00,h01⟩:=h0;intro k
  induction k with
  | zero=>intro i; exact ⟨fun h=>absurd h.2.1 (by omega)⟩
  | succ k ih =>
    intro i; refine ⟨?_⟩; rintro ⟨v0,v1,v2⟩ φ ⟨hd,hr⟩; unfold wN;exact Ok.go
instance zJi (nest:List zD) (i:Int):Tot (wN nest i) (SN 1000 nest∧0 ≤ i) (fun φ=>(((nest.length:Int) ≤ 4→AF nest i VL1)→φ (.done ()))∧(φ (.ret false))):=⟨by
  rintro ⟨h0,v0⟩ φ hk
  exact (zEY nest h0 (((nest.length:Int) - i).toNat + 1) i).ok ⟨by omega,by omega,v0⟩ φ hk⟩
instance zLL (nest:List zD):Tot (pC nest) (SN 1000 nest) (fun φ=>∀ r,(r=true→VN nest)→φ r):=⟨by
  rintro h0 φ hk
  unfold pC
  exact Ok.go⟩
theorem VN.get {nest:List zD}{x:zD} (h:VN nest) (hx:x ∈ nest):1 ≤ x.Lo.length∧1 ≤ x.Hi.length:=⟨(h.2 x hx).1.1,(h.2 x hx).2.1⟩
theorem zHR (nest:List zD) (hn:SN 1000 nest) (hv:VN nest):∀ (d:Nat) (o:List (List Int)) (p2:List Int),Tot (vL o nest p2) (p2.length + d=nest.length∧o.length ≤ 120∧(∀ q ∈ o,q.length ≤ 4)) (fun φ=>∀ r,r.length ≤ 121→(∀ q ∈ r,q.length ≤ 4)→φ r):=by
  obtain ⟨hn1,hn2⟩:=hn;have hv1:=hv.1;intro d
  induction d with
  | zero =>
    intro o p2;refine ⟨?_⟩;rintro ⟨hp,ho,hq⟩ φ hk;unfold vL;dsimp only [same];exact Ok.ite_beq (fun h=>Ok.go) fun h=>absurd h (by omega)
  | succ d ih =>
    intro o p2;refine ⟨?_⟩;rintro ⟨hp,ho,hq⟩ φ hk;unfold vL;dsimp only [same];have hloop:∀ (y2:Int) (k:Nat) (v:Int) (o:List (List Int)),Tot (tE nest p2 y2 o v) ((y2 - v ≤ k∧I64 v∧I64 y2∧o.length ≤ 121)∧(∀ q ∈ o,q.length ≤ 4)) (fun φ=>∀ r,r.length ≤ 121→(∀ q ∈ r,q.length ≤ 4)→φ r):=by
      intro y2 k
      induction k with
      | zero=>intro v o; refine ⟨?_⟩; rintro ⟨⟨a1,⟨a2,a5⟩,⟨a6,a7⟩,a3⟩,a4⟩ φ hk; unfold tE; dsimp only [same]; exact Ok.go
      | succ k ik =>
        intro v o; refine ⟨?_⟩; rintro ⟨⟨a1,⟨a2,a5⟩,⟨a6,a7⟩,a3⟩,a4⟩ φ hk; unfold tE; dsimp only [same]; exact Ok.go
    refine Ok.ite_beq (fun h=>absurd h (by omega)) fun h=>Ok.idx (by omega) (by omega) fun x hx _=>?_;obtain ⟨g1,g2⟩:=VN.get hv hx;refine Ok.call (zEa x p2) ⟨hn2 x hx,g1,g2⟩ ?_;intro a b ha hb;have hloop:=hloop b (b - a).toNat;exact Ok.go
instance zL8 (nest:List zD):Tot (vL [] nest []) (SN 1000 nest∧VN nest) (fun φ=>∀ r,r.length ≤ 121→(∀ q ∈ r,q.length ≤ 4)→φ r):=⟨fun ⟨h,hv⟩ φ hk=>(zHR nest h hv nest.length [] []).ok ⟨by simp,by simp,by simp⟩ φ hk⟩
theorem zIo (nest:List zD) (hn:SN 1000 nest) (hv:VN nest):∀ (d:Nat) (p2:List Int) (most:Int),Tot (sF nest p2 most) (p2.length + d=nest.length) (fun φ=>∀ r,φ r):=by
  obtain ⟨hn1,hn2⟩:=hn;have hv1:=hv.1;intro d
  induction d with
  | zero =>
    intro p2 most;refine ⟨?_⟩;rintro hp φ hk;unfold sF;dsimp only [same];exact Ok.ite_beq (fun h=>Ok.go) fun h=>absurd h (by omega)
  | succ d ih =>
    intro p2 most;refine ⟨?_⟩;rintro hp φ hk;unfold sF;dsimp only [same];have hloop:∀ (y2:Int) (k:Nat) (n v:Int),Tot (sK nest p2 most y2 n v) (y2 - v ≤ k∧I64 v∧I64 y2) (fun φ=>∀ r,φ r):=by
      intro y2 k
      induction k with
      | zero=>intro n v; refine ⟨?_⟩; rintro ⟨a1,⟨a2,a5⟩,⟨a6,a7⟩⟩ φ hk; unfold sK; dsimp only [same]; exact Ok.go
      | succ k ik =>
        intro n v; refine ⟨?_⟩; rintro ⟨a1,⟨a2,a5⟩,⟨a6,a7⟩⟩ φ hk; unfold sK; dsimp only [same]; exact Ok.go
    refine Ok.ite_beq (fun h=>absurd h (by omega)) fun h=>Ok.idx (by omega) (by omega) fun x hx _=>?_;obtain ⟨g1,g2⟩:=VN.get hv hx;refine Ok.call (zEa x p2) ⟨hn2 x hx,g1,g2⟩ ?_;intro a b ha hb;have hloop:=hloop b (b - a).toNat;exact Ok.go
instance zMS (nest:List zD) (most:Int):Tot (sF nest [] most) (SN 1000 nest∧VN nest) (fun φ=>∀ r,φ r):=⟨fun ⟨h,hv⟩ φ hk=>(zIo nest h hv nest.length [] most).ok (by simp) φ hk⟩
instance zKe (nest:List zD):Tot (qG nest) (SN 1000 nest) (fun φ=>∀ a b,a.length ≤ 120→(∀ q ∈ a,q.length ≤ 4)→(b=true→VN nest)→φ (a,b)):=⟨by
  rintro h0 φ hk
  unfold qG
  exact Ok.go⟩
theorem zFE (a:zJ) (depth:Int) (h0:SC a):∀ (k:Nat) (i:Int),Tot (uC a depth i) ((a.Subs.length:Int) - i < (k:Int)∧0 < (k:Int)∧0 ≤ i) (fun φ=>(AF a.Subs i VA→φ (.done ()))∧(φ (.ret false))):=by
  obtain ⟨h01,h02,h03⟩:=h0;intro k
  induction k with
  | zero=>intro i; exact ⟨fun h=>absurd h.2.1 (by omega)⟩
  | succ k ih =>
    intro i; refine ⟨?_⟩; rintro ⟨v0,v1,v2⟩ φ ⟨hd,hr⟩; unfold uC;exact Ok.go
instance zKC (a:zJ) (depth:Int) (i:Int):Tot (uC a depth i) (SC a∧0 ≤ i) (fun φ=>(AF a.Subs i VA→φ (.done ()))∧(φ (.ret false))):=⟨by
  rintro ⟨h0,v0⟩ φ hk
  exact (zFE a depth h0 (((a.Subs.length:Int) - i).toNat + 1) i).ok ⟨by omega,by omega,v0⟩ φ hk⟩
instance zL9 (a:zJ) (depth:Int):Tot (qS a depth) (SC a) (fun φ=>∀ r,(r=true→VC a)→φ r):=⟨by
  rintro h0 φ hk
  unfold qS
  exact Ok.go⟩
instance zFy (kind:Int):Tot (mJ kind) (True) (fun φ=>∀ r,(r=0∧(kind=1∨kind=2∨kind=3))∨(r=2∧(kind=4∨kind=5∨kind=6))∨r=-1→φ r):=⟨by
  rintro _ φ hk
  unfold mJ
  exact Ok.go⟩
instance zLy (a:zJ):Tot (qH a) (True) (fun φ=>∀ r:Bool,φ r):=⟨by
  rintro _ φ hk
  unfold qH
  exact Ok.go⟩
instance zMT (a:zA):Tot (pY a) (True) (fun φ=>∀ r:Bool,φ r):=⟨by
  rintro _ φ hk
  unfold pY
  exact Ok.go⟩
instance zGx (e:zG) (depth:Int):Tot (kM e depth) (SA e.Index∧SC e.Read) (fun φ=>∀ r,(r=true→e.Kind=1→I64 e.Num)→(r=true→e.Kind=2→VA e.Index)→(r=true→e.Kind=3→VC e.Read)→φ r):=⟨by
  rintro ⟨h0,h1⟩ φ hk
  unfold kM
  exact Ok.go⟩
theorem zHt:∀ (n:Nat) (e:zG) (depth levels:Int),Tot (tI e depth levels) (SE n e∧levels ≤ 100) (fun φ=>∀ r,(r=true→VE n e)→φ r):=by
  intro n
  induction n with
  | zero =>
    intro e depth levels;refine ⟨?_⟩;rintro ⟨⟨h1,h2,h3⟩,hlv⟩ φ hk;have hl:∀ lv,Tot (vU e depth lv 0) True (fun φ=>φ (.done ())):=by
      intro lv;refine ⟨?_⟩;rintro - φ hk;unfold vU;rw [h3];exact Ok.pure hk
    have hlen:e.Kids.length=0:=by rw [h3]; rfl
    unfold tI;dsimp only [same];refine Ok.bind (φ:=fun b=>b=false→VO e) ?_ ?_
    · refine Ok.ite_dec (fun h=>Ok.pure fun h=>by cases h) fun h=>Ok.call (zFy _) trivial ?_;intro r hr;refine Ok.ite_bne (fun h=>Ok.pure fun h=>by cases h) fun h=>Ok.call (zGx e depth) ⟨h1,h2⟩ ?_;intro b b1 b2 b3;refine Ok.pure fun hb=>?_;have hb:b=true:=by simpa using hb
      have:e.Kind=1∨e.Kind=2∨e.Kind=3:=by omega
      rcases this with h | h | h
      · exact .inl ⟨h,b1 hb h⟩
      · exact .inr (.inl ⟨h,b2 hb h⟩)
      · exact .inr (.inr ⟨h,b3 hb h⟩)
    · intro b hb;refine Ok.ite (fun _=>Ok.pure (hk _ fun h=>by cases h)) fun hz=>?_;have hz:VO e:=hb (by simpa using hz);exact Ok.go
  | succ n ih =>
    intro e depth levels;refine ⟨?_⟩;rintro ⟨⟨h1,h2,h3,h4⟩,hlv⟩ φ hk;unfold tI;dsimp only [same];refine Ok.bind (φ:=fun b=>b=false→1 ≤ levels∧(VO e∨((e.Kind=4∨e.Kind=5∨e.Kind=6)∧e.Kids.length=2))) ?_ ?_
    · refine Ok.ite_dec (fun h=>Ok.pure fun h=>by cases h) fun h=>Ok.call (zFy _) trivial ?_;intro r hr;refine Ok.ite_bne (fun h=>Ok.pure fun h=>by cases h) fun h=>Ok.call (zGx e depth) ⟨h1,h2⟩ ?_;intro b b1 b2 b3;refine Ok.pure fun hb=>⟨by omega,?_⟩;have hb:b=true:=by simpa using hb
      have:e.Kind=1∨e.Kind=2∨e.Kind=3∨((e.Kind=4∨e.Kind=5∨e.Kind=6)∧e.Kids.length=2):=by omega
      rcases this with h | h | h | h
      · exact .inl (.inl ⟨h,b1 hb h⟩)
      · exact .inl (.inr (.inl ⟨h,b2 hb h⟩))
      · exact .inl (.inr (.inr ⟨h,b3 hb h⟩))
      · exact .inr h
    · intro b hb;refine Ok.ite (fun _=>Ok.pure (hk _ fun h=>by cases h)) fun hz=>?_;obtain ⟨g1,g2⟩:=hb (by simpa using hz);have hl:∀ (k:Nat) (i:Int),Tot (vU e depth levels i) ((e.Kids.length:Int) - i ≤ k∧0 ≤ i) (fun φ=>(AF e.Kids i (VE n)→φ (.done ()))∧φ (.ret false)):=by
        intro k
        induction k with
        | zero=>intro i; refine ⟨?_⟩; rintro ⟨a1,a2⟩ φ ⟨hd,hr⟩; unfold vU; dsimp only [same]; exact Ok.go
        | succ k ik =>
          intro i; refine ⟨?_⟩; rintro ⟨a1,a2⟩ φ ⟨hd,hr⟩; unfold vU; dsimp only [same]; exact Ok.go
      refine Ok.call (hl _ 0) ⟨Int.le_of_eq (Int.sub_zero _),by omega⟩ ⟨fun hA=>Ok.pure (hk _ fun _=>?_),Ok.pure (hk _ fun h=>by cases h)⟩;exact g2.elim .inl fun g=>.inr ⟨g.1,g.2,AF.all hA⟩
instance zLa (e:zG) (depth levels:Int):Tot (tI e depth levels) (SE 5 e∧levels ≤ 100) (fun φ=>∀ r,(r=true→VE 5 e)→φ r):=zHt 5 e depth levels
theorem zHu:∀ (n:Nat) (e:zG) (levels:Int),Tot (tZ e levels) (SE n e∧levels ≤ 100) (fun φ=>∀ r,φ r):=by
  intro n
  induction n with
  | zero =>
    intro e levels;refine ⟨?_⟩;rintro ⟨⟨h1,h2,h3⟩,hlv⟩ φ hk;unfold tZ;dsimp only [same];unfold vV;have hlen:e.Kids.length=0:=by rw [h3]; rfl
    rw [hlen];exact Ok.go
  | succ n ih =>
    intro e levels;refine ⟨?_⟩;rintro ⟨⟨h1,h2,h3,h4⟩,hlv⟩ φ hk;unfold tZ;dsimp only [same];have hl:∀ (k:Nat) (m i:Int),Tot (vV e levels m i) ((e.Kids.length:Int) - i ≤ k∧0 ≤ i) (fun φ=>∀ r,φ r):=by
      intro k
      induction k with
      | zero=>intro m i; refine ⟨?_⟩; rintro ⟨a1,a2⟩ φ hk; unfold vV; dsimp only [same]; exact Ok.go
      | succ k ik=>intro m i; refine ⟨?_⟩; rintro ⟨a1,a2⟩ φ hk; unfold vV; dsimp only [same]; exact Ok.go
    have hl:=hl e.Kids.length;exact Ok.go
instance zLb (e:zG) (levels:Int):Tot (tZ e levels) (SE 5 e∧levels ≤ 100) (fun φ=>∀ r,φ r):=zHu 5 e levels
instance zCQ (s:zQ) (depth:Int):Tot (sL s depth) (SS s) (fun φ=>∀ r,(r=true→VS s)→φ r):=⟨by
  rintro h0 φ hk
  unfold sL
  exact Ok.go⟩
theorem zFz (p:List Int) (h0:p.length ≤ 4):∀ (k:Nat) (i:Int),Tot (uY p i) ((p.length:Int) - i < (k:Int)∧0 < (k:Int)∧0 ≤ i) (fun φ=>(φ (.done ()))∧(φ (.ret false))):=by
  intro k
  induction k with
  | zero=>intro i; exact ⟨fun h=>absurd h.2.1 (by omega)⟩
  | succ k ih =>
    intro i; refine ⟨?_⟩; rintro ⟨v0,v1,v2⟩ φ ⟨hd,hr⟩; unfold uY;exact Ok.go
instance zKf (p:List Int) (i:Int):Tot (uY p i) (p.length ≤ 4∧0 ≤ i) (fun φ=>(φ (.done ()))∧(φ (.ret false))):=⟨by
  rintro ⟨h0,v0⟩ φ hk
  exact (zFz p h0 (((p.length:Int) - i).toNat + 1) i).ok ⟨by omega,by omega,v0⟩ φ hk⟩
instance zLz (p:List Int):Tot (nK p) (p.length ≤ 4) (fun φ=>∀ r:Bool,φ r):=⟨by
  rintro h0 φ hk
  unfold nK
  exact Ok.go⟩
theorem zG6 (list:List zH) (part:zN) (y1:List (List Int)) (i:Int) (h0:SRs 1000 list) (h1:SP 1000 part) (h2:y1.length ≤ 121) (h3:∀ q ∈ y1,q.length ≤ 4) (h4:0 ≤ i) (h5:i < (part.Body.length:Int)):∀ (k:Nat) (k0:Int),Tot (uQ list part y1 i k0) ((y1.length:Int) - k0 < (k:Int)∧0 < (k:Int)∧0 ≤ k0) (fun φ=>(φ (.done ()))∧(φ (.ret (0,false)))):=by
  obtain ⟨h11,h12,h13⟩:=h1;intro k
  induction k with
  | zero=>intro k0; exact ⟨fun h=>absurd h.2.1 (by omega)⟩
  | succ k ih =>
    intro k0; refine ⟨?_⟩; rintro ⟨v0,v1,v2⟩ φ ⟨hd,hr⟩; unfold uQ;exact Ok.go
instance zLM (list:List zH) (part:zN) (y1:List (List Int)) (i:Int) (k0:Int):Tot (uQ list part y1 i k0) (SRs 1000 list∧SP 1000 part∧y1.length ≤ 121∧(∀ q ∈ y1,q.length ≤ 4)∧0 ≤ i∧i < (part.Body.length:Int)∧0 ≤ k0) (fun φ=>(φ (.done ()))∧(φ (.ret (0,false)))):=⟨by
  rintro ⟨h0,h1,h2,h3,h4,h5,v0⟩ φ hk
  exact (zG6 list part y1 i h0 h1 h2 h3 h4 h5 (((y1.length:Int) - k0).toNat + 1) k0).ok ⟨by omega,by omega,v0⟩ φ hk⟩
theorem zG7 (list:List zH) (part:zN) (y1:List (List Int)) (h0:SRs 1000 list) (h1:SP 1000 part) (h2:y1.length ≤ 121) (h3:∀ q ∈ y1,q.length ≤ 4):∀ (k:Nat) (i:Int),Tot (uR list part y1 i) ((part.Body.length:Int) - i < (k:Int)∧0 < (k:Int)∧0 ≤ i) (fun φ=>(AF part.Body i VS→φ (.done ()))∧(φ (.ret (0,false)))):=by
  have h10:=h1; obtain ⟨h11,h12,h13⟩:=h1;intro k
  induction k with
  | zero=>intro i; exact ⟨fun h=>absurd h.2.1 (by omega)⟩
  | succ k ih =>
    intro i; refine ⟨?_⟩; rintro ⟨v0,v1,v2⟩ φ ⟨hd,hr⟩; unfold uR;exact Ok.go
instance zLN (list:List zH) (part:zN) (y1:List (List Int)) (i:Int):Tot (uR list part y1 i) (SRs 1000 list∧SP 1000 part∧y1.length ≤ 121∧(∀ q ∈ y1,q.length ≤ 4)∧0 ≤ i) (fun φ=>(AF part.Body i VS→φ (.done ()))∧(φ (.ret (0,false)))):=⟨by
  rintro ⟨h0,h1,h2,h3,v0⟩ φ hk
  exact (zG7 list part y1 h0 h1 h2 h3 (((part.Body.length:Int) - i).toNat + 1) i).ok ⟨by omega,by omega,v0⟩ φ hk⟩
instance zGA (list:List zH) (part:zN):Tot (pZ list part) (SRs 1000 list∧SP 1000 part) (fun φ=>∀ n b,(b=true→VP part)→φ (n,b)):=⟨by
  rintro ⟨h0,h1⟩ φ hk
  obtain ⟨h11,h12,h13⟩:=id h1
  unfold pZ
  exact Ok.go⟩
theorem zCH (p:zE) (h0:SG 1000 p):∀ (k:Nat) (total:Int) (i:Int),Tot (wD p total i) ((p.Parts.length:Int) - i < (k:Int)∧0 < (k:Int)∧0 ≤ i) (fun φ=>(∀ n,AF p.Parts i VP→φ (.done n))∧(φ (.ret false))):=by
  obtain ⟨h01,h02,h03⟩:=h0;intro k
  induction k with
  | zero=>intro total i; exact ⟨fun h=>absurd h.2.1 (by omega)⟩
  | succ k ih =>
    intro total i; refine ⟨?_⟩; rintro ⟨v0,v1,v2⟩ φ ⟨hd,hr⟩; unfold wD;exact Ok.go
instance zI9 (p:zE) (total:Int) (i:Int):Tot (wD p total i) (SG 1000 p∧0 ≤ i) (fun φ=>(∀ n,AF p.Parts i VP→φ (.done n))∧(φ (.ret false))):=⟨by
  rintro ⟨h0,v0⟩ φ hk
  exact (zCH p h0 (((p.Parts.length:Int) - i).toNat + 1) total i).ok ⟨by omega,by omega,v0⟩ φ hk⟩
instance zEZ (p:zE):Tot (tP p) (SG 1000 p) (fun φ=>∀ r,(r=true→VG p)→φ r):=⟨by
  rintro h0 φ hk
  obtain ⟨h01,h02,h03⟩:=id h0
  unfold tP
  exact Ok.go⟩
def InI (p:zE) (x:zK):Prop:=(0 ≤ x.Part∧x.Part < (p.Parts.length:Int))∧∀ q,p.Parts[x.Part.toNat]?=some q→0 ≤ x.Stmt∧x.Stmt < (q.Body.length:Int)
theorem InI.mk {p:zE}{x:zK}{q:zN} (h0:0 ≤ x.Part) (h1:x.Part < (p.Parts.length:Int)) (hq:p.Parts[x.Part.toNat]?=some q) (h2:0 ≤ x.Stmt) (h3:x.Stmt < (q.Body.length:Int)):InI p x :=
  ⟨⟨h0,h1⟩,fun q' h=>by rw [hq] at h; cases h; exact ⟨h2,h3⟩⟩
theorem zCm (p:zE) (i:Int) (y:List (List Int)) (k0:Int) (q:zN) (b:Nat) (h0:VP q) (h1:0 ≤ i) (h2:i < (p.Parts.length:Int)) (h3:p.Parts[i.toNat]?=some q) (h4:y.length ≤ 121) (h5:∀ q ∈ y,q.length ≤ 4) (h6:0 ≤ k0) (h7:k0 < (y.length:Int)):∀ (k:Nat) (out:List zK) (s:Int),Tot (wI p i y k0 out s) ((q.Body.length:Int) - s < (k:Int)∧0 < (k:Int)∧0 ≤ s∧s ≤ (q.Body.length:Int)∧(out.length:Int) ≤ b + s∧b ≤ 100000∧(∀ x ∈ out,InI p x)) (fun φ=>∀ r,r.length ≤ b + 4→(∀ x ∈ r,InI p x)→φ r):=by
  obtain ⟨h01,h02,h03⟩:=h0;intro k
  induction k with
  | zero=>intro out s; exact ⟨fun h=>absurd h.2.1 (by omega)⟩
  | succ k ih =>
    intro out s; refine ⟨?_⟩; rintro ⟨v0,v1,v2,v3,v4,v5,v6⟩ φ hk; unfold wI;refine Ok.idx_known h3 h1 ?_;refine Ok.ite_dec (fun hs=>?_) fun hs=>?_
    · refine Ok.idx (by omega) (by omega) fun x hx _=>?_;have hx4:=h5 x hx;refine Ok.app S ?_;refine Ok.app (by simp only [List.length_append,List.length_cons,List.length_nil]; omega) ?_;have hI:InI p (zK.mk i s ([] ++ x)):=InI.mk h1 h2 h3 v2 (by omega);have hW:W (s + 1)=s + 1:=rC (by omega) (by omega);rw [hW];exact Ok.go
    · exact Ok.go
theorem zCn (p:zE) (i:Int) (y:List (List Int)) (k0:Int) (q:zN) (b:Nat) (out:List zK) (s:Int):Tot (wI p i y k0 out s) (VP q∧0 ≤ i∧i < (p.Parts.length:Int)∧p.Parts[i.toNat]?=some q∧y.length ≤ 121∧(∀ q ∈ y,q.length ≤ 4)∧0 ≤ k0∧k0 < (y.length:Int)∧0 ≤ s∧s ≤ (q.Body.length:Int)∧(out.length:Int) ≤ b + s∧b ≤ 100000∧(∀ x ∈ out,InI p x)) (fun φ=>∀ r,r.length ≤ b + 4→(∀ x ∈ r,InI p x)→φ r):=⟨by
  rintro ⟨h0,h1,h2,h3,h4,h5,h6,h7,v0,v1,v2,v3,v4⟩ φ hk;exact (zCm p i y k0 q b h0 h1 h2 h3 h4 h5 h6 h7 (((q.Body.length:Int) - s).toNat + 1) out s).ok ⟨by omega,by omega,v0,v1,v2,v3,v4⟩ φ hk⟩
theorem zCo (p:zE) (i:Int) (y:List (List Int)) (q:zN) (b:Nat) (h0:VP q) (h1:0 ≤ i) (h2:i < (p.Parts.length:Int)) (h3:p.Parts[i.toNat]?=some q) (h4:y.length ≤ 121) (h5:∀ q ∈ y,q.length ≤ 4):∀ (k:Nat) (out:List zK) (k0:Int),Tot (wJ p i y out k0) ((y.length:Int) - k0 < (k:Int)∧0 < (k:Int)∧0 ≤ k0∧k0 ≤ (y.length:Int)∧(out.length:Int) ≤ b + 4 * k0∧b ≤ 10000∧(∀ x ∈ out,InI p x)) (fun φ=>∀ r,r.length ≤ b + 484→(∀ x ∈ r,InI p x)→φ r):=by
  intro k
  induction k with
  | zero=>intro out k0; exact ⟨fun h=>absurd h.2.1 (by omega)⟩
  | succ k ih =>
    intro out k0; refine ⟨?_⟩; rintro ⟨v0,v1,v2,v3,v4,v5,v6⟩ φ hk; unfold wJ;have tl:=fun o kk=>zCn p i y kk q o.length o 0;exact Ok.go
theorem zCp (p:zE) (i:Int) (y:List (List Int)) (q:zN) (b:Nat) (out:List zK) (k0:Int):Tot (wJ p i y out k0) (VP q∧0 ≤ i∧i < (p.Parts.length:Int)∧p.Parts[i.toNat]?=some q∧y.length ≤ 121∧(∀ q ∈ y,q.length ≤ 4)∧0 ≤ k0∧k0 ≤ (y.length:Int)∧(out.length:Int) ≤ b + 4 * k0∧b ≤ 10000∧(∀ x ∈ out,InI p x)) (fun φ=>∀ r,r.length ≤ b + 484→(∀ x ∈ r,InI p x)→φ r):=⟨by
  rintro ⟨h0,h1,h2,h3,h4,h5,v0,v1,v2,v3,v4⟩ φ hk;exact (zCo p i y q b h0 h1 h2 h3 h4 h5 (((y.length:Int) - k0).toNat + 1) out k0).ok ⟨by omega,by omega,v0,v1,v2,v3,v4⟩ φ hk⟩
theorem zCq (p:zE) (h0:SG 1000 p) (h1:VG p):∀ (k:Nat) (out:List zK) (i:Int),Tot (wK p out i) ((p.Parts.length:Int) - i < (k:Int)∧0 < (k:Int)∧0 ≤ i∧i ≤ (p.Parts.length:Int)∧(out.length:Int) ≤ 484 * i∧(∀ x ∈ out,InI p x)) (fun φ=>∀ r,r.length ≤ 2000→(∀ x ∈ r,InI p x)→φ r):=by
  obtain ⟨⟨h00,h01⟩,h02,h03⟩:=id h0; obtain ⟨h10,h11,h12⟩:=id h1;intro k
  induction k with
  | zero=>intro out i; exact ⟨fun h=>absurd h.2.1 (by omega)⟩
  | succ k ih =>
    intro out i; refine ⟨?_⟩; rintro ⟨v0,v1,v2,v3,v4,v5⟩ φ hk; unfold wK;refine Ok.ite_dec (fun hs=>?_) fun hs=>?_
    · refine Ok.idx (by omega) (by omega) fun q hq hqi=>?_;have tl:=fun y o=>zCp p i y q o.length o 0;have s1:=(h03 q hq).1;obtain ⟨s2,s3,s4⟩:=h12 q hq;have s5:VP q:=⟨s2,s3,s4⟩;exact Ok.go
    · exact Ok.go
instance zIp (p:zE) (out:List zK) (i:Int):Tot (wK p out i) (SG 1000 p∧VG p∧0 ≤ i∧i ≤ (p.Parts.length:Int)∧(out.length:Int) ≤ 484 * i∧(∀ x ∈ out,InI p x)) (fun φ=>∀ r,r.length ≤ 2000→(∀ x ∈ r,InI p x)→φ r):=⟨by
  rintro ⟨h0,h1,v0,v1,v2,v3⟩ φ hk
  exact (zCq p h0 h1 (((p.Parts.length:Int) - i).toNat + 1) out i).ok ⟨by omega,by omega,v0,v1,v2,v3⟩ φ hk⟩
instance zKD (p:zE):Tot (uD p) (SG 1000 p∧VG p) (fun φ=>∀ r,r.length ≤ 2000→(∀ x ∈ r,InI p x)→φ r):=⟨by
  rintro ⟨h0,h1⟩ φ hk
  unfold uD
  exact Ok.go⟩
theorem zG8 (p:zE) (y:List zK) (h0:SG 1000 p) (h1:VG p) (h2:y.length ≤ 2000) (h3:∀ x ∈ y,InI p x):∀ (k:Nat) (out:List xH) (i:Int),Tot (tN p y out i) ((y.length:Int) - i < (k:Int)∧0 < (k:Int)∧0 ≤ i∧i ≤ (y.length:Int)∧(out.length:Int)=i∧(∀ u ∈ out,u.reads.length ≤ 111111)) (fun φ=>∀ r,r.length ≤ 2000→(∀ u ∈ r,u.reads.length ≤ 111111)→φ r):=by
  obtain ⟨⟨h00,h01⟩,h02,h03⟩:=id h0; obtain ⟨h10,h11,h12⟩:=id h1;intro k
  induction k with
  | zero=>intro out i; exact ⟨fun h=>absurd h.2.1 (by omega)⟩
  | succ k ih =>
    intro out i; refine ⟨?_⟩; rintro ⟨v0,v1,v2,v3,v4,v5⟩ φ hk; unfold tN;refine Ok.ite_dec (fun hs=>?_) fun hs=>?_
    · refine Ok.idx (by omega) (by omega) fun x hx hxi=>?_;obtain ⟨⟨g0,g1⟩,g2⟩:=h3 x hx;refine Ok.idx g0 g1 fun q hq hqi=>?_;obtain ⟨g3,g4⟩:=g2 q hqi;refine Ok.idx_known hxi v2 (Ok.idx g3 g4 fun s hs _=>?_);have s1:=(h03 q hq).2.2 s hs;exact Ok.go
    · exact Ok.go
instance zLO (p:zE) (y:List zK) (out:List xH) (i:Int):Tot (tN p y out i) (SG 1000 p∧VG p∧y.length ≤ 2000∧(∀ x ∈ y,InI p x)∧0 ≤ i∧i ≤ (y.length:Int)∧(out.length:Int)=i∧(∀ u ∈ out,u.reads.length ≤ 111111)) (fun φ=>∀ r,r.length ≤ 2000→(∀ u ∈ r,u.reads.length ≤ 111111)→φ r):=⟨by
  rintro ⟨h0,h1,h2,h3,v0,v1,v2,v3⟩ φ hk
  exact (zG8 p y h0 h1 h2 h3 (((y.length:Int) - i).toNat + 1) out i).ok ⟨by omega,by omega,v0,v1,v2,v3⟩ φ hk⟩
instance zMU (p:zE):Tot (mR p) (SG 1000 p∧VG p) (fun φ=>∀ r,r.length ≤ 2000→(∀ u ∈ r,u.reads.length ≤ 111111)→φ r):=⟨by
  rintro ⟨h0,h1⟩ φ hk
  unfold mR
  exact Ok.go⟩
theorem zDg {a n:Int} (ha:0 ≤ a) (hn:0 < n):0 ≤ a.tmod n∧a.tmod n < n:=by
  rw [Int.tmod_eq_emod_of_nonneg ha];exact ⟨Int.emod_nonneg _ (by omega),Int.emod_lt_of_pos _ hn⟩
theorem zLc {a b:Int} (ha:0 ≤ a) (ha':a < 4611686018427387904) (hb:0 ≤ b) (hb':b < 4611686018427387904) :
    0 ≤ W (((BitVec.ofInt IntKind.i64.bits a ^^^ BitVec.ofInt IntKind.i64.bits b).toNat:Nat):Int):=by
  have e:(BitVec.ofInt IntKind.i64.bits a ^^^ BitVec.ofInt IntKind.i64.bits b).toNat < 4611686018427387904:=by
    rw [BitVec.toNat_xor]
    have h1:(BitVec.ofInt IntKind.i64.bits a).toNat=a.toNat:=by
      rw [BitVec.toNat_ofInt]; show (a % ((2 ^ 64:Nat):Int)).toNat=_; omega
    have h2:(BitVec.ofInt IntKind.i64.bits b).toNat=b.toNat:=by
      rw [BitVec.toNat_ofInt]; show (b % ((2 ^ 64:Nat):Int)).toNat=_; omega
    rw [h1,h2]
    exact Nat.xor_lt_two_pow (n:=62) (by omega) (by omega)
  rw [rC (by omega) (by omega)]; omega
instance fI (r:zM) (n:Int):Tot (yW r n) (0 ≤ r.p∧r.p ≤ 1000000000) (fun φ=>∀ y s,0 ≤ y→(y < n∨y=0)→s.p=r.p + 1→φ (y,s)):=⟨by
  rintro ⟨h0,h1⟩ φ hk
  unfold yW
  rw [rC (x:=r.p + 1) (by omega) (by omega),rC (x:=r.p + 1 - 1) (by omega) (by omega)]
  refine Ok.bind_ite (Ok.ite_dec (fun _=>Ok.bind_pure (Ok.ite_tt (Ok.pure (hk _ _ S S rfl)))) fun hn=>Ok.bind_pure (Ok.ite_beq (fun _=>Ok.pure (hk _ _ S S rfl)) fun hb=>?_))
  refine Ok.ite_dec (fun hp=>Ok.idx (by omega) (by omega) fun x _ _=>?_) fun hp=>?_
  · refine Ok.rem (by omega) (Ok.pure ?_)
    have hx:=x.toNat_lt
    have:=zDg (a:=(x.toNat:Int)) (n:=n) (by omega) (by omega)
    rw [rC (by omega) (by omega)]
    exact hk _ _ this.1 (.inl this.2) rfl
  · refine Ok.rem (by omega) ?_
    have hp:=zDg (a:=r.p + 1 - 1) (n:=(r.b.length:Int)) (by omega) (by omega)
    refine Ok.idx hp.1 hp.2 fun x1 _ _=>?_
    rw [rC (x:=(r.p + 1 - 1) * 7) (by omega) (by omega),rC (x:=(r.p + 1 - 1) * 7 + 3) (by omega) (by omega)]
    refine Ok.rem (by omega) ?_
    have hq:=zDg (a:=(r.p + 1 - 1) * 7 + 3) (n:=(r.b.length:Int)) (by omega) (by omega)
    refine Ok.idx hq.1 hq.2 fun x2 _ _=>?_
    refine Ok.quo (by omega) ?_
    have hd:0 ≤ (r.p + 1 - 1).tdiv (r.b.length:Int)∧(r.p + 1 - 1).tdiv (r.b.length:Int) ≤ 1000000000:=by
      rw [Int.tdiv_eq_ediv_of_nonneg (by omega)]
      exact ⟨Int.ediv_nonneg (by omega) (by omega),Int.le_trans (Int.ediv_le_self _ (by omega)) (by omega)⟩
    have e1:=x1.toNat_lt
    have e2:=x2.toNat_lt
    generalize (r.p + 1 - 1).tdiv (r.b.length:Int)=q3 at hd ⊢
    simp (disch:=omega) only [rC]
    refine Ok.rem (by omega) ?_
    generalize hX:(x1.toNat:Int) * 131 + (x2.toNat:Int) * 1117 + (r.p + 1 - 1) * 29 + q3 * 53=X
    have hX0:0 ≤ X:=by omega
    have hX1:X < 4611686018427387904:=by omega
    have hT:0 ≤ X.tdiv 64∧X.tdiv 64 < 4611686018427387904:=by rw [Int.tdiv_eq_ediv_of_nonneg hX0]; omega
    rw [rC (x:=X.tdiv 64) (by omega) (by omega)]
    have hw:=zDg (zLc hX0 hX1 hT.1 hT.2) (n:=n) (by omega)
    exact Ok.pure (hk _ _ hw.1 (.inl hw.2) rfl)⟩
instance zBB (r:zM) (l:List Str):Tot (oK r l) (0 < l.length∧0 ≤ r.p∧r.p ≤ 1000000000) (fun φ=>∀ y s,y ∈ l→s.p=r.p + 1→φ (y,s)):=⟨by
  rintro ⟨h0,h1,h2⟩ φ hk
  unfold oK
  exact Ok.go⟩
instance uE (r:zM) (l:List Int):Tot (yU r l) (0 < l.length∧0 ≤ r.p∧r.p ≤ 1000000000∧(∀ x ∈ l,I64 x)) (fun φ=>∀ y s,y ∈ l→I64 y→s.p=r.p + 1→φ (y,s)):=⟨by
  rintro ⟨h0,h1,h2,h3⟩ φ hk
  unfold yU
  exact Ok.go⟩
theorem zG9 (s:Str) (c:UInt8) (h0:s.l.length ≤ 1000000):∀ (k:Nat) (out:List Str) (f:Int) (i:Int),Tot (pG s c out f i) ((s.l.length:Int) + 1 - i < (k:Int)∧0 < (k:Int)∧0 ≤ f∧f ≤ i∧i ≤ (s.l.length:Int) + 1∧(out.length:Int) ≤ i∧(∀ x ∈ out,x.l.length ≤ s.l.length)) (fun φ=>∀ r,r.length ≤ s.l.length + 1→(∀ x ∈ r,x.l.length ≤ s.l.length)→φ r):=by
  intro k
  induction k with
  | zero=>intro out f i; exact ⟨fun h=>absurd h.2.1 (by omega)⟩
  | succ k ih =>
    intro out f i; refine ⟨?_⟩; rintro ⟨v0,v1,v2,v3,v4,v5,v6⟩ φ hk; unfold pG;exact Ok.go
instance zLP (s:Str) (c:UInt8) (out:List Str) (f:Int) (i:Int):Tot (pG s c out f i) (s.l.length ≤ 1000000∧0 ≤ f∧f ≤ i∧i ≤ (s.l.length:Int) + 1∧(out.length:Int) ≤ i∧(∀ x ∈ out,x.l.length ≤ s.l.length)) (fun φ=>∀ r,r.length ≤ s.l.length + 1→(∀ x ∈ r,x.l.length ≤ s.l.length)→φ r):=⟨by
  rintro ⟨h0,v0,v1,v2,v3,v4⟩ φ hk
  exact (zG9 s c h0 (((s.l.length:Int) + 1 - i).toNat + 1) out f i).ok ⟨by omega,by omega,v0,v1,v2,v3,v4⟩ φ hk⟩
instance zIq (s:Str) (c:UInt8):Tot (gE s c) (s.l.length ≤ 1000000) (fun φ=>∀ r,r.length ≤ s.l.length + 1→(∀ x ∈ r,x.l.length ≤ s.l.length)→φ r):=⟨by
  rintro h0 φ hk
  unfold gE
  exact Ok.go⟩
theorem zGa (s:Str) (h0:s.l.length ≤ 1000000):∀ (k:Nat) (n:Int) (i:Int),Tot (pH s n i) ((s.l.length:Int) - i < (k:Int)∧0 < (k:Int)∧I64 n∧0 ≤ i) (fun φ=>(∀ n,I64 n→φ (.done n))∧(φ (.ret (0,false)))):=by
  intro k
  induction k with
  | zero=>intro n i; exact ⟨fun h=>absurd h.2.1 (by omega)⟩
  | succ k ih =>
    intro n i; refine ⟨?_⟩; rintro ⟨v0,v1,v2,v3⟩ φ ⟨hd,hr⟩; unfold pH;exact Ok.go
instance zLQ (s:Str) (n:Int) (i:Int):Tot (pH s n i) (s.l.length ≤ 1000000∧I64 n∧0 ≤ i) (fun φ=>(∀ n,I64 n→φ (.done n))∧(φ (.ret (0,false)))):=⟨by
  rintro ⟨h0,v0,v1⟩ φ hk
  exact (zGa s h0 (((s.l.length:Int) - i).toNat + 1) n i).ok ⟨by omega,by omega,v0,v1⟩ φ hk⟩
instance zMV (s:Str):Tot (gF s) (s.l.length ≤ 1000000) (fun φ=>∀ n b,I64 n→φ (n,b)):=⟨by
  rintro h0 φ hk
  unfold gF
  exact Ok.go⟩
instance fR:Tot pX True (fun φ=>φ (zA.mk [0,0,0,0] 0)):=⟨fun _ _ h=>Ok.pure h⟩
instance zBC:Tot mL True (fun φ=>∀ r,SRs 1000 r→φ r):=⟨fun _ φ h=>Ok.pure (h _ ⟨by decide,by simp [SR]⟩)⟩
instance mH (n:Int):Tot (wM n) True (fun φ=>φ (zA.mk [0,0,0,0] n)):=⟨fun _ _ h=>by unfold wM; exact Ok.call fR trivial (Ok.pure h)⟩
theorem zFF (s:Str) (a:Int) (h0:s.l.length ≤ 1000000) (h1:0 ≤ a) (h2:a ≤ (s.l.length:Int)):∀ (k:Nat) (e:Int),Tot (rM s a e) ((s.l.length:Int) - e < (k:Int)∧0 < (k:Int)∧a ≤ e∧e ≤ a + 2∧e ≤ (s.l.length:Int)) (fun φ=>∀ r,a ≤ r→r ≤ a + 2→r ≤ (s.l.length:Int)→φ r):=by
  intro k
  induction k with
  | zero=>intro e; exact ⟨fun h=>absurd h.2.1 (by omega)⟩
  | succ k ih =>
    intro e; refine ⟨?_⟩; rintro ⟨v0,v1,v2,v3,v4⟩ φ hk; unfold rM;exact Ok.go
instance zKE (s:Str) (a:Int) (e:Int):Tot (rM s a e) (s.l.length ≤ 1000000∧0 ≤ a∧a ≤ (s.l.length:Int)∧a ≤ e∧e ≤ a + 2∧e ≤ (s.l.length:Int)) (fun φ=>∀ r,a ≤ r→r ≤ a + 2→r ≤ (s.l.length:Int)→φ r):=⟨by
  rintro ⟨h0,h1,h2,v0,v1,v2⟩ φ hk
  exact (zFF s a h0 h1 h2 (((s.l.length:Int) - e).toNat + 1) e).ok ⟨by omega,by omega,v0,v1,v2⟩ φ hk⟩
instance zDh (s:Str) (a:Int):Tot (nT s a) (s.l.length ≤ 1000000∧0 ≤ a∧a ≤ (s.l.length:Int)) (fun φ=>∀ n e,I64 n→a ≤ e→e ≤ (s.l.length:Int)→φ (n,e)):=⟨by
  rintro ⟨h0,h1,h2⟩ φ hk
  unfold nT
  exact Ok.go⟩
instance zIr (s:Str) (a:Int):Tot (gG s a) (s.l.length ≤ 1000000∧0 ≤ a) (fun φ=>∀ r,-1 ≤ r→r ≤ 3→(0 ≤ r→a < (s.l.length:Int))→φ r):=⟨by
  rintro ⟨h0,h1⟩ φ hk
  unfold gG
  exact Ok.go⟩
theorem VA.set {l:List Int}{c:Int} (h:l.length=4) (hl:∀ x ∈ l,I64 x) (hc:I64 c) (i:Nat) (x:Int):VA (zA.mk (([] ++ l).set i (W x)) c):=by
  refine ⟨by simp [h],?_,hc⟩;intro y hy;rcases List.mem_or_eq_of_mem_set hy with hy | hy
  · exact hl y hy
  · exact hy ▸ zJP x
theorem VA.con {l:List Int} (h:l.length=4) (hl:∀ x ∈ l,I64 x) (x:Int):VA (zA.mk ([] ++ l) (W x)):=⟨h,hl,zJP x⟩
instance zHv (a:zA) (s:Str) (n:Int):Tot (jH a s n) (VA a∧s.l.length ≤ 1000000∧0 ≤ n∧n < (s.l.length:Int)) (fun φ=>∀ r e,VA r→(e=-1∨n < e)→e ≤ (s.l.length:Int)→φ (r,e)):=⟨by
  rintro ⟨h0,h1,h2,h3⟩ φ hk
  have hv:=h0; obtain ⟨h00,h01,h02⟩:=h0; have t1:=VA.set h00 h01 h02; have t2:=VA.con h00 h01
  unfold jH
  refine Ok.sidx h2 h3 fun b2 _ _=>?_
  refine Ok.bind (φ:=fun _=>True) Ok.go fun sign _=>?_
  refine Ok.bind (φ:=fun _=>True) Ok.go fun t27 _=>?_
  refine Ok.bind (φ:=fun m=>n ≤ m∧m ≤ n + 1) Ok.go fun m hm=>?_
  refine Ok.call (zDh s m) ⟨h1,by omega,by omega⟩ fun y1 y2 g1 g2 g3=>?_
  refine Ok.bind (φ:=fun b=>b=true→y2 < (s.l.length:Int)) Ok.go fun t51 h51=>?_
  refine Ok.bind (φ:=fun x=>y2 ≤ x∧x ≤ (s.l.length:Int)) ?_ fun star hs=>?_
  · refine Ok.ite (fun h=>?_) fun h=>Ok.go
    have h51:=h51 h
    exact Ok.go
  refine Ok.call (zIr s star) ⟨h1,by omega⟩ fun y3 g4 g5 g6=>?_
  refine Ok.app S ?_
  refine Ok.bind (φ:=fun b=>b=true→0 ≤ y3) Ok.go fun t75 h75=>?_
  refine Ok.ite (fun h=>?_) fun h=>?_
  · have h75:=h75 h
    have g6:=g6 h75
    have h4:(([]:List Int) ++ a.Coefs).length=4:=h00
    refine Ok.idx h75 (by omega) fun x _ hx=>Ok.idx_known hx h75 (Ok.bind_pure (Ok.pure ?_))
    rw [rC (x:=star + 1) (by omega) (by omega)]
    exact hk _ _ (t1 _ _) (.inr (by omega)) (by omega)
  · refine Ok.ite_beq (fun h=>Ok.pure (hk _ _ hv (.inl rfl) (by omega))) fun h=>Ok.pure (hk _ _ (t2 _) (.inr (by omega)) g3)⟩
theorem zGb:∀ (k:Nat) (n:Int) (o:Str),Tot (pI n o) ((0 ≤ n∧n ≤ 9223372036854775807∧n < (2:Int) ^ k)∧o.l.length + k ≤ 1000) (fun φ=>∀ a r,0 ≤ a→a ≤ 9→r.l.length ≤ o.l.length + k→φ (a,r)):=by
  intro k
  induction k with
  | zero=>intro n o; refine ⟨?_⟩; rintro ⟨⟨a1,a4,a2⟩,a3⟩ φ hk; unfold pI; rw [Int.pow_zero] at a2; exact Ok.go
  | succ k ih =>
    intro n o; refine ⟨?_⟩; rintro ⟨⟨a1,a4,a2⟩,a3⟩ φ hk; unfold pI;refine Ok.ite_dec (fun h=>?_) fun h=>Ok.go;refine Ok.cat (by simp; omega) fun s hs hl=>?_;have ht:0 ≤ n.tdiv 10∧n.tdiv 10 < (2:Int) ^ k∧n.tdiv 10 ≤ n:=by
      rw [Int.tdiv_eq_ediv_of_nonneg a1];rw [Int.pow_succ] at a2;omega
    rw [rC (by omega) (by omega)];simp only [List.length_cons,List.length_nil] at hl;refine Ok.last (ih _ _) ⟨⟨ht.1,by omega,ht.2.1⟩,by omega⟩ fun a r g1 g2 g3=>hk a r g1 g2 (by omega)
theorem zGB (n:Int):Tot (rY n) (0 ≤ n∧n ≤ 9223372036854775807) (fun φ=>∀ r,r.l.length ≤ 64→1 ≤ r.l.length→φ r):=⟨by
  rintro ⟨h0,h1⟩ φ hk;unfold rY;refine Ok.ite_dec (fun h=>absurd h (by omega)) fun _=>Ok.ite_dec (fun h=>absurd h (by omega)) fun _=>?_;refine Ok.call (zGb 63 n ⟨[]⟩) ⟨⟨h0,h1,by omega⟩,by decide⟩ fun a r g1 g2 g3=>?_;simp only [List.length_nil] at g3;refine Ok.cat (by simp; omega) fun s hs hl=>Ok.pure ?_;simp only [List.length_cons,List.length_nil] at hl;exact hk _ (by dsimp only [id]; omega) (by dsimp only [id]; omega)⟩
instance zMW (n:Int):Tot (rY n) (I64 n) (fun φ=>∀ r,r.l.length ≤ 70→1 ≤ r.l.length→φ r):=⟨by
  rintro ⟨h0,h1⟩ φ hk
  by_cases hn:0 ≤ n
  · exact (zGB n).ok ⟨hn,h1⟩ φ fun r g1 g2=>hk r (by omega) g2
  unfold rY
  refine Ok.ite_dec (fun h=>Ok.pure (hk _ (by decide) (by decide))) fun _=>Ok.ite_dec (fun h=>?_) fun h=>absurd h (by omega)
  rw [rC (by omega) (by omega)]
  refine Ok.call (zGB _) ⟨by omega,by omega⟩ fun r g1 g2=>?_
  refine Ok.cat (by simp; omega) fun s hs hl=>Ok.pure ?_
  simp only [List.length_cons,List.length_nil] at hl
  exact hk _ (by dsimp only [id]; omega) (by dsimp only [id]; omega)⟩
instance zMX (n:Int) (name:Str):Tot (kX n name) (I64 n∧name.l.length ≤ 10) (fun φ=>∀ r,r.l.length ≤ 100→1 ≤ r.l.length→φ r):=⟨by
  rintro ⟨h0,h1⟩ φ hk
  have hw:=zJP (0 - n)
  unfold kX
  refine Ok.bind (φ:=fun o=>I64 o.1∧o.2.l.length=1) ?_ ?_
  · refine Ok.ite_dec (fun _=>Ok.pure ⟨hw,rfl⟩) fun _=>Ok.pure ⟨h0,rfl⟩
  rintro ⟨m,sg⟩ ⟨g1,g2⟩
  dsimp only at g1 g2 ⊢
  exact Ok.go⟩
theorem zGc (a:zA) (h0:VA a):∀ (k:Nat) (o:Str) (i:Int),Tot (pJ a o i) ((a.Coefs.length:Int) - i < (k:Int)∧0 < (k:Int)∧0 ≤ i∧i ≤ 4∧(o.l.length:Int) ≤ 100 * i) (fun φ=>∀ r,r.l.length ≤ 400→φ r):=by
  obtain ⟨h01,h02,h03⟩:=h0;intro k
  induction k with
  | zero=>intro o i; exact ⟨fun h=>absurd h.2.1 (by omega)⟩
  | succ k ih =>
    intro o i; refine ⟨?_⟩; rintro ⟨v0,v1,v2,v3,v4⟩ φ hk; unfold pJ;exact Ok.go
instance zGd (a:zA) (o:Str) (i:Int):Tot (pJ a o i) (VA a∧0 ≤ i∧i ≤ 4∧(o.l.length:Int) ≤ 100 * i) (fun φ=>∀ r,r.l.length ≤ 400→φ r):=⟨by
  rintro ⟨h0,v0,v1,v2⟩ φ hk
  exact (zGc a h0 (((a.Coefs.length:Int) - i).toNat + 1) o i).ok ⟨by omega,by omega,v0,v1,v2⟩ φ hk⟩
instance zMY (a:zA):Tot (mN a) (VA a) (fun φ=>∀ r,r.l.length ≤ 1000→φ r):=⟨by
  rintro h0 φ hk
  have h00:=h0; obtain ⟨h01,h02,h03⟩:=h0
  unfold mN
  refine Ok.call (zGd a _ _) ⟨h00,by simp⟩ fun o ho=>?_
  refine Ok.bind (φ:=fun r=>r.l.length ≤ 1000) Ok.go fun r hr=>?_
  refine Ok.ite_beq (fun _=>Ok.pure (hk _ (by decide))) fun hne=>?_
  have hp:0 < r.l.length:=List.length_pos_iff.2 hne
  exact Ok.go⟩
instance zJj (a:zA):Tot (oU a) (SA a) (fun φ=>∀ r,r.l.length ≤ 1000→φ r):=⟨by
  rintro h0 φ hk
  unfold oU
  refine Ok.call (zFD a) h0 fun b hb=>?_
  refine Ok.ite_not (fun _=>Ok.go) fun hv=>?_
  have hv:=hb hv
  exact Ok.go⟩
theorem zCr (s:Str) (h0:s.l.length ≤ 1000000):∀ (k:Nat) (i:Int) (x:zA),Tot (rA s i x) (((i < 0∨(s.l.length:Int) - i + 1 < (k:Int))∧0 < (k:Int)∧i ≤ (s.l.length:Int))∧VA x) (fun φ=>∀ r,VA r→φ r):=by
  intro k
  induction k with
  | zero=>intro i x; exact ⟨fun h=>absurd h.1.2.1 (by omega)⟩
  | succ k ih =>
    intro i x; refine ⟨?_⟩; rintro ⟨⟨v0,v1,v2⟩,v3⟩ φ hk; unfold rA;refine Ok.bind_ite (Ok.ite_dec (fun h1=>Ok.bind_pure ?_) fun _=>Ok.bind_pure (Ok.ite_ff Ok.go));refine Ok.ite_dec (fun h2=>Ok.call (zHv x s i) ⟨v3,h0,h1,h2⟩ fun r e g1 g2 g3=>?_) fun h2=>Ok.go;refine Ok.last (ih e r) ⟨⟨by omega,by omega,g3⟩,g1⟩ hk
instance zFG (s:Str):Tot (pK s) (s.l.length ≤ 1000000) (fun φ=>∀ a b,SA a→φ (a,b)):=⟨by
  rintro h0 φ hk
  unfold pK
  refine Ok.call fR trivial (Ok.ite_dec (fun _=>Ok.pure (hk _ _ SA.nil0)) fun _=>?_)
  refine Ok.call (zCr s h0 (s.l.length + 2) 0 _) ⟨⟨by omega,by omega,by omega⟩,rfl,by simp [I64],by simp [I64]⟩ fun x hx=>?_
  have hs:SA x:=⟨by rw [hx.1]; decide,hx.2.2⟩
  exact Ok.go⟩
theorem zCs (y:List Str) (h0:y.length ≤ 1000001) (h1:∀ x ∈ y,x.l.length ≤ 1000000):∀ (k:Nat) (o:List zA) (i:Int),Tot (tS y o i) (3 - i < (k:Int)∧0 < (k:Int)∧0 ≤ i∧(o.length:Int) ≤ i∧i ≤ 3∧(∀ a ∈ o,SA a)) (fun φ=>∀ r,LL r→r.length ≤ 100→(∀ a ∈ r,SA a)→φ r):=by
  intro k
  induction k with
  | zero=>intro o i; exact ⟨fun h=>absurd h.2.1 (by omega)⟩
  | succ k ih =>
    intro o i; refine ⟨?_⟩; rintro ⟨v0,v1,v2,v3,v4,v5⟩ φ hk; unfold tS;exact Ok.go
instance zIs (y:List Str) (o:List zA) (i:Int):Tot (tS y o i) (y.length ≤ 1000001∧(∀ x ∈ y,x.l.length ≤ 1000000)∧0 ≤ i∧(o.length:Int) ≤ i∧i ≤ 3∧(∀ a ∈ o,SA a)) (fun φ=>∀ r,LL r→r.length ≤ 100→(∀ a ∈ r,SA a)→φ r):=⟨by
  rintro ⟨h0,h1,v0,v1,v2,v3⟩ φ hk
  exact (zCs y h0 h1 ((3 - i).toNat + 1) o i).ok ⟨by omega,by omega,v0,v1,v2,v3⟩ φ hk⟩
theorem up {y:List Str}{n:Nat} (h:∀ x ∈ y,x.l.length ≤ n) (hn:n ≤ 1000000):∀ x ∈ y,x.l.length ≤ 1000000:=fun x hx=>Nat.le_trans (h x hx) hn
instance zKF (s:Str):Tot (nL s) (s.l.length ≤ 1000000) (fun φ=>∀ r,LL r→r.length ≤ 100→(∀ a ∈ r,SA a)→φ r):=⟨by
  rintro h0 φ hk
  unfold nL
  refine Ok.call (zIq s _) h0 fun y g1 g2=>?_
  have g3:=up g2 h0
  exact Ok.go⟩
theorem zGC (s:Str) (e:UInt8) (h0:s.l.length ≤ 1000000):∀ (k:Nat) (i:Int),Tot (qJ s e i) ((s.l.length:Int) - i < (k:Int)∧0 < (k:Int)∧0 ≤ i) (fun φ=>(φ (.done ()))∧(∀ r b,i ≤ r→r < (s.l.length:Int)→s.l[r.toNat]?=some b→(b.toNat:Int)=(e.toNat:Int)→φ (.ret r))):=by
  intro k
  induction k with
  | zero=>intro i; exact ⟨fun h=>absurd h.2.1 (by omega)⟩
  | succ k ih =>
    intro i; refine ⟨?_⟩; rintro ⟨v0,v1,v2⟩ φ ⟨hd,hr⟩; unfold qJ;refine Ok.ite_dec (fun h=>Ok.sidx v2 h fun b _ hb=>Ok.ite_beq (fun he=>Ok.pure (hr i b (by omega) h hb he)) fun _=>?_) fun _=>Ok.go;rw [rC (by omega) (by omega)];exact Ok.last (ih (i + 1)) ⟨by omega,by omega,by omega⟩ ⟨hd,fun r b g1=>hr r b (by omega)⟩
instance zGD (s:Str) (e:UInt8) (i:Int):Tot (qJ s e i) (s.l.length ≤ 1000000∧0 ≤ i) (fun φ=>(φ (.done ()))∧(∀ r b,i ≤ r→r < (s.l.length:Int)→s.l[r.toNat]?=some b→(b.toNat:Int)=(e.toNat:Int)→φ (.ret r))):=⟨by
  rintro ⟨h0,v0⟩ φ hk
  exact (zGC s e h0 (((s.l.length:Int) - i).toNat + 1) i).ok ⟨by omega,by omega,v0⟩ φ hk⟩
instance zHw (s:Str) (i:Int) (e:UInt8):Tot (mX s i e) (s.l.length ≤ 1000000∧0 ≤ i) (fun φ=>∀ r,(r=-1∨(i ≤ r∧r < (s.l.length:Int)∧∃ b,s.l[r.toNat]?=some b∧(b.toNat:Int)=(e.toNat:Int)))→φ r):=⟨by
  rintro ⟨h0,h1⟩ φ hk
  unfold mX
  exact Ok.call (zGD s e i) ⟨h0,h1⟩ ⟨Ok.pure (hk _ (.inl rfl)),fun r b g1 g2 g3 g4=>Ok.pure (hk _ (.inr ⟨g1,g2,b,g3,g4⟩))⟩⟩
instance zAL (s:Str) (i:Int):Tot (rS s i) (s.l.length ≤ 1000000∧0 ≤ i∧i ≤ 1000000) (fun φ=>∀ a n,SC a→(n=-1∨i < n)→n ≤ (s.l.length:Int)→φ (a,n)):=⟨by
  rintro ⟨h0,h1,h2⟩ φ hk
  unfold rS
  exact Ok.go⟩
theorem SE.node {n:Nat}{k:Int}{a b:zG} (ha:SE n a) (hb:SE n b):SE (n + 1) (zG.mk k 0 (zA.mk [] 0) (zJ.mk ⟨[]⟩ []) [a,b]) :=
  ⟨SA.nil0,SC.nil,Nat.le_of_ble_eq_true rfl,fun k hk=>by
    rcases List.mem_cons.1 hk with hk | hk
    · exact hk ▸ ha
    · exact List.mem_singleton.1 hk ▸ hb⟩
theorem SE.lf {m:Nat}{k n:Int}{a:zA}{c:zJ} (h1:SA a) (h2:SC c):SE m (zG.mk k n a c []):=SE.leaf (e:=zG.mk k n a c []) h1 h2 rfl
def EX0:zG:=zG.mk 0 0 (zA.mk [] 0) (zJ.mk ⟨[]⟩ []) []
theorem EX0.se {n:Nat}:SE n EX0:=SE.leaf (e:=EX0) SA.nil0 SC.nil rfl
theorem zHx (s:Str) (h0:s.l.length ≤ 1000000):∀ (n:Nat) (i lv:Int),Tot (qK s i lv) (lv ≤ n∧n ≤ 1000∧I64 lv) (fun φ=>∀ e r,SE n e→(r=-1∨(0 ≤ i∧i < r))→r ≤ (s.l.length:Int)→φ (e,r)):=by
  intro n
  induction n with
  | zero =>
    intro i lv; refine ⟨?_⟩; rintro ⟨v0,v1,v2⟩ φ hk; unfold qK; dsimp only [same];refine Ok.bind_ite (Ok.ite_dec (fun h=>Ok.bind_pure (Ok.ite_tt (Ok.pure (hk _ _ EX0.se (.inl rfl) (by omega))))) fun h=>absurd h (by omega))
  | succ n ih =>
    have round:∀ (i lv:Int),Tot (jI s i lv) (lv ≤ n∧n ≤ 1000∧0 ≤ i∧I64 lv) (fun φ=>∀ e r,SE (n + 1) e→(r=-1∨(i < r))→r ≤ (s.l.length:Int)→φ (e,r)):=by
      intro i lv; refine ⟨?_⟩; rintro ⟨v0,v1,v2,v4⟩ φ hk; unfold jI; dsimp only [same];have hbad:Ok (Pure.pure (EX0,(-1:Int))) φ:=Ok.pure (hk _ _ EX0.se (.inl rfl) (by omega));refine Ok.call (ih i lv) ⟨v0,v1,v4⟩ fun e1 r1 g1 g2 g3=>?_;refine Ok.bind (φ:=fun b=>b=false→0 ≤ r1∧r1 < (s.l.length:Int)) Ok.go fun b hb=>Ok.ite (fun _=>hbad) fun hz=>?_;obtain ⟨b1,b2⟩:=hb (by simpa using hz);refine Ok.sidx b1 b2 fun c _ hc=>Ok.bind (φ:=fun _=>True) Ok.go fun kd _=>?_;refine Ok.call (ih _ lv) ⟨v0,v1,v4⟩ fun e2 r2 g4 g5 g6=>?_;rw [rC (by omega) (by omega)] at g5;refine Ok.bind (φ:=fun b=>b=false→0 ≤ r2∧r2 < (s.l.length:Int)) Ok.go fun b hb=>Ok.ite (fun _=>hbad) fun hz=>?_;obtain ⟨b3,b4⟩:=hb (by simpa using hz);refine Ok.pure ?_;rw [rC (by omega) (by omega)];exact hk _ _ (SE.node g1 g4) (.inr (by omega)) (by omega)
    intro i lv; refine ⟨?_⟩; rintro ⟨v0,v1,v2⟩ φ hk; unfold qK; dsimp only [same];have hbad:Ok (Pure.pure (EX0,(-1:Int))) φ:=Ok.pure (hk _ _ EX0.se (.inl rfl) (by omega));refine Ok.bind (φ:=fun b=>b=false→0 ≤ i∧i < (s.l.length:Int)∧1 ≤ lv) Ok.go fun b hb=>Ok.ite (fun _=>hbad) fun hz=>?_;obtain ⟨b1,b2,b3⟩:=hb (by simpa using hz);refine Ok.sidx b1 b2 fun c _ hc=>Ok.ite_beq (fun hc1=>?_) fun _=>?_
    · refine Ok.call (zHw s i _) ⟨h0,b1⟩ fun y hy=>Ok.ite_dec (fun _=>hbad) fun hy0=>?_;rcases hy with hy | ⟨y1,y2,d,y3,y4⟩
      · exact absurd hy (by omega)
      have hiy:i + 1 ≤ y:=by
        by_cases e:y=i
        · subst e;rw [hc] at y3;cases y3
          have:((125:UInt8).toNat:Int)=125:=rfl;omega
        · omega
      rw [rC (by omega) (by omega),rC (by omega) (by omega)];refine Ok.sslc (by omega) (by omega) (by omega) fun m _ hm=>Ok.call (zFG m) (by omega) fun a b ha=>Ok.pure (hk _ _ (SE.lf ha SC.nil) (.inr (by omega)) (by omega))
    · refine Ok.bind (φ:=fun _=>True) Ok.go fun t52 _=>Ok.ite (fun _=>?_) fun _=>?_
      · refine Ok.call (zAL s i) ⟨h0,b1,by omega⟩ fun a r ha g1 g2=>Ok.pure (hk _ _ (SE.lf SA.nil0 ha) (by omega) g2)
      · refine Ok.sidx_known hc b1 (Ok.ite_beq (fun _=>?_) fun _=>?_)
        · obtain ⟨v3,v4⟩:=v2;rw [rC (x:=lv - 1) (by omega) (by omega),rC (x:=i + 1) (by omega) (by omega)];refine Ok.call (round _ _) ⟨by omega,by omega,by omega,⟨by omega,by omega⟩⟩ fun e r g1 g2 g3=>Ok.pure (hk _ _ g1 (by omega) g3)
        · refine Ok.call (zDh s i) ⟨h0,b1,by omega⟩ fun n2 r g1 g2 g3=>Ok.ite_beq (fun _=>hbad) fun hne=>Ok.pure (hk _ _ (SE.lf SA.nil0 SC.nil) (.inr (by omega)) g3)
instance zHy (s:Str) (i lv:Int):Tot (qK s i lv) (s.l.length ≤ 1000000∧0 ≤ lv∧lv ≤ 5) (fun φ=>∀ e r,SE 5 e→(r=-1∨(0 ≤ i∧i < r))→r ≤ (s.l.length:Int)→φ (e,r)):=⟨fun ⟨h0,h1,h2⟩=>(zHx s h0 5 i lv).ok ⟨h2,by decide,⟨by omega,by omega⟩⟩⟩
theorem zDi (list:List zA) (h0:list.length ≤ 100) (h1:∀ a ∈ list,VA a):∀ (k:Nat) (o:Str) (i:Int),Tot (sB list o i) ((list.length:Int) - i < (k:Int)∧0 < (k:Int)∧0 ≤ i∧i ≤ 100∧(o.l.length:Int) ≤ 1001 * i) (fun φ=>∀ r,r.l.length ≤ 200000→φ r):=by
  intro k
  induction k with
  | zero=>intro o i; exact ⟨fun h=>absurd h.2.1 (by omega)⟩
  | succ k ih =>
    intro o i; refine ⟨?_⟩; rintro ⟨v0,v1,v2,v3,v4⟩ φ hk; unfold sB;exact Ok.go
instance zJQ (list:List zA) (o:Str) (i:Int):Tot (sB list o i) (list.length ≤ 100∧(∀ a ∈ list,VA a)∧0 ≤ i∧i ≤ 100∧(o.l.length:Int) ≤ 1001 * i) (fun φ=>∀ r,r.l.length ≤ 200000→φ r):=⟨by
  rintro ⟨h0,h1,v0,v1,v2⟩ φ hk
  exact (zDi list h0 h1 (((list.length:Int) - i).toNat + 1) o i).ok ⟨by omega,by omega,v0,v1,v2⟩ φ hk⟩
instance zKg (list:List zA):Tot (mA list) (list.length ≤ 100∧(∀ a ∈ list,VA a)) (fun φ=>∀ r,r.l.length ≤ 200000→φ r):=⟨by
  rintro ⟨h0,h1⟩ φ hk
  unfold mA
  exact Ok.go⟩
instance zJk (a:zJ):Tot (qQ a) (VC a) (fun φ=>∀ r,r.l.length ≤ 200100→φ r):=⟨by
  rintro h0 φ hk
  obtain ⟨h01,h02,h03⟩:=h0
  unfold qQ
  exact Ok.go⟩
def TN:Nat→Nat
  | 0=>200100
  | n + 1=>2 * TN n + 10
theorem TN.ge:∀ n,200100 ≤ TN n
  | 0=>Nat.le_refl _
  | n + 1=>by have:=TN.ge n; simp only [TN]; omega
theorem TN.mono (n:Nat):TN n ≤ TN (n + 1):=by have:=TN.ge n; simp only [TN]; omega
theorem zIt:∀ (n:Nat) (e:zG),Tot (rZ e) (VE n e∧TN n ≤ 1000000000) (fun φ=>∀ r,r.l.length ≤ TN n→φ r):=by
  have base:∀ (e:zG),VO e→∀ φ:Str→Prop,(∀ r,r.l.length ≤ 200100→φ r)→Ok (rZ e) φ:=by
    intro e he φ hk;unfold rZ;rcases he with ⟨h,h1⟩ | ⟨h,h1⟩ | ⟨h,h1⟩
    · refine Ok.ite_beq (fun _=>Ok.go) fun hne=>absurd h hne
    · refine Ok.ite_beq (fun he=>absurd (h.symm.trans he) (by decide)) fun _=>Ok.ite_beq (fun _=>Ok.go) fun hne=>absurd h hne
    · refine Ok.ite_beq (fun he=>absurd (h.symm.trans he) (by decide)) fun _=>Ok.ite_beq (fun he=>absurd (h.symm.trans he) (by decide)) fun _=>Ok.ite_beq (fun _=>Ok.go) fun hne=>absurd h hne
  intro n
  induction n with
  | zero=>intro e; exact ⟨fun ⟨h,_⟩ φ hk=>base e h φ hk⟩
  | succ n ih =>
    intro e; refine ⟨?_⟩; rintro ⟨h,hn⟩ φ hk;have hm:=TN.mono n;have hg:=TN.ge n;have hg2:TN (n + 1)=2 * TN n + 10:=rfl;rcases h with h | ⟨h1,h2,h3⟩
    · exact base e h φ fun r hr=>hk r (by omega)
    unfold rZ;dsimp only [same];refine Ok.ite_beq (fun he=>by omega) fun _=>Ok.ite_beq (fun he=>by omega) fun _=>Ok.ite_beq (fun he=>by omega) fun _=>?_;refine Ok.idx (by omega) (by omega) fun x hx _=>?_;have hx:=h3 x hx;refine Ok.call (ih x) ⟨hx,by omega⟩ fun y hy=>?_;refine Ok.cat (by simp; omega) fun s2 _ g2=>?_;rw [rC (x:=e.Kind - 4) (by omega) (by omega),rC (x:=e.Kind - 4 + 1) (by omega) (by omega)];refine Ok.sslc (by omega) (by omega) (by simp; omega) fun s3 _ g3=>?_;simp only [List.length_cons,List.length_nil] at g2;refine Ok.cat (by omega) fun s4 _ g4=>Ok.idx (by omega) (by omega) fun x1 hx1 _=>?_;have hx1:=h3 x1 hx1;refine Ok.call (ih x1) ⟨hx1,by omega⟩ fun y4 hy4=>Ok.cat (by omega) fun s5 _ g5=>Ok.cat (by simp; omega) fun s6 _ g6=>Ok.pure (hk _ ?_);simp only [List.length_cons,List.length_nil] at g6;dsimp only [id];omega
instance zMA (e:zG):Tot (rZ e) (VE 5 e) (fun φ=>∀ r,r.l.length ≤ 10000000→φ r):=⟨fun h φ hk=>(zIt 5 e).ok ⟨h,by decide⟩ φ fun r hr=>hk r (Nat.le_trans hr (by decide))⟩
instance zGE (s:zQ):Tot (mB s) (SS s) (fun φ=>∀ r,r.l.length ≤ 100000000→φ r):=⟨by
  rintro h0 φ hk
  unfold mB
  refine Ok.call (zCQ s _) h0 fun b hb=>?_
  refine Ok.ite_not (fun _=>Ok.go) fun hv=>?_
  obtain ⟨g1,g2⟩:=hb hv
  exact Ok.go⟩
instance zGe (s:Str):Tot (mY s) (s.l.length ≤ 1000000) (fun φ=>∀ a b,SS a→φ (a,b)):=⟨by
  rintro h0 φ hk
  have e0:SS (zQ.mk (zJ.mk ⟨[]⟩ []) EX0):=⟨SC.nil,EX0.se⟩
  unfold mY
  refine Ok.ite_dec (fun _=>Ok.pure (hk _ _ e0)) fun _=>?_
  refine Ok.call (zAL s 0) ⟨h0,by omega,by omega⟩ fun a n g1 g2 g3=>?_
  refine Ok.bind (φ:=fun _=>True) Ok.go fun t _=>Ok.ite (fun _=>Ok.pure (hk _ _ e0)) fun _=>?_
  refine Ok.call (zHy s _ 5) ⟨h0,by decide,by decide⟩ fun e r g4 g5 g6=>?_
  have hs:SS (zQ.mk a e):=⟨g1,g4⟩
  refine Ok.call (zGE _) hs fun t ht=>Ok.ite_not (fun _=>Ok.pure (hk _ _ e0)) fun _=>Ok.pure (hk _ _ hs)⟩
theorem zKh {α:Type}{P Q:α→Prop}{l:List α} (h:∀ x ∈ l,P x) (hm:∀ x,P x→Q x):∀ x ∈ l,Q x:=fun x hx=>hm x (h x hx)
theorem SN.mono {b:Nat}{l:List zD} (h:SN b l):SN (b + 1) l:=⟨by have:=h.1; omega,h.2⟩
theorem SP.mono {b:Nat}{p:zN} (h:SP b p):SP (b + 1) p:=⟨h.1.mono,by have:=h.2.1; omega,h.2.2⟩
theorem SRs.mono {b:Nat}{l:List zH} (h:SRs b l):SRs (b + 1) l:=⟨by have:=h.1; omega,h.2⟩
theorem SG.mono {b:Nat}{p:zE} (h:SG b p):SG (b + 1) p:=⟨h.1.mono,by have:=h.2.1; omega,zKh h.2.2 fun _=>SP.mono⟩
theorem SG.up {b:Nat}:∀ {c:Nat}{p:zE},SG b p→SG (b + c) p
  | 0,_,h=>h
  | c + 1,_,h=>(SG.up (c:=c) h).mono
theorem zFL {α:Type}{P:α→Prop}{l:List α}{x:α} (h:∀ y ∈ l,P y) (hx:P x) (k:Nat):∀ y ∈ l.set k x,P y:=by
  intro y hy;rcases List.mem_or_eq_of_mem_set hy with hy | hy
  · exact h y hy
  · exact hy ▸ hx
theorem SP.nil {b:Nat}:SP b (zN.mk [] []):=⟨⟨Nat.zero_le _,fun _ h=>absurd h List.not_mem_nil⟩,Nat.zero_le _,fun _ h=>absurd h List.not_mem_nil⟩
theorem SG.nil:SG 1000 (zE.mk [] []):=⟨⟨by simp,by simp⟩,by simp,by simp⟩
instance zBp (v:Int):Tot (oY v) (0 ≤ v∧v < 4) (fun φ=>∀ r,r.Coefs.length=4→r.Const=0→φ r):=⟨by
  rintro ⟨h0,h1⟩ φ hk
  unfold oY
  refine Ok.call fR trivial (Ok.idx h0 (by simp; omega) fun x _ _=>Ok.bind_pure (Ok.pure (hk _ (by simp) rfl)))⟩
theorem zE0 (a:zA) (x:Int) (b:zA) (y:Int) (h0:a.Coefs.length=4) (h1:b.Coefs.length=4):∀ (k:Nat) (i:Int) (o:List Int),Tot (sS a x b y i o) (4 - i < (k:Int)∧0 < (k:Int)∧0 ≤ i∧i ≤ 4∧(o.length:Int)=i) (fun φ=>∀ r,r.length=4→φ r):=by
  intro k
  induction k with
  | zero=>intro i o; exact ⟨fun h=>absurd h.2.1 (by omega)⟩
  | succ k ih =>
    intro i o; refine ⟨?_⟩; rintro ⟨v0,v1,v2,v3,v4⟩ φ hk; unfold sS;exact Ok.go
instance zJl (a:zA) (x:Int) (b:zA) (y:Int) (i:Int) (o:List Int):Tot (sS a x b y i o) (a.Coefs.length=4∧b.Coefs.length=4∧0 ≤ i∧i ≤ 4∧(o.length:Int)=i) (fun φ=>∀ r,r.length=4→φ r):=⟨by
  rintro ⟨h0,h1,v0,v1,v2⟩ φ hk
  exact (zE0 a x b y h0 h1 ((4 - i).toNat + 1) i o).ok ⟨by omega,by omega,v0,v1,v2⟩ φ hk⟩
instance zGf (a:zA) (x:Int) (b:zA) (y:Int):Tot (nF a x b y) (a.Coefs.length=4∧b.Coefs.length=4) (fun φ=>∀ r,r.Coefs.length=4→I64 r.Const→φ r):=⟨by
  rintro ⟨h0,h1⟩ φ hk
  unfold nF
  exact Ok.go⟩
theorem LL.one {a:zA} (h:SA a):LL [a]:=⟨Nat.le_of_ble_eq_true rfl,fun _ h'=>List.mem_singleton.1 h' ▸ h⟩
theorem LL.two {a b:zA} (h:SA a) (h2:SA b):LL ([a] ++ [b]):=⟨Nat.le_of_ble_eq_true rfl,zHQ (LL.one h).2 h2⟩
theorem SA.c4 {y:Int} (h:I64 y):SA (zA.mk [0,0,0,0] y):=⟨Nat.le_of_ble_eq_true rfl,h⟩
instance zMZ (r:zM) (depth:Int):Tot (gA r depth) (0 ≤ r.p∧r.p ≤ 900000000∧0 ≤ depth∧depth ≤ 4) (fun φ=>∀ a s,SL1 a→r.p ≤ s.p→s.p ≤ r.p + 20→φ (a,s)):=⟨by
  rintro ⟨h0,h1,h2,h3⟩ φ hk
  unfold gA
  refine Ok.call (uE r _) ⟨by decide,h0,by omega,by decide⟩ fun y1 s1 _ g1 e1=>Ok.call (mH _) trivial ?_
  refine Ok.call (uE s1 _) ⟨by decide,by omega,by omega,by decide⟩ fun y2 s2 _ g2 e2=>Ok.call (mH _) trivial ?_
  have a1:=SA.c4 g1
  have a2:=SA.c4 g2
  refine Ok.bind (φ:=fun o=>r.p ≤ o.2.p∧o.2.p ≤ r.p + 3) Ok.go ?_
  rintro ⟨t,x⟩ ⟨g3,g4⟩
  dsimp only at g3 g4 ⊢
  refine Ok.bind (φ:=fun o=>SA o.1∧SA o.2.1∧r.p ≤ o.2.2.p∧o.2.2.p ≤ r.p + 6) (Ok.ite (fun _=>?_) fun _=>Ok.go) ?_
  · refine Ok.call (fI x _) ⟨by omega,by omega⟩ fun y s k1 k2 k3=>Ok.call (fI s _) ⟨by omega,by omega⟩ fun z u k4 k5 k6=>?_
    refine Ok.bind (φ:=fun o=>SA o.1∧SA o.2) (Ok.ite_beq (fun _=>?_) fun _=>?_) ?_
    · exact Ok.call (zBp y) ⟨k1,by omega⟩ fun b c1 c2=>Ok.pure ⟨⟨by dsimp only; omega,by dsimp only; rw [c2]; decide⟩,a2⟩
    · exact Ok.call (zBp y) ⟨k1,by omega⟩ fun b c1 c2=>Ok.call (mH _) trivial (Ok.call (zGf b 1 _ 1) ⟨c1,rfl⟩ fun d c3 c4=>Ok.pure ⟨a1,⟨by dsimp only; omega,c4⟩⟩)
    rintro ⟨b,c⟩ ⟨c1,c2⟩
    exact Ok.pure ⟨c1,c2,by dsimp only at *; omega,by dsimp only at *; omega⟩
  rintro ⟨b,c,u⟩ ⟨b1,b2,b3,b4⟩
  dsimp only at b1 b2 b3 b4 ⊢
  refine Ok.call (fI u _) ⟨by omega,by omega⟩ fun y s k1 k2 k3=>?_
  refine Ok.bind (φ:=fun o=>LL o.1∧LL o.2.1∧r.p ≤ o.2.2.p∧o.2.2.p ≤ r.p + 20) (Ok.ite_beq (fun _=>?_) fun _=>?_) ?_
  · refine Ok.call (uE s _) ⟨by decide,by omega,by omega,by decide⟩ fun y3 s3 _ g3 e3=>Ok.call (mH _) trivial (Ok.app S (Ok.pure ⟨LL.one b1,LL.two b2 (SA.c4 g3),by dsimp only; omega,by dsimp only; omega⟩))
  · refine Ok.bind (φ:=fun o=>LL o.1∧r.p ≤ o.2.p∧o.2.p ≤ r.p + 20) (Ok.ite_beq (fun _=>?_) fun _=>Ok.pure ⟨LL.one b1,by dsimp only; omega,by dsimp only; omega⟩) ?_
    · refine Ok.call (uE s _) ⟨by decide,by omega,by omega,by decide⟩ fun y3 s3 _ g3 e3=>Ok.call (mH _) trivial (Ok.app S (Ok.pure ⟨LL.two b1 (SA.c4 g3),by dsimp only; omega,by dsimp only; omega⟩))
    rintro ⟨d,w⟩ ⟨d1,d2,d3⟩
    exact Ok.pure ⟨d1,LL.one b2,d2,d3⟩
  rintro ⟨d,e,w⟩ ⟨d1,d2,d3,d4⟩
  exact Ok.pure (hk _ _ ⟨d1,d2⟩ d3 d4)⟩
theorem zGg :∀ (k:Nat) (o:List zD) (i:Int) (r:zM),Tot (pD o i r) (i < (k:Int)∧0 < (k:Int)∧i ≤ 3∧0 ≤ i∧(o.length:Int) + i ≤ 4∧0 ≤ r.p∧r.p + 20 * i ≤ 800000100∧(∀ x ∈ o,SL1 x)) (fun φ=>∀ a s,SN 1000 a→a.length ≤ 4→r.p ≤ s.p→s.p ≤ r.p + 20 * i→φ (a,s)):=by
  intro k
  induction k with
  | zero=>intro o i r; exact ⟨fun h=>absurd h.2.1 (by omega)⟩
  | succ k ih =>
    intro o i r; refine ⟨?_⟩; rintro ⟨v0,v1,v2,v3,v4,v5,v6,v7⟩ φ hk; unfold pD;exact Ok.go
instance zLR  (o:List zD) (i:Int) (r:zM):Tot (pD o i r) (i ≤ 3∧0 ≤ i∧(o.length:Int) + i ≤ 4∧0 ≤ r.p∧r.p + 20 * i ≤ 800000100∧(∀ x ∈ o,SL1 x)) (fun φ=>∀ a s,SN 1000 a→a.length ≤ 4→r.p ≤ s.p→s.p ≤ r.p + 20 * i→φ (a,s)):=⟨by
  rintro ⟨v0,v1,v2,v3,v4,v5⟩ φ hk
  exact (zGg ((i).toNat + 1) o i r).ok ⟨by omega,by omega,v0,v1,v2,v3,v4,v5⟩ φ hk⟩
instance zIu (r:zM):Tot (gB r) (0 ≤ r.p∧r.p ≤ 800000000) (fun φ=>∀ a s,SN 1000 a→a.length ≤ 4→r.p ≤ s.p→s.p ≤ r.p + 100→φ (a,s)):=⟨by
  rintro ⟨h0,h1⟩ φ hk
  unfold gB
  refine Ok.call (uE r _) ⟨by decide,h0,by omega,by decide⟩ fun y s g1 g2 g3=>?_
  simp only [List.mem_cons,List.not_mem_nil,or_false] at g1
  exact Ok.go⟩
theorem zGh (depth:Int) (n:Int) (h0:0 ≤ depth) (h1:depth ≤ 4) (h2:n ≤ 2):∀ (k:Nat) (i:Int) (o:List zA) (r:zM),Tot (pE depth n i o r) (n - i < (k:Int)∧0 < (k:Int)∧0 ≤ i∧i ≤ 2∧(o.length:Int) ≤ i∧0 ≤ r.p∧r.p ≤ 900000000 + 10 * i∧(∀ x ∈ o,SA x)) (fun φ=>∀ a s,a.length ≤ 100→(∀ x ∈ a,SA x)→r.p ≤ s.p→s.p ≤ r.p + 20 - 10 * i→φ (a,s)):=by
  intro k
  induction k with
  | zero=>intro i o r; exact ⟨fun h=>absurd h.2.1 (by omega)⟩
  | succ k ih =>
    intro i o r; refine ⟨?_⟩; rintro ⟨v0,v1,v2,v3,v4,v5,v6,v7⟩ φ hk; unfold pE;exact Ok.go
instance zLS (depth:Int) (n:Int) (i:Int) (o:List zA) (r:zM):Tot (pE depth n i o r) (0 ≤ depth∧depth ≤ 4∧n ≤ 2∧0 ≤ i∧i ≤ 2∧(o.length:Int) ≤ i∧0 ≤ r.p∧r.p ≤ 900000000 + 10 * i∧(∀ x ∈ o,SA x)) (fun φ=>∀ a s,a.length ≤ 100→(∀ x ∈ a,SA x)→r.p ≤ s.p→s.p ≤ r.p + 20 - 10 * i→φ (a,s)):=⟨by
  rintro ⟨h0,h1,h2,v0,v1,v2,v3,v4,v5⟩ φ hk
  exact (zGh depth n h0 h1 h2 ((n - i).toNat + 1) i o r).ok ⟨by omega,by omega,v0,v1,v2,v3,v4,v5⟩ φ hk⟩
instance zGF (r:zM) (depth:Int):Tot (mM r depth) (0 ≤ r.p∧r.p ≤ 800000000∧0 ≤ depth∧depth ≤ 4) (fun φ=>∀ a s,SC a→r.p ≤ s.p→s.p ≤ r.p + 30→φ (a,s)):=⟨by
  rintro ⟨h0,h1,h2,h3⟩ φ hk
  unfold mM
  refine Ok.call (zBB r _) ⟨by decide,h0,by omega⟩ fun y s g1 g2=>?_
  have hy:y.l.length ≤ 1:=by
    simp only [List.mem_cons,List.not_mem_nil,or_false] at g1
    rcases g1 with rfl | rfl | rfl | rfl <;> decide
  exact Ok.go⟩
theorem zGi (depth:Int) (h0:0 ≤ depth) (h1:depth ≤ 4):∀ (k:Nat) (i:Int) (o:List Int) (r:zM),Tot (pF depth i o r) (depth - i < (k:Int)∧0 < (k:Int)∧0 ≤ i∧i ≤ 4∧o.length=4∧0 ≤ r.p∧r.p ≤ 900000000 + i) (fun φ=>∀ a s,a.length=4→r.p ≤ s.p→s.p ≤ r.p + 4 - i→φ (a,s)):=by
  intro k
  induction k with
  | zero=>intro i o r; exact ⟨fun h=>absurd h.2.1 (by omega)⟩
  | succ k ih =>
    intro i o r; refine ⟨?_⟩; rintro ⟨v0,v1,v2,v3,v4,v5,v6⟩ φ hk; unfold pF;exact Ok.go
instance zLT (depth:Int) (i:Int) (o:List Int) (r:zM):Tot (pF depth i o r) (0 ≤ depth∧depth ≤ 4∧0 ≤ i∧i ≤ 4∧o.length=4∧0 ≤ r.p∧r.p ≤ 900000000 + i) (fun φ=>∀ a s,a.length=4→r.p ≤ s.p→s.p ≤ r.p + 4 - i→φ (a,s)):=⟨by
  rintro ⟨h0,h1,v0,v1,v2,v3,v4⟩ φ hk
  exact (zGi depth h0 h1 ((depth - i).toNat + 1) i o r).ok ⟨by omega,by omega,v0,v1,v2,v3,v4⟩ φ hk⟩
instance zIv (r:zM) (depth:Int):Tot (kW r depth) (0 ≤ r.p∧r.p ≤ 800000000∧0 ≤ depth∧depth ≤ 4) (fun φ=>∀ a s,SA a→a.Coefs.length=4→r.p ≤ s.p→s.p ≤ r.p + 10→φ (a,s)):=⟨by
  rintro ⟨h0,h1,h2,h3⟩ φ hk
  unfold kW
  exact Ok.go⟩
def PN:Nat→Nat
  | 0=>50
  | n + 1=>2 * PN n + 50
theorem SE.kids {n:Nat}{k:Int}{l:List zG} (h:l.length ≤ 10) (hl:∀ x ∈ l,SE n x):SE (n + 1) (zG.mk k 0 (zA.mk [] 0) (zJ.mk ⟨[]⟩ []) l):=⟨SA.nil0,SC.nil,h,hl⟩
theorem zHz (depth:Int) (hd0:0 ≤ depth) (hd1:depth ≤ 4):∀ (n:Nat) (r:zM) (lv:Int),Tot (qI r depth lv) (lv ≤ n + 1∧0 ≤ lv∧n ≤ 10∧0 ≤ r.p∧r.p + PN n ≤ 800000000) (fun φ=>∀ e s,SE n e→r.p ≤ s.p→s.p ≤ r.p + PN n→φ (e,s)):=by
  intro n;have leaf:∀ (m:Nat) (x:zM),Tot (do
      let (y4,y5)←yW x 4
      if (y4 == 0) then
        let (y7,y8)←yU y5 ([1,2,0,99,3]:List Int)
        pure ((zG.mk 1 y7 (zA.mk ([]:List Int) 0) (zJ.mk (⟨[]⟩:Str) ([]:List zA)) ([]:List zG)),y8)
      else
        if (y4 == 1) then
          let (y10,y11)←kW y5 depth
          pure ((zG.mk 2 0 y10 (zJ.mk (⟨[]⟩:Str) ([]:List zA)) ([]:List zG)),y11)
        else
          let (y13,y14)←mM y5 depth
          pure ((zG.mk 3 0 (zA.mk ([]:List Int) 0) y13 ([]:List zG)),y14)) (0 ≤ x.p∧x.p ≤ 799999999) (fun φ=>∀ e s,SE m e→x.p ≤ s.p→s.p ≤ x.p + 40→φ (e,s)):=by
    intro m x;refine ⟨?_⟩;rintro ⟨h0,h1⟩ φ hk;refine Ok.call (fI x 4) ⟨h0,by omega⟩ fun y s k1 k2 k3=>?_;refine Ok.ite_beq (fun _=>?_) fun _=>Ok.ite_beq (fun _=>?_) fun _=>?_
    · exact Ok.call (uE s _) ⟨by decide,by omega,by omega,by decide⟩ fun y3 s3 _ g3 e3=>Ok.pure (hk _ _ (SE.lf SA.nil0 SC.nil) (by omega) (by omega))
    · exact Ok.call (zIv s depth) ⟨by omega,by omega,hd0,hd1⟩ fun a s3 g3 _ e3 e4=>Ok.pure (hk _ _ (SE.lf g3 SC.nil) (by omega) (by omega))
    · exact Ok.call (zGF s depth) ⟨by omega,by omega,hd0,hd1⟩ fun a s3 g3 e3 e4=>Ok.pure (hk _ _ (SE.lf SA.nil0 g3) (by omega) (by omega))
  induction n with
  | zero =>
    intro r lv; refine ⟨?_⟩; rintro ⟨v0,v1,v2,v3,v4⟩ φ hk; unfold qI; dsimp only [same];have hp:PN 0=50:=rfl;refine Ok.bind_ite (Ok.ite_dec (fun _=>Ok.bind_pure (Ok.ite_tt ?_)) fun h=>absurd h (by omega));exact (leaf 0 r).ok ⟨v3,by omega⟩ φ fun e s g1 g2 g3=>hk e s g1 g2 (by omega)
  | succ n ih =>
    intro r lv; refine ⟨?_⟩; rintro ⟨v0,v1,v2,v3,v4⟩ φ hk; unfold qI; dsimp only [same];have hp:PN (n + 1)=2 * PN n + 50:=rfl;refine Ok.bind (φ:=fun o=>(o.1=false→2 ≤ lv)∧r.p ≤ o.2.p∧o.2.p ≤ r.p + 1) ?_ ?_
    · refine Ok.ite_dec (fun _=>Ok.pure ⟨fun h=>(by cases h),by dsimp only; omega,by dsimp only; omega⟩) fun h=>Ok.call (fI r 4) ⟨v3,by omega⟩ fun y s k1 k2 k3=>Ok.pure ⟨fun _=>by omega,by dsimp only; omega,by dsimp only; omega⟩
    rintro ⟨t,x⟩ ⟨g1,g2,g3⟩;dsimp only at g1 g2 g3 ⊢;refine Ok.ite (fun _=>?_) fun hz=>?_
    · exact (leaf (n + 1) x).ok ⟨by omega,by omega⟩ φ fun e s g1 g2 g3=>hk e s g1 (by omega) (by omega)
    have g1:=g1 (by simpa using hz);refine Ok.call (uE x _) ⟨by decide,by omega,by omega,by decide⟩ fun y3 s3 _ _ e3=>?_;have hl:∀ (k:Nat) (i:Int) (o:List zG) (x1:zM),Tot (oI depth lv i o x1) ((2 - i ≤ k∧0 ≤ i∧i ≤ 2∧k ≤ 2∧(o.length:Int)=i∧0 ≤ x1.p∧x1.p + k * PN n ≤ 800000000)∧∀ x ∈ o,SE n x) (fun φ=>∀ a s,a.length ≤ 10→(∀ x ∈ a,SE n x)→x1.p ≤ s.p→s.p ≤ x1.p + k * PN n→φ (a,s)):=by
      intro k
      induction k with
      | zero=>intro i o x1; refine ⟨?_⟩; rintro ⟨⟨a1,a2,a3,a4,a5,a6,a7⟩,a8⟩ φ hk; unfold oI; dsimp only [same]; exact Ok.ite_dec (fun h=>absurd h (by omega)) fun _=>Ok.pure (hk _ _ (by omega) a8 (by omega) (by omega))
      | succ k ik =>
        intro i o x1; refine ⟨?_⟩; rintro ⟨⟨a1,a2,a3,a4,a5,a6,a7⟩,a8⟩ φ hk; unfold oI; dsimp only [same];have e1:((k + 1:Nat):Int) * PN n=k * PN n + PN n:=by rw [Int.natCast_add,Int.add_mul]; simp
        rw [e1] at a7 hk;have hkn:0 ≤ (k:Int) * PN n:=Int.mul_nonneg (by omega) (by omega);refine Ok.ite_dec (fun h=>?_) fun _=>Ok.pure (hk _ _ (by omega) a8 (by omega) (by omega));rw [rC (by omega) (by omega)];refine Ok.call (ih x1 _) ⟨by omega,by omega,by omega,by omega,by omega⟩ fun e s g1 g2 g3=>Ok.app S ?_;rw [rC (by omega) (by omega)];exact Ok.last (ik _ _ s) ⟨⟨by omega,by omega,by omega,by omega,by simp; omega,by omega,by omega⟩,zHQ a8 g1⟩ fun a u h1 h2 h3 h4=>hk a u h1 h2 (by omega) (by omega)
    refine Ok.call (hl 2 0 [] s3) ⟨⟨by omega,by omega,by omega,by omega,rfl,by omega,by omega⟩,fun _ h=>absurd h List.not_mem_nil⟩ fun a u h1 h2 h3 h4=>by
      dsimp only;exact Ok.pure (hk _ u (SE.kids h1 h2) (by omega) (by omega))
instance zIA (r:zM) (depth lv:Int):Tot (qI r depth lv) (0 ≤ r.p∧r.p ≤ 700000000∧0 ≤ depth∧depth ≤ 4∧0 ≤ lv∧lv ≤ 6) (fun φ=>∀ e s,SE 5 e→r.p ≤ s.p→s.p ≤ r.p + 5000→φ (e,s)):=⟨fun ⟨h0,h1,h2,h3,h4,h5⟩ φ hk=>by
  have hp:PN 5=3150:=rfl
  exact (zHz depth h2 h3 5 r lv).ok ⟨by omega,h4,by omega,h0,by omega⟩ φ fun e s g1 g2 g3=>hk e s g1 g2 (by omega)⟩
instance zIw (r:zM) (depth:Int):Tot (gD r depth) (0 ≤ r.p∧r.p ≤ 600000000∧0 ≤ depth∧depth ≤ 4) (fun φ=>∀ a s,SS a→r.p ≤ s.p→s.p ≤ r.p + 6000→φ (a,s)):=⟨by
  rintro ⟨h0,h1,h2,h3⟩ φ hk
  unfold gD
  refine Ok.call (zGF r depth) ⟨h0,by omega,h2,h3⟩ fun a s g1 g2 g3=>?_
  refine Ok.call (uE s _) ⟨by decide,by omega,by omega,by decide⟩ fun y3 s3 g4 _ e3=>?_
  simp only [List.mem_cons,List.not_mem_nil,or_false] at g4
  refine Ok.call (zIA s3 depth y3) ⟨by omega,by omega,h2,h3,by omega,by omega⟩ fun e u g5 g6 g7=>?_
  have hs:SS (zQ.mk a e):=⟨g1,g5⟩
  refine Ok.call (zCQ _ depth) hs fun b _=>Ok.ite (fun _=>Ok.pure (hk _ _ hs (by omega) (by omega))) fun _=>Ok.call fR trivial (Ok.pure (hk _ _ ⟨⟨by decide,by decide,fun _ h=>List.mem_singleton.1 h ▸ SA.c4 (by decide)⟩,SE.lf SA.nil0 SC.nil⟩ (by omega) (by omega)))⟩
theorem zGG (z:List Int) (h0:z.length ≤ 4):∀ (k:Nat) (o:List zD) (i:Int),Tot (qL z o i) ((z.length:Int) - i < (k:Int)∧0 < (k:Int)∧0 ≤ i∧(o.length:Int)=i∧i ≤ 4∧(∀ x ∈ o,SL1 x)) (fun φ=>(∀ o,SN 1000 o→φ (.done o))∧(φ (.ret ([],false)))):=by
  intro k
  induction k with
  | zero=>intro o i; exact ⟨fun h=>absurd h.2.1 (by omega)⟩
  | succ k ih =>
    intro o i; refine ⟨?_⟩; rintro ⟨v0,v1,v2,v3,v4,v5⟩ φ ⟨hd,hr⟩; unfold qL;refine Ok.ite_dec (fun h=>?_) fun _=>Ok.go;refine Ok.bind (φ:=fun b=>b=false→∀ x,z[i.toNat]?=some x→0 ≤ x∧x ≤ 99) ?_ ?_
    · refine Ok.idx v2 h fun x _ hx=>Ok.ite_dec (fun _=>Ok.pure fun h=>by cases h) fun g=>Ok.idx_known hx v2 (Ok.pure fun hb y hy=>?_);rw [hx] at hy;cases hy
      have:=of_decide_eq_false hb;omega
    intro b hb;refine Ok.ite (fun _=>Ok.pure hr) fun hz=>Ok.call fR trivial (Ok.idx v2 h fun x _ hx=>Ok.call (mH x) trivial (Ok.app S ?_));obtain ⟨b1,b2⟩:=hb (by simpa using hz) x hx;have hx:SL1 (zD.mk [zA.mk [0,0,0,0] 0] [zA.mk [0,0,0,0] x]):=⟨LL.one (SA.c4 (by decide)),LL.one (SA.c4 ⟨by omega,by omega⟩)⟩;exact Ok.go
instance zKi (z:List Int) (o:List zD) (i:Int):Tot (qL z o i) (z.length ≤ 4∧0 ≤ i∧(o.length:Int)=i∧i ≤ 4∧(∀ x ∈ o,SL1 x)) (fun φ=>(∀ o,SN 1000 o→φ (.done o))∧(φ (.ret ([],false)))):=⟨by
  rintro ⟨h0,v0,v1,v2,v3⟩ φ hk
  exact (zGG z h0 (((z.length:Int) - i).toNat + 1) o i).ok ⟨by omega,by omega,v0,v1,v2,v3⟩ φ hk⟩
instance zIB (z:List Int):Tot (jJ z) (True) (fun φ=>∀ o b,SN 1000 o→φ (o,b)):=⟨by
  rintro _ φ hk
  unfold jJ
  exact Ok.go⟩
theorem SP.one {y:List zD}{a:zQ} (h:SN 1000 y) (ha:SS a):SP 1000 (zN.mk y [a]):=⟨h,Nat.le_of_ble_eq_true rfl,fun _ h=>List.mem_singleton.1 h ▸ ha⟩
theorem zGj (y:List zD) (h0:SN 1000 y) (h1:y.length ≤ 4):∀ (k:Nat) (o:List zQ) (n:Int) (r:zM),Tot (pL y o n r) (5 - n < (k:Int)∧0 < (k:Int)∧0 ≤ n∧n ≤ 5∧o.length ≤ 100∧(∀ x ∈ o,SS x)∧0 ≤ r.p∧r.p + 6000 * (5 - n) ≤ 500000000) (fun φ=>∀ a s,a.length ≤ o.length + 1→(∀ x ∈ a,SS x)→r.p ≤ s.p→s.p ≤ r.p + 6000 * (5 - n)→φ (a,s)):=by
  intro k
  induction k with
  | zero=>intro o n r; exact ⟨fun h=>absurd h.2.1 (by omega)⟩
  | succ k ih =>
    intro o n r; refine ⟨?_⟩; rintro ⟨v0,v1,v2,v3,v4,v5,v6,v7⟩ φ hk; unfold pL;refine Ok.ite_dec (fun h=>?_) fun _=>Ok.go;refine Ok.call (zIw r _) ⟨by omega,by omega,by omega,by omega⟩ fun a s g1 g2 g3=>Ok.call zBC trivial fun l hl=>?_;refine Ok.call (zGA l _) ⟨hl,SP.one h0 g1⟩ fun m b _=>?_;dsimp only;exact Ok.go
instance zLU (y:List zD) (o:List zQ) (n:Int) (r:zM):Tot (pL y o n r) (SN 1000 y∧y.length ≤ 4∧0 ≤ n∧n ≤ 5∧o.length ≤ 100∧(∀ x ∈ o,SS x)∧0 ≤ r.p∧r.p + 6000 * (5 - n) ≤ 500000000) (fun φ=>∀ a s,a.length ≤ o.length + 1→(∀ x ∈ a,SS x)→r.p ≤ s.p→s.p ≤ r.p + 6000 * (5 - n)→φ (a,s)):=⟨by
  rintro ⟨h0,h1,v0,v1,v2,v3,v4,v5⟩ φ hk
  exact (zGj y h0 h1 ((5 - n).toNat + 1) o n r).ok ⟨by omega,by omega,v0,v1,v2,v3,v4,v5⟩ φ hk⟩
theorem zGk (y:List zD) (h0:SN 1000 y) (h1:y.length ≤ 4):∀ (k:Nat) (k0:Int) (o:List zQ) (r:zM),Tot (pM y k0 o r) (k0 < (k:Int)∧0 < (k:Int)∧0 ≤ k0∧(o.length:Int) + k0 ≤ 10∧(∀ x ∈ o,SS x)∧0 ≤ r.p∧r.p + 30000 * k0 ≤ 400000000) (fun φ=>∀ a s,a.length ≤ 100→(∀ x ∈ a,SS x)→r.p ≤ s.p→s.p ≤ r.p + 30000 * k0→φ (a,s)):=by
  intro k
  induction k with
  | zero=>intro k0 o r; exact ⟨fun h=>absurd h.2.1 (by omega)⟩
  | succ k ih =>
    intro k0 o r; refine ⟨?_⟩; rintro ⟨v0,v1,v2,v3,v4,v5,v6⟩ φ hk; unfold pM;exact Ok.go
instance zGl (y:List zD) (k0:Int) (o:List zQ) (r:zM):Tot (pM y k0 o r) (SN 1000 y∧y.length ≤ 4∧0 ≤ k0∧(o.length:Int) + k0 ≤ 10∧(∀ x ∈ o,SS x)∧0 ≤ r.p∧r.p + 30000 * k0 ≤ 400000000) (fun φ=>∀ a s,a.length ≤ 100→(∀ x ∈ a,SS x)→r.p ≤ s.p→s.p ≤ r.p + 30000 * k0→φ (a,s)):=⟨by
  rintro ⟨h0,h1,v0,v1,v2,v3,v4⟩ φ hk
  exact (zGk y h0 h1 ((k0).toNat + 1) k0 o r).ok ⟨by omega,by omega,v0,v1,v2,v3,v4⟩ φ hk⟩
theorem zGm (x:zN):∀ (k:Nat) (i:Int) (r:zM),Tot (pO x i r) (4 - i < (k:Int)∧0 < (k:Int)∧0 ≤ i∧i ≤ 4∧0 ≤ r.p∧r.p + 100000 * (4 - i) ≤ 300000000) (fun φ=>(∀ s,r.p ≤ s.p→s.p ≤ r.p + 100000 * (4 - i)→φ (.done (x,s)))∧(∀ a s,SP 1000 a→r.p ≤ s.p→s.p ≤ r.p + 100000 * (4 - i)→φ (.ret (a,s)))):=by
  intro k
  induction k with
  | zero=>intro i r; exact ⟨fun h=>absurd h.2.1 (by omega)⟩
  | succ k ih =>
    intro i r; refine ⟨?_⟩; rintro ⟨v0,v1,v2,v3,v4,v5⟩ φ ⟨hd,hr⟩; unfold pO;refine Ok.ite_dec (fun h=>?_) fun _=>Ok.go;refine Ok.call (zIu r) ⟨v4,by omega⟩ fun y s g1 g2 g3 g4=>?_;refine Ok.call (uE s _) ⟨by decide,by omega,by omega,by decide⟩ fun n t g5 _ e3=>?_;simp only [List.mem_cons,List.not_mem_nil,or_false] at g5;refine Ok.call (zGl y n [] t) ⟨g1,g2,by omega,by simp; omega,fun _ h=>absurd h List.not_mem_nil,by omega,by omega⟩ fun b u g6 g7 g8 g9=>Ok.call zBC trivial fun l hl=>?_;have hs:SP 1000 (zN.mk y b):=⟨g1,Nat.le_trans g6 (by decide),g7⟩;refine Ok.call (zGA l _) ⟨hl,hs⟩ fun m c _=>?_;dsimp only;refine Ok.bind (φ:=fun _=>True) Ok.go fun z _=>Ok.ite (fun _=>Ok.pure (hr _ _ hs (by omega) (by omega))) fun _=>?_;rw [rC (by omega) (by omega)];exact Ok.last (ih _ u) ⟨by omega,by omega,by omega,by omega,by omega,by omega⟩ ⟨fun s h1 h2=>hd s (by omega) (by omega),fun a s h0 h1 h2=>hr a s h0 (by omega) (by omega)⟩
instance zGn (x:zN) (i:Int) (r:zM):Tot (pO x i r) (0 ≤ i∧i ≤ 4∧0 ≤ r.p∧r.p + 100000 * (4 - i) ≤ 300000000) (fun φ=>(∀ s,r.p ≤ s.p→s.p ≤ r.p + 100000 * (4 - i)→φ (.done (x,s)))∧(∀ a s,SP 1000 a→r.p ≤ s.p→s.p ≤ r.p + 100000 * (4 - i)→φ (.ret (a,s)))):=⟨by
  rintro ⟨v0,v1,v2,v3⟩ φ hk
  exact (zGm x ((4 - i).toNat + 1) i r).ok ⟨by omega,by omega,v0,v1,v2,v3⟩ φ hk⟩
instance zM0 (r:zM):Tot (gH r) (0 ≤ r.p∧r.p ≤ 200000000) (fun φ=>∀ a s,SP 1000 a→r.p ≤ s.p→s.p ≤ r.p + 400000→φ (a,s)):=⟨by
  rintro ⟨h0,h1⟩ φ hk
  unfold gH
  refine Ok.call (zGn _ 0 r) ⟨by decide,by decide,h0,by omega⟩ ⟨fun s g1 g2=>?_,fun a s g1 g2 g3=>Ok.pure (hk _ _ g1 (by omega) (by omega))⟩
  refine Ok.call (zGe _) (by decide) fun a b g3=>Ok.call (zIB _) trivial fun n c g4=>Ok.pure (hk _ _ (SP.one g4 g3) (by omega) (by omega))⟩
theorem zGo :∀ (k:Nat) (i:Int) (o:List zN) (r:zM),Tot (pP i o r) (i < (k:Int)∧0 < (k:Int)∧0 ≤ i∧(o.length:Int) + i ≤ 10∧(∀ x ∈ o,SP 1000 x)∧0 ≤ r.p∧r.p + 400000 * i ≤ 100000000) (fun φ=>∀ a s,(a.length:Int)=o.length + i→(∀ x ∈ a,SP 1000 x)→r.p ≤ s.p→s.p ≤ r.p + 400000 * i→φ (a,s)):=by
  intro k
  induction k with
  | zero=>intro i o r; exact ⟨fun h=>absurd h.2.1 (by omega)⟩
  | succ k ih =>
    intro i o r; refine ⟨?_⟩; rintro ⟨v0,v1,v2,v3,v4,v5,v6⟩ φ hk; unfold pP;exact Ok.go
instance zGp  (i:Int) (o:List zN) (r:zM):Tot (pP i o r) (0 ≤ i∧(o.length:Int) + i ≤ 10∧(∀ x ∈ o,SP 1000 x)∧0 ≤ r.p∧r.p + 400000 * i ≤ 100000000) (fun φ=>∀ a s,(a.length:Int)=o.length + i→(∀ x ∈ a,SP 1000 x)→r.p ≤ s.p→s.p ≤ r.p + 400000 * i→φ (a,s)):=⟨by
  rintro ⟨v0,v1,v2,v3,v4⟩ φ hk
  exact (zGo ((i).toNat + 1) i o r).ok ⟨by omega,by omega,v0,v1,v2,v3,v4⟩ φ hk⟩
instance zIx (r:zM):Tot (gI r) (0 ≤ r.p∧r.p ≤ 50000000) (fun φ=>∀ a s,SG 1000 a→r.p ≤ s.p→s.p ≤ r.p + 2000000→φ (a,s)):=⟨by
  rintro ⟨h0,h1⟩ φ hk
  unfold gI
  refine Ok.call zBC trivial fun l hl=>Ok.call (uE r _) ⟨by decide,h0,by omega,by decide⟩ fun n t g5 _ e3=>?_
  simp only [List.mem_cons,List.not_mem_nil,or_false] at g5
  refine Ok.call (zGp n [] t) ⟨by omega,by simp; omega,fun _ h=>absurd h List.not_mem_nil,by omega,by omega⟩ fun a s g1 g2 g3 g4=>?_
  simp only [List.length_nil] at g1
  have hp:SG 1000 (zE.mk l a):=⟨hl,by dsimp only; omega,g2⟩
  refine Ok.call (zEZ _) hp fun b _=>Ok.ite (fun _=>Ok.pure (hk _ _ hp (by omega) (by omega))) fun _=>Ok.call zBC trivial fun l2 hl2=>?_
  refine Ok.slc (by omega) (by omega) (by omega) fun m hm hml=>Ok.pure (hk _ _ ⟨hl2,by dsimp only; omega,fun x hx=>g2 x ?_⟩ (by omega) (by omega))
  subst hm
  exact List.mem_of_mem_take (List.mem_of_mem_drop hx)⟩
instance zIC (code:List UInt8):Tot (jE code) (True) (fun φ=>∀ s,s.p=0→φ s):=⟨by
  rintro _ φ hk
  unfold jE
  exact Ok.go⟩
end Go.LN
