/- Helper of the proof (see the last text). -/
import Derived.Test.YtcmjkmdecmabaaaGreatLnI
import Derived.Sort.Grow
import Derived.Lib.LaidTab
import Derived.Lib.ItoaNum
import Derived.Lib.ItoaMem
import Derived.Sort.Row
import Derived.Lib.AtoiErrMem
import Derived.Lib.AtoiTie
import Derived.Lib.SplitLaws
import Derived.Lib.AtoiAll
import Derived.Shelf.SlicesE.Delete
import Derived.Laws.StructEq
import Derived.Shelf.SlSortCmp.NoneTotal
set_option linter.unusedVariables false
set_option linter.unusedSimpArgs false
namespace Go.LN
theorem Good.grow {B:Base}{imm:Imm}{hs:List HA}{w:World} (h:Good B imm hs w) (k:Nat) (os:Array Obj):Good B imm hs (Sort.grow (w.drewN k) os):=by
  have h:=h.drewN k;generalize w.drewN k=w at h;have old:∀ b,b<w.heap.size->(Sort.grow w os).heap[b]?=w.heap[b]?:=fun b hb=>by
    show (w.heap++os)[b]?=_;rw [Array.getElem?_append_left hb]
  refine ⟨fun b c e=>?_,fun A hA=>(h.own A hA).same (fun _ _ p=>p) (fun _ _=>rfl) (fun b hb=>old b ((h.own A hA).lt hb).1),h.nodup,⟨h.frm.os,h.frm.tape,h.frm.output,?_,fun b hb hio=>?_,h.frm.imm,h.frm.drawn⟩⟩
  · obtain ⟨ty,fr,e'⟩:=h.inv b c e;exact ⟨ty,fr,(old b (h.lt_imm e)).trans e'⟩
  · show _<=(w.heap++os).size;rw [Array.size_append];exact cS h.frm.size (ft _ _)
  · exact (old b (fe hb h.frm.size)).trans (h.frm.heap b hb hio)
def GT (P:Program) (imm:Imm):Prop:=∃ g,P.globalNamed "internal/strconv.uint64pow10"=some g∧imm g=some (Lib.pow10Tab.map fun z=>Value.int .u64 z).toArray
def GM (P:Program) (imm:Imm):Prop:=∃ g,P.globalNamed "internal/bytealg.MaxLen"=some g∧∃ m,imm g=some #[.int .i64 m]
def GE (P:Program) (imm:Imm) (nm:String):Prop:=∃ g,P.globalNamed nm=some g/\∃ t p,imm g=some #[.iface t p]
def GH (P:Program) (imm:Imm):Prop:=GT P imm∧GM P imm∧GE P imm "strconv.ErrSyntax"∧GE P imm "strconv.ErrRange"
theorem GH.mono {P:Program}{i j:Imm} (hl:i.le j) (h:GH P i):GH P j:=by
  obtain ⟨⟨g,h1,h2⟩,⟨g3,h3,m,h4⟩,⟨g5,h5,t,p,h6⟩,⟨g7,h7,u,q,h8⟩⟩:=h;exact ⟨⟨g,h1,hl _ _ h2⟩,⟨g3,h3,m,hl _ _ h4⟩,⟨g5,h5,t,p,hl _ _ h6⟩,⟨g7,h7,u,q,hl _ _ h8⟩⟩
theorem GH.es {P:Program}{imm:Imm} (h:GH P imm):GE P imm "strconv.ErrSyntax":=h.2.2.1
end Go.LN
namespace Go.LN
theorem zC6 {k : IntKind} {n : Int} : (Value.int k n).oneCell' = true := rfl
theorem zFv {s : ByteArray} : (Value.string s).oneCell' = true := rfl
theorem SL.one {α : Type} [Rp α] {i : Imm} {v : Value} {l : List α} (h : SL i v l) : v.oneCell' = true := by
  obtain ⟨aK, hs, _⟩ := h
  rcases hs with ⟨rfl, _⟩ | ⟨b, off, len, cap, c, rfl, _⟩ <;> rfl
structure zF where
  Name : Str
  Dims : List Int
instance : Rp zF where
  sz := 2
  pos := by decide
  rep i cs s := ∃ v0 : Value, cs = [.string ⟨⟨s.Name.l⟩⟩, v0] /\ SL i v0 s.Dims
  len h := by obtain ⟨v0, rfl, h0⟩ := h; rfl
  mono hm h := by obtain ⟨v0, e, h0⟩ := h; exact ⟨v0, e, h0.mono hm⟩
  one h := by obtain ⟨v0, rfl, h0⟩ := h; simp [zFv, h0.one]
theorem zBa {i : Imm} {cs : List Value} {s : zF} (h : Rp.rep i cs s) : ∃ v0 : Value, cs = [.string ⟨⟨s.Name.l⟩⟩, v0] /\ SL i v0 s.Dims := h
theorem rX {i : Imm} {cs : List Value} {s : zF} (h : ∃ v0 : Value, cs = [.string ⟨⟨s.Name.l⟩⟩, v0] /\ SL i v0 s.Dims) : Rp.rep i cs s := h
theorem wG {i : Imm} {cs : List Value} {s : zF} (h : Rp.rep i cs s) : ∃ (p0 : Option Addr) (c0 : Nat), cs = [.string ⟨⟨s.Name.l⟩⟩, vS p0 s.Dims c0] /\ SL i (vS p0 s.Dims c0) s.Dims := by
  obtain ⟨v0, e, h0⟩ := zBa h
  obtain ⟨p0, c0, rfl⟩ := h0.form
  exact ⟨p0, c0, e, h0⟩
instance : Vr zF := ⟨fun i v a => ∃ cs, v = .agg ⟨cs⟩ /\ Rp.rep i cs a, fun hl ⟨cs, e, h⟩ => ⟨cs, e, Rp.mono hl h⟩⟩
structure zA where
  Coefs : List Int
  Const : Int
instance : Rp zA where
  sz := 2
  pos := by decide
  rep i cs s := ∃ v0 : Value, cs = [v0, .int .i64 s.Const] /\ SL i v0 s.Coefs
  len h := by obtain ⟨v0, rfl, h0⟩ := h; rfl
  mono hm h := by obtain ⟨v0, e, h0⟩ := h; exact ⟨v0, e, h0.mono hm⟩
  one h := by obtain ⟨v0, rfl, h0⟩ := h; simp [zC6, h0.one]
theorem zEj {i : Imm} {cs : List Value} {s : zA} (h : Rp.rep i cs s) : ∃ v0 : Value, cs = [v0, .int .i64 s.Const] /\ SL i v0 s.Coefs := h
theorem yK {i : Imm} {cs : List Value} {s : zA} (h : ∃ v0 : Value, cs = [v0, .int .i64 s.Const] /\ SL i v0 s.Coefs) : Rp.rep i cs s := h
theorem yM {i : Imm} {cs : List Value} {s : zA} (h : Rp.rep i cs s) : ∃ (p0 : Option Addr) (c0 : Nat), cs = [vS p0 s.Coefs c0, .int .i64 s.Const] /\ SL i (vS p0 s.Coefs c0) s.Coefs := by
  obtain ⟨v0, e, h0⟩ := zEj h
  obtain ⟨p0, c0, rfl⟩ := h0.form
  exact ⟨p0, c0, e, h0⟩
instance : Vr zA := ⟨fun i v a => ∃ cs, v = .agg ⟨cs⟩ /\ Rp.rep i cs a, fun hl ⟨cs, e, h⟩ => ⟨cs, e, Rp.mono hl h⟩⟩
structure zE where
  Lo : List zA
  Hi : List zA
instance : Rp zE where
  sz := 2
  pos := by decide
  rep i cs s := ∃ v0 v1 : Value, cs = [v0, v1] /\ SL i v0 s.Lo /\ SL i v1 s.Hi
  len h := by obtain ⟨v0, v1, rfl, h0, h1⟩ := h; rfl
  mono hm h := by obtain ⟨v0, v1, e, h0, h1⟩ := h; exact ⟨v0, v1, e, h0.mono hm, h1.mono hm⟩
  one h := by obtain ⟨v0, v1, rfl, h0, h1⟩ := h; simp [h0.one, h1.one]
theorem zBu {i : Imm} {cs : List Value} {s : zE} (h : Rp.rep i cs s) : ∃ v0 v1 : Value, cs = [v0, v1] /\ SL i v0 s.Lo /\ SL i v1 s.Hi := h
theorem rM {i : Imm} {cs : List Value} {s : zE} (h : ∃ v0 v1 : Value, cs = [v0, v1] /\ SL i v0 s.Lo /\ SL i v1 s.Hi) : Rp.rep i cs s := h
theorem sA {i : Imm} {cs : List Value} {s : zE} (h : Rp.rep i cs s) : ∃ (p0 : Option Addr) (c0 : Nat) (p1 : Option Addr) (c1 : Nat), cs = [vS p0 s.Lo c0, vS p1 s.Hi c1] /\ SL i (vS p0 s.Lo c0) s.Lo /\ SL i (vS p1 s.Hi c1) s.Hi := by
  obtain ⟨v0, v1, e, h0, h1⟩ := zBu h
  obtain ⟨p0, c0, rfl⟩ := h0.form
  obtain ⟨p1, c1, rfl⟩ := h1.form
  exact ⟨p0, c0, p1, c1, e, h0, h1⟩
instance : Vr zE := ⟨fun i v a => ∃ cs, v = .agg ⟨cs⟩ /\ Rp.rep i cs a, fun hl ⟨cs, e, h⟩ => ⟨cs, e, Rp.mono hl h⟩⟩
structure zJ where
  Array : Str
  Subs : List zA
instance : Rp zJ where
  sz := 2
  pos := by decide
  rep i cs s := ∃ v0 : Value, cs = [.string ⟨⟨s.Array.l⟩⟩, v0] /\ SL i v0 s.Subs
  len h := by obtain ⟨v0, rfl, h0⟩ := h; rfl
  mono hm h := by obtain ⟨v0, e, h0⟩ := h; exact ⟨v0, e, h0.mono hm⟩
  one h := by obtain ⟨v0, rfl, h0⟩ := h; simp [zFv, h0.one]
theorem zEk {i : Imm} {cs : List Value} {s : zJ} (h : Rp.rep i cs s) : ∃ v0 : Value, cs = [.string ⟨⟨s.Array.l⟩⟩, v0] /\ SL i v0 s.Subs := h
theorem nT {i : Imm} {cs : List Value} {s : zJ} (h : ∃ v0 : Value, cs = [.string ⟨⟨s.Array.l⟩⟩, v0] /\ SL i v0 s.Subs) : Rp.rep i cs s := h
theorem oT {i : Imm} {cs : List Value} {s : zJ} (h : Rp.rep i cs s) : ∃ (p0 : Option Addr) (c0 : Nat), cs = [.string ⟨⟨s.Array.l⟩⟩, vS p0 s.Subs c0] /\ SL i (vS p0 s.Subs c0) s.Subs := by
  obtain ⟨v0, e, h0⟩ := zEk h
  obtain ⟨p0, c0, rfl⟩ := h0.form
  exact ⟨p0, c0, e, h0⟩
instance : Vr zJ := ⟨fun i v a => ∃ cs, v = .agg ⟨cs⟩ /\ Rp.rep i cs a, fun hl ⟨cs, e, h⟩ => ⟨cs, e, Rp.mono hl h⟩⟩
inductive zG where
  | mk (Kind : Int) (Num : Int) (Index : zA) (Read : zJ) (Kids : List zG)
def zG.Kind : zG -> Int | .mk x _ _ _ _ => x
def zG.Num : zG -> Int | .mk _ x _ _ _ => x
def zG.Index : zG -> zA | .mk _ _ x _ _ => x
def zG.Read : zG -> zJ | .mk _ _ _ x _ => x
def zG.Kids : zG -> (List zG) | .mk _ _ _ _ x => x
mutual
def zG.repE (i : Imm) : zG -> List Value -> Prop
  | .mk Kind Num Index Read Kids, cs => ∃ (v0 v1 v2 : Value) (aK : List Value), cs = [.int .i64 Kind, .int .i64 Num, v0, .int .i64 Index.Const, .string ⟨⟨Read.Array.l⟩⟩, v1, v2] /\ SL i v0 Index.Coefs /\ SL i v1 Read.Subs /\ SliceAt i v2 7 aK /\ zG.reps i Kids aK
def zG.reps (i : Imm) : List zG -> List Value -> Prop
  | [], cs => cs = []
  | e :: es, cs => ∃ c1 c2, cs = c1++c2 /\ c1.length = 7 /\ zG.repE i e c1 /\ zG.reps i es c2
end
mutual
theorem zDC {i : Imm} : ∀ {e : zG} {cs : List Value}, zG.repE i e cs -> cs.length = 7
  | .mk .., cs, h => by simp only [zG.repE] at h; obtain ⟨v0, v1, v2, aK, rfl, _⟩ := h; rfl
end
mutual
theorem dO {i j : Imm} (hm : i.le j) : ∀ {e : zG} {cs : List Value}, zG.repE i e cs -> zG.repE j e cs
  | .mk .., cs, h => by
    simp only [zG.repE] at h ⊢
    obtain ⟨v0, v1, v2, aK, e, k0, k1, ha, hb⟩ := h
    exact ⟨v0, v1, v2, aK, e, k0.mono hm, k1.mono hm, ha.mono hm, dP hm hb⟩
theorem dP {i j : Imm} (hm : i.le j) : ∀ {es : List zG} {cs : List Value}, zG.reps i es cs -> zG.reps j es cs
  | [], cs, h => by simpa [zG.reps] using h
  | e :: es, cs, h => by
    simp only [zG.reps] at h ⊢
    obtain ⟨c1, c2, h1, h2, h3, h4⟩ := h
    exact ⟨c1, c2, h1, h2, dO hm h3, dP hm h4⟩
end
theorem jF {i : Imm} : ∀ {es : List zG} {cs : List Value}, zG.reps i es cs↔RepL (fun c e => zG.repE i e c) 7 cs es
  | [], cs => by simp [zG.reps, RepL]
  | e :: es, cs => by
    simp only [zG.reps, RepL]
    constructor
    · rintro ⟨c1, c2, h1, h2, h3, h4⟩; exact ⟨c1, c2, h1, h2, h3, jF.1 h4⟩
    · rintro ⟨c1, c2, h1, h2, h3, h4⟩; exact ⟨c1, c2, h1, h2, h3, jF.2 h4⟩
theorem SliceAt.one {i : Imm} {v : Value} {sz : Nat} {cs : List Value} (hs : SliceAt i v sz cs) : v.oneCell' = true := by
  rcases hs with ⟨rfl, _⟩ | ⟨b, off, len, cap, c, rfl, _⟩ <;> rfl
theorem zDD {i : Imm} : ∀ {e : zG} {cs : List Value}, zG.repE i e cs -> ∀ v∈cs, v.oneCell' = true
  | .mk .., cs, h => by
    simp only [zG.repE] at h
    obtain ⟨v0, v1, v2, aK, rfl, k0, k1, ha, _⟩ := h
    simp [zC6, zFv, k0.one, k1.one, ha.one]
instance : Rp zG where
  sz := 7
  pos := by decide
  rep i cs e := zG.repE i e cs
  len h := zDC h
  mono hm h := dO hm h
  one h := zDD h
theorem zGO {i : Imm} {cs : List Value} {s : zG} (h : Rp.rep i cs s) : ∃ v0 v1 v2 : Value, cs = [.int .i64 s.Kind, .int .i64 s.Num, v0, .int .i64 s.Index.Const, .string ⟨⟨s.Read.Array.l⟩⟩, v1, v2] /\ SL i v0 s.Index.Coefs /\ SL i v1 s.Read.Subs /\ SL i v2 s.Kids := by
  obtain ⟨Kind, Num, Index, Read, Kids⟩ := s
  have h : zG.repE i _ cs := h
  simp only [zG.repE] at h
  obtain ⟨v0, v1, v2, aK, e, k0, k1, ha, hb⟩ := h
  exact ⟨v0, v1, v2, e, k0, k1, ⟨aK, ha, jF.1 hb⟩⟩
theorem xT {i : Imm} {cs : List Value} {s : zG} (h : ∃ v0 v1 v2 : Value, cs = [.int .i64 s.Kind, .int .i64 s.Num, v0, .int .i64 s.Index.Const, .string ⟨⟨s.Read.Array.l⟩⟩, v1, v2] /\ SL i v0 s.Index.Coefs /\ SL i v1 s.Read.Subs /\ SL i v2 s.Kids) : Rp.rep i cs s := by
  obtain ⟨Kind, Num, Index, Read, Kids⟩ := s
  show zG.repE i _ cs
  simp only [zG.repE]
  obtain ⟨v0, v1, v2, e, k0, k1, ⟨aK, ha, hb⟩⟩ := h
  exact ⟨v0, v1, v2, aK, e, k0, k1, ha, jF.2 hb⟩
theorem tH {i : Imm} {cs : List Value} {s : zG} (h : Rp.rep i cs s) : ∃ (p0 : Option Addr) (c0 : Nat) (p1 : Option Addr) (c1 : Nat) (p2 : Option Addr) (c2 : Nat), cs = [.int .i64 s.Kind, .int .i64 s.Num, vS p0 s.Index.Coefs c0, .int .i64 s.Index.Const, .string ⟨⟨s.Read.Array.l⟩⟩, vS p1 s.Read.Subs c1, vS p2 s.Kids c2] /\ SL i (vS p0 s.Index.Coefs c0) s.Index.Coefs /\ SL i (vS p1 s.Read.Subs c1) s.Read.Subs /\ SL i (vS p2 s.Kids c2) s.Kids := by
  obtain ⟨v0, v1, v2, e, h0, h1, h2⟩ := zGO h
  obtain ⟨p0, c0, rfl⟩ := h0.form
  obtain ⟨p1, c1, rfl⟩ := h1.form
  obtain ⟨p2, c2, rfl⟩ := h2.form
  exact ⟨p0, c0, p1, c1, p2, c2, e, h0, h1, h2⟩
instance : Vr zG := ⟨fun i v a => ∃ cs, v = .agg ⟨cs⟩ /\ Rp.rep i cs a, fun hl ⟨cs, e, h⟩ => ⟨cs, e, Rp.mono hl h⟩⟩
structure zO where
  Write : zJ
  Value : zG
instance : Rp zO where
  sz := 9
  pos := by decide
  rep i cs s := ∃ v0 v1 v2 v3 : Value, cs = [.string ⟨⟨s.Write.Array.l⟩⟩, v0, .int .i64 s.Value.Kind, .int .i64 s.Value.Num, v1, .int .i64 s.Value.Index.Const, .string ⟨⟨s.Value.Read.Array.l⟩⟩, v2, v3] /\ SL i v0 s.Write.Subs /\ SL i v1 s.Value.Index.Coefs /\ SL i v2 s.Value.Read.Subs /\ SL i v3 s.Value.Kids
  len h := by obtain ⟨v0, v1, v2, v3, rfl, h0, h1, h2, h3⟩ := h; rfl
  mono hm h := by obtain ⟨v0, v1, v2, v3, e, h0, h1, h2, h3⟩ := h; exact ⟨v0, v1, v2, v3, e, h0.mono hm, h1.mono hm, h2.mono hm, h3.mono hm⟩
  one h := by obtain ⟨v0, v1, v2, v3, rfl, h0, h1, h2, h3⟩ := h; simp [zFv, zC6, h0.one, h1.one, h2.one, h3.one]
theorem oU {i : Imm} {cs : List Value} {s : zO} (h : Rp.rep i cs s) : ∃ v0 v1 v2 v3 : Value, cs = [.string ⟨⟨s.Write.Array.l⟩⟩, v0, .int .i64 s.Value.Kind, .int .i64 s.Value.Num, v1, .int .i64 s.Value.Index.Const, .string ⟨⟨s.Value.Read.Array.l⟩⟩, v2, v3] /\ SL i v0 s.Write.Subs /\ SL i v1 s.Value.Index.Coefs /\ SL i v2 s.Value.Read.Subs /\ SL i v3 s.Value.Kids := h
theorem wM {i : Imm} {cs : List Value} {s : zO} (h : ∃ v0 v1 v2 v3 : Value, cs = [.string ⟨⟨s.Write.Array.l⟩⟩, v0, .int .i64 s.Value.Kind, .int .i64 s.Value.Num, v1, .int .i64 s.Value.Index.Const, .string ⟨⟨s.Value.Read.Array.l⟩⟩, v2, v3] /\ SL i v0 s.Write.Subs /\ SL i v1 s.Value.Index.Coefs /\ SL i v2 s.Value.Read.Subs /\ SL i v3 s.Value.Kids) : Rp.rep i cs s := h
theorem qS {i : Imm} {cs : List Value} {s : zO} (h : Rp.rep i cs s) : ∃ (p0 : Option Addr) (c0 : Nat) (p1 : Option Addr) (c1 : Nat) (p2 : Option Addr) (c2 : Nat) (p3 : Option Addr) (c3 : Nat), cs = [.string ⟨⟨s.Write.Array.l⟩⟩, vS p0 s.Write.Subs c0, .int .i64 s.Value.Kind, .int .i64 s.Value.Num, vS p1 s.Value.Index.Coefs c1, .int .i64 s.Value.Index.Const, .string ⟨⟨s.Value.Read.Array.l⟩⟩, vS p2 s.Value.Read.Subs c2, vS p3 s.Value.Kids c3] /\ SL i (vS p0 s.Write.Subs c0) s.Write.Subs /\ SL i (vS p1 s.Value.Index.Coefs c1) s.Value.Index.Coefs /\ SL i (vS p2 s.Value.Read.Subs c2) s.Value.Read.Subs /\ SL i (vS p3 s.Value.Kids c3) s.Value.Kids := by
  obtain ⟨v0, v1, v2, v3, e, h0, h1, h2, h3⟩ := oU h
  obtain ⟨p0, c0, rfl⟩ := h0.form
  obtain ⟨p1, c1, rfl⟩ := h1.form
  obtain ⟨p2, c2, rfl⟩ := h2.form
  obtain ⟨p3, c3, rfl⟩ := h3.form
  exact ⟨p0, c0, p1, c1, p2, c2, p3, c3, e, h0, h1, h2, h3⟩
instance : Vr zO := ⟨fun i v a => ∃ cs, v = .agg ⟨cs⟩ /\ Rp.rep i cs a, fun hl ⟨cs, e, h⟩ => ⟨cs, e, Rp.mono hl h⟩⟩
structure zN where
  Nest : List zE
  Body : List zO
instance : Rp zN where
  sz := 2
  pos := by decide
  rep i cs s := ∃ v0 v1 : Value, cs = [v0, v1] /\ SL i v0 s.Nest /\ SL i v1 s.Body
  len h := by obtain ⟨v0, v1, rfl, h0, h1⟩ := h; rfl
  mono hm h := by obtain ⟨v0, v1, e, h0, h1⟩ := h; exact ⟨v0, v1, e, h0.mono hm, h1.mono hm⟩
  one h := by obtain ⟨v0, v1, rfl, h0, h1⟩ := h; simp [h0.one, h1.one]
theorem zGP {i : Imm} {cs : List Value} {s : zN} (h : Rp.rep i cs s) : ∃ v0 v1 : Value, cs = [v0, v1] /\ SL i v0 s.Nest /\ SL i v1 s.Body := h
theorem rO {i : Imm} {cs : List Value} {s : zN} (h : ∃ v0 v1 : Value, cs = [v0, v1] /\ SL i v0 s.Nest /\ SL i v1 s.Body) : Rp.rep i cs s := h
theorem wQ {i : Imm} {cs : List Value} {s : zN} (h : Rp.rep i cs s) : ∃ (p0 : Option Addr) (c0 : Nat) (p1 : Option Addr) (c1 : Nat), cs = [vS p0 s.Nest c0, vS p1 s.Body c1] /\ SL i (vS p0 s.Nest c0) s.Nest /\ SL i (vS p1 s.Body c1) s.Body := by
  obtain ⟨v0, v1, e, h0, h1⟩ := zGP h
  obtain ⟨p0, c0, rfl⟩ := h0.form
  obtain ⟨p1, c1, rfl⟩ := h1.form
  exact ⟨p0, c0, p1, c1, e, h0, h1⟩
instance : Vr zN := ⟨fun i v a => ∃ cs, v = .agg ⟨cs⟩ /\ Rp.rep i cs a, fun hl ⟨cs, e, h⟩ => ⟨cs, e, Rp.mono hl h⟩⟩
structure zD where
  Arrays : List zF
  Parts : List zN
instance : Rp zD where
  sz := 2
  pos := by decide
  rep i cs s := ∃ v0 v1 : Value, cs = [v0, v1] /\ SL i v0 s.Arrays /\ SL i v1 s.Parts
  len h := by obtain ⟨v0, v1, rfl, h0, h1⟩ := h; rfl
  mono hm h := by obtain ⟨v0, v1, e, h0, h1⟩ := h; exact ⟨v0, v1, e, h0.mono hm, h1.mono hm⟩
  one h := by obtain ⟨v0, v1, rfl, h0, h1⟩ := h; simp [h0.one, h1.one]
theorem zDi {i : Imm} {cs : List Value} {s : zD} (h : Rp.rep i cs s) : ∃ v0 v1 : Value, cs = [v0, v1] /\ SL i v0 s.Arrays /\ SL i v1 s.Parts := h
theorem vD {i : Imm} {cs : List Value} {s : zD} (h : ∃ v0 v1 : Value, cs = [v0, v1] /\ SL i v0 s.Arrays /\ SL i v1 s.Parts) : Rp.rep i cs s := h
theorem nB {i : Imm} {cs : List Value} {s : zD} (h : Rp.rep i cs s) : ∃ (p0 : Option Addr) (c0 : Nat) (p1 : Option Addr) (c1 : Nat), cs = [vS p0 s.Arrays c0, vS p1 s.Parts c1] /\ SL i (vS p0 s.Arrays c0) s.Arrays /\ SL i (vS p1 s.Parts c1) s.Parts := by
  obtain ⟨v0, v1, e, h0, h1⟩ := zDi h
  obtain ⟨p0, c0, rfl⟩ := h0.form
  obtain ⟨p1, c1, rfl⟩ := h1.form
  exact ⟨p0, c0, p1, c1, e, h0, h1⟩
instance : Vr zD := ⟨fun i v a => ∃ cs, v = .agg ⟨cs⟩ /\ Rp.rep i cs a, fun hl ⟨cs, e, h⟩ => ⟨cs, e, Rp.mono hl h⟩⟩
structure zL where
  Part : Int
  Stmt : Int
  Point : List Int
instance : Rp zL where
  sz := 3
  pos := by decide
  rep i cs s := ∃ v0 : Value, cs = [.int .i64 s.Part, .int .i64 s.Stmt, v0] /\ SL i v0 s.Point
  len h := by obtain ⟨v0, rfl, h0⟩ := h; rfl
  mono hm h := by obtain ⟨v0, e, h0⟩ := h; exact ⟨v0, e, h0.mono hm⟩
  one h := by obtain ⟨v0, rfl, h0⟩ := h; simp [zC6, h0.one]
theorem zDE {i : Imm} {cs : List Value} {s : zL} (h : Rp.rep i cs s) : ∃ v0 : Value, cs = [.int .i64 s.Part, .int .i64 s.Stmt, v0] /\ SL i v0 s.Point := h
theorem zAB {i : Imm} {cs : List Value} {s : zL} (h : ∃ v0 : Value, cs = [.int .i64 s.Part, .int .i64 s.Stmt, v0] /\ SL i v0 s.Point) : Rp.rep i cs s := h
theorem uL {i : Imm} {cs : List Value} {s : zL} (h : Rp.rep i cs s) : ∃ (p0 : Option Addr) (c0 : Nat), cs = [.int .i64 s.Part, .int .i64 s.Stmt, vS p0 s.Point c0] /\ SL i (vS p0 s.Point c0) s.Point := by
  obtain ⟨v0, e, h0⟩ := zDE h
  obtain ⟨p0, c0, rfl⟩ := h0.form
  exact ⟨p0, c0, e, h0⟩
instance : Vr zL := ⟨fun i v a => ∃ cs, v = .agg ⟨cs⟩ /\ Rp.rep i cs a, fun hl ⟨cs, e, h⟩ => ⟨cs, e, Rp.mono hl h⟩⟩
structure tG where
  Program : zD
  list : List zL
  reads : List (List Int)
  writes : List Int
instance : Rp tG where
  sz := 5
  pos := by decide
  rep i cs s := ∃ v0 v1 v2 v3 v4 : Value, cs = [v0, v1, v2, v3, v4] /\ SL i v0 s.Program.Arrays /\ SL i v1 s.Program.Parts /\ SL i v2 s.list /\ SL i v3 s.reads /\ SL i v4 s.writes
  len h := by obtain ⟨v0, v1, v2, v3, v4, rfl, h0, h1, h2, h3, h4⟩ := h; rfl
  mono hm h := by obtain ⟨v0, v1, v2, v3, v4, e, h0, h1, h2, h3, h4⟩ := h; exact ⟨v0, v1, v2, v3, v4, e, h0.mono hm, h1.mono hm, h2.mono hm, h3.mono hm, h4.mono hm⟩
  one h := by obtain ⟨v0, v1, v2, v3, v4, rfl, h0, h1, h2, h3, h4⟩ := h; simp [h0.one, h1.one, h2.one, h3.one, h4.one]
theorem zEl {i : Imm} {cs : List Value} {s : tG} (h : Rp.rep i cs s) : ∃ v0 v1 v2 v3 v4 : Value, cs = [v0, v1, v2, v3, v4] /\ SL i v0 s.Program.Arrays /\ SL i v1 s.Program.Parts /\ SL i v2 s.list /\ SL i v3 s.reads /\ SL i v4 s.writes := h
theorem zEm {i : Imm} {cs : List Value} {s : tG} (h : ∃ v0 v1 v2 v3 v4 : Value, cs = [v0, v1, v2, v3, v4] /\ SL i v0 s.Program.Arrays /\ SL i v1 s.Program.Parts /\ SL i v2 s.list /\ SL i v3 s.reads /\ SL i v4 s.writes) : Rp.rep i cs s := h
theorem zGQ {i : Imm} {cs : List Value} {s : tG} (h : Rp.rep i cs s) : ∃ (p0 : Option Addr) (c0 : Nat) (p1 : Option Addr) (c1 : Nat) (p2 : Option Addr) (c2 : Nat) (p3 : Option Addr) (c3 : Nat) (p4 : Option Addr) (c4 : Nat), cs = [vS p0 s.Program.Arrays c0, vS p1 s.Program.Parts c1, vS p2 s.list c2, vS p3 s.reads c3, vS p4 s.writes c4] /\ SL i (vS p0 s.Program.Arrays c0) s.Program.Arrays /\ SL i (vS p1 s.Program.Parts c1) s.Program.Parts /\ SL i (vS p2 s.list c2) s.list /\ SL i (vS p3 s.reads c3) s.reads /\ SL i (vS p4 s.writes c4) s.writes := by
  obtain ⟨v0, v1, v2, v3, v4, e, h0, h1, h2, h3, h4⟩ := zEl h
  obtain ⟨p0, c0, rfl⟩ := h0.form
  obtain ⟨p1, c1, rfl⟩ := h1.form
  obtain ⟨p2, c2, rfl⟩ := h2.form
  obtain ⟨p3, c3, rfl⟩ := h3.form
  obtain ⟨p4, c4, rfl⟩ := h4.form
  exact ⟨p0, c0, p1, c1, p2, c2, p3, c3, p4, c4, e, h0, h1, h2, h3, h4⟩
instance : Vr tG := ⟨fun i v a => ∃ cs, v = .agg ⟨cs⟩ /\ Rp.rep i cs a, fun hl ⟨cs, e, h⟩ => ⟨cs, e, Rp.mono hl h⟩⟩
structure zK where
  b : List UInt8
  p : Int
instance : Rp zK where
  sz := 2
  pos := by decide
  rep i cs s := ∃ v0 : Value, cs = [v0, .int .i64 s.p] /\ SL i v0 s.b
  len h := by obtain ⟨v0, rfl, h0⟩ := h; rfl
  mono hm h := by obtain ⟨v0, e, h0⟩ := h; exact ⟨v0, e, h0.mono hm⟩
  one h := by obtain ⟨v0, rfl, h0⟩ := h; simp [zC6, h0.one]
theorem fK {i : Imm} {cs : List Value} {s : zK} (h : Rp.rep i cs s) : ∃ v0 : Value, cs = [v0, .int .i64 s.p] /\ SL i v0 s.b := h
theorem yO {i : Imm} {cs : List Value} {s : zK} (h : ∃ v0 : Value, cs = [v0, .int .i64 s.p] /\ SL i v0 s.b) : Rp.rep i cs s := h
theorem zZ {i : Imm} {cs : List Value} {s : zK} (h : Rp.rep i cs s) : ∃ (p0 : Option Addr) (c0 : Nat), cs = [vS p0 s.b c0, .int .i64 s.p] /\ SL i (vS p0 s.b c0) s.b := by
  obtain ⟨v0, e, h0⟩ := fK h
  obtain ⟨p0, c0, rfl⟩ := h0.form
  exact ⟨p0, c0, e, h0⟩
instance : Vr zK := ⟨fun i v a => ∃ cs, v = .agg ⟨cs⟩ /\ Rp.rep i cs a, fun hl ⟨cs, e, h⟩ => ⟨cs, e, Rp.mono hl h⟩⟩
structure sB where
  nest : List zE
  steps : Int
  out : List (List Int)
instance : Rp sB where
  sz := 3
  pos := by decide
  rep i cs s := ∃ v0 v1 : Value, cs = [v0, .int .i64 s.steps, v1] /\ SL i v0 s.nest /\ SL i v1 s.out
  len h := by obtain ⟨v0, v1, rfl, h0, h1⟩ := h; rfl
  mono hm h := by obtain ⟨v0, v1, e, h0, h1⟩ := h; exact ⟨v0, v1, e, h0.mono hm, h1.mono hm⟩
  one h := by obtain ⟨v0, v1, rfl, h0, h1⟩ := h; simp [zC6, h0.one, h1.one]
instance : Vr sB := ⟨fun i v a => ∃ cs, v = .agg ⟨cs⟩ /\ Rp.rep i cs a, fun hl ⟨cs, e, h⟩ => ⟨cs, e, Rp.mono hl h⟩⟩
end Go.LN
namespace Go.LN
theorem iM {α:Type} [Rp α] {i j:Imm} (h:i.le j) {l:List α}{cs:List Value} (hr:RL i cs l):RL j cs l:=RepL.mono (fun _ _=>Rp.mono h) hr
def stB:List HA->Nat->List Value->(List HA->Option (List HA))->Option (List HA)
  | .blk b _::t,0,c',k=>k (.blk b ⟨c'⟩::t)
  | h::t,j+1,c',k=>stB t j c' fun r=>k (h::r)
  | _,_,_,_=>none
theorem zKO:∀ {hs:List HA}{j:Nat}{b:Nat}{c:Array Value}{c':List Value}{k:List HA->Option (List HA)},hs[j]?=some (.blk b c)->stB hs j c' k=k (hs.set j (.blk b ⟨c'⟩))
  | [],_,_,_,_,_,h=>by simp at h
  | A::t,0,b,c,c',k,h=>by
    simp only [ff,Option.some.injEq] at h
    subst h; rfl
  | A::t,j+1,b,c,c',k,h=>by
    simp only [fg] at h
    rw [stB,zKO h,d8]
class Mo (X:Prop) (i j:Imm) (Y:outParam Prop):Prop where
  mo:i.le j->X->Y
instance {α:Type} [Rp α] {v:Value}{l:List α}{i j:Imm}:Mo (SL i v l) i j (SL j v l):=⟨fun h x=>x.mono h⟩
instance {α:Type} [Rp α] {cs:List Value}{l:List α}{i j:Imm}:Mo (RL i cs l) i j (RL j cs l):=⟨fun h x=>iM h x⟩
instance {ad:Addr}{cs:List Value}{i j:Imm}:Mo (At i ad cs) i j (At j ad cs):=⟨fun h x=>At.mono h x⟩
instance {α:Type} [Rp α] {v:Value}{o:Option α}{i j:Imm}:Mo (FP i v o) i j (FP j v o):=⟨fun h x=>FP.mono x h⟩
instance {α β:Type} [Vr α] [Vr β] {P:Program}{bd:List HA}{v:Value}{φ:α->Option β}{i j:Imm}:Mo (FV1 P i bd v φ) i j (FV1 P j bd v φ):=⟨fun h x=>FV1.mono h x⟩
instance {α β γ:Type} [Vr α] [Vr β] [Vr γ] {P:Program}{bd:List HA}{v:Value}{φ:α->β->Option γ}{i j:Imm}:Mo (FV2 P i bd v φ) i j (FV2 P j bd v φ):=⟨fun h x=>FV2.mono h x⟩
instance {P:Program}{i j:Imm}:Mo (GH P i) i j (GH P j):=⟨fun h x=>GH.mono h x⟩
instance {i0 i j:Imm}:Mo (i0.le i) i j (i0.le j):=⟨fun h x=>x.trans h⟩
theorem m2 {i j:Imm}{A B A' B':Prop} (h:i.le j) (a:A) (b:B) [Mo A i j A'] [Mo B i j B']:A'/\B':=⟨Mo.mo h a,Mo.mo h b⟩
theorem m3 {i j:Imm}{A B C A' B' C':Prop} (h:i.le j) (a:A) (b:B) (c:C) [Mo A i j A'] [Mo B i j B'] [Mo C i j C']:A'/\B'/\C':=⟨Mo.mo h a,Mo.mo h b,Mo.mo h c⟩
theorem m4 {i j:Imm}{A B C D A' B' C' D':Prop} (h:i.le j) (a:A) (b:B) (c:C) (d:D) [Mo A i j A'] [Mo B i j B'] [Mo C i j C'] [Mo D i j D']:A'/\B'/\C'/\D':=⟨Mo.mo h a,Mo.mo h b,Mo.mo h c,Mo.mo h d⟩
theorem m5 {i j:Imm}{A B C D E A' B' C' D' E':Prop} (h:i.le j) (a:A) (b:B) (c:C) (d:D) (e:E) [Mo A i j A'] [Mo B i j B'] [Mo C i j C'] [Mo D i j D'] [Mo E i j E']:A'/\B'/\C'/\D'/\E':=⟨Mo.mo h a,Mo.mo h b,Mo.mo h c,Mo.mo h d,Mo.mo h e⟩
theorem m6 {i j:Imm}{A B C D E F A' B' C' D' E' F':Prop} (h:i.le j) (a:A) (b:B) (c:C) (d:D) (e:E) (f:F) [Mo A i j A'] [Mo B i j B'] [Mo C i j C'] [Mo D i j D'] [Mo E i j E'] [Mo F i j F']:A'/\B'/\C'/\D'/\E'/\F':=⟨Mo.mo h a,Mo.mo h b,Mo.mo h c,Mo.mo h d,Mo.mo h e,Mo.mo h f⟩
abbrev K1 {α:Type} (o:α) (I:Imm) (hs:List HA) (m:α->FM):Imm->List HA->FM->Prop:=fun I' ah m'=>∃ t:α,o=t/\I.le I'/\ah=hs/\m'=m t
section
variable {P:Program}{n:Nat}{B:Base}{ae:List Oper}{Q:Exit->Act->World->Prop}{pc:Nat}{imm:Imm}{hs:List HA}{m:FM}{d:Nat}
  {ty:TypeId}{pos:String}{after:Array Edge}{g:Option (Nat×Bool)}
theorem xM {f:FuncId}{x:Operand}{xs:Array Operand}{ts:Array TypeId}{vs:List Value}{post:Nat->Imm->List HA->Value->Prop}
    (hc:Ret P f vs imm [] post)
    (next:∀ am ah v k,imm.le am->B.w0.heap.size<=k->post k am ah v->(∀ b∈ah.flatMap HA.fp,b∈([]:List HA).flatMap HA.fp∨B.w0.heap.size<=b)->R P n B ae Q (pc+1) am (ah++hs) ((d,v)::m))
    (ho:ae[pc]?=some ⟨some d,.call { callee:=.value x,args:=xs,argTypes:=ts },ty,pos,after,g⟩:=by rfl) (hg:guardB ae m g=some true:=by rfl) (hn:Nat.blt d n=true:=by rfl) (hx:val m x=some (.func (.func f) #[] #[]):=by rfl) (hf:callable P f=true:=by kernel_rfl)
    (hvs:vals m xs.toList=some vs:=by rfl):R P n B ae Q pc imm hs m :=
  zEd (hs1:=[]) (rest:=hs) ho hg hn hx hf hvs rfl hc next
theorem zNh {f:FuncId}{x:Operand}{xs:Array Operand}{ts:Array TypeId}{vs:List Value} (hs1 rest:List HA) {post:Nat->Imm->List HA->Value->Prop}
    (hc:Ret P f vs imm hs1 post)
    (next:∀ am ah v k,imm.le am->B.w0.heap.size<=k->post k am ah v->(∀ b∈ah.flatMap HA.fp,b∈hs1.flatMap HA.fp∨B.w0.heap.size<=b)->R P n B ae Q (pc+1) am (ah++rest) ((d,v)::m))
    (ho:ae[pc]?=some ⟨some d,.call { callee:=.value x,args:=xs,argTypes:=ts },ty,pos,after,g⟩:=by rfl) (hg:guardB ae m g=some true:=by rfl) (hn:Nat.blt d n=true:=by rfl) (hx:val m x=some (.func (.func f) #[] #[]):=by rfl) (hf:callable P f=true:=by kernel_rfl)
    (hvs:vals m xs.toList=some vs:=by rfl) (hh:hs=hs1++rest:=by rfl):R P n B ae Q pc imm hs m :=
  zEd (hs1:=hs1) (rest:=rest) ho hg hn hx hf hvs hh hc next
theorem zAP (m':FM) (h:R P n B ae Q pc imm hs m') (hk:keep m (m'.map (·.1))=some m':=by kernel_rfl):R P n B ae Q pc imm hs m:=fT (zAl hk) h
theorem uD (cs:List Value) (α:Type) [Rp α] {t len:Nat}{parts:Array (Nat×Operand)}{ps:List (Nat×Value)}
    (next:∀ b,B.w0.heap.size<=b->R P n B ae Q (pc+1) imm (.osl (.slice (some ⟨b,0,none⟩) len len) (Rp.sz α) cs::hs) ((d,.slice (some ⟨b,0,none⟩) len len)::m))
    (ho:ae[pc]?=some ⟨some d,.buildSlice t len parts,ty,pos,after,g⟩:=by rfl) (hg:guardB ae m g=some true:=by rfl) (hn:Nat.blt d n=true:=by rfl) (hps:pvals m parts.toList=some ps:=by rfl) (hc:elemZ P t len ps=some ⟨cs⟩:=by kernel_rfl) (hl:Nat.beq cs.length (len*Rp.sz α)=true:=by kernel_rfl)
    (hlM:Nat.ble len 9223372036854775807=true:=by rfl):R P n B ae Q pc imm hs m :=
  zHv (cs:=cs) (Rp.sz α) ho hg hn hps hc hl next hlM
theorem wL (c:List Value) {t:TypeId}
    (next:∀ b,B.w0.heap.size<=b->R P n B ae Q (pc+1) imm (.blk b ⟨c⟩::hs) ((d,.pointer (some ⟨b,0,none⟩))::m))
    (ho:ae[pc]?=some ⟨some d,.alloc t,ty,pos,after,g⟩:=by rfl) (hg:guardB ae m g=some true:=by rfl) (hn:Nat.blt d n=true:=by rfl) (hz:zeroC P t=some ⟨c⟩:=by kernel_rfl):R P n B ae Q pc imm hs m :=
  zMK (c:=⟨c⟩) ho hg hn hz next
theorem tW (c:List Value) {t:TypeId}{x:Operand}{v:Value}
    (next:∀ b,B.w0.heap.size<=b->R P n B ae Q (pc+1) imm (.blk b ⟨c⟩::hs) ((d,.pointer (some ⟨b,0,none⟩))::m))
    (ho:ae[pc]?=some ⟨some d,.box t x,ty,pos,after,g⟩:=by rfl) (hg:guardB ae m g=some true:=by rfl) (hn:Nat.blt d n=true:=by rfl) (hx:val m x=some v:=by rfl) (hc:v.cells=⟨c⟩:=by rfl):R P n B ae Q pc imm hs m :=
  zN1 (c:=⟨c⟩) ho hg hn hx hc next
theorem dC {its:List It}{gs:List (List HA)}{N:Nat}{l:List (Nat×Bool)}{ops':List Oper}{pc:Nat} (m2:FM) (h:R P n B ops' Q pc imm hs m2)
    (hi:(insM ae its l m).bind (fun m1=>keep m1 (m2.map (·.1)))=some m2:=by kernel_rfl):Ins ae (factsOf N its gs) imm l m hs fun m' ah=>R P n B ops' Q pc imm ah m':=by
  obtain ⟨m1,h1,h2⟩:=Option.bind_eq_some_iff.1 hi
  refine zDh (fun j it hj=>?_) h1 (fT (zAl h2) h)
  have aF:=(cj.1 hj).1
  unfold factsOf
  rw [ez,f6 (by rw [dd]; exact aF),dm,hj]
  rfl
theorem xE {ops':List Oper}{pc d0:Nat}{φi:Fact}{imm1:Imm}{v:Value} (bK:imm1.le imm) (h0:ops'.drop pc=[]:=by rfl) (hd:look m d0=some v:=by rfl) (hφ:φi imm v []:=by exact ⟨rfl,rfl⟩):R P n B ops' (OutQ n B φi (some d0) imm1 hs) pc imm hs m :=
  zFX (hx:=[]) h0 bK rfl (fun _ e=>by cases e; exact hd) hφ
theorem yJ {f:FuncId}{fn:Func}{args:List Value}{post:Nat->Imm->List HA->Value->Prop} (hf:P.funcs[f]?=some fn) (h:∀ B:Base,J P fn.ntmps B (bodyOf fn) (QB P fn B post) imm hs (argm 0 args))
    (hb:fn.body=some (bodyOf fn):=by rfl) (hn:Nat.ble args.length fn.ntmps=true:=by rfl):Ret P f args imm hs post:=zLF hf hb hn fun B _ _=>h B
theorem yQ (hx:List HA) {ops':List Oper}{pc d0:Nat}{φi:Fact}{imm1:Imm}{hs0:List HA}{v:Value} (bK:imm1.le imm) (hφ:φi imm v hx) (h0:ops'.drop pc=[]:=by rfl) (hh:hs=hx++hs0:=by rfl) (hd:look m d0=some v:=by rfl):R P n B ops' (OutQ n B φi (some d0) imm1 hs0) pc imm hs m :=
  zFX (hx:=hx) h0 bK hh (fun _ e=>by cases e; exact hd) hφ
theorem yE {id:Nat}{ae:List Oper}{y:Code} (h:R P n B ae (Exit.then (y.wp P Q) Q) 0 imm hs m):J P n B ((Code.region id ae.toArray false).seq y) Q imm hs m:=yB (zM h)
theorem yA {x y:Code} (h:J P n B x (Exit.then (y.wp P Q) Q) imm hs m):T n B (Exit.then ((x.seq y).wp P Q) Q) .normal imm hs m:=zI (yB h)
theorem yV {id:Nat}{ae:List Oper}{y:Code} (h:R P n B ae (Exit.then (y.wp P Q) Q) 0 imm hs m):T n B (Exit.then (((Code.region id ae.toArray false).seq y).wp P Q) Q) .normal imm hs m:=zI (yE h)
theorem vR {id:Nat}{ae:List Oper}{y:Code} (new:FM) (hR:T n B (Exit.then (y.wp P Q) Q) .normal imm hs (new++m)) (h:runD P n ae hs 0 ae.length [] (new.map (·.1)) m=some (new,[].map (blkAt hs)):=by kernel_rfl):J P n B ((Code.region id ae.toArray false).seq y) Q imm hs m:=yE (wB [] new hR h)
theorem zGR {id:Nat}{ae:List Oper}{y:Code} (new:FM) (hR:T n B (Exit.then (y.wp P Q) Q) .normal imm hs (new++m)) (h:runD P n ae hs 0 ae.length [] (new.map (·.1)) m=some (new,[].map (blkAt hs)):=by kernel_rfl):T n B (Exit.then (((Code.region id ae.toArray false).seq y).wp P Q) Q) .normal imm hs m:=zI (vR new hR h)
theorem vE {fn:Func}{post:Nat->Imm->List HA->Value->Prop}{v:Value} (h1:ResV P m hs fn.results.toList [v]:=by exact .tmp rfl ResV.nil) (h2:post B.w0.heap.size imm [] (tupV [v]):=by exact ⟨_,rfl,rfl,rfl⟩):T n B (QB P fn B post) .ret imm hs m:=xA ⟨_,_,h1,zQ,h2⟩
theorem gR {f:FuncId}{x:Operand}{xs:Array Operand}{ts:Array TypeId}{vs:List Value}{r:Int}
    (hc:Ret P f vs imm [] fun _ _ ah v=>∃ v0,ah=[]/\v=tupV [v0]/\v0=.int .i64 r)
    (next:∀ am,imm.le am->R P n B ae Q (pc+1) am hs ((d,vI r)::m))
    (ho:ae[pc]?=some ⟨some d,.call { callee:=.value x,args:=xs,argTypes:=ts },ty,pos,after,g⟩:=by rfl) (hg:guardB ae m g=some true:=by rfl) (hn:Nat.blt d n=true:=by rfl) (hx:val m x=some (.func (.func f) #[] #[]):=by rfl) (hf:callable P f=true:=by kernel_rfl)
    (hvs:vals m xs.toList=some vs:=by rfl):R P n B ae Q pc imm hs m :=
  xM hc (fun am ah v k h1 _ h3 _=>by obtain ⟨v0,rfl,rfl,rfl⟩:=h3; exact next am h1) ho hg hn hx hf hvs
theorem uM {f:FuncId}{x:Operand}{xs:Array Operand}{ts:Array TypeId}{vs:List Value}{r:Bool}
    (hc:Ret P f vs imm [] fun _ _ ah v=>∃ v0,ah=[]/\v=tupV [v0]/\v0=.bool r)
    (next:∀ am,imm.le am->R P n B ae Q (pc+1) am hs ((d,.bool r)::m))
    (ho:ae[pc]?=some ⟨some d,.call { callee:=.value x,args:=xs,argTypes:=ts },ty,pos,after,g⟩:=by rfl) (hg:guardB ae m g=some true:=by rfl) (hn:Nat.blt d n=true:=by rfl) (hx:val m x=some (.func (.func f) #[] #[]):=by rfl) (hf:callable P f=true:=by kernel_rfl)
    (hvs:vals m xs.toList=some vs:=by rfl):R P n B ae Q pc imm hs m :=
  xM hc (fun am ah v k h1 _ h3 _=>by obtain ⟨v0,rfl,rfl,rfl⟩:=h3; exact next am h1) ho hg hn hx hf hvs
theorem wR {id:Nat}{K1 K2:Act->World->Prop} (h:T n B Q (.exit id) imm hs m):J P n B (.exit id) (Exit.then K1 (Exit.then K2 Q)) imm hs m:=zEb (jB (jB h))
theorem xC (h:T n B Q .ret imm hs m):T n B (Exit.then ((Code.ret).wp P Q) Q) .normal imm hs m:=zI (xB h)
theorem xX {id:Nat}{c:Code} (h:J P n B c (Exit.inBlock id Q) imm hs m):T n B (Exit.then ((Code.block id c).wp P Q) Q) .normal imm hs m:=zI (yH h)
theorem zY (is:List Nat) {ah:List HA} (h:pick hs is=some ah:=by rfl) (hn:is.Nodup:=by decide):∀ w,Good B imm hs w->Good B imm ah w:=zX is h hn
theorem xH {t:TypeId}{x y:Operand}{b o:Nat}{c:Array Value}{v:Value}{ah:List HA} (j:Nat) (c':List Value) (hq:stB hs j c' some=some ah) (next:R P n B ae Q (pc+1) imm ah m) (ho:ae[pc]?=some ⟨none,.store t x y,ty,pos,after,g⟩:=by rfl) (hj:hs[j]?=some (.blk b c):=by rfl) (hx:val m x=some (.pointer (some ⟨b,o,none⟩)):=by rfl) (hy:val m y=some v:=by rfl) (hg:guardB ae m g=some true:=by kernel_rfl) (bR:sizeT P t=some v.cells.size:=by kernel_rfl) (bS:Nat.ble (o+v.cells.size) c.size=true:=by kernel_rfl) (bY:v.cells.toList.all Value.oneCell'=true:=by kernel_rfl) (hc:wr c o v.cells.toList=⟨c'⟩:=by kernel_rfl):R P n B ae Q pc imm hs m :=
  zAo j c' ah ho hj hx hy next hg bR bS bY hc (by rw [zKO hj] at hq; exact Option.some.inj hq)
end
theorem bE {α β:Type}{o:Option α}{f:α->Option β}{r:β}{G:Prop} (h:(o >>= f)=some r) (k:∀ x,o=some x->f x=some r->G):G:=by
  obtain ⟨x,h1,h2⟩:=zB h;exact k x h1 h2
theorem ct {α:Type}{o t:α}{P1:Prop}{P2 P3:α->Prop} (hM:(pure t:Option α)=some o) (H:P1) (h2:P2 t:=by rfl) (h3:P3 t:=by rfl):∃ t',o=t'/\P1/\P2 t'/\P3 t':=⟨t,(zC hM).symm,H,h2,h3⟩
abbrev NG (Q:Exit->Act->World->Prop):Prop:=∀ gl a w,¬Q (.goto gl) a w
abbrev NO (Q:Exit->Act->World->Prop):Prop:=∀ a w,¬Q .outgrown a w
abbrev cStmt (x:zO) (p0:Option Addr) (c0:Nat) (p1:Option Addr) (c1:Nat) (p2:Option Addr) (c2:Nat) (p3:Option Addr) (c3:Nat):List Value:=[vT x.Write.Array.l,vS p0 x.Write.Subs c0,vI x.Value.Kind,vI x.Value.Num,vS p1 x.Value.Index.Coefs c1,vI x.Value.Index.Const,vT x.Value.Read.Array.l,vS p2 x.Value.Read.Subs c2,vS p3 x.Value.Kids c3]
abbrev cExpr (x:zG) (p0:Option Addr) (c0:Nat) (p1:Option Addr) (c1:Nat) (p2:Option Addr) (c2:Nat):List Value:=[vI x.Kind,vI x.Num,vS p0 x.Index.Coefs c0,vI x.Index.Const,vT x.Read.Array.l,vS p1 x.Read.Subs c1,vS p2 x.Kids c2]
abbrev cAccess (x:zJ) (p0:Option Addr) (c0:Nat):List Value:=[vT x.Array.l,vS p0 x.Subs c0]
abbrev cAff (x:zA) (p0:Option Addr) (c0:Nat):List Value:=[vS p0 x.Coefs c0,vI x.Const]
abbrev cLoop (x:zE) (p0:Option Addr) (c0:Nat) (p1:Option Addr) (c1:Nat):List Value:=[vS p0 x.Lo c0,vS p1 x.Hi c1]
abbrev cPart (x:zN) (p0:Option Addr) (c0:Nat) (p1:Option Addr) (c1:Nat):List Value:=[vS p0 x.Nest c0,vS p1 x.Body c1]
abbrev cProg (x:zD) (p0:Option Addr) (c0:Nat) (p1:Option Addr) (c1:Nat):List Value:=[vS p0 x.Arrays c0,vS p1 x.Parts c1]
abbrev cArr (x:zF) (p0:Option Addr) (c0:Nat):List Value:=[vT x.Name.l,vS p0 x.Dims c0]
abbrev cRd (x:zK) (p0:Option Addr) (c0:Nat):List Value:=[vS p0 x.b c0,vI x.p]
abbrev cInst (x:zL) (p0:Option Addr) (c0:Nat):List Value:=[vI x.Part,vI x.Stmt,vS p0 x.Point c0]
abbrev zExpr:List Value:=[vI 0,vI 0,.slice none 0 0,vI 0,vT ([]),.slice none 0 0,.slice none 0 0]
abbrev zTwo:List Value:=[.slice none 0 0,.slice none 0 0]
abbrev z0:Value:=.slice none 0 0
abbrev vF:Value:=.bool false
abbrev vY:Value:=.bool true
abbrev KT:=Nat->Imm->List HA->Value->Prop
theorem iS (i:Imm):i.le i:=Imm.le.refl i
theorem iR {i:Imm}:i.le i:=Imm.le.refl i
abbrev S4 {α:Type} [Rp α] (imm:Imm) (p:Option Addr) (l:List α) (c:Nat):Prop:=SL imm (vS p l c) l
end Go.LN
namespace Go.LN
theorem zEn:∀ {ks:List Nat}{m m':FM},keep m ks=some m'->m'.map (·.1)=ks
  | [],m,m',h=>by simp only [keep] at h; cases h; rfl
  | k::ks,m,m',h=>by
    simp only [keep] at h
    split at h
    · rename_i v m1 h1 h2; cases h; rw [cE,zEn h2]
    · cases h
theorem zC7 {P:Program}{n:Nat}{ae:List Oper}{hs:List HA}{pc k:Nat}{js ks:List Nat}{m new:FM}{bs:List Nat} (h:runD P n ae hs pc k js ks m=some (new,bs)):new.map (·.1)=ks:=by
  unfold runD at h;split at h
  · split at h
    · rename_i hk; cases h; exact zEn hk
    · cases h
  · cases h
section
variable {P:Program}{n:Nat}{B:Base}{ae:List Oper}{Q:Exit->Act->World->Prop}{pc:Nat}{imm:Imm}{hs:List HA}{m new:FM}{d:Nat}
theorem yC (pc':Nat) (js ks:List Nat) (h:runD P n ae hs pc (pc' - pc) js ks m=some (new,js.map (blkAt hs))) (hR:R P n B ae Q pc' imm hs (new++m))
    (hl:Nat.beq (pc+((ae.drop pc).take (pc' - pc)).length) pc'=true:=by kernel_rfl):R P n B ae Q pc imm hs m:=rY pc' js new hR (by rw [zC7 h]; exact h) hl
theorem yI (js ks:List Nat) (h:runD P n ae hs pc ae.length js ks m=some (new,js.map (blkAt hs))) (hR:T n B Q .normal imm hs (new++m)):R P n B ae Q pc imm hs m:=wB js new hR (by rw [zC7 h]; exact h)
theorem fS (pc':Nat) (js ks:List Nat) (h:runD P n ae hs pc (pc' - pc) js ks m=some (new,js.map (blkAt hs))) (hR:Rq P n B ae Q pc' imm hs (new++m))
    (hl:Nat.beq (pc+((ae.drop pc).take (pc' - pc)).length) pc'=true:=by kernel_rfl):Rq P n B ae Q pc imm hs m:=zNg pc' js new hR (by rw [zC7 h]; exact h) hl
theorem zHL (js ks:List Nat) (h:runD P n ae hs pc ae.length js ks m=some (new,js.map (blkAt hs))) (hR:T n B Q .normal imm hs (new++m)):Rq P n B ae Q pc imm hs m:=zIf js new hR (by rw [zC7 h]; exact h)
theorem yG {id:Nat}{ae:List Oper}{y:Code} (ks:List Nat) (h:runD P n ae hs 0 ae.length [] ks m=some (new,[])) (hR:T n B (Exit.then (y.wp P Q) Q) .normal imm hs (new++m)):J P n B ((Code.region id ae.toArray false).seq y) Q imm hs m:=yE (yI [] ks h hR)
theorem vK {id:Nat}{ae:List Oper}{y:Code} (ks:List Nat) (h:runD P n ae hs 0 ae.length [] ks m=some (new,[])) (hR:T n B (Exit.then (y.wp P Q) Q) .normal imm hs (new++m)):T n B (Exit.then (((Code.region id ae.toArray false).seq y).wp P Q) Q) .normal imm hs m:=zI (yG ks h hR)
theorem yL {e:Exit}{m':FM} (h:T n B Q e imm hs m') (hk:keep m (m'.map (·.1))=some m':=by kernel_rfl):T n B Q e imm hs m:=T_w m' h hk
theorem nN {c:Code}{m':FM} (h:J P n B c Q imm hs m') (hk:keep m (m'.map (·.1))=some m':=by kernel_rfl):J P n B c Q imm hs m:=qP m' h hk
theorem yW {its:List It}{gs:List (List HA)}{N:Nat}{l:List (Nat×Bool)}{ops':List Oper}{m2:FM} (ks:List Nat)
    (hi:(insM ae its l m).bind (fun m1=>keep m1 ks)=some m2) (h:R P n B ops' Q pc imm hs m2):Ins ae (factsOf N its gs) imm l m hs fun m' ah=>R P n B ops' Q pc imm ah m' :=
  dC m2 h (by
    obtain ⟨m1,h1,h2⟩:=Option.bind_eq_some_iff.1 hi
    rw [zEn h2]; exact hi)
theorem xS (qs:List Nat) {c:Bool}{α:Type}{X Y:Option α}{r:α} (hM:(if c=true then X else Y)=some r) (ht:c=true->X=some r->R P n B ae Q pc imm hs (qs.map (fun q=>(q,Value.bool true))++m))
    (hf:c=false->Y=some r->R P n B ae Q pc imm hs (qs.map (fun q=>(q,Value.bool false))++m)) (hq:keep m qs=some (qs.map fun q=>(q,Value.bool c)):=by kernel_rfl):R P n B ae Q pc imm hs m:=by
  cases c with
  | true=>exact zMP (fun a f=>zGM hq (fun _ _ _ h=>h) a f) (ht rfl hM)
  | false=>exact zMP (fun a f=>zGM hq (fun _ _ _ h=>h) a f) (hf rfl hM)
theorem zF0 (qs:List Nat) {c:Bool}{α:Type}{X Y:Option α}{r:α} (hM:(if c=true then X else Y)=some r) (ht:c=true->X=some r->Rq P n B ae Q pc imm hs (qs.map (fun q=>(q,Value.bool true))++m))
    (hf:c=false->Y=some r->Rq P n B ae Q pc imm hs (qs.map (fun q=>(q,Value.bool false))++m)) (hq:keep m qs=some (qs.map fun q=>(q,Value.bool c)):=by kernel_rfl):Rq P n B ae Q pc imm hs m:=by
  cases c with
  | true=>exact zKK (fun a f=>zGM hq (fun _ _ _ h=>h) a f) (ht rfl hM)
  | false=>exact zKK (fun a f=>zGM hq (fun _ _ _ h=>h) a f) (hf rfl hM)
theorem zNi (α:Type) [Rp α] (h:RL imm [] ([]:List α)->R P n B ae Q pc imm (hO α (.slice none 0 0) []::hs) m):R P n B ae Q pc imm hs m:=tO (pP (Rp.sz α)) (h RepL.nil)
theorem dR (α:Type) [Rp α] {c:Code} (h:RL imm [] ([]:List α)->J P n B c Q imm (hO α (.slice none 0 0) []::hs) m):J P n B c Q imm hs m:=nX (pP (Rp.sz α)) (h RepL.nil)
theorem nC {α:Type} [Rp α] {cs:List Value}{l:List α} (hr:RL imm cs l) {t len:Nat}{parts:Array (Nat×Operand)}{ps:List (Nat×Value)}{ty:TypeId}{pos:String}{after:Array Edge}{g:Option (Nat×Bool)}
    (next:∀ b am,imm.le am->SL am (.slice (some ⟨b,0,none⟩) len len) l->R P n B ae Q (pc+1) am hs ((d,.slice (some ⟨b,0,none⟩) len len)::m))
    (ho:ae[pc]?=some ⟨some d,.buildSlice t len parts,ty,pos,after,g⟩:=by rfl) (hg:guardB ae m g=some true:=by rfl) (hn:Nat.blt d n=true:=by rfl) (hps:pvals m parts.toList=some ps:=by rfl) (hc:elemZ P t len ps=some ⟨cs⟩:=by kernel_rfl) (hl:Nat.beq cs.length (len*Rp.sz α)=true:=by kernel_rfl)
    (hlM:Nat.ble len 9223372036854775807=true:=by rfl):R P n B ae Q pc imm hs m :=
  uD cs α (fun b _=>xF 0 rfl fun am bK hl0=>next b am bK (SL.of_frozen hl0 bK hr)) ho hg hn hps hc hl hlM
theorem tM {f:FuncId}{x:Operand}{xs:Array Operand}{ts:Array TypeId}{vs:List Value}{hs1 rest:List HA}{post:Nat->Imm->List HA->Value->Prop}{ty:TypeId}{pos:String}{after:Array Edge}{g:Option (Nat×Bool)}
    (hc:Ret P f vs imm hs1 post) (hh:hs=hs1++rest)
    (next:∀ am ah v k,imm.le am->B.w0.heap.size<=k->post k am ah v->(∀ b∈ah.flatMap HA.fp,b∈hs1.flatMap HA.fp∨B.w0.heap.size<=b)->R P n B ae Q (pc+1) am (ah++rest) ((d,v)::m))
    (ho:ae[pc]?=some ⟨some d,.call { callee:=.value x,args:=xs,argTypes:=ts },ty,pos,after,g⟩:=by rfl) (hg:guardB ae m g=some true:=by rfl) (hn:Nat.blt d n=true:=by rfl) (hx:val m x=some (.func (.func f) #[] #[]):=by rfl) (hf:callable P f=true:=by kernel_rfl)
    (hvs:vals m xs.toList=some vs:=by rfl):R P n B ae Q pc imm hs m:=zNh hs1 rest hc next ho hg hn hx hf hvs hh
theorem wS {α γ:Type}{x:Option α}{f:α->Option γ}{r:γ}{c:Code} (hM:(x >>= f)=some r) (hs0:List HA) (mf:α->FM)
    (h:∀ o,x=some o->J P n B c (Exit.then (fun a w=>∃ am ah m',K1 o imm hs0 mf am ah m'/\Fr n a m'/\Good B am ah w) Q) imm hs m)
    (k:∀ t am,imm.le am->f t=some r->T n B Q .normal am hs0 (mf t)):J P n B c Q imm hs m:=by
  obtain ⟨o,h1,h2⟩:=zB hM
  refine qR (K1 o imm hs0 mf) (h o h1) ?_
  rintro am _ _ ⟨t,rfl,bK,rfl,rfl⟩
  exact k _ am bK h2
end
theorem rN {α:Type} [Rp α] {i:Imm}:RL i [] ([]:List α):=RepL.nil
theorem rc {α:Type} [Rp α] {i:Imm}{c1 c2:List Value}{l:List α} (a:α) (h:Rp.rep i c1 a) (t:RL i c2 l):RL i (c1++c2) (a::l):=⟨c1,c2,rfl,Rp.len h,h,t⟩
theorem rI {i:Imm}:∀ (l:List Int),RL i (l.map vI) l
  | []=>RepL.nil
  | a::l=>⟨[vI a],l.map vI,rfl,rfl,rfl,rI l⟩
theorem rT {i:Imm}:∀ (l:List Str),RL i (l.map fun s=>vT s.l) l
  | []=>RepL.nil
  | a::l=>⟨[vT a.l],l.map fun s=>vT s.l,rfl,rfl,rfl,rT l⟩
end Go.LN
namespace Go.LN
section
variable {P:Program}{n:Nat}{B:Base}{Q:Exit->Act->World->Prop}{imm:Imm}{hs:List HA}{m:FM}{ae:List Oper}{pc d:Nat}{ty:TypeId}{pos:String}{after:Array Edge}{g:Option (Nat×Bool)}
end
theorem Ret.fz {P:Program}{f:FuncId}{args:List Value}{imm:Imm}{hs:List HA}{post post':Nat->Imm->List HA->Value->Prop} (h:Ret P f args imm hs post) (hp:∀ k i h v,post k i h v->∃ A r,h=A::r/\A.plain=true/\∀ i',i.le i'->Lent i' A->post' k i' r v):Ret P f args imm hs post' :=
  fun w g=>(h w g).mono fun e w' he=>by
    cases e with
    | returned v =>
      obtain ⟨i,ah,h1,h2⟩:=he
      obtain ⟨A,r,rfl,pl,h3⟩:=hp _ _ _ _ h1
      obtain ⟨i',le,hL,hg⟩:=Good.freeze h2 pl
      exact ⟨i',r,h3 i' le hL,hg⟩
    | panicked c=>exact he
    | outgrown=>exact he
end Go.LN
namespace Go.LN
section
variable {P:Program}{n:Nat}{B:Base}{ae:List Oper}{Q:Exit->Act->World->Prop}{pc:Nat}{imm:Imm}{hs:List HA}{m:FM}{d:Nat}
end
end Go.LN
namespace Go.LN
theorem sL {x:Int} (h0:-9223372036854775808<=x) (h1:x<=9223372036854775807):W x=x:=by
  show IntKind.i64.wrap x=x;rw [IntKind.wrap_i64]; omega
theorem zC8 {α:Type} (l:List α) (k:Nat):idx l (k:Int)=l[k]?:=by
  unfold idx;simp
theorem zGS {k:Nat} (h:k<9223372036854775807):W ((k:Int)+1)=((k+1:Nat):Int):=by
  rw [sL (by omega) (by omega)]; omega
end Go.LN
namespace Go.LN
structure Raw2 where
  a:Value
  b:Value
instance:Rp Raw2 where
  sz:=2
  pos:=by decide
  rep _ cs r:=cs=[r.a,r.b]/\r.a.oneCell'=true/\r.b.oneCell'=true
  len h:=by obtain ⟨rfl,_⟩:=h; rfl
  mono _ h:=h
  one h:=by obtain ⟨rfl,h1,h2⟩:=h; simp [h1,h2]
def flat:List Raw2->List Value
  | []=>[]
  | r::l=>r.a::r.b::flat l
theorem zAY:∀ (a b:List Raw2),flat (a++b)=flat a++flat b
  | [],_=>rfl
  | r::a,b=>by simp [flat,zAY a b]
theorem kI {imm:Imm}:∀ {l:List Raw2}{cs:List Value},RL imm cs l->cs=flat l
  | [],cs,h=>h
  | r::l,cs,⟨c1,c2,h1,_,h3,h4⟩=>by
    obtain ⟨rfl,_⟩:=h3
    rw [h1,kI h4]; rfl
def LP (imm:Imm) (ak:List Raw2) (parts:List zN) (vN:Value) (nl:List zE) (vB:Value) (bl:List zO):Prop :=
  parts.length<=140737488355328/\ak.length=parts.length /\
    ((parts=[]/\ak=[])∨∃ rl l,parts=l++[⟨nl,bl⟩]/\ak=rl++[⟨vN,vB⟩]/\RepL (Rp.rep imm) (Rp.sz zN) (flat rl) l)
theorem LP.mono {i j:Imm} (hl:i.le j) {ak:List Raw2}{parts:List zN}{vN vB:Value}{nl:List zE}{bl:List zO} (h:LP i ak parts vN nl vB bl):LP j ak parts vN nl vB bl:=by
  obtain ⟨h1,h2,h3⟩:=h;refine ⟨h1,h2,h3.imp id ?_⟩;rintro ⟨rl,l,k1,k2,k3⟩;exact ⟨rl,l,k1,k2,RepL.mono (fun _ _=>Rp.mono hl) k3⟩
structure L4 (imm:Imm) (cs:List Value) (arr:List zF) (ay:List Value) (ak:List Raw2) (parts:List zN) (vN:Value) (nl:List zE) (vB:Value) (bl:List zO) (csN csB:List Value):Prop where
  arr:RL imm cs arr
  raw:RL imm ay ak
  lp:LP imm ak parts vN nl vB bl
  n:RL imm csN nl
  b:RL imm csB bl
theorem L4.mono {i j:Imm} (hl:i.le j) {cs:List Value}{arr:List zF}{ay:List Value}{ak:List Raw2}{parts:List zN}{vN vB:Value}{nl:List zE}{bl:List zO}{csN csB:List Value}
    (h:L4 i cs arr ay ak parts vN nl vB bl csN csB):L4 j cs arr ay ak parts vN nl vB bl csN csB :=
  ⟨RepL.mono (fun _ _=>Rp.mono hl) h.arr,RepL.mono (fun _ _=>Rp.mono hl) h.raw,h.lp.mono hl,RepL.mono (fun _ _=>Rp.mono hl) h.n,RepL.mono (fun _ _=>Rp.mono hl) h.b⟩
theorem LP.len {imm:Imm}{ak:List Raw2}{parts:List zN}{vN vB:Value}{nl:List zE}{bl:List zO} (h:LP imm ak parts vN nl vB bl):(parts.length:Int)=(ak.length:Int):=by rw [h.2.1]
theorem LP.last {imm:Imm}{ak:List Raw2}{parts:List zN}{vN vB:Value}{nl:List zE}{bl:List zO} (h:LP imm ak parts vN nl vB bl) {x:zN} (hx:idx parts (W ((ak.length:Int) - 1))=some x) :
    x=⟨nl,bl⟩/\idx ak (W ((ak.length:Int) - 1))=some ⟨vN,vB⟩ /\
      ∀ vN' nl' vB' bl',LP imm (ak.set (W ((ak.length:Int) - 1)).toNat ⟨vN',vB'⟩) (parts.set (W ((ak.length:Int) - 1)).toNat ⟨nl',bl'⟩) vN' nl' vB' bl':=by
  obtain ⟨h1,h2,h3⟩:=h
  have hW:W ((ak.length:Int) - 1)=(ak.length:Int) - 1:=sL (by omega) (by omega)
  rw [hW] at hx ⊢
  rcases h3 with ⟨rfl,rfl⟩ | ⟨rl,l,rfl,rfl,h4⟩
  · simp [idx] at hx
  · have hl:l.length=rl.length:=by simpa using h2.symm
    have e:(((rl++[(⟨vN,vB⟩:Raw2)]).length:Int) - 1).toNat=rl.length:=by simp
    have e0:(0:Int)<=((rl++[(⟨vN,vB⟩:Raw2)]).length:Int) - 1:=by simp
    unfold idx at hx ⊢
    rw [if_pos e0,e] at hx ⊢
    rw [<- hl] at hx
    refine ⟨by simpa using hx.symm,by simp,fun vN' nl' vB' bl'=>⟨?_,?_,.inr ⟨rl,l,?_,?_,h4⟩⟩⟩
    · simpa using h1
    · simpa using h2
    · rw [<- hl]; simp
    · simp
theorem LP.part {imm:Imm}{ak:List Raw2}{parts:List zN}{vN vB:Value}{nl:List zE}{bl:List zO} (h:LP imm ak parts vN nl vB bl) (hN:SL imm vN nl) (hB:SL imm vB bl) {l1:List zN}
    (ha:app 48 parts [(⟨[],[]⟩:zN)]=some l1):LP imm (ak++[⟨.slice none 0 0,.slice none 0 0⟩]) l1 (.slice none 0 0) [] (.slice none 0 0) []:=by
  obtain ⟨hb,rfl⟩:=gT ha
  obtain ⟨h1,h2,h3⟩:=h
  refine ⟨?_,?_,.inr ⟨ak,parts,rfl,rfl,?_⟩⟩
  · simp at hb ⊢; omega
  · simp [h2]
  · rcases h3 with ⟨rfl,rfl⟩ | ⟨rl,l,rfl,rfl,h4⟩
    · rfl
    · rw [zAY]
      exact h4.append (.single rfl (rO ⟨_,_,rfl,hN,hB⟩))
theorem zIA {α β:Type}{b:Nat}{l:List α}{m:List α}{l':List β}{m':List β}{y:List α} (h:app b l m=some y) (h1:l'.length=l.length) (h2:m'.length=m.length):app b l' m'=some (l'++m'):=by
  obtain ⟨k,_⟩:=gT h;unfold app;rw [h1,h2,if_pos k]
theorem LP.done {imm:Imm}{ak:List Raw2}{parts:List zN}{vN vB:Value}{nl:List zE}{bl:List zO} (h:LP imm ak parts vN nl vB bl) (hN:SL imm vN nl) (hB:SL imm vB bl):RepL (Rp.rep imm) (Rp.sz zN) (flat ak) parts:=by
  obtain ⟨h1,h2,h3⟩:=h;rcases h3 with ⟨rfl,rfl⟩ | ⟨rl,l,rfl,rfl,h4⟩
  · rfl
  · rw [zAY];exact h4.append (.single rfl (rO ⟨_,_,rfl,hN,hB⟩))
section
variable {P:Program}{n:Nat}{B:Base}{Q:Exit->Act->World->Prop}{imm:Imm}{hs:List HA}{m:FM}{ae:List Oper}{pc d:Nat}{ty:TypeId}{pos:String}{after:Array Edge}{g:Option (Nat×Bool)}
theorem zMl {t:TypeId}{x y:Operand}{b o:Nat}{c:Array Value}{v:Value} (j:Nat) (c':List Value) (ah:List HA) (ho:ae[pc]?=some ⟨none,.store t x y,ty,pos,after,g⟩) (hj:hs[j]?=some (.blk b c)) (hx:val m x=some (.pointer (some ⟨b,o,none⟩))) (hy:val m y=some v) (bY:v.cells.toList.all Value.oneCell'=true) (next:R P n B ae Q (pc+1) imm ah m) (hg:guardB ae m g=some true:=by kernel_rfl) (bR:sizeT P t=some v.cells.size:=by kernel_rfl) (bS:Nat.ble (o+v.cells.size) c.size=true:=by kernel_rfl) (hc:wr c o v.cells.toList=⟨c'⟩:=by kernel_rfl) (hh:hs.set j (.blk b ⟨c'⟩)=ah:=by rfl):R P n B ae Q pc imm hs m :=
  zFW j ho hg hj hx hy bR bS bY hc hh next
end
end Go.LN
namespace Go.LN
open Go.RowKit
theorem Good.below {imm:Imm}{w w':World} (h:Good ⟨w,imm,[]⟩ imm [] w) (b:Below w.heap.size w w') (hd:w.drawn<=w'.drawn):Good ⟨w,imm,[]⟩ imm [] w':=by
  refine ⟨fun k c e=>?_,by simp,by simp,⟨b.os,b.tape,b.output,b.size,fun k hk _=>b.block k hk,fun _ _ _=>rfl,hd⟩⟩;obtain ⟨ty,fr,e'⟩:=h.inv k c e;exact ⟨ty,fr,(b.block k (h.lt_imm e)).trans e'⟩
theorem Good.cell {B:Base}{imm:Imm}{hs:List HA}{w:World} (h:Good B imm hs w) {g:Nat}{v:Value} (e:imm g=some #[v]):w.cell? ⟨g,0,none⟩=some v:=by
  obtain ⟨ty,fr,e'⟩:=h.inv _ _ e;simp only [World.cell?,e'];simp
theorem zKg {P:Program}{f:FuncId}{args:List Value}{imm:Imm}{v:Value}{post:Nat->Imm->List HA->Value->Prop}
    (h:∀ w,Good ⟨w,imm,[]⟩ imm [] w->Calls P f args.toArray w fun e w'=>e=.returned v/\Below w.heap.size w w'/\w.drawn<=w'.drawn) (hp:∀ k,post k imm [] v):Ret P f args imm [] post:=fun w g =>
  (h w g).mono fun e w' ⟨he,hb,hd⟩=>by
    subst he
    exact ⟨imm,[],hp _,g.below hb hd⟩
theorem At.of_blk {imm:Imm}{b:Nat}{cs:List Value} (h:imm b=some ⟨cs⟩):At imm ⟨b,0,none⟩ cs:=⟨b,0,_,rfl,h,by simp,by simp⟩
section
variable {P:Program}{n:Nat}{B:Base}{ae:List Oper}{Q:Exit->Act->World->Prop}{pc:Nat}{imm:Imm}{hs:List HA}{m:FM}{d:Nat}
  {ty:TypeId}{pos:String}{after:Array Edge}{g:Option (Nat×Bool)}
end
end Go.LN
namespace Go.LN
section
variable {P:Program}{n:Nat}{B:Base}{Q:Exit->Act->World->Prop}{imm:Imm}{hs:List HA}{m:FM}{ae:List Oper}{pc d:Nat}{ty:TypeId}{pos:String}{after:Array Edge}{g:Option (Nat×Bool)}
theorem zIB {t e:TypeId}{w:World}{p:Option Addr}{l c:Nat} (hu:P.underlying t=some (.slice e)):(Op.equal t (.slice p l c) (.slice none 0 0)).run P w=.ok p.isNone w:=by
  have h:∀ d,(Op.equalIn (d+1) t (.slice p l c) (.slice none 0 0)).run P w=.ok p.isNone w:=fun d=>by
    rw [Op.equalIn];cases p <;> simp [xL hu]
  exact h 9999
def sliceT (P:Program) (t:TypeId):Bool:=match P.underlying t with | some (.slice _)=>true | _=>false
theorem zMR {t t2:TypeId}{x:Operand}{p:Option Addr}{l c:Nat} (b:Bool) (ho:ae[pc]?=some ⟨some d,.binOp .eql t x (.const (.slice none 0 0)) t2,ty,pos,after,g⟩) (hb:p.isNone=b)
    (next:R P n B ae Q (pc+1) imm hs ((d,.bool b)::m)) (hx:val m x=some (.slice p l c)) (hg:guardB ae m g=some true:=by kernel_rfl) (hn:Nat.blt d n=true:=by kernel_rfl) (ht:sliceT P t=true:=by kernel_rfl):R P n B ae Q pc imm hs m:=by
  unfold sliceT at ht
  split at ht
  · rename_i e hu
    refine jW ho hg rfl hn fun a w f gd=>⟨.bool b,w,imm,hs,?_,gd,next⟩
    have hy:a.eval (.const (.slice none 0 0))=.slice none 0 0:=rfl
    simp [execOp,f.eval hx,hy,eqGuard,binOp,zIB hu,hb]
  · cases ht
end
end Go.LN
namespace Go.LN
section
variable {P:Program}{n:Nat}{B:Base}{Q:Exit->Act->World->Prop}{imm:Imm}{hs:List HA}{m:FM}
theorem zIC {c:Code} (ah:List HA) (hp:ah.Perm hs) (h:J P n B c Q imm ah m):J P n B c Q imm hs m:=fun a w f g=>h a w f (g.perm hp)
theorem zLS {c:Code} (hF:False) {am:Imm}{ah:List HA}{m':FM} (next:T n B Q .normal am ah m'):J P n B c Q imm hs m:=hF.elim
theorem zMS {c:Code}{L:List HA} (x:Exit) (S:Imm->List HA->FM->Prop) (h1:∀ B':Base,J P n B' c (fun e a w=>e=x/\∃ am ah m',S am ah m'/\Fr n a m'/\Good B' am ah w) imm hs m)
    (h2:∀ am ah m',S am ah m'->imm.le am->T n B Q x am (ah++L) m'):J P n B c Q imm (hs++L) m:=fun a w f g=>by
  have bX:=g.nodup
  rw [dq] at bX
  have hg1:=g.enter (hs1:=hs) (fun A hA=>cY _ hA) (cC.1 bX).1
  refine wp_mono (h1 _ a w f hg1) fun e a' w' he=>?_
  obtain ⟨rfl,am,ah,m',k1,k2,k3⟩:=he
  obtain ⟨k4,k5,_⟩:=g.leave k3
  exact h2 am ah m' k1 k5 a' w' k2 k4
theorem zKh {B':Base}{x:Exit}{S:Imm->List HA->FM->Prop} (h:S imm hs m):T n B' (fun e a w=>e=x/\∃ am ah m',S am ah m'/\Fr n a m'/\Good B' am ah w) x imm hs m:=fun _ _ f g=>⟨rfl,imm,hs,m,h,f,g⟩
end
structure NL where
  pl:Option Addr
  lo:List zA
  cl:Nat
  csl:List Value
  ph:Option Addr
  hi:List zA
  ch:Nat
  csh:List Value
def NL.vl (x:NL):Value:=vS x.pl x.lo x.cl
def NL.vh (x:NL):Value:=vS x.ph x.hi x.ch
def NL.ha (x:NL):List HA:=[hO zA x.vh x.csh,hO zA x.vl x.csl]
def NL.raw (x:NL):Raw2:=⟨x.vl,x.vh⟩
def NL.d (x:NL):zE:=⟨x.lo,x.hi⟩
def NL.ok (imm:Imm) (x:NL):Prop:=RL imm x.csl x.lo/\RL imm x.csh x.hi
def NL.fz (imm:Imm) (x:NL):Prop:=SL imm x.vl x.lo/\SL imm x.vh x.hi
theorem NL.ok.mono {i j:Imm} (h:i.le j) {x:NL} (hx:x.ok i):x.ok j:=⟨RepL.mono (fun _ _=>Rp.mono h) hx.1,RepL.mono (fun _ _=>Rp.mono h) hx.2⟩
theorem NL.fz.mono {i j:Imm} (h:i.le j) {x:NL} (hx:x.fz i):x.fz j:=⟨hx.1.mono h,hx.2.mono h⟩
abbrev NLs (xs:List NL):List HA:=xs.flatMap NL.ha
theorem zLT {xs:List NL}{k:Nat}{x:NL} (h:xs[k]?=some x):∃ ys,(NLs xs).Perm (x.ha++NLs ys)/\(∀ y∈ys,y∈xs)/\∀ i:Nat,∀ y,i ≠ k->xs[i]?=some y->y∈ys:=by
  obtain ⟨hk,rfl⟩:=cj.1 h;refine ⟨xs.eraseIdx k,?_,fun y hy=>List.mem_of_mem_eraseIdx hy,fun i y hi hy=>List.mem_eraseIdx_iff_getElem?.2 ⟨i,hi,hy⟩⟩;have:=(jN h).flatMap_right NL.ha;simpa [NLs] using this
section
variable {P:Program}{n:Nat}{B:Base}{Q:Exit->Act->World->Prop}{hs:List HA}{m:FM}
theorem zAp {c:Code}:∀ (xs:List NL) {imm:Imm},(∀ x∈xs,x.ok imm)->(∀ am,imm.le am->(∀ x∈xs,x.fz am)->J P n B c Q am hs m)->J P n B c Q imm (NLs xs++hs) m
  | [],imm,_,h=>h imm (Imm.le.refl _) (fun _ h=>by cases h)
  | x::xs,imm,hx,h=>by
    have h1:=hx x (cf ..)
    show J P n B c Q imm (hO zA x.vh x.csh::hO zA x.vl x.csl::(NLs xs++hs)) m
    refine rL 0 rfl ?_
    intro imm1 af hl1
    have k1:=SL.of_frozen hl1 af h1.2
    refine rL 0 rfl ?_
    intro imm2 aC hl2
    have k2:=SL.of_frozen hl2 aC (RepL.mono (fun _ _=>Rp.mono af) h1.1)
    refine zAp xs (fun y hy=>(hx y (cg _ hy)).mono (af.trans aC)) ?_
    intro imm3 aD h3
    refine h imm3 ((af.trans aC).trans aD) fun y hy=>?_
    rcases cT.1 hy with rfl | hy
    · exact ⟨k2.mono aD,(k1.mono aC).mono aD⟩
    · exact h3 y hy
end
theorem zFw {α β:Type}{f:α->β}{l:List α}{i:Int}{y:β} (h:idx (l.map f) i=some y):∃ x,idx l i=some x/\y=f x:=by
  obtain ⟨h0,h1,h2⟩:=vW h;rw [dm,Option.map_eq_some_iff] at h2;obtain ⟨x,h3,rfl⟩:=h2;exact ⟨x,by unfold idx; rw [if_pos h0,h3],rfl⟩
theorem zBQ {α β:Type}{f:α->β}{l:List α}{i:Int}{x:α} (h:idx l i=some x):idx (l.map f) i=some (f x):=by
  obtain ⟨h0,h1,h2⟩:=vW h;unfold idx; rw [if_pos h0,dm,h2]; rfl
section
variable {P:Program}{n:Nat}{B:Base}{Q:Exit->Act->World->Prop}{hs:List HA}{m:FM}{imm:Imm}
theorem zLU {c:Code}{xs:List NL}{i:Int}{x:NL} (hx:idx xs i=some x) (bZ:∀ x∈xs,x.ok imm) (h:∀ am,imm.le am->(∀ (j:Nat) y,j ≠ i.toNat->xs[j]?=some y->y.fz am)->J P n B c Q am (hO zA x.vh x.csh::hO zA x.vl x.csl::hs) m):J P n B c Q imm (NLs xs++hs) m:=by
  obtain ⟨h0,h1,h2⟩:=vW hx;obtain ⟨ys,k1,k2,k3⟩:=zLT h2;refine zIC (NLs ys++(x.ha++hs)) ?_ ?_
  · rw [<- co];exact (dh.trans k1.symm).append_right hs
  · refine zAp ys (fun y hy=>bZ y (k2 y hy)) ?_;intro imm1 af hf;exact h imm1 af fun j y hj hy=>hf y (k3 j y hj hy)
end
def PW (imm:Imm) (ak:List Raw2) (nest:List zE):Prop:=ak.length=nest.length/\∀ (j:Nat) r d,ak[j]?=some r->nest[j]?=some d->SL imm r.a d.Lo/\SL imm r.b d.Hi
theorem PW.rl {imm:Imm}:∀ {ak:List Raw2}{nest:List zE},PW imm ak nest->RL imm (flat ak) nest
  | [],[],_=>rfl
  | [],_::_,h=>by cases h.1
  | _::_,[],h=>by cases h.1
  | r::ak,d::nest,h=>⟨[r.a,r.b],flat ak,rfl,rfl,rM ⟨_,_,rfl,h.2 0 r d rfl rfl⟩,PW.rl ⟨by have:=h.1; simpa using this,fun j r' d' h1 h2=>h.2 (j+1) r' d' (by simpa using h1) (by simpa using h2)⟩⟩
theorem zID {imm:Imm}{xs:List NL}{k:Nat}{r:Raw2}{d:zE} (hfz:∀ (j:Nat) y,j ≠ k->xs[j]?=some y->y.fz imm) (hr:SL imm r.a d.Lo/\SL imm r.b d.Hi):PW imm ((xs.map NL.raw).set k r) ((xs.map NL.d).set k d):=by
  refine ⟨by simp,fun j r' d' h1 h2=>?_⟩;by_cases hj:j=k
  · subst hj;rw [List.getElem?_set_self' ] at h1 h2;cases hx:xs[j]? with
    | none=>simp [hx] at h1
    | some y =>
      simp [hx] at h1 h2;subst h1; subst h2;exact hr
  · rw [List.getElem?_set_ne (fun e=>hj e.symm),dm,Option.map_eq_some_iff] at h1 h2;obtain ⟨y,h3,rfl⟩:=h1;obtain ⟨y',h4,rfl⟩:=h2;rw [h3] at h4;cases h4
    exact hfz j y hj h3
theorem NL.shut {imm:Imm}{x:NL} (h:x.fz imm):Rp.rep imm [x.vl,x.vh] x.d:=rM ⟨_,_,rfl,h.1,h.2⟩
theorem zGT {imm:Imm}:∀ {xs:List NL},(∀ x∈xs,x.fz imm)->RL imm (flat (xs.map NL.raw)) (xs.map NL.d)
  | [],_=>rfl
  | x::xs,h=>⟨[x.vl,x.vh],flat (xs.map NL.raw),rfl,rfl,NL.shut (h x (cf ..)),zGT fun y hy=>h y (cg _ hy)⟩
theorem LP.push {imm:Imm}{ak:List Raw2}{parts:List zN}{vN vB vN' vB':Value}{nl nl':List zE}{bl bl':List zO} (h:LP imm ak parts vN nl vB bl) (hN:SL imm vN nl) (hB:SL imm vB bl) {l1:List zN}
    (ha:app 48 parts [(⟨nl',bl'⟩:zN)]=some l1):LP imm (ak++[⟨vN',vB'⟩]) l1 vN' nl' vB' bl':=by
  obtain ⟨hb,rfl⟩:=gT ha
  obtain ⟨h1,h2,h3⟩:=h
  refine ⟨?_,?_,.inr ⟨ak,parts,rfl,rfl,?_⟩⟩
  · simp at hb ⊢; omega
  · simp [h2]
  · rcases h3 with ⟨rfl,rfl⟩ | ⟨rl,l,rfl,rfl,h4⟩
    · rfl
    · rw [zAY]
      exact h4.append (.single rfl (rO ⟨_,_,rfl,hN,hB⟩))
theorem LP.nil {imm:Imm}:LP imm [] [] (.slice none 0 0) [] (.slice none 0 0) []:=⟨by decide,rfl,.inl ⟨rfl,rfl⟩⟩
end Go.LN
namespace Go.LN
structure ND where
  nm:Str
  p:Option Addr
  d:List Int
  c:Nat
  cs:List Value
def ND.v (x:ND):Value:=vS x.p x.d x.c
def ND.ha (x:ND):HA:=hO Int x.v x.cs
def ND.raw (x:ND):Raw2:=⟨vT x.nm.l,x.v⟩
def ND.a (x:ND):zF:=⟨x.nm,x.d⟩
def ND.ok (imm:Imm) (x:ND):Prop:=RL imm x.cs x.d
def ND.fz (imm:Imm) (x:ND):Prop:=SL imm x.v x.d
theorem ND.ok.mono {i j:Imm} (h:i.le j) {x:ND} (hx:x.ok i):x.ok j:=RepL.mono (fun _ _=>Rp.mono h) hx
theorem ND.fz.mono {i j:Imm} (h:i.le j) {x:ND} (hx:x.fz i):x.fz j:=SL.mono h hx
section
variable {P:Program}{n:Nat}{B:Base}{Q:Exit->Act->World->Prop}{hs:List HA}{m:FM}
end
def RW (imm:Imm) (ak:List Raw2) (A:List zF) (k:Nat) (w:Value):Prop:=ak.length=A.length/\∀ (j:Nat) r d,ak[j]?=some r->A[j]?=some d->r.a=vT d.Name.l/\(j ≠ k->SL imm r.b d.Dims)/\(j=k->r.b=w)
def ArW (imm:Imm) (v:Value) (ak:List Raw2) (A:List zF) (k:Int) (w:Value):Prop:=SL imm v ak/\RW imm ak A k.toNat w
theorem ArW.mono {i j:Imm} (h:i.le j) {v:Value}{ak:List Raw2}{A:List zF}{k:Int}{w:Value} (hx:ArW i v ak A k w):ArW j v ak A k w :=
  ⟨SL.mono h hx.1,hx.2.1,fun q r d h1 h2=>⟨(hx.2.2 q r d h1 h2).1,fun hq=>SL.mono h ((hx.2.2 q r d h1 h2).2.1 hq),(hx.2.2 q r d h1 h2).2.2⟩⟩
theorem RW.of {imm:Imm}{xs:List ND}{i:Int}{x:ND} (hx:idx xs i=some x) (h:∀ (j:Nat) y,j ≠ i.toNat->xs[j]?=some y->y.fz imm):RW imm (xs.map ND.raw) (xs.map ND.a) i.toNat x.v:=by
  obtain ⟨h0,h1,h2⟩:=vW hx;refine ⟨by simp,fun j r d hr hd=>?_⟩;rw [dm,Option.map_eq_some_iff] at hr hd;obtain ⟨y,hy,rfl⟩:=hr;obtain ⟨y',hy',rfl⟩:=hd;rw [hy] at hy';cases hy'
  refine ⟨rfl,fun hj=>h j y hj hy,fun hj=>?_⟩;subst hj;rw [h2] at hy;cases hy; rfl
theorem RW.at {imm:Imm}{ak:List Raw2}{A:List zF}{k:Int}{w:Value} (h:RW imm ak A k.toNat w) {a:zF} (ha:idx A k=some a):idx ak k=some ⟨vT a.Name.l,w⟩:=by
  obtain ⟨h0,h1,h2⟩:=vW ha;have aF:=(cj.1 h2).1;have hr:ak[k.toNat]?=some (ak[k.toNat]'(by rw [h.1]; exact aF)):=ce _;obtain ⟨e1,_,e2⟩:=h.2 _ _ _ hr h2;unfold idx;rw [if_pos h0,hr]
  congr 1
  generalize ak[k.toNat]'(by rw [h.1]; exact aF)=r at *;cases r
  simp only at e1 e2;rw [e1,e2 trivial]
theorem RW.rl {imm:Imm}:∀ {ak:List Raw2}{A:List zF},ak.length=A.length->(∀ (j:Nat) r d,ak[j]?=some r->A[j]?=some d->r.a=vT d.Name.l/\SL imm r.b d.Dims)->RL imm (flat ak) A
  | [],[],_,_=>rfl
  | [],_::_,h,_=>by cases h
  | _::_,[],h,_=>by cases h
  | r::ak,d::A,h,hh=>⟨[r.a,r.b],flat ak,rfl,rfl,by
      obtain ⟨e1,e2⟩:=hh 0 r d rfl rfl
      rw [e1]
      exact rX ⟨_,rfl,e2⟩,RW.rl (by simpa using h) fun j r' d' h1 h2=>hh (j+1) r' d' (by simpa using h1) (by simpa using h2)⟩
theorem RW.set {imm:Imm}{ak:List Raw2}{A:List zF}{k:Int}{w:Value} (h:RW imm ak A k.toNat w) {a:zF} (ha:idx A k=some a) {d:List Int} (hd:SL imm w d):RL imm (flat ak) (A.set k.toNat ⟨a.Name,d⟩):=by
  obtain ⟨h0,h1,h2⟩:=vW ha;refine RW.rl (by rw [cR]; exact h.1) fun j r y hr hy=>?_;by_cases hj:j=k.toNat
  · subst hj;rw [List.getElem?_set_self (cj.1 h2).1] at hy;cases hy
    obtain ⟨e1,_,e2⟩:=h.2 _ r a hr h2;exact ⟨e1,by rw [e2 rfl]; exact hd⟩
  · rw [List.getElem?_set_ne (fun e=>hj e.symm)] at hy;obtain ⟨e1,e2,_⟩:=h.2 _ r y hr hy;exact ⟨e1,e2 hj⟩
theorem ArW.done {imm:Imm}{p:Option Addr}{c:Nat}{ak:List Raw2}{A:List zF}{k:Int}{w:Value} (h:ArW imm (vS p ak c) ak A k w) {a:zF} (ha:idx A k=some a) {d:List Int} (hd:SL imm w d):SL imm (vS p (A.set k.toNat ⟨a.Name,d⟩) c) (A.set k.toNat ⟨a.Name,d⟩):=by
  obtain ⟨⟨aK,h1,h2⟩,h3⟩:=h;refine ⟨aK,?_,?_⟩
  · have e:(vS p (A.set k.toNat ⟨a.Name,d⟩) c)=vS p ak c:=by simp only [vS,cR,h3.1]
    rw [e]; exact h1
  · rw [kI h2]; exact h3.set ha hd
section
variable {P:Program}{n:Nat}{B:Base}{imm:Imm}{hs:List HA}{m:FM}
end
end Go.LN
namespace Go.LN
structure NB where
  vN:Value
  nl:List zE
  p:Option Addr
  d:List zO
  c:Nat
  cs:List Value
def NB.v (x:NB):Value:=vS x.p x.d x.c
def NB.ha (x:NB):HA:=hO zO x.v x.cs
def NB.raw (x:NB):Raw2:=⟨x.vN,x.v⟩
def NB.a (x:NB):zN:=⟨x.nl,x.d⟩
def NB.ok (imm:Imm) (x:NB):Prop:=SL imm x.vN x.nl/\RL imm x.cs x.d
def NB.fz (imm:Imm) (x:NB):Prop:=SL imm x.vN x.nl/\SL imm x.v x.d
theorem NB.ok.mono {i j:Imm} (h:i.le j) {x:NB} (hx:x.ok i):x.ok j:=⟨SL.mono h hx.1,RepL.mono (fun _ _=>Rp.mono h) hx.2⟩
theorem NB.fz.mono {i j:Imm} (h:i.le j) {x:NB} (hx:x.fz i):x.fz j:=⟨SL.mono h hx.1,SL.mono h hx.2⟩
theorem NB.shut {imm:Imm}{x:NB} (h:x.fz imm):Rp.rep imm [x.vN,x.v] x.a:=rO ⟨_,_,rfl,h.1,h.2⟩
section
variable {P:Program}{n:Nat}{B:Base}{Q:Exit->Act->World->Prop}{hs:List HA}{m:FM}
end
end Go.LN
namespace Go.LN
open Go.Proofs
def RV:Type:={v:Value // v.oneCell'=true}
def zR:RV:=⟨.slice none 0 0,rfl⟩
instance:Inhabited RV:=⟨zR⟩
def encR (x:RV):Value:=x.1
theorem oneV:OneCell encR:=fun x=>x.2
theorem toRV:∀ (cs:List Value),(∀ v∈cs,v.oneCell'=true)->∃ zs:List RV,cs=zs.map encR
  | [],_=>⟨[],rfl⟩
  | v::cs,h=>by
    obtain ⟨zs,e⟩:=toRV cs fun u hu=>h u (cg _ hu)
    exact ⟨⟨v,h v (cf ..)⟩::zs,congrArg (v::·) e⟩
def delG {α:Type} (s:List α) (i j:Int):Option (List α):=if 0<=i/\i<=j/\j<=s.length/\0<s.length then some (s.take i.toNat++s.drop j.toNat) else none
theorem zIk {P:Program}{f:FuncId} (hc:∀ (blk off cap i j:Nat) (zs:List RV) (w:World),Sort.Holds encR w blk off zs.toArray->zs.length<=cap->cap<=9223372036854775807->i<=j->j<=zs.length ->
      Calls P f #[.slice (some ⟨blk,off,none⟩) zs.length cap,.int .i64 i,.int .i64 j] w fun e w'=>e=.returned (.slice (some ⟨blk,off,none⟩) (zs.length - (j - i)) cap)/\∃ q,w'=Sort.putRow encR (Sort.ahead w q) blk off (zs.take i++zs.drop j++List.replicate (j - i) zR).toArray)
    {s r:List (List Int)}{i j:Int} (hd:delG s i j=some r) {imm:Imm}{p:Option Addr}{c:Nat}{cs:List Value} (hr:RL imm cs s) {post:Nat->Imm->List HA->Value->Prop}
    (hp:∀ k a' c' cs',RL imm cs' r->(∀ b∈(HA.osl (vS a' r c') (Rp.sz (List Int)) cs').fp,b∈(HA.osl (vS p s c) (Rp.sz (List Int)) cs).fp∨k<=b)->post k imm [hO (List Int) (vS a' r c') cs'] (vS a' r c')) :
    Ret P f [vS p s c,vI i,vI j] imm [hO (List Int) (vS p s c) cs] post:=by
  unfold delG at hd
  split at hd
  · rename_i hb
    cases hd
    obtain ⟨hi,hij,hj,hpos⟩:=hb
    intro w g
    obtain ⟨zs,bU⟩:=toRV cs (fun v hv=>RepL.one (fun _ _=>Rp.one) hr v hv)
    have hzl:zs.length=s.length:=by
      have:=hr.length
      rw [bU,dd] at this
      simpa [show Rp.sz (List Int)=1 from rfl] using this
    rcases g.own _ (cf ..) with ⟨e,_⟩ | ⟨b,off,len,cap,all,ty,e,h1,h2,hw,hcap,hlc,ca,hal,hM⟩
    · exfalso
      injection e with _ e2 _
      omega
    · injection e with e1 e2 e3
      subst e1; subst e2; subst e3
      simp only [show Rp.sz (List Int)=1 from rfl,Nat.mul_one] at hcap ca hal
      have hcell:∀ q,q<s.length->all[off+q]?=some (encR (zs[q]!)):=by
        intro q hq
        have h0:cs[q]?=some (encR zs[q]!):=by
          rw [bU,dm,ce (by omega),Option.map_some,getElem!_pos zs q (by omega)]
        rw [<- hal,d9,if_pos hq,et,Array.getElem?_toList] at h0
        exact h0
      have hH:Sort.Holds encR w b off zs.toArray:=by
        intro q hq
        have hq:q<zs.length:=by simpa using hq
        refine ⟨?_,?_⟩
        · simp only [World.cell?,hw]
          have:=hcell q (by omega)
          simp only [Option.isSome_none,cU,if_false,this]
          congr 2
          simp [hq]
        · simp only [World.frozen?,hw]
          simp
      have hc':=hc b off c i.toNat j.toNat zs w hH (by omega) hM (by omega) (by omega)
      have ei:((i.toNat:Nat):Int)=i:=Int.toNat_of_nonneg hi
      have ej:((j.toNat:Nat):Int)=j:=Int.toNat_of_nonneg (by omega)
      rw [ei,ej,hzl] at hc'
      refine hc'.mono fun e w' ⟨he,q,hw'⟩=>?_
      subst he; subst hw'
      have bh:(s.take i.toNat++s.drop j.toNat).length=s.length - (j.toNat - i.toNat):=by
        rw [cH,cp,cA]; omega
      have hzlen:(zs.take i.toNat++zs.drop j.toNat).length=s.length - (j.toNat - i.toNat):=by
        rw [cH,cp,cA]; omega
      let new:List RV:=zs.take i.toNat++zs.drop j.toNat++List.replicate (j.toNat - i.toNat) zR
      have hnl:new.length=s.length:=by
        show (_++_++_:List RV).length=_
        rw [cH,hzlen,List.length_replicate]; omega
      let all':=Sort.putCells encR off new.toArray all
      have bR:all'.size=all.size:=by simp [all',Sort.putCells]
      have hw2:Sort.putRow encR (Sort.ahead w q) b off new.toArray=setBlk (Sort.ahead w q) b (.cells all' ty (0,0)):=by
        unfold Sort.putRow Sort.mapBlock setBlk
        congr 1
        apply Array.ext_getElem?
        intro k
        rw [Array.getElem?_modify,fy]
        by_cases hk:b=k
        · subst hk
          have hw3:(Sort.ahead w q).heap[b]?=some (.cells all ty (0,0)):=hw
          have aF:b<(Sort.ahead w q).heap.size:=by
            rcases dl b (Sort.ahead w q).heap.size with h' | h'
            · exact h'
            · rw [eu h'] at hw3; cases hw3
          rw [if_pos rfl,if_pos rfl,if_pos aF,hw3]
          rfl
        · rw [if_neg hk,if_neg hk]
      have hg2:Good ⟨w,imm,(([hO (List Int) (vS (some ⟨b,off,none⟩) s c) cs]:List HA)).flatMap HA.fp⟩ imm [hO (List Int) (vS (some ⟨b,off,none⟩) s c) cs] (Sort.ahead w q):=g.draw _ (ft _ _)
      have hget:∀ k,k<s.length->all'[off+k]?=some (encR new[k]!):=by
        intro k hk
        have h0:=hcell k hk
        simp only [all',Sort.putCells,Array.getElem?_mapIdx,h0,Option.map_some]
        rw [if_pos ⟨by omega,by simp only [List.size_toArray,hnl]; omega⟩]
        congr 2
        rw [show off+k - off=k by omega]
        simp [hnl,hk]
      have hrl:RL imm ((zs.take i.toNat++zs.drop j.toNat).map encR) (s.take i.toNat++s.drop j.toNat):=by
        rw [cW,List.map_take,List.map_drop,<- bU]
        have h9:=(hr.take i.toNat).append (hr.drop j.toNat)
        simp only [show Rp.sz (List Int)=1 from rfl,Nat.mul_one] at h9
        exact h9
      rw [<- bh]
      refine ⟨imm,_,hp _ (some ⟨b,off,none⟩) c ((zs.take i.toNat++zs.drop j.toNat).map encR) hrl (fun x hx=>.inl (by simpa [HA.fp] using hx)),?_⟩
      · show Good _ imm _ (Sort.putRow encR (Sort.ahead w q) b off new.toArray)
        rw [hw2]
        refine hg2.write (A':=.osl (vS (some ⟨b,off,none⟩) (s.take i.toNat++s.drop j.toNat) c) (Rp.sz (List Int)) ((zs.take i.toNat++zs.drop j.toNat).map encR)) (b:=b) (by simp [HA.fp]) (by simp [HA.fp]) _ (.inr ⟨b,off,_,c,all',ty,rfl,h1,h2,?_,?_,?_,?_,?_,hM⟩)
        · have aF:b<(Sort.ahead w q).heap.size:=(hg2.mem_lt (b:=b) (by simp [HA.fp])).1
          exact eW aF
        · rw [bR,show Rp.sz (List Int)=1 from rfl,Nat.mul_one]; exact hcap
        · rw [bh]; omega
        · simp [show Rp.sz (List Int)=1 from rfl,hzl]
        · apply fj
          intro k
          rw [show Rp.sz (List Int)=1 from rfl,Nat.mul_one,d9,et,Array.getElem?_toList]
          by_cases hk:k<(s.take i.toNat++s.drop j.toNat).length
          · have hk2:k<(zs.take i.toNat++zs.drop j.toNat).length:=by omega
            rw [if_pos hk,hget k (by omega)]
            rw [dm,ce hk2,Option.map_some]
            congr 2
            rw [getElem!_pos new k (by omega)]
            exact List.getElem_append_left hk2
          · rw [if_neg hk,dv (by rw [dd]; omega)]
  · cases hd
end Go.LN
namespace Go.LN
structure Raw1 where
  v:Value
instance:Rp Raw1 where
  sz:=1
  pos:=f7
  rep _ cs r:=cs=[r.v]/\r.v.oneCell'=true
  len h:=by obtain ⟨rfl,_⟩:=h; rfl
  mono _ h:=h
  one h:=by obtain ⟨rfl,h1⟩:=h; simp [h1]
def rv (R:List Raw1):List Value:=R.map Raw1.v
theorem zBR {imm:Imm}:∀ {R:List Raw1}{cs:List Value},RL imm cs R->cs=rv R
  | [],cs,h=>h
  | r::R,cs,⟨c1,c2,h1,_,h3,h4⟩=>by rw [h1,h3.1,zBR h4]; rfl
theorem app1 {by':Nat}{β:Type}{l y:List β}{z:β}{R:List Raw1}{r:Raw1} (h:app by' l [z]=some y) (hl:R.length=l.length):app by' R [r]=some (R++[r]):=by
  have:=(gT h).1;unfold app;rw [if_pos (by simpa [hl] using this)]
def GN {β:Type} [Rp β] (imm:Imm) (xs:List (List β)) (X:List Raw1) (y:List β) (v:Value):Prop :=
  (xs=[]/\X=[]/\y=[]/\v=.slice none 0 0)∨∃ init Xi,xs=init++[y]/\X=Xi++[⟨v⟩]/\RL imm (rv Xi) init/\xs.length<=10000000000000
section
variable {β:Type} [Rp β] {imm:Imm}{xs:List (List β)}{X:List Raw1}{y:List β}{v:Value}
theorem GN.mono {j:Imm} (hl:imm.le j) (h:GN imm xs X y v):GN j xs X y v:=by
  rcases h with h | ⟨init,Xi,h1,h2,h3,h4⟩
  · exact .inl h
  · exact .inr ⟨init,Xi,h1,h2,RepL.mono (fun _ _=>Rp.mono hl) h3,h4⟩
theorem zLV {init:List (List β)}{Xi:List Raw1} (h:RL imm (rv Xi) init):Xi.length=init.length:=by
  have:=h.length;simpa [rv,show Rp.sz (List β)=1 from rfl] using this
theorem GN.len (h:GN imm xs X y v):X.length=xs.length:=by
  rcases h with ⟨rfl,rfl,_⟩ | ⟨init,Xi,rfl,rfl,h3,_⟩
  · rfl
  · simp [zLV h3]
theorem GN.all (h:GN imm xs X y v) (hs:SL imm v y):RL imm (rv X) xs:=by
  rcases h with ⟨rfl,rfl,_⟩ | ⟨init,Xi,rfl,rfl,h3,_⟩
  · exact RepL.nil
  · have e:rv (Xi++[⟨v⟩])=rv Xi++[v]:=by simp [rv]
    rw [e];exact h3.append ⟨[v],[],rfl,rfl,⟨v,rfl,hs⟩,rfl⟩
theorem GN.push (h:GN imm xs X y v) (hs:SL imm v y) (hb:(xs.length+1)*24<=140737488355328):GN imm (xs++[[]]) (X++[⟨.slice none 0 0⟩]) [] (.slice none 0 0) :=
  .inr ⟨xs,X,rfl,rfl,h.all hs,by simp; omega⟩
theorem zNE {n:Nat} (h:n<=10000000000000):W (((n+1:Nat):Int) - 1)=(n:Int):=by rw [sL (by omega) (by omega)]; omega
theorem GN.last (h:GN imm xs X y v) {z:List β} (hz:idx xs (W ((xs.length:Int) - 1))=some z):z=y/\idx X (W ((X.length:Int) - 1))=some ⟨v⟩/\W ((X.length:Int) - 1)=W ((xs.length:Int) - 1) /\
    ∀ (y':List β) (v':Value),GN imm (xs.set (W ((xs.length:Int) - 1)).toNat y') (X.set (W ((X.length:Int) - 1)).toNat ⟨v'⟩) y' v':=by
  rcases h with ⟨rfl,rfl,_⟩ | ⟨init,Xi,rfl,rfl,h3,h4⟩
  · obtain ⟨_,_,h2⟩:=vW hz
    simp at h2
  · have hl:=zLV h3
    simp only [cH,du] at hz h4 ⊢
    have e1:=zNE (n:=init.length) (by omega)
    rw [e1] at hz
    rw [hl,e1]
    refine ⟨?_,?_,rfl,fun y' v'=>?_⟩
    · have:=(vW hz).2.2
      simp at this
      exact this.symm
    · unfold idx
      simp [hl]
    · rw [Int.toNat_natCast]
      refine .inr ⟨init,Xi,?_,?_,h3,?_⟩
      · simp
      · simp [<- hl]
      · simp; omega
end
theorem zLW {α:Type}{l:List α}{i:Int}{x y:α} (h:idx l i=some x):idx (l.set i.toNat y) i=some y:=by
  obtain ⟨h0,h1,h2⟩:=vW h;unfold idx;rw [if_pos h0,List.getElem?_set_self (cj.1 h2).1]
def FS1 {σ α β:Type} [Vr α] [Vr β] (P:Program) (imm:Imm) (hsS:σ->List HA) (v:Value) (φ:α->σ->Option (β×σ)):Prop :=
  ∃ f first cap,v=.func (.func f) ⟨first⟩ ⟨cap⟩/\callable P f=true/\∀ am,imm.le am->∀ a s r va,φ a s=some r->Vr.rep am va a->Ret P f (first++[va]++cap) am (hsS s) fun _ i ah u=>ah=hsS r.2/\Vr.rep i u r.1
theorem FS1.mono {σ α β:Type} [Vr α] [Vr β] {P:Program}{i j:Imm}{hsS:σ->List HA}{v:Value}{φ:α->σ->Option (β×σ)} (hl:i.le j) (h:FS1 P i hsS v φ):FS1 P j hsS v φ:=by
  obtain ⟨f,first,cap,h1,h2,h3⟩:=h;exact ⟨f,first,cap,h1,h2,fun am h'=>h3 am (hl.trans h')⟩
theorem FS1.intro {σ α β:Type} [Vr α] [Vr β] {P:Program}{imm:Imm}{hsS:σ->List HA}{f:FuncId}{first cap:List Value}{φ:α->σ->Option (β×σ)} (h:∀ am,imm.le am->∀ a s r va,φ a s=some r->Vr.rep am va a->Ret P f (first++[va]++cap) am (hsS s) fun _ i ah u=>ah=hsS r.2/\Vr.rep i u r.1)
    (hc:callable P f=true:=by kernel_rfl):FS1 P imm hsS (.func (.func f) ⟨first⟩ ⟨cap⟩) φ:=⟨f,first,cap,rfl,hc,h⟩
section
variable {P:Program}{n:Nat}{B:Base}{ae:List Oper}{Q:Exit->Act->World->Prop}{pc:Nat}{imm:Imm}{hs:List HA}{m:FM}{d:Nat}
  {ty:TypeId}{pos:String}{after:Array Edge}{g:Option (Nat×Bool)}
theorem zN8 {σ α β:Type} [Vr α] [Vr β] {x y:Operand}{ts:Array TypeId}{v va:Value}{a:α}{s:σ}{r:β×σ}{φ:α->σ->Option (β×σ)}{hsS:σ->List HA}{rest:List HA}
    (ho:ae[pc]?=some ⟨some d,.call { callee:=.value x,args:=#[y],argTypes:=ts },ty,pos,after,g⟩) (hy:val m y=some va) (hF:FS1 P imm hsS v φ) (hr:φ a s=some r) (ha:Vr.rep imm va a) (hh:hs=hsS s++rest)
    (next:∀ am u,imm.le am->Vr.rep am u r.1->R P n B ae Q (pc+1) am (hsS r.2++rest) ((d,u)::m)) (hx:val m x=some v:=by kernel_rfl) (hg:guardB ae m g=some true:=by kernel_rfl) (hn:Nat.blt d n=true:=by kernel_rfl):R P n B ae Q pc imm hs m:=by
  obtain ⟨f,first,cap,rfl,hf,hc⟩:=hF
  refine zKM ho hx hf (vs:=[va]) (by simp [vals,hy]) hh (hc imm (Imm.le.refl _) a s r va hr ha) ?_ hg hn
  rintro am ah u k hl hk ⟨rfl,h⟩ -
  exact next am u hl h
end
end Go.LN
namespace Go.LN
section
variable {P:Program}{n:Nat}{B:Base}{Q:Exit->Act->World->Prop}{imm:Imm}{hs:List HA}{m:FM}{ae:List Oper}{pc d:Nat}{ty:TypeId}{pos:String}{after:Array Edge}{g:Option (Nat×Bool)}
end
theorem zHl {B:Base}{imm:Imm} (a b:List HA):∀ w,Good B imm (a++b) w->Good B imm (b++a) w:=fun _ h=>h.perm dh
end Go.LN
namespace Go.LN
section
variable {P:Program}{n:Nat}{B:Base}{ae:List Oper}{Q:Exit->Act->World->Prop}{pc:Nat}{imm:Imm}{hs:List HA}{m:FM}{d:Nat}
end
end Go.LN
namespace Go.LN
open Go.Sort Go.Proofs
end Go.LN
namespace Go.LN
def Win (p:Option Addr) (sz:Nat) (k:Int) (wa:Option Addr) (n:Nat):Prop:=n=0∨p=none∨∃ b off,p=some ⟨b,off,none⟩/\0<=k/\wa=some ⟨b,off+k.toNat*sz,none⟩
theorem Win.mono {i j:Imm}{p:Option Addr}{sz:Nat}{k:Int}{wa:Option Addr}{n:Nat} (h:Win p sz k wa n) (_:i.le j):Win p sz k wa n:=h
instance {i j:Imm}{p:Option Addr}{sz:Nat}{k:Int}{wa:Option Addr}{n:Nat}:Mo (Win p sz k wa n) i j (Win p sz k wa n):=⟨fun _ x=>x⟩
section
variable {P:Program}{n:Nat}{B:Base}{ae:List Oper}{Q:Exit->Act->World->Prop}{pc:Nat}{imm:Imm}{hs:List HA}{m:FM}{d:Nat}
  {ty:TypeId}{pos:String}{after:Array Edge}{g:Option (Nat×Bool)}
end
end Go.LN
