/- Helper of the proof (see the last text). -/
import Derived.Test.YtkipogionmkncaaGreatDoorLnI
import Derived.Sort.Grow
import Derived.Lib.LaidTab
import Derived.Lib.ItoaNum
import Derived.Lib.ItoaMem
import Derived.Sort.Row
import Derived.Lib.AtoiErrMem
import Derived.Lib.AtoiTie
import Derived.Lib.SplitLaws
import Derived.Lib.AtoiAll
import Derived.Shelf.SlicesE.Delete
import Derived.Lib.Join
import Derived.Laws.StructEq
set_option linter.unusedVariables false
set_option linter.unusedSimpArgs false
namespace Go.LN
theorem Good.grow{B:Base}{imm:Imm}{hs:List HA}{w:World}(h:Good B imm hs w)(k:Nat)(os:Array Obj):Good B imm hs (Sort.grow (w.drewN k) os):=by
 have h:=h.drewN k;generalize w.drewN k=w at h;have old:∀b,b<w.heap.size->(Sort.grow w os).heap[b]?=w.heap[b]?:=λb hb=>by
  show (w.heap++os)[b]?=_;rw[Array.getElem?_append_left hb]
 refine⟨λb c e=>?_,λA hA=>(h.own A hA).same (λ_ _ p=>p) (λ_ _=>rfl) (λb hb=>old b ((h.own A hA).lt hb).1),h.nodup,⟨h.frm.os,h.frm.tape,h.frm.output,?_,λb hb hio=>?_,h.frm.imm⟩⟩
 ·obtain⟨ty,fr,e'⟩:=h.inv b c e;exact⟨ty,fr,(old b (h.lt_imm e)).trans e'⟩
 ·show _<=(w.heap++os).size;rw[Array.size_append];exact dh h.frm.size (Nat.le_add_right _ _)
 ·exact(old b (ev hb h.frm.size)).trans (h.frm.heap b hb hio)
def GT (P:Program) (imm:Imm):Prop:=∃ g,P.globalNamed "internal/strconv.uint64pow10"=some g∧imm g=some (Lib.pow10Tab.map fun z=>Value.int .u64 z).toArray
def GM (P:Program) (imm:Imm):Prop:=∃ g,P.globalNamed "internal/bytealg.MaxLen"=some g∧∃ m,imm g=some #[.int .i64 m]
def GH(P:Program)(imm:Imm):Prop:=GT P imm/\GM P imm
theorem GH.mono{P:Program}{i j:Imm}(hl:i.le j)(h:GH P i):GH P j:=by
 obtain⟨⟨g,h1,h2⟩,⟨g3,h3,m,h4⟩⟩:=h;exact⟨⟨g,h1,hl _ _ h2⟩,⟨g3,h3,m,hl _ _ h4⟩⟩
theorem GH.tab {P:Program}{B:Base}{imm:Imm}{hs:List HA}{w:World} (h:GH P imm) (g:Good B imm hs w):Lib.TabIs P w "internal/strconv.uint64pow10" .u64 Lib.pow10Tab:=by
 obtain⟨n,h1,h2⟩:=h.1;obtain⟨ty,fr,h3⟩:=g.inv _ _ h2;unfold Lib.TabIs World.var?;rw[h1,Option.bind_some,h3]
theorem zKw{P:Program}{f:FuncId}{args:List Value}{imm:Imm}{v:Value}{post:Nat->Imm->List HA->Value->Prop}
 (h:∀w,Good ⟨w,imm,[]⟩ imm [] w->Calls P f args.toArray w λe w'=>e=.returned v/\∃k os,w'=Sort.grow (w.drewN k) os) (hp:∀k,post k imm [] v):Ret P f args imm [] post:=λw g=>
 (h w g).mono λe w' ⟨he,k,os,hw⟩=>by
  subst he;subst hw
  exact⟨imm,[],hp _,g.grow k os⟩
end Go.LN
namespace Go.LN
theorem zBu{k : IntKind}{n : Int}: (Value.int k n).oneCell' = true:=rfl
theorem zFE{s : ByteArray}: (Value.string s).oneCell' = true:=rfl
theorem SL.one{α : Type}[Rp α]{i : Imm}{v : Value}{l : List α}(h : SL i v l): v.oneCell' = true:=by
 obtain⟨aK,hs,_⟩:=h
 rcases hs with⟨rfl,_⟩|⟨b,off,len,cap,c,rfl,_⟩ <;> rfl
structure zG where
 Name : Str
 Dims : List Int
instance : Rp zG where
 sz:=2
 pos:=by decide
 rep i cs s := ∃v0 : Value,cs = [.string ⟨⟨s.Name.l⟩⟩,v0] /\ SL i v0 s.Dims
 len h:=by obtain⟨v0,rfl,h0⟩:=h;rfl
 mono hm h:=by obtain⟨v0,e,h0⟩:=h;exact⟨v0,e,h0.mono hm⟩
 one h:=by obtain⟨v0,rfl,h0⟩:=h;simp[zFE,h0.one]
theorem zEe{i : Imm}{cs : List Value}{s : zG}(h : Rp.rep i cs s): ∃v0 : Value,cs = [.string ⟨⟨s.Name.l⟩⟩,v0] /\ SL i v0 s.Dims:=h
theorem sU{i : Imm}{cs : List Value}{s : zG}(h : ∃v0 : Value,cs = [.string ⟨⟨s.Name.l⟩⟩,v0] /\ SL i v0 s.Dims): Rp.rep i cs s:=h
theorem xQ{i : Imm}{cs : List Value}{s : zG}(h : Rp.rep i cs s): ∃(p0 : Option Addr) (c0 : Nat),cs = [.string ⟨⟨s.Name.l⟩⟩,vS p0 s.Dims c0] /\ SL i (vS p0 s.Dims c0) s.Dims:=by
 obtain⟨v0,e,h0⟩:=zEe h
 obtain⟨p0,c0,rfl⟩:=h0.form
 exact⟨p0,c0,e,h0⟩
instance : Vr zG:=⟨λi v a => ∃cs,v = .agg ⟨cs⟩ /\ Rp.rep i cs a,λhl ⟨cs,e,h⟩=>⟨cs,e,Rp.mono hl h⟩⟩
structure zA where
 Coefs : List Int
 Const : Int
instance : Rp zA where
 sz:=2
 pos:=by decide
 rep i cs s := ∃v0 : Value,cs = [v0,.int .i64 s.Const] /\ SL i v0 s.Coefs
 len h:=by obtain⟨v0,rfl,h0⟩:=h;rfl
 mono hm h:=by obtain⟨v0,e,h0⟩:=h;exact⟨v0,e,h0.mono hm⟩
 one h:=by obtain⟨v0,rfl,h0⟩:=h;simp[zBu,h0.one]
theorem zDw{i : Imm}{cs : List Value}{s : zA}(h : Rp.rep i cs s): ∃v0 : Value,cs = [v0,.int .i64 s.Const] /\ SL i v0 s.Coefs:=h
theorem yO{i : Imm}{cs : List Value}{s : zA}(h : ∃v0 : Value,cs = [v0,.int .i64 s.Const] /\ SL i v0 s.Coefs): Rp.rep i cs s:=h
theorem yD{i : Imm}{cs : List Value}{s : zA}(h : Rp.rep i cs s): ∃(p0 : Option Addr) (c0 : Nat),cs = [vS p0 s.Coefs c0,.int .i64 s.Const] /\ SL i (vS p0 s.Coefs c0) s.Coefs:=by
 obtain⟨v0,e,h0⟩:=zDw h
 obtain⟨p0,c0,rfl⟩:=h0.form
 exact⟨p0,c0,e,h0⟩
instance : Vr zA:=⟨λi v a => ∃cs,v = .agg ⟨cs⟩ /\ Rp.rep i cs a,λhl ⟨cs,e,h⟩=>⟨cs,e,Rp.mono hl h⟩⟩
structure zE where
 Lo : List zA
 Hi : List zA
instance : Rp zE where
 sz:=2
 pos:=by decide
 rep i cs s := ∃v0 v1 : Value,cs = [v0,v1] /\ SL i v0 s.Lo /\ SL i v1 s.Hi
 len h:=by obtain⟨v0,v1,rfl,h0,h1⟩:=h;rfl
 mono hm h:=by obtain⟨v0,v1,e,h0,h1⟩:=h;exact⟨v0,v1,e,h0.mono hm,h1.mono hm⟩
 one h:=by obtain⟨v0,v1,rfl,h0,h1⟩:=h;simp[h0.one,h1.one]
theorem zFW{i : Imm}{cs : List Value}{s : zE}(h : Rp.rep i cs s): ∃v0 v1 : Value,cs = [v0,v1] /\ SL i v0 s.Lo /\ SL i v1 s.Hi:=h
theorem qA{i : Imm}{cs : List Value}{s : zE}(h : ∃v0 v1 : Value,cs = [v0,v1] /\ SL i v0 s.Lo /\ SL i v1 s.Hi): Rp.rep i cs s:=h
theorem wJ{i : Imm}{cs : List Value}{s : zE}(h : Rp.rep i cs s): ∃(p0 : Option Addr) (c0 : Nat) (p1 : Option Addr) (c1 : Nat),cs = [vS p0 s.Lo c0,vS p1 s.Hi c1] /\ SL i (vS p0 s.Lo c0) s.Lo /\ SL i (vS p1 s.Hi c1) s.Hi:=by
 obtain⟨v0,v1,e,h0,h1⟩:=zFW h
 obtain⟨p0,c0,rfl⟩:=h0.form
 obtain⟨p1,c1,rfl⟩:=h1.form
 exact⟨p0,c0,p1,c1,e,h0,h1⟩
instance : Vr zE:=⟨λi v a => ∃cs,v = .agg ⟨cs⟩ /\ Rp.rep i cs a,λhl ⟨cs,e,h⟩=>⟨cs,e,Rp.mono hl h⟩⟩
structure zH where
 Array : Str
 Subs : List zA
instance : Rp zH where
 sz:=2
 pos:=by decide
 rep i cs s := ∃v0 : Value,cs = [.string ⟨⟨s.Array.l⟩⟩,v0] /\ SL i v0 s.Subs
 len h:=by obtain⟨v0,rfl,h0⟩:=h;rfl
 mono hm h:=by obtain⟨v0,e,h0⟩:=h;exact⟨v0,e,h0.mono hm⟩
 one h:=by obtain⟨v0,rfl,h0⟩:=h;simp[zFE,h0.one]
theorem zDx{i : Imm}{cs : List Value}{s : zH}(h : Rp.rep i cs s): ∃v0 : Value,cs = [.string ⟨⟨s.Array.l⟩⟩,v0] /\ SL i v0 s.Subs:=h
theorem nQ{i : Imm}{cs : List Value}{s : zH}(h : ∃v0 : Value,cs = [.string ⟨⟨s.Array.l⟩⟩,v0] /\ SL i v0 s.Subs): Rp.rep i cs s:=h
theorem nW{i : Imm}{cs : List Value}{s : zH}(h : Rp.rep i cs s): ∃(p0 : Option Addr) (c0 : Nat),cs = [.string ⟨⟨s.Array.l⟩⟩,vS p0 s.Subs c0] /\ SL i (vS p0 s.Subs c0) s.Subs:=by
 obtain⟨v0,e,h0⟩:=zDx h
 obtain⟨p0,c0,rfl⟩:=h0.form
 exact⟨p0,c0,e,h0⟩
instance : Vr zH:=⟨λi v a => ∃cs,v = .agg ⟨cs⟩ /\ Rp.rep i cs a,λhl ⟨cs,e,h⟩=>⟨cs,e,Rp.mono hl h⟩⟩
inductive zD where
 | mk (Kind : Int) (Num : Int) (Index : zA) (Read : zH) (Kids : List zD)
def zD.Kind : zD -> Int|.mk x _ _ _ _=>x
def zD.Num : zD -> Int|.mk _ x _ _ _=>x
def zD.Index : zD -> zA|.mk _ _ x _ _=>x
def zD.Read : zD -> zH|.mk _ _ _ x _=>x
def zD.Kids : zD -> (List zD)|.mk _ _ _ _ x=>x
mutual
def zD.repE(i : Imm): zD -> List Value -> Prop
 | .mk Kind Num Index Read Kids,cs => ∃(v0 v1 v2 : Value) (aK : List Value),cs = [.int .i64 Kind,.int .i64 Num,v0,.int .i64 Index.Const,.string ⟨⟨Read.Array.l⟩⟩,v1,v2] /\ SL i v0 Index.Coefs /\ SL i v1 Read.Subs /\ SliceAt i v2 7 aK /\ zD.reps i Kids aK
def zD.reps(i : Imm): List zD -> List Value -> Prop
 | [],cs=>cs = []
 | e :: es,cs => ∃c1 c2,cs = c1++c2 /\ c1.length = 7 /\ zD.repE i e c1 /\ zD.reps i es c2
end
mutual
theorem zC1{i : Imm}: ∀{e : zD} {cs : List Value},zD.repE i e cs -> cs.length = 7
 | .mk ..,cs,h=>by simp only[zD.repE] at h;obtain⟨v0,v1,v2,aK,rfl,_⟩:=h;rfl
end
mutual
theorem dB{i j : Imm}(hm : i.le j): ∀{e : zD} {cs : List Value},zD.repE i e cs -> zD.repE j e cs
 | .mk ..,cs,h=>by
  simp only[zD.repE] at h ⊢
  obtain⟨v0,v1,v2,aK,e,k0,k1,ha,hb⟩:=h
  exact⟨v0,v1,v2,aK,e,k0.mono hm,k1.mono hm,ha.mono hm,dC hm hb⟩
theorem dC{i j : Imm}(hm : i.le j): ∀{es : List zD} {cs : List Value},zD.reps i es cs -> zD.reps j es cs
 | [],cs,h=>by simpa [zD.reps] using h
 | e :: es,cs,h=>by
  simp only[zD.reps] at h ⊢
  obtain⟨c1,c2,h1,h2,h3,h4⟩:=h
  exact⟨c1,c2,h1,h2,dB hm h3,dC hm h4⟩
end
theorem kZ{i : Imm}: ∀{es : List zD} {cs : List Value},zD.reps i es cs↔RepL (λc e=>zD.repE i e c) 7 cs es
 | [],cs=>by simp[zD.reps,RepL]
 | e :: es,cs=>by
  simp only[zD.reps,RepL]
  constructor
  ·rintro⟨c1,c2,h1,h2,h3,h4⟩;exact⟨c1,c2,h1,h2,h3,kZ.1 h4⟩
  ·rintro⟨c1,c2,h1,h2,h3,h4⟩;exact⟨c1,c2,h1,h2,h3,kZ.2 h4⟩
theorem SliceAt.one{i : Imm}{v : Value}{sz : Nat}{cs : List Value}(hs : SliceAt i v sz cs): v.oneCell' = true:=by
 rcases hs with⟨rfl,_⟩|⟨b,off,len,cap,c,rfl,_⟩ <;> rfl
theorem zC2{i : Imm}: ∀{e : zD} {cs : List Value},zD.repE i e cs -> ∀v∈cs,v.oneCell' = true
 | .mk ..,cs,h=>by
  simp only[zD.repE] at h
  obtain⟨v0,v1,v2,aK,rfl,k0,k1,ha,_⟩:=h
  simp[zBu,zFE,k0.one,k1.one,ha.one]
instance : Rp zD where
 sz:=7
 pos:=by decide
 rep i cs e:=zD.repE i e cs
 len h:=zC1 h
 mono hm h:=dB hm h
 one h:=zC2 h
theorem zFX{i : Imm}{cs : List Value}{s : zD}(h : Rp.rep i cs s): ∃v0 v1 v2 : Value,cs = [.int .i64 s.Kind,.int .i64 s.Num,v0,.int .i64 s.Index.Const,.string ⟨⟨s.Read.Array.l⟩⟩,v1,v2] /\ SL i v0 s.Index.Coefs /\ SL i v1 s.Read.Subs /\ SL i v2 s.Kids:=by
 obtain⟨Kind,Num,Index,Read,Kids⟩:=s
 have h : zD.repE i _ cs:=h
 simp only[zD.repE] at h
 obtain⟨v0,v1,v2,aK,e,k0,k1,ha,hb⟩:=h
 exact⟨v0,v1,v2,e,k0,k1,⟨aK,ha,kZ.1 hb⟩⟩
theorem wK{i : Imm}{cs : List Value}{s : zD}(h : ∃v0 v1 v2 : Value,cs = [.int .i64 s.Kind,.int .i64 s.Num,v0,.int .i64 s.Index.Const,.string ⟨⟨s.Read.Array.l⟩⟩,v1,v2] /\ SL i v0 s.Index.Coefs /\ SL i v1 s.Read.Subs /\ SL i v2 s.Kids): Rp.rep i cs s:=by
 obtain⟨Kind,Num,Index,Read,Kids⟩:=s
 show zD.repE i _ cs
 simp only[zD.repE]
 obtain⟨v0,v1,v2,e,k0,k1,⟨aK,ha,hb⟩⟩:=h
 exact⟨v0,v1,v2,aK,e,k0,k1,ha,kZ.2 hb⟩
theorem wO{i : Imm}{cs : List Value}{s : zD}(h : Rp.rep i cs s): ∃(p0 : Option Addr) (c0 : Nat) (p1 : Option Addr) (c1 : Nat) (p2 : Option Addr) (c2 : Nat),cs = [.int .i64 s.Kind,.int .i64 s.Num,vS p0 s.Index.Coefs c0,.int .i64 s.Index.Const,.string ⟨⟨s.Read.Array.l⟩⟩,vS p1 s.Read.Subs c1,vS p2 s.Kids c2] /\ SL i (vS p0 s.Index.Coefs c0) s.Index.Coefs /\ SL i (vS p1 s.Read.Subs c1) s.Read.Subs /\ SL i (vS p2 s.Kids c2) s.Kids:=by
 obtain⟨v0,v1,v2,e,h0,h1,h2⟩:=zFX h
 obtain⟨p0,c0,rfl⟩:=h0.form
 obtain⟨p1,c1,rfl⟩:=h1.form
 obtain⟨p2,c2,rfl⟩:=h2.form
 exact⟨p0,c0,p1,c1,p2,c2,e,h0,h1,h2⟩
instance : Vr zD:=⟨λi v a => ∃cs,v = .agg ⟨cs⟩ /\ Rp.rep i cs a,λhl ⟨cs,e,h⟩=>⟨cs,e,Rp.mono hl h⟩⟩
structure zM where
 Write : zH
 Value : zD
instance : Rp zM where
 sz:=9
 pos:=by decide
 rep i cs s := ∃v0 v1 v2 v3 : Value,cs = [.string ⟨⟨s.Write.Array.l⟩⟩,v0,.int .i64 s.Value.Kind,.int .i64 s.Value.Num,v1,.int .i64 s.Value.Index.Const,.string ⟨⟨s.Value.Read.Array.l⟩⟩,v2,v3] /\ SL i v0 s.Write.Subs /\ SL i v1 s.Value.Index.Coefs /\ SL i v2 s.Value.Read.Subs /\ SL i v3 s.Value.Kids
 len h:=by obtain⟨v0,v1,v2,v3,rfl,h0,h1,h2,h3⟩:=h;rfl
 mono hm h:=by obtain⟨v0,v1,v2,v3,e,h0,h1,h2,h3⟩:=h;exact⟨v0,v1,v2,v3,e,h0.mono hm,h1.mono hm,h2.mono hm,h3.mono hm⟩
 one h:=by obtain⟨v0,v1,v2,v3,rfl,h0,h1,h2,h3⟩:=h;simp[zFE,zBu,h0.one,h1.one,h2.one,h3.one]
theorem nX{i : Imm}{cs : List Value}{s : zM}(h : Rp.rep i cs s): ∃v0 v1 v2 v3 : Value,cs = [.string ⟨⟨s.Write.Array.l⟩⟩,v0,.int .i64 s.Value.Kind,.int .i64 s.Value.Num,v1,.int .i64 s.Value.Index.Const,.string ⟨⟨s.Value.Read.Array.l⟩⟩,v2,v3] /\ SL i v0 s.Write.Subs /\ SL i v1 s.Value.Index.Coefs /\ SL i v2 s.Value.Read.Subs /\ SL i v3 s.Value.Kids:=h
theorem wV{i : Imm}{cs : List Value}{s : zM}(h : ∃v0 v1 v2 v3 : Value,cs = [.string ⟨⟨s.Write.Array.l⟩⟩,v0,.int .i64 s.Value.Kind,.int .i64 s.Value.Num,v1,.int .i64 s.Value.Index.Const,.string ⟨⟨s.Value.Read.Array.l⟩⟩,v2,v3] /\ SL i v0 s.Write.Subs /\ SL i v1 s.Value.Index.Coefs /\ SL i v2 s.Value.Read.Subs /\ SL i v3 s.Value.Kids): Rp.rep i cs s:=h
theorem uP{i : Imm}{cs : List Value}{s : zM}(h : Rp.rep i cs s): ∃(p0 : Option Addr) (c0 : Nat) (p1 : Option Addr) (c1 : Nat) (p2 : Option Addr) (c2 : Nat) (p3 : Option Addr) (c3 : Nat),cs = [.string ⟨⟨s.Write.Array.l⟩⟩,vS p0 s.Write.Subs c0,.int .i64 s.Value.Kind,.int .i64 s.Value.Num,vS p1 s.Value.Index.Coefs c1,.int .i64 s.Value.Index.Const,.string ⟨⟨s.Value.Read.Array.l⟩⟩,vS p2 s.Value.Read.Subs c2,vS p3 s.Value.Kids c3] /\ SL i (vS p0 s.Write.Subs c0) s.Write.Subs /\ SL i (vS p1 s.Value.Index.Coefs c1) s.Value.Index.Coefs /\ SL i (vS p2 s.Value.Read.Subs c2) s.Value.Read.Subs /\ SL i (vS p3 s.Value.Kids c3) s.Value.Kids:=by
 obtain⟨v0,v1,v2,v3,e,h0,h1,h2,h3⟩:=nX h
 obtain⟨p0,c0,rfl⟩:=h0.form
 obtain⟨p1,c1,rfl⟩:=h1.form
 obtain⟨p2,c2,rfl⟩:=h2.form
 obtain⟨p3,c3,rfl⟩:=h3.form
 exact⟨p0,c0,p1,c1,p2,c2,p3,c3,e,h0,h1,h2,h3⟩
instance : Vr zM:=⟨λi v a => ∃cs,v = .agg ⟨cs⟩ /\ Rp.rep i cs a,λhl ⟨cs,e,h⟩=>⟨cs,e,Rp.mono hl h⟩⟩
structure zJ where
 Nest : List zE
 Body : List zM
instance : Rp zJ where
 sz:=2
 pos:=by decide
 rep i cs s := ∃v0 v1 : Value,cs = [v0,v1] /\ SL i v0 s.Nest /\ SL i v1 s.Body
 len h:=by obtain⟨v0,v1,rfl,h0,h1⟩:=h;rfl
 mono hm h:=by obtain⟨v0,v1,e,h0,h1⟩:=h;exact⟨v0,v1,e,h0.mono hm,h1.mono hm⟩
 one h:=by obtain⟨v0,v1,rfl,h0,h1⟩:=h;simp[h0.one,h1.one]
theorem zFY{i : Imm}{cs : List Value}{s : zJ}(h : Rp.rep i cs s): ∃v0 v1 : Value,cs = [v0,v1] /\ SL i v0 s.Nest /\ SL i v1 s.Body:=h
theorem uU{i : Imm}{cs : List Value}{s : zJ}(h : ∃v0 v1 : Value,cs = [v0,v1] /\ SL i v0 s.Nest /\ SL i v1 s.Body): Rp.rep i cs s:=h
theorem vL{i : Imm}{cs : List Value}{s : zJ}(h : Rp.rep i cs s): ∃(p0 : Option Addr) (c0 : Nat) (p1 : Option Addr) (c1 : Nat),cs = [vS p0 s.Nest c0,vS p1 s.Body c1] /\ SL i (vS p0 s.Nest c0) s.Nest /\ SL i (vS p1 s.Body c1) s.Body:=by
 obtain⟨v0,v1,e,h0,h1⟩:=zFY h
 obtain⟨p0,c0,rfl⟩:=h0.form
 obtain⟨p1,c1,rfl⟩:=h1.form
 exact⟨p0,c0,p1,c1,e,h0,h1⟩
instance : Vr zJ:=⟨λi v a => ∃cs,v = .agg ⟨cs⟩ /\ Rp.rep i cs a,λhl ⟨cs,e,h⟩=>⟨cs,e,Rp.mono hl h⟩⟩
structure zP where
 Arrays : List zG
 Parts : List zJ
instance : Rp zP where
 sz:=2
 pos:=by decide
 rep i cs s := ∃v0 v1 : Value,cs = [v0,v1] /\ SL i v0 s.Arrays /\ SL i v1 s.Parts
 len h:=by obtain⟨v0,v1,rfl,h0,h1⟩:=h;rfl
 mono hm h:=by obtain⟨v0,v1,e,h0,h1⟩:=h;exact⟨v0,v1,e,h0.mono hm,h1.mono hm⟩
 one h:=by obtain⟨v0,v1,rfl,h0,h1⟩:=h;simp[h0.one,h1.one]
theorem zDD{i : Imm}{cs : List Value}{s : zP}(h : Rp.rep i cs s): ∃v0 v1 : Value,cs = [v0,v1] /\ SL i v0 s.Arrays /\ SL i v1 s.Parts:=h
theorem sJ{i : Imm}{cs : List Value}{s : zP}(h : ∃v0 v1 : Value,cs = [v0,v1] /\ SL i v0 s.Arrays /\ SL i v1 s.Parts): Rp.rep i cs s:=h
theorem nA{i : Imm}{cs : List Value}{s : zP}(h : Rp.rep i cs s): ∃(p0 : Option Addr) (c0 : Nat) (p1 : Option Addr) (c1 : Nat),cs = [vS p0 s.Arrays c0,vS p1 s.Parts c1] /\ SL i (vS p0 s.Arrays c0) s.Arrays /\ SL i (vS p1 s.Parts c1) s.Parts:=by
 obtain⟨v0,v1,e,h0,h1⟩:=zDD h
 obtain⟨p0,c0,rfl⟩:=h0.form
 obtain⟨p1,c1,rfl⟩:=h1.form
 exact⟨p0,c0,p1,c1,e,h0,h1⟩
instance : Vr zP:=⟨λi v a => ∃cs,v = .agg ⟨cs⟩ /\ Rp.rep i cs a,λhl ⟨cs,e,h⟩=>⟨cs,e,Rp.mono hl h⟩⟩
structure zX where
 Part : Int
 Stmt : Int
 Point : List Int
instance : Rp zX where
 sz:=3
 pos:=by decide
 rep i cs s := ∃v0 : Value,cs = [.int .i64 s.Part,.int .i64 s.Stmt,v0] /\ SL i v0 s.Point
 len h:=by obtain⟨v0,rfl,h0⟩:=h;rfl
 mono hm h:=by obtain⟨v0,e,h0⟩:=h;exact⟨v0,e,h0.mono hm⟩
 one h:=by obtain⟨v0,rfl,h0⟩:=h;simp[zBu,h0.one]
theorem zC3{i : Imm}{cs : List Value}{s : zX}(h : ∃v0 : Value,cs = [.int .i64 s.Part,.int .i64 s.Stmt,v0] /\ SL i v0 s.Point): Rp.rep i cs s:=h
instance : Vr zX:=⟨λi v a => ∃cs,v = .agg ⟨cs⟩ /\ Rp.rep i cs a,λhl ⟨cs,e,h⟩=>⟨cs,e,Rp.mono hl h⟩⟩
structure zK where
 b : List UInt8
 p : Int
instance : Rp zK where
 sz:=2
 pos:=by decide
 rep i cs s := ∃v0 : Value,cs = [v0,.int .i64 s.p] /\ SL i v0 s.b
 len h:=by obtain⟨v0,rfl,h0⟩:=h;rfl
 mono hm h:=by obtain⟨v0,e,h0⟩:=h;exact⟨v0,e,h0.mono hm⟩
 one h:=by obtain⟨v0,rfl,h0⟩:=h;simp[zBu,h0.one]
theorem fF{i : Imm}{cs : List Value}{s : zK}(h : Rp.rep i cs s): ∃v0 : Value,cs = [v0,.int .i64 s.p] /\ SL i v0 s.b:=h
theorem yZ{i : Imm}{cs : List Value}{s : zK}(h : ∃v0 : Value,cs = [v0,.int .i64 s.p] /\ SL i v0 s.b): Rp.rep i cs s:=h
theorem zZ{i : Imm}{cs : List Value}{s : zK}(h : Rp.rep i cs s): ∃(p0 : Option Addr) (c0 : Nat),cs = [vS p0 s.b c0,.int .i64 s.p] /\ SL i (vS p0 s.b c0) s.b:=by
 obtain⟨v0,e,h0⟩:=fF h
 obtain⟨p0,c0,rfl⟩:=h0.form
 exact⟨p0,c0,e,h0⟩
instance : Vr zK:=⟨λi v a => ∃cs,v = .agg ⟨cs⟩ /\ Rp.rep i cs a,λhl ⟨cs,e,h⟩=>⟨cs,e,Rp.mono hl h⟩⟩
structure tJ where
 nest : List zE
 steps : Int
 out : List (List Int)
instance : Rp tJ where
 sz:=3
 pos:=by decide
 rep i cs s := ∃v0 v1 : Value,cs = [v0,.int .i64 s.steps,v1] /\ SL i v0 s.nest /\ SL i v1 s.out
 len h:=by obtain⟨v0,v1,rfl,h0,h1⟩:=h;rfl
 mono hm h:=by obtain⟨v0,v1,e,h0,h1⟩:=h;exact⟨v0,v1,e,h0.mono hm,h1.mono hm⟩
 one h:=by obtain⟨v0,v1,rfl,h0,h1⟩:=h;simp[zBu,h0.one,h1.one]
instance : Vr tJ:=⟨λi v a => ∃cs,v = .agg ⟨cs⟩ /\ Rp.rep i cs a,λhl ⟨cs,e,h⟩=>⟨cs,e,Rp.mono hl h⟩⟩
end Go.LN
namespace Go.LN
theorem iM{α:Type}[Rp α]{i j:Imm}(h:i.le j){l:List α}{cs:List Value}(hr:RL i cs l):RL j cs l:=RepL.mono (λ_ _=>Rp.mono h) hr
def stB:List HA->Nat->List Value->(List HA->Option (List HA))->Option (List HA)
 | .blk b _::t,0,c',k=>k (.blk b ⟨c'⟩::t)
 | h::t,j+1,c',k=>stB t j c' λr=>k (h::r)
 | _,_,_,_=>none
theorem zIp:∀{hs:List HA}{j:Nat}{b:Nat}{c:Array Value}{c':List Value}{k:List HA->Option (List HA)},hs[j]?=some (.blk b c)->stB hs j c' k=k (hs.set j (.blk b ⟨c'⟩))
 | [],_,_,_,_,_,h=>by simp at h
 | A::t,0,b,c,c',k,h=>by
  simp only[ej,Option.some.injEq] at h
  subst h;rfl
 | A::t,j+1,b,c,c',k,h=>by
  simp only[ek] at h
  rw[stB,zIp h,dl]
class Mo (X:Prop) (i j:Imm) (Y:outParam Prop):Prop where
 mo:i.le j->X->Y
instance {α:Type} [Rp α] {v:Value}{l:List α}{i j:Imm}:Mo (SL i v l) i j (SL j v l):=⟨λh x=>x.mono h⟩
instance {α:Type} [Rp α] {cs:List Value}{l:List α}{i j:Imm}:Mo (RL i cs l) i j (RL j cs l):=⟨λh x=>iM h x⟩
instance {ad:Addr}{cs:List Value}{i j:Imm}:Mo (At i ad cs) i j (At j ad cs):=⟨λh x=>At.mono h x⟩
instance {α:Type} [Rp α] {v:Value}{o:Option α}{i j:Imm}:Mo (FP i v o) i j (FP j v o):=⟨λh x=>FP.mono x h⟩
instance {α β:Type} [Vr α] [Vr β] {P:Program}{aA:List HA}{v:Value}{φ:α->Option β}{i j:Imm}:Mo (FV1 P i aA v φ) i j (FV1 P j aA v φ):=⟨λh x=>FV1.mono h x⟩
instance {α β γ:Type} [Vr α] [Vr β] [Vr γ] {P:Program}{aA:List HA}{v:Value}{φ:α->β->Option γ}{i j:Imm}:Mo (FV2 P i aA v φ) i j (FV2 P j aA v φ):=⟨λh x=>FV2.mono h x⟩
instance {P:Program}{i j:Imm}:Mo (GH P i) i j (GH P j):=⟨λh x=>GH.mono h x⟩
instance {i0 i j:Imm}:Mo (i0.le i) i j (i0.le j):=⟨λh x=>x.trans h⟩
theorem m2{i j:Imm}{A B A' B':Prop}(h:i.le j)(a:A)(b:B)[Mo A i j A'][Mo B i j B']:A'/\B':=⟨Mo.mo h a,Mo.mo h b⟩
theorem m3{i j:Imm}{A B C A' B' C':Prop}(h:i.le j)(a:A)(b:B)(c:C)[Mo A i j A'][Mo B i j B'][Mo C i j C']:A'/\B'/\C':=⟨Mo.mo h a,Mo.mo h b,Mo.mo h c⟩
theorem m4{i j:Imm}{A B C D A' B' C' D':Prop}(h:i.le j)(a:A)(b:B)(c:C)(d:D)[Mo A i j A'][Mo B i j B'][Mo C i j C'][Mo D i j D']:A'/\B'/\C'/\D':=⟨Mo.mo h a,Mo.mo h b,Mo.mo h c,Mo.mo h d⟩
theorem m5{i j:Imm}{A B C D E A' B' C' D' E':Prop}(h:i.le j)(a:A)(b:B)(c:C)(d:D)(e:E)[Mo A i j A'][Mo B i j B'][Mo C i j C'][Mo D i j D'][Mo E i j E']:A'/\B'/\C'/\D'/\E':=⟨Mo.mo h a,Mo.mo h b,Mo.mo h c,Mo.mo h d,Mo.mo h e⟩
theorem m6{i j:Imm}{A B C D E F A' B' C' D' E' F':Prop}(h:i.le j)(a:A)(b:B)(c:C)(d:D)(e:E)(f:F)[Mo A i j A'][Mo B i j B'][Mo C i j C'][Mo D i j D'][Mo E i j E'][Mo F i j F']:A'/\B'/\C'/\D'/\E'/\F':=⟨Mo.mo h a,Mo.mo h b,Mo.mo h c,Mo.mo h d,Mo.mo h e,Mo.mo h f⟩
abbrev K1{α:Type}(o:α)(I:Imm)(hs:List HA)(m:α->FM):Imm->List HA->FM->Prop:=λI' ai m'=>∃t:α,o=t/\I.le I'/\ai=hs/\m'=m t
section
variable {P:Program}{n:Nat}{B:Base}{ae:List Oper}{Q:Exit->Act->World->Prop}{pc:Nat}{imm:Imm}{hs:List HA}{m:FM}{d:Nat}
 {ty:TypeId}{pos:String}{after:Array Edge}{g:Option (Nat×Bool)}
theorem xX{f:FuncId}{x:Operand}{xs:Array Operand}{ts:Array TypeId}{vs:List Value}{post:Nat->Imm->List HA->Value->Prop}
 (hc:Ret P f vs imm [] post)
 (next:∀ak ai v k,imm.le ak->B.w0.heap.size<=k->post k ak ai v->(∀b∈ai.flatMap HA.fp,b∈([]:List HA).flatMap HA.fp∨B.w0.heap.size<=b)->R P n B ae Q (pc+1) ak (ai++hs) ((d,v)::m))
 (ho:ae[pc]?=some ⟨some d,.call { callee:=.value x,args:=xs,argTypes:=ts },ty,pos,after,g⟩:=by rfl) (hg:guardB ae m g=some true:=by rfl) (hn:Nat.blt d n=true:=by rfl) (hx:val m x=some (.func (.func f) #[] #[]):=by rfl) (hf:callable P f=true:=by kernel_rfl)
 (hvs:vals m xs.toList=some vs:=by rfl):R P n B ae Q pc imm hs m:=
 zDq (hs1:=[]) (rest:=hs) ho hg hn hx hf hvs rfl hc next
theorem zMY{f:FuncId}{x:Operand}{xs:Array Operand}{ts:Array TypeId}{vs:List Value}(hs1 rest:List HA){post:Nat->Imm->List HA->Value->Prop}
 (hc:Ret P f vs imm hs1 post)
 (next:∀ak ai v k,imm.le ak->B.w0.heap.size<=k->post k ak ai v->(∀b∈ai.flatMap HA.fp,b∈hs1.flatMap HA.fp∨B.w0.heap.size<=b)->R P n B ae Q (pc+1) ak (ai++rest) ((d,v)::m))
 (ho:ae[pc]?=some ⟨some d,.call { callee:=.value x,args:=xs,argTypes:=ts },ty,pos,after,g⟩:=by rfl) (hg:guardB ae m g=some true:=by rfl) (hn:Nat.blt d n=true:=by rfl) (hx:val m x=some (.func (.func f) #[] #[]):=by rfl) (hf:callable P f=true:=by kernel_rfl)
 (hvs:vals m xs.toList=some vs:=by rfl) (hh:hs=hs1++rest:=by rfl):R P n B ae Q pc imm hs m:=
 zDq (hs1:=hs1) (rest:=rest) ho hg hn hx hf hvs hh hc next
theorem zDE(m':FM)(h:R P n B ae Q pc imm hs m')(hk:keep m (m'.map (·.1))=some m':=by kernel_rfl):R P n B ae Q pc imm hs m:=fM (zA0 hk) h
theorem qB(cs:List Value)(α:Type)[Rp α]{t len:Nat}{parts:Array (Nat×Operand)}{ps:List (Nat×Value)}
 (next:∀b,B.w0.heap.size<=b->R P n B ae Q (pc+1) imm (.osl (.slice (some ⟨b,0,none⟩) len len) (Rp.sz α) cs::hs) ((d,.slice (some ⟨b,0,none⟩) len len)::m))
 (ho:ae[pc]?=some ⟨some d,.buildSlice t len parts,ty,pos,after,g⟩:=by rfl) (hg:guardB ae m g=some true:=by rfl) (hn:Nat.blt d n=true:=by rfl) (hps:pvals m parts.toList=some ps:=by rfl) (hc:elemZ P t len ps=some ⟨cs⟩:=by kernel_rfl) (hl:Nat.beq cs.length (len*Rp.sz α)=true:=by kernel_rfl)
 (hlM:Nat.ble len 9223372036854775807=true:=by rfl):R P n B ae Q pc imm hs m:=
 zGq (cs:=cs) (Rp.sz α) ho hg hn hps hc hl next hlM
theorem vG(c:List Value){t:TypeId}
 (next:∀b,B.w0.heap.size<=b->R P n B ae Q (pc+1) imm (.blk b ⟨c⟩::hs) ((d,.pointer (some ⟨b,0,none⟩))::m))
 (ho:ae[pc]?=some ⟨some d,.alloc t,ty,pos,after,g⟩:=by rfl) (hg:guardB ae m g=some true:=by rfl) (hn:Nat.blt d n=true:=by rfl) (hz:zeroC P t=some ⟨c⟩:=by kernel_rfl):R P n B ae Q pc imm hs m:=
 zKq (c:=⟨c⟩) ho hg hn hz next
theorem vM(c:List Value){t:TypeId}{x:Operand}{v:Value}
 (next:∀b,B.w0.heap.size<=b->R P n B ae Q (pc+1) imm (.blk b ⟨c⟩::hs) ((d,.pointer (some ⟨b,0,none⟩))::m))
 (ho:ae[pc]?=some ⟨some d,.box t x,ty,pos,after,g⟩:=by rfl) (hg:guardB ae m g=some true:=by rfl) (hn:Nat.blt d n=true:=by rfl) (hx:val m x=some v:=by rfl) (hc:v.cells=⟨c⟩:=by rfl):R P n B ae Q pc imm hs m:=
 zMK (c:=⟨c⟩) ho hg hn hx hc next
theorem dD{its:List It}{gs:List (List HA)}{N:Nat}{l:List (Nat×Bool)}{ops':List Oper}{pc:Nat}(m2:FM)(h:R P n B ops' Q pc imm hs m2)
 (hi:(insM ae its l m).bind (λm1=>keep m1 (m2.map (·.1)))=some m2:=by kernel_rfl):Ins ae (factsOf N its gs) imm l m hs λm' ai=>R P n B ops' Q pc imm ai m':=by
 obtain⟨m1,h1,h2⟩:=Option.bind_eq_some_iff.1 hi
 refine zDC (λj it hj=>?_) h1 (fM (zA0 h2) h)
 have aV:=(cm.1 hj).1
 unfold factsOf
 rw[cZ,ez (by rw[cW];exact aV),df,hj]
 rfl
theorem xA{ops':List Oper}{pc d0:Nat}{φi:Fact}{imm1:Imm}{v:Value}(bH:imm1.le imm)(h0:ops'.drop pc=[]:=by rfl)(hd:look m d0=some v:=by rfl)(hφ:φi imm v []:=by exact⟨rfl,rfl⟩):R P n B ops' (OutQ n B φi (some d0) imm1 hs) pc imm hs m:=
 zE8 (hx:=[]) h0 bH rfl (λ_ e=>by cases e;exact hd) hφ
theorem yP{f:FuncId}{fn:Func}{args:List Value}{post:Nat->Imm->List HA->Value->Prop}(hf:P.funcs[f]?=some fn)(h:∀B:Base,J P fn.ntmps B (bodyOf fn) (QB P fn B post) imm hs (argm 0 args))
 (hb:fn.body=some (bodyOf fn):=by rfl) (hn:Nat.ble args.length fn.ntmps=true:=by rfl):Ret P f args imm hs post:=zJq hf hb hn λB _ _=>h B
theorem yR(hx:List HA){ops':List Oper}{pc d0:Nat}{φi:Fact}{imm1:Imm}{hs0:List HA}{v:Value}(bH:imm1.le imm)(hφ:φi imm v hx)(h0:ops'.drop pc=[]:=by rfl)(hh:hs=hx++hs0:=by rfl)(hd:look m d0=some v:=by rfl):R P n B ops' (OutQ n B φi (some d0) imm1 hs0) pc imm hs m:=
 zE8 (hx:=hx) h0 bH hh (λ_ e=>by cases e;exact hd) hφ
theorem yE{id:Nat}{ae:List Oper}{y:Code}(h:R P n B ae (Exit.then (y.wp P Q) Q) 0 imm hs m):J P n B ((Code.region id ae.toArray false).seq y) Q imm hs m:=yA (zL h)
theorem zW{x y:Code}(h:J P n B x (Exit.then (y.wp P Q) Q) imm hs m):T n B (Exit.then ((x.seq y).wp P Q) Q) .normal imm hs m:=zI (yA h)
theorem xN{id:Nat}{ae:List Oper}{y:Code}(h:R P n B ae (Exit.then (y.wp P Q) Q) 0 imm hs m):T n B (Exit.then (((Code.region id ae.toArray false).seq y).wp P Q) Q) .normal imm hs m:=zI (yE h)
theorem wM{id:Nat}{ae:List Oper}{y:Code}(new:FM)(hR:T n B (Exit.then (y.wp P Q) Q) .normal imm hs (new++m))(h:runD P n ae hs 0 ae.length [] (new.map (·.1)) m=some (new,[].map (blkAt hs)):=by kernel_rfl):J P n B ((Code.region id ae.toArray false).seq y) Q imm hs m:=yE (wN [] new hR h)
theorem zBL{id:Nat}{ae:List Oper}{y:Code}(new:FM)(hR:T n B (Exit.then (y.wp P Q) Q) .normal imm hs (new++m))(h:runD P n ae hs 0 ae.length [] (new.map (·.1)) m=some (new,[].map (blkAt hs)):=by kernel_rfl):T n B (Exit.then (((Code.region id ae.toArray false).seq y).wp P Q) Q) .normal imm hs m:=zI (wM new hR h)
theorem wI{fn:Func}{post:Nat->Imm->List HA->Value->Prop}{v:Value}(h1:ResV P m hs fn.results.toList [v]:=by exact .tmp rfl ResV.nil)(h2:post B.w0.heap.size imm [] (tupV [v]):=by exact⟨_,rfl,rfl,rfl⟩):T n B (QB P fn B post) .ret imm hs m:=xL ⟨_,_,h1,zN,h2⟩
theorem fN{f:FuncId}{x:Operand}{xs:Array Operand}{ts:Array TypeId}{vs:List Value}{r:Int}
 (hc:Ret P f vs imm [] λ_ _ ai v=>∃v0,ai=[]/\v=tupV [v0]/\v0=.int .i64 r)
 (next:∀ak,imm.le ak->R P n B ae Q (pc+1) ak hs ((d,vI r)::m))
 (ho:ae[pc]?=some ⟨some d,.call { callee:=.value x,args:=xs,argTypes:=ts },ty,pos,after,g⟩:=by rfl) (hg:guardB ae m g=some true:=by rfl) (hn:Nat.blt d n=true:=by rfl) (hx:val m x=some (.func (.func f) #[] #[]):=by rfl) (hf:callable P f=true:=by kernel_rfl)
 (hvs:vals m xs.toList=some vs:=by rfl):R P n B ae Q pc imm hs m:=
 xX hc (λak ai v k h1 _ h3 _=>by obtain⟨v0,rfl,rfl,rfl⟩:=h3;exact next ak h1) ho hg hn hx hf hvs
theorem vH{f:FuncId}{x:Operand}{xs:Array Operand}{ts:Array TypeId}{vs:List Value}{r:Bool}
 (hc:Ret P f vs imm [] λ_ _ ai v=>∃v0,ai=[]/\v=tupV [v0]/\v0=.bool r)
 (next:∀ak,imm.le ak->R P n B ae Q (pc+1) ak hs ((d,.bool r)::m))
 (ho:ae[pc]?=some ⟨some d,.call { callee:=.value x,args:=xs,argTypes:=ts },ty,pos,after,g⟩:=by rfl) (hg:guardB ae m g=some true:=by rfl) (hn:Nat.blt d n=true:=by rfl) (hx:val m x=some (.func (.func f) #[] #[]):=by rfl) (hf:callable P f=true:=by kernel_rfl)
 (hvs:vals m xs.toList=some vs:=by rfl):R P n B ae Q pc imm hs m:=
 xX hc (λak ai v k h1 _ h3 _=>by obtain⟨v0,rfl,rfl,rfl⟩:=h3;exact next ak h1) ho hg hn hx hf hvs
theorem vQ{id:Nat}{K1 K2:Act->World->Prop}(h:T n B Q (.exit id) imm hs m):J P n B (.exit id) (Exit.then K1 (Exit.then K2 Q)) imm hs m:=zFJ (gD (gD h))
theorem xJ(h:T n B Q .ret imm hs m):T n B (Exit.then ((Code.ret).wp P Q) Q) .normal imm hs m:=zI (yX h)
theorem wS{id:Nat}{c:Code}(h:J P n B c (Exit.inBlock id Q) imm hs m):T n B (Exit.then ((Code.block id c).wp P Q) Q) .normal imm hs m:=zI (yK h)
theorem zY(is:List Nat){ai:List HA}(h:pick hs is=some ai:=by rfl)(hn:is.Nodup:=by decide):∀w,Good B imm hs w->Good B imm ai w:=zV is h hn
theorem xW{t:TypeId}{x y:Operand}{b o:Nat}{c:Array Value}{v:Value}{ai:List HA}(j:Nat)(c':List Value)(hq:stB hs j c' some=some ai)(next:R P n B ae Q (pc+1) imm ai m)(ho:ae[pc]?=some ⟨none,.store t x y,ty,pos,after,g⟩:=by rfl)(hj:hs[j]?=some (.blk b c):=by rfl)(hx:val m x=some (.pointer (some ⟨b,o,none⟩)):=by rfl)(hy:val m y=some v:=by rfl)(hg:guardB ae m g=some true:=by kernel_rfl)(bO:sizeT P t=some v.cells.size:=by kernel_rfl)(bR:Nat.ble (o+v.cells.size) c.size=true:=by kernel_rfl)(bY:v.cells.toList.all Value.oneCell'=true:=by kernel_rfl)(hc:wr c o v.cells.toList=⟨c'⟩:=by kernel_rfl):R P n B ae Q pc imm hs m:=
 dL j c' ai ho hj hx hy next hg bO bR bY hc (by rw[zIp hj] at hq;exact Option.some.inj hq)
end
theorem bE{α β:Type}{o:Option α}{f:α->Option β}{r:β}{G:Prop}(h:(o >>= f)=some r)(k:∀x,o=some x->f x=some r->G):G:=by
 obtain⟨x,h1,h2⟩:=zC h;exact k x h1 h2
theorem ct{α:Type}{o t:α}{P1:Prop}{P2 P3:α->Prop}(hM:(pure t:Option α)=some o)(H:P1)(h2:P2 t:=by rfl)(h3:P3 t:=by rfl):∃t',o=t'/\P1/\P2 t'/\P3 t':=⟨t,(zB hM).symm,H,h2,h3⟩
abbrev NG(Q:Exit->Act->World->Prop):Prop:=∀gl a w,¬Q (.goto gl) a w
abbrev NO(Q:Exit->Act->World->Prop):Prop:=∀a w,¬Q .outgrown a w
abbrev cStmt(x:zM)(p0:Option Addr)(c0:Nat)(p1:Option Addr)(c1:Nat)(p2:Option Addr)(c2:Nat)(p3:Option Addr)(c3:Nat):List Value:=[vT x.Write.Array.l,vS p0 x.Write.Subs c0,vI x.Value.Kind,vI x.Value.Num,vS p1 x.Value.Index.Coefs c1,vI x.Value.Index.Const,vT x.Value.Read.Array.l,vS p2 x.Value.Read.Subs c2,vS p3 x.Value.Kids c3]
abbrev cExpr(x:zD)(p0:Option Addr)(c0:Nat)(p1:Option Addr)(c1:Nat)(p2:Option Addr)(c2:Nat):List Value:=[vI x.Kind,vI x.Num,vS p0 x.Index.Coefs c0,vI x.Index.Const,vT x.Read.Array.l,vS p1 x.Read.Subs c1,vS p2 x.Kids c2]
abbrev cAccess(x:zH)(p0:Option Addr)(c0:Nat):List Value:=[vT x.Array.l,vS p0 x.Subs c0]
abbrev cAff(x:zA)(p0:Option Addr)(c0:Nat):List Value:=[vS p0 x.Coefs c0,vI x.Const]
abbrev cLoop(x:zE)(p0:Option Addr)(c0:Nat)(p1:Option Addr)(c1:Nat):List Value:=[vS p0 x.Lo c0,vS p1 x.Hi c1]
abbrev cPart(x:zJ)(p0:Option Addr)(c0:Nat)(p1:Option Addr)(c1:Nat):List Value:=[vS p0 x.Nest c0,vS p1 x.Body c1]
abbrev cProg(x:zP)(p0:Option Addr)(c0:Nat)(p1:Option Addr)(c1:Nat):List Value:=[vS p0 x.Arrays c0,vS p1 x.Parts c1]
abbrev cArr(x:zG)(p0:Option Addr)(c0:Nat):List Value:=[vT x.Name.l,vS p0 x.Dims c0]
abbrev cRd(x:zK)(p0:Option Addr)(c0:Nat):List Value:=[vS p0 x.b c0,vI x.p]
abbrev zExpr:List Value:=[vI 0,vI 0,.slice none 0 0,vI 0,vT ([]),.slice none 0 0,.slice none 0 0]
abbrev zTwo:List Value:=[.slice none 0 0,.slice none 0 0]
abbrev z0:Value:=.slice none 0 0
abbrev vF:Value:=.bool false
abbrev vY:Value:=.bool true
abbrev KT:=Nat->Imm->List HA->Value->Prop
theorem iS(i:Imm):i.le i:=Imm.le.refl i
theorem iR{i:Imm}:i.le i:=Imm.le.refl i
abbrev S4{α:Type}[Rp α](imm:Imm)(p:Option Addr)(l:List α)(c:Nat):Prop:=SL imm (vS p l c) l
end Go.LN
namespace Go.LN
theorem zDy:∀{ks:List Nat}{m m':FM},keep m ks=some m'->m'.map (·.1)=ks
 | [],m,m',h=>by simp only[keep] at h;cases h;rfl
 | k::ks,m,m',h=>by
  simp only[keep] at h
  split at h
  ·rename_i v m1 h1 h2;cases h;rw[cS,zDy h2]
  ·cases h
theorem zBv{P:Program}{n:Nat}{ae:List Oper}{hs:List HA}{pc k:Nat}{js ks:List Nat}{m new:FM}{bs:List Nat}(h:runD P n ae hs pc k js ks m=some (new,bs)):new.map (·.1)=ks:=by
 unfold runD at h;split at h
 ·split at h
  ·rename_i hk;cases h;exact zDy hk
  ·cases h
 ·cases h
section
variable {P:Program}{n:Nat}{B:Base}{ae:List Oper}{Q:Exit->Act->World->Prop}{pc:Nat}{imm:Imm}{hs:List HA}{m new:FM}{d:Nat}
theorem yG(pc':Nat)(js ks:List Nat)(h:runD P n ae hs pc (pc' - pc) js ks m=some (new,js.map (blkAt hs)))(hR:R P n B ae Q pc' imm hs (new++m))
 (hl:Nat.beq (pc+((ae.drop pc).take (pc' - pc)).length) pc'=true:=by kernel_rfl):R P n B ae Q pc imm hs m:=qX pc' js new hR (by rw[zBv h];exact h) hl
theorem yQ(js ks:List Nat)(h:runD P n ae hs pc ae.length js ks m=some (new,js.map (blkAt hs)))(hR:T n B Q .normal imm hs (new++m)):R P n B ae Q pc imm hs m:=wN js new hR (by rw[zBv h];exact h)
theorem zAE(pc':Nat)(js ks:List Nat)(h:runD P n ae hs pc (pc' - pc) js ks m=some (new,js.map (blkAt hs)))(hR:Rq P n B ae Q pc' imm hs (new++m))
 (hl:Nat.beq (pc+((ae.drop pc).take (pc' - pc)).length) pc'=true:=by kernel_rfl):Rq P n B ae Q pc imm hs m:=zMX pc' js new hR (by rw[zBv h];exact h) hl
theorem zH6(js ks:List Nat)(h:runD P n ae hs pc ae.length js ks m=some (new,js.map (blkAt hs)))(hR:T n B Q .normal imm hs (new++m)):Rq P n B ae Q pc imm hs m:=zIT js new hR (by rw[zBv h];exact h)
theorem yJ{id:Nat}{ae:List Oper}{y:Code}(ks:List Nat)(h:runD P n ae hs 0 ae.length [] ks m=some (new,[]))(hR:T n B (Exit.then (y.wp P Q) Q) .normal imm hs (new++m)):J P n B ((Code.region id ae.toArray false).seq y) Q imm hs m:=yE (yQ [] ks h hR)
theorem uN{id:Nat}{ae:List Oper}{y:Code}(ks:List Nat)(h:runD P n ae hs 0 ae.length [] ks m=some (new,[]))(hR:T n B (Exit.then (y.wp P Q) Q) .normal imm hs (new++m)):T n B (Exit.then (((Code.region id ae.toArray false).seq y).wp P Q) Q) .normal imm hs m:=zI (yJ ks h hR)
theorem yS{e:Exit}{m':FM}(h:T n B Q e imm hs m')(hk:keep m (m'.map (·.1))=some m':=by kernel_rfl):T n B Q e imm hs m:=T_w m' h hk
theorem mE{c:Code}{m':FM}(h:J P n B c Q imm hs m')(hk:keep m (m'.map (·.1))=some m':=by kernel_rfl):J P n B c Q imm hs m:=oR m' h hk
theorem yV{its:List It}{gs:List (List HA)}{N:Nat}{l:List (Nat×Bool)}{ops':List Oper}{m2:FM}(ks:List Nat)
 (hi:(insM ae its l m).bind (λm1=>keep m1 ks)=some m2) (h:R P n B ops' Q pc imm hs m2):Ins ae (factsOf N its gs) imm l m hs λm' ai=>R P n B ops' Q pc imm ai m' :=
 dD m2 h (by
  obtain⟨m1,h1,h2⟩:=Option.bind_eq_some_iff.1 hi
  rw[zDy h2];exact hi)
theorem wC(qs:List Nat){c:Bool}{α:Type}{X Y:Option α}{r:α}(hM:(if c=true then X else Y)=some r)(ht:c=true->X=some r->R P n B ae Q pc imm hs (qs.map (λq=>(q,Value.bool true))++m))
 (hf:c=false->Y=some r->R P n B ae Q pc imm hs (qs.map (λq=>(q,Value.bool false))++m)) (hq:keep m qs=some (qs.map λq=>(q,Value.bool c)):=by kernel_rfl):R P n B ae Q pc imm hs m:=by
 cases c with
 | true=>exact zKv (λa f=>zFT hq (λ_ _ _ h=>h) a f) (ht rfl hM)
 | false=>exact zKv (λa f=>zFT hq (λ_ _ _ h=>h) a f) (hf rfl hM)
theorem zFZ(qs:List Nat){c:Bool}{α:Type}{X Y:Option α}{r:α}(hM:(if c=true then X else Y)=some r)(ht:c=true->X=some r->Rq P n B ae Q pc imm hs (qs.map (λq=>(q,Value.bool true))++m))
 (hf:c=false->Y=some r->Rq P n B ae Q pc imm hs (qs.map (λq=>(q,Value.bool false))++m)) (hq:keep m qs=some (qs.map λq=>(q,Value.bool c)):=by kernel_rfl):Rq P n B ae Q pc imm hs m:=by
 cases c with
 | true=>exact zIm (λa f=>zFT hq (λ_ _ _ h=>h) a f) (ht rfl hM)
 | false=>exact zIm (λa f=>zFT hq (λ_ _ _ h=>h) a f) (hf rfl hM)
theorem zMZ(α:Type)[Rp α](h:RL imm [] ([]:List α)->R P n B ae Q pc imm (hO α (.slice none 0 0) []::hs) m):R P n B ae Q pc imm hs m:=rS (zB0 (Rp.sz α)) (h RepL.nil)
theorem zAm(α:Type)[Rp α]{c:Code}(h:RL imm [] ([]:List α)->J P n B c Q imm (hO α (.slice none 0 0) []::hs) m):J P n B c Q imm hs m:=kJ (zB0 (Rp.sz α)) (h RepL.nil)
theorem mX{α:Type}[Rp α]{cs:List Value}{l:List α}(hr:RL imm cs l){t len:Nat}{parts:Array (Nat×Operand)}{ps:List (Nat×Value)}{ty:TypeId}{pos:String}{after:Array Edge}{g:Option (Nat×Bool)}
 (next:∀b ak,imm.le ak->SL ak (.slice (some ⟨b,0,none⟩) len len) l->R P n B ae Q (pc+1) ak hs ((d,.slice (some ⟨b,0,none⟩) len len)::m))
 (ho:ae[pc]?=some ⟨some d,.buildSlice t len parts,ty,pos,after,g⟩:=by rfl) (hg:guardB ae m g=some true:=by rfl) (hn:Nat.blt d n=true:=by rfl) (hps:pvals m parts.toList=some ps:=by rfl) (hc:elemZ P t len ps=some ⟨cs⟩:=by kernel_rfl) (hl:Nat.beq cs.length (len*Rp.sz α)=true:=by kernel_rfl)
 (hlM:Nat.ble len 9223372036854775807=true:=by rfl):R P n B ae Q pc imm hs m:=
 qB cs α (λb _=>wA 0 rfl λak bH hl0=>next b ak bH (SL.of_frozen hl0 bH hr)) ho hg hn hps hc hl hlM
theorem sB{f:FuncId}{x:Operand}{xs:Array Operand}{ts:Array TypeId}{vs:List Value}{hs1 rest:List HA}{post:Nat->Imm->List HA->Value->Prop}{ty:TypeId}{pos:String}{after:Array Edge}{g:Option (Nat×Bool)}
 (hc:Ret P f vs imm hs1 post) (hh:hs=hs1++rest)
 (next:∀ak ai v k,imm.le ak->B.w0.heap.size<=k->post k ak ai v->(∀b∈ai.flatMap HA.fp,b∈hs1.flatMap HA.fp∨B.w0.heap.size<=b)->R P n B ae Q (pc+1) ak (ai++rest) ((d,v)::m))
 (ho:ae[pc]?=some ⟨some d,.call { callee:=.value x,args:=xs,argTypes:=ts },ty,pos,after,g⟩:=by rfl) (hg:guardB ae m g=some true:=by rfl) (hn:Nat.blt d n=true:=by rfl) (hx:val m x=some (.func (.func f) #[] #[]):=by rfl) (hf:callable P f=true:=by kernel_rfl)
 (hvs:vals m xs.toList=some vs:=by rfl):R P n B ae Q pc imm hs m:=zMY hs1 rest hc next ho hg hn hx hf hvs hh
theorem wQ{α γ:Type}{x:Option α}{f:α->Option γ}{r:γ}{c:Code}(hM:(x >>= f)=some r)(hs0:List HA)(mf:α->FM)
 (h:∀o,x=some o->J P n B c (Exit.then (λa w=>∃ak ai m',K1 o imm hs0 mf ak ai m'/\Fr n a m'/\Good B ak ai w) Q) imm hs m)
 (k:∀t ak,imm.le ak->f t=some r->T n B Q .normal ak hs0 (mf t)):J P n B c Q imm hs m:=by
 obtain⟨o,h1,h2⟩:=zC hM
 refine nH (K1 o imm hs0 mf) (h o h1) ?_
 rintro ak _ _ ⟨t,rfl,bH,rfl,rfl⟩
 exact k _ ak bH h2
end
theorem rN{α:Type}[Rp α]{i:Imm}:RL i [] ([]:List α):=RepL.nil
theorem rc{α:Type}[Rp α]{i:Imm}{c1 c2:List Value}{l:List α}(a:α)(h:Rp.rep i c1 a)(t:RL i c2 l):RL i (c1++c2) (a::l):=⟨c1,c2,rfl,Rp.len h,h,t⟩
theorem rI{i:Imm}:∀(l:List Int),RL i (l.map vI) l
 | []=>RepL.nil
 | a::l=>⟨[vI a],l.map vI,rfl,rfl,rfl,rI l⟩
theorem rT{i:Imm}:∀(l:List Str),RL i (l.map λs=>vT s.l) l
 | []=>RepL.nil
 | a::l=>⟨[vT a.l],l.map λs=>vT s.l,rfl,rfl,rfl,rT l⟩
end Go.LN
namespace Go.LN
section
variable {P:Program}{n:Nat}{B:Base}{Q:Exit->Act->World->Prop}{imm:Imm}{hs:List HA}{m:FM}{ae:List Oper}{pc d:Nat}{ty:TypeId}{pos:String}{after:Array Edge}{g:Option (Nat×Bool)}
end
theorem Ret.fz{P:Program}{f:FuncId}{args:List Value}{imm:Imm}{hs:List HA}{post post':Nat->Imm->List HA->Value->Prop}(h:Ret P f args imm hs post)(hp:∀k i h v,post k i h v->∃A r,h=A::r/\A.plain=true/\∀i',i.le i'->Lent i' A->post' k i' r v):Ret P f args imm hs post' :=
 λw g=>(h w g).mono λe w' he=>by
  cases e with
  | returned v=>
   obtain⟨i,ai,h1,h2⟩:=he
   obtain⟨A,r,rfl,pl,h3⟩:=hp _ _ _ _ h1
   obtain⟨i',le,hL,hg⟩:=Good.freeze h2 pl
   exact⟨i',r,h3 i' le hL,hg⟩
  | panicked c=>exact he
  | outgrown=>exact he
end Go.LN
namespace Go.LN
section
variable {P:Program}{n:Nat}{B:Base}{ae:List Oper}{Q:Exit->Act->World->Prop}{pc:Nat}{imm:Imm}{hs:List HA}{m:FM}{d:Nat}
end
end Go.LN
namespace Go.LN
theorem oM{x:Int}(h0:-9223372036854775808<=x)(h1:x<=9223372036854775807):W x=x:=by
 show IntKind.i64.wrap x=x;rw[IntKind.wrap_i64];omega
theorem fO{α:Type}(l:List α)(k:Nat):idx l (k:Int)=l[k]?:=by
 unfold idx;simp
theorem zLc{α:Type}{l:List α}{i:Int}(h:0<=i):idx l i=l[i.toNat]?:=by
 unfold idx;simp[h]
theorem zB5{a b:Str}(h:a.l.length+b.l.length<=9223372036854775807):cat a b=some ⟨a.l++b.l⟩:=by
 unfold cat;rw[if_pos h]
theorem eV{k:Nat}(h:k<9223372036854775807):W ((k:Int)+1)=((k+1:Nat):Int):=by
 rw[oM (by omega) (by omega)];omega
end Go.LN
namespace Go.LN
structure Raw2 where
 a:Value
 b:Value
instance:Rp Raw2 where
 sz:=2
 pos:=by decide
 rep _ cs r:=cs=[r.a,r.b]/\r.a.oneCell'=true/\r.b.oneCell'=true
 len h:=by obtain⟨rfl,_⟩:=h;rfl
 mono _ h:=h
 one h:=by obtain⟨rfl,h1,h2⟩:=h;simp[h1,h2]
def flat:List Raw2->List Value
 | []=>[]
 | r::l=>r.a::r.b::flat l
theorem zAL:∀(a b:List Raw2),flat (a++b)=flat a++flat b
 | [],_=>rfl
 | r::a,b=>by simp[flat,zAL a b]
theorem jQ{imm:Imm}:∀{l:List Raw2}{cs:List Value},RL imm cs l->cs=flat l
 | [],cs,h=>h
 | r::l,cs,⟨c1,c2,h1,_,h3,h4⟩=>by
  obtain⟨rfl,_⟩:=h3
  rw[h1,jQ h4];rfl
def LP(imm:Imm)(au:List Raw2)(parts:List zJ)(vN:Value)(nl:List zE)(vB:Value)(bl:List zM):Prop:=
 parts.length<=140737488355328/\au.length=parts.length /\
  ((parts=[]/\au=[])∨∃rl l,parts=l++[⟨nl,bl⟩]/\au=rl++[⟨vN,vB⟩]/\RepL (Rp.rep imm) (Rp.sz zJ) (flat rl) l)
theorem LP.mono{i j:Imm}(hl:i.le j){au:List Raw2}{parts:List zJ}{vN vB:Value}{nl:List zE}{bl:List zM}(h:LP i au parts vN nl vB bl):LP j au parts vN nl vB bl:=by
 obtain⟨h1,h2,h3⟩:=h;refine⟨h1,h2,h3.imp id ?_⟩;rintro⟨rl,l,k1,k2,k3⟩;exact⟨rl,l,k1,k2,RepL.mono (λ_ _=>Rp.mono hl) k3⟩
structure L4(imm:Imm)(cs:List Value)(arr:List zG)(aL:List Value)(au:List Raw2)(parts:List zJ)(vN:Value)(nl:List zE)(vB:Value)(bl:List zM)(csN csB:List Value):Prop where
 arr:RL imm cs arr
 raw:RL imm aL au
 lp:LP imm au parts vN nl vB bl
 n:RL imm csN nl
 b:RL imm csB bl
theorem L4.mono{i j:Imm}(hl:i.le j){cs:List Value}{arr:List zG}{aL:List Value}{au:List Raw2}{parts:List zJ}{vN vB:Value}{nl:List zE}{bl:List zM}{csN csB:List Value}
 (h:L4 i cs arr aL au parts vN nl vB bl csN csB):L4 j cs arr aL au parts vN nl vB bl csN csB:=
 ⟨RepL.mono (λ_ _=>Rp.mono hl) h.arr,RepL.mono (λ_ _=>Rp.mono hl) h.raw,h.lp.mono hl,RepL.mono (λ_ _=>Rp.mono hl) h.n,RepL.mono (λ_ _=>Rp.mono hl) h.b⟩
theorem LP.len{imm:Imm}{au:List Raw2}{parts:List zJ}{vN vB:Value}{nl:List zE}{bl:List zM}(h:LP imm au parts vN nl vB bl):(parts.length:Int)=(au.length:Int):=by rw[h.2.1]
theorem LP.last{imm:Imm}{au:List Raw2}{parts:List zJ}{vN vB:Value}{nl:List zE}{bl:List zM}(h:LP imm au parts vN nl vB bl){x:zJ}(hx:idx parts (W ((au.length:Int) - 1))=some x):
 x=⟨nl,bl⟩/\idx au (W ((au.length:Int) - 1))=some ⟨vN,vB⟩ /\
  ∀vN' nl' vB' bl',LP imm (au.set (W ((au.length:Int) - 1)).toNat ⟨vN',vB'⟩) (parts.set (W ((au.length:Int) - 1)).toNat ⟨nl',bl'⟩) vN' nl' vB' bl':=by
 obtain⟨h1,h2,h3⟩:=h
 have hW:W ((au.length:Int) - 1)=(au.length:Int) - 1:=oM (by omega) (by omega)
 rw[hW] at hx ⊢
 rcases h3 with⟨rfl,rfl⟩|⟨rl,l,rfl,rfl,h4⟩
 ·simp[idx] at hx
 ·have hl:l.length=rl.length:=by simpa using h2.symm
  have e:(((rl++[(⟨vN,vB⟩:Raw2)]).length:Int) - 1).toNat=rl.length:=by simp
  have e0:(0:Int)<=((rl++[(⟨vN,vB⟩:Raw2)]).length:Int) - 1:=by simp
  unfold idx at hx ⊢
  rw[if_pos e0,e] at hx ⊢
  rw[<- hl] at hx
  refine⟨by simpa using hx.symm,by simp,λvN' nl' vB' bl'=>⟨?_,?_,.inr ⟨rl,l,?_,?_,h4⟩⟩⟩
  ·simpa using h1
  ·simpa using h2
  ·rw[<- hl];simp
  ·simp
theorem LP.part{imm:Imm}{au:List Raw2}{parts:List zJ}{vN vB:Value}{nl:List zE}{bl:List zM}(h:LP imm au parts vN nl vB bl)(hN:SL imm vN nl)(hB:SL imm vB bl){l1:List zJ}
 (ha:app 48 parts [(⟨[],[]⟩:zJ)]=some l1):LP imm (au++[⟨.slice none 0 0,.slice none 0 0⟩]) l1 (.slice none 0 0) [] (.slice none 0 0) []:=by
 obtain⟨hb,rfl⟩:=zA2 ha
 obtain⟨h1,h2,h3⟩:=h
 refine⟨?_,?_,.inr ⟨au,parts,rfl,rfl,?_⟩⟩
 ·simp at hb ⊢;omega
 ·simp[h2]
 ·rcases h3 with⟨rfl,rfl⟩|⟨rl,l,rfl,rfl,h4⟩
  ·rfl
  ·rw[zAL]
   exact h4.append (.single rfl (uU ⟨_,_,rfl,hN,hB⟩))
theorem zIq{α β:Type}{b:Nat}{l:List α}{m:List α}{l':List β}{m':List β}{y:List α}(h:app b l m=some y)(h1:l'.length=l.length)(h2:m'.length=m.length):app b l' m'=some (l'++m'):=by
 obtain⟨k,_⟩:=zA2 h;unfold app;rw[h1,h2,if_pos k]
theorem LP.done{imm:Imm}{au:List Raw2}{parts:List zJ}{vN vB:Value}{nl:List zE}{bl:List zM}(h:LP imm au parts vN nl vB bl)(hN:SL imm vN nl)(hB:SL imm vB bl):RepL (Rp.rep imm) (Rp.sz zJ) (flat au) parts:=by
 obtain⟨h1,h2,h3⟩:=h;rcases h3 with⟨rfl,rfl⟩|⟨rl,l,rfl,rfl,h4⟩
 ·rfl
 ·rw[zAL];exact h4.append (.single rfl (uU ⟨_,_,rfl,hN,hB⟩))
section
variable {P:Program}{n:Nat}{B:Base}{Q:Exit->Act->World->Prop}{imm:Imm}{hs:List HA}{m:FM}{ae:List Oper}{pc d:Nat}{ty:TypeId}{pos:String}{after:Array Edge}{g:Option (Nat×Bool)}
end
end Go.LN
namespace Go.LN
open Go.RowKit
theorem Good.below{imm:Imm}{w w':World}(h:Good ⟨w,imm,[]⟩ imm [] w)(b:Below w.heap.size w w'):Good ⟨w,imm,[]⟩ imm [] w':=by
 refine⟨λk c e=>?_,by simp,by simp,⟨b.os,b.tape,b.output,b.size,λk hk _=>b.block k hk,λ_ _ _=>rfl⟩⟩;obtain⟨ty,fr,e'⟩:=h.inv k c e;exact⟨ty,fr,(b.block k (h.lt_imm e)).trans e'⟩
theorem Good.cell{B:Base}{imm:Imm}{hs:List HA}{w:World}(h:Good B imm hs w){g:Nat}{v:Value}(e:imm g=some #[v]):w.cell? ⟨g,0,none⟩=some v:=by
 obtain⟨ty,fr,e'⟩:=h.inv _ _ e;simp only[World.cell?,e'];simp
theorem zGh{P:Program}{f:FuncId}{args:List Value}{imm:Imm}{v:Value}{post:Nat->Imm->List HA->Value->Prop}
 (h:∀w,Good ⟨w,imm,[]⟩ imm [] w->Calls P f args.toArray w λe w'=>e=.returned v/\Below w.heap.size w w') (hp:∀k,post k imm [] v):Ret P f args imm [] post:=λw g=>
 (h w g).mono λe w' ⟨he,hb⟩=>by
  subst he
  exact⟨imm,[],hp _,g.below hb⟩
theorem zMR{P:Program}{n:Nat}{B:Base}{imm:Imm}{hs:List HA}{m:FM}{fn:Func}{post:Nat->Imm->List HA->Value->Prop}(h:RS P fn B post imm hs m):T n B (QB P fn B post) .normal imm hs m:=by
 obtain⟨vs,hs0,h1,h2,h3⟩:=h;exact λ_ w f g=>⟨f.defers,_,zE7 f g h1,imm,hs0,h3,h2 w g⟩
def asc(l:List UInt8):Bool:=l.all λb=>decide (b.toNat<128)
def atoiM(s:Str):Int×Bool:=match Lib.atoiAll s.l with
 | .ok v=>(v,false)
 | .range=>(Lib.atoiSat s.l,true)
 | _=>(0,true)
theorem At.of_blk{imm:Imm}{b:Nat}{cs:List Value}(h:imm b=some ⟨cs⟩):At imm ⟨b,0,none⟩ cs:=⟨b,0,_,rfl,h,by simp,by simp⟩
section
variable {P:Program}{n:Nat}{B:Base}{ae:List Oper}{Q:Exit->Act->World->Prop}{pc:Nat}{imm:Imm}{hs:List HA}{m:FM}{d:Nat}
 {ty:TypeId}{pos:String}{after:Array Edge}{g:Option (Nat×Bool)}
end
end Go.LN
namespace Go.LN
section
variable {P:Program}{n:Nat}{B:Base}{Q:Exit->Act->World->Prop}{imm:Imm}{hs:List HA}{m:FM}{ae:List Oper}{pc d:Nat}{ty:TypeId}{pos:String}{after:Array Edge}{g:Option (Nat×Bool)}
theorem zGu{t e:TypeId}{w:World}{p:Option Addr}{l c:Nat}(hu:P.underlying t=some (.slice e)):(Op.equal t (.slice p l c) (.slice none 0 0)).run P w=.ok p.isNone w:=by
 have h:∀d,(Op.equalIn (d+1) t (.slice p l c) (.slice none 0 0)).run P w=.ok p.isNone w:=λd=>by
  rw[Op.equalIn];cases p <;> simp[xS hu]
 exact h 9999
def sliceT(P:Program)(t:TypeId):Bool:=match P.underlying t with|some (.slice _)=>true|_=>false
theorem zMS{t t2:TypeId}{x:Operand}{p:Option Addr}{l c:Nat}(b:Bool)(ho:ae[pc]?=some ⟨some d,.binOp .eql t x (.const (.slice none 0 0)) t2,ty,pos,after,g⟩)(hb:p.isNone=b)
 (next:R P n B ae Q (pc+1) imm hs ((d,.bool b)::m)) (hx:val m x=some (.slice p l c)) (hg:guardB ae m g=some true:=by kernel_rfl) (hn:Nat.blt d n=true:=by kernel_rfl) (ht:sliceT P t=true:=by kernel_rfl):R P n B ae Q pc imm hs m:=by
 unfold sliceT at ht
 split at ht
 ·rename_i e hu
  refine jZ ho hg rfl hn λa w f gd=>⟨.bool b,w,imm,hs,?_,gd,next⟩
  have hy:a.eval (.const (.slice none 0 0))=.slice none 0 0:=rfl
  simp[execOp,f.eval hx,hy,eqGuard,binOp,zGu hu,hb]
 ·cases ht
end
end Go.LN
namespace Go.LN
section
variable {P:Program}{n:Nat}{B:Base}{Q:Exit->Act->World->Prop}{imm:Imm}{hs:List HA}{m:FM}
theorem zGv{c:Code}(ai:List HA)(hp:ai.Perm hs)(h:J P n B c Q imm ai m):J P n B c Q imm hs m:=λa w f g=>h a w f (g.perm hp)
theorem zKE{c:Code}(hF:False){ak:Imm}{ai:List HA}{m':FM}(next:T n B Q .normal ak ai m'):J P n B c Q imm hs m:=hF.elim
theorem zMT{c:Code}{L:List HA}(x:Exit)(S:Imm->List HA->FM->Prop)(h1:∀B':Base,J P n B' c (λe a w=>e=x/\∃ak ai m',S ak ai m'/\Fr n a m'/\Good B' ak ai w) imm hs m)
 (h2:∀ak ai m',S ak ai m'->imm.le ak->T n B Q x ak (ai++L) m'):J P n B c Q imm (hs++L) m:=λa w f g=>by
 have bU:=g.nodup
 rw[cX] at bU
 have hg1:=g.enter (hs1:=hs) (λA hA=>de _ hA) (cH.1 bU).1
 refine wp_mono (h1 _ a w f hg1) λe a' w' he=>?_
 obtain⟨rfl,ak,ai,m',k1,k2,k3⟩:=he
 obtain⟨k4,k5,_⟩:=g.leave k3
 exact h2 ak ai m' k1 k5 a' w' k2 k4
theorem zMU{B':Base}{x:Exit}{S:Imm->List HA->FM->Prop}(h:S imm hs m):T n B' (λe a w=>e=x/\∃ak ai m',S ak ai m'/\Fr n a m'/\Good B' ak ai w) x imm hs m:=λ_ _ f g=>⟨rfl,imm,hs,m,h,f,g⟩
end
structure NL where
 pl:Option Addr
 lo:List zA
 cl:Nat
 csl:List Value
 ph:Option Addr
 hi:List zA
 ch:Nat
 csh:List Value
def NL.vl(x:NL):Value:=vS x.pl x.lo x.cl
def NL.vh(x:NL):Value:=vS x.ph x.hi x.ch
def NL.ha(x:NL):List HA:=[hO zA x.vh x.csh,hO zA x.vl x.csl]
def NL.raw(x:NL):Raw2:=⟨x.vl,x.vh⟩
def NL.d(x:NL):zE:=⟨x.lo,x.hi⟩
def NL.ok(imm:Imm)(x:NL):Prop:=RL imm x.csl x.lo/\RL imm x.csh x.hi
def NL.fz(imm:Imm)(x:NL):Prop:=SL imm x.vl x.lo/\SL imm x.vh x.hi
theorem NL.ok.mono{i j:Imm}(h:i.le j){x:NL}(hx:x.ok i):x.ok j:=⟨RepL.mono (λ_ _=>Rp.mono h) hx.1,RepL.mono (λ_ _=>Rp.mono h) hx.2⟩
theorem NL.fz.mono{i j:Imm}(h:i.le j){x:NL}(hx:x.fz i):x.fz j:=⟨hx.1.mono h,hx.2.mono h⟩
abbrev NLs(xs:List NL):List HA:=xs.flatMap NL.ha
theorem zKF{xs:List NL}{k:Nat}{x:NL}(h:xs[k]?=some x):∃ys,(NLs xs).Perm (x.ha++NLs ys)/\(∀y∈ys,y∈xs)/\∀i:Nat,∀y,i ≠ k->xs[i]?=some y->y∈ys:=by
 obtain⟨hk,rfl⟩:=cm.1 h;refine⟨xs.eraseIdx k,?_,λy hy=>List.mem_of_mem_eraseIdx hy,λi y hi hy=>List.mem_eraseIdx_iff_getElem?.2 ⟨i,hi,hy⟩⟩;have:=(jP h).flatMap_right NL.ha;simpa [NLs] using this
section
variable {P:Program}{n:Nat}{B:Base}{Q:Exit->Act->World->Prop}{hs:List HA}{m:FM}
theorem zA3{c:Code}:∀(xs:List NL) {imm:Imm},(∀x∈xs,x.ok imm)->(∀ak,imm.le ak->(∀x∈xs,x.fz ak)->J P n B c Q ak hs m)->J P n B c Q imm (NLs xs++hs) m
 | [],imm,_,h=>h imm (Imm.le.refl _) (λ_ h=>by cases h)
 | x::xs,imm,hx,h=>by
  have h1:=hx x (cf ..)
  show J P n B c Q imm (hO zA x.vh x.csh::hO zA x.vl x.csl::(NLs xs++hs)) m
  refine nU 0 rfl ?_
  intro imm1 af hl1
  have k1:=SL.of_frozen hl1 af h1.2
  refine nU 0 rfl ?_
  intro imm2 aE hl2
  have k2:=SL.of_frozen hl2 aE (RepL.mono (λ_ _=>Rp.mono af) h1.1)
  refine zA3 xs (λy hy=>(hx y (cd _ hy)).mono (af.trans aE)) ?_
  intro imm3 aJ h3
  refine h imm3 ((af.trans aE).trans aJ) λy hy=>?_
  rcases cv.1 hy with rfl|hy
  ·exact⟨k2.mono aJ,(k1.mono aE).mono aJ⟩
  ·exact h3 y hy
end
theorem zFF{α β:Type}{f:α->β}{l:List α}{i:Int}{y:β}(h:idx (l.map f) i=some y):∃x,idx l i=some x/\y=f x:=by
 obtain⟨h0,h1,h2⟩:=tI h;rw[df,Option.map_eq_some_iff] at h2;obtain⟨x,h3,rfl⟩:=h2;exact⟨x,by unfold idx;rw[if_pos h0,h3],rfl⟩
theorem zAn{α β:Type}{f:α->β}{l:List α}{i:Int}{x:α}(h:idx l i=some x):idx (l.map f) i=some (f x):=by
 obtain⟨h0,h1,h2⟩:=tI h;unfold idx;rw[if_pos h0,df,h2];rfl
section
variable {P:Program}{n:Nat}{B:Base}{Q:Exit->Act->World->Prop}{hs:List HA}{m:FM}{imm:Imm}
theorem zKG{c:Code}{xs:List NL}{i:Int}{x:NL}(hx:idx xs i=some x)(bX:∀x∈xs,x.ok imm)(h:∀ak,imm.le ak->(∀(j:Nat) y,j ≠ i.toNat->xs[j]?=some y->y.fz ak)->J P n B c Q ak (hO zA x.vh x.csh::hO zA x.vl x.csl::hs) m):J P n B c Q imm (NLs xs++hs) m:=by
 obtain⟨h0,h1,h2⟩:=tI hx;obtain⟨ys,k1,k2,k3⟩:=zKF h2;refine zGv (NLs ys++(x.ha++hs)) ?_ ?_
 ·rw[<- cI];exact(dd.trans k1.symm).append_right hs
 ·refine zA3 ys (λy hy=>bX y (k2 y hy)) ?_;intro imm1 af hf;exact h imm1 af λj y hj hy=>hf y (k3 j y hj hy)
end
def PW(imm:Imm)(au:List Raw2)(nest:List zE):Prop:=au.length=nest.length/\∀(j:Nat) r d,au[j]?=some r->nest[j]?=some d->SL imm r.a d.Lo/\SL imm r.b d.Hi
theorem PW.rl{imm:Imm}:∀{au:List Raw2}{nest:List zE},PW imm au nest->RL imm (flat au) nest
 | [],[],_=>rfl
 | [],_::_,h=>by cases h.1
 | _::_,[],h=>by cases h.1
 | r::au,d::nest,h=>⟨[r.a,r.b],flat au,rfl,rfl,qA ⟨_,_,rfl,h.2 0 r d rfl rfl⟩,PW.rl ⟨by have:=h.1;simpa using this,λj r' d' h1 h2=>h.2 (j+1) r' d' (by simpa using h1) (by simpa using h2)⟩⟩
theorem zGw{imm:Imm}{xs:List NL}{k:Nat}{r:Raw2}{d:zE}(hfz:∀(j:Nat) y,j ≠ k->xs[j]?=some y->y.fz imm)(hr:SL imm r.a d.Lo/\SL imm r.b d.Hi):PW imm ((xs.map NL.raw).set k r) ((xs.map NL.d).set k d):=by
 refine⟨by simp,λj r' d' h1 h2=>?_⟩;by_cases hj:j=k
 ·subst hj;rw[List.getElem?_set_self' ] at h1 h2;cases hx:xs[j]? with
  | none=>simp[hx] at h1
  | some y=>
   simp[hx] at h1 h2;subst h1;subst h2;exact hr
 ·rw[List.getElem?_set_ne (λe=>hj e.symm),df,Option.map_eq_some_iff] at h1 h2;obtain⟨y,h3,rfl⟩:=h1;obtain⟨y',h4,rfl⟩:=h2;rw[h3] at h4;cases h4
  exact hfz j y hj h3
theorem NL.shut{imm:Imm}{x:NL}(h:x.fz imm):Rp.rep imm [x.vl,x.vh] x.d:=qA ⟨_,_,rfl,h.1,h.2⟩
theorem zF0{imm:Imm}:∀{xs:List NL},(∀x∈xs,x.fz imm)->RL imm (flat (xs.map NL.raw)) (xs.map NL.d)
 | [],_=>rfl
 | x::xs,h=>⟨[x.vl,x.vh],flat (xs.map NL.raw),rfl,rfl,NL.shut (h x (cf ..)),zF0 λy hy=>h y (cd _ hy)⟩
theorem LP.push{imm:Imm}{au:List Raw2}{parts:List zJ}{vN vB vN' vB':Value}{nl nl':List zE}{bl bl':List zM}(h:LP imm au parts vN nl vB bl)(hN:SL imm vN nl)(hB:SL imm vB bl){l1:List zJ}
 (ha:app 48 parts [(⟨nl',bl'⟩:zJ)]=some l1):LP imm (au++[⟨vN',vB'⟩]) l1 vN' nl' vB' bl':=by
 obtain⟨hb,rfl⟩:=zA2 ha
 obtain⟨h1,h2,h3⟩:=h
 refine⟨?_,?_,.inr ⟨au,parts,rfl,rfl,?_⟩⟩
 ·simp at hb ⊢;omega
 ·simp[h2]
 ·rcases h3 with⟨rfl,rfl⟩|⟨rl,l,rfl,rfl,h4⟩
  ·rfl
  ·rw[zAL]
   exact h4.append (.single rfl (uU ⟨_,_,rfl,hN,hB⟩))
theorem LP.nil{imm:Imm}:LP imm [] [] (.slice none 0 0) [] (.slice none 0 0) []:=⟨by decide,rfl,.inl ⟨rfl,rfl⟩⟩
end Go.LN
namespace Go.LN
structure ND where
 nm:Str
 p:Option Addr
 d:List Int
 c:Nat
 cs:List Value
def ND.v(x:ND):Value:=vS x.p x.d x.c
def ND.ha(x:ND):HA:=hO Int x.v x.cs
def ND.raw(x:ND):Raw2:=⟨vT x.nm.l,x.v⟩
def ND.a(x:ND):zG:=⟨x.nm,x.d⟩
def ND.ok(imm:Imm)(x:ND):Prop:=RL imm x.cs x.d
def ND.fz(imm:Imm)(x:ND):Prop:=SL imm x.v x.d
theorem ND.ok.mono{i j:Imm}(h:i.le j){x:ND}(hx:x.ok i):x.ok j:=RepL.mono (λ_ _=>Rp.mono h) hx
theorem ND.fz.mono{i j:Imm}(h:i.le j){x:ND}(hx:x.fz i):x.fz j:=SL.mono h hx
section
variable {P:Program}{n:Nat}{B:Base}{Q:Exit->Act->World->Prop}{hs:List HA}{m:FM}
end
def RW(imm:Imm)(au:List Raw2)(A:List zG)(k:Nat)(w:Value):Prop:=au.length=A.length/\∀(j:Nat) r d,au[j]?=some r->A[j]?=some d->r.a=vT d.Name.l/\(j ≠ k->SL imm r.b d.Dims)/\(j=k->r.b=w)
def ArW(imm:Imm)(v:Value)(au:List Raw2)(A:List zG)(k:Int)(w:Value):Prop:=SL imm v au/\RW imm au A k.toNat w
theorem ArW.mono{i j:Imm}(h:i.le j){v:Value}{au:List Raw2}{A:List zG}{k:Int}{w:Value}(hx:ArW i v au A k w):ArW j v au A k w:=
 ⟨SL.mono h hx.1,hx.2.1,λq r d h1 h2=>⟨(hx.2.2 q r d h1 h2).1,λhq=>SL.mono h ((hx.2.2 q r d h1 h2).2.1 hq),(hx.2.2 q r d h1 h2).2.2⟩⟩
theorem RW.of{imm:Imm}{xs:List ND}{i:Int}{x:ND}(hx:idx xs i=some x)(h:∀(j:Nat) y,j ≠ i.toNat->xs[j]?=some y->y.fz imm):RW imm (xs.map ND.raw) (xs.map ND.a) i.toNat x.v:=by
 obtain⟨h0,h1,h2⟩:=tI hx;refine⟨by simp,λj r d hr hd=>?_⟩;rw[df,Option.map_eq_some_iff] at hr hd;obtain⟨y,hy,rfl⟩:=hr;obtain⟨y',hy',rfl⟩:=hd;rw[hy] at hy';cases hy'
 refine⟨rfl,λhj=>h j y hj hy,λhj=>?_⟩;subst hj;rw[h2] at hy;cases hy;rfl
theorem RW.at{imm:Imm}{au:List Raw2}{A:List zG}{k:Int}{w:Value}(h:RW imm au A k.toNat w){a:zG}(ha:idx A k=some a):idx au k=some ⟨vT a.Name.l,w⟩:=by
 obtain⟨h0,h1,h2⟩:=tI ha;have aV:=(cm.1 h2).1;have hr:au[k.toNat]?=some (au[k.toNat]'(by rw[h.1];exact aV)):=ce _;obtain⟨e1,_,e2⟩:=h.2 _ _ _ hr h2;unfold idx;rw[if_pos h0,hr]
 congr 1
 generalize au[k.toNat]'(by rw[h.1];exact aV)=r at *;cases r
 simp only at e1 e2;rw[e1,e2 trivial]
theorem RW.rl{imm:Imm}:∀{au:List Raw2}{A:List zG},au.length=A.length->(∀(j:Nat) r d,au[j]?=some r->A[j]?=some d->r.a=vT d.Name.l/\SL imm r.b d.Dims)->RL imm (flat au) A
 | [],[],_,_=>rfl
 | [],_::_,h,_=>by cases h
 | _::_,[],h,_=>by cases h
 | r::au,d::A,h,hh=>⟨[r.a,r.b],flat au,rfl,rfl,by
  obtain⟨e1,e2⟩:=hh 0 r d rfl rfl
  rw[e1]
  exact sU ⟨_,rfl,e2⟩,RW.rl (by simpa using h) λj r' d' h1 h2=>hh (j+1) r' d' (by simpa using h1) (by simpa using h2)⟩
theorem RW.set{imm:Imm}{au:List Raw2}{A:List zG}{k:Int}{w:Value}(h:RW imm au A k.toNat w){a:zG}(ha:idx A k=some a){d:List Int}(hd:SL imm w d):RL imm (flat au) (A.set k.toNat ⟨a.Name,d⟩):=by
 obtain⟨h0,h1,h2⟩:=tI ha;refine RW.rl (by rw[cQ];exact h.1) λj r y hr hy=>?_;by_cases hj:j=k.toNat
 ·subst hj;rw[List.getElem?_set_self (cm.1 h2).1] at hy;cases hy
  obtain⟨e1,_,e2⟩:=h.2 _ r a hr h2;exact⟨e1,by rw[e2 rfl];exact hd⟩
 ·rw[List.getElem?_set_ne (λe=>hj e.symm)] at hy;obtain⟨e1,e2,_⟩:=h.2 _ r y hr hy;exact⟨e1,e2 hj⟩
theorem ArW.done{imm:Imm}{p:Option Addr}{c:Nat}{au:List Raw2}{A:List zG}{k:Int}{w:Value}(h:ArW imm (vS p au c) au A k w){a:zG}(ha:idx A k=some a){d:List Int}(hd:SL imm w d):SL imm (vS p (A.set k.toNat ⟨a.Name,d⟩) c) (A.set k.toNat ⟨a.Name,d⟩):=by
 obtain⟨⟨aK,h1,h2⟩,h3⟩:=h;refine⟨aK,?_,?_⟩
 ·have e:(vS p (A.set k.toNat ⟨a.Name,d⟩) c)=vS p au c:=by simp only[vS,cQ,h3.1]
  rw[e];exact h1
 ·rw[jQ h2];exact h3.set ha hd
section
variable {P:Program}{n:Nat}{B:Base}{imm:Imm}{hs:List HA}{m:FM}
end
end Go.LN
namespace Go.LN
structure NB where
 vN:Value
 nl:List zE
 p:Option Addr
 d:List zM
 c:Nat
 cs:List Value
def NB.v(x:NB):Value:=vS x.p x.d x.c
def NB.ha(x:NB):HA:=hO zM x.v x.cs
def NB.raw(x:NB):Raw2:=⟨x.vN,x.v⟩
def NB.a(x:NB):zJ:=⟨x.nl,x.d⟩
def NB.ok(imm:Imm)(x:NB):Prop:=SL imm x.vN x.nl/\RL imm x.cs x.d
def NB.fz(imm:Imm)(x:NB):Prop:=SL imm x.vN x.nl/\SL imm x.v x.d
theorem NB.ok.mono{i j:Imm}(h:i.le j){x:NB}(hx:x.ok i):x.ok j:=⟨SL.mono h hx.1,RepL.mono (λ_ _=>Rp.mono h) hx.2⟩
theorem NB.fz.mono{i j:Imm}(h:i.le j){x:NB}(hx:x.fz i):x.fz j:=⟨SL.mono h hx.1,SL.mono h hx.2⟩
theorem NB.shut{imm:Imm}{x:NB}(h:x.fz imm):Rp.rep imm [x.vN,x.v] x.a:=uU ⟨_,_,rfl,h.1,h.2⟩
section
variable {P:Program}{n:Nat}{B:Base}{Q:Exit->Act->World->Prop}{hs:List HA}{m:FM}
end
end Go.LN
namespace Go.LN
open Go.Proofs
end Go.LN
namespace Go.LN
structure Raw1 where
 v:Value
instance:Rp Raw1 where
 sz:=1
 pos:=e9
 rep _ cs r:=cs=[r.v]/\r.v.oneCell'=true
 len h:=by obtain⟨rfl,_⟩:=h;rfl
 mono _ h:=h
 one h:=by obtain⟨rfl,h1⟩:=h;simp[h1]
def rv(R:List Raw1):List Value:=R.map Raw1.v
def GN{β:Type}[Rp β](imm:Imm)(xs:List (List β))(X:List Raw1)(y:List β)(v:Value):Prop:=
 (xs=[]/\X=[]/\y=[]/\v=.slice none 0 0)∨∃init Xi,xs=init++[y]/\X=Xi++[⟨v⟩]/\RL imm (rv Xi) init/\xs.length<=10000000000000
section
variable {β:Type} [Rp β] {imm:Imm}{xs:List (List β)}{X:List Raw1}{y:List β}{v:Value}
theorem GN.mono{j:Imm}(hl:imm.le j)(h:GN imm xs X y v):GN j xs X y v:=by
 rcases h with h|⟨init,Xi,h1,h2,h3,h4⟩
 ·exact .inl h
 ·exact .inr ⟨init,Xi,h1,h2,RepL.mono (λ_ _=>Rp.mono hl) h3,h4⟩
theorem zKH{init:List (List β)}{Xi:List Raw1}(h:RL imm (rv Xi) init):Xi.length=init.length:=by
 have:=h.length;simpa [rv,show Rp.sz (List β)=1 from rfl] using this
theorem GN.len(h:GN imm xs X y v):X.length=xs.length:=by
 rcases h with⟨rfl,rfl,_⟩|⟨init,Xi,rfl,rfl,h3,_⟩
 ·rfl
 ·simp[zKH h3]
theorem GN.all(h:GN imm xs X y v)(hs:SL imm v y):RL imm (rv X) xs:=by
 rcases h with⟨rfl,rfl,_⟩|⟨init,Xi,rfl,rfl,h3,_⟩
 ·exact RepL.nil
 ·have e:rv (Xi++[⟨v⟩])=rv Xi++[v]:=by simp[rv]
  rw[e];exact h3.append ⟨[v],[],rfl,rfl,⟨v,rfl,hs⟩,rfl⟩
theorem GN.push(h:GN imm xs X y v)(hs:SL imm v y)(hb:(xs.length+1)*24<=140737488355328):GN imm (xs++[[]]) (X++[⟨.slice none 0 0⟩]) [] (.slice none 0 0):=
 .inr ⟨xs,X,rfl,rfl,h.all hs,by simp;omega⟩
theorem zLd{n:Nat}(h:n<=10000000000000):W (((n+1:Nat):Int) - 1)=(n:Int):=by rw[oM (by omega) (by omega)];omega
theorem GN.last(h:GN imm xs X y v){z:List β}(hz:idx xs (W ((xs.length:Int) - 1))=some z):z=y/\idx X (W ((X.length:Int) - 1))=some ⟨v⟩/\W ((X.length:Int) - 1)=W ((xs.length:Int) - 1) /\
 ∀(y':List β) (v':Value),GN imm (xs.set (W ((xs.length:Int) - 1)).toNat y') (X.set (W ((X.length:Int) - 1)).toNat ⟨v'⟩) y' v':=by
 rcases h with⟨rfl,rfl,_⟩|⟨init,Xi,rfl,rfl,h3,h4⟩
 ·obtain⟨_,_,h2⟩:=tI hz
  simp at h2
 ·have hl:=zKH h3
  simp only[cw,ep] at hz h4 ⊢
  have e1:=zLd (n:=init.length) (by omega)
  rw[e1] at hz
  rw[hl,e1]
  refine⟨?_,?_,rfl,λy' v'=>?_⟩
  ·have:=(tI hz).2.2
   simp at this
   exact this.symm
  ·unfold idx
   simp[hl]
  ·rw[fc]
   refine .inr ⟨init,Xi,?_,?_,h3,?_⟩
   ·simp
   ·simp[<- hl]
   ·simp;omega
end
def FS1{σ α β:Type}[Vr α][Vr β](P:Program)(imm:Imm)(hsS:σ->List HA)(v:Value)(φ:α->σ->Option (β×σ)):Prop:=
 ∃f first cap,v=.func (.func f) ⟨first⟩ ⟨cap⟩/\callable P f=true/\∀ak,imm.le ak->∀a s r va,φ a s=some r->Vr.rep ak va a->Ret P f (first++[va]++cap) ak (hsS s) λ_ i ai u=>ai=hsS r.2/\Vr.rep i u r.1
theorem FS1.mono{σ α β:Type}[Vr α][Vr β]{P:Program}{i j:Imm}{hsS:σ->List HA}{v:Value}{φ:α->σ->Option (β×σ)}(hl:i.le j)(h:FS1 P i hsS v φ):FS1 P j hsS v φ:=by
 obtain⟨f,first,cap,h1,h2,h3⟩:=h;exact⟨f,first,cap,h1,h2,λak h'=>h3 ak (hl.trans h')⟩
theorem FS1.intro{σ α β:Type}[Vr α][Vr β]{P:Program}{imm:Imm}{hsS:σ->List HA}{f:FuncId}{first cap:List Value}{φ:α->σ->Option (β×σ)}(h:∀ak,imm.le ak->∀a s r va,φ a s=some r->Vr.rep ak va a->Ret P f (first++[va]++cap) ak (hsS s) λ_ i ai u=>ai=hsS r.2/\Vr.rep i u r.1)
 (hc:callable P f=true:=by kernel_rfl):FS1 P imm hsS (.func (.func f) ⟨first⟩ ⟨cap⟩) φ:=⟨f,first,cap,rfl,hc,h⟩
section
variable {P:Program}{n:Nat}{B:Base}{ae:List Oper}{Q:Exit->Act->World->Prop}{pc:Nat}{imm:Imm}{hs:List HA}{m:FM}{d:Nat}
 {ty:TypeId}{pos:String}{after:Array Edge}{g:Option (Nat×Bool)}
end
end Go.LN
namespace Go.LN
open Go.RowKit
theorem zH7{imm : Imm}: ∀{s : List Str} {cs : List Value},RepL (Rp.rep imm) (Rp.sz Str) cs s -> cs = s.map λx=>Value.string ⟨⟨x.l⟩⟩
 | [],cs,h=>by have h : cs = []:=h;rw[h];rfl
 | l :: s,cs,⟨c1,c2,h1,_,h3,h4⟩=>by
  have h3 : c1 = [Value.string ⟨⟨l.l⟩⟩]:=h3
  rw[h1,h3,zH7 h4];rfl
theorem zKI{P : Program}{f : FuncId}{imm : Imm}{elems : List Str}{sep : Str}{p : Option Addr}{c : Nat}{post : Nat -> Imm -> List HA -> Value -> Prop}
 (h1 : elems.length<=140737488355328) (h2 : (Lib.join (elems.map (·.l)) sep.l).length<=140737488355328) (h : SL imm (vS p elems c) elems)
 (hn : ∀(a : Option Addr) (c : Nat) (w : World),Calls P f #[.slice a 0 c,.string ⟨⟨sep.l⟩⟩] w λe w' => e = .returned (.string ⟨#[]⟩) /\ w' = w)
 (hc : ∀(bk o c : Nat) (xs : List ByteArray) (w : World),(∀(j : Nat) x,xs[j]? = some x -> w.cell? ⟨bk,o+j,none⟩ = some (.string x)) -> bk<w.heap.size -> xs.length<=140737488355328 -> xs.length<=c ->
  (Lib.join (xs.map (·.data.toList)) (⟨⟨sep.l⟩⟩ : ByteArray).data.toList).length<=140737488355328 ->
  Calls P f #[.slice (some ⟨bk,o,none⟩) xs.length c,.string ⟨⟨sep.l⟩⟩] w λe w' => e = .returned (.string ⟨(Lib.join (xs.map (·.data.toList)) (⟨⟨sep.l⟩⟩ : ByteArray).data.toList).toArray⟩) /\ Below w.heap.size w w')
 (hp : ∀k,post k imm [] (vT (Lib.join (elems.map (·.l)) sep.l))) : Ret P f [vS p elems c,vT sep.l] imm [] post:=by
 obtain⟨aK,hs,hr⟩:=h
 have bS:=zH7 hr
 refine zGh (λw g => ?_) hp
 rcases hs with⟨e,_⟩|⟨b,off,len,cap,all,e,hb,bO,hlc,hl,hall⟩
 ·injection e with e1 e2 e3
  have e0 : elems = []:=ei.1 e2
  subst e0
  exact(hn p c w).mono λe w' ⟨he,hw⟩=>⟨he,hw ▸ Below.refl _ _⟩
 ·injection e with e1 e2 e3
  subst e1;subst e2;subst e3
  obtain⟨ty,fr,hw⟩:=g.inv b all hb
  have aV : b<w.heap.size:=by
   rcases db b w.heap.size with h|h
   ·exact h
   ·rw[d7 h] at hw;cases hw
  have hmap : (elems.map λs=>(⟨⟨s.l⟩⟩ : ByteArray)).map (·.data.toList) = elems.map (·.l):=by rw[List.map_map];rfl
  have h9:=hc b off c (elems.map λs=>(⟨⟨s.l⟩⟩ : ByteArray)) w (λj x hx=>by
   rw[df] at hx
   cases hj : elems[j]? with
   | none=>rw[hj] at hx;cases hx
   | some s=>
    rw[hj] at hx
    have hx : (⟨⟨s.l⟩⟩ : ByteArray) = x:=by simpa using hx
    have hjl:=(cm.1 hj).1
    simp only[World.cell?,hw,Option.isSome_none,cj,if_false]
    have h0 : aK[j]? = some (Value.string x):=by rw[bS,df,hj,<- hx];rfl
    rw[<- hall,d6,if_pos (by rw[show Rp.sz Str = 1 from rfl];omega),eh,Array.getElem?_toList] at h0
    exact h0) aV (by rw[cW];exact h1) (by rw[cW];exact hlc) (by rw[hmap];exact h2)
  rw[hmap,cW] at h9
  exact h9
end Go.LN
namespace Go.LN
section
variable {P:Program}{n:Nat}{B:Base}{Q:Exit->Act->World->Prop}{imm:Imm}{hs:List HA}{m:FM}{ae:List Oper}{pc d:Nat}{ty:TypeId}{pos:String}{after:Array Edge}{g:Option (Nat×Bool)}
end
theorem jR{B:Base}{imm:Imm}(a b:List HA):∀w,Good B imm (a++b) w->Good B imm (b++a) w:=λ_ h=>h.perm dd
end Go.LN
namespace Go.LN
section
variable {P:Program}{n:Nat}{B:Base}{ae:List Oper}{Q:Exit->Act->World->Prop}{pc:Nat}{imm:Imm}{hs:List HA}{m:FM}{d:Nat}
end
end Go.LN
