/- Helper of the proof (see the last text). -/
import Derived.Test.YtknadcjnkbdpdaaGreatLnI
import Derived.Laws.BitsLemmas
import Derived.Sort.Grow
import Derived.Lib.LaidTab
import Derived.Lib.ItoaNum
import Derived.Lib.ItoaMem
import Derived.Sort.Row
import Derived.Lib.AtoiErrMem
import Derived.Lib.AtoiTie
import Derived.Lib.SplitLaws
import Derived.Lib.AtoiAll
import Derived.Laws.StructEq
set_option linter.unusedVariables false
set_option linter.unusedSimpArgs false
namespace Go.LN
section
variable {P:Program}{n:Nat}{B:Base}{Q:Exit→Act→World→Prop}{imm:Imm}{hs:List HA}{m:FM}{ops:List Oper}{pc d:Nat}{ty:TypeId}{pos:String}{after:Array Edge}{g:Option (Nat×Bool)}
theorem zIC {f:FuncId}{first cap:List Value}{x:Operand}{xs:Array Operand}{ts:Array TypeId}{vs:List Value}{hs1 rest:List HA}{post:Nat→Imm→List HA→Value→Prop}
    (ho:ops[pc]?=some ⟨some d,.call { callee:=.value x,args:=xs,argTypes:=ts },ty,pos,after,g⟩) (hx:val m x=some (.func (.func f) ⟨first⟩ ⟨cap⟩)) (hf:callable P f=true)
    (hvs:vals m xs.toList=some vs) (hh:hs=hs1 ++ rest) (hc:Ret P f (first ++ vs ++ cap) imm hs1 post)
    (next:∀ imm' hs' v k,imm.le imm'→B.w0.heap.size ≤ k→post k imm' hs' v→(∀ b ∈ hs'.flatMap HA.fp,b ∈ hs1.flatMap HA.fp∨B.w0.heap.size ≤ b)→R P n B ops Q (pc + 1) imm' (hs' ++ rest) ((d,v)::m)) (hg:guardB ops m g=some true:=by kernel_rfl) (hn:Nat.blt d n=true:=by kernel_rfl):R P n B ops Q pc imm hs m :=
  zGY ho hg fun a w fr gd=>by
    subst hh
    have hargs:xs.map a.eval=vs.toArray:=by apply Array.ext'; rw [Array.toList_map,fr.evals hvs]
    have hall:(⟨first⟩:Array Value) ++ vs.toArray ++ ⟨cap⟩=(first ++ vs ++ cap).toArray:=by apply Array.ext'; simp
    have hnd:=gd.nodup
    rw [List.flatMap_append] at hnd
    have hg1:=gd.enter (hs1:=hs1) (fun A hA=>List.mem_append_left _ hA) (List.nodup_append.1 hnd).1
    unfold Oper.wp
    simp only [execOp,resolve,Deferred.ofValue,fr.eval hx,hargs,Sem.run_bind,Sem.run_pure,Result.andThen_ok,invoke,hall,zC9 hf,Oper.upon]
    refine (hc w hg1).mono fun e w' he=>?_
    cases e with
    | returned v =>
      obtain ⟨imm',hs',hp,hgood⟩:=he
      obtain ⟨g2,hle,hfp⟩:=gd.leave hgood
      exact next imm' hs' v w.heap.size hle gd.frm.size hp hfp _ w' (fr.put d v (by simpa using hn)) g2
    | panicked c=>exact he.elim
    | outgrown=>exact he.elim
end
class Vr (α:Type) where
  rep:Imm→Value→α→Prop
  mono:∀ {i j:Imm}{v:Value}{a:α},i.le j→rep i v a→rep j v a
instance:Vr Int:=⟨fun _ v a=>v=.int .i64 a,fun _ h=>h⟩
instance:Vr Bool:=⟨fun _ v a=>v=.bool a,fun _ h=>h⟩
instance:Vr Str:=⟨fun _ v a=>v=.string ⟨⟨a.l⟩⟩,fun _ h=>h⟩
instance {α:Type} [Rp α]:Vr (List α):=⟨fun i v a=>SL i v a,fun hl h=>h.mono hl⟩
def FV1 {α β:Type} [Vr α] [Vr β] (P:Program) (imm:Imm) (hsF:List HA) (v:Value) (φ:α→Option β):Prop :=
  ∃ f first cap,v=.func (.func f) ⟨first⟩ ⟨cap⟩∧callable P f=true∧∀ imm',imm.le imm'→∀ a r va,φ a=some r→Vr.rep imm' va a→Ret P f (first ++ [va] ++ cap) imm' hsF fun _ i hs' u=>hs'=hsF∧Vr.rep i u r
theorem FV1.mono {α β:Type} [Vr α] [Vr β] {P:Program}{i j:Imm}{hsF:List HA}{v:Value}{φ:α→Option β} (hl:i.le j) (h:FV1 P i hsF v φ):FV1 P j hsF v φ:=by
  obtain ⟨f,first,cap,h1,h2,h3⟩:=h;exact ⟨f,first,cap,h1,h2,fun imm' h'=>h3 imm' (hl.trans h')⟩
theorem FV1.intro {α β:Type} [Vr α] [Vr β] {P:Program}{imm:Imm}{hsF:List HA}{f:FuncId}{first cap:List Value}{φ:α→Option β} (h:∀ imm',imm.le imm'→∀ a r va,φ a=some r→Vr.rep imm' va a→Ret P f (first ++ [va] ++ cap) imm' hsF fun _ i hs' u=>hs'=hsF∧Vr.rep i u r)
    (hc:callable P f=true:=by kernel_rfl):FV1 P imm hsF (.func (.func f) ⟨first⟩ ⟨cap⟩) φ:=⟨f,first,cap,rfl,hc,h⟩
def FV2 {α β γ:Type} [Vr α] [Vr β] [Vr γ] (P:Program) (imm:Imm) (hsF:List HA) (v:Value) (φ:α→β→Option γ):Prop :=
  ∃ f first cap,v=.func (.func f) ⟨first⟩ ⟨cap⟩∧callable P f=true∧∀ imm',imm.le imm'→∀ a b r va vb,φ a b=some r→Vr.rep imm' va a→Vr.rep imm' vb b→Ret P f (first ++ [va,vb] ++ cap) imm' hsF fun _ i hs' u=>hs'=hsF∧Vr.rep i u r
theorem FV2.mono {α β γ:Type} [Vr α] [Vr β] [Vr γ] {P:Program}{i j:Imm}{hsF:List HA}{v:Value}{φ:α→β→Option γ} (hl:i.le j) (h:FV2 P i hsF v φ):FV2 P j hsF v φ:=by
  obtain ⟨f,first,cap,h1,h2,h3⟩:=h;exact ⟨f,first,cap,h1,h2,fun imm' h'=>h3 imm' (hl.trans h')⟩
theorem FV2.intro {α β γ:Type} [Vr α] [Vr β] [Vr γ] {P:Program}{imm:Imm}{hsF:List HA}{f:FuncId}{first cap:List Value}{φ:α→β→Option γ} (h:∀ imm',imm.le imm'→∀ a b r va vb,φ a b=some r→Vr.rep imm' va a→Vr.rep imm' vb b→Ret P f (first ++ [va,vb] ++ cap) imm' hsF fun _ i hs' u=>hs'=hsF∧Vr.rep i u r)
    (hc:callable P f=true:=by kernel_rfl):FV2 P imm hsF (.func (.func f) ⟨first⟩ ⟨cap⟩) φ:=⟨f,first,cap,rfl,hc,h⟩
section
variable {P:Program}{n:Nat}{B:Base}{Q:Exit→Act→World→Prop}{imm:Imm}{hs:List HA}{m:FM}{ops:List Oper}{pc d:Nat}{ty:TypeId}{pos:String}{after:Array Edge}{g:Option (Nat×Bool)}
theorem zID {α β:Type} [Vr α] [Vr β] {x y:Operand}{ts:Array TypeId}{v va:Value}{a:α}{r:β}{φ:α→Option β}{hsF rest:List HA}
    (ho:ops[pc]?=some ⟨some d,.call { callee:=.value x,args:=#[y],argTypes:=ts },ty,pos,after,g⟩) (hy:val m y=some va) (hF:FV1 P imm hsF v φ) (hr:φ a=some r) (ha:Vr.rep imm va a) (hh:hs=hsF ++ rest)
    (next:∀ imm' u,imm.le imm'→Vr.rep imm' u r→R P n B ops Q (pc + 1) imm' (hsF ++ rest) ((d,u)::m)) (hx:val m x=some v:=by kernel_rfl) (hg:guardB ops m g=some true:=by kernel_rfl) (hn:Nat.blt d n=true:=by kernel_rfl):R P n B ops Q pc imm hs m:=by
  obtain ⟨f,first,cap,rfl,hf,hc⟩:=hF
  refine zIC ho hx hf (vs:=[va]) (by simp [vals,hy]) hh (hc imm (Imm.le.refl _) a r va hr ha) ?_ hg hn
  rintro imm' hs' u k hl hk ⟨rfl,h⟩ -
  exact next imm' u hl h
theorem zKe {α β γ:Type} [Vr α] [Vr β] [Vr γ] {x y z:Operand}{ts:Array TypeId}{v va vb:Value}{a:α}{b:β}{r:γ}{φ:α→β→Option γ}{hsF rest:List HA}
    (ho:ops[pc]?=some ⟨some d,.call { callee:=.value x,args:=#[y,z],argTypes:=ts },ty,pos,after,g⟩) (hy:val m y=some va) (hz:val m z=some vb) (hF:FV2 P imm hsF v φ) (hr:φ a b=some r) (ha:Vr.rep imm va a) (hb:Vr.rep imm vb b) (hh:hs=hsF ++ rest)
    (next:∀ imm' u,imm.le imm'→Vr.rep imm' u r→R P n B ops Q (pc + 1) imm' (hsF ++ rest) ((d,u)::m)) (hx:val m x=some v:=by kernel_rfl) (hg:guardB ops m g=some true:=by kernel_rfl) (hn:Nat.blt d n=true:=by kernel_rfl):R P n B ops Q pc imm hs m:=by
  obtain ⟨f,first,cap,rfl,hf,hc⟩:=hF
  refine zIC ho hx hf (vs:=[va,vb]) (by simp [vals,hy,hz]) hh (hc imm (Imm.le.refl _) a b r va vb hr ha hb) ?_ hg hn
  rintro imm' hs' u k hl hk ⟨rfl,h⟩ -
  exact next imm' u hl h
end
end Go.LN
namespace Go.LN
theorem Good.grow {B:Base}{imm:Imm}{hs:List HA}{w:World} (h:Good B imm hs w) (k:Nat) (os:Array Obj):Good B imm hs (Sort.grow (w.drewN k) os):=by
  have h:=h.drewN k;generalize w.drewN k=w at h;have old:∀ b,b < w.heap.size→(Sort.grow w os).heap[b]?=w.heap[b]?:=fun b hb=>by
    show (w.heap ++ os)[b]?=_;rw [Array.getElem?_append_left hb]
  refine ⟨fun b c e=>?_,fun A hA=>(h.own A hA).same (fun _ _ p=>p) (fun _ _=>rfl) (fun b hb=>old b ((h.own A hA).lt hb).1),h.nodup,⟨h.frm.os,h.frm.tape,h.frm.output,?_,fun b hb hio=>?_,h.frm.imm⟩⟩
  · obtain ⟨ty,fr,e'⟩:=h.inv b c e;exact ⟨ty,fr,(old b (h.lt_imm e)).trans e'⟩
  · show _ ≤ (w.heap ++ os).size;rw [Array.size_append];exact Nat.le_trans h.frm.size (Nat.le_add_right _ _)
  · exact (old b (Nat.lt_of_lt_of_le hb h.frm.size)).trans (h.frm.heap b hb hio)
def GT (P:Program) (imm:Imm):Prop:=∃ g,P.globalNamed "internal/strconv.uint64pow10"=some g∧imm g=some (Lib.pow10Tab.map fun z=>Value.int .u64 z).toArray
def GM (P:Program) (imm:Imm):Prop:=∃ g,P.globalNamed "internal/bytealg.MaxLen"=some g∧∃ m,imm g=some #[.int .i64 m]
def GE (P:Program) (imm:Imm) (nm:String):Prop:=∃ g,P.globalNamed nm=some g∧∃ t p,imm g=some #[.iface t p]
def GH (P:Program) (imm:Imm):Prop:=GT P imm∧GM P imm∧GE P imm "strconv.ErrSyntax"∧GE P imm "strconv.ErrRange"
theorem GH.mono {P:Program}{i j:Imm} (hl:i.le j) (h:GH P i):GH P j:=by
  obtain ⟨⟨g,h1,h2⟩,⟨g3,h3,m,h4⟩,⟨g5,h5,t,p,h6⟩,⟨g7,h7,u,q,h8⟩⟩:=h;exact ⟨⟨g,h1,hl _ _ h2⟩,⟨g3,h3,m,hl _ _ h4⟩,⟨g5,h5,t,p,hl _ _ h6⟩,⟨g7,h7,u,q,hl _ _ h8⟩⟩
theorem GH.es {P:Program}{imm:Imm} (h:GH P imm):GE P imm "strconv.ErrSyntax":=h.2.2.1
theorem GH.er {P:Program}{imm:Imm} (h:GH P imm):GE P imm "strconv.ErrRange":=h.2.2.2
end Go.LN
namespace Go.LN
theorem zB6 {k:IntKind}{n:Int}:(Value.int k n).oneCell'=true:=rfl
theorem zEd {s:ByteArray}:(Value.string s).oneCell'=true:=rfl
theorem SL.one {α:Type} [Rp α] {i:Imm}{v:Value}{l:List α} (h:SL i v l):v.oneCell'=true:=by
  obtain ⟨ccs,hs,_⟩:=h;rcases hs with ⟨rfl,_⟩ | ⟨b,off,len,cap,c,rfl,_⟩ <;> rfl
structure zE where
  Name:Str
  Dims:List Int
instance:Rp zE where
  sz:=2
  pos:=by decide
  rep i cs s:=∃ v0:Value,cs=[.string ⟨⟨s.Name.l⟩⟩,v0]∧SL i v0 s.Dims
  len h:=by obtain ⟨v0,rfl,h0⟩:=h; rfl
  mono hm h:=by obtain ⟨v0,e,h0⟩:=h; exact ⟨v0,e,h0.mono hm⟩
  one h:=by obtain ⟨v0,rfl,h0⟩:=h; simp [zEd,h0.one]
theorem zAh {i:Imm}{cs:List Value}{s:zE} (h:Rp.rep i cs s):∃ v0:Value,cs=[.string ⟨⟨s.Name.l⟩⟩,v0]∧SL i v0 s.Dims:=h
theorem qG {i:Imm}{cs:List Value}{s:zE} (h:∃ v0:Value,cs=[.string ⟨⟨s.Name.l⟩⟩,v0]∧SL i v0 s.Dims):Rp.rep i cs s:=h
theorem wH {i:Imm}{cs:List Value}{s:zE} (h:Rp.rep i cs s):∃ (p0:Option Addr) (c0:Nat),cs=[.string ⟨⟨s.Name.l⟩⟩,vS p0 s.Dims c0]∧SL i (vS p0 s.Dims c0) s.Dims:=by
  obtain ⟨v0,e,h0⟩:=zAh h;obtain ⟨p0,c0,rfl⟩:=h0.form;exact ⟨p0,c0,e,h0⟩
instance:Vr zE:=⟨fun i v a=>∃ cs,v=.agg ⟨cs⟩∧Rp.rep i cs a,fun hl ⟨cs,e,h⟩=>⟨cs,e,Rp.mono hl h⟩⟩
structure zA where
  Coefs:List Int
  Const:Int
instance:Rp zA where
  sz:=2
  pos:=by decide
  rep i cs s:=∃ v0:Value,cs=[v0,.int .i64 s.Const]∧SL i v0 s.Coefs
  len h:=by obtain ⟨v0,rfl,h0⟩:=h; rfl
  mono hm h:=by obtain ⟨v0,e,h0⟩:=h; exact ⟨v0,e,h0.mono hm⟩
  one h:=by obtain ⟨v0,rfl,h0⟩:=h; simp [zB6,h0.one]
theorem zD7 {i:Imm}{cs:List Value}{s:zA} (h:Rp.rep i cs s):∃ v0:Value,cs=[v0,.int .i64 s.Const]∧SL i v0 s.Coefs:=h
theorem yQ {i:Imm}{cs:List Value}{s:zA} (h:∃ v0:Value,cs=[v0,.int .i64 s.Const]∧SL i v0 s.Coefs):Rp.rep i cs s:=h
theorem yN {i:Imm}{cs:List Value}{s:zA} (h:Rp.rep i cs s):∃ (p0:Option Addr) (c0:Nat),cs=[vS p0 s.Coefs c0,.int .i64 s.Const]∧SL i (vS p0 s.Coefs c0) s.Coefs:=by
  obtain ⟨v0,e,h0⟩:=zD7 h;obtain ⟨p0,c0,rfl⟩:=h0.form;exact ⟨p0,c0,e,h0⟩
instance:Vr zA:=⟨fun i v a=>∃ cs,v=.agg ⟨cs⟩∧Rp.rep i cs a,fun hl ⟨cs,e,h⟩=>⟨cs,e,Rp.mono hl h⟩⟩
structure zD where
  Lo:List zA
  Hi:List zA
instance:Rp zD where
  sz:=2
  pos:=by decide
  rep i cs s:=∃ v0 v1:Value,cs=[v0,v1]∧SL i v0 s.Lo∧SL i v1 s.Hi
  len h:=by obtain ⟨v0,v1,rfl,h0,h1⟩:=h; rfl
  mono hm h:=by obtain ⟨v0,v1,e,h0,h1⟩:=h; exact ⟨v0,v1,e,h0.mono hm,h1.mono hm⟩
  one h:=by obtain ⟨v0,v1,rfl,h0,h1⟩:=h; simp [h0.one,h1.one]
theorem zBB {i:Imm}{cs:List Value}{s:zD} (h:Rp.rep i cs s):∃ v0 v1:Value,cs=[v0,v1]∧SL i v0 s.Lo∧SL i v1 s.Hi:=h
theorem sV {i:Imm}{cs:List Value}{s:zD} (h:∃ v0 v1:Value,cs=[v0,v1]∧SL i v0 s.Lo∧SL i v1 s.Hi):Rp.rep i cs s:=h
theorem tP {i:Imm}{cs:List Value}{s:zD} (h:Rp.rep i cs s):∃ (p0:Option Addr) (c0:Nat) (p1:Option Addr) (c1:Nat),cs=[vS p0 s.Lo c0,vS p1 s.Hi c1]∧SL i (vS p0 s.Lo c0) s.Lo∧SL i (vS p1 s.Hi c1) s.Hi:=by
  obtain ⟨v0,v1,e,h0,h1⟩:=zBB h;obtain ⟨p0,c0,rfl⟩:=h0.form;obtain ⟨p1,c1,rfl⟩:=h1.form;exact ⟨p0,c0,p1,c1,e,h0,h1⟩
instance:Vr zD:=⟨fun i v a=>∃ cs,v=.agg ⟨cs⟩∧Rp.rep i cs a,fun hl ⟨cs,e,h⟩=>⟨cs,e,Rp.mono hl h⟩⟩
structure zJ where
  Array:Str
  Subs:List zA
instance:Rp zJ where
  sz:=2
  pos:=by decide
  rep i cs s:=∃ v0:Value,cs=[.string ⟨⟨s.Array.l⟩⟩,v0]∧SL i v0 s.Subs
  len h:=by obtain ⟨v0,rfl,h0⟩:=h; rfl
  mono hm h:=by obtain ⟨v0,e,h0⟩:=h; exact ⟨v0,e,h0.mono hm⟩
  one h:=by obtain ⟨v0,rfl,h0⟩:=h; simp [zEd,h0.one]
theorem zD8 {i:Imm}{cs:List Value}{s:zJ} (h:Rp.rep i cs s):∃ v0:Value,cs=[.string ⟨⟨s.Array.l⟩⟩,v0]∧SL i v0 s.Subs:=h
theorem oF {i:Imm}{cs:List Value}{s:zJ} (h:∃ v0:Value,cs=[.string ⟨⟨s.Array.l⟩⟩,v0]∧SL i v0 s.Subs):Rp.rep i cs s:=h
theorem pM {i:Imm}{cs:List Value}{s:zJ} (h:Rp.rep i cs s):∃ (p0:Option Addr) (c0:Nat),cs=[.string ⟨⟨s.Array.l⟩⟩,vS p0 s.Subs c0]∧SL i (vS p0 s.Subs c0) s.Subs:=by
  obtain ⟨v0,e,h0⟩:=zD8 h;obtain ⟨p0,c0,rfl⟩:=h0.form;exact ⟨p0,c0,e,h0⟩
instance:Vr zJ:=⟨fun i v a=>∃ cs,v=.agg ⟨cs⟩∧Rp.rep i cs a,fun hl ⟨cs,e,h⟩=>⟨cs,e,Rp.mono hl h⟩⟩
inductive zG where
  | mk (Kind:Int) (Num:Int) (Index:zA) (Read:zJ) (Kids:List zG)
def zG.Kind:zG→Int | .mk x _ _ _ _=>x
def zG.Num:zG→Int | .mk _ x _ _ _=>x
def zG.Index:zG→zA | .mk _ _ x _ _=>x
def zG.Read:zG→zJ | .mk _ _ _ x _=>x
def zG.Kids:zG→(List zG) | .mk _ _ _ _ x=>x
mutual
def zG.repE (i:Imm):zG→List Value→Prop
  | .mk Kind Num Index Read Kids,cs=>∃ (v0 v1 v2:Value) (ccs:List Value),cs=[.int .i64 Kind,.int .i64 Num,v0,.int .i64 Index.Const,.string ⟨⟨Read.Array.l⟩⟩,v1,v2]∧SL i v0 Index.Coefs∧SL i v1 Read.Subs∧SliceAt i v2 7 ccs∧zG.reps i Kids ccs
def zG.reps (i:Imm):List zG→List Value→Prop
  | [],cs=>cs=[]
  | e::es,cs=>∃ c1 c2,cs=c1 ++ c2∧c1.length=7∧zG.repE i e c1∧zG.reps i es c2
end
mutual
theorem zBz {i:Imm}:∀ {e:zG}{cs:List Value},zG.repE i e cs→cs.length=7
  | .mk ..,cs,h=>by simp only [zG.repE] at h; obtain ⟨v0,v1,v2,ccs,rfl,_⟩:=h; rfl
end
mutual
theorem fP {i j:Imm} (hm:i.le j):∀ {e:zG}{cs:List Value},zG.repE i e cs→zG.repE j e cs
  | .mk ..,cs,h=>by
    simp only [zG.repE] at h ⊢
    obtain ⟨v0,v1,v2,ccs,e,k0,k1,ha,hb⟩:=h
    exact ⟨v0,v1,v2,ccs,e,k0.mono hm,k1.mono hm,ha.mono hm,fQ hm hb⟩
theorem fQ {i j:Imm} (hm:i.le j):∀ {es:List zG}{cs:List Value},zG.reps i es cs→zG.reps j es cs
  | [],cs,h=>by simpa [zG.reps] using h
  | e::es,cs,h=>by
    simp only [zG.reps] at h ⊢
    obtain ⟨c1,c2,h1,h2,h3,h4⟩:=h
    exact ⟨c1,c2,h1,h2,fP hm h3,fQ hm h4⟩
end
theorem mK {i:Imm}:∀ {es:List zG}{cs:List Value},zG.reps i es cs ↔ RepL (fun c e=>zG.repE i e c) 7 cs es
  | [],cs=>by simp [zG.reps,RepL]
  | e::es,cs=>by
    simp only [zG.reps,RepL]
    constructor
    · rintro ⟨c1,c2,h1,h2,h3,h4⟩; exact ⟨c1,c2,h1,h2,h3,mK.1 h4⟩
    · rintro ⟨c1,c2,h1,h2,h3,h4⟩; exact ⟨c1,c2,h1,h2,h3,mK.2 h4⟩
theorem SliceAt.one {i:Imm}{v:Value}{sz:Nat}{cs:List Value} (hs:SliceAt i v sz cs):v.oneCell'=true:=by
  rcases hs with ⟨rfl,_⟩ | ⟨b,off,len,cap,c,rfl,_⟩ <;> rfl
theorem zCA {i:Imm}:∀ {e:zG}{cs:List Value},zG.repE i e cs→∀ v ∈ cs,v.oneCell'=true
  | .mk ..,cs,h=>by
    simp only [zG.repE] at h
    obtain ⟨v0,v1,v2,ccs,rfl,k0,k1,ha,_⟩:=h
    simp [zB6,zEd,k0.one,k1.one,ha.one]
instance:Rp zG where
  sz:=7
  pos:=by decide
  rep i cs e:=zG.repE i e cs
  len h:=zBz h
  mono hm h:=fP hm h
  one h:=zCA h
theorem zEv {i:Imm}{cs:List Value}{s:zG} (h:Rp.rep i cs s):∃ v0 v1 v2:Value,cs=[.int .i64 s.Kind,.int .i64 s.Num,v0,.int .i64 s.Index.Const,.string ⟨⟨s.Read.Array.l⟩⟩,v1,v2]∧SL i v0 s.Index.Coefs∧SL i v1 s.Read.Subs∧SL i v2 s.Kids:=by
  obtain ⟨Kind,Num,Index,Read,Kids⟩:=s;have h:zG.repE i _ cs:=h;simp only [zG.repE] at h;obtain ⟨v0,v1,v2,ccs,e,k0,k1,ha,hb⟩:=h;exact ⟨v0,v1,v2,e,k0,k1,⟨ccs,ha,mK.1 hb⟩⟩
theorem xX {i:Imm}{cs:List Value}{s:zG} (h:∃ v0 v1 v2:Value,cs=[.int .i64 s.Kind,.int .i64 s.Num,v0,.int .i64 s.Index.Const,.string ⟨⟨s.Read.Array.l⟩⟩,v1,v2]∧SL i v0 s.Index.Coefs∧SL i v1 s.Read.Subs∧SL i v2 s.Kids):Rp.rep i cs s:=by
  obtain ⟨Kind,Num,Index,Read,Kids⟩:=s;show zG.repE i _ cs;simp only [zG.repE];obtain ⟨v0,v1,v2,e,k0,k1,⟨ccs,ha,hb⟩⟩:=h;exact ⟨v0,v1,v2,ccs,e,k0,k1,ha,mK.2 hb⟩
theorem xV {i:Imm}{cs:List Value}{s:zG} (h:Rp.rep i cs s):∃ (p0:Option Addr) (c0:Nat) (p1:Option Addr) (c1:Nat) (p2:Option Addr) (c2:Nat),cs=[.int .i64 s.Kind,.int .i64 s.Num,vS p0 s.Index.Coefs c0,.int .i64 s.Index.Const,.string ⟨⟨s.Read.Array.l⟩⟩,vS p1 s.Read.Subs c1,vS p2 s.Kids c2]∧SL i (vS p0 s.Index.Coefs c0) s.Index.Coefs∧SL i (vS p1 s.Read.Subs c1) s.Read.Subs∧SL i (vS p2 s.Kids c2) s.Kids:=by
  obtain ⟨v0,v1,v2,e,h0,h1,h2⟩:=zEv h;obtain ⟨p0,c0,rfl⟩:=h0.form;obtain ⟨p1,c1,rfl⟩:=h1.form;obtain ⟨p2,c2,rfl⟩:=h2.form;exact ⟨p0,c0,p1,c1,p2,c2,e,h0,h1,h2⟩
instance:Vr zG:=⟨fun i v a=>∃ cs,v=.agg ⟨cs⟩∧Rp.rep i cs a,fun hl ⟨cs,e,h⟩=>⟨cs,e,Rp.mono hl h⟩⟩
structure zI where
  Write:zJ
  Value:zG
instance:Rp zI where
  sz:=9
  pos:=by decide
  rep i cs s:=∃ v0 v1 v2 v3:Value,cs=[.string ⟨⟨s.Write.Array.l⟩⟩,v0,.int .i64 s.Value.Kind,.int .i64 s.Value.Num,v1,.int .i64 s.Value.Index.Const,.string ⟨⟨s.Value.Read.Array.l⟩⟩,v2,v3]∧SL i v0 s.Write.Subs∧SL i v1 s.Value.Index.Coefs∧SL i v2 s.Value.Read.Subs∧SL i v3 s.Value.Kids
  len h:=by obtain ⟨v0,v1,v2,v3,rfl,h0,h1,h2,h3⟩:=h; rfl
  mono hm h:=by obtain ⟨v0,v1,v2,v3,e,h0,h1,h2,h3⟩:=h; exact ⟨v0,v1,v2,v3,e,h0.mono hm,h1.mono hm,h2.mono hm,h3.mono hm⟩
  one h:=by obtain ⟨v0,v1,v2,v3,rfl,h0,h1,h2,h3⟩:=h; simp [zEd,zB6,h0.one,h1.one,h2.one,h3.one]
theorem pO {i:Imm}{cs:List Value}{s:zI} (h:Rp.rep i cs s):∃ v0 v1 v2 v3:Value,cs=[.string ⟨⟨s.Write.Array.l⟩⟩,v0,.int .i64 s.Value.Kind,.int .i64 s.Value.Num,v1,.int .i64 s.Value.Index.Const,.string ⟨⟨s.Value.Read.Array.l⟩⟩,v2,v3]∧SL i v0 s.Write.Subs∧SL i v1 s.Value.Index.Coefs∧SL i v2 s.Value.Read.Subs∧SL i v3 s.Value.Kids:=h
theorem wM {i:Imm}{cs:List Value}{s:zI} (h:∃ v0 v1 v2 v3:Value,cs=[.string ⟨⟨s.Write.Array.l⟩⟩,v0,.int .i64 s.Value.Kind,.int .i64 s.Value.Num,v1,.int .i64 s.Value.Index.Const,.string ⟨⟨s.Value.Read.Array.l⟩⟩,v2,v3]∧SL i v0 s.Write.Subs∧SL i v1 s.Value.Index.Coefs∧SL i v2 s.Value.Read.Subs∧SL i v3 s.Value.Kids):Rp.rep i cs s:=h
theorem tQ {i:Imm}{cs:List Value}{s:zI} (h:Rp.rep i cs s):∃ (p0:Option Addr) (c0:Nat) (p1:Option Addr) (c1:Nat) (p2:Option Addr) (c2:Nat) (p3:Option Addr) (c3:Nat),cs=[.string ⟨⟨s.Write.Array.l⟩⟩,vS p0 s.Write.Subs c0,.int .i64 s.Value.Kind,.int .i64 s.Value.Num,vS p1 s.Value.Index.Coefs c1,.int .i64 s.Value.Index.Const,.string ⟨⟨s.Value.Read.Array.l⟩⟩,vS p2 s.Value.Read.Subs c2,vS p3 s.Value.Kids c3]∧SL i (vS p0 s.Write.Subs c0) s.Write.Subs∧SL i (vS p1 s.Value.Index.Coefs c1) s.Value.Index.Coefs∧SL i (vS p2 s.Value.Read.Subs c2) s.Value.Read.Subs∧SL i (vS p3 s.Value.Kids c3) s.Value.Kids:=by
  obtain ⟨v0,v1,v2,v3,e,h0,h1,h2,h3⟩:=pO h;obtain ⟨p0,c0,rfl⟩:=h0.form;obtain ⟨p1,c1,rfl⟩:=h1.form;obtain ⟨p2,c2,rfl⟩:=h2.form;obtain ⟨p3,c3,rfl⟩:=h3.form;exact ⟨p0,c0,p1,c1,p2,c2,p3,c3,e,h0,h1,h2,h3⟩
instance:Vr zI:=⟨fun i v a=>∃ cs,v=.agg ⟨cs⟩∧Rp.rep i cs a,fun hl ⟨cs,e,h⟩=>⟨cs,e,Rp.mono hl h⟩⟩
structure zN where
  Nest:List zD
  Body:List zI
instance:Rp zN where
  sz:=2
  pos:=by decide
  rep i cs s:=∃ v0 v1:Value,cs=[v0,v1]∧SL i v0 s.Nest∧SL i v1 s.Body
  len h:=by obtain ⟨v0,v1,rfl,h0,h1⟩:=h; rfl
  mono hm h:=by obtain ⟨v0,v1,e,h0,h1⟩:=h; exact ⟨v0,v1,e,h0.mono hm,h1.mono hm⟩
  one h:=by obtain ⟨v0,v1,rfl,h0,h1⟩:=h; simp [h0.one,h1.one]
theorem zEw {i:Imm}{cs:List Value}{s:zN} (h:Rp.rep i cs s):∃ v0 v1:Value,cs=[v0,v1]∧SL i v0 s.Nest∧SL i v1 s.Body:=h
theorem rS {i:Imm}{cs:List Value}{s:zN} (h:∃ v0 v1:Value,cs=[v0,v1]∧SL i v0 s.Nest∧SL i v1 s.Body):Rp.rep i cs s:=h
theorem wT {i:Imm}{cs:List Value}{s:zN} (h:Rp.rep i cs s):∃ (p0:Option Addr) (c0:Nat) (p1:Option Addr) (c1:Nat),cs=[vS p0 s.Nest c0,vS p1 s.Body c1]∧SL i (vS p0 s.Nest c0) s.Nest∧SL i (vS p1 s.Body c1) s.Body:=by
  obtain ⟨v0,v1,e,h0,h1⟩:=zEw h;obtain ⟨p0,c0,rfl⟩:=h0.form;obtain ⟨p1,c1,rfl⟩:=h1.form;exact ⟨p0,c0,p1,c1,e,h0,h1⟩
instance:Vr zN:=⟨fun i v a=>∃ cs,v=.agg ⟨cs⟩∧Rp.rep i cs a,fun hl ⟨cs,e,h⟩=>⟨cs,e,Rp.mono hl h⟩⟩
structure zK where
  Arrays:List zE
  Parts:List zN
instance:Rp zK where
  sz:=2
  pos:=by decide
  rep i cs s:=∃ v0 v1:Value,cs=[v0,v1]∧SL i v0 s.Arrays∧SL i v1 s.Parts
  len h:=by obtain ⟨v0,v1,rfl,h0,h1⟩:=h; rfl
  mono hm h:=by obtain ⟨v0,v1,e,h0,h1⟩:=h; exact ⟨v0,v1,e,h0.mono hm,h1.mono hm⟩
  one h:=by obtain ⟨v0,v1,rfl,h0,h1⟩:=h; simp [h0.one,h1.one]
theorem zCf {i:Imm}{cs:List Value}{s:zK} (h:Rp.rep i cs s):∃ v0 v1:Value,cs=[v0,v1]∧SL i v0 s.Arrays∧SL i v1 s.Parts:=h
theorem wZ {i:Imm}{cs:List Value}{s:zK} (h:∃ v0 v1:Value,cs=[v0,v1]∧SL i v0 s.Arrays∧SL i v1 s.Parts):Rp.rep i cs s:=h
theorem pS {i:Imm}{cs:List Value}{s:zK} (h:Rp.rep i cs s):∃ (p0:Option Addr) (c0:Nat) (p1:Option Addr) (c1:Nat),cs=[vS p0 s.Arrays c0,vS p1 s.Parts c1]∧SL i (vS p0 s.Arrays c0) s.Arrays∧SL i (vS p1 s.Parts c1) s.Parts:=by
  obtain ⟨v0,v1,e,h0,h1⟩:=zCf h;obtain ⟨p0,c0,rfl⟩:=h0.form;obtain ⟨p1,c1,rfl⟩:=h1.form;exact ⟨p0,c0,p1,c1,e,h0,h1⟩
instance:Vr zK:=⟨fun i v a=>∃ cs,v=.agg ⟨cs⟩∧Rp.rep i cs a,fun hl ⟨cs,e,h⟩=>⟨cs,e,Rp.mono hl h⟩⟩
structure zS where
  Part:Int
  Stmt:Int
  Point:List Int
instance:Rp zS where
  sz:=3
  pos:=by decide
  rep i cs s:=∃ v0:Value,cs=[.int .i64 s.Part,.int .i64 s.Stmt,v0]∧SL i v0 s.Point
  len h:=by obtain ⟨v0,rfl,h0⟩:=h; rfl
  mono hm h:=by obtain ⟨v0,e,h0⟩:=h; exact ⟨v0,e,h0.mono hm⟩
  one h:=by obtain ⟨v0,rfl,h0⟩:=h; simp [zB6,h0.one]
theorem zCB {i:Imm}{cs:List Value}{s:zS} (h:Rp.rep i cs s):∃ v0:Value,cs=[.int .i64 s.Part,.int .i64 s.Stmt,v0]∧SL i v0 s.Point:=h
theorem eA {i:Imm}{cs:List Value}{s:zS} (h:∃ v0:Value,cs=[.int .i64 s.Part,.int .i64 s.Stmt,v0]∧SL i v0 s.Point):Rp.rep i cs s:=h
theorem oG {i:Imm}{cs:List Value}{s:zS} (h:Rp.rep i cs s):∃ (p0:Option Addr) (c0:Nat),cs=[.int .i64 s.Part,.int .i64 s.Stmt,vS p0 s.Point c0]∧SL i (vS p0 s.Point c0) s.Point:=by
  obtain ⟨v0,e,h0⟩:=zCB h;obtain ⟨p0,c0,rfl⟩:=h0.form;exact ⟨p0,c0,e,h0⟩
instance:Vr zS:=⟨fun i v a=>∃ cs,v=.agg ⟨cs⟩∧Rp.rep i cs a,fun hl ⟨cs,e,h⟩=>⟨cs,e,Rp.mono hl h⟩⟩
structure zO where
  b:List UInt8
  p:Int
instance:Rp zO where
  sz:=2
  pos:=by decide
  rep i cs s:=∃ v0:Value,cs=[v0,.int .i64 s.p]∧SL i v0 s.b
  len h:=by obtain ⟨v0,rfl,h0⟩:=h; rfl
  mono hm h:=by obtain ⟨v0,e,h0⟩:=h; exact ⟨v0,e,h0.mono hm⟩
  one h:=by obtain ⟨v0,rfl,h0⟩:=h; simp [zB6,h0.one]
theorem jQ {i:Imm}{cs:List Value}{s:zO} (h:Rp.rep i cs s):∃ v0:Value,cs=[v0,.int .i64 s.p]∧SL i v0 s.b:=h
theorem yR {i:Imm}{cs:List Value}{s:zO} (h:∃ v0:Value,cs=[v0,.int .i64 s.p]∧SL i v0 s.b):Rp.rep i cs s:=h
theorem yE {i:Imm}{cs:List Value}{s:zO} (h:Rp.rep i cs s):∃ (p0:Option Addr) (c0:Nat),cs=[vS p0 s.b c0,.int .i64 s.p]∧SL i (vS p0 s.b c0) s.b:=by
  obtain ⟨v0,e,h0⟩:=jQ h;obtain ⟨p0,c0,rfl⟩:=h0.form;exact ⟨p0,c0,e,h0⟩
instance:Vr zO:=⟨fun i v a=>∃ cs,v=.agg ⟨cs⟩∧Rp.rep i cs a,fun hl ⟨cs,e,h⟩=>⟨cs,e,Rp.mono hl h⟩⟩
structure tR where
  nest:List zD
  steps:Int
  out:List (List Int)
instance:Rp tR where
  sz:=3
  pos:=by decide
  rep i cs s:=∃ v0 v1:Value,cs=[v0,.int .i64 s.steps,v1]∧SL i v0 s.nest∧SL i v1 s.out
  len h:=by obtain ⟨v0,v1,rfl,h0,h1⟩:=h; rfl
  mono hm h:=by obtain ⟨v0,v1,e,h0,h1⟩:=h; exact ⟨v0,v1,e,h0.mono hm,h1.mono hm⟩
  one h:=by obtain ⟨v0,v1,rfl,h0,h1⟩:=h; simp [zB6,h0.one,h1.one]
instance:Vr tR:=⟨fun i v a=>∃ cs,v=.agg ⟨cs⟩∧Rp.rep i cs a,fun hl ⟨cs,e,h⟩=>⟨cs,e,Rp.mono hl h⟩⟩
end Go.LN
namespace Go.LN
section
variable {P:Program}{n:Nat}{B:Base}{ops:List Oper}{Q:Exit→Act→World→Prop}{pc:Nat}{imm:Imm}{hs:List HA}{m:FM}{d:Nat}
  {ty:TypeId}{pos:String}{after:Array Edge}{g:Option (Nat×Bool)}
theorem xT {f:FuncId}{x:Operand}{xs:Array Operand}{ts:Array TypeId}{vs:List Value}{post:Nat→Imm→List HA→Value→Prop}
    (hc:Ret P f vs imm [] post)
    (next:∀ imm' hs' v k,imm.le imm'→B.w0.heap.size ≤ k→post k imm' hs' v→(∀ b ∈ hs'.flatMap HA.fp,b ∈ ([]:List HA).flatMap HA.fp∨B.w0.heap.size ≤ b)→R P n B ops Q (pc + 1) imm' (hs' ++ hs) ((d,v)::m))
    (ho:ops[pc]?=some ⟨some d,.call { callee:=.value x,args:=xs,argTypes:=ts },ty,pos,after,g⟩:=by rfl) (hg:guardB ops m g=some true:=by rfl) (hn:Nat.blt d n=true:=by rfl) (hx:val m x=some (.func (.func f) #[] #[]):=by rfl) (hf:callable P f=true:=by kernel_rfl)
    (hvs:vals m xs.toList=some vs:=by rfl):R P n B ops Q pc imm hs m :=
  zD1 (hs1:=[]) (rest:=hs) ho hg hn hx hf hvs rfl hc next
theorem tM {f:FuncId}{x:Operand}{xs:Array Operand}{ts:Array TypeId}{vs:List Value} (hs1 rest:List HA) {post:Nat→Imm→List HA→Value→Prop}
    (hc:Ret P f vs imm hs1 post)
    (next:∀ imm' hs' v k,imm.le imm'→B.w0.heap.size ≤ k→post k imm' hs' v→(∀ b ∈ hs'.flatMap HA.fp,b ∈ hs1.flatMap HA.fp∨B.w0.heap.size ≤ b)→R P n B ops Q (pc + 1) imm' (hs' ++ rest) ((d,v)::m))
    (ho:ops[pc]?=some ⟨some d,.call { callee:=.value x,args:=xs,argTypes:=ts },ty,pos,after,g⟩:=by rfl) (hg:guardB ops m g=some true:=by rfl) (hn:Nat.blt d n=true:=by rfl) (hx:val m x=some (.func (.func f) #[] #[]):=by rfl) (hf:callable P f=true:=by kernel_rfl)
    (hvs:vals m xs.toList=some vs:=by rfl) (hh:hs=hs1 ++ rest:=by rfl):R P n B ops Q pc imm hs m :=
  zD1 (hs1:=hs1) (rest:=rest) ho hg hn hx hf hvs hh hc next
theorem zB9 (m':FM) (h:R P n B ops Q pc imm hs m') (hk:keep m (m'.map (·.1))=some m':=by kernel_rfl):R P n B ops Q pc imm hs m:=gA (zAA hk) h
theorem xY (cs:List Value) (α:Type) [Rp α] {t len:Nat}{parts:Array (Nat×Operand)}{ps:List (Nat×Value)}
    (next:∀ b,B.w0.heap.size ≤ b→R P n B ops Q (pc + 1) imm (.osl (.slice (some ⟨b,0,none⟩) len len) (Rp.sz α) cs::hs) ((d,.slice (some ⟨b,0,none⟩) len len)::m))
    (ho:ops[pc]?=some ⟨some d,.buildSlice t len parts,ty,pos,after,g⟩:=by rfl) (hg:guardB ops m g=some true:=by rfl) (hn:Nat.blt d n=true:=by rfl) (hps:pvals m parts.toList=some ps:=by rfl) (hc:elemZ P t len ps=some ⟨cs⟩:=by kernel_rfl) (hl:Nat.beq cs.length (len * Rp.sz α)=true:=by kernel_rfl)
    (hlM:Nat.ble len 9223372036854775807=true:=by rfl):R P n B ops Q pc imm hs m :=
  zGZ (cs:=cs) (Rp.sz α) ho hg hn hps hc hl next hlM
theorem wR (c:List Value) {t:TypeId}
    (next:∀ b,B.w0.heap.size ≤ b→R P n B ops Q (pc + 1) imm (.blk b ⟨c⟩::hs) ((d,.pointer (some ⟨b,0,none⟩))::m))
    (ho:ops[pc]?=some ⟨some d,.alloc t,ty,pos,after,g⟩:=by rfl) (hg:guardB ops m g=some true:=by rfl) (hn:Nat.blt d n=true:=by rfl) (hz:zeroC P t=some ⟨c⟩:=by kernel_rfl):R P n B ops Q pc imm hs m :=
  zJ8 (c:=⟨c⟩) ho hg hn hz next
theorem uD (c:List Value) {t:TypeId}{x:Operand}{v:Value}
    (next:∀ b,B.w0.heap.size ≤ b→R P n B ops Q (pc + 1) imm (.blk b ⟨c⟩::hs) ((d,.pointer (some ⟨b,0,none⟩))::m))
    (ho:ops[pc]?=some ⟨some d,.box t x,ty,pos,after,g⟩:=by rfl) (hg:guardB ops m g=some true:=by rfl) (hn:Nat.blt d n=true:=by rfl) (hx:val m x=some v:=by rfl) (hc:v.cells=⟨c⟩:=by rfl):R P n B ops Q pc imm hs m :=
  zK6 (c:=⟨c⟩) ho hg hn hx hc next
theorem yM {its:List It}{gs:List (List HA)}{N:Nat}{l:List (Nat×Bool)}{ops':List Oper}{pc:Nat} (m2:FM) (h:R P n B ops' Q pc imm hs m2)
    (hi:(insM ops its l m).bind (fun m1=>keep m1 (m2.map (·.1)))=some m2:=by kernel_rfl):Ins ops (factsOf N its gs) imm l m hs fun m' hs'=>R P n B ops' Q pc imm hs' m':=by
  obtain ⟨m1,h1,h2⟩:=Option.bind_eq_some_iff.1 hi
  refine zCd (fun j it hj=>?_) h1 (gA (zAA h2) h)
  have hlt:=(List.getElem?_eq_some_iff.1 hj).1
  unfold factsOf
  rw [List.getD_eq_getElem?_getD,List.getElem?_append_left (by rw [List.length_map]; exact hlt),List.getElem?_map,hj]
  rfl
theorem yS {ops':List Oper}{pc d0:Nat}{φi:Fact}{imm1:Imm}{v:Value} (hle:imm1.le imm) (h0:ops'.drop pc=[]:=by rfl) (hd:look m d0=some v:=by rfl) (hφ:φi imm v []:=by exact ⟨rfl,rfl⟩):R P n B ops' (OutQ n B φi (some d0) imm1 hs) pc imm hs m :=
  zEp (hx:=[]) h0 hle rfl (fun _ e=>by cases e; exact hd) hφ
theorem zJv {f:FuncId}{fn:Func}{args:List Value}{post:Nat→Imm→List HA→Value→Prop} (hf:P.funcs[f]?=some fn) (h:∀ B:Base,J P fn.ntmps B (bodyOf fn) (QB P fn B post) imm hs (argm 0 args))
    (hb:fn.body=some (bodyOf fn):=by rfl) (hn:Nat.ble args.length fn.ntmps=true:=by rfl):Ret P f args imm hs post:=zY hf hb hn fun B _ _=>h B
theorem yO (hx:List HA) {ops':List Oper}{pc d0:Nat}{φi:Fact}{imm1:Imm}{hs0:List HA}{v:Value} (hle:imm1.le imm) (hφ:φi imm v hx) (h0:ops'.drop pc=[]:=by rfl) (hh:hs=hx ++ hs0:=by rfl) (hd:look m d0=some v:=by rfl):R P n B ops' (OutQ n B φi (some d0) imm1 hs0) pc imm hs m :=
  zEp (hx:=hx) h0 hle hh (fun _ e=>by cases e; exact hd) hφ
theorem yK {id:Nat}{ops:List Oper}{y:Code} (h:R P n B ops (Exit.then (y.wp P Q) Q) 0 imm hs m):J P n B ((Code.region id ops.toArray false).seq y) Q imm hs m:=yG (zQ h)
theorem yI {x y:Code} (h:J P n B x (Exit.then (y.wp P Q) Q) imm hs m):T n B (Exit.then ((x.seq y).wp P Q) Q) .normal imm hs m:=zM (yG h)
theorem xD {id:Nat}{ops:List Oper}{y:Code} (h:R P n B ops (Exit.then (y.wp P Q) Q) 0 imm hs m):T n B (Exit.then (((Code.region id ops.toArray false).seq y).wp P Q) Q) .normal imm hs m:=zM (yK h)
theorem yF {id:Nat}{ops:List Oper}{y:Code} (new:FM) (hR:T n B (Exit.then (y.wp P Q) Q) .normal imm hs (new ++ m)) (h:runD P n ops hs 0 ops.length [] (new.map (·.1)) m=some (new,[].map (blkAt hs)):=by kernel_rfl):J P n B ((Code.region id ops.toArray false).seq y) Q imm hs m:=yK (yC [] new hR h)
theorem vH {id:Nat}{ops:List Oper}{y:Code} (new:FM) (hR:T n B (Exit.then (y.wp P Q) Q) .normal imm hs (new ++ m)) (h:runD P n ops hs 0 ops.length [] (new.map (·.1)) m=some (new,[].map (blkAt hs)):=by kernel_rfl):T n B (Exit.then (((Code.region id ops.toArray false).seq y).wp P Q) Q) .normal imm hs m:=zM (yF new hR h)
theorem wN {fn:Func}{post:Nat→Imm→List HA→Value→Prop}{v:Value} (h1:ResV P m hs fn.results.toList [v]:=by exact .tmp rfl ResV.nil) (h2:post B.w0.heap.size imm [] (tupV [v]):=by exact ⟨_,rfl,rfl,rfl⟩):T n B (QB P fn B post) .ret imm hs m:=xC ⟨_,_,h1,zR,h2⟩
theorem gB {f:FuncId}{x:Operand}{xs:Array Operand}{ts:Array TypeId}{vs:List Value}{r:Int}
    (hc:Ret P f vs imm [] fun _ _ hs' v=>∃ v0,hs'=[]∧v=tupV [v0]∧v0=.int .i64 r)
    (next:∀ imm',imm.le imm'→R P n B ops Q (pc + 1) imm' hs ((d,vI r)::m))
    (ho:ops[pc]?=some ⟨some d,.call { callee:=.value x,args:=xs,argTypes:=ts },ty,pos,after,g⟩:=by rfl) (hg:guardB ops m g=some true:=by rfl) (hn:Nat.blt d n=true:=by rfl) (hx:val m x=some (.func (.func f) #[] #[]):=by rfl) (hf:callable P f=true:=by kernel_rfl)
    (hvs:vals m xs.toList=some vs:=by rfl):R P n B ops Q pc imm hs m :=
  xT hc (fun imm' hs' v k h1 _ h3 _=>by obtain ⟨v0,rfl,rfl,rfl⟩:=h3; exact next imm' h1) ho hg hn hx hf hvs
theorem vJ {f:FuncId}{x:Operand}{xs:Array Operand}{ts:Array TypeId}{vs:List Value}{r:Bool}
    (hc:Ret P f vs imm [] fun _ _ hs' v=>∃ v0,hs'=[]∧v=tupV [v0]∧v0=.bool r)
    (next:∀ imm',imm.le imm'→R P n B ops Q (pc + 1) imm' hs ((d,.bool r)::m))
    (ho:ops[pc]?=some ⟨some d,.call { callee:=.value x,args:=xs,argTypes:=ts },ty,pos,after,g⟩:=by rfl) (hg:guardB ops m g=some true:=by rfl) (hn:Nat.blt d n=true:=by rfl) (hx:val m x=some (.func (.func f) #[] #[]):=by rfl) (hf:callable P f=true:=by kernel_rfl)
    (hvs:vals m xs.toList=some vs:=by rfl):R P n B ops Q pc imm hs m :=
  xT hc (fun imm' hs' v k h1 _ h3 _=>by obtain ⟨v0,rfl,rfl,rfl⟩:=h3; exact next imm' h1) ho hg hn hx hf hvs
theorem vW {id:Nat}{K1 K2:Act→World→Prop} (h:T n B Q (.exit id) imm hs m):J P n B (.exit id) (Exit.then K1 (Exit.then K2 Q)) imm hs m:=zEj (kJ (kJ h))
theorem xG (h:T n B Q .ret imm hs m):T n B (Exit.then ((Code.ret).wp P Q) Q) .normal imm hs m:=zM (yX h)
theorem wO {id:Nat}{c:Code} (h:J P n B c (Exit.inBlock id Q) imm hs m):T n B (Exit.then ((Code.block id c).wp P Q) Q) .normal imm hs m:=zM (yP h)
theorem yB (is:List Nat) {hs':List HA} (h:pick hs is=some hs':=by rfl) (hn:is.Nodup:=by decide):∀ w,Good B imm hs w→Good B imm hs' w:=yA is h hn
end
theorem bE {α β:Type}{o:Option α}{f:α→Option β}{r:β}{G:Prop} (h:(o >>= f)=some r) (k:∀ x,o=some x→f x=some r→G):G:=by
  obtain ⟨x,h1,h2⟩:=zB h;exact k x h1 h2
theorem ct {α:Type}{o t:α}{P1:Prop}{P2 P3:α→Prop} (hM:(pure t:Option α)=some o) (H:P1) (h2:P2 t:=by rfl) (h3:P3 t:=by rfl):∃ t',o=t'∧P1∧P2 t'∧P3 t':=⟨t,(zC hM).symm,H,h2,h3⟩
abbrev NG (Q:Exit→Act→World→Prop):Prop:=∀ gl a w,¬Q (.goto gl) a w
abbrev NO (Q:Exit→Act→World→Prop):Prop:=∀ a w,¬Q .outgrown a w
abbrev cStmt (x:zI) (p0:Option Addr) (c0:Nat) (p1:Option Addr) (c1:Nat) (p2:Option Addr) (c2:Nat) (p3:Option Addr) (c3:Nat):List Value:=[vT x.Write.Array.l,vS p0 x.Write.Subs c0,vI x.Value.Kind,vI x.Value.Num,vS p1 x.Value.Index.Coefs c1,vI x.Value.Index.Const,vT x.Value.Read.Array.l,vS p2 x.Value.Read.Subs c2,vS p3 x.Value.Kids c3]
abbrev cExpr (x:zG) (p0:Option Addr) (c0:Nat) (p1:Option Addr) (c1:Nat) (p2:Option Addr) (c2:Nat):List Value:=[vI x.Kind,vI x.Num,vS p0 x.Index.Coefs c0,vI x.Index.Const,vT x.Read.Array.l,vS p1 x.Read.Subs c1,vS p2 x.Kids c2]
abbrev cAccess (x:zJ) (p0:Option Addr) (c0:Nat):List Value:=[vT x.Array.l,vS p0 x.Subs c0]
abbrev cAff (x:zA) (p0:Option Addr) (c0:Nat):List Value:=[vS p0 x.Coefs c0,vI x.Const]
abbrev cLoop (x:zD) (p0:Option Addr) (c0:Nat) (p1:Option Addr) (c1:Nat):List Value:=[vS p0 x.Lo c0,vS p1 x.Hi c1]
abbrev cPart (x:zN) (p0:Option Addr) (c0:Nat) (p1:Option Addr) (c1:Nat):List Value:=[vS p0 x.Nest c0,vS p1 x.Body c1]
abbrev cProg (x:zK) (p0:Option Addr) (c0:Nat) (p1:Option Addr) (c1:Nat):List Value:=[vS p0 x.Arrays c0,vS p1 x.Parts c1]
abbrev cArr (x:zE) (p0:Option Addr) (c0:Nat):List Value:=[vT x.Name.l,vS p0 x.Dims c0]
abbrev cRd (x:zO) (p0:Option Addr) (c0:Nat):List Value:=[vS p0 x.b c0,vI x.p]
abbrev cInst (x:zS) (p0:Option Addr) (c0:Nat):List Value:=[vI x.Part,vI x.Stmt,vS p0 x.Point c0]
abbrev zExpr:List Value:=[vI 0,vI 0,.slice none 0 0,vI 0,vT ([]),.slice none 0 0,.slice none 0 0]
abbrev zTwo:List Value:=[.slice none 0 0,.slice none 0 0]
abbrev z0:Value:=.slice none 0 0
abbrev vF:Value:=.bool false
abbrev vY:Value:=.bool true
abbrev KT:=Nat→Imm→List HA→Value→Prop
theorem iS (i:Imm):i.le i:=Imm.le.refl i
theorem iR {i:Imm}:i.le i:=Imm.le.refl i
theorem iM {α:Type} [Rp α] {i j:Imm} (h:i.le j) {l:List α}{cs:List Value} (hr:RL i cs l):RL j cs l:=RepL.mono (fun _ _=>Rp.mono h) hr
abbrev S4 {α:Type} [Rp α] (imm:Imm) (p:Option Addr) (l:List α) (c:Nat):Prop:=SL imm (vS p l c) l
end Go.LN
namespace Go.LN
theorem rB {x:Int} (h0:-9223372036854775808 ≤ x) (h1:x ≤ 9223372036854775807):W x=x:=by
  show IntKind.i64.wrap x=x;rw [IntKind.wrap_i64]; omega
theorem zB7 {α:Type} (l:List α) (k:Nat):idx l (k:Int)=l[k]?:=by
  unfold idx;simp
theorem zEx {k:Nat} (h:k < 9223372036854775807):W ((k:Int) + 1)=((k + 1:Nat):Int):=by
  rw [rB (by omega) (by omega)]; omega
end Go.LN
namespace Go.LN
structure Raw2 where
  a:Value
  b:Value
instance:Rp Raw2 where
  sz:=2
  pos:=by decide
  rep _ cs r:=cs=[r.a,r.b]∧r.a.oneCell'=true∧r.b.oneCell'=true
  len h:=by obtain ⟨rfl,_⟩:=h; rfl
  mono _ h:=h
  one h:=by obtain ⟨rfl,h1,h2⟩:=h; simp [h1,h2]
def flat:List Raw2→List Value
  | []=>[]
  | r::l=>r.a::r.b::flat l
theorem eY:∀ (a b:List Raw2),flat (a ++ b)=flat a ++ flat b
  | [],_=>rfl
  | r::a,b=>by simp [flat,eY a b]
theorem mW {imm:Imm}:∀ {l:List Raw2}{cs:List Value},RL imm cs l→cs=flat l
  | [],cs,h=>h
  | r::l,cs,⟨c1,c2,h1,_,h3,h4⟩=>by
    obtain ⟨rfl,_⟩:=h3
    rw [h1,mW h4]; rfl
def LP (imm:Imm) (raws:List Raw2) (parts:List zN) (vN:Value) (nl:List zD) (vB:Value) (bl:List zI):Prop :=
  parts.length ≤ 140737488355328∧raws.length=parts.length ∧
    ((parts=[]∧raws=[])∨∃ rl l,parts=l ++ [⟨nl,bl⟩]∧raws=rl ++ [⟨vN,vB⟩]∧RepL (Rp.rep imm) (Rp.sz zN) (flat rl) l)
theorem LP.mono {i j:Imm} (hl:i.le j) {raws:List Raw2}{parts:List zN}{vN vB:Value}{nl:List zD}{bl:List zI} (h:LP i raws parts vN nl vB bl):LP j raws parts vN nl vB bl:=by
  obtain ⟨h1,h2,h3⟩:=h;refine ⟨h1,h2,h3.imp id ?_⟩;rintro ⟨rl,l,k1,k2,k3⟩;exact ⟨rl,l,k1,k2,RepL.mono (fun _ _=>Rp.mono hl) k3⟩
structure L4 (imm:Imm) (cs:List Value) (arr:List zE) (cs1:List Value) (raws:List Raw2) (parts:List zN) (vN:Value) (nl:List zD) (vB:Value) (bl:List zI) (csN csB:List Value):Prop where
  arr:RL imm cs arr
  raw:RL imm cs1 raws
  lp:LP imm raws parts vN nl vB bl
  n:RL imm csN nl
  b:RL imm csB bl
theorem L4.mono {i j:Imm} (hl:i.le j) {cs:List Value}{arr:List zE}{cs1:List Value}{raws:List Raw2}{parts:List zN}{vN vB:Value}{nl:List zD}{bl:List zI}{csN csB:List Value}
    (h:L4 i cs arr cs1 raws parts vN nl vB bl csN csB):L4 j cs arr cs1 raws parts vN nl vB bl csN csB :=
  ⟨RepL.mono (fun _ _=>Rp.mono hl) h.arr,RepL.mono (fun _ _=>Rp.mono hl) h.raw,h.lp.mono hl,RepL.mono (fun _ _=>Rp.mono hl) h.n,RepL.mono (fun _ _=>Rp.mono hl) h.b⟩
theorem LP.len {imm:Imm}{raws:List Raw2}{parts:List zN}{vN vB:Value}{nl:List zD}{bl:List zI} (h:LP imm raws parts vN nl vB bl):(parts.length:Int)=(raws.length:Int):=by rw [h.2.1]
theorem LP.last {imm:Imm}{raws:List Raw2}{parts:List zN}{vN vB:Value}{nl:List zD}{bl:List zI} (h:LP imm raws parts vN nl vB bl) {x:zN} (hx:idx parts (W ((raws.length:Int) - 1))=some x) :
    x=⟨nl,bl⟩∧idx raws (W ((raws.length:Int) - 1))=some ⟨vN,vB⟩ ∧
      ∀ vN' nl' vB' bl',LP imm (raws.set (W ((raws.length:Int) - 1)).toNat ⟨vN',vB'⟩) (parts.set (W ((raws.length:Int) - 1)).toNat ⟨nl',bl'⟩) vN' nl' vB' bl':=by
  obtain ⟨h1,h2,h3⟩:=h
  have hW:W ((raws.length:Int) - 1)=(raws.length:Int) - 1:=rB (by omega) (by omega)
  rw [hW] at hx ⊢
  rcases h3 with ⟨rfl,rfl⟩ | ⟨rl,l,rfl,rfl,h4⟩
  · simp [idx] at hx
  · have hl:l.length=rl.length:=by simpa using h2.symm
    have e:(((rl ++ [(⟨vN,vB⟩:Raw2)]).length:Int) - 1).toNat=rl.length:=by simp
    have e0:(0:Int) ≤ ((rl ++ [(⟨vN,vB⟩:Raw2)]).length:Int) - 1:=by simp
    unfold idx at hx ⊢
    rw [if_pos e0,e] at hx ⊢
    rw [← hl] at hx
    refine ⟨by simpa using hx.symm,by simp,fun vN' nl' vB' bl'=>⟨?_,?_,.inr ⟨rl,l,?_,?_,h4⟩⟩⟩
    · simpa using h1
    · simpa using h2
    · rw [← hl]; simp
    · simp
theorem LP.part {imm:Imm}{raws:List Raw2}{parts:List zN}{vN vB:Value}{nl:List zD}{bl:List zI} (h:LP imm raws parts vN nl vB bl) (hN:SL imm vN nl) (hB:SL imm vB bl) {l1:List zN}
    (ha:app 48 parts [(⟨[],[]⟩:zN)]=some l1):LP imm (raws ++ [⟨.slice none 0 0,.slice none 0 0⟩]) l1 (.slice none 0 0) [] (.slice none 0 0) []:=by
  obtain ⟨hb,rfl⟩:=zAC ha
  obtain ⟨h1,h2,h3⟩:=h
  refine ⟨?_,?_,.inr ⟨raws,parts,rfl,rfl,?_⟩⟩
  · simp at hb ⊢; omega
  · simp [h2]
  · rcases h3 with ⟨rfl,rfl⟩ | ⟨rl,l,rfl,rfl,h4⟩
    · rfl
    · rw [eY]
      exact h4.append (.single rfl (rS ⟨_,_,rfl,hN,hB⟩))
theorem zG3 {α β:Type}{b:Nat}{l:List α}{m:List α}{l':List β}{m':List β}{y:List α} (h:app b l m=some y) (h1:l'.length=l.length) (h2:m'.length=m.length):app b l' m'=some (l' ++ m'):=by
  obtain ⟨k,_⟩:=zAC h;unfold app;rw [h1,h2,if_pos k]
theorem LP.done {imm:Imm}{raws:List Raw2}{parts:List zN}{vN vB:Value}{nl:List zD}{bl:List zI} (h:LP imm raws parts vN nl vB bl) (hN:SL imm vN nl) (hB:SL imm vB bl):RepL (Rp.rep imm) (Rp.sz zN) (flat raws) parts:=by
  obtain ⟨h1,h2,h3⟩:=h;rcases h3 with ⟨rfl,rfl⟩ | ⟨rl,l,rfl,rfl,h4⟩
  · rfl
  · rw [eY];exact h4.append (.single rfl (rS ⟨_,_,rfl,hN,hB⟩))
section
variable {P:Program}{n:Nat}{B:Base}{Q:Exit→Act→World→Prop}{imm:Imm}{hs:List HA}{m:FM}{ops:List Oper}{pc d:Nat}{ty:TypeId}{pos:String}{after:Array Edge}{g:Option (Nat×Bool)}
theorem zJw {t:TypeId}{x y:Operand}{b o:Nat}{c:Array Value}{v:Value} (j:Nat) (c':List Value) (hs':List HA) (ho:ops[pc]?=some ⟨none,.store t x y,ty,pos,after,g⟩) (hj:hs[j]?=some (.blk b c)) (hx:val m x=some (.pointer (some ⟨b,o,none⟩))) (hy:val m y=some v) (hone:v.cells.toList.all Value.oneCell'=true) (next:R P n B ops Q (pc + 1) imm hs' m) (hg:guardB ops m g=some true:=by kernel_rfl) (hsz:sizeT P t=some v.cells.size:=by kernel_rfl) (hol:Nat.ble (o + v.cells.size) c.size=true:=by kernel_rfl) (hc:wr c o v.cells.toList=⟨c'⟩:=by kernel_rfl) (hh:hs.set j (.blk b ⟨c'⟩)=hs':=by rfl):R P n B ops Q pc imm hs m :=
  zEC j ho hg hj hx hy hsz hol hone hc hh next
end
end Go.LN
namespace Go.LN
open Go.RowKit
theorem Good.below {imm:Imm}{w w':World} (h:Good ⟨w,imm,[]⟩ imm [] w) (b:Below w.heap.size w w'):Good ⟨w,imm,[]⟩ imm [] w':=by
  refine ⟨fun k c e=>?_,by simp,by simp,⟨b.os,b.tape,b.output,b.size,fun k hk _=>b.block k hk,fun _ _ _=>rfl⟩⟩;obtain ⟨ty,fr,e'⟩:=h.inv k c e;exact ⟨ty,fr,(b.block k (h.lt_imm e)).trans e'⟩
theorem Good.cell {B:Base}{imm:Imm}{hs:List HA}{w:World} (h:Good B imm hs w) {g:Nat}{v:Value} (e:imm g=some #[v]):w.cell? ⟨g,0,none⟩=some v:=by
  obtain ⟨ty,fr,e'⟩:=h.inv _ _ e;simp only [World.cell?,e'];simp
theorem zIV {P:Program}{f:FuncId}{args:List Value}{imm:Imm}{v:Value}{post:Nat→Imm→List HA→Value→Prop}
    (h:∀ w,Good ⟨w,imm,[]⟩ imm [] w→Calls P f args.toArray w fun e w'=>e=.returned v∧Below w.heap.size w w') (hp:∀ k,post k imm [] v):Ret P f args imm [] post:=fun w g =>
  (h w g).mono fun e w' ⟨he,hb⟩=>by
    subst he
    exact ⟨imm,[],hp _,g.below hb⟩
theorem At.of_blk {imm:Imm}{b:Nat}{cs:List Value} (h:imm b=some ⟨cs⟩):At imm ⟨b,0,none⟩ cs:=⟨b,0,_,rfl,h,by simp,by simp⟩
section
variable {P:Program}{n:Nat}{B:Base}{ops:List Oper}{Q:Exit→Act→World→Prop}{pc:Nat}{imm:Imm}{hs:List HA}{m:FM}{d:Nat}
  {ty:TypeId}{pos:String}{after:Array Edge}{g:Option (Nat×Bool)}
end
end Go.LN
namespace Go.LN
section
variable {P:Program}{n:Nat}{B:Base}{Q:Exit→Act→World→Prop}{imm:Imm}{hs:List HA}{m:FM}{ops:List Oper}{pc d:Nat}{ty:TypeId}{pos:String}{after:Array Edge}{g:Option (Nat×Bool)}
theorem zG4 {t e:TypeId}{w:World}{p:Option Addr}{l c:Nat} (hu:P.underlying t=some (.slice e)):(Op.equal t (.slice p l c) (.slice none 0 0)).run P w=.ok p.isNone w:=by
  have h:∀ d,(Op.equalIn (d + 1) t (.slice p l c) (.slice none 0 0)).run P w=.ok p.isNone w:=fun d=>by
    rw [Op.equalIn];cases p <;> simp [xR hu]
  exact h 9999
def sliceT (P:Program) (t:TypeId):Bool:=match P.underlying t with | some (.slice _)=>true | _=>false
theorem zKf {t t2:TypeId}{x:Operand}{p:Option Addr}{l c:Nat} (b:Bool) (ho:ops[pc]?=some ⟨some d,.binOp .eql t x (.const (.slice none 0 0)) t2,ty,pos,after,g⟩) (hb:p.isNone=b)
    (next:R P n B ops Q (pc + 1) imm hs ((d,.bool b)::m)) (hx:val m x=some (.slice p l c)) (hg:guardB ops m g=some true:=by kernel_rfl) (hn:Nat.blt d n=true:=by kernel_rfl) (ht:sliceT P t=true:=by kernel_rfl):R P n B ops Q pc imm hs m:=by
  unfold sliceT at ht
  split at ht
  · rename_i e hu
    refine kG ho hg rfl hn fun a w f gd=>⟨.bool b,w,imm,hs,?_,gd,next⟩
    have hy:a.eval (.const (.slice none 0 0))=.slice none 0 0:=rfl
    simp [execOp,f.eval hx,hy,eqGuard,binOp,zG4 hu,hb]
  · cases ht
end
end Go.LN
namespace Go.LN
section
variable {P:Program}{n:Nat}{B:Base}{Q:Exit→Act→World→Prop}{imm:Imm}{hs:List HA}{m:FM}
theorem zG5 {c:Code} (hs':List HA) (hp:hs'.Perm hs) (h:J P n B c Q imm hs' m):J P n B c Q imm hs m:=fun a w f g=>h a w f (g.perm hp)
theorem zIw {c:Code} (hF:False) {imm':Imm}{hs':List HA}{m':FM} (next:T n B Q .normal imm' hs' m'):J P n B c Q imm hs m:=hF.elim
theorem zKg {c:Code}{L:List HA} (x:Exit) (S:Imm→List HA→FM→Prop) (h1:∀ B':Base,J P n B' c (fun e a w=>e=x∧∃ imm' hs' m',S imm' hs' m'∧Fr n a m'∧Good B' imm' hs' w) imm hs m)
    (h2:∀ imm' hs' m',S imm' hs' m'→imm.le imm'→T n B Q x imm' (hs' ++ L) m'):J P n B c Q imm (hs ++ L) m:=fun a w f g=>by
  have hnd:=g.nodup
  rw [List.flatMap_append] at hnd
  have hg1:=g.enter (hs1:=hs) (fun A hA=>List.mem_append_left _ hA) (List.nodup_append.1 hnd).1
  refine wp_mono (h1 _ a w f hg1) fun e a' w' he=>?_
  obtain ⟨rfl,imm',hs',m',k1,k2,k3⟩:=he
  obtain ⟨k4,k5,_⟩:=g.leave k3
  exact h2 imm' hs' m' k1 k5 a' w' k2 k4
theorem zKh {B':Base}{x:Exit}{S:Imm→List HA→FM→Prop} (h:S imm hs m):T n B' (fun e a w=>e=x∧∃ imm' hs' m',S imm' hs' m'∧Fr n a m'∧Good B' imm' hs' w) x imm hs m:=fun _ _ f g=>⟨rfl,imm,hs,m,h,f,g⟩
end
structure NL where
  pl:Option Addr
  lo:List zA
  cl:Nat
  csl:List Value
  ph:Option Addr
  hi:List zA
  ch:Nat
  csh:List Value
def NL.vl (x:NL):Value:=vS x.pl x.lo x.cl
def NL.vh (x:NL):Value:=vS x.ph x.hi x.ch
def NL.ha (x:NL):List HA:=[hO zA x.vh x.csh,hO zA x.vl x.csl]
def NL.raw (x:NL):Raw2:=⟨x.vl,x.vh⟩
def NL.d (x:NL):zD:=⟨x.lo,x.hi⟩
def NL.ok (imm:Imm) (x:NL):Prop:=RL imm x.csl x.lo∧RL imm x.csh x.hi
def NL.fz (imm:Imm) (x:NL):Prop:=SL imm x.vl x.lo∧SL imm x.vh x.hi
theorem NL.ok.mono {i j:Imm} (h:i.le j) {x:NL} (hx:x.ok i):x.ok j:=⟨RepL.mono (fun _ _=>Rp.mono h) hx.1,RepL.mono (fun _ _=>Rp.mono h) hx.2⟩
theorem NL.fz.mono {i j:Imm} (h:i.le j) {x:NL} (hx:x.fz i):x.fz j:=⟨hx.1.mono h,hx.2.mono h⟩
abbrev NLs (xs:List NL):List HA:=xs.flatMap NL.ha
theorem zIx {xs:List NL}{k:Nat}{x:NL} (h:xs[k]?=some x):∃ ys,(NLs xs).Perm (x.ha ++ NLs ys)∧(∀ y ∈ ys,y ∈ xs)∧∀ i:Nat,∀ y,i ≠ k→xs[i]?=some y→y ∈ ys:=by
  obtain ⟨hk,rfl⟩:=List.getElem?_eq_some_iff.1 h;refine ⟨xs.eraseIdx k,?_,fun y hy=>List.mem_of_mem_eraseIdx hy,fun i y hi hy=>List.mem_eraseIdx_iff_getElem?.2 ⟨i,hi,hy⟩⟩;have:=(mV h).flatMap_right NL.ha;simpa [NLs] using this
section
variable {P:Program}{n:Nat}{B:Base}{Q:Exit→Act→World→Prop}{hs:List HA}{m:FM}
theorem zAD {c:Code}:∀ (xs:List NL) {imm:Imm},(∀ x ∈ xs,x.ok imm)→(∀ imm',imm.le imm'→(∀ x ∈ xs,x.fz imm')→J P n B c Q imm' hs m)→J P n B c Q imm (NLs xs ++ hs) m
  | [],imm,_,h=>h imm (Imm.le.refl _) (fun _ h=>by cases h)
  | x::xs,imm,hx,h=>by
    have h1:=hx x (List.mem_cons_self ..)
    show J P n B c Q imm (hO zA x.vh x.csh::hO zA x.vl x.csl::(NLs xs ++ hs)) m
    refine pL 0 rfl ?_
    intro imm1 le1 hl1
    have k1:=SL.of_frozen hl1 le1 h1.2
    refine pL 0 rfl ?_
    intro imm2 le2 hl2
    have k2:=SL.of_frozen hl2 le2 (RepL.mono (fun _ _=>Rp.mono le1) h1.1)
    refine zAD xs (fun y hy=>(hx y (List.mem_cons_of_mem _ hy)).mono (le1.trans le2)) ?_
    intro imm3 le3 h3
    refine h imm3 ((le1.trans le2).trans le3) fun y hy=>?_
    rcases List.mem_cons.1 hy with rfl | hy
    · exact ⟨k2.mono le3,(k1.mono le2).mono le3⟩
    · exact h3 y hy
end
theorem zEe {α β:Type}{f:α→β}{l:List α}{i:Int}{y:β} (h:idx (l.map f) i=some y):∃ x,idx l i=some x∧y=f x:=by
  obtain ⟨h0,h1,h2⟩:=rR h;rw [List.getElem?_map,Option.map_eq_some_iff] at h2;obtain ⟨x,h3,rfl⟩:=h2;exact ⟨x,by unfold idx; rw [if_pos h0,h3],rfl⟩
theorem zAY {α β:Type}{f:α→β}{l:List α}{i:Int}{x:α} (h:idx l i=some x):idx (l.map f) i=some (f x):=by
  obtain ⟨h0,h1,h2⟩:=rR h;unfold idx; rw [if_pos h0,List.getElem?_map,h2]; rfl
section
variable {P:Program}{n:Nat}{B:Base}{Q:Exit→Act→World→Prop}{hs:List HA}{m:FM}{imm:Imm}
theorem zIy {c:Code}{xs:List NL}{i:Int}{x:NL} (hx:idx xs i=some x) (hxs:∀ x ∈ xs,x.ok imm) (h:∀ imm',imm.le imm'→(∀ (j:Nat) y,j ≠ i.toNat→xs[j]?=some y→y.fz imm')→J P n B c Q imm' (hO zA x.vh x.csh::hO zA x.vl x.csl::hs) m):J P n B c Q imm (NLs xs ++ hs) m:=by
  obtain ⟨h0,h1,h2⟩:=rR hx;obtain ⟨ys,k1,k2,k3⟩:=zIx h2;refine zG5 (NLs ys ++ (x.ha ++ hs)) ?_ ?_
  · rw [← List.append_assoc];exact (List.perm_append_comm.trans k1.symm).append_right hs
  · refine zAD ys (fun y hy=>hxs y (k2 y hy)) ?_;intro imm1 le1 hf;exact h imm1 le1 fun j y hj hy=>hf y (k3 j y hj hy)
end
def PW (imm:Imm) (raws:List Raw2) (nest:List zD):Prop:=raws.length=nest.length∧∀ (j:Nat) r d,raws[j]?=some r→nest[j]?=some d→SL imm r.a d.Lo∧SL imm r.b d.Hi
theorem PW.rl {imm:Imm}:∀ {raws:List Raw2}{nest:List zD},PW imm raws nest→RL imm (flat raws) nest
  | [],[],_=>rfl
  | [],_::_,h=>by cases h.1
  | _::_,[],h=>by cases h.1
  | r::raws,d::nest,h=>⟨[r.a,r.b],flat raws,rfl,rfl,sV ⟨_,_,rfl,h.2 0 r d rfl rfl⟩,PW.rl ⟨by have:=h.1; simpa using this,fun j r' d' h1 h2=>h.2 (j + 1) r' d' (by simpa using h1) (by simpa using h2)⟩⟩
theorem zG6 {imm:Imm}{xs:List NL}{k:Nat}{r:Raw2}{d:zD} (hfz:∀ (j:Nat) y,j ≠ k→xs[j]?=some y→y.fz imm) (hr:SL imm r.a d.Lo∧SL imm r.b d.Hi):PW imm ((xs.map NL.raw).set k r) ((xs.map NL.d).set k d):=by
  refine ⟨by simp,fun j r' d' h1 h2=>?_⟩;by_cases hj:j=k
  · subst hj;rw [List.getElem?_set_self' ] at h1 h2;cases hx:xs[j]? with
    | none=>simp [hx] at h1
    | some y =>
      simp [hx] at h1 h2;subst h1; subst h2;exact hr
  · rw [List.getElem?_set_ne (fun e=>hj e.symm),List.getElem?_map,Option.map_eq_some_iff] at h1 h2;obtain ⟨y,h3,rfl⟩:=h1;obtain ⟨y',h4,rfl⟩:=h2;rw [h3] at h4;cases h4
    exact hfz j y hj h3
theorem NL.shut {imm:Imm}{x:NL} (h:x.fz imm):Rp.rep imm [x.vl,x.vh] x.d:=sV ⟨_,_,rfl,h.1,h.2⟩
theorem zEy {imm:Imm}:∀ {xs:List NL},(∀ x ∈ xs,x.fz imm)→RL imm (flat (xs.map NL.raw)) (xs.map NL.d)
  | [],_=>rfl
  | x::xs,h=>⟨[x.vl,x.vh],flat (xs.map NL.raw),rfl,rfl,NL.shut (h x (List.mem_cons_self ..)),zEy fun y hy=>h y (List.mem_cons_of_mem _ hy)⟩
theorem LP.push {imm:Imm}{raws:List Raw2}{parts:List zN}{vN vB vN' vB':Value}{nl nl':List zD}{bl bl':List zI} (h:LP imm raws parts vN nl vB bl) (hN:SL imm vN nl) (hB:SL imm vB bl) {l1:List zN}
    (ha:app 48 parts [(⟨nl',bl'⟩:zN)]=some l1):LP imm (raws ++ [⟨vN',vB'⟩]) l1 vN' nl' vB' bl':=by
  obtain ⟨hb,rfl⟩:=zAC ha
  obtain ⟨h1,h2,h3⟩:=h
  refine ⟨?_,?_,.inr ⟨raws,parts,rfl,rfl,?_⟩⟩
  · simp at hb ⊢; omega
  · simp [h2]
  · rcases h3 with ⟨rfl,rfl⟩ | ⟨rl,l,rfl,rfl,h4⟩
    · rfl
    · rw [eY]
      exact h4.append (.single rfl (rS ⟨_,_,rfl,hN,hB⟩))
theorem LP.nil {imm:Imm}:LP imm [] [] (.slice none 0 0) [] (.slice none 0 0) []:=⟨by decide,rfl,.inl ⟨rfl,rfl⟩⟩
end Go.LN
namespace Go.LN
section
variable {P:Program}{n:Nat}{B:Base}{Q:Exit→Act→World→Prop}{imm:Imm}{hs:List HA}{m:FM}{ops:List Oper}{pc d:Nat}{ty:TypeId}{pos:String}{after:Array Edge}{g:Option (Nat×Bool)}
end
theorem zGR {B:Base}{imm:Imm} (a b:List HA):∀ w,Good B imm (a ++ b) w→Good B imm (b ++ a) w:=fun _ h=>h.perm List.perm_append_comm
end Go.LN
