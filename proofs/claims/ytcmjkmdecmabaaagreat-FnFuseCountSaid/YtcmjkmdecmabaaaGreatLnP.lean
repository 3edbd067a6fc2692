/- Helper of the proof (see the last text). -/
import Derived.Test.YtcmjkmdecmabaaaGreatLnI
import Derived.Laws.BitsLemmas
import Derived.Sort.Grow
import Derived.Lib.LaidTab
import Derived.Lib.ItoaNum
import Derived.Lib.ItoaMem
import Derived.Sort.Row
import Derived.Lib.AtoiErrMem
import Derived.Lib.AtoiTie
import Derived.Lib.SplitLaws
import Derived.Lib.AtoiAll
import Derived.Shelf.SlicesE.Delete
import Derived.Laws.StructEq
import Derived.Lib.AppendZerosOnto
import Derived.Lib.Overlaps
import Derived.Laws.Externs
set_option linter.unusedVariables false
set_option linter.unusedSimpArgs false
namespace Go.LN
section
variable {P:Program}{n:Nat}{B:Base}{Q:Exit->Act->World->Prop}{imm:Imm}{hs:List HA}{m:FM}{af:List Oper}{pc d:Nat}{ty:TypeId}{pos:String}{after:Array Edge}{g:Option (Nat×Bool)}
theorem zLr{f:FuncId}{first cap:List Value}{x:Operand}{xs:Array Operand}{ts:Array TypeId}{vs:List Value}{hs1 rest:List HA}{post:Nat->Imm->List HA->Value->Prop}
 (ho:af[pc]?=some ⟨some d,.call { callee:=.value x,args:=xs,argTypes:=ts },ty,pos,after,g⟩) (hx:val m x=some (.func (.func f) ⟨first⟩ ⟨cap⟩)) (hf:callable P f=true)
 (hvs:vals m xs.toList=some vs) (hh:hs=hs1++rest) (hc:Ret P f (first++vs++cap) imm hs1 post)
 (next:∀ap ag v k,imm.le ap->B.w0.heap.size<=k->post k ap ag v->(∀b∈ag.flatMap HA.fp,b∈hs1.flatMap HA.fp∨B.w0.heap.size<=b)->R P n B af Q (pc+1) ap (ag++rest) ((d,v)::m)) (hg:guardB af m g=some true:=by kernel_rfl) (hn:Nat.blt d n=true:=by kernel_rfl):R P n B af Q pc imm hs m:=
 zII ho hg λa w fr gd=>by
  subst hh
  have hargs:xs.map a.eval=vs.toArray:=by apply Array.ext';rw[er,fr.evals hvs]
  have hall:(⟨first⟩:Array Value)++vs.toArray++⟨cap⟩=(first++vs++cap).toArray:=by apply Array.ext';simp
  have bU:=gd.nodup
  rw[dt] at bU
  have hg1:=gd.enter (hs1:=hs1) (λA hA=>dq _ hA) (cI.1 bU).1
  unfold Oper.wp
  simp only[execOp,resolve,Deferred.ofValue,fr.eval hx,hargs,Sem.run_bind,Sem.run_pure,Result.andThen_ok,invoke,hall,zFi hf,Oper.upon]
  refine(hc w hg1).mono λe w' he=>?_
  cases e with
  | returned v=>
   obtain⟨ap,ag,hp,hgood⟩:=he
   obtain⟨g2,bH,hfp⟩:=gd.leave hgood
   exact next ap ag v w.heap.size bH gd.frm.size hp hfp _ w' (fr.put d v (by simpa using hn)) g2
  | panicked c=>exact he.elim
  | outgrown=>exact he.elim
end
class Vr (α:Type) where
 rep:Imm->Value->α->Prop
 mono:∀{i j:Imm}{v:Value}{a:α},i.le j->rep i v a->rep j v a
instance:Vr Int:=⟨λ_ v a=>v=.int .i64 a,λ_ h=>h⟩
instance:Vr Bool:=⟨λ_ v a=>v=.bool a,λ_ h=>h⟩
instance:Vr Str:=⟨λ_ v a=>v=.string ⟨⟨a.l⟩⟩,λ_ h=>h⟩
instance {α:Type} [Rp α]:Vr (List α):=⟨λi v a=>SL i v a,λhl h=>h.mono hl⟩
def FV1{α β:Type}[Vr α][Vr β](P:Program)(imm:Imm)(aD:List HA)(v:Value)(φ:α->Option β):Prop:=
 ∃f first cap,v=.func (.func f) ⟨first⟩ ⟨cap⟩/\callable P f=true/\∀ap,imm.le ap->∀a r va,φ a=some r->Vr.rep ap va a->Ret P f (first++[va]++cap) ap aD λ_ i ag u=>ag=aD/\Vr.rep i u r
theorem FV1.mono{α β:Type}[Vr α][Vr β]{P:Program}{i j:Imm}{aD:List HA}{v:Value}{φ:α->Option β}(hl:i.le j)(h:FV1 P i aD v φ):FV1 P j aD v φ:=by
 obtain⟨f,first,cap,h1,h2,h3⟩:=h;exact⟨f,first,cap,h1,h2,λap h'=>h3 ap (hl.trans h')⟩
theorem FV1.intro{α β:Type}[Vr α][Vr β]{P:Program}{imm:Imm}{aD:List HA}{f:FuncId}{first cap:List Value}{φ:α->Option β}(h:∀ap,imm.le ap->∀a r va,φ a=some r->Vr.rep ap va a->Ret P f (first++[va]++cap) ap aD λ_ i ag u=>ag=aD/\Vr.rep i u r)
 (hc:callable P f=true:=by kernel_rfl):FV1 P imm aD (.func (.func f) ⟨first⟩ ⟨cap⟩) φ:=⟨f,first,cap,rfl,hc,h⟩
def FV2{α β γ:Type}[Vr α][Vr β][Vr γ](P:Program)(imm:Imm)(aD:List HA)(v:Value)(φ:α->β->Option γ):Prop:=
 ∃f first cap,v=.func (.func f) ⟨first⟩ ⟨cap⟩/\callable P f=true/\∀ap,imm.le ap->∀a b r va vb,φ a b=some r->Vr.rep ap va a->Vr.rep ap vb b->Ret P f (first++[va,vb]++cap) ap aD λ_ i ag u=>ag=aD/\Vr.rep i u r
theorem FV2.mono{α β γ:Type}[Vr α][Vr β][Vr γ]{P:Program}{i j:Imm}{aD:List HA}{v:Value}{φ:α->β->Option γ}(hl:i.le j)(h:FV2 P i aD v φ):FV2 P j aD v φ:=by
 obtain⟨f,first,cap,h1,h2,h3⟩:=h;exact⟨f,first,cap,h1,h2,λap h'=>h3 ap (hl.trans h')⟩
theorem FV2.intro{α β γ:Type}[Vr α][Vr β][Vr γ]{P:Program}{imm:Imm}{aD:List HA}{f:FuncId}{first cap:List Value}{φ:α->β->Option γ}(h:∀ap,imm.le ap->∀a b r va vb,φ a b=some r->Vr.rep ap va a->Vr.rep ap vb b->Ret P f (first++[va,vb]++cap) ap aD λ_ i ag u=>ag=aD/\Vr.rep i u r)
 (hc:callable P f=true:=by kernel_rfl):FV2 P imm aD (.func (.func f) ⟨first⟩ ⟨cap⟩) φ:=⟨f,first,cap,rfl,hc,h⟩
section
variable {P:Program}{n:Nat}{B:Base}{Q:Exit->Act->World->Prop}{imm:Imm}{hs:List HA}{m:FM}{af:List Oper}{pc d:Nat}{ty:TypeId}{pos:String}{after:Array Edge}{g:Option (Nat×Bool)}
theorem zK3{α β:Type}[Vr α][Vr β]{x y:Operand}{ts:Array TypeId}{v va:Value}{a:α}{r:β}{φ:α->Option β}{aD rest:List HA}
 (ho:af[pc]?=some ⟨some d,.call { callee:=.value x,args:=#[y],argTypes:=ts },ty,pos,after,g⟩) (hy:val m y=some va) (hF:FV1 P imm aD v φ) (hr:φ a=some r) (ha:Vr.rep imm va a) (hh:hs=aD++rest)
 (next:∀ap u,imm.le ap->Vr.rep ap u r->R P n B af Q (pc+1) ap (aD++rest) ((d,u)::m)) (hx:val m x=some v:=by kernel_rfl) (hg:guardB af m g=some true:=by kernel_rfl) (hn:Nat.blt d n=true:=by kernel_rfl):R P n B af Q pc imm hs m:=by
 obtain⟨f,first,cap,rfl,hf,hc⟩:=hF
 refine zLr ho hx hf (vs:=[va]) (by simp[vals,hy]) hh (hc imm (Imm.le.refl _) a r va hr ha) ?_ hg hn
 rintro ap ag u k hl hk ⟨rfl,h⟩ -
 exact next ap u hl h
theorem zK4{α β γ:Type}[Vr α][Vr β][Vr γ]{x y z:Operand}{ts:Array TypeId}{v va vb:Value}{a:α}{b:β}{r:γ}{φ:α->β->Option γ}{aD rest:List HA}
 (ho:af[pc]?=some ⟨some d,.call { callee:=.value x,args:=#[y,z],argTypes:=ts },ty,pos,after,g⟩) (hy:val m y=some va) (hz:val m z=some vb) (hF:FV2 P imm aD v φ) (hr:φ a b=some r) (ha:Vr.rep imm va a) (hb:Vr.rep imm vb b) (hh:hs=aD++rest)
 (next:∀ap u,imm.le ap->Vr.rep ap u r->R P n B af Q (pc+1) ap (aD++rest) ((d,u)::m)) (hx:val m x=some v:=by kernel_rfl) (hg:guardB af m g=some true:=by kernel_rfl) (hn:Nat.blt d n=true:=by kernel_rfl):R P n B af Q pc imm hs m:=by
 obtain⟨f,first,cap,rfl,hf,hc⟩:=hF
 refine zLr ho hx hf (vs:=[va,vb]) (by simp[vals,hy,hz]) hh (hc imm (Imm.le.refl _) a b r va vb hr ha hb) ?_ hg hn
 rintro ap ag u k hl hk ⟨rfl,h⟩ -
 exact next ap u hl h
end
end Go.LN
namespace Go.LN
theorem Good.grow{B:Base}{imm:Imm}{hs:List HA}{w:World}(h:Good B imm hs w)(k:Nat)(os:Array Obj):Good B imm hs (Sort.grow (w.drewN k) os):=by
 have h:=h.drewN k;generalize w.drewN k=w at h;have old:∀b,b<w.heap.size->(Sort.grow w os).heap[b]?=w.heap[b]?:=λb hb=>by
  show (w.heap++os)[b]?=_;rw[Array.getElem?_append_left hb]
 refine⟨λb c e=>?_,λA hA=>(h.own A hA).same (λ_ _ p=>p) (λ_ _=>rfl) (λb hb=>old b ((h.own A hA).lt hb).1),h.nodup,⟨h.frm.os,h.frm.tape,h.frm.output,?_,λb hb hio=>?_,h.frm.imm,h.frm.drawn⟩⟩
 ·obtain⟨ty,fr,e'⟩:=h.inv b c e;exact⟨ty,fr,(old b (h.lt_imm e)).trans e'⟩
 ·show _<=(w.heap++os).size;rw[Array.size_append];exact de h.frm.size (Nat.le_add_right _ _)
 ·exact(old b (fq hb h.frm.size)).trans (h.frm.heap b hb hio)
def GT (P:Program) (imm:Imm):Prop:=∃ g,P.globalNamed "internal/strconv.uint64pow10"=some g∧imm g=some (Lib.pow10Tab.map fun z=>Value.int .u64 z).toArray
def GM (P:Program) (imm:Imm):Prop:=∃ g,P.globalNamed "internal/bytealg.MaxLen"=some g∧∃ m,imm g=some #[.int .i64 m]
def GE(P:Program)(imm:Imm)(nm:String):Prop:=∃g,P.globalNamed nm=some g/\∃t p,imm g=some #[.iface t p]
def GH (P:Program) (imm:Imm):Prop:=GT P imm∧GM P imm∧GE P imm "strconv.ErrSyntax"∧GE P imm "strconv.ErrRange"
theorem GH.mono{P:Program}{i j:Imm}(hl:i.le j)(h:GH P i):GH P j:=by
 obtain⟨⟨g,h1,h2⟩,⟨g3,h3,m,h4⟩,⟨g5,h5,t,p,h6⟩,⟨g7,h7,u,q,h8⟩⟩:=h;exact⟨⟨g,h1,hl _ _ h2⟩,⟨g3,h3,m,hl _ _ h4⟩,⟨g5,h5,t,p,hl _ _ h6⟩,⟨g7,h7,u,q,hl _ _ h8⟩⟩
theorem GH.es {P:Program}{imm:Imm} (h:GH P imm):GE P imm "strconv.ErrSyntax":=h.2.2.1
end Go.LN
namespace Go.LN
theorem zCC{k : IntKind}{n : Int}: (Value.int k n).oneCell' = true:=rfl
theorem zHy{s : ByteArray}: (Value.string s).oneCell' = true:=rfl
theorem SL.one{α : Type}[Rp α]{i : Imm}{v : Value}{l : List α}(h : SL i v l): v.oneCell' = true:=by
 obtain⟨aN,hs,_⟩:=h
 rcases hs with⟨rfl,_⟩|⟨b,off,len,cap,c,rfl,_⟩ <;> rfl
structure zD where
 Name : Str
 Dims : List Int
instance : Rp zD where
 sz:=2
 pos:=by decide
 rep i cs s := ∃v0 : Value,cs = [.string ⟨⟨s.Name.l⟩⟩,v0] /\ SL i v0 s.Dims
 len h:=by obtain⟨v0,rfl,h0⟩:=h;rfl
 mono hm h:=by obtain⟨v0,e,h0⟩:=h;exact⟨v0,e,h0.mono hm⟩
 one h:=by obtain⟨v0,rfl,h0⟩:=h;simp[zHy,h0.one]
theorem zDY{i : Imm}{cs : List Value}{s : zD}(h : Rp.rep i cs s): ∃v0 : Value,cs = [.string ⟨⟨s.Name.l⟩⟩,v0] /\ SL i v0 s.Dims:=h
theorem uP{i : Imm}{cs : List Value}{s : zD}(h : ∃v0 : Value,cs = [.string ⟨⟨s.Name.l⟩⟩,v0] /\ SL i v0 s.Dims): Rp.rep i cs s:=h
theorem wH{i : Imm}{cs : List Value}{s : zD}(h : Rp.rep i cs s): ∃(p0 : Option Addr) (c0 : Nat),cs = [.string ⟨⟨s.Name.l⟩⟩,vS p0 s.Dims c0] /\ SL i (vS p0 s.Dims c0) s.Dims:=by
 obtain⟨v0,e,h0⟩:=zDY h
 obtain⟨p0,c0,rfl⟩:=h0.form
 exact⟨p0,c0,e,h0⟩
instance : Vr zD:=⟨λi v a => ∃cs,v = .agg ⟨cs⟩ /\ Rp.rep i cs a,λhl ⟨cs,e,h⟩=>⟨cs,e,Rp.mono hl h⟩⟩
structure zA where
 Coefs : List Int
 Const : Int
instance : Rp zA where
 sz:=2
 pos:=by decide
 rep i cs s := ∃v0 : Value,cs = [v0,.int .i64 s.Const] /\ SL i v0 s.Coefs
 len h:=by obtain⟨v0,rfl,h0⟩:=h;rfl
 mono hm h:=by obtain⟨v0,e,h0⟩:=h;exact⟨v0,e,h0.mono hm⟩
 one h:=by obtain⟨v0,rfl,h0⟩:=h;simp[zCC,h0.one]
theorem zGg{i : Imm}{cs : List Value}{s : zA}(h : Rp.rep i cs s): ∃v0 : Value,cs = [v0,.int .i64 s.Const] /\ SL i v0 s.Coefs:=h
theorem yO{i : Imm}{cs : List Value}{s : zA}(h : ∃v0 : Value,cs = [v0,.int .i64 s.Const] /\ SL i v0 s.Coefs): Rp.rep i cs s:=h
theorem yI{i : Imm}{cs : List Value}{s : zA}(h : Rp.rep i cs s): ∃(p0 : Option Addr) (c0 : Nat),cs = [vS p0 s.Coefs c0,.int .i64 s.Const] /\ SL i (vS p0 s.Coefs c0) s.Coefs:=by
 obtain⟨v0,e,h0⟩:=zGg h
 obtain⟨p0,c0,rfl⟩:=h0.form
 exact⟨p0,c0,e,h0⟩
instance : Vr zA:=⟨λi v a => ∃cs,v = .agg ⟨cs⟩ /\ Rp.rep i cs a,λhl ⟨cs,e,h⟩=>⟨cs,e,Rp.mono hl h⟩⟩
structure zG where
 Lo : List zA
 Hi : List zA
instance : Rp zG where
 sz:=2
 pos:=by decide
 rep i cs s := ∃v0 v1 : Value,cs = [v0,v1] /\ SL i v0 s.Lo /\ SL i v1 s.Hi
 len h:=by obtain⟨v0,v1,rfl,h0,h1⟩:=h;rfl
 mono hm h:=by obtain⟨v0,v1,e,h0,h1⟩:=h;exact⟨v0,v1,e,h0.mono hm,h1.mono hm⟩
 one h:=by obtain⟨v0,v1,rfl,h0,h1⟩:=h;simp[h0.one,h1.one]
theorem zDl{i : Imm}{cs : List Value}{s : zG}(h : Rp.rep i cs s): ∃v0 v1 : Value,cs = [v0,v1] /\ SL i v0 s.Lo /\ SL i v1 s.Hi:=h
theorem uR{i : Imm}{cs : List Value}{s : zG}(h : ∃v0 v1 : Value,cs = [v0,v1] /\ SL i v0 s.Lo /\ SL i v1 s.Hi): Rp.rep i cs s:=h
theorem vD{i : Imm}{cs : List Value}{s : zG}(h : Rp.rep i cs s): ∃(p0 : Option Addr) (c0 : Nat) (p1 : Option Addr) (c1 : Nat),cs = [vS p0 s.Lo c0,vS p1 s.Hi c1] /\ SL i (vS p0 s.Lo c0) s.Lo /\ SL i (vS p1 s.Hi c1) s.Hi:=by
 obtain⟨v0,v1,e,h0,h1⟩:=zDl h
 obtain⟨p0,c0,rfl⟩:=h0.form
 obtain⟨p1,c1,rfl⟩:=h1.form
 exact⟨p0,c0,p1,c1,e,h0,h1⟩
instance : Vr zG:=⟨λi v a => ∃cs,v = .agg ⟨cs⟩ /\ Rp.rep i cs a,λhl ⟨cs,e,h⟩=>⟨cs,e,Rp.mono hl h⟩⟩
structure zM where
 Array : Str
 Subs : List zA
instance : Rp zM where
 sz:=2
 pos:=by decide
 rep i cs s := ∃v0 : Value,cs = [.string ⟨⟨s.Array.l⟩⟩,v0] /\ SL i v0 s.Subs
 len h:=by obtain⟨v0,rfl,h0⟩:=h;rfl
 mono hm h:=by obtain⟨v0,e,h0⟩:=h;exact⟨v0,e,h0.mono hm⟩
 one h:=by obtain⟨v0,rfl,h0⟩:=h;simp[zHy,h0.one]
theorem zGh{i : Imm}{cs : List Value}{s : zM}(h : Rp.rep i cs s): ∃v0 : Value,cs = [.string ⟨⟨s.Array.l⟩⟩,v0] /\ SL i v0 s.Subs:=h
theorem oG{i : Imm}{cs : List Value}{s : zM}(h : ∃v0 : Value,cs = [.string ⟨⟨s.Array.l⟩⟩,v0] /\ SL i v0 s.Subs): Rp.rep i cs s:=h
theorem rF{i : Imm}{cs : List Value}{s : zM}(h : Rp.rep i cs s): ∃(p0 : Option Addr) (c0 : Nat),cs = [.string ⟨⟨s.Array.l⟩⟩,vS p0 s.Subs c0] /\ SL i (vS p0 s.Subs c0) s.Subs:=by
 obtain⟨v0,e,h0⟩:=zGh h
 obtain⟨p0,c0,rfl⟩:=h0.form
 exact⟨p0,c0,e,h0⟩
instance : Vr zM:=⟨λi v a => ∃cs,v = .agg ⟨cs⟩ /\ Rp.rep i cs a,λhl ⟨cs,e,h⟩=>⟨cs,e,Rp.mono hl h⟩⟩
inductive zH where
 | mk (Kind : Int) (Num : Int) (Index : zA) (Read : zM) (Kids : List zH)
def zH.Kind : zH -> Int|.mk x _ _ _ _=>x
def zH.Num : zH -> Int|.mk _ x _ _ _=>x
def zH.Index : zH -> zA|.mk _ _ x _ _=>x
def zH.Read : zH -> zM|.mk _ _ _ x _=>x
def zH.Kids : zH -> (List zH)|.mk _ _ _ _ x=>x
mutual
def zH.repE(i : Imm): zH -> List Value -> Prop
 | .mk Kind Num Index Read Kids,cs => ∃(v0 v1 v2 : Value) (aN : List Value),cs = [.int .i64 Kind,.int .i64 Num,v0,.int .i64 Index.Const,.string ⟨⟨Read.Array.l⟩⟩,v1,v2] /\ SL i v0 Index.Coefs /\ SL i v1 Read.Subs /\ SliceAt i v2 7 aN /\ zH.reps i Kids aN
def zH.reps(i : Imm): List zH -> List Value -> Prop
 | [],cs=>cs = []
 | e :: es,cs => ∃c1 c2,cs = c1++c2 /\ c1.length = 7 /\ zH.repE i e c1 /\ zH.reps i es c2
end
mutual
theorem zFB{i : Imm}: ∀{e : zH} {cs : List Value},zH.repE i e cs -> cs.length = 7
 | .mk ..,cs,h=>by simp only[zH.repE] at h;obtain⟨v0,v1,v2,aN,rfl,_⟩:=h;rfl
end
mutual
theorem zBX{i j : Imm}(hm : i.le j): ∀{e : zH} {cs : List Value},zH.repE i e cs -> zH.repE j e cs
 | .mk ..,cs,h=>by
  simp only[zH.repE] at h ⊢
  obtain⟨v0,v1,v2,aN,e,k0,k1,ha,hb⟩:=h
  exact⟨v0,v1,v2,aN,e,k0.mono hm,k1.mono hm,ha.mono hm,zBY hm hb⟩
theorem zBY{i j : Imm}(hm : i.le j): ∀{es : List zH} {cs : List Value},zH.reps i es cs -> zH.reps j es cs
 | [],cs,h=>by simpa [zH.reps] using h
 | e :: es,cs,h=>by
  simp only[zH.reps] at h ⊢
  obtain⟨c1,c2,h1,h2,h3,h4⟩:=h
  exact⟨c1,c2,h1,h2,zBX hm h3,zBY hm h4⟩
end
theorem eE{i : Imm}: ∀{es : List zH} {cs : List Value},zH.reps i es cs↔RepL (λc e=>zH.repE i e c) 7 cs es
 | [],cs=>by simp[zH.reps,RepL]
 | e :: es,cs=>by
  simp only[zH.reps,RepL]
  constructor
  ·rintro⟨c1,c2,h1,h2,h3,h4⟩;exact⟨c1,c2,h1,h2,h3,eE.1 h4⟩
  ·rintro⟨c1,c2,h1,h2,h3,h4⟩;exact⟨c1,c2,h1,h2,h3,eE.2 h4⟩
theorem SliceAt.one{i : Imm}{v : Value}{sz : Nat}{cs : List Value}(hs : SliceAt i v sz cs): v.oneCell' = true:=by
 rcases hs with⟨rfl,_⟩|⟨b,off,len,cap,c,rfl,_⟩ <;> rfl
theorem zFC{i : Imm}: ∀{e : zH} {cs : List Value},zH.repE i e cs -> ∀v∈cs,v.oneCell' = true
 | .mk ..,cs,h=>by
  simp only[zH.repE] at h
  obtain⟨v0,v1,v2,aN,rfl,k0,k1,ha,_⟩:=h
  simp[zCC,zHy,k0.one,k1.one,ha.one]
instance : Rp zH where
 sz:=7
 pos:=by decide
 rep i cs e:=zH.repE i e cs
 len h:=zFB h
 mono hm h:=zBX hm h
 one h:=zFC h
theorem zIT{i : Imm}{cs : List Value}{s : zH}(h : Rp.rep i cs s): ∃v0 v1 v2 : Value,cs = [.int .i64 s.Kind,.int .i64 s.Num,v0,.int .i64 s.Index.Const,.string ⟨⟨s.Read.Array.l⟩⟩,v1,v2] /\ SL i v0 s.Index.Coefs /\ SL i v1 s.Read.Subs /\ SL i v2 s.Kids:=by
 obtain⟨Kind,Num,Index,Read,Kids⟩:=s
 have h : zH.repE i _ cs:=h
 simp only[zH.repE] at h
 obtain⟨v0,v1,v2,aN,e,k0,k1,ha,hb⟩:=h
 exact⟨v0,v1,v2,e,k0,k1,⟨aN,ha,eE.1 hb⟩⟩
theorem wF{i : Imm}{cs : List Value}{s : zH}(h : ∃v0 v1 v2 : Value,cs = [.int .i64 s.Kind,.int .i64 s.Num,v0,.int .i64 s.Index.Const,.string ⟨⟨s.Read.Array.l⟩⟩,v1,v2] /\ SL i v0 s.Index.Coefs /\ SL i v1 s.Read.Subs /\ SL i v2 s.Kids): Rp.rep i cs s:=by
 obtain⟨Kind,Num,Index,Read,Kids⟩:=s
 show zH.repE i _ cs
 simp only[zH.repE]
 obtain⟨v0,v1,v2,e,k0,k1,⟨aN,ha,hb⟩⟩:=h
 exact⟨v0,v1,v2,aN,e,k0,k1,ha,eE.2 hb⟩
theorem wT{i : Imm}{cs : List Value}{s : zH}(h : Rp.rep i cs s): ∃(p0 : Option Addr) (c0 : Nat) (p1 : Option Addr) (c1 : Nat) (p2 : Option Addr) (c2 : Nat),cs = [.int .i64 s.Kind,.int .i64 s.Num,vS p0 s.Index.Coefs c0,.int .i64 s.Index.Const,.string ⟨⟨s.Read.Array.l⟩⟩,vS p1 s.Read.Subs c1,vS p2 s.Kids c2] /\ SL i (vS p0 s.Index.Coefs c0) s.Index.Coefs /\ SL i (vS p1 s.Read.Subs c1) s.Read.Subs /\ SL i (vS p2 s.Kids c2) s.Kids:=by
 obtain⟨v0,v1,v2,e,h0,h1,h2⟩:=zIT h
 obtain⟨p0,c0,rfl⟩:=h0.form
 obtain⟨p1,c1,rfl⟩:=h1.form
 obtain⟨p2,c2,rfl⟩:=h2.form
 exact⟨p0,c0,p1,c1,p2,c2,e,h0,h1,h2⟩
instance : Vr zH:=⟨λi v a => ∃cs,v = .agg ⟨cs⟩ /\ Rp.rep i cs a,λhl ⟨cs,e,h⟩=>⟨cs,e,Rp.mono hl h⟩⟩
structure zI where
 Write : zM
 Value : zH
instance : Rp zI where
 sz:=9
 pos:=by decide
 rep i cs s := ∃v0 v1 v2 v3 : Value,cs = [.string ⟨⟨s.Write.Array.l⟩⟩,v0,.int .i64 s.Value.Kind,.int .i64 s.Value.Num,v1,.int .i64 s.Value.Index.Const,.string ⟨⟨s.Value.Read.Array.l⟩⟩,v2,v3] /\ SL i v0 s.Write.Subs /\ SL i v1 s.Value.Index.Coefs /\ SL i v2 s.Value.Read.Subs /\ SL i v3 s.Value.Kids
 len h:=by obtain⟨v0,v1,v2,v3,rfl,h0,h1,h2,h3⟩:=h;rfl
 mono hm h:=by obtain⟨v0,v1,v2,v3,e,h0,h1,h2,h3⟩:=h;exact⟨v0,v1,v2,v3,e,h0.mono hm,h1.mono hm,h2.mono hm,h3.mono hm⟩
 one h:=by obtain⟨v0,v1,v2,v3,rfl,h0,h1,h2,h3⟩:=h;simp[zHy,zCC,h0.one,h1.one,h2.one,h3.one]
theorem kJ{i : Imm}{cs : List Value}{s : zI}(h : Rp.rep i cs s): ∃v0 v1 v2 v3 : Value,cs = [.string ⟨⟨s.Write.Array.l⟩⟩,v0,.int .i64 s.Value.Kind,.int .i64 s.Value.Num,v1,.int .i64 s.Value.Index.Const,.string ⟨⟨s.Value.Read.Array.l⟩⟩,v2,v3] /\ SL i v0 s.Write.Subs /\ SL i v1 s.Value.Index.Coefs /\ SL i v2 s.Value.Read.Subs /\ SL i v3 s.Value.Kids:=h
theorem wG{i : Imm}{cs : List Value}{s : zI}(h : ∃v0 v1 v2 v3 : Value,cs = [.string ⟨⟨s.Write.Array.l⟩⟩,v0,.int .i64 s.Value.Kind,.int .i64 s.Value.Num,v1,.int .i64 s.Value.Index.Const,.string ⟨⟨s.Value.Read.Array.l⟩⟩,v2,v3] /\ SL i v0 s.Write.Subs /\ SL i v1 s.Value.Index.Coefs /\ SL i v2 s.Value.Read.Subs /\ SL i v3 s.Value.Kids): Rp.rep i cs s:=h
theorem vG{i : Imm}{cs : List Value}{s : zI}(h : Rp.rep i cs s): ∃(p0 : Option Addr) (c0 : Nat) (p1 : Option Addr) (c1 : Nat) (p2 : Option Addr) (c2 : Nat) (p3 : Option Addr) (c3 : Nat),cs = [.string ⟨⟨s.Write.Array.l⟩⟩,vS p0 s.Write.Subs c0,.int .i64 s.Value.Kind,.int .i64 s.Value.Num,vS p1 s.Value.Index.Coefs c1,.int .i64 s.Value.Index.Const,.string ⟨⟨s.Value.Read.Array.l⟩⟩,vS p2 s.Value.Read.Subs c2,vS p3 s.Value.Kids c3] /\ SL i (vS p0 s.Write.Subs c0) s.Write.Subs /\ SL i (vS p1 s.Value.Index.Coefs c1) s.Value.Index.Coefs /\ SL i (vS p2 s.Value.Read.Subs c2) s.Value.Read.Subs /\ SL i (vS p3 s.Value.Kids c3) s.Value.Kids:=by
 obtain⟨v0,v1,v2,v3,e,h0,h1,h2,h3⟩:=kJ h
 obtain⟨p0,c0,rfl⟩:=h0.form
 obtain⟨p1,c1,rfl⟩:=h1.form
 obtain⟨p2,c2,rfl⟩:=h2.form
 obtain⟨p3,c3,rfl⟩:=h3.form
 exact⟨p0,c0,p1,c1,p2,c2,p3,c3,e,h0,h1,h2,h3⟩
instance : Vr zI:=⟨λi v a => ∃cs,v = .agg ⟨cs⟩ /\ Rp.rep i cs a,λhl ⟨cs,e,h⟩=>⟨cs,e,Rp.mono hl h⟩⟩
structure zF where
 Nest : List zG
 Body : List zI
instance : Rp zF where
 sz:=2
 pos:=by decide
 rep i cs s := ∃v0 v1 : Value,cs = [v0,v1] /\ SL i v0 s.Nest /\ SL i v1 s.Body
 len h:=by obtain⟨v0,v1,rfl,h0,h1⟩:=h;rfl
 mono hm h:=by obtain⟨v0,v1,e,h0,h1⟩:=h;exact⟨v0,v1,e,h0.mono hm,h1.mono hm⟩
 one h:=by obtain⟨v0,v1,rfl,h0,h1⟩:=h;simp[h0.one,h1.one]
theorem zDm{i : Imm}{cs : List Value}{s : zF}(h : Rp.rep i cs s): ∃v0 v1 : Value,cs = [v0,v1] /\ SL i v0 s.Nest /\ SL i v1 s.Body:=h
theorem wU{i : Imm}{cs : List Value}{s : zF}(h : ∃v0 v1 : Value,cs = [v0,v1] /\ SL i v0 s.Nest /\ SL i v1 s.Body): Rp.rep i cs s:=h
theorem wI{i : Imm}{cs : List Value}{s : zF}(h : Rp.rep i cs s): ∃(p0 : Option Addr) (c0 : Nat) (p1 : Option Addr) (c1 : Nat),cs = [vS p0 s.Nest c0,vS p1 s.Body c1] /\ SL i (vS p0 s.Nest c0) s.Nest /\ SL i (vS p1 s.Body c1) s.Body:=by
 obtain⟨v0,v1,e,h0,h1⟩:=zDm h
 obtain⟨p0,c0,rfl⟩:=h0.form
 obtain⟨p1,c1,rfl⟩:=h1.form
 exact⟨p0,c0,p1,c1,e,h0,h1⟩
instance : Vr zF:=⟨λi v a => ∃cs,v = .agg ⟨cs⟩ /\ Rp.rep i cs a,λhl ⟨cs,e,h⟩=>⟨cs,e,Rp.mono hl h⟩⟩
structure zC where
 Arrays : List zD
 Parts : List zF
instance : Rp zC where
 sz:=2
 pos:=by decide
 rep i cs s := ∃v0 v1 : Value,cs = [v0,v1] /\ SL i v0 s.Arrays /\ SL i v1 s.Parts
 len h:=by obtain⟨v0,v1,rfl,h0,h1⟩:=h;rfl
 mono hm h:=by obtain⟨v0,v1,e,h0,h1⟩:=h;exact⟨v0,v1,e,h0.mono hm,h1.mono hm⟩
 one h:=by obtain⟨v0,v1,rfl,h0,h1⟩:=h;simp[h0.one,h1.one]
theorem zFn{i : Imm}{cs : List Value}{s : zC}(h : Rp.rep i cs s): ∃v0 v1 : Value,cs = [v0,v1] /\ SL i v0 s.Arrays /\ SL i v1 s.Parts:=h
theorem xJ{i : Imm}{cs : List Value}{s : zC}(h : ∃v0 v1 : Value,cs = [v0,v1] /\ SL i v0 s.Arrays /\ SL i v1 s.Parts): Rp.rep i cs s:=h
theorem kT{i : Imm}{cs : List Value}{s : zC}(h : Rp.rep i cs s): ∃(p0 : Option Addr) (c0 : Nat) (p1 : Option Addr) (c1 : Nat),cs = [vS p0 s.Arrays c0,vS p1 s.Parts c1] /\ SL i (vS p0 s.Arrays c0) s.Arrays /\ SL i (vS p1 s.Parts c1) s.Parts:=by
 obtain⟨v0,v1,e,h0,h1⟩:=zFn h
 obtain⟨p0,c0,rfl⟩:=h0.form
 obtain⟨p1,c1,rfl⟩:=h1.form
 exact⟨p0,c0,p1,c1,e,h0,h1⟩
instance : Vr zC:=⟨λi v a => ∃cs,v = .agg ⟨cs⟩ /\ Rp.rep i cs a,λhl ⟨cs,e,h⟩=>⟨cs,e,Rp.mono hl h⟩⟩
structure yR where
 From : Int
 To : Int
 Kinds : Int
instance : Rp yR where
 sz:=3
 pos:=by decide
 rep i cs s:=cs = [.int .i64 s.From,.int .i64 s.To,.int .i64 s.Kinds]
 len h:=by obtain rfl:=h;rfl
 mono _ h:=h
 one h:=by obtain rfl:=h;simp[zCC]
theorem zEp{i : Imm}{cs : List Value}{s : yR}(h : Rp.rep i cs s): cs = [.int .i64 s.From,.int .i64 s.To,.int .i64 s.Kinds]:=h
theorem zEq{i : Imm}{cs : List Value}{s : yR}(h : cs = [.int .i64 s.From,.int .i64 s.To,.int .i64 s.Kinds]): Rp.rep i cs s:=h
instance : Vr yR:=⟨λi v a => ∃cs,v = .agg ⟨cs⟩ /\ Rp.rep i cs a,λhl ⟨cs,e,h⟩=>⟨cs,e,Rp.mono hl h⟩⟩
structure zR where
 Part : Int
 Stmt : Int
 Point : List Int
instance : Rp zR where
 sz:=3
 pos:=by decide
 rep i cs s := ∃v0 : Value,cs = [.int .i64 s.Part,.int .i64 s.Stmt,v0] /\ SL i v0 s.Point
 len h:=by obtain⟨v0,rfl,h0⟩:=h;rfl
 mono hm h:=by obtain⟨v0,e,h0⟩:=h;exact⟨v0,e,h0.mono hm⟩
 one h:=by obtain⟨v0,rfl,h0⟩:=h;simp[zCC,h0.one]
theorem zFD{i : Imm}{cs : List Value}{s : zR}(h : Rp.rep i cs s): ∃v0 : Value,cs = [.int .i64 s.Part,.int .i64 s.Stmt,v0] /\ SL i v0 s.Point:=h
theorem zBa{i : Imm}{cs : List Value}{s : zR}(h : ∃v0 : Value,cs = [.int .i64 s.Part,.int .i64 s.Stmt,v0] /\ SL i v0 s.Point): Rp.rep i cs s:=h
theorem oH{i : Imm}{cs : List Value}{s : zR}(h : Rp.rep i cs s): ∃(p0 : Option Addr) (c0 : Nat),cs = [.int .i64 s.Part,.int .i64 s.Stmt,vS p0 s.Point c0] /\ SL i (vS p0 s.Point c0) s.Point:=by
 obtain⟨v0,e,h0⟩:=zFD h
 obtain⟨p0,c0,rfl⟩:=h0.form
 exact⟨p0,c0,e,h0⟩
instance : Vr zR:=⟨λi v a => ∃cs,v = .agg ⟨cs⟩ /\ Rp.rep i cs a,λhl ⟨cs,e,h⟩=>⟨cs,e,Rp.mono hl h⟩⟩
structure tH where
 Program : zC
 list : List zR
 reads : List (List Int)
 writes : List Int
instance : Rp tH where
 sz:=5
 pos:=by decide
 rep i cs s := ∃v0 v1 v2 v3 v4 : Value,cs = [v0,v1,v2,v3,v4] /\ SL i v0 s.Program.Arrays /\ SL i v1 s.Program.Parts /\ SL i v2 s.list /\ SL i v3 s.reads /\ SL i v4 s.writes
 len h:=by obtain⟨v0,v1,v2,v3,v4,rfl,h0,h1,h2,h3,h4⟩:=h;rfl
 mono hm h:=by obtain⟨v0,v1,v2,v3,v4,e,h0,h1,h2,h3,h4⟩:=h;exact⟨v0,v1,v2,v3,v4,e,h0.mono hm,h1.mono hm,h2.mono hm,h3.mono hm,h4.mono hm⟩
 one h:=by obtain⟨v0,v1,v2,v3,v4,rfl,h0,h1,h2,h3,h4⟩:=h;simp[h0.one,h1.one,h2.one,h3.one,h4.one]
theorem zGi{i : Imm}{cs : List Value}{s : tH}(h : Rp.rep i cs s): ∃v0 v1 v2 v3 v4 : Value,cs = [v0,v1,v2,v3,v4] /\ SL i v0 s.Program.Arrays /\ SL i v1 s.Program.Parts /\ SL i v2 s.list /\ SL i v3 s.reads /\ SL i v4 s.writes:=h
theorem zGj{i : Imm}{cs : List Value}{s : tH}(h : ∃v0 v1 v2 v3 v4 : Value,cs = [v0,v1,v2,v3,v4] /\ SL i v0 s.Program.Arrays /\ SL i v1 s.Program.Parts /\ SL i v2 s.list /\ SL i v3 s.reads /\ SL i v4 s.writes): Rp.rep i cs s:=h
theorem zDn{i : Imm}{cs : List Value}{s : tH}(h : Rp.rep i cs s): ∃(p0 : Option Addr) (c0 : Nat) (p1 : Option Addr) (c1 : Nat) (p2 : Option Addr) (c2 : Nat) (p3 : Option Addr) (c3 : Nat) (p4 : Option Addr) (c4 : Nat),cs = [vS p0 s.Program.Arrays c0,vS p1 s.Program.Parts c1,vS p2 s.list c2,vS p3 s.reads c3,vS p4 s.writes c4] /\ SL i (vS p0 s.Program.Arrays c0) s.Program.Arrays /\ SL i (vS p1 s.Program.Parts c1) s.Program.Parts /\ SL i (vS p2 s.list c2) s.list /\ SL i (vS p3 s.reads c3) s.reads /\ SL i (vS p4 s.writes c4) s.writes:=by
 obtain⟨v0,v1,v2,v3,v4,e,h0,h1,h2,h3,h4⟩:=zGi h
 obtain⟨p0,c0,rfl⟩:=h0.form
 obtain⟨p1,c1,rfl⟩:=h1.form
 obtain⟨p2,c2,rfl⟩:=h2.form
 obtain⟨p3,c3,rfl⟩:=h3.form
 obtain⟨p4,c4,rfl⟩:=h4.form
 exact⟨p0,c0,p1,c1,p2,c2,p3,c3,p4,c4,e,h0,h1,h2,h3,h4⟩
instance : Vr tH:=⟨λi v a => ∃cs,v = .agg ⟨cs⟩ /\ Rp.rep i cs a,λhl ⟨cs,e,h⟩=>⟨cs,e,Rp.mono hl h⟩⟩
structure zQ where
 b : List UInt8
 p : Int
instance : Rp zQ where
 sz:=2
 pos:=by decide
 rep i cs s := ∃v0 : Value,cs = [v0,.int .i64 s.p] /\ SL i v0 s.b
 len h:=by obtain⟨v0,rfl,h0⟩:=h;rfl
 mono hm h:=by obtain⟨v0,e,h0⟩:=h;exact⟨v0,e,h0.mono hm⟩
 one h:=by obtain⟨v0,rfl,h0⟩:=h;simp[zCC,h0.one]
theorem zA4{i : Imm}{cs : List Value}{s : zQ}(h : Rp.rep i cs s): ∃v0 : Value,cs = [v0,.int .i64 s.p] /\ SL i v0 s.b:=h
theorem xF{i : Imm}{cs : List Value}{s : zQ}(h : ∃v0 : Value,cs = [v0,.int .i64 s.p] /\ SL i v0 s.b): Rp.rep i cs s:=h
theorem yJ{i : Imm}{cs : List Value}{s : zQ}(h : Rp.rep i cs s): ∃(p0 : Option Addr) (c0 : Nat),cs = [vS p0 s.b c0,.int .i64 s.p] /\ SL i (vS p0 s.b c0) s.b:=by
 obtain⟨v0,e,h0⟩:=zA4 h
 obtain⟨p0,c0,rfl⟩:=h0.form
 exact⟨p0,c0,e,h0⟩
instance : Vr zQ:=⟨λi v a => ∃cs,v = .agg ⟨cs⟩ /\ Rp.rep i cs a,λhl ⟨cs,e,h⟩=>⟨cs,e,Rp.mono hl h⟩⟩
structure wE where
 reads : List Int
 write : Int
instance : Rp wE where
 sz:=2
 pos:=by decide
 rep i cs s := ∃v0 : Value,cs = [v0,.int .i64 s.write] /\ SL i v0 s.reads
 len h:=by obtain⟨v0,rfl,h0⟩:=h;rfl
 mono hm h:=by obtain⟨v0,e,h0⟩:=h;exact⟨v0,e,h0.mono hm⟩
 one h:=by obtain⟨v0,rfl,h0⟩:=h;simp[zCC,h0.one]
theorem zH2{i : Imm}{cs : List Value}{s : wE}(h : Rp.rep i cs s): ∃v0 : Value,cs = [v0,.int .i64 s.write] /\ SL i v0 s.reads:=h
theorem zH3{i : Imm}{cs : List Value}{s : wE}(h : ∃v0 : Value,cs = [v0,.int .i64 s.write] /\ SL i v0 s.reads): Rp.rep i cs s:=h
theorem zEr{i : Imm}{cs : List Value}{s : wE}(h : Rp.rep i cs s): ∃(p0 : Option Addr) (c0 : Nat),cs = [vS p0 s.reads c0,.int .i64 s.write] /\ SL i (vS p0 s.reads c0) s.reads:=by
 obtain⟨v0,e,h0⟩:=zH2 h
 obtain⟨p0,c0,rfl⟩:=h0.form
 exact⟨p0,c0,e,h0⟩
instance : Vr wE:=⟨λi v a => ∃cs,v = .agg ⟨cs⟩ /\ Rp.rep i cs a,λhl ⟨cs,e,h⟩=>⟨cs,e,Rp.mono hl h⟩⟩
structure qA where
 nest : List zG
 steps : Int
 out : List (List Int)
instance : Rp qA where
 sz:=3
 pos:=by decide
 rep i cs s := ∃v0 v1 : Value,cs = [v0,.int .i64 s.steps,v1] /\ SL i v0 s.nest /\ SL i v1 s.out
 len h:=by obtain⟨v0,v1,rfl,h0,h1⟩:=h;rfl
 mono hm h:=by obtain⟨v0,v1,e,h0,h1⟩:=h;exact⟨v0,v1,e,h0.mono hm,h1.mono hm⟩
 one h:=by obtain⟨v0,v1,rfl,h0,h1⟩:=h;simp[zCC,h0.one,h1.one]
instance : Vr qA:=⟨λi v a => ∃cs,v = .agg ⟨cs⟩ /\ Rp.rep i cs a,λhl ⟨cs,e,h⟩=>⟨cs,e,Rp.mono hl h⟩⟩
end Go.LN
namespace Go.LN
theorem iM{α:Type}[Rp α]{i j:Imm}(h:i.le j){l:List α}{cs:List Value}(hr:RL i cs l):RL j cs l:=RepL.mono (λ_ _=>Rp.mono h) hr
def stB:List HA->Nat->List Value->(List HA->Option (List HA))->Option (List HA)
 | .blk b _::t,0,c',k=>k (.blk b ⟨c'⟩::t)
 | h::t,j+1,c',k=>stB t j c' λr=>k (h::r)
 | _,_,_,_=>none
theorem zLs:∀{hs:List HA}{j:Nat}{b:Nat}{c:Array Value}{c':List Value}{k:List HA->Option (List HA)},hs[j]?=some (.blk b c)->stB hs j c' k=k (hs.set j (.blk b ⟨c'⟩))
 | [],_,_,_,_,_,h=>by simp at h
 | A::t,0,b,c,c',k,h=>by
  simp only[dg,Option.some.injEq] at h
  subst h;rfl
 | A::t,j+1,b,c,c',k,h=>by
  simp only[d5] at h
  rw[stB,zLs h,eu]
class Mo (X:Prop) (i j:Imm) (Y:outParam Prop):Prop where
 mo:i.le j->X->Y
instance {α:Type} [Rp α] {v:Value}{l:List α}{i j:Imm}:Mo (SL i v l) i j (SL j v l):=⟨λh x=>x.mono h⟩
instance {α:Type} [Rp α] {cs:List Value}{l:List α}{i j:Imm}:Mo (RL i cs l) i j (RL j cs l):=⟨λh x=>iM h x⟩
instance {ad:Addr}{cs:List Value}{i j:Imm}:Mo (At i ad cs) i j (At j ad cs):=⟨λh x=>At.mono h x⟩
instance {α:Type} [Rp α] {v:Value}{o:Option α}{i j:Imm}:Mo (FP i v o) i j (FP j v o):=⟨λh x=>FP.mono x h⟩
instance {α β:Type} [Vr α] [Vr β] {P:Program}{aD:List HA}{v:Value}{φ:α->Option β}{i j:Imm}:Mo (FV1 P i aD v φ) i j (FV1 P j aD v φ):=⟨λh x=>FV1.mono h x⟩
instance {α β γ:Type} [Vr α] [Vr β] [Vr γ] {P:Program}{aD:List HA}{v:Value}{φ:α->β->Option γ}{i j:Imm}:Mo (FV2 P i aD v φ) i j (FV2 P j aD v φ):=⟨λh x=>FV2.mono h x⟩
instance {P:Program}{i j:Imm}:Mo (GH P i) i j (GH P j):=⟨λh x=>GH.mono h x⟩
instance {i0 i j:Imm}:Mo (i0.le i) i j (i0.le j):=⟨λh x=>x.trans h⟩
theorem m2{i j:Imm}{A B A' B':Prop}(h:i.le j)(a:A)(b:B)[Mo A i j A'][Mo B i j B']:A'/\B':=⟨Mo.mo h a,Mo.mo h b⟩
theorem m3{i j:Imm}{A B C A' B' C':Prop}(h:i.le j)(a:A)(b:B)(c:C)[Mo A i j A'][Mo B i j B'][Mo C i j C']:A'/\B'/\C':=⟨Mo.mo h a,Mo.mo h b,Mo.mo h c⟩
theorem m4{i j:Imm}{A B C D A' B' C' D':Prop}(h:i.le j)(a:A)(b:B)(c:C)(d:D)[Mo A i j A'][Mo B i j B'][Mo C i j C'][Mo D i j D']:A'/\B'/\C'/\D':=⟨Mo.mo h a,Mo.mo h b,Mo.mo h c,Mo.mo h d⟩
theorem m5{i j:Imm}{A B C D E A' B' C' D' E':Prop}(h:i.le j)(a:A)(b:B)(c:C)(d:D)(e:E)[Mo A i j A'][Mo B i j B'][Mo C i j C'][Mo D i j D'][Mo E i j E']:A'/\B'/\C'/\D'/\E':=⟨Mo.mo h a,Mo.mo h b,Mo.mo h c,Mo.mo h d,Mo.mo h e⟩
theorem m6{i j:Imm}{A B C D E F A' B' C' D' E' F':Prop}(h:i.le j)(a:A)(b:B)(c:C)(d:D)(e:E)(f:F)[Mo A i j A'][Mo B i j B'][Mo C i j C'][Mo D i j D'][Mo E i j E'][Mo F i j F']:A'/\B'/\C'/\D'/\E'/\F':=⟨Mo.mo h a,Mo.mo h b,Mo.mo h c,Mo.mo h d,Mo.mo h e,Mo.mo h f⟩
abbrev K1{α:Type}(o:α)(I:Imm)(hs:List HA)(m:α->FM):Imm->List HA->FM->Prop:=λI' ag m'=>∃t:α,o=t/\I.le I'/\ag=hs/\m'=m t
section
variable {P:Program}{n:Nat}{B:Base}{af:List Oper}{Q:Exit->Act->World->Prop}{pc:Nat}{imm:Imm}{hs:List HA}{m:FM}{d:Nat}
 {ty:TypeId}{pos:String}{after:Array Edge}{g:Option (Nat×Bool)}
theorem xK{f:FuncId}{x:Operand}{xs:Array Operand}{ts:Array TypeId}{vs:List Value}{post:Nat->Imm->List HA->Value->Prop}
 (hc:Ret P f vs imm [] post)
 (next:∀ap ag v k,imm.le ap->B.w0.heap.size<=k->post k ap ag v->(∀b∈ag.flatMap HA.fp,b∈([]:List HA).flatMap HA.fp∨B.w0.heap.size<=b)->R P n B af Q (pc+1) ap (ag++hs) ((d,v)::m))
 (ho:af[pc]?=some ⟨some d,.call { callee:=.value x,args:=xs,argTypes:=ts },ty,pos,after,g⟩:=by rfl) (hg:guardB af m g=some true:=by rfl) (hn:Nat.blt d n=true:=by rfl) (hx:val m x=some (.func (.func f) #[] #[]):=by rfl) (hf:callable P f=true:=by kernel_rfl)
 (hvs:vals m xs.toList=some vs:=by rfl):R P n B af Q pc imm hs m:=
 zGb (hs1:=[]) (rest:=hs) ho hg hn hx hf hvs rfl hc next
theorem zPt{f:FuncId}{x:Operand}{xs:Array Operand}{ts:Array TypeId}{vs:List Value}(hs1 rest:List HA){post:Nat->Imm->List HA->Value->Prop}
 (hc:Ret P f vs imm hs1 post)
 (next:∀ap ag v k,imm.le ap->B.w0.heap.size<=k->post k ap ag v->(∀b∈ag.flatMap HA.fp,b∈hs1.flatMap HA.fp∨B.w0.heap.size<=b)->R P n B af Q (pc+1) ap (ag++rest) ((d,v)::m))
 (ho:af[pc]?=some ⟨some d,.call { callee:=.value x,args:=xs,argTypes:=ts },ty,pos,after,g⟩:=by rfl) (hg:guardB af m g=some true:=by rfl) (hn:Nat.blt d n=true:=by rfl) (hx:val m x=some (.func (.func f) #[] #[]):=by rfl) (hf:callable P f=true:=by kernel_rfl)
 (hvs:vals m xs.toList=some vs:=by rfl) (hh:hs=hs1++rest:=by rfl):R P n B af Q pc imm hs m:=
 zGb (hs1:=hs1) (rest:=rest) ho hg hn hx hf hvs hh hc next
theorem zBI(m':FM)(h:R P n B af Q pc imm hs m')(hk:keep m (m'.map (·.1))=some m':=by kernel_rfl):R P n B af Q pc imm hs m:=zAe (zB8 hk) h
theorem uX(cs:List Value)(α:Type)[Rp α]{t len:Nat}{parts:Array (Nat×Operand)}{ps:List (Nat×Value)}
 (next:∀b,B.w0.heap.size<=b->R P n B af Q (pc+1) imm (.osl (.slice (some ⟨b,0,none⟩) len len) (Rp.sz α) cs::hs) ((d,.slice (some ⟨b,0,none⟩) len len)::m))
 (ho:af[pc]?=some ⟨some d,.buildSlice t len parts,ty,pos,after,g⟩:=by rfl) (hg:guardB af m g=some true:=by rfl) (hn:Nat.blt d n=true:=by rfl) (hps:pvals m parts.toList=some ps:=by rfl) (hc:elemZ P t len ps=some ⟨cs⟩:=by kernel_rfl) (hl:Nat.beq cs.length (len*Rp.sz α)=true:=by kernel_rfl)
 (hlM:Nat.ble len 9223372036854775807=true:=by rfl):R P n B af Q pc imm hs m:=
 zJm (cs:=cs) (Rp.sz α) ho hg hn hps hc hl next hlM
theorem xY(c:List Value){t:TypeId}
 (next:∀b,B.w0.heap.size<=b->R P n B af Q (pc+1) imm (.blk b ⟨c⟩::hs) ((d,.pointer (some ⟨b,0,none⟩))::m))
 (ho:af[pc]?=some ⟨some d,.alloc t,ty,pos,after,g⟩:=by rfl) (hg:guardB af m g=some true:=by rfl) (hn:Nat.blt d n=true:=by rfl) (hz:zeroC P t=some ⟨c⟩:=by kernel_rfl):R P n B af Q pc imm hs m:=
 zNw (c:=⟨c⟩) ho hg hn hz next
theorem vC(c:List Value){t:TypeId}{x:Operand}{v:Value}
 (next:∀b,B.w0.heap.size<=b->R P n B af Q (pc+1) imm (.blk b ⟨c⟩::hs) ((d,.pointer (some ⟨b,0,none⟩))::m))
 (ho:af[pc]?=some ⟨some d,.box t x,ty,pos,after,g⟩:=by rfl) (hg:guardB af m g=some true:=by rfl) (hn:Nat.blt d n=true:=by rfl) (hx:val m x=some v:=by rfl) (hc:v.cells=⟨c⟩:=by rfl):R P n B af Q pc imm hs m:=
 zPa (c:=⟨c⟩) ho hg hn hx hc next
theorem I_h{its:List It}{gs:List (List HA)}{N:Nat}{l:List (Nat×Bool)}{ops':List Oper}{pc:Nat}(m2:FM)(h:R P n B ops' Q pc imm hs m2)
 (hi:(insM af its l m).bind (λm1=>keep m1 (m2.map (·.1)))=some m2:=by kernel_rfl):Ins af (factsOf N its gs) imm l m hs λm' ag=>R P n B ops' Q pc imm ag m':=by
 obtain⟨m1,h1,h2⟩:=Option.bind_eq_some_iff.1 hi
 refine zFm (λj it hj=>?_) h1 (zAe (zB8 h2) h)
 have aK:=(bZ.1 hj).1
 unfold factsOf
 rw[e7,fx (by rw[cS];exact aK),cY,hj]
 rfl
theorem xO{ops':List Oper}{pc d0:Nat}{φi:Fact}{imm1:Imm}{v:Value}(bH:imm1.le imm)(h0:ops'.drop pc=[]:=by rfl)(hd:look m d0=some v:=by rfl)(hφ:φi imm v []:=by exact⟨rfl,rfl⟩):R P n B ops' (OutQ n B φi (some d0) imm1 hs) pc imm hs m:=
 zAb (hx:=[]) h0 bH rfl (λ_ e=>by cases e;exact hd) hφ
theorem yM{f:FuncId}{fn:Func}{args:List Value}{post:Nat->Imm->List HA->Value->Prop}(hf:P.funcs[f]?=some fn)(h:∀B:Base,J P fn.ntmps B (bodyOf fn) (QB P fn B post) imm hs (argm 0 args))
 (hb:fn.body=some (bodyOf fn):=by rfl) (hn:Nat.ble args.length fn.ntmps=true:=by rfl):Ret P f args imm hs post:=zIL hf hb hn λB _ _=>h B
theorem yN(hx:List HA){ops':List Oper}{pc d0:Nat}{φi:Fact}{imm1:Imm}{hs0:List HA}{v:Value}(bH:imm1.le imm)(hφ:φi imm v hx)(h0:ops'.drop pc=[]:=by rfl)(hh:hs=hx++hs0:=by rfl)(hd:look m d0=some v:=by rfl):R P n B ops' (OutQ n B φi (some d0) imm1 hs0) pc imm hs m:=
 zAb (hx:=hx) h0 bH hh (λ_ e=>by cases e;exact hd) hφ
theorem yD{id:Nat}{af:List Oper}{y:Code}(h:R P n B af (Exit.then (y.wp P Q) Q) 0 imm hs m):J P n B ((Code.region id af.toArray false).seq y) Q imm hs m:=yC (zL h)
theorem yA{x y:Code}(h:J P n B x (Exit.then (y.wp P Q) Q) imm hs m):T n B (Exit.then ((x.seq y).wp P Q) Q) .normal imm hs m:=zK (yC h)
theorem yY{id:Nat}{af:List Oper}{y:Code}(h:R P n B af (Exit.then (y.wp P Q) Q) 0 imm hs m):T n B (Exit.then (((Code.region id af.toArray false).seq y).wp P Q) Q) .normal imm hs m:=zK (yD h)
theorem wZ{id:Nat}{af:List Oper}{y:Code}(new:FM)(hR:T n B (Exit.then (y.wp P Q) Q) .normal imm hs (new++m))(h:runD P n af hs 0 af.length [] (new.map (·.1)) m=some (new,[].map (blkAt hs)):=by kernel_rfl):J P n B ((Code.region id af.toArray false).seq y) Q imm hs m:=yD (wM [] new hR h)
theorem zE3{id:Nat}{af:List Oper}{y:Code}(new:FM)(hR:T n B (Exit.then (y.wp P Q) Q) .normal imm hs (new++m))(h:runD P n af hs 0 af.length [] (new.map (·.1)) m=some (new,[].map (blkAt hs)):=by kernel_rfl):T n B (Exit.then (((Code.region id af.toArray false).seq y).wp P Q) Q) .normal imm hs m:=zK (wZ new hR h)
theorem vH{fn:Func}{post:Nat->Imm->List HA->Value->Prop}{v:Value}(h1:ResV P m hs fn.results.toList [v]:=by exact .tmp rfl ResV.nil)(h2:post B.w0.heap.size imm [] (tupV [v]):=by exact⟨_,rfl,rfl,rfl⟩):T n B (QB P fn B post) .ret imm hs m:=jW ⟨_,_,h1,zO,h2⟩
theorem dC{f:FuncId}{x:Operand}{xs:Array Operand}{ts:Array TypeId}{vs:List Value}{r:Int}
 (hc:Ret P f vs imm [] λ_ _ ag v=>∃v0,ag=[]/\v=tupV [v0]/\v0=.int .i64 r)
 (next:∀ap,imm.le ap->R P n B af Q (pc+1) ap hs ((d,vI r)::m))
 (ho:af[pc]?=some ⟨some d,.call { callee:=.value x,args:=xs,argTypes:=ts },ty,pos,after,g⟩:=by rfl) (hg:guardB af m g=some true:=by rfl) (hn:Nat.blt d n=true:=by rfl) (hx:val m x=some (.func (.func f) #[] #[]):=by rfl) (hf:callable P f=true:=by kernel_rfl)
 (hvs:vals m xs.toList=some vs:=by rfl):R P n B af Q pc imm hs m:=
 xK hc (λap ag v k h1 _ h3 _=>by obtain⟨v0,rfl,rfl,rfl⟩:=h3;exact next ap h1) ho hg hn hx hf hvs
theorem tA{f:FuncId}{x:Operand}{xs:Array Operand}{ts:Array TypeId}{vs:List Value}{r:Bool}
 (hc:Ret P f vs imm [] λ_ _ ag v=>∃v0,ag=[]/\v=tupV [v0]/\v0=.bool r)
 (next:∀ap,imm.le ap->R P n B af Q (pc+1) ap hs ((d,.bool r)::m))
 (ho:af[pc]?=some ⟨some d,.call { callee:=.value x,args:=xs,argTypes:=ts },ty,pos,after,g⟩:=by rfl) (hg:guardB af m g=some true:=by rfl) (hn:Nat.blt d n=true:=by rfl) (hx:val m x=some (.func (.func f) #[] #[]):=by rfl) (hf:callable P f=true:=by kernel_rfl)
 (hvs:vals m xs.toList=some vs:=by rfl):R P n B af Q pc imm hs m:=
 xK hc (λap ag v k h1 _ h3 _=>by obtain⟨v0,rfl,rfl,rfl⟩:=h3;exact next ap h1) ho hg hn hx hf hvs
theorem wW{id:Nat}{K1 K2:Act->World->Prop}(h:T n B Q (.exit id) imm hs m):J P n B (.exit id) (Exit.then K1 (Exit.then K2 Q)) imm hs m:=zIH (dG (dG h))
theorem xH(h:T n B Q .ret imm hs m):T n B (Exit.then ((Code.ret).wp P Q) Q) .normal imm hs m:=zK (xD h)
theorem wN{id:Nat}{c:Code}(h:J P n B c (Exit.inBlock id Q) imm hs m):T n B (Exit.then ((Code.block id c).wp P Q) Q) .normal imm hs m:=zK (yL h)
theorem zZ(is:List Nat){ag:List HA}(h:pick hs is=some ag:=by rfl)(hn:is.Nodup:=by decide):∀w,Good B imm hs w->Good B imm ag w:=zX is h hn
theorem xC{t:TypeId}{x y:Operand}{b o:Nat}{c:Array Value}{v:Value}{ag:List HA}(j:Nat)(c':List Value)(hq:stB hs j c' some=some ag)(next:R P n B af Q (pc+1) imm ag m)(ho:af[pc]?=some ⟨none,.store t x y,ty,pos,after,g⟩:=by rfl)(hj:hs[j]?=some (.blk b c):=by rfl)(hx:val m x=some (.pointer (some ⟨b,o,none⟩)):=by rfl)(hy:val m y=some v:=by rfl)(hg:guardB af m g=some true:=by kernel_rfl)(bO:sizeT P t=some v.cells.size:=by kernel_rfl)(bP:Nat.ble (o+v.cells.size) c.size=true:=by kernel_rfl)(bM:v.cells.toList.all Value.oneCell'=true:=by kernel_rfl)(hc:wr c o v.cells.toList=⟨c'⟩:=by kernel_rfl):R P n B af Q pc imm hs m:=
 jV j c' ag ho hj hx hy next hg bO bP bM hc (by rw[zLs hj] at hq;exact Option.some.inj hq)
end
theorem bE{α β:Type}{o:Option α}{f:α->Option β}{r:β}{G:Prop}(h:(o >>= f)=some r)(k:∀x,o=some x->f x=some r->G):G:=by
 obtain⟨x,h1,h2⟩:=zB h;exact k x h1 h2
theorem ct{α:Type}{o t:α}{P1:Prop}{P2 P3:α->Prop}(hM:(pure t:Option α)=some o)(H:P1)(h2:P2 t:=by rfl)(h3:P3 t:=by rfl):∃t',o=t'/\P1/\P2 t'/\P3 t':=⟨t,(zE hM).symm,H,h2,h3⟩
abbrev NG(Q:Exit->Act->World->Prop):Prop:=∀gl a w,¬Q (.goto gl) a w
abbrev NO(Q:Exit->Act->World->Prop):Prop:=∀a w,¬Q .outgrown a w
abbrev cStmt(x:zI)(p0:Option Addr)(c0:Nat)(p1:Option Addr)(c1:Nat)(p2:Option Addr)(c2:Nat)(p3:Option Addr)(c3:Nat):List Value:=[vT x.Write.Array.l,vS p0 x.Write.Subs c0,vI x.Value.Kind,vI x.Value.Num,vS p1 x.Value.Index.Coefs c1,vI x.Value.Index.Const,vT x.Value.Read.Array.l,vS p2 x.Value.Read.Subs c2,vS p3 x.Value.Kids c3]
abbrev cExpr(x:zH)(p0:Option Addr)(c0:Nat)(p1:Option Addr)(c1:Nat)(p2:Option Addr)(c2:Nat):List Value:=[vI x.Kind,vI x.Num,vS p0 x.Index.Coefs c0,vI x.Index.Const,vT x.Read.Array.l,vS p1 x.Read.Subs c1,vS p2 x.Kids c2]
abbrev cAccess(x:zM)(p0:Option Addr)(c0:Nat):List Value:=[vT x.Array.l,vS p0 x.Subs c0]
abbrev cAff(x:zA)(p0:Option Addr)(c0:Nat):List Value:=[vS p0 x.Coefs c0,vI x.Const]
abbrev cLoop(x:zG)(p0:Option Addr)(c0:Nat)(p1:Option Addr)(c1:Nat):List Value:=[vS p0 x.Lo c0,vS p1 x.Hi c1]
abbrev cPart(x:zF)(p0:Option Addr)(c0:Nat)(p1:Option Addr)(c1:Nat):List Value:=[vS p0 x.Nest c0,vS p1 x.Body c1]
abbrev cProg(x:zC)(p0:Option Addr)(c0:Nat)(p1:Option Addr)(c1:Nat):List Value:=[vS p0 x.Arrays c0,vS p1 x.Parts c1]
abbrev cArr(x:zD)(p0:Option Addr)(c0:Nat):List Value:=[vT x.Name.l,vS p0 x.Dims c0]
abbrev cRd(x:zQ)(p0:Option Addr)(c0:Nat):List Value:=[vS p0 x.b c0,vI x.p]
abbrev cInst(x:zR)(p0:Option Addr)(c0:Nat):List Value:=[vI x.Part,vI x.Stmt,vS p0 x.Point c0]
abbrev zExpr:List Value:=[vI 0,vI 0,.slice none 0 0,vI 0,vT ([]),.slice none 0 0,.slice none 0 0]
abbrev zTwo:List Value:=[.slice none 0 0,.slice none 0 0]
abbrev z0:Value:=.slice none 0 0
abbrev vF:Value:=.bool false
abbrev vY:Value:=.bool true
abbrev KT:=Nat->Imm->List HA->Value->Prop
theorem iS(i:Imm):i.le i:=Imm.le.refl i
theorem iR{i:Imm}:i.le i:=Imm.le.refl i
abbrev S4{α:Type}[Rp α](imm:Imm)(p:Option Addr)(l:List α)(c:Nat):Prop:=SL imm (vS p l c) l
end Go.LN
namespace Go.LN
theorem zGk:∀{ks:List Nat}{m m':FM},keep m ks=some m'->m'.map (·.1)=ks
 | [],m,m',h=>by simp only[keep] at h;cases h;rfl
 | k::ks,m,m',h=>by
  simp only[keep] at h
  split at h
  ·rename_i v m1 h1 h2;cases h;rw[cG,zGk h2]
  ·cases h
theorem zEZ{P:Program}{n:Nat}{af:List Oper}{hs:List HA}{pc k:Nat}{js ks:List Nat}{m new:FM}{bs:List Nat}(h:runD P n af hs pc k js ks m=some (new,bs)):new.map (·.1)=ks:=by
 unfold runD at h;split at h
 ·split at h
  ·rename_i hk;cases h;exact zGk hk
  ·cases h
 ·cases h
section
variable {P:Program}{n:Nat}{B:Base}{af:List Oper}{Q:Exit->Act->World->Prop}{pc:Nat}{imm:Imm}{hs:List HA}{m new:FM}{d:Nat}
theorem yG(pc':Nat)(js ks:List Nat)(h:runD P n af hs pc (pc' - pc) js ks m=some (new,js.map (blkAt hs)))(hR:R P n B af Q pc' imm hs (new++m))
 (hl:Nat.beq (pc+((af.drop pc).take (pc' - pc)).length) pc'=true:=by kernel_rfl):R P n B af Q pc imm hs m:=uW pc' js new hR (by rw[zEZ h];exact h) hl
theorem yQ(js ks:List Nat)(h:runD P n af hs pc af.length js ks m=some (new,js.map (blkAt hs)))(hR:T n B Q .normal imm hs (new++m)):R P n B af Q pc imm hs m:=wM js new hR (by rw[zEZ h];exact h)
theorem zB2(pc':Nat)(js ks:List Nat)(h:runD P n af hs pc (pc' - pc) js ks m=some (new,js.map (blkAt hs)))(hR:Rq P n B af Q pc' imm hs (new++m))
 (hl:Nat.beq (pc+((af.drop pc).take (pc' - pc)).length) pc'=true:=by kernel_rfl):Rq P n B af Q pc imm hs m:=zPs pc' js new hR (by rw[zEZ h];exact h) hl
theorem zK5(js ks:List Nat)(h:runD P n af hs pc af.length js ks m=some (new,js.map (blkAt hs)))(hR:T n B Q .normal imm hs (new++m)):Rq P n B af Q pc imm hs m:=zLY js new hR (by rw[zEZ h];exact h)
theorem yK{id:Nat}{af:List Oper}{y:Code}(ks:List Nat)(h:runD P n af hs 0 af.length [] ks m=some (new,[]))(hR:T n B (Exit.then (y.wp P Q) Q) .normal imm hs (new++m)):J P n B ((Code.region id af.toArray false).seq y) Q imm hs m:=yD (yQ [] ks h hR)
theorem vM{id:Nat}{af:List Oper}{y:Code}(ks:List Nat)(h:runD P n af hs 0 af.length [] ks m=some (new,[]))(hR:T n B (Exit.then (y.wp P Q) Q) .normal imm hs (new++m)):T n B (Exit.then (((Code.region id af.toArray false).seq y).wp P Q) Q) .normal imm hs m:=zK (yK ks h hR)
theorem yZ{e:Exit}{m':FM}(h:T n B Q e imm hs m')(hk:keep m (m'.map (·.1))=some m':=by kernel_rfl):T n B Q e imm hs m:=T_w m' h hk
theorem nX{c:Code}{m':FM}(h:J P n B c Q imm hs m')(hk:keep m (m'.map (·.1))=some m':=by kernel_rfl):J P n B c Q imm hs m:=qX m' h hk
theorem yW{its:List It}{gs:List (List HA)}{N:Nat}{l:List (Nat×Bool)}{ops':List Oper}{m2:FM}(ks:List Nat)
 (hi:(insM af its l m).bind (λm1=>keep m1 ks)=some m2) (h:R P n B ops' Q pc imm hs m2):Ins af (factsOf N its gs) imm l m hs λm' ag=>R P n B ops' Q pc imm ag m' :=
 I_h m2 h (by
  obtain⟨m1,h1,h2⟩:=Option.bind_eq_some_iff.1 hi
  rw[zGk h2];exact hi)
theorem wR(qs:List Nat){c:Bool}{α:Type}{X Y:Option α}{r:α}(hM:(if c=true then X else Y)=some r)(ht:c=true->X=some r->R P n B af Q pc imm hs (qs.map (λq=>(q,Value.bool true))++m))
 (hf:c=false->Y=some r->R P n B af Q pc imm hs (qs.map (λq=>(q,Value.bool false))++m)) (hq:keep m qs=some (qs.map λq=>(q,Value.bool c)):=by kernel_rfl):R P n B af Q pc imm hs m:=by
 cases c with
 | true=>exact zOB (λa f=>zIR hq (λ_ _ _ h=>h) a f) (ht rfl hM)
 | false=>exact zOB (λa f=>zIR hq (λ_ _ _ h=>h) a f) (hf rfl hM)
theorem zIU(qs:List Nat){c:Bool}{α:Type}{X Y:Option α}{r:α}(hM:(if c=true then X else Y)=some r)(ht:c=true->X=some r->Rq P n B af Q pc imm hs (qs.map (λq=>(q,Value.bool true))++m))
 (hf:c=false->Y=some r->Rq P n B af Q pc imm hs (qs.map (λq=>(q,Value.bool false))++m)) (hq:keep m qs=some (qs.map λq=>(q,Value.bool c)):=by kernel_rfl):Rq P n B af Q pc imm hs m:=by
 cases c with
 | true=>exact zLo (λa f=>zIR hq (λ_ _ _ h=>h) a f) (ht rfl hM)
 | false=>exact zLo (λa f=>zIR hq (λ_ _ _ h=>h) a f) (hf rfl hM)
theorem zPu(α:Type)[Rp α](h:RL imm [] ([]:List α)->R P n B af Q pc imm (hO α (.slice none 0 0) []::hs) m):R P n B af Q pc imm hs m:=tX (fN (Rp.sz α)) (h RepL.nil)
theorem zA6(α:Type)[Rp α]{c:Code}(h:RL imm [] ([]:List α)->J P n B c Q imm (hO α (.slice none 0 0) []::hs) m):J P n B c Q imm hs m:=qZ (fN (Rp.sz α)) (h RepL.nil)
theorem mH{α:Type}[Rp α]{cs:List Value}{l:List α}(hr:RL imm cs l){t len:Nat}{parts:Array (Nat×Operand)}{ps:List (Nat×Value)}{ty:TypeId}{pos:String}{after:Array Edge}{g:Option (Nat×Bool)}
 (next:∀b ap,imm.le ap->SL ap (.slice (some ⟨b,0,none⟩) len len) l->R P n B af Q (pc+1) ap hs ((d,.slice (some ⟨b,0,none⟩) len len)::m))
 (ho:af[pc]?=some ⟨some d,.buildSlice t len parts,ty,pos,after,g⟩:=by rfl) (hg:guardB af m g=some true:=by rfl) (hn:Nat.blt d n=true:=by rfl) (hps:pvals m parts.toList=some ps:=by rfl) (hc:elemZ P t len ps=some ⟨cs⟩:=by kernel_rfl) (hl:Nat.beq cs.length (len*Rp.sz α)=true:=by kernel_rfl)
 (hlM:Nat.ble len 9223372036854775807=true:=by rfl):R P n B af Q pc imm hs m:=
 uX cs α (λb _=>xV 0 rfl λap bH hl0=>next b ap bH (SL.of_frozen hl0 bH hr)) ho hg hn hps hc hl hlM
theorem qB{f:FuncId}{x:Operand}{xs:Array Operand}{ts:Array TypeId}{vs:List Value}{hs1 rest:List HA}{post:Nat->Imm->List HA->Value->Prop}{ty:TypeId}{pos:String}{after:Array Edge}{g:Option (Nat×Bool)}
 (hc:Ret P f vs imm hs1 post) (hh:hs=hs1++rest)
 (next:∀ap ag v k,imm.le ap->B.w0.heap.size<=k->post k ap ag v->(∀b∈ag.flatMap HA.fp,b∈hs1.flatMap HA.fp∨B.w0.heap.size<=b)->R P n B af Q (pc+1) ap (ag++rest) ((d,v)::m))
 (ho:af[pc]?=some ⟨some d,.call { callee:=.value x,args:=xs,argTypes:=ts },ty,pos,after,g⟩:=by rfl) (hg:guardB af m g=some true:=by rfl) (hn:Nat.blt d n=true:=by rfl) (hx:val m x=some (.func (.func f) #[] #[]):=by rfl) (hf:callable P f=true:=by kernel_rfl)
 (hvs:vals m xs.toList=some vs:=by rfl):R P n B af Q pc imm hs m:=zPt hs1 rest hc next ho hg hn hx hf hvs hh
theorem vQ{α γ:Type}{x:Option α}{f:α->Option γ}{r:γ}{c:Code}(hM:(x >>= f)=some r)(hs0:List HA)(mf:α->FM)
 (h:∀o,x=some o->J P n B c (Exit.then (λa w=>∃ap ag m',K1 o imm hs0 mf ap ag m'/\Fr n a m'/\Good B ap ag w) Q) imm hs m)
 (k:∀t ap,imm.le ap->f t=some r->T n B Q .normal ap hs0 (mf t)):J P n B c Q imm hs m:=by
 obtain⟨o,h1,h2⟩:=zB hM
 refine nP (K1 o imm hs0 mf) (h o h1) ?_
 rintro ap _ _ ⟨t,rfl,bH,rfl,rfl⟩
 exact k _ ap bH h2
end
theorem rN{α:Type}[Rp α]{i:Imm}:RL i [] ([]:List α):=RepL.nil
theorem rc{α:Type}[Rp α]{i:Imm}{c1 c2:List Value}{l:List α}(a:α)(h:Rp.rep i c1 a)(t:RL i c2 l):RL i (c1++c2) (a::l):=⟨c1,c2,rfl,Rp.len h,h,t⟩
theorem rI{i:Imm}:∀(l:List Int),RL i (l.map vI) l
 | []=>RepL.nil
 | a::l=>⟨[vI a],l.map vI,rfl,rfl,rfl,rI l⟩
theorem rT{i:Imm}:∀(l:List Str),RL i (l.map λs=>vT s.l) l
 | []=>RepL.nil
 | a::l=>⟨[vT a.l],l.map λs=>vT s.l,rfl,rfl,rfl,rT l⟩
end Go.LN
namespace Go.LN
section
variable {P:Program}{n:Nat}{B:Base}{Q:Exit->Act->World->Prop}{imm:Imm}{hs:List HA}{m:FM}{af:List Oper}{pc d:Nat}{ty:TypeId}{pos:String}{after:Array Edge}{g:Option (Nat×Bool)}
theorem zOf{α β:Type}[Vr α][Vr β]{x y:Operand}{ts:Array TypeId}{v va:Value}{a:α}{r:β}{φ:α->Option β}
 (ho:af[pc]?=some ⟨some d,.call { callee:=.value x,args:=#[y],argTypes:=ts },ty,pos,after,g⟩) (hy:val m y=some va) (hF:FV1 P imm [] v φ) (hr:φ a=some r) (ha:Vr.rep imm va a)
 (next:∀ap u,imm.le ap->Vr.rep ap u r->R P n B af Q (pc+1) ap hs ((d,u)::m)) (hx:val m x=some v:=by kernel_rfl) (hg:guardB af m g=some true:=by kernel_rfl) (hn:Nat.blt d n=true:=by kernel_rfl):R P n B af Q pc imm hs m:=
 zK3 (rest:=hs) ho hy hF hr ha rfl next hx hg hn
end
theorem Ret.fz{P:Program}{f:FuncId}{args:List Value}{imm:Imm}{hs:List HA}{post post':Nat->Imm->List HA->Value->Prop}(h:Ret P f args imm hs post)(hp:∀k i h v,post k i h v->∃A r,h=A::r/\A.plain=true/\∀i',i.le i'->Lent i' A->post' k i' r v):Ret P f args imm hs post' :=
 λw g=>(h w g).mono λe w' he=>by
  cases e with
  | returned v=>
   obtain⟨i,ag,h1,h2⟩:=he
   obtain⟨A,r,rfl,pl,h3⟩:=hp _ _ _ _ h1
   obtain⟨i',le,hL,hg⟩:=Good.freeze h2 pl
   exact⟨i',r,h3 i' le hL,hg⟩
  | panicked c=>exact he
  | outgrown=>exact he
end Go.LN
namespace Go.LN
section
variable {P:Program}{n:Nat}{B:Base}{af:List Oper}{Q:Exit->Act->World->Prop}{pc:Nat}{imm:Imm}{hs:List HA}{m:FM}{d:Nat}
theorem resT{t:Nat}{v:Value}(h:look m t=some v):ResV P m hs [.tmp t] [v]:=.tmp h .nil
theorem resU{t t':Nat}{v v':Value}(h:look m t=some v)(h':look m t'=some v'):ResV P m hs [.tmp t,.tmp t'] [v,v']:=.tmp h (.tmp h' .nil)
theorem resC{t:Nat}{ty:TypeId}{v:Value}{b:Nat}{c:Array Value}(j:Nat)(hj:hs[j]?=some (.blk b c))(h:look m t=some (.pointer (some ⟨b,0,none⟩)))(hv:loadV P ty c.toList=some v:=by kernel_rfl):ResV P m hs [.cell t ty] [v]:=.cell j hj h hv .nil
theorem resE{t t':Nat}{ty:TypeId}{v v':Value}{b:Nat}{c:Array Value}(j:Nat)(hj:hs[j]?=some (.blk b c))(h:look m t=some (.pointer (some ⟨b,0,none⟩)))(h':look m t'=some v')(hv:loadV P ty c.toList=some v:=by kernel_rfl):ResV P m hs [.cell t ty,.tmp t'] [v,v']:=.cell j hj h hv (.tmp h' .nil)
theorem zFE{fn:Func}{post:Nat->Imm->List HA->Value->Prop}{vs:List Value}{hs0:List HA}(h1:ResV P m hs fn.results.toList vs)(h2:∀w,Good B imm hs w->Good B imm hs0 w)(h3:post B.w0.heap.size imm hs0 (tupV vs)):T n B (QB P fn B post) .ret imm hs m:=jW ⟨_,_,h1,h2,h3⟩
theorem xX{α:Type}{a r:α}{fn:Func}{post:α->Nat->Imm->List HA->Value->Prop}{vs:List Value}{hs0:List HA}(hM:(pure a:Option α)=some r)(h1:ResV P m hs fn.results.toList vs)(h2:∀w,Good B imm hs w->Good B imm hs0 w)(h3:post a B.w0.heap.size imm hs0 (tupV vs)):T n B (QB P fn B (post r)) .ret imm hs m:=by
 obtain rfl:=zE hM;exact jW ⟨_,_,h1,h2,h3⟩
theorem nG(h:∀gl a w,Q (.goto gl) a w->False:=by exact λ_ _ _ h=>h):NG Q:=h
theorem nO(h:∀a w,Q .outgrown a w->False:=by exact λ_ _ h=>h):NO Q:=h
theorem O2{φ:List Fact}{hsC:List HA}{i:Nat}{v v1:Value}{js js1:List Nat}{r:List It}{l l1:List (Nat×Bool)}{ins:List (List (Nat×Bool))}(h:ObX P n B af φ imm hsC m (i+1+1) r ins):ObX P n B af φ imm hsC m i (.p v js::.p v1 js1::r) (l::l1::ins):=h
theorem O3{φ:List Fact}{hsC:List HA}{i:Nat}{v v1 v2:Value}{js js1 js2:List Nat}{r:List It}{l l1 l2:List (Nat×Bool)}{ins:List (List (Nat×Bool))}(h:ObX P n B af φ imm hsC m (i+1+1+1) r ins):ObX P n B af φ imm hsC m i (.p v js::.p v1 js1::.p v2 js2::r) (l::l1::l2::ins):=h
theorem O4{φ:List Fact}{hsC:List HA}{i:Nat}{v v1 v2 v3:Value}{js js1 js2 js3:List Nat}{r:List It}{l l1 l2 l3:List (Nat×Bool)}{ins:List (List (Nat×Bool))}(h:ObX P n B af φ imm hsC m (i+1+1+1+1) r ins):ObX P n B af φ imm hsC m i (.p v js::.p v1 js1::.p v2 js2::.p v3 js3::r) (l::l1::l2::l3::ins):=h
theorem vE{α:Type}{p:Option Addr}{c:Nat}{l l':List α}(h:l'.length=l.length):vS p l c=vS p l' c:=by simp only[vS,h]
theorem zMT{α:Type}[Rp α]{t:TypeId}{x z:Operand}{ty:TypeId}{pos:String}{after:Array Edge}{g:Option (Nat×Bool)}{v0:Value}{i:Int}{ad:Addr}{cs cc c:List Value}{v:Value}{l l':List α}{y x':α}(j o:Nat)(aq:AtO v0 (Rp.sz α) i.toNat ad)(bI:(cs.drop (i.toNat*Rp.sz α)).take (Rp.sz α)=cc)(hr:RepL (Rp.rep imm) (Rp.sz α) cs l)(hy:idx l i=some y)(hl:(pure (l.set i.toNat x'):Option (List α))=some l')(hx':Rp.rep imm c x')
 (next:∀cs',RepL (Rp.rep imm) (Rp.sz α) cs' l'->l'.length=l.length->R P n B af Q (pc+1) imm (hs.set j (.osl v0 (Rp.sz α) cs')) m)
 (ho:af[pc]?=some ⟨none,.store t x z,ty,pos,after,g⟩:=by rfl) (hg:guardB af m g=some true:=by rfl) (hj:hs[j]?=some (.osl v0 (Rp.sz α) cs):=by rfl) (hx:val m x=some (.pointer (some (ad.add o))):=by rfl) (hz:val m z=some v:=by rfl)
 (bO:sizeT P t=some v.cells.size:=by kernel_rfl) (bP:Nat.ble (o+v.cells.size) (Rp.sz α)=true:=by kernel_rfl) (bM:v.cells.toList.all Value.oneCell'=true:=by kernel_rfl) (hc:cc.take o++v.cells.toList++cc.drop (o+v.cells.size)=c:=by rfl):R P n B af Q pc imm hs m:=by
 obtain rfl:=zE hl
 exact gX j o ho hg hj aq hx hz bI bO bP bM hr hy hc hx' next
end
end Go.LN
namespace Go.LN
theorem rE{x:Int}(h0:-9223372036854775808<=x)(h1:x<=9223372036854775807):W x=x:=by
 show IntKind.i64.wrap x=x;rw[IntKind.wrap_i64];omega
theorem zE0{α:Type}(l:List α)(k:Nat):idx l (k:Int)=l[k]?:=by
 unfold idx;simp
theorem zIV{k:Nat}(h:k<9223372036854775807):W ((k:Int)+1)=((k+1:Nat):Int):=by
 rw[rE (by omega) (by omega)];omega
end Go.LN
namespace Go.LN
structure Raw2 where
 a:Value
 b:Value
instance:Rp Raw2 where
 sz:=2
 pos:=by decide
 rep _ cs r:=cs=[r.a,r.b]/\r.a.oneCell'=true/\r.b.oneCell'=true
 len h:=by obtain⟨rfl,_⟩:=h;rfl
 mono _ h:=h
 one h:=by obtain⟨rfl,h1,h2⟩:=h;simp[h1,h2]
def flat:List Raw2->List Value
 | []=>[]
 | r::l=>r.a::r.b::flat l
theorem zCD:∀(a b:List Raw2),flat (a++b)=flat a++flat b
 | [],_=>rfl
 | r::a,b=>by simp[flat,zCD a b]
theorem fO{imm:Imm}:∀{l:List Raw2}{cs:List Value},RL imm cs l->cs=flat l
 | [],cs,h=>h
 | r::l,cs,⟨c1,c2,h1,_,h3,h4⟩=>by
  obtain⟨rfl,_⟩:=h3
  rw[h1,fO h4];rfl
def LP(imm:Imm)(al:List Raw2)(parts:List zF)(vN:Value)(nl:List zG)(vB:Value)(bl:List zI):Prop:=
 parts.length<=140737488355328/\al.length=parts.length /\
  ((parts=[]/\al=[])∨∃rl l,parts=l++[⟨nl,bl⟩]/\al=rl++[⟨vN,vB⟩]/\RepL (Rp.rep imm) (Rp.sz zF) (flat rl) l)
theorem LP.mono{i j:Imm}(hl:i.le j){al:List Raw2}{parts:List zF}{vN vB:Value}{nl:List zG}{bl:List zI}(h:LP i al parts vN nl vB bl):LP j al parts vN nl vB bl:=by
 obtain⟨h1,h2,h3⟩:=h;refine⟨h1,h2,h3.imp id ?_⟩;rintro⟨rl,l,k1,k2,k3⟩;exact⟨rl,l,k1,k2,RepL.mono (λ_ _=>Rp.mono hl) k3⟩
structure L4(imm:Imm)(cs:List Value)(arr:List zD)(au:List Value)(al:List Raw2)(parts:List zF)(vN:Value)(nl:List zG)(vB:Value)(bl:List zI)(csN csB:List Value):Prop where
 arr:RL imm cs arr
 raw:RL imm au al
 lp:LP imm al parts vN nl vB bl
 n:RL imm csN nl
 b:RL imm csB bl
theorem L4.mono{i j:Imm}(hl:i.le j){cs:List Value}{arr:List zD}{au:List Value}{al:List Raw2}{parts:List zF}{vN vB:Value}{nl:List zG}{bl:List zI}{csN csB:List Value}
 (h:L4 i cs arr au al parts vN nl vB bl csN csB):L4 j cs arr au al parts vN nl vB bl csN csB:=
 ⟨RepL.mono (λ_ _=>Rp.mono hl) h.arr,RepL.mono (λ_ _=>Rp.mono hl) h.raw,h.lp.mono hl,RepL.mono (λ_ _=>Rp.mono hl) h.n,RepL.mono (λ_ _=>Rp.mono hl) h.b⟩
theorem LP.len{imm:Imm}{al:List Raw2}{parts:List zF}{vN vB:Value}{nl:List zG}{bl:List zI}(h:LP imm al parts vN nl vB bl):(parts.length:Int)=(al.length:Int):=by rw[h.2.1]
theorem LP.last{imm:Imm}{al:List Raw2}{parts:List zF}{vN vB:Value}{nl:List zG}{bl:List zI}(h:LP imm al parts vN nl vB bl){x:zF}(hx:idx parts (W ((al.length:Int) - 1))=some x):
 x=⟨nl,bl⟩/\idx al (W ((al.length:Int) - 1))=some ⟨vN,vB⟩ /\
  ∀vN' nl' vB' bl',LP imm (al.set (W ((al.length:Int) - 1)).toNat ⟨vN',vB'⟩) (parts.set (W ((al.length:Int) - 1)).toNat ⟨nl',bl'⟩) vN' nl' vB' bl':=by
 obtain⟨h1,h2,h3⟩:=h
 have hW:W ((al.length:Int) - 1)=(al.length:Int) - 1:=rE (by omega) (by omega)
 rw[hW] at hx ⊢
 rcases h3 with⟨rfl,rfl⟩|⟨rl,l,rfl,rfl,h4⟩
 ·simp[idx] at hx
 ·have hl:l.length=rl.length:=by simpa using h2.symm
  have e:(((rl++[(⟨vN,vB⟩:Raw2)]).length:Int) - 1).toNat=rl.length:=by simp
  have e0:(0:Int)<=((rl++[(⟨vN,vB⟩:Raw2)]).length:Int) - 1:=by simp
  unfold idx at hx ⊢
  rw[if_pos e0,e] at hx ⊢
  rw[<- hl] at hx
  refine⟨by simpa using hx.symm,by simp,λvN' nl' vB' bl'=>⟨?_,?_,.inr ⟨rl,l,?_,?_,h4⟩⟩⟩
  ·simpa using h1
  ·simpa using h2
  ·rw[<- hl];simp
  ·simp
theorem LP.part{imm:Imm}{al:List Raw2}{parts:List zF}{vN vB:Value}{nl:List zG}{bl:List zI}(h:LP imm al parts vN nl vB bl)(hN:SL imm vN nl)(hB:SL imm vB bl){l1:List zF}
 (ha:app 48 parts [(⟨[],[]⟩:zF)]=some l1):LP imm (al++[⟨.slice none 0 0,.slice none 0 0⟩]) l1 (.slice none 0 0) [] (.slice none 0 0) []:=by
 obtain⟨hb,rfl⟩:=zBH ha
 obtain⟨h1,h2,h3⟩:=h
 refine⟨?_,?_,.inr ⟨al,parts,rfl,rfl,?_⟩⟩
 ·simp at hb ⊢;omega
 ·simp[h2]
 ·rcases h3 with⟨rfl,rfl⟩|⟨rl,l,rfl,rfl,h4⟩
  ·rfl
  ·rw[zCD]
   exact h4.append (.single rfl (wU ⟨_,_,rfl,hN,hB⟩))
theorem zHz{α β:Type}{b:Nat}{l:List α}{m:List α}{l':List β}{m':List β}{y:List α}(h:app b l m=some y)(h1:l'.length=l.length)(h2:m'.length=m.length):app b l' m'=some (l'++m'):=by
 obtain⟨k,_⟩:=zBH h;unfold app;rw[h1,h2,if_pos k]
theorem LP.done{imm:Imm}{al:List Raw2}{parts:List zF}{vN vB:Value}{nl:List zG}{bl:List zI}(h:LP imm al parts vN nl vB bl)(hN:SL imm vN nl)(hB:SL imm vB bl):RepL (Rp.rep imm) (Rp.sz zF) (flat al) parts:=by
 obtain⟨h1,h2,h3⟩:=h;rcases h3 with⟨rfl,rfl⟩|⟨rl,l,rfl,rfl,h4⟩
 ·rfl
 ·rw[zCD];exact h4.append (.single rfl (wU ⟨_,_,rfl,hN,hB⟩))
section
variable {P:Program}{n:Nat}{B:Base}{Q:Exit->Act->World->Prop}{imm:Imm}{hs:List HA}{m:FM}{af:List Oper}{pc d:Nat}{ty:TypeId}{pos:String}{after:Array Edge}{g:Option (Nat×Bool)}
theorem zOg{t:TypeId}{x y:Operand}{b o:Nat}{c:Array Value}{v:Value}(j:Nat)(c':List Value)(ag:List HA)(ho:af[pc]?=some ⟨none,.store t x y,ty,pos,after,g⟩)(hj:hs[j]?=some (.blk b c))(hx:val m x=some (.pointer (some ⟨b,o,none⟩)))(hy:val m y=some v)(bM:v.cells.toList.all Value.oneCell'=true)(next:R P n B af Q (pc+1) imm ag m)(hg:guardB af m g=some true:=by kernel_rfl)(bO:sizeT P t=some v.cells.size:=by kernel_rfl)(bP:Nat.ble (o+v.cells.size) c.size=true:=by kernel_rfl)(hc:wr c o v.cells.toList=⟨c'⟩:=by kernel_rfl)(hh:hs.set j (.blk b ⟨c'⟩)=ag:=by rfl):R P n B af Q pc imm hs m:=
 zHW j ho hg hj hx hy bO bP bM hc hh next
end
end Go.LN
namespace Go.LN
open Go.RowKit
theorem Good.below{imm:Imm}{w w':World}(h:Good ⟨w,imm,[]⟩ imm [] w)(b:Below w.heap.size w w')(hd:w.drawn<=w'.drawn):Good ⟨w,imm,[]⟩ imm [] w':=by
 refine⟨λk c e=>?_,by simp,by simp,⟨b.os,b.tape,b.output,b.size,λk hk _=>b.block k hk,λ_ _ _=>rfl,hd⟩⟩;obtain⟨ty,fr,e'⟩:=h.inv k c e;exact⟨ty,fr,(b.block k (h.lt_imm e)).trans e'⟩
theorem Good.cell{B:Base}{imm:Imm}{hs:List HA}{w:World}(h:Good B imm hs w){g:Nat}{v:Value}(e:imm g=some #[v]):w.cell? ⟨g,0,none⟩=some v:=by
 obtain⟨ty,fr,e'⟩:=h.inv _ _ e;simp only[World.cell?,e'];simp
theorem zMU{P:Program}{f:FuncId}{args:List Value}{imm:Imm}{v:Value}{post:Nat->Imm->List HA->Value->Prop}
 (h:∀w,Good ⟨w,imm,[]⟩ imm [] w->Calls P f args.toArray w λe w'=>e=.returned v/\Below w.heap.size w w'/\w.drawn<=w'.drawn) (hp:∀k,post k imm [] v):Ret P f args imm [] post:=λw g=>
 (h w g).mono λe w' ⟨he,hb,hd⟩=>by
  subst he
  exact⟨imm,[],hp _,g.below hb hd⟩
theorem At.of_blk{imm:Imm}{b:Nat}{cs:List Value}(h:imm b=some ⟨cs⟩):At imm ⟨b,0,none⟩ cs:=⟨b,0,_,rfl,h,by simp,by simp⟩
section
variable {P:Program}{n:Nat}{B:Base}{af:List Oper}{Q:Exit->Act->World->Prop}{pc:Nat}{imm:Imm}{hs:List HA}{m:FM}{d:Nat}
 {ty:TypeId}{pos:String}{after:Array Edge}{g:Option (Nat×Bool)}
end
end Go.LN
namespace Go.LN
section
variable {P:Program}{n:Nat}{B:Base}{Q:Exit->Act->World->Prop}{imm:Imm}{hs:List HA}{m:FM}{af:List Oper}{pc d:Nat}{ty:TypeId}{pos:String}{after:Array Edge}{g:Option (Nat×Bool)}
theorem zJr{t e:TypeId}{w:World}{p:Option Addr}{l c:Nat}(hu:P.underlying t=some (.slice e)):(Op.equal t (.slice p l c) (.slice none 0 0)).run P w=.ok p.isNone w:=by
 have h:∀d,(Op.equalIn (d+1) t (.slice p l c) (.slice none 0 0)).run P w=.ok p.isNone w:=λd=>by
  rw[Op.equalIn];cases p <;> simp[xL hu]
 exact h 9999
def sliceT(P:Program)(t:TypeId):Bool:=match P.underlying t with|some (.slice _)=>true|_=>false
theorem zOC{t t2:TypeId}{x:Operand}{p:Option Addr}{l c:Nat}(b:Bool)(ho:af[pc]?=some ⟨some d,.binOp .eql t x (.const (.slice none 0 0)) t2,ty,pos,after,g⟩)(hb:p.isNone=b)
 (next:R P n B af Q (pc+1) imm hs ((d,.bool b)::m)) (hx:val m x=some (.slice p l c)) (hg:guardB af m g=some true:=by kernel_rfl) (hn:Nat.blt d n=true:=by kernel_rfl) (ht:sliceT P t=true:=by kernel_rfl):R P n B af Q pc imm hs m:=by
 unfold sliceT at ht
 split at ht
 ·rename_i e hu
  refine kF ho hg rfl hn λa w f gd=>⟨.bool b,w,imm,hs,?_,gd,next⟩
  have hy:a.eval (.const (.slice none 0 0))=.slice none 0 0:=rfl
  simp[execOp,f.eval hx,hy,eqGuard,binOp,zJr hu,hb]
 ·cases ht
end
end Go.LN
namespace Go.LN
section
variable {P:Program}{n:Nat}{B:Base}{Q:Exit->Act->World->Prop}{imm:Imm}{hs:List HA}{m:FM}
theorem zIW{c:Code}(ag:List HA)(hp:ag.Perm hs)(h:J P n B c Q imm ag m):J P n B c Q imm hs m:=λa w f g=>h a w f (g.perm hp)
theorem zPC{e:Exit}(ag:List HA)(hp:ag.Perm hs)(h:T n B Q e imm ag m):T n B Q e imm hs m:=λa w f g=>h a w f (g.perm hp)
theorem zND{c:Code}(hF:False){ap:Imm}{ag:List HA}{m':FM}(next:T n B Q .normal ap ag m'):J P n B c Q imm hs m:=hF.elim
theorem zPD{c:Code}{L:List HA}(x:Exit)(S:Imm->List HA->FM->Prop)(h1:∀B':Base,J P n B' c (λe a w=>e=x/\∃ap ag m',S ap ag m'/\Fr n a m'/\Good B' ap ag w) imm hs m)
 (h2:∀ap ag m',S ap ag m'->imm.le ap->T n B Q x ap (ag++L) m'):J P n B c Q imm (hs++L) m:=λa w f g=>by
 have bU:=g.nodup
 rw[dt] at bU
 have hg1:=g.enter (hs1:=hs) (λA hA=>dq _ hA) (cI.1 bU).1
 refine wp_mono (h1 _ a w f hg1) λe a' w' he=>?_
 obtain⟨rfl,ap,ag,m',k1,k2,k3⟩:=he
 obtain⟨k4,k5,_⟩:=g.leave k3
 exact h2 ap ag m' k1 k5 a' w' k2 k4
theorem zPE{B':Base}{x:Exit}{S:Imm->List HA->FM->Prop}(h:S imm hs m):T n B' (λe a w=>e=x/\∃ap ag m',S ap ag m'/\Fr n a m'/\Good B' ap ag w) x imm hs m:=λ_ _ f g=>⟨rfl,imm,hs,m,h,f,g⟩
end
structure NL where
 pl:Option Addr
 lo:List zA
 cl:Nat
 csl:List Value
 ph:Option Addr
 hi:List zA
 ch:Nat
 csh:List Value
def NL.vl(x:NL):Value:=vS x.pl x.lo x.cl
def NL.vh(x:NL):Value:=vS x.ph x.hi x.ch
def NL.ha(x:NL):List HA:=[hO zA x.vh x.csh,hO zA x.vl x.csl]
def NL.raw(x:NL):Raw2:=⟨x.vl,x.vh⟩
def NL.d(x:NL):zG:=⟨x.lo,x.hi⟩
def NL.ok(imm:Imm)(x:NL):Prop:=RL imm x.csl x.lo/\RL imm x.csh x.hi
def NL.fz(imm:Imm)(x:NL):Prop:=SL imm x.vl x.lo/\SL imm x.vh x.hi
theorem NL.ok.mono{i j:Imm}(h:i.le j){x:NL}(hx:x.ok i):x.ok j:=⟨RepL.mono (λ_ _=>Rp.mono h) hx.1,RepL.mono (λ_ _=>Rp.mono h) hx.2⟩
theorem NL.fz.mono{i j:Imm}(h:i.le j){x:NL}(hx:x.fz i):x.fz j:=⟨hx.1.mono h,hx.2.mono h⟩
abbrev NLs(xs:List NL):List HA:=xs.flatMap NL.ha
theorem zNE{xs:List NL}{k:Nat}{x:NL}(h:xs[k]?=some x):∃ys,(NLs xs).Perm (x.ha++NLs ys)/\(∀y∈ys,y∈xs)/\∀i:Nat,∀y,i ≠ k->xs[i]?=some y->y∈ys:=by
 obtain⟨hk,rfl⟩:=bZ.1 h;refine⟨xs.eraseIdx k,?_,λy hy=>List.mem_of_mem_eraseIdx hy,λi y hi hy=>List.mem_eraseIdx_iff_getElem?.2 ⟨i,hi,hy⟩⟩;have:=(jJ h).flatMap_right NL.ha;simpa [NLs] using this
section
variable {P:Program}{n:Nat}{B:Base}{Q:Exit->Act->World->Prop}{hs:List HA}{m:FM}
theorem zC6{c:Code}:∀(xs:List NL) {imm:Imm},(∀x∈xs,x.ok imm)->(∀ap,imm.le ap->(∀x∈xs,x.fz ap)->J P n B c Q ap hs m)->J P n B c Q imm (NLs xs++hs) m
 | [],imm,_,h=>h imm (Imm.le.refl _) (λ_ h=>by cases h)
 | x::xs,imm,hx,h=>by
  have h1:=hx x (ck ..)
  show J P n B c Q imm (hO zA x.vh x.csh::hO zA x.vl x.csl::(NLs xs++hs)) m
  refine oO 0 rfl ?_
  intro imm1 aa hl1
  have k1:=SL.of_frozen hl1 aa h1.2
  refine oO 0 rfl ?_
  intro imm2 aC hl2
  have k2:=SL.of_frozen hl2 aC (RepL.mono (λ_ _=>Rp.mono aa) h1.1)
  refine zC6 xs (λy hy=>(hx y (cf _ hy)).mono (aa.trans aC)) ?_
  intro imm3 aI h3
  refine h imm3 ((aa.trans aC).trans aI) λy hy=>?_
  rcases cQ.1 hy with rfl|hy
  ·exact⟨k2.mono aI,(k1.mono aC).mono aI⟩
  ·exact h3 y hy
end
theorem zFo{α β:Type}{f:α->β}{l:List α}{i:Int}{y:β}(h:idx (l.map f) i=some y):∃x,idx l i=some x/\y=f x:=by
 obtain⟨h0,h1,h2⟩:=uQ h;rw[cY,Option.map_eq_some_iff] at h2;obtain⟨x,h3,rfl⟩:=h2;exact⟨x,by unfold idx;rw[if_pos h0,h3],rfl⟩
theorem zA7{α β:Type}{f:α->β}{l:List α}{i:Int}{x:α}(h:idx l i=some x):idx (l.map f) i=some (f x):=by
 obtain⟨h0,h1,h2⟩:=uQ h;unfold idx;rw[if_pos h0,cY,h2];rfl
section
variable {P:Program}{n:Nat}{B:Base}{Q:Exit->Act->World->Prop}{hs:List HA}{m:FM}{imm:Imm}
theorem zNF{c:Code}{xs:List NL}{i:Int}{x:NL}(hx:idx xs i=some x)(bW:∀x∈xs,x.ok imm)(h:∀ap,imm.le ap->(∀(j:Nat) y,j ≠ i.toNat->xs[j]?=some y->y.fz ap)->J P n B c Q ap (hO zA x.vh x.csh::hO zA x.vl x.csl::hs) m):J P n B c Q imm (NLs xs++hs) m:=by
 obtain⟨h0,h1,h2⟩:=uQ hx;obtain⟨ys,k1,k2,k3⟩:=zNE h2;refine zIW (NLs ys++(x.ha++hs)) ?_ ?_
 ·rw[<- cm];exact(cU.trans k1.symm).append_right hs
 ·refine zC6 ys (λy hy=>bW y (k2 y hy)) ?_;intro imm1 aa hf;exact h imm1 aa λj y hj hy=>hf y (k3 j y hj hy)
end
def PW(imm:Imm)(al:List Raw2)(nest:List zG):Prop:=al.length=nest.length/\∀(j:Nat) r d,al[j]?=some r->nest[j]?=some d->SL imm r.a d.Lo/\SL imm r.b d.Hi
theorem PW.rl{imm:Imm}:∀{al:List Raw2}{nest:List zG},PW imm al nest->RL imm (flat al) nest
 | [],[],_=>rfl
 | [],_::_,h=>by cases h.1
 | _::_,[],h=>by cases h.1
 | r::al,d::nest,h=>⟨[r.a,r.b],flat al,rfl,rfl,uR ⟨_,_,rfl,h.2 0 r d rfl rfl⟩,PW.rl ⟨by have:=h.1;simpa using this,λj r' d' h1 h2=>h.2 (j+1) r' d' (by simpa using h1) (by simpa using h2)⟩⟩
theorem zJs{imm:Imm}{xs:List NL}{k:Nat}{r:Raw2}{d:zG}(hfz:∀(j:Nat) y,j ≠ k->xs[j]?=some y->y.fz imm)(hr:SL imm r.a d.Lo/\SL imm r.b d.Hi):PW imm ((xs.map NL.raw).set k r) ((xs.map NL.d).set k d):=by
 refine⟨by simp,λj r' d' h1 h2=>?_⟩;by_cases hj:j=k
 ·subst hj;rw[List.getElem?_set_self' ] at h1 h2;cases hx:xs[j]? with
  | none=>simp[hx] at h1
  | some y=>
   simp[hx] at h1 h2;subst h1;subst h2;exact hr
 ·rw[List.getElem?_set_ne (λe=>hj e.symm),cY,Option.map_eq_some_iff] at h1 h2;obtain⟨y,h3,rfl⟩:=h1;obtain⟨y',h4,rfl⟩:=h2;rw[h3] at h4;cases h4
  exact hfz j y hj h3
theorem NL.shut{imm:Imm}{x:NL}(h:x.fz imm):Rp.rep imm [x.vl,x.vh] x.d:=uR ⟨_,_,rfl,h.1,h.2⟩
theorem zIX{imm:Imm}:∀{xs:List NL},(∀x∈xs,x.fz imm)->RL imm (flat (xs.map NL.raw)) (xs.map NL.d)
 | [],_=>rfl
 | x::xs,h=>⟨[x.vl,x.vh],flat (xs.map NL.raw),rfl,rfl,NL.shut (h x (ck ..)),zIX λy hy=>h y (cf _ hy)⟩
theorem LP.push{imm:Imm}{al:List Raw2}{parts:List zF}{vN vB vN' vB':Value}{nl nl':List zG}{bl bl':List zI}(h:LP imm al parts vN nl vB bl)(hN:SL imm vN nl)(hB:SL imm vB bl){l1:List zF}
 (ha:app 48 parts [(⟨nl',bl'⟩:zF)]=some l1):LP imm (al++[⟨vN',vB'⟩]) l1 vN' nl' vB' bl':=by
 obtain⟨hb,rfl⟩:=zBH ha
 obtain⟨h1,h2,h3⟩:=h
 refine⟨?_,?_,.inr ⟨al,parts,rfl,rfl,?_⟩⟩
 ·simp at hb ⊢;omega
 ·simp[h2]
 ·rcases h3 with⟨rfl,rfl⟩|⟨rl,l,rfl,rfl,h4⟩
  ·rfl
  ·rw[zCD]
   exact h4.append (.single rfl (wU ⟨_,_,rfl,hN,hB⟩))
theorem LP.nil{imm:Imm}:LP imm [] [] (.slice none 0 0) [] (.slice none 0 0) []:=⟨by decide,rfl,.inl ⟨rfl,rfl⟩⟩
end Go.LN
namespace Go.LN
structure ND where
 nm:Str
 p:Option Addr
 d:List Int
 c:Nat
 cs:List Value
def ND.v(x:ND):Value:=vS x.p x.d x.c
def ND.ha(x:ND):HA:=hO Int x.v x.cs
def ND.raw(x:ND):Raw2:=⟨vT x.nm.l,x.v⟩
def ND.a(x:ND):zD:=⟨x.nm,x.d⟩
def ND.ok(imm:Imm)(x:ND):Prop:=RL imm x.cs x.d
def ND.fz(imm:Imm)(x:ND):Prop:=SL imm x.v x.d
theorem ND.ok.mono{i j:Imm}(h:i.le j){x:ND}(hx:x.ok i):x.ok j:=RepL.mono (λ_ _=>Rp.mono h) hx
theorem ND.fz.mono{i j:Imm}(h:i.le j){x:ND}(hx:x.fz i):x.fz j:=SL.mono h hx
section
variable {P:Program}{n:Nat}{B:Base}{Q:Exit->Act->World->Prop}{hs:List HA}{m:FM}
end
def RW(imm:Imm)(al:List Raw2)(A:List zD)(k:Nat)(w:Value):Prop:=al.length=A.length/\∀(j:Nat) r d,al[j]?=some r->A[j]?=some d->r.a=vT d.Name.l/\(j ≠ k->SL imm r.b d.Dims)/\(j=k->r.b=w)
def ArW(imm:Imm)(v:Value)(al:List Raw2)(A:List zD)(k:Int)(w:Value):Prop:=SL imm v al/\RW imm al A k.toNat w
theorem ArW.mono{i j:Imm}(h:i.le j){v:Value}{al:List Raw2}{A:List zD}{k:Int}{w:Value}(hx:ArW i v al A k w):ArW j v al A k w:=
 ⟨SL.mono h hx.1,hx.2.1,λq r d h1 h2=>⟨(hx.2.2 q r d h1 h2).1,λhq=>SL.mono h ((hx.2.2 q r d h1 h2).2.1 hq),(hx.2.2 q r d h1 h2).2.2⟩⟩
theorem RW.of{imm:Imm}{xs:List ND}{i:Int}{x:ND}(hx:idx xs i=some x)(h:∀(j:Nat) y,j ≠ i.toNat->xs[j]?=some y->y.fz imm):RW imm (xs.map ND.raw) (xs.map ND.a) i.toNat x.v:=by
 obtain⟨h0,h1,h2⟩:=uQ hx;refine⟨by simp,λj r d hr hd=>?_⟩;rw[cY,Option.map_eq_some_iff] at hr hd;obtain⟨y,hy,rfl⟩:=hr;obtain⟨y',hy',rfl⟩:=hd;rw[hy] at hy';cases hy'
 refine⟨rfl,λhj=>h j y hj hy,λhj=>?_⟩;subst hj;rw[h2] at hy;cases hy;rfl
theorem RW.at{imm:Imm}{al:List Raw2}{A:List zD}{k:Int}{w:Value}(h:RW imm al A k.toNat w){a:zD}(ha:idx A k=some a):idx al k=some ⟨vT a.Name.l,w⟩:=by
 obtain⟨h0,h1,h2⟩:=uQ ha;have aK:=(bZ.1 h2).1;have hr:al[k.toNat]?=some (al[k.toNat]'(by rw[h.1];exact aK)):=cd _;obtain⟨e1,_,e2⟩:=h.2 _ _ _ hr h2;unfold idx;rw[if_pos h0,hr]
 congr 1
 generalize al[k.toNat]'(by rw[h.1];exact aK)=r at *;cases r
 simp only at e1 e2;rw[e1,e2 trivial]
theorem RW.rl{imm:Imm}:∀{al:List Raw2}{A:List zD},al.length=A.length->(∀(j:Nat) r d,al[j]?=some r->A[j]?=some d->r.a=vT d.Name.l/\SL imm r.b d.Dims)->RL imm (flat al) A
 | [],[],_,_=>rfl
 | [],_::_,h,_=>by cases h
 | _::_,[],h,_=>by cases h
 | r::al,d::A,h,hh=>⟨[r.a,r.b],flat al,rfl,rfl,by
  obtain⟨e1,e2⟩:=hh 0 r d rfl rfl
  rw[e1]
  exact uP ⟨_,rfl,e2⟩,RW.rl (by simpa using h) λj r' d' h1 h2=>hh (j+1) r' d' (by simpa using h1) (by simpa using h2)⟩
theorem RW.set{imm:Imm}{al:List Raw2}{A:List zD}{k:Int}{w:Value}(h:RW imm al A k.toNat w){a:zD}(ha:idx A k=some a){d:List Int}(hd:SL imm w d):RL imm (flat al) (A.set k.toNat ⟨a.Name,d⟩):=by
 obtain⟨h0,h1,h2⟩:=uQ ha;refine RW.rl (by rw[cP];exact h.1) λj r y hr hy=>?_;by_cases hj:j=k.toNat
 ·subst hj;rw[ew (bZ.1 h2).1] at hy;cases hy
  obtain⟨e1,_,e2⟩:=h.2 _ r a hr h2;exact⟨e1,by rw[e2 rfl];exact hd⟩
 ·rw[List.getElem?_set_ne (λe=>hj e.symm)] at hy;obtain⟨e1,e2,_⟩:=h.2 _ r y hr hy;exact⟨e1,e2 hj⟩
theorem ArW.done{imm:Imm}{p:Option Addr}{c:Nat}{al:List Raw2}{A:List zD}{k:Int}{w:Value}(h:ArW imm (vS p al c) al A k w){a:zD}(ha:idx A k=some a){d:List Int}(hd:SL imm w d):SL imm (vS p (A.set k.toNat ⟨a.Name,d⟩) c) (A.set k.toNat ⟨a.Name,d⟩):=by
 obtain⟨⟨aN,h1,h2⟩,h3⟩:=h;refine⟨aN,?_,?_⟩
 ·have e:(vS p (A.set k.toNat ⟨a.Name,d⟩) c)=vS p al c:=by simp only[vS,cP,h3.1]
  rw[e];exact h1
 ·rw[fO h2];exact h3.set ha hd
theorem zMV(a:HA)(l N:List HA):(l++(N++[a])).Perm ((a::l)++N):=by
 rw[<- cm];exact cU (l₁:=l++N) (l₂:=[a])
section
variable {P:Program}{n:Nat}{B:Base}{imm:Imm}{hs:List HA}{m:FM}
theorem zPF{af:List Oper}{Q:Exit->Act->World->Prop}{pc:Nat}(ag:List HA)(hp:ag.Perm hs)(h:R P n B af Q pc imm ag m):R P n B af Q pc imm hs m:=λa w f g=>h a w f (g.perm hp)
end
end Go.LN
namespace Go.LN
structure NB where
 vN:Value
 nl:List zG
 p:Option Addr
 d:List zI
 c:Nat
 cs:List Value
def NB.v(x:NB):Value:=vS x.p x.d x.c
def NB.ha(x:NB):HA:=hO zI x.v x.cs
def NB.raw(x:NB):Raw2:=⟨x.vN,x.v⟩
def NB.a(x:NB):zF:=⟨x.nl,x.d⟩
def NB.ok(imm:Imm)(x:NB):Prop:=SL imm x.vN x.nl/\RL imm x.cs x.d
def NB.fz(imm:Imm)(x:NB):Prop:=SL imm x.vN x.nl/\SL imm x.v x.d
theorem NB.ok.mono{i j:Imm}(h:i.le j){x:NB}(hx:x.ok i):x.ok j:=⟨SL.mono h hx.1,RepL.mono (λ_ _=>Rp.mono h) hx.2⟩
theorem NB.fz.mono{i j:Imm}(h:i.le j){x:NB}(hx:x.fz i):x.fz j:=⟨SL.mono h hx.1,SL.mono h hx.2⟩
abbrev NBs(xs:List NB):List HA:=xs.map NB.ha
theorem NB.shut{imm:Imm}{x:NB}(h:x.fz imm):Rp.rep imm [x.vN,x.v] x.a:=wU ⟨_,_,rfl,h.1,h.2⟩
theorem zOD{imm:Imm}{xs:List NB}(h:∀x∈xs,x.ok imm){z:NB}(hN:SL imm z.vN z.nl)(hq:RL imm z.cs z.d):∀x∈xs++[z],x.ok imm:=by
 intro x hx;rcases cX.1 hx with k|k
 ·exact h x k
 ·rw[cF.1 k];exact⟨hN,hq⟩
theorem zMW{xs:List NB}{k:Nat}{x:NB}(h:xs[k]?=some x):(NBs xs).Perm (x.ha::NBs (xs.eraseIdx k)):=(jJ h).map NB.ha
section
variable {P:Program}{n:Nat}{B:Base}{Q:Exit->Act->World->Prop}{hs:List HA}{m:FM}
theorem zIY{c:Code}:∀(xs:List NB) {imm:Imm},(∀x∈xs,x.ok imm)->(∀ap,imm.le ap->(∀x∈xs,x.fz ap)->J P n B c Q ap hs m)->J P n B c Q imm (NBs xs++hs) m
 | [],imm,_,h=>h imm (Imm.le.refl _) (λ_ h=>by cases h)
 | x::xs,imm,hx,h=>by
  have h1:=hx x (ck ..)
  show J P n B c Q imm (hO zI x.v x.cs::(NBs xs++hs)) m
  refine oO 0 rfl ?_
  intro imm1 aa hl1
  have k1:SL imm1 x.v x.d:=SL.of_frozen hl1 aa h1.2
  have k0:=h1.1.mono aa
  refine zIY xs (λy hy=>(hx y (cf _ hy)).mono aa) ?_
  intro imm3 aI h3
  refine h imm3 (aa.trans aI) λy hy=>?_
  rcases cQ.1 hy with rfl|hy
  ·exact⟨SL.mono aI k0,SL.mono aI k1⟩
  ·exact h3 y hy
end
end Go.LN
namespace Go.LN
open Go.Proofs
end Go.LN
namespace Go.LN
structure Raw1 where
 v:Value
instance:Rp Raw1 where
 sz:=1
 pos:=fy
 rep _ cs r:=cs=[r.v]/\r.v.oneCell'=true
 len h:=by obtain⟨rfl,_⟩:=h;rfl
 mono _ h:=h
 one h:=by obtain⟨rfl,h1⟩:=h;simp[h1]
def rv(R:List Raw1):List Value:=R.map Raw1.v
def GN{β:Type}[Rp β](imm:Imm)(xs:List (List β))(X:List Raw1)(y:List β)(v:Value):Prop:=
 (xs=[]/\X=[]/\y=[]/\v=.slice none 0 0)∨∃init Xi,xs=init++[y]/\X=Xi++[⟨v⟩]/\RL imm (rv Xi) init/\xs.length<=10000000000000
section
variable {β:Type} [Rp β] {imm:Imm}{xs:List (List β)}{X:List Raw1}{y:List β}{v:Value}
theorem GN.mono{j:Imm}(hl:imm.le j)(h:GN imm xs X y v):GN j xs X y v:=by
 rcases h with h|⟨init,Xi,h1,h2,h3,h4⟩
 ·exact .inl h
 ·exact .inr ⟨init,Xi,h1,h2,RepL.mono (λ_ _=>Rp.mono hl) h3,h4⟩
theorem zNG{init:List (List β)}{Xi:List Raw1}(h:RL imm (rv Xi) init):Xi.length=init.length:=by
 have:=h.length;simpa [rv,show Rp.sz (List β)=1 from rfl] using this
theorem GN.len(h:GN imm xs X y v):X.length=xs.length:=by
 rcases h with⟨rfl,rfl,_⟩|⟨init,Xi,rfl,rfl,h3,_⟩
 ·rfl
 ·simp[zNG h3]
theorem GN.all(h:GN imm xs X y v)(hs:SL imm v y):RL imm (rv X) xs:=by
 rcases h with⟨rfl,rfl,_⟩|⟨init,Xi,rfl,rfl,h3,_⟩
 ·exact RepL.nil
 ·have e:rv (Xi++[⟨v⟩])=rv Xi++[v]:=by simp[rv]
  rw[e];exact h3.append ⟨[v],[],rfl,rfl,⟨v,rfl,hs⟩,rfl⟩
theorem GN.push(h:GN imm xs X y v)(hs:SL imm v y)(hb:(xs.length+1)*24<=140737488355328):GN imm (xs++[[]]) (X++[⟨.slice none 0 0⟩]) [] (.slice none 0 0):=
 .inr ⟨xs,X,rfl,rfl,h.all hs,by simp;omega⟩
theorem zPG{n:Nat}(h:n<=10000000000000):W (((n+1:Nat):Int) - 1)=(n:Int):=by rw[rE (by omega) (by omega)];omega
theorem GN.last(h:GN imm xs X y v){z:List β}(hz:idx xs (W ((xs.length:Int) - 1))=some z):z=y/\idx X (W ((X.length:Int) - 1))=some ⟨v⟩/\W ((X.length:Int) - 1)=W ((xs.length:Int) - 1) /\
 ∀(y':List β) (v':Value),GN imm (xs.set (W ((xs.length:Int) - 1)).toNat y') (X.set (W ((X.length:Int) - 1)).toNat ⟨v'⟩) y' v':=by
 rcases h with⟨rfl,rfl,_⟩|⟨init,Xi,rfl,rfl,h3,h4⟩
 ·obtain⟨_,_,h2⟩:=uQ hz
  simp at h2
 ·have hl:=zNG h3
  simp only[cA,List.length_singleton] at hz h4 ⊢
  have e1:=zPG (n:=init.length) (by omega)
  rw[e1] at hz
  rw[hl,e1]
  refine⟨?_,?_,rfl,λy' v'=>?_⟩
  ·have:=(uQ hz).2.2
   simp at this
   exact this.symm
  ·unfold idx
   simp[hl]
  ·rw[cL]
   refine .inr ⟨init,Xi,?_,?_,h3,?_⟩
   ·simp
   ·simp[<- hl]
   ·simp;omega
end
def FS1{σ α β:Type}[Vr α][Vr β](P:Program)(imm:Imm)(hsS:σ->List HA)(v:Value)(φ:α->σ->Option (β×σ)):Prop:=
 ∃f first cap,v=.func (.func f) ⟨first⟩ ⟨cap⟩/\callable P f=true/\∀ap,imm.le ap->∀a s r va,φ a s=some r->Vr.rep ap va a->Ret P f (first++[va]++cap) ap (hsS s) λ_ i ag u=>ag=hsS r.2/\Vr.rep i u r.1
theorem FS1.mono{σ α β:Type}[Vr α][Vr β]{P:Program}{i j:Imm}{hsS:σ->List HA}{v:Value}{φ:α->σ->Option (β×σ)}(hl:i.le j)(h:FS1 P i hsS v φ):FS1 P j hsS v φ:=by
 obtain⟨f,first,cap,h1,h2,h3⟩:=h;exact⟨f,first,cap,h1,h2,λap h'=>h3 ap (hl.trans h')⟩
theorem FS1.intro{σ α β:Type}[Vr α][Vr β]{P:Program}{imm:Imm}{hsS:σ->List HA}{f:FuncId}{first cap:List Value}{φ:α->σ->Option (β×σ)}(h:∀ap,imm.le ap->∀a s r va,φ a s=some r->Vr.rep ap va a->Ret P f (first++[va]++cap) ap (hsS s) λ_ i ag u=>ag=hsS r.2/\Vr.rep i u r.1)
 (hc:callable P f=true:=by kernel_rfl):FS1 P imm hsS (.func (.func f) ⟨first⟩ ⟨cap⟩) φ:=⟨f,first,cap,rfl,hc,h⟩
section
variable {P:Program}{n:Nat}{B:Base}{af:List Oper}{Q:Exit->Act->World->Prop}{pc:Nat}{imm:Imm}{hs:List HA}{m:FM}{d:Nat}
 {ty:TypeId}{pos:String}{after:Array Edge}{g:Option (Nat×Bool)}
end
end Go.LN
namespace Go.LN
section
variable {P:Program}{n:Nat}{B:Base}{Q:Exit->Act->World->Prop}{imm:Imm}{hs:List HA}{m:FM}{af:List Oper}{pc d:Nat}{ty:TypeId}{pos:String}{after:Array Edge}{g:Option (Nat×Bool)}
end
theorem eU{B:Base}{imm:Imm}(a b:List HA):∀w,Good B imm (a++b) w->Good B imm (b++a) w:=λ_ h=>h.perm cU
end Go.LN
namespace Go.LN
section
variable {P:Program}{n:Nat}{B:Base}{af:List Oper}{Q:Exit->Act->World->Prop}{pc:Nat}{imm:Imm}{hs:List HA}{m:FM}{d:Nat}
def clrT(P:Program)(t:TypeId):Option (Nat×Array Value):=match P.underlying t with
 | some (.slice e)=>match sizeT P e,zeroC P e with
  | some s,some z=>some (s,z)
  | _,_=>none
 | _=>none
theorem zPi{o:Oper}(ho:af[pc]?=some o)(hg:guardB af m o.guard=some true)(hd:o.dst=none)
 (h:∀a w,Fr n a m->Good B imm hs w->∃v w' ap ag,(execOp a.eval o).run P w=.ok (.value v) w'/\Good B ap ag w'/\R P n B af Q (pc+1) ap ag m):R P n B af Q pc imm hs m:=
 zII ho hg λa w f g=>by
  obtain⟨v,w',ap,ag,h1,h2,h3⟩:=h a w f g
  unfold Oper.wp
  rw[h1]
  simp only[Oper.upon,hd]
  exact h3 _ w' f h2
end
end Go.LN
namespace Go.LN
theorem zK6{hs:List HA}{j:Nat}{A A':HA}(hj:hs[j]?=some A)(hfp:A'.fp=A.fp):(hs.set j A').flatMap HA.fp=hs.flatMap HA.fp:=by
 rw[List.flatMap_def,List.flatMap_def,List.map_set,hfp]
 congr 1
 obtain⟨h1,rfl⟩:=bZ.1 hj;refine List.ext_getElem (by simp) λi h2 h3=>?_;rw[List.getElem_set];split
 ·rename_i e;subst e;simp
 ·rfl
theorem Good.swap{B:Base}{imm:Imm}{hs:List HA}{w:World}(h:Good B imm hs w){j:Nat}{A A':HA}(hj:hs[j]?=some A)(hfp:A'.fp=A.fp)(hA:A'.ok B imm w):Good B imm (hs.set j A') w:=
 ⟨h.inv,λX hX=>by
  rcases fw hX with h1|rfl
  ·exact h.own _ h1
  ·exact hA,by rw[zK6 hj hfp];exact h.nodup,h.frm⟩
structure OB(b off len cap sz:Nat)(cs:List Value)(all:Array Value):Prop where
 fit:off+cap*sz<=all.size
 le:len<=cap
 cl:cs.length=len*sz
 at':(all.toList.drop off).take (len*sz)=cs
 max:cap<=9223372036854775807
theorem Good.openB{B:Base}{imm:Imm}{hs:List HA}{w:World}(h:Good B imm hs w){j:Nat}{p:Option Addr}{len cap sz:Nat}{cs:List Value}(hj:hs[j]?=some (.osl (.slice p len cap) sz cs))(h0:p=none->False):
 ∃x:Nat×Nat×Array Value,(p=some ⟨x.1,x.2.1,none⟩/\imm x.1=none/\OB x.1 x.2.1 len cap sz cs x.2.2)/\Good B imm (hs.set j (.blk x.1 x.2.2)) w:=by
 rcases h.own _ (vO hj) with⟨e,_⟩|⟨b,off,len',cap',all,ty,e,h1,h2,hw,hcap,hlc,bX,hal,hM⟩
 ·injection e with e1;exact(h0 e1).elim
 ·injection e with e1 e2 e3
  subst e1;subst e2;subst e3
  exact⟨(b,off,all),⟨rfl,h2,⟨hcap,hlc,bX,hal,hM⟩⟩,h.swap hj (by simp[HA.fp]) ⟨h1,h2,ty,hw⟩⟩
theorem Good.shutB{B:Base}{imm:Imm}{hs:List HA}{w:World}(h:Good B imm hs w){j b off len cap sz:Nat}{all:Array Value}{cs:List Value}(hj:hs[j]?=some (.blk b all))(o:OB b off len cap sz cs all):
 Good B imm (hs.set j (.osl (.slice (some ⟨b,off,none⟩) len cap) sz cs)) w:=by
 obtain⟨h1,h2,ty,hw⟩:=h.own _ (vO hj)
 exact h.swap hj (by simp[HA.fp]) (.inr ⟨b,off,len,cap,all,ty,rfl,h1,h2,hw,o.fit,o.le,o.cl,o.at',o.max⟩)
theorem zJt{all:Array Value}{off a:Nat}{vs:List Value}(h:off+a+vs.length<=all.size):((wr all (off+a) vs).toList.drop off).take (a+vs.length)=(all.toList.drop off).take a++vs:=by
 rw[zC3 _ _ _ h];have hs:all.toList.length=all.size:=db;apply ef;intro q;simp only[dw,d7,ee,cA,ci,co]
 grind
theorem zLt{all:Array Value}{off a k:Nat}{vs:List Value}(h:off+a+vs.length<=all.size)(hk:k<=a):((wr all (off+a) vs).toList.drop off).take k=(all.toList.drop off).take k:=by
 rw[zC3 _ _ _ h];have hs:all.toList.length=all.size:=db;apply ef;intro q;simp only[dw,d7,ee,cA,ci,co]
 grind
theorem zOE{all:Array Value}{off a k:Nat}{vs:List Value}(h:off+a+vs.length<=all.size)(hk:a+vs.length<=k):((wr all (off+a) vs).toList.drop off).take k=(all.toList.drop off).take a++vs++((all.toList.drop off).take k).drop (a+vs.length):=by
 rw[zC3 _ _ _ h];have hs:all.toList.length=all.size:=db;apply ef;intro q;simp only[dw,d7,ee,cA,ci,co]
 grind
def winV(p:Option Addr)(cap sz i k:Nat):Value:=.slice (if cap=i then p else p.map (·.add (i*sz))) (k - i) (cap - i)
theorem zIZ{b off cap sz k:Nat}:winV (some ⟨b,off,none⟩) cap sz 0 k=.slice (some ⟨b,off,none⟩) k cap:=by
 unfold winV;split
 ·rename_i h;subst h;rfl
 ·rw[Option.map_some,fL,Nat.zero_mul];rfl
theorem zAf{b off cap sz i k:Nat}:winV (some ⟨b,off,none⟩) cap sz i k=.slice (some ⟨b,if cap=i then off else off+i*sz,none⟩) (k - i) (cap - i):=by
 unfold winV;split
 ·rfl
 ·rw[Option.map_some,fL]
section
variable {P:Program}{n:Nat}{B:Base}{af:List Oper}{Q:Exit->Act->World->Prop}{pc:Nat}{imm:Imm}{hs:List HA}{m:FM}{d:Nat}
 {ty:TypeId}{pos:String}{after:Array Edge}{g:Option (Nat×Bool)}
theorem zJu{c:Code}{φ:Prop}(h:∀w,Good B imm hs w->φ)(next:φ->J P n B c Q imm hs m):J P n B c Q imm hs m:=λa w f gd=>next (h w gd) a w f gd
theorem zOh{c:Code}{ι:Type}{φ:ι->Prop}{ag:ι->List HA}(h:∀w,Good B imm hs w->∃i,φ i/\Good B imm (ag i) w)(next:∀i,φ i->J P n B c Q imm (ag i) m):J P n B c Q imm hs m:=λa w f gd=>by
 obtain⟨i,h1,h2⟩:=h w gd;exact next i h1 a w f h2
theorem zI0{B:Base}{imm:Imm}{hs:List HA}{w:World}(h:Good B imm hs w){j:Nat}{p:Option Addr}{len cap sz:Nat}{cs:List Value}(hj:hs[j]?=some (.osl (.slice p len cap) sz cs)):
 len<=cap/\cap<=9223372036854775807/\(p=none->len=0/\cap=0):=by
 rcases h.own _ (vO hj) with⟨e,_⟩|⟨b,off,len',cap',all,ty,e,h1,h2,hw,hcap,hlc,bX,hal,hM⟩
 ·injection e with e1 e2 e3;exact⟨by omega,by omega,λ_=>⟨e2,e3⟩⟩
 ·injection e with e1 e2 e3
  exact⟨by omega,by omega,λh=>by rw[h] at e1;cases e1⟩
theorem zMX{B:Base}{imm:Imm}{hs:List HA}{w:World}(h:Good B imm hs w){j:Nat}{p:Option Addr}{len cap sz:Nat}{cs:List Value}(hj:hs[j]?=some (.osl (.slice p len cap) sz cs))(h0:0<len):∃x:Nat×Nat,p=some ⟨x.1,x.2,none⟩:=by
 rcases h.own _ (vO hj) with⟨e,_⟩|⟨b,off,len',cap',all,ty,e,_⟩
 ·injection e with e1 e2 e3;omega
 ·injection e with e1 e2 e3;exact⟨(b,off),e1⟩
theorem zGl{w:World}{a:Act}{len cap:Nat}{lo hi:Option Operand}{i k:Int}(f:Fr n a m)(hlo:bnd m 0 lo=some i)(hhi:bnd m len hi=some k)(h0:0<=i)(h1:i<=k)(h2:k<=cap):
 (Instr.sliceBounds true len cap (lo.map a.eval) (hi.map a.eval) none).run P w=.ok (i.toNat,k.toNat,cap) w:=by
 have hh:∀{x:Operand}{j:Int}{y:Nat}{c:BoundsCode},(∃kd,val m x=some (.int kd j))->0<=j->j<=y->(Instr.sliceBound (a.eval x) y c).run P w=.ok j.toNat w:=λ⟨kd,hx⟩ h4 h5=>by
  simp[Instr.sliceBound,f.eval hx,asIntOf,h4,h5]
 have ob:∀{x:Operand}{dflt j:Int},bnd m dflt (some x)=some j->∃kd,val m x=some (.int kd j):=λ{x dflt j} h=>by
  simp only[bnd] at h
  split at h
  ·rename_i kd k' hx;cases h;exact⟨kd,hx⟩
  ·cases h
 cases hi with
 | none=>
  simp only[bnd,Option.some.injEq] at hhi
  subst hhi
  cases lo with
  | none=>
   simp only[bnd,Option.some.injEq] at hlo
   subst hlo
   simp[Instr.sliceBounds]
  | some x=>simp[Instr.sliceBounds,hh (ob hlo) h0 h1]
 | some z=>
  cases lo with
  | none=>
   simp only[bnd,Option.some.injEq] at hlo
   subst hlo
   have e1:=hh (y:=cap) (c:=.sliceAcap) (ob hhi) (by omega) (by omega)
   simp[Instr.sliceBounds,e1]
  | some x=>
   have e1:=hh (y:=cap) (c:=.sliceAcap) (ob hhi) (by omega) (by omega)
   have e2:=hh (y:=k.toNat) (c:=.sliceB) (ob hlo) h0 (by omega)
   simp[Instr.sliceBounds,e1,e2]
theorem zC7{t:TypeId}{x:Operand}{lo hi:Option Operand}{p:Option Addr}{len cap:Nat}{i k:Int}(sz:Nat)(ho:af[pc]?=some ⟨some d,.slice t x lo hi none,ty,pos,after,g⟩)(hb:0<=i/\i<=k/\k<=(cap:Int))
 (next:R P n B af Q (pc+1) imm hs ((d,winV p cap sz i.toNat k.toNat)::m)) (hx:val m x=some (.slice p len cap):=by kernel_rfl) (hlo:bnd m 0 lo=some i:=by kernel_rfl) (hhi:bnd m len hi=some k:=by kernel_rfl)
 (hg:guardB af m g=some true:=by kernel_rfl) (hn:Nat.blt d n=true:=by kernel_rfl) (ht:elemT P t=some sz:=by kernel_rfl):R P n B af Q pc imm hs m:=by
 refine kF ho hg rfl hn λa w f gd=>?_
 obtain⟨e,hu,hse⟩:∃e,P.underlying t=some (.slice e)/\sizeT P e=some sz:=by
  unfold elemT at ht
  split at ht
  ·rename_i e hu;exact⟨e,hu,ht⟩
  ·cases ht
 have hbd:=zGl (P:=P) (w:=w) f hlo hhi hb.1 hb.2.1 hb.2.2
 refine⟨_,w,imm,hs,?_,gd,next⟩
 simp only[execOp,f.eval hx,Option.map_none,Instr.sliceAt,Instr.slice,Sem.run_bind,xL hu,Result.andThen_ok,hbd,qY hse,Sem.run_pure]
 rfl
theorem zPH{t:TypeId}{x lo hi mx:Operand}{p:Option Addr}{len cap:Nat}{i k q:Int}{ki kk kq:IntKind}(sz:Nat)(ho:af[pc]?=some ⟨some d,.slice t x (some lo) (some hi) (some mx),ty,pos,after,g⟩)(hb:0<=i/\i<=k/\k<=q/\q<=(cap:Int))
 (next:∀v,R P n B af Q (pc+1) imm hs ((d,v)::m)) (hx:val m x=some (.slice p len cap):=by kernel_rfl) (hlo:val m lo=some (.int ki i):=by kernel_rfl) (hhi:val m hi=some (.int kk k):=by kernel_rfl) (hmx:val m mx=some (.int kq q):=by kernel_rfl)
 (hg:guardB af m g=some true:=by kernel_rfl) (hn:Nat.blt d n=true:=by kernel_rfl) (ht:elemT P t=some sz:=by kernel_rfl):R P n B af Q pc imm hs m:=by
 refine kF ho hg rfl hn λa w f gd=>?_
 obtain⟨e,hu,hse⟩:∃e,P.underlying t=some (.slice e)/\sizeT P e=some sz:=by
  unfold elemT at ht
  split at ht
  ·rename_i e hu;exact⟨e,hu,ht⟩
  ·cases ht
 obtain⟨h0,h1,h2,h3⟩:=hb
 have hh:∀{x:Operand}{kd:IntKind}{j:Int}{y:Nat}{c:BoundsCode},val m x=some (.int kd j)->0<=j->j<=y->(Instr.sliceBound (a.eval x) y c).run P w=.ok j.toNat w:=λhx h4 h5=>by
  simp[Instr.sliceBound,f.eval hx,asIntOf,h4,h5]
 have e1:=hh (y:=cap) (c:=.slice3Acap) hmx (by omega) h3
 have e2:=hh (y:=q.toNat) (c:=.slice3B) hhi (by omega) (by omega)
 have e3:=hh (y:=k.toNat) (c:=.slice3C) hlo h0 (by omega)
 refine⟨.slice (if q.toNat=i.toNat then p else p.map (·.add (i.toNat*sz))) (k.toNat - i.toNat) (q.toNat - i.toNat),w,imm,hs,?_,gd,next _⟩
 simp only[execOp,f.eval hx,Option.map_some,Instr.sliceAt,Instr.slice,Instr.sliceBounds,Sem.run_bind,xL hu,Result.andThen_ok,e1,e2,e3,qY hse,Sem.run_pure,if_true,Option.isSome_some]
theorem zPj{t:TypeId}{sz:Nat}{x:Operand}{p:Option Addr}{len cap:Nat}(ho:af[pc]?=some ⟨some d,.call { callee:=.builtin .cap,args:=#[x],argTypes:=#[t] },ty,pos,after,g⟩)
 (next:R P n B af Q (pc+1) imm hs ((d,goInt cap)::m)) (hx:val m x=some (.slice p len cap):=by kernel_rfl) (hg:guardB af m g=some true:=by kernel_rfl) (hn:Nat.blt d n=true:=by kernel_rfl) (ht:elemT P t=some sz:=by kernel_rfl):R P n B af Q pc imm hs m:=by
 refine kF ho hg rfl hn λa w f gd=>?_
 obtain⟨e,hu,hse⟩:∃e,P.underlying t=some (.slice e)/\sizeT P e=some sz:=by
  unfold elemT at ht
  split at ht
  ·rename_i e hu;exact⟨e,hu,ht⟩
  ·cases ht
 refine⟨_,w,imm,hs,?_,gd,next⟩
 simp only[execOp,resolve,eh,cG,df,f.eval hx,Sem.run_bind,Sem.run_pure,Result.andThen_ok,invoke,builtin,Builtin.cap_,dd,dg,xL hu]
def FC(P:Program)(B:Base)(imm:Imm)(hs:List HA)(v:Value)(sz len k:Nat)(news:List Value):Prop:=
 ∀w,Good B imm hs w->(Builtin.lenOf v).run P w=.ok len w/\∀w':World,w'.heap=w.heap->(Builtin.firstCells sz k v).run P w'=.ok ⟨news⟩ w'
theorem FC.win{j b off len cap sz k:Nat}{all:Array Value}(hj:hs[j]?=some (.blk b all))(h:off+k*sz<=all.size):FC P B imm hs (.slice (some ⟨b,off,none⟩) len cap) sz len k ((all.toList.drop off).take (k*sz)):=λw gd=>by
 obtain⟨h1,h2,ty,hw⟩:=gd.own _ (vO hj);refine⟨by simp[Builtin.lenOf],λw' hw'=>?_⟩;unfold Builtin.firstCells;rw[zBD (by rw[hw'];exact hw) h]
 congr 1
 apply Array.ext';rw[e9,dv]
 congr 2
 omega
theorem FC.src{v:Value}{sz k:Nat}{cs:List Value}(s:Src imm hs v sz cs)(hk:cs.length=k*sz)(bO:0<sz):FC P B imm hs v sz k k cs:=λw gd=>Src.first gd s hk bO
theorem zIA{t t2:TypeId}{x y:Operand}{b o dl dc:Nat}{all:Array Value}{vx:Value}{sl k:Nat}{news:List Value}(sz j:Nat)
 (ho:af[pc]?=some ⟨some d,.call { callee:=.builtin .copy,args:=#[x,y],argTypes:=#[t,t2] },ty,pos,after,g⟩) (hj:hs[j]?=some (.blk b all)) (hk:Nat.min sl dl=k) (hfc:FC P B imm hs vx sz sl k news) (bM:∀v∈news,v.oneCell'=true)
 (hfit:o+news.length<=all.size) (next:∀v,R P n B af Q (pc+1) imm (hs.set j (.blk b (wr all o news))) ((d,v)::m)) (hx:val m x=some (.slice (some ⟨b,o,none⟩) dl dc)) (hy:val m y=some vx)
 (hg:guardB af m g=some true:=by kernel_rfl) (hn:Nat.blt d n=true:=by kernel_rfl) (ht:elemT P t=some sz:=by kernel_rfl):R P n B af Q pc imm hs m:=by
 refine kF ho hg rfl hn λa w f gd=>?_
 obtain⟨e,hu,hse⟩:∃e,P.underlying t=some (.slice e)/\sizeT P e=some sz:=by
  unfold elemT at ht
  split at ht
  ·rename_i e hu;exact⟨e,hu,ht⟩
  ·cases ht
 obtain⟨h1,h2⟩:=hfc w gd
 obtain⟨hp,hi,ty',hw⟩:=gd.own _ (vO hj)
 have hst:=fM (P:=P) (off:=o) news 0 all w hw bM (by omega)
 have aK:=((gd.own _ (vO hj)).lt (b:=b) (by simp[HA.fp])).1
 refine⟨goInt k,setBlk w b (.cells (wr all o news) ty' (0,0)),imm,_,?_,gd.write_at hj (A':=.blk b (wr all o news)) (by simp[HA.fp]) (by simp[HA.fp]) _ ⟨hp,hi,ty',dE aK⟩,next _⟩
 simp only[execOp,resolve,eh,cG,df,f.eval hx,f.eval hy,Sem.run_bind,Sem.run_pure,Result.andThen_ok,invoke,builtin,Builtin.copy_,dd,dg,d5,xL hu,h1,qY hse,hk,h2 w rfl,hst,fg]
theorem zPI{t t2:TypeId}{x y:Operand}{b o sl sc:Nat}{all:Array Value}{vx:Value}{k:Nat}{news:List Value}(sz j:Nat)
 (ho:af[pc]?=some ⟨some d,.call { callee:=.builtin .append,args:=#[x,y],argTypes:=#[t,t2] },ty,pos,after,g⟩) (hj:hs[j]?=some (.blk b all)) (hroom:sl+k<=sc) (hfc:FC P B imm hs vx sz k k news) (bM:∀v∈news,v.oneCell'=true)
 (hfit:o+sl*sz+news.length<=all.size) (next:R P n B af Q (pc+1) imm (hs.set j (.blk b (wr all (o+sl*sz) news))) ((d,.slice (some ⟨b,o,none⟩) (sl+k) sc)::m)) (hx:val m x=some (.slice (some ⟨b,o,none⟩) sl sc)) (hy:val m y=some vx)
 (hg:guardB af m g=some true:=by kernel_rfl) (hn:Nat.blt d n=true:=by kernel_rfl) (ht:elemT P t=some sz:=by kernel_rfl) (ht2:elemOfT P t2=elemOfT P t:=by kernel_rfl):R P n B af Q pc imm hs m:=by
 refine kF ho hg rfl hn λa w f gd=>?_
 obtain⟨e,hu,hse⟩:∃e,P.underlying t=some (.slice e)/\sizeT P e=some sz:=by
  unfold elemT at ht
  split at ht
  ·rename_i e hu;exact⟨e,hu,ht⟩
  ·cases ht
 have hu2:P.underlying t2=some (.slice e):=by
  unfold elemOfT at ht2
  rw[hu] at ht2
  simp only at ht2
  split at ht2
  ·rename_i e' hq;injection ht2 with ht2;rw[hq,ht2]
  ·cases ht2
 obtain⟨h1,h2⟩:=hfc w gd
 obtain⟨hp,hi,ty',hw⟩:=gd.own _ (vO hj)
 have hst:=fM (P:=P) (off:=o+sl*sz) news 0 all w hw bM (by omega)
 have aK:=((gd.own _ (vO hj)).lt (b:=b) (by simp[HA.fp])).1
 refine⟨.slice (some ⟨b,o,none⟩) (sl+k) sc,setBlk w b (.cells (wr all (o+sl*sz) news) ty' (0,0)),imm,_,?_,gd.write_at hj (A':=.blk b (wr all (o+sl*sz) news)) (by simp[HA.fp]) (by simp[HA.fp]) _ ⟨hp,hi,ty',dE aK⟩,next⟩
 simp only[execOp,resolve,eh,cG,df,f.eval hx,f.eval hy,Sem.run_bind,Sem.run_pure,Result.andThen_ok,invoke,builtin]
 simp only[Builtin.append_,Sem.run_bind,xL hu,xL hu2,Result.andThen_ok,qY hse,h1,da,if_false,Sem.run_pure,dd,dg,d5,hroom,if_true,di,h2 w rfl,fL,hst,fg]
theorem zPJ{t:TypeId}{x:Operand}{b o q c:Nat}{all:Array Value}(zc:List Value)(sz j:Nat)
 (ho:af[pc]?=some ⟨none,.call { callee:=.builtin .clear,args:=#[x],argTypes:=#[t] },ty,pos,after,none⟩) (hj:hs[j]?=some (.blk b all)) (bM:∀v∈(Builtin.zeroCells ⟨zc⟩ (q+1)).toList,v.oneCell'=true) (hfit:o+(Builtin.zeroCells ⟨zc⟩ (q+1)).toList.length<=all.size)
 (next:R P n B af Q (pc+1) imm (hs.set j (.blk b (wr all o (Builtin.zeroCells ⟨zc⟩ (q+1)).toList))) m) (hx:val m x=some (.slice (some ⟨b,o,none⟩) (q+1) c)) (ht:clrT P t=some (sz,⟨zc⟩):=by kernel_rfl):R P n B af Q pc imm hs m:=by
 obtain⟨e,hu,hse,hz⟩:∃e,P.underlying t=some (.slice e)/\sizeT P e=some sz/\zeroC P e=some ⟨zc⟩:=by
  unfold clrT at ht
  split at ht
  ·rename_i e hq
   split at ht
   ·rename_i s zz h1 h2
    injection ht with ht
    injection ht with h3 h4
    subst h3;subst h4
    exact⟨e,hq,h1,h2⟩
   ·cases ht
  ·cases ht
 obtain⟨zv,hzv,hzc⟩:∃zv,(∀w,(zeroValue e).run P w=.ok zv w)/\zv.cells=⟨zc⟩:=by
  have hz':=hz
  unfold zeroC at hz'
  cases hi:P.info? e with
  | none=>rw[hi] at hz';cases hz'
  | some q=>
   rw[hi] at hz'
   simp only[Option.bind_some] at hz'
   cases hq:q.zero with
   | none=>rw[hq] at hz';cases hz'
   | some zv=>
    rw[hq] at hz'
    simp only[Option.map_some,Option.some.injEq] at hz'
    exact⟨zv,λw=>by simp[zeroValue,typeInfo,hi,hq],hz'⟩
 refine zPi ho rfl rfl λa w f gd=>?_
 obtain⟨hp,hi,ty',hw⟩:=gd.own _ (vO hj)
 have hst:=fM (P:=P) (off:=o) (Builtin.zeroCells ⟨zc⟩ (q+1)).toList 0 all w hw bM (by omega)
 have aK:=((gd.own _ (vO hj)).lt (b:=b) (by simp[HA.fp])).1
 refine⟨.tuple #[],setBlk w b (.cells (wr all o (Builtin.zeroCells ⟨zc⟩ (q+1)).toList) ty' (0,0)),imm,_,?_,gd.write_at hj (A':=.blk b (wr all o (Builtin.zeroCells ⟨zc⟩ (q+1)).toList)) (by simp[HA.fp]) (by simp[HA.fp]) _ ⟨hp,hi,ty',dE aK⟩,next⟩
 simp only[execOp,resolve,eh,cG,df,f.eval hx,Sem.run_bind,Sem.run_pure,Result.andThen_ok,invoke,builtin,Builtin.clear_,dd,dg,xL hu,hzv,hzc,hst,fg]
theorem Good.two{w:World}(h:Good B imm hs w){i j:Nat}{A A':HA}(hi:hs[i]?=some A)(hj:hs[j]?=some A')(hne:i ≠ j){b b':Nat}(hb:b∈A.fp)(hb':b'∈A'.fp):b ≠ b':=by
 rintro rfl;have hp:=jJ hi;have bU:=((hp.flatMap_right HA.fp).nodup_iff).1 h.nodup;rw[cg] at bU;refine(cI.1 bU).2.2 b hb b (cD.2 ⟨A',?_,hb'⟩) rfl;obtain⟨hjl,rfl⟩:=bZ.1 hj;exact List.mem_eraseIdx_iff_getElem.2 ⟨j,hjl,λe=>hne e.symm,rfl⟩
theorem zOF{t tn e:TypeId}{x y:Operand}{p:Option Addr}{sl sc k by':Nat}{olds:List Value}{kq kn:IntKind}{zc:Array Value}(sz:Nat)
 (ho:af[pc]?=some ⟨some d,.call { callee:=.builtin .append,args:=#[x,y],argTypes:=#[t,tn] },ty,pos,after,g⟩) (hfc:FC P B imm hs (.slice p sl sc) sz sl sl olds) (h0:0<k) (hgr:sc<sl+k) (hb:(sl+k)*by'<=140737488355328) (hlk:sl+k<=1000000)
 (hsT:sizeT P e=some sz) (hbT:bytesT P e=some by') (hzT:zeroC P e=some zc) (hzs:zc.size=sz) (hs0:0<sz) (holds:olds.length=sl*sz) (ht:P.underlying t=some (.slice e)) (htn:P.underlying tn=some (.int kn))
 (next:∀b all cap',sl+k<=cap'->cap'<=9223372036854775807->all.size=cap'*sz->all.toList.take (sl*sz)=olds->R P n B af Q (pc+1) imm (.blk b all::hs) ((d,.slice (some ⟨b,0,none⟩) (sl+k) cap')::m))
 (hx:val m x=some (.slice p sl sc)) (hy:val m y=some (.int kq k)) (hg:guardB af m g=some true:=by kernel_rfl) (hn:Nat.blt d n=true:=by kernel_rfl):R P n B af Q pc imm hs m:=by
 refine kF ho hg rfl hn λa w f gd=>?_
 cases hi:P.info? e with
 | none=>simp[sizeT,hi] at hsT
 | some i=>
  have bO:i.size=sz:=by simpa [sizeT,hi] using hsT
  have hby:i.bytes=by':=by simpa [bytesT,hi] using hbT
  cases hz:i.zero with
  | none=>simp[zeroC,hi,hz] at hzT
  | some z=>
   have hzc:z.cells=zc:=by simpa [zeroC,hi,hz] using hzT
   subst hby
   rw[<- hzc] at hzs
   have hfit:=growslice_fits (bytes:=i.bytes) hgr hb
   have hk1:k*i.bytes<=(sl+k)*i.bytes:=cV _ (by omega)
   have hrun:=Lib.run_append_grow_zeros (P:=P) w t tn ty e i z kq kn ht htn hi hz p sl sc olds (by rw[bO];exact(hfc w gd).2 w.drew rfl) k h0 (by omega) hgr (by omega) (by omega) (by omega)
   have hge:=grownCap_ge w (sl+k) sc e
   have bH:=grownCap_le_maxLen w (sl+k) sc e (by simp only[maxLen];omega)
   have hg2:=(gd.draw (w.drawn+1) (Nat.le_succ _)).alloc_blk (olds.toArray++Builtin.zeroCells z.cells k++Builtin.zeroCells z.cells (grownCap w (sl+k) sc e - (sl+k))) e
   refine⟨_,_,imm,_,?_,hg2,next w.heap.size _ _ hge (by simp only[maxLen] at bH;exact bH) ?_ ?_⟩
   ·simp only[execOp,resolve,eh,cG,df,f.eval hx,f.eval hy,Sem.run_bind,Sem.run_pure,Result.andThen_ok,invoke,builtin,hrun]
    rfl
   ·simp only[Array.size_append,List.size_toArray,zDh,hzs,holds,<- ed]
    congr 1
    omega
   ·simp only[Array.toList_append,cm]
    rw[<- holds];exact List.take_left
theorem zPk{f:FuncId}{fn:Func}{x y:Operand}{ts:Array TypeId}{t tr e:TypeId}{b o vb vo la ca lb cb sz szv:Nat}{all:Array Value}{cv:List Value}(j j2:Nat)
 (ho:af[pc]?=some ⟨some d,.call { callee:=.value (.func f),args:=#[x,y],argTypes:=ts },ty,pos,after,g⟩) (hj:hs[j]?=some (.blk b all)) (hj2:hs[j2]?=some (.osl (.slice (some ⟨vb,vo,none⟩) la ca) szv cv)) (hne:j ≠ j2) (h0:all.size ≠ 0)
 (hf:P.funcs[f]?=some fn) (hname:(fn.name == "runtime.NumGoroutine")=false) (hbd:fn.body.isNone=true) (hnx:Extern.findNext fn=none) (hex:Extern.find fn=some (Extern.SlicesOverlaps.overlaps #[t,t] #[tr])) (hu:P.underlying t=some (.slice e)) (hse:sizeT P e=some sz)
 (next:R P n B af Q (pc+1) imm hs ((d,.bool false)::m)) (hx:val m x=some (.slice (some ⟨vb,vo,none⟩) la ca)) (hy:val m y=some (.slice (some ⟨b,o,none⟩) lb cb)) (hg:guardB af m g=some true:=by kernel_rfl) (hn:Nat.blt d n=true:=by kernel_rfl):R P n B af Q pc imm hs m:=by
 refine kF ho hg rfl hn λa w fr gd=>?_
 obtain⟨_,_,ty1,hw1⟩:=gd.own _ (vO hj)
 have hvb:vb ≠ b:=gd.two hj2 hj (λh=>hne h.symm) (by simp[HA.fp]) (by simp[HA.fp])
 rcases gd.own _ (vO hj2) with⟨e1,_⟩|⟨b2,off2,len2,cap2,all2,ty2,e1,_,_,hw2,_⟩
 ·injection e1 with e1;cases e1
 ·injection e1 with e1 e2 e3
  injection e1 with e1
  injection e1 with e1 e4
  subst e1
  have hov:=Lib.run_overlaps_apart (P:=P) w t tr e hu sz (λw=>qY hse) ⟨vb,vo,none⟩ ⟨b,o,none⟩ la ca lb cb hvb ty2 ty1 all2.size all.size (by simp[World.shape?,hw2]) (by simp[World.shape?,hw1]) h0 (by simp[World.frozen?,hw2]) (by simp[World.frozen?,hw2])
  refine⟨.bool false,w,imm,hs,?_,gd,next⟩
  simp only[execOp,resolve,Deferred.ofValue,fr.eval (show val m (.func f)=some (.func (.func f) #[] #[]) from rfl),eh,cG,df,fr.eval hx,fr.eval hy,Sem.run_bind,Sem.run_pure,Result.andThen_ok,invoke,Array.empty_append,Array.append_empty,run_callFunc_extern hf hname hbd hnx hex,hov]
end
end Go.LN
