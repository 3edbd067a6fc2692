/- Helper of the proof (see the last text). -/
import Derived.Test.YtcmjkmdecmabaaaGreatLnI
import Derived.Laws.BitsLemmas
import Derived.Sort.Grow
import Derived.Lib.LaidTab
import Derived.Lib.ItoaNum
import Derived.Lib.ItoaMem
import Derived.Sort.Row
import Derived.Lib.AtoiErrMem
import Derived.Lib.AtoiTie
import Derived.Lib.SplitLaws
import Derived.Lib.AtoiAll
import Derived.Shelf.SlicesE.Delete
import Derived.Laws.StructEq
set_option linter.unusedVariables false
set_option linter.unusedSimpArgs false
namespace Go.LN
def mkrow {α:Type} (bytes:Nat) (k:Int) (z:α):Option (List α):=if 0<=k/\k.toNat*bytes<=140737488355328 then some (List.replicate k.toNat z) else none
def zrow (z:Array Value) (k:Nat):List Value:=(List.range k).map fun i=>z[i % z.size]!
theorem zN0 (z:Array Value) (k:Nat) (h:0<z.size):(List.range z.size).map (fun i=>z[(k*z.size+i) % z.size]!)=z.toList:=by
  refine fu (by simp) fun i h1 h2=>?_;have hi:i<z.size:=by simpa using h1
  simp only [List.getElem_map,hY,Array.getElem_toList];have e:(k*z.size+i) % z.size=i:=by rw [Nat.add_comm,Nat.mul_comm,Nat.add_mul_mod_self_left,Nat.mod_eq_of_lt hi]
  rw [e];exact getElem!_pos z i hi
theorem zK0 {α:Type}{ρ:List Value->α->Prop}{z:Array Value}{a:α} (hz:0<z.size) (h:ρ z.toList a):∀ k,RepL ρ z.size (zrow z (k*z.size)) (List.replicate k a)
  | 0=>by simp [zrow,RepL]
  | k+1=>by
    have e:zrow z ((k+1)*z.size)=zrow z (k*z.size)++z.toList:=by
      unfold zrow
      rw [eq,List.range_add,de,List.map_map]
      congr 1
      exact zN0 z k hz
    rw [e,List.replicate_succ']
    exact (zK0 hz h k).append (.single (by simp) h)
section
variable {P:Program}{n:Nat}{B:Base}{Q:Exit->Act->World->Prop}{imm:Imm}{hs:List HA}{m:FM}{af:List Oper}{pc d:Nat}{ty:TypeId}{pos:String}{after:Array Edge}{g:Option (Nat×Bool)}
def mkT (P:Program) (t:TypeId):Option (Nat×Nat×List Value) :=
  match elemOfT P t with
  | some e=>match sizeT P e,bytesT P e,zeroC P e with
    | some s,some b,some z=>bif Nat.beq z.size s&&Nat.blt 0 b then some (s,b,z.toList) else none
    | _,_,_=>none
  | none=>none
theorem zP9 {α:Type} [Rp α] {t:TypeId}{x y:Operand}{k:Int}{a:α}{l:List α} (by':Nat) (z:List Value) (ho:af[pc]?=some ⟨some d,.makeSlice t x y,ty,pos,after,g⟩) (hk:mkrow by' k a=some l) (hr:Rp.rep imm z a)
    (next:∀ b cs,RL imm cs l->R P n B af Q (pc+1) imm (.osl (.slice (some ⟨b,0,none⟩) l.length l.length) (Rp.sz α) cs::hs) ((d,.slice (some ⟨b,0,none⟩) l.length l.length)::m))
    (hg:guardB af m g=some true:=by kernel_rfl) (hn:Nat.blt d n=true:=by kernel_rfl) (hx:val m x=some (.int .i64 k):=by kernel_rfl) (hy:val m y=some (.int .i64 k):=by kernel_rfl) (ht:mkT P t=some (Rp.sz α,by',z):=by kernel_rfl) :
    R P n B af Q pc imm hs m:=by
  refine mT ho hg rfl hn fun ac w f gd=>?_
  unfold mkrow at hk
  split at hk
  · rename_i hk0
    cases hk
    obtain ⟨hk0,hkb⟩:=hk0
    unfold mkT at ht
    cases he:elemOfT P t with
    | none=>rw [he] at ht; cases ht
    | some e =>
      rw [he] at ht
      simp only at ht
      split at ht
      · rename_i s b zc h1 h2 h3
        cases hq:Nat.beq zc.size s&&Nat.blt 0 b with
        | false=>rw [hq] at ht; cases ht
        | true =>
          rw [hq] at ht
          simp only [cond_true,Option.some.injEq,Prod.mk.injEq] at ht
          obtain ⟨rfl,rfl,rfl⟩:=ht
          rw [cR] at hq
          have hzs:=cU hq.1
          have hb0:0<b:=by simpa using hq.2
          have hu:P.underlying t=some (.slice e):=by
            unfold elemOfT at he
            split at he <;> simp_all
          cases hie:P.info? e with
          | none=>simp [sizeT,hie] at h1
          | some ie =>
          have hsz':ie.size=Rp.sz α:=by simpa [sizeT,hie] using h1
          have hby':ie.bytes=b:=by simpa [bytesT,hie] using h2
          obtain ⟨zv,hz1,hz2⟩:=zAV (w:=w) h3
          have hpos:0<zc.size:=by rw [hzs]; exact Rp.pos
          have hkk:(k.toNat:Int)=k:=Int.toNat_of_nonneg hk0
          have bN:k.toNat<=k.toNat*b:=Nat.le_mul_of_pos_right _ hb0
          have hwr:IntKind.i64.wrap k=k:=by rw [IntKind.wrap_i64]; omega
          have hmul:((ie.bytes:Int)*k)<=140737488355328:=by
            rw [<- hkk,hby',<- Int.natCast_mul,Nat.mul_comm]
            exact Int.ofNat_le.2 hkb
          have hnt:¬(k<0):=by omega
          have hnb:¬((ie.bytes:Int)*k>2 ^ 48):=by omega
          let row:Array Value:=if k.toNat*Rp.sz α=0 then #[] else (Array.range (k.toNat*Rp.sz α)).map (fun i=>zc[i % zc.size]!)
          have hrow:(((Array.range (k.toNat*ie.size)).map fun i=>(if k.toNat*ie.size=0 then #[] else zc)[i % (if k.toNat*ie.size=0 then (#[]:Array Value) else zc).size]!))=⟨zrow zc (k.toNat*zc.size)⟩:=by
            rw [hsz',<- hzs]
            apply Array.ext'
            by_cases h0:k.toNat*zc.size=0
            · simp [h0,zrow]
            · simp [h0,zrow]
          have aU:(zrow zc (k.toNat*zc.size)).length=k.toNat*Rp.sz α:=by simp [zrow,hzs]
          have hg:=gd.alloc_osl ⟨zrow zc (k.toNat*zc.size)⟩ e (Rp.sz α) k.toNat k.toNat (zrow zc (k.toNat*zc.size)) (by show _<=(zrow _ _).length; rw [aU]; exact cP _) (cP _) (by rw [<- aU]; exact fq) aU (by omega)
          have hll:(List.replicate k.toNat a).length=k.toNat:=eo
          rw [hll] at next
          refine ⟨_,_,imm,_,?_,hg,next w.heap.size _ ?_⟩
          · simp only [execOp,f.eval hx,f.eval hy,Instr.makeSlice,Sem.run_bind,xB hu,Result.andThen_ok,asInt,asIntOf,Sem.run_pure,typeInfo,run_program,hie,hwr,hnt,hnb,decide_false,fm,cI,false_or,or_self,if_false,Int.lt_irrefl,
              gt_iff_lt,run_askRoom,qY h1]
            by_cases h0:k.toNat*Rp.sz α=0
            · have:=hrow
              rw [hsz'] at this
              simp only [h0,if_true] at this ⊢
              simp only [Sem.run_pure,Result.andThen_ok,newRow,run_newObj,Sem.run_bind,this]
            · have:=hrow
              rw [hsz'] at this
              simp only [h0,if_false] at this ⊢
              simp only [Sem.run_bind,hz1,hz2,Sem.run_pure,Result.andThen_ok,newRow,run_newObj,this]
          · have:=zK0 (z:=zc) (a:=a) hpos hr k.toNat
            rw [hzs] at this
            show RepL _ _ _ _
            rw [hzs]
            exact this
      · cases ht
  · cases hk
theorem zME {f:FuncId}{first cap:List Value}{x:Operand}{xs:Array Operand}{ts:Array TypeId}{vs:List Value}{hs1 rest:List HA}{post:Nat->Imm->List HA->Value->Prop}
    (ho:af[pc]?=some ⟨some d,.call { callee:=.value x,args:=xs,argTypes:=ts },ty,pos,after,g⟩) (hx:val m x=some (.func (.func f) ⟨first⟩ ⟨cap⟩)) (hf:callable P f=true)
    (hvs:vals m xs.toList=some vs) (hh:hs=hs1++rest) (hc:Ret P f (first++vs++cap) imm hs1 post)
    (next:∀ ar ah v k,imm.le ar->B.w0.heap.size<=k->post k ar ah v->(∀ b∈ah.flatMap HA.fp,b∈hs1.flatMap HA.fp∨B.w0.heap.size<=b)->R P n B af Q (pc+1) ar (ah++rest) ((d,v)::m)) (hg:guardB af m g=some true:=by kernel_rfl) (hn:Nat.blt d n=true:=by kernel_rfl):R P n B af Q pc imm hs m :=
  zH6 ho hg fun a w fr gd=>by
    subst hh
    have hargs:xs.map a.eval=vs.toArray:=by apply Array.ext'; rw [d8,fr.evals hvs]
    have hall:(⟨first⟩:Array Value)++vs.toArray++⟨cap⟩=(first++vs++cap).toArray:=by apply Array.ext'; simp
    have bZ:=gd.nodup
    rw [ee] at bZ
    have hg1:=gd.enter (hs1:=hs1) (fun A hA=>dn _ hA) (cE.1 bZ).1
    unfold Oper.wp
    simp only [execOp,resolve,Deferred.ofValue,fr.eval hx,hargs,Sem.run_bind,Sem.run_pure,Result.andThen_ok,invoke,hall,zEw hf,Oper.upon]
    refine (hc w hg1).mono fun e w' he=>?_
    cases e with
    | returned v =>
      obtain ⟨ar,ah,hp,hgood⟩:=he
      obtain ⟨g2,bN,hfp⟩:=gd.leave hgood
      exact next ar ah v w.heap.size bN gd.frm.size hp hfp _ w' (fr.put d v (by simpa using hn)) g2
    | panicked c=>exact he.elim
    | outgrown=>exact he.elim
end
class Vr (α:Type) where
  rep:Imm->Value->α->Prop
  mono:∀ {i j:Imm}{v:Value}{a:α},i.le j->rep i v a->rep j v a
instance:Vr Int:=⟨fun _ v a=>v=.int .i64 a,fun _ h=>h⟩
instance:Vr Bool:=⟨fun _ v a=>v=.bool a,fun _ h=>h⟩
instance:Vr Str:=⟨fun _ v a=>v=.string ⟨⟨a.l⟩⟩,fun _ h=>h⟩
instance {α:Type} [Rp α]:Vr (List α):=⟨fun i v a=>SL i v a,fun hl h=>h.mono hl⟩
def FV1 {α β:Type} [Vr α] [Vr β] (P:Program) (imm:Imm) (bh:List HA) (v:Value) (φ:α->Option β):Prop :=
  ∃ f first cap,v=.func (.func f) ⟨first⟩ ⟨cap⟩/\callable P f=true/\∀ ar,imm.le ar->∀ a r va,φ a=some r->Vr.rep ar va a->Ret P f (first++[va]++cap) ar bh fun _ i ah u=>ah=bh/\Vr.rep i u r
theorem FV1.mono {α β:Type} [Vr α] [Vr β] {P:Program}{i j:Imm}{bh:List HA}{v:Value}{φ:α->Option β} (hl:i.le j) (h:FV1 P i bh v φ):FV1 P j bh v φ:=by
  obtain ⟨f,first,cap,h1,h2,h3⟩:=h;exact ⟨f,first,cap,h1,h2,fun ar h'=>h3 ar (hl.trans h')⟩
theorem FV1.intro {α β:Type} [Vr α] [Vr β] {P:Program}{imm:Imm}{bh:List HA}{f:FuncId}{first cap:List Value}{φ:α->Option β} (h:∀ ar,imm.le ar->∀ a r va,φ a=some r->Vr.rep ar va a->Ret P f (first++[va]++cap) ar bh fun _ i ah u=>ah=bh/\Vr.rep i u r)
    (hc:callable P f=true:=by kernel_rfl):FV1 P imm bh (.func (.func f) ⟨first⟩ ⟨cap⟩) φ:=⟨f,first,cap,rfl,hc,h⟩
def FV2 {α β γ:Type} [Vr α] [Vr β] [Vr γ] (P:Program) (imm:Imm) (bh:List HA) (v:Value) (φ:α->β->Option γ):Prop :=
  ∃ f first cap,v=.func (.func f) ⟨first⟩ ⟨cap⟩/\callable P f=true/\∀ ar,imm.le ar->∀ a b r va vb,φ a b=some r->Vr.rep ar va a->Vr.rep ar vb b->Ret P f (first++[va,vb]++cap) ar bh fun _ i ah u=>ah=bh/\Vr.rep i u r
theorem FV2.mono {α β γ:Type} [Vr α] [Vr β] [Vr γ] {P:Program}{i j:Imm}{bh:List HA}{v:Value}{φ:α->β->Option γ} (hl:i.le j) (h:FV2 P i bh v φ):FV2 P j bh v φ:=by
  obtain ⟨f,first,cap,h1,h2,h3⟩:=h;exact ⟨f,first,cap,h1,h2,fun ar h'=>h3 ar (hl.trans h')⟩
theorem FV2.intro {α β γ:Type} [Vr α] [Vr β] [Vr γ] {P:Program}{imm:Imm}{bh:List HA}{f:FuncId}{first cap:List Value}{φ:α->β->Option γ} (h:∀ ar,imm.le ar->∀ a b r va vb,φ a b=some r->Vr.rep ar va a->Vr.rep ar vb b->Ret P f (first++[va,vb]++cap) ar bh fun _ i ah u=>ah=bh/\Vr.rep i u r)
    (hc:callable P f=true:=by kernel_rfl):FV2 P imm bh (.func (.func f) ⟨first⟩ ⟨cap⟩) φ:=⟨f,first,cap,rfl,hc,h⟩
section
variable {P:Program}{n:Nat}{B:Base}{Q:Exit->Act->World->Prop}{imm:Imm}{hs:List HA}{m:FM}{af:List Oper}{pc d:Nat}{ty:TypeId}{pos:String}{after:Array Edge}{g:Option (Nat×Bool)}
theorem zK1 {α β:Type} [Vr α] [Vr β] {x y:Operand}{ts:Array TypeId}{v va:Value}{a:α}{r:β}{φ:α->Option β}{bh rest:List HA}
    (ho:af[pc]?=some ⟨some d,.call { callee:=.value x,args:=#[y],argTypes:=ts },ty,pos,after,g⟩) (hy:val m y=some va) (hF:FV1 P imm bh v φ) (hr:φ a=some r) (ha:Vr.rep imm va a) (hh:hs=bh++rest)
    (next:∀ ar u,imm.le ar->Vr.rep ar u r->R P n B af Q (pc+1) ar (bh++rest) ((d,u)::m)) (hx:val m x=some v:=by kernel_rfl) (hg:guardB af m g=some true:=by kernel_rfl) (hn:Nat.blt d n=true:=by kernel_rfl):R P n B af Q pc imm hs m:=by
  obtain ⟨f,first,cap,rfl,hf,hc⟩:=hF
  refine zME ho hx hf (vs:=[va]) (by simp [vals,hy]) hh (hc imm (Imm.le.refl _) a r va hr ha) ?_ hg hn
  rintro ar ah u k hl hk ⟨rfl,h⟩ -
  exact next ar u hl h
end
end Go.LN
namespace Go.LN
theorem Good.grow {B:Base}{imm:Imm}{hs:List HA}{w:World} (h:Good B imm hs w) (k:Nat) (os:Array Obj):Good B imm hs (Sort.grow (w.drewN k) os):=by
  have h:=h.drewN k;generalize w.drewN k=w at h;have old:∀ b,b<w.heap.size->(Sort.grow w os).heap[b]?=w.heap[b]?:=fun b hb=>by
    show (w.heap++os)[b]?=_;rw [ic hb]
  refine ⟨fun b c e=>?_,fun A hA=>(h.own A hA).same (fun _ _ p=>p) (fun _ _=>rfl) (fun b hb=>old b ((h.own A hA).lt hb).1),h.nodup,⟨h.frm.os,h.frm.tape,h.frm.output,?_,fun b hb hio=>?_,h.frm.imm,h.frm.drawn⟩⟩
  · obtain ⟨ty,fr,e'⟩:=h.inv b c e;exact ⟨ty,fr,(old b (h.lt_imm e)).trans e'⟩
  · show _<=(w.heap++os).size;rw [Array.size_append];exact cX h.frm.size (ga _ _)
  · exact (old b (gi hb h.frm.size)).trans (h.frm.heap b hb hio)
def GT (P:Program) (imm:Imm):Prop:=∃ g,P.globalNamed "internal/strconv.uint64pow10"=some g∧imm g=some (Lib.pow10Tab.map fun z=>Value.int .u64 z).toArray
def GM (P:Program) (imm:Imm):Prop:=∃ g,P.globalNamed "internal/bytealg.MaxLen"=some g∧∃ m,imm g=some #[.int .i64 m]
def GE (P:Program) (imm:Imm) (nm:String):Prop:=∃ g,P.globalNamed nm=some g/\∃ t p,imm g=some #[.iface t p]
def GH (P:Program) (imm:Imm):Prop:=GT P imm∧GM P imm∧GE P imm "strconv.ErrSyntax"∧GE P imm "strconv.ErrRange"
theorem GH.mono {P:Program}{i j:Imm} (hl:i.le j) (h:GH P i):GH P j:=by
  obtain ⟨⟨g,h1,h2⟩,⟨g3,h3,m,h4⟩,⟨g5,h5,t,p,h6⟩,⟨g7,h7,u,q,h8⟩⟩:=h;exact ⟨⟨g,h1,hl _ _ h2⟩,⟨g3,h3,m,hl _ _ h4⟩,⟨g5,h5,t,p,hl _ _ h6⟩,⟨g7,h7,u,q,hl _ _ h8⟩⟩
theorem GH.es {P:Program}{imm:Imm} (h:GH P imm):GE P imm "strconv.ErrSyntax":=h.2.2.1
end Go.LN
namespace Go.LN
theorem zCU {k : IntKind} {n : Int} : (Value.int k n).oneCell' = true := rfl
theorem zHU {s : ByteArray} : (Value.string s).oneCell' = true := rfl
theorem SL.one {α : Type} [Rp α] {i : Imm} {v : Value} {l : List α} (h : SL i v l) : v.oneCell' = true := by
  obtain ⟨aP, hs, _⟩ := h
  rcases hs with ⟨rfl, _⟩ | ⟨b, off, len, cap, c, rfl, _⟩ <;> rfl
structure zF where
  Name : Str
  Dims : List Int
instance : Rp zF where
  sz := 2
  pos := by decide
  rep i cs s := ∃ v0 : Value, cs = [.string ⟨⟨s.Name.l⟩⟩, v0] /\ SL i v0 s.Dims
  len h := by obtain ⟨v0, rfl, h0⟩ := h; rfl
  mono hm h := by obtain ⟨v0, e, h0⟩ := h; exact ⟨v0, e, h0.mono hm⟩
  one h := by obtain ⟨v0, rfl, h0⟩ := h; simp [zHU, h0.one]
theorem zCj {i : Imm} {cs : List Value} {s : zF} (h : Rp.rep i cs s) : ∃ v0 : Value, cs = [.string ⟨⟨s.Name.l⟩⟩, v0] /\ SL i v0 s.Dims := h
theorem qU {i : Imm} {cs : List Value} {s : zF} (h : ∃ v0 : Value, cs = [.string ⟨⟨s.Name.l⟩⟩, v0] /\ SL i v0 s.Dims) : Rp.rep i cs s := h
theorem wW {i : Imm} {cs : List Value} {s : zF} (h : Rp.rep i cs s) : ∃ (p0 : Option Addr) (c0 : Nat), cs = [.string ⟨⟨s.Name.l⟩⟩, vS p0 s.Dims c0] /\ SL i (vS p0 s.Dims c0) s.Dims := by
  obtain ⟨v0, e, h0⟩ := zCj h
  obtain ⟨p0, c0, rfl⟩ := h0.form
  exact ⟨p0, c0, e, h0⟩
instance : Vr zF := ⟨fun i v a => ∃ cs, v = .agg ⟨cs⟩ /\ Rp.rep i cs a, fun hl ⟨cs, e, h⟩ => ⟨cs, e, Rp.mono hl h⟩⟩
structure zA where
  Coefs : List Int
  Const : Int
instance : Rp zA where
  sz := 2
  pos := by decide
  rep i cs s := ∃ v0 : Value, cs = [v0, .int .i64 s.Const] /\ SL i v0 s.Coefs
  len h := by obtain ⟨v0, rfl, h0⟩ := h; rfl
  mono hm h := by obtain ⟨v0, e, h0⟩ := h; exact ⟨v0, e, h0.mono hm⟩
  one h := by obtain ⟨v0, rfl, h0⟩ := h; simp [zCU, h0.one]
theorem zGC {i : Imm} {cs : List Value} {s : zA} (h : Rp.rep i cs s) : ∃ v0 : Value, cs = [v0, .int .i64 s.Const] /\ SL i v0 s.Coefs := h
theorem yP {i : Imm} {cs : List Value} {s : zA} (h : ∃ v0 : Value, cs = [v0, .int .i64 s.Const] /\ SL i v0 s.Coefs) : Rp.rep i cs s := h
theorem yS {i : Imm} {cs : List Value} {s : zA} (h : Rp.rep i cs s) : ∃ (p0 : Option Addr) (c0 : Nat), cs = [vS p0 s.Coefs c0, .int .i64 s.Const] /\ SL i (vS p0 s.Coefs c0) s.Coefs := by
  obtain ⟨v0, e, h0⟩ := zGC h
  obtain ⟨p0, c0, rfl⟩ := h0.form
  exact ⟨p0, c0, e, h0⟩
instance : Vr zA := ⟨fun i v a => ∃ cs, v = .agg ⟨cs⟩ /\ Rp.rep i cs a, fun hl ⟨cs, e, h⟩ => ⟨cs, e, Rp.mono hl h⟩⟩
structure zE where
  Lo : List zA
  Hi : List zA
instance : Rp zE where
  sz := 2
  pos := by decide
  rep i cs s := ∃ v0 v1 : Value, cs = [v0, v1] /\ SL i v0 s.Lo /\ SL i v1 s.Hi
  len h := by obtain ⟨v0, v1, rfl, h0, h1⟩ := h; rfl
  mono hm h := by obtain ⟨v0, v1, e, h0, h1⟩ := h; exact ⟨v0, v1, e, h0.mono hm, h1.mono hm⟩
  one h := by obtain ⟨v0, v1, rfl, h0, h1⟩ := h; simp [h0.one, h1.one]
theorem zDF {i : Imm} {cs : List Value} {s : zE} (h : Rp.rep i cs s) : ∃ v0 v1 : Value, cs = [v0, v1] /\ SL i v0 s.Lo /\ SL i v1 s.Hi := h
theorem qL {i : Imm} {cs : List Value} {s : zE} (h : ∃ v0 v1 : Value, cs = [v0, v1] /\ SL i v0 s.Lo /\ SL i v1 s.Hi) : Rp.rep i cs s := h
theorem sW {i : Imm} {cs : List Value} {s : zE} (h : Rp.rep i cs s) : ∃ (p0 : Option Addr) (c0 : Nat) (p1 : Option Addr) (c1 : Nat), cs = [vS p0 s.Lo c0, vS p1 s.Hi c1] /\ SL i (vS p0 s.Lo c0) s.Lo /\ SL i (vS p1 s.Hi c1) s.Hi := by
  obtain ⟨v0, v1, e, h0, h1⟩ := zDF h
  obtain ⟨p0, c0, rfl⟩ := h0.form
  obtain ⟨p1, c1, rfl⟩ := h1.form
  exact ⟨p0, c0, p1, c1, e, h0, h1⟩
instance : Vr zE := ⟨fun i v a => ∃ cs, v = .agg ⟨cs⟩ /\ Rp.rep i cs a, fun hl ⟨cs, e, h⟩ => ⟨cs, e, Rp.mono hl h⟩⟩
structure zL where
  Array : Str
  Subs : List zA
instance : Rp zL where
  sz := 2
  pos := by decide
  rep i cs s := ∃ v0 : Value, cs = [.string ⟨⟨s.Array.l⟩⟩, v0] /\ SL i v0 s.Subs
  len h := by obtain ⟨v0, rfl, h0⟩ := h; rfl
  mono hm h := by obtain ⟨v0, e, h0⟩ := h; exact ⟨v0, e, h0.mono hm⟩
  one h := by obtain ⟨v0, rfl, h0⟩ := h; simp [zHU, h0.one]
theorem zGD {i : Imm} {cs : List Value} {s : zL} (h : Rp.rep i cs s) : ∃ v0 : Value, cs = [.string ⟨⟨s.Array.l⟩⟩, v0] /\ SL i v0 s.Subs := h
theorem kD {i : Imm} {cs : List Value} {s : zL} (h : ∃ v0 : Value, cs = [.string ⟨⟨s.Array.l⟩⟩, v0] /\ SL i v0 s.Subs) : Rp.rep i cs s := h
theorem nY {i : Imm} {cs : List Value} {s : zL} (h : Rp.rep i cs s) : ∃ (p0 : Option Addr) (c0 : Nat), cs = [.string ⟨⟨s.Array.l⟩⟩, vS p0 s.Subs c0] /\ SL i (vS p0 s.Subs c0) s.Subs := by
  obtain ⟨v0, e, h0⟩ := zGD h
  obtain ⟨p0, c0, rfl⟩ := h0.form
  exact ⟨p0, c0, e, h0⟩
instance : Vr zL := ⟨fun i v a => ∃ cs, v = .agg ⟨cs⟩ /\ Rp.rep i cs a, fun hl ⟨cs, e, h⟩ => ⟨cs, e, Rp.mono hl h⟩⟩
inductive zI where
  | mk (Kind : Int) (Num : Int) (Index : zA) (Read : zL) (Kids : List zI)
def zI.Kind : zI -> Int | .mk x _ _ _ _ => x
def zI.Num : zI -> Int | .mk _ x _ _ _ => x
def zI.Index : zI -> zA | .mk _ _ x _ _ => x
def zI.Read : zI -> zL | .mk _ _ _ x _ => x
def zI.Kids : zI -> (List zI) | .mk _ _ _ _ x => x
mutual
def zI.repE (i : Imm) : zI -> List Value -> Prop
  | .mk Kind Num Index Read Kids, cs => ∃ (v0 v1 v2 : Value) (aP : List Value), cs = [.int .i64 Kind, .int .i64 Num, v0, .int .i64 Index.Const, .string ⟨⟨Read.Array.l⟩⟩, v1, v2] /\ SL i v0 Index.Coefs /\ SL i v1 Read.Subs /\ SliceAt i v2 7 aP /\ zI.reps i Kids aP
def zI.reps (i : Imm) : List zI -> List Value -> Prop
  | [], cs => cs = []
  | e :: es, cs => ∃ c1 c2, cs = c1++c2 /\ c1.length = 7 /\ zI.repE i e c1 /\ zI.reps i es c2
end
mutual
theorem zEQ {i : Imm} : ∀ {e : zI} {cs : List Value}, zI.repE i e cs -> cs.length = 7
  | .mk .., cs, h => by simp only [zI.repE] at h; obtain ⟨v0, v1, v2, aP, rfl, _⟩ := h; rfl
end
mutual
theorem zAh {i j : Imm} (hm : i.le j) : ∀ {e : zI} {cs : List Value}, zI.repE i e cs -> zI.repE j e cs
  | .mk .., cs, h => by
    simp only [zI.repE] at h ⊢
    obtain ⟨v0, v1, v2, aP, e, k0, k1, ha, hb⟩ := h
    exact ⟨v0, v1, v2, aP, e, k0.mono hm, k1.mono hm, ha.mono hm, zAi hm hb⟩
theorem zAi {i j : Imm} (hm : i.le j) : ∀ {es : List zI} {cs : List Value}, zI.reps i es cs -> zI.reps j es cs
  | [], cs, h => by simpa [zI.reps] using h
  | e :: es, cs, h => by
    simp only [zI.reps] at h ⊢
    obtain ⟨c1, c2, h1, h2, h3, h4⟩ := h
    exact ⟨c1, c2, h1, h2, zAh hm h3, zAi hm h4⟩
end
theorem gR {i : Imm} : ∀ {es : List zI} {cs : List Value}, zI.reps i es cs↔RepL (fun c e => zI.repE i e c) 7 cs es
  | [], cs => by simp [zI.reps, RepL]
  | e :: es, cs => by
    simp only [zI.reps, RepL]
    constructor
    · rintro ⟨c1, c2, h1, h2, h3, h4⟩; exact ⟨c1, c2, h1, h2, h3, gR.1 h4⟩
    · rintro ⟨c1, c2, h1, h2, h3, h4⟩; exact ⟨c1, c2, h1, h2, h3, gR.2 h4⟩
theorem SliceAt.one {i : Imm} {v : Value} {sz : Nat} {cs : List Value} (hs : SliceAt i v sz cs) : v.oneCell' = true := by
  rcases hs with ⟨rfl, _⟩ | ⟨b, off, len, cap, c, rfl, _⟩ <;> rfl
theorem zER {i : Imm} : ∀ {e : zI} {cs : List Value}, zI.repE i e cs -> ∀ v∈cs, v.oneCell' = true
  | .mk .., cs, h => by
    simp only [zI.repE] at h
    obtain ⟨v0, v1, v2, aP, rfl, k0, k1, ha, _⟩ := h
    simp [zCU, zHU, k0.one, k1.one, ha.one]
instance : Rp zI where
  sz := 7
  pos := by decide
  rep i cs e := zI.repE i e cs
  len h := zEQ h
  mono hm h := zAh hm h
  one h := zER h
theorem zHg {i : Imm} {cs : List Value} {s : zI} (h : Rp.rep i cs s) : ∃ v0 v1 v2 : Value, cs = [.int .i64 s.Kind, .int .i64 s.Num, v0, .int .i64 s.Index.Const, .string ⟨⟨s.Read.Array.l⟩⟩, v1, v2] /\ SL i v0 s.Index.Coefs /\ SL i v1 s.Read.Subs /\ SL i v2 s.Kids := by
  obtain ⟨Kind, Num, Index, Read, Kids⟩ := s
  have h : zI.repE i _ cs := h
  simp only [zI.repE] at h
  obtain ⟨v0, v1, v2, aP, e, k0, k1, ha, hb⟩ := h
  exact ⟨v0, v1, v2, e, k0, k1, ⟨aP, ha, gR.1 hb⟩⟩
theorem wD {i : Imm} {cs : List Value} {s : zI} (h : ∃ v0 v1 v2 : Value, cs = [.int .i64 s.Kind, .int .i64 s.Num, v0, .int .i64 s.Index.Const, .string ⟨⟨s.Read.Array.l⟩⟩, v1, v2] /\ SL i v0 s.Index.Coefs /\ SL i v1 s.Read.Subs /\ SL i v2 s.Kids) : Rp.rep i cs s := by
  obtain ⟨Kind, Num, Index, Read, Kids⟩ := s
  show zI.repE i _ cs
  simp only [zI.repE]
  obtain ⟨v0, v1, v2, e, k0, k1, ⟨aP, ha, hb⟩⟩ := h
  exact ⟨v0, v1, v2, aP, e, k0, k1, ha, gR.2 hb⟩
theorem tX {i : Imm} {cs : List Value} {s : zI} (h : Rp.rep i cs s) : ∃ (p0 : Option Addr) (c0 : Nat) (p1 : Option Addr) (c1 : Nat) (p2 : Option Addr) (c2 : Nat), cs = [.int .i64 s.Kind, .int .i64 s.Num, vS p0 s.Index.Coefs c0, .int .i64 s.Index.Const, .string ⟨⟨s.Read.Array.l⟩⟩, vS p1 s.Read.Subs c1, vS p2 s.Kids c2] /\ SL i (vS p0 s.Index.Coefs c0) s.Index.Coefs /\ SL i (vS p1 s.Read.Subs c1) s.Read.Subs /\ SL i (vS p2 s.Kids c2) s.Kids := by
  obtain ⟨v0, v1, v2, e, h0, h1, h2⟩ := zHg h
  obtain ⟨p0, c0, rfl⟩ := h0.form
  obtain ⟨p1, c1, rfl⟩ := h1.form
  obtain ⟨p2, c2, rfl⟩ := h2.form
  exact ⟨p0, c0, p1, c1, p2, c2, e, h0, h1, h2⟩
instance : Vr zI := ⟨fun i v a => ∃ cs, v = .agg ⟨cs⟩ /\ Rp.rep i cs a, fun hl ⟨cs, e, h⟩ => ⟨cs, e, Rp.mono hl h⟩⟩
structure zP where
  Write : zL
  Value : zI
instance : Rp zP where
  sz := 9
  pos := by decide
  rep i cs s := ∃ v0 v1 v2 v3 : Value, cs = [.string ⟨⟨s.Write.Array.l⟩⟩, v0, .int .i64 s.Value.Kind, .int .i64 s.Value.Num, v1, .int .i64 s.Value.Index.Const, .string ⟨⟨s.Value.Read.Array.l⟩⟩, v2, v3] /\ SL i v0 s.Write.Subs /\ SL i v1 s.Value.Index.Coefs /\ SL i v2 s.Value.Read.Subs /\ SL i v3 s.Value.Kids
  len h := by obtain ⟨v0, v1, v2, v3, rfl, h0, h1, h2, h3⟩ := h; rfl
  mono hm h := by obtain ⟨v0, v1, v2, v3, e, h0, h1, h2, h3⟩ := h; exact ⟨v0, v1, v2, v3, e, h0.mono hm, h1.mono hm, h2.mono hm, h3.mono hm⟩
  one h := by obtain ⟨v0, v1, v2, v3, rfl, h0, h1, h2, h3⟩ := h; simp [zHU, zCU, h0.one, h1.one, h2.one, h3.one]
theorem mA {i : Imm} {cs : List Value} {s : zP} (h : Rp.rep i cs s) : ∃ v0 v1 v2 v3 : Value, cs = [.string ⟨⟨s.Write.Array.l⟩⟩, v0, .int .i64 s.Value.Kind, .int .i64 s.Value.Num, v1, .int .i64 s.Value.Index.Const, .string ⟨⟨s.Value.Read.Array.l⟩⟩, v2, v3] /\ SL i v0 s.Write.Subs /\ SL i v1 s.Value.Index.Coefs /\ SL i v2 s.Value.Read.Subs /\ SL i v3 s.Value.Kids := h
theorem vD {i : Imm} {cs : List Value} {s : zP} (h : ∃ v0 v1 v2 v3 : Value, cs = [.string ⟨⟨s.Write.Array.l⟩⟩, v0, .int .i64 s.Value.Kind, .int .i64 s.Value.Num, v1, .int .i64 s.Value.Index.Const, .string ⟨⟨s.Value.Read.Array.l⟩⟩, v2, v3] /\ SL i v0 s.Write.Subs /\ SL i v1 s.Value.Index.Coefs /\ SL i v2 s.Value.Read.Subs /\ SL i v3 s.Value.Kids) : Rp.rep i cs s := h
theorem pQ {i : Imm} {cs : List Value} {s : zP} (h : Rp.rep i cs s) : ∃ (p0 : Option Addr) (c0 : Nat) (p1 : Option Addr) (c1 : Nat) (p2 : Option Addr) (c2 : Nat) (p3 : Option Addr) (c3 : Nat), cs = [.string ⟨⟨s.Write.Array.l⟩⟩, vS p0 s.Write.Subs c0, .int .i64 s.Value.Kind, .int .i64 s.Value.Num, vS p1 s.Value.Index.Coefs c1, .int .i64 s.Value.Index.Const, .string ⟨⟨s.Value.Read.Array.l⟩⟩, vS p2 s.Value.Read.Subs c2, vS p3 s.Value.Kids c3] /\ SL i (vS p0 s.Write.Subs c0) s.Write.Subs /\ SL i (vS p1 s.Value.Index.Coefs c1) s.Value.Index.Coefs /\ SL i (vS p2 s.Value.Read.Subs c2) s.Value.Read.Subs /\ SL i (vS p3 s.Value.Kids c3) s.Value.Kids := by
  obtain ⟨v0, v1, v2, v3, e, h0, h1, h2, h3⟩ := mA h
  obtain ⟨p0, c0, rfl⟩ := h0.form
  obtain ⟨p1, c1, rfl⟩ := h1.form
  obtain ⟨p2, c2, rfl⟩ := h2.form
  obtain ⟨p3, c3, rfl⟩ := h3.form
  exact ⟨p0, c0, p1, c1, p2, c2, p3, c3, e, h0, h1, h2, h3⟩
instance : Vr zP := ⟨fun i v a => ∃ cs, v = .agg ⟨cs⟩ /\ Rp.rep i cs a, fun hl ⟨cs, e, h⟩ => ⟨cs, e, Rp.mono hl h⟩⟩
structure zO where
  Nest : List zE
  Body : List zP
instance : Rp zO where
  sz := 2
  pos := by decide
  rep i cs s := ∃ v0 v1 : Value, cs = [v0, v1] /\ SL i v0 s.Nest /\ SL i v1 s.Body
  len h := by obtain ⟨v0, v1, rfl, h0, h1⟩ := h; rfl
  mono hm h := by obtain ⟨v0, v1, e, h0, h1⟩ := h; exact ⟨v0, v1, e, h0.mono hm, h1.mono hm⟩
  one h := by obtain ⟨v0, v1, rfl, h0, h1⟩ := h; simp [h0.one, h1.one]
theorem zHh {i : Imm} {cs : List Value} {s : zO} (h : Rp.rep i cs s) : ∃ v0 v1 : Value, cs = [v0, v1] /\ SL i v0 s.Nest /\ SL i v1 s.Body := h
theorem qM {i : Imm} {cs : List Value} {s : zO} (h : ∃ v0 v1 : Value, cs = [v0, v1] /\ SL i v0 s.Nest /\ SL i v1 s.Body) : Rp.rep i cs s := h
theorem wU {i : Imm} {cs : List Value} {s : zO} (h : Rp.rep i cs s) : ∃ (p0 : Option Addr) (c0 : Nat) (p1 : Option Addr) (c1 : Nat), cs = [vS p0 s.Nest c0, vS p1 s.Body c1] /\ SL i (vS p0 s.Nest c0) s.Nest /\ SL i (vS p1 s.Body c1) s.Body := by
  obtain ⟨v0, v1, e, h0, h1⟩ := zHh h
  obtain ⟨p0, c0, rfl⟩ := h0.form
  obtain ⟨p1, c1, rfl⟩ := h1.form
  exact ⟨p0, c0, p1, c1, e, h0, h1⟩
instance : Vr zO := ⟨fun i v a => ∃ cs, v = .agg ⟨cs⟩ /\ Rp.rep i cs a, fun hl ⟨cs, e, h⟩ => ⟨cs, e, Rp.mono hl h⟩⟩
structure zD where
  Arrays : List zF
  Parts : List zO
instance : Rp zD where
  sz := 2
  pos := by decide
  rep i cs s := ∃ v0 v1 : Value, cs = [v0, v1] /\ SL i v0 s.Arrays /\ SL i v1 s.Parts
  len h := by obtain ⟨v0, v1, rfl, h0, h1⟩ := h; rfl
  mono hm h := by obtain ⟨v0, v1, e, h0, h1⟩ := h; exact ⟨v0, v1, e, h0.mono hm, h1.mono hm⟩
  one h := by obtain ⟨v0, v1, rfl, h0, h1⟩ := h; simp [h0.one, h1.one]
theorem zFA {i : Imm} {cs : List Value} {s : zD} (h : Rp.rep i cs s) : ∃ v0 v1 : Value, cs = [v0, v1] /\ SL i v0 s.Arrays /\ SL i v1 s.Parts := h
theorem vV {i : Imm} {cs : List Value} {s : zD} (h : ∃ v0 v1 : Value, cs = [v0, v1] /\ SL i v0 s.Arrays /\ SL i v1 s.Parts) : Rp.rep i cs s := h
theorem mJ {i : Imm} {cs : List Value} {s : zD} (h : Rp.rep i cs s) : ∃ (p0 : Option Addr) (c0 : Nat) (p1 : Option Addr) (c1 : Nat), cs = [vS p0 s.Arrays c0, vS p1 s.Parts c1] /\ SL i (vS p0 s.Arrays c0) s.Arrays /\ SL i (vS p1 s.Parts c1) s.Parts := by
  obtain ⟨v0, v1, e, h0, h1⟩ := zFA h
  obtain ⟨p0, c0, rfl⟩ := h0.form
  obtain ⟨p1, c1, rfl⟩ := h1.form
  exact ⟨p0, c0, p1, c1, e, h0, h1⟩
instance : Vr zD := ⟨fun i v a => ∃ cs, v = .agg ⟨cs⟩ /\ Rp.rep i cs a, fun hl ⟨cs, e, h⟩ => ⟨cs, e, Rp.mono hl h⟩⟩
structure yR where
  From : Int
  To : Int
  Kinds : Int
instance : Rp yR where
  sz := 3
  pos := by decide
  rep i cs s := cs = [.int .i64 s.From, .int .i64 s.To, .int .i64 s.Kinds]
  len h := by obtain rfl := h; rfl
  mono _ h := h
  one h := by obtain rfl := h; simp [zCU]
theorem zBe {i : Imm} {cs : List Value} {s : yR} (h : Rp.rep i cs s) : cs = [.int .i64 s.From, .int .i64 s.To, .int .i64 s.Kinds] := h
theorem zEI {i : Imm} {cs : List Value} {s : yR} (h : cs = [.int .i64 s.From, .int .i64 s.To, .int .i64 s.Kinds]) : Rp.rep i cs s := h
instance : Vr yR := ⟨fun i v a => ∃ cs, v = .agg ⟨cs⟩ /\ Rp.rep i cs a, fun hl ⟨cs, e, h⟩ => ⟨cs, e, Rp.mono hl h⟩⟩
structure zK where
  Part : Int
  Stmt : Int
  Point : List Int
instance : Rp zK where
  sz := 3
  pos := by decide
  rep i cs s := ∃ v0 : Value, cs = [.int .i64 s.Part, .int .i64 s.Stmt, v0] /\ SL i v0 s.Point
  len h := by obtain ⟨v0, rfl, h0⟩ := h; rfl
  mono hm h := by obtain ⟨v0, e, h0⟩ := h; exact ⟨v0, e, h0.mono hm⟩
  one h := by obtain ⟨v0, rfl, h0⟩ := h; simp [zCU, h0.one]
theorem zES {i : Imm} {cs : List Value} {s : zK} (h : Rp.rep i cs s) : ∃ v0 : Value, cs = [.int .i64 s.Part, .int .i64 s.Stmt, v0] /\ SL i v0 s.Point := h
theorem zAu {i : Imm} {cs : List Value} {s : zK} (h : ∃ v0 : Value, cs = [.int .i64 s.Part, .int .i64 s.Stmt, v0] /\ SL i v0 s.Point) : Rp.rep i cs s := h
theorem vR {i : Imm} {cs : List Value} {s : zK} (h : Rp.rep i cs s) : ∃ (p0 : Option Addr) (c0 : Nat), cs = [.int .i64 s.Part, .int .i64 s.Stmt, vS p0 s.Point c0] /\ SL i (vS p0 s.Point c0) s.Point := by
  obtain ⟨v0, e, h0⟩ := zES h
  obtain ⟨p0, c0, rfl⟩ := h0.form
  exact ⟨p0, c0, e, h0⟩
instance : Vr zK := ⟨fun i v a => ∃ cs, v = .agg ⟨cs⟩ /\ Rp.rep i cs a, fun hl ⟨cs, e, h⟩ => ⟨cs, e, Rp.mono hl h⟩⟩
structure xT where
  Program : zD
  list : List zK
  reads : List (List Int)
  writes : List Int
instance : Rp xT where
  sz := 5
  pos := by decide
  rep i cs s := ∃ v0 v1 v2 v3 v4 : Value, cs = [v0, v1, v2, v3, v4] /\ SL i v0 s.Program.Arrays /\ SL i v1 s.Program.Parts /\ SL i v2 s.list /\ SL i v3 s.reads /\ SL i v4 s.writes
  len h := by obtain ⟨v0, v1, v2, v3, v4, rfl, h0, h1, h2, h3, h4⟩ := h; rfl
  mono hm h := by obtain ⟨v0, v1, v2, v3, v4, e, h0, h1, h2, h3, h4⟩ := h; exact ⟨v0, v1, v2, v3, v4, e, h0.mono hm, h1.mono hm, h2.mono hm, h3.mono hm, h4.mono hm⟩
  one h := by obtain ⟨v0, v1, v2, v3, v4, rfl, h0, h1, h2, h3, h4⟩ := h; simp [h0.one, h1.one, h2.one, h3.one, h4.one]
theorem zGE {i : Imm} {cs : List Value} {s : xT} (h : Rp.rep i cs s) : ∃ v0 v1 v2 v3 v4 : Value, cs = [v0, v1, v2, v3, v4] /\ SL i v0 s.Program.Arrays /\ SL i v1 s.Program.Parts /\ SL i v2 s.list /\ SL i v3 s.reads /\ SL i v4 s.writes := h
theorem zGF {i : Imm} {cs : List Value} {s : xT} (h : ∃ v0 v1 v2 v3 v4 : Value, cs = [v0, v1, v2, v3, v4] /\ SL i v0 s.Program.Arrays /\ SL i v1 s.Program.Parts /\ SL i v2 s.list /\ SL i v3 s.reads /\ SL i v4 s.writes) : Rp.rep i cs s := h
theorem zAv {i : Imm} {cs : List Value} {s : xT} (h : Rp.rep i cs s) : ∃ (p0 : Option Addr) (c0 : Nat) (p1 : Option Addr) (c1 : Nat) (p2 : Option Addr) (c2 : Nat) (p3 : Option Addr) (c3 : Nat) (p4 : Option Addr) (c4 : Nat), cs = [vS p0 s.Program.Arrays c0, vS p1 s.Program.Parts c1, vS p2 s.list c2, vS p3 s.reads c3, vS p4 s.writes c4] /\ SL i (vS p0 s.Program.Arrays c0) s.Program.Arrays /\ SL i (vS p1 s.Program.Parts c1) s.Program.Parts /\ SL i (vS p2 s.list c2) s.list /\ SL i (vS p3 s.reads c3) s.reads /\ SL i (vS p4 s.writes c4) s.writes := by
  obtain ⟨v0, v1, v2, v3, v4, e, h0, h1, h2, h3, h4⟩ := zGE h
  obtain ⟨p0, c0, rfl⟩ := h0.form
  obtain ⟨p1, c1, rfl⟩ := h1.form
  obtain ⟨p2, c2, rfl⟩ := h2.form
  obtain ⟨p3, c3, rfl⟩ := h3.form
  obtain ⟨p4, c4, rfl⟩ := h4.form
  exact ⟨p0, c0, p1, c1, p2, c2, p3, c3, p4, c4, e, h0, h1, h2, h3, h4⟩
instance : Vr xT := ⟨fun i v a => ∃ cs, v = .agg ⟨cs⟩ /\ Rp.rep i cs a, fun hl ⟨cs, e, h⟩ => ⟨cs, e, Rp.mono hl h⟩⟩
structure zM where
  b : List UInt8
  p : Int
instance : Rp zM where
  sz := 2
  pos := by decide
  rep i cs s := ∃ v0 : Value, cs = [v0, .int .i64 s.p] /\ SL i v0 s.b
  len h := by obtain ⟨v0, rfl, h0⟩ := h; rfl
  mono hm h := by obtain ⟨v0, e, h0⟩ := h; exact ⟨v0, e, h0.mono hm⟩
  one h := by obtain ⟨v0, rfl, h0⟩ := h; simp [zCU, h0.one]
theorem dP {i : Imm} {cs : List Value} {s : zM} (h : Rp.rep i cs s) : ∃ v0 : Value, cs = [v0, .int .i64 s.p] /\ SL i v0 s.b := h
theorem yU {i : Imm} {cs : List Value} {s : zM} (h : ∃ v0 : Value, cs = [v0, .int .i64 s.p] /\ SL i v0 s.b) : Rp.rep i cs s := h
theorem yA {i : Imm} {cs : List Value} {s : zM} (h : Rp.rep i cs s) : ∃ (p0 : Option Addr) (c0 : Nat), cs = [vS p0 s.b c0, .int .i64 s.p] /\ SL i (vS p0 s.b c0) s.b := by
  obtain ⟨v0, e, h0⟩ := dP h
  obtain ⟨p0, c0, rfl⟩ := h0.form
  exact ⟨p0, c0, e, h0⟩
instance : Vr zM := ⟨fun i v a => ∃ cs, v = .agg ⟨cs⟩ /\ Rp.rep i cs a, fun hl ⟨cs, e, h⟩ => ⟨cs, e, Rp.mono hl h⟩⟩
structure sX where
  nest : List zE
  steps : Int
  out : List (List Int)
instance : Rp sX where
  sz := 3
  pos := by decide
  rep i cs s := ∃ v0 v1 : Value, cs = [v0, .int .i64 s.steps, v1] /\ SL i v0 s.nest /\ SL i v1 s.out
  len h := by obtain ⟨v0, v1, rfl, h0, h1⟩ := h; rfl
  mono hm h := by obtain ⟨v0, v1, e, h0, h1⟩ := h; exact ⟨v0, v1, e, h0.mono hm, h1.mono hm⟩
  one h := by obtain ⟨v0, v1, rfl, h0, h1⟩ := h; simp [zCU, h0.one, h1.one]
instance : Vr sX := ⟨fun i v a => ∃ cs, v = .agg ⟨cs⟩ /\ Rp.rep i cs a, fun hl ⟨cs, e, h⟩ => ⟨cs, e, Rp.mono hl h⟩⟩
end Go.LN
namespace Go.LN
theorem iM {α:Type} [Rp α] {i j:Imm} (h:i.le j) {l:List α}{cs:List Value} (hr:RL i cs l):RL j cs l:=RepL.mono (fun _ _=>Rp.mono h) hr
def stB:List HA->Nat->List Value->(List HA->Option (List HA))->Option (List HA)
  | .blk b _::t,0,c',k=>k (.blk b ⟨c'⟩::t)
  | h::t,j+1,c',k=>stB t j c' fun r=>k (h::r)
  | _,_,_,_=>none
theorem zMF:∀ {hs:List HA}{j:Nat}{b:Nat}{c:Array Value}{c':List Value}{k:List HA->Option (List HA)},hs[j]?=some (.blk b c)->stB hs j c' k=k (hs.set j (.blk b ⟨c'⟩))
  | [],_,_,_,_,_,h=>by simp at h
  | A::t,0,b,c,c',k,h=>by
    simp only [ex,Option.some.injEq] at h
    subst h; rfl
  | A::t,j+1,b,c,c',k,h=>by
    simp only [gm] at h
    rw [stB,zMF h,dg]
class Mo (X:Prop) (i j:Imm) (Y:outParam Prop):Prop where
  mo:i.le j->X->Y
instance {α:Type} [Rp α] {v:Value}{l:List α}{i j:Imm}:Mo (SL i v l) i j (SL j v l):=⟨fun h x=>x.mono h⟩
instance {α:Type} [Rp α] {cs:List Value}{l:List α}{i j:Imm}:Mo (RL i cs l) i j (RL j cs l):=⟨fun h x=>iM h x⟩
instance {ad:Addr}{cs:List Value}{i j:Imm}:Mo (At i ad cs) i j (At j ad cs):=⟨fun h x=>At.mono h x⟩
instance {α:Type} [Rp α] {v:Value}{o:Option α}{i j:Imm}:Mo (FP i v o) i j (FP j v o):=⟨fun h x=>FP.mono x h⟩
instance {α β:Type} [Vr α] [Vr β] {P:Program}{bh:List HA}{v:Value}{φ:α->Option β}{i j:Imm}:Mo (FV1 P i bh v φ) i j (FV1 P j bh v φ):=⟨fun h x=>FV1.mono h x⟩
instance {α β γ:Type} [Vr α] [Vr β] [Vr γ] {P:Program}{bh:List HA}{v:Value}{φ:α->β->Option γ}{i j:Imm}:Mo (FV2 P i bh v φ) i j (FV2 P j bh v φ):=⟨fun h x=>FV2.mono h x⟩
instance {P:Program}{i j:Imm}:Mo (GH P i) i j (GH P j):=⟨fun h x=>GH.mono h x⟩
instance {i0 i j:Imm}:Mo (i0.le i) i j (i0.le j):=⟨fun h x=>x.trans h⟩
theorem m2 {i j:Imm}{A B A' B':Prop} (h:i.le j) (a:A) (b:B) [Mo A i j A'] [Mo B i j B']:A'/\B':=⟨Mo.mo h a,Mo.mo h b⟩
theorem m3 {i j:Imm}{A B C A' B' C':Prop} (h:i.le j) (a:A) (b:B) (c:C) [Mo A i j A'] [Mo B i j B'] [Mo C i j C']:A'/\B'/\C':=⟨Mo.mo h a,Mo.mo h b,Mo.mo h c⟩
theorem m4 {i j:Imm}{A B C D A' B' C' D':Prop} (h:i.le j) (a:A) (b:B) (c:C) (d:D) [Mo A i j A'] [Mo B i j B'] [Mo C i j C'] [Mo D i j D']:A'/\B'/\C'/\D':=⟨Mo.mo h a,Mo.mo h b,Mo.mo h c,Mo.mo h d⟩
theorem m5 {i j:Imm}{A B C D E A' B' C' D' E':Prop} (h:i.le j) (a:A) (b:B) (c:C) (d:D) (e:E) [Mo A i j A'] [Mo B i j B'] [Mo C i j C'] [Mo D i j D'] [Mo E i j E']:A'/\B'/\C'/\D'/\E':=⟨Mo.mo h a,Mo.mo h b,Mo.mo h c,Mo.mo h d,Mo.mo h e⟩
theorem m6 {i j:Imm}{A B C D E F A' B' C' D' E' F':Prop} (h:i.le j) (a:A) (b:B) (c:C) (d:D) (e:E) (f:F) [Mo A i j A'] [Mo B i j B'] [Mo C i j C'] [Mo D i j D'] [Mo E i j E'] [Mo F i j F']:A'/\B'/\C'/\D'/\E'/\F':=⟨Mo.mo h a,Mo.mo h b,Mo.mo h c,Mo.mo h d,Mo.mo h e,Mo.mo h f⟩
abbrev K1 {α:Type} (o:α) (I:Imm) (hs:List HA) (m:α->FM):Imm->List HA->FM->Prop:=fun I' ah m'=>∃ t:α,o=t/\I.le I'/\ah=hs/\m'=m t
section
variable {P:Program}{n:Nat}{B:Base}{af:List Oper}{Q:Exit->Act->World->Prop}{pc:Nat}{imm:Imm}{hs:List HA}{m:FM}{d:Nat}
  {ty:TypeId}{pos:String}{after:Array Edge}{g:Option (Nat×Bool)}
theorem xM {f:FuncId}{x:Operand}{xs:Array Operand}{ts:Array TypeId}{vs:List Value}{post:Nat->Imm->List HA->Value->Prop}
    (hc:Ret P f vs imm [] post)
    (next:∀ ar ah v k,imm.le ar->B.w0.heap.size<=k->post k ar ah v->(∀ b∈ah.flatMap HA.fp,b∈([]:List HA).flatMap HA.fp∨B.w0.heap.size<=b)->R P n B af Q (pc+1) ar (ah++hs) ((d,v)::m))
    (ho:af[pc]?=some ⟨some d,.call { callee:=.value x,args:=xs,argTypes:=ts },ty,pos,after,g⟩:=by rfl) (hg:guardB af m g=some true:=by rfl) (hn:Nat.blt d n=true:=by rfl) (hx:val m x=some (.func (.func f) #[] #[]):=by rfl) (hf:callable P f=true:=by kernel_rfl)
    (hvs:vals m xs.toList=some vs:=by rfl):R P n B af Q pc imm hs m :=
  zFx (hs1:=[]) (rest:=hs) ho hg hn hx hf hvs rfl hc next
theorem zQ5 {f:FuncId}{x:Operand}{xs:Array Operand}{ts:Array TypeId}{vs:List Value} (hs1 rest:List HA) {post:Nat->Imm->List HA->Value->Prop}
    (hc:Ret P f vs imm hs1 post)
    (next:∀ ar ah v k,imm.le ar->B.w0.heap.size<=k->post k ar ah v->(∀ b∈ah.flatMap HA.fp,b∈hs1.flatMap HA.fp∨B.w0.heap.size<=b)->R P n B af Q (pc+1) ar (ah++rest) ((d,v)::m))
    (ho:af[pc]?=some ⟨some d,.call { callee:=.value x,args:=xs,argTypes:=ts },ty,pos,after,g⟩:=by rfl) (hg:guardB af m g=some true:=by rfl) (hn:Nat.blt d n=true:=by rfl) (hx:val m x=some (.func (.func f) #[] #[]):=by rfl) (hf:callable P f=true:=by kernel_rfl)
    (hvs:vals m xs.toList=some vs:=by rfl) (hh:hs=hs1++rest:=by rfl):R P n B af Q pc imm hs m :=
  zFx (hs1:=hs1) (rest:=rest) ho hg hn hx hf hvs hh hc next
theorem zBM (m':FM) (h:R P n B af Q pc imm hs m') (hk:keep m (m'.map (·.1))=some m':=by kernel_rfl):R P n B af Q pc imm hs m:=kH (zBq hk) h
theorem uO (cs:List Value) (α:Type) [Rp α] {t len:Nat}{parts:Array (Nat×Operand)}{ps:List (Nat×Value)}
    (next:∀ b,B.w0.heap.size<=b->R P n B af Q (pc+1) imm (.osl (.slice (some ⟨b,0,none⟩) len len) (Rp.sz α) cs::hs) ((d,.slice (some ⟨b,0,none⟩) len len)::m))
    (ho:af[pc]?=some ⟨some d,.buildSlice t len parts,ty,pos,after,g⟩:=by rfl) (hg:guardB af m g=some true:=by rfl) (hn:Nat.blt d n=true:=by rfl) (hps:pvals m parts.toList=some ps:=by rfl) (hc:elemZ P t len ps=some ⟨cs⟩:=by kernel_rfl) (hl:Nat.beq cs.length (len*Rp.sz α)=true:=by kernel_rfl)
    (hlM:Nat.ble len 9223372036854775807=true:=by rfl):R P n B af Q pc imm hs m :=
  zJ4 (cs:=cs) (Rp.sz α) ho hg hn hps hc hl next hlM
theorem wS (c:List Value) {t:TypeId}
    (next:∀ b,B.w0.heap.size<=b->R P n B af Q (pc+1) imm (.blk b ⟨c⟩::hs) ((d,.pointer (some ⟨b,0,none⟩))::m))
    (ho:af[pc]?=some ⟨some d,.alloc t,ty,pos,after,g⟩:=by rfl) (hg:guardB af m g=some true:=by rfl) (hn:Nat.blt d n=true:=by rfl) (hz:zeroC P t=some ⟨c⟩:=by kernel_rfl):R P n B af Q pc imm hs m :=
  zO5 (c:=⟨c⟩) ho hg hn hz next
theorem tT (c:List Value) {t:TypeId}{x:Operand}{v:Value}
    (next:∀ b,B.w0.heap.size<=b->R P n B af Q (pc+1) imm (.blk b ⟨c⟩::hs) ((d,.pointer (some ⟨b,0,none⟩))::m))
    (ho:af[pc]?=some ⟨some d,.box t x,ty,pos,after,g⟩:=by rfl) (hg:guardB af m g=some true:=by rfl) (hn:Nat.blt d n=true:=by rfl) (hx:val m x=some v:=by rfl) (hc:v.cells=⟨c⟩:=by rfl):R P n B af Q pc imm hs m :=
  zQK (c:=⟨c⟩) ho hg hn hx hc next
theorem I_h {its:List It}{gs:List (List HA)}{N:Nat}{l:List (Nat×Bool)}{ops':List Oper}{pc:Nat} (m2:FM) (h:R P n B ops' Q pc imm hs m2)
    (hi:(insM af its l m).bind (fun m1=>keep m1 (m2.map (·.1)))=some m2:=by kernel_rfl):Ins af (factsOf N its gs) imm l m hs fun m' ah=>R P n B ops' Q pc imm ah m':=by
  obtain ⟨m1,h1,h2⟩:=Option.bind_eq_some_iff.1 hi
  refine zEz (fun j it hj=>?_) h1 (kH (zBq h2) h)
  have aE:=(ck.1 hj).1
  unfold factsOf
  rw [di,ig (by rw [dt]; exact aE),dv,hj]
  rfl
theorem xF {ops':List Oper}{pc d0:Nat}{φi:Fact}{imm1:Imm}{v:Value} (bN:imm1.le imm) (h0:ops'.drop pc=[]:=by rfl) (hd:look m d0=some v:=by rfl) (hφ:φi imm v []:=by exact ⟨rfl,rfl⟩):R P n B ops' (OutQ n B φi (some d0) imm1 hs) pc imm hs m :=
  zGl (hx:=[]) h0 bN rfl (fun _ e=>by cases e; exact hd) hφ
theorem yK {f:FuncId}{fn:Func}{args:List Value}{post:Nat->Imm->List HA->Value->Prop} (hf:P.funcs[f]?=some fn) (h:∀ B:Base,J P fn.ntmps B (bodyOf fn) (QB P fn B post) imm hs (argm 0 args))
    (hb:fn.body=some (bodyOf fn):=by rfl) (hn:Nat.ble args.length fn.ntmps=true:=by rfl):Ret P f args imm hs post:=zNN hf hb hn fun B _ _=>h B
theorem yL (hx:List HA) {ops':List Oper}{pc d0:Nat}{φi:Fact}{imm1:Imm}{hs0:List HA}{v:Value} (bN:imm1.le imm) (hφ:φi imm v hx) (h0:ops'.drop pc=[]:=by rfl) (hh:hs=hx++hs0:=by rfl) (hd:look m d0=some v:=by rfl):R P n B ops' (OutQ n B φi (some d0) imm1 hs0) pc imm hs m :=
  zGl (hx:=hx) h0 bN hh (fun _ e=>by cases e; exact hd) hφ
theorem yF {id:Nat}{af:List Oper}{y:Code} (h:R P n B af (Exit.then (y.wp P Q) Q) 0 imm hs m):J P n B ((Code.region id af.toArray false).seq y) Q imm hs m:=yB (zJ h)
theorem zZ {x y:Code} (h:J P n B x (Exit.then (y.wp P Q) Q) imm hs m):T n B (Exit.then ((x.seq y).wp P Q) Q) .normal imm hs m:=zH (yB h)
theorem yV {id:Nat}{af:List Oper}{y:Code} (h:R P n B af (Exit.then (y.wp P Q) Q) 0 imm hs m):T n B (Exit.then (((Code.region id af.toArray false).seq y).wp P Q) Q) .normal imm hs m:=zH (yF h)
theorem wQ {id:Nat}{af:List Oper}{y:Code} (new:FM) (hR:T n B (Exit.then (y.wp P Q) Q) .normal imm hs (new++m)) (h:runD P n af hs 0 af.length [] (new.map (·.1)) m=some (new,[].map (blkAt hs)):=by kernel_rfl):J P n B ((Code.region id af.toArray false).seq y) Q imm hs m:=yF (wI [] new hR h)
theorem zFB {id:Nat}{af:List Oper}{y:Code} (new:FM) (hR:T n B (Exit.then (y.wp P Q) Q) .normal imm hs (new++m)) (h:runD P n af hs 0 af.length [] (new.map (·.1)) m=some (new,[].map (blkAt hs)):=by kernel_rfl):T n B (Exit.then (((Code.region id af.toArray false).seq y).wp P Q) Q) .normal imm hs m:=zH (wQ new hR h)
theorem wF {fn:Func}{post:Nat->Imm->List HA->Value->Prop}{v:Value} (h1:ResV P m hs fn.results.toList [v]:=by exact .tmp rfl ResV.nil) (h2:post B.w0.heap.size imm [] (tupV [v]):=by exact ⟨_,rfl,rfl,rfl⟩):T n B (QB P fn B post) .ret imm hs m:=xA ⟨_,_,h1,zQ,h2⟩
theorem fB {f:FuncId}{x:Operand}{xs:Array Operand}{ts:Array TypeId}{vs:List Value}{r:Int}
    (hc:Ret P f vs imm [] fun _ _ ah v=>∃ v0,ah=[]/\v=tupV [v0]/\v0=.int .i64 r)
    (next:∀ ar,imm.le ar->R P n B af Q (pc+1) ar hs ((d,vI r)::m))
    (ho:af[pc]?=some ⟨some d,.call { callee:=.value x,args:=xs,argTypes:=ts },ty,pos,after,g⟩:=by rfl) (hg:guardB af m g=some true:=by rfl) (hn:Nat.blt d n=true:=by rfl) (hx:val m x=some (.func (.func f) #[] #[]):=by rfl) (hf:callable P f=true:=by kernel_rfl)
    (hvs:vals m xs.toList=some vs:=by rfl):R P n B af Q pc imm hs m :=
  xM hc (fun ar ah v k h1 _ h3 _=>by obtain ⟨v0,rfl,rfl,rfl⟩:=h3; exact next ar h1) ho hg hn hx hf hvs
theorem vU {f:FuncId}{x:Operand}{xs:Array Operand}{ts:Array TypeId}{vs:List Value}{r:Bool}
    (hc:Ret P f vs imm [] fun _ _ ah v=>∃ v0,ah=[]/\v=tupV [v0]/\v0=.bool r)
    (next:∀ ar,imm.le ar->R P n B af Q (pc+1) ar hs ((d,.bool r)::m))
    (ho:af[pc]?=some ⟨some d,.call { callee:=.value x,args:=xs,argTypes:=ts },ty,pos,after,g⟩:=by rfl) (hg:guardB af m g=some true:=by rfl) (hn:Nat.blt d n=true:=by rfl) (hx:val m x=some (.func (.func f) #[] #[]):=by rfl) (hf:callable P f=true:=by kernel_rfl)
    (hvs:vals m xs.toList=some vs:=by rfl):R P n B af Q pc imm hs m :=
  xM hc (fun ar ah v k h1 _ h3 _=>by obtain ⟨v0,rfl,rfl,rfl⟩:=h3; exact next ar h1) ho hg hn hx hf hvs
theorem wL {id:Nat}{K1 K2:Act->World->Prop} (h:T n B Q (.exit id) imm hs m):J P n B (.exit id) (Exit.then K1 (Exit.then K2 Q)) imm hs m:=zEM (jA (jA h))
theorem xD (h:T n B Q .ret imm hs m):T n B (Exit.then ((Code.ret).wp P Q) Q) .normal imm hs m:=zH (yY h)
theorem xY {id:Nat}{c:Code} (h:J P n B c (Exit.inBlock id Q) imm hs m):T n B (Exit.then ((Code.block id c).wp P Q) Q) .normal imm hs m:=zH (yH h)
theorem zY (is:List Nat) {ah:List HA} (h:pick hs is=some ah:=by rfl) (hn:is.Nodup:=by decide):∀ w,Good B imm hs w->Good B imm ah w:=zX is h hn
theorem xJ {t:TypeId}{x y:Operand}{b o:Nat}{c:Array Value}{v:Value}{ah:List HA} (j:Nat) (c':List Value) (hq:stB hs j c' some=some ah) (next:R P n B af Q (pc+1) imm ah m) (ho:af[pc]?=some ⟨none,.store t x y,ty,pos,after,g⟩:=by rfl) (hj:hs[j]?=some (.blk b c):=by rfl) (hx:val m x=some (.pointer (some ⟨b,o,none⟩)):=by rfl) (hy:val m y=some v:=by rfl) (hg:guardB af m g=some true:=by kernel_rfl) (bV:sizeT P t=some v.cells.size:=by kernel_rfl) (bW:Nat.ble (o+v.cells.size) c.size=true:=by kernel_rfl) (ca:v.cells.toList.all Value.oneCell'=true:=by kernel_rfl) (hc:wr c o v.cells.toList=⟨c'⟩:=by kernel_rfl):R P n B af Q pc imm hs m :=
  zBd j c' ah ho hj hx hy next hg bV bW ca hc (by rw [zMF hj] at hq; exact Option.some.inj hq)
end
theorem bE {α β:Type}{o:Option α}{f:α->Option β}{r:β}{G:Prop} (h:(o >>= f)=some r) (k:∀ x,o=some x->f x=some r->G):G:=by
  obtain ⟨x,h1,h2⟩:=zB h;exact k x h1 h2
theorem ct {α:Type}{o t:α}{P1:Prop}{P2 P3:α->Prop} (hM:(pure t:Option α)=some o) (H:P1) (h2:P2 t:=by rfl) (h3:P3 t:=by rfl):∃ t',o=t'/\P1/\P2 t'/\P3 t':=⟨t,(zC hM).symm,H,h2,h3⟩
abbrev NG (Q:Exit->Act->World->Prop):Prop:=∀ gl a w,¬Q (.goto gl) a w
abbrev NO (Q:Exit->Act->World->Prop):Prop:=∀ a w,¬Q .outgrown a w
abbrev cStmt (x:zP) (p0:Option Addr) (c0:Nat) (p1:Option Addr) (c1:Nat) (p2:Option Addr) (c2:Nat) (p3:Option Addr) (c3:Nat):List Value:=[vT x.Write.Array.l,vS p0 x.Write.Subs c0,vI x.Value.Kind,vI x.Value.Num,vS p1 x.Value.Index.Coefs c1,vI x.Value.Index.Const,vT x.Value.Read.Array.l,vS p2 x.Value.Read.Subs c2,vS p3 x.Value.Kids c3]
abbrev cExpr (x:zI) (p0:Option Addr) (c0:Nat) (p1:Option Addr) (c1:Nat) (p2:Option Addr) (c2:Nat):List Value:=[vI x.Kind,vI x.Num,vS p0 x.Index.Coefs c0,vI x.Index.Const,vT x.Read.Array.l,vS p1 x.Read.Subs c1,vS p2 x.Kids c2]
abbrev cAccess (x:zL) (p0:Option Addr) (c0:Nat):List Value:=[vT x.Array.l,vS p0 x.Subs c0]
abbrev cAff (x:zA) (p0:Option Addr) (c0:Nat):List Value:=[vS p0 x.Coefs c0,vI x.Const]
abbrev cLoop (x:zE) (p0:Option Addr) (c0:Nat) (p1:Option Addr) (c1:Nat):List Value:=[vS p0 x.Lo c0,vS p1 x.Hi c1]
abbrev cPart (x:zO) (p0:Option Addr) (c0:Nat) (p1:Option Addr) (c1:Nat):List Value:=[vS p0 x.Nest c0,vS p1 x.Body c1]
abbrev cProg (x:zD) (p0:Option Addr) (c0:Nat) (p1:Option Addr) (c1:Nat):List Value:=[vS p0 x.Arrays c0,vS p1 x.Parts c1]
abbrev cArr (x:zF) (p0:Option Addr) (c0:Nat):List Value:=[vT x.Name.l,vS p0 x.Dims c0]
abbrev cRd (x:zM) (p0:Option Addr) (c0:Nat):List Value:=[vS p0 x.b c0,vI x.p]
abbrev cInst (x:zK) (p0:Option Addr) (c0:Nat):List Value:=[vI x.Part,vI x.Stmt,vS p0 x.Point c0]
abbrev zExpr:List Value:=[vI 0,vI 0,.slice none 0 0,vI 0,vT ([]),.slice none 0 0,.slice none 0 0]
abbrev zTwo:List Value:=[.slice none 0 0,.slice none 0 0]
abbrev z0:Value:=.slice none 0 0
abbrev vF:Value:=.bool false
abbrev vY:Value:=.bool true
abbrev KT:=Nat->Imm->List HA->Value->Prop
theorem iS (i:Imm):i.le i:=Imm.le.refl i
theorem iR {i:Imm}:i.le i:=Imm.le.refl i
abbrev S4 {α:Type} [Rp α] (imm:Imm) (p:Option Addr) (l:List α) (c:Nat):Prop:=SL imm (vS p l c) l
end Go.LN
namespace Go.LN
theorem zGG:∀ {ks:List Nat}{m m':FM},keep m ks=some m'->m'.map (·.1)=ks
  | [],m,m',h=>by simp only [keep] at h; cases h; rfl
  | k::ks,m,m',h=>by
    simp only [keep] at h
    split at h
    · rename_i v m1 h1 h2; cases h; rw [cJ,zGG h2]
    · cases h
theorem zDj {P:Program}{n:Nat}{af:List Oper}{hs:List HA}{pc k:Nat}{js ks:List Nat}{m new:FM}{bs:List Nat} (h:runD P n af hs pc k js ks m=some (new,bs)):new.map (·.1)=ks:=by
  unfold runD at h;split at h
  · split at h
    · rename_i hk; cases h; exact zGG hk
    · cases h
  · cases h
section
variable {P:Program}{n:Nat}{B:Base}{af:List Oper}{Q:Exit->Act->World->Prop}{pc:Nat}{imm:Imm}{hs:List HA}{m new:FM}{d:Nat}
theorem yC (pc':Nat) (js ks:List Nat) (h:runD P n af hs pc (pc' - pc) js ks m=some (new,js.map (blkAt hs))) (hR:R P n B af Q pc' imm hs (new++m))
    (hl:Nat.beq (pc+((af.drop pc).take (pc' - pc)).length) pc'=true:=by kernel_rfl):R P n B af Q pc imm hs m:=rH pc' js new hR (by rw [zDj h]; exact h) hl
theorem yI (js ks:List Nat) (h:runD P n af hs pc af.length js ks m=some (new,js.map (blkAt hs))) (hR:T n B Q .normal imm hs (new++m)):R P n B af Q pc imm hs m:=wI js new hR (by rw [zDj h]; exact h)
theorem fP (pc':Nat) (js ks:List Nat) (h:runD P n af hs pc (pc' - pc) js ks m=some (new,js.map (blkAt hs))) (hR:Rq P n B af Q pc' imm hs (new++m))
    (hl:Nat.beq (pc+((af.drop pc).take (pc' - pc)).length) pc'=true:=by kernel_rfl):Rq P n B af Q pc imm hs m:=zQ4 pc' js new hR (by rw [zDj h]; exact h) hl
theorem zGr (js ks:List Nat) (h:runD P n af hs pc af.length js ks m=some (new,js.map (blkAt hs))) (hR:T n B Q .normal imm hs (new++m)):Rq P n B af Q pc imm hs m:=zKV js new hR (by rw [zDj h]; exact h)
theorem yG {id:Nat}{af:List Oper}{y:Code} (ks:List Nat) (h:runD P n af hs 0 af.length [] ks m=some (new,[])) (hR:T n B (Exit.then (y.wp P Q) Q) .normal imm hs (new++m)):J P n B ((Code.region id af.toArray false).seq y) Q imm hs m:=yF (yI [] ks h hR)
theorem wP {id:Nat}{af:List Oper}{y:Code} (ks:List Nat) (h:runD P n af hs 0 af.length [] ks m=some (new,[])) (hR:T n B (Exit.then (y.wp P Q) Q) .normal imm hs (new++m)):T n B (Exit.then (((Code.region id af.toArray false).seq y).wp P Q) Q) .normal imm hs m:=zH (yG ks h hR)
theorem yN {e:Exit}{m':FM} (h:T n B Q e imm hs m') (hk:keep m (m'.map (·.1))=some m':=by kernel_rfl):T n B Q e imm hs m:=T_w m' h hk
theorem nT {c:Code}{m':FM} (h:J P n B c Q imm hs m') (hk:keep m (m'.map (·.1))=some m':=by kernel_rfl):J P n B c Q imm hs m:=qI m' h hk
theorem yW {its:List It}{gs:List (List HA)}{N:Nat}{l:List (Nat×Bool)}{ops':List Oper}{m2:FM} (ks:List Nat)
    (hi:(insM af its l m).bind (fun m1=>keep m1 ks)=some m2) (h:R P n B ops' Q pc imm hs m2):Ins af (factsOf N its gs) imm l m hs fun m' ah=>R P n B ops' Q pc imm ah m' :=
  I_h m2 h (by
    obtain ⟨m1,h1,h2⟩:=Option.bind_eq_some_iff.1 hi
    rw [zGG h2]; exact hi)
theorem xW (qs:List Nat) {c:Bool}{α:Type}{X Y:Option α}{r:α} (hM:(if c=true then X else Y)=some r) (ht:c=true->X=some r->R P n B af Q pc imm hs (qs.map (fun q=>(q,Value.bool true))++m))
    (hf:c=false->Y=some r->R P n B af Q pc imm hs (qs.map (fun q=>(q,Value.bool false))++m)) (hq:keep m qs=some (qs.map fun q=>(q,Value.bool c)):=by kernel_rfl):R P n B af Q pc imm hs m:=by
  cases c with
  | true=>exact zOa (fun a f=>zHe hq (fun _ _ _ h=>h) a f) (ht rfl hM)
  | false=>exact zOa (fun a f=>zHe hq (fun _ _ _ h=>h) a f) (hf rfl hM)
theorem zGo (qs:List Nat) {c:Bool}{α:Type}{X Y:Option α}{r:α} (hM:(if c=true then X else Y)=some r) (ht:c=true->X=some r->Rq P n B af Q pc imm hs (qs.map (fun q=>(q,Value.bool true))++m))
    (hf:c=false->Y=some r->Rq P n B af Q pc imm hs (qs.map (fun q=>(q,Value.bool false))++m)) (hq:keep m qs=some (qs.map fun q=>(q,Value.bool c)):=by kernel_rfl):Rq P n B af Q pc imm hs m:=by
  cases c with
  | true=>exact zMC (fun a f=>zHe hq (fun _ _ _ h=>h) a f) (ht rfl hM)
  | false=>exact zMC (fun a f=>zHe hq (fun _ _ _ h=>h) a f) (hf rfl hM)
theorem zQ6 (α:Type) [Rp α] (h:RL imm [] ([]:List α)->R P n B af Q pc imm (hO α (.slice none 0 0) []::hs) m):R P n B af Q pc imm hs m:=sE (oT (Rp.sz α)) (h RepL.nil)
theorem zAM (α:Type) [Rp α] {c:Code} (h:RL imm [] ([]:List α)->J P n B c Q imm (hO α (.slice none 0 0) []::hs) m):J P n B c Q imm hs m:=kC (oT (Rp.sz α)) (h RepL.nil)
theorem mG {α:Type} [Rp α] {cs:List Value}{l:List α} (hr:RL imm cs l) {t len:Nat}{parts:Array (Nat×Operand)}{ps:List (Nat×Value)}{ty:TypeId}{pos:String}{after:Array Edge}{g:Option (Nat×Bool)}
    (next:∀ b ar,imm.le ar->SL ar (.slice (some ⟨b,0,none⟩) len len) l->R P n B af Q (pc+1) ar hs ((d,.slice (some ⟨b,0,none⟩) len len)::m))
    (ho:af[pc]?=some ⟨some d,.buildSlice t len parts,ty,pos,after,g⟩:=by rfl) (hg:guardB af m g=some true:=by rfl) (hn:Nat.blt d n=true:=by rfl) (hps:pvals m parts.toList=some ps:=by rfl) (hc:elemZ P t len ps=some ⟨cs⟩:=by kernel_rfl) (hl:Nat.beq cs.length (len*Rp.sz α)=true:=by kernel_rfl)
    (hlM:Nat.ble len 9223372036854775807=true:=by rfl):R P n B af Q pc imm hs m :=
  uO cs α (fun b _=>xI 0 rfl fun ar bN hl0=>next b ar bN (SL.of_frozen hl0 bN hr)) ho hg hn hps hc hl hlM
theorem tY {f:FuncId}{x:Operand}{xs:Array Operand}{ts:Array TypeId}{vs:List Value}{hs1 rest:List HA}{post:Nat->Imm->List HA->Value->Prop}{ty:TypeId}{pos:String}{after:Array Edge}{g:Option (Nat×Bool)}
    (hc:Ret P f vs imm hs1 post) (hh:hs=hs1++rest)
    (next:∀ ar ah v k,imm.le ar->B.w0.heap.size<=k->post k ar ah v->(∀ b∈ah.flatMap HA.fp,b∈hs1.flatMap HA.fp∨B.w0.heap.size<=b)->R P n B af Q (pc+1) ar (ah++rest) ((d,v)::m))
    (ho:af[pc]?=some ⟨some d,.call { callee:=.value x,args:=xs,argTypes:=ts },ty,pos,after,g⟩:=by rfl) (hg:guardB af m g=some true:=by rfl) (hn:Nat.blt d n=true:=by rfl) (hx:val m x=some (.func (.func f) #[] #[]):=by rfl) (hf:callable P f=true:=by kernel_rfl)
    (hvs:vals m xs.toList=some vs:=by rfl):R P n B af Q pc imm hs m:=zQ5 hs1 rest hc next ho hg hn hx hf hvs hh
theorem wR {α γ:Type}{x:Option α}{f:α->Option γ}{r:γ}{c:Code} (hM:(x >>= f)=some r) (hs0:List HA) (mf:α->FM)
    (h:∀ o,x=some o->J P n B c (Exit.then (fun a w=>∃ ar ah m',K1 o imm hs0 mf ar ah m'/\Fr n a m'/\Good B ar ah w) Q) imm hs m)
    (k:∀ t ar,imm.le ar->f t=some r->T n B Q .normal ar hs0 (mf t)):J P n B c Q imm hs m:=by
  obtain ⟨o,h1,h2⟩:=zB hM
  refine qV (K1 o imm hs0 mf) (h o h1) ?_
  rintro ar _ _ ⟨t,rfl,bN,rfl,rfl⟩
  exact k _ ar bN h2
end
theorem rN {α:Type} [Rp α] {i:Imm}:RL i [] ([]:List α):=RepL.nil
theorem rc {α:Type} [Rp α] {i:Imm}{c1 c2:List Value}{l:List α} (a:α) (h:Rp.rep i c1 a) (t:RL i c2 l):RL i (c1++c2) (a::l):=⟨c1,c2,rfl,Rp.len h,h,t⟩
theorem rI {i:Imm}:∀ (l:List Int),RL i (l.map vI) l
  | []=>RepL.nil
  | a::l=>⟨[vI a],l.map vI,rfl,rfl,rfl,rI l⟩
theorem rT {i:Imm}:∀ (l:List Str),RL i (l.map fun s=>vT s.l) l
  | []=>RepL.nil
  | a::l=>⟨[vT a.l],l.map fun s=>vT s.l,rfl,rfl,rfl,rT l⟩
end Go.LN
namespace Go.LN
section
variable {P:Program}{n:Nat}{B:Base}{Q:Exit->Act->World->Prop}{imm:Imm}{hs:List HA}{m:FM}{af:List Oper}{pc d:Nat}{ty:TypeId}{pos:String}{after:Array Edge}{g:Option (Nat×Bool)}
end
theorem Ret.fz {P:Program}{f:FuncId}{args:List Value}{imm:Imm}{hs:List HA}{post post':Nat->Imm->List HA->Value->Prop} (h:Ret P f args imm hs post) (hp:∀ k i h v,post k i h v->∃ A r,h=A::r/\A.plain=true/\∀ i',i.le i'->Lent i' A->post' k i' r v):Ret P f args imm hs post' :=
  fun w g=>(h w g).mono fun e w' he=>by
    cases e with
    | returned v =>
      obtain ⟨i,ah,h1,h2⟩:=he
      obtain ⟨A,r,rfl,pl,h3⟩:=hp _ _ _ _ h1
      obtain ⟨i',le,hL,hg⟩:=Good.freeze h2 pl
      exact ⟨i',r,h3 i' le hL,hg⟩
    | panicked c=>exact he
    | outgrown=>exact he
end Go.LN
namespace Go.LN
section
variable {P:Program}{n:Nat}{B:Base}{af:List Oper}{Q:Exit->Act->World->Prop}{pc:Nat}{imm:Imm}{hs:List HA}{m:FM}{d:Nat}
end
end Go.LN
namespace Go.LN
theorem sP {x:Int} (h0:-9223372036854775808<=x) (h1:x<=9223372036854775807):W x=x:=by
  show IntKind.i64.wrap x=x;rw [IntKind.wrap_i64]; omega
theorem zDk {α:Type} (l:List α) (k:Nat):idx l (k:Int)=l[k]?:=by
  unfold idx;simp
theorem zHi {k:Nat} (h:k<9223372036854775807):W ((k:Int)+1)=((k+1:Nat):Int):=by
  rw [sP (by omega) (by omega)]; omega
end Go.LN
namespace Go.LN
structure Raw2 where
  a:Value
  b:Value
instance:Rp Raw2 where
  sz:=2
  pos:=by decide
  rep _ cs r:=cs=[r.a,r.b]/\r.a.oneCell'=true/\r.b.oneCell'=true
  len h:=by obtain ⟨rfl,_⟩:=h; rfl
  mono _ h:=h
  one h:=by obtain ⟨rfl,h1,h2⟩:=h; simp [h1,h2]
def flat:List Raw2->List Value
  | []=>[]
  | r::l=>r.a::r.b::flat l
theorem zBX:∀ (a b:List Raw2),flat (a++b)=flat a++flat b
  | [],_=>rfl
  | r::a,b=>by simp [flat,zBX a b]
theorem jW {imm:Imm}:∀ {l:List Raw2}{cs:List Value},RL imm cs l->cs=flat l
  | [],cs,h=>h
  | r::l,cs,⟨c1,c2,h1,_,h3,h4⟩=>by
    obtain ⟨rfl,_⟩:=h3
    rw [h1,jW h4]; rfl
def LP (imm:Imm) (ap:List Raw2) (parts:List zO) (vN:Value) (nl:List zE) (vB:Value) (bl:List zP):Prop :=
  parts.length<=140737488355328/\ap.length=parts.length /\
    ((parts=[]/\ap=[])∨∃ rl l,parts=l++[⟨nl,bl⟩]/\ap=rl++[⟨vN,vB⟩]/\RepL (Rp.rep imm) (Rp.sz zO) (flat rl) l)
theorem LP.mono {i j:Imm} (hl:i.le j) {ap:List Raw2}{parts:List zO}{vN vB:Value}{nl:List zE}{bl:List zP} (h:LP i ap parts vN nl vB bl):LP j ap parts vN nl vB bl:=by
  obtain ⟨h1,h2,h3⟩:=h;refine ⟨h1,h2,h3.imp id ?_⟩;rintro ⟨rl,l,k1,k2,k3⟩;exact ⟨rl,l,k1,k2,RepL.mono (fun _ _=>Rp.mono hl) k3⟩
structure L4 (imm:Imm) (cs:List Value) (arr:List zF) (az:List Value) (ap:List Raw2) (parts:List zO) (vN:Value) (nl:List zE) (vB:Value) (bl:List zP) (csN csB:List Value):Prop where
  arr:RL imm cs arr
  raw:RL imm az ap
  lp:LP imm ap parts vN nl vB bl
  n:RL imm csN nl
  b:RL imm csB bl
theorem L4.mono {i j:Imm} (hl:i.le j) {cs:List Value}{arr:List zF}{az:List Value}{ap:List Raw2}{parts:List zO}{vN vB:Value}{nl:List zE}{bl:List zP}{csN csB:List Value}
    (h:L4 i cs arr az ap parts vN nl vB bl csN csB):L4 j cs arr az ap parts vN nl vB bl csN csB :=
  ⟨RepL.mono (fun _ _=>Rp.mono hl) h.arr,RepL.mono (fun _ _=>Rp.mono hl) h.raw,h.lp.mono hl,RepL.mono (fun _ _=>Rp.mono hl) h.n,RepL.mono (fun _ _=>Rp.mono hl) h.b⟩
theorem LP.len {imm:Imm}{ap:List Raw2}{parts:List zO}{vN vB:Value}{nl:List zE}{bl:List zP} (h:LP imm ap parts vN nl vB bl):(parts.length:Int)=(ap.length:Int):=by rw [h.2.1]
theorem LP.last {imm:Imm}{ap:List Raw2}{parts:List zO}{vN vB:Value}{nl:List zE}{bl:List zP} (h:LP imm ap parts vN nl vB bl) {x:zO} (hx:idx parts (W ((ap.length:Int) - 1))=some x) :
    x=⟨nl,bl⟩/\idx ap (W ((ap.length:Int) - 1))=some ⟨vN,vB⟩ /\
      ∀ vN' nl' vB' bl',LP imm (ap.set (W ((ap.length:Int) - 1)).toNat ⟨vN',vB'⟩) (parts.set (W ((ap.length:Int) - 1)).toNat ⟨nl',bl'⟩) vN' nl' vB' bl':=by
  obtain ⟨h1,h2,h3⟩:=h
  have hW:W ((ap.length:Int) - 1)=(ap.length:Int) - 1:=sP (by omega) (by omega)
  rw [hW] at hx ⊢
  rcases h3 with ⟨rfl,rfl⟩ | ⟨rl,l,rfl,rfl,h4⟩
  · simp [idx] at hx
  · have hl:l.length=rl.length:=by simpa using h2.symm
    have e:(((rl++[(⟨vN,vB⟩:Raw2)]).length:Int) - 1).toNat=rl.length:=by simp
    have e0:(0:Int)<=((rl++[(⟨vN,vB⟩:Raw2)]).length:Int) - 1:=by simp
    unfold idx at hx ⊢
    rw [if_pos e0,e] at hx ⊢
    rw [<- hl] at hx
    refine ⟨by simpa using hx.symm,by simp,fun vN' nl' vB' bl'=>⟨?_,?_,.inr ⟨rl,l,?_,?_,h4⟩⟩⟩
    · simpa using h1
    · simpa using h2
    · rw [<- hl]; simp
    · simp
theorem LP.part {imm:Imm}{ap:List Raw2}{parts:List zO}{vN vB:Value}{nl:List zE}{bl:List zP} (h:LP imm ap parts vN nl vB bl) (hN:SL imm vN nl) (hB:SL imm vB bl) {l1:List zO}
    (ha:app 48 parts [(⟨[],[]⟩:zO)]=some l1):LP imm (ap++[⟨.slice none 0 0,.slice none 0 0⟩]) l1 (.slice none 0 0) [] (.slice none 0 0) []:=by
  obtain ⟨hb,rfl⟩:=eU ha
  obtain ⟨h1,h2,h3⟩:=h
  refine ⟨?_,?_,.inr ⟨ap,parts,rfl,rfl,?_⟩⟩
  · simp at hb ⊢; omega
  · simp [h2]
  · rcases h3 with ⟨rfl,rfl⟩ | ⟨rl,l,rfl,rfl,h4⟩
    · rfl
    · rw [zBX]
      exact h4.append (.single rfl (qM ⟨_,_,rfl,hN,hB⟩))
theorem zJa {α β:Type}{b:Nat}{l:List α}{m:List α}{l':List β}{m':List β}{y:List α} (h:app b l m=some y) (h1:l'.length=l.length) (h2:m'.length=m.length):app b l' m'=some (l'++m'):=by
  obtain ⟨k,_⟩:=eU h;unfold app;rw [h1,h2,if_pos k]
theorem LP.done {imm:Imm}{ap:List Raw2}{parts:List zO}{vN vB:Value}{nl:List zE}{bl:List zP} (h:LP imm ap parts vN nl vB bl) (hN:SL imm vN nl) (hB:SL imm vB bl):RepL (Rp.rep imm) (Rp.sz zO) (flat ap) parts:=by
  obtain ⟨h1,h2,h3⟩:=h;rcases h3 with ⟨rfl,rfl⟩ | ⟨rl,l,rfl,rfl,h4⟩
  · rfl
  · rw [zBX];exact h4.append (.single rfl (qM ⟨_,_,rfl,hN,hB⟩))
section
variable {P:Program}{n:Nat}{B:Base}{Q:Exit->Act->World->Prop}{imm:Imm}{hs:List HA}{m:FM}{af:List Oper}{pc d:Nat}{ty:TypeId}{pos:String}{after:Array Edge}{g:Option (Nat×Bool)}
theorem zPQ {t:TypeId}{x y:Operand}{b o:Nat}{c:Array Value}{v:Value} (j:Nat) (c':List Value) (ah:List HA) (ho:af[pc]?=some ⟨none,.store t x y,ty,pos,after,g⟩) (hj:hs[j]?=some (.blk b c)) (hx:val m x=some (.pointer (some ⟨b,o,none⟩))) (hy:val m y=some v) (ca:v.cells.toList.all Value.oneCell'=true) (next:R P n B af Q (pc+1) imm ah m) (hg:guardB af m g=some true:=by kernel_rfl) (bV:sizeT P t=some v.cells.size:=by kernel_rfl) (bW:Nat.ble (o+v.cells.size) c.size=true:=by kernel_rfl) (hc:wr c o v.cells.toList=⟨c'⟩:=by kernel_rfl) (hh:hs.set j (.blk b ⟨c'⟩)=ah:=by rfl):R P n B af Q pc imm hs m :=
  zGj j ho hg hj hx hy bV bW ca hc hh next
end
end Go.LN
namespace Go.LN
open Go.RowKit
theorem Good.below {imm:Imm}{w w':World} (h:Good ⟨w,imm,[]⟩ imm [] w) (b:Below w.heap.size w w') (hd:w.drawn<=w'.drawn):Good ⟨w,imm,[]⟩ imm [] w':=by
  refine ⟨fun k c e=>?_,by simp,by simp,⟨b.os,b.tape,b.output,b.size,fun k hk _=>b.block k hk,fun _ _ _=>rfl,hd⟩⟩;obtain ⟨ty,fr,e'⟩:=h.inv k c e;exact ⟨ty,fr,(b.block k (h.lt_imm e)).trans e'⟩
theorem Good.cell {B:Base}{imm:Imm}{hs:List HA}{w:World} (h:Good B imm hs w) {g:Nat}{v:Value} (e:imm g=some #[v]):w.cell? ⟨g,0,none⟩=some v:=by
  obtain ⟨ty,fr,e'⟩:=h.inv _ _ e;simp only [World.cell?,e'];simp
theorem zMj {P:Program}{f:FuncId}{args:List Value}{imm:Imm}{v:Value}{post:Nat->Imm->List HA->Value->Prop}
    (h:∀ w,Good ⟨w,imm,[]⟩ imm [] w->Calls P f args.toArray w fun e w'=>e=.returned v/\Below w.heap.size w w'/\w.drawn<=w'.drawn) (hp:∀ k,post k imm [] v):Ret P f args imm [] post:=fun w g =>
  (h w g).mono fun e w' ⟨he,hb,hd⟩=>by
    subst he
    exact ⟨imm,[],hp _,g.below hb hd⟩
theorem At.of_blk {imm:Imm}{b:Nat}{cs:List Value} (h:imm b=some ⟨cs⟩):At imm ⟨b,0,none⟩ cs:=⟨b,0,_,rfl,h,by simp,by simp⟩
section
variable {P:Program}{n:Nat}{B:Base}{af:List Oper}{Q:Exit->Act->World->Prop}{pc:Nat}{imm:Imm}{hs:List HA}{m:FM}{d:Nat}
  {ty:TypeId}{pos:String}{after:Array Edge}{g:Option (Nat×Bool)}
end
end Go.LN
namespace Go.LN
section
variable {P:Program}{n:Nat}{B:Base}{Q:Exit->Act->World->Prop}{imm:Imm}{hs:List HA}{m:FM}{af:List Oper}{pc d:Nat}{ty:TypeId}{pos:String}{after:Array Edge}{g:Option (Nat×Bool)}
theorem zJb {t e:TypeId}{w:World}{p:Option Addr}{l c:Nat} (hu:P.underlying t=some (.slice e)):(Op.equal t (.slice p l c) (.slice none 0 0)).run P w=.ok p.isNone w:=by
  have h:∀ d,(Op.equalIn (d+1) t (.slice p l c) (.slice none 0 0)).run P w=.ok p.isNone w:=fun d=>by
    rw [Op.equalIn];cases p <;> simp [xB hu]
  exact h 9999
def sliceT (P:Program) (t:TypeId):Bool:=match P.underlying t with | some (.slice _)=>true | _=>false
theorem zOb {t t2:TypeId}{x:Operand}{p:Option Addr}{l c:Nat} (b:Bool) (ho:af[pc]?=some ⟨some d,.binOp .eql t x (.const (.slice none 0 0)) t2,ty,pos,after,g⟩) (hb:p.isNone=b)
    (next:R P n B af Q (pc+1) imm hs ((d,.bool b)::m)) (hx:val m x=some (.slice p l c)) (hg:guardB af m g=some true:=by kernel_rfl) (hn:Nat.blt d n=true:=by kernel_rfl) (ht:sliceT P t=true:=by kernel_rfl):R P n B af Q pc imm hs m:=by
  unfold sliceT at ht
  split at ht
  · rename_i e hu
    refine mT ho hg rfl hn fun a w f gd=>⟨.bool b,w,imm,hs,?_,gd,next⟩
    have hy:a.eval (.const (.slice none 0 0))=.slice none 0 0:=rfl
    simp [execOp,f.eval hx,hy,eqGuard,binOp,zJb hu,hb]
  · cases ht
end
end Go.LN
namespace Go.LN
section
variable {P:Program}{n:Nat}{B:Base}{Q:Exit->Act->World->Prop}{imm:Imm}{hs:List HA}{m:FM}
theorem zJc {c:Code} (ah:List HA) (hp:ah.Perm hs) (h:J P n B c Q imm ah m):J P n B c Q imm hs m:=fun a w f g=>h a w f (g.perm hp)
theorem zN1 {c:Code} (hF:False) {ar:Imm}{ah:List HA}{m':FM} (next:T n B Q .normal ar ah m'):J P n B c Q imm hs m:=hF.elim
theorem zOc {c:Code}{L:List HA} (x:Exit) (S:Imm->List HA->FM->Prop) (h1:∀ B':Base,J P n B' c (fun e a w=>e=x/\∃ ar ah m',S ar ah m'/\Fr n a m'/\Good B' ar ah w) imm hs m)
    (h2:∀ ar ah m',S ar ah m'->imm.le ar->T n B Q x ar (ah++L) m'):J P n B c Q imm (hs++L) m:=fun a w f g=>by
  have bZ:=g.nodup
  rw [ee] at bZ
  have hg1:=g.enter (hs1:=hs) (fun A hA=>dn _ hA) (cE.1 bZ).1
  refine wp_mono (h1 _ a w f hg1) fun e a' w' he=>?_
  obtain ⟨rfl,ar,ah,m',k1,k2,k3⟩:=he
  obtain ⟨k4,k5,_⟩:=g.leave k3
  exact h2 ar ah m' k1 k5 a' w' k2 k4
theorem zMk {B':Base}{x:Exit}{S:Imm->List HA->FM->Prop} (h:S imm hs m):T n B' (fun e a w=>e=x/\∃ ar ah m',S ar ah m'/\Fr n a m'/\Good B' ar ah w) x imm hs m:=fun _ _ f g=>⟨rfl,imm,hs,m,h,f,g⟩
end
structure NL where
  pl:Option Addr
  lo:List zA
  cl:Nat
  csl:List Value
  ph:Option Addr
  hi:List zA
  ch:Nat
  csh:List Value
def NL.vl (x:NL):Value:=vS x.pl x.lo x.cl
def NL.vh (x:NL):Value:=vS x.ph x.hi x.ch
def NL.ha (x:NL):List HA:=[hO zA x.vh x.csh,hO zA x.vl x.csl]
def NL.raw (x:NL):Raw2:=⟨x.vl,x.vh⟩
def NL.d (x:NL):zE:=⟨x.lo,x.hi⟩
def NL.ok (imm:Imm) (x:NL):Prop:=RL imm x.csl x.lo/\RL imm x.csh x.hi
def NL.fz (imm:Imm) (x:NL):Prop:=SL imm x.vl x.lo/\SL imm x.vh x.hi
theorem NL.ok.mono {i j:Imm} (h:i.le j) {x:NL} (hx:x.ok i):x.ok j:=⟨RepL.mono (fun _ _=>Rp.mono h) hx.1,RepL.mono (fun _ _=>Rp.mono h) hx.2⟩
theorem NL.fz.mono {i j:Imm} (h:i.le j) {x:NL} (hx:x.fz i):x.fz j:=⟨hx.1.mono h,hx.2.mono h⟩
abbrev NLs (xs:List NL):List HA:=xs.flatMap NL.ha
theorem zN2 {xs:List NL}{k:Nat}{x:NL} (h:xs[k]?=some x):∃ ys,(NLs xs).Perm (x.ha++NLs ys)/\(∀ y∈ys,y∈xs)/\∀ i:Nat,∀ y,i ≠ k->xs[i]?=some y->y∈ys:=by
  obtain ⟨hk,rfl⟩:=ck.1 h;refine ⟨xs.eraseIdx k,?_,fun y hy=>List.mem_of_mem_eraseIdx hy,fun i y hi hy=>List.mem_eraseIdx_iff_getElem?.2 ⟨i,hi,hy⟩⟩;have:=(jJ h).flatMap_right NL.ha;simpa [NLs] using this
section
variable {P:Program}{n:Nat}{B:Base}{Q:Exit->Act->World->Prop}{hs:List HA}{m:FM}
theorem zBs {c:Code}:∀ (xs:List NL) {imm:Imm},(∀ x∈xs,x.ok imm)->(∀ ar,imm.le ar->(∀ x∈xs,x.fz ar)->J P n B c Q ar hs m)->J P n B c Q imm (NLs xs++hs) m
  | [],imm,_,h=>h imm (Imm.le.refl _) (fun _ h=>by cases h)
  | x::xs,imm,hx,h=>by
    have h1:=hx x (cj ..)
    show J P n B c Q imm (hO zA x.vh x.csh::hO zA x.vl x.csl::(NLs xs++hs)) m
    refine qK 0 rfl ?_
    intro imm1 ae hl1
    have k1:=SL.of_frozen hl1 ae h1.2
    refine qK 0 rfl ?_
    intro imm2 aF hl2
    have k2:=SL.of_frozen hl2 aF (RepL.mono (fun _ _=>Rp.mono ae) h1.1)
    refine zBs xs (fun y hy=>(hx y (ci _ hy)).mono (ae.trans aF)) ?_
    intro imm3 aJ h3
    refine h imm3 ((ae.trans aF).trans aJ) fun y hy=>?_
    rcases cQ.1 hy with rfl | hy
    · exact ⟨k2.mono aJ,(k1.mono aF).mono aJ⟩
    · exact h3 y hy
end
theorem zHV {α β:Type}{f:α->β}{l:List α}{i:Int}{y:β} (h:idx (l.map f) i=some y):∃ x,idx l i=some x/\y=f x:=by
  obtain ⟨h0,h1,h2⟩:=vW h;rw [dv,Option.map_eq_some_iff] at h2;obtain ⟨x,h3,rfl⟩:=h2;exact ⟨x,by unfold idx; rw [if_pos h0,h3],rfl⟩
theorem zCV {α β:Type}{f:α->β}{l:List α}{i:Int}{x:α} (h:idx l i=some x):idx (l.map f) i=some (f x):=by
  obtain ⟨h0,h1,h2⟩:=vW h;unfold idx; rw [if_pos h0,dv,h2]; rfl
section
variable {P:Program}{n:Nat}{B:Base}{Q:Exit->Act->World->Prop}{hs:List HA}{m:FM}{imm:Imm}
theorem zN3 {c:Code}{xs:List NL}{i:Int}{x:NL} (hx:idx xs i=some x) (cb:∀ x∈xs,x.ok imm) (h:∀ ar,imm.le ar->(∀ (j:Nat) y,j ≠ i.toNat->xs[j]?=some y->y.fz ar)->J P n B c Q ar (hO zA x.vh x.csh::hO zA x.vl x.csl::hs) m):J P n B c Q imm (NLs xs++hs) m:=by
  obtain ⟨h0,h1,h2⟩:=vW hx;obtain ⟨ys,k1,k2,k3⟩:=zN2 h2;refine zJc (NLs ys++(x.ha++hs)) ?_ ?_
  · rw [<- co];exact (d9.trans k1.symm).append_right hs
  · refine zBs ys (fun y hy=>cb y (k2 y hy)) ?_;intro imm1 ae hf;exact h imm1 ae fun j y hj hy=>hf y (k3 j y hj hy)
end
def PW (imm:Imm) (ap:List Raw2) (nest:List zE):Prop:=ap.length=nest.length/\∀ (j:Nat) r d,ap[j]?=some r->nest[j]?=some d->SL imm r.a d.Lo/\SL imm r.b d.Hi
theorem PW.rl {imm:Imm}:∀ {ap:List Raw2}{nest:List zE},PW imm ap nest->RL imm (flat ap) nest
  | [],[],_=>rfl
  | [],_::_,h=>by cases h.1
  | _::_,[],h=>by cases h.1
  | r::ap,d::nest,h=>⟨[r.a,r.b],flat ap,rfl,rfl,qL ⟨_,_,rfl,h.2 0 r d rfl rfl⟩,PW.rl ⟨by have:=h.1; simpa using this,fun j r' d' h1 h2=>h.2 (j+1) r' d' (by simpa using h1) (by simpa using h2)⟩⟩
theorem zJd {imm:Imm}{xs:List NL}{k:Nat}{r:Raw2}{d:zE} (hfz:∀ (j:Nat) y,j ≠ k->xs[j]?=some y->y.fz imm) (hr:SL imm r.a d.Lo/\SL imm r.b d.Hi):PW imm ((xs.map NL.raw).set k r) ((xs.map NL.d).set k d):=by
  refine ⟨by simp,fun j r' d' h1 h2=>?_⟩;by_cases hj:j=k
  · subst hj;rw [List.getElem?_set_self' ] at h1 h2;cases hx:xs[j]? with
    | none=>simp [hx] at h1
    | some y =>
      simp [hx] at h1 h2;subst h1; subst h2;exact hr
  · rw [List.getElem?_set_ne (fun e=>hj e.symm),dv,Option.map_eq_some_iff] at h1 h2;obtain ⟨y,h3,rfl⟩:=h1;obtain ⟨y',h4,rfl⟩:=h2;rw [h3] at h4;cases h4
    exact hfz j y hj h3
theorem NL.shut {imm:Imm}{x:NL} (h:x.fz imm):Rp.rep imm [x.vl,x.vh] x.d:=qL ⟨_,_,rfl,h.1,h.2⟩
theorem zHj {imm:Imm}:∀ {xs:List NL},(∀ x∈xs,x.fz imm)->RL imm (flat (xs.map NL.raw)) (xs.map NL.d)
  | [],_=>rfl
  | x::xs,h=>⟨[x.vl,x.vh],flat (xs.map NL.raw),rfl,rfl,NL.shut (h x (cj ..)),zHj fun y hy=>h y (ci _ hy)⟩
theorem LP.push {imm:Imm}{ap:List Raw2}{parts:List zO}{vN vB vN' vB':Value}{nl nl':List zE}{bl bl':List zP} (h:LP imm ap parts vN nl vB bl) (hN:SL imm vN nl) (hB:SL imm vB bl) {l1:List zO}
    (ha:app 48 parts [(⟨nl',bl'⟩:zO)]=some l1):LP imm (ap++[⟨vN',vB'⟩]) l1 vN' nl' vB' bl':=by
  obtain ⟨hb,rfl⟩:=eU ha
  obtain ⟨h1,h2,h3⟩:=h
  refine ⟨?_,?_,.inr ⟨ap,parts,rfl,rfl,?_⟩⟩
  · simp at hb ⊢; omega
  · simp [h2]
  · rcases h3 with ⟨rfl,rfl⟩ | ⟨rl,l,rfl,rfl,h4⟩
    · rfl
    · rw [zBX]
      exact h4.append (.single rfl (qM ⟨_,_,rfl,hN,hB⟩))
theorem LP.nil {imm:Imm}:LP imm [] [] (.slice none 0 0) [] (.slice none 0 0) []:=⟨by decide,rfl,.inl ⟨rfl,rfl⟩⟩
end Go.LN
namespace Go.LN
structure ND where
  nm:Str
  p:Option Addr
  d:List Int
  c:Nat
  cs:List Value
def ND.v (x:ND):Value:=vS x.p x.d x.c
def ND.ha (x:ND):HA:=hO Int x.v x.cs
def ND.raw (x:ND):Raw2:=⟨vT x.nm.l,x.v⟩
def ND.a (x:ND):zF:=⟨x.nm,x.d⟩
def ND.ok (imm:Imm) (x:ND):Prop:=RL imm x.cs x.d
def ND.fz (imm:Imm) (x:ND):Prop:=SL imm x.v x.d
theorem ND.ok.mono {i j:Imm} (h:i.le j) {x:ND} (hx:x.ok i):x.ok j:=RepL.mono (fun _ _=>Rp.mono h) hx
theorem ND.fz.mono {i j:Imm} (h:i.le j) {x:ND} (hx:x.fz i):x.fz j:=SL.mono h hx
section
variable {P:Program}{n:Nat}{B:Base}{Q:Exit->Act->World->Prop}{hs:List HA}{m:FM}
end
def RW (imm:Imm) (ap:List Raw2) (A:List zF) (k:Nat) (w:Value):Prop:=ap.length=A.length/\∀ (j:Nat) r d,ap[j]?=some r->A[j]?=some d->r.a=vT d.Name.l/\(j ≠ k->SL imm r.b d.Dims)/\(j=k->r.b=w)
def ArW (imm:Imm) (v:Value) (ap:List Raw2) (A:List zF) (k:Int) (w:Value):Prop:=SL imm v ap/\RW imm ap A k.toNat w
theorem ArW.mono {i j:Imm} (h:i.le j) {v:Value}{ap:List Raw2}{A:List zF}{k:Int}{w:Value} (hx:ArW i v ap A k w):ArW j v ap A k w :=
  ⟨SL.mono h hx.1,hx.2.1,fun q r d h1 h2=>⟨(hx.2.2 q r d h1 h2).1,fun hq=>SL.mono h ((hx.2.2 q r d h1 h2).2.1 hq),(hx.2.2 q r d h1 h2).2.2⟩⟩
theorem RW.of {imm:Imm}{xs:List ND}{i:Int}{x:ND} (hx:idx xs i=some x) (h:∀ (j:Nat) y,j ≠ i.toNat->xs[j]?=some y->y.fz imm):RW imm (xs.map ND.raw) (xs.map ND.a) i.toNat x.v:=by
  obtain ⟨h0,h1,h2⟩:=vW hx;refine ⟨by simp,fun j r d hr hd=>?_⟩;rw [dv,Option.map_eq_some_iff] at hr hd;obtain ⟨y,hy,rfl⟩:=hr;obtain ⟨y',hy',rfl⟩:=hd;rw [hy] at hy';cases hy'
  refine ⟨rfl,fun hj=>h j y hj hy,fun hj=>?_⟩;subst hj;rw [h2] at hy;cases hy; rfl
theorem RW.at {imm:Imm}{ap:List Raw2}{A:List zF}{k:Int}{w:Value} (h:RW imm ap A k.toNat w) {a:zF} (ha:idx A k=some a):idx ap k=some ⟨vT a.Name.l,w⟩:=by
  obtain ⟨h0,h1,h2⟩:=vW ha;have aE:=(ck.1 h2).1;have hr:ap[k.toNat]?=some (ap[k.toNat]'(by rw [h.1]; exact aE)):=cg _;obtain ⟨e1,_,e2⟩:=h.2 _ _ _ hr h2;unfold idx;rw [if_pos h0,hr]
  congr 1
  generalize ap[k.toNat]'(by rw [h.1]; exact aE)=r at *;cases r
  simp only at e1 e2;rw [e1,e2 trivial]
theorem RW.rl {imm:Imm}:∀ {ap:List Raw2}{A:List zF},ap.length=A.length->(∀ (j:Nat) r d,ap[j]?=some r->A[j]?=some d->r.a=vT d.Name.l/\SL imm r.b d.Dims)->RL imm (flat ap) A
  | [],[],_,_=>rfl
  | [],_::_,h,_=>by cases h
  | _::_,[],h,_=>by cases h
  | r::ap,d::A,h,hh=>⟨[r.a,r.b],flat ap,rfl,rfl,by
      obtain ⟨e1,e2⟩:=hh 0 r d rfl rfl
      rw [e1]
      exact qU ⟨_,rfl,e2⟩,RW.rl (by simpa using h) fun j r' d' h1 h2=>hh (j+1) r' d' (by simpa using h1) (by simpa using h2)⟩
theorem RW.set {imm:Imm}{ap:List Raw2}{A:List zF}{k:Int}{w:Value} (h:RW imm ap A k.toNat w) {a:zF} (ha:idx A k=some a) {d:List Int} (hd:SL imm w d):RL imm (flat ap) (A.set k.toNat ⟨a.Name,d⟩):=by
  obtain ⟨h0,h1,h2⟩:=vW ha;refine RW.rl (by rw [cK]; exact h.1) fun j r y hr hy=>?_;by_cases hj:j=k.toNat
  · subst hj;rw [List.getElem?_set_self (ck.1 h2).1] at hy;cases hy
    obtain ⟨e1,_,e2⟩:=h.2 _ r a hr h2;exact ⟨e1,by rw [e2 rfl]; exact hd⟩
  · rw [List.getElem?_set_ne (fun e=>hj e.symm)] at hy;obtain ⟨e1,e2,_⟩:=h.2 _ r y hr hy;exact ⟨e1,e2 hj⟩
theorem ArW.done {imm:Imm}{p:Option Addr}{c:Nat}{ap:List Raw2}{A:List zF}{k:Int}{w:Value} (h:ArW imm (vS p ap c) ap A k w) {a:zF} (ha:idx A k=some a) {d:List Int} (hd:SL imm w d):SL imm (vS p (A.set k.toNat ⟨a.Name,d⟩) c) (A.set k.toNat ⟨a.Name,d⟩):=by
  obtain ⟨⟨aP,h1,h2⟩,h3⟩:=h;refine ⟨aP,?_,?_⟩
  · have e:(vS p (A.set k.toNat ⟨a.Name,d⟩) c)=vS p ap c:=by simp only [vS,cK,h3.1]
    rw [e]; exact h1
  · rw [jW h2]; exact h3.set ha hd
section
variable {P:Program}{n:Nat}{B:Base}{imm:Imm}{hs:List HA}{m:FM}
end
end Go.LN
namespace Go.LN
structure NB where
  vN:Value
  nl:List zE
  p:Option Addr
  d:List zP
  c:Nat
  cs:List Value
def NB.v (x:NB):Value:=vS x.p x.d x.c
def NB.ha (x:NB):HA:=hO zP x.v x.cs
def NB.raw (x:NB):Raw2:=⟨x.vN,x.v⟩
def NB.a (x:NB):zO:=⟨x.nl,x.d⟩
def NB.ok (imm:Imm) (x:NB):Prop:=SL imm x.vN x.nl/\RL imm x.cs x.d
def NB.fz (imm:Imm) (x:NB):Prop:=SL imm x.vN x.nl/\SL imm x.v x.d
theorem NB.ok.mono {i j:Imm} (h:i.le j) {x:NB} (hx:x.ok i):x.ok j:=⟨SL.mono h hx.1,RepL.mono (fun _ _=>Rp.mono h) hx.2⟩
theorem NB.fz.mono {i j:Imm} (h:i.le j) {x:NB} (hx:x.fz i):x.fz j:=⟨SL.mono h hx.1,SL.mono h hx.2⟩
theorem NB.shut {imm:Imm}{x:NB} (h:x.fz imm):Rp.rep imm [x.vN,x.v] x.a:=qM ⟨_,_,rfl,h.1,h.2⟩
section
variable {P:Program}{n:Nat}{B:Base}{Q:Exit->Act->World->Prop}{hs:List HA}{m:FM}
end
end Go.LN
namespace Go.LN
open Go.Proofs
def RV:Type:={v:Value // v.oneCell'=true}
def zR:RV:=⟨.slice none 0 0,rfl⟩
instance:Inhabited RV:=⟨zR⟩
def encR (x:RV):Value:=x.1
theorem oneV:OneCell encR:=fun x=>x.2
theorem toRV:∀ (cs:List Value),(∀ v∈cs,v.oneCell'=true)->∃ zs:List RV,cs=zs.map encR
  | [],_=>⟨[],rfl⟩
  | v::cs,h=>by
    obtain ⟨zs,e⟩:=toRV cs fun u hu=>h u (ci _ hu)
    exact ⟨⟨v,h v (cj ..)⟩::zs,congrArg (v::·) e⟩
def delG {α:Type} (s:List α) (i j:Int):Option (List α):=if 0<=i/\i<=j/\j<=s.length/\0<s.length then some (s.take i.toNat++s.drop j.toNat) else none
theorem zK2 {P:Program}{f:FuncId} (hc:∀ (blk off cap i j:Nat) (zs:List RV) (w:World),Sort.Holds encR w blk off zs.toArray->zs.length<=cap->cap<=9223372036854775807->i<=j->j<=zs.length ->
      Calls P f #[.slice (some ⟨blk,off,none⟩) zs.length cap,.int .i64 i,.int .i64 j] w fun e w'=>e=.returned (.slice (some ⟨blk,off,none⟩) (zs.length - (j - i)) cap)/\∃ q,w'=Sort.putRow encR (Sort.ahead w q) blk off (zs.take i++zs.drop j++List.replicate (j - i) zR).toArray)
    {s r:List (List Int)}{i j:Int} (hd:delG s i j=some r) {imm:Imm}{p:Option Addr}{c:Nat}{cs:List Value} (hr:RL imm cs s) {post:Nat->Imm->List HA->Value->Prop}
    (hp:∀ k a' c' cs',RL imm cs' r->(∀ b∈(HA.osl (vS a' r c') (Rp.sz (List Int)) cs').fp,b∈(HA.osl (vS p s c) (Rp.sz (List Int)) cs).fp∨k<=b)->post k imm [hO (List Int) (vS a' r c') cs'] (vS a' r c')) :
    Ret P f [vS p s c,vI i,vI j] imm [hO (List Int) (vS p s c) cs] post:=by
  unfold delG at hd
  split at hd
  · rename_i hb
    cases hd
    obtain ⟨hi,hij,hj,hpos⟩:=hb
    intro w g
    obtain ⟨zs,bU⟩:=toRV cs (fun v hv=>RepL.one (fun _ _=>Rp.one) hr v hv)
    have hzl:zs.length=s.length:=by
      have:=hr.length
      rw [bU,dt] at this
      simpa [show Rp.sz (List Int)=1 from rfl] using this
    rcases g.own _ (cj ..) with ⟨e,_⟩ | ⟨b,off,len,cap,all,ty,e,h1,h2,hw,hcap,hlc,cd,hal,hM⟩
    · exfalso
      injection e with _ e2 _
      omega
    · injection e with e1 e2 e3
      subst e1; subst e2; subst e3
      simp only [show Rp.sz (List Int)=1 from rfl,f5] at hcap cd hal
      have hcell:∀ q,q<s.length->all[off+q]?=some (encR (zs[q]!)):=by
        intro q hq
        have h0:cs[q]?=some (encR zs[q]!):=by
          rw [bU,dv,cg (by omega),Option.map_some,getElem!_pos zs q (by omega)]
        rw [<- hal,dy,if_pos hq,dr,f3] at h0
        exact h0
      have hH:Sort.Holds encR w b off zs.toArray:=by
        intro q hq
        have hq:q<zs.length:=by simpa using hq
        refine ⟨?_,?_⟩
        · simp only [World.cell?,hw]
          have:=hcell q (by omega)
          simp only [Option.isSome_none,cI,if_false,this]
          congr 2
          simp [hq]
        · simp only [World.frozen?,hw]
          simp
      have hc':=hc b off c i.toNat j.toNat zs w hH (by omega) hM (by omega) (by omega)
      have ei:((i.toNat:Nat):Int)=i:=Int.toNat_of_nonneg hi
      have ej:((j.toNat:Nat):Int)=j:=Int.toNat_of_nonneg (by omega)
      rw [ei,ej,hzl] at hc'
      refine hc'.mono fun e w' ⟨he,q,hw'⟩=>?_
      subst he; subst hw'
      have aU:(s.take i.toNat++s.drop j.toNat).length=s.length - (j.toNat - i.toNat):=by
        rw [cM,cv,cz]; omega
      have hzlen:(zs.take i.toNat++zs.drop j.toNat).length=s.length - (j.toNat - i.toNat):=by
        rw [cM,cv,cz]; omega
      let new:List RV:=zs.take i.toNat++zs.drop j.toNat++List.replicate (j.toNat - i.toNat) zR
      have hnl:new.length=s.length:=by
        show (_++_++_:List RV).length=_
        rw [cM,hzlen,eo]; omega
      let all':=Sort.putCells encR off new.toArray all
      have bV:all'.size=all.size:=by simp [all',Sort.putCells]
      have hw2:Sort.putRow encR (Sort.ahead w q) b off new.toArray=setBlk (Sort.ahead w q) b (.cells all' ty (0,0)):=by
        unfold Sort.putRow Sort.mapBlock setBlk
        congr 1
        apply gk
        intro k
        rw [gx,fx]
        by_cases hk:b=k
        · subst hk
          have hw3:(Sort.ahead w q).heap[b]?=some (.cells all ty (0,0)):=hw
          have aE:b<(Sort.ahead w q).heap.size:=by
            rcases d6 b (Sort.ahead w q).heap.size with h' | h'
            · exact h'
            · rw [ed h'] at hw3; cases hw3
          rw [if_pos rfl,if_pos rfl,if_pos aE,hw3]
          rfl
        · rw [if_neg hk,if_neg hk]
      have hg2:Good ⟨w,imm,(([hO (List Int) (vS (some ⟨b,off,none⟩) s c) cs]:List HA)).flatMap HA.fp⟩ imm [hO (List Int) (vS (some ⟨b,off,none⟩) s c) cs] (Sort.ahead w q):=g.draw _ (ga _ _)
      have hget:∀ k,k<s.length->all'[off+k]?=some (encR new[k]!):=by
        intro k hk
        have h0:=hcell k hk
        simp only [all',Sort.putCells,Array.getElem?_mapIdx,h0,Option.map_some]
        rw [if_pos ⟨by omega,by simp only [List.size_toArray,hnl]; omega⟩]
        congr 2
        rw [show off+k - off=k by omega]
        simp [hnl,hk]
      have hrl:RL imm ((zs.take i.toNat++zs.drop j.toNat).map encR) (s.take i.toNat++s.drop j.toNat):=by
        rw [de,List.map_take,List.map_drop,<- bU]
        have h9:=(hr.take i.toNat).append (hr.drop j.toNat)
        simp only [show Rp.sz (List Int)=1 from rfl,f5] at h9
        exact h9
      rw [<- aU]
      refine ⟨imm,_,hp _ (some ⟨b,off,none⟩) c ((zs.take i.toNat++zs.drop j.toNat).map encR) hrl (fun x hx=>.inl (by simpa [HA.fp] using hx)),?_⟩
      · show Good _ imm _ (Sort.putRow encR (Sort.ahead w q) b off new.toArray)
        rw [hw2]
        refine hg2.write (A':=.osl (vS (some ⟨b,off,none⟩) (s.take i.toNat++s.drop j.toNat) c) (Rp.sz (List Int)) ((zs.take i.toNat++zs.drop j.toNat).map encR)) (b:=b) (by simp [HA.fp]) (by simp [HA.fp]) _ (.inr ⟨b,off,_,c,all',ty,rfl,h1,h2,?_,?_,?_,?_,?_,hM⟩)
        · have aE:b<(Sort.ahead w q).heap.size:=(hg2.mem_lt (b:=b) (by simp [HA.fp])).1
          exact fR aE
        · rw [bV,show Rp.sz (List Int)=1 from rfl,f5]; exact hcap
        · rw [aU]; omega
        · simp [show Rp.sz (List Int)=1 from rfl,hzl]
        · apply fk
          intro k
          rw [show Rp.sz (List Int)=1 from rfl,f5,dy,dr,f3]
          by_cases hk:k<(s.take i.toNat++s.drop j.toNat).length
          · have hk2:k<(zs.take i.toNat++zs.drop j.toNat).length:=by omega
            rw [if_pos hk,hget k (by omega)]
            rw [dv,cg hk2,Option.map_some]
            congr 2
            rw [getElem!_pos new k (by omega)]
            exact List.getElem_append_left hk2
          · rw [if_neg hk,ea (by rw [dt]; omega)]
  · cases hd
end Go.LN
namespace Go.LN
structure Raw1 where
  v:Value
instance:Rp Raw1 where
  sz:=1
  pos:=ii
  rep _ cs r:=cs=[r.v]/\r.v.oneCell'=true
  len h:=by obtain ⟨rfl,_⟩:=h; rfl
  mono _ h:=h
  one h:=by obtain ⟨rfl,h1⟩:=h; simp [h1]
def rv (R:List Raw1):List Value:=R.map Raw1.v
theorem zCW {imm:Imm}:∀ {R:List Raw1}{cs:List Value},RL imm cs R->cs=rv R
  | [],cs,h=>h
  | r::R,cs,⟨c1,c2,h1,_,h3,h4⟩=>by rw [h1,h3.1,zCW h4]; rfl
theorem app1 {by':Nat}{β:Type}{l y:List β}{z:β}{R:List Raw1}{r:Raw1} (h:app by' l [z]=some y) (hl:R.length=l.length):app by' R [r]=some (R++[r]):=by
  have:=(eU h).1;unfold app;rw [if_pos (by simpa [hl] using this)]
def GN {β:Type} [Rp β] (imm:Imm) (xs:List (List β)) (X:List Raw1) (y:List β) (v:Value):Prop :=
  (xs=[]/\X=[]/\y=[]/\v=.slice none 0 0)∨∃ init Xi,xs=init++[y]/\X=Xi++[⟨v⟩]/\RL imm (rv Xi) init/\xs.length<=10000000000000
section
variable {β:Type} [Rp β] {imm:Imm}{xs:List (List β)}{X:List Raw1}{y:List β}{v:Value}
theorem GN.mono {j:Imm} (hl:imm.le j) (h:GN imm xs X y v):GN j xs X y v:=by
  rcases h with h | ⟨init,Xi,h1,h2,h3,h4⟩
  · exact .inl h
  · exact .inr ⟨init,Xi,h1,h2,RepL.mono (fun _ _=>Rp.mono hl) h3,h4⟩
theorem zN4 {init:List (List β)}{Xi:List Raw1} (h:RL imm (rv Xi) init):Xi.length=init.length:=by
  have:=h.length;simpa [rv,show Rp.sz (List β)=1 from rfl] using this
theorem GN.len (h:GN imm xs X y v):X.length=xs.length:=by
  rcases h with ⟨rfl,rfl,_⟩ | ⟨init,Xi,rfl,rfl,h3,_⟩
  · rfl
  · simp [zN4 h3]
theorem GN.all (h:GN imm xs X y v) (hs:SL imm v y):RL imm (rv X) xs:=by
  rcases h with ⟨rfl,rfl,_⟩ | ⟨init,Xi,rfl,rfl,h3,_⟩
  · exact RepL.nil
  · have e:rv (Xi++[⟨v⟩])=rv Xi++[v]:=by simp [rv]
    rw [e];exact h3.append ⟨[v],[],rfl,rfl,⟨v,rfl,hs⟩,rfl⟩
theorem GN.push (h:GN imm xs X y v) (hs:SL imm v y) (hb:(xs.length+1)*24<=140737488355328):GN imm (xs++[[]]) (X++[⟨.slice none 0 0⟩]) [] (.slice none 0 0) :=
  .inr ⟨xs,X,rfl,rfl,h.all hs,by simp; omega⟩
theorem zPa {n:Nat} (h:n<=10000000000000):W (((n+1:Nat):Int) - 1)=(n:Int):=by rw [sP (by omega) (by omega)]; omega
theorem GN.last (h:GN imm xs X y v) {z:List β} (hz:idx xs (W ((xs.length:Int) - 1))=some z):z=y/\idx X (W ((X.length:Int) - 1))=some ⟨v⟩/\W ((X.length:Int) - 1)=W ((xs.length:Int) - 1) /\
    ∀ (y':List β) (v':Value),GN imm (xs.set (W ((xs.length:Int) - 1)).toNat y') (X.set (W ((X.length:Int) - 1)).toNat ⟨v'⟩) y' v':=by
  rcases h with ⟨rfl,rfl,_⟩ | ⟨init,Xi,rfl,rfl,h3,h4⟩
  · obtain ⟨_,_,h2⟩:=vW hz
    simp at h2
  · have hl:=zN4 h3
    simp only [cM,en] at hz h4 ⊢
    have e1:=zPa (n:=init.length) (by omega)
    rw [e1] at hz
    rw [hl,e1]
    refine ⟨?_,?_,rfl,fun y' v'=>?_⟩
    · have:=(vW hz).2.2
      simp at this
      exact this.symm
    · unfold idx
      simp [hl]
    · rw [gq]
      refine .inr ⟨init,Xi,?_,?_,h3,?_⟩
      · simp
      · simp [<- hl]
      · simp; omega
end
theorem zN5 {α:Type}{l:List α}{i:Int}{x y:α} (h:idx l i=some x):idx (l.set i.toNat y) i=some y:=by
  obtain ⟨h0,h1,h2⟩:=vW h;unfold idx;rw [if_pos h0,List.getElem?_set_self (ck.1 h2).1]
def FS1 {σ α β:Type} [Vr α] [Vr β] (P:Program) (imm:Imm) (hsS:σ->List HA) (v:Value) (φ:α->σ->Option (β×σ)):Prop :=
  ∃ f first cap,v=.func (.func f) ⟨first⟩ ⟨cap⟩/\callable P f=true/\∀ ar,imm.le ar->∀ a s r va,φ a s=some r->Vr.rep ar va a->Ret P f (first++[va]++cap) ar (hsS s) fun _ i ah u=>ah=hsS r.2/\Vr.rep i u r.1
theorem FS1.mono {σ α β:Type} [Vr α] [Vr β] {P:Program}{i j:Imm}{hsS:σ->List HA}{v:Value}{φ:α->σ->Option (β×σ)} (hl:i.le j) (h:FS1 P i hsS v φ):FS1 P j hsS v φ:=by
  obtain ⟨f,first,cap,h1,h2,h3⟩:=h;exact ⟨f,first,cap,h1,h2,fun ar h'=>h3 ar (hl.trans h')⟩
theorem FS1.intro {σ α β:Type} [Vr α] [Vr β] {P:Program}{imm:Imm}{hsS:σ->List HA}{f:FuncId}{first cap:List Value}{φ:α->σ->Option (β×σ)} (h:∀ ar,imm.le ar->∀ a s r va,φ a s=some r->Vr.rep ar va a->Ret P f (first++[va]++cap) ar (hsS s) fun _ i ah u=>ah=hsS r.2/\Vr.rep i u r.1)
    (hc:callable P f=true:=by kernel_rfl):FS1 P imm hsS (.func (.func f) ⟨first⟩ ⟨cap⟩) φ:=⟨f,first,cap,rfl,hc,h⟩
section
variable {P:Program}{n:Nat}{B:Base}{af:List Oper}{Q:Exit->Act->World->Prop}{pc:Nat}{imm:Imm}{hs:List HA}{m:FM}{d:Nat}
  {ty:TypeId}{pos:String}{after:Array Edge}{g:Option (Nat×Bool)}
theorem zQR {σ α β:Type} [Vr α] [Vr β] {x y:Operand}{ts:Array TypeId}{v va:Value}{a:α}{s:σ}{r:β×σ}{φ:α->σ->Option (β×σ)}{hsS:σ->List HA}{rest:List HA}
    (ho:af[pc]?=some ⟨some d,.call { callee:=.value x,args:=#[y],argTypes:=ts },ty,pos,after,g⟩) (hy:val m y=some va) (hF:FS1 P imm hsS v φ) (hr:φ a s=some r) (ha:Vr.rep imm va a) (hh:hs=hsS s++rest)
    (next:∀ ar u,imm.le ar->Vr.rep ar u r.1->R P n B af Q (pc+1) ar (hsS r.2++rest) ((d,u)::m)) (hx:val m x=some v:=by kernel_rfl) (hg:guardB af m g=some true:=by kernel_rfl) (hn:Nat.blt d n=true:=by kernel_rfl):R P n B af Q pc imm hs m:=by
  obtain ⟨f,first,cap,rfl,hf,hc⟩:=hF
  refine zME ho hx hf (vs:=[va]) (by simp [vals,hy]) hh (hc imm (Imm.le.refl _) a s r va hr ha) ?_ hg hn
  rintro ar ah u k hl hk ⟨rfl,h⟩ -
  exact next ar u hl h
end
end Go.LN
namespace Go.LN
section
variable {P:Program}{n:Nat}{B:Base}{Q:Exit->Act->World->Prop}{imm:Imm}{hs:List HA}{m:FM}{af:List Oper}{pc d:Nat}{ty:TypeId}{pos:String}{after:Array Edge}{g:Option (Nat×Bool)}
end
theorem zJN {B:Base}{imm:Imm} (a b:List HA):∀ w,Good B imm (a++b) w->Good B imm (b++a) w:=fun _ h=>h.perm d9
end Go.LN
namespace Go.LN
def clrL {α:Type} (l:List α) (i:Int) (z:α):Option (List α):=if 0<=i/\i<=(l.length:Int) then some (l.take i.toNat++List.replicate (l.length - i.toNat) z) else none
theorem zMl {zc:List Value} (hz:0<zc.length) (n:Nat):(Builtin.zeroCells ⟨zc⟩ (n+1)).toList=zc++(Builtin.zeroCells ⟨zc⟩ n).toList:=by
  have e:∀ k,(Builtin.zeroCells ⟨zc⟩ k).toList=(List.range (k*zc.length)).map fun i=>zc[i % zc.length]!:=fun k=>by
    unfold Builtin.zeroCells;simp [List.size_toArray]
  rw [e,e];refine fu (by simp [eq]; omega) fun i h1 h2=>?_;rw [List.getElem_map,hY];by_cases hi:i<zc.length
  · rw [List.getElem_append_left hi,Nat.mod_eq_of_lt hi,getElem!_pos zc i hi]
  · rw [List.getElem_append_right (by omega),List.getElem_map,hY,Nat.mod_eq_sub_mod (by omega)]
theorem zK3 {α:Type} [Rp α] {imm:Imm}{zc:List Value}{z:α} (h:Rp.rep imm zc z):∀ n,RL imm (Builtin.zeroCells ⟨zc⟩ n).toList (List.replicate n z)
  | 0=>by
    have:(Builtin.zeroCells ⟨zc⟩ 0).toList=[]:=by unfold Builtin.zeroCells; simp
    rw [this]; exact RepL.nil
  | n+1=>by
    have hl:zc.length=Rp.sz α:=Rp.len h
    have hp:=Rp.pos (α:=α)
    rw [zMl (by omega),List.replicate_succ]
    exact RepL.append (RepL.single hl h) (zK3 h n)
section
variable {P:Program}{n:Nat}{B:Base}{af:List Oper}{Q:Exit->Act->World->Prop}{pc:Nat}{imm:Imm}{hs:List HA}{m:FM}{d:Nat}
def clrT (P:Program) (t:TypeId):Option (Nat×Array Value):=match P.underlying t with
  | some (.slice e)=>match sizeT P e,zeroC P e with
    | some s,some z=>some (s,z)
    | _,_=>none
  | _=>none
theorem zQS {o:Oper} (ho:af[pc]?=some o) (hg:guardB af m o.guard=some true) (hd:o.dst=none)
    (h:∀ a w,Fr n a m->Good B imm hs w->∃ v w' ar ah,(execOp a.eval o).run P w=.ok (.value v) w'/\Good B ar ah w'/\R P n B af Q (pc+1) ar ah m):R P n B af Q pc imm hs m :=
  zH6 ho hg fun a w f g=>by
    obtain ⟨v,w',ar,ah,h1,h2,h3⟩:=h a w f g
    unfold Oper.wp
    rw [h1]
    simp only [Oper.upon,hd]
    exact h3 _ w' f h2
theorem zQT {α:Type} [Rp α] {t:TypeId}{x:Operand}{lo:Option Operand}{ty ty2:TypeId}{pos pos2:String}{after after2:Array Edge}{v:Value}{i:Int}{cs:List Value}{l y:List α} (z:α) (zc:List Value) (j:Nat)
    (ho:af[pc]?=some ⟨some d,.slice t x lo none none,ty,pos,after,none⟩) (ho2:af[pc+1]?=some ⟨none,.call { callee:=.builtin .clear,args:=#[.tmp d],argTypes:=#[t] },ty2,pos2,after2,none⟩)
    (hj:hs[j]?=some (.osl v (Rp.sz α) cs)) (hlo:bnd m 0 lo=some i) (hr:RL imm cs l) (hy:clrL l i z=some y) (hzr:Rp.rep imm zc z)
    (next:∀ cs' v',RL imm cs' y->y.length=l.length->R P n B af Q (pc+2) imm (hs.set j (.osl v (Rp.sz α) cs')) ((d,v')::m))
    (hn:Nat.blt d n=true:=by kernel_rfl) (hx:val m x=some v:=by kernel_rfl) (ht:clrT P t=some (Rp.sz α,⟨zc⟩):=by kernel_rfl):R P n B af Q pc imm hs m:=by
  unfold clrL at hy
  split at hy
  · rename_i hb
    cases hy
    have aU:=hr.length
    have hzp:=Rp.pos (α:=α)
    have hzl:zc.length=Rp.sz α:=Rp.len hzr
    have ca:=Rp.one hzr
    obtain ⟨e,hu,hse,hz⟩:∃ e,P.underlying t=some (.slice e)/\sizeT P e=some (Rp.sz α)/\zeroC P e=some ⟨zc⟩:=by
      unfold clrT at ht
      split at ht
      · rename_i e hq
        split at ht
        · rename_i s zz h1 h2
          injection ht with ht
          injection ht with h3 h4
          subst h3; subst h4
          exact ⟨e,hq,h1,h2⟩
        · cases ht
      · cases ht
    obtain ⟨zv,hzv,hzc⟩:∃ zv,(∀ w,(zeroValue e).run P w=.ok zv w)/\zv.cells=⟨zc⟩:=by
      have hz':=hz
      unfold zeroC at hz'
      cases hi:P.info? e with
      | none=>rw [hi] at hz'; cases hz'
      | some q =>
        rw [hi] at hz'
        simp only [Option.bind_some] at hz'
        cases hq:q.zero with
        | none=>rw [hq] at hz'; cases hz'
        | some zv =>
          rw [hq] at hz'
          simp only [Option.map_some,Option.some.injEq] at hz'
          exact ⟨zv,fun w=>by simp [zeroValue,typeInfo,hi,hq],hz'⟩
    have hzr2:=zK3 hzr (l.length - i.toNat)
    have hrt:=(hr.take i.toNat).append hzr2
    refine mT ho rfl rfl hn fun a w f gd=>?_
    have step:∀ (ad:Option Addr) (cap:Nat),v=.slice ad l.length cap->l.length<=cap ->
        ∃ v' w' ar ah,(execOp a.eval ⟨some d,.slice t x lo none none,ty,pos,after,none⟩).run P w=.ok (.value v') w'/\Good B ar ah w'/\R P n B af Q (pc+1) ar ah ((d,v')::m):=by
      intro ad cap hv hlc
      subst hv
      have hbd:=dO (P:=P) (w:=w) (hi:=none) (k:=(l.length:Int)) f hlo rfl hb.1 hb.2 (Int.le_refl _) hlc
      refine ⟨.slice (if cap=i.toNat then ad else ad.map (·.add (i.toNat*Rp.sz α))) (l.length - i.toNat) (cap - i.toNat),w,imm,hs,?_,gd,?_⟩
      · rw [gq,Option.map_none] at hbd
        simp only [execOp,f.eval hx,Option.map_none,Instr.sliceAt,Instr.slice,Sem.run_bind,xB hu,Result.andThen_ok,hbd,qY hse,Sem.run_pure]
      · refine zQS ho2 rfl rfl fun a2 w2 f2 gd2=>?_
        have hv2:a2.eval (.tmp d)=.slice (if cap=i.toNat then ad else ad.map (·.add (i.toNat*Rp.sz α))) (l.length - i.toNat) (cap - i.toNat):=f2.eval (by simp [val,look])
        by_cases h0:l.length - i.toNat=0
        · have hil:i.toNat=l.length:=by omega
          have bU:(cs.take (i.toNat*Rp.sz α))++(Builtin.zeroCells ⟨zc⟩ (l.length - i.toNat)).toList=cs:=by
            rw [h0,hil,<- aU]
            have:(Builtin.zeroCells ⟨zc⟩ 0).toList=[]:=by unfold Builtin.zeroCells; simp
            rw [this]; simp
          rw [bU] at hrt
          have hN:=next cs (.slice (if cap=i.toNat then ad else ad.map (·.add (i.toNat*Rp.sz α))) (l.length - i.toNat) (cap - i.toNat)) hrt (by simp; omega)
          have hjl:=(ck.1 hj)
          rw [show hs.set j (.osl (.slice ad l.length cap) (Rp.sz α) cs)=hs from by
            obtain ⟨h1,h2⟩:=hjl
            rw [<- h2]; exact gv h1] at hN
          refine ⟨.tuple #[],w2,imm,hs,?_,gd2,hN⟩
          simp only [execOp,resolve,List.map_toArray,cJ,fa,hv2,Sem.run_bind,Sem.run_pure,Result.andThen_ok,invoke,builtin,Builtin.clear_,ep,ex,xB hu,h0]
          generalize (if cap=i.toNat then ad else Option.map (fun x=>x.add (i.toNat*Rp.sz α)) ad)=q
          cases q <;> simp
        · have hic:cap ≠ i.toNat:=by omega
          rcases gd2.own _ (tV hj) with ⟨e1,_⟩ | ⟨b,off,len,cap2,all,ty',e1,hp1,hp2,hw,hcap,hlc2,cd,bU,hcM⟩
          · injection e1 with e1 e2 e3
            omega
          · injection e1 with e1 e2 e3
            subst e1; subst e2; subst e3
            have hmul:∀ {p q:Nat},p<=q->p*Rp.sz α<=q*Rp.sz α:=fun h=>db _ h
            have m1:=hmul (show i.toNat<=l.length by omega)
            have m2:=hmul hlc2
            have hzl2:(Builtin.zeroCells ⟨zc⟩ (l.length - i.toNat)).toList.length=l.length*Rp.sz α - i.toNat*Rp.sz α:=by
              rw [ey,zDC]
              show (l.length - i.toNat)*zc.length=_
              rw [hzl,gy]
            have hone2:=RepL.one (fun c a h=>Rp.one h) hzr2
            have hblt:b<w2.heap.size:=((gd2.own _ (tV hj)).lt (by simp [HA.fp])).1
            have hst:=dY (P:=P) (off:=off+i.toNat*Rp.sz α) (Builtin.zeroCells ⟨zc⟩ (l.length - i.toNat)).toList 0 all w2 hw hone2 (by rw [hzl2]; omega)
            have hcd:cs.drop (i.toNat*Rp.sz α+(Builtin.zeroCells ⟨zc⟩ (l.length - i.toNat)).toList.length)=[]:=dc.2 (by rw [hzl2]; omega)
            have hN:=next _ (.slice (if cap=i.toNat then some ⟨b,off,none⟩ else (some (⟨b,off,none⟩:Addr)).map (·.add (i.toNat*Rp.sz α))) (l.length - i.toNat) (cap - i.toNat)) hrt (by simp; omega)
            refine ⟨.tuple #[],setBlk w2 b (.cells (wr all (off+i.toNat*Rp.sz α+0) (Builtin.zeroCells ⟨zc⟩ (l.length - i.toNat)).toList) ty' (0,0)),imm,_,?_,?_,hN⟩
            · obtain ⟨q,hq⟩:∃ q,l.length - i.toNat=q+1:=⟨l.length - i.toNat - 1,by omega⟩
              rw [hq] at hv2 hst ⊢
              simp only [execOp,resolve,List.map_toArray,cJ,fa,hv2,if_neg hic,Option.map_some,kS,Sem.run_bind,Sem.run_pure,Result.andThen_ok,invoke,builtin,Builtin.clear_,ep,ex,xB hu,hzv,hzc,hst]
            · refine gd2.write_at hj (by simp [HA.fp]) (by simp [HA.fp]) _ (.inr ⟨b,off,l.length,cap,_,ty',rfl,hp1,hp2,fR hblt,by rw [zJ3]; exact hcap,hlc2,?_,?_,hcM⟩)
              · rw [cM,cv,hzl2]; omega
              · rw [zFv _ _ _ (by rw [hzl2]; omega),<- bU]
                have:=zGk all.toList (Builtin.zeroCells ⟨zc⟩ (l.length - i.toNat)).toList off (l.length*Rp.sz α) (i.toNat*Rp.sz α) (by rw [hzl2]; omega) (by simp; omega)
                rw [bU,hcd,cy] at this
                rw [Nat.add_zero,this,bU]
    rcases gd.own _ (tV hj) with ⟨rfl,rfl⟩ | ⟨b,off,len,cap,all,ty',rfl,hp1,hp2,hw,hcap,hlc,cd,bU,hcM⟩
    · have hl0:l.length=0:=by
        have:l.length*Rp.sz α=0:=by rw [<- aU]; rfl
        rcases hU.1 this with h | h <;> omega
      exact step none 0 (by rw [hl0]) (by omega)
    · have hll:len=l.length:=oY hzp (by omega)
      subst hll
      exact step _ cap rfl hlc
  · cases hy
end
end Go.LN
