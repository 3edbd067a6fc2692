/- Helper of the proof (see the last text). -/
import Derived.Test.YtcmjkmdecmabaaaGreatLnI
import Derived.Laws.BitsLemmas
import Derived.Sort.Grow
import Derived.Lib.LaidTab
import Derived.Lib.ItoaNum
import Derived.Lib.ItoaMem
import Derived.Sort.Row
import Derived.Lib.AtoiErrMem
import Derived.Lib.AtoiTie
import Derived.Lib.SplitLaws
import Derived.Lib.AtoiAll
import Derived.Shelf.SlicesE.Delete
import Derived.Laws.StructEq
import Derived.Shelf.SlSortCmp.NoneTotal
set_option linter.unusedVariables false
set_option linter.unusedSimpArgs false
namespace Go.LN
def mkrow {α:Type} (bytes:Nat) (k:Int) (z:α):Option (List α):=if 0<=k/\k.toNat*bytes<=140737488355328 then some (List.replicate k.toNat z) else none
def zrow (z:Array Value) (k:Nat):List Value:=(List.range k).map fun i=>z[i % z.size]!
theorem zNT (z:Array Value) (k:Nat) (h:0<z.size):(List.range z.size).map (fun i=>z[(k*z.size+i) % z.size]!)=z.toList:=by
  refine fq (by simp) fun i h1 h2=>?_;have hi:i<z.size:=by simpa using h1
  simp only [List.getElem_map,gv,Array.getElem_toList];have e:(k*z.size+i) % z.size=i:=by rw [Nat.add_comm,Nat.mul_comm,Nat.add_mul_mod_self_left,Nat.mod_eq_of_lt hi]
  rw [e];exact getElem!_pos z i hi
theorem zKV {α:Type}{ρ:List Value->α->Prop}{z:Array Value}{a:α} (hz:0<z.size) (h:ρ z.toList a):∀ k,RepL ρ z.size (zrow z (k*z.size)) (List.replicate k a)
  | 0=>by simp [zrow,RepL]
  | k+1=>by
    have e:zrow z ((k+1)*z.size)=zrow z (k*z.size)++z.toList:=by
      unfold zrow
      rw [em,List.range_add,dr,List.map_map]
      congr 1
      exact zNT z k hz
    rw [e,List.replicate_succ']
    exact (zKV hz h k).append (.single (by simp) h)
section
variable {P:Program}{n:Nat}{B:Base}{Q:Exit->Act->World->Prop}{imm:Imm}{hs:List HA}{m:FM}{ae:List Oper}{pc d:Nat}{ty:TypeId}{pos:String}{after:Array Edge}{g:Option (Nat×Bool)}
def mkT (P:Program) (t:TypeId):Option (Nat×Nat×List Value) :=
  match elemOfT P t with
  | some e=>match sizeT P e,bytesT P e,zeroC P e with
    | some s,some b,some z=>bif Nat.beq z.size s&&Nat.blt 0 b then some (s,b,z.toList) else none
    | _,_,_=>none
  | none=>none
theorem zPZ {α:Type} [Rp α] {t:TypeId}{x y:Operand}{k:Int}{a:α}{l:List α} (by':Nat) (z:List Value) (ho:ae[pc]?=some ⟨some d,.makeSlice t x y,ty,pos,after,g⟩) (hk:mkrow by' k a=some l) (hr:Rp.rep imm z a)
    (next:∀ b cs,RL imm cs l->R P n B ae Q (pc+1) imm (.osl (.slice (some ⟨b,0,none⟩) l.length l.length) (Rp.sz α) cs::hs) ((d,.slice (some ⟨b,0,none⟩) l.length l.length)::m))
    (hg:guardB ae m g=some true:=by kernel_rfl) (hn:Nat.blt d n=true:=by kernel_rfl) (hx:val m x=some (.int .i64 k):=by kernel_rfl) (hy:val m y=some (.int .i64 k):=by kernel_rfl) (ht:mkT P t=some (Rp.sz α,by',z):=by kernel_rfl) :
    R P n B ae Q pc imm hs m:=by
  refine mS ho hg rfl hn fun ac w f gd=>?_
  unfold mkrow at hk
  split at hk
  · rename_i hk0
    cases hk
    obtain ⟨hk0,hkb⟩:=hk0
    unfold mkT at ht
    cases he:elemOfT P t with
    | none=>rw [he] at ht; cases ht
    | some e =>
      rw [he] at ht
      simp only at ht
      split at ht
      · rename_i s b zc h1 h2 h3
        cases hq:Nat.beq zc.size s&&Nat.blt 0 b with
        | false=>rw [hq] at ht; cases ht
        | true =>
          rw [hq] at ht
          simp only [cond_true,Option.some.injEq,Prod.mk.injEq] at ht
          obtain ⟨rfl,rfl,rfl⟩:=ht
          rw [cQ] at hq
          have hzs:=cS hq.1
          have hb0:0<b:=by simpa using hq.2
          have hu:P.underlying t=some (.slice e):=by
            unfold elemOfT at he
            split at he <;> simp_all
          cases hie:P.info? e with
          | none=>simp [sizeT,hie] at h1
          | some ie =>
          have hsz':ie.size=Rp.sz α:=by simpa [sizeT,hie] using h1
          have hby':ie.bytes=b:=by simpa [bytesT,hie] using h2
          obtain ⟨zv,hz1,hz2⟩:=zAR (w:=w) h3
          have hpos:0<zc.size:=by rw [hzs]; exact Rp.pos
          have hkk:(k.toNat:Int)=k:=Int.toNat_of_nonneg hk0
          have bN:k.toNat<=k.toNat*b:=Nat.le_mul_of_pos_right _ hb0
          have hwr:IntKind.i64.wrap k=k:=by rw [IntKind.wrap_i64]; omega
          have hmul:((ie.bytes:Int)*k)<=140737488355328:=by
            rw [<- hkk,hby',<- Int.natCast_mul,Nat.mul_comm]
            exact Int.ofNat_le.2 hkb
          have hnt:¬(k<0):=by omega
          have hnb:¬((ie.bytes:Int)*k>2 ^ 48):=by omega
          let row:Array Value:=if k.toNat*Rp.sz α=0 then #[] else (Array.range (k.toNat*Rp.sz α)).map (fun i=>zc[i % zc.size]!)
          have hrow:(((Array.range (k.toNat*ie.size)).map fun i=>(if k.toNat*ie.size=0 then #[] else zc)[i % (if k.toNat*ie.size=0 then (#[]:Array Value) else zc).size]!))=⟨zrow zc (k.toNat*zc.size)⟩:=by
            rw [hsz',<- hzs]
            apply Array.ext'
            by_cases h0:k.toNat*zc.size=0
            · simp [h0,zrow]
            · simp [h0,zrow]
          have aV:(zrow zc (k.toNat*zc.size)).length=k.toNat*Rp.sz α:=by simp [zrow,hzs]
          have hg:=gd.alloc_osl ⟨zrow zc (k.toNat*zc.size)⟩ e (Rp.sz α) k.toNat k.toNat (zrow zc (k.toNat*zc.size)) (by show _<=(zrow _ _).length; rw [aV]; exact cP _) (cP _) (by rw [<- aV]; exact fl) aV (by omega)
          have hll:(List.replicate k.toNat a).length=k.toNat:=ey
          rw [hll] at next
          refine ⟨_,_,imm,_,?_,hg,next w.heap.size _ ?_⟩
          · simp only [execOp,f.eval hx,f.eval hy,Instr.makeSlice,Sem.run_bind,yY hu,Result.andThen_ok,asInt,asIntOf,Sem.run_pure,typeInfo,run_program,hie,hwr,hnt,hnb,decide_false,ex,cJ,false_or,or_self,if_false,Int.lt_irrefl,
              gt_iff_lt,run_askRoom,qX h1]
            by_cases h0:k.toNat*Rp.sz α=0
            · have:=hrow
              rw [hsz'] at this
              simp only [h0,if_true] at this ⊢
              simp only [Sem.run_pure,Result.andThen_ok,newRow,run_newObj,Sem.run_bind,this]
            · have:=hrow
              rw [hsz'] at this
              simp only [h0,if_false] at this ⊢
              simp only [Sem.run_bind,hz1,hz2,Sem.run_pure,Result.andThen_ok,newRow,run_newObj,this]
          · have:=zKV (z:=zc) (a:=a) hpos hr k.toNat
            rw [hzs] at this
            show RepL _ _ _ _
            rw [hzs]
            exact this
      · cases ht
  · cases hk
theorem zLx {f:FuncId}{first cap:List Value}{x:Operand}{xs:Array Operand}{ts:Array TypeId}{vs:List Value}{hs1 rest:List HA}{post:Nat->Imm->List HA->Value->Prop}
    (ho:ae[pc]?=some ⟨some d,.call { callee:=.value x,args:=xs,argTypes:=ts },ty,pos,after,g⟩) (hx:val m x=some (.func (.func f) ⟨first⟩ ⟨cap⟩)) (hf:callable P f=true)
    (hvs:vals m xs.toList=some vs) (hh:hs=hs1++rest) (hc:Ret P f (first++vs++cap) imm hs1 post)
    (next:∀ aq ah v k,imm.le aq->B.w0.heap.size<=k->post k aq ah v->(∀ b∈ah.flatMap HA.fp,b∈hs1.flatMap HA.fp∨B.w0.heap.size<=b)->R P n B ae Q (pc+1) aq (ah++rest) ((d,v)::m)) (hg:guardB ae m g=some true:=by kernel_rfl) (hn:Nat.blt d n=true:=by kernel_rfl):R P n B ae Q pc imm hs m :=
  zH3 ho hg fun a w fr gd=>by
    subst hh
    have hargs:xs.map a.eval=vs.toArray:=by apply Array.ext'; rw [dy,fr.evals hvs]
    have hall:(⟨first⟩:Array Value)++vs.toArray++⟨cap⟩=(first++vs++cap).toArray:=by apply Array.ext'; simp
    have bZ:=gd.nodup
    rw [d9] at bZ
    have hg1:=gd.enter (hs1:=hs1) (fun A hA=>dn _ hA) (cE.1 bZ).1
    unfold Oper.wp
    simp only [execOp,resolve,Deferred.ofValue,fr.eval hx,hargs,Sem.run_bind,Sem.run_pure,Result.andThen_ok,invoke,hall,zEq hf,Oper.upon]
    refine (hc w hg1).mono fun e w' he=>?_
    cases e with
    | returned v =>
      obtain ⟨aq,ah,hp,hgood⟩:=he
      obtain ⟨g2,bN,hfp⟩:=gd.leave hgood
      exact next aq ah v w.heap.size bN gd.frm.size hp hfp _ w' (fr.put d v (by simpa using hn)) g2
    | panicked c=>exact he.elim
    | outgrown=>exact he.elim
end
class Vr (α:Type) where
  rep:Imm->Value->α->Prop
  mono:∀ {i j:Imm}{v:Value}{a:α},i.le j->rep i v a->rep j v a
instance:Vr Int:=⟨fun _ v a=>v=.int .i64 a,fun _ h=>h⟩
instance:Vr Bool:=⟨fun _ v a=>v=.bool a,fun _ h=>h⟩
instance:Vr Str:=⟨fun _ v a=>v=.string ⟨⟨a.l⟩⟩,fun _ h=>h⟩
instance {α:Type} [Rp α]:Vr (List α):=⟨fun i v a=>SL i v a,fun hl h=>h.mono hl⟩
def FV1 {α β:Type} [Vr α] [Vr β] (P:Program) (imm:Imm) (bj:List HA) (v:Value) (φ:α->Option β):Prop :=
  ∃ f first cap,v=.func (.func f) ⟨first⟩ ⟨cap⟩/\callable P f=true/\∀ aq,imm.le aq->∀ a r va,φ a=some r->Vr.rep aq va a->Ret P f (first++[va]++cap) aq bj fun _ i ah u=>ah=bj/\Vr.rep i u r
theorem FV1.mono {α β:Type} [Vr α] [Vr β] {P:Program}{i j:Imm}{bj:List HA}{v:Value}{φ:α->Option β} (hl:i.le j) (h:FV1 P i bj v φ):FV1 P j bj v φ:=by
  obtain ⟨f,first,cap,h1,h2,h3⟩:=h;exact ⟨f,first,cap,h1,h2,fun aq h'=>h3 aq (hl.trans h')⟩
theorem FV1.intro {α β:Type} [Vr α] [Vr β] {P:Program}{imm:Imm}{bj:List HA}{f:FuncId}{first cap:List Value}{φ:α->Option β} (h:∀ aq,imm.le aq->∀ a r va,φ a=some r->Vr.rep aq va a->Ret P f (first++[va]++cap) aq bj fun _ i ah u=>ah=bj/\Vr.rep i u r)
    (hc:callable P f=true:=by kernel_rfl):FV1 P imm bj (.func (.func f) ⟨first⟩ ⟨cap⟩) φ:=⟨f,first,cap,rfl,hc,h⟩
def FV2 {α β γ:Type} [Vr α] [Vr β] [Vr γ] (P:Program) (imm:Imm) (bj:List HA) (v:Value) (φ:α->β->Option γ):Prop :=
  ∃ f first cap,v=.func (.func f) ⟨first⟩ ⟨cap⟩/\callable P f=true/\∀ aq,imm.le aq->∀ a b r va vb,φ a b=some r->Vr.rep aq va a->Vr.rep aq vb b->Ret P f (first++[va,vb]++cap) aq bj fun _ i ah u=>ah=bj/\Vr.rep i u r
theorem FV2.mono {α β γ:Type} [Vr α] [Vr β] [Vr γ] {P:Program}{i j:Imm}{bj:List HA}{v:Value}{φ:α->β->Option γ} (hl:i.le j) (h:FV2 P i bj v φ):FV2 P j bj v φ:=by
  obtain ⟨f,first,cap,h1,h2,h3⟩:=h;exact ⟨f,first,cap,h1,h2,fun aq h'=>h3 aq (hl.trans h')⟩
theorem FV2.intro {α β γ:Type} [Vr α] [Vr β] [Vr γ] {P:Program}{imm:Imm}{bj:List HA}{f:FuncId}{first cap:List Value}{φ:α->β->Option γ} (h:∀ aq,imm.le aq->∀ a b r va vb,φ a b=some r->Vr.rep aq va a->Vr.rep aq vb b->Ret P f (first++[va,vb]++cap) aq bj fun _ i ah u=>ah=bj/\Vr.rep i u r)
    (hc:callable P f=true:=by kernel_rfl):FV2 P imm bj (.func (.func f) ⟨first⟩ ⟨cap⟩) φ:=⟨f,first,cap,rfl,hc,h⟩
section
variable {P:Program}{n:Nat}{B:Base}{Q:Exit->Act->World->Prop}{imm:Imm}{hs:List HA}{m:FM}{ae:List Oper}{pc d:Nat}{ty:TypeId}{pos:String}{after:Array Edge}{g:Option (Nat×Bool)}
theorem zKW {α β:Type} [Vr α] [Vr β] {x y:Operand}{ts:Array TypeId}{v va:Value}{a:α}{r:β}{φ:α->Option β}{bj rest:List HA}
    (ho:ae[pc]?=some ⟨some d,.call { callee:=.value x,args:=#[y],argTypes:=ts },ty,pos,after,g⟩) (hy:val m y=some va) (hF:FV1 P imm bj v φ) (hr:φ a=some r) (ha:Vr.rep imm va a) (hh:hs=bj++rest)
    (next:∀ aq u,imm.le aq->Vr.rep aq u r->R P n B ae Q (pc+1) aq (bj++rest) ((d,u)::m)) (hx:val m x=some v:=by kernel_rfl) (hg:guardB ae m g=some true:=by kernel_rfl) (hn:Nat.blt d n=true:=by kernel_rfl):R P n B ae Q pc imm hs m:=by
  obtain ⟨f,first,cap,rfl,hf,hc⟩:=hF
  refine zLx ho hx hf (vs:=[va]) (by simp [vals,hy]) hh (hc imm (Imm.le.refl _) a r va hr ha) ?_ hg hn
  rintro aq ah u k hl hk ⟨rfl,h⟩ -
  exact next aq u hl h
end
end Go.LN
namespace Go.LN
theorem Good.grow {B:Base}{imm:Imm}{hs:List HA}{w:World} (h:Good B imm hs w) (k:Nat) (os:Array Obj):Good B imm hs (Sort.grow (w.drewN k) os):=by
  have h:=h.drewN k;generalize w.drewN k=w at h;have old:∀ b,b<w.heap.size->(Sort.grow w os).heap[b]?=w.heap[b]?:=fun b hb=>by
    show (w.heap++os)[b]?=_;rw [gz hb]
  refine ⟨fun b c e=>?_,fun A hA=>(h.own A hA).same (fun _ _ p=>p) (fun _ _=>rfl) (fun b hb=>old b ((h.own A hA).lt hb).1),h.nodup,⟨h.frm.os,h.frm.tape,h.frm.output,?_,fun b hb hio=>?_,h.frm.imm,h.frm.drawn⟩⟩
  · obtain ⟨ty,fr,e'⟩:=h.inv b c e;exact ⟨ty,fr,(old b (h.lt_imm e)).trans e'⟩
  · show _<=(w.heap++os).size;rw [Array.size_append];exact cW h.frm.size (gm _ _)
  · exact (old b (f8 hb h.frm.size)).trans (h.frm.heap b hb hio)
def GT (P:Program) (imm:Imm):Prop:=∃ g,P.globalNamed "internal/strconv.uint64pow10"=some g∧imm g=some (Lib.pow10Tab.map fun z=>Value.int .u64 z).toArray
def GM (P:Program) (imm:Imm):Prop:=∃ g,P.globalNamed "internal/bytealg.MaxLen"=some g∧∃ m,imm g=some #[.int .i64 m]
def GE (P:Program) (imm:Imm) (nm:String):Prop:=∃ g,P.globalNamed nm=some g/\∃ t p,imm g=some #[.iface t p]
def GH (P:Program) (imm:Imm):Prop:=GT P imm∧GM P imm∧GE P imm "strconv.ErrSyntax"∧GE P imm "strconv.ErrRange"
theorem GH.mono {P:Program}{i j:Imm} (hl:i.le j) (h:GH P i):GH P j:=by
  obtain ⟨⟨g,h1,h2⟩,⟨g3,h3,m,h4⟩,⟨g5,h5,t,p,h6⟩,⟨g7,h7,u,q,h8⟩⟩:=h;exact ⟨⟨g,h1,hl _ _ h2⟩,⟨g3,h3,m,hl _ _ h4⟩,⟨g5,h5,t,p,hl _ _ h6⟩,⟨g7,h7,u,q,hl _ _ h8⟩⟩
theorem GH.es {P:Program}{imm:Imm} (h:GH P imm):GE P imm "strconv.ErrSyntax":=h.2.2.1
end Go.LN
namespace Go.LN
theorem zCL {k : IntKind} {n : Int} : (Value.int k n).oneCell' = true := rfl
theorem zHR {s : ByteArray} : (Value.string s).oneCell' = true := rfl
theorem SL.one {α : Type} [Rp α] {i : Imm} {v : Value} {l : List α} (h : SL i v l) : v.oneCell' = true := by
  obtain ⟨aQ, hs, _⟩ := h
  rcases hs with ⟨rfl, _⟩ | ⟨b, off, len, cap, c, rfl, _⟩ <;> rfl
structure zF where
  Name : Str
  Dims : List Int
instance : Rp zF where
  sz := 2
  pos := by decide
  rep i cs s := ∃ v0 : Value, cs = [.string ⟨⟨s.Name.l⟩⟩, v0] /\ SL i v0 s.Dims
  len h := by obtain ⟨v0, rfl, h0⟩ := h; rfl
  mono hm h := by obtain ⟨v0, e, h0⟩ := h; exact ⟨v0, e, h0.mono hm⟩
  one h := by obtain ⟨v0, rfl, h0⟩ := h; simp [zHR, h0.one]
theorem zCc {i : Imm} {cs : List Value} {s : zF} (h : Rp.rep i cs s) : ∃ v0 : Value, cs = [.string ⟨⟨s.Name.l⟩⟩, v0] /\ SL i v0 s.Dims := h
theorem qU {i : Imm} {cs : List Value} {s : zF} (h : ∃ v0 : Value, cs = [.string ⟨⟨s.Name.l⟩⟩, v0] /\ SL i v0 s.Dims) : Rp.rep i cs s := h
theorem wU {i : Imm} {cs : List Value} {s : zF} (h : Rp.rep i cs s) : ∃ (p0 : Option Addr) (c0 : Nat), cs = [.string ⟨⟨s.Name.l⟩⟩, vS p0 s.Dims c0] /\ SL i (vS p0 s.Dims c0) s.Dims := by
  obtain ⟨v0, e, h0⟩ := zCc h
  obtain ⟨p0, c0, rfl⟩ := h0.form
  exact ⟨p0, c0, e, h0⟩
instance : Vr zF := ⟨fun i v a => ∃ cs, v = .agg ⟨cs⟩ /\ Rp.rep i cs a, fun hl ⟨cs, e, h⟩ => ⟨cs, e, Rp.mono hl h⟩⟩
structure zA where
  Coefs : List Int
  Const : Int
instance : Rp zA where
  sz := 2
  pos := by decide
  rep i cs s := ∃ v0 : Value, cs = [v0, .int .i64 s.Const] /\ SL i v0 s.Coefs
  len h := by obtain ⟨v0, rfl, h0⟩ := h; rfl
  mono hm h := by obtain ⟨v0, e, h0⟩ := h; exact ⟨v0, e, h0.mono hm⟩
  one h := by obtain ⟨v0, rfl, h0⟩ := h; simp [zCL, h0.one]
theorem zGA {i : Imm} {cs : List Value} {s : zA} (h : Rp.rep i cs s) : ∃ v0 : Value, cs = [v0, .int .i64 s.Const] /\ SL i v0 s.Coefs := h
theorem yO {i : Imm} {cs : List Value} {s : zA} (h : ∃ v0 : Value, cs = [v0, .int .i64 s.Const] /\ SL i v0 s.Coefs) : Rp.rep i cs s := h
theorem yQ {i : Imm} {cs : List Value} {s : zA} (h : Rp.rep i cs s) : ∃ (p0 : Option Addr) (c0 : Nat), cs = [vS p0 s.Coefs c0, .int .i64 s.Const] /\ SL i (vS p0 s.Coefs c0) s.Coefs := by
  obtain ⟨v0, e, h0⟩ := zGA h
  obtain ⟨p0, c0, rfl⟩ := h0.form
  exact ⟨p0, c0, e, h0⟩
instance : Vr zA := ⟨fun i v a => ∃ cs, v = .agg ⟨cs⟩ /\ Rp.rep i cs a, fun hl ⟨cs, e, h⟩ => ⟨cs, e, Rp.mono hl h⟩⟩
structure zE where
  Lo : List zA
  Hi : List zA
instance : Rp zE where
  sz := 2
  pos := by decide
  rep i cs s := ∃ v0 v1 : Value, cs = [v0, v1] /\ SL i v0 s.Lo /\ SL i v1 s.Hi
  len h := by obtain ⟨v0, v1, rfl, h0, h1⟩ := h; rfl
  mono hm h := by obtain ⟨v0, v1, e, h0, h1⟩ := h; exact ⟨v0, v1, e, h0.mono hm, h1.mono hm⟩
  one h := by obtain ⟨v0, v1, rfl, h0, h1⟩ := h; simp [h0.one, h1.one]
theorem zCw {i : Imm} {cs : List Value} {s : zE} (h : Rp.rep i cs s) : ∃ v0 v1 : Value, cs = [v0, v1] /\ SL i v0 s.Lo /\ SL i v1 s.Hi := h
theorem qM {i : Imm} {cs : List Value} {s : zE} (h : ∃ v0 v1 : Value, cs = [v0, v1] /\ SL i v0 s.Lo /\ SL i v1 s.Hi) : Rp.rep i cs s := h
theorem sR {i : Imm} {cs : List Value} {s : zE} (h : Rp.rep i cs s) : ∃ (p0 : Option Addr) (c0 : Nat) (p1 : Option Addr) (c1 : Nat), cs = [vS p0 s.Lo c0, vS p1 s.Hi c1] /\ SL i (vS p0 s.Lo c0) s.Lo /\ SL i (vS p1 s.Hi c1) s.Hi := by
  obtain ⟨v0, v1, e, h0, h1⟩ := zCw h
  obtain ⟨p0, c0, rfl⟩ := h0.form
  obtain ⟨p1, c1, rfl⟩ := h1.form
  exact ⟨p0, c0, p1, c1, e, h0, h1⟩
instance : Vr zE := ⟨fun i v a => ∃ cs, v = .agg ⟨cs⟩ /\ Rp.rep i cs a, fun hl ⟨cs, e, h⟩ => ⟨cs, e, Rp.mono hl h⟩⟩
structure zL where
  Array : Str
  Subs : List zA
instance : Rp zL where
  sz := 2
  pos := by decide
  rep i cs s := ∃ v0 : Value, cs = [.string ⟨⟨s.Array.l⟩⟩, v0] /\ SL i v0 s.Subs
  len h := by obtain ⟨v0, rfl, h0⟩ := h; rfl
  mono hm h := by obtain ⟨v0, e, h0⟩ := h; exact ⟨v0, e, h0.mono hm⟩
  one h := by obtain ⟨v0, rfl, h0⟩ := h; simp [zHR, h0.one]
theorem zGB {i : Imm} {cs : List Value} {s : zL} (h : Rp.rep i cs s) : ∃ v0 : Value, cs = [.string ⟨⟨s.Array.l⟩⟩, v0] /\ SL i v0 s.Subs := h
theorem mY {i : Imm} {cs : List Value} {s : zL} (h : ∃ v0 : Value, cs = [.string ⟨⟨s.Array.l⟩⟩, v0] /\ SL i v0 s.Subs) : Rp.rep i cs s := h
theorem nY {i : Imm} {cs : List Value} {s : zL} (h : Rp.rep i cs s) : ∃ (p0 : Option Addr) (c0 : Nat), cs = [.string ⟨⟨s.Array.l⟩⟩, vS p0 s.Subs c0] /\ SL i (vS p0 s.Subs c0) s.Subs := by
  obtain ⟨v0, e, h0⟩ := zGB h
  obtain ⟨p0, c0, rfl⟩ := h0.form
  exact ⟨p0, c0, e, h0⟩
instance : Vr zL := ⟨fun i v a => ∃ cs, v = .agg ⟨cs⟩ /\ Rp.rep i cs a, fun hl ⟨cs, e, h⟩ => ⟨cs, e, Rp.mono hl h⟩⟩
inductive zI where
  | mk (Kind : Int) (Num : Int) (Index : zA) (Read : zL) (Kids : List zI)
def zI.Kind : zI -> Int | .mk x _ _ _ _ => x
def zI.Num : zI -> Int | .mk _ x _ _ _ => x
def zI.Index : zI -> zA | .mk _ _ x _ _ => x
def zI.Read : zI -> zL | .mk _ _ _ x _ => x
def zI.Kids : zI -> (List zI) | .mk _ _ _ _ x => x
mutual
def zI.repE (i : Imm) : zI -> List Value -> Prop
  | .mk Kind Num Index Read Kids, cs => ∃ (v0 v1 v2 : Value) (aQ : List Value), cs = [.int .i64 Kind, .int .i64 Num, v0, .int .i64 Index.Const, .string ⟨⟨Read.Array.l⟩⟩, v1, v2] /\ SL i v0 Index.Coefs /\ SL i v1 Read.Subs /\ SliceAt i v2 7 aQ /\ zI.reps i Kids aQ
def zI.reps (i : Imm) : List zI -> List Value -> Prop
  | [], cs => cs = []
  | e :: es, cs => ∃ c1 c2, cs = c1++c2 /\ c1.length = 7 /\ zI.repE i e c1 /\ zI.reps i es c2
end
mutual
theorem zEK {i : Imm} : ∀ {e : zI} {cs : List Value}, zI.repE i e cs -> cs.length = 7
  | .mk .., cs, h => by simp only [zI.repE] at h; obtain ⟨v0, v1, v2, aQ, rfl, _⟩ := h; rfl
end
mutual
theorem zAc {i j : Imm} (hm : i.le j) : ∀ {e : zI} {cs : List Value}, zI.repE i e cs -> zI.repE j e cs
  | .mk .., cs, h => by
    simp only [zI.repE] at h ⊢
    obtain ⟨v0, v1, v2, aQ, e, k0, k1, ha, hb⟩ := h
    exact ⟨v0, v1, v2, aQ, e, k0.mono hm, k1.mono hm, ha.mono hm, zAd hm hb⟩
theorem zAd {i j : Imm} (hm : i.le j) : ∀ {es : List zI} {cs : List Value}, zI.reps i es cs -> zI.reps j es cs
  | [], cs, h => by simpa [zI.reps] using h
  | e :: es, cs, h => by
    simp only [zI.reps] at h ⊢
    obtain ⟨c1, c2, h1, h2, h3, h4⟩ := h
    exact ⟨c1, c2, h1, h2, zAc hm h3, zAd hm h4⟩
end
theorem gL {i : Imm} : ∀ {es : List zI} {cs : List Value}, zI.reps i es cs↔RepL (fun c e => zI.repE i e c) 7 cs es
  | [], cs => by simp [zI.reps, RepL]
  | e :: es, cs => by
    simp only [zI.reps, RepL]
    constructor
    · rintro ⟨c1, c2, h1, h2, h3, h4⟩; exact ⟨c1, c2, h1, h2, h3, gL.1 h4⟩
    · rintro ⟨c1, c2, h1, h2, h3, h4⟩; exact ⟨c1, c2, h1, h2, h3, gL.2 h4⟩
theorem SliceAt.one {i : Imm} {v : Value} {sz : Nat} {cs : List Value} (hs : SliceAt i v sz cs) : v.oneCell' = true := by
  rcases hs with ⟨rfl, _⟩ | ⟨b, off, len, cap, c, rfl, _⟩ <;> rfl
theorem zEL {i : Imm} : ∀ {e : zI} {cs : List Value}, zI.repE i e cs -> ∀ v∈cs, v.oneCell' = true
  | .mk .., cs, h => by
    simp only [zI.repE] at h
    obtain ⟨v0, v1, v2, aQ, rfl, k0, k1, ha, _⟩ := h
    simp [zCL, zHR, k0.one, k1.one, ha.one]
instance : Rp zI where
  sz := 7
  pos := by decide
  rep i cs e := zI.repE i e cs
  len h := zEK h
  mono hm h := zAc hm h
  one h := zEL h
theorem zHd {i : Imm} {cs : List Value} {s : zI} (h : Rp.rep i cs s) : ∃ v0 v1 v2 : Value, cs = [.int .i64 s.Kind, .int .i64 s.Num, v0, .int .i64 s.Index.Const, .string ⟨⟨s.Read.Array.l⟩⟩, v1, v2] /\ SL i v0 s.Index.Coefs /\ SL i v1 s.Read.Subs /\ SL i v2 s.Kids := by
  obtain ⟨Kind, Num, Index, Read, Kids⟩ := s
  have h : zI.repE i _ cs := h
  simp only [zI.repE] at h
  obtain ⟨v0, v1, v2, aQ, e, k0, k1, ha, hb⟩ := h
  exact ⟨v0, v1, v2, e, k0, k1, ⟨aQ, ha, gL.1 hb⟩⟩
theorem wC {i : Imm} {cs : List Value} {s : zI} (h : ∃ v0 v1 v2 : Value, cs = [.int .i64 s.Kind, .int .i64 s.Num, v0, .int .i64 s.Index.Const, .string ⟨⟨s.Read.Array.l⟩⟩, v1, v2] /\ SL i v0 s.Index.Coefs /\ SL i v1 s.Read.Subs /\ SL i v2 s.Kids) : Rp.rep i cs s := by
  obtain ⟨Kind, Num, Index, Read, Kids⟩ := s
  show zI.repE i _ cs
  simp only [zI.repE]
  obtain ⟨v0, v1, v2, e, k0, k1, ⟨aQ, ha, hb⟩⟩ := h
  exact ⟨v0, v1, v2, aQ, e, k0, k1, ha, gL.2 hb⟩
theorem tS {i : Imm} {cs : List Value} {s : zI} (h : Rp.rep i cs s) : ∃ (p0 : Option Addr) (c0 : Nat) (p1 : Option Addr) (c1 : Nat) (p2 : Option Addr) (c2 : Nat), cs = [.int .i64 s.Kind, .int .i64 s.Num, vS p0 s.Index.Coefs c0, .int .i64 s.Index.Const, .string ⟨⟨s.Read.Array.l⟩⟩, vS p1 s.Read.Subs c1, vS p2 s.Kids c2] /\ SL i (vS p0 s.Index.Coefs c0) s.Index.Coefs /\ SL i (vS p1 s.Read.Subs c1) s.Read.Subs /\ SL i (vS p2 s.Kids c2) s.Kids := by
  obtain ⟨v0, v1, v2, e, h0, h1, h2⟩ := zHd h
  obtain ⟨p0, c0, rfl⟩ := h0.form
  obtain ⟨p1, c1, rfl⟩ := h1.form
  obtain ⟨p2, c2, rfl⟩ := h2.form
  exact ⟨p0, c0, p1, c1, p2, c2, e, h0, h1, h2⟩
instance : Vr zI := ⟨fun i v a => ∃ cs, v = .agg ⟨cs⟩ /\ Rp.rep i cs a, fun hl ⟨cs, e, h⟩ => ⟨cs, e, Rp.mono hl h⟩⟩
structure zP where
  Write : zL
  Value : zI
instance : Rp zP where
  sz := 9
  pos := by decide
  rep i cs s := ∃ v0 v1 v2 v3 : Value, cs = [.string ⟨⟨s.Write.Array.l⟩⟩, v0, .int .i64 s.Value.Kind, .int .i64 s.Value.Num, v1, .int .i64 s.Value.Index.Const, .string ⟨⟨s.Value.Read.Array.l⟩⟩, v2, v3] /\ SL i v0 s.Write.Subs /\ SL i v1 s.Value.Index.Coefs /\ SL i v2 s.Value.Read.Subs /\ SL i v3 s.Value.Kids
  len h := by obtain ⟨v0, v1, v2, v3, rfl, h0, h1, h2, h3⟩ := h; rfl
  mono hm h := by obtain ⟨v0, v1, v2, v3, e, h0, h1, h2, h3⟩ := h; exact ⟨v0, v1, v2, v3, e, h0.mono hm, h1.mono hm, h2.mono hm, h3.mono hm⟩
  one h := by obtain ⟨v0, v1, v2, v3, rfl, h0, h1, h2, h3⟩ := h; simp [zHR, zCL, h0.one, h1.one, h2.one, h3.one]
theorem mA {i : Imm} {cs : List Value} {s : zP} (h : Rp.rep i cs s) : ∃ v0 v1 v2 v3 : Value, cs = [.string ⟨⟨s.Write.Array.l⟩⟩, v0, .int .i64 s.Value.Kind, .int .i64 s.Value.Num, v1, .int .i64 s.Value.Index.Const, .string ⟨⟨s.Value.Read.Array.l⟩⟩, v2, v3] /\ SL i v0 s.Write.Subs /\ SL i v1 s.Value.Index.Coefs /\ SL i v2 s.Value.Read.Subs /\ SL i v3 s.Value.Kids := h
theorem vC {i : Imm} {cs : List Value} {s : zP} (h : ∃ v0 v1 v2 v3 : Value, cs = [.string ⟨⟨s.Write.Array.l⟩⟩, v0, .int .i64 s.Value.Kind, .int .i64 s.Value.Num, v1, .int .i64 s.Value.Index.Const, .string ⟨⟨s.Value.Read.Array.l⟩⟩, v2, v3] /\ SL i v0 s.Write.Subs /\ SL i v1 s.Value.Index.Coefs /\ SL i v2 s.Value.Read.Subs /\ SL i v3 s.Value.Kids) : Rp.rep i cs s := h
theorem pR {i : Imm} {cs : List Value} {s : zP} (h : Rp.rep i cs s) : ∃ (p0 : Option Addr) (c0 : Nat) (p1 : Option Addr) (c1 : Nat) (p2 : Option Addr) (c2 : Nat) (p3 : Option Addr) (c3 : Nat), cs = [.string ⟨⟨s.Write.Array.l⟩⟩, vS p0 s.Write.Subs c0, .int .i64 s.Value.Kind, .int .i64 s.Value.Num, vS p1 s.Value.Index.Coefs c1, .int .i64 s.Value.Index.Const, .string ⟨⟨s.Value.Read.Array.l⟩⟩, vS p2 s.Value.Read.Subs c2, vS p3 s.Value.Kids c3] /\ SL i (vS p0 s.Write.Subs c0) s.Write.Subs /\ SL i (vS p1 s.Value.Index.Coefs c1) s.Value.Index.Coefs /\ SL i (vS p2 s.Value.Read.Subs c2) s.Value.Read.Subs /\ SL i (vS p3 s.Value.Kids c3) s.Value.Kids := by
  obtain ⟨v0, v1, v2, v3, e, h0, h1, h2, h3⟩ := mA h
  obtain ⟨p0, c0, rfl⟩ := h0.form
  obtain ⟨p1, c1, rfl⟩ := h1.form
  obtain ⟨p2, c2, rfl⟩ := h2.form
  obtain ⟨p3, c3, rfl⟩ := h3.form
  exact ⟨p0, c0, p1, c1, p2, c2, p3, c3, e, h0, h1, h2, h3⟩
instance : Vr zP := ⟨fun i v a => ∃ cs, v = .agg ⟨cs⟩ /\ Rp.rep i cs a, fun hl ⟨cs, e, h⟩ => ⟨cs, e, Rp.mono hl h⟩⟩
structure zO where
  Nest : List zE
  Body : List zP
instance : Rp zO where
  sz := 2
  pos := by decide
  rep i cs s := ∃ v0 v1 : Value, cs = [v0, v1] /\ SL i v0 s.Nest /\ SL i v1 s.Body
  len h := by obtain ⟨v0, v1, rfl, h0, h1⟩ := h; rfl
  mono hm h := by obtain ⟨v0, v1, e, h0, h1⟩ := h; exact ⟨v0, v1, e, h0.mono hm, h1.mono hm⟩
  one h := by obtain ⟨v0, v1, rfl, h0, h1⟩ := h; simp [h0.one, h1.one]
theorem zHe {i : Imm} {cs : List Value} {s : zO} (h : Rp.rep i cs s) : ∃ v0 v1 : Value, cs = [v0, v1] /\ SL i v0 s.Nest /\ SL i v1 s.Body := h
theorem qN {i : Imm} {cs : List Value} {s : zO} (h : ∃ v0 v1 : Value, cs = [v0, v1] /\ SL i v0 s.Nest /\ SL i v1 s.Body) : Rp.rep i cs s := h
theorem wR {i : Imm} {cs : List Value} {s : zO} (h : Rp.rep i cs s) : ∃ (p0 : Option Addr) (c0 : Nat) (p1 : Option Addr) (c1 : Nat), cs = [vS p0 s.Nest c0, vS p1 s.Body c1] /\ SL i (vS p0 s.Nest c0) s.Nest /\ SL i (vS p1 s.Body c1) s.Body := by
  obtain ⟨v0, v1, e, h0, h1⟩ := zHe h
  obtain ⟨p0, c0, rfl⟩ := h0.form
  obtain ⟨p1, c1, rfl⟩ := h1.form
  exact ⟨p0, c0, p1, c1, e, h0, h1⟩
instance : Vr zO := ⟨fun i v a => ∃ cs, v = .agg ⟨cs⟩ /\ Rp.rep i cs a, fun hl ⟨cs, e, h⟩ => ⟨cs, e, Rp.mono hl h⟩⟩
structure zD where
  Arrays : List zF
  Parts : List zO
instance : Rp zD where
  sz := 2
  pos := by decide
  rep i cs s := ∃ v0 v1 : Value, cs = [v0, v1] /\ SL i v0 s.Arrays /\ SL i v1 s.Parts
  len h := by obtain ⟨v0, v1, rfl, h0, h1⟩ := h; rfl
  mono hm h := by obtain ⟨v0, v1, e, h0, h1⟩ := h; exact ⟨v0, v1, e, h0.mono hm, h1.mono hm⟩
  one h := by obtain ⟨v0, v1, rfl, h0, h1⟩ := h; simp [h0.one, h1.one]
theorem zEu {i : Imm} {cs : List Value} {s : zD} (h : Rp.rep i cs s) : ∃ v0 v1 : Value, cs = [v0, v1] /\ SL i v0 s.Arrays /\ SL i v1 s.Parts := h
theorem vR {i : Imm} {cs : List Value} {s : zD} (h : ∃ v0 v1 : Value, cs = [v0, v1] /\ SL i v0 s.Arrays /\ SL i v1 s.Parts) : Rp.rep i cs s := h
theorem mH {i : Imm} {cs : List Value} {s : zD} (h : Rp.rep i cs s) : ∃ (p0 : Option Addr) (c0 : Nat) (p1 : Option Addr) (c1 : Nat), cs = [vS p0 s.Arrays c0, vS p1 s.Parts c1] /\ SL i (vS p0 s.Arrays c0) s.Arrays /\ SL i (vS p1 s.Parts c1) s.Parts := by
  obtain ⟨v0, v1, e, h0, h1⟩ := zEu h
  obtain ⟨p0, c0, rfl⟩ := h0.form
  obtain ⟨p1, c1, rfl⟩ := h1.form
  exact ⟨p0, c0, p1, c1, e, h0, h1⟩
instance : Vr zD := ⟨fun i v a => ∃ cs, v = .agg ⟨cs⟩ /\ Rp.rep i cs a, fun hl ⟨cs, e, h⟩ => ⟨cs, e, Rp.mono hl h⟩⟩
structure yP where
  From : Int
  To : Int
  Kinds : Int
instance : Rp yP where
  sz := 3
  pos := by decide
  rep i cs s := cs = [.int .i64 s.From, .int .i64 s.To, .int .i64 s.Kinds]
  len h := by obtain rfl := h; rfl
  mono _ h := h
  one h := by obtain rfl := h; simp [zCL]
theorem zB6 {i : Imm} {cs : List Value} {s : yP} (h : Rp.rep i cs s) : cs = [.int .i64 s.From, .int .i64 s.To, .int .i64 s.Kinds] := h
theorem zEC {i : Imm} {cs : List Value} {s : yP} (h : cs = [.int .i64 s.From, .int .i64 s.To, .int .i64 s.Kinds]) : Rp.rep i cs s := h
instance : Vr yP := ⟨fun i v a => ∃ cs, v = .agg ⟨cs⟩ /\ Rp.rep i cs a, fun hl ⟨cs, e, h⟩ => ⟨cs, e, Rp.mono hl h⟩⟩
structure zK where
  Part : Int
  Stmt : Int
  Point : List Int
instance : Rp zK where
  sz := 3
  pos := by decide
  rep i cs s := ∃ v0 : Value, cs = [.int .i64 s.Part, .int .i64 s.Stmt, v0] /\ SL i v0 s.Point
  len h := by obtain ⟨v0, rfl, h0⟩ := h; rfl
  mono hm h := by obtain ⟨v0, e, h0⟩ := h; exact ⟨v0, e, h0.mono hm⟩
  one h := by obtain ⟨v0, rfl, h0⟩ := h; simp [zCL, h0.one]
theorem zEM {i : Imm} {cs : List Value} {s : zK} (h : Rp.rep i cs s) : ∃ v0 : Value, cs = [.int .i64 s.Part, .int .i64 s.Stmt, v0] /\ SL i v0 s.Point := h
theorem zAo {i : Imm} {cs : List Value} {s : zK} (h : ∃ v0 : Value, cs = [.int .i64 s.Part, .int .i64 s.Stmt, v0] /\ SL i v0 s.Point) : Rp.rep i cs s := h
theorem vO {i : Imm} {cs : List Value} {s : zK} (h : Rp.rep i cs s) : ∃ (p0 : Option Addr) (c0 : Nat), cs = [.int .i64 s.Part, .int .i64 s.Stmt, vS p0 s.Point c0] /\ SL i (vS p0 s.Point c0) s.Point := by
  obtain ⟨v0, e, h0⟩ := zEM h
  obtain ⟨p0, c0, rfl⟩ := h0.form
  exact ⟨p0, c0, e, h0⟩
instance : Vr zK := ⟨fun i v a => ∃ cs, v = .agg ⟨cs⟩ /\ Rp.rep i cs a, fun hl ⟨cs, e, h⟩ => ⟨cs, e, Rp.mono hl h⟩⟩
structure xS where
  Program : zD
  list : List zK
  reads : List (List Int)
  writes : List Int
instance : Rp xS where
  sz := 5
  pos := by decide
  rep i cs s := ∃ v0 v1 v2 v3 v4 : Value, cs = [v0, v1, v2, v3, v4] /\ SL i v0 s.Program.Arrays /\ SL i v1 s.Program.Parts /\ SL i v2 s.list /\ SL i v3 s.reads /\ SL i v4 s.writes
  len h := by obtain ⟨v0, v1, v2, v3, v4, rfl, h0, h1, h2, h3, h4⟩ := h; rfl
  mono hm h := by obtain ⟨v0, v1, v2, v3, v4, e, h0, h1, h2, h3, h4⟩ := h; exact ⟨v0, v1, v2, v3, v4, e, h0.mono hm, h1.mono hm, h2.mono hm, h3.mono hm, h4.mono hm⟩
  one h := by obtain ⟨v0, v1, v2, v3, v4, rfl, h0, h1, h2, h3, h4⟩ := h; simp [h0.one, h1.one, h2.one, h3.one, h4.one]
theorem zGC {i : Imm} {cs : List Value} {s : xS} (h : Rp.rep i cs s) : ∃ v0 v1 v2 v3 v4 : Value, cs = [v0, v1, v2, v3, v4] /\ SL i v0 s.Program.Arrays /\ SL i v1 s.Program.Parts /\ SL i v2 s.list /\ SL i v3 s.reads /\ SL i v4 s.writes := h
theorem zGD {i : Imm} {cs : List Value} {s : xS} (h : ∃ v0 v1 v2 v3 v4 : Value, cs = [v0, v1, v2, v3, v4] /\ SL i v0 s.Program.Arrays /\ SL i v1 s.Program.Parts /\ SL i v2 s.list /\ SL i v3 s.reads /\ SL i v4 s.writes) : Rp.rep i cs s := h
theorem zAp {i : Imm} {cs : List Value} {s : xS} (h : Rp.rep i cs s) : ∃ (p0 : Option Addr) (c0 : Nat) (p1 : Option Addr) (c1 : Nat) (p2 : Option Addr) (c2 : Nat) (p3 : Option Addr) (c3 : Nat) (p4 : Option Addr) (c4 : Nat), cs = [vS p0 s.Program.Arrays c0, vS p1 s.Program.Parts c1, vS p2 s.list c2, vS p3 s.reads c3, vS p4 s.writes c4] /\ SL i (vS p0 s.Program.Arrays c0) s.Program.Arrays /\ SL i (vS p1 s.Program.Parts c1) s.Program.Parts /\ SL i (vS p2 s.list c2) s.list /\ SL i (vS p3 s.reads c3) s.reads /\ SL i (vS p4 s.writes c4) s.writes := by
  obtain ⟨v0, v1, v2, v3, v4, e, h0, h1, h2, h3, h4⟩ := zGC h
  obtain ⟨p0, c0, rfl⟩ := h0.form
  obtain ⟨p1, c1, rfl⟩ := h1.form
  obtain ⟨p2, c2, rfl⟩ := h2.form
  obtain ⟨p3, c3, rfl⟩ := h3.form
  obtain ⟨p4, c4, rfl⟩ := h4.form
  exact ⟨p0, c0, p1, c1, p2, c2, p3, c3, p4, c4, e, h0, h1, h2, h3, h4⟩
instance : Vr xS := ⟨fun i v a => ∃ cs, v = .agg ⟨cs⟩ /\ Rp.rep i cs a, fun hl ⟨cs, e, h⟩ => ⟨cs, e, Rp.mono hl h⟩⟩
structure zN where
  b : List UInt8
  p : Int
instance : Rp zN where
  sz := 2
  pos := by decide
  rep i cs s := ∃ v0 : Value, cs = [v0, .int .i64 s.p] /\ SL i v0 s.b
  len h := by obtain ⟨v0, rfl, h0⟩ := h; rfl
  mono hm h := by obtain ⟨v0, e, h0⟩ := h; exact ⟨v0, e, h0.mono hm⟩
  one h := by obtain ⟨v0, rfl, h0⟩ := h; simp [zCL, h0.one]
theorem dJ {i : Imm} {cs : List Value} {s : zN} (h : Rp.rep i cs s) : ∃ v0 : Value, cs = [v0, .int .i64 s.p] /\ SL i v0 s.b := h
theorem yR {i : Imm} {cs : List Value} {s : zN} (h : ∃ v0 : Value, cs = [v0, .int .i64 s.p] /\ SL i v0 s.b) : Rp.rep i cs s := h
theorem yA {i : Imm} {cs : List Value} {s : zN} (h : Rp.rep i cs s) : ∃ (p0 : Option Addr) (c0 : Nat), cs = [vS p0 s.b c0, .int .i64 s.p] /\ SL i (vS p0 s.b c0) s.b := by
  obtain ⟨v0, e, h0⟩ := dJ h
  obtain ⟨p0, c0, rfl⟩ := h0.form
  exact ⟨p0, c0, e, h0⟩
instance : Vr zN := ⟨fun i v a => ∃ cs, v = .agg ⟨cs⟩ /\ Rp.rep i cs a, fun hl ⟨cs, e, h⟩ => ⟨cs, e, Rp.mono hl h⟩⟩
structure sS where
  nest : List zE
  steps : Int
  out : List (List Int)
instance : Rp sS where
  sz := 3
  pos := by decide
  rep i cs s := ∃ v0 v1 : Value, cs = [v0, .int .i64 s.steps, v1] /\ SL i v0 s.nest /\ SL i v1 s.out
  len h := by obtain ⟨v0, v1, rfl, h0, h1⟩ := h; rfl
  mono hm h := by obtain ⟨v0, v1, e, h0, h1⟩ := h; exact ⟨v0, v1, e, h0.mono hm, h1.mono hm⟩
  one h := by obtain ⟨v0, v1, rfl, h0, h1⟩ := h; simp [zCL, h0.one, h1.one]
instance : Vr sS := ⟨fun i v a => ∃ cs, v = .agg ⟨cs⟩ /\ Rp.rep i cs a, fun hl ⟨cs, e, h⟩ => ⟨cs, e, Rp.mono hl h⟩⟩
end Go.LN
namespace Go.LN
theorem iM {α:Type} [Rp α] {i j:Imm} (h:i.le j) {l:List α}{cs:List Value} (hr:RL i cs l):RL j cs l:=RepL.mono (fun _ _=>Rp.mono h) hr
def stB:List HA->Nat->List Value->(List HA->Option (List HA))->Option (List HA)
  | .blk b _::t,0,c',k=>k (.blk b ⟨c'⟩::t)
  | h::t,j+1,c',k=>stB t j c' fun r=>k (h::r)
  | _,_,_,_=>none
theorem zLy:∀ {hs:List HA}{j:Nat}{b:Nat}{c:Array Value}{c':List Value}{k:List HA->Option (List HA)},hs[j]?=some (.blk b c)->stB hs j c' k=k (hs.set j (.blk b ⟨c'⟩))
  | [],_,_,_,_,_,h=>by simp at h
  | A::t,0,b,c,c',k,h=>by
    simp only [eq,Option.some.injEq] at h
    subst h; rfl
  | A::t,j+1,b,c,c',k,h=>by
    simp only [ga] at h
    rw [stB,zLy h,dh]
class Mo (X:Prop) (i j:Imm) (Y:outParam Prop):Prop where
  mo:i.le j->X->Y
instance {α:Type} [Rp α] {v:Value}{l:List α}{i j:Imm}:Mo (SL i v l) i j (SL j v l):=⟨fun h x=>x.mono h⟩
instance {α:Type} [Rp α] {cs:List Value}{l:List α}{i j:Imm}:Mo (RL i cs l) i j (RL j cs l):=⟨fun h x=>iM h x⟩
instance {ad:Addr}{cs:List Value}{i j:Imm}:Mo (At i ad cs) i j (At j ad cs):=⟨fun h x=>At.mono h x⟩
instance {α:Type} [Rp α] {v:Value}{o:Option α}{i j:Imm}:Mo (FP i v o) i j (FP j v o):=⟨fun h x=>FP.mono x h⟩
instance {α β:Type} [Vr α] [Vr β] {P:Program}{bj:List HA}{v:Value}{φ:α->Option β}{i j:Imm}:Mo (FV1 P i bj v φ) i j (FV1 P j bj v φ):=⟨fun h x=>FV1.mono h x⟩
instance {α β γ:Type} [Vr α] [Vr β] [Vr γ] {P:Program}{bj:List HA}{v:Value}{φ:α->β->Option γ}{i j:Imm}:Mo (FV2 P i bj v φ) i j (FV2 P j bj v φ):=⟨fun h x=>FV2.mono h x⟩
instance {P:Program}{i j:Imm}:Mo (GH P i) i j (GH P j):=⟨fun h x=>GH.mono h x⟩
instance {i0 i j:Imm}:Mo (i0.le i) i j (i0.le j):=⟨fun h x=>x.trans h⟩
theorem m2 {i j:Imm}{A B A' B':Prop} (h:i.le j) (a:A) (b:B) [Mo A i j A'] [Mo B i j B']:A'/\B':=⟨Mo.mo h a,Mo.mo h b⟩
theorem m3 {i j:Imm}{A B C A' B' C':Prop} (h:i.le j) (a:A) (b:B) (c:C) [Mo A i j A'] [Mo B i j B'] [Mo C i j C']:A'/\B'/\C':=⟨Mo.mo h a,Mo.mo h b,Mo.mo h c⟩
theorem m4 {i j:Imm}{A B C D A' B' C' D':Prop} (h:i.le j) (a:A) (b:B) (c:C) (d:D) [Mo A i j A'] [Mo B i j B'] [Mo C i j C'] [Mo D i j D']:A'/\B'/\C'/\D':=⟨Mo.mo h a,Mo.mo h b,Mo.mo h c,Mo.mo h d⟩
theorem m5 {i j:Imm}{A B C D E A' B' C' D' E':Prop} (h:i.le j) (a:A) (b:B) (c:C) (d:D) (e:E) [Mo A i j A'] [Mo B i j B'] [Mo C i j C'] [Mo D i j D'] [Mo E i j E']:A'/\B'/\C'/\D'/\E':=⟨Mo.mo h a,Mo.mo h b,Mo.mo h c,Mo.mo h d,Mo.mo h e⟩
theorem m6 {i j:Imm}{A B C D E F A' B' C' D' E' F':Prop} (h:i.le j) (a:A) (b:B) (c:C) (d:D) (e:E) (f:F) [Mo A i j A'] [Mo B i j B'] [Mo C i j C'] [Mo D i j D'] [Mo E i j E'] [Mo F i j F']:A'/\B'/\C'/\D'/\E'/\F':=⟨Mo.mo h a,Mo.mo h b,Mo.mo h c,Mo.mo h d,Mo.mo h e,Mo.mo h f⟩
abbrev K1 {α:Type} (o:α) (I:Imm) (hs:List HA) (m:α->FM):Imm->List HA->FM->Prop:=fun I' ah m'=>∃ t:α,o=t/\I.le I'/\ah=hs/\m'=m t
section
variable {P:Program}{n:Nat}{B:Base}{ae:List Oper}{Q:Exit->Act->World->Prop}{pc:Nat}{imm:Imm}{hs:List HA}{m:FM}{d:Nat}
  {ty:TypeId}{pos:String}{after:Array Edge}{g:Option (Nat×Bool)}
theorem xL {f:FuncId}{x:Operand}{xs:Array Operand}{ts:Array TypeId}{vs:List Value}{post:Nat->Imm->List HA->Value->Prop}
    (hc:Ret P f vs imm [] post)
    (next:∀ aq ah v k,imm.le aq->B.w0.heap.size<=k->post k aq ah v->(∀ b∈ah.flatMap HA.fp,b∈([]:List HA).flatMap HA.fp∨B.w0.heap.size<=b)->R P n B ae Q (pc+1) aq (ah++hs) ((d,v)::m))
    (ho:ae[pc]?=some ⟨some d,.call { callee:=.value x,args:=xs,argTypes:=ts },ty,pos,after,g⟩:=by rfl) (hg:guardB ae m g=some true:=by rfl) (hn:Nat.blt d n=true:=by rfl) (hx:val m x=some (.func (.func f) #[] #[]):=by rfl) (hf:callable P f=true:=by kernel_rfl)
    (hvs:vals m xs.toList=some vs:=by rfl):R P n B ae Q pc imm hs m :=
  zFv (hs1:=[]) (rest:=hs) ho hg hn hx hf hvs rfl hc next
theorem zQ2 {f:FuncId}{x:Operand}{xs:Array Operand}{ts:Array TypeId}{vs:List Value} (hs1 rest:List HA) {post:Nat->Imm->List HA->Value->Prop}
    (hc:Ret P f vs imm hs1 post)
    (next:∀ aq ah v k,imm.le aq->B.w0.heap.size<=k->post k aq ah v->(∀ b∈ah.flatMap HA.fp,b∈hs1.flatMap HA.fp∨B.w0.heap.size<=b)->R P n B ae Q (pc+1) aq (ah++rest) ((d,v)::m))
    (ho:ae[pc]?=some ⟨some d,.call { callee:=.value x,args:=xs,argTypes:=ts },ty,pos,after,g⟩:=by rfl) (hg:guardB ae m g=some true:=by rfl) (hn:Nat.blt d n=true:=by rfl) (hx:val m x=some (.func (.func f) #[] #[]):=by rfl) (hf:callable P f=true:=by kernel_rfl)
    (hvs:vals m xs.toList=some vs:=by rfl) (hh:hs=hs1++rest:=by rfl):R P n B ae Q pc imm hs m :=
  zFv (hs1:=hs1) (rest:=rest) ho hg hn hx hf hvs hh hc next
theorem zBF (m':FM) (h:R P n B ae Q pc imm hs m') (hk:keep m (m'.map (·.1))=some m':=by kernel_rfl):R P n B ae Q pc imm hs m:=kD (zBg hk) h
theorem uK (cs:List Value) (α:Type) [Rp α] {t len:Nat}{parts:Array (Nat×Operand)}{ps:List (Nat×Value)}
    (next:∀ b,B.w0.heap.size<=b->R P n B ae Q (pc+1) imm (.osl (.slice (some ⟨b,0,none⟩) len len) (Rp.sz α) cs::hs) ((d,.slice (some ⟨b,0,none⟩) len len)::m))
    (ho:ae[pc]?=some ⟨some d,.buildSlice t len parts,ty,pos,after,g⟩:=by rfl) (hg:guardB ae m g=some true:=by rfl) (hn:Nat.blt d n=true:=by rfl) (hps:pvals m parts.toList=some ps:=by rfl) (hc:elemZ P t len ps=some ⟨cs⟩:=by kernel_rfl) (hl:Nat.beq cs.length (len*Rp.sz α)=true:=by kernel_rfl)
    (hlM:Nat.ble len 9223372036854775807=true:=by rfl):R P n B ae Q pc imm hs m :=
  zJY (cs:=cs) (Rp.sz α) ho hg hn hps hc hl next hlM
theorem wS (c:List Value) {t:TypeId}
    (next:∀ b,B.w0.heap.size<=b->R P n B ae Q (pc+1) imm (.blk b ⟨c⟩::hs) ((d,.pointer (some ⟨b,0,none⟩))::m))
    (ho:ae[pc]?=some ⟨some d,.alloc t,ty,pos,after,g⟩:=by rfl) (hg:guardB ae m g=some true:=by rfl) (hn:Nat.blt d n=true:=by rfl) (hz:zeroC P t=some ⟨c⟩:=by kernel_rfl):R P n B ae Q pc imm hs m :=
  zOY (c:=⟨c⟩) ho hg hn hz next
theorem tO (c:List Value) {t:TypeId}{x:Operand}{v:Value}
    (next:∀ b,B.w0.heap.size<=b->R P n B ae Q (pc+1) imm (.blk b ⟨c⟩::hs) ((d,.pointer (some ⟨b,0,none⟩))::m))
    (ho:ae[pc]?=some ⟨some d,.box t x,ty,pos,after,g⟩:=by rfl) (hg:guardB ae m g=some true:=by rfl) (hn:Nat.blt d n=true:=by rfl) (hx:val m x=some v:=by rfl) (hc:v.cells=⟨c⟩:=by rfl):R P n B ae Q pc imm hs m :=
  zQF (c:=⟨c⟩) ho hg hn hx hc next
theorem I_h {its:List It}{gs:List (List HA)}{N:Nat}{l:List (Nat×Bool)}{ops':List Oper}{pc:Nat} (m2:FM) (h:R P n B ops' Q pc imm hs m2)
    (hi:(insM ae its l m).bind (fun m1=>keep m1 (m2.map (·.1)))=some m2:=by kernel_rfl):Ins ae (factsOf N its gs) imm l m hs fun m' ah=>R P n B ops' Q pc imm ah m':=by
  obtain ⟨m1,h1,h2⟩:=Option.bind_eq_some_iff.1 hi
  refine zEt (fun j it hj=>?_) h1 (kD (zBg h2) h)
  have aE:=(cm.1 hj).1
  unfold factsOf
  rw [di,hV (by rw [d6]; exact aE),d8,hj]
  rfl
theorem xC {ops':List Oper}{pc d0:Nat}{φi:Fact}{imm1:Imm}{v:Value} (bN:imm1.le imm) (h0:ops'.drop pc=[]:=by rfl) (hd:look m d0=some v:=by rfl) (hφ:φi imm v []:=by exact ⟨rfl,rfl⟩):R P n B ops' (OutQ n B φi (some d0) imm1 hs) pc imm hs m :=
  zGi (hx:=[]) h0 bN rfl (fun _ e=>by cases e; exact hd) hφ
theorem yJ {f:FuncId}{fn:Func}{args:List Value}{post:Nat->Imm->List HA->Value->Prop} (hf:P.funcs[f]?=some fn) (h:∀ B:Base,J P fn.ntmps B (bodyOf fn) (QB P fn B post) imm hs (argm 0 args))
    (hb:fn.body=some (bodyOf fn):=by rfl) (hn:Nat.ble args.length fn.ntmps=true:=by rfl):Ret P f args imm hs post:=zNG hf hb hn fun B _ _=>h B
theorem yN (hx:List HA) {ops':List Oper}{pc d0:Nat}{φi:Fact}{imm1:Imm}{hs0:List HA}{v:Value} (bN:imm1.le imm) (hφ:φi imm v hx) (h0:ops'.drop pc=[]:=by rfl) (hh:hs=hx++hs0:=by rfl) (hd:look m d0=some v:=by rfl):R P n B ops' (OutQ n B φi (some d0) imm1 hs0) pc imm hs m :=
  zGi (hx:=hx) h0 bN hh (fun _ e=>by cases e; exact hd) hφ
theorem yE {id:Nat}{ae:List Oper}{y:Code} (h:R P n B ae (Exit.then (y.wp P Q) Q) 0 imm hs m):J P n B ((Code.region id ae.toArray false).seq y) Q imm hs m:=zZ (zJ h)
theorem zX {x y:Code} (h:J P n B x (Exit.then (y.wp P Q) Q) imm hs m):T n B (Exit.then ((x.seq y).wp P Q) Q) .normal imm hs m:=zG (zZ h)
theorem yX {id:Nat}{ae:List Oper}{y:Code} (h:R P n B ae (Exit.then (y.wp P Q) Q) 0 imm hs m):T n B (Exit.then (((Code.region id ae.toArray false).seq y).wp P Q) Q) .normal imm hs m:=zG (yE h)
theorem wP {id:Nat}{ae:List Oper}{y:Code} (new:FM) (hR:T n B (Exit.then (y.wp P Q) Q) .normal imm hs (new++m)) (h:runD P n ae hs 0 ae.length [] (new.map (·.1)) m=some (new,[].map (blkAt hs)):=by kernel_rfl):J P n B ((Code.region id ae.toArray false).seq y) Q imm hs m:=yE (wG [] new hR h)
theorem zEv {id:Nat}{ae:List Oper}{y:Code} (new:FM) (hR:T n B (Exit.then (y.wp P Q) Q) .normal imm hs (new++m)) (h:runD P n ae hs 0 ae.length [] (new.map (·.1)) m=some (new,[].map (blkAt hs)):=by kernel_rfl):T n B (Exit.then (((Code.region id ae.toArray false).seq y).wp P Q) Q) .normal imm hs m:=zG (wP new hR h)
theorem wI {fn:Func}{post:Nat->Imm->List HA->Value->Prop}{v:Value} (h1:ResV P m hs fn.results.toList [v]:=by exact .tmp rfl ResV.nil) (h2:post B.w0.heap.size imm [] (tupV [v]):=by exact ⟨_,rfl,rfl,rfl⟩):T n B (QB P fn B post) .ret imm hs m:=yZ ⟨_,_,h1,zQ,h2⟩
theorem fK {f:FuncId}{x:Operand}{xs:Array Operand}{ts:Array TypeId}{vs:List Value}{r:Int}
    (hc:Ret P f vs imm [] fun _ _ ah v=>∃ v0,ah=[]/\v=tupV [v0]/\v0=.int .i64 r)
    (next:∀ aq,imm.le aq->R P n B ae Q (pc+1) aq hs ((d,vI r)::m))
    (ho:ae[pc]?=some ⟨some d,.call { callee:=.value x,args:=xs,argTypes:=ts },ty,pos,after,g⟩:=by rfl) (hg:guardB ae m g=some true:=by rfl) (hn:Nat.blt d n=true:=by rfl) (hx:val m x=some (.func (.func f) #[] #[]):=by rfl) (hf:callable P f=true:=by kernel_rfl)
    (hvs:vals m xs.toList=some vs:=by rfl):R P n B ae Q pc imm hs m :=
  xL hc (fun aq ah v k h1 _ h3 _=>by obtain ⟨v0,rfl,rfl,rfl⟩:=h3; exact next aq h1) ho hg hn hx hf hvs
theorem vQ {f:FuncId}{x:Operand}{xs:Array Operand}{ts:Array TypeId}{vs:List Value}{r:Bool}
    (hc:Ret P f vs imm [] fun _ _ ah v=>∃ v0,ah=[]/\v=tupV [v0]/\v0=.bool r)
    (next:∀ aq,imm.le aq->R P n B ae Q (pc+1) aq hs ((d,.bool r)::m))
    (ho:ae[pc]?=some ⟨some d,.call { callee:=.value x,args:=xs,argTypes:=ts },ty,pos,after,g⟩:=by rfl) (hg:guardB ae m g=some true:=by rfl) (hn:Nat.blt d n=true:=by rfl) (hx:val m x=some (.func (.func f) #[] #[]):=by rfl) (hf:callable P f=true:=by kernel_rfl)
    (hvs:vals m xs.toList=some vs:=by rfl):R P n B ae Q pc imm hs m :=
  xL hc (fun aq ah v k h1 _ h3 _=>by obtain ⟨v0,rfl,rfl,rfl⟩:=h3; exact next aq h1) ho hg hn hx hf hvs
theorem wJ {id:Nat}{K1 K2:Act->World->Prop} (h:T n B Q (.exit id) imm hs m):J P n B (.exit id) (Exit.then K1 (Exit.then K2 Q)) imm hs m:=zEG (kX (kX h))
theorem xD (h:T n B Q .ret imm hs m):T n B (Exit.then ((Code.ret).wp P Q) Q) .normal imm hs m:=zG (yW h)
theorem xX {id:Nat}{c:Code} (h:J P n B c (Exit.inBlock id Q) imm hs m):T n B (Exit.then ((Code.block id c).wp P Q) Q) .normal imm hs m:=zG (yG h)
theorem zY (is:List Nat) {ah:List HA} (h:pick hs is=some ah:=by rfl) (hn:is.Nodup:=by decide):∀ w,Good B imm hs w->Good B imm ah w:=zW is h hn
theorem xJ {t:TypeId}{x y:Operand}{b o:Nat}{c:Array Value}{v:Value}{ah:List HA} (j:Nat) (c':List Value) (hq:stB hs j c' some=some ah) (next:R P n B ae Q (pc+1) imm ah m) (ho:ae[pc]?=some ⟨none,.store t x y,ty,pos,after,g⟩:=by rfl) (hj:hs[j]?=some (.blk b c):=by rfl) (hx:val m x=some (.pointer (some ⟨b,o,none⟩)):=by rfl) (hy:val m y=some v:=by rfl) (hg:guardB ae m g=some true:=by kernel_rfl) (bW:sizeT P t=some v.cells.size:=by kernel_rfl) (bU:Nat.ble (o+v.cells.size) c.size=true:=by kernel_rfl) (ca:v.cells.toList.all Value.oneCell'=true:=by kernel_rfl) (hc:wr c o v.cells.toList=⟨c'⟩:=by kernel_rfl):R P n B ae Q pc imm hs m :=
  zB5 j c' ah ho hj hx hy next hg bW bU ca hc (by rw [zLy hj] at hq; exact Option.some.inj hq)
end
theorem bE {α β:Type}{o:Option α}{f:α->Option β}{r:β}{G:Prop} (h:(o >>= f)=some r) (k:∀ x,o=some x->f x=some r->G):G:=by
  obtain ⟨x,h1,h2⟩:=zB h;exact k x h1 h2
theorem ct {α:Type}{o t:α}{P1:Prop}{P2 P3:α->Prop} (hM:(pure t:Option α)=some o) (H:P1) (h2:P2 t:=by rfl) (h3:P3 t:=by rfl):∃ t',o=t'/\P1/\P2 t'/\P3 t':=⟨t,(zC hM).symm,H,h2,h3⟩
abbrev NG (Q:Exit->Act->World->Prop):Prop:=∀ gl a w,¬Q (.goto gl) a w
abbrev NO (Q:Exit->Act->World->Prop):Prop:=∀ a w,¬Q .outgrown a w
abbrev cStmt (x:zP) (p0:Option Addr) (c0:Nat) (p1:Option Addr) (c1:Nat) (p2:Option Addr) (c2:Nat) (p3:Option Addr) (c3:Nat):List Value:=[vT x.Write.Array.l,vS p0 x.Write.Subs c0,vI x.Value.Kind,vI x.Value.Num,vS p1 x.Value.Index.Coefs c1,vI x.Value.Index.Const,vT x.Value.Read.Array.l,vS p2 x.Value.Read.Subs c2,vS p3 x.Value.Kids c3]
abbrev cExpr (x:zI) (p0:Option Addr) (c0:Nat) (p1:Option Addr) (c1:Nat) (p2:Option Addr) (c2:Nat):List Value:=[vI x.Kind,vI x.Num,vS p0 x.Index.Coefs c0,vI x.Index.Const,vT x.Read.Array.l,vS p1 x.Read.Subs c1,vS p2 x.Kids c2]
abbrev cAccess (x:zL) (p0:Option Addr) (c0:Nat):List Value:=[vT x.Array.l,vS p0 x.Subs c0]
abbrev cAff (x:zA) (p0:Option Addr) (c0:Nat):List Value:=[vS p0 x.Coefs c0,vI x.Const]
abbrev cLoop (x:zE) (p0:Option Addr) (c0:Nat) (p1:Option Addr) (c1:Nat):List Value:=[vS p0 x.Lo c0,vS p1 x.Hi c1]
abbrev cPart (x:zO) (p0:Option Addr) (c0:Nat) (p1:Option Addr) (c1:Nat):List Value:=[vS p0 x.Nest c0,vS p1 x.Body c1]
abbrev cProg (x:zD) (p0:Option Addr) (c0:Nat) (p1:Option Addr) (c1:Nat):List Value:=[vS p0 x.Arrays c0,vS p1 x.Parts c1]
abbrev cArr (x:zF) (p0:Option Addr) (c0:Nat):List Value:=[vT x.Name.l,vS p0 x.Dims c0]
abbrev cRd (x:zN) (p0:Option Addr) (c0:Nat):List Value:=[vS p0 x.b c0,vI x.p]
abbrev cInst (x:zK) (p0:Option Addr) (c0:Nat):List Value:=[vI x.Part,vI x.Stmt,vS p0 x.Point c0]
abbrev zExpr:List Value:=[vI 0,vI 0,.slice none 0 0,vI 0,vT ([]),.slice none 0 0,.slice none 0 0]
abbrev zTwo:List Value:=[.slice none 0 0,.slice none 0 0]
abbrev z0:Value:=.slice none 0 0
abbrev vF:Value:=.bool false
abbrev vY:Value:=.bool true
abbrev KT:=Nat->Imm->List HA->Value->Prop
theorem iS (i:Imm):i.le i:=Imm.le.refl i
theorem iR {i:Imm}:i.le i:=Imm.le.refl i
abbrev S4 {α:Type} [Rp α] (imm:Imm) (p:Option Addr) (l:List α) (c:Nat):Prop:=SL imm (vS p l c) l
end Go.LN
namespace Go.LN
theorem zGE:∀ {ks:List Nat}{m m':FM},keep m ks=some m'->m'.map (·.1)=ks
  | [],m,m',h=>by simp only [keep] at h; cases h; rfl
  | k::ks,m,m',h=>by
    simp only [keep] at h
    split at h
    · rename_i v m1 h1 h2; cases h; rw [cH,zGE h2]
    · cases h
theorem zDd {P:Program}{n:Nat}{ae:List Oper}{hs:List HA}{pc k:Nat}{js ks:List Nat}{m new:FM}{bs:List Nat} (h:runD P n ae hs pc k js ks m=some (new,bs)):new.map (·.1)=ks:=by
  unfold runD at h;split at h
  · split at h
    · rename_i hk; cases h; exact zGE hk
    · cases h
  · cases h
section
variable {P:Program}{n:Nat}{B:Base}{ae:List Oper}{Q:Exit->Act->World->Prop}{pc:Nat}{imm:Imm}{hs:List HA}{m new:FM}{d:Nat}
theorem yB (pc':Nat) (js ks:List Nat) (h:runD P n ae hs pc (pc' - pc) js ks m=some (new,js.map (blkAt hs))) (hR:R P n B ae Q pc' imm hs (new++m))
    (hl:Nat.beq (pc+((ae.drop pc).take (pc' - pc)).length) pc'=true:=by kernel_rfl):R P n B ae Q pc imm hs m:=rQ pc' js new hR (by rw [zDd h]; exact h) hl
theorem yH (js ks:List Nat) (h:runD P n ae hs pc ae.length js ks m=some (new,js.map (blkAt hs))) (hR:T n B Q .normal imm hs (new++m)):R P n B ae Q pc imm hs m:=wG js new hR (by rw [zDd h]; exact h)
theorem fL (pc':Nat) (js ks:List Nat) (h:runD P n ae hs pc (pc' - pc) js ks m=some (new,js.map (blkAt hs))) (hR:Rq P n B ae Q pc' imm hs (new++m))
    (hl:Nat.beq (pc+((ae.drop pc).take (pc' - pc)).length) pc'=true:=by kernel_rfl):Rq P n B ae Q pc imm hs m:=zQ1 pc' js new hR (by rw [zDd h]; exact h) hl
theorem zGo (js ks:List Nat) (h:runD P n ae hs pc ae.length js ks m=some (new,js.map (blkAt hs))) (hR:T n B Q .normal imm hs (new++m)):Rq P n B ae Q pc imm hs m:=zKR js new hR (by rw [zDd h]; exact h)
theorem yF {id:Nat}{ae:List Oper}{y:Code} (ks:List Nat) (h:runD P n ae hs 0 ae.length [] ks m=some (new,[])) (hR:T n B (Exit.then (y.wp P Q) Q) .normal imm hs (new++m)):J P n B ((Code.region id ae.toArray false).seq y) Q imm hs m:=yE (yH [] ks h hR)
theorem wM {id:Nat}{ae:List Oper}{y:Code} (ks:List Nat) (h:runD P n ae hs 0 ae.length [] ks m=some (new,[])) (hR:T n B (Exit.then (y.wp P Q) Q) .normal imm hs (new++m)):T n B (Exit.then (((Code.region id ae.toArray false).seq y).wp P Q) Q) .normal imm hs m:=zG (yF ks h hR)
theorem yL {e:Exit}{m':FM} (h:T n B Q e imm hs m') (hk:keep m (m'.map (·.1))=some m':=by kernel_rfl):T n B Q e imm hs m:=T_w m' h hk
theorem oY {c:Code}{m':FM} (h:J P n B c Q imm hs m') (hk:keep m (m'.map (·.1))=some m':=by kernel_rfl):J P n B c Q imm hs m:=rU m' h hk
theorem yT {its:List It}{gs:List (List HA)}{N:Nat}{l:List (Nat×Bool)}{ops':List Oper}{m2:FM} (ks:List Nat)
    (hi:(insM ae its l m).bind (fun m1=>keep m1 ks)=some m2) (h:R P n B ops' Q pc imm hs m2):Ins ae (factsOf N its gs) imm l m hs fun m' ah=>R P n B ops' Q pc imm ah m' :=
  I_h m2 h (by
    obtain ⟨m1,h1,h2⟩:=Option.bind_eq_some_iff.1 hi
    rw [zGE h2]; exact hi)
theorem xV (qs:List Nat) {c:Bool}{α:Type}{X Y:Option α}{r:α} (hM:(if c=true then X else Y)=some r) (ht:c=true->X=some r->R P n B ae Q pc imm hs (qs.map (fun q=>(q,Value.bool true))++m))
    (hf:c=false->Y=some r->R P n B ae Q pc imm hs (qs.map (fun q=>(q,Value.bool false))++m)) (hq:keep m qs=some (qs.map fun q=>(q,Value.bool c)):=by kernel_rfl):R P n B ae Q pc imm hs m:=by
  cases c with
  | true=>exact zO3 (fun a f=>zHb hq (fun _ _ _ h=>h) a f) (ht rfl hM)
  | false=>exact zO3 (fun a f=>zHb hq (fun _ _ _ h=>h) a f) (hf rfl hM)
theorem zGl (qs:List Nat) {c:Bool}{α:Type}{X Y:Option α}{r:α} (hM:(if c=true then X else Y)=some r) (ht:c=true->X=some r->Rq P n B ae Q pc imm hs (qs.map (fun q=>(q,Value.bool true))++m))
    (hf:c=false->Y=some r->Rq P n B ae Q pc imm hs (qs.map (fun q=>(q,Value.bool false))++m)) (hq:keep m qs=some (qs.map fun q=>(q,Value.bool c)):=by kernel_rfl):Rq P n B ae Q pc imm hs m:=by
  cases c with
  | true=>exact zLv (fun a f=>zHb hq (fun _ _ _ h=>h) a f) (ht rfl hM)
  | false=>exact zLv (fun a f=>zHb hq (fun _ _ _ h=>h) a f) (hf rfl hM)
theorem zQ3 (α:Type) [Rp α] (h:RL imm [] ([]:List α)->R P n B ae Q pc imm (hO α (.slice none 0 0) []::hs) m):R P n B ae Q pc imm hs m:=tZ (nX (Rp.sz α)) (h RepL.nil)
theorem zAI (α:Type) [Rp α] {c:Code} (h:RL imm [] ([]:List α)->J P n B c Q imm (hO α (.slice none 0 0) []::hs) m):J P n B c Q imm hs m:=kE (nX (Rp.sz α)) (h RepL.nil)
theorem mN {α:Type} [Rp α] {cs:List Value}{l:List α} (hr:RL imm cs l) {t len:Nat}{parts:Array (Nat×Operand)}{ps:List (Nat×Value)}{ty:TypeId}{pos:String}{after:Array Edge}{g:Option (Nat×Bool)}
    (next:∀ b aq,imm.le aq->SL aq (.slice (some ⟨b,0,none⟩) len len) l->R P n B ae Q (pc+1) aq hs ((d,.slice (some ⟨b,0,none⟩) len len)::m))
    (ho:ae[pc]?=some ⟨some d,.buildSlice t len parts,ty,pos,after,g⟩:=by rfl) (hg:guardB ae m g=some true:=by rfl) (hn:Nat.blt d n=true:=by rfl) (hps:pvals m parts.toList=some ps:=by rfl) (hc:elemZ P t len ps=some ⟨cs⟩:=by kernel_rfl) (hl:Nat.beq cs.length (len*Rp.sz α)=true:=by kernel_rfl)
    (hlM:Nat.ble len 9223372036854775807=true:=by rfl):R P n B ae Q pc imm hs m :=
  uK cs α (fun b _=>xH 0 rfl fun aq bN hl0=>next b aq bN (SL.of_frozen hl0 bN hr)) ho hg hn hps hc hl hlM
theorem sJ {f:FuncId}{x:Operand}{xs:Array Operand}{ts:Array TypeId}{vs:List Value}{hs1 rest:List HA}{post:Nat->Imm->List HA->Value->Prop}{ty:TypeId}{pos:String}{after:Array Edge}{g:Option (Nat×Bool)}
    (hc:Ret P f vs imm hs1 post) (hh:hs=hs1++rest)
    (next:∀ aq ah v k,imm.le aq->B.w0.heap.size<=k->post k aq ah v->(∀ b∈ah.flatMap HA.fp,b∈hs1.flatMap HA.fp∨B.w0.heap.size<=b)->R P n B ae Q (pc+1) aq (ah++rest) ((d,v)::m))
    (ho:ae[pc]?=some ⟨some d,.call { callee:=.value x,args:=xs,argTypes:=ts },ty,pos,after,g⟩:=by rfl) (hg:guardB ae m g=some true:=by rfl) (hn:Nat.blt d n=true:=by rfl) (hx:val m x=some (.func (.func f) #[] #[]):=by rfl) (hf:callable P f=true:=by kernel_rfl)
    (hvs:vals m xs.toList=some vs:=by rfl):R P n B ae Q pc imm hs m:=zQ2 hs1 rest hc next ho hg hn hx hf hvs hh
theorem wO {α γ:Type}{x:Option α}{f:α->Option γ}{r:γ}{c:Code} (hM:(x >>= f)=some r) (hs0:List HA) (mf:α->FM)
    (h:∀ o,x=some o->J P n B c (Exit.then (fun a w=>∃ aq ah m',K1 o imm hs0 mf aq ah m'/\Fr n a m'/\Good B aq ah w) Q) imm hs m)
    (k:∀ t aq,imm.le aq->f t=some r->T n B Q .normal aq hs0 (mf t)):J P n B c Q imm hs m:=by
  obtain ⟨o,h1,h2⟩:=zB hM
  refine qF (K1 o imm hs0 mf) (h o h1) ?_
  rintro aq _ _ ⟨t,rfl,bN,rfl,rfl⟩
  exact k _ aq bN h2
end
theorem rN {α:Type} [Rp α] {i:Imm}:RL i [] ([]:List α):=RepL.nil
theorem rc {α:Type} [Rp α] {i:Imm}{c1 c2:List Value}{l:List α} (a:α) (h:Rp.rep i c1 a) (t:RL i c2 l):RL i (c1++c2) (a::l):=⟨c1,c2,rfl,Rp.len h,h,t⟩
theorem rI {i:Imm}:∀ (l:List Int),RL i (l.map vI) l
  | []=>RepL.nil
  | a::l=>⟨[vI a],l.map vI,rfl,rfl,rfl,rI l⟩
theorem rT {i:Imm}:∀ (l:List Str),RL i (l.map fun s=>vT s.l) l
  | []=>RepL.nil
  | a::l=>⟨[vT a.l],l.map fun s=>vT s.l,rfl,rfl,rfl,rT l⟩
end Go.LN
namespace Go.LN
section
variable {P:Program}{n:Nat}{B:Base}{Q:Exit->Act->World->Prop}{imm:Imm}{hs:List HA}{m:FM}{ae:List Oper}{pc d:Nat}{ty:TypeId}{pos:String}{after:Array Edge}{g:Option (Nat×Bool)}
end
theorem Ret.fz {P:Program}{f:FuncId}{args:List Value}{imm:Imm}{hs:List HA}{post post':Nat->Imm->List HA->Value->Prop} (h:Ret P f args imm hs post) (hp:∀ k i h v,post k i h v->∃ A r,h=A::r/\A.plain=true/\∀ i',i.le i'->Lent i' A->post' k i' r v):Ret P f args imm hs post' :=
  fun w g=>(h w g).mono fun e w' he=>by
    cases e with
    | returned v =>
      obtain ⟨i,ah,h1,h2⟩:=he
      obtain ⟨A,r,rfl,pl,h3⟩:=hp _ _ _ _ h1
      obtain ⟨i',le,hL,hg⟩:=Good.freeze h2 pl
      exact ⟨i',r,h3 i' le hL,hg⟩
    | panicked c=>exact he
    | outgrown=>exact he
end Go.LN
namespace Go.LN
section
variable {P:Program}{n:Nat}{B:Base}{ae:List Oper}{Q:Exit->Act->World->Prop}{pc:Nat}{imm:Imm}{hs:List HA}{m:FM}{d:Nat}
end
end Go.LN
namespace Go.LN
theorem sT {x:Int} (h0:-9223372036854775808<=x) (h1:x<=9223372036854775807):W x=x:=by
  show IntKind.i64.wrap x=x;rw [IntKind.wrap_i64]; omega
theorem zDe {α:Type} (l:List α) (k:Nat):idx l (k:Int)=l[k]?:=by
  unfold idx;simp
theorem zHf {k:Nat} (h:k<9223372036854775807):W ((k:Int)+1)=((k+1:Nat):Int):=by
  rw [sT (by omega) (by omega)]; omega
end Go.LN
namespace Go.LN
structure Raw2 where
  a:Value
  b:Value
instance:Rp Raw2 where
  sz:=2
  pos:=by decide
  rep _ cs r:=cs=[r.a,r.b]/\r.a.oneCell'=true/\r.b.oneCell'=true
  len h:=by obtain ⟨rfl,_⟩:=h; rfl
  mono _ h:=h
  one h:=by obtain ⟨rfl,h1,h2⟩:=h; simp [h1,h2]
def flat:List Raw2->List Value
  | []=>[]
  | r::l=>r.a::r.b::flat l
theorem zBO:∀ (a b:List Raw2),flat (a++b)=flat a++flat b
  | [],_=>rfl
  | r::a,b=>by simp [flat,zBO a b]
theorem jR {imm:Imm}:∀ {l:List Raw2}{cs:List Value},RL imm cs l->cs=flat l
  | [],cs,h=>h
  | r::l,cs,⟨c1,c2,h1,_,h3,h4⟩=>by
    obtain ⟨rfl,_⟩:=h3
    rw [h1,jR h4]; rfl
def LP (imm:Imm) (am:List Raw2) (parts:List zO) (vN:Value) (nl:List zE) (vB:Value) (bl:List zP):Prop :=
  parts.length<=140737488355328/\am.length=parts.length /\
    ((parts=[]/\am=[])∨∃ rl l,parts=l++[⟨nl,bl⟩]/\am=rl++[⟨vN,vB⟩]/\RepL (Rp.rep imm) (Rp.sz zO) (flat rl) l)
theorem LP.mono {i j:Imm} (hl:i.le j) {am:List Raw2}{parts:List zO}{vN vB:Value}{nl:List zE}{bl:List zP} (h:LP i am parts vN nl vB bl):LP j am parts vN nl vB bl:=by
  obtain ⟨h1,h2,h3⟩:=h;refine ⟨h1,h2,h3.imp id ?_⟩;rintro ⟨rl,l,k1,k2,k3⟩;exact ⟨rl,l,k1,k2,RepL.mono (fun _ _=>Rp.mono hl) k3⟩
structure L4 (imm:Imm) (cs:List Value) (arr:List zF) (az:List Value) (am:List Raw2) (parts:List zO) (vN:Value) (nl:List zE) (vB:Value) (bl:List zP) (csN csB:List Value):Prop where
  arr:RL imm cs arr
  raw:RL imm az am
  lp:LP imm am parts vN nl vB bl
  n:RL imm csN nl
  b:RL imm csB bl
theorem L4.mono {i j:Imm} (hl:i.le j) {cs:List Value}{arr:List zF}{az:List Value}{am:List Raw2}{parts:List zO}{vN vB:Value}{nl:List zE}{bl:List zP}{csN csB:List Value}
    (h:L4 i cs arr az am parts vN nl vB bl csN csB):L4 j cs arr az am parts vN nl vB bl csN csB :=
  ⟨RepL.mono (fun _ _=>Rp.mono hl) h.arr,RepL.mono (fun _ _=>Rp.mono hl) h.raw,h.lp.mono hl,RepL.mono (fun _ _=>Rp.mono hl) h.n,RepL.mono (fun _ _=>Rp.mono hl) h.b⟩
theorem LP.len {imm:Imm}{am:List Raw2}{parts:List zO}{vN vB:Value}{nl:List zE}{bl:List zP} (h:LP imm am parts vN nl vB bl):(parts.length:Int)=(am.length:Int):=by rw [h.2.1]
theorem LP.last {imm:Imm}{am:List Raw2}{parts:List zO}{vN vB:Value}{nl:List zE}{bl:List zP} (h:LP imm am parts vN nl vB bl) {x:zO} (hx:idx parts (W ((am.length:Int) - 1))=some x) :
    x=⟨nl,bl⟩/\idx am (W ((am.length:Int) - 1))=some ⟨vN,vB⟩ /\
      ∀ vN' nl' vB' bl',LP imm (am.set (W ((am.length:Int) - 1)).toNat ⟨vN',vB'⟩) (parts.set (W ((am.length:Int) - 1)).toNat ⟨nl',bl'⟩) vN' nl' vB' bl':=by
  obtain ⟨h1,h2,h3⟩:=h
  have hW:W ((am.length:Int) - 1)=(am.length:Int) - 1:=sT (by omega) (by omega)
  rw [hW] at hx ⊢
  rcases h3 with ⟨rfl,rfl⟩ | ⟨rl,l,rfl,rfl,h4⟩
  · simp [idx] at hx
  · have hl:l.length=rl.length:=by simpa using h2.symm
    have e:(((rl++[(⟨vN,vB⟩:Raw2)]).length:Int) - 1).toNat=rl.length:=by simp
    have e0:(0:Int)<=((rl++[(⟨vN,vB⟩:Raw2)]).length:Int) - 1:=by simp
    unfold idx at hx ⊢
    rw [if_pos e0,e] at hx ⊢
    rw [<- hl] at hx
    refine ⟨by simpa using hx.symm,by simp,fun vN' nl' vB' bl'=>⟨?_,?_,.inr ⟨rl,l,?_,?_,h4⟩⟩⟩
    · simpa using h1
    · simpa using h2
    · rw [<- hl]; simp
    · simp
theorem LP.part {imm:Imm}{am:List Raw2}{parts:List zO}{vN vB:Value}{nl:List zE}{bl:List zP} (h:LP imm am parts vN nl vB bl) (hN:SL imm vN nl) (hB:SL imm vB bl) {l1:List zO}
    (ha:app 48 parts [(⟨[],[]⟩:zO)]=some l1):LP imm (am++[⟨.slice none 0 0,.slice none 0 0⟩]) l1 (.slice none 0 0) [] (.slice none 0 0) []:=by
  obtain ⟨hb,rfl⟩:=dU ha
  obtain ⟨h1,h2,h3⟩:=h
  refine ⟨?_,?_,.inr ⟨am,parts,rfl,rfl,?_⟩⟩
  · simp at hb ⊢; omega
  · simp [h2]
  · rcases h3 with ⟨rfl,rfl⟩ | ⟨rl,l,rfl,rfl,h4⟩
    · rfl
    · rw [zBO]
      exact h4.append (.single rfl (qN ⟨_,_,rfl,hN,hB⟩))
theorem zJ4 {α β:Type}{b:Nat}{l:List α}{m:List α}{l':List β}{m':List β}{y:List α} (h:app b l m=some y) (h1:l'.length=l.length) (h2:m'.length=m.length):app b l' m'=some (l'++m'):=by
  obtain ⟨k,_⟩:=dU h;unfold app;rw [h1,h2,if_pos k]
theorem LP.done {imm:Imm}{am:List Raw2}{parts:List zO}{vN vB:Value}{nl:List zE}{bl:List zP} (h:LP imm am parts vN nl vB bl) (hN:SL imm vN nl) (hB:SL imm vB bl):RepL (Rp.rep imm) (Rp.sz zO) (flat am) parts:=by
  obtain ⟨h1,h2,h3⟩:=h;rcases h3 with ⟨rfl,rfl⟩ | ⟨rl,l,rfl,rfl,h4⟩
  · rfl
  · rw [zBO];exact h4.append (.single rfl (qN ⟨_,_,rfl,hN,hB⟩))
section
variable {P:Program}{n:Nat}{B:Base}{Q:Exit->Act->World->Prop}{imm:Imm}{hs:List HA}{m:FM}{ae:List Oper}{pc d:Nat}{ty:TypeId}{pos:String}{after:Array Edge}{g:Option (Nat×Bool)}
theorem zPH {t:TypeId}{x y:Operand}{b o:Nat}{c:Array Value}{v:Value} (j:Nat) (c':List Value) (ah:List HA) (ho:ae[pc]?=some ⟨none,.store t x y,ty,pos,after,g⟩) (hj:hs[j]?=some (.blk b c)) (hx:val m x=some (.pointer (some ⟨b,o,none⟩))) (hy:val m y=some v) (ca:v.cells.toList.all Value.oneCell'=true) (next:R P n B ae Q (pc+1) imm ah m) (hg:guardB ae m g=some true:=by kernel_rfl) (bW:sizeT P t=some v.cells.size:=by kernel_rfl) (bU:Nat.ble (o+v.cells.size) c.size=true:=by kernel_rfl) (hc:wr c o v.cells.toList=⟨c'⟩:=by kernel_rfl) (hh:hs.set j (.blk b ⟨c'⟩)=ah:=by rfl):R P n B ae Q pc imm hs m :=
  zGg j ho hg hj hx hy bW bU ca hc hh next
end
end Go.LN
namespace Go.LN
open Go.RowKit
theorem Good.below {imm:Imm}{w w':World} (h:Good ⟨w,imm,[]⟩ imm [] w) (b:Below w.heap.size w w') (hd:w.drawn<=w'.drawn):Good ⟨w,imm,[]⟩ imm [] w':=by
  refine ⟨fun k c e=>?_,by simp,by simp,⟨b.os,b.tape,b.output,b.size,fun k hk _=>b.block k hk,fun _ _ _=>rfl,hd⟩⟩;obtain ⟨ty,fr,e'⟩:=h.inv k c e;exact ⟨ty,fr,(b.block k (h.lt_imm e)).trans e'⟩
theorem Good.cell {B:Base}{imm:Imm}{hs:List HA}{w:World} (h:Good B imm hs w) {g:Nat}{v:Value} (e:imm g=some #[v]):w.cell? ⟨g,0,none⟩=some v:=by
  obtain ⟨ty,fr,e'⟩:=h.inv _ _ e;simp only [World.cell?,e'];simp
theorem zMb {P:Program}{f:FuncId}{args:List Value}{imm:Imm}{v:Value}{post:Nat->Imm->List HA->Value->Prop}
    (h:∀ w,Good ⟨w,imm,[]⟩ imm [] w->Calls P f args.toArray w fun e w'=>e=.returned v/\Below w.heap.size w w'/\w.drawn<=w'.drawn) (hp:∀ k,post k imm [] v):Ret P f args imm [] post:=fun w g =>
  (h w g).mono fun e w' ⟨he,hb,hd⟩=>by
    subst he
    exact ⟨imm,[],hp _,g.below hb hd⟩
theorem At.of_blk {imm:Imm}{b:Nat}{cs:List Value} (h:imm b=some ⟨cs⟩):At imm ⟨b,0,none⟩ cs:=⟨b,0,_,rfl,h,by simp,by simp⟩
section
variable {P:Program}{n:Nat}{B:Base}{ae:List Oper}{Q:Exit->Act->World->Prop}{pc:Nat}{imm:Imm}{hs:List HA}{m:FM}{d:Nat}
  {ty:TypeId}{pos:String}{after:Array Edge}{g:Option (Nat×Bool)}
end
end Go.LN
namespace Go.LN
section
variable {P:Program}{n:Nat}{B:Base}{Q:Exit->Act->World->Prop}{imm:Imm}{hs:List HA}{m:FM}{ae:List Oper}{pc d:Nat}{ty:TypeId}{pos:String}{after:Array Edge}{g:Option (Nat×Bool)}
theorem zJ5 {t e:TypeId}{w:World}{p:Option Addr}{l c:Nat} (hu:P.underlying t=some (.slice e)):(Op.equal t (.slice p l c) (.slice none 0 0)).run P w=.ok p.isNone w:=by
  have h:∀ d,(Op.equalIn (d+1) t (.slice p l c) (.slice none 0 0)).run P w=.ok p.isNone w:=fun d=>by
    rw [Op.equalIn];cases p <;> simp [yY hu]
  exact h 9999
def sliceT (P:Program) (t:TypeId):Bool:=match P.underlying t with | some (.slice _)=>true | _=>false
theorem zQN {t t2:TypeId}{x:Operand}{p:Option Addr}{l c:Nat} (b:Bool) (ho:ae[pc]?=some ⟨some d,.binOp .eql t x (.const (.slice none 0 0)) t2,ty,pos,after,g⟩) (hb:p.isNone=b)
    (next:R P n B ae Q (pc+1) imm hs ((d,.bool b)::m)) (hx:val m x=some (.slice p l c)) (hg:guardB ae m g=some true:=by kernel_rfl) (hn:Nat.blt d n=true:=by kernel_rfl) (ht:sliceT P t=true:=by kernel_rfl):R P n B ae Q pc imm hs m:=by
  unfold sliceT at ht
  split at ht
  · rename_i e hu
    refine mS ho hg rfl hn fun a w f gd=>⟨.bool b,w,imm,hs,?_,gd,next⟩
    have hy:a.eval (.const (.slice none 0 0))=.slice none 0 0:=rfl
    simp [execOp,f.eval hx,hy,eqGuard,binOp,zJ5 hu,hb]
  · cases ht
end
end Go.LN
namespace Go.LN
section
variable {P:Program}{n:Nat}{B:Base}{Q:Exit->Act->World->Prop}{imm:Imm}{hs:List HA}{m:FM}
theorem zJ6 {c:Code} (ah:List HA) (hp:ah.Perm hs) (h:J P n B c Q imm ah m):J P n B c Q imm hs m:=fun a w f g=>h a w f (g.perm hp)
theorem zNU {c:Code} (hF:False) {aq:Imm}{ah:List HA}{m':FM} (next:T n B Q .normal aq ah m'):J P n B c Q imm hs m:=hF.elim
theorem zO4 {c:Code}{L:List HA} (x:Exit) (S:Imm->List HA->FM->Prop) (h1:∀ B':Base,J P n B' c (fun e a w=>e=x/\∃ aq ah m',S aq ah m'/\Fr n a m'/\Good B' aq ah w) imm hs m)
    (h2:∀ aq ah m',S aq ah m'->imm.le aq->T n B Q x aq (ah++L) m'):J P n B c Q imm (hs++L) m:=fun a w f g=>by
  have bZ:=g.nodup
  rw [d9] at bZ
  have hg1:=g.enter (hs1:=hs) (fun A hA=>dn _ hA) (cE.1 bZ).1
  refine wp_mono (h1 _ a w f hg1) fun e a' w' he=>?_
  obtain ⟨rfl,aq,ah,m',k1,k2,k3⟩:=he
  obtain ⟨k4,k5,_⟩:=g.leave k3
  exact h2 aq ah m' k1 k5 a' w' k2 k4
theorem zMc {B':Base}{x:Exit}{S:Imm->List HA->FM->Prop} (h:S imm hs m):T n B' (fun e a w=>e=x/\∃ aq ah m',S aq ah m'/\Fr n a m'/\Good B' aq ah w) x imm hs m:=fun _ _ f g=>⟨rfl,imm,hs,m,h,f,g⟩
end
structure NL where
  pl:Option Addr
  lo:List zA
  cl:Nat
  csl:List Value
  ph:Option Addr
  hi:List zA
  ch:Nat
  csh:List Value
def NL.vl (x:NL):Value:=vS x.pl x.lo x.cl
def NL.vh (x:NL):Value:=vS x.ph x.hi x.ch
def NL.ha (x:NL):List HA:=[hO zA x.vh x.csh,hO zA x.vl x.csl]
def NL.raw (x:NL):Raw2:=⟨x.vl,x.vh⟩
def NL.d (x:NL):zE:=⟨x.lo,x.hi⟩
def NL.ok (imm:Imm) (x:NL):Prop:=RL imm x.csl x.lo/\RL imm x.csh x.hi
def NL.fz (imm:Imm) (x:NL):Prop:=SL imm x.vl x.lo/\SL imm x.vh x.hi
theorem NL.ok.mono {i j:Imm} (h:i.le j) {x:NL} (hx:x.ok i):x.ok j:=⟨RepL.mono (fun _ _=>Rp.mono h) hx.1,RepL.mono (fun _ _=>Rp.mono h) hx.2⟩
theorem NL.fz.mono {i j:Imm} (h:i.le j) {x:NL} (hx:x.fz i):x.fz j:=⟨hx.1.mono h,hx.2.mono h⟩
abbrev NLs (xs:List NL):List HA:=xs.flatMap NL.ha
theorem zNV {xs:List NL}{k:Nat}{x:NL} (h:xs[k]?=some x):∃ ys,(NLs xs).Perm (x.ha++NLs ys)/\(∀ y∈ys,y∈xs)/\∀ i:Nat,∀ y,i ≠ k->xs[i]?=some y->y∈ys:=by
  obtain ⟨hk,rfl⟩:=cm.1 h;refine ⟨xs.eraseIdx k,?_,fun y hy=>List.mem_of_mem_eraseIdx hy,fun i y hi hy=>List.mem_eraseIdx_iff_getElem?.2 ⟨i,hi,hy⟩⟩;have:=(jF h).flatMap_right NL.ha;simpa [NLs] using this
section
variable {P:Program}{n:Nat}{B:Base}{Q:Exit->Act->World->Prop}{hs:List HA}{m:FM}
theorem zBi {c:Code}:∀ (xs:List NL) {imm:Imm},(∀ x∈xs,x.ok imm)->(∀ aq,imm.le aq->(∀ x∈xs,x.fz aq)->J P n B c Q aq hs m)->J P n B c Q imm (NLs xs++hs) m
  | [],imm,_,h=>h imm (Imm.le.refl _) (fun _ h=>by cases h)
  | x::xs,imm,hx,h=>by
    have h1:=hx x (cj ..)
    show J P n B c Q imm (hO zA x.vh x.csh::hO zA x.vl x.csl::(NLs xs++hs)) m
    refine pH 0 rfl ?_
    intro imm1 af hl1
    have k1:=SL.of_frozen hl1 af h1.2
    refine pH 0 rfl ?_
    intro imm2 aF hl2
    have k2:=SL.of_frozen hl2 aF (RepL.mono (fun _ _=>Rp.mono af) h1.1)
    refine zBi xs (fun y hy=>(hx y (ci _ hy)).mono (af.trans aF)) ?_
    intro imm3 aK h3
    refine h imm3 ((af.trans aF).trans aK) fun y hy=>?_
    rcases cK.1 hy with rfl | hy
    · exact ⟨k2.mono aK,(k1.mono aF).mono aK⟩
    · exact h3 y hy
end
theorem zHS {α β:Type}{f:α->β}{l:List α}{i:Int}{y:β} (h:idx (l.map f) i=some y):∃ x,idx l i=some x/\y=f x:=by
  obtain ⟨h0,h1,h2⟩:=vU h;rw [d8,Option.map_eq_some_iff] at h2;obtain ⟨x,h3,rfl⟩:=h2;exact ⟨x,by unfold idx; rw [if_pos h0,h3],rfl⟩
theorem zCM {α β:Type}{f:α->β}{l:List α}{i:Int}{x:α} (h:idx l i=some x):idx (l.map f) i=some (f x):=by
  obtain ⟨h0,h1,h2⟩:=vU h;unfold idx; rw [if_pos h0,d8,h2]; rfl
section
variable {P:Program}{n:Nat}{B:Base}{Q:Exit->Act->World->Prop}{hs:List HA}{m:FM}{imm:Imm}
theorem zNW {c:Code}{xs:List NL}{i:Int}{x:NL} (hx:idx xs i=some x) (cb:∀ x∈xs,x.ok imm) (h:∀ aq,imm.le aq->(∀ (j:Nat) y,j ≠ i.toNat->xs[j]?=some y->y.fz aq)->J P n B c Q aq (hO zA x.vh x.csh::hO zA x.vl x.csl::hs) m):J P n B c Q imm (NLs xs++hs) m:=by
  obtain ⟨h0,h1,h2⟩:=vU hx;obtain ⟨ys,k1,k2,k3⟩:=zNV h2;refine zJ6 (NLs ys++(x.ha++hs)) ?_ ?_
  · rw [<- cq];exact (dz.trans k1.symm).append_right hs
  · refine zBi ys (fun y hy=>cb y (k2 y hy)) ?_;intro imm1 af hf;exact h imm1 af fun j y hj hy=>hf y (k3 j y hj hy)
end
def PW (imm:Imm) (am:List Raw2) (nest:List zE):Prop:=am.length=nest.length/\∀ (j:Nat) r d,am[j]?=some r->nest[j]?=some d->SL imm r.a d.Lo/\SL imm r.b d.Hi
theorem PW.rl {imm:Imm}:∀ {am:List Raw2}{nest:List zE},PW imm am nest->RL imm (flat am) nest
  | [],[],_=>rfl
  | [],_::_,h=>by cases h.1
  | _::_,[],h=>by cases h.1
  | r::am,d::nest,h=>⟨[r.a,r.b],flat am,rfl,rfl,qM ⟨_,_,rfl,h.2 0 r d rfl rfl⟩,PW.rl ⟨by have:=h.1; simpa using this,fun j r' d' h1 h2=>h.2 (j+1) r' d' (by simpa using h1) (by simpa using h2)⟩⟩
theorem zJ7 {imm:Imm}{xs:List NL}{k:Nat}{r:Raw2}{d:zE} (hfz:∀ (j:Nat) y,j ≠ k->xs[j]?=some y->y.fz imm) (hr:SL imm r.a d.Lo/\SL imm r.b d.Hi):PW imm ((xs.map NL.raw).set k r) ((xs.map NL.d).set k d):=by
  refine ⟨by simp,fun j r' d' h1 h2=>?_⟩;by_cases hj:j=k
  · subst hj;rw [List.getElem?_set_self' ] at h1 h2;cases hx:xs[j]? with
    | none=>simp [hx] at h1
    | some y =>
      simp [hx] at h1 h2;subst h1; subst h2;exact hr
  · rw [List.getElem?_set_ne (fun e=>hj e.symm),d8,Option.map_eq_some_iff] at h1 h2;obtain ⟨y,h3,rfl⟩:=h1;obtain ⟨y',h4,rfl⟩:=h2;rw [h3] at h4;cases h4
    exact hfz j y hj h3
theorem NL.shut {imm:Imm}{x:NL} (h:x.fz imm):Rp.rep imm [x.vl,x.vh] x.d:=qM ⟨_,_,rfl,h.1,h.2⟩
theorem zHg {imm:Imm}:∀ {xs:List NL},(∀ x∈xs,x.fz imm)->RL imm (flat (xs.map NL.raw)) (xs.map NL.d)
  | [],_=>rfl
  | x::xs,h=>⟨[x.vl,x.vh],flat (xs.map NL.raw),rfl,rfl,NL.shut (h x (cj ..)),zHg fun y hy=>h y (ci _ hy)⟩
theorem LP.push {imm:Imm}{am:List Raw2}{parts:List zO}{vN vB vN' vB':Value}{nl nl':List zE}{bl bl':List zP} (h:LP imm am parts vN nl vB bl) (hN:SL imm vN nl) (hB:SL imm vB bl) {l1:List zO}
    (ha:app 48 parts [(⟨nl',bl'⟩:zO)]=some l1):LP imm (am++[⟨vN',vB'⟩]) l1 vN' nl' vB' bl':=by
  obtain ⟨hb,rfl⟩:=dU ha
  obtain ⟨h1,h2,h3⟩:=h
  refine ⟨?_,?_,.inr ⟨am,parts,rfl,rfl,?_⟩⟩
  · simp at hb ⊢; omega
  · simp [h2]
  · rcases h3 with ⟨rfl,rfl⟩ | ⟨rl,l,rfl,rfl,h4⟩
    · rfl
    · rw [zBO]
      exact h4.append (.single rfl (qN ⟨_,_,rfl,hN,hB⟩))
theorem LP.nil {imm:Imm}:LP imm [] [] (.slice none 0 0) [] (.slice none 0 0) []:=⟨by decide,rfl,.inl ⟨rfl,rfl⟩⟩
end Go.LN
namespace Go.LN
structure ND where
  nm:Str
  p:Option Addr
  d:List Int
  c:Nat
  cs:List Value
def ND.v (x:ND):Value:=vS x.p x.d x.c
def ND.ha (x:ND):HA:=hO Int x.v x.cs
def ND.raw (x:ND):Raw2:=⟨vT x.nm.l,x.v⟩
def ND.a (x:ND):zF:=⟨x.nm,x.d⟩
def ND.ok (imm:Imm) (x:ND):Prop:=RL imm x.cs x.d
def ND.fz (imm:Imm) (x:ND):Prop:=SL imm x.v x.d
theorem ND.ok.mono {i j:Imm} (h:i.le j) {x:ND} (hx:x.ok i):x.ok j:=RepL.mono (fun _ _=>Rp.mono h) hx
theorem ND.fz.mono {i j:Imm} (h:i.le j) {x:ND} (hx:x.fz i):x.fz j:=SL.mono h hx
section
variable {P:Program}{n:Nat}{B:Base}{Q:Exit->Act->World->Prop}{hs:List HA}{m:FM}
end
def RW (imm:Imm) (am:List Raw2) (A:List zF) (k:Nat) (w:Value):Prop:=am.length=A.length/\∀ (j:Nat) r d,am[j]?=some r->A[j]?=some d->r.a=vT d.Name.l/\(j ≠ k->SL imm r.b d.Dims)/\(j=k->r.b=w)
def ArW (imm:Imm) (v:Value) (am:List Raw2) (A:List zF) (k:Int) (w:Value):Prop:=SL imm v am/\RW imm am A k.toNat w
theorem ArW.mono {i j:Imm} (h:i.le j) {v:Value}{am:List Raw2}{A:List zF}{k:Int}{w:Value} (hx:ArW i v am A k w):ArW j v am A k w :=
  ⟨SL.mono h hx.1,hx.2.1,fun q r d h1 h2=>⟨(hx.2.2 q r d h1 h2).1,fun hq=>SL.mono h ((hx.2.2 q r d h1 h2).2.1 hq),(hx.2.2 q r d h1 h2).2.2⟩⟩
theorem RW.of {imm:Imm}{xs:List ND}{i:Int}{x:ND} (hx:idx xs i=some x) (h:∀ (j:Nat) y,j ≠ i.toNat->xs[j]?=some y->y.fz imm):RW imm (xs.map ND.raw) (xs.map ND.a) i.toNat x.v:=by
  obtain ⟨h0,h1,h2⟩:=vU hx;refine ⟨by simp,fun j r d hr hd=>?_⟩;rw [d8,Option.map_eq_some_iff] at hr hd;obtain ⟨y,hy,rfl⟩:=hr;obtain ⟨y',hy',rfl⟩:=hd;rw [hy] at hy';cases hy'
  refine ⟨rfl,fun hj=>h j y hj hy,fun hj=>?_⟩;subst hj;rw [h2] at hy;cases hy; rfl
theorem RW.at {imm:Imm}{am:List Raw2}{A:List zF}{k:Int}{w:Value} (h:RW imm am A k.toNat w) {a:zF} (ha:idx A k=some a):idx am k=some ⟨vT a.Name.l,w⟩:=by
  obtain ⟨h0,h1,h2⟩:=vU ha;have aE:=(cm.1 h2).1;have hr:am[k.toNat]?=some (am[k.toNat]'(by rw [h.1]; exact aE)):=cg _;obtain ⟨e1,_,e2⟩:=h.2 _ _ _ hr h2;unfold idx;rw [if_pos h0,hr]
  congr 1
  generalize am[k.toNat]'(by rw [h.1]; exact aE)=r at *;cases r
  simp only at e1 e2;rw [e1,e2 trivial]
theorem RW.rl {imm:Imm}:∀ {am:List Raw2}{A:List zF},am.length=A.length->(∀ (j:Nat) r d,am[j]?=some r->A[j]?=some d->r.a=vT d.Name.l/\SL imm r.b d.Dims)->RL imm (flat am) A
  | [],[],_,_=>rfl
  | [],_::_,h,_=>by cases h
  | _::_,[],h,_=>by cases h
  | r::am,d::A,h,hh=>⟨[r.a,r.b],flat am,rfl,rfl,by
      obtain ⟨e1,e2⟩:=hh 0 r d rfl rfl
      rw [e1]
      exact qU ⟨_,rfl,e2⟩,RW.rl (by simpa using h) fun j r' d' h1 h2=>hh (j+1) r' d' (by simpa using h1) (by simpa using h2)⟩
theorem RW.set {imm:Imm}{am:List Raw2}{A:List zF}{k:Int}{w:Value} (h:RW imm am A k.toNat w) {a:zF} (ha:idx A k=some a) {d:List Int} (hd:SL imm w d):RL imm (flat am) (A.set k.toNat ⟨a.Name,d⟩):=by
  obtain ⟨h0,h1,h2⟩:=vU ha;refine RW.rl (by rw [cM]; exact h.1) fun j r y hr hy=>?_;by_cases hj:j=k.toNat
  · subst hj;rw [List.getElem?_set_self (cm.1 h2).1] at hy;cases hy
    obtain ⟨e1,_,e2⟩:=h.2 _ r a hr h2;exact ⟨e1,by rw [e2 rfl]; exact hd⟩
  · rw [List.getElem?_set_ne (fun e=>hj e.symm)] at hy;obtain ⟨e1,e2,_⟩:=h.2 _ r y hr hy;exact ⟨e1,e2 hj⟩
theorem ArW.done {imm:Imm}{p:Option Addr}{c:Nat}{am:List Raw2}{A:List zF}{k:Int}{w:Value} (h:ArW imm (vS p am c) am A k w) {a:zF} (ha:idx A k=some a) {d:List Int} (hd:SL imm w d):SL imm (vS p (A.set k.toNat ⟨a.Name,d⟩) c) (A.set k.toNat ⟨a.Name,d⟩):=by
  obtain ⟨⟨aQ,h1,h2⟩,h3⟩:=h;refine ⟨aQ,?_,?_⟩
  · have e:(vS p (A.set k.toNat ⟨a.Name,d⟩) c)=vS p am c:=by simp only [vS,cM,h3.1]
    rw [e]; exact h1
  · rw [jR h2]; exact h3.set ha hd
section
variable {P:Program}{n:Nat}{B:Base}{imm:Imm}{hs:List HA}{m:FM}
end
end Go.LN
namespace Go.LN
structure NB where
  vN:Value
  nl:List zE
  p:Option Addr
  d:List zP
  c:Nat
  cs:List Value
def NB.v (x:NB):Value:=vS x.p x.d x.c
def NB.ha (x:NB):HA:=hO zP x.v x.cs
def NB.raw (x:NB):Raw2:=⟨x.vN,x.v⟩
def NB.a (x:NB):zO:=⟨x.nl,x.d⟩
def NB.ok (imm:Imm) (x:NB):Prop:=SL imm x.vN x.nl/\RL imm x.cs x.d
def NB.fz (imm:Imm) (x:NB):Prop:=SL imm x.vN x.nl/\SL imm x.v x.d
theorem NB.ok.mono {i j:Imm} (h:i.le j) {x:NB} (hx:x.ok i):x.ok j:=⟨SL.mono h hx.1,RepL.mono (fun _ _=>Rp.mono h) hx.2⟩
theorem NB.fz.mono {i j:Imm} (h:i.le j) {x:NB} (hx:x.fz i):x.fz j:=⟨SL.mono h hx.1,SL.mono h hx.2⟩
theorem NB.shut {imm:Imm}{x:NB} (h:x.fz imm):Rp.rep imm [x.vN,x.v] x.a:=qN ⟨_,_,rfl,h.1,h.2⟩
section
variable {P:Program}{n:Nat}{B:Base}{Q:Exit->Act->World->Prop}{hs:List HA}{m:FM}
end
end Go.LN
namespace Go.LN
open Go.Proofs
end Go.LN
namespace Go.LN
structure Raw1 where
  v:Value
instance:Rp Raw1 where
  sz:=1
  pos:=hY
  rep _ cs r:=cs=[r.v]/\r.v.oneCell'=true
  len h:=by obtain ⟨rfl,_⟩:=h; rfl
  mono _ h:=h
  one h:=by obtain ⟨rfl,h1⟩:=h; simp [h1]
def rv (R:List Raw1):List Value:=R.map Raw1.v
theorem zCN {imm:Imm}:∀ {R:List Raw1}{cs:List Value},RL imm cs R->cs=rv R
  | [],cs,h=>h
  | r::R,cs,⟨c1,c2,h1,_,h3,h4⟩=>by rw [h1,h3.1,zCN h4]; rfl
theorem app1 {by':Nat}{β:Type}{l y:List β}{z:β}{R:List Raw1}{r:Raw1} (h:app by' l [z]=some y) (hl:R.length=l.length):app by' R [r]=some (R++[r]):=by
  have:=(dU h).1;unfold app;rw [if_pos (by simpa [hl] using this)]
def GN {β:Type} [Rp β] (imm:Imm) (xs:List (List β)) (X:List Raw1) (y:List β) (v:Value):Prop :=
  (xs=[]/\X=[]/\y=[]/\v=.slice none 0 0)∨∃ init Xi,xs=init++[y]/\X=Xi++[⟨v⟩]/\RL imm (rv Xi) init/\xs.length<=10000000000000
section
variable {β:Type} [Rp β] {imm:Imm}{xs:List (List β)}{X:List Raw1}{y:List β}{v:Value}
theorem GN.mono {j:Imm} (hl:imm.le j) (h:GN imm xs X y v):GN j xs X y v:=by
  rcases h with h | ⟨init,Xi,h1,h2,h3,h4⟩
  · exact .inl h
  · exact .inr ⟨init,Xi,h1,h2,RepL.mono (fun _ _=>Rp.mono hl) h3,h4⟩
theorem zNX {init:List (List β)}{Xi:List Raw1} (h:RL imm (rv Xi) init):Xi.length=init.length:=by
  have:=h.length;simpa [rv,show Rp.sz (List β)=1 from rfl] using this
theorem GN.len (h:GN imm xs X y v):X.length=xs.length:=by
  rcases h with ⟨rfl,rfl,_⟩ | ⟨init,Xi,rfl,rfl,h3,_⟩
  · rfl
  · simp [zNX h3]
theorem GN.all (h:GN imm xs X y v) (hs:SL imm v y):RL imm (rv X) xs:=by
  rcases h with ⟨rfl,rfl,_⟩ | ⟨init,Xi,rfl,rfl,h3,_⟩
  · exact RepL.nil
  · have e:rv (Xi++[⟨v⟩])=rv Xi++[v]:=by simp [rv]
    rw [e];exact h3.append ⟨[v],[],rfl,rfl,⟨v,rfl,hs⟩,rfl⟩
theorem GN.push (h:GN imm xs X y v) (hs:SL imm v y) (hb:(xs.length+1)*24<=140737488355328):GN imm (xs++[[]]) (X++[⟨.slice none 0 0⟩]) [] (.slice none 0 0) :=
  .inr ⟨xs,X,rfl,rfl,h.all hs,by simp; omega⟩
theorem zP0 {n:Nat} (h:n<=10000000000000):W (((n+1:Nat):Int) - 1)=(n:Int):=by rw [sT (by omega) (by omega)]; omega
theorem GN.last (h:GN imm xs X y v) {z:List β} (hz:idx xs (W ((xs.length:Int) - 1))=some z):z=y/\idx X (W ((X.length:Int) - 1))=some ⟨v⟩/\W ((X.length:Int) - 1)=W ((xs.length:Int) - 1) /\
    ∀ (y':List β) (v':Value),GN imm (xs.set (W ((xs.length:Int) - 1)).toNat y') (X.set (W ((X.length:Int) - 1)).toNat ⟨v'⟩) y' v':=by
  rcases h with ⟨rfl,rfl,_⟩ | ⟨init,Xi,rfl,rfl,h3,h4⟩
  · obtain ⟨_,_,h2⟩:=vU hz
    simp at h2
  · have hl:=zNX h3
    simp only [da,ee] at hz h4 ⊢
    have e1:=zP0 (n:=init.length) (by omega)
    rw [e1] at hz
    rw [hl,e1]
    refine ⟨?_,?_,rfl,fun y' v'=>?_⟩
    · have:=(vU hz).2.2
      simp at this
      exact this.symm
    · unfold idx
      simp [hl]
    · rw [gh]
      refine .inr ⟨init,Xi,?_,?_,h3,?_⟩
      · simp
      · simp [<- hl]
      · simp; omega
end
theorem zNY {α:Type}{l:List α}{i:Int}{x y:α} (h:idx l i=some x):idx (l.set i.toNat y) i=some y:=by
  obtain ⟨h0,h1,h2⟩:=vU h;unfold idx;rw [if_pos h0,List.getElem?_set_self (cm.1 h2).1]
def FS1 {σ α β:Type} [Vr α] [Vr β] (P:Program) (imm:Imm) (hsS:σ->List HA) (v:Value) (φ:α->σ->Option (β×σ)):Prop :=
  ∃ f first cap,v=.func (.func f) ⟨first⟩ ⟨cap⟩/\callable P f=true/\∀ aq,imm.le aq->∀ a s r va,φ a s=some r->Vr.rep aq va a->Ret P f (first++[va]++cap) aq (hsS s) fun _ i ah u=>ah=hsS r.2/\Vr.rep i u r.1
theorem FS1.mono {σ α β:Type} [Vr α] [Vr β] {P:Program}{i j:Imm}{hsS:σ->List HA}{v:Value}{φ:α->σ->Option (β×σ)} (hl:i.le j) (h:FS1 P i hsS v φ):FS1 P j hsS v φ:=by
  obtain ⟨f,first,cap,h1,h2,h3⟩:=h;exact ⟨f,first,cap,h1,h2,fun aq h'=>h3 aq (hl.trans h')⟩
theorem FS1.intro {σ α β:Type} [Vr α] [Vr β] {P:Program}{imm:Imm}{hsS:σ->List HA}{f:FuncId}{first cap:List Value}{φ:α->σ->Option (β×σ)} (h:∀ aq,imm.le aq->∀ a s r va,φ a s=some r->Vr.rep aq va a->Ret P f (first++[va]++cap) aq (hsS s) fun _ i ah u=>ah=hsS r.2/\Vr.rep i u r.1)
    (hc:callable P f=true:=by kernel_rfl):FS1 P imm hsS (.func (.func f) ⟨first⟩ ⟨cap⟩) φ:=⟨f,first,cap,rfl,hc,h⟩
section
variable {P:Program}{n:Nat}{B:Base}{ae:List Oper}{Q:Exit->Act->World->Prop}{pc:Nat}{imm:Imm}{hs:List HA}{m:FM}{d:Nat}
  {ty:TypeId}{pos:String}{after:Array Edge}{g:Option (Nat×Bool)}
theorem zQO {σ α β:Type} [Vr α] [Vr β] {x y:Operand}{ts:Array TypeId}{v va:Value}{a:α}{s:σ}{r:β×σ}{φ:α->σ->Option (β×σ)}{hsS:σ->List HA}{rest:List HA}
    (ho:ae[pc]?=some ⟨some d,.call { callee:=.value x,args:=#[y],argTypes:=ts },ty,pos,after,g⟩) (hy:val m y=some va) (hF:FS1 P imm hsS v φ) (hr:φ a s=some r) (ha:Vr.rep imm va a) (hh:hs=hsS s++rest)
    (next:∀ aq u,imm.le aq->Vr.rep aq u r.1->R P n B ae Q (pc+1) aq (hsS r.2++rest) ((d,u)::m)) (hx:val m x=some v:=by kernel_rfl) (hg:guardB ae m g=some true:=by kernel_rfl) (hn:Nat.blt d n=true:=by kernel_rfl):R P n B ae Q pc imm hs m:=by
  obtain ⟨f,first,cap,rfl,hf,hc⟩:=hF
  refine zLx ho hx hf (vs:=[va]) (by simp [vals,hy]) hh (hc imm (Imm.le.refl _) a s r va hr ha) ?_ hg hn
  rintro aq ah u k hl hk ⟨rfl,h⟩ -
  exact next aq u hl h
end
end Go.LN
namespace Go.LN
section
variable {P:Program}{n:Nat}{B:Base}{Q:Exit->Act->World->Prop}{imm:Imm}{hs:List HA}{m:FM}{ae:List Oper}{pc d:Nat}{ty:TypeId}{pos:String}{after:Array Edge}{g:Option (Nat×Bool)}
end
theorem zJH {B:Base}{imm:Imm} (a b:List HA):∀ w,Good B imm (a++b) w->Good B imm (b++a) w:=fun _ h=>h.perm dz
end Go.LN
namespace Go.LN
def clrL {α:Type} (l:List α) (i:Int) (z:α):Option (List α):=if 0<=i/\i<=(l.length:Int) then some (l.take i.toNat++List.replicate (l.length - i.toNat) z) else none
theorem zMd {zc:List Value} (hz:0<zc.length) (n:Nat):(Builtin.zeroCells ⟨zc⟩ (n+1)).toList=zc++(Builtin.zeroCells ⟨zc⟩ n).toList:=by
  have e:∀ k,(Builtin.zeroCells ⟨zc⟩ k).toList=(List.range (k*zc.length)).map fun i=>zc[i % zc.length]!:=fun k=>by
    unfold Builtin.zeroCells;simp [List.size_toArray]
  rw [e,e];refine fq (by simp [em]; omega) fun i h1 h2=>?_;rw [List.getElem_map,gv];by_cases hi:i<zc.length
  · rw [List.getElem_append_left hi,Nat.mod_eq_of_lt hi,getElem!_pos zc i hi]
  · rw [List.getElem_append_right (by omega),List.getElem_map,gv,Nat.mod_eq_sub_mod (by omega)]
theorem zKX {α:Type} [Rp α] {imm:Imm}{zc:List Value}{z:α} (h:Rp.rep imm zc z):∀ n,RL imm (Builtin.zeroCells ⟨zc⟩ n).toList (List.replicate n z)
  | 0=>by
    have:(Builtin.zeroCells ⟨zc⟩ 0).toList=[]:=by unfold Builtin.zeroCells; simp
    rw [this]; exact RepL.nil
  | n+1=>by
    have hl:zc.length=Rp.sz α:=Rp.len h
    have hp:=Rp.pos (α:=α)
    rw [zMd (by omega),List.replicate_succ]
    exact RepL.append (RepL.single hl h) (zKX h n)
section
variable {P:Program}{n:Nat}{B:Base}{ae:List Oper}{Q:Exit->Act->World->Prop}{pc:Nat}{imm:Imm}{hs:List HA}{m:FM}{d:Nat}
def clrT (P:Program) (t:TypeId):Option (Nat×Array Value):=match P.underlying t with
  | some (.slice e)=>match sizeT P e,zeroC P e with
    | some s,some z=>some (s,z)
    | _,_=>none
  | _=>none
theorem zQP {o:Oper} (ho:ae[pc]?=some o) (hg:guardB ae m o.guard=some true) (hd:o.dst=none)
    (h:∀ a w,Fr n a m->Good B imm hs w->∃ v w' aq ah,(execOp a.eval o).run P w=.ok (.value v) w'/\Good B aq ah w'/\R P n B ae Q (pc+1) aq ah m):R P n B ae Q pc imm hs m :=
  zH3 ho hg fun a w f g=>by
    obtain ⟨v,w',aq,ah,h1,h2,h3⟩:=h a w f g
    unfold Oper.wp
    rw [h1]
    simp only [Oper.upon,hd]
    exact h3 _ w' f h2
theorem zQQ {α:Type} [Rp α] {t:TypeId}{x:Operand}{lo:Option Operand}{ty ty2:TypeId}{pos pos2:String}{after after2:Array Edge}{v:Value}{i:Int}{cs:List Value}{l y:List α} (z:α) (zc:List Value) (j:Nat)
    (ho:ae[pc]?=some ⟨some d,.slice t x lo none none,ty,pos,after,none⟩) (ho2:ae[pc+1]?=some ⟨none,.call { callee:=.builtin .clear,args:=#[.tmp d],argTypes:=#[t] },ty2,pos2,after2,none⟩)
    (hj:hs[j]?=some (.osl v (Rp.sz α) cs)) (hlo:bnd m 0 lo=some i) (hr:RL imm cs l) (hy:clrL l i z=some y) (hzr:Rp.rep imm zc z)
    (next:∀ cs' v',RL imm cs' y->y.length=l.length->R P n B ae Q (pc+2) imm (hs.set j (.osl v (Rp.sz α) cs')) ((d,v')::m))
    (hn:Nat.blt d n=true:=by kernel_rfl) (hx:val m x=some v:=by kernel_rfl) (ht:clrT P t=some (Rp.sz α,⟨zc⟩):=by kernel_rfl):R P n B ae Q pc imm hs m:=by
  unfold clrL at hy
  split at hy
  · rename_i hb
    cases hy
    have aV:=hr.length
    have hzp:=Rp.pos (α:=α)
    have hzl:zc.length=Rp.sz α:=Rp.len hzr
    have ca:=Rp.one hzr
    obtain ⟨e,hu,hse,hz⟩:∃ e,P.underlying t=some (.slice e)/\sizeT P e=some (Rp.sz α)/\zeroC P e=some ⟨zc⟩:=by
      unfold clrT at ht
      split at ht
      · rename_i e hq
        split at ht
        · rename_i s zz h1 h2
          injection ht with ht
          injection ht with h3 h4
          subst h3; subst h4
          exact ⟨e,hq,h1,h2⟩
        · cases ht
      · cases ht
    obtain ⟨zv,hzv,hzc⟩:∃ zv,(∀ w,(zeroValue e).run P w=.ok zv w)/\zv.cells=⟨zc⟩:=by
      have hz':=hz
      unfold zeroC at hz'
      cases hi:P.info? e with
      | none=>rw [hi] at hz'; cases hz'
      | some q =>
        rw [hi] at hz'
        simp only [Option.bind_some] at hz'
        cases hq:q.zero with
        | none=>rw [hq] at hz'; cases hz'
        | some zv =>
          rw [hq] at hz'
          simp only [Option.map_some,Option.some.injEq] at hz'
          exact ⟨zv,fun w=>by simp [zeroValue,typeInfo,hi,hq],hz'⟩
    have hzr2:=zKX hzr (l.length - i.toNat)
    have hrt:=(hr.take i.toNat).append hzr2
    refine mS ho rfl rfl hn fun a w f gd=>?_
    have step:∀ (ad:Option Addr) (cap:Nat),v=.slice ad l.length cap->l.length<=cap ->
        ∃ v' w' aq ah,(execOp a.eval ⟨some d,.slice t x lo none none,ty,pos,after,none⟩).run P w=.ok (.value v') w'/\Good B aq ah w'/\R P n B ae Q (pc+1) aq ah ((d,v')::m):=by
      intro ad cap hv hlc
      subst hv
      have hbd:=dI (P:=P) (w:=w) (hi:=none) (k:=(l.length:Int)) f hlo rfl hb.1 hb.2 (Int.le_refl _) hlc
      refine ⟨.slice (if cap=i.toNat then ad else ad.map (·.add (i.toNat*Rp.sz α))) (l.length - i.toNat) (cap - i.toNat),w,imm,hs,?_,gd,?_⟩
      · rw [gh,Option.map_none] at hbd
        simp only [execOp,f.eval hx,Option.map_none,Instr.sliceAt,Instr.slice,Sem.run_bind,yY hu,Result.andThen_ok,hbd,qX hse,Sem.run_pure]
      · refine zQP ho2 rfl rfl fun a2 w2 f2 gd2=>?_
        have hv2:a2.eval (.tmp d)=.slice (if cap=i.toNat then ad else ad.map (·.add (i.toNat*Rp.sz α))) (l.length - i.toNat) (cap - i.toNat):=f2.eval (by simp [val,look])
        by_cases h0:l.length - i.toNat=0
        · have hil:i.toNat=l.length:=by omega
          have bV:(cs.take (i.toNat*Rp.sz α))++(Builtin.zeroCells ⟨zc⟩ (l.length - i.toNat)).toList=cs:=by
            rw [h0,hil,<- aV]
            have:(Builtin.zeroCells ⟨zc⟩ 0).toList=[]:=by unfold Builtin.zeroCells; simp
            rw [this]; simp
          rw [bV] at hrt
          have hN:=next cs (.slice (if cap=i.toNat then ad else ad.map (·.add (i.toNat*Rp.sz α))) (l.length - i.toNat) (cap - i.toNat)) hrt (by simp; omega)
          have hjl:=(cm.1 hj)
          rw [show hs.set j (.osl (.slice ad l.length cap) (Rp.sz α) cs)=hs from by
            obtain ⟨h1,h2⟩:=hjl
            rw [<- h2]; exact gj h1] at hN
          refine ⟨.tuple #[],w2,imm,hs,?_,gd2,hN⟩
          simp only [execOp,resolve,List.map_toArray,cH,eu,hv2,Sem.run_bind,Sem.run_pure,Result.andThen_ok,invoke,builtin,Builtin.clear_,ef,eq,yY hu,h0]
          generalize (if cap=i.toNat then ad else Option.map (fun x=>x.add (i.toNat*Rp.sz α)) ad)=q
          cases q <;> simp
        · have hic:cap ≠ i.toNat:=by omega
          rcases gd2.own _ (tQ hj) with ⟨e1,_⟩ | ⟨b,off,len,cap2,all,ty',e1,hp1,hp2,hw,hcap,hlc2,cd,bV,hcM⟩
          · injection e1 with e1 e2 e3
            omega
          · injection e1 with e1 e2 e3
            subst e1; subst e2; subst e3
            have hmul:∀ {p q:Nat},p<=q->p*Rp.sz α<=q*Rp.sz α:=fun h=>db _ h
            have m1:=hmul (show i.toNat<=l.length by omega)
            have m2:=hmul hlc2
            have hzl2:(Builtin.zeroCells ⟨zc⟩ (l.length - i.toNat)).toList.length=l.length*Rp.sz α - i.toNat*Rp.sz α:=by
              rw [er,zCt]
              show (l.length - i.toNat)*zc.length=_
              rw [hzl,gp]
            have hone2:=RepL.one (fun c a h=>Rp.one h) hzr2
            have hblt:b<w2.heap.size:=((gd2.own _ (tQ hj)).lt (by simp [HA.fp])).1
            have hst:=dS (P:=P) (off:=off+i.toNat*Rp.sz α) (Builtin.zeroCells ⟨zc⟩ (l.length - i.toNat)).toList 0 all w2 hw hone2 (by rw [hzl2]; omega)
            have hcd:cs.drop (i.toNat*Rp.sz α+(Builtin.zeroCells ⟨zc⟩ (l.length - i.toNat)).toList.length)=[]:=dc.2 (by rw [hzl2]; omega)
            have hN:=next _ (.slice (if cap=i.toNat then some ⟨b,off,none⟩ else (some (⟨b,off,none⟩:Addr)).map (·.add (i.toNat*Rp.sz α))) (l.length - i.toNat) (cap - i.toNat)) hrt (by simp; omega)
            refine ⟨.tuple #[],setBlk w2 b (.cells (wr all (off+i.toNat*Rp.sz α+0) (Builtin.zeroCells ⟨zc⟩ (l.length - i.toNat)).toList) ty' (0,0)),imm,_,?_,?_,hN⟩
            · obtain ⟨q,hq⟩:∃ q,l.length - i.toNat=q+1:=⟨l.length - i.toNat - 1,by omega⟩
              rw [hq] at hv2 hst ⊢
              simp only [execOp,resolve,List.map_toArray,cH,eu,hv2,if_neg hic,Option.map_some,kQ,Sem.run_bind,Sem.run_pure,Result.andThen_ok,invoke,builtin,Builtin.clear_,ef,eq,yY hu,hzv,hzc,hst]
            · refine gd2.write_at hj (by simp [HA.fp]) (by simp [HA.fp]) _ (.inr ⟨b,off,l.length,cap,_,ty',rfl,hp1,hp2,dO hblt,by rw [zJX]; exact hcap,hlc2,?_,?_,hcM⟩)
              · rw [da,cw,hzl2]; omega
              · rw [zFt _ _ _ (by rw [hzl2]; omega),<- bV]
                have:=zGh all.toList (Builtin.zeroCells ⟨zc⟩ (l.length - i.toNat)).toList off (l.length*Rp.sz α) (i.toNat*Rp.sz α) (by rw [hzl2]; omega) (by simp; omega)
                rw [bV,hcd,cy] at this
                rw [Nat.add_zero,this,bV]
    rcases gd.own _ (tQ hj) with ⟨rfl,rfl⟩ | ⟨b,off,len,cap,all,ty',rfl,hp1,hp2,hw,hcap,hlc,cd,bV,hcM⟩
    · have hl0:l.length=0:=by
        have:l.length*Rp.sz α=0:=by rw [<- aV]; rfl
        rcases gr.1 this with h | h <;> omega
      exact step none 0 (by rw [hl0]) (by omega)
    · have hll:len=l.length:=oX hzp (by omega)
      subst hll
      exact step _ cap rfl hlc
  · cases hy
end
end Go.LN
namespace Go.LN
open Go.Sort Go.Proofs
def cmpL:List Int->List Int->Int
  | [],[]=>0
  | [],_::_=>-1
  | _::_,[]=>1
  | a::s,b::t=>if a<b then -1 else if b<a then 1 else cmpL s t
theorem zJI:∀ a:List Int,cmpL a a=0
  | []=>rfl
  | a::s=>by rw [cmpL,if_neg (Int.lt_irrefl a),if_neg (Int.lt_irrefl a),zJI s]
theorem zBj:∀ a b:List Int,cmpL b a=- cmpL a b
  | [],[]=>rfl
  | [],_::_=>rfl
  | _::_,[]=>rfl
  | a::s,b::t=>by
    rw [cmpL,cmpL]
    by_cases h1:a<b
    · rw [if_pos h1,if_neg (by omega),if_pos h1]; rfl
    · by_cases h2:b<a
      · rw [if_pos h2,if_neg h1,if_pos h2]
      · rw [if_neg h1,if_neg h2,if_neg h2,if_neg h1,zBj s t]
theorem zJ8:∀ a b:List Int,cmpL a b=0->a=b
  | [],[],_=>rfl
  | [],_::_,h=>by simp [cmpL] at h
  | _::_,[],h=>by simp [cmpL] at h
  | a::s,b::t,h=>by
    rw [cmpL] at h
    split at h
    · cases h
    · split at h
      · cases h
      · rw [zJ8 s t h,show a=b by omega]
theorem zEN:∀ a b c:List Int,cmpL a b<0->cmpL b c<0->cmpL a c<0
  | [],[],c,h,_=>by simp [cmpL] at h
  | [],_::_,[],_,h=>by simp [cmpL] at h
  | [],_::_,_::_,_,_=>by simp [cmpL]
  | _::_,[],_,h,_=>by simp [cmpL] at h
  | _::_,_::_,[],_,h=>by simp [cmpL] at h
  | a::s,b::t,c::u,h1,h2=>by
    rw [cmpL] at h1 h2 ⊢
    by_cases k1:a<b
    · by_cases k2:b<c
      · rw [if_pos (by omega)]; decide
      · rw [if_neg k2] at h2
        by_cases k3:c<b
        · rw [if_pos k3] at h2; cases h2
        · rw [if_pos (by omega)]; decide
    · rw [if_neg k1] at h1
      by_cases k2:b<a
      · rw [if_pos k2] at h1; cases h1
      · rw [if_neg k2] at h1
        by_cases k3:b<c
        · rw [if_pos (by omega)]; decide
        · rw [if_neg k3] at h2
          by_cases k4:c<b
          · rw [if_pos k4] at h2; cases h2
          · rw [if_neg k4] at h2
            rw [if_neg (by omega),if_neg (by omega)]
            exact zEN s t u h1 h2
def ltL (a b:List Int):Bool:=decide (cmpL a b<0)
theorem swoL:SWO ltL where
  irrefl x:=by unfold ltL; rw [zJI]; rfl
  trans x y z h1 h2:=by
    unfold ltL at *
    simp only [decide_eq_true_eq] at *
    exact zEN x y z h1 h2
  ntrans x y z h1 h2:=by
    unfold ltL at *
    simp only [decide_eq_false_iff_not,Int.not_lt] at *
    have a1:=zBj x y
    have a2:=zBj y z
    have a3:=zBj x z
    by_cases h:cmpL x z<0
    · exfalso
      by_cases h3:0<cmpL y z
      · have:=zEN x z y h (by omega)
        omega
      · have e:y=z:=zJ8 y z (by omega)
        subst e
        omega
    · omega
theorem zP1 (x y:List Int) (h1:ltL x y=false) (h2:ltL y x=false):x=y:=by
  unfold ltL at *;simp only [decide_eq_false_iff_not,Int.not_lt] at *;have:=zBj x y;exact zJ8 x y (by omega)
def srtL (x:List (List Int)):List (List Int):=x.mergeSort fun a b=>!ltL b a
structure Lrow (imm:Imm) where
  v:Value
  l:List Int
  h:SL imm v l
  hb:l.length<4611686018427387904
instance {imm:Imm}:Inhabited (Lrow imm):=⟨⟨.slice none 0 0,[],SL.nil _,by decide⟩⟩
def cfR {imm:Imm} (x y:Lrow imm):Int:=cmpL x.l y.l
theorem swoR {imm:Imm}:SWO (ltOf (cfR (imm:=imm))) where
  irrefl x:=swoL.irrefl x.l
  trans x y z h1 h2:=swoL.trans x.l y.l z.l h1 h2
  ntrans x y z h1 h2:=swoL.ntrans x.l y.l z.l h1 h2
theorem zLz {imm:Imm}:∀ {s:List (List Int)}{cs:List Value},RL imm cs s->(∀ l∈s,l.length<4611686018427387904)->∃ ds:List (Lrow imm),ds.map (·.v)=cs/\ds.map (·.l)=s
  | [],cs,h,_=>⟨[],by have h:cs=[]:=h; rw [h]; rfl,rfl⟩
  | l::s,cs,⟨c1,c2,h1,_,h3,h4⟩,hb=>by
    obtain ⟨v,e,hv⟩:=h3
    obtain ⟨ds,e1,e2⟩:=zLz h4 fun l hl=>hb l (ci _ hl)
    exact ⟨⟨v,l,hv,hb l (cj ..)⟩::ds,by rw [h1,e,<- e1]; rfl,by show l::ds.map (·.l)=_; rw [e2]⟩
theorem zMA {imm:Imm}:∀ ds:List (Lrow imm),RL imm (ds.map (·.v)) (ds.map (·.l))
  | []=>rfl
  | d::ds=>⟨[d.v],ds.map (·.v),rfl,rfl,⟨d.v,rfl,d.h⟩,zMA ds⟩
theorem oneR {imm:Imm}:OneCell fun x:Lrow imm=>x.v:=fun x=>by
  obtain ⟨aQ,hs,_⟩:=x.h;rcases hs with ⟨e,_⟩ | ⟨b,off,len,cap,c,e,_⟩
  · show x.v.oneCell'=true;rw [e]; rfl
  · show x.v.oneCell'=true;rw [e]; rfl
theorem zEw {imm:Imm} (d:Array (Lrow imm)) (i:Nat):((d.map (·.l))[i]!)=(d[i]!).l:=by
  by_cases h:i<d.size
  · rw [getElem!_pos d i h,getElem!_pos _ i (by simpa using h)]; simp
  · rw [getElem!_neg d i h,getElem!_neg _ i (by simpa using h)]; rfl
theorem zP2 {imm:Imm}{d d':Array (Lrow imm)} (hp:PermIn 0 d.size d d') (hs:SortedIn (ltOf cfR) 0 d.size d'):d'.toList.map (·.l)=srtL (d.toList.map (·.l)):=by
  obtain ⟨h1,h2,h3⟩:=hp;have hP:PermIn 0 (d.map (·.l)).size (d.map (·.l)) (d'.map (·.l)):=by
    refine ⟨by simp [h1],fun i hi=>?_,?_⟩
    · rw [zEw,zEw];rw [Array.size_map] at hi;rw [h2 i hi]
    · have e1:d'.extract 0 d.size=d':=by rw [<- h1]; simp
      have e2:d.extract 0 d.size=d:=by simp
      rw [e1,e2] at h3;have e3:(d'.map (·.l)).extract 0 (d.map (·.l)).size=d'.map (·.l):=by
        rw [Array.size_map,<- h1,<- Array.size_map (f:=fun x:Lrow imm=>x.l) (xs:=d')]; simp
      have e4:(d.map (·.l)).extract 0 (d.map (·.l)).size=d.map (·.l):=by simp
      rw [e3,e4,dy,dy];exact h3.map _
  have hS:SortedIn ltL 0 (d.map (·.l)).size (d'.map (·.l)):=fun i j h0 hij hj=>by
    rw [zEw,zEw];rw [Array.size_map] at hj;exact hs i j h0 hij hj
  have:=sorted_unique_holds swoL zP1 (d.map (·.l)) (d'.map (·.l)) hP hS;rw [dy,dy] at this;exact this
theorem zNZ {imm aq:Imm}{w w':World}{hs:List HA} (g:Good ⟨w,imm,[]⟩ aq hs w'):∃ q os,w'=Sort.grow (w.drewN q) os:=by
  refine ⟨w'.drawn - w.drawn,w'.heap.extract w.heap.size w'.heap.size,?_⟩;have h1:=g.frm.drawn;have h2:=g.frm.size;have h3:w'.heap=w.heap++w'.heap.extract w.heap.size w'.heap.size:=by
    apply hC;intro k;rcases d5 k w.heap.size with hk | hk
    · rw [gz hk];exact g.frm.heap k hk (by simp)
    · rw [Array.getElem?_append_right hk,Array.getElem?_extract];split
      · congr 1; omega
      · rw [ew (by omega)]
  have h4:=g.frm.os;have h5:=g.frm.tape;have h6:=g.frm.output;cases w' with
  | mk heap tape drawn os output =>
    dsimp only at *;unfold Sort.grow World.drewN;have h7:drawn=w.drawn+(drawn - w.drawn):=by omega
    rw [<- h7,<- h3,h4,h5,h6]
theorem zL2 {imm:Imm}{w:World} (h:∀ b c,imm b=some c->∃ ty fr,w.heap[b]?=some (.cells c ty fr)):Good ⟨w,imm,[]⟩ imm [] w :=
  ⟨h,by simp,by simp,⟨rfl,rfl,rfl,cP _,fun _ _ _=>rfl,fun _ _ _=>rfl,cP _⟩⟩
theorem zKY {w:World}{b k:Nat}{f:Array Value->Array Value} (h:b ≠ k):(Sort.mapBlock w b f).heap[k]?=w.heap[k]?:=by
  unfold Sort.mapBlock;rw [Array.getElem?_modify,if_neg h]
theorem zN0 {P:Program}{g:FuncId}{imm:Imm}{b off n:Nat}{w:World} (hr:∀ x y:Lrow imm,Ret P g [x.v,y.v] imm [] fun _ _ ah u=>ah=[]/\u=.int .i64 (cmpL x.l y.l))
    (hi:∀ b c,imm b=some c->∃ ty fr,w.heap[b]?=some (.cells c ty fr)) (hb:imm b=none):CmpLays1 P g #[] (fun x:Lrow imm=>x.v) cfR b off n w:=fun m os dk _ x y=>by
  have hW:∀ b' c,imm b'=some c->∃ ty fr,(sortWorld (fun x:Lrow imm=>x.v) w b off m dk os).heap[b']?=some (.cells c ty fr):=fun b' c e=>by
    obtain ⟨ty,fr,e'⟩:=hi b' c e
    refine ⟨ty,fr,?_⟩
    have hne:b ≠ b':=by rintro rfl; rw [hb] at e; cases e
    have aE:b'<w.heap.size:=by
      rcases d5 b' w.heap.size with h | h
      · exact h
      · rw [ew h] at e'; cases e'
    have e2:(Sort.putRow (fun x:Lrow imm=>x.v) (Sort.ahead w m) b off dk).heap[b']?=some (.cells c ty fr):=by
      unfold Sort.putRow
      rw [zKY hne]; exact e'
    unfold sortWorld Sort.grow
    show (_++os)[b']?=_
    rw [gz (by rw [Sort.size_putRow]; exact aE)]
    exact e2
  have h:=hr x y _ (zL2 hW)
  rw [show (#[x.v,y.v] ++ #[]:Array Value)=([x.v,y.v]:List Value).toArray by simp]
  refine h.mono fun e w' he=>?_
  cases e with
  | returned u =>
    obtain ⟨i,ah,⟨rfl,rfl⟩,g'⟩:=he
    exact ⟨rfl,zNZ g'⟩
  | panicked c=>exact he.elim
  | outgrown=>exact he.elim
theorem zN1 {P:Program}{f g:FuncId}{imm:Imm}
    (hc:∀ (blk off cap:Nat) (d:Array (Lrow imm)) (w:World),CmpLays1 P g #[] (fun x:Lrow imm=>x.v) cfR blk off d.size w->Sort.Holds (fun x:Lrow imm=>x.v) w blk off d->blk<w.heap.size->d.size<4611686018427387904 ->
      Calls P f #[.slice (some ⟨blk,off,none⟩) d.size cap,.func (.func g) #[] #[]] w fun e w'=>e=.returned (.tuple #[])/\∃ d' n os,PermIn 0 d.size d d'/\SortedIn (ltOf cfR) 0 d.size d'/\w'=sortWorld (fun x:Lrow imm=>x.v) w blk off n d' os)
    (hn:∀ w:World,Calls P f #[.slice none 0 0,.func (.func g) #[] #[]] w fun e w'=>e=.returned (.tuple #[])/\∃ n os,w'=Sort.grow (w.drewN n) os)
    (hr:∀ x y:Lrow imm,Ret P g [x.v,y.v] imm [] fun _ _ ah u=>ah=[]/\u=.int .i64 (cmpL x.l y.l))
    {s:List (List Int)} (hs:s.length<4611686018427387904) (hsb:∀ l∈s,l.length<4611686018427387904) {p:Option Addr}{c:Nat}{cs:List Value} (h:RL imm cs s) {post:Nat->Imm->List HA->Value->Prop}
    (hp:∀ k cs',RL imm cs' (srtL s)->post k imm [hO (List Int) (vS p (srtL s) c) cs'] (tupV [])) :
    Ret P f [vS p s c,.func (.func g) #[] #[]] imm [hO (List Int) (vS p s c) cs] post:=by
  intro w gd
  obtain ⟨ds,e1,e2⟩:=zLz h hsb
  have hl:ds.length=s.length:=by rw [<- e2,d6]
  have hsl:(srtL s).length=s.length:=List.length_mergeSort s
  rcases gd.own _ (cj ..) with ⟨e,ecs⟩ | ⟨b,off,len,cap,all,ty,e,h1,h2,hw,hcap,hlc,cd,hal,hM⟩
  · injection e with k1 k2 k3
    have hs0:s=[]:=fo.1 k2
    subst hs0; subst k1; subst k3; subst ecs
    refine (hn w).mono fun e w' ⟨he,n,os,hw'⟩=>?_
    subst he; subst hw'
    have e0:srtL []=[]:=by simp [srtL]
    rw [e0] at hp
    exact ⟨imm,_,hp _ [] RepL.nil,gd.grow n os⟩
  · injection e with k1 k2 k3
    subst k1; subst k2; subst k3
    simp only [show Rp.sz (List Int)=1 from rfl,Nat.mul_one] at hcap cd hal
    have hcell:∀ q,q<s.length->all[off+q]?=some (ds.toArray[q]!).v:=by
      intro q hq
      have hq':q<ds.length:=by omega
      have h0:cs[q]?=some (ds.toArray[q]!).v:=by
        rw [<- e1,d8,cg hq',Option.map_some,getElem!_pos ds.toArray q (by simpa using hq')]
        simp
      rw [<- hal,eh,if_pos hq,d7,Array.getElem?_toList] at h0
      exact h0
    have hsz0:ds.toArray.size=s.length:=by simpa using hl
    have hH:Sort.Holds (fun x:Lrow imm=>x.v) w b off ds.toArray:=by
      intro q hq
      rw [hsz0] at hq
      refine ⟨?_,?_⟩
      · simp only [World.cell?,hw,Option.isSome_none,cJ,if_false]
        exact hcell q hq
      · simp only [World.frozen?,hw]
        simp
    have aE:b<w.heap.size:=(gd.mem_lt (b:=b) (by simp [HA.fp])).1
    have hc':=hc b off c ds.toArray w (zN0 hr gd.inv h2) hH aE (by omega)
    rw [hsz0] at hc'
    refine hc'.mono fun e w' ⟨he,d',n,os,hP,hS,hw'⟩=>?_
    subst he; subst hw'
    have hsr:d'.toList.map (·.l)=srtL s:=by rw [<- hsz0] at hP hS; rw [zP2 hP hS]; simp [e2]
    have hd':d'.size=s.length:=by rw [hP.1,hsz0]
    let all':=Sort.putCells (fun x:Lrow imm=>x.v) off d' all
    have bW:all'.size=all.size:=by simp [all',Sort.putCells]
    have hw2:Sort.putRow (fun x:Lrow imm=>x.v) (Sort.ahead w n) b off d'=setBlk (Sort.ahead w n) b (.cells all' ty (0,0)):=by
      unfold Sort.putRow Sort.mapBlock setBlk
      congr 1
      apply hC
      intro k
      rw [Array.getElem?_modify,gt]
      by_cases hk:b=k
      · subst hk
        have hw3:(Sort.ahead w n).heap[b]?=some (.cells all ty (0,0)):=hw
        have hlt':b<(Sort.ahead w n).heap.size:=aE
        rw [if_pos rfl,if_pos rfl,if_pos hlt',hw3]
        rfl
      · rw [if_neg hk,if_neg hk]
    have hg2:Good ⟨w,imm,(([hO (List Int) (vS (some ⟨b,off,none⟩) s c) cs]:List HA)).flatMap HA.fp⟩ imm [hO (List Int) (vS (some ⟨b,off,none⟩) s c) cs] (Sort.ahead w n):=gd.draw _ (gm _ _)
    have hget:∀ k,k<s.length->all'[off+k]?=some (d'[k]!).v:=by
      intro k hk
      have h0:=hcell k hk
      simp only [all',Sort.putCells,Array.getElem?_mapIdx,h0,Option.map_some]
      rw [if_pos ⟨by omega,by omega⟩,show off+k - off=k by omega]
    have hRL:RL imm (d'.toList.map (·.v)) (srtL s):=by rw [<- hsr]; exact zMA _
    have hlen':(d'.toList.map (·.v)).length=s.length:=by simp [hd']
    refine ⟨imm,_,hp _ (d'.toList.map (·.v)) hRL,?_⟩
    have hg3:Good ⟨w,imm,(([hO (List Int) (vS (some ⟨b,off,none⟩) s c) cs]:List HA)).flatMap HA.fp⟩ imm [hO (List Int) (vS (some ⟨b,off,none⟩) (srtL s) c) (d'.toList.map (·.v))] (Sort.putRow (fun x:Lrow imm=>x.v) (Sort.ahead w n) b off d'):=by
      rw [hw2]
      refine hg2.write (A':=.osl (vS (some ⟨b,off,none⟩) (srtL s) c) (Rp.sz (List Int)) (d'.toList.map (·.v))) (b:=b) (by simp [HA.fp]) (by simp [HA.fp]) _ (.inr ⟨b,off,_,c,all',ty,rfl,h1,h2,?_,?_,?_,?_,?_,hM⟩)
      · exact dO (show b<(Sort.ahead w n).heap.size from aE)
      · rw [bW,show Rp.sz (List Int)=1 from rfl,Nat.mul_one]; exact hcap
      · rw [hsl]; exact hlc
      · rw [hlen',hsl,show Rp.sz (List Int)=1 from rfl,Nat.mul_one]
      · apply fy
        intro k
        rw [show Rp.sz (List Int)=1 from rfl,Nat.mul_one,hsl,eh,d7,Array.getElem?_toList]
        by_cases hk:k<s.length
        · rw [if_pos hk,hget k hk,d8,Array.getElem?_toList,de (by omega),Option.map_some,getElem!_pos d' k (by omega)]
        · rw [if_neg hk,dd (by omega)]
    exact hg3.grow 0 os
end Go.LN
