/- Helper of the proof (see the last text). -/
import Derived.Test.YtkipogionmkncaaGreatDoorLnI
import Derived.Laws.BitsLemmas
import Derived.Sort.Grow
import Derived.Lib.LaidTab
import Derived.Lib.ItoaNum
import Derived.Lib.ItoaMem
import Derived.Sort.Row
import Derived.Lib.AtoiErrMem
import Derived.Lib.AtoiTie
import Derived.Lib.SplitLaws
import Derived.Lib.AtoiAll
import Derived.Shelf.SlicesE.Delete
import Derived.Lib.Join
import Derived.Laws.StructEq
set_option linter.unusedVariables false
set_option linter.unusedSimpArgs false
namespace Go.LN
def mkrow{α:Type}(bytes:Nat)(k:Int)(z:α):Option (List α):=if 0<=k/\k.toNat*bytes<=140737488355328 then some (List.replicate k.toNat z) else none
def zrow(z:Array Value)(k:Nat):List Value:=(List.range k).map λi=>z[i % z.size]!
theorem zOH(z:Array Value)(k:Nat)(h:0<z.size):(List.range z.size).map (λi=>z[(k*z.size+i) % z.size]!)=z.toList:=by
 refine List.ext_getElem (by simp) λi h1 h2=>?_;have hi:i<z.size:=by simpa using h1
 simp only[A7,List.getElem_range,Array.getElem_toList];have e:(k*z.size+i) % z.size=i:=by rw[Nat.add_comm,Nat.mul_comm,Nat.add_mul_mod_self_left,Nat.mod_eq_of_lt hi]
 rw[e];exact getElem!_pos z i hi
theorem zKv{α:Type}{ρ:List Value->α->Prop}{z:Array Value}{a:α}(hz:0<z.size)(h:ρ z.toList a):∀k,RepL ρ z.size (zrow z (k*z.size)) (List.replicate k a)
 | 0=>by simp[zrow,RepL]
 | k+1=>by
  have e:zrow z ((k+1)*z.size)=zrow z (k*z.size)++z.toList:=by
   unfold zrow
   rw[Ag,List.range_add,List.map_append,List.map_map]
   congr 1
   exact zOH z k hz
  rw[e,List.replicate_succ']
  exact(zKv hz h k).append (.single (by simp) h)
section
variable {P:Program}{n:Nat}{B:Base}{Q:Exit->Act->World->Prop}{imm:Imm}{hs:List HA}{m:FM}{af:List Oper}{pc d:Nat}{ty:TypeId}{pos:String}{after:Array Edge}{g:Option (Nat×Bool)}
def mkT(P:Program)(t:TypeId):Option (Nat×Nat×List Value):=
 match elemOfT P t with
 | some e=>match sizeT P e,bytesT P e,zeroC P e with
  | some s,some b,some z=>bif Nat.beq z.size s&&Nat.blt 0 b then some (s,b,z.toList) else none
  | _,_,_=>none
 | none=>none
theorem zRQ{α:Type}[Rp α]{t:TypeId}{x y:Operand}{k:Int}{a:α}{l:List α}(nr:Nat)(z:List Value)(ho:af[pc]?=some ⟨some d,.makeSlice t x y,ty,pos,after,g⟩)(hk:mkrow nr k a=some l)(hr:Rp.rep imm z a)
 (next:∀b cs,RL imm cs l->R P n B af Q (pc+1) imm (.osl (.slice (some ⟨b,0,none⟩) l.length l.length) (Rp.sz α) cs::hs) ((d,.slice (some ⟨b,0,none⟩) l.length l.length)::m))
 (hg:guardB af m g=some true:=by kernel_rfl) (hn:Nat.blt d n=true:=by kernel_rfl) (hx:val m x=some (.int .i64 k):=by kernel_rfl) (hy:val m y=some (.int .i64 k):=by kernel_rfl) (ht:mkT P t=some (Rp.sz α,nr,z):=by kernel_rfl) :
 R P n B af Q pc imm hs m:=by
 refine fC ho hg rfl hn λac w f gd=>?_
 unfold mkrow at hk
 split at hk
 ·rename_i hk0
  cases hk
  obtain⟨hk0,hkb⟩:=hk0
  unfold mkT at ht
  cases he:elemOfT P t with
  | none=>rw[he] at ht;cases ht
  | some e=>
   rw[he] at ht
   simp only at ht
   split at ht
   ·rename_i s b zc h1 h2 h3
    cases hq:Nat.beq zc.size s&&Nat.blt 0 b with
    | false=>rw[hq] at ht;cases ht
    | true=>
     rw[hq] at ht
     simp only[cond_true,Option.some.injEq,Prod.mk.injEq] at ht
     obtain⟨rfl,rfl,rfl⟩:=ht
     rw[xv] at hq
     have hzs:=zm hq.1
     have hb0:0<b:=by simpa using hq.2
     have hu:P.underlying t=some (.slice e):=by
      unfold elemOfT at he
      split at he <;> simp_all
     cases hie:P.info? e with
     | none=>simp[sizeT,hie] at h1
     | some ie=>
     have hsz':ie.size=Rp.sz α:=by simpa [sizeT,hie] using h1
     have hby':ie.bytes=b:=by simpa [bytesT,hie] using h2
     obtain⟨zv,hz1,qb⟩:=zAk (w:=w) h3
     have jq:0<zc.size:=by rw[hzs];exact Rp.pos
     have hkk:(k.toNat:Int)=k:=Int.toNat_of_nonneg hk0
     have cM:k.toNat<=k.toNat*b:=Nat.le_mul_of_pos_right _ hb0
     have hwr:IntKind.i64.wrap k=k:=by rw[IntKind.wrap_i64];omega
     have hmul:((ie.bytes:Int)*k)<=140737488355328:=by
      rw[<- hkk,hby',<- Int.natCast_mul,Nat.mul_comm]
      exact Int.ofNat_le.2 hkb
     have hnt:¬(k<0):=by omega
     have hnb:¬((ie.bytes:Int)*k>2 ^ 48):=by omega
     let row:Array Value:=if k.toNat*Rp.sz α=0 then #[] else(Array.range (k.toNat*Rp.sz α)).map (λi=>zc[i % zc.size]!)
     have vz:(((Array.range (k.toNat*ie.size)).map λi=>(if k.toNat*ie.size=0 then #[] else zc)[i % (if k.toNat*ie.size=0 then(#[]:Array Value) else zc).size]!))=⟨zrow zc (k.toNat*zc.size)⟩:=by
      rw[hsz',<- hzs]
      apply Array.ext'
      by_cases h0:k.toNat*zc.size=0
      ·simp[h0,zrow]
      ·simp[h0,zrow]
     have aP:(zrow zc (k.toNat*zc.size)).length=k.toNat*Rp.sz α:=by simp[zrow,hzs]
     have hg:=gd.alloc_osl ⟨zrow zc (k.toNat*zc.size)⟩ e (Rp.sz α) k.toNat k.toNat (zrow zc (k.toNat*zc.size)) (by show _<=(zrow _ _).length;rw[aP];exact zf _) (zf _) (by rw[<- aP];exact z7) aP (by omega)
     have uc:(List.replicate k.toNat a).length=k.toNat:=List.length_replicate
     rw[uc] at next
     refine⟨_,_,imm,_,?_,hg,next w.heap.size _ ?_⟩
     ·simp only[execOp,f.eval hx,f.eval hy,Instr.makeSlice,Sem.run_bind,xZ hu,Result.andThen_ok,asInt,asIntOf,Sem.run_pure,typeInfo,run_program,hie,hwr,hnt,hnb,ye,AN,xq,false_or,or_self,xt,Int.lt_irrefl,
       gt_iff_lt,run_askRoom,kZ h1]
      by_cases h0:k.toNat*Rp.sz α=0
      ·have:=vz
       rw[hsz'] at this
       simp only[h0,xu] at this ⊢
       simp only[Sem.run_pure,Result.andThen_ok,newRow,run_newObj,Sem.run_bind,this]
      ·have:=vz
       rw[hsz'] at this
       simp only[h0,xt] at this ⊢
       simp only[Sem.run_bind,hz1,qb,Sem.run_pure,Result.andThen_ok,newRow,run_newObj,this]
     ·have:=zKv (z:=zc) (a:=a) jq hr k.toNat
      rw[hzs] at this
      show RepL _ _ _ _
      rw[hzs]
      exact this
   ·cases ht
 ·cases hk
theorem zHf{f:FuncId}{first bi:List Value}{x:Operand}{xs:Array Operand}{ts:Array TypeId}{vs:List Value}{hs1 rest:List HA}{post:Nat->Imm->List HA->Value->Prop}
 (ho:af[pc]?=some ⟨some d,.call { callee:=.value x,args:=xs,argTypes:=ts },ty,pos,after,g⟩) (hx:val m x=some (.func (.func f) ⟨first⟩ ⟨bi⟩)) (hf:callable P f=true)
 (oc:vals m xs.toList=some vs) (hh:hs=hs1++rest) (hc:Ret P f (first++vs++bi) imm hs1 post)
 (next:∀am ah v k,imm.le am->B.w0.heap.size<=k->post k am ah v->(∀b∈ah.flatMap HA.fp,b∈hs1.flatMap HA.fp∨B.w0.heap.size<=b)->R P n B af Q (pc+1) am (ah++rest) ((d,v)::m)) (hg:guardB af m g=some true:=by kernel_rfl) (hn:Nat.blt d n=true:=by kernel_rfl):R P n B af Q pc imm hs m:=
 zJz ho hg λa w fr gd=>by
  subst hh
  have hargs:xs.map a.eval=vs.toArray:=by apply Array.ext';rw[Av,fr.evals oc]
  have hall:(⟨first⟩:Array Value)++vs.toArray++⟨bi⟩=(first++vs++bi).toArray:=by apply Array.ext';simp
  have jf:=gd.nodup
  rw[zu] at jf
  have hg1:=gd.enter (hs1:=hs1) (λA hA=>Ad _ hA) (zn.1 jf).1
  unfold Oper.wp
  simp only[execOp,resolve,Deferred.ofValue,fr.eval hx,hargs,Sem.run_bind,Sem.run_pure,Result.andThen_ok,invoke,hall,zFL hf,Oper.upon]
  refine(hc w hg1).mono λe w' he=>?_
  cases e with
  | returned v=>
   obtain⟨am,ah,hp,n6⟩:=he
   obtain⟨g2,cM,u5⟩:=gd.leave n6
   exact next am ah v w.heap.size cM gd.frm.size hp u5 _ w' (fr.put d v (by simpa using hn)) g2
  | panicked c=>exact he.elim
  | outgrown=>exact he.elim
end
class Vr (α:Type) where
 rep:Imm->Value->α->Prop
 mono:∀{i j:Imm}{v:Value}{a:α},i.le j->rep i v a->rep j v a
instance:Vr Int:=⟨λ_ v a=>v=.int .i64 a,λ_ h=>h⟩
instance:Vr Bool:=⟨λ_ v a=>v=.bool a,λ_ h=>h⟩
instance:Vr Str:=⟨λ_ v a=>v=.string ⟨⟨a.l⟩⟩,λ_ h=>h⟩
instance {α:Type} [Rp α]:Vr (List α):=⟨λi v a=>SL i v a,λhl h=>h.mono hl⟩
def FV1{α β:Type}[Vr α][Vr β](P:Program)(imm:Imm)(aH:List HA)(v:Value)(φ:α->Option β):Prop:=
 ∃f first bi,v=.func (.func f) ⟨first⟩ ⟨bi⟩/\callable P f=true/\∀am,imm.le am->∀a r va,φ a=some r->Vr.rep am va a->Ret P f (first++[va]++bi) am aH λ_ i ah u=>ah=aH/\Vr.rep i u r
theorem FV1.mono{α β:Type}[Vr α][Vr β]{P:Program}{i j:Imm}{aH:List HA}{v:Value}{φ:α->Option β}(hl:i.le j)(h:FV1 P i aH v φ):FV1 P j aH v φ:=by
 obtain⟨f,first,bi,h1,h2,h3⟩:=h;exact⟨f,first,bi,h1,h2,λam h'=>h3 am (hl.trans h')⟩
theorem FV1.intro{α β:Type}[Vr α][Vr β]{P:Program}{imm:Imm}{aH:List HA}{f:FuncId}{first bi:List Value}{φ:α->Option β}(h:∀am,imm.le am->∀a r va,φ a=some r->Vr.rep am va a->Ret P f (first++[va]++bi) am aH λ_ i ah u=>ah=aH/\Vr.rep i u r)
 (hc:callable P f=true:=by kernel_rfl):FV1 P imm aH (.func (.func f) ⟨first⟩ ⟨bi⟩) φ:=⟨f,first,bi,rfl,hc,h⟩
def FV2{α β γ:Type}[Vr α][Vr β][Vr γ](P:Program)(imm:Imm)(aH:List HA)(v:Value)(φ:α->β->Option γ):Prop:=
 ∃f first bi,v=.func (.func f) ⟨first⟩ ⟨bi⟩/\callable P f=true/\∀am,imm.le am->∀a b r va vb,φ a b=some r->Vr.rep am va a->Vr.rep am vb b->Ret P f (first++[va,vb]++bi) am aH λ_ i ah u=>ah=aH/\Vr.rep i u r
theorem FV2.mono{α β γ:Type}[Vr α][Vr β][Vr γ]{P:Program}{i j:Imm}{aH:List HA}{v:Value}{φ:α->β->Option γ}(hl:i.le j)(h:FV2 P i aH v φ):FV2 P j aH v φ:=by
 obtain⟨f,first,bi,h1,h2,h3⟩:=h;exact⟨f,first,bi,h1,h2,λam h'=>h3 am (hl.trans h')⟩
theorem FV2.intro{α β γ:Type}[Vr α][Vr β][Vr γ]{P:Program}{imm:Imm}{aH:List HA}{f:FuncId}{first bi:List Value}{φ:α->β->Option γ}(h:∀am,imm.le am->∀a b r va vb,φ a b=some r->Vr.rep am va a->Vr.rep am vb b->Ret P f (first++[va,vb]++bi) am aH λ_ i ah u=>ah=aH/\Vr.rep i u r)
 (hc:callable P f=true:=by kernel_rfl):FV2 P imm aH (.func (.func f) ⟨first⟩ ⟨bi⟩) φ:=⟨f,first,bi,rfl,hc,h⟩
section
variable {P:Program}{n:Nat}{B:Base}{Q:Exit->Act->World->Prop}{imm:Imm}{hs:List HA}{m:FM}{af:List Oper}{pc d:Nat}{ty:TypeId}{pos:String}{after:Array Edge}{g:Option (Nat×Bool)}
theorem zMf{α β:Type}[Vr α][Vr β]{x y:Operand}{ts:Array TypeId}{v va:Value}{a:α}{r:β}{φ:α->Option β}{aH rest:List HA}
 (ho:af[pc]?=some ⟨some d,.call { callee:=.value x,args:=#[y],argTypes:=ts },ty,pos,after,g⟩) (hy:val m y=some va) (hF:FV1 P imm aH v φ) (hr:φ a=some r) (ha:Vr.rep imm va a) (hh:hs=aH++rest)
 (next:∀am u,imm.le am->Vr.rep am u r->R P n B af Q (pc+1) am (aH++rest) ((d,u)::m)) (hx:val m x=some v:=by kernel_rfl) (hg:guardB af m g=some true:=by kernel_rfl) (hn:Nat.blt d n=true:=by kernel_rfl):R P n B af Q pc imm hs m:=by
 obtain⟨f,first,bi,rfl,hf,hc⟩:=hF
 refine zHf ho hx hf (vs:=[va]) (by simp[vals,hy]) hh (hc imm (Imm.le.refl _) a r va hr ha) ?_ hg hn
 rintro am ah u k hl hk ⟨rfl,h⟩ -
 exact next am u hl h
theorem zKw{α β γ:Type}[Vr α][Vr β][Vr γ]{x y z:Operand}{ts:Array TypeId}{v va vb:Value}{a:α}{b:β}{r:γ}{φ:α->β->Option γ}{aH rest:List HA}
 (ho:af[pc]?=some ⟨some d,.call { callee:=.value x,args:=#[y,z],argTypes:=ts },ty,pos,after,g⟩) (hy:val m y=some va) (hz:val m z=some vb) (hF:FV2 P imm aH v φ) (hr:φ a b=some r) (ha:Vr.rep imm va a) (hb:Vr.rep imm vb b) (hh:hs=aH++rest)
 (next:∀am u,imm.le am->Vr.rep am u r->R P n B af Q (pc+1) am (aH++rest) ((d,u)::m)) (hx:val m x=some v:=by kernel_rfl) (hg:guardB af m g=some true:=by kernel_rfl) (hn:Nat.blt d n=true:=by kernel_rfl):R P n B af Q pc imm hs m:=by
 obtain⟨f,first,bi,rfl,hf,hc⟩:=hF
 refine zHf ho hx hf (vs:=[va,vb]) (by simp[vals,hy,hz]) hh (hc imm (Imm.le.refl _) a b r va vb hr ha hb) ?_ hg hn
 rintro am ah u k hl hk ⟨rfl,h⟩ -
 exact next am u hl h
end
theorem Good.grow{B:Base}{imm:Imm}{hs:List HA}{w:World}(h:Good B imm hs w)(k:Nat)(os:Array Obj):Good B imm hs (Sort.grow (w.drewN k) os):=by
 have h:=h.drewN k;generalize w.drewN k=w at h;have old:∀b,b<w.heap.size->(Sort.grow w os).heap[b]?=w.heap[b]?:=λb hb=>by
  show (w.heap++os)[b]?=_;rw[Array.getElem?_append_left hb]
 refine⟨λb c e=>?_,λA hA=>(h.own A hA).same (λ_ _ p=>p) (λ_ _=>rfl) (λb hb=>old b ((h.own A hA).lt hb).1),h.nodup,⟨h.frm.os,h.frm.tape,h.frm.output,?_,λb hb pm=>?_,h.frm.imm⟩⟩
 ·obtain⟨ty,fr,e'⟩:=h.inv b c e;exact⟨ty,fr,(old b (h.lt_imm e)).trans e'⟩
 ·show _<=(w.heap++os).size;rw[Array.size_append];exact zw h.frm.size (Nat.le_add_right _ _)
 ·exact(old b (Bd hb h.frm.size)).trans (h.frm.heap b hb pm)
def GT (P:Program) (imm:Imm):Prop:=∃ g,P.globalNamed "internal/strconv.uint64pow10"=some g∧imm g=some (Lib.pow10Tab.map fun z=>Value.int .u64 z).toArray
def GM (P:Program) (imm:Imm):Prop:=∃ g,P.globalNamed "internal/bytealg.MaxLen"=some g∧∃ m,imm g=some #[.int .i64 m]
def GE(P:Program)(imm:Imm)(nm:String):Prop:=∃g,P.globalNamed nm=some g/\∃t p,imm g=some #[.iface t p]
def GH (P:Program) (imm:Imm):Prop:=GT P imm∧GM P imm∧GE P imm "strconv.ErrSyntax"∧GE P imm "strconv.ErrRange"
theorem GH.mono{P:Program}{i j:Imm}(hl:i.le j)(h:GH P i):GH P j:=by
 obtain⟨⟨g,h1,h2⟩,⟨g3,h3,m,h4⟩,⟨g5,h5,t,p,h6⟩,⟨g7,h7,u,q,h8⟩⟩:=h;exact⟨⟨g,h1,hl _ _ h2⟩,⟨g3,h3,m,hl _ _ h4⟩,⟨g5,h5,t,p,hl _ _ h6⟩,⟨g7,h7,u,q,hl _ _ h8⟩⟩
theorem GH.ml{P:Program}{imm:Imm}(h:GH P imm):GM P imm:=h.2.1
theorem GH.es {P:Program}{imm:Imm} (h:GH P imm):GE P imm "strconv.ErrSyntax":=h.2.2.1
theorem GH.er {P:Program}{imm:Imm} (h:GH P imm):GE P imm "strconv.ErrRange":=h.2.2.2
theorem GH.tab {P:Program}{B:Base}{imm:Imm}{hs:List HA}{w:World} (h:GH P imm) (g:Good B imm hs w):Lib.TabIs P w "internal/strconv.uint64pow10" .u64 Lib.pow10Tab:=by
 obtain⟨n,h1,h2⟩:=h.1;obtain⟨ty,fr,h3⟩:=g.inv _ _ h2;unfold Lib.TabIs World.var?;rw[h1,xp,h3]
theorem zP6{P:Program}{f:FuncId}{args:List Value}{imm:Imm}{v:Value}{post:Nat->Imm->List HA->Value->Prop}
 (h:∀w,Good ⟨w,imm,[]⟩ imm [] w->Calls P f args.toArray w λe w'=>e=.returned v/\∃k os,w'=Sort.grow (w.drewN k) os) (hp:∀k,post k imm [] v):Ret P f args imm [] post:=λw g=>
 (h w g).mono λe w' ⟨he,k,os,hw⟩=>by
  subst he;subst hw
  exact⟨imm,[],hp _,g.grow k os⟩
theorem zEI{k : IntKind}{n : Int}: (Value.int k n).oneCell' = true:=rfl
theorem zOI{b : Bool}: (Value.bool b).oneCell' = true:=rfl
theorem zFR{s : ByteArray}: (Value.string s).oneCell' = true:=rfl
theorem SL.one{α : Type}[Rp α]{i : Imm}{v : Value}{l : List α}(h : SL i v l): v.oneCell' = true:=by
 obtain⟨aR,hs,_⟩:=h
 rcases hs with⟨rfl,_⟩|⟨b,off,len,bi,c,rfl,_⟩ <;> rfl
structure zE where
 Name : Str
 Dims : List Int
instance : Rp zE where
 sz:=2
 pos:=by decide
 rep i cs s := ∃v0 : Value,cs = [.string ⟨⟨s.Name.l⟩⟩,v0] /\ SL i v0 s.Dims
 len h:=by obtain⟨v0,rfl,h0⟩:=h;rfl
 mono hm h:=by obtain⟨v0,e,h0⟩:=h;exact⟨v0,e,h0.mono hm⟩
 one h:=by obtain⟨v0,rfl,h0⟩:=h;simp[zFR,h0.one]
theorem zDF{i : Imm}{cs : List Value}{s : zE}(h : Rp.rep i cs s): ∃v0 : Value,cs = [.string ⟨⟨s.Name.l⟩⟩,v0] /\ SL i v0 s.Dims:=h
theorem sL{i : Imm}{cs : List Value}{s : zE}(h : ∃v0 : Value,cs = [.string ⟨⟨s.Name.l⟩⟩,v0] /\ SL i v0 s.Dims): Rp.rep i cs s:=h
theorem wN{i : Imm}{cs : List Value}{s : zE}(h : Rp.rep i cs s): ∃(p0 : Option Addr) (c0 : Nat),cs = [.string ⟨⟨s.Name.l⟩⟩,vS p0 s.Dims c0] /\ SL i (vS p0 s.Dims c0) s.Dims:=by
 obtain⟨v0,e,h0⟩:=zDF h
 obtain⟨p0,c0,rfl⟩:=h0.form
 exact⟨p0,c0,e,h0⟩
instance : Vr zE:=⟨λi v a => ∃cs,v = .agg ⟨cs⟩ /\ Rp.rep i cs a,λhl ⟨cs,e,h⟩=>⟨cs,e,Rp.mono hl h⟩⟩
structure zA where
 Coefs : List Int
 Const : Int
instance : Rp zA where
 sz:=2
 pos:=by decide
 rep i cs s := ∃v0 : Value,cs = [v0,.int .i64 s.Const] /\ SL i v0 s.Coefs
 len h:=by obtain⟨v0,rfl,h0⟩:=h;rfl
 mono hm h:=by obtain⟨v0,e,h0⟩:=h;exact⟨v0,e,h0.mono hm⟩
 one h:=by obtain⟨v0,rfl,h0⟩:=h;simp[zEI,h0.one]
theorem zGV{i : Imm}{cs : List Value}{s : zA}(h : Rp.rep i cs s): ∃v0 : Value,cs = [v0,.int .i64 s.Const] /\ SL i v0 s.Coefs:=h
theorem yH{i : Imm}{cs : List Value}{s : zA}(h : ∃v0 : Value,cs = [v0,.int .i64 s.Const] /\ SL i v0 s.Coefs): Rp.rep i cs s:=h
theorem yF{i : Imm}{cs : List Value}{s : zA}(h : Rp.rep i cs s): ∃(p0 : Option Addr) (c0 : Nat),cs = [vS p0 s.Coefs c0,.int .i64 s.Const] /\ SL i (vS p0 s.Coefs c0) s.Coefs:=by
 obtain⟨v0,e,h0⟩:=zGV h
 obtain⟨p0,c0,rfl⟩:=h0.form
 exact⟨p0,c0,e,h0⟩
instance : Vr zA:=⟨λi v a => ∃cs,v = .agg ⟨cs⟩ /\ Rp.rep i cs a,λhl ⟨cs,e,h⟩=>⟨cs,e,Rp.mono hl h⟩⟩
structure zD where
 Lo : List zA
 Hi : List zA
instance : Rp zD where
 sz:=2
 pos:=by decide
 rep i cs s := ∃v0 v1 : Value,cs = [v0,v1] /\ SL i v0 s.Lo /\ SL i v1 s.Hi
 len h:=by obtain⟨v0,v1,rfl,h0,h1⟩:=h;rfl
 mono hm h:=by obtain⟨v0,v1,e,h0,h1⟩:=h;exact⟨v0,v1,e,h0.mono hm,h1.mono hm⟩
 one h:=by obtain⟨v0,v1,rfl,h0,h1⟩:=h;simp[h0.one,h1.one]
theorem zD2{i : Imm}{cs : List Value}{s : zD}(h : Rp.rep i cs s): ∃v0 v1 : Value,cs = [v0,v1] /\ SL i v0 s.Lo /\ SL i v1 s.Hi:=h
theorem uW{i : Imm}{cs : List Value}{s : zD}(h : ∃v0 v1 : Value,cs = [v0,v1] /\ SL i v0 s.Lo /\ SL i v1 s.Hi): Rp.rep i cs s:=h
theorem vZ{i : Imm}{cs : List Value}{s : zD}(h : Rp.rep i cs s): ∃(p0 : Option Addr) (c0 : Nat) (p1 : Option Addr) (c1 : Nat),cs = [vS p0 s.Lo c0,vS p1 s.Hi c1] /\ SL i (vS p0 s.Lo c0) s.Lo /\ SL i (vS p1 s.Hi c1) s.Hi:=by
 obtain⟨v0,v1,e,h0,h1⟩:=zD2 h
 obtain⟨p0,c0,rfl⟩:=h0.form
 obtain⟨p1,c1,rfl⟩:=h1.form
 exact⟨p0,c0,p1,c1,e,h0,h1⟩
instance : Vr zD:=⟨λi v a => ∃cs,v = .agg ⟨cs⟩ /\ Rp.rep i cs a,λhl ⟨cs,e,h⟩=>⟨cs,e,Rp.mono hl h⟩⟩
structure zJ where
 Array : Str
 Subs : List zA
instance : Rp zJ where
 sz:=2
 pos:=by decide
 rep i cs s := ∃v0 : Value,cs = [.string ⟨⟨s.Array.l⟩⟩,v0] /\ SL i v0 s.Subs
 len h:=by obtain⟨v0,rfl,h0⟩:=h;rfl
 mono hm h:=by obtain⟨v0,e,h0⟩:=h;exact⟨v0,e,h0.mono hm⟩
 one h:=by obtain⟨v0,rfl,h0⟩:=h;simp[zFR,h0.one]
theorem zGW{i : Imm}{cs : List Value}{s : zJ}(h : Rp.rep i cs s): ∃v0 : Value,cs = [.string ⟨⟨s.Array.l⟩⟩,v0] /\ SL i v0 s.Subs:=h
theorem mS{i : Imm}{cs : List Value}{s : zJ}(h : ∃v0 : Value,cs = [.string ⟨⟨s.Array.l⟩⟩,v0] /\ SL i v0 s.Subs): Rp.rep i cs s:=h
theorem nJ{i : Imm}{cs : List Value}{s : zJ}(h : Rp.rep i cs s): ∃(p0 : Option Addr) (c0 : Nat),cs = [.string ⟨⟨s.Array.l⟩⟩,vS p0 s.Subs c0] /\ SL i (vS p0 s.Subs c0) s.Subs:=by
 obtain⟨v0,e,h0⟩:=zGW h
 obtain⟨p0,c0,rfl⟩:=h0.form
 exact⟨p0,c0,e,h0⟩
instance : Vr zJ:=⟨λi v a => ∃cs,v = .agg ⟨cs⟩ /\ Rp.rep i cs a,λhl ⟨cs,e,h⟩=>⟨cs,e,Rp.mono hl h⟩⟩
inductive zF where
 | mk (Kind : Int) (Num : Int) (Index : zA) (Read : zJ) (Kids : List zF)
def zF.Kind : zF -> Int|.mk x _ _ _ _=>x
def zF.Num : zF -> Int|.mk _ x _ _ _=>x
def zF.Index : zF -> zA|.mk _ _ x _ _=>x
def zF.Read : zF -> zJ|.mk _ _ _ x _=>x
def zF.Kids : zF -> (List zF)|.mk _ _ _ _ x=>x
mutual
def zF.repE(i : Imm): zF -> List Value -> Prop
 | .mk Kind Num Index Read Kids,cs => ∃(v0 v1 v2 : Value) (aR : List Value),cs = [.int .i64 Kind,.int .i64 Num,v0,.int .i64 Index.Const,.string ⟨⟨Read.Array.l⟩⟩,v1,v2] /\ SL i v0 Index.Coefs /\ SL i v1 Read.Subs /\ SliceAt i v2 7 aR /\ zF.reps i Kids aR
def zF.reps(i : Imm): List zF -> List Value -> Prop
 | [],cs=>cs = []
 | e :: es,cs => ∃c1 c2,cs = c1++c2 /\ c1.length = 7 /\ zF.repE i e c1 /\ zF.reps i es c2
end
mutual
theorem zEd{i : Imm}: ∀{e : zF} {cs : List Value},zF.repE i e cs -> cs.length = 7
 | .mk ..,cs,h=>by simp only[zF.repE] at h;obtain⟨v0,v1,v2,aR,rfl,_⟩:=h;rfl
end
mutual
theorem zBB{i j : Imm}(hm : i.le j): ∀{e : zF} {cs : List Value},zF.repE i e cs -> zF.repE j e cs
 | .mk ..,cs,h=>by
  simp only[zF.repE] at h ⊢
  obtain⟨v0,v1,v2,aR,e,k0,k1,ha,hb⟩:=h
  exact⟨v0,v1,v2,aR,e,k0.mono hm,k1.mono hm,ha.mono hm,zBC hm hb⟩
theorem zBC{i j : Imm}(hm : i.le j): ∀{es : List zF} {cs : List Value},zF.reps i es cs -> zF.reps j es cs
 | [],cs,h=>by simpa [zF.reps] using h
 | e :: es,cs,h=>by
  simp only[zF.reps] at h ⊢
  obtain⟨c1,c2,h1,h2,h3,h4⟩:=h
  exact⟨c1,c2,h1,h2,zBB hm h3,zBC hm h4⟩
end
theorem fT{i : Imm}: ∀{es : List zF} {cs : List Value},zF.reps i es cs↔RepL (λc e=>zF.repE i e c) 7 cs es
 | [],cs=>by simp[zF.reps,RepL]
 | e :: es,cs=>by
  simp only[zF.reps,RepL]
  constructor
  ·rintro⟨c1,c2,h1,h2,h3,h4⟩;exact⟨c1,c2,h1,h2,h3,fT.1 h4⟩
  ·rintro⟨c1,c2,h1,h2,h3,h4⟩;exact⟨c1,c2,h1,h2,h3,fT.2 h4⟩
theorem SliceAt.one{i : Imm}{v : Value}{sz : Nat}{cs : List Value}(hs : SliceAt i v sz cs): v.oneCell' = true:=by
 rcases hs with⟨rfl,_⟩|⟨b,off,len,bi,c,rfl,_⟩ <;> rfl
theorem zEe{i : Imm}: ∀{e : zF} {cs : List Value},zF.repE i e cs -> ∀v∈cs,v.oneCell' = true
 | .mk ..,cs,h=>by
  simp only[zF.repE] at h
  obtain⟨v0,v1,v2,aR,rfl,k0,k1,ha,_⟩:=h
  simp[zEI,zFR,k0.one,k1.one,ha.one]
instance : Rp zF where
 sz:=7
 pos:=by decide
 rep i cs e:=zF.repE i e cs
 len h:=zEd h
 mono hm h:=zBB hm h
 one h:=zEe h
theorem zIB{i : Imm}{cs : List Value}{s : zF}(h : Rp.rep i cs s): ∃v0 v1 v2 : Value,cs = [.int .i64 s.Kind,.int .i64 s.Num,v0,.int .i64 s.Index.Const,.string ⟨⟨s.Read.Array.l⟩⟩,v1,v2] /\ SL i v0 s.Index.Coefs /\ SL i v1 s.Read.Subs /\ SL i v2 s.Kids:=by
 obtain⟨Kind,Num,Index,Read,Kids⟩:=s
 have h : zF.repE i _ cs:=h
 simp only[zF.repE] at h
 obtain⟨v0,v1,v2,aR,e,k0,k1,ha,hb⟩:=h
 exact⟨v0,v1,v2,e,k0,k1,⟨aR,ha,fT.1 hb⟩⟩
theorem xS{i : Imm}{cs : List Value}{s : zF}(h : ∃v0 v1 v2 : Value,cs = [.int .i64 s.Kind,.int .i64 s.Num,v0,.int .i64 s.Index.Const,.string ⟨⟨s.Read.Array.l⟩⟩,v1,v2] /\ SL i v0 s.Index.Coefs /\ SL i v1 s.Read.Subs /\ SL i v2 s.Kids): Rp.rep i cs s:=by
 obtain⟨Kind,Num,Index,Read,Kids⟩:=s
 show zF.repE i _ cs
 simp only[zF.repE]
 obtain⟨v0,v1,v2,e,k0,k1,⟨aR,ha,hb⟩⟩:=h
 exact⟨v0,v1,v2,aR,e,k0,k1,ha,fT.2 hb⟩
theorem vJ{i : Imm}{cs : List Value}{s : zF}(h : Rp.rep i cs s): ∃(p0 : Option Addr) (c0 : Nat) (p1 : Option Addr) (c1 : Nat) (p2 : Option Addr) (c2 : Nat),cs = [.int .i64 s.Kind,.int .i64 s.Num,vS p0 s.Index.Coefs c0,.int .i64 s.Index.Const,.string ⟨⟨s.Read.Array.l⟩⟩,vS p1 s.Read.Subs c1,vS p2 s.Kids c2] /\ SL i (vS p0 s.Index.Coefs c0) s.Index.Coefs /\ SL i (vS p1 s.Read.Subs c1) s.Read.Subs /\ SL i (vS p2 s.Kids c2) s.Kids:=by
 obtain⟨v0,v1,v2,e,h0,h1,h2⟩:=zIB h
 obtain⟨p0,c0,rfl⟩:=h0.form
 obtain⟨p1,c1,rfl⟩:=h1.form
 obtain⟨p2,c2,rfl⟩:=h2.form
 exact⟨p0,c0,p1,c1,p2,c2,e,h0,h1,h2⟩
instance : Vr zF:=⟨λi v a => ∃cs,v = .agg ⟨cs⟩ /\ Rp.rep i cs a,λhl ⟨cs,e,h⟩=>⟨cs,e,Rp.mono hl h⟩⟩
structure zI where
 Write : zJ
 Value : zF
instance : Rp zI where
 sz:=9
 pos:=by decide
 rep i cs s := ∃v0 v1 v2 v3 : Value,cs = [.string ⟨⟨s.Write.Array.l⟩⟩,v0,.int .i64 s.Value.Kind,.int .i64 s.Value.Num,v1,.int .i64 s.Value.Index.Const,.string ⟨⟨s.Value.Read.Array.l⟩⟩,v2,v3] /\ SL i v0 s.Write.Subs /\ SL i v1 s.Value.Index.Coefs /\ SL i v2 s.Value.Read.Subs /\ SL i v3 s.Value.Kids
 len h:=by obtain⟨v0,v1,v2,v3,rfl,h0,h1,h2,h3⟩:=h;rfl
 mono hm h:=by obtain⟨v0,v1,v2,v3,e,h0,h1,h2,h3⟩:=h;exact⟨v0,v1,v2,v3,e,h0.mono hm,h1.mono hm,h2.mono hm,h3.mono hm⟩
 one h:=by obtain⟨v0,v1,v2,v3,rfl,h0,h1,h2,h3⟩:=h;simp[zFR,zEI,h0.one,h1.one,h2.one,h3.one]
theorem kQ{i : Imm}{cs : List Value}{s : zI}(h : Rp.rep i cs s): ∃v0 v1 v2 v3 : Value,cs = [.string ⟨⟨s.Write.Array.l⟩⟩,v0,.int .i64 s.Value.Kind,.int .i64 s.Value.Num,v1,.int .i64 s.Value.Index.Const,.string ⟨⟨s.Value.Read.Array.l⟩⟩,v2,v3] /\ SL i v0 s.Write.Subs /\ SL i v1 s.Value.Index.Coefs /\ SL i v2 s.Value.Read.Subs /\ SL i v3 s.Value.Kids:=h
theorem wO{i : Imm}{cs : List Value}{s : zI}(h : ∃v0 v1 v2 v3 : Value,cs = [.string ⟨⟨s.Write.Array.l⟩⟩,v0,.int .i64 s.Value.Kind,.int .i64 s.Value.Num,v1,.int .i64 s.Value.Index.Const,.string ⟨⟨s.Value.Read.Array.l⟩⟩,v2,v3] /\ SL i v0 s.Write.Subs /\ SL i v1 s.Value.Index.Coefs /\ SL i v2 s.Value.Read.Subs /\ SL i v3 s.Value.Kids): Rp.rep i cs s:=h
theorem rJ{i : Imm}{cs : List Value}{s : zI}(h : Rp.rep i cs s): ∃(p0 : Option Addr) (c0 : Nat) (p1 : Option Addr) (c1 : Nat) (p2 : Option Addr) (c2 : Nat) (p3 : Option Addr) (c3 : Nat),cs = [.string ⟨⟨s.Write.Array.l⟩⟩,vS p0 s.Write.Subs c0,.int .i64 s.Value.Kind,.int .i64 s.Value.Num,vS p1 s.Value.Index.Coefs c1,.int .i64 s.Value.Index.Const,.string ⟨⟨s.Value.Read.Array.l⟩⟩,vS p2 s.Value.Read.Subs c2,vS p3 s.Value.Kids c3] /\ SL i (vS p0 s.Write.Subs c0) s.Write.Subs /\ SL i (vS p1 s.Value.Index.Coefs c1) s.Value.Index.Coefs /\ SL i (vS p2 s.Value.Read.Subs c2) s.Value.Read.Subs /\ SL i (vS p3 s.Value.Kids c3) s.Value.Kids:=by
 obtain⟨v0,v1,v2,v3,e,h0,h1,h2,h3⟩:=kQ h
 obtain⟨p0,c0,rfl⟩:=h0.form
 obtain⟨p1,c1,rfl⟩:=h1.form
 obtain⟨p2,c2,rfl⟩:=h2.form
 obtain⟨p3,c3,rfl⟩:=h3.form
 exact⟨p0,c0,p1,c1,p2,c2,p3,c3,e,h0,h1,h2,h3⟩
instance : Vr zI:=⟨λi v a => ∃cs,v = .agg ⟨cs⟩ /\ Rp.rep i cs a,λhl ⟨cs,e,h⟩=>⟨cs,e,Rp.mono hl h⟩⟩
structure zL where
 Nest : List zD
 Body : List zI
instance : Rp zL where
 sz:=2
 pos:=by decide
 rep i cs s := ∃v0 v1 : Value,cs = [v0,v1] /\ SL i v0 s.Nest /\ SL i v1 s.Body
 len h:=by obtain⟨v0,v1,rfl,h0,h1⟩:=h;rfl
 mono hm h:=by obtain⟨v0,v1,e,h0,h1⟩:=h;exact⟨v0,v1,e,h0.mono hm,h1.mono hm⟩
 one h:=by obtain⟨v0,v1,rfl,h0,h1⟩:=h;simp[h0.one,h1.one]
theorem zIC{i : Imm}{cs : List Value}{s : zL}(h : Rp.rep i cs s): ∃v0 v1 : Value,cs = [v0,v1] /\ SL i v0 s.Nest /\ SL i v1 s.Body:=h
theorem rS{i : Imm}{cs : List Value}{s : zL}(h : ∃v0 v1 : Value,cs = [v0,v1] /\ SL i v0 s.Nest /\ SL i v1 s.Body): Rp.rep i cs s:=h
theorem uK{i : Imm}{cs : List Value}{s : zL}(h : Rp.rep i cs s): ∃(p0 : Option Addr) (c0 : Nat) (p1 : Option Addr) (c1 : Nat),cs = [vS p0 s.Nest c0,vS p1 s.Body c1] /\ SL i (vS p0 s.Nest c0) s.Nest /\ SL i (vS p1 s.Body c1) s.Body:=by
 obtain⟨v0,v1,e,h0,h1⟩:=zIC h
 obtain⟨p0,c0,rfl⟩:=h0.form
 obtain⟨p1,c1,rfl⟩:=h1.form
 exact⟨p0,c0,p1,c1,e,h0,h1⟩
instance : Vr zL:=⟨λi v a => ∃cs,v = .agg ⟨cs⟩ /\ Rp.rep i cs a,λhl ⟨cs,e,h⟩=>⟨cs,e,Rp.mono hl h⟩⟩
structure zH where
 Arrays : List zE
 Parts : List zL
instance : Rp zH where
 sz:=2
 pos:=by decide
 rep i cs s := ∃v0 v1 : Value,cs = [v0,v1] /\ SL i v0 s.Arrays /\ SL i v1 s.Parts
 len h:=by obtain⟨v0,v1,rfl,h0,h1⟩:=h;rfl
 mono hm h:=by obtain⟨v0,v1,e,h0,h1⟩:=h;exact⟨v0,v1,e,h0.mono hm,h1.mono hm⟩
 one h:=by obtain⟨v0,v1,rfl,h0,h1⟩:=h;simp[h0.one,h1.one]
theorem zFS{i : Imm}{cs : List Value}{s : zH}(h : Rp.rep i cs s): ∃v0 v1 : Value,cs = [v0,v1] /\ SL i v0 s.Arrays /\ SL i v1 s.Parts:=h
theorem uA{i : Imm}{cs : List Value}{s : zH}(h : ∃v0 v1 : Value,cs = [v0,v1] /\ SL i v0 s.Arrays /\ SL i v1 s.Parts): Rp.rep i cs s:=h
theorem mE{i : Imm}{cs : List Value}{s : zH}(h : Rp.rep i cs s): ∃(p0 : Option Addr) (c0 : Nat) (p1 : Option Addr) (c1 : Nat),cs = [vS p0 s.Arrays c0,vS p1 s.Parts c1] /\ SL i (vS p0 s.Arrays c0) s.Arrays /\ SL i (vS p1 s.Parts c1) s.Parts:=by
 obtain⟨v0,v1,e,h0,h1⟩:=zFS h
 obtain⟨p0,c0,rfl⟩:=h0.form
 obtain⟨p1,c1,rfl⟩:=h1.form
 exact⟨p0,c0,p1,c1,e,h0,h1⟩
instance : Vr zH:=⟨λi v a => ∃cs,v = .agg ⟨cs⟩ /\ Rp.rep i cs a,λhl ⟨cs,e,h⟩=>⟨cs,e,Rp.mono hl h⟩⟩
structure yU where
 s : Str
 bad : Bool
instance : Rp yU where
 sz:=2
 pos:=by decide
 rep i cs s:=cs = [.string ⟨⟨s.s.l⟩⟩,.bool s.bad]
 len h:=by obtain rfl:=h;rfl
 mono _ h:=h
 one h:=by obtain rfl:=h;simp[zFR,zOI]
theorem wV{i : Imm}{cs : List Value}{s : yU}(h : Rp.rep i cs s): cs = [.string ⟨⟨s.s.l⟩⟩,.bool s.bad]:=h
theorem tG{i : Imm}{cs : List Value}{s : yU}(h : cs = [.string ⟨⟨s.s.l⟩⟩,.bool s.bad]): Rp.rep i cs s:=h
instance : Vr yU:=⟨λi v a => ∃cs,v = .agg ⟨cs⟩ /\ Rp.rep i cs a,λhl ⟨cs,e,h⟩=>⟨cs,e,Rp.mono hl h⟩⟩
structure yE where
 Part : Int
 Stmt : Int
 Point : List Int
instance : Rp yE where
 sz:=3
 pos:=by decide
 rep i cs s := ∃v0 : Value,cs = [.int .i64 s.Part,.int .i64 s.Stmt,v0] /\ SL i v0 s.Point
 len h:=by obtain⟨v0,rfl,h0⟩:=h;rfl
 mono hm h:=by obtain⟨v0,e,h0⟩:=h;exact⟨v0,e,h0.mono hm⟩
 one h:=by obtain⟨v0,rfl,h0⟩:=h;simp[zEI,h0.one]
theorem zEf{i : Imm}{cs : List Value}{s : yE}(h : ∃v0 : Value,cs = [.int .i64 s.Part,.int .i64 s.Stmt,v0] /\ SL i v0 s.Point): Rp.rep i cs s:=h
instance : Vr yE:=⟨λi v a => ∃cs,v = .agg ⟨cs⟩ /\ Rp.rep i cs a,λhl ⟨cs,e,h⟩=>⟨cs,e,Rp.mono hl h⟩⟩
structure zP where
 b : List UInt8
 p : Int
instance : Rp zP where
 sz:=2
 pos:=by decide
 rep i cs s := ∃v0 : Value,cs = [v0,.int .i64 s.p] /\ SL i v0 s.b
 len h:=by obtain⟨v0,rfl,h0⟩:=h;rfl
 mono hm h:=by obtain⟨v0,e,h0⟩:=h;exact⟨v0,e,h0.mono hm⟩
 one h:=by obtain⟨v0,rfl,h0⟩:=h;simp[zEI,h0.one]
theorem zAC{i : Imm}{cs : List Value}{s : zP}(h : Rp.rep i cs s): ∃v0 : Value,cs = [v0,.int .i64 s.p] /\ SL i v0 s.b:=h
theorem xE{i : Imm}{cs : List Value}{s : zP}(h : ∃v0 : Value,cs = [v0,.int .i64 s.p] /\ SL i v0 s.b): Rp.rep i cs s:=h
theorem yD{i : Imm}{cs : List Value}{s : zP}(h : Rp.rep i cs s): ∃(p0 : Option Addr) (c0 : Nat),cs = [vS p0 s.b c0,.int .i64 s.p] /\ SL i (vS p0 s.b c0) s.b:=by
 obtain⟨v0,e,h0⟩:=zAC h
 obtain⟨p0,c0,rfl⟩:=h0.form
 exact⟨p0,c0,e,h0⟩
instance : Vr zP:=⟨λi v a => ∃cs,v = .agg ⟨cs⟩ /\ Rp.rep i cs a,λhl ⟨cs,e,h⟩=>⟨cs,e,Rp.mono hl h⟩⟩
structure qK where
 nest : List zD
 steps : Int
 out : List (List Int)
instance : Rp qK where
 sz:=3
 pos:=by decide
 rep i cs s := ∃v0 v1 : Value,cs = [v0,.int .i64 s.steps,v1] /\ SL i v0 s.nest /\ SL i v1 s.out
 len h:=by obtain⟨v0,v1,rfl,h0,h1⟩:=h;rfl
 mono hm h:=by obtain⟨v0,v1,e,h0,h1⟩:=h;exact⟨v0,v1,e,h0.mono hm,h1.mono hm⟩
 one h:=by obtain⟨v0,v1,rfl,h0,h1⟩:=h;simp[zEI,h0.one,h1.one]
instance : Vr qK:=⟨λi v a => ∃cs,v = .agg ⟨cs⟩ /\ Rp.rep i cs a,λhl ⟨cs,e,h⟩=>⟨cs,e,Rp.mono hl h⟩⟩
theorem iM{α:Type}[Rp α]{i j:Imm}(h:i.le j){l:List α}{cs:List Value}(hr:RL i cs l):RL j cs l:=RepL.mono (λ_ _=>Rp.mono h) hr
def stB:List HA->Nat->List Value->(List HA->Option (List HA))->Option (List HA)
 | .blk b _::t,0,c',k=>k (.blk b ⟨c'⟩::t)
 | h::t,j+1,c',k=>stB t j c' λr=>k (h::r)
 | _,_,_,_=>none
theorem zMg:∀{hs:List HA}{j:Nat}{b:Nat}{c:Array Value}{c':List Value}{k:List HA->Option (List HA)},hs[j]?=some (.blk b c)->stB hs j c' k=k (hs.set j (.blk b ⟨c'⟩))
 | [],_,_,_,_,_,h=>by simp at h
 | A::t,0,b,c,c',k,h=>by
  simp only[AU,Option.some.injEq] at h
  subst h;rfl
 | A::t,j+1,b,c,c',k,h=>by
  simp only[AW] at h
  rw[stB,zMg h,AQ]
class Mo (X:Prop) (i j:Imm) (Y:outParam Prop):Prop where
 mo:i.le j->X->Y
instance {α:Type} [Rp α] {v:Value}{l:List α}{i j:Imm}:Mo (SL i v l) i j (SL j v l):=⟨λh x=>x.mono h⟩
instance {α:Type} [Rp α] {cs:List Value}{l:List α}{i j:Imm}:Mo (RL i cs l) i j (RL j cs l):=⟨λh x=>iM h x⟩
instance {ad:Addr}{cs:List Value}{i j:Imm}:Mo (At i ad cs) i j (At j ad cs):=⟨λh x=>At.mono h x⟩
instance {α:Type} [Rp α] {v:Value}{o:Option α}{i j:Imm}:Mo (FP i v o) i j (FP j v o):=⟨λh x=>FP.mono x h⟩
instance {α β:Type} [Vr α] [Vr β] {P:Program}{aH:List HA}{v:Value}{φ:α->Option β}{i j:Imm}:Mo (FV1 P i aH v φ) i j (FV1 P j aH v φ):=⟨λh x=>FV1.mono h x⟩
instance {α β γ:Type} [Vr α] [Vr β] [Vr γ] {P:Program}{aH:List HA}{v:Value}{φ:α->β->Option γ}{i j:Imm}:Mo (FV2 P i aH v φ) i j (FV2 P j aH v φ):=⟨λh x=>FV2.mono h x⟩
instance {P:Program}{i j:Imm}:Mo (GH P i) i j (GH P j):=⟨λh x=>GH.mono h x⟩
instance {i0 i j:Imm}:Mo (i0.le i) i j (i0.le j):=⟨λh x=>x.trans h⟩
theorem m2{i j:Imm}{A B A' B':Prop}(h:i.le j)(a:A)(b:B)[Mo A i j A'][Mo B i j B']:A'/\B':=⟨Mo.mo h a,Mo.mo h b⟩
theorem m3{i j:Imm}{A B C A' B' C':Prop}(h:i.le j)(a:A)(b:B)(c:C)[Mo A i j A'][Mo B i j B'][Mo C i j C']:A'/\B'/\C':=⟨Mo.mo h a,Mo.mo h b,Mo.mo h c⟩
theorem m4{i j:Imm}{A B C D A' B' C' D':Prop}(h:i.le j)(a:A)(b:B)(c:C)(d:D)[Mo A i j A'][Mo B i j B'][Mo C i j C'][Mo D i j D']:A'/\B'/\C'/\D':=⟨Mo.mo h a,Mo.mo h b,Mo.mo h c,Mo.mo h d⟩
theorem m5{i j:Imm}{A B C D E A' B' C' D' E':Prop}(h:i.le j)(a:A)(b:B)(c:C)(d:D)(e:E)[Mo A i j A'][Mo B i j B'][Mo C i j C'][Mo D i j D'][Mo E i j E']:A'/\B'/\C'/\D'/\E':=⟨Mo.mo h a,Mo.mo h b,Mo.mo h c,Mo.mo h d,Mo.mo h e⟩
theorem m6{i j:Imm}{A B C D E F A' B' C' D' E' F':Prop}(h:i.le j)(a:A)(b:B)(c:C)(d:D)(e:E)(f:F)[Mo A i j A'][Mo B i j B'][Mo C i j C'][Mo D i j D'][Mo E i j E'][Mo F i j F']:A'/\B'/\C'/\D'/\E'/\F':=⟨Mo.mo h a,Mo.mo h b,Mo.mo h c,Mo.mo h d,Mo.mo h e,Mo.mo h f⟩
abbrev K1{α:Type}(o:α)(I:Imm)(hs:List HA)(m:α->FM):Imm->List HA->FM->Prop:=λI' ah m'=>∃t:α,o=t/\I.le I'/\ah=hs/\m'=m t
section
variable {P:Program}{n:Nat}{B:Base}{af:List Oper}{Q:Exit->Act->World->Prop}{pc:Nat}{imm:Imm}{hs:List HA}{m:FM}{d:Nat}
 {ty:TypeId}{pos:String}{after:Array Edge}{g:Option (Nat×Bool)}
theorem xG{f:FuncId}{x:Operand}{xs:Array Operand}{ts:Array TypeId}{vs:List Value}{post:Nat->Imm->List HA->Value->Prop}
 (hc:Ret P f vs imm [] post)
 (next:∀am ah v k,imm.le am->B.w0.heap.size<=k->post k am ah v->(∀b∈ah.flatMap HA.fp,b∈([]:List HA).flatMap HA.fp∨B.w0.heap.size<=b)->R P n B af Q (pc+1) am (ah++hs) ((d,v)::m))
 (ho:af[pc]?=some ⟨some d,.call { callee:=.value x,args:=xs,argTypes:=ts },ty,pos,after,g⟩:=by rfl) (hg:guardB af m g=some true:=by rfl) (hn:Nat.blt d n=true:=by rfl) (hx:val m x=some (.func (.func f) #[] #[]):=by rfl) (hf:callable P f=true:=by kernel_rfl)
 (oc:vals m xs.toList=some vs:=by rfl):R P n B af Q pc imm hs m:=
 zGQ (hs1:=[]) (rest:=hs) ho hg hn hx hf oc rfl hc next
theorem zRR{f:FuncId}{x:Operand}{xs:Array Operand}{ts:Array TypeId}{vs:List Value}(hs1 rest:List HA){post:Nat->Imm->List HA->Value->Prop}
 (hc:Ret P f vs imm hs1 post)
 (next:∀am ah v k,imm.le am->B.w0.heap.size<=k->post k am ah v->(∀b∈ah.flatMap HA.fp,b∈hs1.flatMap HA.fp∨B.w0.heap.size<=b)->R P n B af Q (pc+1) am (ah++rest) ((d,v)::m))
 (ho:af[pc]?=some ⟨some d,.call { callee:=.value x,args:=xs,argTypes:=ts },ty,pos,after,g⟩:=by rfl) (hg:guardB af m g=some true:=by rfl) (hn:Nat.blt d n=true:=by rfl) (hx:val m x=some (.func (.func f) #[] #[]):=by rfl) (hf:callable P f=true:=by kernel_rfl)
 (oc:vals m xs.toList=some vs:=by rfl) (hh:hs=hs1++rest:=by rfl):R P n B af Q pc imm hs m:=
 zGQ (hs1:=hs1) (rest:=rest) ho hg hn hx hf oc hh hc next
theorem zCP(m':FM)(h:R P n B af Q pc imm hs m')(hk:keep m (m'.map (·.1))=some m':=by kernel_rfl):R P n B af Q pc imm hs m:=zBT (zCM hk) h
theorem qN(cs:List Value)(α:Type)[Rp α]{t len:Nat}{parts:Array (Nat×Operand)}{ps:List (Nat×Value)}
 (next:∀b,B.w0.heap.size<=b->R P n B af Q (pc+1) imm (.osl (.slice (some ⟨b,0,none⟩) len len) (Rp.sz α) cs::hs) ((d,.slice (some ⟨b,0,none⟩) len len)::m))
 (ho:af[pc]?=some ⟨some d,.buildSlice t len parts,ty,pos,after,g⟩:=by rfl) (hg:guardB af m g=some true:=by rfl) (hn:Nat.blt d n=true:=by rfl) (vy:pvals m parts.toList=some ps:=by rfl) (hc:elemZ P t len ps=some ⟨cs⟩:=by kernel_rfl) (hl:Nat.beq cs.length (len*Rp.sz α)=true:=by kernel_rfl)
 (hlM:Nat.ble len 9223372036854775807=true:=by rfl):R P n B af Q pc imm hs m:=
 zKA (cs:=cs) (Rp.sz α) ho hg hn vy hc hl next hlM
theorem wT(c:List Value){t:TypeId}
 (next:∀b,B.w0.heap.size<=b->R P n B af Q (pc+1) imm (.blk b ⟨c⟩::hs) ((d,.pointer (some ⟨b,0,none⟩))::m))
 (ho:af[pc]?=some ⟨some d,.alloc t,ty,pos,after,g⟩:=by rfl) (hg:guardB af m g=some true:=by rfl) (hn:Nat.blt d n=true:=by rfl) (hz:zeroC P t=some ⟨c⟩:=by kernel_rfl):R P n B af Q pc imm hs m:=
 zPZ (c:=⟨c⟩) ho hg hn hz next
theorem sF(c:List Value){t:TypeId}{x:Operand}{v:Value}
 (next:∀b,B.w0.heap.size<=b->R P n B af Q (pc+1) imm (.blk b ⟨c⟩::hs) ((d,.pointer (some ⟨b,0,none⟩))::m))
 (ho:af[pc]?=some ⟨some d,.box t x,ty,pos,after,g⟩:=by rfl) (hg:guardB af m g=some true:=by rfl) (hn:Nat.blt d n=true:=by rfl) (hx:val m x=some v:=by rfl) (hc:v.cells=⟨c⟩:=by rfl):R P n B af Q pc imm hs m:=
 zRA (c:=⟨c⟩) ho hg hn hx hc next
theorem I_h{its:List It}{gs:List (List HA)}{N:Nat}{l:List (Nat×Bool)}{jv:List Oper}{pc:Nat}(m2:FM)(h:R P n B jv Q pc imm hs m2)
 (hi:(insM af its l m).bind (λm1=>keep m1 (m2.map (·.1)))=some m2:=by kernel_rfl):Ins af (factsOf N its gs) imm l m hs λm' ah=>R P n B jv Q pc imm ah m':=by
 obtain⟨m1,h1,h2⟩:=Option.bind_eq_some_iff.1 hi
 refine zFO (λj it hj=>?_) h1 (zBT (zCM h2) h)
 have aG:=(yi.1 hj).1
 unfold factsOf
 rw[zp,Bh (by rw[ym];exact aG),Ae,hj]
 rfl
theorem yQ{jv:List Oper}{pc d0:Nat}{φi:Fact}{bw:Imm}{v:Value}(cM:bw.le imm)(h0:jv.drop pc=[]:=by rfl)(hd:look m d0=some v:=by rfl)(hφ:φi imm v []:=by exact⟨rfl,rfl⟩):R P n B jv (OutQ n B φi (some d0) bw hs) pc imm hs m:=
 zJc (hx:=[]) h0 cM rfl (λ_ e=>by cases e;exact hd) hφ
theorem yK{f:FuncId}{fn:Func}{args:List Value}{post:Nat->Imm->List HA->Value->Prop}(hf:P.funcs[f]?=some fn)(h:∀B:Base,J P fn.ntmps B (bodyOf fn) (QB P fn B post) imm hs (argm 0 args))
 (hb:fn.body=some (bodyOf fn):=by rfl) (hn:Nat.ble args.length fn.ntmps=true:=by rfl):Ret P f args imm hs post:=zNt hf hb hn λB _ _=>h B
theorem xC(hx:List HA){jv:List Oper}{pc d0:Nat}{φi:Fact}{bw:Imm}{j5:List HA}{v:Value}(cM:bw.le imm)(hφ:φi imm v hx)(h0:jv.drop pc=[]:=by rfl)(hh:hs=hx++j5:=by rfl)(hd:look m d0=some v:=by rfl):R P n B jv (OutQ n B φi (some d0) bw j5) pc imm hs m:=
 zJc (hx:=hx) h0 cM hh (λ_ e=>by cases e;exact hd) hφ
theorem yB{id:Nat}{af:List Oper}{y:Code}(h:R P n B af (Exit.then (y.wp P Q) Q) 0 imm hs m):J P n B ((Code.region id af.toArray false).seq y) Q imm hs m:=yA (zM h)
theorem zY{x y:Code}(h:J P n B x (Exit.then (y.wp P Q) Q) imm hs m):T n B (Exit.then ((x.seq y).wp P Q) Q) .normal imm hs m:=zK (yA h)
theorem yV{id:Nat}{af:List Oper}{y:Code}(h:R P n B af (Exit.then (y.wp P Q) Q) 0 imm hs m):T n B (Exit.then (((Code.region id af.toArray false).seq y).wp P Q) Q) .normal imm hs m:=zK (yB h)
theorem vO{id:Nat}{af:List Oper}{y:Code}(eb:FM)(hR:T n B (Exit.then (y.wp P Q) Q) .normal imm hs (eb++m))(h:runD P n af hs 0 af.length [] (eb.map (·.1)) m=some (eb,[].map (blkAt hs)):=by kernel_rfl):J P n B ((Code.region id af.toArray false).seq y) Q imm hs m:=yB (wP [] eb hR h)
theorem zFT{id:Nat}{af:List Oper}{y:Code}(eb:FM)(hR:T n B (Exit.then (y.wp P Q) Q) .normal imm hs (eb++m))(h:runD P n af hs 0 af.length [] (eb.map (·.1)) m=some (eb,[].map (blkAt hs)):=by kernel_rfl):T n B (Exit.then (((Code.region id af.toArray false).seq y).wp P Q) Q) .normal imm hs m:=zK (vO eb hR h)
theorem vG{fn:Func}{post:Nat->Imm->List HA->Value->Prop}{v:Value}(h1:ResV P m hs fn.results.toList [v]:=by exact .tmp rfl ResV.nil)(h2:post B.w0.heap.size imm [] (tupV [v]):=by exact⟨_,rfl,rfl,rfl⟩):T n B (QB P fn B post) .ret imm hs m:=fO ⟨_,_,h1,zN,h2⟩
theorem dU{f:FuncId}{x:Operand}{xs:Array Operand}{ts:Array TypeId}{vs:List Value}{r:Int}
 (hc:Ret P f vs imm [] λ_ _ ah v=>∃v0,ah=[]/\v=tupV [v0]/\v0=.int .i64 r)
 (next:∀am,imm.le am->R P n B af Q (pc+1) am hs ((d,vI r)::m))
 (ho:af[pc]?=some ⟨some d,.call { callee:=.value x,args:=xs,argTypes:=ts },ty,pos,after,g⟩:=by rfl) (hg:guardB af m g=some true:=by rfl) (hn:Nat.blt d n=true:=by rfl) (hx:val m x=some (.func (.func f) #[] #[]):=by rfl) (hf:callable P f=true:=by kernel_rfl)
 (oc:vals m xs.toList=some vs:=by rfl):R P n B af Q pc imm hs m:=
 xG hc (λam ah v k h1 _ h3 _=>by obtain⟨v0,rfl,rfl,rfl⟩:=h3;exact next am h1) ho hg hn hx hf oc
theorem uU{f:FuncId}{x:Operand}{xs:Array Operand}{ts:Array TypeId}{vs:List Value}{r:Bool}
 (hc:Ret P f vs imm [] λ_ _ ah v=>∃v0,ah=[]/\v=tupV [v0]/\v0=.bool r)
 (next:∀am,imm.le am->R P n B af Q (pc+1) am hs ((d,.bool r)::m))
 (ho:af[pc]?=some ⟨some d,.call { callee:=.value x,args:=xs,argTypes:=ts },ty,pos,after,g⟩:=by rfl) (hg:guardB af m g=some true:=by rfl) (hn:Nat.blt d n=true:=by rfl) (hx:val m x=some (.func (.func f) #[] #[]):=by rfl) (hf:callable P f=true:=by kernel_rfl)
 (oc:vals m xs.toList=some vs:=by rfl):R P n B af Q pc imm hs m:=
 xG hc (λam ah v k h1 _ h3 _=>by obtain⟨v0,rfl,rfl,rfl⟩:=h3;exact next am h1) ho hg hn hx hf oc
theorem uR{id:Nat}{K1 K2:Act->World->Prop}(h:T n B Q (.exit id) imm hs m):J P n B (.exit id) (Exit.then K1 (Exit.then K2 Q)) imm hs m:=zGO (fR (fR h))
theorem xH(h:T n B Q .ret imm hs m):T n B (Exit.then ((Code.ret).wp P Q) Q) .normal imm hs m:=zK (yX h)
theorem vC{id:Nat}{c:Code}(h:J P n B c (Exit.inBlock id Q) imm hs m):T n B (Exit.then ((Code.block id c).wp P Q) Q) .normal imm hs m:=zK (yM h)
theorem zX(is:List Nat){ah:List HA}(h:pick hs is=some ah:=by rfl)(hn:is.Nodup:=by decide):∀w,Good B imm hs w->Good B imm ah w:=zV is h hn
theorem yZ{t:TypeId}{x y:Operand}{b o:Nat}{c:Array Value}{v:Value}{ah:List HA}(j:Nat)(c':List Value)(hq:stB hs j c' some=some ah)(next:R P n B af Q (pc+1) imm ah m)(ho:af[pc]?=some ⟨none,.store t x y,ty,pos,after,g⟩:=by rfl)(hj:hs[j]?=some (.blk b c):=by rfl)(hx:val m x=some (.pointer (some ⟨b,o,none⟩)):=by rfl)(hy:val m y=some v:=by rfl)(hg:guardB af m g=some true:=by kernel_rfl)(fy:sizeT P t=some v.cells.size:=by kernel_rfl)(gp:Nat.ble (o+v.cells.size) c.size=true:=by kernel_rfl)(j6:v.cells.toList.all Value.oneCell'=true:=by kernel_rfl)(hc:wr c o v.cells.toList=⟨c'⟩:=by kernel_rfl):R P n B af Q pc imm hs m:=
 zAF j c' ah ho hj hx hy next hg fy gp j6 hc (by rw[zMg hj] at hq;exact Option.some.inj hq)
end
theorem bE{α β:Type}{o:Option α}{f:α->Option β}{r:β}{G:Prop}(h:(o >>= f)=some r)(k:∀x,o=some x->f x=some r->G):G:=by
 obtain⟨x,h1,h2⟩:=zB h;exact k x h1 h2
theorem ct{α:Type}{o t:α}{P1:Prop}{P2 P3:α->Prop}(hM:(pure t:Option α)=some o)(H:P1)(h2:P2 t:=by rfl)(h3:P3 t:=by rfl):∃t',o=t'/\P1/\P2 t'/\P3 t':=⟨t,(zC hM).symm,H,h2,h3⟩
abbrev NG(Q:Exit->Act->World->Prop):Prop:=∀gl a w,¬Q (.goto gl) a w
abbrev NO(Q:Exit->Act->World->Prop):Prop:=∀a w,¬Q .outgrown a w
abbrev cStmt(x:zI)(p0:Option Addr)(c0:Nat)(p1:Option Addr)(c1:Nat)(p2:Option Addr)(c2:Nat)(p3:Option Addr)(c3:Nat):List Value:=[vT x.Write.Array.l,vS p0 x.Write.Subs c0,vI x.Value.Kind,vI x.Value.Num,vS p1 x.Value.Index.Coefs c1,vI x.Value.Index.Const,vT x.Value.Read.Array.l,vS p2 x.Value.Read.Subs c2,vS p3 x.Value.Kids c3]
abbrev cExpr(x:zF)(p0:Option Addr)(c0:Nat)(p1:Option Addr)(c1:Nat)(p2:Option Addr)(c2:Nat):List Value:=[vI x.Kind,vI x.Num,vS p0 x.Index.Coefs c0,vI x.Index.Const,vT x.Read.Array.l,vS p1 x.Read.Subs c1,vS p2 x.Kids c2]
abbrev cAccess(x:zJ)(p0:Option Addr)(c0:Nat):List Value:=[vT x.Array.l,vS p0 x.Subs c0]
abbrev cAff(x:zA)(p0:Option Addr)(c0:Nat):List Value:=[vS p0 x.Coefs c0,vI x.Const]
abbrev cLoop(x:zD)(p0:Option Addr)(c0:Nat)(p1:Option Addr)(c1:Nat):List Value:=[vS p0 x.Lo c0,vS p1 x.Hi c1]
abbrev cPart(x:zL)(p0:Option Addr)(c0:Nat)(p1:Option Addr)(c1:Nat):List Value:=[vS p0 x.Nest c0,vS p1 x.Body c1]
abbrev cProg(x:zH)(p0:Option Addr)(c0:Nat)(p1:Option Addr)(c1:Nat):List Value:=[vS p0 x.Arrays c0,vS p1 x.Parts c1]
abbrev cArr(x:zE)(p0:Option Addr)(c0:Nat):List Value:=[vT x.Name.l,vS p0 x.Dims c0]
abbrev cRd(x:zP)(p0:Option Addr)(c0:Nat):List Value:=[vS p0 x.b c0,vI x.p]
abbrev zExpr:List Value:=[vI 0,vI 0,.slice none 0 0,vI 0,vT ([]),.slice none 0 0,.slice none 0 0]
abbrev zTwo:List Value:=[.slice none 0 0,.slice none 0 0]
abbrev z0:Value:=.slice none 0 0
abbrev vF:Value:=.bool false
abbrev vY:Value:=.bool true
abbrev KT:=Nat->Imm->List HA->Value->Prop
theorem iS(i:Imm):i.le i:=Imm.le.refl i
theorem iR{i:Imm}:i.le i:=Imm.le.refl i
abbrev S4{α:Type}[Rp α](imm:Imm)(p:Option Addr)(l:List α)(c:Nat):Prop:=SL imm (vS p l c) l
theorem zGX:∀{ks:List Nat}{m m':FM},keep m ks=some m'->m'.map (·.1)=ks
 | [],m,m',h=>by simp only[keep] at h;cases h;rfl
 | k::ks,m,m',h=>by
  simp only[keep] at h
  split at h
  ·rename_i v m1 h1 h2;cases h;rw[zl,zGX h2]
  ·cases h
theorem zEJ{P:Program}{n:Nat}{af:List Oper}{hs:List HA}{pc k:Nat}{js ks:List Nat}{m eb:FM}{bs:List Nat}(h:runD P n af hs pc k js ks m=some (eb,bs)):eb.map (·.1)=ks:=by
 unfold runD at h;split at h
 ·split at h
  ·rename_i hk;cases h;exact zGX hk
  ·cases h
 ·cases h
section
variable {P:Program}{n:Nat}{B:Base}{af:List Oper}{Q:Exit->Act->World->Prop}{pc:Nat}{imm:Imm}{hs:List HA}{m eb:FM}{d:Nat}
theorem zZ(iV:Nat)(js ks:List Nat)(h:runD P n af hs pc (iV - pc) js ks m=some (eb,js.map (blkAt hs)))(hR:R P n B af Q iV imm hs (eb++m))
 (hl:Nat.beq (pc+((af.drop pc).take (iV - pc)).length) iV=true:=by kernel_rfl):R P n B af Q pc imm hs m:=qO iV js eb hR (by rw[zEJ h];exact h) hl
theorem yI(js ks:List Nat)(h:runD P n af hs pc af.length js ks m=some (eb,js.map (blkAt hs)))(hR:T n B Q .normal imm hs (eb++m)):R P n B af Q pc imm hs m:=wP js eb hR (by rw[zEJ h];exact h)
theorem zCQ(iV:Nat)(js ks:List Nat)(h:runD P n af hs pc (iV - pc) js ks m=some (eb,js.map (blkAt hs)))(hR:Rq P n B af Q iV imm hs (eb++m))
 (hl:Nat.beq (pc+((af.drop pc).take (iV - pc)).length) iV=true:=by kernel_rfl):Rq P n B af Q pc imm hs m:=zRP iV js eb hR (by rw[zEJ h];exact h) hl
theorem zMF(js ks:List Nat)(h:runD P n af hs pc af.length js ks m=some (eb,js.map (blkAt hs)))(hR:T n B Q .normal imm hs (eb++m)):Rq P n B af Q pc imm hs m:=zMD js eb hR (by rw[zEJ h];exact h)
theorem yG{id:Nat}{af:List Oper}{y:Code}(ks:List Nat)(h:runD P n af hs 0 af.length [] ks m=some (eb,[]))(hR:T n B (Exit.then (y.wp P Q) Q) .normal imm hs (eb++m)):J P n B ((Code.region id af.toArray false).seq y) Q imm hs m:=yB (yI [] ks h hR)
theorem uX{id:Nat}{af:List Oper}{y:Code}(ks:List Nat)(h:runD P n af hs 0 af.length [] ks m=some (eb,[]))(hR:T n B (Exit.then (y.wp P Q) Q) .normal imm hs (eb++m)):T n B (Exit.then (((Code.region id af.toArray false).seq y).wp P Q) Q) .normal imm hs m:=zK (yG ks h hR)
theorem yP{e:Exit}{m':FM}(h:T n B Q e imm hs m')(hk:keep m (m'.map (·.1))=some m':=by kernel_rfl):T n B Q e imm hs m:=T_w m' h hk
theorem jH{c:Code}{m':FM}(h:J P n B c Q imm hs m')(hk:keep m (m'.map (·.1))=some m':=by kernel_rfl):J P n B c Q imm hs m:=mM m' h hk
theorem yW{its:List It}{gs:List (List HA)}{N:Nat}{l:List (Nat×Bool)}{jv:List Oper}{m2:FM}(ks:List Nat)
 (hi:(insM af its l m).bind (λm1=>keep m1 ks)=some m2) (h:R P n B jv Q pc imm hs m2):Ins af (factsOf N its gs) imm l m hs λm' ah=>R P n B jv Q pc imm ah m' :=
 I_h m2 h (by
  obtain⟨m1,h1,h2⟩:=Option.bind_eq_some_iff.1 hi
  rw[zGX h2];exact hi)
theorem xW(qs:List Nat){c:Bool}{α:Type}{X Y:Option α}{r:α}(hM:(if c=true then X else Y)=some r)(ht:c=true->X=some r->R P n B af Q pc imm hs (qs.map (λq=>(q,Value.bool true))++m))
 (hf:c=false->Y=some r->R P n B af Q pc imm hs (qs.map (λq=>(q,Value.bool false))++m)) (hq:keep m qs=some (qs.map λq=>(q,Value.bool c)):=by kernel_rfl):R P n B af Q pc imm hs m:=by
 cases c with
 | true=>exact zP4 (λa f=>zHz hq (λ_ _ _ h=>h) a f) (ht rfl hM)
 | false=>exact zP4 (λa f=>zHz hq (λ_ _ _ h=>h) a f) (hf rfl hM)
theorem zID(qs:List Nat){c:Bool}{α:Type}{X Y:Option α}{r:α}(hM:(if c=true then X else Y)=some r)(ht:c=true->X=some r->Rq P n B af Q pc imm hs (qs.map (λq=>(q,Value.bool true))++m))
 (hf:c=false->Y=some r->Rq P n B af Q pc imm hs (qs.map (λq=>(q,Value.bool false))++m)) (hq:keep m qs=some (qs.map λq=>(q,Value.bool c)):=by kernel_rfl):Rq P n B af Q pc imm hs m:=by
 cases c with
 | true=>exact zMd (λa f=>zHz hq (λ_ _ _ h=>h) a f) (ht rfl hM)
 | false=>exact zMd (λa f=>zHz hq (λ_ _ _ h=>h) a f) (hf rfl hM)
theorem zRS(α:Type)[Rp α](h:RL imm [] ([]:List α)->R P n B af Q pc imm (hO α (.slice none 0 0) []::hs) m):R P n B af Q pc imm hs m:=qM (kO (Rp.sz α)) (h RepL.nil)
theorem zB9(α:Type)[Rp α]{c:Code}(h:RL imm [] ([]:List α)->J P n B c Q imm (hO α (.slice none 0 0) []::hs) m):J P n B c Q imm hs m:=kT (kO (Rp.sz α)) (h RepL.nil)
theorem jW{α:Type}[Rp α]{cs:List Value}{l:List α}(hr:RL imm cs l){t len:Nat}{parts:Array (Nat×Operand)}{ps:List (Nat×Value)}{ty:TypeId}{pos:String}{after:Array Edge}{g:Option (Nat×Bool)}
 (next:∀b am,imm.le am->SL am (.slice (some ⟨b,0,none⟩) len len) l->R P n B af Q (pc+1) am hs ((d,.slice (some ⟨b,0,none⟩) len len)::m))
 (ho:af[pc]?=some ⟨some d,.buildSlice t len parts,ty,pos,after,g⟩:=by rfl) (hg:guardB af m g=some true:=by rfl) (hn:Nat.blt d n=true:=by rfl) (vy:pvals m parts.toList=some ps:=by rfl) (hc:elemZ P t len ps=some ⟨cs⟩:=by kernel_rfl) (hl:Nat.beq cs.length (len*Rp.sz α)=true:=by kernel_rfl)
 (hlM:Nat.ble len 9223372036854775807=true:=by rfl):R P n B af Q pc imm hs m:=
 qN cs α (λb _=>wG 0 rfl λam cM cH=>next b am cM (SL.of_frozen cH cM hr)) ho hg hn vy hc hl hlM
theorem tU{f:FuncId}{x:Operand}{xs:Array Operand}{ts:Array TypeId}{vs:List Value}{hs1 rest:List HA}{post:Nat->Imm->List HA->Value->Prop}{ty:TypeId}{pos:String}{after:Array Edge}{g:Option (Nat×Bool)}
 (hc:Ret P f vs imm hs1 post) (hh:hs=hs1++rest)
 (next:∀am ah v k,imm.le am->B.w0.heap.size<=k->post k am ah v->(∀b∈ah.flatMap HA.fp,b∈hs1.flatMap HA.fp∨B.w0.heap.size<=b)->R P n B af Q (pc+1) am (ah++rest) ((d,v)::m))
 (ho:af[pc]?=some ⟨some d,.call { callee:=.value x,args:=xs,argTypes:=ts },ty,pos,after,g⟩:=by rfl) (hg:guardB af m g=some true:=by rfl) (hn:Nat.blt d n=true:=by rfl) (hx:val m x=some (.func (.func f) #[] #[]):=by rfl) (hf:callable P f=true:=by kernel_rfl)
 (oc:vals m xs.toList=some vs:=by rfl):R P n B af Q pc imm hs m:=zRR hs1 rest hc next ho hg hn hx hf oc hh
theorem wZ{α γ:Type}{x:Option α}{f:α->Option γ}{r:γ}{c:Code}(hM:(x >>= f)=some r)(j5:List HA)(mf:α->FM)
 (h:∀o,x=some o->J P n B c (Exit.then (λa w=>∃am ah m',K1 o imm j5 mf am ah m'/\Fr n a m'/\Good B am ah w) Q) imm hs m)
 (k:∀t am,imm.le am->f t=some r->T n B Q .normal am j5 (mf t)):J P n B c Q imm hs m:=by
 obtain⟨o,h1,h2⟩:=zB hM
 refine rR (K1 o imm j5 mf) (h o h1) ?_
 rintro am _ _ ⟨t,rfl,cM,rfl,rfl⟩
 exact k _ am cM h2
end
theorem rN{α:Type}[Rp α]{i:Imm}:RL i [] ([]:List α):=RepL.nil
theorem rc{α:Type}[Rp α]{i:Imm}{c1 c2:List Value}{l:List α}(a:α)(h:Rp.rep i c1 a)(t:RL i c2 l):RL i (c1++c2) (a::l):=⟨c1,c2,rfl,Rp.len h,h,t⟩
theorem rI{i:Imm}:∀(l:List Int),RL i (l.map vI) l
 | []=>RepL.nil
 | a::l=>⟨[vI a],l.map vI,rfl,rfl,rfl,rI l⟩
theorem rT{i:Imm}:∀(l:List Str),RL i (l.map λs=>vT s.l) l
 | []=>RepL.nil
 | a::l=>⟨[vT a.l],l.map λs=>vT s.l,rfl,rfl,rfl,rT l⟩
section
variable {P:Program}{n:Nat}{B:Base}{Q:Exit->Act->World->Prop}{imm:Imm}{hs:List HA}{m:FM}{af:List Oper}{pc d:Nat}{ty:TypeId}{pos:String}{after:Array Edge}{g:Option (Nat×Bool)}
end
theorem Ret.fz{P:Program}{f:FuncId}{args:List Value}{imm:Imm}{hs:List HA}{post oh:Nat->Imm->List HA->Value->Prop}(h:Ret P f args imm hs post)(hp:∀k i h v,post k i h v->∃A r,h=A::r/\A.plain=true/\∀i',i.le i'->Lent i' A->oh k i' r v):Ret P f args imm hs oh:=
 λw g=>(h w g).mono λe w' he=>by
  cases e with
  | returned v=>
   obtain⟨i,ah,h1,h2⟩:=he
   obtain⟨A,r,rfl,pl,h3⟩:=hp _ _ _ _ h1
   obtain⟨i',le,hL,hg⟩:=Good.freeze h2 pl
   exact⟨i',r,h3 i' le hL,hg⟩
  | panicked c=>exact he
  | outgrown=>exact he
section
variable {P:Program}{n:Nat}{B:Base}{af:List Oper}{Q:Exit->Act->World->Prop}{pc:Nat}{imm:Imm}{hs:List HA}{m:FM}{d:Nat}
theorem resT{t:Nat}{v:Value}(h:look m t=some v):ResV P m hs [.tmp t] [v]:=.tmp h .nil
theorem resU{t t':Nat}{v v':Value}(h:look m t=some v)(h':look m t'=some v'):ResV P m hs [.tmp t,.tmp t'] [v,v']:=.tmp h (.tmp h' .nil)
theorem resC{t:Nat}{ty:TypeId}{v:Value}{b:Nat}{c:Array Value}(j:Nat)(hj:hs[j]?=some (.blk b c))(h:look m t=some (.pointer (some ⟨b,0,none⟩)))(hv:loadV P ty c.toList=some v:=by kernel_rfl):ResV P m hs [.cell t ty] [v]:=.cell j hj h hv .nil
theorem resE{t t':Nat}{ty:TypeId}{v v':Value}{b:Nat}{c:Array Value}(j:Nat)(hj:hs[j]?=some (.blk b c))(h:look m t=some (.pointer (some ⟨b,0,none⟩)))(h':look m t'=some v')(hv:loadV P ty c.toList=some v:=by kernel_rfl):ResV P m hs [.cell t ty,.tmp t'] [v,v']:=.cell j hj h hv (.tmp h' .nil)
theorem zJG{fn:Func}{post:Nat->Imm->List HA->Value->Prop}{vs:List Value}{j5:List HA}(h1:ResV P m hs fn.results.toList vs)(h2:∀w,Good B imm hs w->Good B imm j5 w)(h3:post B.w0.heap.size imm j5 (tupV vs)):T n B (QB P fn B post) .ret imm hs m:=fO ⟨_,_,h1,h2,h3⟩
theorem wD{α:Type}{a r:α}{fn:Func}{post:α->Nat->Imm->List HA->Value->Prop}{vs:List Value}{j5:List HA}(hM:(pure a:Option α)=some r)(h1:ResV P m hs fn.results.toList vs)(h2:∀w,Good B imm hs w->Good B imm j5 w)(h3:post a B.w0.heap.size imm j5 (tupV vs)):T n B (QB P fn B (post r)) .ret imm hs m:=by
 obtain rfl:=zC hM;exact fO ⟨_,_,h1,h2,h3⟩
theorem nG(h:∀gl a w,Q (.goto gl) a w->False:=by exact λ_ _ _ h=>h):NG Q:=h
theorem nO(h:∀a w,Q .outgrown a w->False:=by exact λ_ _ h=>h):NO Q:=h
theorem O2{φ:List Fact}{hsC:List HA}{i:Nat}{v v1:Value}{js js1:List Nat}{r:List It}{l l1:List (Nat×Bool)}{ins:List (List (Nat×Bool))}(h:ObX P n B af φ imm hsC m (i+1+1) r ins):ObX P n B af φ imm hsC m i (.p v js::.p v1 js1::r) (l::l1::ins):=h
theorem O3{φ:List Fact}{hsC:List HA}{i:Nat}{v v1 v2:Value}{js js1 js2:List Nat}{r:List It}{l l1 l2:List (Nat×Bool)}{ins:List (List (Nat×Bool))}(h:ObX P n B af φ imm hsC m (i+1+1+1) r ins):ObX P n B af φ imm hsC m i (.p v js::.p v1 js1::.p v2 js2::r) (l::l1::l2::ins):=h
theorem O4{φ:List Fact}{hsC:List HA}{i:Nat}{v v1 v2 v3:Value}{js js1 js2 js3:List Nat}{r:List It}{l l1 l2 l3:List (Nat×Bool)}{ins:List (List (Nat×Bool))}(h:ObX P n B af φ imm hsC m (i+1+1+1+1) r ins):ObX P n B af φ imm hsC m i (.p v js::.p v1 js1::.p v2 js2::.p v3 js3::r) (l::l1::l2::l3::ins):=h
theorem vE{α:Type}{p:Option Addr}{c:Nat}{l l':List α}(h:l'.length=l.length):vS p l c=vS p l' c:=by simp only[vS,h]
theorem zOJ{α:Type}[Rp α]{t:TypeId}{x z:Operand}{ty:TypeId}{pos:String}{after:Array Edge}{g:Option (Nat×Bool)}{v0:Value}{i:Int}{ad:Addr}{cs cc c:List Value}{v:Value}{l l':List α}{y x':α}(j o:Nat)(av:AtO v0 (Rp.sz α) i.toNat ad)(cQ:(cs.drop (i.toNat*Rp.sz α)).take (Rp.sz α)=cc)(hr:RepL (Rp.rep imm) (Rp.sz α) cs l)(hy:idx l i=some y)(hl:(pure (l.set i.toNat x'):Option (List α))=some l')(cG:Rp.rep imm c x')
 (next:∀et,RepL (Rp.rep imm) (Rp.sz α) et l'->l'.length=l.length->R P n B af Q (pc+1) imm (hs.set j (.osl v0 (Rp.sz α) et)) m)
 (ho:af[pc]?=some ⟨none,.store t x z,ty,pos,after,g⟩:=by rfl) (hg:guardB af m g=some true:=by rfl) (hj:hs[j]?=some (.osl v0 (Rp.sz α) cs):=by rfl) (hx:val m x=some (.pointer (some (ad.add o))):=by rfl) (hz:val m z=some v:=by rfl)
 (fy:sizeT P t=some v.cells.size:=by kernel_rfl) (gp:Nat.ble (o+v.cells.size) (Rp.sz α)=true:=by kernel_rfl) (j6:v.cells.toList.all Value.oneCell'=true:=by kernel_rfl) (hc:cc.take o++v.cells.toList++cc.drop (o+v.cells.size)=c:=by rfl):R P n B af Q pc imm hs m:=by
 obtain rfl:=zC hl
 exact jA j o ho hg hj av hx hz cQ fy gp j6 hr hy hc cG next
end
theorem tV{x:Int}(h0:-9223372036854775808<=x)(h1:x<=9223372036854775807):W x=x:=by
 show IntKind.i64.wrap x=x;rw[IntKind.wrap_i64];omega
theorem gK{α:Type}(l:List α)(k:Nat):idx l (k:Int)=l[k]?:=by
 unfold idx;simp
theorem zOK{α:Type}{l:List α}{i:Int}(h:0<=i):idx l i=l[i.toNat]?:=by
 unfold idx;simp[h]
theorem fU{a b:Str}(h:a.l.length+b.l.length<=9223372036854775807):cat a b=some ⟨a.l++b.l⟩:=by
 unfold cat;rw[if_pos h]
theorem fV{k:Nat}(h:k<9223372036854775807):W ((k:Int)+1)=((k+1:Nat):Int):=by
 rw[tV (by omega) (by omega)];omega
structure Raw2 where
 a:Value
 b:Value
instance:Rp Raw2 where
 sz:=2
 pos:=by decide
 rep _ cs r:=cs=[r.a,r.b]/\r.a.oneCell'=true/\r.b.oneCell'=true
 len h:=by obtain⟨rfl,_⟩:=h;rfl
 mono _ h:=h
 one h:=by obtain⟨rfl,h1,h2⟩:=h;simp[h1,h2]
def flat:List Raw2->List Value
 | []=>[]
 | r::l=>r.a::r.b::flat l
theorem zBg:∀(a b:List Raw2),flat (a++b)=flat a++flat b
 | [],_=>rfl
 | r::a,b=>by simp[flat,zBg a b]
theorem jZ{imm:Imm}:∀{l:List Raw2}{cs:List Value},RL imm cs l->cs=flat l
 | [],cs,h=>h
 | r::l,cs,⟨c1,c2,h1,_,h3,h4⟩=>by
  obtain⟨rfl,_⟩:=h3
  rw[h1,jZ h4];rfl
def LP(imm:Imm)(aj:List Raw2)(parts:List zL)(vN:Value)(nl:List zD)(vB:Value)(bl:List zI):Prop:=
 parts.length<=140737488355328/\aj.length=parts.length /\
  ((parts=[]/\aj=[])∨∃rl l,parts=l++[⟨nl,bl⟩]/\aj=rl++[⟨vN,vB⟩]/\RepL (Rp.rep imm) (Rp.sz zL) (flat rl) l)
theorem LP.mono{i j:Imm}(hl:i.le j){aj:List Raw2}{parts:List zL}{vN vB:Value}{nl:List zD}{bl:List zI}(h:LP i aj parts vN nl vB bl):LP j aj parts vN nl vB bl:=by
 obtain⟨h1,h2,h3⟩:=h;refine⟨h1,h2,h3.imp id ?_⟩;rintro⟨rl,l,k1,k2,k3⟩;exact⟨rl,l,k1,k2,RepL.mono (λ_ _=>Rp.mono hl) k3⟩
structure L4(imm:Imm)(cs:List Value)(arr:List zE)(aA:List Value)(aj:List Raw2)(parts:List zL)(vN:Value)(nl:List zD)(vB:Value)(bl:List zI)(cK cj:List Value):Prop where
 arr:RL imm cs arr
 raw:RL imm aA aj
 lp:LP imm aj parts vN nl vB bl
 n:RL imm cK nl
 b:RL imm cj bl
theorem L4.mono{i j:Imm}(hl:i.le j){cs:List Value}{arr:List zE}{aA:List Value}{aj:List Raw2}{parts:List zL}{vN vB:Value}{nl:List zD}{bl:List zI}{cK cj:List Value}
 (h:L4 i cs arr aA aj parts vN nl vB bl cK cj):L4 j cs arr aA aj parts vN nl vB bl cK cj:=
 ⟨RepL.mono (λ_ _=>Rp.mono hl) h.arr,RepL.mono (λ_ _=>Rp.mono hl) h.raw,h.lp.mono hl,RepL.mono (λ_ _=>Rp.mono hl) h.n,RepL.mono (λ_ _=>Rp.mono hl) h.b⟩
theorem LP.len{imm:Imm}{aj:List Raw2}{parts:List zL}{vN vB:Value}{nl:List zD}{bl:List zI}(h:LP imm aj parts vN nl vB bl):(parts.length:Int)=(aj.length:Int):=by rw[h.2.1]
theorem LP.last{imm:Imm}{aj:List Raw2}{parts:List zL}{vN vB:Value}{nl:List zD}{bl:List zI}(h:LP imm aj parts vN nl vB bl){x:zL}(hx:idx parts (W ((aj.length:Int) - 1))=some x):
 x=⟨nl,bl⟩/\idx aj (W ((aj.length:Int) - 1))=some ⟨vN,vB⟩ /\
  ∀vN' nl' vB' bl',LP imm (aj.set (W ((aj.length:Int) - 1)).toNat ⟨vN',vB'⟩) (parts.set (W ((aj.length:Int) - 1)).toNat ⟨nl',bl'⟩) vN' nl' vB' bl':=by
 obtain⟨h1,h2,h3⟩:=h
 have hW:W ((aj.length:Int) - 1)=(aj.length:Int) - 1:=tV (by omega) (by omega)
 rw[hW] at hx ⊢
 rcases h3 with⟨rfl,rfl⟩|⟨rl,l,rfl,rfl,h4⟩
 ·simp[idx] at hx
 ·have hl:l.length=rl.length:=by simpa using h2.symm
  have e:(((rl++[(⟨vN,vB⟩:Raw2)]).length:Int) - 1).toNat=rl.length:=by simp
  have e0:(0:Int)<=((rl++[(⟨vN,vB⟩:Raw2)]).length:Int) - 1:=by simp
  unfold idx at hx ⊢
  rw[if_pos e0,e] at hx ⊢
  rw[<- hl] at hx
  refine⟨by simpa using hx.symm,by simp,λvN' nl' vB' bl'=>⟨?_,?_,.inr ⟨rl,l,?_,?_,h4⟩⟩⟩
  ·simpa using h1
  ·simpa using h2
  ·rw[<- hl];simp
  ·simp
theorem LP.part{imm:Imm}{aj:List Raw2}{parts:List zL}{vN vB:Value}{nl:List zD}{bl:List zI}(h:LP imm aj parts vN nl vB bl)(hN:SL imm vN nl)(hB:SL imm vB bl){l1:List zL}
 (ha:app 48 parts [(⟨[],[]⟩:zL)]=some l1):LP imm (aj++[⟨.slice none 0 0,.slice none 0 0⟩]) l1 (.slice none 0 0) [] (.slice none 0 0) []:=by
 obtain⟨hb,rfl⟩:=zCO ha
 obtain⟨h1,h2,h3⟩:=h
 refine⟨?_,?_,.inr ⟨aj,parts,rfl,rfl,?_⟩⟩
 ·simp at hb ⊢;omega
 ·simp[h2]
 ·rcases h3 with⟨rfl,rfl⟩|⟨rl,l,rfl,rfl,h4⟩
  ·rfl
  ·rw[zBg]
   exact h4.append (.single rfl (rS ⟨_,_,rfl,hN,hB⟩))
theorem zHg{α β:Type}{b:Nat}{l:List α}{m:List α}{l':List β}{m':List β}{y:List α}(h:app b l m=some y)(h1:l'.length=l.length)(h2:m'.length=m.length):app b l' m'=some (l'++m'):=by
 obtain⟨k,_⟩:=zCO h;unfold app;rw[h1,h2,if_pos k]
theorem LP.done{imm:Imm}{aj:List Raw2}{parts:List zL}{vN vB:Value}{nl:List zD}{bl:List zI}(h:LP imm aj parts vN nl vB bl)(hN:SL imm vN nl)(hB:SL imm vB bl):RepL (Rp.rep imm) (Rp.sz zL) (flat aj) parts:=by
 obtain⟨h1,h2,h3⟩:=h;rcases h3 with⟨rfl,rfl⟩|⟨rl,l,rfl,rfl,h4⟩
 ·rfl
 ·rw[zBg];exact h4.append (.single rfl (rS ⟨_,_,rfl,hN,hB⟩))
section
variable {P:Program}{n:Nat}{B:Base}{Q:Exit->Act->World->Prop}{imm:Imm}{hs:List HA}{m:FM}{af:List Oper}{pc d:Nat}{ty:TypeId}{pos:String}{after:Array Edge}{g:Option (Nat×Bool)}
theorem zQJ{t:TypeId}{x y:Operand}{b o:Nat}{c:Array Value}{v:Value}(j:Nat)(c':List Value)(ah:List HA)(ho:af[pc]?=some ⟨none,.store t x y,ty,pos,after,g⟩)(hj:hs[j]?=some (.blk b c))(hx:val m x=some (.pointer (some ⟨b,o,none⟩)))(hy:val m y=some v)(j6:v.cells.toList.all Value.oneCell'=true)(next:R P n B af Q (pc+1) imm ah m)(hg:guardB af m g=some true:=by kernel_rfl)(fy:sizeT P t=some v.cells.size:=by kernel_rfl)(gp:Nat.ble (o+v.cells.size) c.size=true:=by kernel_rfl)(hc:wr c o v.cells.toList=⟨c'⟩:=by kernel_rfl)(hh:hs.set j (.blk b ⟨c'⟩)=ah:=by rfl):R P n B af Q pc imm hs m:=
 zHF j ho hg hj hx hy fy gp j6 hc hh next
end
open Go.RowKit
theorem Good.below{imm:Imm}{w w':World}(h:Good ⟨w,imm,[]⟩ imm [] w)(b:Below w.heap.size w w'):Good ⟨w,imm,[]⟩ imm [] w':=by
 refine⟨λk c e=>?_,by simp,by simp,⟨b.os,b.tape,b.output,b.size,λk hk _=>b.block k hk,λ_ _ _=>rfl⟩⟩;obtain⟨ty,fr,e'⟩:=h.inv k c e;exact⟨ty,fr,(b.block k (h.lt_imm e)).trans e'⟩
theorem Good.cell{B:Base}{imm:Imm}{hs:List HA}{w:World}(h:Good B imm hs w){g:Nat}{v:Value}(e:imm g=some #[v]):w.cell? ⟨g,0,none⟩=some v:=by
 obtain⟨ty,fr,e'⟩:=h.inv _ _ e;simp only[World.cell?,e'];simp
theorem zAa{P:Program}{f:FuncId}{args:List Value}{imm:Imm}{v:Value}{post:Nat->Imm->List HA->Value->Prop}
 (h:∀w,Good ⟨w,imm,[]⟩ imm [] w->Calls P f args.toArray w λe w'=>e=.returned v/\Below w.heap.size w w') (hp:∀k,post k imm [] v):Ret P f args imm [] post:=λw g=>
 (h w g).mono λe w' ⟨he,hb⟩=>by
  subst he
  exact⟨imm,[],hp _,g.below hb⟩
theorem zQK{P:Program}{n:Nat}{B:Base}{imm:Imm}{hs:List HA}{m:FM}{fn:Func}{post:Nat->Imm->List HA->Value->Prop}(h:RS P fn B post imm hs m):T n B (QB P fn B post) .normal imm hs m:=by
 obtain⟨vs,j5,h1,h2,h3⟩:=h;exact λ_ w f g=>⟨f.defers,_,zHG f g h1,imm,j5,h3,h2 w g⟩
def asc(l:List UInt8):Bool:=l.all λb=>decide (b.toNat<128)
theorem zMG{l:List UInt8}(h:asc l=true):∀(j:Nat) b,l[j]?=some b->b.toNat<128:=λj b hj=>by
 have:=yb.1 h b (zj hj);simpa using this
def ErrV(v:Value)(b:Bool):Prop:=(b=false/\v=.nilIface)∨(b=true/\∃t p,v=.iface t p)
def atoiM(s:Str):Int×Bool:=match Lib.atoiAll s.l with
 | .ok v=>(v,false)
 | .range=>(Lib.atoiSat s.l,true)
 | _=>(0,true)
theorem zOL{P:Program}{f:FuncId}{s:Str}{t5 ti tn:TypeId}{g1 g2:Nat}{imm:Imm}(hl:s.l.length<=281474976710656)
 (h1:∃t p,imm g1=some #[.iface t p]) (h2:∃t p,imm g2=some #[.iface t p])
 (cok:∀(s:ByteArray) (hmax:s.size<=9223372036854775806) (v:Int) (h:Lib.atoiAll s.data.toList=.ok v) (w:World),Calls P f #[.string s] w λe w'=>e=.returned (.tuple #[.int .i64 v,.nilIface])/\(w'=w∨∃t,w'=Lib.bytesWorld w t5 t))
 (csy:∀(s:ByteArray) (hlim:s.size<=281474976710656) (h:Lib.atoiAll s.data.toList=Lib.NumEnd.ofOption none) (ev:Value) (w:World) (hv:w.cell? ⟨g1,0,none⟩=some ev) (hev:ev=.nilIface∨∃te pe,ev=.iface te pe),
  Calls P f #[.string s] w λe w'=>∃N,e=.returned (.tuple #[.int .i64 (0),.iface ti (.pointer (some ⟨N,0,none⟩))])/\w.heap.size<=N/\w'.heap[N]?=some (.cells #[.string ⟨#[65,116,111,105]⟩,.string s,ev] tn (0,0))/\Below w.heap.size w w')
 (crg:∀(s:ByteArray) (hlim:s.size<=281474976710656) (h:Lib.atoiAll s.data.toList=.range) (ev:Value) (w:World) (hv:w.cell? ⟨g2,0,none⟩=some ev) (hev:ev=.nilIface∨∃te pe,ev=.iface te pe),
  Calls P f #[.string s] w λe w'=>∃N,e=.returned (.tuple #[.int .i64 (Lib.atoiSat s.data.toList),.iface ti (.pointer (some ⟨N,0,none⟩))])/\w.heap.size<=N/\w'.heap[N]?=some (.cells #[.string ⟨#[65,116,111,105]⟩,.string s,ev] tn (0,0))/\Below w.heap.size w w')
 {post:Nat->Imm->List HA->Value->Prop} (hp:∀k v,ErrV v (atoiM s).2->post k imm [] (.tuple #[.int .i64 (atoiM s).1,v])):Ret P f [.string ⟨⟨s.l⟩⟩] imm [] post:=by
 intro w g
 have fy:(⟨⟨s.l⟩⟩:ByteArray).size=s.l.length:=rfl
 cases hc:Lib.atoiAll s.l
 ·rename_i v
  have em:atoiM s=(v,false):=by unfold atoiM;rw[hc]
  rw[em] at hp
  refine(cok ⟨⟨s.l⟩⟩ (by rw[fy];omega) v hc w).mono λe w' ⟨he,hw⟩=>?_
  subst he
  refine⟨imm,[],hp _ _ (.inl ⟨rfl,rfl⟩),?_⟩
  rcases hw with rfl|⟨t,rfl⟩
  ·exact g
  ·exact g.below (Lib.bytesWorld_below _ _ _)
 ·have em:atoiM s=(0,true):=by unfold atoiM;rw[hc]
  rw[em] at hp
  obtain⟨t,p,h1⟩:=h1
  refine(csy ⟨⟨s.l⟩⟩ (by rw[fy];exact hl) hc _ w (g.cell h1) (.inr ⟨t,p,rfl⟩)).mono λe w' ⟨N,he,_,_,hb⟩=>?_
  subst he
  exact⟨imm,[],hp _ _ (.inr ⟨rfl,_,_,rfl⟩),g.below hb⟩
 ·have em:atoiM s=(Lib.atoiSat s.l,true):=by unfold atoiM;rw[hc]
  rw[em] at hp
  obtain⟨t,p,h2⟩:=h2
  refine(crg ⟨⟨s.l⟩⟩ (by rw[fy];exact hl) hc _ w (g.cell h2) (.inr ⟨t,p,rfl⟩)).mono λe w' ⟨N,he,_,_,hb⟩=>?_
  subst he
  exact⟨imm,[],hp _ _ (.inr ⟨rfl,_,_,rfl⟩),g.below hb⟩
theorem repS{i:Imm}:∀(l:List ByteArray),RepL (Rp.rep i) (Rp.sz Str) (l.map Value.string) (l.map λb=>Str.mk b.data.toList)
 | []=>rfl
 | x::l=>⟨[.string x],l.map Value.string,rfl,rfl,rfl,repS l⟩
def splitM(s sep:Str):List Str:=(Lib.split s.l sep.l).map Str.mk
theorem zNV{P:Program}{f:FuncId}{s sep:Str}{t9:TypeId}{g0:Nat}{imm:Imm}(hs:s.l.length<4294967281)(hsep:1<=sep.l.length)
 (hm:∃m,imm g0=some #[.int .i64 m])
 (hc:∀(s sep:ByteArray) (m:Int) (w:World) (hs:s.size<4294967281) (hm:w.cell? ⟨g0,0,none⟩=some (.int .i64 m)) (h1:1<=sep.size),
  Calls P f #[.string s,.string sep] w λe w'=>e=.returned (.slice (some ⟨w.heap.size,0,none⟩) (Lib.countB s sep+1) (Lib.countB s sep+1))/\w'=w.alloc (.cells ((Lib.splitB sep 0 (Lib.countB s sep) s).map Value.string).toArray t9))
 {post:Nat->Imm->List HA->Value->Prop} (hp:∀k am a c,imm.le am->SL am (vS a (splitM s sep) c) (splitM s sep)->post k am [] (vS a (splitM s sep) c)):Ret P f [.string ⟨⟨s.l⟩⟩,.string ⟨⟨sep.l⟩⟩] imm [] post:=by
 intro w g
 obtain⟨m,hm⟩:=hm
 refine(hc ⟨⟨s.l⟩⟩ ⟨⟨sep.l⟩⟩ m w hs (g.cell hm) hsep).mono λe w' ⟨he,hw⟩=>?_
 subst he
 have aP:(Lib.splitB ⟨⟨sep.l⟩⟩ 0 (Lib.countB ⟨⟨s.l⟩⟩ ⟨⟨sep.l⟩⟩) ⟨⟨s.l⟩⟩).length=Lib.countB ⟨⟨s.l⟩⟩ ⟨⟨sep.l⟩⟩+1:=Lib.splitB_all (⟨⟨sep.l⟩⟩:ByteArray) hsep 0 _ _ rfl
 have cM:=Lib.countB_le (⟨⟨sep.l⟩⟩:ByteArray) hsep s.l.length ⟨⟨s.l⟩⟩ (zf _)
 have hdat:(Lib.splitB ⟨⟨sep.l⟩⟩ 0 (Lib.countB ⟨⟨s.l⟩⟩ ⟨⟨sep.l⟩⟩) ⟨⟨s.l⟩⟩).map (λb=>Str.mk b.data.toList)=splitM s sep:=by
  unfold splitM Lib.split
  have:=Lib.splitB_data (⟨⟨sep.l⟩⟩:ByteArray) 0 (Lib.countB ⟨⟨s.l⟩⟩ ⟨⟨sep.l⟩⟩) ⟨⟨s.l⟩⟩
  have e:Lib.splitK sep.l 0 (Lib.count s.l sep.l) s.l=(Lib.splitB (⟨⟨sep.l⟩⟩:ByteArray) 0 (Lib.countB ⟨⟨s.l⟩⟩ ⟨⟨sep.l⟩⟩) ⟨⟨s.l⟩⟩).map (·.data.toList):=this.symm
  rw[e,List.map_map]
  rfl
 generalize vy:Lib.splitB ⟨⟨sep.l⟩⟩ 0 (Lib.countB ⟨⟨s.l⟩⟩ ⟨⟨sep.l⟩⟩) ⟨⟨s.l⟩⟩=ps at aP hdat hw
 have r3:ps.length=(splitM s sep).length:=by rw[<- hdat];simp
 have g2:=g.alloc_osl (ps.map Value.string).toArray t9 1 ps.length ps.length (ps.map Value.string) (by simp) (zf _) (by rw[Nat.mul_one];exact zb (by simp)) (by simp) (by
  have hz:(⟨⟨s.l⟩⟩:ByteArray).size=s.l.length:=rfl
  clear hc;have:(⟨⟨s.l⟩⟩:ByteArray).size=s.l.length:=rfl;omega)
 obtain⟨am,h1,h2,h3⟩:=g2.freeze rfl
 have kg:SL am (.slice (some ⟨w.heap.size,0,none⟩) ps.length ps.length) (ps.map λb=>Str.mk b.data.toList):=SL.of_frozen (α:=Str) h2 h1 (repS ps)
 rw[hdat] at kg
 rw[<- aP]
 refine⟨am,[],?_,?_⟩
 ·rw[r3] at kg ⊢
  exact hp _ am _ _ h1 kg
 ·subst hw
  exact h3
theorem At.of_blk{imm:Imm}{b:Nat}{cs:List Value}(h:imm b=some ⟨cs⟩):At imm ⟨b,0,none⟩ cs:=⟨b,0,_,rfl,h,by simp,by simp⟩
section
variable {P:Program}{n:Nat}{B:Base}{af:List Oper}{Q:Exit->Act->World->Prop}{pc:Nat}{imm:Imm}{hs:List HA}{m:FM}{d:Nat}
 {ty:TypeId}{pos:String}{after:Array Edge}{g:Option (Nat×Bool)}
def ifaceT(P:Program)(t:TypeId):Bool:=match P.underlying t with|some (.interface _)=>true|_=>false
theorem zRG{t t2:TypeId}{x:Operand}{ev:Value}{b:Bool}(hE:ErrV ev b)(ho:af[pc]?=some ⟨some d,.binOp .neq t x (.const .nilIface) t2,ty,pos,after,g⟩)
 (next:R P n B af Q (pc+1) imm hs ((d,.bool b)::m)) (hg:guardB af m g=some true:=by kernel_rfl) (hn:Nat.blt d n=true:=by kernel_rfl) (hx:val m x=some ev:=by kernel_rfl) (ht:ifaceT P t=true:=by kernel_rfl):R P n B af Q pc imm hs m:=by
 unfold ifaceT at ht
 split at ht
 ·rename_i ms hu
  refine fC ho hg rfl hn λa w f gd=>⟨.bool b,w,imm,hs,?_,gd,next⟩
  have hy:a.eval (.const .nilIface)=.nilIface:=rfl
  rcases hE with⟨rfl,rfl⟩|⟨rfl,te,pe,rfl⟩
  ·simp[execOp,f.eval hx,hy,eqGuard,binOp,zCA hu]
  ·simp[execOp,f.eval hx,hy,eqGuard,binOp,zCB hu]
 ·cases ht
end
section
variable {P:Program}{n:Nat}{B:Base}{Q:Exit->Act->World->Prop}{imm:Imm}{hs:List HA}{m:FM}{af:List Oper}{pc d:Nat}{ty:TypeId}{pos:String}{after:Array Edge}{g:Option (Nat×Bool)}
theorem zKF{t e:TypeId}{w:World}{p:Option Addr}{l c:Nat}(hu:P.underlying t=some (.slice e)):(Op.equal t (.slice p l c) (.slice none 0 0)).run P w=.ok p.isNone w:=by
 have h:∀d,(Op.equalIn (d+1) t (.slice p l c) (.slice none 0 0)).run P w=.ok p.isNone w:=λd=>by
  rw[Op.equalIn];cases p <;> simp[xZ hu]
 exact h 9999
def sliceT(P:Program)(t:TypeId):Bool:=match P.underlying t with|some (.slice _)=>true|_=>false
theorem zRH{t t2:TypeId}{x:Operand}{p:Option Addr}{l c:Nat}(b:Bool)(ho:af[pc]?=some ⟨some d,.binOp .eql t x (.const (.slice none 0 0)) t2,ty,pos,after,g⟩)(hb:p.isNone=b)
 (next:R P n B af Q (pc+1) imm hs ((d,.bool b)::m)) (hx:val m x=some (.slice p l c)) (hg:guardB af m g=some true:=by kernel_rfl) (hn:Nat.blt d n=true:=by kernel_rfl) (ht:sliceT P t=true:=by kernel_rfl):R P n B af Q pc imm hs m:=by
 unfold sliceT at ht
 split at ht
 ·rename_i e hu
  refine fC ho hg rfl hn λa w f gd=>⟨.bool b,w,imm,hs,?_,gd,next⟩
  have hy:a.eval (.const (.slice none 0 0))=.slice none 0 0:=rfl
  simp[execOp,f.eval hx,hy,eqGuard,binOp,zKF hu,hb]
 ·cases ht
end
section
variable {P:Program}{n:Nat}{B:Base}{Q:Exit->Act->World->Prop}{imm:Imm}{hs:List HA}{m:FM}
theorem zKG{c:Code}(ah:List HA)(hp:ah.Perm hs)(h:J P n B c Q imm ah m):J P n B c Q imm hs m:=λa w f g=>h a w f (g.perm hp)
theorem zOM{c:Code}(hF:False){am:Imm}{ah:List HA}{m':FM}(next:T n B Q .normal am ah m'):J P n B c Q imm hs m:=hF.elim
theorem zRI{c:Code}{L:List HA}(x:Exit)(S:Imm->List HA->FM->Prop)(h1:∀B':Base,J P n B' c (λe a w=>e=x/\∃am ah m',S am ah m'/\Fr n a m'/\Good B' am ah w) imm hs m)
 (h2:∀am ah m',S am ah m'->imm.le am->T n B Q x am (ah++L) m'):J P n B c Q imm (hs++L) m:=λa w f g=>by
 have jf:=g.nodup
 rw[zu] at jf
 have hg1:=g.enter (hs1:=hs) (λA hA=>Ad _ hA) (zn.1 jf).1
 refine wp_mono (h1 _ a w f hg1) λe a' w' he=>?_
 obtain⟨rfl,am,ah,m',k1,k2,k3⟩:=he
 obtain⟨k4,k5,_⟩:=g.leave k3
 exact h2 am ah m' k1 k5 a' w' k2 k4
theorem zRJ{B':Base}{x:Exit}{S:Imm->List HA->FM->Prop}(h:S imm hs m):T n B' (λe a w=>e=x/\∃am ah m',S am ah m'/\Fr n a m'/\Good B' am ah w) x imm hs m:=λ_ _ f g=>⟨rfl,imm,hs,m,h,f,g⟩
end
structure NL where
 pl:Option Addr
 lo:List zA
 cl:Nat
 csl:List Value
 ph:Option Addr
 hi:List zA
 ch:Nat
 csh:List Value
def NL.vl(x:NL):Value:=vS x.pl x.lo x.cl
def NL.vh(x:NL):Value:=vS x.ph x.hi x.ch
def NL.ha(x:NL):List HA:=[hO zA x.vh x.csh,hO zA x.vl x.csl]
def NL.raw(x:NL):Raw2:=⟨x.vl,x.vh⟩
def NL.d(x:NL):zD:=⟨x.lo,x.hi⟩
def NL.ok(imm:Imm)(x:NL):Prop:=RL imm x.csl x.lo/\RL imm x.csh x.hi
def NL.fz(imm:Imm)(x:NL):Prop:=SL imm x.vl x.lo/\SL imm x.vh x.hi
theorem NL.ok.mono{i j:Imm}(h:i.le j){x:NL}(hx:x.ok i):x.ok j:=⟨RepL.mono (λ_ _=>Rp.mono h) hx.1,RepL.mono (λ_ _=>Rp.mono h) hx.2⟩
theorem NL.fz.mono{i j:Imm}(h:i.le j){x:NL}(hx:x.fz i):x.fz j:=⟨hx.1.mono h,hx.2.mono h⟩
abbrev NLs(xs:List NL):List HA:=xs.flatMap NL.ha
theorem zON{xs:List NL}{k:Nat}{x:NL}(h:xs[k]?=some x):∃ys,(NLs xs).Perm (x.ha++NLs ys)/\(∀y∈ys,y∈xs)/\∀i:Nat,∀y,i ≠ k->xs[i]?=some y->y∈ys:=by
 obtain⟨hk,rfl⟩:=yi.1 h;refine⟨xs.eraseIdx k,?_,λy hy=>List.mem_of_mem_eraseIdx hy,λi y hi hy=>List.mem_eraseIdx_iff_getElem?.2 ⟨i,hi,hy⟩⟩;have:=(eO h).flatMap_right NL.ha;simpa [NLs] using this
section
variable {P:Program}{n:Nat}{B:Base}{Q:Exit->Act->World->Prop}{hs:List HA}{m:FM}
theorem zCR{c:Code}:∀(xs:List NL) {imm:Imm},(∀x∈xs,x.ok imm)->(∀am,imm.le am->(∀x∈xs,x.fz am)->J P n B c Q am hs m)->J P n B c Q imm (NLs xs++hs) m
 | [],imm,_,h=>h imm (Imm.le.refl _) (λ_ h=>by cases h)
 | x::xs,imm,hx,h=>by
  have h1:=hx x (xz ..)
  show J P n B c Q imm (hO zA x.vh x.csh::hO zA x.vl x.csl::(NLs xs++hs)) m
  refine oD 0 rfl ?_
  intro bw ae u6
  have k1:=SL.of_frozen u6 ae h1.2
  refine oD 0 rfl ?_
  intro imm2 aJ r3
  have k2:=SL.of_frozen r3 aJ (RepL.mono (λ_ _=>Rp.mono ae) h1.1)
  refine zCR xs (λy hy=>(hx y (xx _ hy)).mono (ae.trans aJ)) ?_
  intro imm3 aL h3
  refine h imm3 ((ae.trans aJ).trans aL) λy hy=>?_
  rcases yh.1 hy with rfl|hy
  ·exact⟨k2.mono aL,(k1.mono aJ).mono aL⟩
  ·exact h3 y hy
end
theorem zHh{α β:Type}{f:α->β}{l:List α}{i:Int}{y:β}(h:idx (l.map f) i=some y):∃x,idx l i=some x/\y=f x:=by
 obtain⟨h0,h1,h2⟩:=rG h;rw[Ae,Option.map_eq_some_iff] at h2;obtain⟨x,h3,rfl⟩:=h2;exact⟨x,by unfold idx;rw[if_pos h0,h3],rfl⟩
theorem zCg{α β:Type}{f:α->β}{l:List α}{i:Int}{x:α}(h:idx l i=some x):idx (l.map f) i=some (f x):=by
 obtain⟨h0,h1,h2⟩:=rG h;unfold idx;rw[if_pos h0,Ae,h2];rfl
section
variable {P:Program}{n:Nat}{B:Base}{Q:Exit->Act->World->Prop}{hs:List HA}{m:FM}{imm:Imm}
theorem zOO{c:Code}{xs:List NL}{i:Int}{x:NL}(hx:idx xs i=some x)(lY:∀x∈xs,x.ok imm)(h:∀am,imm.le am->(∀(j:Nat) y,j ≠ i.toNat->xs[j]?=some y->y.fz am)->J P n B c Q am (hO zA x.vh x.csh::hO zA x.vl x.csl::hs) m):J P n B c Q imm (NLs xs++hs) m:=by
 obtain⟨h0,h1,h2⟩:=rG hx;obtain⟨ys,k1,k2,k3⟩:=zON h2;refine zKG (NLs ys++(x.ha++hs)) ?_ ?_
 ·rw[<- yu];exact(Ac.trans k1.symm).append_right hs
 ·refine zCR ys (λy hy=>lY y (k2 y hy)) ?_;intro bw ae hf;exact h bw ae λj y hj hy=>hf y (k3 j y hj hy)
end
def PW(imm:Imm)(aj:List Raw2)(nest:List zD):Prop:=aj.length=nest.length/\∀(j:Nat) r d,aj[j]?=some r->nest[j]?=some d->SL imm r.a d.Lo/\SL imm r.b d.Hi
theorem PW.rl{imm:Imm}:∀{aj:List Raw2}{nest:List zD},PW imm aj nest->RL imm (flat aj) nest
 | [],[],_=>rfl
 | [],_::_,h=>by cases h.1
 | _::_,[],h=>by cases h.1
 | r::aj,d::nest,h=>⟨[r.a,r.b],flat aj,rfl,rfl,uW ⟨_,_,rfl,h.2 0 r d rfl rfl⟩,PW.rl ⟨by have:=h.1;simpa using this,λj r' d' h1 h2=>h.2 (j+1) r' d' (by simpa using h1) (by simpa using h2)⟩⟩
theorem zKH{imm:Imm}{xs:List NL}{k:Nat}{r:Raw2}{d:zD}(hfz:∀(j:Nat) y,j ≠ k->xs[j]?=some y->y.fz imm)(hr:SL imm r.a d.Lo/\SL imm r.b d.Hi):PW imm ((xs.map NL.raw).set k r) ((xs.map NL.d).set k d):=by
 refine⟨by simp,λj r' d' h1 h2=>?_⟩;by_cases hj:j=k
 ·subst hj;rw[List.getElem?_set_self' ] at h1 h2;cases hx:xs[j]? with
  | none=>simp[hx] at h1
  | some y=>
   simp[hx] at h1 h2;subst h1;subst h2;exact hr
 ·rw[List.getElem?_set_ne (λe=>hj e.symm),Ae,Option.map_eq_some_iff] at h1 h2;obtain⟨y,h3,rfl⟩:=h1;obtain⟨y',h4,rfl⟩:=h2;rw[h3] at h4;cases h4
  exact hfz j y hj h3
theorem NL.shut{imm:Imm}{x:NL}(h:x.fz imm):Rp.rep imm [x.vl,x.vh] x.d:=uW ⟨_,_,rfl,h.1,h.2⟩
theorem zIE{imm:Imm}:∀{xs:List NL},(∀x∈xs,x.fz imm)->RL imm (flat (xs.map NL.raw)) (xs.map NL.d)
 | [],_=>rfl
 | x::xs,h=>⟨[x.vl,x.vh],flat (xs.map NL.raw),rfl,rfl,NL.shut (h x (xz ..)),zIE λy hy=>h y (xx _ hy)⟩
theorem LP.push{imm:Imm}{aj:List Raw2}{parts:List zL}{vN vB vN' vB':Value}{nl nl':List zD}{bl bl':List zI}(h:LP imm aj parts vN nl vB bl)(hN:SL imm vN nl)(hB:SL imm vB bl){l1:List zL}
 (ha:app 48 parts [(⟨nl',bl'⟩:zL)]=some l1):LP imm (aj++[⟨vN',vB'⟩]) l1 vN' nl' vB' bl':=by
 obtain⟨hb,rfl⟩:=zCO ha
 obtain⟨h1,h2,h3⟩:=h
 refine⟨?_,?_,.inr ⟨aj,parts,rfl,rfl,?_⟩⟩
 ·simp at hb ⊢;omega
 ·simp[h2]
 ·rcases h3 with⟨rfl,rfl⟩|⟨rl,l,rfl,rfl,h4⟩
  ·rfl
  ·rw[zBg]
   exact h4.append (.single rfl (rS ⟨_,_,rfl,hN,hB⟩))
theorem LP.nil{imm:Imm}:LP imm [] [] (.slice none 0 0) [] (.slice none 0 0) []:=⟨by decide,rfl,.inl ⟨rfl,rfl⟩⟩
structure ND where
 nm:Str
 p:Option Addr
 d:List Int
 c:Nat
 cs:List Value
def ND.v(x:ND):Value:=vS x.p x.d x.c
def ND.ha(x:ND):HA:=hO Int x.v x.cs
def ND.raw(x:ND):Raw2:=⟨vT x.nm.l,x.v⟩
def ND.a(x:ND):zE:=⟨x.nm,x.d⟩
def ND.ok(imm:Imm)(x:ND):Prop:=RL imm x.cs x.d
def ND.fz(imm:Imm)(x:ND):Prop:=SL imm x.v x.d
theorem ND.ok.mono{i j:Imm}(h:i.le j){x:ND}(hx:x.ok i):x.ok j:=RepL.mono (λ_ _=>Rp.mono h) hx
theorem ND.fz.mono{i j:Imm}(h:i.le j){x:ND}(hx:x.fz i):x.fz j:=SL.mono h hx
section
variable {P:Program}{n:Nat}{B:Base}{Q:Exit->Act->World->Prop}{hs:List HA}{m:FM}
end
def RW(imm:Imm)(aj:List Raw2)(A:List zE)(k:Nat)(w:Value):Prop:=aj.length=A.length/\∀(j:Nat) r d,aj[j]?=some r->A[j]?=some d->r.a=vT d.Name.l/\(j ≠ k->SL imm r.b d.Dims)/\(j=k->r.b=w)
def ArW(imm:Imm)(v:Value)(aj:List Raw2)(A:List zE)(k:Int)(w:Value):Prop:=SL imm v aj/\RW imm aj A k.toNat w
theorem ArW.mono{i j:Imm}(h:i.le j){v:Value}{aj:List Raw2}{A:List zE}{k:Int}{w:Value}(hx:ArW i v aj A k w):ArW j v aj A k w:=
 ⟨SL.mono h hx.1,hx.2.1,λq r d h1 h2=>⟨(hx.2.2 q r d h1 h2).1,λhq=>SL.mono h ((hx.2.2 q r d h1 h2).2.1 hq),(hx.2.2 q r d h1 h2).2.2⟩⟩
theorem RW.of{imm:Imm}{xs:List ND}{i:Int}{x:ND}(hx:idx xs i=some x)(h:∀(j:Nat) y,j ≠ i.toNat->xs[j]?=some y->y.fz imm):RW imm (xs.map ND.raw) (xs.map ND.a) i.toNat x.v:=by
 obtain⟨h0,h1,h2⟩:=rG hx;refine⟨by simp,λj r d hr hd=>?_⟩;rw[Ae,Option.map_eq_some_iff] at hr hd;obtain⟨y,hy,rfl⟩:=hr;obtain⟨y',hy',rfl⟩:=hd;rw[hy] at hy';cases hy'
 refine⟨rfl,λhj=>h j y hj hy,λhj=>?_⟩;subst hj;rw[h2] at hy;cases hy;rfl
theorem RW.at{imm:Imm}{aj:List Raw2}{A:List zE}{k:Int}{w:Value}(h:RW imm aj A k.toNat w){a:zE}(ha:idx A k=some a):idx aj k=some ⟨vT a.Name.l,w⟩:=by
 obtain⟨h0,h1,h2⟩:=rG ha;have aG:=(yi.1 h2).1;have hr:aj[k.toNat]?=some (aj[k.toNat]'(by rw[h.1];exact aG)):=ya _;obtain⟨e1,_,e2⟩:=h.2 _ _ _ hr h2;unfold idx;rw[if_pos h0,hr]
 congr 1
 generalize aj[k.toNat]'(by rw[h.1];exact aG)=r at *;cases r
 simp only at e1 e2;rw[e1,e2 trivial]
theorem RW.rl{imm:Imm}:∀{aj:List Raw2}{A:List zE},aj.length=A.length->(∀(j:Nat) r d,aj[j]?=some r->A[j]?=some d->r.a=vT d.Name.l/\SL imm r.b d.Dims)->RL imm (flat aj) A
 | [],[],_,_=>rfl
 | [],_::_,h,_=>by cases h
 | _::_,[],h,_=>by cases h
 | r::aj,d::A,h,hh=>⟨[r.a,r.b],flat aj,rfl,rfl,by
  obtain⟨e1,e2⟩:=hh 0 r d rfl rfl
  rw[e1]
  exact sL ⟨_,rfl,e2⟩,RW.rl (by simpa using h) λj r' d' h1 h2=>hh (j+1) r' d' (by simpa using h1) (by simpa using h2)⟩
theorem RW.set{imm:Imm}{aj:List Raw2}{A:List zE}{k:Int}{w:Value}(h:RW imm aj A k.toNat w){a:zE}(ha:idx A k=some a){d:List Int}(hd:SL imm w d):RL imm (flat aj) (A.set k.toNat ⟨a.Name,d⟩):=by
 obtain⟨h0,h1,h2⟩:=rG ha;refine RW.rl (by rw[zk];exact h.1) λj r y hr hy=>?_;by_cases hj:j=k.toNat
 ·subst hj;rw[List.getElem?_set_self (yi.1 h2).1] at hy;cases hy
  obtain⟨e1,_,e2⟩:=h.2 _ r a hr h2;exact⟨e1,by rw[e2 rfl];exact hd⟩
 ·rw[List.getElem?_set_ne (λe=>hj e.symm)] at hy;obtain⟨e1,e2,_⟩:=h.2 _ r y hr hy;exact⟨e1,e2 hj⟩
theorem ArW.done{imm:Imm}{p:Option Addr}{c:Nat}{aj:List Raw2}{A:List zE}{k:Int}{w:Value}(h:ArW imm (vS p aj c) aj A k w){a:zE}(ha:idx A k=some a){d:List Int}(hd:SL imm w d):SL imm (vS p (A.set k.toNat ⟨a.Name,d⟩) c) (A.set k.toNat ⟨a.Name,d⟩):=by
 obtain⟨⟨aR,h1,h2⟩,h3⟩:=h;refine⟨aR,?_,?_⟩
 ·have e:(vS p (A.set k.toNat ⟨a.Name,d⟩) c)=vS p aj c:=by simp only[vS,zk,h3.1]
  rw[e];exact h1
 ·rw[jZ h2];exact h3.set ha hd
section
variable {P:Program}{n:Nat}{B:Base}{imm:Imm}{hs:List HA}{m:FM}
end
structure NB where
 vN:Value
 nl:List zD
 p:Option Addr
 d:List zI
 c:Nat
 cs:List Value
def NB.v(x:NB):Value:=vS x.p x.d x.c
def NB.ha(x:NB):HA:=hO zI x.v x.cs
def NB.raw(x:NB):Raw2:=⟨x.vN,x.v⟩
def NB.a(x:NB):zL:=⟨x.nl,x.d⟩
def NB.ok(imm:Imm)(x:NB):Prop:=SL imm x.vN x.nl/\RL imm x.cs x.d
def NB.fz(imm:Imm)(x:NB):Prop:=SL imm x.vN x.nl/\SL imm x.v x.d
theorem NB.ok.mono{i j:Imm}(h:i.le j){x:NB}(hx:x.ok i):x.ok j:=⟨SL.mono h hx.1,RepL.mono (λ_ _=>Rp.mono h) hx.2⟩
theorem NB.fz.mono{i j:Imm}(h:i.le j){x:NB}(hx:x.fz i):x.fz j:=⟨SL.mono h hx.1,SL.mono h hx.2⟩
theorem NB.shut{imm:Imm}{x:NB}(h:x.fz imm):Rp.rep imm [x.vN,x.v] x.a:=rS ⟨_,_,rfl,h.1,h.2⟩
section
variable {P:Program}{n:Nat}{B:Base}{Q:Exit->Act->World->Prop}{hs:List HA}{m:FM}
end
open Go.Proofs
structure Raw1 where
 v:Value
instance:Rp Raw1 where
 sz:=1
 pos:=Bi
 rep _ cs r:=cs=[r.v]/\r.v.oneCell'=true
 len h:=by obtain⟨rfl,_⟩:=h;rfl
 mono _ h:=h
 one h:=by obtain⟨rfl,h1⟩:=h;simp[h1]
def rv(R:List Raw1):List Value:=R.map Raw1.v
def GN{β:Type}[Rp β](imm:Imm)(xs:List (List β))(X:List Raw1)(y:List β)(v:Value):Prop:=
 (xs=[]/\X=[]/\y=[]/\v=.slice none 0 0)∨∃ln Xi,xs=ln++[y]/\X=Xi++[⟨v⟩]/\RL imm (rv Xi) ln/\xs.length<=10000000000000
section
variable {β:Type} [Rp β] {imm:Imm}{xs:List (List β)}{X:List Raw1}{y:List β}{v:Value}
theorem GN.mono{j:Imm}(hl:imm.le j)(h:GN imm xs X y v):GN j xs X y v:=by
 rcases h with h|⟨ln,Xi,h1,h2,h3,h4⟩
 ·exact .inl h
 ·exact .inr ⟨ln,Xi,h1,h2,RepL.mono (λ_ _=>Rp.mono hl) h3,h4⟩
theorem zOP{ln:List (List β)}{Xi:List Raw1}(h:RL imm (rv Xi) ln):Xi.length=ln.length:=by
 have:=h.length;simpa [rv,show Rp.sz (List β)=1 from rfl] using this
theorem GN.len(h:GN imm xs X y v):X.length=xs.length:=by
 rcases h with⟨rfl,rfl,_⟩|⟨ln,Xi,rfl,rfl,h3,_⟩
 ·rfl
 ·simp[zOP h3]
theorem GN.all(h:GN imm xs X y v)(hs:SL imm v y):RL imm (rv X) xs:=by
 rcases h with⟨rfl,rfl,_⟩|⟨ln,Xi,rfl,rfl,h3,_⟩
 ·exact RepL.nil
 ·have e:rv (Xi++[⟨v⟩])=rv Xi++[v]:=by simp[rv]
  rw[e];exact h3.append ⟨[v],[],rfl,rfl,⟨v,rfl,hs⟩,rfl⟩
theorem GN.push(h:GN imm xs X y v)(hs:SL imm v y)(hb:(xs.length+1)*24<=140737488355328):GN imm (xs++[[]]) (X++[⟨.slice none 0 0⟩]) [] (.slice none 0 0):=
 .inr ⟨xs,X,rfl,rfl,h.all hs,by simp;omega⟩
theorem zQ6{n:Nat}(h:n<=10000000000000):W (((n+1:Nat):Int) - 1)=(n:Int):=by rw[tV (by omega) (by omega)];omega
theorem GN.last(h:GN imm xs X y v){z:List β}(hz:idx xs (W ((xs.length:Int) - 1))=some z):z=y/\idx X (W ((X.length:Int) - 1))=some ⟨v⟩/\W ((X.length:Int) - 1)=W ((xs.length:Int) - 1) /\
 ∀(y':List β) (v':Value),GN imm (xs.set (W ((xs.length:Int) - 1)).toNat y') (X.set (W ((X.length:Int) - 1)).toNat ⟨v'⟩) y' v':=by
 rcases h with⟨rfl,rfl,_⟩|⟨ln,Xi,rfl,rfl,h3,h4⟩
 ·obtain⟨_,_,h2⟩:=rG hz
  simp at h2
 ·have hl:=zOP h3
  simp only[yc,Ai] at hz h4 ⊢
  have e1:=zQ6 (n:=ln.length) (by omega)
  rw[e1] at hz
  rw[hl,e1]
  refine⟨?_,?_,rfl,λy' v'=>?_⟩
  ·have:=(rG hz).2.2
   simp at this
   exact this.symm
  ·unfold idx
   simp[hl]
  ·rw[zq]
   refine .inr ⟨ln,Xi,?_,?_,h3,?_⟩
   ·simp
   ·simp[<- hl]
   ·simp;omega
end
def FS1{σ α β:Type}[Vr α][Vr β](P:Program)(imm:Imm)(v8:σ->List HA)(v:Value)(φ:α->σ->Option (β×σ)):Prop:=
 ∃f first bi,v=.func (.func f) ⟨first⟩ ⟨bi⟩/\callable P f=true/\∀am,imm.le am->∀a s r va,φ a s=some r->Vr.rep am va a->Ret P f (first++[va]++bi) am (v8 s) λ_ i ah u=>ah=v8 r.2/\Vr.rep i u r.1
theorem FS1.mono{σ α β:Type}[Vr α][Vr β]{P:Program}{i j:Imm}{v8:σ->List HA}{v:Value}{φ:α->σ->Option (β×σ)}(hl:i.le j)(h:FS1 P i v8 v φ):FS1 P j v8 v φ:=by
 obtain⟨f,first,bi,h1,h2,h3⟩:=h;exact⟨f,first,bi,h1,h2,λam h'=>h3 am (hl.trans h')⟩
theorem FS1.intro{σ α β:Type}[Vr α][Vr β]{P:Program}{imm:Imm}{v8:σ->List HA}{f:FuncId}{first bi:List Value}{φ:α->σ->Option (β×σ)}(h:∀am,imm.le am->∀a s r va,φ a s=some r->Vr.rep am va a->Ret P f (first++[va]++bi) am (v8 s) λ_ i ah u=>ah=v8 r.2/\Vr.rep i u r.1)
 (hc:callable P f=true:=by kernel_rfl):FS1 P imm v8 (.func (.func f) ⟨first⟩ ⟨bi⟩) φ:=⟨f,first,bi,rfl,hc,h⟩
section
variable {P:Program}{n:Nat}{B:Base}{af:List Oper}{Q:Exit->Act->World->Prop}{pc:Nat}{imm:Imm}{hs:List HA}{m:FM}{d:Nat}
 {ty:TypeId}{pos:String}{after:Array Edge}{g:Option (Nat×Bool)}
end
open Go.RowKit
theorem zKx{imm : Imm}: ∀{s : List Str} {cs : List Value},RepL (Rp.rep imm) (Rp.sz Str) cs s -> cs = s.map λx=>Value.string ⟨⟨x.l⟩⟩
 | [],cs,h=>by have h : cs = []:=h;rw[h];rfl
 | l :: s,cs,⟨c1,c2,h1,_,h3,h4⟩=>by
  have h3 : c1 = [Value.string ⟨⟨l.l⟩⟩]:=h3
  rw[h1,h3,zKx h4];rfl
theorem zOQ{P : Program}{f : FuncId}{imm : Imm}{db : List Str}{sep : Str}{p : Option Addr}{c : Nat}{post : Nat -> Imm -> List HA -> Value -> Prop}
 (h1 : db.length<=140737488355328) (h2 : (Lib.join (db.map (·.l)) sep.l).length<=140737488355328) (h : SL imm (vS p db c) db)
 (hn : ∀(a : Option Addr) (c : Nat) (w : World),Calls P f #[.slice a 0 c,.string ⟨⟨sep.l⟩⟩] w λe w' => e = .returned (.string ⟨#[]⟩) /\ w' = w)
 (hc : ∀(bk o c : Nat) (xs : List ByteArray) (w : World),(∀(j : Nat) x,xs[j]? = some x -> w.cell? ⟨bk,o+j,none⟩ = some (.string x)) -> bk<w.heap.size -> xs.length<=140737488355328 -> xs.length<=c ->
  (Lib.join (xs.map (·.data.toList)) (⟨⟨sep.l⟩⟩ : ByteArray).data.toList).length<=140737488355328 ->
  Calls P f #[.slice (some ⟨bk,o,none⟩) xs.length c,.string ⟨⟨sep.l⟩⟩] w λe w' => e = .returned (.string ⟨(Lib.join (xs.map (·.data.toList)) (⟨⟨sep.l⟩⟩ : ByteArray).data.toList).toArray⟩) /\ Below w.heap.size w w')
 (hp : ∀k,post k imm [] (vT (Lib.join (db.map (·.l)) sep.l))) : Ret P f [vS p db c,vT sep.l] imm [] post:=by
 obtain⟨aR,hs,hr⟩:=h
 have gy:=zKx hr
 refine zAa (λw g => ?_) hp
 rcases hs with⟨e,_⟩|⟨b,off,len,bi,all,e,hb,fy,hlc,hl,hall⟩
 ·injection e with e1 e2 e3
  have e0 : db = []:=AT.1 e2
  subst e0
  exact(hn p c w).mono λe w' ⟨he,hw⟩=>⟨he,hw ▸ Below.refl _ _⟩
 ·injection e with e1 e2 e3
  subst e1;subst e2;subst e3
  obtain⟨ty,fr,hw⟩:=g.inv b all hb
  have aG : b<w.heap.size:=by
   rcases z6 b w.heap.size with h|h
   ·exact h
   ·rw[Ay h] at hw;cases hw
  have vv : (db.map λs=>(⟨⟨s.l⟩⟩ : ByteArray)).map (·.data.toList) = db.map (·.l):=by rw[List.map_map];rfl
  have h9:=hc b off c (db.map λs=>(⟨⟨s.l⟩⟩ : ByteArray)) w (λj x hx=>by
   rw[Ae] at hx
   cases hj : db[j]? with
   | none=>rw[hj] at hx;cases hx
   | some s=>
    rw[hj] at hx
    have hx : (⟨⟨s.l⟩⟩ : ByteArray) = x:=by simpa using hx
    have hjl:=(yi.1 hj).1
    simp only[World.cell?,hw,Option.isSome_none,xq,xt]
    have h0 : aR[j]? = some (Value.string x):=by rw[gy,Ae,hj,<- hx];rfl
    rw[<- hall,Ax,if_pos (by rw[show Rp.sz Str = 1 from rfl];omega),AS,Array.getElem?_toList] at h0
    exact h0) aG (by rw[ym];exact h1) (by rw[ym];exact hlc) (by rw[vv];exact h2)
  rw[vv,ym] at h9
  exact h9
section
variable {P:Program}{n:Nat}{B:Base}{Q:Exit->Act->World->Prop}{imm:Imm}{hs:List HA}{m:FM}{af:List Oper}{pc d:Nat}{ty:TypeId}{pos:String}{after:Array Edge}{g:Option (Nat×Bool)}
end
theorem eQ{B:Base}{imm:Imm}(a b:List HA):∀w,Good B imm (a++b) w->Good B imm (b++a) w:=λ_ h=>h.perm Ac
section
variable {P:Program}{n:Nat}{B:Base}{af:List Oper}{Q:Exit->Act->World->Prop}{pc:Nat}{imm:Imm}{hs:List HA}{m:FM}{d:Nat}
end
end Go.LN
