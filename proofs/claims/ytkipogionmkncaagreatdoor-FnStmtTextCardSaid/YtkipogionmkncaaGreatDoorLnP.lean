/- Helper of the proof (see the last text). -/
import Derived.Test.YtkipogionmkncaaGreatDoorLnI
import Derived.Laws.BitsLemmas
import Derived.Sort.Grow
import Derived.Lib.LaidTab
import Derived.Lib.ItoaNum
import Derived.Lib.ItoaMem
import Derived.Sort.Row
import Derived.Lib.AtoiErrMem
import Derived.Lib.AtoiTie
import Derived.Lib.SplitLaws
import Derived.Lib.AtoiAll
import Derived.Shelf.SlicesE.Delete
import Derived.Lib.Join
import Derived.Laws.StructEq
set_option linter.unusedVariables false
set_option linter.unusedSimpArgs false
namespace Go.LN
def mkrow{α:Type}(bytes:Nat)(k:Int)(z:α):Option (List α):=if 0<=k/\k.toNat*bytes<=140737488355328 then some (List.replicate k.toNat z) else none
def zrow(z:Array Value)(k:Nat):List Value:=(List.range k).map λi=>z[i % z.size]!
theorem zFk(z:Array Value)(k:Nat)(h:0<z.size):(List.range z.size).map (λi=>z[(k*z.size+i) % z.size]!)=z.toList:=by
 refine List.ext_getElem (by simp) λi h1 h2=>?_;have hi:i<z.size:=by simpa using h1
 simp only[List.getElem_map,List.getElem_range,Array.getElem_toList];have e:(k*z.size+i) % z.size=i:=by rw[Nat.add_comm,Nat.mul_comm,Nat.add_mul_mod_self_left,Nat.mod_eq_of_lt hi]
 rw[e];exact getElem!_pos z i hi
theorem zDS{α:Type}{ρ:List Value->α->Prop}{z:Array Value}{a:α}(hz:0<z.size)(h:ρ z.toList a):∀k,RepL ρ z.size (zrow z (k*z.size)) (List.replicate k a)
 | 0=>by simp[zrow,RepL]
 | k+1=>by
  have e:zrow z ((k+1)*z.size)=zrow z (k*z.size)++z.toList:=by
   unfold zrow
   rw[dd,List.range_add,List.map_append,List.map_map]
   congr 1
   exact zFk z k hz
  rw[e,List.replicate_succ']
  exact(zDS hz h k).append (.single (by simp) h)
section
variable {P:Program}{n:Nat}{B:Base}{Q:Exit->Act->World->Prop}{imm:Imm}{hs:List HA}{m:FM}{aa:List Oper}{pc d:Nat}{ty:TypeId}{pos:String}{after:Array Edge}{g:Option (Nat×Bool)}
def mkT(P:Program)(t:TypeId):Option (Nat×Nat×List Value):=
 match elemOfT P t with
 | some e=>match sizeT P e,bytesT P e,zeroC P e with
  | some s,some b,some z=>bif Nat.beq z.size s&&Nat.blt 0 b then some (s,b,z.toList) else none
  | _,_,_=>none
 | none=>none
theorem zHz{α:Type}[Rp α]{t:TypeId}{x y:Operand}{k:Int}{a:α}{l:List α}(by':Nat)(z:List Value)(ho:aa[pc]?=some ⟨some d,.makeSlice t x y,ty,pos,after,g⟩)(hk:mkrow by' k a=some l)(hr:Rp.rep imm z a)
 (next:∀b cs,RL imm cs l->R P n B aa Q (pc+1) imm (.osl (.slice (some ⟨b,0,none⟩) l.length l.length) (Rp.sz α) cs::hs) ((d,.slice (some ⟨b,0,none⟩) l.length l.length)::m))
 (hg:guardB aa m g=some true:=by kernel_rfl) (hn:Nat.blt d n=true:=by kernel_rfl) (hx:val m x=some (.int .i64 k):=by kernel_rfl) (hy:val m y=some (.int .i64 k):=by kernel_rfl) (ht:mkT P t=some (Rp.sz α,by',z):=by kernel_rfl) :
 R P n B aa Q pc imm hs m:=by
 refine qA ho hg rfl hn λac w f gd=>?_
 unfold mkrow at hk
 split at hk
 ·rename_i hk0
  cases hk
  obtain⟨hk0,hkb⟩:=hk0
  unfold mkT at ht
  cases he:elemOfT P t with
  | none=>rw[he] at ht;cases ht
  | some e=>
   rw[he] at ht
   simp only at ht
   split at ht
   ·rename_i s b zc h1 h2 h3
    cases hq:Nat.beq zc.size s&&Nat.blt 0 b with
    | false=>rw[hq] at ht;cases ht
    | true=>
     rw[hq] at ht
     simp only[cond_true,Option.some.injEq,Prod.mk.injEq] at ht
     obtain⟨rfl,rfl,rfl⟩:=ht
     rw[bW] at hq
     have hzs:=cv hq.1
     have hb0:0<b:=by simpa using hq.2
     have hu:P.underlying t=some (.slice e):=by
      unfold elemOfT at he
      split at he <;> simp_all
     cases hie:P.info? e with
     | none=>simp[sizeT,hie] at h1
     | some ie=>
     have hsz':ie.size=Rp.sz α:=by simpa [sizeT,hie] using h1
     have hby':ie.bytes=b:=by simpa [bytesT,hie] using h2
     obtain⟨zv,hz1,hz2⟩:=oH (w:=w) h3
     have hpos:0<zc.size:=by rw[hzs];exact Rp.pos
     have hkk:(k.toNat:Int)=k:=Int.toNat_of_nonneg hk0
     have aU:k.toNat<=k.toNat*b:=Nat.le_mul_of_pos_right _ hb0
     have hwr:IntKind.i64.wrap k=k:=by rw[IntKind.wrap_i64];omega
     have hmul:((ie.bytes:Int)*k)<=140737488355328:=by
      rw[<- hkk,hby',<- Int.natCast_mul,Nat.mul_comm]
      exact Int.ofNat_le.2 hkb
     have hnt:¬(k<0):=by omega
     have hnb:¬((ie.bytes:Int)*k>2 ^ 48):=by omega
     let row:Array Value:=if k.toNat*Rp.sz α=0 then #[] else(Array.range (k.toNat*Rp.sz α)).map (λi=>zc[i % zc.size]!)
     have hrow:(((Array.range (k.toNat*ie.size)).map λi=>(if k.toNat*ie.size=0 then #[] else zc)[i % (if k.toNat*ie.size=0 then(#[]:Array Value) else zc).size]!))=⟨zrow zc (k.toNat*zc.size)⟩:=by
      rw[hsz',<- hzs]
      apply Array.ext'
      by_cases h0:k.toNat*zc.size=0
      ·simp[h0,zrow]
      ·simp[h0,zrow]
     have aE:(zrow zc (k.toNat*zc.size)).length=k.toNat*Rp.sz α:=by simp[zrow,hzs]
     have hg:=gd.alloc_osl ⟨zrow zc (k.toNat*zc.size)⟩ e (Rp.sz α) k.toNat k.toNat (zrow zc (k.toNat*zc.size)) (by show _<=(zrow _ _).length;rw[aE];exact cu _) (cu _) (by rw[<- aE];exact cV) aE (by omega)
     have hll:(List.replicate k.toNat a).length=k.toNat:=List.length_replicate
     rw[hll] at next
     refine⟨_,_,imm,_,?_,hg,next w.heap.size _ ?_⟩
     ·simp only[execOp,f.eval hx,f.eval hy,Instr.makeSlice,Sem.run_bind,yN hu,Result.andThen_ok,asInt,asIntOf,Sem.run_pure,typeInfo,run_program,hie,hwr,hnt,hnb,decide_false,eh,bV,false_or,or_self,if_false,Int.lt_irrefl,
       gt_iff_lt,run_askRoom,sH h1]
      by_cases h0:k.toNat*Rp.sz α=0
      ·have:=hrow
       rw[hsz'] at this
       simp only[h0,if_true] at this ⊢
       simp only[Sem.run_pure,Result.andThen_ok,newRow,run_newObj,Sem.run_bind,this]
      ·have:=hrow
       rw[hsz'] at this
       simp only[h0,if_false] at this ⊢
       simp only[Sem.run_bind,hz1,hz2,Sem.run_pure,Result.andThen_ok,newRow,run_newObj,this]
     ·have:=zDS (z:=zc) (a:=a) hpos hr k.toNat
      rw[hzs] at this
      show RepL _ _ _ _
      rw[hzs]
      exact this
   ·cases ht
 ·cases hk
theorem zAy{f:FuncId}{first cap:List Value}{x:Operand}{xs:Array Operand}{ts:Array TypeId}{vs:List Value}{hs1 rest:List HA}{post:Nat->Imm->List HA->Value->Prop}
 (ho:aa[pc]?=some ⟨some d,.call { callee:=.value x,args:=xs,argTypes:=ts },ty,pos,after,g⟩) (hx:val m x=some (.func (.func f) ⟨first⟩ ⟨cap⟩)) (hf:callable P f=true)
 (hvs:vals m xs.toList=some vs) (hh:hs=hs1++rest) (hc:Ret P f (first++vs++cap) imm hs1 post)
 (next:∀ah ag v k,imm.le ah->B.w0.heap.size<=k->post k ah ag v->(∀b∈ag.flatMap HA.fp,b∈hs1.flatMap HA.fp∨B.w0.heap.size<=b)->R P n B aa Q (pc+1) ah (ag++rest) ((d,v)::m)) (hg:guardB aa m g=some true:=by kernel_rfl) (hn:Nat.blt d n=true:=by kernel_rfl):R P n B aa Q pc imm hs m:=
 zC4 ho hg λa w fr gd=>by
  subst hh
  have hargs:xs.map a.eval=vs.toArray:=by apply Array.ext';rw[dh,fr.evals hvs]
  have hall:(⟨first⟩:Array Value)++vs.toArray++⟨cap⟩=(first++vs++cap).toArray:=by apply Array.ext';simp
  have bw:=gd.nodup
  rw[df] at bw
  have hg1:=gd.enter (hs1:=hs1) (λA hA=>cX _ hA) (cz.1 bw).1
  unfold Oper.wp
  simp only[execOp,resolve,Deferred.ofValue,fr.eval hx,hargs,Sem.run_bind,Sem.run_pure,Result.andThen_ok,invoke,hall,eM hf,Oper.upon]
  refine(hc w hg1).mono λe w' he=>?_
  cases e with
  | returned v=>
   obtain⟨ah,ag,hp,hgood⟩:=he
   obtain⟨g2,aU,hfp⟩:=gd.leave hgood
   exact next ah ag v w.heap.size aU gd.frm.size hp hfp _ w' (fr.put d v (by simpa using hn)) g2
  | panicked c=>exact he.elim
  | outgrown=>exact he.elim
end
class Vr (α:Type) where
 rep:Imm->Value->α->Prop
 mono:∀{i j:Imm}{v:Value}{a:α},i.le j->rep i v a->rep j v a
instance:Vr Int:=⟨λ_ v a=>v=.int .i64 a,λ_ h=>h⟩
instance:Vr Bool:=⟨λ_ v a=>v=.bool a,λ_ h=>h⟩
instance:Vr Str:=⟨λ_ v a=>v=.string ⟨⟨a.l⟩⟩,λ_ h=>h⟩
instance {α:Type} [Rp α]:Vr (List α):=⟨λi v a=>SL i v a,λhl h=>h.mono hl⟩
def FV1{α β:Type}[Vr α][Vr β](P:Program)(imm:Imm)(aD:List HA)(v:Value)(φ:α->Option β):Prop:=
 ∃f first cap,v=.func (.func f) ⟨first⟩ ⟨cap⟩/\callable P f=true/\∀ah,imm.le ah->∀a r va,φ a=some r->Vr.rep ah va a->Ret P f (first++[va]++cap) ah aD λ_ i ag u=>ag=aD/\Vr.rep i u r
theorem FV1.mono{α β:Type}[Vr α][Vr β]{P:Program}{i j:Imm}{aD:List HA}{v:Value}{φ:α->Option β}(hl:i.le j)(h:FV1 P i aD v φ):FV1 P j aD v φ:=by
 obtain⟨f,first,cap,h1,h2,h3⟩:=h;exact⟨f,first,cap,h1,h2,λah h'=>h3 ah (hl.trans h')⟩
theorem FV1.intro{α β:Type}[Vr α][Vr β]{P:Program}{imm:Imm}{aD:List HA}{f:FuncId}{first cap:List Value}{φ:α->Option β}(h:∀ah,imm.le ah->∀a r va,φ a=some r->Vr.rep ah va a->Ret P f (first++[va]++cap) ah aD λ_ i ag u=>ag=aD/\Vr.rep i u r)
 (hc:callable P f=true:=by kernel_rfl):FV1 P imm aD (.func (.func f) ⟨first⟩ ⟨cap⟩) φ:=⟨f,first,cap,rfl,hc,h⟩
def FV2{α β γ:Type}[Vr α][Vr β][Vr γ](P:Program)(imm:Imm)(aD:List HA)(v:Value)(φ:α->β->Option γ):Prop:=
 ∃f first cap,v=.func (.func f) ⟨first⟩ ⟨cap⟩/\callable P f=true/\∀ah,imm.le ah->∀a b r va vb,φ a b=some r->Vr.rep ah va a->Vr.rep ah vb b->Ret P f (first++[va,vb]++cap) ah aD λ_ i ag u=>ag=aD/\Vr.rep i u r
theorem FV2.mono{α β γ:Type}[Vr α][Vr β][Vr γ]{P:Program}{i j:Imm}{aD:List HA}{v:Value}{φ:α->β->Option γ}(hl:i.le j)(h:FV2 P i aD v φ):FV2 P j aD v φ:=by
 obtain⟨f,first,cap,h1,h2,h3⟩:=h;exact⟨f,first,cap,h1,h2,λah h'=>h3 ah (hl.trans h')⟩
theorem FV2.intro{α β γ:Type}[Vr α][Vr β][Vr γ]{P:Program}{imm:Imm}{aD:List HA}{f:FuncId}{first cap:List Value}{φ:α->β->Option γ}(h:∀ah,imm.le ah->∀a b r va vb,φ a b=some r->Vr.rep ah va a->Vr.rep ah vb b->Ret P f (first++[va,vb]++cap) ah aD λ_ i ag u=>ag=aD/\Vr.rep i u r)
 (hc:callable P f=true:=by kernel_rfl):FV2 P imm aD (.func (.func f) ⟨first⟩ ⟨cap⟩) φ:=⟨f,first,cap,rfl,hc,h⟩
section
variable {P:Program}{n:Nat}{B:Base}{Q:Exit->Act->World->Prop}{imm:Imm}{hs:List HA}{m:FM}{aa:List Oper}{pc d:Nat}{ty:TypeId}{pos:String}{after:Array Edge}{g:Option (Nat×Bool)}
theorem zHF{α β:Type}[Vr α][Vr β]{x y:Operand}{ts:Array TypeId}{v va:Value}{a:α}{r:β}{φ:α->Option β}{aD rest:List HA}
 (ho:aa[pc]?=some ⟨some d,.call { callee:=.value x,args:=#[y],argTypes:=ts },ty,pos,after,g⟩) (hy:val m y=some va) (hF:FV1 P imm aD v φ) (hr:φ a=some r) (ha:Vr.rep imm va a) (hh:hs=aD++rest)
 (next:∀ah u,imm.le ah->Vr.rep ah u r->R P n B aa Q (pc+1) ah (aD++rest) ((d,u)::m)) (hx:val m x=some v:=by kernel_rfl) (hg:guardB aa m g=some true:=by kernel_rfl) (hn:Nat.blt d n=true:=by kernel_rfl):R P n B aa Q pc imm hs m:=by
 obtain⟨f,first,cap,rfl,hf,hc⟩:=hF
 refine zAy ho hx hf (vs:=[va]) (by simp[vals,hy]) hh (hc imm (Imm.le.refl _) a r va hr ha) ?_ hg hn
 rintro ah ag u k hl hk ⟨rfl,h⟩ -
 exact next ah u hl h
theorem zHp{α β γ:Type}[Vr α][Vr β][Vr γ]{x y z:Operand}{ts:Array TypeId}{v va vb:Value}{a:α}{b:β}{r:γ}{φ:α->β->Option γ}{aD rest:List HA}
 (ho:aa[pc]?=some ⟨some d,.call { callee:=.value x,args:=#[y,z],argTypes:=ts },ty,pos,after,g⟩) (hy:val m y=some va) (hz:val m z=some vb) (hF:FV2 P imm aD v φ) (hr:φ a b=some r) (ha:Vr.rep imm va a) (hb:Vr.rep imm vb b) (hh:hs=aD++rest)
 (next:∀ah u,imm.le ah->Vr.rep ah u r->R P n B aa Q (pc+1) ah (aD++rest) ((d,u)::m)) (hx:val m x=some v:=by kernel_rfl) (hg:guardB aa m g=some true:=by kernel_rfl) (hn:Nat.blt d n=true:=by kernel_rfl):R P n B aa Q pc imm hs m:=by
 obtain⟨f,first,cap,rfl,hf,hc⟩:=hF
 refine zAy ho hx hf (vs:=[va,vb]) (by simp[vals,hy,hz]) hh (hc imm (Imm.le.refl _) a b r va vb hr ha hb) ?_ hg hn
 rintro ah ag u k hl hk ⟨rfl,h⟩ -
 exact next ah u hl h
end
end Go.LN
namespace Go.LN
theorem Good.grow{B:Base}{imm:Imm}{hs:List HA}{w:World}(h:Good B imm hs w)(k:Nat)(os:Array Obj):Good B imm hs (Sort.grow (w.drewN k) os):=by
 have h:=h.drewN k;generalize w.drewN k=w at h;have old:∀b,b<w.heap.size->(Sort.grow w os).heap[b]?=w.heap[b]?:=λb hb=>by
  show (w.heap++os)[b]?=_;rw[Array.getElem?_append_left hb]
 refine⟨λb c e=>?_,λA hA=>(h.own A hA).same (λ_ _ p=>p) (λ_ _=>rfl) (λb hb=>old b ((h.own A hA).lt hb).1),h.nodup,⟨h.frm.os,h.frm.tape,h.frm.output,?_,λb hb hio=>?_,h.frm.imm⟩⟩
 ·obtain⟨ty,fr,e'⟩:=h.inv b c e;exact⟨ty,fr,(old b (h.lt_imm e)).trans e'⟩
 ·show _<=(w.heap++os).size;rw[Array.size_append];exact cT h.frm.size (Nat.le_add_right _ _)
 ·exact(old b (eb hb h.frm.size)).trans (h.frm.heap b hb hio)
def GT (P:Program) (imm:Imm):Prop:=∃ g,P.globalNamed "internal/strconv.uint64pow10"=some g∧imm g=some (Lib.pow10Tab.map fun z=>Value.int .u64 z).toArray
def GM (P:Program) (imm:Imm):Prop:=∃ g,P.globalNamed "internal/bytealg.MaxLen"=some g∧∃ m,imm g=some #[.int .i64 m]
def GE(P:Program)(imm:Imm)(nm:String):Prop:=∃g,P.globalNamed nm=some g/\∃t p,imm g=some #[.iface t p]
def GH (P:Program) (imm:Imm):Prop:=GT P imm∧GM P imm∧GE P imm "strconv.ErrSyntax"∧GE P imm "strconv.ErrRange"
theorem GH.mono{P:Program}{i j:Imm}(hl:i.le j)(h:GH P i):GH P j:=by
 obtain⟨⟨g,h1,h2⟩,⟨g3,h3,m,h4⟩,⟨g5,h5,t,p,h6⟩,⟨g7,h7,u,q,h8⟩⟩:=h;exact⟨⟨g,h1,hl _ _ h2⟩,⟨g3,h3,m,hl _ _ h4⟩,⟨g5,h5,t,p,hl _ _ h6⟩,⟨g7,h7,u,q,hl _ _ h8⟩⟩
theorem GH.ml{P:Program}{imm:Imm}(h:GH P imm):GM P imm:=h.2.1
theorem GH.es {P:Program}{imm:Imm} (h:GH P imm):GE P imm "strconv.ErrSyntax":=h.2.2.1
theorem GH.er {P:Program}{imm:Imm} (h:GH P imm):GE P imm "strconv.ErrRange":=h.2.2.2
theorem GH.tab {P:Program}{B:Base}{imm:Imm}{hs:List HA}{w:World} (h:GH P imm) (g:Good B imm hs w):Lib.TabIs P w "internal/strconv.uint64pow10" .u64 Lib.pow10Tab:=by
 obtain⟨n,h1,h2⟩:=h.1;obtain⟨ty,fr,h3⟩:=g.inv _ _ h2;unfold Lib.TabIs World.var?;rw[h1,Option.bind_some,h3]
theorem zG8{P:Program}{f:FuncId}{args:List Value}{imm:Imm}{v:Value}{post:Nat->Imm->List HA->Value->Prop}
 (h:∀w,Good ⟨w,imm,[]⟩ imm [] w->Calls P f args.toArray w λe w'=>e=.returned v/\∃k os,w'=Sort.grow (w.drewN k) os) (hp:∀k,post k imm [] v):Ret P f args imm [] post:=λw g=>
 (h w g).mono λe w' ⟨he,k,os,hw⟩=>by
  subst he;subst hw
  exact⟨imm,[],hp _,g.grow k os⟩
end Go.LN
namespace Go.LN
theorem eQ{k : IntKind}{n : Int}: (Value.int k n).oneCell' = true:=rfl
theorem zFl{b : Bool}: (Value.bool b).oneCell' = true:=rfl
theorem eR{s : ByteArray}: (Value.string s).oneCell' = true:=rfl
theorem SL.one{α : Type}[Rp α]{i : Imm}{v : Value}{l : List α}(h : SL i v l): v.oneCell' = true:=by
 obtain⟨aA,hs,_⟩:=h
 rcases hs with⟨rfl,_⟩|⟨b,off,len,cap,c,rfl,_⟩ <;> rfl
structure yQ where
 Name : Str
 Dims : List Int
instance : Rp yQ where
 sz:=2
 pos:=by decide
 rep i cs s := ∃v0 : Value,cs = [.string ⟨⟨s.Name.l⟩⟩,v0] /\ SL i v0 s.Dims
 len h:=by obtain⟨v0,rfl,h0⟩:=h;rfl
 mono hm h:=by obtain⟨v0,e,h0⟩:=h;exact⟨v0,e,h0.mono hm⟩
 one h:=by obtain⟨v0,rfl,h0⟩:=h;simp[eR,h0.one]
theorem zAg{i : Imm}{cs : List Value}{s : yQ}(h : ∃v0 : Value,cs = [.string ⟨⟨s.Name.l⟩⟩,v0] /\ SL i v0 s.Dims): Rp.rep i cs s:=h
instance : Vr yQ:=⟨λi v a => ∃cs,v = .agg ⟨cs⟩ /\ Rp.rep i cs a,λhl ⟨cs,e,h⟩=>⟨cs,e,Rp.mono hl h⟩⟩
structure zA where
 Coefs : List Int
 Const : Int
instance : Rp zA where
 sz:=2
 pos:=by decide
 rep i cs s := ∃v0 : Value,cs = [v0,.int .i64 s.Const] /\ SL i v0 s.Coefs
 len h:=by obtain⟨v0,rfl,h0⟩:=h;rfl
 mono hm h:=by obtain⟨v0,e,h0⟩:=h;exact⟨v0,e,h0.mono hm⟩
 one h:=by obtain⟨v0,rfl,h0⟩:=h;simp[eQ,h0.one]
theorem zAB{i : Imm}{cs : List Value}{s : zA}(h : Rp.rep i cs s): ∃v0 : Value,cs = [v0,.int .i64 s.Const] /\ SL i v0 s.Coefs:=h
theorem zZ{i : Imm}{cs : List Value}{s : zA}(h : ∃v0 : Value,cs = [v0,.int .i64 s.Const] /\ SL i v0 s.Coefs): Rp.rep i cs s:=h
theorem yP{i : Imm}{cs : List Value}{s : zA}(h : Rp.rep i cs s): ∃(p0 : Option Addr) (c0 : Nat),cs = [vS p0 s.Coefs c0,.int .i64 s.Const] /\ SL i (vS p0 s.Coefs c0) s.Coefs:=by
 obtain⟨v0,e,h0⟩:=zAB h
 obtain⟨p0,c0,rfl⟩:=h0.form
 exact⟨p0,c0,e,h0⟩
instance : Vr zA:=⟨λi v a => ∃cs,v = .agg ⟨cs⟩ /\ Rp.rep i cs a,λhl ⟨cs,e,h⟩=>⟨cs,e,Rp.mono hl h⟩⟩
structure yD where
 Lo : List zA
 Hi : List zA
instance : Rp yD where
 sz:=2
 pos:=by decide
 rep i cs s := ∃v0 v1 : Value,cs = [v0,v1] /\ SL i v0 s.Lo /\ SL i v1 s.Hi
 len h:=by obtain⟨v0,v1,rfl,h0,h1⟩:=h;rfl
 mono hm h:=by obtain⟨v0,v1,e,h0,h1⟩:=h;exact⟨v0,v1,e,h0.mono hm,h1.mono hm⟩
 one h:=by obtain⟨v0,v1,rfl,h0,h1⟩:=h;simp[h0.one,h1.one]
theorem zBP{i : Imm}{cs : List Value}{s : yD}(h : ∃v0 v1 : Value,cs = [v0,v1] /\ SL i v0 s.Lo /\ SL i v1 s.Hi): Rp.rep i cs s:=h
instance : Vr yD:=⟨λi v a => ∃cs,v = .agg ⟨cs⟩ /\ Rp.rep i cs a,λhl ⟨cs,e,h⟩=>⟨cs,e,Rp.mono hl h⟩⟩
structure zE where
 Array : Str
 Subs : List zA
instance : Rp zE where
 sz:=2
 pos:=by decide
 rep i cs s := ∃v0 : Value,cs = [.string ⟨⟨s.Array.l⟩⟩,v0] /\ SL i v0 s.Subs
 len h:=by obtain⟨v0,rfl,h0⟩:=h;rfl
 mono hm h:=by obtain⟨v0,e,h0⟩:=h;exact⟨v0,e,h0.mono hm⟩
 one h:=by obtain⟨v0,rfl,h0⟩:=h;simp[eR,h0.one]
theorem zAC{i : Imm}{cs : List Value}{s : zE}(h : Rp.rep i cs s): ∃v0 : Value,cs = [.string ⟨⟨s.Array.l⟩⟩,v0] /\ SL i v0 s.Subs:=h
theorem qV{i : Imm}{cs : List Value}{s : zE}(h : ∃v0 : Value,cs = [.string ⟨⟨s.Array.l⟩⟩,v0] /\ SL i v0 s.Subs): Rp.rep i cs s:=h
theorem rS{i : Imm}{cs : List Value}{s : zE}(h : Rp.rep i cs s): ∃(p0 : Option Addr) (c0 : Nat),cs = [.string ⟨⟨s.Array.l⟩⟩,vS p0 s.Subs c0] /\ SL i (vS p0 s.Subs c0) s.Subs:=by
 obtain⟨v0,e,h0⟩:=zAC h
 obtain⟨p0,c0,rfl⟩:=h0.form
 exact⟨p0,c0,e,h0⟩
instance : Vr zE:=⟨λi v a => ∃cs,v = .agg ⟨cs⟩ /\ Rp.rep i cs a,λhl ⟨cs,e,h⟩=>⟨cs,e,Rp.mono hl h⟩⟩
inductive zB where
 | mk (Kind : Int) (Num : Int) (Index : zA) (Read : zE) (Kids : List zB)
def zB.Kind : zB -> Int|.mk x _ _ _ _=>x
def zB.Num : zB -> Int|.mk _ x _ _ _=>x
def zB.Index : zB -> zA|.mk _ _ x _ _=>x
def zB.Read : zB -> zE|.mk _ _ _ x _=>x
def zB.Kids : zB -> (List zB)|.mk _ _ _ _ x=>x
mutual
def zB.repE(i : Imm): zB -> List Value -> Prop
 | .mk Kind Num Index Read Kids,cs => ∃(v0 v1 v2 : Value) (aA : List Value),cs = [.int .i64 Kind,.int .i64 Num,v0,.int .i64 Index.Const,.string ⟨⟨Read.Array.l⟩⟩,v1,v2] /\ SL i v0 Index.Coefs /\ SL i v1 Read.Subs /\ SliceAt i v2 7 aA /\ zB.reps i Kids aA
def zB.reps(i : Imm): List zB -> List Value -> Prop
 | [],cs=>cs = []
 | e :: es,cs => ∃c1 c2,cs = c1++c2 /\ c1.length = 7 /\ zB.repE i e c1 /\ zB.reps i es c2
end
mutual
theorem fU{i : Imm}: ∀{e : zB} {cs : List Value},zB.repE i e cs -> cs.length = 7
 | .mk ..,cs,h=>by simp only[zB.repE] at h;obtain⟨v0,v1,v2,aA,rfl,_⟩:=h;rfl
end
mutual
theorem nC{i j : Imm}(hm : i.le j): ∀{e : zB} {cs : List Value},zB.repE i e cs -> zB.repE j e cs
 | .mk ..,cs,h=>by
  simp only[zB.repE] at h ⊢
  obtain⟨v0,v1,v2,aA,e,k0,k1,ha,hb⟩:=h
  exact⟨v0,v1,v2,aA,e,k0.mono hm,k1.mono hm,ha.mono hm,nD hm hb⟩
theorem nD{i j : Imm}(hm : i.le j): ∀{es : List zB} {cs : List Value},zB.reps i es cs -> zB.reps j es cs
 | [],cs,h=>by simpa [zB.reps] using h
 | e :: es,cs,h=>by
  simp only[zB.reps] at h ⊢
  obtain⟨c1,c2,h1,h2,h3,h4⟩:=h
  exact⟨c1,c2,h1,h2,nC hm h3,nD hm h4⟩
end
theorem qB{i : Imm}: ∀{es : List zB} {cs : List Value},zB.reps i es cs↔RepL (λc e=>zB.repE i e c) 7 cs es
 | [],cs=>by simp[zB.reps,RepL]
 | e :: es,cs=>by
  simp only[zB.reps,RepL]
  constructor
  ·rintro⟨c1,c2,h1,h2,h3,h4⟩;exact⟨c1,c2,h1,h2,h3,qB.1 h4⟩
  ·rintro⟨c1,c2,h1,h2,h3,h4⟩;exact⟨c1,c2,h1,h2,h3,qB.2 h4⟩
theorem SliceAt.one{i : Imm}{v : Value}{sz : Nat}{cs : List Value}(hs : SliceAt i v sz cs): v.oneCell' = true:=by
 rcases hs with⟨rfl,_⟩|⟨b,off,len,cap,c,rfl,_⟩ <;> rfl
theorem fV{i : Imm}: ∀{e : zB} {cs : List Value},zB.repE i e cs -> ∀v∈cs,v.oneCell' = true
 | .mk ..,cs,h=>by
  simp only[zB.repE] at h
  obtain⟨v0,v1,v2,aA,rfl,k0,k1,ha,_⟩:=h
  simp[eQ,eR,k0.one,k1.one,ha.one]
instance : Rp zB where
 sz:=7
 pos:=by decide
 rep i cs e:=zB.repE i e cs
 len h:=fU h
 mono hm h:=nC hm h
 one h:=fV h
theorem zBQ{i : Imm}{cs : List Value}{s : zB}(h : Rp.rep i cs s): ∃v0 v1 v2 : Value,cs = [.int .i64 s.Kind,.int .i64 s.Num,v0,.int .i64 s.Index.Const,.string ⟨⟨s.Read.Array.l⟩⟩,v1,v2] /\ SL i v0 s.Index.Coefs /\ SL i v1 s.Read.Subs /\ SL i v2 s.Kids:=by
 obtain⟨Kind,Num,Index,Read,Kids⟩:=s
 have h : zB.repE i _ cs:=h
 simp only[zB.repE] at h
 obtain⟨v0,v1,v2,aA,e,k0,k1,ha,hb⟩:=h
 exact⟨v0,v1,v2,e,k0,k1,⟨aA,ha,qB.1 hb⟩⟩
theorem yG{i : Imm}{cs : List Value}{s : zB}(h : ∃v0 v1 v2 : Value,cs = [.int .i64 s.Kind,.int .i64 s.Num,v0,.int .i64 s.Index.Const,.string ⟨⟨s.Read.Array.l⟩⟩,v1,v2] /\ SL i v0 s.Index.Coefs /\ SL i v1 s.Read.Subs /\ SL i v2 s.Kids): Rp.rep i cs s:=by
 obtain⟨Kind,Num,Index,Read,Kids⟩:=s
 show zB.repE i _ cs
 simp only[zB.repE]
 obtain⟨v0,v1,v2,e,k0,k1,⟨aA,ha,hb⟩⟩:=h
 exact⟨v0,v1,v2,aA,e,k0,k1,ha,qB.2 hb⟩
theorem xK{i : Imm}{cs : List Value}{s : zB}(h : Rp.rep i cs s): ∃(p0 : Option Addr) (c0 : Nat) (p1 : Option Addr) (c1 : Nat) (p2 : Option Addr) (c2 : Nat),cs = [.int .i64 s.Kind,.int .i64 s.Num,vS p0 s.Index.Coefs c0,.int .i64 s.Index.Const,.string ⟨⟨s.Read.Array.l⟩⟩,vS p1 s.Read.Subs c1,vS p2 s.Kids c2] /\ SL i (vS p0 s.Index.Coefs c0) s.Index.Coefs /\ SL i (vS p1 s.Read.Subs c1) s.Read.Subs /\ SL i (vS p2 s.Kids c2) s.Kids:=by
 obtain⟨v0,v1,v2,e,h0,h1,h2⟩:=zBQ h
 obtain⟨p0,c0,rfl⟩:=h0.form
 obtain⟨p1,c1,rfl⟩:=h1.form
 obtain⟨p2,c2,rfl⟩:=h2.form
 exact⟨p0,c0,p1,c1,p2,c2,e,h0,h1,h2⟩
instance : Vr zB:=⟨λi v a => ∃cs,v = .agg ⟨cs⟩ /\ Rp.rep i cs a,λhl ⟨cs,e,h⟩=>⟨cs,e,Rp.mono hl h⟩⟩
structure zL where
 Write : zE
 Value : zB
instance : Rp zL where
 sz:=9
 pos:=by decide
 rep i cs s := ∃v0 v1 v2 v3 : Value,cs = [.string ⟨⟨s.Write.Array.l⟩⟩,v0,.int .i64 s.Value.Kind,.int .i64 s.Value.Num,v1,.int .i64 s.Value.Index.Const,.string ⟨⟨s.Value.Read.Array.l⟩⟩,v2,v3] /\ SL i v0 s.Write.Subs /\ SL i v1 s.Value.Index.Coefs /\ SL i v2 s.Value.Read.Subs /\ SL i v3 s.Value.Kids
 len h:=by obtain⟨v0,v1,v2,v3,rfl,h0,h1,h2,h3⟩:=h;rfl
 mono hm h:=by obtain⟨v0,v1,v2,v3,e,h0,h1,h2,h3⟩:=h;exact⟨v0,v1,v2,v3,e,h0.mono hm,h1.mono hm,h2.mono hm,h3.mono hm⟩
 one h:=by obtain⟨v0,v1,v2,v3,rfl,h0,h1,h2,h3⟩:=h;simp[eR,eQ,h0.one,h1.one,h2.one,h3.one]
theorem zBR{i : Imm}{cs : List Value}{s : zL}(h : Rp.rep i cs s): ∃v0 v1 v2 v3 : Value,cs = [.string ⟨⟨s.Write.Array.l⟩⟩,v0,.int .i64 s.Value.Kind,.int .i64 s.Value.Num,v1,.int .i64 s.Value.Index.Const,.string ⟨⟨s.Value.Read.Array.l⟩⟩,v2,v3] /\ SL i v0 s.Write.Subs /\ SL i v1 s.Value.Index.Coefs /\ SL i v2 s.Value.Read.Subs /\ SL i v3 s.Value.Kids:=h
theorem wZ{i : Imm}{cs : List Value}{s : zL}(h : ∃v0 v1 v2 v3 : Value,cs = [.string ⟨⟨s.Write.Array.l⟩⟩,v0,.int .i64 s.Value.Kind,.int .i64 s.Value.Num,v1,.int .i64 s.Value.Index.Const,.string ⟨⟨s.Value.Read.Array.l⟩⟩,v2,v3] /\ SL i v0 s.Write.Subs /\ SL i v1 s.Value.Index.Coefs /\ SL i v2 s.Value.Read.Subs /\ SL i v3 s.Value.Kids): Rp.rep i cs s:=h
theorem rD{i : Imm}{cs : List Value}{s : zL}(h : Rp.rep i cs s): ∃(p0 : Option Addr) (c0 : Nat) (p1 : Option Addr) (c1 : Nat) (p2 : Option Addr) (c2 : Nat) (p3 : Option Addr) (c3 : Nat),cs = [.string ⟨⟨s.Write.Array.l⟩⟩,vS p0 s.Write.Subs c0,.int .i64 s.Value.Kind,.int .i64 s.Value.Num,vS p1 s.Value.Index.Coefs c1,.int .i64 s.Value.Index.Const,.string ⟨⟨s.Value.Read.Array.l⟩⟩,vS p2 s.Value.Read.Subs c2,vS p3 s.Value.Kids c3] /\ SL i (vS p0 s.Write.Subs c0) s.Write.Subs /\ SL i (vS p1 s.Value.Index.Coefs c1) s.Value.Index.Coefs /\ SL i (vS p2 s.Value.Read.Subs c2) s.Value.Read.Subs /\ SL i (vS p3 s.Value.Kids c3) s.Value.Kids:=by
 obtain⟨v0,v1,v2,v3,e,h0,h1,h2,h3⟩:=zBR h
 obtain⟨p0,c0,rfl⟩:=h0.form
 obtain⟨p1,c1,rfl⟩:=h1.form
 obtain⟨p2,c2,rfl⟩:=h2.form
 obtain⟨p3,c3,rfl⟩:=h3.form
 exact⟨p0,c0,p1,c1,p2,c2,p3,c3,e,h0,h1,h2,h3⟩
instance : Vr zL:=⟨λi v a => ∃cs,v = .agg ⟨cs⟩ /\ Rp.rep i cs a,λhl ⟨cs,e,h⟩=>⟨cs,e,Rp.mono hl h⟩⟩
structure xF where
 Nest : List yD
 Body : List zL
instance : Rp xF where
 sz:=2
 pos:=by decide
 rep i cs s := ∃v0 v1 : Value,cs = [v0,v1] /\ SL i v0 s.Nest /\ SL i v1 s.Body
 len h:=by obtain⟨v0,v1,rfl,h0,h1⟩:=h;rfl
 mono hm h:=by obtain⟨v0,v1,e,h0,h1⟩:=h;exact⟨v0,v1,e,h0.mono hm,h1.mono hm⟩
 one h:=by obtain⟨v0,v1,rfl,h0,h1⟩:=h;simp[h0.one,h1.one]
theorem nQ{i : Imm}{cs : List Value}{s : xF}(h : ∃v0 v1 : Value,cs = [v0,v1] /\ SL i v0 s.Nest /\ SL i v1 s.Body): Rp.rep i cs s:=h
instance : Vr xF:=⟨λi v a => ∃cs,v = .agg ⟨cs⟩ /\ Rp.rep i cs a,λhl ⟨cs,e,h⟩=>⟨cs,e,Rp.mono hl h⟩⟩
structure sK where
 Arrays : List yQ
 Parts : List xF
instance : Rp sK where
 sz:=2
 pos:=by decide
 rep i cs s := ∃v0 v1 : Value,cs = [v0,v1] /\ SL i v0 s.Arrays /\ SL i v1 s.Parts
 len h:=by obtain⟨v0,v1,rfl,h0,h1⟩:=h;rfl
 mono hm h:=by obtain⟨v0,v1,e,h0,h1⟩:=h;exact⟨v0,v1,e,h0.mono hm,h1.mono hm⟩
 one h:=by obtain⟨v0,v1,rfl,h0,h1⟩:=h;simp[h0.one,h1.one]
instance : Vr sK:=⟨λi v a => ∃cs,v = .agg ⟨cs⟩ /\ Rp.rep i cs a,λhl ⟨cs,e,h⟩=>⟨cs,e,Rp.mono hl h⟩⟩
structure zR where
 s : Str
 bad : Bool
instance : Rp zR where
 sz:=2
 pos:=by decide
 rep i cs s:=cs = [.string ⟨⟨s.s.l⟩⟩,.bool s.bad]
 len h:=by obtain rfl:=h;rfl
 mono _ h:=h
 one h:=by obtain rfl:=h;simp[eR,zFl]
theorem yY{i : Imm}{cs : List Value}{s : zR}(h : Rp.rep i cs s): cs = [.string ⟨⟨s.s.l⟩⟩,.bool s.bad]:=h
theorem xX{i : Imm}{cs : List Value}{s : zR}(h : cs = [.string ⟨⟨s.s.l⟩⟩,.bool s.bad]): Rp.rep i cs s:=h
instance : Vr zR:=⟨λi v a => ∃cs,v = .agg ⟨cs⟩ /\ Rp.rep i cs a,λhl ⟨cs,e,h⟩=>⟨cs,e,Rp.mono hl h⟩⟩
structure oJ where
 Part : Int
 Stmt : Int
 Point : List Int
instance : Rp oJ where
 sz:=3
 pos:=by decide
 rep i cs s := ∃v0 : Value,cs = [.int .i64 s.Part,.int .i64 s.Stmt,v0] /\ SL i v0 s.Point
 len h:=by obtain⟨v0,rfl,h0⟩:=h;rfl
 mono hm h:=by obtain⟨v0,e,h0⟩:=h;exact⟨v0,e,h0.mono hm⟩
 one h:=by obtain⟨v0,rfl,h0⟩:=h;simp[eQ,h0.one]
instance : Vr oJ:=⟨λi v a => ∃cs,v = .agg ⟨cs⟩ /\ Rp.rep i cs a,λhl ⟨cs,e,h⟩=>⟨cs,e,Rp.mono hl h⟩⟩
structure zK where
 b : List UInt8
 p : Int
instance : Rp zK where
 sz:=2
 pos:=by decide
 rep i cs s := ∃v0 : Value,cs = [v0,.int .i64 s.p] /\ SL i v0 s.b
 len h:=by obtain⟨v0,rfl,h0⟩:=h;rfl
 mono hm h:=by obtain⟨v0,e,h0⟩:=h;exact⟨v0,e,h0.mono hm⟩
 one h:=by obtain⟨v0,rfl,h0⟩:=h;simp[eQ,h0.one]
theorem zAh{i : Imm}{cs : List Value}{s : zK}(h : Rp.rep i cs s): ∃v0 : Value,cs = [v0,.int .i64 s.p] /\ SL i v0 s.b:=h
theorem xH{i : Imm}{cs : List Value}{s : zK}(h : ∃v0 : Value,cs = [v0,.int .i64 s.p] /\ SL i v0 s.b): Rp.rep i cs s:=h
theorem zW{i : Imm}{cs : List Value}{s : zK}(h : Rp.rep i cs s): ∃(p0 : Option Addr) (c0 : Nat),cs = [vS p0 s.b c0,.int .i64 s.p] /\ SL i (vS p0 s.b c0) s.b:=by
 obtain⟨v0,e,h0⟩:=zAh h
 obtain⟨p0,c0,rfl⟩:=h0.form
 exact⟨p0,c0,e,h0⟩
instance : Vr zK:=⟨λi v a => ∃cs,v = .agg ⟨cs⟩ /\ Rp.rep i cs a,λhl ⟨cs,e,h⟩=>⟨cs,e,Rp.mono hl h⟩⟩
end Go.LN
namespace Go.LN
theorem iM{α:Type}[Rp α]{i j:Imm}(h:i.le j){l:List α}{cs:List Value}(hr:RL i cs l):RL j cs l:=RepL.mono (λ_ _=>Rp.mono h) hr
def stB:List HA->Nat->List Value->(List HA->Option (List HA))->Option (List HA)
 | .blk b _::t,0,c',k=>k (.blk b ⟨c'⟩::t)
 | h::t,j+1,c',k=>stB t j c' λr=>k (h::r)
 | _,_,_,_=>none
theorem zE4:∀{hs:List HA}{j:Nat}{b:Nat}{c:Array Value}{c':List Value}{k:List HA->Option (List HA)},hs[j]?=some (.blk b c)->stB hs j c' k=k (hs.set j (.blk b ⟨c'⟩))
 | [],_,_,_,_,_,h=>by simp at h
 | A::t,0,b,c,c',k,h=>by
  simp only[dw,Option.some.injEq] at h
  subst h;rfl
 | A::t,j+1,b,c,c',k,h=>by
  simp only[dx] at h
  rw[stB,zE4 h,dt]
class Mo (X:Prop) (i j:Imm) (Y:outParam Prop):Prop where
 mo:i.le j->X->Y
instance {α:Type} [Rp α] {v:Value}{l:List α}{i j:Imm}:Mo (SL i v l) i j (SL j v l):=⟨λh x=>x.mono h⟩
instance {α:Type} [Rp α] {cs:List Value}{l:List α}{i j:Imm}:Mo (RL i cs l) i j (RL j cs l):=⟨λh x=>iM h x⟩
instance {ad:Addr}{cs:List Value}{i j:Imm}:Mo (At i ad cs) i j (At j ad cs):=⟨λh x=>At.mono h x⟩
instance {α:Type} [Rp α] {v:Value}{o:Option α}{i j:Imm}:Mo (FP i v o) i j (FP j v o):=⟨λh x=>FP.mono x h⟩
instance {α β:Type} [Vr α] [Vr β] {P:Program}{aD:List HA}{v:Value}{φ:α->Option β}{i j:Imm}:Mo (FV1 P i aD v φ) i j (FV1 P j aD v φ):=⟨λh x=>FV1.mono h x⟩
instance {α β γ:Type} [Vr α] [Vr β] [Vr γ] {P:Program}{aD:List HA}{v:Value}{φ:α->β->Option γ}{i j:Imm}:Mo (FV2 P i aD v φ) i j (FV2 P j aD v φ):=⟨λh x=>FV2.mono h x⟩
instance {P:Program}{i j:Imm}:Mo (GH P i) i j (GH P j):=⟨λh x=>GH.mono h x⟩
instance {i0 i j:Imm}:Mo (i0.le i) i j (i0.le j):=⟨λh x=>x.trans h⟩
theorem m2{i j:Imm}{A B A' B':Prop}(h:i.le j)(a:A)(b:B)[Mo A i j A'][Mo B i j B']:A'/\B':=⟨Mo.mo h a,Mo.mo h b⟩
theorem m3{i j:Imm}{A B C A' B' C':Prop}(h:i.le j)(a:A)(b:B)(c:C)[Mo A i j A'][Mo B i j B'][Mo C i j C']:A'/\B'/\C':=⟨Mo.mo h a,Mo.mo h b,Mo.mo h c⟩
theorem m4{i j:Imm}{A B C D A' B' C' D':Prop}(h:i.le j)(a:A)(b:B)(c:C)(d:D)[Mo A i j A'][Mo B i j B'][Mo C i j C'][Mo D i j D']:A'/\B'/\C'/\D':=⟨Mo.mo h a,Mo.mo h b,Mo.mo h c,Mo.mo h d⟩
theorem m5{i j:Imm}{A B C D E A' B' C' D' E':Prop}(h:i.le j)(a:A)(b:B)(c:C)(d:D)(e:E)[Mo A i j A'][Mo B i j B'][Mo C i j C'][Mo D i j D'][Mo E i j E']:A'/\B'/\C'/\D'/\E':=⟨Mo.mo h a,Mo.mo h b,Mo.mo h c,Mo.mo h d,Mo.mo h e⟩
theorem m6{i j:Imm}{A B C D E F A' B' C' D' E' F':Prop}(h:i.le j)(a:A)(b:B)(c:C)(d:D)(e:E)(f:F)[Mo A i j A'][Mo B i j B'][Mo C i j C'][Mo D i j D'][Mo E i j E'][Mo F i j F']:A'/\B'/\C'/\D'/\E'/\F':=⟨Mo.mo h a,Mo.mo h b,Mo.mo h c,Mo.mo h d,Mo.mo h e,Mo.mo h f⟩
abbrev K1{α:Type}(o:α)(I:Imm)(hs:List HA)(m:α->FM):Imm->List HA->FM->Prop:=λI' ag m'=>∃t:α,o=t/\I.le I'/\ag=hs/\m'=m t
section
variable {P:Program}{n:Nat}{B:Base}{aa:List Oper}{Q:Exit->Act->World->Prop}{pc:Nat}{imm:Imm}{hs:List HA}{m:FM}{d:Nat}
 {ty:TypeId}{pos:String}{after:Array Edge}{g:Option (Nat×Bool)}
theorem xS{f:FuncId}{x:Operand}{xs:Array Operand}{ts:Array TypeId}{vs:List Value}{post:Nat->Imm->List HA->Value->Prop}
 (hc:Ret P f vs imm [] post)
 (next:∀ah ag v k,imm.le ah->B.w0.heap.size<=k->post k ah ag v->(∀b∈ag.flatMap HA.fp,b∈([]:List HA).flatMap HA.fp∨B.w0.heap.size<=b)->R P n B aa Q (pc+1) ah (ag++hs) ((d,v)::m))
 (ho:aa[pc]?=some ⟨some d,.call { callee:=.value x,args:=xs,argTypes:=ts },ty,pos,after,g⟩:=by rfl) (hg:guardB aa m g=some true:=by rfl) (hn:Nat.blt d n=true:=by rfl) (hx:val m x=some (.func (.func f) #[] #[]):=by rfl) (hf:callable P f=true:=by kernel_rfl)
 (hvs:vals m xs.toList=some vs:=by rfl):R P n B aa Q pc imm hs m:=
 zC6 (hs1:=[]) (rest:=hs) ho hg hn hx hf hvs rfl hc next
theorem zIA{f:FuncId}{x:Operand}{xs:Array Operand}{ts:Array TypeId}{vs:List Value}(hs1 rest:List HA){post:Nat->Imm->List HA->Value->Prop}
 (hc:Ret P f vs imm hs1 post)
 (next:∀ah ag v k,imm.le ah->B.w0.heap.size<=k->post k ah ag v->(∀b∈ag.flatMap HA.fp,b∈hs1.flatMap HA.fp∨B.w0.heap.size<=b)->R P n B aa Q (pc+1) ah (ag++rest) ((d,v)::m))
 (ho:aa[pc]?=some ⟨some d,.call { callee:=.value x,args:=xs,argTypes:=ts },ty,pos,after,g⟩:=by rfl) (hg:guardB aa m g=some true:=by rfl) (hn:Nat.blt d n=true:=by rfl) (hx:val m x=some (.func (.func f) #[] #[]):=by rfl) (hf:callable P f=true:=by kernel_rfl)
 (hvs:vals m xs.toList=some vs:=by rfl) (hh:hs=hs1++rest:=by rfl):R P n B aa Q pc imm hs m:=
 zC6 (hs1:=hs1) (rest:=rest) ho hg hn hx hf hvs hh hc next
theorem jL(cs:List Value)(α:Type)[Rp α]{t len:Nat}{parts:Array (Nat×Operand)}{ps:List (Nat×Value)}
 (next:∀b,B.w0.heap.size<=b->R P n B aa Q (pc+1) imm (.osl (.slice (some ⟨b,0,none⟩) len len) (Rp.sz α) cs::hs) ((d,.slice (some ⟨b,0,none⟩) len len)::m))
 (ho:aa[pc]?=some ⟨some d,.buildSlice t len parts,ty,pos,after,g⟩:=by rfl) (hg:guardB aa m g=some true:=by rfl) (hn:Nat.blt d n=true:=by rfl) (hps:pvals m parts.toList=some ps:=by rfl) (hc:elemZ P t len ps=some ⟨cs⟩:=by kernel_rfl) (hl:Nat.beq cs.length (len*Rp.sz α)=true:=by kernel_rfl)
 (hlM:Nat.ble len 9223372036854775807=true:=by rfl):R P n B aa Q pc imm hs m:=
 zC5 (cs:=cs) (Rp.sz α) ho hg hn hps hc hl next hlM
theorem uF(c:List Value){t:TypeId}
 (next:∀b,B.w0.heap.size<=b->R P n B aa Q (pc+1) imm (.blk b ⟨c⟩::hs) ((d,.pointer (some ⟨b,0,none⟩))::m))
 (ho:aa[pc]?=some ⟨some d,.alloc t,ty,pos,after,g⟩:=by rfl) (hg:guardB aa m g=some true:=by rfl) (hn:Nat.blt d n=true:=by rfl) (hz:zeroC P t=some ⟨c⟩:=by kernel_rfl):R P n B aa Q pc imm hs m:=
 zG2 (c:=⟨c⟩) ho hg hn hz next
theorem sM(c:List Value){t:TypeId}{x:Operand}{v:Value}
 (next:∀b,B.w0.heap.size<=b->R P n B aa Q (pc+1) imm (.blk b ⟨c⟩::hs) ((d,.pointer (some ⟨b,0,none⟩))::m))
 (ho:aa[pc]?=some ⟨some d,.box t x,ty,pos,after,g⟩:=by rfl) (hg:guardB aa m g=some true:=by rfl) (hn:Nat.blt d n=true:=by rfl) (hx:val m x=some v:=by rfl) (hc:v.cells=⟨c⟩:=by rfl):R P n B aa Q pc imm hs m:=
 zHi (c:=⟨c⟩) ho hg hn hx hc next
theorem I_h{its:List It}{gs:List (List HA)}{N:Nat}{l:List (Nat×Bool)}{ops':List Oper}{pc:Nat}(m2:FM)(h:R P n B ops' Q pc imm hs m2)
 (hi:(insM aa its l m).bind (λm1=>keep m1 (m2.map (·.1)))=some m2:=by kernel_rfl):Ins aa (factsOf N its gs) imm l m hs λm' ag=>R P n B ops' Q pc imm ag m':=by
 obtain⟨m1,h1,h2⟩:=Option.bind_eq_some_iff.1 hi
 refine eP (λj it hj=>?_) h1 (mW (jY h2) h)
 have av:=(cb.1 hj).1
 unfold factsOf
 rw[cE,ed (by rw[cp];exact av),d5,hj]
 rfl
theorem vD{ops':List Oper}{pc d0:Nat}{φi:Fact}{imm1:Imm}{v:Value}(aU:imm1.le imm)(h0:ops'.drop pc=[]:=by rfl)(hd:look m d0=some v:=by rfl)(hφ:φi imm v []:=by exact⟨rfl,rfl⟩):R P n B ops' (OutQ n B φi (some d0) imm1 hs) pc imm hs m:=
 zDM (hx:=[]) h0 aU rfl (λ_ e=>by cases e;exact hd) hφ
theorem yK{f:FuncId}{fn:Func}{args:List Value}{post:Nat->Imm->List HA->Value->Prop}(hf:P.funcs[f]?=some fn)(h:∀B:Base,J P fn.ntmps B (bodyOf fn) (QB P fn B post) imm hs (argm 0 args))
 (hb:fn.body=some (bodyOf fn):=by rfl) (hn:Nat.ble args.length fn.ntmps=true:=by rfl):Ret P f args imm hs post:=zF5 hf hb hn λB _ _=>h B
theorem tS(hx:List HA){ops':List Oper}{pc d0:Nat}{φi:Fact}{imm1:Imm}{hs0:List HA}{v:Value}(aU:imm1.le imm)(hφ:φi imm v hx)(h0:ops'.drop pc=[]:=by rfl)(hh:hs=hx++hs0:=by rfl)(hd:look m d0=some v:=by rfl):R P n B ops' (OutQ n B φi (some d0) imm1 hs0) pc imm hs m:=
 zDM (hx:=hx) h0 aU hh (λ_ e=>by cases e;exact hd) hφ
theorem yH{id:Nat}{aa:List Oper}{y:Code}(h:R P n B aa (Exit.then (y.wp P Q) Q) 0 imm hs m):J P n B ((Code.region id aa.toArray false).seq y) Q imm hs m:=yB (zI h)
theorem yL{x y:Code}(h:J P n B x (Exit.then (y.wp P Q) Q) imm hs m):T n B (Exit.then ((x.seq y).wp P Q) Q) .normal imm hs m:=zG (yB h)
theorem yW{id:Nat}{aa:List Oper}{y:Code}(h:R P n B aa (Exit.then (y.wp P Q) Q) 0 imm hs m):T n B (Exit.then (((Code.region id aa.toArray false).seq y).wp P Q) Q) .normal imm hs m:=zG (yH h)
theorem tK{id:Nat}{aa:List Oper}{y:Code}(new:FM)(hR:T n B (Exit.then (y.wp P Q) Q) .normal imm hs (new++m))(h:runD P n aa hs 0 aa.length [] (new.map (·.1)) m=some (new,[].map (blkAt hs)):=by kernel_rfl):J P n B ((Code.region id aa.toArray false).seq y) Q imm hs m:=yH (wG [] new hR h)
theorem zEz{id:Nat}{aa:List Oper}{y:Code}(new:FM)(hR:T n B (Exit.then (y.wp P Q) Q) .normal imm hs (new++m))(h:runD P n aa hs 0 aa.length [] (new.map (·.1)) m=some (new,[].map (blkAt hs)):=by kernel_rfl):T n B (Exit.then (((Code.region id aa.toArray false).seq y).wp P Q) Q) .normal imm hs m:=zG (tK new hR h)
theorem wU{fn:Func}{post:Nat->Imm->List HA->Value->Prop}{v:Value}(h1:ResV P m hs fn.results.toList [v]:=by exact .tmp rfl ResV.nil)(h2:post B.w0.heap.size imm [] (tupV [v]):=by exact⟨_,rfl,rfl,rfl⟩):T n B (QB P fn B post) .ret imm hs m:=xN ⟨_,_,h1,zH,h2⟩
theorem zAD{f:FuncId}{x:Operand}{xs:Array Operand}{ts:Array TypeId}{vs:List Value}{r:Int}
 (hc:Ret P f vs imm [] λ_ _ ag v=>∃v0,ag=[]/\v=tupV [v0]/\v0=.int .i64 r)
 (next:∀ah,imm.le ah->R P n B aa Q (pc+1) ah hs ((d,vI r)::m))
 (ho:aa[pc]?=some ⟨some d,.call { callee:=.value x,args:=xs,argTypes:=ts },ty,pos,after,g⟩:=by rfl) (hg:guardB aa m g=some true:=by rfl) (hn:Nat.blt d n=true:=by rfl) (hx:val m x=some (.func (.func f) #[] #[]):=by rfl) (hf:callable P f=true:=by kernel_rfl)
 (hvs:vals m xs.toList=some vs:=by rfl):R P n B aa Q pc imm hs m:=
 xS hc (λah ag v k h1 _ h3 _=>by obtain⟨v0,rfl,rfl,rfl⟩:=h3;exact next ah h1) ho hg hn hx hf hvs
theorem sD{f:FuncId}{x:Operand}{xs:Array Operand}{ts:Array TypeId}{vs:List Value}{r:Bool}
 (hc:Ret P f vs imm [] λ_ _ ag v=>∃v0,ag=[]/\v=tupV [v0]/\v0=.bool r)
 (next:∀ah,imm.le ah->R P n B aa Q (pc+1) ah hs ((d,.bool r)::m))
 (ho:aa[pc]?=some ⟨some d,.call { callee:=.value x,args:=xs,argTypes:=ts },ty,pos,after,g⟩:=by rfl) (hg:guardB aa m g=some true:=by rfl) (hn:Nat.blt d n=true:=by rfl) (hx:val m x=some (.func (.func f) #[] #[]):=by rfl) (hf:callable P f=true:=by kernel_rfl)
 (hvs:vals m xs.toList=some vs:=by rfl):R P n B aa Q pc imm hs m:=
 xS hc (λah ag v k h1 _ h3 _=>by obtain⟨v0,rfl,rfl,rfl⟩:=h3;exact next ah h1) ho hg hn hx hf hvs
theorem pG{id:Nat}{K1 K2:Act->World->Prop}(h:T n B Q (.exit id) imm hs m):J P n B (.exit id) (Exit.then K1 (Exit.then K2 Q)) imm hs m:=zFZ (jX (jX h))
theorem xP(h:T n B Q .ret imm hs m):T n B (Exit.then ((Code.ret).wp P Q) Q) .normal imm hs m:=zG (yX h)
theorem rX{id:Nat}{c:Code}(h:J P n B c (Exit.inBlock id Q) imm hs m):T n B (Exit.then ((Code.block id c).wp P Q) Q) .normal imm hs m:=zG (wM h)
theorem yR(is:List Nat){ag:List HA}(h:pick hs is=some ag:=by rfl)(hn:is.Nodup:=by decide):∀w,Good B imm hs w->Good B imm ag w:=zN is h hn
theorem yT{t:TypeId}{x y:Operand}{b o:Nat}{c:Array Value}{v:Value}{ag:List HA}(j:Nat)(c':List Value)(hq:stB hs j c' some=some ag)(next:R P n B aa Q (pc+1) imm ag m)(ho:aa[pc]?=some ⟨none,.store t x y,ty,pos,after,g⟩:=by rfl)(hj:hs[j]?=some (.blk b c):=by rfl)(hx:val m x=some (.pointer (some ⟨b,o,none⟩)):=by rfl)(hy:val m y=some v:=by rfl)(hg:guardB aa m g=some true:=by kernel_rfl)(bh:sizeT P t=some v.cells.size:=by kernel_rfl)(bp:Nat.ble (o+v.cells.size) c.size=true:=by kernel_rfl)(bH:v.cells.toList.all Value.oneCell'=true:=by kernel_rfl)(hc:wr c o v.cells.toList=⟨c'⟩:=by kernel_rfl):R P n B aa Q pc imm hs m:=
 zBO j c' ag ho hj hx hy next hg bh bp bH hc (by rw[zE4 hj] at hq;exact Option.some.inj hq)
end
theorem bE{α β:Type}{o:Option α}{f:α->Option β}{r:β}{G:Prop}(h:(o >>= f)=some r)(k:∀x,o=some x->f x=some r->G):G:=by
 obtain⟨x,h1,h2⟩:=zC h;exact k x h1 h2
theorem ct{α:Type}{o t:α}{P1:Prop}{P2 P3:α->Prop}(hM:(pure t:Option α)=some o)(H:P1)(h2:P2 t:=by rfl)(h3:P3 t:=by rfl):∃t',o=t'/\P1/\P2 t'/\P3 t':=⟨t,(zD hM).symm,H,h2,h3⟩
abbrev NG(Q:Exit->Act->World->Prop):Prop:=∀gl a w,¬Q (.goto gl) a w
abbrev NO(Q:Exit->Act->World->Prop):Prop:=∀a w,¬Q .outgrown a w
abbrev cStmt(x:zL)(p0:Option Addr)(c0:Nat)(p1:Option Addr)(c1:Nat)(p2:Option Addr)(c2:Nat)(p3:Option Addr)(c3:Nat):List Value:=[vT x.Write.Array.l,vS p0 x.Write.Subs c0,vI x.Value.Kind,vI x.Value.Num,vS p1 x.Value.Index.Coefs c1,vI x.Value.Index.Const,vT x.Value.Read.Array.l,vS p2 x.Value.Read.Subs c2,vS p3 x.Value.Kids c3]
abbrev cExpr(x:zB)(p0:Option Addr)(c0:Nat)(p1:Option Addr)(c1:Nat)(p2:Option Addr)(c2:Nat):List Value:=[vI x.Kind,vI x.Num,vS p0 x.Index.Coefs c0,vI x.Index.Const,vT x.Read.Array.l,vS p1 x.Read.Subs c1,vS p2 x.Kids c2]
abbrev cAccess(x:zE)(p0:Option Addr)(c0:Nat):List Value:=[vT x.Array.l,vS p0 x.Subs c0]
abbrev cAff(x:zA)(p0:Option Addr)(c0:Nat):List Value:=[vS p0 x.Coefs c0,vI x.Const]
abbrev cRd(x:zK)(p0:Option Addr)(c0:Nat):List Value:=[vS p0 x.b c0,vI x.p]
abbrev zExpr:List Value:=[vI 0,vI 0,.slice none 0 0,vI 0,vT ([]),.slice none 0 0,.slice none 0 0]
abbrev z0:Value:=.slice none 0 0
abbrev vF:Value:=.bool false
abbrev vY:Value:=.bool true
abbrev KT:=Nat->Imm->List HA->Value->Prop
theorem iS(i:Imm):i.le i:=Imm.le.refl i
theorem iR{i:Imm}:i.le i:=Imm.le.refl i
abbrev S4{α:Type}[Rp α](imm:Imm)(p:Option Addr)(l:List α)(c:Nat):Prop:=SL imm (vS p l c) l
end Go.LN
namespace Go.LN
theorem zAE:∀{ks:List Nat}{m m':FM},keep m ks=some m'->m'.map (·.1)=ks
 | [],m,m',h=>by simp only[keep] at h;cases h;rfl
 | k::ks,m,m',h=>by
  simp only[keep] at h
  split at h
  ·rename_i v m1 h1 h2;cases h;rw[cM,zAE h2]
  ·cases h
theorem gW{P:Program}{n:Nat}{aa:List Oper}{hs:List HA}{pc k:Nat}{js ks:List Nat}{m new:FM}{bs:List Nat}(h:runD P n aa hs pc k js ks m=some (new,bs)):new.map (·.1)=ks:=by
 unfold runD at h;split at h
 ·split at h
  ·rename_i hk;cases h;exact zAE hk
  ·cases h
 ·cases h
section
variable {P:Program}{n:Nat}{B:Base}{aa:List Oper}{Q:Exit->Act->World->Prop}{pc:Nat}{imm:Imm}{hs:List HA}{m new:FM}{d:Nat}
theorem zX(pc':Nat)(js ks:List Nat)(h:runD P n aa hs pc (pc' - pc) js ks m=some (new,js.map (blkAt hs)))(hR:R P n B aa Q pc' imm hs (new++m))
 (hl:Nat.beq (pc+((aa.drop pc).take (pc' - pc)).length) pc'=true:=by kernel_rfl):R P n B aa Q pc imm hs m:=sW pc' js new hR (by rw[gW h];exact h) hl
theorem yS(js ks:List Nat)(h:runD P n aa hs pc aa.length js ks m=some (new,js.map (blkAt hs)))(hR:T n B Q .normal imm hs (new++m)):R P n B aa Q pc imm hs m:=wG js new hR (by rw[gW h];exact h)
theorem zFm(pc':Nat)(js ks:List Nat)(h:runD P n aa hs pc (pc' - pc) js ks m=some (new,js.map (blkAt hs)))(hR:Rq P n B aa Q pc' imm hs (new++m))
 (hl:Nat.beq (pc+((aa.drop pc).take (pc' - pc)).length) pc'=true:=by kernel_rfl):Rq P n B aa Q pc imm hs m:=zHw pc' js new hR (by rw[gW h];exact h) hl
theorem zHq(js ks:List Nat)(h:runD P n aa hs pc aa.length js ks m=some (new,js.map (blkAt hs)))(hR:T n B Q .normal imm hs (new++m)):Rq P n B aa Q pc imm hs m:=zHx js new hR (by rw[gW h];exact h)
theorem xB{id:Nat}{aa:List Oper}{y:Code}(ks:List Nat)(h:runD P n aa hs 0 aa.length [] ks m=some (new,[]))(hR:T n B (Exit.then (y.wp P Q) Q) .normal imm hs (new++m)):J P n B ((Code.region id aa.toArray false).seq y) Q imm hs m:=yH (yS [] ks h hR)
theorem qN{id:Nat}{aa:List Oper}{y:Code}(ks:List Nat)(h:runD P n aa hs 0 aa.length [] ks m=some (new,[]))(hR:T n B (Exit.then (y.wp P Q) Q) .normal imm hs (new++m)):T n B (Exit.then (((Code.region id aa.toArray false).seq y).wp P Q) Q) .normal imm hs m:=zG (xB ks h hR)
theorem yM{e:Exit}{m':FM}(h:T n B Q e imm hs m')(hk:keep m (m'.map (·.1))=some m':=by kernel_rfl):T n B Q e imm hs m:=T_w m' h hk
theorem fW{c:Code}{m':FM}(h:J P n B c Q imm hs m')(hk:keep m (m'.map (·.1))=some m':=by kernel_rfl):J P n B c Q imm hs m:=gY m' h hk
theorem vQ{its:List It}{gs:List (List HA)}{N:Nat}{l:List (Nat×Bool)}{ops':List Oper}{m2:FM}(ks:List Nat)
 (hi:(insM aa its l m).bind (λm1=>keep m1 ks)=some m2) (h:R P n B ops' Q pc imm hs m2):Ins aa (factsOf N its gs) imm l m hs λm' ag=>R P n B ops' Q pc imm ag m' :=
 I_h m2 h (by
  obtain⟨m1,h1,h2⟩:=Option.bind_eq_some_iff.1 hi
  rw[zAE h2];exact hi)
theorem xE(qs:List Nat){c:Bool}{α:Type}{X Y:Option α}{r:α}(hM:(if c=true then X else Y)=some r)(ht:c=true->X=some r->R P n B aa Q pc imm hs (qs.map (λq=>(q,Value.bool true))++m))
 (hf:c=false->Y=some r->R P n B aa Q pc imm hs (qs.map (λq=>(q,Value.bool false))++m)) (hq:keep m qs=some (qs.map λq=>(q,Value.bool c)):=by kernel_rfl):R P n B aa Q pc imm hs m:=by
 cases c with
 | true=>exact zG7 (λa f=>zEB hq (λ_ _ _ h=>h) a f) (ht rfl hM)
 | false=>exact zG7 (λa f=>zEB hq (λ_ _ _ h=>h) a f) (hf rfl hM)
theorem zED(α:Type)[Rp α]{c:Code}(h:RL imm [] ([]:List α)->J P n B c Q imm (hO α (.slice none 0 0) []::hs) m):J P n B c Q imm hs m:=zBv (zF4 (Rp.sz α)) (h RepL.nil)
theorem mY{α:Type}[Rp α]{cs:List Value}{l:List α}(hr:RL imm cs l){t len:Nat}{parts:Array (Nat×Operand)}{ps:List (Nat×Value)}{ty:TypeId}{pos:String}{after:Array Edge}{g:Option (Nat×Bool)}
 (next:∀b ah,imm.le ah->SL ah (.slice (some ⟨b,0,none⟩) len len) l->R P n B aa Q (pc+1) ah hs ((d,.slice (some ⟨b,0,none⟩) len len)::m))
 (ho:aa[pc]?=some ⟨some d,.buildSlice t len parts,ty,pos,after,g⟩:=by rfl) (hg:guardB aa m g=some true:=by rfl) (hn:Nat.blt d n=true:=by rfl) (hps:pvals m parts.toList=some ps:=by rfl) (hc:elemZ P t len ps=some ⟨cs⟩:=by kernel_rfl) (hl:Nat.beq cs.length (len*Rp.sz α)=true:=by kernel_rfl)
 (hlM:Nat.ble len 9223372036854775807=true:=by rfl):R P n B aa Q pc imm hs m:=
 jL cs α (λb _=>nN 0 rfl λah aU hl0=>next b ah aU (SL.of_frozen hl0 aU hr)) ho hg hn hps hc hl hlM
theorem tT{f:FuncId}{x:Operand}{xs:Array Operand}{ts:Array TypeId}{vs:List Value}{hs1 rest:List HA}{post:Nat->Imm->List HA->Value->Prop}{ty:TypeId}{pos:String}{after:Array Edge}{g:Option (Nat×Bool)}
 (hc:Ret P f vs imm hs1 post) (hh:hs=hs1++rest)
 (next:∀ah ag v k,imm.le ah->B.w0.heap.size<=k->post k ah ag v->(∀b∈ag.flatMap HA.fp,b∈hs1.flatMap HA.fp∨B.w0.heap.size<=b)->R P n B aa Q (pc+1) ah (ag++rest) ((d,v)::m))
 (ho:aa[pc]?=some ⟨some d,.call { callee:=.value x,args:=xs,argTypes:=ts },ty,pos,after,g⟩:=by rfl) (hg:guardB aa m g=some true:=by rfl) (hn:Nat.blt d n=true:=by rfl) (hx:val m x=some (.func (.func f) #[] #[]):=by rfl) (hf:callable P f=true:=by kernel_rfl)
 (hvs:vals m xs.toList=some vs:=by rfl):R P n B aa Q pc imm hs m:=zIA hs1 rest hc next ho hg hn hx hf hvs hh
theorem wT{α γ:Type}{x:Option α}{f:α->Option γ}{r:γ}{c:Code}(hM:(x >>= f)=some r)(hs0:List HA)(mf:α->FM)
 (h:∀o,x=some o->J P n B c (Exit.then (λa w=>∃ah ag m',K1 o imm hs0 mf ah ag m'/\Fr n a m'/\Good B ah ag w) Q) imm hs m)
 (k:∀t ah,imm.le ah->f t=some r->T n B Q .normal ah hs0 (mf t)):J P n B c Q imm hs m:=by
 obtain⟨o,h1,h2⟩:=zC hM
 refine rR (K1 o imm hs0 mf) (h o h1) ?_
 rintro ah _ _ ⟨t,rfl,aU,rfl,rfl⟩
 exact k _ ah aU h2
end
theorem rN{α:Type}[Rp α]{i:Imm}:RL i [] ([]:List α):=RepL.nil
theorem rc{α:Type}[Rp α]{i:Imm}{c1 c2:List Value}{l:List α}(a:α)(h:Rp.rep i c1 a)(t:RL i c2 l):RL i (c1++c2) (a::l):=⟨c1,c2,rfl,Rp.len h,h,t⟩
theorem rI{i:Imm}:∀(l:List Int),RL i (l.map vI) l
 | []=>RepL.nil
 | a::l=>⟨[vI a],l.map vI,rfl,rfl,rfl,rI l⟩
theorem rT{i:Imm}:∀(l:List Str),RL i (l.map λs=>vT s.l) l
 | []=>RepL.nil
 | a::l=>⟨[vT a.l],l.map λs=>vT s.l,rfl,rfl,rfl,rT l⟩
end Go.LN
namespace Go.LN
section
variable {P:Program}{n:Nat}{B:Base}{Q:Exit->Act->World->Prop}{imm:Imm}{hs:List HA}{m:FM}{aa:List Oper}{pc d:Nat}{ty:TypeId}{pos:String}{after:Array Edge}{g:Option (Nat×Bool)}
end
theorem Ret.fz{P:Program}{f:FuncId}{args:List Value}{imm:Imm}{hs:List HA}{post post':Nat->Imm->List HA->Value->Prop}(h:Ret P f args imm hs post)(hp:∀k i h v,post k i h v->∃A r,h=A::r/\A.plain=true/\∀i',i.le i'->Lent i' A->post' k i' r v):Ret P f args imm hs post' :=
 λw g=>(h w g).mono λe w' he=>by
  cases e with
  | returned v=>
   obtain⟨i,ag,h1,h2⟩:=he
   obtain⟨A,r,rfl,pl,h3⟩:=hp _ _ _ _ h1
   obtain⟨i',le,hL,hg⟩:=Good.freeze h2 pl
   exact⟨i',r,h3 i' le hL,hg⟩
  | panicked c=>exact he
  | outgrown=>exact he
end Go.LN
namespace Go.LN
section
variable {P:Program}{n:Nat}{B:Base}{aa:List Oper}{Q:Exit->Act->World->Prop}{pc:Nat}{imm:Imm}{hs:List HA}{m:FM}{d:Nat}
end
end Go.LN
namespace Go.LN
theorem vM{x:Int}(h0:-9223372036854775808<=x)(h1:x<=9223372036854775807):W x=x:=by
 show IntKind.i64.wrap x=x;rw[IntKind.wrap_i64];omega
theorem pE{α:Type}(l:List α)(k:Nat):idx l (k:Int)=l[k]?:=by
 unfold idx;simp
theorem zFn{α:Type}{l:List α}{i:Int}(h:0<=i):idx l i=l[i.toNat]?:=by
 unfold idx;simp[h]
theorem qC{a b:Str}(h:a.l.length+b.l.length<=9223372036854775807):cat a b=some ⟨a.l++b.l⟩:=by
 unfold cat;rw[if_pos h]
theorem pH{k:Nat}(h:k<9223372036854775807):W ((k:Int)+1)=((k+1:Nat):Int):=by
 rw[vM (by omega) (by omega)];omega
end Go.LN
namespace Go.LN
structure Raw2 where
 a:Value
 b:Value
instance:Rp Raw2 where
 sz:=2
 pos:=by decide
 rep _ cs r:=cs=[r.a,r.b]/\r.a.oneCell'=true/\r.b.oneCell'=true
 len h:=by obtain⟨rfl,_⟩:=h;rfl
 mono _ h:=h
 one h:=by obtain⟨rfl,h1,h2⟩:=h;simp[h1,h2]
def flat:List Raw2->List Value
 | []=>[]
 | r::l=>r.a::r.b::flat l
theorem mH:∀(a b:List Raw2),flat (a++b)=flat a++flat b
 | [],_=>rfl
 | r::a,b=>by simp[flat,mH a b]
theorem zCP{imm:Imm}:∀{l:List Raw2}{cs:List Value},RL imm cs l->cs=flat l
 | [],cs,h=>h
 | r::l,cs,⟨c1,c2,h1,_,h3,h4⟩=>by
  obtain⟨rfl,_⟩:=h3
  rw[h1,zCP h4];rfl
def LP(imm:Imm)(am:List Raw2)(parts:List xF)(vN:Value)(nl:List yD)(vB:Value)(bl:List zL):Prop:=
 parts.length<=140737488355328/\am.length=parts.length /\
  ((parts=[]/\am=[])∨∃rl l,parts=l++[⟨nl,bl⟩]/\am=rl++[⟨vN,vB⟩]/\RepL (Rp.rep imm) (Rp.sz xF) (flat rl) l)
theorem LP.mono{i j:Imm}(hl:i.le j){am:List Raw2}{parts:List xF}{vN vB:Value}{nl:List yD}{bl:List zL}(h:LP i am parts vN nl vB bl):LP j am parts vN nl vB bl:=by
 obtain⟨h1,h2,h3⟩:=h;refine⟨h1,h2,h3.imp id ?_⟩;rintro⟨rl,l,k1,k2,k3⟩;exact⟨rl,l,k1,k2,RepL.mono (λ_ _=>Rp.mono hl) k3⟩
structure L4(imm:Imm)(cs:List Value)(arr:List yQ)(aH:List Value)(am:List Raw2)(parts:List xF)(vN:Value)(nl:List yD)(vB:Value)(bl:List zL)(csN csB:List Value):Prop where
 arr:RL imm cs arr
 raw:RL imm aH am
 lp:LP imm am parts vN nl vB bl
 n:RL imm csN nl
 b:RL imm csB bl
theorem L4.mono{i j:Imm}(hl:i.le j){cs:List Value}{arr:List yQ}{aH:List Value}{am:List Raw2}{parts:List xF}{vN vB:Value}{nl:List yD}{bl:List zL}{csN csB:List Value}
 (h:L4 i cs arr aH am parts vN nl vB bl csN csB):L4 j cs arr aH am parts vN nl vB bl csN csB:=
 ⟨RepL.mono (λ_ _=>Rp.mono hl) h.arr,RepL.mono (λ_ _=>Rp.mono hl) h.raw,h.lp.mono hl,RepL.mono (λ_ _=>Rp.mono hl) h.n,RepL.mono (λ_ _=>Rp.mono hl) h.b⟩
theorem LP.len{imm:Imm}{am:List Raw2}{parts:List xF}{vN vB:Value}{nl:List yD}{bl:List zL}(h:LP imm am parts vN nl vB bl):(parts.length:Int)=(am.length:Int):=by rw[h.2.1]
theorem LP.last{imm:Imm}{am:List Raw2}{parts:List xF}{vN vB:Value}{nl:List yD}{bl:List zL}(h:LP imm am parts vN nl vB bl){x:xF}(hx:idx parts (W ((am.length:Int) - 1))=some x):
 x=⟨nl,bl⟩/\idx am (W ((am.length:Int) - 1))=some ⟨vN,vB⟩ /\
  ∀vN' nl' vB' bl',LP imm (am.set (W ((am.length:Int) - 1)).toNat ⟨vN',vB'⟩) (parts.set (W ((am.length:Int) - 1)).toNat ⟨nl',bl'⟩) vN' nl' vB' bl':=by
 obtain⟨h1,h2,h3⟩:=h
 have hW:W ((am.length:Int) - 1)=(am.length:Int) - 1:=vM (by omega) (by omega)
 rw[hW] at hx ⊢
 rcases h3 with⟨rfl,rfl⟩|⟨rl,l,rfl,rfl,h4⟩
 ·simp[idx] at hx
 ·have hl:l.length=rl.length:=by simpa using h2.symm
  have e:(((rl++[(⟨vN,vB⟩:Raw2)]).length:Int) - 1).toNat=rl.length:=by simp
  have e0:(0:Int)<=((rl++[(⟨vN,vB⟩:Raw2)]).length:Int) - 1:=by simp
  unfold idx at hx ⊢
  rw[if_pos e0,e] at hx ⊢
  rw[<- hl] at hx
  refine⟨by simpa using hx.symm,by simp,λvN' nl' vB' bl'=>⟨?_,?_,.inr ⟨rl,l,?_,?_,h4⟩⟩⟩
  ·simpa using h1
  ·simpa using h2
  ·rw[<- hl];simp
  ·simp
theorem LP.part{imm:Imm}{am:List Raw2}{parts:List xF}{vN vB:Value}{nl:List yD}{bl:List zL}(h:LP imm am parts vN nl vB bl)(hN:SL imm vN nl)(hB:SL imm vB bl){l1:List xF}
 (ha:app 48 parts [(⟨[],[]⟩:xF)]=some l1):LP imm (am++[⟨.slice none 0 0,.slice none 0 0⟩]) l1 (.slice none 0 0) [] (.slice none 0 0) []:=by
 obtain⟨hb,rfl⟩:=zBI ha
 obtain⟨h1,h2,h3⟩:=h
 refine⟨?_,?_,.inr ⟨am,parts,rfl,rfl,?_⟩⟩
 ·simp at hb ⊢;omega
 ·simp[h2]
 ·rcases h3 with⟨rfl,rfl⟩|⟨rl,l,rfl,rfl,h4⟩
  ·rfl
  ·rw[mH]
   exact h4.append (.single rfl (nQ ⟨_,_,rfl,hN,hB⟩))
theorem LP.done{imm:Imm}{am:List Raw2}{parts:List xF}{vN vB:Value}{nl:List yD}{bl:List zL}(h:LP imm am parts vN nl vB bl)(hN:SL imm vN nl)(hB:SL imm vB bl):RepL (Rp.rep imm) (Rp.sz xF) (flat am) parts:=by
 obtain⟨h1,h2,h3⟩:=h;rcases h3 with⟨rfl,rfl⟩|⟨rl,l,rfl,rfl,h4⟩
 ·rfl
 ·rw[mH];exact h4.append (.single rfl (nQ ⟨_,_,rfl,hN,hB⟩))
section
variable {P:Program}{n:Nat}{B:Base}{Q:Exit->Act->World->Prop}{imm:Imm}{hs:List HA}{m:FM}{aa:List Oper}{pc d:Nat}{ty:TypeId}{pos:String}{after:Array Edge}{g:Option (Nat×Bool)}
end
end Go.LN
namespace Go.LN
open Go.RowKit
theorem Good.below{imm:Imm}{w w':World}(h:Good ⟨w,imm,[]⟩ imm [] w)(b:Below w.heap.size w w'):Good ⟨w,imm,[]⟩ imm [] w':=by
 refine⟨λk c e=>?_,by simp,by simp,⟨b.os,b.tape,b.output,b.size,λk hk _=>b.block k hk,λ_ _ _=>rfl⟩⟩;obtain⟨ty,fr,e'⟩:=h.inv k c e;exact⟨ty,fr,(b.block k (h.lt_imm e)).trans e'⟩
theorem Good.cell{B:Base}{imm:Imm}{hs:List HA}{w:World}(h:Good B imm hs w){g:Nat}{v:Value}(e:imm g=some #[v]):w.cell? ⟨g,0,none⟩=some v:=by
 obtain⟨ty,fr,e'⟩:=h.inv _ _ e;simp only[World.cell?,e'];simp
theorem oC{P:Program}{f:FuncId}{args:List Value}{imm:Imm}{v:Value}{post:Nat->Imm->List HA->Value->Prop}
 (h:∀w,Good ⟨w,imm,[]⟩ imm [] w->Calls P f args.toArray w λe w'=>e=.returned v/\Below w.heap.size w w') (hp:∀k,post k imm [] v):Ret P f args imm [] post:=λw g=>
 (h w g).mono λe w' ⟨he,hb⟩=>by
  subst he
  exact⟨imm,[],hp _,g.below hb⟩
theorem zHG{P:Program}{n:Nat}{B:Base}{imm:Imm}{hs:List HA}{m:FM}{fn:Func}{post:Nat->Imm->List HA->Value->Prop}(h:RS P fn B post imm hs m):T n B (QB P fn B post) .normal imm hs m:=by
 obtain⟨vs,hs0,h1,h2,h3⟩:=h;exact λ_ w f g=>⟨f.defers,_,zA8 f g h1,imm,hs0,h3,h2 w g⟩
def asc(l:List UInt8):Bool:=l.all λb=>decide (b.toNat<128)
theorem zEE{l:List UInt8}(h:asc l=true):∀(j:Nat) b,l[j]?=some b->b.toNat<128:=λj b hj=>by
 have:=b8.1 h b (cR hj);simpa using this
def ErrV(v:Value)(b:Bool):Prop:=(b=false/\v=.nilIface)∨(b=true/\∃t p,v=.iface t p)
def atoiM(s:Str):Int×Bool:=match Lib.atoiAll s.l with
 | .ok v=>(v,false)
 | .range=>(Lib.atoiSat s.l,true)
 | _=>(0,true)
theorem zFo{P:Program}{f:FuncId}{s:Str}{t5 ti tn:TypeId}{g1 g2:Nat}{imm:Imm}(hl:s.l.length<=281474976710656)
 (h1:∃t p,imm g1=some #[.iface t p]) (h2:∃t p,imm g2=some #[.iface t p])
 (cok:∀(s:ByteArray) (hmax:s.size<=9223372036854775806) (v:Int) (h:Lib.atoiAll s.data.toList=.ok v) (w:World),Calls P f #[.string s] w λe w'=>e=.returned (.tuple #[.int .i64 v,.nilIface])/\(w'=w∨∃t,w'=Lib.bytesWorld w t5 t))
 (csy:∀(s:ByteArray) (hlim:s.size<=281474976710656) (h:Lib.atoiAll s.data.toList=Lib.NumEnd.ofOption none) (ev:Value) (w:World) (hv:w.cell? ⟨g1,0,none⟩=some ev) (hev:ev=.nilIface∨∃te pe,ev=.iface te pe),
  Calls P f #[.string s] w λe w'=>∃N,e=.returned (.tuple #[.int .i64 (0),.iface ti (.pointer (some ⟨N,0,none⟩))])/\w.heap.size<=N/\w'.heap[N]?=some (.cells #[.string ⟨#[65,116,111,105]⟩,.string s,ev] tn (0,0))/\Below w.heap.size w w')
 (crg:∀(s:ByteArray) (hlim:s.size<=281474976710656) (h:Lib.atoiAll s.data.toList=.range) (ev:Value) (w:World) (hv:w.cell? ⟨g2,0,none⟩=some ev) (hev:ev=.nilIface∨∃te pe,ev=.iface te pe),
  Calls P f #[.string s] w λe w'=>∃N,e=.returned (.tuple #[.int .i64 (Lib.atoiSat s.data.toList),.iface ti (.pointer (some ⟨N,0,none⟩))])/\w.heap.size<=N/\w'.heap[N]?=some (.cells #[.string ⟨#[65,116,111,105]⟩,.string s,ev] tn (0,0))/\Below w.heap.size w w')
 {post:Nat->Imm->List HA->Value->Prop} (hp:∀k v,ErrV v (atoiM s).2->post k imm [] (.tuple #[.int .i64 (atoiM s).1,v])):Ret P f [.string ⟨⟨s.l⟩⟩] imm [] post:=by
 intro w g
 have bh:(⟨⟨s.l⟩⟩:ByteArray).size=s.l.length:=rfl
 cases hc:Lib.atoiAll s.l
 ·rename_i v
  have em:atoiM s=(v,false):=by unfold atoiM;rw[hc]
  rw[em] at hp
  refine(cok ⟨⟨s.l⟩⟩ (by rw[bh];omega) v hc w).mono λe w' ⟨he,hw⟩=>?_
  subst he
  refine⟨imm,[],hp _ _ (.inl ⟨rfl,rfl⟩),?_⟩
  rcases hw with rfl|⟨t,rfl⟩
  ·exact g
  ·exact g.below (Lib.bytesWorld_below _ _ _)
 ·have em:atoiM s=(0,true):=by unfold atoiM;rw[hc]
  rw[em] at hp
  obtain⟨t,p,h1⟩:=h1
  refine(csy ⟨⟨s.l⟩⟩ (by rw[bh];exact hl) hc _ w (g.cell h1) (.inr ⟨t,p,rfl⟩)).mono λe w' ⟨N,he,_,_,hb⟩=>?_
  subst he
  exact⟨imm,[],hp _ _ (.inr ⟨rfl,_,_,rfl⟩),g.below hb⟩
 ·have em:atoiM s=(Lib.atoiSat s.l,true):=by unfold atoiM;rw[hc]
  rw[em] at hp
  obtain⟨t,p,h2⟩:=h2
  refine(crg ⟨⟨s.l⟩⟩ (by rw[bh];exact hl) hc _ w (g.cell h2) (.inr ⟨t,p,rfl⟩)).mono λe w' ⟨N,he,_,_,hb⟩=>?_
  subst he
  exact⟨imm,[],hp _ _ (.inr ⟨rfl,_,_,rfl⟩),g.below hb⟩
theorem repS{i:Imm}:∀(l:List ByteArray),RepL (Rp.rep i) (Rp.sz Str) (l.map Value.string) (l.map λb=>Str.mk b.data.toList)
 | []=>rfl
 | x::l=>⟨[.string x],l.map Value.string,rfl,rfl,rfl,repS l⟩
def splitM(s sep:Str):List Str:=(Lib.split s.l sep.l).map Str.mk
theorem zFA{P:Program}{f:FuncId}{s sep:Str}{t9:TypeId}{g0:Nat}{imm:Imm}(hs:s.l.length<4294967281)(hsep:1<=sep.l.length)
 (hm:∃m,imm g0=some #[.int .i64 m])
 (hc:∀(s sep:ByteArray) (m:Int) (w:World) (hs:s.size<4294967281) (hm:w.cell? ⟨g0,0,none⟩=some (.int .i64 m)) (h1:1<=sep.size),
  Calls P f #[.string s,.string sep] w λe w'=>e=.returned (.slice (some ⟨w.heap.size,0,none⟩) (Lib.countB s sep+1) (Lib.countB s sep+1))/\w'=w.alloc (.cells ((Lib.splitB sep 0 (Lib.countB s sep) s).map Value.string).toArray t9))
 {post:Nat->Imm->List HA->Value->Prop} (hp:∀k ah a c,imm.le ah->SL ah (vS a (splitM s sep) c) (splitM s sep)->post k ah [] (vS a (splitM s sep) c)):Ret P f [.string ⟨⟨s.l⟩⟩,.string ⟨⟨sep.l⟩⟩] imm [] post:=by
 intro w g
 obtain⟨m,hm⟩:=hm
 refine(hc ⟨⟨s.l⟩⟩ ⟨⟨sep.l⟩⟩ m w hs (g.cell hm) hsep).mono λe w' ⟨he,hw⟩=>?_
 subst he
 have aE:(Lib.splitB ⟨⟨sep.l⟩⟩ 0 (Lib.countB ⟨⟨s.l⟩⟩ ⟨⟨sep.l⟩⟩) ⟨⟨s.l⟩⟩).length=Lib.countB ⟨⟨s.l⟩⟩ ⟨⟨sep.l⟩⟩+1:=Lib.splitB_all (⟨⟨sep.l⟩⟩:ByteArray) hsep 0 _ _ rfl
 have aU:=Lib.countB_le (⟨⟨sep.l⟩⟩:ByteArray) hsep s.l.length ⟨⟨s.l⟩⟩ (cu _)
 have hdat:(Lib.splitB ⟨⟨sep.l⟩⟩ 0 (Lib.countB ⟨⟨s.l⟩⟩ ⟨⟨sep.l⟩⟩) ⟨⟨s.l⟩⟩).map (λb=>Str.mk b.data.toList)=splitM s sep:=by
  unfold splitM Lib.split
  have:=Lib.splitB_data (⟨⟨sep.l⟩⟩:ByteArray) 0 (Lib.countB ⟨⟨s.l⟩⟩ ⟨⟨sep.l⟩⟩) ⟨⟨s.l⟩⟩
  have e:Lib.splitK sep.l 0 (Lib.count s.l sep.l) s.l=(Lib.splitB (⟨⟨sep.l⟩⟩:ByteArray) 0 (Lib.countB ⟨⟨s.l⟩⟩ ⟨⟨sep.l⟩⟩) ⟨⟨s.l⟩⟩).map (·.data.toList):=this.symm
  rw[e,List.map_map]
  rfl
 generalize hps:Lib.splitB ⟨⟨sep.l⟩⟩ 0 (Lib.countB ⟨⟨s.l⟩⟩ ⟨⟨sep.l⟩⟩) ⟨⟨s.l⟩⟩=ps at aE hdat hw
 have hl2:ps.length=(splitM s sep).length:=by rw[<- hdat];simp
 have g2:=g.alloc_osl (ps.map Value.string).toArray t9 1 ps.length ps.length (ps.map Value.string) (by simp) (cu _) (by rw[Nat.mul_one];exact cC (by simp)) (by simp) (by
  have hz:(⟨⟨s.l⟩⟩:ByteArray).size=s.l.length:=rfl
  clear hc;have:(⟨⟨s.l⟩⟩:ByteArray).size=s.l.length:=rfl;omega)
 obtain⟨ah,h1,h2,h3⟩:=g2.freeze rfl
 have hsl:SL ah (.slice (some ⟨w.heap.size,0,none⟩) ps.length ps.length) (ps.map λb=>Str.mk b.data.toList):=SL.of_frozen (α:=Str) h2 h1 (repS ps)
 rw[hdat] at hsl
 rw[<- aE]
 refine⟨ah,[],?_,?_⟩
 ·rw[hl2] at hsl ⊢
  exact hp _ ah _ _ h1 hsl
 ·subst hw
  exact h3
theorem At.of_blk{imm:Imm}{b:Nat}{cs:List Value}(h:imm b=some ⟨cs⟩):At imm ⟨b,0,none⟩ cs:=⟨b,0,_,rfl,h,by simp,by simp⟩
section
variable {P:Program}{n:Nat}{B:Base}{aa:List Oper}{Q:Exit->Act->World->Prop}{pc:Nat}{imm:Imm}{hs:List HA}{m:FM}{d:Nat}
 {ty:TypeId}{pos:String}{after:Array Edge}{g:Option (Nat×Bool)}
def ifaceT(P:Program)(t:TypeId):Bool:=match P.underlying t with|some (.interface _)=>true|_=>false
theorem zIB{t t2:TypeId}{x:Operand}{ev:Value}{b:Bool}(hE:ErrV ev b)(ho:aa[pc]?=some ⟨some d,.binOp .neq t x (.const .nilIface) t2,ty,pos,after,g⟩)
 (next:R P n B aa Q (pc+1) imm hs ((d,.bool b)::m)) (hg:guardB aa m g=some true:=by kernel_rfl) (hn:Nat.blt d n=true:=by kernel_rfl) (hx:val m x=some ev:=by kernel_rfl) (ht:ifaceT P t=true:=by kernel_rfl):R P n B aa Q pc imm hs m:=by
 unfold ifaceT at ht
 split at ht
 ·rename_i ms hu
  refine qA ho hg rfl hn λa w f gd=>⟨.bool b,w,imm,hs,?_,gd,next⟩
  have hy:a.eval (.const .nilIface)=.nilIface:=rfl
  rcases hE with⟨rfl,rfl⟩|⟨rfl,te,pe,rfl⟩
  ·simp[execOp,f.eval hx,hy,eqGuard,binOp,mQ hu]
  ·simp[execOp,f.eval hx,hy,eqGuard,binOp,mR hu]
 ·cases ht
end
end Go.LN
namespace Go.LN
section
variable {P:Program}{n:Nat}{B:Base}{Q:Exit->Act->World->Prop}{imm:Imm}{hs:List HA}{m:FM}{aa:List Oper}{pc d:Nat}{ty:TypeId}{pos:String}{after:Array Edge}{g:Option (Nat×Bool)}
end
end Go.LN
namespace Go.LN
section
variable {P:Program}{n:Nat}{B:Base}{Q:Exit->Act->World->Prop}{imm:Imm}{hs:List HA}{m:FM}
end
structure NL where
 pl:Option Addr
 lo:List zA
 cl:Nat
 csl:List Value
 ph:Option Addr
 hi:List zA
 ch:Nat
 csh:List Value
def NL.vl(x:NL):Value:=vS x.pl x.lo x.cl
def NL.vh(x:NL):Value:=vS x.ph x.hi x.ch
def NL.ha(x:NL):List HA:=[hO zA x.vh x.csh,hO zA x.vl x.csl]
def NL.raw(x:NL):Raw2:=⟨x.vl,x.vh⟩
def NL.d(x:NL):yD:=⟨x.lo,x.hi⟩
def NL.ok(imm:Imm)(x:NL):Prop:=RL imm x.csl x.lo/\RL imm x.csh x.hi
def NL.fz(imm:Imm)(x:NL):Prop:=SL imm x.vl x.lo/\SL imm x.vh x.hi
theorem NL.ok.mono{i j:Imm}(h:i.le j){x:NL}(hx:x.ok i):x.ok j:=⟨RepL.mono (λ_ _=>Rp.mono h) hx.1,RepL.mono (λ_ _=>Rp.mono h) hx.2⟩
theorem NL.fz.mono{i j:Imm}(h:i.le j){x:NL}(hx:x.fz i):x.fz j:=⟨hx.1.mono h,hx.2.mono h⟩
section
variable {P:Program}{n:Nat}{B:Base}{Q:Exit->Act->World->Prop}{hs:List HA}{m:FM}
end
section
variable {P:Program}{n:Nat}{B:Base}{Q:Exit->Act->World->Prop}{hs:List HA}{m:FM}{imm:Imm}
end
def PW(imm:Imm)(am:List Raw2)(bi:List yD):Prop:=am.length=bi.length/\∀(j:Nat) r d,am[j]?=some r->bi[j]?=some d->SL imm r.a d.Lo/\SL imm r.b d.Hi
theorem PW.rl{imm:Imm}:∀{am:List Raw2}{bi:List yD},PW imm am bi->RL imm (flat am) bi
 | [],[],_=>rfl
 | [],_::_,h=>by cases h.1
 | _::_,[],h=>by cases h.1
 | r::am,d::bi,h=>⟨[r.a,r.b],flat am,rfl,rfl,zBP ⟨_,_,rfl,h.2 0 r d rfl rfl⟩,PW.rl ⟨by have:=h.1;simpa using this,λj r' d' h1 h2=>h.2 (j+1) r' d' (by simpa using h1) (by simpa using h2)⟩⟩
theorem LP.push{imm:Imm}{am:List Raw2}{parts:List xF}{vN vB vN' vB':Value}{nl nl':List yD}{bl bl':List zL}(h:LP imm am parts vN nl vB bl)(hN:SL imm vN nl)(hB:SL imm vB bl){l1:List xF}
 (ha:app 48 parts [(⟨nl',bl'⟩:xF)]=some l1):LP imm (am++[⟨vN',vB'⟩]) l1 vN' nl' vB' bl':=by
 obtain⟨hb,rfl⟩:=zBI ha
 obtain⟨h1,h2,h3⟩:=h
 refine⟨?_,?_,.inr ⟨am,parts,rfl,rfl,?_⟩⟩
 ·simp at hb ⊢;omega
 ·simp[h2]
 ·rcases h3 with⟨rfl,rfl⟩|⟨rl,l,rfl,rfl,h4⟩
  ·rfl
  ·rw[mH]
   exact h4.append (.single rfl (nQ ⟨_,_,rfl,hN,hB⟩))
theorem LP.nil{imm:Imm}:LP imm [] [] (.slice none 0 0) [] (.slice none 0 0) []:=⟨by decide,rfl,.inl ⟨rfl,rfl⟩⟩
end Go.LN
namespace Go.LN
structure ND where
 nm:Str
 p:Option Addr
 d:List Int
 c:Nat
 cs:List Value
def ND.v(x:ND):Value:=vS x.p x.d x.c
def ND.ha(x:ND):HA:=hO Int x.v x.cs
def ND.raw(x:ND):Raw2:=⟨vT x.nm.l,x.v⟩
def ND.a(x:ND):yQ:=⟨x.nm,x.d⟩
def ND.ok(imm:Imm)(x:ND):Prop:=RL imm x.cs x.d
def ND.fz(imm:Imm)(x:ND):Prop:=SL imm x.v x.d
theorem ND.ok.mono{i j:Imm}(h:i.le j){x:ND}(hx:x.ok i):x.ok j:=RepL.mono (λ_ _=>Rp.mono h) hx
theorem ND.fz.mono{i j:Imm}(h:i.le j){x:ND}(hx:x.fz i):x.fz j:=SL.mono h hx
section
variable {P:Program}{n:Nat}{B:Base}{Q:Exit->Act->World->Prop}{hs:List HA}{m:FM}
end
def RW(imm:Imm)(am:List Raw2)(A:List yQ)(k:Nat)(w:Value):Prop:=am.length=A.length/\∀(j:Nat) r d,am[j]?=some r->A[j]?=some d->r.a=vT d.Name.l/\(j ≠ k->SL imm r.b d.Dims)/\(j=k->r.b=w)
def ArW(imm:Imm)(v:Value)(am:List Raw2)(A:List yQ)(k:Int)(w:Value):Prop:=SL imm v am/\RW imm am A k.toNat w
theorem ArW.mono{i j:Imm}(h:i.le j){v:Value}{am:List Raw2}{A:List yQ}{k:Int}{w:Value}(hx:ArW i v am A k w):ArW j v am A k w:=
 ⟨SL.mono h hx.1,hx.2.1,λq r d h1 h2=>⟨(hx.2.2 q r d h1 h2).1,λhq=>SL.mono h ((hx.2.2 q r d h1 h2).2.1 hq),(hx.2.2 q r d h1 h2).2.2⟩⟩
theorem RW.at{imm:Imm}{am:List Raw2}{A:List yQ}{k:Int}{w:Value}(h:RW imm am A k.toNat w){a:yQ}(ha:idx A k=some a):idx am k=some ⟨vT a.Name.l,w⟩:=by
 obtain⟨h0,h1,h2⟩:=pP ha;have av:=(cb.1 h2).1;have hr:am[k.toNat]?=some (am[k.toNat]'(by rw[h.1];exact av)):=bX _;obtain⟨e1,_,e2⟩:=h.2 _ _ _ hr h2;unfold idx;rw[if_pos h0,hr]
 congr 1
 generalize am[k.toNat]'(by rw[h.1];exact av)=r at *;cases r
 simp only at e1 e2;rw[e1,e2 trivial]
theorem RW.rl{imm:Imm}:∀{am:List Raw2}{A:List yQ},am.length=A.length->(∀(j:Nat) r d,am[j]?=some r->A[j]?=some d->r.a=vT d.Name.l/\SL imm r.b d.Dims)->RL imm (flat am) A
 | [],[],_,_=>rfl
 | [],_::_,h,_=>by cases h
 | _::_,[],h,_=>by cases h
 | r::am,d::A,h,hh=>⟨[r.a,r.b],flat am,rfl,rfl,by
  obtain⟨e1,e2⟩:=hh 0 r d rfl rfl
  rw[e1]
  exact zAg ⟨_,rfl,e2⟩,RW.rl (by simpa using h) λj r' d' h1 h2=>hh (j+1) r' d' (by simpa using h1) (by simpa using h2)⟩
theorem RW.set{imm:Imm}{am:List Raw2}{A:List yQ}{k:Int}{w:Value}(h:RW imm am A k.toNat w){a:yQ}(ha:idx A k=some a){d:List Int}(hd:SL imm w d):RL imm (flat am) (A.set k.toNat ⟨a.Name,d⟩):=by
 obtain⟨h0,h1,h2⟩:=pP ha;refine RW.rl (by rw[cZ];exact h.1) λj r y hr hy=>?_;by_cases hj:j=k.toNat
 ·subst hj;rw[List.getElem?_set_self (cb.1 h2).1] at hy;cases hy
  obtain⟨e1,_,e2⟩:=h.2 _ r a hr h2;exact⟨e1,by rw[e2 rfl];exact hd⟩
 ·rw[List.getElem?_set_ne (λe=>hj e.symm)] at hy;obtain⟨e1,e2,_⟩:=h.2 _ r y hr hy;exact⟨e1,e2 hj⟩
theorem ArW.done{imm:Imm}{p:Option Addr}{c:Nat}{am:List Raw2}{A:List yQ}{k:Int}{w:Value}(h:ArW imm (vS p am c) am A k w){a:yQ}(ha:idx A k=some a){d:List Int}(hd:SL imm w d):SL imm (vS p (A.set k.toNat ⟨a.Name,d⟩) c) (A.set k.toNat ⟨a.Name,d⟩):=by
 obtain⟨⟨aA,h1,h2⟩,h3⟩:=h;refine⟨aA,?_,?_⟩
 ·have e:(vS p (A.set k.toNat ⟨a.Name,d⟩) c)=vS p am c:=by simp only[vS,cZ,h3.1]
  rw[e];exact h1
 ·rw[zCP h2];exact h3.set ha hd
section
variable {P:Program}{n:Nat}{B:Base}{imm:Imm}{hs:List HA}{m:FM}
end
end Go.LN
namespace Go.LN
structure NB where
 vN:Value
 nl:List yD
 p:Option Addr
 d:List zL
 c:Nat
 cs:List Value
def NB.v(x:NB):Value:=vS x.p x.d x.c
def NB.ha(x:NB):HA:=hO zL x.v x.cs
def NB.raw(x:NB):Raw2:=⟨x.vN,x.v⟩
def NB.a(x:NB):xF:=⟨x.nl,x.d⟩
def NB.ok(imm:Imm)(x:NB):Prop:=SL imm x.vN x.nl/\RL imm x.cs x.d
def NB.fz(imm:Imm)(x:NB):Prop:=SL imm x.vN x.nl/\SL imm x.v x.d
theorem NB.ok.mono{i j:Imm}(h:i.le j){x:NB}(hx:x.ok i):x.ok j:=⟨SL.mono h hx.1,RepL.mono (λ_ _=>Rp.mono h) hx.2⟩
theorem NB.fz.mono{i j:Imm}(h:i.le j){x:NB}(hx:x.fz i):x.fz j:=⟨SL.mono h hx.1,SL.mono h hx.2⟩
section
variable {P:Program}{n:Nat}{B:Base}{Q:Exit->Act->World->Prop}{hs:List HA}{m:FM}
end
end Go.LN
namespace Go.LN
open Go.Proofs
end Go.LN
namespace Go.LN
structure Raw1 where
 v:Value
instance:Rp Raw1 where
 sz:=1
 pos:=ee
 rep _ cs r:=cs=[r.v]/\r.v.oneCell'=true
 len h:=by obtain⟨rfl,_⟩:=h;rfl
 mono _ h:=h
 one h:=by obtain⟨rfl,h1⟩:=h;simp[h1]
def rv(R:List Raw1):List Value:=R.map Raw1.v
def GN{β:Type}[Rp β](imm:Imm)(xs:List (List β))(X:List Raw1)(y:List β)(v:Value):Prop:=
 (xs=[]/\X=[]/\y=[]/\v=.slice none 0 0)∨∃init Xi,xs=init++[y]/\X=Xi++[⟨v⟩]/\RL imm (rv Xi) init/\xs.length<=10000000000000
section
variable {β:Type} [Rp β] {imm:Imm}{xs:List (List β)}{X:List Raw1}{y:List β}{v:Value}
theorem GN.mono{j:Imm}(hl:imm.le j)(h:GN imm xs X y v):GN j xs X y v:=by
 rcases h with h|⟨init,Xi,h1,h2,h3,h4⟩
 ·exact .inl h
 ·exact .inr ⟨init,Xi,h1,h2,RepL.mono (λ_ _=>Rp.mono hl) h3,h4⟩
theorem zFp{init:List (List β)}{Xi:List Raw1}(h:RL imm (rv Xi) init):Xi.length=init.length:=by
 have:=h.length;simpa [rv,show Rp.sz (List β)=1 from rfl] using this
theorem GN.len(h:GN imm xs X y v):X.length=xs.length:=by
 rcases h with⟨rfl,rfl,_⟩|⟨init,Xi,rfl,rfl,h3,_⟩
 ·rfl
 ·simp[zFp h3]
theorem GN.all(h:GN imm xs X y v)(hs:SL imm v y):RL imm (rv X) xs:=by
 rcases h with⟨rfl,rfl,_⟩|⟨init,Xi,rfl,rfl,h3,_⟩
 ·exact RepL.nil
 ·have e:rv (Xi++[⟨v⟩])=rv Xi++[v]:=by simp[rv]
  rw[e];exact h3.append ⟨[v],[],rfl,rfl,⟨v,rfl,hs⟩,rfl⟩
theorem GN.push(h:GN imm xs X y v)(hs:SL imm v y)(hb:(xs.length+1)*24<=140737488355328):GN imm (xs++[[]]) (X++[⟨.slice none 0 0⟩]) [] (.slice none 0 0):=
 .inr ⟨xs,X,rfl,rfl,h.all hs,by simp;omega⟩
theorem zHW{n:Nat}(h:n<=10000000000000):W (((n+1:Nat):Int) - 1)=(n:Int):=by rw[vM (by omega) (by omega)];omega
theorem GN.last(h:GN imm xs X y v){z:List β}(hz:idx xs (W ((xs.length:Int) - 1))=some z):z=y/\idx X (W ((X.length:Int) - 1))=some ⟨v⟩/\W ((X.length:Int) - 1)=W ((xs.length:Int) - 1) /\
 ∀(y':List β) (v':Value),GN imm (xs.set (W ((xs.length:Int) - 1)).toNat y') (X.set (W ((X.length:Int) - 1)).toNat ⟨v'⟩) y' v':=by
 rcases h with⟨rfl,rfl,_⟩|⟨init,Xi,rfl,rfl,h3,h4⟩
 ·obtain⟨_,_,h2⟩:=pP hz
  simp at h2
 ·have hl:=zFp h3
  simp only[ca,List.length_singleton] at hz h4 ⊢
  have e1:=zHW (n:=init.length) (by omega)
  rw[e1] at hz
  rw[hl,e1]
  refine⟨?_,?_,rfl,λy' v'=>?_⟩
  ·have:=(pP hz).2.2
   simp at this
   exact this.symm
  ·unfold idx
   simp[hl]
  ·rw[cP]
   refine .inr ⟨init,Xi,?_,?_,h3,?_⟩
   ·simp
   ·simp[<- hl]
   ·simp;omega
end
def FS1{σ α β:Type}[Vr α][Vr β](P:Program)(imm:Imm)(hsS:σ->List HA)(v:Value)(φ:α->σ->Option (β×σ)):Prop:=
 ∃f first cap,v=.func (.func f) ⟨first⟩ ⟨cap⟩/\callable P f=true/\∀ah,imm.le ah->∀a s r va,φ a s=some r->Vr.rep ah va a->Ret P f (first++[va]++cap) ah (hsS s) λ_ i ag u=>ag=hsS r.2/\Vr.rep i u r.1
theorem FS1.mono{σ α β:Type}[Vr α][Vr β]{P:Program}{i j:Imm}{hsS:σ->List HA}{v:Value}{φ:α->σ->Option (β×σ)}(hl:i.le j)(h:FS1 P i hsS v φ):FS1 P j hsS v φ:=by
 obtain⟨f,first,cap,h1,h2,h3⟩:=h;exact⟨f,first,cap,h1,h2,λah h'=>h3 ah (hl.trans h')⟩
theorem FS1.intro{σ α β:Type}[Vr α][Vr β]{P:Program}{imm:Imm}{hsS:σ->List HA}{f:FuncId}{first cap:List Value}{φ:α->σ->Option (β×σ)}(h:∀ah,imm.le ah->∀a s r va,φ a s=some r->Vr.rep ah va a->Ret P f (first++[va]++cap) ah (hsS s) λ_ i ag u=>ag=hsS r.2/\Vr.rep i u r.1)
 (hc:callable P f=true:=by kernel_rfl):FS1 P imm hsS (.func (.func f) ⟨first⟩ ⟨cap⟩) φ:=⟨f,first,cap,rfl,hc,h⟩
section
variable {P:Program}{n:Nat}{B:Base}{aa:List Oper}{Q:Exit->Act->World->Prop}{pc:Nat}{imm:Imm}{hs:List HA}{m:FM}{d:Nat}
 {ty:TypeId}{pos:String}{after:Array Edge}{g:Option (Nat×Bool)}
end
end Go.LN
namespace Go.LN
open Go.RowKit
theorem zDU{imm : Imm}: ∀{s : List Str} {cs : List Value},RepL (Rp.rep imm) (Rp.sz Str) cs s -> cs = s.map λx=>Value.string ⟨⟨x.l⟩⟩
 | [],cs,h=>by have h : cs = []:=h;rw[h];rfl
 | l :: s,cs,⟨c1,c2,h1,_,h3,h4⟩=>by
  have h3 : c1 = [Value.string ⟨⟨l.l⟩⟩]:=h3
  rw[h1,h3,zDU h4];rfl
theorem zFq{P : Program}{f : FuncId}{imm : Imm}{elems : List Str}{sep : Str}{p : Option Addr}{c : Nat}{post : Nat -> Imm -> List HA -> Value -> Prop}
 (h1 : elems.length<=140737488355328) (h2 : (Lib.join (elems.map (·.l)) sep.l).length<=140737488355328) (h : SL imm (vS p elems c) elems)
 (hn : ∀(a : Option Addr) (c : Nat) (w : World),Calls P f #[.slice a 0 c,.string ⟨⟨sep.l⟩⟩] w λe w' => e = .returned (.string ⟨#[]⟩) /\ w' = w)
 (hc : ∀(bk o c : Nat) (xs : List ByteArray) (w : World),(∀(j : Nat) x,xs[j]? = some x -> w.cell? ⟨bk,o+j,none⟩ = some (.string x)) -> bk<w.heap.size -> xs.length<=140737488355328 -> xs.length<=c ->
  (Lib.join (xs.map (·.data.toList)) (⟨⟨sep.l⟩⟩ : ByteArray).data.toList).length<=140737488355328 ->
  Calls P f #[.slice (some ⟨bk,o,none⟩) xs.length c,.string ⟨⟨sep.l⟩⟩] w λe w' => e = .returned (.string ⟨(Lib.join (xs.map (·.data.toList)) (⟨⟨sep.l⟩⟩ : ByteArray).data.toList).toArray⟩) /\ Below w.heap.size w w')
 (hp : ∀k,post k imm [] (vT (Lib.join (elems.map (·.l)) sep.l))) : Ret P f [vS p elems c,vT sep.l] imm [] post:=by
 obtain⟨aA,hs,hr⟩:=h
 have bm:=zDU hr
 refine oC (λw g => ?_) hp
 rcases hs with⟨e,_⟩|⟨b,off,len,cap,all,e,hb,bh,hlc,hl,hall⟩
 ·injection e with e1 e2 e3
  have e0 : elems = []:=List.length_eq_zero_iff.1 e2
  subst e0
  exact(hn p c w).mono λe w' ⟨he,hw⟩=>⟨he,hw ▸ Below.refl _ _⟩
 ·injection e with e1 e2 e3
  subst e1;subst e2;subst e3
  obtain⟨ty,fr,hw⟩:=g.inv b all hb
  have av : b<w.heap.size:=by
   rcases cQ b w.heap.size with h|h
   ·exact h
   ·rw[dl h] at hw;cases hw
  have hmap : (elems.map λs=>(⟨⟨s.l⟩⟩ : ByteArray)).map (·.data.toList) = elems.map (·.l):=by rw[List.map_map];rfl
  have h9:=hc b off c (elems.map λs=>(⟨⟨s.l⟩⟩ : ByteArray)) w (λj x hx=>by
   rw[d5] at hx
   cases hj : elems[j]? with
   | none=>rw[hj] at hx;cases hx
   | some s=>
    rw[hj] at hx
    have hx : (⟨⟨s.l⟩⟩ : ByteArray) = x:=by simpa using hx
    have hjl:=(cb.1 hj).1
    simp only[World.cell?,hw,Option.isSome_none,bV,if_false]
    have h0 : aA[j]? = some (Value.string x):=by rw[bm,d5,hj,<- hx];rfl
    rw[<- hall,dk,if_pos (by rw[show Rp.sz Str = 1 from rfl];omega),du,Array.getElem?_toList] at h0
    exact h0) av (by rw[cp];exact h1) (by rw[cp];exact hlc) (by rw[hmap];exact h2)
  rw[hmap,cp] at h9
  exact h9
end Go.LN
namespace Go.LN
section
variable {P:Program}{n:Nat}{B:Base}{Q:Exit->Act->World->Prop}{imm:Imm}{hs:List HA}{m:FM}{aa:List Oper}{pc d:Nat}{ty:TypeId}{pos:String}{after:Array Edge}{g:Option (Nat×Bool)}
end
theorem zCQ{B:Base}{imm:Imm}(a b:List HA):∀w,Good B imm (a++b) w->Good B imm (b++a) w:=λ_ h=>h.perm List.perm_append_comm
end Go.LN
namespace Go.LN
section
variable {P:Program}{n:Nat}{B:Base}{aa:List Oper}{Q:Exit->Act->World->Prop}{pc:Nat}{imm:Imm}{hs:List HA}{m:FM}{d:Nat}
end
end Go.LN
