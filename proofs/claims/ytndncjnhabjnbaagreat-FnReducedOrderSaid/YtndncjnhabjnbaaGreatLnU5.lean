/- Helper of the proof (see the last text). -/
import Derived.Test.YtndncjnhabjnbaaGreatLnN
set_option linter.unusedVariables false
set_option linter.unusedSimpArgs false
namespace Go.LN
section
variable {P:Program}{n:Nat}{B:Base}{af:List Oper}{Q:Exit->Act->World->Prop}{pc:Nat}{imm:Imm}{hs:List HA}{m:FM}{d:Nat}
theorem resT{t:Nat}{v:Value}(h:look m t=some v):ResV P m hs [.tmp t] [v]:=.tmp h .nil
theorem resU{t t':Nat}{v v':Value}(h:look m t=some v)(h':look m t'=some v'):ResV P m hs [.tmp t,.tmp t'] [v,v']:=.tmp h (.tmp h' .nil)
theorem resC{t:Nat}{ty:TypeId}{v:Value}{b:Nat}{c:Array Value}(j:Nat)(hj:hs[j]?=some (.blk b c))(h:look m t=some (.pointer (some ⟨b,0,none⟩)))(hv:loadV P ty c.toList=some v:=by kernel_rfl):ResV P m hs [.cell t ty] [v]:=.cell j hj h hv .nil
theorem resE{t t':Nat}{ty:TypeId}{v v':Value}{b:Nat}{c:Array Value}(j:Nat)(hj:hs[j]?=some (.blk b c))(h:look m t=some (.pointer (some ⟨b,0,none⟩)))(h':look m t'=some v')(hv:loadV P ty c.toList=some v:=by kernel_rfl):ResV P m hs [.cell t ty,.tmp t'] [v,v']:=.cell j hj h hv (.tmp h' .nil)
theorem zJ3{fn:Func}{post:Nat->Imm->List HA->Value->Prop}{vs:List Value}{hs0:List HA}(h1:ResV P m hs fn.results.toList vs)(h2:∀w,Good B imm hs w->Good B imm hs0 w)(h3:post B.w0.heap.size imm hs0 (tupV vs)):T n B (QB P fn B post) .ret imm hs m:=fO ⟨_,_,h1,h2,h3⟩
theorem xU{α:Type}{a r:α}{fn:Func}{post:α->Nat->Imm->List HA->Value->Prop}{vs:List Value}{hs0:List HA}(hM:(pure a:Option α)=some r)(h1:ResV P m hs fn.results.toList vs)(h2:∀w,Good B imm hs w->Good B imm hs0 w)(h3:post a B.w0.heap.size imm hs0 (tupV vs)):T n B (QB P fn B (post r)) .ret imm hs m:=by
 obtain rfl:=zD hM;exact fO ⟨_,_,h1,h2,h3⟩
theorem nG(h:∀gl a w,Q (.goto gl) a w->False:=by exact λ_ _ _ h=>h):NG Q:=h
theorem nO(h:∀a w,Q .outgrown a w->False:=by exact λ_ _ h=>h):NO Q:=h
theorem O2{φ:List Fact}{hsC:List HA}{i:Nat}{v v1:Value}{js js1:List Nat}{r:List It}{l l1:List (Nat×Bool)}{ins:List (List (Nat×Bool))}(h:ObX P n B af φ imm hsC m (i+1+1) r ins):ObX P n B af φ imm hsC m i (.p v js::.p v1 js1::r) (l::l1::ins):=h
theorem O3{φ:List Fact}{hsC:List HA}{i:Nat}{v v1 v2:Value}{js js1 js2:List Nat}{r:List It}{l l1 l2:List (Nat×Bool)}{ins:List (List (Nat×Bool))}(h:ObX P n B af φ imm hsC m (i+1+1+1) r ins):ObX P n B af φ imm hsC m i (.p v js::.p v1 js1::.p v2 js2::r) (l::l1::l2::ins):=h
theorem O4{φ:List Fact}{hsC:List HA}{i:Nat}{v v1 v2 v3:Value}{js js1 js2 js3:List Nat}{r:List It}{l l1 l2 l3:List (Nat×Bool)}{ins:List (List (Nat×Bool))}(h:ObX P n B af φ imm hsC m (i+1+1+1+1) r ins):ObX P n B af φ imm hsC m i (.p v js::.p v1 js1::.p v2 js2::.p v3 js3::r) (l::l1::l2::l3::ins):=h
theorem vE{α:Type}{p:Option Addr}{c:Nat}{l l':List α}(h:l'.length=l.length):vS p l c=vS p l' c:=by simp only[vS,h]
theorem zGm{α:Type}[Rp α]{t:TypeId}{x z:Operand}{ty:TypeId}{pos:String}{after:Array Edge}{g:Option (Nat×Bool)}{v0:Value}{i:Int}{ad:Addr}{cs cc c:List Value}{v:Value}{l l':List α}{y x':α}(j o:Nat)(ap:AtO v0 (Rp.sz α) i.toNat ad)(bJ:(cs.drop (i.toNat*Rp.sz α)).take (Rp.sz α)=cc)(hr:RepL (Rp.rep imm) (Rp.sz α) cs l)(hy:idx l i=some y)(hl:(pure (l.set i.toNat x'):Option (List α))=some l')(hx':Rp.rep imm c x')
 (next:∀cs',RepL (Rp.rep imm) (Rp.sz α) cs' l'->l'.length=l.length->R P n B af Q (pc+1) imm (hs.set j (.osl v0 (Rp.sz α) cs')) m)
 (ho:af[pc]?=some ⟨none,.store t x z,ty,pos,after,g⟩:=by rfl) (hg:guardB af m g=some true:=by rfl) (hj:hs[j]?=some (.osl v0 (Rp.sz α) cs):=by rfl) (hx:val m x=some (.pointer (some (ad.add o))):=by rfl) (hz:val m z=some v:=by rfl)
 (bN:sizeT P t=some v.cells.size:=by kernel_rfl) (bR:Nat.ble (o+v.cells.size) (Rp.sz α)=true:=by kernel_rfl) (bX:v.cells.toList.all Value.oneCell'=true:=by kernel_rfl) (hc:cc.take o++v.cells.toList++cc.drop (o+v.cells.size)=c:=by rfl):R P n B af Q pc imm hs m:=by
 obtain rfl:=zD hl
 exact fP j o ho hg hj ap hx hz bJ bN bR bX hr hy hc hx' next
end
end Go.LN
