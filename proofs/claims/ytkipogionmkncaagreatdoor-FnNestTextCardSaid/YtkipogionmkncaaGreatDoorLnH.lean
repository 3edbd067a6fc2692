/- Helper of the proof (see the last text). -/
import Derived.Test.YtkipogionmkncaaGreatDoorLnA
import Derived.Deep.Quiet
import Derived.Laws.BytesString
import Derived.MapKept
set_option linter.unusedVariables false
set_option linter.unusedSimpArgs false
namespace Go.LN
section
variable {P:Program}{n:Nat}{B:Base}{Q:Exit->Act->World->Prop}{imm:Imm}{hs:List HA}{m:FM}{aa:List Oper}{pc d:Nat}
theorem oI{af:List HA}(hg:∀w,Good B imm hs w->Good B imm af w)(h:R P n B aa Q pc imm af m):R P n B aa Q pc imm hs m:=λa w f g=>h a w f (hg w g)
theorem jR{c:Code}{af:List HA}(hg:∀w,Good B imm hs w->Good B imm af w)(h:J P n B c Q imm af m):J P n B c Q imm hs m:=λa w f g=>h a w f (hg w g)
theorem pD{e:Exit}{af:List HA}(hg:∀w,Good B imm hs w->Good B imm af w)(h:T n B Q e imm af m):T n B Q e imm hs m:=λa w f g=>h a w f (hg w g)
theorem gZ(j:Nat){A:HA}(hj:hs[j]?=some A):∀w,Good B imm hs w->Good B imm (hs.eraseIdx j) w:=λ_ h=>(h.perm (sW hj).symm).tail
theorem jB(j:Nat){A:HA}(hj:hs[j]?=some A):∀w,Good B imm hs w->Good B imm (A::hs.eraseIdx j) w:=λ_ h=>h.perm (sW hj).symm
theorem zDU(sz:Nat):∀w,Good B imm hs w->Good B imm (.osl (.slice none 0 0) sz []::hs) w:=λ_ h=>h.nil_osl sz
theorem uZ{A:HA}(j:Nat)(hj:hs[j]?=some A)(h:∀ag,imm.le ag->Lent ag A->R P n B aa Q pc ag (hs.eraseIdx j) m)(hpl:A.plain=true:=by rfl):R P n B aa Q pc imm hs m:=λa w f g=>by
 obtain⟨ag,h1,h2,h3⟩:=(jB j hj w g).freeze hpl;exact h ag h1 h2 a w f h3
theorem rK{c:Code}{A:HA}(j:Nat)(hj:hs[j]?=some A)(h:∀ag,imm.le ag->Lent ag A->J P n B c Q ag (hs.eraseIdx j) m)(hpl:A.plain=true:=by rfl):J P n B c Q imm hs m:=λa w f g=>by
 obtain⟨ag,h1,h2,h3⟩:=(jB j hj w g).freeze hpl;exact h ag h1 h2 a w f h3
theorem uN{e:Exit}{A:HA}(j:Nat)(hj:hs[j]?=some A)(h:∀ag,imm.le ag->Lent ag A->T n B Q e ag (hs.eraseIdx j) m)(hpl:A.plain=true:=by rfl):T n B Q e imm hs m:=λa w f g=>by
 obtain⟨ag,h1,h2,h3⟩:=(jB j hj w g).freeze hpl;exact h ag h1 h2 a w f h3
theorem SL.of_frozen{α:Type}[Rp α]{ag:Imm}{v:Value}{cs:List Value}{l:List α}(h:Lent ag (.osl v (Rp.sz α) cs))(aP:imm.le ag)(hr:RepL (Rp.rep imm) (Rp.sz α) cs l):SL ag v l:=
 ⟨cs,h,hr.mono λ_ _=>Rp.mono aP⟩
def Post(B:Base)(post:Nat->Imm->List HA->Value->Prop):Ending->World->Prop
 | .returned v,w'=>∃ag af,post B.w0.heap.size ag af v/\Good B ag af w'
 | _,_=>False
def Ret(P:Program)(f:FuncId)(args:List Value)(imm:Imm)(hs:List HA)(post:Nat->Imm->List HA->Value->Prop):Prop:=
 ∀w,Good ⟨w,imm,hs.flatMap HA.fp⟩ imm hs w->Calls P f args.toArray w (Post ⟨w,imm,hs.flatMap HA.fp⟩ post)
theorem Ret.mono{f:FuncId}{args:List Value}{post post':Nat->Imm->List HA->Value->Prop}(h:Ret P f args imm hs post)(hp:∀k i h v,post k i h v->post' k i h v):Ret P f args imm hs post' :=
 λw g=>(h w g).mono λe w' he=>by
  cases e with
  | returned v=>obtain⟨i,af,h1,h2⟩:=he;exact⟨i,af,hp _ _ _ _ h1,h2⟩
  | panicked c=>exact he
  | outgrown=>exact he
def QB(P:Program)(fn:Func)(B:Base)(post:Nat->Imm->List HA->Value->Prop):Exit->Act->World->Prop
 | .normal,a,w|.ret,a,w=>a.defers=[]/\∃v,(results fn a.tmps).run P w=.ok v w/\Post B post (.returned v) w
 | _,_,_=>False
def argm:Nat->List Value->FM
 | _,[]=>[]
 | i,v::vs=>(i,v)::argm (i+1) vs
theorem zA9:∀(vs:List Value) (i k:Nat) (v:Value),look (argm i vs) k=some v->i<=k/\vs[k - i]?=some v
 | [],_,_,_,h=>by simp[argm,look] at h
 | u::vs,i,k,v,h=>by
  by_cases e:i=k
  ·subst e
   rw[argm,tV] at h
   cases h
   simp
  ·rw[argm,uL _ _ e] at h
   obtain⟨h1,h2⟩:=zA9 vs (i+1) k v h
   refine⟨by omega,?_⟩
   rw[show k - i=(k - (i+1))+1 from by omega]
   simpa using h2
theorem zDV{f:FuncId}{fn:Func}{c:Code}{args:List Value}{post:Nat->Imm->List HA->Value->Prop}(hf:P.funcs[f]?=some fn)(hb:fn.body=some c)(hn:Nat.ble args.length fn.ntmps=true)
 (h:∀B:Base,B.imm0=imm->B.io=hs.flatMap HA.fp->J P fn.ntmps B c (QB P fn B post) imm hs (argm 0 args)):Ret P f args imm hs post:=λw g=>by
 have hn:=cp hn
 refine calls_of_wp hf hb ?_
 refine wp_mono (h ⟨w,imm,hs.flatMap HA.fp⟩ rfl rfl _ w ⟨rfl,by simp;omega,λk v hk=>?_⟩ g) λe a w' he=>?_
 ·obtain⟨_,h2⟩:=zA9 args 0 k v hk
  have av:=(cf.1 h2).1
  simp only[Nat.sub_zero] at h2 av
  have hv':args[k]=v:=by rw[bW av] at h2;injection h2
  simp[Array.getElem?_append,av,hv']
 ·cases e <;> first|exact he|exact he.elim
inductive ResV (P:Program) (m:FM) (hs:List HA):List ResultVar->List Value->Prop
 | nil:ResV P m hs [] []
 | tmp {t:Nat}{v:Value}{rs:List ResultVar}{vs:List Value} (h:look m t=some v) (hr:ResV P m hs rs vs):ResV P m hs (.tmp t::rs) (v::vs)
 | cell {t:Nat}{ty:TypeId}{v:Value}{rs:List ResultVar}{vs:List Value}{b:Nat}{c:Array Value} (j:Nat) (hj:hs[j]?=some (.blk b c)) (h:look m t=some (.pointer (some ⟨b,0,none⟩))) (hv:loadV P ty c.toList=some v)
  (hr:ResV P m hs rs vs):ResV P m hs (.cell t ty::rs) (v::vs)
def resG(tmps:Array Value):ResultVar->Sem Value
 | .tmp t=>pure (tmps.getD t undef)
 | .cell a t=>do loadVar t (<- asAddr (tmps.getD a undef))
theorem dM{a:Act}{w:World}(f:Fr n a m)(g:Good B imm hs w):∀{rs:List ResultVar}{vs:List Value},ResV P m hs rs vs->(rs.mapM (resG a.tmps)).run P w=.ok vs w
 | [],_,.nil=>by simp
 | _,_,.tmp h hr=>by
  have:=f.eval (x:=.tmp _) h
  simp only[Act.eval] at this
  simp[List.mapM_cons,resG,this,dM f g hr]
 | _,_,.cell (c:=c) j hj h hv hr=>by
  have:=f.eval (x:=.tmp _) h
  simp only[Act.eval] at this
  obtain⟨_,_,ty',hw⟩:=g.own _ (uD hj)
  have hl:=rU (P:=P) (off:=0) hw (cs:=c.toList) (by simp) (by rw[cN,d8]) hv
  simp[List.mapM_cons,resG,this,asAddr,hl,dM f g hr]
def tupV:List Value->Value
 | [v]=>v
 | vs=>.tuple vs.toArray
theorem eB{fn:Func}{a:Act}{w:World}{vs:List Value}(f:Fr n a m)(g:Good B imm hs w)(h:ResV P m hs fn.results.toList vs):(results fn a.tmps).run P w=.ok (tupV vs) w:=by
 have h1:=dM f g h;have h2:(fn.results.mapM (resG a.tmps)).run P w=.ok vs.toArray w:=by
  rw[Array.mapM_eq_mapM_toList,Sem.run_map,h1];rfl
 have h3:results fn a.tmps=(do let vs<-fn.results.mapM (resG a.tmps);pure (if h:vs.size=1 then vs[0] else .tuple vs)):=by
  unfold results
  congr 1
 rw[h3];simp only[Sem.run_bind,h2,Result.andThen_ok,Sem.run_pure];cases vs with
 | nil=>rfl
 | cons v vs=>cases vs <;> rfl
def callable (P:Program) (f:FuncId):Bool:=match P.funcs[f]? with | some fn=>fn.body.isSome && fn.name != "runtime.NumGoroutine" | none=>false
theorem nF{w:World}{f:FuncId}{args:Array Value}(h:callable P f=true):(callFunc f args).run P w=.ok (.enter f args) w:=by
 unfold callable at h;unfold callFunc;split at h
 ·rename_i fn hf;rw [Bool.and_eq_true] at h;have h2:(fn.name == "runtime.NumGoroutine")=false:=by simpa [bne] using h.2
  have h1:fn.body.isNone=false:=by cases hb:fn.body <;> simp_all
  simp only[Sem.run_bind,run_program,Result.andThen_ok,hf,h2,h1,bV,if_false,Sem.run_pure]
 ·cases h
theorem zAq{f:FuncId}{x:Operand}{xs:Array Operand}{ts:Array TypeId}{ty:TypeId}{pos:String}{after:Array Edge}{g:Option (Nat×Bool)}{vs:List Value}{hs1 rest:List HA}{post:Nat->Imm->List HA->Value->Prop}
 (ho:aa[pc]?=some ⟨some d,.call { callee:=.value x,args:=xs,argTypes:=ts },ty,pos,after,g⟩) (hg:guardB aa m g=some true) (hn:Nat.blt d n=true) (hx:val m x=some (.func (.func f) #[] #[])) (hf:callable P f=true)
 (hvs:vals m xs.toList=some vs) (hh:hs=hs1++rest) (hc:Ret P f vs imm hs1 post)
 (next:∀ag af v k,imm.le ag->B.w0.heap.size<=k->post k ag af v->(∀b∈af.flatMap HA.fp,b∈hs1.flatMap HA.fp∨B.w0.heap.size<=b)->R P n B aa Q (pc+1) ag (af++rest) ((d,v)::m)):R P n B aa Q pc imm hs m:=
 dI ho hg λa w fr gd=>by
  subst hh
  have hargs:xs.map a.eval=vs.toArray:=by apply Array.ext';rw[dc,fr.evals hvs]
  have bd:=gd.nodup
  rw[cT] at bd
  have hg1:=gd.enter (hs1:=hs1) (λA hA=>cD _ hA) (cq.1 bd).1
  unfold Oper.wp
  simp only[execOp,resolve,Deferred.ofValue,fr.eval hx,hargs,Sem.run_bind,Sem.run_pure,Result.andThen_ok,invoke,Array.empty_append,Array.append_empty,nF hf,Oper.upon]
  refine(hc w hg1).mono λe w' he=>?_
  cases e with
  | returned v=>
   obtain⟨ag,af,hp,hgood⟩:=he
   obtain⟨g2,aP,hfp⟩:=gd.leave hgood
   exact next ag af v w.heap.size aP gd.frm.size hp hfp _ w' (fr.put d v (by simpa using hn)) g2
  | panicked c=>exact he.elim
  | outgrown=>exact he.elim
theorem Good.lendL:∀(L:List HA) {B:Base}{imm:Imm}{hs:List HA}{w:World},Good B imm (L++hs) w->L.all HA.plain=true->∃imm1,imm.le imm1/\(∀A∈L,Lent imm1 A)/\Good ⟨w,imm1,hs.flatMap HA.fp⟩ imm1 hs w /\
 ∀imm2 af w',Good ⟨w,imm1,hs.flatMap HA.fp⟩ imm2 af w'->∃imm3,imm.le imm3/\imm3.le imm2/\(∀b c,imm2 b=some c->w.heap.size<=b->imm3 b=some c)/\Good ⟨w,imm,(L++hs).flatMap HA.fp⟩ imm3 (L++af) w'
 | [],B,imm,hs,w,h,_=>by
  refine⟨imm,Imm.le.refl _,by simp,h.enter (λ_ h=>h) h.nodup,λimm2 af w' h'=>⟨imm2,λ_ _ e=>(h'.frm.imm _ (h.lt_imm e) (h.nio e)).trans e,Imm.le.refl _,λ_ _ e _=>e,h'⟩⟩
 | A::L,B,imm,hs,w,h,hpl=>by
  rw[cX,bX] at hpl
  obtain⟨i1,h1,h2,h3,h4⟩:=Good.lend (A:=A) (hs:=L++hs) h hpl.1
  obtain⟨i2,k1,k2,k3,k4⟩:=Good.lendL L h3 hpl.2
  refine⟨i2,h1.trans k1,λA' hA'=>?_,k3,λimm2 af w' h'=>?_⟩
  ·rcases cr.1 hA' with rfl|hA'
   ·exact h2.mono k1
   ·exact k2 _ hA'
  ·obtain⟨i3,l1,l2,l3,l4⟩:=k4 imm2 af w' h'
   obtain⟨i4,m1,m2,m3,m4⟩:=h4 i3 (L++af) w' l4
   exact⟨i4,m1,m2.trans l2,λb c e hb=>m3 b c (l3 b c e hb) hb,m4⟩
theorem pW{f:FuncId}{x:Operand}{xs:Array Operand}{ts:Array TypeId}{ty:TypeId}{pos:String}{after:Array Edge}{g:Option (Nat×Bool)}{vs:List Value}{L hs1 rest:List HA}{post:Nat->Imm->List HA->Value->Prop}
 (ho:aa[pc]?=some ⟨some d,.call { callee:=.value x,args:=xs,argTypes:=ts },ty,pos,after,g⟩) (hg:guardB aa m g=some true) (hn:Nat.blt d n=true) (hx:val m x=some (.func (.func f) #[] #[])) (hf:callable P f=true)
 (hvs:vals m xs.toList=some vs) (hh:hs=(L++hs1)++rest) (hc:∀imm1,imm.le imm1->(∀A∈L,Lent imm1 A)->Ret P f vs imm1 hs1 post)
 (next:∀imm2 imm3 af v k,imm.le imm3->imm3.le imm2->B.w0.heap.size<=k->(∀b c,imm2 b=some c->k<=b->imm3 b=some c)->post k imm2 af v->(∀b∈(L++af).flatMap HA.fp,b∈(L++hs1).flatMap HA.fp∨B.w0.heap.size<=b) ->
  R P n B aa Q (pc+1) imm3 ((L++af)++rest) ((d,v)::m)) (hpl:L.all HA.plain=true:=by rfl):R P n B aa Q pc imm hs m:=
 dI ho hg λa w fr gd=>by
  subst hh
  have hargs:xs.map a.eval=vs.toArray:=by apply Array.ext';rw[dc,fr.evals hvs]
  have bd:=gd.nodup
  rw[cT] at bd
  have hg1:=gd.sub (af:=L++hs1) (λA hA=>cD _ hA) (cq.1 bd).1
  obtain⟨imm1,h1,h2,h3,h4⟩:=Good.lendL L hg1 hpl
  unfold Oper.wp
  simp only[execOp,resolve,Deferred.ofValue,fr.eval hx,hargs,Sem.run_bind,Sem.run_pure,Result.andThen_ok,invoke,Array.empty_append,Array.append_empty,nF hf,Oper.upon]
  refine(hc imm1 h1 h2 w h3).mono λe w' he=>?_
  cases e with
  | returned v=>
   obtain⟨imm2,af,hp,hgood⟩:=he
   obtain⟨imm3,k1,k2,k3,k4⟩:=h4 imm2 af w' hgood
   obtain⟨g2,aP,hfp⟩:=gd.leave k4
   exact next imm2 imm3 af v w.heap.size aP k2 gd.frm.size k3 hp hfp _ w' (fr.put d v (by simpa using hn)) g2
  | panicked c=>exact he.elim
  | outgrown=>exact he.elim
theorem zEQ{f:FuncId}{args:List Value}{v:Value}{w:World}{imm:Imm}(hg:Good ⟨w,imm,[]⟩ imm [] w)(h:Ret P f args imm [] (λ_ _ _ u=>u=v)):
 Calls P f args.toArray w λe w'=>e=.returned v/\Go.RowKit.Below w.heap.size w w' :=
 (h w hg).mono λe w' he=>by
  cases e with
  | returned u=>
   obtain⟨i,af,h1,h2⟩:=he
   subst h1
   exact⟨rfl,⟨h2.frm.os,h2.frm.tape,h2.frm.output,h2.frm.size,λk hk=>h2.frm.heap k hk (by simp)⟩⟩
  | panicked c=>exact he.elim
  | outgrown=>exact he.elim
end
end Go.LN
namespace Go.LN
def Cq(w w':World):Prop:=∃k,w'=w.drewN k
def Rq(P:Program)(n:Nat)(B:Base)(aa:List Oper)(Q:Exit->Act->World->Prop)(pc:Nat)(imm:Imm)(hs:List HA)(m:FM):Prop:=
 ∀a w,Fr n a m->Good B imm hs w->wpQuiet P aa.toArray (Cq w) (λa'=>∀w',Cq w w'->Q .normal a' w') (aa.drop pc) a
section
variable {P:Program}{n:Nat}{B:Base}{Q:Exit->Act->World->Prop}{imm:Imm}{hs:List HA}{m:FM}{aa:List Oper}{pc d:Nat}
theorem Good.drewN{w:World}(h:Good B imm hs w)(k:Nat):Good B imm hs (w.drewN k):=h.draw _
theorem dO{id:Nat}{aa:List Oper}(hm:P.follows .mixedOrders=true)(hB:Region.lexB .any aa.toArray=true)(h:Rq P n B aa Q 0 imm hs m):J P n B (.region id aa.toArray true) Q imm hs m:=λa w f g=>
 wp_region_quiet_lit hm hB (by
  have:=h a w f g
  rw[cN] at this
  exact this)
theorem zEj{aa:List Oper}{pc:Nat}(h0:aa.drop pc=[])(h:T n B Q .normal imm hs m):Rq P n B aa Q pc imm hs m:=λa w f g=>by
 rw[h0];refine wpQuiet_nil ?_;rintro w' ⟨k,rfl⟩;exact h a _ f (g.drewN k)
theorem pX{α:Type}{aa:List α}{pc:Nat}{o:α}(ho:aa[pc]?=some o):aa.drop pc=o::aa.drop (pc+1):=by
 have av:pc<aa.length:=by
  rcases cY pc aa.length with h|h
  ·exact h
  ·rw[dd h] at ho;cases ho
 rw[cm av];rw[bW av] at ho;cases ho;rfl
def Reads(P:Program)(n:Nat)(B:Base)(imm:Imm)(hs:List HA)(m:FM)(o:Op)(v:Value):Prop:=
 ∀(oo:Oper) a w,oo.op=o->Fr n a m->Good B imm hs w->(execOp a.eval oo).run P w=.ok (.value v) w
theorem eW{o:Oper}{v:Value}(ho:aa[pc]?=some o)(hg:guardB aa m o.guard=some true)(hd:o.dst=some d)(hn:Nat.blt d n=true)(h:Reads P n B imm hs m o.op v)(next:R P n B aa Q (pc+1) imm hs ((d,v)::m)):
 R P n B aa Q pc imm hs m:=sN ho hg hd hn λa w f g=>⟨v,w,imm,hs,h o a w rfl f g,g,next⟩
theorem oN{o:Oper}{v:Value}(ho:aa[pc]?=some o)(hg:guardB aa m o.guard=some true)(hd:o.dst=some d)(hn:Nat.blt d n=true)(h:Reads P n B imm hs m o.op v)(next:Rq P n B aa Q (pc+1) imm hs ((d,v)::m)):
 Rq P n B aa Q pc imm hs m:=λa w f g=>by
 rw[pX ho]
 refine wpQuiet_step λK hK=>?_
 rw[if_pos (f.wanted hg)]
 refine⟨v,?_,hK _ ?_⟩
 ·rintro w' ⟨k,rfl⟩
  unfold Oper.quietAt
  rw[h o a _ rfl f (g.drewN k)]
  exact⟨rfl,rfl⟩
 ·rw[hd]
  exact next _ w (f.put d v (by simpa using hn)) g
theorem zCB{o:Oper}(ho:aa[pc]?=some o)(hg:guardB aa m o.guard=some false)(hd:o.dst=some d)(hn:Nat.blt d n=true)(next:Rq P n B aa Q (pc+1) imm hs ((d,undef)::m)):Rq P n B aa Q pc imm hs m:=λa w f g=>by
 rw[pX ho];refine wpQuiet_step λK hK=>?_;rw[if_neg (by rw[f.wanted hg];simp)];refine hK _ ?_;rw[hd];exact next _ w (f.put d undef (by simpa using hn)) g
theorem zER{o:Oper}{m':FM}(ho:aa[pc]?=some o)(h:run1 P n aa m o=some m')(hR:Rq P n B aa Q (pc+1) imm hs m'):Rq P n B aa Q pc imm hs m:=by
 unfold run1 at h;split at h
 ·cases h
 ·rename_i d hd;cases hn:Nat.blt d n with
  | false=>rw[hn] at h;cases h
  | true=>
   rw[hn] at h;simp only[cond_true] at h;split at h
   ·rename_i hg;split at h
    ·rename_i v hv;cases h
     exact oN ho hg hd hn (λoo a w he f _=>kG f (by rw[he];exact hv)) hR
    ·cases h
   ·rename_i hg;cases h
    exact zCB ho hg hd hn hR
   ·cases h
theorem zDW{α:Type}[Rp α]{t:TypeId}{x xi:Operand}{v:Value}{k:IntKind}{i:Int}{l:List α}{y:α}
 (hx:val m x=some v) (hi:val m xi=some (.int k i)) (ht:elemT P t=some (Rp.sz α)) (af:SL imm v l) (hy:idx l i=some y) :
 ∃ad az,At imm ad az/\Rp.rep imm az y/\Reads P n B imm hs m (.indexAddr t x xi) (.pointer (some ad)):=by
 obtain⟨h0,h1,h2⟩:=uA hy
 obtain⟨az,hsl,hr⟩:=af
 have ar:=hr.length
 obtain⟨al,hbd⟩:=hr.at h2
 rcases hsl with⟨rfl,rfl⟩|⟨b,off,len,cap,c,rfl,hc,aP,_,bH,bb⟩
 ·have:=Rp.pos (α:=α)
  simp at hbd;omega
 ·have hll:len=l.length:=tY (Rp.pos (α:=α)) (by omega)
  subst hll
  have au:At imm ⟨b,off+i.toNat*Rp.sz α,none⟩ ((az.drop (i.toNat*Rp.sz α)).take (Rp.sz α)):=by
   refine⟨b,_,c,rfl,hc,?_,?_⟩
   ·simp only[ci,cj];omega
   ·rw[<- cI]
    conv=>rhs;rw[<- bb,dq,d6]
    congr 1
    simp only[ci,cj]
    omega
  exact⟨_,_,au,al,λoo a w he f _=>by simp only[execOp,he,f.eval hx,f.eval hi,Sem.run_bind,mJ ht h0 h1,Result.andThen_ok,Sem.run_pure]⟩
theorem zCC{t:TypeId}{x:Operand}{ad:Addr}{cs cs':List Value}{v:Value}(o:Nat)(au:At imm ad cs)(hx:val m x=some (.pointer (some (ad.add o))))(bc:Nat.ble o cs.length=true)
 (hc:(cs.drop o).take cs'.length=cs') (hv:loadV P t cs'=some v):Reads P n B imm hs m (.load t x) v:=λoo a w he f gd=>by
 obtain⟨b,off,c,e,hb,aP,bb⟩:=au.sub o bc hc
 obtain⟨ty',fr,hw⟩:=gd.inv b c hb
 simp only[execOp,he,f.eval hx,Instr.loadAt,Instr.sureAddr,Sem.run_bind,Sem.run_pure,Result.andThen_ok,e,rU hw aP bb hv]
theorem zBZ{t:TypeId}{x:Operand}{b o:Nat}{c:Array Value}{cs:List Value}{v:Value}(j:Nat)(hj:hs[j]?=some (.blk b c))(hx:val m x=some (.pointer (some ⟨b,o,none⟩)))
 (bc:Nat.ble (o+cs.length) c.size=true) (hc:(c.toList.drop o).take cs.length=cs) (hv:loadV P t cs=some v):Reads P n B imm hs m (.load t x) v:=λoo a w he f gd=>by
 obtain⟨_,_,ty',hw⟩:=gd.own _ (uD hj)
 simp only[execOp,he,f.eval hx,Instr.loadAt,Instr.sureAddr,Sem.run_bind,Sem.run_pure,Result.andThen_ok,rU hw (cp bc) hc hv]
def cat(a b:Str):Option Str:=if a.l.length+b.l.length<=9223372036854775807 then some ⟨a.l++b.l⟩ else none
def sidx(a:Str)(i:Int):Option UInt8:=idx a.l i
def sslc(a:Str)(i k:Int):Option Str:=(slc a.l i k).map Str.mk
theorem zAr(a b:List UInt8):(⟨⟨a⟩⟩:ByteArray)++⟨⟨b⟩⟩=⟨⟨a++b⟩⟩:=by
 apply ByteArray.ext;simp[ByteArray.data_append]
theorem zAV(a:List UInt8)(i k:Nat):(⟨⟨a⟩⟩:ByteArray).extract i k=⟨⟨(a.take k).drop i⟩⟩:=by
 apply ByteArray.ext;simp only[ByteArray.data_extract];apply Array.ext';simp[de,dq]
theorem zEk{t t2:TypeId}{x y:Operand}{a b c:Str}(hx:val m x=some (.string ⟨⟨a.l⟩⟩))(hy:val m y=some (.string ⟨⟨b.l⟩⟩))(h:cat a b=some c):Reads P n B imm hs m (.binOp .add t x y t2) (.string ⟨⟨c.l⟩⟩):=λoo ac w he f gd=>by
 unfold cat at h;split at h
 ·rename_i aP;cases h
  have h63:¬((((⟨⟨a.l⟩⟩:ByteArray).size+(⟨⟨b.l⟩⟩:ByteArray).size:Nat):Int)>IntKind.i64.max):=by
   have hm:IntKind.i64.max=9223372036854775807:=by decide
   have e1:(⟨⟨a.l⟩⟩:ByteArray).size=a.l.length:=rfl;have e2:(⟨⟨b.l⟩⟩:ByteArray).size=b.l.length:=rfl;rw[hm,e1,e2];omega
  simp only[execOp,he,f.eval hx,f.eval hy,Sem.run_bind,eqGuard,cJ,if_true,Sem.run_pure,Result.andThen_ok,binOp,Op.stringOp,h63,if_false];rw[zAr]
 ·cases h
theorem zCp{t:TypeId}{x y:Operand}{a:Str}{k:IntKind}{i:Int}{c:UInt8}(hx:val m x=some (.string ⟨⟨a.l⟩⟩))(hy:val m y=some (.int k i))(hu:P.underlying t=some .string)(h:sidx a i=some c):Reads P n B imm hs m (.index t x y) (.int .u8 (c.toNat:Int)):=λoo ac w he f gd=>by
 obtain⟨h0,h1,h2⟩:=uA h;have hg:(⟨⟨a.l⟩⟩:ByteArray)[i.toNat]?=some c:=by
  have av:i.toNat<(⟨⟨a.l⟩⟩:ByteArray).size:=(cf.1 h2).1;rw[getElem?_pos (⟨⟨a.l⟩⟩:ByteArray) i.toNat av]
  congr 1
  exact(cf.1 h2).2
 simp only[execOp,he,f.eval hx,f.eval hy,Instr.index,asIntOf,Sem.run_bind,Sem.run_pure,Result.andThen_ok,zW hu,h0,if_true,hg]
theorem zCq{t:TypeId}{x:Operand}{lo hi:Option Operand}{a c:Str}{i k:Int}(hx:val m x=some (.string ⟨⟨a.l⟩⟩))(hu:P.underlying t=some .string)
 (hlo:bnd m 0 lo=some i) (hhi:bnd m a.l.length hi=some k) (hy:sslc a i k=some c):Reads P n B imm hs m (.slice t x lo hi none) (.string ⟨⟨c.l⟩⟩):=λoo ac w he f gd=>by
 unfold sslc slc at hy
 split at hy
 ·rename_i hb
  cases hy
  have hbd:(Instr.sliceBounds false a.l.length a.l.length (lo.map ac.eval) (hi.map ac.eval) none).run P w=.ok (i.toNat,k.toNat,a.l.length) w:=by
   have hh:∀{x:Operand}{j:Int}{y:Nat}{c:BoundsCode},(∃kd,val m x=some (.int kd j))->0<=j->j<=y->(Instr.sliceBound (ac.eval x) y c).run P w=.ok j.toNat w:=λ⟨kd,hx⟩ h4 h5=>by
    simp[Instr.sliceBound,f.eval hx,asIntOf,h4,h5]
   have ob:∀{x:Operand}{dflt j:Int},bnd m dflt (some x)=some j->∃kd,val m x=some (.int kd j):=λ{x dflt j} h=>by
    simp only[bnd] at h
    split at h
    ·rename_i kd k' hx;cases h;exact⟨kd,hx⟩
    ·cases h
   cases hi with
   | none=>
    simp only[bnd,Option.some.injEq] at hhi
    subst hhi
    cases lo with
    | none=>
     simp only[bnd,Option.some.injEq] at hlo
     subst hlo
     simp[Instr.sliceBounds]
    | some x=>simp[Instr.sliceBounds,hh (ob hlo) hb.1 hb.2.1]
   | some z=>
    cases lo with
    | none=>
     simp only[bnd,Option.some.injEq] at hlo
     subst hlo
     have e1:=hh (y:=a.l.length) (c:=.sliceAlen) (ob hhi) (by omega) (by omega)
     simp[Instr.sliceBounds,e1]
    | some x=>
     have e1:=hh (y:=a.l.length) (c:=.sliceAlen) (ob hhi) (by omega) (by omega)
     have e2:=hh (y:=k.toNat) (c:=.sliceB) (ob hlo) hb.1 (by omega)
     simp[Instr.sliceBounds,e1,e2]
  have a8:(⟨⟨a.l⟩⟩:ByteArray).size=a.l.length:=rfl
  simp only[execOp,he,f.eval hx,Option.map_none,Instr.sliceAt,Instr.slice,Sem.run_bind,zW hu,Result.andThen_ok,Option.isSome_none,bV,if_false,a8,hbd,Sem.run_pure,zAV]
 ·cases hy
end
end Go.LN
namespace Go.LN
def same{α:Type}(x:α):α:=x
def nav:Code->List Nat->Code
 | c,[]=>c
 | .seq a _,0::p=>nav a p
 | .seq _ b,_::p=>nav b p
 | .loop a,_::p=>nav a p
 | .block _ a,_::p=>nav a p
 | .cond _ a _,0::p=>nav a p
 | .cond _ _ b,_::p=>nav b p
 | .scope a,_::p=>nav a p
 | c,_::_=>c
def bodyOf(f:Func):Code:=f.body.getD .skip
inductive Out (S R:Type) where
 | done (s:S)
 | ret (r:R)
theorem zC{α β:Type}{x:Option α}{f:α->Option β}{r:β}(h:(x >>= f)=some r):∃y,x=some y/\f y=some r:=by
 cases x with
 | none=>cases h
 | some y=>exact⟨y,rfl,h⟩
theorem zD{α:Type}{x r:α}(h:(pure x:Option α)=some r):x=r:=by cases h;rfl
section
variable {P:Program}{n:Nat}{B:Base}{Q:Exit->Act->World->Prop}{imm:Imm}{hs:List HA}{m:FM}{aa:List Oper}{pc d:Nat}
theorem rZ{c:Code}(S:Imm->List HA->FM->Prop)(h:J P n B c (Exit.then (λa w=>∃ag af m',S ag af m'/\Fr n a m'/\Good B ag af w) Q) imm hs m)(k:∀ag af m',S ag af m'->T n B Q .normal ag af m'):J P n B c Q imm hs m:=
 λa w f g=>wp_mono (h a w f g) λe a' w' he=>by
  cases e with
  | normal=>obtain⟨ag,af,m',h1,h2,h3⟩:=he;exact k _ _ _ h1 a' w' h2 h3
  | _=>exact he
theorem zL{S:Imm->List HA->FM->Prop}(h:S imm hs m):T n B (Exit.then (λa w=>∃ag af m',S ag af m'/\Fr n a m'/\Good B ag af w) Q) .normal imm hs m:=λ_ _ f g=>⟨imm,hs,m,h,f,g⟩
theorem zAs{α:Type}{c:Bool}{X Y:Option α}{r:α}(hc:c=true)(h:(if c=true then X else Y)=some r):X=some r:=by rwa[if_pos hc] at h
theorem zAW{α:Type}{c:Bool}{X Y:Option α}{r:α}(hc:c=false)(h:(if c=true then X else Y)=some r):Y=some r:=by rwa[if_neg (by rw[hc];decide)] at h
def quo(x y:Int):Option Int:=if y=0 then none else some (IntKind.i64.wrap (x.tdiv y))
def rem(x y:Int):Option Int:=if y=0 then none else some (x.tmod y)
theorem zEl{t t2:TypeId}{x y:Operand}{a b c:Int}(hx:val m x=some (.int .i64 a))(hy:val m y=some (.int .i64 b))(h:quo a b=some c):Reads P n B imm hs m (.binOp .quo t x y t2) (.int .i64 c):=λoo ac w he f gd=>
 kG f (by
  unfold quo at h
  split at h
  ·cases h
  ·rename_i h0
   cases h
   simp[he,pure1,hx,hy,ibin,h0])
theorem zDX{t t2:TypeId}{x y:Operand}{a b c:Int}(hx:val m x=some (.int .i64 a))(hy:val m y=some (.int .i64 b))(h:rem a b=some c):Reads P n B imm hs m (.binOp .rem t x y t2) (.int .i64 c):=λoo ac w he f gd=>
 kG f (by
  unfold rem at h
  split at h
  ·cases h
  ·rename_i h0
   cases h
   simp[he,pure1,hx,hy,ibin,h0])
section
variable {ty:TypeId}{pos:String}{after:Array Edge}{g:Option (Nat×Bool)}
theorem zDY{α:Type}[Rp α]{t:TypeId}{x xi:Operand}{v:Value}{k:IntKind}{i:Int}{l:List α}{y:α}
 (ho:aa[pc]?=some ⟨some d,.indexAddr t x xi,ty,pos,after,g⟩) (hg:guardB aa m g=some true) (hn:Nat.blt d n=true) (hx:val m x=some v) (hi:val m xi=some (.int k i)) (ht:elemT P t=some (Rp.sz α))
 (af:SL imm v l) (hy:idx l i=some y) (next:∀ad az,At imm ad az->Rp.rep imm az y->Rq P n B aa Q (pc+1) imm hs ((d,.pointer (some ad))::m)):Rq P n B aa Q pc imm hs m:=by
 obtain⟨ad,az,au,al,hrd⟩:=zDW (P:=P) (n:=n) (B:=B) (hs:=hs) hx hi ht af hy
 exact oN ho hg rfl hn hrd (next ad az au al)
theorem zCD{t:TypeId}{x:Operand}{ad:Addr}{cs cs':List Value}{v:Value}(o:Nat)
 (ho:aa[pc]?=some ⟨some d,.load t x,ty,pos,after,g⟩) (hg:guardB aa m g=some true) (hn:Nat.blt d n=true) (au:At imm ad cs) (hx:val m x=some (.pointer (some (ad.add o))))
 (bc:Nat.ble o cs.length=true) (hc:(cs.drop o).take cs'.length=cs') (hv:loadV P t cs'=some v) (next:Rq P n B aa Q (pc+1) imm hs ((d,v)::m)):Rq P n B aa Q pc imm hs m:=
 oN ho hg rfl hn (zCC o au hx bc hc hv) next
theorem zB0{t:TypeId}{x:Operand}{b o:Nat}{c:Array Value}{cs:List Value}{v:Value}(j:Nat)
 (ho:aa[pc]?=some ⟨some d,.load t x,ty,pos,after,g⟩) (hg:guardB aa m g=some true) (hn:Nat.blt d n=true) (hj:hs[j]?=some (.blk b c)) (hx:val m x=some (.pointer (some ⟨b,o,none⟩)))
 (bc:Nat.ble (o+cs.length) c.size=true) (hc:(c.toList.drop o).take cs.length=cs) (hv:loadV P t cs=some v) (next:Rq P n B aa Q (pc+1) imm hs ((d,v)::m)):Rq P n B aa Q pc imm hs m:=
 oN ho hg rfl hn (zBZ j hj hx bc hc hv) next
theorem zFJ{t t2:TypeId}{x y:Operand}{a b c:Str}(ho:aa[pc]?=some ⟨some d,.binOp .add t x y t2,ty,pos,after,g⟩)(hg:guardB aa m g=some true)(hn:Nat.blt d n=true)
 (hx:val m x=some (.string ⟨⟨a.l⟩⟩)) (hy:val m y=some (.string ⟨⟨b.l⟩⟩)) (h:cat a b=some c) (next:R P n B aa Q (pc+1) imm hs ((d,.string ⟨⟨c.l⟩⟩)::m)):R P n B aa Q pc imm hs m:=eW ho hg rfl hn (zEk hx hy h) next
theorem zDZ{t:TypeId}{x y:Operand}{a:Str}{k:IntKind}{i:Int}{c:UInt8}(ho:aa[pc]?=some ⟨some d,.index t x y,ty,pos,after,g⟩)(hg:guardB aa m g=some true)(hn:Nat.blt d n=true)
 (hx:val m x=some (.string ⟨⟨a.l⟩⟩)) (hy:val m y=some (.int k i)) (hu:P.underlying t=some .string) (h:sidx a i=some c) (next:R P n B aa Q (pc+1) imm hs ((d,.int .u8 (c.toNat:Int))::m)):R P n B aa Q pc imm hs m:=eW ho hg rfl hn (zCp hx hy hu h) next
theorem zD0{t:TypeId}{x:Operand}{lo hi:Option Operand}{a c:Str}{i k:Int}(ho:aa[pc]?=some ⟨some d,.slice t x lo hi none,ty,pos,after,g⟩)(hg:guardB aa m g=some true)(hn:Nat.blt d n=true)
 (hx:val m x=some (.string ⟨⟨a.l⟩⟩)) (hu:P.underlying t=some .string) (hlo:bnd m 0 lo=some i) (hhi:bnd m a.l.length hi=some k) (hy:sslc a i k=some c) (next:R P n B aa Q (pc+1) imm hs ((d,.string ⟨⟨c.l⟩⟩)::m)):R P n B aa Q pc imm hs m:=eW ho hg rfl hn (zCq hx hu hlo hhi hy) next
theorem zEm{t t2:TypeId}{x y:Operand}{a b c:Int}(ho:aa[pc]?=some ⟨some d,.binOp .quo t x y t2,ty,pos,after,g⟩)(hg:guardB aa m g=some true)(hn:Nat.blt d n=true)
 (hx:val m x=some (.int .i64 a)) (hy:val m y=some (.int .i64 b)) (h:quo a b=some c) (next:Rq P n B aa Q (pc+1) imm hs ((d,.int .i64 c)::m)):Rq P n B aa Q pc imm hs m:=oN ho hg rfl hn (zEl hx hy h) next
theorem zFK{t t2:TypeId}{x y:Operand}{a b c:Int}(ho:aa[pc]?=some ⟨some d,.binOp .rem t x y t2,ty,pos,after,g⟩)(hg:guardB aa m g=some true)(hn:Nat.blt d n=true)
 (hx:val m x=some (.int .i64 a)) (hy:val m y=some (.int .i64 b)) (h:rem a b=some c) (next:R P n B aa Q (pc+1) imm hs ((d,.int .i64 c)::m)):R P n B aa Q pc imm hs m:=eW ho hg rfl hn (zDX hx hy h) next
theorem zEn{t t2:TypeId}{x y:Operand}{a b c:Int}(ho:aa[pc]?=some ⟨some d,.binOp .rem t x y t2,ty,pos,after,g⟩)(hg:guardB aa m g=some true)(hn:Nat.blt d n=true)
 (hx:val m x=some (.int .i64 a)) (hy:val m y=some (.int .i64 b)) (h:rem a b=some c) (next:Rq P n B aa Q (pc+1) imm hs ((d,.int .i64 c)::m)):Rq P n B aa Q pc imm hs m:=oN ho hg rfl hn (zDX hx hy h) next
end
def app{α:Type}(bytes:Nat)(l l2:List α):Option (List α):=if(l.length+l2.length)*bytes<=140737488355328 then some (l++l2) else none
theorem mK{α:Type}{bytes:Nat}{l l2 y:List α}(h:app bytes l l2=some y):(l.length+l2.length)*bytes<=140737488355328/\l++l2=y:=by
 unfold app at h;split at h
 ·cases h;exact⟨by assumption,rfl⟩
 ·cases h
def RS(P:Program)(fn:Func)(B:Base)(post:Nat->Imm->List HA->Value->Prop)(imm:Imm)(hs:List HA)(m:FM):Prop:=
 ∃vs hs0,ResV P m hs fn.results.toList vs/\(∀w,Good B imm hs w->Good B imm hs0 w)/\post B.w0.heap.size imm hs0 (tupV vs)
theorem wJ{fn:Func}{post:Nat->Imm->List HA->Value->Prop}(h:RS P fn B post imm hs m):T n B (QB P fn B post) .ret imm hs m:=by
 obtain⟨vs,hs0,h1,h2,h3⟩:=h;exact λ_ w f g=>⟨f.defers,_,eB f g h1,imm,hs0,h3,h2 w g⟩
def pick(hs:List HA):List Nat->Option (List HA)
 | []=>some []
 | i::is=>match hs[i]?,pick hs is with|some A,some r=>some (A::r)|_,_=>none
theorem dP:∀{hs:List HA},(hs.flatMap HA.fp).Nodup->(∀A∈hs,A.fp.Nodup)/\∀{i j:Nat}{A A':HA},hs[i]?=some A->hs[j]?=some A'->i ≠ j->∀b∈A.fp,b ∉ A'.fp
 | [],_=>⟨by simp,by simp⟩
 | A0::hs,h=>by
  rw[cd] at h
  obtain⟨h1,h2,h3⟩:=cq.1 h
  obtain⟨k1,k2⟩:=dP h2
  refine⟨λA hA=>?_,λ{i j A A'} hi hj hne b hb hb'=>?_⟩
  ·rcases cr.1 hA with rfl|hA
   ·exact h1
   ·exact k1 A hA
  ·cases i with
   | zero=>
    cases j with
    | zero=>exact hne rfl
    | succ j=>
     simp at hi hj
     subst hi
     exact h3 b hb b (cu.2 ⟨A',cy hj,hb'⟩) rfl
   | succ i=>
    cases j with
    | zero=>
     simp at hi hj
     subst hj
     exact h3 b hb' b (cu.2 ⟨A,cy hi,hb⟩) rfl
    | succ j=>exact k2 (by simpa using hi) (by simpa using hj) (λe=>hne (by rw[e])) b hb hb'
theorem jS{hs:List HA}:∀{is:List Nat}{r:List HA},pick hs is=some r->∀A∈r,∃i∈is,hs[i]?=some A
 | [],r,h,A,hA=>by simp only[pick] at h;cases h;cases hA
 | i::is,r,h,A,hA=>by
  simp only[pick] at h
  split at h
  ·rename_i A0 r' h1 h2
   cases h
   rcases cr.1 hA with rfl|hA
   ·exact⟨i,bZ ..,h1⟩
   ·obtain⟨k,h3,h4⟩:=jS h2 A hA
    exact⟨k,bY _ h3,h4⟩
  ·cases h
theorem jC{hs:List HA}(g:(hs.flatMap HA.fp).Nodup):∀{is:List Nat}{r:List HA},pick hs is=some r->is.Nodup->(r.flatMap HA.fp).Nodup
 | [],r,h,_=>by simp only[pick] at h;cases h;simp
 | i::is,r,h,hn=>by
  simp only[pick] at h
  split at h
  ·rename_i A0 r' h1 h2
   cases h
   obtain⟨n1,n2⟩:=List.nodup_cons.1 hn
   rw[cd]
   refine cq.2 ⟨(dP g).1 _ (cy h1),jC g h2 n2,λb hb b' hb' e=>?_⟩
   subst e
   obtain⟨A,hA,hbA⟩:=cu.1 hb'
   obtain⟨k,h3,h4⟩:=jS h2 A hA
   exact(dP g).2 h1 h4 (λe=>n1 (e ▸ h3)) b hb hbA
  ·cases h
theorem yS(is:List Nat){af:List HA}(h:pick hs is=some af)(hn:is.Nodup):∀w,Good B imm hs w->Good B imm af w:=λ_ g=>
 g.sub (λA hA=>by obtain⟨i,_,h1⟩:=jS h A hA;exact cy h1) (jC g.nodup h hn)
theorem zN:∀w,Good B imm hs w->Good B imm [] w:=λ_ h=>h.sub (λ_ h=>by cases h) (by simp)
end
end Go.LN
namespace Go.LN
abbrev Fact:=Imm->Value->List HA->Prop
def nofact:Fact:=λ_ _ _=>False
def dst0(aa:List Oper)(i:Nat):Option Nat:=match aa[i]? with|some o=>o.dst|none=>none
def allocAt(aa:List Oper)(x:Nat):Bool:=aa.any λq=>match q.dst,q.op with|some d,.alloc _=>Nat.beq d x|_,_=>false
def dstAt(aa:List Oper)(i:Nat):Option Nat:=match aa[i]? with
 | some o=>match o.dst with
  | some d=>some d
  | none=>match o.op with
   | .store _ (.tmp x) _=>bif allocAt aa x then some x else none
   | _=>none
 | none=>none
theorem zCE{aa:List Oper}{i d:Nat}(h:dst0 aa i=some d):dstAt aa i=some d:=by
 unfold dst0 at h;unfold dstAt;cases ho:aa[i]? with
 | none=>rw[ho] at h;cases h
 | some o=>
  rw[ho] at h;simp only at h;simp only[h]
def Ins(aa:List Oper)(φ:List Fact)(imm:Imm):List (Nat×Bool)->FM->List HA->(FM->List HA->Prop)->Prop
 | [],m,hs,K=>K m hs
 | (j,c)::r,m,hs,K=>∀v hx,(φ.getD j nofact) imm v hx->Ins aa φ imm r (match dstAt aa j with|some d=>(d,v)::m|none=>m) (match c with|true=>hx++hs|false=>hs) K
def addM(aa:List Oper)(val:Nat->Value):List (Nat×Bool)->FM->FM
 | [],m=>m
 | (j,_)::r,m=>addM aa val r (match dstAt aa j with|some d=>(d,val j)::m|none=>m)
def addH(hx:Nat->List HA):List (Nat×Bool)->List HA->List HA
 | [],hs=>hs
 | (j,c)::r,hs=>addH hx r (match c with|true=>hx j++hs|false=>hs)
theorem Ins.use{aa:List Oper}{φ:List Fact}{imm:Imm}{val:Nat->Value}{hx:Nat->List HA}{K:FM->List HA->Prop}:∀(r:List (Nat×Bool)) {m:FM}{hs:List HA},(∀p∈r,(φ.getD p.1 nofact) imm (val p.1) (hx p.1))->Ins aa φ imm r m hs K->K (addM aa val r m) (addH hx r hs)
 | [],_,_,_,h=>h
 | (j,c)::r,_,_,hp,h=>Ins.use r (λp hp'=>hp p (bY _ hp')) (h _ _ (hp _ (bZ ..)))
def OutQ(n:Nat)(B:Base)(φi:Fact)(d:Option Nat)(imm:Imm)(hs0:List HA):Exit->Act->World->Prop:=λe a w=>
 e=.normal/\a.defers=[]/\∃ag v hx,imm.le ag/\φi ag v hx/\Good B ag (hx++hs0) w/\∀d',d=some d'->a.tmps[d']?=some v
def Bor(aa:List Oper)(φ:List Fact)(imm:Imm)(ins:List (Nat×Bool))(hf:List HA):Prop:=
 ∀p∈ins,p.2=false->aa.length<=p.1->∃v hx hf',(φ.getD p.1 nofact) imm v hx/\hf.Perm (hx++hf')
def Obl(P:Program)(n:Nat)(B:Base)(aa:List Oper)(φ:List Fact)(imm:Imm)(hsC:List HA)(m:FM)(i:Nat)(ins:List (Nat×Bool)):Prop:=
 ∀imm1 hf,imm.le imm1->Bor aa φ imm1 ins hf->Ins aa φ imm1 ins m (hsC++hf) λm' af=>R P n B (aa.take (i+1)) (OutQ n B (φ.getD i nofact) (dstAt aa i) imm1 (hsC++hf)) i imm1 af m'
def Obls(P:Program)(n:Nat)(B:Base)(aa:List Oper)(φ:List Fact)(imm:Imm)(hsC:List HA)(m:FM):Nat->List (List (Nat×Bool))->Prop
 | _,[]=>True
 | i,x::xs=>Obl P n B aa φ imm hsC m i x/\Obls P n B aa φ imm hsC m (i+1) xs
theorem Obls.at{P:Program}{n:Nat}{B:Base}{aa:List Oper}{φ:List Fact}{imm:Imm}{hsC:List HA}{m:FM}:∀{k:Nat}{l:List (List (Nat×Bool))},Obls P n B aa φ imm hsC m k l->∀{i:Nat}{x:List (Nat×Bool)},l[i]?=some x->Obl P n B aa φ imm hsC m (k+i) x
 | _,[],_,i,x,h=>by simp at h
 | k,y::l,h,0,x,hx=>by simp at hx;subst hx;exact h.1
 | k,y::l,h,i+1,x,hx=>by
  have:=Obls.at h.2 (i:=i) (by simpa using hx)
  rwa[show k+(i+1)=k+1+i from by omega]
def BaseG(φ:List Fact)(imm:Imm):Nat->List (List HA)->Prop
 | _,[]=>True
 | k,g::gs=>(φ.getD k nofact) imm undef g/\BaseG φ imm (k+1) gs
theorem BaseG.at{φ:List Fact}{imm:Imm}:∀{k:Nat}{gs:List (List HA)},BaseG φ imm k gs->∀{i:Nat}{g:List HA},gs[i]?=some g->(φ.getD (k+i) nofact) imm undef g
 | _,[],_,i,g,h=>by simp at h
 | k,x::gs,h,0,g,hg=>by simp at hg;subst hg;exact h.1
 | k,x::gs,h,i+1,g,hg=>by
  have:=BaseG.at h.2 (i:=i) (by simpa using hg)
  rwa[show k+(i+1)=k+1+i from by omega]
def MonoF(φ:List Fact):Prop:=∀j imm ag v hx,imm.le ag->(φ.getD j nofact) imm v hx->(φ.getD j nofact) ag v hx
def Mono1(f:Fact):Prop:=∀imm ag v hx,imm.le ag->f imm v hx->f ag v hx
def MonoL:List Fact->Prop
 | []=>True
 | f::fs=>Mono1 f/\MonoL fs
theorem MonoL.mono:∀{φ:List Fact},MonoL φ->MonoF φ
 | [],_,j,_,_,_,_,_,h=>by simp[nofact] at h
 | f::fs,h,0,i,i',v,hx,hl,h0=>h.1 i i' v hx hl h0
 | f::fs,h,j+1,i,i',v,hx,hl,h0=>MonoL.mono h.2 j i i' v hx hl h0
def bound(o:Oper):List Nat:=(o.after.toList.filter λe=>Region.binds .any e).map (·.on)
def chkEdges(aa:List Oper)(s:Nat):Bool:=
 (List.range aa.length).all λi=>match aa[i]? with
  | some o=>(bound o).all (λe=>Nat.blt e i)&&(match o.guard with|some (g,_)=>Nat.blt g i|none=>true)&&(Nat.blt i s||(Nat.beq i s&&(List.range i).all (λe=>(bound o).contains e))||(Nat.blt s i&&(bound o).contains (i - 1)))
  | none=>true
def chkIns(aa:List Oper)(s nb:Nat)(ins:List (List (Nat×Bool))):Bool:=
 (List.range s).all λi=>match ins[i]?,aa[i]? with
  | some l,some o=>l.all (λp=>(Nat.ble aa.length p.1&&Nat.blt p.1 (aa.length+nb))||(Nat.blt p.1 s&&(bound o).contains p.1))&&((l.filter (·.2)).map (·.1)).Pairwise (· ≠ ·)
  | _,_=>false
def chkOnce(s:Nat)(ins:List (List (Nat×Bool))):Bool:=
 (List.range s).all λi=>(List.range s).all λi'=>Nat.beq i i'||(ins.getD i []).all (λp=>!p.2 || !((ins.getD i' []).contains (p.1,true)))
def chkTmp(aa:List Oper)(n s:Nat)(keys:List Nat):Bool:=
 (List.range s).all λi=>match dst0 aa i with
  | some d=>Nat.blt d n && !(keys.contains d)&&(List.range s).all (λj=>Nat.beq j i||match dst0 aa j with|some d'=>!(Nat.beq d' d)|none=>true)
  | none=>true
def chkPse(aa:List Oper)(s:Nat):Bool:=
 (List.range s).all λj=>match aa[j]?,dst0 aa j,dstAt aa j with
  | some o,none,some d=>(List.range s).all λi=>match dst0 aa i with|some d'=>!(Nat.beq d' d)||(bound o).contains i|none=>true
  | _,_,_=>true
def chkBor(aa:List Oper)(s:Nat)(ins:List (List (Nat×Bool))):Bool:=
 (List.range s).all λi=>(ins.getD i []).all λp=>p.2||Nat.blt p.1 aa.length||(List.range s).all λi'=>!((ins.getD i' []).contains (p.1,true))||(match aa[i']? with|some o=>(bound o).contains i|none=>false)
def anyChk(aa:List Oper)(n s nb:Nat)(ins:List (List (Nat×Bool)))(keys:List Nat):Bool:=
 Nat.beq ins.length s&&Nat.ble s aa.length&&chkEdges aa s&&chkIns aa s nb ins&&chkOnce s ins&&chkTmp aa n s keys&&chkBor aa s ins&&chkPse aa s
structure AnyOk(aa:List Oper)(n s nb:Nat)(ins:List (List (Nat×Bool)))(keys:List Nat):Prop where
 len:ins.length=s
 le:s<=aa.length
 edge:∀{i:Nat}{o:Oper},aa[i]?=some o->∀e∈bound o,e<i
 guard:∀{i:Nat}{o:Oper}{g:Nat}{b:Bool},aa[i]?=some o->o.guard=some (g,b)->g<i
 order:∀{i:Nat}{o:Oper},aa[i]?=some o->s<=i->(i=s/\∀e,e<i->e∈bound o)∨(s<i/\i - 1∈bound o)
 there:∀{i:Nat}{l:List (Nat×Bool)}{o:Oper},ins[i]?=some l->aa[i]?=some o->∀p∈l,(aa.length<=p.1/\p.1<aa.length+nb)∨(p.1<s/\p.1∈bound o)
 apart:∀{i:Nat}{l:List (Nat×Bool)},i<s->ins[i]?=some l->((l.filter (·.2)).map (·.1)).Pairwise (· ≠ ·)
 once:∀{i i':Nat}{l l':List (Nat×Bool)},i<s->i'<s->i ≠ i'->ins[i]?=some l->ins[i']?=some l'->∀j,(j,true)∈l->(j,true) ∉ l'
 tmp:∀{i d:Nat},i<s->dst0 aa i=some d->d<n/\d ∉ keys
 own:∀{i j d:Nat},i<s->j<s->j ≠ i->dst0 aa i=some d->dst0 aa j ≠ some d
 bor:∀{i i' b:Nat}{l l':List (Nat×Bool)}{o:Oper},i<s->i'<s->ins[i]?=some l->(b,false)∈l->aa.length<=b->ins[i']?=some l'->aa[i']?=some o->(b,true)∈l'->i∈bound o
 pse:∀{i j d:Nat}{o:Oper},i<s->j<s->aa[j]?=some o->dst0 aa j=none->dstAt aa j=some d->dst0 aa i=some d->i∈bound o
theorem AnyOk.mk'{aa:List Oper}{n s nb:Nat}{ins:List (List (Nat×Bool))}{keys:List Nat}(h:anyChk aa n s nb ins keys=true):AnyOk aa n s nb ins keys:=by
 unfold anyChk at h;simp only[bX] at h;obtain⟨⟨⟨⟨⟨⟨⟨h1,h2⟩,h3⟩,h4⟩,h5⟩,h6⟩,h7⟩,h8⟩:=h;have ar:=cz h1;have aP:=cp h2;have lt_of:∀{i:Nat}{o:Oper},aa[i]?=some o->i<aa.length:=λe=>(cf.1 e).1;have e3:∀{i:Nat}{o:Oper},aa[i]?=some o->(bound o).all (λe=>Nat.blt e i)=true/\(match o.guard with|some (g,_)=>Nat.blt g i|none=>true)=true/\(Nat.blt i s||(Nat.beq i s&&(List.range i).all (λe=>(bound o).contains e))||(Nat.blt s i&&(bound o).contains (i - 1)))=true:=λ{i o} e=>by
  have:=cb.1 h3 i (cA.2 (lt_of e));simp only[e,bX] at this;exact⟨this.1.1,this.1.2,this.2⟩
 have e4:∀{i:Nat}{o:Oper}{l},i<s->ins[i]?=some l->aa[i]?=some o->_:=λ{i o l} hi hl ho=>by
  have:=cb.1 h4 i (cA.2 hi);simp only[hl,ho] at this;exact this
 refine⟨ar,aP,λe x hx=>?_,λe hg=>?_,λ{i o} e hs=>?_,λ{i l o} hl ho p hp=>?_,λ{i l} hi hl=>?_,λ{i i' l l'} hi hi' hne hl hl' j hj=>?_,λ{i d} hi hd=>?_,λ{i j d} hi hj hne hd hd'=>?_,λ{i i' b l l' o} hi hi' hl hb hN hl' ho hb'=>?_,λ{i j d o} hi hj ho h0 hd hd'=>?_⟩
 ·simpa using cb.1 (e3 e).1 x hx
 ·have:=(e3 e).2.1;rw[hg] at this;simpa using this
 ·have:=(e3 e).2.2;rw[df,df,bX,bX] at this;rcases this with(h|⟨h0,h⟩)|⟨h0,h⟩
  ·exact absurd (by simpa using h) (Nat.not_lt.2 hs)
  ·exact .inl ⟨cz h0,λx hx=>by simpa using cb.1 h x (cA.2 hx)⟩
  ·exact .inr ⟨by simpa using h0,by simpa using h⟩
 ·have hi:i<s:=by rw[<- ar];exact(cf.1 hl).1
  have:=e4 hi hl ho;rw[bX] at this;have:=cb.1 this.1 p hp;simpa using this
 ·obtain⟨o,ho⟩:∃o,aa[i]?=some o:=⟨_,bW (by omega)⟩;have:=e4 hi hl ho;rw[bX] at this;exact of_decide_eq_true this.2
 ·have:=cb.1 (cb.1 h5 i (cA.2 hi)) i' (cA.2 hi');rw[df] at this;rcases this with h|h
  ·exact absurd (cz h) hne
  ·have:=cb.1 h (j,true) (by simpa [List.getD,hl] using hj);simpa [List.getD,hl'] using this
 ·have:=cb.1 h6 i (cA.2 hi);simp only[hd,bX] at this;exact⟨by simpa using this.1.1,by simpa using this.1.2⟩
 ·have:=cb.1 h6 i (cA.2 hi);simp only[hd,bX] at this;have:=cb.1 this.2 j (cA.2 hj);simp[hd',hne] at this
 ·have:=cb.1 h7 i (cA.2 hi);have:=cb.1 this (b,false) (by simpa [List.getD,hl] using hb);simp only[ek,df] at this;rcases this with h|h
  ·have h:b<aa.length:=by simpa using h
   omega
  ·have:=cb.1 h i' (cA.2 hi');have hg:(ins.getD i' []).contains (b,true)=true:=by simpa [List.getD,hl'] using hb'
   rw[hg,ho] at this;simpa using this
 ·have:=cb.1 h8 j (cA.2 hj);simp only[ho,h0,hd] at this;have:=cb.1 this i (cA.2 hi);simp only[hd'] at this;simpa using this
theorem rC{aa:List Oper}{listed:Array Bool}{i:Nat}:i∈Region.ready .any aa.toArray listed↔i<aa.length/\listed.getD i true=false/\∃o,aa[i]?=some o/\∀e∈bound o,listed.getD e false=true:=by
 unfold Region.ready;simp only[dl,cA,List.size_toArray,bX,Bool.not_eq_true'];constructor
 ·rintro⟨h1,h2,h3⟩;refine⟨h1,h2,aa[i],bW h1,λe he=>?_⟩;have h4:aa.toArray[i]?=some aa[i]:=by simp[h1]
  rw[h4] at h3;simp only[Option.map_some,Option.getD_some] at h3;unfold bound at he;obtain⟨x,hx,rfl⟩:=ds.1 he;obtain⟨hx1,hx2⟩:=dl.1 hx;have:=Array.all_eq_true_iff_forall_mem.1 h3 x (by simpa using hx1);simpa [hx2] using this
 ·rintro⟨h1,h2,o,ho,h3⟩;refine⟨h1,h2,?_⟩;have h4:aa.toArray[i]?=some o:=by simpa using ho
  rw[h4];simp only[Option.map_some,Option.getD_some];rw[Array.all_eq_true_iff_forall_mem];intro x hx;cases hb:Region.binds .any x with
  | false=>rfl
  | true=>
   simp only[cP,ek];exact h3 _ (ds.2 ⟨x,dl.2 ⟨by simpa using hx,hb⟩,rfl⟩)
theorem pH{listed:Array Bool}{i j:Nat}{d:Bool}(h:i<listed.size):(listed.setIfInBounds i true).getD j d=if j=i then true else listed.getD j d:=by
 simp only[cB];by_cases e:j=i
 ·subst e;simp[h]
 ·rw[cZ (Ne.symm e)];simp[e]
def unl(N:Nat)(listed:Array Bool):Nat:=(List.range N).countP λj=>!listed.getD j true
theorem zB1{l:List Nat}{p q:Nat->Bool}{i:Nat}(hi:i∈l)(hp:p i=true)(hq:q i=false)(h:∀j,q j=true->p j=true):l.countP q<l.countP p:=by
 induction l with
 | nil=>cases hi
 | cons x l ih=>
  have aP:l.countP q<=l.countP p:=List.countP_mono_left λj _ hj=>h j hj;simp only[List.countP_cons];rcases cr.1 hi with rfl|hi
  ·simp[hp,hq];omega
  ·have:=ih hi;cases hx:q x with
   | true=>simp[h x hx];omega
   | false=>cases p x <;> simp <;> omega
theorem zES{N i:Nat}{listed:Array Bool}(hs:listed.size=N)(hi:i<N)(hl:listed.getD i true=false):unl N (listed.setIfInBounds i true)<unl N listed:=by
 unfold unl;refine zB1 (i:=i) (cA.2 hi) (by simp[hl]) (by rw[pH (by omega)];simp) λj hj=>?_;rw[pH (by omega)] at hj;split at hj
 ·simp at hj
 ·exact hj
section
variable {P:Program}{n:Nat}{B:Base}{Q:Exit->Act->World->Prop}{imm:Imm}{hs:List HA}{m:FM}{aa:List Oper}
theorem zAt{s nb:Nat}{ins:List (List (Nat×Bool))}{keys:List Nat}(hc:AnyOk aa n s nb ins keys):∀(fuel k:Nat) (listed:Array Bool) (a:Act) (w:World),s<=k->k<=aa.length->aa.length - k<=fuel->listed.size=aa.length->(∀j d,j<aa.length->listed.getD j d=decide (j<k)) ->
 wpL P aa.toArray Q (aa.drop k) a w->wpAny P .any aa.toArray Q fuel listed a w:=by
 intro fuel
 induction fuel with
 | zero=>
  intro k listed a w h1 h2 h3 a8 hl h
  have hk:k=aa.length:=by omega
  subst hk
  rw[List.drop_length] at h
  refine⟨?_,h⟩
  rw[List.eq_nil_iff_forall_not_mem]
  intro i hi
  obtain⟨h4,h5,_⟩:=rC.1 hi
  rw[hl _ _ h4] at h5
  simp[h4] at h5
 | succ fuel ih=>
  intro k listed a w h1 h2 h3 a8 hl h
  have hrd:∀i,i∈Region.ready .any aa.toArray listed->i=k:=λi hi=>by
   obtain⟨h4,h5,o,ho,h6⟩:=rC.1 hi
   rw[hl _ _ h4] at h5
   have h5:¬i<k:=by simpa using h5
   rcases cY k i with h7|h7
   ·rcases hc.order ho (by omega) with⟨h8,h9⟩|⟨h8,h9⟩
    ·omega
    ·have:=h6 _ h9
     rw[hl _ _ (by omega)] at this
     simp at this
     omega
   ·omega
  refine⟨λh0=>?_,λi hi=>?_⟩
  ·rcases cY k aa.length with hk|hk
   ·have:k∈Region.ready .any aa.toArray listed:=rC.2 ⟨hk,by rw[hl _ _ hk];simp,aa[k],bW hk,λe he=>by
     have:=hc.edge (bW hk) e he
     rw[hl _ _ (by omega)];simp[this]⟩
    rw[h0] at this;cases this
   ·have hk:k=aa.length:=by omega
    subst hk
    rw[List.drop_length] at h
    exact h
  ·have:=hrd i hi
   subst this
   have hk:=(rC.1 hi).1
   have ho:aa[i]?=some aa[i]:=bW hk
   rw[pX ho] at h
   simp only[wpL] at h
   have next:∀a w,wpL P aa.toArray Q (aa.drop (i+1)) a w->wpAny P .any aa.toArray Q fuel (listed.setIfInBounds i true) a w:=λa w h=>
    ih (i+1) _ a w (by omega) (by omega) (by omega) (by simpa using a8) (λj d hj=>by
     rw[pH (by omega),hl _ _ hj]
     by_cases e:j=i
     ·subst e;simp
     ·have:decide (j<i+1)=decide (j<i):=by simp;omega
      rw[this];simp[e]) h
   unfold wpOp
   have h4:aa.toArray[i]?=some aa[i]:=by simp[hk]
   rw[h4]
   split
   ·rename_i he;cases he
   ·rename_i o he
    injection he with he
    subst he
    split
    ·rename_i hw;rw[if_pos hw] at h;exact .inl (Oper.wp_mono next h)
    ·rename_i hw;rw[if_neg hw] at h;exact next _ _ h
theorem zEo{o:Oper}{a:Act}{w:World}{K K':Act->World->Prop}{Q':Exit->Act->World->Prop}(hQ:∀e a w,Q' e a w->e=.normal)
 (hh:o.wp P a w K Q') (bd:∀v w',K (a.put o.dst v) w'->K' (a.put o.dst v) w') (hdef:∀d w',¬K ({ a with defers:=d::a.defers }.put o.dst undef) w'):o.wp P a w K' Q:=by
 unfold Oper.wp at *
 generalize (execOp a.eval o).run P w=r at *
 cases r with
 | ok x w' =>
  cases x <;> simp only[Oper.upon] at hh ⊢
  case value=>exact bd _ _ hh
  case skip=>exact bd _ _ hh
  case defer=>exact absurd hh (hdef _ _)
  case enter=>
   refine Calls.mono hh λe w'' he=>?_
   cases e with
   | returned v=>exact bd _ _ he
   | panicked c=>cases hQ _ _ _ he
   | outgrown=>
    obtain⟨a1,w1,he⟩:=he
    cases hQ _ _ _ he
  case row=>exact Rows.mono hh λ_ _ he=>bd _ _ he
 | halt x w' =>
  cases x <;> simp only[Oper.upon] at hh ⊢
  case panic=>cases hQ _ _ _ hh
structure AnyInv(n:Nat)(B:Base)(aa:List Oper)(s nb:Nat)(ins:List (List (Nat×Bool)))(φ:List Fact)(imm:Imm)(hsC:List HA)(m:FM)(listed:Array Bool)(a:Act)(w:World)
 (ag:Imm) (val:Nat->Value) (hx:Nat->List HA) (live:List Nat):Prop where
 le:imm.le ag
 good:Good B ag (hsC++live.flatMap hx) w
 defers:a.defers=[]
 size:a.tmps.size=n
 base:∀k v,look m k=some v->a.tmps[k]?=some v
 lsz:listed.size=aa.length
 lst:∀j,listed.getD j false=true->j<s
 fact:∀j,(listed.getD j false=true∨(aa.length<=j/\j<aa.length+nb))->(φ.getD j nofact) ag (val j) (hx j)
 slot:∀j d,listed.getD j false=true->dstAt aa j=some d->a.tmps[d]?=some (val j)
 live:∀j,(listed.getD j false=true∨(aa.length<=j/\j<aa.length+nb))->(∀i l,listed.getD i false=true->ins[i]?=some l->(j,true) ∉ l)->j∈live
 closed:∀i o,listed.getD i false=true->aa[i]?=some o->∀e∈bound o,listed.getD e false=true
theorem fA{val:Nat->Value}{a:Act}{tm:Nat->Option Value}:∀(r:List (Nat×Bool)) {m:FM},(∀p∈r,∀d,dstAt aa p.1=some d->a.tmps[d]?=some (val p.1))->(∀k v,look m k=some v->a.tmps[k]?=some v)->∀k v,look (addM aa val r m) k=some v->a.tmps[k]?=some v
 | [],_,_,h2=>h2
 | (j,c)::r,m,h1,h2=>by
  refine fA (tm:=tm) r (λp hp=>h1 p (bY _ hp)) (λk v hk=>?_)
  split at hk
  ·rename_i d hd
   by_cases e:d=k
   ·subst e;rw[tV] at hk;cases hk;exact h1 _ (bZ ..) _ hd
   ·rw[uL _ _ e] at hk;exact h2 _ _ hk
  ·exact h2 _ _ hk
theorem kH{hx:Nat->List HA}:∀(r:List (Nat×Bool)) (live:List Nat),(∀p∈r,p.2=true->p.1∈live)->((r.filter (·.2)).map (·.1)).Pairwise (· ≠ ·) ->
 ∃live':List Nat,(∀j∈live,(j,true) ∉ r->j∈live')/\∀X:List HA,(X++live.flatMap hx).Perm (addH hx r (X++live'.flatMap hx))
 | [],live,_,_=>⟨live,λ_ h _=>h,λ_=>.refl _⟩
 | (j,false)::r,live,h1,h2=>by
  obtain⟨l',h3,h4⟩:=kH (hx:=hx) r live (λp hp=>h1 p (bY _ hp)) (by simpa using h2)
  exact⟨l',λj' hj hn=>h3 j' hj (λh=>hn (bY _ h)),h4⟩
 | (j,true)::r,live,h1,h2=>by
  have h2':(∀x∈(r.filter (·.2)).map (·.1),j ≠ x)/\((r.filter (·.2)).map (·.1)).Pairwise (· ≠ ·):=by
   simpa only [List.filter_cons,if_true,cW,List.pairwise_cons] using h2
  have hj:=h1 _ (bZ ..) rfl
  obtain⟨l',h3,h4⟩:=kH (hx:=hx) r (live.erase j) (λp hp ht=>by
   refine(List.mem_erase_of_ne ?_).2 (h1 p (bY _ hp) ht)
   exact(h2'.1 _ (ds.2 ⟨p,dl.2 ⟨hp,ht⟩,rfl⟩)).symm) h2'.2
  refine⟨l',λj' hj' hn=>h3 j' ((List.mem_erase_of_ne ?_).2 hj') (λh=>hn (bY _ h)),λX=>.trans ?_ (.trans (h4 (hx j++X)) (.of_eq ?_))⟩
  ·intro e;subst e;exact hn (bZ ..)
  ·have hp:(live.flatMap hx).Perm (hx j++(live.erase j).flatMap hx):=by
    have:=(List.perm_cons_erase hj).flatMap_right hx
    simpa [cd] using this
   refine(List.Perm.append_left X hp).trans ?_
   rw[<- cE]
   exact List.Perm.append_right _ cV
  ·simp only[addH,cE]
theorem kY{aa:List Oper}{i:Nat}{o:Oper}(ho:aa[i]?=some o):(aa.take (i+1)).drop i=[o]:=by
 have av:=(cf.1 ho).1;rw[dq,pX ho];simp
theorem zB2{aa:List Oper}{i:Nat}{o:Oper}{t:Array Value}(hg:∀g b,o.guard=some (g,b)->g<i):Region.wanted o (yielded (aa.take (i+1)).toArray t)=Region.wanted o (yielded aa.toArray t):=by
 unfold Region.wanted;cases h:o.guard with
 | none=>rfl
 | some g=>
  obtain⟨j,b⟩:=g;have:=hg j b h;simp only[yielded];have e:(aa.take (i+1)).toArray[j]?=aa.toArray[j]?:=by
   simp only[dn];rw[List.getElem?_take_of_lt (by omega)]
  rw[e]
theorem mL{α β:Type}{f g:α->List β}:∀{l:List α},(∀x∈l,f x=g x)->l.flatMap f=l.flatMap g
 | [],_=>rfl
 | x::l,h=>by rw[cd,cd,h x (bZ ..),mL λy hy=>h y (bY _ hy)]
theorem nV{α β:Type}{f:α->List β}{l l':List α}(h:l'.Sublist l):(l'.flatMap f).Sublist (l.flatMap f):=by
 induction h with
 | slnil=>exact List.Sublist.refl _
 | cons a _ ih=>rw[cd];exact ih.trans (List.sublist_append_right ..)
 | cons_cons a _ ih=>rw[cd,cd];exact List.Sublist.append_left ih _
theorem Good.sublist{w:World}(h:Good B imm hs w){af:List HA}(hs1:af.Sublist hs):Good B imm af w:=
 h.sub (λ_ hA=>hs1.subset hA) ((nV hs1).nodup h.nodup)
theorem AnyInv.step{s nb:Nat}{ins:List (List (Nat×Bool))}{keys:List Nat}(hc:AnyOk aa n s nb ins keys){φ:List Fact}(hφ:MonoF φ){hsC:List HA}(hk:∀k v,look m k=some v->k∈keys)(hob:Obls P n B aa φ imm hsC m 0 ins)
 {listed:Array Bool}{a:Act}{w:World}{imm1:Imm}{val:Nat->Value}{hx:Nat->List HA}{live:List Nat} (h:AnyInv n B aa s nb ins φ imm hsC m listed a w imm1 val hx live) {i:Nat} (hi:i<s) (hr:i∈Region.ready .any aa.toArray listed)
 {K:Act->World->Prop} (hK:∀a' w' ag val' hx' live',AnyInv n B aa s nb ins φ imm hsC m (listed.setIfInBounds i true) a' w' ag val' hx' live'->K a' w'):wpOp P aa.toArray Q i K a w:=by
 obtain⟨av,hnl,o,ho,hrd⟩:=rC.1 hr
 have hnl':listed.getD i false=false:=by
  have:i<listed.size:=by rw[h.lsz];exact av
  simp only[cB,cM this,Option.getD_some] at hnl ⊢
  exact hnl
 obtain⟨l,hl⟩:∃l,ins[i]?=some l:=⟨_,bW (by rw[hc.len];exact hi)⟩
 have hthere:∀p∈l,listed.getD p.1 false=true∨(aa.length<=p.1/\p.1<aa.length+nb):=λp hp=>by
  rcases hc.there hl ho p hp with h1|⟨_,h1⟩
  ·exact .inr h1
  ·exact .inl (hrd _ h1)
 have hlive:∀p∈l,p.2=true->p.1∈live:=λp hp ht=>by
  refine h.live _ (hthere p hp) λi' l' hi' hl' hm=>?_
  have hne:i ≠ i':=λe=>by subst e;rw[hnl'] at hi';cases hi'
  have hp':(p.1,true)∈l:=by rw[<- ht];exact hp
  exact hc.once hi (h.lst _ hi') hne hl hl' _ hp' hm
 obtain⟨live',h3,h4⟩:=kH (hx:=hx) l live hlive (hc.apart hi hl)
 have hR:=Ins.use (val:=val) (hx:=hx) l (λp hp=>h.fact _ (hthere p hp)) (by
  have:=hob.at hl imm1 (live'.flatMap hx) h.le (λp hp hpf hN=>by
   have hin:aa.length<=p.1/\p.1<aa.length+nb:=by
    rcases hthere p hp with h1|h1
    ·have:=h.lst _ h1;have:=hc.le;omega
    ·exact h1
   have hpl:(p.1,false)∈l:=by rw[<- hpf];exact hp
   have hnt:∀i' l' o',i'<s->ins[i']?=some l'->aa[i']?=some o'->(p.1,true)∈l'->i∈bound o':=λi' l' o' hi' hl' ho' hm=>hc.bor hi hi' hl hpl hin.1 hl' ho' hm
   have hlv:p.1∈live:=h.live _ (.inr hin) λi' l' hi' hl' hm=>by
    have his:=h.lst _ hi'
    have hlt':i'<aa.length:=by have:=hc.le;omega
    have:=h.closed i' _ hi' (bW hlt') i (hnt i' l' _ his hl' (bW hlt') hm)
    rw[hnl'] at this;cases this
   have hlv':=h3 _ hlv λhm=>by
    have:=hc.edge ho i (hnt i l o hi hl ho hm)
    omega
   refine⟨val p.1,hx p.1,(live'.erase p.1).flatMap hx,h.fact _ (.inr hin),?_⟩
   have:=(List.perm_cons_erase hlv').flatMap_right hx
   simpa [cd] using this)
  rw[cS] at this
  exact this)
 have hfr:Fr n a (addM aa val l m):=⟨h.defers,h.size,fA (tm:=λ_=>none) l (λp hp d hd=>by
  rcases hthere p hp with h1|⟨h1,_⟩
  ·exact h.slot _ _ h1 hd
  ·unfold dstAt at hd
   rw[dd h1] at hd
   cases hd) h.base⟩
 have hg:Good B imm1 (addH hx l (hsC++live'.flatMap hx)) w:=h.good.perm (h4 hsC).symm
 have hw:=hR a w hfr hg
 rw[kY ho] at hw
 have a8:i<listed.size:=by rw[h.lsz];exact av
 have fin:∀v w',OutQ n B (φ.getD i nofact) (dstAt aa i) imm1 (hsC++live'.flatMap hx) .normal (a.put o.dst v) w'->K (a.put o.dst v) w':=λv w' hq=>by
  obtain⟨_,hdf,ag,v',hx',aP,hf,hg',af⟩:=hq
  have hdst:dst0 aa i=o.dst:=by simp[dst0,ho]
  have hput:∀k,o.dst ≠ some k->(a.put o.dst v).tmps[k]?=a.tmps[k]?:=λk hne=>by
   cases hd:o.dst with
   | none=>rfl
   | some d=>
    have:d ≠ k:=λe=>hne (by rw[hd,e])
    simp only[Act.put]
    rw[cZ this]
  have hold:∀j,j ≠ i->(if j=i then v' else val j)=val j:=λj hj=>by simp[hj]
  have hold2:∀j,j ≠ i->(if j=i then hx' else hx j)=hx j:=λj hj=>by simp[hj]
  refine hK _ _ ag (λj=>if j=i then v' else val j) (λj=>if j=i then hx' else hx j) (i::live'.filter (λj=>j != i)) ?_
  have hlisted:∀j,(listed.setIfInBounds i true).getD j false=true->j=i∨(j ≠ i/\listed.getD j false=true):=λj hj=>by
   rw[pH a8] at hj
   by_cases e:j=i
   ·exact .inl e
   ·rw[if_neg e] at hj;exact .inr ⟨e,hj⟩
  refine⟨h.le.trans aP,?_,hdf,?_,λk u hu=>?_,by simpa using h.lsz,λj hj=>?_,λj hj=>?_,λj d hj hd=>?_,λj hj hn=>?_,λi' o' hi' ho' e he=>?_⟩
  ·have e1:(i::live'.filter (λj=>j != i)).flatMap (λj=>if j=i then hx' else hx j)=hx'++(live'.filter (λj=>j != i)).flatMap hx:=by
    rw[cd]
    simp only[if_true]
    congr 1
    refine mL λj hj=>?_
    have:=(dl.1 hj).2
    have:j ≠ i:=by simpa using this
    simp[this]
   rw[e1]
   refine Good.perm (Good.sublist hg' (af:=hx'++(hsC++(live'.filter (λj=>j != i)).flatMap hx)) ?_) ?_
   ·exact List.Sublist.append_left (List.Sublist.append_left (nV List.filter_sublist) _) _
   ·rw[<- cE,<- cE]
    exact List.Perm.append_right _ cV
  ·cases hd:o.dst <;> simp[Act.put,h.size]
  ·rw[hput k (λe=>?_)]
   ·exact h.base k u hu
   ·exact(hc.tmp hi (hdst.trans e)).2 (hk _ _ hu)
  ·rcases hlisted j hj with e|⟨_,e⟩
   ·subst e;exact hi
   ·exact h.lst j e
  ·by_cases e:j=i
   ·subst e;simpa using hf
   ·simp only[hold j e,hold2 j e]
    refine hφ _ _ _ _ _ aP (h.fact j ?_)
    rcases hj with hj|hj
    ·rcases hlisted j hj with e' | ⟨_,e'⟩
     ·exact absurd e' e
     ·exact .inl e'
    ·exact .inr hj
  ·by_cases e:j=i
   ·subst e;simpa using af d hd
   ·simp only[hold j e]
    have hj':listed.getD j false=true:=by
     rcases hlisted j hj with e' | ⟨_,e'⟩
     ·exact absurd e' e
     ·exact e'
    rw[hput d (λe'=>by
     obtain⟨oj,hoj⟩:∃oj,aa[j]?=some oj:=⟨_,bW (by have:=h.lst j hj';have:=hc.le;omega)⟩
     cases hj0:dst0 aa j with
     | some d2=>
      have h9:=zCE hj0
      rw[hd] at h9;cases h9
      exact hc.own hi (h.lst j hj') e (hdst.trans e') hj0
     | none=>
      have h9:=h.closed j oj hj' hoj i (hc.pse hi (h.lst j hj') hoj hj0 hd (hdst.trans e'))
      rw[hnl'] at h9;cases h9)]
    exact h.slot j d hj' hd
  ·by_cases e:j=i
   ·subst e;exact bZ ..
   ·refine bY _ (dl.2 ⟨?_,by simpa using e⟩)
    have hj':listed.getD j false=true∨(aa.length<=j/\j<aa.length+nb):=by
     rcases hj with hj|hj
     ·rcases hlisted j hj with e' | ⟨_,e'⟩
      ·exact absurd e' e
      ·exact .inl e'
     ·exact .inr hj
    refine h3 j (h.live j hj' λi' l' hi' hl'=>hn i' l' ?_ hl') (hn i l ?_ hl)
    ·rw[pH a8];split
     ·rfl
     ·exact hi'
    ·rw[pH a8];simp
  ·rw[pH a8];split
   ·rfl
   ·rcases hlisted i' hi' with e' | ⟨_,e'⟩
    ·subst e';rw[ho] at ho';cases ho';exact hrd _ he
    ·exact h.closed i' o' e' ho' e he
 unfold wpOp
 have h5:aa.toArray[i]?=some o:=by simpa using ho
 rw[h5]
 simp only[wpL] at hw
 rw[zB2 (λg b e=>hc.guard ho e)] at hw
 simp only[]
 split
 ·rename_i hwt
  rw[if_pos hwt] at hw
  refine .inl (zEo (λe a w h=>h.1) hw fin λd w' hq=>?_)
  have h7:=hq.2.1
  cases hd:o.dst <;> rw[hd] at h7 <;> cases h7
 ·rename_i hwt
  rw[if_neg hwt] at hw
  exact fin _ _ hw
theorem zCF{s nb:Nat}{ins:List (List (Nat×Bool))}{keys:List Nat}(hc:AnyOk aa n s nb ins keys){φ:List Fact}(hφ:MonoF φ){hsC:List HA}(hk:∀k v,look m k=some v->k∈keys)(hob:Obls P n B aa φ imm hsC m 0 ins)
 (hend:∀a w imm1 val hx live listed,AnyInv n B aa s nb ins φ imm hsC m listed a w imm1 val hx live->(∀j,j<s->listed.getD j false=true)->wpL P aa.toArray Q (aa.drop s) a w) :
 ∀(fuel:Nat) (listed:Array Bool) (a:Act) (w:World),unl aa.length listed<=fuel->(∃imm1 val hx live,AnyInv n B aa s nb ins φ imm hsC m listed a w imm1 val hx live)->wpAny P .any aa.toArray Q fuel listed a w:=by
 intro fuel
 have early:∀(fuel:Nat) (listed:Array Bool) (a:Act) (w:World),unl aa.length listed<=fuel->(∃imm1 val hx live,AnyInv n B aa s nb ins φ imm hsC m listed a w imm1 val hx live)->(∀j,j<s->listed.getD j false=true)->wpAny P .any aa.toArray Q fuel listed a w:=by
  rintro fuel listed a w hu ⟨imm1,val,hx,live,h⟩ hall
  refine zAt hc fuel s listed a w (cw _) hc.le ?_ h.lsz (λj d hj=>?_) (hend a w imm1 val hx live listed h hall)
  ·have aP:((List.range aa.length).countP λj=>decide (s<=j))<=unl aa.length listed:=by
    refine List.countP_mono_left λj hj hs=>?_
    have hs:s<=j:=by simpa using hs
    have:j<listed.size:=by rw[h.lsz];exact cA.1 hj
    cases hl:listed.getD j true with
    | false=>rfl
    | true=>
     have:=h.lst j (by
      simp only[cB,cM this,Option.getD_some] at hl ⊢
      exact hl)
     omega
   have hcnt:∀N,((List.range N).countP λj=>decide (s<=j))=N - s:=by
    intro N
    induction N with
    | zero=>simp
    | succ N ih=>
     rw[List.range_succ,List.countP_append,ih]
     by_cases h:s<=N <;> simp[h] <;> omega
   rw[hcnt] at aP
   omega
  ·have hjs:j<listed.size:=by rw[h.lsz];exact hj
   rcases cY j s with h1|h1
   ·have:=hall j h1
    simp only[cB,cM hjs,Option.getD_some] at this ⊢
    simp[this,h1]
   ·cases hl:listed.getD j d with
    | false=>simp;omega
    | true=>
     have:=h.lst j (by
      simp only[cB,cM hjs,Option.getD_some] at hl ⊢
      exact hl)
     omega
 induction fuel with
 | zero=>
  rintro listed a w hu hI
  refine early 0 listed a w hu hI λj hj=>?_
  obtain⟨imm1,val,hx,live,h⟩:=hI
  have aP:=hc.le
  have h0:unl aa.length listed=0:=by omega
  unfold unl at h0
  rw[List.countP_eq_zero] at h0
  have:=h0 j (cA.2 (by omega))
  have hjs:j<listed.size:=by rw[h.lsz];omega
  simp only[cB,cM hjs,Option.getD_some,Bool.not_eq_true',Bool.not_eq_false] at this ⊢
  simpa using this
 | succ fuel ih=>
  rintro listed a w hu hI
  by_cases hall:∀j,j<s->listed.getD j false=true
  ·exact early _ listed a w hu hI hall
  ·obtain⟨imm1,val,hx,live,h⟩:=hI
   have av:∀i∈Region.ready .any aa.toArray listed,i<s:=λi hi=>by
    obtain⟨h4,h5,o,ho,h6⟩:=rC.1 hi
    rcases cY i s with h7|h7
    ·exact h7
    ·rcases hc.order ho h7 with⟨h8,h9⟩|⟨h8,h9⟩
     ·exact absurd (λj hj=>h6 j (h9 j (by omega))) hall
     ·have hl:=h6 _ h9
      have:=h.lst (i - 1) (by
       have a8:=h.lsz
       have hi:i - 1<listed.size:=by omega
       simp only[cB,cM hi,Option.getD_some] at hl ⊢
       exact hl)
      omega
   refine⟨λh0=>?_,λi hi=>?_⟩
   ·refine absurd (λj hj=>?_) hall
    have aP:=hc.le
    have key:∀N j,j<N->j<s->listed.getD j false=true:=by
     intro N
     induction N with
     | zero=>intro j hj;omega
     | succ N ihN=>
      intro j hj hjs
      cases hl:listed.getD j false with
      | true=>rfl
      | false=>
       have hjz:j<listed.size:=by rw[h.lsz];omega
       have:j∈Region.ready .any aa.toArray listed:=rC.2 ⟨by omega,by
        simp only[cB,cM hjz,Option.getD_some] at hl ⊢
        exact hl,aa[j],bW (by omega),λe he=>by
         have hej:=hc.edge (bW (by omega)) e he
         exact ihN e (by omega) (by omega)⟩
       rw[h0] at this;cases this
    exact key (j+1) j (by omega) hj
   ·have hilt:=av i hi
    obtain⟨h4,h5,_⟩:=rC.1 hi
    refine h.step hc hφ hk hob hilt hi λa' w' ag val' hx' live' h'=>ih _ a' w' ?_ ⟨ag,val',hx',live',h'⟩
    have:=zES (N:=aa.length) h.lsz h4 h5
    omega
def finChk(aa:List Oper)(s nb:Nat)(ins:List (List (Nat×Bool)))(fin:List (Nat×Bool)):Bool:=
 fin.all (λp=>(Nat.ble aa.length p.1&&Nat.blt p.1 (aa.length+nb))||Nat.blt p.1 s)&&((fin.filter (·.2)).map (·.1)).Pairwise (· ≠ ·)&&fin.all (λp=>!p.2||ins.all (λl=>!(l.contains (p.1,true))))
theorem mM{hx:Nat->List HA}:∀(r:List (Nat×Bool)) (X Y:List HA),addH hx r (X++Y)=addH hx r X++Y
 | [],_,_=>rfl
 | (j,true)::r,X,Y=>by simp only[addH];rw[<- cE,mM r]
 | (j,false)::r,X,Y=>by simp only[addH];rw[mM r]
theorem zB3:∀{m:FM}{k:Nat}{v:Value},look m k=some v->k∈m.map (·.1)
 | [],_,_,h=>by simp[look] at h
 | (k',v')::m,k,v,h=>by
  by_cases e:k'=k
  ·subst e;simp
  ·rw[uL _ _ e] at h
   exact bY _ (zB3 h)
theorem zAu{id:Nat}(s:Nat)(ins:List (List (Nat×Bool)))(φ:List Fact)(hsC:List HA)(gs:List (List HA))(fin:List (Nat×Bool))
 (hm:P.follows .mixedOrders=true) (hc:anyChk aa n s gs.length ins (m.map (·.1))=true) (hf:finChk aa s gs.length ins fin=true) (hhs:∀w,Good B imm hs w->Good B imm (hsC++gs.flatten) w) (hφ:MonoL φ) (hg:BaseG φ imm aa.length gs)
 (hob:Obls P n B aa φ imm hsC m 0 ins)
 (hend:∀imm1,imm.le imm1->Ins aa φ imm1 fin m hsC λm' af=>R P n B aa Q s imm1 af m'):J P n B (.region id aa.toArray true) Q imm hs m:=λa w f g=>by
 have hc:=AnyOk.mk' hc
 unfold finChk at hf
 simp only[bX] at hf
 obtain⟨⟨hf1,hf2⟩,hf3⟩:=hf
 refine wp_region_any hm (zCF (imm:=imm) (m:=m) (φ:=φ) (hsC:=hsC) hc hφ.mono (λk v hk=>?_) hob (λa w imm1 val hx live listed h hall=>?_) _ _ a _ ?_ ⟨imm,λ_=>undef,λj=>gs.getD (j - aa.length) [],(List.range gs.length).map (aa.length + ·),?_⟩)
 ·exact zB3 hk
 ·have hin:∀p∈fin,(listed.getD p.1 false=true∨(aa.length<=p.1/\p.1<aa.length+gs.length)):=λp hp=>by
   have:=cb.1 hf1 p hp
   simp only[df,bX] at this
   rcases this with h1|h1
   ·exact .inr (by simpa using h1)
   ·exact .inl (hall _ (by simpa using h1))
  obtain⟨live',_,h4⟩:=kH (hx:=hx) fin live (λp hp ht=>h.live _ (hin p hp) λi l hi hl hm'=>by
   have:=cb.1 hf3 p hp
   rw[ht] at this
   simp only[cP,ek] at this
   have:=cb.1 this l (cy hl)
   simp[hm'] at this) (of_decide_eq_true hf2)
  have hR:=Ins.use (val:=val) (hx:=hx) fin (λp hp=>h.fact _ (hin p hp)) (hend imm1 h.le)
  refine hR a w ⟨h.defers,h.size,fA (tm:=λ_=>none) fin (λp hp d hd=>?_) h.base⟩ ?_
  ·rcases hin p hp with h1|⟨h1,_⟩
   ·exact h.slot _ _ h1 hd
   ·unfold dstAt at hd
    rw[dd h1] at hd
    cases hd
  ·refine(h.good.perm (h4 hsC).symm).sublist ?_
   rw[mM]
   exact List.sublist_append_left ..
 ·unfold unl
  exact cQ List.countP_le_length (by simp)
 ·have e:((List.range gs.length).map (aa.length + ·)).flatMap (λj=>gs.getD (j - aa.length) [])=gs.flatten:=by
   rw[List.flatMap_map]
   have:∀(gs:List (List HA)),(List.range gs.length).flatMap (λk=>gs.getD (aa.length+k - aa.length) [])=gs.flatten:=by
    intro gs
    simp only[Nat.add_sub_cancel_left]
    induction gs with
    | nil=>rfl
    | cons x gs ih=>
     rw[cg,List.range_succ_eq_map,cd,List.flatMap_map,List.flatten_cons]
     simp only[List.getD_cons_zero,List.getD_cons_succ,ih]
   exact this gs
  have hfalse:∀j,(Array.replicate aa.toArray.size false).getD j false=false:=λj=>by
   rw[cB]
   by_cases h:j<aa.length <;> simp[h]
  have none':∀j {α:Prop},(Array.replicate aa.toArray.size false).getD j false=true->α:=λj _ h=>by rw[hfalse] at h;cases h
  refine⟨Imm.le.refl _,by rw[e];exact(hhs w g).draw _,f.defers,f.size,f.holds,by simp,λj hj=>none' j hj,λj hj=>?_,λj d hj _=>none' j hj,λj hj _=>?_,λi o hi _=>none' i hi⟩
  ·rcases hj with hj|⟨h1,h2⟩
   ·exact none' j hj
   ·have h3:gs[j - aa.length]?=some gs[j - aa.length]:=bW (by omega)
    have:=hg.at h3
    rw[show aa.length+(j - aa.length)=j from by omega] at this
    simpa [List.getD,h3] using this
  ·rcases hj with hj|⟨h1,h2⟩
   ·exact none' j hj
   ·exact ds.2 ⟨j - aa.length,cA.2 (by omega),by omega⟩
theorem zCY{φ:List Fact}{K:FM->List HA->Prop}(h:K m hs):Ins aa φ imm [] m hs K:=h
theorem sO{aa:List Oper}{pc:Nat}{af:List HA}(h1:hs=af)(h:R P n B aa Q pc imm af m):R P n B aa Q pc imm hs m:=by subst h1;exact h
theorem zB4{ops':List Oper}{pc:Nat}{φi:Fact}{d:Option Nat}{imm1:Imm}{hs0:List HA}{v:Value}{hx:List HA}(h0:ops'.drop pc=[])(aP:imm1.le imm)(hh:hs=hx++hs0)(hd:∀d',d=some d'->look m d'=some v)(hφ:φi imm v hx):
 R P n B ops' (OutQ n B φi d imm1 hs0) pc imm hs m:=xA h0 λa w f g=>⟨rfl,f.defers,imm,v,hx,aP,hφ,by rw[<- hh];exact g,λd' e=>f.holds _ _ (hd d' e)⟩
theorem dQ{d0:Nat}{v:Value}(h:look m d0=some v):∀d',some d0=some d'->look m d'=some v:=λd' e=>by cases e;exact h
theorem zB5{hs:List HA}{is:List Nat}{r:List HA}(h:pick hs is=some r)(A:HA)(hA:A∈r):A∈hs:=by obtain⟨i,_,h1⟩:=jS h A hA;exact cy h1
theorem nG(l:List HA)(tl:List HA)(is:List Nat){af:List HA}(h:pick l is=some af)(hn:is.Nodup):∀w,Good B imm (l++tl) w->Good B imm (af++tl) w:=λ_ g=>
 g.sub (λA hA=>by
  rcases cC.1 hA with hA|hA
  ·exact cD _ (zB5 h A hA)
  ·exact da _ hA) (by
  have bd:=g.nodup
  rw[cT] at bd ⊢
  obtain⟨n1,n2,n3⟩:=cq.1 bd
  refine cq.2 ⟨jC n1 h hn,n2,λx hx y hy=>n3 x ?_ y hy⟩
  obtain⟨A,hA,hxA⟩:=cu.1 hx
  exact cu.2 ⟨A,zB5 h A hA,hxA⟩)
end
end Go.LN
namespace Go.LN
def u8(x:Int):UInt8:=UInt8.ofNat (IntKind.u8.wrap x).toNat
theorem zD1(x:Int):((u8 x).toNat:Int)=IntKind.u8.wrap x:=by
 have h:IntKind.u8.wrap x=x % 256:=rfl;unfold u8;rw[h];have h1:0<=x % 256:=Int.emod_nonneg _ (by decide);have h2:x % 256<256:=Int.emod_lt_of_pos _ (by decide);simp only[UInt8.toNat_ofNat'];omega
section
variable {P:Program}{n:Nat}{B:Base}{Q:Exit->Act->World->Prop}{imm:Imm}{hs:List HA}{m:FM}{aa:List Oper}{pc d:Nat}
theorem zFL{o:Oper}{i:Int}(ho:aa[pc]?=some o)(h:run1 P n aa m o=some ((d,.int .u8 (IntKind.u8.wrap i))::m))(next:R P n B aa Q (pc+1) imm hs ((d,.int .u8 ((u8 i).toNat:Int))::m)):R P n B aa Q pc imm hs m:=
 zBw ho h (by rw[zD1] at next;exact next)
def isBytesT(P:Program)(t:TypeId):Bool:=match P.underlying t with|some (.slice e)=>(match P.underlying e with|some (.int .u8)=>true|_=>false)|_=>false
def isStrT(P:Program)(t:TypeId):Bool:=match P.underlying t with|some .string=>true|_=>false
theorem zAa{i:Imm}:∀{l:List UInt8}{cs:List Value},RepL (Rp.rep i) (Rp.sz UInt8) cs l->cs=(l.map λb=>(b.toNat:Int)).map (Value.int .u8)
 | [],_,h=>by simpa [RepL] using h
 | b::l,_,⟨c1,c2,h1,_,h3,h4⟩=>by
  have h3:c1=[.int .u8 (b.toNat:Int)]:=h3
  rw[h1,h3,zAa h4];rfl
theorem dR:∀(l:List UInt8) (r:ByteArray),(l.map (λb=>(b.toNat:Int))).foldl (λr n=>r.push (UInt8.ofNat n.toNat)) r=⟨r.data++l.toArray⟩
 | [],r=>by simp
 | b::l,r=>by
  rw[cW,List.foldl_cons,dR l]
  simp[ByteArray.push]
theorem zCZ{src dst:TypeId}{x:Operand}{ty:TypeId}{pos:String}{after:Array Edge}{g:Option (Nat×Bool)}{v:Value}{cs:List Value}{l:List UInt8}
 (ho:aa[pc]?=some ⟨some d,.convert src dst x,ty,pos,after,g⟩) (hg:guardB aa m g=some true) (hn:Nat.blt d n=true) (hx:val m x=some v) (h1:isBytesT P src=true) (h2:isStrT P dst=true)
 (s:Src imm hs v (Rp.sz UInt8) cs) (hr:RepL (Rp.rep imm) (Rp.sz UInt8) cs l) (next:R P n B aa Q (pc+1) imm hs ((d,.string ⟨⟨l⟩⟩)::m)):R P n B aa Q pc imm hs m:=by
 refine sN ho hg rfl hn λa w f gd=>?_
 refine⟨_,w,imm,hs,?_,gd,next⟩
 unfold isBytesT at h1
 split at h1
 ·rename_i e he
  split at h1
  ·rename_i he2
   unfold isStrT at h2
   split at h2
   ·rename_i hd
    have ar:=hr.length
    have bb:=zAa hr
    rcases s.read gd with⟨rfl,rfl⟩|⟨b,off,len,cap,c,ty',fr,rfl,hw,aP,bH,bo⟩
    ·have:l=[]:=by
      have h1:Rp.sz UInt8=1:=rfl
      cases l with
      | nil=>rfl
      | cons _ _=>rw[h1] at ar;simp at ar
     subst this
     simp only[execOp,f.eval hx,Sem.run_bind,run_convert_bytes_string w src dst e none 0 0 he he2 hd,Conv.bytesToString,Sem.run_pure,Result.andThen_ok]
     rfl
    ·have a8:Rp.sz UInt8=1:=rfl
     rw[a8,Nat.mul_one] at aP bH bo
     have hl:=oH (P:=P) (n:=len) hw aP
     have hcc':c.extract off (off+len)=((l.map λb=>(b.toNat:Int)).map (Value.int .u8)).toArray:=by
      apply Array.ext'
      rw[<- bb,<- bo]
      simp[eb,de]
     rw[hcc'] at hl
     simp only[execOp,f.eval hx,Sem.run_bind,run_convert_bytes_string w src dst e _ len cap he he2 hd,run_bytesToString w _ len cap _ hl,dR,Result.andThen_ok,Sem.run_pure]
     simp[ByteArray.empty,ByteArray.emptyWithCapacity]
     rfl
   ·cases h2
  ·cases h1
 ·cases h1
theorem rP{α:Type}[Rp α]{t:TypeId}{x z:Operand}{ty:TypeId}{pos:String}{after:Array Edge}{g:Option (Nat×Bool)}{v0:Value}{i:Int}{ad:Addr}{cs cc c:List Value}{v:Value}{l:List α}{y x':α}(j o:Nat)
 (ho:aa[pc]?=some ⟨none,.store t x z,ty,pos,after,g⟩) (hg:guardB aa m g=some true) (hj:hs[j]?=some (.osl v0 (Rp.sz α) cs)) (au:AtO v0 (Rp.sz α) i.toNat ad) (hx:val m x=some (.pointer (some (ad.add o)))) (hz:val m z=some v)
 (bo:(cs.drop (i.toNat*Rp.sz α)).take (Rp.sz α)=cc) (a8:sizeT P t=some v.cells.size) (bc:Nat.ble (o+v.cells.size) (Rp.sz α)=true) (bz:v.cells.toList.all Value.oneCell'=true)
 (hr:RepL (Rp.rep imm) (Rp.sz α) cs l) (hy:idx l i=some y) (hc:cc.take o++v.cells.toList++cc.drop (o+v.cells.size)=c) (hx':Rp.rep imm c x')
 (next:∀cs',RepL (Rp.rep imm) (Rp.sz α) cs' (l.set i.toNat x')->(l.set i.toNat x').length=l.length->R P n B aa Q (pc+1) imm (hs.set j (.osl v0 (Rp.sz α) cs')) m):R P n B aa Q pc imm hs m:=by
 refine zBY j o ho hg hj au hx hz a8 bc bz rfl ?_
 obtain⟨h0,h1,h2⟩:=uA hy
 have av:=(cf.1 h2).1
 refine next _ ?_ (by simp)
 obtain⟨_,hbd⟩:=hr.at h2
 have hol':=cp bc
 have:=hr.set (i:=i.toNat) (a:=x') (c:=c) av (Rp.len hx') hx'
 rw[<- hc,<- bo] at this
 have e:cs.take (i.toNat*Rp.sz α)++(((cs.drop (i.toNat*Rp.sz α)).take (Rp.sz α)).take o++v.cells.toList++((cs.drop (i.toNat*Rp.sz α)).take (Rp.sz α)).drop (o+v.cells.size))++cs.drop (i.toNat*Rp.sz α+Rp.sz α) =
  cs.take (i.toNat*Rp.sz α+o)++v.cells.toList++cs.drop (i.toNat*Rp.sz α+o+v.cells.size):=by
  generalize i.toNat*Rp.sz α=p at *
  have hvs:v.cells.toList.length=v.cells.size:=di
  apply ei
  intro q
  simp only[dj,dv,List.getElem?_append,ca,ci,cj,hvs]
  grind
 rw[e] at this
 exact this
theorem zCG{af:List HA}{m':FM}(h1:hs=af)(h2:m=m')(h:R P n B aa Q pc imm af m'):R P n B aa Q pc imm hs m:=by subst h1;subst h2;exact h
theorem zEp{α:Type}[Rp α](X:Nat->Prop){t t2:TypeId}{x1 x2:Operand}{ty:TypeId}{pos:String}{after:Array Edge}{g:Option (Nat×Bool)}{v vx:Value}{cs az:List Value}{l l2 y:List α}{e by' zs:Nat}(j:Nat)
 (ho:aa[pc]?=some ⟨some d,.call { callee:=.builtin .append,args:=#[x1,x2],argTypes:=#[t,t2] },ty,pos,after,g⟩) (hg:guardB aa m g=some true) (hn:Nat.blt d n=true)
 (hx:val m x1=some v) (hy:val m x2=some vx) (ht:appT P t=some (e,Rp.sz α,by',zs)) (ht2:appT P t2=some (e,Rp.sz α,by',zs)) (hj:hs[j]?=some (.osl v (Rp.sz α) cs)) (hr:RepL (Rp.rep imm) (Rp.sz α) cs l)
 (hnew:∀b∈(HA.osl v (Rp.sz α) cs).fp,X b∨B.w0.heap.size<=b)
 (s:Src imm hs vx (Rp.sz α) az) (hr2:RepL (Rp.rep imm) (Rp.sz α) az l2) (hb:app by' l l2=some y)
 (next:∀a' c' cs',(∀b∈(HA.osl (.slice a' y.length c') (Rp.sz α) cs').fp,X b∨B.w0.heap.size<=b)->RepL (Rp.rep imm) (Rp.sz α) cs' y->R P n B aa Q (pc+1) imm (hs.set j (.osl (.slice a' y.length c') (Rp.sz α) cs')) ((d,.slice a' y.length c')::m)):R P n B aa Q pc imm hs m:=by
 obtain⟨h1,rfl⟩:=mK hb
 refine zDT j ho hg hn hx hy ht ht2 hj hr s hr2 h1 ?_
 intro v' cs' af h2 h3 h4
 subst h4
 have hjl:=(cf.1 hj).1
 refine zBy j (v:=v') (cs:=cs') (by simp[hjl]) h3 λa' c' hv=>?_
 subst hv
 exact next a' c' cs' (λb hb=>(h2 b hb).elim (hnew b) .inr) h3
end
end Go.LN
namespace Go.LN
def blkAt(hs:List HA)(j:Nat):Nat:=match hs[j]? with|some (.blk b _)=>b|_=>0
def load1(P:Program)(n:Nat)(aa:List Oper)(hs:List HA)(j:Nat)(m:FM)(o:Oper):Option (FM×Nat):=
 match o.dst,guardB aa m o.guard,o.op with
 | some d,some true,.load t x=>
  match hs[j]?,val m x,sizeT P t with
  | some (.blk _ c),some (.pointer (some ⟨pb,off,none⟩)),some s=>
   match Nat.blt d n&&Nat.ble (off+((c.toList.drop off).take s).length) c.size,loadV P t ((c.toList.drop off).take s) with
   | true,some v=>some ((d,v)::m,pb)
   | _,_=>none
  | _,_,_=>none
 | _,_,_=>none
def isLoad(o:Oper):Bool:=match o.op with|.load _ _=>true|_=>false
def runX(P:Program)(n:Nat)(aa:List Oper)(hs:List HA):List Oper->List Nat->FM->Option (FM×List Nat)
 | [],[],m=>some (m,[])
 | [],_::_,_=>none
 | o::l,js,m=>match isLoad o&&(guardB aa m o.guard==some true),js with
  | true,j::js'=>match load1 P n aa hs j m o with
   | some (m',b)=>match runX P n aa hs l js' m' with
    | some (m'',bs)=>some (m'',b::bs)
    | none=>none
   | none=>none
  | true,[]=>none
  | false,_=>match run1 P n aa m o with
   | some m'=>runX P n aa hs l js m'
   | none=>none
def memN(k:Nat):List Nat->Bool
 | []=>false
 | x::l=>bif Nat.beq x k then true else memN k l
def freshB(m:FM)(ks:List Nat):List Oper->Bool
 | []=>true
 | o::l=>(match o.dst with|some d=>(memN d ks||(match look m d with|none=>true|some _=>false))|none=>true)&&freshB m ks l
def runD(P:Program)(n:Nat)(aa:List Oper)(hs:List HA)(pc k:Nat)(js ks:List Nat)(m:FM):Option (FM×List Nat):=
 match freshB m ks ((aa.drop pc).take k),runX P n aa hs ((aa.drop pc).take k) js m with
 | true,some (m1,bs)=>match keep m1 ks with|some m2=>some (m2,bs)|none=>none
 | _,_=>none
theorem zAb{P:Program}{n:Nat}{aa:List Oper}{m m':FM}{o:Oper}(h:run1 P n aa m o=some m'):∃d v,o.dst=some d/\m'=(d,v)::m:=by
 unfold run1 at h;split at h
 ·cases h
 ·rename_i d hd;cases hn:Nat.blt d n with
  | false=>rw[hn] at h;cases h
  | true=>
   rw[hn] at h;simp only[cond_true] at h;split at h
   ·split at h
    ·cases h;exact⟨_,_,hd,rfl⟩
    ·cases h
   ·cases h;exact⟨_,_,hd,rfl⟩
   ·cases h
theorem dS{P:Program}{n:Nat}{aa:List Oper}{hs:List HA}{j b:Nat}{m m':FM}{o:Oper}(h:load1 P n aa hs j m o=some (m',b)):∃d v,o.dst=some d/\m'=(d,v)::m:=by
 unfold load1 at h;split at h
 ·rename_i d t x hd _ _;split at h
  ·split at h
   ·cases h;exact⟨_,_,hd,rfl⟩
   ·cases h
  ·cases h
 ·cases h
theorem fB{P:Program}{n:Nat}{aa:List Oper}{hs:List HA}{ks:List Nat}{m0:FM}:∀{l:List Oper}{js:List Nat}{m m1:FM}{bs:List Nat},runX P n aa hs l js m=some (m1,bs)->freshB m0 ks l=true ->
 (∀k v,memN k ks=false->look m0 k=some v->look m k=some v)->∀k v,memN k ks=false->look m0 k=some v->look m1 k=some v
 | [],js,m,m1,bs,h,_,hm=>by
  cases js with
  | nil=>simp only[runX] at h;cases h;exact hm
  | cons j js=>simp only[runX] at h;cases h
 | o::l,js,m,m1,bs,h,hf,hm=>by
  simp only[freshB,bX] at hf
  have key:∀{m':FM},(∃d v,o.dst=some d/\m'=(d,v)::m)->∀k v,memN k ks=false->look m0 k=some v->look m' k=some v:=by
   rintro m' ⟨d,v',hd,rfl⟩ k v hk h0
   rw[hd] at hf
   simp only[df] at hf
   have hne:d ≠ k:=by
    rintro rfl
    rcases hf.1 with h1|h1
    ·rw[h1] at hk;cases hk
    ·rw[h0] at h1;cases h1
   rw[uL _ _ hne]
   exact hm k v hk h0
  simp only[runX] at h
  split at h
  ·split at h
   ·rename_i m' b hl
    split at h
    ·rename_i m'' bs' hr
     cases h
     exact fB hr hf.2 (key (dS hl))
    ·cases h
   ·cases h
  ·cases h
  ·split at h
   ·rename_i m' hl
    exact fB h hf.2 (key (zAb hl))
   ·cases h
theorem zAc{m:FM}:∀{ks:List Nat}{m':FM},keep m ks=some m'->(∀k v,look m' k=some v->look m k=some v)/\∀k,look m' k=none->memN k ks=false
 | [],m',h=>by simp only[keep] at h;cases h;exact⟨λk v e=>by simp[look] at e,λ_ _=>rfl⟩
 | k0::ks,m',h=>by
  simp only[keep] at h
  split at h
  ·rename_i v0 m1 h1 h2
   cases h
   obtain⟨i1,i2⟩:=zAc h2
   refine⟨λk v e=>?_,λk e=>?_⟩
   ·by_cases hk:k0=k
    ·subst hk;rw[tV] at e;cases e;exact h1
    ·rw[uL _ _ hk] at e;exact i1 k v e
   ·by_cases hk:k0=k
    ·subst hk;rw[tV] at e;cases e
    ·rw[uL _ _ hk] at e
     have:Nat.beq k0 k=false:=by
      cases hb:Nat.beq k0 k with
      | false=>rfl
      | true=>exact absurd (cz hb) hk
     simp only[memN,this,cond_false]
     exact i2 k e
  ·cases h
theorem eC:∀{a m:FM}{k:Nat},look (a++m) k=match look a k with|some v=>some v|none=>look m k
 | [],m,k=>by simp[look]
 | (k0,v0)::a,m,k=>by
  by_cases e:k0=k
  ·subst e;simp[tV]
  ·rw[cO,uL _ _ e,uL _ _ e,eC]
section
variable {P:Program}{n:Nat}{B:Base}{Q:Exit->Act->World->Prop}{imm:Imm}{hs:List HA}{m:FM}{aa:List Oper}{pc:Nat}
theorem zET{m':FM}(h':∀a,Fr n a m->Fr n a m')(h:R P n B aa Q pc imm hs m'):R P n B aa Q pc imm hs m:=λa w f g=>h a w (h' a f) g
theorem zEc{m':FM}(h':∀a,Fr n a m->Fr n a m')(h:Rq P n B aa Q pc imm hs m'):Rq P n B aa Q pc imm hs m:=λa w f g=>h a w (h' a f) g
theorem zCH{m0 m1 new:FM}{ks:List Nat}(hk:keep m1 ks=some new)(hl:∀k v,memN k ks=false->look m0 k=some v->look m1 k=some v)(a:Act)(f:Fr n a m1):Fr n a (new++m0):=
 ⟨f.defers,f.size,λk v e=>by
  obtain⟨i1,i2⟩:=zAc hk
  rw[eC] at e
  cases hn:look new k with
  | some u=>rw[hn] at e;simp only at e;cases e;exact f.holds _ _ (i1 _ _ hn)
  | none=>rw[hn] at e;exact f.holds _ _ (hl _ _ (i2 _ hn) e)⟩
theorem fC{j b:Nat}{m':FM}{o:Oper}(h:load1 P n aa hs j m o=some (m',b)):
 ∃d t x ty pos after g pb off c cs v,o=⟨some d,.load t x,ty,pos,after,g⟩/\m'=(d,v)::m/\b=pb/\guardB aa m g=some true/\Nat.blt d n=true/\hs[j]?=some (.blk (blkAt hs j) c)/\val m x=some (.pointer (some ⟨pb,off,none⟩)) /\
  Nat.ble (off+cs.length) c.size=true/\(c.toList.drop off).take cs.length=cs/\loadV P t cs=some v:=by
 unfold load1 at h
 split at h
 ·rename_i d t x hd hg ho
  split at h
  ·rename_i b' c pb off s hj hx af
   split at h
   ·rename_i v hb hv
    cases h
    rw[bX] at hb
    obtain⟨od,oo,oty,opos,oaft,og⟩:=o
    simp only at hd hg ho
    subst hd;subst ho
    refine⟨d,t,x,oty,opos,oaft,og,b,off,c,_,v,rfl,rfl,rfl,hg,hb.1,?_,hx,hb.2,?_,hv⟩
    ·simp only[blkAt,hj]
    ·rw[ci,<- d6,d8]
   ·cases h
  ·cases h
 ·cases h
theorem dU:∀(l:List Oper) {pc:Nat}{js:List Nat}{m m':FM}{bs:List Nat},(∃r,aa.drop pc=l++r)->runX P n aa hs l js m=some (m',bs)->bs=js.map (blkAt hs)->R P n B aa Q (pc+l.length) imm hs m'->R P n B aa Q pc imm hs m
 | [],pc,js,m,m',bs,_,h,hb,hR=>by
  cases js with
  | nil=>simp only[runX] at h;cases h;exact hR
  | cons j js=>simp only[runX] at h;cases h
 | o::l,pc,js,m,m',bs,⟨r,hr⟩,h,hb,hR=>by
  have ho:aa[pc]?=some o:=by
   have h0:(aa.drop pc)[0]?=some o:=by rw[hr];rfl
   simpa using h0
  have hr':∃r,aa.drop (pc+1)=l++r:=⟨r,by rw[<- cI,hr];rfl⟩
  have hR':R P n B aa Q (pc+1+l.length) imm hs m':=by
   have:pc+1+l.length=pc+(o::l).length:=by simp;omega
   rw[this];exact hR
  simp only[runX] at h
  split at h
  ·rename_i j js' _
   split at h
   ·rename_i m1 b hl
    split at h
    ·rename_i m2 bs' hx
     cases h
     rw[cW,List.cons.injEq] at hb
     obtain⟨d,t,x,ty,pos,after,g,pb,off,c,cs,v,rfl,rfl,rfl,hg,hn,hj,hv,aP,hc,hlv⟩:=fC hl
     rw[hb.1] at hv
     exact zBx j ho hg hn hj hv aP hc hlv (dU l hr' hx hb.2 hR')
    ·cases h
   ·cases h
  ·cases h
  ·split at h
   ·rename_i m1 hl
    exact zBw ho hl (dU l hr' h hb hR')
   ·cases h
theorem eX:∀(l:List Oper) {pc:Nat}{js:List Nat}{m m':FM}{bs:List Nat},(∃r,aa.drop pc=l++r)->runX P n aa hs l js m=some (m',bs)->bs=js.map (blkAt hs)->Rq P n B aa Q (pc+l.length) imm hs m'->Rq P n B aa Q pc imm hs m
 | [],pc,js,m,m',bs,_,h,hb,hR=>by
  cases js with
  | nil=>simp only[runX] at h;cases h;exact hR
  | cons j js=>simp only[runX] at h;cases h
 | o::l,pc,js,m,m',bs,⟨r,hr⟩,h,hb,hR=>by
  have ho:aa[pc]?=some o:=by
   have h0:(aa.drop pc)[0]?=some o:=by rw[hr];rfl
   simpa using h0
  have hr':∃r,aa.drop (pc+1)=l++r:=⟨r,by rw[<- cI,hr];rfl⟩
  have hR':Rq P n B aa Q (pc+1+l.length) imm hs m':=by
   have:pc+1+l.length=pc+(o::l).length:=by simp;omega
   rw[this];exact hR
  simp only[runX] at h
  split at h
  ·rename_i j js' _
   split at h
   ·rename_i m1 b hl
    split at h
    ·rename_i m2 bs' hx
     cases h
     rw[cW,List.cons.injEq] at hb
     obtain⟨d,t,x,ty,pos,after,g,pb,off,c,cs,v,rfl,rfl,rfl,hg,hn,hj,hv,aP,hc,hlv⟩:=fC hl
     rw[hb.1] at hv
     exact zB0 j ho hg hn hj hv aP hc hlv (eX l hr' hx hb.2 hR')
    ·cases h
   ·cases h
  ·cases h
  ·split at h
   ·rename_i m1 hl
    exact zER ho hl (eX l hr' h hb hR')
   ·cases h
theorem jT{pc k:Nat}{js ks:List Nat}{new:FM}{bs:List Nat}(h:runD P n aa hs pc k js ks m=some (new,bs)):
 ∃m1,runX P n aa hs ((aa.drop pc).take k) js m=some (m1,bs)/\∀a,Fr n a m1->Fr n a (new++m):=by
 unfold runD at h
 split at h
 ·rename_i m1 bs' hf hx
  split at h
  ·rename_i m2 hk
   cases h
   exact⟨m1,hx,λa f=>zCH hk (fB hx hf (λ_ _ _ h=>h)) a f⟩
  ·cases h
 ·cases h
theorem gX(pc':Nat)(js:List Nat)(new:FM)(hR:R P n B aa Q pc' imm hs (new++m))(h:runD P n aa hs pc (pc' - pc) js (new.map (·.1)) m=some (new,js.map (blkAt hs)):=by kernel_rfl)
 (hl:Nat.beq (pc+((aa.drop pc).take (pc' - pc)).length) pc'=true:=by kernel_rfl):R P n B aa Q pc imm hs m:=by
 obtain⟨m1,h1,h2⟩:=jT h
 refine dU _ ⟨(aa.drop pc).drop (pc' - pc),(List.take_append_drop ..).symm⟩ h1 rfl (zET h2 ?_)
 rw[cz hl];exact hR
theorem zFW(pc':Nat)(js:List Nat)(new:FM)(hR:Rq P n B aa Q pc' imm hs (new++m))(h:runD P n aa hs pc (pc' - pc) js (new.map (·.1)) m=some (new,js.map (blkAt hs)):=by kernel_rfl)
 (hl:Nat.beq (pc+((aa.drop pc).take (pc' - pc)).length) pc'=true:=by kernel_rfl):Rq P n B aa Q pc imm hs m:=by
 obtain⟨m1,h1,h2⟩:=jT h
 refine eX _ ⟨(aa.drop pc).drop (pc' - pc),(List.take_append_drop ..).symm⟩ h1 rfl (zEc h2 ?_)
 rw[cz hl];exact hR
theorem sG(js:List Nat)(new:FM)(hR:T n B Q .normal imm hs (new++m))(h:runD P n aa hs pc aa.length js (new.map (·.1)) m=some (new,js.map (blkAt hs)):=by kernel_rfl):R P n B aa Q pc imm hs m:=by
 obtain⟨m1,h1,h2⟩:=jT h;have e:(aa.drop pc).take aa.length=aa.drop pc:=cv (by rw[cj];omega);rw[e] at h1;exact dU _ ⟨[],by simp⟩ h1 rfl (zET h2 (xA (ck.2 (by rw[cj];omega)) hR))
theorem zFX(js:List Nat)(new:FM)(hR:T n B Q .normal imm hs (new++m))(h:runD P n aa hs pc aa.length js (new.map (·.1)) m=some (new,js.map (blkAt hs)):=by kernel_rfl):Rq P n B aa Q pc imm hs m:=by
 obtain⟨m1,h1,h2⟩:=jT h;have e:(aa.drop pc).take aa.length=aa.drop pc:=cv (by rw[cj];omega);rw[e] at h1;exact eX _ ⟨[],by simp⟩ h1 rfl (zEc h2 (zEj (ck.2 (by rw[cj];omega)) hR))
end
end Go.LN
namespace Go.LN
abbrev RL{α:Type}[Rp α](imm:Imm)(cs:List Value)(l:List α):Prop:=RepL (Rp.rep imm) (Rp.sz α) cs l
class MonoI (p:Imm->Prop):Prop where
 mono:∀i j,i.le j->p i->p j
instance zB6{q:Prop}:MonoI (λ_=>q):=⟨λ_ _ _ h=>h⟩
instance zCr{p q:Imm->Prop}[hp:MonoI p][hq:MonoI q]:MonoI (λi=>p i/\q i):=⟨λi j hl h=>⟨hp.mono i j hl h.1,hq.mono i j hl h.2⟩⟩
instance zD2{α:Type}{p:Imm->α->Prop}[hp:∀x,MonoI (λi=>p i x)]:MonoI (λi=>∃x,p i x):=⟨λi j hl ⟨x,h⟩=>⟨x,(hp x).mono i j hl h⟩⟩
instance zD3{α:Type}[Rp α]{v:Value}{l:List α}:MonoI (λi=>SL i v l):=⟨λ_ _ hl h=>h.mono hl⟩
instance zD4{ad:Addr}{cs:List Value}:MonoI (λi=>At i ad cs):=⟨λ_ _ hl h=>h.mono hl⟩
instance zD5{α:Type}[Rp α]{cs:List Value}{l:List α}:MonoI (λi=>RepL (Rp.rep i) (Rp.sz α) cs l):=⟨λ_ _ hl h=>RepL.mono (λ_ _=>Rp.mono hl) h⟩
instance zCs{α:Type}[Rp α]{cs:List Value}{a:α}:MonoI (λi=>Rp.rep i cs a):=⟨λ_ _ hl h=>Rp.mono hl h⟩
def FP{α:Type}[Rp α](imm:Imm)(v:Value)(o:Option α):Prop:=match o with
 | none=>v=.pointer none
 | some x=>∃ad cs,v=.pointer (some ad)/\At imm ad cs/\Rp.rep imm cs x
theorem FP.mono{α:Type}[Rp α]{imm ag:Imm}{v:Value}{o:Option α}(h:FP imm v o)(hl:imm.le ag):FP ag v o:=by
 cases o with
 | none=>exact h
 | some x=>
  obtain⟨ad,cs,e,h1,h2⟩:=h;exact⟨ad,cs,e,h1.mono hl,Rp.mono hl h2⟩
instance zD6{α:Type}[Rp α]{v:Value}{o:Option α}:MonoI (λi=>FP i v o):=⟨λ_ _ hl h=>h.mono hl⟩
inductive It where
 | p (v:Value) (js:List Nat)
 | q (v:Value)
 | x (f:Fact)
def It.fact:It->Fact
 | .p v _=>λ_ u hx=>u=v/\hx=[]
 | .q v=>λ_ u hx=>u=v/\hx=[]
 | .x f=>f
def gfact(g:List HA):Fact:=λ_ _ hx=>hx=g
def factsOf(N:Nat)(its:List It)(gs:List (List HA)):List Fact:=its.map It.fact++(List.replicate (N - its.length) nofact++gs.map gfact)
def insM(aa:List Oper)(its:List It):List (Nat×Bool)->FM->Option FM
 | [],m=>some m
 | (j,c)::r,m=>match its[j]?,c,dstAt aa j with
  | some (.p v _),false,some d=>insM aa its r ((d,v)::m)
  | some (.q v),false,some d=>insM aa its r ((d,v)::m)
  | _,_,_=>none
def autoL(P:Program)(n:Nat)(aa:List Oper)(hsC:List HA)(m:FM)(its:List It):Nat->List It->List (List (Nat×Bool))->Option (List Value×List Nat)
 | _,[],[]=>some ([],[])
 | i,.x _::r,_::ins=>autoL P n aa hsC m its (i+1) r ins
 | i,.q _::r,_::ins=>autoL P n aa hsC m its (i+1) r ins
 | i,.p _ js::r,l::ins=>match aa[i]?,insM aa its l m,autoL P n aa hsC m its (i+1) r ins with
  | some o,some m',some (vs,bs)=>match runX P n (aa.take (i+1)) hsC [o] js m' with
   | some ((_,v)::_,bs')=>some (v::vs,bs'++bs)
   | _=>none
  | _,_,_=>none
 | _,_,_=>none
def valsOf:List It->List Value
 | []=>[]
 | .p v _::r=>v::valsOf r
 | .x _::r=>valsOf r
 | .q _::r=>valsOf r
def blksOf(hs:List HA):List It->List Nat
 | []=>[]
 | .p _ js::r=>js.map (blkAt hs)++blksOf hs r
 | .x _::r=>blksOf hs r
 | .q _::r=>blksOf hs r
def ObX(P:Program)(n:Nat)(B:Base)(aa:List Oper)(φ:List Fact)(imm:Imm)(hsC:List HA)(m:FM):Nat->List It->List (List (Nat×Bool))->Prop
 | _,[],[]=>True
 | i,.p _ _::r,_::ins=>ObX P n B aa φ imm hsC m (i+1) r ins
 | i,.q _::r,l::ins=>Obl P n B aa φ imm hsC m i l/\ObX P n B aa φ imm hsC m (i+1) r ins
 | i,.x f::r,l::ins=>(∀v hx,MonoI (λi=>f i v hx))/\Obl P n B aa φ imm hsC m i l/\ObX P n B aa φ imm hsC m (i+1) r ins
 | _,_,_=>False
section
variable {P:Program}{n:Nat}{B:Base}{Q:Exit->Act->World->Prop}{imm:Imm}{hs:List HA}{m:FM}{aa:List Oper}
theorem Op{φ:List Fact}{hsC:List HA}{i:Nat}{v:Value}{js:List Nat}{r:List It}{l:List (Nat×Bool)}{ins:List (List (Nat×Bool))}(h:ObX P n B aa φ imm hsC m (i+1) r ins):ObX P n B aa φ imm hsC m i (.p v js::r) (l::ins):=h
theorem Ox{φ:List Fact}{hsC:List HA}{i:Nat}{f:Fact}{r:List It}{l:List (Nat×Bool)}{ins:List (List (Nat×Bool))}
 (ho:∀imm1 hf,imm.le imm1->Ins aa φ imm1 l m (hsC++hf) λm' af=>R P n B (aa.take (i+1)) (OutQ n B (φ.getD i nofact) (dstAt aa i) imm1 (hsC++hf)) i imm1 af m')
 (h:ObX P n B aa φ imm hsC m (i+1) r ins) (hm:∀v hx,MonoI (λi=>f i v hx):=by
  intro v hx
  repeat' (first|exact zB6|exact zD6|exact zD3|exact zD4|exact zD5|exact zCs|refine @zD2 _ _ (λ_=>?_)|refine @zCr _ _ ?_ ?_)):ObX P n B aa φ imm hsC m i (.x f::r) (l::ins):=⟨hm,λimm1 hf hl _=>ho imm1 hf hl,h⟩
theorem Oq{φ:List Fact}{hsC:List HA}{i:Nat}{v:Value}{r:List It}{l:List (Nat×Bool)}{ins:List (List (Nat×Bool))}
 (ho:∀imm1 hf,imm.le imm1->Ins aa φ imm1 l m (hsC++hf) λm' af=>R P n B (aa.take (i+1)) (OutQ n B (φ.getD i nofact) (dstAt aa i) imm1 (hsC++hf)) i imm1 af m')
 (h:ObX P n B aa φ imm hsC m (i+1) r ins):ObX P n B aa φ imm hsC m i (.q v::r) (l::ins):=⟨λimm1 hf hl _=>ho imm1 hf hl,h⟩
theorem Bor.at{φ:List Fact}{l:List (Nat×Bool)}{hf:List HA}{j:Nat}(h:Bor aa φ imm l hf)(hj:(j,false)∈l)(hN:Nat.ble aa.length j=true){g:List HA}(hg:φ.getD j nofact=gfact g):∃hf',hf.Perm (g++hf'):=by
 obtain⟨v,hx,hf',h1,h2⟩:=h _ hj rfl (cp hN);rw[hg] at h1;have h1:hx=g:=h1;subst h1;exact⟨hf',h2⟩
theorem On{φ:List Fact}{hsC:List HA}{i:Nat}:ObX P n B aa φ imm hsC m i [] []:=trivial
theorem zCI{hsC hf:List HA}{aa:List Oper}{j:Nat}{o:Oper}{r:FM×Nat}(h:load1 P n aa hsC j m o=some r):load1 P n aa (hsC++hf) j m o=some r/\blkAt (hsC++hf) j=blkAt hsC j:=by
 obtain⟨m',b⟩:=r;obtain⟨d,t,x,ty,pos,after,g,pb,off,c,cs,v,rfl,rfl,rfl,hg,hn,hj,hv,aP,hc,hlv⟩:=fC h;have av:=(cf.1 hj).1;have e:(hsC++hf)[j]?=hsC[j]?:=ef av;refine⟨?_,by simp only[blkAt,e]⟩;unfold load1 at h ⊢;simp only[e];exact h
theorem fD{hsC hf:List HA}{aa:List Oper}:∀{l:List Oper}{js:List Nat}{m:FM}{r:FM×List Nat},runX P n aa hsC l js m=some r->runX P n aa (hsC++hf) l js m=some r/\js.map (blkAt (hsC++hf))=js.map (blkAt hsC)
 | [],js,m,r,h=>by
  cases js with
  | nil=>exact⟨h,rfl⟩
  | cons j js=>simp only[runX] at h;cases h
 | o::l,js,m,r,h=>by
  simp only[runX] at h ⊢
  split at h
  ·rename_i j js' hc
   split at h
   ·rename_i m1 b hl
    split at h
    ·rename_i m2 bs hx
     cases h
     obtain⟨k1,k2⟩:=zCI (hf:=hf) hl
     obtain⟨k3,k4⟩:=fD (hf:=hf) hx
     rw[k1]
     simp only[k3]
     exact⟨by trivial,by rw[cW,cW,k2,k4]⟩
    ·cases h
   ·cases h
  ·cases h
  ·rename_i hc
   split at h
   ·rename_i m1 hl
    exact fD h
   ·cases h
theorem jU{φ:List Fact}{its:List It}(hφ:∀j it,its[j]?=some it->φ.getD j nofact=it.fact){K:FM->List HA->Prop}:∀{l:List (Nat×Bool)}{m m':FM},insM aa its l m=some m'->K m' hs->Ins aa φ imm l m hs K
 | [],m,m',h,hk=>by simp only[insM] at h;cases h;exact hk
 | (j,c)::r,m,m',h,hk=>by
  simp only[insM] at h
  split at h
  ·rename_i v js d hit hd
   intro u hx hu
   rw[hφ _ _ hit] at hu
   obtain⟨rfl,rfl⟩:=hu
   simp only[hd]
   exact jU hφ h hk
  ·rename_i v d hit hd
   intro u hx hu
   rw[hφ _ _ hit] at hu
   obtain⟨rfl,rfl⟩:=hu
   simp only[hd]
   exact jU hφ h hk
  ·cases h
theorem zCt{d:Nat}{v:Value}:look ((d,v)::m) d=some v:=tV ..
theorem zB7{aa:List Oper}{hsC:List HA}{js bs:List Nat}{r:FM}(hr:runX P n aa hsC [] js m=some (r,bs)):r=m:=by
 cases js with
 | nil=>simp only[runX] at hr;cases hr;rfl
 | cons a b=>simp only[runX] at hr;cases hr
theorem zD7{aa:List Oper}{hsC:List HA}{o:Oper}{js bs:List Nat}{r:FM}(hr:runX P n aa hsC [o] js m=some (r,bs)):∃d u,o.dst=some d/\r=(d,u)::m:=by
 simp only[runX] at hr;split at hr
 ·split at hr
  ·rename_i m1 b hl;split at hr
   ·rename_i hx;cases hr
    rw[zB7 hx];exact dS hl
   ·cases hr
  ·cases hr
 ·cases hr
 ·split at hr
  ·rename_i m1 hl;rw[zB7 hr];exact zAb hl
  ·cases hr
theorem zD8{φ:List Fact}{its:List It}(hφ:∀j it,its[j]?=some it->φ.getD j nofact=it.fact){hsC:List HA}{i:Nat}{l:List (Nat×Bool)}{o:Oper}{v:Value}{js:List Nat}{m' m2:FM}{d0:Nat}{bs:List Nat}
 (hi:its[i]?=some (.p v js)) (ho:aa[i]?=some o) (hm:insM aa its l m=some m') (hr:runX P n (aa.take (i+1)) hsC [o] js m'=some ((d0,v)::m2,bs)) (hb:bs=js.map (blkAt hsC)):Obl P n B aa φ imm hsC m i l:=by
 intro imm1 hf ah _
 refine jU hφ hm ?_
 obtain⟨k1,k2⟩:=fD (hf:=hf) hr
 have av:=(cf.1 ho).1
 have hd:(aa.take (i+1)).drop i=[o]:=kY ho
 refine dU [o] ⟨[],by rw[hd];rfl⟩ k1 (by rw[hb,k2]) ?_
 obtain⟨d,u,hd',he⟩:=zD7 hr
 rw[List.cons.injEq,Prod.mk.injEq] at he
 obtain⟨⟨rfl,rfl⟩,rfl⟩:=he
 have hdst:dstAt aa i=some d0:=by simp only[dstAt,ho,hd']
 refine zB4 (hx:=[]) ?_ (Imm.le.refl _) rfl (v:=v) ?_ ?_
 ·rw[ck,ci]
  simp only[cg,cF]
  omega
 ·rw[hdst];exact dQ zCt
 ·rw[hφ _ _ hi];exact⟨rfl,rfl⟩
theorem kI{φ:List Fact}{its0:List It}(hφ:∀j it,its0[j]?=some it->φ.getD j nofact=it.fact){hsC:List HA}:∀{its:List It}{i:Nat}{ins:List (List (Nat×Bool))}{bs:List Nat},(∀j,its0[i+j]?=its[j]?) ->
 autoL P n aa hsC m its0 i its ins=some (valsOf its,bs)->bs=blksOf hsC its->ObX P n B aa φ imm hsC m i its ins->Obls P n B aa φ imm hsC m i ins
 | [],i,[],bs,_,_,_,_=>trivial
 | [],i,_::_,bs,_,h,_,_=>by simp only[autoL] at h;cases h
 | .p v js::r,i,[],bs,_,h,_,_=>by simp only[autoL] at h;cases h
 | .x f::r,i,[],bs,_,h,_,_=>by simp only[autoL] at h;cases h
 | .q v::r,i,[],bs,_,h,_,_=>by simp only[autoL] at h;cases h
 | .q v::r,i,l::ins,bs,hi,h,hb,ho=>by
  simp only[autoL] at h
  exact⟨ho.1,kI hφ (λj=>by have:=hi (j+1);rw[show i+(j+1)=i+1+j from by omega] at this;simpa using this) h hb ho.2⟩
 | .x f::r,i,l::ins,bs,hi,h,hb,ho=>by
  simp only[autoL] at h
  exact⟨ho.2.1,kI hφ (λj=>by have:=hi (j+1);rw[show i+(j+1)=i+1+j from by omega] at this;simpa using this) h hb ho.2.2⟩
 | .p v js::r,i,l::ins,bs,hi,h,hb,ho=>by
  simp only[autoL] at h
  split at h
  ·rename_i o m' vs bs2 h1 h2 h3
   split at h
   ·rename_i d0 v0 m2 bs' h4
    simp only[Option.some.injEq,Prod.mk.injEq,valsOf,List.cons.injEq] at h
    obtain⟨⟨rfl,rfl⟩,rfl⟩:=h
    have ar:bs'.length=js.length:=by
     have:∀{l:List Oper}{js:List Nat}{m:FM}{r:FM}{bs:List Nat},runX P n (aa.take (i+1)) hsC l js m=some (r,bs)->bs.length=js.length:=by
      intro l
      induction l with
      | nil=>intro js m r bs h;cases js <;> simp only[runX] at h <;> cases h;rfl
      | cons o l ih=>
       intro js m r bs h
       simp only[runX] at h
       split at h
       ·split at h
        ·split at h
         ·rename_i hx;cases h;simp[ih hx]
         ·cases h
        ·cases h
       ·cases h
       ·split at h
        ·exact ih h
        ·cases h
     exact this h4
    simp only[blksOf] at hb
    obtain⟨hb1,hb2⟩:=List.append_inj hb (by rw[ce];exact ar)
    have hi0:its0[i]?=some (.p v0 js):=by have:=hi 0;simpa using this
    exact⟨zD8 hφ hi0 h1 h2 h4 hb1,kI hφ (λj=>by have:=hi (j+1);rw[show i+(j+1)=i+1+j from by omega] at this;simpa using this) h3 hb2 ho⟩
   ·cases h
  ·cases h
theorem monoX{φ:List Fact}{hsC:List HA}:∀{its:List It}{i:Nat}{ins:List (List (Nat×Bool))},ObX P n B aa φ imm hsC m i its ins->MonoL (its.map It.fact)
 | [],_,_,_=>trivial
 | .p v js::r,_,[],h=>h.elim
 | .x f::r,_,[],h=>h.elim
 | .q v::r,_,[],h=>h.elim
 | .q v::r,_,l::ins,h=>⟨λ_ _ _ _ _ h=>h,monoX (its:=r) h.2⟩
 | .p v js::r,_,l::ins,h=>⟨λ_ _ _ _ _ h=>h,monoX (its:=r) h⟩
 | .x f::r,_,l::ins,h=>⟨λi j v hx hl hh=>(h.1 v hx).mono i j hl hh,monoX (its:=r) h.2.2⟩
theorem nH:∀{a b:List Fact},MonoL a->MonoL b->MonoL (a++b)
 | [],_,_,h=>h
 | _::_,_,h,h'=>⟨h.1,nH h.2 h'⟩
theorem zAd:∀k,MonoL (List.replicate k nofact)
 | 0=>trivial
 | k+1=>⟨λ_ _ _ _ _ h=>h,zAd k⟩
theorem zC0:∀gs:List (List HA),MonoL (gs.map gfact)
 | []=>trivial
 | _::gs=>⟨λ_ _ _ _ _ h=>h,zC0 gs⟩
theorem zB8:∀{gs:List (List HA)}{φ:List Fact}{k:Nat},(∀j g,gs[j]?=some g->φ.getD (k+j) nofact=gfact g)->BaseG φ imm k gs
 | [],_,_,_=>trivial
 | g::gs,φ,k,h=>⟨by have:=h 0 g (by simp);rw[Nat.add_zero] at this;rw[this];rfl,zB8 λj g' hj=>by have:=h (j+1) g' (by simpa using hj);rwa[show k+(j+1)=k+1+j from by omega] at this⟩
theorem qA{id:Nat}(its:List It)(ins:List (List (Nat×Bool)))(hsC:List HA)(gs:List (List HA))(fin:List (Nat×Bool))(hhs:∀w,Good B imm hs w->Good B imm (hsC++gs.flatten) w)
 (hob:ObX P n B aa (factsOf aa.length its gs) imm hsC m 0 its ins)
 (hend:∀imm1,imm.le imm1->Ins aa (factsOf aa.length its gs) imm1 fin m hsC λm' af=>R P n B aa Q its.length imm1 af m')
 (ha:autoL P n aa hsC m its 0 its ins=some (valsOf its,blksOf hsC its):=by kernel_rfl)
 (hm:P.follows .mixedOrders=true:=by kernel_rfl) (hc:anyChk aa n its.length gs.length ins (m.map (·.1))=true:=by kernel_rfl) (hf:finChk aa its.length gs.length ins fin=true:=by kernel_rfl) :
 J P n B (.region id aa.toArray true) Q imm hs m:=by
 have hφ:∀j it,its[j]?=some it->(factsOf aa.length its gs).getD j nofact=it.fact:=λj it hj=>by
  have av:=(cf.1 hj).1
  unfold factsOf
  rw[cH,ef (by rw[ce];exact av),db,hj]
  rfl
 have aP:its.length<=aa.length:=(AnyOk.mk' hc).le
 refine zAu its.length ins (factsOf aa.length its gs) hsC gs fin hm hc hf hhs (nH (monoX hob) (nH (zAd _) (zC0 gs))) (zB8 λj g hj=>?_)
  (kI hφ (λj=>by rw[cS]) ha rfl hob) hend
 unfold factsOf
 rw[cH,dp (by rw[ce];omega),dp (by rw[ce,List.length_replicate];omega),ce,List.length_replicate,db,
  show aa.length+j - its.length - (aa.length - its.length)=j from by omega,hj]
 rfl
abbrev W:Int->Int:=IntKind.i64.wrap
theorem T_w{e:Exit}(m':FM)(h:T n B Q e imm hs m')(hk:keep m (m'.map (·.1))=some m':=by kernel_rfl):T n B Q e imm hs m:=zDR (oL hk) h
theorem pY{c:Code}(m':FM)(h:J P n B c Q imm hs m')(hk:keep m (m'.map (·.1))=some m':=by kernel_rfl):J P n B c Q imm hs m:=zDQ (oL hk) h
theorem yI{x:Operand}{p q:Code}{c:Bool}{α:Type}{X Y:Option α}{r:α}(hM:(if c=true then X else Y)=some r)
 (ht:c=true->X=some r->J P n B p Q imm hs m) (hf:c=false->Y=some r->J P n B q Q imm hs m) (hc:val m x=some (.bool c):=by kernel_rfl):J P n B (.cond x p q) Q imm hs m:=zEh hc hM ht hf
end
end Go.LN
