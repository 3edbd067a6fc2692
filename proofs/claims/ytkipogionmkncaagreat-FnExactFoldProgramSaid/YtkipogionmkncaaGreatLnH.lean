/- Helper of the proof (see the last text). -/
import Derived.Test.YtkipogionmkncaaGreatLnA
import Derived.Deep.Quiet
import Derived.Laws.BytesString
import Derived.MapKept
set_option linter.unusedVariables false
set_option linter.unusedSimpArgs false
namespace Go.LN
section
variable {P : Program} {n : Nat} {B : Base} {Q : Exit -> Act -> World -> Prop} {imm : Imm} {hs : List HA} {m : FM} {aa : List Oper} {pc d : Nat}
theorem dY{aj : List HA}(hg : ∀w,Good B imm hs w -> Good B imm aj w)(h : R P n B aa Q pc imm aj m): R P n B aa Q pc imm hs m:=λa w f g=>h a w f (hg w g)
theorem kU{c : Code}{aj : List HA}(hg : ∀w,Good B imm hs w -> Good B imm aj w)(h : J P n B c Q imm aj m): J P n B c Q imm hs m:=λa w f g=>h a w f (hg w g)
theorem wM{e : Exit}{aj : List HA}(hg : ∀w,Good B imm hs w -> Good B imm aj w)(h : T n B Q e imm aj m): T n B Q e imm hs m:=λa w f g=>h a w f (hg w g)
theorem uI(j : Nat){A : HA}(hj : hs[j]? = some A): ∀w,Good B imm hs w -> Good B imm (hs.eraseIdx j) w:=λ_ h=>(h.perm (gY hj).symm).tail
theorem zDc(j : Nat){A : HA}(hj : hs[j]? = some A): ∀w,Good B imm hs w -> Good B imm (A :: hs.eraseIdx j) w:=λ_ h=>h.perm (gY hj).symm
theorem zAZ(sz : Nat): ∀w,Good B imm hs w -> Good B imm (.osl (.slice none 0 0) sz [] :: hs) w:=λ_ h=>h.nil_osl sz
theorem tP{A : HA}(j : Nat)(hj : hs[j]? = some A)(h : ∀af,imm.le af -> Lent af A -> R P n B aa Q pc af (hs.eraseIdx j) m)(hpl : A.plain = true:=by rfl): R P n B aa Q pc imm hs m:=λa w f g=>by
 obtain⟨af,h1,h2,h3⟩:=(zDc j hj w g).freeze hpl
 exact h af h1 h2 a w f h3
theorem zB1{c : Code}{A : HA}(j : Nat)(hj : hs[j]? = some A)(h : ∀af,imm.le af -> Lent af A -> J P n B c Q af (hs.eraseIdx j) m)(hpl : A.plain = true:=by rfl): J P n B c Q imm hs m:=λa w f g=>by
 obtain⟨af,h1,h2,h3⟩:=(zDc j hj w g).freeze hpl
 exact h af h1 h2 a w f h3
theorem uY{e : Exit}{A : HA}(j : Nat)(hj : hs[j]? = some A)(h : ∀af,imm.le af -> Lent af A -> T n B Q e af (hs.eraseIdx j) m)(hpl : A.plain = true:=by rfl): T n B Q e imm hs m:=λa w f g=>by
 obtain⟨af,h1,h2,h3⟩:=(zDc j hj w g).freeze hpl
 exact h af h1 h2 a w f h3
theorem SL.of_frozen{α : Type}[Rp α]{af : Imm}{v : Value}{cs : List Value}{l : List α}(h : Lent af (.osl v (Rp.sz α) cs))(ap : imm.le af)(hr : RepL (Rp.rep imm) (Rp.sz α) cs l): SL af v l:=
 ⟨cs,h,hr.mono λ_ _=>Rp.mono ap⟩
def Post(B : Base)(post : Nat -> Imm -> List HA -> Value -> Prop): Ending -> World -> Prop
 | .returned v,w' => ∃af aj,post B.w0.heap.size af aj v /\ Good B af aj w'
 | _,_=>False
def Ret(P : Program)(f : FuncId)(args : List Value)(imm : Imm)(hs : List HA)(post : Nat -> Imm -> List HA -> Value -> Prop): Prop:=
 ∀w,Good ⟨w,imm,hs.flatMap HA.fp⟩ imm hs w -> Calls P f args.toArray w (Post ⟨w,imm,hs.flatMap HA.fp⟩ post)
theorem Ret.mono{f : FuncId}{args : List Value}{post post' : Nat -> Imm -> List HA -> Value -> Prop}(h : Ret P f args imm hs post)(hp : ∀k i h v,post k i h v -> post' k i h v): Ret P f args imm hs post' :=
 λw g=>(h w g).mono λe w' he=>by
  cases e with
  | returned v=>obtain⟨i,aj,h1,h2⟩:=he;exact⟨i,aj,hp _ _ _ _ h1,h2⟩
  | panicked c=>exact he
  | outgrown=>exact he
def QB(P : Program)(fn : Func)(B : Base)(post : Nat -> Imm -> List HA -> Value -> Prop): Exit -> Act -> World -> Prop
 | .normal,a,w|.ret,a,w=>a.defers = [] /\ ∃v,(results fn a.tmps).run P w = .ok v w /\ Post B post (.returned v) w
 | _,_,_=>False
def argm : Nat -> List Value -> FM
 | _,[]=>[]
 | i,v :: vs=>(i,v) :: argm (i+1) vs
theorem zHH : ∀(vs : List Value) (i k : Nat) (v : Value),look (argm i vs) k = some v -> i<=k /\ vs[k - i]? = some v
 | [],_,_,_,h=>by simp[argm,look] at h
 | u :: vs,i,k,v,h=>by
  by_cases e : i = k
  ·subst e
   rw[argm,kT] at h
   cases h
   simp
  ·rw[argm,oJ _ _ e] at h
   obtain⟨h1,h2⟩:=zHH vs (i+1) k v h
   refine⟨by omega,?_⟩
   rw[show k - i = (k - (i+1))+1 from by omega]
   simpa using h2
theorem xW{f : FuncId}{fn : Func}{c : Code}{args : List Value}{post : Nat -> Imm -> List HA -> Value -> Prop}(hf : P.funcs[f]? = some fn)(hb : fn.body = some c)(hn : Nat.ble args.length fn.ntmps = true)
 (h : ∀B : Base,B.imm0 = imm -> B.io = hs.flatMap HA.fp -> J P fn.ntmps B c (QB P fn B post) imm hs (argm 0 args)) : Ret P f args imm hs post:=λw g=>by
 have hn:=cJ hn
 refine calls_of_wp hf hb ?_
 refine wp_mono (h ⟨w,imm,hs.flatMap HA.fp⟩ rfl rfl _ w ⟨rfl,by simp;omega,λk v hk => ?_⟩ g) λe a w' he => ?_
 ·obtain⟨_,h2⟩:=zHH args 0 k v hk
  have aH:=(ck.1 h2).1
  simp only[Nat.sub_zero] at h2 aH
  have hv' : args[k] = v:=by rw[b9 aH] at h2;injection h2
  simp[Array.getElem?_append,aH,hv']
 ·cases e <;> first|exact he|exact he.elim
inductive ResV (P : Program) (m : FM) (hs : List HA) : List ResultVar -> List Value -> Prop
 | nil : ResV P m hs [] []
 | tmp {t : Nat} {v : Value} {rs : List ResultVar} {vs : List Value} (h : look m t = some v) (hr : ResV P m hs rs vs) : ResV P m hs (.tmp t :: rs) (v :: vs)
 | cell {t : Nat} {ty : TypeId} {v : Value} {rs : List ResultVar} {vs : List Value} {b : Nat} {c : Array Value} (j : Nat) (hj : hs[j]? = some (.blk b c)) (h : look m t = some (.pointer (some ⟨b,0,none⟩))) (hv : loadV P ty c.toList = some v)
  (hr : ResV P m hs rs vs) : ResV P m hs (.cell t ty :: rs) (v :: vs)
def resG(tmps : Array Value): ResultVar -> Sem Value
 | .tmp t=>pure (tmps.getD t undef)
 | .cell a t=>do loadVar t (<- asAddr (tmps.getD a undef))
theorem zGR{a : Act}{w : World}(f : Fr n a m)(g : Good B imm hs w): ∀{rs : List ResultVar} {vs : List Value},ResV P m hs rs vs -> (rs.mapM (resG a.tmps)).run P w = .ok vs w
 | [],_,.nil=>by simp
 | _,_,.tmp h hr=>by
  have:=f.eval (x:=.tmp _) h
  simp only[Act.eval] at this
  simp[et,resG,this,zGR f g hr]
 | _,_,.cell (c:=c) j hj h hv hr=>by
  have:=f.eval (x:=.tmp _) h
  simp only[Act.eval] at this
  obtain⟨_,_,ty',hw⟩:=g.own _ (pT hj)
  have hl:=dW (P:=P) (off:=0) hw (cs:=c.toList) (by simp) (by rw[co,List.take_length]) hv
  simp[et,resG,this,asAddr,hl,zGR f g hr]
def tupV : List Value -> Value
 | [v]=>v
 | vs=>.tuple vs.toArray
theorem zIA{fn : Func}{a : Act}{w : World}{vs : List Value}(f : Fr n a m)(g : Good B imm hs w)(h : ResV P m hs fn.results.toList vs): (results fn a.tmps).run P w = .ok (tupV vs) w:=by
 have h1:=zGR f g h
 have h2 : (fn.results.mapM (resG a.tmps)).run P w = .ok vs.toArray w:=by
  rw[Array.mapM_eq_mapM_toList,Sem.run_map,h1];rfl
 have h3 : results fn a.tmps = (do let vs <- fn.results.mapM (resG a.tmps);pure (if h : vs.size = 1 then vs[0] else .tuple vs)):=by
  unfold results
  congr 1
 rw[h3]
 simp only[Sem.run_bind,h2,Result.andThen_ok,Sem.run_pure]
 cases vs with
 | nil=>rfl
 | cons v vs=>cases vs <;> rfl
def callable (P : Program) (f : FuncId) : Bool := match P.funcs[f]? with | some fn => fn.body.isSome && fn.name != "runtime.NumGoroutine" | none => false
theorem zBs{w : World}{f : FuncId}{args : Array Value}(h : callable P f = true): (callFunc f args).run P w = .ok (.enter f args) w:=by
 unfold callable at h
 unfold callFunc
 split at h
 ·rename_i fn hf
  rw[cy] at h
  have h2 : (fn.name == "runtime.NumGoroutine") = false := by simpa [bne] using h.2
  have h1 : fn.body.isNone = false:=by cases hb : fn.body <;> simp_all
  simp only[Sem.run_bind,run_program,Result.andThen_ok,hf,h2,h1,bY,if_false,Sem.run_pure]
 ·cases h
theorem uZ{f : FuncId}{x : Operand}{xs : Array Operand}{ts : Array TypeId}{ty : TypeId}{pos : String}{after : Array Edge}{g : Option (Nat × Bool)}{vs : List Value}{hs1 rest : List HA}{post : Nat -> Imm -> List HA -> Value -> Prop}
 (ho : aa[pc]? = some ⟨some d,.call { callee:=.value x,args:=xs,argTypes:=ts },ty,pos,after,g⟩) (hg : guardB aa m g = some true) (hn : Nat.blt d n = true) (hx : val m x = some (.func (.func f) #[] #[])) (hf : callable P f = true)
 (hvs : vals m xs.toList = some vs) (hh : hs = hs1++rest) (hc : Ret P f vs imm hs1 post)
 (next : ∀af aj v k,imm.le af -> B.w0.heap.size<=k -> post k af aj v -> (∀b∈aj.flatMap HA.fp,b∈hs1.flatMap HA.fp∨B.w0.heap.size<=b) -> R P n B aa Q (pc+1) af (aj++rest) ((d,v) :: m)) : R P n B aa Q pc imm hs m:=
 zGN ho hg λa w fr gd=>by
  subst hh
  have hargs : xs.map a.eval = vs.toArray:=by apply Array.ext';rw[dg,fr.evals hvs]
  have bH:=gd.nodup
  rw[da] at bH
  have hg1:=gd.enter (hs1:=hs1) (λA hA=>cI _ hA) (cz.1 bH).1
  unfold Oper.wp
  simp only[execOp,resolve,Deferred.ofValue,fr.eval hx,hargs,Sem.run_bind,Sem.run_pure,Result.andThen_ok,invoke,Array.empty_append,Array.append_empty,zBs hf,Oper.upon]
  refine(hc w hg1).mono λe w' he => ?_
  cases e with
  | returned v=>
   obtain⟨af,aj,hp,hgood⟩:=he
   obtain⟨g2,ap,hfp⟩:=gd.leave hgood
   exact next af aj v w.heap.size ap gd.frm.size hp hfp _ w' (fr.put d v (by simpa using hn)) g2
  | panicked c=>exact he.elim
  | outgrown=>exact he.elim
theorem Good.lendL : ∀(L : List HA) {B : Base} {imm : Imm} {hs : List HA} {w : World},Good B imm (L++hs) w -> L.all HA.plain = true -> ∃imm1,imm.le imm1 /\ (∀A∈L,Lent imm1 A) /\ Good ⟨w,imm1,hs.flatMap HA.fp⟩ imm1 hs w /\
 ∀imm2 aj w',Good ⟨w,imm1,hs.flatMap HA.fp⟩ imm2 aj w' -> ∃imm3,imm.le imm3 /\ imm3.le imm2 /\ (∀b c,imm2 b = some c -> w.heap.size<=b -> imm3 b = some c) /\ Good ⟨w,imm,(L++hs).flatMap HA.fp⟩ imm3 (L++aj) w'
 | [],B,imm,hs,w,h,_=>by
  refine⟨imm,Imm.le.refl _,by simp,h.enter (λ_ h=>h) h.nodup,λimm2 aj w' h' => ⟨imm2,λ_ _ e=>(h'.frm.imm _ (h.lt_imm e) (h.nio e)).trans e,Imm.le.refl _,λ_ _ e _=>e,h'⟩⟩
 | A :: L,B,imm,hs,w,h,hpl=>by
  rw[cV,cy] at hpl
  obtain⟨i1,h1,h2,h3,h4⟩:=Good.lend (A:=A) (hs:=L++hs) h hpl.1
  obtain⟨i2,k1,k2,k3,k4⟩:=Good.lendL L h3 hpl.2
  refine⟨i2,h1.trans k1,λA' hA' => ?_,k3,λimm2 aj w' h' => ?_⟩
  ·rcases cP.1 hA' with rfl|hA'
   ·exact h2.mono k1
   ·exact k2 _ hA'
  ·obtain⟨i3,l1,l2,l3,l4⟩:=k4 imm2 aj w' h'
   obtain⟨i4,m1,m2,m3,m4⟩:=h4 i3 (L++aj) w' l4
   exact⟨i4,m1,m2.trans l2,λb c e hb=>m3 b c (l3 b c e hb) hb,m4⟩
theorem zFc{f : FuncId}{x : Operand}{xs : Array Operand}{ts : Array TypeId}{ty : TypeId}{pos : String}{after : Array Edge}{g : Option (Nat × Bool)}{vs : List Value}{L hs1 rest : List HA}{post : Nat -> Imm -> List HA -> Value -> Prop}
 (ho : aa[pc]? = some ⟨some d,.call { callee:=.value x,args:=xs,argTypes:=ts },ty,pos,after,g⟩) (hg : guardB aa m g = some true) (hn : Nat.blt d n = true) (hx : val m x = some (.func (.func f) #[] #[])) (hf : callable P f = true)
 (hvs : vals m xs.toList = some vs) (hh : hs = (L++hs1)++rest) (hc : ∀imm1,imm.le imm1 -> (∀A∈L,Lent imm1 A) -> Ret P f vs imm1 hs1 post)
 (next : ∀imm2 imm3 aj v k,imm.le imm3 -> imm3.le imm2 -> B.w0.heap.size<=k -> (∀b c,imm2 b = some c -> k<=b -> imm3 b = some c) -> post k imm2 aj v -> (∀b∈(L++aj).flatMap HA.fp,b∈(L++hs1).flatMap HA.fp∨B.w0.heap.size<=b) ->
  R P n B aa Q (pc+1) imm3 ((L++aj)++rest) ((d,v) :: m)) (hpl : L.all HA.plain = true:=by rfl) : R P n B aa Q pc imm hs m:=
 zGN ho hg λa w fr gd=>by
  subst hh
  have hargs : xs.map a.eval = vs.toArray:=by apply Array.ext';rw[dg,fr.evals hvs]
  have bH:=gd.nodup
  rw[da] at bH
  have hg1:=gd.sub (aj:=L++hs1) (λA hA=>cI _ hA) (cz.1 bH).1
  obtain⟨imm1,h1,h2,h3,h4⟩:=Good.lendL L hg1 hpl
  unfold Oper.wp
  simp only[execOp,resolve,Deferred.ofValue,fr.eval hx,hargs,Sem.run_bind,Sem.run_pure,Result.andThen_ok,invoke,Array.empty_append,Array.append_empty,zBs hf,Oper.upon]
  refine(hc imm1 h1 h2 w h3).mono λe w' he => ?_
  cases e with
  | returned v=>
   obtain⟨imm2,aj,hp,hgood⟩:=he
   obtain⟨imm3,k1,k2,k3,k4⟩:=h4 imm2 aj w' hgood
   obtain⟨g2,ap,hfp⟩:=gd.leave k4
   exact next imm2 imm3 aj v w.heap.size ap k2 gd.frm.size k3 hp hfp _ w' (fr.put d v (by simpa using hn)) g2
  | panicked c=>exact he.elim
  | outgrown=>exact he.elim
theorem zKZ{f : FuncId}{args : List Value}{v : Value}{w : World}{imm : Imm}(hg : Good ⟨w,imm,[]⟩ imm [] w)(h : Ret P f args imm [] (λ_ _ _ u=>u = v)):
 Calls P f args.toArray w λe w' => e = .returned v /\ Go.RowKit.Below w.heap.size w w' :=
 (h w hg).mono λe w' he=>by
  cases e with
  | returned u=>
   obtain⟨i,aj,h1,h2⟩:=he
   subst h1
   exact⟨rfl,⟨h2.frm.os,h2.frm.tape,h2.frm.output,h2.frm.size,λk hk=>h2.frm.heap k hk (by simp)⟩⟩
  | panicked c=>exact he.elim
  | outgrown=>exact he.elim
end
def Cq(w w' : World): Prop := ∃k,w' = w.drewN k
def Rq(P : Program)(n : Nat)(B : Base)(aa : List Oper)(Q : Exit -> Act -> World -> Prop)(pc : Nat)(imm : Imm)(hs : List HA)(m : FM): Prop:=
 ∀a w,Fr n a m -> Good B imm hs w -> wpQuiet P aa.toArray (Cq w) (λa' => ∀w',Cq w w' -> Q .normal a' w') (aa.drop pc) a
section
variable {P : Program} {n : Nat} {B : Base} {Q : Exit -> Act -> World -> Prop} {imm : Imm} {hs : List HA} {m : FM} {aa : List Oper} {pc d : Nat}
theorem Good.drewN{w : World}(h : Good B imm hs w)(k : Nat): Good B imm hs (w.drewN k):=h.draw _ (Nat.le_add_right _ _)
theorem zAn{id : Nat}{aa : List Oper}(hm : P.follows .mixedOrders = true)(hB : Region.lexB .any aa.toArray = true)(h : Rq P n B aa Q 0 imm hs m): J P n B (.region id aa.toArray true) Q imm hs m:=λa w f g=>
 wp_region_quiet_lit hm hB (by
  have:=h a w f g
  rw[co] at this
  exact this)
theorem zKt{aa : List Oper}{pc : Nat}(h0 : aa.drop pc = [])(h : T n B Q .normal imm hs m): Rq P n B aa Q pc imm hs m:=λa w f g=>by
 rw[h0]
 refine wpQuiet_nil ?_
 rintro w' ⟨k,rfl⟩
 exact h a _ f (g.drewN k)
theorem zBJ{α : Type}{aa : List α}{pc : Nat}{o : α}(ho : aa[pc]? = some o): aa.drop pc = o :: aa.drop (pc+1):=by
 have aH : pc<aa.length:=by
  rcases dd pc aa.length with h|h
  ·exact h
  ·rw[dh h] at ho;cases ho
 rw[cU aH]
 rw[b9 aH] at ho
 cases ho;rfl
def Reads(P : Program)(n : Nat)(B : Base)(imm : Imm)(hs : List HA)(m : FM)(o : Op)(v : Value): Prop:=
 ∀(oo : Oper) a w,oo.op = o -> Fr n a m -> Good B imm hs w -> (execOp a.eval oo).run P w = .ok (.value v) w
theorem zK0{o : Oper}{v : Value}(ho : aa[pc]? = some o)(hg : guardB aa m o.guard = some true)(hd : o.dst = some d)(hn : Nat.blt d n = true)(h : Reads P n B imm hs m o.op v)(next : R P n B aa Q (pc+1) imm hs ((d,v) :: m)):
 R P n B aa Q pc imm hs m:=fM ho hg hd hn λa w f g=>⟨v,w,imm,hs,h o a w rfl f g,g,next⟩
theorem zE5{o : Oper}{v : Value}(ho : aa[pc]? = some o)(hg : guardB aa m o.guard = some true)(hd : o.dst = some d)(hn : Nat.blt d n = true)(h : Reads P n B imm hs m o.op v)(next : Rq P n B aa Q (pc+1) imm hs ((d,v) :: m)):
 Rq P n B aa Q pc imm hs m:=λa w f g=>by
 rw[zBJ ho]
 refine wpQuiet_step λK hK => ?_
 rw[if_pos (f.wanted hg)]
 refine⟨v,?_,hK _ ?_⟩
 ·rintro w' ⟨k,rfl⟩
  unfold Oper.quietAt
  rw[h o a _ rfl f (g.drewN k)]
  exact⟨rfl,rfl⟩
 ·rw[hd]
  exact next _ w (f.put d v (by simpa using hn)) g
theorem zIi{o : Oper}(ho : aa[pc]? = some o)(hg : guardB aa m o.guard = some false)(hd : o.dst = some d)(hn : Nat.blt d n = true)(next : Rq P n B aa Q (pc+1) imm hs ((d,undef) :: m)): Rq P n B aa Q pc imm hs m:=λa w f g=>by
 rw[zBJ ho]
 refine wpQuiet_step λK hK => ?_
 rw[if_neg (by rw[f.wanted hg];simp)]
 refine hK _ ?_
 rw[hd]
 exact next _ w (f.put d undef (by simpa using hn)) g
theorem zK1{o : Oper}{m' : FM}(ho : aa[pc]? = some o)(h : run1 P n aa m o = some m')(hR : Rq P n B aa Q (pc+1) imm hs m'): Rq P n B aa Q pc imm hs m:=by
 unfold run1 at h
 split at h
 ·cases h
 ·rename_i d hd
  cases hn : Nat.blt d n with
  | false=>rw[hn] at h;cases h
  | true=>
   rw[hn] at h
   simp only[cond_true] at h
   split at h
   ·rename_i hg
    split at h
    ·rename_i v hv
     cases h
     exact zE5 ho hg hd hn (λoo a w he f _=>zHF f (by rw[he];exact hv)) hR
    ·cases h
   ·rename_i hg
    cases h
    exact zIi ho hg hd hn hR
   ·cases h
theorem zJk{α : Type}[Rp α]{t : TypeId}{x xi : Operand}{v : Value}{k : IntKind}{i : Int}{l : List α}{y : α}
 (hx : val m x = some v) (hi : val m xi = some (.int k i)) (ht : elemT P t = some (Rp.sz α)) (aj : SL imm v l) (hy : idx l i = some y) :
 ∃ad aF,At imm ad aF /\ Rp.rep imm aF y /\ Reads P n B imm hs m (.indexAddr t x xi) (.pointer (some ad)):=by
 obtain⟨h0,h1,h2⟩:=pP hy
 obtain⟨aF,hsl,hr⟩:=aj
 have aU:=hr.length
 obtain⟨aq,hbd⟩:=hr.at h2
 rcases hsl with⟨p0,rfl,rfl⟩|⟨b,off,len,cap,c,rfl,hc,ap,_,bJ,bN⟩
 ·have:=Rp.pos (α:=α)
  simp at hbd;omega
 ·have hll : len = l.length:=jC (Rp.pos (α:=α)) (by omega)
  subst hll
  have av : At imm ⟨b,off+i.toNat*Rp.sz α,none⟩ ((aF.drop (i.toNat*Rp.sz α)).take (Rp.sz α)):=by
   refine⟨b,_,c,rfl,hc,?_,?_⟩
   ·simp only[cv,cE];omega
   ·rw[<- cZ]
    conv=>rhs;rw[<- bN,ef,du]
    congr 1
    simp only[cv,cE]
    omega
  exact⟨_,_,av,aq,λoo a w he f _=>by simp only[execOp,he,f.eval hx,f.eval hi,Sem.run_bind,zC5 ht h0 h1,Result.andThen_ok,Sem.run_pure]⟩
theorem zIj{t : TypeId}{x : Operand}{ad : Addr}{cs cs' : List Value}{v : Value}(o : Nat)(av : At imm ad cs)(hx : val m x = some (.pointer (some (ad.add o))))(bt : Nat.ble o cs.length = true)
 (hc : (cs.drop o).take cs'.length = cs') (hv : loadV P t cs' = some v) : Reads P n B imm hs m (.load t x) v:=λoo a w he f gd=>by
 obtain⟨b,off,c,e,hb,ap,bN⟩:=av.sub o bt hc
 obtain⟨ty',fr,hw⟩:=gd.inv b c hb
 simp only[execOp,he,f.eval hx,Instr.loadAt,Instr.sureAddr,Sem.run_bind,Sem.run_pure,Result.andThen_ok,e,dW hw ap bN hv]
theorem zIB{t : TypeId}{x : Operand}{b o : Nat}{c : Array Value}{cs : List Value}{v : Value}(j : Nat)(hj : hs[j]? = some (.blk b c))(hx : val m x = some (.pointer (some ⟨b,o,none⟩)))
 (bt : Nat.ble (o+cs.length) c.size = true) (hc : (c.toList.drop o).take cs.length = cs) (hv : loadV P t cs = some v) : Reads P n B imm hs m (.load t x) v:=λoo a w he f gd=>by
 obtain⟨_,_,ty',hw⟩:=gd.own _ (pT hj)
 simp only[execOp,he,f.eval hx,Instr.loadAt,Instr.sureAddr,Sem.run_bind,Sem.run_pure,Result.andThen_ok,dW hw (cJ bt) hc hv]
def cat(a b : Str): Option Str:=if a.l.length+b.l.length<=9223372036854775807 then some ⟨a.l++b.l⟩ else none
theorem zH0(a b : List UInt8): (⟨⟨a⟩⟩ : ByteArray)++⟨⟨b⟩⟩ = ⟨⟨a++b⟩⟩:=by
 apply ByteArray.ext
 simp[ByteArray.data_append]
theorem zKu{t t2 : TypeId}{x y : Operand}{a b c : Str}(hx : val m x = some (.string ⟨⟨a.l⟩⟩))(hy : val m y = some (.string ⟨⟨b.l⟩⟩))(h : cat a b = some c): Reads P n B imm hs m (.binOp .add t x y t2) (.string ⟨⟨c.l⟩⟩):=λoo ac w he f gd=>by
 unfold cat at h
 split at h
 ·rename_i ap
  cases h
  have h63 : ¬ ((((⟨⟨a.l⟩⟩ : ByteArray).size+(⟨⟨b.l⟩⟩ : ByteArray).size : Nat) : Int)>IntKind.i64.max):=by
   have hm : IntKind.i64.max = 9223372036854775807:=by decide
   have e1 : (⟨⟨a.l⟩⟩ : ByteArray).size = a.l.length:=rfl
   have e2 : (⟨⟨b.l⟩⟩ : ByteArray).size = b.l.length:=rfl
   rw[hm,e1,e2]
   omega
  simp only[execOp,he,f.eval hx,f.eval hy,Sem.run_bind,eqGuard,df,if_true,Sem.run_pure,Result.andThen_ok,binOp,Op.stringOp,h63,if_false]
  rw[zH0]
 ·cases h
end
def same{α : Type}(x : α): α:=x
def nav : Code -> List Nat -> Code
 | c,[]=>c
 | .seq a _,0 :: p=>nav a p
 | .seq _ b,_ :: p=>nav b p
 | .loop a,_ :: p=>nav a p
 | .block _ a,_ :: p=>nav a p
 | .cond _ a _,0 :: p=>nav a p
 | .cond _ _ b,_ :: p=>nav b p
 | .scope a,_ :: p=>nav a p
 | c,_ :: _=>c
def bodyOf(f : Func): Code:=f.body.getD .skip
inductive Out (S R : Type) where
 | done (s : S)
 | ret (r : R)
theorem zF{α β : Type}{x : Option α}{f : α -> Option β}{r : β}(h : (x >>= f) = some r): ∃y,x = some y /\ f y = some r:=by
 cases x with
 | none=>cases h
 | some y=>exact⟨y,rfl,h⟩
theorem zB{α : Type}{x r : α}(h : (pure x : Option α) = some r): x = r:=by cases h;rfl
section
variable {P : Program} {n : Nat} {B : Base} {Q : Exit -> Act -> World -> Prop} {imm : Imm} {hs : List HA} {m : FM} {aa : List Oper} {pc d : Nat}
theorem zA0{c : Code}(S : Imm -> List HA -> FM -> Prop)(h : J P n B c (Exit.then (λa w => ∃af aj m',S af aj m' /\ Fr n a m' /\ Good B af aj w) Q) imm hs m)(k : ∀af aj m',S af aj m' -> T n B Q .normal af aj m'): J P n B c Q imm hs m:=
 λa w f g=>wp_mono (h a w f g) λe a' w' he=>by
  cases e with
  | normal=>obtain⟨af,aj,m',h1,h2,h3⟩:=he;exact k _ _ _ h1 a' w' h2 h3
  | _=>exact he
theorem zY{S : Imm -> List HA -> FM -> Prop}(h : S imm hs m): T n B (Exit.then (λa w => ∃af aj m',S af aj m' /\ Fr n a m' /\ Good B af aj w) Q) .normal imm hs m:=λ_ _ f g=>⟨imm,hs,m,h,f,g⟩
theorem nN{α : Type}{c : Bool}{X Y : Option α}{r : α}(hc : c = true)(h : (if c = true then X else Y) = some r): X = some r:=by rwa[if_pos hc] at h
theorem oK{α : Type}{c : Bool}{X Y : Option α}{r : α}(hc : c = false)(h : (if c = true then X else Y) = some r): Y = some r:=by rwa[if_neg (by rw[hc];decide)] at h
def quo(x y : Int): Option Int:=if y = 0 then none else some (IntKind.i64.wrap (x.tdiv y))
def rem(x y : Int): Option Int:=if y = 0 then none else some (x.tmod y)
section
variable {ty : TypeId} {pos : String} {after : Array Edge} {g : Option (Nat × Bool)}
theorem zJl{α : Type}[Rp α]{t : TypeId}{x xi : Operand}{v : Value}{k : IntKind}{i : Int}{l : List α}{y : α}
 (ho : aa[pc]? = some ⟨some d,.indexAddr t x xi,ty,pos,after,g⟩) (hg : guardB aa m g = some true) (hn : Nat.blt d n = true) (hx : val m x = some v) (hi : val m xi = some (.int k i)) (ht : elemT P t = some (Rp.sz α))
 (aj : SL imm v l) (hy : idx l i = some y) (next : ∀ad aF,At imm ad aF -> Rp.rep imm aF y -> Rq P n B aa Q (pc+1) imm hs ((d,.pointer (some ad)) :: m)) : Rq P n B aa Q pc imm hs m:=by
 obtain⟨ad,aF,av,aq,hrd⟩:=zJk (P:=P) (n:=n) (B:=B) (hs:=hs) hx hi ht aj hy
 exact zE5 ho hg rfl hn hrd (next ad aF av aq)
theorem zIk{t : TypeId}{x : Operand}{ad : Addr}{cs cs' : List Value}{v : Value}(o : Nat)
 (ho : aa[pc]? = some ⟨some d,.load t x,ty,pos,after,g⟩) (hg : guardB aa m g = some true) (hn : Nat.blt d n = true) (av : At imm ad cs) (hx : val m x = some (.pointer (some (ad.add o))))
 (bt : Nat.ble o cs.length = true) (hc : (cs.drop o).take cs'.length = cs') (hv : loadV P t cs' = some v) (next : Rq P n B aa Q (pc+1) imm hs ((d,v) :: m)) : Rq P n B aa Q pc imm hs m:=
 zE5 ho hg rfl hn (zIj o av hx bt hc hv) next
theorem zIC{t : TypeId}{x : Operand}{b o : Nat}{c : Array Value}{cs : List Value}{v : Value}(j : Nat)
 (ho : aa[pc]? = some ⟨some d,.load t x,ty,pos,after,g⟩) (hg : guardB aa m g = some true) (hn : Nat.blt d n = true) (hj : hs[j]? = some (.blk b c)) (hx : val m x = some (.pointer (some ⟨b,o,none⟩)))
 (bt : Nat.ble (o+cs.length) c.size = true) (hc : (c.toList.drop o).take cs.length = cs) (hv : loadV P t cs = some v) (next : Rq P n B aa Q (pc+1) imm hs ((d,v) :: m)) : Rq P n B aa Q pc imm hs m:=
 zE5 ho hg rfl hn (zIB j hj hx bt hc hv) next
theorem zLF{t t2 : TypeId}{x y : Operand}{a b c : Str}(ho : aa[pc]? = some ⟨some d,.binOp .add t x y t2,ty,pos,after,g⟩)(hg : guardB aa m g = some true)(hn : Nat.blt d n = true)
 (hx : val m x = some (.string ⟨⟨a.l⟩⟩)) (hy : val m y = some (.string ⟨⟨b.l⟩⟩)) (h : cat a b = some c) (next : R P n B aa Q (pc+1) imm hs ((d,.string ⟨⟨c.l⟩⟩) :: m)) : R P n B aa Q pc imm hs m:=zK0 ho hg rfl hn (zKu hx hy h) next
end
def app{α : Type}(bytes : Nat)(l l2 : List α): Option (List α):=if(l.length+l2.length)*bytes<=140737488355328 then some (l++l2) else none
theorem zAo{α : Type}{bytes : Nat}{l l2 y : List α}(h : app bytes l l2 = some y): (l.length+l2.length)*bytes<=140737488355328 /\ l++l2 = y:=by
 unfold app at h
 split at h
 ·cases h;exact⟨by assumption,rfl⟩
 ·cases h
def RS(P : Program)(fn : Func)(B : Base)(post : Nat -> Imm -> List HA -> Value -> Prop)(imm : Imm)(hs : List HA)(m : FM): Prop:=
 ∃vs hs0,ResV P m hs fn.results.toList vs /\ (∀w,Good B imm hs w -> Good B imm hs0 w) /\ post B.w0.heap.size imm hs0 (tupV vs)
theorem yV{fn : Func}{post : Nat -> Imm -> List HA -> Value -> Prop}(h : RS P fn B post imm hs m): T n B (QB P fn B post) .ret imm hs m:=by
 obtain⟨vs,hs0,h1,h2,h3⟩:=h
 exact λ_ w f g=>⟨f.defers,_,zIA f g h1,imm,hs0,h3,h2 w g⟩
def pick(hs : List HA): List Nat -> Option (List HA)
 | []=>some []
 | i :: is=>match hs[i]?,pick hs is with|some A,some r=>some (A :: r)|_,_=>none
theorem zGS : ∀{hs : List HA},(hs.flatMap HA.fp).Nodup -> (∀A∈hs,A.fp.Nodup) /\ ∀{i j : Nat} {A A' : HA},hs[i]? = some A -> hs[j]? = some A' -> i ≠ j -> ∀b∈A.fp,b ∉ A'.fp
 | [],_=>⟨by simp,by simp⟩
 | A0 :: hs,h=>by
  rw[cg] at h
  obtain⟨h1,h2,h3⟩:=cz.1 h
  obtain⟨k1,k2⟩:=zGS h2
  refine⟨λA hA => ?_,λ{i j A A'} hi hj hne b hb hb' => ?_⟩
  ·rcases cP.1 hA with rfl|hA
   ·exact h1
   ·exact k1 A hA
  ·cases i with
   | zero=>
    cases j with
    | zero=>exact hne rfl
    | succ j=>
     simp at hi hj
     subst hi
     exact h3 b hb b (cB.2 ⟨A',cQ hj,hb'⟩) rfl
   | succ i=>
    cases j with
    | zero=>
     simp at hi hj
     subst hj
     exact h3 b hb' b (cB.2 ⟨A,cQ hi,hb⟩) rfl
    | succ j=>exact k2 (by simpa using hi) (by simpa using hj) (λe=>hne (by rw[e])) b hb hb'
theorem zE6{hs : List HA}: ∀{is : List Nat} {r : List HA},pick hs is = some r -> ∀A∈r,∃i∈is,hs[i]? = some A
 | [],r,h,A,hA=>by simp only[pick] at h;cases h;cases hA
 | i :: is,r,h,A,hA=>by
  simp only[pick] at h
  split at h
  ·rename_i A0 r' h1 h2
   cases h
   rcases cP.1 hA with rfl|hA
   ·exact⟨i,ci ..,h1⟩
   ·obtain⟨k,h3,h4⟩:=zE6 h2 A hA
    exact⟨k,cd _ h3,h4⟩
  ·cases h
theorem zDd{hs : List HA}(g : (hs.flatMap HA.fp).Nodup): ∀{is : List Nat} {r : List HA},pick hs is = some r -> is.Nodup -> (r.flatMap HA.fp).Nodup
 | [],r,h,_=>by simp only[pick] at h;cases h;simp
 | i :: is,r,h,hn=>by
  simp only[pick] at h
  split at h
  ·rename_i A0 r' h1 h2
   cases h
   obtain⟨n1,n2⟩:=List.nodup_cons.1 hn
   rw[cg]
   refine cz.2 ⟨(zGS g).1 _ (cQ h1),zDd g h2 n2,λb hb b' hb' e => ?_⟩
   subst e
   obtain⟨A,hA,hbA⟩:=cB.1 hb'
   obtain⟨k,h3,h4⟩:=zE6 h2 A hA
   exact(zGS g).2 h1 h4 (λe=>n1 (e ▸ h3)) b hb hbA
  ·cases h
theorem yN(is : List Nat){aj : List HA}(h : pick hs is = some aj)(hn : is.Nodup): ∀w,Good B imm hs w -> Good B imm aj w:=λ_ g=>
 g.sub (λA hA=>by obtain⟨i,_,h1⟩:=zE6 h A hA;exact cQ h1) (zDd g.nodup h hn)
theorem zO : ∀w,Good B imm hs w -> Good B imm [] w:=λ_ h=>h.sub (λ_ h=>by cases h) (by simp)
end
abbrev Fact:=Imm -> Value -> List HA -> Prop
def nofact : Fact:=λ_ _ _=>False
def dst0(aa : List Oper)(i : Nat): Option Nat:=match aa[i]? with|some o=>o.dst|none=>none
def allocAt(aa : List Oper)(x : Nat): Bool:=aa.any λq=>match q.dst,q.op with|some d,.alloc _=>Nat.beq d x|_,_=>false
def dstAt(aa : List Oper)(i : Nat): Option Nat:=match aa[i]? with
 | some o=>match o.dst with
  | some d=>some d
  | none=>match o.op with
   | .store _ (.tmp x) _=>bif allocAt aa x then some x else none
   | _=>none
 | none=>none
theorem zIl{aa : List Oper}{i d : Nat}(h : dst0 aa i = some d): dstAt aa i = some d:=by
 unfold dst0 at h
 unfold dstAt
 cases ho : aa[i]? with
 | none=>rw[ho] at h;cases h
 | some o=>
  rw[ho] at h
  simp only at h
  simp only[h]
def Ins(aa : List Oper)(φ : List Fact)(imm : Imm): List (Nat × Bool) -> FM -> List HA -> (FM -> List HA -> Prop) -> Prop
 | [],m,hs,K=>K m hs
 | (j,c) :: r,m,hs,K => ∀v hx,(φ.getD j nofact) imm v hx -> Ins aa φ imm r (match dstAt aa j with|some d=>(d,v) :: m|none=>m) (match c with|true=>hx++hs|false=>hs) K
def addM(aa : List Oper)(val : Nat -> Value): List (Nat × Bool) -> FM -> FM
 | [],m=>m
 | (j,_) :: r,m=>addM aa val r (match dstAt aa j with|some d=>(d,val j) :: m|none=>m)
def addH(hx : Nat -> List HA): List (Nat × Bool) -> List HA -> List HA
 | [],hs=>hs
 | (j,c) :: r,hs=>addH hx r (match c with|true=>hx j++hs|false=>hs)
theorem Ins.use{aa : List Oper}{φ : List Fact}{imm : Imm}{val : Nat -> Value}{hx : Nat -> List HA}{K : FM -> List HA -> Prop}: ∀(r : List (Nat × Bool)) {m : FM} {hs : List HA},(∀p∈r,(φ.getD p.1 nofact) imm (val p.1) (hx p.1)) -> Ins aa φ imm r m hs K -> K (addM aa val r m) (addH hx r hs)
 | [],_,_,_,h=>h
 | (j,c) :: r,_,_,hp,h=>Ins.use r (λp hp' => hp p (cd _ hp')) (h _ _ (hp _ (ci ..)))
def OutQ(n : Nat)(B : Base)(φi : Fact)(d : Option Nat)(imm : Imm)(hs0 : List HA): Exit -> Act -> World -> Prop:=λe a w=>
 e = .normal /\ a.defers = [] /\ ∃af v hx,imm.le af /\ φi af v hx /\ Good B af (hx++hs0) w /\ ∀d',d = some d' -> a.tmps[d']? = some v
def Bor(aa : List Oper)(φ : List Fact)(imm : Imm)(ins : List (Nat × Bool))(hf : List HA): Prop:=
 ∀p∈ins,p.2 = false -> aa.length<=p.1 -> ∃v hx hf',(φ.getD p.1 nofact) imm v hx /\ hf.Perm (hx++hf')
def Obl(P : Program)(n : Nat)(B : Base)(aa : List Oper)(φ : List Fact)(imm : Imm)(hsC : List HA)(m : FM)(i : Nat)(ins : List (Nat × Bool)): Prop:=
 ∀imm1 hf,imm.le imm1 -> Bor aa φ imm1 ins hf -> Ins aa φ imm1 ins m (hsC++hf) λm' aj=>R P n B (aa.take (i+1)) (OutQ n B (φ.getD i nofact) (dstAt aa i) imm1 (hsC++hf)) i imm1 aj m'
def Obls(P : Program)(n : Nat)(B : Base)(aa : List Oper)(φ : List Fact)(imm : Imm)(hsC : List HA)(m : FM): Nat -> List (List (Nat × Bool)) -> Prop
 | _,[]=>True
 | i,x :: xs=>Obl P n B aa φ imm hsC m i x /\ Obls P n B aa φ imm hsC m (i+1) xs
theorem Obls.at{P : Program}{n : Nat}{B : Base}{aa : List Oper}{φ : List Fact}{imm : Imm}{hsC : List HA}{m : FM}: ∀{k : Nat} {l : List (List (Nat × Bool))},Obls P n B aa φ imm hsC m k l -> ∀{i : Nat} {x : List (Nat × Bool)},l[i]? = some x -> Obl P n B aa φ imm hsC m (k+i) x
 | _,[],_,i,x,h=>by simp at h
 | k,y :: l,h,0,x,hx=>by simp at hx;subst hx;exact h.1
 | k,y :: l,h,i+1,x,hx=>by
  have:=Obls.at h.2 (i:=i) (by simpa using hx)
  rwa[show k+(i+1) = k+1+i from by omega]
def BaseG(φ : List Fact)(imm : Imm): Nat -> List (List HA) -> Prop
 | _,[]=>True
 | k,g :: gs=>(φ.getD k nofact) imm undef g /\ BaseG φ imm (k+1) gs
theorem BaseG.at{φ : List Fact}{imm : Imm}: ∀{k : Nat} {gs : List (List HA)},BaseG φ imm k gs -> ∀{i : Nat} {g : List HA},gs[i]? = some g -> (φ.getD (k+i) nofact) imm undef g
 | _,[],_,i,g,h=>by simp at h
 | k,x :: gs,h,0,g,hg=>by simp at hg;subst hg;exact h.1
 | k,x :: gs,h,i+1,g,hg=>by
  have:=BaseG.at h.2 (i:=i) (by simpa using hg)
  rwa[show k+(i+1) = k+1+i from by omega]
def MonoF(φ : List Fact): Prop := ∀j imm af v hx,imm.le af -> (φ.getD j nofact) imm v hx -> (φ.getD j nofact) af v hx
def Mono1(f : Fact): Prop := ∀imm af v hx,imm.le af -> f imm v hx -> f af v hx
def MonoL : List Fact -> Prop
 | []=>True
 | f :: fs=>Mono1 f /\ MonoL fs
theorem MonoL.mono : ∀{φ : List Fact},MonoL φ -> MonoF φ
 | [],_,j,_,_,_,_,_,h=>by simp[nofact] at h
 | f :: fs,h,0,i,i',v,hx,hl,h0=>h.1 i i' v hx hl h0
 | f :: fs,h,j+1,i,i',v,hx,hl,h0=>MonoL.mono h.2 j i i' v hx hl h0
def bound(o : Oper): List Nat:=(o.after.toList.filter λe=>Region.binds .any e).map (·.on)
def chkEdges(aa : List Oper)(s : Nat): Bool:=
 (List.range aa.length).all λi=>match aa[i]? with
  | some o=>(bound o).all (λe=>Nat.blt e i)&&(match o.guard with|some (g,_)=>Nat.blt g i|none=>true)&&(Nat.blt i s||(Nat.beq i s&&(List.range i).all (λe=>(bound o).contains e))||(Nat.blt s i&&(bound o).contains (i - 1)))
  | none=>true
def chkIns(aa : List Oper)(s nb : Nat)(ins : List (List (Nat × Bool))): Bool:=
 (List.range s).all λi=>match ins[i]?,aa[i]? with
  | some l,some o=>l.all (λp=>(Nat.ble aa.length p.1&&Nat.blt p.1 (aa.length+nb))||(Nat.blt p.1 s&&(bound o).contains p.1))&&((l.filter (·.2)).map (·.1)).Pairwise (· ≠ ·)
  | _,_=>false
def chkOnce(s : Nat)(ins : List (List (Nat × Bool))): Bool:=
 (List.range s).all λi=>(List.range s).all λi' => Nat.beq i i'||(ins.getD i []).all (λp => !p.2 || !((ins.getD i' []).contains (p.1,true)))
def chkTmp(aa : List Oper)(n s : Nat)(keys : List Nat): Bool:=
 (List.range s).all λi=>match dst0 aa i with
  | some d=>Nat.blt d n && !(keys.contains d)&&(List.range s).all (λj=>Nat.beq j i||match dst0 aa j with|some d' => !(Nat.beq d' d)|none=>true)
  | none=>true
def chkPse(aa : List Oper)(s : Nat): Bool:=
 (List.range s).all λj=>match aa[j]?,dst0 aa j,dstAt aa j with
  | some o,none,some d=>(List.range s).all λi=>match dst0 aa i with|some d' => !(Nat.beq d' d)||(bound o).contains i|none=>true
  | _,_,_=>true
def chkBor(aa : List Oper)(s : Nat)(ins : List (List (Nat × Bool))): Bool:=
 (List.range s).all λi=>(ins.getD i []).all λp=>p.2||Nat.blt p.1 aa.length||(List.range s).all λi' => !((ins.getD i' []).contains (p.1,true))||(match aa[i']? with|some o=>(bound o).contains i|none=>false)
def anyChk(aa : List Oper)(n s nb : Nat)(ins : List (List (Nat × Bool)))(keys : List Nat): Bool:=
 Nat.beq ins.length s&&Nat.ble s aa.length&&chkEdges aa s&&chkIns aa s nb ins&&chkOnce s ins&&chkTmp aa n s keys&&chkBor aa s ins&&chkPse aa s
structure AnyOk(aa : List Oper)(n s nb : Nat)(ins : List (List (Nat × Bool)))(keys : List Nat): Prop where
 len : ins.length = s
 le : s<=aa.length
 edge : ∀{i : Nat} {o : Oper},aa[i]? = some o -> ∀e∈bound o,e<i
 guard : ∀{i : Nat} {o : Oper} {g : Nat} {b : Bool},aa[i]? = some o -> o.guard = some (g,b) -> g<i
 order : ∀{i : Nat} {o : Oper},aa[i]? = some o -> s<=i -> (i = s /\ ∀e,e<i -> e∈bound o)∨(s<i /\ i - 1∈bound o)
 there : ∀{i : Nat} {l : List (Nat × Bool)} {o : Oper},ins[i]? = some l -> aa[i]? = some o -> ∀p∈l,(aa.length<=p.1 /\ p.1<aa.length+nb)∨(p.1<s /\ p.1∈bound o)
 apart : ∀{i : Nat} {l : List (Nat × Bool)},i<s -> ins[i]? = some l -> ((l.filter (·.2)).map (·.1)).Pairwise (· ≠ ·)
 once : ∀{i i' : Nat} {l l' : List (Nat × Bool)},i<s -> i'<s -> i ≠ i' -> ins[i]? = some l -> ins[i']? = some l' -> ∀j,(j,true)∈l -> (j,true) ∉ l'
 tmp : ∀{i d : Nat},i<s -> dst0 aa i = some d -> d<n /\ d ∉ keys
 own : ∀{i j d : Nat},i<s -> j<s -> j ≠ i -> dst0 aa i = some d -> dst0 aa j ≠ some d
 bor : ∀{i i' b : Nat} {l l' : List (Nat × Bool)} {o : Oper},i<s -> i'<s -> ins[i]? = some l -> (b,false)∈l -> aa.length<=b -> ins[i']? = some l' -> aa[i']? = some o -> (b,true)∈l' -> i∈bound o
 pse : ∀{i j d : Nat} {o : Oper},i<s -> j<s -> aa[j]? = some o -> dst0 aa j = none -> dstAt aa j = some d -> dst0 aa i = some d -> i∈bound o
theorem AnyOk.mk'{aa : List Oper}{n s nb : Nat}{ins : List (List (Nat × Bool))}{keys : List Nat}(h : anyChk aa n s nb ins keys = true): AnyOk aa n s nb ins keys:=by
 unfold anyChk at h
 simp only[cy] at h
 obtain⟨⟨⟨⟨⟨⟨⟨h1,h2⟩,h3⟩,h4⟩,h5⟩,h6⟩,h7⟩,h8⟩:=h
 have aU:=cC h1
 have ap:=cJ h2
 have lt_of : ∀{i : Nat} {o : Oper},aa[i]? = some o -> i<aa.length:=λe=>(ck.1 e).1
 have e3 : ∀{i : Nat} {o : Oper},aa[i]? = some o -> (bound o).all (λe=>Nat.blt e i) = true /\ (match o.guard with|some (g,_)=>Nat.blt g i|none=>true) = true /\ (Nat.blt i s||(Nat.beq i s&&(List.range i).all (λe=>(bound o).contains e))||(Nat.blt s i&&(bound o).contains (i - 1))) = true:=λ{i o} e=>by
  have:=cb.1 h3 i (cD.2 (lt_of e))
  simp only[e,cy] at this
  exact⟨this.1.1,this.1.2,this.2⟩
 have e4 : ∀{i : Nat} {o : Oper} {l},i<s -> ins[i]? = some l -> aa[i]? = some o -> _:=λ{i o l} hi hl ho=>by
  have:=cb.1 h4 i (cD.2 hi)
  simp only[hl,ho] at this
  exact this
 refine⟨aU,ap,λe x hx => ?_,λe hg => ?_,λ{i o} e hs => ?_,λ{i l o} hl ho p hp => ?_,λ{i l} hi hl => ?_,λ{i i' l l'} hi hi' hne hl hl' j hj => ?_,λ{i d} hi hd => ?_,λ{i j d} hi hj hne hd hd' => ?_,λ{i i' b l l' o} hi hi' hl hb hN hl' ho hb' => ?_,λ{i j d o} hi hj ho h0 hd hd' => ?_⟩
 ·simpa using cb.1 (e3 e).1 x hx
 ·have:=(e3 e).2.1;rw[hg] at this;simpa using this
 ·have:=(e3 e).2.2
  rw[d7,d7,cy,cy] at this
  rcases this with(h|⟨h0,h⟩)|⟨h0,h⟩
  ·exact absurd (by simpa using h) (Nat.not_lt.2 hs)
  ·exact .inl ⟨cC h0,λx hx=>by simpa using cb.1 h x (cD.2 hx)⟩
  ·exact .inr ⟨by simpa using h0,by simpa using h⟩
 ·have hi : i<s:=by rw[<- aU];exact(ck.1 hl).1
  have:=e4 hi hl ho
  rw[cy] at this
  have:=cb.1 this.1 p hp
  simpa using this
 ·obtain⟨o,ho⟩ : ∃o,aa[i]? = some o:=⟨_,b9 (by omega)⟩
  have:=e4 hi hl ho
  rw[cy] at this
  exact of_decide_eq_true this.2
 ·have:=cb.1 (cb.1 h5 i (cD.2 hi)) i' (cD.2 hi')
  rw[d7] at this
  rcases this with h|h
  ·exact absurd (cC h) hne
  ·have:=cb.1 h (j,true) (by simpa [List.getD,hl] using hj)
   simpa [List.getD,hl'] using this
 ·have:=cb.1 h6 i (cD.2 hi)
  simp only[hd,cy] at this
  exact⟨by simpa using this.1.1,by simpa using this.1.2⟩
 ·have:=cb.1 h6 i (cD.2 hi)
  simp only[hd,cy] at this
  have:=cb.1 this.2 j (cD.2 hj)
  simp[hd',hne] at this
 ·have:=cb.1 h7 i (cD.2 hi)
  have:=cb.1 this (b,false) (by simpa [List.getD,hl] using hb)
  simp only[en,d7] at this
  rcases this with h|h
  ·have h : b<aa.length:=by simpa using h
   omega
  ·have:=cb.1 h i' (cD.2 hi')
   have hg : (ins.getD i' []).contains (b,true) = true:=by simpa [List.getD,hl'] using hb'
   rw[hg,ho] at this
   simpa using this
 ·have:=cb.1 h8 j (cD.2 hj)
  simp only[ho,h0,hd] at this
  have:=cb.1 this i (cD.2 hi)
  simp only[hd'] at this
  simpa using this
theorem fT{aa : List Oper}{listed : Array Bool}{i : Nat}: i∈Region.ready .any aa.toArray listed↔i<aa.length /\ listed.getD i true = false /\ ∃o,aa[i]? = some o /\ ∀e∈bound o,listed.getD e false = true:=by
 unfold Region.ready
 simp only[d6,cD,List.size_toArray,cy,Bool.not_eq_true']
 constructor
 ·rintro⟨h1,h2,h3⟩
  refine⟨h1,h2,aa[i],b9 h1,λe he => ?_⟩
  have h4 : aa.toArray[i]? = some aa[i]:=by simp[h1]
  rw[h4] at h3
  simp only[Option.map_some,Option.getD_some] at h3
  unfold bound at he
  obtain⟨x,hx,rfl⟩:=de.1 he
  obtain⟨hx1,hx2⟩:=d6.1 hx
  have:=Array.all_eq_true_iff_forall_mem.1 h3 x (by simpa using hx1)
  simpa [hx2] using this
 ·rintro⟨h1,h2,o,ho,h3⟩
  refine⟨h1,h2,?_⟩
  have h4 : aa.toArray[i]? = some o:=by simpa using ho
  rw[h4]
  simp only[Option.map_some,Option.getD_some]
  rw[Array.all_eq_true_iff_forall_mem]
  intro x hx
  cases hb : Region.binds .any x with
  | false=>rfl
  | true=>
   simp only[cL,en]
   exact h3 _ (de.2 ⟨x,d6.2 ⟨by simpa using hx,hb⟩,rfl⟩)
theorem zAp{listed : Array Bool}{i j : Nat}{d : Bool}(h : i<listed.size): (listed.setIfInBounds i true).getD j d = if j = i then true else listed.getD j d:=by
 simp only[cG]
 by_cases e : j = i
 ·subst e;simp[h]
 ·rw[db (Ne.symm e)];simp[e]
def unl(N : Nat)(listed : Array Bool): Nat:=(List.range N).countP λj => !listed.getD j true
theorem zID{l : List Nat}{p q : Nat -> Bool}{i : Nat}(hi : i∈l)(hp : p i = true)(hq : q i = false)(h : ∀j,q j = true -> p j = true): l.countP q<l.countP p:=by
 induction l with
 | nil=>cases hi
 | cons x l ih=>
  have ap : l.countP q<=l.countP p:=List.countP_mono_left λj _ hj=>h j hj
  simp only[List.countP_cons]
  rcases cP.1 hi with rfl|hi
  ·simp[hp,hq];omega
  ·have:=ih hi
   cases hx : q x with
   | true=>simp[h x hx];omega
   | false=>cases p x <;> simp <;> omega
theorem zK2{N i : Nat}{listed : Array Bool}(hs : listed.size = N)(hi : i<N)(hl : listed.getD i true = false): unl N (listed.setIfInBounds i true)<unl N listed:=by
 unfold unl
 refine zID (i:=i) (cD.2 hi) (by simp[hl]) (by rw[zAp (by omega)];simp) λj hj => ?_
 rw[zAp (by omega)] at hj
 split at hj
 ·simp at hj
 ·exact hj
section
variable {P : Program} {n : Nat} {B : Base} {Q : Exit -> Act -> World -> Prop} {imm : Imm} {hs : List HA} {m : FM} {aa : List Oper}
theorem zH1{s nb : Nat}{ins : List (List (Nat × Bool))}{keys : List Nat}(hc : AnyOk aa n s nb ins keys): ∀(fuel k : Nat) (listed : Array Bool) (a : Act) (w : World),s<=k -> k<=aa.length -> aa.length - k<=fuel -> listed.size = aa.length -> (∀j d,j<aa.length -> listed.getD j d = decide (j<k)) ->
 wpL P aa.toArray Q (aa.drop k) a w -> wpAny P .any aa.toArray Q fuel listed a w:=by
 intro fuel
 induction fuel with
 | zero=>
  intro k listed a w h1 h2 h3 bv hl h
  have hk : k = aa.length:=by omega
  subst hk
  rw[List.drop_length] at h
  refine⟨?_,h⟩
  rw[List.eq_nil_iff_forall_not_mem]
  intro i hi
  obtain⟨h4,h5,_⟩:=fT.1 hi
  rw[hl _ _ h4] at h5
  simp[h4] at h5
 | succ fuel ih=>
  intro k listed a w h1 h2 h3 bv hl h
  have hrd : ∀i,i∈Region.ready .any aa.toArray listed -> i = k:=λi hi=>by
   obtain⟨h4,h5,o,ho,h6⟩:=fT.1 hi
   rw[hl _ _ h4] at h5
   have h5 : ¬ i<k:=by simpa using h5
   rcases dd k i with h7|h7
   ·rcases hc.order ho (by omega) with⟨h8,h9⟩|⟨h8,h9⟩
    ·omega
    ·have:=h6 _ h9
     rw[hl _ _ (by omega)] at this
     simp at this
     omega
   ·omega
  refine⟨λh0 => ?_,λi hi => ?_⟩
  ·rcases dd k aa.length with hk|hk
   ·have : k∈Region.ready .any aa.toArray listed:=fT.2 ⟨hk,by rw[hl _ _ hk];simp,aa[k],b9 hk,λe he=>by
     have:=hc.edge (b9 hk) e he
     rw[hl _ _ (by omega)];simp[this]⟩
    rw[h0] at this;cases this
   ·have hk : k = aa.length:=by omega
    subst hk
    rw[List.drop_length] at h
    exact h
  ·have:=hrd i hi
   subst this
   have hk:=(fT.1 hi).1
   have ho : aa[i]? = some aa[i]:=b9 hk
   rw[zBJ ho] at h
   simp only[wpL] at h
   have next : ∀a w,wpL P aa.toArray Q (aa.drop (i+1)) a w -> wpAny P .any aa.toArray Q fuel (listed.setIfInBounds i true) a w:=λa w h=>
    ih (i+1) _ a w (by omega) (by omega) (by omega) (by simpa using bv) (λj d hj=>by
     rw[zAp (by omega),hl _ _ hj]
     by_cases e : j = i
     ·subst e;simp
     ·have : decide (j<i+1) = decide (j<i):=by simp;omega
      rw[this];simp[e]) h
   unfold wpOp
   have h4 : aa.toArray[i]? = some aa[i]:=by simp[hk]
   rw[h4]
   split
   ·rename_i he;cases he
   ·rename_i o he
    injection he with he
    subst he
    split
    ·rename_i hw;rw[if_pos hw] at h;exact .inl (Oper.wp_mono next h)
    ·rename_i hw;rw[if_neg hw] at h;exact next _ _ h
theorem zKv{o : Oper}{a : Act}{w : World}{K K' : Act -> World -> Prop}{Q' : Exit -> Act -> World -> Prop}(hQ : ∀e a w,Q' e a w -> e = .normal)
 (hh : o.wp P a w K Q') (bH : ∀v w',K (a.put o.dst v) w' -> K' (a.put o.dst v) w') (hdef : ∀d w',¬ K ({ a with defers:=d :: a.defers }.put o.dst undef) w') : o.wp P a w K' Q:=by
 unfold Oper.wp at *
 generalize (execOp a.eval o).run P w = r at *
 cases r with
 | ok x w' =>
  cases x <;> simp only[Oper.upon] at hh ⊢
  case value=>exact bH _ _ hh
  case skip=>exact bH _ _ hh
  case defer=>exact absurd hh (hdef _ _)
  case enter=>
   refine Calls.mono hh λe w'' he => ?_
   cases e with
   | returned v=>exact bH _ _ he
   | panicked c=>cases hQ _ _ _ he
   | outgrown=>
    obtain⟨a1,w1,he⟩:=he
    cases hQ _ _ _ he
  case row=>exact Rows.mono hh λ_ _ he=>bH _ _ he
 | halt x w' =>
  cases x <;> simp only[Oper.upon] at hh ⊢
  case panic=>cases hQ _ _ _ hh
structure AnyInv(n : Nat)(B : Base)(aa : List Oper)(s nb : Nat)(ins : List (List (Nat × Bool)))(φ : List Fact)(imm : Imm)(hsC : List HA)(m : FM)(listed : Array Bool)(a : Act)(w : World)
 (af : Imm) (val : Nat -> Value) (hx : Nat -> List HA) (live : List Nat) : Prop where
 le : imm.le af
 good : Good B af (hsC++live.flatMap hx) w
 defers : a.defers = []
 size : a.tmps.size = n
 base : ∀k v,look m k = some v -> a.tmps[k]? = some v
 lsz : listed.size = aa.length
 lst : ∀j,listed.getD j false = true -> j<s
 fact : ∀j,(listed.getD j false = true∨(aa.length<=j /\ j<aa.length+nb)) -> (φ.getD j nofact) af (val j) (hx j)
 slot : ∀j d,listed.getD j false = true -> dstAt aa j = some d -> a.tmps[d]? = some (val j)
 live : ∀j,(listed.getD j false = true∨(aa.length<=j /\ j<aa.length+nb)) -> (∀i l,listed.getD i false = true -> ins[i]? = some l -> (j,true) ∉ l) -> j∈live
 closed : ∀i o,listed.getD i false = true -> aa[i]? = some o -> ∀e∈bound o,listed.getD e false = true
theorem zFN{val : Nat -> Value}{a : Act}{tm : Nat -> Option Value}: ∀(r : List (Nat × Bool)) {m : FM},(∀p∈r,∀d,dstAt aa p.1 = some d -> a.tmps[d]? = some (val p.1)) -> (∀k v,look m k = some v -> a.tmps[k]? = some v) -> ∀k v,look (addM aa val r m) k = some v -> a.tmps[k]? = some v
 | [],_,_,h2=>h2
 | (j,c) :: r,m,h1,h2=>by
  refine zFN (tm:=tm) r (λp hp=>h1 p (cd _ hp)) (λk v hk => ?_)
  split at hk
  ·rename_i d hd
   by_cases e : d = k
   ·subst e;rw[kT] at hk;cases hk;exact h1 _ (ci ..) _ hd
   ·rw[oJ _ _ e] at hk;exact h2 _ _ hk
  ·exact h2 _ _ hk
theorem zDM{hx : Nat -> List HA}: ∀(r : List (Nat × Bool)) (live : List Nat),(∀p∈r,p.2 = true -> p.1∈live) -> ((r.filter (·.2)).map (·.1)).Pairwise (· ≠ ·) ->
 ∃live' : List Nat,(∀j∈live,(j,true) ∉ r -> j∈live') /\ ∀X : List HA,(X++live.flatMap hx).Perm (addH hx r (X++live'.flatMap hx))
 | [],live,_,_=>⟨live,λ_ h _=>h,λ_=>.refl _⟩
 | (j,false) :: r,live,h1,h2=>by
  obtain⟨l',h3,h4⟩:=zDM (hx:=hx) r live (λp hp=>h1 p (cd _ hp)) (by simpa using h2)
  exact⟨l',λj' hj hn=>h3 j' hj (λh=>hn (cd _ h)),h4⟩
 | (j,true) :: r,live,h1,h2=>by
  have h2' : (∀x∈(r.filter (·.2)).map (·.1),j ≠ x) /\ ((r.filter (·.2)).map (·.1)).Pairwise (· ≠ ·):=by
   simpa only [List.filter_cons,if_true,cA,List.pairwise_cons] using h2
  have hj:=h1 _ (ci ..) rfl
  obtain⟨l',h3,h4⟩:=zDM (hx:=hx) r (live.erase j) (λp hp ht=>by
   refine(List.mem_erase_of_ne ?_).2 (h1 p (cd _ hp) ht)
   exact(h2'.1 _ (de.2 ⟨p,d6.2 ⟨hp,ht⟩,rfl⟩)).symm) h2'.2
  refine⟨l',λj' hj' hn=>h3 j' ((List.mem_erase_of_ne ?_).2 hj') (λh=>hn (cd _ h)),λX=>.trans ?_ (.trans (h4 (hx j++X)) (.of_eq ?_))⟩
  ·intro e;subst e;exact hn (ci ..)
  ·have hp : (live.flatMap hx).Perm (hx j++(live.erase j).flatMap hx):=by
    have:=(List.perm_cons_erase hj).flatMap_right hx
    simpa [cg] using this
   refine(List.Perm.append_left X hp).trans ?_
   rw[<- bZ]
   exact List.Perm.append_right _ cf
  ·simp only[addH,bZ]
theorem zDa{aa : List Oper}{i : Nat}{o : Oper}(ho : aa[i]? = some o): (aa.take (i+1)).drop i = [o]:=by
 have aH:=(ck.1 ho).1
 rw[ef,zBJ ho]
 simp
theorem zIE{aa : List Oper}{i : Nat}{o : Oper}{t : Array Value}(hg : ∀g b,o.guard = some (g,b) -> g<i): Region.wanted o (yielded (aa.take (i+1)).toArray t) = Region.wanted o (yielded aa.toArray t):=by
 unfold Region.wanted
 cases h : o.guard with
 | none=>rfl
 | some g=>
  obtain⟨j,b⟩:=g
  have:=hg j b h
  simp only[yielded]
  have e : (aa.take (i+1)).toArray[j]? = aa.toArray[j]? := by
   simp only[dt]
   rw[List.getElem?_take_of_lt (by omega)]
  rw[e]
theorem zC6{α β : Type}{f g : α -> List β}: ∀{l : List α},(∀x∈l,f x = g x) -> l.flatMap f = l.flatMap g
 | [],_=>rfl
 | x :: l,h=>by rw[cg,cg,h x (ci ..),zC6 λy hy=>h y (cd _ hy)]
theorem zCN{α β : Type}{f : α -> List β}{l l' : List α}(h : l'.Sublist l): (l'.flatMap f).Sublist (l.flatMap f):=by
 induction h with
 | slnil=>exact List.Sublist.refl _
 | cons a _ ih=>rw[cg];exact ih.trans (List.sublist_append_right ..)
 | cons_cons a _ ih=>rw[cg,cg];exact List.Sublist.append_left ih _
theorem Good.sublist{w : World}(h : Good B imm hs w){aj : List HA}(hs1 : aj.Sublist hs): Good B imm aj w:=
 h.sub (λ_ hA=>hs1.subset hA) ((zCN hs1).nodup h.nodup)
theorem AnyInv.step{s nb : Nat}{ins : List (List (Nat × Bool))}{keys : List Nat}(hc : AnyOk aa n s nb ins keys){φ : List Fact}(hφ : MonoF φ){hsC : List HA}(hk : ∀k v,look m k = some v -> k∈keys)(hob : Obls P n B aa φ imm hsC m 0 ins)
 {listed : Array Bool} {a : Act} {w : World} {imm1 : Imm} {val : Nat -> Value} {hx : Nat -> List HA} {live : List Nat} (h : AnyInv n B aa s nb ins φ imm hsC m listed a w imm1 val hx live) {i : Nat} (hi : i<s) (hr : i∈Region.ready .any aa.toArray listed)
 {K : Act -> World -> Prop} (hK : ∀a' w' af val' hx' live',AnyInv n B aa s nb ins φ imm hsC m (listed.setIfInBounds i true) a' w' af val' hx' live' -> K a' w') : wpOp P aa.toArray Q i K a w:=by
 obtain⟨aH,hnl,o,ho,hrd⟩:=fT.1 hr
 have hnl' : listed.getD i false = false:=by
  have : i<listed.size:=by rw[h.lsz];exact aH
  simp only[cG,cS this,Option.getD_some] at hnl ⊢
  exact hnl
 obtain⟨l,hl⟩ : ∃l,ins[i]? = some l:=⟨_,b9 (by rw[hc.len];exact hi)⟩
 have hthere : ∀p∈l,listed.getD p.1 false = true∨(aa.length<=p.1 /\ p.1<aa.length+nb):=λp hp=>by
  rcases hc.there hl ho p hp with h1|⟨_,h1⟩
  ·exact .inr h1
  ·exact .inl (hrd _ h1)
 have hlive : ∀p∈l,p.2 = true -> p.1∈live:=λp hp ht=>by
  refine h.live _ (hthere p hp) λi' l' hi' hl' hm => ?_
  have hne : i ≠ i' := λe=>by subst e;rw[hnl'] at hi';cases hi'
  have hp' : (p.1,true)∈l:=by rw[<- ht];exact hp
  exact hc.once hi (h.lst _ hi') hne hl hl' _ hp' hm
 obtain⟨live',h3,h4⟩:=zDM (hx:=hx) l live hlive (hc.apart hi hl)
 have hR:=Ins.use (val:=val) (hx:=hx) l (λp hp=>h.fact _ (hthere p hp)) (by
  have:=hob.at hl imm1 (live'.flatMap hx) h.le (λp hp hpf hN=>by
   have hin : aa.length<=p.1 /\ p.1<aa.length+nb:=by
    rcases hthere p hp with h1|h1
    ·have:=h.lst _ h1;have:=hc.le;omega
    ·exact h1
   have hpl : (p.1,false)∈l:=by rw[<- hpf];exact hp
   have hnt : ∀i' l' o',i'<s -> ins[i']? = some l' -> aa[i']? = some o' -> (p.1,true)∈l' -> i∈bound o' := λi' l' o' hi' hl' ho' hm=>hc.bor hi hi' hl hpl hin.1 hl' ho' hm
   have hlv : p.1∈live:=h.live _ (.inr hin) λi' l' hi' hl' hm=>by
    have his:=h.lst _ hi'
    have hlt' : i'<aa.length:=by have:=hc.le;omega
    have:=h.closed i' _ hi' (b9 hlt') i (hnt i' l' _ his hl' (b9 hlt') hm)
    rw[hnl'] at this;cases this
   have hlv' := h3 _ hlv λhm=>by
    have:=hc.edge ho i (hnt i l o hi hl ho hm)
    omega
   refine⟨val p.1,hx p.1,(live'.erase p.1).flatMap hx,h.fact _ (.inr hin),?_⟩
   have:=(List.perm_cons_erase hlv').flatMap_right hx
   simpa [cg] using this)
  rw[cu] at this
  exact this)
 have hfr : Fr n a (addM aa val l m):=⟨h.defers,h.size,zFN (tm:=λ_=>none) l (λp hp d hd=>by
  rcases hthere p hp with h1|⟨h1,_⟩
  ·exact h.slot _ _ h1 hd
  ·unfold dstAt at hd
   rw[dh h1] at hd
   cases hd) h.base⟩
 have hg : Good B imm1 (addH hx l (hsC++live'.flatMap hx)) w:=h.good.perm (h4 hsC).symm
 have hw:=hR a w hfr hg
 rw[zDa ho] at hw
 have bv : i<listed.size:=by rw[h.lsz];exact aH
 have fin : ∀v w',OutQ n B (φ.getD i nofact) (dstAt aa i) imm1 (hsC++live'.flatMap hx) .normal (a.put o.dst v) w' -> K (a.put o.dst v) w' := λv w' hq=>by
  obtain⟨_,hdf,af,v',hx',ap,hf,hg',aj⟩:=hq
  have hdst : dst0 aa i = o.dst:=by simp[dst0,ho]
  have hput : ∀k,o.dst ≠ some k -> (a.put o.dst v).tmps[k]? = a.tmps[k]? := λk hne=>by
   cases hd : o.dst with
   | none=>rfl
   | some d=>
    have : d ≠ k:=λe=>hne (by rw[hd,e])
    simp only[Act.put]
    rw[db this]
  have hold : ∀j,j ≠ i -> (if j = i then v' else val j) = val j:=λj hj=>by simp[hj]
  have hold2 : ∀j,j ≠ i -> (if j = i then hx' else hx j) = hx j:=λj hj=>by simp[hj]
  refine hK _ _ af (λj=>if j = i then v' else val j) (λj=>if j = i then hx' else hx j) (i :: live'.filter (λj=>j != i)) ?_
  have hlisted : ∀j,(listed.setIfInBounds i true).getD j false = true -> j = i∨(j ≠ i /\ listed.getD j false = true):=λj hj=>by
   rw[zAp bv] at hj
   by_cases e : j = i
   ·exact .inl e
   ·rw[if_neg e] at hj;exact .inr ⟨e,hj⟩
  refine⟨h.le.trans ap,?_,hdf,?_,λk u hu => ?_,by simpa using h.lsz,λj hj => ?_,λj hj => ?_,λj d hj hd => ?_,λj hj hn => ?_,λi' o' hi' ho' e he => ?_⟩
  ·have e1 : (i :: live'.filter (λj=>j != i)).flatMap (λj=>if j = i then hx' else hx j) = hx'++(live'.filter (λj=>j != i)).flatMap hx:=by
    rw[cg]
    simp only[if_true]
    congr 1
    refine zC6 λj hj => ?_
    have:=(d6.1 hj).2
    have : j ≠ i:=by simpa using this
    simp[this]
   rw[e1]
   refine Good.perm (Good.sublist hg' (aj:=hx'++(hsC++(live'.filter (λj=>j != i)).flatMap hx)) ?_) ?_
   ·exact List.Sublist.append_left (List.Sublist.append_left (zCN List.filter_sublist) _) _
   ·rw[<- bZ,<- bZ]
    exact List.Perm.append_right _ cf
  ·cases hd : o.dst <;> simp[Act.put,h.size]
  ·rw[hput k (λe => ?_)]
   ·exact h.base k u hu
   ·exact(hc.tmp hi (hdst.trans e)).2 (hk _ _ hu)
  ·rcases hlisted j hj with e|⟨_,e⟩
   ·subst e;exact hi
   ·exact h.lst j e
  ·by_cases e : j = i
   ·subst e;simpa using hf
   ·simp only[hold j e,hold2 j e]
    refine hφ _ _ _ _ _ ap (h.fact j ?_)
    rcases hj with hj|hj
    ·rcases hlisted j hj with e' | ⟨_,e'⟩
     ·exact absurd e' e
     ·exact .inl e'
    ·exact .inr hj
  ·by_cases e : j = i
   ·subst e;simpa using aj d hd
   ·simp only[hold j e]
    have hj' : listed.getD j false = true:=by
     rcases hlisted j hj with e' | ⟨_,e'⟩
     ·exact absurd e' e
     ·exact e'
    rw[hput d (λe' => by
     obtain⟨oj,hoj⟩ : ∃oj,aa[j]? = some oj:=⟨_,b9 (by have:=h.lst j hj';have:=hc.le;omega)⟩
     cases hj0 : dst0 aa j with
     | some d2=>
      have h9:=zIl hj0
      rw[hd] at h9;cases h9
      exact hc.own hi (h.lst j hj') e (hdst.trans e') hj0
     | none=>
      have h9:=h.closed j oj hj' hoj i (hc.pse hi (h.lst j hj') hoj hj0 hd (hdst.trans e'))
      rw[hnl'] at h9;cases h9)]
    exact h.slot j d hj' hd
  ·by_cases e : j = i
   ·subst e;exact ci ..
   ·refine cd _ (d6.2 ⟨?_,by simpa using e⟩)
    have hj' : listed.getD j false = true∨(aa.length<=j /\ j<aa.length+nb):=by
     rcases hj with hj|hj
     ·rcases hlisted j hj with e' | ⟨_,e'⟩
      ·exact absurd e' e
      ·exact .inl e'
     ·exact .inr hj
    refine h3 j (h.live j hj' λi' l' hi' hl' => hn i' l' ?_ hl') (hn i l ?_ hl)
    ·rw[zAp bv];split
     ·rfl
     ·exact hi'
    ·rw[zAp bv];simp
  ·rw[zAp bv];split
   ·rfl
   ·rcases hlisted i' hi' with e' | ⟨_,e'⟩
    ·subst e';rw[ho] at ho';cases ho';exact hrd _ he
    ·exact h.closed i' o' e' ho' e he
 unfold wpOp
 have h5 : aa.toArray[i]? = some o:=by simpa using ho
 rw[h5]
 simp only[wpL] at hw
 rw[zIE (λg b e=>hc.guard ho e)] at hw
 simp only[]
 split
 ·rename_i hwt
  rw[if_pos hwt] at hw
  refine .inl (zKv (λe a w h=>h.1) hw fin λd w' hq => ?_)
  have h7:=hq.2.1
  cases hd : o.dst <;> rw[hd] at h7 <;> cases h7
 ·rename_i hwt
  rw[if_neg hwt] at hw
  exact fin _ _ hw
theorem zIm{s nb : Nat}{ins : List (List (Nat × Bool))}{keys : List Nat}(hc : AnyOk aa n s nb ins keys){φ : List Fact}(hφ : MonoF φ){hsC : List HA}(hk : ∀k v,look m k = some v -> k∈keys)(hob : Obls P n B aa φ imm hsC m 0 ins)
 (hend : ∀a w imm1 val hx live listed,AnyInv n B aa s nb ins φ imm hsC m listed a w imm1 val hx live -> (∀j,j<s -> listed.getD j false = true) -> wpL P aa.toArray Q (aa.drop s) a w) :
 ∀(fuel : Nat) (listed : Array Bool) (a : Act) (w : World),unl aa.length listed<=fuel -> (∃imm1 val hx live,AnyInv n B aa s nb ins φ imm hsC m listed a w imm1 val hx live) -> wpAny P .any aa.toArray Q fuel listed a w:=by
 intro fuel
 have early : ∀(fuel : Nat) (listed : Array Bool) (a : Act) (w : World),unl aa.length listed<=fuel -> (∃imm1 val hx live,AnyInv n B aa s nb ins φ imm hsC m listed a w imm1 val hx live) -> (∀j,j<s -> listed.getD j false = true) -> wpAny P .any aa.toArray Q fuel listed a w:=by
  rintro fuel listed a w hu ⟨imm1,val,hx,live,h⟩ hall
  refine zH1 hc fuel s listed a w (cH _) hc.le ?_ h.lsz (λj d hj => ?_) (hend a w imm1 val hx live listed h hall)
  ·have ap : ((List.range aa.length).countP λj=>decide (s<=j))<=unl aa.length listed:=by
    refine List.countP_mono_left λj hj hs => ?_
    have hs : s<=j:=by simpa using hs
    have : j<listed.size:=by rw[h.lsz];exact cD.1 hj
    cases hl : listed.getD j true with
    | false=>rfl
    | true=>
     have:=h.lst j (by
      simp only[cG,cS this,Option.getD_some] at hl ⊢
      exact hl)
     omega
   have hcnt : ∀N,((List.range N).countP λj=>decide (s<=j)) = N - s:=by
    intro N
    induction N with
    | zero=>simp
    | succ N ih=>
     rw[List.range_succ,List.countP_append,ih]
     by_cases h : s<=N <;> simp[h] <;> omega
   rw[hcnt] at ap
   omega
  ·have hjs : j<listed.size:=by rw[h.lsz];exact hj
   rcases dd j s with h1|h1
   ·have:=hall j h1
    simp only[cG,cS hjs,Option.getD_some] at this ⊢
    simp[this,h1]
   ·cases hl : listed.getD j d with
    | false=>simp;omega
    | true=>
     have:=h.lst j (by
      simp only[cG,cS hjs,Option.getD_some] at hl ⊢
      exact hl)
     omega
 induction fuel with
 | zero=>
  rintro listed a w hu hI
  refine early 0 listed a w hu hI λj hj => ?_
  obtain⟨imm1,val,hx,live,h⟩:=hI
  have ap:=hc.le
  have h0 : unl aa.length listed = 0:=by omega
  unfold unl at h0
  rw[List.countP_eq_zero] at h0
  have:=h0 j (cD.2 (by omega))
  have hjs : j<listed.size:=by rw[h.lsz];omega
  simp only[cG,cS hjs,Option.getD_some,Bool.not_eq_true',Bool.not_eq_false] at this ⊢
  simpa using this
 | succ fuel ih=>
  rintro listed a w hu hI
  by_cases hall : ∀j,j<s -> listed.getD j false = true
  ·exact early _ listed a w hu hI hall
  ·obtain⟨imm1,val,hx,live,h⟩:=hI
   have aH : ∀i∈Region.ready .any aa.toArray listed,i<s:=λi hi=>by
    obtain⟨h4,h5,o,ho,h6⟩:=fT.1 hi
    rcases dd i s with h7|h7
    ·exact h7
    ·rcases hc.order ho h7 with⟨h8,h9⟩|⟨h8,h9⟩
     ·exact absurd (λj hj=>h6 j (h9 j (by omega))) hall
     ·have hl:=h6 _ h9
      have:=h.lst (i - 1) (by
       have bv:=h.lsz
       have hi : i - 1<listed.size:=by omega
       simp only[cG,cS hi,Option.getD_some] at hl ⊢
       exact hl)
      omega
   refine⟨λh0 => ?_,λi hi => ?_⟩
   ·refine absurd (λj hj => ?_) hall
    have ap:=hc.le
    have key : ∀N j,j<N -> j<s -> listed.getD j false = true:=by
     intro N
     induction N with
     | zero=>intro j hj;omega
     | succ N ihN=>
      intro j hj hjs
      cases hl : listed.getD j false with
      | true=>rfl
      | false=>
       have hjz : j<listed.size:=by rw[h.lsz];omega
       have : j∈Region.ready .any aa.toArray listed:=fT.2 ⟨by omega,by
        simp only[cG,cS hjz,Option.getD_some] at hl ⊢
        exact hl,aa[j],b9 (by omega),λe he=>by
         have hej:=hc.edge (b9 (by omega)) e he
         exact ihN e (by omega) (by omega)⟩
       rw[h0] at this;cases this
    exact key (j+1) j (by omega) hj
   ·have hilt:=aH i hi
    obtain⟨h4,h5,_⟩:=fT.1 hi
    refine h.step hc hφ hk hob hilt hi λa' w' af val' hx' live' h' => ih _ a' w' ?_ ⟨af,val',hx',live',h'⟩
    have:=zK2 (N:=aa.length) h.lsz h4 h5
    omega
def finChk(aa : List Oper)(s nb : Nat)(ins : List (List (Nat × Bool)))(fin : List (Nat × Bool)): Bool:=
 fin.all (λp=>(Nat.ble aa.length p.1&&Nat.blt p.1 (aa.length+nb))||Nat.blt p.1 s)&&((fin.filter (·.2)).map (·.1)).Pairwise (· ≠ ·)&&fin.all (λp => !p.2||ins.all (λl => !(l.contains (p.1,true))))
theorem zC7{hx : Nat -> List HA}: ∀(r : List (Nat × Bool)) (X Y : List HA),addH hx r (X++Y) = addH hx r X++Y
 | [],_,_=>rfl
 | (j,true) :: r,X,Y=>by simp only[addH];rw[<- bZ,zC7 r]
 | (j,false) :: r,X,Y=>by simp only[addH];rw[zC7 r]
theorem zIF : ∀{m : FM} {k : Nat} {v : Value},look m k = some v -> k∈m.map (·.1)
 | [],_,_,h=>by simp[look] at h
 | (k',v') :: m,k,v,h=>by
  by_cases e : k' = k
  ·subst e;simp
  ·rw[oJ _ _ e] at h
   exact cd _ (zIF h)
theorem zH2{id : Nat}(s : Nat)(ins : List (List (Nat × Bool)))(φ : List Fact)(hsC : List HA)(gs : List (List HA))(fin : List (Nat × Bool))
 (hm : P.follows .mixedOrders = true) (hc : anyChk aa n s gs.length ins (m.map (·.1)) = true) (hf : finChk aa s gs.length ins fin = true) (hhs : ∀w,Good B imm hs w -> Good B imm (hsC++gs.flatten) w) (hφ : MonoL φ) (hg : BaseG φ imm aa.length gs)
 (hob : Obls P n B aa φ imm hsC m 0 ins)
 (hend : ∀imm1,imm.le imm1 -> Ins aa φ imm1 fin m hsC λm' aj=>R P n B aa Q s imm1 aj m') : J P n B (.region id aa.toArray true) Q imm hs m:=λa w f g=>by
 have hc:=AnyOk.mk' hc
 unfold finChk at hf
 simp only[cy] at hf
 obtain⟨⟨hf1,hf2⟩,hf3⟩:=hf
 refine wp_region_any hm (zIm (imm:=imm) (m:=m) (φ:=φ) (hsC:=hsC) hc hφ.mono (λk v hk => ?_) hob (λa w imm1 val hx live listed h hall => ?_) _ _ a _ ?_ ⟨imm,λ_=>undef,λj=>gs.getD (j - aa.length) [],(List.range gs.length).map (aa.length + ·),?_⟩)
 ·exact zIF hk
 ·have hin : ∀p∈fin,(listed.getD p.1 false = true∨(aa.length<=p.1 /\ p.1<aa.length+gs.length)):=λp hp=>by
   have:=cb.1 hf1 p hp
   simp only[d7,cy] at this
   rcases this with h1|h1
   ·exact .inr (by simpa using h1)
   ·exact .inl (hall _ (by simpa using h1))
  obtain⟨live',_,h4⟩:=zDM (hx:=hx) fin live (λp hp ht=>h.live _ (hin p hp) λi l hi hl hm' => by
   have:=cb.1 hf3 p hp
   rw[ht] at this
   simp only[cL,en] at this
   have:=cb.1 this l (cQ hl)
   simp[hm'] at this) (of_decide_eq_true hf2)
  have hR:=Ins.use (val:=val) (hx:=hx) fin (λp hp=>h.fact _ (hin p hp)) (hend imm1 h.le)
  refine hR a w ⟨h.defers,h.size,zFN (tm:=λ_=>none) fin (λp hp d hd => ?_) h.base⟩ ?_
  ·rcases hin p hp with h1|⟨h1,_⟩
   ·exact h.slot _ _ h1 hd
   ·unfold dstAt at hd
    rw[dh h1] at hd
    cases hd
  ·refine(h.good.perm (h4 hsC).symm).sublist ?_
   rw[zC7]
   exact List.sublist_append_left ..
 ·unfold unl
  exact dx List.countP_le_length (by simp)
 ·have e : ((List.range gs.length).map (aa.length + ·)).flatMap (λj=>gs.getD (j - aa.length) []) = gs.flatten:=by
   rw[List.flatMap_map]
   have : ∀(gs : List (List HA)),(List.range gs.length).flatMap (λk=>gs.getD (aa.length+k - aa.length) []) = gs.flatten:=by
    intro gs
    simp only[Nat.add_sub_cancel_left]
    induction gs with
    | nil=>rfl
    | cons x gs ih=>
     rw[cx,List.range_succ_eq_map,cg,List.flatMap_map,ey]
     simp only[List.getD_cons_zero,List.getD_cons_succ,ih]
   exact this gs
  have hfalse : ∀j,(Array.replicate aa.toArray.size false).getD j false = false:=λj=>by
   rw[cG]
   by_cases h : j<aa.length <;> simp[h]
  have none' : ∀j {α : Prop},(Array.replicate aa.toArray.size false).getD j false = true -> α:=λj _ h=>by rw[hfalse] at h;cases h
  refine⟨Imm.le.refl _,by rw[e];exact(hhs w g).draw _ (Nat.le_succ _),f.defers,f.size,f.holds,by simp,λj hj=>none' j hj,λj hj => ?_,λj d hj _=>none' j hj,λj hj _ => ?_,λi o hi _=>none' i hi⟩
  ·rcases hj with hj|⟨h1,h2⟩
   ·exact none' j hj
   ·have h3 : gs[j - aa.length]? = some gs[j - aa.length]:=b9 (by omega)
    have:=hg.at h3
    rw[show aa.length+(j - aa.length) = j from by omega] at this
    simpa [List.getD,h3] using this
  ·rcases hj with hj|⟨h1,h2⟩
   ·exact none' j hj
   ·exact de.2 ⟨j - aa.length,cD.2 (by omega),by omega⟩
theorem xQ{φ : List Fact}{K : FM -> List HA -> Prop}(h : K m hs): Ins aa φ imm [] m hs K:=h
theorem yI{φ : List Fact}{j : Nat}{c : Bool}{r : List (Nat × Bool)}{K : FM -> List HA -> Prop}(h : ∀v hx,(φ.getD j nofact) imm v hx -> Ins aa φ imm r (match dstAt aa j with|some d=>(d,v) :: m|none=>m) (match c with|true=>hx++hs|false=>hs) K): Ins aa φ imm ((j,c) :: r) m hs K:=h
theorem jK{aa : List Oper}{pc : Nat}{aj : List HA}(h1 : hs = aj)(h : R P n B aa Q pc imm aj m): R P n B aa Q pc imm hs m:=by subst h1;exact h
theorem rY{ops' : List Oper}{pc : Nat}{φi : Fact}{d : Option Nat}{imm1 : Imm}{hs0 : List HA}{v : Value}{hx : List HA}(h0 : ops'.drop pc = [])(ap : imm1.le imm)(hh : hs = hx++hs0)(hd : ∀d',d = some d' -> look m d' = some v)(hφ : φi imm v hx):
 R P n B ops' (OutQ n B φi d imm1 hs0) pc imm hs m:=zX h0 λa w f g=>⟨rfl,f.defers,imm,v,hx,ap,hφ,by rw[<- hh];exact g,λd' e=>f.holds _ _ (hd d' e)⟩
theorem xX{d0 : Nat}{v : Value}(h : look m d0 = some v): ∀d',some d0 = some d' -> look m d' = some v:=λd' e=>by cases e;exact h
theorem zIG{hs : List HA}{is : List Nat}{r : List HA}(h : pick hs is = some r)(A : HA)(hA : A∈r): A∈hs:=by obtain⟨i,_,h1⟩:=zE6 h A hA;exact cQ h1
theorem mC(l : List HA)(tl : List HA)(is : List Nat){aj : List HA}(h : pick l is = some aj)(hn : is.Nodup): ∀w,Good B imm (l++tl) w -> Good B imm (aj++tl) w:=λ_ g=>
 g.sub (λA hA=>by
  rcases dj.1 hA with hA|hA
  ·exact cI _ (zIG h A hA)
  ·exact cR _ hA) (by
  have bH:=g.nodup
  rw[da] at bH ⊢
  obtain⟨n1,n2,n3⟩:=cz.1 bH
  refine cz.2 ⟨zDd n1 h hn,n2,λx hx y hy=>n3 x ?_ y hy⟩
  obtain⟨A,hA,hxA⟩:=cB.1 hx
  exact cB.2 ⟨A,zIG h A hA,hxA⟩)
end
def u8(x : Int): UInt8:=UInt8.ofNat (IntKind.u8.wrap x).toNat
theorem zJm(x : Int): ((u8 x).toNat : Int) = IntKind.u8.wrap x:=by
 have h : IntKind.u8.wrap x = x % 256:=rfl
 unfold u8
 rw[h]
 have h1 : 0<=x % 256:=Int.emod_nonneg _ (by decide)
 have h2 : x % 256<256:=Int.emod_lt_of_pos _ (by decide)
 simp only[UInt8.toNat_ofNat']
 omega
section
variable {P : Program} {n : Nat} {B : Base} {Q : Exit -> Act -> World -> Prop} {imm : Imm} {hs : List HA} {m : FM} {aa : List Oper} {pc d : Nat}
theorem zLY{o : Oper}{i : Int}(ho : aa[pc]? = some o)(h : run1 P n aa m o = some ((d,.int .u8 (IntKind.u8.wrap i)) :: m))(next : R P n B aa Q (pc+1) imm hs ((d,.int .u8 ((u8 i).toNat : Int)) :: m)): R P n B aa Q pc imm hs m:=
 zId ho h (by rw[zJm] at next;exact next)
def isBytesT(P : Program)(t : TypeId): Bool:=match P.underlying t with|some (.slice e)=>(match P.underlying e with|some (.int .u8)=>true|_=>false)|_=>false
def isStrT(P : Program)(t : TypeId): Bool:=match P.underlying t with|some .string=>true|_=>false
theorem zHI{i : Imm}: ∀{l : List UInt8} {cs : List Value},RepL (Rp.rep i) (Rp.sz UInt8) cs l -> cs = (l.map λb=>(b.toNat : Int)).map (Value.int .u8)
 | [],_,h=>by simpa [RepL] using h
 | b :: l,_,⟨c1,c2,h1,_,h3,h4⟩=>by
  have h3 : c1 = [.int .u8 (b.toNat : Int)]:=h3
  rw[h1,h3,zHI h4];rfl
theorem zGT : ∀(l : List UInt8) (r : ByteArray),(l.map (λb=>(b.toNat : Int))).foldl (λr n=>r.push (UInt8.ofNat n.toNat)) r = ⟨r.data++l.toArray⟩
 | [],r=>by simp
 | b :: l,r=>by
  rw[cA,List.foldl_cons,zGT l]
  simp[ByteArray.push]
theorem zK3{src dst : TypeId}{x : Operand}{ty : TypeId}{pos : String}{after : Array Edge}{g : Option (Nat × Bool)}{v : Value}{cs : List Value}{l : List UInt8}
 (ho : aa[pc]? = some ⟨some d,.convert src dst x,ty,pos,after,g⟩) (hg : guardB aa m g = some true) (hn : Nat.blt d n = true) (hx : val m x = some v) (h1 : isBytesT P src = true) (h2 : isStrT P dst = true)
 (s : Src imm hs v (Rp.sz UInt8) cs) (hr : RepL (Rp.rep imm) (Rp.sz UInt8) cs l) (next : R P n B aa Q (pc+1) imm hs ((d,.string ⟨⟨l⟩⟩) :: m)) : R P n B aa Q pc imm hs m:=by
 refine fM ho hg rfl hn λa w f gd => ?_
 refine⟨_,w,imm,hs,?_,gd,next⟩
 unfold isBytesT at h1
 split at h1
 ·rename_i e he
  split at h1
  ·rename_i he2
   unfold isStrT at h2
   split at h2
   ·rename_i hd
    have aU:=hr.length
    have bN:=zHI hr
    rcases s.read gd with⟨p0,rfl,rfl⟩|⟨b,off,len,cap,c,ty',fr,rfl,hw,ap,bJ,bP⟩
    ·have : l = []:=by
      have h1 : Rp.sz UInt8 = 1:=rfl
      cases l with
      | nil=>rfl
      | cons _ _=>rw[h1] at aU;simp at aU
     subst this
     cases p0 with
     | none=>
      simp only[execOp,f.eval hx,Sem.run_bind,run_convert_bytes_string w src dst e none 0 0 he he2 hd,Conv.bytesToString,Sem.run_pure,Result.andThen_ok]
      rfl
     | some a0=>
      simp only[execOp,f.eval hx,Sem.run_bind,run_convert_bytes_string w src dst e (some a0) 0 0 he he2 hd,Conv.bytesToString,Sem.run_pure,Result.andThen_ok]
      rfl
    ·have bv : Rp.sz UInt8 = 1:=rfl
     rw[bv,Nat.mul_one] at ap bJ bP
     have hl:=zBW (P:=P) (n:=len) hw ap
     have hcc' : c.extract off (off+len) = ((l.map λb=>(b.toNat : Int)).map (Value.int .u8)).toArray:=by
      apply Array.ext'
      rw[<- bN,<- bP]
      simp[eo,d5]
     rw[hcc'] at hl
     simp only[execOp,f.eval hx,Sem.run_bind,run_convert_bytes_string w src dst e _ len cap he he2 hd,run_bytesToString w _ len cap _ hl,zGT,Result.andThen_ok,Sem.run_pure]
     simp[ByteArray.empty,ByteArray.emptyWithCapacity]
     rfl
   ·cases h2
  ·cases h1
 ·cases h1
theorem zDe{α : Type}[Rp α]{t : TypeId}{x z : Operand}{ty : TypeId}{pos : String}{after : Array Edge}{g : Option (Nat × Bool)}{v0 : Value}{i : Int}{ad : Addr}{cs cc c : List Value}{v : Value}{l : List α}{y x' : α}(j o : Nat)
 (ho : aa[pc]? = some ⟨none,.store t x z,ty,pos,after,g⟩) (hg : guardB aa m g = some true) (hj : hs[j]? = some (.osl v0 (Rp.sz α) cs)) (av : AtO v0 (Rp.sz α) i.toNat ad) (hx : val m x = some (.pointer (some (ad.add o)))) (hz : val m z = some v)
 (bP : (cs.drop (i.toNat*Rp.sz α)).take (Rp.sz α) = cc) (bv : sizeT P t = some v.cells.size) (bt : Nat.ble (o+v.cells.size) (Rp.sz α) = true) (bK : v.cells.toList.all Value.oneCell' = true)
 (hr : RepL (Rp.rep imm) (Rp.sz α) cs l) (hy : idx l i = some y) (hc : cc.take o++v.cells.toList++cc.drop (o+v.cells.size) = c) (hx' : Rp.rep imm c x')
 (next : ∀cs',RepL (Rp.rep imm) (Rp.sz α) cs' (l.set i.toNat x') -> (l.set i.toNat x').length = l.length -> R P n B aa Q (pc+1) imm (hs.set j (.osl v0 (Rp.sz α) cs')) m) : R P n B aa Q pc imm hs m:=by
 refine zHz j o ho hg hj av hx hz bv bt bK rfl ?_
 obtain⟨h0,h1,h2⟩:=pP hy
 have aH:=(ck.1 h2).1
 refine next _ ?_ (by simp)
 obtain⟨_,hbd⟩:=hr.at h2
 have hol' := cJ bt
 have:=hr.set (i:=i.toNat) (a:=x') (c:=c) aH (Rp.len hx') hx'
 rw[<- hc,<- bP] at this
 have e : cs.take (i.toNat*Rp.sz α)++(((cs.drop (i.toNat*Rp.sz α)).take (Rp.sz α)).take o++v.cells.toList++((cs.drop (i.toNat*Rp.sz α)).take (Rp.sz α)).drop (o+v.cells.size))++cs.drop (i.toNat*Rp.sz α+Rp.sz α) =
  cs.take (i.toNat*Rp.sz α+o)++v.cells.toList++cs.drop (i.toNat*Rp.sz α+o+v.cells.size):=by
  generalize i.toNat*Rp.sz α = p at *
  have hvs : v.cells.toList.length = v.cells.size:=dm
  apply ez
  intro q
  simp only[d8,eu,List.getElem?_append,cO,cv,cE,hvs]
  grind
 rw[e] at this
 exact this
theorem zDf{aj : List HA}{m' : FM}(h1 : hs = aj)(h2 : m = m')(h : R P n B aa Q pc imm aj m'): R P n B aa Q pc imm hs m:=by subst h1;subst h2;exact h
theorem zKw{α : Type}[Rp α](X : Nat -> Prop){t t2 : TypeId}{x1 x2 : Operand}{ty : TypeId}{pos : String}{after : Array Edge}{g : Option (Nat × Bool)}{v vx : Value}{cs aF : List Value}{l l2 y : List α}{e by' zs : Nat}(j : Nat)
 (ho : aa[pc]? = some ⟨some d,.call { callee:=.builtin .append,args := #[x1,x2],argTypes := #[t,t2] },ty,pos,after,g⟩) (hg : guardB aa m g = some true) (hn : Nat.blt d n = true)
 (hx : val m x1 = some v) (hy : val m x2 = some vx) (ht : appT P t = some (e,Rp.sz α,by',zs)) (ht2 : appT P t2 = some (e,Rp.sz α,by',zs)) (hj : hs[j]? = some (.osl v (Rp.sz α) cs)) (hr : RepL (Rp.rep imm) (Rp.sz α) cs l)
 (hnew : ∀b∈(HA.osl v (Rp.sz α) cs).fp,X b∨B.w0.heap.size<=b)
 (s : Src imm hs vx (Rp.sz α) aF) (hr2 : RepL (Rp.rep imm) (Rp.sz α) aF l2) (hb : app by' l l2 = some y)
 (next : ∀a' c' cs',(∀b∈(HA.osl (.slice a' y.length c') (Rp.sz α) cs').fp,X b∨B.w0.heap.size<=b) -> RepL (Rp.rep imm) (Rp.sz α) cs' y -> R P n B aa Q (pc+1) imm (hs.set j (.osl (.slice a' y.length c') (Rp.sz α) cs')) ((d,.slice a' y.length c') :: m)) : R P n B aa Q pc imm hs m:=by
 obtain⟨h1,rfl⟩:=zAo hb
 refine zJj j ho hg hn hx hy ht ht2 hj hr s hr2 h1 ?_
 intro v' cs' aj h2 h3 h4
 subst h4
 have hjl:=(ck.1 hj).1
 refine zIf j (v:=v') (cs:=cs') (by simp[hjl]) h3 λa' c' hv => ?_
 subst hv
 exact next a' c' cs' (λb hb=>(h2 b hb).elim (hnew b) .inr) h3
end
def blkAt(hs : List HA)(j : Nat): Nat:=match hs[j]? with|some (.blk b _)=>b|_=>0
def load1(P : Program)(n : Nat)(aa : List Oper)(hs : List HA)(j : Nat)(m : FM)(o : Oper): Option (FM × Nat):=
 match o.dst,guardB aa m o.guard,o.op with
 | some d,some true,.load t x=>
  match hs[j]?,val m x,sizeT P t with
  | some (.blk _ c),some (.pointer (some ⟨pb,off,none⟩)),some s=>
   match Nat.blt d n&&Nat.ble (off+((c.toList.drop off).take s).length) c.size,loadV P t ((c.toList.drop off).take s) with
   | true,some v=>some ((d,v) :: m,pb)
   | _,_=>none
  | _,_,_=>none
 | _,_,_=>none
def isLoad(o : Oper): Bool:=match o.op with|.load _ _=>true|_=>false
def runX(P : Program)(n : Nat)(aa : List Oper)(hs : List HA): List Oper -> List Nat -> FM -> Option (FM × List Nat)
 | [],[],m=>some (m,[])
 | [],_ :: _,_=>none
 | o :: l,js,m=>match isLoad o&&(guardB aa m o.guard==some true),js with
  | true,j :: js' => match load1 P n aa hs j m o with
   | some (m',b)=>match runX P n aa hs l js' m' with
    | some (m'',bs)=>some (m'',b :: bs)
    | none=>none
   | none=>none
  | true,[]=>none
  | false,_=>match run1 P n aa m o with
   | some m' => runX P n aa hs l js m'
   | none=>none
def memN(k : Nat): List Nat -> Bool
 | []=>false
 | x :: l=>bif Nat.beq x k then true else memN k l
def freshB(m : FM)(ks : List Nat): List Oper -> Bool
 | []=>true
 | o :: l=>(match o.dst with|some d=>(memN d ks||(match look m d with|none=>true|some _=>false))|none=>true)&&freshB m ks l
def runD(P : Program)(n : Nat)(aa : List Oper)(hs : List HA)(pc k : Nat)(js ks : List Nat)(m : FM): Option (FM × List Nat):=
 match freshB m ks ((aa.drop pc).take k),runX P n aa hs ((aa.drop pc).take k) js m with
 | true,some (m1,bs)=>match keep m1 ks with|some m2=>some (m2,bs)|none=>none
 | _,_=>none
theorem zHJ{P : Program}{n : Nat}{aa : List Oper}{m m' : FM}{o : Oper}(h : run1 P n aa m o = some m'): ∃d v,o.dst = some d /\ m' = (d,v) :: m:=by
 unfold run1 at h
 split at h
 ·cases h
 ·rename_i d hd
  cases hn : Nat.blt d n with
  | false=>rw[hn] at h;cases h
  | true=>
   rw[hn] at h
   simp only[cond_true] at h
   split at h
   ·split at h
    ·cases h;exact⟨_,_,hd,rfl⟩
    ·cases h
   ·cases h;exact⟨_,_,hd,rfl⟩
   ·cases h
theorem zGU{P : Program}{n : Nat}{aa : List Oper}{hs : List HA}{j b : Nat}{m m' : FM}{o : Oper}(h : load1 P n aa hs j m o = some (m',b)): ∃d v,o.dst = some d /\ m' = (d,v) :: m:=by
 unfold load1 at h
 split at h
 ·rename_i d t x hd _ _
  split at h
  ·split at h
   ·cases h;exact⟨_,_,hd,rfl⟩
   ·cases h
  ·cases h
 ·cases h
theorem zFO{P : Program}{n : Nat}{aa : List Oper}{hs : List HA}{ks : List Nat}{m0 : FM}: ∀{l : List Oper} {js : List Nat} {m m1 : FM} {bs : List Nat},runX P n aa hs l js m = some (m1,bs) -> freshB m0 ks l = true ->
 (∀k v,memN k ks = false -> look m0 k = some v -> look m k = some v) -> ∀k v,memN k ks = false -> look m0 k = some v -> look m1 k = some v
 | [],js,m,m1,bs,h,_,hm=>by
  cases js with
  | nil=>simp only[runX] at h;cases h;exact hm
  | cons j js=>simp only[runX] at h;cases h
 | o :: l,js,m,m1,bs,h,hf,hm=>by
  simp only[freshB,cy] at hf
  have key : ∀{m' : FM},(∃d v,o.dst = some d /\ m' = (d,v) :: m) -> ∀k v,memN k ks = false -> look m0 k = some v -> look m' k = some v:=by
   rintro m' ⟨d,v',hd,rfl⟩ k v hk h0
   rw[hd] at hf
   simp only[d7] at hf
   have hne : d ≠ k:=by
    rintro rfl
    rcases hf.1 with h1|h1
    ·rw[h1] at hk;cases hk
    ·rw[h0] at h1;cases h1
   rw[oJ _ _ hne]
   exact hm k v hk h0
  simp only[runX] at h
  split at h
  ·split at h
   ·rename_i m' b hl
    split at h
    ·rename_i m'' bs' hr
     cases h
     exact zFO hr hf.2 (key (zGU hl))
    ·cases h
   ·cases h
  ·cases h
  ·split at h
   ·rename_i m' hl
    exact zFO h hf.2 (key (zHJ hl))
   ·cases h
theorem zHK{m : FM}: ∀{ks : List Nat} {m' : FM},keep m ks = some m' -> (∀k v,look m' k = some v -> look m k = some v) /\ ∀k,look m' k = none -> memN k ks = false
 | [],m',h=>by simp only[keep] at h;cases h;exact⟨λk v e=>by simp[look] at e,λ_ _=>rfl⟩
 | k0 :: ks,m',h=>by
  simp only[keep] at h
  split at h
  ·rename_i v0 m1 h1 h2
   cases h
   obtain⟨i1,i2⟩:=zHK h2
   refine⟨λk v e => ?_,λk e => ?_⟩
   ·by_cases hk : k0 = k
    ·subst hk;rw[kT] at e;cases e;exact h1
    ·rw[oJ _ _ hk] at e;exact i1 k v e
   ·by_cases hk : k0 = k
    ·subst hk;rw[kT] at e;cases e
    ·rw[oJ _ _ hk] at e
     have : Nat.beq k0 k = false:=by
      cases hb : Nat.beq k0 k with
      | false=>rfl
      | true=>exact absurd (cC hb) hk
     simp only[memN,this,cond_false]
     exact i2 k e
  ·cases h
theorem zFd : ∀{a m : FM} {k : Nat},look (a++m) k = match look a k with|some v=>some v|none=>look m k
 | [],m,k=>by simp[look]
 | (k0,v0) :: a,m,k=>by
  by_cases e : k0 = k
  ·subst e;simp[kT]
  ·rw[em,oJ _ _ e,oJ _ _ e,zFd]
section
variable {P : Program} {n : Nat} {B : Base} {Q : Exit -> Act -> World -> Prop} {imm : Imm} {hs : List HA} {m : FM} {aa : List Oper} {pc : Nat}
theorem zK4{m' : FM}(h' : ∀a,Fr n a m -> Fr n a m')(h : R P n B aa Q pc imm hs m'): R P n B aa Q pc imm hs m:=λa w f g=>h a w (h' a f) g
theorem zIz{m' : FM}(h' : ∀a,Fr n a m -> Fr n a m')(h : Rq P n B aa Q pc imm hs m'): Rq P n B aa Q pc imm hs m:=λa w f g=>h a w (h' a f) g
theorem zGV{m0 m1 new : FM}{ks : List Nat}(hk : keep m1 ks = some new)(hl : ∀k v,memN k ks = false -> look m0 k = some v -> look m1 k = some v)(a : Act)(f : Fr n a m1): Fr n a (new++m0):=
 ⟨f.defers,f.size,λk v e=>by
  obtain⟨i1,i2⟩:=zHK hk
  rw[zFd] at e
  cases hn : look new k with
  | some u=>rw[hn] at e;simp only at e;cases e;exact f.holds _ _ (i1 _ _ hn)
  | none=>rw[hn] at e;exact f.holds _ _ (hl _ _ (i2 _ hn) e)⟩
theorem zFP{j b : Nat}{m' : FM}{o : Oper}(h : load1 P n aa hs j m o = some (m',b)):
 ∃d t x ty pos after g pb off c cs v,o = ⟨some d,.load t x,ty,pos,after,g⟩ /\ m' = (d,v) :: m /\ b = pb /\ guardB aa m g = some true /\ Nat.blt d n = true /\ hs[j]? = some (.blk (blkAt hs j) c) /\ val m x = some (.pointer (some ⟨pb,off,none⟩)) /\
  Nat.ble (off+cs.length) c.size = true /\ (c.toList.drop off).take cs.length = cs /\ loadV P t cs = some v:=by
 unfold load1 at h
 split at h
 ·rename_i d t x hd hg ho
  split at h
  ·rename_i b' c pb off s hj hx aj
   split at h
   ·rename_i v hb hv
    cases h
    rw[cy] at hb
    obtain⟨od,oo,oty,opos,oaft,og⟩:=o
    simp only at hd hg ho
    subst hd;subst ho
    refine⟨d,t,x,oty,opos,oaft,og,b,off,c,_,v,rfl,rfl,rfl,hg,hb.1,?_,hx,hb.2,?_,hv⟩
    ·simp only[blkAt,hj]
    ·rw[cv,<- du,List.take_length]
   ·cases h
  ·cases h
 ·cases h
theorem zGW : ∀(l : List Oper) {pc : Nat} {js : List Nat} {m m' : FM} {bs : List Nat},(∃r,aa.drop pc = l++r) -> runX P n aa hs l js m = some (m',bs) -> bs = js.map (blkAt hs) -> R P n B aa Q (pc+l.length) imm hs m' -> R P n B aa Q pc imm hs m
 | [],pc,js,m,m',bs,_,h,hb,hR=>by
  cases js with
  | nil=>simp only[runX] at h;cases h;exact hR
  | cons j js=>simp only[runX] at h;cases h
 | o :: l,pc,js,m,m',bs,⟨r,hr⟩,h,hb,hR=>by
  have ho : aa[pc]? = some o:=by
   have h0 : (aa.drop pc)[0]? = some o:=by rw[hr];rfl
   simpa using h0
  have hr' : ∃r,aa.drop (pc+1) = l++r:=⟨r,by rw[<- cZ,hr];rfl⟩
  have hR' : R P n B aa Q (pc+1+l.length) imm hs m' := by
   have : pc+1+l.length = pc+(o :: l).length:=by simp;omega
   rw[this];exact hR
  simp only[runX] at h
  split at h
  ·rename_i j js' _
   split at h
   ·rename_i m1 b hl
    split at h
    ·rename_i m2 bs' hx
     cases h
     rw[cA,List.cons.injEq] at hb
     obtain⟨d,t,x,ty,pos,after,g,pb,off,c,cs,v,rfl,rfl,rfl,hg,hn,hj,hv,ap,hc,hlv⟩:=zFP hl
     rw[hb.1] at hv
     exact zIe j ho hg hn hj hv ap hc hlv (zGW l hr' hx hb.2 hR')
    ·cases h
   ·cases h
  ·cases h
  ·split at h
   ·rename_i m1 hl
    exact zId ho hl (zGW l hr' h hb hR')
   ·cases h
theorem zGJ : ∀(l : List Oper) {pc : Nat} {js : List Nat} {m m' : FM} {bs : List Nat},(∃r,aa.drop pc = l++r) -> runX P n aa hs l js m = some (m',bs) -> bs = js.map (blkAt hs) -> Rq P n B aa Q (pc+l.length) imm hs m' -> Rq P n B aa Q pc imm hs m
 | [],pc,js,m,m',bs,_,h,hb,hR=>by
  cases js with
  | nil=>simp only[runX] at h;cases h;exact hR
  | cons j js=>simp only[runX] at h;cases h
 | o :: l,pc,js,m,m',bs,⟨r,hr⟩,h,hb,hR=>by
  have ho : aa[pc]? = some o:=by
   have h0 : (aa.drop pc)[0]? = some o:=by rw[hr];rfl
   simpa using h0
  have hr' : ∃r,aa.drop (pc+1) = l++r:=⟨r,by rw[<- cZ,hr];rfl⟩
  have hR' : Rq P n B aa Q (pc+1+l.length) imm hs m' := by
   have : pc+1+l.length = pc+(o :: l).length:=by simp;omega
   rw[this];exact hR
  simp only[runX] at h
  split at h
  ·rename_i j js' _
   split at h
   ·rename_i m1 b hl
    split at h
    ·rename_i m2 bs' hx
     cases h
     rw[cA,List.cons.injEq] at hb
     obtain⟨d,t,x,ty,pos,after,g,pb,off,c,cs,v,rfl,rfl,rfl,hg,hn,hj,hv,ap,hc,hlv⟩:=zFP hl
     rw[hb.1] at hv
     exact zIC j ho hg hn hj hv ap hc hlv (zGJ l hr' hx hb.2 hR')
    ·cases h
   ·cases h
  ·cases h
  ·split at h
   ·rename_i m1 hl
    exact zK1 ho hl (zGJ l hr' h hb hR')
   ·cases h
theorem zE7{pc k : Nat}{js ks : List Nat}{new : FM}{bs : List Nat}(h : runD P n aa hs pc k js ks m = some (new,bs)):
 ∃m1,runX P n aa hs ((aa.drop pc).take k) js m = some (m1,bs) /\ ∀a,Fr n a m1 -> Fr n a (new++m):=by
 unfold runD at h
 split at h
 ·rename_i m1 bs' hf hx
  split at h
  ·rename_i m2 hk
   cases h
   exact⟨m1,hx,λa f=>zGV hk (zFO hx hf (λ_ _ _ h=>h)) a f⟩
  ·cases h
 ·cases h
theorem xF(pc' : Nat)(js : List Nat)(new : FM)(hR : R P n B aa Q pc' imm hs (new++m))(h : runD P n aa hs pc (pc' - pc) js (new.map (·.1)) m = some (new,js.map (blkAt hs)):=by kernel_rfl)
 (hl : Nat.beq (pc+((aa.drop pc).take (pc' - pc)).length) pc' = true:=by kernel_rfl) : R P n B aa Q pc imm hs m:=by
 obtain⟨m1,h1,h2⟩:=zE7 h
 refine zGW _ ⟨(aa.drop pc).drop (pc' - pc),(List.take_append_drop ..).symm⟩ h1 rfl (zK4 h2 ?_)
 rw[cC hl];exact hR
theorem zLZ(pc' : Nat)(js : List Nat)(new : FM)(hR : Rq P n B aa Q pc' imm hs (new++m))(h : runD P n aa hs pc (pc' - pc) js (new.map (·.1)) m = some (new,js.map (blkAt hs)):=by kernel_rfl)
 (hl : Nat.beq (pc+((aa.drop pc).take (pc' - pc)).length) pc' = true:=by kernel_rfl) : Rq P n B aa Q pc imm hs m:=by
 obtain⟨m1,h1,h2⟩:=zE7 h
 refine zGJ _ ⟨(aa.drop pc).drop (pc' - pc),(List.take_append_drop ..).symm⟩ h1 rfl (zIz h2 ?_)
 rw[cC hl];exact hR
theorem yO(js : List Nat)(new : FM)(hR : T n B Q .normal imm hs (new++m))(h : runD P n aa hs pc aa.length js (new.map (·.1)) m = some (new,js.map (blkAt hs)):=by kernel_rfl): R P n B aa Q pc imm hs m:=by
 obtain⟨m1,h1,h2⟩:=zE7 h
 have e : (aa.drop pc).take aa.length = aa.drop pc:=cT (by rw[cE];omega)
 rw[e] at h1
 exact zGW _ ⟨[],by simp⟩ h1 rfl (zK4 h2 (zX (cX.2 (by rw[cE];omega)) hR))
theorem zIn(js : List Nat)(new : FM)(hR : T n B Q .normal imm hs (new++m))(h : runD P n aa hs pc aa.length js (new.map (·.1)) m = some (new,js.map (blkAt hs)):=by kernel_rfl): Rq P n B aa Q pc imm hs m:=by
 obtain⟨m1,h1,h2⟩:=zE7 h
 have e : (aa.drop pc).take aa.length = aa.drop pc:=cT (by rw[cE];omega)
 rw[e] at h1
 exact zGJ _ ⟨[],by simp⟩ h1 rfl (zIz h2 (zKt (cX.2 (by rw[cE];omega)) hR))
end
abbrev RL{α : Type}[Rp α](imm : Imm)(cs : List Value)(l : List α): Prop:=RepL (Rp.rep imm) (Rp.sz α) cs l
class MonoI (p : Imm -> Prop) : Prop where
 mono : ∀i j,i.le j -> p i -> p j
instance zIH{q : Prop}: MonoI (λ_=>q):=⟨λ_ _ _ h=>h⟩
instance zJZ{p q : Imm -> Prop}[hp : MonoI p][hq : MonoI q]: MonoI (λi=>p i /\ q i):=⟨λi j hl h=>⟨hp.mono i j hl h.1,hq.mono i j hl h.2⟩⟩
instance zJn{α : Type}{p : Imm -> α -> Prop}[hp : ∀x,MonoI (λi=>p i x)]: MonoI (λi => ∃x,p i x):=⟨λi j hl ⟨x,h⟩=>⟨x,(hp x).mono i j hl h⟩⟩
instance zJo{α : Type}[Rp α]{v : Value}{l : List α}: MonoI (λi=>SL i v l):=⟨λ_ _ hl h=>h.mono hl⟩
instance zJp{ad : Addr}{cs : List Value}: MonoI (λi=>At i ad cs):=⟨λ_ _ hl h=>h.mono hl⟩
instance zJq{α : Type}[Rp α]{cs : List Value}{l : List α}: MonoI (λi=>RepL (Rp.rep i) (Rp.sz α) cs l):=⟨λ_ _ hl h=>RepL.mono (λ_ _=>Rp.mono hl) h⟩
instance zJ0{α : Type}[Rp α]{cs : List Value}{a : α}: MonoI (λi=>Rp.rep i cs a):=⟨λ_ _ hl h=>Rp.mono hl h⟩
def FP{α : Type}[Rp α](imm : Imm)(v : Value)(o : Option α): Prop:=match o with
 | none=>v = .pointer none
 | some x => ∃ad cs,v = .pointer (some ad) /\ At imm ad cs /\ Rp.rep imm cs x
theorem FP.mono{α : Type}[Rp α]{imm af : Imm}{v : Value}{o : Option α}(h : FP imm v o)(hl : imm.le af): FP af v o:=by
 cases o with
 | none=>exact h
 | some x=>
  obtain⟨ad,cs,e,h1,h2⟩:=h
  exact⟨ad,cs,e,h1.mono hl,Rp.mono hl h2⟩
instance zJr{α : Type}[Rp α]{v : Value}{o : Option α}: MonoI (λi=>FP i v o):=⟨λ_ _ hl h=>h.mono hl⟩
inductive It where
 | p (v : Value) (js : List Nat)
 | q (v : Value)
 | x (f : Fact)
def It.fact : It -> Fact
 | .p v _=>λ_ u hx=>u = v /\ hx = []
 | .q v=>λ_ u hx=>u = v /\ hx = []
 | .x f=>f
def gfact(g : List HA): Fact:=λ_ _ hx=>hx = g
def factsOf(N : Nat)(its : List It)(gs : List (List HA)): List Fact:=its.map It.fact++(List.replicate (N - its.length) nofact++gs.map gfact)
def insM(aa : List Oper)(its : List It): List (Nat × Bool) -> FM -> Option FM
 | [],m=>some m
 | (j,c) :: r,m=>match its[j]?,c,dstAt aa j with
  | some (.p v _),false,some d=>insM aa its r ((d,v) :: m)
  | some (.q v),false,some d=>insM aa its r ((d,v) :: m)
  | _,_,_=>none
def autoL(P : Program)(n : Nat)(aa : List Oper)(hsC : List HA)(m : FM)(its : List It): Nat -> List It -> List (List (Nat × Bool)) -> Option (List Value × List Nat)
 | _,[],[]=>some ([],[])
 | i,.x _ :: r,_ :: ins=>autoL P n aa hsC m its (i+1) r ins
 | i,.q _ :: r,_ :: ins=>autoL P n aa hsC m its (i+1) r ins
 | i,.p _ js :: r,l :: ins=>match aa[i]?,insM aa its l m,autoL P n aa hsC m its (i+1) r ins with
  | some o,some m',some (vs,bs)=>match runX P n (aa.take (i+1)) hsC [o] js m' with
   | some ((_,v) :: _,bs')=>some (v :: vs,bs'++bs)
   | _=>none
  | _,_,_=>none
 | _,_,_=>none
def valsOf : List It -> List Value
 | []=>[]
 | .p v _ :: r=>v :: valsOf r
 | .x _ :: r=>valsOf r
 | .q _ :: r=>valsOf r
def blksOf(hs : List HA): List It -> List Nat
 | []=>[]
 | .p _ js :: r=>js.map (blkAt hs)++blksOf hs r
 | .x _ :: r=>blksOf hs r
 | .q _ :: r=>blksOf hs r
def ObX(P : Program)(n : Nat)(B : Base)(aa : List Oper)(φ : List Fact)(imm : Imm)(hsC : List HA)(m : FM): Nat -> List It -> List (List (Nat × Bool)) -> Prop
 | _,[],[]=>True
 | i,.p _ _ :: r,_ :: ins=>ObX P n B aa φ imm hsC m (i+1) r ins
 | i,.q _ :: r,l :: ins=>Obl P n B aa φ imm hsC m i l /\ ObX P n B aa φ imm hsC m (i+1) r ins
 | i,.x f :: r,l :: ins=>(∀v hx,MonoI (λi=>f i v hx)) /\ Obl P n B aa φ imm hsC m i l /\ ObX P n B aa φ imm hsC m (i+1) r ins
 | _,_,_=>False
section
variable {P : Program} {n : Nat} {B : Base} {Q : Exit -> Act -> World -> Prop} {imm : Imm} {hs : List HA} {m : FM} {aa : List Oper}
theorem Op{φ : List Fact}{hsC : List HA}{i : Nat}{v : Value}{js : List Nat}{r : List It}{l : List (Nat × Bool)}{ins : List (List (Nat × Bool))}(h : ObX P n B aa φ imm hsC m (i+1) r ins): ObX P n B aa φ imm hsC m i (.p v js :: r) (l :: ins):=h
theorem Ox{φ : List Fact}{hsC : List HA}{i : Nat}{f : Fact}{r : List It}{l : List (Nat × Bool)}{ins : List (List (Nat × Bool))}
 (ho : ∀imm1 hf,imm.le imm1 -> Ins aa φ imm1 l m (hsC++hf) λm' aj=>R P n B (aa.take (i+1)) (OutQ n B (φ.getD i nofact) (dstAt aa i) imm1 (hsC++hf)) i imm1 aj m')
 (h : ObX P n B aa φ imm hsC m (i+1) r ins) (hm : ∀v hx,MonoI (λi=>f i v hx):=by
  intro v hx
  repeat' (first|exact zIH|exact zJr|exact zJo|exact zJp|exact zJq|exact zJ0|refine @zJn _ _ (λ_ => ?_)|refine @zJZ _ _ ?_ ?_)) : ObX P n B aa φ imm hsC m i (.x f :: r) (l :: ins):=⟨hm,λimm1 hf hl _=>ho imm1 hf hl,h⟩
theorem Oq{φ : List Fact}{hsC : List HA}{i : Nat}{v : Value}{r : List It}{l : List (Nat × Bool)}{ins : List (List (Nat × Bool))}
 (ho : ∀imm1 hf,imm.le imm1 -> Ins aa φ imm1 l m (hsC++hf) λm' aj=>R P n B (aa.take (i+1)) (OutQ n B (φ.getD i nofact) (dstAt aa i) imm1 (hsC++hf)) i imm1 aj m')
 (h : ObX P n B aa φ imm hsC m (i+1) r ins) : ObX P n B aa φ imm hsC m i (.q v :: r) (l :: ins):=⟨λimm1 hf hl _=>ho imm1 hf hl,h⟩
theorem Bor.at{φ : List Fact}{l : List (Nat × Bool)}{hf : List HA}{j : Nat}(h : Bor aa φ imm l hf)(hj : (j,false)∈l)(hN : Nat.ble aa.length j = true){g : List HA}(hg : φ.getD j nofact = gfact g): ∃hf',hf.Perm (g++hf'):=by
 obtain⟨v,hx,hf',h1,h2⟩:=h _ hj rfl (cJ hN)
 rw[hg] at h1
 have h1 : hx = g:=h1
 subst h1
 exact⟨hf',h2⟩
theorem On{φ : List Fact}{hsC : List HA}{i : Nat}: ObX P n B aa φ imm hsC m i [] []:=trivial
theorem zIo{hsC hf : List HA}{aa : List Oper}{j : Nat}{o : Oper}{r : FM × Nat}(h : load1 P n aa hsC j m o = some r): load1 P n aa (hsC++hf) j m o = some r /\ blkAt (hsC++hf) j = blkAt hsC j:=by
 obtain⟨m',b⟩:=r
 obtain⟨d,t,x,ty,pos,after,g,pb,off,c,cs,v,rfl,rfl,rfl,hg,hn,hj,hv,ap,hc,hlv⟩:=zFP h
 have aH:=(ck.1 hj).1
 have e : (hsC++hf)[j]? = hsC[j]? := ew aH
 refine⟨?_,by simp only[blkAt,e]⟩
 unfold load1 at h ⊢
 simp only[e]
 exact h
theorem zFQ{hsC hf : List HA}{aa : List Oper}: ∀{l : List Oper} {js : List Nat} {m : FM} {r : FM × List Nat},runX P n aa hsC l js m = some r -> runX P n aa (hsC++hf) l js m = some r /\ js.map (blkAt (hsC++hf)) = js.map (blkAt hsC)
 | [],js,m,r,h=>by
  cases js with
  | nil=>exact⟨h,rfl⟩
  | cons j js=>simp only[runX] at h;cases h
 | o :: l,js,m,r,h=>by
  simp only[runX] at h ⊢
  split at h
  ·rename_i j js' hc
   split at h
   ·rename_i m1 b hl
    split at h
    ·rename_i m2 bs hx
     cases h
     obtain⟨k1,k2⟩:=zIo (hf:=hf) hl
     obtain⟨k3,k4⟩:=zFQ (hf:=hf) hx
     rw[k1]
     simp only[k3]
     exact⟨by trivial,by rw[cA,cA,k2,k4]⟩
    ·cases h
   ·cases h
  ·cases h
  ·rename_i hc
   split at h
   ·rename_i m1 hl
    exact zFQ h
   ·cases h
theorem zE8{φ : List Fact}{its : List It}(hφ : ∀j it,its[j]? = some it -> φ.getD j nofact = it.fact){K : FM -> List HA -> Prop}: ∀{l : List (Nat × Bool)} {m m' : FM},insM aa its l m = some m' -> K m' hs -> Ins aa φ imm l m hs K
 | [],m,m',h,hk=>by simp only[insM] at h;cases h;exact hk
 | (j,c) :: r,m,m',h,hk=>by
  simp only[insM] at h
  split at h
  ·rename_i v js d hit hd
   intro u hx hu
   rw[hφ _ _ hit] at hu
   obtain⟨rfl,rfl⟩:=hu
   simp only[hd]
   exact zE8 hφ h hk
  ·rename_i v d hit hd
   intro u hx hu
   rw[hφ _ _ hit] at hu
   obtain⟨rfl,rfl⟩:=hu
   simp only[hd]
   exact zE8 hφ h hk
  ·cases h
theorem zJ1{d : Nat}{v : Value}: look ((d,v) :: m) d = some v:=kT ..
theorem zII{aa : List Oper}{hsC : List HA}{js bs : List Nat}{r : FM}(hr : runX P n aa hsC [] js m = some (r,bs)): r = m:=by
 cases js with
 | nil=>simp only[runX] at hr;cases hr;rfl
 | cons a b=>simp only[runX] at hr;cases hr
theorem zJs{aa : List Oper}{hsC : List HA}{o : Oper}{js bs : List Nat}{r : FM}(hr : runX P n aa hsC [o] js m = some (r,bs)): ∃d u,o.dst = some d /\ r = (d,u) :: m:=by
 simp only[runX] at hr
 split at hr
 ·split at hr
  ·rename_i m1 b hl
   split at hr
   ·rename_i hx
    cases hr
    rw[zII hx];exact zGU hl
   ·cases hr
  ·cases hr
 ·cases hr
 ·split at hr
  ·rename_i m1 hl
   rw[zII hr];exact zHJ hl
  ·cases hr
theorem zJt{φ : List Fact}{its : List It}(hφ : ∀j it,its[j]? = some it -> φ.getD j nofact = it.fact){hsC : List HA}{i : Nat}{l : List (Nat × Bool)}{o : Oper}{v : Value}{js : List Nat}{m' m2 : FM}{d0 : Nat}{bs : List Nat}
 (hi : its[i]? = some (.p v js)) (ho : aa[i]? = some o) (hm : insM aa its l m = some m') (hr : runX P n (aa.take (i+1)) hsC [o] js m' = some ((d0,v) :: m2,bs)) (hb : bs = js.map (blkAt hsC)) : Obl P n B aa φ imm hsC m i l:=by
 intro imm1 hf ai _
 refine zE8 hφ hm ?_
 obtain⟨k1,k2⟩:=zFQ (hf:=hf) hr
 have aH:=(ck.1 ho).1
 have hd : (aa.take (i+1)).drop i = [o]:=zDa ho
 refine zGW [o] ⟨[],by rw[hd];rfl⟩ k1 (by rw[hb,k2]) ?_
 obtain⟨d,u,hd',he⟩:=zJs hr
 rw[List.cons.injEq,Prod.mk.injEq] at he
 obtain⟨⟨rfl,rfl⟩,rfl⟩:=he
 have hdst : dstAt aa i = some d0:=by simp only[dstAt,ho,hd']
 refine rY (hx:=[]) ?_ (Imm.le.refl _) rfl (v:=v) ?_ ?_
 ·rw[cX,cv]
  simp only[cx,cm]
  omega
 ·rw[hdst];exact xX zJ1
 ·rw[hφ _ _ hi];exact⟨rfl,rfl⟩
theorem zDN{φ : List Fact}{its0 : List It}(hφ : ∀j it,its0[j]? = some it -> φ.getD j nofact = it.fact){hsC : List HA}: ∀{its : List It} {i : Nat} {ins : List (List (Nat × Bool))} {bs : List Nat},(∀j,its0[i+j]? = its[j]?) ->
 autoL P n aa hsC m its0 i its ins = some (valsOf its,bs) -> bs = blksOf hsC its -> ObX P n B aa φ imm hsC m i its ins -> Obls P n B aa φ imm hsC m i ins
 | [],i,[],bs,_,_,_,_=>trivial
 | [],i,_ :: _,bs,_,h,_,_=>by simp only[autoL] at h;cases h
 | .p v js :: r,i,[],bs,_,h,_,_=>by simp only[autoL] at h;cases h
 | .x f :: r,i,[],bs,_,h,_,_=>by simp only[autoL] at h;cases h
 | .q v :: r,i,[],bs,_,h,_,_=>by simp only[autoL] at h;cases h
 | .q v :: r,i,l :: ins,bs,hi,h,hb,ho=>by
  simp only[autoL] at h
  exact⟨ho.1,zDN hφ (λj=>by have:=hi (j+1);rw[show i+(j+1) = i+1+j from by omega] at this;simpa using this) h hb ho.2⟩
 | .x f :: r,i,l :: ins,bs,hi,h,hb,ho=>by
  simp only[autoL] at h
  exact⟨ho.2.1,zDN hφ (λj=>by have:=hi (j+1);rw[show i+(j+1) = i+1+j from by omega] at this;simpa using this) h hb ho.2.2⟩
 | .p v js :: r,i,l :: ins,bs,hi,h,hb,ho=>by
  simp only[autoL] at h
  split at h
  ·rename_i o m' vs bs2 h1 h2 h3
   split at h
   ·rename_i d0 v0 m2 bs' h4
    simp only[Option.some.injEq,Prod.mk.injEq,valsOf,List.cons.injEq] at h
    obtain⟨⟨rfl,rfl⟩,rfl⟩:=h
    have aU : bs'.length = js.length:=by
     have : ∀{l : List Oper} {js : List Nat} {m : FM} {r : FM} {bs : List Nat},runX P n (aa.take (i+1)) hsC l js m = some (r,bs) -> bs.length = js.length:=by
      intro l
      induction l with
      | nil=>intro js m r bs h;cases js <;> simp only[runX] at h <;> cases h;rfl
      | cons o l ih=>
       intro js m r bs h
       simp only[runX] at h
       split at h
       ·split at h
        ·split at h
         ·rename_i hx;cases h;simp[ih hx]
         ·cases h
        ·cases h
       ·cases h
       ·split at h
        ·exact ih h
        ·cases h
     exact this h4
    simp only[blksOf] at hb
    obtain⟨hb1,hb2⟩:=List.append_inj hb (by rw[cM];exact aU)
    have hi0 : its0[i]? = some (.p v0 js):=by have:=hi 0;simpa using this
    exact⟨zJt hφ hi0 h1 h2 h4 hb1,zDN hφ (λj=>by have:=hi (j+1);rw[show i+(j+1) = i+1+j from by omega] at this;simpa using this) h3 hb2 ho⟩
   ·cases h
  ·cases h
theorem monoX{φ : List Fact}{hsC : List HA}: ∀{its : List It} {i : Nat} {ins : List (List (Nat × Bool))},ObX P n B aa φ imm hsC m i its ins -> MonoL (its.map It.fact)
 | [],_,_,_=>trivial
 | .p v js :: r,_,[],h=>h.elim
 | .x f :: r,_,[],h=>h.elim
 | .q v :: r,_,[],h=>h.elim
 | .q v :: r,_,l :: ins,h=>⟨λ_ _ _ _ _ h=>h,monoX (its:=r) h.2⟩
 | .p v js :: r,_,l :: ins,h=>⟨λ_ _ _ _ _ h=>h,monoX (its:=r) h⟩
 | .x f :: r,_,l :: ins,h=>⟨λi j v hx hl hh=>(h.1 v hx).mono i j hl hh,monoX (its:=r) h.2.2⟩
theorem zBt : ∀{a b : List Fact},MonoL a -> MonoL b -> MonoL (a++b)
 | [],_,_,h=>h
 | _ :: _,_,h,h' => ⟨h.1,zBt h.2 h'⟩
theorem zHL : ∀k,MonoL (List.replicate k nofact)
 | 0=>trivial
 | k+1=>⟨λ_ _ _ _ _ h=>h,zHL k⟩
theorem zJA : ∀gs : List (List HA),MonoL (gs.map gfact)
 | []=>trivial
 | _ :: gs=>⟨λ_ _ _ _ _ h=>h,zJA gs⟩
theorem zIJ : ∀{gs : List (List HA)} {φ : List Fact} {k : Nat},(∀j g,gs[j]? = some g -> φ.getD (k+j) nofact = gfact g) -> BaseG φ imm k gs
 | [],_,_,_=>trivial
 | g :: gs,φ,k,h=>⟨by have:=h 0 g (by simp);rw[Nat.add_zero] at this;rw[this];rfl,zIJ λj g' hj=>by have:=h (j+1) g' (by simpa using hj);rwa[show k+(j+1) = k+1+j from by omega] at this⟩
theorem uX{id : Nat}(its : List It)(ins : List (List (Nat × Bool)))(hsC : List HA)(gs : List (List HA))(fin : List (Nat × Bool))(hhs : ∀w,Good B imm hs w -> Good B imm (hsC++gs.flatten) w)
 (hob : ObX P n B aa (factsOf aa.length its gs) imm hsC m 0 its ins)
 (hend : ∀imm1,imm.le imm1 -> Ins aa (factsOf aa.length its gs) imm1 fin m hsC λm' aj=>R P n B aa Q its.length imm1 aj m')
 (ha : autoL P n aa hsC m its 0 its ins = some (valsOf its,blksOf hsC its):=by kernel_rfl)
 (hm : P.follows .mixedOrders = true:=by kernel_rfl) (hc : anyChk aa n its.length gs.length ins (m.map (·.1)) = true:=by kernel_rfl) (hf : finChk aa its.length gs.length ins fin = true:=by kernel_rfl) :
 J P n B (.region id aa.toArray true) Q imm hs m:=by
 have hφ : ∀j it,its[j]? = some it -> (factsOf aa.length its gs).getD j nofact = it.fact:=λj it hj=>by
  have aH:=(ck.1 hj).1
  unfold factsOf
  rw[dw,ew (by rw[cM];exact aH),dl,hj]
  rfl
 have ap : its.length<=aa.length:=(AnyOk.mk' hc).le
 refine zH2 its.length ins (factsOf aa.length its gs) hsC gs fin hm hc hf hhs (zBt (monoX hob) (zBt (zHL _) (zJA gs))) (zIJ λj g hj => ?_)
  (zDN hφ (λj=>by rw[cu]) ha rfl hob) hend
 unfold factsOf
 rw[dw,List.getElem?_append_right (by rw[cM];omega),List.getElem?_append_right (by rw[cM,cK];omega),cM,cK,dl,
  show aa.length+j - its.length - (aa.length - its.length) = j from by omega,hj]
 rfl
abbrev W : Int -> Int:=IntKind.i64.wrap
theorem dZ{e : Exit}(m' : FM)(h : T n B Q e imm hs m')(hk : keep m (m'.map (·.1)) = some m' := by kernel_rfl): T n B Q e imm hs m:=zJh (zAl hk) h
theorem rX{c : Code}(m' : FM)(h : J P n B c Q imm hs m')(hk : keep m (m'.map (·.1)) = some m' := by kernel_rfl): J P n B c Q imm hs m:=zJg (zAl hk) h
theorem yD{x : Operand}{p q : Code}{c : Bool}{α : Type}{X Y : Option α}{r : α}(hM : (if c = true then X else Y) = some r)
 (ht : c = true -> X = some r -> J P n B p Q imm hs m) (hf : c = false -> Y = some r -> J P n B q Q imm hs m) (hc : val m x = some (.bool c):=by kernel_rfl) : J P n B (.cond x p q) Q imm hs m:=zKr hc hM ht hf
theorem tQ{pc : Nat}(aj : List HA)(m' : FM)(h : R P n B aa Q pc imm aj m')(h1 : hs = aj:=by rfl)(hk : keep m (m'.map (·.1)) = some m' := by kernel_rfl): R P n B aa Q pc imm hs m:=by subst h1;exact fS (zAl hk) h
end
end Go.LN
