/- Helper of the proof (see the last text). -/
import Derived.Test.YtndncjnhabjnbaaGreatLnH
import Derived.Laws.BitsLemmas
import Derived.Sort.Grow
import Derived.Lib.LaidTab
import Derived.Lib.ItoaNum
import Derived.Lib.ItoaMem
import Derived.Sort.Row
import Derived.Lib.AtoiErrMem
import Derived.Lib.AtoiTie
import Derived.Lib.SplitLaws
import Derived.Lib.AtoiAll
import Derived.Shelf.SlicesE.Delete
import Derived.Laws.StructEq
set_option linter.unusedVariables false
set_option linter.unusedSimpArgs false
namespace Go.LN
abbrev RL{α:Type}[Rp α](imm:Imm)(cs:List Value)(l:List α):Prop:=RepL (Rp.rep imm) (Rp.sz α) cs l
class MonoI (p:Imm->Prop):Prop where
 mono:∀i j,i.le j->p i->p j
instance zH1{q:Prop}:MonoI (λ_=>q):=⟨λ_ _ _ h=>h⟩
instance zKB{p q:Imm->Prop}[hp:MonoI p][hq:MonoI q]:MonoI (λi=>p i/\q i):=⟨λi j hl h=>⟨hp.mono i j hl h.1,hq.mono i j hl h.2⟩⟩
instance zLE{α:Type}{p:Imm->α->Prop}[hp:∀x,MonoI (λi=>p i x)]:MonoI (λi=>∃x,p i x):=⟨λi j hl ⟨x,h⟩=>⟨x,(hp x).mono i j hl h⟩⟩
instance zOB{α:Type}[Rp α]{v:Value}{l:List α}:MonoI (λi=>SL i v l):=⟨λ_ _ hl h=>h.mono hl⟩
instance zOC{ad:Addr}{cs:List Value}:MonoI (λi=>At i ad cs):=⟨λ_ _ hl h=>h.mono hl⟩
instance zOD{α:Type}[Rp α]{cs:List Value}{l:List α}:MonoI (λi=>RepL (Rp.rep i) (Rp.sz α) cs l):=⟨λ_ _ hl h=>RepL.mono (λ_ _=>Rp.mono hl) h⟩
instance zNJ{α:Type}[Rp α]{cs:List Value}{a:α}:MonoI (λi=>Rp.rep i cs a):=⟨λ_ _ hl h=>Rp.mono hl h⟩
def FP{α:Type}[Rp α](imm:Imm)(v:Value)(o:Option α):Prop:=match o with
 | none=>v=.pointer none
 | some x=>∃ad cs,v=.pointer (some ad)/\At imm ad cs/\Rp.rep imm cs x
theorem FP.mono{α:Type}[Rp α]{imm am:Imm}{v:Value}{o:Option α}(h:FP imm v o)(hl:imm.le am):FP am v o:=by
 cases o with
 | none=>exact h
 | some x=>
  obtain⟨ad,cs,e,h1,h2⟩:=h;exact⟨ad,cs,e,h1.mono hl,Rp.mono hl h2⟩
theorem zQK{α:Type}[Rp α]{imm:Imm}:FP imm (.pointer none) (none:Option α):=rfl
theorem zQn{α:Type}[Rp α]{imm:Imm}{ad:Addr}{cs:List Value}{x:α}(h:At imm ad cs)(hr:Rp.rep imm cs x):FP imm (.pointer (some ad)) (some x):=⟨ad,cs,rfl,h,hr⟩
theorem zMa{α:Type}[Rp α]{imm:Imm}{v:Value}{o:Option α}{x:α}(h:FP imm v o)(e:o=some x):∃ad cs,v=.pointer (some ad)/\At imm ad cs/\Rp.rep imm cs x:=by subst e;exact h
instance zOE{α:Type}[Rp α]{v:Value}{o:Option α}:MonoI (λi=>FP i v o):=⟨λ_ _ hl h=>h.mono hl⟩
inductive It where
 | p (v:Value) (js:List Nat)
 | q (v:Value)
 | x (f:Fact)
def It.fact:It->Fact
 | .p v _=>λ_ u hx=>u=v/\hx=[]
 | .q v=>λ_ u hx=>u=v/\hx=[]
 | .x f=>f
def gfact(g:List HA):Fact:=λ_ _ hx=>hx=g
def factsOf(N:Nat)(its:List It)(gs:List (List HA)):List Fact:=its.map It.fact++(List.replicate (N - its.length) nofact++gs.map gfact)
def insM(af:List Oper)(its:List It):List (Nat×Bool)->FM->Option FM
 | [],m=>some m
 | (j,c)::r,m=>match its[j]?,c,dstAt af j with
  | some (.p v _),false,some d=>insM af its r ((d,v)::m)
  | some (.q v),false,some d=>insM af its r ((d,v)::m)
  | _,_,_=>none
def autoL(P:Program)(n:Nat)(af:List Oper)(hsC:List HA)(m:FM)(its:List It):Nat->List It->List (List (Nat×Bool))->Option (List Value×List Nat)
 | _,[],[]=>some ([],[])
 | i,.x _::r,_::ins=>autoL P n af hsC m its (i+1) r ins
 | i,.q _::r,_::ins=>autoL P n af hsC m its (i+1) r ins
 | i,.p _ js::r,l::ins=>match af[i]?,insM af its l m,autoL P n af hsC m its (i+1) r ins with
  | some o,some m',some (vs,bs)=>match runX P n (af.take (i+1)) hsC [o] js m' with
   | some ((_,v)::_,bs')=>some (v::vs,bs'++bs)
   | _=>none
  | _,_,_=>none
 | _,_,_=>none
def valsOf:List It->List Value
 | []=>[]
 | .p v _::r=>v::valsOf r
 | .x _::r=>valsOf r
 | .q _::r=>valsOf r
def blksOf(hs:List HA):List It->List Nat
 | []=>[]
 | .p _ js::r=>js.map (blkAt hs)++blksOf hs r
 | .x _::r=>blksOf hs r
 | .q _::r=>blksOf hs r
def ObX(P:Program)(n:Nat)(B:Base)(af:List Oper)(φ:List Fact)(imm:Imm)(hsC:List HA)(m:FM):Nat->List It->List (List (Nat×Bool))->Prop
 | _,[],[]=>True
 | i,.p _ _::r,_::ins=>ObX P n B af φ imm hsC m (i+1) r ins
 | i,.q _::r,l::ins=>Obl P n B af φ imm hsC m i l/\ObX P n B af φ imm hsC m (i+1) r ins
 | i,.x f::r,l::ins=>(∀v hx,MonoI (λi=>f i v hx))/\Obl P n B af φ imm hsC m i l/\ObX P n B af φ imm hsC m (i+1) r ins
 | _,_,_=>False
section
variable {P:Program}{n:Nat}{B:Base}{Q:Exit->Act->World->Prop}{imm:Imm}{hs:List HA}{m:FM}{af:List Oper}
theorem Op{φ:List Fact}{hsC:List HA}{i:Nat}{v:Value}{js:List Nat}{r:List It}{l:List (Nat×Bool)}{ins:List (List (Nat×Bool))}(h:ObX P n B af φ imm hsC m (i+1) r ins):ObX P n B af φ imm hsC m i (.p v js::r) (l::ins):=h
theorem Ox{φ:List Fact}{hsC:List HA}{i:Nat}{f:Fact}{r:List It}{l:List (Nat×Bool)}{ins:List (List (Nat×Bool))}
 (ho:∀imm1 hf,imm.le imm1->Ins af φ imm1 l m (hsC++hf) λm' ag=>R P n B (af.take (i+1)) (OutQ n B (φ.getD i nofact) (dstAt af i) imm1 (hsC++hf)) i imm1 ag m')
 (h:ObX P n B af φ imm hsC m (i+1) r ins) (hm:∀v hx,MonoI (λi=>f i v hx):=by
  intro v hx
  repeat' (first|exact zH1|exact zOE|exact zOB|exact zOC|exact zOD|exact zNJ|refine @zLE _ _ (λ_=>?_)|refine @zKB _ _ ?_ ?_)):ObX P n B af φ imm hsC m i (.x f::r) (l::ins):=⟨hm,λimm1 hf hl _=>ho imm1 hf hl,h⟩
theorem Oq{φ:List Fact}{hsC:List HA}{i:Nat}{v:Value}{r:List It}{l:List (Nat×Bool)}{ins:List (List (Nat×Bool))}
 (ho:∀imm1 hf,imm.le imm1->Ins af φ imm1 l m (hsC++hf) λm' ag=>R P n B (af.take (i+1)) (OutQ n B (φ.getD i nofact) (dstAt af i) imm1 (hsC++hf)) i imm1 ag m')
 (h:ObX P n B af φ imm hsC m (i+1) r ins):ObX P n B af φ imm hsC m i (.q v::r) (l::ins):=⟨λimm1 hf hl _=>ho imm1 hf hl,h⟩
theorem Ob{φ:List Fact}{hsC:List HA}{i:Nat}{v:Value}{r:List It}{l:List (Nat×Bool)}{ins:List (List (Nat×Bool))}
 (ho:∀imm1 hf,imm.le imm1->Bor af φ imm1 l hf->Ins af φ imm1 l m (hsC++hf) λm' ag=>R P n B (af.take (i+1)) (OutQ n B (φ.getD i nofact) (dstAt af i) imm1 (hsC++hf)) i imm1 ag m')
 (h:ObX P n B af φ imm hsC m (i+1) r ins):ObX P n B af φ imm hsC m i (.q v::r) (l::ins):=⟨ho,h⟩
theorem Bor.at{φ:List Fact}{l:List (Nat×Bool)}{hf:List HA}{j:Nat}(h:Bor af φ imm l hf)(hj:(j,false)∈l)(hN:Nat.ble af.length j=true){g:List HA}(hg:φ.getD j nofact=gfact g):∃hf',hf.Perm (g++hf'):=by
 obtain⟨v,hx,hf',h1,h2⟩:=h _ hj rfl (cC hN);rw[hg] at h1;have h1:hx=g:=h1;subst h1;exact⟨hf',h2⟩
theorem On{φ:List Fact}{hsC:List HA}{i:Nat}:ObX P n B af φ imm hsC m i [] []:=trivial
theorem zMG{hsC hf:List HA}{af:List Oper}{j:Nat}{o:Oper}{r:FM×Nat}(h:load1 P n af hsC j m o=some r):load1 P n af (hsC++hf) j m o=some r/\blkAt (hsC++hf) j=blkAt hsC j:=by
 obtain⟨m',b⟩:=r;obtain⟨d,t,x,ty,pos,after,g,pb,off,c,cs,v,rfl,rfl,rfl,hg,hn,hj,hv,bK,hc,hlv⟩:=zGe h;have ax:=(cj.1 hj).1;have e:(hsC++hf)[j]?=hsC[j]?:=ft ax;refine⟨?_,by simp only[blkAt,e]⟩;unfold load1 at h ⊢;simp only[e];exact h
theorem zGf{hsC hf:List HA}{af:List Oper}:∀{l:List Oper}{js:List Nat}{m:FM}{r:FM×List Nat},runX P n af hsC l js m=some r->runX P n af (hsC++hf) l js m=some r/\js.map (blkAt (hsC++hf))=js.map (blkAt hsC)
 | [],js,m,r,h=>by
  cases js with
  | nil=>exact⟨h,rfl⟩
  | cons j js=>simp only[runX] at h;cases h
 | o::l,js,m,r,h=>by
  simp only[runX] at h ⊢
  split at h
  ·rename_i j js' hc
   split at h
   ·rename_i m1 b hl
    split at h
    ·rename_i m2 bs hx
     cases h
     obtain⟨k1,k2⟩:=zMG (hf:=hf) hl
     obtain⟨k3,k4⟩:=zGf (hf:=hf) hx
     rw[k1]
     simp only[k3]
     exact⟨by trivial,by rw[cL,cL,k2,k4]⟩
    ·cases h
   ·cases h
  ·cases h
  ·rename_i hc
   split at h
   ·rename_i m1 hl
    exact zGf h
   ·cases h
theorem zF4{φ:List Fact}{its:List It}(hφ:∀j it,its[j]?=some it->φ.getD j nofact=it.fact){K:FM->List HA->Prop}:∀{l:List (Nat×Bool)}{m m':FM},insM af its l m=some m'->K m' hs->Ins af φ imm l m hs K
 | [],m,m',h,hk=>by simp only[insM] at h;cases h;exact hk
 | (j,c)::r,m,m',h,hk=>by
  simp only[insM] at h
  split at h
  ·rename_i v js d hit hd
   intro u hx hu
   rw[hφ _ _ hit] at hu
   obtain⟨rfl,rfl⟩:=hu
   simp only[hd]
   exact zF4 hφ h hk
  ·rename_i v d hit hd
   intro u hx hu
   rw[hφ _ _ hit] at hu
   obtain⟨rfl,rfl⟩:=hu
   simp only[hd]
   exact zF4 hφ h hk
  ·cases h
theorem zNK{d:Nat}{v:Value}:look ((d,v)::m) d=some v:=jQ ..
theorem zLF{af:List Oper}{hsC:List HA}{js bs:List Nat}{r:FM}(hr:runX P n af hsC [] js m=some (r,bs)):r=m:=by
 cases js with
 | nil=>simp only[runX] at hr;cases hr;rfl
 | cons a b=>simp only[runX] at hr;cases hr
theorem zOF{af:List Oper}{hsC:List HA}{o:Oper}{js bs:List Nat}{r:FM}(hr:runX P n af hsC [o] js m=some (r,bs)):∃d u,o.dst=some d/\r=(d,u)::m:=by
 simp only[runX] at hr;split at hr
 ·split at hr
  ·rename_i m1 b hl;split at hr
   ·rename_i hx;cases hr
    rw[zLF hx];exact zIV hl
   ·cases hr
  ·cases hr
 ·cases hr
 ·split at hr
  ·rename_i m1 hl;rw[zLF hr];exact zJz hl
  ·cases hr
theorem zOG{φ:List Fact}{its:List It}(hφ:∀j it,its[j]?=some it->φ.getD j nofact=it.fact){hsC:List HA}{i:Nat}{l:List (Nat×Bool)}{o:Oper}{v:Value}{js:List Nat}{m' m2:FM}{d0:Nat}{bs:List Nat}
 (hi:its[i]?=some (.p v js)) (ho:af[i]?=some o) (hm:insM af its l m=some m') (hr:runX P n (af.take (i+1)) hsC [o] js m'=some ((d0,v)::m2,bs)) (hb:bs=js.map (blkAt hsC)):Obl P n B af φ imm hsC m i l:=by
 intro imm1 hf aa _
 refine zF4 hφ hm ?_
 obtain⟨k1,k2⟩:=zGf (hf:=hf) hr
 have ax:=(cj.1 ho).1
 have hd:(af.take (i+1)).drop i=[o]:=zE8 ho
 refine zIX [o] ⟨[],by rw[hd];rfl⟩ k1 (by rw[hb,k2]) ?_
 obtain⟨d,u,hd',he⟩:=zOF hr
 rw[List.cons.injEq,Prod.mk.injEq] at he
 obtain⟨⟨rfl,rfl⟩,rfl⟩:=he
 have hdst:dstAt af i=some d0:=by simp only[dstAt,ho,hd']
 refine zIR (hx:=[]) ?_ (Imm.le.refl _) rfl (v:=v) ?_ ?_
 ·rw[da,cx]
  simp only[cy,cK]
  omega
 ·rw[hdst];exact zIS zNK
 ·rw[hφ _ _ hi];exact⟨rfl,rfl⟩
theorem zEF{φ:List Fact}{its0:List It}(hφ:∀j it,its0[j]?=some it->φ.getD j nofact=it.fact){hsC:List HA}:∀{its:List It}{i:Nat}{ins:List (List (Nat×Bool))}{bs:List Nat},(∀j,its0[i+j]?=its[j]?) ->
 autoL P n af hsC m its0 i its ins=some (valsOf its,bs)->bs=blksOf hsC its->ObX P n B af φ imm hsC m i its ins->Obls P n B af φ imm hsC m i ins
 | [],i,[],bs,_,_,_,_=>trivial
 | [],i,_::_,bs,_,h,_,_=>by simp only[autoL] at h;cases h
 | .p v js::r,i,[],bs,_,h,_,_=>by simp only[autoL] at h;cases h
 | .x f::r,i,[],bs,_,h,_,_=>by simp only[autoL] at h;cases h
 | .q v::r,i,[],bs,_,h,_,_=>by simp only[autoL] at h;cases h
 | .q v::r,i,l::ins,bs,hi,h,hb,ho=>by
  simp only[autoL] at h
  exact⟨ho.1,zEF hφ (λj=>by have:=hi (j+1);rw[show i+(j+1)=i+1+j from by omega] at this;simpa using this) h hb ho.2⟩
 | .x f::r,i,l::ins,bs,hi,h,hb,ho=>by
  simp only[autoL] at h
  exact⟨ho.2.1,zEF hφ (λj=>by have:=hi (j+1);rw[show i+(j+1)=i+1+j from by omega] at this;simpa using this) h hb ho.2.2⟩
 | .p v js::r,i,l::ins,bs,hi,h,hb,ho=>by
  simp only[autoL] at h
  split at h
  ·rename_i o m' vs bs2 h1 h2 h3
   split at h
   ·rename_i d0 v0 m2 bs' h4
    simp only[Option.some.injEq,Prod.mk.injEq,valsOf,List.cons.injEq] at h
    obtain⟨⟨rfl,rfl⟩,rfl⟩:=h
    have aJ:bs'.length=js.length:=by
     have:∀{l:List Oper}{js:List Nat}{m:FM}{r:FM}{bs:List Nat},runX P n (af.take (i+1)) hsC l js m=some (r,bs)->bs.length=js.length:=by
      intro l
      induction l with
      | nil=>intro js m r bs h;cases js <;> simp only[runX] at h <;> cases h;rfl
      | cons o l ih=>
       intro js m r bs h
       simp only[runX] at h
       split at h
       ·split at h
        ·split at h
         ·rename_i hx;cases h;simp[ih hx]
         ·cases h
        ·cases h
       ·cases h
       ·split at h
        ·exact ih h
        ·cases h
     exact this h4
    simp only[blksOf] at hb
    obtain⟨hb1,hb2⟩:=List.append_inj hb (by rw[dm];exact aJ)
    have hi0:its0[i]?=some (.p v0 js):=by have:=hi 0;simpa using this
    exact⟨zOG hφ hi0 h1 h2 h4 hb1,zEF hφ (λj=>by have:=hi (j+1);rw[show i+(j+1)=i+1+j from by omega] at this;simpa using this) h3 hb2 ho⟩
   ·cases h
  ·cases h
theorem monoX{φ:List Fact}{hsC:List HA}:∀{its:List It}{i:Nat}{ins:List (List (Nat×Bool))},ObX P n B af φ imm hsC m i its ins->MonoL (its.map It.fact)
 | [],_,_,_=>trivial
 | .p v js::r,_,[],h=>h.elim
 | .x f::r,_,[],h=>h.elim
 | .q v::r,_,[],h=>h.elim
 | .q v::r,_,l::ins,h=>⟨λ_ _ _ _ _ h=>h,monoX (its:=r) h.2⟩
 | .p v js::r,_,l::ins,h=>⟨λ_ _ _ _ _ h=>h,monoX (its:=r) h⟩
 | .x f::r,_,l::ins,h=>⟨λi j v hx hl hh=>(h.1 v hx).mono i j hl hh,monoX (its:=r) h.2.2⟩
theorem zC9:∀{a b:List Fact},MonoL a->MonoL b->MonoL (a++b)
 | [],_,_,h=>h
 | _::_,_,h,h'=>⟨h.1,zC9 h.2 h'⟩
theorem zKC:∀k,MonoL (List.replicate k nofact)
 | 0=>trivial
 | k+1=>⟨λ_ _ _ _ _ h=>h,zKC k⟩
theorem zMb:∀gs:List (List HA),MonoL (gs.map gfact)
 | []=>trivial
 | _::gs=>⟨λ_ _ _ _ _ h=>h,zMb gs⟩
theorem zLG:∀{gs:List (List HA)}{φ:List Fact}{k:Nat},(∀j g,gs[j]?=some g->φ.getD (k+j) nofact=gfact g)->BaseG φ imm k gs
 | [],_,_,_=>trivial
 | g::gs,φ,k,h=>⟨by have:=h 0 g (by simp);rw[gk] at this;rw[this];rfl,zLG λj g' hj=>by have:=h (j+1) g' (by simpa using hj);rwa[show k+(j+1)=k+1+j from by omega] at this⟩
theorem wA{id:Nat}(its:List It)(ins:List (List (Nat×Bool)))(hsC:List HA)(gs:List (List HA))(fin:List (Nat×Bool))(hhs:∀w,Good B imm hs w->Good B imm (hsC++gs.flatten) w)
 (hob:ObX P n B af (factsOf af.length its gs) imm hsC m 0 its ins)
 (hend:∀imm1,imm.le imm1->Ins af (factsOf af.length its gs) imm1 fin m hsC λm' ag=>R P n B af Q its.length imm1 ag m')
 (ha:autoL P n af hsC m its 0 its ins=some (valsOf its,blksOf hsC its):=by kernel_rfl)
 (hm:P.follows .mixedOrders=true:=by kernel_rfl) (hc:anyChk af n its.length gs.length ins (m.map (·.1))=true:=by kernel_rfl) (hf:finChk af its.length gs.length ins fin=true:=by kernel_rfl) :
 J P n B (.region id af.toArray true) Q imm hs m:=by
 have hφ:∀j it,its[j]?=some it->(factsOf af.length its gs).getD j nofact=it.fact:=λj it hj=>by
  have ax:=(cj.1 hj).1
  unfold factsOf
  rw[cG,ft (by rw[dm];exact ax),dt,hj]
  rfl
 have bK:its.length<=af.length:=(AnyOk.mk' hc).le
 refine zKX its.length ins (factsOf af.length its gs) hsC gs fin hm hc hf hhs (zC9 (monoX hob) (zC9 (zKC _) (zMb gs))) (zLG λj g hj=>?_)
  (zEF hφ (λj=>by rw[cm]) ha rfl hob) hend
 unfold factsOf
 rw[cG,gp (by rw[dm];omega),gp (by rw[dm,dw];omega),dm,dw,dt,
  show af.length+j - its.length - (af.length - its.length)=j from by omega,hj]
 rfl
abbrev W:Int->Int:=IntKind.i64.wrap
theorem T_w{e:Exit}(m':FM)(h:T n B Q e imm hs m')(hk:keep m (m'.map (·.1))=some m':=by kernel_rfl):T n B Q e imm hs m:=zNr (zCE hk) h
theorem pE{c:Code}(m':FM)(h:J P n B c Q imm hs m')(hk:keep m (m'.map (·.1))=some m':=by kernel_rfl):J P n B c Q imm hs m:=zNq (zCE hk) h
theorem yE{x:Operand}{p q:Code}{c:Bool}{α:Type}{X Y:Option α}{r:α}(hM:(if c=true then X else Y)=some r)
 (ht:c=true->X=some r->J P n B p Q imm hs m) (hf:c=false->Y=some r->J P n B q Q imm hs m) (hc:val m x=some (.bool c):=by kernel_rfl):J P n B (.cond x p q) Q imm hs m:=zQA hc hM ht hf
end
end Go.LN
namespace Go.LN
section
variable {P:Program}{n:Nat}{B:Base}{Q:Exit->Act->World->Prop}{imm:Imm}{hs:List HA}{m:FM}{af:List Oper}{pc d:Nat}{ty:TypeId}{pos:String}{after:Array Edge}{g:Option (Nat×Bool)}
theorem xA{t:TypeId}{x:Operand}{ad:Addr}{cs:List Value}(o:Nat)(ap:At imm ad cs)(cs':List Value)(v:Value)(ho:af[pc]?=some ⟨some d,.load t x,ty,pos,after,g⟩)(next:R P n B af Q (pc+1) imm hs ((d,v)::m))(hg:guardB af m g=some true:=by kernel_rfl)(hn:Nat.blt d n=true:=by kernel_rfl)(hx:val m x=some (.pointer (some (ad.add o))):=by kernel_rfl)(bR:Nat.ble o cs.length=true:=by kernel_rfl)(hc:(cs.drop o).take cs'.length=cs':=by kernel_rfl)(hv:loadV P t cs'=some v:=by kernel_rfl):R P n B af Q pc imm hs m:=
 zNF o ho hg hn ap hx bR hc hv next
theorem gT{t:TypeId}{x:Operand}{ad:Addr}{cs:List Value}(o:Nat)(ap:At imm ad cs)(cs':List Value)(v:Value)(ho:af[pc]?=some ⟨some d,.load t x,ty,pos,after,g⟩)(next:Rq P n B af Q (pc+1) imm hs ((d,v)::m))(hg:guardB af m g=some true:=by kernel_rfl)(hn:Nat.blt d n=true:=by kernel_rfl)(hx:val m x=some (.pointer (some (ad.add o))):=by kernel_rfl)(bR:Nat.ble o cs.length=true:=by kernel_rfl)(hc:(cs.drop o).take cs'.length=cs':=by kernel_rfl)(hv:loadV P t cs'=some v:=by kernel_rfl):Rq P n B af Q pc imm hs m:=
 zMD o ho hg hn ap hx bR hc hv next
theorem xK{α:Type}[Rp α]{t:TypeId}{x xi:Operand}{v:Value}{k:IntKind}{i:Int}{l:List α}{y:α}(ho:af[pc]?=some ⟨some d,.indexAddr t x xi,ty,pos,after,g⟩)(hi:val m xi=some (.int k i))(ag:SL imm v l)(hy:idx l i=some y)(next:∀ad aN,At imm ad aN->Rp.rep imm aN y->R P n B af Q (pc+1) imm hs ((d,.pointer (some ad))::m))(hg:guardB af m g=some true:=by kernel_rfl)(hn:Nat.blt d n=true:=by kernel_rfl)(hx:val m x=some v:=by kernel_rfl)(ht:elemT P t=some (Rp.sz α):=by kernel_rfl):R P n B af Q pc imm hs m:=
 zPL ho hg hn hx hi ht ag hy next
theorem dZ{α:Type}[Rp α]{t:TypeId}{x xi:Operand}{v:Value}{k:IntKind}{i:Int}{l:List α}{y:α}(ho:af[pc]?=some ⟨some d,.indexAddr t x xi,ty,pos,after,g⟩)(hi:val m xi=some (.int k i))(ag:SL imm v l)(hy:idx l i=some y)(next:∀ad aN,At imm ad aN->Rp.rep imm aN y->Rq P n B af Q (pc+1) imm hs ((d,.pointer (some ad))::m))(hg:guardB af m g=some true:=by kernel_rfl)(hn:Nat.blt d n=true:=by kernel_rfl)(hx:val m x=some v:=by kernel_rfl)(ht:elemT P t=some (Rp.sz α):=by kernel_rfl):Rq P n B af Q pc imm hs m:=
 zNx ho hg hn hx hi ht ag hy next
theorem pF{α:Type}[Rp α]{t:TypeId}{x xi:Operand}{v:Value}{k:IntKind}{i:Int}{cs:List Value}{l:List α}{y:α}(j:Nat)(ho:af[pc]?=some ⟨some d,.indexAddr t x xi,ty,pos,after,g⟩)(hi:val m xi=some (.int k i))(hj:hs[j]?=some (.osl v (Rp.sz α) cs))(hr:RepL (Rp.rep imm) (Rp.sz α) cs l)(hy:idx l i=some y)(next:∀ad cc,AtO v (Rp.sz α) i.toNat ad->(cs.drop (i.toNat*Rp.sz α)).take (Rp.sz α)=cc->Rp.rep imm cc y->R P n B af Q (pc+1) imm hs ((d,.pointer (some ad))::m))(hg:guardB af m g=some true:=by kernel_rfl)(hn:Nat.blt d n=true:=by kernel_rfl)(hx:val m x=some v:=by kernel_rfl)(ht:elemT P t=some (Rp.sz α):=by kernel_rfl):R P n B af Q pc imm hs m:=
 zKt j ho hg hn hj hx hi ht hr hy next
theorem zBt{t:TypeId}{x:Operand}{v0:Value}{sz i:Nat}{ad:Addr}{cs cc:List Value}(j o:Nat)(ap:AtO v0 sz i ad)(bJ:(cs.drop (i*sz)).take sz=cc)(cc':List Value)(v:Value)(ho:af[pc]?=some ⟨some d,.load t x,ty,pos,after,g⟩)(hj:hs[j]?=some (.osl v0 sz cs))(next:R P n B af Q (pc+1) imm hs ((d,v)::m))(hg:guardB af m g=some true:=by kernel_rfl)(hn:Nat.blt d n=true:=by kernel_rfl)(hx:val m x=some (.pointer (some (ad.add o))):=by kernel_rfl)(bR:Nat.ble (o+cc'.length) sz=true:=by kernel_rfl)(hc:(cc.drop o).take cc'.length=cc':=by kernel_rfl)(hv:loadV P t cc'=some v:=by kernel_rfl):R P n B af Q pc imm hs m:=
 zLz j o ho hg hn hj ap hx bJ bR hc hv next
theorem zQo{α:Type}[Rp α]{t:TypeId}{x:Operand}{lo hi:Option Operand}{v:Value}{i k:Int}{l l':List α}(ho:af[pc]?=some ⟨some d,.slice t x lo hi none,ty,pos,after,g⟩)(ag:SL imm v l)(hy:slc l i k=some l')(next:∀v',SL imm v' l'->R P n B af Q (pc+1) imm hs ((d,v')::m))(hg:guardB af m g=some true:=by kernel_rfl)(hn:Nat.blt d n=true:=by kernel_rfl)(hx:val m x=some v:=by kernel_rfl)(ht:elemT P t=some (Rp.sz α):=by kernel_rfl)(hlo:bnd m 0 lo=some i:=by kernel_rfl)(hhi:bnd m l.length hi=some k:=by kernel_rfl):R P n B af Q pc imm hs m:=
 zPN ho hg hn hx ht hlo hhi ag hy next
theorem gW{t t2:TypeId}{x y:Operand}{a b c:Str}(ho:af[pc]?=some ⟨some d,.binOp .add t x y t2,ty,pos,after,g⟩)(h:cat a b=some c)(next:R P n B af Q (pc+1) imm hs ((d,.string ⟨⟨c.l⟩⟩)::m))(hg:guardB af m g=some true:=by kernel_rfl)(hn:Nat.blt d n=true:=by kernel_rfl)(hx:val m x=some (.string ⟨⟨a.l⟩⟩):=by kernel_rfl)(hy:val m y=some (.string ⟨⟨b.l⟩⟩):=by kernel_rfl):R P n B af Q pc imm hs m:=
 zQj ho hg hn hx hy h next
theorem zB9{t:TypeId}{x y:Operand}{a:Str}{k:IntKind}{i:Int}{c:UInt8}(ho:af[pc]?=some ⟨some d,.index t x y,ty,pos,after,g⟩)(hy:val m y=some (.int k i))(h:sidx a i=some c)(next:R P n B af Q (pc+1) imm hs ((d,.int .u8 (c.toNat:Int))::m))(hg:guardB af m g=some true:=by kernel_rfl)(hn:Nat.blt d n=true:=by kernel_rfl)(hx:val m x=some (.string ⟨⟨a.l⟩⟩):=by kernel_rfl)(hu:P.underlying t=some .string:=by kernel_rfl):R P n B af Q pc imm hs m:=
 zNy ho hg hn hx hy hu h next
theorem zJ2{t:TypeId}{x:Operand}{lo hi:Option Operand}{a c:Str}{i k:Int}(ho:af[pc]?=some ⟨some d,.slice t x lo hi none,ty,pos,after,g⟩)(hy:sslc a i k=some c)(next:R P n B af Q (pc+1) imm hs ((d,.string ⟨⟨c.l⟩⟩)::m))(hg:guardB af m g=some true:=by kernel_rfl)(hn:Nat.blt d n=true:=by kernel_rfl)(hx:val m x=some (.string ⟨⟨a.l⟩⟩):=by kernel_rfl)(hu:P.underlying t=some .string:=by kernel_rfl)(hlo:bnd m 0 lo=some i:=by kernel_rfl)(hhi:bnd m a.l.length hi=some k:=by kernel_rfl):R P n B af Q pc imm hs m:=
 zNz ho hg hn hx hu hlo hhi hy next
theorem zQp{t t2:TypeId}{x y:Operand}{a b c:Int}(ho:af[pc]?=some ⟨some d,.binOp .quo t x y t2,ty,pos,after,g⟩)(h:quo a b=some c)(next:Rq P n B af Q (pc+1) imm hs ((d,.int .i64 c)::m))(hg:guardB af m g=some true:=by kernel_rfl)(hn:Nat.blt d n=true:=by kernel_rfl)(hx:val m x=some (.int .i64 a):=by kernel_rfl)(hy:val m y=some (.int .i64 b):=by kernel_rfl):Rq P n B af Q pc imm hs m:=
 zQF ho hg hn hx hy h next
theorem zNL{t t2:TypeId}{x y:Operand}{a b c:Int}(ho:af[pc]?=some ⟨some d,.binOp .rem t x y t2,ty,pos,after,g⟩)(h:rem a b=some c)(next:R P n B af Q (pc+1) imm hs ((d,.int .i64 c)::m))(hg:guardB af m g=some true:=by kernel_rfl)(hn:Nat.blt d n=true:=by kernel_rfl)(hx:val m x=some (.int .i64 a):=by kernel_rfl)(hy:val m y=some (.int .i64 b):=by kernel_rfl):R P n B af Q pc imm hs m:=
 zQk ho hg hn hx hy h next
theorem zPr{t t2:TypeId}{x y:Operand}{a b c:Int}(ho:af[pc]?=some ⟨some d,.binOp .rem t x y t2,ty,pos,after,g⟩)(h:rem a b=some c)(next:Rq P n B af Q (pc+1) imm hs ((d,.int .i64 c)::m))(hg:guardB af m g=some true:=by kernel_rfl)(hn:Nat.blt d n=true:=by kernel_rfl)(hx:val m x=some (.int .i64 a):=by kernel_rfl)(hy:val m y=some (.int .i64 b):=by kernel_rfl):Rq P n B af Q pc imm hs m:=
 zQG ho hg hn hx hy h next
theorem zBu{t:TypeId}{x y:Operand}{b o:Nat}{c:Array Value}{v:Value}(j:Nat)(c':List Value)(ag:List HA)(ho:af[pc]?=some ⟨none,.store t x y,ty,pos,after,g⟩)(hj:hs[j]?=some (.blk b c))(hx:val m x=some (.pointer (some ⟨b,o,none⟩)))(hy:val m y=some v)(next:R P n B af Q (pc+1) imm ag m)(hg:guardB af m g=some true:=by kernel_rfl)(bN:sizeT P t=some v.cells.size:=by kernel_rfl)(bR:Nat.ble (o+v.cells.size) c.size=true:=by kernel_rfl)(bX:v.cells.toList.all Value.oneCell'=true:=by rfl)(hc:wr c o v.cells.toList=⟨c'⟩:=by kernel_rfl)(hh:hs.set j (.blk b ⟨c'⟩)=ag:=by rfl):R P n B af Q pc imm hs m:=
 zHY j ho hg hj hx hy bN bR bX hc hh next
theorem qA{α:Type}[Rp α]{t t2:TypeId}{x1 x2:Operand}{v vx:Value}{cs aN:List Value}{l l2 y:List α}{by':Nat}(e zs j:Nat)(ho:af[pc]?=some ⟨some d,.call { callee:=.builtin .append,args:=#[x1,x2],argTypes:=#[t,t2] },ty,pos,after,g⟩)(hj:hs[j]?=some (.osl v (Rp.sz α) cs))(hy:val m x2=some vx)(hr:RepL (Rp.rep imm) (Rp.sz α) cs l)(s:Src imm hs vx (Rp.sz α) aN)(hr2:RepL (Rp.rep imm) (Rp.sz α) aN l2)(hb:app by' l l2=some y)
 (next:∀a' c' cs',RepL (Rp.rep imm) (Rp.sz α) cs' y->R P n B af Q (pc+1) imm (hs.set j (.osl (.slice a' y.length c') (Rp.sz α) cs')) ((d,.slice a' y.length c')::m)) (hg:guardB af m g=some true:=by kernel_rfl) (hn:Nat.blt d n=true:=by kernel_rfl) (hx:val m x1=some v:=by kernel_rfl) (ht:appT P t=some (e,Rp.sz α,by',zs):=by kernel_rfl) (ht2:appT P t2=some (e,Rp.sz α,by',zs):=by kernel_rfl):R P n B af Q pc imm hs m:=
 zQJ (λ_=>True) (e:=e) (zs:=zs) j ho hg hn hx hy ht ht2 hj hr (λ_ _=>.inl trivial) s hr2 hb (λa' c' cs' _ h=>next a' c' cs' h)
end
end Go.LN
namespace Go.LN
def mkrow{α:Type}(bytes:Nat)(k:Int)(z:α):Option (List α):=if 0<=k/\k.toNat*bytes<=140737488355328 then some (List.replicate k.toNat z) else none
def zrow(z:Array Value)(k:Nat):List Value:=(List.range k).map λi=>z[i % z.size]!
theorem zOH(z:Array Value)(k:Nat)(h:0<z.size):(List.range z.size).map (λi=>z[(k*z.size+i) % z.size]!)=z.toList:=by
 refine ew (by simp) λi h1 h2=>?_;have hi:i<z.size:=by simpa using h1
 simp only[List.getElem_map,gn,gg];have e:(k*z.size+i) % z.size=i:=by rw[Nat.add_comm,Nat.mul_comm,Nat.add_mul_mod_self_left,Nat.mod_eq_of_lt hi]
 rw[e];exact getElem!_pos z i hi
theorem zLH{α:Type}{ρ:List Value->α->Prop}{z:Array Value}{a:α}(hz:0<z.size)(h:ρ z.toList a):∀k,RepL ρ z.size (zrow z (k*z.size)) (List.replicate k a)
 | 0=>by simp[zrow,RepL]
 | k+1=>by
  have e:zrow z ((k+1)*z.size)=zrow z (k*z.size)++z.toList:=by
   unfold zrow
   rw[dz,List.range_add,List.map_append,List.map_map]
   congr 1
   exact zOH z k hz
  rw[e,List.replicate_succ']
  exact(zLH hz h k).append (.single (by simp) h)
section
variable {P:Program}{n:Nat}{B:Base}{Q:Exit->Act->World->Prop}{imm:Imm}{hs:List HA}{m:FM}{af:List Oper}{pc d:Nat}{ty:TypeId}{pos:String}{after:Array Edge}{g:Option (Nat×Bool)}
def mkT(P:Program)(t:TypeId):Option (Nat×Nat×List Value):=
 match elemOfT P t with
 | some e=>match sizeT P e,bytesT P e,zeroC P e with
  | some s,some b,some z=>bif Nat.beq z.size s&&Nat.blt 0 b then some (s,b,z.toList) else none
  | _,_,_=>none
 | none=>none
theorem zNM{α:Type}[Rp α]{t:TypeId}{x y:Operand}{k:Int}{a:α}{l:List α}(by':Nat)(z:List Value)(ho:af[pc]?=some ⟨some d,.makeSlice t x y,ty,pos,after,g⟩)(hk:mkrow by' k a=some l)(hr:Rp.rep imm z a)
 (next:∀b cs,RL imm cs l->R P n B af Q (pc+1) imm (.osl (.slice (some ⟨b,0,none⟩) l.length l.length) (Rp.sz α) cs::hs) ((d,.slice (some ⟨b,0,none⟩) l.length l.length)::m))
 (hg:guardB af m g=some true:=by kernel_rfl) (hn:Nat.blt d n=true:=by kernel_rfl) (hx:val m x=some (.int .i64 k):=by kernel_rfl) (hy:val m y=some (.int .i64 k):=by kernel_rfl) (ht:mkT P t=some (Rp.sz α,by',z):=by kernel_rfl) :
 R P n B af Q pc imm hs m:=by
 refine jR ho hg rfl hn λac w f gd=>?_
 unfold mkrow at hk
 split at hk
 ·rename_i hk0
  cases hk
  obtain⟨hk0,hkb⟩:=hk0
  unfold mkT at ht
  cases he:elemOfT P t with
  | none=>rw[he] at ht;cases ht
  | some e=>
   rw[he] at ht
   simp only at ht
   split at ht
   ·rename_i s b zc h1 h2 h3
    cases hq:Nat.beq zc.size s&&Nat.blt 0 b with
    | false=>rw[hq] at ht;cases ht
    | true=>
     rw[hq] at ht
     simp only[cond_true,Option.some.injEq,Prod.mk.injEq] at ht
     obtain⟨rfl,rfl,rfl⟩:=ht
     rw[cH] at hq
     have hzs:=cM hq.1
     have hb0:0<b:=by simpa using hq.2
     have hu:P.underlying t=some (.slice e):=by
      unfold elemOfT at he
      split at he <;> simp_all
     cases hie:P.info? e with
     | none=>simp[sizeT,hie] at h1
     | some ie=>
     have hsz':ie.size=Rp.sz α:=by simpa [sizeT,hie] using h1
     have hby':ie.bytes=b:=by simpa [bytesT,hie] using h2
     obtain⟨zv,hz1,hz2⟩:=zAk (w:=w) h3
     have hpos:0<zc.size:=by rw[hzs];exact Rp.pos
     have hkk:(k.toNat:Int)=k:=Int.toNat_of_nonneg hk0
     have bK:k.toNat<=k.toNat*b:=Nat.le_mul_of_pos_right _ hb0
     have hwr:IntKind.i64.wrap k=k:=by rw[IntKind.wrap_i64];omega
     have hmul:((ie.bytes:Int)*k)<=140737488355328:=by
      rw[<- hkk,hby',<- Int.natCast_mul,Nat.mul_comm]
      exact Int.ofNat_le.2 hkb
     have hnt:¬(k<0):=by omega
     have hnb:¬((ie.bytes:Int)*k>2 ^ 48):=by omega
     let row:Array Value:=if k.toNat*Rp.sz α=0 then #[] else(Array.range (k.toNat*Rp.sz α)).map (λi=>zc[i % zc.size]!)
     have hrow:(((Array.range (k.toNat*ie.size)).map λi=>(if k.toNat*ie.size=0 then #[] else zc)[i % (if k.toNat*ie.size=0 then(#[]:Array Value) else zc).size]!))=⟨zrow zc (k.toNat*zc.size)⟩:=by
      rw[hsz',<- hzs]
      apply Array.ext'
      by_cases h0:k.toNat*zc.size=0
      ·simp[h0,zrow]
      ·simp[h0,zrow]
     have aJ:(zrow zc (k.toNat*zc.size)).length=k.toNat*Rp.sz α:=by simp[zrow,hzs]
     have hg:=gd.alloc_osl ⟨zrow zc (k.toNat*zc.size)⟩ e (Rp.sz α) k.toNat k.toNat (zrow zc (k.toNat*zc.size)) (by show _<=(zrow _ _).length;rw[aJ];exact cI _) (cI _) (by rw[<- aJ];exact List.take_length) aJ (by omega)
     have hll:(List.replicate k.toNat a).length=k.toNat:=dw
     rw[hll] at next
     refine⟨_,_,imm,_,?_,hg,next w.heap.size _ ?_⟩
     ·simp only[execOp,f.eval hx,f.eval hy,Instr.makeSlice,Sem.run_bind,xE hu,Result.andThen_ok,asInt,asIntOf,Sem.run_pure,typeInfo,run_program,hie,hwr,hnt,hnb,decide_false,eo,cU,false_or,or_self,if_false,Int.lt_irrefl,
       gt_iff_lt,run_askRoom,pZ h1]
      by_cases h0:k.toNat*Rp.sz α=0
      ·have:=hrow
       rw[hsz'] at this
       simp only[h0,if_true] at this ⊢
       simp only[Sem.run_pure,Result.andThen_ok,newRow,run_newObj,Sem.run_bind,this]
      ·have:=hrow
       rw[hsz'] at this
       simp only[h0,if_false] at this ⊢
       simp only[Sem.run_bind,hz1,hz2,Sem.run_pure,Result.andThen_ok,newRow,run_newObj,this]
     ·have:=zLH (z:=zc) (a:=a) hpos hr k.toNat
      rw[hzs] at this
      show RepL _ _ _ _
      rw[hzs]
      exact this
   ·cases ht
 ·cases hk
theorem zMc{f:FuncId}{first cap:List Value}{x:Operand}{xs:Array Operand}{ts:Array TypeId}{vs:List Value}{hs1 rest:List HA}{post:Nat->Imm->List HA->Value->Prop}
 (ho:af[pc]?=some ⟨some d,.call { callee:=.value x,args:=xs,argTypes:=ts },ty,pos,after,g⟩) (hx:val m x=some (.func (.func f) ⟨first⟩ ⟨cap⟩)) (hf:callable P f=true)
 (hvs:vals m xs.toList=some vs) (hh:hs=hs1++rest) (hc:Ret P f (first++vs++cap) imm hs1 post)
 (next:∀am ag v k,imm.le am->B.w0.heap.size<=k->post k am ag v->(∀b∈ag.flatMap HA.fp,b∈hs1.flatMap HA.fp∨B.w0.heap.size<=b)->R P n B af Q (pc+1) am (ag++rest) ((d,v)::m)) (hg:guardB af m g=some true:=by kernel_rfl) (hn:Nat.blt d n=true:=by kernel_rfl):R P n B af Q pc imm hs m:=
 zG9 ho hg λa w fr gd=>by
  subst hh
  have hargs:xs.map a.eval=vs.toArray:=by apply Array.ext';rw[ed,fr.evals hvs]
  have hall:(⟨first⟩:Array Value)++vs.toArray++⟨cap⟩=(first++vs++cap).toArray:=by apply Array.ext';simp
  have bU:=gd.nodup
  rw[cZ] at bU
  have hg1:=gd.enter (hs1:=hs1) (λA hA=>cV _ hA) (cE.1 bU).1
  unfold Oper.wp
  simp only[execOp,resolve,Deferred.ofValue,fr.eval hx,hargs,Sem.run_bind,Sem.run_pure,Result.andThen_ok,invoke,hall,zBI hf,Oper.upon]
  refine(hc w hg1).mono λe w' he=>?_
  cases e with
  | returned v=>
   obtain⟨am,ag,hp,hgood⟩:=he
   obtain⟨g2,bK,hfp⟩:=gd.leave hgood
   exact next am ag v w.heap.size bK gd.frm.size hp hfp _ w' (fr.put d v (by simpa using hn)) g2
  | panicked c=>exact he.elim
  | outgrown=>exact he.elim
end
class Vr (α:Type) where
 rep:Imm->Value->α->Prop
 mono:∀{i j:Imm}{v:Value}{a:α},i.le j->rep i v a->rep j v a
instance:Vr Int:=⟨λ_ v a=>v=.int .i64 a,λ_ h=>h⟩
instance:Vr Bool:=⟨λ_ v a=>v=.bool a,λ_ h=>h⟩
instance:Vr Str:=⟨λ_ v a=>v=.string ⟨⟨a.l⟩⟩,λ_ h=>h⟩
instance {α:Type} [Rp α]:Vr (List α):=⟨λi v a=>SL i v a,λhl h=>h.mono hl⟩
def FV1{α β:Type}[Vr α][Vr β](P:Program)(imm:Imm)(aK:List HA)(v:Value)(φ:α->Option β):Prop:=
 ∃f first cap,v=.func (.func f) ⟨first⟩ ⟨cap⟩/\callable P f=true/\∀am,imm.le am->∀a r va,φ a=some r->Vr.rep am va a->Ret P f (first++[va]++cap) am aK λ_ i ag u=>ag=aK/\Vr.rep i u r
theorem FV1.mono{α β:Type}[Vr α][Vr β]{P:Program}{i j:Imm}{aK:List HA}{v:Value}{φ:α->Option β}(hl:i.le j)(h:FV1 P i aK v φ):FV1 P j aK v φ:=by
 obtain⟨f,first,cap,h1,h2,h3⟩:=h;exact⟨f,first,cap,h1,h2,λam h'=>h3 am (hl.trans h')⟩
theorem FV1.intro{α β:Type}[Vr α][Vr β]{P:Program}{imm:Imm}{aK:List HA}{f:FuncId}{first cap:List Value}{φ:α->Option β}(h:∀am,imm.le am->∀a r va,φ a=some r->Vr.rep am va a->Ret P f (first++[va]++cap) am aK λ_ i ag u=>ag=aK/\Vr.rep i u r)
 (hc:callable P f=true:=by kernel_rfl):FV1 P imm aK (.func (.func f) ⟨first⟩ ⟨cap⟩) φ:=⟨f,first,cap,rfl,hc,h⟩
def FV2{α β γ:Type}[Vr α][Vr β][Vr γ](P:Program)(imm:Imm)(aK:List HA)(v:Value)(φ:α->β->Option γ):Prop:=
 ∃f first cap,v=.func (.func f) ⟨first⟩ ⟨cap⟩/\callable P f=true/\∀am,imm.le am->∀a b r va vb,φ a b=some r->Vr.rep am va a->Vr.rep am vb b->Ret P f (first++[va,vb]++cap) am aK λ_ i ag u=>ag=aK/\Vr.rep i u r
theorem FV2.mono{α β γ:Type}[Vr α][Vr β][Vr γ]{P:Program}{i j:Imm}{aK:List HA}{v:Value}{φ:α->β->Option γ}(hl:i.le j)(h:FV2 P i aK v φ):FV2 P j aK v φ:=by
 obtain⟨f,first,cap,h1,h2,h3⟩:=h;exact⟨f,first,cap,h1,h2,λam h'=>h3 am (hl.trans h')⟩
theorem FV2.intro{α β γ:Type}[Vr α][Vr β][Vr γ]{P:Program}{imm:Imm}{aK:List HA}{f:FuncId}{first cap:List Value}{φ:α->β->Option γ}(h:∀am,imm.le am->∀a b r va vb,φ a b=some r->Vr.rep am va a->Vr.rep am vb b->Ret P f (first++[va,vb]++cap) am aK λ_ i ag u=>ag=aK/\Vr.rep i u r)
 (hc:callable P f=true:=by kernel_rfl):FV2 P imm aK (.func (.func f) ⟨first⟩ ⟨cap⟩) φ:=⟨f,first,cap,rfl,hc,h⟩
section
variable {P:Program}{n:Nat}{B:Base}{Q:Exit->Act->World->Prop}{imm:Imm}{hs:List HA}{m:FM}{af:List Oper}{pc d:Nat}{ty:TypeId}{pos:String}{after:Array Edge}{g:Option (Nat×Bool)}
theorem zKD{α β:Type}[Vr α][Vr β]{x y:Operand}{ts:Array TypeId}{v va:Value}{a:α}{r:β}{φ:α->Option β}{aK rest:List HA}
 (ho:af[pc]?=some ⟨some d,.call { callee:=.value x,args:=#[y],argTypes:=ts },ty,pos,after,g⟩) (hy:val m y=some va) (hF:FV1 P imm aK v φ) (hr:φ a=some r) (ha:Vr.rep imm va a) (hh:hs=aK++rest)
 (next:∀am u,imm.le am->Vr.rep am u r->R P n B af Q (pc+1) am (aK++rest) ((d,u)::m)) (hx:val m x=some v:=by kernel_rfl) (hg:guardB af m g=some true:=by kernel_rfl) (hn:Nat.blt d n=true:=by kernel_rfl):R P n B af Q pc imm hs m:=by
 obtain⟨f,first,cap,rfl,hf,hc⟩:=hF
 refine zMc ho hx hf (vs:=[va]) (by simp[vals,hy]) hh (hc imm (Imm.le.refl _) a r va hr ha) ?_ hg hn
 rintro am ag u k hl hk ⟨rfl,h⟩ -
 exact next am u hl h
theorem zQq{α β γ:Type}[Vr α][Vr β][Vr γ]{x y z:Operand}{ts:Array TypeId}{v va vb:Value}{a:α}{b:β}{r:γ}{φ:α->β->Option γ}{aK rest:List HA}
 (ho:af[pc]?=some ⟨some d,.call { callee:=.value x,args:=#[y,z],argTypes:=ts },ty,pos,after,g⟩) (hy:val m y=some va) (hz:val m z=some vb) (hF:FV2 P imm aK v φ) (hr:φ a b=some r) (ha:Vr.rep imm va a) (hb:Vr.rep imm vb b) (hh:hs=aK++rest)
 (next:∀am u,imm.le am->Vr.rep am u r->R P n B af Q (pc+1) am (aK++rest) ((d,u)::m)) (hx:val m x=some v:=by kernel_rfl) (hg:guardB af m g=some true:=by kernel_rfl) (hn:Nat.blt d n=true:=by kernel_rfl):R P n B af Q pc imm hs m:=by
 obtain⟨f,first,cap,rfl,hf,hc⟩:=hF
 refine zMc ho hx hf (vs:=[va,vb]) (by simp[vals,hy,hz]) hh (hc imm (Imm.le.refl _) a b r va vb hr ha hb) ?_ hg hn
 rintro am ag u k hl hk ⟨rfl,h⟩ -
 exact next am u hl h
end
end Go.LN
namespace Go.LN
theorem Good.grow{B:Base}{imm:Imm}{hs:List HA}{w:World}(h:Good B imm hs w)(k:Nat)(os:Array Obj):Good B imm hs (Sort.grow (w.drewN k) os):=by
 have h:=h.drewN k;generalize w.drewN k=w at h;have old:∀b,b<w.heap.size->(Sort.grow w os).heap[b]?=w.heap[b]?:=λb hb=>by
  show (w.heap++os)[b]?=_;rw[gu hb]
 refine⟨λb c e=>?_,λA hA=>(h.own A hA).same (λ_ _ p=>p) (λ_ _=>rfl) (λb hb=>old b ((h.own A hA).lt hb).1),h.nodup,⟨h.frm.os,h.frm.tape,h.frm.output,?_,λb hb hio=>?_,h.frm.imm,h.frm.drawn⟩⟩
 ·obtain⟨ty,fr,e'⟩:=h.inv b c e;exact⟨ty,fr,(old b (h.lt_imm e)).trans e'⟩
 ·show _<=(w.heap++os).size;rw[Array.size_append];exact cX h.frm.size (ga _ _)
 ·exact(old b (gm hb h.frm.size)).trans (h.frm.heap b hb hio)
def GT (P:Program) (imm:Imm):Prop:=∃ g,P.globalNamed "internal/strconv.uint64pow10"=some g∧imm g=some (Lib.pow10Tab.map fun z=>Value.int .u64 z).toArray
def GM (P:Program) (imm:Imm):Prop:=∃ g,P.globalNamed "internal/bytealg.MaxLen"=some g∧∃ m,imm g=some #[.int .i64 m]
def GE(P:Program)(imm:Imm)(nm:String):Prop:=∃g,P.globalNamed nm=some g/\∃t p,imm g=some #[.iface t p]
def GH (P:Program) (imm:Imm):Prop:=GT P imm∧GM P imm∧GE P imm "strconv.ErrSyntax"∧GE P imm "strconv.ErrRange"
theorem GH.mono{P:Program}{i j:Imm}(hl:i.le j)(h:GH P i):GH P j:=by
 obtain⟨⟨g,h1,h2⟩,⟨g3,h3,m,h4⟩,⟨g5,h5,t,p,h6⟩,⟨g7,h7,u,q,h8⟩⟩:=h;exact⟨⟨g,h1,hl _ _ h2⟩,⟨g3,h3,m,hl _ _ h4⟩,⟨g5,h5,t,p,hl _ _ h6⟩,⟨g7,h7,u,q,hl _ _ h8⟩⟩
theorem GH.es {P:Program}{imm:Imm} (h:GH P imm):GE P imm "strconv.ErrSyntax":=h.2.2.1
theorem GH.er {P:Program}{imm:Imm} (h:GH P imm):GE P imm "strconv.ErrRange":=h.2.2.2
end Go.LN
namespace Go.LN
theorem zBe{k : IntKind}{n : Int}: (Value.int k n).oneCell' = true:=rfl
theorem zID{s : ByteArray}: (Value.string s).oneCell' = true:=rfl
theorem SL.one{α : Type}[Rp α]{i : Imm}{v : Value}{l : List α}(h : SL i v l): v.oneCell' = true:=by
 obtain⟨aN,hs,_⟩:=h
 rcases hs with⟨rfl,_⟩|⟨b,off,len,cap,c,rfl,_⟩ <;> rfl
structure zF where
 Name : Str
 Dims : List Int
instance : Rp zF where
 sz:=2
 pos:=by decide
 rep i cs s := ∃v0 : Value,cs = [.string ⟨⟨s.Name.l⟩⟩,v0] /\ SL i v0 s.Dims
 len h:=by obtain⟨v0,rfl,h0⟩:=h;rfl
 mono hm h:=by obtain⟨v0,e,h0⟩:=h;exact⟨v0,e,h0.mono hm⟩
 one h:=by obtain⟨v0,rfl,h0⟩:=h;simp[zID,h0.one]
theorem zCy{i : Imm}{cs : List Value}{s : zF}(h : Rp.rep i cs s): ∃v0 : Value,cs = [.string ⟨⟨s.Name.l⟩⟩,v0] /\ SL i v0 s.Dims:=h
theorem qY{i : Imm}{cs : List Value}{s : zF}(h : ∃v0 : Value,cs = [.string ⟨⟨s.Name.l⟩⟩,v0] /\ SL i v0 s.Dims): Rp.rep i cs s:=h
theorem wZ{i : Imm}{cs : List Value}{s : zF}(h : Rp.rep i cs s): ∃(p0 : Option Addr) (c0 : Nat),cs = [.string ⟨⟨s.Name.l⟩⟩,vS p0 s.Dims c0] /\ SL i (vS p0 s.Dims c0) s.Dims:=by
 obtain⟨v0,e,h0⟩:=zCy h
 obtain⟨p0,c0,rfl⟩:=h0.form
 exact⟨p0,c0,e,h0⟩
instance : Vr zF:=⟨λi v a => ∃cs,v = .agg ⟨cs⟩ /\ Rp.rep i cs a,λhl ⟨cs,e,h⟩=>⟨cs,e,Rp.mono hl h⟩⟩
structure zA where
 Coefs : List Int
 Const : Int
instance : Rp zA where
 sz:=2
 pos:=by decide
 rep i cs s := ∃v0 : Value,cs = [v0,.int .i64 s.Const] /\ SL i v0 s.Coefs
 len h:=by obtain⟨v0,rfl,h0⟩:=h;rfl
 mono hm h:=by obtain⟨v0,e,h0⟩:=h;exact⟨v0,e,h0.mono hm⟩
 one h:=by obtain⟨v0,rfl,h0⟩:=h;simp[zBe,h0.one]
theorem zGg{i : Imm}{cs : List Value}{s : zA}(h : Rp.rep i cs s): ∃v0 : Value,cs = [v0,.int .i64 s.Const] /\ SL i v0 s.Coefs:=h
theorem yT{i : Imm}{cs : List Value}{s : zA}(h : ∃v0 : Value,cs = [v0,.int .i64 s.Const] /\ SL i v0 s.Coefs): Rp.rep i cs s:=h
theorem yQ{i : Imm}{cs : List Value}{s : zA}(h : Rp.rep i cs s): ∃(p0 : Option Addr) (c0 : Nat),cs = [vS p0 s.Coefs c0,.int .i64 s.Const] /\ SL i (vS p0 s.Coefs c0) s.Coefs:=by
 obtain⟨v0,e,h0⟩:=zGg h
 obtain⟨p0,c0,rfl⟩:=h0.form
 exact⟨p0,c0,e,h0⟩
instance : Vr zA:=⟨λi v a => ∃cs,v = .agg ⟨cs⟩ /\ Rp.rep i cs a,λhl ⟨cs,e,h⟩=>⟨cs,e,Rp.mono hl h⟩⟩
structure zE where
 Lo : List zA
 Hi : List zA
instance : Rp zE where
 sz:=2
 pos:=by decide
 rep i cs s := ∃v0 v1 : Value,cs = [v0,v1] /\ SL i v0 s.Lo /\ SL i v1 s.Hi
 len h:=by obtain⟨v0,v1,rfl,h0,h1⟩:=h;rfl
 mono hm h:=by obtain⟨v0,v1,e,h0,h1⟩:=h;exact⟨v0,v1,e,h0.mono hm,h1.mono hm⟩
 one h:=by obtain⟨v0,v1,rfl,h0,h1⟩:=h;simp[h0.one,h1.one]
theorem zDY{i : Imm}{cs : List Value}{s : zE}(h : Rp.rep i cs s): ∃v0 v1 : Value,cs = [v0,v1] /\ SL i v0 s.Lo /\ SL i v1 s.Hi:=h
theorem qR{i : Imm}{cs : List Value}{s : zE}(h : ∃v0 v1 : Value,cs = [v0,v1] /\ SL i v0 s.Lo /\ SL i v1 s.Hi): Rp.rep i cs s:=h
theorem sX{i : Imm}{cs : List Value}{s : zE}(h : Rp.rep i cs s): ∃(p0 : Option Addr) (c0 : Nat) (p1 : Option Addr) (c1 : Nat),cs = [vS p0 s.Lo c0,vS p1 s.Hi c1] /\ SL i (vS p0 s.Lo c0) s.Lo /\ SL i (vS p1 s.Hi c1) s.Hi:=by
 obtain⟨v0,v1,e,h0,h1⟩:=zDY h
 obtain⟨p0,c0,rfl⟩:=h0.form
 obtain⟨p1,c1,rfl⟩:=h1.form
 exact⟨p0,c0,p1,c1,e,h0,h1⟩
instance : Vr zE:=⟨λi v a => ∃cs,v = .agg ⟨cs⟩ /\ Rp.rep i cs a,λhl ⟨cs,e,h⟩=>⟨cs,e,Rp.mono hl h⟩⟩
structure zK where
 Array : Str
 Subs : List zA
instance : Rp zK where
 sz:=2
 pos:=by decide
 rep i cs s := ∃v0 : Value,cs = [.string ⟨⟨s.Array.l⟩⟩,v0] /\ SL i v0 s.Subs
 len h:=by obtain⟨v0,rfl,h0⟩:=h;rfl
 mono hm h:=by obtain⟨v0,e,h0⟩:=h;exact⟨v0,e,h0.mono hm⟩
 one h:=by obtain⟨v0,rfl,h0⟩:=h;simp[zID,h0.one]
theorem zGh{i : Imm}{cs : List Value}{s : zK}(h : Rp.rep i cs s): ∃v0 : Value,cs = [.string ⟨⟨s.Array.l⟩⟩,v0] /\ SL i v0 s.Subs:=h
theorem kV{i : Imm}{cs : List Value}{s : zK}(h : ∃v0 : Value,cs = [.string ⟨⟨s.Array.l⟩⟩,v0] /\ SL i v0 s.Subs): Rp.rep i cs s:=h
theorem oA{i : Imm}{cs : List Value}{s : zK}(h : Rp.rep i cs s): ∃(p0 : Option Addr) (c0 : Nat),cs = [.string ⟨⟨s.Array.l⟩⟩,vS p0 s.Subs c0] /\ SL i (vS p0 s.Subs c0) s.Subs:=by
 obtain⟨v0,e,h0⟩:=zGh h
 obtain⟨p0,c0,rfl⟩:=h0.form
 exact⟨p0,c0,e,h0⟩
instance : Vr zK:=⟨λi v a => ∃cs,v = .agg ⟨cs⟩ /\ Rp.rep i cs a,λhl ⟨cs,e,h⟩=>⟨cs,e,Rp.mono hl h⟩⟩
inductive zI where
 | mk (Kind : Int) (Num : Int) (Index : zA) (Read : zK) (Kids : List zI)
def zI.Kind : zI -> Int|.mk x _ _ _ _=>x
def zI.Num : zI -> Int|.mk _ x _ _ _=>x
def zI.Index : zI -> zA|.mk _ _ x _ _=>x
def zI.Read : zI -> zK|.mk _ _ _ x _=>x
def zI.Kids : zI -> (List zI)|.mk _ _ _ _ x=>x
mutual
def zI.repE(i : Imm): zI -> List Value -> Prop
 | .mk Kind Num Index Read Kids,cs => ∃(v0 v1 v2 : Value) (aN : List Value),cs = [.int .i64 Kind,.int .i64 Num,v0,.int .i64 Index.Const,.string ⟨⟨Read.Array.l⟩⟩,v1,v2] /\ SL i v0 Index.Coefs /\ SL i v1 Read.Subs /\ SliceAt i v2 7 aN /\ zI.reps i Kids aN
def zI.reps(i : Imm): List zI -> List Value -> Prop
 | [],cs=>cs = []
 | e :: es,cs => ∃c1 c2,cs = c1++c2 /\ c1.length = 7 /\ zI.repE i e c1 /\ zI.reps i es c2
end
mutual
theorem zEi{i : Imm}: ∀{e : zI} {cs : List Value},zI.repE i e cs -> cs.length = 7
 | .mk ..,cs,h=>by simp only[zI.repE] at h;obtain⟨v0,v1,v2,aN,rfl,_⟩:=h;rfl
end
mutual
theorem zBA{i j : Imm}(hm : i.le j): ∀{e : zI} {cs : List Value},zI.repE i e cs -> zI.repE j e cs
 | .mk ..,cs,h=>by
  simp only[zI.repE] at h ⊢
  obtain⟨v0,v1,v2,aN,e,k0,k1,ha,hb⟩:=h
  exact⟨v0,v1,v2,aN,e,k0.mono hm,k1.mono hm,ha.mono hm,zBB hm hb⟩
theorem zBB{i j : Imm}(hm : i.le j): ∀{es : List zI} {cs : List Value},zI.reps i es cs -> zI.reps j es cs
 | [],cs,h=>by simpa [zI.reps] using h
 | e :: es,cs,h=>by
  simp only[zI.reps] at h ⊢
  obtain⟨c1,c2,h1,h2,h3,h4⟩:=h
  exact⟨c1,c2,h1,h2,zBA hm h3,zBB hm h4⟩
end
theorem fQ{i : Imm}: ∀{es : List zI} {cs : List Value},zI.reps i es cs↔RepL (λc e=>zI.repE i e c) 7 cs es
 | [],cs=>by simp[zI.reps,RepL]
 | e :: es,cs=>by
  simp only[zI.reps,RepL]
  constructor
  ·rintro⟨c1,c2,h1,h2,h3,h4⟩;exact⟨c1,c2,h1,h2,h3,fQ.1 h4⟩
  ·rintro⟨c1,c2,h1,h2,h3,h4⟩;exact⟨c1,c2,h1,h2,h3,fQ.2 h4⟩
theorem SliceAt.one{i : Imm}{v : Value}{sz : Nat}{cs : List Value}(hs : SliceAt i v sz cs): v.oneCell' = true:=by
 rcases hs with⟨rfl,_⟩|⟨b,off,len,cap,c,rfl,_⟩ <;> rfl
theorem zEj{i : Imm}: ∀{e : zI} {cs : List Value},zI.repE i e cs -> ∀v∈cs,v.oneCell' = true
 | .mk ..,cs,h=>by
  simp only[zI.repE] at h
  obtain⟨v0,v1,v2,aN,rfl,k0,k1,ha,_⟩:=h
  simp[zBe,zID,k0.one,k1.one,ha.one]
instance : Rp zI where
 sz:=7
 pos:=by decide
 rep i cs e:=zI.repE i e cs
 len h:=zEi h
 mono hm h:=zBA hm h
 one h:=zEj h
theorem zIY{i : Imm}{cs : List Value}{s : zI}(h : Rp.rep i cs s): ∃v0 v1 v2 : Value,cs = [.int .i64 s.Kind,.int .i64 s.Num,v0,.int .i64 s.Index.Const,.string ⟨⟨s.Read.Array.l⟩⟩,v1,v2] /\ SL i v0 s.Index.Coefs /\ SL i v1 s.Read.Subs /\ SL i v2 s.Kids:=by
 obtain⟨Kind,Num,Index,Read,Kids⟩:=s
 have h : zI.repE i _ cs:=h
 simp only[zI.repE] at h
 obtain⟨v0,v1,v2,aN,e,k0,k1,ha,hb⟩:=h
 exact⟨v0,v1,v2,e,k0,k1,⟨aN,ha,fQ.1 hb⟩⟩
theorem wF{i : Imm}{cs : List Value}{s : zI}(h : ∃v0 v1 v2 : Value,cs = [.int .i64 s.Kind,.int .i64 s.Num,v0,.int .i64 s.Index.Const,.string ⟨⟨s.Read.Array.l⟩⟩,v1,v2] /\ SL i v0 s.Index.Coefs /\ SL i v1 s.Read.Subs /\ SL i v2 s.Kids): Rp.rep i cs s:=by
 obtain⟨Kind,Num,Index,Read,Kids⟩:=s
 show zI.repE i _ cs
 simp only[zI.repE]
 obtain⟨v0,v1,v2,e,k0,k1,⟨aN,ha,hb⟩⟩:=h
 exact⟨v0,v1,v2,aN,e,k0,k1,ha,fQ.2 hb⟩
theorem xX{i : Imm}{cs : List Value}{s : zI}(h : Rp.rep i cs s): ∃(p0 : Option Addr) (c0 : Nat) (p1 : Option Addr) (c1 : Nat) (p2 : Option Addr) (c2 : Nat),cs = [.int .i64 s.Kind,.int .i64 s.Num,vS p0 s.Index.Coefs c0,.int .i64 s.Index.Const,.string ⟨⟨s.Read.Array.l⟩⟩,vS p1 s.Read.Subs c1,vS p2 s.Kids c2] /\ SL i (vS p0 s.Index.Coefs c0) s.Index.Coefs /\ SL i (vS p1 s.Read.Subs c1) s.Read.Subs /\ SL i (vS p2 s.Kids c2) s.Kids:=by
 obtain⟨v0,v1,v2,e,h0,h1,h2⟩:=zIY h
 obtain⟨p0,c0,rfl⟩:=h0.form
 obtain⟨p1,c1,rfl⟩:=h1.form
 obtain⟨p2,c2,rfl⟩:=h2.form
 exact⟨p0,c0,p1,c1,p2,c2,e,h0,h1,h2⟩
instance : Vr zI:=⟨λi v a => ∃cs,v = .agg ⟨cs⟩ /\ Rp.rep i cs a,λhl ⟨cs,e,h⟩=>⟨cs,e,Rp.mono hl h⟩⟩
structure zP where
 Write : zK
 Value : zI
instance : Rp zP where
 sz:=9
 pos:=by decide
 rep i cs s := ∃v0 v1 v2 v3 : Value,cs = [.string ⟨⟨s.Write.Array.l⟩⟩,v0,.int .i64 s.Value.Kind,.int .i64 s.Value.Num,v1,.int .i64 s.Value.Index.Const,.string ⟨⟨s.Value.Read.Array.l⟩⟩,v2,v3] /\ SL i v0 s.Write.Subs /\ SL i v1 s.Value.Index.Coefs /\ SL i v2 s.Value.Read.Subs /\ SL i v3 s.Value.Kids
 len h:=by obtain⟨v0,v1,v2,v3,rfl,h0,h1,h2,h3⟩:=h;rfl
 mono hm h:=by obtain⟨v0,v1,v2,v3,e,h0,h1,h2,h3⟩:=h;exact⟨v0,v1,v2,v3,e,h0.mono hm,h1.mono hm,h2.mono hm,h3.mono hm⟩
 one h:=by obtain⟨v0,v1,v2,v3,rfl,h0,h1,h2,h3⟩:=h;simp[zID,zBe,h0.one,h1.one,h2.one,h3.one]
theorem mN{i : Imm}{cs : List Value}{s : zP}(h : Rp.rep i cs s): ∃v0 v1 v2 v3 : Value,cs = [.string ⟨⟨s.Write.Array.l⟩⟩,v0,.int .i64 s.Value.Kind,.int .i64 s.Value.Num,v1,.int .i64 s.Value.Index.Const,.string ⟨⟨s.Value.Read.Array.l⟩⟩,v2,v3] /\ SL i v0 s.Write.Subs /\ SL i v1 s.Value.Index.Coefs /\ SL i v2 s.Value.Read.Subs /\ SL i v3 s.Value.Kids:=h
theorem vL{i : Imm}{cs : List Value}{s : zP}(h : ∃v0 v1 v2 v3 : Value,cs = [.string ⟨⟨s.Write.Array.l⟩⟩,v0,.int .i64 s.Value.Kind,.int .i64 s.Value.Num,v1,.int .i64 s.Value.Index.Const,.string ⟨⟨s.Value.Read.Array.l⟩⟩,v2,v3] /\ SL i v0 s.Write.Subs /\ SL i v1 s.Value.Index.Coefs /\ SL i v2 s.Value.Read.Subs /\ SL i v3 s.Value.Kids): Rp.rep i cs s:=h
theorem sA{i : Imm}{cs : List Value}{s : zP}(h : Rp.rep i cs s): ∃(p0 : Option Addr) (c0 : Nat) (p1 : Option Addr) (c1 : Nat) (p2 : Option Addr) (c2 : Nat) (p3 : Option Addr) (c3 : Nat),cs = [.string ⟨⟨s.Write.Array.l⟩⟩,vS p0 s.Write.Subs c0,.int .i64 s.Value.Kind,.int .i64 s.Value.Num,vS p1 s.Value.Index.Coefs c1,.int .i64 s.Value.Index.Const,.string ⟨⟨s.Value.Read.Array.l⟩⟩,vS p2 s.Value.Read.Subs c2,vS p3 s.Value.Kids c3] /\ SL i (vS p0 s.Write.Subs c0) s.Write.Subs /\ SL i (vS p1 s.Value.Index.Coefs c1) s.Value.Index.Coefs /\ SL i (vS p2 s.Value.Read.Subs c2) s.Value.Read.Subs /\ SL i (vS p3 s.Value.Kids c3) s.Value.Kids:=by
 obtain⟨v0,v1,v2,v3,e,h0,h1,h2,h3⟩:=mN h
 obtain⟨p0,c0,rfl⟩:=h0.form
 obtain⟨p1,c1,rfl⟩:=h1.form
 obtain⟨p2,c2,rfl⟩:=h2.form
 obtain⟨p3,c3,rfl⟩:=h3.form
 exact⟨p0,c0,p1,c1,p2,c2,p3,c3,e,h0,h1,h2,h3⟩
instance : Vr zP:=⟨λi v a => ∃cs,v = .agg ⟨cs⟩ /\ Rp.rep i cs a,λhl ⟨cs,e,h⟩=>⟨cs,e,Rp.mono hl h⟩⟩
structure zQ where
 Nest : List zE
 Body : List zP
instance : Rp zQ where
 sz:=2
 pos:=by decide
 rep i cs s := ∃v0 v1 : Value,cs = [v0,v1] /\ SL i v0 s.Nest /\ SL i v1 s.Body
 len h:=by obtain⟨v0,v1,rfl,h0,h1⟩:=h;rfl
 mono hm h:=by obtain⟨v0,v1,e,h0,h1⟩:=h;exact⟨v0,v1,e,h0.mono hm,h1.mono hm⟩
 one h:=by obtain⟨v0,v1,rfl,h0,h1⟩:=h;simp[h0.one,h1.one]
theorem zIZ{i : Imm}{cs : List Value}{s : zQ}(h : Rp.rep i cs s): ∃v0 v1 : Value,cs = [v0,v1] /\ SL i v0 s.Nest /\ SL i v1 s.Body:=h
theorem qS{i : Imm}{cs : List Value}{s : zQ}(h : ∃v0 v1 : Value,cs = [v0,v1] /\ SL i v0 s.Nest /\ SL i v1 s.Body): Rp.rep i cs s:=h
theorem vU{i : Imm}{cs : List Value}{s : zQ}(h : Rp.rep i cs s): ∃(p0 : Option Addr) (c0 : Nat) (p1 : Option Addr) (c1 : Nat),cs = [vS p0 s.Nest c0,vS p1 s.Body c1] /\ SL i (vS p0 s.Nest c0) s.Nest /\ SL i (vS p1 s.Body c1) s.Body:=by
 obtain⟨v0,v1,e,h0,h1⟩:=zIZ h
 obtain⟨p0,c0,rfl⟩:=h0.form
 obtain⟨p1,c1,rfl⟩:=h1.form
 exact⟨p0,c0,p1,c1,e,h0,h1⟩
instance : Vr zQ:=⟨λi v a => ∃cs,v = .agg ⟨cs⟩ /\ Rp.rep i cs a,λhl ⟨cs,e,h⟩=>⟨cs,e,Rp.mono hl h⟩⟩
structure zC where
 Arrays : List zF
 Parts : List zQ
instance : Rp zC where
 sz:=2
 pos:=by decide
 rep i cs s := ∃v0 v1 : Value,cs = [v0,v1] /\ SL i v0 s.Arrays /\ SL i v1 s.Parts
 len h:=by obtain⟨v0,v1,rfl,h0,h1⟩:=h;rfl
 mono hm h:=by obtain⟨v0,v1,e,h0,h1⟩:=h;exact⟨v0,v1,e,h0.mono hm,h1.mono hm⟩
 one h:=by obtain⟨v0,v1,rfl,h0,h1⟩:=h;simp[h0.one,h1.one]
theorem zF5{i : Imm}{cs : List Value}{s : zC}(h : Rp.rep i cs s): ∃v0 v1 : Value,cs = [v0,v1] /\ SL i v0 s.Arrays /\ SL i v1 s.Parts:=h
theorem wN{i : Imm}{cs : List Value}{s : zC}(h : ∃v0 v1 : Value,cs = [v0,v1] /\ SL i v0 s.Arrays /\ SL i v1 s.Parts): Rp.rep i cs s:=h
theorem sF{i : Imm}{cs : List Value}{s : zC}(h : Rp.rep i cs s): ∃(p0 : Option Addr) (c0 : Nat) (p1 : Option Addr) (c1 : Nat),cs = [vS p0 s.Arrays c0,vS p1 s.Parts c1] /\ SL i (vS p0 s.Arrays c0) s.Arrays /\ SL i (vS p1 s.Parts c1) s.Parts:=by
 obtain⟨v0,v1,e,h0,h1⟩:=zF5 h
 obtain⟨p0,c0,rfl⟩:=h0.form
 obtain⟨p1,c1,rfl⟩:=h1.form
 exact⟨p0,c0,p1,c1,e,h0,h1⟩
instance : Vr zC:=⟨λi v a => ∃cs,v = .agg ⟨cs⟩ /\ Rp.rep i cs a,λhl ⟨cs,e,h⟩=>⟨cs,e,Rp.mono hl h⟩⟩
structure zN where
 Part : Int
 Stmt : Int
 Point : List Int
instance : Rp zN where
 sz:=3
 pos:=by decide
 rep i cs s := ∃v0 : Value,cs = [.int .i64 s.Part,.int .i64 s.Stmt,v0] /\ SL i v0 s.Point
 len h:=by obtain⟨v0,rfl,h0⟩:=h;rfl
 mono hm h:=by obtain⟨v0,e,h0⟩:=h;exact⟨v0,e,h0.mono hm⟩
 one h:=by obtain⟨v0,rfl,h0⟩:=h;simp[zBe,h0.one]
theorem zEk{i : Imm}{cs : List Value}{s : zN}(h : Rp.rep i cs s): ∃v0 : Value,cs = [.int .i64 s.Part,.int .i64 s.Stmt,v0] /\ SL i v0 s.Point:=h
theorem zBQ{i : Imm}{cs : List Value}{s : zN}(h : ∃v0 : Value,cs = [.int .i64 s.Part,.int .i64 s.Stmt,v0] /\ SL i v0 s.Point): Rp.rep i cs s:=h
theorem pR{i : Imm}{cs : List Value}{s : zN}(h : Rp.rep i cs s): ∃(p0 : Option Addr) (c0 : Nat),cs = [.int .i64 s.Part,.int .i64 s.Stmt,vS p0 s.Point c0] /\ SL i (vS p0 s.Point c0) s.Point:=by
 obtain⟨v0,e,h0⟩:=zEk h
 obtain⟨p0,c0,rfl⟩:=h0.form
 exact⟨p0,c0,e,h0⟩
instance : Vr zN:=⟨λi v a => ∃cs,v = .agg ⟨cs⟩ /\ Rp.rep i cs a,λhl ⟨cs,e,h⟩=>⟨cs,e,Rp.mono hl h⟩⟩
structure sN where
 Program : zC
 list : List zN
 reads : List (List Int)
 writes : List Int
instance : Rp sN where
 sz:=5
 pos:=by decide
 rep i cs s := ∃v0 v1 v2 v3 v4 : Value,cs = [v0,v1,v2,v3,v4] /\ SL i v0 s.Program.Arrays /\ SL i v1 s.Program.Parts /\ SL i v2 s.list /\ SL i v3 s.reads /\ SL i v4 s.writes
 len h:=by obtain⟨v0,v1,v2,v3,v4,rfl,h0,h1,h2,h3,h4⟩:=h;rfl
 mono hm h:=by obtain⟨v0,v1,v2,v3,v4,e,h0,h1,h2,h3,h4⟩:=h;exact⟨v0,v1,v2,v3,v4,e,h0.mono hm,h1.mono hm,h2.mono hm,h3.mono hm,h4.mono hm⟩
 one h:=by obtain⟨v0,v1,v2,v3,v4,rfl,h0,h1,h2,h3,h4⟩:=h;simp[h0.one,h1.one,h2.one,h3.one,h4.one]
theorem zGi{i : Imm}{cs : List Value}{s : sN}(h : Rp.rep i cs s): ∃v0 v1 v2 v3 v4 : Value,cs = [v0,v1,v2,v3,v4] /\ SL i v0 s.Program.Arrays /\ SL i v1 s.Program.Parts /\ SL i v2 s.list /\ SL i v3 s.reads /\ SL i v4 s.writes:=h
theorem zGj{i : Imm}{cs : List Value}{s : sN}(h : ∃v0 v1 v2 v3 v4 : Value,cs = [v0,v1,v2,v3,v4] /\ SL i v0 s.Program.Arrays /\ SL i v1 s.Program.Parts /\ SL i v2 s.list /\ SL i v3 s.reads /\ SL i v4 s.writes): Rp.rep i cs s:=h
theorem zDZ{i : Imm}{cs : List Value}{s : sN}(h : Rp.rep i cs s): ∃(p0 : Option Addr) (c0 : Nat) (p1 : Option Addr) (c1 : Nat) (p2 : Option Addr) (c2 : Nat) (p3 : Option Addr) (c3 : Nat) (p4 : Option Addr) (c4 : Nat),cs = [vS p0 s.Program.Arrays c0,vS p1 s.Program.Parts c1,vS p2 s.list c2,vS p3 s.reads c3,vS p4 s.writes c4] /\ SL i (vS p0 s.Program.Arrays c0) s.Program.Arrays /\ SL i (vS p1 s.Program.Parts c1) s.Program.Parts /\ SL i (vS p2 s.list c2) s.list /\ SL i (vS p3 s.reads c3) s.reads /\ SL i (vS p4 s.writes c4) s.writes:=by
 obtain⟨v0,v1,v2,v3,v4,e,h0,h1,h2,h3,h4⟩:=zGi h
 obtain⟨p0,c0,rfl⟩:=h0.form
 obtain⟨p1,c1,rfl⟩:=h1.form
 obtain⟨p2,c2,rfl⟩:=h2.form
 obtain⟨p3,c3,rfl⟩:=h3.form
 obtain⟨p4,c4,rfl⟩:=h4.form
 exact⟨p0,c0,p1,c1,p2,c2,p3,c3,p4,c4,e,h0,h1,h2,h3,h4⟩
instance : Vr sN:=⟨λi v a => ∃cs,v = .agg ⟨cs⟩ /\ Rp.rep i cs a,λhl ⟨cs,e,h⟩=>⟨cs,e,Rp.mono hl h⟩⟩
structure zR where
 From : Int
 To : Int
 Kinds : Int
instance : Rp zR where
 sz:=3
 pos:=by decide
 rep i cs s:=cs = [.int .i64 s.From,.int .i64 s.To,.int .i64 s.Kinds]
 len h:=by obtain rfl:=h;rfl
 mono _ h:=h
 one h:=by obtain rfl:=h;simp[zBe]
theorem rJ{i : Imm}{cs : List Value}{s : zR}(h : Rp.rep i cs s): cs = [.int .i64 s.From,.int .i64 s.To,.int .i64 s.Kinds]:=h
theorem gF{i : Imm}{cs : List Value}{s : zR}(h : cs = [.int .i64 s.From,.int .i64 s.To,.int .i64 s.Kinds]): Rp.rep i cs s:=h
instance : Vr zR:=⟨λi v a => ∃cs,v = .agg ⟨cs⟩ /\ Rp.rep i cs a,λhl ⟨cs,e,h⟩=>⟨cs,e,Rp.mono hl h⟩⟩
structure zO where
 b : List UInt8
 p : Int
instance : Rp zO where
 sz:=2
 pos:=by decide
 rep i cs s := ∃v0 : Value,cs = [v0,.int .i64 s.p] /\ SL i v0 s.b
 len h:=by obtain⟨v0,rfl,h0⟩:=h;rfl
 mono hm h:=by obtain⟨v0,e,h0⟩:=h;exact⟨v0,e,h0.mono hm⟩
 one h:=by obtain⟨v0,rfl,h0⟩:=h;simp[zBe,h0.one]
theorem zAT{i : Imm}{cs : List Value}{s : zO}(h : Rp.rep i cs s): ∃v0 : Value,cs = [v0,.int .i64 s.p] /\ SL i v0 s.b:=h
theorem yY{i : Imm}{cs : List Value}{s : zO}(h : ∃v0 : Value,cs = [v0,.int .i64 s.p] /\ SL i v0 s.b): Rp.rep i cs s:=h
theorem yD{i : Imm}{cs : List Value}{s : zO}(h : Rp.rep i cs s): ∃(p0 : Option Addr) (c0 : Nat),cs = [vS p0 s.b c0,.int .i64 s.p] /\ SL i (vS p0 s.b c0) s.b:=by
 obtain⟨v0,e,h0⟩:=zAT h
 obtain⟨p0,c0,rfl⟩:=h0.form
 exact⟨p0,c0,e,h0⟩
instance : Vr zO:=⟨λi v a => ∃cs,v = .agg ⟨cs⟩ /\ Rp.rep i cs a,λhl ⟨cs,e,h⟩=>⟨cs,e,Rp.mono hl h⟩⟩
structure sY where
 nest : List zE
 steps : Int
 out : List (List Int)
instance : Rp sY where
 sz:=3
 pos:=by decide
 rep i cs s := ∃v0 v1 : Value,cs = [v0,.int .i64 s.steps,v1] /\ SL i v0 s.nest /\ SL i v1 s.out
 len h:=by obtain⟨v0,v1,rfl,h0,h1⟩:=h;rfl
 mono hm h:=by obtain⟨v0,v1,e,h0,h1⟩:=h;exact⟨v0,v1,e,h0.mono hm,h1.mono hm⟩
 one h:=by obtain⟨v0,v1,rfl,h0,h1⟩:=h;simp[zBe,h0.one,h1.one]
instance : Vr sY:=⟨λi v a => ∃cs,v = .agg ⟨cs⟩ /\ Rp.rep i cs a,λhl ⟨cs,e,h⟩=>⟨cs,e,Rp.mono hl h⟩⟩
structure xT where
 reads : List Int
 write : Int
instance : Rp xT where
 sz:=2
 pos:=by decide
 rep i cs s := ∃v0 : Value,cs = [v0,.int .i64 s.write] /\ SL i v0 s.reads
 len h:=by obtain⟨v0,rfl,h0⟩:=h;rfl
 mono hm h:=by obtain⟨v0,e,h0⟩:=h;exact⟨v0,e,h0.mono hm⟩
 one h:=by obtain⟨v0,rfl,h0⟩:=h;simp[zBe,h0.one]
theorem zH7{i : Imm}{cs : List Value}{s : xT}(h : Rp.rep i cs s): ∃v0 : Value,cs = [v0,.int .i64 s.write] /\ SL i v0 s.reads:=h
theorem zH8{i : Imm}{cs : List Value}{s : xT}(h : ∃v0 : Value,cs = [v0,.int .i64 s.write] /\ SL i v0 s.reads): Rp.rep i cs s:=h
theorem zE9{i : Imm}{cs : List Value}{s : xT}(h : Rp.rep i cs s): ∃(p0 : Option Addr) (c0 : Nat),cs = [vS p0 s.reads c0,.int .i64 s.write] /\ SL i (vS p0 s.reads c0) s.reads:=by
 obtain⟨v0,e,h0⟩:=zH7 h
 obtain⟨p0,c0,rfl⟩:=h0.form
 exact⟨p0,c0,e,h0⟩
instance : Vr xT:=⟨λi v a => ∃cs,v = .agg ⟨cs⟩ /\ Rp.rep i cs a,λhl ⟨cs,e,h⟩=>⟨cs,e,Rp.mono hl h⟩⟩
end Go.LN
namespace Go.LN
theorem iM{α:Type}[Rp α]{i j:Imm}(h:i.le j){l:List α}{cs:List Value}(hr:RL i cs l):RL j cs l:=RepL.mono (λ_ _=>Rp.mono h) hr
def stB:List HA->Nat->List Value->(List HA->Option (List HA))->Option (List HA)
 | .blk b _::t,0,c',k=>k (.blk b ⟨c'⟩::t)
 | h::t,j+1,c',k=>stB t j c' λr=>k (h::r)
 | _,_,_,_=>none
theorem zMd:∀{hs:List HA}{j:Nat}{b:Nat}{c:Array Value}{c':List Value}{k:List HA->Option (List HA)},hs[j]?=some (.blk b c)->stB hs j c' k=k (hs.set j (.blk b ⟨c'⟩))
 | [],_,_,_,_,_,h=>by simp at h
 | A::t,0,b,c,c',k,h=>by
  simp only[d6,Option.some.injEq] at h
  subst h;rfl
 | A::t,j+1,b,c,c',k,h=>by
  simp only[fy] at h
  rw[stB,zMd h,fe]
class Mo (X:Prop) (i j:Imm) (Y:outParam Prop):Prop where
 mo:i.le j->X->Y
instance {α:Type} [Rp α] {v:Value}{l:List α}{i j:Imm}:Mo (SL i v l) i j (SL j v l):=⟨λh x=>x.mono h⟩
instance {α:Type} [Rp α] {cs:List Value}{l:List α}{i j:Imm}:Mo (RL i cs l) i j (RL j cs l):=⟨λh x=>iM h x⟩
instance {ad:Addr}{cs:List Value}{i j:Imm}:Mo (At i ad cs) i j (At j ad cs):=⟨λh x=>At.mono h x⟩
instance {α:Type} [Rp α] {v:Value}{o:Option α}{i j:Imm}:Mo (FP i v o) i j (FP j v o):=⟨λh x=>FP.mono x h⟩
instance {α β:Type} [Vr α] [Vr β] {P:Program}{aK:List HA}{v:Value}{φ:α->Option β}{i j:Imm}:Mo (FV1 P i aK v φ) i j (FV1 P j aK v φ):=⟨λh x=>FV1.mono h x⟩
instance {α β γ:Type} [Vr α] [Vr β] [Vr γ] {P:Program}{aK:List HA}{v:Value}{φ:α->β->Option γ}{i j:Imm}:Mo (FV2 P i aK v φ) i j (FV2 P j aK v φ):=⟨λh x=>FV2.mono h x⟩
instance {P:Program}{i j:Imm}:Mo (GH P i) i j (GH P j):=⟨λh x=>GH.mono h x⟩
instance {i0 i j:Imm}:Mo (i0.le i) i j (i0.le j):=⟨λh x=>x.trans h⟩
theorem m2{i j:Imm}{A B A' B':Prop}(h:i.le j)(a:A)(b:B)[Mo A i j A'][Mo B i j B']:A'/\B':=⟨Mo.mo h a,Mo.mo h b⟩
theorem m3{i j:Imm}{A B C A' B' C':Prop}(h:i.le j)(a:A)(b:B)(c:C)[Mo A i j A'][Mo B i j B'][Mo C i j C']:A'/\B'/\C':=⟨Mo.mo h a,Mo.mo h b,Mo.mo h c⟩
theorem m4{i j:Imm}{A B C D A' B' C' D':Prop}(h:i.le j)(a:A)(b:B)(c:C)(d:D)[Mo A i j A'][Mo B i j B'][Mo C i j C'][Mo D i j D']:A'/\B'/\C'/\D':=⟨Mo.mo h a,Mo.mo h b,Mo.mo h c,Mo.mo h d⟩
theorem m5{i j:Imm}{A B C D E A' B' C' D' E':Prop}(h:i.le j)(a:A)(b:B)(c:C)(d:D)(e:E)[Mo A i j A'][Mo B i j B'][Mo C i j C'][Mo D i j D'][Mo E i j E']:A'/\B'/\C'/\D'/\E':=⟨Mo.mo h a,Mo.mo h b,Mo.mo h c,Mo.mo h d,Mo.mo h e⟩
theorem m6{i j:Imm}{A B C D E F A' B' C' D' E' F':Prop}(h:i.le j)(a:A)(b:B)(c:C)(d:D)(e:E)(f:F)[Mo A i j A'][Mo B i j B'][Mo C i j C'][Mo D i j D'][Mo E i j E'][Mo F i j F']:A'/\B'/\C'/\D'/\E'/\F':=⟨Mo.mo h a,Mo.mo h b,Mo.mo h c,Mo.mo h d,Mo.mo h e,Mo.mo h f⟩
abbrev K1{α:Type}(o:α)(I:Imm)(hs:List HA)(m:α->FM):Imm->List HA->FM->Prop:=λI' ag m'=>∃t:α,o=t/\I.le I'/\ag=hs/\m'=m t
section
variable {P:Program}{n:Nat}{B:Base}{af:List Oper}{Q:Exit->Act->World->Prop}{pc:Nat}{imm:Imm}{hs:List HA}{m:FM}{d:Nat}
 {ty:TypeId}{pos:String}{after:Array Edge}{g:Option (Nat×Bool)}
theorem xF{f:FuncId}{x:Operand}{xs:Array Operand}{ts:Array TypeId}{vs:List Value}{post:Nat->Imm->List HA->Value->Prop}
 (hc:Ret P f vs imm [] post)
 (next:∀am ag v k,imm.le am->B.w0.heap.size<=k->post k am ag v->(∀b∈ag.flatMap HA.fp,b∈([]:List HA).flatMap HA.fp∨B.w0.heap.size<=b)->R P n B af Q (pc+1) am (ag++hs) ((d,v)::m))
 (ho:af[pc]?=some ⟨some d,.call { callee:=.value x,args:=xs,argTypes:=ts },ty,pos,after,g⟩:=by rfl) (hg:guardB af m g=some true:=by rfl) (hn:Nat.blt d n=true:=by rfl) (hx:val m x=some (.func (.func f) #[] #[]):=by rfl) (hf:callable P f=true:=by kernel_rfl)
 (hvs:vals m xs.toList=some vs:=by rfl):R P n B af Q pc imm hs m:=
 zEg (hs1:=[]) (rest:=hs) ho hg hn hx hf hvs rfl hc next
theorem zRC{f:FuncId}{x:Operand}{xs:Array Operand}{ts:Array TypeId}{vs:List Value}(hs1 rest:List HA){post:Nat->Imm->List HA->Value->Prop}
 (hc:Ret P f vs imm hs1 post)
 (next:∀am ag v k,imm.le am->B.w0.heap.size<=k->post k am ag v->(∀b∈ag.flatMap HA.fp,b∈hs1.flatMap HA.fp∨B.w0.heap.size<=b)->R P n B af Q (pc+1) am (ag++rest) ((d,v)::m))
 (ho:af[pc]?=some ⟨some d,.call { callee:=.value x,args:=xs,argTypes:=ts },ty,pos,after,g⟩:=by rfl) (hg:guardB af m g=some true:=by rfl) (hn:Nat.blt d n=true:=by rfl) (hx:val m x=some (.func (.func f) #[] #[]):=by rfl) (hf:callable P f=true:=by kernel_rfl)
 (hvs:vals m xs.toList=some vs:=by rfl) (hh:hs=hs1++rest:=by rfl):R P n B af Q pc imm hs m:=
 zEg (hs1:=hs1) (rest:=rest) ho hg hn hx hf hvs hh hc next
theorem zDF(m':FM)(h:R P n B af Q pc imm hs m')(hk:keep m (m'.map (·.1))=some m':=by kernel_rfl):R P n B af Q pc imm hs m:=zAl (zCE hk) h
theorem uP(cs:List Value)(α:Type)[Rp α]{t len:Nat}{parts:Array (Nat×Operand)}{ps:List (Nat×Value)}
 (next:∀b,B.w0.heap.size<=b->R P n B af Q (pc+1) imm (.osl (.slice (some ⟨b,0,none⟩) len len) (Rp.sz α) cs::hs) ((d,.slice (some ⟨b,0,none⟩) len len)::m))
 (ho:af[pc]?=some ⟨some d,.buildSlice t len parts,ty,pos,after,g⟩:=by rfl) (hg:guardB af m g=some true:=by rfl) (hn:Nat.blt d n=true:=by rfl) (hps:pvals m parts.toList=some ps:=by rfl) (hc:elemZ P t len ps=some ⟨cs⟩:=by kernel_rfl) (hl:Nat.beq cs.length (len*Rp.sz α)=true:=by kernel_rfl)
 (hlM:Nat.ble len 9223372036854775807=true:=by rfl):R P n B af Q pc imm hs m:=
 zKU (cs:=cs) (Rp.sz α) ho hg hn hps hc hl next hlM
theorem wI(c:List Value){t:TypeId}
 (next:∀b,B.w0.heap.size<=b->R P n B af Q (pc+1) imm (.blk b ⟨c⟩::hs) ((d,.pointer (some ⟨b,0,none⟩))::m))
 (ho:af[pc]?=some ⟨some d,.alloc t,ty,pos,after,g⟩:=by rfl) (hg:guardB af m g=some true:=by rfl) (hn:Nat.blt d n=true:=by rfl) (hz:zeroC P t=some ⟨c⟩:=by kernel_rfl):R P n B af Q pc imm hs m:=
 zPM (c:=⟨c⟩) ho hg hn hz next
theorem vK(c:List Value){t:TypeId}{x:Operand}{v:Value}
 (next:∀b,B.w0.heap.size<=b->R P n B af Q (pc+1) imm (.blk b ⟨c⟩::hs) ((d,.pointer (some ⟨b,0,none⟩))::m))
 (ho:af[pc]?=some ⟨some d,.box t x,ty,pos,after,g⟩:=by rfl) (hg:guardB af m g=some true:=by rfl) (hn:Nat.blt d n=true:=by rfl) (hx:val m x=some v:=by rfl) (hc:v.cells=⟨c⟩:=by rfl):R P n B af Q pc imm hs m:=
 zQi (c:=⟨c⟩) ho hg hn hx hc next
theorem eN{its:List It}{gs:List (List HA)}{N:Nat}{l:List (Nat×Bool)}{ops':List Oper}{pc:Nat}(m2:FM)(h:R P n B ops' Q pc imm hs m2)
 (hi:(insM af its l m).bind (λm1=>keep m1 (m2.map (·.1)))=some m2:=by kernel_rfl):Ins af (factsOf N its gs) imm l m hs λm' ag=>R P n B ops' Q pc imm ag m':=by
 obtain⟨m1,h1,h2⟩:=Option.bind_eq_some_iff.1 hi
 refine zF4 (λj it hj=>?_) h1 (zAl (zCE h2) h)
 have ax:=(cj.1 hj).1
 unfold factsOf
 rw[cG,ft (by rw[dm];exact ax),dt,hj]
 rfl
theorem yR{ops':List Oper}{pc d0:Nat}{φi:Fact}{imm1:Imm}{v:Value}(bK:imm1.le imm)(h0:ops'.drop pc=[]:=by rfl)(hd:look m d0=some v:=by rfl)(hφ:φi imm v []:=by exact⟨rfl,rfl⟩):R P n B ops' (OutQ n B φi (some d0) imm1 hs) pc imm hs m:=
 zIR (hx:=[]) h0 bK rfl (λ_ e=>by cases e;exact hd) hφ
theorem yL{f:FuncId}{fn:Func}{args:List Value}{post:Nat->Imm->List HA->Value->Prop}(hf:P.funcs[f]?=some fn)(h:∀B:Base,J P fn.ntmps B (bodyOf fn) (QB P fn B post) imm hs (argm 0 args))
 (hb:fn.body=some (bodyOf fn):=by rfl) (hn:Nat.ble args.length fn.ntmps=true:=by rfl):Ret P f args imm hs post:=zNu hf hb hn λB _ _=>h B
theorem yM(hx:List HA){ops':List Oper}{pc d0:Nat}{φi:Fact}{imm1:Imm}{hs0:List HA}{v:Value}(bK:imm1.le imm)(hφ:φi imm v hx)(h0:ops'.drop pc=[]:=by rfl)(hh:hs=hx++hs0:=by rfl)(hd:look m d0=some v:=by rfl):R P n B ops' (OutQ n B φi (some d0) imm1 hs0) pc imm hs m:=
 zIR (hx:=hx) h0 bK hh (λ_ e=>by cases e;exact hd) hφ
theorem yF{id:Nat}{af:List Oper}{y:Code}(h:R P n B af (Exit.then (y.wp P Q) Q) 0 imm hs m):J P n B ((Code.region id af.toArray false).seq y) Q imm hs m:=yB (zJ h)
theorem zZ{x y:Code}(h:J P n B x (Exit.then (y.wp P Q) Q) imm hs m):T n B (Exit.then ((x.seq y).wp P Q) Q) .normal imm hs m:=zG (yB h)
theorem yW{id:Nat}{af:List Oper}{y:Code}(h:R P n B af (Exit.then (y.wp P Q) Q) 0 imm hs m):T n B (Exit.then (((Code.region id af.toArray false).seq y).wp P Q) Q) .normal imm hs m:=zG (yF h)
theorem wL{id:Nat}{af:List Oper}{y:Code}(new:FM)(hR:T n B (Exit.then (y.wp P Q) Q) .normal imm hs (new++m))(h:runD P n af hs 0 af.length [] (new.map (·.1)) m=some (new,[].map (blkAt hs)):=by kernel_rfl):J P n B ((Code.region id af.toArray false).seq y) Q imm hs m:=yF (wB [] new hR h)
theorem zEP{id:Nat}{af:List Oper}{y:Code}(new:FM)(hR:T n B (Exit.then (y.wp P Q) Q) .normal imm hs (new++m))(h:runD P n af hs 0 af.length [] (new.map (·.1)) m=some (new,[].map (blkAt hs)):=by kernel_rfl):T n B (Exit.then (((Code.region id af.toArray false).seq y).wp P Q) Q) .normal imm hs m:=zG (wL new hR h)
theorem wC{fn:Func}{post:Nat->Imm->List HA->Value->Prop}{v:Value}(h1:ResV P m hs fn.results.toList [v]:=by exact .tmp rfl ResV.nil)(h2:post B.w0.heap.size imm [] (tupV [v]):=by exact⟨_,rfl,rfl,rfl⟩):T n B (QB P fn B post) .ret imm hs m:=fO ⟨_,_,h1,zM,h2⟩
theorem eO{f:FuncId}{x:Operand}{xs:Array Operand}{ts:Array TypeId}{vs:List Value}{r:Int}
 (hc:Ret P f vs imm [] λ_ _ ag v=>∃v0,ag=[]/\v=tupV [v0]/\v0=.int .i64 r)
 (next:∀am,imm.le am->R P n B af Q (pc+1) am hs ((d,vI r)::m))
 (ho:af[pc]?=some ⟨some d,.call { callee:=.value x,args:=xs,argTypes:=ts },ty,pos,after,g⟩:=by rfl) (hg:guardB af m g=some true:=by rfl) (hn:Nat.blt d n=true:=by rfl) (hx:val m x=some (.func (.func f) #[] #[]):=by rfl) (hf:callable P f=true:=by kernel_rfl)
 (hvs:vals m xs.toList=some vs:=by rfl):R P n B af Q pc imm hs m:=
 xF hc (λam ag v k h1 _ h3 _=>by obtain⟨v0,rfl,rfl,rfl⟩:=h3;exact next am h1) ho hg hn hx hf hvs
theorem vJ{f:FuncId}{x:Operand}{xs:Array Operand}{ts:Array TypeId}{vs:List Value}{r:Bool}
 (hc:Ret P f vs imm [] λ_ _ ag v=>∃v0,ag=[]/\v=tupV [v0]/\v0=.bool r)
 (next:∀am,imm.le am->R P n B af Q (pc+1) am hs ((d,.bool r)::m))
 (ho:af[pc]?=some ⟨some d,.call { callee:=.value x,args:=xs,argTypes:=ts },ty,pos,after,g⟩:=by rfl) (hg:guardB af m g=some true:=by rfl) (hn:Nat.blt d n=true:=by rfl) (hx:val m x=some (.func (.func f) #[] #[]):=by rfl) (hf:callable P f=true:=by kernel_rfl)
 (hvs:vals m xs.toList=some vs:=by rfl):R P n B af Q pc imm hs m:=
 xF hc (λam ag v k h1 _ h3 _=>by obtain⟨v0,rfl,rfl,rfl⟩:=h3;exact next am h1) ho hg hn hx hf hvs
theorem wM{id:Nat}{K1 K2:Act->World->Prop}(h:T n B Q (.exit id) imm hs m):J P n B (.exit id) (Exit.then K1 (Exit.then K2 Q)) imm hs m:=zIN (eZ (eZ h))
theorem xD(h:T n B Q .ret imm hs m):T n B (Exit.then ((Code.ret).wp P Q) Q) .normal imm hs m:=zG (yX h)
theorem xY{id:Nat}{c:Code}(h:J P n B c (Exit.inBlock id Q) imm hs m):T n B (Exit.then ((Code.block id c).wp P Q) Q) .normal imm hs m:=zG (yI h)
theorem zY(is:List Nat){ag:List HA}(h:pick hs is=some ag:=by rfl)(hn:is.Nodup:=by decide):∀w,Good B imm hs w->Good B imm ag w:=zX is h hn
theorem xI{t:TypeId}{x y:Operand}{b o:Nat}{c:Array Value}{v:Value}{ag:List HA}(j:Nat)(c':List Value)(hq:stB hs j c' some=some ag)(next:R P n B af Q (pc+1) imm ag m)(ho:af[pc]?=some ⟨none,.store t x y,ty,pos,after,g⟩:=by rfl)(hj:hs[j]?=some (.blk b c):=by rfl)(hx:val m x=some (.pointer (some ⟨b,o,none⟩)):=by rfl)(hy:val m y=some v:=by rfl)(hg:guardB af m g=some true:=by kernel_rfl)(bN:sizeT P t=some v.cells.size:=by kernel_rfl)(bR:Nat.ble (o+v.cells.size) c.size=true:=by kernel_rfl)(bX:v.cells.toList.all Value.oneCell'=true:=by kernel_rfl)(hc:wr c o v.cells.toList=⟨c'⟩:=by kernel_rfl):R P n B af Q pc imm hs m:=
 zBu j c' ag ho hj hx hy next hg bN bR bX hc (by rw[zMd hj] at hq;exact Option.some.inj hq)
end
theorem bE{α β:Type}{o:Option α}{f:α->Option β}{r:β}{G:Prop}(h:(o >>= f)=some r)(k:∀x,o=some x->f x=some r->G):G:=by
 obtain⟨x,h1,h2⟩:=zB h;exact k x h1 h2
theorem ct{α:Type}{o t:α}{P1:Prop}{P2 P3:α->Prop}(hM:(pure t:Option α)=some o)(H:P1)(h2:P2 t:=by rfl)(h3:P3 t:=by rfl):∃t',o=t'/\P1/\P2 t'/\P3 t':=⟨t,(zD hM).symm,H,h2,h3⟩
abbrev NG(Q:Exit->Act->World->Prop):Prop:=∀gl a w,¬Q (.goto gl) a w
abbrev NO(Q:Exit->Act->World->Prop):Prop:=∀a w,¬Q .outgrown a w
abbrev cStmt(x:zP)(p0:Option Addr)(c0:Nat)(p1:Option Addr)(c1:Nat)(p2:Option Addr)(c2:Nat)(p3:Option Addr)(c3:Nat):List Value:=[vT x.Write.Array.l,vS p0 x.Write.Subs c0,vI x.Value.Kind,vI x.Value.Num,vS p1 x.Value.Index.Coefs c1,vI x.Value.Index.Const,vT x.Value.Read.Array.l,vS p2 x.Value.Read.Subs c2,vS p3 x.Value.Kids c3]
abbrev cExpr(x:zI)(p0:Option Addr)(c0:Nat)(p1:Option Addr)(c1:Nat)(p2:Option Addr)(c2:Nat):List Value:=[vI x.Kind,vI x.Num,vS p0 x.Index.Coefs c0,vI x.Index.Const,vT x.Read.Array.l,vS p1 x.Read.Subs c1,vS p2 x.Kids c2]
abbrev cAccess(x:zK)(p0:Option Addr)(c0:Nat):List Value:=[vT x.Array.l,vS p0 x.Subs c0]
abbrev cAff(x:zA)(p0:Option Addr)(c0:Nat):List Value:=[vS p0 x.Coefs c0,vI x.Const]
abbrev cLoop(x:zE)(p0:Option Addr)(c0:Nat)(p1:Option Addr)(c1:Nat):List Value:=[vS p0 x.Lo c0,vS p1 x.Hi c1]
abbrev cPart(x:zQ)(p0:Option Addr)(c0:Nat)(p1:Option Addr)(c1:Nat):List Value:=[vS p0 x.Nest c0,vS p1 x.Body c1]
abbrev cProg(x:zC)(p0:Option Addr)(c0:Nat)(p1:Option Addr)(c1:Nat):List Value:=[vS p0 x.Arrays c0,vS p1 x.Parts c1]
abbrev cArr(x:zF)(p0:Option Addr)(c0:Nat):List Value:=[vT x.Name.l,vS p0 x.Dims c0]
abbrev cRd(x:zO)(p0:Option Addr)(c0:Nat):List Value:=[vS p0 x.b c0,vI x.p]
abbrev cInst(x:zN)(p0:Option Addr)(c0:Nat):List Value:=[vI x.Part,vI x.Stmt,vS p0 x.Point c0]
abbrev zExpr:List Value:=[vI 0,vI 0,.slice none 0 0,vI 0,vT ([]),.slice none 0 0,.slice none 0 0]
abbrev zTwo:List Value:=[.slice none 0 0,.slice none 0 0]
abbrev z0:Value:=.slice none 0 0
abbrev vF:Value:=.bool false
abbrev vY:Value:=.bool true
abbrev KT:=Nat->Imm->List HA->Value->Prop
theorem iS(i:Imm):i.le i:=Imm.le.refl i
theorem iR{i:Imm}:i.le i:=Imm.le.refl i
abbrev S4{α:Type}[Rp α](imm:Imm)(p:Option Addr)(l:List α)(c:Nat):Prop:=SL imm (vS p l c) l
end Go.LN
namespace Go.LN
theorem zGk:∀{ks:List Nat}{m m':FM},keep m ks=some m'->m'.map (·.1)=ks
 | [],m,m',h=>by simp only[keep] at h;cases h;rfl
 | k::ks,m,m',h=>by
  simp only[keep] at h
  split at h
  ·rename_i v m1 h1 h2;cases h;rw[cL,zGk h2]
  ·cases h
theorem zEG{P:Program}{n:Nat}{af:List Oper}{hs:List HA}{pc k:Nat}{js ks:List Nat}{m new:FM}{bs:List Nat}(h:runD P n af hs pc k js ks m=some (new,bs)):new.map (·.1)=ks:=by
 unfold runD at h;split at h
 ·split at h
  ·rename_i hk;cases h;exact zGk hk
  ·cases h
 ·cases h
section
variable {P:Program}{n:Nat}{B:Base}{af:List Oper}{Q:Exit->Act->World->Prop}{pc:Nat}{imm:Imm}{hs:List HA}{m new:FM}{d:Nat}
theorem yG(pc':Nat)(js ks:List Nat)(h:runD P n af hs pc (pc' - pc) js ks m=some (new,js.map (blkAt hs)))(hR:R P n B af Q pc' imm hs (new++m))
 (hl:Nat.beq (pc+((af.drop pc).take (pc' - pc)).length) pc'=true:=by kernel_rfl):R P n B af Q pc imm hs m:=sW pc' js new hR (by rw[zEG h];exact h) hl
theorem yK(js ks:List Nat)(h:runD P n af hs pc af.length js ks m=some (new,js.map (blkAt hs)))(hR:T n B Q .normal imm hs (new++m)):R P n B af Q pc imm hs m:=wB js new hR (by rw[zEG h];exact h)
theorem eX(pc':Nat)(js ks:List Nat)(h:runD P n af hs pc (pc' - pc) js ks m=some (new,js.map (blkAt hs)))(hR:Rq P n B af Q pc' imm hs (new++m))
 (hl:Nat.beq (pc+((af.drop pc).take (pc' - pc)).length) pc'=true:=by kernel_rfl):Rq P n B af Q pc imm hs m:=zRB pc' js new hR (by rw[zEG h];exact h) hl
theorem zGl(js ks:List Nat)(h:runD P n af hs pc af.length js ks m=some (new,js.map (blkAt hs)))(hR:T n B Q .normal imm hs (new++m)):Rq P n B af Q pc imm hs m:=zLD js new hR (by rw[zEG h];exact h)
theorem yH{id:Nat}{af:List Oper}{y:Code}(ks:List Nat)(h:runD P n af hs 0 af.length [] ks m=some (new,[]))(hR:T n B (Exit.then (y.wp P Q) Q) .normal imm hs (new++m)):J P n B ((Code.region id af.toArray false).seq y) Q imm hs m:=yF (yK [] ks h hR)
theorem wV{id:Nat}{af:List Oper}{y:Code}(ks:List Nat)(h:runD P n af hs 0 af.length [] ks m=some (new,[]))(hR:T n B (Exit.then (y.wp P Q) Q) .normal imm hs (new++m)):T n B (Exit.then (((Code.region id af.toArray false).seq y).wp P Q) Q) .normal imm hs m:=zG (yH ks h hR)
theorem yS{e:Exit}{m':FM}(h:T n B Q e imm hs m')(hk:keep m (m'.map (·.1))=some m':=by kernel_rfl):T n B Q e imm hs m:=T_w m' h hk
theorem nD{c:Code}{m':FM}(h:J P n B c Q imm hs m')(hk:keep m (m'.map (·.1))=some m':=by kernel_rfl):J P n B c Q imm hs m:=pE m' h hk
theorem yP{its:List It}{gs:List (List HA)}{N:Nat}{l:List (Nat×Bool)}{ops':List Oper}{m2:FM}(ks:List Nat)
 (hi:(insM af its l m).bind (λm1=>keep m1 ks)=some m2) (h:R P n B ops' Q pc imm hs m2):Ins af (factsOf N its gs) imm l m hs λm' ag=>R P n B ops' Q pc imm ag m' :=
 eN m2 h (by
  obtain⟨m1,h1,h2⟩:=Option.bind_eq_some_iff.1 hi
  rw[zGk h2];exact hi)
theorem xZ(qs:List Nat){c:Bool}{α:Type}{X Y:Option α}{r:α}(hM:(if c=true then X else Y)=some r)(ht:c=true->X=some r->R P n B af Q pc imm hs (qs.map (λq=>(q,Value.bool true))++m))
 (hf:c=false->Y=some r->R P n B af Q pc imm hs (qs.map (λq=>(q,Value.bool false))++m)) (hq:keep m qs=some (qs.map λq=>(q,Value.bool c)):=by kernel_rfl):R P n B af Q pc imm hs m:=by
 cases c with
 | true=>exact zPR (λa f=>zIW hq (λ_ _ _ h=>h) a f) (ht rfl hM)
 | false=>exact zPR (λa f=>zIW hq (λ_ _ _ h=>h) a f) (hf rfl hM)
theorem zH2(qs:List Nat){c:Bool}{α:Type}{X Y:Option α}{r:α}(hM:(if c=true then X else Y)=some r)(ht:c=true->X=some r->Rq P n B af Q pc imm hs (qs.map (λq=>(q,Value.bool true))++m))
 (hf:c=false->Y=some r->Rq P n B af Q pc imm hs (qs.map (λq=>(q,Value.bool false))++m)) (hq:keep m qs=some (qs.map λq=>(q,Value.bool c)):=by kernel_rfl):Rq P n B af Q pc imm hs m:=by
 cases c with
 | true=>exact zM9 (λa f=>zIW hq (λ_ _ _ h=>h) a f) (ht rfl hM)
 | false=>exact zM9 (λa f=>zIW hq (λ_ _ _ h=>h) a f) (hf rfl hM)
theorem zRD(α:Type)[Rp α](h:RL imm [] ([]:List α)->R P n B af Q pc imm (hO α (.slice none 0 0) []::hs) m):R P n B af Q pc imm hs m:=tX (dA (Rp.sz α)) (h RepL.nil)
theorem zAm(α:Type)[Rp α]{c:Code}(h:RL imm [] ([]:List α)->J P n B c Q imm (hO α (.slice none 0 0) []::hs) m):J P n B c Q imm hs m:=jS (dA (Rp.sz α)) (h RepL.nil)
theorem kM{α:Type}[Rp α]{cs:List Value}{l:List α}(hr:RL imm cs l){t len:Nat}{parts:Array (Nat×Operand)}{ps:List (Nat×Value)}{ty:TypeId}{pos:String}{after:Array Edge}{g:Option (Nat×Bool)}
 (next:∀b am,imm.le am->SL am (.slice (some ⟨b,0,none⟩) len len) l->R P n B af Q (pc+1) am hs ((d,.slice (some ⟨b,0,none⟩) len len)::m))
 (ho:af[pc]?=some ⟨some d,.buildSlice t len parts,ty,pos,after,g⟩:=by rfl) (hg:guardB af m g=some true:=by rfl) (hn:Nat.blt d n=true:=by rfl) (hps:pvals m parts.toList=some ps:=by rfl) (hc:elemZ P t len ps=some ⟨cs⟩:=by kernel_rfl) (hl:Nat.beq cs.length (len*Rp.sz α)=true:=by kernel_rfl)
 (hlM:Nat.ble len 9223372036854775807=true:=by rfl):R P n B af Q pc imm hs m:=
 uP cs α (λb _=>xM 0 rfl λam bK hl0=>next b am bK (SL.of_frozen hl0 bK hr)) ho hg hn hps hc hl hlM
theorem sG{f:FuncId}{x:Operand}{xs:Array Operand}{ts:Array TypeId}{vs:List Value}{hs1 rest:List HA}{post:Nat->Imm->List HA->Value->Prop}{ty:TypeId}{pos:String}{after:Array Edge}{g:Option (Nat×Bool)}
 (hc:Ret P f vs imm hs1 post) (hh:hs=hs1++rest)
 (next:∀am ag v k,imm.le am->B.w0.heap.size<=k->post k am ag v->(∀b∈ag.flatMap HA.fp,b∈hs1.flatMap HA.fp∨B.w0.heap.size<=b)->R P n B af Q (pc+1) am (ag++rest) ((d,v)::m))
 (ho:af[pc]?=some ⟨some d,.call { callee:=.value x,args:=xs,argTypes:=ts },ty,pos,after,g⟩:=by rfl) (hg:guardB af m g=some true:=by rfl) (hn:Nat.blt d n=true:=by rfl) (hx:val m x=some (.func (.func f) #[] #[]):=by rfl) (hf:callable P f=true:=by kernel_rfl)
 (hvs:vals m xs.toList=some vs:=by rfl):R P n B af Q pc imm hs m:=zRC hs1 rest hc next ho hg hn hx hf hvs hh
theorem wK{α γ:Type}{x:Option α}{f:α->Option γ}{r:γ}{c:Code}(hM:(x >>= f)=some r)(hs0:List HA)(mf:α->FM)
 (h:∀o,x=some o->J P n B c (Exit.then (λa w=>∃am ag m',K1 o imm hs0 mf am ag m'/\Fr n a m'/\Good B am ag w) Q) imm hs m)
 (k:∀t am,imm.le am->f t=some r->T n B Q .normal am hs0 (mf t)):J P n B c Q imm hs m:=by
 obtain⟨o,h1,h2⟩:=zB hM
 refine qQ (K1 o imm hs0 mf) (h o h1) ?_
 rintro am _ _ ⟨t,rfl,bK,rfl,rfl⟩
 exact k _ am bK h2
end
theorem rN{α:Type}[Rp α]{i:Imm}:RL i [] ([]:List α):=RepL.nil
theorem rc{α:Type}[Rp α]{i:Imm}{c1 c2:List Value}{l:List α}(a:α)(h:Rp.rep i c1 a)(t:RL i c2 l):RL i (c1++c2) (a::l):=⟨c1,c2,rfl,Rp.len h,h,t⟩
theorem rI{i:Imm}:∀(l:List Int),RL i (l.map vI) l
 | []=>RepL.nil
 | a::l=>⟨[vI a],l.map vI,rfl,rfl,rfl,rI l⟩
theorem rT{i:Imm}:∀(l:List Str),RL i (l.map λs=>vT s.l) l
 | []=>RepL.nil
 | a::l=>⟨[vT a.l],l.map λs=>vT s.l,rfl,rfl,rfl,rT l⟩
end Go.LN
namespace Go.LN
section
variable {P:Program}{n:Nat}{B:Base}{Q:Exit->Act->World->Prop}{imm:Imm}{hs:List HA}{m:FM}{af:List Oper}{pc d:Nat}{ty:TypeId}{pos:String}{after:Array Edge}{g:Option (Nat×Bool)}
end
theorem Ret.fz{P:Program}{f:FuncId}{args:List Value}{imm:Imm}{hs:List HA}{post post':Nat->Imm->List HA->Value->Prop}(h:Ret P f args imm hs post)(hp:∀k i h v,post k i h v->∃A r,h=A::r/\A.plain=true/\∀i',i.le i'->Lent i' A->post' k i' r v):Ret P f args imm hs post' :=
 λw g=>(h w g).mono λe w' he=>by
  cases e with
  | returned v=>
   obtain⟨i,ag,h1,h2⟩:=he
   obtain⟨A,r,rfl,pl,h3⟩:=hp _ _ _ _ h1
   obtain⟨i',le,hL,hg⟩:=Good.freeze h2 pl
   exact⟨i',r,h3 i' le hL,hg⟩
  | panicked c=>exact he
  | outgrown=>exact he
end Go.LN
namespace Go.LN
theorem rA{x:Int}(h0:-9223372036854775808<=x)(h1:x<=9223372036854775807):W x=x:=by
 show IntKind.i64.wrap x=x;rw[IntKind.wrap_i64];omega
theorem zEH{α:Type}(l:List α)(k:Nat):idx l (k:Int)=l[k]?:=by
 unfold idx;simp
theorem zI0{k:Nat}(h:k<9223372036854775807):W ((k:Int)+1)=((k+1:Nat):Int):=by
 rw[rA (by omega) (by omega)];omega
end Go.LN
namespace Go.LN
structure Raw2 where
 a:Value
 b:Value
instance:Rp Raw2 where
 sz:=2
 pos:=by decide
 rep _ cs r:=cs=[r.a,r.b]/\r.a.oneCell'=true/\r.b.oneCell'=true
 len h:=by obtain⟨rfl,_⟩:=h;rfl
 mono _ h:=h
 one h:=by obtain⟨rfl,h1,h2⟩:=h;simp[h1,h2]
def flat:List Raw2->List Value
 | []=>[]
 | r::l=>r.a::r.b::flat l
theorem zBf:∀(a b:List Raw2),flat (a++b)=flat a++flat b
 | [],_=>rfl
 | r::a,b=>by simp[flat,zBf a b]
theorem gX{imm:Imm}:∀{l:List Raw2}{cs:List Value},RL imm cs l->cs=flat l
 | [],cs,h=>h
 | r::l,cs,⟨c1,c2,h1,_,h3,h4⟩=>by
  obtain⟨rfl,_⟩:=h3
  rw[h1,gX h4];rfl
def LP(imm:Imm)(al:List Raw2)(parts:List zQ)(vN:Value)(nl:List zE)(vB:Value)(bl:List zP):Prop:=
 parts.length<=140737488355328/\al.length=parts.length /\
  ((parts=[]/\al=[])∨∃rl l,parts=l++[⟨nl,bl⟩]/\al=rl++[⟨vN,vB⟩]/\RepL (Rp.rep imm) (Rp.sz zQ) (flat rl) l)
theorem LP.mono{i j:Imm}(hl:i.le j){al:List Raw2}{parts:List zQ}{vN vB:Value}{nl:List zE}{bl:List zP}(h:LP i al parts vN nl vB bl):LP j al parts vN nl vB bl:=by
 obtain⟨h1,h2,h3⟩:=h;refine⟨h1,h2,h3.imp id ?_⟩;rintro⟨rl,l,k1,k2,k3⟩;exact⟨rl,l,k1,k2,RepL.mono (λ_ _=>Rp.mono hl) k3⟩
structure L4(imm:Imm)(cs:List Value)(arr:List zF)(az:List Value)(al:List Raw2)(parts:List zQ)(vN:Value)(nl:List zE)(vB:Value)(bl:List zP)(csN csB:List Value):Prop where
 arr:RL imm cs arr
 raw:RL imm az al
 lp:LP imm al parts vN nl vB bl
 n:RL imm csN nl
 b:RL imm csB bl
theorem L4.mono{i j:Imm}(hl:i.le j){cs:List Value}{arr:List zF}{az:List Value}{al:List Raw2}{parts:List zQ}{vN vB:Value}{nl:List zE}{bl:List zP}{csN csB:List Value}
 (h:L4 i cs arr az al parts vN nl vB bl csN csB):L4 j cs arr az al parts vN nl vB bl csN csB:=
 ⟨RepL.mono (λ_ _=>Rp.mono hl) h.arr,RepL.mono (λ_ _=>Rp.mono hl) h.raw,h.lp.mono hl,RepL.mono (λ_ _=>Rp.mono hl) h.n,RepL.mono (λ_ _=>Rp.mono hl) h.b⟩
theorem LP.len{imm:Imm}{al:List Raw2}{parts:List zQ}{vN vB:Value}{nl:List zE}{bl:List zP}(h:LP imm al parts vN nl vB bl):(parts.length:Int)=(al.length:Int):=by rw[h.2.1]
theorem LP.last{imm:Imm}{al:List Raw2}{parts:List zQ}{vN vB:Value}{nl:List zE}{bl:List zP}(h:LP imm al parts vN nl vB bl){x:zQ}(hx:idx parts (W ((al.length:Int) - 1))=some x):
 x=⟨nl,bl⟩/\idx al (W ((al.length:Int) - 1))=some ⟨vN,vB⟩ /\
  ∀vN' nl' vB' bl',LP imm (al.set (W ((al.length:Int) - 1)).toNat ⟨vN',vB'⟩) (parts.set (W ((al.length:Int) - 1)).toNat ⟨nl',bl'⟩) vN' nl' vB' bl':=by
 obtain⟨h1,h2,h3⟩:=h
 have hW:W ((al.length:Int) - 1)=(al.length:Int) - 1:=rA (by omega) (by omega)
 rw[hW] at hx ⊢
 rcases h3 with⟨rfl,rfl⟩|⟨rl,l,rfl,rfl,h4⟩
 ·simp[idx] at hx
 ·have hl:l.length=rl.length:=by simpa using h2.symm
  have e:(((rl++[(⟨vN,vB⟩:Raw2)]).length:Int) - 1).toNat=rl.length:=by simp
  have e0:(0:Int)<=((rl++[(⟨vN,vB⟩:Raw2)]).length:Int) - 1:=by simp
  unfold idx at hx ⊢
  rw[if_pos e0,e] at hx ⊢
  rw[<- hl] at hx
  refine⟨by simpa using hx.symm,by simp,λvN' nl' vB' bl'=>⟨?_,?_,.inr ⟨rl,l,?_,?_,h4⟩⟩⟩
  ·simpa using h1
  ·simpa using h2
  ·rw[<- hl];simp
  ·simp
theorem LP.part{imm:Imm}{al:List Raw2}{parts:List zQ}{vN vB:Value}{nl:List zE}{bl:List zP}(h:LP imm al parts vN nl vB bl)(hN:SL imm vN nl)(hB:SL imm vB bl){l1:List zQ}
 (ha:app 48 parts [(⟨[],[]⟩:zQ)]=some l1):LP imm (al++[⟨.slice none 0 0,.slice none 0 0⟩]) l1 (.slice none 0 0) [] (.slice none 0 0) []:=by
 obtain⟨hb,rfl⟩:=zCG ha
 obtain⟨h1,h2,h3⟩:=h
 refine⟨?_,?_,.inr ⟨al,parts,rfl,rfl,?_⟩⟩
 ·simp at hb ⊢;omega
 ·simp[h2]
 ·rcases h3 with⟨rfl,rfl⟩|⟨rl,l,rfl,rfl,h4⟩
  ·rfl
  ·rw[zBf]
   exact h4.append (.single rfl (qS ⟨_,_,rfl,hN,hB⟩))
theorem zKZ{α β:Type}{b:Nat}{l:List α}{m:List α}{l':List β}{m':List β}{y:List α}(h:app b l m=some y)(h1:l'.length=l.length)(h2:m'.length=m.length):app b l' m'=some (l'++m'):=by
 obtain⟨k,_⟩:=zCG h;unfold app;rw[h1,h2,if_pos k]
theorem LP.done{imm:Imm}{al:List Raw2}{parts:List zQ}{vN vB:Value}{nl:List zE}{bl:List zP}(h:LP imm al parts vN nl vB bl)(hN:SL imm vN nl)(hB:SL imm vB bl):RepL (Rp.rep imm) (Rp.sz zQ) (flat al) parts:=by
 obtain⟨h1,h2,h3⟩:=h;rcases h3 with⟨rfl,rfl⟩|⟨rl,l,rfl,rfl,h4⟩
 ·rfl
 ·rw[zBf];exact h4.append (.single rfl (qS ⟨_,_,rfl,hN,hB⟩))
section
variable {P:Program}{n:Nat}{B:Base}{Q:Exit->Act->World->Prop}{imm:Imm}{hs:List HA}{m:FM}{af:List Oper}{pc d:Nat}{ty:TypeId}{pos:String}{after:Array Edge}{g:Option (Nat×Bool)}
theorem zPs{t:TypeId}{x y:Operand}{b o:Nat}{c:Array Value}{v:Value}(j:Nat)(c':List Value)(ag:List HA)(ho:af[pc]?=some ⟨none,.store t x y,ty,pos,after,g⟩)(hj:hs[j]?=some (.blk b c))(hx:val m x=some (.pointer (some ⟨b,o,none⟩)))(hy:val m y=some v)(bX:v.cells.toList.all Value.oneCell'=true)(next:R P n B af Q (pc+1) imm ag m)(hg:guardB af m g=some true:=by kernel_rfl)(bN:sizeT P t=some v.cells.size:=by kernel_rfl)(bR:Nat.ble (o+v.cells.size) c.size=true:=by kernel_rfl)(hc:wr c o v.cells.toList=⟨c'⟩:=by kernel_rfl)(hh:hs.set j (.blk b ⟨c'⟩)=ag:=by rfl):R P n B af Q pc imm hs m:=
 zHY j ho hg hj hx hy bN bR bX hc hh next
end
end Go.LN
namespace Go.LN
open Go.RowKit
theorem Good.below{imm:Imm}{w w':World}(h:Good ⟨w,imm,[]⟩ imm [] w)(b:Below w.heap.size w w')(hd:w.drawn<=w'.drawn):Good ⟨w,imm,[]⟩ imm [] w':=by
 refine⟨λk c e=>?_,by simp,by simp,⟨b.os,b.tape,b.output,b.size,λk hk _=>b.block k hk,λ_ _ _=>rfl,hd⟩⟩;obtain⟨ty,fr,e'⟩:=h.inv k c e;exact⟨ty,fr,(b.block k (h.lt_imm e)).trans e'⟩
theorem Good.cell{B:Base}{imm:Imm}{hs:List HA}{w:World}(h:Good B imm hs w){g:Nat}{v:Value}(e:imm g=some #[v]):w.cell? ⟨g,0,none⟩=some v:=by
 obtain⟨ty,fr,e'⟩:=h.inv _ _ e;simp only[World.cell?,e'];simp
theorem zNN{P:Program}{f:FuncId}{args:List Value}{imm:Imm}{v:Value}{post:Nat->Imm->List HA->Value->Prop}
 (h:∀w,Good ⟨w,imm,[]⟩ imm [] w->Calls P f args.toArray w λe w'=>e=.returned v/\Below w.heap.size w w'/\w.drawn<=w'.drawn) (hp:∀k,post k imm [] v):Ret P f args imm [] post:=λw g=>
 (h w g).mono λe w' ⟨he,hb,hd⟩=>by
  subst he
  exact⟨imm,[],hp _,g.below hb hd⟩
theorem At.of_blk{imm:Imm}{b:Nat}{cs:List Value}(h:imm b=some ⟨cs⟩):At imm ⟨b,0,none⟩ cs:=⟨b,0,_,rfl,h,by simp,by simp⟩
section
variable {P:Program}{n:Nat}{B:Base}{af:List Oper}{Q:Exit->Act->World->Prop}{pc:Nat}{imm:Imm}{hs:List HA}{m:FM}{d:Nat}
 {ty:TypeId}{pos:String}{after:Array Edge}{g:Option (Nat×Bool)}
end
end Go.LN
namespace Go.LN
section
variable {P:Program}{n:Nat}{B:Base}{Q:Exit->Act->World->Prop}{imm:Imm}{hs:List HA}{m:FM}{af:List Oper}{pc d:Nat}{ty:TypeId}{pos:String}{after:Array Edge}{g:Option (Nat×Bool)}
theorem zK0{t e:TypeId}{w:World}{p:Option Addr}{l c:Nat}(hu:P.underlying t=some (.slice e)):(Op.equal t (.slice p l c) (.slice none 0 0)).run P w=.ok p.isNone w:=by
 have h:∀d,(Op.equalIn (d+1) t (.slice p l c) (.slice none 0 0)).run P w=.ok p.isNone w:=λd=>by
  rw[Op.equalIn];cases p <;> simp[xE hu]
 exact h 9999
def sliceT(P:Program)(t:TypeId):Bool:=match P.underlying t with|some (.slice _)=>true|_=>false
theorem zQr{t t2:TypeId}{x:Operand}{p:Option Addr}{l c:Nat}(b:Bool)(ho:af[pc]?=some ⟨some d,.binOp .eql t x (.const (.slice none 0 0)) t2,ty,pos,after,g⟩)(hb:p.isNone=b)
 (next:R P n B af Q (pc+1) imm hs ((d,.bool b)::m)) (hx:val m x=some (.slice p l c)) (hg:guardB af m g=some true:=by kernel_rfl) (hn:Nat.blt d n=true:=by kernel_rfl) (ht:sliceT P t=true:=by kernel_rfl):R P n B af Q pc imm hs m:=by
 unfold sliceT at ht
 split at ht
 ·rename_i e hu
  refine jR ho hg rfl hn λa w f gd=>⟨.bool b,w,imm,hs,?_,gd,next⟩
  have hy:a.eval (.const (.slice none 0 0))=.slice none 0 0:=rfl
  simp[execOp,f.eval hx,hy,eqGuard,binOp,zK0 hu,hb]
 ·cases ht
end
end Go.LN
namespace Go.LN
section
variable {P:Program}{n:Nat}{B:Base}{Q:Exit->Act->World->Prop}{imm:Imm}{hs:List HA}{m:FM}
theorem zK1{c:Code}(ag:List HA)(hp:ag.Perm hs)(h:J P n B c Q imm ag m):J P n B c Q imm hs m:=λa w f g=>h a w f (g.perm hp)
theorem zOI{c:Code}(hF:False){am:Imm}{ag:List HA}{m':FM}(next:T n B Q .normal am ag m'):J P n B c Q imm hs m:=hF.elim
theorem zQs{c:Code}{L:List HA}(x:Exit)(S:Imm->List HA->FM->Prop)(h1:∀B':Base,J P n B' c (λe a w=>e=x/\∃am ag m',S am ag m'/\Fr n a m'/\Good B' am ag w) imm hs m)
 (h2:∀am ag m',S am ag m'->imm.le am->T n B Q x am (ag++L) m'):J P n B c Q imm (hs++L) m:=λa w f g=>by
 have bU:=g.nodup
 rw[cZ] at bU
 have hg1:=g.enter (hs1:=hs) (λA hA=>cV _ hA) (cE.1 bU).1
 refine wp_mono (h1 _ a w f hg1) λe a' w' he=>?_
 obtain⟨rfl,am,ag,m',k1,k2,k3⟩:=he
 obtain⟨k4,k5,_⟩:=g.leave k3
 exact h2 am ag m' k1 k5 a' w' k2 k4
theorem zQt{B':Base}{x:Exit}{S:Imm->List HA->FM->Prop}(h:S imm hs m):T n B' (λe a w=>e=x/\∃am ag m',S am ag m'/\Fr n a m'/\Good B' am ag w) x imm hs m:=λ_ _ f g=>⟨rfl,imm,hs,m,h,f,g⟩
end
structure NL where
 pl:Option Addr
 lo:List zA
 cl:Nat
 csl:List Value
 ph:Option Addr
 hi:List zA
 ch:Nat
 csh:List Value
def NL.vl(x:NL):Value:=vS x.pl x.lo x.cl
def NL.vh(x:NL):Value:=vS x.ph x.hi x.ch
def NL.ha(x:NL):List HA:=[hO zA x.vh x.csh,hO zA x.vl x.csl]
def NL.raw(x:NL):Raw2:=⟨x.vl,x.vh⟩
def NL.d(x:NL):zE:=⟨x.lo,x.hi⟩
def NL.ok(imm:Imm)(x:NL):Prop:=RL imm x.csl x.lo/\RL imm x.csh x.hi
def NL.fz(imm:Imm)(x:NL):Prop:=SL imm x.vl x.lo/\SL imm x.vh x.hi
theorem NL.ok.mono{i j:Imm}(h:i.le j){x:NL}(hx:x.ok i):x.ok j:=⟨RepL.mono (λ_ _=>Rp.mono h) hx.1,RepL.mono (λ_ _=>Rp.mono h) hx.2⟩
theorem NL.fz.mono{i j:Imm}(h:i.le j){x:NL}(hx:x.fz i):x.fz j:=⟨hx.1.mono h,hx.2.mono h⟩
abbrev NLs(xs:List NL):List HA:=xs.flatMap NL.ha
theorem zOJ{xs:List NL}{k:Nat}{x:NL}(h:xs[k]?=some x):∃ys,(NLs xs).Perm (x.ha++NLs ys)/\(∀y∈ys,y∈xs)/\∀i:Nat,∀y,i ≠ k->xs[i]?=some y->y∈ys:=by
 obtain⟨hk,rfl⟩:=cj.1 h;refine⟨xs.eraseIdx k,?_,λy hy=>List.mem_of_mem_eraseIdx hy,λi y hi hy=>List.mem_eraseIdx_iff_getElem?.2 ⟨i,hi,hy⟩⟩;have:=(gE h).flatMap_right NL.ha;simpa [NLs] using this
section
variable {P:Program}{n:Nat}{B:Base}{Q:Exit->Act->World->Prop}{hs:List HA}{m:FM}
theorem zCH{c:Code}:∀(xs:List NL) {imm:Imm},(∀x∈xs,x.ok imm)->(∀am,imm.le am->(∀x∈xs,x.fz am)->J P n B c Q am hs m)->J P n B c Q imm (NLs xs++hs) m
 | [],imm,_,h=>h imm (Imm.le.refl _) (λ_ h=>by cases h)
 | x::xs,imm,hx,h=>by
  have h1:=hx x (ci ..)
  show J P n B c Q imm (hO zA x.vh x.csh::hO zA x.vl x.csl::(NLs xs++hs)) m
  refine mM 0 rfl ?_
  intro imm1 aa hl1
  have k1:=SL.of_frozen hl1 aa h1.2
  refine mM 0 rfl ?_
  intro imm2 aD hl2
  have k2:=SL.of_frozen hl2 aD (RepL.mono (λ_ _=>Rp.mono aa) h1.1)
  refine zCH xs (λy hy=>(hx y (cg _ hy)).mono (aa.trans aD)) ?_
  intro imm3 aH h3
  refine h imm3 ((aa.trans aD).trans aH) λy hy=>?_
  rcases cz.1 hy with rfl|hy
  ·exact⟨k2.mono aH,(k1.mono aD).mono aH⟩
  ·exact h3 y hy
end
theorem zIE{α β:Type}{f:α->β}{l:List α}{i:Int}{y:β}(h:idx (l.map f) i=some y):∃x,idx l i=some x/\y=f x:=by
 obtain⟨h0,h1,h2⟩:=sV h;rw[dt,Option.map_eq_some_iff] at h2;obtain⟨x,h3,rfl⟩:=h2;exact⟨x,by unfold idx;rw[if_pos h0,h3],rfl⟩
theorem zCa{α β:Type}{f:α->β}{l:List α}{i:Int}{x:α}(h:idx l i=some x):idx (l.map f) i=some (f x):=by
 obtain⟨h0,h1,h2⟩:=sV h;unfold idx;rw[if_pos h0,dt,h2];rfl
section
variable {P:Program}{n:Nat}{B:Base}{Q:Exit->Act->World->Prop}{hs:List HA}{m:FM}{imm:Imm}
theorem zOK{c:Code}{xs:List NL}{i:Int}{x:NL}(hx:idx xs i=some x)(bY:∀x∈xs,x.ok imm)(h:∀am,imm.le am->(∀(j:Nat) y,j ≠ i.toNat->xs[j]?=some y->y.fz am)->J P n B c Q am (hO zA x.vh x.csh::hO zA x.vl x.csl::hs) m):J P n B c Q imm (NLs xs++hs) m:=by
 obtain⟨h0,h1,h2⟩:=sV hx;obtain⟨ys,k1,k2,k3⟩:=zOJ h2;refine zK1 (NLs ys++(x.ha++hs)) ?_ ?_
 ·rw[<- cr];exact(dh.trans k1.symm).append_right hs
 ·refine zCH ys (λy hy=>bY y (k2 y hy)) ?_;intro imm1 aa hf;exact h imm1 aa λj y hj hy=>hf y (k3 j y hj hy)
end
def PW(imm:Imm)(al:List Raw2)(nest:List zE):Prop:=al.length=nest.length/\∀(j:Nat) r d,al[j]?=some r->nest[j]?=some d->SL imm r.a d.Lo/\SL imm r.b d.Hi
theorem PW.rl{imm:Imm}:∀{al:List Raw2}{nest:List zE},PW imm al nest->RL imm (flat al) nest
 | [],[],_=>rfl
 | [],_::_,h=>by cases h.1
 | _::_,[],h=>by cases h.1
 | r::al,d::nest,h=>⟨[r.a,r.b],flat al,rfl,rfl,qR ⟨_,_,rfl,h.2 0 r d rfl rfl⟩,PW.rl ⟨by have:=h.1;simpa using this,λj r' d' h1 h2=>h.2 (j+1) r' d' (by simpa using h1) (by simpa using h2)⟩⟩
theorem zK2{imm:Imm}{xs:List NL}{k:Nat}{r:Raw2}{d:zE}(hfz:∀(j:Nat) y,j ≠ k->xs[j]?=some y->y.fz imm)(hr:SL imm r.a d.Lo/\SL imm r.b d.Hi):PW imm ((xs.map NL.raw).set k r) ((xs.map NL.d).set k d):=by
 refine⟨by simp,λj r' d' h1 h2=>?_⟩;by_cases hj:j=k
 ·subst hj;rw[List.getElem?_set_self' ] at h1 h2;cases hx:xs[j]? with
  | none=>simp[hx] at h1
  | some y=>
   simp[hx] at h1 h2;subst h1;subst h2;exact hr
 ·rw[List.getElem?_set_ne (λe=>hj e.symm),dt,Option.map_eq_some_iff] at h1 h2;obtain⟨y,h3,rfl⟩:=h1;obtain⟨y',h4,rfl⟩:=h2;rw[h3] at h4;cases h4
  exact hfz j y hj h3
theorem NL.shut{imm:Imm}{x:NL}(h:x.fz imm):Rp.rep imm [x.vl,x.vh] x.d:=qR ⟨_,_,rfl,h.1,h.2⟩
theorem zI1{imm:Imm}:∀{xs:List NL},(∀x∈xs,x.fz imm)->RL imm (flat (xs.map NL.raw)) (xs.map NL.d)
 | [],_=>rfl
 | x::xs,h=>⟨[x.vl,x.vh],flat (xs.map NL.raw),rfl,rfl,NL.shut (h x (ci ..)),zI1 λy hy=>h y (cg _ hy)⟩
theorem LP.push{imm:Imm}{al:List Raw2}{parts:List zQ}{vN vB vN' vB':Value}{nl nl':List zE}{bl bl':List zP}(h:LP imm al parts vN nl vB bl)(hN:SL imm vN nl)(hB:SL imm vB bl){l1:List zQ}
 (ha:app 48 parts [(⟨nl',bl'⟩:zQ)]=some l1):LP imm (al++[⟨vN',vB'⟩]) l1 vN' nl' vB' bl':=by
 obtain⟨hb,rfl⟩:=zCG ha
 obtain⟨h1,h2,h3⟩:=h
 refine⟨?_,?_,.inr ⟨al,parts,rfl,rfl,?_⟩⟩
 ·simp at hb ⊢;omega
 ·simp[h2]
 ·rcases h3 with⟨rfl,rfl⟩|⟨rl,l,rfl,rfl,h4⟩
  ·rfl
  ·rw[zBf]
   exact h4.append (.single rfl (qS ⟨_,_,rfl,hN,hB⟩))
theorem LP.nil{imm:Imm}:LP imm [] [] (.slice none 0 0) [] (.slice none 0 0) []:=⟨by decide,rfl,.inl ⟨rfl,rfl⟩⟩
end Go.LN
namespace Go.LN
structure ND where
 nm:Str
 p:Option Addr
 d:List Int
 c:Nat
 cs:List Value
def ND.v(x:ND):Value:=vS x.p x.d x.c
def ND.ha(x:ND):HA:=hO Int x.v x.cs
def ND.raw(x:ND):Raw2:=⟨vT x.nm.l,x.v⟩
def ND.a(x:ND):zF:=⟨x.nm,x.d⟩
def ND.ok(imm:Imm)(x:ND):Prop:=RL imm x.cs x.d
def ND.fz(imm:Imm)(x:ND):Prop:=SL imm x.v x.d
theorem ND.ok.mono{i j:Imm}(h:i.le j){x:ND}(hx:x.ok i):x.ok j:=RepL.mono (λ_ _=>Rp.mono h) hx
theorem ND.fz.mono{i j:Imm}(h:i.le j){x:ND}(hx:x.fz i):x.fz j:=SL.mono h hx
section
variable {P:Program}{n:Nat}{B:Base}{Q:Exit->Act->World->Prop}{hs:List HA}{m:FM}
end
def RW(imm:Imm)(al:List Raw2)(A:List zF)(k:Nat)(w:Value):Prop:=al.length=A.length/\∀(j:Nat) r d,al[j]?=some r->A[j]?=some d->r.a=vT d.Name.l/\(j ≠ k->SL imm r.b d.Dims)/\(j=k->r.b=w)
def ArW(imm:Imm)(v:Value)(al:List Raw2)(A:List zF)(k:Int)(w:Value):Prop:=SL imm v al/\RW imm al A k.toNat w
theorem ArW.mono{i j:Imm}(h:i.le j){v:Value}{al:List Raw2}{A:List zF}{k:Int}{w:Value}(hx:ArW i v al A k w):ArW j v al A k w:=
 ⟨SL.mono h hx.1,hx.2.1,λq r d h1 h2=>⟨(hx.2.2 q r d h1 h2).1,λhq=>SL.mono h ((hx.2.2 q r d h1 h2).2.1 hq),(hx.2.2 q r d h1 h2).2.2⟩⟩
theorem RW.of{imm:Imm}{xs:List ND}{i:Int}{x:ND}(hx:idx xs i=some x)(h:∀(j:Nat) y,j ≠ i.toNat->xs[j]?=some y->y.fz imm):RW imm (xs.map ND.raw) (xs.map ND.a) i.toNat x.v:=by
 obtain⟨h0,h1,h2⟩:=sV hx;refine⟨by simp,λj r d hr hd=>?_⟩;rw[dt,Option.map_eq_some_iff] at hr hd;obtain⟨y,hy,rfl⟩:=hr;obtain⟨y',hy',rfl⟩:=hd;rw[hy] at hy';cases hy'
 refine⟨rfl,λhj=>h j y hj hy,λhj=>?_⟩;subst hj;rw[h2] at hy;cases hy;rfl
theorem RW.at{imm:Imm}{al:List Raw2}{A:List zF}{k:Int}{w:Value}(h:RW imm al A k.toNat w){a:zF}(ha:idx A k=some a):idx al k=some ⟨vT a.Name.l,w⟩:=by
 obtain⟨h0,h1,h2⟩:=sV ha;have ax:=(cj.1 h2).1;have hr:al[k.toNat]?=some (al[k.toNat]'(by rw[h.1];exact ax)):=cd _;obtain⟨e1,_,e2⟩:=h.2 _ _ _ hr h2;unfold idx;rw[if_pos h0,hr]
 congr 1
 generalize al[k.toNat]'(by rw[h.1];exact ax)=r at *;cases r
 simp only at e1 e2;rw[e1,e2 trivial]
theorem RW.rl{imm:Imm}:∀{al:List Raw2}{A:List zF},al.length=A.length->(∀(j:Nat) r d,al[j]?=some r->A[j]?=some d->r.a=vT d.Name.l/\SL imm r.b d.Dims)->RL imm (flat al) A
 | [],[],_,_=>rfl
 | [],_::_,h,_=>by cases h
 | _::_,[],h,_=>by cases h
 | r::al,d::A,h,hh=>⟨[r.a,r.b],flat al,rfl,rfl,by
  obtain⟨e1,e2⟩:=hh 0 r d rfl rfl
  rw[e1]
  exact qY ⟨_,rfl,e2⟩,RW.rl (by simpa using h) λj r' d' h1 h2=>hh (j+1) r' d' (by simpa using h1) (by simpa using h2)⟩
theorem RW.set{imm:Imm}{al:List Raw2}{A:List zF}{k:Int}{w:Value}(h:RW imm al A k.toNat w){a:zF}(ha:idx A k=some a){d:List Int}(hd:SL imm w d):RL imm (flat al) (A.set k.toNat ⟨a.Name,d⟩):=by
 obtain⟨h0,h1,h2⟩:=sV ha;refine RW.rl (by rw[cJ];exact h.1) λj r y hr hy=>?_;by_cases hj:j=k.toNat
 ·subst hj;rw[List.getElem?_set_self (cj.1 h2).1] at hy;cases hy
  obtain⟨e1,_,e2⟩:=h.2 _ r a hr h2;exact⟨e1,by rw[e2 rfl];exact hd⟩
 ·rw[List.getElem?_set_ne (λe=>hj e.symm)] at hy;obtain⟨e1,e2,_⟩:=h.2 _ r y hr hy;exact⟨e1,e2 hj⟩
theorem ArW.done{imm:Imm}{p:Option Addr}{c:Nat}{al:List Raw2}{A:List zF}{k:Int}{w:Value}(h:ArW imm (vS p al c) al A k w){a:zF}(ha:idx A k=some a){d:List Int}(hd:SL imm w d):SL imm (vS p (A.set k.toNat ⟨a.Name,d⟩) c) (A.set k.toNat ⟨a.Name,d⟩):=by
 obtain⟨⟨aN,h1,h2⟩,h3⟩:=h;refine⟨aN,?_,?_⟩
 ·have e:(vS p (A.set k.toNat ⟨a.Name,d⟩) c)=vS p al c:=by simp only[vS,cJ,h3.1]
  rw[e];exact h1
 ·rw[gX h2];exact h3.set ha hd
section
variable {P:Program}{n:Nat}{B:Base}{imm:Imm}{hs:List HA}{m:FM}
end
end Go.LN
namespace Go.LN
structure NB where
 vN:Value
 nl:List zE
 p:Option Addr
 d:List zP
 c:Nat
 cs:List Value
def NB.v(x:NB):Value:=vS x.p x.d x.c
def NB.ha(x:NB):HA:=hO zP x.v x.cs
def NB.raw(x:NB):Raw2:=⟨x.vN,x.v⟩
def NB.a(x:NB):zQ:=⟨x.nl,x.d⟩
def NB.ok(imm:Imm)(x:NB):Prop:=SL imm x.vN x.nl/\RL imm x.cs x.d
def NB.fz(imm:Imm)(x:NB):Prop:=SL imm x.vN x.nl/\SL imm x.v x.d
theorem NB.ok.mono{i j:Imm}(h:i.le j){x:NB}(hx:x.ok i):x.ok j:=⟨SL.mono h hx.1,RepL.mono (λ_ _=>Rp.mono h) hx.2⟩
theorem NB.fz.mono{i j:Imm}(h:i.le j){x:NB}(hx:x.fz i):x.fz j:=⟨SL.mono h hx.1,SL.mono h hx.2⟩
theorem NB.shut{imm:Imm}{x:NB}(h:x.fz imm):Rp.rep imm [x.vN,x.v] x.a:=qS ⟨_,_,rfl,h.1,h.2⟩
section
variable {P:Program}{n:Nat}{B:Base}{Q:Exit->Act->World->Prop}{hs:List HA}{m:FM}
end
end Go.LN
namespace Go.LN
open Go.Proofs
end Go.LN
namespace Go.LN
structure Raw1 where
 v:Value
instance:Rp Raw1 where
 sz:=1
 pos:=gw
 rep _ cs r:=cs=[r.v]/\r.v.oneCell'=true
 len h:=by obtain⟨rfl,_⟩:=h;rfl
 mono _ h:=h
 one h:=by obtain⟨rfl,h1⟩:=h;simp[h1]
def rv(R:List Raw1):List Value:=R.map Raw1.v
def GN{β:Type}[Rp β](imm:Imm)(xs:List (List β))(X:List Raw1)(y:List β)(v:Value):Prop:=
 (xs=[]/\X=[]/\y=[]/\v=.slice none 0 0)∨∃init Xi,xs=init++[y]/\X=Xi++[⟨v⟩]/\RL imm (rv Xi) init/\xs.length<=10000000000000
section
variable {β:Type} [Rp β] {imm:Imm}{xs:List (List β)}{X:List Raw1}{y:List β}{v:Value}
theorem GN.mono{j:Imm}(hl:imm.le j)(h:GN imm xs X y v):GN j xs X y v:=by
 rcases h with h|⟨init,Xi,h1,h2,h3,h4⟩
 ·exact .inl h
 ·exact .inr ⟨init,Xi,h1,h2,RepL.mono (λ_ _=>Rp.mono hl) h3,h4⟩
theorem zOL{init:List (List β)}{Xi:List Raw1}(h:RL imm (rv Xi) init):Xi.length=init.length:=by
 have:=h.length;simpa [rv,show Rp.sz (List β)=1 from rfl] using this
theorem GN.len(h:GN imm xs X y v):X.length=xs.length:=by
 rcases h with⟨rfl,rfl,_⟩|⟨init,Xi,rfl,rfl,h3,_⟩
 ·rfl
 ·simp[zOL h3]
theorem GN.all(h:GN imm xs X y v)(hs:SL imm v y):RL imm (rv X) xs:=by
 rcases h with⟨rfl,rfl,_⟩|⟨init,Xi,rfl,rfl,h3,_⟩
 ·exact RepL.nil
 ·have e:rv (Xi++[⟨v⟩])=rv Xi++[v]:=by simp[rv]
  rw[e];exact h3.append ⟨[v],[],rfl,rfl,⟨v,rfl,hs⟩,rfl⟩
theorem GN.push(h:GN imm xs X y v)(hs:SL imm v y)(hb:(xs.length+1)*24<=140737488355328):GN imm (xs++[[]]) (X++[⟨.slice none 0 0⟩]) [] (.slice none 0 0):=
 .inr ⟨xs,X,rfl,rfl,h.all hs,by simp;omega⟩
theorem zQL{n:Nat}(h:n<=10000000000000):W (((n+1:Nat):Int) - 1)=(n:Int):=by rw[rA (by omega) (by omega)];omega
theorem GN.last(h:GN imm xs X y v){z:List β}(hz:idx xs (W ((xs.length:Int) - 1))=some z):z=y/\idx X (W ((X.length:Int) - 1))=some ⟨v⟩/\W ((X.length:Int) - 1)=W ((xs.length:Int) - 1) /\
 ∀(y':List β) (v':Value),GN imm (xs.set (W ((xs.length:Int) - 1)).toNat y') (X.set (W ((X.length:Int) - 1)).toNat ⟨v'⟩) y' v':=by
 rcases h with⟨rfl,rfl,_⟩|⟨init,Xi,rfl,rfl,h3,h4⟩
 ·obtain⟨_,_,h2⟩:=sV hz
  simp at h2
 ·have hl:=zOL h3
  simp only[cQ,f9] at hz h4 ⊢
  have e1:=zQL (n:=init.length) (by omega)
  rw[e1] at hz
  rw[hl,e1]
  refine⟨?_,?_,rfl,λy' v'=>?_⟩
  ·have:=(sV hz).2.2
   simp at this
   exact this.symm
  ·unfold idx
   simp[hl]
  ·rw[gy]
   refine .inr ⟨init,Xi,?_,?_,h3,?_⟩
   ·simp
   ·simp[<- hl]
   ·simp;omega
end
def FS1{σ α β:Type}[Vr α][Vr β](P:Program)(imm:Imm)(hsS:σ->List HA)(v:Value)(φ:α->σ->Option (β×σ)):Prop:=
 ∃f first cap,v=.func (.func f) ⟨first⟩ ⟨cap⟩/\callable P f=true/\∀am,imm.le am->∀a s r va,φ a s=some r->Vr.rep am va a->Ret P f (first++[va]++cap) am (hsS s) λ_ i ag u=>ag=hsS r.2/\Vr.rep i u r.1
theorem FS1.mono{σ α β:Type}[Vr α][Vr β]{P:Program}{i j:Imm}{hsS:σ->List HA}{v:Value}{φ:α->σ->Option (β×σ)}(hl:i.le j)(h:FS1 P i hsS v φ):FS1 P j hsS v φ:=by
 obtain⟨f,first,cap,h1,h2,h3⟩:=h;exact⟨f,first,cap,h1,h2,λam h'=>h3 am (hl.trans h')⟩
theorem FS1.intro{σ α β:Type}[Vr α][Vr β]{P:Program}{imm:Imm}{hsS:σ->List HA}{f:FuncId}{first cap:List Value}{φ:α->σ->Option (β×σ)}(h:∀am,imm.le am->∀a s r va,φ a s=some r->Vr.rep am va a->Ret P f (first++[va]++cap) am (hsS s) λ_ i ag u=>ag=hsS r.2/\Vr.rep i u r.1)
 (hc:callable P f=true:=by kernel_rfl):FS1 P imm hsS (.func (.func f) ⟨first⟩ ⟨cap⟩) φ:=⟨f,first,cap,rfl,hc,h⟩
section
variable {P:Program}{n:Nat}{B:Base}{af:List Oper}{Q:Exit->Act->World->Prop}{pc:Nat}{imm:Imm}{hs:List HA}{m:FM}{d:Nat}
 {ty:TypeId}{pos:String}{after:Array Edge}{g:Option (Nat×Bool)}
end
end Go.LN
namespace Go.LN
section
variable {P:Program}{n:Nat}{B:Base}{Q:Exit->Act->World->Prop}{imm:Imm}{hs:List HA}{m:FM}{af:List Oper}{pc d:Nat}{ty:TypeId}{pos:String}{after:Array Edge}{g:Option (Nat×Bool)}
end
theorem zEI{B:Base}{imm:Imm}(a b:List HA):∀w,Good B imm (a++b) w->Good B imm (b++a) w:=λ_ h=>h.perm dh
end Go.LN
