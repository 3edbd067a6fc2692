/- Helper of the proof (see the last text). -/
import Derived.Test.YtkipogionmkncaaGreatDoorLnP
set_option linter.unusedVariables false
set_option linter.unusedSimpArgs false
namespace Go.LN
def Ok{α:Type}(x:Option α)(φ:α->Prop):Prop:=∃r,x=some r/\φ r
class Tot {α:Type} (x:Option α) (pre:outParam Prop) (k:outParam ((α->Prop)->Prop)):Prop where
 ok:pre->∀φ:α->Prop,k φ->Ok x φ
class Sd (P:Prop):Prop where
 h:P
class Su (P:Prop) (Q:outParam Prop):Prop where
 h:Q->P
class Sw (P:Prop) (Q:outParam Prop):Prop where
 h:Q->P
theorem zCw{α:Type}{P:α->Prop}{l:List α}{y:α}(h:∀s∈l,P s)(hy:P y):∀s∈l++[y],P s:=by
 intro s hs;rcases yr.1 hs with hs|hs
 ·exact h s hs
 ·rw[yq.1 hs];exact hy
def AF{α:Type}(l:List α)(i:Int)(P:α->Prop):Prop:=∀j:Nat,i<=j->∀x,l[j]?=some x->P x
theorem AF.fin{α:Type}{l:List α}{i:Int}{P:α->Prop}(h:¬i<l.length):AF l i P:=by
 intro j hj x hx;have:=(yi.1 hx).1;omega
theorem AF.step{α:Type}{l:List α}{i:Int}{P:α->Prop}{x:α}(hx:l[i.toNat]?=some x)(h:AF l (i+1) P)(hi:0<=i)(hp:P x):AF l i P:=by
 intro j hj y hy;by_cases hji:i=j
 ·subst hji;rw[zq] at hx;rw[hx] at hy;cases hy
  exact hp
 ·exact h j (by omega) y hy
theorem AF.all{α:Type}{l:List α}{P:α->Prop}(h:AF l 0 P):∀x∈l,P x:=by
 intro x hx;obtain⟨j,hj⟩:=List.mem_iff_getElem?.1 hx;exact h j (by omega) x hj
theorem S{P:Prop}(h:P:=by
 repeat' first
  | assumption
  | omega
  | with_reducible apply And.intro
  | exact True.intro
  | with_reducible rfl
  | (simp only[yc,xy,yo,zk];omega)
  | exact Sd.h
  | simp(disch:=omega) only [tV]
  | solve_by_elim
  | ((with_reducible refine Sw.h ?_);first|assumption|solve_by_elim)
  | (intro _ hz;exact absurd hz z8)
  | exact λh=>absurd h Bool.false_ne_true
  | exact λh=>absurd h.symm Bool.false_ne_true
  | (intro h;replace h:=of_decide_eq_false h)
  | decide
  | exact AF.fin (by omega)
  | exact AF.all (by first|assumption|solve_by_elim)
  | with_reducible refine zCw ?_ ?_
  | (simp only[yc,xy,yo,zk] at *;omega)
  | (intro h;replace h:=of_decide_eq_true h)
  | (intro h;replace h:=eq_of_beq h)
  | intro _
  | with_reducible refine AF.step (by assumption) (by first|assumption|solve_by_elim) (by omega) ?_
  | dsimp only
  | with_reducible refine Su.h ?_
  | (exfalso;omega)
 done):P:=h
theorem Ok.mono{α:Type}{x:Option α}{φ ψ:α->Prop}(h:Ok x φ)(hp:∀r,φ r->ψ r):Ok x ψ:=by
 obtain⟨r,h1,h2⟩:=h;exact⟨r,h1,hp r h2⟩
theorem Ok.pure{α:Type}{a:α}{φ:α->Prop}(h:φ a):Ok (Pure.pure a) φ:=⟨a,rfl,h⟩
theorem Ok.some{α:Type}{a:α}{φ:α->Prop}(h:φ a):Ok (Option.some a) φ:=⟨a,rfl,h⟩
theorem Ok.bind{α β:Type}{x:Option α}{f:α->Option β}{φ:α->Prop}{ψ:β->Prop}(h:Ok x φ)(hf:∀r,φ r->Ok (f r) ψ):Ok (x >>= f) ψ:=by
 obtain⟨r,rfl,h2⟩:=h;exact hf r h2
theorem Ok.call{α β:Type}{x:Option α}{pre:Prop}{k:(α->Prop)->Prop}{f:α->Option β}{ψ:β->Prop}(T:Tot x pre k)(hp:pre)(h:k (λr=>Ok (f r) ψ)):Ok (x >>= f) ψ:=
 Ok.bind (T.ok hp _ h) λ_ h=>h
theorem Ok.last{α:Type}{x:Option α}{pre:Prop}{k:(α->Prop)->Prop}{ψ:α->Prop}(T:Tot x pre k)(hp:pre)(h:k ψ):Ok x ψ:=T.ok hp _ h
theorem Ok.bind_pure{α β:Type}{a:α}{f:α->Option β}{ψ:β->Prop}(h:Ok (f a) ψ):Ok (Pure.pure a >>= f) ψ:=h
theorem Ok.pure_id{α:Type}{a:α}{φ:α->Prop}(h:φ a):Ok (Pure.pure (id a)) φ:=⟨a,rfl,h⟩
theorem Ok.bind_pure_id{α β:Type}{a:α}{f:α->Option β}{ψ:β->Prop}(h:Ok (f a) ψ):Ok (Pure.pure (id a) >>= f) ψ:=h
theorem Ok.bind_some{α β:Type}{a:α}{f:α->Option β}{ψ:β->Prop}(h:Ok (f a) ψ):Ok (Option.some a >>= f) ψ:=h
theorem Ok.bind_bind{α β γ:Type}{x:Option α}{g:α->Option β}{f:β->Option γ}{ψ:γ->Prop}(h:Ok (x >>= λa=>g a >>= f) ψ):Ok ((x >>= g) >>= f) ψ:=by
 cases x <;> exact h
theorem Ok.ite{α:Type}{c:Prop}[Decidable c]{x y:Option α}{φ:α->Prop}(h1:c->Ok x φ)(h2:¬c->Ok y φ):Ok (if c then x else y) φ:=by
 split
 ·exact h1 ‹_›
 ·exact h2 ‹_›
theorem Ok.ite_dec{α:Type}{c:Prop}[Decidable c]{x y:Option α}{φ:α->Prop}(h1:c->Ok x φ)(h2:¬c->Ok y φ):Ok (if decide c=true then x else y) φ:=
 Ok.ite (λh=>h1 (by simpa using h)) (λh=>h2 (by simpa using h))
theorem Ok.ite_beq{α β:Type}[BEq β][LawfulBEq β]{a b:β}{x y:Option α}{φ:α->Prop}(h1:a=b->Ok x φ)(h2:a ≠ b->Ok y φ):Ok (if(a==b)=true then x else y) φ:=
 Ok.ite (λh=>h1 (by simpa using h)) (λh=>h2 (by simpa using h))
theorem Ok.ite_bne{α β:Type}[BEq β][LawfulBEq β]{a b:β}{x y:Option α}{φ:α->Prop}(h1:a ≠ b->Ok x φ)(h2:a=b->Ok y φ):Ok (if(a != b)=true then x else y) φ:=
 Ok.ite (λh=>h1 (by simpa using h)) (λh=>h2 (by simpa using h))
theorem Ok.ite_not{α:Type}{b:Bool}{x y:Option α}{φ:α->Prop}(h1:b=false->Ok x φ)(h2:b=true->Ok y φ):Ok (if(!b)=true then x else y) φ:=
 Ok.ite (λh=>h1 (by simpa using h)) (λh=>h2 (by simpa using h))
theorem Ok.ite_tt{α:Type}{x y:Option α}{φ:α->Prop}(h:Ok x φ):Ok (if true=true then x else y) φ:=h
theorem Ok.ite_ff{α:Type}{x y:Option α}{φ:α->Prop}(h:Ok y φ):Ok (if false=true then x else y) φ:=h
theorem Ok.ite_True{α:Type}{x y:Option α}{φ:α->Prop}{d:Decidable True}(h:Ok x φ):Ok (@_root_.ite _ True d x y) φ:=by rwa[if_pos trivial]
theorem Ok.ite_False{α:Type}{x y:Option α}{φ:α->Prop}{d:Decidable False}(h:Ok y φ):Ok (@_root_.ite _ False d x y) φ:=by rwa[if_neg id]
theorem Ok.bind_ite{α β:Type}{c:Prop}[Decidable c]{x y:Option α}{f:α->Option β}{φ:β->Prop}(h:Ok (if c then x >>= f else y >>= f) φ):Ok ((if c then x else y) >>= f) φ:=by
 split at h
 ·rw[if_pos ‹_›];exact h
 ·rw[if_neg ‹_›];exact h
theorem Ok.split_out{S R β:Type}{x:Out S R}{f:S->Option β}{g:R->Option β}{φ:β->Prop}(h1:∀r,x=.ret r->Ok (g r) φ)(h2:∀s,x=.done s->Ok (f s) φ):Ok (match x with|.ret r=>g r|.done s=>f s) φ:=by
 cases x with
 | ret r=>exact h1 r rfl
 | done s=>exact h2 s rfl
theorem Ok.idx{α β:Type}{l:List α}{i:Int}{f:α->Option β}{φ:β->Prop}(h0:0<=i)(h1:i<l.length)(h:∀x,x∈l->l[i.toNat]?=Option.some x->Ok (f x) φ):Ok (idx l i >>= f) φ:=by
 unfold LN.idx;rw[if_pos h0];have hl:i.toNat<l.length:=by omega
 rw[ya hl];exact h _ (List.getElem_mem hl) (ya hl)
theorem Ok.idx_known{α β:Type}{l:List α}{i:Int}{x:α}{f:α->Option β}{φ:β->Prop}(hx:l[i.toNat]?=Option.some x)(h0:0<=i)(h:Ok (f x) φ):Ok (LN.idx l i >>= f) φ:=by
 unfold LN.idx;rw[if_pos h0,hx];exact h
theorem Ok.sidx_known{β:Type}{s:Str}{i:Int}{x:UInt8}{f:UInt8->Option β}{φ:β->Prop}(hx:s.l[i.toNat]?=Option.some x)(h0:0<=i)(h:Ok (f x) φ):Ok (LN.sidx s i >>= f) φ:=Ok.idx_known hx h0 h
theorem Ok.sidx{β:Type}{s:Str}{i:Int}{f:UInt8->Option β}{φ:β->Prop}(h0:0<=i)(h1:i<s.l.length)(h:∀x,x∈s.l->s.l[i.toNat]?=Option.some x->Ok (f x) φ):Ok (sidx s i >>= f) φ:=Ok.idx h0 h1 h
theorem Ok.app{α β:Type}{e:Nat}{l m:List α}{f:List α->Option β}{φ:β->Prop}(h0:(l.length+m.length)*e<=140737488355328)(h:Ok (f (l++m)) φ):Ok (app e l m >>= f) φ:=by
 unfold LN.app;rw[if_pos h0];exact h
theorem Ok.cat{β:Type}{a b:Str}{f:Str->Option β}{φ:β->Prop}(h0:a.l.length+b.l.length<=9223372036854775807)(h:∀s:Str,s.l=a.l++b.l->s.l.length=a.l.length+b.l.length->Ok (f s) φ):Ok (cat a b >>= f) φ:=by
 unfold LN.cat;rw[if_pos h0];exact h _ rfl (by simp)
theorem Ok.slc{α β:Type}{l:List α}{i k:Int}{f:List α->Option β}{φ:β->Prop}(h0:0<=i)(h1:i<=k)(h2:k<=l.length)(h:∀m,m=(l.take k.toNat).drop i.toNat->(m.length:Int)=k - i->Ok (f m) φ):Ok (slc l i k >>= f) φ:=by
 unfold LN.slc;rw[if_pos ⟨h0,h1,h2⟩];refine h _ rfl ?_;simp only[yt,yl];omega
theorem Ok.sslc{β:Type}{s:Str}{i k:Int}{f:Str->Option β}{φ:β->Prop}(h0:0<=i)(h1:i<=k)(h2:k<=s.l.length)(h:∀m:Str,m.l=(s.l.take k.toNat).drop i.toNat->(m.l.length:Int)=k - i->Ok (f m) φ):Ok (sslc s i k >>= f) φ:=by
 unfold LN.sslc LN.slc;rw[if_pos ⟨h0,h1,h2⟩];refine h _ rfl ?_;simp only[yt,yl];omega
theorem Ok.rem{β:Type}{a b:Int}{f:Int->Option β}{φ:β->Prop}(h0:b ≠ 0)(h:Ok (f (a.tmod b)) φ):Ok (rem a b >>= f) φ:=by
 unfold LN.rem;rw[if_neg h0];exact h
theorem Ok.quo{β:Type}{a b:Int}{f:Int->Option β}{φ:β->Prop}(h0:b ≠ 0)(h:Ok (f (W (a.tdiv b))) φ):Ok (quo a b >>= f) φ:=by
 unfold LN.quo;rw[if_neg h0];exact h
theorem Ok.bind_congr{α β:Type}{x x':Option α}{f:α->Option β}{φ:β->Prop}(e:x=x')(h:Ok (x' >>= f) φ):Ok (x >>= f) φ:=e ▸ h
theorem Ok.congr{α:Type}{x x':Option α}{φ:α->Prop}(e:x=x')(h:Ok x' φ):Ok x φ:=e ▸ h
theorem Ok.go{P:Prop}(h:P:=by
 repeat' first
  | with_reducible refine Ok.bind_pure_id ?_
  | with_reducible refine Ok.bind_pure ?_
  | with_reducible refine Ok.bind_some ?_
  | with_reducible refine Ok.bind_bind ?_
  | with_reducible refine Ok.bind_ite ?_
  | with_reducible refine Ok.ite_tt ?_
  | with_reducible refine Ok.ite_ff ?_
  | with_reducible refine Ok.ite_True ?_
  | with_reducible refine Ok.ite_False ?_
  | ((with_reducible refine Ok.ite_dec ?_ ?_) <;> intro h <;> try simp(disch:=omega) only [tV] at h)
  | ((with_reducible refine Ok.ite_beq ?_ ?_) <;> intro h <;> try simp(disch:=omega) only [tV] at h)
  | ((with_reducible refine Ok.ite_bne ?_ ?_) <;> intro h <;> try simp(disch:=omega) only [tV] at h)
  | ((with_reducible refine Ok.ite_not ?_ ?_) <;> intro _)
  | ((with_reducible refine Ok.ite ?_ ?_) <;> intro _)
  | with_reducible refine Ok.idx_known (by assumption) (by omega) ?_
  | with_reducible refine Ok.sidx_known (by assumption) (by omega) ?_
  | (with_reducible refine Ok.bind_congr (by simp(disch:=omega) only [tV];rfl) ?_)
  | ((with_reducible refine Ok.idx ?_ ?_ ?_);(focus exact S);(focus exact S);intro _ _ _)
  | ((with_reducible refine Ok.sidx ?_ ?_ ?_);(focus exact S);(focus exact S);intro _ _ _)
  | ((with_reducible refine Ok.app ?_ ?_);(focus exact S))
  | ((with_reducible refine Ok.cat ?_ ?_);(focus exact S);intro _ _ _)
  | ((with_reducible refine Ok.slc ?_ ?_ ?_ ?_);(focus exact S);(focus exact S);(focus exact S);intro _ _ _)
  | ((with_reducible refine Ok.sslc ?_ ?_ ?_ ?_);(focus exact S);(focus exact S);(focus exact S);intro _ _ _)
  | ((with_reducible refine Ok.rem ?_ ?_);(focus exact S))
  | ((with_reducible refine Ok.quo ?_ ?_);(focus exact S))
  | ((with_reducible apply Ok.call);(focus infer_instance);(focus exact S);(first|(with_reducible refine And.intro ?_ ?_)|skip) <;> intros <;> try dsimp only)
  | ((with_reducible refine Ok.pure_id ?_);try dsimp only)
  | ((with_reducible refine Ok.pure ?_);try dsimp only)
  | with_reducible refine Ok.some ?_
  | (with_reducible refine Ok.congr (by simp(disch:=omega) only [tV];rfl) ?_)
  | ((with_reducible apply Ok.last);(focus infer_instance);(focus exact S);(first|(with_reducible refine And.intro ?_ ?_)|skip) <;> intros)
  | ((with_reducible refine Ok.split_out ?_ ?_) <;> intro _ _)
 all_goals first
  | (with_reducible apply hk <;> exact S)
  | (with_reducible apply hd <;> exact S)
  | (with_reducible apply hr <;> exact S)
  | (exfalso;omega)
  | exact S):P:=h
section test
end test
end Go.LN
