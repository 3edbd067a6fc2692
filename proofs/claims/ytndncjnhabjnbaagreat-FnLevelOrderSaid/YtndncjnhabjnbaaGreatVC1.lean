/- Helper of the proof (see the last text). -/
import Derived.Test.YtndncjnhabjnbaaGreatVB1
import Derived.Test.YtndncjnhabjnbaaGreatQZ
set_option linter.unusedVariables false
set_option linter.unusedSimpArgs false
namespace Go.LN
theorem eI{α:Type}{l:List α}{f:Int->List α->Option (List α)}(step:∀(i:Nat) (h:i<l.length) (o:List α),o.length=i->f (i:Int) o=f ((i+1:Nat):Int) (o++[l[i]]))(fin:∀o,f (l.length:Int) o=some o):f 0 []=some l:=by
 have key:∀j i,i+j=l.length->f (i:Int) (l.take i)=some l:=by
  intro j
  induction j with
  | zero=>
   intro i hi;rw[show i=l.length by omega,fin,dc (cZ _)]
  | succ j ih=>
   intro i hi;have aw:i<l.length:=by omega
   have:=ih (i+1) (by omega);rw[List.take_add_one,cd aw,Option.toList_some] at this;rw[step i aw _ (by rw[cy];omega)];exact this
 exact key _ 0 (cm _)
theorem copyExpr:∀(m:Nat) (e:zF),BE m e->qG e=some e
 | m,e,h=>by
  obtain⟨h1,h2,h3⟩:=h.own
  rw[qG]
  have hl:=eI (l:=e.Kids) (f:=λi o=>vL e i o) (λi hi o ho=>by
   show vL e (i:Int) o=_
   rw[vL]
   have k1:((i:Int)<(e.Kids.length:Int)):=by omega
   obtain⟨m',hm,hm'⟩:=h.kid (gM hi)
   have happ:app 112 o [e.Kids[i]]=some (o++[e.Kids[i]]):=qT (by simp;omega)
   have hr:=copyExpr m' e.Kids[i] hm'
   simp only[k1,dT,if_true,yM hi,oB,oS,same,hr,happ]
   rw[wL (by omega)]) (λo=>by
   show vL e (e.Kids.length:Int) o=_
   rw[vL];simp)
  simp only[specCopyAff _ h1,specCopyAcc _ h2,oB,oS,same]
  rw[show vL e 0 []=some e.Kids from hl]
  clear hl h h1 h2 h3
  cases e;rfl
theorem copyStmt(s:zQ)(h:BS s):jJ s=some s:=by
 obtain⟨h1,m,h2⟩:=h;unfold jJ;rw[specCopyAcc _ h1,copyExpr m _ h2];rfl
theorem copyNest(nest:List zE)(h:BN nest):nH nest=some nest:=by
 obtain⟨h1,h2⟩:=h;unfold nH;have hl:=eI (l:=nest) (f:=λi o=>uI nest o i) (λi hi o ho=>by
  show uI nest o (i:Int)=_;rw[uI];have k1:((i:Int)<(nest.length:Int)):=by omega
  obtain⟨⟨q1,q2⟩,q3,q4⟩:=h2 _ (gM hi);have happ:app 48 o [nest[i]]=some (o++[nest[i]]):=qT (by simp;omega);have hlo:=eI (l:=nest[i].Lo) (f:=λk o=>sJ nest (i:Int) k o) (λk hk o ho=>by
   show sJ nest (i:Int) (k:Int) o=_;rw[sJ];have k2:((k:Int)<(nest[i].Lo.length:Int)):=by omega
   have hp:app 32 o [nest[i].Lo[k]]=some (o++[nest[i].Lo[k]]):=qT (by simp;omega);have ha:=q2 _ (gM hk);have hpn:app 8 ([]:List Int) nest[i].Lo[k].Coefs=some nest[i].Lo[k].Coefs:=dO _ (by unfold BA at ha;omega);simp only[yM hi,k2,dT,if_true,yM hk,oB,oS,hpn,hp];rw[wL (by omega)]) (λo=>by
   show sJ nest (i:Int) (nest[i].Lo.length:Int) o=_;rw[sJ];simp[yM hi])
  have hhi:=eI (l:=nest[i].Hi) (f:=λk o=>sK nest (i:Int) k o) (λk hk o ho=>by
   show sK nest (i:Int) (k:Int) o=_;rw[sK];have k2:((k:Int)<(nest[i].Hi.length:Int)):=by omega
   have hp:app 32 o [nest[i].Hi[k]]=some (o++[nest[i].Hi[k]]):=qT (by simp;omega);have ha:=q4 _ (gM hk);have hpn:app 8 ([]:List Int) nest[i].Hi[k].Coefs=some nest[i].Hi[k].Coefs:=dO _ (by unfold BA at ha;omega);simp only[yM hi,k2,dT,if_true,yM hk,oB,oS,hpn,hp];rw[wL (by omega)]) (λo=>by
   show sK nest (i:Int) (nest[i].Hi.length:Int) o=_;rw[sK];simp[yM hi])
  simp only[k1,dT,if_true,oB,oS,hlo,hhi,happ];rw[wL (by omega)]) (λo=>by
  show uI nest o (nest.length:Int)=_;rw[uI];simp)
 rw[hl];rfl
theorem copyProg(P:zD)(h:BG P):qB P=some P:=by
 obtain⟨⟨h1,h1'⟩,h2,h3⟩:=h;unfold qB;have ha:=eI (l:=P.Arrays) (f:=λi o=>sL P i o) (λi hi o ho=>by
  show sL P (i:Int) o=_;rw[sL];have k1:((i:Int)<(P.Arrays.length:Int)):=by omega
  have hd:=h1' _ (gM hi);have happ:app 40 o [P.Arrays[i]]=some (o++[P.Arrays[i]]):=qT (by simp;omega);have hpn:app 8 ([]:List Int) P.Arrays[i].Dims=some P.Arrays[i].Dims:=dO _ (by omega);simp only[k1,dT,if_true,yM hi,oB,oS,hpn,happ];rw[wL (by omega)]) (λo=>by
  show sL P (P.Arrays.length:Int) o=_;rw[sL];simp)
 have hp:=eI (l:=P.Parts) (f:=λi o=>uJ P i o) (λi hi o ho=>by
  show uJ P (i:Int) o=_;rw[uJ];have k1:((i:Int)<(P.Parts.length:Int)):=by omega
  obtain⟨b1,b2,b3⟩:=h3 _ (gM hi);have happ:app 48 o [P.Parts[i]]=some (o++[P.Parts[i]]):=qT (by simp;omega);have hb:=eI (l:=P.Parts[i].Body) (f:=λk o=>sM P (i:Int) k o) (λk hk o ho=>by
   show sM P (i:Int) (k:Int) o=_;rw[sM];have k2:((k:Int)<(P.Parts[i].Body.length:Int)):=by omega
   have hp:app 152 o [P.Parts[i].Body[k]]=some (o++[P.Parts[i].Body[k]]):=qT (by simp;omega);simp only[yM hi,k2,dT,if_true,yM hk,oB,oS,copyStmt _ (b3 _ (gM hk)),hp];rw[wL (by omega)]) (λo=>by
   show sM P (i:Int) (P.Parts[i].Body.length:Int) o=_;rw[sM];simp[yM hi])
  simp only[k1,dT,if_true,yM hi,oB,oS,copyNest _ b1,hb,happ];rw[wL (by omega)]) (λo=>by
  show uJ P (P.Parts.length:Int) o=_;rw[uJ];simp)
 rw[ha,hp];rfl
end Go.LN
namespace Go.LN
theorem BE.up1:∀{n:Nat}{e:zF},BE n e->BE (n+1) e
 | 0,e,⟨h1,h2,h3⟩=>⟨h1,h2,by rw[h3];simp,by rw[h3];intro k hk;cases hk⟩
 | n+1,e,⟨h1,h2,h3,h4⟩=>⟨h1,h2,h3,λk hk=>BE.up1 (h4 k hk)⟩
theorem BE.up{n m:Nat}{e:zF}(h:BE n e)(hm:n<=m):BE m e:=by
 obtain⟨k,rfl⟩:=Nat.exists_eq_add_of_le hm
 induction k with
 | zero=>exact h
 | succ k ih=>exact BE.up1 (ih (by omega))
def QL(q:Nat)(l:List zA):Prop:=l.length<=q/\∀a∈l,BA a
def QN(q:Nat)(nest:List zE):Prop:=nest.length<=2000/\∀x∈nest,QL q x.Lo/\QL q x.Hi
def QS(q:Nat)(s:zQ):Prop:=QL q s.Write.Subs/\BA s.Value.Index/\BL s.Value.Read.Subs/\s.Value.Kids.length<=q/\∀k∈s.Value.Kids,BE 6 k
theorem QL.up{q r:Nat}{l:List zA}(h:QL q l)(hq:q<=r):QL r l:=⟨dg h.1 hq,h.2⟩
theorem QL.bl{q:Nat}{l:List zA}(h:QL q l)(hq:q<=1000):BL l:=⟨dg h.1 hq,h.2⟩
theorem QL.app{q k:Nat}{l m:List zA}(h:QL q l)(hm:QL k m):QL (q+k) (l++m):=by
 refine⟨by rw[lA];exact Nat.add_le_add h.1 hm.1,λa ha=>?_⟩;rcases dx.1 ha with ha|ha
 ·exact h.2 a ha
 ·exact hm.2 a ha
theorem QL.nil{q:Nat}:QL q []:=⟨ex _,λ_ h=>by cases h⟩
theorem QL.one{a:zA}(h:BA a):QL 1 [a]:=⟨cZ _,λ_ h'=>cx.1 h' ▸ h⟩
theorem QL.two{a b:zA}(h:BA a)(h2:BA b):QL 2 [a,b]:=QL.app (QL.one h) (QL.one h2)
theorem QN.up{q r:Nat}{l:List zE}(h:QN q l)(hq:q<=r):QN r l:=⟨h.1,λx hx=>⟨(h.2 x hx).1.up hq,(h.2 x hx).2.up hq⟩⟩
theorem QN.bn{q:Nat}{l:List zE}(h:QN q l)(hq:q<=1000):BN l:=⟨by have:=h.1;omega,λx hx=>⟨(h.2 x hx).1.bl hq,(h.2 x hx).2.bl hq⟩⟩
theorem QN.set{q:Nat}{l:List zE}(h:QN q l){x:zE}(hx:QL q x.Lo/\QL q x.Hi)(k:Nat):QN q (l.set k x):=⟨by rw[cL];exact h.1,zFZ h.2 hx k⟩
theorem QS.up{q r:Nat}{s:zQ}(h:QS q s)(hq:q<=r):QS r s:=⟨h.1.up hq,h.2.1,h.2.2.1,dg h.2.2.2.1 hq,h.2.2.2.2⟩
theorem QS.bs{q:Nat}{s:zQ}(h:QS q s)(hq:q<=1000):BS s:=⟨h.1.bl hq,7,h.2.1,h.2.2.1,by have:=h.2.2.2.1;omega,h.2.2.2.2⟩
theorem zHU{a:zA}(h:a.Coefs.length=4):BA a:=by unfold BA;omega
theorem zKA(q:Nat):∀(j:Nat) (out:List zE),5<=out.length+j->1<=out.length->QN q out->Ok (rL out) (QN q)
 | 0,out,hj,h1,h=>by
  rw[rL]
  refine Ok.ite_dec (λhc=>absurd hc (by omega)) λ_=>Ok.pure h
 | j+1,out,hj,h1,h=>by
  rw[rL]
  refine Ok.ite_dec (λhc=>?_) λ_=>Ok.pure h
  refine Ok.idx (by omega) (by omega) λx hx _=>Ok.app (by simp;omega) ?_
  refine zKA q j _ (by rw[lA];simp;omega) (by rw[lA];omega) ⟨by rw[lA];simp;omega,λy hy=>?_⟩
  rcases dx.1 hy with hy|hy
  ·exact h.2 y hy
  ·rw[cx.1 hy];exact h.2 x hx
theorem mut2(q:Nat)(hq:q<=300)(r:zL)(nest:List zE)(h:QN q nest)(h0:0<=r.p)(h1:r.p<=900000000):Ok (oT r nest) (λy=>QN (q+2) y.1/\0<=y.2.p/\y.2.p<=r.p+2):=by
 have hup:=h.up (show q<=q+2 by omega);unfold oT;rw[copyNest nest (h.bn (by omega))];refine Ok.bind_some (Ok.ite_beq (λ_=>Ok.pure ⟨hup,h0,by dsimp only;omega⟩) λhne=>?_);have hpos:0<nest.length:=by omega
 have aG:=h.1;have hW:W ((nest.length:Int) - 1)=((nest.length - 1:Nat):Int):=by rw[sI (by omega) (by omega)];omega
 refine Ok.call (fV r 40) ⟨h0,by omega⟩ λy2 s g1 g2 g3=>?_;refine Ok.ite_beq (λ_=>?_) λ_=>Ok.ite_beq (λ_=>?_) λ_=>Ok.ite_beq (λ_=>?_) λ_=>Ok.ite_beq (λ_=>?_) λ_=>Ok.ite_beq (λ_=>?_) λ_=>?_
 ·refine Ok.idx (by omega) (by omega) λx hx _=>Ok.call (fV s 2) ⟨by omega,by omega⟩ λy5 s2 k1 k2 k3=>Ok.call (zCF y5) ⟨k1,by omega⟩ λa c1 c2=>?_;have hxx:=h.2 x hx;refine Ok.app (by have:=hxx.1.1;simp;omega) (Ok.pure ⟨QN.set (x:=⟨x.Lo++[a],x.Hi⟩) hup ⟨(hxx.1.app (QL.one (zHU c1))).up (show q+1<=q+2 by omega),hxx.2.up (show q<=q+2 by omega)⟩ _,by dsimp only;omega,by dsimp only;omega⟩)
 ·rw[hW];refine Ok.idx (by omega) (by omega) λx hx _=>?_;have hxx:=h.2 x hx;exact Ok.pure ⟨QN.set (x:=⟨x.Lo,[]⟩) hup ⟨hxx.1.up (show q<=q+2 by omega),QL.nil⟩ _,by dsimp only;omega,by dsimp only;omega⟩
 ·rw[hW];refine Ok.idx (by omega) (by omega) λx hx _=>Ok.call (mP 1) trivial (Ok.call (mP 2) trivial ?_);have hxx:=h.2 x hx;exact Ok.app (by have:=hxx.2.1;simp;omega) (Ok.pure ⟨QN.set (x:=⟨x.Lo,x.Hi++[⟨[0,0,0,0],1⟩,⟨[0,0,0,0],2⟩]⟩) hup ⟨hxx.1.up (show q<=q+2 by omega),hxx.2.app (QL.two (zHU rfl) (zHU rfl))⟩ _,by dsimp only;omega,by dsimp only;omega⟩)
 ·refine Ok.call (mP 99) trivial (Ok.idx (by omega) (by omega) λx hx _=>?_);have hxx:=h.2 x hx;exact Ok.pure ⟨QN.set (x:=⟨x.Lo,[⟨[0,0,0,0],99⟩]⟩) hup ⟨hxx.1.up (show q<=q+2 by omega),(QL.one (zHU rfl)).up (show 1<=q+2 by omega)⟩ _,by dsimp only;omega,by dsimp only;omega⟩
 ·refine Ok.bind (zKA q 5 nest (by omega) hpos h) λz hz=>Ok.pure ⟨hz.up (by omega),by dsimp only;omega,by dsimp only;omega⟩
 ·exact Ok.pure ⟨hup,by dsimp only;omega,by dsimp only;omega⟩
theorem mut3(q:Nat)(hq:q<=300)(r:zL)(s:zQ)(h:QS q s)(h0:0<=r.p)(h1:r.p<=900000000):Ok (sG r s) (λy=>QS (q+2) y.1/\0<=y.2.p/\y.2.p<=r.p+2):=by
 obtain⟨w1,w2,w3,w4,w5⟩:=h.up (show q<=q+2 by omega);obtain⟨v1,_,_,v4,_⟩:=id h;have v11:=v1.1;unfold sG;rw[copyStmt s (h.bs (by omega))];refine Ok.bind_some (Ok.call (fV r 40) ⟨h0,by omega⟩ λy2 y3 g1 g2 g3=>?_);have fin:∀(o:Str×List zA×Int×Int×List zF×zL),(QL (q+2) o.2.1/\(o.2.2.2.2.1.length<=q+2/\∀k∈o.2.2.2.2.1,BE 6 k)/\0<=o.2.2.2.2.2.p/\o.2.2.2.2.2.p<=r.p+2)->QS (q+2) (zQ.mk (zI.mk o.1 o.2.1) (zF.mk o.2.2.1 o.2.2.2.1 s.Value.Index s.Value.Read o.2.2.2.2.1))/\0<=o.2.2.2.2.2.p/\o.2.2.2.2.2.p<=r.p+2:=
  λo ⟨a,b,c⟩=>⟨⟨a,w2,w3,b.1,b.2⟩,c⟩
 refine Ok.bind (φ:=λo:Str×List zA×Int×Int×List zF×zL=>QL (q+2) o.2.1/\(o.2.2.2.2.1.length<=q+2/\∀k∈o.2.2.2.2.1,BE 6 k)/\0<=o.2.2.2.2.2.p/\o.2.2.2.2.2.p<=r.p+2) ?_ λo ho=>by
  obtain⟨o1,o2,o3,o4,o5,o6⟩:=o;exact Ok.pure (fin _ ho)
 refine Ok.ite_beq (λ_=>?_) λ_=>?_
 ·exact Ok.call (zBN y3 _) ⟨by decide,by omega,by omega⟩ λz t _ k3=>Ok.pure ⟨w1,⟨w4,w5⟩,by dsimp only;omega,by dsimp only;omega⟩
 refine Ok.bind (φ:=λo:List zA×Int×Int×List zF×zL=>QL (q+2) o.1/\(o.2.2.2.1.length<=q+2/\∀k∈o.2.2.2.1,BE 6 k)/\0<=o.2.2.2.2.p/\o.2.2.2.2.p<=r.p+2) ?_ λo ho=>by
  obtain⟨o2,o3,o4,o5,o6⟩:=o;exact Ok.pure ho
 refine Ok.ite_beq (λ_=>?_) λ_=>?_
 ·exact Ok.call (zCF 3) (by omega) λa c1 c2=>Ok.call eF trivial (Ok.app (by simp;omega) (Ok.pure ⟨v1.app (QL.two (zHU c1) (zHU rfl)),⟨w4,w5⟩,by dsimp only;omega,by dsimp only;omega⟩))
 refine Ok.bind (φ:=λo:Int×Int×List zF×zL=>(o.2.2.1.length<=q+2/\∀k∈o.2.2.1,BE 6 k)/\0<=o.2.2.2.p/\o.2.2.2.p<=r.p+2) ?_ λo ho=>by
  obtain⟨o3,o4,o5,o6⟩:=o;exact Ok.pure ⟨w1,ho⟩
 refine Ok.ite_beq (λ_=>?_) λ_=>?_
 ·exact Ok.call (uV y3 _) ⟨by decide,by omega,by omega,by decide⟩ λz t _ _ k3=>Ok.pure ⟨⟨w4,w5⟩,by dsimp only;omega,by dsimp only;omega⟩
 refine Ok.bind (φ:=λo:Int×List zF×zL=>(o.2.1.length<=q+2/\∀k∈o.2.1,BE 6 k)/\0<=o.2.2.p/\o.2.2.p<=r.p+2) ?_ λo ho=>by
  obtain⟨o4,o5,o6⟩:=o;exact Ok.pure ho
 refine Ok.ite_beq (λ_=>?_) λ_=>?_
 ·exact Ok.call (uV y3 _) ⟨by decide,by omega,by omega,by decide⟩ λz t _ _ k3=>Ok.pure ⟨⟨w4,w5⟩,by dsimp only;omega,by dsimp only;omega⟩
 refine Ok.bind (φ:=λo:List zF=>o.length<=q+2/\∀k∈o,BE 6 k) ?_ λo ho=>Ok.pure ⟨ho,by dsimp only;omega,by dsimp only;omega⟩;refine Ok.ite_beq (λ_=>?_) λ_=>Ok.pure ⟨w4,w5⟩;refine Ok.app (by show (_+1)*112<=_;omega) (Ok.pure ⟨by show (_++_:List zF).length<=_;rw[lA];show _+1<=_;omega,λk hk=>?_⟩);rcases dx.1 hk with hk|hk
 ·exact w5 k hk
 ·rw[cx.1 hk];exact BE.up (n:=0) ⟨ex _,⟨ex _,λ_ h=>by cases h⟩,rfl⟩ (by omega)
end Go.LN
namespace Go.LN
def DX(x:zN):Prop:=QN 100 x.Nest/\x.Body.length<=1000/\∀s∈x.Body,QS 100 s
def DP(P:zD):Prop:=(P.Arrays.length<=1000/\∀a∈P.Arrays,a.Dims.length<=1000)/\P.Parts.length<=1000/\∀x∈P.Parts,DX x
theorem DX.bp{x:zN}(h:DX x):BP x:=⟨h.1.bn (by omega),by have:=h.2.1;omega,λs hs=>(h.2.2 s hs).bs (by omega)⟩
theorem DP.bg{P:zD}(h:DP P):BG P:=⟨⟨by have:=h.1.1;omega,h.1.2⟩,by have:=h.2.1;omega,λx hx=>(h.2.2 x hx).bp⟩
def PB(l:List zN):Prop:=l.length<=1000/\∀x∈l,BP x
theorem PB.set{l:List zN}(h:PB l){x:zN}(hx:BP x)(k:Nat):PB (l.set k x):=⟨by rw[cL];exact h.1,zFZ h.2 hx k⟩
def AR(l:List zG):Prop:=l.length<=2000/\∀a∈l,a.Dims.length<=1000
def RD(s:zL):Prop:=0<=s.p/\s.p<=700001000
theorem mut4(r:zL)(P:zD)(h:DP P)(h0:0<=r.p)(h1:r.p<=700000000):Ok (qV r P) (λy=>(BG y.1/\AR y.1.Arrays)/\RD y.2):=by
 obtain⟨⟨a1,a2⟩,p1,p2⟩:=id h;have hA:AR P.Arrays:=⟨by omega,a2⟩;have hP:PB P.Parts:=⟨p1,λx hx=>(p2 x hx).bp⟩;have hW:0<P.Parts.length->W ((P.Parts.length:Int) - 1)=((P.Parts.length - 1:Nat):Int):=λhp=>by rw[sI (by omega) (by omega)];omega
 unfold qV;rw[copyProg P h.bg];refine Ok.bind_some (Ok.call (fV r 60) ⟨h0,by omega⟩ λy2 y3 g1 g2 g3=>?_);have hR:RD y3:=⟨by omega,by omega⟩;refine Ok.bind (φ:=λo:List zG×List zN×zL=>AR o.1/\PB o.2.1/\RD o.2.2) ?_ λo ho=>by
  obtain⟨o1,o2,o3⟩:=o;exact Ok.pure ⟨⟨⟨⟨by have:=ho.1.1;dsimp only at this ⊢;omega,ho.1.2⟩,by have:=ho.2.1.1;dsimp only at this ⊢;omega,ho.2.1.2⟩,ho.1⟩,ho.2.2⟩
 refine Ok.ite_beq (λ_=>?_) λ_=>?_
 ·refine Ok.call (zBN y3 _) ⟨by decide,by omega,by omega⟩ λz t _ k3=>Ok.call (uV t _) ⟨by decide,by omega,by omega,by decide⟩ λz2 t2 _ _ k4=>Ok.app (by show (_+1)*40<=_;omega) (Ok.pure ⟨⟨by show (_++_:List zG).length<=_;rw[lA];show _+1<=_;omega,λa ha=>?_⟩,hP,⟨by dsimp only;omega,by dsimp only;omega⟩⟩);rcases dx.1 ha with ha|ha
  ·exact a2 a ha
  ·rw[cx.1 ha];show 1<=1000;omega
 refine Ok.bind (φ:=λo:List zG×List zN×zL=>AR o.1/\PB o.2.1/\RD o.2.2) ?_ λo ho=>by
  obtain⟨o1,o2,o3⟩:=o;exact Ok.pure ho
 refine Ok.ite_beq (λ_=>?_) λ_=>?_
 ·refine Ok.bind (φ:=λo:List zG×zL=>AR o.1/\RD o.2) ?_ λo ho=>by
   obtain⟨o1,o3⟩:=o;exact Ok.pure ⟨ho.1,hP,ho.2⟩
  refine Ok.ite_dec (λhc=>?_) λ_=>Ok.pure ⟨hA,hR⟩;refine Ok.call (uV y3 _) ⟨by decide,by omega,by omega,by decide⟩ λz t _ _ k3=>Ok.idx (by omega) (by omega) λx hx _=>Ok.bind_pure (Ok.pure ⟨⟨by show (List.set _ _ _).length<=_;rw[cL];exact hA.1,zFZ hA.2 (show ([z]:List Int).length<=1000 by simp) _⟩,⟨by dsimp only;omega,by dsimp only;omega⟩⟩)
 refine Ok.bind (φ:=λo:List zN×zL=>PB o.1/\RD o.2) ?_ λo ho=>by
  obtain⟨o1,o3⟩:=o;exact Ok.pure ⟨hA,ho⟩
 refine Ok.ite_beq (λ_=>?_) λ_=>?_
 ·refine Ok.bind (φ:=λo:List zN×zL=>PB o.1/\RD o.2) ?_ λo ho=>by
   obtain⟨o1,o3⟩:=o;exact Ok.pure ho
  refine Ok.ite_dec (λhc=>?_) λ_=>Ok.pure ⟨hP,hR⟩;refine Ok.idx (by omega) (by omega) λx hx _=>?_;refine Ok.bind (mut2 100 (by omega) y3 x.Nest (p2 x hx).1 (by omega) (by omega)) λq1 k1=>?_;obtain⟨n1,s1⟩:=q1;obtain⟨c1,c2,c3⟩:=k1;refine Ok.bind (mut2 (100+2) (by omega) s1 n1 c1 c2 (by dsimp only at c3;omega)) λq2 k2=>?_;obtain⟨n2,s2⟩:=q2;obtain⟨d1,d2,d3⟩:=k2;refine Ok.bind (mut2 (100+2+2) (by omega) s2 n2 d1 d2 (by dsimp only at c3 d3;omega)) λq3 k3=>?_;obtain⟨n,s⟩:=q3;have hn:=k3.1;refine Ok.idx (by omega) (by omega) λx7 hx7 _=>Ok.bind_pure (Ok.pure ⟨hP.set (x:=⟨n,x7.Body⟩) ⟨hn.bn (by omega),(p2 x7 hx7).bp.2.1,(p2 x7 hx7).bp.2.2⟩ _,⟨k3.2.1,by have:=k3.2.2;dsimp only at this c3 d3 ⊢;omega⟩⟩)
 refine Ok.bind (φ:=λo:List zN×zL=>PB o.1/\RD o.2) ?_ λo ho=>by
  obtain⟨o1,o3⟩:=o;exact Ok.pure ho
 refine Ok.ite_beq (λ_=>?_) λ_=>?_
 ·refine Ok.bind (φ:=λb=>b=true->0<P.Parts.length/\∀x,P.Parts[P.Parts.length - 1]?=some x->0<x.Body.length) ?_ λb hb=>?_
  ·refine Ok.ite_dec (λhc=>?_) λ_=>Ok.pure (λh=>by cases h);have hp:0<P.Parts.length:=by omega
   rw[hW hp];refine Ok.idx (by omega) (by omega) λx hx he=>Ok.pure λhd=>⟨hp,λx' hx'=>?_⟩;rw[iN] at he;rw[he] at hx';cases hx'
   have:=of_decide_eq_true hd;omega
  ·refine Ok.bind (φ:=λo:List zN×zL=>PB o.1/\RD o.2) ?_ λo ho=>by
    obtain⟨o1,o3⟩:=o;exact Ok.pure ho
   refine Ok.ite (λhc=>?_) λ_=>Ok.pure ⟨hP,hR⟩;obtain⟨hp,hbody⟩:=hb hc;rw[hW hp];refine Ok.idx (by omega) (by omega) λx hx he=>?_;rw[iN] at he;have hb0:=hbody x he;have hdx:=p2 x hx;refine Ok.idx (by omega) (by omega) λx0 hx0 _=>?_;refine Ok.bind (mut3 100 (by omega) y3 x0 (hdx.2.2 x0 hx0) (by omega) (by omega)) λq1 k1=>?_;obtain⟨n1,s1⟩:=q1;obtain⟨c1,c2,c3⟩:=k1;refine Ok.bind (mut3 (100+2) (by omega) s1 n1 c1 c2 (by dsimp only at c3;omega)) λq2 k2=>?_;obtain⟨n2,s2⟩:=q2;obtain⟨d1,d2,d3⟩:=k2;refine Ok.bind (mut3 (100+2+2) (by omega) s2 n2 d1 d2 (by dsimp only at c3 d3;omega)) λq3 k3=>?_;obtain⟨n,s⟩:=q3;have hn:=k3.1;refine Ok.bind_pure (Ok.pure ⟨hP.set (x:=⟨x.Nest,x.Body.set 0 n⟩) ⟨hdx.bp.1,by rw[cL];exact hdx.bp.2.1,zFZ hdx.bp.2.2 (hn.bs (by omega)) _⟩ _,⟨k3.2.1,by have:=k3.2.2;dsimp only at this c3 d3 ⊢;omega⟩⟩)
 refine Ok.bind (φ:=λo:List zN=>PB o) ?_ λo ho=>Ok.pure ⟨ho,hR⟩;refine Ok.ite_beq (λ_=>?_) λ_=>Ok.pure hP;refine Ok.bind (φ:=λo:List zN=>PB o) ?_ λo ho=>Ok.pure ho;refine Ok.ite_dec (λhc=>?_) λ_=>Ok.pure hP;have hp:0<P.Parts.length:=by omega
 rw[hW hp];refine Ok.idx (by omega) (by omega) λx hx he=>Ok.bind_pure (Ok.pure (hP.set (x:=⟨x.Nest,[]⟩) ⟨(p2 x hx).bp.1,by show 0<=100000;omega,λ_ h=>by cases h⟩ _))
theorem SE.be:∀{n:Nat}{e:zF},SE n e->BE n e
 | 0,e,⟨h1,h2,h3⟩=>⟨by have:=h1.1;unfold BA;omega,⟨by have:=h2.2.1;omega,λa ha=>by have:=(h2.2.2 a ha).1;unfold BA;omega⟩,h3⟩
 | n+1,e,⟨h1,h2,h3,h4⟩=>⟨by have:=h1.1;unfold BA;omega,⟨by have:=h2.2.1;omega,λa ha=>by have:=(h2.2.2 a ha).1;unfold BA;omega⟩,by omega,λk hk=>SE.be (h4 k hk)⟩
theorem SS.qs{s:zQ}(h:SS s):QS 100 s:=by
 obtain⟨h1,h2⟩:=h;have hb:=SE.be h2;exact⟨⟨h1.2.1,λa ha=>by have:=(h1.2.2 a ha).1;unfold BA;omega⟩,hb.1,hb.2.1,by have:=h2.2.2.1;omega,λk hk=>BE.up (n:=4) (m:=6) (hb.2.2.2 k hk) (by omega)⟩
theorem LL.ql{l:List zA}(h:LL l):QL 100 l:=⟨h.1,λa ha=>by have:=(h.2 a ha).1;unfold BA;omega⟩
theorem SG.dp{P:zD}(h:SG 1000 P):DP P:=by
 obtain⟨⟨h1,h2⟩,h3,h4⟩:=h;refine⟨⟨h1,λa ha=>by have:=(h2 a ha).2;omega⟩,h3,λx hx=>?_⟩;obtain⟨⟨k1,k2⟩,k3,k4⟩:=h4 x hx;exact⟨⟨by omega,λy hy=>⟨(k2 y hy).1.ql,(k2 y hy).2.ql⟩⟩,k3,λs hs=>(k4 s hs).qs⟩
theorem drawProg(code:List UInt8):Ok (rW code) (λy=>BG y/\AR y.Arrays):=by
 unfold rW;refine Ok.call (zIg code) trivial λs hs=>Ok.call (zJ7 s) ⟨by omega,by omega⟩ λa t g1 g2 g3=>?_;refine Ok.bind (mut4 t a g1.dp (by omega) (by omega)) λp hp=>?_;obtain⟨p1,p2⟩:=p;exact Ok.pure hp.1
end Go.LN
namespace Go.LN
theorem zLf{A:List zG}{x:zN}(h:partB A x=true):(nestPts x.Nest).1=pts x.Nest []/\nestB x.Nest=true/\(pts x.Nest []).length<=120:=by
 simp only[partB,bA] at h;have h1:=h.1.1;unfold nestPts at h1 ⊢;split at h1
 ·rename_i hc;rw[if_pos hc];exact⟨rfl,hc.1,hc.2.2⟩
 ·cases h1
theorem zIx(P:zD)(i:Nat)(hi:i<P.Parts.length)(y:List (List Int))(k:Nat)(hk:k<y.length)(hq:y[k].length<=4)(hb:P.Parts[i].Body.length<=4):
 ∀(j s:Nat) (o:List zM),s+j=P.Parts[i].Body.length->o.length+j<=1000000->wI P (i:Int) y (k:Int) o (s:Int)=some (o++instR (i:Int) y[k] s j):=by
 intro j
 induction j with
 | zero=>
  intro s o hs ho
  rw[wI]
  have:¬((s:Int)<(P.Parts[i].Body.length:Int)):=by omega
  simp only[yM hi,this,dF,bF,if_false,oB,oS,oP]
  simp[instR]
 | succ j ih=>
  intro s o hs ho
  rw[wI]
  have hc:((s:Int)<(P.Parts[i].Body.length:Int)):=by omega
  have hpn:app 8 ([]:List Int) y[k]=some y[k]:=dO _ (by omega)
  have happ:app 40 o [(⟨(i:Int),(s:Int),y[k]⟩:zM)]=some (o++[⟨(i:Int),(s:Int),y[k]⟩]):=qT (by simp;omega)
  simp only[yM hi,hc,dT,if_true,yM hk,oB,oS,hpn,happ]
  rw[wL (by omega),ih (s+1) _ (by omega) (by simp;omega),co]
  simp only[instR,da,cO,fk]
theorem zIy(P:zD)(i:Nat)(hi:i<P.Parts.length)(y:List (List Int))(hy:y.length<=120)(hq:∀q∈y,q.length<=4)(hb:P.Parts[i].Body.length<=4):
 ∀(j k:Nat) (o:List zM),k+j=y.length->o.length+4*j<=1000000->wJ P (i:Int) y o (k:Int)=some (o++(y.drop k).flatMap λq=>instR (i:Int) q 0 P.Parts[i].Body.length):=by
 intro j
 induction j with
 | zero=>
  intro k o hk ho
  rw[wJ]
  have:¬((k:Int)<(y.length:Int)):=by omega
  simp only[this,dF,bF,if_false]
  rw[show y.drop k=[] from dN.2 (by omega)]
  simp
 | succ j ih=>
  intro k o hk ho
  rw[wJ]
  have aw:k<y.length:=by omega
  have hc:((k:Int)<(y.length:Int)):=by omega
  have h3:=zIx P i hi y k aw (hq _ (gM aw)) hb P.Parts[i].Body.length 0 o (cm _) (by omega)
  rw[nZ] at h3
  simp only[hc,dT,if_true,oB,oS,h3]
  rw[wL (by omega),ih (k+1) _ (by omega) (by rw[lA,zEl];omega),gC aw,ci,co]
theorem zEq(P:zD)(hP:P.Parts.length<=4)(hb:∀i,i<P.Parts.length->partB P.Arrays (gP P i)=true):
 ∀(j i:Nat) (o:List zM),i+j=P.Parts.length->o.length<=480*i->wK P o (i:Int)=some (o++(List.range' i j).flatMap λ(i:Nat)=>partI (i:Int) (gP P i)):=by
 intro j
 induction j with
 | zero=>
  intro i o hi ho
  rw[wK]
  have:¬((i:Int)<(P.Parts.length:Int)):=by omega
  simp[this]
 | succ j ih=>
  intro i o hi ho
  rw[wK]
  have aw:i<P.Parts.length:=by omega
  have hc:((i:Int)<(P.Parts.length:Int)):=by omega
  have hg:gP P i=P.Parts[i]:=by simp[gP,aw]
  have hp:=hb i aw
  rw[hg] at hp
  obtain⟨p1,p2,p3⟩:=zLf hp
  obtain⟨n1,n2⟩:=zF0 p2
  have hpp:=hp
  simp only[partB,bA] at hpp
  obtain⟨_,q2,_⟩:=zBQ hpp.1.2
  have hpts:=specPts P.Parts[i].Nest P.Parts[i].Nest [] [] n2 rfl (by simp) n1 (by simp)
  rw[cr,dc (by omega)] at hpts
  have h2:=zIy P i aw (pts P.Parts[i].Nest []) p3 (λq hq=>by have:=zHw _ _ q hq;simp at this;omega) q2 _ 0 o (cm _) (by omega)
  rw[nZ,cq] at h2
  simp only[hc,dT,if_true,yM aw,oB,oS,hpts,h2]
  have hI:((pts P.Parts[i].Nest []).flatMap λq=>instR (i:Int) q 0 P.Parts[i].Body.length)=partI (i:Int) P.Parts[i]:=by rw[partI,p1]
  have bJ:=zG1 (i:Int) hp
  rw[hI,wL (by omega),ih (i+1) _ (by omega) (by rw[lA];omega),da,ci,hg,co]
theorem uC{P:zD}(h:validP P=true):arrB P.Arrays=true/\P.Parts.length<=4/\(∀i,i<P.Parts.length->partB P.Arrays (gP P i)=true)/\(progI P).length<=120:=by
 simp only[validP,progB,bA,decide_eq_true_eq] at h;obtain⟨⟨⟨h1,h2⟩,h3⟩,h4⟩:=h;exact⟨h1,h2,λi hi=>cj.1 h3 i (cY.2 ⟨ex _,by omega⟩),h4⟩
theorem specInst4(P:zD)(hv:validP P=true):uA P=some (progI P):=by
 obtain⟨_,v2,v3,_⟩:=uC hv;have hl:=zEq P v2 v3 _ 0 [] (cm _) (by simp);rw[nZ,cr] at hl;simp only[uA,hl,oB,oS,oP,id];rfl
theorem zK9(l:List Int)(h:l.length<=1048576):jM l l=some true:=by
 unfold jM;have hl:=fF (n:=l.length) (f:=pW l l) (P:=λ_=>true) (λi hi=>by
  rw[pW];have h1:((i:Int)<(l.length:Int)):=by omega
  simp only[h1,dT,if_true,yM hi,oB,oS,bne_self_eq_false,bF,if_false];rw[wL (by omega)]) (by rw[pW];simp)
 rw[hl];have:((List.range l.length).all λ_=>true)=true:=by simp
 simp[this]
end Go.LN
namespace Go.LN
def DA(x:zG):Prop:=(∃d,x.Dims=[d]/\1<=d/\d<=6)∨∃d e,x.Dims=[d,e]/\(1<=d/\d<=6)/\1<=e/\e<=6
theorem mul36{d e:Int}(h1:1<=d)(h2:d<=6)(h3:1<=e)(h4:e<=6):1<=d*e/\d*e<=36:=by
 have:d=1∨d=2∨d=3∨d=4∨d=5∨d=6:=by omega
 rcases this with rfl|rfl|rfl|rfl|rfl|rfl <;> omega
theorem zN3{x:zG}{d:Int}(h:x.Dims=[d])(h1:1<=d)(h2:d<=6):sizeF x=d:=by
 unfold sizeF;rw[h,szL,szL,Int.one_mul,sI (by omega) (by omega)]
theorem zN4{x:zG}{d e:Int}(h:x.Dims=[d,e])(h1:1<=d)(h2:d<=6)(h3:1<=e)(h4:e<=6):sizeF x=d*e:=by
 unfold sizeF;have:=mul36 h1 h2 h3 h4;rw[h,szL,szL,szL,Int.one_mul,sI (x:=d) (by omega) (by omega),sI (by omega) (by omega)]
theorem DA.size{x:zG}(h:DA x):1<=sizeF x/\sizeF x<=36:=by
 rcases h with⟨d,h,h1,h2⟩|⟨d,e,h,⟨h1,h2⟩,h3,h4⟩
 ·rw[zN3 h h1 h2];omega
 ·rw[zN4 h h1 h2 h3 h4];exact mul36 h1 h2 h3 h4
def nm(l:List zG)(i:Nat):Nat:=match (l.getD i ⟨⟨[]⟩,[]⟩).Name.l with|c::_=>c.toNat|[]=>0
end Go.LN
namespace Go.LN
def permL(n:Nat):List Int->List Bool->Bool
 | [],_=>true
 | x::l,seen=>if 0<=x/\x<(n:Int)/\seen.getD x.toNat true=false then permL n l (seen.set x.toNat true) else false
theorem zHV(s:List Bool)(i:Nat):(s.set i true).getD i true=true:=by
 rw[cF,ee];by_cases h:i<s.length <;> simp[h]
theorem zG3(s:List Bool){i j:Nat}(h:i ≠ j):(s.set i true).getD j true=s.getD j true:=by
 rw[cF,ee,if_neg h,<- cF]
theorem zIz(n:Nat):∀(l:List Int) (seen:List Bool),permL n l seen=true↔(∀x∈l,0<=x/\x<(n:Int)/\seen.getD x.toNat true=false)/\l.Nodup
 | [],seen=>by simp[permL]
 | x::l,seen=>by
  rw[permL]
  by_cases hx:0<=x/\x<(n:Int)/\seen.getD x.toNat true=false
  ·rw[if_pos hx,zIz n l _,eq]
   constructor
   ·rintro⟨h1,h2⟩
    refine⟨λy hy=>?_,λhm=>?_,h2⟩
    ·rcases cE.1 hy with e|hy
     ·rw[e];exact hx
     ·obtain⟨k1,k2,k3⟩:=h1 y hy
      refine⟨k1,k2,?_⟩
      by_cases e:x.toNat=y.toNat
      ·rw[e,zHV] at k3;cases k3
      ·rwa[zG3 _ e] at k3
    ·have:=(h1 x hm).2.2
     rw[zHV] at this;cases this
   ·rintro⟨h1,h2,h3⟩
    refine⟨λy hy=>?_,h3⟩
    obtain⟨k1,k2,k3⟩:=h1 y (cg _ hy)
    refine⟨k1,k2,?_⟩
    have e:x.toNat ≠ y.toNat:=λe=>by
     have:x=y:=by have:=hx.1;omega
     exact h2 (this ▸ hy)
    rw[zG3 _ e];exact k3
  ·rw[if_neg hx]
   constructor
   ·intro h;cases h
   ·rintro⟨h1,_⟩
    exact absurd (h1 x (ce ..)) hx
def permB(n:Nat)(l:List Int):Bool:=permL n l (List.replicate n false)&&decide (l.length=n)
theorem fM(n:Nat)(l:List Int):permB n l=true↔((∀x∈l,0<=x/\x<(n:Int))/\l.Nodup)/\l.length=n:=by
 unfold permB;rw[bA,zIz,decide_eq_true_eq];constructor
 ·rintro⟨⟨h1,h2⟩,h3⟩;exact⟨⟨λx hx=>⟨(h1 x hx).1,(h1 x hx).2.1⟩,h2⟩,h3⟩
 ·rintro⟨⟨h1,h2⟩,h3⟩;refine⟨⟨λx hx=>⟨(h1 x hx).1,(h1 x hx).2,?_⟩,h2⟩,h3⟩;have:=h1 x hx;have aw:x.toNat<n:=by omega
  rw[cF,List.getElem?_replicate,if_pos aw];rfl
def swp(l:List Int)(k:Nat)(a b:Int):List Int:=(l.set k b).set (k+1) a
theorem zNu{l:List Int}{k:Nat}(h:k+1<l.length){i:Nat}(hi:i<l.length):∃j,∃hj:j<l.length,(swp l k l[k] l[k+1])[i]?=some l[j]/\j=(if i=k then k+1 else if i=k+1 then k else i):=by
 unfold swp;by_cases h1:i=k
 ·subst h1;refine⟨i+1,h,?_,by simp⟩;rw[ee,if_neg (by omega),ee,if_pos rfl,if_pos hi]
 ·by_cases h2:i=k+1
  ·subst h2;refine⟨k,by omega,?_,by simp⟩;rw[ee,if_pos rfl,if_pos (by rw[cL];exact hi)]
  ·refine⟨i,hi,?_,by simp[h1,h2]⟩;rw[ee,if_neg (by omega),ee,if_neg (by omega),cd hi]
end Go.LN
namespace Go.LN
theorem zJ9(n:Nat)(hn:n<=1000000)(l:List Int)(hl:l.length<=1048576):∀(j i:Nat) (seen:List Bool),i+j=l.length->seen.length=n->qR l (n:Int) seen (i:Int)=some (if permL n (l.drop i) seen=true then .done () else .ret false):=by
 intro j
 induction j with
 | zero=>
  intro i seen hi hs;rw[qR];have:¬((i:Int)<(l.length:Int)):=by omega
  simp only[this,dF,bF,if_false];rw[dN.2 (by omega)];rfl
 | succ j ih=>
  intro i seen hi hs;rw[qR];have aw:i<l.length:=by omega
  have hc:((i:Int)<(l.length:Int)):=by omega
  rw[gC aw,permL];have hW:W ((n:Int) - 1)=(n:Int) - 1:=sI (by omega) (by omega);simp only[hc,dT,if_true,yM aw,oB,oS,oN,hW];by_cases hr:0<=l[i]/\l[i]<(n:Int)
  ·obtain⟨k,hk⟩:∃k:Nat,l[i]=(k:Int):=⟨l[i].toNat,by omega⟩;have hks:k<seen.length:=by omega
   have hg:seen.getD k true=seen[k]:=by simp[hks]
   have h1:(0:Int)<=(k:Int):=by omega
   have h2:(k:Int)<=(n:Int) - 1:=by omega
   have h3:(k:Int)<(n:Int):=by omega
   rw[hk];simp only[h1,h2,h3,dT,fo,bT,bF,if_false,yM hks,oP,oS,id,iN,hg,true_and];cases hb:seen[k] with
   | true=>simp
   | false=>
    simp only[bF,if_false,if_true];rw[wL (by omega),ih (i+1) _ (by omega) (by rw[cL];exact hs)]
  ·have h4:(!(decide (0<=l[i])&&decide (l[i]<=(n:Int) - 1)))=true:=by
    simp;omega
   have h5:¬(0<=l[i]/\l[i]<(n:Int)/\seen.getD l[i].toNat true=false):=λh=>hr ⟨h.1,h.2.1⟩;simp only[h4,if_true,if_neg h5,oP,oS,bF,if_false]
theorem zN5(n:Nat)(hn:n<=1000000):mkrow 1 (n:Int) (false:Bool)=some (List.replicate n false):=by
 unfold mkrow;rw[if_pos ⟨by omega,by omega⟩,iN]
theorem implPerm(n:Nat)(hn:n<=1000000)(l:List Int)(hl:l.length<=1048576):gJ l (n:Int)=some (permB n l):=by
 unfold gJ permB;have h:=zJ9 n hn l hl l.length 0 (List.replicate n false) (cm _) (d5 ..);rw[nZ,cq] at h;simp only[zN5 n hn,h,oB,oS];cases permL n l (List.replicate n false)
 ·rfl
 ·simp;by_cases e:l.length=n
  ·simp[e]
  ·have:¬((l.length:Int)=(n:Int)):=by omega
   simp[e,this]
theorem specInsts(P:zD)(hv:validP P=true):uA P=some (progI P):=by
 obtain⟨_,v2,v3,_⟩:=uC hv;have hl:=zEq P v2 v3 _ 0 [] (cm _) (by simp);rw[nZ,cr] at hl;simp only[oB,oS,uA,hl,oP,id];rfl
theorem implOrd(P:zD)(h:BG P)(l:List Int)(hl:l.length<=1048576):mO P l=some (validP P&&permB (progI P).length l):=by
 unfold mO;rw[implInstances P h];unfold validP;cases progB P with
 | false=>rfl
 | true=>
  by_cases hk:(progI P).length<=120
  ·simp[hk,implPerm (progI P).length (by omega) l hl]
  ·simp[hk]
end Go.LN
namespace Go.LN
def c0(n:Int):zA:=⟨[0,0,0,0],n⟩
end Go.LN
namespace Go.LN
theorem zJA{P:zD}(h:BG P)(hv:validP P=true):RVa P.Arrays:=by
 simp only[validP,progB,bA] at hv;exact RVa.of h.1 hv.1.1.1
theorem zN6{p:List Int}(h:ptB p=true):p.length<=4:=by
 simp only[ptB,bA,decide_eq_true_eq] at h;exact h.1
end Go.LN
namespace Go.LN
theorem zJB:∀{k:Nat}{a v:Int},v∈rngK k a↔a<=v/\v<a+(k:Int)
 | 0,a,v=>by simp[rngK]
 | k+1,a,v=>by rw[rngK,cE,zJB];omega
theorem zM8{a b v:Int}:v∈rng a b↔a<=v/\v<b:=by
 unfold rng;rw[zJB];omega
def inP:List zE->List Int->List Int->Prop
 | [],_,[]=>True
 | l::ls,p,v::r=>(loF l p<=v/\v<hiF l p)/\inP ls (p++[v]) r
 | _,_,_=>False
theorem zKB:∀{ls:List zE}{p q:List Int},q∈pts ls p->∃r,q=p++r/\inP ls p r
 | [],p,q,h=>by
  rw[pts,cx] at h
  exact⟨[],by rw[h,cu],trivial⟩
 | l::ls,p,q,h=>by
  rw[pts,cw] at h
  obtain⟨v,hv,hq⟩:=h
  obtain⟨r,e,hr⟩:=zKB hq
  exact⟨v::r,by rw[e,co];rfl,zM8.1 hv,hr⟩
def Ch{α:Type}(R:α->α->Prop):List α->Prop
 | a::b::l=>R a b/\Ch R (b::l)
 | _=>True
theorem Ch.append{α:Type}{R:α->α->Prop}:∀{l m:List α},Ch R l->Ch R m->(∀a∈l,∀b∈m,R a b)->Ch R (l++m)
 | [],m,_,h2,_=>h2
 | [a],[],_,_,_=>trivial
 | [a],b::m,_,h2,h=>⟨h a (ce ..) b (ce ..),h2⟩
 | a::b::l,m,h1,h2,h=>⟨h1.1,Ch.append (l:=b::l) h1.2 h2 λx hx=>h x (cg _ hx)⟩
theorem Ch.flat{α β:Type}{R:β->β->Prop}{f:α->List β}:∀{l:List α},(∀x∈l,Ch R (f x))->(l.Pairwise λx y=>∀a∈f x,∀b∈f y,R a b)->Ch R (l.flatMap f)
 | [],_,_=>trivial
 | x::l,h1,h2=>by
  rw[ci]
  have h2':=List.pairwise_cons.1 h2
  refine Ch.append (h1 x (ce ..)) (Ch.flat (λy hy=>h1 y (cg _ hy)) h2'.2) λa ha b hb=>?_
  obtain⟨y,hy,hb⟩:=cw.1 hb
  exact h2'.1 y hy a ha b hb
theorem Ch.get{α:Type}{R:α->α->Prop}:∀{l:List α} (i:Nat) (h:i+1<l.length),Ch R l->R l[i] l[i+1]
 | a::b::l,0,_,hc=>hc.1
 | a::b::l,i+1,h,hc=>Ch.get (l:=b::l) i (by simpa using h) hc.2
 | [a],i,h,_=>by simp at h
 | [],i,h,_=>by simp at h
theorem zKa{k:Int}{q:List Int}{i j:Nat}{z:zM}(h:z∈instR k q i j):z.Part=k/\z.Point=q/\∃s:Nat,z.Stmt=(s:Int)/\s<i+j:=by
 unfold instR at h;obtain⟨s,hs,rfl⟩:=ey.1 h;exact⟨rfl,rfl,s,rfl,(cY.1 hs).2⟩
end Go.LN
namespace Go.LN
theorem zJa{P:zD}(h:validP P=true){i:Nat}(hi:i<P.Parts.length):partB P.Arrays P.Parts[i]=true:=by
 simp only[validP,progB,bA,decide_eq_true_eq] at h;have:=cj.1 h.1.2 i (cY.2 ⟨ex _,by omega⟩);have hg:gP P i=P.Parts[i]:=by simp[gP,hi]
 rwa[hg] at this
theorem zM9{nest:List zE}{q:List Int}(h:q∈(nestPts nest).1):nestB nest=true/\inP nest [] q:=by
 unfold nestPts at h;split at h
 ·rename_i hc;obtain⟨r,e,hr⟩:=zKB h;rw[cr] at e;exact⟨hc.1,e ▸ hr⟩
 ·cases h
theorem zKb{P:zD}(h:validP P=true){z:zM}(hz:z∈progI P):∃(i s:Nat) (hi:i<P.Parts.length) (hs:s<P.Parts[i].Body.length),z.Part=(i:Int)/\z.Stmt=(s:Int)/\nestB P.Parts[i].Nest=true/\inP P.Parts[i].Nest [] z.Point/\ptB z.Point=true/\stOk P.Arrays P.Parts[i].Body[s] z.Point=true/\stmtB P.Parts[i].Body[s] (P.Parts[i].Nest.length:Int)=true:=by
 unfold progI at hz;obtain⟨i,hi,hz⟩:=cw.1 hz;have hi:i<P.Parts.length:=by have:=(cY.1 hi).2;omega
 have hg:gP P i=P.Parts[i]:=by simp[gP,hi]
 rw[hg] at hz;have hp:=zJa h hi;unfold partI at hz;obtain⟨q,hq,hz⟩:=cw.1 hz;obtain⟨z1,z2,s,z3,hs⟩:=zKa hz;have hs:s<P.Parts[i].Body.length:=by omega
 obtain⟨n1,n2⟩:=zM9 hq;simp only[partB,bA] at hp;have hq2:=cj.1 hp.2 q hq;rw[bA] at hq2;refine⟨i,s,hi,hs,z1,z3,n1,?_,?_,?_,?_⟩
 ·rw[z2];exact n2
 ·rw[z2];exact hq2.1
 ·rw[z2];exact cj.1 hq2.2 _ (gM hs)
 ·exact(zBQ hp.1.2).2.2 _ (gM hs)
end Go.LN
namespace Go.LN
end Go.LN
namespace Go.LN
theorem zJb(P:zD)(x:zM)(ys:List zI)(hy:ys.length<=1048576)(ha:∀a∈ys,AV a)(hp:x.Point.length<=4)(hR:RVa P.Arrays):∀(j i:Nat) (o:List Int),i+j=ys.length->o.length=i->vE P x ys o (i:Int)=some (o++(ys.drop i).map (cellA P.Arrays x.Point)):=by
 intro j
 induction j with
 | zero=>
  intro i o hi ho;rw[vE];have:¬((i:Int)<(ys.length:Int)):=by omega
  simp only[this,dF,bF,if_false,oP,id];rw[dN.2 (by omega),eo,cu]
 | succ j ih=>
  intro i o hi ho;rw[vE];have aw:i<ys.length:=by omega
  have hc:((i:Int)<(ys.length:Int)):=by omega
  simp only[hc,dT,if_true,yM aw,implCell P ys[i] x.Point (ha _ (gM aw)) hp hR,oB,oS,qT (show (o.length+[cellF ys[i] x.Point P.Arrays 0].length)*8<=140737488355328 by simp;omega)];rw[wL (by omega),ih (i+1) _ (by omega) (by rw[lA];simp;omega),gC aw,cO,co];rfl
end Go.LN
namespace Go.LN
def STz:zQ:=zQ.mk (zI.mk ⟨[]⟩ []) EXz
def stI(P:zD)(z:zM):zQ:=(gP P z.Part.toNat).Body.getD z.Stmt.toNat STz
def rdI(P:zD)(z:zM):List Int:=(readsF 5 (stI P z).Value).map (cellA P.Arrays z.Point)
def wrI(P:zD)(z:zM):Int:=cellA P.Arrays z.Point (stI P z).Write
structure InP(P:zD)(z:zM):Prop where
 idxP:idx P.Parts z.Part=some (gP P z.Part.toNat)
 idxS:idx (gP P z.Part.toNat).Body z.Stmt=some (stI P z)
 part:0<=z.Part/\z.Part<(P.Parts.length:Int)
 stmt:0<=z.Stmt/\z.Stmt<((gP P z.Part.toNat).Body.length:Int)
 pin:BN (gP P z.Part.toNat).Nest/\nestB (gP P z.Part.toNat).Nest=true/\ptB z.Point=true/\inP (gP P z.Part.toNat).Nest [] z.Point
 pt:z.Point.length<=4
 bs:BS (stI P z)
 st:∃d,stmtB (stI P z) d=true
 ok:stOk P.Arrays (stI P z) z.Point=true
theorem zG4{P:zD}(hb:BG P)(h:validP P=true){z:zM}(hz:z∈progI P):InP P z:=by
 obtain⟨i,s,hi,hs,z1,z2,hn,hin,hpt,hst,hsb⟩:=zKb h hz;have hbp:=hb.2.2 _ (gM hi);have hg:gP P z.Part.toNat=P.Parts[i]:=by rw[z1,iN];simp[gP,hi]
 have hS:stI P z=P.Parts[i].Body[s]:=by unfold stI;rw[hg,z2,iN];simp[hs]
 refine⟨?_,?_,by rw[z1];omega,by rw[hg,z2];omega,?_,zN6 hpt,?_,?_,?_⟩
 ·rw[hg,z1,yM hi]
 ·rw[hS,hg,z2,yM hs]
 ·rw[hg];exact⟨hbp.1,hn,hpt,hin⟩
 ·rw[hS];exact hbp.2.2 _ (gM hs)
 ·rw[hS];exact⟨_,hsb⟩
 ·rw[hS];exact hst
theorem zF1{P:zD}{z:zM}(h:InP P z):(rdI P z).length<=32:=by
 obtain⟨d,hd⟩:=h.st;have:=jD 5 (stI P z).Value (zBP hd).2.1;unfold rdI;rw[lM];omega
theorem touchedV{P:zD}(hb:BG P)(hv:validP P=true){z:zM}(h:InP P z):qQ P z=some (rdI P z,wrI P z):=by
 obtain⟨d,hd⟩:=h.st;obtain⟨s1,s2,s3⟩:=zBP hd;have hR:=zJA hb hv;have hrd:=implReads 5 (stI P z).Value s2 (by omega);have hrl:=jD 5 (stI P z).Value s2;have htl:=zJb P z (readsF 5 (stI P z).Value) (by omega) s3 h.pt hR _ 0 [] (cm _) rfl;rw[nZ,cq,cr] at htl;have hw:=implCell P (stI P z).Write z.Point s1 h.pt hR;unfold qQ kD;simp only[h.idxP,h.idxS,hrd,htl,hw,oB,oS,oP,id];rfl
def trcP(P:zD):tX:=⟨P,progI P,(progI P).map (rdI P),(progI P).map (wrI P)⟩
theorem zLg{P:zD}(hb:BG P)(hv:validP P=true):∀(j i:Nat) (rs:List (List Int)) (ws:List Int),i+j=(progI P).length->rs.length=i->ws.length=i->oX P (progI P) (i:Int) rs ws=some (rs++((progI P).drop i).map (rdI P),ws++((progI P).drop i).map (wrI P)):=by
 have aG:=(uC hv).2.2.2;intro j
 induction j with
 | zero=>
  intro i rs ws hi hr hw;rw[oX];have:¬((i:Int)<((progI P).length:Int)):=by omega
  simp only[this,dF,bF,if_false,oP];rw[dN.2 (by omega),eo,eo,cu,cu]
 | succ j ih=>
  intro i rs ws hi hr hw;rw[oX];have aw:i<(progI P).length:=by omega
  have hc:((i:Int)<((progI P).length:Int)):=by omega
  have hz:=zG4 hb hv (gM aw);simp only[hc,dT,if_true,yM aw,touchedV hb hv hz,oB,oS,qT (show (rs.length+[rdI P (progI P)[i]].length)*24<=140737488355328 by simp;omega),qT (show (ws.length+[wrI P (progI P)[i]].length)*8<=140737488355328 by simp;omega)];rw[wL (by omega),ih (i+1) _ _ (by omega) (by rw[lA];simp;omega) (by rw[lA];simp;omega),gC aw,cO,cO,co,co];rfl
theorem implTrace(P:zD)(hb:BG P):gQ P=some (if validP P then(some (trcP P),true) else(none,false)):=by
 unfold gQ;rw[implInstances P hb];cases hv:validP P with
 | false=>
  unfold validP at hv;cases hp:progB P with
  | false=>rfl
  | true=>
   rw[hp,cz] at hv;simp[hv]
 | true=>
  have hv':=hv;unfold validP at hv';rw[bA] at hv';have hl:=zLg hb hv _ 0 [] [] (cm _) rfl rfl;rw[nZ,cq,cr,cr] at hl;simp only[hv'.1,hv'.2,if_true,oB,oS,bT,bF,if_false,hl,oP];rfl
def useI(P:zD)(z:zM):xG:=⟨rdI P z,wrI P z⟩
theorem zMa{P:zD}(hb:BG P)(hv:validP P=true):∀(j i:Nat) (o:List xG),i+j=(progI P).length->o.length=i->tK P (progI P) o (i:Int)=some (o++((progI P).drop i).map (useI P)):=by
 have aG:=(uC hv).2.2.2;have hR:=zJA hb hv;intro j
 induction j with
 | zero=>
  intro i o hi ho;rw[tK];have:¬((i:Int)<((progI P).length:Int)):=by omega
  simp only[this,dF,bF,if_false,oP,id];rw[dN.2 (by omega),eo,cu]
 | succ j ih=>
  intro i o hi ho;rw[tK];have aw:i<(progI P).length:=by omega
  have hc:((i:Int)<((progI P).length:Int)):=by omega
  have hz:=zG4 hb hv (gM aw);obtain⟨d,hd⟩:=hz.st;have bZ:=specCells P.Arrays (stI P (progI P)[i]) (progI P)[i].Point hd hz.bs hz.pt hR;rw[if_pos hz.ok] at bZ;simp only[hc,dT,if_true,yM aw,hz.idxP,hz.idxS,bZ,oB,oS,qT (show (o.length+[xG.mk ((readsF 5 (stI P (progI P)[i]).Value).map (cellA P.Arrays (progI P)[i].Point)) (cellA P.Arrays (progI P)[i].Point (stI P (progI P)[i]).Write)].length)*32<=140737488355328 by simp;omega)];rw[wL (by omega),ih (i+1) _ (by omega) (by rw[lA];simp;omega),gC aw,cO,co];rfl
theorem specUses(P:zD)(hb:BG P)(hv:validP P=true):mZ P=some ((progI P).map (useI P)):=by
 unfold mZ;have hl:=zMa hb hv _ 0 [] (cm _) rfl;rw[nZ,cq,cr] at hl;simp only[specInsts P hv,hl,oB,oS,oP,id]
end Go.LN
namespace Go.LN
def hasB(l:List Int)(n:Int):Bool:=l.any (λx=>x==n)
theorem zKc(x:Int)(l:List Int)(n:Int):hasB (x::l) n=(x==n||hasB l n):=by unfold hasB;rw[List.any_cons]
def kindF(r1:List Int)(w1:Int)(r2:List Int)(w2:Int):Int:=(if hasB r2 w1 then 1 else 0)+(if hasB r1 w2 then 2 else 0)+(if w1==w2 then 4 else 0)
theorem zKd(r1:List Int)(w1:Int)(r2:List Int)(w2:Int):0<=kindF r1 w1 r2 w2/\kindF r1 w1 r2 w2<=7:=by
 unfold kindF;cases hasB r2 w1 <;> cases hasB r1 w2 <;> cases (w1==w2) <;> simp
theorem zLh{R:Type}{r0:R}{n:Nat}{f:Int->Option (Out Unit R)}{P:Nat->Bool}(step:∀i,i<n->f (i:Int)=if P i then some (.ret r0) else f ((i+1:Nat):Int))(fin:f (n:Int)=some (.done ())):f 0=some (if(List.range n).any P then .ret r0 else .done ()):=by
 have key:∀(j i:Nat),i+j=n->f (i:Int)=some (if(List.range' i j).any P then .ret r0 else .done ()):=by
  intro j
  induction j with
  | zero=>intro i hi;rw[show i=n by omega,fin];simp
  | succ j ih=>
   intro i hi;rw[step i (by omega),ih (i+1) (by omega),da,List.any_cons];cases P i <;> rfl
 have:=key n 0 (cm _);rw[nZ] at this;rw[this,List.range_eq_range']
theorem zKe{α:Type}(l:List α)(P:α->Bool)(d:α):(List.range l.length).any (λi=>P (l.getD i d))=l.any P:=by
 rw[fu,fb,fb];constructor
 ·rintro⟨i,hi,h⟩;have hi:=cA.1 hi;have hg:l.getD i d=l[i]:=by simp[hi]
  rw[hg] at h;exact⟨_,gM hi,h⟩
 ·rintro⟨x,hx,h⟩;obtain⟨i,hi,rfl⟩:=ed.1 hx;exact⟨i,cA.2 hi,by simpa [hi] using h⟩
end Go.LN
namespace Go.LN
theorem specHas(l:List Int)(n:Int)(hl:l.length<=1048576):gR l n=some (hasB l n):=by
 unfold gR;have h:=zLh (R:=Bool) (r0:=true) (n:=l.length) (f:=oY l n) (P:=λi=>l.getD i 0==n) (λi hi=>by
  rw[oY];have h1:((i:Int)<(l.length:Int)):=by omega
  have hg:l.getD i 0=l[i]:=by simp[hi]
  simp only[h1,dT,if_true,yM hi,oB,oS,oP,hg];rw[wL (by omega)]) (by rw[oY];simp)
 rw[zKe l (λx=>x==n) 0] at h;rw[h];unfold hasB;cases l.any λx=>x==n <;> rfl
theorem zMb(l:List Int)(v:Int)(hl:l.length<=1048576):∀(j i:Nat),i+j=l.length->∃x,vG l v (i:Int)=some x/\((hasB (l.drop i) v=true/\∃k:Nat,x=.ret (k:Int))∨(hasB (l.drop i) v=false/\x=.done ())):=by
 intro j
 induction j with
 | zero=>
  intro i hi;rw[vG];have:¬((i:Int)<(l.length:Int)):=by omega
  refine⟨_,by simp only[this,dF,bF,if_false,oP],.inr ⟨?_,rfl⟩⟩;rw[dN.2 (by omega)];rfl
 | succ j ih=>
  intro i hi;rw[vG];have aw:i<l.length:=by omega
  have hc:((i:Int)<(l.length:Int)):=by omega
  rw[gC aw,zKc];by_cases e:v=l[i]
  ·refine⟨_,by simp only[hc,dT,if_true,yM aw,oB,oS,oP,e,bQ],.inl ⟨?_,i,rfl⟩⟩;rw[e,bQ,Bool.true_or]
  ·have e1:(v==l[i])=false:=by simpa using e
   have e2:(l[i]==v)=false:=by simpa using λh=>e h.symm
   obtain⟨x,hx,hr⟩:=ih (i+1) (by omega);refine⟨x,?_,by rw[e2,ff];exact hr⟩;simp only[hc,dT,if_true,yM aw,oB,oS,oP,e1,bF,if_false];rw[wL (by omega),hx]
theorem containsV(l:List Int)(v:Int)(hl:l.length<=1048576):uZ l v=some (hasB l v):=by
 unfold uZ nG;obtain⟨x,hx,hr⟩:=zMb l v hl l.length 0 (cm _);rw[nZ] at hx;rw[cq] at hr;rw[hx];rcases hr with⟨h,k,rfl⟩|⟨h,rfl⟩
 ·have:((k:Int)>=0):=by omega
  simp[h,this]
 ·rw[h];rfl
def zIns(P:zD)(a:Nat):zM:=(progI P).getD a ⟨0,0,[]⟩
theorem zHx{P:zD}{a:Nat}(h:a<(progI P).length):zIns P a=(progI P)[a]:=by simp[zIns,h]
theorem zKC{P:zD}{a:Nat}(h:a<(progI P).length):zIns P a∈progI P:=by rw[zHx h];exact gM h
theorem zJC{P:zD}{a:Nat}(h:a<(progI P).length):idx ((progI P).map (rdI P)) (a:Int)=some (rdI P (zIns P a)):=by rw[yM (by rw[lM];exact h),zHx h];simp
theorem zHW{P:zD}{a:Nat}(h:a<(progI P).length):idx ((progI P).map (wrI P)) (a:Int)=some (wrI P (zIns P a)):=by rw[yM (by rw[lM];exact h),zHx h];simp
theorem zKD{P:zD}{a:Nat}(h:a<(progI P).length):idx ((progI P).map (useI P)) (a:Int)=some (useI P (zIns P a)):=by rw[yM (by rw[lM];exact h),zHx h];simp
def kindI(P:zD)(a b:Nat):Int:=kindF (rdI P (zIns P a)) (wrI P (zIns P a)) (rdI P (zIns P b)) (wrI P (zIns P b))
theorem betweenV{P:zD}(hi:∀z∈progI P,InP P z){a b:Nat}(ha:a<(progI P).length)(hb:b<(progI P).length):rA (trcP P) (a:Int) (b:Int)=some (kindI P a b):=by
 have l1:=zF1 (hi _ (zKC ha));have l2:=zF1 (hi _ (zKC hb));unfold rA kindI kindF;simp only[trcP,zJC ha,zJC hb,zHW ha,zHW hb,containsV _ _ (show (rdI P (zIns P a)).length<=1048576 by omega),containsV _ _ (show (rdI P (zIns P b)).length<=1048576 by omega),oB,oS,oP,id];by_cases e:wrI P (zIns P a)=wrI P (zIns P b)
 ·have e1:(wrI P (zIns P a)==wrI P (zIns P b))=true:=by simpa using e
  simp only[e1,if_true];cases hasB (rdI P (zIns P b)) (wrI P (zIns P a)) <;> cases hasB (rdI P (zIns P a)) (wrI P (zIns P b)) <;> rfl
 ·have e1:(wrI P (zIns P a)==wrI P (zIns P b))=false:=by simpa using e
  simp only[e1,bF,if_false];cases hasB (rdI P (zIns P b)) (wrI P (zIns P a)) <;> cases hasB (rdI P (zIns P a)) (wrI P (zIns P b)) <;> rfl
theorem kindsV{P:zD}(hi:∀z∈progI P,InP P z){a b:Nat}(ha:a<(progI P).length)(hb:b<(progI P).length):gI (useI P (zIns P a)) (useI P (zIns P b))=some (kindI P a b):=by
 have l1:=zF1 (hi _ (zKC ha));have l2:=zF1 (hi _ (zKC hb));unfold gI kindI kindF;simp only[useI,specHas _ _ (show (rdI P (zIns P a)).length<=1048576 by omega),specHas _ _ (show (rdI P (zIns P b)).length<=1048576 by omega),oB,oS,oP,id];by_cases e:wrI P (zIns P a)=wrI P (zIns P b)
 ·have e1:(wrI P (zIns P a)==wrI P (zIns P b))=true:=by simpa using e
  simp only[e1,if_true];cases hasB (rdI P (zIns P b)) (wrI P (zIns P a)) <;> cases hasB (rdI P (zIns P a)) (wrI P (zIns P b)) <;> rfl
 ·have e1:(wrI P (zIns P a)==wrI P (zIns P b))=false:=by simpa using e
  simp only[e1,bF,if_false];cases hasB (rdI P (zIns P b)) (wrI P (zIns P a)) <;> cases hasB (rdI P (zIns P a)) (wrI P (zIns P b)) <;> rfl
def dpb(P:zD)(a b:Int):Int:=if validP P=true/\0<=a/\a<b/\b<((progI P).length:Int) then kindI P a.toNat b.toNat else 0
theorem implDep(P:zD)(hb:BG P)(a b:Int):mN P a b=some (dpb P a b):=by
 unfold mN dpb;rw[implTrace P hb];cases hv:validP P with
 | false=>simp
 | true=>
  have aG:=(uC hv).2.2.2;have hi:∀z∈progI P,InP P z:=λz hz=>zG4 hb hv hz;have hW:W (((trcP P).list.length:Int) - 1)=((progI P).length:Int) - 1:=by show W (((progI P).length:Int) - 1)=_;rw[sI (by omega) (by omega)]
  simp only[if_true,oB,oS,oP,bT,bF,if_false,oN,hW,true_and,id];by_cases h:0<=a/\a<b/\b<((progI P).length:Int)
  ·rw[if_pos h];obtain⟨k,rfl⟩:∃k:Nat,a=(k:Int):=⟨a.toNat,by omega⟩;obtain⟨m,rfl⟩:∃m:Nat,b=(m:Int):=⟨b.toNat,by omega⟩;have e1:(0:Int)<=(k:Int):=by omega
   have e2:(k:Int)<=((progI P).length:Int) - 1:=by omega
   have e3:(0:Int)<=(m:Int):=by omega
   have e4:(m:Int)<=((progI P).length:Int) - 1:=by omega
   have e5:¬((k:Int)>=(m:Int)):=by omega
   simp only[e1,e2,e3,e4,e5,dT,dF,fo,bT,bF,if_false,oS,betweenV hi (show k<(progI P).length by omega) (show m<(progI P).length by omega),iN]
  ·rw[if_neg h];by_cases h1:0<=a/\a<=((progI P).length:Int) - 1
   ·by_cases h2:0<=b/\b<=((progI P).length:Int) - 1
    ·have e5:a>=b:=by omega
     simp only[h1.1,h1.2,h2.1,h2.2,e5,dT,fo,bT,bF,if_false,oS,if_true]
    ·have e4:(!(decide (0<=b)&&decide (b<=((progI P).length:Int) - 1)))=true:=by simp;omega
     simp only[h1.1,h1.2,e4,dT,fo,bT,bF,if_false,oS,if_true]
   ·have e4:(!(decide (0<=a)&&decide (a<=((progI P).length:Int) - 1)))=true:=by simp;omega
    simp only[e4,oS,if_true]
end Go.LN
namespace Go.LN
def dep1(P:zD)(i q:Nat):List zY:=if kindI P i q==0 then[] else[⟨(i:Int),(q:Int),kindI P i q⟩]
def depR(P:zD)(i k j:Nat):List zY:=(List.range' k j).flatMap λq=>dep1 P i q
def depA(P:zD)(i j:Nat):List zY:=(List.range' i j).flatMap λq=>depR P q (q+1) ((progI P).length - (q+1))
theorem zCG(P:zD)(i k j:Nat):depR P i k (j+1)=dep1 P i k++depR P i (k+1) j:=by unfold depR;rw[da,ci]
theorem zAv(P:zD)(i j:Nat):depA P i (j+1)=depR P i (i+1) ((progI P).length - (i+1))++depA P (i+1) j:=by unfold depA;rw[da,ci]
theorem zLi(P:zD)(i q:Nat):(dep1 P i q).length<=1:=by unfold dep1;split <;> simp
theorem zEA(P:zD)(i:Nat):∀(j k:Nat),(depR P i k j).length<=j
 | 0,k=>by simp[depR]
 | j+1,k=>by
  have h1:=zLi P i k
  have h2:=zEA P i j (k+1)
  rw[zCG,lA];omega
theorem zG5(P:zD):∀(j i:Nat),(depA P i j).length<=j*(progI P).length
 | 0,i=>by simp[depA]
 | j+1,i=>by
  have h1:=zEA P i ((progI P).length - (i+1)) (i+1)
  have h2:=zG5 P j (i+1)
  rw[zAv,lA,en,Nat.one_mul];omega
theorem zKf(P:zD)(a b:Nat):0<=kindI P a b/\kindI P a b<=7:=zKd _ _ _ _
theorem zMc{P:zD}(hi:∀z∈progI P,InP P z)(aG:(progI P).length<=120)(i:Nat)(hin:i<(progI P).length):∀(j k:Nat) (o:List zY),k+j=(progI P).length->o.length+j<=1000000->tR (trcP P) (i:Int) o (k:Int)=some (o++depR P i k j):=by
 intro j
 induction j with
 | zero=>
  intro k o hk ho;rw[tR];have:¬((k:Int)<((trcP P).list.length:Int)):=by show ¬((k:Int)<((progI P).length:Int));omega
  simp only[this,dF,bF,if_false,oP,id];simp[depR]
 | succ j ih=>
  intro k o hk ho;rw[tR,zCG];have aw:k<(progI P).length:=by omega
  have hc:((k:Int)<((trcP P).list.length:Int)):=by show ((k:Int)<((progI P).length:Int));omega
  have hr:=zKf P i k;simp only[hc,dT,if_true,betweenV hi hin aw,oB,oS,oP,id,qT (show (o.length+[zY.mk (i:Int) (k:Int) (kindI P i k)].length)*24<=140737488355328 by simp;omega)];rw[wL (by omega)];unfold dep1;by_cases h0:kindI P i k=0
  ·have e1:¬(kindI P i k>0):=by omega
   have e2:(kindI P i k==0)=true:=by simpa using h0
   simp only[e1,e2,dF,bF,if_false,if_true,oS,cr];exact ih (k+1) o (by omega) (by omega)
  ·have e1:kindI P i k>0:=by omega
   have e2:¬((kindI P i k==0)=true):=by simpa using h0
   simp only[e1,dT,if_true,oS];rw[if_neg e2,ih (k+1) _ (by omega) (by rw[lA];simp;omega),co]
theorem zMd{P:zD}(hi:∀z∈progI P,InP P z)(aG:(progI P).length<=120):∀(j i:Nat) (o:List zY),i+j=(progI P).length->o.length<=120*i->tS (trcP P) o (i:Int)=some (o++depA P i j):=by
 intro j
 induction j with
 | zero=>
  intro i o hij ho;rw[tS];have:¬((i:Int)<((trcP P).list.length:Int)):=by show ¬((i:Int)<((progI P).length:Int));omega
  simp only[this,dF,bF,if_false,oP,id];simp[depA]
 | succ j ih=>
  intro i o hij ho;rw[tS,zAv];have aw:i<(progI P).length:=by omega
  have hc:((i:Int)<((trcP P).list.length:Int)):=by show ((i:Int)<((progI P).length:Int));omega
  have hl:=zEA P i ((progI P).length - (i+1)) (i+1);have h2:=zMc hi aG i aw ((progI P).length - (i+1)) (i+1) o (by omega) (by omega);simp only[hc,dT,if_true,wL (show i<9223372036854775807 by omega),h2,oB,oS];rw[ih (i+1) _ (by omega) (by rw[lA];omega),co]
theorem zLj{P:zD}(hi:∀z∈progI P,InP P z)(aG:(progI P).length<=120)(i:Nat)(hin:i<(progI P).length):∀(j k:Nat) (o:List zY),k+j=(progI P).length->o.length+j<=1000000->pX ((progI P).map (useI P)) (i:Int) o (k:Int)=some (o++depR P i k j):=by
 intro j
 induction j with
 | zero=>
  intro k o hk ho;rw[pX];have:¬((k:Int)<(((progI P).map (useI P)).length:Int)):=by rw[lM];omega
  simp only[this,dF,bF,if_false,oP,id];simp[depR]
 | succ j ih=>
  intro k o hk ho;rw[pX,zCG];have aw:k<(progI P).length:=by omega
  have hc:((k:Int)<(((progI P).map (useI P)).length:Int)):=by rw[lM];omega
  simp only[hc,dT,if_true,zKD hin,zKD aw,kindsV hi hin aw,oB,oS,oP,id,qT (show (o.length+[zY.mk (i:Int) (k:Int) (kindI P i k)].length)*24<=140737488355328 by simp;omega)];rw[wL (by omega)];unfold dep1;by_cases h0:kindI P i k=0
  ·have e1:(kindI P i k != 0)=false:=by simpa using h0
   have e2:(kindI P i k==0)=true:=by simpa using h0
   simp only[e1,e2,bF,if_false,if_true,oS,cr];exact ih (k+1) o (by omega) (by omega)
  ·have e1:(kindI P i k != 0)=true:=by simpa using h0
   have e2:¬((kindI P i k==0)=true):=by simpa using h0
   simp only[e1,if_true,oS];rw[if_neg e2,ih (k+1) _ (by omega) (by rw[lA];simp;omega),co]
theorem zLk{P:zD}(hi:∀z∈progI P,InP P z)(aG:(progI P).length<=120):∀(j i:Nat) (o:List zY),i+j=(progI P).length->o.length<=120*i->pY ((progI P).map (useI P)) o (i:Int)=some (o++depA P i j):=by
 intro j
 induction j with
 | zero=>
  intro i o hij ho;rw[pY];have:¬((i:Int)<(((progI P).map (useI P)).length:Int)):=by rw[lM];omega
  simp only[this,dF,bF,if_false,oP,id];simp[depA]
 | succ j ih=>
  intro i o hij ho;rw[pY,zAv];have aw:i<(progI P).length:=by omega
  have hc:((i:Int)<(((progI P).map (useI P)).length:Int)):=by rw[lM];omega
  have hl:=zEA P i ((progI P).length - (i+1)) (i+1);have h2:=zLj hi aG i aw ((progI P).length - (i+1)) (i+1) o (by omega) (by omega);simp only[hc,dT,if_true,wL (show i<9223372036854775807 by omega),h2,oB,oS];rw[ih (i+1) _ (by omega) (by rw[lA];omega),co]
def dpF(P:zD):List zY:=if validP P then depA P 0 (progI P).length else[]
theorem implDeps(P:zD)(hb:BG P):pV P=some (dpF P):=by
 unfold pV dpF;rw[implTrace P hb];cases hv:validP P with
 | false=>rfl
 | true=>
  have aG:=(uC hv).2.2.2;have hi:∀z∈progI P,InP P z:=λz hz=>zG4 hb hv hz;have hl:=zMd hi aG _ 0 [] (cm _) (by simp);rw[nZ,cr] at hl;simp only[if_true,oB,oS,bT,bF,if_false,jC,hl,oP,id]
theorem zMe{P:zD}:(dpF P).length<=14400:=by
 unfold dpF;split
 ·rename_i hv;have aG:=(uC hv).2.2.2;have:=zG5 P (progI P).length 0;have h2:(progI P).length*(progI P).length<=120*120:=Nat.mul_le_mul aG aG;omega
 ·simp
end Go.LN
namespace Go.LN
def kG(P:zD)(i m:Nat):Int:=if m<(progI P).length then kindI P i m else 0
def mxV(P:zD)(f:Nat->Int)(k:Nat):Nat->Int
 | 0=>0
 | i+1=>if kG P i k=0 then mxV P f k i else if f i+1>mxV P f k i then f i+1 else mxV P f k i
def levL(P:zD):Nat->List Int
 | 0=>[]
 | k+1=>levL P k++[mxV P (λi=>(levL P k).getD i 0) k k]
def lev(P:zD)(k:Nat):Int:=mxV P (λi=>(levL P k).getD i 0) k k
theorem zJD(P:zD):∀k,(levL P k).length=k
 | 0=>rfl
 | k+1=>by rw[levL,lA,zJD P k];rfl
theorem zJE(P:zD):∀(k i:Nat),i<k->(levL P k).getD i 0=lev P i
 | k+1,i,h=>by
  rw[levL]
  have hl:=zJD P k
  rcases db i k with h' | h'
  ·rw[<- zJE P k i h',cF,fc (by omega),<- cF]
  ·have e:i=k:=by omega
   subst e
   rw[cF,fy (by omega),hl,Nat.sub_self];rfl
theorem zHX{P:zD}{f g:Nat->Int}{k:Nat}:∀j:Nat,(∀i,i<j->f i=g i)->mxV P f k j=mxV P g k j
 | 0,_=>rfl
 | j+1,h=>by rw[mxV,mxV,zHX j λi hi=>h i (by omega),h j (by omega)]
theorem zG6(P:zD)(k:Nat):lev P k=mxV P (lev P) k k:=zHX k λi hi=>zJE P k i hi
theorem zG7{P:zD}{f:Nat->Int}{k:Nat}:∀j:Nat,0<=mxV P f k j
 | 0=>Int.le_refl _
 | j+1=>by
  have:=zG7 (P:=P) (f:=f) (k:=k) j
  rw[mxV]
  split
  ·exact this
  ·split
   ·omega
   ·exact this
theorem zLl{P:zD}{f:Nat->Int}{k:Nat}:∀j:Nat,(∀i:Nat,i<j->f i<=(i:Int))->mxV P f k j<=(j:Int)
 | 0,_=>Int.le_refl _
 | j+1,h=>by
  have:=zLl (P:=P) (f:=f) (k:=k) j λi hi=>h i (by omega)
  have hj:=h j (by omega)
  rw[mxV]
  split
  ·omega
  ·split <;> omega
theorem zHy(P:zD):∀k:Nat,0<=lev P k/\lev P k<=(k:Int):=by
 intro k
 induction k using Nat.strongRecOn with
 | _ k ih=>rw[zG6];exact⟨zG7 k,zLl k λi hi=>(ih i hi).2⟩
theorem zLm{P:zD}{f:Nat->Int}{k i:Nat}(hk:kG P i k ≠ 0):∀j:Nat,i<j->f i+1<=mxV P f k j
 | j+1,h=>by
  rw[mxV]
  rcases db i j with h' | h'
  ·have:=zLm (P:=P) (f:=f) hk j h'
   split
   ·exact this
   ·split <;> omega
  ·have e:i=j:=by omega
   subst e
   rw[if_neg hk]
   split <;> omega
def upd(g:Nat->Int)(m:Nat)(v:Int):Nat->Int:=λx=>if x=m then v else g x
def stpF(g:Nat->Int)(d:zY):Nat->Int:=if W (g d.From.toNat+1)>g d.To.toNat then upd g d.To.toNat (W (g d.From.toNat+1)) else g
def stpP(p:Nat->Bool)(g:Nat->Int)(d:zY):Nat->Int:=if p d.To.toNat then stpF g d else g
theorem zCH(P:zD)(p:Nat->Bool)(q:Nat):∀(j k:Nat) (g:Nat->Int),q<k->(depR P q k j).foldl (stpP p) g=λm=>if(k<=m/\m<k+j)/\p m=true/\kindI P q m ≠ 0/\W (g q+1)>g m then W (g q+1) else g m
 | 0,k,g,_=>by
  funext m
  rw[if_neg (by omega)]
  rfl
 | j+1,k,g,hq=>by
  rw[zCG,List.foldl_append]
  by_cases h0:kindI P q k=0
  ·have e:dep1 P q k=[]:=by unfold dep1;rw[if_pos (by simpa using h0)]
   rw[e,List.foldl_nil,zCH P p q j (k+1) g (by omega)]
   funext m
   by_cases hm:m=k
   ·subst hm
    rw[if_neg (by omega),if_neg (λh=>h.2.2.1 h0)]
   ·by_cases hc:(k+1<=m/\m<k+1+j)/\p m=true/\kindI P q m ≠ 0/\W (g q+1)>g m
    ·rw[if_pos hc,if_pos ⟨⟨by omega,by omega⟩,hc.2⟩]
    ·rw[if_neg hc,if_neg λh=>hc ⟨⟨by omega,by omega⟩,h.2⟩]
  ·have e:dep1 P q k=[⟨(q:Int),(k:Int),kindI P q k⟩]:=by unfold dep1;rw[if_neg (by simpa using h0)]
   rw[e,et,List.foldl_nil]
   have hst:stpP p g ⟨(q:Int),(k:Int),kindI P q k⟩=λm=>if m=k/\p m=true/\W (g q+1)>g m then W (g q+1) else g m:=by
    unfold stpP stpF upd
    simp only[iN]
    funext m
    by_cases hp:p k=true
    ·rw[if_pos hp]
     by_cases hw:W (g q+1)>g k
     ·rw[if_pos hw]
      by_cases hm:m=k
      ·subst hm
       rw[if_pos rfl,if_pos ⟨rfl,hp,hw⟩]
      ·rw[if_neg hm,if_neg λh=>hm h.1]
     ·rw[if_neg hw]
      by_cases hm:m=k
      ·subst hm
       rw[if_neg λh=>hw h.2.2]
      ·rw[if_neg λh=>hm h.1]
    ·rw[if_neg hp]
     by_cases hm:m=k
     ·subst hm
      rw[if_neg λh=>hp h.2.1]
     ·rw[if_neg λh=>hm h.1]
   rw[hst,zCH P p q j (k+1) _ (by omega)]
   funext m
   have hqk:¬(q=k/\p q=true/\W (g q+1)>g q):=λh=>by omega
   rw[if_neg hqk]
   by_cases hm:m=k
   ·subst hm
    rw[if_neg (by omega)]
    by_cases hw:p m=true/\W (g q+1)>g m
    ·rw[if_pos ⟨rfl,hw⟩,if_pos ⟨⟨by omega,by omega⟩,hw.1,h0,hw.2⟩]
    ·rw[if_neg λh=>hw h.2,if_neg λh=>hw ⟨h.2.1,h.2.2.2⟩]
   ·rw[if_neg (c:=m=k/\p m=true/\W (g q+1)>g m) λh=>hm h.1]
    by_cases hc:(k+1<=m/\m<k+1+j)/\p m=true/\kindI P q m ≠ 0/\W (g q+1)>g m
    ·rw[if_pos hc,if_pos ⟨⟨by omega,by omega⟩,hc.2⟩]
    ·rw[if_neg hc,if_neg λh=>hc ⟨⟨by omega,by omega⟩,h.2⟩]
theorem zMv{P:zD}{k:Nat}(h:k<=1000000):W (lev P k+1)=lev P k+1:=by
 have:=zHy P k;exact sI (by omega) (by omega)
theorem zKE(P:zD)(aG:(progI P).length<=120):∀(j i:Nat),i+j=(progI P).length->(depA P i j).foldl (stpP λ_=>true) (λm=>mxV P (lev P) m (min i m))=λm=>mxV P (lev P) m (min (progI P).length m)
 | 0,i,hi=>by
  rw[show i=(progI P).length by omega]
  rfl
 | j+1,i,hi=>by
  rw[zAv,List.foldl_append,zCH P _ i _ _ _ (by omega),<- zKE P aG j (i+1) (by omega)]
  congr 1
  funext m
  rw[Nat.min_self,<- zG6,zMv (by omega)]
  by_cases hm:m<=i
  ·rw[if_neg (by omega),show min i m=m by omega,show min (i+1) m=m by omega]
  ·rw[show min i m=i by omega,show min (i+1) m=i+1 by omega,mxV]
   unfold kG
   by_cases hn:m<(progI P).length
   ·rw[if_pos hn]
    by_cases h0:kindI P i m=0
    ·rw[if_pos h0,if_neg λh=>h.2.2.1 h0]
    ·rw[if_neg h0]
     by_cases hw:lev P i+1>mxV P (lev P) m i
     ·rw[if_pos hw,if_pos ⟨⟨by omega,by omega⟩,rfl,h0,hw⟩]
     ·rw[if_neg hw,if_neg λh=>hw h.2.2.2]
   ·rw[if_neg hn,if_pos rfl,if_neg (by omega)]
def levT(P:zD)(t:Nat):Nat->Int:=λm=>if m<t then lev P m else 0
theorem zKF(P:zD)(aG:(progI P).length<=120)(t:Nat)(ht:t<(progI P).length):∀(j i:Nat),i+j=(progI P).length->(depA P i j).foldl (stpP λm=>m==t) (λm=>if m=t then mxV P (lev P) t (min i t) else levT P t m)=levT P (t+1)
 | 0,i,hi=>by
  funext m
  show (if m=t then mxV P (lev P) t (min i t) else levT P t m)=_
  rw[show min i t=t by omega,<- zG6]
  unfold levT
  by_cases hm:m=t
  ·rw[if_pos hm,hm,if_pos (by omega)]
  ·rw[if_neg hm]
   by_cases h2:m<t
   ·rw[if_pos h2,if_pos (by omega)]
   ·rw[if_neg h2,if_neg (by omega)]
 | j+1,i,hi=>by
  rw[zAv,List.foldl_append,zCH P _ i _ _ _ (by omega),<- zKF P aG t ht j (i+1) (by omega)]
  congr 1
  funext m
  by_cases hm:m=t
  ·subst hm
   rw[if_pos rfl,if_pos rfl]
   by_cases hi':i<m
   ·have hg:(if i=m then mxV P (lev P) m (min i m) else levT P m i)=lev P i:=by
     rw[if_neg (by omega)];unfold levT;rw[if_pos hi']
    rw[hg,zMv (by omega),show min i m=i by omega,show min (i+1) m=i+1 by omega,mxV]
    unfold kG
    rw[if_pos ht]
    by_cases h0:kindI P i m=0
    ·rw[if_pos h0,if_neg λh=>h.2.2.1 h0]
    ·rw[if_neg h0]
     by_cases hw:lev P i+1>mxV P (lev P) m i
     ·rw[if_pos hw,if_pos ⟨⟨by omega,by omega⟩,by simp,h0,hw⟩]
     ·rw[if_neg hw,if_neg λh=>hw h.2.2.2]
   ·rw[if_neg (by omega),show min i m=m by omega,show min (i+1) m=m by omega]
  ·have hp:¬((m==t)=true):=by simpa using hm
   rw[if_neg hm,if_neg hm,if_neg λh=>hp h.2.1]
def stL(n:Nat)(g:Nat->Int):List Int:=(List.range n).map g
theorem zA1(n:Nat)(g:Nat->Int):(stL n g).length=n:=by unfold stL;rw[lM,List.length_range]
theorem jR{n m:Nat}{g:Nat->Int}(h:m<n):idx (stL n g) (m:Int)=some (g m):=by
 rw[yM (by rw[zA1];exact h)];simp[stL]
theorem zJc{n i:Nat}{g:Nat->Int}(h:i<(stL n g).length):(stL n g)[i]=g i:=by simp[stL]
theorem zHz{n m:Nat}{g:Nat->Int}{v:Int}(h:m<n):(stL n g).set m v=stL n (upd g m v):=by
 refine List.ext_getElem (by rw[cL,zA1,zA1]) λi h1 h2=>?_;rw[List.getElem_set,zJc,zJc];unfold upd;by_cases e:m=i
 ·rw[if_pos e,if_pos e.symm]
 ·rw[if_neg e,if_neg λh=>e h.symm]
theorem zHY{n:Nat}{f g:Nat->Int}(h:∀m,m<n->f m=g m):stL n f=stL n g:=by
 unfold stL;exact List.map_congr_left λm hm=>h m (cA.1 hm)
theorem zIA{P:zD}{d:zY}(h:d∈depA P 0 (progI P).length):∃i k:Nat,d=⟨(i:Int),(k:Int),kindI P i k⟩/\i<k/\k<(progI P).length/\kindI P i k ≠ 0:=by
 unfold depA at h;obtain⟨i,hi,h⟩:=cw.1 h;unfold depR at h;obtain⟨k,hk,h⟩:=cw.1 h;have hi:=cY.1 hi;have hk:=cY.1 hk;unfold dep1 at h;split at h
 ·cases h
 ·rename_i h0;exact⟨i,k,cx.1 h,by omega,by omega,by simpa using h0⟩
theorem zMf{P:zD}{i k:Nat}(h1:i<k)(h2:k<(progI P).length)(h3:kindI P i k ≠ 0):(⟨(i:Int),(k:Int),kindI P i k⟩:zY)∈depA P 0 (progI P).length:=by
 unfold depA depR;refine cw.2 ⟨i,cY.2 ⟨by omega,by omega⟩,cw.2 ⟨k,cY.2 ⟨by omega,by omega⟩,?_⟩⟩;unfold dep1;rw[if_neg (by simpa using h3)];exact cx.2 rfl
end Go.LN
namespace Go.LN
theorem zKG(n:Nat)(hn:n<=1000000):mkrow 8 (n:Int) (0:Int)=some (List.replicate n 0):=by
 unfold mkrow;rw[if_pos ⟨by omega,by omega⟩,iN]
theorem zG8(n:Nat):List.replicate n (0:Int)=stL n λ_=>0:=by
 refine List.ext_getElem (by rw[d5,zA1]) λi h1 h2=>?_;rw[zJc,List.getElem_replicate]
theorem zN7{g:Nat->Int}{k:Nat}{c:Prop}[Decidable c]{v:Int}:upd g k (if c then v else g k)=if c then upd g k v else g:=by
 by_cases h:c
 ·rw[if_pos h,if_pos h]
 ·rw[if_neg h,if_neg h]
  funext x
  unfold upd;by_cases e:x=k
  ·rw[if_pos e,e]
  ·rw[if_neg e]
def DB(n:Nat)(d:zY):Prop:=∃i k:Nat,d.From=(i:Int)/\d.To=(k:Int)/\i<n/\k<n
theorem zIB{P:zD}:∀d∈depA P 0 (progI P).length,DB (progI P).length d:=by
 intro d hd;obtain⟨i,k,rfl,h1,h2,_⟩:=zIA hd;exact⟨i,k,rfl,rfl,by omega,h2⟩
theorem zKH{P:zD}(h:(progI P).length<=120):(depA P 0 (progI P).length).length<=14400:=by
 have:=zG5 P (progI P).length 0;have h2:(progI P).length*(progI P).length<=120*120:=Nat.mul_le_mul h h;omega
theorem zKg{D:List zY}{n t:Nat}(hD:∀d∈D,DB n d)(hl:D.length<=1000000)(ht:t<n):∀(j q:Nat) (g:Nat->Int),q+j=D.length->pT D (t:Int) (stL n g) (q:Int)=some (stL n ((D.drop q).foldl (stpP λm=>m==t) g)):=by
 intro j
 induction j with
 | zero=>
  intro q g hq;rw[pT];have:¬((q:Int)<(D.length:Int)):=by omega
  simp only[this,dF,bF,if_false,oP,id];rw[dN.2 (by omega)];rfl
 | succ j ih=>
  intro q g hq;rw[pT];have aw:q<D.length:=by omega
  have hc:((q:Int)<(D.length:Int)):=by omega
  obtain⟨i,k,e1,e2,h1,h2⟩:=hD D[q] (gM aw);rw[gC aw,et];simp only[hc,dT,if_true,yM aw,oB,oS,oP,id,e1,e2];by_cases hk:k=t
  ·subst hk;simp only[bQ,if_true,jR h1,jR h2,oS,iN,zHz h2];rw[wL (by omega),ih (q+1) _ (by omega)];unfold stpP stpF;rw[e1,e2,iN,iN,zN7];simp
  ·have e3:((k:Int)==(t:Int))=false:=by simpa using λh=>hk (by omega)
   simp only[e3,bF,if_false,oS];rw[wL (by omega),ih (q+1) _ (by omega)];unfold stpP;rw[e2,iN];simp[hk]
theorem zN8(P:zD):levT P 0=λ_=>0:=by
 funext m
 unfold levT;rw[if_neg (by omega)]
theorem zMg(P:zD)(t:Nat):levT P t=λm=>if m=t then mxV P (lev P) t (min 0 t) else levT P t m:=by
 funext m
 by_cases h:m=t
 ·rw[if_pos h,Nat.zero_min,h];unfold levT;rw[if_neg (by omega)];rfl
 ·rw[if_neg h]
theorem zKh{P:zD}(aG:(progI P).length<=120){o:List Int}(ho:o.length=(progI P).length):∀(j t:Nat),t+j=(progI P).length->sP (depA P 0 (progI P).length) o (stL (progI P).length (levT P t)) (t:Int)=some (stL (progI P).length (lev P)):=by
 intro j
 induction j with
 | zero=>
  intro t ht;rw[sP];have:¬((t:Int)<(o.length:Int)):=by omega
  simp only[this,dF,bF,if_false,oP,id];exact congrArg some (zHY λm hm=>by unfold levT;rw[if_pos (by omega)])
 | succ j ih=>
  intro t ht;rw[sP];have hc:((t:Int)<(o.length:Int)):=by omega
  have hl:=zKH aG;have h2:=zKg zIB (by omega) (show t<(progI P).length by omega) _ 0 (levT P t) (cm _);have h3:=zKF P aG t (by omega) _ 0 (cm _);rw[<- zMg] at h3;rw[nZ,cq,h3] at h2;simp only[hc,dT,if_true,h2,oB,oS];rw[wL (by omega)];exact ih (t+1) (by omega)
theorem zJd{D:List zY}{n:Nat}(hD:∀d∈D,DB n d)(hl:D.length<=1000000):∀(j q:Nat) (g:Nat->Int),q+j=D.length->rQ D (stL n g) (q:Int)=some (stL n ((D.drop q).foldl (stpP λ_=>true) g)):=by
 intro j
 induction j with
 | zero=>
  intro q g hq;rw[rQ];have:¬((q:Int)<(D.length:Int)):=by omega
  simp only[this,dF,bF,if_false,oP,id];rw[dN.2 (by omega)];rfl
 | succ j ih=>
  intro q g hq;rw[rQ];have aw:q<D.length:=by omega
  have hc:((q:Int)<(D.length:Int)):=by omega
  obtain⟨i,k,e1,e2,h1,h2⟩:=hD D[q] (gM aw);rw[gC aw,et];have es:stpP (λ_=>true) g D[q]=if W (g i+1)>g k then upd g k (W (g i+1)) else g:=by
   unfold stpP stpF;rw[e1,e2,iN,iN];rfl
  rw[es];simp only[hc,dT,if_true,yM aw,oB,oS,oP,id,e1,e2,jR h1,jR h2,iN,zHz h2];rw[wL (show q<9223372036854775807 by omega)];by_cases hw:W (g i+1)>g k
  ·simp only[hw,dT,if_true,oS];rw[ih (q+1) _ (by omega)]
  ·simp only[hw,dF,bF,if_false,oS];rw[ih (q+1) _ (by omega)]
def lsF(P:zD):List Int:=if validP P then stL (progI P).length (lev P) else[]
theorem zKI{P:zD}:(lsF P).length<=120:=by
 unfold lsF;split
 ·rename_i hv;have aG:=(uC hv).2.2.2;rw[zA1];exact aG
 ·simp
theorem zKJ{P:zD}:∀x∈lsF P,0<=x/\x<=120:=by
 intro x hx;unfold lsF at hx;split at hx
 ·rename_i hv;have aG:=(uC hv).2.2.2;obtain⟨m,hm,rfl⟩:=ey.1 hx;have:=cA.1 hm;have:=zHy P m;omega
 ·cases hx
theorem implLevels(P:zD)(hb:BG P):mD P=some (lsF P):=by
 unfold mD lsF;rw[implDeps P hb,implInstP P hb];unfold dpF;cases hv:validP P with
 | false=>
  have h1:sP [] [] [] 0=some []:=by rw[sP];simp
  simp only[bF,if_false,oB,oS,fD];rw[show ((([]:List zM).length:Int))=((0:Nat):Int) from rfl,zKG 0 (by omega)];simp[h1]
 | true=>
  have aG:=(uC hv).2.2.2;have hl:=zKh aG (o:=List.replicate (progI P).length 0) (d5 ..) _ 0 (cm _);rw[zN8,<- zG8,nZ] at hl;simp only[if_true,oB,oS,fD,zKG _ (show (progI P).length<=1000000 by omega),hl,oP,id]
theorem specDeps6(P:zD)(hb:BG P)(hv:validP P=true):fE P=some (depA P 0 (progI P).length):=by
 have aG:=(uC hv).2.2.2;have hi:∀z∈progI P,InP P z:=λz hz=>zG4 hb hv hz;have hl:=zLk hi aG _ 0 [] (cm _) (by simp);rw[nZ,cr] at hl;simp only[fE,specUses P hb hv,hl,oB,oS,oP,id]
theorem specLevels(P:zD)(hb:BG P):jG P=some (lsF P):=by
 unfold jG lsF;rw[specValidP P hb];cases hv:validP P with
 | false=>simp
 | true=>
  have aG:=(uC hv).2.2.2;have hl0:=zKH aG;have hl:=zJd zIB (by omega) _ 0 (λ_=>0) (cm (depA P 0 (progI P).length).length);have h3:=zKE P aG _ 0 (cm _);have e0:(λm=>mxV P (lev P) m (min 0 m))=λ_=>(0:Int):=by funext m;rw[Nat.zero_min];rfl
  rw[e0] at h3;rw[cq,h3,<- zG8,nZ] at hl;have hs:=specInst4 P hv;simp only[if_true,oB,oS,bT,bF,if_false,fI,hs,zKG _ (show (progI P).length<=1000000 by omega),specDeps6 P hb hv,hl,oP,id];refine congrArg some (zHY λm hm=>?_);rw[show min (progI P).length m=m by omega,<- zG6]
theorem zNs{P:zD}{i k:Nat}(hk:k<(progI P).length)(h:kindI P i k ≠ 0):kG P i k ≠ 0:=by unfold kG;rw[if_pos hk];exact h
theorem zKK{P:zD}{d:zY}(h:d∈depA P 0 (progI P).length):lev P d.From.toNat<lev P d.To.toNat:=by
 obtain⟨i,k,rfl,h1,h2,h3⟩:=zIA h;show lev P ((i:Int)).toNat<lev P ((k:Int)).toNat;rw[iN,iN];have:=zLm (f:=lev P) (zNs h2 h3) k h1;rw[<- zG6] at this;omega
end Go.LN
namespace Go.LN
def mxs(a x:Int):Int:=if x+1>a then x+1 else a
def crt(P:zD):Int:=(lsF P).foldl mxs 0
theorem zJe:∀(l:List Int) (a:Int),a<=l.foldl mxs a/\∀x∈l,x+1<=l.foldl mxs a
 | [],a=>⟨Int.le_refl _,λx h=>by cases h⟩
 | y::l,a=>by
  obtain⟨h1,h2⟩:=zJe l (mxs a y)
  rw[et]
  have h3:a<=mxs a y/\y+1<=mxs a y:=by unfold mxs;split <;> omega
  refine⟨by omega,λx hx=>?_⟩
  rcases cE.1 hx with rfl|hx
  ·omega
  ·exact h2 x hx
theorem zLn:∀(l:List Int) (a:Int),l.foldl mxs a=a∨∃x∈l,l.foldl mxs a=x+1
 | [],a=>.inl rfl
 | y::l,a=>by
  rw[et]
  rcases zLn l (mxs a y) with h|⟨x,hx,h⟩
  ·rw[h]
   unfold mxs
   split
   ·exact .inr ⟨y,ce ..,rfl⟩
   ·exact .inl rfl
  ·exact .inr ⟨x,cg _ hx,h⟩
theorem zMh{l:List Int}(hl:l.length<=1000000)(hx:∀x∈l,0<=x/\x<=1000000):∀(j q:Nat) (a:Int),q+j=l.length->rR l a (q:Int)=some ((l.drop q).foldl mxs a):=by
 intro j
 induction j with
 | zero=>
  intro q a hq;rw[rR];have:¬((q:Int)<(l.length:Int)):=by omega
  simp only[this,dF,bF,if_false,oP,id];rw[dN.2 (by omega)];rfl
 | succ j ih=>
  intro q a hq;rw[rR];have aw:q<l.length:=by omega
  have hc:((q:Int)<(l.length:Int)):=by omega
  have:=hx l[q] (gM aw);rw[gC aw,et];simp only[hc,dT,if_true,yM aw,oB,oS,oP,id,sI (show -9223372036854775808<=l[q]+1 by omega) (show l[q]+1<=9223372036854775807 by omega)];rw[wL (by omega)];unfold mxs;by_cases h:l[q]+1>a
  ·simp only[h,dT,if_true,oS];exact ih (q+1) _ (by omega)
  ·simp only[h,dF,bF,if_false,oS];exact ih (q+1) _ (by omega)
theorem specLen(P:zD):mE (lsF P)=some (crt P):=by
 have h1:=zKI (P:=P);have h:=zMh (l:=lsF P) (by omega) (λx hx=>by have:=zKJ x hx;omega) _ 0 0 (cm _);rw[cq,nZ] at h;unfold mE crt;simp only[h,oB,oS,oP,id]
theorem zN9{P:zD}{x:Int}(h:x∈lsF P):x+1<=crt P:=(zJe (lsF P) 0).2 x h
theorem zIC(P:zD):0<=crt P/\crt P<=121:=by
 refine⟨(zJe (lsF P) 0).1,?_⟩;rcases zLn (lsF P) 0 with h|⟨x,hx,h⟩
 ·unfold crt;omega
 ·have:=zKJ x hx;unfold crt;omega
end Go.LN
namespace Go.LN
end Go.LN
namespace Go.LN
def plc:List Int->Nat->(Nat->Int)->Nat->Int
 | [],_,g=>g
 | x::l,k,g=>plc l (k+1) (upd g x.toNat (k:Int))
theorem zKL:∀(l:List Int) (k:Nat) (g:Nat->Int) (y:Nat),(∀x∈l,x.toNat ≠ y)->plc l k g y=g y
 | [],_,_,_,_=>rfl
 | x::l,k,g,y,h=>by
  rw[plc,zKL l _ _ y λz hz=>h z (cg _ hz)]
  unfold upd
  rw[if_neg λe=>h x (ce ..) e.symm]
theorem zJf:∀(l:List Int) (k:Nat) (g:Nat->Int),l.Nodup->(∀x∈l,0<=x)->∀(j:Nat) (hj:j<l.length),plc l k g l[j].toNat=((k+j:Nat):Int)
 | x::l,k,g,hn,h0,0,_=>by
  have hn:=eq.1 hn
  show plc l (k+1) (upd g x.toNat (k:Int)) x.toNat=_
  rw[zKL l _ _ _ λz hz e=>by
   have h1:=h0 x (ce ..)
   have h2:=h0 z (cg _ hz)
   exact hn.1 ((show z=x by omega) ▸ hz)]
  unfold upd
  rw[if_pos rfl];rfl
 | x::l,k,g,hn,h0,j+1,hj=>by
  have hn:=eq.1 hn
  have:=zJf l (k+1) (upd g x.toNat (k:Int)) hn.2 (λz hz=>h0 z (cg _ hz)) j (by simpa using hj)
  have e:(x::l)[j+1]=l[j]'(by simpa using hj):=rfl
  rw[e]
  show plc l (k+1) (upd g x.toNat (k:Int)) (l[j]'(by simpa using hj)).toNat=_
  rw[this];omega
theorem zNa{n:Nat}{o:List Int}(hn:o.length<=1000000)(ho:∀x∈o,0<=x/\x<(n:Int)):∀(j q:Nat) (g:Nat->Int),q+j=o.length->rY o (q:Int) (stL n g)=some (stL n (plc (o.drop q) q g)):=by
 intro j
 induction j with
 | zero=>
  intro q g hq;rw[rY];have:¬((q:Int)<(o.length:Int)):=by omega
  simp only[this,dF,bF,if_false,oP,id];rw[dN.2 (by omega)];rfl
 | succ j ih=>
  intro q g hq;rw[rY];have aw:q<o.length:=by omega
  have hc:((q:Int)<(o.length:Int)):=by omega
  obtain⟨x,hx⟩:∃x:Nat,o[q]=(x:Int):=⟨o[q].toNat,by have:=ho _ (gM aw);omega⟩;have hxn:x<n:=by have:=ho _ (gM aw);omega
  rw[gC aw,plc];simp only[hc,dT,if_true,yM aw,hx,jR hxn,oB,oS,oP,iN,zHz hxn];rw[wL (by omega)];exact ih (q+1) _ (by omega)
def brk(g:Nat->Int)(d:zY):Bool:=decide (g d.To.toNat<g d.From.toNat)
def plo(o:List Int):Nat->Int:=plc o 0 λ_=>0
theorem zMi{n:Nat}{g:Nat->Int}{D:List zY}(hD:∀d∈D,DB n d)(hl:D.length<=1000000):∀(j q:Nat),q+j=D.length->∃r,xL D (λx0=>qZ x0 (stL n g)) (q:Int)=some r/\((r=.done ()/\(D.drop q).find? (brk g)=none)∨∃(k:Nat) (h:k<D.length),r=.ret (k:Int)/\(D.drop q).find? (brk g)=some D[k]):=by
 intro j
 induction j with
 | zero=>
  intro q hq;rw[xL];have:¬((q:Int)<(D.length:Int)):=by omega
  refine⟨_,by simp only[this,dF,bF,if_false,oP],.inl ⟨rfl,?_⟩⟩;rw[dN.2 (by omega)];rfl
 | succ j ih=>
  intro q hq;rw[xL];have aw:q<D.length:=by omega
  have hc:((q:Int)<(D.length:Int)):=by omega
  obtain⟨i,k,e1,e2,h1,h2⟩:=hD D[q] (gM aw);have hb:qZ D[q] (stL n g)=some (brk g D[q]):=by
   unfold qZ brk;simp only[e1,e2,jR h1,jR h2,oB,oS,oP,iN]
  rw[gC aw,List.find?_cons];cases hk:brk g D[q] with
  | true=>exact⟨_,by simp only[hc,dT,if_true,yM aw,hb,hk,oB,oS,oP],.inr ⟨q,aw,rfl,rfl⟩⟩
  | false=>
   obtain⟨r,hr,bd⟩:=ih (q+1) (by omega);refine⟨r,?_,bd⟩;simp only[hc,dT,if_true,yM aw,hb,hk,oB,oS,oP,bF,if_false];rw[wL (by omega),hr]
theorem implBrk{n:Nat}{o:List Int}{D:List zY}(hD:∀d∈D,DB n d)(hl:D.length<=1000000)(hn:n<=1000000)(hp:permB n o=true):(jO D o=some (-1)/\D.find? (brk (plo o))=none)∨∃(k:Nat) (h:k<D.length),jO D o=some (k:Int)/\D.find? (brk (plo o))=some D[k]:=by
 obtain⟨⟨p1,p2⟩,p3⟩:=(fM _ _).1 hp;have h1:=zNa (n:=n) (by omega) p1 _ 0 (λ_=>0) (cm o.length);rw[nZ,cq,<- zG8] at h1;obtain⟨r,hr,hc⟩:=zMi (g:=plo o) hD hl _ 0 (cm D.length);rw[nZ] at hr;rw[cq] at hc;unfold jO uE;rw[p3];have h2:rY o 0 (List.replicate n 0)=some (stL n (plo o)):=h1;simp only[zKG n hn,h2,hr,oB,oS];rcases hc with⟨rfl,h⟩|⟨k,hk,rfl,h⟩
 ·exact .inl ⟨rfl,h⟩
 ·exact .inr ⟨k,hk,rfl,h⟩
def brF(P:zD)(o:List Int):Option zY:=(dpF P).find? (brk (plo o))
theorem zMj{P:zD}(hv:validP P=true):∀d∈dpF P,DB (progI P).length d:=by
 have e:dpF P=depA P 0 (progI P).length:=by unfold dpF;rw[hv];rfl
 rw[e];exact zIB
theorem implLegal(P:zD)(hb:BG P)(o:List Int)(ho:o.length<=1048576):qS P o=some (validP P&&permB (progI P).length o&&(brF P o).isNone):=by
 unfold qS dM;simp only[implOrd P hb o ho,implDeps P hb,oB,oS,oP,id];cases hv:validP P with
 | false=>rfl
 | true=>
  have aG:=(uC hv).2.2.2;have hl:=zMe (P:=P);cases hp:permB (progI P).length o with
  | false=>rfl
  | true=>
   unfold brF;rcases implBrk (zMj hv) (by omega) (by omega) hp with⟨h1,h2⟩|⟨k,hk,h1,h2⟩
   ·rw[h2];simp[h1]
   ·rw[h2];simp[h1]
end Go.LN
namespace Go.LN
def selL(g:Nat->Int)(v:Int)(i j:Nat):List Int:=(List.range' i j).flatMap λm=>if g m==v then[(m:Int)] else[]
theorem zEm(g:Nat->Int)(v:Int)(i j:Nat):selL g v i (j+1)=(if g i==v then[(i:Int)] else[])++selL g v (i+1) j:=by unfold selL;rw[da,ci]
theorem zEB{g:Nat->Int}{v x:Int}{i j:Nat}:x∈selL g v i j ↔ ∃m:Nat,x=(m:Int)/\i<=m/\m<i+j/\g m=v:=by
 unfold selL;rw[cw];constructor
 ·rintro⟨m,hm,h⟩;have hm:=cY.1 hm;by_cases e:g m=v
  ·rw[if_pos (by simpa using e)] at h;exact⟨m,cx.1 h,hm.1,hm.2,e⟩
  ·rw[if_neg (by simpa using e)] at h;cases h
 ·rintro⟨m,rfl,h1,h2,h3⟩;exact⟨m,cY.2 ⟨h1,h2⟩,by rw[if_pos (by simpa using h3)];exact cx.2 rfl⟩
def ordA(g:Nat->Int)(n v c:Nat):List Int:=(List.range' v c).flatMap λ(u:Nat)=>selL g (u:Int) 0 n
theorem zCI(g:Nat->Int)(n v c:Nat):ordA g n v (c+1)=selL g (v:Int) 0 n++ordA g n (v+1) c:=by unfold ordA;rw[da,ci]
theorem zBx{g:Nat->Int}{n v c:Nat}{x:Int}:x∈ordA g n v c ↔ ∃m:Nat,x=(m:Int)/\m<n/\(v:Int)<=g m/\g m<((v+c:Nat):Int):=by
 unfold ordA;rw[cw];constructor
 ·rintro⟨u,hu,h⟩;have hu:=cY.1 hu;obtain⟨m,rfl,h1,h2,h3⟩:=zEB.1 h;exact⟨m,rfl,by omega,by omega,by omega⟩
 ·rintro⟨m,rfl,h1,h2,h3⟩;exact⟨(g m).toNat,cY.2 ⟨by omega,by omega⟩,zEB.2 ⟨m,rfl,by omega,by omega,by omega⟩⟩
def RR(g:Nat->Int)(x y:Int):Prop:=g x.toNat<g y.toNat∨(g x.toNat=g y.toNat/\x<y)
theorem zID(g:Nat->Int)(v:Int):∀(j i:Nat),(selL g v i j).Pairwise (RR g)
 | 0,i=>by unfold selL;exact List.Pairwise.nil
 | j+1,i=>by
  rw[zEm]
  by_cases e:g i=v
  ·rw[if_pos (by simpa using e)]
   refine List.Pairwise.cons (λy hy=>?_) (zID g v j (i+1))
   obtain⟨m,rfl,h1,h2,h3⟩:=zEB.1 hy
   exact .inr ⟨by rw[iN,iN,e,h3],by omega⟩
  ·rw[if_neg (by simpa using e)];exact zID g v j (i+1)
theorem zF2(g:Nat->Int)(n:Nat):∀(c v:Nat),(ordA g n v c).Pairwise (RR g)
 | 0,v=>by unfold ordA;exact List.Pairwise.nil
 | c+1,v=>by
  rw[zCI]
  refine List.pairwise_append.2 ⟨zID g _ n 0,zF2 g n c (v+1),λx hx y hy=>?_⟩
  obtain⟨m,rfl,h1,h2,h3⟩:=zEB.1 hx
  obtain⟨k,rfl,k1,k2,k3⟩:=zBx.1 hy
  exact .inl (by rw[iN,iN];omega)
theorem zHZ(g:Nat->Int)(v c:Nat):(ordA g 0 v c).length=0:=by
 cases h:ordA g 0 v c with
 | nil=>rfl
 | cons x l=>
  have:x∈ordA g 0 v c:=by rw[h];exact ce ..
  obtain⟨m,_,h1,_⟩:=zBx.1 this;omega
theorem zKi(g:Nat->Int)(v:Int)(n:Nat):selL g v 0 (n+1)=selL g v 0 n++(if g n==v then[(n:Int)] else[]):=by
 unfold selL;rw[List.range'_concat,dn];simp
theorem zH0(g:Nat->Int)(n:Nat):∀(c v:Nat),(ordA g (n+1) v c).length=(ordA g n v c).length+(if(v:Int)<=g n/\g n<((v+c:Nat):Int) then 1 else 0)
 | 0,v=>by
  rw[if_neg (by omega)];rfl
 | c+1,v=>by
  rw[zCI,zCI,zKi,lA,lA,lA,zH0 g n c (v+1)]
  by_cases e:g n=(v:Int)
  ·rw[if_pos (c:=(g n==(v:Int))=true) (by simpa using e),if_neg (by omega),if_pos (by omega),fl];omega
  ·rw[if_neg (c:=(g n==(v:Int))=true) (by simpa using e)]
   by_cases h:(((v+1:Nat)):Int)<=g n/\g n<((v+1+c:Nat):Int)
   ·rw[if_pos h,if_pos (by omega),cT];omega
   ·rw[if_neg h,if_neg (by omega),cT];omega
theorem zG9(g:Nat->Int)(c:Nat):∀n,(∀m,m<n->0<=g m/\g m<(c:Int))->(ordA g n 0 c).length=n
 | 0,_=>zHZ g 0 c
 | n+1,h=>by
  have h1:=h n (Nat.lt_succ_self n)
  rw[zH0,zG9 g c n λm hm=>h m (by omega),if_pos (by omega)]
theorem zKj{g:Nat->Int}{n c:Nat}(h:∀m,m<n->0<=g m/\g m<(c:Int)):permB n (ordA g n 0 c)=true:=by
 refine(fM _ _).2 ⟨⟨λx hx=>?_,(zF2 g n c 0).imp λh e=>?_⟩,zG9 g c n h⟩
 ·obtain⟨m,rfl,h1,_⟩:=zBx.1 hx;omega
 ·subst e;unfold RR at h;omega
theorem zJF(g:Nat->Int)(v:Int):∀(j i:Nat),(selL g v i j).length<=j
 | 0,i=>by simp[selL]
 | j+1,i=>by
  have:=zJF g v j (i+1)
  rw[zEm,lA]
  split <;> simp <;> omega
end Go.LN
namespace Go.LN
end Go.LN
namespace Go.LN
theorem zGa:∀(n:Nat) (l:List Int),l.Nodup->(∀x∈l,0<=x/\x<(n:Int))->l.length<=n
 | 0,[],_,_=>cZ _
 | 0,x::l,_,h=>by have:=h x (ce ..);omega
 | n+1,l,hn,h=>by
  by_cases hm:(n:Int)∈l
  ·have h1:=zGa n (l.erase (n:Int)) (hn.erase _) λx hx=>by
    have h2:=(hn.mem_erase_iff).1 hx
    have h3:=h x h2.2
    have h4:=h2.1
    omega
   rw[List.length_erase_of_mem hm] at h1
   omega
  ·have h1:=zGa n l hn λx hx=>by
    have h3:=h x hx
    have h4:x ≠ (n:Int):=λe=>hm (e ▸ hx)
    omega
   omega
theorem zGb{n:Nat}{o:List Int}(hp:permB n o=true){m:Nat}(hm:m<n):∃(j:Nat) (hj:j<o.length),o[j]=(m:Int):=by
 obtain⟨⟨p1,p2⟩,p3⟩:=(fM _ _).1 hp;by_cases h:(m:Int)∈o
 ·exact ed.1 h
 ·have:=zGa n ((m:Int)::o) (eq.2 ⟨h,p2⟩) λx hx=>by
   rcases cE.1 hx with rfl|hx
   ·omega
   ·exact p1 x hx
  rw[cC] at this;omega
end Go.LN
namespace Go.LN
open Go.Sort Go.Proofs
def nums(n:Nat):List Int:=(List.range' 0 n).map λ(x:Nat)=>(x:Int)
theorem zEC(n:Nat):(nums n).length=n:=by unfold nums;rw[lM,List.length_range']
theorem zIE{n i:Nat}(h:i<(nums n).length):(nums n)[i]=(i:Int):=by simp[nums]
theorem zED{n:Nat}{x:Int}(h:x∈nums n):∃m:Nat,x=(m:Int)/\m<n:=by
 obtain⟨i,hi,e⟩:=ed.1 h;rw[zIE hi] at e;rw[zEC] at hi;exact⟨i,e.symm,hi⟩
theorem zMk(n:Nat):(nums n).Pairwise (· < ·):=by
 rw[d7];intro i j hi hj hij;rw[zIE,zIE];omega
theorem zLo{x:List Int}{φ:Int->Int->Option Int}(lv:Int->Int)(hφ:∀a∈x,∀b∈x,∃r,φ a b=some r/\(r<0↔lv a<lv b))(hA:x.Pairwise (· < ·)):
 (srS x φ).Pairwise (λa b=>lv a<lv b∨(lv a=lv b/\a<b))/\∀a∈srS x φ,a∈x:=by
 cases x with
 | nil=>exact⟨List.Pairwise.nil,λa h=>h⟩
 | cons y ys=>
  obtain⟨s,I,hS,hres⟩:∃(s:List Int) (I:Inhabited (Nm s)),s=y::ys/\srS (y::ys) φ=(@stA _ I (ltOf (cfN φ)) (rowN s) s.length).toList.map (·.val):=⟨y::ys,inhN y ys,rfl,rfl⟩
  rw[hres,<- hS]
  rw[<- hS] at hφ hA
  clear hres
  have aw:ltOf (cfN φ)=ltV (λa:Nm s=>lv a.val):=by
   funext a b
   obtain⟨r,h1,h2⟩:=hφ a.val a.property b.val b.property
   unfold ltOf ltV cfN
   rw[h1]
   exact decide_eq_decide.2 h2
  have hg:∀p (h:p<s.length),((rowN s)[p]!).val=s[p]:=λp h=>by
   rw[getElem!_pos (rowN s) p (by rw[dP];exact h)]
   simp[rowN]
  have h:=zNM (λa:Nm s=>lv a.val) (λa=>a.val) (rowN s) (λp q h1 h2 h3 h4=>by
   rw[dP] at h4
   show ((rowN s)[p]!).val<((rowN s)[q]!).val
   rw[hg p (by omega),hg q h4]
   exact d7.1 hA p q (by omega) h4 h2)
  rw[dP,<- aw] at h
  obtain⟨hw,hs⟩:=h
  refine⟨?_,λa ha=>?_⟩
  ·rw[List.pairwise_map,d7]
   intro i j hi hj hij
   have hz:=hw.sz
   rw[dP] at hz
   rw[dq,hz] at hi hj
   have:=hs i j (ex _) hij hj
   rw[getElem!_pos _ i (by rw[hz];exact hi),getElem!_pos _ j (by rw[hz];exact hj)] at this
   rw[ft,ft]
   exact this
  ·obtain⟨b,_,e⟩:=ey.1 ha
   rw[<- e];exact b.property
theorem zLp{g:Nat->Int}:∀{l k:List Int},l.Pairwise (RR g)->k.Pairwise (RR g)->(∀x,x∈l↔x∈k)->l=k
 | [],[],_,_,_=>rfl
 | [],b::k,_,_,h=>by have:=(h b).2 (ce ..);cases this
 | a::l,[],_,_,h=>by have:=(h a).1 (ce ..);cases this
 | a::l,b::k,h1,h2,h=>by
  have no:∀{u v:Int},RR g u v->RR g v u->False:=λh h'=>by unfold RR at h h';omega
  have p1:∀{x},x∈l->RR g a x:=λhx=>List.rel_of_pairwise_cons h1 hx
  have p2:∀{x},x∈k->RR g b x:=λhx=>List.rel_of_pairwise_cons h2 hx
  have e:a=b:=by
   rcases cE.1 ((h a).1 (ce ..)) with e|m1
   ·exact e
   ·rcases cE.1 ((h b).2 (ce ..)) with e|m2
    ·exact e.symm
    ·exact(no (p2 m1) (p1 m2)).elim
  subst e
  rw[zLp h1.of_cons h2.of_cons λx=>⟨λhx=>?_,λhx=>?_⟩]
  ·rcases cE.1 ((h x).1 (cg _ hx)) with rfl|m
   ·exact(no (p1 hx) (p1 hx)).elim
   ·exact m
  ·rcases cE.1 ((h x).2 (cg _ hx)) with rfl|m
   ·exact(no (p2 hx) (p2 hx)).elim
   ·exact m
theorem zNb{g:Nat->Int}{n:Nat}(hg:∀m,m<n->0<=g m/\g m<1000):∀a∈nums n,∀b∈nums n,∃r,xZ a b (stL n g)=some r/\(r<0↔g a.toNat<g b.toNat):=λa ha b hb=>by
 obtain⟨i,rfl,hi⟩:=zED ha;obtain⟨k,rfl,hk⟩:=zED hb;have h1:=hg i hi;have h2:=hg k hk;refine⟨g i - g k,?_,?_⟩
 ·unfold xZ;simp only[jR hi,jR hk,oB,oS,oP];rw[sI (by omega) (by omega)]
 ·rw[iN,iN];omega
theorem zKM{g:Nat->Int}{n c:Nat}(hn:n<=120)(hc:c<=121)(hg:∀m,m<n->0<=g m/\g m<(c:Int)):xX (nums n) (λx0 x1=>xZ x0 x1 (stL n g))=some (ordA g n 0 c):=by
 have hcmp:=zNb (n:=n) (g:=g) λm hm=>by have:=hg m hm;omega
 unfold xX;rw[if_pos ⟨by rw[zEC];omega,λa ha b hb=>by obtain⟨r,h1,_⟩:=hcmp a ha b hb;show (xZ a b (stL n g)).isSome=true;rw[h1];rfl⟩];obtain⟨h1,h2⟩:=zLo (λx=>g x.toNat) hcmp (zMk n);refine congrArg some (zLp h1 (zF2 g n c 0) λx=>?_);have hp:permB n (srS (nums n) λx0 x1=>xZ x0 x1 (stL n g))=true:=by
  refine(fM _ _).2 ⟨⟨λx hx=>?_,h1.imp λh e=>?_⟩,by rw[zCf,zEC]⟩
  ·obtain⟨m,rfl,hm⟩:=zED (h2 x hx);omega
  ·subst e;omega
 constructor
 ·intro hx;obtain⟨m,rfl,hm⟩:=zED (h2 x hx);have:=hg m hm;exact zBx.2 ⟨m,rfl,hm,by omega,by omega⟩
 ·intro hx;obtain⟨m,rfl,hm,_⟩:=zBx.1 hx;obtain⟨j,hj,e⟩:=zGb hp hm;rw[<- e];exact gM hj
theorem zNt{y:List Int}(hy:y.length<=1000):∀(j q:Nat),q+j=y.length->uY y (nums q) (q:Int)=some (nums y.length):=by
 intro j
 induction j with
 | zero=>
  intro q hq;rw[uY];have:¬((q:Int)<(y.length:Int)):=by omega
  simp only[this,dF,bF,if_false,oP,id];rw[show q=y.length by omega]
 | succ j ih=>
  intro q hq;rw[uY];have hc:((q:Int)<(y.length:Int)):=by omega
  have e:nums q++[(q:Int)]=nums (q+1):=by unfold nums;rw[List.range'_concat,List.map_append];simp
  simp only[hc,dT,if_true,oB,oS,qT (show ((nums q).length+[(q:Int)].length)*8<=140737488355328 by rw[zEC];simp;omega),e];rw[wL (by omega),ih (q+1) (by omega)]
def lvO(P:zD):List Int:=if validP P then ordA (lev P) (progI P).length 0 (crt P).toNat else[]
theorem zIF{P:zD}(hv:validP P=true):∀m,m<(progI P).length->0<=lev P m/\lev P m<(((crt P).toNat:Nat):Int):=λm hm=>by
 have h1:=(zHy P m).1;have h2:lev P m∈lsF P:=by
  unfold lsF;rw[hv];exact ey.2 ⟨m,cA.2 hm,rfl⟩
 have h3:=zN9 h2;omega
theorem zMl{P:zD}:(lvO P).length<=120:=by
 unfold lvO;split
 ·rename_i hv;have aG:=(uC hv).2.2.2;rw[zG9 _ _ _ (zIF hv)];exact aG
 ·simp
theorem implLO(P:zD)(hb:BG P):mM P=some (lvO P):=by
 unfold mM;have hl:=zKI (P:=P);have h1:=zNt (y:=lsF P) (by omega) _ 0 (cm _);rw[nZ] at h1;have h1:uY (lsF P) [] 0=some (nums (lsF P).length):=h1;simp only[implLevels P hb,h1,oB,oS,oP,id];cases hv:validP P with
 | true=>
  have aG:=(uC hv).2.2.2;have hcr:=zIC P;have e:lsF P=stL (progI P).length (lev P):=by unfold lsF;rw[hv];rfl
  have e2:lvO P=ordA (lev P) (progI P).length 0 (crt P).toNat:=by unfold lvO;rw[hv];rfl
  rw[e,zA1,e2,zKM aG (by omega) (zIF hv)];rfl
 | false=>
  have e:lsF P=[]:=by unfold lsF;rw[hv];rfl
  have e2:lvO P=[]:=by unfold lvO;rw[hv];rfl
  rw[e,e2];have h9:=zKM (g:=λ_=>0) (n:=0) (c:=0) (by omega) (by omega) (λm hm=>by omega);have h8:ordA (λ_=>0) 0 0 0=[]:=rfl;rw[h8] at h9;have h7:xX (nums 0) (λx0 x1=>xZ x0 x1 [])=some []:=h9;show (xX (nums 0) (λx0 x1=>xZ x0 x1 [])).bind _=_;rw[h7];rfl
theorem zNc{g:Nat->Int}{n:Nat}(hn:n<=120)(v:Int):∀(j i:Nat) (o:List Int),i+j=n->o.length+j<=1000000->sD (stL n g) v o (i:Int)=some (o++selL g v i j):=by
 intro j
 induction j with
 | zero=>
  intro i o hi ho;rw[sD];have:¬((i:Int)<((stL n g).length:Int)):=by rw[zA1];omega
  simp only[this,dF,bF,if_false,oP,id];simp[selL]
 | succ j ih=>
  intro i o hi ho;rw[sD,zEm];have hc:((i:Int)<((stL n g).length:Int)):=by rw[zA1];omega
  simp only[hc,dT,if_true,jR (show i<n by omega),oB,oS,oP,id,qT (show (o.length+[(i:Int)].length)*8<=140737488355328 by simp;omega)];rw[wL (by omega)];by_cases e:g i=v
  ·have e1:(g i==v)=true:=by simpa using e
   simp only[e1,if_true,oS];rw[ih (i+1) _ (by omega) (by rw[lA];simp;omega),co]
  ·have e1:(g i==v)=false:=by simpa using e
   simp only[e1,bF,if_false,oS];rw[ih (i+1) _ (by omega) (by omega),cr]
theorem zNd{g:Nat->Int}{n c:Nat}(hn:n<=120)(hc:mE (stL n g)=some (c:Int))(bd:c<=121):∀(j v:Nat) (o:List Int),v+j=c->o.length<=120*v->sE (stL n g) o (v:Int)=some (o++ordA g n v j):=by
 intro j
 induction j with
 | zero=>
  intro v o hv ho;rw[sE,hc];have:¬((v:Int)<(c:Int)):=by omega
  simp only[this,dF,bF,if_false,oB,oS,oP,id];simp[ordA]
 | succ j ih=>
  intro v o hv ho;rw[sE,hc,zCI];have h1:((v:Int)<(c:Int)):=by omega
  have h2:=zNc (g:=g) hn (v:Int) n 0 o (cm _) (by omega);have h3:=zJF g (v:Int) n 0;rw[nZ] at h2;simp only[h1,dT,if_true,h2,oB,oS];rw[wL (by omega),ih (v+1) _ (by omega) (by rw[lA];omega),co]
theorem specLO(P:zD)(hb:BG P):oM P=some (lvO P):=by
 unfold oM;have hcr:=zIC P;obtain⟨n,g,hn,e,e2⟩:∃(n:Nat) (g:Nat->Int),n<=120/\lsF P=stL n g/\lvO P=ordA g n 0 (crt P).toNat:=by
  cases hv:validP P with
  | true=>exact⟨(progI P).length,lev P,(uC hv).2.2.2,by unfold lsF;rw[hv];rfl,by unfold lvO;rw[hv];rfl⟩
  | false=>
   have e:lsF P=[]:=by unfold lsF;rw[hv];rfl
   exact⟨0,λ_=>0,by omega,e,by unfold lvO;rw[hv];exact(List.eq_nil_of_length_eq_zero (zHZ _ 0 (crt P).toNat)).symm⟩
 have hs:=specLen P;rw[e] at hs;have h:=zNd hn (hs.trans (by rw[Int.toNat_of_nonneg hcr.1])) (by omega) _ 0 [] (cm _) (by simp);rw[nZ,cr] at h;simp only[specLevels P hb,e,h,e2,oB,oS,oP,id]
theorem zNe{g:Nat->Int}{n:Nat}{o:List Int}(hp:permB n o=true)(ho:o.Pairwise λx y=>g x.toNat<=g y.toNat){i k:Nat}(hi:i<n)(hk:k<n)(hl:g i<g k):plo o i<plo o k:=by
 obtain⟨⟨p1,p2⟩,p3⟩:=(fM _ _).1 hp;obtain⟨a,ha,ea⟩:=zGb hp hi;obtain⟨b,hb,eb⟩:=zGb hp hk;have q1:=zJf _ 0 (λ_=>0) p2 (λx hx=>(p1 x hx).1) a ha;have q2:=zJf _ 0 (λ_=>0) p2 (λx hx=>(p1 x hx).1) b hb;rw[ea,iN] at q1;rw[eb,iN] at q2;unfold plo;rw[q1,q2];rcases Nat.lt_trichotomy a b with hab|hab|hab
 ·omega
 ·subst hab;have:(i:Int)=(k:Int):=ea.symm.trans eb;have:i=k:=by omega
  subst this;omega
 ·have:=d7.1 ho b a hb ha hab;rw[ea,eb,iN,iN] at this;omega
theorem zLq{P:zD}(hv:validP P=true){o:List Int}(hp:permB (progI P).length o=true)(ho:o.Pairwise λx y=>lev P x.toNat<=lev P y.toNat):brF P o=none:=by
 unfold brF;rw[List.find?_eq_none];intro d hd;have e3:dpF P=depA P 0 (progI P).length:=by unfold dpF;rw[hv];rfl
 rw[e3] at hd;have hlv:=zKK hd;obtain⟨a,k,rfl,k1,k2,k3⟩:=zIA hd;have hlv:lev P ((a:Nat):Int).toNat<lev P ((k:Nat):Int).toNat:=hlv;rw[iN,iN] at hlv;have h3:=zNe hp ho (show a<(progI P).length by omega) k2 hlv;unfold brk;show ¬(decide (plo _ ((k:Nat):Int).toNat<plo _ ((a:Nat):Int).toNat)=true);rw[iN,iN,decide_eq_true_eq];omega
theorem zKk{g:Nat->Int}{o k:List Int}(h:o.map (λx=>g x.toNat)=k.map (λx=>g x.toNat))(ho:o.Pairwise λx y=>g x.toNat<=g y.toNat):k.Pairwise λx y=>g x.toNat<=g y.toNat:=by
 have h1:(o.map (λx=>g x.toNat)).Pairwise (· <= ·):=List.pairwise_map.2 ho;rw[h] at h1;exact List.pairwise_map.1 h1
end Go.LN
namespace Go.LN
theorem zLr{P:zD}(hb:BG P)(hv:validP P=true){o:List Int}(hp:permB (progI P).length o=true)(ho:o.Pairwise (RR (lev P))):∀(j q:Nat),q+j=o.length->1<=q->wT P o (stL (progI P).length (lev P)) (q:Int)=some (.done ()):=by
 have aG:=(uC hv).2.2.2;obtain⟨⟨p1,p2⟩,p3⟩:=(fM _ _).1 hp;intro j
 induction j with
 | zero=>
  intro q hq h1;rw[wT];have:¬((q:Int)<(o.length:Int)):=by omega
  simp only[this,dF,bF,if_false,oP]
 | succ j ih=>
  intro q hq h1;obtain⟨i,rfl⟩:∃i,q=i+1:=⟨q - 1,by omega⟩;have hc:(((i+1:Nat):Int)<(o.length:Int)):=by omega
  have hi:i<o.length:=by omega
  have hi2:i+1<o.length:=by omega
  have eW:W (((i+1:Nat):Int) - 1)=(i:Int):=by rw[sI (by omega) (by omega)];omega
  have e1:idx o (i:Int)=some o[i]:=yM hi;have e2:idx o ((i+1:Nat):Int)=some o[i+1]:=yM hi2;have hr:=d7.1 ho i (i+1) hi hi2 (Nat.lt_succ_self i);have r1:=p1 o[i] (gM hi);have r2:=p1 o[i+1] (gM hi2);obtain⟨a,ha⟩:∃a:Nat,o[i]=(a:Int):=⟨o[i].toNat,by omega⟩;obtain⟨b,hb2⟩:∃b:Nat,o[i+1]=(b:Int):=⟨o[i+1].toNat,by omega⟩;rw[ha,hb2] at hr;rw[ha] at r1 e1;rw[hb2] at r2 e2;unfold RR at hr;rw[iN,iN] at hr;have g1:=jR (g:=lev P) (show a<(progI P).length by omega);have g2:=jR (g:=lev P) (show b<(progI P).length by omega);have hn:=ih (i+1+1) (by omega) (by omega);rw[wT];have c1:¬(lev P a>lev P b):=by omega
  simp only[hc,dT,if_true,eW,e1,e2,g1,g2,c1,dF,bF,if_false,oB,oS,oP];by_cases c2:lev P a=lev P b
  ·have c3:(lev P a==lev P b)=true:=by simpa using c2
   have hab:a<b:=by omega
   have c4:¬((a:Int)>=(b:Int)):=by omega
   have hd:dpb P (a:Int) (b:Int)=0:=by
    unfold dpb;rw[if_pos ⟨hv,by omega,by omega,by omega⟩,iN,iN];by_cases h:kindI P a b=0
    ·exact h
    ·have h4:=zKK (P:=P) (zMf hab (show b<(progI P).length by omega) h);have h4:lev P ((a:Nat):Int).toNat<lev P ((b:Nat):Int).toNat:=h4;rw[iN,iN] at h4;omega
   simp only[c3,c4,if_true,dF,bF,if_false,implDep P hb,hd,bne_self_eq_false,oS];rw[wL (by omega)];exact hn
  ·have c3:(lev P a==lev P b)=false:=by simpa using c2
   simp only[c3,bF,if_false,oS];rw[wL (by omega)];exact hn
theorem zLs(code more:List UInt8):∃r,kE code more=some r/\r=true:=by
 obtain⟨y,hy,hb,hAR⟩:=drawProg code;unfold kE;refine⟨true,?_,rfl⟩;have hd:pD code=some y:=by unfold pD;rw[hy];rfl
 by_cases h1:(code.length:Int)>1048576
 ·simp[h1]
 ·by_cases h2:(more.length:Int)>1048576
  ·simp[h1,h2]
  ·have aw:=zMl (P:=y);have hr:=zK9 (lvO y) (by omega);simp only[h1,h2,dF,bF,if_false,hd,implLO y hb,specLO y hb,implLevels y hb,implValidP y hb,hr,bT,oP,oB,oS,id];cases hv:validP y with
   | false=>simp only[dm,if_true,oS]
   | true=>
    have aG:=(uC hv).2.2.2;have hcr:=zIC y;have e1:lsF y=stL (progI y).length (lev y):=by unfold lsF;rw[hv];rfl
    obtain⟨o,ho⟩:∃o,o=lvO y:=⟨_,rfl⟩;have e2:o=ordA (lev y) (progI y).length 0 (crt y).toNat:=by rw[ho];unfold lvO;rw[hv];rfl
    have hp:permB (progI y).length o=true:=by rw[e2];exact zKj (zIF hv)
    have hpw:o.Pairwise (RR (lev y)):=by rw[e2];exact zF2 _ _ _ _
    have bJ:o.Pairwise λx z=>lev y x.toNat<=lev y z.toNat:=hpw.imp λh=>by unfold RR at h;omega
    rw[<- ho] at aw ⊢;clear e2 ho;obtain⟨⟨p1,p2⟩,p3⟩:=(fM _ _).1 hp;have happ:app 8 ([]:List Int) o=some o:=by rw[qT (by simp;omega),cr]
    have hleg:∀k:List Int,k.length<=120->permB (progI y).length k=true->(k.Pairwise λx z=>lev y x.toNat<=lev y z.toNat)->qS y k=some true:=λk k1 k2 k3=>by
     rw[implLegal y hb k (by omega),hv,k2,zLq hv k2 k3];rfl
    have hl1:wT y o (lsF y) 1=some (.done ()):=by
     rw[e1];by_cases h0:o.length=0
     ·rw[wT];have:¬((1:Int)<(o.length:Int)):=by omega
      simp only[this,dF,bF,if_false,oP]
     ·exact zLr hb hv hp hpw (o.length - 1) 1 (by omega) (by omega)
    simp only[bT,bF,if_false,hl1,happ,hleg o aw hp bJ,if_true,oS];by_cases h3:(o.length:Int)>1
    ·obtain⟨k,hk⟩:∃k,k=more.length % (o.length - 1):=⟨_,rfl⟩;have hkl:k<o.length - 1:=by rw[hk];exact Nat.mod_lt _ (by omega)
     have hW:W ((o.length:Int) - 1)=((o.length - 1:Nat):Int):=by rw[sI (by omega) (by omega)];omega
     have hrem:rem (more.length:Int) ((o.length - 1:Nat):Int)=some (k:Int):=by
      unfold rem;rw[if_neg (by omega),hk];rfl
     have i1:k<o.length:=by omega
     have i2:k+1<o.length:=by omega
     have x1:idx o (k:Int)=some o[k]:=yM i1;have x2:idx o ((k+1:Nat):Int)=some o[k+1]:=yM i2;have r1:=p1 o[k] (gM i1);have r2:=p1 o[k+1] (gM i2);obtain⟨a,ha⟩:∃a:Nat,o[k]=(a:Int):=⟨o[k].toNat,by omega⟩;obtain⟨b,hb2⟩:∃b:Nat,o[k+1]=(b:Int):=⟨o[k+1].toNat,by omega⟩;rw[ha] at x1 r1;rw[hb2] at x2 r2;have g1:=jR (g:=lev y) (show a<(progI y).length by omega);have g2:=jR (g:=lev y) (show b<(progI y).length by omega);simp only[h3,dT,if_true,hW,hrem,x1,e1,g1,oS];rw[wL (by omega)];simp only[x2,g2,oS];by_cases c:lev y a=lev y b
     ·have c1:(lev y a==lev y b)=true:=by simpa using c
      have x3:idx (o.set k (b:Int)) ((k+1:Nat):Int)=some (b:Int):=by
       rw[yM (by rw[cL];exact i2),List.getElem_set_ne (by omega),hb2]
      have hperm:((o.set k (b:Int)).set (k+1) (a:Int)).Perm o:=by
       rw[<- ha,<- hb2];exact List.set_set_perm i1 i2
      have hp2:permB (progI y).length ((o.set k (b:Int)).set (k+1) (a:Int))=true:=
       (fM _ _).2 ⟨⟨λx hx=>p1 x (hperm.mem_iff.1 hx),hperm.nodup_iff.2 p2⟩,by rw[hperm.length_eq];exact p3⟩
      have hmp:o.map (λx=>lev y x.toNat)=((o.set k (b:Int)).set (k+1) (a:Int)).map (λx=>lev y x.toNat):=by
       apply List.ext_getElem (by simp);intro i q1 q2;simp only[List.getElem_map,List.getElem_set];split
       ·rename_i e;subst e;rw[hb2,iN,iN,c]
       ·split
        ·rename_i e;subst e;rw[ha,iN,iN,c]
        ·rfl
      have hfin:=hleg _ (by rw[cL,cL];exact aw) hp2 (zKk hmp bJ);simp only[c1,if_true,x3,oS,iN,hfin]
     ·have c1:(lev y a==lev y b)=false:=by simpa using c
      simp only[c1,bF,if_false,oS,hleg o aw hp bJ]
    ·simp only[h3,dF,bF,if_false,oS,hleg o aw hp bJ]
end Go.LN
