/- Helper of the proof (see the last text). -/
import Derived.Test.YtkipogionmkncaaGreatDoorVB1
import Derived.Test.YtkipogionmkncaaGreatDoorQZ
import Derived.Lib.SplitLaws
set_option linter.unusedVariables false
set_option linter.unusedSimpArgs false
namespace Go.LN
theorem zAj{α:Type}{l:List α}{f:Int->List α->Option (List α)}(step:∀(i:Nat) (h:i<l.length) (o:List α),o.length=i->f (i:Int) o=f ((i+1:Nat):Int) (o++[l[i]]))(fin:∀o,f (l.length:Int) o=some o):f 0 []=some l:=by
 have fh:∀j i,i+j=l.length->f (i:Int) (l.take i)=some l:=by
  intro j
  induction j with
  | zero=>
   intro i hi;rw[show i=l.length by omega,fin,zb (zf _)]
  | succ j ih=>
   intro i hi;have aG:i<l.length:=by omega
   have:=ih (i+1) (by omega);rw[Ab,ya aG,Bc] at this;rw[step i aG _ (by rw[yl];omega)];exact this
 exact fh _ 0 (yv _)
theorem copyExpr:∀(m:Nat) (e:zF),BE m e->nS e=some e
 | m,e,h=>by
  obtain⟨h1,h2,h3⟩:=h.own
  rw[nS]
  have hl:=zAj (l:=e.Kids) (f:=λi o=>tN e i o) (λi hi o ho=>by
   show tN e (i:Int) o=_
   rw[tN]
   have k1:((i:Int)<(e.Kids.length:Int)):=by omega
   obtain⟨m',hm,hm'⟩:=h.kid (gM hi)
   have iw:app 112 o [e.Kids[i]]=some (o++[e.Kids[i]]):=sX (by simp;omega)
   have hr:=copyExpr m' e.Kids[i] hm'
   simp only[k1,dT,xu,yN hi,oB,oS,same,hr,iw]
   rw[wY (by omega)]) (λo=>by
   show tN e (e.Kids.length:Int) o=_
   rw[tN];simp)
  simp only[specCopyAff _ h1,specCopyAcc _ h2,oB,oS,same]
  rw[show tN e 0 []=some e.Kids from hl]
  clear hl h h1 h2 h3
  cases e;rfl
theorem copyStmt(s:zI)(h:BS s):eW s=some s:=by
 obtain⟨h1,m,h2⟩:=h;unfold eW;rw[specCopyAcc _ h1,copyExpr m _ h2];rfl
theorem copyNest(nest:List zD)(h:BN nest):jL nest=some nest:=by
 obtain⟨h1,h2⟩:=h;unfold jL;have hl:=zAj (l:=nest) (f:=λi o=>sU nest o i) (λi hi o ho=>by
  show sU nest o (i:Int)=_;rw[sU];have k1:((i:Int)<(nest.length:Int)):=by omega
  obtain⟨⟨q1,q2⟩,q3,q4⟩:=h2 _ (gM hi);have iw:app 48 o [nest[i]]=some (o++[nest[i]]):=sX (by simp;omega);have iy:=zAj (l:=nest[i].Lo) (f:=λk o=>pH nest (i:Int) k o) (λk hk o ho=>by
   show pH nest (i:Int) (k:Int) o=_;rw[pH];have k2:((k:Int)<(nest[i].Lo.length:Int)):=by omega
   have hp:app 32 o [nest[i].Lo[k]]=some (o++[nest[i].Lo[k]]):=sX (by simp;omega);have ha:=q2 _ (gM hk);have r6:app 8 ([]:List Int) nest[i].Lo[k].Coefs=some nest[i].Lo[k].Coefs:=zBt _ (by unfold BA at ha;omega);simp only[yN hi,k2,dT,xu,yN hk,oB,oS,r6,hp];rw[wY (by omega)]) (λo=>by
   show pH nest (i:Int) (nest[i].Lo.length:Int) o=_;rw[pH];simp[yN hi])
  have iI:=zAj (l:=nest[i].Hi) (f:=λk o=>pI nest (i:Int) k o) (λk hk o ho=>by
   show pI nest (i:Int) (k:Int) o=_;rw[pI];have k2:((k:Int)<(nest[i].Hi.length:Int)):=by omega
   have hp:app 32 o [nest[i].Hi[k]]=some (o++[nest[i].Hi[k]]):=sX (by simp;omega);have ha:=q4 _ (gM hk);have r6:app 8 ([]:List Int) nest[i].Hi[k].Coefs=some nest[i].Hi[k].Coefs:=zBt _ (by unfold BA at ha;omega);simp only[yN hi,k2,dT,xu,yN hk,oB,oS,r6,hp];rw[wY (by omega)]) (λo=>by
   show pI nest (i:Int) (nest[i].Hi.length:Int) o=_;rw[pI];simp[yN hi])
  simp only[k1,dT,xu,oB,oS,iy,iI,iw];rw[wY (by omega)]) (λo=>by
  show sU nest o (nest.length:Int)=_;rw[sU];simp)
 rw[hl];rfl
theorem copyProg(P:zH)(h:BG P):nI P=some P:=by
 obtain⟨⟨h1,ou⟩,h2,h3⟩:=h;unfold nI;have ha:=zAj (l:=P.Arrays) (f:=λi o=>pJ P i o) (λi hi o ho=>by
  show pJ P (i:Int) o=_;rw[pJ];have k1:((i:Int)<(P.Arrays.length:Int)):=by omega
  have hd:=ou _ (gM hi);have iw:app 40 o [P.Arrays[i]]=some (o++[P.Arrays[i]]):=sX (by simp;omega);have r6:app 8 ([]:List Int) P.Arrays[i].Dims=some P.Arrays[i].Dims:=zBt _ (by omega);simp only[k1,dT,xu,yN hi,oB,oS,r6,iw];rw[wY (by omega)]) (λo=>by
  show pJ P (P.Arrays.length:Int) o=_;rw[pJ];simp)
 have hp:=zAj (l:=P.Parts) (f:=λi o=>sV P i o) (λi hi o ho=>by
  show sV P (i:Int) o=_;rw[sV];have k1:((i:Int)<(P.Parts.length:Int)):=by omega
  obtain⟨b1,b2,b3⟩:=h3 _ (gM hi);have iw:app 48 o [P.Parts[i]]=some (o++[P.Parts[i]]):=sX (by simp;omega);have hb:=zAj (l:=P.Parts[i].Body) (f:=λk o=>pK P (i:Int) k o) (λk hk o ho=>by
   show pK P (i:Int) (k:Int) o=_;rw[pK];have k2:((k:Int)<(P.Parts[i].Body.length:Int)):=by omega
   have hp:app 152 o [P.Parts[i].Body[k]]=some (o++[P.Parts[i].Body[k]]):=sX (by simp;omega);simp only[yN hi,k2,dT,xu,yN hk,oB,oS,copyStmt _ (b3 _ (gM hk)),hp];rw[wY (by omega)]) (λo=>by
   show pK P (i:Int) (P.Parts[i].Body.length:Int) o=_;rw[pK];simp[yN hi])
  simp only[k1,dT,xu,yN hi,oB,oS,copyNest _ b1,hb,iw];rw[wY (by omega)]) (λo=>by
  show sV P (P.Parts.length:Int) o=_;rw[sV];simp)
 rw[ha,hp];rfl
theorem BE.up1:∀{n:Nat}{e:zF},BE n e->BE (n+1) e
 | 0,e,⟨h1,h2,h3⟩=>⟨h1,h2,by rw[h3];simp,by rw[h3];intro k hk;cases hk⟩
 | n+1,e,⟨h1,h2,h3,h4⟩=>⟨h1,h2,h3,λk hk=>BE.up1 (h4 k hk)⟩
theorem BE.up{n m:Nat}{e:zF}(h:BE n e)(hm:n<=m):BE m e:=by
 obtain⟨k,rfl⟩:=Nat.exists_eq_add_of_le hm
 induction k with
 | zero=>exact h
 | succ k ih=>exact BE.up1 (ih (by omega))
def QL(q:Nat)(l:List zA):Prop:=l.length<=q/\∀a∈l,BA a
def QN(q:Nat)(nest:List zD):Prop:=nest.length<=2000/\∀x∈nest,QL q x.Lo/\QL q x.Hi
def QS(q:Nat)(s:zI):Prop:=QL q s.Write.Subs/\BA s.Value.Index/\BL s.Value.Read.Subs/\s.Value.Kids.length<=q/\∀k∈s.Value.Kids,BE 6 k
theorem QL.up{q r:Nat}{l:List zA}(h:QL q l)(hq:q<=r):QL r l:=⟨zw h.1 hq,h.2⟩
theorem QL.bl{q:Nat}{l:List zA}(h:QL q l)(hq:q<=1000):BL l:=⟨zw h.1 hq,h.2⟩
theorem QL.app{q k:Nat}{l m:List zA}(h:QL q l)(hm:QL k m):QL (q+k) (l++m):=by
 refine⟨by rw[lA];exact Nat.add_le_add h.1 hm.1,λa ha=>?_⟩;rcases yr.1 ha with ha|ha
 ·exact h.2 a ha
 ·exact hm.2 a ha
theorem QL.nil{q:Nat}:QL q []:=⟨zt _,λ_ h=>by cases h⟩
theorem QL.one{a:zA}(h:BA a):QL 1 [a]:=⟨zf _,λ_ h'=>yq.1 h' ▸ h⟩
theorem QL.two{a b:zA}(h:BA a)(h2:BA b):QL 2 [a,b]:=QL.app (QL.one h) (QL.one h2)
theorem QN.up{q r:Nat}{l:List zD}(h:QN q l)(hq:q<=r):QN r l:=⟨h.1,λx hx=>⟨(h.2 x hx).1.up hq,(h.2 x hx).2.up hq⟩⟩
theorem QN.bn{q:Nat}{l:List zD}(h:QN q l)(hq:q<=1000):BN l:=⟨by have:=h.1;omega,λx hx=>⟨(h.2 x hx).1.bl hq,(h.2 x hx).2.bl hq⟩⟩
theorem QN.set{q:Nat}{l:List zD}(h:QN q l){x:zD}(hx:QL q x.Lo/\QL q x.Hi)(k:Nat):QN q (l.set k x):=⟨by rw[zk];exact h.1,zBQ h.2 hx k⟩
theorem QS.up{q r:Nat}{s:zI}(h:QS q s)(hq:q<=r):QS r s:=⟨h.1.up hq,h.2.1,h.2.2.1,zw h.2.2.2.1 hq,h.2.2.2.2⟩
theorem QS.bs{q:Nat}{s:zI}(h:QS q s)(hq:q<=1000):BS s:=⟨h.1.bl hq,7,h.2.1,h.2.2.1,by have:=h.2.2.2.1;omega,h.2.2.2.2⟩
theorem zJn{a:zA}(h:a.Coefs.length=4):BA a:=by unfold BA;omega
theorem zMp(q:Nat):∀(j:Nat) (out:List zD),5<=out.length+j->1<=out.length->QN q out->Ok (oQ out) (QN q)
 | 0,out,hj,h1,h=>by
  rw[oQ]
  refine Ok.ite_dec (λhc=>absurd hc (by omega)) λ_=>Ok.pure h
 | j+1,out,hj,h1,h=>by
  rw[oQ]
  refine Ok.ite_dec (λhc=>?_) λ_=>Ok.pure h
  refine Ok.idx (by omega) (by omega) λx hx _=>Ok.app (by simp;omega) ?_
  refine zMp q j _ (by rw[lA];simp;omega) (by rw[lA];omega) ⟨by rw[lA];simp;omega,λy hy=>?_⟩
  rcases yr.1 hy with hy|hy
  ·exact h.2 y hy
  ·rw[yq.1 hy];exact h.2 x hx
theorem mut2(q:Nat)(hq:q<=300)(r:zP)(nest:List zD)(h:QN q nest)(h0:0<=r.p)(h1:r.p<=900000000):Ok (jC r nest) (λy=>QN (q+2) y.1/\0<=y.2.p/\y.2.p<=r.p+2):=by
 have hup:=h.up (show q<=q+2 by omega);unfold jC;rw[copyNest nest (h.bn (by omega))];refine Ok.bind_some (Ok.ite_beq (λ_=>Ok.pure ⟨hup,h0,by dsimp only;omega⟩) λcT=>?_);have jq:0<nest.length:=by omega
 have aP:=h.1;have hW:W ((nest.length:Int) - 1)=((nest.length - 1:Nat):Int):=by rw[tV (by omega) (by omega)];omega
 refine Ok.call (eK r 40) ⟨h0,by omega⟩ λy2 s g1 g2 g3=>?_;refine Ok.ite_beq (λ_=>?_) λ_=>Ok.ite_beq (λ_=>?_) λ_=>Ok.ite_beq (λ_=>?_) λ_=>Ok.ite_beq (λ_=>?_) λ_=>Ok.ite_beq (λ_=>?_) λ_=>?_
 ·refine Ok.idx (by omega) (by omega) λx hx _=>Ok.call (eK s 2) ⟨by omega,by omega⟩ λy5 s2 k1 k2 k3=>Ok.call (zEK y5) ⟨k1,by omega⟩ λa c1 c2=>?_;have uh:=h.2 x hx;refine Ok.app (by have:=uh.1.1;simp;omega) (Ok.pure ⟨QN.set (x:=⟨x.Lo++[a],x.Hi⟩) hup ⟨(uh.1.app (QL.one (zJn c1))).up (show q+1<=q+2 by omega),uh.2.up (show q<=q+2 by omega)⟩ _,by dsimp only;omega,by dsimp only;omega⟩)
 ·rw[hW];refine Ok.idx (by omega) (by omega) λx hx _=>?_;have uh:=h.2 x hx;exact Ok.pure ⟨QN.set (x:=⟨x.Lo,[]⟩) hup ⟨uh.1.up (show q<=q+2 by omega),QL.nil⟩ _,by dsimp only;omega,by dsimp only;omega⟩
 ·rw[hW];refine Ok.idx (by omega) (by omega) λx hx _=>Ok.call (gQ 1) trivial (Ok.call (gQ 2) trivial ?_);have uh:=h.2 x hx;exact Ok.app (by have:=uh.2.1;simp;omega) (Ok.pure ⟨QN.set (x:=⟨x.Lo,x.Hi++[⟨[0,0,0,0],1⟩,⟨[0,0,0,0],2⟩]⟩) hup ⟨uh.1.up (show q<=q+2 by omega),uh.2.app (QL.two (zJn rfl) (zJn rfl))⟩ _,by dsimp only;omega,by dsimp only;omega⟩)
 ·refine Ok.call (gQ 99) trivial (Ok.idx (by omega) (by omega) λx hx _=>?_);have uh:=h.2 x hx;exact Ok.pure ⟨QN.set (x:=⟨x.Lo,[⟨[0,0,0,0],99⟩]⟩) hup ⟨uh.1.up (show q<=q+2 by omega),(QL.one (zJn rfl)).up (show 1<=q+2 by omega)⟩ _,by dsimp only;omega,by dsimp only;omega⟩
 ·refine Ok.bind (zMp q 5 nest (by omega) jq h) λz hz=>Ok.pure ⟨hz.up (by omega),by dsimp only;omega,by dsimp only;omega⟩
 ·exact Ok.pure ⟨hup,by dsimp only;omega,by dsimp only;omega⟩
theorem mut3(q:Nat)(hq:q<=300)(r:zP)(s:zI)(h:QS q s)(h0:0<=r.p)(h1:r.p<=900000000):Ok (pC r s) (λy=>QS (q+2) y.1/\0<=y.2.p/\y.2.p<=r.p+2):=by
 obtain⟨w1,w2,w3,w4,w5⟩:=h.up (show q<=q+2 by omega);obtain⟨v1,_,_,v4,_⟩:=id h;have v11:=v1.1;unfold pC;rw[copyStmt s (h.bs (by omega))];refine Ok.bind_some (Ok.call (eK r 40) ⟨h0,by omega⟩ λy2 y3 g1 g2 g3=>?_);have fin:∀(o:Str×List zA×Int×Int×List zF×zP),(QL (q+2) o.2.1/\(o.2.2.2.2.1.length<=q+2/\∀k∈o.2.2.2.2.1,BE 6 k)/\0<=o.2.2.2.2.2.p/\o.2.2.2.2.2.p<=r.p+2)->QS (q+2) (zI.mk (zJ.mk o.1 o.2.1) (zF.mk o.2.2.1 o.2.2.2.1 s.Value.Index s.Value.Read o.2.2.2.2.1))/\0<=o.2.2.2.2.2.p/\o.2.2.2.2.2.p<=r.p+2:=
  λo ⟨a,b,c⟩=>⟨⟨a,w2,w3,b.1,b.2⟩,c⟩
 refine Ok.bind (φ:=λo:Str×List zA×Int×Int×List zF×zP=>QL (q+2) o.2.1/\(o.2.2.2.2.1.length<=q+2/\∀k∈o.2.2.2.2.1,BE 6 k)/\0<=o.2.2.2.2.2.p/\o.2.2.2.2.2.p<=r.p+2) ?_ λo ho=>by
  obtain⟨o1,o2,o3,o4,o5,o6⟩:=o;exact Ok.pure (fin _ ho)
 refine Ok.ite_beq (λ_=>?_) λ_=>?_
 ·exact Ok.call (zBP y3 _) ⟨by decide,by omega,by omega⟩ λz t _ k3=>Ok.pure ⟨w1,⟨w4,w5⟩,by dsimp only;omega,by dsimp only;omega⟩
 refine Ok.bind (φ:=λo:List zA×Int×Int×List zF×zP=>QL (q+2) o.1/\(o.2.2.2.1.length<=q+2/\∀k∈o.2.2.2.1,BE 6 k)/\0<=o.2.2.2.2.p/\o.2.2.2.2.p<=r.p+2) ?_ λo ho=>by
  obtain⟨o2,o3,o4,o5,o6⟩:=o;exact Ok.pure ho
 refine Ok.ite_beq (λ_=>?_) λ_=>?_
 ·exact Ok.call (zEK 3) (by omega) λa c1 c2=>Ok.call zAg trivial (Ok.app (by simp;omega) (Ok.pure ⟨v1.app (QL.two (zJn c1) (zJn rfl)),⟨w4,w5⟩,by dsimp only;omega,by dsimp only;omega⟩))
 refine Ok.bind (φ:=λo:Int×Int×List zF×zP=>(o.2.2.1.length<=q+2/\∀k∈o.2.2.1,BE 6 k)/\0<=o.2.2.2.p/\o.2.2.2.p<=r.p+2) ?_ λo ho=>by
  obtain⟨o3,o4,o5,o6⟩:=o;exact Ok.pure ⟨w1,ho⟩
 refine Ok.ite_beq (λ_=>?_) λ_=>?_
 ·exact Ok.call (rF y3 _) ⟨by decide,by omega,by omega,by decide⟩ λz t _ _ k3=>Ok.pure ⟨⟨w4,w5⟩,by dsimp only;omega,by dsimp only;omega⟩
 refine Ok.bind (φ:=λo:Int×List zF×zP=>(o.2.1.length<=q+2/\∀k∈o.2.1,BE 6 k)/\0<=o.2.2.p/\o.2.2.p<=r.p+2) ?_ λo ho=>by
  obtain⟨o4,o5,o6⟩:=o;exact Ok.pure ho
 refine Ok.ite_beq (λ_=>?_) λ_=>?_
 ·exact Ok.call (rF y3 _) ⟨by decide,by omega,by omega,by decide⟩ λz t _ _ k3=>Ok.pure ⟨⟨w4,w5⟩,by dsimp only;omega,by dsimp only;omega⟩
 refine Ok.bind (φ:=λo:List zF=>o.length<=q+2/\∀k∈o,BE 6 k) ?_ λo ho=>Ok.pure ⟨ho,by dsimp only;omega,by dsimp only;omega⟩;refine Ok.ite_beq (λ_=>?_) λ_=>Ok.pure ⟨w4,w5⟩;refine Ok.app (by show (_+1)*112<=_;omega) (Ok.pure ⟨by show (_++_:List zF).length<=_;rw[lA];show _+1<=_;omega,λk hk=>?_⟩);rcases yr.1 hk with hk|hk
 ·exact w5 k hk
 ·rw[yq.1 hk];exact BE.up (n:=0) ⟨zt _,⟨zt _,λ_ h=>by cases h⟩,rfl⟩ (by omega)
def DX(x:zL):Prop:=QN 100 x.Nest/\x.Body.length<=1000/\∀s∈x.Body,QS 100 s
def DP(P:zH):Prop:=(P.Arrays.length<=1000/\∀a∈P.Arrays,a.Dims.length<=1000)/\P.Parts.length<=1000/\∀x∈P.Parts,DX x
theorem DX.bp{x:zL}(h:DX x):BP x:=⟨h.1.bn (by omega),by have:=h.2.1;omega,λs hs=>(h.2.2 s hs).bs (by omega)⟩
theorem DP.bg{P:zH}(h:DP P):BG P:=⟨⟨by have:=h.1.1;omega,h.1.2⟩,by have:=h.2.1;omega,λx hx=>(h.2.2 x hx).bp⟩
def PB(l:List zL):Prop:=l.length<=1000/\∀x∈l,BP x
theorem PB.set{l:List zL}(h:PB l){x:zL}(hx:BP x)(k:Nat):PB (l.set k x):=⟨by rw[zk];exact h.1,zBQ h.2 hx k⟩
def AR(l:List zE):Prop:=l.length<=2000/\∀a∈l,a.Dims.length<=1000
def RD(s:zP):Prop:=0<=s.p/\s.p<=700001000
theorem mut4(r:zP)(P:zH)(h:DP P)(h0:0<=r.p)(h1:r.p<=700000000):Ok (mH r P) (λy=>(BG y.1/\AR y.1.Arrays)/\RD y.2):=by
 obtain⟨⟨a1,a2⟩,p1,p2⟩:=id h;have hA:AR P.Arrays:=⟨by omega,a2⟩;have hP:PB P.Parts:=⟨p1,λx hx=>(p2 x hx).bp⟩;have hW:0<P.Parts.length->W ((P.Parts.length:Int) - 1)=((P.Parts.length - 1:Nat):Int):=λhp=>by rw[tV (by omega) (by omega)];omega
 unfold mH;rw[copyProg P h.bg];refine Ok.bind_some (Ok.call (eK r 60) ⟨h0,by omega⟩ λy2 y3 g1 g2 g3=>?_);have hR:RD y3:=⟨by omega,by omega⟩;refine Ok.bind (φ:=λo:List zE×List zL×zP=>AR o.1/\PB o.2.1/\RD o.2.2) ?_ λo ho=>by
  obtain⟨o1,o2,o3⟩:=o;exact Ok.pure ⟨⟨⟨⟨by have:=ho.1.1;dsimp only at this ⊢;omega,ho.1.2⟩,by have:=ho.2.1.1;dsimp only at this ⊢;omega,ho.2.1.2⟩,ho.1⟩,ho.2.2⟩
 refine Ok.ite_beq (λ_=>?_) λ_=>?_
 ·refine Ok.call (zBP y3 _) ⟨by decide,by omega,by omega⟩ λz t _ k3=>Ok.call (rF t _) ⟨by decide,by omega,by omega,by decide⟩ λz2 t2 _ _ k4=>Ok.app (by show (_+1)*40<=_;omega) (Ok.pure ⟨⟨by show (_++_:List zE).length<=_;rw[lA];show _+1<=_;omega,λa ha=>?_⟩,hP,⟨by dsimp only;omega,by dsimp only;omega⟩⟩);rcases yr.1 ha with ha|ha
  ·exact a2 a ha
  ·rw[yq.1 ha];show 1<=1000;omega
 refine Ok.bind (φ:=λo:List zE×List zL×zP=>AR o.1/\PB o.2.1/\RD o.2.2) ?_ λo ho=>by
  obtain⟨o1,o2,o3⟩:=o;exact Ok.pure ho
 refine Ok.ite_beq (λ_=>?_) λ_=>?_
 ·refine Ok.bind (φ:=λo:List zE×zP=>AR o.1/\RD o.2) ?_ λo ho=>by
   obtain⟨o1,o3⟩:=o;exact Ok.pure ⟨ho.1,hP,ho.2⟩
  refine Ok.ite_dec (λhc=>?_) λ_=>Ok.pure ⟨hA,hR⟩;refine Ok.call (rF y3 _) ⟨by decide,by omega,by omega,by decide⟩ λz t _ _ k3=>Ok.idx (by omega) (by omega) λx hx _=>Ok.bind_pure (Ok.pure ⟨⟨by show (List.set _ _ _).length<=_;rw[zk];exact hA.1,zBQ hA.2 (show ([z]:List Int).length<=1000 by simp) _⟩,⟨by dsimp only;omega,by dsimp only;omega⟩⟩)
 refine Ok.bind (φ:=λo:List zL×zP=>PB o.1/\RD o.2) ?_ λo ho=>by
  obtain⟨o1,o3⟩:=o;exact Ok.pure ⟨hA,ho⟩
 refine Ok.ite_beq (λ_=>?_) λ_=>?_
 ·refine Ok.bind (φ:=λo:List zL×zP=>PB o.1/\RD o.2) ?_ λo ho=>by
   obtain⟨o1,o3⟩:=o;exact Ok.pure ho
  refine Ok.ite_dec (λhc=>?_) λ_=>Ok.pure ⟨hP,hR⟩;refine Ok.idx (by omega) (by omega) λx hx _=>?_;refine Ok.bind (mut2 100 (by omega) y3 x.Nest (p2 x hx).1 (by omega) (by omega)) λq1 k1=>?_;obtain⟨n1,s1⟩:=q1;obtain⟨c1,c2,c3⟩:=k1;refine Ok.bind (mut2 (100+2) (by omega) s1 n1 c1 c2 (by dsimp only at c3;omega)) λq2 k2=>?_;obtain⟨n2,s2⟩:=q2;obtain⟨d1,d2,d3⟩:=k2;refine Ok.bind (mut2 (100+2+2) (by omega) s2 n2 d1 d2 (by dsimp only at c3 d3;omega)) λq3 k3=>?_;obtain⟨n,s⟩:=q3;have hn:=k3.1;refine Ok.idx (by omega) (by omega) λx7 hx7 _=>Ok.bind_pure (Ok.pure ⟨hP.set (x:=⟨n,x7.Body⟩) ⟨hn.bn (by omega),(p2 x7 hx7).bp.2.1,(p2 x7 hx7).bp.2.2⟩ _,⟨k3.2.1,by have:=k3.2.2;dsimp only at this c3 d3 ⊢;omega⟩⟩)
 refine Ok.bind (φ:=λo:List zL×zP=>PB o.1/\RD o.2) ?_ λo ho=>by
  obtain⟨o1,o3⟩:=o;exact Ok.pure ho
 refine Ok.ite_beq (λ_=>?_) λ_=>?_
 ·refine Ok.bind (φ:=λb=>b=true->0<P.Parts.length/\∀x,P.Parts[P.Parts.length - 1]?=some x->0<x.Body.length) ?_ λb hb=>?_
  ·refine Ok.ite_dec (λhc=>?_) λ_=>Ok.pure (λh=>by cases h);have hp:0<P.Parts.length:=by omega
   rw[hW hp];refine Ok.idx (by omega) (by omega) λx hx he=>Ok.pure λhd=>⟨hp,λx' cG=>?_⟩;rw[iN] at he;rw[he] at cG;cases cG
   have:=of_decide_eq_true hd;omega
  ·refine Ok.bind (φ:=λo:List zL×zP=>PB o.1/\RD o.2) ?_ λo ho=>by
    obtain⟨o1,o3⟩:=o;exact Ok.pure ho
   refine Ok.ite (λhc=>?_) λ_=>Ok.pure ⟨hP,hR⟩;obtain⟨hp,hbody⟩:=hb hc;rw[hW hp];refine Ok.idx (by omega) (by omega) λx hx he=>?_;rw[iN] at he;have hb0:=hbody x he;have hdx:=p2 x hx;refine Ok.idx (by omega) (by omega) λx0 hx0 _=>?_;refine Ok.bind (mut3 100 (by omega) y3 x0 (hdx.2.2 x0 hx0) (by omega) (by omega)) λq1 k1=>?_;obtain⟨n1,s1⟩:=q1;obtain⟨c1,c2,c3⟩:=k1;refine Ok.bind (mut3 (100+2) (by omega) s1 n1 c1 c2 (by dsimp only at c3;omega)) λq2 k2=>?_;obtain⟨n2,s2⟩:=q2;obtain⟨d1,d2,d3⟩:=k2;refine Ok.bind (mut3 (100+2+2) (by omega) s2 n2 d1 d2 (by dsimp only at c3 d3;omega)) λq3 k3=>?_;obtain⟨n,s⟩:=q3;have hn:=k3.1;refine Ok.bind_pure (Ok.pure ⟨hP.set (x:=⟨x.Nest,x.Body.set 0 n⟩) ⟨hdx.bp.1,by rw[zk];exact hdx.bp.2.1,zBQ hdx.bp.2.2 (hn.bs (by omega)) _⟩ _,⟨k3.2.1,by have:=k3.2.2;dsimp only at this c3 d3 ⊢;omega⟩⟩)
 refine Ok.bind (φ:=λo:List zL=>PB o) ?_ λo ho=>Ok.pure ⟨ho,hR⟩;refine Ok.ite_beq (λ_=>?_) λ_=>Ok.pure hP;refine Ok.bind (φ:=λo:List zL=>PB o) ?_ λo ho=>Ok.pure ho;refine Ok.ite_dec (λhc=>?_) λ_=>Ok.pure hP;have hp:0<P.Parts.length:=by omega
 rw[hW hp];refine Ok.idx (by omega) (by omega) λx hx he=>Ok.bind_pure (Ok.pure (hP.set (x:=⟨x.Nest,[]⟩) ⟨(p2 x hx).bp.1,by show 0<=100000;omega,λ_ h=>by cases h⟩ _))
theorem SE.be:∀{n:Nat}{e:zF},SE n e->BE n e
 | 0,e,⟨h1,h2,h3⟩=>⟨by have:=h1.1;unfold BA;omega,⟨by have:=h2.2.1;omega,λa ha=>by have:=(h2.2.2 a ha).1;unfold BA;omega⟩,h3⟩
 | n+1,e,⟨h1,h2,h3,h4⟩=>⟨by have:=h1.1;unfold BA;omega,⟨by have:=h2.2.1;omega,λa ha=>by have:=(h2.2.2 a ha).1;unfold BA;omega⟩,by omega,λk hk=>SE.be (h4 k hk)⟩
theorem SS.qs{s:zI}(h:SS s):QS 100 s:=by
 obtain⟨h1,h2⟩:=h;have hb:=SE.be h2;exact⟨⟨h1.2.1,λa ha=>by have:=(h1.2.2 a ha).1;unfold BA;omega⟩,hb.1,hb.2.1,by have:=h2.2.2.1;omega,λk hk=>BE.up (n:=4) (m:=6) (hb.2.2.2 k hk) (by omega)⟩
theorem LL.ql{l:List zA}(h:LL l):QL 100 l:=⟨h.1,λa ha=>by have:=(h.2 a ha).1;unfold BA;omega⟩
theorem SG.dp{P:zH}(h:SG 1000 P):DP P:=by
 obtain⟨⟨h1,h2⟩,h3,h4⟩:=h;refine⟨⟨h1,λa ha=>by have:=(h2 a ha).2;omega⟩,h3,λx hx=>?_⟩;obtain⟨⟨k1,k2⟩,k3,k4⟩:=h4 x hx;exact⟨⟨by omega,λy hy=>⟨(k2 y hy).1.ql,(k2 y hy).2.ql⟩⟩,k3,λs hs=>(k4 s hs).qs⟩
theorem drawProg(bo:List UInt8):Ok (oY bo) (λy=>BG y/\AR y.Arrays):=by
 unfold oY;refine Ok.call (zHK bo) trivial λs hs=>Ok.call (zIa s) ⟨by omega,by omega⟩ λa t g1 g2 g3=>?_;refine Ok.bind (mut4 t a g1.dp (by omega) (by omega)) λp hp=>?_;obtain⟨p1,p2⟩:=p;exact Ok.pure hp.1
def DA(x:zE):Prop:=(∃d,x.Dims=[d]/\1<=d/\d<=6)∨∃d e,x.Dims=[d,e]/\(1<=d/\d<=6)/\1<=e/\e<=6
def GA(l:List zE):Prop:=l.length<=4/\(∀x∈l,DA x)/\l.Pairwise λx y=>x.Name.l ≠ y.Name.l
theorem mul36{d e:Int}(h1:1<=d)(h2:d<=6)(h3:1<=e)(h4:e<=6):1<=d*e/\d*e<=36:=by
 have:d=1∨d=2∨d=3∨d=4∨d=5∨d=6:=by omega
 rcases this with rfl|rfl|rfl|rfl|rfl|rfl <;> omega
theorem zQj{x:zE}{d:Int}(h:x.Dims=[d])(h1:1<=d)(h2:d<=6):sizeF x=d:=by
 unfold sizeF;rw[h,szL,szL,Int.one_mul,tV (by omega) (by omega)]
theorem zQk{x:zE}{d e:Int}(h:x.Dims=[d,e])(h1:1<=d)(h2:d<=6)(h3:1<=e)(h4:e<=6):sizeF x=d*e:=by
 unfold sizeF;have:=mul36 h1 h2 h3 h4;rw[h,szL,szL,szL,Int.one_mul,tV (x:=d) (by omega) (by omega),tV (by omega) (by omega)]
theorem DA.size{x:zE}(h:DA x):1<=sizeF x/\sizeF x<=36:=by
 rcases h with⟨d,h,h1,h2⟩|⟨d,e,h,⟨h1,h2⟩,h3,h4⟩
 ·rw[zQj h h1 h2];omega
 ·rw[zQk h h1 h2 h3 h4];exact mul36 h1 h2 h3 h4
def nm(l:List zE)(i:Nat):Nat:=match (l.getD i ⟨⟨[]⟩,[]⟩).Name.l with|c::_=>c.toNat|[]=>0
def c0(n:Int):zA:=⟨[0,0,0,0],n⟩
def Ch{α:Type}(R:α->α->Prop):List α->Prop
 | a::b::l=>R a b/\Ch R (b::l)
 | _=>True
theorem Ch.append{α:Type}{R:α->α->Prop}:∀{l m:List α},Ch R l->Ch R m->(∀a∈l,∀b∈m,R a b)->Ch R (l++m)
 | [],m,_,h2,_=>h2
 | [a],[],_,_,_=>trivial
 | [a],b::m,_,h2,h=>⟨h a (xz ..) b (xz ..),h2⟩
 | a::b::l,m,h1,h2,h=>⟨h1.1,Ch.append (l:=b::l) h1.2 h2 λx hx=>h x (xx _ hx)⟩
theorem Ch.flat{α β:Type}{R:β->β->Prop}{f:α->List β}:∀{l:List α},(∀x∈l,Ch R (f x))->(l.Pairwise λx y=>∀a∈f x,∀b∈f y,R a b)->Ch R (l.flatMap f)
 | [],_,_=>trivial
 | x::l,h1,h2=>by
  rw[yf]
  have h2':=List.pairwise_cons.1 h2
  refine Ch.append (h1 x (xz ..)) (Ch.flat (λy hy=>h1 y (xx _ hy)) h2'.2) λa ha b hb=>?_
  obtain⟨y,hy,hb⟩:=zd.1 hb
  exact h2'.1 y hy a ha b hb
theorem Ch.get{α:Type}{R:α->α->Prop}:∀{l:List α} (i:Nat) (h:i+1<l.length),Ch R l->R l[i] l[i+1]
 | a::b::l,0,_,hc=>hc.1
 | a::b::l,i+1,h,hc=>Ch.get (l:=b::l) i (by simpa using h) hc.2
 | [a],i,h,_=>by simp at h
 | [],i,h,_=>by simp at h
theorem AV.bl{a:zJ}(h:AV a):BL a.Subs:=⟨by have:=h.2.1;omega,λs hs=>by have:=h.2.2 s hs;unfold BA;omega⟩
def eqL{α:Type}(q:α->α->Bool):List α->List α->Bool
 | [],[]=>true
 | x::a,y::b=>q x y&&eqL q a b
 | _,_=>false
theorem zKW{α:Type}{a b:List α}(hl:a.length=b.length){q:α->α->Bool}{f:Int->Option (Out Unit Bool)}(step:∀(i:Nat) (h1:i<a.length) (h2:i<b.length),f (i:Int)=if q a[i] b[i] then f ((i+1:Nat):Int) else some (.ret false))(fin:f (a.length:Int)=some (.done ())):f 0=some (if eqL q a b then .done () else .ret false):=by
 have fh:∀(j i:Nat),i+j=a.length->f (i:Int)=some (if eqL q (a.drop i) (b.drop i) then .done () else .ret false):=by
  intro j
  induction j with
  | zero=>
   intro i hi;rw[show i=a.length by omega,fin,dN.2 (zf a.length),dN.2 (show b.length<=a.length by omega)];rfl
  | succ j ih=>
   intro i hi;have h1:i<a.length:=by omega
   have h2:i<b.length:=by omega
   rw[step i h1 h2,ih (i+1) (by omega),gC h1,gC h2,eqL];cases q a[i] b[i] <;> rfl
 have:=fh a.length 0 (yv _);rwa[nZ,yn,yn] at this
theorem zHj{α:Type}{q:α->α->Bool}:∀{a b:List α},a.length ≠ b.length->eqL q a b=false
 | [],[],h=>absurd rfl h
 | [],_::_,_=>rfl
 | _::_,[],_=>rfl
 | x::a,y::b,h=>by rw[eqL,zHj (by simpa using h),Bool.and_false]
def eqI(a b:List Int):Bool:=eqL (λx y=>x==y) a b
theorem implEqI(a b:List Int)(h:a.length<=1048576):pP a b=some (eqI a b):=by
 unfold pP eqI;by_cases hl:a.length=b.length
 ·have hf:=zKW (q:=λx y=>x==y) hl (f:=tF a b) (λi h1 h2=>by
   rw[tF];have c:((i:Int)<(a.length:Int)):=by omega
   simp only[c,dT,xu,yN h1,yN h2,oB,oS,oP];rw[wY (by omega)];by_cases e:a[i]=b[i]
   ·simp[e]
   ·simp[e]) (by rw[tF];simp)
  have e:((a.length:Int) != (b.length:Int))=false:=by simp[hl]
  rw[hf,e];cases eqL (λx y=>x==y) a b <;> rfl
 ·have e:((a.length:Int) != (b.length:Int))=true:=by simp;omega
  rw[e,zHj hl];rfl
def afB(x y:zA):Bool:=eqI x.Coefs y.Coefs&&x.Const==y.Const
theorem implAff(x y:zA)(h:x.Coefs.length<=1048576):wU x y=some (afB x y):=by
 unfold wU afB;rw[implEqI _ _ h];cases eqI x.Coefs y.Coefs <;> rfl
theorem GA.ne{l:List zE}(hg:GA l){i j:Nat}(hi:i<l.length)(hj:j<l.length)(h:i ≠ j):l[i].Name.l ≠ l[j].Name.l:=by
 have hp:=List.pairwise_iff_getElem.1 hg.2.2;rcases Nat.lt_or_gt_of_ne h with k|k
 ·exact hp i j hi hj k
 ·exact(hp j i hj hi k).symm
theorem GA.set{l:List zE}(hg:GA l){k:Nat}(hk:k<l.length){y:zE}(hn:y.Name.l=l[k].Name.l)(hy:DA y):GA (l.set k y):=by
 refine⟨by rw[zk];exact hg.1,zBQ hg.2.1 hy k,List.pairwise_iff_getElem.2 λi j hi hj hij=>?_⟩;rw[zk] at hi hj;rw[List.getElem_set,List.getElem_set];by_cases h1:k=i
 ·rw[if_pos h1,if_neg (by omega),hn];exact hg.ne hk hj (by omega)
 ·rw[if_neg h1];by_cases h2:k=j
  ·rw[if_pos h2,hn];exact hg.ne hi hk (by omega)
  ·rw[if_neg h2];exact hg.ne hi hj (by omega)
theorem DA.arr{x:zE}(h:DA x):(1<=x.Dims.length/\x.Dims.length<=2)/\x.Dims.all dimB=true:=by
 rcases h with⟨d,h,k1,k2⟩|⟨d,e,h,⟨k1,k2⟩,k3,k4⟩
 ·rw[h];simp[dimB,k1,k2]
 ·rw[h];simp[dimB,k1,k2,k3,k4]
def leD:List Int->List Int->Prop
 | [],[]=>True
 | x::xs,y::ys=>x<=y/\leD xs ys
 | [],_::_=>False
 | _::_,[]=>False
theorem leD.refl:∀d:List Int,leD d d
 | []=>trivial
 | x::d=>⟨Int.le_refl _,leD.refl d⟩
theorem leD.trans:∀{a b c:List Int},leD a b->leD b c->leD a c
 | [],[],[],_,_=>trivial
 | x::a,y::b,z::c,h,k=>⟨Int.le_trans h.1 k.1,leD.trans h.2 k.2⟩
theorem leD.len:∀{a b:List Int},leD a b->a.length=b.length
 | [],[],_=>rfl
 | x::a,y::b,h=>by rw[xy,xy,h.2.len]
theorem zEL{α:Type}{q:α->α->Bool}(hq:∀x y,q x y=true↔x=y):∀{a b:List α},eqL q a b=true↔a=b
 | [],[]=>by simp[eqL]
 | [],_::_=>by simp[eqL]
 | _::_,[]=>by simp[eqL]
 | x::a,y::b=>by rw[eqL,bA,hq,zEL hq,List.cons.injEq]
theorem zMq{a b:List Int}:eqI a b=true↔a=b:=zEL (λx y=>by simp)
theorem zHk(x y:zA):afB x y=true↔x=y:=by
 cases x;cases y
 unfold afB;rw[bA,zMq];simp
def lpB(x y:zD):Bool:=eqL afB x.Lo y.Lo&&eqL afB x.Hi y.Hi
theorem zPl(x y:zD):lpB x y=true↔x=y:=by
 cases x;cases y
 unfold lpB;rw[bA,zEL zHk,zEL zHk];simp
theorem zPm{a b:List zD}:eqL lpB a b=true↔a=b:=zEL zPl
theorem implSd(a b:List zA)(ha:BL a):yL a b wU=some (eqL afB a b):=by
 have hb:=ha.1;unfold yL;by_cases hl:a.length=b.length
 ·have hf:=zKW (q:=afB) hl (f:=yJ a b wU) (λi h1 h2=>by
   rw[yJ];have c:((i:Int)<(a.length:Int)):=by omega
   have hc:=ha.2 _ (gM h1);simp only[c,dT,xu,yN h1,yN h2,implAff _ _ (show a[i].Coefs.length<=1048576 by unfold BA at hc;omega),oB,oS,oP];rw[wY (by omega)];cases afB a[i] b[i] <;> rfl) (by rw[yJ];simp)
  have e:((a.length:Int) != (b.length:Int))=false:=by simp[hl]
  rw[hf,e];cases eqL afB a b <;> rfl
 ·have e:((a.length:Int) != (b.length:Int))=true:=by simp;omega
  rw[e,zHj hl];rfl
theorem implNs(a b:List zD)(ha:BN a):eJ a b=some (eqL lpB a b):=by
 have hb:=ha.1;unfold eJ wK;by_cases hl:a.length=b.length
 ·have hf:=zKW (q:=lpB) hl (f:=yR a b oC) (λi h1 h2=>by
   rw[yR];have c:((i:Int)<(a.length:Int)):=by omega
   have hc:=ha.2 _ (gM h1);have e:oC a[i] b[i]=some (lpB a[i] b[i]):=by
    unfold oC lpB;rw[implSd _ _ hc.1,implSd _ _ hc.2];cases eqL afB a[i].Lo b[i].Lo <;> rfl
   simp only[c,dT,xu,yN h1,yN h2,e,oB,oS,oP];rw[wY (by omega)];cases lpB a[i] b[i] <;> rfl) (by rw[yR];simp)
  have e:((a.length:Int) != (b.length:Int))=false:=by simp[hl]
  rw[hf,e];cases eqL lpB a b <;> rfl
 ·have e:((a.length:Int) != (b.length:Int))=true:=by simp;omega
  rw[e,zHj hl];rfl
open Lib (itoa decDigits)
theorem zGA{u:Nat}(h:u<10):decDigits u=[UInt8.ofNat (48+u)]:=by rw[decDigits];simp[h]
theorem zKX{u:Nat}(h:¬u<10):decDigits u=decDigits (u / 10)++[UInt8.ofNat (48+u % 10)]:=by rw[decDigits];simp[h]
theorem zIi(d:Nat)(h:d<10):u8 (W (48+(d:Int)))=UInt8.ofNat (48+d):=by
 rw[tV (by omega) (by omega)];unfold u8;rw[wraps_u8 _ (by omega) (by omega)]
 congr 1
def dtx(n:Nat):List UInt8:=if n<10 then[UInt8.ofNat (48+n)] else[UInt8.ofNat (48+n / 10),UInt8.ofNat (48+n % 10)]
theorem zQl{n:Nat}(h:n<=99):decDigits n=dtx n:=by
 unfold dtx;by_cases h1:n<10
 ·rw[if_pos h1,zGA h1]
 ·rw[if_neg h1,zKX h1,zGA (by omega)];rfl
theorem kM(n:Nat):1<=(dtx n).length/\(dtx n).length<=2:=by unfold dtx;split <;> simp
theorem zDy(n:Nat)(h:n<=99):sC (n:Int)=some ⟨dtx n⟩:=by
 rw[sC];have h1:¬((n:Int) < -9223372036854775807):=by omega
 have h2:¬((n:Int)<0):=by omega
 simp only[h1,h2,ye,xq,xt];rw[pG];by_cases bQ:n<10
 ·have:¬((n:Int)>9):=by omega
  simp only[this,ye,xq,xt,xr,xp,xw];rw[zIi _ bQ,fU (by simp)];simp[dtx,bQ]
 ·have h9:((n:Int)>9):=by omega
  have hm:((n:Int).tmod 10)=((n % 10:Nat):Int):=by rw[Int.tmod_eq_emod_of_nonneg (by omega)];omega
  have hd:((n:Int).tdiv 10)=((n / 10:Nat):Int):=by rw[AL (by omega)];omega
  simp only[h9,yg,xu,hm,hd];rw[zIi _ (Nat.mod_lt _ (by omega)),tV (by omega) (by omega),fU (by simp)];simp only[xr,xp];rw[pG];have:¬(((n / 10:Nat):Int)>9):=by omega
  simp only[this,ye,xq,xt,xp,xw];rw[zIi _ (by omega),fU (by simp)];simp[dtx,bQ]
theorem zEM(n:Nat)(h:n<=99):kS (n:Int)=some ⟨dtx n⟩:=by
 unfold kS;rw[if_pos (by omega),Lib.itoa_nonneg,zQl h]
def sgn(c:Int):UInt8:=if c<0 then 45 else 43
def bodyV(k:Nat)(i:Nat):List UInt8:=if k=1 then[UInt8.ofNat (105+i)] else dtx k++[42,UInt8.ofNat (105+i)]
def T0:List Int->Nat->List UInt8
 | [],_=>[]
 | c::cs,i=>(if c=0 then[] else sgn c::bodyV c.natAbs i)++T0 cs (i+1)
def TK(c:Int):List UInt8:=if c=0 then[] else sgn c::dtx c.natAbs
def raw(a:zA):List UInt8:=T0 a.Coefs 0++TK a.Const
def strip(l:List UInt8):List UInt8:=match l with|[]=>[]|b::r=>if b=43 then r else b::r
def tx(a:zA):List UInt8:=if raw a=[] then[48] else strip (raw a)
theorem zCc(k i:Nat):1<=(bodyV k i).length/\(bodyV k i).length<=4:=by
 have:=kM k;unfold bodyV;split <;> simp <;> omega
theorem zGx:∀(cs:List Int) (i:Nat),(T0 cs i).length<=5*cs.length
 | [],_=>by simp[T0]
 | c::cs,i=>by
  have h1:=zCc c.natAbs i
  have h2:=zGx cs (i+1)
  unfold T0
  by_cases h:c=0 <;> simp[h] <;> omega
theorem zKY(c:Int):(TK c).length<=3:=by
 have:=kM c.natAbs;unfold TK;split <;> simp;omega
theorem zIj(i:Nat)(hi:i<4):sslc (⟨[105,106,107,108]⟩:Str) (i:Int) ((i+1:Nat):Int)=some ⟨[UInt8.ofNat (105+i)]⟩:=by
 rw[zAY (by omega) (by simp;omega)]
 match i,hi with
 | 0,_|1,_|2,_|3,_=>rfl
theorem zN6(c:Int)(hc:c ≠ 0)(h:constB c=true):oF c ⟨[]⟩=some ⟨sgn c::dtx c.natAbs⟩:=by
 simp only[constB,xv,yd] at h;unfold oF sgn;have hl:=kM c.natAbs;by_cases h0:c<0
 ·have e:W (0 - c)=((c.natAbs:Nat):Int):=by rw[tV (by omega) (by omega)];omega
  simp only[h0,yg,xu,xr,xp,xw,e,zDy _ (show c.natAbs<=99 by omega)];simp only[BEq.rfl,xu];rw[fU (by simp;omega)];rfl
 ·have e:c=((c.natAbs:Nat):Int):=by omega
  simp only[h0,ye,xq,xt,xr,xp,xw];have:=zDy c.natAbs (by omega);rw[<- e] at this;simp only[BEq.rfl,xu,this,xp];rw[fU (by simp;omega)];rfl
theorem zL1(c:Int)(hc:c ≠ 0)(h:coefB c=true)(i:Nat):oF c ⟨[UInt8.ofNat (105+i)]⟩=some ⟨sgn c::bodyV c.natAbs i⟩:=by
 simp only[coefB,xv,yd] at h;unfold oF sgn bodyV;have hl:=kM c.natAbs;have fh:∀(n:Nat) (sg:UInt8),1<=n->n<=9->(if(([UInt8.ofNat (105+i)]:List UInt8)==[])=true then(do
  let y<-sC (n:Int)
  let s<-cat ⟨[sg]⟩ y
  pure (id s))
  else if((n:Int)==1)=true then(do
   let s1<-cat ⟨[sg]⟩ ⟨[UInt8.ofNat (105+i)]⟩
   pure (id s1))
  else(do
   let y1<-sC (n:Int)
   let s2<-cat ⟨[sg]⟩ y1
   let s3<-cat s2 ⟨[42]⟩
   let s4<-cat s3 ⟨[UInt8.ofNat (105+i)]⟩
   pure (id s4)):Option Str)=some ⟨sg::(if n=1 then[UInt8.ofNat (105+i)] else dtx n++[42,UInt8.ofNat (105+i)])⟩:=by
  intro n sg h1 h9;have hl:=kM n;have cT:(([UInt8.ofNat (105+i)]:List UInt8)==[])=false:=rfl;rw[cT];simp only[xq,xt];by_cases hn:n=1
  ·subst hn;simp only[Int.natCast_one,BEq.rfl,xu,xr,xp,xw];rw[fU (by simp)];rfl
  ·have:((n:Int)==1)=false:=by simp;omega
   simp only[this,xq,xt,hn,zDy n (by omega),xr,xp,xw];rw[fU (by simp;omega)];simp only[xp];rw[fU (by simp;omega)];simp only[xp];rw[fU (by simp;omega)];simp
 by_cases h0:c<0
 ·have e:W (0 - c)=((c.natAbs:Nat):Int):=by rw[tV (by omega) (by omega)];omega
  simp only[h0,yg,xu,e];exact fh c.natAbs 45 (by omega) (by omega)
 ·have e:c=((c.natAbs:Nat):Int):=by omega
  simp only[h0,ye,xq,xt];have:=fh c.natAbs 43 (by omega) (by omega);rw[<- e] at this;exact this
theorem zKZ(a:zA)(ha:validB a=true):∀j k (out:Str),k+j=4->out.l.length<=100*k->rY a out (k:Int)=some ⟨out.l++T0 (a.Coefs.drop k) k⟩:=by
 simp only[validB,xv,yd] at ha;obtain⟨⟨h4,hk⟩,hall⟩:=ha;intro j
 induction j with
 | zero=>
  intro k out hk ho;rw[rY];have:¬((k:Int)<(a.Coefs.length:Int)):=by omega
  simp[this,yw.2 (show a.Coefs.length<=k by omega),T0]
 | succ j ih=>
  intro k out hk ho;rw[rY];have aG:k<a.Coefs.length:=by omega
  have h1:((k:Int)<(a.Coefs.length:Int)):=by omega
  have hc:=yb.1 hall _ (List.getElem_mem aG);simp only[h1,yg,xu,gK,ya aG,xr,xp];rw[fV (by omega),zIj k (by omega),yp aG,T0];generalize a.Coefs[k]=c at hc;by_cases h0:c=0
  ·subst h0;simp only[bne_self_eq_false,xq,xt,xw,xp,id,xu,yy];exact ih (k+1) out (by omega) (by omega)
  ·have hb:(c != 0)=true:=by simpa using h0
   have hl:=zCc c.natAbs k;simp only[hb,xu,xp,zL1 c h0 hc k,h0,xt];rw[fU (by simp;omega)];simp only[xp,xw,id];rw[ih (k+1) _ (by omega) (by simp;omega)];simp
theorem zK0:∀(cs:List Int) (i:Nat),T0 cs i=[]∨∃s r,T0 cs i=s::r/\(s=43∨s=45)/\r ≠ []
 | [],_=>.inl rfl
 | c::cs,i=>by
  unfold T0
  by_cases h:c=0
  ·simp only[h,xu,yy];exact zK0 cs (i+1)
  ·refine .inr ⟨sgn c,bodyV c.natAbs i++T0 cs (i+1),by simp[h],?_,?_⟩
   ·unfold sgn;split
    ·exact .inr rfl
    ·exact .inl rfl
   ·have:=zCc c.natAbs i
    intro e
    rw[A3] at e
    rw[e.1] at this
    simp at this
theorem zPn(c:Int):TK c=[]∨∃s r,TK c=s::r/\(s=43∨s=45)/\r ≠ []:=by
 unfold TK;by_cases h:c=0
 ·exact .inl (by simp[h])
 ·refine .inr ⟨sgn c,dtx c.natAbs,by simp[h],?_,?_⟩
  ·unfold sgn;split
   ·exact .inr rfl
   ·exact .inl rfl
  ·have:=kM c.natAbs;intro e;rw[e] at this;simp at this
theorem zGy(a:zA)(ha:validB a=true):kK a=some ⟨tx a⟩:=by
 have hv:=ha;simp only[validB,xv,yd] at hv;obtain⟨⟨h4,hk⟩,hall⟩:=hv;unfold kK tx;have h1:=zKZ a ha 4 0 ⟨[]⟩ (by omega) (by simp);rw[Aa,yn,yy] at h1;rw[h1];have ht:=zGx a.Coefs 0;have r3:=zKY a.Const;have e:(do
  if(a.Const != 0) then
   let y1<-oF a.Const (⟨[]⟩:Str)
   let s2<-cat ⟨T0 a.Coefs 0⟩ y1
   pure (id s2)
  else
   pure (id ⟨T0 a.Coefs 0⟩):Option Str)=some ⟨raw a⟩:=by
  unfold raw TK;by_cases h0:a.Const=0
  ·simp[h0]
  ·have hb:(a.Const != 0)=true:=by simpa using h0
   have hd:=kM a.Const.natAbs;simp only[hb,xu,xr,xp,zN6 _ h0 hk,h0,xt];rw[fU (by simp;omega)];rfl
 simp only[xr,xp] at e ⊢;rw[e];simp only[xp];have n8:(raw a).length<=100:=by unfold raw;rw[yc];omega
 cases hr:raw a with
 | nil=>simp
 | cons b r=>
  have cT:((b::r:List UInt8)==[])=false:=rfl;rw[hr] at n8;have kg:sslc ⟨b::r⟩ 0 1=some ⟨[b]⟩:=by
   have:=zAY (s:=⟨b::r⟩) (f:=0) (i:=1) (by omega) (by simp);exact this.trans (by simp)
  have hsl2:sslc ⟨b::r⟩ 1 (((b::r).length:Nat):Int)=some ⟨r⟩:=by
   have:=zAY (s:=⟨b::r⟩) (f:=1) (i:=(b::r).length) (by simp) (by simp);exact this.trans (by simp)
  simp only[cT,xq,xt,kg,hsl2,xp,reduceCtorEq,strip];by_cases hb:b=43
  ·subst hb;simp
  ·have:(([b]:List UInt8)==[43])=false:=by simpa using hb
   simp[this,hb]
theorem zJo(c:Int)(x:Str)(hx:x.l.length<=1000):mC c x=some ⟨x.l++(if c<0 then[45] else if x.l=[] then[] else[43])⟩:=by
 unfold mC;by_cases h:c<0
 ·simp only[h,yg,xu,xr,xp,xw];rw[fU (by simp;omega)];rfl
 ·simp only[h,ye,xq,xt,xr,xp,xw];cases hx0:x.l with
  | nil=>obtain⟨l⟩:=x;simp only at hx0;subst hx0;simp
  | cons b r=>
   have cT:((b::r:List UInt8)==[])=false:=rfl;rw[cT];simp only[yx,xu];rw[fU (by rw[hx0] at hx ⊢;simp at hx ⊢;omega)];simp[hx0]
theorem zMr(c:Int)(h:-100<=c/\c<=100):(if(W (0 - c))>c then(W (0 - c)) else c)=((c.natAbs:Nat):Int):=by
 rw[tV (by omega) (by omega)];split <;> omega
theorem zN7{A t:List UInt8}(h:A ≠ []):strip (A++t)=strip A++t:=by
 cases A with
 | nil=>exact absurd rfl h
 | cons b r=>simp only[ze,strip];split <;> rfl
theorem zIk(A:List UInt8)(hA:A=[]∨strip A ≠ [])(c:Int)(body:List UInt8):strip (A++sgn c::body)=strip A++(if c<0 then[45] else if strip A=[] then[] else[43])++body:=by
 by_cases h:A=[]
 ·subst h;unfold sgn;by_cases hc:c<0 <;> simp[hc,strip]
 ·have hs:=hA.resolve_left h;rw[zN7 h];unfold sgn;by_cases hc:c<0 <;> simp[hc,hs]
theorem zMs:∀(cs:List Int) (c:Int) (i:Nat),T0 (cs++[c]) i=T0 cs i++(if c=0 then[] else sgn c::bodyV c.natAbs (i+cs.length))
 | [],c,i=>by simp[T0]
 | d::cs,c,i=>by
  rw[ze,T0,zMs cs c (i+1),T0,yu,xy,show i+1+cs.length=i+(cs.length+1) by omega]
theorem zL2(cs:List Int)(i:Nat):T0 cs i=[]∨strip (T0 cs i) ≠ []:=by
 rcases zK0 cs i with h|⟨s,r,h,_,hr⟩
 ·exact .inl h
 ·right;rw[h,strip];split
  ·exact hr
  ·simp
theorem zGz(l:List UInt8):(strip l).length<=l.length:=by
 unfold strip;split
 ·simp
 ·split <;> simp
theorem zK1(a:zA)(ha:validB a=true):∀(j k:Nat),k+j=4->rH a (k:Int) ⟨strip (T0 (a.Coefs.take k) 0)⟩=some ⟨strip (T0 a.Coefs 0)⟩:=by
 simp only[validB,xv,yd] at ha;obtain⟨⟨h4,hk⟩,hall⟩:=ha;intro j
 induction j with
 | zero=>
  intro k hk;rw[rH];have:¬((k:Int)<(a.Coefs.length:Int)):=by omega
  simp[this,zb (show a.Coefs.length<=k by omega)]
 | succ j ih=>
  intro k hk;rw[rH];have aG:k<a.Coefs.length:=by omega
  have h1:((k:Int)<(a.Coefs.length:Int)):=by omega
  have hc:=yb.1 hall _ (List.getElem_mem aG);have qv:=ih (k+1) (by omega);rw[Ab,ya aG] at qv;simp only[Bc] at qv;rw[zMs] at qv;simp only[h1,yg,xu,gK,ya aG,xr,xp];have aP:(a.Coefs.take k).length=k:=by rw[yl];omega
  rw[aP,yv] at qv;have r7:=zL2 (a.Coefs.take k) 0;have hT:=zGx (a.Coefs.take k) 0;rw[aP] at hT;have kg:=zGz (T0 (a.Coefs.take k) 0);generalize T0 (a.Coefs.take k) 0=A at r7 hT kg qv ⊢;generalize a.Coefs[k]=c at hc qv ⊢;by_cases h0:c=0
  ·subst h0;simp only[BEq.rfl,xu];rw[fV (by omega)];simpa using qv
  ·have hb:(c==0)=false:=by simpa using h0
   simp only[coefB,xv,yd] at hc;simp only[h0,xt] at qv;rw[zIk A r7] at qv;have xn:=zCc c.natAbs k;have hds:=kM c.natAbs;simp only[hb,xq,xt];rw[zJo c _ (by show (strip A).length<=1000;omega)];simp only[xp];rw[fV (by omega),zIj k (by omega),zMr c (by omega)];generalize hX:strip A++(if c<0 then[45] else if strip A=[] then[] else[43])=X at qv ⊢;have hXl:X.length<=101:=by
    rw[<- hX,yc];split
    ·simp;omega
    ·split <;> simp <;> omega
   by_cases hn:c.natAbs=1
   ·have h9:¬(((c.natAbs:Nat):Int)>1):=by omega
    simp only[h9,ye,xq,xt,xw,xp,id];rw[fU (by simp;omega)];simp only[xp];rw[bodyV,if_pos hn] at qv;exact qv
   ·have h9:(((c.natAbs:Nat):Int)>1):=by omega
    simp only[h9,yg,xu,zEM _ (show c.natAbs<=99 by omega),xp];rw[fU (by simp;omega)];simp only[xp];rw[fU (by simp;omega)];simp only[xw,xp,id];rw[fU (by simp;omega)];simp only[xp];rw[bodyV,if_neg hn] at qv;simpa using qv
theorem zHA(a:zA)(ha:validB a=true):nV a=some ⟨tx a⟩:=by
 have hv:=ha;simp only[validB,xv,yd] at hv;obtain⟨⟨h4,hk⟩,hall⟩:=hv;unfold nV tx;have h1:=zK1 a ha 4 0 (by omega);rw[Aa,List.take_zero] at h1;rw[show (⟨[]⟩:Str)=⟨strip (T0 [] 0)⟩ from rfl,h1];have hT:=zGx a.Coefs 0;have r7:=zL2 a.Coefs 0;have kg:=zGz (T0 a.Coefs 0);simp only[xr,xp];unfold raw;generalize T0 a.Coefs 0=A at hT r7 kg ⊢;by_cases h0:a.Const=0
 ·have hb:(a.Const != 0)=false:=by simp[h0]
  simp only[hb,xq,xt,xw,xp,id];rw[TK,if_pos h0,yk];by_cases hA:A=[]
  ·subst hA;rfl
  ·have hs:=r7.resolve_left hA;have:(strip A==([]:List UInt8))=false:=by simpa using hs
   simp only[this,xq,xt,hA]
 ·have hb:(a.Const != 0)=true:=by simpa using h0
  simp only[constB,xv,yd] at hk;have hds:=kM a.Const.natAbs;simp only[hb,xu];rw[zJo a.Const _ (by show (strip A).length<=1000;omega),zMr a.Const (by omega)];simp only[xp,zEM _ (show a.Const.natAbs<=99 by omega)];have hss:=zIk A r7 a.Const (dtx a.Const.natAbs);generalize hX:strip A++(if a.Const<0 then[45] else if strip A=[] then[] else[43])=X at hss ⊢;have hXl:X.length<=101:=by
   rw[<- hX,yc];split
   ·simp;omega
   ·split <;> simp <;> omega
  rw[fU (by simp;omega)];simp only[xw,xp,id];have cT:(X++dtx a.Const.natAbs==([]:List UInt8))=false:=by
   have:X++dtx a.Const.natAbs ≠ []:=by
    intro e;rw[A3] at e;rw[e.2] at hds;simp at hds
   simpa using this
  simp only[cT,xq,xt];rw[TK,if_neg h0,if_neg (by simp),hss]
open Lib (itoa decDigits)
def isSg(b:UInt8):Bool:=b==43||b==45
def nsg(b:UInt8):Bool:=!(isSg b)
def digs11:List UInt8:=[48,49,50,51,52,53,54,55,56,57,42]
def ijkl:List UInt8:=[105,106,107,108]
def cutEnd(s xm:List UInt8):List UInt8:=if xm.length<=s.length/\s.drop (s.length - xm.length)=xm then s.take (s.length - xm.length) else s
theorem zE8(s xm:Str)(h:s.l.length<=1048576):nC s xm=some ⟨cutEnd s.l xm.l⟩:=by
 obtain⟨s⟩:=s;obtain⟨u⟩:=xm;simp only at h;unfold nC M.internal_stringslite_TrimSuffix M.internal_stringslite_HasSuffix cutEnd;by_cases hl:u.length<=s.length
 ·have h1:((s.length:Int)>=(u.length:Int)):=by omega
  have hW:W ((s.length:Int) - (u.length:Int))=((s.length - u.length:Nat):Int):=by rw[tV (by omega) (by omega)];omega
  have h2:sslc ⟨s⟩ ((s.length - u.length:Nat):Int) (s.length:Int)=some ⟨s.drop (s.length - u.length)⟩:=by
   have:=zAY (s:=⟨s⟩) (f:=s.length - u.length) (i:=s.length) (by omega) (by simp);exact this.trans (by simp)
  have h3:sslc ⟨s⟩ 0 ((s.length - u.length:Nat):Int)=some ⟨s.take (s.length - u.length)⟩:=by
   have:=zAY (s:=⟨s⟩) (f:=0) (i:=s.length - u.length) (by omega) (by simp);exact this.trans (by simp)
  simp only[h1,yg,xu,hW,h2,h3,xr,xp,xw,id,hl,true_and];by_cases he:s.drop (s.length - u.length)=u
  ·simp[he]
  ·have:(s.drop (s.length - u.length)==u)=false:=by simpa using he
   simp only[this,he,xq,xt];rfl
 ·have h1:¬((s.length:Int)>=(u.length:Int)):=by omega
  simp[h1,hl]
theorem zE9:∀l:List UInt8,(Lib.indexAny l [43,45]=-1/\l.takeWhile nsg=l/\l.dropWhile nsg=[])∨(Lib.indexAny l [43,45]=((l.takeWhile nsg).length:Int)/\l.dropWhile nsg ≠ [])
 | []=>.inl ⟨rfl,rfl,rfl⟩
 | b::l=>by
  rw[Lib.indexAny,List.takeWhile_cons,List.dropWhile_cons]
  have hc:([43,45]:List UInt8).contains b=isSg b:=by
   by_cases h1:b=43 <;> by_cases h2:b=45 <;> simp[isSg,h1,h2]
  rw[hc]
  cases hb:isSg b with
  | true=>right;simp[nsg,hb]
  | false=>
   have hn:nsg b=true:=by simp[nsg,hb]
   simp only[xq,xt,hn,xu]
   rcases zE9 l with⟨h1,h2,h3⟩|⟨h1,h2⟩
   ·left;rw[h1,h2];exact⟨by simp,rfl,h3⟩
   ·right
    rw[h1]
    have:¬(((l.takeWhile nsg).length:Int) == -1)=true:=by simp
    rw[if_neg this]
    exact⟨by simp,h2⟩
def nameOf(body:List UInt8):List UInt8:=Lib.trimLeftS body digs11
def digOf(body:List UInt8):List UInt8:=cutEnd (cutEnd body (nameOf body)) [42]
def numOf(body:List UInt8):Option Int:=if digOf body=[] then some 1 else if(atoiM ⟨digOf body⟩).2||decide ((atoiM ⟨digOf body⟩).1>1000) then none else some (atoiM ⟨digOf body⟩).1
def signOf(rest:List UInt8):Int:=match rest with|[]=>1|b::_=>if b=45 then -1 else 1
def unsign(rest:List UInt8):List UInt8:=match rest with|[]=>[]|b::r=>if isSg b then r else b::r
theorem zHl{a b:List UInt8}(h:asc (a++b)=true):asc a=true/\asc b=true:=by
 unfold asc at h ⊢;rw[Ba,xv] at h;exact h
theorem zIl{r:List UInt8}(h:asc r=true):asc (unsign r)=true:=by
 unfold unsign;split
 ·rfl
 ·split
  ·have:asc ([_]++_)=true:=h;exact(zHl this).2
  ·exact h
theorem zMT(r:List UInt8):(unsign r).length<=r.length:=by
 unfold unsign;split
 ·simp
 ·split <;> simp
theorem zO8(b:UInt8):Lib.index ijkl [b]<=3:=by
 by_cases h1:b=105
 ·subst h1;decide
 by_cases h2:b=106
 ·subst h2;decide
 by_cases h3:b=107
 ·subst h3;decide
 by_cases h4:b=108
 ·subst h4;decide
 simp[ijkl,Lib.index,List.isPrefixOf,h1,h2,h3,h4]
theorem zHb(nm:List UInt8)(h:nm.length=1):Lib.index ijkl nm<=3:=by
 match nm,h with
 | [b],_=>exact zO8 b
theorem gstep(rest:List UInt8)(cT:rest ≠ [])(ha:asc rest=true)(hl:rest.length<=1000)(C:List Int)(K:Int)(x:zA)(hC:C.length=4):
 yY ⟨rest⟩ x C K=(match numOf ((unsign rest).takeWhile nsg) with
  | none=>some (.ret (⟨[],0⟩,false))
  | some n=>
   let nm:=nameOf ((unsign rest).takeWhile nsg)
   if nm=[] then yY ⟨(unsign rest).dropWhile nsg⟩ x C (W (K+W (signOf rest*n)))
   else if nm.length=1/\0<=Lib.index ijkl nm then yY ⟨(unsign rest).dropWhile nsg⟩ x (C.set (Lib.index ijkl nm).toNat (W (C.getD (Lib.index ijkl nm).toNat 0+W (signOf rest*n)))) K
   else some (.ret (⟨[],0⟩,false))):=by
 obtain⟨b,r,rfl⟩:∃b r,rest=b::r:=by cases rest with|nil=>exact absurd rfl cT|cons b r=>exact⟨b,r,rfl⟩
 have hub:∀s:List UInt8,jU ⟨s⟩ ⟨[48,49,50,51,52,53,54,55,56,57,42]⟩=some ⟨Lib.trimLeftS s digs11⟩:=λs=>by
  unfold jU
  rw[if_pos ⟨by simp,by decide⟩]
  rfl
 conv=>lhs;rw[yY]
 have h0:((b::r:List UInt8)==[])=false:=rfl
 have i0:sidx (⟨b::r⟩:Str) 0=some b:=rfl
 have k43:((b.toNat:Int)==43)=decide (b=43):=zAK b 43 (by omega)
 have k45:((b.toNat:Int)==45)=decide (b=45):=zAK b 45 (by omega)
 have hs1:sslc ⟨b::r⟩ 1 (((b::r).length:Nat):Int)=some ⟨r⟩:=by
  have:=zAY (s:=⟨b::r⟩) (f:=1) (i:=(b::r).length) (by simp) (by simp)
  exact this.trans (by simp)
 simp only[h0,yx,xu,i0,k43,k45,xr,xp,xw,hs1]
 -- the d8
 have wa:∀(f:Str×Int->Option (Out (zA×List Int×Int) (zA×Bool))),
  (Option.bind (if(decide (b=43))=true then some true else some (decide (b=45))) λt30=>
   Option.bind (if t30=true then Option.bind (if(decide (b=45))=true then some (-1) else some (id 1)) λrj=>some ((⟨r⟩:Str),rj) else some ((⟨b::r⟩:Str),(1:Int))) f)
  = f (⟨unsign (b::r)⟩,signOf (b::r)):=by
  intro f
  by_cases rq:b=43
  ·subst rq;rfl
  ·by_cases k9:b=45
   ·subst k9;rfl
   ·have:isSg b=false:=by simp[isSg,rq,k9]
    simp[rq,k9,unsign,signOf,this]
 have hul:=zMT (b::r)
 have hua:=zIl ha
 rw[show (λ(t30:Bool)=>_)=_ from rfl]
 refine(wa _).trans ?_
 generalize unsign (b::r)=u at hul hua ⊢
 generalize signOf (b::r)=sg
 have hix:jT ⟨u⟩ ⟨[43,45]⟩=some (Lib.indexAny u [43,45]):=by
  unfold jT
  rw[if_pos ⟨⟨by show u.length<_;omega,by simp⟩,hua,by decide⟩]
 have htd:u.takeWhile nsg++u.dropWhile nsg=u:=List.takeWhile_append_dropWhile
 have mz:(if(decide (Lib.indexAny u [43,45]<0))=true then some (u.length:Int) else some (id (Lib.indexAny u [43,45])))=some (((u.takeWhile nsg).length:Nat):Int):=by
  rcases zE9 u with⟨h1,h2,h3⟩|⟨h1,h2⟩
  ·rw[h1,h2];rfl
  ·rw[h1]
   have:¬(((u.takeWhile nsg).length:Int)<0):=by omega
   simp only[this,ye,xq,xt,id]
 have hbl:(u.takeWhile nsg).length<=u.length:=by
  have:=congrArg List.length htd
  rw[yc] at this;omega
 have aI:sslc ⟨u⟩ 0 (((u.takeWhile nsg).length:Nat):Int)=some ⟨u.takeWhile nsg⟩:=by
  have:=zAY (s:=⟨u⟩) (f:=0) (i:=(u.takeWhile nsg).length) (by omega) hbl
  refine this.trans ?_
  rw[yn]
  conv=>lhs;arg 1;arg 1;arg 2;rw[show (⟨u⟩:Str).l=u from rfl,<- htd]
  rw[AO rfl]
 have aU:sslc ⟨u⟩ (((u.takeWhile nsg).length:Nat):Int) (u.length:Int)=some ⟨u.dropWhile nsg⟩:=by
  have:=zAY (s:=⟨u⟩) (f:=(u.takeWhile nsg).length) (i:=u.length) hbl (zf _)
  refine this.trans ?_
  rw[show (⟨u⟩:Str).l=u from rfl,z7]
  conv=>lhs;arg 1;arg 1;arg 2;rw[<- htd]
  rw[List.drop_left' rfl]
 simp only[hix,xp,mz,aI,aU,hub]
 have hbl2:(u.takeWhile nsg).length<=1048576:=by omega
 generalize u.takeWhile nsg=body at hbl2 ⊢
 generalize u.dropWhile nsg=tail
 rw[zE8 ⟨body⟩ _ hbl2]
 have hce:∀(s v:List UInt8),(cutEnd s v).length<=s.length:=λs v=>by unfold cutEnd;split <;> simp
 have hdl1:=hce body (nameOf body)
 have hdl2:=hce (cutEnd body (nameOf body)) [42]
 simp only[xp]
 rw[zE8 _ _ (by show (cutEnd body (Lib.trimLeftS body digs11)).length<=_;exact zw hdl1 hbl2)]
 simp only[xp]
 have hdd:cutEnd (cutEnd body (Lib.trimLeftS body digs11)) [42]=digOf body:=rfl
 have hnn:Lib.trimLeftS body digs11=nameOf body:=rfl
 rw[hdd,hnn]
 have hdl:(digOf body).length<=1048576:=by show (cutEnd (cutEnd body (nameOf body)) [42]).length<=_;omega
 have av:tC ⟨digOf body⟩=some (atoiM ⟨digOf body⟩):=by
  unfold tC
  rw[if_pos (by show (digOf body).length<=_;omega)]
 have hi2:gF ⟨[105,106,107,108]⟩ ⟨nameOf body⟩=some (Lib.index ijkl (nameOf body)):=by
  unfold gF
  rw[if_pos (by simp)]
  rfl
 -- the number
 have q0:∀n:Int,(Option.bind (gF ⟨[105,106,107,108]⟩ ⟨nameOf body⟩) λy8=>
  Option.bind (if(nameOf body==([]:List UInt8))=true then some (Out.done (x,C,W (K+W (sg*n))))
   else Option.bind (if(((nameOf body).length:Int)==1)=true then some (decide (y8>=0)) else some false) λur=>
    if ur=true then Option.bind (idx C y8) λx4=>Option.bind (idx C y8) λx5=>Option.bind (some (C.set y8.toNat (W (x4+W (sg*n))))) λl=>some (Out.done (x,l,K))
    else some (Out.ret ((⟨[],0⟩:zA),false)):Option (Out (zA×List Int×Int) (zA×Bool))) λo=>match o with
   | .ret r0=>some (Out.ret r0)
   | .done (x3,f8,ip)=>yY ⟨tail⟩ x3 f8 ip) =
  (if nameOf body=[] then yY ⟨tail⟩ x C (W (K+W (sg*n)))
   else if(nameOf body).length=1/\0<=Lib.index ijkl (nameOf body) then yY ⟨tail⟩ x (C.set (Lib.index ijkl (nameOf body)).toNat (W (C.getD (Lib.index ijkl (nameOf body)).toNat 0+W (sg*n)))) K
   else some (.ret (⟨[],0⟩,false))):=by
  intro n
  rw[hi2]
  simp only[xp]
  by_cases xe:nameOf body=[]
  ·have:(nameOf body==([]:List UInt8))=true:=by simp[xe]
   rw[if_pos xe]
   simp only[this,xu,xp]
  ·have:(nameOf body==([]:List UInt8))=false:=by simpa using xe
   rw[if_neg xe]
   simp only[this,xq,xt]
   by_cases hln:(nameOf body).length=1
   ·have e1:(((nameOf body).length:Int)==1)=true:=by simp[hln]
    simp only[e1,xu,xp]
    by_cases hge:Lib.index ijkl (nameOf body)>=0
    ·have aG:=zHb _ hln
     have hge':0<=Lib.index ijkl (nameOf body):=hge
     have hx:idx C (Lib.index ijkl (nameOf body))=some (C.getD (Lib.index ijkl (nameOf body)).toNat 0):=by
      rw[zOK hge',zp,ya (by omega)]
      rfl
     have n5:(nameOf body).length=1/\0<=Lib.index ijkl (nameOf body):=⟨hln,hge'⟩
     rw[if_pos n5]
     simp only[hge,yg,xu,hx,xp]
    ·have hge':¬0<=Lib.index ijkl (nameOf body):=hge
     have n5:¬((nameOf body).length=1/\0<=Lib.index ijkl (nameOf body)):=λh=>hge' h.2
     rw[if_neg n5]
     simp only[hge,ye,xq,xt,xp]
   ·have e1:(((nameOf body).length:Int)==1)=false:=by simp;omega
    have n5:¬((nameOf body).length=1/\0<=Lib.index ijkl (nameOf body)):=λh=>hln h.1
    rw[if_neg n5]
    simp only[e1,xq,xt,xp]
 unfold numOf
 by_cases hd0:digOf body=[]
 ·have:(digOf body==([]:List UInt8))=true:=by simp[hd0]
  simp only[this,y0,xq,xt,xp,hd0,xu]
  exact q0 1
 ·have:(digOf body==([]:List UInt8))=false:=by simpa using hd0
  simp only[this,yx,xu,av,xp,hd0,xt]
  cases he:(atoiM ⟨digOf body⟩).2 with
  | true=>simp
  | false=>
   simp only[xq,xt,xp,AN]
   by_cases h1000:(atoiM ⟨digOf body⟩).1>1000
   ·simp[h1000]
   ·simp only[h1000,ye,xq,xt,xp]
    exact q0 _
open Lib (itoa decDigits)
theorem zHB:∀(k:Fin 10) (i:Fin 4),1<=k.val->numOf (bodyV k.val i.val)=some (k.val:Int)/\nameOf (bodyV k.val i.val)=[UInt8.ofNat (105+i.val)]/\Lib.index ijkl [UInt8.ofNat (105+i.val)]=(i.val:Int)/\(bodyV k.val i.val).all nsg=true/\asc (bodyV k.val i.val)=true:=by decide +kernel
theorem zCy:∀(k:Fin 100),numOf (dtx k.val)=some (k.val:Int)/\nameOf (dtx k.val)=[]/\(dtx k.val).all nsg=true/\asc (dtx k.val)=true:=by decide +kernel
def Hd(t:List UInt8):Prop:=t=[]∨∃s r,t=s::r/\(s=43∨s=45)
theorem zJp{body t:List UInt8}(hb:body.all nsg=true)(ht:Hd t):(body++t).takeWhile nsg=body/\(body++t).dropWhile nsg=t:=by
 induction body with
 | nil=>
  rcases ht with rfl|⟨s,r,rfl,hs⟩
  ·exact⟨rfl,rfl⟩
  ·have:nsg s=false:=by rcases hs with rfl|rfl <;> rfl
   simp[this]
 | cons b body ih=>
  rw[zh,xv] at hb;obtain⟨i1,i2⟩:=ih hb.2;rw[ze,List.takeWhile_cons,List.dropWhile_cons,hb.1];simp[i1,i2]
theorem zRL(cs:List Int)(i:Nat)(k:Int):Hd (T0 cs i++TK k):=by
 rcases zK0 cs i with h|⟨s,r,h,hs,_⟩
 ·rw[h,yy];rcases zPn k with h|⟨s,r,h,hs,_⟩
  ·exact .inl h
  ·exact .inr ⟨s,r,h,hs⟩
 ·exact .inr ⟨s,r++TK k,by rw[h];rfl,hs⟩
theorem zMU:∀(cs:List Int) (i:Nat),(∀c∈cs,coefB c=true)->i+cs.length<=4->asc (T0 cs i)=true
 | [],_,_,_=>rfl
 | c::cs,i,h,hi=>by
  have h1:=h c (xz ..)
  simp only[coefB,xv,yd] at h1
  simp only[xy] at hi
  have ih:=zMU cs (i+1) (λx hx=>h x (xx _ hx)) (by omega)
  unfold T0
  by_cases h0:c=0
  ·simpa [h0] using ih
  ·have hb:=(zHB ⟨c.natAbs,by omega⟩ ⟨i,by omega⟩ (by show 1<=c.natAbs;omega)).2.2.2.2
   have wa:asc [sgn c]=true:=by unfold sgn;split <;> rfl
   simp only[h0,xt]
   unfold asc at hb ih wa ⊢
   simp only[Ba,zh,List.all_nil,Bl] at wa ⊢
   simp only at hb
   rw[wa,hb,ih];rfl
theorem zMV(k:Int)(h:constB k=true):asc (TK k)=true:=by
 simp only[constB,xv,yd] at h;unfold TK;split
 ·rfl
 ·have hb:=(zCy ⟨k.natAbs,by omega⟩).2.2.2;have wa:asc [sgn k]=true:=by unfold sgn;split <;> rfl
  unfold asc at hb wa ⊢;simp only[zh,List.all_nil,Bl] at wa ⊢;simp only at hb;rw[wa,hb];rfl
theorem zCd{a b:List UInt8}(h1:asc a=true)(h2:asc b=true):asc (a++b)=true:=by
 unfold asc at *;rw[Ba,h1,h2];rfl
theorem zN8{l:List UInt8}(h:asc l=true):asc (strip l)=true:=by
 unfold strip;split
 ·rfl
 ·split
  ·have:asc ([_]++_)=true:=h;exact(zHl this).2
  ·exact h
theorem zIm{a:zA}(ha:validB a=true):asc (tx a)=true:=by
 simp only[validB,xv,yd] at ha;obtain⟨⟨h4,hk⟩,hall⟩:=ha;unfold tx;split
 ·rfl
 ·exact zN8 (zCd (zMU _ 0 (λc hc=>yb.1 hall c hc) (by omega)) (zMV _ hk))
theorem zCL{a:zA}(ha:validB a=true):(tx a).length<=23:=by
 simp only[validB,xv,yd] at ha;have h1:=zGx a.Coefs 0;have h2:=zKY a.Const;have h3:=zGz (raw a);unfold tx;split
 ·simp
 ·unfold raw at h3 ⊢;rw[yc] at h3;omega
theorem zCz(c:Int)(u:List UInt8):unsign (sgn c::u)=u/\signOf (sgn c::u)=if c<0 then -1 else 1:=by
 unfold sgn;by_cases h:c<0 <;> simp[h,unsign,signOf,isSg]
theorem zGB(c:Int)(h:-100<=c/\c<=100):W (0+W ((if c<0 then -1 else 1)*((c.natAbs:Nat):Int)))=c:=by
 by_cases h0:c<0
 ·simp only[h0,xu];rw[tV (x:=(-1)*((c.natAbs:Nat):Int)) (by omega) (by omega),tV (by omega) (by omega)];omega
 ·simp only[h0,xt];rw[tV (x:=1*((c.natAbs:Nat):Int)) (by omega) (by omega),tV (by omega) (by omega)];omega
theorem zAs(x:zA)(C:List Int)(K:Int):yY ⟨[]⟩ x C K=some (.done (x,C,K)):=by
 rw[yY];rfl
theorem zL3(x:zA)(k:Int)(hk:constB k=true):∀(cs pre:List Int),(∀c∈cs,coefB c=true)->pre.length+cs.length=4 ->
 yY ⟨T0 cs pre.length++TK k⟩ x (pre++List.replicate cs.length 0) 0=some (.done (x,pre++cs,k)):=by
 intro cs
 induction cs with
 | nil=>
  intro pre hc hl
  simp only[T0,yy,yo,List.replicate_zero,yk] at hl ⊢
  have hka:=zMV k hk
  have hkl:=zKY k
  simp only[constB,xv,yd] at hk
  by_cases h0:k=0
  ·subst h0
   exact zAs _ _ _
  ·have e:TK k=sgn k::(dtx k.natAbs++[]):=by rw[TK,if_neg h0,yk]
   obtain⟨f1,f2,f3,f4⟩:=zCy ⟨k.natAbs,by omega⟩
   simp only at f1 f2 f3 f4
   obtain⟨t1,t2⟩:=zJp f3 (t:=[]) (.inl rfl)
   rw[gstep (TK k) (by rw[e];simp) hka (by omega) _ _ _ (by omega),e]
   rw[(zCz k _).1,(zCz k _).2,t1,t2,f1]
   simp only[f2,xu]
   rw[zAs,zGB k (by omega)]
 | cons c cs ih=>
  intro pre hc hl
  have aI:=hc c (xz ..)
  have aU:∀y∈cs,coefB y=true:=λy hy=>hc y (xx _ hy)
  have pi:=zCd (zMU (c::cs) pre.length hc (by omega)) (zMV k hk)
  have xd:=zGx (c::cs) pre.length
  have hlen2:=zKY k
  simp only[coefB,xv,yd] at aI
  simp only[xy] at hl xd
  have ih':=ih (pre++[c]) aU (by simp;omega)
  rw[yc,Ai,yu,yu] at ih'
  by_cases h0:c=0
  ·subst h0
   simpa [T0,Ap] using ih'
  ·have e:T0 (c::cs) pre.length++TK k=sgn c::(bodyV c.natAbs pre.length++(T0 cs (pre.length+1)++TK k)):=by
    rw[T0,if_neg h0,yu,ze]
   obtain⟨f1,f2,f3,f4,f5⟩:=zHB ⟨c.natAbs,by omega⟩ ⟨pre.length,by omega⟩ (by show 1<=c.natAbs;omega)
   simp only at f1 f2 f3 f4
   obtain⟨t1,t2⟩:=zJp f4 (zRL cs (pre.length+1) k)
   rw[gstep (T0 (c::cs) pre.length++TK k) (by rw[e];simp) pi (by rw[yc];omega) _ _ _ (by simp;omega),e]
   rw[(zCz c _).1,(zCz c _).2,t1,t2,f1]
   simp only[f2,f3]
   rw[if_neg (by simp),if_pos ⟨by simp,by omega⟩,zq]
   have hg:(pre++List.replicate (cs.length+1) (0:Int)).getD pre.length 0=0:=by
    rw[zp,AJ (zf _),Nat.sub_self,Ap];rfl
   have fg:(pre++List.replicate (cs.length+1) (0:Int)).set pre.length c=pre++([c]++List.replicate cs.length 0):=by
    rw[List.set_append_right _ _ (zf _),Nat.sub_self,Ap];rfl
   rw[xy,hg,zGB c (by omega),fg]
   exact ih'
theorem unplus(u:List UInt8)(hu:u ≠ [])(hh:unsign u=u)(hs:signOf u=1)(ha:asc u=true)(hl:u.length<=900)(x:zA)(C:List Int)(K:Int)(hC:C.length=4):
 yY ⟨u⟩ x C K=yY ⟨43::u⟩ x C K:=by
 have rq:asc (43::u)=true:=zCd (a:=[43]) rfl ha
 rw[gstep u hu ha (by omega) C K x hC,gstep (43::u) (by simp) rq (by simp;omega) C K x hC]
 have e1:unsign (43::u)=u:=rfl
 have e2:signOf (43::u)=1:=rfl
 rw[e1,e2,hh,hs]
theorem zN9(k:Nat)(b:List UInt8)(hb:b.all nsg=true)(hn:b ≠ [])(t:List UInt8):unsign (b++t)=b++t/\signOf (b++t)=1:=by
 cases b with
 | nil=>exact absurd rfl hn
 | cons c r=>
  rw[zh,xv] at hb;have h1:isSg c=false:=by have:=hb.1;unfold nsg at this;simpa using this
  have h2:c ≠ 45:=by rintro rfl;cases h1
  simp[unsign,signOf,h1,h2]
theorem zJq(a:zA)(ha:validB a=true):raw a=[]∨∃(c:Int) (b t:List UInt8),raw a=sgn c::(b++t)/\b.all nsg=true/\b ≠ []:=by
 simp only[validB,xv,yd] at ha;obtain⟨⟨h4,hk⟩,hall⟩:=ha;have fh:∀(cs:List Int) (i:Nat),(∀c∈cs,coefB c=true)->i+cs.length=4->T0 cs i++TK a.Const=[]∨∃(c:Int) (b t:List UInt8),T0 cs i++TK a.Const=sgn c::(b++t)/\b.all nsg=true/\b ≠ []:=by
  intro cs
  induction cs with
  | nil=>
   intro i _ _;simp only[constB,xv,yd] at hk;simp only[T0,yy];by_cases h0:a.Const=0
   ·left;simp[TK,h0]
   ·obtain⟨f1,f2,f3,f4⟩:=zCy ⟨a.Const.natAbs,by omega⟩;have:=kM a.Const.natAbs;exact .inr ⟨a.Const,dtx a.Const.natAbs,[],by rw[TK,if_neg h0,yk],f3,by intro e;rw[e] at this;simp at this⟩
  | cons c cs ih=>
   intro i hc hi;have aI:=hc c (xz ..);simp only[coefB,xv,yd] at aI;simp only[xy] at hi;by_cases h0:c=0
   ·rw[T0,if_pos h0,yy];exact ih (i+1) (λy hy=>hc y (xx _ hy)) (by omega)
   ·obtain⟨f1,f2,f3,f4,f5⟩:=zHB ⟨c.natAbs,by omega⟩ ⟨i,by omega⟩ (by show 1<=c.natAbs;omega);have:=zCc c.natAbs i;exact .inr ⟨c,bodyV c.natAbs i,T0 cs (i+1)++TK a.Const,by rw[T0,if_neg h0,yu,ze],f4,by intro e;rw[e] at this;simp at this⟩
 exact fh a.Coefs 0 (λc hc=>yb.1 hall c hc) (by omega)
theorem zK2(a:zA)(ha:validB a=true)(x:zA):yY ⟨tx a⟩ x [0,0,0,0] 0=some (.done (x,a.Coefs,a.Const)):=by
 have hv:=ha;simp only[validB,xv,yd] at hv;obtain⟨⟨h4,hk⟩,hall⟩:=hv;have hval:=zL3 x a.Const hk a.Coefs [] (λc hc=>yb.1 hall c hc) (by simp[h4]);simp only[yo,yy,h4] at hval;have al:List.replicate 4 (0:Int)=[0,0,0,0]:=rfl;rw[al] at hval;change yY ⟨raw a⟩ x [0,0,0,0] 0=_ at hval;have xh:=zIm ha;have ve:=zCL ha;unfold tx at xh ve ⊢;rcases zJq a ha with h|⟨c,b,t,h,hb,hn⟩
 ·rw[h,zAs] at hval;rw[if_pos h];have hg:=gstep [48] (by simp) rfl (by simp) [0,0,0,0] 0 x rfl;have f1:numOf ((unsign [48]).takeWhile nsg)=some 0:=by decide +kernel
  have f2:nameOf ((unsign [48]).takeWhile nsg)=[]:=by decide +kernel
  have f3:(unsign [48]).dropWhile nsg=[]:=by decide +kernel
  rw[hg,f1,f3];simp only[f2,xu];rw[zAs];rw[<- hval];rfl
 ·have cT:raw a ≠ []:=by rw[h];simp
  rw[if_neg cT] at xh ve ⊢;rw[h] at hval xh ve ⊢;unfold strip at xh ve ⊢;by_cases hc:c<0
  ·have e:sgn c=45:=by unfold sgn;rw[if_pos hc]
   rw[e] at hval xh ve ⊢;exact hval
  ·have e:sgn c=43:=by unfold sgn;rw[if_neg hc]
   rw[e] at hval xh ve ⊢;simp only[xu] at xh ve ⊢;obtain⟨g1,g2⟩:=zN9 0 b hb hn t;rw[unplus (b++t) (by simp[hn]) g1 g2 xh (by omega) _ _ _ rfl];exact hval
theorem zPo(rest:List UInt8)(h:rest ≠ []):((unsign rest).dropWhile nsg).length<rest.length:=by
 cases rest with
 | nil=>exact absurd rfl h
 | cons b r=>
  have hd:∀l:List UInt8,(l.dropWhile nsg).length<=l.length:=λl=>(List.dropWhile_sublist _).length_le;by_cases hb:isSg b=true
  ·simp only[unsign,hb,xu,xy];have:=hd r;omega
  ·have hn:nsg b=true:=by simp[nsg,hb]
   have ld:isSg b=false:=by simpa using hb
   simp only[unsign,ld,xq,xt,List.dropWhile_cons,hn,xu,xy];have:=hd r;omega
theorem zO9{l:List UInt8}(h:asc l=true):asc (l.dropWhile nsg)=true:=by
 have:=List.takeWhile_append_dropWhile (p:=nsg) (l:=l);rw[<- this] at h;exact(zHl h).2
theorem zJ7:∀(n:Nat) (rest:List UInt8) (x:zA) (C:List Int) (K:Int),rest.length<n->asc rest=true->rest.length<=1000->C.length=4 ->
 (yY ⟨rest⟩ x C K=some (.ret (⟨[],0⟩,false)))∨∃C' K',C'.length=4/\yY ⟨rest⟩ x C K=some (.done (x,C',K')):=by
 intro n
 induction n with
 | zero=>intro rest x C K h;omega
 | succ n ih=>
  intro rest x C K hn ha hl hC
  by_cases cT:rest=[]
  ·subst cT
   exact .inr ⟨C,K,hC,zAs _ _ _⟩
  ·have aG:=zPo rest cT
   have had:=zO9 (zIl ha)
   rw[gstep rest cT ha hl C K x hC]
   cases numOf ((unsign rest).takeWhile nsg) with
   | none=>exact .inl rfl
   | some v=>
    simp only
    split
    ·exact ih _ _ _ _ (by omega) had (by omega) hC
    ·split
     ·exact ih _ _ _ _ (by omega) had (by omega) (by rw[zk];exact hC)
     ·exact .inl rfl
def ResA(t:List UInt8)(r:zA×Bool):Prop:=(r.2=true/\validB r.1=true/\t=tx r.1)∨(r.2=false/\r.1=⟨[],0⟩/\∀a,validB a=true->t ≠ tx a)
theorem implParse(t:Str)(ha:asc t.l=true)(hl:t.l.length<=1048576):∃r,kF t=some r/\ResA t.l r:=by
 obtain⟨t⟩:=t;simp only at ha hl;unfold kF;have hcn:zAE 0=some ⟨[0,0,0,0],0⟩:=rfl;simp only[hcn,xr,xp,xw];by_cases h100:t.length>100
 ·have:((t.length:Nat):Int)>100:=by omega
  simp only[this,yg,xu];exact⟨_,rfl,.inr ⟨rfl,rfl,λa hv e=>by have:=zCL hv;rw[<- e] at this;omega⟩⟩
 ·have:¬((t.length:Nat):Int)>100:=by omega
  simp only[this,ye,xq,xt];have hval:∀a,validB a=true->t=tx a->yY ⟨t⟩ ⟨[],0⟩ [0,0,0,0] 0=some (.done (⟨[],0⟩,a.Coefs,a.Const)):=by
   rintro a hv rfl;exact zK2 a hv _
  rcases zJ7 (t.length+1) t ⟨[],0⟩ [0,0,0,0] 0 (by omega) ha (by omega) rfl with h|⟨C,K,hC,h⟩
  ·rw[h];simp only[xp];exact⟨_,rfl,.inr ⟨rfl,rfl,λa hv e=>by have:=hval a hv e;rw[h] at this;cases this⟩⟩
  ·rw[h];have hvl:=implValid ⟨C,K⟩ (by show C.length<=_;omega);simp only[xp,hvl];have cT:∀a,validB a=true->t=tx a->a=⟨C,K⟩:=by
    intro a hv e;have:=hval a hv e;rw[h] at this;obtain⟨c,k⟩:=a;simp only[Option.some.injEq,Out.done.injEq,Prod.mk.injEq,true_and] at this;rw[this.1,this.2]
   cases hv:validB ⟨C,K⟩ with
   | false=>
    simp only[yx,xu,xp];exact⟨_,rfl,.inr ⟨rfl,rfl,λa hva e=>by rw[cT a hva e,hv] at hva;cases hva⟩⟩
   | true=>
    simp only[y0,xq,xt,zHA _ hv,xp];cases he:tx ⟨C,K⟩==t with
    | true=>
     simp only[y0,xq,xt];exact⟨_,rfl,.inl ⟨rfl,hv,(beq_iff_eq.1 he).symm⟩⟩
    | false=>
     simp only[yx,xu];exact⟨_,rfl,.inr ⟨rfl,rfl,λa hva e=>by rw[cT a hva e] at e;rw[e] at he;simp at he⟩⟩
open Lib (itoa decDigits)
def digs:List UInt8->Int->Option Int
 | [],n=>some n
 | b::l,n=>if(decide ((b.toNat:Int)<48)||decide ((b.toNat:Int)>57)) then none else digs l (W ((W (n*10))+(W (IntKind.u8.wrap ((b.toNat:Int) - 48)))))
theorem zPp(s:Str)(hs:s.l.length<=1048576):∀j i n,i+j=s.l.length ->
 uV s n (i:Int)=some (match digs (s.l.drop i) n with|none=>.ret (0,false)|some v=>.done v):=by
 intro j
 induction j with
 | zero=>
  intro i n hi
  rw[uV]
  have:¬((i:Int)<(s.l.length:Int)):=by omega
  simp only[this,ye,xq,xt]
  rw[yw.2 (by omega)]
  rfl
 | succ j ih=>
  intro i n hi
  rw[uV]
  have aG:i<s.l.length:=by omega
  have h1:((i:Int)<(s.l.length:Int)):=by omega
  simp only[h1,yg,xu,sidx,gK,ya aG,xw,xr,xp]
  rw[yp aG,digs]
  by_cases ha:(s.l[i].toNat:Int)<48
  ·simp[ha]
  ·by_cases hb:(s.l[i].toNat:Int)>57
   ·simp[ha,hb]
   ·simp only[ha,hb,ye,xq,xt,xp,Bool.or_self]
    rw[fV (by omega),ih (i+1) _ (by omega)]
def numU(s:List UInt8):Int×Bool:=
 if s.length=0∨s.length>17 then(0,false)
 else if(match s with|[]=>false|b::t=>decide (b=48)&&decide (t.length>0)) then(0,false)
 else match digs s 0 with
  | none=>(0,false)
  | some n=>(n,true)
theorem zQm(s:Str)(hs:s.l.length<=1048576)(hn:s.l.head? ≠ some 45):oG s=some (numU s.l):=by
 obtain⟨s⟩:=s;simp only at hs hn;unfold oG numU;cases s with
 | nil=>rfl
 | cons b t=>
  have k9:b ≠ 45:=by simpa using hn
  have k45:((b.toNat:Int)==45)=decide (b=45):=zAK b 45 (by omega);have k48:((b.toNat:Int)==48)=decide (b=48):=zAK b 48 (by omega);have h0:(((b::t).length:Nat):Int)>0:=by simp
  have hl:(((b::t).length:Int)==0)=false:=by simp;omega
  have i0:sidx (⟨b::t⟩:Str) 0=some b:=rfl;simp only[h0,yg,xu,i0,k45,k9,ye,xq,xt,id,hl,xw,xr,xp];by_cases cm:(b::t).length>17
  ·have:(((b::t).length:Nat):Int)>17:=by omega
   rw[if_pos (Or.inr cm)];simp only[this,yg,xu,xp]
  ·have:¬(((b::t).length:Nat):Int)>17:=by omega
   have hor:¬((b::t).length=0∨(b::t).length>17):=by simp only[xy] at cm ⊢;omega
   rw[if_neg hor];have hd:=zPp ⟨b::t⟩ hs _ 0 0 (yv _);rw[yn,Aa] at hd;simp only[this,ye,xq,xt,k48,xp];by_cases w6:b=48
   ·subst w6;by_cases ht:t.length>0
    ·have e1:(((((48:UInt8)::t).length:Nat):Int)>1):=by simp only[xy];omega
     simp only[e1,ht,yg,xu,yz,xp]
    ·have e1:¬(((((48:UInt8)::t).length:Nat):Int)>1):=by simp only[xy];omega
     simp only[e1,ht,yg,ye,xu,xq,xt,yz,xp];rw[hd];cases digs (48::t) 0 <;> rfl
   ·simp only[w6,ye,xq,xt,Bg,xp];rw[hd];cases digs (b::t) 0 <;> rfl
def isDg(b:UInt8):Bool:=decide (48<=b.toNat)&&decide (b.toNat<=57)
def run:List UInt8->Nat->Nat
 | _,0=>0
 | [],_+1=>0
 | b::u,n+1=>if isDg b then 1+run u n else 0
theorem zMW:∀(u:List UInt8) (n:Nat),run u n<=n/\run u n<=u.length
 | u,0=>by cases u <;> simp[run]
 | [],n+1=>by simp[run]
 | b::u,n+1=>by
  have:=zMW u n
  rw[run]
  split
  ·simp;omega
  ·simp
theorem zQn(s:Str)(p:Nat)(hs:s.l.length<=1048576)(hp:p<=s.l.length):∀j i,i+j=2->p+i<=s.l.length->sD s (p:Int) ((p+i:Nat):Int)=some ((p+i+run (s.l.drop (p+i)) j:Nat):Int):=by
 intro j
 induction j with
 | zero=>
  intro i hi hl;rw[sD];have h2:¬(((p+i:Nat):Int)<W ((p:Int)+2)):=by rw[tV (by omega) (by omega)];omega
  have hr:run (s.l.drop (p+i)) 0=0:=by cases s.l.drop (p+i) <;> rfl
  rw[hr];by_cases h1:((p+i:Nat):Int)<(s.l.length:Int)
  ·simp only[h1,h2,yg,ye,xu,xq,xt,xw,xr,xp,id];rfl
  ·simp only[h1,ye,xq,xt,xw,xr,xp,id];rfl
 | succ j ih=>
  intro i hi hl;rw[sD];have h2:(((p+i:Nat):Int)<W ((p:Int)+2)):=by rw[tV (by omega) (by omega)];omega
  by_cases h1:p+i<s.l.length
  ·have ou:((p+i:Nat):Int)<(s.l.length:Int):=by omega
   simp only[ou,h2,yg,xu,sidx,gK,ya h1,xw,xr,xp];rw[yp h1,run];unfold isDg;by_cases ha:(48:Nat)<=s.l[p+i].toNat
   ·have xa:((s.l[p+i].toNat:Int)>=48):=by omega
    by_cases hb:s.l[p+i].toNat<=57
    ·have ld:((s.l[p+i].toNat:Int)<=57):=by omega
     simp only[ha,xa,hb,ld,yg,xu,xp,Bool.and_self];rw[fV (by omega)];have:=ih (i+1) (by omega) (by omega);rw[show p+(i+1)=p+i+1 by omega] at this;rw[this]
     congr 2
     omega
    ·have ld:¬((s.l[p+i].toNat:Int)<=57):=by omega
     simp only[ha,xa,hb,ld,yg,ye,xu,xq,xt,xp,Bool.and_false,id];rfl
   ·have xa:¬((s.l[p+i].toNat:Int)>=48):=by omega
    simp only[ha,xa,ye,xq,xt,xp,Bg,id];rfl
  ·have ou:¬((p+i:Nat):Int)<(s.l.length:Int):=by omega
   rw[yw.2 (by omega),run];simp only[ou,ye,xq,xt,xw,xr,xp,id];rfl
theorem zMt:∀(u:List UInt8) (n:Nat),(u.take (run u n)).all isDg=true
 | u,0=>by cases u <;> simp[run]
 | [],n+1=>by simp[run]
 | b::u,n+1=>by
  rw[run]
  split
  ·rename_i h
   rw[Nat.add_comm,Bb,zh,h,zMt u n];rfl
  ·simp
theorem zOa{l:List UInt8}(h:l.all isDg=true):l.head? ≠ some 45:=by
 cases l with
 | nil=>simp
 | cons b l=>
  rw[zh,xv] at h;rintro e;simp only[List.head?_cons,Option.some.injEq] at e;subst e;exact absurd h.1 (by decide)
theorem zJr(s:Str)(p:Nat)(hs:s.l.length<=1048576)(hp:p<=s.l.length):
 pA s (p:Int)=some (if(numU ((s.l.drop p).take (run (s.l.drop p) 2))).2 then((numU ((s.l.drop p).take (run (s.l.drop p) 2))).1,((p+run (s.l.drop p) 2:Nat):Int)) else(1,(p:Int))):=by
 unfold pA
 have h:=zQn s p hs hp 2 0 rfl (by omega)
 simp only[Nat.add_zero] at h
 have hr:=zMW (s.l.drop p) 2
 rw[yt] at hr
 have kg:sslc s (p:Int) ((p+run (s.l.drop p) 2:Nat):Int)=some ⟨(s.l.drop p).take (run (s.l.drop p) 2)⟩:=by
  rw[zAY (by omega) (by omega),List.take_drop]
 have hnum:=zQm ⟨(s.l.drop p).take (run (s.l.drop p) 2)⟩ (by show (List.take _ _).length<=_;rw[yl,yt];omega) (zOa (zMt _ _))
 rw[h]
 simp only[xr,xp,kg,hnum]
 cases (numU ((s.l.drop p).take (run (s.l.drop p) 2))).2 <;> rfl
def nmOf(u:List UInt8):Int:=match u with|[]=>-1|b::_=>if b.toNat<105∨b.toNat>108 then -1 else(b.toNat:Int) - 105
theorem zPq(s:Str)(p:Nat)(hp:p<=s.l.length):jK s (p:Int)=some (nmOf (s.l.drop p)):=by
 unfold jK;by_cases h:p=s.l.length
 ·have h1:((p:Int)>=(s.l.length:Int)):=by omega
  simp only[h1,yg,xu,xw,xr,xp];rw[yw.2 (by omega)];rfl
 ·have h1:¬((p:Int)>=(s.l.length:Int)):=by omega
  have aG:p<s.l.length:=by omega
  simp only[h1,ye,xq,xt,sidx,gK,ya aG,xw,xr,xp];rw[yp aG,nmOf];have hb:=s.l[p].toNat_lt;by_cases ha:s.l[p].toNat<105
  ·have:((s.l[p].toNat:Int)<105):=by omega
   simp[ha,this]
  ·have xa:¬((s.l[p].toNat:Int)<105):=by omega
   by_cases hc:s.l[p].toNat>108
   ·have:((s.l[p].toNat:Int)>108):=by omega
    simp[xa,hc,this]
   ·have hc':¬((s.l[p].toNat:Int)>108):=by omega
    simp only[xa,hc',ha,hc,ye,xq,xt,xp,or_self];rw[tV (x:=(s.l[p].toNat:Int)) (by omega) (by omega),tV (by omega) (by omega)]
def dgt(u:List UInt8):Int×Nat:=if(numU (u.take (run u 2))).2 then((numU (u.take (run u 2))).1,run u 2) else(1,0)
def star(u:List UInt8):Nat:=if 0<(dgt u).2/\(u.drop (dgt u).2).head?=some 42 then(dgt u).2+1 else(dgt u).2
theorem zOb(u:List UInt8):(dgt u).2<=u.length:=by
 have:=zMW u 2;unfold dgt;split
 ·exact this.2
 ·exact zt _
theorem zPr(u:List UInt8):star u<=u.length:=by
 have:=zOb u;unfold star;split
 ·rename_i h;have:(u.drop (dgt u).2).length>0:=by
   cases hd:u.drop (dgt u).2 with
   | nil=>rw[hd] at h;cases h.2
   | cons b r=>simp
  rw[yt] at this;omega
 ·exact this
def sgo(u:List UInt8):Nat:=match u with|[]=>0|b::_=>if isSg b then 1 else 0
theorem zK3(a:zA)(s:Str)(hs:s.l.length<=1048576)(hC:a.Coefs.length=4)(sg:Int)(q:Nat)(ho:q<=s.l.length):
 (do
 let (y1,y2)<-pA s (q:Int)
 let t51<-(do
  if(decide (y2>(q:Int))) then
   if(decide (y2<(s.l.length:Int))) then
    let b5<-idx s.l y2
    pure ((b5.toNat:Int)==42)
   else
    pure false
  else
   pure false
    : Option Bool)
 let star<-(do
  if t51 then
   pure (W (y2+1))
  else
   pure (id y2)
    : Option Int)
 let y3<-jK s star
 let l<-app 8 ([]:List Int) a.Coefs
 let t75<-(do
  if(decide (y3>=0)) then
   if(decide (star>y2)) then
    pure true
   else
    pure (y2==(q:Int))
  else
   pure false
    : Option Bool)
 if t75 then
  let x<-idx l y3
  let x1<-idx l y3
  let l1<-pure (l.set y3.toNat (W (x+(W (sg*y1)))))
  pure ((zA.mk l1 a.Const),(W (star+1)))
 else
  if(y2==(q:Int)) then
   pure (a,(-1))
  else
   pure ((zA.mk l (W (a.Const+(W (sg*y1))))),y2):Option (zA×Int))=some (let u:=s.l.drop q
    if 0<=nmOf (u.drop (star u))/\((dgt u).2<star u∨(dgt u).2=0) then
     (⟨a.Coefs.set (nmOf (u.drop (star u))).toNat (W (a.Coefs.getD (nmOf (u.drop (star u))).toNat 0+W (sg*(dgt u).1))),a.Const⟩,((q+star u+1:Nat):Int))
    else if(dgt u).2=0 then(a,-1) else(⟨a.Coefs,W (a.Const+W (sg*(dgt u).1))⟩,((q+(dgt u).2:Nat):Int))):=by
  rw[zJr s q hs ho]
  have hdl:=zOb (s.l.drop q)
  have hstl:=zPr (s.l.drop q)
  rw[yt] at hdl hstl
  have hdig:(if(numU ((s.l.drop q).take (run (s.l.drop q) 2))).2=true then((numU ((s.l.drop q).take (run (s.l.drop q) 2))).1,((q+run (s.l.drop q) 2:Nat):Int)) else(1,(q:Int)))=((dgt (s.l.drop q)).1,((q+(dgt (s.l.drop q)).2:Nat):Int)):=by
   unfold dgt
   split <;> rfl
  rw[hdig]
  simp only[xw,xr,xp]
  have hstar:∀(f:Int->Option (zA×Int)),(Option.bind (if(decide (((q+(dgt (s.l.drop q)).2:Nat):Int)>(q:Int)))=true then
   (if(decide (((q+(dgt (s.l.drop q)).2:Nat):Int)<(s.l.length:Int)))=true then
    Option.bind (idx s.l ((q+(dgt (s.l.drop q)).2:Nat):Int)) λb5=>some ((b5.toNat:Int)==42)
   else some false) else some false) λt51=>Option.bind (if t51=true then some (W (((q+(dgt (s.l.drop q)).2:Nat):Int)+1)) else some (id ((q+(dgt (s.l.drop q)).2:Nat):Int))) f)=f ((q+star (s.l.drop q):Nat):Int):=by
   intro f
   unfold star
   rw[zr,gK]
   by_cases h0:0<(dgt (s.l.drop q)).2
   ·have h0':(((q+(dgt (s.l.drop q)).2:Nat):Int)>(q:Int)):=by omega
    by_cases h1:q+(dgt (s.l.drop q)).2<s.l.length
    ·have ou:(((q+(dgt (s.l.drop q)).2:Nat):Int)<(s.l.length:Int)):=by omega
     have k42:((s.l[q+(dgt (s.l.drop q)).2].toNat:Int)==42)=decide (s.l[q+(dgt (s.l.drop q)).2]=42):=zAK _ 42 (by omega)
     have hhd:(s.l.drop (q+(dgt (s.l.drop q)).2)).head?=some (s.l[q+(dgt (s.l.drop q)).2]):=by rw[yp h1];rfl
     simp only[h0',ou,yg,xu,ya h1,xp,k42,h0,true_and,hhd,Option.some.injEq]
     by_cases lU:s.l[q+(dgt (s.l.drop q)).2]=42
     ·simp only[lU,yg,xu,xp]
      rw[fV (by omega)];rfl
     ·simp only[lU,ye,xq,xt,xp,id]
    ·have ou:¬(((q+(dgt (s.l.drop q)).2:Nat):Int)<(s.l.length:Int)):=by omega
     have hhd:(s.l.drop (q+(dgt (s.l.drop q)).2)).head?=none:=by
      rw[show s.l.drop (q+(dgt (s.l.drop q)).2)=[] from yw.2 (by omega)];rfl
     simp only[h0',ou,yg,ye,xu,xq,xt,xp,hhd,reduceCtorEq,and_false,id]
   ·have h0':¬(((q+(dgt (s.l.drop q)).2:Nat):Int)>(q:Int)):=by omega
    simp only[h0',h0,ye,xq,xt,xp,false_and,id]
  refine(hstar _).trans ?_
  rw[zPq s _ (by omega),sX (by simp;omega),<- zr]
  simp only[xp,yy]
  generalize hu:s.l.drop q=u at hdl hstl ⊢
  have xe:nmOf (u.drop (star u))<4:=by
   unfold nmOf
   split
   ·omega
   ·split <;> omega
  generalize nmOf (u.drop (star u))=v at xe ⊢
  by_cases hv:0<=v
  ·have m8:v>=0:=hv
   have hx:idx a.Coefs v=some (a.Coefs.getD v.toNat 0):=by
    rw[zOK hv,zp,ya (by omega)]
    rfl
   by_cases h1:(dgt u).2<star u
   ·have ou:(((q+star u:Nat):Int)>((q+(dgt u).2:Nat):Int)):=by omega
    simp only[hv,m8,h1,ou,yg,xu,xp,hx,true_or,and_self]
    rw[fV (by omega)]
   ·have ou:¬(((q+star u:Nat):Int)>((q+(dgt u).2:Nat):Int)):=by omega
    by_cases h2:(dgt u).2=0
    ·have h2':(((q+(dgt u).2:Nat):Int)==(q:Int))=true:=by simp;omega
     simp only[hv,m8,h1,ou,h2',yg,ye,xu,xq,xt,xp,hx]
     rw[if_pos ⟨trivial,.inr h2⟩,fV (by omega)]
    ·have h2':(((q+(dgt u).2:Nat):Int)==(q:Int))=false:=by simp;omega
     simp only[hv,m8,h1,ou,h2',h2,yg,ye,xu,xq,xt,xp,or_self,and_false]
  ·have m8:¬v>=0:=hv
   simp only[hv,m8,ye,xq,xt,xp,false_and]
   by_cases h2:(dgt u).2=0
   ·have h2':(((q+(dgt u).2:Nat):Int)==(q:Int))=true:=by simp;omega
    rw[if_pos h2',if_pos h2]
   ·have h2':(((q+(dgt u).2:Nat):Int)==(q:Int))=false:=by simp;omega
    rw[if_neg (by rw[h2'];simp),if_neg h2]
theorem zIn(a:zA)(s:Str)(p:Nat)(hs:s.l.length<=1048576)(hp:p<s.l.length)(hC:a.Coefs.length=4):
 oH a s (p:Int)=some (let u0:=s.l.drop p;let o:=sgo u0;let u:=s.l.drop (p+o)
  if 0<=nmOf (u.drop (star u))/\((dgt u).2<star u∨(dgt u).2=0) then
   (⟨a.Coefs.set (nmOf (u.drop (star u))).toNat (W (a.Coefs.getD (nmOf (u.drop (star u))).toNat 0+W (signOf u0*(dgt u).1))),a.Const⟩,((p+o+star u+1:Nat):Int))
  else if(dgt u).2=0 then(a,-1) else(⟨a.Coefs,W (a.Const+W (signOf u0*(dgt u).1))⟩,((p+o+(dgt u).2:Nat):Int))):=by
 unfold oH
 have hd0:=yp hp
 have k43:((s.l[p].toNat:Int)==43)=decide (s.l[p]=43):=zAK _ 43 (by omega)
 have k45:((s.l[p].toNat:Int)==45)=decide (s.l[p]=45):=zAK _ 45 (by omega)
 simp only[sidx,gK,ya hp,k43,k45,xw,xr,xp]
 rw[hd0]
 simp only[sgo,signOf]
 have hs1:(if(decide (s.l[p]=45))=true then some (-1:Int) else some (id 1))=some (if s.l[p]=45 then -1 else 1):=by
  by_cases h:s.l[p]=45 <;> simp[h]
 have au:(if(decide (s.l[p]=45))=true then some true else some (decide (s.l[p]=43)))=some (isSg s.l[p]):=by
  unfold isSg
  by_cases h:s.l[p]=45 <;> by_cases h':s.l[p]=43 <;> simp[h,h']
 rw[hs1]
 simp only[xp]
 rw[au]
 simp only[xp]
 have av:(if isSg s.l[p]=true then some (W ((p:Int)+1)) else some (id (p:Int)))=some ((p+(if isSg s.l[p]=true then 1 else 0):Nat):Int):=by
  split
  ·rw[fV (by omega)]
  ·rfl
 rw[av]
 simp only[xp]
 have ho:p+(if isSg s.l[p]=true then 1 else 0)<=s.l.length:=by split <;> omega
 exact zK3 a s hs hC _ _ ho
open Lib (itoa decDigits)
def Sg(f:List UInt8)(sg:Int):Prop:=(f=[]/\sg=1)∨(f=[43]/\sg=1)∨(f=[45]/\sg=-1)
theorem zQo{b:UInt8}(h:isSg b=false):b ≠ 45:=by rintro rfl;cases h
theorem bodyU(k i:Nat)(hk:1<=k/\k<=9)(hi:i<4)(t:List UInt8):
 dgt (bodyV k i++t)=((k:Int),if k=1 then 0 else 1)/\star (bodyV k i++t)=(if k=1 then 0 else 2)/\nmOf ((bodyV k i++t).drop (if k=1 then 0 else 2))=(i:Int)/\(bodyV k i).length=(if k=1 then 1 else 3)/\isSg ((bodyV k i++t).headD 0)=false/\(bodyV k i++t).headD 0 ≠ 45/\bodyV k i ≠ []:=by
 obtain⟨h1,h2⟩:=hk
 have c1:k=1∨k=2∨k=3∨k=4∨k=5∨k=6∨k=7∨k=8∨k=9:=by omega
 have c2:i=0∨i=1∨i=2∨i=3:=by omega
 rcases c1 with rfl|rfl|rfl|rfl|rfl|rfl|rfl|rfl|rfl <;> rcases c2 with rfl|rfl|rfl|rfl <;> exact⟨rfl,rfl,rfl,rfl,rfl,zQo rfl,by simp[bodyV,dtx]⟩
theorem dtxU:∀(k:Fin 100),dgt (dtx k.val)=((k.val:Int),(dtx k.val).length)/\star (dtx k.val)=(dtx k.val).length/\isSg ((dtx k.val).headD 0)=false/\(dtx k.val).headD 0 ≠ 45/\dtx k.val ≠ []:=by decide +kernel
theorem zMu{f:List UInt8}{sg:Int}(hf:Sg f sg){u:List UInt8}(cT:u ≠ [])(hu:isSg (u.headD 0)=false)(hn:u.headD 0 ≠ 45):sgo (f++u)=f.length/\signOf (f++u)=sg/\f++u ≠ []:=by
 rcases hf with⟨rfl,rfl⟩|⟨rfl,rfl⟩|⟨rfl,rfl⟩
 ·cases u with
  | nil=>exact absurd rfl cT
  | cons b r=>
   simp only[List.headD_cons] at hu hn;simp[sgo,signOf,hu,hn]
 ·exact⟨rfl,rfl,by simp⟩
 ·exact⟨rfl,rfl,by simp⟩
theorem stepV(T:Str)(hT:T.l.length<=1048576)(p:Nat)(f:List UInt8)(sg:Int)(hf:Sg f sg)(k i:Nat)(hk:1<=k/\k<=9)(hi:i<4)(t:List UInt8)
 (hd:T.l.drop p=f++(bodyV k i++t)) (C:List Int) (K:Int) (hC:C.length=4) :
 ∃q:Nat,oH ⟨C,K⟩ T (p:Int)=some (⟨C.set i (W (C.getD i 0+W (sg*(k:Int)))),K⟩,(q:Int))/\T.l.drop q=t/\p<T.l.length/\q<=T.l.length:=by
 obtain⟨b1,b2,b3,b4,b5,b6,b7⟩:=bodyU k i hk hi t
 obtain⟨s1,s2,s3⟩:=zMu hf (u:=bodyV k i++t) (by simp[b7]) b5 b6
 have hp:p<T.l.length:=by
  rcases z6 p T.l.length with h|h
  ·exact h
  ·rw[yw.2 h] at hd;exact absurd hd.symm s3
 have aP:=congrArg List.length hd
 rw[yt,yc,yc,b4] at aP
 have hu:T.l.drop (p+f.length)=bodyV k i++t:=by
  rw[<- zr,hd,List.drop_left]
 refine⟨p+f.length+(if k=1 then 0 else 2)+1,?_,?_,hp,?_⟩
 ·rw[zIn _ T p hT hp hC]
  simp only[hd,s1,hu,s2,b1,b2,b3,zq]
  rw[if_pos]
  refine⟨by omega,?_⟩
  by_cases h:k=1
  ·right;simp[h]
  ·left;simp[h]
 ·have:p+f.length+(if k=1 then 0 else 2)+1=p+f.length+(bodyV k i).length:=by rw[b4];split <;> omega
  rw[this,<- zr,hu,List.drop_left]
 ·split at aP <;> rename_i h <;> simp only[h,xu,xt] <;> omega
theorem stepK(T:Str)(hT:T.l.length<=1048576)(p:Nat)(f:List UInt8)(sg:Int)(hf:Sg f sg)(k:Nat)(hk:k<=99)
 (hd:T.l.drop p=f++dtx k) (C:List Int) (K:Int) (hC:C.length=4) :
 oH ⟨C,K⟩ T (p:Int)=some (⟨C,W (K+W (sg*(k:Int)))⟩,(T.l.length:Int))/\p<T.l.length:=by
 obtain⟨b1,b2,b5,b6,b7⟩:=dtxU ⟨k,by omega⟩
 simp only at b1 b2 b5 b6 b7
 obtain⟨s1,s2,s3⟩:=zMu hf (u:=dtx k) b7 b5 b6
 have hp:p<T.l.length:=by
  rcases z6 p T.l.length with h|h
  ·exact h
  ·rw[yw.2 h] at hd;exact absurd hd.symm s3
 have aP:=congrArg List.length hd
 rw[yt,yc] at aP
 have hu:T.l.drop (p+f.length)=dtx k:=by
  rw[<- zr,hd,List.drop_left]
 have hdl:=kM k
 refine⟨?_,hp⟩
 rw[zIn _ T p hT hp hC]
 have xe:nmOf ([]:List UInt8)=-1:=rfl
 simp only[hd,s1,hu,s2,b1,b2,A8,xe]
 rw[if_neg (by omega),if_neg (by omega)]
 congr 3
 omega
theorem zDz(T:Str)(p:Nat)(hp:T.l.length<=p)(x:zA):wH T (p:Int) x=some x:=by
 rw[wH];have h1:((p:Int)>=0):=by omega
 have h2:¬((p:Int)<(T.l.length:Int)):=by omega
 simp[h1,h2]
theorem zK4(T:Str)(p:Nat)(hp:p<T.l.length)(x y:zA)(q:Int)(h:oH x T (p:Int)=some (y,q)):wH T (p:Int) x=wH T q y:=by
 conv=>lhs;rw[wH]
 have h1:((p:Int)>=0):=by omega
 have h2:((p:Int)<(T.l.length:Int)):=by omega
 simp only[h1,h2,yg,xu,xw,xr,xp,h]
def st(f:Bool)(l:List UInt8):List UInt8:=if f then strip l else l
theorem zOc(f:Bool)(c:Int)(u:List UInt8):∃g,st f (sgn c::u)=g++u/\Sg g (if c<0 then -1 else 1):=by
 unfold st strip sgn;by_cases hc:c<0
 ·exact⟨[45],by simp[hc],by simp[Sg,hc]⟩
 ·cases f with
  | true=>exact⟨[],by simp[hc],by simp[Sg,hc]⟩
  | false=>exact⟨[43],by simp[hc],by simp[Sg,hc]⟩
theorem zL4(T:Str)(hT:T.l.length<=1048576)(k:Int)(hk:constB k=true):∀(cs pre:List Int) (f:Bool) (p:Nat),(∀c∈cs,coefB c=true)->pre.length+cs.length=4->p<=T.l.length ->
 T.l.drop p=st f (T0 cs pre.length++TK k)->wH T (p:Int) ⟨pre++List.replicate cs.length 0,0⟩=some ⟨pre++cs,k⟩:=by
 intro cs
 induction cs with
 | nil=>
  intro pre f p hc hl hp hd
  simp only[T0,yy,yo,List.replicate_zero,yk] at hl hd ⊢
  simp only[constB,xv,yd] at hk
  by_cases h0:k=0
  ·subst h0
   have:T.l.length<=p:=by
    rw[TK,if_pos rfl] at hd
    have:st f []=[]:=by cases f <;> rfl
    rw[this] at hd
    exact yw.1 hd
   exact zDz T p this _
  ·rw[TK,if_neg h0] at hd
   obtain⟨g,hg,hs⟩:=zOc f k (dtx k.natAbs)
   rw[hg] at hd
   obtain⟨e1,e2⟩:=stepK T hT p g _ hs k.natAbs (by omega) hd pre 0 hl
   rw[zK4 T p e2 _ _ _ e1,zGB k (by omega)]
   exact zDz T _ (zf _) _
 | cons c cs ih=>
  intro pre f p hc hl hp hd
  have aI:=hc c (xz ..)
  have aU:∀y∈cs,coefB y=true:=λy hy=>hc y (xx _ hy)
  simp only[coefB,xv,yd] at aI
  simp only[xy] at hl
  have ih':=λg q=>ih (pre++[c]) g q aU (by simp;omega)
  simp only[yc,Ai,yu] at ih'
  by_cases h0:c=0
  ·subst h0
   rw[T0,if_pos rfl,yy] at hd
   simpa [Ap] using ih' f p hp hd
  ·rw[T0,if_neg h0,yu,ze] at hd
   obtain⟨g,hg,hs⟩:=zOc f c (bodyV c.natAbs pre.length++(T0 cs (pre.length+1)++TK k))
   rw[hg] at hd
   obtain⟨q,e1,e2,e3,e4⟩:=stepV T hT p g _ hs c.natAbs pre.length (by omega) (by omega) _ hd (pre++List.replicate (cs.length+1) 0) 0 (by simp;omega)
   have hgd:(pre++List.replicate (cs.length+1) (0:Int)).getD pre.length 0=0:=by
    rw[zp,AJ (zf _),Nat.sub_self,Ap];rfl
   have fg:(pre++List.replicate (cs.length+1) (0:Int)).set pre.length c=pre++([c]++List.replicate cs.length 0):=by
    rw[List.set_append_right _ _ (zf _),Nat.sub_self,Ap];rfl
   rw[xy,zK4 T p e3 _ _ _ e1,hgd,zGB c (by omega),fg]
   exact ih' false q e4 e2
theorem zDA(a:zA)(ha:validB a=true):wH ⟨tx a⟩ 0 ⟨[0,0,0,0],0⟩=some a:=by
 have hv:=ha;simp only[validB,xv,yd] at hv;obtain⟨⟨h4,hk⟩,hall⟩:=hv;have ve:=zCL ha;have al:List.replicate 4 (0:Int)=[0,0,0,0]:=rfl;have gy:=λc hc=>yb.1 hall c hc;by_cases hr:raw a=[]
 ·have fh:=zL4 ⟨[]⟩ (by simp) a.Const hk a.Coefs [] false 0 gy (by simp[h4]) (by simp) (by rw[yo];exact hr.symm);rw[yy,yy,h4,al] at fh;have mz:=zDz ⟨[]⟩ 0 (by simp) ⟨[0,0,0,0],0⟩;rw[mz] at fh;have ea:(⟨[0,0,0,0],0⟩:zA)=a:=by
   simp only[Option.some.injEq] at fh;exact fh
  unfold tx;rw[if_pos hr];obtain⟨e1,e2⟩:=stepK ⟨[48]⟩ (by simp) 0 [] 1 (.inl ⟨rfl,rfl⟩) 0 (by omega) rfl [0,0,0,0] 0 rfl;have:=zK4 ⟨[48]⟩ 0 e2 _ _ _ e1;rw[Aa] at this;rw[this,zDz _ _ (zf _),<- ea];rfl
 ·unfold tx at ve ⊢;rw[if_neg hr] at ve ⊢;have fh:=zL4 ⟨strip (raw a)⟩ (by simp only;omega) a.Const hk a.Coefs [] true 0 gy (by simp[h4]) (by simp) (by rw[yo];rfl);rw[yy,yy,h4,al] at fh;exact fh
theorem specFormat(a:zA)(h:a.Coefs.length<=1048576):pR a=some (if validB a then⟨tx a⟩ else⟨[]⟩):=by
 unfold pR;rw[specValid a h];cases hv:validB a with
 | false=>rfl
 | true=>simp[zGy a hv]
theorem zRM(a:zA)(ha:validB a=true):tx a ≠ []:=by
 unfold tx;split
 ·simp
 ·rename_i h;rcases zJq a ha with h' | ⟨c,b,t,h',hb,hn⟩
  ·exact absurd h' h
  ·rw[h',strip];split
   ·simp[hn]
   ·simp
theorem zK5{a b:zA}(ha:validB a=true)(hb:validB b=true)(h:tx a=tx b):a=b:=by
 have e1:=zDA a ha;rw[h,zDA b hb,Option.some.injEq] at e1;exact e1.symm
theorem zJ8(s:Str)(h0:s.l.length<=1000000):∃x,wH s 0 ⟨[0,0,0,0],0⟩=some x/\VA x:=by
 have:=(zB6 s h0 (s.l.length+2) 0 ⟨[0,0,0,0],0⟩).ok ⟨⟨by omega,by omega,by omega⟩,rfl,by simp[I64],by simp[I64]⟩ (λx=>VA x) (λx hx=>hx);exact this
theorem specParse(t:Str)(hl:t.l.length<=1000000):∃r,qS t=some r/\ResA t.l r:=by
 obtain⟨t⟩:=t;simp only at hl;unfold qS;have hz:nH=some ⟨[0,0,0,0],0⟩:=rfl;simp only[hz,xr,xp,xw];by_cases sp:t.length>40
 ·have:((t.length:Nat):Int)>40:=by omega
  simp only[this,yg,xu];exact⟨_,rfl,.inr ⟨rfl,rfl,λa hv e=>by have:=zCL hv;rw[<- e] at this;omega⟩⟩
 ·have:¬((t.length:Nat):Int)>40:=by omega
  simp only[this,ye,xq,xt];obtain⟨x,hx,hvx⟩:=zJ8 ⟨t⟩ hl;rw[hx];simp only[xp];rw[specFormat x (by rw[hvx.1];decide)];simp only[xp];have hval:∀a,validB a=true->t=tx a->a=x:=by
   rintro a hv rfl;rw[zDA a hv,Option.some.injEq] at hx;exact hx
  cases hv:validB x with
  | false=>
   simp only[xq,xt];have pr:∀a,validB a=true->t ≠ tx a:=λa hva e=>by rw[hval a hva e,hv] at hva;cases hva
   by_cases ht:t=[]
   ·exact absurd ht (by
     intro ht;subst ht;have:=zDz ⟨[]⟩ 0 (by simp) ⟨[0,0,0,0],0⟩;rw[Aa,hx,Option.some.injEq] at this;subst this;exact absurd hv (by decide))
   ·have:(([]:List UInt8)==t)=false:=by simpa using ht
    simp only[this,yx,xu];exact⟨_,rfl,.inr ⟨rfl,rfl,pr⟩⟩
  | true=>
   simp only[xu];cases he:tx x==t with
   | true=>
    simp only[y0,xq,xt];exact⟨_,rfl,.inl ⟨rfl,hv,(beq_iff_eq.1 he).symm⟩⟩
   | false=>
    simp only[yx,xu];exact⟨_,rfl,.inr ⟨rfl,rfl,λa hva e=>by rw[hval a hva e] at e;rw[e] at he;simp at he⟩⟩
open Lib (itoa decDigits)
def pre(p:List UInt8):List (List UInt8)->List (List UInt8)
 | []=>[p]
 | h::t=>(p++h)::t
def cutS(c:UInt8):List UInt8->List (List UInt8)
 | []=>[[]]
 | b::l=>if b=c then[]::cutS c l else pre [b] (cutS c l)
theorem zPs(p q:List UInt8)(X:List (List UInt8)):pre p (pre q X)=pre (p++q) X:=by
 cases X <;> simp[pre]
theorem zQp(p:List UInt8)(X:List (List UInt8)):pre p X ≠ []:=by
 cases X <;> simp[pre]
theorem zDB(c:UInt8):∀l,cutS c l ≠ []
 | []=>by simp[cutS]
 | b::l=>by
  unfold cutS
  split
  ·simp
  ·exact zQp _ _
theorem zMv{X:List (List UInt8)}(h:X ≠ []):pre [] X=X:=by
 cases X with
 | nil=>exact absurd rfl h
 | cons=>simp[pre]
theorem zPt(p:List UInt8)(X:List (List UInt8))(h:X ≠ []):(pre p X).length=X.length:=by
 cases X with
 | nil=>exact absurd rfl h
 | cons=>simp[pre]
theorem zGC(c:UInt8):∀l,(cutS c l).length<=l.length+1
 | []=>by simp[cutS]
 | b::l=>by
  have:=zGC c l
  unfold cutS
  split
  ·simp;omega
  ·rw[zPt _ _ (zDB c l)];simp;omega
theorem zIo{α:Type}(s:List α){f i:Nat}(hf:f<=i)(hi:i<s.length):(s.take (i+1)).drop f=(s.take i).drop f++[s[i]]:=by
 rw[Ab,ya hi,List.drop_append_of_le_length (by rw[yl];omega)];rfl
theorem zQq(s:Str)(c:UInt8)(hs:s.l.length<=1048576):∀j i f (out:List Str),i+j=s.l.length->f<=i->out.length<=i ->
 sT s c out (f:Int) (i:Int)=some (out++(pre ((s.l.take i).drop f) (cutS c (s.l.drop i))).map Str.mk):=by
 intro j
 induction j with
 | zero=>
  intro i f out hi hf ho
  rw[sT]
  have h1:((i:Int)<=(s.l.length:Int)):=by omega
  have h2:((i:Int)==(s.l.length:Int))=true:=by simp;omega
  simp only[h1,h2,yg,xu,xw,xr,xp,zAY hf (by omega:i<=s.l.length)]
  rw[sX (by simp;omega)]
  simp only[xp]
  rw[fV (by omega),sT]
  have h3:¬(((i+1:Nat):Int)<=(s.l.length:Int)):=by omega
  simp only[h3,ye,xq,xt]
  rw[show s.l.drop i=[] from yw.2 (by omega)]
  simp[cutS,pre]
 | succ j ih=>
  intro i f out hi hf ho
  rw[sT]
  have aG:i<s.l.length:=by omega
  have h1:((i:Int)<=(s.l.length:Int)):=by omega
  have h2:((i:Int)==(s.l.length:Int))=false:=by simp;omega
  simp only[h1,h2,yg,xu,xq,xt,sidx,gK,ya aG,xw,xr,xp,zJj]
  rw[yp aG]
  by_cases hc:s.l[i]=c
  ·simp only[hc,yg,xu,zAY hf (by omega:i<=s.l.length),xp]
   rw[sX (by simp;omega)]
   simp only[xp]
   rw[fV (by omega),ih (i+1) (i+1) _ (by omega) (by omega) (by simp;omega)]
   rw[yw.2 (show (s.l.take (i+1)).length<=i+1 by rw[yl];omega),zMv (zDB _ _)]
   simp[cutS,pre]
  ·simp only[hc,ye,xq,xt,xp]
   rw[fV (by omega),ih (i+1) f out (by omega) (by omega) (by omega)]
   rw[zIo _ hf aG]
   conv=>rhs;unfold cutS
   rw[if_neg hc,zPs]
theorem zHC(s:Str)(c:UInt8)(hs:s.l.length<=1048576):kL s c=some ((cutS c s.l).map Str.mk):=by
 unfold kL;have:=zQq s c hs s.l.length 0 0 [] (by omega) (by omega) (by simp);simp only[Aa] at this;rw[this];simp[zMv (zDB _ _)]
theorem zL5(c:UInt8):∀s:List UInt8,Lib.split s [c]=cutS c s
 | []=>by rw[Lib.split,Lib.count_miss (by simp[Lib.index])];rfl
 | b::l=>by
  have ih:=zL5 c l
  unfold Lib.split at ih ⊢
  unfold cutS
  by_cases h:b=c
  ·subst h
   rw[if_pos rfl,Lib.count_cons_eq,<- ih,Nat.add_comm 1]
   have hix:Lib.index (b::l) [b]=0:=by rw[Lib.index];simp[List.isPrefixOf]
   rw[Lib.splitK,hix]
   simp
  ·rw[if_neg h,Lib.count_cons_ne b c l h,<- ih]
   have hp:([c]:List UInt8).isPrefixOf (b::l)=false:=by simp[List.isPrefixOf,Ne.symm h]
   have hix:Lib.index (b::l) [c]=if Lib.index l [c] == -1 then -1 else Lib.index l [c]+1:=by rw[Lib.index,hp];simp
   cases Lib.count l [c] with
   | zero=>rfl
   | succ k=>
    rw[Lib.splitK,Lib.splitK,hix]
    by_cases hm:Lib.index l [c]=-1
    ·simp[hm,pre]
    ·have hge:=Lib.index_ge l [c]
     obtain⟨j,hj⟩:∃j:Nat,Lib.index l [c]=j:=⟨(Lib.index l [c]).toNat,by omega⟩
     have e1:¬(Lib.index l [c] == -1)=true:=by simp[hm]
     rw[if_neg e1,if_neg e1,hj]
     have e2:¬(((j:Int)+1 == -1)=true):=by simp;omega
     rw[if_neg e2]
     have e3:((j:Int)+1).toNat=j+1:=by omega
     simp[pre,e3]
theorem zEA(s:Str)(c:UInt8)(hs:s.l.length<=1048576):oL s ⟨[c]⟩=some ((cutS c s.l).map Str.mk):=by
 unfold oL splitM;rw[if_pos ⟨by omega,by simp⟩,zL5]
theorem zEB{c:UInt8}:∀{w:List UInt8},c ∉ w->cutS c w=[w]
 | [],_=>rfl
 | b::w,h=>by
  rw[cutS,if_neg (λe=>h (by rw[e];exact xz ..)),zEB (λe=>h (xx _ e))]
  rfl
theorem zBu{c:UInt8}{r:List UInt8}:∀{w:List UInt8},c ∉ w->cutS c (w++c::r)=w::cutS c r
 | [],_=>by simp[cutS]
 | b::w,h=>by
  rw[ze,cutS,if_neg (λe=>h (by rw[e];exact xz ..)),zBu (λe=>h (xx _ e))]
  rfl
def joinS(c:UInt8):List (List UInt8)->List UInt8
 | []=>[]
 | [x]=>x
 | x::y::t=>x++c::joinS c (y::t)
theorem zOd(c:UInt8)(p:List UInt8):∀X,X ≠ []->joinS c (pre p X)=p++joinS c X
 | [],h=>absurd rfl h
 | [x],_=>rfl
 | x::y::t,_=>by simp[pre,joinS]
theorem zIp(c:UInt8):∀s,joinS c (cutS c s)=s
 | []=>rfl
 | b::l=>by
  have ih:=zIp c l
  unfold cutS
  split
  ·rename_i h
   subst h
   cases hx:cutS b l with
   | nil=>exact absurd hx (zDB _ _)
   | cons x t=>rw[hx] at ih;simp[joinS,ih]
  ·rw[zOd _ _ _ (zDB _ _),ih];rfl
theorem zBv{c:UInt8}:∀{s x},x∈cutS c s->x.length<=s.length
 | [],x,h=>by simp[cutS] at h;simp[h]
 | b::l,x,h=>by
  have ih:∀y∈cutS c l,y.length<=l.length:=λy hy=>zBv hy
  unfold cutS at h
  split at h
  ·rcases yh.1 h with rfl|h
   ·simp
   ·have:=ih _ h;simp;omega
  ·cases hx:cutS c l with
   | nil=>exact absurd hx (zDB _ _)
   | cons y t=>
    rw[hx] at h ih
    rcases yh.1 h with rfl|h
    ·have:=ih y (xz ..);simp;omega
    ·have:=ih x (xx _ h);simp;omega
def full(X:List (List UInt8)):List (List UInt8):=X.filter λx=>!(x==[])
theorem zOe(y:List Str)(hy:y.length<=1048577):∀j i (out:List Str),i+j=y.length->out.length<=i ->
 sE y out (i:Int)=some (out++(y.drop i).filter λx=>!(x.l==[])):=by
 intro j
 induction j with
 | zero=>
  intro i out hi ho
  rw[sE]
  have:¬((i:Int)<(y.length:Int)):=by omega
  simp only[this,ye,xq,xt]
  rw[yw.2 (by omega)]
  simp
 | succ j ih=>
  intro i out hi ho
  rw[sE]
  have aG:i<y.length:=by omega
  have h1:((i:Int)<(y.length:Int)):=by omega
  simp only[h1,yg,xu,gK,ya aG,xw,xr,xp]
  rw[yp aG,List.filter_cons]
  cases he:y[i].l==[] with
  | true=>
   simp only[y0,xq,xt,xp,id]
   rw[fV (by omega),ih (i+1) _ (by omega) (by omega)]
  | false=>
   simp only[yx,xu]
   rw[sX (by simp;omega)]
   simp only[xp,id]
   rw[fV (by omega),ih (i+1) _ (by omega) (by simp;omega)]
   simp
theorem zNa(X:List (List UInt8)):(X.map Str.mk).filter (λx=>!(x.l==[]))=(full X).map Str.mk:=by
 unfold full;rw[List.filter_map];rfl
theorem zAt(s:Str)(hs:s.l.length<=1048576):mK s=some ((full (cutS 32 s.l)).map Str.mk):=by
 unfold mK;rw[zHC s 32 hs];have hl:=zGC 32 s.l;have:=zOe ((cutS 32 s.l).map Str.mk) (by rw[ym];omega) _ 0 [] (yv _) (by simp);simp only[Aa] at this;simp only[xr,xp,this,id];simp only[yn,yy,zNa,xw]
end Go.LN
