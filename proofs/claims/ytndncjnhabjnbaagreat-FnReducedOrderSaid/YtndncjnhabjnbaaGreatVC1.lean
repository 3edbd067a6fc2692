/- Helper of the proof (see the last text). -/
import Derived.Test.YtndncjnhabjnbaaGreatVB1
import Derived.Test.YtndncjnhabjnbaaGreatQZ
set_option linter.unusedVariables false
set_option linter.unusedSimpArgs false
namespace Go.LN
theorem zAi{α:Type}{l:List α}{f:Int->List α->Option (List α)}(step:∀(i:Nat) (h:i<l.length) (o:List α),o.length=i->f (i:Int) o=f ((i+1:Nat):Int) (o++[l[i]]))(fin:∀o,f (l.length:Int) o=some o):f 0 []=some l:=by
 have key:∀j i,i+j=l.length->f (i:Int) (l.take i)=some l:=by
  intro j
  induction j with
  | zero=>
   intro i hi;rw[show i=l.length by omega,fin,dc (cI _)]
  | succ j ih=>
   intro i hi;have ax:i<l.length:=by omega
   have:=ih (i+1) (by omega);rw[List.take_add_one,cd ax,Option.toList_some] at this;rw[step i ax _ (by rw[cx];omega)];exact this
 exact key _ 0 (cm _)
theorem copyExpr:∀(m:Nat) (e:zI),BE m e->oF e=some e
 | m,e,h=>by
  obtain⟨h1,h2,h3⟩:=h.own
  rw[oF]
  have hl:=zAi (l:=e.Kids) (f:=λi o=>uS e i o) (λi hi o ho=>by
   show uS e (i:Int) o=_
   rw[uS]
   have k1:((i:Int)<(e.Kids.length:Int)):=by omega
   obtain⟨m',hm,hm'⟩:=h.kid (gM hi)
   have happ:app 112 o [e.Kids[i]]=some (o++[e.Kids[i]]):=qL (by simp;omega)
   have hr:=copyExpr m' e.Kids[i] hm'
   simp only[k1,dT,if_true,yO hi,oB,oS,same,hr,happ]
   rw[wD (by omega)]) (λo=>by
   show uS e (e.Kids.length:Int) o=_
   rw[uS];simp)
  simp only[specCopyAff _ h1,specCopyAcc _ h2,oB,oS,same]
  rw[show uS e 0 []=some e.Kids from hl]
  clear hl h h1 h2 h3
  cases e;rfl
theorem copyStmt(s:zP)(h:BS s):eF s=some s:=by
 obtain⟨h1,m,h2⟩:=h;unfold eF;rw[specCopyAcc _ h1,copyExpr m _ h2];rfl
theorem copyNest(nest:List zE)(h:BN nest):kS nest=some nest:=by
 obtain⟨h1,h2⟩:=h;unfold kS;have hl:=zAi (l:=nest) (f:=λi o=>tG nest o i) (λi hi o ho=>by
  show tG nest o (i:Int)=_;rw[tG];have k1:((i:Int)<(nest.length:Int)):=by omega
  obtain⟨⟨q1,q2⟩,q3,q4⟩:=h2 _ (gM hi);have happ:app 48 o [nest[i]]=some (o++[nest[i]]):=qL (by simp;omega);have hlo:=zAi (l:=nest[i].Lo) (f:=λk o=>rR nest (i:Int) k o) (λk hk o ho=>by
   show rR nest (i:Int) (k:Int) o=_;rw[rR];have k2:((k:Int)<(nest[i].Lo.length:Int)):=by omega
   have hp:app 32 o [nest[i].Lo[k]]=some (o++[nest[i].Lo[k]]):=qL (by simp;omega);have ha:=q2 _ (gM hk);have hpn:app 8 ([]:List Int) nest[i].Lo[k].Coefs=some nest[i].Lo[k].Coefs:=zBM _ (by unfold BA at ha;omega);simp only[yO hi,k2,dT,if_true,yO hk,oB,oS,hpn,hp];rw[wD (by omega)]) (λo=>by
   show rR nest (i:Int) (nest[i].Lo.length:Int) o=_;rw[rR];simp[yO hi])
  have hhi:=zAi (l:=nest[i].Hi) (f:=λk o=>rS nest (i:Int) k o) (λk hk o ho=>by
   show rS nest (i:Int) (k:Int) o=_;rw[rS];have k2:((k:Int)<(nest[i].Hi.length:Int)):=by omega
   have hp:app 32 o [nest[i].Hi[k]]=some (o++[nest[i].Hi[k]]):=qL (by simp;omega);have ha:=q4 _ (gM hk);have hpn:app 8 ([]:List Int) nest[i].Hi[k].Coefs=some nest[i].Hi[k].Coefs:=zBM _ (by unfold BA at ha;omega);simp only[yO hi,k2,dT,if_true,yO hk,oB,oS,hpn,hp];rw[wD (by omega)]) (λo=>by
   show rS nest (i:Int) (nest[i].Hi.length:Int) o=_;rw[rS];simp[yO hi])
  simp only[k1,dT,if_true,oB,oS,hlo,hhi,happ];rw[wD (by omega)]) (λo=>by
  show tG nest o (nest.length:Int)=_;rw[tG];simp)
 rw[hl];rfl
theorem copyProg(P:zC)(h:BG P):pY P=some P:=by
 obtain⟨⟨h1,h1'⟩,h2,h3⟩:=h;unfold pY;have ha:=zAi (l:=P.Arrays) (f:=λi o=>rU P i o) (λi hi o ho=>by
  show rU P (i:Int) o=_;rw[rU];have k1:((i:Int)<(P.Arrays.length:Int)):=by omega
  have hd:=h1' _ (gM hi);have happ:app 40 o [P.Arrays[i]]=some (o++[P.Arrays[i]]):=qL (by simp;omega);have hpn:app 8 ([]:List Int) P.Arrays[i].Dims=some P.Arrays[i].Dims:=zBM _ (by omega);simp only[k1,dT,if_true,yO hi,oB,oS,hpn,happ];rw[wD (by omega)]) (λo=>by
  show rU P (P.Arrays.length:Int) o=_;rw[rU];simp)
 have hp:=zAi (l:=P.Parts) (f:=λi o=>tH P i o) (λi hi o ho=>by
  show tH P (i:Int) o=_;rw[tH];have k1:((i:Int)<(P.Parts.length:Int)):=by omega
  obtain⟨b1,b2,b3⟩:=h3 _ (gM hi);have happ:app 48 o [P.Parts[i]]=some (o++[P.Parts[i]]):=qL (by simp;omega);have hb:=zAi (l:=P.Parts[i].Body) (f:=λk o=>rV P (i:Int) k o) (λk hk o ho=>by
   show rV P (i:Int) (k:Int) o=_;rw[rV];have k2:((k:Int)<(P.Parts[i].Body.length:Int)):=by omega
   have hp:app 152 o [P.Parts[i].Body[k]]=some (o++[P.Parts[i].Body[k]]):=qL (by simp;omega);simp only[yO hi,k2,dT,if_true,yO hk,oB,oS,copyStmt _ (b3 _ (gM hk)),hp];rw[wD (by omega)]) (λo=>by
   show rV P (i:Int) (P.Parts[i].Body.length:Int) o=_;rw[rV];simp[yO hi])
  simp only[k1,dT,if_true,yO hi,oB,oS,copyNest _ b1,hb,happ];rw[wD (by omega)]) (λo=>by
  show tH P (P.Parts.length:Int) o=_;rw[tH];simp)
 rw[ha,hp];rfl
end Go.LN
namespace Go.LN
theorem BE.up1:∀{n:Nat}{e:zI},BE n e->BE (n+1) e
 | 0,e,⟨h1,h2,h3⟩=>⟨h1,h2,by rw[h3];simp,by rw[h3];intro k hk;cases hk⟩
 | n+1,e,⟨h1,h2,h3,h4⟩=>⟨h1,h2,h3,λk hk=>BE.up1 (h4 k hk)⟩
theorem BE.up{n m:Nat}{e:zI}(h:BE n e)(hm:n<=m):BE m e:=by
 obtain⟨k,rfl⟩:=Nat.exists_eq_add_of_le hm
 induction k with
 | zero=>exact h
 | succ k ih=>exact BE.up1 (ih (by omega))
def QL(q:Nat)(l:List zA):Prop:=l.length<=q/\∀a∈l,BA a
def QN(q:Nat)(nest:List zE):Prop:=nest.length<=2000/\∀x∈nest,QL q x.Lo/\QL q x.Hi
def QS(q:Nat)(s:zP):Prop:=QL q s.Write.Subs/\BA s.Value.Index/\BL s.Value.Read.Subs/\s.Value.Kids.length<=q/\∀k∈s.Value.Kids,BE 6 k
theorem QL.up{q r:Nat}{l:List zA}(h:QL q l)(hq:q<=r):QL r l:=⟨cX h.1 hq,h.2⟩
theorem QL.bl{q:Nat}{l:List zA}(h:QL q l)(hq:q<=1000):BL l:=⟨cX h.1 hq,h.2⟩
theorem QL.app{q k:Nat}{l m:List zA}(h:QL q l)(hm:QL k m):QL (q+k) (l++m):=by
 refine⟨by rw[lA];exact Nat.add_le_add h.1 hm.1,λa ha=>?_⟩;rcases dl.1 ha with ha|ha
 ·exact h.2 a ha
 ·exact hm.2 a ha
theorem QL.nil{q:Nat}:QL q []:=⟨fj _,λ_ h=>by cases h⟩
theorem QL.one{a:zA}(h:BA a):QL 1 [a]:=⟨cI _,λ_ h'=>cD.1 h' ▸ h⟩
theorem QL.two{a b:zA}(h:BA a)(h2:BA b):QL 2 [a,b]:=QL.app (QL.one h) (QL.one h2)
theorem QN.up{q r:Nat}{l:List zE}(h:QN q l)(hq:q<=r):QN r l:=⟨h.1,λx hx=>⟨(h.2 x hx).1.up hq,(h.2 x hx).2.up hq⟩⟩
theorem QN.bn{q:Nat}{l:List zE}(h:QN q l)(hq:q<=1000):BN l:=⟨by have:=h.1;omega,λx hx=>⟨(h.2 x hx).1.bl hq,(h.2 x hx).2.bl hq⟩⟩
theorem QN.set{q:Nat}{l:List zE}(h:QN q l){x:zE}(hx:QL q x.Lo/\QL q x.Hi)(k:Nat):QN q (l.set k x):=⟨by rw[cJ];exact h.1,zGW h.2 hx k⟩
theorem QS.up{q r:Nat}{s:zP}(h:QS q s)(hq:q<=r):QS r s:=⟨h.1.up hq,h.2.1,h.2.2.1,cX h.2.2.2.1 hq,h.2.2.2.2⟩
theorem QS.bs{q:Nat}{s:zP}(h:QS q s)(hq:q<=1000):BS s:=⟨h.1.bl hq,7,h.2.1,h.2.2.1,by have:=h.2.2.2.1;omega,h.2.2.2.2⟩
theorem zKJ{a:zA}(h:a.Coefs.length=4):BA a:=by unfold BA;omega
theorem zMr(q:Nat):∀(j:Nat) (out:List zE),5<=out.length+j->1<=out.length->QN q out->Ok (pL out) (QN q)
 | 0,out,hj,h1,h=>by
  rw[pL]
  refine Ok.ite_dec (λhc=>absurd hc (by omega)) λ_=>Ok.pure h
 | j+1,out,hj,h1,h=>by
  rw[pL]
  refine Ok.ite_dec (λhc=>?_) λ_=>Ok.pure h
  refine Ok.idx (by omega) (by omega) λx hx _=>Ok.app (by simp;omega) ?_
  refine zMr q j _ (by rw[lA];simp;omega) (by rw[lA];omega) ⟨by rw[lA];simp;omega,λy hy=>?_⟩
  rcases dl.1 hy with hy|hy
  ·exact h.2 y hy
  ·rw[cD.1 hy];exact h.2 x hx
theorem mut2(q:Nat)(hq:q<=300)(r:zO)(nest:List zE)(h:QN q nest)(h0:0<=r.p)(h1:r.p<=900000000):Ok (mZ r nest) (λy=>QN (q+2) y.1/\0<=y.2.p/\y.2.p<=r.p+2):=by
 have hup:=h.up (show q<=q+2 by omega);unfold mZ;rw[copyNest nest (h.bn (by omega))];refine Ok.bind_some (Ok.ite_beq (λ_=>Ok.pure ⟨hup,h0,by dsimp only;omega⟩) λhne=>?_);have hpos:0<nest.length:=by omega
 have aJ:=h.1;have hW:W ((nest.length:Int) - 1)=((nest.length - 1:Nat):Int):=by rw[rA (by omega) (by omega)];omega
 refine Ok.call (dV r 40) ⟨h0,by omega⟩ λy2 s g1 g2 g3=>?_;refine Ok.ite_beq (λ_=>?_) λ_=>Ok.ite_beq (λ_=>?_) λ_=>Ok.ite_beq (λ_=>?_) λ_=>Ok.ite_beq (λ_=>?_) λ_=>Ok.ite_beq (λ_=>?_) λ_=>?_
 ·refine Ok.idx (by omega) (by omega) λx hx _=>Ok.call (dV s 2) ⟨by omega,by omega⟩ λy5 s2 k1 k2 k3=>Ok.call (zEK y5) ⟨k1,by omega⟩ λa c1 c2=>?_;have hxx:=h.2 x hx;refine Ok.app (by have:=hxx.1.1;simp;omega) (Ok.pure ⟨QN.set (x:=⟨x.Lo++[a],x.Hi⟩) hup ⟨(hxx.1.app (QL.one (zKJ c1))).up (show q+1<=q+2 by omega),hxx.2.up (show q<=q+2 by omega)⟩ _,by dsimp only;omega,by dsimp only;omega⟩)
 ·rw[hW];refine Ok.idx (by omega) (by omega) λx hx _=>?_;have hxx:=h.2 x hx;exact Ok.pure ⟨QN.set (x:=⟨x.Lo,[]⟩) hup ⟨hxx.1.up (show q<=q+2 by omega),QL.nil⟩ _,by dsimp only;omega,by dsimp only;omega⟩
 ·rw[hW];refine Ok.idx (by omega) (by omega) λx hx _=>Ok.call (gD 1) trivial (Ok.call (gD 2) trivial ?_);have hxx:=h.2 x hx;exact Ok.app (by have:=hxx.2.1;simp;omega) (Ok.pure ⟨QN.set (x:=⟨x.Lo,x.Hi++[⟨[0,0,0,0],1⟩,⟨[0,0,0,0],2⟩]⟩) hup ⟨hxx.1.up (show q<=q+2 by omega),hxx.2.app (QL.two (zKJ rfl) (zKJ rfl))⟩ _,by dsimp only;omega,by dsimp only;omega⟩)
 ·refine Ok.call (gD 99) trivial (Ok.idx (by omega) (by omega) λx hx _=>?_);have hxx:=h.2 x hx;exact Ok.pure ⟨QN.set (x:=⟨x.Lo,[⟨[0,0,0,0],99⟩]⟩) hup ⟨hxx.1.up (show q<=q+2 by omega),(QL.one (zKJ rfl)).up (show 1<=q+2 by omega)⟩ _,by dsimp only;omega,by dsimp only;omega⟩
 ·refine Ok.bind (zMr q 5 nest (by omega) hpos h) λz hz=>Ok.pure ⟨hz.up (by omega),by dsimp only;omega,by dsimp only;omega⟩
 ·exact Ok.pure ⟨hup,by dsimp only;omega,by dsimp only;omega⟩
theorem mut3(q:Nat)(hq:q<=300)(r:zO)(s:zP)(h:QS q s)(h0:0<=r.p)(h1:r.p<=900000000):Ok (rK r s) (λy=>QS (q+2) y.1/\0<=y.2.p/\y.2.p<=r.p+2):=by
 obtain⟨w1,w2,w3,w4,w5⟩:=h.up (show q<=q+2 by omega);obtain⟨v1,_,_,v4,_⟩:=id h;have v11:=v1.1;unfold rK;rw[copyStmt s (h.bs (by omega))];refine Ok.bind_some (Ok.call (dV r 40) ⟨h0,by omega⟩ λy2 y3 g1 g2 g3=>?_);have fin:∀(o:Str×List zA×Int×Int×List zI×zO),(QL (q+2) o.2.1/\(o.2.2.2.2.1.length<=q+2/\∀k∈o.2.2.2.2.1,BE 6 k)/\0<=o.2.2.2.2.2.p/\o.2.2.2.2.2.p<=r.p+2)->QS (q+2) (zP.mk (zK.mk o.1 o.2.1) (zI.mk o.2.2.1 o.2.2.2.1 s.Value.Index s.Value.Read o.2.2.2.2.1))/\0<=o.2.2.2.2.2.p/\o.2.2.2.2.2.p<=r.p+2:=
  λo ⟨a,b,c⟩=>⟨⟨a,w2,w3,b.1,b.2⟩,c⟩
 refine Ok.bind (φ:=λo:Str×List zA×Int×Int×List zI×zO=>QL (q+2) o.2.1/\(o.2.2.2.2.1.length<=q+2/\∀k∈o.2.2.2.2.1,BE 6 k)/\0<=o.2.2.2.2.2.p/\o.2.2.2.2.2.p<=r.p+2) ?_ λo ho=>by
  obtain⟨o1,o2,o3,o4,o5,o6⟩:=o;exact Ok.pure (fin _ ho)
 refine Ok.ite_beq (λ_=>?_) λ_=>?_
 ·exact Ok.call (zA8 y3 _) ⟨by decide,by omega,by omega⟩ λz t _ k3=>Ok.pure ⟨w1,⟨w4,w5⟩,by dsimp only;omega,by dsimp only;omega⟩
 refine Ok.bind (φ:=λo:List zA×Int×Int×List zI×zO=>QL (q+2) o.1/\(o.2.2.2.1.length<=q+2/\∀k∈o.2.2.2.1,BE 6 k)/\0<=o.2.2.2.2.p/\o.2.2.2.2.p<=r.p+2) ?_ λo ho=>by
  obtain⟨o2,o3,o4,o5,o6⟩:=o;exact Ok.pure ho
 refine Ok.ite_beq (λ_=>?_) λ_=>?_
 ·exact Ok.call (zEK 3) (by omega) λa c1 c2=>Ok.call zAf trivial (Ok.app (by simp;omega) (Ok.pure ⟨v1.app (QL.two (zKJ c1) (zKJ rfl)),⟨w4,w5⟩,by dsimp only;omega,by dsimp only;omega⟩))
 refine Ok.bind (φ:=λo:Int×Int×List zI×zO=>(o.2.2.1.length<=q+2/\∀k∈o.2.2.1,BE 6 k)/\0<=o.2.2.2.p/\o.2.2.2.p<=r.p+2) ?_ λo ho=>by
  obtain⟨o3,o4,o5,o6⟩:=o;exact Ok.pure ⟨w1,ho⟩
 refine Ok.ite_beq (λ_=>?_) λ_=>?_
 ·exact Ok.call (uI y3 _) ⟨by decide,by omega,by omega,by decide⟩ λz t _ _ k3=>Ok.pure ⟨⟨w4,w5⟩,by dsimp only;omega,by dsimp only;omega⟩
 refine Ok.bind (φ:=λo:Int×List zI×zO=>(o.2.1.length<=q+2/\∀k∈o.2.1,BE 6 k)/\0<=o.2.2.p/\o.2.2.p<=r.p+2) ?_ λo ho=>by
  obtain⟨o4,o5,o6⟩:=o;exact Ok.pure ho
 refine Ok.ite_beq (λ_=>?_) λ_=>?_
 ·exact Ok.call (uI y3 _) ⟨by decide,by omega,by omega,by decide⟩ λz t _ _ k3=>Ok.pure ⟨⟨w4,w5⟩,by dsimp only;omega,by dsimp only;omega⟩
 refine Ok.bind (φ:=λo:List zI=>o.length<=q+2/\∀k∈o,BE 6 k) ?_ λo ho=>Ok.pure ⟨ho,by dsimp only;omega,by dsimp only;omega⟩;refine Ok.ite_beq (λ_=>?_) λ_=>Ok.pure ⟨w4,w5⟩;refine Ok.app (by show (_+1)*112<=_;omega) (Ok.pure ⟨by show (_++_:List zI).length<=_;rw[lA];show _+1<=_;omega,λk hk=>?_⟩);rcases dl.1 hk with hk|hk
 ·exact w5 k hk
 ·rw[cD.1 hk];exact BE.up (n:=0) ⟨fj _,⟨fj _,λ_ h=>by cases h⟩,rfl⟩ (by omega)
end Go.LN
namespace Go.LN
def DX(x:zQ):Prop:=QN 100 x.Nest/\x.Body.length<=1000/\∀s∈x.Body,QS 100 s
def DP(P:zC):Prop:=(P.Arrays.length<=1000/\∀a∈P.Arrays,a.Dims.length<=1000)/\P.Parts.length<=1000/\∀x∈P.Parts,DX x
theorem DX.bp{x:zQ}(h:DX x):BP x:=⟨h.1.bn (by omega),by have:=h.2.1;omega,λs hs=>(h.2.2 s hs).bs (by omega)⟩
theorem DP.bg{P:zC}(h:DP P):BG P:=⟨⟨by have:=h.1.1;omega,h.1.2⟩,by have:=h.2.1;omega,λx hx=>(h.2.2 x hx).bp⟩
def PB(l:List zQ):Prop:=l.length<=1000/\∀x∈l,BP x
theorem PB.set{l:List zQ}(h:PB l){x:zQ}(hx:BP x)(k:Nat):PB (l.set k x):=⟨by rw[cJ];exact h.1,zGW h.2 hx k⟩
def AR(l:List zF):Prop:=l.length<=2000/\∀a∈l,a.Dims.length<=1000
def RD(s:zO):Prop:=0<=s.p/\s.p<=700001000
theorem mut4(r:zO)(P:zC)(h:DP P)(h0:0<=r.p)(h1:r.p<=700000000):Ok (pA r P) (λy=>(BG y.1/\AR y.1.Arrays)/\RD y.2):=by
 obtain⟨⟨a1,a2⟩,p1,p2⟩:=id h;have hA:AR P.Arrays:=⟨by omega,a2⟩;have hP:PB P.Parts:=⟨p1,λx hx=>(p2 x hx).bp⟩;have hW:0<P.Parts.length->W ((P.Parts.length:Int) - 1)=((P.Parts.length - 1:Nat):Int):=λhp=>by rw[rA (by omega) (by omega)];omega
 unfold pA;rw[copyProg P h.bg];refine Ok.bind_some (Ok.call (dV r 60) ⟨h0,by omega⟩ λy2 y3 g1 g2 g3=>?_);have hR:RD y3:=⟨by omega,by omega⟩;refine Ok.bind (φ:=λo:List zF×List zQ×zO=>AR o.1/\PB o.2.1/\RD o.2.2) ?_ λo ho=>by
  obtain⟨o1,o2,o3⟩:=o;exact Ok.pure ⟨⟨⟨⟨by have:=ho.1.1;dsimp only at this ⊢;omega,ho.1.2⟩,by have:=ho.2.1.1;dsimp only at this ⊢;omega,ho.2.1.2⟩,ho.1⟩,ho.2.2⟩
 refine Ok.ite_beq (λ_=>?_) λ_=>?_
 ·refine Ok.call (zA8 y3 _) ⟨by decide,by omega,by omega⟩ λz t _ k3=>Ok.call (uI t _) ⟨by decide,by omega,by omega,by decide⟩ λz2 t2 _ _ k4=>Ok.app (by show (_+1)*40<=_;omega) (Ok.pure ⟨⟨by show (_++_:List zF).length<=_;rw[lA];show _+1<=_;omega,λa ha=>?_⟩,hP,⟨by dsimp only;omega,by dsimp only;omega⟩⟩);rcases dl.1 ha with ha|ha
  ·exact a2 a ha
  ·rw[cD.1 ha];show 1<=1000;omega
 refine Ok.bind (φ:=λo:List zF×List zQ×zO=>AR o.1/\PB o.2.1/\RD o.2.2) ?_ λo ho=>by
  obtain⟨o1,o2,o3⟩:=o;exact Ok.pure ho
 refine Ok.ite_beq (λ_=>?_) λ_=>?_
 ·refine Ok.bind (φ:=λo:List zF×zO=>AR o.1/\RD o.2) ?_ λo ho=>by
   obtain⟨o1,o3⟩:=o;exact Ok.pure ⟨ho.1,hP,ho.2⟩
  refine Ok.ite_dec (λhc=>?_) λ_=>Ok.pure ⟨hA,hR⟩;refine Ok.call (uI y3 _) ⟨by decide,by omega,by omega,by decide⟩ λz t _ _ k3=>Ok.idx (by omega) (by omega) λx hx _=>Ok.bind_pure (Ok.pure ⟨⟨by show (List.set _ _ _).length<=_;rw[cJ];exact hA.1,zGW hA.2 (show ([z]:List Int).length<=1000 by simp) _⟩,⟨by dsimp only;omega,by dsimp only;omega⟩⟩)
 refine Ok.bind (φ:=λo:List zQ×zO=>PB o.1/\RD o.2) ?_ λo ho=>by
  obtain⟨o1,o3⟩:=o;exact Ok.pure ⟨hA,ho⟩
 refine Ok.ite_beq (λ_=>?_) λ_=>?_
 ·refine Ok.bind (φ:=λo:List zQ×zO=>PB o.1/\RD o.2) ?_ λo ho=>by
   obtain⟨o1,o3⟩:=o;exact Ok.pure ho
  refine Ok.ite_dec (λhc=>?_) λ_=>Ok.pure ⟨hP,hR⟩;refine Ok.idx (by omega) (by omega) λx hx _=>?_;refine Ok.bind (mut2 100 (by omega) y3 x.Nest (p2 x hx).1 (by omega) (by omega)) λq1 k1=>?_;obtain⟨n1,s1⟩:=q1;obtain⟨c1,c2,c3⟩:=k1;refine Ok.bind (mut2 (100+2) (by omega) s1 n1 c1 c2 (by dsimp only at c3;omega)) λq2 k2=>?_;obtain⟨n2,s2⟩:=q2;obtain⟨d1,d2,d3⟩:=k2;refine Ok.bind (mut2 (100+2+2) (by omega) s2 n2 d1 d2 (by dsimp only at c3 d3;omega)) λq3 k3=>?_;obtain⟨n,s⟩:=q3;have hn:=k3.1;refine Ok.idx (by omega) (by omega) λx7 hx7 _=>Ok.bind_pure (Ok.pure ⟨hP.set (x:=⟨n,x7.Body⟩) ⟨hn.bn (by omega),(p2 x7 hx7).bp.2.1,(p2 x7 hx7).bp.2.2⟩ _,⟨k3.2.1,by have:=k3.2.2;dsimp only at this c3 d3 ⊢;omega⟩⟩)
 refine Ok.bind (φ:=λo:List zQ×zO=>PB o.1/\RD o.2) ?_ λo ho=>by
  obtain⟨o1,o3⟩:=o;exact Ok.pure ho
 refine Ok.ite_beq (λ_=>?_) λ_=>?_
 ·refine Ok.bind (φ:=λb=>b=true->0<P.Parts.length/\∀x,P.Parts[P.Parts.length - 1]?=some x->0<x.Body.length) ?_ λb hb=>?_
  ·refine Ok.ite_dec (λhc=>?_) λ_=>Ok.pure (λh=>by cases h);have hp:0<P.Parts.length:=by omega
   rw[hW hp];refine Ok.idx (by omega) (by omega) λx hx he=>Ok.pure λhd=>⟨hp,λx' hx'=>?_⟩;rw[iN] at he;rw[he] at hx';cases hx'
   have:=of_decide_eq_true hd;omega
  ·refine Ok.bind (φ:=λo:List zQ×zO=>PB o.1/\RD o.2) ?_ λo ho=>by
    obtain⟨o1,o3⟩:=o;exact Ok.pure ho
   refine Ok.ite (λhc=>?_) λ_=>Ok.pure ⟨hP,hR⟩;obtain⟨hp,hbody⟩:=hb hc;rw[hW hp];refine Ok.idx (by omega) (by omega) λx hx he=>?_;rw[iN] at he;have hb0:=hbody x he;have hdx:=p2 x hx;refine Ok.idx (by omega) (by omega) λx0 hx0 _=>?_;refine Ok.bind (mut3 100 (by omega) y3 x0 (hdx.2.2 x0 hx0) (by omega) (by omega)) λq1 k1=>?_;obtain⟨n1,s1⟩:=q1;obtain⟨c1,c2,c3⟩:=k1;refine Ok.bind (mut3 (100+2) (by omega) s1 n1 c1 c2 (by dsimp only at c3;omega)) λq2 k2=>?_;obtain⟨n2,s2⟩:=q2;obtain⟨d1,d2,d3⟩:=k2;refine Ok.bind (mut3 (100+2+2) (by omega) s2 n2 d1 d2 (by dsimp only at c3 d3;omega)) λq3 k3=>?_;obtain⟨n,s⟩:=q3;have hn:=k3.1;refine Ok.bind_pure (Ok.pure ⟨hP.set (x:=⟨x.Nest,x.Body.set 0 n⟩) ⟨hdx.bp.1,by rw[cJ];exact hdx.bp.2.1,zGW hdx.bp.2.2 (hn.bs (by omega)) _⟩ _,⟨k3.2.1,by have:=k3.2.2;dsimp only at this c3 d3 ⊢;omega⟩⟩)
 refine Ok.bind (φ:=λo:List zQ=>PB o) ?_ λo ho=>Ok.pure ⟨ho,hR⟩;refine Ok.ite_beq (λ_=>?_) λ_=>Ok.pure hP;refine Ok.bind (φ:=λo:List zQ=>PB o) ?_ λo ho=>Ok.pure ho;refine Ok.ite_dec (λhc=>?_) λ_=>Ok.pure hP;have hp:0<P.Parts.length:=by omega
 rw[hW hp];refine Ok.idx (by omega) (by omega) λx hx he=>Ok.bind_pure (Ok.pure (hP.set (x:=⟨x.Nest,[]⟩) ⟨(p2 x hx).bp.1,by show 0<=100000;omega,λ_ h=>by cases h⟩ _))
theorem SE.be:∀{n:Nat}{e:zI},SE n e->BE n e
 | 0,e,⟨h1,h2,h3⟩=>⟨by have:=h1.1;unfold BA;omega,⟨by have:=h2.2.1;omega,λa ha=>by have:=(h2.2.2 a ha).1;unfold BA;omega⟩,h3⟩
 | n+1,e,⟨h1,h2,h3,h4⟩=>⟨by have:=h1.1;unfold BA;omega,⟨by have:=h2.2.1;omega,λa ha=>by have:=(h2.2.2 a ha).1;unfold BA;omega⟩,by omega,λk hk=>SE.be (h4 k hk)⟩
theorem SS.qs{s:zP}(h:SS s):QS 100 s:=by
 obtain⟨h1,h2⟩:=h;have hb:=SE.be h2;exact⟨⟨h1.2.1,λa ha=>by have:=(h1.2.2 a ha).1;unfold BA;omega⟩,hb.1,hb.2.1,by have:=h2.2.2.1;omega,λk hk=>BE.up (n:=4) (m:=6) (hb.2.2.2 k hk) (by omega)⟩
theorem LL.ql{l:List zA}(h:LL l):QL 100 l:=⟨h.1,λa ha=>by have:=(h.2 a ha).1;unfold BA;omega⟩
theorem SG.dp{P:zC}(h:SG 1000 P):DP P:=by
 obtain⟨⟨h1,h2⟩,h3,h4⟩:=h;refine⟨⟨h1,λa ha=>by have:=(h2 a ha).2;omega⟩,h3,λx hx=>?_⟩;obtain⟨⟨k1,k2⟩,k3,k4⟩:=h4 x hx;exact⟨⟨by omega,λy hy=>⟨(k2 y hy).1.ql,(k2 y hy).2.ql⟩⟩,k3,λs hs=>(k4 s hs).qs⟩
end Go.LN
namespace Go.LN
theorem zOa{A:List zF}{x:zQ}(h:partB A x=true):(nestPts x.Nest).1=pts x.Nest []/\nestB x.Nest=true/\(pts x.Nest []).length<=120:=by
 simp only[partB,bA] at h;have h1:=h.1.1;unfold nestPts at h1 ⊢;split at h1
 ·rename_i hc;rw[if_pos hc];exact⟨rfl,hc.1,hc.2.2⟩
 ·cases h1
theorem zLg(P:zC)(i:Nat)(hi:i<P.Parts.length)(y:List (List Int))(k:Nat)(hk:k<y.length)(hq:y[k].length<=4)(hb:P.Parts[i].Body.length<=4):
 ∀(j s:Nat) (o:List zN),s+j=P.Parts[i].Body.length->o.length+j<=1000000->vD P (i:Int) y (k:Int) o (s:Int)=some (o++instR (i:Int) y[k] s j):=by
 intro j
 induction j with
 | zero=>
  intro s o hs ho
  rw[vD]
  have:¬((s:Int)<(P.Parts[i].Body.length:Int)):=by omega
  simp only[yO hi,this,dF,bF,if_false,oB,oS,oP]
  simp[instR]
 | succ j ih=>
  intro s o hs ho
  rw[vD]
  have hc:((s:Int)<(P.Parts[i].Body.length:Int)):=by omega
  have hpn:app 8 ([]:List Int) y[k]=some y[k]:=zBM _ (by omega)
  have happ:app 40 o [(⟨(i:Int),(s:Int),y[k]⟩:zN)]=some (o++[⟨(i:Int),(s:Int),y[k]⟩]):=qL (by simp;omega)
  simp only[yO hi,hc,dT,if_true,yO hk,oB,oS,hpn,happ]
  rw[wD (by omega),ih (s+1) _ (by omega) (by simp;omega),cr]
  simp only[instR,cY,cL,f8]
theorem zLh(P:zC)(i:Nat)(hi:i<P.Parts.length)(y:List (List Int))(hy:y.length<=120)(hq:∀q∈y,q.length<=4)(hb:P.Parts[i].Body.length<=4):
 ∀(j k:Nat) (o:List zN),k+j=y.length->o.length+4*j<=1000000->vG P (i:Int) y o (k:Int)=some (o++(y.drop k).flatMap λq=>instR (i:Int) q 0 P.Parts[i].Body.length):=by
 intro j
 induction j with
 | zero=>
  intro k o hk ho
  rw[vG]
  have:¬((k:Int)<(y.length:Int)):=by omega
  simp only[this,dF,bF,if_false]
  rw[show y.drop k=[] from dN.2 (by omega)]
  simp
 | succ j ih=>
  intro k o hk ho
  rw[vG]
  have ax:k<y.length:=by omega
  have hc:((k:Int)<(y.length:Int)):=by omega
  have h3:=zLg P i hi y k ax (hq _ (gM ax)) hb P.Parts[i].Body.length 0 o (cm _) (by omega)
  rw[nZ] at h3
  simp only[hc,dT,if_true,oB,oS,h3]
  rw[wD (by omega),ih (k+1) _ (by omega) (by rw[lA,zHU];omega),gC ax,ce,cr]
theorem zH6(P:zC)(hP:P.Parts.length<=4)(hb:∀i,i<P.Parts.length->partB P.Arrays (gP P i)=true):
 ∀(j i:Nat) (o:List zN),i+j=P.Parts.length->o.length<=480*i->vH P o (i:Int)=some (o++(List.range' i j).flatMap λ(i:Nat)=>partI (i:Int) (gP P i)):=by
 intro j
 induction j with
 | zero=>
  intro i o hi ho
  rw[vH]
  have:¬((i:Int)<(P.Parts.length:Int)):=by omega
  simp[this]
 | succ j ih=>
  intro i o hi ho
  rw[vH]
  have ax:i<P.Parts.length:=by omega
  have hc:((i:Int)<(P.Parts.length:Int)):=by omega
  have hg:gP P i=P.Parts[i]:=by simp[gP,ax]
  have hp:=hb i ax
  rw[hg] at hp
  obtain⟨p1,p2,p3⟩:=zOa hp
  obtain⟨n1,n2⟩:=zIH p2
  have hpp:=hp
  simp only[partB,bA] at hpp
  obtain⟨_,q2,_⟩:=zCt hpp.1.2
  have hpts:=specPts P.Parts[i].Nest P.Parts[i].Nest [] [] n2 rfl (by simp) n1 (by simp)
  rw[cu,dc (by omega)] at hpts
  have h2:=zLh P i ax (pts P.Parts[i].Nest []) p3 (λq hq=>by have:=zKh _ _ q hq;simp at this;omega) q2 _ 0 o (cm _) (by omega)
  rw[nZ,cq] at h2
  simp only[hc,dT,if_true,yO ax,oB,oS,hpts,h2]
  have hI:((pts P.Parts[i].Nest []).flatMap λq=>instR (i:Int) q 0 P.Parts[i].Body.length)=partI (i:Int) P.Parts[i]:=by rw[partI,p1]
  have bK:=zJL (i:Int) hp
  rw[hI,wD (by omega),ih (i+1) _ (by omega) (by rw[lA];omega),cY,ce,hg,cr]
theorem uV{P:zC}(h:validP P=true):arrB P.Arrays=true/\P.Parts.length<=4/\(∀i,i<P.Parts.length->partB P.Arrays (gP P i)=true)/\(progI P).length<=120:=by
 simp only[validP,progB,bA,decide_eq_true_eq] at h;obtain⟨⟨⟨h1,h2⟩,h3⟩,h4⟩:=h;exact⟨h1,h2,λi hi=>ck.1 h3 i (dg.2 ⟨fj _,by omega⟩),h4⟩
theorem specInstP(P:zC)(h:BG P):pU P=some (if validP P then progI P else[]):=by
 unfold pU;rw[specValidP P h];cases hv:validP P with
 | false=>rfl
 | true=>
  obtain⟨_,v2,v3,_⟩:=uV hv;have hl:=zH6 P v2 v3 _ 0 [] (cm _) (by simp);rw[nZ,cu] at hl;simp only[bT,bF,if_false,oB,oS,uZ,hl,oP,id,if_true];rfl
theorem zN1(l:List Int)(h:l.length<=1048576):eE l l=some true:=by
 unfold eE;have hl:=zAS (n:=l.length) (f:=nM l l) (P:=λ_=>true) (λi hi=>by
  rw[nM];have h1:((i:Int)<(l.length:Int)):=by omega
  simp only[h1,dT,if_true,yO hi,oB,oS,bne_self_eq_false,bF,if_false];rw[wD (by omega)]) (by rw[nM];simp)
 rw[hl];have:((List.range l.length).all λ_=>true)=true:=by simp
 simp[this]
end Go.LN
namespace Go.LN
def DA(x:zF):Prop:=(∃d,x.Dims=[d]/\1<=d/\d<=6)∨∃d e,x.Dims=[d,e]/\(1<=d/\d<=6)/\1<=e/\e<=6
theorem mul36{d e:Int}(h1:1<=d)(h2:d<=6)(h3:1<=e)(h4:e<=6):1<=d*e/\d*e<=36:=by
 have:d=1∨d=2∨d=3∨d=4∨d=5∨d=6:=by omega
 rcases this with rfl|rfl|rfl|rfl|rfl|rfl <;> omega
theorem zQ6{x:zF}{d:Int}(h:x.Dims=[d])(h1:1<=d)(h2:d<=6):sizeF x=d:=by
 unfold sizeF;rw[h,szL,szL,Int.one_mul,rA (by omega) (by omega)]
theorem zQ7{x:zF}{d e:Int}(h:x.Dims=[d,e])(h1:1<=d)(h2:d<=6)(h3:1<=e)(h4:e<=6):sizeF x=d*e:=by
 unfold sizeF;have:=mul36 h1 h2 h3 h4;rw[h,szL,szL,szL,Int.one_mul,rA (x:=d) (by omega) (by omega),rA (by omega) (by omega)]
theorem DA.size{x:zF}(h:DA x):1<=sizeF x/\sizeF x<=36:=by
 rcases h with⟨d,h,h1,h2⟩|⟨d,e,h,⟨h1,h2⟩,h3,h4⟩
 ·rw[zQ6 h h1 h2];omega
 ·rw[zQ7 h h1 h2 h3 h4];exact mul36 h1 h2 h3 h4
def nm(l:List zF)(i:Nat):Nat:=match (l.getD i ⟨⟨[]⟩,[]⟩).Name.l with|c::_=>c.toNat|[]=>0
end Go.LN
namespace Go.LN
def permL(n:Nat):List Int->List Bool->Bool
 | [],_=>true
 | x::l,seen=>if 0<=x/\x<(n:Int)/\seen.getD x.toNat true=false then permL n l (seen.set x.toNat true) else false
theorem zKK(s:List Bool)(i:Nat):(s.set i true).getD i true=true:=by
 rw[cG,em];by_cases h:i<s.length <;> simp[h]
theorem zJN(s:List Bool){i j:Nat}(h:i ≠ j):(s.set i true).getD j true=s.getD j true:=by
 rw[cG,em,if_neg h,<- cG]
theorem zLi(n:Nat):∀(l:List Int) (seen:List Bool),permL n l seen=true↔(∀x∈l,0<=x/\x<(n:Int)/\seen.getD x.toNat true=false)/\l.Nodup
 | [],seen=>by simp[permL]
 | x::l,seen=>by
  rw[permL]
  by_cases hx:0<=x/\x<(n:Int)/\seen.getD x.toNat true=false
  ·rw[if_pos hx,zLi n l _,eh]
   constructor
   ·rintro⟨h1,h2⟩
    refine⟨λy hy=>?_,λhm=>?_,h2⟩
    ·rcases cz.1 hy with e|hy
     ·rw[e];exact hx
     ·obtain⟨k1,k2,k3⟩:=h1 y hy
      refine⟨k1,k2,?_⟩
      by_cases e:x.toNat=y.toNat
      ·rw[e,zKK] at k3;cases k3
      ·rwa[zJN _ e] at k3
    ·have:=(h1 x hm).2.2
     rw[zKK] at this;cases this
   ·rintro⟨h1,h2,h3⟩
    refine⟨λy hy=>?_,h3⟩
    obtain⟨k1,k2,k3⟩:=h1 y (cg _ hy)
    refine⟨k1,k2,?_⟩
    have e:x.toNat ≠ y.toNat:=λe=>by
     have:x=y:=by have:=hx.1;omega
     exact h2 (this ▸ hy)
    rw[zJN _ e];exact k3
  ·rw[if_neg hx]
   constructor
   ·intro h;cases h
   ·rintro⟨h1,_⟩
    exact absurd (h1 x (ci ..)) hx
def permB(n:Nat)(l:List Int):Bool:=permL n l (List.replicate n false)&&decide (l.length=n)
theorem zAj(n:Nat)(l:List Int):permB n l=true↔((∀x∈l,0<=x/\x<(n:Int))/\l.Nodup)/\l.length=n:=by
 unfold permB;rw[bA,zLi,decide_eq_true_eq];constructor
 ·rintro⟨⟨h1,h2⟩,h3⟩;exact⟨⟨λx hx=>⟨(h1 x hx).1,(h1 x hx).2.1⟩,h2⟩,h3⟩
 ·rintro⟨⟨h1,h2⟩,h3⟩;refine⟨⟨λx hx=>⟨(h1 x hx).1,(h1 x hx).2,?_⟩,h2⟩,h3⟩;have:=h1 x hx;have ax:x.toNat<n:=by omega
  rw[cG,List.getElem?_replicate,if_pos ax];rfl
def swp(l:List Int)(k:Nat)(a b:Int):List Int:=(l.set k b).set (k+1) a
theorem zRA{l:List Int}{k:Nat}(h:k+1<l.length){i:Nat}(hi:i<l.length):∃j,∃hj:j<l.length,(swp l k l[k] l[k+1])[i]?=some l[j]/\j=(if i=k then k+1 else if i=k+1 then k else i):=by
 unfold swp;by_cases h1:i=k
 ·subst h1;refine⟨i+1,h,?_,by simp⟩;rw[em,if_neg (by omega),em,if_pos rfl,if_pos hi]
 ·by_cases h2:i=k+1
  ·subst h2;refine⟨k,by omega,?_,by simp⟩;rw[em,if_pos rfl,if_pos (by rw[cJ];exact hi)]
  ·refine⟨i,hi,?_,by simp[h1,h2]⟩;rw[em,if_neg (by omega),em,if_neg (by omega),cd hi]
end Go.LN
namespace Go.LN
theorem zMZ(n:Nat)(hn:n<=1000000)(l:List Int)(hl:l.length<=1048576):∀(j i:Nat) (seen:List Bool),i+j=l.length->seen.length=n->oV l (n:Int) seen (i:Int)=some (if permL n (l.drop i) seen=true then .done () else .ret false):=by
 intro j
 induction j with
 | zero=>
  intro i seen hi hs;rw[oV];have:¬((i:Int)<(l.length:Int)):=by omega
  simp only[this,dF,bF,if_false];rw[dN.2 (by omega)];rfl
 | succ j ih=>
  intro i seen hi hs;rw[oV];have ax:i<l.length:=by omega
  have hc:((i:Int)<(l.length:Int)):=by omega
  rw[gC ax,permL];have hW:W ((n:Int) - 1)=(n:Int) - 1:=rA (by omega) (by omega);simp only[hc,dT,if_true,yO ax,oB,oS,kZ,hW];by_cases hr:0<=l[i]/\l[i]<(n:Int)
  ·obtain⟨k,hk⟩:∃k:Nat,l[i]=(k:Int):=⟨l[i].toNat,by omega⟩;have hks:k<seen.length:=by omega
   have hg:seen.getD k true=seen[k]:=by simp[hks]
   have h1:(0:Int)<=(k:Int):=by omega
   have h2:(k:Int)<=(n:Int) - 1:=by omega
   have h3:(k:Int)<(n:Int):=by omega
   rw[hk];simp only[h1,h2,h3,dT,Bool.and_self,bT,bF,if_false,yO hks,oP,oS,id,iN,hg,true_and];cases hb:seen[k] with
   | true=>simp
   | false=>
    simp only[bF,if_false,if_true];rw[wD (by omega),ih (i+1) _ (by omega) (by rw[cJ];exact hs)]
  ·have h4:(!(decide (0<=l[i])&&decide (l[i]<=(n:Int) - 1)))=true:=by
    simp;omega
   have h5:¬(0<=l[i]/\l[i]<(n:Int)/\seen.getD l[i].toNat true=false):=λh=>hr ⟨h.1,h.2.1⟩;simp only[h4,if_true,if_neg h5,oP,oS,bF,if_false]
theorem zEA(n:Nat)(hn:n<=1000000):mkrow 1 (n:Int) (false:Bool)=some (List.replicate n false):=by
 unfold mkrow;rw[if_pos ⟨by omega,by omega⟩,iN]
theorem implPerm(n:Nat)(hn:n<=1000000)(l:List Int)(hl:l.length<=1048576):dU l (n:Int)=some (permB n l):=by
 unfold dU permB;have h:=zMZ n hn l hl l.length 0 (List.replicate n false) (cm _) (dw ..);rw[nZ,cq] at h;simp only[zEA n hn,h,oB,oS];cases permL n l (List.replicate n false)
 ·rfl
 ·simp;by_cases e:l.length=n
  ·simp[e]
  ·have:¬((l.length:Int)=(n:Int)):=by omega
   simp[e,this]
theorem specInsts(P:zC)(hv:validP P=true):uZ P=some (progI P):=by
 obtain⟨_,v2,v3,_⟩:=uV hv;have hl:=zH6 P v2 v3 _ 0 [] (cm _) (by simp);rw[nZ,cu] at hl;simp only[oB,oS,uZ,hl,oP,id];rfl
theorem implOrd(P:zC)(h:BG P)(l:List Int)(hl:l.length<=1048576):gB P l=some (validP P&&permB (progI P).length l):=by
 unfold gB;rw[implInstances P h];unfold validP;cases progB P with
 | false=>rfl
 | true=>
  by_cases hk:(progI P).length<=120
  ·simp[hk,implPerm (progI P).length (by omega) l hl]
  ·simp[hk]
end Go.LN
namespace Go.LN
def c0(n:Int):zA:=⟨[0,0,0,0],n⟩
end Go.LN
namespace Go.LN
theorem zLj{P:zC}(h:BG P)(hv:validP P=true):RVa P.Arrays:=by
 simp only[validP,progB,bA] at hv;exact RVa.of h.1 hv.1.1.1
theorem zQ8{p:List Int}(h:ptB p=true):p.length<=4:=by
 simp only[ptB,bA,decide_eq_true_eq] at h;exact h.1
end Go.LN
namespace Go.LN
end Go.LN
namespace Go.LN
theorem zLk:∀{k:Nat}{a v:Int},v∈rngK k a↔a<=v/\v<a+(k:Int)
 | 0,a,v=>by simp[rngK]
 | k+1,a,v=>by rw[rngK,cz,zLk];omega
theorem zP9{a b v:Int}:v∈rng a b↔a<=v/\v<b:=by
 unfold rng;rw[zLk];omega
def inP:List zE->List Int->List Int->Prop
 | [],_,[]=>True
 | l::ls,p,v::r=>(loF l p<=v/\v<hiF l p)/\inP ls (p++[v]) r
 | _,_,_=>False
theorem zMs:∀{ls:List zE}{p q:List Int},q∈pts ls p->∃r,q=p++r/\inP ls p r
 | [],p,q,h=>by
  rw[pts,cD] at h
  exact⟨[],by rw[h,co],trivial⟩
 | l::ls,p,q,h=>by
  rw[pts,cw] at h
  obtain⟨v,hv,hq⟩:=h
  obtain⟨r,e,hr⟩:=zMs hq
  exact⟨v::r,by rw[e,cr];rfl,zP9.1 hv,hr⟩
def Ch{α:Type}(R:α->α->Prop):List α->Prop
 | a::b::l=>R a b/\Ch R (b::l)
 | _=>True
theorem Ch.append{α:Type}{R:α->α->Prop}:∀{l m:List α},Ch R l->Ch R m->(∀a∈l,∀b∈m,R a b)->Ch R (l++m)
 | [],m,_,h2,_=>h2
 | [a],[],_,_,_=>trivial
 | [a],b::m,_,h2,h=>⟨h a (ci ..) b (ci ..),h2⟩
 | a::b::l,m,h1,h2,h=>⟨h1.1,Ch.append (l:=b::l) h1.2 h2 λx hx=>h x (cg _ hx)⟩
theorem Ch.flat{α β:Type}{R:β->β->Prop}{f:α->List β}:∀{l:List α},(∀x∈l,Ch R (f x))->(l.Pairwise λx y=>∀a∈f x,∀b∈f y,R a b)->Ch R (l.flatMap f)
 | [],_,_=>trivial
 | x::l,h1,h2=>by
  rw[ce]
  have h2':=List.pairwise_cons.1 h2
  refine Ch.append (h1 x (ci ..)) (Ch.flat (λy hy=>h1 y (cg _ hy)) h2'.2) λa ha b hb=>?_
  obtain⟨y,hy,hb⟩:=cw.1 hb
  exact h2'.1 y hy a ha b hb
theorem Ch.get{α:Type}{R:α->α->Prop}:∀{l:List α} (i:Nat) (h:i+1<l.length),Ch R l->R l[i] l[i+1]
 | a::b::l,0,_,hc=>hc.1
 | a::b::l,i+1,h,hc=>Ch.get (l:=b::l) i (by simpa using h) hc.2
 | [a],i,h,_=>by simp at h
 | [],i,h,_=>by simp at h
theorem zN2{k:Int}{q:List Int}{i j:Nat}{z:zN}(h:z∈instR k q i j):z.Part=k/\z.Point=q/\∃s:Nat,z.Stmt=(s:Int)/\s<i+j:=by
 unfold instR at h;obtain⟨s,hs,rfl⟩:=fl.1 h;exact⟨rfl,rfl,s,rfl,(dg.1 hs).2⟩
end Go.LN
namespace Go.LN
theorem zM0{P:zC}(h:validP P=true){i:Nat}(hi:i<P.Parts.length):partB P.Arrays P.Parts[i]=true:=by
 simp only[validP,progB,bA,decide_eq_true_eq] at h;have:=ck.1 h.1.2 i (dg.2 ⟨fj _,by omega⟩);have hg:gP P i=P.Parts[i]:=by simp[gP,hi]
 rwa[hg] at this
theorem zPa{nest:List zE}{q:List Int}(h:q∈(nestPts nest).1):nestB nest=true/\inP nest [] q:=by
 unfold nestPts at h;split at h
 ·rename_i hc;obtain⟨r,e,hr⟩:=zMs h;rw[cu] at e;exact⟨hc.1,e ▸ hr⟩
 ·cases h
theorem zN3{P:zC}(h:validP P=true){z:zN}(hz:z∈progI P):∃(i s:Nat) (hi:i<P.Parts.length) (hs:s<P.Parts[i].Body.length),z.Part=(i:Int)/\z.Stmt=(s:Int)/\nestB P.Parts[i].Nest=true/\inP P.Parts[i].Nest [] z.Point/\ptB z.Point=true/\stOk P.Arrays P.Parts[i].Body[s] z.Point=true/\stmtB P.Parts[i].Body[s] (P.Parts[i].Nest.length:Int)=true:=by
 unfold progI at hz;obtain⟨i,hi,hz⟩:=cw.1 hz;have hi:i<P.Parts.length:=by have:=(dg.1 hi).2;omega
 have hg:gP P i=P.Parts[i]:=by simp[gP,hi]
 rw[hg] at hz;have hp:=zM0 h hi;unfold partI at hz;obtain⟨q,hq,hz⟩:=cw.1 hz;obtain⟨z1,z2,s,z3,hs⟩:=zN2 hz;have hs:s<P.Parts[i].Body.length:=by omega
 obtain⟨n1,n2⟩:=zPa hq;simp only[partB,bA] at hp;have hq2:=ck.1 hp.2 q hq;rw[bA] at hq2;refine⟨i,s,hi,hs,z1,z3,n1,?_,?_,?_,?_⟩
 ·rw[z2];exact n2
 ·rw[z2];exact hq2.1
 ·rw[z2];exact ck.1 hq2.2 _ (gM hs)
 ·exact(zCt hp.1.2).2.2 _ (gM hs)
end Go.LN
namespace Go.LN
end Go.LN
namespace Go.LN
theorem zM1(P:zC)(x:zN)(ys:List zK)(hy:ys.length<=1048576)(ha:∀a∈ys,AV a)(hp:x.Point.length<=4)(hR:RVa P.Arrays):∀(j i:Nat) (o:List Int),i+j=ys.length->o.length=i->uJ P x ys o (i:Int)=some (o++(ys.drop i).map (cellA P.Arrays x.Point)):=by
 intro j
 induction j with
 | zero=>
  intro i o hi ho;rw[uJ];have:¬((i:Int)<(ys.length:Int)):=by omega
  simp only[this,dF,bF,if_false,oP,id];rw[dN.2 (by omega),d8,co]
 | succ j ih=>
  intro i o hi ho;rw[uJ];have ax:i<ys.length:=by omega
  have hc:((i:Int)<(ys.length:Int)):=by omega
  simp only[hc,dT,if_true,yO ax,implCell P ys[i] x.Point (ha _ (gM ax)) hp hR,oB,oS,qL (show (o.length+[cellF ys[i] x.Point P.Arrays 0].length)*8<=140737488355328 by simp;omega)];rw[wD (by omega),ih (i+1) _ (by omega) (by rw[lA];simp;omega),gC ax,cL,cr];rfl
end Go.LN
namespace Go.LN
def STz:zP:=zP.mk (zK.mk ⟨[]⟩ []) EXz
def stI(P:zC)(z:zN):zP:=(gP P z.Part.toNat).Body.getD z.Stmt.toNat STz
def rdI(P:zC)(z:zN):List Int:=(readsF 5 (stI P z).Value).map (cellA P.Arrays z.Point)
def wrI(P:zC)(z:zN):Int:=cellA P.Arrays z.Point (stI P z).Write
structure InP(P:zC)(z:zN):Prop where
 idxP:idx P.Parts z.Part=some (gP P z.Part.toNat)
 idxS:idx (gP P z.Part.toNat).Body z.Stmt=some (stI P z)
 part:0<=z.Part/\z.Part<(P.Parts.length:Int)
 stmt:0<=z.Stmt/\z.Stmt<((gP P z.Part.toNat).Body.length:Int)
 pin:BN (gP P z.Part.toNat).Nest/\nestB (gP P z.Part.toNat).Nest=true/\ptB z.Point=true/\inP (gP P z.Part.toNat).Nest [] z.Point
 pt:z.Point.length<=4
 bs:BS (stI P z)
 st:∃d,stmtB (stI P z) d=true
 ok:stOk P.Arrays (stI P z) z.Point=true
theorem zFX{P:zC}(hb:BG P)(h:validP P=true){z:zN}(hz:z∈progI P):InP P z:=by
 obtain⟨i,s,hi,hs,z1,z2,hn,hin,hpt,hst,hsb⟩:=zN3 h hz;have hbp:=hb.2.2 _ (gM hi);have hg:gP P z.Part.toNat=P.Parts[i]:=by rw[z1,iN];simp[gP,hi]
 have hS:stI P z=P.Parts[i].Body[s]:=by unfold stI;rw[hg,z2,iN];simp[hs]
 refine⟨?_,?_,by rw[z1];omega,by rw[hg,z2];omega,?_,zQ8 hpt,?_,?_,?_⟩
 ·rw[hg,z1,yO hi]
 ·rw[hS,hg,z2,yO hs]
 ·rw[hg];exact⟨hbp.1,hn,hpt,hin⟩
 ·rw[hS];exact hbp.2.2 _ (gM hs)
 ·rw[hS];exact⟨_,hsb⟩
 ·rw[hS];exact hst
theorem zII{P:zC}{z:zN}(h:InP P z):(rdI P z).length<=32:=by
 obtain⟨d,hd⟩:=h.st;have:=gS 5 (stI P z).Value (zAh hd).2.1;unfold rdI;rw[lM];omega
theorem touchedV{P:zC}(hb:BG P)(hv:validP P=true){z:zN}(h:InP P z):oE P z=some (rdI P z,wrI P z):=by
 obtain⟨d,hd⟩:=h.st;obtain⟨s1,s2,s3⟩:=zAh hd;have hR:=zLj hb hv;have hrd:=implReads 5 (stI P z).Value s2 (by omega);have hrl:=gS 5 (stI P z).Value s2;have htl:=zM1 P z (readsF 5 (stI P z).Value) (by omega) s3 h.pt hR _ 0 [] (cm _) rfl;rw[nZ,cq,cu] at htl;have hw:=implCell P (stI P z).Write z.Point s1 h.pt hR;unfold oE qF;simp only[h.idxP,h.idxS,hrd,htl,hw,oB,oS,oP,id];rfl
def trcP(P:zC):sN:=⟨P,progI P,(progI P).map (rdI P),(progI P).map (wrI P)⟩
theorem zOb{P:zC}(hb:BG P)(hv:validP P=true):∀(j i:Nat) (rs:List (List Int)) (ws:List Int),i+j=(progI P).length->rs.length=i->ws.length=i->mY P (progI P) (i:Int) rs ws=some (rs++((progI P).drop i).map (rdI P),ws++((progI P).drop i).map (wrI P)):=by
 have aJ:=(uV hv).2.2.2;intro j
 induction j with
 | zero=>
  intro i rs ws hi hr hw;rw[mY];have:¬((i:Int)<((progI P).length:Int)):=by omega
  simp only[this,dF,bF,if_false,oP];rw[dN.2 (by omega),d8,d8,co,co]
 | succ j ih=>
  intro i rs ws hi hr hw;rw[mY];have ax:i<(progI P).length:=by omega
  have hc:((i:Int)<((progI P).length:Int)):=by omega
  have hz:=zFX hb hv (gM ax);simp only[hc,dT,if_true,yO ax,touchedV hb hv hz,oB,oS,qL (show (rs.length+[rdI P (progI P)[i]].length)*24<=140737488355328 by simp;omega),qL (show (ws.length+[wrI P (progI P)[i]].length)*8<=140737488355328 by simp;omega)];rw[wD (by omega),ih (i+1) _ _ (by omega) (by rw[lA];simp;omega) (by rw[lA];simp;omega),gC ax,cL,cL,cr,cr];rfl
theorem implTrace(P:zC)(hb:BG P):dX P=some (if validP P then(some (trcP P),true) else(none,false)):=by
 unfold dX;rw[implInstances P hb];cases hv:validP P with
 | false=>
  unfold validP at hv;cases hp:progB P with
  | false=>rfl
  | true=>
   rw[hp,cv] at hv;simp[hv]
 | true=>
  have hv':=hv;unfold validP at hv';rw[bA] at hv';have hl:=zOb hb hv _ 0 [] [] (cm _) rfl rfl;rw[nZ,cq,cu,cu] at hl;simp only[hv'.1,hv'.2,if_true,oB,oS,bT,bF,if_false,hl,oP];rfl
def useI(P:zC)(z:zN):xT:=⟨rdI P z,wrI P z⟩
theorem zPb{P:zC}(hb:BG P)(hv:validP P=true):∀(j i:Nat) (o:List xT),i+j=(progI P).length->o.length=i->sM P (progI P) o (i:Int)=some (o++((progI P).drop i).map (useI P)):=by
 have aJ:=(uV hv).2.2.2;have hR:=zLj hb hv;intro j
 induction j with
 | zero=>
  intro i o hi ho;rw[sM];have:¬((i:Int)<((progI P).length:Int)):=by omega
  simp only[this,dF,bF,if_false,oP,id];rw[dN.2 (by omega),d8,co]
 | succ j ih=>
  intro i o hi ho;rw[sM];have ax:i<(progI P).length:=by omega
  have hc:((i:Int)<((progI P).length:Int)):=by omega
  have hz:=zFX hb hv (gM ax);obtain⟨d,hd⟩:=hz.st;have bZ:=specCells P.Arrays (stI P (progI P)[i]) (progI P)[i].Point hd hz.bs hz.pt hR;rw[if_pos hz.ok] at bZ;simp only[hc,dT,if_true,yO ax,hz.idxP,hz.idxS,bZ,oB,oS,qL (show (o.length+[xT.mk ((readsF 5 (stI P (progI P)[i]).Value).map (cellA P.Arrays (progI P)[i].Point)) (cellA P.Arrays (progI P)[i].Point (stI P (progI P)[i]).Write)].length)*32<=140737488355328 by simp;omega)];rw[wD (by omega),ih (i+1) _ (by omega) (by rw[lA];simp;omega),gC ax,cL,cr];rfl
theorem specUses(P:zC)(hb:BG P)(hv:validP P=true):gR P=some ((progI P).map (useI P)):=by
 unfold gR;have hl:=zPb hb hv _ 0 [] (cm _) rfl;rw[nZ,cq,cu] at hl;simp only[specInsts P hv,hl,oB,oS,oP,id]
end Go.LN
namespace Go.LN
def hasB(l:List Int)(n:Int):Bool:=l.any (λx=>x==n)
theorem zN4(x:Int)(l:List Int)(n:Int):hasB (x::l) n=(x==n||hasB l n):=by unfold hasB;rw[List.any_cons]
def kindF(r1:List Int)(w1:Int)(r2:List Int)(w2:Int):Int:=(if hasB r2 w1 then 1 else 0)+(if hasB r1 w2 then 2 else 0)+(if w1==w2 then 4 else 0)
theorem zN5(r1:List Int)(w1:Int)(r2:List Int)(w2:Int):0<=kindF r1 w1 r2 w2/\kindF r1 w1 r2 w2<=7:=by
 unfold kindF;cases hasB r2 w1 <;> cases hasB r1 w2 <;> cases (w1==w2) <;> simp
theorem zOc{R:Type}{r0:R}{n:Nat}{f:Int->Option (Out Unit R)}{P:Nat->Bool}(step:∀i,i<n->f (i:Int)=if P i then some (.ret r0) else f ((i+1:Nat):Int))(fin:f (n:Int)=some (.done ())):f 0=some (if(List.range n).any P then .ret r0 else .done ()):=by
 have key:∀(j i:Nat),i+j=n->f (i:Int)=some (if(List.range' i j).any P then .ret r0 else .done ()):=by
  intro j
  induction j with
  | zero=>intro i hi;rw[show i=n by omega,fin];simp
  | succ j ih=>
   intro i hi;rw[step i (by omega),ih (i+1) (by omega),cY,List.any_cons];cases P i <;> rfl
 have:=key n 0 (cm _);rw[nZ] at this;rw[this,List.range_eq_range']
theorem zN6{α:Type}(l:List α)(P:α->Bool)(d:α):(List.range l.length).any (λi=>P (l.getD i d))=l.any P:=by
 rw[gi,fo,fo];constructor
 ·rintro⟨i,hi,h⟩;have hi:=cA.1 hi;have hg:l.getD i d=l[i]:=by simp[hi]
  rw[hg] at h;exact⟨_,gM hi,h⟩
 ·rintro⟨x,hx,h⟩;obtain⟨i,hi,rfl⟩:=dr.1 hx;exact⟨i,cA.2 hi,by simpa [hi] using h⟩
end Go.LN
namespace Go.LN
theorem specHas(l:List Int)(n:Int)(hl:l.length<=1048576):dY l n=some (hasB l n):=by
 unfold dY;have h:=zOc (R:=Bool) (r0:=true) (n:=l.length) (f:=kD l n) (P:=λi=>l.getD i 0==n) (λi hi=>by
  rw[kD];have h1:((i:Int)<(l.length:Int)):=by omega
  have hg:l.getD i 0=l[i]:=by simp[hi]
  simp only[h1,dT,if_true,yO hi,oB,oS,oP,hg];rw[wD (by omega)]) (by rw[kD];simp)
 rw[zN6 l (λx=>x==n) 0] at h;rw[h];unfold hasB;cases l.any λx=>x==n <;> rfl
theorem zPc(l:List Int)(v:Int)(hl:l.length<=1048576):∀(j i:Nat),i+j=l.length->∃x,uK l v (i:Int)=some x/\((hasB (l.drop i) v=true/\∃k:Nat,x=.ret (k:Int))∨(hasB (l.drop i) v=false/\x=.done ())):=by
 intro j
 induction j with
 | zero=>
  intro i hi;rw[uK];have:¬((i:Int)<(l.length:Int)):=by omega
  refine⟨_,by simp only[this,dF,bF,if_false,oP],.inr ⟨?_,rfl⟩⟩;rw[dN.2 (by omega)];rfl
 | succ j ih=>
  intro i hi;rw[uK];have ax:i<l.length:=by omega
  have hc:((i:Int)<(l.length:Int)):=by omega
  rw[gC ax,zN4];by_cases e:v=l[i]
  ·refine⟨_,by simp only[hc,dT,if_true,yO ax,oB,oS,oP,e,bQ],.inl ⟨?_,i,rfl⟩⟩;rw[e,bQ,Bool.true_or]
  ·have e1:(v==l[i])=false:=by simpa using e
   have e2:(l[i]==v)=false:=by simpa using λh=>e h.symm
   obtain⟨x,hx,hr⟩:=ih (i+1) (by omega);refine⟨x,?_,by rw[e2,eo];exact hr⟩;simp only[hc,dT,if_true,yO ax,oB,oS,oP,e1,bF,if_false];rw[wD (by omega),hx]
theorem containsV(l:List Int)(v:Int)(hl:l.length<=1048576):tZ l v=some (hasB l v):=by
 unfold tZ kQ;obtain⟨x,hx,hr⟩:=zPc l v hl l.length 0 (cm _);rw[nZ] at hx;rw[cq] at hr;rw[hx];rcases hr with⟨h,k,rfl⟩|⟨h,rfl⟩
 ·have:((k:Int)>=0):=by omega
  simp[h,this]
 ·rw[h];rfl
def zIns(P:zC)(a:Nat):zN:=(progI P).getD a ⟨0,0,[]⟩
theorem zHV{P:zC}{a:Nat}(h:a<(progI P).length):zIns P a=(progI P)[a]:=by simp[zIns,h]
theorem zKL{P:zC}{a:Nat}(h:a<(progI P).length):zIns P a∈progI P:=by rw[zHV h];exact gM h
theorem zLl{P:zC}{a:Nat}(h:a<(progI P).length):idx ((progI P).map (rdI P)) (a:Int)=some (rdI P (zIns P a)):=by rw[yO (by rw[lM];exact h),zHV h];simp
theorem zKM{P:zC}{a:Nat}(h:a<(progI P).length):idx ((progI P).map (wrI P)) (a:Int)=some (wrI P (zIns P a)):=by rw[yO (by rw[lM];exact h),zHV h];simp
theorem zMt{P:zC}{a:Nat}(h:a<(progI P).length):idx ((progI P).map (useI P)) (a:Int)=some (useI P (zIns P a)):=by rw[yO (by rw[lM];exact h),zHV h];simp
def kindI(P:zC)(a b:Nat):Int:=kindF (rdI P (zIns P a)) (wrI P (zIns P a)) (rdI P (zIns P b)) (wrI P (zIns P b))
theorem betweenV{P:zC}(hi:∀z∈progI P,InP P z){a b:Nat}(ha:a<(progI P).length)(hb:b<(progI P).length):nF (trcP P) (a:Int) (b:Int)=some (kindI P a b):=by
 have l1:=zII (hi _ (zKL ha));have l2:=zII (hi _ (zKL hb));unfold nF kindI kindF;simp only[trcP,zLl ha,zLl hb,zKM ha,zKM hb,containsV _ _ (show (rdI P (zIns P a)).length<=1048576 by omega),containsV _ _ (show (rdI P (zIns P b)).length<=1048576 by omega),oB,oS,oP,id];by_cases e:wrI P (zIns P a)=wrI P (zIns P b)
 ·have e1:(wrI P (zIns P a)==wrI P (zIns P b))=true:=by simpa using e
  simp only[e1,if_true];cases hasB (rdI P (zIns P b)) (wrI P (zIns P a)) <;> cases hasB (rdI P (zIns P a)) (wrI P (zIns P b)) <;> rfl
 ·have e1:(wrI P (zIns P a)==wrI P (zIns P b))=false:=by simpa using e
  simp only[e1,bF,if_false];cases hasB (rdI P (zIns P b)) (wrI P (zIns P a)) <;> cases hasB (rdI P (zIns P a)) (wrI P (zIns P b)) <;> rfl
theorem kindsV{P:zC}(hi:∀z∈progI P,InP P z){a b:Nat}(ha:a<(progI P).length)(hb:b<(progI P).length):dR (useI P (zIns P a)) (useI P (zIns P b))=some (kindI P a b):=by
 have l1:=zII (hi _ (zKL ha));have l2:=zII (hi _ (zKL hb));unfold dR kindI kindF;simp only[useI,specHas _ _ (show (rdI P (zIns P a)).length<=1048576 by omega),specHas _ _ (show (rdI P (zIns P b)).length<=1048576 by omega),oB,oS,oP,id];by_cases e:wrI P (zIns P a)=wrI P (zIns P b)
 ·have e1:(wrI P (zIns P a)==wrI P (zIns P b))=true:=by simpa using e
  simp only[e1,if_true];cases hasB (rdI P (zIns P b)) (wrI P (zIns P a)) <;> cases hasB (rdI P (zIns P a)) (wrI P (zIns P b)) <;> rfl
 ·have e1:(wrI P (zIns P a)==wrI P (zIns P b))=false:=by simpa using e
  simp only[e1,bF,if_false];cases hasB (rdI P (zIns P b)) (wrI P (zIns P a)) <;> cases hasB (rdI P (zIns P a)) (wrI P (zIns P b)) <;> rfl
end Go.LN
namespace Go.LN
def dep1(P:zC)(i q:Nat):List zR:=if kindI P i q==0 then[] else[⟨(i:Int),(q:Int),kindI P i q⟩]
def depR(P:zC)(i k j:Nat):List zR:=(List.range' k j).flatMap λq=>dep1 P i q
def depA(P:zC)(i j:Nat):List zR:=(List.range' i j).flatMap λq=>depR P q (q+1) ((progI P).length - (q+1))
theorem zEL(P:zC)(i k j:Nat):depR P i k (j+1)=dep1 P i k++depR P i (k+1) j:=by unfold depR;rw[cY,ce]
theorem zEM(P:zC)(i j:Nat):depA P i (j+1)=depR P i (i+1) ((progI P).length - (i+1))++depA P (i+1) j:=by unfold depA;rw[cY,ce]
theorem zOd(P:zC)(i q:Nat):(dep1 P i q).length<=1:=by unfold dep1;split <;> simp
theorem zG0(P:zC)(i:Nat):∀(j k:Nat),(depR P i k j).length<=j
 | 0,k=>by simp[depR]
 | j+1,k=>by
  have h1:=zOd P i k
  have h2:=zG0 P i j (k+1)
  rw[zEL,lA];omega
theorem zJO(P:zC):∀(j i:Nat),(depA P i j).length<=j*(progI P).length
 | 0,i=>by simp[depA]
 | j+1,i=>by
  have h1:=zG0 P i ((progI P).length - (i+1)) (i+1)
  have h2:=zJO P j (i+1)
  rw[zEM,lA,fc,Nat.one_mul];omega
theorem zN7(P:zC)(a b:Nat):0<=kindI P a b/\kindI P a b<=7:=zN5 _ _ _ _
theorem zPd{P:zC}(hi:∀z∈progI P,InP P z)(aJ:(progI P).length<=120)(i:Nat)(hin:i<(progI P).length):∀(j k:Nat) (o:List zR),k+j=(progI P).length->o.length+j<=1000000->sS (trcP P) (i:Int) o (k:Int)=some (o++depR P i k j):=by
 intro j
 induction j with
 | zero=>
  intro k o hk ho;rw[sS];have:¬((k:Int)<((trcP P).list.length:Int)):=by show ¬((k:Int)<((progI P).length:Int));omega
  simp only[this,dF,bF,if_false,oP,id];simp[depR]
 | succ j ih=>
  intro k o hk ho;rw[sS,zEL];have ax:k<(progI P).length:=by omega
  have hc:((k:Int)<((trcP P).list.length:Int)):=by show ((k:Int)<((progI P).length:Int));omega
  have hr:=zN7 P i k;simp only[hc,dT,if_true,betweenV hi hin ax,oB,oS,oP,id,qL (show (o.length+[zR.mk (i:Int) (k:Int) (kindI P i k)].length)*24<=140737488355328 by simp;omega)];rw[wD (by omega)];unfold dep1;by_cases h0:kindI P i k=0
  ·have e1:¬(kindI P i k>0):=by omega
   have e2:(kindI P i k==0)=true:=by simpa using h0
   simp only[e1,e2,dF,bF,if_false,if_true,oS,cu];exact ih (k+1) o (by omega) (by omega)
  ·have e1:kindI P i k>0:=by omega
   have e2:¬((kindI P i k==0)=true):=by simpa using h0
   simp only[e1,dT,if_true,oS];rw[if_neg e2,ih (k+1) _ (by omega) (by rw[lA];simp;omega),cr]
theorem zPe{P:zC}(hi:∀z∈progI P,InP P z)(aJ:(progI P).length<=120):∀(j i:Nat) (o:List zR),i+j=(progI P).length->o.length<=120*i->sT (trcP P) o (i:Int)=some (o++depA P i j):=by
 intro j
 induction j with
 | zero=>
  intro i o hij ho;rw[sT];have:¬((i:Int)<((trcP P).list.length:Int)):=by show ¬((i:Int)<((progI P).length:Int));omega
  simp only[this,dF,bF,if_false,oP,id];simp[depA]
 | succ j ih=>
  intro i o hij ho;rw[sT,zEM];have ax:i<(progI P).length:=by omega
  have hc:((i:Int)<((trcP P).list.length:Int)):=by show ((i:Int)<((progI P).length:Int));omega
  have hl:=zG0 P i ((progI P).length - (i+1)) (i+1);have h2:=zPd hi aJ i ax ((progI P).length - (i+1)) (i+1) o (by omega) (by omega);simp only[hc,dT,if_true,wD (show i<9223372036854775807 by omega),h2,oB,oS];rw[ih (i+1) _ (by omega) (by rw[lA];omega),cr]
theorem zOe{P:zC}(hi:∀z∈progI P,InP P z)(aJ:(progI P).length<=120)(i:Nat)(hin:i<(progI P).length):∀(j k:Nat) (o:List zR),k+j=(progI P).length->o.length+j<=1000000->mF ((progI P).map (useI P)) (i:Int) o (k:Int)=some (o++depR P i k j):=by
 intro j
 induction j with
 | zero=>
  intro k o hk ho;rw[mF];have:¬((k:Int)<(((progI P).map (useI P)).length:Int)):=by rw[lM];omega
  simp only[this,dF,bF,if_false,oP,id];simp[depR]
 | succ j ih=>
  intro k o hk ho;rw[mF,zEL];have ax:k<(progI P).length:=by omega
  have hc:((k:Int)<(((progI P).map (useI P)).length:Int)):=by rw[lM];omega
  simp only[hc,dT,if_true,zMt hin,zMt ax,kindsV hi hin ax,oB,oS,oP,id,qL (show (o.length+[zR.mk (i:Int) (k:Int) (kindI P i k)].length)*24<=140737488355328 by simp;omega)];rw[wD (by omega)];unfold dep1;by_cases h0:kindI P i k=0
  ·have e1:(kindI P i k != 0)=false:=by simpa using h0
   have e2:(kindI P i k==0)=true:=by simpa using h0
   simp only[e1,e2,bF,if_false,if_true,oS,cu];exact ih (k+1) o (by omega) (by omega)
  ·have e1:(kindI P i k != 0)=true:=by simpa using h0
   have e2:¬((kindI P i k==0)=true):=by simpa using h0
   simp only[e1,if_true,oS];rw[if_neg e2,ih (k+1) _ (by omega) (by rw[lA];simp;omega),cr]
theorem zOf{P:zC}(hi:∀z∈progI P,InP P z)(aJ:(progI P).length<=120):∀(j i:Nat) (o:List zR),i+j=(progI P).length->o.length<=120*i->mG ((progI P).map (useI P)) o (i:Int)=some (o++depA P i j):=by
 intro j
 induction j with
 | zero=>
  intro i o hij ho;rw[mG];have:¬((i:Int)<(((progI P).map (useI P)).length:Int)):=by rw[lM];omega
  simp only[this,dF,bF,if_false,oP,id];simp[depA]
 | succ j ih=>
  intro i o hij ho;rw[mG,zEM];have ax:i<(progI P).length:=by omega
  have hc:((i:Int)<(((progI P).map (useI P)).length:Int)):=by rw[lM];omega
  have hl:=zG0 P i ((progI P).length - (i+1)) (i+1);have h2:=zOe hi aJ i ax ((progI P).length - (i+1)) (i+1) o (by omega) (by omega);simp only[hc,dT,if_true,wD (show i<9223372036854775807 by omega),h2,oB,oS];rw[ih (i+1) _ (by omega) (by rw[lA];omega),cr]
def dpF(P:zC):List zR:=if validP P then depA P 0 (progI P).length else[]
theorem implDeps(P:zC)(hb:BG P):pK P=some (dpF P):=by
 unfold pK dpF;rw[implTrace P hb];cases hv:validP P with
 | false=>rfl
 | true=>
  have aJ:=(uV hv).2.2.2;have hi:∀z∈progI P,InP P z:=λz hz=>zFX hb hv hz;have hl:=zPe hi aJ _ 0 [] (cm _) (by simp);rw[nZ,cu] at hl;simp only[if_true,oB,oS,bT,bF,if_false,nL,hl,oP,id]
theorem zKi{P:zC}:(dpF P).length<=14400:=by
 unfold dpF;split
 ·rename_i hv;have aJ:=(uV hv).2.2.2;have:=zJO P (progI P).length 0;have h2:(progI P).length*(progI P).length<=120*120:=Nat.mul_le_mul aJ aJ;omega
 ·simp
end Go.LN
namespace Go.LN
def kG(P:zC)(i m:Nat):Int:=if m<(progI P).length then kindI P i m else 0
def mxV(P:zC)(f:Nat->Int)(k:Nat):Nat->Int
 | 0=>0
 | i+1=>if kG P i k=0 then mxV P f k i else if f i+1>mxV P f k i then f i+1 else mxV P f k i
def levL(P:zC):Nat->List Int
 | 0=>[]
 | k+1=>levL P k++[mxV P (λi=>(levL P k).getD i 0) k k]
def lev(P:zC)(k:Nat):Int:=mxV P (λi=>(levL P k).getD i 0) k k
theorem zLm(P:zC):∀k,(levL P k).length=k
 | 0=>rfl
 | k+1=>by rw[levL,lA,zLm P k];rfl
theorem zLn(P:zC):∀(k i:Nat),i<k->(levL P k).getD i 0=lev P i
 | k+1,i,h=>by
  rw[levL]
  have hl:=zLm P k
  rcases cW i k with h' | h'
  ·rw[<- zLn P k i h',cG,ft (by omega),<- cG]
  ·have e:i=k:=by omega
   subst e
   rw[cG,gp (by omega),hl,Nat.sub_self];rfl
theorem zKN{P:zC}{f g:Nat->Int}{k:Nat}:∀j:Nat,(∀i,i<j->f i=g i)->mxV P f k j=mxV P g k j
 | 0,_=>rfl
 | j+1,h=>by rw[mxV,mxV,zKN j λi hi=>h i (by omega),h j (by omega)]
theorem zM2(P:zC)(k:Nat):lev P k=mxV P (lev P) k k:=zKN k λi hi=>zLn P k i hi
theorem zJP{P:zC}{f:Nat->Int}{k:Nat}:∀j:Nat,0<=mxV P f k j
 | 0=>Int.le_refl _
 | j+1=>by
  have:=zJP (P:=P) (f:=f) (k:=k) j
  rw[mxV]
  split
  ·exact this
  ·split
   ·omega
   ·exact this
theorem zOg{P:zC}{f:Nat->Int}{k:Nat}:∀j:Nat,(∀i:Nat,i<j->f i<=(i:Int))->mxV P f k j<=(j:Int)
 | 0,_=>Int.le_refl _
 | j+1,h=>by
  have:=zOg (P:=P) (f:=f) (k:=k) j λi hi=>h i (by omega)
  have hj:=h j (by omega)
  rw[mxV]
  split
  ·omega
  ·split <;> omega
theorem zKj(P:zC):∀k:Nat,0<=lev P k/\lev P k<=(k:Int):=by
 intro k
 induction k using Nat.strongRecOn with
 | _ k ih=>rw[zM2];exact⟨zJP k,zOg k λi hi=>(ih i hi).2⟩
theorem zOh{P:zC}{f:Nat->Int}{k i:Nat}(hk:kG P i k ≠ 0):∀j:Nat,i<j->f i+1<=mxV P f k j
 | j+1,h=>by
  rw[mxV]
  rcases cW i j with h' | h'
  ·have:=zOh (P:=P) (f:=f) hk j h'
   split
   ·exact this
   ·split <;> omega
  ·have e:i=j:=by omega
   subst e
   rw[if_neg hk]
   split <;> omega
def upd(g:Nat->Int)(m:Nat)(v:Int):Nat->Int:=λx=>if x=m then v else g x
def stpF(g:Nat->Int)(d:zR):Nat->Int:=if W (g d.From.toNat+1)>g d.To.toNat then upd g d.To.toNat (W (g d.From.toNat+1)) else g
def stpP(p:Nat->Bool)(g:Nat->Int)(d:zR):Nat->Int:=if p d.To.toNat then stpF g d else g
theorem zHW(P:zC)(p:Nat->Bool)(q:Nat):∀(j k:Nat) (g:Nat->Int),q<k->(depR P q k j).foldl (stpP p) g=λm=>if(k<=m/\m<k+j)/\p m=true/\kindI P q m ≠ 0/\W (g q+1)>g m then W (g q+1) else g m
 | 0,k,g,_=>by
  funext m
  rw[if_neg (by omega)]
  rfl
 | j+1,k,g,hq=>by
  rw[zEL,List.foldl_append]
  by_cases h0:kindI P q k=0
  ·have e:dep1 P q k=[]:=by unfold dep1;rw[if_pos (by simpa using h0)]
   rw[e,List.foldl_nil,zHW P p q j (k+1) g (by omega)]
   funext m
   by_cases hm:m=k
   ·subst hm
    rw[if_neg (by omega),if_neg (λh=>h.2.2.1 h0)]
   ·by_cases hc:(k+1<=m/\m<k+1+j)/\p m=true/\kindI P q m ≠ 0/\W (g q+1)>g m
    ·rw[if_pos hc,if_pos ⟨⟨by omega,by omega⟩,hc.2⟩]
    ·rw[if_neg hc,if_neg λh=>hc ⟨⟨by omega,by omega⟩,h.2⟩]
  ·have e:dep1 P q k=[⟨(q:Int),(k:Int),kindI P q k⟩]:=by unfold dep1;rw[if_neg (by simpa using h0)]
   rw[e,fg,List.foldl_nil]
   have hst:stpP p g ⟨(q:Int),(k:Int),kindI P q k⟩=λm=>if m=k/\p m=true/\W (g q+1)>g m then W (g q+1) else g m:=by
    unfold stpP stpF upd
    simp only[iN]
    funext m
    by_cases hp:p k=true
    ·rw[if_pos hp]
     by_cases hw:W (g q+1)>g k
     ·rw[if_pos hw]
      by_cases hm:m=k
      ·subst hm
       rw[if_pos rfl,if_pos ⟨rfl,hp,hw⟩]
      ·rw[if_neg hm,if_neg λh=>hm h.1]
     ·rw[if_neg hw]
      by_cases hm:m=k
      ·subst hm
       rw[if_neg λh=>hw h.2.2]
      ·rw[if_neg λh=>hm h.1]
    ·rw[if_neg hp]
     by_cases hm:m=k
     ·subst hm
      rw[if_neg λh=>hp h.2.1]
     ·rw[if_neg λh=>hm h.1]
   rw[hst,zHW P p q j (k+1) _ (by omega)]
   funext m
   have hqk:¬(q=k/\p q=true/\W (g q+1)>g q):=λh=>by omega
   rw[if_neg hqk]
   by_cases hm:m=k
   ·subst hm
    rw[if_neg (by omega)]
    by_cases hw:p m=true/\W (g q+1)>g m
    ·rw[if_pos ⟨rfl,hw⟩,if_pos ⟨⟨by omega,by omega⟩,hw.1,h0,hw.2⟩]
    ·rw[if_neg λh=>hw h.2,if_neg λh=>hw ⟨h.2.1,h.2.2.2⟩]
   ·rw[if_neg (c:=m=k/\p m=true/\W (g q+1)>g m) λh=>hm h.1]
    by_cases hc:(k+1<=m/\m<k+1+j)/\p m=true/\kindI P q m ≠ 0/\W (g q+1)>g m
    ·rw[if_pos hc,if_pos ⟨⟨by omega,by omega⟩,hc.2⟩]
    ·rw[if_neg hc,if_neg λh=>hc ⟨⟨by omega,by omega⟩,h.2⟩]
theorem zQx{P:zC}{k:Nat}(h:k<=1000000):W (lev P k+1)=lev P k+1:=by
 have:=zKj P k;exact rA (by omega) (by omega)
def levT(P:zC)(t:Nat):Nat->Int:=λm=>if m<t then lev P m else 0
theorem zMu(P:zC)(aJ:(progI P).length<=120)(t:Nat)(ht:t<(progI P).length):∀(j i:Nat),i+j=(progI P).length->(depA P i j).foldl (stpP λm=>m==t) (λm=>if m=t then mxV P (lev P) t (min i t) else levT P t m)=levT P (t+1)
 | 0,i,hi=>by
  funext m
  show (if m=t then mxV P (lev P) t (min i t) else levT P t m)=_
  rw[show min i t=t by omega,<- zM2]
  unfold levT
  by_cases hm:m=t
  ·rw[if_pos hm,hm,if_pos (by omega)]
  ·rw[if_neg hm]
   by_cases h2:m<t
   ·rw[if_pos h2,if_pos (by omega)]
   ·rw[if_neg h2,if_neg (by omega)]
 | j+1,i,hi=>by
  rw[zEM,List.foldl_append,zHW P _ i _ _ _ (by omega),<- zMu P aJ t ht j (i+1) (by omega)]
  congr 1
  funext m
  by_cases hm:m=t
  ·subst hm
   rw[if_pos rfl,if_pos rfl]
   by_cases hi':i<m
   ·have hg:(if i=m then mxV P (lev P) m (min i m) else levT P m i)=lev P i:=by
     rw[if_neg (by omega)];unfold levT;rw[if_pos hi']
    rw[hg,zQx (by omega),show min i m=i by omega,show min (i+1) m=i+1 by omega,mxV]
    unfold kG
    rw[if_pos ht]
    by_cases h0:kindI P i m=0
    ·rw[if_pos h0,if_neg λh=>h.2.2.1 h0]
    ·rw[if_neg h0]
     by_cases hw:lev P i+1>mxV P (lev P) m i
     ·rw[if_pos hw,if_pos ⟨⟨by omega,by omega⟩,by simp,h0,hw⟩]
     ·rw[if_neg hw,if_neg λh=>hw h.2.2.2]
   ·rw[if_neg (by omega),show min i m=m by omega,show min (i+1) m=m by omega]
  ·have hp:¬((m==t)=true):=by simpa using hm
   rw[if_neg hm,if_neg hm,if_neg λh=>hp h.2.1]
def stL(n:Nat)(g:Nat->Int):List Int:=(List.range n).map g
theorem zEN(n:Nat)(g:Nat->Int):(stL n g).length=n:=by unfold stL;rw[lM,List.length_range]
theorem zCu{n m:Nat}{g:Nat->Int}(h:m<n):idx (stL n g) (m:Int)=some (g m):=by
 rw[yO (by rw[zEN];exact h)];simp[stL]
theorem zM3{n i:Nat}{g:Nat->Int}(h:i<(stL n g).length):(stL n g)[i]=g i:=by simp[stL]
theorem zMv{n m:Nat}{g:Nat->Int}{v:Int}(h:m<n):(stL n g).set m v=stL n (upd g m v):=by
 refine ew (by rw[cJ,zEN,zEN]) λi h1 h2=>?_;rw[List.getElem_set,zM3,zM3];unfold upd;by_cases e:m=i
 ·rw[if_pos e,if_pos e.symm]
 ·rw[if_neg e,if_neg λh=>e h.symm]
theorem zN8{n:Nat}{f g:Nat->Int}(h:∀m,m<n->f m=g m):stL n f=stL n g:=by
 unfold stL;exact List.map_congr_left λm hm=>h m (cA.1 hm)
theorem zEO{P:zC}{d:zR}(h:d∈depA P 0 (progI P).length):∃i k:Nat,d=⟨(i:Int),(k:Int),kindI P i k⟩/\i<k/\k<(progI P).length/\kindI P i k ≠ 0:=by
 unfold depA at h;obtain⟨i,hi,h⟩:=cw.1 h;unfold depR at h;obtain⟨k,hk,h⟩:=cw.1 h;have hi:=dg.1 hi;have hk:=dg.1 hk;unfold dep1 at h;split at h
 ·cases h
 ·rename_i h0;exact⟨i,k,cD.1 h,by omega,by omega,by simpa using h0⟩
end Go.LN
namespace Go.LN
theorem zOi(n:Nat)(hn:n<=1000000):mkrow 8 (n:Int) (0:Int)=some (List.replicate n 0):=by
 unfold mkrow;rw[if_pos ⟨by omega,by omega⟩,iN]
theorem zLo(n:Nat):List.replicate n (0:Int)=stL n λ_=>0:=by
 refine ew (by rw[dw,zEN]) λi h1 h2=>?_;rw[zM3,List.getElem_replicate]
theorem zQ9{g:Nat->Int}{k:Nat}{c:Prop}[Decidable c]{v:Int}:upd g k (if c then v else g k)=if c then upd g k v else g:=by
 by_cases h:c
 ·rw[if_pos h,if_pos h]
 ·rw[if_neg h,if_neg h]
  funext x
  unfold upd;by_cases e:x=k
  ·rw[if_pos e,e]
  ·rw[if_neg e]
def DB(n:Nat)(d:zR):Prop:=∃i k:Nat,d.From=(i:Int)/\d.To=(k:Int)/\i<n/\k<n
theorem zBN{P:zC}:∀d∈depA P 0 (progI P).length,DB (progI P).length d:=by
 intro d hd;obtain⟨i,k,rfl,h1,h2,_⟩:=zEO hd;exact⟨i,k,rfl,rfl,by omega,h2⟩
theorem zMw{P:zC}(h:(progI P).length<=120):(depA P 0 (progI P).length).length<=14400:=by
 have:=zJO P (progI P).length 0;have h2:(progI P).length*(progI P).length<=120*120:=Nat.mul_le_mul h h;omega
theorem zN9{D:List zR}{n t:Nat}(hD:∀d∈D,DB n d)(hl:D.length<=1000000)(ht:t<n):∀(j q:Nat) (g:Nat->Int),q+j=D.length->nJ D (t:Int) (stL n g) (q:Int)=some (stL n ((D.drop q).foldl (stpP λm=>m==t) g)):=by
 intro j
 induction j with
 | zero=>
  intro q g hq;rw[nJ];have:¬((q:Int)<(D.length:Int)):=by omega
  simp only[this,dF,bF,if_false,oP,id];rw[dN.2 (by omega)];rfl
 | succ j ih=>
  intro q g hq;rw[nJ];have ax:q<D.length:=by omega
  have hc:((q:Int)<(D.length:Int)):=by omega
  obtain⟨i,k,e1,e2,h1,h2⟩:=hD D[q] (gM ax);rw[gC ax,fg];simp only[hc,dT,if_true,yO ax,oB,oS,oP,id,e1,e2];by_cases hk:k=t
  ·subst hk;simp only[bQ,if_true,zCu h1,zCu h2,oS,iN,zMv h2];rw[wD (by omega),ih (q+1) _ (by omega)];unfold stpP stpF;rw[e1,e2,iN,iN,zQ9];simp
  ·have e3:((k:Int)==(t:Int))=false:=by simpa using λh=>hk (by omega)
   simp only[e3,bF,if_false,oS];rw[wD (by omega),ih (q+1) _ (by omega)];unfold stpP;rw[e2,iN];simp[hk]
theorem zQa(P:zC):levT P 0=λ_=>0:=by
 funext m
 unfold levT;rw[if_neg (by omega)]
theorem zPf(P:zC)(t:Nat):levT P t=λm=>if m=t then mxV P (lev P) t (min 0 t) else levT P t m:=by
 funext m
 by_cases h:m=t
 ·rw[if_pos h,Nat.zero_min,h];unfold levT;rw[if_neg (by omega)];rfl
 ·rw[if_neg h]
theorem zNa{P:zC}(aJ:(progI P).length<=120){o:List Int}(ho:o.length=(progI P).length):∀(j t:Nat),t+j=(progI P).length->rM (depA P 0 (progI P).length) o (stL (progI P).length (levT P t)) (t:Int)=some (stL (progI P).length (lev P)):=by
 intro j
 induction j with
 | zero=>
  intro t ht;rw[rM];have:¬((t:Int)<(o.length:Int)):=by omega
  simp only[this,dF,bF,if_false,oP,id];exact congrArg some (zN8 λm hm=>by unfold levT;rw[if_pos (by omega)])
 | succ j ih=>
  intro t ht;rw[rM];have hc:((t:Int)<(o.length:Int)):=by omega
  have hl:=zMw aJ;have h2:=zN9 zBN (by omega) (show t<(progI P).length by omega) _ 0 (levT P t) (cm _);have h3:=zMu P aJ t (by omega) _ 0 (cm _);rw[<- zPf] at h3;rw[nZ,cq,h3] at h2;simp only[hc,dT,if_true,h2,oB,oS];rw[wD (by omega)];exact ih (t+1) (by omega)
def lsF(P:zC):List Int:=if validP P then stL (progI P).length (lev P) else[]
theorem zPg{P:zC}:(lsF P).length<=120:=by
 unfold lsF;split
 ·rename_i hv;have aJ:=(uV hv).2.2.2;rw[zEN];exact aJ
 ·simp
theorem zPh{P:zC}:∀x∈lsF P,0<=x/\x<=120:=by
 intro x hx;unfold lsF at hx;split at hx
 ·rename_i hv;have aJ:=(uV hv).2.2.2;obtain⟨m,hm,rfl⟩:=fl.1 hx;have:=cA.1 hm;have:=zKj P m;omega
 ·cases hx
theorem implLevels(P:zC)(hb:BG P):fY P=some (lsF P):=by
 unfold fY lsF;rw[implDeps P hb,implInstP P hb];unfold dpF;cases hv:validP P with
 | false=>
  have h1:rM [] [] [] 0=some []:=by rw[rM];simp
  simp only[bF,if_false,oB,oS,zAE];rw[show ((([]:List zN).length:Int))=((0:Nat):Int) from rfl,zOi 0 (by omega)];simp[h1]
 | true=>
  have aJ:=(uV hv).2.2.2;have hl:=zNa aJ (o:=List.replicate (progI P).length 0) (dw ..) _ 0 (cm _);rw[zQa,<- zLo,nZ] at hl;simp only[if_true,oB,oS,zAE,zOi _ (show (progI P).length<=1000000 by omega),hl,oP,id]
theorem specDeps6(P:zC)(hb:BG P)(hv:validP P=true):zAR P=some (depA P 0 (progI P).length):=by
 have aJ:=(uV hv).2.2.2;have hi:∀z∈progI P,InP P z:=λz hz=>zFX hb hv hz;have hl:=zOf hi aJ _ 0 [] (cm _) (by simp);rw[nZ,cu] at hl;simp only[zAR,specUses P hb hv,hl,oB,oS,oP,id]
def stBo(n:Nat)(g:Nat->Bool):List Bool:=(List.range n).map g
theorem kL(n:Nat)(g:Nat->Bool):(stBo n g).length=n:=by unfold stBo;rw[lM,List.length_range]
theorem zB6{n m:Nat}{g:Nat->Bool}(h:m<n):idx (stBo n g) (m:Int)=some (g m):=by
 rw[yO (by rw[kL];exact h)];simp[stBo]
theorem zCv{n i:Nat}{g:Nat->Bool}(h:i<(stBo n g).length):(stBo n g)[i]=g i:=by simp[stBo]
theorem zLp{n m:Nat}{g:Nat->Bool}(h:m<n):(stBo n g).set m true=stBo n (λx=>g x||x==m):=by
 refine ew (by rw[cJ,kL,kL]) λi h1 h2=>?_;rw[List.getElem_set,zCv,zCv];by_cases e:m=i
 ·rw[if_pos e,e];simp
 ·rw[if_neg e];have:(i==m)=false:=by simpa using λh=>e h.symm
  rw[this,Bool.or_false]
theorem zQy{P:zC}{i k:Nat}(hk:k<(progI P).length)(h:kindI P i k ≠ 0):kG P i k ≠ 0:=by unfold kG;rw[if_pos hk];exact h
theorem zPi{P:zC}{d:zR}(h:d∈depA P 0 (progI P).length):lev P d.From.toNat<lev P d.To.toNat:=by
 obtain⟨i,k,rfl,h1,h2,h3⟩:=zEO h;show lev P ((i:Int)).toNat<lev P ((k:Int)).toNat;rw[iN,iN];have:=zOh (f:=lev P) (zQy h2 h3) k h1;rw[<- zM2] at this;omega
theorem zG1(n:Nat):List.replicate n false=stBo n λ_=>false:=by
 refine ew (by rw[dw,kL]) λi h1 h2=>?_;rw[zCv,List.getElem_replicate]
end Go.LN
namespace Go.LN
def mxs(a x:Int):Int:=if x+1>a then x+1 else a
def crt(P:zC):Int:=(lsF P).foldl mxs 0
theorem zM4:∀(l:List Int) (a:Int),a<=l.foldl mxs a/\∀x∈l,x+1<=l.foldl mxs a
 | [],a=>⟨Int.le_refl _,λx h=>by cases h⟩
 | y::l,a=>by
  obtain⟨h1,h2⟩:=zM4 l (mxs a y)
  rw[fg]
  have h3:a<=mxs a y/\y+1<=mxs a y:=by unfold mxs;split <;> omega
  refine⟨by omega,λx hx=>?_⟩
  rcases cz.1 hx with rfl|hx
  ·omega
  ·exact h2 x hx
theorem zOj:∀(l:List Int) (a:Int),l.foldl mxs a=a∨∃x∈l,l.foldl mxs a=x+1
 | [],a=>.inl rfl
 | y::l,a=>by
  rw[fg]
  rcases zOj l (mxs a y) with h|⟨x,hx,h⟩
  ·rw[h]
   unfold mxs
   split
   ·exact .inr ⟨y,ci ..,rfl⟩
   ·exact .inl rfl
  ·exact .inr ⟨x,cg _ hx,h⟩
theorem zQb{P:zC}{x:Int}(h:x∈lsF P):x+1<=crt P:=(zM4 (lsF P) 0).2 x h
theorem zPj(P:zC):0<=crt P/\crt P<=121:=by
 refine⟨(zM4 (lsF P) 0).1,?_⟩;rcases zOj (lsF P) 0 with h|⟨x,hx,h⟩
 ·unfold crt;omega
 ·have:=zPh x hx;unfold crt;omega
end Go.LN
namespace Go.LN
end Go.LN
namespace Go.LN
def plc:List Int->Nat->(Nat->Int)->Nat->Int
 | [],_,g=>g
 | x::l,k,g=>plc l (k+1) (upd g x.toNat (k:Int))
theorem zMx:∀(l:List Int) (k:Nat) (g:Nat->Int) (y:Nat),(∀x∈l,x.toNat ≠ y)->plc l k g y=g y
 | [],_,_,_,_=>rfl
 | x::l,k,g,y,h=>by
  rw[plc,zMx l _ _ y λz hz=>h z (cg _ hz)]
  unfold upd
  rw[if_neg λe=>h x (ci ..) e.symm]
theorem zJQ:∀(l:List Int) (k:Nat) (g:Nat->Int),l.Nodup->(∀x∈l,0<=x)->∀(j:Nat) (hj:j<l.length),plc l k g l[j].toNat=((k+j:Nat):Int)
 | x::l,k,g,hn,h0,0,_=>by
  have hn:=eh.1 hn
  show plc l (k+1) (upd g x.toNat (k:Int)) x.toNat=_
  rw[zMx l _ _ _ λz hz e=>by
   have h1:=h0 x (ci ..)
   have h2:=h0 z (cg _ hz)
   exact hn.1 ((show z=x by omega) ▸ hz)]
  unfold upd
  rw[if_pos rfl];rfl
 | x::l,k,g,hn,h0,j+1,hj=>by
  have hn:=eh.1 hn
  have:=zJQ l (k+1) (upd g x.toNat (k:Int)) hn.2 (λz hz=>h0 z (cg _ hz)) j (by simpa using hj)
  have e:(x::l)[j+1]=l[j]'(by simpa using hj):=rfl
  rw[e]
  show plc l (k+1) (upd g x.toNat (k:Int)) (l[j]'(by simpa using hj)).toNat=_
  rw[this];omega
theorem zQc{n:Nat}{o:List Int}(hn:o.length<=1000000)(ho:∀x∈o,0<=x/\x<(n:Int)):∀(j q:Nat) (g:Nat->Int),q+j=o.length->pV o (q:Int) (stL n g)=some (stL n (plc (o.drop q) q g)):=by
 intro j
 induction j with
 | zero=>
  intro q g hq;rw[pV];have:¬((q:Int)<(o.length:Int)):=by omega
  simp only[this,dF,bF,if_false,oP,id];rw[dN.2 (by omega)];rfl
 | succ j ih=>
  intro q g hq;rw[pV];have ax:q<o.length:=by omega
  have hc:((q:Int)<(o.length:Int)):=by omega
  obtain⟨x,hx⟩:∃x:Nat,o[q]=(x:Int):=⟨o[q].toNat,by have:=ho _ (gM ax);omega⟩;have hxn:x<n:=by have:=ho _ (gM ax);omega
  rw[gC ax,plc];simp only[hc,dT,if_true,yO ax,hx,zCu hxn,oB,oS,oP,iN,zMv hxn];rw[wD (by omega)];exact ih (q+1) _ (by omega)
def brk(g:Nat->Int)(d:zR):Bool:=decide (g d.To.toNat<g d.From.toNat)
def plo(o:List Int):Nat->Int:=plc o 0 λ_=>0
theorem zPk{n:Nat}{g:Nat->Int}{D:List zR}(hD:∀d∈D,DB n d)(hl:D.length<=1000000):∀(j q:Nat),q+j=D.length->∃r,yC D (λx0=>nB x0 (stL n g)) (q:Int)=some r/\((r=.done ()/\(D.drop q).find? (brk g)=none)∨∃(k:Nat) (h:k<D.length),r=.ret (k:Int)/\(D.drop q).find? (brk g)=some D[k]):=by
 intro j
 induction j with
 | zero=>
  intro q hq;rw[yC];have:¬((q:Int)<(D.length:Int)):=by omega
  refine⟨_,by simp only[this,dF,bF,if_false,oP],.inl ⟨rfl,?_⟩⟩;rw[dN.2 (by omega)];rfl
 | succ j ih=>
  intro q hq;rw[yC];have ax:q<D.length:=by omega
  have hc:((q:Int)<(D.length:Int)):=by omega
  obtain⟨i,k,e1,e2,h1,h2⟩:=hD D[q] (gM ax);have hb:nB D[q] (stL n g)=some (brk g D[q]):=by
   unfold nB brk;simp only[e1,e2,zCu h1,zCu h2,oB,oS,oP,iN]
  rw[gC ax,List.find?_cons];cases hk:brk g D[q] with
  | true=>exact⟨_,by simp only[hc,dT,if_true,yO ax,hb,hk,oB,oS,oP],.inr ⟨q,ax,rfl,rfl⟩⟩
  | false=>
   obtain⟨r,hr,aV⟩:=ih (q+1) (by omega);refine⟨r,?_,aV⟩;simp only[hc,dT,if_true,yO ax,hb,hk,oB,oS,oP,bF,if_false];rw[wD (by omega),hr]
theorem implBrk{n:Nat}{o:List Int}{D:List zR}(hD:∀d∈D,DB n d)(hl:D.length<=1000000)(hn:n<=1000000)(hp:permB n o=true):(eM D o=some (-1)/\D.find? (brk (plo o))=none)∨∃(k:Nat) (h:k<D.length),eM D o=some (k:Int)/\D.find? (brk (plo o))=some D[k]:=by
 obtain⟨⟨p1,p2⟩,p3⟩:=(zAj _ _).1 hp;have h1:=zQc (n:=n) (by omega) p1 _ 0 (λ_=>0) (cm o.length);rw[nZ,cq,<- zLo] at h1;obtain⟨r,hr,hc⟩:=zPk (g:=plo o) hD hl _ 0 (cm D.length);rw[nZ] at hr;rw[cq] at hc;unfold eM xO;rw[p3];have h2:pV o 0 (List.replicate n 0)=some (stL n (plo o)):=h1;simp only[zOi n hn,h2,hr,oB,oS];rcases hc with⟨rfl,h⟩|⟨k,hk,rfl,h⟩
 ·exact .inl ⟨rfl,h⟩
 ·exact .inr ⟨k,hk,rfl,h⟩
def brF(P:zC)(o:List Int):Option zR:=(dpF P).find? (brk (plo o))
end Go.LN
namespace Go.LN
def selL(g:Nat->Int)(v:Int)(i j:Nat):List Int:=(List.range' i j).flatMap λm=>if g m==v then[(m:Int)] else[]
theorem zNb(g:Nat->Int)(v:Int)(i j:Nat):selL g v i (j+1)=(if g i==v then[(i:Int)] else[])++selL g v (i+1) j:=by unfold selL;rw[cY,ce]
theorem zG2{g:Nat->Int}{v x:Int}{i j:Nat}:x∈selL g v i j ↔ ∃m:Nat,x=(m:Int)/\i<=m/\m<i+j/\g m=v:=by
 unfold selL;rw[cw];constructor
 ·rintro⟨m,hm,h⟩;have hm:=dg.1 hm;by_cases e:g m=v
  ·rw[if_pos (by simpa using e)] at h;exact⟨m,cD.1 h,hm.1,hm.2,e⟩
  ·rw[if_neg (by simpa using e)] at h;cases h
 ·rintro⟨m,rfl,h1,h2,h3⟩;exact⟨m,dg.2 ⟨h1,h2⟩,by rw[if_pos (by simpa using h3)];exact cD.2 rfl⟩
def ordA(g:Nat->Int)(n v c:Nat):List Int:=(List.range' v c).flatMap λ(u:Nat)=>selL g (u:Int) 0 n
theorem zHX(g:Nat->Int)(n v c:Nat):ordA g n v (c+1)=selL g (v:Int) 0 n++ordA g n (v+1) c:=by unfold ordA;rw[cY,ce]
theorem zEB{g:Nat->Int}{n v c:Nat}{x:Int}:x∈ordA g n v c ↔ ∃m:Nat,x=(m:Int)/\m<n/\(v:Int)<=g m/\g m<((v+c:Nat):Int):=by
 unfold ordA;rw[cw];constructor
 ·rintro⟨u,hu,h⟩;have hu:=dg.1 hu;obtain⟨m,rfl,h1,h2,h3⟩:=zG2.1 h;exact⟨m,rfl,by omega,by omega,by omega⟩
 ·rintro⟨m,rfl,h1,h2,h3⟩;exact⟨(g m).toNat,dg.2 ⟨by omega,by omega⟩,zG2.2 ⟨m,rfl,by omega,by omega,by omega⟩⟩
def RR(g:Nat->Int)(x y:Int):Prop:=g x.toNat<g y.toNat∨(g x.toNat=g y.toNat/\x<y)
theorem zKk(g:Nat->Int)(v:Int):∀(j i:Nat),(selL g v i j).Pairwise (RR g)
 | 0,i=>by unfold selL;exact List.Pairwise.nil
 | j+1,i=>by
  rw[zNb]
  by_cases e:g i=v
  ·rw[if_pos (by simpa using e)]
   refine List.Pairwise.cons (λy hy=>?_) (zKk g v j (i+1))
   obtain⟨m,rfl,h1,h2,h3⟩:=zG2.1 hy
   exact .inr ⟨by rw[iN,iN,e,h3],by omega⟩
  ·rw[if_neg (by simpa using e)];exact zKk g v j (i+1)
theorem zIJ(g:Nat->Int)(n:Nat):∀(c v:Nat),(ordA g n v c).Pairwise (RR g)
 | 0,v=>by unfold ordA;exact List.Pairwise.nil
 | c+1,v=>by
  rw[zHX]
  refine List.pairwise_append.2 ⟨zKk g _ n 0,zIJ g n c (v+1),λx hx y hy=>?_⟩
  obtain⟨m,rfl,h1,h2,h3⟩:=zG2.1 hx
  obtain⟨k,rfl,k1,k2,k3⟩:=zEB.1 hy
  exact .inl (by rw[iN,iN];omega)
theorem zNc(g:Nat->Int)(v c:Nat):(ordA g 0 v c).length=0:=by
 cases h:ordA g 0 v c with
 | nil=>rfl
 | cons x l=>
  have:x∈ordA g 0 v c:=by rw[h];exact ci ..
  obtain⟨m,_,h1,_⟩:=zEB.1 this;omega
theorem zNd(g:Nat->Int)(v:Int)(n:Nat):selL g v 0 (n+1)=selL g v 0 n++(if g n==v then[(n:Int)] else[]):=by
 unfold selL;rw[List.range'_concat,cZ];simp
theorem zKO(g:Nat->Int)(n:Nat):∀(c v:Nat),(ordA g (n+1) v c).length=(ordA g n v c).length+(if(v:Int)<=g n/\g n<((v+c:Nat):Int) then 1 else 0)
 | 0,v=>by
  rw[if_neg (by omega)];rfl
 | c+1,v=>by
  rw[zHX,zHX,zNd,lA,lA,lA,zKO g n c (v+1)]
  by_cases e:g n=(v:Int)
  ·rw[if_pos (c:=(g n==(v:Int))=true) (by simpa using e),if_neg (by omega),if_pos (by omega),f9];omega
  ·rw[if_neg (c:=(g n==(v:Int))=true) (by simpa using e)]
   by_cases h:(((v+1:Nat)):Int)<=g n/\g n<((v+1+c:Nat):Int)
   ·rw[if_pos h,if_pos (by omega),cK];omega
   ·rw[if_neg h,if_neg (by omega),cK];omega
theorem zJR(g:Nat->Int)(c:Nat):∀n,(∀m,m<n->0<=g m/\g m<(c:Int))->(ordA g n 0 c).length=n
 | 0,_=>zNc g 0 c
 | n+1,h=>by
  have h1:=h n (Nat.lt_succ_self n)
  rw[zKO,zJR g c n λm hm=>h m (by omega),if_pos (by omega)]
theorem zNe{g:Nat->Int}{n c:Nat}(h:∀m,m<n->0<=g m/\g m<(c:Int)):permB n (ordA g n 0 c)=true:=by
 refine(zAj _ _).2 ⟨⟨λx hx=>?_,(zIJ g n c 0).imp λh e=>?_⟩,zJR g c n h⟩
 ·obtain⟨m,rfl,h1,_⟩:=zEB.1 hx;omega
 ·subst e;unfold RR at h;omega
end Go.LN
namespace Go.LN
def choF:List Bool->Nat->List Int
 | [],_=>[]
 | b::l,i=>(if b then[(i:Int)] else[])++choF l (i+1)
theorem zKl{c:Int}:∀{l:List Bool}{i:Nat},c∈choF l i ↔ ∃k:Nat,c=((i+k:Nat):Int)/\l.getD k false=true
 | [],i=>by simp[choF]
 | b::l,i=>by
  rw[choF,dl,zKl (l:=l)]
  constructor
  ·rintro(h|⟨k,h1,h2⟩)
   ·cases b with
    | false=>simp at h
    | true=>exact⟨0,by simpa using h,rfl⟩
   ·exact⟨k+1,by rw[h1];omega,by simpa using h2⟩
  ·rintro⟨k,h1,h2⟩
   cases k with
   | zero=>
    have hb:b=true:=by simpa using h2
    left;rw[hb];simpa using h1
   | succ k=>exact .inr ⟨k,by rw[h1];omega,by simpa using h2⟩
theorem specCho(l:List Bool)(hl:l.length<=1000000):fK l=some (choF l 0):=by
 have key:∀(j i:Nat) (o:List Int),i+j=l.length->o.length<=i->qK l o (i:Int)=some (o++choF (l.drop i) i):=by
  intro j
  induction j with
  | zero=>
   intro i o hi ho;rw[qK];have:¬((i:Int)<(l.length:Int)):=by omega
   simp only[this,dF,bF,if_false,oP,id];rw[dN.2 (by omega),choF,co]
  | succ j ih=>
   intro i o hi ho;rw[qK];have ax:i<l.length:=by omega
   have hc:((i:Int)<(l.length:Int)):=by omega
   rw[gC ax,choF];simp only[hc,dT,if_true,yO ax,oB,oS,oP,id,qL (show (o.length+[(i:Int)].length)*8<=140737488355328 by simp;omega)];rw[wD (by omega)];cases l[i] with
   | false=>
    simp only[bF,if_false,oS];rw[ih (i+1) o (by omega) (by omega),cu]
   | true=>
    simp only[if_true,oS];rw[ih (i+1) _ (by omega) (by rw[lA];simp;omega),cr]
 have:=key _ 0 [] (cm _) (cI _);rw[nZ,cq,cu] at this;unfold fK;rw[this];rfl
end Go.LN
namespace Go.LN
theorem zFY{n:Nat}{f g:Nat->Bool}(h:∀m,m<n->f m=g m):stBo n f=stBo n g:=by
 unfold stBo;exact List.map_congr_left λm hm=>h m (cA.1 hm)
theorem zLq{n m:Nat}{g:Nat->Bool}{v:Bool}(h:m<n):(stBo n g).set m v=stBo n λx=>if x=m then v else g x:=by
 refine ew (by rw[cJ,kL,kL]) λi h1 h2=>?_;rw[List.getElem_set,zCv,zCv];by_cases e:m=i
 ·rw[if_pos e,if_pos e.symm]
 ·rw[if_neg e,if_neg λh=>e h.symm]
theorem zLr{n k:Nat}{g:Nat->Bool}:(stBo n g).getD k false=if k<n then g k else false:=by
 rw[cG];by_cases h:k<n
 ·rw[cd (by rw[kL];exact h),zCv,if_pos h];rfl
 ·rw[di (by rw[kL];omega),if_neg h];rfl
def stpY(dn:Nat->Bool)(r:Nat->Bool)(d:zR):Nat->Bool:=if dn d.From.toNat then r else λx=>if x=d.To.toNat then false else r x
def rdF(D:List zR)(dn:Nat->Bool):Nat->Bool:=λx=>!dn x&&D.all λd=>dn d.From.toNat || !(x==d.To.toNat)
theorem zKP(dn:Nat->Bool)(x:Nat):∀(D:List zR) (r:Nat->Bool),D.foldl (stpY dn) r x=(r x&&D.all λd=>dn d.From.toNat || !(x==d.To.toNat))
 | [],r=>by simp
 | d::D,r=>by
  rw[fg,zKP dn x D,d5,<- Bool.and_assoc]
  congr 1
  unfold stpY
  cases dn d.From.toNat with
  | true=>simp
  | false=>
   by_cases e:x=d.To.toNat
   ·simp[e]
   ·simp[e]
theorem zOk{n:Nat}(hn:n<=1000000)(dn:Nat->Bool):∀(j i:Nat),i+j=n->oT (stBo n dn) (stBo n λx=>if x<i then !dn x else false) (i:Int)=some (stBo n λx=>!dn x):=by
 intro j
 induction j with
 | zero=>
  intro i hi;rw[oT];have:¬((i:Int)<((stBo n dn).length:Int)):=by rw[kL];omega
  simp only[this,dF,bF,if_false,oP,id];exact congrArg some (zFY λx hx=>by rw[if_pos (by omega)])
 | succ j ih=>
  intro i hi;rw[oT];have hc:((i:Int)<((stBo n dn).length:Int)):=by rw[kL];omega
  have ax:i<n:=by omega
  simp only[hc,dT,if_true,zB6 ax,oB,oS,oP,iN,zLq ax];rw[wD (by omega),<- ih (i+1) (by omega)]
  congr 1
  refine zFY λx hx=>?_;by_cases e:x=i
  ·rw[if_pos e,if_pos (by omega),e]
  ·rw[if_neg e];by_cases e2:x<i
   ·rw[if_pos e2,if_pos (by omega)]
   ·rw[if_neg e2,if_neg (by omega)]
theorem zOl{D:List zR}{n:Nat}(hD:∀d∈D,DB n d)(hl:D.length<=1000000)(dn:Nat->Bool):∀(j q:Nat) (r:Nat->Bool),q+j=D.length->oU D (stBo n dn) (stBo n r) (q:Int)=some (stBo n ((D.drop q).foldl (stpY dn) r)):=by
 intro j
 induction j with
 | zero=>
  intro q r hq;rw[oU];have:¬((q:Int)<(D.length:Int)):=by omega
  simp only[this,dF,bF,if_false,oP,id];rw[dN.2 (by omega)];rfl
 | succ j ih=>
  intro q r hq;rw[oU];have ax:q<D.length:=by omega
  have hc:((q:Int)<(D.length:Int)):=by omega
  obtain⟨i,k,e1,e2,h1,h2⟩:=hD D[q] (gM ax);rw[gC ax,fg];have es:stpY dn r D[q]=if dn i then r else λx=>if x=k then false else r x:=by
   unfold stpY;rw[e1,e2,iN,iN]
  rw[es];simp only[hc,dT,if_true,yO ax,oB,oS,oP,id,e1,e2,zB6 h1,zB6 h2,iN,zLq h2];rw[wD (show q<9223372036854775807 by omega)];cases dn i with
  | true=>
   simp only[bT,bF,if_false,if_true,oS];exact ih (q+1) _ (by omega)
  | false=>
   simp only[cT,bF,if_false,if_true,oS];exact ih (q+1) _ (by omega)
theorem readyV{D:List zR}{n:Nat}(hD:∀d∈D,DB n d)(hl:D.length<=1000000)(hn:n<=1000000)(dn:Nat->Bool):dS D (stBo n dn)=some (choF (stBo n (rdF D dn)) 0):=by
 have h1:=zOk hn dn n 0 (cm _);have h2:=zOl hD hl dn _ 0 (λx=>!dn x) (cm D.length);have e1:(stBo n λx=>if x<0 then !dn x else false)=List.replicate n false:=by
  rw[zG1];exact zFY λx hx=>by rw[if_neg (by omega)]
 have e2:D.foldl (stpY dn) (λx=>!dn x)=rdF D dn:=by
  funext x
  rw[zKP];rfl
 rw[e1,nZ] at h1;rw[cq,e2,nZ] at h2;unfold dS;rw[kL,zEA n hn];simp only[h1,h2,specCho (stBo n (rdF D dn)) (by rw[kL];omega),oB,oS,oP,id]
def cntU(dn:Nat->Bool):Nat->Nat
 | 0=>0
 | n+1=>cntU dn n+(if dn n then 0 else 1)
theorem zKQ{dn:Nat->Bool}:∀{n:Nat},cntU dn n=0->∀y,y<n->dn y=true
 | n+1,h,y,hy=>by
  rw[cntU] at h
  by_cases e:dn n=true
  ·rcases cW y n with h1|h1
   ·exact zKQ (by omega) y h1
   ·rw[show y=n by omega];exact e
  ·rw[if_neg e] at h;omega
theorem zJS{dn:Nat->Bool}:∀{n:Nat},0<cntU dn n->∃x,x<n/\dn x=false/\∀y,y<x->dn y=true
 | n+1,h=>by
  by_cases h0:0<cntU dn n
  ·obtain⟨x,h1,h2,h3⟩:=zJS h0
   exact⟨x,by omega,h2,h3⟩
  ·refine⟨n,by omega,?_,zKQ (by omega)⟩
   rw[cntU] at h
   cases hd:dn n with
   | false=>rfl
   | true=>rw[hd,if_pos rfl] at h;omega
theorem zJT{f g:Nat->Bool}:∀{n:Nat},(∀m,m<n->f m=g m)->cntU f n=cntU g n
 | 0,_=>rfl
 | n+1,h=>by rw[cntU,cntU,zJT λm hm=>h m (by omega),h n (by omega)]
theorem zG3{dn:Nat->Bool}{x:Nat}(hx:dn x=false):∀{n:Nat},x<n->cntU (λy=>dn y||y==x) n+1=cntU dn n
 | n+1,h=>by
  rw[cntU,cntU]
  by_cases e:x=n
  ·subst e
   rw[zJT (f:=λy=>dn y||y==x) (g:=dn) λm hm=>by
    have:(m==x)=false:=by simp;omega
    rw[this,Bool.or_false],hx]
   simp
  ·have:=zG3 hx (n:=n) (by omega)
   have e2:(dn n||n==x)=dn n:=by
    have:(n==x)=false:=by simp;omega
    rw[this,Bool.or_false]
   rw[e2];omega
theorem zB7:∀n,cntU (λ_=>false) n=n
 | 0=>rfl
 | n+1=>by rw[cntU,zB7 n];rfl
theorem zJU:∀(n:Nat) (l:List Int),l.Nodup->(∀x∈l,0<=x/\x<(n:Int))->l.length<=n
 | 0,[],_,_=>cI _
 | 0,x::l,_,h=>by have:=h x (ci ..);omega
 | n+1,l,hn,h=>by
  by_cases hm:(n:Int)∈l
  ·have h1:=zJU n (l.erase (n:Int)) (hn.erase _) λx hx=>by
    have h2:=(hn.mem_erase_iff).1 hx
    have h3:=h x h2.2
    have h4:=h2.1
    omega
   rw[List.length_erase_of_mem hm] at h1
   omega
  ·have h1:=zJU n l hn λx hx=>by
    have h3:=h x hx
    have h4:x ≠ (n:Int):=λe=>hm (e ▸ hx)
    omega
   omega
theorem zG4{n:Nat}{o:List Int}(hp:permB n o=true){m:Nat}(hm:m<n):∃(j:Nat) (hj:j<o.length),o[j]=(m:Int):=by
 obtain⟨⟨p1,p2⟩,p3⟩:=(zAj _ _).1 hp;by_cases h:(m:Int)∈o
 ·exact dr.1 h
 ·have:=zJU n ((m:Int)::o) (eh.2 ⟨h,p2⟩) λx hx=>by
   rcases cz.1 hx with rfl|hx
   ·omega
   ·exact p1 x hx
  rw[cy] at this;omega
end Go.LN
namespace Go.LN
end Go.LN
namespace Go.LN
theorem zJV{d:Int}{n:Nat}{e:zI}(h:shapeB d (n+1) e=true):(e.Kind=1∨e.Kind=2∨e.Kind=3)∨((e.Kind=4∨e.Kind=5∨e.Kind=6)/\∃a b,e.Kids=[a,b]):=by
 simp only[shapeB,bA] at h;have hk:=eq_of_beq h.1.1;unfold kidsN at hk;by_cases h1:e.Kind=1∨e.Kind=2∨e.Kind=3
 ·exact .inl h1
 ·rw[if_neg h1] at hk;by_cases h2:e.Kind=4∨e.Kind=5∨e.Kind=6
  ·rw[if_pos h2] at hk;refine .inr ⟨h2,?_⟩;have hl:e.Kids.length=2:=by omega
   match e.Kids,hl with
   | [a,b],_=>exact⟨a,b,rfl⟩
  ·rw[if_neg h2] at hk;omega
end Go.LN
namespace Go.LN
end Go.LN
namespace Go.LN
end Go.LN
namespace Go.LN
theorem AV.bl{a:zK}(h:AV a):BL a.Subs:=⟨by have:=h.2.1;omega,λs hs=>by have:=h.2.2 s hs;unfold BA;omega⟩
end Go.LN
namespace Go.LN
end Go.LN
namespace Go.LN
def eqL{α:Type}(q:α->α->Bool):List α->List α->Bool
 | [],[]=>true
 | x::a,y::b=>q x y&&eqL q a b
 | _,_=>false
theorem zIK{α:Type}{a b:List α}(hl:a.length=b.length){q:α->α->Bool}{f:Int->Option (Out Unit Bool)}(step:∀(i:Nat) (h1:i<a.length) (h2:i<b.length),f (i:Int)=if q a[i] b[i] then f ((i+1:Nat):Int) else some (.ret false))(fin:f (a.length:Int)=some (.done ())):f 0=some (if eqL q a b then .done () else .ret false):=by
 have key:∀(j i:Nat),i+j=a.length->f (i:Int)=some (if eqL q (a.drop i) (b.drop i) then .done () else .ret false):=by
  intro j
  induction j with
  | zero=>
   intro i hi;rw[show i=a.length by omega,fin,dN.2 (cI a.length),dN.2 (show b.length<=a.length by omega)];rfl
  | succ j ih=>
   intro i hi;have h1:i<a.length:=by omega
   have h2:i<b.length:=by omega
   rw[step i h1 h2,ih (i+1) (by omega),gC h1,gC h2,eqL];cases q a[i] b[i] <;> rfl
 have:=key a.length 0 (cm _);rwa[nZ,cq,cq] at this
theorem zG5{α:Type}{q:α->α->Bool}:∀{a b:List α},a.length ≠ b.length->eqL q a b=false
 | [],[],h=>absurd rfl h
 | [],_::_,_=>rfl
 | _::_,[],_=>rfl
 | x::a,y::b,h=>by rw[eqL,zG5 (by simpa using h),gt]
def eqI(a b:List Int):Bool:=eqL (λx y=>x==y) a b
theorem implEqI(a b:List Int)(h:a.length<=1048576):oR a b=some (eqI a b):=by
 unfold oR eqI;by_cases hl:a.length=b.length
 ·have hf:=zIK (q:=λx y=>x==y) hl (f:=uM a b) (λi h1 h2=>by
   rw[uM];have c:((i:Int)<(a.length:Int)):=by omega
   simp only[c,dT,if_true,yO h1,yO h2,oB,oS,oP];rw[wD (by omega)];by_cases e:a[i]=b[i]
   ·simp[e]
   ·simp[e]) (by rw[uM];simp)
  have e:((a.length:Int) != (b.length:Int))=false:=by simp[hl]
  rw[hf,e];cases eqL (λx y=>x==y) a b <;> rfl
 ·have e:((a.length:Int) != (b.length:Int))=true:=by simp;omega
  rw[e,zG5 hl];rfl
theorem specEqI(a b:List Int)(h:a.length<=1048576):zAQ a b=some (eqI a b):=by
 unfold zAQ eqI;by_cases hl:a.length=b.length
 ·have hf:=zIK (q:=λx y=>x==y) hl (f:=mE a b) (λi h1 h2=>by
   rw[mE];have c:((i:Int)<(a.length:Int)):=by omega
   simp only[c,dT,if_true,yO h1,yO h2,oB,oS,oP];rw[wD (by omega)];by_cases e:a[i]=b[i]
   ·simp[e]
   ·simp[e]) (by rw[mE];simp)
  have e:((a.length:Int) != (b.length:Int))=false:=by simp[hl]
  rw[hf,e];cases eqL (λx y=>x==y) a b <;> rfl
 ·have e:((a.length:Int) != (b.length:Int))=true:=by simp;omega
  rw[e,zG5 hl];rfl
def afB(x y:zA):Bool:=eqI x.Coefs y.Coefs&&x.Const==y.Const
theorem implAff(x y:zA)(h:x.Coefs.length<=1048576):qO x y=some (afB x y):=by
 unfold qO afB;rw[implEqI _ _ h];cases eqI x.Coefs y.Coefs <;> rfl
theorem specAff(x y:zA)(h:x.Coefs.length<=1048576):jZ x y=some (afB x y):=by
 unfold jZ afB;rw[specEqI _ _ h];cases eqI x.Coefs y.Coefs <;> cases x.Const==y.Const <;> rfl
def acB(a b:zK):Bool:=a.Array.l==b.Array.l&&eqL afB a.Subs b.Subs
theorem implAcS(a b:zK)(ha:AV a):mS a b=some (acB a b):=by
 unfold mS acB;cases a.Array.l==b.Array.l with
 | false=>rfl
 | true=>
  have h2:=ha.2.1;unfold xL;by_cases hl:a.Subs.length=b.Subs.length
  ·have hf:=zIK (q:=afB) hl (f:=yN a.Subs b.Subs qO) (λi h1 h2=>by
    rw[yN];have c:((i:Int)<(a.Subs.length:Int)):=by omega
    have hc:=ha.2.2 _ (gM h1);simp only[c,dT,if_true,yO h1,yO h2,implAff _ _ (show a.Subs[i].Coefs.length<=1048576 by omega),oB,oS,oP];rw[wD (by omega)];cases afB a.Subs[i] b.Subs[i] <;> rfl) (by rw[yN];simp)
   have e:((a.Subs.length:Int) != (b.Subs.length:Int))=false:=by simp[hl]
   rw[hf,e];cases eqL afB a.Subs b.Subs <;> rfl
  ·have e:((a.Subs.length:Int) != (b.Subs.length:Int))=true:=by simp;omega
   rw[e,zG5 hl];rfl
theorem specAcS(a b:zK)(ha:AV a):kK a b=some (acB a b):=by
 unfold kK acB;cases a.Array.l==b.Array.l with
 | false=>rfl
 | true=>
  have h2:=ha.2.1;unfold eW;by_cases hl:a.Subs.length=b.Subs.length
  ·have hf:=zIK (q:=afB) hl (f:=rG a.Subs b.Subs) (λi h1 h2=>by
    rw[rG];have c:((i:Int)<(a.Subs.length:Int)):=by omega
    have hc:=ha.2.2 _ (gM h1);simp only[c,dT,if_true,yO h1,yO h2,specAff _ _ (show a.Subs[i].Coefs.length<=1048576 by omega),oB,oS,oP];rw[wD (by omega)];cases afB a.Subs[i] b.Subs[i] <;> rfl) (by rw[rG];simp)
   have e:((a.Subs.length:Int) != (b.Subs.length:Int))=false:=by simp[hl]
   rw[hf,e];cases eqL afB a.Subs b.Subs <;> rfl
  ·have e:((a.Subs.length:Int) != (b.Subs.length:Int))=true:=by simp;omega
   rw[e,zG5 hl];rfl
def usB(n:Nat)(e:zI)(l:List UInt8):Bool:=(readsF n e).any λa=>a.Array.l==l
theorem specUs{d:Int}:∀(n:Nat) (e:zI) (nm:Str),shapeB d n e=true->jC e nm=some (usB n e nm.l)
 | 0,e,nm,h=>by cases h
 | n+1,e,nm,h=>by
  rw[jC]
  unfold usB
  rw[readsF]
  obtain⟨h1,h2⟩:=jE h
  by_cases h3:e.Kind=3
  ·have e3:(e.Kind==3)=true:=by simpa using h3
   have hk:=(zB5 h h3).1
   have hl:wY e nm 0=some (.done ()):=by rw[wY];simp[hk]
   rw[if_pos h3]
   simp only[e3,if_true,same,hl,oB,oS,oP,List.any_cons,List.any_nil,Bool.or_false]
   cases e.Read.Array.l==nm.l <;> rfl
  ·have e3:(e.Kind==3)=false:=by simpa using h3
   rw[if_neg h3]
   simp only[e3,bF,if_false,same,oB,oS,oP]
   rcases h1 with hk|⟨a,b,hk⟩
   ·have hl:wY e nm 0=some (.done ()):=by rw[wY];simp[hk]
    rw[hl,hk];rfl
   ·have ra:=specUs n a nm (h2 a (by rw[hk];simp))
    have rb:=specUs n b nm (h2 b (by rw[hk];simp))
    have l0:((0:Int)<(e.Kids.length:Int)):=by rw[hk];simp
    have l1:((1:Int)<(e.Kids.length:Int)):=by rw[hk];simp
    have l2:¬((2:Int)<(e.Kids.length:Int)):=by rw[hk];simp
    have i0:idx e.Kids 0=some a:=by rw[hk];rfl
    have i1:idx e.Kids 1=some b:=by rw[hk];rfl
    have w0:W ((0:Int)+1)=1:=by rw[rA (by omega) (by omega)];rfl
    have w1:W ((1:Int)+1)=2:=by rw[rA (by omega) (by omega)];rfl
    have f2:wY e nm 2=some (.done ()):=by rw[wY];simp only[l2,dF,bF,if_false,oP]
    have f1:wY e nm 1=some (if usB n b nm.l then .ret true else .done ()):=by
     rw[wY]
     simp only[l1,dT,if_true,i1,same,rb,w1,f2,oB,oS,oP]
     cases usB n b nm.l <;> rfl
    have f0:wY e nm 0=some (if usB n a nm.l||usB n b nm.l then .ret true else .done ()):=by
     rw[wY]
     simp only[l0,dT,if_true,i0,same,ra,w0,f1,oB,oS,oP]
     cases usB n a nm.l <;> rfl
    have eu:(e.Kids.flatMap (readsF n)).any (λx=>x.Array.l==nm.l)=(usB n a nm.l||usB n b nm.l):=by
     rw[hk]
     unfold usB
     simp
    rw[f0,eu]
    cases usB n a nm.l <;> cases usB n b nm.l <;> rfl
def redB(s:zP):Bool:=match s.Value.Kids with
 | [x,y]=>(s.Value.Kind==4||s.Value.Kind==5)&&(x.Kind==3&&(acB x.Read s.Write && !usB 4 y s.Write.Array.l))
 | _=>false
theorem implRed(s:zP){d:Int}(hs:stmtB s d=true):fJ s=some (redB s):=by
 obtain⟨s1,s2,s3⟩:=zAh hs;unfold fJ redB;rcases zJV s2 with hk|⟨hk,x,y,hxy⟩
 ·have h4:(s.Value.Kind != 4)=true:=by simp;omega
  have h5:(s.Value.Kind != 5)=true:=by simp;omega
  have hn:s.Value.Kids=[]:=by
   rcases(jE s2).1 with h|⟨a,b,h⟩
   ·exact h
   ·have h0:=s2;simp only[shapeB,bA] at h0;have h1:=eq_of_beq h0.1.1;unfold kidsN at h1;rw[if_pos hk,h] at h1;simp at h1
  rw[hn];simp[h4,h5]
 ·have h2:=(jE s2).2;rw[hxy] at h2 ⊢;have sx:=h2 x (by simp);have sy:=h2 y (by simp);have i0:idx [x,y] 0=some x:=rfl;have i1:idx [x,y] 1=some y:=rfl;have hr:=implReads 4 y sy (by omega);have aJ:=gS 4 y sy;have hc:=zGY (f:=λx0=>kY x0 s) (p:=λa=>a.Array.l==s.Write.Array.l) (readsF 4 y) (λa ha=>rfl) (by omega);have hu:(readsF 4 y).any (λa=>a.Array.l==s.Write.Array.l)=usB 4 y s.Write.Array.l:=rfl;rw[hu] at hc;dsimp only;by_cases k3:x.Kind=3
  ·have hx:=AV.of (zB5 sx k3).2;have e3:(x.Kind != 3)=false:=by simpa using k3
   have e3':(x.Kind==3)=true:=by simpa using k3
   by_cases k4:s.Value.Kind=4
   ·have e4:(s.Value.Kind != 4)=false:=by simpa using k4
    have e4':(s.Value.Kind==4)=true:=by simpa using k4
    simp only[e4,e4',e3,e3',bF,if_false,i0,i1,implAcS x.Read s.Write hx,hr,hc,oB,oS,oP,Bool.true_or,cv];cases acB x.Read s.Write <;> rfl
   ·have e4:(s.Value.Kind != 4)=true:=by simpa using k4
    have e4':(s.Value.Kind==4)=false:=by simpa using k4
    by_cases k5:s.Value.Kind=5
    ·have e5:(s.Value.Kind != 5)=false:=by simpa using k5
     have e5':(s.Value.Kind==5)=true:=by simpa using k5
     simp only[e4,e4',e5,e5',e3,e3',bF,if_false,if_true,i0,i1,implAcS x.Read s.Write hx,hr,hc,oB,oS,oP,Bool.or_true,cv];cases acB x.Read s.Write <;> rfl
    ·have e5:(s.Value.Kind != 5)=true:=by simpa using k5
     have e5':(s.Value.Kind==5)=false:=by simpa using k5
     simp only[e4,e4',e5,e5',if_true,oB,oS,oP,Bool.or_self,fb]
  ·have e3:(x.Kind != 3)=true:=by simpa using k3
   have e3':(x.Kind==3)=false:=by simpa using k3
   by_cases k4:s.Value.Kind=4
   ·have e4:(s.Value.Kind != 4)=false:=by simpa using k4
    simp only[e4,e3,e3',bF,if_false,if_true,i0,oB,oS,oP,fb,gt]
   ·have e4:(s.Value.Kind != 4)=true:=by simpa using k4
    by_cases k5:s.Value.Kind=5
    ·have e5:(s.Value.Kind != 5)=false:=by simpa using k5
     simp only[e4,e5,e3,e3',bF,if_false,if_true,i0,oB,oS,oP,fb,gt]
    ·have e5:(s.Value.Kind != 5)=true:=by simpa using k5
     simp only[e4,e5,e3',if_true,oB,oS,oP,fb,gt]
theorem specRed(s:zP){d:Int}(hs:stmtB s d=true):zA7 s=some (redB s):=by
 obtain⟨s1,s2,s3⟩:=zAh hs;unfold zA7 redB;rcases zJV s2 with hk|⟨hk,x,y,hxy⟩
 ·have h4:(s.Value.Kind != 4)=true:=by simp;omega
  have h5:(s.Value.Kind != 5)=true:=by simp;omega
  have hn:s.Value.Kids=[]:=by
   rcases(jE s2).1 with h|⟨a,b,h⟩
   ·exact h
   ·have h0:=s2;simp only[shapeB,bA] at h0;have h1:=eq_of_beq h0.1.1;unfold kidsN at h1;rw[if_pos hk,h] at h1;simp at h1
  rw[hn];simp[h4,h5]
 ·have h2:=(jE s2).2;rw[hxy] at h2 ⊢;have sx:=h2 x (by simp);have sy:=h2 y (by simp);have i0:idx [x,y] 0=some x:=rfl;have i1:idx [x,y] 1=some y:=rfl;have hu:=specUs 4 y s.Write.Array sy;dsimp only;have hT:(if(s.Value.Kind != 4)=true then some (s.Value.Kind != 5) else some false)=some (!(s.Value.Kind==4||s.Value.Kind==5)):=by
   unfold bne;cases s.Value.Kind==4 <;> rfl
  simp only[oP,oB,hT,oS];cases (s.Value.Kind==4||s.Value.Kind==5) with
  | false=>rfl
  | true=>
   simp only[bT,bF,if_false,i0,i1,oS,cv];by_cases k3:x.Kind=3
   ·have hx:=AV.of (zB5 sx k3).2;have e3':(x.Kind==3)=true:=by simpa using k3
    simp only[e3',if_true,specAcS x.Read s.Write hx,hu,oS,cv];cases acB x.Read s.Write <;> rfl
   ·have e3':(x.Kind==3)=false:=by simpa using k3
    simp only[e3',bF,if_false,fb];rfl
def namF(P:zC)(z:zN):Str:=if redB (stI P z) then(stI P z).Write.Array else⟨[]⟩
theorem zOm{P:zC}(hb:BG P)(hv:validP P=true):∀(j i:Nat) (o:List Str),i+j=(progI P).length->o.length=i->pQ P (progI P) o (i:Int)=some (o++((progI P).drop i).map (namF P)):=by
 have aJ:=(uV hv).2.2.2;intro j
 induction j with
 | zero=>
  intro i o hi ho;rw[pQ];have:¬((i:Int)<((progI P).length:Int)):=by omega
  simp only[this,dF,bF,if_false,oP,id];rw[dN.2 (by omega)];simp
 | succ j ih=>
  intro i o hi ho;rw[pQ];have ax:i<(progI P).length:=by omega
  have hc:((i:Int)<((progI P).length:Int)):=by omega
  have hz:=zFX hb hv (gM ax);obtain⟨d,hd⟩:=hz.st;rw[gC ax,cL];simp only[hc,dT,if_true,yO ax,hz.idxP,hz.idxS,specRed _ hd,oB,oS,oP];have en:(if redB (stI P (progI P)[i])=true then some (stI P (progI P)[i]).Write.Array else some (⟨[]⟩:Str))=some (namF P (progI P)[i]):=by
   unfold namF;cases redB (stI P (progI P)[i]) <;> rfl
  rw[en,wD (by omega)];simp only[oS,qL (show (o.length+[namF P (progI P)[i]].length)*16<=140737488355328 by simp;omega)];rw[ih (i+1) _ (by omega) (by rw[lA];simp;omega),cr];rfl
instance zLs(r:zO):Tot (dP r) (0<=r.p/\r.p<=30000000) (λφ=>∀a s,SG 1000 a->r.p<=s.p->s.p<=r.p+4000000->φ (a,s)):=⟨by
 rintro⟨h0,h1⟩ φ hk
 unfold dP
 refine Ok.call (zA8 r _) ⟨by decide,h0,by omega⟩ λy s g1 g2=>?_
 have hy:y.l.length<=1000:=by
  revert g1 y
  decide
 refine Ok.cat (by simp;omega) λt _ ht=>?_
 simp only[cy,cK] at ht
 refine Ok.call (zC7 t) (by omega) λp b hp=>?_
 refine Ok.bind (φ:=λo=>r.p<=o.2.p/\o.2.p<=r.p+2) ?_ ?_
 ·exact Ok.ite (λ_=>Ok.call (dV s 3) ⟨by omega,by omega⟩ λy u k1 k2 k3=>Ok.pure ⟨by dsimp only;omega,by dsimp only;omega⟩) λ_=>Ok.pure ⟨by dsimp only;omega,by dsimp only;omega⟩
 rintro⟨z,u⟩ ⟨g3,g4⟩
 dsimp only at g3 g4 ⊢
 refine Ok.ite (λ_=>Ok.pure (hk _ _ hp g3 (by omega))) λ_=>Ok.call (zMX u) ⟨by omega,by omega⟩ λa v g5 g6 g7=>Ok.pure (hk _ v g5 (by omega) (by omega))⟩
end Go.LN
