/- Helper of the proof (see the last text). -/
import Derived.Test.YtcmjkmdecmabaaaGreatVB1
import Derived.Test.YtcmjkmdecmabaaaGreatQZ
set_option linter.unusedVariables false
set_option linter.unusedSimpArgs false
namespace Go.LN
theorem zAd{α:Type}{l:List α}{f:Int->List α->Option (List α)}(step:∀(i:Nat) (h:i<l.length) (o:List α),o.length=i->f (i:Int) o=f ((i+1:Nat):Int) (o++[l[i]]))(fin:∀o,f (l.length:Int) o=some o):f 0 []=some l:=by
 have key:∀j i,i+j=l.length->f (i:Int) (l.take i)=some l:=by
  intro j
  induction j with
  | zero=>
   intro i hi;rw[show i=l.length by omega,fin,dj (cW _)]
  | succ j ih=>
   intro i hi;have aK:i<l.length:=by omega
   have:=ih (i+1) (by omega);rw[f2,cd aK,Option.toList_some] at this;rw[step i aK _ (by rw[ci];omega)];exact this
 exact key _ 0 (cy _)
theorem copyExpr:∀(m:Nat) (e:zH),BE m e->oZ e=some e
 | m,e,h=>by
  obtain⟨h1,h2,h3⟩:=h.own
  rw[oZ]
  have hl:=zAd (l:=e.Kids) (f:=λi o=>tL e i o) (λi hi o ho=>by
   show tL e (i:Int) o=_
   rw[tL]
   have k1:((i:Int)<(e.Kids.length:Int)):=by omega
   obtain⟨m',hm,hm'⟩:=h.kid (gM hi)
   have happ:app 112 o [e.Kids[i]]=some (o++[e.Kids[i]]):=qJ (by simp;omega)
   have hr:=copyExpr m' e.Kids[i] hm'
   simp only[k1,dT,if_true,xA hi,oB,oS,same,hr,happ]
   rw[uF (by omega)]) (λo=>by
   show tL e (e.Kids.length:Int) o=_
   rw[tL];simp)
  simp only[specCopyAff _ h1,specCopyAcc _ h2,oB,oS,same]
  rw[show tL e 0 []=some e.Kids from hl]
  clear hl h h1 h2 h3
  cases e;rfl
theorem copyStmt(s:zI)(h:BS s):eV s=some s:=by
 obtain⟨h1,m,h2⟩:=h;unfold eV;rw[specCopyAcc _ h1,copyExpr m _ h2];rfl
theorem copyNest(nest:List zG)(h:BN nest):jK nest=some nest:=by
 obtain⟨h1,h2⟩:=h;unfold jK;have hl:=zAd (l:=nest) (f:=λi o=>sE nest o i) (λi hi o ho=>by
  show sE nest o (i:Int)=_;rw[sE];have k1:((i:Int)<(nest.length:Int)):=by omega
  obtain⟨⟨q1,q2⟩,q3,q4⟩:=h2 _ (gM hi);have happ:app 48 o [nest[i]]=some (o++[nest[i]]):=qJ (by simp;omega);have hlo:=zAd (l:=nest[i].Lo) (f:=λk o=>qQ nest (i:Int) k o) (λk hk o ho=>by
   show qQ nest (i:Int) (k:Int) o=_;rw[qQ];have k2:((k:Int)<(nest[i].Lo.length:Int)):=by omega
   have hp:app 32 o [nest[i].Lo[k]]=some (o++[nest[i].Lo[k]]):=qJ (by simp;omega);have ha:=q2 _ (gM hk);have hpn:app 8 ([]:List Int) nest[i].Lo[k].Coefs=some nest[i].Lo[k].Coefs:=zAq _ (by unfold BA at ha;omega);simp only[xA hi,k2,dT,if_true,xA hk,oB,oS,hpn,hp];rw[uF (by omega)]) (λo=>by
   show qQ nest (i:Int) (nest[i].Lo.length:Int) o=_;rw[qQ];simp[xA hi])
  have hhi:=zAd (l:=nest[i].Hi) (f:=λk o=>qR nest (i:Int) k o) (λk hk o ho=>by
   show qR nest (i:Int) (k:Int) o=_;rw[qR];have k2:((k:Int)<(nest[i].Hi.length:Int)):=by omega
   have hp:app 32 o [nest[i].Hi[k]]=some (o++[nest[i].Hi[k]]):=qJ (by simp;omega);have ha:=q4 _ (gM hk);have hpn:app 8 ([]:List Int) nest[i].Hi[k].Coefs=some nest[i].Hi[k].Coefs:=zAq _ (by unfold BA at ha;omega);simp only[xA hi,k2,dT,if_true,xA hk,oB,oS,hpn,hp];rw[uF (by omega)]) (λo=>by
   show qR nest (i:Int) (nest[i].Hi.length:Int) o=_;rw[qR];simp[xA hi])
  simp only[k1,dT,if_true,oB,oS,hlo,hhi,happ];rw[uF (by omega)]) (λo=>by
  show sE nest o (nest.length:Int)=_;rw[sE];simp)
 rw[hl];rfl
theorem copyProg(P:zC)(h:BG P):qK P=some P:=by
 obtain⟨⟨h1,h1'⟩,h2,h3⟩:=h;unfold qK;have ha:=zAd (l:=P.Arrays) (f:=λi o=>qS P i o) (λi hi o ho=>by
  show qS P (i:Int) o=_;rw[qS];have k1:((i:Int)<(P.Arrays.length:Int)):=by omega
  have hd:=h1' _ (gM hi);have happ:app 40 o [P.Arrays[i]]=some (o++[P.Arrays[i]]):=qJ (by simp;omega);have hpn:app 8 ([]:List Int) P.Arrays[i].Dims=some P.Arrays[i].Dims:=zAq _ (by omega);simp only[k1,dT,if_true,xA hi,oB,oS,hpn,happ];rw[uF (by omega)]) (λo=>by
  show qS P (P.Arrays.length:Int) o=_;rw[qS];simp)
 have hp:=zAd (l:=P.Parts) (f:=λi o=>sF P i o) (λi hi o ho=>by
  show sF P (i:Int) o=_;rw[sF];have k1:((i:Int)<(P.Parts.length:Int)):=by omega
  obtain⟨b1,b2,b3⟩:=h3 _ (gM hi);have happ:app 48 o [P.Parts[i]]=some (o++[P.Parts[i]]):=qJ (by simp;omega);have hb:=zAd (l:=P.Parts[i].Body) (f:=λk o=>qT P (i:Int) k o) (λk hk o ho=>by
   show qT P (i:Int) (k:Int) o=_;rw[qT];have k2:((k:Int)<(P.Parts[i].Body.length:Int)):=by omega
   have hp:app 152 o [P.Parts[i].Body[k]]=some (o++[P.Parts[i].Body[k]]):=qJ (by simp;omega);simp only[xA hi,k2,dT,if_true,xA hk,oB,oS,copyStmt _ (b3 _ (gM hk)),hp];rw[uF (by omega)]) (λo=>by
   show qT P (i:Int) (P.Parts[i].Body.length:Int) o=_;rw[qT];simp[xA hi])
  simp only[k1,dT,if_true,xA hi,oB,oS,copyNest _ b1,hb,happ];rw[uF (by omega)]) (λo=>by
  show sF P (P.Parts.length:Int) o=_;rw[sF];simp)
 rw[ha,hp];rfl
end Go.LN
namespace Go.LN
theorem BE.up1:∀{n:Nat}{e:zH},BE n e->BE (n+1) e
 | 0,e,⟨h1,h2,h3⟩=>⟨h1,h2,by rw[h3];simp,by rw[h3];intro k hk;cases hk⟩
 | n+1,e,⟨h1,h2,h3,h4⟩=>⟨h1,h2,h3,λk hk=>BE.up1 (h4 k hk)⟩
theorem BE.up{n m:Nat}{e:zH}(h:BE n e)(hm:n<=m):BE m e:=by
 obtain⟨k,rfl⟩:=Nat.exists_eq_add_of_le hm
 induction k with
 | zero=>exact h
 | succ k ih=>exact BE.up1 (ih (by omega))
def QL(q:Nat)(l:List zA):Prop:=l.length<=q/\∀a∈l,BA a
def QN(q:Nat)(nest:List zG):Prop:=nest.length<=2000/\∀x∈nest,QL q x.Lo/\QL q x.Hi
def QS(q:Nat)(s:zI):Prop:=QL q s.Write.Subs/\BA s.Value.Index/\BL s.Value.Read.Subs/\s.Value.Kids.length<=q/\∀k∈s.Value.Kids,BE 6 k
theorem QL.up{q r:Nat}{l:List zA}(h:QL q l)(hq:q<=r):QL r l:=⟨de h.1 hq,h.2⟩
theorem QL.bl{q:Nat}{l:List zA}(h:QL q l)(hq:q<=1000):BL l:=⟨de h.1 hq,h.2⟩
theorem QL.app{q k:Nat}{l m:List zA}(h:QL q l)(hm:QL k m):QL (q+k) (l++m):=by
 refine⟨by rw[lA];exact Nat.add_le_add h.1 hm.1,λa ha=>?_⟩;rcases cX.1 ha with ha|ha
 ·exact h.2 a ha
 ·exact hm.2 a ha
theorem QL.nil{q:Nat}:QL q []:=⟨et _,λ_ h=>by cases h⟩
theorem QL.one{a:zA}(h:BA a):QL 1 [a]:=⟨cW _,λ_ h'=>cF.1 h' ▸ h⟩
theorem QL.two{a b:zA}(h:BA a)(h2:BA b):QL 2 [a,b]:=QL.app (QL.one h) (QL.one h2)
theorem QN.up{q r:Nat}{l:List zG}(h:QN q l)(hq:q<=r):QN r l:=⟨h.1,λx hx=>⟨(h.2 x hx).1.up hq,(h.2 x hx).2.up hq⟩⟩
theorem QN.bn{q:Nat}{l:List zG}(h:QN q l)(hq:q<=1000):BN l:=⟨by have:=h.1;omega,λx hx=>⟨(h.2 x hx).1.bl hq,(h.2 x hx).2.bl hq⟩⟩
theorem QN.set{q:Nat}{l:List zG}(h:QN q l){x:zG}(hx:QL q x.Lo/\QL q x.Hi)(k:Nat):QN q (l.set k x):=⟨by rw[cP];exact h.1,zE1 h.2 hx k⟩
theorem QS.up{q r:Nat}{s:zI}(h:QS q s)(hq:q<=r):QS r s:=⟨h.1.up hq,h.2.1,h.2.2.1,de h.2.2.2.1 hq,h.2.2.2.2⟩
theorem QS.bs{q:Nat}{s:zI}(h:QS q s)(hq:q<=1000):BS s:=⟨h.1.bl hq,7,h.2.1,h.2.2.1,by have:=h.2.2.2.1;omega,h.2.2.2.2⟩
theorem zJg{a:zA}(h:a.Coefs.length=4):BA a:=by unfold BA;omega
theorem zME(q:Nat):∀(j:Nat) (out:List zG),5<=out.length+j->1<=out.length->QN q out->Ok (oA out) (QN q)
 | 0,out,hj,h1,h=>by
  rw[oA]
  refine Ok.ite_dec (λhc=>absurd hc (by omega)) λ_=>Ok.pure h
 | j+1,out,hj,h1,h=>by
  rw[oA]
  refine Ok.ite_dec (λhc=>?_) λ_=>Ok.pure h
  refine Ok.idx (by omega) (by omega) λx hx _=>Ok.app (by simp;omega) ?_
  refine zME q j _ (by rw[lA];simp;omega) (by rw[lA];omega) ⟨by rw[lA];simp;omega,λy hy=>?_⟩
  rcases cX.1 hy with hy|hy
  ·exact h.2 y hy
  ·rw[cF.1 hy];exact h.2 x hx
theorem mut2(q:Nat)(hq:q<=300)(r:zQ)(nest:List zG)(h:QN q nest)(h0:0<=r.p)(h1:r.p<=900000000):Ok (kX r nest) (λy=>QN (q+2) y.1/\0<=y.2.p/\y.2.p<=r.p+2):=by
 have hup:=h.up (show q<=q+2 by omega);unfold kX;rw[copyNest nest (h.bn (by omega))];refine Ok.bind_some (Ok.ite_beq (λ_=>Ok.pure ⟨hup,h0,by dsimp only;omega⟩) λhne=>?_);have hpos:0<nest.length:=by omega
 have bf:=h.1;have hW:W ((nest.length:Int) - 1)=((nest.length - 1:Nat):Int):=by rw[rE (by omega) (by omega)];omega
 refine Ok.call (zA3 r 40) ⟨h0,by omega⟩ λy2 s g1 g2 g3=>?_;refine Ok.ite_beq (λ_=>?_) λ_=>Ok.ite_beq (λ_=>?_) λ_=>Ok.ite_beq (λ_=>?_) λ_=>Ok.ite_beq (λ_=>?_) λ_=>Ok.ite_beq (λ_=>?_) λ_=>?_
 ·refine Ok.idx (by omega) (by omega) λx hx _=>Ok.call (zA3 s 2) ⟨by omega,by omega⟩ λy5 s2 k1 k2 k3=>Ok.call (zE2 y5) ⟨k1,by omega⟩ λa c1 c2=>?_;have hxx:=h.2 x hx;refine Ok.app (by have:=hxx.1.1;simp;omega) (Ok.pure ⟨QN.set (x:=⟨x.Lo++[a],x.Hi⟩) hup ⟨(hxx.1.app (QL.one (zJg c1))).up (show q+1<=q+2 by omega),hxx.2.up (show q<=q+2 by omega)⟩ _,by dsimp only;omega,by dsimp only;omega⟩)
 ·rw[hW];refine Ok.idx (by omega) (by omega) λx hx _=>?_;have hxx:=h.2 x hx;exact Ok.pure ⟨QN.set (x:=⟨x.Lo,[]⟩) hup ⟨hxx.1.up (show q<=q+2 by omega),QL.nil⟩ _,by dsimp only;omega,by dsimp only;omega⟩
 ·rw[hW];refine Ok.idx (by omega) (by omega) λx hx _=>Ok.call (gU 1) trivial (Ok.call (gU 2) trivial ?_);have hxx:=h.2 x hx;exact Ok.app (by have:=hxx.2.1;simp;omega) (Ok.pure ⟨QN.set (x:=⟨x.Lo,x.Hi++[⟨[0,0,0,0],1⟩,⟨[0,0,0,0],2⟩]⟩) hup ⟨hxx.1.up (show q<=q+2 by omega),hxx.2.app (QL.two (zJg rfl) (zJg rfl))⟩ _,by dsimp only;omega,by dsimp only;omega⟩)
 ·refine Ok.call (gU 99) trivial (Ok.idx (by omega) (by omega) λx hx _=>?_);have hxx:=h.2 x hx;exact Ok.pure ⟨QN.set (x:=⟨x.Lo,[⟨[0,0,0,0],99⟩]⟩) hup ⟨hxx.1.up (show q<=q+2 by omega),(QL.one (zJg rfl)).up (show 1<=q+2 by omega)⟩ _,by dsimp only;omega,by dsimp only;omega⟩
 ·refine Ok.bind (zME q 5 nest (by omega) hpos h) λz hz=>Ok.pure ⟨hz.up (by omega),by dsimp only;omega,by dsimp only;omega⟩
 ·exact Ok.pure ⟨hup,by dsimp only;omega,by dsimp only;omega⟩
theorem mut3(q:Nat)(hq:q<=300)(r:zQ)(s:zI)(h:QS q s)(h0:0<=r.p)(h1:r.p<=900000000):Ok (qL r s) (λy=>QS (q+2) y.1/\0<=y.2.p/\y.2.p<=r.p+2):=by
 obtain⟨w1,w2,w3,w4,w5⟩:=h.up (show q<=q+2 by omega);obtain⟨v1,_,_,v4,_⟩:=id h;have v11:=v1.1;unfold qL;rw[copyStmt s (h.bs (by omega))];refine Ok.bind_some (Ok.call (zA3 r 40) ⟨h0,by omega⟩ λy2 y3 g1 g2 g3=>?_);have fin:∀(o:Str×List zA×Int×Int×List zH×zQ),(QL (q+2) o.2.1/\(o.2.2.2.2.1.length<=q+2/\∀k∈o.2.2.2.2.1,BE 6 k)/\0<=o.2.2.2.2.2.p/\o.2.2.2.2.2.p<=r.p+2)->QS (q+2) (zI.mk (zM.mk o.1 o.2.1) (zH.mk o.2.2.1 o.2.2.2.1 s.Value.Index s.Value.Read o.2.2.2.2.1))/\0<=o.2.2.2.2.2.p/\o.2.2.2.2.2.p<=r.p+2:=
  λo ⟨a,b,c⟩=>⟨⟨a,w2,w3,b.1,b.2⟩,c⟩
 refine Ok.bind (φ:=λo:Str×List zA×Int×Int×List zH×zQ=>QL (q+2) o.2.1/\(o.2.2.2.2.1.length<=q+2/\∀k∈o.2.2.2.2.1,BE 6 k)/\0<=o.2.2.2.2.2.p/\o.2.2.2.2.2.p<=r.p+2) ?_ λo ho=>by
  obtain⟨o1,o2,o3,o4,o5,o6⟩:=o;exact Ok.pure (fin _ ho)
 refine Ok.ite_beq (λ_=>?_) λ_=>?_
 ·exact Ok.call (zB6 y3 _) ⟨by decide,by omega,by omega⟩ λz t _ k3=>Ok.pure ⟨w1,⟨w4,w5⟩,by dsimp only;omega,by dsimp only;omega⟩
 refine Ok.bind (φ:=λo:List zA×Int×Int×List zH×zQ=>QL (q+2) o.1/\(o.2.2.2.1.length<=q+2/\∀k∈o.2.2.2.1,BE 6 k)/\0<=o.2.2.2.2.p/\o.2.2.2.2.p<=r.p+2) ?_ λo ho=>by
  obtain⟨o2,o3,o4,o5,o6⟩:=o;exact Ok.pure ho
 refine Ok.ite_beq (λ_=>?_) λ_=>?_
 ·exact Ok.call (zE2 3) (by omega) λa c1 c2=>Ok.call zAz trivial (Ok.app (by simp;omega) (Ok.pure ⟨v1.app (QL.two (zJg c1) (zJg rfl)),⟨w4,w5⟩,by dsimp only;omega,by dsimp only;omega⟩))
 refine Ok.bind (φ:=λo:Int×Int×List zH×zQ=>(o.2.2.1.length<=q+2/\∀k∈o.2.2.1,BE 6 k)/\0<=o.2.2.2.p/\o.2.2.2.p<=r.p+2) ?_ λo ho=>by
  obtain⟨o3,o4,o5,o6⟩:=o;exact Ok.pure ⟨w1,ho⟩
 refine Ok.ite_beq (λ_=>?_) λ_=>?_
 ·exact Ok.call (uO y3 _) ⟨by decide,by omega,by omega,by decide⟩ λz t _ _ k3=>Ok.pure ⟨⟨w4,w5⟩,by dsimp only;omega,by dsimp only;omega⟩
 refine Ok.bind (φ:=λo:Int×List zH×zQ=>(o.2.1.length<=q+2/\∀k∈o.2.1,BE 6 k)/\0<=o.2.2.p/\o.2.2.p<=r.p+2) ?_ λo ho=>by
  obtain⟨o4,o5,o6⟩:=o;exact Ok.pure ho
 refine Ok.ite_beq (λ_=>?_) λ_=>?_
 ·exact Ok.call (uO y3 _) ⟨by decide,by omega,by omega,by decide⟩ λz t _ _ k3=>Ok.pure ⟨⟨w4,w5⟩,by dsimp only;omega,by dsimp only;omega⟩
 refine Ok.bind (φ:=λo:List zH=>o.length<=q+2/\∀k∈o,BE 6 k) ?_ λo ho=>Ok.pure ⟨ho,by dsimp only;omega,by dsimp only;omega⟩;refine Ok.ite_beq (λ_=>?_) λ_=>Ok.pure ⟨w4,w5⟩;refine Ok.app (by show (_+1)*112<=_;omega) (Ok.pure ⟨by show (_++_:List zH).length<=_;rw[lA];show _+1<=_;omega,λk hk=>?_⟩);rcases cX.1 hk with hk|hk
 ·exact w5 k hk
 ·rw[cF.1 hk];exact BE.up (n:=0) ⟨et _,⟨et _,λ_ h=>by cases h⟩,rfl⟩ (by omega)
end Go.LN
namespace Go.LN
def DX(x:zF):Prop:=QN 100 x.Nest/\x.Body.length<=1000/\∀s∈x.Body,QS 100 s
def DP(P:zC):Prop:=(P.Arrays.length<=1000/\∀a∈P.Arrays,a.Dims.length<=1000)/\P.Parts.length<=1000/\∀x∈P.Parts,DX x
theorem DX.bp{x:zF}(h:DX x):BP x:=⟨h.1.bn (by omega),by have:=h.2.1;omega,λs hs=>(h.2.2 s hs).bs (by omega)⟩
theorem DP.bg{P:zC}(h:DP P):BG P:=⟨⟨by have:=h.1.1;omega,h.1.2⟩,by have:=h.2.1;omega,λx hx=>(h.2.2 x hx).bp⟩
def PB(l:List zF):Prop:=l.length<=1000/\∀x∈l,BP x
theorem PB.set{l:List zF}(h:PB l){x:zF}(hx:BP x)(k:Nat):PB (l.set k x):=⟨by rw[cP];exact h.1,zE1 h.2 hx k⟩
def AR(l:List zD):Prop:=l.length<=2000/\∀a∈l,a.Dims.length<=1000
def RD(s:zQ):Prop:=0<=s.p/\s.p<=700001000
theorem mut4(r:zQ)(P:zC)(h:DP P)(h0:0<=r.p)(h1:r.p<=700000000):Ok (nU r P) (λy=>(BG y.1/\AR y.1.Arrays)/\RD y.2):=by
 obtain⟨⟨a1,a2⟩,p1,p2⟩:=id h;have hA:AR P.Arrays:=⟨by omega,a2⟩;have hP:PB P.Parts:=⟨p1,λx hx=>(p2 x hx).bp⟩;have hW:0<P.Parts.length->W ((P.Parts.length:Int) - 1)=((P.Parts.length - 1:Nat):Int):=λhp=>by rw[rE (by omega) (by omega)];omega
 unfold nU;rw[copyProg P h.bg];refine Ok.bind_some (Ok.call (zA3 r 60) ⟨h0,by omega⟩ λy2 y3 g1 g2 g3=>?_);have hR:RD y3:=⟨by omega,by omega⟩;refine Ok.bind (φ:=λo:List zD×List zF×zQ=>AR o.1/\PB o.2.1/\RD o.2.2) ?_ λo ho=>by
  obtain⟨o1,o2,o3⟩:=o;exact Ok.pure ⟨⟨⟨⟨by have:=ho.1.1;dsimp only at this ⊢;omega,ho.1.2⟩,by have:=ho.2.1.1;dsimp only at this ⊢;omega,ho.2.1.2⟩,ho.1⟩,ho.2.2⟩
 refine Ok.ite_beq (λ_=>?_) λ_=>?_
 ·refine Ok.call (zB6 y3 _) ⟨by decide,by omega,by omega⟩ λz t _ k3=>Ok.call (uO t _) ⟨by decide,by omega,by omega,by decide⟩ λz2 t2 _ _ k4=>Ok.app (by show (_+1)*40<=_;omega) (Ok.pure ⟨⟨by show (_++_:List zD).length<=_;rw[lA];show _+1<=_;omega,λa ha=>?_⟩,hP,⟨by dsimp only;omega,by dsimp only;omega⟩⟩);rcases cX.1 ha with ha|ha
  ·exact a2 a ha
  ·rw[cF.1 ha];show 1<=1000;omega
 refine Ok.bind (φ:=λo:List zD×List zF×zQ=>AR o.1/\PB o.2.1/\RD o.2.2) ?_ λo ho=>by
  obtain⟨o1,o2,o3⟩:=o;exact Ok.pure ho
 refine Ok.ite_beq (λ_=>?_) λ_=>?_
 ·refine Ok.bind (φ:=λo:List zD×zQ=>AR o.1/\RD o.2) ?_ λo ho=>by
   obtain⟨o1,o3⟩:=o;exact Ok.pure ⟨ho.1,hP,ho.2⟩
  refine Ok.ite_dec (λhc=>?_) λ_=>Ok.pure ⟨hA,hR⟩;refine Ok.call (uO y3 _) ⟨by decide,by omega,by omega,by decide⟩ λz t _ _ k3=>Ok.idx (by omega) (by omega) λx hx _=>Ok.bind_pure (Ok.pure ⟨⟨by show (List.set _ _ _).length<=_;rw[cP];exact hA.1,zE1 hA.2 (show ([z]:List Int).length<=1000 by simp) _⟩,⟨by dsimp only;omega,by dsimp only;omega⟩⟩)
 refine Ok.bind (φ:=λo:List zF×zQ=>PB o.1/\RD o.2) ?_ λo ho=>by
  obtain⟨o1,o3⟩:=o;exact Ok.pure ⟨hA,ho⟩
 refine Ok.ite_beq (λ_=>?_) λ_=>?_
 ·refine Ok.bind (φ:=λo:List zF×zQ=>PB o.1/\RD o.2) ?_ λo ho=>by
   obtain⟨o1,o3⟩:=o;exact Ok.pure ho
  refine Ok.ite_dec (λhc=>?_) λ_=>Ok.pure ⟨hP,hR⟩;refine Ok.idx (by omega) (by omega) λx hx _=>?_;refine Ok.bind (mut2 100 (by omega) y3 x.Nest (p2 x hx).1 (by omega) (by omega)) λq1 k1=>?_;obtain⟨n1,s1⟩:=q1;obtain⟨c1,c2,c3⟩:=k1;refine Ok.bind (mut2 (100+2) (by omega) s1 n1 c1 c2 (by dsimp only at c3;omega)) λq2 k2=>?_;obtain⟨n2,s2⟩:=q2;obtain⟨d1,d2,d3⟩:=k2;refine Ok.bind (mut2 (100+2+2) (by omega) s2 n2 d1 d2 (by dsimp only at c3 d3;omega)) λq3 k3=>?_;obtain⟨n,s⟩:=q3;have hn:=k3.1;refine Ok.idx (by omega) (by omega) λx7 hx7 _=>Ok.bind_pure (Ok.pure ⟨hP.set (x:=⟨n,x7.Body⟩) ⟨hn.bn (by omega),(p2 x7 hx7).bp.2.1,(p2 x7 hx7).bp.2.2⟩ _,⟨k3.2.1,by have:=k3.2.2;dsimp only at this c3 d3 ⊢;omega⟩⟩)
 refine Ok.bind (φ:=λo:List zF×zQ=>PB o.1/\RD o.2) ?_ λo ho=>by
  obtain⟨o1,o3⟩:=o;exact Ok.pure ho
 refine Ok.ite_beq (λ_=>?_) λ_=>?_
 ·refine Ok.bind (φ:=λb=>b=true->0<P.Parts.length/\∀x,P.Parts[P.Parts.length - 1]?=some x->0<x.Body.length) ?_ λb hb=>?_
  ·refine Ok.ite_dec (λhc=>?_) λ_=>Ok.pure (λh=>by cases h);have hp:0<P.Parts.length:=by omega
   rw[hW hp];refine Ok.idx (by omega) (by omega) λx hx he=>Ok.pure λhd=>⟨hp,λx' hx'=>?_⟩;rw[iN] at he;rw[he] at hx';cases hx'
   have:=of_decide_eq_true hd;omega
  ·refine Ok.bind (φ:=λo:List zF×zQ=>PB o.1/\RD o.2) ?_ λo ho=>by
    obtain⟨o1,o3⟩:=o;exact Ok.pure ho
   refine Ok.ite (λhc=>?_) λ_=>Ok.pure ⟨hP,hR⟩;obtain⟨hp,hbody⟩:=hb hc;rw[hW hp];refine Ok.idx (by omega) (by omega) λx hx he=>?_;rw[iN] at he;have hb0:=hbody x he;have hdx:=p2 x hx;refine Ok.idx (by omega) (by omega) λx0 hx0 _=>?_;refine Ok.bind (mut3 100 (by omega) y3 x0 (hdx.2.2 x0 hx0) (by omega) (by omega)) λq1 k1=>?_;obtain⟨n1,s1⟩:=q1;obtain⟨c1,c2,c3⟩:=k1;refine Ok.bind (mut3 (100+2) (by omega) s1 n1 c1 c2 (by dsimp only at c3;omega)) λq2 k2=>?_;obtain⟨n2,s2⟩:=q2;obtain⟨d1,d2,d3⟩:=k2;refine Ok.bind (mut3 (100+2+2) (by omega) s2 n2 d1 d2 (by dsimp only at c3 d3;omega)) λq3 k3=>?_;obtain⟨n,s⟩:=q3;have hn:=k3.1;refine Ok.bind_pure (Ok.pure ⟨hP.set (x:=⟨x.Nest,x.Body.set 0 n⟩) ⟨hdx.bp.1,by rw[cP];exact hdx.bp.2.1,zE1 hdx.bp.2.2 (hn.bs (by omega)) _⟩ _,⟨k3.2.1,by have:=k3.2.2;dsimp only at this c3 d3 ⊢;omega⟩⟩)
 refine Ok.bind (φ:=λo:List zF=>PB o) ?_ λo ho=>Ok.pure ⟨ho,hR⟩;refine Ok.ite_beq (λ_=>?_) λ_=>Ok.pure hP;refine Ok.bind (φ:=λo:List zF=>PB o) ?_ λo ho=>Ok.pure ho;refine Ok.ite_dec (λhc=>?_) λ_=>Ok.pure hP;have hp:0<P.Parts.length:=by omega
 rw[hW hp];refine Ok.idx (by omega) (by omega) λx hx he=>Ok.bind_pure (Ok.pure (hP.set (x:=⟨x.Nest,[]⟩) ⟨(p2 x hx).bp.1,by show 0<=100000;omega,λ_ h=>by cases h⟩ _))
theorem SE.be:∀{n:Nat}{e:zH},SE n e->BE n e
 | 0,e,⟨h1,h2,h3⟩=>⟨by have:=h1.1;unfold BA;omega,⟨by have:=h2.2.1;omega,λa ha=>by have:=(h2.2.2 a ha).1;unfold BA;omega⟩,h3⟩
 | n+1,e,⟨h1,h2,h3,h4⟩=>⟨by have:=h1.1;unfold BA;omega,⟨by have:=h2.2.1;omega,λa ha=>by have:=(h2.2.2 a ha).1;unfold BA;omega⟩,by omega,λk hk=>SE.be (h4 k hk)⟩
theorem SS.qs{s:zI}(h:SS s):QS 100 s:=by
 obtain⟨h1,h2⟩:=h;have hb:=SE.be h2;exact⟨⟨h1.2.1,λa ha=>by have:=(h1.2.2 a ha).1;unfold BA;omega⟩,hb.1,hb.2.1,by have:=h2.2.2.1;omega,λk hk=>BE.up (n:=4) (m:=6) (hb.2.2.2 k hk) (by omega)⟩
theorem LL.ql{l:List zA}(h:LL l):QL 100 l:=⟨h.1,λa ha=>by have:=(h.2 a ha).1;unfold BA;omega⟩
theorem SG.dp{P:zC}(h:SG 1000 P):DP P:=by
 obtain⟨⟨h1,h2⟩,h3,h4⟩:=h;refine⟨⟨h1,λa ha=>by have:=(h2 a ha).2;omega⟩,h3,λx hx=>?_⟩;obtain⟨⟨k1,k2⟩,k3,k4⟩:=h4 x hx;exact⟨⟨by omega,λy hy=>⟨(k2 y hy).1.ql,(k2 y hy).2.ql⟩⟩,k3,λs hs=>(k4 s hs).qs⟩
end Go.LN
namespace Go.LN
theorem zN4{A:List zD}{x:zF}(h:partB A x=true):(nestPts x.Nest).1=pts x.Nest []/\nestB x.Nest=true/\(pts x.Nest []).length<=120:=by
 simp only[partB,bA] at h;have h1:=h.1.1;unfold nestPts at h1 ⊢;split at h1
 ·rename_i hc;rw[if_pos hc];exact⟨rfl,hc.1,hc.2.2⟩
 ·cases h1
theorem zLA(P:zC)(i:Nat)(hi:i<P.Parts.length)(y:List (List Int))(k:Nat)(hk:k<y.length)(hq:y[k].length<=4)(hb:P.Parts[i].Body.length<=4):
 ∀(j s:Nat) (o:List zR),s+j=P.Parts[i].Body.length->o.length+j<=1000000->vX P (i:Int) y (k:Int) o (s:Int)=some (o++instR (i:Int) y[k] s j):=by
 intro j
 induction j with
 | zero=>
  intro s o hs ho
  rw[vX]
  have:¬((s:Int)<(P.Parts[i].Body.length:Int)):=by omega
  simp only[xA hi,this,dF,bF,if_false,oB,oS,oP]
  simp[instR]
 | succ j ih=>
  intro s o hs ho
  rw[vX]
  have hc:((s:Int)<(P.Parts[i].Body.length:Int)):=by omega
  have hpn:app 8 ([]:List Int) y[k]=some y[k]:=zAq _ (by omega)
  have happ:app 40 o [(⟨(i:Int),(s:Int),y[k]⟩:zR)]=some (o++[⟨(i:Int),(s:Int),y[k]⟩]):=qJ (by simp;omega)
  simp only[xA hi,hc,dT,if_true,xA hk,oB,oS,hpn,happ]
  rw[uF (by omega),ih (s+1) _ (by omega) (by simp;omega),cm]
  simp only[instR,dk,cG,fi]
theorem zLB(P:zC)(i:Nat)(hi:i<P.Parts.length)(y:List (List Int))(hy:y.length<=120)(hq:∀q∈y,q.length<=4)(hb:P.Parts[i].Body.length<=4):
 ∀(j k:Nat) (o:List zR),k+j=y.length->o.length+4*j<=1000000->vZ P (i:Int) y o (k:Int)=some (o++(y.drop k).flatMap λq=>instR (i:Int) q 0 P.Parts[i].Body.length):=by
 intro j
 induction j with
 | zero=>
  intro k o hk ho
  rw[vZ]
  have:¬((k:Int)<(y.length:Int)):=by omega
  simp only[this,dF,bF,if_false]
  rw[show y.drop k=[] from dN.2 (by omega)]
  simp
 | succ j ih=>
  intro k o hk ho
  rw[vZ]
  have aK:k<y.length:=by omega
  have hc:((k:Int)<(y.length:Int)):=by omega
  have h3:=zLA P i hi y k aK (hq _ (gM aK)) hb P.Parts[i].Body.length 0 o (cy _) (by omega)
  rw[nZ] at h3
  simp only[hc,dT,if_true,oB,oS,h3]
  rw[uF (by omega),ih (k+1) _ (by omega) (by rw[lA,zHQ];omega),gC aK,cg,cm]
theorem zLC(P:zC)(hP:P.Parts.length<=4)(hb:∀i,i<P.Parts.length->partB P.Arrays (gP P i)=true):
 ∀(j i:Nat) (o:List zR),i+j=P.Parts.length->o.length<=480*i->uA P o (i:Int)=some (o++(List.range' i j).flatMap λ(i:Nat)=>partI (i:Int) (gP P i)):=by
 intro j
 induction j with
 | zero=>
  intro i o hi ho
  rw[uA]
  have:¬((i:Int)<(P.Parts.length:Int)):=by omega
  simp[this]
 | succ j ih=>
  intro i o hi ho
  rw[uA]
  have aK:i<P.Parts.length:=by omega
  have hc:((i:Int)<(P.Parts.length:Int)):=by omega
  have hg:gP P i=P.Parts[i]:=by simp[gP,aK]
  have hp:=hb i aK
  rw[hg] at hp
  obtain⟨p1,p2,p3⟩:=zN4 hp
  obtain⟨n1,n2⟩:=zIC p2
  have hpp:=hp
  simp only[partB,bA] at hpp
  obtain⟨_,q2,_⟩:=zBC hpp.1.2
  have hpts:=specPts P.Parts[i].Nest P.Parts[i].Nest [] [] n2 rfl (by simp) n1 (by simp)
  rw[cC,dj (by omega)] at hpts
  have h2:=zLB P i aK (pts P.Parts[i].Nest []) p3 (λq hq=>by have:=zKK _ _ q hq;simp at this;omega) q2 _ 0 o (cy _) (by omega)
  rw[nZ,cr] at h2
  simp only[hc,dT,if_true,xA aK,oB,oS,hpts,h2]
  have hI:((pts P.Parts[i].Nest []).flatMap λq=>instR (i:Int) q 0 P.Parts[i].Body.length)=partI (i:Int) P.Parts[i]:=by rw[partI,p1]
  have bH:=zIz (i:Int) hp
  rw[hI,uF (by omega),ih (i+1) _ (by omega) (by rw[lA];omega),dk,cg,hg,cm]
theorem gV{P:zC}(h:validP P=true):arrB P.Arrays=true/\P.Parts.length<=4/\(∀i,i<P.Parts.length->partB P.Arrays (gP P i)=true)/\(progI P).length<=120:=by
 simp only[validP,progB,bA,decide_eq_true_eq] at h;obtain⟨⟨⟨h1,h2⟩,h3⟩,h4⟩:=h;exact⟨h1,h2,λi hi=>ce.1 h3 i (ez.2 ⟨et _,by omega⟩),h4⟩
end Go.LN
namespace Go.LN
def DA(x:zD):Prop:=(∃d,x.Dims=[d]/\1<=d/\d<=6)∨∃d e,x.Dims=[d,e]/\(1<=d/\d<=6)/\1<=e/\e<=6
def GA(l:List zD):Prop:=l.length<=4/\(∀x∈l,DA x)/\l.Pairwise λx y=>x.Name.l ≠ y.Name.l
theorem mul36{d e:Int}(h1:1<=d)(h2:d<=6)(h3:1<=e)(h4:e<=6):1<=d*e/\d*e<=36:=by
 have:d=1∨d=2∨d=3∨d=4∨d=5∨d=6:=by omega
 rcases this with rfl|rfl|rfl|rfl|rfl|rfl <;> omega
theorem zPZ{x:zD}{d:Int}(h:x.Dims=[d])(h1:1<=d)(h2:d<=6):sizeF x=d:=by
 unfold sizeF;rw[h,szL,szL,Int.one_mul,rE (by omega) (by omega)]
theorem zP0{x:zD}{d e:Int}(h:x.Dims=[d,e])(h1:1<=d)(h2:d<=6)(h3:1<=e)(h4:e<=6):sizeF x=d*e:=by
 unfold sizeF;have:=mul36 h1 h2 h3 h4;rw[h,szL,szL,szL,Int.one_mul,rE (x:=d) (by omega) (by omega),rE (by omega) (by omega)]
theorem DA.size{x:zD}(h:DA x):1<=sizeF x/\sizeF x<=36:=by
 rcases h with⟨d,h,h1,h2⟩|⟨d,e,h,⟨h1,h2⟩,h3,h4⟩
 ·rw[zPZ h h1 h2];omega
 ·rw[zP0 h h1 h2 h3 h4];exact mul36 h1 h2 h3 h4
def nm(l:List zD)(i:Nat):Nat:=match (l.getD i ⟨⟨[]⟩,[]⟩).Name.l with|c::_=>c.toNat|[]=>0
end Go.LN
namespace Go.LN
end Go.LN
namespace Go.LN
theorem specInsts(P:zC)(hv:validP P=true):oF P=some (progI P):=by
 obtain⟨_,v2,v3,_⟩:=gV hv;have hl:=zLC P v2 v3 _ 0 [] (cy _) (by simp);rw[nZ,cC] at hl;simp only[oB,oS,oF,hl,oP,id];rfl
end Go.LN
namespace Go.LN
def c0(n:Int):zA:=⟨[0,0,0,0],n⟩
end Go.LN
namespace Go.LN
theorem zLD{P:zC}(h:BG P)(hv:validP P=true):RVa P.Arrays:=by
 simp only[validP,progB,bA] at hv;exact RVa.of h.1 hv.1.1.1
theorem zP1{p:List Int}(h:ptB p=true):p.length<=4:=by
 simp only[ptB,bA,decide_eq_true_eq] at h;exact h.1
end Go.LN
namespace Go.LN
end Go.LN
namespace Go.LN
theorem zLE:∀{k:Nat}{a v:Int},v∈rngK k a↔a<=v/\v<a+(k:Int)
 | 0,a,v=>by simp[rngK]
 | k+1,a,v=>by rw[rngK,cQ,zLE];omega
theorem zOZ{a b v:Int}:v∈rng a b↔a<=v/\v<b:=by
 unfold rng;rw[zLE];omega
def inP:List zG->List Int->List Int->Prop
 | [],_,[]=>True
 | l::ls,p,v::r=>(loF l p<=v/\v<hiF l p)/\inP ls (p++[v]) r
 | _,_,_=>False
theorem zMF:∀{ls:List zG}{p q:List Int},q∈pts ls p->∃r,q=p++r/\inP ls p r
 | [],p,q,h=>by
  rw[pts,cF] at h
  exact⟨[],by rw[h,cx],trivial⟩
 | l::ls,p,q,h=>by
  rw[pts,cD] at h
  obtain⟨v,hv,hq⟩:=h
  obtain⟨r,e,hr⟩:=zMF hq
  exact⟨v::r,by rw[e,cm];rfl,zOZ.1 hv,hr⟩
def Ch{α:Type}(R:α->α->Prop):List α->Prop
 | a::b::l=>R a b/\Ch R (b::l)
 | _=>True
theorem Ch.append{α:Type}{R:α->α->Prop}:∀{l m:List α},Ch R l->Ch R m->(∀a∈l,∀b∈m,R a b)->Ch R (l++m)
 | [],m,_,h2,_=>h2
 | [a],[],_,_,_=>trivial
 | [a],b::m,_,h2,h=>⟨h a (ck ..) b (ck ..),h2⟩
 | a::b::l,m,h1,h2,h=>⟨h1.1,Ch.append (l:=b::l) h1.2 h2 λx hx=>h x (cf _ hx)⟩
theorem Ch.flat{α β:Type}{R:β->β->Prop}{f:α->List β}:∀{l:List α},(∀x∈l,Ch R (f x))->(l.Pairwise λx y=>∀a∈f x,∀b∈f y,R a b)->Ch R (l.flatMap f)
 | [],_,_=>trivial
 | x::l,h1,h2=>by
  rw[cg]
  have h2':=List.pairwise_cons.1 h2
  refine Ch.append (h1 x (ck ..)) (Ch.flat (λy hy=>h1 y (cf _ hy)) h2'.2) λa ha b hb=>?_
  obtain⟨y,hy,hb⟩:=cD.1 hb
  exact h2'.1 y hy a ha b hb
theorem Ch.get{α:Type}{R:α->α->Prop}:∀{l:List α} (i:Nat) (h:i+1<l.length),Ch R l->R l[i] l[i+1]
 | a::b::l,0,_,hc=>hc.1
 | a::b::l,i+1,h,hc=>Ch.get (l:=b::l) i (by simpa using h) hc.2
 | [a],i,h,_=>by simp at h
 | [],i,h,_=>by simp at h
theorem zM8{k:Int}{q:List Int}{i j:Nat}{z:zR}(h:z∈instR k q i j):z.Part=k/\z.Point=q/\∃s:Nat,z.Stmt=(s:Int)/\s<i+j:=by
 unfold instR at h;obtain⟨s,hs,rfl⟩:=List.mem_map.1 h;exact⟨rfl,rfl,s,rfl,(ez.1 hs).2⟩
end Go.LN
namespace Go.LN
theorem zLf{P:zC}(h:validP P=true){i:Nat}(hi:i<P.Parts.length):partB P.Arrays P.Parts[i]=true:=by
 simp only[validP,progB,bA,decide_eq_true_eq] at h;have:=ce.1 h.1.2 i (ez.2 ⟨et _,by omega⟩);have hg:gP P i=P.Parts[i]:=by simp[gP,hi]
 rwa[hg] at this
theorem zO0{nest:List zG}{q:List Int}(h:q∈(nestPts nest).1):nestB nest=true/\inP nest [] q:=by
 unfold nestPts at h;split at h
 ·rename_i hc;obtain⟨r,e,hr⟩:=zMF h;rw[cC] at e;exact⟨hc.1,e ▸ hr⟩
 ·cases h
theorem zM9{P:zC}(h:validP P=true){z:zR}(hz:z∈progI P):∃(i s:Nat) (hi:i<P.Parts.length) (hs:s<P.Parts[i].Body.length),z.Part=(i:Int)/\z.Stmt=(s:Int)/\nestB P.Parts[i].Nest=true/\inP P.Parts[i].Nest [] z.Point/\ptB z.Point=true/\stOk P.Arrays P.Parts[i].Body[s] z.Point=true/\stmtB P.Parts[i].Body[s] (P.Parts[i].Nest.length:Int)=true:=by
 unfold progI at hz;obtain⟨i,hi,hz⟩:=cD.1 hz;have hi:i<P.Parts.length:=by have:=(ez.1 hi).2;omega
 have hg:gP P i=P.Parts[i]:=by simp[gP,hi]
 rw[hg] at hz;have hp:=zLf h hi;unfold partI at hz;obtain⟨q,hq,hz⟩:=cD.1 hz;obtain⟨z1,z2,s,z3,hs⟩:=zM8 hz;have hs:s<P.Parts[i].Body.length:=by omega
 obtain⟨n1,n2⟩:=zO0 hq;simp only[partB,bA] at hp;have hq2:=ce.1 hp.2 q hq;rw[bA] at hq2;refine⟨i,s,hi,hs,z1,z3,n1,?_,?_,?_,?_⟩
 ·rw[z2];exact n2
 ·rw[z2];exact hq2.1
 ·rw[z2];exact ce.1 hq2.2 _ (gM hs)
 ·exact(zBC hp.1.2).2.2 _ (gM hs)
theorem zMG:∀{ls:List zG}{p r:List Int},inP ls p r->r.length=ls.length
 | [],_,[],_=>rfl
 | l::ls,p,v::r,h=>by rw[cj,cj,zMG h.2]
 | [],_,_::_,h=>h.elim
 | _::_,_,[],h=>h.elim
end Go.LN
namespace Go.LN
end Go.LN
namespace Go.LN
theorem zLg(P:zC)(x:zR)(ys:List zM)(hy:ys.length<=1048576)(ha:∀a∈ys,AV a)(hp:x.Point.length<=4)(hR:RVa P.Arrays):∀(j i:Nat) (o:List Int),i+j=ys.length->o.length=i->tB P x ys o (i:Int)=some (o++(ys.drop i).map (cellA P.Arrays x.Point)):=by
 intro j
 induction j with
 | zero=>
  intro i o hi ho;rw[tB];have:¬((i:Int)<(ys.length:Int)):=by omega
  simp only[this,dF,bF,if_false,oP,id];rw[dN.2 (by omega),df,cx]
 | succ j ih=>
  intro i o hi ho;rw[tB];have aK:i<ys.length:=by omega
  have hc:((i:Int)<(ys.length:Int)):=by omega
  simp only[hc,dT,if_true,xA aK,implCell P ys[i] x.Point (ha _ (gM aK)) hp hR,oB,oS,qJ (show (o.length+[cellF ys[i] x.Point P.Arrays 0].length)*8<=140737488355328 by simp;omega)];rw[uF (by omega),ih (i+1) _ (by omega) (by rw[lA];simp;omega),gC aK,cG,cm];rfl
end Go.LN
namespace Go.LN
def STz:zI:=zI.mk (zM.mk ⟨[]⟩ []) EXz
def stI(P:zC)(z:zR):zI:=(gP P z.Part.toNat).Body.getD z.Stmt.toNat STz
def rdI(P:zC)(z:zR):List Int:=(readsF 5 (stI P z).Value).map (cellA P.Arrays z.Point)
def wrI(P:zC)(z:zR):Int:=cellA P.Arrays z.Point (stI P z).Write
structure InP(P:zC)(z:zR):Prop where
 idxP:idx P.Parts z.Part=some (gP P z.Part.toNat)
 idxS:idx (gP P z.Part.toNat).Body z.Stmt=some (stI P z)
 part:0<=z.Part/\z.Part<(P.Parts.length:Int)
 stmt:0<=z.Stmt/\z.Stmt<((gP P z.Part.toNat).Body.length:Int)
 pin:BN (gP P z.Part.toNat).Nest/\nestB (gP P z.Part.toNat).Nest=true/\ptB z.Point=true/\inP (gP P z.Part.toNat).Nest [] z.Point
 pt:z.Point.length<=4
 bs:BS (stI P z)
 st:∃d,stmtB (stI P z) d=true
 ok:stOk P.Arrays (stI P z) z.Point=true
theorem zHR{P:zC}(hb:BG P)(h:validP P=true){z:zR}(hz:z∈progI P):InP P z:=by
 obtain⟨i,s,hi,hs,z1,z2,hn,hin,hpt,hst,hsb⟩:=zM9 h hz;have hbp:=hb.2.2 _ (gM hi);have hg:gP P z.Part.toNat=P.Parts[i]:=by rw[z1,iN];simp[gP,hi]
 have hS:stI P z=P.Parts[i].Body[s]:=by unfold stI;rw[hg,z2,iN];simp[hs]
 refine⟨?_,?_,by rw[z1];omega,by rw[hg,z2];omega,?_,zP1 hpt,?_,?_,?_⟩
 ·rw[hg,z1,xA hi]
 ·rw[hS,hg,z2,xA hs]
 ·rw[hg];exact⟨hbp.1,hn,hpt,hin⟩
 ·rw[hS];exact hbp.2.2 _ (gM hs)
 ·rw[hS];exact⟨_,hsb⟩
 ·rw[hS];exact hst
theorem zID{P:zC}{z:zR}(h:InP P z):(rdI P z).length<=32:=by
 obtain⟨d,hd⟩:=h.st;have:=eQ 5 (stI P z).Value (zBB hd).2.1;unfold rdI;rw[lM];omega
theorem touchedV{P:zC}(hb:BG P)(hv:validP P=true){z:zR}(h:InP P z):oT P z=some (rdI P z,wrI P z):=by
 obtain⟨d,hd⟩:=h.st;obtain⟨s1,s2,s3⟩:=zBB hd;have hR:=zLD hb hv;have hrd:=implReads 5 (stI P z).Value s2 (by omega);have hrl:=eQ 5 (stI P z).Value s2;have htl:=zLg P z (readsF 5 (stI P z).Value) (by omega) s3 h.pt hR _ 0 [] (cy _) rfl;rw[nZ,cr,cC] at htl;have hw:=implCell P (stI P z).Write z.Point s1 h.pt hR;unfold oT fJ;simp only[h.idxP,h.idxS,hrd,htl,hw,oB,oS,oP,id];rfl
def trcP(P:zC):tH:=⟨P,progI P,(progI P).map (rdI P),(progI P).map (wrI P)⟩
theorem zN5{P:zC}(hb:BG P)(hv:validP P=true):∀(j i:Nat) (rs:List (List Int)) (ws:List Int),i+j=(progI P).length->rs.length=i->ws.length=i->kW P (progI P) (i:Int) rs ws=some (rs++((progI P).drop i).map (rdI P),ws++((progI P).drop i).map (wrI P)):=by
 have bf:=(gV hv).2.2.2;intro j
 induction j with
 | zero=>
  intro i rs ws hi hr hw;rw[kW];have:¬((i:Int)<((progI P).length:Int)):=by omega
  simp only[this,dF,bF,if_false,oP];rw[dN.2 (by omega),df,df,cx,cx]
 | succ j ih=>
  intro i rs ws hi hr hw;rw[kW];have aK:i<(progI P).length:=by omega
  have hc:((i:Int)<((progI P).length:Int)):=by omega
  have hz:=zHR hb hv (gM aK);simp only[hc,dT,if_true,xA aK,touchedV hb hv hz,oB,oS,qJ (show (rs.length+[rdI P (progI P)[i]].length)*24<=140737488355328 by simp;omega),qJ (show (ws.length+[wrI P (progI P)[i]].length)*8<=140737488355328 by simp;omega)];rw[uF (by omega),ih (i+1) _ _ (by omega) (by rw[lA];simp;omega) (by rw[lA];simp;omega),gC aK,cG,cG,cm,cm];rfl
theorem implTrace(P:zC)(hb:BG P):zAF P=some (if validP P then(some (trcP P),true) else(none,false)):=by
 unfold zAF;rw[implInstances P hb];cases hv:validP P with
 | false=>
  unfold validP at hv;cases hp:progB P with
  | false=>rfl
  | true=>
   rw[hp,cu] at hv;simp[hv]
 | true=>
  have hv':=hv;unfold validP at hv';rw[bA] at hv';have hl:=zN5 hb hv _ 0 [] [] (cy _) rfl rfl;rw[nZ,cr,cC,cC] at hl;simp only[hv'.1,hv'.2,if_true,oB,oS,bT,bF,if_false,hl,oP];rfl
def useI(P:zC)(z:zR):wE:=⟨rdI P z,wrI P z⟩
theorem zO1{P:zC}(hb:BG P)(hv:validP P=true):∀(j i:Nat) (o:List wE),i+j=(progI P).length->o.length=i->rP P (progI P) o (i:Int)=some (o++((progI P).drop i).map (useI P)):=by
 have bf:=(gV hv).2.2.2;have hR:=zLD hb hv;intro j
 induction j with
 | zero=>
  intro i o hi ho;rw[rP];have:¬((i:Int)<((progI P).length:Int)):=by omega
  simp only[this,dF,bF,if_false,oP,id];rw[dN.2 (by omega),df,cx]
 | succ j ih=>
  intro i o hi ho;rw[rP];have aK:i<(progI P).length:=by omega
  have hc:((i:Int)<((progI P).length:Int)):=by omega
  have hz:=zHR hb hv (gM aK);obtain⟨d,hd⟩:=hz.st;have bX:=specCells P.Arrays (stI P (progI P)[i]) (progI P)[i].Point hd hz.bs hz.pt hR;rw[if_pos hz.ok] at bX;simp only[hc,dT,if_true,xA aK,hz.idxP,hz.idxS,bX,oB,oS,qJ (show (o.length+[wE.mk ((readsF 5 (stI P (progI P)[i]).Value).map (cellA P.Arrays (progI P)[i].Point)) (cellA P.Arrays (progI P)[i].Point (stI P (progI P)[i]).Write)].length)*32<=140737488355328 by simp;omega)];rw[uF (by omega),ih (i+1) _ (by omega) (by rw[lA];simp;omega),gC aK,cG,cm];rfl
theorem specUses(P:zC)(hb:BG P)(hv:validP P=true):fI P=some ((progI P).map (useI P)):=by
 unfold fI;have hl:=zO1 hb hv _ 0 [] (cy _) rfl;rw[nZ,cr,cC] at hl;simp only[specInsts P hv,hl,oB,oS,oP,id]
end Go.LN
namespace Go.LN
def hasB(l:List Int)(n:Int):Bool:=l.any (λx=>x==n)
theorem zMa(x:Int)(l:List Int)(n:Int):hasB (x::l) n=(x==n||hasB l n):=by unfold hasB;rw[List.any_cons]
def kindF(r1:List Int)(w1:Int)(r2:List Int)(w2:Int):Int:=(if hasB r2 w1 then 1 else 0)+(if hasB r1 w2 then 2 else 0)+(if w1==w2 then 4 else 0)
theorem zMb(r1:List Int)(w1:Int)(r2:List Int)(w2:Int):0<=kindF r1 w1 r2 w2/\kindF r1 w1 r2 w2<=7:=by
 unfold kindF;cases hasB r2 w1 <;> cases hasB r1 w2 <;> cases (w1==w2) <;> simp
theorem zN6{R:Type}{r0:R}{n:Nat}{f:Int->Option (Out Unit R)}{P:Nat->Bool}(step:∀i,i<n->f (i:Int)=if P i then some (.ret r0) else f ((i+1:Nat):Int))(fin:f (n:Int)=some (.done ())):f 0=some (if(List.range n).any P then .ret r0 else .done ()):=by
 have key:∀(j i:Nat),i+j=n->f (i:Int)=some (if(List.range' i j).any P then .ret r0 else .done ()):=by
  intro j
  induction j with
  | zero=>intro i hi;rw[show i=n by omega,fin];simp
  | succ j ih=>
   intro i hi;rw[step i (by omega),ih (i+1) (by omega),dk,List.any_cons];cases P i <;> rfl
 have:=key n 0 (cy _);rw[nZ] at this;rw[this,List.range_eq_range']
theorem zHS{α:Type}(l:List α)(P:α->Bool)(d:α):(List.range l.length).any (λi=>P (l.getD i d))=l.any P:=by
 rw[fo,fc,fc];constructor
 ·rintro⟨i,hi,h⟩;have hi:=cH.1 hi;have hg:l.getD i d=l[i]:=by simp[hi]
  rw[hg] at h;exact⟨_,gM hi,h⟩
 ·rintro⟨x,hx,h⟩;obtain⟨i,hi,rfl⟩:=e6.1 hx;exact⟨i,cH.2 hi,by simpa [hi] using h⟩
end Go.LN
namespace Go.LN
theorem specHas(l:List Int)(n:Int)(hl:l.length<=1048576):zAK l n=some (hasB l n):=by
 unfold zAK;have h:=zN6 (R:=Bool) (r0:=true) (n:=l.length) (f:=kZ l n) (P:=λi=>l.getD i 0==n) (λi hi=>by
  rw[kZ];have h1:((i:Int)<(l.length:Int)):=by omega
  have hg:l.getD i 0=l[i]:=by simp[hi]
  simp only[h1,dT,if_true,xA hi,oB,oS,oP,hg];rw[uF (by omega)]) (by rw[kZ];simp)
 rw[zHS l (λx=>x==n) 0] at h;rw[h];unfold hasB;cases l.any λx=>x==n <;> rfl
theorem zO2(l:List Int)(v:Int)(hl:l.length<=1048576):∀(j i:Nat),i+j=l.length->∃x,tC l v (i:Int)=some x/\((hasB (l.drop i) v=true/\∃k:Nat,x=.ret (k:Int))∨(hasB (l.drop i) v=false/\x=.done ())):=by
 intro j
 induction j with
 | zero=>
  intro i hi;rw[tC];have:¬((i:Int)<(l.length:Int)):=by omega
  refine⟨_,by simp only[this,dF,bF,if_false,oP],.inr ⟨?_,rfl⟩⟩;rw[dN.2 (by omega)];rfl
 | succ j ih=>
  intro i hi;rw[tC];have aK:i<l.length:=by omega
  have hc:((i:Int)<(l.length:Int)):=by omega
  rw[gC aK,zMa];by_cases e:v=l[i]
  ·refine⟨_,by simp only[hc,dT,if_true,xA aK,oB,oS,oP,e,bQ],.inl ⟨?_,i,rfl⟩⟩;rw[e,bQ,Bool.true_or]
  ·have e1:(v==l[i])=false:=by simpa using e
   have e2:(l[i]==v)=false:=by simpa using λh=>e h.symm
   obtain⟨x,hx,hr⟩:=ih (i+1) (by omega);refine⟨x,?_,by rw[e2,fk];exact hr⟩;simp only[hc,dT,if_true,xA aK,oB,oS,oP,e1,bF,if_false];rw[uF (by omega),hx]
theorem containsV(l:List Int)(v:Int)(hl:l.length<=1048576):sZ l v=some (hasB l v):=by
 unfold sZ jG;obtain⟨x,hx,hr⟩:=zO2 l v hl l.length 0 (cy _);rw[nZ] at hx;rw[cr] at hr;rw[hx];rcases hr with⟨h,k,rfl⟩|⟨h,rfl⟩
 ·have:((k:Int)>=0):=by omega
  simp[h,this]
 ·rw[h];rfl
def zIns(P:zC)(a:Nat):zR:=(progI P).getD a ⟨0,0,[]⟩
theorem zHT{P:zC}{a:Nat}(h:a<(progI P).length):zIns P a=(progI P)[a]:=by simp[zIns,h]
theorem zJh{P:zC}{a:Nat}(h:a<(progI P).length):zIns P a∈progI P:=by rw[zHT h];exact gM h
theorem zLF{P:zC}{a:Nat}(h:a<(progI P).length):idx ((progI P).map (rdI P)) (a:Int)=some (rdI P (zIns P a)):=by rw[xA (by rw[lM];exact h),zHT h];simp
theorem zJi{P:zC}{a:Nat}(h:a<(progI P).length):idx ((progI P).map (wrI P)) (a:Int)=some (wrI P (zIns P a)):=by rw[xA (by rw[lM];exact h),zHT h];simp
theorem zMH{P:zC}{a:Nat}(h:a<(progI P).length):idx ((progI P).map (useI P)) (a:Int)=some (useI P (zIns P a)):=by rw[xA (by rw[lM];exact h),zHT h];simp
def kindI(P:zC)(a b:Nat):Int:=kindF (rdI P (zIns P a)) (wrI P (zIns P a)) (rdI P (zIns P b)) (wrI P (zIns P b))
theorem betweenV{P:zC}(hi:∀z∈progI P,InP P z){a b:Nat}(ha:a<(progI P).length)(hb:b<(progI P).length):mB (trcP P) (a:Int) (b:Int)=some (kindI P a b):=by
 have l1:=zID (hi _ (zJh ha));have l2:=zID (hi _ (zJh hb));unfold mB kindI kindF;simp only[trcP,zLF ha,zLF hb,zJi ha,zJi hb,containsV _ _ (show (rdI P (zIns P a)).length<=1048576 by omega),containsV _ _ (show (rdI P (zIns P b)).length<=1048576 by omega),oB,oS,oP,id];by_cases e:wrI P (zIns P a)=wrI P (zIns P b)
 ·have e1:(wrI P (zIns P a)==wrI P (zIns P b))=true:=by simpa using e
  simp only[e1,if_true];cases hasB (rdI P (zIns P b)) (wrI P (zIns P a)) <;> cases hasB (rdI P (zIns P a)) (wrI P (zIns P b)) <;> rfl
 ·have e1:(wrI P (zIns P a)==wrI P (zIns P b))=false:=by simpa using e
  simp only[e1,bF,if_false];cases hasB (rdI P (zIns P b)) (wrI P (zIns P a)) <;> cases hasB (rdI P (zIns P a)) (wrI P (zIns P b)) <;> rfl
theorem kindsV{P:zC}(hi:∀z∈progI P,InP P z){a b:Nat}(ha:a<(progI P).length)(hb:b<(progI P).length):zAC (useI P (zIns P a)) (useI P (zIns P b))=some (kindI P a b):=by
 have l1:=zID (hi _ (zJh ha));have l2:=zID (hi _ (zJh hb));unfold zAC kindI kindF;simp only[useI,specHas _ _ (show (rdI P (zIns P a)).length<=1048576 by omega),specHas _ _ (show (rdI P (zIns P b)).length<=1048576 by omega),oB,oS,oP,id];by_cases e:wrI P (zIns P a)=wrI P (zIns P b)
 ·have e1:(wrI P (zIns P a)==wrI P (zIns P b))=true:=by simpa using e
  simp only[e1,if_true];cases hasB (rdI P (zIns P b)) (wrI P (zIns P a)) <;> cases hasB (rdI P (zIns P a)) (wrI P (zIns P b)) <;> rfl
 ·have e1:(wrI P (zIns P a)==wrI P (zIns P b))=false:=by simpa using e
  simp only[e1,bF,if_false];cases hasB (rdI P (zIns P b)) (wrI P (zIns P a)) <;> cases hasB (rdI P (zIns P a)) (wrI P (zIns P b)) <;> rfl
end Go.LN
namespace Go.LN
end Go.LN
namespace Go.LN
end Go.LN
namespace Go.LN
def dep1(P:zC)(i q:Nat):List yR:=if kindI P i q==0 then[] else[⟨(i:Int),(q:Int),kindI P i q⟩]
def depR(P:zC)(i k j:Nat):List yR:=(List.range' k j).flatMap λq=>dep1 P i q
def depA(P:zC)(i j:Nat):List yR:=(List.range' i j).flatMap λq=>depR P q (q+1) ((progI P).length - (q+1))
theorem zHU(P:zC)(i k j:Nat):depR P i k (j+1)=dep1 P i k++depR P i (k+1) j:=by unfold depR;rw[dk,cg]
theorem zHV(P:zC)(i j:Nat):depA P i (j+1)=depR P i (i+1) ((progI P).length - (i+1))++depA P (i+1) j:=by unfold depA;rw[dk,cg]
theorem zN7(P:zC)(i q:Nat):(dep1 P i q).length<=1:=by unfold dep1;split <;> simp
theorem zG7(P:zC)(i:Nat):∀(j k:Nat),(depR P i k j).length<=j
 | 0,k=>by simp[depR]
 | j+1,k=>by
  have h1:=zN7 P i k
  have h2:=zG7 P i j (k+1)
  rw[zHU,lA];omega
theorem zLG(P:zC):∀(j i:Nat),(depA P i j).length<=j*(progI P).length
 | 0,i=>by simp[depA]
 | j+1,i=>by
  have h1:=zG7 P i ((progI P).length - (i+1)) (i+1)
  have h2:=zLG P j (i+1)
  rw[zHV,lA,ed,Nat.one_mul];omega
theorem zMc(P:zC)(a b:Nat):0<=kindI P a b/\kindI P a b<=7:=zMb _ _ _ _
theorem zO3{P:zC}(hi:∀z∈progI P,InP P z)(bf:(progI P).length<=120)(i:Nat)(hin:i<(progI P).length):∀(j k:Nat) (o:List yR),k+j=(progI P).length->o.length+j<=1000000->rW (trcP P) (i:Int) o (k:Int)=some (o++depR P i k j):=by
 intro j
 induction j with
 | zero=>
  intro k o hk ho;rw[rW];have:¬((k:Int)<((trcP P).list.length:Int)):=by show ¬((k:Int)<((progI P).length:Int));omega
  simp only[this,dF,bF,if_false,oP,id];simp[depR]
 | succ j ih=>
  intro k o hk ho;rw[rW,zHU];have aK:k<(progI P).length:=by omega
  have hc:((k:Int)<((trcP P).list.length:Int)):=by show ((k:Int)<((progI P).length:Int));omega
  have hr:=zMc P i k;simp only[hc,dT,if_true,betweenV hi hin aK,oB,oS,oP,id,qJ (show (o.length+[yR.mk (i:Int) (k:Int) (kindI P i k)].length)*24<=140737488355328 by simp;omega)];rw[uF (by omega)];unfold dep1;by_cases h0:kindI P i k=0
  ·have e1:¬(kindI P i k>0):=by omega
   have e2:(kindI P i k==0)=true:=by simpa using h0
   simp only[e1,e2,dF,bF,if_false,if_true,oS,cC];exact ih (k+1) o (by omega) (by omega)
  ·have e1:kindI P i k>0:=by omega
   have e2:¬((kindI P i k==0)=true):=by simpa using h0
   simp only[e1,dT,if_true,oS];rw[if_neg e2,ih (k+1) _ (by omega) (by rw[lA];simp;omega),cm]
theorem zO4{P:zC}(hi:∀z∈progI P,InP P z)(bf:(progI P).length<=120):∀(j i:Nat) (o:List yR),i+j=(progI P).length->o.length<=120*i->rX (trcP P) o (i:Int)=some (o++depA P i j):=by
 intro j
 induction j with
 | zero=>
  intro i o hij ho;rw[rX];have:¬((i:Int)<((trcP P).list.length:Int)):=by show ¬((i:Int)<((progI P).length:Int));omega
  simp only[this,dF,bF,if_false,oP,id];simp[depA]
 | succ j ih=>
  intro i o hij ho;rw[rX,zHV];have aK:i<(progI P).length:=by omega
  have hc:((i:Int)<((trcP P).list.length:Int)):=by show ((i:Int)<((progI P).length:Int));omega
  have hl:=zG7 P i ((progI P).length - (i+1)) (i+1);have h2:=zO3 hi bf i aK ((progI P).length - (i+1)) (i+1) o (by omega) (by omega);simp only[hc,dT,if_true,uF (show i<9223372036854775807 by omega),h2,oB,oS];rw[ih (i+1) _ (by omega) (by rw[lA];omega),cm]
theorem zN8{P:zC}(hi:∀z∈progI P,InP P z)(bf:(progI P).length<=120)(i:Nat)(hin:i<(progI P).length):∀(j k:Nat) (o:List yR),k+j=(progI P).length->o.length+j<=1000000->mZ ((progI P).map (useI P)) (i:Int) o (k:Int)=some (o++depR P i k j):=by
 intro j
 induction j with
 | zero=>
  intro k o hk ho;rw[mZ];have:¬((k:Int)<(((progI P).map (useI P)).length:Int)):=by rw[lM];omega
  simp only[this,dF,bF,if_false,oP,id];simp[depR]
 | succ j ih=>
  intro k o hk ho;rw[mZ,zHU];have aK:k<(progI P).length:=by omega
  have hc:((k:Int)<(((progI P).map (useI P)).length:Int)):=by rw[lM];omega
  simp only[hc,dT,if_true,zMH hin,zMH aK,kindsV hi hin aK,oB,oS,oP,id,qJ (show (o.length+[yR.mk (i:Int) (k:Int) (kindI P i k)].length)*24<=140737488355328 by simp;omega)];rw[uF (by omega)];unfold dep1;by_cases h0:kindI P i k=0
  ·have e1:(kindI P i k != 0)=false:=by simpa using h0
   have e2:(kindI P i k==0)=true:=by simpa using h0
   simp only[e1,e2,bF,if_false,if_true,oS,cC];exact ih (k+1) o (by omega) (by omega)
  ·have e1:(kindI P i k != 0)=true:=by simpa using h0
   have e2:¬((kindI P i k==0)=true):=by simpa using h0
   simp only[e1,if_true,oS];rw[if_neg e2,ih (k+1) _ (by omega) (by rw[lA];simp;omega),cm]
theorem zN9{P:zC}(hi:∀z∈progI P,InP P z)(bf:(progI P).length<=120):∀(j i:Nat) (o:List yR),i+j=(progI P).length->o.length<=120*i->kC ((progI P).map (useI P)) o (i:Int)=some (o++depA P i j):=by
 intro j
 induction j with
 | zero=>
  intro i o hij ho;rw[kC];have:¬((i:Int)<(((progI P).map (useI P)).length:Int)):=by rw[lM];omega
  simp only[this,dF,bF,if_false,oP,id];simp[depA]
 | succ j ih=>
  intro i o hij ho;rw[kC,zHV];have aK:i<(progI P).length:=by omega
  have hc:((i:Int)<(((progI P).map (useI P)).length:Int)):=by rw[lM];omega
  have hl:=zG7 P i ((progI P).length - (i+1)) (i+1);have h2:=zN8 hi bf i aK ((progI P).length - (i+1)) (i+1) o (by omega) (by omega);simp only[hc,dT,if_true,uF (show i<9223372036854775807 by omega),h2,oB,oS];rw[ih (i+1) _ (by omega) (by rw[lA];omega),cm]
def dpF(P:zC):List yR:=if validP P then depA P 0 (progI P).length else[]
theorem zMI{P:zC}:(dpF P).length<=14400:=by
 unfold dpF;split
 ·rename_i hv;have bf:=(gV hv).2.2.2;have:=zLG P (progI P).length 0;have h2:(progI P).length*(progI P).length<=120*120:=Nat.mul_le_mul bf bf;omega
 ·simp
end Go.LN
namespace Go.LN
structure Kn where
 k:Nat->Nat->Int
 n:Nat
def dq1(P:Kn)(i q:Nat):List yR:=if P.k i q==0 then[] else[⟨(i:Int),(q:Int),P.k i q⟩]
def dqR(P:Kn)(i k j:Nat):List yR:=(List.range' k j).flatMap λq=>dq1 P i q
def dqA(P:Kn)(i j:Nat):List yR:=(List.range' i j).flatMap λq=>dqR P q (q+1) (P.n - (q+1))
theorem zP2{P:Kn}{d:yR}(h:d∈dqA P 0 P.n):∃i k:Nat,d=⟨(i:Int),(k:Int),P.k i k⟩/\i<k/\k<P.n/\P.k i k ≠ 0:=by
 unfold dqA at h;obtain⟨i,hi,h⟩:=cD.1 h;unfold dqR at h;obtain⟨k,hk,h⟩:=cD.1 h;have hi:=ez.1 hi;have hk:=ez.1 hk;unfold dq1 at h;split at h
 ·cases h
 ·rename_i h0;exact⟨i,k,cF.1 h,by omega,by omega,by simpa using h0⟩
def kn(P:zC):Kn:=⟨kindI P,(progI P).length⟩
theorem zO5{P:zC}{d:yR}(h:d∈depA P 0 (progI P).length):∃i k:Nat,d=⟨(i:Int),(k:Int),kindI P i k⟩/\i<k/\k<(progI P).length/\kindI P i k ≠ 0:=zP2 (P:=kn P) h
theorem specDeps6(P:zC)(hb:BG P)(hv:validP P=true):zA2 P=some (depA P 0 (progI P).length):=by
 have bf:=(gV hv).2.2.2;have hi:∀z∈progI P,InP P z:=λz hz=>zHR hb hv hz;have hl:=zN9 hi bf _ 0 [] (cy _) (by simp);rw[nZ,cC] at hl;simp only[zA2,specUses P hb hv,hl,oB,oS,oP,id]
end Go.LN
namespace Go.LN
end Go.LN
namespace Go.LN
theorem zLh{d:Int}{n:Nat}{e:zH}(h:shapeB d (n+1) e=true):(e.Kind=1∨e.Kind=2∨e.Kind=3)∨((e.Kind=4∨e.Kind=5∨e.Kind=6)/\∃a b,e.Kids=[a,b]):=by
 simp only[shapeB,bA] at h;have hk:=eq_of_beq h.1.1;unfold kidsN at hk;by_cases h1:e.Kind=1∨e.Kind=2∨e.Kind=3
 ·exact .inl h1
 ·rw[if_neg h1] at hk;by_cases h2:e.Kind=4∨e.Kind=5∨e.Kind=6
  ·rw[if_pos h2] at hk;refine .inr ⟨h2,?_⟩;have hl:e.Kids.length=2:=by omega
   match e.Kids,hl with
   | [a,b],_=>exact⟨a,b,rfl⟩
  ·rw[if_neg h2] at hk;omega
theorem zLH{d:Int}{n:Nat}{e:zH}(h:shapeB d (n+1) e=true)(h2:e.Kind=2):okA d e.Index=true:=by
 simp only[shapeB,bA] at h;have ho:=h.1.2;simp only[ownB,h2,if_true,bA] at ho;exact ho.2
end Go.LN
namespace Go.LN
end Go.LN
namespace Go.LN
end Go.LN
namespace Go.LN
end Go.LN
namespace Go.LN
theorem AV.bl{a:zM}(h:AV a):BL a.Subs:=⟨by have:=h.2.1;omega,λs hs=>by have:=h.2.2 s hs;unfold BA;omega⟩
end Go.LN
namespace Go.LN
end Go.LN
namespace Go.LN
def eqL{α:Type}(q:α->α->Bool):List α->List α->Bool
 | [],[]=>true
 | x::a,y::b=>q x y&&eqL q a b
 | _,_=>false
theorem zKL{α:Type}{a b:List α}(hl:a.length=b.length){q:α->α->Bool}{f:Int->Option (Out Unit Bool)}(step:∀(i:Nat) (h1:i<a.length) (h2:i<b.length),f (i:Int)=if q a[i] b[i] then f ((i+1:Nat):Int) else some (.ret false))(fin:f (a.length:Int)=some (.done ())):f 0=some (if eqL q a b then .done () else .ret false):=by
 have key:∀(j i:Nat),i+j=a.length->f (i:Int)=some (if eqL q (a.drop i) (b.drop i) then .done () else .ret false):=by
  intro j
  induction j with
  | zero=>
   intro i hi;rw[show i=a.length by omega,fin,dN.2 (cW a.length),dN.2 (show b.length<=a.length by omega)];rfl
  | succ j ih=>
   intro i hi;have h1:i<a.length:=by omega
   have h2:i<b.length:=by omega
   rw[step i h1 h2,ih (i+1) (by omega),gC h1,gC h2,eqL];cases q a[i] b[i] <;> rfl
 have:=key a.length 0 (cy _);rwa[nZ,cr,cr] at this
theorem zIE{α:Type}{q:α->α->Bool}:∀{a b:List α},a.length ≠ b.length->eqL q a b=false
 | [],[],h=>absurd rfl h
 | [],_::_,_=>rfl
 | _::_,[],_=>rfl
 | x::a,y::b,h=>by rw[eqL,zIE (by simpa using h),Bool.and_false]
def eqI(a b:List Int):Bool:=eqL (λx y=>x==y) a b
theorem implEqI(a b:List Int)(h:a.length<=1048576):qP a b=some (eqI a b):=by
 unfold qP eqI;by_cases hl:a.length=b.length
 ·have hf:=zKL (q:=λx y=>x==y) hl (f:=tD a b) (λi h1 h2=>by
   rw[tD];have c:((i:Int)<(a.length:Int)):=by omega
   simp only[c,dT,if_true,xA h1,xA h2,oB,oS,oP];rw[uF (by omega)];by_cases e:a[i]=b[i]
   ·simp[e]
   ·simp[e]) (by rw[tD];simp)
  have e:((a.length:Int) != (b.length:Int))=false:=by simp[hl]
  rw[hf,e];cases eqL (λx y=>x==y) a b <;> rfl
 ·have e:((a.length:Int) != (b.length:Int))=true:=by simp;omega
  rw[e,zIE hl];rfl
def afB(x y:zA):Bool:=eqI x.Coefs y.Coefs&&x.Const==y.Const
theorem implAff(x y:zA)(h:x.Coefs.length<=1048576):wB x y=some (afB x y):=by
 unfold wB afB;rw[implEqI _ _ h];cases eqI x.Coefs y.Coefs <;> rfl
end Go.LN
namespace Go.LN
end Go.LN
namespace Go.LN
end Go.LN
namespace Go.LN
end Go.LN
namespace Go.LN
theorem zO6{P:zC}{d:yR}(h:d∈dpF P):validP P=true/\∃i k:Nat,d.From=(i:Int)/\d.To=(k:Int)/\i<k/\k<(progI P).length:=by
 unfold dpF at h;split at h
 ·rename_i hv;obtain⟨i,k,rfl,h1,h2,_⟩:=zO5 h;exact⟨hv,i,k,rfl,rfl,h1,h2⟩
 ·cases h
theorem zLI(P:zC):(trcP P).list=progI P:=rfl
theorem isPartL{P:zC}(hb:BG P)(part:Int):mA P part=some (decide (0<=part)&&decide (part<=(P.Parts.length:Int) - 1)):=by
 have:=hb.2.1;unfold mA;simp only[kR,rE (x:=(P.Parts.length:Int) - 1) (by omega) (by omega),oB,oS,oP,id]
end Go.LN
namespace Go.LN
theorem zPm(x y:Int):M.cmp_Compare_int x y=some (if x<y then -1 else if y<x then 1 else 0):=by
 have h1:(x != x)=false:=by simp
 have h2:(y != y)=false:=by simp
 simp only[M.cmp_Compare_int,M.cmp_isNaN_int,h1,h2,oP,oB,oS,bF,if_false,id,decide_eq_true_eq];by_cases h:x<y
 ·simp[h]
 ·by_cases h':y<x
  ·simp[h,h']
  ·simp[h,h']
theorem zP3{a b:List Int}(ha:a.length<4611686018427387904):∀(j q:Nat),q+j=a.length->q<=b.length->∃o,wS a b (q:Int)=some o/\(match o with|.ret r=>r=cmpL (a.drop q) (b.drop q)|.done _=>a.length<=b.length/\cmpL (a.drop q) (b.drop q)=if a.length<b.length then -1 else 0):=by
 intro j
 induction j with
 | zero=>
  intro q hq hb;refine⟨.done (),?_,by omega,?_⟩
  ·rw[wS];have:¬((q:Int)<(a.length:Int)):=by omega
   simp only[this,dF,bF,if_false,oP]
  ·rw[dN.2 (show a.length<=q by omega)];by_cases h:a.length<b.length
   ·rw[if_pos h,gC (show q<b.length by omega),cmpL]
   ·rw[if_neg h,dN.2 (show b.length<=q by omega),cmpL]
 | succ j ih=>
  intro q hq hb;have aK:q<a.length:=by omega
  have hc:((q:Int)<(a.length:Int)):=by omega
  have ei:idx a (q:Int)=some a[q]:=by rw[show idx a (q:Int)=a[q]? by unfold idx;simp,cd aK]
  by_cases hq2:q<b.length
  ·have ej:idx b (q:Int)=some b[q]:=by rw[show idx b (q:Int)=b[q]? by unfold idx;simp,cd hq2]
   have hg:¬((q:Int)>=(b.length:Int)):=by omega
   have eW:W ((q:Int)+1)=((q+1:Nat):Int):=by show IntKind.i64.wrap _=_;rw[IntKind.wrap_i64];omega
   rw[wS,gC aK,gC hq2,cmpL];simp only[hc,dT,if_true,ei,ej,hg,dF,bF,if_false,zPm,oB,oS,oP,eW];by_cases h1:a[q]<b[q]
   ·refine⟨.ret (-1),?_,?_⟩
    ·simp[h1]
    ·simp[h1]
   ·by_cases h2:b[q]<a[q]
    ·refine⟨.ret 1,?_,?_⟩
     ·simp[h1,h2]
     ·simp[h1,h2]
    ·obtain⟨o,e1,e2⟩:=ih (q+1) (by omega) (by omega);refine⟨o,?_,?_⟩
     ·simp only[h1,h2,if_false,bne_self_eq_false,bF];exact e1
     ·rw[if_neg h1,if_neg h2];exact e2
  ·refine⟨.ret 1,?_,?_⟩
   ·rw[wS];have hg:((q:Int)>=(b.length:Int)):=by omega
    simp only[hc,dT,if_true,ei,hg,oB,oS,oP]
   ·show 1=cmpL _ _;rw[gC aK,dN.2 (show b.length<=q by omega),cmpL]
theorem zO7{a b:List Int}(ha:a.length<4611686018427387904):pQ a b=some (cmpL a b):=by
 obtain⟨o,h1,h2⟩:=zP3 (b:=b) ha a.length 0 (cy _) (et _);rw[cr,cr] at h2;have h1:wS a b 0=some o:=h1;unfold pQ;rw[h1];cases o with
 | ret r=>show some r=_;rw[h2]
 | done u=>
  rw[h2.2];by_cases h:a.length<b.length
  ·simp[h]
  ·simp[h]
end Go.LN
namespace Go.LN
theorem implLex{a b:List Int}(ha:a.length<=1000000):dS a b=some (ltL a b):=by
 unfold dS;rw[zO7 (show a.length<4611686018427387904 by omega)];rfl
end Go.LN
namespace Go.LN
end Go.LN
namespace Go.LN
end Go.LN
namespace Go.LN
def mpA(f:zA->zA)(a:zM):zM:=⟨a.Array,a.Subs.map f⟩
theorem zP4{ch:zA->Option zA}{f:zA->zA}(a:zM)(hs:a.Subs.length<=1000)(ha:∀s∈a.Subs,ch s=some (f s)):∀(j i:Nat) (o:List zA),i+j=a.Subs.length->o.length=i->pF a ch (i:Int) o=some (o++(a.Subs.drop i).map f):=by
 intro j
 induction j with
 | zero=>
  intro i o hi ho;rw[pF];have:¬((i:Int)<(a.Subs.length:Int)):=by omega
  simp only[this,dF,bF,if_false,oP,id];rw[dN.2 (by omega),df,cx]
 | succ j ih=>
  intro i o hi ho;rw[pF];have aK:i<a.Subs.length:=by omega
  have hc:((i:Int)<(a.Subs.length:Int)):=by omega
  rw[gC aK,cG];simp only[hc,dT,if_true,xA aK,ha _ (gM aK),qJ (show (o.length+[f a.Subs[i]].length)*32<=140737488355328 by simp;omega),oB,oS];rw[uF (by omega),ih (i+1) _ (by omega) (by rw[lA];simp;omega),cm];rfl
theorem mpAV{d:Int}{ch:zA->Option zA}{f:zA->zA}(hch:∀a,okA d a=true->ch a=some (f a)){a:zM}(h:accB a d=true):jN a ch=some (mpA f a):=by
 have hv:=AV.of h;have hs:∀s∈a.Subs,ch s=some (f s):=λs hs=>by
  simp only[accB,bA,ce] at h;exact hch s (h.2 s hs)
 have h2:=hv.2.1;have hl:=zP4 a (by omega) hs _ 0 [] (cy _) rfl;rw[nZ,cr,cC] at hl;unfold jN;simp only[hl,oB,oS,oP];rfl
def mpE(f:zA->zA):Nat->zH->zH
 | 0,e=>e
 | n+1,e=>.mk e.Kind e.Num (if e.Kind=2 then f e.Index else⟨[],0⟩) (if e.Kind=3 then mpA f e.Read else⟨⟨[]⟩,[]⟩) (e.Kids.map (mpE f n))
theorem mpEV{d:Int}{ch:zA->Option zA}{f:zA->zA}(hch:∀a,okA d a=true->ch a=some (f a)):∀(n:Nat) (e:zH),shapeB d n e=true->jQ e ch=some (mpE f n e)
 | 0,e,h=>by cases h
 | n+1,e,h=>by
  rw[jQ,mpE]
  obtain⟨h1,h2⟩:=zAD h
  have hkl:pL e ch 0 []=some (e.Kids.map (mpE f n)):=by
   rcases h1 with hk|⟨a,b,hk⟩
   ·rw[pL]
    simp[hk]
   ·have ra:=mpEV hch n a (h2 a (by rw[hk];simp))
    have rb:=mpEV hch n b (h2 b (by rw[hk];simp))
    have l0:((0:Int)<(e.Kids.length:Int)):=by rw[hk];simp
    have l1:((1:Int)<(e.Kids.length:Int)):=by rw[hk];simp
    have l2:¬((2:Int)<(e.Kids.length:Int)):=by rw[hk];simp
    have i0:idx e.Kids 0=some a:=by rw[hk];rfl
    have i1:idx e.Kids 1=some b:=by rw[hk];rfl
    have w0:W ((0:Int)+1)=1:=by rw[rE (by omega) (by omega)];rfl
    have w1:W ((1:Int)+1)=2:=by rw[rE (by omega) (by omega)];rfl
    have p0:app 112 ([]:List zH) [mpE f n a]=some [mpE f n a]:=by rw[qJ (by simp)];rfl
    have p1:app 112 [mpE f n a] [mpE f n b]=some [mpE f n a,mpE f n b]:=by rw[qJ (by simp)];rfl
    rw[pL]
    simp only[l0,dT,if_true,oB,oS,i0,same,ra,p0,w0]
    rw[pL]
    simp only[l1,dT,if_true,oB,oS,i1,same,rb,p1,w1]
    rw[pL]
    simp only[l2,dF,bF,if_false,oP,id]
    rw[hk];rfl
  rcases zLh h with hk|⟨hk,_⟩
  ·rcases hk with k|k|k
   ·have e2:(e.Kind==2)=false:=by simp;omega
    have e3:(e.Kind==3)=false:=by simp;omega
    rw[if_neg (show ¬e.Kind=2 by omega),if_neg (show ¬e.Kind=3 by omega)]
    simp[e2,e3,same,hkl]
   ·have e2:(e.Kind==2)=true:=by simpa using k
    rw[if_pos k,if_neg (show ¬e.Kind=3 by omega)]
    simp[e2,same,hkl,hch _ (zLH h k)]
   ·have e2:(e.Kind==2)=false:=by simp;omega
    have e3:(e.Kind==3)=true:=by simpa using k
    rw[if_neg (show ¬e.Kind=2 by omega),if_pos k]
    simp[e2,e3,same,hkl,mpAV hch (zFf h k).2]
  ·have e2:(e.Kind==2)=false:=by simp;omega
   have e3:(e.Kind==3)=false:=by simp;omega
   rw[if_neg (show ¬e.Kind=2 by omega),if_neg (show ¬e.Kind=3 by omega)]
   simp[e2,e3,same,hkl]
def mpS(f:zA->zA)(s:zI):zI:=⟨mpA f s.Write,mpE f 5 s.Value⟩
theorem mpSV{d:Int}{ch:zA->Option zA}{f:zA->zA}(hch:∀a,okA d a=true->ch a=some (f a)){s:zI}(h:stmtB s d=true):dO s ch=some (mpS f s):=by
 have hw:accB s.Write d=true:=by simp only[stmtB,bA] at h;exact h.1.2
 unfold dO;simp only[mpAV hch hw,mpEV hch 5 _ (zBB h).2.1,oB,oS,oP];rfl
theorem zLJ{α:Type}{q:α->α->Bool}(hq:∀x,q x x=true):∀a:List α,eqL q a a=true
 | []=>rfl
 | x::a=>by rw[eqL,hq,zLJ hq a];rfl
theorem zLK(a:List Int):eqI a a=true:=zLJ (λx=>by simp) a
theorem zNa(x:zA):afB x x=true:=by unfold afB;rw[zLK,bQ];rfl
end Go.LN
namespace Go.LN
theorem GA.ne{l:List zD}(hg:GA l){i j:Nat}(hi:i<l.length)(hj:j<l.length)(h:i ≠ j):l[i].Name.l ≠ l[j].Name.l:=by
 have hp:=List.pairwise_iff_getElem.1 hg.2.2;rcases Nat.lt_or_gt_of_ne h with k|k
 ·exact hp i j hi hj k
 ·exact(hp j i hj hi k).symm
theorem GA.set{l:List zD}(hg:GA l){k:Nat}(hk:k<l.length){y:zD}(hn:y.Name.l=l[k].Name.l)(hy:DA y):GA (l.set k y):=by
 refine⟨by rw[cP];exact hg.1,zE1 hg.2.1 hy k,List.pairwise_iff_getElem.2 λi j hi hj hij=>?_⟩;rw[cP] at hi hj;rw[List.getElem_set,List.getElem_set];by_cases h1:k=i
 ·rw[if_pos h1,if_neg (by omega),hn];exact hg.ne hk hj (by omega)
 ·rw[if_neg h1];by_cases h2:k=j
  ·rw[if_pos h2,hn];exact hg.ne hi hk (by omega)
  ·rw[if_neg h2];exact hg.ne hi hj (by omega)
theorem DA.arr{x:zD}(h:DA x):(1<=x.Dims.length/\x.Dims.length<=2)/\x.Dims.all dimB=true:=by
 rcases h with⟨d,h,k1,k2⟩|⟨d,e,h,⟨k1,k2⟩,k3,k4⟩
 ·rw[h];simp[dimB,k1,k2]
 ·rw[h];simp[dimB,k1,k2,k3,k4]
end Go.LN
namespace Go.LN
def leD:List Int->List Int->Prop
 | [],[]=>True
 | x::xs,y::ys=>x<=y/\leD xs ys
 | [],_::_=>False
 | _::_,[]=>False
theorem leD.refl:∀d:List Int,leD d d
 | []=>trivial
 | x::d=>⟨Int.le_refl _,leD.refl d⟩
theorem leD.trans:∀{a b c:List Int},leD a b->leD b c->leD a c
 | [],[],[],_,_=>trivial
 | x::a,y::b,z::c,h,k=>⟨Int.le_trans h.1 k.1,leD.trans h.2 k.2⟩
theorem leD.len:∀{a b:List Int},leD a b->a.length=b.length
 | [],[],_=>rfl
 | x::a,y::b,h=>by rw[cj,cj,h.2.len]
end Go.LN
namespace Go.LN
theorem ownAf(a:zA)(h:BA a):oJ a=some a:=by
 unfold oJ;rw[zET a.Coefs (by unfold BA at h;omega)];rfl
theorem zBp{α:Type}{l:List α}{f:Int->List α->Option (List α)}(k:Nat)(g:α->Option α)(hl:l.length<=100000)(hk:k<=1000)(heq:∀(i:Int) o,f i o=if decide (i<(l.length:Int))=true then(idx l i).bind λx=>(g x).bind λy=>(app k o [y]).bind λo'=>f (W (i+1)) o' else some o)(hg:∀x∈l,g x=some x):f 0 []=some l:=by
 refine zAd (λi hi o ho=>?_) (λo=>?_)
 ·rw[heq];have k1:((i:Int)<(l.length:Int)):=by omega
  have hm:(o.length+1)*k<=100000*1000:=Nat.mul_le_mul (by omega) hk;have happ:app k o [l[i]]=some (o++[l[i]]):=qJ (by simp;omega);simp only[k1,dT,if_true,xA hi,oS,hg _ (gM hi),happ];rw[uF (by omega)]
 ·rw[heq];simp
theorem ownAfs(l:List zA)(h:BL l):pK l=some l:=by
 unfold pK;rw[show qE l [] 0=some l from zBp (f:=λi o=>qE l o i) 32 _ (by have:=h.1;omega) (by omega) (λi o=>by rw[qE];rfl) λx hx=>ownAf x (h.2 x hx)];rfl
theorem ownNs(l:List zG)(h:BN l):fU l=some l:=by
 unfold fU;rw[show oU l [] 0=some l from zBp (f:=λi o=>oU l o i) 48 (λx=>(pK x.Lo).bind λy=>(pK x.Hi).bind λz=>some ⟨y,z⟩) h.1 (by omega) (λi o=>by rw[oU];simp only[oB,Option.bind_assoc,oS,oP,id]) λx hx=>by
  rw[ownAfs _ (h.2 x hx).1,ownAfs _ (h.2 x hx).2];rfl];rfl
theorem zLi{a:zA}(h:noA a=true):a=⟨[],0⟩:=by
 simp only[noA,bA,decide_eq_true_eq,beq_iff_eq] at h;obtain⟨C,k⟩:=a;obtain⟨h1,h2⟩:=h;have:=ek.1 h1;simp only at this h2;rw[this,h2]
theorem zLj{a:zM}(h:noC a=true):a=⟨⟨[]⟩,[]⟩:=by
 simp only[noC,bA,decide_eq_true_eq,beq_iff_eq] at h;obtain⟨⟨N⟩,S⟩:=a;obtain⟨h1,h2⟩:=h;have:=ek.1 h2;simp only at this h1;rw[this,h1]
theorem zNb(a:zM):mpA (λa=>a) a=a:=by unfold mpA;rw[List.map_id']
theorem zNc{d:Int}:∀(n:Nat) (e:zH),shapeB d n e=true->mpE (λa=>a) n e=e
 | 0,e,h=>rfl
 | n+1,e,h=>by
  obtain⟨_,h2⟩:=zAD h
  have hk:e.Kids.map (mpE (λa=>a) n)=e.Kids:=by
   rw[List.map_congr_left (g:=λk=>k) (λk hk=>zNc n k (h2 k hk))];exact List.map_id' _
  simp only[shapeB,bA] at h
  have ho:=h.1.2
  rw[mpE,hk]
  have hI:(if e.Kind=2 then e.Index else(⟨[],0⟩:zA))=e.Index:=by
   by_cases h2:e.Kind=2
   ·rw[if_pos h2]
   ·rw[if_neg h2]
    unfold ownB at ho
    rw[if_neg h2] at ho
    by_cases h3:e.Kind=3
    ·rw[if_pos h3,bA,bA] at ho
     exact(zLi ho.1.2).symm
    ·rw[if_neg h3] at ho
     by_cases h1:e.Kind=1
     ·rw[if_pos h1,bA,bA] at ho
      exact(zLi ho.1.2).symm
     ·rw[if_neg h1,bA,bA] at ho
      exact(zLi ho.1.2).symm
  have hR:(if e.Kind=3 then mpA (λa=>a) e.Read else(⟨⟨[]⟩,[]⟩:zM))=e.Read:=by
   by_cases h3:e.Kind=3
   ·rw[if_pos h3,zNb]
   ·rw[if_neg h3]
    unfold ownB at ho
    by_cases h2:e.Kind=2
    ·rw[if_pos h2,bA,bA] at ho
     exact(zLj ho.1.2).symm
    ·rw[if_neg h2,if_neg h3] at ho
     by_cases h1:e.Kind=1
     ·rw[if_pos h1,bA,bA] at ho
      exact(zLj ho.2).symm
     ·rw[if_neg h1,bA,bA] at ho
      exact(zLj ho.2).symm
  rw[hI,hR]
  clear hI hR hk ho h h2
  cases e;rfl
theorem zP5{s:zI}{d:Int}(h:stmtB s d=true):mpS (λa=>a) s=s:=by
 unfold mpS;rw[zNb,zNc 5 _ (zBB h).2.1]
theorem ownSt{s:zI}{d:Int}(h:stmtB s d=true):dP s=some s:=by
 unfold dP;rw[mpSV (d:=d) (f:=λa=>a) (λb hb=>ownAf b (by
  simp only[okA,validB,bA,decide_eq_true_eq] at hb;have:=hb.1.1.1;unfold BA;omega)) h,zP5 h]
 rfl
theorem ownPt{x:zF}(hb:BP x)(h:bodyB x=true):dQ x=some x:=by
 obtain⟨b1,b2,b3⟩:=zBC h;unfold dQ;rw[show oV x 0 []=some x.Body from zBp (f:=λi o=>oV x i o) 152 _ (by omega) (by omega) (λi o=>by rw[oV];rfl) λs hs=>ownSt (b3 s hs),ownNs _ hb.1];rfl
theorem ownPg{P:zC}(hb:BG P)(hv:validP P=true):qF P=some P:=by
 obtain⟨⟨a1,a2⟩,p1,p2⟩:=hb;unfold qF;rw[show rV P 0 []=some P.Arrays from zBp (f:=λi o=>rV P i o) 40 (λx=>(uH x.Dims).bind λy=>some ⟨x.Name,y⟩) a1 (by omega) (λi o=>by rw[rV];simp only[oB,Option.bind_assoc,oS,oP,id]) λx hx=>by
  rw[zET x.Dims (by have:=a2 x hx;omega)];rfl]
 simp only[oB,oS];rw[show uY P 0 []=some P.Parts from zBp (f:=λi o=>uY P i o) 48 _ p1 (by omega) (λi o=>by rw[uY];rfl) λx hx=>by
  obtain⟨i,hi,rfl⟩:=e6.1 hx;have hp:=(gV hv).2.2.1 i hi;rw[show gP P i=P.Parts[i] by simp[gP,hi]] at hp;simp only[partB,bA] at hp;exact ownPt (p2 _ hx) hp.1.2]
 rfl
theorem sowAf(a:zA)(h:BA a):nL a=some a:=by
 unfold nL;rw[zAq a.Coefs (by unfold BA at h;omega)];rfl
theorem sowAfs(l:List zA)(h:BL l):sO l=some l:=by
 unfold sO;rw[show uV l [] 0=some l from zBp (f:=λi o=>uV l o i) 32 _ (by have:=h.1;omega) (by omega) (λi o=>by rw[uV];rfl) λx hx=>sowAf x (h.2 x hx)];rfl
theorem sowNs(l:List zG)(h:BN l):mF l=some l:=by
 unfold mF;rw[show tU l [] 0=some l from zBp (f:=λi o=>tU l o i) 48 _ h.1 (by omega) (λi o=>by rw[tU];rfl) λx hx=>by
  unfold dB;rw[sowAfs _ (h.2 x hx).1,sowAfs _ (h.2 x hx).2];rfl];rfl
theorem sowAc(a:zM)(h:BL a.Subs):nM a=some a:=by
 unfold nM;rw[sowAfs _ h];rfl
theorem sowE:∀(m:Nat) (e:zH),BE m e->nJ e=some e
 | m,e,h=>by
  obtain⟨h1,h2,h3⟩:=h.own
  rw[nJ]
  have hL:mG e.Kids=some e.Kids:=by
   rw[mG]
   simp only[same]
   rw[show rO e.Kids [] 0=some e.Kids from zBp (f:=λi o=>rO e.Kids o i) 112 nJ (by omega) (by omega) (λi o=>by rw[rO];rfl) λx hx=>by
    obtain⟨m',hm,hm'⟩:=h.kid hx
    exact sowE m' x hm'];rfl
  simp only[sowAf _ h1,sowAc _ h2,hL,oB,oS,oP]
  clear hL h h1 h2 h3
  cases e;rfl
theorem sowSt(s:zI)(h:BS s):gR s=some s:=by
 obtain⟨h1,m,h2⟩:=h;unfold gR;rw[sowAc _ h1,sowE m _ h2];rfl
theorem sowPt(x:zF)(h:BP x):gS x=some x:=by
 obtain⟨b1,b2,b3⟩:=h;unfold gS jT;rw[show tV x.Body [] 0=some x.Body from zBp (f:=λi o=>tV x.Body o i) 152 _ b2 (by omega) (λi o=>by rw[tV];rfl) λs hs=>sowSt s (b3 s hs),sowNs _ b1];rfl
theorem sowPg(P:zC)(h:BG P):gT P=some P:=by
 obtain⟨⟨a1,a2⟩,p1,p2⟩:=h;unfold gT jI jU;rw[show tE P.Arrays [] 0=some P.Arrays from zBp (f:=λi o=>tE P.Arrays o i) 40 _ a1 (by omega) (λi o=>by rw[tE];rfl) λx hx=>by
  unfold eO;rw[zAq x.Dims (by have:=a2 x hx;omega)];rfl,show tW P.Parts [] 0=some P.Parts from zBp (f:=λi o=>tW P.Parts o i) 48 _ p1 (by omega) (λi o=>by rw[tW];rfl) λx hx=>sowPt x (p2 x hx)]
 rfl
theorem zB7{n:Nat}{f:Int->Option (Out Unit Bool)}(step:∀i,i<n->f (i:Int)=f ((i+1:Nat):Int))(fin:f (n:Int)=some (.done ())):f 0=some (.done ()):=by
 have key:∀j i,i+j=n->f (i:Int)=some (.done ()):=by
  intro j
  induction j with
  | zero=>intro i hi;rw[show i=n by omega,fin]
  | succ j ih=>intro i hi;rw[step i (by omega)];exact ih (i+1) (by omega)
 exact key n 0 (by omega)
theorem sAf(a:zA)(h:BA a):wB a a=some true:=by
 rw[implAff a a (by unfold BA at h;omega),zNa]
theorem sAfs(l:List zA)(h:BL l):yF l l wB=some true:=by
 unfold yF;have hb:=h.1;have hl:=zB7 (n:=l.length) (f:=yB l l wB) (λi hi=>by
  rw[yB];have k1:((i:Int)<(l.length:Int)):=by omega
  simp only[k1,dT,if_true,xA hi,oB,oS,sAf _ (h.2 _ (gM hi)),bT,bF,if_false];rw[uF (by omega)]) (by rw[yB];simp)
 simp only[bne_self_eq_false,bF,if_false,hl,oB,oS];rfl
theorem sNs(l:List zG)(h:BN l):nS l l=some true:=by
 unfold nS xS;have hb:=h.1;have hl:=zB7 (n:=l.length) (f:=yE l l tK) (λi hi=>by
  rw[yE];have k1:((i:Int)<(l.length:Int)):=by omega
  have hx:=h.2 _ (gM hi);have e:tK l[i] l[i]=some true:=by
   unfold tK;rw[sAfs _ hx.1,sAfs _ hx.2];rfl
  simp only[k1,dT,if_true,xA hi,oB,oS,e,bT,bF,if_false];rw[uF (by omega)]) (by rw[yE];simp)
 simp only[bne_self_eq_false,bF,if_false,hl,oB,oS];rfl
theorem sAc(a:zM)(h:BL a.Subs):kO a a=some true:=by
 unfold kO;simp only[bQ,if_true,sAfs _ h,oB,oS];rfl
theorem sEx:∀(m:Nat) (e:zH),BE m e->gE e e=some true
 | m,e,h=>by
  obtain⟨h1,h2,h3⟩:=h.own
  have hl:=zB7 (n:=e.Kids.length) (f:=xE e.Kids e.Kids) (λi hi=>by
   rw[xE]
   have k1:((i:Int)<(e.Kids.length:Int)):=by omega
   obtain⟨m',hm,hm'⟩:=h.kid (gM hi)
   have hr:=sEx m' e.Kids[i] hm'
   simp only[k1,dT,if_true,xA hi,oB,oS,same,hr,bT,bF,if_false]
   rw[uF (by omega)]) (by rw[xE];simp)
  have hL:xU e.Kids e.Kids=some true:=by
   rw[xU]
   simp only[bne_self_eq_false,bF,if_false,same,hl,oB,oS]
   rfl
  rw[gE]
  simp only[bQ,if_true,sAf _ h1,sAc _ h2,hL,oB,oS]
  rfl
theorem sSt(s:zI)(h:BS s):pU s s=some true:=by
 obtain⟨h1,m,h2⟩:=h;unfold pU;simp only[sAc _ h1,sEx m _ h2,if_true,oB,oS];rfl
theorem sPg(P:zC)(h:BG P):eK P P=some true:=by
 obtain⟨⟨a1,a2⟩,p1,p2⟩:=h;unfold eK wC wJ;have hl:=zB7 (n:=P.Arrays.length) (f:=yS P.Arrays P.Arrays sX) (λi hi=>by
  rw[yS];have k1:((i:Int)<(P.Arrays.length:Int)):=by omega
  have hd:=a2 _ (gM hi);have e:sX P.Arrays[i] P.Arrays[i]=some true:=by
   unfold sX;simp only[bQ,if_true,implEqI P.Arrays[i].Dims P.Arrays[i].Dims (by omega),zLK,oB,oS];rfl
  simp only[k1,dT,if_true,xA hi,oB,oS,e,bT,bF,if_false];rw[uF (by omega)]) (by rw[yS];simp)
 have hl2:=zB7 (n:=P.Parts.length) (f:=yU P.Parts P.Parts sY) (λi hi=>by
  rw[yU];have k1:((i:Int)<(P.Parts.length:Int)):=by omega
  obtain⟨x1,x2,x3⟩:=p2 _ (gM hi);have hS:xT P.Parts[i].Body P.Parts[i].Body pU=some true:=by
   unfold xT;have hl3:=zB7 (n:=P.Parts[i].Body.length) (f:=yT P.Parts[i].Body P.Parts[i].Body pU) (λk hk=>by
    rw[yT];have k2:((k:Int)<(P.Parts[i].Body.length:Int)):=by omega
    simp only[k2,dT,if_true,xA hk,oB,oS,sSt _ (x3 _ (gM hk)),bT,bF,if_false];rw[uF (by omega)]) (by rw[yT];simp)
   simp only[bne_self_eq_false,bF,if_false,hl3,oB,oS];rfl
  have e:sY P.Parts[i] P.Parts[i]=some true:=by
   unfold sY;simp only[sNs _ x1,if_true,hS,oB,oS];rfl
  simp only[k1,dT,if_true,xA hi,oB,oS,e,bT,bF,if_false];rw[uF (by omega)]) (by rw[yU];simp)
 simp only[bne_self_eq_false,bF,if_false,hl,hl2,oB,oS];rfl
end Go.LN
namespace Go.LN
theorem zG8{α:Type}{q:α->α->Bool}(hq:∀x y,q x y=true↔x=y):∀{a b:List α},eqL q a b=true↔a=b
 | [],[]=>by simp[eqL]
 | [],_::_=>by simp[eqL]
 | _::_,[]=>by simp[eqL]
 | x::a,y::b=>by rw[eqL,bA,hq,zG8 hq,List.cons.injEq]
theorem zO8{a b:List Int}:eqI a b=true↔a=b:=zG8 (λx y=>by simp)
theorem zMJ(x y:zA):afB x y=true↔x=y:=by
 cases x;cases y
 unfold afB;rw[bA,zO8];simp
def lpB(x y:zG):Bool:=eqL afB x.Lo y.Lo&&eqL afB x.Hi y.Hi
theorem zO9(x y:zG):lpB x y=true↔x=y:=by
 cases x;cases y
 unfold lpB;rw[bA,zG8 zMJ,zG8 zMJ];simp
theorem zPq{a b:List zG}:eqL lpB a b=true↔a=b:=zG8 zO9
theorem implSd(a b:List zA)(ha:BL a):yF a b wB=some (eqL afB a b):=by
 have hb:=ha.1;unfold yF;by_cases hl:a.length=b.length
 ·have hf:=zKL (q:=afB) hl (f:=yB a b wB) (λi h1 h2=>by
   rw[yB];have c:((i:Int)<(a.length:Int)):=by omega
   have hc:=ha.2 _ (gM h1);simp only[c,dT,if_true,xA h1,xA h2,implAff _ _ (show a[i].Coefs.length<=1048576 by unfold BA at hc;omega),oB,oS,oP];rw[uF (by omega)];cases afB a[i] b[i] <;> rfl) (by rw[yB];simp)
  have e:((a.length:Int) != (b.length:Int))=false:=by simp[hl]
  rw[hf,e];cases eqL afB a b <;> rfl
 ·have e:((a.length:Int) != (b.length:Int))=true:=by simp;omega
  rw[e,zIE hl];rfl
theorem implNs(a b:List zG)(ha:BN a):nS a b=some (eqL lpB a b):=by
 have hb:=ha.1;unfold nS xS;by_cases hl:a.length=b.length
 ·have hf:=zKL (q:=lpB) hl (f:=yE a b tK) (λi h1 h2=>by
   rw[yE];have c:((i:Int)<(a.length:Int)):=by omega
   have hc:=ha.2 _ (gM h1);have e:tK a[i] b[i]=some (lpB a[i] b[i]):=by
    unfold tK lpB;rw[implSd _ _ hc.1,implSd _ _ hc.2];cases eqL afB a[i].Lo b[i].Lo <;> rfl
   simp only[c,dT,if_true,xA h1,xA h2,e,oB,oS,oP];rw[uF (by omega)];cases lpB a[i] b[i] <;> rfl) (by rw[yE];simp)
  have e:((a.length:Int) != (b.length:Int))=false:=by simp[hl]
  rw[hf,e];cases eqL lpB a b <;> rfl
 ·have e:((a.length:Int) != (b.length:Int))=true:=by simp;omega
  rw[e,zIE hl];rfl
end Go.LN
namespace Go.LN
def fuP(P:zC)(k:Nat):zC:=⟨P.Arrays,P.Parts.take k++⟨(gP P k).Nest,(gP P k).Body++(gP P (k+1)).Body⟩::P.Parts.drop (k+2)⟩
def diP(P:zC)(k n:Nat):zC:=⟨P.Arrays,P.Parts.take k++⟨(gP P k).Nest,(gP P k).Body.take n⟩::⟨(gP P k).Nest,(gP P k).Body.drop n⟩::P.Parts.drop (k+1)⟩
theorem zLk{P:zC}{i:Nat}(h:i<P.Parts.length):gP P i=P.Parts[i]:=by simp[gP,h]
theorem zP9{P:zC}{k:Nat}(h:k<P.Parts.length):P.Parts.drop k=gP P k::P.Parts.drop (k+1):=by
 rw[zLk h];exact gC h
theorem zP6{P:zC}{k:Nat}(h:k+1<P.Parts.length):(fuP P k).Parts.length=P.Parts.length - 1:=by
 unfold fuP;simp only[lA,ci,cj,co];omega
theorem zP7{P:zC}{k n:Nat}(h:k<P.Parts.length):(diP P k n).Parts.length=P.Parts.length+1:=by
 unfold diP;simp only[lA,ci,cj,co];omega
def fuD(P:zC)(part:Int)(d:yR):Bool:=(zIns P d.From.toNat).Part==part&&((zIns P d.To.toNat).Part==part+1&&ltL (zIns P d.To.toNat).Point (zIns P d.From.toNat).Point)
def diD(P:zC)(part n:Int)(d:yR):Bool:=(zIns P d.From.toNat).Part==part&&((zIns P d.To.toNat).Part==part&&(decide ((zIns P d.To.toNat).Stmt<n)&&decide (n<=(zIns P d.From.toNat).Stmt)))
end Go.LN
namespace Go.LN
def zP:zC:=⟨[],[]⟩
def finQ(Q:zC):zC×Bool:=if validP Q then(Q,true) else(zP,false)
def okFu(P:zC)(part:Int):Bool:=validP P&&(decide (0<=part)&&decide (part+1<(P.Parts.length:Int)))&&eqL lpB (gP P part.toNat).Nest (gP P (part.toNat+1)).Nest && !((dpF P).any (fuD P part))
def fuF(P:zC)(part:Int):zC×Bool:=if okFu P part then finQ (fuP P part.toNat) else(zP,false)
def okDi(P:zC)(part n:Int):Bool:=validP P&&(decide (0<=part)&&decide (part<(P.Parts.length:Int)))&&(decide (1<=n)&&decide (n<((gP P part.toNat).Body.length:Int))) && !((dpF P).any (diD P part n))
def diF(P:zC)(part n:Int):zC×Bool:=if okDi P part n then finQ (diP P part.toNat n.toNat) else(zP,false)
theorem appN{α:Type}{b:Nat}(p:List α)(h:p.length*b<=140737488355328):app b ([]:List α) p=some p:=by
 rw[qJ (by simpa using h)];rfl
theorem zJj{R S:Type}{r0:R}{z:S}{n:Nat}{f:Int->Option (Out S R)}{P:Nat->Bool}(step:∀i,i<n->f (i:Int)=if P i then some (.ret r0) else f ((i+1:Nat):Int))(fin:f (n:Int)=some (.done z)):f 0=some (if(List.range n).any P then .ret r0 else .done z):=by
 have key:∀(j i:Nat),i+j=n->f (i:Int)=some (if(List.range' i j).any P then .ret r0 else .done z):=by
  intro j
  induction j with
  | zero=>intro i hi;rw[show i=n by omega,fin];simp
  | succ j ih=>
   intro i hi;rw[step i (by omega),ih (i+1) (by omega),dk,List.any_cons];cases P i <;> rfl
 have:=key n 0 (cy _);rw[nZ] at this;rw[this,List.range_eq_range']
theorem zAr{P:zC}(hv:validP P=true){i:Nat}(hi:i<P.Parts.length):1<=(gP P i).Body.length/\(gP P i).Body.length<=4/\P.Parts.length<=4:=by
 obtain⟨h1,h2,h3,h4⟩:=gV hv;have hp:=h3 i hi;simp only[partB,bA] at hp;obtain⟨b1,b2,_⟩:=zBC hp.1.2;exact⟨b1,b2,h2⟩
theorem zLL{P:zC}{i:Nat}(hi:i<P.Parts.length):gP P i∈P.Parts:=by rw[zLk hi];exact gM hi
theorem zOq{P:zC}(hb:BG P)(hv:validP P=true){k:Nat}(hk:k+1<P.Parts.length):BG (fuP P k):=by
 have h1:=zAr hv hk;have h2:=zAr hv (show k<P.Parts.length by omega);have b1:=hb.2.2 _ (zLL hk);have b2:=hb.2.2 _ (zLL (show k<P.Parts.length by omega));refine⟨hb.1,by rw[zP6 hk];omega,λx hx=>?_⟩;unfold fuP at hx;rcases cX.1 hx with hx|hx
 ·exact hb.2.2 x (fm hx)
 ·rcases cQ.1 hx with rfl|hx
  ·refine⟨b2.1,by simp only[lA];omega,λs hs=>?_⟩;rcases cX.1 hs with hs|hs
   ·exact b2.2.2 s hs
   ·exact b1.2.2 s hs
  ·exact hb.2.2 x (dy hx)
theorem zPn{P:zC}(hb:BG P)(hv:validP P=true){k n:Nat}(hk:k<P.Parts.length):BG (diP P k n):=by
 have h2:=zAr hv hk;have b2:=hb.2.2 _ (zLL hk);refine⟨hb.1,by rw[zP7 hk];omega,λx hx=>?_⟩;unfold diP at hx;rcases cX.1 hx with hx|hx
 ·exact hb.2.2 x (fm hx)
 ·rcases cQ.1 hx with rfl|hx
  ·exact⟨b2.1,by simp only[ci];omega,λs hs=>b2.2.2 s (fm hs)⟩
  ·rcases cQ.1 hx with rfl|hx
   ·exact⟨b2.1,by simp only[co];omega,λs hs=>b2.2.2 s (dy hs)⟩
   ·exact hb.2.2 x (dy hx)
theorem implFin{Q:zC}(hb:BG Q):gD Q=some (finQ Q):=by
 unfold gD finQ;rw[implValidP Q hb];cases hv:validP Q with
 | false=>rfl
 | true=>simp only[oB,oS,bT,bF,if_false,ownPg hb hv,if_true];rfl
theorem implBegun{P:zC}(hb:BG P)(part:Int):zAG P part=some (if validP P&&(decide (0<=part)&&decide (part<=(P.Parts.length:Int) - 1)) then some P else none):=by
 unfold zAG;rw[implValidP P hb];cases hv:validP P with
 | false=>rfl
 | true=>
  simp only[oB,oS,if_true,isPartL hb,cu];cases hp:(decide (0<=part)&&decide (part<=(P.Parts.length:Int) - 1)) with
  | false=>rfl
  | true=>
   simp only[bA,decide_eq_true_eq] at hp;have hi:idx P.Parts part=some (P.Parts[part.toNat]'(by omega)):=by
    have:=xA (l:=P.Parts) (i:=part.toNat) (by omega);rwa[show ((part.toNat:Nat):Int)=part by omega] at this
   simp only[if_true,ownPg hb hv,hi,oS];rfl
theorem zKM{P:zC}{part:Int}(h0:0<=part)(h1:part<(P.Parts.length:Int)):idx P.Parts part=some (gP P part.toNat):=by
 have:=xA (l:=P.Parts) (i:=part.toNat) (by omega);rw[show ((part.toNat:Nat):Int)=part by omega] at this;rw[this,zLk (by omega)]
theorem zNd{P:zC}{d:yR}(h:d∈dpF P):idx (progI P) d.From=some (zIns P d.From.toNat)/\idx (progI P) d.To=some (zIns P d.To.toNat)/\d.From.toNat<(progI P).length/\d.To.toNat<(progI P).length:=by
 obtain⟨hv,i,k,e1,e2,h1,h2⟩:=zO6 h;rw[e1,e2,iN,iN,xA (show i<(progI P).length by omega),xA h2,zHT (show i<(progI P).length by omega),zHT h2];exact⟨rfl,rfl,by omega,h2⟩
theorem tdeps{P:zC}(hb:BG P)(hv:validP P=true):mJ (trcP P)=some (dpF P):=by
 have bf:=(gV hv).2.2.2;have hi:∀z∈progI P,InP P z:=λz hz=>zHR hb hv hz;have hl:=zO4 hi bf _ 0 [] (cy _) (by simp);rw[nZ,cC] at hl;unfold dpF;simp only[mJ,hl,hv,if_true,oB,oS,oP,id]
theorem zOa{P:zC}(hb:BG P)(hv:validP P=true){i:Nat}(hi:i<(progI P).length):(zIns P i).Point.length=(gP P (zIns P i).Part.toNat).Nest.length/\(zIns P i).Point.length<=4:=
 ⟨zMG (zHR hb hv (zJh hi)).pin.2.2.2,(zHR hb hv (zJh hi)).pt⟩
theorem zPo{P:zC}(hb:BG P)(hv:validP P=true){part:Int}(h0:0<=part)(h1:part+1<(P.Parts.length:Int)):tY part (trcP P) (dpF P) zP 0=some (if(dpF P).any (fuD P part) then .ret (zP,false) else .done zP):=by
 have bf:=zMI (P:=P);have h4:=(zAr hv (show 0<P.Parts.length by omega)).2.2;rw[<- zHS (dpF P) (fuD P part) ⟨0,0,0⟩];refine zJj (f:=tY part (trcP P) (dpF P) zP) (λi hi=>?_) ?_
 ·have hc:((i:Int)<((dpF P).length:Int)):=by omega
  obtain⟨a1,a2,a3,a4⟩:=zNd (gM hi);have hg:(dpF P).getD i ⟨0,0,0⟩=(dpF P)[i]:=by simp[hi]
  rw[tY,hg];simp only[hc,dT,if_true,xA hi,zLI,a1,a2,oB,oS,oP];unfold fuD;rw[rE (x:=part+1) (by omega) (by omega),implLex (by have:=(zOa hb hv a4).2;omega)];rw[uF (by omega)];cases (zIns P (dpF P)[i].From.toNat).Part==part <;> cases (zIns P (dpF P)[i].To.toNat).Part==part+1 <;> cases ltL (zIns P (dpF P)[i].To.toNat).Point (zIns P (dpF P)[i].From.toNat).Point <;> rfl
 ·rw[tY];simp
theorem zPp{P:zC}(hb:BG P)(hv:validP P=true){part n:Int}:vJ part n (trcP P) (dpF P) zP 0=some (if(dpF P).any (diD P part n) then .ret (zP,false) else .done zP):=by
 have bf:=zMI (P:=P);rw[<- zHS (dpF P) (diD P part n) ⟨0,0,0⟩];refine zJj (f:=vJ part n (trcP P) (dpF P) zP) (λi hi=>?_) ?_
 ·have hc:((i:Int)<((dpF P).length:Int)):=by omega
  obtain⟨a1,a2,a3,a4⟩:=zNd (gM hi);have hg:(dpF P).getD i ⟨0,0,0⟩=(dpF P)[i]:=by simp[hi]
  rw[vJ,hg];simp only[hc,dT,if_true,xA hi,zLI,a1,a2,oB,oS,oP];unfold diD;rw[uF (by omega)];simp only[ge_iff_le];cases (zIns P (dpF P)[i].From.toNat).Part==part <;> cases (zIns P (dpF P)[i].To.toNat).Part==part <;> cases decide ((zIns P (dpF P)[i].To.toNat).Stmt<n) <;> cases decide (n<=(zIns P (dpF P)[i].From.toNat).Stmt) <;> rfl
 ·rw[vJ];simp
theorem zOb{P:zC}{k:Nat}(h:k+1<P.Parts.length)(x:zF):(P.Parts.set k x).take (k+1)++(P.Parts.set k x).drop (k+1+1)=P.Parts.take k++x::P.Parts.drop (k+2):=by
 rw[List.drop_set_of_lt (by omega),f2,ew (by omega),List.take_set_of_le (cW _)];simp
theorem zOc{P:zC}{k:Nat}(h:k<P.Parts.length)(x y:zF):(P.Parts.set k x).take (k+1)++[y]++(P.Parts.set k x).drop (k+1)=P.Parts.take k++x::y::P.Parts.drop (k+1):=by
 rw[List.drop_set_of_lt (by omega),f2,ew (by omega),List.take_set_of_le (cW _)];simp
theorem implFu(P:zC)(hb:BG P)(part:Int):zAI P part=some (fuF P part):=by
 unfold zAI fuF okFu;rw[implBegun hb];cases hv:validP P with
 | false=>rfl
 | true=>
  simp only[cu,oB,oS];by_cases hp:0<=part/\part<=(P.Parts.length:Int) - 1
  ·have h4:=(zAr hv (show 0<P.Parts.length by omega)).2.2;have ep0:idx P.Parts part=some (gP P part.toNat):=zKM hp.1 (by omega);simp only[hp.1,hp.2,dT,f3,if_true,cu,ep0,oS,rE (x:=part+1) (by omega) (by omega)];by_cases h1:part+1<(P.Parts.length:Int)
   ·have h1':¬(part+1>=(P.Parts.length:Int)):=by omega
    have b1:=hb.2.2 _ (zLL (show part.toNat<P.Parts.length by omega));have q1:=zAr hv (show part.toNat<P.Parts.length by omega);have q2:=zAr hv (show part.toNat+1<P.Parts.length by omega);have ei:idx P.Parts (part+1)=some (gP P (part.toNat+1)):=by
     have:=zKM (P:=P) (part:=part+1) (by omega) h1;rwa[show (part+1).toNat=part.toNat+1 by omega] at this
    simp only[h1,h1',dF,dT,cu,bF,if_false,ei,oS,implNs _ _ b1.1];cases hn:eqL lpB (gP P part.toNat).Nest (gP P (part.toNat+1)).Nest with
    | false=>rfl
    | true=>
     simp only[bT,bF,if_false,cu,implTrace P hb,hv,if_true,oS,tdeps hb hv];rw[show tY part (trcP P) (dpF P) (zC.mk ([]:List zD) ([]:List zF)) 0=_ from zPo hb hv hp.1 h1];cases hd:(dpF P).any (fuD P part) with
     | true=>rfl
     | false=>
      have hs:(P.Parts.set part.toNat (zF.mk (gP P part.toNat).Nest ((gP P part.toNat).Body++(gP P (part.toNat+1)).Body))).length=P.Parts.length:=cP;have hdel:uN (P.Parts.set part.toNat (zF.mk (gP P part.toNat).Nest ((gP P part.toNat).Body++(gP P (part.toNat+1)).Body))) (part+1) (part+2)=some (fuP P part.toNat).Parts:=by
       unfold uN;rw[if_pos ⟨by omega,by rw[hs];exact h1,by omega,by rw[hs];omega⟩,show (part+1).toNat=part.toNat+1 by omega,zOb (by omega)];rfl
      simp only[bF,if_false,di,if_true,oS,qJ (show ((gP P part.toNat).Body.length+(gP P (part.toNat+1)).Body.length)*152<=140737488355328 by omega),oP,rE (x:=part+2) (by omega) (by omega),hdel];have:=implFin (zOq hb hv (k:=part.toNat) (by omega));unfold fuP at this;rw[show (zC.mk P.Arrays (fuP P part.toNat).Parts)=fuP P part.toNat from rfl];rw[implFin (zOq hb hv (k:=part.toNat) (by omega))];rfl
   ·have h1':part+1>=(P.Parts.length:Int):=by omega
    simp only[h1,h1',dT,dF,if_true,Bool.false_and,bF,if_false];rfl
  ·have e:(decide (0<=part)&&decide (part<=(P.Parts.length:Int) - 1))=false:=by
    cases hq:(decide (0<=part)&&decide (part<=(P.Parts.length:Int) - 1)) with
    | false=>rfl
    | true=>simp only[bA,decide_eq_true_eq] at hq;exact absurd hq hp
   have e2:(decide (0<=part)&&decide (part+1<(P.Parts.length:Int)))=false:=by
    cases hq:(decide (0<=part)&&decide (part+1<(P.Parts.length:Int))) with
    | false=>rfl
    | true=>simp only[bA,decide_eq_true_eq] at hq;exact absurd ⟨hq.1,by omega⟩ hp
   rw[e,e2];rfl
theorem implDi(P:zC)(hb:BG P)(part n:Int):jS P part n=some (diF P part n):=by
 unfold jS diF okDi;rw[implBegun hb];cases hv:validP P with
 | false=>rfl
 | true=>
  simp only[cu,oB,oS];by_cases hp:0<=part/\part<=(P.Parts.length:Int) - 1
  ·have h4:=(zAr hv (show 0<P.Parts.length by omega)).2.2;have hpl:part<(P.Parts.length:Int):=by omega
   have b1:=hb.2.2 _ (zLL (show part.toNat<P.Parts.length by omega));have q1:=zAr hv (show part.toNat<P.Parts.length by omega);simp only[hp.1,hp.2,hpl,dT,f3,if_true,cu,zKM hp.1 hpl,oS,kR,rE (x:=((gP P part.toNat).Body.length:Int) - 1) (by omega) (by omega),oP];by_cases h1:1<=n/\n<=((gP P part.toNat).Body.length:Int) - 1
   ·have h1':n<((gP P part.toNat).Body.length:Int):=by omega
    simp only[h1.1,h1.2,h1',dT,f3,bT,bF,if_false,cu,implTrace P hb,hv,if_true,oS,tdeps hb hv];rw[show vJ part n (trcP P) (dpF P) (zC.mk ([]:List zD) ([]:List zF)) 0=_ from zPp hb hv];cases hd:(dpF P).any (diD P part n) with
    | true=>rfl
    | false=>
     have en:((n.toNat:Nat):Int)=n:=by omega
     have s1:slc (gP P part.toNat).Body n ((gP P part.toNat).Body.length:Int)=some ((gP P part.toNat).Body.drop n.toNat):=by
      have:=zJy (s:=(gP P part.toNat).Body) (f:=n.toNat) (i:=(gP P part.toNat).Body.length) (by omega) (cW _);rwa[en,fa] at this
     have s2:slc (gP P part.toNat).Body 0 n=some ((gP P part.toNat).Body.take n.toNat):=by
      have:=zJy (s:=(gP P part.toNat).Body) (f:=0) (i:=n.toNat) (by omega) (by omega);rwa[en] at this
     have hc:uT ((gP P part.toNat).Body.drop n.toNat)=some ((gP P part.toNat).Body.drop n.toNat):=by
      unfold uT;exact appN ((gP P part.toNat).Body.drop n.toNat) (by rw[co];omega)
     have hs:(P.Parts.set part.toNat (zF.mk (gP P part.toNat).Nest ((gP P part.toNat).Body.take n.toNat))).length=P.Parts.length:=cP;have hins:uM (P.Parts.set part.toNat (zF.mk (gP P part.toNat).Nest ((gP P part.toNat).Body.take n.toNat))) (part+1) [zF.mk (gP P part.toNat).Nest ((gP P part.toNat).Body.drop n.toNat)]=some (diP P part.toNat n.toNat).Parts:=by
      unfold uM;rw[if_pos ⟨by omega,by rw[hs];omega,by rw[hs];omega,rfl⟩,show (part+1).toNat=part.toNat+1 by omega,zOc (by omega)];rfl
     simp only[bF,if_false,di,if_true,oS,ownNs _ b1.1,s1,s2,hc,rE (x:=part+1) (by omega) (by omega),hins];rw[show (zC.mk P.Arrays (diP P part.toNat n.toNat).Parts)=diP P part.toNat n.toNat from rfl];rw[implFin (zPn hb hv (k:=part.toNat) (by omega))];rfl
   ·have e:(decide (1<=n)&&decide (n<=((gP P part.toNat).Body.length:Int) - 1))=false:=by
     cases hq:(decide (1<=n)&&decide (n<=((gP P part.toNat).Body.length:Int) - 1)) with
     | false=>rfl
     | true=>simp only[bA,decide_eq_true_eq] at hq;exact absurd hq h1
    have e2:(decide (1<=n)&&decide (n<((gP P part.toNat).Body.length:Int)))=false:=by
     cases hq:(decide (1<=n)&&decide (n<((gP P part.toNat).Body.length:Int))) with
     | false=>rfl
     | true=>simp only[bA,decide_eq_true_eq] at hq;exact absurd ⟨hq.1,by omega⟩ h1
    rw[e,e2];rfl
  ·have e:(decide (0<=part)&&decide (part<=(P.Parts.length:Int) - 1))=false:=by
    cases hq:(decide (0<=part)&&decide (part<=(P.Parts.length:Int) - 1)) with
    | false=>rfl
    | true=>simp only[bA,decide_eq_true_eq] at hq;exact absurd hq hp
   have e2:(decide (0<=part)&&decide (part<(P.Parts.length:Int)))=false:=by
    cases hq:(decide (0<=part)&&decide (part<(P.Parts.length:Int))) with
    | false=>rfl
    | true=>simp only[bA,decide_eq_true_eq] at hq;exact absurd ⟨hq.1,by omega⟩ hp
   rw[e,e2];rfl
theorem sDeps{P:zC}(hb:BG P)(hv:validP P=true):zA2 P=some (dpF P):=by
 rw[specDeps6 P hb hv];unfold dpF;rw[if_pos hv]
theorem specWith{P Q:zC}(hb:BG P)(hv:validP P=true)(hq:BG Q){k m:Nat}(hk:k+m<=P.Parts.length){parts:List zF}(hl:parts.length<=2)(hA:Q.Arrays=P.Arrays)(hP:Q.Parts=P.Parts.take k++parts++P.Parts.drop (k+m)){part many:Int}(e1:part=(k:Int))(e2:many=(m:Int)):
 zBG P part many parts=some (finQ Q):=by
 subst e1;subst e2
 have h4:P.Parts.length<=4:=(gV hv).2.1
 have hw:W ((k:Int)+(m:Int))=((k+m:Nat):Int):=by rw[rE (by omega) (by omega)];omega
 have s1:slc P.Parts 0 (k:Int)=some (P.Parts.take k):=zJy (f:=0) (et _) (by omega)
 have s2:slc P.Parts ((k+m:Nat):Int) (P.Parts.length:Int)=some (P.Parts.drop (k+m)):=by
  have:=zJy (s:=P.Parts) (f:=k+m) (i:=P.Parts.length) hk (cW _)
  rwa[fa] at this
 unfold zBG
 simp only[copyProg P hb,s1,s2,hw,oB,oS,qJ (l:=([]:List zF)) (k:=P.Parts.take k) (b:=48) (by rw[ci];simp;omega),cC,qJ (l:=P.Parts.take k) (k:=parts) (b:=48) (by rw[ci];omega),qJ (l:=P.Parts.take k++parts) (k:=P.Parts.drop (k+m)) (b:=48) (by rw[lA,ci,co];omega)]
 rw[<- hP,<- hA,show (zC.mk Q.Arrays Q.Parts)=Q from rfl,specValidP Q hq]
 unfold finQ
 cases hvq:validP Q with
 | false=>rfl
 | true=>simp only[oS,bT,bF,if_false,copyProg Q hq,if_true];rfl
theorem zPr{Q:zC}(h:BG Q):BG (finQ Q).1:=by
 unfold finQ;split
 ·exact h
 ·exact⟨⟨by simp[zP],λ_ h=>by cases h⟩,by simp[zP],λ_ h=>by cases h⟩
theorem zPx:BG zP:=⟨⟨by simp[zP],λ_ h=>by cases h⟩,by simp[zP],λ_ h=>by cases h⟩
theorem args8(s:zQ)(h0:0<=s.p)(h1:s.p<=40000000):Ok (zBF s) (λy=>BG y.1):=by
 unfold zBF;refine Ok.call (zLd s) ⟨h0,by omega⟩ λa t g1 g2 g3=>?_;refine Ok.bind (mut4 t a g1.dp (by omega) (by omega)) λp hp=>?_;obtain⟨P,r⟩:=p;obtain⟨⟨hp1,_⟩,hp2,hp3⟩:=hp;dsimp only at hp2 hp3;exact Ok.call (uO r _) ⟨by decide,hp2,by omega,by decide⟩ λy s2 _ k4 k5=>Ok.call (uO s2 _) ⟨by decide,by omega,by omega,by decide⟩ λy s3 _ k6 k7=>Ok.call (uO s3 _) ⟨by decide,by omega,by omega,by decide⟩ λy s4 _ _ _=>Ok.pure hp1
end Go.LN
