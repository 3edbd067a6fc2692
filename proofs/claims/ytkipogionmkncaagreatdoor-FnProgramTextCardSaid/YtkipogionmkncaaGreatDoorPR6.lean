/- Helper of the proof (see the last text). -/
import Derived.Test.YtkipogionmkncaaGreatDoorPN2
set_option linter.unusedVariables false
set_option linter.unusedSimpArgs false
namespace Go.LN
theorem zOw{a:zJ}{d:Int}(ha:accB a d=true){b:UInt8}(hb:b∈acT a):b.toNat<128:=by
 obtain⟨⟨c,e,_,g2⟩,v1,_⟩:=eM ha;unfold acT at hb;rw[e] at hb;simp only[yr,yh,As,or_false] at hb;rcases hb with rfl|rfl|hb|rfl
 ·omega
 ·decide
 ·exact zM5 v1.2 hb
 ·decide
theorem zM6{d:Int}:∀(n:Nat) (e:zF),shapeB d n e=true->∀b∈exT n e,b.toNat<128
 | 0,_,h=>by cases h
 | n+1,e,h=>by
  intro b hb
  cases zBR h with
  | num k hk=>
   rw[zDD] at hb
   exact zBx (zCy ⟨k,by omega⟩).2.2.2 hb
  | ix a ha=>
   unfold okA at ha
   rw[xv] at ha
   rw[zGF] at hb
   simp only[yr,yh,As,or_false] at hb
   rcases hb with rfl|hb|rfl
   ·decide
   ·exact zBx (zIm ha.1) hb
   ·decide
  | rd a ha=>rw[zGG] at hb;exact zOw ha hb
  | op k x y hk hx hy=>
   rw[zGH hk] at hb
   simp only[yr,yh,As,or_false] at hb
   rcases hb with rfl|hb|rfl|hb|rfl
   ·decide
   ·exact zM6 n x hx b hb
   ·rcases hk with rfl|rfl|rfl <;> decide
   ·exact zM6 n y hy b hb
   ·decide
theorem zQx{s:zI}{d:Int}(h:stmtB s d=true):asc (stT s)=true:=zCe λb hb=>by
 obtain⟨a1,a2⟩:=dO h;unfold stT at hb;rcases yr.1 hb with hb|hb
 ·exact zOw a1 hb
 ·rcases yh.1 hb with rfl|hb
  ·decide
  ·exact zM6 5 _ a2 b hb
theorem zNI{d d':Int}(h:d<=d'){a:zA}(ha:okA d a=true):okA d' a=true:=by
 unfold okA at ha ⊢;simp only[xv,yd] at ha ⊢;exact⟨ha.1,by omega⟩
theorem zNJ{d d':Int}(h:d<=d'){a:zJ}(ha:accB a d=true):accB a d'=true:=by
 unfold accB at ha ⊢;simp only[xv,yb] at ha ⊢;exact⟨ha.1,λx hx=>zNI h (ha.2 x hx)⟩
theorem zQF{d d':Int}(h:d<=d'){e:zF}(he:ownB e d=true):ownB e d'=true:=by
 unfold ownB at he ⊢;split
 ·rename_i hk;rw[if_pos hk] at he;simp only[xv] at he ⊢;exact⟨he.1,zNI h he.2⟩
 ·rename_i hk;rw[if_neg hk] at he;split
  ·rename_i pn;rw[if_pos pn] at he;simp only[xv] at he ⊢;exact⟨he.1,zNJ h he.2⟩
  ·rename_i pn;rw[if_neg pn] at he;exact he
theorem zJw{d d':Int}(h:d<=d'):∀(n:Nat) (e:zF),shapeB d n e=true->shapeB d' n e=true
 | 0,_,h1=>h1
 | n+1,e,h1=>by
  unfold shapeB at h1 ⊢
  simp only[xv,yb] at h1 ⊢
  exact⟨⟨h1.1.1,zQF h h1.1.2⟩,λx hx=>zJw h n x (h1.2 x hx)⟩
theorem zOx{d d':Int}(h:d<=d')(h4:d'<=4){s:zI}(hs:stmtB s d=true):stmtB s d'=true:=by
 unfold stmtB at hs ⊢;simp only[xv,yd] at hs ⊢;exact⟨⟨⟨by omega,h4⟩,zNJ h hs.1.2⟩,zJw h _ _ hs.2.1,hs.2.2⟩
theorem zLm{u r:List UInt8}(h:(32:UInt8) ∉ u):(Lib.cut (u++32::r) [32]).1=u:=by rw[zOn h]
theorem zJA{c:UInt8}:∀{u:List UInt8},c ∉ u->Lib.index u [c]=-1
 | [],_=>by simp[Lib.index]
 | b::u,h=>by
  have hb:c ≠ b:=λe=>h (by rw[e];exact xz ..)
  have ih:=zJA (u:=u) λhm=>h (xx _ hm)
  have hp:([c]:List UInt8).isPrefixOf (b::u)=false:=by simp[List.isPrefixOf,hb]
  rw[Lib.index,hp,ih]
  rfl
theorem zLn{u:List UInt8}(h:(32:UInt8) ∉ u):(Lib.cut u [32]).1=u:=by
 unfold Lib.cut;rw[zJA h,if_neg (by omega)]
def Rd(f:zH->Str->Option zH):List (List UInt8)->zH->Option zH
 | [],p=>some p
 | l::L,p=>(f p ⟨l⟩).bind λq=>Rd f L q
theorem zKe{f:zH->Str->Option zH}:∀(L M:List (List UInt8)) (p:zH),Rd f (L++M) p=(Rd f L p).bind λq=>Rd f M q
 | [],M,p=>rfl
 | l::L,M,p=>by
  show (f p ⟨l⟩).bind _=((f p ⟨l⟩).bind _).bind _
  cases f p ⟨l⟩ with
  | none=>rfl
  | some q=>exact zKe L M q
def PART:List UInt8:=[112,97,114,116]
structure Reads1(f:zH->Str->Option zH):Prop where
 ar:∀(A:List zE) (a:zE),A.length<4->AV1 a/\a.Dims.length<=2->f ⟨A,[]⟩ ⟨arL a⟩=some ⟨A++[a],[]⟩
 pt:∀(A:List zE) (X:List zL),A.length<=4->X.length<4->f ⟨A,X⟩ ⟨PART⟩=some ⟨A,X++[⟨[],[]⟩]⟩
 lp:∀(A:List zE) (X:List zL) (n:List zD) (b:List zI) (l:zD),A.length<=4->X.length<4->n.length<4->b.length<=4->LV l/\l.Lo.length<=2/\l.Hi.length<=2->f ⟨A,X++[⟨n,b⟩]⟩ ⟨lpT l⟩=some ⟨A,X++[⟨n++[l],b⟩]⟩
 st:∀(A:List zE) (X:List zL) (n:List zD) (b:List zI) (s:zI),A.length<=4->X.length<4->n.length<=4->b.length<4->stmtB s 4=true->f ⟨A,X++[⟨n,b⟩]⟩ ⟨stT s⟩=some ⟨A,X++[⟨n,b++[s]⟩]⟩
section
variable {f:zH->Str->Option zH} (h:Reads1 f)
include h
theorem zQT:∀(B A:List zE),A.length+B.length<=4->(∀a∈B,AV1 a/\a.Dims.length<=2)->Rd f (B.map arL) ⟨A,[]⟩=some ⟨A++B,[]⟩
 | [],A,_,_=>by rw[yk];rfl
 | a::B,A,hl,hB=>by
  rw[xy] at hl
  show (f ⟨A,[]⟩ ⟨arL a⟩).bind _=_
  rw[h.ar A a (by omega) (hB a (xz ..))]
  show Rd f (B.map arL) ⟨A++[a],[]⟩=_
  rw[zQT B (A++[a]) (by rw[yc];show A.length+1+_<=4;omega) λx hx=>hB x (xx _ hx),yu];rfl
theorem zQU{A:List zE}{X:List zL}(hA:A.length<=4)(hX:X.length<4){b:List zI}(hb:b.length<=4):∀(m n:List zD),n.length+m.length<=4->NV m->Rd f (m.map lpT) ⟨A,X++[⟨n,b⟩]⟩=some ⟨A,X++[⟨n++m,b⟩]⟩
 | [],n,_,_=>by rw[yk];rfl
 | l::m,n,hl,hm=>by
  rw[xy] at hl
  show (f ⟨A,X++[⟨n,b⟩]⟩ ⟨lpT l⟩).bind _=_
  rw[h.lp A X n b l hA hX (by omega) hb (hm l (xz ..))]
  show Rd f (m.map lpT) ⟨A,X++[⟨n++[l],b⟩]⟩=_
  rw[zQU hA hX hb m (n++[l]) (by rw[yc];show n.length+1+_<=4;omega) λx hx=>hm x (xx _ hx),yu];rfl
theorem zQV{A:List zE}{X:List zL}(hA:A.length<=4)(hX:X.length<4){n:List zD}(hn:n.length<=4):∀(c b:List zI),b.length+c.length<=4->(∀s∈c,stmtB s 4=true)->Rd f (c.map stT) ⟨A,X++[⟨n,b⟩]⟩=some ⟨A,X++[⟨n,b++c⟩]⟩
 | [],b,_,_=>by rw[yk];rfl
 | s::c,b,hl,hc=>by
  rw[xy] at hl
  show (f ⟨A,X++[⟨n,b⟩]⟩ ⟨stT s⟩).bind _=_
  rw[h.st A X n b s hA hX hn (by omega) (hc s (xz ..))]
  show Rd f (c.map stT) ⟨A,X++[⟨n,b++[s]⟩]⟩=_
  rw[zQV hA hX hn c (b++[s]) (by rw[yc];show b.length+1+_<=4;omega) λx hx=>hc x (xx _ hx),yu];rfl
theorem zOy{A:List zE}(hA:A.length<=4):∀(Y X:List zL),X.length+Y.length<=4->(∀y∈Y,(y.Nest.length<=4/\NV y.Nest)/\y.Body.length<=4/\∀s∈y.Body,stmtB s 4=true)->Rd f (Y.flatMap prL) ⟨A,X⟩=some ⟨A,X++Y⟩
 | [],X,_,_=>by rw[yk];rfl
 | y::Y,X,hl,hY=>by
  rw[xy] at hl
  obtain⟨⟨y1,y2⟩,y3,y4⟩:=hY y (xz ..)
  rw[yf,zKe]
  have e:Rd f (prL y) ⟨A,X⟩=some ⟨A,X++[y]⟩:=by
   unfold prL
   show (f ⟨A,X⟩ ⟨PART⟩).bind _=_
   rw[h.pt A X hA (by omega)]
   show Rd f (y.Nest.map lpT++y.Body.map stT) ⟨A,X++[⟨[],[]⟩]⟩=_
   rw[zKe,zQU h hA (by omega) (by simp) y.Nest [] (by simpa using y1) y2]
   show Rd f (y.Body.map stT) ⟨A,X++[⟨[]++y.Nest,[]⟩]⟩=_
   rw[zQV h hA (by omega) (by simpa using y1) y.Body [] (by simpa using y3) y4]
   rfl
  rw[e]
  show Rd f (Y.flatMap prL) ⟨A,X++[y]⟩=_
  rw[zOy hA Y (X++[y]) (by rw[yc];show X.length+1+_<=4;omega) λz hz=>hY z (xx _ hz),yu];rfl
theorem zQW{P:zH}(hv:validP P=true):Rd f (pgL P) ⟨[],[]⟩=some P:=by
 obtain⟨⟨a1,a2⟩,p1,p2⟩:=zA1 hv;unfold pgL;rw[zKe,zQT h P.Arrays [] (by simpa using a1) a2];show Rd f (P.Parts.flatMap prL) ⟨[]++P.Arrays,[]⟩=_;rw[yy,zOy h a1 P.Parts [] (by simpa using p1) (λy hy=>by
  obtain⟨n1,n2,n3⟩:=zFI (p2 y hy);obtain⟨v1,v2⟩:=zBw n1;exact⟨⟨v1,v2⟩,n2,λs hs=>zOx (by omega) (by omega) (n3 s hs)⟩),yy]
end
theorem zHE{P:zH}(h:validP P=true):BG P:=by
 obtain⟨⟨a1,a2⟩,p1,p2⟩:=zA1 h;refine⟨⟨by omega,λa ha=>by have:=(a2 a ha).2;omega⟩,by omega,λx hx=>?_⟩;obtain⟨n1,n2,n3⟩:=zFI (p2 x hx);exact⟨(zKa n1).bn (by have:=(zBw n1).1;omega),by omega,λs hs=>zHo (n3 s hs)⟩
def ResP(t:List UInt8)(r:zH×Bool):Prop:=(r.2=true/\validP r.1=true/\t=pgT r.1)∨(r.2=false/\r.1=⟨[],[]⟩/\∀P,validP P=true->t ≠ pgT P)
theorem ResP.uniq{t:List UInt8}{r s:zH×Bool}(h:ResP t r)(k:ResP t s):r=s:=by
 obtain⟨r1,r2⟩:=r;obtain⟨s1,s2⟩:=s;rcases h with⟨h1,h2,h3⟩|⟨h1,h2,h3⟩ <;> rcases k with⟨k1,k2,k3⟩|⟨k1,k2,k3⟩ <;> simp only at h1 h2 h3 k1 k2 k3
 ·rw[h1,k1,(zM4 h2 k2).1 (h3.symm.trans k3)]
 ·exact absurd h3 (k3 _ h2)
 ·exact absurd k3 (h3 _ k2)
 ·rw[h1,h2,k1,k2]
theorem zOz{P:zH}(hv:validP P=true):cutS 10 (pgT P)=([112,114,111,103,114,97,109]::pgL P)++[[]]:=by
 obtain⟨⟨_,a2⟩,_,p2⟩:=zA1 hv;exact zEN (X:=[112,114,111,103,114,97,109]::pgL P) (λl hl=>by
  rcases yh.1 hl with rfl|hl
  ·decide
  ·exact zIu (λa ha=>(a2 a ha).1) (λx hx=>zK9 (p2 x hx)) l hl)
theorem zQG{Y:List zL}:∀{k:Nat},Y.length<=k->(∀y∈Y,y.Nest.length<=4/\y.Body.length<=4)->(Y.flatMap prL).length<=9*k:=by
 induction Y with
 | nil=>intro k _ _;simp
 | cons y Y ih=>
  intro k hk hY;obtain⟨h1,h2⟩:=hY y (xz ..);rw[xy] at hk;have:=ih (k:=k - 1) (by omega) λz hz=>hY z (xx _ hz);have e:(prL y).length=y.Nest.length+y.Body.length+1:=by
   unfold prL;simp only[xy,yc,ym]
  rw[yf,yc,e];omega
theorem zNK{P:zH}(hv:validP P=true):(pgL P).length<=40:=by
 obtain⟨⟨a1,_⟩,p1,p2⟩:=zA1 hv;have:=zQG p1 λy hy=>by
  obtain⟨n1,n2,_⟩:=zFI (p2 y hy);exact⟨(zBw n1).1,n2⟩
 unfold pgL;rw[yc,ym];omega
theorem zNL:∀{l:List Int}{u:List UInt8},(∀n∈l,1<=n/\n<=6)->(32:UInt8) ∉ u->cutS 32 (u++l.flatMap λn=>32::dtx n.toNat)=u::l.map λn=>dtx n.toNat
 | [],u,_,h=>by rw[Au,yk,zEB h];rfl
 | n::l,u,hl,h=>by
  have h1:=hl n (xz ..)
  have h2:(32:UInt8) ∉ dtx n.toNat:=λhm=>by
   have:=yb.1 (zHm ⟨n.toNat,by omega⟩) 32 hm
   cases this
  rw[yf,ze,zBu h,zNL (λx hx=>hl x (xx _ hx)) h2];rfl
def ARR:List UInt8:=[97,114,114,97,121]
theorem zPA{a:zE}(h:AV1 a):cutS 32 (arL a)=ARR::a.Name.l::a.Dims.map λn=>dtx n.toNat:=by
 obtain⟨⟨c,e,g1,g2⟩,h1⟩:=h;have:arL a=ARR++32::(a.Name.l++a.Dims.flatMap λn=>32::dtx n.toNat):=rfl;rw[this,zBu (by decide),zNL h1 (by
  rw[e];intro hm;have:=yq.1 hm;rw[<- this] at g1;revert g1;decide)]
theorem zPB{a:zE}(h:AV1 a/\a.Dims.length<=2):(arL a).length<=20:=by
 obtain⟨⟨⟨c,e,_⟩,_⟩,h2⟩:=h;unfold arL;rw[e];have:∀l:List Int,(l.flatMap λn=>32::dtx n.toNat).length<=3*l.length:=λl=>by
  induction l with
  | nil=>simp
  | cons n l ih=>
   have:=(kM n.toNat).2;rw[yf,yc,xy,xy];omega
 have:=this a.Dims;simp only[yc,xy,yo];omega
theorem zQH{a:zE}(h:AV1 a):full (cutS 32 (arL a))=ARR::a.Name.l::a.Dims.map λn=>dtx n.toNat:=by
 rw[zPA h];refine List.filter_eq_self.2 λx hx=>?_;have:x ≠ []:=by
  rcases yh.1 hx with rfl|hx
  ·decide
  ·rcases yh.1 hx with rfl|hx
   ·obtain⟨⟨c,e,_⟩,_⟩:=h;rw[e];simp
   ·obtain⟨n,_,rfl⟩:=zi.1 hx;have:=(kM n.toNat).1;intro e;rw[e] at this;exact absurd this (by decide)
 simp[this]
theorem specDm(P:zH)(i:Nat)(hi:i<P.Arrays.length)(h:∀n∈P.Arrays[i].Dims,1<=n/\n<=6)(hl:P.Arrays[i].Dims.length<=2)(o:Str)(ho:o.l.length<=100000):wW P (i:Int) o 0=some ⟨o.l++arN P.Arrays[i]⟩/\(arN P.Arrays[i]).length<=6:=by
 have:=eX (l:=P.Arrays[i].Dims) (f:=wW P (i:Int)) (g:=λn=>32::dtx n.toNat) (C:=100000) (B:=3) (λk hk o ho=>by
  have hd:=h _ (List.getElem_mem hk);have u6:=kM P.Arrays[i].Dims[k].toNat;refine⟨by simp only[xy];omega,?_⟩;have hc:((k:Int)<(P.Arrays[i].Dims.length:Int)):=by omega
  have t:=zDy P.Arrays[i].Dims[k].toNat (by omega);rw[show ((P.Arrays[i].Dims[k].toNat:Nat):Int)=P.Arrays[i].Dims[k] by omega] at t;rw[wW];simp only[yN hi,xr,xp,hc,yg,xu,yN hk,t];generalize dtx P.Arrays[i].Dims[k].toNat=u at u6 ⊢;rw[vM (by simp;omega)];simp only[xp];rw[vM (by simp;omega)];simp only[xp];rw[wY (by omega)];simp) (λo=>by rw[wW];simp[yN hi]) o ho
 obtain⟨h1,h2⟩:=this;exact⟨h1,by unfold arN;omega⟩
theorem specPgT(P:zH)(hv:validP P=true):(do
 let aq<-wX P (⟨[112,114,111,103,114,97,109,10]⟩:Str) 0
 let fx<-wM P aq 0
 pure (id fx))=some (⟨pgT P⟩:Str)/\(pgT P).length<=50000:=by
 obtain⟨⟨a0,a1⟩,p0,p1⟩:=zA1 hv
 have hA:=eX (l:=P.Arrays) (f:=wX P) (g:=λa=>arL a++[10]) (C:=8) (B:=20) (λi hi o ho=>by
  obtain⟨⟨⟨c,e,_⟩,k2⟩,k3⟩:=a1 _ (List.getElem_mem hi)
  have hm:=specDm P i hi k2 k3 ⟨o.l++([97,114,114,97,121,32]++[c])⟩ (by simp;omega)
  obtain⟨m1,m2⟩:=hm
  have eL:arL P.Arrays[i]++[10]=[97,114,114,97,121,32]++[c]++arN P.Arrays[i]++[10]:=by unfold arL arN;rw[e];simp
  rw[eL]
  refine⟨by simp;omega,?_⟩
  have hc:((i:Int)<(P.Arrays.length:Int)):=by omega
  rw[wX]
  simp only[hc,yg,xu,yN hi,xr,xp,e]
  rw[vM (by simp;omega)];simp only[xp]
  rw[vM (by simp;omega)];simp only[xp]
  rw[show (⟨o.l++[97,114,114,97,121,32]++[c]⟩:Str)=⟨o.l++([97,114,114,97,121,32]++[c])⟩ by rw[yu],m1];simp only[xp]
  generalize arN P.Arrays[i]=u at m2 ⊢
  rw[vM (by simp;omega)];simp only[xp]
  rw[wY (by omega)]
  simp) (λo=>by rw[wX];simp) ⟨[112,114,111,103,114,97,109,10]⟩ (by simp)
 obtain⟨A1,A2⟩:=hA
 have hP:=eX (l:=P.Parts) (f:=wM P) (g:=λx=>[112,97,114,116,10]++ntT x.Nest++x.Body.flatMap λs=>stT s++[10]) (C:=100) (B:=10000) (λi hi o ho=>by
  obtain⟨n1,n2,n3⟩:=zFI (p1 _ (List.getElem_mem hi))
  obtain⟨v1,v2⟩:=zBw n1
  have t2:=(implNT _ v2 v1).2
  have t1:=specNT _ v2 (by omega)
  have hB:=eX (l:=P.Parts[i].Body) (f:=vH P (i:Int)) (g:=λs=>stT s++[10]) (C:=100000) (B:=2001) (λj hj o ho=>by
   have q1:=n3 _ (List.getElem_mem hj)
   obtain⟨b1,b2⟩:=dO q1
   have q2:=specAcT _ b1
   have q4:=specExT 5 _ (by omega) b2
   have q3:=zHD q1
   refine⟨by simp;omega,?_⟩
   have hc:((j:Int)<(P.Parts[i].Body.length:Int)):=by omega
   rw[vH]
   simp only[yN hi,xr,xp,hc,yg,xu,yN hj,q2,q4]
   unfold stT at q3 ⊢
   generalize acT P.Parts[i].Body[j].Write=u at q3 ⊢
   generalize exT 5 P.Parts[i].Body[j].Value=v at q3 ⊢
   simp only[yc,xy] at q3
   rw[vM (by omega)];simp only[xp]
   rw[vM (by simp;omega)];simp only[xp]
   rw[vM (by simp;omega)];simp only[xp]
   rw[vM (by simp;omega)];simp only[xp]
   rw[wY (by omega)]
   simp) (λo=>by rw[vH];simp[yN hi]) ⟨o.l++([112,97,114,116,10]++ntT P.Parts[i].Nest)⟩ (by simp;omega)
  obtain⟨B1,B2⟩:=hB
  refine⟨by simp only[yc,xy,yo];omega,?_⟩
  have hc:((i:Int)<(P.Parts.length:Int)):=by omega
  rw[wM]
  simp only[hc,yg,xu,yN hi,xr,xp,t1]
  generalize hu:ntT P.Parts[i].Nest=u at t2 B1 ⊢
  rw[vM (by simp;omega)];simp only[xp]
  rw[vM (by simp;omega)];simp only[xp]
  rw[show (⟨o.l++[112,97,114,116,10]++u⟩:Str)=⟨o.l++([112,97,114,116,10]++u)⟩ by rw[yu],B1];simp only[xp]
  rw[wY (by omega)]
  simp) (λo=>by rw[wM];simp) ⟨[112,114,111,103,114,97,109,10]++P.Arrays.flatMap λa=>arL a++[10]⟩ (by simp only[yc,xy,yo];omega)
 have e2:pgT P=[112,114,111,103,114,97,109,10]++(P.Arrays.flatMap λa=>arL a++[10])++P.Parts.flatMap λx=>[112,97,114,116,10]++ntT x.Nest++x.Body.flatMap λs=>stT s++[10]:=by
  unfold pgT pgL
  rw[yf,zu,Ah,List.flatMap_assoc]
  have e:(λx=>([112,97,114,116,10]++ntT x.Nest++x.Body.flatMap λs=>stT s++[10]:List UInt8))=λx=>(prL x).flatMap λl=>l++[10]:=by
   funext x
   unfold prL ntT
   rw[yf,zu,Ah,Ah]
   simp
  rw[e]
  simp
 refine⟨?_,?_⟩
 ·rw[A1]
  show (wM P _ 0).bind _=_
  rw[hP.1,e2];rfl
 ·have h2:=hP.2
  rw[e2]
  simp only[yc,xy,yo]
  omega
theorem specFP(P:zH)(h:BG P):vW P=some (if validP P then⟨pgT P⟩ else⟨[]⟩):=by
 unfold vW;rw[specValidP P h];cases hv:validP P with
 | false=>rfl
 | true=>
  have:=(specPgT P hv).1;simp only[xr,xp,y0,xq,xt,xu] at this ⊢;exact this
theorem zLo:∀(n:Int),1<=n->n<=6->oG ⟨dtx n.toNat⟩=some (n,true):=by
 have fh:∀k:Fin 7,1<=k.val->oG ⟨dtx k.val⟩=some ((k.val:Int),true):=by
  intro k hk;have e:dtx k.val=[UInt8.ofNat (48+k.val)]:=by unfold dtx;rw[if_pos (by omega)]
  have hb:(UInt8.ofNat (48+k.val)).toNat=48+k.val:=by simp;omega
  rw[e];generalize UInt8.ofNat (48+k.val)=c at hb ⊢;have z1:((c.toNat:Int)==45)=false:=by rw[yj];omega
  have z2:((c.toNat:Int)==48)=false:=by rw[yj];omega
  have z3:¬((c.toNat:Int)<48):=by omega
  have z4:¬((c.toNat:Int)>57):=by omega
  have s0:sidx (⟨[c]⟩:Str) 0=some c:=rfl;have w1:W ((W (0*10))+(W (IntKind.u8.wrap ((c.toNat:Int) - 48))))=(k.val:Int):=by
   have e1:(c.toNat:Int) - 48=(k.val:Int):=by omega
   rw[e1];have:∀q:Fin 7,W ((W (0*10))+(W (IntKind.u8.wrap (q.val:Int))))=(q.val:Int):=by decide
   exact this k
  have l1:uV ⟨[c]⟩ 0 0=some (.done (k.val:Int)):=by
   rw[uV];have c0:((0:Int)<(((⟨[c]⟩:Str).l.length:Nat):Int)):=by show (0:Int)<1;omega
   simp only[c0,yg,xu,s0,z3,z4,ye,xq,xt,xr,xp,xw,w1];rw[show W (0+1)=1 from rfl,uV];have c1:¬((1:Int)<(((⟨[c]⟩:Str).l.length:Nat):Int)):=by show ¬((1:Int)<1);omega
   simp only[c1,ye,xq,xt,xw]
  have c0:(((⟨[c]⟩:Str).l.length:Nat):Int)>0:=by show (1:Int)>0;omega
  have c2:((((⟨[c]⟩:Str).l.length:Nat):Int)==0)=false:=rfl;have c3:¬((((⟨[c]⟩:Str).l.length:Nat):Int)>17):=by show ¬((1:Int)>17);omega
  unfold oG;simp only[c0,c2,c3,yg,ye,xq,xt,xu,s0,z1,z2,xr,xp,xw,id,l1]
 intro n h1 h6;have:=fh ⟨n.toNat,by omega⟩ (by show 1<=n.toNat;omega);rw[show ((n.toNat:Nat):Int)=n by omega] at this;exact this
theorem zM7(w0:List Str)(D:List Int)(hD:D.length<=2)(hd:∀n∈D,1<=n/\n<=6)(u nm:Str)(hw:w0=u::nm::D.map λn=>⟨dtx n.toNat⟩):∀(j i:Nat),i+j=D.length->uC w0 ((i+2:Nat):Int) nm (D.take i)=some (nm,D):=by
 have aP:w0.length=D.length+2:=by rw[hw];simp
 intro j
 induction j with
 | zero=>
  intro i hi;rw[uC];have c1:¬(((i+2:Nat):Int)<(w0.length:Int)):=by omega
  simp only[c1,ye,xq,xt,xw,xr,xp];rw[zb (by omega)]
 | succ j ih=>
  intro i hi;have aG:i<D.length:=by omega
  rw[uC];have c1:(((i+2:Nat):Int)<(w0.length:Int)):=by omega
  have c2:(((i+2:Nat):Int)<=4):=by omega
  have c3:((((i+2:Nat):Int))==1)=false:=by rw[yj];omega
  have hx:idx w0 ((i+2:Nat):Int)=some ⟨dtx D[i].toNat⟩:=by rw[yN (by omega)];simp[hw]
  obtain⟨d1,d2⟩:=hd _ (List.getElem_mem aG);simp only[c1,c2,c3,yg,xu,xq,xt,xw,xr,xp,hx,zLo _ d1 d2];rw[sX (by rw[yl];simp;omega)];simp only[xp];rw[wY (by omega)];have:=ih (i+1) (by omega);rw[Ab,ya aG] at this;exact this
theorem specArr{a:zE}(h:AV1 a/\a.Dims.length<=2):jV ((ARR::a.Name.l::a.Dims.map λn=>dtx n.toNat).map Str.mk)=some a:=by
 have hw:(ARR::a.Name.l::a.Dims.map λn=>dtx n.toNat).map Str.mk=⟨ARR⟩::a.Name::a.Dims.map λn=>⟨dtx n.toNat⟩:=by simp
 rw[hw];unfold jV;rw[uC];have c1:((1:Int)<((((⟨ARR⟩:Str)::a.Name::a.Dims.map λn=>⟨dtx n.toNat⟩).length:Nat):Int)):=by simp only[xy];omega
 have hx:idx ((⟨ARR⟩:Str)::a.Name::a.Dims.map λn=>⟨dtx n.toNat⟩) 1=some a.Name:=rfl;have l1:=zM7 _ a.Dims h.2 h.1.2 ⟨ARR⟩ a.Name rfl a.Dims.length 0 (yv _);have l1:uC ((⟨ARR⟩:Str)::a.Name::a.Dims.map λn=>⟨dtx n.toNat⟩) (W (1+1)) a.Name []=some (a.Name,a.Dims):=l1;have d1:decide ((1:Int)<=4)=true:=rfl;have d2:((1:Int)==1)=true:=rfl;simp only[c1,d1,d2,yg,xu,xw,xr,xp,hx,l1]
theorem zPC{s:zI}{d:Int}(h:stmtB s d=true):full (cutS 32 (stT s))=[stT s]:=by
 rw[zEB (zM1 h (.inr rfl))];obtain⟨c,t,e,_⟩:=zMz h;unfold full;have:stT s ≠ []:=by rw[e];simp
 simp[this]
theorem zPD{l:zD}(h:LV l):full (cutS 32 (lpT l))=[[102,111,114],sdT l.Lo,sdT l.Hi]:=by
 rw[zB7 h];unfold full;have e1:(sdT l.Lo==[])=false:=by simpa using zGJ h.1
 have e2:(sdT l.Hi==[])=false:=by simpa using zGJ h.2
 simp[e1,e2,zGJ h.1,zGJ h.2]
theorem zGL{X:List zL}{x:zL}(hX:X.length<4):W (((X++[x]).length:Int) - 1)=(X.length:Int)/\idx (X++[x]) (X.length:Int)=some x/\∀y,(X++[x]).set (X.length:Int).toNat y=X++[y]:=by
 refine⟨?_,?_,λy=>?_⟩
 ·rw[yc,Ai,tV (by omega) (by omega)];omega
 ·rw[gK];simp
 ·rw[zq];simp
theorem specRd1:Reads1 qA where
 ar A a hA ha:=by
  have hl:=zPB ha
  unfold qA
  rw[zAt ⟨arL a⟩ (by show (arL a).length<=_;omega)]
  rw[show full (cutS 32 (⟨arL a⟩:Str).l)=ARR::a.Name.l::a.Dims.map λn=>dtx n.toNat from zQH ha.1]
  have c1:(((((ARR::a.Name.l::a.Dims.map λn=>dtx n.toNat).map Str.mk).length:Nat):Int)>0):=by simp only[zl,xy];omega
  have hx:idx ((ARR::a.Name.l::a.Dims.map λn=>dtx n.toNat).map Str.mk) 0=some ⟨ARR⟩:=rfl
  have hr:(ARR==([97,114,114,97,121]:List UInt8))=true:=rfl
  simp only[c1,yg,xu,hx,hr,xw,xr,xp,specArr ha]
  rw[sX (by simp;omega)];rfl
 pt A X hA hX:=by
  unfold qA
  rw[zAt ⟨PART⟩ (by decide)]
  have e:full (cutS 32 (⟨PART⟩:Str).l)=[PART]:=by decide
  rw[e]
  have c1:(((([PART].map Str.mk).length:Nat):Int)>0):=by decide
  have hx:idx ([PART].map Str.mk) 0=some ⟨PART⟩:=rfl
  have hr:(PART==([97,114,114,97,121]:List UInt8))=false:=rfl
  have hp:(PART==([112,97,114,116]:List UInt8))=true:=rfl
  simp only[c1,yg,xu,hx,hr,hp,xq,xt,xw,xr,xp]
  rw[sX (by simp;omega)];rfl
 lp A X n b l hA hX hn hb hl:=by
  have hL:=zIv hl
  obtain⟨e1,e2,e3⟩:=zGL (x:=⟨n,b⟩) hX
  unfold qA
  rw[zAt ⟨lpT l⟩ (by show (lpT l).length<=_;omega),show full (cutS 32 (⟨lpT l⟩:Str).l)=_ from zPD hl.1]
  have c1:(((([[102,111,114],sdT l.Lo,sdT l.Hi].map Str.mk).length:Nat):Int)>0):=by show (3:Int)>0;omega
  have hx:idx ([[102,111,114],sdT l.Lo,sdT l.Hi].map Str.mk) 0=some ⟨[102,111,114]⟩:=rfl
  have hr:(([102,111,114]:List UInt8)==[97,114,114,97,121])=false:=rfl
  have hp:(lpT l==([112,97,114,116]:List UInt8))=false:=by unfold lpT;rfl
  have hf:(([102,111,114]:List UInt8)==[102,111,114])=true:=rfl
  have c2:((X.length:Int)>=0):=by omega
  obtain⟨r,hr1,_,hu⟩:=specLineP ⟨lpT l⟩ (by show (lpT l).length<=_;omega)
  rw[hu l hl.1 hl.2.1 hl.2.2 rfl] at hr1
  simp only[c1,c2,e1,e2,yg,xu,hx,hr,hp,hf,xq,xt,xw,xr,xp,hr1]
  rw[sX (by simp;omega)]
  simp only[xp,e3]
 st A X n b s hA hX hn hb hs:=by
  have hL:=zHD hs
  obtain⟨e1,e2,e3⟩:=zGL (x:=⟨n,b⟩) hX
  obtain⟨c,t,e,g1,g2⟩:=zMz hs
  unfold qA
  rw[zAt ⟨stT s⟩ (by show (stT s).length<=_;omega),show full (cutS 32 (⟨stT s⟩:Str).l)=_ from zPC hs]
  have c1:(((([stT s].map Str.mk).length:Nat):Int)>0):=by show (1:Int)>0;omega
  have hx:idx ([stT s].map Str.mk) 0=some ⟨stT s⟩:=rfl
  have cT:∀(q:UInt8) (r:List UInt8),68<q.toNat->(stT s==q::r)=false:=λq r hq=>by
   rw[e,yj]
   intro h
   rw[(List.cons.inj h).1] at g2
   omega
  have hr:(stT s==([97,114,114,97,121]:List UInt8))=false:=cT _ _ (by decide)
  have hp:(stT s==([112,97,114,116]:List UInt8))=false:=cT _ _ (by decide)
  have hf:(stT s==([102,111,114]:List UInt8))=false:=cT _ _ (by decide)
  have c2:((X.length:Int)>=0):=by omega
  simp only[c1,c2,e1,e2,yg,xu,hx,hr,hp,hf,xq,xt,xw,xr,xp,zNe hs]
  rw[sX (by simp;omega)]
  simp only[xp,e3]
theorem zNf(h z:List UInt8)(L:List (List UInt8))(hL:L.length<=1000):∀(j q:Nat) (p:zH),q+j=L.length->vU ((h::L++[z]).map Str.mk) p ((q+1:Nat):Int)=Rd qA (L.drop q) p:=by
 have aP:(((h::L++[z]).map Str.mk).length)=L.length+2:=by simp
 intro j
 induction j with
 | zero=>
  intro q p hq;rw[vU];have c1:¬((((q+1+1:Nat)):Int)<(((h::L++[z]).map Str.mk).length:Int)):=by omega
  rw[wY (by omega)];simp only[c1,ye,xq,xt];rw[yw.2 (by omega)];rfl
 | succ j ih=>
  intro q p hq;have aG:q<L.length:=by omega
  rw[vU];have c1:((((q+1+1:Nat)):Int)<(((h::L++[z]).map Str.mk).length:Int)):=by omega
  have hx:idx ((h::L++[z]).map Str.mk) ((q+1:Nat):Int)=some ⟨L[q]⟩:=by
   rw[yN (by omega),A7]
   congr 2
   simp[List.getElem_append_left aG]
  rw[wY (by omega)];simp only[c1,yg,xu,hx,xr,xp];rw[yp aG];show _=(qA p ⟨L[q]⟩).bind _;cases qA p ⟨L[q]⟩ with
  | none=>rfl
  | some r=>exact ih (q+1) r (by omega)
theorem specParseP(t:Str)(hl:t.l.length<=100000):∃r,qD t=some r/\ResP t.l r:=by
 obtain⟨t⟩:=t;simp only at hl;have mx:=zHC ⟨t⟩ 10 (by show t.length<=_;omega);by_cases u4:∃P,validP P=true/\t=pgT P
 ·obtain⟨P,h1,h2⟩:=u4;refine⟨(P,true),?_,.inl ⟨rfl,h1,h2⟩⟩;have qx:=zNK h1;have h3:cutS 10 (⟨t⟩:Str).l=([112,114,111,103,114,97,109]::pgL P)++[[]]:=by rw[<- zOz h1,<- h2]
  have aP:((((([112,114,111,103,114,97,109]::pgL P)++[[]]).map Str.mk).length:Nat):Int)=(pgL P).length+2:=by simp;omega
  have c1:¬(((((([112,114,111,103,114,97,109]::pgL P)++[[]]).map Str.mk).length:Nat):Int)>42):=by omega
  have f6:=zNf [112,114,111,103,114,97,109] [] (pgL P) (by omega) _ 0 ⟨[],[]⟩ (yv _);rw[yn,zQW specRd1 h1] at f6;have f6:vU ((([112,114,111,103,114,97,109]::pgL P)++[[]]).map Str.mk) ⟨[],[]⟩ 1=some P:=f6;have cT:(t==[])=false:=by rw[h2];simpa using zOl P
  have hFP:vW P=some ⟨pgT P⟩:=by
   unfold vW;have hBG:uH P=some true:=by rw[specValidP P (zHE h1),h1]
   rw[hBG];exact(specPgT P h1).1
  unfold qD;rw[mx,h3];simp only[xr,xp,c1,ye,xq,xt,f6,cT,hFP,xw,<- h2,A5,y0]
 ·have pr:∀P,validP P=true->t ≠ pgT P:=λP h1 h2=>u4 ⟨P,h1,h2⟩;refine⟨(⟨[],[]⟩,false),?_,.inr ⟨rfl,rfl,pr⟩⟩;unfold qD;rw[mx];by_cases c1:((((cutS 10 (⟨t⟩:Str).l).map Str.mk).length:Nat):Int)>42
  ·simp only[xr,xp,c1,yg,xu];rfl
  ·simp only[xr,xp,c1,ye,xq,xt,xw];have vw:∀x∈(cutS 10 (⟨t⟩:Str).l).map Str.mk,x.l.length<=1000000:=λx hx=>by
    obtain⟨y,hy,rfl⟩:=zi.1 hx;have:=zBv hy;show y.length<=_;have e:(⟨t⟩:Str).l.length=t.length:=rfl;omega
   obtain⟨p,hp,hSG⟩:=zBK ((cutS 10 (⟨t⟩:Str).l).map Str.mk) (by omega) vw (((cutS 10 (⟨t⟩:Str).l).map Str.mk).length+2) 0 ⟨[],[]⟩ 1 ⟨by omega,by omega,by omega,by omega,by omega⟩ ⟨⟨by simp,by simp⟩,by simp,by simp⟩ (λr=>SG 1000 r) λ_ h=>h;have hBG:=hSG.dq.bg (by omega);rw[hp];simp only[xp,specFP p hBG];by_cases ht:t=[]
   ·have:(t==[])=true:=by rw[ht];rfl
    simp only[this,xu,xp]
   ·have:(t==[])=false:=by simpa using ht
    simp only[this,xq,xt,xp];cases hv:validP p with
    | false=>
     have e:(([]:List UInt8)==t)=false:=by rw[yj];exact λe=>ht e.symm
     simp only[xq,xt,e,yx,xu]
    | true=>
     have e:(pgT p==t)=false:=by rw[yj];exact λe=>pr p hv e.symm
     simp only[xu,e,yx]
theorem zPE{l:zD}(h:LV l):asc (lpT l)=true:=zCe λb hb=>by
 unfold lpT at hb;rcases yr.1 hb with hb|hb
 ·have:∀x∈([102,111,114]:List UInt8),x.toNat<128:=by decide
  exact this b hb
 ·rcases yh.1 hb with rfl|hb
  ·decide
  ·rcases yr.1 hb with hb|hb
   ·exact zM5 h.1.2 hb
   ·rcases yh.1 hb with rfl|hb
    ·decide
    ·exact zM5 h.2.2 hb
theorem zLp{l:zD}(h:LV l/\l.Lo.length<=2/\l.Hi.length<=2):gG ⟨lpT l⟩=some (l,true):=by
 have hL:=zIv h;obtain⟨⟨r1,r2⟩,hr,iK⟩:=implLoop ⟨lpT l⟩ (zPE h.1) (by show (lpT l).length<=_;omega);rw[hr];rcases iK with⟨e1,e2,e3,e4,e5⟩|⟨e1,e2⟩
 ·simp only at e1 e2 e5;rw[e1,zL9 e2 h.1 e5.symm]
 ·exact absurd rfl (e2 l h.1 h.2.1 h.2.2)
theorem zPF{n:Int}(h1:1<=n)(h6:n<=6):tC ⟨dtx n.toNat⟩=some (n,false):=by
 unfold tC;rw[if_pos (by show (dtx n.toNat).length<=_;have:=kM n.toNat;omega)];have:=zLk ⟨n.toNat,by omega⟩;simp only at this;rw[this,show ((n.toNat:Nat):Int)=n by omega]
theorem zJB{t:Str}(h:t.l.length<=1000000):jM t ⟨[32]⟩=some (⟨(Lib.cut t.l [32]).1⟩,⟨(Lib.cut t.l [32]).2.1⟩,(Lib.cut t.l [32]).2.2):=by
 unfold jM;rw[if_pos (by omega)]
theorem zM8(p:zH)(D:List Int)(hd:∀n∈D,1<=n/\n<=6)(hD:D.length<=1000):∀(j i:Nat),i+j=D.length->xV p (D.map λn=>⟨dtx n.toNat⟩) (i:Int) (D.take i)=some (.done D):=by
 intro j
 induction j with
 | zero=>
  intro i hi;rw[xV];have c1:¬((i:Int)<((D.map λn=>(⟨dtx n.toNat⟩:Str)).length:Int)):=by rw[ym];omega
  simp only[c1,ye,xq,xt,xw];rw[zb (by omega)]
 | succ j ih=>
  intro i hi;have aG:i<D.length:=by omega
  rw[xV];have c1:((i:Int)<((D.map λn=>(⟨dtx n.toNat⟩:Str)).length:Int)):=by rw[ym];omega
  have hx:idx (D.map λn=>(⟨dtx n.toNat⟩:Str)) (i:Int)=some ⟨dtx D[i].toNat⟩:=by rw[yN (by rw[ym];omega)];simp
  obtain⟨d1,d2⟩:=hd _ (List.getElem_mem aG);simp only[c1,yg,xu,hx,zPF d1 d2,xr,xp,xq,xt];rw[sX (by rw[yl];simp;omega)];simp only[xp];rw[wY (by omega)];have:=ih (i+1) (by omega);rw[Ab,ya aG] at this;exact this
def fI(p:zH)(s:Str):Option zH:=(wL p s).bind λr=>if r.1=true then some r.2 else none
theorem zNM{p:zH}{s:Str}{q:zH}(h:wL p s=some (true,q)):fI p s=some q:=by
 unfold fI;rw[h];rfl
theorem implRd1:Reads1 fI where
 ar A a hA ha:=by
  refine zNM ?_
  have hl:=zPB ha
  have hw:(Lib.cut (⟨arL a⟩:Str).l [32]).1=ARR:=by
   have:arL a=ARR++32::(a.Name.l++a.Dims.flatMap λn=>32::dtx n.toNat):=rfl
   rw[show (⟨arL a⟩:Str).l=arL a from rfl,this,zLm (by decide)]
  have xg:oL ⟨arL a⟩ ⟨[32]⟩=some ((ARR::a.Name.l::a.Dims.map λn=>dtx n.toNat).map Str.mk):=by
   rw[zEA ⟨arL a⟩ 32 (by show (arL a).length<=_;omega),show cutS 32 (⟨arL a⟩:Str).l=_ from zPA ha.1]
  have vv:(ARR::a.Name.l::a.Dims.map λn=>dtx n.toNat).map Str.mk=⟨ARR⟩::a.Name::a.Dims.map λn=>⟨dtx n.toNat⟩:=by simp
  rw[vv] at xg
  have aP:((((⟨ARR⟩:Str)::a.Name::a.Dims.map λn=>⟨dtx n.toNat⟩).length:Nat):Int)=(a.Dims.length:Int)+2:=by simp;omega
  have c1:¬(((((⟨ARR⟩:Str)::a.Name::a.Dims.map λn=>⟨dtx n.toNat⟩).length:Nat):Int)<2):=by omega
  have h2:=ha.2
  have c2:¬(((((⟨ARR⟩:Str)::a.Name::a.Dims.map λn=>⟨dtx n.toNat⟩).length:Nat):Int)>4):=by omega
  have c3:((A.length:Int)==4)=false:=by rw[yj];omega
  have hx:idx ((⟨ARR⟩:Str)::a.Name::a.Dims.map λn=>⟨dtx n.toNat⟩) 1=some a.Name:=rfl
  have hs:slc ((⟨ARR⟩:Str)::a.Name::a.Dims.map λn=>⟨dtx n.toNat⟩) 2 ((((⟨ARR⟩:Str)::a.Name::a.Dims.map λn=>⟨dtx n.toNat⟩).length:Nat):Int)=some (a.Dims.map λn=>⟨dtx n.toNat⟩):=by
   unfold slc
   rw[if_pos ⟨by omega,by omega,Int.le_refl _⟩,zq,z7];rfl
  have u6:=zM8 ⟨A,[]⟩ a.Dims ha.1.2 (by omega) a.Dims.length 0 (yv _)
  have u6:xV ⟨A,[]⟩ (a.Dims.map λn=>⟨dtx n.toNat⟩) 0 []=some (.done a.Dims):=u6
  have hr:(ARR==([97,114,114,97,121]:List UInt8))=true:=rfl
  unfold wL
  simp only[zJB (show (⟨arL a⟩:Str).l.length<=1000000 by show (arL a).length<=_;omega),hw,hr,xg,c1,c2,c3,hx,hs,u6,ye,xq,xt,xu,xw,xr,xp]
  rw[sX (by simp;omega)];rfl
 pt A X hA hX:=by
  refine zNM ?_
  have hw:(Lib.cut (⟨PART⟩:Str).l [32]).1=PART:=zLn (by decide)
  have hr:(PART==([97,114,114,97,121]:List UInt8))=false:=rfl
  have hp:(PART==([112,97,114,116]:List UInt8))=true:=rfl
  unfold wL
  simp only[zJB (show (⟨PART⟩:Str).l.length<=1000000 by decide),hw,hr,hp,xq,xt,xu,xw,xr,xp]
  rw[sX (by simp;omega)]
  have:(((X++[(⟨[],[]⟩:zL)]).length:Nat):Int)<=4:=by rw[yc];simp;omega
  simp only[xp,this,yg]
 lp A X n b l hA hX hn hb hl:=by
  refine zNM ?_
  have hL:=zIv hl
  obtain⟨e1,e2,e3⟩:=zGL (x:=⟨n,b⟩) hX
  have hw:(Lib.cut (⟨lpT l⟩:Str).l [32]).1=[102,111,114]:=by
   show (Lib.cut (lpT l) [32]).1=_
   unfold lpT
   rw[zLm (by decide)]
  have hr:(([102,111,114]:List UInt8)==[97,114,114,97,121])=false:=rfl
  have hp:(([102,111,114]:List UInt8)==[112,97,114,116])=false:=rfl
  have hf:(([102,111,114]:List UInt8)==[102,111,114])=true:=rfl
  have c2:¬((X.length:Int)<0):=by omega
  have c3:((n.length:Int)==4)=false:=by rw[yj];omega
  unfold wL
  simp only[zJB (show (⟨lpT l⟩:Str).l.length<=1000000 by show (lpT l).length<=_;omega),hw,hr,hp,hf,zLp hl,e1,e2,c2,c3,ye,y0,xq,xt,xu,xw,xr,xp]
  rw[sX (by simp;omega)]
  simp only[xp,e3]
 st A X n b s hA hX hn hb hs:=by
  refine zNM ?_
  have hL:=zHD hs
  obtain⟨e1,e2,e3⟩:=zGL (x:=⟨n,b⟩) hX
  obtain⟨c,t,e,g1,g2⟩:=zMz hs
  have hw:(Lib.cut (⟨stT s⟩:Str).l [32]).1=stT s:=zLn (zM1 hs (.inr rfl))
  have cT:∀(q:UInt8) (r:List UInt8),68<q.toNat->(stT s==q::r)=false:=λq r hq=>by
   rw[e,yj]
   intro h
   rw[(List.cons.inj h).1] at g2
   omega
  have hr:(stT s==([97,114,114,97,121]:List UInt8))=false:=cT _ _ (by decide)
  have hp:(stT s==([112,97,114,116]:List UInt8))=false:=cT _ _ (by decide)
  have hf:(stT s==([102,111,114]:List UInt8))=false:=cT _ _ (by decide)
  have c2:¬((X.length:Int)<0):=by omega
  have c3:((b.length:Int)==4)=false:=by rw[yj];omega
  unfold wL
  simp only[zJB (show (⟨stT s⟩:Str).l.length<=1000000 by show (stT s).length<=_;omega),hw,hr,hp,hf,zJv hs,e1,e2,c2,c3,ye,y0,xq,xt,xu,xw,xr,xp]
  rw[sX (by simp;omega)]
  simp only[xp,e3]
def InvX(x:zL):Prop:=(x.Nest.length<=4/\NV x.Nest)/\x.Body.length<=4/\∀s∈x.Body,stmtB s 4=true
def Inv(p:zH):Prop:=(p.Arrays.length<=4/\∀a∈p.Arrays,a.Dims.length<=1000)/\p.Parts.length<=4/\∀x∈p.Parts,InvX x
theorem Inv.bg{p:zH}(h:Inv p):BG p:=by
 obtain⟨⟨a1,a2⟩,p1,p2⟩:=h;refine⟨⟨by omega,a2⟩,by omega,λx hx=>?_⟩;obtain⟨⟨n1,n2⟩,n3,n4⟩:=p2 x hx;exact⟨n2.bn (by omega),by omega,λs hs=>zHo (n4 s hs)⟩
theorem zGM{α:Type}{P:α->Prop}{l:List α}{a:α}(h:∀x∈l,P x)(ha:P a):∀x∈l++[a],P x:=λx hx=>by
 rcases yr.1 hx with hx|hx
 ·exact h x hx
 ·rw[yq.1 hx];exact ha
theorem zLq(p:zH)(l:List Str)(hl:∀x∈l,x.l.length<=1000000)(hn:l.length<=100):∀(j i:Nat) (D:List Int),i+j=l.length->D.length=i->∃o,xV p l (i:Int) D=some o/\(o=.ret (false,p)∨∃E,o=.done E/\E.length<=100):=by
 intro j
 induction j with
 | zero=>
  intro i D hi hD;refine⟨.done D,?_,.inr ⟨D,rfl,by omega⟩⟩;rw[xV];have c1:¬((i:Int)<(l.length:Int)):=by omega
  simp only[c1,ye,xq,xt,xw]
 | succ j ih=>
  intro i D hi hD;have aG:i<l.length:=by omega
  rw[xV];have c1:((i:Int)<(l.length:Int)):=by omega
  have hA:tC l[i]=some (atoiM l[i]):=by
   unfold tC;rw[if_pos (by have:=hl _ (List.getElem_mem aG);omega)]
  generalize atoiM l[i]=nb at hA;obtain⟨n,b⟩:=nb;simp only[c1,yg,xu,yN aG,hA,xr,xp];cases b with
  | true=>exact⟨_,rfl,.inl rfl⟩
  | false=>
   simp only[xq,xt];rw[sX (by simp;omega)];simp only[xp];rw[wY (by omega)];exact ih (i+1) (D++[n]) (by omega) (by simp[hD])
theorem zLr{X:List zL}(hX:X.length<=4):(W ((X.length:Int) - 1)<0)∨∃(k:Nat) (h:k<X.length),W ((X.length:Int) - 1)=(k:Int):=by
 rw[tV (by omega) (by omega)];by_cases h:X.length=0
 ·left;omega
 ·exact .inr ⟨X.length - 1,by omega,by omega⟩
theorem zKf{p:zH}(hI:Inv p){t:Str}(ha:asc t.l=true)(hl:t.l.length<=100000):∃b q,wL p t=some (b,q)/\(b=true->Inv q):=by
 obtain⟨⟨a1,a2⟩,p1,p2⟩:=id hI;have xg:=zEA t 32 (by omega);have qh:=zGC 32 t.l;have aP:∀x∈(cutS 32 t.l).map Str.mk,x.l.length<=1000000:=λx hx=>by
  obtain⟨y,hy,rfl⟩:=zi.1 hx;have:=zBv hy;show y.length<=_;omega
 obtain⟨⟨l1,l2⟩,hlp,hlR⟩:=implLoop t ha (by omega);obtain⟨⟨s1,s2⟩,r7,hsR⟩:=implParseS t ha hl;unfold wL;simp only[zJB (show t.l.length<=1000000 by omega),xg,hlp,r7,xr,xp,xw];generalize (Lib.cut t.l [32]).1=w;generalize (cutS 32 t.l).map Str.mk=C at aP;cases h1:(w==([97,114,114,97,121]:List UInt8)) with
 | true=>
  simp only[xu];by_cases c1:(C.length:Int)<2
  ·simp only[c1,yg,xu,xp];exact⟨_,_,rfl,λh=>by cases h⟩
  by_cases c2:(C.length:Int)>4
  ·simp only[c1,c2,yg,ye,xq,xt,xu,xp];exact⟨_,_,rfl,λh=>by cases h⟩
  simp only[c1,c2,ye,xq,xt,xp];cases c3:((p.Arrays.length:Int)==4) with
  | true=>simp only[xu];exact⟨_,_,rfl,λh=>by cases h⟩
  | false=>
   have c3:¬((p.Arrays.length:Int)=4):=by simpa using c3
   have hx:idx C 1=some C[1]:=yN (i:=1) (by omega);have hs:slc C 2 (C.length:Int)=some (C.drop 2):=by
    unfold slc;rw[if_pos ⟨by omega,by omega,Int.le_refl _⟩,zq,z7];rfl
   obtain⟨o,ho,hoR⟩:=zLq p (C.drop 2) (λx hx=>aP x (AI hx)) (by rw[yt];omega) (C.drop 2).length 0 [] (yv _) rfl;have ho:xV p (C.drop 2) 0 []=some o:=ho;simp only[xq,xt,hx,hs,ho,xp];rcases hoR with rfl|⟨E,rfl,hE⟩
   ·exact⟨_,_,rfl,λh=>by cases h⟩
   ·simp only;rw[sX (by simp;omega)];simp only[xp];exact⟨_,_,rfl,λ_=>⟨⟨by rw[yc];simp;omega,zGM a2 (by show E.length<=1000;omega)⟩,p1,p2⟩⟩
 | false=>
  simp only[xq,xt];cases h2:(w==([112,97,114,116]:List UInt8)) with
  | true=>
   simp only[xu];rw[sX (by simp;omega)];simp only[xp];exact⟨_,_,rfl,λh=>⟨⟨a1,a2⟩,by have:=of_decide_eq_true h;show (p.Parts++_).length<=4;omega,zGM p2 ⟨⟨zt _,λ_ h=>by cases h⟩,zt _,λ_ h=>by cases h⟩⟩⟩
  | false=>
   simp only[xq,xt];cases h3:(w==([102,111,114]:List UInt8)) with
   | true=>
    simp only[xu];rcases hlR with⟨e1,e2,e3,e4,_⟩|⟨e1,_⟩
    ·simp only at e1 e2 e3 e4;subst e1;simp only[y0,xq,xt];rcases zLr p1 with hk|⟨k,hk,e⟩
     ·simp only[hk,yg,xu,xp];exact⟨_,_,rfl,λh=>by cases h⟩
     ·have c4:¬((k:Int)<0):=by omega
      obtain⟨⟨x1,x2⟩,x3,x4⟩:=p2 _ (List.getElem_mem hk);simp only[e,c4,ye,xq,xt,yN hk,xp];cases c5:((p.Parts[k].Nest.length:Int)==4) with
      | true=>simp only[xu,xp];exact⟨_,_,rfl,λh=>by cases h⟩
      | false=>
       have c5:¬((p.Parts[k].Nest.length:Int)=4):=by simpa using c5
       simp only[xq,xt];rw[sX (by simp;omega)];simp only[xp];refine⟨_,_,rfl,λ_=>⟨⟨a1,a2⟩,by show (List.set _ _ _).length<=4;rw[zk];exact p1,zBQ p2 (show InvX ⟨p.Parts[k].Nest++[l1],p.Parts[k].Body⟩ from⟨⟨by show (p.Parts[k].Nest++[l1]).length<=4;rw[yc];show _+1<=4;omega,zGM x2 ⟨e2,e3,e4⟩⟩,x3,x4⟩) _⟩⟩
    ·simp only at e1;subst e1;simp only[yx,xu,xp];exact⟨_,_,rfl,λh=>by cases h⟩
   | false=>
    simp only[xq,xt];rcases hsR with⟨e1,e2,_⟩|⟨e1,_,_⟩
    ·simp only at e1 e2;subst e1;simp only[y0,xq,xt];rcases zLr p1 with hk|⟨k,hk,e⟩
     ·simp only[hk,yg,xu,xp];exact⟨_,_,rfl,λh=>by cases h⟩
     ·have c4:¬((k:Int)<0):=by omega
      obtain⟨⟨x1,x2⟩,x3,x4⟩:=p2 _ (List.getElem_mem hk);simp only[e,c4,ye,xq,xt,yN hk,xp];cases c5:((p.Parts[k].Body.length:Int)==4) with
      | true=>simp only[xu,xp];exact⟨_,_,rfl,λh=>by cases h⟩
      | false=>
       have c5:¬((p.Parts[k].Body.length:Int)=4):=by simpa using c5
       simp only[xq,xt];rw[sX (by simp;omega)];simp only[xp];refine⟨_,_,rfl,λ_=>⟨⟨a1,a2⟩,by show (List.set _ _ _).length<=4;rw[zk];exact p1,zBQ p2 (show InvX ⟨p.Parts[k].Nest,p.Parts[k].Body++[s1]⟩ from⟨⟨x1,x2⟩,by show (p.Parts[k].Body++[s1]).length<=4;rw[yc];show _+1<=4;omega,zGM x4 e2⟩) _⟩⟩
    ·simp only at e1;subst e1;simp only[yx,xu,xp];exact⟨_,_,rfl,λh=>by cases h⟩
theorem pgLoop(L:List (List UInt8))(hL:L.length<=1000):∀(j q:Nat) (p r:zH),q+j=L.length->Rd fI (L.drop q) p=some r->wQ (L.map Str.mk) (q:Int) p=some (.done r):=by
 intro j
 induction j with
 | zero=>
  intro q p r hq h;rw[yw.2 (by omega)] at h;have h:some p=some r:=h;cases h
  rw[wQ];have c1:¬((q:Int)<((L.map Str.mk).length:Int)):=by rw[ym];omega
  simp only[c1,ye,xq,xt,xw]
 | succ j ih=>
  intro q p r hq h;have aG:q<L.length:=by omega
  rw[yp aG] at h;have h:(fI p ⟨L[q]⟩).bind (λx=>Rd fI (L.drop (q+1)) x)=some r:=h;rw[wQ];have c1:((q:Int)<((L.map Str.mk).length:Int)):=by rw[ym];omega
  have hx:idx (L.map Str.mk) (q:Int)=some ⟨L[q]⟩:=by rw[yN (by rw[ym];exact aG),A7]
  simp only[c1,yg,xu,hx,xr,xp];unfold fI at h;cases hr:wL p ⟨L[q]⟩ with
  | none=>rw[hr] at h;cases h
  | some bq=>
   obtain⟨b,y⟩:=bq;rw[hr] at h;cases b with
   | false=>cases h
   | true=>
    have h:Rd fI (L.drop (q+1)) y=some r:=h;simp only[xp,y0,xq,xt];rw[wY (by omega)];exact ih (q+1) y r (by omega) h
theorem zM9(l:List Str)(hl:∀x∈l,asc x.l=true/\x.l.length<=100000)(hn:l.length<=1000000):∀(j q:Nat) (p:zH),q+j=l.length->Inv p->∃o,wQ l (q:Int) p=some o/\(o=.ret (⟨[],[]⟩,false)∨∃r,o=.done r/\Inv r):=by
 intro j
 induction j with
 | zero=>
  intro q p hq hI;refine⟨.done p,?_,.inr ⟨p,rfl,hI⟩⟩;rw[wQ];have c1:¬((q:Int)<(l.length:Int)):=by omega
  simp only[c1,ye,xq,xt,xw]
 | succ j ih=>
  intro q p hq hI;have aG:q<l.length:=by omega
  obtain⟨h1,h2⟩:=hl _ (List.getElem_mem aG);obtain⟨b,y,hr,hy⟩:=zKf hI h1 h2;rw[wQ];have c1:((q:Int)<(l.length:Int)):=by omega
  simp only[c1,yg,xu,yN aG,hr,xr,xp,xw];cases b with
  | false=>exact⟨_,rfl,.inl rfl⟩
  | true=>
   simp only[y0,xq,xt];rw[wY (by omega)];exact ih (q+1) y (by omega) (hy rfl)
theorem implParseP(t:Str)(ha:asc t.l=true)(hl:t.l.length<=100000):∃r,pY t=some r/\ResP t.l r:=by
 obtain⟨t⟩:=t;simp only at ha hl;have mx:=zEA ⟨t⟩ 10 (by show t.length<=_;omega);have qh:=zGC 10 t;have hcn:=zDB 10 t;by_cases u4:∃P,validP P=true/\t=pgT P
 ·obtain⟨P,h1,h2⟩:=u4;refine⟨(P,true),?_,.inl ⟨rfl,h1,h2⟩⟩;have qx:=zNK h1;have h3:cutS 10 (⟨t⟩:Str).l=([112,114,111,103,114,97,109]::pgL P)++[[]]:=by rw[<- zOz h1,<- h2]
  have e1:(([112,114,111,103,114,97,109]::pgL P)++[[]]).map Str.mk=(⟨[112,114,111,103,114,97,109]⟩:Str)::((pgL P).map Str.mk++[⟨[]⟩]):=by simp
  have aP:(((⟨[112,114,111,103,114,97,109]⟩:Str)::((pgL P).map Str.mk++[⟨[]⟩])).length:Int)=((pgL P).length:Int)+2:=by simp;omega
  have hW:W ((((⟨[112,114,111,103,114,97,109]⟩:Str)::((pgL P).map Str.mk++[⟨[]⟩])).length:Int) - 1)=(((pgL P).length+1:Nat):Int):=by rw[aP,tV (by omega) (by omega)];omega
  have hi:idx ((⟨[112,114,111,103,114,97,109]⟩:Str)::((pgL P).map Str.mk++[⟨[]⟩])) (((pgL P).length+1:Nat):Int)=some ⟨[]⟩:=by rw[gK];simp
  have h0:idx ((⟨[112,114,111,103,114,97,109]⟩:Str)::((pgL P).map Str.mk++[⟨[]⟩])) 0=some ⟨[112,114,111,103,114,97,109]⟩:=rfl;have hs:slc ((⟨[112,114,111,103,114,97,109]⟩:Str)::((pgL P).map Str.mk++[⟨[]⟩])) 1 (((pgL P).length+1:Nat):Int)=some ((pgL P).map Str.mk):=by
   unfold slc;rw[if_pos ⟨by omega,by omega,by rw[aP];omega⟩,zq,Bb,AO (ym ..)];rfl
  have c1:¬((((pgL P).length+1:Nat):Int)<1):=by omega
  have f6:=pgLoop (pgL P) (by omega) (pgL P).length 0 ⟨[],[]⟩ P (yv _) (by rw[yn];exact zQW implRd1 h1);have f6:wQ ((pgL P).map Str.mk) 0 ⟨[],[]⟩=some (.done P):=f6;have d1:(([112,114,111,103,114,97,109]:List UInt8)==[112,114,111,103,114,97,109])=true:=rfl;have d2:(([]:List UInt8)==[])=true:=rfl;unfold pY;rw[mx,h3,e1];simp only[xr,xp,h0,hW,hi,hs,c1,d1,d2,f6,ye,y0,xq,xt,xw,implValidP P (zHE h1),h1,implPgT P h1,<- h2,A5]
 ·have pr:∀P,validP P=true->t ≠ pgT P:=λP h1 h2=>u4 ⟨P,h1,h2⟩;refine⟨(⟨[],[]⟩,false),?_,.inr ⟨rfl,rfl,pr⟩⟩;unfold pY;rw[mx];have vw:∀x∈(cutS 10 (⟨t⟩:Str).l).map Str.mk,asc x.l=true/\x.l.length<=100000:=λx hx=>by
   obtain⟨y,hy,rfl⟩:=zi.1 hx;have:=zBv hy;refine⟨zHn ha y hy,?_⟩;show y.length<=_;have e:(⟨t⟩:Str).l.length=t.length:=rfl;omega
  have hCl:((cutS 10 (⟨t⟩:Str).l).map Str.mk).length<=100001:=by rw[ym];show (cutS 10 t).length<=_;omega
  have hCp:0<((cutS 10 (⟨t⟩:Str).l).map Str.mk).length:=by
   rw[ym];exact List.length_pos_iff.2 hcn
  generalize (cutS 10 (⟨t⟩:Str).l).map Str.mk=C at vw hCl hCp;have hW:W ((C.length:Int) - 1)=((C.length - 1:Nat):Int):=by rw[tV (by omega) (by omega)];omega
  have h0:idx C 0=some C[0]:=yN (i:=0) hCp;have hi:idx C ((C.length - 1:Nat):Int)=some C[C.length - 1]:=yN (by omega);simp only[xr,xp,hW,h0,hi,xw];cases c1:(C[0].l==([112,114,111,103,114,97,109]:List UInt8)) with
  | false=>simp only[yx,xu,xp]
  | true=>
   simp only[y0,xq,xt];cases c2:(C[C.length - 1].l==([]:List UInt8)) with
   | false=>simp only[yx,xu,xp]
   | true=>
    simp only[y0,xq,xt,xp];by_cases c3:((C.length - 1:Nat):Int)<1
    ·simp only[c3,yg,xu]
    ·have hs:slc C 1 ((C.length - 1:Nat):Int)=some ((C.take (C.length - 1)).drop 1):=by
      unfold slc;rw[if_pos ⟨by omega,by omega,by omega⟩];rfl
     obtain⟨o,ho,hoR⟩:=zM9 ((C.take (C.length - 1)).drop 1) (λx hx=>vw x (AH (AI hx))) (by rw[yt,yl];omega) _ 0 ⟨[],[]⟩ (yv _) ⟨⟨zt _,λ_ h=>by cases h⟩,zt _,λ_ h=>by cases h⟩;have ho:wQ ((C.take (C.length - 1)).drop 1) 0 ⟨[],[]⟩=some o:=ho;simp only[c3,ye,xq,xt,hs,xp,ho];rcases hoR with rfl|⟨r,rfl,hI⟩
     ·rfl
     ·simp only[implValidP r hI.bg,xp];cases hv:validP r with
      | false=>simp only[yx,xu,xp]
      | true=>
       have e:(pgT r==t)=false:=by rw[yj];exact λe=>pr r hv e.symm
       simp only[y0,xq,xt,implPgT r hv,xp,e,yx,xu]
theorem zQy{a:zE}(h:AV1 a){b:UInt8}(hb:b∈arL a):b.toNat<128:=by
 obtain⟨⟨c,e,g1,g2⟩,h1⟩:=h;unfold arL at hb;rw[e] at hb;rcases yr.1 hb with hb|hb
 ·have:∀x∈([97,114,114,97,121,32]:List UInt8),x.toNat<128:=by decide
  exact this b hb
 ·rcases yr.1 hb with hb|hb
  ·rw[yq.1 hb];omega
  ·obtain⟨n,hn,hb⟩:=zd.1 hb;have:=h1 n hn;rcases yh.1 hb with rfl|hb
   ·decide
   ·exact zBx (zCy ⟨n.toNat,by omega⟩).2.2.2 hb
theorem zPG{P:zH}(h:validP P=true):asc (pgT P)=true:=zCe λb hb=>by
 obtain⟨⟨a1,a2⟩,p1,p2⟩:=zA1 h;unfold pgT at hb;obtain⟨l,hl,hb⟩:=zd.1 hb;rcases yr.1 hb with hb|hb
 ·rcases yh.1 hl with rfl|hl
  ·have:∀x∈([112,114,111,103,114,97,109]:List UInt8),x.toNat<128:=by decide
   exact this b hb
  ·unfold pgL at hl;rcases yr.1 hl with hl|hl
   ·obtain⟨a,ha,rfl⟩:=zi.1 hl;exact zQy (a2 a ha).1 hb
   ·obtain⟨x,hx,hl⟩:=zd.1 hl;obtain⟨n1,n2,n3⟩:=zFI (p2 x hx);unfold prL at hl;rcases yh.1 hl with rfl|hl
    ·have:∀x∈([112,97,114,116]:List UInt8),x.toNat<128:=by decide
     exact this b hb
    ·rcases yr.1 hl with hl|hl
     ·obtain⟨m,hm,rfl⟩:=zi.1 hl;exact zBx (zPE ((zBw n1).2 m hm).1) hb
     ·obtain⟨s,hs,rfl⟩:=zi.1 hl;exact zBx (zQx (n3 s hs)) hb
 ·rw[yq.1 hb];decide
theorem zPH(r:zP)(s:Str)(bits:List Str)(hbn:0<bits.length/\bits.length<=1000)(hb:∀x∈bits,asc x.l=true/\x.l.length<=100)(h0:0<=r.p)(h1:r.p<=800000100)(hs:asc s.l=true)(hl:s.l.length<=60000):Ok (zAB r s bits) (λy=>asc y.1.l=true/\y.1.l.length<=70000):=by
 unfold zAB;refine Ok.bind (φ:=λp:Bool×zP=>(p.1=false->0<s.l.length)/\0<=p.2.p/\p.2.p<=800000110) ?_ λp hp=>?_
 ·refine Ok.ite_beq (λ_=>Ok.pure ⟨λh=>(by cases h),h0,(by show r.p<=_;omega)⟩) λh=>?_;refine Ok.call (eK r 2) ⟨h0,by omega⟩ λy s1 g1 g2 g3=>Ok.pure ⟨λ_=>by omega,by show 0<=s1.p;omega,by show s1.p<=_;omega⟩
 ·obtain⟨b,r1⟩:=p;simp only at hp;cases b with
  | true=>exact Ok.ite_tt (Ok.pure ⟨hs,by show s.l.length<=70000;omega⟩)
  | false=>
   have jq:=hp.1 rfl;refine Ok.ite_ff ?_;refine Ok.call (eK r1 _) ⟨hp.2.1,by omega⟩ λy s1 g1 g2 g3=>?_;have hy:y<(s.l.length:Int):=by rcases g2 with h|h <;> omega
   refine Ok.sslc (by omega) (by omega) (by omega) λm1 e1 l1=>?_;refine Ok.call (zBP s1 bits) ⟨hbn.1,by omega,by omega⟩ λy7 s2 g4 g5=>?_;obtain⟨a7,l7⟩:=hb y7 g4;refine Ok.cat (by omega) λm2 e2 l2=>?_;refine Ok.call (eK s2 2) ⟨by omega,by omega⟩ λy10 s3 g6 g7 g8=>?_;dsimp only;rw[tV (by omega) (by omega)];refine Ok.sslc (by omega) (by omega) (by omega) λm3 e3 l3=>?_;refine Ok.cat (by omega) λm4 e4 l4=>Ok.pure ⟨?_,by show m4.l.length<=_;omega⟩;show asc m4.l=true;rw[e4,e2,e1,e3];exact zCd (zCd (zNC (zNB hs _) _) a7) (zNC (zNB hs _) _)
theorem drawPPg(bo:List UInt8):Ok (nD bo) (λy=>asc y.l=true/\y.l.length<=70000):=by
 unfold nD;refine Ok.call (zHK bo) trivial λs hs=>Ok.call (zIa s) ⟨by omega,by omega⟩ λa t g1 g2 g3=>?_;dsimp only;rw[specFP a (g1.dq.bg (by omega))];refine Ok.bind_some ?_;have ht:asc (if validP a then(⟨pgT a⟩:Str) else⟨[]⟩).l=true/\(if validP a then(⟨pgT a⟩:Str) else⟨[]⟩).l.length<=60000:=by
  cases hb:validP a with
  | true=>exact⟨zPG hb,by show (pgT a).length<=_;have:=(specPgT a hb).2;omega⟩
  | false=>exact⟨rfl,zt _⟩
 refine Ok.bind (zPH t _ _ (by decide) (by decide) (by omega) (by omega) ht.1 ht.2) λp hp=>?_;obtain⟨p1,p2⟩:=p;exact Ok.pure hp
theorem drawFPg(bo:List UInt8):Ok (oI bo) BG:=by
 unfold oI;refine Ok.bind (drawProg bo) λq hq=>?_;exact Ok.pure hq.1
theorem zED{P:zH}(h:BG P):qY P P=some true:=by
 obtain⟨r,h1,h2⟩:=implPgY P P h;rw[h1,h2.2 rfl]
theorem zNn(bo ju:List UInt8):∃r,gO bo ju=some r/\r=true:=by
 obtain⟨y,hd,hb⟩:=drawFPg bo;obtain⟨t,ht,ha,hl⟩:=drawPPg ju;refine⟨true,?_,rfl⟩;unfold gO;by_cases c1:(bo.length:Int)>1048576
 ·rw[AZ c1];rfl
 by_cases c2:(ju.length:Int)>1048576
 ·rw[Az c1,AZ c2];rfl
 obtain⟨⟨a1,a2⟩,hA,hA2⟩:=implParseP t ha (by omega);obtain⟨⟨b1,b2⟩,hB,hB2⟩:=specParseP t (by omega);have hab:=hA2.uniq hB2;rw[Prod.mk.injEq] at hab;obtain⟨rfl,rfl⟩:=hab;have xc:(do
  let lx<-qY a1 a1
  if lx then
   if(!a2) then pure true
   else
    let jw<-qW a1
    pure (jw.l==t.l)
  else pure false:Option Bool)=some true:=by
  rcases hA2 with⟨e1,e2,e3⟩|⟨e1,e2,e3⟩
  ·simp only at e1 e2 e3;subst e1;have e4:(pgT a1==t.l)=true:=by rw[e3];simp
   have hBG:=zHE e2;simp only[zED hBG,implFP a1 hBG,e2,e4,xr,xp,xu,y0,xq,xt,xw]
  ·simp only at e1 e2 e3;subst e1;subst e2;have:BG (⟨[],[]⟩:zH):=⟨⟨by simp,λ_ h=>by cases h⟩,by simp,λ_ h=>by cases h⟩;simp only[zED this,xr,xp,xu,yx,xw]
 simp only[xr,xw] at xc;simp only[Az c1,Az c2,xq,xt,xw,xr,xp,hd,implFP y hb,specFP y hb,A5,y0,ht,hA,hB,xu,implValidP y hb,specValidP y hb,id,xc];cases hv:validP y with
 | true=>
  obtain⟨q,hq,iK⟩:=implParseP ⟨pgT y⟩ (zPG hv) (by show (pgT y).length<=_;have:=(specPgT y hv).2;omega);have hqy:q=(y,true):=iK.uniq (.inl ⟨rfl,hv,rfl⟩);subst hqy;simp only[xu,hq,xp,zED hb];rfl
 | false=>
  obtain⟨⟨r1,r2⟩,hr,iK⟩:=implParseP ⟨[]⟩ rfl (zt _);have lh:r2=false:=by
   rcases iK with⟨e1,e2,e3⟩|⟨e1,_,_⟩
   ·exact absurd e3.symm (zOl _)
   ·exact e1
  subst lh;simp only[xq,xt,hr,xp];rfl
end Go.LN
