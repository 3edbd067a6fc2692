/- Helper of the proof (see the last text). -/
import Derived.Test.YtkipogionmkncaaGreatHM2
set_option linter.unusedVariables false
set_option linter.unusedSimpArgs false
namespace Go.LN
open Go.Proofs Go.Proofs.Tryz
set_option maxRecDepth 20000
def zDy(r:zJ×Bool):KT:=λkk I' aj v=>
 ∃v0 v1,aj=[]/\v=tupV [v0,v1]/\(∃cs,v0=.agg ⟨cs⟩/\Rp.rep I' cs r.1)/\v1=.bool r.2
def kC(s:zJ):Option (zJ×Bool):=do
 let y<-nW s 4
 if(!y) then
  pure ((zJ.mk (zK.mk (⟨[]⟩:Str) ([]:List zC)) (zD.mk 0 0 (zC.mk ([]:List Int) 0) (zK.mk (⟨[]⟩:Str) ([]:List zC)) ([]:List zD))),false)
 else
  let y1<-uE s.Write
  let y2<-mM s.Value
  pure ((zJ.mk y1 y2),true)
theorem zFZ:∀s r,kC s=some r->∀{I:Imm}{p c p1 c1 p2 c2 p3 c3},(S4 I p s.Write.Subs c)->(S4 I p1 s.Value.Index.Coefs c1)->(S4 I p2 s.Value.Read.Subs c2)->(S4 I p3 s.Value.Kids c3)->RT 16 [vA (cStmt s p c p1 c1 p2 c2 p3 c3)] I [] (zDy  r):=by
 intro s r N I p c p1 c1 p2 c2 p3 c3 h h1 h2 h3;unfold kC at N;refine yM func16 λB=>?_;have H:=iS I;refine yJ<|uA (cStmt s p c p1 c1 p2 c2 p3 c3) ?_;intro b hb;refine nV [vT ([]),z0,vI 0,vI 0,z0,vI 0,vT ([]),z0,z0] ?_;intro b1 hb1;refine yO [] []<|yE<|yJ<|xF 1 [1] [(4,vA (cStmt s p c p1 c1 p2 c2 p3 c3))]<|bE N λy hy N=>vJ (zBL s 4 _ hy h h1 h2 h3) ?_;intro I0 le;have ⟨h,h1,h2,h3,H⟩:=m5 le h h1 h2 h3 H;refine yW [] [6] rfl<|zH<|yD N ?_ ?_
 ·intro hc N;refine yJ<|yR 1 [] [7] rfl<|tA 0 [vT ([]),z0,vI 0,vI 0,z0,vI 0,vT ([]),z0,z0] rfl<|yO [] [(3,vF)]<|yS<|zG ?_;obtain rfl:=zB N;exact yV ⟨_,_,(.cell 0 rfl rfl (by kernel_rfl) (.tmp rfl ResV.nil)),zO,⟨_,_,rfl,rfl,⟨_,rfl,(oQ ⟨_,_,_,_,rfl,(SL.nil _),(SL.nil _),(SL.nil _),(SL.nil _)⟩)⟩,rfl⟩⟩
 intro hc N;refine zT<|zH<|zM ?_;obtain⟨y1,aw,N⟩:=zF N;obtain⟨y2,aI,N⟩:=zF N;refine uX [.p (vP b 0) [],.p (vA (cAccess s.Write p c)) [1],.x (eVAccess y1),.p (vP b 2) [],.p (vA (cExpr s.Value p1 c1 p2 c2 p3 c3)) [1],.x (eVExpr y2),.x (λI' v hx=>∃p41 c41 p51 c51 p61 c61 p71 c71,v=vA [vT y1.Array.l,vS p41 y1.Subs c41,vI y2.Kind,vI y2.Num,vS p51 y2.Index.Coefs c51,vI y2.Index.Const,vT y2.Read.Array.l,vS p61 y2.Read.Subs c61,vS p71 y2.Kids c71]/\hx=[]/\(S4 I' p41 y1.Subs c41)/\(S4 I' p51 y2.Index.Coefs c51)/\(S4 I' p61 y2.Read.Subs c61)/\(S4 I' p71 y2.Kids c71))] [[],[(0,false)],[(1,false)],[],[(3,false)],[(4,false)],[(2,false),(5,false)]] [hB b1 [vT ([]),z0,vI 0,vI 0,z0,vI 0,vT ([]),z0,z0],hB b (cStmt s p c p1 c1 p2 c2 p3 c3)] [] [(6,false)] (xD [0,1]) ?_ ?_
 ·refine Op<|Op<|Ox ?_<|Op<|Op<|Ox ?_<|Ox ?_<|On
  ·intro I1 hf ai;refine xV [9] rfl ?_;have H:=iS I1;have h:=h.mono ai;refine tG (oV s.Write _ aw h) ?_;rintro aN aK v2 k2 ai - ⟨v01,rfl,rfl,⟨cs,rfl,h5⟩⟩ -;have H:=H.trans ai;obtain⟨p4,c4,rfl,h6⟩:=rD h5;exact xU [] H ⟨_,_,rfl,rfl,h6⟩
  ·intro I1 hf ai;refine xV [12] rfl ?_;have H:=iS I1;have ⟨h1,h2,h3⟩:=m3 ai h1 h2 h3;refine tG (zFp s.Value _ aI h1 h2 h3) ?_;rintro bf aK v2 k2 ax - ⟨v03,rfl,rfl,⟨aM,rfl,h7⟩⟩ -;have H:=H.trans ax;obtain⟨p5,c5,p6,c6,p7,c7,rfl,h8,h9,h10⟩:=yZ h7;exact xU [] H ⟨_,_,_,_,_,_,rfl,rfl,h8,h9,h10⟩
  rintro I1 hf ai _ _ ⟨p4,c4,rfl,rfl,h6⟩ _ _ ⟨p5,c5,p6,c6,p7,c7,rfl,rfl,h8,h9,h10⟩;exact xV [10,13] rfl<|nP 7 [(14,vA [vT y1.Array.l,vS p4 y1.Subs c4,vI y2.Kind,vI y2.Num,vS p5 y2.Index.Coefs c5,vI y2.Index.Const,vT y2.Read.Array.l,vS p6 y2.Read.Subs c6,vS p7 y2.Kids c7])]<|xU [] iR ⟨_,_,_,_,_,_,_,_,rfl,rfl,h6,h8,h9,h10⟩
 rintro bq aR _ _ ⟨p41,c41,p51,c51,p61,c61,p71,c71,rfl,rfl,h61,h81,h91,h101⟩;refine xV [2,14] rfl ?_;refine tA 0 [vT y1.Array.l,vS p41 y1.Subs c41,vI y2.Kind,vI y2.Num,vS p51 y2.Index.Coefs c51,vI y2.Index.Const,vT y2.Read.Array.l,vS p61 y2.Read.Subs c61,vS p71 y2.Kids c71] rfl<|yO [] [(3,vY)]<|zH<|yF ?_;obtain rfl:=zB N;exact yV ⟨_,_,(.cell 0 rfl rfl (by kernel_rfl) (.tmp rfl ResV.nil)),zO,⟨_,_,rfl,rfl,⟨_,rfl,(oQ ⟨_,_,_,_,rfl,h61,h81,h91,h101⟩)⟩,rfl⟩⟩
def uB(n:Int)(body:List zJ)(k:Int):Option (List zJ):=do
 if(decide (k<n)) then
  let s<-idx body k
  let y<-kC s
  uB n (body.set k.toNat y.1) (W (k+1))
 else
  pure (id body)
 partial_fixpoint
theorem zBz(d:List zJ):∀(body:List zJ) (k:Int) (o:List zJ),uB (d.length:Int) body k=some o->∀{B}{I0 I:Imm}{Q}{ae:List Raw2}{A:List zI}{pa:Option Addr}{ca:Nat}{pp:Option Addr}{cp:Nat}{i:Int}{vN:Value}{pw:Option Addr}{cw:Nat}{csb:List Value}{b2 b4:Nat},I0.le I->SL I (vS pp ae cp) ae->idx ae i=some ⟨vN,vS pw d cw⟩->RL I csb body->NG Q->NO Q->(∀(I':Imm) (csb':List Value),o.length=body.length->I0.le I'->RL I' csb' o->T 58 B Q (.exit 2) I' [hO zJ (vS pw d cw) csb',hB b4 [vS pa A ca,vS pp ae cp]] [(2,vP b2 0),(4,vP b4 0),(5,vI i)])->J Tryz.prog 58 B (nav (bodyOf f5) [1,1,1,1,0,1,0,0,1,0,0,1,0]) Q I [hO zJ (vS pw d cw) csb,hB b4 [vS pa A ca,vS pp ae cp]] [(2,vP b2 0),(4,vP b4 0),(5,vI i),(6,vI k)]:=by
 refine uB.partial_correctness _ _ λaG ih body k o N B I0 I Q ae A pa ca pp cp i vN pw cw csb b2 b4 H hS hxr hR hg ho hx=>yK hg ho<|zM<|yJ<|yR 4 [1] [24,26,27] rfl<|xL rfl rfl hS hxr ?_;intro ad aF av aq;obtain⟨rfl,_⟩:=aq;refine yR 6 [] [29] rfl<|yY 1 av [vS pw d cw] (vS pw d cw) rfl<|yW [] [32] rfl<|zH<|yD N ?_ ?_
 ·intro hc N;obtain⟨s,hy,N⟩:=zF N;obtain⟨⟨y,yb⟩,aw,N⟩:=zF N;refine zT<|yE<|zZ<|yJ<|yR 3 [1] [37,38] rfl<|xL rfl rfl hS hxr ?_;intro ad0 ccs0 hat0 hrep0;obtain⟨rfl,_⟩:=hrep0;refine yR 5 [] [40] rfl<|yY 1 hat0 [vS pw d cw] (vS pw d cw) rfl<|yR 7 [] [42] rfl<|zIK (α:=zJ) 0 rfl rfl rfl hR hy ?_;intro ad1 aY au hcc1 aA;obtain⟨p0,c0,p1,c1,p2,c2,p3,c3,rfl,g0,g1,g2,g3⟩:=xY aA;refine zKx 0 0 au hcc1 (cStmt s p0 c0 p1 c1 p2 c2 p3 c3) (vA (cStmt s p0 c0 p1 c1 p2 c2 p3 c3)) rfl rfl<|tG (zFZ s _ aw g0 g1 g2 g3) ?_;rintro I1 aK v2 k2 ai - ⟨v0,v1,rfl,rfl,⟨aV,rfl,hr⟩,rfl⟩ -;have hr:Rp.rep I1 aV y:=hr;have hr0:=hr;obtain⟨p4,c4,p5,c5,p6,c6,p7,c7,rfl,-,-,-,-⟩:=xY hr;refine yR 13 [] [46,47] rfl<|nV [vT ([]),z0,vI 0,vI 0,z0,vI 0,vT ([]),z0,z0] ?_;intro b7 hb7;refine tA 0 (cStmt y p4 c4 p5 c5 p6 c6 p7 c7) rfl<|yO [] []<|zH ?_;have hS:=hS.mono ai;have hR:RL I1 csb body:=iM ai hR;refine uX [.p (vP b4 1) [],.p (vS pp ae cp) [2],.p (vI i) [],.x (λI' v hx=>∃ad,v=.pointer (some ad)/\hx=[]/\At I' ad [vN,vS pw d cw]),.x (λI' v hx=>∃ad,v=.pointer (some (ad.add 1))/\hx=[]/\At I' ad [vN,vS pw d cw]),.q (vS pw d cw),.p (vI k) [],.p (vA (cStmt y p4 c4 p5 c5 p6 c6 p7 c7)) [0]] [[],[(0,false)],[],[(1,false),(2,false)],[(3,false)],[(4,false)],[],[]] [hB b7 (cStmt y p4 c4 p5 c5 p6 c6 p7 c7),hO zJ (vS pw d cw) csb,hB b4 [vS pa A ca,vS pp ae cp]] [] [(5,false),(6,false),(7,false)] (xD [0,1,2]) ?_ ?_
  ·refine Op<|Op<|Op<|Ox ?_<|Ox ?_<|Oq ?_<|Op<|Op<|On
   ·intro I1 hf ai;refine xV [49,50] rfl<|xL rfl rfl (hS.mono ai) hxr ?_;intro ad aF av aq;obtain⟨rfl,_⟩:=aq;exact xU [] iR ⟨_,rfl,rfl,av⟩
   ·rintro I1 hf ai _ _ ⟨ad,rfl,rfl,av⟩;exact xQ<|zLI [(51,.pointer (some ad))]<|nP 5 [(52,.pointer (some (ad.add 1)))]<|xU [] iR ⟨_,rfl,rfl,av⟩
   rintro I1 hf ai _ _ ⟨ad,rfl,rfl,av⟩;exact xQ<|zLI [(52,.pointer (some (ad.add 1)))]<|yY 1 av [vS pw d cw] (vS pw d cw) rfl<|wD iR
  intro I2 ax;refine xV [2,4,5,6,53,54,55] rfl ?_;have bW:RL I2 csb body:=iM ax hR;refine zIK (α:=zJ) 1 rfl rfl rfl bW hy ?_;intro ad aF av bP aq;obtain⟨q0,e0,q1,e1,q2,e2,q3,e3,rfl,-,-,-,-⟩:=xY aq;exact zDe (c:=(cStmt y p4 c4 p5 c5 p6 c6 p7 c7)) (x':=y) 1 0 rfl rfl rfl av rfl rfl bP (by kernel_rfl) (by kernel_rfl) (by kernel_rfl) bW hy rfl (Rp.mono ax hr0) λcsb' hR' hl'=>zX rfl<|zQ<|zH<|zE<|yW [] [6] rfl<|yL<|kU (xD [1,2] (aj:=[hO zJ (vS pw d cw) csb',hB b4 [vS pa A ca,vS pp ae cp]]))<|gJ<|ih _ (W (k+1)) _ N ((H.trans ai).trans ax) (hS.mono ax) hxr hR' hg ho (λI' cs' h1=>hx I' cs' (h1.trans hl'))
 intro hc N;have:=zB N;simp only[id] at this;subst this;exact uQ<|xM<|hx _ _ rfl H hR
def tI(n:Int)(parts:List zN)(i:Int):Option (List zN):=do
 if(decide (i<n)) then
  let x<-idx parts i
  let b<-uB (x.Body.length:Int) x.Body 0
  tI n (parts.set i.toNat ⟨x.Nest,b⟩) (W (i+1))
 else
  pure (id parts)
 partial_fixpoint
theorem zCA(ae:List Raw2):∀(parts:List zN) (i:Int) (o:List zN),tI (ae.length:Int) parts i=some o->∀{B}{I0 I:Imm}{Q}{xs:List NB}{hs0:List HA}{A:List zI}{pa:Option Addr}{ca:Nat}{pp:Option Addr}{cp:Nat}{b2 b4:Nat},I0.le I->ae=xs.map NB.raw->SL I (vS pp ae cp) ae->parts=xs.map NB.a->(∀x∈xs,x.ok I)->NG Q->NO Q->(∀(I':Imm) (xs':List NB),I0.le I'->ae=xs'.map NB.raw->SL I' (vS pp ae cp) ae->o=xs'.map NB.a->(∀x∈xs',x.ok I')->T 58 B Q (.exit 0) I' (hB b4 [vS pa A ca,vS pp ae cp]::(NBs xs'++hs0)) [(2,vP b2 0),(4,vP b4 0)])->J Tryz.prog 58 B (nav (bodyOf f5) [1,1,1,1,0,1,0]) Q I (hB b4 [vS pa A ca,vS pp ae cp]::(NBs xs++hs0)) [(2,vP b2 0),(4,vP b4 0),(5,vI i)]:=by
 refine tI.partial_correctness _ _ λaG ih parts i o N B I0 I Q xs hs0 A pa ca pp cp b2 b4 H hraw hS hA bS hg ho hx=>yK hg ho<|zM<|yJ<|yW [0] [21] rfl<|zH<|yD N ?_ ?_
 ·intro hc N;obtain⟨x0,hy,N⟩:=zF N;obtain⟨bd,aw,N⟩:=zF N;have hy0:=hy;rw[hA] at hy0;obtain⟨x,hx',rfl⟩:=zK7 hy0;have hxr:idx ae i=some x.raw:=by rw[hraw];exact zIq (f:=NB.raw) hx'
  obtain⟨hi0,hi1,hix⟩:=pP hx';refine zT<|yE<|zZ<|zJz ([x.ha,hB b4 [vS pa A ca,vS pp ae cp]]++(NBs (xs.eraseIdx i.toNat)++hs0)) ((List.Perm.swap _ _ _).trans (List.Perm.cons _ ((zHM hix).symm.append_right hs0)))<|zLK (hs:=[x.ha,hB b4 [vS pa A ca,vS pp ae cp]]) (L:=NBs (xs.eraseIdx i.toNat)++hs0) .normal (λI' aj m'=>∃csb',bd.length=x.d.length/\aj=[hO zJ x.v csb',hB b4 [vS pa A ca,vS pp ae cp]]/\m'=[(2,vP b2 0),(4,vP b4 0),(5,vI i)]/\RL I' csb' bd) (λB0=>?_) ?_
  ·have hfz:=bS x (cQ hix);exact yG [6] rfl<|uP<|rX [(2,vP b2 0),(4,vP b4 0),(5,vI i),(6,vI 0)]<|zBz x.d x.d 0 bd aw iR hS hxr hfz.2 (λ_ _ _ h=>by cases h.1) (λ_ _ h=>by cases h.1) λI3 csb3 hl3 aR hR3=>zU<|zLL ⟨csb3,hl3,rfl,rfl,hR3⟩
  rintro I5 hs5 m5 ⟨csb5,hl5,rfl,rfl,hR5⟩ bo;have hfz:=(bS x (cQ hix)).mono bo;have hev:vS x.p bd x.c=x.v:=by simp only[NB.v,vS,hl5]
  have hzr:(⟨x.vN,x.nl,x.p,bd,x.c,csb5⟩:NB).raw=x.raw:=by simp only[NB.raw];exact congrArg (Raw2.mk x.vN) hev
  have hp:=zKA (z:=⟨x.vN,x.nl,x.p,bd,x.c,csb5⟩) hix;have hzh:(⟨x.vN,x.nl,x.p,bd,x.c,csb5⟩:NB).ha=hO zJ x.v csb5:=by simp only[NB.ha];exact congrArg (λv=>hO zJ v csb5) hev
  rw[hzh] at hp;refine zIp (hB b4 [vS pa A ca,vS pp ae cp]::(NBs (xs.set i.toNat ⟨x.vN,x.nl,x.p,bd,x.c,csb5⟩)++hs0)) ((List.Perm.cons _ (hp.append_right hs0)).trans (List.Perm.swap _ _ _))<|zQ<|zH<|zE<|yW [] [5] rfl<|yL<|gJ<|ih _ (W (i+1)) _ N (xs:=xs.set i.toNat ⟨x.vN,x.nl,x.p,bd,x.c,csb5⟩) (H.trans bo) (by rw[zK9 hix hzr];exact hraw) (hS.mono bo) (by rw[hA,List.map_set];rfl) (zKz (z:=⟨x.vN,x.nl,x.p,bd,x.c,csb5⟩) (λy hy=>(bS y hy).mono bo) ⟨hfz.1,hR5⟩ _) hg ho hx
 intro hc N;have:=zB N;simp only[id] at this;subst this;exact uQ<|xM<|hx _ _ H hraw hS hA bS
def zCX(r:zV×Bool):KT:=λkk I' aj v=>
 ∃v0 v1,aj=[]/\v=tupV [v0,v1]/\(∃cs,v0=.agg ⟨cs⟩/\Rp.rep I' cs r.1)/\v1=.bool r.2
def mN(p:zV):Option (zV×Bool):=do
 let y<-oR p
 let y1<-nG y
 if(!y1) then
  pure ((zV.mk ([]:List zI) ([]:List zN)),false)
 else
  let y2<-dH y
  let o0<-tI (y2.Parts.length:Int) y2.Parts 0
  pure ((zV.mk y2.Arrays o0),true)
theorem zDW:∀p r,mN p=some r->∀{I:Imm}{p1 c p2 c1},(S4 I p1 p.Arrays c)->(S4 I p2 p.Parts c1)->RT 5 [vA (cProg p p1 c p2 c1)] I [] (zCX  r):=by
 intro p r N I p1 c p2 c1 h h1;unfold mN at N;refine yM func5 λB=>yJ<|uA (cProg p p1 c p2 c1) ?_;intro b hb;refine nV zTwo ?_;intro b1 hb1;refine yO [] []<|wG<|xF 1 [1] [(9,vA (cProg p p1 c p2 c1))]<|bE N λy hy N=>tG (zCW p _ hy h h1) ?_;rintro I0 aK v2 k2 le - ⟨v0,rfl,rfl,⟨cs,rfl,h2⟩⟩ -;have h:=h.mono le;obtain⟨p3,c2,p4,c3,rfl,h3,h4⟩:=zFg h2;refine tA 1 (cProg y p3 c2 p4 c3) rfl<|zX rfl<|yE<|yJ<|xF 1 [1] [(11,vA (cProg y p3 c2 p4 c3))]<|bE N λy1 aw N=>vJ (zCm y _ aw h3 h4) ?_;intro aN ai;have ⟨h3,h4⟩:=m2 ai h3 h4;refine yW [] [13] rfl<|zH<|yD N ?_ ?_
 ·intro hc N;refine yJ<|yR 1 [] [14] rfl<|uJ 0 zTwo [hB b1 zTwo,hB b (cProg y p3 c2 p4 c3)] rfl rfl rfl rfl<|yO [] [(3,vF)]<|yS<|zG ?_;obtain rfl:=zB N;exact yV ⟨_,_,(.cell 0 rfl rfl (by kernel_rfl) (.tmp rfl ResV.nil)),zO,⟨_,_,rfl,rfl,⟨_,rfl,(fN ⟨_,_,rfl,(SL.nil _),(SL.nil _)⟩)⟩,rfl⟩⟩
 intro hc N;refine zT<|yE<|bE N λy2 aI N=>zE<|xF 1 [1] [(15,vA (cProg y p3 c2 p4 c3))]<|tG (zFn y _ aI h3 h4) ?_;rintro bf aK v2 k2 ax - ⟨xs,pa,ca,pp,cp,rfl,rfl,hA,hPt,hok,hRw⟩ -;refine zKy ([hB b1 zTwo,hB b (cProg y p3 c2 p4 c3)]++NBs xs) cf<|nV zTwo ?_;intro b2 hb2;refine uJ 0 [vS pa y2.Arrays ca,vS pp (xs.map NB.raw) cp] (hB b2 [vS pa y2.Arrays ca,vS pp (xs.map NB.raw) cp]::hB b1 zTwo::hB b (cProg y p3 c2 p4 c3)::NBs xs) rfl rfl rfl rfl<|zX rfl<|yE<|yG [5] rfl<|uP<|zJz (hB b2 [vS pa y2.Arrays ca,vS pp (xs.map NB.raw) cp]::(NBs xs++[hB b1 zTwo,hB b (cProg y p3 c2 p4 c3)])) (List.Perm.cons _ cf)<|rX [(2,vP b1 0),(4,vP b2 0),(5,vI 0)] ?_;obtain⟨o0,ay,aB⟩:=zF N;rw[show ((y2.Parts.length:Nat):Int)=((xs.map NB.raw).length:Int) by rw[hPt,cM,cM]] at ay;refine zCA (xs.map NB.raw) y2.Parts 0 o0 ay (xs:=xs) (hs0:=[hB b1 zTwo,hB b (cProg y p3 c2 p4 c3)]) iR rfl hRw hPt hok (λ_ _ _ h=>h) (λ_ _ h=>h) ?_;intro bq xs1 aR hr0 hS hA1 hok1;have hA:=hA.mono aR;refine zIp (NBs xs1++hB b2 [vS pa y2.Arrays ca,vS pp (xs.map NB.raw) cp]::[hB b1 zTwo,hB b (cProg y p3 c2 p4 c3)]) List.perm_middle<|zG2 xs1 hok1 ?_;intro bG bg hf0;have hA:=hA.mono bg;have h6:SL bG (vS pp o0 cp) o0:=by rw[hA1];exact zKB (by rw[<- hr0];exact hS.mono bg) hf0
 have eP:vS pp (xs.map NB.raw) cp=vS pp o0 cp:=by rw[hr0,hA1];simp only[vS,cM]
 rw[eP];refine zU<|wG<|xF 1 [0] [(57,vA [vS pa y2.Arrays ca,vS pp o0 cp])]<|tA 1 [vS pa y2.Arrays ca,vS pp o0 cp] rfl<|yO [] [(3,vY)]<|zH<|yF ?_;obtain rfl:=zB aB;exact yV ⟨_,_,(.cell 1 rfl rfl (by kernel_rfl) (.tmp rfl ResV.nil)),zO,⟨_,_,rfl,rfl,⟨_,rfl,(fN ⟨_,_,rfl,hA,h6⟩)⟩,rfl⟩⟩
def zBF(r:List Int):KT:=λkk I' aj v=>
 ∃a0 c0 s0,aj=[.osl (.slice a0 r.length c0) (Rp.sz Int) s0]/\v=tupV [(.slice a0 r.length c0)]/\RepL (Rp.rep I') (Rp.sz Int) s0 r
def wU(s:List Int):Option (List Int):=app 8 ([]:List Int) s
theorem qD:∀s r,wU s=some r->∀{I:Imm}{p c},SL I (vS p s c) s->RT 42 [vS p s c] I [] (zBF r):=by
 intro s r N I p c h;unfold wU at N;obtain⟨aF,k0,k01⟩:=h;refine yM func42 λB=>?_;cases p with
 | none=>
  have hs:s=[]:=by
   rcases k0 with⟨_,hv,rfl⟩|⟨b0,off,len,cap,cc,hv,k2⟩
   ·cases s with
    | nil=>rfl
    | cons _ _=>simp at hv
   simp at hv
  subst hs;obtain⟨_,rfl⟩:=zAo N;refine yG [0,2] rfl<|yE<|yJ<|yR 1 [] [3] rfl<|zLJ true rfl rfl ?_ rfl;exact yO [] [(4,vY)]<|zH<|zHv rfl<|xZ [(2,z0)]<|yS<|zG<|wM (zAZ (Rp.sz Int))<|yV ⟨_,_,(.tmp rfl ResV.nil),(yN [0] rfl (by decide)),⟨none,0,[],rfl,rfl,rfl⟩⟩
 | some ad=>
  refine yG [0,2] rfl<|yE<|yJ<|yR 1 [] [3] rfl<|zLJ false rfl rfl ?_ rfl;refine yW [] [0,4] rfl<|zH<|zHZ rfl<|zT<|wG<|jJ [] Int ?_;intro b2 hb2;have h1:RL I [] ([]:List Int):=rfl;exact yR 2 [] [6] rfl<|fU 3 1 0 rfl rfl rfl h1 (.inl k0) k01 N λp1 c1 cs h2=>yW [] [2] rfl<|yS<|yV ⟨_,_,(.tmp rfl ResV.nil),(yN [0] rfl (by decide)),⟨_,_,_,rfl,rfl,h2⟩⟩
def wH(n0:Int)(low:Int)(high:Int):Option (Bool):=do
 let t6<-(do
  if(decide (low<=n0)) then
   pure (decide (n0<=high))
  else
   pure false
    : Option Bool)
 pure (id t6)
theorem wO:∀n0 low high r,wH n0 low high=some r->∀{I:Imm} ,RT 74 [vI n0,vI low,vI high] I [] (zS  r):=by
 intro n0 low high r N I;unfold wH at N;refine yM func74 λB=>?_;have H:=iS I;refine xZ []<|zH<|zM ?_;refine tZ N [] (λt6=>[(6,.bool t6)]) (λo0 ay=>?_) ?_
 ·have H:=iS I;refine zE<|yR 4 [] [10] rfl<|wN [10] ay ?_ ?_
  ·intro hc N;exact yW [] [6] rfl<|xM<|zY (ct N H)
  intro hc N;exact yO [] [(6,vF)]<|xM<|zY (ct N H)
 intro t6 I0 le aT;refine zH<|yF ?_;obtain rfl:=zB aT;exact xH
def gL(s:Str)(substr:Str):Option Bool:=match substr.l with|[c]=>some (decide (0<=Lib.indexByte s.l c))|_=>none
theorem zDX:∀(s substr:Str) r,gL s substr=some r->∀{I:Imm},RT 145 [vT s.l,vT substr.l] I [] (zS r):=by
 intro s substr r N I;unfold gL at N;split at N
 ·rename_i c hc;cases N
  rw[hc];exact zJ6 (λw g=>(Tryz.strings_Contains_one ⟨⟨s.l⟩⟩ c w).mono λe w' ⟨h1,h2⟩=>⟨h1,h2 ▸ RowKit.Below.refl _ _,Nat.le_of_eq (by rw[h2])⟩) λk=>⟨_,rfl,rfl,rfl⟩
 cases N
def jO(s:Str):Option (Bool):=do
 let t2<-(do
  if((s.l.length:Int)==1) then
   let y<-gL (⟨[65,66,67,68]⟩:Str) s
   pure (id y)
  else
   pure false
    : Option Bool)
 pure (id t2)
theorem nB:∀s r,jO s=some r->∀{I:Imm} ,RT 113 [vT s.l] I [] (zS  r):=by
 intro s r N I;unfold jO at N;refine yM func113 λB=>?_;have H:=iS I;refine xZ []<|zH<|zM ?_;refine tZ N [] (λt2=>[(2,.bool t2)]) (λo0 ay=>?_) ?_
 ·have H:=iS I;refine zE<|yR 4 [] [6] rfl<|wN [6] ay ?_ ?_
  ·intro hc N;refine yR 5 [] [7] rfl<|bE N λy hy N=>vJ (zDX (⟨[65,66,67,68]⟩:Str) s _ hy ) ?_;intro aN le;have H:=H.trans le;exact yW [] [2] rfl<|xM<|zY (ct N H)
  intro hc N;exact yO [] [(2,vF)]<|xM<|zY (ct N H)
 intro t2 I0 ai aT;refine zH<|yF ?_;obtain rfl:=zB aT;exact xH
def gG(aL:List HA)(r:Int):KT:=λkk I' aj v=>
 ∃v0,aL=aj/\v=tupV [v0]/\v0=.int .i64 r
def wK(s:(List Int))(f0:(Int->Option Bool))(t8:Int):Option (Out Unit (Int)):=do
 if(decide (t8<(s.length:Int))) then
  let x<-idx s t8
  let y<-f0 x
  if y then
   pure (.ret t8)
  else
   wK s f0 (W (t8+1))
 else
  pure (.done ())
 partial_fixpoint
theorem zAP(s:(List Int))(f0:(Int->Option Bool)):∀(t8:Int) (o:Out Unit (Int)),wK s f0 t8=some o->∀{B}{I0 I:Imm}{Q p c}{fv:Value}{aL:List HA},I0.le I->(S4 I p s c)->(FV1 Tryz.prog I aL fv f0)->NG Q->NO Q->(∀(I':Imm) ,o=(.done ())->I0.le I'->T 19 B Q (.exit 0) I' aL [])->(∀r I' aj m',o=(.ret r)->I0.le I'->RS Tryz.prog f146 B (gG aL r) I' aj m'->T 19 B Q .ret I' aj m')->J Tryz.prog 19 B (nav (bodyOf f146) [1,0,1,0]) Q I aL [(0,vS p s c),(1,fv),(7,vI (s.length:Int)),(8,vI t8)]:=by
 refine wK.partial_correctness s f0 _ λaG ih t8 o N B I0 I Q p c fv aL H h h1 hg ho hx hr=>yK hg ho<|yG [9] rfl<|yE<|yD N ?_ ?_
 ·intro hc N;refine zT<|yE<|zZ<|yG [5] rfl<|wG<|yR 3 [] [11,12,13] rfl<|bE N λx hy N=>xL rfl rfl h hy ?_;intro ad aF av aq;obtain rfl:=aq;refine yY 0 av [vI x] (vI x) rfl<|bE N λy aw N=>zJB rfl rfl h1 aw rfl (ce _).symm ?_;rintro I0 v0 le rfl;refine jK (aj:=aL) (ce _) ?_;have ⟨h,h1,H⟩:=m3 le h h1 H;refine zX rfl<|zH<|yD N ?_ ?_
  ·intro aE N;exact yG [4] rfl<|yS<|zR<|zG<|zG<|hr _ _ _ _ (zB N).symm H ⟨_,_,(.tmp rfl ResV.nil),(λ_ h=>h),⟨_,rfl,rfl,rfl⟩⟩
  intro aE N;exact zT<|zQ<|zH<|zE<|yW [] [8] rfl<|yL<|gJ<|ih (W (t8+1)) _ N H h h1 hg ho hx hr
 intro hc N;exact uQ<|xM<|hx _  (zB N).symm H
def qS(s:(List Int))(f0:(Int->Option Bool)):Option (Int):=do
 match<-wK s f0 0 with
 | .ret r0=>pure r0
 | .done _=>
  pure (-1)
theorem zAj:∀s f0 r,qS s f0=some r->∀{I:Imm}{p c}{fv:Value}{aL:List HA},(S4 I p s c)->(FV1 Tryz.prog I aL fv f0)->RT 146 [vS p s c,fv] I aL (gG aL r):=by
 intro s f0 r N I p c fv aL h h1;unfold qS at N;refine yM func146 λB=>xZ []<|yE<|yG [7,8] rfl<|uP<|rX [(0,vS p s c),(1,fv),(7,vI (s.length:Int)),(8,vI 0)] ?_;obtain⟨o0,ay,aB⟩:=zF N;refine zAP s f0 0 o0 ay iR h h1 (λ_ _ _ h=>h) (λ_ _ h=>h) ?_ ?_
 ·intro aN  heq ai;subst o0;refine zU<|wJ [4] rfl<|zH<|yF ?_;obtain rfl:=zB aB;exact yV ⟨_,_,(.tmp rfl ResV.nil),(λ_ h=>h),⟨_,rfl,rfl,rfl⟩⟩
 intro r0 I9 hs9 m9 aC le9 aD;subst aC;refine zR<|zG ?_;obtain rfl:=zB aB;exact yV aD
def zAD(aL:List HA)(r:Bool):KT:=λkk I' aj v=>
 ∃v0,aL=aj/\v=tupV [v0]/\v0=.bool r
def xG(s:(List Int))(f0:(Int->Option Bool)):Option (Bool):=do
 let y<-qS s f0
 pure (decide (y>=0))
theorem sH:∀s f0 r,xG s f0=some r->∀{I:Imm}{p c}{fv:Value}{aL:List HA},(S4 I p s c)->(FV1 Tryz.prog I aL fv f0)->RT 114 [vS p s c,fv] I aL (zAD aL r):=by
 intro s f0 r N I p c fv aL h h1;unfold xG at N;refine yM func114 λB=>xZ []<|wG<|yR 2 [] [5,6] rfl<|bE N λy hy N=>uZ (hs1:=aL) (rest:=[]) rfl rfl rfl rfl (by kernel_rfl) rfl (ce _).symm (zAj s f0 _ hy h h1) ?_;rintro I0 aK v2 k2 le - ⟨v0,rfl,rfl,rfl⟩ -;refine jK (aj:=aL) (ce _) ?_;refine yW [] [4] rfl<|zH<|yF ?_;obtain rfl:=zB N;exact yV ⟨_,_,(.tmp rfl ResV.nil),(λ_ h=>h),⟨_,rfl,rfl,rfl⟩⟩
def uN(n0:Int):Option (Bool):=do
 let y<-wH n0 1 6
 pure (!y)
theorem zAw:∀n0 r,uN n0=some r->∀{I:Imm} ,RT 115 [vI n0] I [] (zS  r):=by
 intro n0 r N I;unfold uN at N;refine yM func115 λB=>xZ []<|wG<|yR 1 [] [3] rfl<|bE N λy hy N=>vJ (wO n0 1 6 _ hy ) λI0 le=>yO [] [(2,.bool (!y))]<|zH<|yF ?_;obtain rfl:=zB N;exact xH
def rO(ag:(List zI))(t7:Int):Option (Out Unit (Bool)):=do
 if(decide (t7<(ag.length:Int))) then
  let x<-idx ag t7
  let t42<-(do
   let y<-jO x.Name
   if(!y) then
    pure true
   else
    if(decide (t7>0)) then
     let x1<-idx ag (W (t7 - 1))
     if(!(Op.bytesLess x1.Name.l x.Name.l)) then
      pure true
     else
      let y1<-wH (x.Dims.length:Int) 1 2
      if(!y1) then
       pure true
      else
       let y2<-xG x.Dims uN
       pure (id y2)
    else
     let y3<-wH (x.Dims.length:Int) 1 2
     if(!y3) then
      pure true
     else
      let y4<-xG x.Dims uN
      pure (id y4)
     : Option Bool)
  if t42 then
   pure (.ret false)
  else
   rO ag (W (t7+1))
 else
  pure (.done ())
 partial_fixpoint
theorem zDY(ag:(List zI)):∀(t7:Int) (o:Out Unit (Bool)),rO ag t7=some o->∀{B}{I0 I:Imm}{Q p c},I0.le I->(S4 I p ag c)->NG Q->NO Q->(∀(I':Imm) ,o=(.done ())->I0.le I'->T 47 B Q (.exit 0) I' [] [(0,vS p ag c)])->(∀r I' aj m',o=(.ret r)->I0.le I'->RS Tryz.prog f72 B (zS  r) I' aj m'->T 47 B Q .ret I' aj m')->J Tryz.prog 47 B (nav (bodyOf f72) [1,0,1,0]) Q I [] [(0,vS p ag c),(5,vS p ag c),(6,vI (ag.length:Int)),(7,vI t7)]:=by
 refine rO.partial_correctness ag _ λaG ih t7 o N B I0 I Q p c H h hg ho hx hr=>yK hg ho<|yG [8] rfl<|yE<|yD N ?_ ?_
 ·intro hc N;refine zT<|yE<|zZ<|yJ<|yR 1 [] [9] rfl<|bE N λx hy N=>xL rfl rfl h hy ?_;intro ad aF av aq;obtain⟨p1,c1,rfl,h1⟩:=wB aq;refine yY 0 av (cArr x p1 c1) (vA (cArr x p1 c1)) rfl<|nV [vT ([]),z0] ?_;intro b hb;refine yR 5 [] [3] rfl<|tA 0 (cArr x p1 c1) rfl<|zX rfl<|zH<|zM ?_;refine tZ N [] (λt42=>[(0,vS p ag c),(5,vS p ag c),(6,vI (ag.length:Int)),(7,vI t7),(42,.bool t42)]) (λo0 ay=>?_) ?_
  ·have H:=iS I;obtain⟨y,aw,N⟩:=zF ay;cases aE:(!y) with
   | true=>
    have hM0:=nN aE N;refine uX [.p (vP b 0) [],.p (vT x.Name.l) [0],.q (.bool y),.q vY,.q vY,.p undef [],.p undef [],.p undef [],.p undef [],.p undef [],.p undef [],.p undef [],.p undef [],.p undef [],.p undef [],.p undef [],.p undef [],.p undef [],.p vY [],.p vY [],.p undef [],.p undef [],.p undef [],.p undef [],.p undef [],.p vY [],.p vY [],.p undef [],.p undef [],.p undef [],.p vY []] [[],[(0,false)],[(1,false)],[(2,false)],[(3,false)],[(4,false)],[(4,false),(5,false)],[(4,false),(6,false)],[(7,false)],[(7,false)],[(7,false),(9,false)],[(7,false),(8,false),(10,false)],[(7,false),(11,false)],[(7,false),(12,false)],[(7,false)],[(7,false),(14,false)],[(7,false),(13,false),(15,false)],[(4,false),(7,false),(16,false)],[(4,false),(17,false)],[(18,false)],[(19,false)],[(19,false),(20,false)],[(19,false),(21,false)],[(19,false),(22,false)],[(19,false),(23,false)],[(19,false),(24,false)],[(25,false)],[(26,false)],[(26,false),(27,false)],[(26,false),(28,false)],[(26,false),(29,false)]] [hB b (cArr x p1 c1)] [] [(30,false)] (xD [0]) ?_ ?_
    ·refine Op<|Op<|Oq ?_<|Oq ?_<|Oq ?_<|Op<|Op<|Op<|Op<|Op<|Op<|Op<|Op<|Op<|Op<|Op<|Op<|Op<|Op<|Op<|Op<|Op<|Op<|Op<|Op<|Op<|Op<|Op<|Op<|Op<|Op<|On
     ·intro I1 hf ai;refine xV [13] rfl ?_;have H:=iS I1;refine vJ (nB x.Name _ aw ) ?_;intro aN le;have H:=H.trans le;exact wD H
     ·intro I1 hf ai;refine xV [14] rfl<|nP 4 [(15,.bool (!y))] ?_;rw[aE];exact wD iR
     intro I1 hf ai;exact I_h [(15,vY)]<|nP 5 [(16,vY)]<|wD iR
    intro bf ai;refine xV [0,5,6,7,42] rfl ?_;have H:=H.trans ai;exact zX rfl<|wM zO<|xM<|zY (ct hM0 H)
   | false=>
    have hM01:=oK aE N;cases aQ:(decide (t7>0)) with
    | true=>
     have hM02:=nN aQ hM01;obtain⟨x1,aI,N⟩:=zF hM02;cases bp:(!(Op.bytesLess x1.Name.l x.Name.l)) with
     | true=>
      have hM03:=nN bp N;refine uX [.p (vP b 0) [],.p (vT x.Name.l) [0],.q (.bool y),.q vF,.q vF,.p (vI t7) [],.q vY,.q vY,.p (vS p ag c) [],.p (vI t7) [],.p (vI (W (t7 - 1))) [],.x (ePArr x1),.x (ePArr x1),.q (vT x1.Name.l),.p (vP b 0) [],.p (vT x.Name.l) [0],.q vY,.q vY,.q vY,.q vY,.p undef [],.p undef [],.p undef [],.p undef [],.p undef [],.p vY [],.p vY [],.p undef [],.p undef [],.p undef [],.p vY []] [[],[(0,false)],[(1,false)],[(2,false)],[(3,false)],[(4,false)],[(4,false),(5,false)],[(4,false),(6,false)],[(7,false)],[(7,false)],[(7,false),(9,false)],[(7,false),(8,false),(10,false)],[(7,false),(11,false)],[(7,false),(12,false)],[(7,false)],[(7,false),(14,false)],[(7,false),(13,false),(15,false)],[(4,false),(7,false),(16,false)],[(4,false),(17,false)],[(18,false)],[(19,false)],[(19,false),(20,false)],[(19,false),(21,false)],[(19,false),(22,false)],[(19,false),(23,false)],[(19,false),(24,false)],[(25,false)],[(26,false)],[(26,false),(27,false)],[(26,false),(28,false)],[(26,false),(29,false)]] [hB b (cArr x p1 c1)] [] [(30,false)] (xD [0]) ?_ ?_
      ·refine Op<|Op<|Oq ?_<|Oq ?_<|Oq ?_<|Op<|Oq ?_<|Oq ?_<|Op<|Op<|Op<|Ox ?_<|Ox ?_<|Oq ?_<|Op<|Op<|Oq ?_<|Oq ?_<|Oq ?_<|Oq ?_<|Op<|Op<|Op<|Op<|Op<|Op<|Op<|Op<|Op<|Op<|Op<|On
       ·intro I1 hf ai;refine xV [13] rfl ?_;have H:=iS I1;refine vJ (nB x.Name _ aw ) ?_;intro aN le;have H:=H.trans le;exact wD H
       ·intro I1 hf ai;refine xV [14] rfl<|nP 4 [(15,.bool (!y))] ?_;rw[aE];exact wD iR
       ·intro I1 hf ai;exact I_h [(15,vF)]<|nP 5 [(16,vF)]<|wD iR
       ·intro I1 hf ai;refine xV [16,17] rfl<|nP 7 [(18,.bool (decide (t7>0)))] ?_;rw[aQ];exact wD iR
       ·intro I1 hf ai;exact xV [16,18] rfl<|nP 8 [(19,vY)]<|wD iR
       ·intro I1 hf ai;refine xV [19,20,22] rfl ?_;have h:=h.mono ai;refine xL rfl rfl h aI ?_;intro ad1 aY au aA;obtain⟨p2,c2,rfl,h3⟩:=wB aA;exact xU [] iR ⟨_,_,_,rfl,rfl,au,h3⟩
       ·rintro I1 hf ai _ _ ⟨rfl,rfl⟩ _ _ ⟨ad1,p2,c2,rfl,rfl,au,h3⟩;exact xV [19,23] rfl<|nP 13 [(24,.pointer (some ad1))]<|xU [] iR ⟨_,_,_,rfl,rfl,au,h3⟩
       ·rintro I1 hf ai _ _ ⟨rfl,rfl⟩ _ _ ⟨ad11,p21,c21,rfl,rfl,hat11,h31⟩;exact xV [19,24] rfl<|yY 0 hat11 [vT x1.Name.l] (vT x1.Name.l) rfl<|wD iR
       ·intro I1 hf ai;refine xV [19,25,27] rfl<|nP 17 [(28,.bool (!(Op.bytesLess x1.Name.l x.Name.l)))] ?_;rw[bp];exact wD iR
       ·intro I1 hf ai;exact xV [16,19,28] rfl<|nP 18 [(29,vY)]<|wD iR
       ·intro I1 hf ai;exact xV [16,29] rfl<|nP 19 [(30,vY)]<|wD iR
       intro I1 hf ai;exact I_h [(30,vY)]<|nP 20 [(31,vY)]<|wD iR
      intro bq ax;refine xV [0,5,6,7,42] rfl ?_;have H:=H.trans ax;exact zX rfl<|wM zO<|xM<|zY (ct hM03 H)
     | false=>
      have hM04:=oK bp N;obtain⟨y1,aW,N⟩:=zF hM04;cases bD:(!y1) with
      | true=>
       have hM05:=nN bD N;refine uX [.p (vP b 0) [],.p (vT x.Name.l) [0],.q (.bool y),.q vF,.q vF,.p (vI t7) [],.q vY,.q vY,.p (vS p ag c) [],.p (vI t7) [],.p (vI (W (t7 - 1))) [],.x (ePArr x1),.x (ePArr x1),.q (vT x1.Name.l),.p (vP b 0) [],.p (vT x.Name.l) [0],.q vF,.q vF,.q vF,.q vF,.p (vP b 1) [],.p (vS p1 x.Dims c1) [0],.p (vI (x.Dims.length:Int)) [],.q (.bool y1),.q vY,.q vY,.q vY,.p undef [],.p undef [],.p undef [],.p vY []] [[],[(0,false)],[(1,false)],[(2,false)],[(3,false)],[(4,false)],[(4,false),(5,false)],[(4,false),(6,false)],[(7,false)],[(7,false)],[(7,false),(9,false)],[(7,false),(8,false),(10,false)],[(7,false),(11,false)],[(7,false),(12,false)],[(7,false)],[(7,false),(14,false)],[(7,false),(13,false),(15,false)],[(4,false),(7,false),(16,false)],[(4,false),(17,false)],[(18,false)],[(19,false)],[(19,false),(20,false)],[(19,false),(21,false)],[(19,false),(22,false)],[(19,false),(23,false)],[(19,false),(24,false)],[(25,false)],[(26,false)],[(26,false),(27,false)],[(26,false),(28,false)],[(26,false),(29,false)]] [hB b (cArr x p1 c1)] [] [(30,false)] (xD [0]) ?_ ?_
       ·refine Op<|Op<|Oq ?_<|Oq ?_<|Oq ?_<|Op<|Oq ?_<|Oq ?_<|Op<|Op<|Op<|Ox ?_<|Ox ?_<|Oq ?_<|Op<|Op<|Oq ?_<|Oq ?_<|Oq ?_<|Oq ?_<|Op<|Op<|Op<|Oq ?_<|Oq ?_<|Oq ?_<|Oq ?_<|Op<|Op<|Op<|Op<|On
        ·intro I1 hf ai;refine xV [13] rfl ?_;have H:=iS I1;refine vJ (nB x.Name _ aw ) ?_;intro aN le;have H:=H.trans le;exact wD H
        ·intro I1 hf ai;refine xV [14] rfl<|nP 4 [(15,.bool (!y))] ?_;rw[aE];exact wD iR
        ·intro I1 hf ai;exact I_h [(15,vF)]<|nP 5 [(16,vF)]<|wD iR
        ·intro I1 hf ai;refine xV [16,17] rfl<|nP 7 [(18,.bool (decide (t7>0)))] ?_;rw[aQ];exact wD iR
        ·intro I1 hf ai;exact xV [16,18] rfl<|nP 8 [(19,vY)]<|wD iR
        ·intro I1 hf ai;refine xV [19,20,22] rfl ?_;have h:=h.mono ai;refine xL rfl rfl h aI ?_;intro ad1 aY au aA;obtain⟨p2,c2,rfl,h3⟩:=wB aA;exact xU [] iR ⟨_,_,_,rfl,rfl,au,h3⟩
        ·rintro I1 hf ai _ _ ⟨rfl,rfl⟩ _ _ ⟨ad1,p2,c2,rfl,rfl,au,h3⟩;exact xV [19,23] rfl<|nP 13 [(24,.pointer (some ad1))]<|xU [] iR ⟨_,_,_,rfl,rfl,au,h3⟩
        ·rintro I1 hf ai _ _ ⟨rfl,rfl⟩ _ _ ⟨ad11,p21,c21,rfl,rfl,hat11,h31⟩;exact xV [19,24] rfl<|yY 0 hat11 [vT x1.Name.l] (vT x1.Name.l) rfl<|wD iR
        ·intro I1 hf ai;refine xV [19,25,27] rfl<|nP 17 [(28,.bool (!(Op.bytesLess x1.Name.l x.Name.l)))] ?_;rw[bp];exact wD iR
        ·intro I1 hf ai;exact xV [16,19,28] rfl<|nP 18 [(29,vF)]<|wD iR
        ·intro I1 hf ai;exact xV [16,29] rfl<|nP 19 [(30,vF)]<|wD iR
        ·intro I1 hf ai;exact I_h [(30,vF)]<|nP 20 [(31,vF)]<|wD iR
        ·intro I1 hf ai;refine xV [31,34] rfl ?_;have H:=iS I1;refine vJ (wO (x.Dims.length:Int) 1 2 _ aW ) ?_;intro bG aR;have H:=H.trans aR;exact wD H
        ·intro I1 hf ai;refine xV [31,35] rfl<|nP 25 [(36,.bool (!y1))] ?_;rw[bD];exact wD iR
        ·intro I1 hf ai;exact xV [31,36] rfl<|nP 26 [(37,vY)]<|wD iR
        intro I1 hf ai;exact I_h [(37,vY)]<|nP 27 [(38,vY)]<|wD iR
       intro bL bg;refine xV [0,5,6,7,42] rfl ?_;have H:=H.trans bg;exact zX rfl<|wM zO<|xM<|zY (ct hM05 H)
      | false=>
       have hM06:=oK bD N;obtain⟨y2,bk,N⟩:=zF hM06;refine uX [.p (vP b 0) [],.p (vT x.Name.l) [0],.q (.bool y),.q vF,.q vF,.p (vI t7) [],.q vY,.q vY,.p (vS p ag c) [],.p (vI t7) [],.p (vI (W (t7 - 1))) [],.x (ePArr x1),.x (ePArr x1),.q (vT x1.Name.l),.p (vP b 0) [],.p (vT x.Name.l) [0],.q vF,.q vF,.q vF,.q vF,.p (vP b 1) [],.p (vS p1 x.Dims c1) [0],.p (vI (x.Dims.length:Int)) [],.q (.bool y1),.q vF,.q vF,.q vF,.p (vP b 1) [],.p (vS p1 x.Dims c1) [0],.q (.bool y2),.p (.bool y2) []] [[],[(0,false)],[(1,false)],[(2,false)],[(3,false)],[(4,false)],[(4,false),(5,false)],[(4,false),(6,false)],[(7,false)],[(7,false)],[(7,false),(9,false)],[(7,false),(8,false),(10,false)],[(7,false),(11,false)],[(7,false),(12,false)],[(7,false)],[(7,false),(14,false)],[(7,false),(13,false),(15,false)],[(4,false),(7,false),(16,false)],[(4,false),(17,false)],[(18,false)],[(19,false)],[(19,false),(20,false)],[(19,false),(21,false)],[(19,false),(22,false)],[(19,false),(23,false)],[(19,false),(24,false)],[(25,false)],[(26,false)],[(26,false),(27,false)],[(26,false),(28,false)],[(26,false),(29,false)]] [hB b (cArr x p1 c1)] [] [(30,false)] (xD [0]) ?_ ?_
       ·refine Op<|Op<|Oq ?_<|Oq ?_<|Oq ?_<|Op<|Oq ?_<|Oq ?_<|Op<|Op<|Op<|Ox ?_<|Ox ?_<|Oq ?_<|Op<|Op<|Oq ?_<|Oq ?_<|Oq ?_<|Oq ?_<|Op<|Op<|Op<|Oq ?_<|Oq ?_<|Oq ?_<|Oq ?_<|Op<|Op<|Oq ?_<|Op<|On
        ·intro I1 hf ai;refine xV [13] rfl ?_;have H:=iS I1;refine vJ (nB x.Name _ aw ) ?_;intro aN le;have H:=H.trans le;exact wD H
        ·intro I1 hf ai;refine xV [14] rfl<|nP 4 [(15,.bool (!y))] ?_;rw[aE];exact wD iR
        ·intro I1 hf ai;exact I_h [(15,vF)]<|nP 5 [(16,vF)]<|wD iR
        ·intro I1 hf ai;refine xV [16,17] rfl<|nP 7 [(18,.bool (decide (t7>0)))] ?_;rw[aQ];exact wD iR
        ·intro I1 hf ai;exact xV [16,18] rfl<|nP 8 [(19,vY)]<|wD iR
        ·intro I1 hf ai;refine xV [19,20,22] rfl ?_;have h:=h.mono ai;refine xL rfl rfl h aI ?_;intro ad1 aY au aA;obtain⟨p2,c2,rfl,h3⟩:=wB aA;exact xU [] iR ⟨_,_,_,rfl,rfl,au,h3⟩
        ·rintro I1 hf ai _ _ ⟨rfl,rfl⟩ _ _ ⟨ad1,p2,c2,rfl,rfl,au,h3⟩;exact xV [19,23] rfl<|nP 13 [(24,.pointer (some ad1))]<|xU [] iR ⟨_,_,_,rfl,rfl,au,h3⟩
        ·rintro I1 hf ai _ _ ⟨rfl,rfl⟩ _ _ ⟨ad11,p21,c21,rfl,rfl,hat11,h31⟩;exact xV [19,24] rfl<|yY 0 hat11 [vT x1.Name.l] (vT x1.Name.l) rfl<|wD iR
        ·intro I1 hf ai;refine xV [19,25,27] rfl<|nP 17 [(28,.bool (!(Op.bytesLess x1.Name.l x.Name.l)))] ?_;rw[bp];exact wD iR
        ·intro I1 hf ai;exact xV [16,19,28] rfl<|nP 18 [(29,vF)]<|wD iR
        ·intro I1 hf ai;exact xV [16,29] rfl<|nP 19 [(30,vF)]<|wD iR
        ·intro I1 hf ai;exact I_h [(30,vF)]<|nP 20 [(31,vF)]<|wD iR
        ·intro I1 hf ai;refine xV [31,34] rfl ?_;have H:=iS I1;refine vJ (wO (x.Dims.length:Int) 1 2 _ aW ) ?_;intro bG aR;have H:=H.trans aR;exact wD H
        ·intro I1 hf ai;refine xV [31,35] rfl<|nP 25 [(36,.bool (!y1))] ?_;rw[bD];exact wD iR
        ·intro I1 hf ai;exact xV [31,36] rfl<|nP 26 [(37,vF)]<|wD iR
        ·intro I1 hf ai;exact I_h [(37,vF)]<|nP 27 [(38,vF)]<|wD iR
        intro I1 hf ai;refine xV [38,40] rfl ?_;have H:=iS I1;have ⟨h,h1⟩:=m2 ai h h1;have hf0:FV1 Tryz.prog I1 [] (.func (.func 115) ⟨[]⟩ ⟨[]⟩) uN:=by
         refine FV1.intro ?_;intro I1 ai x0 r u0 hF k0;obtain rfl:=k0;exact(zAw x0 r hF ).mono (by rintro k i hs u ⟨v0,rfl,rfl,h⟩;exact⟨rfl,h⟩)
        refine tG (sH x.Dims uN _ bk h1 hf0) ?_;rintro I06 aK v2 k2 bo - ⟨v04,rfl,rfl,rfl⟩ -;have H:=H.trans bo;exact wD H
       intro I07 bB;refine xV [0,5,6,7,42] rfl ?_;have H:=H.trans bB;exact zX rfl<|wM zO<|xM<|zY (ct N H)
    | false=>
     have hM07:=oK aQ hM01;obtain⟨y3,bC,N⟩:=zF hM07;cases hc5:(!y3) with
     | true=>
      have hM08:=nN hc5 N;refine uX [.p (vP b 0) [],.p (vT x.Name.l) [0],.q (.bool y),.q vF,.q vF,.p (vI t7) [],.q vF,.q vF,.p undef [],.p undef [],.p undef [],.p undef [],.p undef [],.p undef [],.p undef [],.p undef [],.p undef [],.p vF [],.p vF [],.p vF [],.p (vP b 1) [],.p (vS p1 x.Dims c1) [0],.p (vI (x.Dims.length:Int)) [],.q (.bool y3),.q vY,.q vY,.q vY,.p undef [],.p undef [],.p undef [],.p vY []] [[],[(0,false)],[(1,false)],[(2,false)],[(3,false)],[(4,false)],[(4,false),(5,false)],[(4,false),(6,false)],[(7,false)],[(7,false)],[(7,false),(9,false)],[(7,false),(8,false),(10,false)],[(7,false),(11,false)],[(7,false),(12,false)],[(7,false)],[(7,false),(14,false)],[(7,false),(13,false),(15,false)],[(4,false),(7,false),(16,false)],[(4,false),(17,false)],[(18,false)],[(19,false)],[(19,false),(20,false)],[(19,false),(21,false)],[(19,false),(22,false)],[(19,false),(23,false)],[(19,false),(24,false)],[(25,false)],[(26,false)],[(26,false),(27,false)],[(26,false),(28,false)],[(26,false),(29,false)]] [hB b (cArr x p1 c1)] [] [(30,false)] (xD [0]) ?_ ?_
      ·refine Op<|Op<|Oq ?_<|Oq ?_<|Oq ?_<|Op<|Oq ?_<|Oq ?_<|Op<|Op<|Op<|Op<|Op<|Op<|Op<|Op<|Op<|Op<|Op<|Op<|Op<|Op<|Op<|Oq ?_<|Oq ?_<|Oq ?_<|Oq ?_<|Op<|Op<|Op<|Op<|On
       ·intro I1 hf ai;refine xV [13] rfl ?_;have H:=iS I1;refine vJ (nB x.Name _ aw ) ?_;intro aN le;have H:=H.trans le;exact wD H
       ·intro I1 hf ai;refine xV [14] rfl<|nP 4 [(15,.bool (!y))] ?_;rw[aE];exact wD iR
       ·intro I1 hf ai;exact I_h [(15,vF)]<|nP 5 [(16,vF)]<|wD iR
       ·intro I1 hf ai;refine xV [16,17] rfl<|nP 7 [(18,.bool (decide (t7>0)))] ?_;rw[aQ];exact wD iR
       ·intro I1 hf ai;exact xV [16,18] rfl<|nP 8 [(19,vF)]<|wD iR
       ·intro I1 hf ai;refine xV [31,34] rfl ?_;have H:=iS I1;refine vJ (wO (x.Dims.length:Int) 1 2 _ bC ) ?_;intro I08 le7;have H:=H.trans le7;exact wD H
       ·intro I1 hf ai;refine xV [31,35] rfl<|nP 25 [(36,.bool (!y3))] ?_;rw[hc5];exact wD iR
       ·intro I1 hf ai;exact xV [31,36] rfl<|nP 26 [(37,vY)]<|wD iR
       intro I1 hf ai;exact I_h [(37,vY)]<|nP 27 [(38,vY)]<|wD iR
      intro I09 le8;refine xV [0,5,6,7,42] rfl ?_;have H:=H.trans le8;exact zX rfl<|wM zO<|xM<|zY (ct hM08 H)
     | false=>
      have hM09:=oK hc5 N;obtain⟨y4,hy6,N⟩:=zF hM09;refine uX [.p (vP b 0) [],.p (vT x.Name.l) [0],.q (.bool y),.q vF,.q vF,.p (vI t7) [],.q vF,.q vF,.p undef [],.p undef [],.p undef [],.p undef [],.p undef [],.p undef [],.p undef [],.p undef [],.p undef [],.p vF [],.p vF [],.p vF [],.p (vP b 1) [],.p (vS p1 x.Dims c1) [0],.p (vI (x.Dims.length:Int)) [],.q (.bool y3),.q vF,.q vF,.q vF,.p (vP b 1) [],.p (vS p1 x.Dims c1) [0],.q (.bool y4),.p (.bool y4) []] [[],[(0,false)],[(1,false)],[(2,false)],[(3,false)],[(4,false)],[(4,false),(5,false)],[(4,false),(6,false)],[(7,false)],[(7,false)],[(7,false),(9,false)],[(7,false),(8,false),(10,false)],[(7,false),(11,false)],[(7,false),(12,false)],[(7,false)],[(7,false),(14,false)],[(7,false),(13,false),(15,false)],[(4,false),(7,false),(16,false)],[(4,false),(17,false)],[(18,false)],[(19,false)],[(19,false),(20,false)],[(19,false),(21,false)],[(19,false),(22,false)],[(19,false),(23,false)],[(19,false),(24,false)],[(25,false)],[(26,false)],[(26,false),(27,false)],[(26,false),(28,false)],[(26,false),(29,false)]] [hB b (cArr x p1 c1)] [] [(30,false)] (xD [0]) ?_ ?_
      ·refine Op<|Op<|Oq ?_<|Oq ?_<|Oq ?_<|Op<|Oq ?_<|Oq ?_<|Op<|Op<|Op<|Op<|Op<|Op<|Op<|Op<|Op<|Op<|Op<|Op<|Op<|Op<|Op<|Oq ?_<|Oq ?_<|Oq ?_<|Oq ?_<|Op<|Op<|Oq ?_<|Op<|On
       ·intro I1 hf ai;refine xV [13] rfl ?_;have H:=iS I1;refine vJ (nB x.Name _ aw ) ?_;intro aN le;have H:=H.trans le;exact wD H
       ·intro I1 hf ai;refine xV [14] rfl<|nP 4 [(15,.bool (!y))] ?_;rw[aE];exact wD iR
       ·intro I1 hf ai;exact I_h [(15,vF)]<|nP 5 [(16,vF)]<|wD iR
       ·intro I1 hf ai;refine xV [16,17] rfl<|nP 7 [(18,.bool (decide (t7>0)))] ?_;rw[aQ];exact wD iR
       ·intro I1 hf ai;exact xV [16,18] rfl<|nP 8 [(19,vF)]<|wD iR
       ·intro I1 hf ai;refine xV [31,34] rfl ?_;have H:=iS I1;refine vJ (wO (x.Dims.length:Int) 1 2 _ bC ) ?_;intro I08 le7;have H:=H.trans le7;exact wD H
       ·intro I1 hf ai;refine xV [31,35] rfl<|nP 25 [(36,.bool (!y3))] ?_;rw[hc5];exact wD iR
       ·intro I1 hf ai;exact xV [31,36] rfl<|nP 26 [(37,vF)]<|wD iR
       ·intro I1 hf ai;exact I_h [(37,vF)]<|nP 27 [(38,vF)]<|wD iR
       intro I1 hf ai;refine xV [38,40] rfl ?_;have H:=iS I1;have ⟨h,h1⟩:=m2 ai h h1;have hf01:FV1 Tryz.prog I1 [] (.func (.func 115) ⟨[]⟩ ⟨[]⟩) uN:=by
        refine FV1.intro ?_;intro I1 ai x0 r u0 hF k0;obtain rfl:=k0;exact(zAw x0 r hF ).mono (by rintro k i hs u ⟨v0,rfl,rfl,h⟩;exact⟨rfl,h⟩)
       refine tG (sH x.Dims uN _ hy6 h1 hf01) ?_;rintro bO aK v2 k2 le9 - ⟨v06,rfl,rfl,rfl⟩ -;have H:=H.trans le9;exact wD H
      intro bU le10;refine xV [0,5,6,7,42] rfl ?_;have H:=H.trans le10;exact zX rfl<|wM zO<|xM<|zY (ct N H)
  intro t42 I0 le11 aT;have ⟨h,H⟩:=m2 le11 h H;refine zH<|yD aT ?_ ?_
  ·intro hc6 N;exact xZ [(2,vF)]<|yS<|zR<|zG<|zG<|hr _ _ _ _ (zB N).symm H ⟨_,_,(.tmp rfl ResV.nil),zO,⟨_,rfl,rfl,rfl⟩⟩
  intro hc6 N;exact zT<|zQ<|zH<|zE<|yW [] [7] rfl<|yL<|gJ<|ih (W (t7+1)) _ N H h hg ho hx hr
 intro hc N;exact uQ<|xM<|hx _  (zB N).symm H
def gU(ag:(List zI)):Option (Bool):=do
 match<-rO ag 0 with
 | .ret r0=>pure r0
 | .done _=>
  pure (decide ((ag.length:Int)<=4))
theorem zF0:∀ag r,gU ag=some r->∀{I:Imm}{p c},(S4 I p ag c)->RT 72 [vS p ag c] I [] (zS  r):=by
 intro ag r N I p c h;unfold gU at N;refine yM func72 λB=>xZ []<|yE<|yG [5,6,7] rfl<|uP<|rX [(0,vS p ag c),(5,vS p ag c),(6,vI (ag.length:Int)),(7,vI 0)] ?_;obtain⟨aO,aJ,aB⟩:=zF N;refine zDY ag 0 aO aJ iR h (λ_ _ _ h=>h) (λ_ _ h=>h) ?_ ?_
 ·intro bR  heq1 le12;subst aO;refine zU<|wJ [2] rfl<|zH<|yF ?_;obtain rfl:=zB aB;exact xH
 intro r0 I9 hs9 m9 aC le9 aD;subst aC;refine zR<|zG ?_;obtain rfl:=zB aB;exact yV aD
def rH(aL:List HA)(r:Int):KT:=λkk I' aj v=>
 ∃v0,aL=aj/\v=tupV [v0]/\v0=.int .i64 r
def yT(s:(List zC))(f0:(zC->Option Bool))(t8:Int):Option (Out Unit (Int)):=do
 if(decide (t8<(s.length:Int))) then
  let x<-idx s t8
  let y<-f0 x
  if y then
   pure (.ret t8)
  else
   yT s f0 (W (t8+1))
 else
  pure (.done ())
 partial_fixpoint
theorem jF(s:(List zC))(f0:(zC->Option Bool)):∀(t8:Int) (o:Out Unit (Int)),yT s f0 t8=some o->∀{B}{I0 I:Imm}{Q p c}{fv:Value}{aL:List HA},I0.le I->(S4 I p s c)->(FV1 Tryz.prog I aL fv f0)->NG Q->NO Q->(∀(I':Imm) ,o=(.done ())->I0.le I'->T 19 B Q (.exit 0) I' aL [])->(∀r I' aj m',o=(.ret r)->I0.le I'->RS Tryz.prog f169 B (rH aL r) I' aj m'->T 19 B Q .ret I' aj m')->J Tryz.prog 19 B (nav (bodyOf f169) [1,0,1,0]) Q I aL [(0,vS p s c),(1,fv),(7,vI (s.length:Int)),(8,vI t8)]:=by
 refine yT.partial_correctness s f0 _ λaG ih t8 o N B I0 I Q p c fv aL H h h1 hg ho hx hr=>yK hg ho<|yG [9] rfl<|yE<|yD N ?_ ?_
 ·intro hc N;refine zT<|yE<|zZ<|yG [5] rfl<|wG<|yR 3 [] [11,12,13] rfl<|bE N λx hy N=>xL rfl rfl h hy ?_;intro ad aF av aq;obtain⟨p1,c1,rfl,h2⟩:=yQ aq;refine yY 0 av (cAff x p1 c1) (vA (cAff x p1 c1)) rfl<|bE N λy aw N=>zJB rfl rfl h1 aw ⟨_,rfl,(sA ⟨_,rfl,h2⟩)⟩ (ce _).symm ?_;rintro I0 v01 le rfl;refine jK (aj:=aL) (ce _) ?_;have ⟨h,h1,H⟩:=m3 le h h1 H;refine zX rfl<|zH<|yD N ?_ ?_
  ·intro aE N;exact yG [4] rfl<|yS<|zR<|zG<|zG<|hr _ _ _ _ (zB N).symm H ⟨_,_,(.tmp rfl ResV.nil),(λ_ h=>h),⟨_,rfl,rfl,rfl⟩⟩
  intro aE N;exact zT<|zQ<|zH<|zE<|yW [] [8] rfl<|yL<|gJ<|ih (W (t8+1)) _ N H h h1 hg ho hx hr
 intro hc N;exact uQ<|xM<|hx _  (zB N).symm H
def wV(s:(List zC))(f0:(zC->Option Bool)):Option (Int):=do
 match<-yT s f0 0 with
 | .ret r0=>pure r0
 | .done _=>
  pure (-1)
theorem gE:∀s f0 r,wV s f0=some r->∀{I:Imm}{p c}{fv:Value}{aL:List HA},(S4 I p s c)->(FV1 Tryz.prog I aL fv f0)->RT 169 [vS p s c,fv] I aL (rH aL r):=by
 intro s f0 r N I p c fv aL h h1;unfold wV at N;refine yM func169 λB=>xZ []<|yE<|yG [7,8] rfl<|uP<|rX [(0,vS p s c),(1,fv),(7,vI (s.length:Int)),(8,vI 0)] ?_;obtain⟨o0,ay,aB⟩:=zF N;refine jF s f0 0 o0 ay iR h h1 (λ_ _ _ h=>h) (λ_ _ h=>h) ?_ ?_
 ·intro aN  heq ai;subst o0;refine zU<|wJ [4] rfl<|zH<|yF ?_;obtain rfl:=zB aB;exact yV ⟨_,_,(.tmp rfl ResV.nil),(λ_ h=>h),⟨_,rfl,rfl,rfl⟩⟩
 intro r0 I9 hs9 m9 aC le9 aD;subst aC;refine zR<|zG ?_;obtain rfl:=zB aB;exact yV aD
def mW(aL:List HA)(r:Bool):KT:=λkk I' aj v=>
 ∃v0,aL=aj/\v=tupV [v0]/\v0=.bool r
def xE(s:(List zC))(f0:(zC->Option Bool)):Option (Bool):=do
 let y<-wV s f0
 pure (decide (y>=0))
theorem rE:∀s f0 r,xE s f0=some r->∀{I:Imm}{p c}{fv:Value}{aL:List HA},(S4 I p s c)->(FV1 Tryz.prog I aL fv f0)->RT 149 [vS p s c,fv] I aL (mW aL r):=by
 intro s f0 r N I p c fv aL h h1;unfold xE at N;refine yM func149 λB=>xZ []<|wG<|yR 2 [] [5,6] rfl<|bE N λy hy N=>uZ (hs1:=aL) (rest:=[]) rfl rfl rfl rfl (by kernel_rfl) rfl (ce _).symm (gE s f0 _ hy h h1) ?_;rintro I0 aK v2 k2 le - ⟨v0,rfl,rfl,rfl⟩ -;refine jK (aj:=aL) (ce _) ?_;refine yW [] [4] rfl<|zH<|yF ?_;obtain rfl:=zB N;exact yV ⟨_,_,(.tmp rfl ResV.nil),(λ_ h=>h),⟨_,rfl,rfl,rfl⟩⟩
def uT(a0:zC)(n0:Int):Option (Int):=do
 let t17<-(do
  if(decide (n0>0)) then
   let x<-idx a0.Coefs (W (n0 - 1))
   pure (x==0)
  else
   pure false
    : Option Bool)
 if t17 then
  uT a0 (W (n0 - 1))
 else
  pure (id n0)
 partial_fixpoint
theorem zBa(a0:zC):∀(n0:Int) (o:Int),uT a0 n0=some o->∀{B}{I0 I:Imm}{Q p c}{b:Nat},I0.le I->(S4 I p a0.Coefs c)->NG Q->NO Q->(∀(I':Imm) (n01:Int),o=n01->I0.le I'->T 21 B Q (.exit 0) I' [] [(3,vI n01)])->J Tryz.prog 21 B (nav (bodyOf f83) [1,1,0,0]) Q I [hB b (cAff a0 p c)] [(1,vP b 0),(3,vI n0)]:=by
 refine uT.partial_correctness a0 _ λaG ih n0 o N B I0 I Q p c b H h hg ho hx=>yK hg ho<|zM<|zM ?_;refine tZ N [hB b (cAff a0 p c)] (λt17=>[(1,vP b 0),(3,vI n0),(17,.bool t17)]) (λo0 ay=>?_) ?_
 ·have H:=iS I;refine zE<|yR 3 [] [9] rfl<|wN [9] ay ?_ ?_
  ·intro hc N;refine yR 7 [0] [11,13] rfl<|bE N λx hy N=>xL rfl rfl h hy ?_;intro ad aF av aq;obtain rfl:=aq;exact yY 0 av [vI x] (vI x) rfl<|yW [] [17] rfl<|xM<|zY (ct N H)
  intro hc N;exact yO [] [(17,vF)]<|xM<|zY (ct N H)
 intro t17 I0 le aT;have ⟨h,H⟩:=m2 le h H;refine zH<|yD aT ?_ ?_
 ·intro aE N;exact zT<|uP<|zE<|yW [] [3] rfl<|zQ<|yL<|gJ<|ih (W (n0 - 1)) _ N H h hg ho hx
 intro aE N;exact uQ<|wM zO<|xM<|hx _ _ (zB N).symm H
def tE(a0:zC):Option (Int):=do
 let n01<-uT a0 (a0.Coefs.length:Int)
 pure (id n01)
theorem kY:∀a0 r,tE a0=some r->∀{I:Imm}{p c},(S4 I p a0.Coefs c)->RT 83 [vA (cAff a0 p c)] I [] (zW  r):=by
 intro a0 r N I p c h;unfold tE at N;refine yM func83 λB=>yJ<|uA (cAff a0 p c) ?_;intro b hb;refine yO [] []<|wG<|yW [0] [3] rfl<|yE<|zZ<|rX [(1,vP b 0),(3,vI (a0.Coefs.length:Int))] ?_;obtain⟨aO,aJ,aB⟩:=zF N;refine zBa a0 (a0.Coefs.length:Int) aO aJ iR h (λ_ _ _ h=>h) (λ_ _ h=>h) ?_;intro aN n01 heq1 ai;subst aO;refine zU<|wJ [2] rfl<|zH<|yF ?_;obtain rfl:=zB aB;exact xH
def zAE(n0:Int):Option (Bool):=do
 let y<-wH n0 (-99) 99
 pure (id y)
theorem zFq:∀n0 r,zAE n0=some r->∀{I:Imm} ,RT 170 [vI n0] I [] (zS  r):=by
 intro n0 r N I;unfold zAE at N;refine yM func170 λB=>xZ []<|wG<|yR 1 [] [3] rfl<|bE N λy hy N=>vJ (wO n0 (-99) 99 _ hy ) λI0 le=>yO [] [(2,.bool y)]<|zH<|yF ?_;obtain rfl:=zB N;exact xH
def tU(c:Int):Option (Bool):=do
 let y<-wH c (-9) 9
 pure (!y)
theorem zCY:∀c r,tU c=some r->∀{I:Imm} ,RT 171 [vI c] I [] (zS  r):=by
 intro c r N I;unfold tU at N;refine yM func171 λB=>xZ []<|wG<|yR 1 [] [3] rfl<|bE N λy hy N=>vJ (wO c (-9) 9 _ hy ) λI0 le=>yO [] [(2,.bool (!y))]<|zH<|yF ?_;obtain rfl:=zB N;exact xH
def rP(a0:zC):Option (Bool):=do
 let t2<-(do
  if((a0.Coefs.length:Int)==4) then
   let y<-zAE a0.Const
   if y then
    let y1<-xG a0.Coefs tU
    pure (!y1)
   else
    pure false
  else
   pure false
    : Option Bool)
 pure (id t2)
theorem nH:∀a0 r,rP a0=some r->∀{I:Imm}{p c},(S4 I p a0.Coefs c)->RT 151 [vA (cAff a0 p c)] I [] (zS  r):=by
 intro a0 r N I p c h;unfold rP at N;refine yM func151 λB=>?_;have H:=iS I;refine yJ<|uA (cAff a0 p c) ?_;intro b hb;refine yO [] []<|zH<|zM ?_;refine tZ N [] (λt2=>[(2,.bool t2)]) (λo0 ay=>?_) ?_
 ·have H:=iS I;refine zE<|yR 5 [0] [7] rfl<|wN [7] ay ?_ ?_
  ·intro hc N;refine yR 7 [0] [9] rfl<|bE N λy hy N=>vJ (zFq a0.Const _ hy ) ?_;intro aN le;have ⟨h,H⟩:=m2 le h H;refine yR 10 [] [12] rfl<|wN [12] N ?_ ?_
   ·intro aE N;refine yR 12 [0] [14] rfl ?_;have hf0:FV1 Tryz.prog aN [] (.func (.func 171) ⟨[]⟩ ⟨[]⟩) tU:=by
     refine FV1.intro ?_;intro I1 ai x0 r u0 hF k0;obtain rfl:=k0;exact(zCY x0 r hF ).mono (by rintro k i hs u ⟨v0,rfl,rfl,h⟩;exact⟨rfl,h⟩)
    obtain⟨y1,aw,N⟩:=zF N;refine tG (sH a0.Coefs tU _ aw h hf0) ?_;rintro bf aK v2 k2 ai - ⟨v01,rfl,rfl,rfl⟩ -;have H:=H.trans ai;exact yW [] [2] rfl<|wM zO<|xM<|zY (ct N H)
   intro aE N;exact yO [] [(2,vF)]<|wM zO<|xM<|zY (ct N H)
  intro hc N;exact yO [] [(2,vF)]<|wM zO<|xM<|zY (ct N H)
 intro t2 I0 ax aT;refine zH<|yF ?_;obtain rfl:=zB aT;exact xH
def sZ(a0:zC)(x:Int):Option (Bool):=do
 let t3<-(do
  let y<-rP a0
  if(!y) then
   pure true
  else
   let y1<-tE a0
   pure (decide (y1>x))
    : Option Bool)
 pure (id t3)
theorem zDz:∀a0 x r,sZ a0 x=some r->∀{I:Imm}{p c}{ad:Addr},(S4 I p a0.Coefs c)->(At I ad [vI x])->RT 168 [vA (cAff a0 p c),.pointer (some ad)] I [] (zS  r):=by
 intro a0 x r N I p c ad h av;unfold sZ at N;refine yM func168 λB=>?_;have H:=iS I;refine yJ<|uA (cAff a0 p c) ?_;intro b hb;refine yO [] []<|zH<|zM ?_;refine tZ N [] (λt3=>[(3,.bool t3)]) (λo0 ay=>?_) ?_
 ·have H:=iS I;obtain⟨y,hy,N⟩:=zF ay;cases hc:(!y) with
  | true=>
   have hM0:=nN hc N;refine uX [.p (vA (cAff a0 p c)) [0],.q (.bool y),.q vY,.q vY,.p undef [],.p undef [],.p undef [],.p undef [],.p vY []] [[],[(0,false)],[(1,false)],[(2,false)],[(3,false)],[(3,false),(4,false)],[(3,false)],[(3,false),(5,false),(6,false)],[(3,false),(7,false)]] [hB b (cAff a0 p c)] [] [(8,false)] (xD [0]) ?_ ?_
   ·refine Op<|Oq ?_<|Oq ?_<|Oq ?_<|Op<|Op<|Op<|Op<|Op<|On
    ·intro I1 hf ai;refine xV [4] rfl ?_;have H:=iS I1;have h:=h.mono ai;refine vJ (nH a0 _ hy h) ?_;intro aN le;have H:=H.trans le;exact wD H
    ·intro I1 hf ai;refine xV [5] rfl<|nP 3 [(6,.bool (!y))] ?_;rw[hc];exact wD iR
    intro I1 hf ai;exact I_h [(6,vY)]<|nP 4 [(7,vY)]<|wD iR
   intro bf ai;refine I_h [(12,vY)] ?_;have H:=H.trans ai;exact yO [] [(3,vY)]<|wM zO<|xM<|zY (ct hM0 H)
  | false=>
   have hM01:=oK hc N;obtain⟨y1,aw,N⟩:=zF hM01;refine uX [.p (vA (cAff a0 p c)) [0],.q (.bool y),.q vF,.q vF,.p (vA (cAff a0 p c)) [0],.q (vI y1),.q (vI x),.p (.bool (decide (y1>x))) [],.p (.bool (decide (y1>x))) []] [[],[(0,false)],[(1,false)],[(2,false)],[(3,false)],[(3,false),(4,false)],[(3,false)],[(3,false),(5,false),(6,false)],[(3,false),(7,false)]] [hB b (cAff a0 p c)] [] [(8,false)] (xD [0]) ?_ ?_
   ·refine Op<|Oq ?_<|Oq ?_<|Oq ?_<|Op<|Oq ?_<|Oq ?_<|Op<|Op<|On
    ·intro I1 hf ai;refine xV [4] rfl ?_;have H:=iS I1;have h:=h.mono ai;refine vJ (nH a0 _ hy h) ?_;intro aN le;have H:=H.trans le;exact wD H
    ·intro I1 hf ai;refine xV [5] rfl<|nP 3 [(6,.bool (!y))] ?_;rw[hc];exact wD iR
    ·intro I1 hf ai;exact I_h [(6,vF)]<|nP 4 [(7,vF)]<|wD iR
    ·intro I1 hf ai;refine xV [7,8] rfl ?_;have H:=iS I1;have h:=h.mono ai;refine qJ (kY a0 _ aw h) ?_;intro bq ax;have H:=H.trans ax;exact wD H
    intro I1 hf ai;refine xV [1,7] rfl ?_;have av:=av.mono ai;exact yY 0 av [vI x] (vI x) rfl<|wD iR
   intro bG aR;refine xV [12] rfl ?_;have H:=H.trans aR;exact yW [] [3] rfl<|wM zO<|xM<|zY (ct N H)
 intro t3 I0 bg aT;refine zH<|yF ?_;obtain rfl:=zB aT;exact xH
def kD(ag:(List zC))(am:Int):Option (Bool):=do
 let t4<-(do
  let y<-wH (ag.length:Int) 1 2
  if y then
   let y1<-xE ag (λx0=>sZ x0 am)
   pure (!y1)
  else
   pure false
    : Option Bool)
 pure (id t4)
theorem zBb:∀ag am r,kD ag am=some r->∀{I:Imm}{p c},(S4 I p ag c)->RT 147 [vS p ag c,vI am] I [] (zS  r):=by
 intro ag am r N I p c h;unfold kD at N;refine yM func147 λB=>?_;have H:=iS I;refine yJ<|uA [vI am] ?_;intro b hb;refine tP 0 rfl ?_;intro I0 le hl0;have av:At I0 ⟨b,0,none⟩ [vI am]:=At.of_blk hl0;have ⟨h,H⟩:=m2 le h H;refine yO [] []<|zH<|zM ?_;refine tZ N [] (λt4=>[(4,.bool t4)]) (λo0 ay=>?_) ?_
 ·have H:=iS I0;refine zE<|yR 2 [] [6] rfl ?_;obtain⟨y,hy,N⟩:=zF ay;refine vJ (wO (ag.length:Int) 1 2 _ hy ) ?_;intro bf ai;have ⟨h,av,H⟩:=m3 ai h av H;refine yR 4 [] [8] rfl<|wN [8] N ?_ ?_
  ·intro hc N;refine yR 6 [] [9,10] rfl ?_;have hf0:FV1 Tryz.prog bf [] (.func (.func 168) ⟨[]⟩ ⟨[vP b 0]⟩) (λx0=>sZ x0 am):=by
    refine FV1.intro ?_;intro I1 ai x0 r u0 hF k0;obtain⟨_,rfl,k0⟩:=k0;obtain⟨p1,c1,rfl,h2⟩:=yQ k0;exact(zDz x0 am r hF h2 (av.mono ai)).mono (by rintro k i hs u ⟨v0,rfl,rfl,h⟩;exact⟨rfl,h⟩)
   obtain⟨y1,aw,N⟩:=zF N;refine tG (rE ag (λx0=>sZ x0 am) _ aw h hf0) ?_;rintro bq aK v2 k2 ax - ⟨v02,rfl,rfl,rfl⟩ -;have H:=H.trans ax;exact yW [] [4] rfl<|xM<|zY (ct N H)
  intro hc N;exact yO [] [(4,vF)]<|xM<|zY (ct N H)
 intro t4 aN aR aT;refine zH<|yF ?_;obtain rfl:=zB aT;exact xH
def sL(nest:(List zL))(t7:Int):Option (Out Unit (Bool)):=do
 if(decide (t7<(nest.length:Int))) then
  let x<-idx nest t7
  let t23<-(do
   let y<-kD x.Lo t7
   if(!y) then
    pure true
   else
    let y1<-kD x.Hi t7
    pure (!y1)
     : Option Bool)
  if t23 then
   pure (.ret false)
  else
   sL nest (W (t7+1))
 else
  pure (.done ())
 partial_fixpoint
theorem zCn(nest:(List zL)):∀(t7:Int) (o:Out Unit (Bool)),sL nest t7=some o->∀{B}{I0 I:Imm}{Q p c},I0.le I->(S4 I p nest c)->NG Q->NO Q->(∀(I':Imm) ,o=(.done ())->I0.le I'->T 28 B Q (.exit 0) I' [] [(0,vS p nest c)])->(∀r I' aj m',o=(.ret r)->I0.le I'->RS Tryz.prog f116 B (zS  r) I' aj m'->T 28 B Q .ret I' aj m')->J Tryz.prog 28 B (nav (bodyOf f116) [1,0,1,0]) Q I [] [(0,vS p nest c),(5,vS p nest c),(6,vI (nest.length:Int)),(7,vI t7)]:=by
 refine sL.partial_correctness nest _ λaG ih t7 o N B I0 I Q p c H h hg ho hx hr=>yK hg ho<|yG [8] rfl<|yE<|yD N ?_ ?_
 ·intro hc N;refine zT<|yE<|zZ<|yJ<|yR 1 [] [9] rfl<|bE N λx hy N=>xL rfl rfl h hy ?_;intro ad aF av aq;obtain⟨p1,c1,p2,c2,rfl,h1,h2⟩:=uD aq;refine yY 0 av (cLoop x p1 c1 p2 c2) (vA (cLoop x p1 c1 p2 c2)) rfl<|nV zTwo ?_;intro b hb;refine yR 5 [] [3] rfl<|tA 0 (cLoop x p1 c1 p2 c2) rfl<|zX rfl<|zH<|zM ?_;refine tZ N [] (λt23=>[(0,vS p nest c),(5,vS p nest c),(6,vI (nest.length:Int)),(7,vI t7),(23,.bool t23)]) (λo0 ay=>?_) ?_
  ·have H:=iS I;refine zE<|yR 3 [0] [13,14] rfl ?_;obtain⟨y,aw,N⟩:=zF ay;refine vJ (zBb x.Lo t7 _ aw h1) ?_;intro aN le;have ⟨h2,H⟩:=m2 le h2 H;refine yR 6 [] [17] rfl<|wN [17] N ?_ ?_
   ·intro aE N;exact yO [] [(23,vY)]<|wM zO<|xM<|zY (ct N H)
   intro aE N;refine yR 9 [0] [19,20] rfl<|bE N λy1 aI N=>vJ (zBb x.Hi t7 _ aI h2) ?_;intro bf ai;have H:=H.trans ai;exact yW [] [23] rfl<|wM zO<|xM<|zY (ct N H)
  intro t23 I0 ax aT;have ⟨h,H⟩:=m2 ax h H;refine zH<|yD aT ?_ ?_
  ·intro aQ N;exact xZ [(2,vF)]<|yS<|zR<|zG<|zG<|hr _ _ _ _ (zB N).symm H ⟨_,_,(.tmp rfl ResV.nil),zO,⟨_,rfl,rfl,rfl⟩⟩
  intro aQ N;exact zT<|zQ<|zH<|zE<|yW [] [7] rfl<|yL<|gJ<|ih (W (t7+1)) _ N H h hg ho hx hr
 intro hc N;exact uQ<|xM<|hx _  (zB N).symm H
def jP(nest:(List zL)):Option (Bool):=do
 match<-sL nest 0 with
 | .ret r0=>pure r0
 | .done _=>
  pure (decide ((nest.length:Int)<=4))
theorem zEo:∀nest r,jP nest=some r->∀{I:Imm}{p c},(S4 I p nest c)->RT 116 [vS p nest c] I [] (zS  r):=by
 intro nest r N I p c h;unfold jP at N;refine yM func116 λB=>xZ []<|yE<|yG [5,6,7] rfl<|uP<|rX [(0,vS p nest c),(5,vS p nest c),(6,vI (nest.length:Int)),(7,vI 0)] ?_;obtain⟨aO,aJ,aB⟩:=zF N;refine zCn nest 0 aO aJ iR h (λ_ _ _ h=>h) (λ_ _ h=>h) ?_ ?_
 ·intro bq  heq1 aR;subst aO;refine zU<|wJ [2] rfl<|zH<|yF ?_;obtain rfl:=zB aB;exact xH
 intro r0 I9 hs9 m9 aC le9 aD;subst aC;refine zR<|zG ?_;obtain rfl:=zB aB;exact yV aD
def tJ(a0:zC)(ah:(List Int))(sum:Int)(t12:Int):Option (Int):=do
 if(decide (t12<(ah.length:Int))) then
  let x<-idx ah t12
  let x1<-idx a0.Coefs t12
  tJ a0 ah (W (sum+(W (x1*x)))) (W (t12+1))
 else
  pure (id sum)
 partial_fixpoint
theorem zCB(a0:zC)(ah:(List Int)):∀(sum:Int) (t12:Int) (o:Int),tJ a0 ah sum t12=some o->∀{B}{I0 I:Imm}{Q p c p1 c1}{b:Nat},I0.le I->(S4 I p1 ah c1)->(S4 I p a0.Coefs c)->NG Q->NO Q->(∀(I':Imm) (sum1:Int),o=sum1->I0.le I'->T 28 B Q (.exit 0) I' [] [(5,vI sum1)])->J Tryz.prog 28 B (nav (bodyOf f155) [1,1,0,1,0]) Q I [hB b (cAff a0 p c)] [(2,vP b 0),(5,vI sum),(10,vS p1 ah c1),(11,vI (ah.length:Int)),(12,vI t12)]:=by
 refine tJ.partial_correctness a0 ah _ λaG ih sum t12 o N B I0 I Q p c p1 c1 b H h1 h hg ho hx=>yK hg ho<|yG [13] rfl<|yE<|yD N ?_ ?_
 ·intro hc N;refine zT<|yE<|zZ<|yJ<|yR 1 [] [14] rfl<|bE N λx hy N=>xL rfl rfl h1 hy ?_;intro ad aF av aq;obtain rfl:=aq;refine yY 0 av [vI x] (vI x) rfl<|yW [] [6,7] rfl<|zH<|zE<|yR 4 [0] [17,19,20] rfl<|bE N λx1 aw N=>xL rfl rfl h aw ?_;intro ad1 aY au aA;obtain rfl:=aA;exact yY 0 au [vI x1] (vI x1) rfl<|yW [] [5] rfl<|zQ<|zH<|zE<|yW [] [12] rfl<|yL<|gJ<|ih (W (sum+(W (x1*x)))) (W (t12+1)) _ N H h1 h hg ho hx
 intro hc N;exact uQ<|wM zO<|xM<|hx _ _ (zB N).symm H
def uU(a0:zC)(ah:(List Int)):Option (Int):=do
 let sum1<-tJ a0 ah a0.Const 0
 pure (id sum1)
theorem nI:∀a0 ah r,uU a0 ah=some r->∀{I:Imm}{p c p1 c1},(S4 I p a0.Coefs c)->(S4 I p1 ah c1)->RT 155 [vA (cAff a0 p c),vS p1 ah c1] I [] (zW  r):=by
 intro a0 ah r N I p c p1 c1 h h1;unfold uU at N;refine yM func155 λB=>yJ<|uA (cAff a0 p c) ?_;intro b hb;refine yO [] []<|wG<|yW [0] [5] rfl<|yE<|yG [10,11,12] rfl<|uP<|rX [(2,vP b 0),(5,vI a0.Const),(10,vS p1 ah c1),(11,vI (ah.length:Int)),(12,vI 0)] ?_;obtain⟨o0,ay,aB⟩:=zF N;refine zCB a0 ah a0.Const 0 o0 ay iR h1 h (λ_ _ _ h=>h) (λ_ _ h=>h) ?_;intro I0 sum1 heq le;subst o0;refine zU<|wJ [4] rfl<|zH<|yF ?_;obtain rfl:=zB aB;exact xH
def sM(l:zL)(ah:(List Int))(lo:Int)(t27:Int):Option (Int):=do
 if(decide (t27<(l.Lo.length:Int))) then
  let x2<-idx l.Lo t27
  let y2<-uU x2 ah
  sM l ah (if y2>lo then y2 else lo) (W (t27+1))
 else
  pure (id lo)
 partial_fixpoint
theorem zCo(l:zL)(ah:(List Int)):∀(lo:Int) (t27:Int) (o:Int),sM l ah lo t27=some o->∀{B}{I0 I:Imm}{Q}{y1:Int}{p c p1 c1 p2 c2}{b:Nat},I0.le I->(S4 I p2 ah c2)->(S4 I p l.Lo c)->(S4 I p1 l.Hi c1)->NG Q->NO Q->(∀(I':Imm) (lo1:Int),o=lo1->I0.le I'->T 52 B Q (.exit 0) I' [hB b (cLoop l p c p1 c1)] [(1,vS p2 ah c2),(2,vP b 0),(6,vI lo1),(7,vI y1)])->J Tryz.prog 52 B (nav (bodyOf f148) [1,1,0,1,0]) Q I [hB b (cLoop l p c p1 c1)] [(1,vS p2 ah c2),(2,vP b 0),(6,vI lo),(7,vI y1),(25,vS p l.Lo c),(26,vI (l.Lo.length:Int)),(27,vI t27)]:=by
 refine sM.partial_correctness l ah _ λaG ih lo t27 o N B I0 I Q y1 p c p1 c1 p2 c2 b H h2 h h1 hg ho hx=>yK hg ho<|yG [28] rfl<|yE<|yD N ?_ ?_
 ·intro hc N;refine zT<|yE<|zZ<|yJ<|bE N λx2 bk N=>xL rfl rfl h bk ?_;intro ad2 bM aS bh;obtain⟨p5,c5,rfl,h7⟩:=yQ bh;refine yY 0 aS (cAff x2 p5 c5) (vA (cAff x2 p5 c5)) rfl<|nV [z0,vI 0] ?_;intro b1 hb1;refine tA 0 (cAff x2 p5 c5) rfl<|zX rfl<|zH<|zE<|xF 3 [0] [(31,vI lo),(32,vA (cAff x2 p5 c5)),(33,vS p2 ah c2)]<|bE N λy2 bC N=>qJ (nI x2 ah _ bC h7 h2) ?_;intro bq aR;have ⟨h2,h,h1,H⟩:=m4 aR h2 h h1 H;exact yW [] [6] rfl<|zQ<|zH<|zE<|yW [] [27] rfl<|yL<|kU (yN [1] rfl (by decide))<|gJ<|ih (if y2>lo then y2 else lo) (W (t27+1)) _ N H h2 h h1 hg ho hx
 intro hc N;exact uQ<|xM<|hx _ _ (zB N).symm H
def sN(l:zL)(ah:(List Int))(hi:Int)(t40:Int):Option (Int):=do
 if(decide (t40<(l.Hi.length:Int))) then
  let x3<-idx l.Hi t40
  let y3<-uU x3 ah
  sN l ah (if y3<hi then y3 else hi) (W (t40+1))
 else
  pure (id hi)
 partial_fixpoint
theorem zCp(l:zL)(ah:(List Int)):∀(hi:Int) (t40:Int) (o:Int),sN l ah hi t40=some o->∀{B}{I0 I:Imm}{Q}{lo1:Int}{p1 c1 p2 c2},I0.le I->(S4 I p2 ah c2)->(S4 I p1 l.Hi c1)->NG Q->NO Q->(∀(I':Imm) (hi1:Int),o=hi1->I0.le I'->T 52 B Q (.exit 2) I' [] [(6,vI lo1),(7,vI hi1)])->J Tryz.prog 52 B (nav (bodyOf f148) [1,1,1,0,1,0]) Q I [] [(1,vS p2 ah c2),(6,vI lo1),(7,vI hi),(38,vS p1 l.Hi c1),(39,vI (l.Hi.length:Int)),(40,vI t40)]:=by
 refine sN.partial_correctness l ah _ λaG ih hi t40 o N B I0 I Q lo1 p1 c1 p2 c2 H h2 h1 hg ho hx=>yK hg ho<|yG [41] rfl<|yE<|yD N ?_ ?_
 ·intro aE N;refine zT<|yE<|zZ<|yJ<|bE N λx3 hy6 N=>xL rfl rfl h1 hy6 ?_;intro ad3 ccs3 hat3 bn;obtain⟨p6,c6,rfl,h9⟩:=yQ bn;refine yY 0 hat3 (cAff x3 p6 c6) (vA (cAff x3 p6 c6)) rfl<|nV [z0,vI 0] ?_;intro b2 hb2;refine tA 0 (cAff x3 p6 c6) rfl<|zX rfl<|zH<|zE<|xF 3 [0] [(44,vI hi),(45,vA (cAff x3 p6 c6)),(46,vS p2 ah c2)]<|bE N λy3 hy7 N=>qJ (nI x3 ah _ hy7 h9 h2) ?_;intro bL bo;have ⟨h2,h1,H⟩:=m3 bo h2 h1 H;exact yW [] [7] rfl<|zQ<|zH<|zE<|yW [] [40] rfl<|yL<|kU zO<|gJ<|ih (if y3<hi then y3 else hi) (W (t40+1)) _ N H h2 h1 hg ho hx
 intro aE N;exact uQ<|xM<|hx _ _ (zB N).symm H
def jQ(l:zL)(ah:(List Int)):Option (Int×Int):=do
 let x<-idx l.Lo 0
 let y<-uU x ah
 let x1<-idx l.Hi 0
 let y1<-uU x1 ah
 let lo1<-sM l ah y 0
 let hi1<-sN l ah y1 0
 pure (lo1,hi1)
theorem zEp:∀l ah r,jQ l ah=some r->∀{I:Imm}{p c p1 c1 p2 c2},(S4 I p l.Lo c)->(S4 I p1 l.Hi c1)->(S4 I p2 ah c2)->RT 148 [vA (cLoop l p c p1 c1),vS p2 ah c2] I [] (zBM  r):=by
 intro l ah r N I p c p1 c1 p2 c2 h h1 h2;unfold jQ at N;refine yM func148 λB=>?_;have H:=iS I;refine yJ<|uA (cLoop l p c p1 c1) ?_;intro b hb;refine yO [] []<|zH<|zM ?_;obtain⟨x,hy,N⟩:=zF N;obtain⟨y,aw,N⟩:=zF N;obtain⟨x1,aI,N⟩:=zF N;obtain⟨y1,aW,N⟩:=zF N;refine uX [.p (vP b 0) [],.p (vS p l.Lo c) [0],.x (ePAff x),.x (eVAff x),.p (vS p2 ah c2) [],.q (vI y),.p (vP b 1) [],.p (vS p1 l.Hi c1) [0],.x (ePAff x1),.x (eVAff x1),.p (vS p2 ah c2) [],.q (vI y1),.p (vI y) []] [[],[(0,false)],[(1,false)],[(2,false)],[],[(3,false),(4,false)],[],[(6,false)],[(7,false)],[(8,false)],[],[(9,false),(10,false)],[(5,false)]] [hB b (cLoop l p c p1 c1)] [] [(11,false),(12,false)] (xD [0]) ?_ ?_
 ·refine Op<|Op<|Ox ?_<|Ox ?_<|Op<|Oq ?_<|Op<|Op<|Ox ?_<|Ox ?_<|Op<|Oq ?_<|Op<|On
  ·intro I1 hf ai;refine xV [13] rfl ?_;have h:=h.mono ai;refine xL rfl rfl h hy ?_;intro ad aF av aq;obtain⟨p3,c3,rfl,h3⟩:=yQ aq;exact xU [] iR ⟨_,_,_,rfl,rfl,av,h3⟩
  ·rintro I1 hf ai _ _ ⟨ad,p3,c3,rfl,rfl,av,h3⟩;exact xV [14] rfl<|yY 0 av (cAff x p3 c3) (vA (cAff x p3 c3)) rfl<|xU [] iR ⟨_,_,rfl,rfl,h3⟩
  ·rintro I1 hf ai _ _ ⟨p31,c31,rfl,rfl,h31⟩;refine xV [15,16] rfl ?_;have H:=iS I1;have h2:=h2.mono ai;refine qJ (nI x ah _ aw h31 h2) ?_;intro I0 le;have H:=H.trans le;exact wD H
  ·intro I1 hf ai;refine xV [19] rfl ?_;have h1:=h1.mono ai;refine xL rfl rfl h1 aI ?_;intro ad1 aY au aA;obtain⟨p4,c4,rfl,h5⟩:=yQ aA;exact xU [] iR ⟨_,_,_,rfl,rfl,au,h5⟩
  ·rintro I1 hf ai _ _ ⟨ad1,p4,c4,rfl,rfl,au,h5⟩;exact xV [20] rfl<|yY 0 au (cAff x1 p4 c4) (vA (cAff x1 p4 c4)) rfl<|xU [] iR ⟨_,_,rfl,rfl,h5⟩
  rintro I1 hf ai _ _ ⟨p41,c41,rfl,rfl,h51⟩;refine xV [21,22] rfl ?_;have H:=iS I1;have h2:=h2.mono ai;refine qJ (nI x1 ah _ aW h51 h2) ?_;intro aN ai;have H:=H.trans ai;exact wD H
 intro bf ax;refine xV [1,2,6,23] rfl ?_;have ⟨h2,h,h1⟩:=m3 ax h2 h h1;refine yW [] [7] rfl<|yE<|yJ<|yW [0] [25,26,27] rfl<|uP<|rX [(1,vS p2 ah c2),(2,vP b 0),(6,vI y),(7,vI y1),(25,vS p l.Lo c),(26,vI (l.Lo.length:Int)),(27,vI 0)] ?_;obtain⟨o0,ay,aB⟩:=zF N;refine zCo l ah y 0 o0 ay iR h2 h h1 (λ_ _ _ h=>h) (λ_ _ h=>h) ?_;intro bG lo1 heq bg;subst o0;have ⟨h2,h,h1⟩:=m3 bg h2 h h1;refine zU<|yE<|yJ<|yW [0] [38,39,40] rfl<|uP<|kU (xD [] (aj:=[]))<|rX [(1,vS p2 ah c2),(6,vI lo1),(7,vI y1),(38,vS p1 l.Hi c1),(39,vI (l.Hi.length:Int)),(40,vI 0)] ?_;obtain⟨aO,aJ,hMl1⟩:=zF aB;refine zCp l ah y1 0 aO aJ iR h2 h1 (λ_ _ _ h=>h) (λ_ _ h=>h) ?_;intro I06 hi1 heq1 bB;subst aO;refine zU<|wJ [4,5] rfl<|zH<|yF ?_;obtain rfl:=zB hMl1;exact yV ⟨_,_,(.tmp rfl (.tmp rfl ResV.nil)),zO,⟨_,_,rfl,rfl,rfl,rfl⟩⟩
def gN(b0:Nat)(r:Bool×tR):KT:=λkk I' aj v=>
 ∃v0 x0_0 y0_0 x0_2 y0_2 z0_2,aj=[.blk b0 ⟨[.slice x0_0 r.2.nest.length y0_0,.int .i64 r.2.steps,.slice x0_2 r.2.out.length y0_2]⟩,.osl (.slice x0_2 r.2.out.length y0_2) (Rp.sz (List Int)) z0_2]/\v=tupV [v0]/\v0=.bool r.1/\SL I' (.slice x0_0 r.2.nest.length y0_0) r.2.nest/\RepL (Rp.rep I') (Rp.sz (List Int)) z0_2 r.2.out
mutual
def tF(w0:tR)(ah:(List Int)):Option (Bool×tR):=do
 if((ah.length:Int)==(w0.nest.length:Int)) then
  let y<-wU ah
  let l<-app 24 w0.out ([y]:List (List Int))
  pure ((decide ((l.length:Int)<=120)),(tR.mk w0.nest w0.steps l))
 else
  let x<-idx w0.nest (ah.length:Int)
  let (y2,y3)<-jQ x ah
  match<-sI (same ah) (same y3) (same y2) w0.nest w0.steps w0.out with
  | .ret r0=>pure r0
  | .done (nest1,steps1,ak)=>
   pure (true,(tR.mk nest1 steps1 ak))
 partial_fixpoint
def sI(ah:(List Int))(y3:Int)(n0:Int)(nest:List zL)(steps:Int)(out:List (List Int)):Option (Out (List zL×Int×List (List Int)) (Bool×tR)):=do
 if(decide (n0<y3)) then
  let (t74,nest2,steps2,ar)<-(do
   if(decide ((W ((W (steps+1))+1))>1200)) then
    pure (true,nest,(W (steps+1)),out)
   else
    let y4<-wU ah
    let l1<-app 8 y4 ([n0]:List Int)
    let (y6,y7)<-tF (tR.mk nest (W (steps+1)) out) (same l1)
    pure ((!y6),y7.nest,y7.steps,y7.out)
     : Option (Bool×List zL×Int×List (List Int)))
  if t74 then
   pure (.ret (false,(tR.mk nest2 steps2 ar)))
  else
   sI (same ah) (same y3) (W (n0+1)) (same nest2) (same steps2) (same ar)
 else
  pure (.done (nest,steps,out))
 partial_fixpoint
end
theorem zCZ:(∀(w0:tR) (ah:(List Int)) r,tF w0 ah=some r->∀{I:Imm}{r0:Nat}{p c p1 c1 cs p2 c2},(S4 I p w0.nest c)->(RL I cs w0.out)->(S4 I p2 ah c2)->RT 117 [vP r0 0,vS p2 ah c2] I [hB r0 [vS p w0.nest c,vI w0.steps,vS p1 w0.out c1],hO (List Int) (vS p1 w0.out c1) cs] (gN r0 r))/\(∀(ah:(List Int)) (y3:Int) (n0:Int) (nest:List zL) (steps:Int) (out:List (List Int)) o,sI ah y3 n0 nest steps out=some o->∀{B}{I0 I:Imm}{Q}  {r0:Nat}{p2 c2 p7 c7 p8 c8 bb},I0.le I->(S4 I p2 ah c2)->(S4 I p7 nest c7)->(RL I bb out)->NG Q->NO Q->(∀(I':Imm) (nest1:List zL) (steps1:Int) (ak:List (List Int)) (p9:Option Addr) (c9:Nat) (aX:Option Addr) (a8:Nat) (br:List Value),o=(.done (nest1,steps1,ak))->I0.le I'->(S4 I' p9 nest1 c9)->(RL I' br ak)->T 75 B Q (.exit 0) I' [hB r0 [vS p9 nest1 c9,vI steps1,vS aX ak a8],hO (List Int) (vS aX ak a8) br] [])->(∀r I' aj m',o=(.ret r)->I0.le I'->RS Tryz.prog f117 B (gN r0 r) I' aj m'->T 75 B Q .ret I' aj m')->J Tryz.prog 75 B (nav (bodyOf f117) [1,1,1,0,1,0]) Q I [hB r0 [vS p7 nest c7,vI steps,vS p8 out c8],hO (List Int) (vS p8 out c8) bb] [(0,vP r0 0),(1,vS p2 ah c2),(6,vI y3),(7,vI n0)]):=by
 refine tF.mutual_partial_correctness _ _ ?_ ?_
 ·intro F_impl_walking_walk_l1 ih_impl_walking_walk_l1 w0 ah r N I r0 p c p1 c1 cs p2 c2 h h1 h2;refine yM func117 λB=>?_;have H:=iS I;refine xZ []<|yE<|yJ<|yW [0] [15] rfl<|zH<|yD N ?_ ?_
  ·intro hc N;refine zM ?_;obtain⟨y,hy,N⟩:=zF N;obtain⟨l,aw,N⟩:=zF N;refine uX [.p (vP r0 0) [],.p (vP r0 0) [],.p (vP r0 0) [],.p (vP r0 2) [],.p (vS p1 w0.out c1) [0],.p (vS p2 ah c2) [],.x (λI' v hx=>∃p3 c3 aM,v=vS p3 y c3/\hx=[hO Int (vS p3 y c3) aM]/\(RL I' aM y)),.x (λI' v hx=>∃b,v=vS (some ⟨b,0,none⟩) ([y]:List (List Int)) 1/\hx=[]/\(SL I' (vS (some ⟨b,0,none⟩) ([y]:List (List Int)) 1) ([y]:List (List Int)))),.x (λI' v hx=>∃p4 c4 aV,v=vS p4 l c4/\hx=[hO (List Int) (vS p4 l c4) aV]/\(RL I' aV l))] [[],[],[(1,false)],[(2,false)],[(3,false)],[],[(5,false)],[(6,true)],[(4,false),(7,false),(12,true)]] [hB r0 [vS p w0.nest c,vI w0.steps,vS p1 w0.out c1]] [[hO (List Int) (vS p1 w0.out c1) cs]] [(0,false),(8,true)] (xD [0,1]) ?_ ?_
   ·refine Op<|Op<|Op<|Op<|Op<|Op<|Ox ?_<|Ox ?_<|Ox ?_<|On
    ·intro I1 hf ai;refine xV [21] rfl ?_;have H:=iS I1;have h2:=h2.mono ai;refine tG (qD ah _ hy h2) ?_;rintro I0 aK v2 k2 le - ⟨p3,c3,aM,rfl,rfl,h3⟩ -;have H:=H.trans le;exact xU [hO Int (vS p3 y c3) aM] H ⟨_,_,_,rfl,rfl,h3⟩
    ·rintro I1 hf ai _ _ ⟨p3,c3,aM,rfl,rfl,h3⟩;refine xV [22] rfl ?_;have H:=iS I1;refine tP 0 rfl ?_;intro aN ai hl0;have h4:=SL.of_frozen hl0 ai h3;have H:=H.trans ai;refine zIM (rc y ⟨_,rfl,h4⟩ rN) ?_;intro b bf ax h6;have H:=H.trans ax;exact xU [] H ⟨_,rfl,rfl,h6⟩
    rintro I1 hf ai _ _ ⟨rfl,rfl⟩ _ _ ⟨b,rfl,rfl,h6⟩ _ _ rfl;refine xV [20,23] rfl ?_;have h1:=iM ai h1;obtain⟨aF,k0,k01⟩:=h6;have h6:SL I1 (vS (some ⟨b,0,none⟩) ([y]:List (List Int)) 1) ([y]:List (List Int)):=⟨_,k0,k01⟩;exact fU 48 1 0 rfl rfl rfl h1 (.inl k0) k01 aw λp4 c4 aV h7=>jK (aj:=(hO (List Int) (vS p4 l c4) aV::hB r0 [vS p w0.nest c,vI w0.steps,vS p1 w0.out c1]::hf)) rfl<|xU [hO (List Int) (vS p4 l c4) aV] iR ⟨_,_,_,rfl,rfl,h7⟩
   rintro bq aR _ _ ⟨rfl,rfl⟩ _ _ ⟨p4,c4,aV,rfl,rfl,h7⟩;refine xV [0,16,24] rfl ?_;have h:=h.mono aR;refine yR 11 [] [26] rfl<|tA 1 [vS p w0.nest c,vI w0.steps,vS p4 l c4] rfl<|zX rfl<|wG<|yW [1] [4] rfl<|yS<|zG ?_;obtain rfl:=zB N;exact yV ⟨_,_,(.tmp rfl ResV.nil),(yN [1,0] rfl (by decide)),⟨_,_,_,_,_,_,rfl,rfl,rfl,h,h7⟩⟩
  intro hc N;refine zT<|wG<|yR 6 [0] [37,39] rfl<|bE N λx aI N=>xL rfl rfl h aI ?_;intro ad aY av aq;obtain⟨p5,c5,p6,c6,rfl,h8,h9⟩:=uD aq;refine yY 0 av (cLoop x p5 c5 p6 c6) (vA (cLoop x p5 c5 p6 c6)) rfl<|yR 9 [] [42] rfl ?_;obtain⟨⟨y2,y3⟩,aW,N⟩:=zF N;refine tG (zEp x ah _ aW h8 h9 h2) ?_;rintro bG aK v2 k2 bg - ⟨v02,v03,rfl,rfl,rfl,rfl⟩ -;have ⟨h2,h,h1⟩:=m3 bg h2 h h1;refine yW [] [5,6] rfl<|yE<|yG [7] rfl<|uP<|rX [(0,vP r0 0),(1,vS p2 ah c2),(6,vI y3),(7,vI y2)] ?_;obtain⟨aO,aJ,aB⟩:=zF N;refine ih_impl_walking_walk_l1 ah y3 y2 w0.nest w0.steps w0.out aO aJ iR h2 h h1 (λ_ _ _ h=>h) (λ_ _ h=>h) ?_ ?_
  ·intro I09 nest1 steps1 ak p9 c9 aX a8 br heq1 le9 h14 h15;subst aO;refine zU<|zBu [(4,vY)]<|zH<|yF ?_;obtain rfl:=zB aB;exact yV ⟨_,_,(.tmp rfl ResV.nil),(yN [0,1] rfl (by decide)),⟨_,_,_,_,_,_,rfl,rfl,rfl,h14,h15⟩⟩
  intro r0 I9 hs9 m9 aC le9 aD;subst aC;refine zR<|zG ?_;obtain rfl:=zB aB;exact yV aD
 intro F_impl_walking_walk F_impl_walking_walk_l1 ih_impl_walking_walk ih_impl_walking_walk_l1 ah y3 n0 nest steps out o N B I0 I Q r0 p2 c2 p7 c7 p8 c8 bb H h2 h12 h13 hg ho hx hr;refine yK hg ho<|zM<|yG [49] rfl<|zH<|yD N ?_ ?_
 ·intro aE N;refine zT<|yE<|zZ<|yJ<|yR 7 [0] [56,58] rfl<|tA 0 [vS p7 nest c7,vI (W (steps+1)),vS p8 out c8] rfl<|zX rfl<|zH<|zM ?_;obtain⟨o0,ay,aT⟩:=zF N;refine zA0 (λI' aj m'=>∃(t74:Bool) (nest2:List zL) (steps2:Int) (ar:List (List Int)) (a7:Option Addr) (a6:Nat) (bu:Option Addr) (bc:Nat) (bw:List Value),o0=(t74,nest2,steps2,ar)/\I.le I'/\(S4 I' a7 nest2 a6)/\(RL I' bw ar)/\aj=[hB r0 [vS a7 nest2 a6,vI steps2,vS bu ar bc],hO (List Int) (vS bu ar bc) bw]/\m'=[(0,vP r0 0),(1,vS p2 ah c2),(6,vI y3),(7,vI n0),(74,.bool t74)]) ?_ ?_
  ·have H:=iS I;refine zE<|yR 7 [0] [65] rfl<|wN [65] ay ?_ ?_
   ·intro aQ N;exact yO [] [(74,vY)]<|xM<|zY ⟨_,_,_,_,_,_,_,_,_,(zB N).symm,H,h12,h13,rfl,rfl⟩
   intro aQ N;refine yR 9 [] [66,67] rfl<|bE N λy4 bk N=>tG (qD ah _ bk h2) ?_;rintro I06 aK v2 k2 bo - ⟨aZ,bm,cs6,rfl,rfl,h18⟩ -;have ⟨h12,h13,H⟩:=m3 bo h12 h13 H;refine yR 11 [] [69] rfl<|jJ [vI n0] Int ?_;intro b1 hb1;have h19:RL I06 [vI n0] ([n0]:List Int):=rI [n0];obtain⟨l1,bC,N⟩:=zF N;refine fU 3 1 1 rfl rfl rfl h18 (.inr ⟨0,rfl⟩) h19 bC λp14 c14 cs7 h20=>dY (xD [1,2,3] (aj:=[hO Int (vS p14 l1 c14) cs7,hB r0 [vS p7 nest c7,vI (W (steps+1)),vS p8 out c8],hO (List Int) (vS p8 out c8) bb]))<|tP 0 rfl ?_;intro I07 bB hl02;have h21:=SL.of_frozen hl02 bB h20;have ⟨h12,h13,H⟩:=m3 bB h12 h13 H;obtain⟨⟨y6,y7⟩,hy6,N⟩:=zF N;refine zH8 (ih_impl_walking_walk (tR.mk nest (W (steps+1)) out) l1 _ hy6 h12 h13 h21) rfl ?_;rintro I08 aK v2 k2 le7 - ⟨v04,p15,c15,p16,c16,cs8,rfl,rfl,rfl,h23,h24⟩ -;have H:=H.trans le7;exact yW [] [74] rfl<|xM<|zY ⟨_,_,_,_,_,_,_,_,_,(zB N).symm,H,h23,h24,rfl,rfl⟩
  rintro bL aK m2 ⟨t74,nest2,steps2,ar,a7,a6,bu,bc,bw,heq,le8,h16,h17,rfl,rfl⟩;subst o0;have ⟨h2,H⟩:=m2 le8 h2 H;refine zH<|yD aT ?_ ?_
  ·intro bp N;exact xZ [(4,vF)]<|yS<|zR<|zG<|zG<|hr _ _ _ _ (zB N).symm H ⟨_,_,(.tmp rfl ResV.nil),(yN [0,1] rfl (by decide)),⟨_,_,_,_,_,_,rfl,rfl,rfl,h16,h17⟩⟩
  intro bp N;exact zT<|zQ<|zH<|zE<|yW [] [7] rfl<|yL<|gJ<|ih_impl_walking_walk_l1 ah y3 (W (n0+1)) nest2 steps2 ar _ N H h2 h16 h17 hg ho hx hr
 intro aE N;exact uQ<|xM<|hx _ _ _ _ _ _ _ _ _ (zB N).symm H h12 h13
theorem zCq:∀w0 ah r,tF w0 ah=some r->∀{I:Imm}{r0:Nat}{p c p1 c1 cs p2 c2},(S4 I p w0.nest c)->(RL I cs w0.out)->(S4 I p2 ah c2)->RT 117 [vP r0 0,vS p2 ah c2] I [hB r0 [vS p w0.nest c,vI w0.steps,vS p1 w0.out c1],hO (List Int) (vS p1 w0.out c1) cs] (gN r0 r):=zCZ.1
def kZ(nest:(List zL)):Option ((List (List Int))×Bool):=do
 let y<-jP nest
 if(!y) then
  pure (([]:List (List Int)),false)
 else
  let (y2,y3)<-tF (tR.mk nest 0 ([]:List (List Int))) ([]:List Int)
  if(!y2) then
   pure (([]:List (List Int)),false)
  else
   pure (y3.out,true)
theorem zEA:∀nest r,kZ nest=some r->∀{I:Imm}{p c},(S4 I p nest c)->RT 73 [vS p nest c] I [] (zA4  r):=by
 intro nest r N I p c h;unfold kZ at N;refine yM func73 λB=>xZ []<|yE<|yJ<|yR 1 [] [5] rfl<|bE N λy hy N=>vJ (zEo nest _ hy h) ?_;intro I0 le;have h:=h.mono le;refine yW [] [7] rfl<|zH<|yD N ?_ ?_
 ·intro hc N;refine yG [2,3] rfl<|yS<|zG ?_;obtain rfl:=zB N;exact yV ⟨_,_,(.tmp rfl (.tmp rfl ResV.nil)),zO,⟨_,_,rfl,rfl,(SL.nil _),rfl⟩⟩
 intro hc N;refine zT<|wG<|yR 2 [] [9] rfl<|uA [vS p nest c,vI 0,z0] ?_;intro b hb;refine yW [] [4] rfl<|yE<|yJ<|yR 1 [] [11] rfl<|zL1 (List Int) λh2=>?_;refine dY (xD [1,0] (aj:=[hB b [vS p nest c,vI 0,vS none ([]:List (List Int)) 0],hO (List Int) (vS none ([]:List (List Int)) 0) []])) ?_;obtain⟨⟨y2,y3⟩,aw,N⟩:=zF N;refine zH8 (zCq (tR.mk nest 0 ([]:List (List Int))) ([]:List Int) _ aw h h2 (SL.nil _)) rfl ?_;rintro aN aK v2 k2 ai - ⟨v01,p1,c1,p2,c2,cs,rfl,rfl,rfl,h4,h5⟩ -;refine yW [] [13] rfl<|zH<|yD N ?_ ?_
 ·intro aE N;refine yG [2,3] rfl<|yS<|zG ?_;obtain rfl:=zB N;exact yV ⟨_,_,(.tmp rfl (.tmp rfl ResV.nil)),zO,⟨_,_,rfl,rfl,(SL.nil _),rfl⟩⟩
 intro aE N;refine zT<|wG<|yW [0] [2,3] rfl<|yS<|uY 1 rfl ?_;intro bf ax hl0;have h6:=SL.of_frozen hl0 ax h5;obtain rfl:=zB N;exact yV ⟨_,_,(.tmp rfl (.tmp rfl ResV.nil)),zO,⟨_,_,rfl,rfl,h6,rfl⟩⟩
def pK(aL:List HA)(r:Int):KT:=λkk I' aj v=>
 ∃v0,aL=aj/\v=tupV [v0]/\v0=.int .i64 r
def xB(s:(List zJ))(f0:(zJ->Option Bool))(t8:Int):Option (Out Unit (Int)):=do
 if(decide (t8<(s.length:Int))) then
  let x<-idx s t8
  let y<-f0 x
  if y then
   pure (.ret t8)
  else
   xB s f0 (W (t8+1))
 else
  pure (.done ())
 partial_fixpoint
theorem gO(s:(List zJ))(f0:(zJ->Option Bool)):∀(t8:Int) (o:Out Unit (Int)),xB s f0 t8=some o->∀{B}{I0 I:Imm}{Q p c}{fv:Value}{aL:List HA},I0.le I->(S4 I p s c)->(FV1 Tryz.prog I aL fv f0)->NG Q->NO Q->(∀(I':Imm) ,o=(.done ())->I0.le I'->T 19 B Q (.exit 0) I' aL [])->(∀r I' aj m',o=(.ret r)->I0.le I'->RS Tryz.prog f118 B (pK aL r) I' aj m'->T 19 B Q .ret I' aj m')->J Tryz.prog 19 B (nav (bodyOf f118) [1,0,1,0]) Q I aL [(0,vS p s c),(1,fv),(7,vI (s.length:Int)),(8,vI t8)]:=by
 refine xB.partial_correctness s f0 _ λaG ih t8 o N B I0 I Q p c fv aL H h h1 hg ho hx hr=>yK hg ho<|yG [9] rfl<|yE<|yD N ?_ ?_
 ·intro hc N;refine zT<|yE<|zZ<|yG [5] rfl<|wG<|yR 3 [] [11,12,13] rfl<|bE N λx hy N=>xL rfl rfl h hy ?_;intro ad aF av aq;obtain⟨p1,c1,p2,c2,p3,c3,p4,c4,rfl,h2,h3,h4,h5⟩:=xY aq;refine yY 0 av (cStmt x p1 c1 p2 c2 p3 c3 p4 c4) (vA (cStmt x p1 c1 p2 c2 p3 c3 p4 c4)) rfl<|bE N λy aw N=>zJB rfl rfl h1 aw ⟨_,rfl,(oQ ⟨_,_,_,_,rfl,h2,h3,h4,h5⟩)⟩ (ce _).symm ?_;rintro I0 v04 le rfl;refine jK (aj:=aL) (ce _) ?_;have ⟨h,h1,H⟩:=m3 le h h1 H;refine zX rfl<|zH<|yD N ?_ ?_
  ·intro aE N;exact yG [4] rfl<|yS<|zR<|zG<|zG<|hr _ _ _ _ (zB N).symm H ⟨_,_,(.tmp rfl ResV.nil),(λ_ h=>h),⟨_,rfl,rfl,rfl⟩⟩
  intro aE N;exact zT<|zQ<|zH<|zE<|yW [] [8] rfl<|yL<|gJ<|ih (W (t8+1)) _ N H h h1 hg ho hx hr
 intro hc N;exact uQ<|xM<|hx _  (zB N).symm H
def vR(s:(List zJ))(f0:(zJ->Option Bool)):Option (Int):=do
 match<-xB s f0 0 with
 | .ret r0=>pure r0
 | .done _=>
  pure (-1)
theorem fR:∀s f0 r,vR s f0=some r->∀{I:Imm}{p c}{fv:Value}{aL:List HA},(S4 I p s c)->(FV1 Tryz.prog I aL fv f0)->RT 118 [vS p s c,fv] I aL (pK aL r):=by
 intro s f0 r N I p c fv aL h h1;unfold vR at N;refine yM func118 λB=>xZ []<|yE<|yG [7,8] rfl<|uP<|rX [(0,vS p s c),(1,fv),(7,vI (s.length:Int)),(8,vI 0)] ?_;obtain⟨o0,ay,aB⟩:=zF N;refine gO s f0 0 o0 ay iR h h1 (λ_ _ _ h=>h) (λ_ _ h=>h) ?_ ?_
 ·intro aN  heq ai;subst o0;refine zU<|wJ [4] rfl<|zH<|yF ?_;obtain rfl:=zB aB;exact yV ⟨_,_,(.tmp rfl ResV.nil),(λ_ h=>h),⟨_,rfl,rfl,rfl⟩⟩
 intro r0 I9 hs9 m9 aC le9 aD;subst aC;refine zR<|zG ?_;obtain rfl:=zB aB;exact yV aD
def jR(aL:List HA)(r:Bool):KT:=λkk I' aj v=>
 ∃v0,aL=aj/\v=tupV [v0]/\v0=.bool r
def wA(s:(List zJ))(f0:(zJ->Option Bool)):Option (Bool):=do
 let y<-vR s f0
 pure (decide (y>=0))
theorem gQ:∀s f0 r,wA s f0=some r->∀{I:Imm}{p c}{fv:Value}{aL:List HA},(S4 I p s c)->(FV1 Tryz.prog I aL fv f0)->RT 75 [vS p s c,fv] I aL (jR aL r):=by
 intro s f0 r N I p c fv aL h h1;unfold wA at N;refine yM func75 λB=>xZ []<|wG<|yR 2 [] [5,6] rfl<|bE N λy hy N=>uZ (hs1:=aL) (rest:=[]) rfl rfl rfl rfl (by kernel_rfl) rfl (ce _).symm (fR s f0 _ hy h h1) ?_;rintro I0 aK v2 k2 le - ⟨v0,rfl,rfl,rfl⟩ -;refine jK (aj:=aL) (ce _) ?_;refine yW [] [4] rfl<|zH<|yF ?_;obtain rfl:=zB N;exact yV ⟨_,_,(.tmp rfl ResV.nil),(λ_ h=>h),⟨_,rfl,rfl,rfl⟩⟩
def qT(s:zC)(x:Int):Option (Bool):=do
 let t3<-(do
  let y<-rP s
  if(!y) then
   pure true
  else
   let y1<-tE s
   pure (decide (y1>x))
    : Option Bool)
 pure (id t3)
theorem zEB:∀s x r,qT s x=some r->∀{I:Imm}{p c}{ad:Addr},(S4 I p s.Coefs c)->(At I ad [vI x])->RT 150 [vA (cAff s p c),.pointer (some ad)] I [] (zS  r):=by
 intro s x r N I p c ad h av;unfold qT at N;refine yM func150 λB=>?_;have H:=iS I;refine yJ<|uA (cAff s p c) ?_;intro b hb;refine yO [] []<|zH<|zM ?_;refine tZ N [] (λt3=>[(3,.bool t3)]) (λo0 ay=>?_) ?_
 ·have H:=iS I;obtain⟨y,hy,N⟩:=zF ay;cases hc:(!y) with
  | true=>
   have hM0:=nN hc N;refine uX [.p (vA (cAff s p c)) [0],.q (.bool y),.q vY,.q vY,.p undef [],.p undef [],.p undef [],.p undef [],.p vY []] [[],[(0,false)],[(1,false)],[(2,false)],[(3,false)],[(3,false),(4,false)],[(3,false)],[(3,false),(5,false),(6,false)],[(3,false),(7,false)]] [hB b (cAff s p c)] [] [(8,false)] (xD [0]) ?_ ?_
   ·refine Op<|Oq ?_<|Oq ?_<|Oq ?_<|Op<|Op<|Op<|Op<|Op<|On
    ·intro I1 hf ai;refine xV [4] rfl ?_;have H:=iS I1;have h:=h.mono ai;refine vJ (nH s _ hy h) ?_;intro aN le;have H:=H.trans le;exact wD H
    ·intro I1 hf ai;refine xV [5] rfl<|nP 3 [(6,.bool (!y))] ?_;rw[hc];exact wD iR
    intro I1 hf ai;exact I_h [(6,vY)]<|nP 4 [(7,vY)]<|wD iR
   intro bf ai;refine I_h [(12,vY)] ?_;have H:=H.trans ai;exact yO [] [(3,vY)]<|wM zO<|xM<|zY (ct hM0 H)
  | false=>
   have hM01:=oK hc N;obtain⟨y1,aw,N⟩:=zF hM01;refine uX [.p (vA (cAff s p c)) [0],.q (.bool y),.q vF,.q vF,.p (vA (cAff s p c)) [0],.q (vI y1),.q (vI x),.p (.bool (decide (y1>x))) [],.p (.bool (decide (y1>x))) []] [[],[(0,false)],[(1,false)],[(2,false)],[(3,false)],[(3,false),(4,false)],[(3,false)],[(3,false),(5,false),(6,false)],[(3,false),(7,false)]] [hB b (cAff s p c)] [] [(8,false)] (xD [0]) ?_ ?_
   ·refine Op<|Oq ?_<|Oq ?_<|Oq ?_<|Op<|Oq ?_<|Oq ?_<|Op<|Op<|On
    ·intro I1 hf ai;refine xV [4] rfl ?_;have H:=iS I1;have h:=h.mono ai;refine vJ (nH s _ hy h) ?_;intro aN le;have H:=H.trans le;exact wD H
    ·intro I1 hf ai;refine xV [5] rfl<|nP 3 [(6,.bool (!y))] ?_;rw[hc];exact wD iR
    ·intro I1 hf ai;exact I_h [(6,vF)]<|nP 4 [(7,vF)]<|wD iR
    ·intro I1 hf ai;refine xV [7,8] rfl ?_;have H:=iS I1;have h:=h.mono ai;refine qJ (kY s _ aw h) ?_;intro bq ax;have H:=H.trans ax;exact wD H
    intro I1 hf ai;refine xV [1,7] rfl ?_;have av:=av.mono ai;exact yY 0 av [vI x] (vI x) rfl<|wD iR
   intro bG aR;refine xV [12] rfl ?_;have H:=H.trans aR;exact yW [] [3] rfl<|wM zO<|xM<|zY (ct N H)
 intro t3 I0 bg aT;refine zH<|yF ?_;obtain rfl:=zB aT;exact xH
def kG(a0:zK)(am:Int):Option (Bool):=do
 let t4<-(do
  let y<-jO a0.Array
  if y then
   let y1<-wH (a0.Subs.length:Int) 1 2
   if y1 then
    let y2<-xE a0.Subs (λx0=>qT x0 am)
    pure (!y2)
   else
    pure false
  else
   pure false
    : Option Bool)
 pure (id t4)
theorem zBc:∀a0 am r,kG a0 am=some r->∀{I:Imm}{p c},(S4 I p a0.Subs c)->RT 119 [vA (cAccess a0 p c),vI am] I [] (zS  r):=by
 intro a0 am r N I p c h;unfold kG at N;refine yM func119 λB=>?_;have H:=iS I;refine yJ<|uA (cAccess a0 p c) ?_;intro b hb;refine uA [vI am] ?_;intro b1 hb1;refine tP 0 rfl ?_;intro I0 le hl0;have av:At I0 ⟨b1,0,none⟩ [vI am]:=At.of_blk hl0;have ⟨h,H⟩:=m2 le h H;refine yO [] []<|zH<|zM ?_;refine tZ N [] (λt4=>[(4,.bool t4)]) (λo0 ay=>?_) ?_
 ·have H:=iS I0;refine zE<|yR 2 [0] [6] rfl ?_;obtain⟨y,hy,N⟩:=zF ay;refine vJ (nB a0.Array _ hy ) ?_;intro bf ai;have ⟨av,h,H⟩:=m3 ai av h H;refine yR 4 [] [8] rfl<|wN [8] N ?_ ?_
  ·intro hc N;refine yR 7 [0] [11] rfl<|bE N λy1 aw N=>vJ (wO (a0.Subs.length:Int) 1 2 _ aw ) ?_;intro bq ax;have ⟨av,h,H⟩:=m3 ax av h H;refine yR 10 [] [14] rfl<|wN [14] N ?_ ?_
   ·intro aE N;refine yR 13 [0] [16,17] rfl ?_;have hf0:FV1 Tryz.prog bq [] (.func (.func 150) ⟨[]⟩ ⟨[vP b1 0]⟩) (λx0=>qT x0 am):=by
     refine FV1.intro ?_;intro I1 ai x0 r u0 hF k0;obtain⟨_,rfl,k0⟩:=k0;obtain⟨p1,c1,rfl,h3⟩:=yQ k0;exact(zEB x0 am r hF h3 (av.mono ai)).mono (by rintro k i hs u ⟨v0,rfl,rfl,h⟩;exact⟨rfl,h⟩)
    obtain⟨y2,aI,N⟩:=zF N;refine tG (rE a0.Subs (λx0=>qT x0 am) _ aI h hf0) ?_;rintro bG aK v2 k2 aR - ⟨v03,rfl,rfl,rfl⟩ -;have H:=H.trans aR;exact yW [] [4] rfl<|wM zO<|xM<|zY (ct N H)
   intro aE N;exact yO [] [(4,vF)]<|wM zO<|xM<|zY (ct N H)
  intro hc N;exact yO [] [(4,vF)]<|wM zO<|xM<|zY (ct N H)
 intro t4 aN bg aT;refine zH<|yF ?_;obtain rfl:=zB aT;exact xH
def nR(kind:Int):Option (Bool):=do
 let y<-wH kind 4 6
 pure (id y)
theorem zEq:∀kind r,nR kind=some r->∀{I:Imm} ,RT 85 [vI kind] I [] (zS  r):=by
 intro kind r N I;unfold nR at N;refine yM func85 λB=>xZ []<|wG<|yR 1 [] [3] rfl<|bE N λy hy N=>vJ (wO kind 4 6 _ hy ) λI0 le=>yO [] [(2,.bool y)]<|zH<|yF ?_;obtain rfl:=zB N;exact xH
def kH(a0:zC):Option (Bool):=do
 let t2<-(do
  if((a0.Coefs.length:Int)==0) then
   pure (a0.Const==0)
  else
   pure false
    : Option Bool)
 pure (id t2)
theorem zBd:∀a0 r,kH a0=some r->∀{I:Imm}{p c},(S4 I p a0.Coefs c)->RT 152 [vA (cAff a0 p c)] I [] (zS  r):=by
 intro a0 r N I p c h;unfold kH at N;refine yM func152 λB=>?_;have H:=iS I;refine yJ<|uA (cAff a0 p c) ?_;intro b hb;refine yO [] []<|zH<|zM ?_;refine tZ N [] (λt2=>[(2,.bool t2)]) (λo0 ay=>?_) ?_
 ·have H:=iS I;refine zE<|yR 5 [0] [7] rfl<|wN [7] ay ?_ ?_
  ·intro hc N;exact yW [0] [2] rfl<|wM zO<|xM<|zY (ct N H)
  intro hc N;exact yO [] [(2,vF)]<|wM zO<|xM<|zY (ct N H)
 intro t2 I0 le aT;refine zH<|yF ?_;obtain rfl:=zB aT;exact xH
def pL(a0:zK):Option (Bool):=do
 let t2<-(do
  if(a0.Array.l==([]:List UInt8)) then
   pure ((a0.Subs.length:Int)==0)
  else
   pure false
    : Option Bool)
 pure (id t2)
theorem eU:∀a0 r,pL a0=some r->∀{I:Imm}{p c},(S4 I p a0.Subs c)->RT 153 [vA (cAccess a0 p c)] I [] (zS  r):=by
 intro a0 r N I p c h;unfold pL at N;refine yM func153 λB=>?_;have H:=iS I;refine yJ<|uA (cAccess a0 p c) ?_;intro b hb;refine yO [] []<|zH<|zM ?_;refine tZ N [] (λt2=>[(2,.bool t2)]) (λo0 ay=>?_) ?_
 ·have H:=iS I;refine zE<|yR 4 [0] [6] rfl<|wN [6] ay ?_ ?_
  ·intro hc N;exact yW [0] [2] rfl<|wM zO<|xM<|zY (ct N H)
  intro hc N;exact yO [] [(2,vF)]<|wM zO<|xM<|zY (ct N H)
 intro t2 I0 le aT;refine zH<|yF ?_;obtain rfl:=zB aT;exact xH
def zEC(b0:Nat)(r:Bool×Int):KT:=λkk I' aj v=>
 ∃v0 k0,aj=[.blk b0 ⟨k0⟩]/\v=tupV [v0]/\v0=.bool r.1/\Rp.rep I' k0 r.2
def uG(e0:zD)(am:Int)(deep:Int)(count:Int):Option (Bool×Int):=do
 let t21<-(do
  if(decide ((W (count+1))>12)) then
   pure true
  else
   pure (decide (deep>5))
    : Option Bool)
 if t21 then
  pure (false,(W (count+1)))
 else
  let t51<-(do
   if(e0.Kind != 1) then
    if(e0.Num != 0) then
     pure true
    else
     if(e0.Kind != 2) then
      let y<-kH e0.Index
      if(!y) then
       pure true
      else
       if(e0.Kind != 3) then
        let y1<-pL e0.Read
        pure (!y1)
       else
        pure false
     else
      if(e0.Kind != 3) then
       let y2<-pL e0.Read
       pure (!y2)
      else
       pure false
   else
    if(e0.Kind != 2) then
     let y3<-kH e0.Index
     if(!y3) then
      pure true
     else
      if(e0.Kind != 3) then
       let y4<-pL e0.Read
       pure (!y4)
      else
       pure false
    else
     if(e0.Kind != 3) then
      let y5<-pL e0.Read
      pure (!y5)
     else
      pure false
     : Option Bool)
  if t51 then
   pure (false,(W (count+1)))
  else
   if(e0.Kind==1) then
    let t8<-(do
     let y6<-wH e0.Num 0 99
     if y6 then
      pure ((e0.Kids.length:Int)==0)
     else
      pure false
       : Option Bool)
    pure (t8,(W (count+1)))
   else
    if(e0.Kind==2) then
     let t81<-(do
      let y7<-rP e0.Index
      if y7 then
       let y8<-tE e0.Index
       if(decide (y8<=am)) then
        pure ((e0.Kids.length:Int)==0)
       else
        pure false
      else
       pure false
        : Option Bool)
     pure (t81,(W (count+1)))
    else
     if(e0.Kind==3) then
      let t82<-(do
       let y9<-kG e0.Read am
       if y9 then
        pure ((e0.Kids.length:Int)==0)
       else
        pure false
         : Option Bool)
      pure (t82,(W (count+1)))
     else
      let t99<-(do
       let y10<-nR e0.Kind
       if(!y10) then
        pure true
       else
        pure ((e0.Kids.length:Int) != 2)
         : Option Bool)
      if t99 then
       pure (false,(W (count+1)))
      else
       let (t83,x)<-(do
        let x1<-idx e0.Kids 0
        let (y12,y13)<-uG (same x1) (same am) (W (deep+1)) (W (count+1))
        if y12 then
         let x2<-idx e0.Kids 1
         let (y15,y16)<-uG (same x2) (same am) (W (deep+1)) (same y13)
         pure (y15,y16)
        else
         pure (false,y13)
          : Option (Bool×Int))
       pure (t83,x)
 partial_fixpoint
theorem zF1:∀e0 am deep count r,uG e0 am deep count=some r->∀{I:Imm}{p c p1 c1 p2 c2}{r0:Nat},(S4 I p e0.Index.Coefs c)->(S4 I p1 e0.Read.Subs c1)->(S4 I p2 e0.Kids c2)->RT 120 [vA (cExpr e0 p c p1 c1 p2 c2),vI am,vI deep,vP r0 0] I [hB r0 [vI count]] (zEC r0 r):=by
 refine uG.partial_correctness _ λF_impl_exprScan ih_impl_exprScan e0 am deep count r N I p c p1 c1 p2 c2 r0 h h1 h2=>yM func120 λB=>?_;have H:=iS I;refine yJ<|uA (cExpr e0 p c p1 c1 p2 c2) ?_;intro b hb;refine yO [] []<|wG<|yR 5 [1] [12,13] rfl<|tA 1 [vI (W (count+1))] rfl<|zX rfl<|yE<|zM ?_;refine tZ N [hB b (cExpr e0 p c p1 c1 p2 c2),hB r0 [vI (W (count+1))]] (λt21=>[(1,vI am),(2,vI deep),(3,vP r0 0),(4,vP b 0),(21,.bool t21)]) (λo0 ay=>?_) ?_
 ·have H:=iS I;refine zE<|yR 5 [1] [18] rfl<|wN [18] ay ?_ ?_
  ·intro hc N;exact yO [] [(21,vY)]<|xM<|zY (ct N H)
  intro hc N;exact yW [] [21] rfl<|xM<|zY (ct N H)
 intro t21 I0 le aT;have ⟨h,h1,h2,H⟩:=m4 le h h1 h2 H;refine zH<|yD aT ?_ ?_
 ·intro aE N;refine xZ [(8,vF)]<|yS<|zG ?_;obtain rfl:=zB N;exact yV ⟨_,_,(.tmp rfl ResV.nil),(yN [1] rfl (by decide)),⟨_,_,rfl,rfl,rfl,rfl⟩⟩
 intro aE N;refine zT<|yE<|zM ?_;refine tZ N [hB b (cExpr e0 p c p1 c1 p2 c2),hB r0 [vI (W (count+1))]] (λt51=>[(1,vI am),(2,vI deep),(3,vP r0 0),(4,vP b 0),(51,.bool t51)]) (λaO aJ=>?_) ?_
 ·have H:=iS I0;refine zE<|yR 4 [0] [25] rfl<|wN [25] aJ ?_ ?_
  ·intro aQ N;refine yR 9 [0] [30] rfl<|wN [30] N ?_ ?_
   ·intro bp N;exact yO [] [(51,vY)]<|xM<|zY (ct N H)
   intro bp N;refine yR 13 [0] [34] rfl<|wN [34] N ?_ ?_
   ·intro bD N;refine xF 15 [0] [(36,vA (cAff e0.Index p c))]<|bE N λy hy N=>vJ (zBd e0.Index _ hy h) ?_;intro bf ai;have ⟨h1,H⟩:=m2 ai h1 H;refine yR 20 [] [41] rfl<|wN [41] N ?_ ?_
    ·intro hc5 N;exact yO [] [(51,vY)]<|xM<|zY (ct N H)
    intro hc5 N;refine yR 24 [0] [45] rfl<|wN [45] N ?_ ?_
    ·intro hc6 N;refine xF 26 [0] [(47,vA (cAccess e0.Read p1 c1))]<|bE N λy1 aw N=>vJ (eU e0.Read _ aw h1) ?_;intro bq ax;have H:=H.trans ax;exact yW [] [51] rfl<|xM<|zY (ct N H)
    intro hc6 N;exact yO [] [(51,vF)]<|xM<|zY (ct N H)
   intro bD N;refine yR 24 [0] [41,45] rfl<|wN [45] N ?_ ?_
   ·intro hc7 N;refine xF 26 [0] [(47,vA (cAccess e0.Read p1 c1))]<|bE N λy2 aI N=>vJ (eU e0.Read _ aI h1) ?_;intro bG aR;have H:=H.trans aR;exact yW [] [51] rfl<|xM<|zY (ct N H)
   intro hc7 N;exact yO [] [(51,vF)]<|xM<|zY (ct N H)
  intro aQ N;refine yR 13 [0] [30,34] rfl<|wN [34] N ?_ ?_
  ·intro hc8 N;refine xF 15 [0] [(36,vA (cAff e0.Index p c))]<|bE N λy3 aW N=>vJ (zBd e0.Index _ aW h) ?_;intro bL bg;have ⟨h1,H⟩:=m2 bg h1 H;refine yR 20 [] [41] rfl<|wN [41] N ?_ ?_
   ·intro hc9 N;exact yO [] [(51,vY)]<|xM<|zY (ct N H)
   intro hc9 N;refine yR 24 [0] [45] rfl<|wN [45] N ?_ ?_
   ·intro hc10 N;refine xF 26 [0] [(47,vA (cAccess e0.Read p1 c1))]<|bE N λy4 bk N=>vJ (eU e0.Read _ bk h1) ?_;intro I06 bo;have H:=H.trans bo;exact yW [] [51] rfl<|xM<|zY (ct N H)
   intro hc10 N;exact yO [] [(51,vF)]<|xM<|zY (ct N H)
  intro hc8 N;refine yR 24 [0] [41,45] rfl<|wN [45] N ?_ ?_
  ·intro hc11 N;refine xF 26 [0] [(47,vA (cAccess e0.Read p1 c1))]<|bE N λy5 bC N=>vJ (eU e0.Read _ bC h1) ?_;intro I07 bB;have H:=H.trans bB;exact yW [] [51] rfl<|xM<|zY (ct N H)
  intro hc11 N;exact yO [] [(51,vF)]<|xM<|zY (ct N H)
 intro t51 aN le7 hMc1;have ⟨h,h1,h2,H⟩:=m4 le7 h h1 h2 H;refine zH<|yD hMc1 ?_ ?_
 ·intro hc12 N;refine xZ [(8,vF)]<|yS<|zG ?_;obtain rfl:=zB N;exact yV ⟨_,_,(.tmp rfl ResV.nil),(yN [1] rfl (by decide)),⟨_,_,rfl,rfl,rfl,rfl⟩⟩
 intro hc12 N;refine zT<|yE<|zZ<|yJ<|yW [0] [52] rfl<|zH<|yD N ?_ ?_
 ·intro hc13 N;refine zM ?_;refine tZ N [hB r0 [vI (W (count+1))]] (λt8=>[(8,.bool t8)]) (λo02 ho02=>?_) ?_
  ·have H:=iS aN;refine zE<|yR 2 [0] [57] rfl ?_;obtain⟨y6,hy6,N⟩:=zF ho02;refine vJ (wO e0.Num 0 99 _ hy6 ) ?_;intro I09 le8;have H:=H.trans le8;refine yR 4 [] [59] rfl<|wN [59] N ?_ ?_
   ·intro hc14 N;exact yW [0] [8] rfl<|wM (yN [1] rfl (by decide))<|xM<|zY (ct N H)
   intro hc14 N;exact yO [] [(8,vF)]<|wM (yN [1] rfl (by decide))<|xM<|zY (ct N H)
  intro t8 I08 le9 hMc2;refine yS<|zR<|zG ?_;obtain rfl:=zB hMc2;exact yV ⟨_,_,(.tmp rfl ResV.nil),(yN [0] rfl (by decide)),⟨_,_,rfl,rfl,rfl,rfl⟩⟩
 intro hc13 N;refine yJ<|yW [0] [65] rfl<|zH<|yD N ?_ ?_
 ·intro hc15 N;refine zM ?_;refine tZ N [hB r0 [vI (W (count+1))]] (λt81=>[(8,.bool t81)]) (λo03 ho03=>?_) ?_
  ·have H:=iS aN;refine zE<|xF 2 [0] [(70,vA (cAff e0.Index p c))] ?_;obtain⟨y7,hy7,N⟩:=zF ho03;refine vJ (nH e0.Index _ hy7 h) ?_;intro bU le10;have ⟨h,H⟩:=m2 le10 h H;refine yR 4 [] [72] rfl<|wN [72] N ?_ ?_
   ·intro hc16 N;refine xF 6 [0] [(74,vA (cAff e0.Index p c))]<|bE N λy8 hy8 N=>qJ (kY e0.Index _ hy8 h) ?_;intro bR le11;have H:=H.trans le11;refine yR 11 [] [79] rfl<|wN [79] N ?_ ?_
    ·intro hc17 N;exact yW [0] [8] rfl<|wM (yN [1] rfl (by decide))<|xM<|zY (ct N H)
    intro hc17 N;exact yO [] [(8,vF)]<|wM (yN [1] rfl (by decide))<|xM<|zY (ct N H)
   intro hc16 N;exact yO [] [(8,vF)]<|wM (yN [1] rfl (by decide))<|xM<|zY (ct N H)
  intro t81 bO le12 hMc3;refine yS<|zR<|zG ?_;obtain rfl:=zB hMc3;exact yV ⟨_,_,(.tmp rfl ResV.nil),(yN [0] rfl (by decide)),⟨_,_,rfl,rfl,rfl,rfl⟩⟩
 intro hc15 N;refine yJ<|yW [0] [85] rfl<|zH<|yD N ?_ ?_
 ·intro hc18 N;refine zM ?_;refine tZ N [hB r0 [vI (W (count+1))]] (λt82=>[(8,.bool t82)]) (λo04 ho04=>?_) ?_
  ·have H:=iS aN;refine zE<|xF 3 [0] [(90,vA (cAccess e0.Read p1 c1)),(91,vI am)] ?_;obtain⟨y9,hy9,N⟩:=zF ho04;refine vJ (zBc e0.Read am _ hy9 h1) ?_;intro I014 le13;have H:=H.trans le13;refine yR 5 [] [93] rfl<|wN [93] N ?_ ?_
   ·intro hc19 N;exact yW [0] [8] rfl<|wM (yN [1] rfl (by decide))<|xM<|zY (ct N H)
   intro hc19 N;exact yO [] [(8,vF)]<|wM (yN [1] rfl (by decide))<|xM<|zY (ct N H)
  intro t82 I013 le14 hMc4;refine yS<|zR<|zG ?_;obtain rfl:=zB hMc4;exact yV ⟨_,_,(.tmp rfl ResV.nil),(yN [0] rfl (by decide)),⟨_,_,rfl,rfl,rfl,rfl⟩⟩
 intro hc18 N;refine zM ?_;refine tZ N [hB b (cExpr e0 p c p1 c1 p2 c2),hB r0 [vI (W (count+1))]] (λt99=>[(1,vI am),(2,vI deep),(3,vP r0 0),(4,vP b 0),(99,.bool t99)]) (λo05 ho05=>?_) ?_
 ·have H:=iS aN;refine zE<|yR 2 [0] [101] rfl ?_;obtain⟨y10,hy10,N⟩:=zF ho05;refine vJ (zEq e0.Kind _ hy10 ) ?_;intro I016 le15;have H:=H.trans le15;refine yR 5 [] [104] rfl<|wN [104] N ?_ ?_
  ·intro hc20 N;exact yO [] [(99,vY)]<|xM<|zY (ct N H)
  intro hc20 N;exact yW [0] [99] rfl<|xM<|zY (ct N H)
 intro t99 I015 le16 hMc5;have ⟨h2,H⟩:=m2 le16 h2 H;refine zH<|yD hMc5 ?_ ?_
 ·intro hc21 N;refine xZ [(8,vF)]<|yS<|zR<|zG ?_;obtain rfl:=zB N;exact yV ⟨_,_,(.tmp rfl ResV.nil),(yN [1] rfl (by decide)),⟨_,_,rfl,rfl,rfl,rfl⟩⟩
 intro hc21 N;refine zT<|zQ<|zH<|zM ?_;obtain⟨o06,ho06,hMc6⟩:=zF N;refine zA0 (λI' aj m'=>∃(t83:Bool) (x:Int),o06=(t83,x)/\I015.le I'/\aj=[hB r0 [vI x]]/\m'=[(8,.bool t83)]) ?_ ?_
 ·have H:=iS I015;refine zE<|yR 2 [0] [111] rfl ?_;obtain⟨x1,hy11,N⟩:=zF ho06;refine xL rfl rfl h2 hy11 ?_;intro ad aF av aq;obtain⟨p3,c3,p4,c4,p5,c5,rfl,h14,h15,h16⟩:=yZ aq;refine yY 0 av (cExpr x1 p3 c3 p4 c4 p5 c5) (vA (cExpr x1 p3 c3 p4 c4 p5 c5)) rfl<|yR 8 [] [114,116,117] rfl<|dY (xD [1,0] (aj:=[hB r0 [vI (W (count+1))],hB b (cExpr e0 p c p1 c1 p2 c2)])) ?_;obtain⟨⟨y12,y13⟩,hy12,N⟩:=zF N;refine zH8 (ih_impl_exprScan x1 am (W (deep+1)) (W (count+1)) _ hy12 h14 h15 h16) rfl ?_;rintro I018 aK v2 k2 le17 - ⟨v014,kk,rfl,rfl,rfl,h18⟩ -;have ⟨h2,H⟩:=m2 le17 h2 H;obtain rfl:=h18;refine yR 10 [] [119] rfl<|wN [119] N ?_ ?_
  ·intro hc22 N;refine yR 12 [1] [121] rfl<|bE N λx2 hy13 N=>xL rfl rfl h2 hy13 ?_;intro ad1 aY au aA;obtain⟨p6,c6,p7,c7,p8,c8,rfl,h19,h20,h21⟩:=yZ aA;refine yY 0 au (cExpr x2 p6 c6 p7 c7 p8 c8) (vA (cExpr x2 p6 c6 p7 c7 p8 c8)) rfl<|yR 18 [] [124,126,127] rfl ?_;obtain⟨⟨y15,y16⟩,hy14,N⟩:=zF N;refine zH8 (ih_impl_exprScan x2 am (W (deep+1)) y13 _ hy14 h19 h20 h21) rfl ?_;rintro I019 aK v2 k2 le18 - ⟨v018,kk1,rfl,rfl,rfl,h23⟩ -;have H:=H.trans le18;obtain rfl:=h23;exact yW [] [8] rfl<|wM (yN [0] rfl (by decide))<|xM<|zY ⟨_,_,(zB N).symm,H,rfl,rfl⟩
  intro hc22 N;exact yO [] [(8,vF)]<|wM (yN [0] rfl (by decide))<|xM<|zY ⟨_,_,(zB N).symm,H,rfl,rfl⟩
 rintro I017 aK m2 ⟨t83,x,heq6,le19,rfl,rfl⟩;subst o06;refine zH<|yF ?_;obtain rfl:=zB hMc6;exact yV ⟨_,_,(.tmp rfl ResV.nil),(yN [0] rfl (by decide)),⟨_,_,rfl,rfl,rfl,rfl⟩⟩
def jS(s:zJ)(am:Int):Option (Bool):=do
 let t4<-(do
  let y<-wH am 0 4
  if y then
   let y1<-kG s.Write am
   if y1 then
    let (y3,y4)<-uG s.Value am 1 0
    pure (id y3)
   else
    pure false
  else
   pure false
    : Option Bool)
 pure (id t4)
theorem zEr:∀s am r,jS s am=some r->∀{I:Imm}{p c p1 c1 p2 c2 p3 c3},(S4 I p s.Write.Subs c)->(S4 I p1 s.Value.Index.Coefs c1)->(S4 I p2 s.Value.Read.Subs c2)->(S4 I p3 s.Value.Kids c3)->RT 77 [vA (cStmt s p c p1 c1 p2 c2 p3 c3),vI am] I [] (zS  r):=by
 intro s am r N I p c p1 c1 p2 c2 p3 c3 h h1 h2 h3;unfold jS at N;refine yM func77 λB=>?_;have H:=iS I;refine yJ<|uA (cStmt s p c p1 c1 p2 c2 p3 c3) ?_;intro b hb;refine yO [] []<|wG<|nV [vI 0] ?_;intro b1 hb1;refine tA 0 [vI 0] rfl<|zX rfl<|zH<|zM ?_;refine tZ N [] (λt4=>[(4,.bool t4)]) (λo0 ay=>?_) ?_
 ·have H:=iS I;refine zE<|yR 1 [] [6] rfl ?_;obtain⟨y,hy,N⟩:=zF ay;refine vJ (wO am 0 4 _ hy ) ?_;intro aN le;have ⟨h,h1,h2,h3,H⟩:=m5 le h h1 h2 h3 H;refine yR 3 [] [8] rfl<|wN [8] N ?_ ?_
  ·intro hc N;refine xF 6 [1] [(10,vA (cAccess s.Write p c)),(11,vI am)]<|bE N λy1 aw N=>vJ (zBc s.Write am _ aw h) ?_;intro bf ai;have ⟨h1,h2,h3,H⟩:=m4 ai h1 h2 h3 H;refine yR 9 [] [14] rfl<|wN [14] N ?_ ?_
   ·intro aE N;refine xF 12 [1] [(16,vA (cExpr s.Value p1 c1 p2 c2 p3 c3)),(17,vI am)] ?_;obtain⟨⟨y3,y4⟩,aI,N⟩:=zF N;refine zH8 (zF1 s.Value am 1 0 _ aI h1 h2 h3) rfl ?_;rintro bq aK v2 k2 ax - ⟨v02,kk,rfl,rfl,rfl,h7⟩ -;have H:=H.trans ax;obtain rfl:=h7;exact yW [] [4] rfl<|wM zO<|xM<|zY (ct N H)
   intro aE N;exact yO [] [(4,vF)]<|wM zO<|xM<|zY (ct N H)
  intro hc N;exact yO [] [(4,vF)]<|wM zO<|xM<|zY (ct N H)
 intro t4 I0 aR aT;refine zH<|yF ?_;obtain rfl:=zB aT;exact xH
def vE(s:zJ)(x:zN):Option (Bool):=do
 let y<-jS s (x.Nest.length:Int)
 pure (!y)
theorem zAk:∀s x r,vE s x=some r->∀{I:Imm}{p c p1 c1 p2 c2 p3 c3}{ad:Addr}{p4 c4 p5 c5},(S4 I p s.Write.Subs c)->(S4 I p1 s.Value.Index.Coefs c1)->(S4 I p2 s.Value.Read.Subs c2)->(S4 I p3 s.Value.Kids c3)->(S4 I p4 x.Nest c4)->(S4 I p5 x.Body c5)->(At I ad (cPart x p4 c4 p5 c5))->RT 76 [vA (cStmt s p c p1 c1 p2 c2 p3 c3),.pointer (some ad)] I [] (zS  r):=by
 intro s x r N I p c p1 c1 p2 c2 p3 c3 ad p4 c4 p5 c5 h h1 h2 h3 h4 h5 av;unfold vE at N;refine yM func76 λB=>yJ<|uA (cStmt s p c p1 c1 p2 c2 p3 c3) ?_;intro b hb;refine yO [] []<|wG<|xF 2 [0] [(4,vA (cStmt s p c p1 c1 p2 c2 p3 c3)),(5,.pointer (some ad))]<|yY 0 av [vS p4 x.Nest c4] (vS p4 x.Nest c4) rfl<|yR 4 [] [7] rfl<|bE N λy hy N=>vJ (zEr s (x.Nest.length:Int) _ hy h h1 h2 h3) λI0 le=>yO [] [(3,.bool (!y))]<|zH<|yF ?_;obtain rfl:=zB N;exact xH
def pY(n0:Int):Option (Bool):=do
 let y<-wH n0 (-9999) 9999
 pure (!y)
theorem zEs:∀n0 r,pY n0=some r->∀{I:Imm} ,RT 121 [vI n0] I [] (zS  r):=by
 intro n0 r N I;unfold pY at N;refine yM func121 λB=>xZ []<|wG<|yR 1 [] [3] rfl<|bE N λy hy N=>vJ (wO n0 (-9999) 9999 _ hy ) λI0 le=>yO [] [(2,.bool (!y))]<|zH<|yF ?_;obtain rfl:=zB N;exact xH
def fZ(ah:(List Int)):Option (Bool):=do
 let t2<-(do
  if(decide ((ah.length:Int)<=4)) then
   let y<-xG ah pY
   pure (!y)
  else
   pure false
    : Option Bool)
 pure (id t2)
theorem zFr:∀ah r,fZ ah=some r->∀{I:Imm}{p c},(S4 I p ah c)->RT 78 [vS p ah c] I [] (zS  r):=by
 intro ah r N I p c h;unfold fZ at N;refine yM func78 λB=>?_;have H:=iS I;refine xZ []<|zH<|zM ?_;refine tZ N [] (λt2=>[(2,.bool t2)]) (λo0 ay=>?_) ?_
 ·have H:=iS I;refine zE<|yR 4 [] [6] rfl<|wN [6] ay ?_ ?_
  ·intro hc N;refine yR 5 [] [7] rfl ?_;have hf0:FV1 Tryz.prog I [] (.func (.func 121) ⟨[]⟩ ⟨[]⟩) pY:=by
    refine FV1.intro ?_;intro I1 ai x0 r u0 hF k0;obtain rfl:=k0;exact(zEs x0 r hF ).mono (by rintro k i hs u ⟨v0,rfl,rfl,h⟩;exact⟨rfl,h⟩)
   obtain⟨y,hy,N⟩:=zF N;refine tG (sH ah pY _ hy h hf0) ?_;rintro aN aK v2 k2 le - ⟨v0,rfl,rfl,rfl⟩ -;have H:=H.trans le;exact yW [] [2] rfl<|xM<|zY (ct N H)
  intro hc N;exact yO [] [(2,vF)]<|xM<|zY (ct N H)
 intro t2 I0 ai aT;refine zH<|yF ?_;obtain rfl:=zB aT;exact xH
def tV(a0:zI)(n0:Int)(t9:Int):Option (Int):=do
 if(decide (t9<(a0.Dims.length:Int))) then
  let x<-idx a0.Dims t9
  tV a0 (W (n0*x)) (W (t9+1))
 else
  pure (id n0)
 partial_fixpoint
theorem zC0(a0:zI):∀(n0:Int) (t9:Int) (o:Int),tV a0 n0 t9=some o->∀{B}{I0 I:Imm}{Q p c},I0.le I->(S4 I p a0.Dims c)->NG Q->NO Q->(∀(I':Imm) (n01:Int),o=n01->I0.le I'->T 18 B Q (.exit 0) I' [] [(3,vI n01)])->J Tryz.prog 18 B (nav (bodyOf f154) [1,1,0,1,0]) Q I [] [(3,vI n0),(7,vS p a0.Dims c),(8,vI (a0.Dims.length:Int)),(9,vI t9)]:=by
 refine tV.partial_correctness a0 _ λaG ih n0 t9 o N B I0 I Q p c H h hg ho hx=>yK hg ho<|yG [10] rfl<|yE<|yD N ?_ ?_
 ·intro hc N;refine zT<|yE<|zZ<|yJ<|bE N λx hy N=>xL rfl rfl h hy ?_;intro ad aF av aq;obtain rfl:=aq;exact yY 0 av [vI x] (vI x) rfl<|yW [] [5] rfl<|zH<|zE<|yW [] [3] rfl<|zQ<|zH<|zE<|yW [] [9] rfl<|yL<|gJ<|ih (W (n0*x)) (W (t9+1)) _ N H h hg ho hx
 intro hc N;exact uQ<|xM<|hx _ _ (zB N).symm H
def jA(a0:zI):Option (Int):=do
 let n01<-tV a0 1 0
 pure (id n01)
theorem zED:∀a0 r,jA a0=some r->∀{I:Imm}{p c},(S4 I p a0.Dims c)->RT 154 [vA (cArr a0 p c)] I [] (zW  r):=by
 intro a0 r N I p c h;unfold jA at N;refine yM func154 λB=>yJ<|uA (cArr a0 p c) ?_;intro b hb;refine yO [] []<|wJ [3] rfl<|yE<|yJ<|yW [0] [7,8,9] rfl<|uP<|kU (xD [] (aj:=[]))<|rX [(3,vI 1),(7,vS p a0.Dims c),(8,vI (a0.Dims.length:Int)),(9,vI 0)] ?_;obtain⟨o0,ay,aB⟩:=zF N;refine zC0 a0 1 0 o0 ay iR h (λ_ _ _ h=>h) (λ_ _ h=>h) ?_;intro I0 n01 heq le;subst o0;refine zU<|wJ [2] rfl<|zH<|yF ?_;obtain rfl:=zB aB;exact xH
def uV(a0:zK)(ah:(List Int))(x:zI)(at0:Int)(t40:Int):Option (Out Int (Int)):=do
 if(decide (t40<(a0.Subs.length:Int))) then
  let x1<-idx a0.Subs t40
  let y1<-uU x1 ah
  let x2<-idx x.Dims t40
  let y2<-wH y1 0 (W (x2 - 1))
  if(!y2) then
   pure (.ret (-1))
  else
   let x3<-idx x.Dims t40
   uV a0 ah x (W ((W (at0*x3))+y1)) (W (t40+1))
 else
  pure (.done at0)
 partial_fixpoint
theorem zBe(a0:zK)(ah:(List Int))(x:zI):∀(at0:Int) (t40:Int) (o:Out Int (Int)),uV a0 ah x at0 t40=some o->∀{B}{I0 I:Imm}{Q}{first:Int}{p3 c2 p4 c3 p5 c4}{b2:Nat},I0.le I->(S4 I p4 ah c3)->(S4 I p3 a0.Subs c2)->(S4 I p5 x.Dims c4)->NG Q->NO Q->(∀(I':Imm) (at01:Int),o=(.done at01)->I0.le I'->T 71 B Q (.exit 2) I' [] [(7,vI first),(10,vI at01)])->(∀r I' aj m',o=(.ret r)->I0.le I'->RS Tryz.prog f122 B (zW  r) I' aj m'->T 71 B Q .ret I' aj m')->J Tryz.prog 71 B (nav (bodyOf f122) [1,1,0,1,0,0,1,1,0,0,1,1,1,1,0,1,0]) Q I [hB b2 (cArr x p5 c4)] [(2,vS p4 ah c3),(7,vI first),(9,vP b2 0),(10,vI at0),(38,vS p3 a0.Subs c2),(39,vI (a0.Subs.length:Int)),(40,vI t40)]:=by
 refine uV.partial_correctness a0 ah x _ λaG ih at0 t40 o N B I0 I Q first p3 c2 p4 c3 p5 c4 b2 H h3 h2 h4 hg ho hx hr=>yK hg ho<|yG [41] rfl<|yE<|yD N ?_ ?_
 ·intro bp N;refine zT<|yE<|zZ<|yJ<|yR 1 [] [42] rfl<|bE N λx1 aI N=>xL rfl rfl h2 aI ?_;intro ad1 aY au aA;obtain⟨p6,c5,rfl,h6⟩:=yQ aA;refine yY 0 au (cAff x1 p6 c5) (vA (cAff x1 p6 c5)) rfl<|nV [z0,vI 0] ?_;intro b3 hb3;refine yR 5 [] [11] rfl<|tA 0 (cAff x1 p6 c5) rfl<|zX rfl<|wG<|xF 2 [0] [(45,vA (cAff x1 p6 c5)),(46,vS p4 ah c3)]<|bE N λy1 aW N=>qJ (nI x1 ah _ aW h6 h3) ?_;intro aN ai;have ⟨h3,h2,h4,H⟩:=m4 ai h3 h2 h4 H;refine yW [] [13] rfl<|yE<|yJ<|yR 4 [1] [48,50,51] rfl<|bE N λx2 bk N=>xL rfl rfl h4 bk ?_;intro ad2 bM aS bh;obtain rfl:=bh;refine yY 0 aS [vI x2] (vI x2) rfl<|yR 7 [] [54] rfl<|bE N λy2 bC N=>vJ (wO y1 0 (W (x2 - 1)) _ bC ) ?_;intro bf ax;have ⟨h3,h2,h4,H⟩:=m4 ax h3 h2 h4 H;refine yW [] [56] rfl<|zH<|yD N ?_ ?_
  ·intro bD N;exact yG [6] rfl<|yS<|zG<|zR<|zG<|zG<|hr _ _ _ _ (zB N).symm H ⟨_,_,(.tmp rfl ResV.nil),zO,⟨_,rfl,rfl,rfl⟩⟩
  intro bD N;refine zT<|zH<|zE<|yR 4 [1] [57,59,60] rfl<|bE N λx3 hy6 N=>xL rfl rfl h4 hy6 ?_;intro ad3 ccs3 hat3 bn;obtain rfl:=bn;exact yY 0 hat3 [vI x3] (vI x3) rfl<|yW [] [10] rfl<|zQ<|zH<|zE<|yW [] [40] rfl<|yL<|kU (yN [1] rfl (by decide))<|gJ<|ih (W ((W (at0*x3))+y1)) (W (t40+1)) _ N H h3 h2 h4 hg ho hx hr
 intro bp N;exact uQ<|wM zO<|xM<|hx _ _ (zB N).symm H
def vU(p:zV)(a0:zK)(ah:(List Int))(first:Int)(t17:Int):Option (Out Unit (Int)):=do
 if(decide (t17<(p.Arrays.length:Int))) then
  let x<-idx p.Arrays t17
  if(!(x.Name.l==a0.Array.l)) then
   let y<-jA x
   vU p a0 ah (W (first+y)) (W (t17+1))
  else
   if((a0.Subs.length:Int) != (x.Dims.length:Int)) then
    pure (.ret (-1))
   else
    match<-uV a0 ah x 0 0 with
    | .ret r0=>pure (.ret r0)
    | .done at01=>
     pure (.ret (W (first+at01)))
 else
  pure (.done ())
 partial_fixpoint
theorem zBf(p:zV)(a0:zK)(ah:(List Int)):∀(first:Int) (t17:Int) (o:Out Unit (Int)),vU p a0 ah first t17=some o->∀{B}{I0 I:Imm}{Q p1 c p3 c2 p4 c3}{b1:Nat},I0.le I->(S4 I p4 ah c3)->(S4 I p1 p.Arrays c)->(S4 I p3 a0.Subs c2)->NG Q->NO Q->(∀(I':Imm) ,o=(.done ())->I0.le I'->T 71 B Q (.exit 0) I' [] [])->(∀r I' aj m',o=(.ret r)->I0.le I'->RS Tryz.prog f122 B (zW  r) I' aj m'->T 71 B Q .ret I' aj m')->J Tryz.prog 71 B (nav (bodyOf f122) [1,1,0,1,0]) Q I [hB b1 (cAccess a0 p3 c2)] [(2,vS p4 ah c3),(4,vP b1 0),(7,vI first),(15,vS p1 p.Arrays c),(16,vI (p.Arrays.length:Int)),(17,vI t17)]:=by
 refine vU.partial_correctness p a0 ah _ λaG ih first t17 o N B I0 I Q p1 c p3 c2 p4 c3 b1 H h3 h h2 hg ho hx hr=>yK hg ho<|yG [18] rfl<|yE<|yD N ?_ ?_
 ·intro hc N;refine zT<|yE<|zZ<|yJ<|bE N λx hy N=>xL rfl rfl h hy ?_;intro ad aF av aq;obtain⟨p5,c4,rfl,h4⟩:=wB aq;refine yY 0 av (cArr x p5 c4) (vA (cArr x p5 c4)) rfl<|nV [vT ([]),z0] ?_;intro b2 hb2;refine tA 0 (cArr x p5 c4) rfl<|zX rfl<|yE<|yJ<|yW [0,1] [25] rfl<|zH<|yD N ?_ ?_
  ·intro aE N;refine yJ<|xF 2 [0] [(26,vI first),(27,vA (cArr x p5 c4))]<|bE N λy aw N=>qJ (zED x _ aw h4) ?_;intro I0 le;have ⟨h3,h,h2,H⟩:=m4 le h3 h h2 H;exact yW [] [7] rfl<|zH<|oO<|yH<|zU<|zH<|zE<|yW [] [17] rfl<|yL<|kU (yN [1] rfl (by decide))<|gJ<|ih (W (first+y)) (W (t17+1)) _ N H h3 h h2 hg ho hx hr
  intro aE N;refine zT<|yE<|yJ<|yW [1,0] [36] rfl<|zH<|yD N ?_ ?_
  ·intro aQ N;exact yG [6] rfl<|yS<|zG<|zR<|zG<|zG<|hr _ _ _ _ (zB N).symm H ⟨_,_,(.tmp rfl ResV.nil),zO,⟨_,rfl,rfl,rfl⟩⟩
  intro aQ N;refine zT<|wJ [10] rfl<|yE<|yJ<|yW [1] [38,39,40] rfl<|uP<|kU (xD [0] (aj:=[hB b2 (cArr x p5 c4)]))<|rX [(2,vS p4 ah c3),(7,vI first),(9,vP b2 0),(10,vI 0),(38,vS p3 a0.Subs c2),(39,vI (a0.Subs.length:Int)),(40,vI 0)] ?_;obtain⟨o0,ay,aB⟩:=zF N;refine zBe a0 ah x 0 0 o0 ay iR h3 h2 h4 (λ_ _ _ h=>hg _ _ _ h) (λ_ _ h=>ho _ _ h) ?_ ?_
  ·intro bq at01 heq aR;subst o0;have H:=H.trans aR;exact zU<|wJ [6] rfl<|yS<|zR<|zG<|zG<|hr _ _ _ _ (zB aB).symm H ⟨_,_,(.tmp rfl ResV.nil),zO,⟨_,rfl,rfl,rfl⟩⟩
  intro r0 I9 hs9 m9 aC le9 aD;subst aC;exact zR<|zG<|zR<|zG<|zG<|hr _ _ _ _ (zB aB).symm (H.trans le9) aD
 intro hc N;exact uQ<|wM zO<|xM<|hx _  (zB N).symm H
def pH(p:zV)(a0:zK)(ah:(List Int)):Option (Int):=do
 match<-vU p a0 ah 0 0 with
 | .ret r0=>pure r0
 | .done _=>
  pure (-1)
theorem zA5:∀p a0 ah r,pH p a0 ah=some r->∀{I:Imm}{p1 c p2 c1 p3 c2 p4 c3},(S4 I p1 p.Arrays c)->(S4 I p2 p.Parts c1)->(S4 I p3 a0.Subs c2)->(S4 I p4 ah c3)->RT 122 [vA (cProg p p1 c p2 c1),vA (cAccess a0 p3 c2),vS p4 ah c3] I [] (zW  r):=by
 intro p a0 ah r N I p1 c p2 c1 p3 c2 p4 c3 h h1 h2 h3;unfold pH at N;refine yM func122 λB=>yJ<|uA (cProg p p1 c p2 c1) ?_;intro b hb;refine uA (cAccess a0 p3 c2) ?_;intro b1 hb1;refine yO [] []<|wJ [7] rfl<|yE<|yJ<|yW [1] [15,16,17] rfl<|uP<|kU (xD [0] (aj:=[hB b1 (cAccess a0 p3 c2)]))<|rX [(2,vS p4 ah c3),(4,vP b1 0),(7,vI 0),(15,vS p1 p.Arrays c),(16,vI (p.Arrays.length:Int)),(17,vI 0)] ?_;obtain⟨aO,aJ,hMl1⟩:=zF N;refine zBf p a0 ah 0 0 aO aJ iR h3 h h2 (λ_ _ _ h=>h) (λ_ _ h=>h) ?_ ?_
 ·intro bG  heq1 bg;subst aO;refine zU<|wJ [6] rfl<|zH<|yF ?_;obtain rfl:=zB hMl1;exact xH
 intro r0 I9 hs9 m9 aC le9 aD;subst aC;refine zR<|zG ?_;obtain rfl:=zB hMl1;exact yV aD
def rJ(aL:List HA)(r:Int):KT:=λkk I' aj v=>
 ∃v0,aL=aj/\v=tupV [v0]/\v0=.int .i64 r
def yU(s:(List zK))(f0:(zK->Option Bool))(t8:Int):Option (Out Unit (Int)):=do
 if(decide (t8<(s.length:Int))) then
  let x<-idx s t8
  let y<-f0 x
  if y then
   pure (.ret t8)
  else
   yU s f0 (W (t8+1))
 else
  pure (.done ())
 partial_fixpoint
theorem jG(s:(List zK))(f0:(zK->Option Bool)):∀(t8:Int) (o:Out Unit (Int)),yU s f0 t8=some o->∀{B}{I0 I:Imm}{Q p c}{fv:Value}{aL:List HA},I0.le I->(S4 I p s c)->(FV1 Tryz.prog I aL fv f0)->NG Q->NO Q->(∀(I':Imm) ,o=(.done ())->I0.le I'->T 19 B Q (.exit 0) I' aL [])->(∀r I' aj m',o=(.ret r)->I0.le I'->RS Tryz.prog f156 B (rJ aL r) I' aj m'->T 19 B Q .ret I' aj m')->J Tryz.prog 19 B (nav (bodyOf f156) [1,0,1,0]) Q I aL [(0,vS p s c),(1,fv),(7,vI (s.length:Int)),(8,vI t8)]:=by
 refine yU.partial_correctness s f0 _ λaG ih t8 o N B I0 I Q p c fv aL H h h1 hg ho hx hr=>yK hg ho<|yG [9] rfl<|yE<|yD N ?_ ?_
 ·intro hc N;refine zT<|yE<|zZ<|yG [5] rfl<|wG<|yR 3 [] [11,12,13] rfl<|bE N λx hy N=>xL rfl rfl h hy ?_;intro ad aF av aq;obtain⟨p1,c1,rfl,h2⟩:=rD aq;refine yY 0 av (cAccess x p1 c1) (vA (cAccess x p1 c1)) rfl<|bE N λy aw N=>zJB rfl rfl h1 aw ⟨_,rfl,(nU ⟨_,rfl,h2⟩)⟩ (ce _).symm ?_;rintro I0 v01 le rfl;refine jK (aj:=aL) (ce _) ?_;have ⟨h,h1,H⟩:=m3 le h h1 H;refine zX rfl<|zH<|yD N ?_ ?_
  ·intro aE N;exact yG [4] rfl<|yS<|zR<|zG<|zG<|hr _ _ _ _ (zB N).symm H ⟨_,_,(.tmp rfl ResV.nil),(λ_ h=>h),⟨_,rfl,rfl,rfl⟩⟩
  intro aE N;exact zT<|zQ<|zH<|zE<|yW [] [8] rfl<|yL<|gJ<|ih (W (t8+1)) _ N H h h1 hg ho hx hr
 intro hc N;exact uQ<|xM<|hx _  (zB N).symm H
def wW(s:(List zK))(f0:(zK->Option Bool)):Option (Int):=do
 match<-yU s f0 0 with
 | .ret r0=>pure r0
 | .done _=>
  pure (-1)
theorem gF:∀s f0 r,wW s f0=some r->∀{I:Imm}{p c}{fv:Value}{aL:List HA},(S4 I p s c)->(FV1 Tryz.prog I aL fv f0)->RT 156 [vS p s c,fv] I aL (rJ aL r):=by
 intro s f0 r N I p c fv aL h h1;unfold wW at N;refine yM func156 λB=>xZ []<|yE<|yG [7,8] rfl<|uP<|rX [(0,vS p s c),(1,fv),(7,vI (s.length:Int)),(8,vI 0)] ?_;obtain⟨o0,ay,aB⟩:=zF N;refine jG s f0 0 o0 ay iR h h1 (λ_ _ _ h=>h) (λ_ _ h=>h) ?_ ?_
 ·intro aN  heq ai;subst o0;refine zU<|wJ [4] rfl<|zH<|yF ?_;obtain rfl:=zB aB;exact yV ⟨_,_,(.tmp rfl ResV.nil),(λ_ h=>h),⟨_,rfl,rfl,rfl⟩⟩
 intro r0 I9 hs9 m9 aC le9 aD;subst aC;refine zR<|zG ?_;obtain rfl:=zB aB;exact yV aD
def mY(aL:List HA)(r:Bool):KT:=λkk I' aj v=>
 ∃v0,aL=aj/\v=tupV [v0]/\v0=.bool r
def xS(s:(List zK))(f0:(zK->Option Bool)):Option (Bool):=do
 let y<-wW s f0
 pure (decide (y>=0))
theorem jH:∀s f0 r,xS s f0=some r->∀{I:Imm}{p c}{fv:Value}{aL:List HA},(S4 I p s c)->(FV1 Tryz.prog I aL fv f0)->RT 123 [vS p s c,fv] I aL (mY aL r):=by
 intro s f0 r N I p c fv aL h h1;unfold xS at N;refine yM func123 λB=>xZ []<|wG<|yR 2 [] [5,6] rfl<|bE N λy hy N=>uZ (hs1:=aL) (rest:=[]) rfl rfl rfl rfl (by kernel_rfl) rfl (ce _).symm (gF s f0 _ hy h h1) ?_;rintro I0 aK v2 k2 le - ⟨v0,rfl,rfl,rfl⟩ -;refine jK (aj:=aL) (ce _) ?_;refine yW [] [4] rfl<|zH<|yF ?_;obtain rfl:=zB N;exact yV ⟨_,_,(.tmp rfl ResV.nil),(λ_ h=>h),⟨_,rfl,rfl,rfl⟩⟩
end Go.LN
