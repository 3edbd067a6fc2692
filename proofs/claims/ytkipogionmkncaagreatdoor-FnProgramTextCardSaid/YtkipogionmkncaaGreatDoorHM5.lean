/- Helper of the proof (see the last text). -/
import Derived.Test.YtkipogionmkncaaGreatDoorHM4
set_option linter.unusedVariables false
set_option linter.unusedSimpArgs false
namespace Go.LN
open Go.Proofs Go.Proofs.Tryz
set_option maxRecDepth 20000
def oA(a0:zA)(x:Int):Option (Bool):=do
 let t3<-(do
  let y<-qU a0;if(!y) then pure true
  else
   let y1<-pT a0;pure (decide (y1>x))
    : Option Bool)
 pure (id t3)
theorem zEu:∀a0 x r,oA a0 x=some r->∀{I:Imm}{p c}{ad:Addr},(S4 I p a0.Coefs c)->(At I ad [vI x])->RT 113 [vA (cAff a0 p c),.pointer (some ad)] I [] (zU  r):=by
 intro a0 x r N I p c ad h av;unfold oA at N;refine yK func113 λB=>?_;have H:=iS I;refine yB<|sF (cAff a0 p c) ?_;intro b hb;refine wP [] []<|zK<|yA ?_;refine wZ N [] (λt3=>[(3,.bool t3)]) (λo0 aC=>?_) ?_
 ·have H:=iS I;obtain⟨y,hy,N⟩:=zB aC;cases hc:(!y) with
  | true=>
   have nw:=tI hc N;refine vK [.p (vA (cAff a0 p c)) [0],.q (.bool y),.q vY,.q vY,u9,u9,u9,u9,.p vY []] [[],[(0,F9)],[(1,F9)],[(2,F9)],[(3,F9)],[(3,F9),(4,F9)],[(3,F9)],[(3,F9),(5,F9),(6,F9)],[(3,F9),(7,F9)]] [hB b (cAff a0 p c)] [] [(8,F9)] (zX [0]) ?_ ?_
   ·refine Op<|Oq ?_<|Oq ?_<|Oq ?_<|O4<|Op<|On
    ·intro I1 hf ae;refine yW [4] rfl ?_;have H:=iS I1;have h:=h.mono ae;refine uU (mA a0 _ hy h) ?_;intro aT le;have H:=H.trans le;exact yQ H
    ·intro I1 hf ae;refine yW [5] rfl<|pQ 3 [(6,.bool (!y))] ?_;rw[hc];exact yQ iR
    intro I1 hf ae;exact I_h [(6,vY)]<|pQ 4 [(7,vY)]<|yQ iR
   intro aY ae;refine I_h [(12,vY)] ?_;have H:=H.trans ae;exact wP [] [(3,vY)]<|wI zN<|yP<|zQ (ct nw H)
  | false=>
   have lc:=uQ hc N;obtain⟨y1,ay,N⟩:=zB lc;refine vK [.p (vA (cAff a0 p c)) [0],.q (.bool y),.q vF,.q vF,.p (vA (cAff a0 p c)) [0],.q (vI y1),.q (vI x),.p (.bool (decide (y1>x))) [],.p (.bool (decide (y1>x))) []] [[],[(0,F9)],[(1,F9)],[(2,F9)],[(3,F9)],[(3,F9),(4,F9)],[(3,F9)],[(3,F9),(5,F9),(6,F9)],[(3,F9),(7,F9)]] [hB b (cAff a0 p c)] [] [(8,F9)] (zX [0]) ?_ ?_
   ·refine Op<|Oq ?_<|Oq ?_<|Oq ?_<|Op<|Oq ?_<|Oq ?_<|O2<|On
    ·intro I1 hf ae;refine yW [4] rfl ?_;have H:=iS I1;have h:=h.mono ae;refine uU (mA a0 _ hy h) ?_;intro aT le;have H:=H.trans le;exact yQ H
    ·intro I1 hf ae;refine yW [5] rfl<|pQ 3 [(6,.bool (!y))] ?_;rw[hc];exact yQ iR
    ·intro I1 hf ae;exact I_h [(6,vF)]<|pQ 4 [(7,vF)]<|yQ iR
    ·intro I1 hf ae;refine yW [7,8] rfl ?_;have H:=iS I1;have h:=h.mono ae;refine dU (dH a0 _ ay h) ?_;intro bP aJ;have H:=H.trans aJ;exact yQ H
    intro I1 hf ae;refine yW [1,7] rfl ?_;have av:=av.mono ae;exact wC 0 av [vI x] (vI x) rfl<|yQ iR
   intro cI aL;refine yW [12] rfl ?_;have H:=H.trans aL;exact yI [] [3] rfl<|wI zN<|yP<|zQ (ct N H)
 intro t3 I0 bb aO;refine zK<|yX ?_;obtain rfl:=zC aO;exact vG
def gA(ai:(List zA))(aa:Int):Option (Bool):=do
 let t4<-(do
  let y<-uF (ai.length:Int) 1 2;if y then
   let y1<-xY ai (λx0=>oA x0 aa);pure (!y1)
  else
   pure false
    : Option Bool)
 pure (id t4)
theorem zC1:∀ai aa r,gA ai aa=some r->∀{I:Imm}{p c},(S4 I p ai c)->RT 60 [vS p ai c,vI aa] I [] (zU  r):=by
 intro ai aa r N I p c h;unfold gA at N;refine yK func60 λB=>?_;have H:=iS I;refine yB<|sF [vI aa] ?_;intro b hb;refine wG 0 rfl ?_;intro I0 le cH;have av:At I0 ⟨b,0,none⟩ [vI aa]:=At.of_blk cH;have ⟨h,H⟩:=m2 le h H;refine wP [] []<|zK<|yA ?_;refine wZ N [] (λt4=>[(4,.bool t4)]) (λo0 aC=>?_) ?_
 ·have H:=iS I0;refine zM<|zZ 2 [] [6] rfl ?_;obtain⟨y,hy,N⟩:=zB aC;refine uU (tA (ai.length:Int) 1 2 _ hy ) ?_;intro aY ae;have ⟨h,av,H⟩:=m3 ae h av H;refine zZ 4 [] [8] rfl<|xW [8] N ?_ ?_
  ·intro hc N;refine zZ 6 [] [9,10] rfl ?_;have lJ:FV1 Tryz.prog aY [] (.func (.func 113) ⟨[]⟩ ⟨[vP b 0]⟩) (λx0=>oA x0 aa):=by
    refine FV1.intro ?_;intro I1 ae x0 r u0 hF k0;obtain⟨_,rfl,k0⟩:=k0;obtain⟨p1,c1,rfl,h2⟩:=yF k0;exact(zEu x0 aa r hF h2 (av.mono ae)).mono (by rintro k i hs u ⟨v0,rfl,rfl,h⟩;exact⟨rfl,h⟩)
   obtain⟨y1,ay,N⟩:=zB N;refine xG (oJ ai (λx0=>oA x0 aa) _ ay h lJ) ?_;rintro bP au v2 k2 aJ - ⟨ig,rfl,rfl,rfl⟩ -;have H:=H.trans aJ;exact yI [] [4] rfl<|yP<|zQ (ct N H)
  intro hc N;exact wP [] [(4,vF)]<|yP<|zQ (ct N H)
 intro t4 aT aL aO;refine zK<|yX ?_;obtain rfl:=zC aO;exact vG
def pU(nest:(List zD))(t7:Int):Option (Out Unit (Bool)):=do
 if(decide (t7<(nest.length:Int))) then
  let x<-idx nest t7;let vj<-(do
   let y<-gA x.Lo t7;if(!y) then pure true
   else
    let y1<-gA x.Hi t7;pure (!y1)
     : Option Bool)
  if vj then pure (.ret false)
  else pU nest (W (t7+1))
 else pure (.done ())
 partial_fixpoint
theorem zDh(nest:(List zD)):∀(t7:Int) (o:Out Unit (Bool)),pU nest t7=some o->∀{B}{I0 I:Imm}{Q p c},I0.le I->(S4 I p nest c)->NG Q->NO Q->(∀I',o=(.done ())->I0.le I'->T 28 B Q (.exit 0) I' [] [(0,vS p nest c)])->(∀r I' ah m',o=(.ret r)->I0.le I'->RS Tryz.prog f20 B (zU  r) I' ah m'->T 28 B Q .ret I' ah m')->J Tryz.prog 28 B (nav (bodyOf f20) [1,0,1,0]) Q I [] [(0,vS p nest c),(5,vS p nest c),(6,vI (nest.length:Int)),(7,vI t7)]:=by
 refine pU.partial_correctness nest _ λaQ ih t7 o N B I0 I Q p c H h hg ho hx hr=>xD hg ho<|yG [8] rfl<|zY<|yC N ?_ ?_
 ·intro hc N;refine zR<|zY<|yM<|yB<|zZ 1 [] [9] rfl<|bE N λx hy N=>wJ rfl rfl h hy ?_;intro ad aR av al;obtain⟨p1,c1,p2,c2,rfl,h1,h2⟩:=vZ al;refine wC 0 av (cLoop x p1 c1 p2 c2) (vA (cLoop x p1 c1 p2 c2)) rfl<|wT zTwo ?_;intro b hb;refine zZ 5 [] [3] rfl<|yZ 0 (cLoop x p1 c1 p2 c2) rfl<|zW rfl<|zK<|yA ?_;refine wZ N [] (λvj=>[(0,vS p nest c),(5,vS p nest c),(6,vI (nest.length:Int)),(7,vI t7),(23,.bool vj)]) (λo0 aC=>?_) ?_
  ·have H:=iS I;refine zM<|zZ 3 [0] [13,14] rfl ?_;obtain⟨y,ay,N⟩:=zB aC;refine uU (zC1 x.Lo t7 _ ay h1) ?_;intro aT le;have ⟨h2,H⟩:=m2 le h2 H;refine zZ 6 [] [17] rfl<|xW [17] N ?_ ?_
   ·intro aI N;exact wP [] [(23,vY)]<|wI zN<|yP<|zQ (ct N H)
   intro aI N;refine zZ 9 [0] [19,20] rfl<|bE N λy1 aK N=>uU (zC1 x.Hi t7 _ aK h2) ?_;intro aY ae;have H:=H.trans ae;exact yI [] [23] rfl<|wI zN<|yP<|zQ (ct N H)
  intro vj I0 aJ aO;have ⟨h,H⟩:=m2 aJ h H;refine zK<|yC aO ?_ ?_
  ·intro aU N;exact vO [(2,vF)]<|xH<|zS<|zG<|zG<|hr _ _ _ _ (zC N).symm H ⟨_,_,(resT rfl),zN,⟨_,rfl,rfl,rfl⟩⟩
  intro aU N;exact zR<|zO<|zK<|zM<|yI [] [7] rfl<|xB<|jH<|ih (W (t7+1)) _ N H h hg ho hx hr
 intro hc N;exact uR<|yP<|hx _  (zC N).symm H
def fK(nest:(List zD)):Option (Bool):=do
 match<-pU nest 0 with
 | .ret r0=>pure r0
 | .done _=>
  pure (decide ((nest.length:Int)<=4))
theorem zFm:∀nest r,fK nest=some r->∀{I:Imm}{p c},(S4 I p nest c)->RT 20 [vS p nest c] I [] (zU  r):=by
 intro nest r N I p c h;unfold fK at N;refine yK func20 λB=>vO []<|zY<|yG [5,6,7] rfl<|vC<|mM [(0,vS p nest c),(5,vS p nest c),(6,vI (nest.length:Int)),(7,vI 0)] ?_;obtain⟨aS,aE,aM⟩:=zB N;refine zDh nest 0 aS aE iR h nG nO ?_ ?_
 ·intro bP  ca aL;subst aS;refine zT<|uX [2] rfl<|zK<|yX ?_;obtain rfl:=zC aM;exact vG
 intro r0 I9 gm m9 aV bS aW;subst aV;refine zS<|zG ?_;obtain rfl:=zC aM;exact fO aW
def zBb(r:List Int):KT:=λkk I' ah v=>
 ∃a0 c0 s0,ah=[.osl (.slice a0 r.length c0) (Rp.sz Int) s0]/\v=tupV [(.slice a0 r.length c0)]/\RepL (Rp.rep I') (Rp.sz Int) s0 r
def pM(s:List Int):Option (List Int):=app 8 ([]:List Int) s
theorem fL:∀s r,pM s=some r->∀{I:Imm}{p c},SL I (vS p s c) s->RT 99 [vS p s c] I [] (zBb r):=by
 intro s r N I p c h;unfold pM at N;obtain⟨aR,k0,cE⟩:=h;refine yK func99 λB=>?_;cases p with
 | none=>
  have hs:s=[]:=by
   rcases k0 with⟨hv,rfl⟩|⟨b0,off,len,bi,cc,hv,k2⟩
   ·cases s with
    | nil=>rfl
    | cons _ _=>simp at hv
   simp at hv
  subst hs;obtain⟨_,rfl⟩:=zCO N;refine yG [0,2] rfl<|zY<|yB<|zZ 1 [] [3] rfl<|zRH true rfl rfl ?_ rfl;exact wP [] [(4,vY)]<|zK<|zDY rfl<|vO [(2,z0)]<|xH<|zG<|wI (kO (Rp.sz Int))<|zJG (resT rfl) (zV [0] rfl (by decide)) ⟨none,0,[],rfl,rfl,rfl⟩
 | some ad=>
  refine yG [0,2] rfl<|zY<|yB<|zZ 1 [] [3] rfl<|zRH false rfl rfl ?_ rfl;refine yI [] [0,4] rfl<|zK<|zBL rfl<|zR<|yV<|qN [] Int ?_;intro b2 fl;have h1:RL I [] ([]:List Int):=rfl;exact zZ 2 [] [6] rfl<|mD 3 1 0 rfl rfl rfl h1 (.inl k0) cE N λp1 c1 cs h2=>yI [] [2] rfl<|xH<|zJG (resT rfl) (zV [0] rfl (by decide)) ⟨_,_,_,rfl,rfl,h2⟩
def qE(a0:zA)(ag:(List Int))(sum:Int)(fi:Int):Option (Int):=do
 if(decide (fi<(ag.length:Int))) then
  let x<-idx ag fi;let x1<-idx a0.Coefs fi;qE a0 ag (W (sum+(W (x1*x)))) (W (fi+1))
 else pure (id sum)
 partial_fixpoint
theorem zCl(a0:zA)(ag:(List Int)):∀(sum:Int) (fi:Int) (o:Int),qE a0 ag sum fi=some o->∀{B}{I0 I:Imm}{Q p c p1 c1}{b},I0.le I->(S4 I p1 ag c1)->(S4 I p a0.Coefs c)->NG Q->NO Q->(∀I' uo,o=uo->I0.le I'->T 28 B Q (.exit 0) I' [] [(5,vI uo)])->J Tryz.prog 28 B (nav (bodyOf f208) [1,1,0,1,0]) Q I [hB b (cAff a0 p c)] [(2,vP b 0),(5,vI sum),(10,vS p1 ag c1),(11,vI (ag.length:Int)),(12,vI fi)]:=by
 refine qE.partial_correctness a0 ag _ λaQ ih sum fi o N B I0 I Q p c p1 c1 b H h1 h hg ho hx=>xD hg ho<|yG [13] rfl<|zY<|yC N ?_ ?_
 ·intro hc N;refine zR<|zY<|yM<|yB<|zZ 1 [] [14] rfl<|bE N λx hy N=>wJ rfl rfl h1 hy ?_;intro ad aR av al;obtain rfl:=al;refine wC 0 av [vI x] (vI x) rfl<|yI [] [6,7] rfl<|zK<|zM<|zZ 4 [0] [17,19,20] rfl<|bE N λx1 ay N=>wJ rfl rfl h ay ?_;intro cD bN aw ax;obtain rfl:=ax;exact wC 0 aw [vI x1] (vI x1) rfl<|yI [] [5] rfl<|zO<|zK<|zM<|yI [] [12] rfl<|xB<|jH<|ih (W (sum+(W (x1*x)))) (W (fi+1)) _ N H h1 h hg ho hx
 intro hc N;exact uR<|wI zN<|yP<|hx _ _ (zC N).symm H
def rO(a0:zA)(ag:(List Int)):Option (Int):=do
 let uo<-qE a0 ag a0.Const 0;pure (id uo)
theorem jF:∀a0 ag r,rO a0 ag=some r->∀{I:Imm}{p c p1 c1},(S4 I p a0.Coefs c)->(S4 I p1 ag c1)->RT 208 [vA (cAff a0 p c),vS p1 ag c1] I [] (xI  r):=by
 intro a0 ag r N I p c p1 c1 h h1;unfold rO at N;refine yK func208 λB=>yB<|sF (cAff a0 p c) ?_;intro b hb;refine wP [] []<|yV<|yI [0] [5] rfl<|zY<|yG [10,11,12] rfl<|vC<|mM [(2,vP b 0),(5,vI a0.Const),(10,vS p1 ag c1),(11,vI (ag.length:Int)),(12,vI 0)] ?_;obtain⟨o0,aC,aM⟩:=zB N;refine zCl a0 ag a0.Const 0 o0 aC iR h1 h nG nO ?_;intro I0 uo ec le;subst o0;refine zT<|uX [4] rfl<|zK<|yX ?_;obtain rfl:=zC aM;exact vG
def pV(l:zD)(ag:(List Int))(lo:Int)(iQ:Int):Option (Int):=do
 if(decide (iQ<(l.Lo.length:Int))) then
  let x2<-idx l.Lo iQ;let y2<-rO x2 ag;pV l ag (if y2>lo then y2 else lo) (W (iQ+1))
 else pure (id lo)
 partial_fixpoint
theorem zDi(l:zD)(ag:(List Int)):∀(lo:Int) (iQ:Int) (o:Int),pV l ag lo iQ=some o->∀{B}{I0 I:Imm}{Q}{y1:Int}{p c p1 c1 p2 c2}{b},I0.le I->(S4 I p2 ag c2)->(S4 I p l.Lo c)->(S4 I p1 l.Hi c1)->NG Q->NO Q->(∀I' lW,o=lW->I0.le I'->T 52 B Q (.exit 0) I' [hB b (cLoop l p c p1 c1)] [(1,vS p2 ag c2),(2,vP b 0),(6,vI lW),(7,vI y1)])->J Tryz.prog 52 B (nav (bodyOf f206) [1,1,0,1,0]) Q I [hB b (cLoop l p c p1 c1)] [(1,vS p2 ag c2),(2,vP b 0),(6,vI lo),(7,vI y1),(25,vS p l.Lo c),(26,vI (l.Lo.length:Int)),(27,vI iQ)]:=by
 refine pV.partial_correctness l ag _ λaQ ih lo iQ o N B I0 I Q y1 p c p1 c1 p2 c2 b H h2 h h1 hg ho hx=>xD hg ho<|yG [28] rfl<|zY<|yC N ?_ ?_
 ·intro hc N;refine zR<|zY<|yM<|yB<|bE N λx2 bL N=>wJ rfl rfl h bL ?_;intro jm gn cd bO;obtain⟨p5,c5,rfl,h7⟩:=yF bO;refine wC 0 cd (cAff x2 p5 c5) (vA (cAff x2 p5 c5)) rfl<|wT [z0,vI 0] ?_;intro b1 cp;refine yZ 0 (cAff x2 p5 c5) rfl<|zW rfl<|zK<|zM<|qO 3 [0] [(31,vI lo),(32,vA (cAff x2 p5 c5)),(33,vS p2 ag c2)]<|bE N λy2 bX N=>dU (jF x2 ag _ bX h7 h2) ?_;intro bP aL;have ⟨h2,h,h1,H⟩:=m4 aL h2 h h1 H;exact yI [] [6] rfl<|zO<|zK<|zM<|yI [] [27] rfl<|xB<|kT (zV [1] rfl (by decide))<|jH<|ih (if y2>lo then y2 else lo) (W (iQ+1)) _ N H h2 h h1 hg ho hx
 intro hc N;exact uR<|yP<|hx _ _ (zC N).symm H
def pW(l:zD)(ag:(List Int))(hi:Int)(nf:Int):Option (Int):=do
 if(decide (nf<(l.Hi.length:Int))) then
  let x3<-idx l.Hi nf;let y3<-rO x3 ag;pW l ag (if y3<hi then y3 else hi) (W (nf+1))
 else pure (id hi)
 partial_fixpoint
theorem zDj(l:zD)(ag:(List Int)):∀(hi:Int) (nf:Int) (o:Int),pW l ag hi nf=some o->∀{B}{I0 I:Imm}{Q}{lW:Int}{p1 c1 p2 c2},I0.le I->(S4 I p2 ag c2)->(S4 I p1 l.Hi c1)->NG Q->NO Q->(∀I' n7,o=n7->I0.le I'->T 52 B Q (.exit 2) I' [] [(6,vI lW),(7,vI n7)])->J Tryz.prog 52 B (nav (bodyOf f206) [1,1,1,0,1,0]) Q I [] [(1,vS p2 ag c2),(6,vI lW),(7,vI hi),(38,vS p1 l.Hi c1),(39,vI (l.Hi.length:Int)),(40,vI nf)]:=by
 refine pW.partial_correctness l ag _ λaQ ih hi nf o N B I0 I Q lW p1 c1 p2 c2 H h2 h1 hg ho hx=>xD hg ho<|yG [41] rfl<|zY<|yC N ?_ ?_
 ·intro aI N;refine zR<|zY<|yM<|yB<|bE N λx3 cx N=>wJ rfl rfl h1 cx ?_;intro ri kx ek cJ;obtain⟨p6,c6,rfl,h9⟩:=yF cJ;refine wC 0 ek (cAff x3 p6 c6) (vA (cAff x3 p6 c6)) rfl<|wT [z0,vI 0] ?_;intro b2 fl;refine yZ 0 (cAff x3 p6 c6) rfl<|zW rfl<|zK<|zM<|qO 3 [0] [(44,vI hi),(45,vA (cAff x3 p6 c6)),(46,vS p2 ag c2)]<|bE N λy3 cV N=>dU (jF x3 ag _ cV h9 h2) ?_;intro dw bI;have ⟨h2,h1,H⟩:=m3 bI h2 h1 H;exact yI [] [7] rfl<|zO<|zK<|zM<|yI [] [40] rfl<|xB<|kT zN<|jH<|ih (if y3<hi then y3 else hi) (W (nf+1)) _ N H h2 h1 hg ho hx
 intro aI N;exact uR<|yP<|hx _ _ (zC N).symm H
def fM(l:zD)(ag:(List Int)):Option (Int×Int):=do
 let x<-idx l.Lo 0;let y<-rO x ag;let x1<-idx l.Hi 0;let y1<-rO x1 ag;let lW<-pV l ag y 0;let n7<-pW l ag y1 0;pure (lW,n7)
theorem zFn:∀l ag r,fM l ag=some r->∀{I:Imm}{p c p1 c1 p2 c2},(S4 I p l.Lo c)->(S4 I p1 l.Hi c1)->(S4 I p2 ag c2)->RT 206 [vA (cLoop l p c p1 c1),vS p2 ag c2] I [] (zAR  r):=by
 intro l ag r N I p c p1 c1 p2 c2 h h1 h2;unfold fM at N;refine yK func206 λB=>?_;have H:=iS I;refine yB<|sF (cLoop l p c p1 c1) ?_;intro b hb;refine wP [] []<|zK<|yA ?_;obtain⟨x,hy,N⟩:=zB N;obtain⟨y,ay,N⟩:=zB N;obtain⟨x1,aK,N⟩:=zB N;obtain⟨y1,bc,N⟩:=zB N;refine vK [.p (vP b 0) [],.p (vS p l.Lo c) [0],.x (ePAff x),.x (eVAff x),.p (vS p2 ag c2) [],.q (vI y),.p (vP b 1) [],.p (vS p1 l.Hi c1) [0],.x (ePAff x1),.x (eVAff x1),.p (vS p2 ag c2) [],.q (vI y1),.p (vI y) []] [[],[(0,F9)],[(1,F9)],[(2,F9)],[],[(3,F9),(4,F9)],[],[(6,F9)],[(7,F9)],[(8,F9)],[],[(9,F9),(10,F9)],[(5,F9)]] [hB b (cLoop l p c p1 c1)] [] [(11,F9),(12,F9)] (zX [0]) ?_ ?_
 ·refine O2<|Ox ?_<|Ox ?_<|Op<|Oq ?_<|O2<|Ox ?_<|Ox ?_<|Op<|Oq ?_<|Op<|On
  ·intro I1 hf ae;refine yW [13] rfl ?_;have h:=h.mono ae;refine wJ rfl rfl h hy ?_;intro ad aR av al;obtain⟨p3,c3,rfl,h3⟩:=yF al;exact xC [] iR ⟨_,_,_,rfl,rfl,av,h3⟩
  ·rintro I1 hf ae _ _ ⟨ad,p3,c3,rfl,rfl,av,h3⟩;exact yW [14] rfl<|wC 0 av (cAff x p3 c3) (vA (cAff x p3 c3)) rfl<|xC [] iR ⟨_,_,rfl,rfl,h3⟩
  ·rintro I1 hf ae _ _ ⟨kn,l8,rfl,rfl,gt⟩;refine yW [15,16] rfl ?_;have H:=iS I1;have h2:=h2.mono ae;refine dU (jF x ag _ ay gt h2) ?_;intro I0 le;have H:=H.trans le;exact yQ H
  ·intro I1 hf ae;refine yW [19] rfl ?_;have h1:=h1.mono ae;refine wJ rfl rfl h1 aK ?_;intro cD bN aw ax;obtain⟨p4,c4,rfl,h5⟩:=yF ax;exact xC [] iR ⟨_,_,_,rfl,rfl,aw,h5⟩
  ·rintro I1 hf ae _ _ ⟨cD,p4,c4,rfl,rfl,aw,h5⟩;exact yW [20] rfl<|wC 0 aw (cAff x1 p4 c4) (vA (cAff x1 p4 c4)) rfl<|xC [] iR ⟨_,_,rfl,rfl,h5⟩
  rintro I1 hf ae _ _ ⟨iJ,iF,rfl,rfl,gu⟩;refine yW [21,22] rfl ?_;have H:=iS I1;have h2:=h2.mono ae;refine dU (jF x1 ag _ bc gu h2) ?_;intro aT ae;have H:=H.trans ae;exact yQ H
 intro aY aJ;refine yW [1,2,6,23] rfl ?_;have ⟨h2,h,h1⟩:=m3 aJ h2 h h1;refine yI [] [7] rfl<|zY<|yB<|yI [0] [25,26,27] rfl<|vC<|mM [(1,vS p2 ag c2),(2,vP b 0),(6,vI y),(7,vI y1),(25,vS p l.Lo c),(26,vI (l.Lo.length:Int)),(27,vI 0)] ?_;obtain⟨o0,aC,aM⟩:=zB N;refine zDi l ag y 0 o0 aC iR h2 h h1 nG nO ?_;intro cI lW ec bb;subst o0;have ⟨h2,h,h1⟩:=m3 bb h2 h h1;refine zT<|zY<|yB<|yI [0] [38,39,40] rfl<|vC<|kT (zX [] (ah:=[]))<|mM [(1,vS p2 ag c2),(6,vI lW),(7,vI y1),(38,vS p1 l.Hi c1),(39,vI (l.Hi.length:Int)),(40,vI 0)] ?_;obtain⟨aS,aE,dc⟩:=zB aM;refine zDj l ag y1 0 aS aE iR h2 h1 nG nO ?_;intro gk n7 ca bJ;subst aS;refine zT<|uX [4,5] rfl<|zK<|yX ?_;exact wD dc (resU rfl rfl) zN ⟨_,_,rfl,rfl,rfl,rfl⟩
def fZ(b0:Nat)(r:Bool×qK):KT:=λkk I' ah v=>
 ∃v0 x0_0 y0_0 x0_2 y0_2 z0_2,ah=[.blk b0 ⟨[.slice x0_0 r.2.nest.length y0_0,.int .i64 r.2.steps,.slice x0_2 r.2.out.length y0_2]⟩,.osl (.slice x0_2 r.2.out.length y0_2) (Rp.sz (List Int)) z0_2]/\v=tupV [v0]/\v0=.bool r.1/\SL I' (.slice x0_0 r.2.nest.length y0_0) r.2.nest/\RepL (Rp.rep I') (Rp.sz (List Int)) z0_2 r.2.out
mutual
def qC(w0:qK)(ag:(List Int)):Option (Bool×qK):=do
 if((ag.length:Int)==(w0.nest.length:Int)) then
  let y<-pM ag;let l<-app 24 w0.out ([y]:List (List Int));pure ((decide ((l.length:Int)<=120)),(qK.mk w0.nest w0.steps l))
 else
  let x<-idx w0.nest (ag.length:Int);let (y2,y3)<-fM x ag
  match<-pO (same ag) (same y3) (same y2) w0.nest w0.steps w0.out with
  | .ret r0=>pure r0
  | .done (mi,lP,aq)=>
   pure (true,(qK.mk mi lP aq))
 partial_fixpoint
def pO(ag:(List Int))(y3:Int)(n0:Int)(nest:List zD)(steps:Int)(out:List (List Int)):Option (Out (List zD×Int×List (List Int)) (Bool×qK)):=do
 if(decide (n0<y3)) then
  let (t74,kr,jd,aD)<-(do
   if(decide ((W ((W (steps+1))+1))>1200)) then pure (true,nest,(W (steps+1)),out)
   else
    let y4<-pM ag;let l1<-app 8 y4 ([n0]:List Int);let (y6,y7)<-qC (qK.mk nest (W (steps+1)) out) (same l1);pure ((!y6),y7.nest,y7.steps,y7.out)
     : Option (Bool×List zD×Int×List (List Int)))
  if t74 then pure (.ret (false,(qK.mk kr jd aD)))
  else pO (same ag) (same y3) (W (n0+1)) (same kr) (same jd) (same aD)
 else pure (.done (nest,steps,out))
 partial_fixpoint
end
theorem zDO:(∀(w0:qK) (ag:(List Int)) r,qC w0 ag=some r->∀{I:Imm}{r0}{p c p1 c1 cs p2 c2},(S4 I p w0.nest c)->(RL I cs w0.out)->(S4 I p2 ag c2)->RT 157 [vP r0 0,vS p2 ag c2] I [hB r0 [vS p w0.nest c,vI w0.steps,vS p1 w0.out c1],hO (List Int) (vS p1 w0.out c1) cs] (fZ r0 r))/\(∀(ag:(List Int)) (y3:Int) (n0:Int) (nest:List zD) (steps:Int) (out:List (List Int)) o,pO ag y3 n0 nest steps out=some o->∀{B}{I0 I:Imm}{Q}  {r0}{p2 c2 p7 c7 p8 c8 bf},I0.le I->(S4 I p2 ag c2)->(S4 I p7 nest c7)->(RL I bf out)->NG Q->NO Q->(∀I' mi lP aq p9 c9 bH bG cC,o=(.done (mi,lP,aq))->I0.le I'->(S4 I' p9 mi c9)->(RL I' cC aq)->T 75 B Q (.exit 0) I' [hB r0 [vS p9 mi c9,vI lP,vS bH aq bG],hO (List Int) (vS bH aq bG) cC] [])->(∀r I' ah m',o=(.ret r)->I0.le I'->RS Tryz.prog f157 B (fZ r0 r) I' ah m'->T 75 B Q .ret I' ah m')->J Tryz.prog 75 B (nav (bodyOf f157) [1,1,1,0,1,0]) Q I [hB r0 [vS p7 nest c7,vI steps,vS p8 out c8],hO (List Int) (vS p8 out c8) bf] [(0,vP r0 0),(1,vS p2 ag c2),(6,vI y3),(7,vI n0)]):=by
 refine qC.mutual_partial_correctness _ _ ?_ ?_
 ·intro gr ih_impl_walking_walk_l1 w0 ag r N I r0 p c p1 c1 cs p2 c2 h h1 h2;refine yK func157 λB=>?_;have H:=iS I;refine vO []<|zY<|yB<|yI [0] [15] rfl<|zK<|yC N ?_ ?_
  ·intro hc N;refine yA ?_;obtain⟨y,hy,N⟩:=zB N;obtain⟨l,ay,N⟩:=zB N;refine vK [.p (vP r0 0) [],.p (vP r0 0) [],.p (vP r0 0) [],.p (vP r0 2) [],.p (vS p1 w0.out c1) [0],.p (vS p2 ag c2) [],.x (λI' v hx=>∃p3 c3 aA,v=vS p3 y c3/\hx=[hO Int (vS p3 y c3) aA]/\(RL I' aA y)),.x (λI' v hx=>∃b,v=vS (some ⟨b,0,none⟩) ([y]:List (List Int)) 1/\hx=[]/\(SL I' (vS (some ⟨b,0,none⟩) ([y]:List (List Int)) 1) ([y]:List (List Int)))),.x (λI' v hx=>∃p4 c4 bv,v=vS p4 l c4/\hx=[hO (List Int) (vS p4 l c4) bv]/\(RL I' bv l))] [[],[],[(1,F9)],[(2,F9)],[(3,F9)],[],[(5,F9)],[(6,true)],[(4,F9),(7,F9),(12,true)]] [hB r0 [vS p w0.nest c,vI w0.steps,vS p1 w0.out c1]] [[hO (List Int) (vS p1 w0.out c1) cs]] [(0,F9),(8,true)] (zX [0,1]) ?_ ?_
   ·refine O4<|O2<|Ox ?_<|Ox ?_<|Ox ?_<|On
    ·intro I1 hf ae;refine yW [21] rfl ?_;have H:=iS I1;have h2:=h2.mono ae;refine xG (fL ag _ hy h2) ?_;rintro I0 au v2 k2 le - ⟨p3,c3,aA,rfl,rfl,h3⟩ -;have H:=H.trans le;exact xC [hO Int (vS p3 y c3) aA] H ⟨_,_,_,rfl,rfl,h3⟩
    ·rintro I1 hf ae _ _ ⟨p3,c3,aA,rfl,rfl,h3⟩;refine yW [22] rfl ?_;have H:=iS I1;refine wG 0 rfl ?_;intro aT ae cH;have h4:=SL.of_frozen cH ae h3;have H:=H.trans ae;refine jW (rc y ⟨_,rfl,h4⟩ rN) ?_;intro b aY aJ h6;have H:=H.trans aJ;exact xC [] H ⟨_,rfl,rfl,h6⟩
    rintro I1 hf ae _ _ ⟨rfl,rfl⟩ _ _ ⟨b,rfl,rfl,h6⟩ _ _ rfl;refine yW [20,23] rfl ?_;have h1:=iM ae h1;obtain⟨aR,k0,cE⟩:=h6;have h6:SL I1 (vS (some ⟨b,0,none⟩) ([y]:List (List Int)) 1) ([y]:List (List Int)):=⟨_,k0,cE⟩;exact mD 48 1 0 rfl rfl rfl h1 (.inl k0) cE ay λp4 c4 bv h7=>uT (ah:=(hO (List Int) (vS p4 l c4) bv::hB r0 [vS p w0.nest c,vI w0.steps,vS p1 w0.out c1]::hf)) rfl<|xC [hO (List Int) (vS p4 l c4) bv] iR ⟨_,_,_,rfl,rfl,h7⟩
   rintro bP aL _ _ ⟨rfl,rfl⟩ _ _ ⟨p4,c4,bv,rfl,rfl,h7⟩;refine yW [0,16,24] rfl ?_;have h:=h.mono aL;refine zZ 11 [] [26] rfl<|yZ 1 [vS p w0.nest c,vI w0.steps,vS p4 l c4] rfl<|zW rfl<|yV<|yI [1] [4] rfl<|xH<|zG ?_;exact wD N (resT rfl) (zV [1,0] rfl (by decide)) ⟨_,_,_,_,_,_,rfl,rfl,rfl,h,h7⟩
  intro hc N;refine zR<|yV<|zZ 6 [0] [37,39] rfl<|bE N λx aK N=>wJ rfl rfl h aK ?_;intro ad bN av al;obtain⟨p5,c5,p6,c6,rfl,h8,h9⟩:=vZ al;refine wC 0 av (cLoop x p5 c5 p6 c6) (vA (cLoop x p5 c5 p6 c6)) rfl<|zZ 9 [] [42] rfl ?_;obtain⟨⟨y2,y3⟩,bc,N⟩:=zB N;refine xG (zFn x ag _ bc h8 h9 h2) ?_;rintro cI au v2 k2 bb - ⟨ig,ng,rfl,rfl,rfl,rfl⟩ -;have ⟨h2,h,h1⟩:=m3 bb h2 h h1;refine yI [] [5,6] rfl<|zY<|yG [7] rfl<|vC<|mM [(0,vP r0 0),(1,vS p2 ag c2),(6,vI y3),(7,vI y2)] ?_;obtain⟨aS,aE,aM⟩:=zB N;refine ih_impl_walking_walk_l1 ag y3 y2 w0.nest w0.steps w0.out aS aE iR h2 h h1 nG nO ?_ ?_
  ·intro jx mi lP aq p9 c9 bH bG cC ca bS bV co;subst aS;refine zT<|zFT [(4,vY)]<|zK<|yX ?_;exact wD aM (resT rfl) (zV [0,1] rfl (by decide)) ⟨_,_,_,_,_,_,rfl,rfl,rfl,bV,co⟩
  intro r0 I9 gm m9 aV bS aW;subst aV;refine zS<|zG ?_;obtain rfl:=zC aM;exact fO aW
 intro oq gr iB ih_impl_walking_walk_l1 ag y3 n0 nest steps out o N B I0 I Q r0 p2 c2 p7 c7 p8 c8 bf H h2 bW cy hg ho hx hr;refine xD hg ho<|yA<|yG [49] rfl<|zK<|yC N ?_ ?_
 ·intro aI N;refine zR<|zY<|yM<|yB<|zZ 7 [0] [56,58] rfl<|yZ 0 [vS p7 nest c7,vI (W (steps+1)),vS p8 out c8] rfl<|zW rfl<|zK<|yA ?_;obtain⟨o0,aC,aO⟩:=zB N;refine rR (λI' ah m'=>∃(t74:Bool) (kr:List zD) (jd:Int) (aD:List (List Int)) (bd:Option Addr) (bj:Nat) (ce:Option Addr) (bx:Nat) (cP:List Value),o0=(t74,kr,jd,aD)/\I.le I'/\(S4 I' bd kr bj)/\(RL I' cP aD)/\ah=[hB r0 [vS bd kr bj,vI jd,vS ce aD bx],hO (List Int) (vS ce aD bx) cP]/\m'=[(0,vP r0 0),(1,vS p2 ag c2),(6,vI y3),(7,vI n0),(74,.bool t74)]) ?_ ?_
  ·have H:=iS I;refine zM<|zZ 7 [0] [65] rfl<|xW [65] aC ?_ ?_
   ·intro aU N;exact wP [] [(74,vY)]<|yP<|zQ ⟨_,_,_,_,_,_,_,_,_,(zC N).symm,H,bW,cy,rfl,rfl⟩
   intro aU N;refine zZ 9 [] [66,67] rfl<|bE N λy4 bL N=>xG (fL ag _ bL h2) ?_;rintro gk au v2 k2 bI - ⟨br,bM,gb,rfl,rfl,bY⟩ -;have ⟨bW,cy,H⟩:=m3 bI bW cy H;refine zZ 11 [] [69] rfl<|qN [vI n0] Int ?_;intro b1 cp;have d9:RL gk [vI n0] ([n0]:List Int):=rI [n0];obtain⟨l1,bX,N⟩:=zB N;refine mD 3 1 1 rfl rfl rfl bY (.inr ⟨0,rfl⟩) d9 bX λde cW d5 dm=>qM (zX [1,2,3] (ah:=[hO Int (vS de l1 cW) d5,hB r0 [vS p7 nest c7,vI (W (steps+1)),vS p8 out c8],hO (List Int) (vS p8 out c8) bf]))<|wG 0 rfl ?_;intro ij bJ cF;have jz:=SL.of_frozen cF bJ dm;have ⟨bW,cy,H⟩:=m3 bJ bW cy H;obtain⟨⟨y6,y7⟩,cx,N⟩:=zB N;refine tU (iB (qK.mk nest (W (steps+1)) out) l1 _ cx bW cy jz) rfl ?_;rintro iE au v2 k2 bZ - ⟨ee,du,im,iP,fb,iG,rfl,rfl,rfl,jg,iu⟩ -;have H:=H.trans bZ;exact yI [] [74] rfl<|yP<|zQ ⟨_,_,_,_,_,_,_,_,_,(zC N).symm,H,jg,iu,rfl,rfl⟩
  rintro dw au m2 ⟨t74,kr,jd,aD,bd,bj,ce,bx,cP,ec,dt,ck,cm,rfl,rfl⟩;subst o0;have ⟨h2,H⟩:=m2 dt h2 H;refine zK<|yC aO ?_ ?_
  ·intro bU N;exact vO [(4,vF)]<|xH<|zS<|zG<|zG<|hr _ _ _ _ (zC N).symm H ⟨_,_,(resT rfl),(zV [0,1] rfl (by decide)),⟨_,_,_,_,_,_,rfl,rfl,rfl,ck,cm⟩⟩
  intro bU N;exact zR<|zO<|zK<|zM<|yI [] [7] rfl<|xB<|jH<|ih_impl_walking_walk_l1 ag y3 (W (n0+1)) kr jd aD _ N H h2 ck cm hg ho hx hr
 intro aI N;exact uR<|yP<|hx _ _ _ _ _ _ _ _ _ (zC N).symm H bW cy
theorem zDk:∀w0 ag r,qC w0 ag=some r->∀{I:Imm}{r0}{p c p1 c1 cs p2 c2},(S4 I p w0.nest c)->(RL I cs w0.out)->(S4 I p2 ag c2)->RT 157 [vP r0 0,vS p2 ag c2] I [hB r0 [vS p w0.nest c,vI w0.steps,vS p1 w0.out c1],hO (List Int) (vS p1 w0.out c1) cs] (fZ r0 r):=zDO.1
def gL(nest:(List zD)):Option ((List (List Int))×Bool):=do
 let y<-fK nest;if(!y) then pure (([]:List (List Int)),F9)
 else
  let (y2,y3)<-qC (qK.mk nest 0 ([]:List (List Int))) ([]:List Int);if(!y2) then pure (([]:List (List Int)),F9)
  else pure (y3.out,true)
theorem zEv:∀nest r,gL nest=some r->∀{I:Imm}{p c},(S4 I p nest c)->RT 94 [vS p nest c] I [] (zAl  r):=by
 intro nest r N I p c h;unfold gL at N;refine yK func94 λB=>vO []<|zY<|yB<|zZ 1 [] [5] rfl<|bE N λy hy N=>uU (zFm nest _ hy h) ?_;intro I0 le;have h:=h.mono le;refine yI [] [7] rfl<|zK<|yC N ?_ ?_
 ·intro hc N;refine yG [2,3] rfl<|xH<|zG ?_;exact wD N (resU rfl rfl) zN ⟨_,_,rfl,rfl,(SL.nil _),rfl⟩
 intro hc N;refine zR<|yV<|zZ 2 [] [9] rfl<|sF [vS p nest c,vI 0,z0] ?_;intro b hb;refine yI [] [4] rfl<|zY<|yB<|zZ 1 [] [11] rfl<|zRS (List Int) λh2=>?_;refine qM (zX [1,0] (ah:=[hB b [vS p nest c,vI 0,vS none ([]:List (List Int)) 0],hO (List Int) (vS none ([]:List (List Int)) 0) []])) ?_;obtain⟨⟨y2,y3⟩,ay,N⟩:=zB N;refine tU (zDk (qK.mk nest 0 ([]:List (List Int))) ([]:List Int) _ ay h h2 (SL.nil _)) rfl ?_;rintro aT au v2 k2 ae - ⟨gx,p1,c1,p2,c2,cs,rfl,rfl,rfl,h4,h5⟩ -;refine yI [] [13] rfl<|zK<|yC N ?_ ?_
 ·intro aI N;refine yG [2,3] rfl<|xH<|zG ?_;exact wD N (resU rfl rfl) zN ⟨_,_,rfl,rfl,(SL.nil _),rfl⟩
 intro aI N;refine zR<|yV<|yI [0] [2,3] rfl<|xH<|xT 1 rfl ?_;intro aY aJ cH;have h6:=SL.of_frozen cH aJ h5;exact wD N (resU rfl rfl) zN ⟨_,_,rfl,rfl,h6,rfl⟩
def mI(aH:List HA)(r:Int):KT:=λkk I' ah v=>
 ∃v0,aH=ah/\v=tupV [v0]/\v0=.int .i64 r
def xU(s:(List zI))(f0:(zI->Option Bool))(t8:Int):Option (Out Unit (Int)):=do
 if(decide (t8<(s.length:Int))) then
  let x<-idx s t8;let y<-f0 x;if y then pure (.ret t8)
  else xU s f0 (W (t8+1))
 else pure (.done ())
 partial_fixpoint
theorem eA(s:(List zI))(f0:(zI->Option Bool)):∀(t8:Int) (o:Out Unit (Int)),xU s f0 t8=some o->∀{B}{I0 I:Imm}{Q p c}{fv:Value}{aH:List HA},I0.le I->(S4 I p s c)->(FV1 Tryz.prog I aH fv f0)->NG Q->NO Q->(∀I',o=(.done ())->I0.le I'->T 19 B Q (.exit 0) I' aH [])->(∀r I' ah m',o=(.ret r)->I0.le I'->RS Tryz.prog f158 B (mI aH r) I' ah m'->T 19 B Q .ret I' ah m')->J Tryz.prog 19 B (nav (bodyOf f158) [1,0,1,0]) Q I aH [(0,vS p s c),(1,fv),(7,vI (s.length:Int)),(8,vI t8)]:=by
 refine xU.partial_correctness s f0 _ λaQ ih t8 o N B I0 I Q p c fv aH H h h1 hg ho hx hr=>xD hg ho<|yG [9] rfl<|zY<|yC N ?_ ?_
 ·intro hc N;refine zR<|zY<|yM<|yG [5] rfl<|yV<|zZ 3 [] [11,12,13] rfl<|bE N λx hy N=>wJ rfl rfl h hy ?_;intro ad aR av al;obtain⟨p1,c1,p2,c2,p3,c3,p4,c4,rfl,h2,h3,h4,h5⟩:=rJ al;refine wC 0 av (cStmt x p1 c1 p2 c2 p3 c3 p4 c4) (vA (cStmt x p1 c1 p2 c2 p3 c3 p4 c4)) rfl<|bE N λy ay N=>zMf rfl rfl h1 ay ⟨_,rfl,(wO ⟨_,_,_,_,rfl,h2,h3,h4,h5⟩)⟩ (yk _).symm ?_;rintro I0 ee le rfl;refine uT (ah:=aH) (yk _) ?_;have ⟨h,h1,H⟩:=m3 le h h1 H;refine zW rfl<|zK<|yC N ?_ ?_
  ·intro aI N;exact yG [4] rfl<|xH<|zS<|zG<|zG<|hr _ _ _ _ (zC N).symm H ⟨_,_,(resT rfl),(λ_ h=>h),⟨_,rfl,rfl,rfl⟩⟩
  intro aI N;exact zR<|zO<|zK<|zM<|yI [] [8] rfl<|xB<|jH<|ih (W (t8+1)) _ N H h h1 hg ho hx hr
 intro hc N;exact uR<|yP<|hx _  (zC N).symm H
def tO(s:(List zI))(f0:(zI->Option Bool)):Option (Int):=do
 match<-xU s f0 0 with
 | .ret r0=>pure r0
 | .done _=>
  pure (-1)
theorem eZ:∀s f0 r,tO s f0=some r->∀{I:Imm}{p c}{fv:Value}{aH:List HA},(S4 I p s c)->(FV1 Tryz.prog I aH fv f0)->RT 158 [vS p s c,fv] I aH (mI aH r):=by
 intro s f0 r N I p c fv aH h h1;unfold tO at N;refine yK func158 λB=>vO []<|zY<|yG [7,8] rfl<|vC<|mM [(0,vS p s c),(1,fv),(7,vI (s.length:Int)),(8,vI 0)] ?_;obtain⟨o0,aC,aM⟩:=zB N;refine eA s f0 0 o0 aC iR h h1 nG nO ?_ ?_
 ·intro aT  ec ae;subst o0;refine zT<|uX [4] rfl<|zK<|yX ?_;exact wD aM (resT rfl) (λ_ h=>h) ⟨_,rfl,rfl,rfl⟩
 intro r0 I9 gm m9 aV bS aW;subst aV;refine zS<|zG ?_;obtain rfl:=zC aM;exact fO aW
def fN(aH:List HA)(r:Bool):KT:=λkk I' ah v=>
 ∃v0,aH=ah/\v=tupV [v0]/\v0=.bool r
def vD(s:(List zI))(f0:(zI->Option Bool)):Option (Bool):=do
 let y<-tO s f0;pure (decide (y>=0))
theorem eC:∀s f0 r,vD s f0=some r->∀{I:Imm}{p c}{fv:Value}{aH:List HA},(S4 I p s c)->(FV1 Tryz.prog I aH fv f0)->RT 95 [vS p s c,fv] I aH (fN aH r):=by
 intro s f0 r N I p c fv aH h h1;unfold vD at N;refine yK func95 λB=>vO []<|yV<|zZ 2 [] [5,6] rfl<|bE N λy hy N=>zGQ (hs1:=aH) (rest:=[]) rfl rfl rfl rfl (by kernel_rfl) rfl (yk _).symm (eZ s f0 _ hy h h1) ?_;rintro I0 au v2 k2 le - ⟨v0,rfl,rfl,rfl⟩ -;refine uT (ah:=aH) (yk _) ?_;refine yI [] [4] rfl<|zK<|yX ?_;exact wD N (resT rfl) (λ_ h=>h) ⟨_,rfl,rfl,rfl⟩
def nU(s:zA)(x:Int):Option (Bool):=do
 let t3<-(do
  let y<-qU s;if(!y) then pure true
  else
   let y1<-pT s;pure (decide (y1>x))
    : Option Bool)
 pure (id t3)
theorem zEw:∀s x r,nU s x=some r->∀{I:Imm}{p c}{ad:Addr},(S4 I p s.Coefs c)->(At I ad [vI x])->RT 136 [vA (cAff s p c),.pointer (some ad)] I [] (zU  r):=by
 intro s x r N I p c ad h av;unfold nU at N;refine yK func136 λB=>?_;have H:=iS I;refine yB<|sF (cAff s p c) ?_;intro b hb;refine wP [] []<|zK<|yA ?_;refine wZ N [] (λt3=>[(3,.bool t3)]) (λo0 aC=>?_) ?_
 ·have H:=iS I;obtain⟨y,hy,N⟩:=zB aC;cases hc:(!y) with
  | true=>
   have nw:=tI hc N;refine vK [.p (vA (cAff s p c)) [0],.q (.bool y),.q vY,.q vY,u9,u9,u9,u9,.p vY []] [[],[(0,F9)],[(1,F9)],[(2,F9)],[(3,F9)],[(3,F9),(4,F9)],[(3,F9)],[(3,F9),(5,F9),(6,F9)],[(3,F9),(7,F9)]] [hB b (cAff s p c)] [] [(8,F9)] (zX [0]) ?_ ?_
   ·refine Op<|Oq ?_<|Oq ?_<|Oq ?_<|O4<|Op<|On
    ·intro I1 hf ae;refine yW [4] rfl ?_;have H:=iS I1;have h:=h.mono ae;refine uU (mA s _ hy h) ?_;intro aT le;have H:=H.trans le;exact yQ H
    ·intro I1 hf ae;refine yW [5] rfl<|pQ 3 [(6,.bool (!y))] ?_;rw[hc];exact yQ iR
    intro I1 hf ae;exact I_h [(6,vY)]<|pQ 4 [(7,vY)]<|yQ iR
   intro aY ae;refine I_h [(12,vY)] ?_;have H:=H.trans ae;exact wP [] [(3,vY)]<|wI zN<|yP<|zQ (ct nw H)
  | false=>
   have lc:=uQ hc N;obtain⟨y1,ay,N⟩:=zB lc;refine vK [.p (vA (cAff s p c)) [0],.q (.bool y),.q vF,.q vF,.p (vA (cAff s p c)) [0],.q (vI y1),.q (vI x),.p (.bool (decide (y1>x))) [],.p (.bool (decide (y1>x))) []] [[],[(0,F9)],[(1,F9)],[(2,F9)],[(3,F9)],[(3,F9),(4,F9)],[(3,F9)],[(3,F9),(5,F9),(6,F9)],[(3,F9),(7,F9)]] [hB b (cAff s p c)] [] [(8,F9)] (zX [0]) ?_ ?_
   ·refine Op<|Oq ?_<|Oq ?_<|Oq ?_<|Op<|Oq ?_<|Oq ?_<|O2<|On
    ·intro I1 hf ae;refine yW [4] rfl ?_;have H:=iS I1;have h:=h.mono ae;refine uU (mA s _ hy h) ?_;intro aT le;have H:=H.trans le;exact yQ H
    ·intro I1 hf ae;refine yW [5] rfl<|pQ 3 [(6,.bool (!y))] ?_;rw[hc];exact yQ iR
    ·intro I1 hf ae;exact I_h [(6,vF)]<|pQ 4 [(7,vF)]<|yQ iR
    ·intro I1 hf ae;refine yW [7,8] rfl ?_;have H:=iS I1;have h:=h.mono ae;refine dU (dH s _ ay h) ?_;intro bP aJ;have H:=H.trans aJ;exact yQ H
    intro I1 hf ae;refine yW [1,7] rfl ?_;have av:=av.mono ae;exact wC 0 av [vI x] (vI x) rfl<|yQ iR
   intro cI aL;refine yW [12] rfl ?_;have H:=H.trans aL;exact yI [] [3] rfl<|wI zN<|yP<|zQ (ct N H)
 intro t3 I0 bb aO;refine zK<|yX ?_;obtain rfl:=zC aO;exact vG
def gB(a0:zJ)(aa:Int):Option (Bool):=do
 let t4<-(do
  let y<-fJ a0.Array;if y then
   let y1<-uF (a0.Subs.length:Int) 1 2;if y1 then
    let y2<-xY a0.Subs (λx0=>nU x0 aa);pure (!y2)
   else pure false
  else
   pure false
    : Option Bool)
 pure (id t4)
theorem zC2:∀a0 aa r,gB a0 aa=some r->∀{I:Imm}{p c},(S4 I p a0.Subs c)->RT 82 [vA (cAccess a0 p c),vI aa] I [] (zU  r):=by
 intro a0 aa r N I p c h;unfold gB at N;refine yK func82 λB=>?_;have H:=iS I;refine yB<|sF (cAccess a0 p c) ?_;intro b hb;refine sF [vI aa] ?_;intro b1 cp;refine wG 0 rfl ?_;intro I0 le cH;have av:At I0 ⟨b1,0,none⟩ [vI aa]:=At.of_blk cH;have ⟨h,H⟩:=m2 le h H;refine wP [] []<|zK<|yA ?_;refine wZ N [] (λt4=>[(4,.bool t4)]) (λo0 aC=>?_) ?_
 ·have H:=iS I0;refine zM<|zZ 2 [0] [6] rfl ?_;obtain⟨y,hy,N⟩:=zB aC;refine uU (jD a0.Array _ hy ) ?_;intro aY ae;have ⟨av,h,H⟩:=m3 ae av h H;refine zZ 4 [] [8] rfl<|xW [8] N ?_ ?_
  ·intro hc N;refine zZ 7 [0] [11] rfl<|bE N λy1 ay N=>uU (tA (a0.Subs.length:Int) 1 2 _ ay ) ?_;intro bP aJ;have ⟨av,h,H⟩:=m3 aJ av h H;refine zZ 10 [] [14] rfl<|xW [14] N ?_ ?_
   ·intro aI N;refine zZ 13 [0] [16,17] rfl ?_;have lJ:FV1 Tryz.prog bP [] (.func (.func 136) ⟨[]⟩ ⟨[vP b1 0]⟩) (λx0=>nU x0 aa):=by
     refine FV1.intro ?_;intro I1 ae x0 r u0 hF k0;obtain⟨_,rfl,k0⟩:=k0;obtain⟨p1,c1,rfl,h3⟩:=yF k0;exact(zEw x0 aa r hF h3 (av.mono ae)).mono (by rintro k i hs u ⟨v0,rfl,rfl,h⟩;exact⟨rfl,h⟩)
    obtain⟨y2,aK,N⟩:=zB N;refine xG (oJ a0.Subs (λx0=>nU x0 aa) _ aK h lJ) ?_;rintro cI au v2 k2 aL - ⟨ng,rfl,rfl,rfl⟩ -;have H:=H.trans aL;exact yI [] [4] rfl<|wI zN<|yP<|zQ (ct N H)
   intro aI N;exact wP [] [(4,vF)]<|wI zN<|yP<|zQ (ct N H)
  intro hc N;exact wP [] [(4,vF)]<|wI zN<|yP<|zQ (ct N H)
 intro t4 aT bb aO;refine zK<|yX ?_;obtain rfl:=zC aO;exact vG
def gD(a0:zA):Option (Bool):=do
 let t2<-(do
  if((a0.Coefs.length:Int)==0) then pure (a0.Const==0)
  else
   pure false
    : Option Bool)
 pure (id t2)
theorem zC3:∀a0 r,gD a0=some r->∀{I:Imm}{p c},(S4 I p a0.Coefs c)->RT 137 [vA (cAff a0 p c)] I [] (zU  r):=by
 intro a0 r N I p c h;unfold gD at N;refine yK func137 λB=>?_;have H:=iS I;refine yB<|sF (cAff a0 p c) ?_;intro b hb;refine wP [] []<|zK<|yA ?_;refine wZ N [] (λt2=>[(2,.bool t2)]) (λo0 aC=>?_) ?_
 ·have H:=iS I;refine zM<|zZ 5 [0] [7] rfl<|xW [7] aC ?_ ?_
  ·intro hc N;exact yI [0] [2] rfl<|wI zN<|yP<|zQ (ct N H)
  intro hc N;exact wP [] [(2,vF)]<|wI zN<|yP<|zQ (ct N H)
 intro t2 I0 le aO;refine zK<|yX ?_;obtain rfl:=zC aO;exact vG
def mJ(a0:zJ):Option (Bool):=do
 let t2<-(do
  if(a0.Array.l==([]:List UInt8)) then pure ((a0.Subs.length:Int)==0)
  else
   pure false
    : Option Bool)
 pure (id t2)
theorem dL:∀a0 r,mJ a0=some r->∀{I:Imm}{p c},(S4 I p a0.Subs c)->RT 138 [vA (cAccess a0 p c)] I [] (zU  r):=by
 intro a0 r N I p c h;unfold mJ at N;refine yK func138 λB=>?_;have H:=iS I;refine yB<|sF (cAccess a0 p c) ?_;intro b hb;refine wP [] []<|zK<|yA ?_;refine wZ N [] (λt2=>[(2,.bool t2)]) (λo0 aC=>?_) ?_
 ·have H:=iS I;refine zM<|zZ 4 [0] [6] rfl<|xW [6] aC ?_ ?_
  ·intro hc N;exact yI [0] [2] rfl<|wI zN<|yP<|zQ (ct N H)
  intro hc N;exact wP [] [(2,vF)]<|wI zN<|yP<|zQ (ct N H)
 intro t2 I0 le aO;refine zK<|yX ?_;obtain rfl:=zC aO;exact vG
def zAo(cv:Int):Option (Bool):=do
 let y<-uF cv 4 6;pure (id y)
theorem zKI:∀cv r,zAo cv=some r->∀{I:Imm} ,RT 139 [vI cv] I [] (zU  r):=by
 intro cv r N I;unfold zAo at N;refine yK func139 λB=>vO []<|yV<|zZ 1 [] [3] rfl<|bE N λy hy N=>uU (tA cv 4 6 _ hy ) λI0 le=>wP [] [(2,.bool y)]<|zK<|yX ?_;obtain rfl:=zC N;exact vG
def zEx(b0:Nat)(r:Bool×Int):KT:=λkk I' ah v=>
 ∃v0 k0,ah=[.blk b0 ⟨k0⟩]/\v=tupV [v0]/\v0=.bool r.1/\Rp.rep I' k0 r.2
def sO(e0:zF)(aa:Int)(cf:Int)(count:Int):Option (Bool×Int):=do
 let t21<-(do
  if(decide ((W (count+1))>12)) then pure true
  else
   pure (decide (cf>5))
    : Option Bool)
 if t21 then pure (false,(W (count+1)))
 else
  let t51<-(do
   if(e0.Kind != 1) then
    if(e0.Num != 0) then pure true
    else
     if(e0.Kind != 2) then
      let y<-gD e0.Index;if(!y) then pure true
      else
       if(e0.Kind != 3) then
        let y1<-mJ e0.Read;pure (!y1)
       else pure false
     else
      if(e0.Kind != 3) then
       let y2<-mJ e0.Read;pure (!y2)
      else pure false
   else
    if(e0.Kind != 2) then
     let y3<-gD e0.Index;if(!y3) then pure true
     else
      if(e0.Kind != 3) then
       let y4<-mJ e0.Read;pure (!y4)
      else pure false
    else
     if(e0.Kind != 3) then
      let y5<-mJ e0.Read;pure (!y5)
     else pure false
     : Option Bool)
  if t51 then pure (false,(W (count+1)))
  else
   if(e0.Kind==1) then
    let t8<-(do
     let y6<-uF e0.Num 0 99;if y6 then pure ((e0.Kids.length:Int)==0)
     else
      pure false
       : Option Bool)
    pure (t8,(W (count+1)))
   else
    if(e0.Kind==2) then
     let wt<-(do
      let y7<-qU e0.Index;if y7 then
       let y8<-pT e0.Index;if(decide (y8<=aa)) then pure ((e0.Kids.length:Int)==0)
       else pure false
      else
       pure false
        : Option Bool)
     pure (wt,(W (count+1)))
    else
     if(e0.Kind==3) then
      let ur<-(do
       let y9<-gB e0.Read aa;if y9 then pure ((e0.Kids.length:Int)==0)
       else
        pure false
         : Option Bool)
      pure (ur,(W (count+1)))
     else
      let t99<-(do
       let y10<-zAo e0.Kind;if(!y10) then pure true
       else
        pure ((e0.Kids.length:Int) != 2)
         : Option Bool)
      if t99 then pure (false,(W (count+1)))
      else
       let (t83,x)<-(do
        let x1<-idx e0.Kids 0;let (ef,y13)<-sO (same x1) (same aa) (W (cf+1)) (W (count+1));if ef then
         let x2<-idx e0.Kids 1;let (je,ii)<-sO (same x2) (same aa) (W (cf+1)) (same y13);pure (je,ii)
        else
         pure (false,y13)
          : Option (Bool×Int))
       pure (t83,x)
 partial_fixpoint
theorem zGh:∀e0 aa cf count r,sO e0 aa cf count=some r->∀{I:Imm}{p c p1 c1 p2 c2}{r0},(S4 I p e0.Index.Coefs c)->(S4 I p1 e0.Read.Subs c1)->(S4 I p2 e0.Kids c2)->RT 83 [vA (cExpr e0 p c p1 c1 p2 c2),vI aa,vI cf,vP r0 0] I [hB r0 [vI count]] (zEx r0 r):=by
 refine sO.partial_correctness _ λF_impl_exprScan ih_impl_exprScan e0 aa cf count r N I p c p1 c1 p2 c2 r0 h h1 h2=>yK func83 λB=>?_;have H:=iS I;refine yB<|sF (cExpr e0 p c p1 c1 p2 c2) ?_;intro b hb;refine wP [] []<|yV<|zZ 5 [1] [12,13] rfl<|yZ 1 [vI (W (count+1))] rfl<|zW rfl<|zY<|yA ?_;refine wZ N [hB b (cExpr e0 p c p1 c1 p2 c2),hB r0 [vI (W (count+1))]] (λt21=>[(1,vI aa),(2,vI cf),(3,vP r0 0),(4,vP b 0),(21,.bool t21)]) (λo0 aC=>?_) ?_
 ·have H:=iS I;refine zM<|zZ 5 [1] [18] rfl<|xW [18] aC ?_ ?_
  ·intro hc N;exact wP [] [(21,vY)]<|yP<|zQ (ct N H)
  intro hc N;exact yI [] [21] rfl<|yP<|zQ (ct N H)
 intro t21 I0 le aO;have ⟨h,h1,h2,H⟩:=m4 le h h1 h2 H;refine zK<|yC aO ?_ ?_
 ·intro aI N;refine vO [(8,vF)]<|xH<|zG ?_;exact wD N (resT rfl) (zV [1] rfl (by decide)) ⟨_,_,rfl,rfl,rfl,rfl⟩
 intro aI N;refine zR<|zY<|yA ?_;refine wZ N [hB b (cExpr e0 p c p1 c1 p2 c2),hB r0 [vI (W (count+1))]] (λt51=>[(1,vI aa),(2,vI cf),(3,vP r0 0),(4,vP b 0),(51,.bool t51)]) (λaS aE=>?_) ?_
 ·have H:=iS I0;refine zM<|zZ 4 [0] [25] rfl<|xW [25] aE ?_ ?_
  ·intro aU N;refine zZ 9 [0] [30] rfl<|xW [30] N ?_ ?_
   ·intro bU N;exact wP [] [(51,vY)]<|yP<|zQ (ct N H)
   intro bU N;refine zZ 13 [0] [34] rfl<|xW [34] N ?_ ?_
   ·intro cO N;refine qO 15 [0] [(36,vA (cAff e0.Index p c))]<|bE N λy hy N=>uU (zC3 e0.Index _ hy h) ?_;intro aY ae;have ⟨h1,H⟩:=m2 ae h1 H;refine zZ 20 [] [41] rfl<|xW [41] N ?_ ?_
    ·intro ft N;exact wP [] [(51,vY)]<|yP<|zQ (ct N H)
    intro ft N;refine zZ 24 [0] [45] rfl<|xW [45] N ?_ ?_
    ·intro iU N;refine qO 26 [0] [(47,vA (cAccess e0.Read p1 c1))]<|bE N λy1 ay N=>uU (dL e0.Read _ ay h1) ?_;intro bP aJ;have H:=H.trans aJ;exact yI [] [51] rfl<|yP<|zQ (ct N H)
    intro iU N;exact wP [] [(51,vF)]<|yP<|zQ (ct N H)
   intro cO N;refine zZ 24 [0] [41,45] rfl<|xW [45] N ?_ ?_
   ·intro kq N;refine qO 26 [0] [(47,vA (cAccess e0.Read p1 c1))]<|bE N λy2 aK N=>uU (dL e0.Read _ aK h1) ?_;intro cI aL;have H:=H.trans aL;exact yI [] [51] rfl<|yP<|zQ (ct N H)
   intro kq N;exact wP [] [(51,vF)]<|yP<|zQ (ct N H)
  intro aU N;refine zZ 13 [0] [30,34] rfl<|xW [34] N ?_ ?_
  ·intro lH N;refine qO 15 [0] [(36,vA (cAff e0.Index p c))]<|bE N λy3 bc N=>uU (zC3 e0.Index _ bc h) ?_;intro dw bb;have ⟨h1,H⟩:=m2 bb h1 H;refine zZ 20 [] [41] rfl<|xW [41] N ?_ ?_
   ·intro l9 N;exact wP [] [(51,vY)]<|yP<|zQ (ct N H)
   intro l9 N;refine zZ 24 [0] [45] rfl<|xW [45] N ?_ ?_
   ·intro ja N;refine qO 26 [0] [(47,vA (cAccess e0.Read p1 c1))]<|bE N λy4 bL N=>uU (dL e0.Read _ bL h1) ?_;intro gk bI;have H:=H.trans bI;exact yI [] [51] rfl<|yP<|zQ (ct N H)
   intro ja N;exact wP [] [(51,vF)]<|yP<|zQ (ct N H)
  intro lH N;refine zZ 24 [0] [41,45] rfl<|xW [45] N ?_ ?_
  ·intro kc N;refine qO 26 [0] [(47,vA (cAccess e0.Read p1 c1))]<|bE N λy5 bX N=>uU (dL e0.Read _ bX h1) ?_;intro ij bJ;have H:=H.trans bJ;exact yI [] [51] rfl<|yP<|zQ (ct N H)
  intro kc N;exact wP [] [(51,vF)]<|yP<|zQ (ct N H)
 intro t51 aT bZ bK;have ⟨h,h1,h2,H⟩:=m4 bZ h h1 h2 H;refine zK<|yC bK ?_ ?_
 ·intro nz N;refine vO [(8,vF)]<|xH<|zG ?_;exact wD N (resT rfl) (zV [1] rfl (by decide)) ⟨_,_,rfl,rfl,rfl,rfl⟩
 intro nz N;refine zR<|zY<|yM<|yB<|yI [0] [52] rfl<|zK<|yC N ?_ ?_
 ·intro tu N;refine yA ?_;refine wZ N [hB r0 [vI (W (count+1))]] (λt8=>[(8,.bool t8)]) (λdd bh=>?_) ?_
  ·have H:=iS aT;refine zM<|zZ 2 [0] [57] rfl ?_;obtain⟨y6,cx,N⟩:=zB bh;refine uU (tA e0.Num 0 99 _ cx ) ?_;intro jx dt;have H:=H.trans dt;refine zZ 4 [] [59] rfl<|xW [59] N ?_ ?_
   ·intro hc14 N;exact yI [0] [8] rfl<|wI (zV [1] rfl (by decide))<|yP<|zQ (ct N H)
   intro hc14 N;exact wP [] [(8,vF)]<|wI (zV [1] rfl (by decide))<|yP<|zQ (ct N H)
  intro t8 iE bS d6;refine xH<|zS<|zG ?_;exact wD d6 (resT rfl) (zV [0] rfl (by decide)) ⟨_,_,rfl,rfl,rfl,rfl⟩
 intro tu N;refine yB<|yI [0] [65] rfl<|zK<|yC N ?_ ?_
 ·intro hc15 N;refine yA ?_;refine wZ N [hB r0 [vI (W (count+1))]] (λwt=>[(8,.bool wt)]) (λfw cu=>?_) ?_
  ·have H:=iS aT;refine zM<|qO 2 [0] [(70,vA (cAff e0.Index p c))] ?_;obtain⟨y7,cV,N⟩:=zB cu;refine uU (mA e0.Index _ cV h) ?_;intro hJ cb;have ⟨h,H⟩:=m2 cb h H;refine zZ 4 [] [72] rfl<|xW [72] N ?_ ?_
   ·intro hc16 N;refine qO 6 [0] [(74,vA (cAff e0.Index p c))]<|bE N λy8 eo N=>dU (dH e0.Index _ eo h) ?_;intro fq cA;have H:=H.trans cA;refine zZ 11 [] [79] rfl<|xW [79] N ?_ ?_
    ·intro hc17 N;exact yI [0] [8] rfl<|wI (zV [1] rfl (by decide))<|yP<|zQ (ct N H)
    intro hc17 N;exact wP [] [(8,vF)]<|wI (zV [1] rfl (by decide))<|yP<|zQ (ct N H)
   intro hc16 N;exact wP [] [(8,vF)]<|wI (zV [1] rfl (by decide))<|yP<|zQ (ct N H)
  intro wt eg d7 ff;refine xH<|zS<|zG ?_;exact wD ff (resT rfl) (zV [0] rfl (by decide)) ⟨_,_,rfl,rfl,rfl,rfl⟩
 intro hc15 N;refine yB<|yI [0] [85] rfl<|zK<|yC N ?_ ?_
 ·intro hc18 N;refine yA ?_;refine wZ N [hB r0 [vI (W (count+1))]] (λur=>[(8,.bool ur)]) (λlN gv=>?_) ?_
  ·have H:=iS aT;refine zM<|qO 3 [0] [(90,vA (cAccess e0.Read p1 c1)),(91,vI aa)] ?_;obtain⟨y9,gi,N⟩:=zB gv;refine uU (zC2 e0.Read aa _ gi h1) ?_;intro mm fu;have H:=H.trans fu;refine zZ 5 [] [93] rfl<|xW [93] N ?_ ?_
   ·intro hc19 N;exact yI [0] [8] rfl<|wI (zV [1] rfl (by decide))<|yP<|zQ (ct N H)
   intro hc19 N;exact wP [] [(8,vF)]<|wI (zV [1] rfl (by decide))<|yP<|zQ (ct N H)
  intro ur ku ib ia;refine xH<|zS<|zG ?_;exact wD ia (resT rfl) (zV [0] rfl (by decide)) ⟨_,_,rfl,rfl,rfl,rfl⟩
 intro hc18 N;refine yA ?_;refine wZ N [hB b (cExpr e0 p c p1 c1 p2 c2),hB r0 [vI (W (count+1))]] (λt99=>[(1,vI aa),(2,vI cf),(3,vP r0 0),(4,vP b 0),(99,.bool t99)]) (λvf kf=>?_) ?_
 ·have H:=iS aT;refine zM<|zZ 2 [0] [101] rfl ?_;obtain⟨y10,cU,N⟩:=zB kf;refine uU (zKI e0.Kind _ cU ) ?_;intro lZ ic;have H:=H.trans ic;refine zZ 5 [] [104] rfl<|xW [104] N ?_ ?_
  ·intro hc20 N;exact wP [] [(99,vY)]<|yP<|zQ (ct N H)
  intro hc20 N;exact yI [0] [99] rfl<|yP<|zQ (ct N H)
 intro t99 kv gw pg;have ⟨h2,H⟩:=m2 gw h2 H;refine zK<|yC pg ?_ ?_
 ·intro hc21 N;refine vO [(8,vF)]<|xH<|zS<|zG ?_;exact wD N (resT rfl) (zV [1] rfl (by decide)) ⟨_,_,rfl,rfl,rfl,rfl⟩
 intro hc21 N;refine zR<|zO<|zK<|yA ?_;obtain⟨o06,ud,ru⟩:=zB N;refine rR (λI' ah m'=>∃(t83:Bool) (x:Int),o06=(t83,x)/\kv.le I'/\ah=[hB r0 [vI x]]/\m'=[(8,.bool t83)]) ?_ ?_
 ·have H:=iS kv;refine zM<|zZ 2 [0] [111] rfl ?_;obtain⟨x1,dr,N⟩:=zB ud;refine wJ rfl rfl h2 dr ?_;intro ad aR av al;obtain⟨p3,c3,p4,c4,p5,c5,rfl,bV,co,ck⟩:=vJ al;refine wC 0 av (cExpr x1 p3 c3 p4 c4 p5 c5) (vA (cExpr x1 p3 c3 p4 c4 p5 c5)) rfl<|zZ 8 [] [114,116,117] rfl<|qM (zX [1,0] (ah:=[hB r0 [vI (W (count+1))],hB b (cExpr e0 p c p1 c1 p2 c2)])) ?_;obtain⟨⟨ef,y13⟩,en,N⟩:=zB N;refine tU (ih_impl_exprScan x1 aa (W (cf+1)) (W (count+1)) _ en bV co ck) rfl ?_;rintro mq au v2 k2 iC - ⟨om,kk,rfl,rfl,rfl,bY⟩ -;have ⟨h2,H⟩:=m2 iC h2 H;obtain rfl:=bY;refine zZ 10 [] [119] rfl<|xW [119] N ?_ ?_
  ·intro hc22 N;refine zZ 12 [1] [121] rfl<|bE N λx2 iA N=>wJ rfl rfl h2 iA ?_;intro cD bN aw ax;obtain⟨p6,c6,p7,c7,p8,c8,rfl,d9,dm,jz⟩:=vJ ax;refine wC 0 aw (cExpr x2 p6 c6 p7 c7 p8 c8) (vA (cExpr x2 p6 c6 p7 c7 p8 c8)) rfl<|zZ 18 [] [124,126,127] rfl ?_;obtain⟨⟨je,ii⟩,jt,N⟩:=zB N;refine tU (ih_impl_exprScan x2 aa (W (cf+1)) y13 _ jt d9 dm jz) rfl ?_;rintro o8 au v2 k2 iO - ⟨v018,oe,rfl,rfl,rfl,jg⟩ -;have H:=H.trans iO;obtain rfl:=jg;exact yI [] [8] rfl<|wI (zV [0] rfl (by decide))<|yP<|zQ ⟨_,_,(zC N).symm,H,rfl,rfl⟩
  intro hc22 N;exact wP [] [(8,vF)]<|wI (zV [0] rfl (by decide))<|yP<|zQ ⟨_,_,(zC N).symm,H,rfl,rfl⟩
 rintro mn au m2 ⟨t83,x,heq6,jc,rfl,rfl⟩;subst o06;refine zK<|yX ?_;exact wD ru (resT rfl) (zV [0] rfl (by decide)) ⟨_,_,rfl,rfl,rfl,rfl⟩
def jO(s:zI)(aa:Int):Option (Bool):=do
 let t4<-(do
  let y<-uF aa 0 4;if y then
   let y1<-gB s.Write aa;if y1 then
    let (y3,y4)<-sO s.Value aa 1 0;pure (id y3)
   else pure false
  else
   pure false
    : Option Bool)
 pure (id t4)
theorem zBr:∀s aa r,jO s aa=some r->∀{I:Imm}{p c p1 c1 p2 c2 p3 c3},(S4 I p s.Write.Subs c)->(S4 I p1 s.Value.Index.Coefs c1)->(S4 I p2 s.Value.Read.Subs c2)->(S4 I p3 s.Value.Kids c3)->RT 32 [vA (cStmt s p c p1 c1 p2 c2 p3 c3),vI aa] I [] (zU  r):=by
 intro s aa r N I p c p1 c1 p2 c2 p3 c3 h h1 h2 h3;unfold jO at N;refine yK func32 λB=>?_;have H:=iS I;refine yB<|sF (cStmt s p c p1 c1 p2 c2 p3 c3) ?_;intro b hb;refine wP [] []<|yV<|wT [vI 0] ?_;intro b1 cp;refine yZ 0 [vI 0] rfl<|zW rfl<|zK<|yA ?_;refine wZ N [] (λt4=>[(4,.bool t4)]) (λo0 aC=>?_) ?_
 ·have H:=iS I;refine zM<|zZ 1 [] [6] rfl ?_;obtain⟨y,hy,N⟩:=zB aC;refine uU (tA aa 0 4 _ hy ) ?_;intro aT le;have ⟨h,h1,h2,h3,H⟩:=m5 le h h1 h2 h3 H;refine zZ 3 [] [8] rfl<|xW [8] N ?_ ?_
  ·intro hc N;refine qO 6 [1] [(10,vA (cAccess s.Write p c)),(11,vI aa)]<|bE N λy1 ay N=>uU (zC2 s.Write aa _ ay h) ?_;intro aY ae;have ⟨h1,h2,h3,H⟩:=m4 ae h1 h2 h3 H;refine zZ 9 [] [14] rfl<|xW [14] N ?_ ?_
   ·intro aI N;refine qO 12 [1] [(16,vA (cExpr s.Value p1 c1 p2 c2 p3 c3)),(17,vI aa)] ?_;obtain⟨⟨y3,y4⟩,aK,N⟩:=zB N;refine tU (zGh s.Value aa 1 0 _ aK h1 h2 h3) rfl ?_;rintro bP au v2 k2 aJ - ⟨ig,kk,rfl,rfl,rfl,h7⟩ -;have H:=H.trans aJ;obtain rfl:=h7;exact yI [] [4] rfl<|wI zN<|yP<|zQ (ct N H)
   intro aI N;exact wP [] [(4,vF)]<|wI zN<|yP<|zQ (ct N H)
  intro hc N;exact wP [] [(4,vF)]<|wI zN<|yP<|zQ (ct N H)
 intro t4 I0 aL aO;refine zK<|yX ?_;obtain rfl:=zC aO;exact vG
def tB(s:zI)(x:zL):Option (Bool):=do
 let y<-jO s (x.Nest.length:Int);pure (!y)
theorem zBN:∀s x r,tB s x=some r->∀{I:Imm}{p c p1 c1 p2 c2 p3 c3}{ad:Addr}{p4 c4 p5 c5},(S4 I p s.Write.Subs c)->(S4 I p1 s.Value.Index.Coefs c1)->(S4 I p2 s.Value.Read.Subs c2)->(S4 I p3 s.Value.Kids c3)->(S4 I p4 x.Nest c4)->(S4 I p5 x.Body c5)->(At I ad (cPart x p4 c4 p5 c5))->RT 96 [vA (cStmt s p c p1 c1 p2 c2 p3 c3),.pointer (some ad)] I [] (zU  r):=by
 intro s x r N I p c p1 c1 p2 c2 p3 c3 ad p4 c4 p5 c5 h h1 h2 h3 h4 h5 av;unfold tB at N;refine yK func96 λB=>yB<|sF (cStmt s p c p1 c1 p2 c2 p3 c3) ?_;intro b hb;refine wP [] []<|yV<|qO 2 [0] [(4,vA (cStmt s p c p1 c1 p2 c2 p3 c3)),(5,.pointer (some ad))]<|wC 0 av [vS p4 x.Nest c4] (vS p4 x.Nest c4) rfl<|zZ 4 [] [7] rfl<|bE N λy hy N=>uU (zBr s (x.Nest.length:Int) _ hy h h1 h2 h3) λI0 le=>wP [] [(3,.bool (!y))]<|zK<|yX ?_;obtain rfl:=zC N;exact vG
def kD(n0:Int):Option (Bool):=do
 let y<-uF n0 (-9999) 9999;pure (!y)
theorem zFo:∀n0 r,kD n0=some r->∀{I:Imm} ,RT 159 [vI n0] I [] (zU  r):=by
 intro n0 r N I;unfold kD at N;refine yK func159 λB=>vO []<|yV<|zZ 1 [] [3] rfl<|bE N λy hy N=>uU (tA n0 (-9999) 9999 _ hy ) λI0 le=>wP [] [(2,.bool (!y))]<|zK<|yX ?_;obtain rfl:=zC N;exact vG
def dI(ag:(List Int)):Option (Bool):=do
 let t2<-(do
  if(decide ((ag.length:Int)<=4)) then
   let y<-wF ag kD;pure (!y)
  else
   pure false
    : Option Bool)
 pure (id t2)
theorem zH0:∀ag r,dI ag=some r->∀{I:Imm}{p c},(S4 I p ag c)->RT 97 [vS p ag c] I [] (zU  r):=by
 intro ag r N I p c h;unfold dI at N;refine yK func97 λB=>?_;have H:=iS I;refine vO []<|zK<|yA ?_;refine wZ N [] (λt2=>[(2,.bool t2)]) (λo0 aC=>?_) ?_
 ·have H:=iS I;refine zM<|zZ 4 [] [6] rfl<|xW [6] aC ?_ ?_
  ·intro hc N;refine zZ 5 [] [7] rfl ?_;have lJ:FV1 Tryz.prog I [] (.func (.func 159) ⟨[]⟩ ⟨[]⟩) kD:=by
    refine FV1.intro ?_;intro I1 ae x0 r u0 hF k0;obtain rfl:=k0;exact(zFo x0 r hF ).mono (by rintro k i hs u ⟨v0,rfl,rfl,h⟩;exact⟨rfl,h⟩)
   obtain⟨y,hy,N⟩:=zB N;refine xG (pL ag kD _ hy h lJ) ?_;rintro aT au v2 k2 le - ⟨v0,rfl,rfl,rfl⟩ -;have H:=H.trans le;exact yI [] [2] rfl<|yP<|zQ (ct N H)
  intro hc N;exact wP [] [(2,vF)]<|yP<|zQ (ct N H)
 intro t2 I0 ae aO;refine zK<|yX ?_;obtain rfl:=zC aO;exact vG
def qV(a0:zE)(n0:Int)(t9:Int):Option (Int):=do
 if(decide (t9<(a0.Dims.length:Int))) then
  let x<-idx a0.Dims t9;qV a0 (W (n0*x)) (W (t9+1))
 else pure (id n0)
 partial_fixpoint
theorem zDP(a0:zE):∀(n0:Int) (t9:Int) (o:Int),qV a0 n0 t9=some o->∀{B}{I0 I:Imm}{Q p c},I0.le I->(S4 I p a0.Dims c)->NG Q->NO Q->(∀I' ci,o=ci->I0.le I'->T 18 B Q (.exit 0) I' [] [(3,vI ci)])->J Tryz.prog 18 B (nav (bodyOf f207) [1,1,0,1,0]) Q I [] [(3,vI n0),(7,vS p a0.Dims c),(8,vI (a0.Dims.length:Int)),(9,vI t9)]:=by
 refine qV.partial_correctness a0 _ λaQ ih n0 t9 o N B I0 I Q p c H h hg ho hx=>xD hg ho<|yG [10] rfl<|zY<|yC N ?_ ?_
 ·intro hc N;refine zR<|zY<|yM<|yB<|bE N λx hy N=>wJ rfl rfl h hy ?_;intro ad aR av al;obtain rfl:=al;exact wC 0 av [vI x] (vI x) rfl<|yI [] [5] rfl<|zK<|zM<|yI [] [3] rfl<|zO<|zK<|zM<|yI [] [9] rfl<|xB<|jH<|ih (W (n0*x)) (W (t9+1)) _ N H h hg ho hx
 intro hc N;exact uR<|yP<|hx _ _ (zC N).symm H
def gN(a0:zE):Option (Int):=do
 let ci<-qV a0 1 0;pure (id ci)
theorem zEy:∀a0 r,gN a0=some r->∀{I:Imm}{p c},(S4 I p a0.Dims c)->RT 207 [vA (cArr a0 p c)] I [] (xI  r):=by
 intro a0 r N I p c h;unfold gN at N;refine yK func207 λB=>yB<|sF (cArr a0 p c) ?_;intro b hb;refine wP [] []<|uX [3] rfl<|zY<|yB<|yI [0] [7,8,9] rfl<|vC<|kT (zX [] (ah:=[]))<|mM [(3,vI 1),(7,vS p a0.Dims c),(8,vI (a0.Dims.length:Int)),(9,vI 0)] ?_;obtain⟨o0,aC,aM⟩:=zB N;refine zDP a0 1 0 o0 aC iR h nG nO ?_;intro I0 ci ec le;subst o0;refine zT<|uX [2] rfl<|zK<|yX ?_;obtain rfl:=zC aM;exact vG
def rP(a0:zJ)(ag:(List Int))(x:zE)(bm:Int)(nf:Int):Option (Out Int (Int)):=do
 if(decide (nf<(a0.Subs.length:Int))) then
  let x1<-idx a0.Subs nf;let y1<-rO x1 ag;let x2<-idx x.Dims nf;let y2<-uF y1 0 (W (x2 - 1));if(!y2) then pure (.ret (-1))
  else
   let x3<-idx x.Dims nf;rP a0 ag x (W ((W (bm*x3))+y1)) (W (nf+1))
 else pure (.done bm)
 partial_fixpoint
theorem zC4(a0:zJ)(ag:(List Int))(x:zE):∀(bm:Int) (nf:Int) (o:Out Int (Int)),rP a0 ag x bm nf=some o->∀{B}{I0 I:Imm}{Q}{first:Int}{p3 c2 p4 c3 p5 c4}{b2},I0.le I->(S4 I p4 ag c3)->(S4 I p3 a0.Subs c2)->(S4 I p5 x.Dims c4)->NG Q->NO Q->(∀I' ir,o=(.done ir)->I0.le I'->T 71 B Q (.exit 2) I' [] [(7,vI first),(10,vI ir)])->(∀r I' ah m',o=(.ret r)->I0.le I'->RS Tryz.prog f160 B (xI  r) I' ah m'->T 71 B Q .ret I' ah m')->J Tryz.prog 71 B (nav (bodyOf f160) [1,1,0,1,0,0,1,1,0,0,1,1,1,1,0,1,0]) Q I [hB b2 (cArr x p5 c4)] [(2,vS p4 ag c3),(7,vI first),(9,vP b2 0),(10,vI bm),(38,vS p3 a0.Subs c2),(39,vI (a0.Subs.length:Int)),(40,vI nf)]:=by
 refine rP.partial_correctness a0 ag x _ λaQ ih bm nf o N B I0 I Q first p3 c2 p4 c3 p5 c4 b2 H h3 h2 h4 hg ho hx hr=>xD hg ho<|yG [41] rfl<|zY<|yC N ?_ ?_
 ·intro bU N;refine zR<|zY<|yM<|yB<|zZ 1 [] [42] rfl<|bE N λx1 aK N=>wJ rfl rfl h2 aK ?_;intro cD bN aw ax;obtain⟨p6,c5,rfl,h6⟩:=yF ax;refine wC 0 aw (cAff x1 p6 c5) (vA (cAff x1 p6 c5)) rfl<|wT [z0,vI 0] ?_;intro b3 ni;refine zZ 5 [] [11] rfl<|yZ 0 (cAff x1 p6 c5) rfl<|zW rfl<|yV<|qO 2 [0] [(45,vA (cAff x1 p6 c5)),(46,vS p4 ag c3)]<|bE N λy1 bc N=>dU (jF x1 ag _ bc h6 h3) ?_;intro aT ae;have ⟨h3,h2,h4,H⟩:=m4 ae h3 h2 h4 H;refine yI [] [13] rfl<|zY<|yB<|zZ 4 [1] [48,50,51] rfl<|bE N λx2 bL N=>wJ rfl rfl h4 bL ?_;intro jm gn cd bO;obtain rfl:=bO;refine wC 0 cd [vI x2] (vI x2) rfl<|zZ 7 [] [54] rfl<|bE N λy2 bX N=>uU (tA y1 0 (W (x2 - 1)) _ bX ) ?_;intro aY aJ;have ⟨h3,h2,h4,H⟩:=m4 aJ h3 h2 h4 H;refine yI [] [56] rfl<|zK<|yC N ?_ ?_
  ·intro cO N;exact yG [6] rfl<|xH<|zG<|zS<|zG<|zG<|hr _ _ _ _ (zC N).symm H ⟨_,_,(resT rfl),zN,⟨_,rfl,rfl,rfl⟩⟩
  intro cO N;refine zR<|zK<|zM<|zZ 4 [1] [57,59,60] rfl<|bE N λx3 cx N=>wJ rfl rfl h4 cx ?_;intro ri kx ek cJ;obtain rfl:=cJ;exact wC 0 ek [vI x3] (vI x3) rfl<|yI [] [10] rfl<|zO<|zK<|zM<|yI [] [40] rfl<|xB<|kT (zV [1] rfl (by decide))<|jH<|ih (W ((W (bm*x3))+y1)) (W (nf+1)) _ N H h3 h2 h4 hg ho hx hr
 intro bU N;exact uR<|wI zN<|yP<|hx _ _ (zC N).symm H
def tP(p:zH)(a0:zJ)(ag:(List Int))(first:Int)(cw:Int):Option (Out Unit (Int)):=do
 if(decide (cw<(p.Arrays.length:Int))) then
  let x<-idx p.Arrays cw;if(!(x.Name.l==a0.Array.l)) then
   let y<-gN x;tP p a0 ag (W (first+y)) (W (cw+1))
  else
   if((a0.Subs.length:Int) != (x.Dims.length:Int)) then pure (.ret (-1))
   else
    match<-rP a0 ag x 0 0 with
    | .ret r0=>pure (.ret r0)
    | .done ir=>
     pure (.ret (W (first+ir)))
 else pure (.done ())
 partial_fixpoint
theorem zC5(p:zH)(a0:zJ)(ag:(List Int)):∀(first:Int) (cw:Int) (o:Out Unit (Int)),tP p a0 ag first cw=some o->∀{B}{I0 I:Imm}{Q p1 c p3 c2 p4 c3}{b1},I0.le I->(S4 I p4 ag c3)->(S4 I p1 p.Arrays c)->(S4 I p3 a0.Subs c2)->NG Q->NO Q->(∀I',o=(.done ())->I0.le I'->T 71 B Q (.exit 0) I' [] [])->(∀r I' ah m',o=(.ret r)->I0.le I'->RS Tryz.prog f160 B (xI  r) I' ah m'->T 71 B Q .ret I' ah m')->J Tryz.prog 71 B (nav (bodyOf f160) [1,1,0,1,0]) Q I [hB b1 (cAccess a0 p3 c2)] [(2,vS p4 ag c3),(4,vP b1 0),(7,vI first),(15,vS p1 p.Arrays c),(16,vI (p.Arrays.length:Int)),(17,vI cw)]:=by
 refine tP.partial_correctness p a0 ag _ λaQ ih first cw o N B I0 I Q p1 c p3 c2 p4 c3 b1 H h3 h h2 hg ho hx hr=>xD hg ho<|yG [18] rfl<|zY<|yC N ?_ ?_
 ·intro hc N;refine zR<|zY<|yM<|yB<|bE N λx hy N=>wJ rfl rfl h hy ?_;intro ad aR av al;obtain⟨p5,c4,rfl,h4⟩:=wN al;refine wC 0 av (cArr x p5 c4) (vA (cArr x p5 c4)) rfl<|wT [vT ([]),z0] ?_;intro b2 fl;refine yZ 0 (cArr x p5 c4) rfl<|zW rfl<|zY<|yB<|yI [0,1] [25] rfl<|zK<|yC N ?_ ?_
  ·intro aI N;refine yB<|qO 2 [0] [(26,vI first),(27,vA (cArr x p5 c4))]<|bE N λy ay N=>dU (zEy x _ ay h4) ?_;intro I0 le;have ⟨h3,h,h2,H⟩:=m4 le h3 h h2 H;exact yI [] [7] rfl<|zK<|zGO<|fR<|zT<|zK<|zM<|yI [] [17] rfl<|xB<|kT (zV [1] rfl (by decide))<|jH<|ih (W (first+y)) (W (cw+1)) _ N H h3 h h2 hg ho hx hr
  intro aI N;refine zR<|zY<|yB<|yI [1,0] [36] rfl<|zK<|yC N ?_ ?_
  ·intro aU N;exact yG [6] rfl<|xH<|zG<|zS<|zG<|zG<|hr _ _ _ _ (zC N).symm H ⟨_,_,(resT rfl),zN,⟨_,rfl,rfl,rfl⟩⟩
  intro aU N;refine zR<|uX [10] rfl<|zY<|yB<|yI [1] [38,39,40] rfl<|vC<|kT (zX [0] (ah:=[hB b2 (cArr x p5 c4)]))<|mM [(2,vS p4 ag c3),(7,vI first),(9,vP b2 0),(10,vI 0),(38,vS p3 a0.Subs c2),(39,vI (a0.Subs.length:Int)),(40,vI 0)] ?_;obtain⟨o0,aC,aM⟩:=zB N;refine zC4 a0 ag x 0 0 o0 aC iR h3 h2 h4 (λ_ _ _ h=>hg _ _ _ h) (λ_ _ h=>ho _ _ h) ?_ ?_
  ·intro bP ir ec aL;subst o0;have H:=H.trans aL;exact zT<|uX [6] rfl<|xH<|zS<|zG<|zG<|hr _ _ _ _ (zC aM).symm H ⟨_,_,(resT rfl),zN,⟨_,rfl,rfl,rfl⟩⟩
  intro r0 I9 gm m9 aV bS aW;subst aV;exact zS<|zG<|zS<|zG<|zG<|hr _ _ _ _ (zC aM).symm (H.trans bS) aW
 intro hc N;exact uR<|wI zN<|yP<|hx _  (zC N).symm H
def mB(p:zH)(a0:zJ)(ag:(List Int)):Option (Int):=do
 match<-tP p a0 ag 0 0 with
 | .ret r0=>pure r0
 | .done _=>
  pure (-1)
theorem zAp:∀p a0 ag r,mB p a0 ag=some r->∀{I:Imm}{p1 c p2 c1 p3 c2 p4 c3},(S4 I p1 p.Arrays c)->(S4 I p2 p.Parts c1)->(S4 I p3 a0.Subs c2)->(S4 I p4 ag c3)->RT 160 [vA (cProg p p1 c p2 c1),vA (cAccess a0 p3 c2),vS p4 ag c3] I [] (xI  r):=by
 intro p a0 ag r N I p1 c p2 c1 p3 c2 p4 c3 h h1 h2 h3;unfold mB at N;refine yK func160 λB=>yB<|sF (cProg p p1 c p2 c1) ?_;intro b hb;refine sF (cAccess a0 p3 c2) ?_;intro b1 cp;refine wP [] []<|uX [7] rfl<|zY<|yB<|yI [1] [15,16,17] rfl<|vC<|kT (zX [0] (ah:=[hB b1 (cAccess a0 p3 c2)]))<|mM [(2,vS p4 ag c3),(4,vP b1 0),(7,vI 0),(15,vS p1 p.Arrays c),(16,vI (p.Arrays.length:Int)),(17,vI 0)] ?_;obtain⟨aS,aE,dc⟩:=zB N;refine zC5 p a0 ag 0 0 aS aE iR h3 h h2 nG nO ?_ ?_
 ·intro cI  ca bb;subst aS;refine zT<|uX [6] rfl<|zK<|yX ?_;obtain rfl:=zC dc;exact vG
 intro r0 I9 gm m9 aV bS aW;subst aV;refine zS<|zG ?_;obtain rfl:=zC dc;exact fO aW
def oO(aH:List HA)(r:Int):KT:=λkk I' ah v=>
 ∃v0,aH=ah/\v=tupV [v0]/\v0=.int .i64 r
def xO(s:(List zJ))(f0:(zJ->Option Bool))(t8:Int):Option (Out Unit (Int)):=do
 if(decide (t8<(s.length:Int))) then
  let x<-idx s t8;let y<-f0 x;if y then pure (.ret t8)
  else xO s f0 (W (t8+1))
 else pure (.done ())
 partial_fixpoint
theorem gY(s:(List zJ))(f0:(zJ->Option Bool)):∀(t8:Int) (o:Out Unit (Int)),xO s f0 t8=some o->∀{B}{I0 I:Imm}{Q p c}{fv:Value}{aH:List HA},I0.le I->(S4 I p s c)->(FV1 Tryz.prog I aH fv f0)->NG Q->NO Q->(∀I',o=(.done ())->I0.le I'->T 19 B Q (.exit 0) I' aH [])->(∀r I' ah m',o=(.ret r)->I0.le I'->RS Tryz.prog f209 B (oO aH r) I' ah m'->T 19 B Q .ret I' ah m')->J Tryz.prog 19 B (nav (bodyOf f209) [1,0,1,0]) Q I aH [(0,vS p s c),(1,fv),(7,vI (s.length:Int)),(8,vI t8)]:=by
 refine xO.partial_correctness s f0 _ λaQ ih t8 o N B I0 I Q p c fv aH H h h1 hg ho hx hr=>xD hg ho<|yG [9] rfl<|zY<|yC N ?_ ?_
 ·intro hc N;refine zR<|zY<|yM<|yG [5] rfl<|yV<|zZ 3 [] [11,12,13] rfl<|bE N λx hy N=>wJ rfl rfl h hy ?_;intro ad aR av al;obtain⟨p1,c1,rfl,h2⟩:=nJ al;refine wC 0 av (cAccess x p1 c1) (vA (cAccess x p1 c1)) rfl<|bE N λy ay N=>zMf rfl rfl h1 ay ⟨_,rfl,(mS ⟨_,rfl,h2⟩)⟩ (yk _).symm ?_;rintro I0 gx le rfl;refine uT (ah:=aH) (yk _) ?_;have ⟨h,h1,H⟩:=m3 le h h1 H;refine zW rfl<|zK<|yC N ?_ ?_
  ·intro aI N;exact yG [4] rfl<|xH<|zS<|zG<|zG<|hr _ _ _ _ (zC N).symm H ⟨_,_,(resT rfl),(λ_ h=>h),⟨_,rfl,rfl,rfl⟩⟩
  intro aI N;exact zR<|zO<|zK<|zM<|yI [] [8] rfl<|xB<|jH<|ih (W (t8+1)) _ N H h h1 hg ho hx hr
 intro hc N;exact uR<|yP<|hx _  (zC N).symm H
def uM(s:(List zJ))(f0:(zJ->Option Bool)):Option (Int):=do
 match<-xO s f0 0 with
 | .ret r0=>pure r0
 | .done _=>
  pure (-1)
theorem fQ:∀s f0 r,uM s f0=some r->∀{I:Imm}{p c}{fv:Value}{aH:List HA},(S4 I p s c)->(FV1 Tryz.prog I aH fv f0)->RT 209 [vS p s c,fv] I aH (oO aH r):=by
 intro s f0 r N I p c fv aH h h1;unfold uM at N;refine yK func209 λB=>vO []<|zY<|yG [7,8] rfl<|vC<|mM [(0,vS p s c),(1,fv),(7,vI (s.length:Int)),(8,vI 0)] ?_;obtain⟨o0,aC,aM⟩:=zB N;refine gY s f0 0 o0 aC iR h h1 nG nO ?_ ?_
 ·intro aT  ec ae;subst o0;refine zT<|uX [4] rfl<|zK<|yX ?_;exact wD aM (resT rfl) (λ_ h=>h) ⟨_,rfl,rfl,rfl⟩
 intro r0 I9 gm m9 aV bS aW;subst aV;refine zS<|zG ?_;obtain rfl:=zC aM;exact fO aW
def jY(aH:List HA)(r:Bool):KT:=λkk I' ah v=>
 ∃v0,aH=ah/\v=tupV [v0]/\v0=.bool r
def wS(s:(List zJ))(f0:(zJ->Option Bool)):Option (Bool):=do
 let y<-uM s f0;pure (decide (y>=0))
theorem gZ:∀s f0 r,wS s f0=some r->∀{I:Imm}{p c}{fv:Value}{aH:List HA},(S4 I p s c)->(FV1 Tryz.prog I aH fv f0)->RT 161 [vS p s c,fv] I aH (jY aH r):=by
 intro s f0 r N I p c fv aH h h1;unfold wS at N;refine yK func161 λB=>vO []<|yV<|zZ 2 [] [5,6] rfl<|bE N λy hy N=>zGQ (hs1:=aH) (rest:=[]) rfl rfl rfl rfl (by kernel_rfl) rfl (yk _).symm (fQ s f0 _ hy h h1) ?_;rintro I0 au v2 k2 le - ⟨v0,rfl,rfl,rfl⟩ -;refine uT (ah:=aH) (yk _) ?_;refine yI [] [4] rfl<|zK<|yX ?_;exact wD N (resT rfl) (λ_ h=>h) ⟨_,rfl,rfl,rfl⟩
def zDJ(r:(List zJ)):KT:=λkk I' ah v=>
 ∃v0,ah=[]/\v=tupV [v0]/\SL I' v0 r
mutual
def eE(e0:zF):Option ((List zJ)):=do
 if(e0.Kind==3) then pure ([e0.Read]:List zJ)
 else
  let aq<-jE (same e0) ([]:List zJ) (same 0);pure (id aq)
 partial_fixpoint
def jE(e0:zF)(out:List zJ)(f7:Int):Option (List zJ):=do
 if(decide (f7<(e0.Kids.length:Int))) then
  let x<-idx e0.Kids f7;let y<-eE (same x);let aD<-app 40 out y;jE (same e0) (same aD) (W (f7+1))
 else pure (id out)
 partial_fixpoint
end
theorem zIO:(∀(e0:zF) r,eE e0=some r->∀{I:Imm}{p c p1 c1 p2 c2},(S4 I p e0.Index.Coefs c)->(S4 I p1 e0.Read.Subs c1)->(S4 I p2 e0.Kids c2)->RT 162 [vA (cExpr e0 p c p1 c1 p2 c2)] I [] (zDJ  r))/\(∀(e0:zF) (out:List zJ) (f7:Int) o,jE e0 out f7=some o->∀{B}{I0 I:Imm}{Q p2 c2 p3 c3 cs},I0.le I->(S4 I p2 e0.Kids c2)->(RL I cs out)->NG Q->NO Q->(∀I' aq p4 c4 aA,o=aq->I0.le I'->(RL I' aA aq)->T 25 B Q (.exit 0) I' [hO zJ (vS p4 aq c4) aA] [(3,vS p4 aq c4)])->J Tryz.prog 25 B (nav (bodyOf f162) [1,1,1,0,1,0]) Q I [hO zJ (vS p3 out c3) cs] [(3,vS p3 out c3),(13,vS p2 e0.Kids c2),(14,vI (e0.Kids.length:Int)),(15,vI f7)]):=by
 refine eE.mutual_partial_correctness _ _ ?_ ?_
 ·intro kt ih_impl_reads_l1 e0 r N I p c p1 c1 p2 c2 h h1 h2;refine yK func162 λB=>yB<|sF (cExpr e0 p c p1 c1 p2 c2) ?_;intro b hb;refine wP [] []<|zY<|yB<|yI [0] [8] rfl<|zK<|yC N ?_ ?_
  ·intro hc N;refine yB<|qO 2 [0] [(10,vA (cAccess e0.Read p1 c1))]<|qN (cAccess e0.Read p1 c1) zJ ?_;intro b1 cp;have h3:RL I (cAccess e0.Read p1 c1) ([e0.Read]:List zJ):=⟨(cAccess e0.Read p1 c1),_,rfl,rfl,(mS ⟨_,rfl,h1⟩),rfl⟩;refine yI [] [2] rfl<|xH<|zG<|xT 0 rfl ?_;intro I0 le cH;have h4:=SL.of_frozen cH le h3;exact wD N (resT rfl) zN ⟨_,rfl,rfl,h4⟩
  intro hc N;refine zR<|zFT [(3,z0)]<|zY<|yB<|yI [0] [13,14,15] rfl<|vC<|kT (zX [] (ah:=[]))<|mM [(3,z0),(13,vS p2 e0.Kids c2),(14,vI (e0.Kids.length:Int)),(15,vI 0)]<|zB9 zJ λh5=>?_;obtain⟨o0,aC,aM⟩:=zB N;refine ih_impl_reads_l1 e0 ([]:List zJ) 0 o0 aC iR h2 h5 nG nO ?_;intro aY aq p4 c4 aA ec aJ h7;subst o0;refine zT<|uX [2] rfl<|xH<|xT 0 rfl ?_;intro bP aL cZ;have cy:=SL.of_frozen cZ aL h7;exact wD aM (resT rfl) zN ⟨_,rfl,rfl,cy⟩
 intro vk kt mb ih_impl_reads_l1 e0 out f7 o N B I0 I Q p2 c2 p3 c3 cs H h2 h6 hg ho hx;refine xD hg ho<|yG [16] rfl<|zY<|yC N ?_ ?_
 ·intro aI N;refine zR<|zY<|yM<|yB<|bE N λx hy N=>wJ rfl rfl h2 hy ?_;intro ad aR av al;obtain⟨p5,c5,p6,c6,p7,c7,rfl,h8,h9,bQ⟩:=vJ al;refine wC 0 av (cExpr x p5 c5 p6 c6 p7 c7) (vA (cExpr x p5 c5 p6 c6 p7 c7)) rfl<|wT zExpr ?_;intro b2 fl;refine yZ 0 (cExpr x p5 c5 p6 c6 p7 c7) rfl<|zW rfl<|zK<|zM<|qO 2 [0] [(19,vS p3 out c3),(20,vA (cExpr x p5 c5 p6 c6 p7 c7))]<|bE N λy ay N=>xG (mb x _ ay h8 h9 bQ) ?_;rintro aT au v2 k2 ae - ⟨ng,rfl,rfl,bB⟩ -;have ⟨h2,h6,H⟩:=m3 ae h2 h6 H;obtain⟨p8,c8,rfl⟩:=bB.form;obtain⟨bN,k0,cE⟩:=bB;have bB:SL aT (vS p8 y c8) y:=⟨_,k0,cE⟩;obtain⟨aD,aK,N⟩:=zB N;exact mD 47 2 1 rfl rfl rfl h6 (.inl k0) cE aK λp9 c9 bv bW=>qM (zX [0,1] (ah:=[hB b2 (cExpr x p5 c5 p6 c6 p7 c7),hO zJ (vS p9 aD c9) bv]))<|yI [] [3] rfl<|zO<|zK<|zM<|yI [] [15] rfl<|xB<|kT (zV [1] rfl (by decide))<|jH<|ih_impl_reads_l1 e0 aD (W (f7+1)) _ N H h2 bW hg ho hx
 intro aI N;exact uR<|yP<|hx _ _ _ _ _ (zC N).symm H h6
theorem zJI:∀e0 r,eE e0=some r->∀{I:Imm}{p c p1 c1 p2 c2},(S4 I p e0.Index.Coefs c)->(S4 I p1 e0.Read.Subs c1)->(S4 I p2 e0.Kids c2)->RT 162 [vA (cExpr e0 p c p1 c1 p2 c2)] I [] (zDJ  r):=zIO.1
def sW(a0:zJ)(x:zH)(x1:(List Int)):Option (Bool):=do
 let y<-mB x a0 x1;pure (decide (y<0))
theorem zCE:∀a0 x x1 r,sW a0 x x1=some r->∀{I:Imm}{p c}{ad:Addr}{p1 c1 p2 c2}{cD:Addr}{p3 c3},(S4 I p a0.Subs c)->(S4 I p1 x.Arrays c1)->(S4 I p2 x.Parts c2)->(At I ad (cProg x p1 c1 p2 c2))->(S4 I p3 x1 c3)->(At I cD [vS p3 x1 c3])->RT 163 [vA (cAccess a0 p c),.pointer (some ad),.pointer (some cD)] I [] (zU  r):=by
 intro a0 x x1 r N I p c ad p1 c1 p2 c2 cD p3 c3 h h1 h2 av h3 aw;unfold sW at N;refine yK func163 λB=>yB<|sF (cAccess a0 p c) ?_;intro b hb;refine wP [] []<|yV<|wC 0 av (cProg x p1 c1 p2 c2) (vA (cProg x p1 c1 p2 c2)) rfl<|qO 2 [0] [(6,vA (cAccess a0 p c))]<|wC 0 aw [vS p3 x1 c3] (vS p3 x1 c3) rfl<|bE N λy hy N=>dU (zAp x a0 x1 _ hy h1 h2 h h3) λI0 le=>wP [] [(4,.bool (decide (y<0)))]<|zK<|yX ?_;obtain rfl:=zC N;exact vG
def mN(p:zH)(s:zI)(ag:(List Int)):Option (Bool):=do
 let t6<-(do
  let y<-mB p s.Write ag;if(decide (y>=0)) then
   let y1<-eE s.Value;let y2<-wS y1 (λx0=>sW x0 p ag);pure (!y2)
  else
   pure false
    : Option Bool)
 pure (id t6)
theorem zCm:∀p s ag r,mN p s ag=some r->∀{I:Imm}{p1 c p2 c1 p3 c2 p4 c3 p5 c4 p6 c5 p7 c6},(S4 I p1 p.Arrays c)->(S4 I p2 p.Parts c1)->(S4 I p3 s.Write.Subs c2)->(S4 I p4 s.Value.Index.Coefs c3)->(S4 I p5 s.Value.Read.Subs c4)->(S4 I p6 s.Value.Kids c5)->(S4 I p7 ag c6)->RT 98 [vA (cProg p p1 c p2 c1),vA (cStmt s p3 c2 p4 c3 p5 c4 p6 c5),vS p7 ag c6] I [] (zU  r):=by
 intro p s ag r N I p1 c p2 c1 p3 c2 p4 c3 p5 c4 p6 c5 p7 c6 h h1 h2 h3 h4 h5 h6;unfold mN at N;refine yK func98 λB=>?_;have H:=iS I;refine yB<|sF (cProg p p1 c p2 c1) ?_;intro b hb;refine wG 0 rfl ?_;intro I0 le cH;have av:At I0 ⟨b,0,none⟩ (cProg p p1 c p2 c1):=At.of_blk cH;have ⟨h,h1,h2,h3,h4,h5⟩:=m6 le h h1 h2 h3 h4 h5;have ⟨h6,H⟩:=m2 le h6 H;refine sF (cStmt s p3 c2 p4 c3 p5 c4 p6 c5) ?_;intro b1 cp;refine sF [vS p7 ag c6] ?_;intro b2 fl;refine wG 0 rfl ?_;intro aT ae cZ;have aw:At aT ⟨b2,0,none⟩ [vS p7 ag c6]:=At.of_blk cZ;have ⟨h,h1,h2,h3,h4,h5⟩:=m6 ae h h1 h2 h3 h4 h5;have ⟨h6,av,H⟩:=m3 ae h6 av H;refine wP [] []<|zK<|yA ?_;refine wZ N [] (λt6=>[(6,.bool t6)]) (λo0 aC=>?_) ?_
 ·have H:=iS aT;refine zM<|wC 0 av (cProg p p1 c p2 c1) (vA (cProg p p1 c p2 c1)) rfl<|qO 3 [0] [(9,vA (cAccess s.Write p3 c2))]<|wC 0 aw [vS p7 ag c6] (vS p7 ag c6) rfl ?_;obtain⟨y,hy,N⟩:=zB aC;refine dU (zAp p s.Write ag _ hy h h1 h2 h6) ?_;intro bP aJ;have ⟨h,h1,av,h6,aw,h3⟩:=m6 aJ h h1 av h6 aw h3;have ⟨h4,h5,H⟩:=m3 aJ h4 h5 H;refine zZ 7 [] [13] rfl<|xW [13] N ?_ ?_
  ·intro hc N;refine qO 9 [0] [(15,vA (cExpr s.Value p4 c3 p5 c4 p6 c5))]<|bE N λy1 ay N=>xG (zJI s.Value _ ay h3 h4 h5) ?_;rintro cI au v2 k2 aL - ⟨gx,rfl,rfl,h8⟩ -;have ⟨h,h1,av,h6,aw,H⟩:=m6 aL h h1 av h6 aw H;obtain⟨p8,c7,rfl⟩:=h8.form;refine zZ 11 [] [17] rfl ?_;have lJ:FV1 Tryz.prog cI [] (.func (.func 163) ⟨[]⟩ ⟨[vP b 0,vP b2 0]⟩) (λx0=>sW x0 p ag):=by
    refine FV1.intro ?_;intro I1 ae x0 r u0 hF k0;obtain⟨_,rfl,k0⟩:=k0;obtain⟨p9,c8,rfl,h9⟩:=nJ k0;exact(zCE x0 p ag r hF h9 (h.mono ae) (h1.mono ae) (av.mono ae) (h6.mono ae) (aw.mono ae)).mono (by rintro k i hs u ⟨v0,rfl,rfl,h⟩;exact⟨rfl,h⟩)
   obtain⟨y2,aK,N⟩:=zB N;refine xG (gZ y1 (λx0=>sW x0 p ag) _ aK h8 lJ) ?_;rintro dw au v2 k2 bb - ⟨ng,rfl,rfl,rfl⟩ -;have H:=H.trans bb;exact yI [] [6] rfl<|wI zN<|yP<|zQ (ct N H)
  intro hc N;exact wP [] [(6,vF)]<|wI zN<|yP<|zQ (ct N H)
 intro t6 aY bI aO;refine zK<|yX ?_;obtain rfl:=zC aO;exact vG
def nE(r:(List yE)×Bool):KT:=λkk I' ah v=>
 ∃v0 v1,ah=[]/\v=tupV [v0,v1]/\SL I' v0 r.1/\v1=.bool r.2
def uN(p:zH)(ex:Int)(x:zL)(x1:(List Int))(dn:List yE)(si:Int):Option (Out (List yE) ((List yE)×Bool)):=do
 if(decide (si<(x.Body.length:Int))) then
  let x2<-idx x.Body si;let y7<-mN p x2 x1;if(!y7) then pure (.ret (([]:List yE),F9))
  else
   let y8<-pM x1;let gj<-app 40 dn ([(yE.mk ex si y8)]:List yE);uN p ex x x1 gj (W (si+1))
 else pure (.done dn)
 partial_fixpoint
theorem zAw(p:zH)(ex:Int)(x:zL)(x1:(List Int)):∀(dn:List yE) (si:Int) (o:Out (List yE) ((List yE)×Bool)),uN p ex x x1 dn si=some o->∀{B}{I0 I:Imm}{Q}{y2:(List (List Int))}{lR:Int}{p1 c p2 c1}{b}{p5 c4 p6 c5}{b1}{p7 c6 de bM du cW cC},I0.le I->(S4 I p5 x.Nest c4)->(S4 I p6 x.Body c5)->(At I ⟨b1,0,none⟩ (cPart x p5 c4 p6 c5))->(S4 I de x1 bM)->(S4 I p2 p.Parts c1)->(S4 I p7 y2 c6)->(S4 I p1 p.Arrays c)->(RL I cC dn)->NG Q->NO Q->(∀I' fx iP im cP,o=(.done fx)->I0.le I'->(RL I' cP fx)->T 89 B Q (.exit 4) I' [hO yE (vS iP fx im) cP,hB b (cProg p p1 c p2 c1)] [(1,vP b 0),(4,vS iP fx im),(5,vI ex),(6,vP b1 0),(24,vS p2 p.Parts c1),(25,vI (p.Parts.length:Int)),(26,vI ex),(52,vS p7 y2 c6),(53,vI (y2.length:Int)),(54,vI lR)])->(∀r I' ah m',o=(.ret r)->I0.le I'->RS Tryz.prog f43 B (nE  r) I' ah m'->T 89 B Q .ret I' ah m')->J Tryz.prog 89 B (nav (bodyOf f43) [1,1,1,0,1,0,0,1,1,0,0,1,1,1,1,0,0,1,1,0,0,1,1,1,0]) Q I [hO yE (vS du dn cW) cC,hB b (cProg p p1 c p2 c1)] [(1,vP b 0),(4,vS du dn cW),(5,vI ex),(6,vP b1 0),(10,vS de x1 bM),(24,vS p2 p.Parts c1),(25,vI (p.Parts.length:Int)),(26,vI ex),(52,vS p7 y2 c6),(53,vI (y2.length:Int)),(54,vI lR),(62,vS p6 x.Body c5),(63,vI (x.Body.length:Int)),(64,vI si)]:=by
 refine uN.partial_correctness p ex x x1 _ λaQ ih dn si o N B I0 I Q y2 lR p1 c p2 c1 b p5 c4 p6 c5 b1 p7 c6 de bM du cW cC H h6 h7 aw bY h1 h8 h dm hg ho hx hr=>xD hg ho<|yG [65] rfl<|zY<|yC N ?_ ?_
 ·intro lH N;refine zR<|zY<|yM<|yB<|zZ 1 [] [66] rfl<|bE N λx2 cV N=>wJ rfl rfl h7 cV ?_;intro jm gn ek bO;obtain⟨ey,fb,cL,ep,dv,da,eu,ej,rfl,j3,jg,iu,hV⟩:=rJ bO;refine wC 0 ek (cStmt x2 ey fb cL ep dv da eu ej) (vA (cStmt x2 ey fb cL ep dv da eu ej)) rfl<|wT [vT ([]),z0,vI 0,vI 0,z0,vI 0,vT ([]),z0,z0] ?_;intro b2 fl;refine zZ 5 [] [11] rfl<|yZ 0 (cStmt x2 ey fb cL ep dv da eu ej) rfl<|zW rfl<|zY<|yB<|qO 3 [2,0] [(69,vA (cProg p p1 c p2 c1)),(70,vA (cStmt x2 ey fb cL ep dv da eu ej)),(71,vS de x1 bM)]<|bE N λy7 eo N=>uU (zCm p x2 x1 _ eo h h1 j3 jg iu hV bY) ?_;intro iE dt;have ⟨dm,h6,h7,aw,bY,h1⟩:=m6 dt dm h6 h7 aw bY h1;have ⟨h8,h,H⟩:=m3 dt h8 h H;refine yI [] [73] rfl<|zK<|yC N ?_ ?_
  ·intro l9 N;exact yG [2,3] rfl<|xH<|zG<|zS<|zG<|zG<|hr _ _ _ _ (zC N).symm H ⟨_,_,(resU rfl rfl),zN,⟨_,_,rfl,rfl,(SL.nil _),rfl⟩⟩
  intro l9 N;refine zR<|zK<|zM<|zZ 4 [] [74,75,76,77] rfl<|bE N λy8 gi N=>xG (fL x1 _ gi bY) ?_;rintro jx au v2 k2 bS - ⟨ga,c20,gb,rfl,rfl,iH⟩ -;have ⟨h6,h7,aw,bY,h1,h8⟩:=m6 bS h6 h7 aw bY h1 h8;have ⟨dm,h,H⟩:=m3 bS dm h H;refine zZ 6 [] [79] rfl<|wG 0 rfl ?_;intro eg cb cZ;have fk:=SL.of_frozen cZ cb iH;have ⟨h6,h7,aw,bY,h1,h8⟩:=m6 cb h6 h7 aw bY h1 h8;have ⟨dm,h,H⟩:=m3 cb dm h H;refine qN [vI ex,vI si,vS ga y8 c20] yE ?_;intro b3 ni;have j4:RL eg [vI ex,vI si,vS ga y8 c20] ([(yE.mk ex si y8)]:List yE):=⟨[vI ex,vI si,vS ga y8 c20],_,rfl,rfl,(zEf ⟨_,rfl,fk⟩),rfl⟩;obtain⟨gj,cU,N⟩:=zB N;exact mD 142 3 2 rfl rfl rfl dm (.inr ⟨0,rfl⟩) j4 cU λmd c21 d5 jn=>qM (zX [1,2,3] (ah:=[hB b2 (cStmt x2 ey fb cL ep dv da eu ej),hO yE (vS md gj c21) d5,hB b (cProg p p1 c p2 c1)]))<|yI [] [4] rfl<|zO<|zK<|zM<|yI [] [64] rfl<|xB<|kT (zV [1,2] rfl (by decide))<|jH<|ih gj (W (si+1)) _ N H h6 h7 aw bY h1 h8 h jn hg ho hx hr
 intro lH N;exact uR<|yP<|hx _ _ _ _ _ (zC N).symm H dm
def uO(p:zH)(ex:Int)(x:zL)(y2:(List (List Int)))(aD:List yE)(lR:Int):Option (Out (List yE) ((List yE)×Bool)):=do
 if(decide (lR<(y2.length:Int))) then
  let x1<-idx y2 lR;let y6<-dI x1;if(!y6) then pure (.ret (([]:List yE),F9))
  else
   match<-uN p ex x x1 aD 0 with
   | .ret r0=>pure (.ret r0)
   | .done fx=>
    uO p ex x y2 fx (W (lR+1))
 else pure (.done aD)
 partial_fixpoint
theorem zAx(p:zH)(ex:Int)(x:zL)(y2:(List (List Int))):∀(aD:List yE) (lR:Int) (o:Out (List yE) ((List yE)×Bool)),uO p ex x y2 aD lR=some o->∀{B}{I0 I:Imm}{Q p1 c p2 c1}{b}{p5 c4 p6 c5}{b1}{p7 c6 ce bj bv},I0.le I->(S4 I p5 x.Nest c4)->(S4 I p6 x.Body c5)->(At I ⟨b1,0,none⟩ (cPart x p5 c4 p6 c5))->(S4 I p2 p.Parts c1)->(S4 I p7 y2 c6)->(S4 I p1 p.Arrays c)->(RL I bv aD)->NG Q->NO Q->(∀I' bR br bx bf,o=(.done bR)->I0.le I'->(RL I' bf bR)->T 89 B Q (.exit 2) I' [hO yE (vS br bR bx) bf,hB b (cProg p p1 c p2 c1)] [(1,vP b 0),(4,vS br bR bx),(24,vS p2 p.Parts c1),(25,vI (p.Parts.length:Int)),(26,vI ex)])->(∀r I' ah m',o=(.ret r)->I0.le I'->RS Tryz.prog f43 B (nE  r) I' ah m'->T 89 B Q .ret I' ah m')->J Tryz.prog 89 B (nav (bodyOf f43) [1,1,1,0,1,0,0,1,1,0,0,1,1,1,1,0]) Q I [hO yE (vS ce aD bj) bv,hB b (cProg p p1 c p2 c1)] [(1,vP b 0),(4,vS ce aD bj),(5,vI ex),(6,vP b1 0),(24,vS p2 p.Parts c1),(25,vI (p.Parts.length:Int)),(26,vI ex),(52,vS p7 y2 c6),(53,vI (y2.length:Int)),(54,vI lR)]:=by
 refine uO.partial_correctness p ex x y2 _ λaQ ih aD lR o N B I0 I Q p1 c p2 c1 b p5 c4 p6 c5 b1 p7 c6 ce bj bv H h6 h7 aw h1 h8 h ck hg ho hx hr=>xD hg ho<|yG [55] rfl<|zY<|yC N ?_ ?_
 ·intro iU N;refine zR<|zY<|yM<|yB<|bE N λx1 bX N=>wJ rfl rfl h8 bX ?_;intro cD bN cd ax;obtain⟨v011,rfl,bY⟩:=ax;obtain⟨de,bM,rfl⟩:=bY.form;refine wC 0 cd [vS de x1 bM] (vS de x1 bM) rfl<|yI [] [10] rfl<|zY<|yB<|zZ 1 [] [58] rfl<|bE N λy6 cx N=>uU (zH0 x1 _ cx bY) ?_;intro ij bZ;have ⟨ck,h6,h7,aw,bY,h1⟩:=m6 bZ ck h6 h7 aw bY h1;have ⟨h8,h,H⟩:=m3 bZ h8 h H;refine yI [] [60] rfl<|zK<|yC N ?_ ?_
  ·intro kq N;exact yG [2,3] rfl<|xH<|zG<|zS<|zG<|zG<|hr _ _ _ _ (zC N).symm H ⟨_,_,(resU rfl rfl),zN,⟨_,_,rfl,rfl,(SL.nil _),rfl⟩⟩
  intro kq N;refine zR<|yV<|zZ 1 [] [61] rfl<|wC 1 aw [vS p6 x.Body c5] (vS p6 x.Body c5) rfl<|yI [] [63,64] rfl<|vC<|mM [(1,vP b 0),(4,vS ce aD bj),(5,vI ex),(6,vP b1 0),(10,vS de x1 bM),(24,vS p2 p.Parts c1),(25,vI (p.Parts.length:Int)),(26,vI ex),(52,vS p7 y2 c6),(53,vI (y2.length:Int)),(54,vI lR),(62,vS p6 x.Body c5),(63,vI (x.Body.length:Int)),(64,vI 0)] ?_;obtain⟨dd,bh,aM⟩:=zB N;refine zAw p ex x x1 aD 0 dd bh iR h6 h7 aw bY h1 h8 h ck (λ_ _ _ h=>hg _ _ _ h) (λ_ _ h=>ho _ _ h) ?_ ?_
  ·intro hJ fx iP im cP jo cA jz;subst dd;have ⟨h6,h7,aw,h1,h8,h⟩:=m6 cA h6 h7 aw h1 h8 h;have H:=H.trans cA;exact zT<|zO<|zK<|zM<|yI [] [54] rfl<|xB<|jH<|ih fx (W (lR+1)) _ aM H h6 h7 aw h1 h8 h jz hg ho hx hr
  intro r0 I9 gm m9 aV bS aW;subst aV;exact zS<|zS<|zG<|zG<|hr _ _ _ _ (zC aM).symm (H.trans bS) aW
 intro iU N;exact uR<|yP<|hx _ _ _ _ _ (zC N).symm H ck
def uP(p:zH)(out:List yE)(ex:Int):Option (Out (List yE) ((List yE)×Bool)):=do
 if(decide (ex<(p.Parts.length:Int))) then
  let x<-idx p.Parts ex;let (y2,y3)<-gL x.Nest;let t51<-(do
   if(!y3) then pure true
   else
    let y4<-uF (x.Body.length:Int) 1 4;if(!y4) then pure true
    else
     let y5<-vD x.Body (λx0=>tB x0 x);pure (id y5)
     : Option Bool)
  if t51 then pure (.ret (([]:List yE),F9))
  else
   match<-uO p ex x y2 out 0 with
   | .ret r0=>pure (.ret r0)
   | .done bR=>
    uP p bR (W (ex+1))
 else pure (.done out)
 partial_fixpoint
theorem zAy(p:zH):∀(out:List yE) (ex:Int) (o:Out (List yE) ((List yE)×Bool)),uP p out ex=some o->∀{B}{I0 I:Imm}{Q p1 c p2 c1}{b}{p3 c2 cs},I0.le I->(S4 I p2 p.Parts c1)->(S4 I p1 p.Arrays c)->(RL I cs out)->NG Q->NO Q->(∀I' aq p4 c3 aA,o=(.done aq)->I0.le I'->(RL I' aA aq)->T 89 B Q (.exit 0) I' [hO yE (vS p4 aq c3) aA] [(4,vS p4 aq c3)])->(∀r I' ah m',o=(.ret r)->I0.le I'->RS Tryz.prog f43 B (nE  r) I' ah m'->T 89 B Q .ret I' ah m')->J Tryz.prog 89 B (nav (bodyOf f43) [1,1,1,0,1,0]) Q I [hO yE (vS p3 out c2) cs,hB b (cProg p p1 c p2 c1)] [(1,vP b 0),(4,vS p3 out c2),(24,vS p2 p.Parts c1),(25,vI (p.Parts.length:Int)),(26,vI ex)]:=by
 refine uP.partial_correctness p _ λaQ ih out ex o N B I0 I Q p1 c p2 c1 b p3 c2 cs H h1 h h4 hg ho hx hr=>xD hg ho<|yG [27] rfl<|zY<|yC N ?_ ?_
 ·intro aU N;refine zR<|zY<|yM<|yB<|zZ 1 [] [28] rfl<|bE N λx ay N=>wJ rfl rfl h1 ay ?_;intro ad aR av al;obtain⟨p5,c4,p6,c5,rfl,h6,h7⟩:=uK al;refine wC 0 av (cPart x p5 c4 p6 c5) (vA (cPart x p5 c4 p6 c5)) rfl<|wT zTwo ?_;intro b1 cp;refine zZ 5 [] [5] rfl<|yZ 0 (cPart x p5 c4 p6 c5) rfl<|zW rfl<|yV<|zZ 2 [0] [33] rfl ?_;obtain⟨⟨y2,y3⟩,aK,N⟩:=zB N;refine xG (zEv x.Nest _ aK h6) ?_;rintro aY au v2 k2 aJ - ⟨ng,ee,rfl,rfl,h8,rfl⟩ -;have ⟨h4,h1,h6,h7,h,H⟩:=m6 aJ h4 h1 h6 h7 h H;obtain⟨p7,c6,rfl⟩:=h8.form;refine yI [] [7,8] rfl<|zY<|yA<|oD 0 rfl ?_;intro bP aL cH;have aw:At bP ⟨b1,0,none⟩ (cPart x p5 c4 p6 c5):=At.of_blk cH;have ⟨h4,h6,h7,h8,h1,h⟩:=m6 aL h4 h6 h7 h8 h1 h;have H:=H.trans aL;refine wZ N [hO yE (vS p3 out c2) cs,hB b (cProg p p1 c p2 c1)] (λt51=>[(1,vP b 0),(4,vS p3 out c2),(5,vI ex),(6,vP b1 0),(7,vS p7 y2 c6),(24,vS p2 p.Parts c1),(25,vI (p.Parts.length:Int)),(26,vI ex),(51,.bool t51)]) (λaS aE=>?_) ?_
  ·have H:=iS bP;refine zM<|zZ 3 [] [39] rfl<|xW [39] aE ?_ ?_
   ·intro bU N;exact wP [] [(51,vY)]<|yP<|zQ (ct N H)
   intro bU N;refine zZ 4 [] [40] rfl<|wC 1 aw [vS p6 x.Body c5] (vS p6 x.Body c5) rfl<|zZ 6 [] [42] rfl<|bE N λy4 bc N=>uU (tA (x.Body.length:Int) 1 4 _ bc ) ?_;intro dw bb;have ⟨h6,h7,aw,h,H⟩:=m5 bb h6 h7 aw h H;refine zZ 10 [] [46] rfl<|xW [46] N ?_ ?_
   ·intro cO N;exact wP [] [(51,vY)]<|yP<|zQ (ct N H)
   intro cO N;refine zZ 11 [] [47] rfl<|wC 1 aw [vS p6 x.Body c5] (vS p6 x.Body c5) rfl<|zZ 13 [] [49] rfl ?_;have lJ:FV1 Tryz.prog dw [] (.func (.func 96) ⟨[]⟩ ⟨[vP b1 0]⟩) (λx0=>tB x0 x):=by
    refine FV1.intro ?_;intro I1 ae x0 r u0 hF k0;obtain⟨_,rfl,k0⟩:=k0;obtain⟨p8,c7,p9,c8,bH,c9,bd,bG,rfl,bB,bW,cy,bV⟩:=rJ k0;exact(zBN x0 x r hF bB bW cy bV (h6.mono ae) (h7.mono ae) (aw.mono ae)).mono (by rintro k i hs u ⟨v0,rfl,rfl,h⟩;exact⟨rfl,h⟩)
   obtain⟨y5,bL,N⟩:=zB N;refine xG (eC x.Body (λx0=>tB x0 x) _ bL h7 lJ) ?_;rintro gk au v2 k2 bI - ⟨ut,rfl,rfl,rfl⟩ -;have H:=H.trans bI;exact yI [] [51] rfl<|yP<|zQ (ct N H)
  intro t51 cI bJ bK;have ⟨h4,h6,h7,aw,h8,h1⟩:=m6 bJ h4 h6 h7 aw h8 h1;have ⟨h,H⟩:=m2 bJ h H;refine zK<|yC bK ?_ ?_
  ·intro ft N;exact yG [2,3] rfl<|xH<|zG<|zS<|zG<|zG<|hr _ _ _ _ (zC N).symm H ⟨_,_,(resU rfl rfl),zN,⟨_,_,rfl,rfl,(SL.nil _),rfl⟩⟩
  intro ft N;refine zR<|uX [52,53,54] rfl<|vC<|mM [(1,vP b 0),(4,vS p3 out c2),(5,vI ex),(6,vP b1 0),(24,vS p2 p.Parts c1),(25,vI (p.Parts.length:Int)),(26,vI ex),(52,vS p7 y2 c6),(53,vI (y2.length:Int)),(54,vI 0)] ?_;obtain⟨fw,cu,dc⟩:=zB N;refine zAx p ex x y2 out 0 fw cu iR h6 h7 aw h1 h8 h h4 (λ_ _ _ h=>hg _ _ _ h) (λ_ _ h=>ho _ _ h) ?_ ?_
  ·intro fq bR br bx bf lI d7 cm;subst fw;have ⟨h1,h,H⟩:=m3 d7 h1 h H;exact zT<|zO<|zK<|zM<|yI [] [26] rfl<|xB<|jH<|ih bR (W (ex+1)) _ dc H h1 h cm hg ho hx hr
  intro r0 I9 gm m9 aV bS aW;subst aV;exact zS<|zS<|zG<|zG<|hr _ _ _ _ (zC dc).symm (H.trans bS) aW
 intro aU N;exact uR<|wI (zV [0] rfl (by decide))<|yP<|hx _ _ _ _ _ (zC N).symm H h4
def oK(p:zH):Option ((List yE)×Bool):=do
 let t22<-(do
  let y<-eH p.Arrays;if(!y) then pure true
  else
   pure (decide ((p.Parts.length:Int)>4))
    : Option Bool)
 if t22 then pure (([]:List yE),F9)
 else
  match<-uP p ([]:List yE) 0 with
  | .ret r0=>pure r0
  | .done aq=>
   pure (aq,(decide ((aq.length:Int)<=120)))
theorem zBc:∀p r,oK p=some r->∀{I:Imm}{p1 c p2 c1},(S4 I p1 p.Arrays c)->(S4 I p2 p.Parts c1)->RT 43 [vA (cProg p p1 c p2 c1)] I [] (nE  r):=by
 intro p r N I p1 c p2 c1 h h1;unfold oK at N;refine yK func43 λB=>?_;have H:=iS I;refine yB<|sF (cProg p p1 c p2 c1) ?_;intro b hb;refine wP [] []<|zY<|yA ?_;refine wZ N [hB b (cProg p p1 c p2 c1)] (λt22=>[(1,vP b 0),(22,.bool t22)]) (λo0 aC=>?_) ?_
 ·have H:=iS I;refine zM<|zZ 2 [0] [14] rfl ?_;obtain⟨y,hy,N⟩:=zB aC;refine uU (zGg p.Arrays _ hy h) ?_;intro aT le;have H:=H.trans le;refine zZ 5 [] [17] rfl<|xW [17] N ?_ ?_
  ·intro hc N;exact wP [] [(22,vY)]<|yP<|zQ (ct N H)
  intro hc N;exact yI [0] [22] rfl<|yP<|zQ (ct N H)
 intro t22 I0 ae aO;have ⟨h,h1⟩:=m2 ae h h1;refine zK<|yC aO ?_ ?_
 ·intro aI N;refine yG [2,3] rfl<|xH<|zG ?_;exact wD N (resU rfl rfl) zN ⟨_,_,rfl,rfl,(SL.nil _),rfl⟩
 intro aI N;refine zR<|zFT [(4,z0)]<|zY<|yB<|yI [0] [24,25,26] rfl<|vC<|mM [(1,vP b 0),(4,z0),(24,vS p2 p.Parts c1),(25,vI (p.Parts.length:Int)),(26,vI 0)]<|zB9 yE λh3=>?_;obtain⟨lN,gv,iv⟩:=zB N;refine zAy p ([]:List yE) 0 lN gv iR h1 h h3 nG nO ?_ ?_
 ·intro ku aq p4 c3 aA ry fu h5;subst lN;refine zT<|uX [2,3] rfl<|xH<|xT 0 rfl ?_;intro mm ib cF;have gt:=SL.of_frozen cF ib h5;exact wD iv (resU rfl rfl) zN ⟨_,_,rfl,rfl,gt,rfl⟩
 intro r0 I9 gm m9 aV bS aW;subst aV;refine zS<|zG ?_;obtain rfl:=zC iv;exact fO aW
def pX(p:zH):Option (Bool):=do
 let (y1,y2)<-oK p;pure (id y2)
theorem oZ:∀p r,pX p=some r->∀{I:Imm}{p1 c p2 c1},(S4 I p1 p.Arrays c)->(S4 I p2 p.Parts c1)->RT 11 [vA (cProg p p1 c p2 c1)] I [] (zU  r):=by
 intro p r N I p1 c p2 c1 h h1;unfold pX at N;refine yK func11 λB=>yB<|sF (cProg p p1 c p2 c1) ?_;intro b hb;refine wP [] []<|yV<|qO 1 [0] [(6,vA (cProg p p1 c p2 c1))] ?_;obtain⟨⟨y1,y2⟩,hy,N⟩:=zB N;refine xG (zBc p _ hy h h1) ?_;rintro I0 au v2 k2 le - ⟨v0,gx,rfl,rfl,h2,rfl⟩ -;obtain⟨p3,c2,rfl⟩:=h2.form;refine yI [] [4] rfl<|uX [2] rfl<|zK<|yX ?_;obtain rfl:=zC N;exact vG
def kS(i:Int):Option Str:=if -9223372036854775808<=i/\i<=9223372036854775807 then some ⟨Lib.itoa i⟩ else none
theorem zAD:∀i r,kS i=some r->∀{I:Imm},GH Tryz.prog I->RT 87 [vI i] I [] (xM r):=by
 intro i r N I hG;unfold kS at N;split at N
 ·rename_i hi;cases N
  exact zP6 (λw g=>Tryz.strconv_Itoa i hi.1 hi.2 w (hG.tab g)) (λk=>⟨_,rfl,rfl,rfl⟩)
 cases N
def zCn(b0:Nat)(r:Str):KT:=λkk I' ah v=>
 ∃k0,ah=[.blk b0 ⟨k0⟩]/\v=tupV []/\Rp.rep I' k0 r
def mC(n0:Int)(x:Str):Option (Str):=do
 let x1<-(do
  if(decide (n0<0)) then
   let s<-cat x (⟨[45]⟩:Str);pure (id s)
  else
   let x2<-(do
    if(!(x.l==([]:List UInt8))) then
     let s1<-cat x (⟨[43]⟩:Str);pure (id s1)
    else
     pure (id x)
      : Option Str)
   pure (id x2)
    : Option Str)
 pure (id x1)
theorem zAq:∀n0 x r,mC n0 x=some r->∀{I:Imm}{r0},RT 214 [vI n0,vP r0 0] I [hB r0 [vT x.l]] (zCn r0 r):=by
 intro n0 x r N I r0;unfold mC at N;refine yK func214 λB=>?_;have H:=iS I;refine yG [4] rfl<|zK ?_;obtain⟨o0,aC,aO⟩:=zB N;refine rR (λI' ah m'=>∃(x1:Str),o0=x1/\I.le I'/\ah=[hB r0 [vT x1.l]]/\m'=[]) ?_ ?_
 ·have H:=iS I;refine yC aC ?_ ?_
  ·intro hc N;refine zM<|zZ 1 [0] [5] rfl ?_;obtain⟨s,hy,N⟩:=zB N;exact qP rfl hy<|yZ 0 [vT s.l] rfl<|zW rfl<|yP<|zQ (ct N H)
  intro hc N;refine yB<|yI [0] [8] rfl<|zK ?_;obtain⟨aS,aE,bK⟩:=zB N;refine rR (λI' ah m'=>∃(x2:Str),aS=x2/\I.le I'/\ah=[hB r0 [vT x2.l]]/\m'=[]) ?_ ?_
  ·have H:=iS I;refine yC aE ?_ ?_
   ·intro aI N;refine zM<|zZ 1 [0] [9] rfl ?_;obtain⟨s1,ay,N⟩:=zB N;exact qP rfl ay<|yZ 0 [vT s1.l] rfl<|zW rfl<|yP<|zQ (ct N H)
   intro aI N;exact zR<|yP<|zQ (ct N H)
  rintro aT au m2 ⟨x2,ec,le,rfl,rfl⟩;subst aS;have H:=H.trans le;exact yP<|zQ (ct bK H)
 rintro I0 au m2 ⟨x1,ca,ae,rfl,rfl⟩;subst o0;obtain rfl:=zC aO;exact zQK ⟨_,_,ResV.nil,(zV [0] rfl (by decide)),⟨_,rfl,rfl,rfl⟩⟩
def rH(a0:zA)(fi:Int)(x:Str):Option (Str):=do
 if(decide (fi<(a0.Coefs.length:Int))) then
  let x2<-idx a0.Coefs fi;if(x2==0) then rH a0 (W (fi+1)) x
  else
   let y<-mC x2 x;let x3<-(do
    if(decide ((if(W (0 - x2))>x2 then(W (0 - x2)) else x2)>1)) then
     let y1<-kS (if(W (0 - x2))>x2 then(W (0 - x2)) else x2);let s<-cat y1 (⟨[42]⟩:Str);let s1<-cat y s;pure (id s1)
    else
     pure (id y)
      : Option Str)
   let s2<-sslc (⟨[105,106,107,108]⟩:Str) fi (W (fi+1));let s3<-cat x3 s2;rH a0 (W (fi+1)) s3
 else pure (id x)
 partial_fixpoint
theorem zDQ(a0:zA):∀(fi:Int) (x:Str) (o:Str),rH a0 fi x=some o->∀{B}{I0 I:Imm}{Q p c}{b b1},I0.le I->(S4 I p a0.Coefs c)->(GH Tryz.prog I)->NG Q->NO Q->(∀I' x1,o=x1->I0.le I'->T 59 B Q (.exit 0) I' [hB b1 [vT x1.l],hB b (cAff a0 p c)] [(1,vP b 0),(3,vP b1 0),(4,.func (.func 214) ⟨[]⟩ ⟨[vP b1 0]⟩)])->J Tryz.prog 59 B (nav (bodyOf f174) [1,1,1,0,1,0]) Q I [hB b1 [vT x.l],hB b (cAff a0 p c)] [(1,vP b 0),(3,vP b1 0),(4,.func (.func 214) ⟨[]⟩ ⟨[vP b1 0]⟩),(10,vS p a0.Coefs c),(11,vI (a0.Coefs.length:Int)),(12,vI fi)]:=by
 refine rH.partial_correctness a0 _ λaQ ih fi x o N B I0 I Q p c b b1 H h hG hg ho hx=>xD hg ho<|yG [13] rfl<|zY<|yC N ?_ ?_
 ·intro hc N;refine zR<|zY<|yM<|yB<|zZ 1 [] [14] rfl<|bE N λx2 hy N=>wJ rfl rfl h hy ?_;intro ad aR av al;obtain rfl:=al;refine wC 0 av [vI x2] (vI x2) rfl<|yI [] [5,6] rfl<|zY<|yG [18] rfl<|zK<|yC N ?_ ?_
  ·intro aI N;exact zGO<|fR<|zT<|zK<|zM<|yI [] [12] rfl<|xB<|jH<|ih (W (fi+1)) x _ N H h hG hg ho hx
  intro aI N;refine zR<|yV<|zZ 2 [] [19,20] rfl<|bE N λy ay N=>zHf (hs1:=[hB b1 [vT x.l]]) (rest:=[hB b (cAff a0 p c)]) rfl rfl (by kernel_rfl) rfl rfl (zAq x2 x _ ay ) ?_;rintro I0 au v2 k2 le - ⟨kk,rfl,rfl,h1⟩ -;have ⟨h,hG,H⟩:=m3 le h hG H;obtain rfl:=h1;refine zW rfl<|zY<|yG [7] rfl<|uX [27] rfl<|zK ?_;obtain⟨o0,aC,aO⟩:=zB N;refine rR (λI' ah m'=>∃(x3:Str),o0=x3/\I0.le I'/\ah=[hB b1 [vT x3.l],hB b (cAff a0 p c)]/\m'=[(1,vP b 0),(3,vP b1 0),(4,.func (.func 214) ⟨[]⟩ ⟨[vP b1 0]⟩),(5,vI fi),(10,vS p a0.Coefs c),(11,vI (a0.Coefs.length:Int)),(12,vI fi)]) ?_ ?_
  ·have H:=iS I0;refine yC aC ?_ ?_
   ·intro aU N;obtain⟨y1,aK,N⟩:=zB N;obtain⟨s,bc,N⟩:=zB N;obtain⟨s1,bL,N⟩:=zB N;refine vK [.p (vT y.l) [0],.p (vI (if(W (0 - x2))>x2 then(W (0 - x2)) else x2)) [],.q (vT y1.l),.q (vT s.l),.q (vT s1.l)] [[],[],[(1,F9)],[(2,F9)],[(0,F9),(3,F9)]] [hB b1 [vT y.l],hB b (cAff a0 p c)] [] [(4,F9)] (zX [0,1]) ?_ ?_
    ·refine O2<|Oq ?_<|Oq ?_<|Oq ?_<|On
     ·intro I1 hf ae;refine yW [29] rfl ?_;have H:=iS I1;have hG:=hG.mono ae;refine xG (zAD (if(W (0 - x2))>x2 then(W (0 - x2)) else x2) _ aK hG) ?_;rintro aY au v2 k2 ae - ⟨v0,rfl,rfl,rfl⟩ -;have H:=H.trans ae;exact yQ H
     ·intro I1 hf ae;exact yW [30] rfl<|qP rfl bc<|yQ iR
     intro I1 hf ae;exact yW [28,31] rfl<|qP rfl bL<|yQ iR
    intro bP aJ;refine yW [1,3,4,5,10,11,12,32] rfl ?_;have H:=H.trans aJ;exact yZ 0 [vT s1.l] rfl<|zW rfl<|yP<|zQ (ct N H)
   intro aU N;exact zR<|yP<|zQ (ct N H)
  rintro aT au m2 ⟨x3,ec,aL,rfl,rfl⟩;subst o0;have ⟨h,hG,H⟩:=m3 aL h hG H;refine zK ?_;obtain⟨s2,bX,N⟩:=zB aO;obtain⟨s3,cx,N⟩:=zB N;refine vK [.p (vT x3.l) [0],.p (vI fi) [],.p (vI fi) [],.p (vI (W (fi+1))) [],.q (vT s2.l),.q (vT s3.l)] [[],[],[],[(2,F9)],[(1,F9),(3,F9)],[(0,F9),(4,F9)]] [hB b1 [vT x3.l],hB b (cAff a0 p c)] [] [(5,F9)] (zX [0,1]) ?_ ?_
  ·refine O4<|Oq ?_<|Oq ?_<|On
   ·intro I1 hf ae;exact yW [34,36] rfl<|zB8 rfl bX<|yQ iR
   intro I1 hf ae;exact yW [33,37] rfl<|qP rfl cx<|yQ iR
  intro cI bb;refine yW [1,3,4,10,11,12,38] rfl ?_;have ⟨h,hG,H⟩:=m3 bb h hG H;exact yZ 0 [vT s3.l] rfl<|zW rfl<|zO<|zK<|zM<|yI [] [12] rfl<|xB<|jH<|ih (W (fi+1)) s3 _ N H h hG hg ho hx
 intro hc N;exact uR<|yP<|hx _ _ (zC N).symm H
def nV(a0:zA):Option (Str):=do
 let x1<-rH a0 0 (⟨[]⟩:Str);let x4<-(do
  if(a0.Const != 0) then
   let y2<-mC a0.Const x1;let y3<-kS (if(W (0 - a0.Const))>a0.Const then(W (0 - a0.Const)) else a0.Const);let s4<-cat y2 y3;pure (id s4)
  else
   pure (id x1)
    : Option Str)
 if(x4.l==([]:List UInt8)) then pure (⟨[48]⟩:Str)
 else pure (id x4)
theorem zAI:∀a0 r,nV a0=some r->∀{I:Imm}{p c},(S4 I p a0.Coefs c)->(GH Tryz.prog I)->RT 174 [vA (cAff a0 p c)] I [] (xM  r):=by
 intro a0 r N I p c h hG;unfold nV at N;refine yK func174 λB=>?_;have H:=iS I;refine yB<|sF (cAff a0 p c) ?_;intro b hb;refine wP [] []<|yV<|wT [vT ([])] ?_;intro b1 cp;refine yZ 0 [vT ([])] rfl<|zW rfl<|uX [4] rfl<|zY<|yB<|yI [1] [10,11,12] rfl<|vC<|mM [(1,vP b 0),(3,vP b1 0),(4,.func (.func 214) ⟨[]⟩ ⟨[vP b1 0]⟩),(10,vS p a0.Coefs c),(11,vI (a0.Coefs.length:Int)),(12,vI 0)] ?_;obtain⟨aS,aE,aM⟩:=zB N;refine zDQ a0 0 (⟨[]⟩:Str) aS aE iR h hG nG nO ?_;intro dw x1 ca bI;subst aS;have ⟨hG,H⟩:=m2 bI hG H;refine zT<|zY<|yB<|yI [1] [42] rfl<|zK ?_;obtain⟨dd,bh,bK⟩:=zB aM;refine rR (λI' ah m'=>∃(x4:Str),dd=x4/\dw.le I'/\ah=[hB b1 [vT x4.l]]/\m'=[(3,vP b1 0)]) ?_ ?_
 ·have H:=iS dw;refine yC bh ?_ ?_
  ·intro bU N;refine yB<|zZ 3 [1] [43,45] rfl<|bE N λy2 cV N=>zHf (hs1:=[hB b1 [vT x1.l]]) (rest:=[hB b (cAff a0 p c)]) rfl rfl (by kernel_rfl) rfl rfl (zAq a0.Const x1 _ cV ) ?_;rintro ij au v2 k2 bJ - ⟨oe,rfl,rfl,h3⟩ -;have ⟨hG,H⟩:=m2 bJ hG H;obtain rfl:=h3;refine zW rfl<|zK ?_;obtain⟨y3,eo,N⟩:=zB N;obtain⟨s4,gi,N⟩:=zB N;refine vK [.p (vT y2.l) [0],.p (vP b 1) [],.p (vI a0.Const) [1],.p (vP b 1) [],.p (vI a0.Const) [1],.p (vI (W (0 - a0.Const))) [],.p (vI (if(W (0 - a0.Const))>a0.Const then(W (0 - a0.Const)) else a0.Const)) [],.q (vT y3.l),.q (vT s4.l)] [[],[],[(1,F9)],[],[(3,F9)],[(4,F9)],[(2,F9),(5,F9)],[(6,F9)],[(0,F9),(7,F9)]] [hB b1 [vT y2.l],hB b (cAff a0 p c)] [] [(8,F9)] (zX [0,1]) ?_ ?_
   ·refine O4<|O3<|Oq ?_<|Oq ?_<|On
    ·intro I1 hf ae;refine yW [53] rfl ?_;have H:=iS I1;have hG:=hG.mono ae;refine xG (zAD (if(W (0 - a0.Const))>a0.Const then(W (0 - a0.Const)) else a0.Const) _ eo hG) ?_;rintro iE au v2 k2 bZ - ⟨gx,rfl,rfl,rfl⟩ -;have H:=H.trans bZ;exact yQ H
    intro I1 hf ae;exact yW [47,54] rfl<|qP rfl gi<|yQ iR
   intro jx dt;refine yW [3,55] rfl ?_;have H:=H.trans dt;exact yZ 0 [vT s4.l] rfl<|zW rfl<|wI (zV [0] rfl (by decide))<|yP<|zQ (ct N H)
  intro bU N;exact zR<|wI (zV [0] rfl (by decide))<|yP<|zQ (ct N H)
 rintro gk au m2 ⟨x4,jo,bS,rfl,rfl⟩;subst dd;refine zY<|yB<|yI [0] [57] rfl<|zK<|yC bK ?_ ?_
 ·intro cO N;refine yG [2] rfl<|xH<|zG ?_;obtain rfl:=zC N;exact vG
 intro cO N;refine zR<|yV<|yI [0] [2] rfl<|zK<|yX ?_;obtain rfl:=zC N;exact vG
def zAX(db:List Str)(sep:Str):Option Str:=if db.length<=140737488355328/\(Lib.join (db.map (·.l)) sep.l).length<=140737488355328 then some ⟨Lib.join (db.map (·.l)) sep.l⟩ else none
theorem zH1:∀db sep r,zAX db sep=some r->∀{I:Imm}{p c},SL I (vS p db c) db->RT 175 [vS p db c,vT sep.l] I [] (xM r):=by
 intro db sep r N I p c h;unfold zAX at N;split at N
 ·rename_i hi;cases N
  exact zOQ hi.1 hi.2 h (λa c w=>Tryz.strings_Join_none a c ⟨⟨sep.l⟩⟩ w) (λbk o c xs w h1 h2 h3 h4 h5=>Tryz.strings_Join bk o c xs ⟨⟨sep.l⟩⟩ w h1 h2 h3 h4 h5) λk=>⟨_,rfl,rfl,rfl⟩
 cases N
def qF(ai:(List zA))(out:List Str)(t8:Int):Option (List Str):=do
 if(decide (t8<(ai.length:Int))) then
  let x<-idx ai t8;let y<-nV x;let aD<-app 16 out ([y]:List Str);qF ai aD (W (t8+1))
 else pure (id out)
 partial_fixpoint
theorem zCo(ai:(List zA)):∀(out:List Str) (t8:Int) (o:List Str),qF ai out t8=some o->∀{B}{I0 I:Imm}{Q p c p1 c1 cs},I0.le I->(S4 I p ai c)->(GH Tryz.prog I)->(RL I cs out)->NG Q->NO Q->(∀I' aq p2 c2 aA,o=aq->I0.le I'->(RL I' aA aq)->T 20 B Q (.exit 0) I' [hO Str (vS p2 aq c2) aA] [(3,vS p2 aq c2)])->J Tryz.prog 20 B (nav (bodyOf f110) [1,1,0,1,0]) Q I [hO Str (vS p1 out c1) cs] [(3,vS p1 out c1),(6,vS p ai c),(7,vI (ai.length:Int)),(8,vI t8)]:=by
 refine qF.partial_correctness ai _ λaQ ih out t8 o N B I0 I Q p c p1 c1 cs H h hG h2 hg ho hx=>xD hg ho<|yG [9] rfl<|zY<|yC N ?_ ?_
 ·intro hc N;refine zR<|zY<|yM<|yB<|bE N λx hy N=>wJ rfl rfl h hy ?_;intro ad aR av al;obtain⟨p3,c3,rfl,h4⟩:=yF al;refine wC 0 av (cAff x p3 c3) (vA (cAff x p3 c3)) rfl<|wT [z0,vI 0] ?_;intro b hb;refine yZ 0 (cAff x p3 c3) rfl<|zW rfl<|zK<|zM<|qO 2 [0] [(12,vS p1 out c1),(13,vA (cAff x p3 c3))]<|bE N λy ay N=>xG (zAI x _ ay h4 hG) ?_;rintro I0 au v2 k2 le - ⟨gx,rfl,rfl,rfl⟩ -;have ⟨h,h2,hG,H⟩:=m4 le h h2 hG H;refine qN [vT y.l] Str ?_;intro b1 cp;have h6:RL I0 [vT y.l] ([y]:List Str):=rT [y];obtain⟨aD,aK,N⟩:=zB N;exact mD 9 1 2 rfl rfl rfl h2 (.inr ⟨0,rfl⟩) h6 aK λp4 c4 bv h7=>qM (zX [1,2] (ah:=[hB b (cAff x p3 c3),hO Str (vS p4 aD c4) bv]))<|yI [] [3] rfl<|zO<|zK<|zM<|yI [] [8] rfl<|xB<|kT (zV [1] rfl (by decide))<|jH<|ih aD (W (t8+1)) _ N H h hG h7 hg ho hx
 intro hc N;exact uR<|yP<|hx _ _ _ _ _ (zC N).symm H h2
def oT(ai:(List zA)):Option (Str):=do
 let aq<-qF ai ([]:List Str) 0;let y1<-zAX aq (⟨[44]⟩:Str);pure (id y1)
theorem dQ:∀ai r,oT ai=some r->∀{I:Imm}{p c},(S4 I p ai c)->(GH Tryz.prog I)->RT 110 [vS p ai c] I [] (xM  r):=by
 intro ai r N I p c h hG;unfold oT at N;refine yK func110 λB=>vO []<|zFT [(3,z0)]<|zY<|yG [6,7,8] rfl<|vC<|mM [(3,z0),(6,vS p ai c),(7,vI (ai.length:Int)),(8,vI 0)]<|zB9 Str λh1=>?_;obtain⟨o0,aC,aM⟩:=zB N;refine zCo ai ([]:List Str) 0 o0 aC iR h hG h1 nG nO ?_;intro aT aq p2 c2 aA ec ae h3;subst o0;refine zT<|yV<|zZ 1 [] [18] rfl<|wG 0 rfl ?_;intro aY aJ cH;have h8:=SL.of_frozen cH aJ h3;obtain⟨y1,bc,N⟩:=zB aM;refine xG (zH1 aq (⟨[44]⟩:Str) _ bc h8) ?_;rintro bP au v2 k2 aL - ⟨ig,rfl,rfl,rfl⟩ -;refine yI [] [2] rfl<|zK<|yX ?_;obtain rfl:=zC N;exact vG
def oU(nest:(List zD))(out:Str)(t8:Int):Option (Str):=do
 if(decide (t8<(nest.length:Int))) then
  let x<-idx nest t8;let y<-oT x.Lo;let s<-cat (⟨[102,111,114,32]⟩:Str) y;let s1<-cat s (⟨[32]⟩:Str);let y1<-oT x.Hi;let s2<-cat s1 y1;let s3<-cat s2 (⟨[10]⟩:Str);let s4<-cat out s3;oU nest s4 (W (t8+1))
 else pure (id out)
 partial_fixpoint
theorem zEX(nest:(List zD)):∀(out:Str) (t8:Int) (o:Str),oU nest out t8=some o->∀{B}{I0 I:Imm}{Q p c},I0.le I->(S4 I p nest c)->(GH Tryz.prog I)->NG Q->NO Q->(∀I' aq,o=aq->I0.le I'->T 26 B Q (.exit 0) I' [] [(3,vT aq.l)])->J Tryz.prog 26 B (nav (bodyOf f58) [1,1,0,1,0]) Q I [] [(3,vT out.l),(6,vS p nest c),(7,vI (nest.length:Int)),(8,vI t8)]:=by
 refine oU.partial_correctness nest _ λaQ ih out t8 o N B I0 I Q p c H h hG hg ho hx=>xD hg ho<|yG [9] rfl<|zY<|yC N ?_ ?_
 ·intro hc N;refine zR<|zY<|yM<|yB<|bE N λx hy N=>wJ rfl rfl h hy ?_;intro ad aR av al;obtain⟨p1,c1,p2,c2,rfl,h1,h2⟩:=vZ al;refine wC 0 av (cLoop x p1 c1 p2 c2) (vA (cLoop x p1 c1 p2 c2)) rfl<|wT zTwo ?_;intro b hb;refine yZ 0 (cLoop x p1 c1 p2 c2) rfl<|zW rfl<|zK ?_;obtain⟨y,ay,N⟩:=zB N;obtain⟨s,aK,N⟩:=zB N;obtain⟨s1,bc,N⟩:=zB N;obtain⟨y1,bL,N⟩:=zB N;obtain⟨s2,bX,N⟩:=zB N;obtain⟨s3,cx,N⟩:=zB N;obtain⟨s4,cV,N⟩:=zB N;refine vK [.p (vT out.l) [],.p (vP b 0) [],.p (vS p1 x.Lo c1) [0],.q (vT y.l),.q (vT s.l),.q (vT s1.l),.p (vP b 1) [],.p (vS p2 x.Hi c2) [0],.q (vT y1.l),.q (vT s2.l),.q (vT s3.l),.q (vT s4.l)] [[],[],[(1,F9)],[(2,F9)],[(3,F9)],[(4,F9)],[],[(6,F9)],[(7,F9)],[(5,F9),(8,F9)],[(9,F9)],[(0,F9),(10,F9)]] [hB b (cLoop x p1 c1 p2 c2)] [] [(11,F9)] (zX [0]) ?_ ?_
  ·refine O3<|Oq ?_<|Oq ?_<|Oq ?_<|O2<|Oq ?_<|Oq ?_<|Oq ?_<|Oq ?_<|On
   ·intro I1 hf ae;refine yW [14] rfl ?_;have H:=iS I1;have ⟨h1,hG⟩:=m2 ae h1 hG;refine xG (dQ x.Lo _ ay h1 hG) ?_;rintro I0 au v2 k2 le - ⟨ig,rfl,rfl,rfl⟩ -;have H:=H.trans le;exact yQ H
   ·intro I1 hf ae;exact yW [15] rfl<|qP rfl aK<|yQ iR
   ·intro I1 hf ae;exact yW [16] rfl<|qP rfl bc<|yQ iR
   ·intro I1 hf ae;refine yW [19] rfl ?_;have H:=iS I1;have ⟨h2,hG⟩:=m2 ae h2 hG;refine xG (dQ x.Hi _ bL h2 hG) ?_;rintro aT au v2 k2 ae - ⟨ng,rfl,rfl,rfl⟩ -;have H:=H.trans ae;exact yQ H
   ·intro I1 hf ae;exact yW [17,20] rfl<|qP rfl bX<|yQ iR
   ·intro I1 hf ae;exact yW [21] rfl<|qP rfl cx<|yQ iR
   intro I1 hf ae;exact yW [12,22] rfl<|qP rfl cV<|yQ iR
  intro aY aJ;refine yW [6,7,8,23] rfl ?_;have ⟨h,hG,H⟩:=m3 aJ h hG H;exact yI [] [3] rfl<|zO<|zK<|zM<|yI [] [8] rfl<|xB<|kT zN<|jH<|ih s4 (W (t8+1)) _ N H h hG hg ho hx
 intro hc N;exact uR<|yP<|hx _ _ (zC N).symm H
def eI(nest:(List zD)):Option (Str):=do
 let aq<-oU nest (⟨[]⟩:Str) 0;pure (id aq)
theorem zGi:∀nest r,eI nest=some r->∀{I:Imm}{p c},(S4 I p nest c)->(GH Tryz.prog I)->RT 58 [vS p nest c] I [] (xM  r):=by
 intro nest r N I p c h hG;unfold eI at N;refine yK func58 λB=>vO []<|uX [3] rfl<|zY<|yG [6,7,8] rfl<|vC<|mM [(3,vT ([])),(6,vS p nest c),(7,vI (nest.length:Int)),(8,vI 0)] ?_;obtain⟨o0,aC,aM⟩:=zB N;refine zEX nest (⟨[]⟩:Str) 0 o0 aC iR h hG nG nO ?_;intro bP aq ec aL;subst o0;refine zT<|uX [2] rfl<|zK<|yX ?_;obtain rfl:=zC aM;exact vG
def kX(a0:zJ):Option (Str):=do
 let s<-cat a0.Array (⟨[91]⟩:Str);let y<-oT a0.Subs;let s1<-cat s y;let s2<-cat s1 (⟨[93]⟩:Str);pure (id s2)
theorem zB3:∀a0 r,kX a0=some r->∀{I:Imm}{p c},(S4 I p a0.Subs c)->(GH Tryz.prog I)->RT 124 [vA (cAccess a0 p c)] I [] (xM  r):=by
 intro a0 r N I p c h hG;unfold kX at N;refine yK func124 λB=>?_;have H:=iS I;refine yB<|sF (cAccess a0 p c) ?_;intro b hb;refine wP [] []<|zK<|yA ?_;obtain⟨s,hy,N⟩:=zB N;obtain⟨y,ay,N⟩:=zB N;obtain⟨s1,aK,N⟩:=zB N;obtain⟨s2,bc,N⟩:=zB N;refine vK [.p (vP b 0) [],.p (vT a0.Array.l) [0],.q (vT s.l),.p (vP b 1) [],.p (vS p a0.Subs c) [0],.q (vT y.l),.q (vT s1.l),.q (vT s2.l)] [[],[(0,F9)],[(1,F9)],[],[(3,F9)],[(4,F9)],[(2,F9),(5,F9)],[(6,F9)]] [hB b (cAccess a0 p c)] [] [(7,F9)] (zX [0]) ?_ ?_
 ·refine O2<|Oq ?_<|O2<|Oq ?_<|Oq ?_<|Oq ?_<|On
  ·intro I1 hf ae;exact yW [4] rfl<|qP rfl hy<|yQ iR
  ·intro I1 hf ae;refine yW [7] rfl ?_;have H:=iS I1;have ⟨h,hG⟩:=m2 ae h hG;refine xG (dQ a0.Subs _ ay h hG) ?_;rintro I0 au v2 k2 le - ⟨v0,rfl,rfl,rfl⟩ -;have H:=H.trans le;exact yQ H
  ·intro I1 hf ae;exact yW [5,8] rfl<|qP rfl aK<|yQ iR
  intro I1 hf ae;exact yW [9] rfl<|qP rfl bc<|yQ iR
 intro aT ae;refine yW [10] rfl ?_;refine yI [] [2] rfl<|zK<|yX ?_;obtain rfl:=zC N;exact vG
def pD(e0:zF):Option (Str):=do
 if(e0.Kind==1) then
  let y<-kS e0.Num;pure (id y)
 else
  if(e0.Kind==2) then
   let y1<-nV e0.Index;let s<-cat (⟨[123]⟩:Str) y1;let s1<-cat s (⟨[125]⟩:Str);pure (id s1)
  else
   if(e0.Kind==3) then
    let y2<-kX e0.Read;pure (id y2)
   else
    let x<-idx e0.Kids 0;let y3<-pD (same x);let s2<-cat (⟨[40]⟩:Str) y3;let s3<-sslc (⟨[43,45,42]⟩:Str) (W (e0.Kind - 4)) (W ((W (e0.Kind - 4))+1));let s4<-cat s2 s3;let x1<-idx e0.Kids 1;let y4<-pD (same x1);let s5<-cat s4 y4;let s6<-cat s5 (⟨[41]⟩:Str);pure (id s6)
 partial_fixpoint
theorem zGj:∀e0 r,pD e0=some r->∀{I:Imm}{p c p1 c1 p2 c2},(S4 I p e0.Index.Coefs c)->(S4 I p1 e0.Read.Subs c1)->(S4 I p2 e0.Kids c2)->(GH Tryz.prog I)->RT 125 [vA (cExpr e0 p c p1 c1 p2 c2)] I [] (xM  r):=by
 refine pD.partial_correctness _ λF_impl_exprText ih_impl_exprText e0 r N I p c p1 c1 p2 c2 h h1 h2 hG=>yK func125 λB=>?_;have H:=iS I;refine yB<|sF (cExpr e0 p c p1 c1 p2 c2) ?_;intro b hb;refine wP [] []<|zY<|yB<|yI [0] [5] rfl<|vC<|yG [6] rfl<|zK<|yC N ?_ ?_
 ·intro hc N;refine yB<|zZ 2 [0] [9] rfl<|bE N λy hy N=>xG (zAD e0.Num _ hy hG) ?_;rintro I0 au v2 k2 le - ⟨v0,rfl,rfl,rfl⟩ -;refine yI [] [2] rfl<|xH<|zS<|zG ?_;obtain rfl:=zC N;exact vG
 intro hc N;refine yG [11] rfl<|zK<|yC N ?_ ?_
 ·intro aI N;refine yB<|qO 2 [0] [(14,vA (cAff e0.Index p c))]<|bE N λy1 ay N=>xG (zAI e0.Index _ ay h hG) ?_;rintro aT au v2 k2 ae - ⟨gx,rfl,rfl,rfl⟩ -;obtain⟨s,aK,N⟩:=zB N;refine qP rfl aK<|bE N λs1 bc N=>qP rfl bc<|yI [] [2] rfl<|xH<|zS<|zG ?_;obtain rfl:=zC N;exact vG
 intro aI N;refine yG [18] rfl<|zK<|yC N ?_ ?_
 ·intro aU N;refine yB<|qO 2 [0] [(21,vA (cAccess e0.Read p1 c1))]<|bE N λy2 bL N=>xG (zB3 e0.Read _ bL h1 hG) ?_;rintro aY au v2 k2 aJ - ⟨ig,rfl,rfl,rfl⟩ -;refine yI [] [2] rfl<|xH<|zS<|zG ?_;obtain rfl:=zC N;exact vG
 intro aU N;refine zR<|zO<|yV<|yI [0] [3] rfl<|zK<|yA ?_;obtain⟨x,bX,N⟩:=zB N;obtain⟨y3,cx,N⟩:=zB N;obtain⟨s2,cV,N⟩:=zB N;obtain⟨s3,eo,N⟩:=zB N;obtain⟨s4,gi,N⟩:=zB N;obtain⟨x1,cU,N⟩:=zB N;obtain⟨y4,dr,N⟩:=zB N;obtain⟨s5,en,N⟩:=zB N;obtain⟨s6,iA,N⟩:=zB N;refine vK [.p (vP b 6) [],.p (vS p2 e0.Kids c2) [0],.x (ePExpr x),.x (eVExpr x),.q (vT y3.l),.q (vT s2.l),.p (vI (W (e0.Kind - 4))) [],.p (vI (W (e0.Kind - 4))) [],.p (vI (W ((W (e0.Kind - 4))+1))) [],.q (vT s3.l),.q (vT s4.l),.p (vP b 6) [],.p (vS p2 e0.Kids c2) [0],.x (ePExpr x1),.x (eVExpr x1),.q (vT y4.l),.q (vT s5.l),.q (vT s6.l)] [[],[(0,F9)],[(1,F9)],[(2,F9)],[(3,F9)],[(4,F9)],[],[],[(7,F9)],[(6,F9),(8,F9)],[(5,F9),(9,F9)],[],[(11,F9)],[(12,F9)],[(13,F9)],[(14,F9)],[(10,F9),(15,F9)],[(16,F9)]] [hB b (cExpr e0 p c p1 c1 p2 c2)] [] [(17,F9)] (zX [0]) ?_ ?_
 ·refine O2<|Ox ?_<|Ox ?_<|Oq ?_<|Oq ?_<|O3<|Oq ?_<|Oq ?_<|O2<|Ox ?_<|Ox ?_<|Oq ?_<|Oq ?_<|Oq ?_<|On
  ·intro I1 hf ae;refine yW [27] rfl ?_;have h2:=h2.mono ae;refine wJ rfl rfl h2 bX ?_;intro ad aR av al;obtain⟨p3,c3,p4,c4,p5,c5,rfl,h6,h7,h8⟩:=vJ al;exact xC [] iR ⟨_,_,_,_,_,_,_,rfl,rfl,av,h6,h7,h8⟩
  ·rintro I1 hf ae _ _ ⟨ad,p3,c3,p4,c4,p5,c5,rfl,rfl,av,h6,h7,h8⟩;exact yW [28] rfl<|wC 0 av (cExpr x p3 c3 p4 c4 p5 c5) (vA (cExpr x p3 c3 p4 c4 p5 c5)) rfl<|xC [] iR ⟨_,_,_,_,_,_,rfl,rfl,h6,h7,h8⟩
  ·rintro I1 hf ae _ _ ⟨kn,l8,iJ,iF,xk,c51,rfl,rfl,uz,rr,h81⟩;refine yW [29] rfl ?_;have H:=iS I1;have hG:=hG.mono ae;refine xG (ih_impl_exprText x _ cx uz rr h81 hG) ?_;rintro bP au v2 k2 aL - ⟨q8,rfl,rfl,rfl⟩ -;have H:=H.trans aL;exact yQ H
  ·intro I1 hf ae;exact yW [30] rfl<|qP rfl cV<|yQ iR
  ·intro I1 hf ae;exact yW [32,34] rfl<|zB8 rfl eo<|yQ iR
  ·intro I1 hf ae;exact yW [31,35] rfl<|qP rfl gi<|yQ iR
  ·intro I1 hf ae;refine yW [38] rfl ?_;have h2:=h2.mono ae;refine wJ rfl rfl h2 cU ?_;intro cD bN aw ax;obtain⟨p6,c6,p7,c7,p8,c8,rfl,bQ,bB,bW⟩:=vJ ax;exact xC [] iR ⟨_,_,_,_,_,_,_,rfl,rfl,aw,bQ,bB,bW⟩
  ·rintro I1 hf ae _ _ ⟨cD,p6,c6,p7,c7,p8,c8,rfl,rfl,aw,bQ,bB,bW⟩;exact yW [39] rfl<|wC 0 aw (cExpr x1 p6 c6 p7 c7 p8 c8) (vA (cExpr x1 p6 c6 p7 c7 p8 c8)) rfl<|xC [] iR ⟨_,_,_,_,_,_,rfl,rfl,bQ,bB,bW⟩
  ·rintro I1 hf ae _ _ ⟨vi,th,sr,wx,p81,c81,rfl,rfl,mt,lE,tk⟩;refine yW [40] rfl ?_;have H:=iS I1;have hG:=hG.mono ae;refine xG (ih_impl_exprText x1 _ dr mt lE tk hG) ?_;rintro cI au v2 k2 bb - ⟨ut,rfl,rfl,rfl⟩ -;have H:=H.trans bb;exact yQ H
  ·intro I1 hf ae;exact yW [36,41] rfl<|qP rfl en<|yQ iR
  intro I1 hf ae;exact yW [42] rfl<|qP rfl iA<|yQ iR
 intro dw bI;refine yW [43] rfl ?_;refine yI [] [2] rfl<|zK<|yX ?_;obtain rfl:=zC N;exact vG
def gE(s:zI):Option (Str):=do
 let y<-kX s.Write;let s1<-cat y (⟨[61]⟩:Str);let y1<-pD s.Value;let s2<-cat s1 y1;pure (id s2)
theorem zC6:∀s r,gE s=some r->∀{I:Imm}{p c p1 c1 p2 c2 p3 c3},(S4 I p s.Write.Subs c)->(S4 I p1 s.Value.Index.Coefs c1)->(S4 I p2 s.Value.Read.Subs c2)->(S4 I p3 s.Value.Kids c3)->(GH Tryz.prog I)->RT 74 [vA (cStmt s p c p1 c1 p2 c2 p3 c3)] I [] (xM  r):=by
 intro s r N I p c p1 c1 p2 c2 p3 c3 h h1 h2 h3 hG;unfold gE at N;refine yK func74 λB=>?_;have H:=iS I;refine yB<|sF (cStmt s p c p1 c1 p2 c2 p3 c3) ?_;intro b hb;refine wP [] []<|zK<|yA ?_;obtain⟨y,hy,N⟩:=zB N;obtain⟨s1,ay,N⟩:=zB N;obtain⟨y1,aK,N⟩:=zB N;obtain⟨s2,bc,N⟩:=zB N;refine vK [.p (vP b 0) [],.p (vA (cAccess s.Write p c)) [0],.q (vT y.l),.q (vT s1.l),.p (vP b 2) [],.p (vA (cExpr s.Value p1 c1 p2 c2 p3 c3)) [0],.q (vT y1.l),.q (vT s2.l)] [[],[(0,F9)],[(1,F9)],[(2,F9)],[],[(4,F9)],[(5,F9)],[(3,F9),(6,F9)]] [hB b (cStmt s p c p1 c1 p2 c2 p3 c3)] [] [(7,F9)] (zX [0]) ?_ ?_
 ·refine O2<|Oq ?_<|Oq ?_<|O2<|Oq ?_<|Oq ?_<|On
  ·intro I1 hf ae;refine yW [4] rfl ?_;have H:=iS I1;have ⟨h,hG⟩:=m2 ae h hG;refine xG (zB3 s.Write _ hy h hG) ?_;rintro I0 au v2 k2 le - ⟨v0,rfl,rfl,rfl⟩ -;have H:=H.trans le;exact yQ H
  ·intro I1 hf ae;exact yW [5] rfl<|qP rfl ay<|yQ iR
  ·intro I1 hf ae;refine yW [8] rfl ?_;have H:=iS I1;have ⟨h1,h2,h3,hG⟩:=m4 ae h1 h2 h3 hG;refine xG (zGj s.Value _ aK h1 h2 h3 hG) ?_;rintro aT au v2 k2 ae - ⟨gx,rfl,rfl,rfl⟩ -;have H:=H.trans ae;exact yQ H
  intro I1 hf ae;exact yW [6,9] rfl<|qP rfl bc<|yQ iR
 intro aY aJ;refine yW [10] rfl ?_;refine yI [] [2] rfl<|zK<|yX ?_;obtain rfl:=zC N;exact vG
end Go.LN
