/- Helper of the proof (see the last text). -/
import Derived.Test.YtkipogionmkncaaGreatLnO
import Derived.Test.YtkipogionmkncaaGreatTryzShelf
set_option linter.unusedVariables false
set_option linter.unusedSimpArgs false
namespace Go.LN
open Go.Proofs Go.Proofs.Tryz
set_option maxRecDepth 20000
abbrev eS{α:Type}[Rp α](l:List α):Imm->Value->List HA->Prop:=λI' v hx=>∃p c,v=vS p l c/\hx=[]/\S4 I' p l c
abbrev ePExpr(x:zD):Imm->Value->List HA->Prop:=λI' v hx=>∃ad p0 c0 p1 c1 p2 c2,v=.pointer (some ad)/\hx=[]/\At I' ad (cExpr x p0 c0 p1 c1 p2 c2)/\S4 I' p0 x.Index.Coefs c0/\S4 I' p1 x.Read.Subs c1/\S4 I' p2 x.Kids c2
abbrev eQExpr(k:Nat)(x:zD):Imm->Value->List HA->Prop:=λI' v hx=>∃ad p0 c0 p1 c1 p2 c2,v=.pointer (some (ad.add k))/\hx=[]/\At I' ad (cExpr x p0 c0 p1 c1 p2 c2)/\S4 I' p0 x.Index.Coefs c0/\S4 I' p1 x.Read.Subs c1/\S4 I' p2 x.Kids c2
abbrev eVExpr(x:zD):Imm->Value->List HA->Prop:=λI' v hx=>∃p0 c0 p1 c1 p2 c2,v=vA (cExpr x p0 c0 p1 c1 p2 c2)/\hx=[]/\S4 I' p0 x.Index.Coefs c0/\S4 I' p1 x.Read.Subs c1/\S4 I' p2 x.Kids c2
abbrev ePStmt(x:zJ):Imm->Value->List HA->Prop:=λI' v hx=>∃ad p0 c0 p1 c1 p2 c2 p3 c3,v=.pointer (some ad)/\hx=[]/\At I' ad (cStmt x p0 c0 p1 c1 p2 c2 p3 c3)/\S4 I' p0 x.Write.Subs c0/\S4 I' p1 x.Value.Index.Coefs c1/\S4 I' p2 x.Value.Read.Subs c2/\S4 I' p3 x.Value.Kids c3
abbrev eQStmt(k:Nat)(x:zJ):Imm->Value->List HA->Prop:=λI' v hx=>∃ad p0 c0 p1 c1 p2 c2 p3 c3,v=.pointer (some (ad.add k))/\hx=[]/\At I' ad (cStmt x p0 c0 p1 c1 p2 c2 p3 c3)/\S4 I' p0 x.Write.Subs c0/\S4 I' p1 x.Value.Index.Coefs c1/\S4 I' p2 x.Value.Read.Subs c2/\S4 I' p3 x.Value.Kids c3
abbrev eVStmt(x:zJ):Imm->Value->List HA->Prop:=λI' v hx=>∃p0 c0 p1 c1 p2 c2 p3 c3,v=vA (cStmt x p0 c0 p1 c1 p2 c2 p3 c3)/\hx=[]/\S4 I' p0 x.Write.Subs c0/\S4 I' p1 x.Value.Index.Coefs c1/\S4 I' p2 x.Value.Read.Subs c2/\S4 I' p3 x.Value.Kids c3
abbrev ePAff(x:zC):Imm->Value->List HA->Prop:=λI' v hx=>∃ad p0 c0,v=.pointer (some ad)/\hx=[]/\At I' ad (cAff x p0 c0)/\S4 I' p0 x.Coefs c0
abbrev eVAff(x:zC):Imm->Value->List HA->Prop:=λI' v hx=>∃p0 c0,v=vA (cAff x p0 c0)/\hx=[]/\S4 I' p0 x.Coefs c0
abbrev ePArr(x:zI):Imm->Value->List HA->Prop:=λI' v hx=>∃ad p0 c0,v=.pointer (some ad)/\hx=[]/\At I' ad (cArr x p0 c0)/\S4 I' p0 x.Dims c0
abbrev eQArr(k:Nat)(x:zI):Imm->Value->List HA->Prop:=λI' v hx=>∃ad p0 c0,v=.pointer (some (ad.add k))/\hx=[]/\At I' ad (cArr x p0 c0)/\S4 I' p0 x.Dims c0
abbrev eVArr(x:zI):Imm->Value->List HA->Prop:=λI' v hx=>∃p0 c0,v=vA (cArr x p0 c0)/\hx=[]/\S4 I' p0 x.Dims c0
abbrev ePPart(x:zN):Imm->Value->List HA->Prop:=λI' v hx=>∃ad p0 c0 p1 c1,v=.pointer (some ad)/\hx=[]/\At I' ad (cPart x p0 c0 p1 c1)/\S4 I' p0 x.Nest c0/\S4 I' p1 x.Body c1
abbrev eQPart(k:Nat)(x:zN):Imm->Value->List HA->Prop:=λI' v hx=>∃ad p0 c0 p1 c1,v=.pointer (some (ad.add k))/\hx=[]/\At I' ad (cPart x p0 c0 p1 c1)/\S4 I' p0 x.Nest c0/\S4 I' p1 x.Body c1
abbrev eVPart(x:zN):Imm->Value->List HA->Prop:=λI' v hx=>∃p0 c0 p1 c1,v=vA (cPart x p0 c0 p1 c1)/\hx=[]/\S4 I' p0 x.Nest c0/\S4 I' p1 x.Body c1
abbrev ePLoop(x:zL):Imm->Value->List HA->Prop:=λI' v hx=>∃ad p0 c0 p1 c1,v=.pointer (some ad)/\hx=[]/\At I' ad (cLoop x p0 c0 p1 c1)/\S4 I' p0 x.Lo c0/\S4 I' p1 x.Hi c1
abbrev eVLoop(x:zL):Imm->Value->List HA->Prop:=λI' v hx=>∃p0 c0 p1 c1,v=vA (cLoop x p0 c0 p1 c1)/\hx=[]/\S4 I' p0 x.Lo c0/\S4 I' p1 x.Hi c1
abbrev eVAccess(x:zK):Imm->Value->List HA->Prop:=λI' v hx=>∃p0 c0,v=vA (cAccess x p0 c0)/\hx=[]/\S4 I' p0 x.Subs c0
abbrev RT:=Ret Tryz.prog
def zCV(r:zI):KT:=λkk I' aj v=>
 ∃v0,aj=[]/\v=tupV [v0]/\(∃cs,v0=.agg ⟨cs⟩/\Rp.rep I' cs r)
def gK(x:zI):Option (zI):=do
 let l<-app 8 ([]:List Int) x.Dims
 pure (zI.mk x.Name l)
theorem zDR:∀x r,gK x=some r->∀{I:Imm}{p c},(S4 I p x.Dims c)->RT 58 [vA (cArr x p c)] I [] (zCV  r):=by
 intro x r N I p c h;unfold gK at N;refine yM func58 λB=>yJ<|uA (cArr x p c) ?_;intro b hb;refine nV [vT ([]),z0] ?_;intro b1 hb1;refine zX rfl<|wG<|jJ [] Int ?_;intro b2 hb2;have h1:RL I [] ([]:List Int):=rfl;refine yR 3 [2] [5] rfl ?_;obtain⟨aF,k0,k01⟩:=h;have h:SL I (vS p x.Dims c) x.Dims:=⟨_,k0,k01⟩;obtain⟨l,hy,N⟩:=zF N;refine fU 3 1 0 rfl rfl rfl h1 (.inl k0) k01 hy ?_;intro p1 c1 cs h2;refine dY (xD [0,1,2] (aj:=[hO Int (vS p1 l c1) cs,hB b1 [vT ([]),z0],hB b (cArr x p c)]))<|yR 5 [] [7] rfl<|tA 2 [vT x.Name.l,vS p1 l c1] rfl<|zX rfl<|wG<|xF 1 [2] [(8,vA [vT x.Name.l,vS p1 l c1])]<|tA 1 [vT x.Name.l,vS p1 l c1] rfl<|zX rfl<|yS<|uY 0 rfl ?_;intro I0 le hl0;have h3:=SL.of_frozen hl0 le h2;obtain rfl:=zB N;exact yV ⟨_,_,(.cell 0 rfl rfl (by kernel_rfl) ResV.nil),zO,⟨_,rfl,rfl,⟨_,rfl,(gS ⟨_,rfl,h3⟩)⟩⟩⟩
def zBB(r:(List zI)):KT:=λkk I' aj v=>
 ∃v0,aj=[]/\v=tupV [v0]/\SL I' v0 r
def vK(ag:(List zI))(out:List zI)(t9:Int):Option (List zI):=do
 if(decide (t9<(ag.length:Int))) then
  let x<-idx ag t9
  let y<-gK x
  let ar<-app 40 out ([y]:List zI)
  vK ag ar (W (t9+1))
 else
  pure (id out)
 partial_fixpoint
theorem zAr(ag:(List zI)):∀(out:List zI) (t9:Int) (o:List zI),vK ag out t9=some o->∀{B}{I0 I:Imm}{Q p c p1 c1 cs},I0.le I->(S4 I p ag c)->(RL I cs out)->NG Q->NO Q->(∀(I':Imm) (ak:List zI) (p2:Option Addr) (c2:Nat) (aM:List Value),o=ak->I0.le I'->(RL I' aM ak)->T 20 B Q (.exit 0) I' [hO zI (vS p2 ak c2) aM] [(3,vS p2 ak c2)])->J Tryz.prog 20 B (nav (bodyOf f30) [1,1,0,1,0]) Q I [hO zI (vS p1 out c1) cs] [(3,vS p1 out c1),(7,vS p ag c),(8,vI (ag.length:Int)),(9,vI t9)]:=by
 refine vK.partial_correctness ag _ λaG ih out t9 o N B I0 I Q p c p1 c1 cs H h h2 hg ho hx=>yK hg ho<|yG [10] rfl<|yE<|yD N ?_ ?_
 ·intro hc N;refine zT<|yE<|zZ<|yJ<|bE N λx hy N=>xL rfl rfl h hy ?_;intro ad aF av aq;obtain⟨p3,c3,rfl,h4⟩:=wB aq;refine yY 0 av (cArr x p3 c3) (vA (cArr x p3 c3)) rfl<|nV [vT ([]),z0] ?_;intro b1 hb1;refine tA 0 (cArr x p3 c3) rfl<|zX rfl<|zH<|zE<|xF 2 [0] [(13,vS p1 out c1),(14,vA (cArr x p3 c3))]<|bE N λy aw N=>tG (zDR x _ aw h4) ?_;rintro I0 aK v2 k2 le - ⟨v01,rfl,rfl,⟨aV,rfl,h5⟩⟩ -;have ⟨h,h2,H⟩:=m3 le h h2 H;obtain⟨p4,c4,rfl,h6⟩:=wB h5;refine jJ (cArr y p4 c4) zI ?_;intro b2 hb2;have h7:RL I0 (cArr y p4 c4) ([y]:List zI):=⟨(cArr y p4 c4),_,rfl,rfl,(gS ⟨_,rfl,h6⟩),rfl⟩;obtain⟨ar,aI,N⟩:=zF N;exact fU 79 2 2 rfl rfl rfl h2 (.inr ⟨0,rfl⟩) h7 aI λp5 c5 bb h8=>dY (xD [1,2] (aj:=[hB b1 (cArr x p3 c3),hO zI (vS p5 ar c5) bb]))<|yW [] [3] rfl<|zQ<|zH<|zE<|yW [] [9] rfl<|yL<|kU (yN [1] rfl (by decide))<|gJ<|ih ar (W (t9+1)) _ N H h h8 hg ho hx
 intro hc N;exact uQ<|xM<|hx _ _ _ _ _ (zB N).symm H h2
def nO(ag:(List zI)):Option ((List zI)):=do
 let ak<-vK ag ([]:List zI) 0
 pure (id ak)
theorem zB4:∀ag r,nO ag=some r->∀{I:Imm}{p c},(S4 I p ag c)->RT 30 [vS p ag c] I [] (zBB  r):=by
 intro ag r N I p c h;unfold nO at N;refine yM func30 λB=>xZ []<|wG<|jJ [] zI ?_;intro b hb;have h1:RL I [] ([]:List zI):=rfl;refine yW [] [3] rfl<|yE<|yG [7,8,9] rfl<|uP<|rX [(3,vS (some ⟨b,0,none⟩) ([]:List zI) 0),(7,vS p ag c),(8,vI (ag.length:Int)),(9,vI 0)] ?_;obtain⟨o0,ay,aB⟩:=zF N;refine zAr ag ([]:List zI) 0 o0 ay iR h h1 (λ_ _ _ h=>h) (λ_ _ h=>h) ?_;intro aN ak p2 c2 aM heq ai h3;subst o0;refine zU<|wJ [2] rfl<|yS<|uY 0 rfl ?_;intro bf ax hl0;have h9:=SL.of_frozen hl0 ax h3;obtain rfl:=zB aB;exact yV ⟨_,_,(.tmp rfl ResV.nil),zO,⟨_,rfl,rfl,h9⟩⟩
def zAA(r:zC):KT:=λkk I' aj v=>
 ∃v0,aj=[]/\v=tupV [v0]/\(∃cs,v0=.agg ⟨cs⟩/\Rp.rep I' cs r)
def pF(x:zC):Option (zC):=do
 let l<-app 8 ([]:List Int) x.Coefs
 pure (zC.mk l x.Const)
theorem zA1:∀x r,pF x=some r->∀{I:Imm}{p c},(S4 I p x.Coefs c)->RT 174 [vA (cAff x p c)] I [] (zAA  r):=by
 intro x r N I p c h;unfold pF at N;refine yM func174 λB=>yJ<|uA (cAff x p c) ?_;intro b hb;refine nV [z0,vI 0] ?_;intro b1 hb1;refine zX rfl<|wG<|jJ [] Int ?_;intro b2 hb2;have h1:RL I [] ([]:List Int):=rfl;refine yR 3 [2] [5] rfl ?_;obtain⟨aF,k0,k01⟩:=h;have h:SL I (vS p x.Coefs c) x.Coefs:=⟨_,k0,k01⟩;obtain⟨l,hy,N⟩:=zF N;refine fU 3 1 0 rfl rfl rfl h1 (.inl k0) k01 hy ?_;intro p1 c1 cs h2;refine dY (xD [0,1,2] (aj:=[hO Int (vS p1 l c1) cs,hB b1 [z0,vI 0],hB b (cAff x p c)]))<|yR 5 [] [7] rfl<|tA 2 [vS p1 l c1,vI x.Const] rfl<|zX rfl<|wG<|xF 1 [2] [(8,vA [vS p1 l c1,vI x.Const])]<|tA 1 [vS p1 l c1,vI x.Const] rfl<|zX rfl<|yS<|uY 0 rfl ?_;intro I0 le hl0;have h3:=SL.of_frozen hl0 le h2;obtain rfl:=zB N;exact yV ⟨_,_,(.cell 0 rfl rfl (by kernel_rfl) ResV.nil),zO,⟨_,rfl,rfl,⟨_,rfl,(sA ⟨_,rfl,h3⟩)⟩⟩⟩
def zAs(r:(List zC)):KT:=λkk I' aj v=>
 ∃v0,aj=[]/\v=tupV [v0]/\SL I' v0 r
def vD(ag:(List zC))(out:List zC)(t9:Int):Option (List zC):=do
 if(decide (t9<(ag.length:Int))) then
  let x<-idx ag t9
  let y<-pF x
  let ar<-app 32 out ([y]:List zC)
  vD ag ar (W (t9+1))
 else
  pure (id out)
 partial_fixpoint
theorem zAi(ag:(List zC)):∀(out:List zC) (t9:Int) (o:List zC),vD ag out t9=some o->∀{B}{I0 I:Imm}{Q p c p1 c1 cs},I0.le I->(S4 I p ag c)->(RL I cs out)->NG Q->NO Q->(∀(I':Imm) (ak:List zC) (p2:Option Addr) (c2:Nat) (aM:List Value),o=ak->I0.le I'->(RL I' aM ak)->T 20 B Q (.exit 0) I' [hO zC (vS p2 ak c2) aM] [(3,vS p2 ak c2)])->J Tryz.prog 20 B (nav (bodyOf f162) [1,1,0,1,0]) Q I [hO zC (vS p1 out c1) cs] [(3,vS p1 out c1),(7,vS p ag c),(8,vI (ag.length:Int)),(9,vI t9)]:=by
 refine vD.partial_correctness ag _ λaG ih out t9 o N B I0 I Q p c p1 c1 cs H h h2 hg ho hx=>yK hg ho<|yG [10] rfl<|yE<|yD N ?_ ?_
 ·intro hc N;refine zT<|yE<|zZ<|yJ<|bE N λx hy N=>xL rfl rfl h hy ?_;intro ad aF av aq;obtain⟨p3,c3,rfl,h4⟩:=yQ aq;refine yY 0 av (cAff x p3 c3) (vA (cAff x p3 c3)) rfl<|nV [z0,vI 0] ?_;intro b1 hb1;refine tA 0 (cAff x p3 c3) rfl<|zX rfl<|zH<|zE<|xF 2 [0] [(13,vS p1 out c1),(14,vA (cAff x p3 c3))]<|bE N λy aw N=>tG (zA1 x _ aw h4) ?_;rintro I0 aK v2 k2 le - ⟨v01,rfl,rfl,⟨aV,rfl,h5⟩⟩ -;have ⟨h,h2,H⟩:=m3 le h h2 H;obtain⟨p4,c4,rfl,h6⟩:=yQ h5;refine jJ (cAff y p4 c4) zC ?_;intro b2 hb2;have h7:RL I0 (cAff y p4 c4) ([y]:List zC):=⟨(cAff y p4 c4),_,rfl,rfl,(sA ⟨_,rfl,h6⟩),rfl⟩;obtain⟨ar,aI,N⟩:=zF N;exact fU 50 2 2 rfl rfl rfl h2 (.inr ⟨0,rfl⟩) h7 aI λp5 c5 bb h8=>dY (xD [1,2] (aj:=[hB b1 (cAff x p3 c3),hO zC (vS p5 ar c5) bb]))<|yW [] [3] rfl<|zQ<|zH<|zE<|yW [] [9] rfl<|yL<|kU (yN [1] rfl (by decide))<|gJ<|ih ar (W (t9+1)) _ N H h h8 hg ho hx
 intro hc N;exact uQ<|xM<|hx _ _ _ _ _ (zB N).symm H h2
def uK(ag:(List zC)):Option ((List zC)):=do
 let ak<-vD ag ([]:List zC) 0
 pure (id ak)
theorem jD:∀ag r,uK ag=some r->∀{I:Imm}{p c},(S4 I p ag c)->RT 162 [vS p ag c] I [] (zAs  r):=by
 intro ag r N I p c h;unfold uK at N;refine yM func162 λB=>xZ []<|wG<|jJ [] zC ?_;intro b hb;have h1:RL I [] ([]:List zC):=rfl;refine yW [] [3] rfl<|yE<|yG [7,8,9] rfl<|uP<|rX [(3,vS (some ⟨b,0,none⟩) ([]:List zC) 0),(7,vS p ag c),(8,vI (ag.length:Int)),(9,vI 0)] ?_;obtain⟨o0,ay,aB⟩:=zF N;refine zAi ag ([]:List zC) 0 o0 ay iR h h1 (λ_ _ _ h=>h) (λ_ _ h=>h) ?_;intro aN ak p2 c2 aM heq ai h3;subst o0;refine zU<|wJ [2] rfl<|yS<|uY 0 rfl ?_;intro bf ax hl0;have h9:=SL.of_frozen hl0 ax h3;obtain rfl:=zB aB;exact yV ⟨_,_,(.tmp rfl ResV.nil),zO,⟨_,rfl,rfl,h9⟩⟩
def zCg(r:zL):KT:=λkk I' aj v=>
 ∃v0,aj=[]/\v=tupV [v0]/\(∃cs,v0=.agg ⟨cs⟩/\Rp.rep I' cs r)
def fO(x:zL):Option (zL):=do
 let y<-uK x.Lo
 let y1<-uK x.Hi
 pure (zL.mk y y1)
theorem zDm:∀x r,fO x=some r->∀{I:Imm}{p c p1 c1},(S4 I p x.Lo c)->(S4 I p1 x.Hi c1)->RT 134 [vA (cLoop x p c p1 c1)] I [] (zCg  r):=by
 intro x r N I p c p1 c1 h h1;unfold fO at N;refine yM func134 λB=>yJ<|uA (cLoop x p c p1 c1) ?_;intro b hb;refine nV zTwo ?_;intro b1 hb1;refine zX rfl<|wG<|yR 2 [1] [4] rfl<|bE N λy hy N=>tG (jD x.Lo _ hy h) ?_;rintro I0 aK v2 k2 le - ⟨v0,rfl,rfl,h2⟩ -;have h1:=h1.mono le;obtain⟨p2,c2,rfl⟩:=h2.form;refine yR 4 [] [6] rfl<|tA 1 [vS p2 y c2,vS p1 x.Hi c1] rfl<|zX rfl<|wG<|yR 2 [1] [8] rfl<|bE N λy1 aw N=>tG (jD x.Hi _ aw h1) ?_;rintro aN aK v2 k2 ai - ⟨v01,rfl,rfl,h3⟩ -;have h2:=h2.mono ai;obtain⟨p3,c3,rfl⟩:=h3.form;refine yR 4 [] [10] rfl<|tA 1 [vS p2 y c2,vS p3 y1 c3] rfl<|zX rfl<|wG<|xF 1 [1] [(11,vA [vS p2 y c2,vS p3 y1 c3])]<|tA 0 [vS p2 y c2,vS p3 y1 c3] rfl<|zX rfl<|zH<|yF ?_;obtain rfl:=zB N;exact yV ⟨_,_,(.cell 0 rfl rfl (by kernel_rfl) ResV.nil),zO,⟨_,rfl,rfl,⟨_,rfl,(jL ⟨_,_,rfl,h2,h3⟩)⟩⟩⟩
def dA(r:(List zL)):KT:=λkk I' aj v=>
 ∃v0,aj=[]/\v=tupV [v0]/\SL I' v0 r
def vV(ag:(List zL))(out:List zL)(t9:Int):Option (List zL):=do
 if(decide (t9<(ag.length:Int))) then
  let x<-idx ag t9
  let y<-fO x
  let ar<-app 48 out ([y]:List zL)
  vV ag ar (W (t9+1))
 else
  pure (id out)
 partial_fixpoint
theorem zBC(ag:(List zL)):∀(out:List zL) (t9:Int) (o:List zL),vV ag out t9=some o->∀{B}{I0 I:Imm}{Q p c p1 c1 cs},I0.le I->(S4 I p ag c)->(RL I cs out)->NG Q->NO Q->(∀(I':Imm) (ak:List zL) (p2:Option Addr) (c2:Nat) (aM:List Value),o=ak->I0.le I'->(RL I' aM ak)->T 20 B Q (.exit 0) I' [hO zL (vS p2 ak c2) aM] [(3,vS p2 ak c2)])->J Tryz.prog 20 B (nav (bodyOf f96) [1,1,0,1,0]) Q I [hO zL (vS p1 out c1) cs] [(3,vS p1 out c1),(7,vS p ag c),(8,vI (ag.length:Int)),(9,vI t9)]:=by
 refine vV.partial_correctness ag _ λaG ih out t9 o N B I0 I Q p c p1 c1 cs H h h2 hg ho hx=>yK hg ho<|yG [10] rfl<|yE<|yD N ?_ ?_
 ·intro hc N;refine zT<|yE<|zZ<|yJ<|bE N λx hy N=>xL rfl rfl h hy ?_;intro ad aF av aq;obtain⟨p3,c3,p4,c4,rfl,h4,h5⟩:=uD aq;refine yY 0 av (cLoop x p3 c3 p4 c4) (vA (cLoop x p3 c3 p4 c4)) rfl<|nV zTwo ?_;intro b1 hb1;refine tA 0 (cLoop x p3 c3 p4 c4) rfl<|zX rfl<|zH<|zE<|xF 2 [0] [(13,vS p1 out c1),(14,vA (cLoop x p3 c3 p4 c4))]<|bE N λy aw N=>tG (zDm x _ aw h4 h5) ?_;rintro I0 aK v2 k2 le - ⟨v02,rfl,rfl,⟨aV,rfl,h6⟩⟩ -;have ⟨h,h2,H⟩:=m3 le h h2 H;obtain⟨p5,c5,p6,c6,rfl,h7,h8⟩:=uD h6;refine jJ (cLoop y p5 c5 p6 c6) zL ?_;intro b2 hb2;have h9:RL I0 (cLoop y p5 c5 p6 c6) ([y]:List zL):=⟨(cLoop y p5 c5 p6 c6),_,rfl,rfl,(jL ⟨_,_,rfl,h7,h8⟩),rfl⟩;obtain⟨ar,aI,N⟩:=zF N;exact fU 107 2 2 rfl rfl rfl h2 (.inr ⟨0,rfl⟩) h9 aI λp7 c7 bb h10=>dY (xD [1,2] (aj:=[hB b1 (cLoop x p3 c3 p4 c4),hO zL (vS p7 ar c7) bb]))<|yW [] [3] rfl<|zQ<|zH<|zE<|yW [] [9] rfl<|yL<|kU (yN [1] rfl (by decide))<|gJ<|ih ar (W (t9+1)) _ N H h h10 hg ho hx
 intro hc N;exact uQ<|xM<|hx _ _ _ _ _ (zB N).symm H h2
def pQ(ag:(List zL)):Option ((List zL)):=do
 let ak<-vV ag ([]:List zL) 0
 pure (id ak)
theorem zBv:∀ag r,pQ ag=some r->∀{I:Imm}{p c},(S4 I p ag c)->RT 96 [vS p ag c] I [] (dA  r):=by
 intro ag r N I p c h;unfold pQ at N;refine yM func96 λB=>xZ []<|wG<|jJ [] zL ?_;intro b hb;have h1:RL I [] ([]:List zL):=rfl;refine yW [] [3] rfl<|yE<|yG [7,8,9] rfl<|uP<|rX [(3,vS (some ⟨b,0,none⟩) ([]:List zL) 0),(7,vS p ag c),(8,vI (ag.length:Int)),(9,vI 0)] ?_;obtain⟨o0,ay,aB⟩:=zF N;refine zBC ag ([]:List zL) 0 o0 ay iR h h1 (λ_ _ _ h=>h) (λ_ _ h=>h) ?_;intro aN ak p2 c2 aM heq ai h3;subst o0;refine zU<|wJ [2] rfl<|yS<|uY 0 rfl ?_;intro bf ax hl0;have h11:=SL.of_frozen hl0 ax h3;obtain rfl:=zB aB;exact yV ⟨_,_,(.tmp rfl ResV.nil),zO,⟨_,rfl,rfl,h11⟩⟩
def zAB(r:zK):KT:=λkk I' aj v=>
 ∃v0,aj=[]/\v=tupV [v0]/\(∃cs,v0=.agg ⟨cs⟩/\Rp.rep I' cs r)
def pG(x:zK):Option (zK):=do
 let y<-uK x.Subs
 pure (zK.mk x.Array y)
theorem zA2:∀x r,pG x=some r->∀{I:Imm}{p c},(S4 I p x.Subs c)->RT 163 [vA (cAccess x p c)] I [] (zAB  r):=by
 intro x r N I p c h;unfold pG at N;refine yM func163 λB=>yJ<|uA (cAccess x p c) ?_;intro b hb;refine nV [vT ([]),z0] ?_;intro b1 hb1;refine zX rfl<|wG<|yR 2 [1] [4] rfl<|bE N λy hy N=>tG (jD x.Subs _ hy h) ?_;rintro I0 aK v2 k2 le - ⟨v0,rfl,rfl,h1⟩ -;obtain⟨p1,c1,rfl⟩:=h1.form;refine yR 4 [] [6] rfl<|tA 1 [vT x.Array.l,vS p1 y c1] rfl<|zX rfl<|wG<|xF 1 [1] [(7,vA [vT x.Array.l,vS p1 y c1])]<|tA 0 [vT x.Array.l,vS p1 y c1] rfl<|zX rfl<|zH<|yF ?_;obtain rfl:=zB N;exact yV ⟨_,_,(.cell 0 rfl rfl (by kernel_rfl) ResV.nil),zO,⟨_,rfl,rfl,⟨_,rfl,(nU ⟨_,rfl,h1⟩)⟩⟩⟩
def zBX(r:(List zD)):KT:=λkk I' aj v=>
 ∃v0,aj=[]/\v=tupV [v0]/\SL I' v0 r
def vM(r:zD):KT:=λkk I' aj v=>
 ∃v0,aj=[]/\v=tupV [v0]/\(∃cs,v0=.agg ⟨cs⟩/\Rp.rep I' cs r)
mutual
def pR(ag:(List zD)):Option ((List zD)):=do
 let ak<-tC (same ag) ([]:List zD) (same 0)
 pure (id ak)
 partial_fixpoint
def tC(ag:(List zD))(out:List zD)(t9:Int):Option (List zD):=do
 if(decide (t9<(ag.length:Int))) then
  let x<-idx ag t9
  let y<-qK (same x)
  let ar<-app 112 out ([y]:List zD)
  tC (same ag) (same ar) (W (t9+1))
 else
  pure (id out)
 partial_fixpoint
def qK(x:zD):Option (zD):=do
 let y<-pF x.Index
 let y1<-pG x.Read
 let y2<-pR x.Kids
 pure (zD.mk x.Kind x.Num y y1 y2)
 partial_fixpoint
end
theorem zB5:(∀(ag:(List zD)) r,pR ag=some r->∀{I:Imm}{p c},(S4 I p ag c)->RT 175 [vS p ag c] I [] (zBX  r))/\(∀(ag:(List zD)) (out:List zD) (t9:Int) o,tC ag out t9=some o->∀{B}{I0 I:Imm}{Q p c p1 c1 cs},I0.le I->(S4 I p ag c)->(RL I cs out)->NG Q->NO Q->(∀(I':Imm) (ak:List zD) (p2:Option Addr) (c2:Nat) (aM:List Value),o=ak->I0.le I'->(RL I' aM ak)->T 20 B Q (.exit 0) I' [hO zD (vS p2 ak c2) aM] [(3,vS p2 ak c2)])->J Tryz.prog 20 B (nav (bodyOf f175) [1,1,0,1,0]) Q I [hO zD (vS p1 out c1) cs] [(3,vS p1 out c1),(7,vS p ag c),(8,vI (ag.length:Int)),(9,vI t9)])/\(∀(x:zD) r,qK x=some r->∀{I:Imm}{p c p1 c1 p2 c2},(S4 I p x.Index.Coefs c)->(S4 I p1 x.Read.Subs c1)->(S4 I p2 x.Kids c2)->RT 164 [vA (cExpr x p c p1 c1 p2 c2)] I [] (vM  r)):=by
 refine pR.mutual_partial_correctness _ _ _ ?_ ?_ ?_
 ·intro F_spec_l16OwnListExpr_l1 ih_spec_l16OwnListExpr_l1 ag r N I p c h;refine yM func175 λB=>xZ []<|wG<|jJ [] zD ?_;intro b hb;have h1:RL I [] ([]:List zD):=rfl;refine yW [] [3] rfl<|yE<|yG [7,8,9] rfl<|uP<|rX [(3,vS (some ⟨b,0,none⟩) ([]:List zD) 0),(7,vS p ag c),(8,vI (ag.length:Int)),(9,vI 0)] ?_;obtain⟨o0,ay,aB⟩:=zF N;refine ih_spec_l16OwnListExpr_l1 ag ([]:List zD) 0 o0 ay iR h h1 (λ_ _ _ h=>h) (λ_ _ h=>h) ?_;intro aN ak p2 c2 aM heq ai h3;subst o0;refine zU<|wJ [2] rfl<|yS<|uY 0 rfl ?_;intro bf ax hl0;have h13:=SL.of_frozen hl0 ax h3;obtain rfl:=zB aB;exact yV ⟨_,_,(.tmp rfl ResV.nil),zO,⟨_,rfl,rfl,h13⟩⟩
 ·intro F_spec_l16OwnListExpr_l1 F_spec_l16OwnExpr ih_spec_l16OwnListExpr_l1 ih_spec_l16OwnExpr ag out t9 o N B I0 I Q p c p1 c1 cs H h h2 hg ho hx;refine yK hg ho<|yG [10] rfl<|yE<|yD N ?_ ?_
  ·intro hc N;refine zT<|yE<|zZ<|yJ<|bE N λx hy N=>xL rfl rfl h hy ?_;intro ad aF av aq;obtain⟨p3,c3,p4,c4,p5,c5,rfl,h4,h5,h6⟩:=yZ aq;refine yY 0 av (cExpr x p3 c3 p4 c4 p5 c5) (vA (cExpr x p3 c3 p4 c4 p5 c5)) rfl<|nV zExpr ?_;intro b1 hb1;refine tA 0 (cExpr x p3 c3 p4 c4 p5 c5) rfl<|zX rfl<|zH<|zE<|xF 2 [0] [(13,vS p1 out c1),(14,vA (cExpr x p3 c3 p4 c4 p5 c5))]<|bE N λy aw N=>tG (ih_spec_l16OwnExpr x _ aw h4 h5 h6) ?_;rintro I0 aK v2 k2 le - ⟨v03,rfl,rfl,⟨aV,rfl,h7⟩⟩ -;have ⟨h,h2,H⟩:=m3 le h h2 H;obtain⟨p6,c6,p7,c7,p8,c8,rfl,h8,h9,h10⟩:=yZ h7;refine jJ (cExpr y p6 c6 p7 c7 p8 c8) zD ?_;intro b2 hb2;have h11:RL I0 (cExpr y p6 c6 p7 c7 p8 c8) ([y]:List zD):=⟨(cExpr y p6 c6 p7 c7 p8 c8),_,rfl,rfl,(wI ⟨_,_,_,rfl,h8,h9,h10⟩),rfl⟩;obtain⟨ar,aI,N⟩:=zF N;exact fU 53 7 2 rfl rfl rfl h2 (.inr ⟨0,rfl⟩) h11 aI λp9 c9 bb h12=>dY (xD [1,2] (aj:=[hB b1 (cExpr x p3 c3 p4 c4 p5 c5),hO zD (vS p9 ar c9) bb]))<|yW [] [3] rfl<|zQ<|zH<|zE<|yW [] [9] rfl<|yL<|kU (yN [1] rfl (by decide))<|gJ<|ih_spec_l16OwnListExpr_l1 ag ar (W (t9+1)) _ N H h h12 hg ho hx
  intro hc N;exact uQ<|xM<|hx _ _ _ _ _ (zB N).symm H h2
 intro F_spec_l16OwnListExpr ih_spec_l16OwnListExpr x r N I p c p1 c1 p2 c2 h h1 h2;refine yM func164 λB=>yJ<|uA (cExpr x p c p1 c1 p2 c2) ?_;intro b hb;refine nV zExpr ?_;intro b1 hb1;refine zX rfl<|wG<|xF 2 [1] [(4,vA (cAff x.Index p c))]<|bE N λy hy N=>tG (zA1 x.Index _ hy h) ?_;rintro I0 aK v2 k2 le - ⟨v0,rfl,rfl,⟨cs,rfl,h3⟩⟩ -;have ⟨h1,h2⟩:=m2 le h1 h2;obtain⟨p3,c3,rfl,h4⟩:=yQ h3;refine yR 4 [] [6] rfl<|tA 1 [vI x.Kind,vI x.Num,vS p3 y.Coefs c3,vI y.Const,vT x.Read.Array.l,vS p1 x.Read.Subs c1,vS p2 x.Kids c2] rfl<|zX rfl<|wG<|xF 2 [1] [(8,vA (cAccess x.Read p1 c1))]<|bE N λy1 aw N=>tG (zA2 x.Read _ aw h1) ?_;rintro aN aK v2 k2 ai - ⟨v02,rfl,rfl,⟨aM,rfl,h5⟩⟩ -;have ⟨h4,h2⟩:=m2 ai h4 h2;obtain⟨p4,c4,rfl,h6⟩:=rD h5;refine yR 4 [] [10] rfl<|tA 1 [vI x.Kind,vI x.Num,vS p3 y.Coefs c3,vI y.Const,vT y1.Array.l,vS p4 y1.Subs c4,vS p2 x.Kids c2] rfl<|zX rfl<|wG<|yR 2 [1] [12] rfl<|bE N λy2 aI N=>tG (ih_spec_l16OwnListExpr x.Kids _ aI h2) ?_;rintro bf aK v2 k2 ax - ⟨v04,rfl,rfl,h7⟩ -;have ⟨h4,h6⟩:=m2 ax h4 h6;obtain⟨p5,c5,rfl⟩:=h7.form;refine yR 4 [] [14] rfl<|tA 1 [vI x.Kind,vI x.Num,vS p3 y.Coefs c3,vI y.Const,vT y1.Array.l,vS p4 y1.Subs c4,vS p5 y2 c5] rfl<|zX rfl<|wG<|xF 1 [1] [(15,vA [vI x.Kind,vI x.Num,vS p3 y.Coefs c3,vI y.Const,vT y1.Array.l,vS p4 y1.Subs c4,vS p5 y2 c5])]<|tA 0 [vI x.Kind,vI x.Num,vS p3 y.Coefs c3,vI y.Const,vT y1.Array.l,vS p4 y1.Subs c4,vS p5 y2 c5] rfl<|zX rfl<|zH<|yF ?_;obtain rfl:=zB N;exact yV ⟨_,_,(.cell 0 rfl rfl (by kernel_rfl) ResV.nil),zO,⟨_,rfl,rfl,⟨_,rfl,(wI ⟨_,_,_,rfl,h4,h6,h7⟩)⟩⟩⟩
theorem zDn:∀x r,qK x=some r->∀{I:Imm}{p c p1 c1 p2 c2},(S4 I p x.Index.Coefs c)->(S4 I p1 x.Read.Subs c1)->(S4 I p2 x.Kids c2)->RT 164 [vA (cExpr x p c p1 c1 p2 c2)] I [] (vM  r):=zB5.2.2
def zA3(r:zJ):KT:=λkk I' aj v=>
 ∃v0,aj=[]/\v=tupV [v0]/\(∃cs,v0=.agg ⟨cs⟩/\Rp.rep I' cs r)
def kV(x:zJ):Option (zJ):=do
 let y<-pG x.Write
 let y1<-qK x.Value
 pure (zJ.mk y y1)
theorem zDo:∀x r,kV x=some r->∀{I:Imm}{p c p1 c1 p2 c2 p3 c3},(S4 I p x.Write.Subs c)->(S4 I p1 x.Value.Index.Coefs c1)->(S4 I p2 x.Value.Read.Subs c2)->(S4 I p3 x.Value.Kids c3)->RT 135 [vA (cStmt x p c p1 c1 p2 c2 p3 c3)] I [] (zA3  r):=by
 intro x r N I p c p1 c1 p2 c2 p3 c3 h h1 h2 h3;unfold kV at N;refine yM func135 λB=>yJ<|uA (cStmt x p c p1 c1 p2 c2 p3 c3) ?_;intro b hb;refine nV [vT ([]),z0,vI 0,vI 0,z0,vI 0,vT ([]),z0,z0] ?_;intro b1 hb1;refine zX rfl<|wG<|xF 2 [1] [(4,vA (cAccess x.Write p c))]<|bE N λy hy N=>tG (zA2 x.Write _ hy h) ?_;rintro I0 aK v2 k2 le - ⟨v0,rfl,rfl,⟨cs,rfl,h4⟩⟩ -;have ⟨h1,h2,h3⟩:=m3 le h1 h2 h3;obtain⟨p4,c4,rfl,h5⟩:=rD h4;refine yR 4 [] [6] rfl<|tA 1 [vT y.Array.l,vS p4 y.Subs c4,vI x.Value.Kind,vI x.Value.Num,vS p1 x.Value.Index.Coefs c1,vI x.Value.Index.Const,vT x.Value.Read.Array.l,vS p2 x.Value.Read.Subs c2,vS p3 x.Value.Kids c3] rfl<|zX rfl<|wG<|xF 2 [1] [(8,vA (cExpr x.Value p1 c1 p2 c2 p3 c3))]<|bE N λy1 aw N=>tG (zDn x.Value _ aw h1 h2 h3) ?_;rintro aN aK v2 k2 ai - ⟨v02,rfl,rfl,⟨aM,rfl,h6⟩⟩ -;have h5:=h5.mono ai;obtain⟨p5,c5,p6,c6,p7,c7,rfl,h7,h8,h9⟩:=yZ h6;refine yR 4 [] [10] rfl<|tA 1 [vT y.Array.l,vS p4 y.Subs c4,vI y1.Kind,vI y1.Num,vS p5 y1.Index.Coefs c5,vI y1.Index.Const,vT y1.Read.Array.l,vS p6 y1.Read.Subs c6,vS p7 y1.Kids c7] rfl<|zX rfl<|wG<|xF 1 [1] [(11,vA [vT y.Array.l,vS p4 y.Subs c4,vI y1.Kind,vI y1.Num,vS p5 y1.Index.Coefs c5,vI y1.Index.Const,vT y1.Read.Array.l,vS p6 y1.Read.Subs c6,vS p7 y1.Kids c7])]<|tA 0 [vT y.Array.l,vS p4 y.Subs c4,vI y1.Kind,vI y1.Num,vS p5 y1.Index.Coefs c5,vI y1.Index.Const,vT y1.Read.Array.l,vS p6 y1.Read.Subs c6,vS p7 y1.Kids c7] rfl<|zX rfl<|zH<|yF ?_;obtain rfl:=zB N;exact yV ⟨_,_,(.cell 0 rfl rfl (by kernel_rfl) ResV.nil),zO,⟨_,rfl,rfl,⟨_,rfl,(oQ ⟨_,_,_,_,rfl,h5,h7,h8,h9⟩)⟩⟩⟩
def zBY(r:(List zJ)):KT:=λkk I' aj v=>
 ∃v0,aj=[]/\v=tupV [v0]/\SL I' v0 r
def vW(ag:(List zJ))(out:List zJ)(t9:Int):Option (List zJ):=do
 if(decide (t9<(ag.length:Int))) then
  let x<-idx ag t9
  let y<-kV x
  let ar<-app 152 out ([y]:List zJ)
  vW ag ar (W (t9+1))
 else
  pure (id out)
 partial_fixpoint
theorem zBD(ag:(List zJ)):∀(out:List zJ) (t9:Int) (o:List zJ),vW ag out t9=some o->∀{B}{I0 I:Imm}{Q p c p1 c1 cs},I0.le I->(S4 I p ag c)->(RL I cs out)->NG Q->NO Q->(∀(I':Imm) (ak:List zJ) (p2:Option Addr) (c2:Nat) (aM:List Value),o=ak->I0.le I'->(RL I' aM ak)->T 20 B Q (.exit 0) I' [hO zJ (vS p2 ak c2) aM] [(3,vS p2 ak c2)])->J Tryz.prog 20 B (nav (bodyOf f97) [1,1,0,1,0]) Q I [hO zJ (vS p1 out c1) cs] [(3,vS p1 out c1),(7,vS p ag c),(8,vI (ag.length:Int)),(9,vI t9)]:=by
 refine vW.partial_correctness ag _ λaG ih out t9 o N B I0 I Q p c p1 c1 cs H h h2 hg ho hx=>yK hg ho<|yG [10] rfl<|yE<|yD N ?_ ?_
 ·intro hc N;refine zT<|yE<|zZ<|yJ<|bE N λx hy N=>xL rfl rfl h hy ?_;intro ad aF av aq;obtain⟨p3,c3,p4,c4,p5,c5,p6,c6,rfl,h4,h5,h6,h7⟩:=xY aq;refine yY 0 av (cStmt x p3 c3 p4 c4 p5 c5 p6 c6) (vA (cStmt x p3 c3 p4 c4 p5 c5 p6 c6)) rfl<|nV [vT ([]),z0,vI 0,vI 0,z0,vI 0,vT ([]),z0,z0] ?_;intro b1 hb1;refine tA 0 (cStmt x p3 c3 p4 c4 p5 c5 p6 c6) rfl<|zX rfl<|zH<|zE<|xF 2 [0] [(13,vS p1 out c1),(14,vA (cStmt x p3 c3 p4 c4 p5 c5 p6 c6))]<|bE N λy aw N=>tG (zDo x _ aw h4 h5 h6 h7) ?_;rintro I0 aK v2 k2 le - ⟨v04,rfl,rfl,⟨aV,rfl,h8⟩⟩ -;have ⟨h,h2,H⟩:=m3 le h h2 H;obtain⟨p7,c7,p8,c8,p9,c9,aX,a8,rfl,h9,h10,h11,h12⟩:=xY h8;refine jJ (cStmt y p7 c7 p8 c8 p9 c9 aX a8) zJ ?_;intro b2 hb2;have h13:RL I0 (cStmt y p7 c7 p8 c8 p9 c9 aX a8) ([y]:List zJ):=⟨(cStmt y p7 c7 p8 c8 p9 c9 aX a8),_,rfl,rfl,(oQ ⟨_,_,_,_,rfl,h9,h10,h11,h12⟩),rfl⟩;obtain⟨ar,aI,N⟩:=zF N;exact fU 55 9 2 rfl rfl rfl h2 (.inr ⟨0,rfl⟩) h13 aI λa7 a6 bb h14=>dY (xD [1,2] (aj:=[hB b1 (cStmt x p3 c3 p4 c4 p5 c5 p6 c6),hO zJ (vS a7 ar a6) bb]))<|yW [] [3] rfl<|zQ<|zH<|zE<|yW [] [9] rfl<|yL<|kU (yN [1] rfl (by decide))<|gJ<|ih ar (W (t9+1)) _ N H h h14 hg ho hx
 intro hc N;exact uQ<|xM<|hx _ _ _ _ _ (zB N).symm H h2
def mT(ag:(List zJ)):Option ((List zJ)):=do
 let ak<-vW ag ([]:List zJ) 0
 pure (id ak)
theorem zBw:∀ag r,mT ag=some r->∀{I:Imm}{p c},(S4 I p ag c)->RT 97 [vS p ag c] I [] (zBY  r):=by
 intro ag r N I p c h;unfold mT at N;refine yM func97 λB=>xZ []<|wG<|jJ [] zJ ?_;intro b hb;have h1:RL I [] ([]:List zJ):=rfl;refine yW [] [3] rfl<|yE<|yG [7,8,9] rfl<|uP<|rX [(3,vS (some ⟨b,0,none⟩) ([]:List zJ) 0),(7,vS p ag c),(8,vI (ag.length:Int)),(9,vI 0)] ?_;obtain⟨o0,ay,aB⟩:=zF N;refine zBD ag ([]:List zJ) 0 o0 ay iR h h1 (λ_ _ _ h=>h) (λ_ _ h=>h) ?_;intro aN ak p2 c2 aM heq ai h3;subst o0;refine zU<|wJ [2] rfl<|yS<|uY 0 rfl ?_;intro bf ax hl0;have h15:=SL.of_frozen hl0 ax h3;obtain rfl:=zB aB;exact yV ⟨_,_,(.tmp rfl ResV.nil),zO,⟨_,rfl,rfl,h15⟩⟩
def zCh(r:zN):KT:=λkk I' aj v=>
 ∃v0,aj=[]/\v=tupV [v0]/\(∃cs,v0=.agg ⟨cs⟩/\Rp.rep I' cs r)
def kW(x:zN):Option (zN):=do
 let y<-pQ x.Nest
 let y1<-mT x.Body
 pure (zN.mk y y1)
theorem zDp:∀x r,kW x=some r->∀{I:Imm}{p c p1 c1},(S4 I p x.Nest c)->(S4 I p1 x.Body c1)->RT 59 [vA (cPart x p c p1 c1)] I [] (zCh  r):=by
 intro x r N I p c p1 c1 h h1;unfold kW at N;refine yM func59 λB=>yJ<|uA (cPart x p c p1 c1) ?_;intro b hb;refine nV zTwo ?_;intro b1 hb1;refine zX rfl<|wG<|yR 2 [1] [4] rfl<|bE N λy hy N=>tG (zBv x.Nest _ hy h) ?_;rintro I0 aK v2 k2 le - ⟨v0,rfl,rfl,h2⟩ -;have h1:=h1.mono le;obtain⟨p2,c2,rfl⟩:=h2.form;refine yR 4 [] [6] rfl<|tA 1 [vS p2 y c2,vS p1 x.Body c1] rfl<|zX rfl<|wG<|yR 2 [1] [8] rfl<|bE N λy1 aw N=>tG (zBw x.Body _ aw h1) ?_;rintro aN aK v2 k2 ai - ⟨v01,rfl,rfl,h3⟩ -;have h2:=h2.mono ai;obtain⟨p3,c3,rfl⟩:=h3.form;refine yR 4 [] [10] rfl<|tA 1 [vS p2 y c2,vS p3 y1 c3] rfl<|zX rfl<|wG<|xF 1 [1] [(11,vA [vS p2 y c2,vS p3 y1 c3])]<|tA 0 [vS p2 y c2,vS p3 y1 c3] rfl<|zX rfl<|zH<|yF ?_;obtain rfl:=zB N;exact yV ⟨_,_,(.cell 0 rfl rfl (by kernel_rfl) ResV.nil),zO,⟨_,rfl,rfl,⟨_,rfl,(mD ⟨_,_,rfl,h2,h3⟩)⟩⟩⟩
def zBZ(r:(List zN)):KT:=λkk I' aj v=>
 ∃v0,aj=[]/\v=tupV [v0]/\SL I' v0 r
def vX(ag:(List zN))(out:List zN)(t9:Int):Option (List zN):=do
 if(decide (t9<(ag.length:Int))) then
  let x<-idx ag t9
  let y<-kW x
  let ar<-app 48 out ([y]:List zN)
  vX ag ar (W (t9+1))
 else
  pure (id out)
 partial_fixpoint
theorem zBE(ag:(List zN)):∀(out:List zN) (t9:Int) (o:List zN),vX ag out t9=some o->∀{B}{I0 I:Imm}{Q p c p1 c1 cs},I0.le I->(S4 I p ag c)->(RL I cs out)->NG Q->NO Q->(∀(I':Imm) (ak:List zN) (p2:Option Addr) (c2:Nat) (aM:List Value),o=ak->I0.le I'->(RL I' aM ak)->T 20 B Q (.exit 0) I' [hO zN (vS p2 ak c2) aM] [(3,vS p2 ak c2)])->J Tryz.prog 20 B (nav (bodyOf f31) [1,1,0,1,0]) Q I [hO zN (vS p1 out c1) cs] [(3,vS p1 out c1),(7,vS p ag c),(8,vI (ag.length:Int)),(9,vI t9)]:=by
 refine vX.partial_correctness ag _ λaG ih out t9 o N B I0 I Q p c p1 c1 cs H h h2 hg ho hx=>yK hg ho<|yG [10] rfl<|yE<|yD N ?_ ?_
 ·intro hc N;refine zT<|yE<|zZ<|yJ<|bE N λx hy N=>xL rfl rfl h hy ?_;intro ad aF av aq;obtain⟨p3,c3,p4,c4,rfl,h4,h5⟩:=qI aq;refine yY 0 av (cPart x p3 c3 p4 c4) (vA (cPart x p3 c3 p4 c4)) rfl<|nV zTwo ?_;intro b1 hb1;refine tA 0 (cPart x p3 c3 p4 c4) rfl<|zX rfl<|zH<|zE<|xF 2 [0] [(13,vS p1 out c1),(14,vA (cPart x p3 c3 p4 c4))]<|bE N λy aw N=>tG (zDp x _ aw h4 h5) ?_;rintro I0 aK v2 k2 le - ⟨v02,rfl,rfl,⟨aV,rfl,h6⟩⟩ -;have ⟨h,h2,H⟩:=m3 le h h2 H;obtain⟨p5,c5,p6,c6,rfl,h7,h8⟩:=qI h6;refine jJ (cPart y p5 c5 p6 c6) zN ?_;intro b2 hb2;have h9:RL I0 (cPart y p5 c5 p6 c6) ([y]:List zN):=⟨(cPart y p5 c5 p6 c6),_,rfl,rfl,(mD ⟨_,_,rfl,h7,h8⟩),rfl⟩;obtain⟨ar,aI,N⟩:=zF N;exact fU 44 2 2 rfl rfl rfl h2 (.inr ⟨0,rfl⟩) h9 aI λp7 c7 bb h10=>dY (xD [1,2] (aj:=[hB b1 (cPart x p3 c3 p4 c4),hO zN (vS p7 ar c7) bb]))<|yW [] [3] rfl<|zQ<|zH<|zE<|yW [] [9] rfl<|yL<|kU (yN [1] rfl (by decide))<|gJ<|ih ar (W (t9+1)) _ N H h h10 hg ho hx
 intro hc N;exact uQ<|xM<|hx _ _ _ _ _ (zB N).symm H h2
def mU(ag:(List zN)):Option ((List zN)):=do
 let ak<-vX ag ([]:List zN) 0
 pure (id ak)
theorem zBx:∀ag r,mU ag=some r->∀{I:Imm}{p c},(S4 I p ag c)->RT 31 [vS p ag c] I [] (zBZ  r):=by
 intro ag r N I p c h;unfold mU at N;refine yM func31 λB=>xZ []<|wG<|jJ [] zN ?_;intro b hb;have h1:RL I [] ([]:List zN):=rfl;refine yW [] [3] rfl<|yE<|yG [7,8,9] rfl<|uP<|rX [(3,vS (some ⟨b,0,none⟩) ([]:List zN) 0),(7,vS p ag c),(8,vI (ag.length:Int)),(9,vI 0)] ?_;obtain⟨o0,ay,aB⟩:=zF N;refine zBE ag ([]:List zN) 0 o0 ay iR h h1 (λ_ _ _ h=>h) (λ_ _ h=>h) ?_;intro aN ak p2 c2 aM heq ai h3;subst o0;refine zU<|wJ [2] rfl<|yS<|uY 0 rfl ?_;intro bf ax hl0;have h11:=SL.of_frozen hl0 ax h3;obtain rfl:=zB aB;exact yV ⟨_,_,(.tmp rfl ResV.nil),zO,⟨_,rfl,rfl,h11⟩⟩
def zB6(r:zV):KT:=λkk I' aj v=>
 ∃v0,aj=[]/\v=tupV [v0]/\(∃cs,v0=.agg ⟨cs⟩/\Rp.rep I' cs r)
def oR(x:zV):Option (zV):=do
 let y<-nO x.Arrays
 let y1<-mU x.Parts
 pure (zV.mk y y1)
theorem zCW:∀x r,oR x=some r->∀{I:Imm}{p c p1 c1},(S4 I p x.Arrays c)->(S4 I p1 x.Parts c1)->RT 13 [vA (cProg x p c p1 c1)] I [] (zB6  r):=by
 intro x r N I p c p1 c1 h h1;unfold oR at N;refine yM func13 λB=>yJ<|uA (cProg x p c p1 c1) ?_;intro b hb;refine nV zTwo ?_;intro b1 hb1;refine zX rfl<|wG<|yR 2 [1] [4] rfl<|bE N λy hy N=>tG (zB4 x.Arrays _ hy h) ?_;rintro I0 aK v2 k2 le - ⟨v0,rfl,rfl,h2⟩ -;have h1:=h1.mono le;obtain⟨p2,c2,rfl⟩:=h2.form;refine yR 4 [] [6] rfl<|tA 1 [vS p2 y c2,vS p1 x.Parts c1] rfl<|zX rfl<|wG<|yR 2 [1] [8] rfl<|bE N λy1 aw N=>tG (zBx x.Parts _ aw h1) ?_;rintro aN aK v2 k2 ai - ⟨v01,rfl,rfl,h3⟩ -;have h2:=h2.mono ai;obtain⟨p3,c3,rfl⟩:=h3.form;refine yR 4 [] [10] rfl<|tA 1 [vS p2 y c2,vS p3 y1 c3] rfl<|zX rfl<|wG<|xF 1 [1] [(11,vA [vS p2 y c2,vS p3 y1 c3])]<|tA 0 [vS p2 y c2,vS p3 y1 c3] rfl<|zX rfl<|zH<|yF ?_;obtain rfl:=zB N;exact yV ⟨_,_,(.cell 0 rfl rfl (by kernel_rfl) ResV.nil),zO,⟨_,rfl,rfl,⟨_,rfl,(fN ⟨_,_,rfl,h2,h3⟩)⟩⟩⟩
def zS(r:Bool):KT:=λkk I' aj v=>
 ∃v0,aj=[]/\v=tupV [v0]/\v0=.bool r
def tT(x:zI)(k0:Int):Option (Out Unit (Bool)):=do
 if(decide (k0<(x.Dims.length:Int))) then
  let t77<-(do
   let x2<-idx x.Dims k0
   if(decide (x2<1)) then
    pure true
   else
    let x3<-idx x.Dims k0
    pure (decide (x3>6))
     : Option Bool)
  if t77 then
   pure (.ret false)
  else
   tT x (W (k0+1))
 else
  pure (.done ())
 partial_fixpoint
theorem zDS(x:zI):∀(k0:Int) (o:Out Unit (Bool)),tT x k0=some o->∀{B}{I0 I:Imm}{Q}{ag:(List zI)}{i:Int}{p c p1 c1}{b:Nat},I0.le I->(S4 I p ag c)->(S4 I p1 x.Dims c1)->NG Q->NO Q->(∀(I':Imm) ,o=(.done ())->I0.le I'->T 81 B Q (.exit 2) I' [] [(0,vS p ag c),(3,vI i)])->(∀r I' aj m',o=(.ret r)->I0.le I'->RS Tryz.prog f32 B (zS  r) I' aj m'->T 81 B Q .ret I' aj m')->J Tryz.prog 81 B (nav (bodyOf f32) [1,0,1,0,0,1,0,0,1,1,1,0]) Q I [hB b (cArr x p1 c1)] [(0,vS p ag c),(3,vI i),(4,vP b 0),(5,vI k0)]:=by
 refine tT.partial_correctness x _ λaG ih k0 o N B I0 I Q ag i p c p1 c1 b H h h1 hg ho hx hr=>yK hg ho<|zM<|yJ<|yW [0] [61] rfl<|zH<|yD N ?_ ?_
 ·intro hc9 N;refine zT<|yE<|zZ<|zM ?_;refine tZ N [hB b (cArr x p1 c1)] (λt77=>[(0,vS p ag c),(3,vI i),(4,vP b 0),(5,vI k0),(77,.bool t77)]) (λaO aJ=>?_) ?_
  ·have H:=iS I;refine zE<|yR 3 [0] [65,66] rfl ?_;obtain⟨x2,aI,N⟩:=zF aJ;refine xL rfl rfl h1 aI ?_;intro ad2 bM aS bh;obtain rfl:=bh;refine yY 0 aS [vI x2] (vI x2) rfl<|yR 7 [] [70] rfl<|wN [70] N ?_ ?_
   ·intro hc10 N;exact yO [] [(77,vY)]<|xM<|zY (ct N H)
   intro hc10 N;refine yR 10 [0] [72,73] rfl<|bE N λx3 aW N=>xL rfl rfl h1 aW ?_;intro ad3 ccs3 hat3 bn;obtain rfl:=bn;exact yY 0 hat3 [vI x3] (vI x3) rfl<|yW [] [77] rfl<|xM<|zY (ct N H)
  intro t77 aN ai hMc1;have ⟨h,h1,H⟩:=m3 ai h h1 H;refine zH<|yD hMc1 ?_ ?_
  ·intro hc11 N;exact xZ [(2,vF)]<|yS<|zR<|zG<|zG<|hr _ _ _ _ (zB N).symm H ⟨_,_,(.tmp rfl ResV.nil),zO,⟨_,rfl,rfl,rfl⟩⟩
  intro hc11 N;exact zT<|zQ<|zH<|zE<|yW [] [5] rfl<|yL<|gJ<|ih (W (k0+1)) _ N H h h1 hg ho hx hr
 intro hc9 N;exact uQ<|wM zO<|xM<|hx _  (zB N).symm H
def rK(ag:(List zI))(i:Int):Option (Out Unit (Bool)):=do
 if(decide (i<(ag.length:Int))) then
  let x<-idx ag i
  let t56<-(do
   if((x.Name.l.length:Int) != 1) then
    pure true
   else
    if(Op.bytesLess x.Name.l ([65]:List UInt8)) then
     pure true
    else
     if(!(Op.bytesLess x.Name.l ([68]:List UInt8)||x.Name.l==([68]:List UInt8))) then
      pure true
     else
      if(decide (i>0)) then
       let x1<-idx ag (W (i - 1))
       if(!(Op.bytesLess x1.Name.l x.Name.l)) then
        pure true
       else
        if(decide ((x.Dims.length:Int)<1)) then
         pure true
        else
         pure (decide ((x.Dims.length:Int)>2))
      else
       if(decide ((x.Dims.length:Int)<1)) then
        pure true
       else
        pure (decide ((x.Dims.length:Int)>2))
     : Option Bool)
  if t56 then
   pure (.ret false)
  else
   match<-tT x 0 with
   | .ret r0=>pure (.ret r0)
   | .done _=>
    rK ag (W (i+1))
 else
  pure (.done ())
 partial_fixpoint
theorem zDT(ag:(List zI)):∀(i:Int) (o:Out Unit (Bool)),rK ag i=some o->∀{B}{I0 I:Imm}{Q p c},I0.le I->(S4 I p ag c)->NG Q->NO Q->(∀(I':Imm) ,o=(.done ())->I0.le I'->T 81 B Q (.exit 0) I' [] [(0,vS p ag c)])->(∀r I' aj m',o=(.ret r)->I0.le I'->RS Tryz.prog f32 B (zS  r) I' aj m'->T 81 B Q .ret I' aj m')->J Tryz.prog 81 B (nav (bodyOf f32) [1,0,1,0]) Q I [] [(0,vS p ag c),(3,vI i)]:=by
 refine rK.partial_correctness ag _ λaG ih i o N B I0 I Q p c H h hg ho hx hr=>yK hg ho<|zM<|yG [9] rfl<|zH<|yD N ?_ ?_
 ·intro hc N;refine zT<|yE<|zZ<|yJ<|yR 2 [] [12,13] rfl<|bE N λx hy N=>xL rfl rfl h hy ?_;intro ad aF av aq;obtain⟨p1,c1,rfl,h1⟩:=wB aq;refine yY 0 av (cArr x p1 c1) (vA (cArr x p1 c1)) rfl<|nV [vT ([]),z0] ?_;intro b hb;refine tA 0 (cArr x p1 c1) rfl<|zX rfl<|yE<|zM ?_;refine tZ N [hB b (cArr x p1 c1)] (λt56=>[(0,vS p ag c),(3,vI i),(4,vP b 0),(56,.bool t56)]) (λo0 ay=>?_) ?_
  ·have H:=iS I;refine zAn (by kernel_rfl) (by kernel_rfl)<|zCf 5 [0] [20] rfl<|zG0 [20] ay ?_ ?_
   ·intro aE N;exact zIn [] [(56,vY)]<|xM<|zY (ct N H)
   intro aE N;refine zCf 10 [0] [25] rfl<|zG0 [25] N ?_ ?_
   ·intro aQ N;exact zIn [] [(56,vY)]<|xM<|zY (ct N H)
   intro aQ N;refine zCf 15 [0] [30] rfl<|zG0 [30] N ?_ ?_
   ·intro bp N;exact zIn [] [(56,vY)]<|xM<|zY (ct N H)
   intro bp N;refine zCf 18 [] [33] rfl<|zG0 [33] N ?_ ?_
   ·intro bD N;refine zCf 21 [] [34,36] rfl<|bE N λx1 aw N=>zGY rfl rfl h aw ?_;intro ad1 aY au aA;obtain⟨p2,c2,rfl,h2⟩:=wB aA;refine zCf 23 [] [38] rfl<|zGX 0 au [vT x1.Name.l] (vT x1.Name.l) rfl<|zCf 30 [0] [45] rfl<|zG0 [45] N ?_ ?_
    ·intro hc5 N;exact zIn [] [(56,vY)]<|xM<|zY (ct N H)
    intro hc5 N;refine zCf 36 [0] [51] rfl<|zG0 [51] N ?_ ?_
    ·intro hc6 N;exact zIn [] [(56,vY)]<|xM<|zY (ct N H)
    intro hc6 N;exact zJ5 [0] [56] rfl<|xM<|zY (ct N H)
   intro bD N;refine zCf 36 [0] [51] rfl<|zG0 [51] N ?_ ?_
   ·intro hc7 N;exact zIn [] [(56,vY)]<|xM<|zY (ct N H)
   intro hc7 N;exact zJ5 [0] [56] rfl<|xM<|zY (ct N H)
  intro t56 I0 le aT;have ⟨h,h1,H⟩:=m3 le h h1 H;refine zH<|yD aT ?_ ?_
  ·intro hc8 N;exact xZ [(2,vF)]<|yS<|zG<|zR<|zG<|zG<|hr _ _ _ _ (zB N).symm H ⟨_,_,(.tmp rfl ResV.nil),zO,⟨_,rfl,rfl,rfl⟩⟩
  intro hc8 N;refine zT<|wJ [5] rfl<|uP<|rX [(0,vS p ag c),(3,vI i),(4,vP b 0),(5,vI 0)] ?_;obtain⟨o02,ho02,aB⟩:=zF N;refine zDS x 0 o02 ho02 iR h h1 (λ_ _ _ h=>hg _ _ _ h) (λ_ _ h=>ho _ _ h) ?_ ?_
  ·intro bf  heq2 ax;subst o02;have ⟨h,H⟩:=m2 ax h H;exact zU<|zQ<|zH<|zE<|yW [] [3] rfl<|yL<|gJ<|ih (W (i+1)) _ aB H h hg ho hx hr
  intro r0 I9 hs9 m9 aC le9 aD;subst aC;exact zR<|zR<|zG<|zG<|hr _ _ _ _ (zB aB).symm (H.trans le9) aD
 intro hc N;exact uQ<|xM<|hx _  (zB N).symm H
def gT(ag:(List zI)):Option (Bool):=do
 match<-rK ag 0 with
 | .ret r0=>pure r0
 | .done _=>
  pure (decide ((ag.length:Int)<=4))
theorem zFT:∀ag r,gT ag=some r->∀{I:Imm}{p c},(S4 I p ag c)->RT 32 [vS p ag c] I [] (zS  r):=by
 intro ag r N I p c h;unfold gT at N;refine yM func32 λB=>xZ []<|yE<|yG [3] rfl<|uP<|rX [(0,vS p ag c),(3,vI 0)] ?_;obtain⟨o03,ho03,hMl1⟩:=zF N;refine zDT ag 0 o03 ho03 iR h (λ_ _ _ h=>h) (λ_ _ h=>h) ?_ ?_
 ·intro bq  heq3 aR;subst o03;refine zU<|wJ [2] rfl<|zH<|yF ?_;obtain rfl:=zB hMl1;exact xH
 intro r0 I9 hs9 m9 aC le9 aD;subst aC;refine zR<|zG ?_;obtain rfl:=zB hMl1;exact yV aD
def tB(n0:Int)(most:Int):Option (Bool):=do
 let t4<-(do
  if(decide (n0>=(W (0 - most)))) then
   pure (decide (n0<=most))
  else
   pure false
    : Option Bool)
 pure (id t4)
theorem zAN:∀n0 most r,tB n0 most=some r->∀{I:Imm} ,RT 103 [vI n0,vI most] I [] (zS  r):=by
 intro n0 most r N I;unfold tB at N;refine yM func103 λB=>?_;have H:=iS I;refine xZ []<|zH<|zM ?_;refine tZ N [] (λt4=>[(4,.bool t4)]) (λo0 ay=>?_) ?_
 ·have H:=iS I;refine zE<|yR 5 [] [9] rfl<|wN [9] ay ?_ ?_
  ·intro hc N;exact yW [] [4] rfl<|xM<|zY (ct N H)
  intro hc N;exact yO [] [(4,vF)]<|xM<|zY (ct N H)
 intro t4 I0 le aT;refine zH<|yF ?_;obtain rfl:=zB aT;exact xH
def tH(a0:zC)(i:Int):Option (Out Unit (Bool)):=do
 if(decide (i<(a0.Coefs.length:Int))) then
  let x<-idx a0.Coefs i
  let y<-tB x 9
  if(!y) then
   pure (.ret false)
  else
   tH a0 (W (i+1))
 else
  pure (.done ())
 partial_fixpoint
theorem zBy(a0:zC):∀(i:Int) (o:Out Unit (Bool)),tH a0 i=some o->∀{B}{I0 I:Imm}{Q p c}{b:Nat},I0.le I->(S4 I p a0.Coefs c)->NG Q->NO Q->(∀(I':Imm) ,o=(.done ())->I0.le I'->T 27 B Q (.exit 0) I' [hB b (cAff a0 p c)] [(1,vP b 0)])->(∀r I' aj m',o=(.ret r)->I0.le I'->RS Tryz.prog f104 B (zS  r) I' aj m'->T 27 B Q .ret I' aj m')->J Tryz.prog 27 B (nav (bodyOf f104) [1,0,1,0]) Q I [hB b (cAff a0 p c)] [(1,vP b 0),(3,vI i)]:=by
 refine tH.partial_correctness a0 _ λaG ih i o N B I0 I Q p c b H h hg ho hx hr=>yK hg ho<|zM<|yJ<|yW [0] [8] rfl<|zH<|yD N ?_ ?_
 ·intro hc N;refine zT<|yE<|zZ<|yJ<|yR 3 [0] [12,13] rfl<|bE N λx hy N=>xL rfl rfl h hy ?_;intro ad aF av aq;obtain rfl:=aq;refine yY 0 av [vI x] (vI x) rfl<|bE N λy aw N=>vJ (zAN x 9 _ aw ) ?_;intro I0 le;have ⟨h,H⟩:=m2 le h H;refine yW [] [17] rfl<|zH<|yD N ?_ ?_
  ·intro aE N;exact xZ [(2,vF)]<|yS<|zR<|zG<|zG<|hr _ _ _ _ (zB N).symm H ⟨_,_,(.tmp rfl ResV.nil),zO,⟨_,rfl,rfl,rfl⟩⟩
  intro aE N;exact zT<|zQ<|zH<|zE<|yW [] [3] rfl<|yL<|gJ<|ih (W (i+1)) _ N H h hg ho hx hr
 intro hc N;exact uQ<|xM<|hx _  (zB N).symm H
def rL(a0:zC):Option (Bool):=do
 match<-tH a0 0 with
 | .ret r0=>pure r0
 | .done _=>
  let t2<-(do
   if((a0.Coefs.length:Int)==4) then
    let y1<-tB a0.Const 99
    pure (id y1)
   else
    pure false
     : Option Bool)
  pure (id t2)
theorem eY:∀a0 r,rL a0=some r->∀{I:Imm}{p c},(S4 I p a0.Coefs c)->RT 104 [vA (cAff a0 p c)] I [] (zS  r):=by
 intro a0 r N I p c h;unfold rL at N;refine yM func104 λB=>?_;have H:=iS I;refine yJ<|uA (cAff a0 p c) ?_;intro b hb;refine yO [] []<|yE<|yG [3] rfl<|uP<|rX [(1,vP b 0),(3,vI 0)] ?_;obtain⟨o0,ay,aB⟩:=zF N;refine zBy a0 0 o0 ay iR h (λ_ _ _ h=>h) (λ_ _ h=>h) ?_ ?_
 ·intro aN  heq ai;subst o0;have H:=H.trans ai;refine zU<|zH<|zM ?_;refine tZ aB [] (λt2=>[(2,.bool t2)]) (λaO aJ=>?_) ?_
  ·have H:=iS aN;refine zE<|yR 5 [0] [22] rfl<|wN [22] aJ ?_ ?_
   ·intro aQ N;refine yR 7 [0] [24] rfl<|bE N λy1 aI N=>vJ (zAN a0.Const 99 _ aI ) ?_;intro bq ax;have H:=H.trans ax;exact yW [] [2] rfl<|wM zO<|xM<|zY (ct N H)
   intro aQ N;exact yO [] [(2,vF)]<|wM zO<|xM<|zY (ct N H)
  intro t2 bf aR aT;refine zH<|yF ?_;obtain rfl:=zB aT;exact xH
 intro r0 I9 hs9 m9 aC le9 aD;subst aC;refine zR<|zG ?_;obtain rfl:=zB aB;exact yV aD
def zW(r:Int):KT:=λkk I' aj v=>
 ∃v0,aj=[]/\v=tupV [v0]/\v0=.int .i64 r
def qL(a0:zC)(n0:Int)(i:Int):Option (Int):=do
 if(decide (i<(a0.Coefs.length:Int))) then
  let x<-idx a0.Coefs i
  let n02<-(do
   if(x != 0) then
    pure (W (i+1))
   else
    pure (id n0)
     : Option Int)
  qL a0 n02 (W (i+1))
 else
  pure (id n0)
 partial_fixpoint
theorem zDq(a0:zC):∀(n0:Int) (i:Int) (o:Int),qL a0 n0 i=some o->∀{B}{I0 I:Imm}{Q p c}{b:Nat},I0.le I->(S4 I p a0.Coefs c)->NG Q->NO Q->(∀(I':Imm) (n01:Int),o=n01->I0.le I'->T 21 B Q (.exit 0) I' [] [(3,vI n01)])->J Tryz.prog 21 B (nav (bodyOf f105) [1,1,0,1,0]) Q I [hB b (cAff a0 p c)] [(1,vP b 0),(3,vI n0),(4,vI i)]:=by
 refine qL.partial_correctness a0 _ λaG ih n0 i o N B I0 I Q p c b H h hg ho hx=>yK hg ho<|zM<|yJ<|yW [0] [9] rfl<|zH<|yD N ?_ ?_
 ·intro hc N;refine zT<|yE<|zZ<|yJ<|yR 3 [0] [13,14] rfl<|bE N λx hy N=>xL rfl rfl h hy ?_;intro ad aF av aq;obtain rfl:=aq;refine yY 0 av [vI x] (vI x) rfl<|yW [] [17] rfl<|zH ?_;refine tZ N [hB b (cAff a0 p c)] (λn02=>[(1,vP b 0),(3,vI n02),(4,vI i)]) (λo0 ay=>?_) ?_
  ·have H:=iS I;refine yD ay ?_ ?_
   ·intro aE N;exact zE<|yW [] [3] rfl<|xM<|zY (ct N H)
   intro aE N;exact zT<|xM<|zY (ct N H)
  intro n02 I0 le aT;have ⟨h,H⟩:=m2 le h H;exact zQ<|zH<|zE<|yW [] [4] rfl<|yL<|gJ<|ih n02 (W (i+1)) _ aT H h hg ho hx
 intro hc N;exact uQ<|wM zO<|xM<|hx _ _ (zB N).symm H
def oT(a0:zC):Option (Int):=do
 let n01<-qL a0 0 0
 pure (id n01)
theorem dS:∀a0 r,oT a0=some r->∀{I:Imm}{p c},(S4 I p a0.Coefs c)->RT 105 [vA (cAff a0 p c)] I [] (zW  r):=by
 intro a0 r N I p c h;unfold oT at N;refine yM func105 λB=>yJ<|uA (cAff a0 p c) ?_;intro b hb;refine yO [] []<|wJ [3] rfl<|yE<|yG [4] rfl<|uP<|rX [(1,vP b 0),(3,vI 0),(4,vI 0)] ?_;obtain⟨aO,aJ,aB⟩:=zF N;refine zDq a0 0 0 aO aJ iR h (λ_ _ _ h=>h) (λ_ _ h=>h) ?_;intro aN n01 heq1 ai;subst aO;refine zU<|wJ [2] rfl<|zH<|yF ?_;obtain rfl:=zB aB;exact xH
def rM(a0:zK)(am:Int)(i:Int):Option (Out Unit (Bool)):=do
 if(decide (i<(a0.Subs.length:Int))) then
  let t29<-(do
   let x<-idx a0.Subs i
   let y<-rL x
   if(!y) then
    pure true
   else
    let x1<-idx a0.Subs i
    let y1<-oT x1
    pure (decide (y1>am))
     : Option Bool)
  if t29 then
   pure (.ret false)
  else
   rM a0 am (W (i+1))
 else
  pure (.done ())
 partial_fixpoint
theorem zDU(a0:zK)(am:Int):∀(i:Int) (o:Out Unit (Bool)),rM a0 am i=some o->∀{B}{I0 I:Imm}{Q p c}{b:Nat},I0.le I->(S4 I p a0.Subs c)->NG Q->NO Q->(∀(I':Imm) ,o=(.done ())->I0.le I'->T 56 B Q (.exit 0) I' [hB b (cAccess a0 p c)] [(2,vP b 0)])->(∀r I' aj m',o=(.ret r)->I0.le I'->RS Tryz.prog f64 B (zS  r) I' aj m'->T 56 B Q .ret I' aj m')->J Tryz.prog 56 B (nav (bodyOf f64) [1,0,1,0]) Q I [hB b (cAccess a0 p c)] [(1,vI am),(2,vP b 0),(5,vI i)]:=by
 refine rM.partial_correctness a0 am _ λaG ih i o N B I0 I Q p c b H h hg ho hx hr=>yK hg ho<|zM<|yJ<|yW [0] [10] rfl<|zH<|yD N ?_ ?_
 ·intro hc N;refine zT<|yE<|zZ<|zM ?_;refine tZ N [hB b (cAccess a0 p c)] (λt29=>[(1,vI am),(2,vP b 0),(5,vI i),(29,.bool t29)]) (λo0 ay=>?_) ?_
  ·have H:=iS I;refine zE<|yR 3 [0] [14,15] rfl ?_;obtain⟨x,hy,N⟩:=zF ay;refine xL rfl rfl h hy ?_;intro ad aF av aq;obtain⟨p1,c1,rfl,h1⟩:=yQ aq;refine yY 0 av (cAff x p1 c1) (vA (cAff x p1 c1)) rfl<|bE N λy aw N=>vJ (eY x _ aw h1) ?_;intro aN le;have ⟨h,H⟩:=m2 le h H;refine yR 8 [] [20] rfl<|wN [20] N ?_ ?_
   ·intro aE N;exact yO [] [(29,vY)]<|xM<|zY (ct N H)
   intro aE N;refine yR 11 [0] [22,23] rfl<|bE N λx1 aI N=>xL rfl rfl h aI ?_;intro ad1 aY au aA;obtain⟨p2,c2,rfl,h3⟩:=yQ aA;refine yY 0 au (cAff x1 p2 c2) (vA (cAff x1 p2 c2)) rfl<|bE N λy1 aW N=>qJ (dS x1 _ aW h3) ?_;intro bf ai;have H:=H.trans ai;exact yW [] [29] rfl<|xM<|zY (ct N H)
  intro t29 I0 ax aT;have ⟨h,H⟩:=m2 ax h H;refine zH<|yD aT ?_ ?_
  ·intro aQ N;exact xZ [(4,vF)]<|yS<|zR<|zG<|zG<|hr _ _ _ _ (zB N).symm H ⟨_,_,(.tmp rfl ResV.nil),zO,⟨_,rfl,rfl,rfl⟩⟩
  intro aQ N;exact zT<|zQ<|zH<|zE<|yW [] [5] rfl<|yL<|gJ<|ih (W (i+1)) _ N H h hg ho hx hr
 intro hc N;exact uQ<|xM<|hx _  (zB N).symm H
def mZ(a0:zK)(am:Int):Option (Bool):=do
 match<-rM a0 am 0 with
 | .ret r0=>pure r0
 | .done _=>
  let t4<-(do
   if((a0.Array.l.length:Int)==1) then
    if(!(Op.bytesLess a0.Array.l ([65]:List UInt8))) then
     if(Op.bytesLess a0.Array.l ([68]:List UInt8)||a0.Array.l==([68]:List UInt8)) then
      if(decide ((a0.Subs.length:Int)>=1)) then
       pure (decide ((a0.Subs.length:Int)<=2))
      else
       pure false
     else
      pure false
    else
     pure false
   else
    pure false
     : Option Bool)
  pure (id t4)
theorem zB7:∀a0 am r,mZ a0 am=some r->∀{I:Imm}{p c},(S4 I p a0.Subs c)->RT 64 [vA (cAccess a0 p c),vI am] I [] (zS  r):=by
 intro a0 am r N I p c h;unfold mZ at N;refine yM func64 λB=>?_;have H:=iS I;refine yJ<|uA (cAccess a0 p c) ?_;intro b hb;refine yO [] []<|yE<|yG [5] rfl<|uP<|rX [(1,vI am),(2,vP b 0),(5,vI 0)] ?_;obtain⟨aO,aJ,aB⟩:=zF N;refine zDU a0 am 0 aO aJ iR h (λ_ _ _ h=>h) (λ_ _ h=>h) ?_ ?_
 ·intro bq  heq1 aR;subst aO;have H:=H.trans aR;refine zU<|zH<|zM ?_;refine tZ aB [] (λt4=>[(4,.bool t4)]) (λo02 ho02=>?_) ?_
  ·have H:=iS bq;refine zE<|yR 5 [0] [34] rfl<|wN [34] ho02 ?_ ?_
   ·intro bp N;refine yR 10 [0] [39] rfl<|wN [39] N ?_ ?_
    ·intro bD N;refine yR 15 [0] [44] rfl<|wN [44] N ?_ ?_
     ·intro hc5 N;refine yR 21 [0] [50] rfl<|wN [50] N ?_ ?_
      ·intro hc6 N;exact yW [0] [4] rfl<|wM zO<|xM<|zY (ct N H)
      intro hc6 N;exact yO [] [(4,vF)]<|wM zO<|xM<|zY (ct N H)
     intro hc5 N;exact yO [] [(4,vF)]<|wM zO<|xM<|zY (ct N H)
    intro bD N;exact yO [] [(4,vF)]<|wM zO<|xM<|zY (ct N H)
   intro bp N;exact yO [] [(4,vF)]<|wM zO<|xM<|zY (ct N H)
  intro t4 bG bg hMc1;refine zH<|yF ?_;obtain rfl:=zB hMc1;exact xH
 intro r0 I9 hs9 m9 aC le9 aD;subst aC;refine zR<|zG ?_;obtain rfl:=zB aB;exact yV aD
def dB(kind:Int):Option (Int):=do
 let t4<-(do
  if(kind==1) then
   pure (kind==1)
  else
   let t41<-(do
    if(kind==2) then
     pure (kind==2)
    else
     pure (kind==3)
      : Option Bool)
   pure (id t41)
    : Option Bool)
 if t4 then
  pure (id 0)
 else
  let t8<-(do
   if(kind==4) then
    pure (kind==4)
   else
    let t81<-(do
     if(kind==5) then
      pure (kind==5)
     else
      pure (kind==6)
       : Option Bool)
    pure (id t81)
     : Option Bool)
  if t8 then
   pure (id 2)
  else
   pure (-1)
theorem zCi:∀kind r,dB kind=some r->∀{I:Imm} ,RT 106 [vI kind] I [] (zW  r):=by
 intro kind r N I;unfold dB at N;refine yM func106 λB=>?_;have H:=iS I;refine xZ []<|yE<|yG [3] rfl<|uP<|zM<|yG [4] rfl<|zH ?_;refine tZ N [] (λt4=>[(3,vI kind),(4,.bool t4)]) (λo0 ay=>?_) ?_
 ·have H:=iS I;refine yD ay ?_ ?_
  ·intro hc N;exact zT<|xM<|zY (ct N H)
  intro hc N;refine yG [4] rfl<|zH ?_;refine tZ N [] (λt41=>[(3,vI kind),(4,.bool t41)]) (λaO aJ=>?_) ?_
  ·have H:=iS I;refine yD aJ ?_ ?_
   ·intro aE N;exact zT<|xM<|zY (ct N H)
   intro aE N;exact zE<|yW [] [4] rfl<|xM<|zY (ct N H)
  intro t41 aN le hMc1;have H:=H.trans le;exact xM<|zY (ct hMc1 H)
 intro t4 I0 ai aT;have H:=H.trans ai;refine zH<|yD aT ?_ ?_
 ·intro aQ N;refine yG [2] rfl<|yS<|zR<|zG ?_;obtain rfl:=zB N;exact xH
 intro aQ N;refine zM<|yG [8] rfl<|zH ?_;refine tZ N [] (λt8=>[(8,.bool t8)]) (λo02 ho02=>?_) ?_
 ·have H:=iS I0;refine yD ho02 ?_ ?_
  ·intro bp N;exact zT<|xM<|zY (ct N H)
  intro bp N;refine yG [8] rfl<|zH ?_;refine tZ N [] (λt81=>[(8,.bool t81)]) (λo03 ho03=>?_) ?_
  ·have H:=iS I0;refine yD ho03 ?_ ?_
   ·intro bD N;exact zT<|xM<|zY (ct N H)
   intro bD N;exact zE<|yW [] [8] rfl<|xM<|zY (ct N H)
  intro t81 bq ax hMc3;have H:=H.trans ax;exact xM<|zY (ct hMc3 H)
 intro t8 bf aR hMc2;refine zH<|yD hMc2 ?_ ?_
 ·intro hc5 N;refine yG [2] rfl<|yS<|zR<|zG ?_;obtain rfl:=zB N;exact xH
 intro hc5 N;refine zT<|zQ<|wJ [2] rfl<|zH<|yF ?_;obtain rfl:=zB N;exact xH
def mH(a0:zK):Option (Bool):=do
 let t2<-(do
  if(a0.Array.l==([]:List UInt8)) then
   pure ((a0.Subs.length:Int)==0)
  else
   pure false
    : Option Bool)
 pure (id t2)
theorem zA6:∀a0 r,mH a0=some r->∀{I:Imm}{p c},(S4 I p a0.Subs c)->RT 140 [vA (cAccess a0 p c)] I [] (zS  r):=by
 intro a0 r N I p c h;unfold mH at N;refine yM func140 λB=>?_;have H:=iS I;refine yJ<|uA (cAccess a0 p c) ?_;intro b hb;refine yO [] []<|zH<|zM ?_;refine tZ N [] (λt2=>[(2,.bool t2)]) (λo0 ay=>?_) ?_
 ·have H:=iS I;refine zE<|yR 4 [0] [6] rfl<|wN [6] ay ?_ ?_
  ·intro hc N;exact yW [0] [2] rfl<|wM zO<|xM<|zY (ct N H)
  intro hc N;exact yO [] [(2,vF)]<|wM zO<|xM<|zY (ct N H)
 intro t2 I0 le aT;refine zH<|yF ?_;obtain rfl:=zB aT;exact xH
def jE(a0:zC):Option (Bool):=do
 let t2<-(do
  if((a0.Coefs.length:Int)==0) then
   pure (a0.Const==0)
  else
   pure false
    : Option Bool)
 pure (id t2)
theorem zAt:∀a0 r,jE a0=some r->∀{I:Imm}{p c},(S4 I p a0.Coefs c)->RT 141 [vA (cAff a0 p c)] I [] (zS  r):=by
 intro a0 r N I p c h;unfold jE at N;refine yM func141 λB=>?_;have H:=iS I;refine yJ<|uA (cAff a0 p c) ?_;intro b hb;refine yO [] []<|zH<|zM ?_;refine tZ N [] (λt2=>[(2,.bool t2)]) (λo0 ay=>?_) ?_
 ·have H:=iS I;refine zE<|yR 5 [0] [7] rfl<|wN [7] ay ?_ ?_
  ·intro hc N;exact yW [0] [2] rfl<|wM zO<|xM<|zY (ct N H)
  intro hc N;exact yO [] [(2,vF)]<|wM zO<|xM<|zY (ct N H)
 intro t2 I0 le aT;refine zH<|yF ?_;obtain rfl:=zB aT;exact xH
def zAC(e0:zD)(am:Int):Option (Bool):=do
 if(e0.Kind==2) then
  let t4<-(do
   if(e0.Num==0) then
    let y<-mH e0.Read
    if y then
     let y1<-rL e0.Index
     if y1 then
      let y2<-oT e0.Index
      pure (decide (y2<=am))
     else
      pure false
    else
     pure false
   else
    pure false
     : Option Bool)
  pure (id t4)
 else
  if(e0.Kind==3) then
   let t41<-(do
    if(e0.Num==0) then
     let y3<-jE e0.Index
     if y3 then
      let y4<-mZ e0.Read am
      pure (id y4)
     else
      pure false
    else
     pure false
      : Option Bool)
   pure (id t41)
  else
   if(e0.Kind==1) then
    let t42<-(do
     if(decide (e0.Num>=0)) then
      if(decide (e0.Num<=99)) then
       let y5<-jE e0.Index
       if y5 then
        let y6<-mH e0.Read
        pure (id y6)
       else
        pure false
      else
       pure false
     else
      pure false
       : Option Bool)
    pure (id t42)
   else
    let t43<-(do
     if(e0.Num==0) then
      let y7<-jE e0.Index
      if y7 then
       let y8<-mH e0.Read
       pure (id y8)
      else
       pure false
     else
      pure false
       : Option Bool)
    pure (id t43)
theorem zHC:∀e0 am r,zAC e0 am=some r->∀{I:Imm}{p c p1 c1 p2 c2},(S4 I p e0.Index.Coefs c)->(S4 I p1 e0.Read.Subs c1)->(S4 I p2 e0.Kids c2)->RT 107 [vA (cExpr e0 p c p1 c1 p2 c2),vI am] I [] (zS  r):=by
 intro e0 am r N I p c p1 c1 p2 c2 h h1 h2;unfold zAC at N;refine yM func107 λB=>?_;have H:=iS I;refine yJ<|uA (cExpr e0 p c p1 c1 p2 c2) ?_;intro b hb;refine yO [] []<|yE<|yJ<|yW [0] [7] rfl<|zH<|yD N ?_ ?_
 ·intro hc N;refine zM ?_;refine tZ N [] (λt4=>[(4,.bool t4)]) (λo0 ay=>?_) ?_
  ·have H:=iS I;refine zE<|yR 4 [0] [11] rfl<|wN [11] ay ?_ ?_
   ·intro aE N;refine xF 6 [0] [(13,vA (cAccess e0.Read p1 c1))]<|bE N λy hy N=>vJ (zA6 e0.Read _ hy h1) ?_;intro aN le;have ⟨h,H⟩:=m2 le h H;refine yR 9 [] [16] rfl<|wN [16] N ?_ ?_
    ·intro aQ N;refine xF 11 [0] [(18,vA (cAff e0.Index p c))]<|bE N λy1 aw N=>vJ (eY e0.Index _ aw h) ?_;intro bf ai;have ⟨h,H⟩:=m2 ai h H;refine yR 14 [] [21] rfl<|wN [21] N ?_ ?_
     ·intro bp N;refine xF 16 [0] [(23,vA (cAff e0.Index p c))]<|bE N λy2 aI N=>qJ (dS e0.Index _ aI h) ?_;intro bq ax;have H:=H.trans ax;exact yW [] [4] rfl<|wM zO<|xM<|zY (ct N H)
     intro bp N;exact yO [] [(4,vF)]<|wM zO<|xM<|zY (ct N H)
    intro aQ N;exact yO [] [(4,vF)]<|wM zO<|xM<|zY (ct N H)
   intro aE N;exact yO [] [(4,vF)]<|wM zO<|xM<|zY (ct N H)
  intro t4 I0 aR aT;refine yS<|zG ?_;obtain rfl:=zB aT;exact xH
 intro hc N;refine zT<|yE<|yJ<|yW [0] [30] rfl<|zH<|yD N ?_ ?_
 ·intro bD N;refine zM ?_;refine tZ N [] (λt41=>[(4,.bool t41)]) (λaO aJ=>?_) ?_
  ·have H:=iS I;refine zE<|yR 4 [0] [34] rfl<|wN [34] aJ ?_ ?_
   ·intro hc5 N;refine xF 6 [0] [(36,vA (cAff e0.Index p c))]<|bE N λy3 aW N=>vJ (zAt e0.Index _ aW h) ?_;intro bL bg;have ⟨h1,H⟩:=m2 bg h1 H;refine yR 9 [] [39] rfl<|wN [39] N ?_ ?_
    ·intro hc6 N;refine xF 12 [0] [(41,vA (cAccess e0.Read p1 c1)),(42,vI am)]<|bE N λy4 bk N=>vJ (zB7 e0.Read am _ bk h1) ?_;intro I06 bo;have H:=H.trans bo;exact yW [] [4] rfl<|wM zO<|xM<|zY (ct N H)
    intro hc6 N;exact yO [] [(4,vF)]<|wM zO<|xM<|zY (ct N H)
   intro hc5 N;exact yO [] [(4,vF)]<|wM zO<|xM<|zY (ct N H)
  intro t41 bG bB hMc1;refine yS<|zG ?_;obtain rfl:=zB hMc1;exact xH
 intro bD N;refine zT<|yE<|yJ<|yW [0] [47] rfl<|zH<|yD N ?_ ?_
 ·intro hc7 N;refine zM ?_;refine tZ N [] (λt42=>[(4,.bool t42)]) (λo02 ho02=>?_) ?_
  ·have H:=iS I;refine zE<|yR 4 [0] [51] rfl<|wN [51] ho02 ?_ ?_
   ·intro hc8 N;refine yR 9 [0] [56] rfl<|wN [56] N ?_ ?_
    ·intro hc9 N;refine xF 11 [0] [(58,vA (cAff e0.Index p c))]<|bE N λy5 bC N=>vJ (zAt e0.Index _ bC h) ?_;intro I08 le7;have ⟨h1,H⟩:=m2 le7 h1 H;refine yR 14 [] [61] rfl<|wN [61] N ?_ ?_
     ·intro hc10 N;refine xF 16 [0] [(63,vA (cAccess e0.Read p1 c1))]<|bE N λy6 hy6 N=>vJ (zA6 e0.Read _ hy6 h1) ?_;intro I09 le8;have H:=H.trans le8;exact yW [] [4] rfl<|wM zO<|xM<|zY (ct N H)
     intro hc10 N;exact yO [] [(4,vF)]<|wM zO<|xM<|zY (ct N H)
    intro hc9 N;exact yO [] [(4,vF)]<|wM zO<|xM<|zY (ct N H)
   intro hc8 N;exact yO [] [(4,vF)]<|wM zO<|xM<|zY (ct N H)
  intro t42 I07 le9 hMc2;refine yS<|zG ?_;obtain rfl:=zB hMc2;exact xH
 intro hc7 N;refine zT<|zH<|zM ?_;refine tZ N [] (λt43=>[(4,.bool t43)]) (λo03 ho03=>?_) ?_
 ·have H:=iS I;refine zE<|yR 4 [0] [69] rfl<|wN [69] ho03 ?_ ?_
  ·intro hc11 N;refine xF 6 [0] [(71,vA (cAff e0.Index p c))]<|bE N λy7 hy7 N=>vJ (zAt e0.Index _ hy7 h) ?_;intro bU le10;have ⟨h1,H⟩:=m2 le10 h1 H;refine yR 9 [] [74] rfl<|wN [74] N ?_ ?_
   ·intro hc12 N;refine xF 11 [0] [(76,vA (cAccess e0.Read p1 c1))]<|bE N λy8 hy8 N=>vJ (zA6 e0.Read _ hy8 h1) ?_;intro bR le11;have H:=H.trans le11;exact yW [] [4] rfl<|wM zO<|xM<|zY (ct N H)
   intro hc12 N;exact yO [] [(4,vF)]<|wM zO<|xM<|zY (ct N H)
  intro hc11 N;exact yO [] [(4,vF)]<|wM zO<|xM<|zY (ct N H)
 intro t43 bO le12 hMc3;refine zH<|yF ?_;obtain rfl:=zB hMc3;exact xH
mutual
def oU(e0:zD)(am:Int)(az:Int):Option (Bool):=do
 let t24<-(do
  if(decide (az<1)) then
   pure true
  else
   let y<-dB e0.Kind
   if(y != (e0.Kids.length:Int)) then
    pure true
   else
    let y1<-zAC e0 am
    pure (!y1)
    : Option Bool)
 if t24 then
  pure false
 else
  match<-oX (same e0) (same am) (same az) (same 0) with
  | .ret r0=>pure r0
  | .done _=>
   pure true
 partial_fixpoint
def oX(e0:zD)(am:Int)(az:Int)(i:Int):Option (Out Unit (Bool)):=do
 if(decide (i<(e0.Kids.length:Int))) then
  let x<-idx e0.Kids i
  let y2<-oU (same x) (same am) (W (az - 1))
  if(!y2) then
   pure (.ret false)
  else
   oX (same e0) (same am) (same az) (W (i+1))
 else
  pure (.done ())
 partial_fixpoint
end
theorem zFU:(∀(e0:zD) (am:Int) (az:Int) r,oU e0 am az=some r->∀{I:Imm}{p c p1 c1 p2 c2},(S4 I p e0.Index.Coefs c)->(S4 I p1 e0.Read.Subs c1)->(S4 I p2 e0.Kids c2)->RT 65 [vA (cExpr e0 p c p1 c1 p2 c2),vI am,vI az] I [] (zS  r))/\(∀(e0:zD) (am:Int) (az:Int) (i:Int) o,oX e0 am az i=some o->∀{B}{I0 I:Imm}{Q p c p1 c1 p2 c2}{b:Nat},I0.le I->(S4 I p e0.Index.Coefs c)->(S4 I p1 e0.Read.Subs c1)->(S4 I p2 e0.Kids c2)->NG Q->NO Q->(∀(I':Imm) ,o=(.done ())->I0.le I'->T 42 B Q (.exit 0) I' [] [])->(∀r I' aj m',o=(.ret r)->I0.le I'->RS Tryz.prog f65 B (zS  r) I' aj m'->T 42 B Q .ret I' aj m')->J Tryz.prog 42 B (nav (bodyOf f65) [1,1,0,1,0]) Q I [hB b (cExpr e0 p c p1 c1 p2 c2)] [(1,vI am),(2,vI az),(3,vP b 0),(7,vI i)]):=by
 refine oU.mutual_partial_correctness _ _ ?_ ?_
 ·intro F_spec_l3Shape_l1 ih_spec_l3Shape_l1 e0 am az r N I p c p1 c1 p2 c2 h h1 h2;refine yM func65 λB=>?_;have H:=iS I;refine yJ<|uA (cExpr e0 p c p1 c1 p2 c2) ?_;intro b hb;refine yO [] []<|yE<|zM ?_;refine tZ N [hB b (cExpr e0 p c p1 c1 p2 c2)] (λt24=>[(1,vI am),(2,vI az),(3,vP b 0),(24,.bool t24)]) (λo0 ay=>?_) ?_
  ·have H:=iS I;cases hc:(decide (az<1)) with
   | true=>
    have hM0:=nN hc ay;refine uX [.p (vI az) [],.q vY,.q vY,.p undef [],.p undef [],.p undef [],.p undef [],.p undef [],.p undef [],.p undef [],.p vY [],.p vY [],.p undef [],.p undef [],.p undef [],.p undef [],.p vY []] [[],[(0,false)],[(1,false)],[(2,false)],[(2,false),(3,false)],[(2,false),(4,false)],[(2,false)],[(2,false),(6,false)],[(2,false),(7,false)],[(2,false),(5,false),(8,false)],[(2,false),(9,false)],[(10,false)],[(11,false)],[(11,false)],[(11,false),(12,false),(13,false)],[(11,false),(14,false)],[(11,false),(15,false)]] [hB b (cExpr e0 p c p1 c1 p2 c2)] [] [(16,false)] (xD [0]) ?_ ?_
    ·refine Op<|Oq ?_<|Oq ?_<|Op<|Op<|Op<|Op<|Op<|Op<|Op<|Op<|Op<|Op<|Op<|Op<|Op<|Op<|On
     ·intro I1 hf ai;refine xV [8] rfl<|nP 2 [(9,.bool (decide (az<1)))] ?_;rw[hc];exact wD iR
     intro I1 hf ai;exact I_h [(9,vY)]<|nP 3 [(10,vY)]<|wD iR
    intro aN le;refine xV [1,2,3,24] rfl ?_;have H:=H.trans le;exact zX rfl<|xM<|zY (ct hM0 H)
   | false=>
    have hM01:=oK hc ay;obtain⟨y,hy,N⟩:=zF hM01;cases aE:(y != (e0.Kids.length:Int)) with
    | true=>
     have hM02:=nN aE N;refine uX [.p (vI az) [],.q vF,.q vF,.p (vP b 0) [],.p (vI e0.Kind) [0],.q (vI y),.p (vP b 6) [],.p (vS p2 e0.Kids c2) [0],.p (vI (e0.Kids.length:Int)) [],.q vY,.q vY,.q vY,.p undef [],.p undef [],.p undef [],.p undef [],.p vY []] [[],[(0,false)],[(1,false)],[(2,false)],[(2,false),(3,false)],[(2,false),(4,false)],[(2,false)],[(2,false),(6,false)],[(2,false),(7,false)],[(2,false),(5,false),(8,false)],[(2,false),(9,false)],[(10,false)],[(11,false)],[(11,false)],[(11,false),(12,false),(13,false)],[(11,false),(14,false)],[(11,false),(15,false)]] [hB b (cExpr e0 p c p1 c1 p2 c2)] [] [(16,false)] (xD [0]) ?_ ?_
     ·refine Op<|Oq ?_<|Oq ?_<|Op<|Op<|Oq ?_<|Op<|Op<|Op<|Oq ?_<|Oq ?_<|Oq ?_<|Op<|Op<|Op<|Op<|Op<|On
      ·intro I1 hf ai;refine xV [8] rfl<|nP 2 [(9,.bool (decide (az<1)))] ?_;rw[hc];exact wD iR
      ·intro I1 hf ai;exact I_h [(9,vF)]<|nP 3 [(10,vF)]<|wD iR
      ·intro I1 hf ai;refine xV [10,12] rfl ?_;have H:=iS I1;refine qJ (zCi e0.Kind _ hy ) ?_;intro bf ai;have H:=H.trans ai;exact wD H
      ·intro I1 hf ai;refine xV [10,13,16] rfl<|nP 10 [(17,.bool (y != (e0.Kids.length:Int)))] ?_;rw[aE];exact wD iR
      ·intro I1 hf ai;exact xV [10,17] rfl<|nP 11 [(18,vY)]<|wD iR
      intro I1 hf ai;exact I_h [(18,vY)]<|nP 12 [(19,vY)]<|wD iR
     intro bq ax;refine xV [1,2,3,24] rfl ?_;have H:=H.trans ax;exact zX rfl<|xM<|zY (ct hM02 H)
    | false=>
     have hM03:=oK aE N;obtain⟨y1,aw,N⟩:=zF hM03;refine uX [.p (vI az) [],.q vF,.q vF,.p (vP b 0) [],.p (vI e0.Kind) [0],.q (vI y),.p (vP b 6) [],.p (vS p2 e0.Kids c2) [0],.p (vI (e0.Kids.length:Int)) [],.q vF,.q vF,.q vF,.p (vA (cExpr e0 p c p1 c1 p2 c2)) [0],.p (vI am) [],.q (.bool y1),.p (.bool (!y1)) [],.p (.bool (!y1)) []] [[],[(0,false)],[(1,false)],[(2,false)],[(2,false),(3,false)],[(2,false),(4,false)],[(2,false)],[(2,false),(6,false)],[(2,false),(7,false)],[(2,false),(5,false),(8,false)],[(2,false),(9,false)],[(10,false)],[(11,false)],[(11,false)],[(11,false),(12,false),(13,false)],[(11,false),(14,false)],[(11,false),(15,false)]] [hB b (cExpr e0 p c p1 c1 p2 c2)] [] [(16,false)] (xD [0]) ?_ ?_
     ·refine Op<|Oq ?_<|Oq ?_<|Op<|Op<|Oq ?_<|Op<|Op<|Op<|Oq ?_<|Oq ?_<|Oq ?_<|Op<|Op<|Oq ?_<|Op<|Op<|On
      ·intro I1 hf ai;refine xV [8] rfl<|nP 2 [(9,.bool (decide (az<1)))] ?_;rw[hc];exact wD iR
      ·intro I1 hf ai;exact I_h [(9,vF)]<|nP 3 [(10,vF)]<|wD iR
      ·intro I1 hf ai;refine xV [10,12] rfl ?_;have H:=iS I1;refine qJ (zCi e0.Kind _ hy ) ?_;intro bf ai;have H:=H.trans ai;exact wD H
      ·intro I1 hf ai;refine xV [10,13,16] rfl<|nP 10 [(17,.bool (y != (e0.Kids.length:Int)))] ?_;rw[aE];exact wD iR
      ·intro I1 hf ai;exact xV [10,17] rfl<|nP 11 [(18,vF)]<|wD iR
      ·intro I1 hf ai;exact I_h [(18,vF)]<|nP 12 [(19,vF)]<|wD iR
      intro I1 hf ai;refine xV [19,20,21] rfl ?_;have H:=iS I1;have ⟨h,h1,h2⟩:=m3 ai h h1 h2;refine vJ (zHC e0 am _ aw h h1 h2) ?_;intro bG aR;have H:=H.trans aR;exact wD H
     intro bL bg;refine xV [1,2,3,24] rfl ?_;have H:=H.trans bg;exact zX rfl<|xM<|zY (ct N H)
  intro t24 I0 bo aT;have ⟨h,h1,h2⟩:=m3 bo h h1 h2;refine zH<|yD aT ?_ ?_
  ·intro aQ N;refine xZ [(6,vF)]<|yS<|zG ?_;obtain rfl:=zB N;exact xH
  intro aQ N;refine zT<|yE<|yG [7] rfl<|uP<|rX [(1,vI am),(2,vI az),(3,vP b 0),(7,vI 0)] ?_;obtain⟨aO,aJ,aB⟩:=zF N;refine ih_spec_l3Shape_l1 e0 am az 0 aO aJ iR h h1 h2 (λ_ _ _ h=>h) (λ_ _ h=>h) ?_ ?_
  ·intro I07  heq1 le7;subst aO;refine zU<|zBu [(6,vY)]<|zH<|yF ?_;obtain rfl:=zB aB;exact xH
  intro r0 I9 hs9 m9 aC le9 aD;subst aC;refine zR<|zG ?_;obtain rfl:=zB aB;exact yV aD
 intro F_spec_l3Shape F_spec_l3Shape_l1 ih_spec_l3Shape ih_spec_l3Shape_l1 e0 am az i o N B I0 I Q p c p1 c1 p2 c2 b H h h1 h2 hg ho hx hr;refine yK hg ho<|zM<|yJ<|yW [0] [29] rfl<|zH<|yD N ?_ ?_
 ·intro bp N;refine zT<|yE<|zZ<|yJ<|yR 3 [0] [33,34] rfl<|bE N λx aI N=>xL rfl rfl h2 aI ?_;intro ad aF av aq;obtain⟨p3,c3,p4,c4,p5,c5,rfl,h5,h6,h7⟩:=yZ aq;refine yY 0 av (cExpr x p3 c3 p4 c4 p5 c5) (vA (cExpr x p3 c3 p4 c4 p5 c5)) rfl<|yR 8 [] [37,39] rfl<|bE N λy2 aW N=>tG (ih_spec_l3Shape x am (W (az - 1)) _ aW h5 h6 h7) ?_;rintro I06 aK v2 k2 bB - ⟨v05,rfl,rfl,rfl⟩ -;have ⟨h,h1,h2,H⟩:=m4 bB h h1 h2 H;refine yW [] [41] rfl<|zH<|yD N ?_ ?_
  ·intro bD N;exact xZ [(6,vF)]<|yS<|zR<|zG<|zG<|hr _ _ _ _ (zB N).symm H ⟨_,_,(.tmp rfl ResV.nil),zO,⟨_,rfl,rfl,rfl⟩⟩
  intro bD N;exact zT<|zQ<|zH<|zE<|yW [] [7] rfl<|yL<|gJ<|ih_spec_l3Shape_l1 e0 am az (W (i+1)) _ N H h h1 h2 hg ho hx hr
 intro bp N;exact uQ<|wM zO<|xM<|hx _  (zB N).symm H
theorem zFh:∀e0 am az r,oU e0 am az=some r->∀{I:Imm}{p c p1 c1 p2 c2},(S4 I p e0.Index.Coefs c)->(S4 I p1 e0.Read.Subs c1)->(S4 I p2 e0.Kids c2)->RT 65 [vA (cExpr e0 p c p1 c1 p2 c2),vI am,vI az] I [] (zS  r):=zFU.1
mutual
def mI(e0:zD)(az:Int):Option (Int):=do
 let n01<-qM (same e0) (same az) (same 1) (same 0)
 pure (id n01)
 partial_fixpoint
def qM(e0:zD)(az:Int)(n0:Int)(i:Int):Option (Int):=do
 let t15<-(do
  if(decide (i<(e0.Kids.length:Int))) then
   pure (decide (az>0))
  else
   pure false
    : Option Bool)
 if t15 then
  let x<-idx e0.Kids i
  let y<-mI (same x) (W (az - 1))
  qM (same e0) (same az) (W (n0+y)) (W (i+1))
 else
  pure (id n0)
 partial_fixpoint
end
theorem zFV:(∀(e0:zD) (az:Int) r,mI e0 az=some r->∀{I:Imm}{p c p1 c1 p2 c2},(S4 I p e0.Index.Coefs c)->(S4 I p1 e0.Read.Subs c1)->(S4 I p2 e0.Kids c2)->RT 66 [vA (cExpr e0 p c p1 c1 p2 c2),vI az] I [] (zW  r))/\(∀(e0:zD) (az:Int) (n0:Int) (i:Int) o,qM e0 az n0 i=some o->∀{B}{I0 I:Imm}{Q p c p1 c1 p2 c2}{b:Nat},I0.le I->(S4 I p e0.Index.Coefs c)->(S4 I p1 e0.Read.Subs c1)->(S4 I p2 e0.Kids c2)->NG Q->NO Q->(∀(I':Imm) (n01:Int),o=n01->I0.le I'->T 29 B Q (.exit 0) I' [] [(5,vI n01)])->J Tryz.prog 29 B (nav (bodyOf f66) [1,1,0,1,0]) Q I [hB b (cExpr e0 p c p1 c1 p2 c2)] [(1,vI az),(2,vP b 0),(5,vI n0),(6,vI i)]):=by
 refine mI.mutual_partial_correctness _ _ ?_ ?_
 ·intro F_spec_l3Count_l1 ih_spec_l3Count_l1 e0 az r N I p c p1 c1 p2 c2 h h1 h2;refine yM func66 λB=>yJ<|uA (cExpr e0 p c p1 c1 p2 c2) ?_;intro b hb;refine yO [] []<|wJ [5] rfl<|yE<|yG [6] rfl<|uP<|rX [(1,vI az),(2,vP b 0),(5,vI 1),(6,vI 0)] ?_;obtain⟨aO,aJ,aB⟩:=zF N;refine ih_spec_l3Count_l1 e0 az 1 0 aO aJ iR h h1 h2 (λ_ _ _ h=>h) (λ_ _ h=>h) ?_;intro bf n01 heq1 ax;subst aO;refine zU<|wJ [4] rfl<|zH<|yF ?_;obtain rfl:=zB aB;exact xH
 intro F_spec_l3Count F_spec_l3Count_l1 ih_spec_l3Count ih_spec_l3Count_l1 e0 az n0 i o N B I0 I Q p c p1 c1 p2 c2 b H h h1 h2 hg ho hx;refine yK hg ho<|zM<|zM ?_;refine tZ N [hB b (cExpr e0 p c p1 c1 p2 c2)] (λt15=>[(1,vI az),(2,vP b 0),(5,vI n0),(6,vI i),(15,.bool t15)]) (λo0 ay=>?_) ?_
 ·have H:=iS I;refine zE<|yR 6 [0] [12] rfl<|wN [12] ay ?_ ?_
  ·intro hc N;exact yW [] [15] rfl<|xM<|zY (ct N H)
  intro hc N;exact yO [] [(15,vF)]<|xM<|zY (ct N H)
 intro t15 I0 le aT;have ⟨h,h1,h2,H⟩:=m4 le h h1 h2 H;refine zH<|yD aT ?_ ?_
 ·intro aE N;refine zT<|yE<|zZ<|zE<|yR 4 [0] [18,20,21] rfl<|bE N λx hy N=>xL rfl rfl h2 hy ?_;intro ad aF av aq;obtain⟨p3,c3,p4,c4,p5,c5,rfl,h3,h4,h5⟩:=yZ aq;refine yY 0 av (cExpr x p3 c3 p4 c4 p5 c5) (vA (cExpr x p3 c3 p4 c4 p5 c5)) rfl<|yR 8 [] [25] rfl<|bE N λy aw N=>tG (ih_spec_l3Count x (W (az - 1)) _ aw h3 h4 h5) ?_;rintro aN aK v2 k2 ai - ⟨v03,rfl,rfl,rfl⟩ -;have ⟨h,h1,h2,H⟩:=m4 ai h h1 h2 H;exact yW [] [5] rfl<|zQ<|zH<|zE<|yW [] [6] rfl<|yL<|gJ<|ih_spec_l3Count_l1 e0 az (W (n0+y)) (W (i+1)) _ N H h h1 h2 hg ho hx
 intro aE N;exact uQ<|wM zO<|xM<|hx _ _ (zB N).symm H
theorem zFi:∀e0 az r,mI e0 az=some r->∀{I:Imm}{p c p1 c1 p2 c2},(S4 I p e0.Index.Coefs c)->(S4 I p1 e0.Read.Subs c1)->(S4 I p2 e0.Kids c2)->RT 66 [vA (cExpr e0 p c p1 c1 p2 c2),vI az] I [] (zW  r):=zFV.1
def nW(s:zJ)(am:Int):Option (Bool):=do
 let t24<-(do
  if(decide (am<0)) then
   pure true
  else
   if(decide (am>4)) then
    pure true
   else
    let y<-mZ s.Write am
    if(!y) then
     pure true
    else
     let y1<-oU s.Value am 5
     pure (!y1)
    : Option Bool)
 if t24 then
  pure false
 else
  let y2<-mI s.Value 5
  pure (decide (y2<=12))
theorem zBL:∀s am r,nW s am=some r->∀{I:Imm}{p c p1 c1 p2 c2 p3 c3},(S4 I p s.Write.Subs c)->(S4 I p1 s.Value.Index.Coefs c1)->(S4 I p2 s.Value.Read.Subs c2)->(S4 I p3 s.Value.Kids c3)->RT 36 [vA (cStmt s p c p1 c1 p2 c2 p3 c3),vI am] I [] (zS  r):=by
 intro s am r N I p c p1 c1 p2 c2 p3 c3 h h1 h2 h3;unfold nW at N;refine yM func36 λB=>?_;have H:=iS I;refine yJ<|uA (cStmt s p c p1 c1 p2 c2 p3 c3) ?_;intro b hb;refine yO [] []<|yE<|zM ?_;refine tZ N [hB b (cStmt s p c p1 c1 p2 c2 p3 c3)] (λt24=>[(2,vP b 0),(24,.bool t24)]) (λo0 ay=>?_) ?_
 ·have H:=iS I;refine zE<|yR 3 [] [7] rfl<|wN [7] ay ?_ ?_
  ·intro hc N;exact yO [] [(24,vY)]<|xM<|zY (ct N H)
  intro hc N;refine yR 7 [] [11] rfl<|wN [11] N ?_ ?_
  ·intro aE N;exact yO [] [(24,vY)]<|xM<|zY (ct N H)
  intro aE N;refine xF 10 [0] [(13,vA (cAccess s.Write p c)),(14,vI am)]<|bE N λy hy N=>vJ (zB7 s.Write am _ hy h) ?_;intro aN le;have ⟨h1,h2,h3,H⟩:=m4 le h1 h2 h3 H;refine yR 14 [] [18] rfl<|wN [18] N ?_ ?_
  ·intro aQ N;exact yO [] [(24,vY)]<|xM<|zY (ct N H)
  intro aQ N;refine xF 17 [0] [(20,vA (cExpr s.Value p1 c1 p2 c2 p3 c3)),(21,vI am)]<|bE N λy1 aw N=>vJ (zFh s.Value am 5 _ aw h1 h2 h3) ?_;intro bf ai;have H:=H.trans ai;exact yW [] [24] rfl<|xM<|zY (ct N H)
 intro t24 I0 ax aT;have ⟨h1,h2,h3⟩:=m3 ax h1 h2 h3;refine zH<|yD aT ?_ ?_
 ·intro bp N;refine xZ [(4,vF)]<|yS<|zG ?_;obtain rfl:=zB N;exact xH
 intro bp N;refine zT<|wG<|xF 2 [0] [(26,vA (cExpr s.Value p1 c1 p2 c2 p3 c3))]<|bE N λy2 aI N=>qJ (zFi s.Value 5 _ aI h1 h2 h3) λbq aR=>yO [] [(4,.bool (decide (y2<=12)))]<|zH<|yF ?_;obtain rfl:=zB N;exact xH
def pU(ag:(List zC))(am:Int)(i:Int):Option (Out Unit (Bool)):=do
 if(decide (i<(ag.length:Int))) then
  let t26<-(do
   let x<-idx ag i
   let y<-rL x
   if(!y) then
    pure true
   else
    let x1<-idx ag i
    let y1<-oT x1
    pure (decide (y1>am))
     : Option Bool)
  if t26 then
   pure (.ret false)
  else
   pU ag am (W (i+1))
 else
  pure (.done ())
 partial_fixpoint
theorem zE9(ag:(List zC))(am:Int):∀(i:Int) (o:Out Unit (Bool)),pU ag am i=some o->∀{B}{I0 I:Imm}{Q p c},I0.le I->(S4 I p ag c)->NG Q->NO Q->(∀(I':Imm) ,o=(.done ())->I0.le I'->T 35 B Q (.exit 0) I' [] [(0,vS p ag c)])->(∀r I' aj m',o=(.ret r)->I0.le I'->RS Tryz.prog f136 B (zS  r) I' aj m'->T 35 B Q .ret I' aj m')->J Tryz.prog 35 B (nav (bodyOf f136) [1,0,1,0]) Q I [] [(0,vS p ag c),(1,vI am),(5,vI i)]:=by
 refine pU.partial_correctness ag am _ λaG ih i o N B I0 I Q p c H h hg ho hx hr=>yK hg ho<|zM<|yG [9] rfl<|zH<|yD N ?_ ?_
 ·intro hc N;refine zT<|yE<|zZ<|zM ?_;refine tZ N [] (λt26=>[(0,vS p ag c),(1,vI am),(5,vI i),(26,.bool t26)]) (λo0 ay=>?_) ?_
  ·have H:=iS I;refine zE<|yR 2 [] [12,13] rfl ?_;obtain⟨x,hy,N⟩:=zF ay;refine xL rfl rfl h hy ?_;intro ad aF av aq;obtain⟨p1,c1,rfl,h1⟩:=yQ aq;refine yY 0 av (cAff x p1 c1) (vA (cAff x p1 c1)) rfl<|bE N λy aw N=>vJ (eY x _ aw h1) ?_;intro aN le;have ⟨h,H⟩:=m2 le h H;refine yR 7 [] [18] rfl<|wN [18] N ?_ ?_
   ·intro aE N;exact yO [] [(26,vY)]<|xM<|zY (ct N H)
   intro aE N;refine yR 9 [] [19,20] rfl<|bE N λx1 aI N=>xL rfl rfl h aI ?_;intro ad1 aY au aA;obtain⟨p2,c2,rfl,h3⟩:=yQ aA;refine yY 0 au (cAff x1 p2 c2) (vA (cAff x1 p2 c2)) rfl<|bE N λy1 aW N=>qJ (dS x1 _ aW h3) ?_;intro bf ai;have H:=H.trans ai;exact yW [] [26] rfl<|xM<|zY (ct N H)
  intro t26 I0 ax aT;have ⟨h,H⟩:=m2 ax h H;refine zH<|yD aT ?_ ?_
  ·intro aQ N;exact xZ [(4,vF)]<|yS<|zR<|zG<|zG<|hr _ _ _ _ (zB N).symm H ⟨_,_,(.tmp rfl ResV.nil),zO,⟨_,rfl,rfl,rfl⟩⟩
  intro aQ N;exact zT<|zQ<|zH<|zE<|yW [] [5] rfl<|yL<|gJ<|ih (W (i+1)) _ N H h hg ho hx hr
 intro hc N;exact uQ<|xM<|hx _  (zB N).symm H
def gZ(ag:(List zC))(am:Int):Option (Bool):=do
 match<-pU ag am 0 with
 | .ret r0=>pure r0
 | .done _=>
  let t4<-(do
   if(decide ((ag.length:Int)>=1)) then
    pure (decide ((ag.length:Int)<=2))
   else
    pure false
     : Option Bool)
  pure (id t4)
theorem zCj:∀ag am r,gZ ag am=some r->∀{I:Imm}{p c},(S4 I p ag c)->RT 136 [vS p ag c,vI am] I [] (zS  r):=by
 intro ag am r N I p c h;unfold gZ at N;refine yM func136 λB=>?_;have H:=iS I;refine xZ []<|yE<|yG [5] rfl<|uP<|rX [(0,vS p ag c),(1,vI am),(5,vI 0)] ?_;obtain⟨aO,aJ,aB⟩:=zF N;refine zE9 ag am 0 aO aJ iR h (λ_ _ _ h=>h) (λ_ _ h=>h) ?_ ?_
 ·intro bq  heq1 aR;subst aO;have H:=H.trans aR;refine zU<|zH<|zM ?_;refine tZ aB [] (λt4=>[(4,.bool t4)]) (λo02 ho02=>?_) ?_
  ·have H:=iS bq;refine zE<|yR 4 [] [30] rfl<|wN [30] ho02 ?_ ?_
   ·intro bp N;exact yW [] [4] rfl<|xM<|zY (ct N H)
   intro bp N;exact yO [] [(4,vF)]<|xM<|zY (ct N H)
  intro t4 bG bg hMc1;refine zH<|yF ?_;obtain rfl:=zB hMc1;exact xH
 intro r0 I9 hs9 m9 aC le9 aD;subst aC;refine zR<|zG ?_;obtain rfl:=zB aB;exact yV aD
def tD(nest:(List zL))(i:Int):Option (Out Unit (Bool)):=do
 let t12<-(do
  if(decide (i<(nest.length:Int))) then
   pure (decide ((nest.length:Int)<=4))
  else
   pure false
    : Option Bool)
 if t12 then
  let t32<-(do
   let x<-idx nest i
   let y<-gZ x.Lo i
   if(!y) then
    pure true
   else
    let x1<-idx nest i
    let y1<-gZ x1.Hi i
    pure (!y1)
     : Option Bool)
  if t32 then
   pure (.ret false)
  else
   tD nest (W (i+1))
 else
  pure (.done ())
 partial_fixpoint
theorem zCk(nest:(List zL)):∀(i:Int) (o:Out Unit (Bool)),tD nest i=some o->∀{B}{I0 I:Imm}{Q p c},I0.le I->(S4 I p nest c)->NG Q->NO Q->(∀(I':Imm) ,o=(.done ())->I0.le I'->T 36 B Q (.exit 0) I' [] [(0,vS p nest c)])->(∀r I' aj m',o=(.ret r)->I0.le I'->RS Tryz.prog f98 B (zS  r) I' aj m'->T 36 B Q .ret I' aj m')->J Tryz.prog 36 B (nav (bodyOf f98) [1,0,1,0]) Q I [] [(0,vS p nest c),(3,vI i)]:=by
 refine tD.partial_correctness nest _ λaG ih i o N B I0 I Q p c H h hg ho hx hr=>yK hg ho<|zM<|zM ?_;refine tZ N [] (λt12=>[(0,vS p nest c),(3,vI i),(12,.bool t12)]) (λo0 ay=>?_) ?_
 ·have H:=iS I;refine zE<|yR 5 [] [8] rfl<|wN [8] ay ?_ ?_
  ·intro hc N;exact yW [] [12] rfl<|xM<|zY (ct N H)
  intro hc N;exact yO [] [(12,vF)]<|xM<|zY (ct N H)
 intro t12 I0 le aT;have ⟨h,H⟩:=m2 le h H;refine zH<|yD aT ?_ ?_
 ·intro aE N;refine zT<|yE<|zZ<|zM ?_;refine tZ N [] (λt32=>[(0,vS p nest c),(3,vI i),(32,.bool t32)]) (λaO aJ=>?_) ?_
  ·have H:=iS I0;refine zE<|yR 2 [] [15,16] rfl ?_;obtain⟨x,hy,N⟩:=zF aJ;refine xL rfl rfl h hy ?_;intro ad aF av aq;obtain⟨p1,c1,p2,c2,rfl,h1,h2⟩:=uD aq;refine yR 4 [] [18] rfl<|yY 0 av [vS p1 x.Lo c1] (vS p1 x.Lo c1) rfl<|yR 6 [] [20] rfl<|bE N λy aw N=>vJ (zCj x.Lo i _ aw h1) ?_;intro bf ai;have ⟨h,H⟩:=m2 ai h H;refine yR 9 [] [23] rfl<|wN [23] N ?_ ?_
   ·intro aQ N;exact yO [] [(32,vY)]<|xM<|zY (ct N H)
   intro aQ N;refine yR 11 [] [24,25] rfl<|bE N λx1 aI N=>xL rfl rfl h aI ?_;intro ad1 aY au aA;obtain⟨p3,c3,p4,c4,rfl,h4,h5⟩:=uD aA;refine yR 13 [] [27] rfl<|yY 1 au [vS p4 x1.Hi c4] (vS p4 x1.Hi c4) rfl<|yR 15 [] [29] rfl<|bE N λy1 aW N=>vJ (zCj x1.Hi i _ aW h5) ?_;intro bq ax;have H:=H.trans ax;exact yW [] [32] rfl<|xM<|zY (ct N H)
  intro t32 aN aR hMc1;have ⟨h,H⟩:=m2 aR h H;refine zH<|yD hMc1 ?_ ?_
  ·intro bp N;exact xZ [(2,vF)]<|yS<|zR<|zG<|zG<|hr _ _ _ _ (zB N).symm H ⟨_,_,(.tmp rfl ResV.nil),zO,⟨_,rfl,rfl,rfl⟩⟩
  intro bp N;exact zT<|zQ<|zH<|zE<|yW [] [3] rfl<|yL<|gJ<|ih (W (i+1)) _ N H h hg ho hx hr
 intro aE N;exact uQ<|xM<|hx _  (zB N).symm H
def jM(nest:(List zL)):Option (Bool):=do
 match<-tD nest 0 with
 | .ret r0=>pure r0
 | .done _=>
  pure (decide ((nest.length:Int)<=4))
theorem zEa:∀nest r,jM nest=some r->∀{I:Imm}{p c},(S4 I p nest c)->RT 98 [vS p nest c] I [] (zS  r):=by
 intro nest r N I p c h;unfold jM at N;refine yM func98 λB=>xZ []<|yE<|yG [3] rfl<|uP<|rX [(0,vS p nest c),(3,vI 0)] ?_;obtain⟨o02,ho02,aB⟩:=zF N;refine zCk nest 0 o02 ho02 iR h (λ_ _ _ h=>h) (λ_ _ h=>h) ?_ ?_
 ·intro bG  heq2 bg;subst o02;refine zU<|wJ [2] rfl<|zH<|yF ?_;obtain rfl:=zB aB;exact xH
 intro r0 I9 hs9 m9 aC le9 aD;subst aC;refine zR<|zG ?_;obtain rfl:=zB aB;exact yV aD
def pV(a0:zC)(ah:(List Int))(n0:Int)(i:Int):Option (Int):=do
 let t19<-(do
  if(decide (i<(ah.length:Int))) then
   pure (decide (i<(a0.Coefs.length:Int)))
  else
   pure false
    : Option Bool)
 if t19 then
  let x<-idx a0.Coefs i
  let x1<-idx ah i
  pV a0 ah (W (n0+(W (x*x1)))) (W (i+1))
 else
  pure (id n0)
 partial_fixpoint
theorem zEb(a0:zC)(ah:(List Int)):∀(n0:Int) (i:Int) (o:Int),pV a0 ah n0 i=some o->∀{B}{I0 I:Imm}{Q p c p1 c1}{b:Nat},I0.le I->(S4 I p1 ah c1)->(S4 I p a0.Coefs c)->NG Q->NO Q->(∀(I':Imm) (n01:Int),o=n01->I0.le I'->T 35 B Q (.exit 0) I' [] [(5,vI n01)])->J Tryz.prog 35 B (nav (bodyOf f139) [1,1,0,1,0]) Q I [hB b (cAff a0 p c)] [(1,vS p1 ah c1),(2,vP b 0),(5,vI n0),(6,vI i)]:=by
 refine pV.partial_correctness a0 ah _ λaG ih n0 i o N B I0 I Q p c p1 c1 b H h1 h hg ho hx=>yK hg ho<|zM<|zM ?_;refine tZ N [hB b (cAff a0 p c)] (λt19=>[(1,vS p1 ah c1),(2,vP b 0),(5,vI n0),(6,vI i),(19,.bool t19)]) (λo0 ay=>?_) ?_
 ·have H:=iS I;refine zE<|yR 5 [] [13] rfl<|wN [13] ay ?_ ?_
  ·intro hc N;exact yW [0] [19] rfl<|xM<|zY (ct N H)
  intro hc N;exact yO [] [(19,vF)]<|xM<|zY (ct N H)
 intro t19 I0 le aT;have ⟨h1,h,H⟩:=m3 le h1 h H;refine zH<|yD aT ?_ ?_
 ·intro aE N;refine zT<|yE<|zZ<|zAn (by kernel_rfl) (by kernel_rfl)<|zCf 4 [0] [22,24,25] rfl<|bE N λx hy N=>zGY rfl rfl h hy ?_;intro ad aF av aq;obtain rfl:=aq;refine zGX 0 av [vI x] (vI x) rfl<|zCf 8 [] [28,29] rfl<|bE N λx1 aw N=>zGY rfl rfl h1 aw ?_;intro ad1 aY au aA;obtain rfl:=aA;exact zGX 0 au [vI x1] (vI x1) rfl<|zJ5 [] [5] rfl<|zQ<|zH<|zE<|yW [] [6] rfl<|yL<|gJ<|ih (W (n0+(W (x*x1)))) (W (i+1)) _ N H h1 h hg ho hx
 intro aE N;exact uQ<|wM zO<|xM<|hx _ _ (zB N).symm H
def oL(a0:zC)(ah:(List Int)):Option (Int):=do
 let n01<-pV a0 ah a0.Const 0
 pure (id n01)
theorem fV:∀a0 ah r,oL a0 ah=some r->∀{I:Imm}{p c p1 c1},(S4 I p a0.Coefs c)->(S4 I p1 ah c1)->RT 139 [vA (cAff a0 p c),vS p1 ah c1] I [] (zW  r):=by
 intro a0 ah r N I p c p1 c1 h h1;unfold oL at N;refine yM func139 λB=>yJ<|uA (cAff a0 p c) ?_;intro b hb;refine yO [] []<|wG<|yW [0] [5] rfl<|yE<|yG [6] rfl<|uP<|rX [(1,vS p1 ah c1),(2,vP b 0),(5,vI a0.Const),(6,vI 0)] ?_;obtain⟨aO,aJ,aB⟩:=zF N;refine zEb a0 ah a0.Const 0 aO aJ iR h1 h (λ_ _ _ h=>h) (λ_ _ h=>h) ?_;intro aN n01 heq1 ai;subst aO;refine zU<|wJ [4] rfl<|zH<|yF ?_;obtain rfl:=zB aB;exact xH
def zBM(r:Int×Int):KT:=λkk I' aj v=>
 ∃v0 v1,aj=[]/\v=tupV [v0,v1]/\v0=.int .i64 r.1/\v1=.int .i64 r.2
def qN(loop:zL)(p2:(List Int))(lo:Int)(i:Int):Option (Int):=do
 if(decide (i<(loop.Lo.length:Int))) then
  let x2<-idx loop.Lo i
  let y2<-oL x2 p2
  let lo2<-(do
   if(decide (y2>lo)) then
    pure (id y2)
   else
    pure (id lo)
     : Option Int)
  qN loop p2 lo2 (W (i+1))
 else
  pure (id lo)
 partial_fixpoint
theorem zDr(loop:zL)(p2:(List Int)):∀(lo:Int) (i:Int) (o:Int),qN loop p2 lo i=some o->∀{B}{I0 I:Imm}{Q}{y1:Int}{p c p1 c1 p3 c2}{b:Nat},I0.le I->(S4 I p3 p2 c2)->(S4 I p loop.Lo c)->(S4 I p1 loop.Hi c1)->NG Q->NO Q->(∀(I':Imm) (lo1:Int),o=lo1->I0.le I'->T 62 B Q (.exit 0) I' [hB b (cLoop loop p c p1 c1)] [(1,vS p3 p2 c2),(2,vP b 0),(6,vI lo1),(7,vI y1)])->J Tryz.prog 62 B (nav (bodyOf f137) [1,1,1,0,1,0]) Q I [hB b (cLoop loop p c p1 c1)] [(1,vS p3 p2 c2),(2,vP b 0),(6,vI lo),(7,vI y1),(8,vI i)]:=by
 refine qN.partial_correctness loop p2 _ λaG ih lo i o N B I0 I Q y1 p c p1 c1 p3 c2 b H h2 h h1 hg ho hx=>yK hg ho<|zM<|yJ<|yW [0] [28] rfl<|zH<|yD N ?_ ?_
 ·intro hc N;refine zT<|yE<|zZ<|yJ<|yR 3 [0] [32,33] rfl<|bE N λx2 bk N=>xL rfl rfl h bk ?_;intro ad2 bM aS bh;obtain⟨p6,c5,rfl,h7⟩:=yQ bh;refine yY 0 aS (cAff x2 p6 c5) (vA (cAff x2 p6 c5)) rfl<|yR 6 [] [36] rfl<|bE N λy2 bC N=>qJ (fV x2 p2 _ bC h7 h2) ?_;intro bf ax;have ⟨h2,h,h1,H⟩:=m4 ax h2 h h1 H;refine yW [] [9] rfl<|wJ [40] rfl<|zH ?_;refine tZ N [hB b (cLoop loop p c p1 c1)] (λlo2=>[(1,vS p3 p2 c2),(2,vP b 0),(6,vI lo2),(7,vI y1),(8,vI i)]) (λo0 ay=>?_) ?_
  ·have H:=iS bf;refine yD ay ?_ ?_
   ·intro aE N;exact zE<|yW [] [6] rfl<|xM<|zY (ct N H)
   intro aE N;exact zT<|xM<|zY (ct N H)
  intro lo2 bq aR aT;have ⟨h2,h,h1,H⟩:=m4 aR h2 h h1 H;exact zQ<|zH<|zE<|yW [] [8] rfl<|yL<|gJ<|ih lo2 (W (i+1)) _ aT H h2 h h1 hg ho hx
 intro hc N;exact uQ<|xM<|hx _ _ (zB N).symm H
def qO(loop:zL)(p2:(List Int))(hi:Int)(i1:Int):Option (Int):=do
 if(decide (i1<(loop.Hi.length:Int))) then
  let x3<-idx loop.Hi i1
  let y3<-oL x3 p2
  let hi2<-(do
   if(decide (y3<hi)) then
    pure (id y3)
   else
    pure (id hi)
     : Option Int)
  qO loop p2 hi2 (W (i1+1))
 else
  pure (id hi)
 partial_fixpoint
theorem zDs(loop:zL)(p2:(List Int)):∀(hi:Int) (i1:Int) (o:Int),qO loop p2 hi i1=some o->∀{B}{I0 I:Imm}{Q}{lo1:Int}{p c p1 c1 p3 c2}{b:Nat},I0.le I->(S4 I p3 p2 c2)->(S4 I p loop.Lo c)->(S4 I p1 loop.Hi c1)->NG Q->NO Q->(∀(I':Imm) (hi1:Int),o=hi1->I0.le I'->T 62 B Q (.exit 2) I' [] [(6,vI lo1),(7,vI hi1)])->J Tryz.prog 62 B (nav (bodyOf f137) [1,1,1,1,0,1,0]) Q I [hB b (cLoop loop p c p1 c1)] [(1,vS p3 p2 c2),(2,vP b 0),(6,vI lo1),(7,vI hi),(10,vI i1)]:=by
 refine qO.partial_correctness loop p2 _ λaG ih hi i1 o N B I0 I Q lo1 p c p1 c1 p3 c2 b H h2 h h1 hg ho hx=>yK hg ho<|zM<|yJ<|yW [0] [46] rfl<|zH<|yD N ?_ ?_
 ·intro aQ N;refine zT<|yE<|zZ<|yJ<|yR 3 [0] [50,51] rfl<|bE N λx3 hy6 N=>xL rfl rfl h1 hy6 ?_;intro ad3 ccs3 hat3 bn;obtain⟨p7,c6,rfl,h9⟩:=yQ bn;refine yY 0 hat3 (cAff x3 p7 c6) (vA (cAff x3 p7 c6)) rfl<|yR 6 [] [54] rfl<|bE N λy3 hy7 N=>qJ (fV x3 p2 _ hy7 h9 h2) ?_;intro bL bo;have ⟨h2,h,h1,H⟩:=m4 bo h2 h h1 H;refine yW [] [11] rfl<|wJ [58] rfl<|zH ?_;refine tZ N [hB b (cLoop loop p c p1 c1)] (λhi2=>[(1,vS p3 p2 c2),(2,vP b 0),(6,vI lo1),(7,vI hi2),(10,vI i1)]) (λo02 ho02=>?_) ?_
  ·have H:=iS bL;refine yD ho02 ?_ ?_
   ·intro bp N;exact zE<|yW [] [7] rfl<|xM<|zY (ct N H)
   intro bp N;exact zT<|xM<|zY (ct N H)
  intro hi2 I06 bB hMc1;have ⟨h2,h,h1,H⟩:=m4 bB h2 h h1 H;exact zQ<|zH<|zE<|yW [] [10] rfl<|yL<|gJ<|ih hi2 (W (i1+1)) _ hMc1 H h2 h h1 hg ho hx
 intro aQ N;exact uQ<|wM zO<|xM<|hx _ _ (zB N).symm H
def jN(loop:zL)(p2:(List Int)):Option (Int×Int):=do
 let x<-idx loop.Lo 0
 let y<-oL x p2
 let x1<-idx loop.Hi 0
 let y1<-oL x1 p2
 let lo1<-qN loop p2 y 1
 let hi1<-qO loop p2 y1 1
 pure (lo1,hi1)
theorem zCQ:∀loop p2 r,jN loop p2=some r->∀{I:Imm}{p c p1 c1 p3 c2},(S4 I p loop.Lo c)->(S4 I p1 loop.Hi c1)->(S4 I p3 p2 c2)->RT 137 [vA (cLoop loop p c p1 c1),vS p3 p2 c2] I [] (zBM  r):=by
 intro loop p2 r N I p c p1 c1 p3 c2 h h1 h2;unfold jN at N;refine yM func137 λB=>yJ<|uA (cLoop loop p c p1 c1) ?_;intro b hb;refine yO [] []<|wG<|yR 2 [0] [13] rfl<|bE N λx hy N=>xL rfl rfl h hy ?_;intro ad aF av aq;obtain⟨p4,c3,rfl,h3⟩:=yQ aq;refine yY 0 av (cAff x p4 c3) (vA (cAff x p4 c3)) rfl<|yR 5 [] [16] rfl<|bE N λy aw N=>qJ (fV x p2 _ aw h3 h2) ?_;intro I0 le;have ⟨h2,h,h1⟩:=m3 le h2 h h1;refine yW [] [6] rfl<|wG<|yR 2 [0] [19] rfl<|bE N λx1 aI N=>xL rfl rfl h1 aI ?_;intro ad1 aY au aA;obtain⟨p5,c4,rfl,h5⟩:=yQ aA;refine yY 0 au (cAff x1 p5 c4) (vA (cAff x1 p5 c4)) rfl<|yR 5 [] [22] rfl<|bE N λy1 aW N=>qJ (fV x1 p2 _ aW h5 h2) ?_;intro aN ai;have ⟨h2,h,h1⟩:=m3 ai h2 h h1;refine yW [] [7] rfl<|yE<|yG [8] rfl<|uP<|rX [(1,vS p3 p2 c2),(2,vP b 0),(6,vI y),(7,vI y1),(8,vI 1)] ?_;obtain⟨aO,aJ,aB⟩:=zF N;refine zDr loop p2 y 1 aO aJ iR h2 h h1 (λ_ _ _ h=>h) (λ_ _ h=>h) ?_;intro bG lo1 heq1 bg;subst aO;have ⟨h2,h,h1⟩:=m3 bg h2 h h1;refine zU<|yE<|yG [10] rfl<|uP<|rX [(1,vS p3 p2 c2),(2,vP b 0),(6,vI lo1),(7,vI y1),(10,vI 1)] ?_;obtain⟨o03,ho03,hMl1⟩:=zF aB;refine zDs loop p2 y1 1 o03 ho03 iR h2 h h1 (λ_ _ _ h=>h) (λ_ _ h=>h) ?_;intro I07 hi1 heq3 le7;subst o03;refine zU<|wJ [4,5] rfl<|zH<|yF ?_;obtain rfl:=zB hMl1;exact yV ⟨_,_,(.tmp rfl (.tmp rfl ResV.nil)),zO,⟨_,_,rfl,rfl,rfl,rfl⟩⟩
mutual
def nQ(nest:(List zL))(p1:(List Int))(most:Int):Option (Int):=do
 if((p1.length:Int)==(nest.length:Int)) then
  pure (id 1)
 else
  let x<-idx nest (p1.length:Int)
  let (y1,y2)<-jN x p1
  let n01<-nX (same nest) (same p1) (same most) (same y2) (same 1) (same y1)
  pure (id n01)
 partial_fixpoint
def nX(nest:(List zL))(p1:(List Int))(most:Int)(y2:Int)(n0:Int)(v04:Int):Option (Int):=do
 let t35<-(do
  if(decide (v04<y2)) then
   pure (decide (n0<=most))
  else
   pure false
    : Option Bool)
 if t35 then
  let l<-app 8 ([]:List Int) p1
  let l1<-app 8 l ([v04]:List Int)
  let y3<-nQ (same nest) (same l1) (W (most - n0))
  nX (same nest) (same p1) (same most) (same y2) (W (n0+y3)) (W (v04+1))
 else
  pure (id n0)
 partial_fixpoint
end
theorem zFj:(∀(nest:(List zL)) (p1:(List Int)) (most:Int) r,nQ nest p1 most=some r->∀{I:Imm}{p c p2 c1},(S4 I p nest c)->(S4 I p2 p1 c1)->RT 99 [vS p nest c,vS p2 p1 c1,vI most] I [] (zW  r))/\(∀(nest:(List zL)) (p1:(List Int)) (most:Int) (y2:Int) (n0:Int) (v04:Int) o,nX nest p1 most y2 n0 v04=some o->∀{B}{I0 I:Imm}{Q p c p2 c1},I0.le I->(S4 I p nest c)->(S4 I p2 p1 c1)->NG Q->NO Q->(∀(I':Imm) (n01:Int),o=n01->I0.le I'->T 52 B Q (.exit 0) I' [] [(7,vI n01)])->J Tryz.prog 52 B (nav (bodyOf f99) [1,1,1,1,0,1,0]) Q I [] [(0,vS p nest c),(1,vS p2 p1 c1),(2,vI most),(7,vI n0),(9,vI y2),(10,vI v04)]):=by
 refine nQ.mutual_partial_correctness _ _ ?_ ?_
 ·intro F_spec_l2Work_l1 ih_spec_l2Work_l1 nest p1 most r N I p c p2 c1 h h1;refine yM func99 λB=>xZ []<|wJ [7] rfl<|yE<|yG [15] rfl<|zH<|yD N ?_ ?_
  ·intro hc N;refine yG [6] rfl<|yS<|zG ?_;obtain rfl:=zB N;exact xH
  intro hc N;refine zT<|wG<|yR 3 [] [18,20] rfl<|bE N λx hy N=>xL rfl rfl h hy ?_;intro ad aF av aq;obtain⟨p3,c2,p4,c3,rfl,h2,h3⟩:=uD aq;refine yY 0 av (cLoop x p3 c2 p4 c3) (vA (cLoop x p3 c2 p4 c3)) rfl<|yR 6 [] [23] rfl ?_;obtain⟨⟨y1,y2⟩,aw,N⟩:=zF N;refine tG (zCQ x p1 _ aw h2 h3 h1) ?_;rintro I0 aK v2 k2 le - ⟨v02,v03,rfl,rfl,rfl,rfl⟩ -;have ⟨h,h1⟩:=m2 le h h1;refine yW [] [8,9] rfl<|yE<|yG [10] rfl<|uP<|rX [(0,vS p nest c),(1,vS p2 p1 c1),(2,vI most),(7,vI 1),(9,vI y2),(10,vI y1)] ?_;obtain⟨aO,aJ,aB⟩:=zF N;refine ih_spec_l2Work_l1 nest p1 most y2 1 y1 aO aJ iR h h1 (λ_ _ _ h=>h) (λ_ _ h=>h) ?_;intro bG n01 heq1 bg;subst aO;refine zU<|wJ [6] rfl<|zH<|yF ?_;obtain rfl:=zB aB;exact xH
 intro F_spec_l2Work F_spec_l2Work_l1 ih_spec_l2Work ih_spec_l2Work_l1 nest p1 most y2 n0 v04 o N B I0 I Q p c p2 c1 H h h1 hg ho hx;refine yK hg ho<|zM<|zM ?_;refine tZ N [] (λt35=>[(0,vS p nest c),(1,vS p2 p1 c1),(2,vI most),(7,vI n0),(9,vI y2),(10,vI v04),(35,.bool t35)]) (λo0 ay=>?_) ?_
 ·have H:=iS I;refine zE<|yR 4 [] [31] rfl<|wN [31] ay ?_ ?_
  ·intro aE N;exact yW [] [35] rfl<|xM<|zY (ct N H)
  intro aE N;exact yO [] [(35,vF)]<|xM<|zY (ct N H)
 intro t35 aN ai aT;have ⟨h,h1,H⟩:=m3 ai h h1 H;refine zH<|yD aT ?_ ?_
 ·intro aQ N;refine zT<|yE<|zZ<|zE<|yR 2 [] [38,39] rfl<|jJ [] Int ?_;intro b hb;have h6:RL aN [] ([]:List Int):=rfl;refine yR 4 [] [41] rfl ?_;obtain⟨aY,k0,k01⟩:=h1;have h1:SL aN (vS p2 p1 c1) p1:=⟨_,k0,k01⟩;obtain⟨l,aI,N⟩:=zF N;refine fU 3 1 0 rfl rfl rfl h6 (.inl k0) k01 aI λp5 c4 cs h7=>dY (xD [0] (aj:=[hO Int (vS p5 l c4) cs]))<|yR 6 [] [43] rfl<|jJ [vI v04] Int ?_;intro b1 hb1;have h8:RL aN [vI v04] ([v04]:List Int):=rI [v04];obtain⟨l1,aW,N⟩:=zF N;refine fU 3 1 1 rfl rfl rfl h7 (.inr ⟨0,rfl⟩) h8 aW λp6 c5 aM h9=>dY (xD [1] (aj:=[hO Int (vS p6 l1 c5) aM]))<|yR 11 [] [48] rfl<|tP 0 rfl ?_;intro bf ax hl0;have h10:=SL.of_frozen hl0 ax h9;have ⟨h,h1,H⟩:=m3 ax h h1 H;obtain⟨y3,bk,N⟩:=zF N;refine tG (ih_spec_l2Work nest l1 (W (most - n0)) _ bk h h10) ?_;rintro bq aK v2 k2 aR - ⟨v05,rfl,rfl,rfl⟩ -;have ⟨h,h1,H⟩:=m3 aR h h1 H;exact yW [] [7] rfl<|zQ<|zH<|zE<|yW [] [10] rfl<|yL<|gJ<|ih_spec_l2Work_l1 nest p1 most y2 (W (n0+y3)) (W (v04+1)) _ N H h h1 hg ho hx
 intro aQ N;exact uQ<|xM<|hx _ _ (zB N).symm H
theorem zG3:∀nest p1 most r,nQ nest p1 most=some r->∀{I:Imm}{p c p2 c1},(S4 I p nest c)->(S4 I p2 p1 c1)->RT 99 [vS p nest c,vS p2 p1 c1,vI most] I [] (zW  r):=zFj.1
def zAu(r:(List (List Int))):KT:=λkk I' aj v=>
 ∃a0 c0 s0,aj=[.osl (.slice a0 r.length c0) (Rp.sz (List Int)) s0]/\v=tupV [(.slice a0 r.length c0)]/\RepL (Rp.rep I') (Rp.sz (List Int)) s0 r
mutual
def pJ(out:(List (List Int)))(nest:(List zL))(p2:(List Int)):Option ((List (List Int))):=do
 if((p2.length:Int)==(nest.length:Int)) then
  let l<-app 8 ([]:List Int) p2
  let t6<-app 24 out ([l]:List (List Int))
  pure (id t6)
 else
  let x<-idx nest (p2.length:Int)
  let (y1,y2)<-jN x p2
  let ar<-pW (same nest) (same p2) (same y2) (same out) (same y1)
  pure (id ar)
 partial_fixpoint
def pW(nest:(List zL))(p2:(List Int))(y2:Int)(ak:List (List Int))(v04:Int):Option (List (List Int)):=do
 let t39<-(do
  if(decide (v04<y2)) then
   pure (decide ((ak.length:Int)<=120))
  else
   pure false
    : Option Bool)
 if t39 then
  let l1<-app 8 ([]:List Int) p2
  let l2<-app 8 l1 ([v04]:List Int)
  let y3<-pJ (same ak) (same nest) (same l2)
  pW (same nest) (same p2) (same y2) (same y3) (W (v04+1))
 else
  pure (id ak)
 partial_fixpoint
end
theorem zEc:(∀(out:(List (List Int))) (nest:(List zL)) (p2:(List Int)) r,pJ out nest p2=some r->∀{I:Imm}{p c cs p1 c1 p3 c2},(RL I cs out)->(S4 I p1 nest c1)->(S4 I p3 p2 c2)->RT 100 [vS p out c,vS p1 nest c1,vS p3 p2 c2] I [hO (List Int) (vS p out c) cs] (zAu  r))/\(∀(nest:(List zL)) (p2:(List Int)) (y2:Int) (ak:List (List Int)) (v04:Int) o,pW nest p2 y2 ak v04=some o->∀{B}{I0 I:Imm}{Q p1 c1 p3 c2 p8 c7 bb},I0.le I->(S4 I p1 nest c1)->(S4 I p3 p2 c2)->(RL I bb ak)->NG Q->NO Q->(∀(I':Imm) (ar:List (List Int)) (p9:Option Addr) (c8:Nat) (br:List Value),o=ar->I0.le I'->(RL I' br ar)->T 52 B Q (.exit 0) I' [hO (List Int) (vS p9 ar c8) br] [(0,vS p9 ar c8)])->J Tryz.prog 52 B (nav (bodyOf f100) [1,1,1,0,1,0]) Q I [hO (List Int) (vS p8 ak c7) bb] [(0,vS p8 ak c7),(1,vS p1 nest c1),(2,vS p3 p2 c2),(8,vI y2),(9,vI v04)]):=by
 refine pJ.mutual_partial_correctness _ _ ?_ ?_
 ·intro F_spec_l2Points_l1 ih_spec_l2Points_l1 out nest p2 r N I p c cs p1 c1 p3 c2 h h1 h2;refine yM func100 λB=>xZ []<|yE<|yG [14] rfl<|zH<|yD N ?_ ?_
  ·intro hc N;refine yJ<|yR 1 [] [15] rfl<|jJ [] Int ?_;intro b hb;have h3:RL I [] ([]:List Int):=rfl;refine yR 3 [] [17] rfl ?_;obtain⟨aF,k0,k01⟩:=h2;have h2:SL I (vS p3 p2 c2) p2:=⟨_,k0,k01⟩;obtain⟨l,hy,N⟩:=zF N;refine fU 3 1 0 rfl rfl rfl h3 (.inl k0) k01 hy λp4 c3 aM h4=>dY (xD [0,1] (aj:=[hO Int (vS p4 l c3) aM,hO (List Int) (vS p out c) cs]))<|tP 0 rfl ?_;intro I0 le hl0;have h5:=SL.of_frozen hl0 le h4;have h:=iM le h;refine jJ [vS p4 l c3] (List Int) ?_;intro b1 hb1;have h6:RL I0 [vS p4 l c3] ([l]:List (List Int)):=⟨[vS p4 l c3],_,rfl,rfl,⟨_,rfl,h5⟩,rfl⟩;obtain⟨t6,aw,N⟩:=zF N;refine fU 48 1 1 rfl rfl rfl h (.inr ⟨0,rfl⟩) h6 aw λp5 c4 aV h7=>dY (xD [1] (aj:=[hO (List Int) (vS p5 t6 c4) aV]))<|yW [] [6] rfl<|yS<|zG ?_;obtain rfl:=zB N;exact yV ⟨_,_,(.tmp rfl ResV.nil),(yN [0] rfl (by decide)),⟨_,_,_,rfl,rfl,h7⟩⟩
  intro hc N;refine zT<|wG<|yR 3 [] [22,24] rfl<|bE N λx aI N=>xL rfl rfl h1 aI ?_;intro ad aY av aq;obtain⟨p6,c5,p7,c6,rfl,h8,h9⟩:=uD aq;refine yY 0 av (cLoop x p6 c5 p7 c6) (vA (cLoop x p6 c5 p7 c6)) rfl<|yR 6 [] [27] rfl ?_;obtain⟨⟨y1,y2⟩,aW,N⟩:=zF N;refine tG (zCQ x p2 _ aW h8 h9 h2) ?_;rintro aN aK v2 k2 ai - ⟨v02,v03,rfl,rfl,rfl,rfl⟩ -;have ⟨h,h1,h2⟩:=m3 ai h h1 h2;refine yW [] [7,8] rfl<|yE<|yG [9] rfl<|uP<|rX [(0,vS p out c),(1,vS p1 nest c1),(2,vS p3 p2 c2),(8,vI y2),(9,vI y1)] ?_;obtain⟨aO,aJ,aB⟩:=zF N;refine ih_spec_l2Points_l1 nest p2 y2 out y1 aO aJ iR h1 h2 h (λ_ _ _ h=>h) (λ_ _ h=>h) ?_;intro bL ar p9 c8 br heq1 bo h13;subst aO;refine zU<|wJ [6] rfl<|zH<|yF ?_;obtain rfl:=zB aB;exact yV ⟨_,_,(.tmp rfl ResV.nil),(yN [0] rfl (by decide)),⟨_,_,_,rfl,rfl,h13⟩⟩
 intro F_spec_l2Points F_spec_l2Points_l1 ih_spec_l2Points ih_spec_l2Points_l1 nest p2 y2 ak v04 o N B I0 I Q p1 c1 p3 c2 p8 c7 bb H h1 h2 h12 hg ho hx;refine yK hg ho<|zM<|zM ?_;refine tZ N [hO (List Int) (vS p8 ak c7) bb] (λt39=>[(0,vS p8 ak c7),(1,vS p1 nest c1),(2,vS p3 p2 c2),(8,vI y2),(9,vI v04),(39,.bool t39)]) (λo0 ay=>?_) ?_
 ·have H:=iS I;refine zE<|yR 4 [] [35] rfl<|wN [35] ay ?_ ?_
  ·intro aE N;exact yW [] [39] rfl<|xM<|zY (ct N H)
  intro aE N;exact yO [] [(39,vF)]<|xM<|zY (ct N H)
 intro t39 bf ax aT;have ⟨h12,h1,h2,H⟩:=m4 ax h12 h1 h2 H;refine zH<|yD aT ?_ ?_
 ·intro aQ N;refine zT<|yE<|zZ<|zE<|yR 2 [] [42,43] rfl<|jJ [] Int ?_;intro b2 hb2;have h14:RL bf [] ([]:List Int):=rfl;refine yR 4 [] [45] rfl ?_;obtain⟨bM,k02,k03⟩:=h2;have h2:SL bf (vS p3 p2 c2) p2:=⟨_,k02,k03⟩;obtain⟨l1,bk,N⟩:=zF N;refine fU 3 1 0 rfl rfl rfl h14 (.inl k02) k03 bk λaX c9 bw h15=>dY (xD [0,1] (aj:=[hO Int (vS aX l1 c9) bw,hO (List Int) (vS p8 ak c7) bb]))<|yR 6 [] [47] rfl<|jJ [vI v04] Int ?_;intro b3 hb3;have h16:RL bf [vI v04] ([v04]:List Int):=rI [v04];obtain⟨l2,bC,N⟩:=zF N;refine fU 3 1 1 rfl rfl rfl h15 (.inr ⟨0,rfl⟩) h16 bC λa7 a8 cs6 h17=>dY (xD [1,2] (aj:=[hO Int (vS a7 l2 a8) cs6,hO (List Int) (vS p8 ak c7) bb]))<|tP 0 rfl ?_;intro bq aR hl01;have h18:=SL.of_frozen hl01 aR h17;have ⟨h1,h2,h12,H⟩:=m4 aR h1 h2 h12 H;obtain⟨y3,hy6,N⟩:=zF N;refine zH8 (ih_spec_l2Points ak nest l2 _ hy6 h12 h1 h18) rfl ?_;rintro bG aK v2 k2 bg - ⟨bu,a6,cs7,rfl,rfl,h19⟩ -;have ⟨h1,h2,H⟩:=m3 bg h1 h2 H;exact yW [] [0] rfl<|zQ<|zH<|zE<|yW [] [9] rfl<|yL<|gJ<|ih_spec_l2Points_l1 nest p2 y2 y3 (W (v04+1)) _ N H h1 h2 h19 hg ho hx
 intro aQ N;exact uQ<|xM<|hx _ _ _ _ _ (zB N).symm H h12
theorem zFW:∀out nest p2 r,pJ out nest p2=some r->∀{I:Imm}{p c cs p1 c1 p3 c2},(RL I cs out)->(S4 I p1 nest c1)->(S4 I p3 p2 c2)->RT 100 [vS p out c,vS p1 nest c1,vS p3 p2 c2] I [hO (List Int) (vS p out c) cs] (zAu  r):=zEc.1
def zA4(r:(List (List Int))×Bool):KT:=λkk I' aj v=>
 ∃v0 v1,aj=[]/\v=tupV [v0,v1]/\SL I' v0 r.1/\v1=.bool r.2
def kX(nest:(List zL)):Option ((List (List Int))×Bool):=do
 let t12<-(do
  let y<-jM nest
  if(!y) then
   pure true
  else
   let y1<-nQ nest ([]:List Int) 1200
   pure (decide (y1>1200))
    : Option Bool)
 if t12 then
  pure (([]:List (List Int)),false)
 else
  let y2<-pJ ([]:List (List Int)) nest ([]:List Int)
  if(decide ((y2.length:Int)>120)) then
   pure (([]:List (List Int)),false)
  else
   pure (y2,true)
theorem zDt:∀nest r,kX nest=some r->∀{I:Imm}{p c},(S4 I p nest c)->RT 60 [vS p nest c] I [] (zA4  r):=by
 intro nest r N I p c h;unfold kX at N;refine yM func60 λB=>?_;have H:=iS I;refine xZ []<|yE<|zM ?_;refine tZ N [] (λt12=>[(0,vS p nest c),(12,.bool t12)]) (λo0 ay=>?_) ?_
 ·have H:=iS I;refine zE<|yR 1 [] [5] rfl ?_;obtain⟨y,hy,N⟩:=zF ay;refine vJ (zEa nest _ hy h) ?_;intro aN le;have ⟨h,H⟩:=m2 le h H;refine yR 4 [] [8] rfl<|wN [8] N ?_ ?_
  ·intro hc N;exact yO [] [(12,vY)]<|xM<|zY (ct N H)
  intro hc N;refine yR 5 [] [9] rfl<|bE N λy1 aw N=>qJ (zG3 nest ([]:List Int) 1200 _ aw h (SL.nil _)) ?_;intro bf ai;have H:=H.trans ai;exact yW [] [12] rfl<|xM<|zY (ct N H)
 intro t12 I0 ax aT;have h:=h.mono ax;refine zH<|yD aT ?_ ?_
 ·intro aE N;refine yJ<|jJ [] (List Int) ?_;intro b hb;have h3:RL I0 [] ([]:List (List Int)):=rfl;refine yW [] [2,3] rfl<|yS<|zG<|uY 0 rfl ?_;intro bq aR hl0;have h4:=SL.of_frozen hl0 aR h3;obtain rfl:=zB N;exact yV ⟨_,_,(.tmp rfl (.tmp rfl ResV.nil)),zO,⟨_,_,rfl,rfl,h4,rfl⟩⟩
 intro aE N;refine zT<|wG<|jJ [] (List Int) ?_;intro b1 hb1;have h5:RL I0 [] ([]:List (List Int)):=rfl;refine yR 2 [] [15] rfl<|bE N λy2 aI N=>zH8 (zFW ([]:List (List Int)) nest ([]:List Int) _ aI h5 h (SL.nil _)) rfl ?_;rintro bG aK v2 k2 bg - ⟨p1,c1,cs,rfl,rfl,h6⟩ -;refine yW [] [4] rfl<|yE<|yG [19] rfl<|zH<|yD N ?_ ?_
 ·intro aQ N;refine yJ<|jJ [] (List Int) ?_;intro b2 hb2;have h7:RL bG [] ([]:List (List Int)):=rfl;refine yW [] [2,3] rfl<|yS<|zG<|uY 0 rfl ?_;intro bL bo hl01;have h8:=SL.of_frozen hl01 bo h7;obtain rfl:=zB N;exact yV ⟨_,_,(.tmp rfl (.tmp rfl ResV.nil)),zO,⟨_,_,rfl,rfl,h8,rfl⟩⟩
 intro aQ N;refine zT<|wJ [2,3] rfl<|yS<|uY 0 rfl ?_;intro I06 bB hl02;have h9:=SL.of_frozen hl02 bB h6;obtain rfl:=zB N;exact yV ⟨_,_,(.tmp rfl (.tmp rfl ResV.nil)),zO,⟨_,_,rfl,rfl,h9,rfl⟩⟩
def sK(a0:zC):Option (zC):=do
 if((a0.Coefs.length:Int)==0) then
  pure (zC.mk ([]:List Int) a0.Const)
 else
  let l<-app 8 ([]:List Int) a0.Coefs
  pure (zC.mk l a0.Const)
theorem fW:∀a0 r,sK a0=some r->∀{I:Imm}{p c},(S4 I p a0.Coefs c)->RT 67 [vA (cAff a0 p c)] I [] (zAA  r):=by
 intro a0 r N I p c h;unfold sK at N;refine yM func67 λB=>yJ<|uA (cAff a0 p c) ?_;intro b hb;refine nV [z0,vI 0] ?_;intro b1 hb1;refine zX rfl<|yE<|yJ<|yW [1] [6] rfl<|zH<|yD N ?_ ?_
 ·intro hc N;refine yJ<|xF 3 [1] [(9,vA [z0,vI a0.Const])]<|tA 0 [z0,vI a0.Const] rfl<|zX rfl<|yS<|zG ?_;obtain rfl:=zB N;exact yV ⟨_,_,(.cell 0 rfl rfl (by kernel_rfl) ResV.nil),zO,⟨_,rfl,rfl,⟨_,rfl,(sA ⟨_,rfl,(SL.nil _)⟩)⟩⟩⟩
 intro hc N;refine zT<|yE<|bE N λl hy N=>uX [.x (λI' v hx=>∃b2,v=vS (some ⟨b2,0,none⟩) ([]:List Int) 0/\hx=[hO Int (vS (some ⟨b2,0,none⟩) ([]:List Int) 0) []]/\(RL I' [] ([]:List Int))),.p (vP b 0) [],.p (vS p a0.Coefs c) [1],.x (λI' v hx=>∃p1 c1 cs,v=vS p1 l c1/\hx=[hO Int (vS p1 l c1) cs]/\(RL I' cs l)),.p (vP b 1) [],.p (vI a0.Const) [1],.x (λI' v hx=>∃a7 a6 aM,v=vA [vS a7 l a6,vI a0.Const]/\hx=[hO Int (vS a7 l a6) aM]/\(RL I' aM l))] [[],[],[(1,false)],[(0,true),(2,false)],[],[(4,false)],[(3,true),(5,false)]] [hB b1 [z0,vI 0],hB b (cAff a0 p c)] [] [(6,true)] (xD [0,1]) ?_ ?_
 ·refine Ox ?_<|Op<|Op<|Ox ?_<|Op<|Op<|Ox ?_<|On
  ·intro I1 hf ai;refine I_h []<|jJ [] Int ?_;intro b2 hb2;have h1:RL I1 [] ([]:List Int):=rfl;exact xU [hO Int (vS (some ⟨b2,0,none⟩) ([]:List Int) 0) []] iR ⟨_,rfl,rfl,h1⟩
  ·rintro I1 hf ai _ _ ⟨b2,rfl,rfl,h1⟩;refine xV [10,12] rfl ?_;have h:=h.mono ai;obtain⟨aF,k0,k01⟩:=h;have h:SL I1 (vS p a0.Coefs c) a0.Coefs:=⟨_,k0,k01⟩;exact fU 3 1 0 rfl rfl rfl h1 (.inl k0) k01 hy λp1 c1 cs h2=>jK (aj:=(hO Int (vS p1 l c1) cs::hB b1 [z0,vI 0]::hB b (cAff a0 p c)::hf)) rfl<|xU [hO Int (vS p1 l c1) cs] iR ⟨_,_,_,rfl,rfl,h2⟩
  rintro I1 hf ai _ _ ⟨p1,c1,cs,rfl,rfl,h2⟩;exact xV [13,15] rfl<|nP 7 [(16,vA [vS p1 l c1,vI a0.Const])]<|xU [hO Int (vS p1 l c1) cs] iR ⟨_,_,_,rfl,rfl,h2⟩
 rintro I0 le _ _ ⟨a7,a6,aM,rfl,rfl,h21⟩;refine xV [2,16] rfl ?_;refine tA 1 [vS a7 l a6,vI a0.Const] rfl<|zX rfl<|yS<|uY 0 rfl ?_;intro aN ai hl0;have h3:=SL.of_frozen hl0 ai h21;obtain rfl:=zB N;exact yV ⟨_,_,(.cell 0 rfl rfl (by kernel_rfl) ResV.nil),zO,⟨_,rfl,rfl,⟨_,rfl,(sA ⟨_,rfl,h3⟩)⟩⟩⟩
def uR(a0:zK)(i:Int)(Subs:List zC):Option (List zC):=do
 if(decide (i<(a0.Subs.length:Int))) then
  let x<-idx a0.Subs i
  let y<-sK x
  let l<-app 32 Subs ([y]:List zC)
  uR a0 (W (i+1)) l
 else
  pure (id Subs)
 partial_fixpoint
theorem zB8(a0:zK):∀(i:Int) (Subs:List zC) (o:List zC),uR a0 i Subs=some o->∀{B}{I0 I:Imm}{Q p c}{b:Nat}{b1:Nat}{b2:Nat}{p1 c1 cs},I0.le I->(S4 I p a0.Subs c)->(RL I cs Subs)->NG Q->NO Q->(∀(I':Imm) (Subs1:List zC) (p2:Option Addr) (c2:Nat) (aM:List Value),o=Subs1->I0.le I'->(RL I' aM Subs1)->T 27 B Q (.exit 0) I' [hO zC (vS p2 Subs1 c2) aM,hB b2 [vT a0.Array.l,vS p2 Subs1 c2],hB b1 [vT ([]),z0]] [(2,vP b1 0),(3,vP b2 0)])->J Tryz.prog 27 B (nav (bodyOf f37) [1,1,0,1,0]) Q I [hO zC (vS p1 Subs c1) cs,hB b2 [vT a0.Array.l,vS p1 Subs c1],hB b1 [vT ([]),z0],hB b (cAccess a0 p c)] [(1,vP b 0),(2,vP b1 0),(3,vP b2 0),(4,vI i)]:=by
 refine uR.partial_correctness a0 _ λaG ih i Subs o N B I0 I Q p c b b1 b2 p1 c1 cs H h h2 hg ho hx=>yK hg ho<|zM<|yJ<|yW [3] [12] rfl<|zH<|yD N ?_ ?_
 ·intro hc N;refine zT<|yE<|zZ ?_;obtain⟨x,hy,N⟩:=zF N;obtain⟨y,aw,N⟩:=zF N;obtain⟨l,aI,N⟩:=zF N;refine uX [.p (vP b2 1) [],.p (vS p1 Subs c1) [0],.p (vP b 1) [],.p (vS p a0.Subs c) [2],.p (vI i) [],.x (ePAff x),.x (eVAff x),.x (eVAff y),.x (λI' v hx=>∃b3,v=vS (some ⟨b3,0,none⟩) ([y]:List zC) 1/\hx=[]/\(SL I' (vS (some ⟨b3,0,none⟩) ([y]:List zC) 1) ([y]:List zC))),.x (λI' v hx=>∃p5 c5 bb,v=vS p5 l c5/\hx=[hO zC (vS p5 l c5) bb]/\(RL I' bb l))] [[],[(0,false)],[],[(2,false)],[],[(3,false),(4,false)],[(5,false)],[(6,false)],[(7,false)],[(1,false),(8,false),(12,true)]] [hB b2 [vT a0.Array.l,vS p1 Subs c1],hB b1 [vT ([]),z0],hB b (cAccess a0 p c)] [[hO zC (vS p1 Subs c1) cs]] [(9,true)] (xD [1,2,3,0]) ?_ ?_
  ·refine Op<|Op<|Op<|Op<|Op<|Ox ?_<|Ox ?_<|Ox ?_<|Ox ?_<|Ox ?_<|On
   ·intro I1 hf ai;refine xV [18,19] rfl ?_;have h:=h.mono ai;refine xL rfl rfl h hy ?_;intro ad aF av aq;obtain⟨p3,c3,rfl,h4⟩:=yQ aq;exact xU [] iR ⟨_,_,_,rfl,rfl,av,h4⟩
   ·rintro I1 hf ai _ _ ⟨ad,p3,c3,rfl,rfl,av,h4⟩;exact xV [20] rfl<|yY 0 av (cAff x p3 c3) (vA (cAff x p3 c3)) rfl<|xU [] iR ⟨_,_,rfl,rfl,h4⟩
   ·rintro I1 hf ai _ _ ⟨p31,c31,rfl,rfl,h41⟩;refine xV [21] rfl ?_;have H:=iS I1;refine tG (fW x _ aw h41) ?_;rintro I0 aK v2 k2 le - ⟨v01,rfl,rfl,⟨aV,rfl,h5⟩⟩ -;have H:=H.trans le;obtain⟨p4,c4,rfl,h6⟩:=yQ h5;exact xU [] H ⟨_,_,rfl,rfl,h6⟩
   ·rintro I1 hf ai _ _ ⟨p4,c4,rfl,rfl,h6⟩;refine xV [22] rfl ?_;have H:=iS I1;refine zIM (rc y (sA ⟨_,rfl,h6⟩) rN) ?_;intro b3 aN ai h8;have H:=H.trans ai;exact xU [] H ⟨_,rfl,rfl,h8⟩
   rintro I1 hf ai _ _ ⟨rfl,rfl⟩ _ _ ⟨b3,rfl,rfl,h8⟩ _ _ rfl;refine xV [16,23] rfl ?_;have h2:=iM ai h2;obtain⟨aY,k0,k01⟩:=h8;have h8:SL I1 (vS (some ⟨b3,0,none⟩) ([y]:List zC) 1) ([y]:List zC):=⟨_,k0,k01⟩;exact fU 50 2 0 rfl rfl rfl h2 (.inl k0) k01 aI λp5 c5 bb h9=>jK (aj:=(hO zC (vS p5 l c5) bb::hB b2 [vT a0.Array.l,vS p1 Subs c1]::hB b1 [vT ([]),z0]::hB b (cAccess a0 p c)::hf)) rfl<|xU [hO zC (vS p5 l c5) bb] iR ⟨_,_,_,rfl,rfl,h9⟩
  rintro bf ax _ _ ⟨p5,c5,bb,rfl,rfl,h9⟩;refine xV [1,2,3,4,24] rfl ?_;have ⟨h,H⟩:=m2 ax h H;exact yR 11 [] [25] rfl<|tA 1 [vT a0.Array.l,vS p5 l c5] rfl<|zX rfl<|zQ<|zH<|zE<|yW [] [4] rfl<|yL<|gJ<|ih (W (i+1)) l _ N H h h9 hg ho hx
 intro hc N;exact uQ<|wM (yN [0,1,2] rfl (by decide))<|xM<|hx _ _ _ _ _ (zB N).symm H h2
def uE(a0:zK):Option (zK):=do
 let Subs1<-uR a0 0 ([]:List zC)
 pure (zK.mk a0.Array Subs1)
theorem oV:∀a0 r,uE a0=some r->∀{I:Imm}{p c},(S4 I p a0.Subs c)->RT 37 [vA (cAccess a0 p c)] I [] (zAB  r):=by
 intro a0 r N I p c h;unfold uE at N;refine yM func37 λB=>yJ<|uA (cAccess a0 p c) ?_;intro b hb;refine nV [vT ([]),z0] ?_;intro b1 hb1;refine zX rfl<|wG<|xF 3 [1] [(7,vA [vT a0.Array.l,z0])]<|nV [vT ([]),z0] ?_;intro b2 hb2;refine tA 0 [vT a0.Array.l,z0] rfl<|zX rfl<|yE<|yG [4] rfl<|uP<|rX [(1,vP b 0),(2,vP b1 0),(3,vP b2 0),(4,vI 0)]<|zH7 zC λh1=>?_;obtain⟨o0,ay,aB⟩:=zF N;refine zB8 a0 0 ([]:List zC) o0 ay iR h h1 (λ_ _ _ h=>h) (λ_ _ h=>h) ?_;intro bq Subs1 p2 c2 aM heq aR h3;subst o0;refine zU<|wG<|xF 1 [1] [(26,vA [vT a0.Array.l,vS p2 Subs1 c2])]<|tA 2 [vT a0.Array.l,vS p2 Subs1 c2] rfl<|zX rfl<|yS<|uY 0 rfl ?_;intro bG bg hl01;have h10:=SL.of_frozen hl01 bg h3;obtain rfl:=zB aB;exact yV ⟨_,_,(.cell 1 rfl rfl (by kernel_rfl) ResV.nil),zO,⟨_,rfl,rfl,⟨_,rfl,(nU ⟨_,rfl,h10⟩)⟩⟩⟩
def zBN(r:(List zK)):KT:=λkk I' aj v=>
 ∃a0 c0 s0,aj=[.osl (.slice a0 r.length c0) (Rp.sz zK) s0]/\v=tupV [(.slice a0 r.length c0)]/\RepL (Rp.rep I') (Rp.sz zK) s0 r
mutual
def mJ(out:(List zK))(e0:zD):Option ((List zK)):=do
 let ak<-(do
  if(e0.Kind==3) then
   let y<-uE e0.Read
   let ar<-app 40 out ([y]:List zK)
   pure (id ar)
  else
   pure (id out)
    : Option (List zK))
 let bI<-sY (same e0) (same ak) (same 0)
 pure (id bI)
 partial_fixpoint
def sY(e0:zD)(bx:List zK)(i:Int):Option (List zK):=do
 if(decide (i<(e0.Kids.length:Int))) then
  let x<-idx e0.Kids i
  let y1<-mJ (same bx) (same x)
  sY (same e0) (same y1) (W (i+1))
 else
  pure (id bx)
 partial_fixpoint
end
theorem zFX:(∀(out:(List zK)) (e0:zD) r,mJ out e0=some r->∀{I:Imm}{p c cs p1 c1 p2 c2 p3 c3},(RL I cs out)->(S4 I p1 e0.Index.Coefs c1)->(S4 I p2 e0.Read.Subs c2)->(S4 I p3 e0.Kids c3)->RT 101 [vS p out c,vA (cExpr e0 p1 c1 p2 c2 p3 c3)] I [hO zK (vS p out c) cs] (zBN  r))/\(∀(e0:zD) (bx:List zK) (i:Int) o,sY e0 bx i=some o->∀{B}{I0 I:Imm}{Q p1 c1 p2 c2 p3 c3}{b:Nat}{p7 c7 br},I0.le I->(S4 I p1 e0.Index.Coefs c1)->(S4 I p2 e0.Read.Subs c2)->(S4 I p3 e0.Kids c3)->(RL I br bx)->NG Q->NO Q->(∀(I':Imm) (bI:List zK) (p8:Option Addr) (c8:Nat) (bw:List Value),o=bI->I0.le I'->(RL I' bw bI)->T 30 B Q (.exit 0) I' [hO zK (vS p8 bI c8) bw] [(0,vS p8 bI c8)])->J Tryz.prog 30 B (nav (bodyOf f101) [1,1,0,1,0]) Q I [hB b (cExpr e0 p1 c1 p2 c2 p3 c3),hO zK (vS p7 bx c7) br] [(0,vS p7 bx c7),(3,vP b 0),(5,vI i)]):=by
 refine mJ.mutual_partial_correctness _ _ ?_ ?_
 ·intro F_spec_l3Reads_l1 ih_spec_l3Reads_l1 out e0 r N I p c cs p1 c1 p2 c2 p3 c3 h h1 h2 h3;refine yM func101 λB=>?_;have H:=iS I;refine yJ<|uA (cExpr e0 p1 c1 p2 c2 p3 c3) ?_;intro b hb;refine yO [] []<|yE<|yJ<|yW [0] [8] rfl<|zH ?_;obtain⟨o0,ay,aT⟩:=zF N;refine zA0 (λI' aj m'=>∃(ak:List zK) (p4:Option Addr) (c4:Nat) (aM:List Value),o0=ak/\I.le I'/\(RL I' aM ak)/\aj=[hB b (cExpr e0 p1 c1 p2 c2 p3 c3),hO zK (vS p4 ak c4) aM]/\m'=[(0,vS p4 ak c4),(3,vP b 0)]) ?_ ?_
  ·have H:=iS I;refine yD ay ?_ ?_
   ·intro hc N;refine zE<|xF 3 [0] [(9,vS p out c),(11,vA (cAccess e0.Read p2 c2))]<|bE N λy hy N=>tG (oV e0.Read _ hy h2) ?_;rintro aN aK v2 k2 le - ⟨v0,rfl,rfl,⟨aV,rfl,h5⟩⟩ -;have ⟨h,H⟩:=m2 le h H;obtain⟨p5,c5,rfl,h6⟩:=rD h5;refine jJ (cAccess y p5 c5) zK ?_;intro b1 hb1;have h7:RL aN (cAccess y p5 c5) ([y]:List zK):=⟨(cAccess y p5 c5),_,rfl,rfl,(nU ⟨_,rfl,h6⟩),rfl⟩;obtain⟨ar,aw,N⟩:=zF N;exact fU 47 2 2 rfl rfl rfl h (.inr ⟨0,rfl⟩) h7 aw λp6 c6 bb h8=>dY (xD [1,2] (aj:=[hB b (cExpr e0 p1 c1 p2 c2 p3 c3),hO zK (vS p6 ar c6) bb]))<|yW [] [0] rfl<|xM<|zY ⟨_,_,_,_,(zB N).symm,H,h8,rfl,rfl⟩
   intro hc N;exact zT<|xM<|zY ⟨_,_,_,_,(zB N).symm,H,h,rfl,rfl⟩
  rintro I0 aK m2 ⟨ak,p4,c4,aM,heq,ai,h4,rfl,rfl⟩;subst o0;have ⟨h1,h2,h3⟩:=m3 ai h1 h2 h3;refine yE<|yG [5] rfl<|uP<|rX [(0,vS p4 ak c4),(3,vP b 0),(5,vI 0)] ?_;obtain⟨aO,aJ,aB⟩:=zF aT;refine ih_spec_l3Reads_l1 e0 ak 0 aO aJ iR h1 h2 h3 h4 (λ_ _ _ h=>h) (λ_ _ h=>h) ?_;intro bq bI p8 c8 bw heq1 aR h10;subst aO;refine zU<|wJ [4] rfl<|zH<|yF ?_;obtain rfl:=zB aB;exact yV ⟨_,_,(.tmp rfl ResV.nil),(yN [0] rfl (by decide)),⟨_,_,_,rfl,rfl,h10⟩⟩
 intro F_spec_l3Reads F_spec_l3Reads_l1 ih_spec_l3Reads ih_spec_l3Reads_l1 e0 bx i o N B I0 I Q p1 c1 p2 c2 p3 c3 b p7 c7 br H h1 h2 h3 h9 hg ho hx;refine yK hg ho<|zM<|yJ<|yW [0] [19] rfl<|zH<|yD N ?_ ?_
 ·intro aE N;refine zT<|yE<|zZ<|zE<|yR 4 [0] [22,24,25] rfl<|bE N λx aI N=>xL rfl rfl h3 aI ?_;intro ad aF av aq;obtain⟨p9,c9,aX,a8,a7,a6,rfl,h11,h12,h13⟩:=yZ aq;refine yY 0 av (cExpr x p9 c9 aX a8 a7 a6) (vA (cExpr x p9 c9 aX a8 a7 a6)) rfl<|dY (xD [1,0] (aj:=[hO zK (vS p7 bx c7) br,hB b (cExpr e0 p1 c1 p2 c2 p3 c3)]))<|bE N λy1 aW N=>zH8 (ih_spec_l3Reads bx x _ aW h9 h11 h12 h13) rfl ?_;rintro bf aK v2 k2 ax - ⟨bu,bc,cs6,rfl,rfl,h14⟩ -;have ⟨h1,h2,h3,H⟩:=m4 ax h1 h2 h3 H;exact yW [] [0] rfl<|zQ<|zH<|zE<|yW [] [5] rfl<|yL<|kU (yN [1,0] rfl (by decide))<|gJ<|ih_spec_l3Reads_l1 e0 y1 (W (i+1)) _ N H h1 h2 h3 h14 hg ho hx
 intro aE N;exact uQ<|wM (yN [1] rfl (by decide))<|xM<|hx _ _ _ _ _ (zB N).symm H h9
theorem zFk:∀out e0 r,mJ out e0=some r->∀{I:Imm}{p c cs p1 c1 p2 c2 p3 c3},(RL I cs out)->(S4 I p1 e0.Index.Coefs c1)->(S4 I p2 e0.Read.Subs c2)->(S4 I p3 e0.Kids c3)->RT 101 [vS p out c,vA (cExpr e0 p1 c1 p2 c2 p3 c3)] I [hO zK (vS p out c) cs] (zBN  r):=zFX.1
def pX(a0:zI)(n0:Int)(i:Int):Option (Int):=do
 if(decide (i<(a0.Dims.length:Int))) then
  let x<-idx a0.Dims i
  pX a0 (W (n0*x)) (W (i+1))
 else
  pure (id n0)
 partial_fixpoint
theorem zEd(a0:zI):∀(n0:Int) (i:Int) (o:Int),pX a0 n0 i=some o->∀{B}{I0 I:Imm}{Q p c}{b:Nat},I0.le I->(S4 I p a0.Dims c)->NG Q->NO Q->(∀(I':Imm) (n01:Int),o=n01->I0.le I'->T 20 B Q (.exit 0) I' [] [(3,vI n01)])->J Tryz.prog 20 B (nav (bodyOf f138) [1,1,0,1,0]) Q I [hB b (cArr a0 p c)] [(1,vP b 0),(3,vI n0),(4,vI i)]:=by
 refine pX.partial_correctness a0 _ λaG ih n0 i o N B I0 I Q p c b H h hg ho hx=>yK hg ho<|zM<|yJ<|yW [0] [9] rfl<|zH<|yD N ?_ ?_
 ·intro hc N;refine zT<|yE<|zZ<|zE<|yR 4 [0] [12,14,15] rfl<|bE N λx hy N=>xL rfl rfl h hy ?_;intro ad aF av aq;obtain rfl:=aq;exact yY 0 av [vI x] (vI x) rfl<|yW [] [3] rfl<|zQ<|zH<|zE<|yW [] [4] rfl<|yL<|gJ<|ih (W (n0*x)) (W (i+1)) _ N H h hg ho hx
 intro hc N;exact uQ<|wM zO<|xM<|hx _ _ (zB N).symm H
def dC(a0:zI):Option (Int):=do
 let n01<-pX a0 1 0
 pure (id n01)
theorem zG4:∀a0 r,dC a0=some r->∀{I:Imm}{p c},(S4 I p a0.Dims c)->RT 138 [vA (cArr a0 p c)] I [] (zW  r):=by
 intro a0 r N I p c h;unfold dC at N;refine yM func138 λB=>yJ<|uA (cArr a0 p c) ?_;intro b hb;refine yO [] []<|wJ [3] rfl<|yE<|yG [4] rfl<|uP<|rX [(1,vP b 0),(3,vI 1),(4,vI 0)] ?_;obtain⟨o0,ay,aB⟩:=zF N;refine zEd a0 1 0 o0 ay iR h (λ_ _ _ h=>h) (λ_ _ h=>h) ?_;intro I0 n01 heq le;subst o0;refine zU<|wJ [2] rfl<|zH<|yF ?_;obtain rfl:=zB aB;exact xH
def rZ(ag:(List zI))(a0:zK)(ah:(List Int))(i:Int)(n0:Int)(k0:Int):Option (Out Int (Int)):=do
 if(decide (k0<(a0.Subs.length:Int))) then
  let x2<-idx ag i
  if((a0.Subs.length:Int) != (x2.Dims.length:Int)) then
   pure (.ret (-1))
  else
   let x3<-idx a0.Subs k0
   let y1<-oL x3 ah
   let t70<-(do
    if(decide (y1<0)) then
     pure true
    else
     let x4<-idx ag i
     let x5<-idx x4.Dims k0
     pure (decide (y1>=x5))
      : Option Bool)
   if t70 then
    pure (.ret (-1))
   else
    let x6<-idx ag i
    let x7<-idx x6.Dims k0
    rZ ag a0 ah i (W ((W (n0*x7))+y1)) (W (k0+1))
 else
  pure (.done n0)
 partial_fixpoint
theorem zEe(ag:(List zI))(a0:zK)(ah:(List Int))(i:Int):∀(n0:Int) (k0:Int) (o:Out Int (Int)),rZ ag a0 ah i n0 k0=some o->∀{B}{I0 I:Imm}{Q}{base:Int}{p c p1 c1 p2 c2}{b:Nat},I0.le I->(S4 I p ag c)->(S4 I p2 ah c2)->(S4 I p1 a0.Subs c1)->NG Q->NO Q->(∀(I':Imm) (n01:Int),o=(.done n01)->I0.le I'->T 86 B Q (.exit 2) I' [] [(7,vI base),(9,vI n01)])->(∀r I' aj m',o=(.ret r)->I0.le I'->RS Tryz.prog f102 B (zW  r) I' aj m'->T 86 B Q .ret I' aj m')->J Tryz.prog 86 B (nav (bodyOf f102) [1,1,0,1,0,0,1,0,0,1,1,0,1,0]) Q I [hB b (cAccess a0 p1 c1)] [(0,vS p ag c),(2,vS p2 ah c2),(4,vP b 0),(7,vI base),(8,vI i),(9,vI n0),(10,vI k0)]:=by
 refine rZ.partial_correctness ag a0 ah i _ λaG ih n0 k0 o N B I0 I Q base p c p1 c1 p2 c2 b H h h2 h1 hg ho hx hr=>yK hg ho<|zM<|yJ<|yW [0] [37] rfl<|zH<|yD N ?_ ?_
 ·intro aQ N;refine zT<|yE<|zZ<|zM<|zM<|zAn (by kernel_rfl) (by kernel_rfl)<|zCf 5 [0] [42,43,44] rfl<|bE N λx2 aW N=>zGY rfl rfl h aW ?_;intro ad2 bM aS bh;obtain⟨p5,c5,rfl,h6⟩:=wB bh;refine zCf 7 [] [46] rfl<|zGX 1 aS [vS p5 x2.Dims c5] (vS p5 x2.Dims c5) rfl<|zJ5 [] [49] rfl<|zH<|yD N ?_ ?_
  ·intro bp N;exact yG [6] rfl<|yS<|zG<|zR<|zG<|zG<|hr _ _ _ _ (zB N).symm H ⟨_,_,(.tmp rfl ResV.nil),zO,⟨_,rfl,rfl,rfl⟩⟩
  intro bp N;refine zT<|wG<|yR 3 [0] [51,52] rfl<|bE N λx3 bk N=>xL rfl rfl h1 bk ?_;intro ad3 ccs3 hat3 bn;obtain⟨p6,c6,rfl,h7⟩:=yQ bn;refine yY 0 hat3 (cAff x3 p6 c6) (vA (cAff x3 p6 c6)) rfl<|yR 6 [] [55] rfl<|bE N λy1 bC N=>qJ (fV x3 ah _ bC h7 h2) ?_;intro aN ai;have ⟨h,h2,h1,H⟩:=m4 ai h h2 h1 H;refine yW [] [11] rfl<|yE<|zM ?_;refine tZ N [hB b (cAccess a0 p1 c1)] (λt70=>[(0,vS p ag c),(2,vS p2 ah c2),(4,vP b 0),(7,vI base),(8,vI i),(9,vI n0),(10,vI k0),(11,vI y1),(70,.bool t70)]) (λo0 ay=>?_) ?_
  ·have H:=iS aN;refine zE<|yR 3 [] [59] rfl<|wN [59] ay ?_ ?_
   ·intro bD N;exact yO [] [(70,vY)]<|xM<|zY (ct N H)
   intro bD N;refine yR 6 [] [60,61,62] rfl<|bE N λx4 hy6 N=>xL rfl rfl h hy6 ?_;intro ad4 ccs4 hat4 hrep4;obtain⟨p7,c7,rfl,h9⟩:=wB hrep4;refine yR 8 [] [64] rfl<|yY 1 hat4 [vS p7 x4.Dims c7] (vS p7 x4.Dims c7) rfl<|yR 10 [] [66] rfl<|bE N λx5 hy7 N=>xL rfl rfl h9 hy7 ?_;intro ad5 ccs5 hat5 hrep5;obtain rfl:=hrep5;exact yY 0 hat5 [vI x5] (vI x5) rfl<|yW [] [70] rfl<|xM<|zY (ct N H)
  intro t70 bf ax aT;have ⟨h,h2,h1,H⟩:=m4 ax h h2 h1 H;refine zH<|yD aT ?_ ?_
  ·intro hc5 N;exact yG [6] rfl<|yS<|zG<|zR<|zG<|zG<|hr _ _ _ _ (zB N).symm H ⟨_,_,(.tmp rfl ResV.nil),zO,⟨_,rfl,rfl,rfl⟩⟩
  intro hc5 N;refine zT<|zH<|zE<|yR 3 [] [71,72,73] rfl<|bE N λx6 hy8 N=>xL rfl rfl h hy8 ?_;intro ad6 ccs6 hat6 hrep6;obtain⟨p8,c8,rfl,h10⟩:=wB hrep6;refine yR 5 [] [75] rfl<|yY 1 hat6 [vS p8 x6.Dims c8] (vS p8 x6.Dims c8) rfl<|yR 7 [] [77] rfl<|bE N λx7 hy9 N=>xL rfl rfl h10 hy9 ?_;intro ad7 ccs7 hat7 hrep7;obtain rfl:=hrep7;exact yY 0 hat7 [vI x7] (vI x7) rfl<|yW [] [9] rfl<|zQ<|zH<|zE<|yW [] [10] rfl<|yL<|gJ<|ih (W ((W (n0*x7))+y1)) (W (k0+1)) _ N H h h2 h1 hg ho hx hr
 intro aQ N;exact uQ<|wM zO<|xM<|hx _ _ (zB N).symm H
def qA(ag:(List zI))(a0:zK)(ah:(List Int))(base:Int)(i:Int):Option (Out Unit (Int)):=do
 if(decide (i<(ag.length:Int))) then
  let x<-idx ag i
  if(!(x.Name.l==a0.Array.l)) then
   let x1<-idx ag i
   let y<-dC x1
   qA ag a0 ah (W (base+y)) (W (i+1))
  else
   match<-rZ ag a0 ah i 0 0 with
   | .ret r0=>pure (.ret r0)
   | .done n01=>
    pure (.ret (W (base+n01)))
 else
  pure (.done ())
 partial_fixpoint
theorem zEf(ag:(List zI))(a0:zK)(ah:(List Int)):∀(base:Int) (i:Int) (o:Out Unit (Int)),qA ag a0 ah base i=some o->∀{B}{I0 I:Imm}{Q p c p1 c1 p2 c2}{b:Nat},I0.le I->(S4 I p ag c)->(S4 I p2 ah c2)->(S4 I p1 a0.Subs c1)->NG Q->NO Q->(∀(I':Imm) ,o=(.done ())->I0.le I'->T 86 B Q (.exit 0) I' [] [])->(∀r I' aj m',o=(.ret r)->I0.le I'->RS Tryz.prog f102 B (zW  r) I' aj m'->T 86 B Q .ret I' aj m')->J Tryz.prog 86 B (nav (bodyOf f102) [1,1,0,1,0]) Q I [hB b (cAccess a0 p1 c1)] [(0,vS p ag c),(2,vS p2 ah c2),(4,vP b 0),(7,vI base),(8,vI i)]:=by
 refine qA.partial_correctness ag a0 ah _ λaG ih base i o N B I0 I Q p c p1 c1 p2 c2 b H h h2 h1 hg ho hx hr=>yK hg ho<|zM<|yG [15] rfl<|zH<|yD N ?_ ?_
 ·intro hc N;refine zT<|yE<|zZ<|zM<|zM<|zAn (by kernel_rfl) (by kernel_rfl)<|zCf 2 [] [18,19] rfl<|bE N λx hy N=>zGY rfl rfl h hy ?_;intro ad aF av aq;obtain⟨p3,c3,rfl,h3⟩:=wB aq;refine zCf 4 [] [21] rfl<|zGX 0 av [vT x.Name.l] (vT x.Name.l) rfl<|zJ5 [0] [25] rfl<|zH<|yD N ?_ ?_
  ·intro aE N;refine yJ<|yR 3 [] [26,27,28] rfl<|bE N λx1 aw N=>xL rfl rfl h aw ?_;intro ad1 aY au aA;obtain⟨p4,c4,rfl,h4⟩:=wB aA;refine yY 0 au (cArr x1 p4 c4) (vA (cArr x1 p4 c4)) rfl<|bE N λy aI N=>qJ (zG4 x1 _ aI h4) ?_;intro I0 le;have ⟨h,h2,h1,H⟩:=m4 le h h2 h1 H;exact yW [] [7] rfl<|zH<|oO<|yH<|zU<|zH<|zE<|yW [] [8] rfl<|yL<|gJ<|ih (W (base+y)) (W (i+1)) _ N H h h2 h1 hg ho hx hr
  intro aE N;refine zT<|wJ [9] rfl<|yE<|yG [10] rfl<|uP<|rX [(0,vS p ag c),(2,vS p2 ah c2),(4,vP b 0),(7,vI base),(8,vI i),(9,vI 0),(10,vI 0)] ?_;obtain⟨aO,aJ,aB⟩:=zF N;refine zEe ag a0 ah i 0 0 aO aJ iR h h2 h1 (λ_ _ _ h=>hg _ _ _ h) (λ_ _ h=>ho _ _ h) ?_ ?_
  ·intro bq n01 heq1 aR;subst aO;have H:=H.trans aR;exact zU<|wJ [6] rfl<|yS<|zR<|zG<|zG<|hr _ _ _ _ (zB aB).symm H ⟨_,_,(.tmp rfl ResV.nil),zO,⟨_,rfl,rfl,rfl⟩⟩
  intro r0 I9 hs9 m9 aC le9 aD;subst aC;exact zR<|zG<|zR<|zG<|zG<|hr _ _ _ _ (zB aB).symm (H.trans le9) aD
 intro hc N;exact uQ<|wM zO<|xM<|hx _  (zB N).symm H
def fA(ag:(List zI))(a0:zK)(ah:(List Int)):Option (Int):=do
 match<-qA ag a0 ah 0 0 with
 | .ret r0=>pure r0
 | .done _=>
  pure (-1)
theorem zCl:∀ag a0 ah r,fA ag a0 ah=some r->∀{I:Imm}{p c p1 c1 p2 c2},(S4 I p ag c)->(S4 I p1 a0.Subs c1)->(S4 I p2 ah c2)->RT 102 [vS p ag c,vA (cAccess a0 p1 c1),vS p2 ah c2] I [] (zW  r):=by
 intro ag a0 ah r N I p c p1 c1 p2 c2 h h1 h2;unfold fA at N;refine yM func102 λB=>yJ<|uA (cAccess a0 p1 c1) ?_;intro b hb;refine yO [] []<|wJ [7] rfl<|yE<|yG [8] rfl<|uP<|rX [(0,vS p ag c),(2,vS p2 ah c2),(4,vP b 0),(7,vI 0),(8,vI 0)] ?_;obtain⟨o02,ho02,hMl1⟩:=zF N;refine zEf ag a0 ah 0 0 o02 ho02 iR h h2 h1 (λ_ _ _ h=>h) (λ_ _ h=>h) ?_ ?_
 ·intro bG  heq2 bg;subst o02;refine zU<|wJ [6] rfl<|zH<|yF ?_;obtain rfl:=zB hMl1;exact xH
 intro r0 I9 hs9 m9 aC le9 aD;subst aC;refine zR<|zG ?_;obtain rfl:=zB hMl1;exact yV aD
end Go.LN
