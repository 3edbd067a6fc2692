/- Helper of the proof (see the last text). -/
import Derived.Test.YtcmjkmdecmabaaaGreatHM6
set_option linter.unusedVariables false
set_option linter.unusedSimpArgs false
namespace Go.LN
open Go.Proofs Go.Proofs.Tryz
set_option maxRecDepth 20000
def zBo (r:(List zL)):KT:=fun kk I' ah v=>
  ∃ v0,ah=[]/\v=tupV [v0]/\SL I' v0 r
def wI (p:zD) (i:Int) (y:(List (List Int))) (k0:Int) (bu:List zL) (s:Int):Option (List zL):=do
 let x1<-idx p.Parts i
 if (decide (s<(x1.Body.length:Int))) then
  let x2<-idx y k0
  let l<-app 8 ([]:List Int) x2
  let out6<-app 40 bu ([(zL.mk i s l)]:List zL)
  wI p i y k0 out6 (W (s+1))
 else
  pure (id bu)
 partial_fixpoint
theorem zB2 (p:zD) (i:Int) (y:(List (List Int))) (k0:Int):∀ (bu:List zL) (s:Int) (o:List zL),wI p i y k0 bu s=some o->∀ {B}{I0 I:Imm}{Q p1 c p2 c1}{b:Nat}{p7 c6 aQ aV c9 bD},I0.le I->(RL I aQ y)->(S4 I p1 p.Arrays c)->(S4 I p2 p.Parts c1)->(RL I bD bu)->NG Q->NO Q->(∀ (I':Imm) (out5:List zL) (aN:Option Addr) (bc:Nat) (cs6:List Value),o=out5->I0.le I'->(RL I' cs6 out5)->T 54 B Q (.exit 4) I' [hO (List Int) (vS p7 y c6) aQ,hO zL (vS aN out5 bc) cs6,hB b (cProg p p1 c p2 c1)] [(1,vP b 0),(3,vS aN out5 bc),(4,vI i),(5,vS p7 y c6),(6,vI k0)])->J Tryz.prog 54 B (nav (bodyOf f36) [1,1,0,1,0,0,1,0,0,1,1,0,0,1,0,0,1,0]) Q I [hO (List Int) (vS p7 y c6) aQ,hO zL (vS aV bu c9) bD,hB b (cProg p p1 c p2 c1)] [(1,vP b 0),(3,vS aV bu c9),(4,vI i),(5,vS p7 y c6),(6,vI k0),(7,vI s)]:=by
 refine wI.partial_correctness p i y k0 _ fun aH ih bu s o N B I0 I Q p1 c p2 c1 b p7 c6 aQ aV c9 bD H h8 h h1 h11 hg ho hx=>yR hg ho<|yB<|yE<|yC 4 [2] [30,32,33] rfl<|bE N fun x1 aJ N=>xO rfl rfl h1 aJ ?_;intro ad1 bx au ax;obtain ⟨bB,aZ,bj,bk,rfl,h13,h14⟩:=wQ ax;refine yC 6 [] [35] rfl<|xJ 1 au [vS bj x1.Body bk] (vS bj x1.Body bk) rfl<|yI [] [38] rfl<|zI<|yF N ?_ ?_
 · intro aY N;refine zT<|yA<|yH<|zM<|yC 3 [] [41,42,43] rfl<|uD [] Int ?_;intro b3 hb3;have h15:RL I [] ([]:List Int):=rfl;refine yC 6 [] [45,46] rfl<|bE N fun x2 bf N=>nY 1 rfl rfl rfl h8 bf ?_;intro ad2 bO br bL bq;obtain ⟨v04,rfl,h16⟩:=bq;obtain ⟨p14,bo,rfl⟩:=h16.form;refine zAn 1 0 br bL [vS p14 x2 bo] (vS p14 x2 bo) rfl rfl ?_;obtain ⟨ccs3,k01,k02⟩:=h16;have h16:SL I (vS p14 x2 bo) x2:=⟨_,k01,k02⟩;obtain ⟨l,bw,N⟩:=zB N;refine sC 3 1 0 rfl rfl rfl h15 (.inl k01) k02 bw fun p15 c14 cs7 h17=>tO (zY [0,1,2,3] (ah:=[hO Int (vS p15 l c14) cs7,hO (List Int) (vS p7 y c6) aQ,hO zL (vS aV bu c9) bD,hB b (cProg p p1 c p2 c1)]))<|yC 10 [] [50] rfl<|xF 0 rfl ?_;intro aT af hl0;have h18:=SL.of_frozen hl0 af h17;have ⟨h8,h11,h,h1,H⟩:=m5 af h8 h11 h h1 H;refine uD [vI i,vI s,vS p15 l c14] zL ?_;intro b4 hb4;have h19:RL aT [vI i,vI s,vS p15 l c14] ([(zL.mk i s l)]:List zL):=⟨[vI i,vI s,vS p15 l c14],_,rfl,rfl,(zAB ⟨_,rfl,h18⟩),rfl⟩;obtain ⟨out6,bH,N⟩:=zB N;exact sC 86 3 2 rfl rfl rfl h11 (.inr ⟨0,rfl⟩) h19 bH fun p16 c15 cs8 h20=>tO (zY [1,2,3] (ah:=[hO (List Int) (vS p7 y c6) aQ,hO zL (vS p16 out6 c15) cs8,hB b (cProg p p1 c p2 c1)]))<|yI [] [3] rfl<|zP<|zI<|zM<|yI [] [7] rfl<|yP<|nN<|ih out6 (W (s+1)) _ N H h8 h h1 h20 hg ho hx
 intro aY N;exact wR<|yL<|hx _ _ _ _ _ (zC N).symm H h11
def wJ (p:zD) (i:Int) (y:(List (List Int))) (ap:List zL) (k0:Int):Option (List zL):=do
 if (decide (k0<(y.length:Int))) then
  let out5<-wI p i y k0 ap 0
  wJ p i y out5 (W (k0+1))
 else
  pure (id ap)
 partial_fixpoint
theorem zB3 (p:zD) (i:Int) (y:(List (List Int))):∀ (ap:List zL) (k0:Int) (o:List zL),wJ p i y ap k0=some o->∀ {B}{I0 I:Imm}{Q p1 c p2 c1}{b:Nat}{p7 c6 aQ p8 c7 aR},I0.le I->(RL I aQ y)->(S4 I p1 p.Arrays c)->(S4 I p2 p.Parts c1)->(RL I aR ap)->NG Q->NO Q->(∀ (I':Imm) (aP:List zL) (p9:Option Addr) (c8:Nat) (bz:List Value),o=aP->I0.le I'->(RL I' bz aP)->T 54 B Q (.exit 2) I' [hO zL (vS p9 aP c8) bz,hB b (cProg p p1 c p2 c1)] [(1,vP b 0),(3,vS p9 aP c8),(4,vI i)])->J Tryz.prog 54 B (nav (bodyOf f36) [1,1,0,1,0,0,1,0,0,1,1,0]) Q I [hO (List Int) (vS p7 y c6) aQ,hO zL (vS p8 ap c7) aR,hB b (cProg p p1 c p2 c1)] [(1,vP b 0),(3,vS p8 ap c7),(4,vI i),(5,vS p7 y c6),(6,vI k0)]:=by
 refine wJ.partial_correctness p i y _ fun aH ih ap k0 o N B I0 I Q p1 c p2 c1 b p7 c6 aQ p8 c7 aR H h8 h h1 h9 hg ho hx=>yR hg ho<|yB<|yG [27] rfl<|zI<|yF N ?_ ?_
 · intro aE N;refine zT<|yA<|yH<|yG [7] rfl<|xX<|qP [(1,vP b 0),(3,vS p8 ap c7),(4,vI i),(5,vS p7 y c6),(6,vI k0),(7,vI 0)] ?_;obtain ⟨o0,aB,aI⟩:=zB N;refine zB2 p i y k0 ap 0 o0 aB iR h8 h h1 h9 (fun _ _ _ h=>hg _ _ _ h) (fun _ _ h=>ho _ _ h) ?_;intro aU out5 aN bc cs6 heq aC h12;subst o0;have ⟨h8,h,h1,H⟩:=m4 aC h8 h h1 H;exact zS<|zP<|zI<|zM<|yI [] [6] rfl<|yP<|nN<|ih out5 (W (k0+1)) _ aI H h8 h h1 h12 hg ho hx
 intro aE N;exact wR<|xQ (zX [1,2] rfl (by decide))<|yL<|hx _ _ _ _ _ (zC N).symm H h9
def wK (p:zD) (out:List zL) (i:Int):Option (List zL):=do
 if (decide (i<(p.Parts.length:Int))) then
  let x<-idx p.Parts i
  let y<-vV ([]:List (List Int)) x.Nest ([]:List Int)
  let aP<-wJ p i y out 0
  wK p aP (W (i+1))
 else
  pure (id out)
 partial_fixpoint
theorem zB4 (p:zD):∀ (out:List zL) (i:Int) (o:List zL),wK p out i=some o->∀ {B}{I0 I:Imm}{Q p1 c p2 c1}{b:Nat}{p3 c2 cs},I0.le I->(S4 I p1 p.Arrays c)->(S4 I p2 p.Parts c1)->(RL I cs out)->NG Q->NO Q->(∀ (I':Imm) (aj:List zL) (p4:Option Addr) (c3:Nat) (ay:List Value),o=aj->I0.le I'->(RL I' ay aj)->T 54 B Q (.exit 0) I' [hO zL (vS p4 aj c3) ay] [(3,vS p4 aj c3)])->J Tryz.prog 54 B (nav (bodyOf f36) [1,1,0,1,0]) Q I [hO zL (vS p3 out c2) cs,hB b (cProg p p1 c p2 c1)] [(1,vP b 0),(3,vS p3 out c2),(4,vI i)]:=by
 refine wK.partial_correctness p _ fun aH ih out i o N B I0 I Q p1 c p2 c1 b p3 c2 cs H h h1 h3 hg ho hx=>yR hg ho<|yB<|yE<|yI [1] [13] rfl<|zI<|yF N ?_ ?_
 · intro hc N;refine zT<|yA<|yH<|yE<|uD [] (List Int) ?_;intro b2 hb2;have h5:RL I [] ([]:List (List Int)):=rfl;refine yC 4 [2] [18,19] rfl<|bE N fun x hy N=>xO rfl rfl h1 hy ?_;intro ad aK aq al;obtain ⟨p5,c4,p6,c5,rfl,h6,h7⟩:=wQ al;refine yC 6 [] [21] rfl<|xJ 0 aq [vS p5 x.Nest c4] (vS p5 x.Nest c4) rfl<|bE N fun y aA N=>tM (zAy ([]:List (List Int)) x.Nest ([]:List Int) _ aA h5 h6 (SL.nil _)) rfl ?_;rintro I0 aw v2 k2 le - ⟨p7,c6,aQ,rfl,rfl,h8⟩ -;have ⟨h3,h,h1,H⟩:=m4 le h3 h h1 H;refine yI [] [5] rfl<|vK [6] rfl<|xX<|qP [(1,vP b 0),(3,vS p3 out c2),(4,vI i),(5,vS p7 y c6),(6,vI 0)] ?_;obtain ⟨aM,az,hMl1⟩:=zB N;refine zB3 p i y out 0 aM az iR h8 h h1 h3 (fun _ _ _ h=>hg _ _ _ h) (fun _ _ h=>ho _ _ h) ?_;intro bC aP p9 c8 bz heq1 aD h10;subst aM;have ⟨h,h1,H⟩:=m3 aD h h1 H;exact zS<|zP<|zI<|zM<|yI [] [4] rfl<|yP<|nN<|ih aP (W (i+1)) _ hMl1 H h h1 h10 hg ho hx
 intro hc N;exact wR<|xQ (zX [0] rfl (by decide))<|yL<|hx _ _ _ _ _ (zC N).symm H h3
def qI (p:zD):Option ((List zL)):=do
 let aj<-wK p ([]:List zL) 0
 pure (id aj)
theorem zCo:∀ p r,qI p=some r->∀ {I:Imm}{p1 c p2 c1},(S4 I p1 p.Arrays c)->(S4 I p2 p.Parts c1)->RT 36 [vA (cProg p p1 c p2 c1)] I [] (zBo  r):=by
 intro p r N I p1 c p2 c1 h h1;unfold qI at N;refine yJ func36 fun B=>yE<|tW (cProg p p1 c p2 c1) ?_;intro b hb;refine wB [] []<|yV<|uD [] zL ?_;intro b1 hb1;have h2:RL I [] ([]:List zL):=rfl;refine yI [] [3] rfl<|yA<|yG [4] rfl<|xX<|qP [(1,vP b 0),(3,vS (some ⟨b1,0,none⟩) ([]:List zL) 0),(4,vI 0)] ?_;obtain ⟨o02,ho02,hMl2⟩:=zB N;refine zB4 p ([]:List zL) 0 o02 ho02 iR h h1 h2 (fun _ _ _ h=>h) (fun _ _ h=>h) ?_;intro bJ aj p4 c3 ay heq2 aW h4;subst o02;refine zS<|vK [2] rfl<|xC<|yU 0 rfl ?_;intro bN bt hl01;have h21:=SL.of_frozen hl01 bt h4;obtain rfl:=zC hMl2;exact xA ⟨_,_,(.tmp rfl ResV.nil),zQ,⟨_,rfl,rfl,h21⟩⟩
def zEU (r:(List Int)):KT:=fun kk I' ah v=>
  ∃ a0 c0 s0,ah=[.osl (.slice a0 r.length c0) (Rp.sz Int) s0]/\v=tupV [(.slice a0 r.length c0)]/\RepL (Rp.rep I') (Rp.sz Int) s0 r
def rF (list:(List zL)) (from0:Int) (to0:Int) (out:List Int) (i:Int):Option (List Int):=do
 if (decide (i<(list.length:Int))) then
  let t31<-(do
    let x<-idx list i
    if (decide (x.Part>=from0)) then
     let x1<-idx list i
     pure (decide (x1.Part<to0))
    else
     pure false
      : Option Bool)
  let ap<-(do
    if t31 then
     let aP<-app 8 out ([i]:List Int)
     pure (id aP)
    else
     pure (id out)
      : Option (List Int))
  rF list from0 to0 ap (W (i+1))
 else
  pure (id out)
 partial_fixpoint
theorem zDZ (list:(List zL)) (from0:Int) (to0:Int):∀ (out:List Int) (i:Int) (o:List Int),rF list from0 to0 out i=some o->∀ {B}{I0 I:Imm}{Q p c p1 c1 cs},I0.le I->(S4 I p list c)->(RL I cs out)->NG Q->NO Q->(∀ (I':Imm) (aj:List Int) (p2:Option Addr) (c2:Nat) (ay:List Value),o=aj->I0.le I'->(RL I' ay aj)->T 37 B Q (.exit 0) I' [hO Int (vS p2 aj c2) ay] [(7,vS p2 aj c2)])->J Tryz.prog 37 B (nav (bodyOf f37) [1,1,0,1,0]) Q I [hO Int (vS p1 out c1) cs] [(0,vS p list c),(1,vI from0),(2,vI to0),(7,vS p1 out c1),(8,vI i)]:=by
 refine rF.partial_correctness list from0 to0 _ fun aH ih out i o N B I0 I Q p c p1 c1 cs H h h2 hg ho hx=>yR hg ho<|yB<|yG [13] rfl<|zI<|yF N ?_ ?_
 · intro hc N;refine zT<|yA<|yH<|yB ?_;refine wS N [hO Int (vS p1 out c1) cs] (fun t31=>[(0,vS p list c),(1,vI from0),(2,vI to0),(7,vS p1 out c1),(8,vI i),(31,.bool t31)]) (fun o0 aB=>?_) ?_
   · have H:=iS I;refine zM<|yC 2 [] [16,17] rfl ?_;obtain ⟨x,hy,N⟩:=zB aB;refine xO rfl rfl h hy ?_;intro ad aK aq al;obtain ⟨p3,c3,rfl,h4⟩:=uL al;refine yC 4 [] [19] rfl<|xJ 0 aq [vI x.Part] (vI x.Part) rfl<|yC 8 [] [23] rfl<|xS [23] N ?_ ?_
     · intro aE N;refine yC 10 [] [24,25] rfl<|bE N fun x1 aA N=>xO rfl rfl h aA ?_;intro ad1 bx au ax;obtain ⟨p4,c4,rfl,h5⟩:=uL ax;exact yC 12 [] [27] rfl<|xJ 0 au [vI x1.Part] (vI x1.Part) rfl<|yI [] [31] rfl<|yL<|zU (ct N H)
     intro aE N;exact wB [] [(31,vF)]<|yL<|zU (ct N H)
   intro t31 I0 le aS;have ⟨h,h2,H⟩:=m3 le h h2 H;refine zI ?_;obtain ⟨aM,az,hMc1⟩:=zB aS;refine qR (fun I' ah m'=>∃ (ap:List Int) (p5:Option Addr) (c5:Nat) (aQ:List Value),aM=ap/\I0.le I'/\(RL I' aQ ap)/\ah=[hO Int (vS p5 ap c5) aQ]/\m'=[(0,vS p list c),(1,vI from0),(2,vI to0),(7,vS p5 ap c5),(8,vI i)]) ?_ ?_
   · have H:=iS I0;refine yF az ?_ ?_
     · intro aY N;refine zM<|yC 2 [] [32,33] rfl<|uD [vI i] Int ?_;intro b1 hb1;have h7:RL I0 [vI i] ([i]:List Int):=rI [i];obtain ⟨aP,aJ,N⟩:=zB N;exact sC 3 1 1 rfl rfl rfl h2 (.inr ⟨0,rfl⟩) h7 aJ fun p6 c6 aR h8=>tO (zY [1] (ah:=[hO Int (vS p6 aP c6) aR]))<|yI [] [7] rfl<|yL<|zU ⟨_,_,_,_,(zC N).symm,H,h8,rfl,rfl⟩
     intro aY N;exact zT<|yL<|zU ⟨_,_,_,_,(zC N).symm,H,h2,rfl,rfl⟩
   rintro aT aw m2 ⟨ap,p5,c5,aQ,heq1,af,h6,rfl,rfl⟩;subst aM;have ⟨h,H⟩:=m2 af h H;exact zP<|zI<|zM<|yI [] [8] rfl<|yP<|nN<|ih ap (W (i+1)) _ hMc1 H h h6 hg ho hx
 intro hc N;exact wR<|yL<|hx _ _ _ _ _ (zC N).symm H h2
def kW (list:(List zL)) (from0:Int) (to0:Int):Option ((List Int)):=do
 let aj<-rF list from0 to0 ([]:List Int) 0
 pure (id aj)
theorem zBe:∀ list from0 to0 r,kW list from0 to0=some r->∀ {I:Imm}{p c},(S4 I p list c)->RT 37 [vS p list c,vI from0,vI to0] I [] (zEU  r):=by
 intro list from0 to0 r N I p c h;unfold kW at N;refine yJ func37 fun B=>vR []<|yV<|uD [] Int ?_;intro b hb;have h1:RL I [] ([]:List Int):=rfl;refine yI [] [7] rfl<|yA<|yG [8] rfl<|xX<|qP [(0,vS p list c),(1,vI from0),(2,vI to0),(7,vS (some ⟨b,0,none⟩) ([]:List Int) 0),(8,vI 0)] ?_;obtain ⟨o02,ho02,aI⟩:=zB N;refine zDZ list from0 to0 ([]:List Int) 0 o02 ho02 iR h h1 (fun _ _ _ h=>h) (fun _ _ h=>h) ?_;intro aU aj p2 c2 ay heq2 aC h3;subst o02;refine zS<|vK [6] rfl<|zI<|xB ?_;obtain rfl:=zC aI;exact xA ⟨_,_,(.tmp rfl ResV.nil),(zX [0] rfl (by decide)),⟨_,_,_,rfl,rfl,h3⟩⟩
def oL (a0:(List Int)) (b:(List Int)) (i:Int):Option (Out Unit (Bool)):=do
 if (decide (i<(a0.length:Int))) then
  let x<-idx a0 i
  let x1<-idx b i
  if (x != x1) then
   pure (.ret false)
  else
   oL a0 b (W (i+1))
 else
  pure (.done ())
 partial_fixpoint
theorem zEV (a0:(List Int)) (b:(List Int)):∀ (i:Int) (o:Out Unit (Bool)),oL a0 b i=some o->∀ {B}{I0 I:Imm}{Q p c p1 c1},I0.le I->(S4 I p a0 c)->(S4 I p1 b c1)->NG Q->NO Q->(∀ (I':Imm) ,o=(.done ())->I0.le I'->T 26 B Q (.exit 0) I' [] [])->(∀ r I' ah m',o=(.ret r)->I0.le I'->RS Tryz.prog f76 B (zV  r) I' ah m'->T 26 B Q .ret I' ah m')->J Tryz.prog 26 B (nav (bodyOf f76) [1,1,0,1,0]) Q I [] [(0,vS p a0 c),(1,vS p1 b c1),(5,vI i)]:=by
 refine oL.partial_correctness a0 b _ fun aH ih i o N B I0 I Q p c p1 c1 H h h1 hg ho hx hr=>yR hg ho<|yB<|yG [14] rfl<|zI<|yF N ?_ ?_
 · intro aE N;refine zT<|yA<|yH<|yB<|jE (by kernel_rfl) (by kernel_rfl)<|fS 2 [] [17,18] rfl<|bE N fun x hy N=>dM rfl rfl h hy ?_;intro ad aK aq al;obtain rfl:=al;refine eX 0 aq [vI x] (vI x) rfl<|fS 6 [] [21,22] rfl<|bE N fun x1 aA N=>dM rfl rfl h1 aA ?_;intro ad1 bx au ax;obtain rfl:=ax;refine eX 0 au [vI x1] (vI x1) rfl<|zHL [] [25] rfl<|zI<|yF N ?_ ?_
   · intro aY N;exact vR [(4,vF)]<|xC<|zW<|zH<|zH<|hr _ _ _ _ (zC N).symm H ⟨_,_,(.tmp rfl ResV.nil),zQ,⟨_,rfl,rfl,rfl⟩⟩
   intro aY N;exact zT<|zP<|zI<|zM<|yI [] [5] rfl<|yP<|nN<|ih (W (i+1)) _ N H h h1 hg ho hx hr
 intro aE N;exact wR<|yL<|hx _  (zC N).symm H
def jT (a0:(List Int)) (b:(List Int)):Option (Bool):=do
 if ((a0.length:Int) != (b.length:Int)) then
  pure false
 else
  match<-oL a0 b 0 with
  | .ret r0=>pure r0
  | .done _ =>
   pure true
theorem zCP:∀ a0 b r,jT a0 b=some r->∀ {I:Imm}{p c p1 c1},(S4 I p a0 c)->(S4 I p1 b c1)->RT 76 [vS p a0 c,vS p1 b c1] I [] (zV  r):=by
 intro a0 b r N I p c p1 c1 h h1;unfold jT at N;refine yJ func76 fun B=>vR []<|yA<|yG [10] rfl<|zI<|yF N ?_ ?_
 · intro hc N;refine vR [(4,vF)]<|xC<|zH ?_;obtain rfl:=zC N;exact vE
 intro hc N;refine zT<|yA<|yG [5] rfl<|xX<|qP [(0,vS p a0 c),(1,vS p1 b c1),(5,vI 0)] ?_;obtain ⟨o0,aB,aI⟩:=zB N;refine zEV a0 b 0 o0 aB iR h h1 (fun _ _ _ h=>h) (fun _ _ h=>h) ?_ ?_
 · intro I0  heq le;subst o0;refine zS<|zGR [(4,vY)]<|zI<|xB ?_;obtain rfl:=zC aI;exact vE
 intro r0 I9 hs9 m9 aX le9 ba;subst aX;refine zW<|zH ?_;obtain rfl:=zC aI;exact xA ba
def zEW (r:(List (List Int))):KT:=fun kk I' ah v=>
  ∃ v0,ah=[]/\v=tupV [v0]/\SL I' v0 r
def rG (list:(List zL)) (group:(List Int)) (n0:Int) (out:List (List Int)) (i:Int):Option (List (List Int)):=do
 if (decide (i<(group.length:Int))) then
  let x<-idx group i
  let x1<-idx list x
  let l<-slc x1.Point 0 n0
  let t40<-(do
    if ((out.length:Int)==0) then
     pure true
    else
     let x2<-idx out (W ((out.length:Int) - 1))
     let y<-jT x2 l
     pure (!y)
      : Option Bool)
  let ap<-(do
    if t40 then
     let aP<-app 24 out ([l]:List (List Int))
     pure (id aP)
    else
     pure (id out)
      : Option (List (List Int)))
  rG list group n0 ap (W (i+1))
 else
  pure (id out)
 partial_fixpoint
theorem zD0 (list:(List zL)) (group:(List Int)) (n0:Int):∀ (out:List (List Int)) (i:Int) (o:List (List Int)),rG list group n0 out i=some o->∀ {B}{I0 I:Imm}{Q p c p1 c1 p2 c2 cs},I0.le I->(S4 I p list c)->(S4 I p1 group c1)->(RL I cs out)->NG Q->NO Q->(∀ (I':Imm) (aj:List (List Int)) (p3:Option Addr) (c3:Nat) (ay:List Value),o=aj->I0.le I'->(RL I' ay aj)->T 46 B Q (.exit 0) I' [hO (List Int) (vS p3 aj c3) ay] [(7,vS p3 aj c3)])->J Tryz.prog 46 B (nav (bodyOf f38) [1,1,0,1,0]) Q I [hO (List Int) (vS p2 out c2) cs] [(0,vS p list c),(1,vS p1 group c1),(2,vI n0),(7,vS p2 out c2),(8,vI i)]:=by
 refine rG.partial_correctness list group n0 _ fun aH ih out i o N B I0 I Q p c p1 c1 p2 c2 cs H h h1 h3 hg ho hx=>yR hg ho<|yB<|yG [14] rfl<|zI<|yF N ?_ ?_
 · intro hc N;refine zT<|yA<|yH<|yE<|yC 3 [] [17,18,19] rfl<|bE N fun x hy N=>xO rfl rfl h1 hy ?_;intro ad aK aq al;obtain rfl:=al;refine xJ 0 aq [vI x] (vI x) rfl<|bE N fun x1 aA N=>xO rfl rfl h aA ?_;intro ad1 bx au ax;obtain ⟨p4,c4,rfl,h5⟩:=uL ax;refine yC 7 [] [23] rfl<|xJ 2 au [vS p4 x1.Point c4] (vS p4 x1.Point c4) rfl<|yC 9 [] [25] rfl<|bE N fun l aJ N=>zIj rfl h5 aJ ?_;intro v01 h6;obtain ⟨p5,c5,rfl⟩:=h6.form;refine yI [] [9] rfl<|zI<|yB ?_;refine wS N [hO (List Int) (vS p2 out c2) cs] (fun t40=>[(0,vS p list c),(1,vS p1 group c1),(2,vI n0),(7,vS p2 out c2),(8,vI i),(9,vS p5 l c5),(40,.bool t40)]) (fun o0 aB=>?_) ?_
   · have H:=iS I;refine zM<|yC 4 [] [30] rfl<|xS [30] aB ?_ ?_
     · intro aE N;exact wB [] [(40,vY)]<|yL<|zU (ct N H)
     intro aE N;refine yC 8 [] [31,34] rfl<|bE N fun x2 bf N=>nY 0 rfl rfl rfl h3 bf ?_;intro ad2 bO br bL bq;obtain ⟨v02,rfl,h7⟩:=bq;obtain ⟨p6,c6,rfl⟩:=h7.form;refine zAn 0 0 br bL [vS p6 x2 c6] (vS p6 x2 c6) rfl rfl<|yC 11 [] [37] rfl<|bE N fun y bw N=>uM (zCP x2 l _ bw h7 h6) ?_;intro aT le;have H:=H.trans le;exact yI [] [40] rfl<|yL<|zU (ct N H)
   intro t40 I0 af aS;have ⟨h,h1,h3,h6,H⟩:=m5 af h h1 h3 h6 H;refine zI ?_;obtain ⟨aM,az,hMc1⟩:=zB aS;refine qR (fun I' ah m'=>∃ (ap:List (List Int)) (p7:Option Addr) (c7:Nat) (aQ:List Value),aM=ap/\I0.le I'/\(RL I' aQ ap)/\ah=[hO (List Int) (vS p7 ap c7) aQ]/\m'=[(0,vS p list c),(1,vS p1 group c1),(2,vI n0),(7,vS p7 ap c7),(8,vI i)]) ?_ ?_
   · have H:=iS I0;refine yF az ?_ ?_
     · intro aY N;refine zM<|yC 2 [] [41,42] rfl<|uD [vS p5 l c5] (List Int) ?_;intro b1 hb1;have h10:RL I0 [vS p5 l c5] ([l]:List (List Int)):=⟨[vS p5 l c5],_,rfl,rfl,⟨_,rfl,h6⟩,rfl⟩;obtain ⟨aP,bH,N⟩:=zB N;exact sC 27 1 1 rfl rfl rfl h3 (.inr ⟨0,rfl⟩) h10 bH fun p8 c8 aR h11=>tO (zY [1] (ah:=[hO (List Int) (vS p8 aP c8) aR]))<|yI [] [7] rfl<|yL<|zU ⟨_,_,_,_,(zC N).symm,H,h11,rfl,rfl⟩
     intro aY N;exact zT<|yL<|zU ⟨_,_,_,_,(zC N).symm,H,h3,rfl,rfl⟩
   rintro aU aw m2 ⟨ap,p7,c7,aQ,heq1,aC,h9,rfl,rfl⟩;subst aM;have ⟨h,h1,H⟩:=m3 aC h h1 H;exact zP<|zI<|zM<|yI [] [8] rfl<|yP<|nN<|ih ap (W (i+1)) _ hMc1 H h h1 h9 hg ho hx
 intro hc N;exact wR<|yL<|hx _ _ _ _ _ (zC N).symm H h3
def kX (list:(List zL)) (group:(List Int)) (n0:Int):Option ((List (List Int))):=do
 let aj<-rG list group n0 ([]:List (List Int)) 0
 pure (id aj)
theorem zBf:∀ list group n0 r,kX list group n0=some r->∀ {I:Imm}{p c p1 c1},(S4 I p list c)->(S4 I p1 group c1)->RT 38 [vS p list c,vS p1 group c1,vI n0] I [] (zEW  r):=by
 intro list group n0 r N I p c p1 c1 h h1;unfold kX at N;refine yJ func38 fun B=>vR []<|yV<|uD [] (List Int) ?_;intro b hb;have h2:RL I [] ([]:List (List Int)):=rfl;refine yI [] [7] rfl<|yA<|yG [8] rfl<|xX<|qP [(0,vS p list c),(1,vS p1 group c1),(2,vI n0),(7,vS (some ⟨b,0,none⟩) ([]:List (List Int)) 0),(8,vI 0)] ?_;obtain ⟨o02,ho02,aI⟩:=zB N;refine zD0 list group n0 ([]:List (List Int)) 0 o02 ho02 iR h h1 h2 (fun _ _ _ h=>h) (fun _ _ h=>h) ?_;intro bC aj p3 c3 ay heq2 aD h4;subst o02;refine zS<|vK [6] rfl<|xC<|yU 0 rfl ?_;intro bJ aW hl0;have h12:=SL.of_frozen hl0 aW h4;obtain rfl:=zC aI;exact xA ⟨_,_,(.tmp rfl ResV.nil),zQ,⟨_,rfl,rfl,h12⟩⟩
def zEX (r:(List Int)):KT:=fun kk I' ah v=>
  ∃ v0,ah=[]/\v=tupV [v0]/\SL I' v0 r
def rH (list:(List zL)) (part:Int) (prefix0:(List Int)) (out:List Int) (i:Int):Option (List Int):=do
 if (decide (i<(list.length:Int))) then
  let t34<-(do
    let x<-idx list i
    if (x.Part==part) then
     let x1<-idx list i
     let l<-slc x1.Point 0 (prefix0.length:Int)
     let y<-jT l prefix0
     pure (id y)
    else
     pure false
      : Option Bool)
  let ap<-(do
    if t34 then
     let aP<-app 8 out ([i]:List Int)
     pure (id aP)
    else
     pure (id out)
      : Option (List Int))
  rH list part prefix0 ap (W (i+1))
 else
  pure (id out)
 partial_fixpoint
theorem zD1 (list:(List zL)) (part:Int) (prefix0:(List Int)):∀ (out:List Int) (i:Int) (o:List Int),rH list part prefix0 out i=some o->∀ {B}{I0 I:Imm}{Q p c p1 c1 p2 c2 cs},I0.le I->(S4 I p list c)->(S4 I p1 prefix0 c1)->(RL I cs out)->NG Q->NO Q->(∀ (I':Imm) (aj:List Int) (p3:Option Addr) (c3:Nat) (ay:List Value),o=aj->I0.le I'->(RL I' ay aj)->T 40 B Q (.exit 0) I' [hO Int (vS p3 aj c3) ay] [(7,vS p3 aj c3)])->J Tryz.prog 40 B (nav (bodyOf f39) [1,1,0,1,0]) Q I [hO Int (vS p2 out c2) cs] [(0,vS p list c),(1,vI part),(2,vS p1 prefix0 c1),(7,vS p2 out c2),(8,vI i)]:=by
 refine rH.partial_correctness list part prefix0 _ fun aH ih out i o N B I0 I Q p c p1 c1 p2 c2 cs H h h1 h3 hg ho hx=>yR hg ho<|yB<|yG [13] rfl<|zI<|yF N ?_ ?_
 · intro hc N;refine zT<|yA<|yH<|yB ?_;refine wS N [hO Int (vS p2 out c2) cs] (fun t34=>[(0,vS p list c),(1,vI part),(2,vS p1 prefix0 c1),(7,vS p2 out c2),(8,vI i),(34,.bool t34)]) (fun o0 aB=>?_) ?_
   · have H:=iS I;refine zM<|yC 2 [] [16,17] rfl ?_;obtain ⟨x,hy,N⟩:=zB aB;refine xO rfl rfl h hy ?_;intro ad aK aq al;obtain ⟨p4,c4,rfl,h5⟩:=uL al;refine yC 4 [] [19] rfl<|xJ 0 aq [vI x.Part] (vI x.Part) rfl<|yC 8 [] [23] rfl<|xS [23] N ?_ ?_
     · intro aE N;refine yC 10 [] [24,25] rfl<|bE N fun x1 aA N=>xO rfl rfl h aA ?_;intro ad1 bx au ax;obtain ⟨p5,c5,rfl,h6⟩:=uL ax;refine yC 12 [] [27] rfl<|xJ 2 au [vS p5 x1.Point c5] (vS p5 x1.Point c5) rfl<|yC 15 [] [30] rfl<|bE N fun l aJ N=>zIj rfl h6 aJ ?_;intro v02 h7;obtain ⟨p6,c6,rfl⟩:=h7.form;refine yC 17 [] [32] rfl<|bE N fun y bf N=>uM (zCP l prefix0 _ bf h7 h1) ?_;intro aT le;have H:=H.trans le;exact yI [] [34] rfl<|yL<|zU (ct N H)
     intro aE N;exact wB [] [(34,vF)]<|yL<|zU (ct N H)
   intro t34 I0 af aS;have ⟨h,h1,h3,H⟩:=m4 af h h1 h3 H;refine zI ?_;obtain ⟨aM,az,hMc1⟩:=zB aS;refine qR (fun I' ah m'=>∃ (ap:List Int) (p7:Option Addr) (c7:Nat) (aQ:List Value),aM=ap/\I0.le I'/\(RL I' aQ ap)/\ah=[hO Int (vS p7 ap c7) aQ]/\m'=[(0,vS p list c),(1,vI part),(2,vS p1 prefix0 c1),(7,vS p7 ap c7),(8,vI i)]) ?_ ?_
   · have H:=iS I0;refine yF az ?_ ?_
     · intro aY N;refine zM<|yC 2 [] [35,36] rfl<|uD [vI i] Int ?_;intro b1 hb1;have h10:RL I0 [vI i] ([i]:List Int):=rI [i];obtain ⟨aP,bw,N⟩:=zB N;exact sC 3 1 1 rfl rfl rfl h3 (.inr ⟨0,rfl⟩) h10 bw fun p8 c8 aR h11=>tO (zY [1] (ah:=[hO Int (vS p8 aP c8) aR]))<|yI [] [7] rfl<|yL<|zU ⟨_,_,_,_,(zC N).symm,H,h11,rfl,rfl⟩
     intro aY N;exact zT<|yL<|zU ⟨_,_,_,_,(zC N).symm,H,h3,rfl,rfl⟩
   rintro aU aw m2 ⟨ap,p7,c7,aQ,heq1,aC,h9,rfl,rfl⟩;subst aM;have ⟨h,h1,H⟩:=m3 aC h h1 H;exact zP<|zI<|zM<|yI [] [8] rfl<|yP<|nN<|ih ap (W (i+1)) _ hMc1 H h h1 h9 hg ho hx
 intro hc N;exact wR<|yL<|hx _ _ _ _ _ (zC N).symm H h3
def sI (list:(List zL)) (part:Int) (prefix0:(List Int)):Option ((List Int)):=do
 let aj<-rH list part prefix0 ([]:List Int) 0
 pure (id aj)
theorem dL:∀ list part prefix0 r,sI list part prefix0=some r->∀ {I:Imm}{p c p1 c1},(S4 I p list c)->(S4 I p1 prefix0 c1)->RT 39 [vS p list c,vI part,vS p1 prefix0 c1] I [] (zEX  r):=by
 intro list part prefix0 r N I p c p1 c1 h h1;unfold sI at N;refine yJ func39 fun B=>vR []<|yV<|uD [] Int ?_;intro b hb;have h2:RL I [] ([]:List Int):=rfl;refine yI [] [7] rfl<|yA<|yG [8] rfl<|xX<|qP [(0,vS p list c),(1,vI part),(2,vS p1 prefix0 c1),(7,vS (some ⟨b,0,none⟩) ([]:List Int) 0),(8,vI 0)] ?_;obtain ⟨o02,ho02,aI⟩:=zB N;refine zD1 list part prefix0 ([]:List Int) 0 o02 ho02 iR h h1 h2 (fun _ _ _ h=>h) (fun _ _ h=>h) ?_;intro bC aj p3 c3 ay heq2 aD h4;subst o02;refine zS<|vK [6] rfl<|xC<|yU 0 rfl ?_;intro bJ aW hl0;have h12:=SL.of_frozen hl0 aW h4;obtain rfl:=zC aI;exact xA ⟨_,_,(.tmp rfl ResV.nil),zQ,⟨_,rfl,rfl,h12⟩⟩
def mJ (choices:(List Int)) (n0:Int) (many:Int):Option (Int):=do
 if ((choices.length:Int)==0) then
  pure (id 0)
 else
  let q<-rem n0 (choices.length:Int)
  let x<-idx choices q
  let q1<-rem x many
  if (decide (q1<0)) then
   pure (id 0)
  else
   pure (id q1)
theorem zFO:∀ choices n0 many r,mJ choices n0 many=some r->∀ {I:Imm}{p c},(S4 I p choices c)->RT 40 [vS p choices c,vI n0,vI many] I [] (xD  r):=by
 intro choices n0 many r N I p c h;unfold mJ at N;refine yJ func40 fun B=>vR []<|yA<|yG [10] rfl<|zI<|yF N ?_ ?_
 · intro hc N;refine yG [6] rfl<|xC<|zH ?_;obtain rfl:=zC N;exact vE
 intro hc N;refine zT<|yV<|yC 4 [] [11,12,14] rfl<|bE N fun q hy N=>zKf rfl hy<|bE N fun x aA N=>xO rfl rfl h aA ?_;intro ad aK aq al;obtain rfl:=al;refine xJ 0 aq [vI x] (vI x) rfl<|yC 8 [] [18] rfl<|bE N fun q1 aJ N=>zKf rfl aJ<|yI [] [7] rfl<|yA<|yG [21] rfl<|zI<|yF N ?_ ?_
 · intro aE N;refine yG [6] rfl<|xC<|zH ?_;obtain rfl:=zC N;exact vE
 intro aE N;refine zT<|vK [6] rfl<|zI<|xB ?_;obtain rfl:=zC N;exact vE
def vJ (part:Int) (choices:(List Int)) (y1:(List zL)) (ap:List Int) (n01:Int) (rest:List (List Int)):Option ((List Int×Int)):=do
 if (decide ((rest.length:Int)>0)) then
  let y7<-mJ choices n01 (rest.length:Int)
  let x1<-idx rest y7
  let y8<-sI y1 part x1
  let bu<-app 8 ap y8
  let l<-slc rest 0 y7
  let l1<-app 24 ([]:List (List Int)) l
  let l2<-slc rest (W (y7+1)) (rest.length:Int)
  let rest1<-app 24 l1 l2
  vJ part choices y1 bu (W (n01+1)) rest1
 else
  pure (ap,n01)
 partial_fixpoint
set_option maxHeartbeats 4000000 in
theorem zAj (part:Int) (choices:(List Int)) (y1:(List zL)):∀ (ap:List Int) (n01:Int) (rest:List (List Int)) (o:(List Int×Int)),vJ part choices y1 ap n01 rest=some o->∀ {B}{I0 I:Imm}{Q}{p:zD}{loop:Int}{y4:(List (List Int))}{i:Int}{p1 c p2 c1 p3 c2}{b:Nat}{p4 c3 p7 c6 bj bk aR p14 bo},I0.le I->(S4 I p3 choices c2)->(S4 I p4 y1 c3)->(S4 I p7 y4 c6)->(S4 I p1 p.Arrays c)->(S4 I p2 p.Parts c1)->(RL I aR ap)->(S4 I p14 rest bo)->NG Q->NO Q->(∀ (I':Imm) (aP:List Int) (n02:Int) (p15:Option Addr) (c14:Nat) (bz:List Value),o=(aP,n02)->I0.le I'->(RL I' bz aP)->T 89 B Q (.exit 2) I' [hO Int (vS p15 aP c14) bz,hB b (cProg p p1 c p2 c1)] [(1,vI part),(2,vI loop),(3,vS p3 choices c2),(4,vP b 0),(10,vS p4 y1 c3),(11,vS p15 aP c14),(12,vS p7 y4 c6),(13,vI n02),(14,vI i)])->J Tryz.prog 89 B (nav (bodyOf f11) [1,1,1,1,1,1,0,1,0,0,1,0,0,1,0]) Q I [hO Int (vS bj ap bk) aR,hB b (cProg p p1 c p2 c1)] [(1,vI part),(2,vI loop),(3,vS p3 choices c2),(4,vP b 0),(10,vS p4 y1 c3),(11,vS bj ap bk),(12,vS p7 y4 c6),(13,vI n01),(14,vI i),(15,vS p14 rest bo)]:=by
 refine vJ.partial_correctness part choices y1 _ fun aH ih ap n01 rest o N B I0 I Q p loop y4 i p1 c p2 c1 p3 c2 b p4 c3 p7 c6 bj bk aR p14 bo H h2 h6 h9 h h1 h15 h16 hg ho hx=>yR hg ho<|yB<|yG [53] rfl<|zI<|yF N ?_ ?_
 · intro aY N;refine zT<|xX<|yE<|yC 4 [] [54,55,57] rfl<|bE N fun y7 hy8 N=>gR (zFO choices n01 (rest.length:Int) _ hy8 h2) ?_;intro I08 le8;have ⟨h2,h6,h15,h9,h16,h⟩:=m6 le8 h2 h6 h15 h9 h16 h;have ⟨h1,H⟩:=m2 le8 h1 H;refine yI [] [16] rfl<|vK [13] rfl<|yV<|yC 5 [] [61,62,63,64,65] rfl<|bE N fun x1 hy9 N=>xO rfl rfl h16 hy9 ?_;intro ad1 bx au ax;obtain ⟨v08,rfl,h19⟩:=ax;obtain ⟨p16,c15,rfl⟩:=h19.form;refine xJ 0 au [vS p16 x1 c15] (vS p16 x1 c15) rfl<|bE N fun y8 hy10 N=>xM (dL y1 part x1 _ hy10 h6 h19) ?_;rintro I09 aw v2 k2 le9 - ⟨v09,rfl,rfl,h20⟩ -;have ⟨h2,h6,h9,h16,h15,h⟩:=m6 le9 h2 h6 h9 h16 h15 h;have ⟨h1,H⟩:=m2 le9 h1 H;obtain ⟨p17,c16,rfl⟩:=h20.form;obtain ⟨bO,k0,k01⟩:=h20;have h20:SL I09 (vS p17 y8 c16) y8:=⟨_,k0,k01⟩;obtain ⟨bu,hy11,N⟩:=zB N;refine sC 3 1 0 rfl rfl rfl h15 (.inl k0) k01 hy11 fun p18 c17 bD h21=>tO (zY [0,1] (ah:=[hO Int (vS p18 bu c17) bD,hB b (cProg p p1 c p2 c1)]))<|yI [] [11] rfl<|zI ?_;obtain ⟨l,hy12,N⟩:=zB N;obtain ⟨l1,hy13,N⟩:=zB N;obtain ⟨l2,hy14,N⟩:=zB N;obtain ⟨rest1,hy15,N⟩:=zB N;refine vC [.x (fun I' v hx=>∃ b2,v=vS (some ⟨b2,0,none⟩) ([]:List (List Int)) 0/\hx=[hO (List Int) (vS (some ⟨b2,0,none⟩) ([]:List (List Int)) 0) []]/\(RL I' [] ([]:List (List Int)))),.p (vS p14 rest bo) [],.p (vI y7) [],.x (eS l),.x (fun I' v hx=>∃ p20 c19 cs6,v=vS p20 l1 c19/\hx=[hO (List Int) (vS p20 l1 c19) cs6]/\(RL I' cs6 l1)),.p (vS p14 rest bo) [],.p (vI y7) [],.p (vI (W (y7+1))) [],.x (eS l2),.x (fun I' v hx=>∃ p22 c21 cs7,v=vS p22 rest1 c21/\hx=[hO (List Int) (vS p22 rest1 c21) cs7]/\(RL I' cs7 rest1))] [[],[],[],[(1,false),(2,false)],[(0,true),(3,false)],[],[],[(6,false)],[(5,false),(7,false)],[(4,true),(8,false)]] [hO Int (vS p18 bu c17) bD,hB b (cProg p p1 c p2 c1)] [] [(9,true)] (zY [0,1]) ?_ ?_
   · refine Ox ?_<|Op<|Op<|Ox ?_<|Ox ?_<|Op<|Op<|Op<|Ox ?_<|Ox ?_<|On
     · intro I1 hf af;refine dC []<|uD [] (List Int) ?_;intro b2 hb2;have h22:RL I1 [] ([]:List (List Int)):=rfl;exact yQ [hO (List Int) (vS (some ⟨b2,0,none⟩) ([]:List (List Int)) 0) []] iR ⟨_,rfl,rfl,h22⟩
     · intro I1 hf af;refine yW [71,72] rfl ?_;have h16:=h16.mono af;refine zIj rfl h16 hy12 ?_;intro v010 h23;obtain ⟨p19,c18,rfl⟩:=h23.form;exact yQ [] iR ⟨_,_,rfl,rfl,h23⟩
     · rintro I1 hf af _ _ ⟨b2,rfl,rfl,h22⟩ _ _ ⟨p19,c18,rfl,rfl,h23⟩;refine yW [70,73] rfl ?_;obtain ⟨ccs3,k02,k03⟩:=h23;have h23:SL I1 (vS p19 l c18) l:=⟨_,k02,k03⟩;exact sC 27 1 0 rfl rfl rfl h22 (.inl k02) k03 hy13 fun p20 c19 cs6 h24=>wE (ah:=(hO (List Int) (vS p20 l1 c19) cs6::hO Int (vS p18 bu c17) bD::hB b (cProg p p1 c p2 c1)::hf)) rfl<|yQ [hO (List Int) (vS p20 l1 c19) cs6] iR ⟨_,_,_,rfl,rfl,h24⟩
     · intro I1 hf af;refine yW [75,77] rfl ?_;have h16:=h16.mono af;refine zIj rfl h16 hy14 ?_;intro v011 h25;obtain ⟨p21,c20,rfl⟩:=h25.form;exact yQ [] iR ⟨_,_,rfl,rfl,h25⟩
     rintro I1 hf af _ _ ⟨p20,c19,cs6,rfl,rfl,h24⟩ _ _ ⟨p21,c20,rfl,rfl,h25⟩;refine yW [74,78] rfl ?_;obtain ⟨ccs4,k04,k05⟩:=h25;have h25:SL I1 (vS p21 l2 c20) l2:=⟨_,k04,k05⟩;exact sC 27 1 0 rfl rfl rfl h24 (.inl k04) k05 hy15 fun p22 c21 cs7 h26=>wE (ah:=(hO (List Int) (vS p22 rest1 c21) cs7::hO Int (vS p18 bu c17) bD::hB b (cProg p p1 c p2 c1)::hf)) rfl<|yQ [hO (List Int) (vS p22 rest1 c21) cs7] iR ⟨_,_,_,rfl,rfl,h26⟩
   rintro bP le10 _ _ ⟨p22,c21,cs7,rfl,rfl,h26⟩;refine yW [1,2,3,4,10,11,12,13,14,79] rfl ?_;have ⟨h2,h6,h21,h9,h,h1⟩:=m6 le10 h2 h6 h21 h9 h h1;have H:=H.trans le10;refine yI [] [15] rfl<|zP<|yP<|rL 0 rfl ?_;intro bV le11 hl01;have h27:=SL.of_frozen hl01 le11 h26;have ⟨h2,h6,h21,h9,h,h1⟩:=m6 le11 h2 h6 h21 h9 h h1;have H:=H.trans le11;exact nN<|ih bu (W (n01+1)) rest1 _ N H h2 h6 h9 h h1 h21 h27 hg ho hx
 intro aY N;exact wR<|yL<|hx _ _ _ _ _ _ (zC N).symm H h15
def uY (part:Int) (loop:Int) (choices:(List Int)) (y1:(List zL)) (y4:(List (List Int))) (out:List Int) (n0:Int) (i:Int):Option (List Int):=do
 if (decide (i<(y4.length:Int))) then
  let x<-idx y4 i
  let y5<-sI y1 part x
  let y6<-kX y1 y5 (W (loop+1))
  let (aP,n02)<-vJ part choices y1 out n0 y6
  uY part loop choices y1 y4 aP n02 (W (i+1))
 else
  pure (id out)
 partial_fixpoint
set_option maxHeartbeats 4000000 in
theorem zAk (part:Int) (loop:Int) (choices:(List Int)) (y1:(List zL)) (y4:(List (List Int))):∀ (out:List Int) (n0:Int) (i:Int) (o:List Int),uY part loop choices y1 y4 out n0 i=some o->∀ {B}{I0 I:Imm}{Q}{p:zD}{p1 c p2 c1 p3 c2}{b:Nat}{p4 c3 p7 c6 p8 c7 ay},I0.le I->(S4 I p3 choices c2)->(S4 I p4 y1 c3)->(S4 I p7 y4 c6)->(S4 I p1 p.Arrays c)->(S4 I p2 p.Parts c1)->(RL I ay out)->NG Q->NO Q->(∀ (I':Imm) (aj:List Int) (p9:Option Addr) (c8:Nat) (aQ:List Value),o=aj->I0.le I'->(RL I' aQ aj)->T 89 B Q (.exit 0) I' [hO Int (vS p9 aj c8) aQ,hB b (cProg p p1 c p2 c1)] [(1,vI part),(4,vP b 0),(10,vS p4 y1 c3),(11,vS p9 aj c8)])->J Tryz.prog 89 B (nav (bodyOf f11) [1,1,1,1,1,1,0,1,0]) Q I [hO Int (vS p8 out c7) ay,hB b (cProg p p1 c p2 c1)] [(1,vI part),(2,vI loop),(3,vS p3 choices c2),(4,vP b 0),(10,vS p4 y1 c3),(11,vS p8 out c7),(12,vS p7 y4 c6),(13,vI n0),(14,vI i)]:=by
 refine uY.partial_correctness part loop choices y1 y4 _ fun aH ih out n0 i o N B I0 I Q p p1 c p2 c1 p3 c2 b p4 c3 p7 c6 p8 c7 ay H h2 h6 h9 h h1 h10 hg ho hx=>yR hg ho<|yB<|yG [37] rfl<|zI<|yF N ?_ ?_
 · intro aE N;refine zT<|yA<|yH<|yE<|yC 5 [] [40,41,42,43,44] rfl<|bE N fun x bH N=>xO rfl rfl h9 bH ?_;intro ad aK aq al;obtain ⟨v04,rfl,h12⟩:=al;obtain ⟨aV,c9,rfl⟩:=h12.form;refine xJ 0 aq [vS aV x c9] (vS aV x c9) rfl<|bE N fun y5 hy6 N=>xM (dL y1 part x _ hy6 h6 h12) ?_;rintro I06 aw v2 k2 bv - ⟨v05,rfl,rfl,h13⟩ -;have ⟨h2,h6,h10,h9,h,h1⟩:=m6 bv h2 h6 h10 h9 h h1;have H:=H.trans bv;obtain ⟨aN,bc,rfl⟩:=h13.form;refine yC 10 [] [49] rfl<|bE N fun y6 hy7 N=>xM (zBf y1 y5 (W (loop+1)) _ hy7 h6 h13) ?_;rintro I07 aw v2 k2 le7 - ⟨v06,rfl,rfl,h14⟩ -;have ⟨h2,h6,h10,h9,h,h1⟩:=m6 le7 h2 h6 h10 h9 h h1;have H:=H.trans le7;obtain ⟨bB,aZ,rfl⟩:=h14.form;refine yI [] [15] rfl<|xX<|qP [(1,vI part),(2,vI loop),(3,vS p3 choices c2),(4,vP b 0),(10,vS p4 y1 c3),(11,vS p8 out c7),(12,vS p7 y4 c6),(13,vI n0),(14,vI i),(15,vS bB y6 aZ)] ?_;obtain ⟨o0,aB,aI⟩:=zB N;refine zAj part choices y1 out n0 y6 o0 aB iR h2 h6 h9 h h1 h10 h14 (fun _ _ _ h=>hg _ _ _ h) (fun _ _ h=>ho _ _ h) ?_;intro bW aP n02 p15 c14 bz heq le12 h17;subst o0;have ⟨h2,h6,h9,h,h1,H⟩:=m6 le12 h2 h6 h9 h h1 H;exact zS<|zP<|zI<|zM<|yI [] [14] rfl<|yP<|nN<|ih aP n02 (W (i+1)) _ aI H h2 h6 h9 h h1 h17 hg ho hx
 intro aE N;exact wR<|yL<|hx _ _ _ _ _ (zC N).symm H h10
def oX (p:zD) (part:Int) (loop:Int) (choices:(List Int)):Option ((List Int)×Bool):=do
 let y<-eE p part loop
 if (!y) then
  pure (([]:List Int),false)
 else
  let y1<-qI p
  let y2<-kW y1 0 part
  let y3<-sI y1 part ([]:List Int)
  let y4<-kX y1 y3 loop
  let aj<-uY part loop choices y1 y4 y2 0 0
  let y9<-kW y1 (W (part+1)) (p.Parts.length:Int)
  let t8<-app 8 aj y9
  pure (t8,true)
theorem zBp:∀ p part loop choices r,oX p part loop choices=some r->∀ {I:Imm}{p1 c p2 c1 p3 c2},(S4 I p1 p.Arrays c)->(S4 I p2 p.Parts c1)->(S4 I p3 choices c2)->RT 11 [vA (cProg p p1 c p2 c1),vI part,vI loop,vS p3 choices c2] I [] (fR  r):=by
 intro p part loop choices r N I p1 c p2 c1 p3 c2 h h1 h2;unfold oX at N;refine yJ func11 fun B=>yE<|tW (cProg p p1 c p2 c1) ?_;intro b hb;refine wB [] []<|yA<|yE<|rY 3 [0] [(17,vA (cProg p p1 c p2 c1)),(18,vI part),(19,vI loop)]<|bE N fun y hy N=>uM (zHO p part loop _ hy h h1) ?_;intro I0 le;have ⟨h2,h,h1⟩:=m3 le h2 h h1;refine yI [] [21] rfl<|zI<|yF N ?_ ?_
 · intro hc N;refine yE<|uD [] Int ?_;intro b1 hb1;have h4:RL I0 [] ([]:List Int):=rfl;refine yI [] [8,9] rfl<|xC<|zH<|yU 0 rfl ?_;intro aT af hl0;have h5:=SL.of_frozen hl0 af h4;obtain rfl:=zC N;exact xA ⟨_,_,(.tmp rfl (.tmp rfl ResV.nil)),zQ,⟨_,_,rfl,rfl,h5,rfl⟩⟩
 intro hc N;refine zT<|yV<|rY 1 [0] [(23,vA (cProg p p1 c p2 c1))]<|bE N fun y1 aA N=>xM (zCo p _ aA h h1) ?_;rintro aU aw v2 k2 aC - ⟨v01,rfl,rfl,h6⟩ -;have ⟨h2,h,h1⟩:=m3 aC h2 h h1;obtain ⟨p4,c3,rfl⟩:=h6.form;refine yI [] [10] rfl<|yV<|yC 2 [] [25,26] rfl<|bE N fun y2 aJ N=>xM (zBe y1 0 part _ aJ h6) ?_;rintro bC aw v2 k2 aD - ⟨p5,c4,cs,rfl,rfl,h7⟩ -;have ⟨h2,h6,h,h1⟩:=m4 aD h2 h6 h h1;refine yI [] [11] rfl<|yV<|yC 3 [] [28,29,30] rfl<|bE N fun y3 bf N=>xM (dL y1 part ([]:List Int) _ bf h6 (SL.nil _)) ?_;rintro bJ aw v2 k2 aW - ⟨v02,rfl,rfl,h8⟩ -;have ⟨h2,h6,h7,h,h1⟩:=m5 aW h2 h6 h7 h h1;obtain ⟨p6,c5,rfl⟩:=h8.form;refine yC 5 [] [32] rfl<|bE N fun y4 bw N=>xM (zBf y1 y3 loop _ bw h6 h8) ?_;rintro bN aw v2 k2 bt - ⟨v03,rfl,rfl,h9⟩ -;have ⟨h2,h6,h7,h,h1⟩:=m5 bt h2 h6 h7 h h1;obtain ⟨p7,c6,rfl⟩:=h9.form;refine yI [] [12] rfl<|vK [13] rfl<|yA<|yG [14] rfl<|xX<|qP [(1,vI part),(2,vI loop),(3,vS p3 choices c2),(4,vP b 0),(10,vS p4 y1 c3),(11,vS p5 y2 c4),(12,vS p7 y4 c6),(13,vI 0),(14,vI 0)] ?_;obtain ⟨aM,az,hMl1⟩:=zB N;refine zAk part loop choices y1 y4 y2 0 0 aM az iR h2 h6 h9 h h1 h7 (fun _ _ _ h=>h) (fun _ _ h=>h) ?_;intro I013 aj p9 c8 aQ heq1 le13 h11;subst aM;have h6:=h6.mono le13;refine zS<|yV<|yC 7 [1] [80,81,83,86] rfl ?_;obtain ⟨y9,hy16,N⟩:=zB hMl1;refine xM (zBe y1 (W (part+1)) (p.Parts.length:Int) _ hy16 h6) ?_;rintro I014 aw v2 k2 le14 - ⟨p23,c22,cs8,rfl,rfl,h28⟩ -;have h11:=iM le14 h11;obtain ⟨t8,hy17,N⟩:=zB N;refine sC 3 1 1 rfl rfl rfl h11 (.inr ⟨0,rfl⟩) h28 hy17 fun p24 c23 cs9 h29=>tO (zY [1,2] (ah:=[hO Int (vS p24 t8 c23) cs9,hB b (cProg p p1 c p2 c1)]))<|yI [] [8,9] rfl<|xC<|yU 0 rfl ?_;intro I015 le15 hl02;have h30:=SL.of_frozen hl02 le15 h29;obtain rfl:=zC N;exact xA ⟨_,_,(.tmp rfl (.tmp rfl ResV.nil)),zQ,⟨_,_,rfl,rfl,h30,rfl⟩⟩
def oM (a0:(List Int)) (b:(List Int)) (i:Int):Option (Out Unit (Bool)):=do
 if (decide (i<(a0.length:Int))) then
  let x<-idx a0 i
  let x1<-idx b i
  if (x != x1) then
   pure (.ret false)
  else
   oM a0 b (W (i+1))
 else
  pure (.done ())
 partial_fixpoint
theorem zEY (a0:(List Int)) (b:(List Int)):∀ (i:Int) (o:Out Unit (Bool)),oM a0 b i=some o->∀ {B}{I0 I:Imm}{Q p c p1 c1},I0.le I->(S4 I p a0 c)->(S4 I p1 b c1)->NG Q->NO Q->(∀ (I':Imm) ,o=(.done ())->I0.le I'->T 26 B Q (.exit 0) I' [] [])->(∀ r I' ah m',o=(.ret r)->I0.le I'->RS Tryz.prog f12 B (zV  r) I' ah m'->T 26 B Q .ret I' ah m')->J Tryz.prog 26 B (nav (bodyOf f12) [1,1,0,1,0]) Q I [] [(0,vS p a0 c),(1,vS p1 b c1),(5,vI i)]:=by
 refine oM.partial_correctness a0 b _ fun aH ih i o N B I0 I Q p c p1 c1 H h h1 hg ho hx hr=>yR hg ho<|yB<|yG [14] rfl<|zI<|yF N ?_ ?_
 · intro aE N;refine zT<|yA<|yH<|yB<|jE (by kernel_rfl) (by kernel_rfl)<|fS 2 [] [17,18] rfl<|bE N fun x hy N=>dM rfl rfl h hy ?_;intro ad aK aq al;obtain rfl:=al;refine eX 0 aq [vI x] (vI x) rfl<|fS 6 [] [21,22] rfl<|bE N fun x1 aA N=>dM rfl rfl h1 aA ?_;intro ad1 bx au ax;obtain rfl:=ax;refine eX 0 au [vI x1] (vI x1) rfl<|zHL [] [25] rfl<|zI<|yF N ?_ ?_
   · intro aY N;exact vR [(4,vF)]<|xC<|zW<|zH<|zH<|hr _ _ _ _ (zC N).symm H ⟨_,_,(.tmp rfl ResV.nil),zQ,⟨_,rfl,rfl,rfl⟩⟩
   intro aY N;exact zT<|zP<|zI<|zM<|yI [] [5] rfl<|yP<|nN<|ih (W (i+1)) _ N H h h1 hg ho hx hr
 intro aE N;exact wR<|yL<|hx _  (zC N).symm H
def jU (a0:(List Int)) (b:(List Int)):Option (Bool):=do
 if ((a0.length:Int) != (b.length:Int)) then
  pure false
 else
  match<-oM a0 b 0 with
  | .ret r0=>pure r0
  | .done _ =>
   pure true
theorem zCQ:∀ a0 b r,jU a0 b=some r->∀ {I:Imm}{p c p1 c1},(S4 I p a0 c)->(S4 I p1 b c1)->RT 12 [vS p a0 c,vS p1 b c1] I [] (zV  r):=by
 intro a0 b r N I p c p1 c1 h h1;unfold jU at N;refine yJ func12 fun B=>vR []<|yA<|yG [10] rfl<|zI<|yF N ?_ ?_
 · intro hc N;refine vR [(4,vF)]<|xC<|zH ?_;obtain rfl:=zC N;exact vE
 intro hc N;refine zT<|yA<|yG [5] rfl<|xX<|qP [(0,vS p a0 c),(1,vS p1 b c1),(5,vI 0)] ?_;obtain ⟨o0,aB,aI⟩:=zB N;refine zEY a0 b 0 o0 aB iR h h1 (fun _ _ _ h=>h) (fun _ _ h=>h) ?_ ?_
 · intro I0  heq le;subst o0;refine zS<|zGR [(4,vY)]<|zI<|xB ?_;obtain rfl:=zC aI;exact vE
 intro r0 I9 hs9 m9 aX le9 ba;subst aX;refine zW<|zH ?_;obtain rfl:=zC aI;exact xA ba
def vQ (y6:(List Int)) (i:Int):Option (Out Unit (Bool)):=do
 if (decide (i<(y6.length:Int))) then
  let x<-idx y6 i
  if (x != i) then
   pure (.ret false)
  else
   vQ y6 (W (i+1))
 else
  pure (.done ())
 partial_fixpoint
theorem zAM (y6:(List Int)):∀ (i:Int) (o:Out Unit (Bool)),vQ y6 i=some o->∀ {B}{I0 I:Imm}{Q}{y1:zD}{y2:Int}{y3:Int}{y4:(List Int)}{p1 c1 p2 c2 p3 c3}{b:Nat}{p4 c4},I0.le I->(S4 I p3 y4 c3)->(S4 I p4 y6 c4)->(S4 I p1 y1.Arrays c1)->(S4 I p2 y1.Parts c2)->NG Q->NO Q->(∀ (I':Imm) ,o=(.done ())->I0.le I'->T 89 B Q (.exit 0) I' [hB b (cProg y1 p1 c1 p2 c2)] [(3,vP b 0),(4,vI y2),(5,vI y3),(6,vS p3 y4 c3),(7,vS p4 y6 c4)])->(∀ r I' ah m',o=(.ret r)->I0.le I'->RS Tryz.prog f4 B (zV  r) I' ah m'->T 89 B Q .ret I' ah m')->J Tryz.prog 89 B (nav (bodyOf f4) [1,1,1,1,1,1,0,1,0]) Q I [hB b (cProg y1 p1 c1 p2 c2)] [(3,vP b 0),(4,vI y2),(5,vI y3),(6,vS p3 y4 c3),(7,vS p4 y6 c4),(11,vI i)]:=by
 refine vQ.partial_correctness y6 _ fun aH ih i o N B I0 I Q y1 y2 y3 y4 p1 c1 p2 c2 p3 c3 b p4 c4 H h4 h9 h5 h6 hg ho hx hr=>yR hg ho<|yB<|yG [64] rfl<|zI<|yF N ?_ ?_
 · intro hc5 N;refine zT<|yA<|yH<|yE<|yC 2 [] [67,68] rfl<|bE N fun x bH N=>xO rfl rfl h9 bH ?_;intro ad aK aq al;obtain rfl:=al;refine xJ 0 aq [vI x] (vI x) rfl<|yI [] [72] rfl<|zI<|yF N ?_ ?_
   · intro hc6 N;exact vR [(2,vF)]<|xC<|zW<|zH<|zH<|hr _ _ _ _ (zC N).symm H ⟨_,_,(.tmp rfl ResV.nil),zQ,⟨_,rfl,rfl,rfl⟩⟩
   intro hc6 N;exact zT<|zP<|zI<|zM<|yI [] [11] rfl<|yP<|nN<|ih (W (i+1)) _ N H h4 h9 h5 h6 hg ho hx hr
 intro hc5 N;exact wR<|yL<|hx _  (zC N).symm H
def nP (code:(List UInt8)):Option (Bool):=do
 if (decide ((code.length:Int)>1048576)) then
  pure true
 else
  let (y1,y2,y3,y4)<-rS code
  let (y6,y7)<-qM y1 y2 y3 ([]:List Int)
  let (y9,y10)<-oX y1 y2 y3 ([]:List Int)
  let t52<-(do
    if (!(y7==y10)) then
     pure true
    else
     let y11<-jU y6 y9
     if (!y11) then
      pure true
     else
      pure (!y7)
      : Option Bool)
  if t52 then
   let t2<-(do
     if (y7==y10) then
      let y12<-jU y6 y9
      pure (id y12)
     else
      pure false
       : Option Bool)
   pure (id t2)
  else
   match<-vQ y6 0 with
   | .ret r0=>pure r0
   | .done _ =>
    let (y14,y15)<-qM y1 y2 y3 y4
    let t21<-(do
      if y15 then
       pure ((y14.length:Int)==(y6.length:Int))
      else
       pure false
        : Option Bool)
    pure (id t21)
theorem zHm:∀ code r,nP code=some r->∀ {I:Imm}{p c},(S4 I p code c)->RT 4 [vS p code c] I [] (zV  r):=by
 intro code r N I p c h;unfold nP at N;refine yJ func4 fun B=>?_;have H:=iS I;refine vR []<|yA<|yG [16] rfl<|zI<|yF N ?_ ?_
 · intro hc N;refine vR [(2,vY)]<|xC<|zH ?_;obtain rfl:=zC N;exact vE
 intro hc N;refine zT<|yV<|yC 1 [] [18] rfl ?_;obtain ⟨⟨y1,y2,y3,y4⟩,hy,N⟩:=zB N;refine xM (zAQ code _ hy h) ?_;rintro I0 aw v2 k2 le - ⟨v0,v01,v02,v03,rfl,rfl,⟨cs,rfl,h1⟩,rfl,rfl,h4⟩ -;have H:=H.trans le;obtain ⟨p1,c1,p2,c2,rfl,h5,h6⟩:=nB h1;obtain ⟨p3,c3,rfl⟩:=h4.form;refine yC 7 [] [20,21,22,23] rfl<|wL zTwo ?_;intro b hb;refine xH 0 (cProg y1 p1 c1 p2 c2) rfl<|yI [] [4,5,6] rfl<|yV<|rY 3 [0] [(25,vA (cProg y1 p1 c1 p2 c2)),(26,vI y2),(27,vI y3)]<|uD [] Int ?_;intro b1 hb1;have h7:RL I0 [] ([]:List Int):=rfl;refine xF 0 rfl ?_;intro aT af hl0;have h8:=SL.of_frozen hl0 af h7;have ⟨h4,h5,h6,H⟩:=m4 af h4 h5 h6 H;obtain ⟨⟨y6,y7⟩,aA,N⟩:=zB N;refine xM (eG y1 y2 y3 ([]:List Int) _ aA h5 h6 h8) ?_;rintro aU aw v2 k2 aC - ⟨v06,v07,rfl,rfl,h9,rfl⟩ -;have ⟨h4,h5,h6,H⟩:=m4 aC h4 h5 h6 H;obtain ⟨p4,c4,rfl⟩:=h9.form;refine yI [] [7,8] rfl<|yV<|rY 3 [0] [(33,vA (cProg y1 p1 c1 p2 c2)),(34,vI y2),(35,vI y3)]<|uD [] Int ?_;intro b2 hb2;have h11:RL aU [] ([]:List Int):=rfl;refine xF 0 rfl ?_;intro bC aD hl01;have h12:=SL.of_frozen hl01 aD h11;have ⟨h4,h9,h5,h6,H⟩:=m5 aD h4 h9 h5 h6 H;obtain ⟨⟨y9,y10⟩,aJ,N⟩:=zB N;refine xM (zBp y1 y2 y3 ([]:List Int) _ aJ h5 h6 h12) ?_;rintro bJ aw v2 k2 aW - ⟨v08,v09,rfl,rfl,h13,rfl⟩ -;have ⟨h4,h9,h5,h6,H⟩:=m5 aW h4 h9 h5 h6 H;obtain ⟨p5,c5,rfl⟩:=h13.form;refine yI [] [9,10] rfl<|yA<|yB ?_;refine wS N [hB b (cProg y1 p1 c1 p2 c2)] (fun t52=>[(3,vP b 0),(4,vI y2),(5,vI y3),(6,vS p3 y4 c3),(7,vS p4 y6 c4),(8,.bool y7),(9,vS p5 y9 c5),(10,.bool y10),(52,.bool t52)]) (fun o0 aB=>?_) ?_
 · have H:=iS bJ;refine zM<|yC 4 [] [43] rfl<|xS [43] aB ?_ ?_
   · intro aE N;exact wB [] [(52,vY)]<|yL<|zU (ct N H)
   intro aE N;refine yC 6 [] [44,45] rfl<|bE N fun y11 bf N=>uM (zCQ y6 y9 _ bf h9 h13) ?_;intro I06 bt;have H:=H.trans bt;refine yC 10 [] [49] rfl<|xS [49] N ?_ ?_
   · intro aY N;exact wB [] [(52,vY)]<|yL<|zU (ct N H)
   intro aY N;exact yI [] [52] rfl<|yL<|zU (ct N H)
 intro t52 bN bv aS;have ⟨h4,h9,h13,h5,h6,H⟩:=m6 bv h4 h9 h13 h5 h6 H;refine zI<|yF aS ?_ ?_
 · intro bG N;refine yB ?_;refine wS N [] (fun t2=>[(2,.bool t2)]) (fun aM az=>?_) ?_
   · have H:=iS bN;refine zM<|yC 4 [] [56] rfl<|xS [56] az ?_ ?_
     · intro bM N;refine yC 6 [] [57,58] rfl<|bE N fun y12 bw N=>uM (zCQ y6 y9 _ bw h9 h13) ?_;intro I08 le7;have H:=H.trans le7;exact yI [] [2] rfl<|xQ zQ<|yL<|zU (ct N H)
     intro bM N;exact wB [] [(2,vF)]<|xQ zQ<|yL<|zU (ct N H)
   intro t2 I07 le8 hMc1;refine xC<|zH ?_;obtain rfl:=zC hMc1;exact vE
 intro bG N;refine zT<|yA<|yG [11] rfl<|xX<|qP [(3,vP b 0),(4,vI y2),(5,vI y3),(6,vS p3 y4 c3),(7,vS p4 y6 c4),(11,vI 0)] ?_;obtain ⟨o02,ho02,aI⟩:=zB N;refine zAM y6 0 o02 ho02 iR h4 h9 h5 h6 (fun _ _ _ h=>h) (fun _ _ h=>h) ?_ ?_
 · intro I09  heq2 le9;subst o02;have ⟨h4,h5,h6,H⟩:=m4 le9 h4 h5 h6 H;refine zS<|yV<|rY 4 [0] [(74,vA (cProg y1 p1 c1 p2 c2)),(75,vI y2),(76,vI y3),(77,vS p3 y4 c3)] ?_;obtain ⟨⟨y14,y15⟩,hy6,N⟩:=zB aI;refine xM (eG y1 y2 y3 y4 _ hy6 h5 h6 h4) ?_;rintro bP aw v2 k2 le10 - ⟨v012,v013,rfl,rfl,h17,rfl⟩ -;have H:=H.trans le10;obtain ⟨p6,c6,rfl⟩:=h17.form;refine yI [] [12,13] rfl<|zI<|yB ?_;refine wS N [] (fun t21=>[(2,.bool t21)]) (fun o03 ho03=>?_) ?_
   · have H:=iS bP;refine zM<|yC 2 [] [82] rfl<|xS [82] ho03 ?_ ?_
     · intro hc7 N;exact yI [] [2] rfl<|xQ zQ<|yL<|zU (ct N H)
     intro hc7 N;exact wB [] [(2,vF)]<|xQ zQ<|yL<|zU (ct N H)
   intro t21 bV le11 hMc2;refine zI<|xB ?_;obtain rfl:=zC hMc2;exact vE
 intro r0 I9 hs9 m9 aX le9 ba;subst aX;refine zW<|zH ?_;obtain rfl:=zC aI;exact xA ba
end Go.LN
