/- Helper of the proof (see the last text). -/
import Derived.Test.YtcmjkmdecmabaaaGreatHM6
set_option linter.unusedVariables false
set_option linter.unusedSimpArgs false
namespace Go.LN
open Go.Proofs Go.Proofs.Tryz
set_option maxRecDepth 20000
def zCz (r:(List zK)):KT:=fun kk I' ah v=>
  ∃ v0,ah=[]/\v=tupV [v0]/\SL I' v0 r
def wY (p:zD) (i:Int) (y:(List (List Int))) (k0:Int) (bo:List zK) (s:Int):Option (List zK):=do
 let x1<-idx p.Parts i
 if (decide (s<(x1.Body.length:Int))) then
  let x2<-idx y k0
  let l<-app 8 ([]:List Int) x2
  let out6<-app 40 bo ([(zK.mk i s l)]:List zK)
  wY p i y k0 out6 (W (s+1))
 else
  pure (id bo)
 partial_fixpoint
theorem zC6 (p:zD) (i:Int) (y:(List (List Int))) (k0:Int):∀ (bo:List zK) (s:Int) (o:List zK),wY p i y k0 bo s=some o->∀ {B}{I0 I:Imm}{Q p1 c p2 c1}{b:Nat}{p7 c6 aR bc c9 bI},I0.le I->(RL I aR y)->(S4 I p1 p.Arrays c)->(S4 I p2 p.Parts c1)->(RL I bI bo)->NG Q->NO Q->(∀ (I':Imm) (out5:List zK) (aT:Option Addr) (bj:Nat) (cs6:List Value),o=out5->I0.le I'->(RL I' cs6 out5)->T 54 B Q (.exit 4) I' [hO (List Int) (vS p7 y c6) aR,hO zK (vS aT out5 bj) cs6,hB b (cProg p p1 c p2 c1)] [(1,vP b 0),(3,vS aT out5 bj),(4,vI i),(5,vS p7 y c6),(6,vI k0)])->J Tryz.prog 54 B (nav (bodyOf f36) [1,1,0,1,0,0,1,0,0,1,1,0,0,1,0,0,1,0]) Q I [hO (List Int) (vS p7 y c6) aR,hO zK (vS bc bo c9) bI,hB b (cProg p p1 c p2 c1)] [(1,vP b 0),(3,vS bc bo c9),(4,vI i),(5,vS p7 y c6),(6,vI k0),(7,vI s)]:=by
 refine wY.partial_correctness p i y k0 _ fun aI ih bo s o N B I0 I Q p1 c p2 c1 b p7 c6 aR bc c9 bI H h8 h h1 h11 hg ho hx=>yO hg ho<|yB<|yF<|yC 4 [2] [30,32,33] rfl<|bE N fun x1 aK N=>xL rfl rfl h1 aK ?_;intro ad1 bv av ax;obtain ⟨bD,bf,bt,br,rfl,h13,h14⟩:=wU ax;refine yC 6 [] [35] rfl<|xE 1 av [vS bt x1.Body br] (vS bt x1.Body br) rfl<|yI [] [38] rfl<|zH<|yE N ?_ ?_
 · intro aZ N;refine zT<|zZ<|yH<|zJ<|yC 3 [] [41,42,43] rfl<|uO [] Int ?_;intro b3 hb3;have h15:RL I [] ([]:List Int):=rfl;refine yC 6 [] [45,46] rfl<|bE N fun x2 bi N=>oH 1 rfl rfl rfl h8 bi ?_;intro ad2 bP bb bM bk;obtain ⟨v04,rfl,h16⟩:=bk;obtain ⟨p14,bz,rfl⟩:=h16.form;refine zAX 1 0 bb bM [vS p14 x2 bz] (vS p14 x2 bz) rfl rfl ?_;obtain ⟨ccs3,k01,k02⟩:=h16;have h16:SL I (vS p14 x2 bz) x2:=⟨_,k01,k02⟩;obtain ⟨l,bu,N⟩:=zB N;refine sO 3 1 0 rfl rfl rfl h15 (.inl k01) k02 bu fun p15 c14 cs7 h17=>sE (zY [0,1,2,3] (ah:=[hO Int (vS p15 l c14) cs7,hO (List Int) (vS p7 y c6) aR,hO zK (vS bc bo c9) bI,hB b (cProg p p1 c p2 c1)]))<|yC 10 [] [50] rfl<|xI 0 rfl ?_;intro aW ae hl0;have h18:=SL.of_frozen hl0 ae h17;have ⟨h8,h11,h,h1,H⟩:=m5 ae h8 h11 h h1 H;refine uO [vI i,vI s,vS p15 l c14] zK ?_;intro b4 hb4;have h19:RL aW [vI i,vI s,vS p15 l c14] ([(zK.mk i s l)]:List zK):=⟨[vI i,vI s,vS p15 l c14],_,rfl,rfl,(zAu ⟨_,rfl,h18⟩),rfl⟩;obtain ⟨out6,bJ,N⟩:=zB N;exact sO 86 3 2 rfl rfl rfl h11 (.inr ⟨0,rfl⟩) h19 bJ fun p16 c15 cs8 h20=>sE (zY [1,2,3] (ah:=[hO (List Int) (vS p7 y c6) aR,hO zK (vS p16 out6 c15) cs8,hB b (cProg p p1 c p2 c1)]))<|yI [] [3] rfl<|zN<|zH<|zJ<|yI [] [7] rfl<|yM<|nT<|ih out6 (W (s+1)) _ N H h8 h h1 h20 hg ho hx
 intro aZ N;exact wL<|yN<|hx _ _ _ _ _ (zC N).symm H h11
def wZ (p:zD) (i:Int) (y:(List (List Int))) (au:List zK) (k0:Int):Option (List zK):=do
 if (decide (k0<(y.length:Int))) then
  let out5<-wY p i y k0 au 0
  wZ p i y out5 (W (k0+1))
 else
  pure (id au)
 partial_fixpoint
theorem zC7 (p:zD) (i:Int) (y:(List (List Int))):∀ (au:List zK) (k0:Int) (o:List zK),wZ p i y au k0=some o->∀ {B}{I0 I:Imm}{Q p1 c p2 c1}{b:Nat}{p7 c6 aR p8 c7 aS},I0.le I->(RL I aR y)->(S4 I p1 p.Arrays c)->(S4 I p2 p.Parts c1)->(RL I aS au)->NG Q->NO Q->(∀ (I':Imm) (aN:List zK) (p9:Option Addr) (c8:Nat) (bB:List Value),o=aN->I0.le I'->(RL I' bB aN)->T 54 B Q (.exit 2) I' [hO zK (vS p9 aN c8) bB,hB b (cProg p p1 c p2 c1)] [(1,vP b 0),(3,vS p9 aN c8),(4,vI i)])->J Tryz.prog 54 B (nav (bodyOf f36) [1,1,0,1,0,0,1,0,0,1,1,0]) Q I [hO (List Int) (vS p7 y c6) aR,hO zK (vS p8 au c7) aS,hB b (cProg p p1 c p2 c1)] [(1,vP b 0),(3,vS p8 au c7),(4,vI i),(5,vS p7 y c6),(6,vI k0)]:=by
 refine wZ.partial_correctness p i y _ fun aI ih au k0 o N B I0 I Q p1 c p2 c1 b p7 c6 aR p8 c7 aS H h8 h h1 h9 hg ho hx=>yO hg ho<|yB<|yG [27] rfl<|zH<|yE N ?_ ?_
 · intro aH N;refine zT<|zZ<|yH<|yG [7] rfl<|xY<|qI [(1,vP b 0),(3,vS p8 au c7),(4,vI i),(5,vS p7 y c6),(6,vI k0),(7,vI 0)] ?_;obtain ⟨o0,aD,aM⟩:=zB N;refine zC6 p i y k0 au 0 o0 aD iR h8 h h1 h9 (fun _ _ _ h=>hg _ _ _ h) (fun _ _ h=>ho _ _ h) ?_;intro aX out5 aT bj cs6 heq aF h12;subst o0;have ⟨h8,h,h1,H⟩:=m4 aF h8 h h1 H;exact zS<|zN<|zH<|zJ<|yI [] [6] rfl<|yM<|nT<|ih out5 (W (k0+1)) _ aM H h8 h h1 h12 hg ho hx
 intro aH N;exact wL<|xR (zX [1,2] rfl (by decide))<|yN<|hx _ _ _ _ _ (zC N).symm H h9
def vC (p:zD) (out:List zK) (i:Int):Option (List zK):=do
 if (decide (i<(p.Parts.length:Int))) then
  let x<-idx p.Parts i
  let y<-uH ([]:List (List Int)) x.Nest ([]:List Int)
  let aN<-wZ p i y out 0
  vC p aN (W (i+1))
 else
  pure (id out)
 partial_fixpoint
theorem zC8 (p:zD):∀ (out:List zK) (i:Int) (o:List zK),vC p out i=some o->∀ {B}{I0 I:Imm}{Q p1 c p2 c1}{b:Nat}{p3 c2 cs},I0.le I->(S4 I p1 p.Arrays c)->(S4 I p2 p.Parts c1)->(RL I cs out)->NG Q->NO Q->(∀ (I':Imm) (aj:List zK) (p4:Option Addr) (c3:Nat) (az:List Value),o=aj->I0.le I'->(RL I' az aj)->T 54 B Q (.exit 0) I' [hO zK (vS p4 aj c3) az] [(3,vS p4 aj c3)])->J Tryz.prog 54 B (nav (bodyOf f36) [1,1,0,1,0]) Q I [hO zK (vS p3 out c2) cs,hB b (cProg p p1 c p2 c1)] [(1,vP b 0),(3,vS p3 out c2),(4,vI i)]:=by
 refine vC.partial_correctness p _ fun aI ih out i o N B I0 I Q p1 c p2 c1 b p3 c2 cs H h h1 h3 hg ho hx=>yO hg ho<|yB<|yF<|yI [1] [13] rfl<|zH<|yE N ?_ ?_
 · intro hc N;refine zT<|zZ<|yH<|yF<|uO [] (List Int) ?_;intro b2 hb2;have h5:RL I [] ([]:List (List Int)):=rfl;refine yC 4 [2] [18,19] rfl<|bE N fun x hy N=>xL rfl rfl h1 hy ?_;intro ad aP aq am;obtain ⟨p5,c4,p6,c5,rfl,h6,h7⟩:=wU am;refine yC 6 [] [21] rfl<|xE 0 aq [vS p5 x.Nest c4] (vS p5 x.Nest c4) rfl<|bE N fun y aA N=>tY (zCC ([]:List (List Int)) x.Nest ([]:List Int) _ aA h5 h6 (SL.nil _)) rfl ?_;rintro I0 ay v2 k2 le - ⟨p7,c6,aR,rfl,rfl,h8⟩ -;have ⟨h3,h,h1,H⟩:=m4 le h3 h h1 H;refine yI [] [5] rfl<|wP [6] rfl<|xY<|qI [(1,vP b 0),(3,vS p3 out c2),(4,vI i),(5,vS p7 y c6),(6,vI 0)] ?_;obtain ⟨aQ,aB,hMl1⟩:=zB N;refine zC7 p i y out 0 aQ aB iR h8 h h1 h3 (fun _ _ _ h=>hg _ _ _ h) (fun _ _ h=>ho _ _ h) ?_;intro bG aN p9 c8 bB heq1 aJ h10;subst aQ;have ⟨h,h1,H⟩:=m3 aJ h h1 H;exact zS<|zN<|zH<|zJ<|yI [] [4] rfl<|yM<|nT<|ih aN (W (i+1)) _ hMl1 H h h1 h10 hg ho hx
 intro hc N;exact wL<|xR (zX [0] rfl (by decide))<|yN<|hx _ _ _ _ _ (zC N).symm H h3
def pG (p:zD):Option ((List zK)):=do
 let aj<-vC p ([]:List zK) 0
 pure (id aj)
theorem zDz:∀ p r,pG p=some r->∀ {I:Imm}{p1 c p2 c1},(S4 I p1 p.Arrays c)->(S4 I p2 p.Parts c1)->RT 36 [vA (cProg p p1 c p2 c1)] I [] (zCz  r):=by
 intro p r N I p1 c p2 c1 h h1;unfold pG at N;refine yK func36 fun B=>yF<|tT (cProg p p1 c p2 c1) ?_;intro b hb;refine wI [] []<|yV<|uO [] zK ?_;intro b1 hb1;have h2:RL I [] ([]:List zK):=rfl;refine yI [] [3] rfl<|zZ<|yG [4] rfl<|xY<|qI [(1,vP b 0),(3,vS (some ⟨b1,0,none⟩) ([]:List zK) 0),(4,vI 0)] ?_;obtain ⟨o02,ho02,hMl2⟩:=zB N;refine zC8 p ([]:List zK) 0 o02 ho02 iR h h1 h2 (fun _ _ _ h=>h) (fun _ _ h=>h) ?_;intro bL aj p4 c3 az heq2 bd h4;subst o02;refine zS<|wP [2] rfl<|xD<|yX 0 rfl ?_;intro bR bw hl01;have h21:=SL.of_frozen hl01 bw h4;obtain rfl:=zC hMl2;exact xA ⟨_,_,(.tmp rfl ResV.nil),zQ,⟨_,rfl,rfl,h21⟩⟩
def zFe (r:(List Int)):KT:=fun kk I' ah v=>
  ∃ a0 c0 s0,ah=[.osl (.slice a0 r.length c0) (Rp.sz Int) s0]/\v=tupV [(.slice a0 r.length c0)]/\RepL (Rp.rep I') (Rp.sz Int) s0 r
def qF (list:(List zK)) (from0:Int) (to0:Int) (out:List Int) (i:Int):Option (List Int):=do
 if (decide (i<(list.length:Int))) then
  let t31<-(do
    let x<-idx list i
    if (decide (x.Part>=from0)) then
     let x1<-idx list i
     pure (decide (x1.Part<to0))
    else
     pure false
      : Option Bool)
  let au<-(do
    if t31 then
     let aN<-app 8 out ([i]:List Int)
     pure (id aN)
    else
     pure (id out)
      : Option (List Int))
  qF list from0 to0 au (W (i+1))
 else
  pure (id out)
 partial_fixpoint
theorem zEe (list:(List zK)) (from0:Int) (to0:Int):∀ (out:List Int) (i:Int) (o:List Int),qF list from0 to0 out i=some o->∀ {B}{I0 I:Imm}{Q p c p1 c1 cs},I0.le I->(S4 I p list c)->(RL I cs out)->NG Q->NO Q->(∀ (I':Imm) (aj:List Int) (p2:Option Addr) (c2:Nat) (az:List Value),o=aj->I0.le I'->(RL I' az aj)->T 37 B Q (.exit 0) I' [hO Int (vS p2 aj c2) az] [(7,vS p2 aj c2)])->J Tryz.prog 37 B (nav (bodyOf f37) [1,1,0,1,0]) Q I [hO Int (vS p1 out c1) cs] [(0,vS p list c),(1,vI from0),(2,vI to0),(7,vS p1 out c1),(8,vI i)]:=by
 refine qF.partial_correctness list from0 to0 _ fun aI ih out i o N B I0 I Q p c p1 c1 cs H h h2 hg ho hx=>yO hg ho<|yB<|yG [13] rfl<|zH<|yE N ?_ ?_
 · intro hc N;refine zT<|zZ<|yH<|yB ?_;refine wR N [hO Int (vS p1 out c1) cs] (fun t31=>[(0,vS p list c),(1,vI from0),(2,vI to0),(7,vS p1 out c1),(8,vI i),(31,.bool t31)]) (fun o0 aD=>?_) ?_
   · have H:=iS I;refine zJ<|yC 2 [] [16,17] rfl ?_;obtain ⟨x,hy,N⟩:=zB aD;refine xL rfl rfl h hy ?_;intro ad aP aq am;obtain ⟨p3,c3,rfl,h4⟩:=vR am;refine yC 4 [] [19] rfl<|xE 0 aq [vI x.Part] (vI x.Part) rfl<|yC 8 [] [23] rfl<|xW [23] N ?_ ?_
     · intro aH N;refine yC 10 [] [24,25] rfl<|bE N fun x1 aA N=>xL rfl rfl h aA ?_;intro ad1 bv av ax;obtain ⟨p4,c4,rfl,h5⟩:=vR ax;exact yC 12 [] [27] rfl<|xE 0 av [vI x1.Part] (vI x1.Part) rfl<|yI [] [31] rfl<|yN<|zV (ct N H)
     intro aH N;exact wI [] [(31,vF)]<|yN<|zV (ct N H)
   intro t31 I0 le aV;have ⟨h,h2,H⟩:=m3 le h h2 H;refine zH ?_;obtain ⟨aQ,aB,hMc1⟩:=zB aV;refine qV (fun I' ah m'=>∃ (au:List Int) (p5:Option Addr) (c5:Nat) (aR:List Value),aQ=au/\I0.le I'/\(RL I' aR au)/\ah=[hO Int (vS p5 au c5) aR]/\m'=[(0,vS p list c),(1,vI from0),(2,vI to0),(7,vS p5 au c5),(8,vI i)]) ?_ ?_
   · have H:=iS I0;refine yE aB ?_ ?_
     · intro aZ N;refine zJ<|yC 2 [] [32,33] rfl<|uO [vI i] Int ?_;intro b1 hb1;have h7:RL I0 [vI i] ([i]:List Int):=rI [i];obtain ⟨aN,aK,N⟩:=zB N;exact sO 3 1 1 rfl rfl rfl h2 (.inr ⟨0,rfl⟩) h7 aK fun p6 c6 aS h8=>sE (zY [1] (ah:=[hO Int (vS p6 aN c6) aS]))<|yI [] [7] rfl<|yN<|zV ⟨_,_,_,_,(zC N).symm,H,h8,rfl,rfl⟩
     intro aZ N;exact zT<|yN<|zV ⟨_,_,_,_,(zC N).symm,H,h2,rfl,rfl⟩
   rintro aW ay m2 ⟨au,p5,c5,aR,heq1,ae,h6,rfl,rfl⟩;subst aQ;have ⟨h,H⟩:=m2 ae h H;exact zN<|zH<|zJ<|yI [] [8] rfl<|yM<|nT<|ih au (W (i+1)) _ hMc1 H h h6 hg ho hx
 intro hc N;exact wL<|yN<|hx _ _ _ _ _ (zC N).symm H h2
def gI (list:(List zK)) (from0:Int) (to0:Int):Option ((List Int)):=do
 let aj<-qF list from0 to0 ([]:List Int) 0
 pure (id aj)
theorem zCn:∀ list from0 to0 r,gI list from0 to0=some r->∀ {I:Imm}{p c},(S4 I p list c)->RT 37 [vS p list c,vI from0,vI to0] I [] (zFe  r):=by
 intro list from0 to0 r N I p c h;unfold gI at N;refine yK func37 fun B=>wQ []<|yV<|uO [] Int ?_;intro b hb;have h1:RL I [] ([]:List Int):=rfl;refine yI [] [7] rfl<|zZ<|yG [8] rfl<|xY<|qI [(0,vS p list c),(1,vI from0),(2,vI to0),(7,vS (some ⟨b,0,none⟩) ([]:List Int) 0),(8,vI 0)] ?_;obtain ⟨o02,ho02,aM⟩:=zB N;refine zEe list from0 to0 ([]:List Int) 0 o02 ho02 iR h h1 (fun _ _ _ h=>h) (fun _ _ h=>h) ?_;intro aX aj p2 c2 az heq2 aF h3;subst o02;refine zS<|wP [6] rfl<|zH<|yY ?_;obtain rfl:=zC aM;exact xA ⟨_,_,(.tmp rfl ResV.nil),(zX [0] rfl (by decide)),⟨_,_,_,rfl,rfl,h3⟩⟩
def nP (a0:(List Int)) (b:(List Int)) (i:Int):Option (Out Unit (Bool)):=do
 if (decide (i<(a0.length:Int))) then
  let x<-idx a0 i
  let x1<-idx b i
  if (x != x1) then
   pure (.ret false)
  else
   nP a0 b (W (i+1))
 else
  pure (.done ())
 partial_fixpoint
theorem zFf (a0:(List Int)) (b:(List Int)):∀ (i:Int) (o:Out Unit (Bool)),nP a0 b i=some o->∀ {B}{I0 I:Imm}{Q p c p1 c1},I0.le I->(S4 I p a0 c)->(S4 I p1 b c1)->NG Q->NO Q->(∀ (I':Imm) ,o=(.done ())->I0.le I'->T 26 B Q (.exit 0) I' [] [])->(∀ r I' ah m',o=(.ret r)->I0.le I'->RS Tryz.prog f76 B (zU  r) I' ah m'->T 26 B Q .ret I' ah m')->J Tryz.prog 26 B (nav (bodyOf f76) [1,1,0,1,0]) Q I [] [(0,vS p a0 c),(1,vS p1 b c1),(5,vI i)]:=by
 refine nP.partial_correctness a0 b _ fun aI ih i o N B I0 I Q p c p1 c1 H h h1 hg ho hx hr=>yO hg ho<|yB<|yG [14] rfl<|zH<|yE N ?_ ?_
 · intro aH N;refine zT<|zZ<|yH<|yB<|kI (by kernel_rfl) (by kernel_rfl)<|fP 2 [] [17,18] rfl<|bE N fun x hy N=>dW rfl rfl h hy ?_;intro ad aP aq am;obtain rfl:=am;refine fA 0 aq [vI x] (vI x) rfl<|fP 6 [] [21,22] rfl<|bE N fun x1 aA N=>dW rfl rfl h1 aA ?_;intro ad1 bv av ax;obtain rfl:=ax;refine fA 0 av [vI x1] (vI x1) rfl<|zGr [] [25] rfl<|zH<|yE N ?_ ?_
   · intro aZ N;exact wQ [(4,vF)]<|xD<|zW<|zG<|zG<|hr _ _ _ _ (zC N).symm H ⟨_,_,(.tmp rfl ResV.nil),zQ,⟨_,rfl,rfl,rfl⟩⟩
   intro aZ N;exact zT<|zN<|zH<|zJ<|yI [] [5] rfl<|yM<|nT<|ih (W (i+1)) _ N H h h1 hg ho hx hr
 intro aH N;exact wL<|yN<|hx _  (zC N).symm H
def fI (a0:(List Int)) (b:(List Int)):Option (Bool):=do
 if ((a0.length:Int) != (b.length:Int)) then
  pure false
 else
  match<-nP a0 b 0 with
  | .ret r0=>pure r0
  | .done _ =>
   pure true
theorem zD0:∀ a0 b r,fI a0 b=some r->∀ {I:Imm}{p c p1 c1},(S4 I p a0 c)->(S4 I p1 b c1)->RT 76 [vS p a0 c,vS p1 b c1] I [] (zU  r):=by
 intro a0 b r N I p c p1 c1 h h1;unfold fI at N;refine yK func76 fun B=>wQ []<|zZ<|yG [10] rfl<|zH<|yE N ?_ ?_
 · intro hc N;refine wQ [(4,vF)]<|xD<|zG ?_;obtain rfl:=zC N;exact wF
 intro hc N;refine zT<|zZ<|yG [5] rfl<|xY<|qI [(0,vS p a0 c),(1,vS p1 b c1),(5,vI 0)] ?_;obtain ⟨o0,aD,aM⟩:=zB N;refine zFf a0 b 0 o0 aD iR h h1 (fun _ _ _ h=>h) (fun _ _ h=>h) ?_ ?_
 · intro I0  heq le;subst o0;refine zS<|zFB [(4,vY)]<|zH<|yY ?_;obtain rfl:=zC aM;exact wF
 intro r0 I9 hs9 m9 aY le9 ba;subst aY;refine zW<|zG ?_;obtain rfl:=zC aM;exact xA ba
def fO (r:(List (List Int))):KT:=fun kk I' ah v=>
  ∃ v0,ah=[]/\v=tupV [v0]/\SL I' v0 r
def qG (list:(List zK)) (group:(List Int)) (n0:Int) (out:List (List Int)) (i:Int):Option (List (List Int)):=do
 if (decide (i<(group.length:Int))) then
  let x<-idx group i
  let x1<-idx list x
  let l<-slc x1.Point 0 n0
  let t40<-(do
    if ((out.length:Int)==0) then
     pure true
    else
     let x2<-idx out (W ((out.length:Int) - 1))
     let y<-fI x2 l
     pure (!y)
      : Option Bool)
  let au<-(do
    if t40 then
     let aN<-app 24 out ([l]:List (List Int))
     pure (id aN)
    else
     pure (id out)
      : Option (List (List Int)))
  qG list group n0 au (W (i+1))
 else
  pure (id out)
 partial_fixpoint
theorem zEf (list:(List zK)) (group:(List Int)) (n0:Int):∀ (out:List (List Int)) (i:Int) (o:List (List Int)),qG list group n0 out i=some o->∀ {B}{I0 I:Imm}{Q p c p1 c1 p2 c2 cs},I0.le I->(S4 I p list c)->(S4 I p1 group c1)->(RL I cs out)->NG Q->NO Q->(∀ (I':Imm) (aj:List (List Int)) (p3:Option Addr) (c3:Nat) (az:List Value),o=aj->I0.le I'->(RL I' az aj)->T 46 B Q (.exit 0) I' [hO (List Int) (vS p3 aj c3) az] [(7,vS p3 aj c3)])->J Tryz.prog 46 B (nav (bodyOf f38) [1,1,0,1,0]) Q I [hO (List Int) (vS p2 out c2) cs] [(0,vS p list c),(1,vS p1 group c1),(2,vI n0),(7,vS p2 out c2),(8,vI i)]:=by
 refine qG.partial_correctness list group n0 _ fun aI ih out i o N B I0 I Q p c p1 c1 p2 c2 cs H h h1 h3 hg ho hx=>yO hg ho<|yB<|yG [14] rfl<|zH<|yE N ?_ ?_
 · intro hc N;refine zT<|zZ<|yH<|yF<|yC 3 [] [17,18,19] rfl<|bE N fun x hy N=>xL rfl rfl h1 hy ?_;intro ad aP aq am;obtain rfl:=am;refine xE 0 aq [vI x] (vI x) rfl<|bE N fun x1 aA N=>xL rfl rfl h aA ?_;intro ad1 bv av ax;obtain ⟨p4,c4,rfl,h5⟩:=vR ax;refine yC 7 [] [23] rfl<|xE 2 av [vS p4 x1.Point c4] (vS p4 x1.Point c4) rfl<|yC 9 [] [25] rfl<|bE N fun l aK N=>zKZ rfl h5 aK ?_;intro v01 h6;obtain ⟨p5,c5,rfl⟩:=h6.form;refine yI [] [9] rfl<|zH<|yB ?_;refine wR N [hO (List Int) (vS p2 out c2) cs] (fun t40=>[(0,vS p list c),(1,vS p1 group c1),(2,vI n0),(7,vS p2 out c2),(8,vI i),(9,vS p5 l c5),(40,.bool t40)]) (fun o0 aD=>?_) ?_
   · have H:=iS I;refine zJ<|yC 4 [] [30] rfl<|xW [30] aD ?_ ?_
     · intro aH N;exact wI [] [(40,vY)]<|yN<|zV (ct N H)
     intro aH N;refine yC 8 [] [31,34] rfl<|bE N fun x2 bi N=>oH 0 rfl rfl rfl h3 bi ?_;intro ad2 bP bb bM bk;obtain ⟨v02,rfl,h7⟩:=bk;obtain ⟨p6,c6,rfl⟩:=h7.form;refine zAX 0 0 bb bM [vS p6 x2 c6] (vS p6 x2 c6) rfl rfl<|yC 11 [] [37] rfl<|bE N fun y bu N=>vU (zD0 x2 l _ bu h7 h6) ?_;intro aW le;have H:=H.trans le;exact yI [] [40] rfl<|yN<|zV (ct N H)
   intro t40 I0 ae aV;have ⟨h,h1,h3,h6,H⟩:=m5 ae h h1 h3 h6 H;refine zH ?_;obtain ⟨aQ,aB,hMc1⟩:=zB aV;refine qV (fun I' ah m'=>∃ (au:List (List Int)) (p7:Option Addr) (c7:Nat) (aR:List Value),aQ=au/\I0.le I'/\(RL I' aR au)/\ah=[hO (List Int) (vS p7 au c7) aR]/\m'=[(0,vS p list c),(1,vS p1 group c1),(2,vI n0),(7,vS p7 au c7),(8,vI i)]) ?_ ?_
   · have H:=iS I0;refine yE aB ?_ ?_
     · intro aZ N;refine zJ<|yC 2 [] [41,42] rfl<|uO [vS p5 l c5] (List Int) ?_;intro b1 hb1;have h10:RL I0 [vS p5 l c5] ([l]:List (List Int)):=⟨[vS p5 l c5],_,rfl,rfl,⟨_,rfl,h6⟩,rfl⟩;obtain ⟨aN,bJ,N⟩:=zB N;exact sO 27 1 1 rfl rfl rfl h3 (.inr ⟨0,rfl⟩) h10 bJ fun p8 c8 aS h11=>sE (zY [1] (ah:=[hO (List Int) (vS p8 aN c8) aS]))<|yI [] [7] rfl<|yN<|zV ⟨_,_,_,_,(zC N).symm,H,h11,rfl,rfl⟩
     intro aZ N;exact zT<|yN<|zV ⟨_,_,_,_,(zC N).symm,H,h3,rfl,rfl⟩
   rintro aX ay m2 ⟨au,p7,c7,aR,heq1,aF,h9,rfl,rfl⟩;subst aQ;have ⟨h,h1,H⟩:=m3 aF h h1 H;exact zN<|zH<|zJ<|yI [] [8] rfl<|yM<|nT<|ih au (W (i+1)) _ hMc1 H h h1 h9 hg ho hx
 intro hc N;exact wL<|yN<|hx _ _ _ _ _ (zC N).symm H h3
def gJ (list:(List zK)) (group:(List Int)) (n0:Int):Option ((List (List Int))):=do
 let aj<-qG list group n0 ([]:List (List Int)) 0
 pure (id aj)
theorem zCo:∀ list group n0 r,gJ list group n0=some r->∀ {I:Imm}{p c p1 c1},(S4 I p list c)->(S4 I p1 group c1)->RT 38 [vS p list c,vS p1 group c1,vI n0] I [] (fO  r):=by
 intro list group n0 r N I p c p1 c1 h h1;unfold gJ at N;refine yK func38 fun B=>wQ []<|yV<|uO [] (List Int) ?_;intro b hb;have h2:RL I [] ([]:List (List Int)):=rfl;refine yI [] [7] rfl<|zZ<|yG [8] rfl<|xY<|qI [(0,vS p list c),(1,vS p1 group c1),(2,vI n0),(7,vS (some ⟨b,0,none⟩) ([]:List (List Int)) 0),(8,vI 0)] ?_;obtain ⟨o02,ho02,aM⟩:=zB N;refine zEf list group n0 ([]:List (List Int)) 0 o02 ho02 iR h h1 h2 (fun _ _ _ h=>h) (fun _ _ h=>h) ?_;intro bG aj p3 c3 az heq2 aJ h4;subst o02;refine zS<|wP [6] rfl<|xD<|yX 0 rfl ?_;intro bL bd hl0;have h12:=SL.of_frozen hl0 bd h4;obtain rfl:=zC aM;exact xA ⟨_,_,(.tmp rfl ResV.nil),zQ,⟨_,rfl,rfl,h12⟩⟩
def zFg (r:(List Int)):KT:=fun kk I' ah v=>
  ∃ v0,ah=[]/\v=tupV [v0]/\SL I' v0 r
def qH (list:(List zK)) (part:Int) (prefix0:(List Int)) (out:List Int) (i:Int):Option (List Int):=do
 if (decide (i<(list.length:Int))) then
  let t34<-(do
    let x<-idx list i
    if (x.Part==part) then
     let x1<-idx list i
     let l<-slc x1.Point 0 (prefix0.length:Int)
     let y<-fI l prefix0
     pure (id y)
    else
     pure false
      : Option Bool)
  let au<-(do
    if t34 then
     let aN<-app 8 out ([i]:List Int)
     pure (id aN)
    else
     pure (id out)
      : Option (List Int))
  qH list part prefix0 au (W (i+1))
 else
  pure (id out)
 partial_fixpoint
theorem zEg (list:(List zK)) (part:Int) (prefix0:(List Int)):∀ (out:List Int) (i:Int) (o:List Int),qH list part prefix0 out i=some o->∀ {B}{I0 I:Imm}{Q p c p1 c1 p2 c2 cs},I0.le I->(S4 I p list c)->(S4 I p1 prefix0 c1)->(RL I cs out)->NG Q->NO Q->(∀ (I':Imm) (aj:List Int) (p3:Option Addr) (c3:Nat) (az:List Value),o=aj->I0.le I'->(RL I' az aj)->T 40 B Q (.exit 0) I' [hO Int (vS p3 aj c3) az] [(7,vS p3 aj c3)])->J Tryz.prog 40 B (nav (bodyOf f39) [1,1,0,1,0]) Q I [hO Int (vS p2 out c2) cs] [(0,vS p list c),(1,vI part),(2,vS p1 prefix0 c1),(7,vS p2 out c2),(8,vI i)]:=by
 refine qH.partial_correctness list part prefix0 _ fun aI ih out i o N B I0 I Q p c p1 c1 p2 c2 cs H h h1 h3 hg ho hx=>yO hg ho<|yB<|yG [13] rfl<|zH<|yE N ?_ ?_
 · intro hc N;refine zT<|zZ<|yH<|yB ?_;refine wR N [hO Int (vS p2 out c2) cs] (fun t34=>[(0,vS p list c),(1,vI part),(2,vS p1 prefix0 c1),(7,vS p2 out c2),(8,vI i),(34,.bool t34)]) (fun o0 aD=>?_) ?_
   · have H:=iS I;refine zJ<|yC 2 [] [16,17] rfl ?_;obtain ⟨x,hy,N⟩:=zB aD;refine xL rfl rfl h hy ?_;intro ad aP aq am;obtain ⟨p4,c4,rfl,h5⟩:=vR am;refine yC 4 [] [19] rfl<|xE 0 aq [vI x.Part] (vI x.Part) rfl<|yC 8 [] [23] rfl<|xW [23] N ?_ ?_
     · intro aH N;refine yC 10 [] [24,25] rfl<|bE N fun x1 aA N=>xL rfl rfl h aA ?_;intro ad1 bv av ax;obtain ⟨p5,c5,rfl,h6⟩:=vR ax;refine yC 12 [] [27] rfl<|xE 2 av [vS p5 x1.Point c5] (vS p5 x1.Point c5) rfl<|yC 15 [] [30] rfl<|bE N fun l aK N=>zKZ rfl h6 aK ?_;intro v02 h7;obtain ⟨p6,c6,rfl⟩:=h7.form;refine yC 17 [] [32] rfl<|bE N fun y bi N=>vU (zD0 l prefix0 _ bi h7 h1) ?_;intro aW le;have H:=H.trans le;exact yI [] [34] rfl<|yN<|zV (ct N H)
     intro aH N;exact wI [] [(34,vF)]<|yN<|zV (ct N H)
   intro t34 I0 ae aV;have ⟨h,h1,h3,H⟩:=m4 ae h h1 h3 H;refine zH ?_;obtain ⟨aQ,aB,hMc1⟩:=zB aV;refine qV (fun I' ah m'=>∃ (au:List Int) (p7:Option Addr) (c7:Nat) (aR:List Value),aQ=au/\I0.le I'/\(RL I' aR au)/\ah=[hO Int (vS p7 au c7) aR]/\m'=[(0,vS p list c),(1,vI part),(2,vS p1 prefix0 c1),(7,vS p7 au c7),(8,vI i)]) ?_ ?_
   · have H:=iS I0;refine yE aB ?_ ?_
     · intro aZ N;refine zJ<|yC 2 [] [35,36] rfl<|uO [vI i] Int ?_;intro b1 hb1;have h10:RL I0 [vI i] ([i]:List Int):=rI [i];obtain ⟨aN,bu,N⟩:=zB N;exact sO 3 1 1 rfl rfl rfl h3 (.inr ⟨0,rfl⟩) h10 bu fun p8 c8 aS h11=>sE (zY [1] (ah:=[hO Int (vS p8 aN c8) aS]))<|yI [] [7] rfl<|yN<|zV ⟨_,_,_,_,(zC N).symm,H,h11,rfl,rfl⟩
     intro aZ N;exact zT<|yN<|zV ⟨_,_,_,_,(zC N).symm,H,h3,rfl,rfl⟩
   rintro aX ay m2 ⟨au,p7,c7,aR,heq1,aF,h9,rfl,rfl⟩;subst aQ;have ⟨h,h1,H⟩:=m3 aF h h1 H;exact zN<|zH<|zJ<|yI [] [8] rfl<|yM<|nT<|ih au (W (i+1)) _ hMc1 H h h1 h9 hg ho hx
 intro hc N;exact wL<|yN<|hx _ _ _ _ _ (zC N).symm H h3
def rD (list:(List zK)) (part:Int) (prefix0:(List Int)):Option ((List Int)):=do
 let aj<-qH list part prefix0 ([]:List Int) 0
 pure (id aj)
theorem zAd:∀ list part prefix0 r,rD list part prefix0=some r->∀ {I:Imm}{p c p1 c1},(S4 I p list c)->(S4 I p1 prefix0 c1)->RT 39 [vS p list c,vI part,vS p1 prefix0 c1] I [] (zFg  r):=by
 intro list part prefix0 r N I p c p1 c1 h h1;unfold rD at N;refine yK func39 fun B=>wQ []<|yV<|uO [] Int ?_;intro b hb;have h2:RL I [] ([]:List Int):=rfl;refine yI [] [7] rfl<|zZ<|yG [8] rfl<|xY<|qI [(0,vS p list c),(1,vI part),(2,vS p1 prefix0 c1),(7,vS (some ⟨b,0,none⟩) ([]:List Int) 0),(8,vI 0)] ?_;obtain ⟨o02,ho02,aM⟩:=zB N;refine zEg list part prefix0 ([]:List Int) 0 o02 ho02 iR h h1 h2 (fun _ _ _ h=>h) (fun _ _ h=>h) ?_;intro bG aj p3 c3 az heq2 aJ h4;subst o02;refine zS<|wP [6] rfl<|xD<|yX 0 rfl ?_;intro bL bd hl0;have h12:=SL.of_frozen hl0 bd h4;obtain rfl:=zC aM;exact xA ⟨_,_,(.tmp rfl ResV.nil),zQ,⟨_,rfl,rfl,h12⟩⟩
def kY (choices:(List Int)) (n0:Int) (many:Int):Option (Int):=do
 if ((choices.length:Int)==0) then
  pure (id 0)
 else
  let q<-rem n0 (choices.length:Int)
  let x<-idx choices q
  let q1<-rem x many
  if (decide (q1<0)) then
   pure (id 0)
  else
   pure (id q1)
theorem zG7:∀ choices n0 many r,kY choices n0 many=some r->∀ {I:Imm}{p c},(S4 I p choices c)->RT 40 [vS p choices c,vI n0,vI many] I [] (yQ  r):=by
 intro choices n0 many r N I p c h;unfold kY at N;refine yK func40 fun B=>wQ []<|zZ<|yG [10] rfl<|zH<|yE N ?_ ?_
 · intro hc N;refine yG [6] rfl<|xD<|zG ?_;obtain rfl:=zC N;exact wF
 intro hc N;refine zT<|yV<|yC 4 [] [11,12,14] rfl<|bE N fun q hy N=>zMi rfl hy<|bE N fun x aA N=>xL rfl rfl h aA ?_;intro ad aP aq am;obtain rfl:=am;refine xE 0 aq [vI x] (vI x) rfl<|yC 8 [] [18] rfl<|bE N fun q1 aK N=>zMi rfl aK<|yI [] [7] rfl<|zZ<|yG [21] rfl<|zH<|yE N ?_ ?_
 · intro aH N;refine yG [6] rfl<|xD<|zG ?_;obtain rfl:=zC N;exact wF
 intro aH N;refine zT<|wP [6] rfl<|zH<|yY ?_;obtain rfl:=zC N;exact wF
def uB (part:Int) (choices:(List Int)) (y1:(List zK)) (au:List Int) (n01:Int) (rest:List (List Int)):Option ((List Int×Int)):=do
 if (decide ((rest.length:Int)>0)) then
  let y7<-kY choices n01 (rest.length:Int)
  let x1<-idx rest y7
  let y8<-rD y1 part x1
  let bo<-app 8 au y8
  let l<-slc rest 0 y7
  let l1<-app 24 ([]:List (List Int)) l
  let l2<-slc rest (W (y7+1)) (rest.length:Int)
  let rest1<-app 24 l1 l2
  uB part choices y1 bo (W (n01+1)) rest1
 else
  pure (au,n01)
 partial_fixpoint
set_option maxHeartbeats 4000000 in
theorem zBl (part:Int) (choices:(List Int)) (y1:(List zK)):∀ (au:List Int) (n01:Int) (rest:List (List Int)) (o:(List Int×Int)),uB part choices y1 au n01 rest=some o->∀ {B}{I0 I:Imm}{Q}{p:zD}{loop:Int}{y4:(List (List Int))}{i:Int}{p1 c p2 c1 p3 c2}{b:Nat}{p4 c3 p7 c6 bt br aS p14 bz},I0.le I->(S4 I p3 choices c2)->(S4 I p4 y1 c3)->(S4 I p7 y4 c6)->(S4 I p1 p.Arrays c)->(S4 I p2 p.Parts c1)->(RL I aS au)->(S4 I p14 rest bz)->NG Q->NO Q->(∀ (I':Imm) (aN:List Int) (n02:Int) (p15:Option Addr) (c14:Nat) (bB:List Value),o=(aN,n02)->I0.le I'->(RL I' bB aN)->T 89 B Q (.exit 2) I' [hO Int (vS p15 aN c14) bB,hB b (cProg p p1 c p2 c1)] [(1,vI part),(2,vI loop),(3,vS p3 choices c2),(4,vP b 0),(10,vS p4 y1 c3),(11,vS p15 aN c14),(12,vS p7 y4 c6),(13,vI n02),(14,vI i)])->J Tryz.prog 89 B (nav (bodyOf f11) [1,1,1,1,1,1,0,1,0,0,1,0,0,1,0]) Q I [hO Int (vS bt au br) aS,hB b (cProg p p1 c p2 c1)] [(1,vI part),(2,vI loop),(3,vS p3 choices c2),(4,vP b 0),(10,vS p4 y1 c3),(11,vS bt au br),(12,vS p7 y4 c6),(13,vI n01),(14,vI i),(15,vS p14 rest bz)]:=by
 refine uB.partial_correctness part choices y1 _ fun aI ih au n01 rest o N B I0 I Q p loop y4 i p1 c p2 c1 p3 c2 b p4 c3 p7 c6 bt br aS p14 bz H h2 h6 h9 h h1 h15 h16 hg ho hx=>yO hg ho<|yB<|yG [53] rfl<|zH<|yE N ?_ ?_
 · intro aZ N;refine zT<|xY<|yF<|yC 4 [] [54,55,57] rfl<|bE N fun y7 hy8 N=>fB (zG7 choices n01 (rest.length:Int) _ hy8 h2) ?_;intro I08 le8;have ⟨h2,h6,h15,h9,h16,h⟩:=m6 le8 h2 h6 h15 h9 h16 h;have ⟨h1,H⟩:=m2 le8 h1 H;refine yI [] [16] rfl<|wP [13] rfl<|yV<|yC 5 [] [61,62,63,64,65] rfl<|bE N fun x1 hy9 N=>xL rfl rfl h16 hy9 ?_;intro ad1 bv av ax;obtain ⟨v08,rfl,h19⟩:=ax;obtain ⟨p16,c15,rfl⟩:=h19.form;refine xE 0 av [vS p16 x1 c15] (vS p16 x1 c15) rfl<|bE N fun y8 hy10 N=>xM (zAd y1 part x1 _ hy10 h6 h19) ?_;rintro I09 ay v2 k2 le9 - ⟨v09,rfl,rfl,h20⟩ -;have ⟨h2,h6,h9,h16,h15,h⟩:=m6 le9 h2 h6 h9 h16 h15 h;have ⟨h1,H⟩:=m2 le9 h1 H;obtain ⟨p17,c16,rfl⟩:=h20.form;obtain ⟨bP,k0,k01⟩:=h20;have h20:SL I09 (vS p17 y8 c16) y8:=⟨_,k0,k01⟩;obtain ⟨bo,hy11,N⟩:=zB N;refine sO 3 1 0 rfl rfl rfl h15 (.inl k0) k01 hy11 fun p18 c17 bI h21=>sE (zY [0,1] (ah:=[hO Int (vS p18 bo c17) bI,hB b (cProg p p1 c p2 c1)]))<|yI [] [11] rfl<|zH ?_;obtain ⟨l,hy12,N⟩:=zB N;obtain ⟨l1,hy13,N⟩:=zB N;obtain ⟨l2,hy14,N⟩:=zB N;obtain ⟨rest1,hy15,N⟩:=zB N;refine wT [.x (fun I' v hx=>∃ b2,v=vS (some ⟨b2,0,none⟩) ([]:List (List Int)) 0/\hx=[hO (List Int) (vS (some ⟨b2,0,none⟩) ([]:List (List Int)) 0) []]/\(RL I' [] ([]:List (List Int)))),.p (vS p14 rest bz) [],.p (vI y7) [],.x (eS l),.x (fun I' v hx=>∃ p20 c19 cs6,v=vS p20 l1 c19/\hx=[hO (List Int) (vS p20 l1 c19) cs6]/\(RL I' cs6 l1)),.p (vS p14 rest bz) [],.p (vI y7) [],.p (vI (W (y7+1))) [],.x (eS l2),.x (fun I' v hx=>∃ p22 c21 cs7,v=vS p22 rest1 c21/\hx=[hO (List Int) (vS p22 rest1 c21) cs7]/\(RL I' cs7 rest1))] [[],[],[],[(1,false),(2,false)],[(0,true),(3,false)],[],[],[(6,false)],[(5,false),(7,false)],[(4,true),(8,false)]] [hO Int (vS p18 bo c17) bI,hB b (cProg p p1 c p2 c1)] [] [(9,true)] (zY [0,1]) ?_ ?_
   · refine Ox ?_<|Op<|Op<|Ox ?_<|Ox ?_<|Op<|Op<|Op<|Ox ?_<|Ox ?_<|On
     · intro I1 hf ae;refine I_h []<|uO [] (List Int) ?_;intro b2 hb2;have h22:RL I1 [] ([]:List (List Int)):=rfl;exact yL [hO (List Int) (vS (some ⟨b2,0,none⟩) ([]:List (List Int)) 0) []] iR ⟨_,rfl,rfl,h22⟩
     · intro I1 hf ae;refine yW [71,72] rfl ?_;have h16:=h16.mono ae;refine zKZ rfl h16 hy12 ?_;intro v010 h23;obtain ⟨p19,c18,rfl⟩:=h23.form;exact yL [] iR ⟨_,_,rfl,rfl,h23⟩
     · rintro I1 hf ae _ _ ⟨b2,rfl,rfl,h22⟩ _ _ ⟨p19,c18,rfl,rfl,h23⟩;refine yW [70,73] rfl ?_;obtain ⟨ccs3,k02,k03⟩:=h23;have h23:SL I1 (vS p19 l c18) l:=⟨_,k02,k03⟩;exact sO 27 1 0 rfl rfl rfl h22 (.inl k02) k03 hy13 fun p20 c19 cs6 h24=>wK (ah:=(hO (List Int) (vS p20 l1 c19) cs6::hO Int (vS p18 bo c17) bI::hB b (cProg p p1 c p2 c1)::hf)) rfl<|yL [hO (List Int) (vS p20 l1 c19) cs6] iR ⟨_,_,_,rfl,rfl,h24⟩
     · intro I1 hf ae;refine yW [75,77] rfl ?_;have h16:=h16.mono ae;refine zKZ rfl h16 hy14 ?_;intro v011 h25;obtain ⟨p21,c20,rfl⟩:=h25.form;exact yL [] iR ⟨_,_,rfl,rfl,h25⟩
     rintro I1 hf ae _ _ ⟨p20,c19,cs6,rfl,rfl,h24⟩ _ _ ⟨p21,c20,rfl,rfl,h25⟩;refine yW [74,78] rfl ?_;obtain ⟨ccs4,k04,k05⟩:=h25;have h25:SL I1 (vS p21 l2 c20) l2:=⟨_,k04,k05⟩;exact sO 27 1 0 rfl rfl rfl h24 (.inl k04) k05 hy15 fun p22 c21 cs7 h26=>wK (ah:=(hO (List Int) (vS p22 rest1 c21) cs7::hO Int (vS p18 bo c17) bI::hB b (cProg p p1 c p2 c1)::hf)) rfl<|yL [hO (List Int) (vS p22 rest1 c21) cs7] iR ⟨_,_,_,rfl,rfl,h26⟩
   rintro bS le10 _ _ ⟨p22,c21,cs7,rfl,rfl,h26⟩;refine yW [1,2,3,4,10,11,12,13,14,79] rfl ?_;have ⟨h2,h6,h21,h9,h,h1⟩:=m6 le10 h2 h6 h21 h9 h h1;have H:=H.trans le10;refine yI [] [15] rfl<|zN<|yM<|qK 0 rfl ?_;intro bY le11 hl01;have h27:=SL.of_frozen hl01 le11 h26;have ⟨h2,h6,h21,h9,h,h1⟩:=m6 le11 h2 h6 h21 h9 h h1;have H:=H.trans le11;exact nT<|ih bo (W (n01+1)) rest1 _ N H h2 h6 h9 h h1 h21 h27 hg ho hx
 intro aZ N;exact wL<|yN<|hx _ _ _ _ _ _ (zC N).symm H h15
def tL (part:Int) (loop:Int) (choices:(List Int)) (y1:(List zK)) (y4:(List (List Int))) (out:List Int) (n0:Int) (i:Int):Option (List Int):=do
 if (decide (i<(y4.length:Int))) then
  let x<-idx y4 i
  let y5<-rD y1 part x
  let y6<-gJ y1 y5 (W (loop+1))
  let (aN,n02)<-uB part choices y1 out n0 y6
  tL part loop choices y1 y4 aN n02 (W (i+1))
 else
  pure (id out)
 partial_fixpoint
set_option maxHeartbeats 4000000 in
theorem zBm (part:Int) (loop:Int) (choices:(List Int)) (y1:(List zK)) (y4:(List (List Int))):∀ (out:List Int) (n0:Int) (i:Int) (o:List Int),tL part loop choices y1 y4 out n0 i=some o->∀ {B}{I0 I:Imm}{Q}{p:zD}{p1 c p2 c1 p3 c2}{b:Nat}{p4 c3 p7 c6 p8 c7 az},I0.le I->(S4 I p3 choices c2)->(S4 I p4 y1 c3)->(S4 I p7 y4 c6)->(S4 I p1 p.Arrays c)->(S4 I p2 p.Parts c1)->(RL I az out)->NG Q->NO Q->(∀ (I':Imm) (aj:List Int) (p9:Option Addr) (c8:Nat) (aR:List Value),o=aj->I0.le I'->(RL I' aR aj)->T 89 B Q (.exit 0) I' [hO Int (vS p9 aj c8) aR,hB b (cProg p p1 c p2 c1)] [(1,vI part),(4,vP b 0),(10,vS p4 y1 c3),(11,vS p9 aj c8)])->J Tryz.prog 89 B (nav (bodyOf f11) [1,1,1,1,1,1,0,1,0]) Q I [hO Int (vS p8 out c7) az,hB b (cProg p p1 c p2 c1)] [(1,vI part),(2,vI loop),(3,vS p3 choices c2),(4,vP b 0),(10,vS p4 y1 c3),(11,vS p8 out c7),(12,vS p7 y4 c6),(13,vI n0),(14,vI i)]:=by
 refine tL.partial_correctness part loop choices y1 y4 _ fun aI ih out n0 i o N B I0 I Q p p1 c p2 c1 p3 c2 b p4 c3 p7 c6 p8 c7 az H h2 h6 h9 h h1 h10 hg ho hx=>yO hg ho<|yB<|yG [37] rfl<|zH<|yE N ?_ ?_
 · intro aH N;refine zT<|zZ<|yH<|yF<|yC 5 [] [40,41,42,43,44] rfl<|bE N fun x bJ N=>xL rfl rfl h9 bJ ?_;intro ad aP aq am;obtain ⟨v04,rfl,h12⟩:=am;obtain ⟨bc,c9,rfl⟩:=h12.form;refine xE 0 aq [vS bc x c9] (vS bc x c9) rfl<|bE N fun y5 hy6 N=>xM (zAd y1 part x _ hy6 h6 h12) ?_;rintro I06 ay v2 k2 bC - ⟨v05,rfl,rfl,h13⟩ -;have ⟨h2,h6,h10,h9,h,h1⟩:=m6 bC h2 h6 h10 h9 h h1;have H:=H.trans bC;obtain ⟨aT,bj,rfl⟩:=h13.form;refine yC 10 [] [49] rfl<|bE N fun y6 hy7 N=>xM (zCo y1 y5 (W (loop+1)) _ hy7 h6 h13) ?_;rintro I07 ay v2 k2 le7 - ⟨v06,rfl,rfl,h14⟩ -;have ⟨h2,h6,h10,h9,h,h1⟩:=m6 le7 h2 h6 h10 h9 h h1;have H:=H.trans le7;obtain ⟨bD,bf,rfl⟩:=h14.form;refine yI [] [15] rfl<|xY<|qI [(1,vI part),(2,vI loop),(3,vS p3 choices c2),(4,vP b 0),(10,vS p4 y1 c3),(11,vS p8 out c7),(12,vS p7 y4 c6),(13,vI n0),(14,vI i),(15,vS bD y6 bf)] ?_;obtain ⟨o0,aD,aM⟩:=zB N;refine zBl part choices y1 out n0 y6 o0 aD iR h2 h6 h9 h h1 h10 h14 (fun _ _ _ h=>hg _ _ _ h) (fun _ _ h=>ho _ _ h) ?_;intro bX aN n02 p15 c14 bB heq le12 h17;subst o0;have ⟨h2,h6,h9,h,h1,H⟩:=m6 le12 h2 h6 h9 h h1 H;exact zS<|zN<|zH<|zJ<|yI [] [14] rfl<|yM<|nT<|ih aN n02 (W (i+1)) _ aM H h2 h6 h9 h h1 h17 hg ho hx
 intro aH N;exact wL<|yN<|hx _ _ _ _ _ (zC N).symm H h10
def mE (p:zD) (part:Int) (loop:Int) (choices:(List Int)):Option ((List Int)×Bool):=do
 let y<-zAH p part loop
 if (!y) then
  pure (([]:List Int),false)
 else
  let y1<-pG p
  let y2<-gI y1 0 part
  let y3<-rD y1 part ([]:List Int)
  let y4<-gJ y1 y3 loop
  let aj<-tL part loop choices y1 y4 y2 0 0
  let y9<-gI y1 (W (part+1)) (p.Parts.length:Int)
  let t8<-app 8 aj y9
  pure (t8,true)
theorem zDA:∀ p part loop choices r,mE p part loop choices=some r->∀ {I:Imm}{p1 c p2 c1 p3 c2},(S4 I p1 p.Arrays c)->(S4 I p2 p.Parts c1)->(S4 I p3 choices c2)->RT 11 [vA (cProg p p1 c p2 c1),vI part,vI loop,vS p3 choices c2] I [] (dX  r):=by
 intro p part loop choices r N I p1 c p2 c1 p3 c2 h h1 h2;unfold mE at N;refine yK func11 fun B=>yF<|tT (cProg p p1 c p2 c1) ?_;intro b hb;refine wI [] []<|zZ<|yF<|rH 3 [0] [(17,vA (cProg p p1 c p2 c1)),(18,vI part),(19,vI loop)]<|bE N fun y hy N=>vU (zIg p part loop _ hy h h1) ?_;intro I0 le;have ⟨h2,h,h1⟩:=m3 le h2 h h1;refine yI [] [21] rfl<|zH<|yE N ?_ ?_
 · intro hc N;refine yF<|uO [] Int ?_;intro b1 hb1;have h4:RL I0 [] ([]:List Int):=rfl;refine yI [] [8,9] rfl<|xD<|zG<|yX 0 rfl ?_;intro aW ae hl0;have h5:=SL.of_frozen hl0 ae h4;obtain rfl:=zC N;exact xA ⟨_,_,(.tmp rfl (.tmp rfl ResV.nil)),zQ,⟨_,_,rfl,rfl,h5,rfl⟩⟩
 intro hc N;refine zT<|yV<|rH 1 [0] [(23,vA (cProg p p1 c p2 c1))]<|bE N fun y1 aA N=>xM (zDz p _ aA h h1) ?_;rintro aX ay v2 k2 aF - ⟨v01,rfl,rfl,h6⟩ -;have ⟨h2,h,h1⟩:=m3 aF h2 h h1;obtain ⟨p4,c3,rfl⟩:=h6.form;refine yI [] [10] rfl<|yV<|yC 2 [] [25,26] rfl<|bE N fun y2 aK N=>xM (zCn y1 0 part _ aK h6) ?_;rintro bG ay v2 k2 aJ - ⟨p5,c4,cs,rfl,rfl,h7⟩ -;have ⟨h2,h6,h,h1⟩:=m4 aJ h2 h6 h h1;refine yI [] [11] rfl<|yV<|yC 3 [] [28,29,30] rfl<|bE N fun y3 bi N=>xM (zAd y1 part ([]:List Int) _ bi h6 (SL.nil _)) ?_;rintro bL ay v2 k2 bd - ⟨v02,rfl,rfl,h8⟩ -;have ⟨h2,h6,h7,h,h1⟩:=m5 bd h2 h6 h7 h h1;obtain ⟨p6,c5,rfl⟩:=h8.form;refine yC 5 [] [32] rfl<|bE N fun y4 bu N=>xM (zCo y1 y3 loop _ bu h6 h8) ?_;rintro bR ay v2 k2 bw - ⟨v03,rfl,rfl,h9⟩ -;have ⟨h2,h6,h7,h,h1⟩:=m5 bw h2 h6 h7 h h1;obtain ⟨p7,c6,rfl⟩:=h9.form;refine yI [] [12] rfl<|wP [13] rfl<|zZ<|yG [14] rfl<|xY<|qI [(1,vI part),(2,vI loop),(3,vS p3 choices c2),(4,vP b 0),(10,vS p4 y1 c3),(11,vS p5 y2 c4),(12,vS p7 y4 c6),(13,vI 0),(14,vI 0)] ?_;obtain ⟨aQ,aB,hMl1⟩:=zB N;refine zBm part loop choices y1 y4 y2 0 0 aQ aB iR h2 h6 h9 h h1 h7 (fun _ _ _ h=>h) (fun _ _ h=>h) ?_;intro I013 aj p9 c8 aR heq1 le13 h11;subst aQ;have h6:=h6.mono le13;refine zS<|yV<|yC 7 [1] [80,81,83,86] rfl ?_;obtain ⟨y9,hy16,N⟩:=zB hMl1;refine xM (zCn y1 (W (part+1)) (p.Parts.length:Int) _ hy16 h6) ?_;rintro I014 ay v2 k2 le14 - ⟨p23,c22,cs8,rfl,rfl,h28⟩ -;have h11:=iM le14 h11;obtain ⟨t8,hy17,N⟩:=zB N;refine sO 3 1 1 rfl rfl rfl h11 (.inr ⟨0,rfl⟩) h28 hy17 fun p24 c23 cs9 h29=>sE (zY [1,2] (ah:=[hO Int (vS p24 t8 c23) cs9,hB b (cProg p p1 c p2 c1)]))<|yI [] [8,9] rfl<|xD<|yX 0 rfl ?_;intro I015 le15 hl02;have h30:=SL.of_frozen hl02 le15 h29;obtain rfl:=zC N;exact xA ⟨_,_,(.tmp rfl (.tmp rfl ResV.nil)),zQ,⟨_,_,rfl,rfl,h30,rfl⟩⟩
def nQ (a0:(List Int)) (b:(List Int)) (i:Int):Option (Out Unit (Bool)):=do
 if (decide (i<(a0.length:Int))) then
  let x<-idx a0 i
  let x1<-idx b i
  if (x != x1) then
   pure (.ret false)
  else
   nQ a0 b (W (i+1))
 else
  pure (.done ())
 partial_fixpoint
theorem zFh (a0:(List Int)) (b:(List Int)):∀ (i:Int) (o:Out Unit (Bool)),nQ a0 b i=some o->∀ {B}{I0 I:Imm}{Q p c p1 c1},I0.le I->(S4 I p a0 c)->(S4 I p1 b c1)->NG Q->NO Q->(∀ (I':Imm) ,o=(.done ())->I0.le I'->T 26 B Q (.exit 0) I' [] [])->(∀ r I' ah m',o=(.ret r)->I0.le I'->RS Tryz.prog f12 B (zU  r) I' ah m'->T 26 B Q .ret I' ah m')->J Tryz.prog 26 B (nav (bodyOf f12) [1,1,0,1,0]) Q I [] [(0,vS p a0 c),(1,vS p1 b c1),(5,vI i)]:=by
 refine nQ.partial_correctness a0 b _ fun aI ih i o N B I0 I Q p c p1 c1 H h h1 hg ho hx hr=>yO hg ho<|yB<|yG [14] rfl<|zH<|yE N ?_ ?_
 · intro aH N;refine zT<|zZ<|yH<|yB<|kI (by kernel_rfl) (by kernel_rfl)<|fP 2 [] [17,18] rfl<|bE N fun x hy N=>dW rfl rfl h hy ?_;intro ad aP aq am;obtain rfl:=am;refine fA 0 aq [vI x] (vI x) rfl<|fP 6 [] [21,22] rfl<|bE N fun x1 aA N=>dW rfl rfl h1 aA ?_;intro ad1 bv av ax;obtain rfl:=ax;refine fA 0 av [vI x1] (vI x1) rfl<|zGr [] [25] rfl<|zH<|yE N ?_ ?_
   · intro aZ N;exact wQ [(4,vF)]<|xD<|zW<|zG<|zG<|hr _ _ _ _ (zC N).symm H ⟨_,_,(.tmp rfl ResV.nil),zQ,⟨_,rfl,rfl,rfl⟩⟩
   intro aZ N;exact zT<|zN<|zH<|zJ<|yI [] [5] rfl<|yM<|nT<|ih (W (i+1)) _ N H h h1 hg ho hx hr
 intro aH N;exact wL<|yN<|hx _  (zC N).symm H
def fJ (a0:(List Int)) (b:(List Int)):Option (Bool):=do
 if ((a0.length:Int) != (b.length:Int)) then
  pure false
 else
  match<-nQ a0 b 0 with
  | .ret r0=>pure r0
  | .done _ =>
   pure true
theorem zD1:∀ a0 b r,fJ a0 b=some r->∀ {I:Imm}{p c p1 c1},(S4 I p a0 c)->(S4 I p1 b c1)->RT 12 [vS p a0 c,vS p1 b c1] I [] (zU  r):=by
 intro a0 b r N I p c p1 c1 h h1;unfold fJ at N;refine yK func12 fun B=>wQ []<|zZ<|yG [10] rfl<|zH<|yE N ?_ ?_
 · intro hc N;refine wQ [(4,vF)]<|xD<|zG ?_;obtain rfl:=zC N;exact wF
 intro hc N;refine zT<|zZ<|yG [5] rfl<|xY<|qI [(0,vS p a0 c),(1,vS p1 b c1),(5,vI 0)] ?_;obtain ⟨o0,aD,aM⟩:=zB N;refine zFh a0 b 0 o0 aD iR h h1 (fun _ _ _ h=>h) (fun _ _ h=>h) ?_ ?_
 · intro I0  heq le;subst o0;refine zS<|zFB [(4,vY)]<|zH<|yY ?_;obtain rfl:=zC aM;exact wF
 intro r0 I9 hs9 m9 aY le9 ba;subst aY;refine zW<|zG ?_;obtain rfl:=zC aM;exact xA ba
def oD (order:(List Int)) (many:Int) (met1:List Bool) (t12:Int):Option (Out Unit (Bool)):=do
 if (decide (t12<(order.length:Int))) then
  let x<-idx order t12
  let t26<-(do
    let y<-wC x 0 (W (many - 1))
    if (!y) then
     pure true
    else
     let x1<-idx met1 x
     pure (id x1)
      : Option Bool)
  if t26 then
   pure (.ret false)
  else
   let x2<-idx met1 x
   let l<-pure (met1.set x.toNat true)
   oD order many l (W (t12+1))
 else
  pure (.done ())
 partial_fixpoint
theorem zEh (order:(List Int)) (many:Int):∀ (met1:List Bool) (t12:Int) (o:Out Unit (Bool)),oD order many met1 t12=some o->∀ {B}{I0 I:Imm}{Q p c p1 c1 az},I0.le I->(S4 I p order c)->(RL I az met1)->NG Q->NO Q->(∀ (I':Imm) ,o=(.done ())->I0.le I'->T 35 B Q (.exit 0) I' [] [(0,vS p order c),(1,vI many)])->(∀ r I' ah m',o=(.ret r)->I0.le I'->RS Tryz.prog f42 B (zU  r) I' ah m'->T 35 B Q .ret I' ah m')->J Tryz.prog 35 B (nav (bodyOf f42) [1,1,0,1,0]) Q I [hO Bool (vS p1 met1 c1) az] [(0,vS p order c),(1,vI many),(5,vS p1 met1 c1),(10,vS p order c),(11,vI (order.length:Int)),(12,vI t12)]:=by
 refine oD.partial_correctness order many _ fun aI ih met1 t12 o N B I0 I Q p c p1 c1 az H h h2 hg ho hx hr=>yO hg ho<|yG [13] rfl<|zZ<|yE N ?_ ?_
 · intro hc N;refine zT<|zZ<|yH<|yF<|bE N fun x aA N=>xL rfl rfl h aA ?_;intro ad aP aq am;obtain rfl:=am;refine xE 0 aq [vI x] (vI x) rfl<|yI [] [7] rfl<|zZ<|yB ?_;refine wR N [hO Bool (vS p1 met1 c1) az] (fun t26=>[(0,vS p order c),(1,vI many),(5,vS p1 met1 c1),(7,vI x),(10,vS p order c),(11,vI (order.length:Int)),(12,vI t12),(26,.bool t26)]) (fun o0 aD=>?_) ?_
   · have H:=iS I;refine zJ<|yC 3 [] [16,18] rfl ?_;obtain ⟨y,aK,N⟩:=zB aD;refine vU (wJ x 0 (W (many - 1)) _ aK ) ?_;intro aW le;have ⟨h2,H⟩:=m2 le h2 H;refine yC 6 [] [21] rfl<|xW [21] N ?_ ?_
     · intro aH N;exact wI [] [(26,vY)]<|yN<|zV (ct N H)
     intro aH N;refine yC 8 [] [22,23] rfl<|bE N fun x1 bi N=>oH 0 rfl rfl rfl h2 bi ?_;intro ad1 bv av bM ax;obtain rfl:=ax;exact zAX 0 0 av bM [.bool x1] (.bool x1) rfl rfl<|yI [] [26] rfl<|yN<|zV (ct N H)
   intro t26 I0 ae aV;have ⟨h,h2,H⟩:=m3 ae h h2 H;refine zH<|yE aV ?_ ?_
   · intro aZ N;exact wQ [(4,vF)]<|xD<|zG<|zW<|zG<|zG<|hr _ _ _ _ (zC N).symm H ⟨_,_,(.tmp rfl ResV.nil),zQ,⟨_,rfl,rfl,rfl⟩⟩
   intro aZ N;refine zT<|zH<|zJ<|yC 2 [] [27,28] rfl<|bE N fun x2 bu N=>oH 0 rfl rfl rfl h2 bu ?_;intro ad2 bP bb hcc1 bk;obtain rfl:=bk;obtain ⟨l,bJ,N⟩:=zB N;refine tW (c:=[vY]) (x':=true) 0 0 rfl rfl rfl bb rfl rfl hcc1 (by kernel_rfl) (by kernel_rfl) (by kernel_rfl) h2 bu (by kernel_rfl) rfl ?_;rw [show met1.set x.toNat true=l from zC bJ];intro aR h4 hl0;exact kH (m':=[(0,vS p order c),(1,vI many),(5,vS p1 met1 c1),(10,vS p order c),(11,vI (order.length:Int)),(12,vI t12),(27,vS p1 met1 c1),(28,vI x)]) ⟨rfl,rfl,rfl,rfl,rfl,rfl,rfl,rfl,trivial⟩<|zA5 (ah:=[hO Bool (vS p1 l c1) aR]) (m':=[(0,vS p order c),(1,vI many),(5,vS p1 l c1),(10,vS p order c),(11,vI (order.length:Int)),(12,vI t12),(27,vS p1 l c1),(28,vI x)]) (by first | rfl | simp only [vS,hl0,cu,dj,dq,dg,cY,cZ]) (by first | rfl | simp only [vS,hl0])<|yD rfl<|zN<|zH<|zJ<|yI [] [12] rfl<|yM<|nT<|ih l (W (t12+1)) _ N H h h4 hg ho hx hr
 intro hc N;exact wL<|xR zQ<|yN<|hx _  (zC N).symm H
def eI (order:(List Int)) (many:Int):Option (Bool):=do
 let met<-mkrow 1 many (false:Bool)
 match<-oD order many met 0 with
 | .ret r0=>pure r0
 | .done _ =>
  pure ((order.length:Int)==many)
theorem zHJ:∀ order many r,eI order many=some r->∀ {I:Imm}{p c},(S4 I p order c)->RT 42 [vS p order c,vI many] I [] (zU  r):=by
 intro order many r N I p c h;unfold eI at N;refine yK func42 fun B=>wQ []<|yV<|yC 1 [] [8] rfl<|bE N fun met hy N=>zP9 1 [vF] rfl hy rfl fun b cs h1=>yI [] [5] rfl<|zZ<|yG [10,11,12] rfl<|xY<|qI [(0,vS p order c),(1,vI many),(5,vS (some ⟨b,0,none⟩) met met.length),(10,vS p order c),(11,vI (order.length:Int)),(12,vI 0)] ?_;obtain ⟨aQ,aB,aM⟩:=zB N;refine zEh order many met 0 aQ aB iR h h1 (fun _ _ _ h=>h) (fun _ _ h=>h) ?_ ?_
 · intro aX  heq1 aF;subst aQ;refine zS<|wP [4] rfl<|zH<|yY ?_;obtain rfl:=zC aM;exact wF
 intro r0 I9 hs9 m9 aY le9 ba;subst aY;refine zW<|zG ?_;obtain rfl:=zC aM;exact xA ba
def oE (p:zD) (order:(List Int)):Option (Bool):=do
 let (y1,y2)<-sK p
 let t4<-(do
   if y2 then
    let y3<-eI order (y1.length:Int)
    pure (id y3)
   else
    pure false
     : Option Bool)
 pure (id t4)
theorem zBG:∀ p order r,oE p order=some r->∀ {I:Imm}{p1 c p2 c1 p3 c2},(S4 I p1 p.Arrays c)->(S4 I p2 p.Parts c1)->(S4 I p3 order c2)->RT 13 [vA (cProg p p1 c p2 c1),vS p3 order c2] I [] (zU  r):=by
 intro p order r N I p1 c p2 c1 p3 c2 h h1 h2;unfold oE at N;refine yK func13 fun B=>?_;have H:=iS I;refine yF<|tT (cProg p p1 c p2 c1) ?_;intro b hb;refine wI [] []<|yV<|rH 1 [0] [(8,vA (cProg p p1 c p2 c1))] ?_;obtain ⟨⟨y1,y2⟩,hy,N⟩:=zB N;refine xM (eQ p _ hy h h1) ?_;rintro I0 ay v2 k2 le - ⟨v0,v01,rfl,rfl,h3,rfl⟩ -;have ⟨h2,H⟩:=m2 le h2 H;obtain ⟨p4,c3,rfl⟩:=h3.form;refine yI [] [5,6] rfl<|zH<|yB ?_;refine wR N [] (fun t4=>[(4,.bool t4)]) (fun o0 aD=>?_) ?_
 · have H:=iS I0;refine zJ<|yC 2 [] [13] rfl<|xW [13] aD ?_ ?_
   · intro hc N;refine yC 5 [] [14,16] rfl<|bE N fun y3 aA N=>vU (zHJ order (y1.length:Int) _ aA h2) ?_;intro aX ae;have H:=H.trans ae;exact yI [] [4] rfl<|xR zQ<|yN<|zV (ct N H)
   intro hc N;exact wI [] [(4,vF)]<|xR zQ<|yN<|zV (ct N H)
 intro t4 aW aF aV;refine zH<|yY ?_;obtain rfl:=zC aV;exact wF
def uF (s:(List Int)) (v0:Int) (t8:Int):Option (Out Unit (Int)):=do
 if (decide (t8<(s.length:Int))) then
  let x<-idx s t8
  if (v0==x) then
   pure (.ret t8)
  else
   uF s v0 (W (t8+1))
 else
  pure (.done ())
 partial_fixpoint
theorem zBH (s:(List Int)) (v0:Int):∀ (t8:Int) (o:Out Unit (Int)),uF s v0 t8=some o->∀ {B}{I0 I:Imm}{Q p c},I0.le I->(S4 I p s c)->NG Q->NO Q->(∀ (I':Imm) ,o=(.done ())->I0.le I'->T 19 B Q (.exit 0) I' [] [])->(∀ r I' ah m',o=(.ret r)->I0.le I'->RS Tryz.prog f180 B (yQ  r) I' ah m'->T 19 B Q .ret I' ah m')->J Tryz.prog 19 B (nav (bodyOf f180) [1,0,1,0]) Q I [] [(0,vS p s c),(1,vI v0),(7,vI (s.length:Int)),(8,vI t8)]:=by
 refine uF.partial_correctness s v0 _ fun aI ih t8 o N B I0 I Q p c H h hg ho hx hr=>yO hg ho<|yG [9] rfl<|zZ<|yE N ?_ ?_
 · intro hc N;refine zT<|zZ<|yH<|yG [5] rfl<|yV<|yC 3 [] [11,12,13] rfl<|bE N fun x hy N=>xL rfl rfl h hy ?_;intro ad aP aq am;obtain rfl:=am;refine xE 0 aq [vI x] (vI x) rfl<|yI [] [16] rfl<|zH<|yE N ?_ ?_
   · intro aH N;exact yG [4] rfl<|xD<|zW<|zG<|zG<|hr _ _ _ _ (zC N).symm H ⟨_,_,(.tmp rfl ResV.nil),zQ,⟨_,rfl,rfl,rfl⟩⟩
   intro aH N;exact zT<|zN<|zH<|zJ<|yI [] [8] rfl<|yM<|nT<|ih (W (t8+1)) _ N H h hg ho hx hr
 intro hc N;exact wL<|yN<|hx _  (zC N).symm H
def mV (s:(List Int)) (v0:Int):Option (Int):=do
 match<-uF s v0 0 with
 | .ret r0=>pure r0
 | .done _ =>
  pure (-1)
theorem zCO:∀ s v0 r,mV s v0=some r->∀ {I:Imm}{p c},(S4 I p s c)->RT 180 [vS p s c,vI v0] I [] (yQ  r):=by
 intro s v0 r N I p c h;unfold mV at N;refine yK func180 fun B=>wQ []<|zZ<|yG [7,8] rfl<|xY<|qI [(0,vS p s c),(1,vI v0),(7,vI (s.length:Int)),(8,vI 0)] ?_;obtain ⟨o0,aD,aM⟩:=zB N;refine zBH s v0 0 o0 aD iR h (fun _ _ _ h=>h) (fun _ _ h=>h) ?_ ?_
 · intro I0  heq le;subst o0;refine zS<|wP [4] rfl<|zH<|yY ?_;obtain rfl:=zC aM;exact wF
 intro r0 I9 hs9 m9 aY le9 ba;subst aY;refine zW<|zG ?_;obtain rfl:=zC aM;exact xA ba
def tU (s:(List Int)) (v0:Int):Option (Bool):=do
 let y<-mV s v0
 pure (decide (y>=0))
theorem eJ:∀ s v0 r,tU s v0=some r->∀ {I:Imm}{p c},(S4 I p s c)->RT 140 [vS p s c,vI v0] I [] (zU  r):=by
 intro s v0 r N I p c h;unfold tU at N;refine yK func140 fun B=>wQ []<|yV<|yC 2 [] [5,6] rfl<|bE N fun y hy N=>fB (zCO s v0 _ hy h) fun I0 le=>wI [] [(4,.bool (decide (y>=0)))]<|zH<|yY ?_;obtain rfl:=zC N;exact wF
def oW (t:xT) (from0:Int) (to0:Int):Option (Int):=do
 let x<-idx t.reads to0
 let x1<-idx t.writes from0
 let y<-tU x x1
 let kinds<-(do
   if y then
    pure (W (0+1))
   else
    pure (id 0)
     : Option Int)
 let x2<-idx t.reads from0
 let x3<-idx t.writes to0
 let y1<-tU x2 x3
 let kinds1<-(do
   if y1 then
    pure (W (kinds+2))
   else
    pure (id kinds)
     : Option Int)
 let x4<-idx t.writes from0
 let x5<-idx t.writes to0
 let kinds2<-(do
   if (x4==x5) then
    pure (W (kinds1+4))
   else
    pure (id kinds1)
     : Option Int)
 pure (id kinds2)
theorem zC9:∀ t from0 to0 r,oW t from0 to0=some r->∀ {I:Imm}{ad:Addr}{p c p1 c1 p2 c2 p3 c3 p4 c4},(S4 I p t.Program.Arrays c)->(S4 I p1 t.Program.Parts c1)->(S4 I p2 t.list c2)->(S4 I p3 t.reads c3)->(S4 I p4 t.writes c4)->(At I ad [vS p t.Program.Arrays c,vS p1 t.Program.Parts c1,vS p2 t.list c2,vS p3 t.reads c3,vS p4 t.writes c4])->RT 94 [.pointer (some ad),vI from0,vI to0] I [] (yQ  r):=by
 intro t from0 to0 r N I ad p c p1 c1 p2 c2 p3 c3 p4 c4 h h1 h2 h3 h4 aq;unfold oW at N;refine yK func94 fun B=>?_;have H:=iS I;refine wQ []<|wP [7] rfl<|zZ<|yB ?_;obtain ⟨x,hy,N⟩:=zB N;obtain ⟨x1,aA,N⟩:=zB N;obtain ⟨y,aK,N⟩:=zB N;refine wT [.p (.pointer (some ad)) [],.p (.pointer (some ad)) [],.p (.pointer (some (ad.add 3))) [],.q (vS p3 t.reads c3),.p (vI to0) [],.x (fun I' v hx=>∃ ad1 p5 c5,v=.pointer (some ad1)/\hx=[]/\(At I' ad1 [vS p5 x c5])/\(S4 I' p5 x c5)),.x (eS x),.p (.pointer (some ad)) [],.p (.pointer (some ad)) [],.p (.pointer (some (ad.add 4))) [],.q (vS p4 t.writes c4),.p (vI from0) [],.x (fun I' v hx=>∃ ad2,v=.pointer (some ad2)/\hx=[]/\(At I' ad2 [vI x1])),.q (vI x1),.q (.bool y)] [[],[(0,false)],[(1,false)],[(2,false)],[],[(3,false),(4,false)],[(5,false)],[],[(7,false)],[(8,false)],[(9,false)],[],[(10,false),(11,false)],[(12,false)],[(6,false),(13,false)]] [] [] [(14,false)] zQ ?_ ?_
 · refine Op<|Op<|Op<|Oq ?_<|Op<|Ox ?_<|Ox ?_<|Op<|Op<|Op<|Oq ?_<|Op<|Ox ?_<|Oq ?_<|Oq ?_<|On
   · intro I1 hf ae;refine yW [10] rfl ?_;have aq:=aq.mono ae;exact xE 3 aq [vS p3 t.reads c3] (vS p3 t.reads c3) rfl<|xF iR
   · intro I1 hf ae;refine yW [11,12] rfl ?_;have h3:=h3.mono ae;refine xL rfl rfl h3 hy ?_;intro ad1 aP av am;obtain ⟨v0,rfl,h5⟩:=am;obtain ⟨p5,c5,rfl⟩:=h5.form;exact yL [] iR ⟨_,_,_,rfl,rfl,av,h5⟩
   · rintro I1 hf ae _ _ ⟨ad1,p5,c5,rfl,rfl,av,h5⟩;exact yW [13] rfl<|xE 0 av [vS p5 x c5] (vS p5 x c5) rfl<|yL [] iR ⟨_,_,rfl,rfl,h5⟩
   · intro I1 hf ae;refine yW [17] rfl ?_;have aq:=aq.mono ae;exact xE 4 aq [vS p4 t.writes c4] (vS p4 t.writes c4) rfl<|xF iR
   · intro I1 hf ae;refine yW [18,19] rfl ?_;have h4:=h4.mono ae;refine xL rfl rfl h4 aA ?_;intro ad2 bv bb ax;obtain rfl:=ax;exact yL [] iR ⟨_,rfl,rfl,bb⟩
   · rintro I1 hf ae _ _ ⟨ad2,rfl,rfl,bb⟩;exact yW [20] rfl<|xE 0 bb [vI x1] (vI x1) rfl<|xF iR
   rintro I1 hf ae _ _ ⟨p51,c51,rfl,rfl,h51⟩;refine yW [14,21] rfl ?_;have H:=iS I1;refine vU (eJ x x1 _ aK h51) ?_;intro I0 le;have H:=H.trans le;exact xF H
 intro aW ae;refine yW [0,1,2,7,22] rfl ?_;have ⟨h3,h4,aq,H⟩:=m4 ae h3 h4 aq H;refine yD rfl<|zH ?_;refine wR N [] (fun kinds=>[(0,.pointer (some ad)),(1,vI from0),(2,vI to0),(7,vI kinds)]) (fun o0 aD=>?_) ?_
 · have H:=iS aW;refine yE aD ?_ ?_
   · intro hc N;exact zJ<|yI [] [7] rfl<|yN<|zV (ct N H)
   intro hc N;exact zT<|yN<|zV (ct N H)
 intro kinds aX aF aV;have ⟨h3,h4,aq,H⟩:=m4 aF h3 h4 aq H;refine zZ<|yB ?_;obtain ⟨x2,bi,N⟩:=zB aV;obtain ⟨x3,bu,N⟩:=zB N;obtain ⟨y1,bJ,N⟩:=zB N;refine wT [.p (.pointer (some ad)) [],.p (.pointer (some ad)) [],.p (.pointer (some (ad.add 3))) [],.q (vS p3 t.reads c3),.p (vI from0) [],.x (fun I' v hx=>∃ ad3 p6 c6,v=.pointer (some ad3)/\hx=[]/\(At I' ad3 [vS p6 x2 c6])/\(S4 I' p6 x2 c6)),.x (eS x2),.p (.pointer (some ad)) [],.p (.pointer (some ad)) [],.p (.pointer (some (ad.add 4))) [],.q (vS p4 t.writes c4),.p (vI to0) [],.x (fun I' v hx=>∃ ad4,v=.pointer (some ad4)/\hx=[]/\(At I' ad4 [vI x3])),.q (vI x3),.q (.bool y1)] [[],[(0,false)],[(1,false)],[(2,false)],[],[(3,false),(4,false)],[(5,false)],[],[(7,false)],[(8,false)],[(9,false)],[],[(10,false),(11,false)],[(12,false)],[(6,false),(13,false)]] [] [] [(14,false)] zQ ?_ ?_
 · refine Op<|Op<|Op<|Oq ?_<|Op<|Ox ?_<|Ox ?_<|Op<|Op<|Op<|Oq ?_<|Op<|Ox ?_<|Oq ?_<|Oq ?_<|On
   · intro I1 hf ae;refine yW [27] rfl ?_;have aq:=aq.mono ae;exact xE 3 aq [vS p3 t.reads c3] (vS p3 t.reads c3) rfl<|xF iR
   · intro I1 hf ae;refine yW [28,29] rfl ?_;have h3:=h3.mono ae;refine xL rfl rfl h3 bi ?_;intro ad3 bP hat3 bk;obtain ⟨v02,rfl,h7⟩:=bk;obtain ⟨p6,c6,rfl⟩:=h7.form;exact yL [] iR ⟨_,_,_,rfl,rfl,hat3,h7⟩
   · rintro I1 hf ae _ _ ⟨ad3,p6,c6,rfl,rfl,hat3,h7⟩;exact yW [30] rfl<|xE 0 hat3 [vS p6 x2 c6] (vS p6 x2 c6) rfl<|yL [] iR ⟨_,_,rfl,rfl,h7⟩
   · intro I1 hf ae;refine yW [34] rfl ?_;have aq:=aq.mono ae;exact xE 4 aq [vS p4 t.writes c4] (vS p4 t.writes c4) rfl<|xF iR
   · intro I1 hf ae;refine yW [35,36] rfl ?_;have h4:=h4.mono ae;refine xL rfl rfl h4 bu ?_;intro ad4 ccs3 hat4 bH;obtain rfl:=bH;exact yL [] iR ⟨_,rfl,rfl,hat4⟩
   · rintro I1 hf ae _ _ ⟨ad4,rfl,rfl,hat4⟩;exact yW [37] rfl<|xE 0 hat4 [vI x3] (vI x3) rfl<|xF iR
   rintro I1 hf ae _ _ ⟨p61,c61,rfl,rfl,h71⟩;refine yW [31,38] rfl ?_;have H:=iS I1;refine vU (eJ x2 x3 _ bJ h71) ?_;intro bG aJ;have H:=H.trans aJ;exact xF H
 intro bL bd;refine yW [0,1,2,7,39] rfl ?_;have ⟨h4,aq,H⟩:=m3 bd h4 aq H;refine yD rfl<|zH ?_;refine wR N [] (fun kinds1=>[(0,.pointer (some ad)),(1,vI from0),(2,vI to0),(7,vI kinds1)]) (fun aQ aB=>?_) ?_
 · have H:=iS bL;refine yE aB ?_ ?_
   · intro aH N;exact zJ<|yI [] [7] rfl<|yN<|zV (ct N H)
   intro aH N;exact zT<|yN<|zV (ct N H)
 intro kinds1 bR bw hMc1;have ⟨h4,aq,H⟩:=m3 bw h4 aq H;refine zZ<|yB<|kI (by kernel_rfl) (by kernel_rfl)<|fP 3 [] [44] rfl<|fA 4 aq [vS p4 t.writes c4] (vS p4 t.writes c4) rfl<|fP 5 [] [46] rfl ?_;obtain ⟨x4,hy6,N⟩:=zB hMc1;refine dW rfl rfl h4 hy6 ?_;intro ad5 ccs4 hat5 hrep4;obtain rfl:=hrep4;refine fA 0 hat5 [vI x4] (vI x4) rfl<|fP 10 [] [51] rfl<|fA 4 aq [vS p4 t.writes c4] (vS p4 t.writes c4) rfl<|fP 12 [] [53] rfl<|bE N fun x5 hy7 N=>dW rfl rfl h4 hy7 ?_;intro ad6 ccs5 hat6 hrep5;obtain rfl:=hrep5;refine fA 0 hat6 [vI x5] (vI x5) rfl<|zGr [] [56] rfl<|zH ?_;refine wR N [] (fun kinds2=>[(7,vI kinds2)]) (fun o02 ho02=>?_) ?_
 · have H:=iS bR;refine yE ho02 ?_ ?_
   · intro aZ N;exact zJ<|yI [] [7] rfl<|yN<|zV (ct N H)
   intro aZ N;exact zT<|yN<|zV (ct N H)
 intro kinds2 I06 bC hMc2;refine wP [6] rfl<|zH<|yY ?_;obtain rfl:=zC hMc2;exact wF
def zAL (r:(List yR)):KT:=fun kk I' ah v=>
  ∃ v0,ah=[]/\v=tupV [v0]/\SL I' v0 r
def sT (t:xT) (t12:Int) (au:List yR) (to0:Int):Option (List yR):=do
 if (decide (to0<(t.list.length:Int))) then
  let y<-oW t t12 to0
  let bo<-(do
    if (decide (y>0)) then
     let out5<-app 24 au ([(yR.mk t12 to0 y)]:List yR)
     pure (id out5)
    else
     pure (id au)
      : Option (List yR))
  sT t t12 bo (W (to0+1))
 else
  pure (id au)
 partial_fixpoint
theorem zCa (t:xT) (t12:Int):∀ (au:List yR) (to0:Int) (o:List yR),sT t t12 au to0=some o->∀ {B}{I0 I:Imm}{Q}  {ad:Addr}{p c p1 c1 p2 c2 p3 c3 p4 c4 p7 c7 aR},I0.le I->(S4 I p t.Program.Arrays c)->(S4 I p1 t.Program.Parts c1)->(S4 I p2 t.list c2)->(S4 I p3 t.reads c3)->(S4 I p4 t.writes c4)->(At I ad [vS p t.Program.Arrays c,vS p1 t.Program.Parts c1,vS p2 t.list c2,vS p3 t.reads c3,vS p4 t.writes c4])->(RL I aR au)->NG Q->NO Q->(∀ (I':Imm) (aN:List yR) (p8:Option Addr) (c8:Nat) (aS:List Value),o=aN->I0.le I'->(RL I' aS aN)->T 41 B Q (.exit 2) I' [hO yR (vS p8 aN c8) aS] [(0,.pointer (some ad)),(3,vS p8 aN c8),(11,vI (t.list.length:Int)),(12,vI t12)])->J Tryz.prog 41 B (nav (bodyOf f51) [1,1,0,1,0,0,1,1,0,0,1,1,0]) Q I [hO yR (vS p7 au c7) aR] [(0,.pointer (some ad)),(3,vS p7 au c7),(4,vI t12),(5,vI to0),(11,vI (t.list.length:Int)),(12,vI t12)]:=by
 refine sT.partial_correctness t t12 _ fun aI ih au to0 o N B I0 I Q ad p c p1 c1 p2 c2 p3 c3 p4 c4 p7 c7 aR H h h1 h2 h3 h4 aq h8 hg ho hx=>yO hg ho<|yB<|yF<|yC 4 [] [17,20] rfl<|xE 2 aq [vS p2 t.list c2] (vS p2 t.list c2) rfl<|yI [] [23] rfl<|zH<|yE N ?_ ?_
 · intro aH N;refine zT<|zZ<|yH<|yF<|yC 3 [] [26,27,28] rfl<|bE N fun y hy N=>fB (zC9 t t12 to0 _ hy h h1 h2 h3 h4 aq) ?_;intro I0 le;have ⟨h,h1,h2,h3,h4,aq⟩:=m6 le h h1 h2 h3 h4 aq;have ⟨h8,H⟩:=m2 le h8 H;refine yI [] [6] rfl<|wP [31] rfl<|zH ?_;obtain ⟨o0,aD,aV⟩:=zB N;refine qV (fun I' ah m'=>∃ (bo:List yR) (p9:Option Addr) (c9:Nat) (bB:List Value),o0=bo/\I0.le I'/\(RL I' bB bo)/\ah=[hO yR (vS p9 bo c9) bB]/\m'=[(0,.pointer (some ad)),(3,vS p9 bo c9),(4,vI t12),(5,vI to0),(11,vI (t.list.length:Int)),(12,vI t12)]) ?_ ?_
   · have H:=iS I0;refine yE aD ?_ ?_
     · intro aZ N;refine zJ<|yC 5 [] [32,36] rfl<|uO [vI t12,vI to0,vI y] yR ?_;intro b hb;have h12:RL I0 [vI t12,vI to0,vI y] ([(yR.mk t12 to0 y)]:List yR):=⟨[vI t12,vI to0,vI y],_,rfl,rfl,(zEI rfl),rfl⟩;obtain ⟨out5,aA,N⟩:=zB N;exact sO 84 3 1 rfl rfl rfl h8 (.inr ⟨0,rfl⟩) h12 aA fun bc bj bI h13=>sE (zY [1] (ah:=[hO yR (vS bc out5 bj) bI]))<|yI [] [3] rfl<|yN<|zV ⟨_,_,_,_,(zC N).symm,H,h13,rfl,rfl⟩
     intro aZ N;exact zT<|yN<|zV ⟨_,_,_,_,(zC N).symm,H,h8,rfl,rfl⟩
   rintro aW ay m2 ⟨bo,p9,c9,bB,heq,ae,h11,rfl,rfl⟩;subst o0;have ⟨h,h1,h2,h3,h4,aq⟩:=m6 ae h h1 h2 h3 h4 aq;have H:=H.trans ae;exact zN<|zH<|zJ<|yI [] [5] rfl<|yM<|nT<|ih bo (W (to0+1)) _ aV H h h1 h2 h3 h4 aq h11 hg ho hx
 intro aH N;exact wL<|yN<|hx _ _ _ _ _ (zC N).symm H h8
def sU (t:xT) (out:List yR) (t12:Int):Option (List yR):=do
 if (decide (t12<(t.list.length:Int))) then
  let aN<-sT t t12 out (W (t12+1))
  sU t aN (W (t12+1))
 else
  pure (id out)
 partial_fixpoint
theorem zCb (t:xT):∀ (out:List yR) (t12:Int) (o:List yR),sU t out t12=some o->∀ {B}{I0 I:Imm}{Q}  {ad:Addr}{p c p1 c1 p2 c2 p3 c3 p4 c4 p5 c5 cs},I0.le I->(S4 I p t.Program.Arrays c)->(S4 I p1 t.Program.Parts c1)->(S4 I p2 t.list c2)->(S4 I p3 t.reads c3)->(S4 I p4 t.writes c4)->(At I ad [vS p t.Program.Arrays c,vS p1 t.Program.Parts c1,vS p2 t.list c2,vS p3 t.reads c3,vS p4 t.writes c4])->(RL I cs out)->NG Q->NO Q->(∀ (I':Imm) (aj:List yR) (p6:Option Addr) (c6:Nat) (az:List Value),o=aj->I0.le I'->(RL I' az aj)->T 41 B Q (.exit 0) I' [hO yR (vS p6 aj c6) az] [(3,vS p6 aj c6)])->J Tryz.prog 41 B (nav (bodyOf f51) [1,1,0,1,0]) Q I [hO yR (vS p5 out c5) cs] [(0,.pointer (some ad)),(3,vS p5 out c5),(11,vI (t.list.length:Int)),(12,vI t12)]:=by
 refine sU.partial_correctness t _ fun aI ih out t12 o N B I0 I Q ad p c p1 c1 p2 c2 p3 c3 p4 c4 p5 c5 cs H h h1 h2 h3 h4 aq h6 hg ho hx=>yO hg ho<|yG [13] rfl<|zZ<|yE N ?_ ?_
 · intro hc N;refine zT<|zZ<|yH<|yG [4] rfl<|wP [5] rfl<|xY<|qI [(0,.pointer (some ad)),(3,vS p5 out c5),(4,vI t12),(5,vI (W (t12+1))),(11,vI (t.list.length:Int)),(12,vI t12)] ?_;obtain ⟨aQ,aB,aM⟩:=zB N;refine zCa t t12 out (W (t12+1)) aQ aB iR h h1 h2 h3 h4 aq h6 (fun _ _ _ h=>hg _ _ _ h) (fun _ _ h=>ho _ _ h) ?_;intro aX aN p8 c8 aS heq1 aF h9;subst aQ;have ⟨h,h1,h2,h3,h4,aq⟩:=m6 aF h h1 h2 h3 h4 aq;have H:=H.trans aF;exact zS<|zN<|zH<|zJ<|yI [] [12] rfl<|yM<|nT<|ih aN (W (t12+1)) _ aM H h h1 h2 h3 h4 aq h9 hg ho hx
 intro hc N;exact wL<|yN<|hx _ _ _ _ _ (zC N).symm H h6
def pH (t:xT):Option ((List yR)):=do
 let aj<-sU t ([]:List yR) 0
 pure (id aj)
theorem zAk:∀ t r,pH t=some r->∀ {I:Imm}{ad:Addr}{p c p1 c1 p2 c2 p3 c3 p4 c4},(S4 I p t.Program.Arrays c)->(S4 I p1 t.Program.Parts c1)->(S4 I p2 t.list c2)->(S4 I p3 t.reads c3)->(S4 I p4 t.writes c4)->(At I ad [vS p t.Program.Arrays c,vS p1 t.Program.Parts c1,vS p2 t.list c2,vS p3 t.reads c3,vS p4 t.writes c4])->RT 51 [.pointer (some ad)] I [] (zAL  r):=by
 intro t r N I ad p c p1 c1 p2 c2 p3 c3 p4 c4 h h1 h2 h3 h4 aq;unfold pH at N;refine yK func51 fun B=>wQ []<|zFB [(3,z0)]<|zZ<|yF<|yC 3 [] [9] rfl<|xE 2 aq [vS p2 t.list c2] (vS p2 t.list c2) rfl<|yI [] [11,12] rfl<|xY<|qI [(0,.pointer (some ad)),(3,z0),(11,vI (t.list.length:Int)),(12,vI 0)]<|zAM yR fun h5=>?_;obtain ⟨o02,ho02,hMl1⟩:=zB N;refine zCb t ([]:List yR) 0 o02 ho02 iR h h1 h2 h3 h4 aq h5 (fun _ _ _ h=>h) (fun _ _ h=>h) ?_;intro bG aj p6 c6 az heq2 aJ h7;subst o02;refine zS<|wP [2] rfl<|xD<|yX 0 rfl ?_;intro bL bd hl0;have h14:=SL.of_frozen hl0 bd h7;obtain rfl:=zC hMl1;exact xA ⟨_,_,(.tmp rfl ResV.nil),zQ,⟨_,rfl,rfl,h14⟩⟩
def M.cmp_isNaN_int (x:Int):Option (Bool):=do
 pure (x != x)
theorem zCP:∀ x r,M.cmp_isNaN_int x=some r->∀ {I:Imm} ,RT 194 [vI x] I [] (zU  r):=by
 intro x r N I;unfold M.cmp_isNaN_int at N;refine yK func194 fun B=>wQ []<|wP [2] rfl<|zH<|yY ?_;obtain rfl:=zC N;exact wF
def M.cmp_Compare_int (x:Int) (y:Int):Option (Int):=do
 let y1<-M.cmp_isNaN_int x
 let y2<-M.cmp_isNaN_int y
 if y1 then
  if y2 then
   pure (id 0)
  else
   pure (-1)
 else
  if y2 then
   pure (id 1)
  else
   if (decide (x<y)) then
    pure (-1)
   else
    if (decide (x>y)) then
     pure (id 1)
    else
     pure (id 0)
theorem zEi:∀ x y r,M.cmp_Compare_int x y=some r->∀ {I:Imm} ,RT 153 [vI x,vI y] I [] (yQ  r):=by
 intro x y r N I;unfold M.cmp_Compare_int at N;refine yK func153 fun B=>wQ []<|yV<|yC 1 [] [7] rfl<|bE N fun y1 hy N=>vU (zCP x _ hy ) fun I0 le=>wI [] [(5,.bool y1)]<|yV<|rH 1 [] [(9,vI y)]<|bE N fun y2 aA N=>vU (zCP y _ aA ) fun aW ae=>wI [] [(6,.bool y2)]<|zZ<|wQ [(11,.bool y1)]<|zH<|yE N ?_ ?_
 · intro hc N;refine yB<|yG [12] rfl<|zH<|yE N ?_ ?_
   · intro aH N;refine yG [4] rfl<|xD<|zG<|zG ?_;obtain rfl:=zC N;exact wF
   intro aH N;refine zT<|wP [4] rfl<|xD<|zG ?_;obtain rfl:=zC N;exact wF
 intro hc N;refine zT<|zZ<|yG [13] rfl<|zH<|yE N ?_ ?_
 · intro aZ N;refine yG [4] rfl<|xD<|zG ?_;obtain rfl:=zC N;exact wF
 intro aZ N;refine zT<|zZ<|yG [16] rfl<|zH<|yE N ?_ ?_
 · intro bK N;refine yG [4] rfl<|xD<|zG ?_;obtain rfl:=zC N;exact wF
 intro bK N;refine zT<|zZ<|yG [19] rfl<|zH<|yE N ?_ ?_
 · intro bO N;refine yG [4] rfl<|xD<|zG ?_;obtain rfl:=zC N;exact wF
 intro bO N;refine zT<|wP [4] rfl<|zH<|yY ?_;obtain rfl:=zC N;exact wF
def wA (s1:(List Int)) (s2:(List Int)) (t11:Int):Option (Out Unit (Int)):=do
 if (decide (t11<(s1.length:Int))) then
  let x<-idx s1 t11
  if (decide (t11>=(s2.length:Int))) then
   pure (.ret 1)
  else
   let x1<-idx s2 t11
   let y<-M.cmp_Compare_int x x1
   if (y != 0) then
    pure (.ret y)
   else
    wA s1 s2 (W (t11+1))
 else
  pure (.done ())
 partial_fixpoint
theorem zAe (s1:(List Int)) (s2:(List Int)):∀ (t11:Int) (o:Out Unit (Int)),wA s1 s2 t11=some o->∀ {B}{I0 I:Imm}{Q p c p1 c1},I0.le I->(S4 I p s1 c)->(S4 I p1 s2 c1)->NG Q->NO Q->(∀ (I':Imm) ,o=(.done ())->I0.le I'->T 36 B Q (.exit 0) I' [] [(0,vS p s1 c),(1,vS p1 s2 c1)])->(∀ r I' ah m',o=(.ret r)->I0.le I'->RS Tryz.prog f111 B (yQ  r) I' ah m'->T 36 B Q .ret I' ah m')->J Tryz.prog 36 B (nav (bodyOf f111) [1,0,1,0]) Q I [] [(0,vS p s1 c),(1,vS p1 s2 c1),(9,vS p s1 c),(10,vI (s1.length:Int)),(11,vI t11)]:=by
 refine wA.partial_correctness s1 s2 _ fun aI ih t11 o N B I0 I Q p c p1 c1 H h h1 hg ho hx hr=>yO hg ho<|yG [12] rfl<|zZ<|yE N ?_ ?_
 · intro hc N;refine zT<|zZ<|yH<|yF<|yC 1 [] [13] rfl<|bE N fun x hy N=>xL rfl rfl h hy ?_;intro ad aP aq am;obtain rfl:=am;refine xE 0 aq [vI x] (vI x) rfl<|yI [] [5,6] rfl<|zZ<|yG [19] rfl<|zH<|yE N ?_ ?_
   · intro aH N;exact yG [4] rfl<|xD<|zG<|zW<|zG<|zG<|hr _ _ _ _ (zC N).symm H ⟨_,_,(.tmp rfl ResV.nil),zQ,⟨_,rfl,rfl,rfl⟩⟩
   intro aH N;refine zT<|yV<|yC 2 [] [20,21] rfl<|bE N fun x1 aA N=>xL rfl rfl h1 aA ?_;intro ad1 bv av ax;obtain rfl:=ax;refine xE 0 av [vI x1] (vI x1) rfl<|yI [] [7] rfl<|yV<|yC 2 [] [24,25] rfl<|bE N fun y aK N=>fB (zEi x x1 _ aK ) ?_;intro I0 le;have ⟨h,h1,H⟩:=m3 le h h1 H;refine yI [] [8] rfl<|wP [28] rfl<|zH<|yE N ?_ ?_
   · intro aZ N;exact yG [4] rfl<|xD<|zW<|zG<|zG<|hr _ _ _ _ (zC N).symm H ⟨_,_,(.tmp rfl ResV.nil),zQ,⟨_,rfl,rfl,rfl⟩⟩
   intro aZ N;exact zT<|zN<|zH<|zJ<|yI [] [11] rfl<|yM<|nT<|ih (W (t11+1)) _ N H h h1 hg ho hx hr
 intro hc N;exact wL<|yN<|hx _  (zC N).symm H
def nX (s1:(List Int)) (s2:(List Int)):Option (Int):=do
 match<-wA s1 s2 0 with
 | .ret r0=>pure r0
 | .done _ =>
  if (decide ((s1.length:Int)<(s2.length:Int))) then
   pure (-1)
  else
   pure (id 0)
theorem zBS:∀ s1 s2 r,nX s1 s2=some r->∀ {I:Imm}{p c p1 c1},(S4 I p s1 c)->(S4 I p1 s2 c1)->RT 111 [vS p s1 c,vS p1 s2 c1] I [] (yQ  r):=by
 intro s1 s2 r N I p c p1 c1 h h1;unfold nX at N;refine yK func111 fun B=>wQ []<|zZ<|yG [9,10,11] rfl<|xY<|qI [(0,vS p s1 c),(1,vS p1 s2 c1),(9,vS p s1 c),(10,vI (s1.length:Int)),(11,vI 0)] ?_;obtain ⟨o0,aD,aM⟩:=zB N;refine zAe s1 s2 0 o0 aD iR h h1 (fun _ _ _ h=>h) (fun _ _ h=>h) ?_ ?_
 · intro aW  heq ae;subst o0;refine zS<|zZ<|yG [35] rfl<|zH<|yE aM ?_ ?_
   · intro bK N;refine yG [4] rfl<|xD<|zG ?_;obtain rfl:=zC N;exact wF
   intro bK N;refine zT<|wP [4] rfl<|zH<|yY ?_;obtain rfl:=zC N;exact wF
 intro r0 I9 hs9 m9 aY le9 ba;subst aY;refine zW<|zG ?_;obtain rfl:=zC aM;exact xA ba
theorem zQX (x y:Int):M.cmp_Compare_int x y=some (if x<y then -1 else if y<x then 1 else 0):=by
 have h1:(x != x)=false:=by simp
 have h2:(y != y)=false:=by simp
 simp only [M.cmp_Compare_int,M.cmp_isNaN_int,h1,h2,Option.pure_def,Option.bind_eq_bind,Option.bind_some,cI,if_false,id,decide_eq_true_eq];by_cases h:x<y
 · simp [h]
 by_cases h':y<x
 · simp [h,h']
 simp [h,h']
theorem zPd {a b:List Int} (ha:a.length<4611686018427387904):∀ (j q:Nat),q+j=a.length->q<=b.length->∃ o,wA a b (q:Int)=some o/\(match o with | .ret r=>r=cmpL (a.drop q) (b.drop q) | .done _=>a.length<=b.length/\cmpL (a.drop q) (b.drop q)=if a.length<b.length then -1 else 0):=by
 intro j
 induction j with
 | zero =>
  intro q hq hb;refine ⟨.done (),?_,by omega,?_⟩
  · rw [wA];have:¬((q:Int)<(a.length:Int)):=by omega
    simp only [this,decide_false,cI,if_false,Option.pure_def]
  rw [dc.2 (show a.length<=q by omega)];by_cases h:a.length<b.length
  · rw [if_pos h,cT (show q<b.length by omega),cmpL]
  rw [if_neg h,dc.2 (show b.length<=q by omega),cmpL]
 | succ j ih =>
  intro q hq hb;have aE:q<a.length:=by omega
  have hc:((q:Int)<(a.length:Int)):=by omega
  have ei:idx a (q:Int)=some a[q]:=by rw [show idx a (q:Int)=a[q]? by unfold idx; simp,cg aE]
  by_cases hq2:q<b.length
  · have ej:idx b (q:Int)=some b[q]:=by rw [show idx b (q:Int)=b[q]? by unfold idx; simp,cg hq2]
    have hg:¬((q:Int)>=(b.length:Int)):=by omega
    have eW:W ((q:Int)+1)=((q+1:Nat):Int):=by show IntKind.i64.wrap _=_; rw [IntKind.wrap_i64]; omega
    rw [wA,cT aE,cT hq2,cmpL];simp only [hc,decide_true,if_true,ei,ej,hg,decide_false,cI,if_false,zQX,Option.bind_eq_bind,Option.bind_some,Option.pure_def,eW];by_cases h1:a[q]<b[q]
    · refine ⟨.ret (-1),?_,?_⟩
      · simp [h1]
      simp [h1]
    by_cases h2:b[q]<a[q]
    · refine ⟨.ret 1,?_,?_⟩
      · simp [h1,h2]
      simp [h1,h2]
    obtain ⟨o,e1,e2⟩:=ih (q+1) (by omega) (by omega);refine ⟨o,?_,?_⟩
    · simp only [h1,h2,if_false,bne_self_eq_false,cI]; exact e1
    rw [if_neg h1,if_neg h2]; exact e2
  refine ⟨.ret 1,?_,?_⟩
  · rw [wA];have hg:((q:Int)>=(b.length:Int)):=by omega
    simp only [hc,decide_true,if_true,ei,hg,Option.bind_eq_bind,Option.bind_some,Option.pure_def]
  show 1=cmpL _ _;rw [cT aE,dc.2 (show b.length<=q by omega),cmpL]
theorem zOe {a b:List Int} (ha:a.length<4611686018427387904):nX a b=some (cmpL a b):=by
 obtain ⟨o,h1,h2⟩:=zPd (b:=b) ha a.length 0 (cw _) (fb _);rw [cq,cq] at h2;have h1:wA a b 0=some o:=h1;unfold nX;rw [h1];cases o with
 | ret r=>show some r=_; rw [h2]
 | done u =>
  rw [h2.2];by_cases h:a.length<b.length
  · simp [h]
  simp [h]
def zAf (p:Option Addr) (c:Nat) (s r:List (List Int)):KT:=fun kk I' ah v=>
  ∃ cs',ah=[hO (List Int) (vS p r c) cs']/\v=tupV []/\r.length=s.length/\RL I' cs' r
def rV (x:List (List Int)):Option (List (List Int)):=if x.length<4611686018427387904/\∀ l∈x,l.length<4611686018427387904 then some (srtL x) else none
theorem zBI:∀ x r,rV x=some r->∀ {I:Imm}{p c cs},RL I cs x->RT 128 [vS p x c,.func (.func 111) ⟨[]⟩ ⟨[]⟩] I [hO (List Int) (vS p x c) cs] (zAf p c x r):=by
 intro x r N I p c cs h;unfold rV at N;split at N
 · rename_i hb;cases N
   refine zN8 (fun blk off cap d w h1 h2 h3 h4=>Any.slices_SortFunc Tryz.laysSort _ oneR cfR swoR 111 #[] blk off cap d w (Go.Proofs.enters_of func111 (by kernel_rfl) rfl) h1 h2 h3 h4) (fun w=>?_) (fun x y=>?_) hb.1 hb.2 h fun k cs' h'=>⟨cs',rfl,rfl,List.length_mergeSort _,h'⟩
   · exact (AnyF.slices_SortFunc_none ({ Tryz.laysSort with }:Go.Proofs.SlLaysF0.n6 Tryz.prog _) none 0 _ w).mono fun e w' ⟨h1,h2⟩=>⟨h1,0,#[],by rw [h2]; simp [Sort.grow,World.drewN]⟩
   obtain ⟨xv,xl,xh,xb⟩:=x;obtain ⟨yv,yl,yh,yb⟩:=y;obtain ⟨p1,c1,rfl⟩:=xh.form;obtain ⟨p2,c2,rfl⟩:=yh.form;exact (zBS xl yl _ (zOe xb) xh yh).mono (by rintro k i hs u ⟨v0,rfl,rfl,rfl⟩; exact ⟨rfl,rfl⟩)
 cases N
def xU (k0:Int) (l:List (List Int)) (s3:List (List Int)) (k01:Int) (k2:Int):Option ((List (List Int)×Int)):=do
 if (decide (k2<(l.length:Int))) then
  let x2<-idx l k2
  let x3<-idx s3 (k0+k2)
  let x4<-idx l (W (k2 - 1))
  let x5<-idx s3 (k0+(W (k2 - 1)))
  let y1<-sD x3 x5
  let (s5,k03)<-(do
    if (!y1) then
     let x6<-idx l k2
     let x7<-idx s3 (k0+k2)
     let x8<-idx s3 k01
     let l1<-pure (s3.set k01.toNat x7)
     pure (l1,(W (k01+1)))
    else
     pure (s3,k01)
      : Option (List (List Int)×Int))
  xU k0 l s5 k03 (W (k2+1))
 else
  pure (s3,k01)
 partial_fixpoint
theorem zAI (k0:Int) (l:List (List Int)):∀ (s3:List (List Int)) (k01:Int) (k2:Int) (o:(List (List Int)×Int)),xU k0 l s3 k01 k2=some o->∀ {B}{I0 I:Imm}{Q p c p3 c3 aS},I0.le I->(Win p (Rp.sz (List Int)) k0 p3 l.length)->(RL I aS s3)->NG Q->NO Q->(∀ (I':Imm) (s4:List (List Int)) (k02:Int) (bB:List Value),o=(s4,k02)->I0.le I'->(RL I' bB s4)->T 66 B Q (.exit 2) I' [hO (List Int) (vS p s4 c) bB] [(0,vS p s4 c),(5,vI k02)])->J Tryz.prog 66 B (nav (bodyOf f129) [1,1,0,1,0,0,1,0,0,1,0,1,0,1,0]) Q I [hO (List Int) (vS p s3 c) aS] [(0,vS p s3 c),(1,.func (.func 61) ⟨[]⟩ ⟨[]⟩),(5,vI k01),(6,vS p3 l c3),(7,vI k2)]:=by
 refine xU.partial_correctness k0 l _ fun aI ih s3 k01 k2 o N B I0 I Q p c p3 c3 aS H h7 h8 hg ho hx=>yO hg ho<|yB<|yG [35] rfl<|zH<|yE N ?_ ?_
 · intro bK N;refine zT<|zZ<|yH<|yB ?_;obtain ⟨x2,bu,N⟩:=zB N;obtain ⟨x3,bJ,N⟩:=zB N;obtain ⟨x4,hy6,N⟩:=zB N;obtain ⟨x5,hy7,N⟩:=zB N;obtain ⟨y1,hy8,N⟩:=zB N;refine wT [.p (.func (.func 61) ⟨[]⟩ ⟨[]⟩) [],.p (vS p3 l c3) [],.p (vI k2) [],.x (fun I' v hx=>∃ ad2 p4 c4,v=.pointer (some ad2)/\hx=[]/\(AtO (vS p s3 c) (Rp.sz (List Int)) (k0+k2).toNat ad2)/\((aS.drop ((k0+k2).toNat*Rp.sz (List Int))).take (Rp.sz (List Int))=[vS p4 x3 c4])/\(S4 I' p4 x3 c4)),.x (eS x3),.p (vS p3 l c3) [],.p (vI k2) [],.p (vI (W (k2 - 1))) [],.x (fun I' v hx=>∃ ad3 p5 c5,v=.pointer (some ad3)/\hx=[]/\(AtO (vS p s3 c) (Rp.sz (List Int)) (k0+(W (k2 - 1))).toNat ad3)/\((aS.drop ((k0+(W (k2 - 1))).toNat*Rp.sz (List Int))).take (Rp.sz (List Int))=[vS p5 x5 c5])/\(S4 I' p5 x5 c5)),.x (eS x5),.q (.bool y1),.p (.bool (!y1)) []] [[],[],[],[(1,false),(2,false)],[(3,false)],[],[],[(6,false)],[(5,false),(7,false)],[(8,false)],[(0,false),(4,false),(9,false)],[(10,false)]] [hO (List Int) (vS p s3 c) aS] [] [(11,false)] (zY [0]) ?_ ?_
   · refine Op<|Op<|Op<|Ox ?_<|Ox ?_<|Op<|Op<|Op<|Ox ?_<|Ox ?_<|Oq ?_<|Op<|On
     · intro I1 hf ae;refine yW [39,40] rfl ?_;have ⟨h8,h7⟩:=m2 ae h8 h7;refine zN9 (wc:=c3) 0 rfl rfl h7 rfl h8 bu bJ ?_;intro ad2 bP bb hcc2 bk;obtain ⟨v03,rfl,h10⟩:=bk;obtain ⟨p4,c4,rfl⟩:=h10.form;exact yL [] iR ⟨_,_,_,rfl,rfl,bb,hcc2,h10⟩
     · rintro I1 hf ae _ _ ⟨ad2,p4,c4,rfl,rfl,bb,hcc2,h10⟩;exact yW [41] rfl<|zAX 0 0 bb hcc2 [vS p4 x3 c4] (vS p4 x3 c4) rfl rfl<|yL [] iR ⟨_,_,rfl,rfl,h10⟩
     · intro I1 hf ae;refine yW [43,45] rfl ?_;have ⟨h8,h7⟩:=m2 ae h8 h7;refine zN9 (wc:=c3) 0 rfl rfl h7 rfl h8 hy6 hy7 ?_;intro ad3 ccs3 hat3 hcc3 bH;obtain ⟨v04,rfl,h11⟩:=bH;obtain ⟨p5,c5,rfl⟩:=h11.form;exact yL [] iR ⟨_,_,_,rfl,rfl,hat3,hcc3,h11⟩
     · rintro I1 hf ae _ _ ⟨ad3,p5,c5,rfl,rfl,hat3,hcc3,h11⟩;exact yW [46] rfl<|zAX 0 0 hat3 hcc3 [vS p5 x5 c5] (vS p5 x5 c5) rfl rfl<|yL [] iR ⟨_,_,rfl,rfl,h11⟩
     rintro I1 hf ae _ _ ⟨rfl,rfl⟩ _ _ ⟨p41,c41,rfl,rfl,h101⟩ _ _ ⟨p51,c51,rfl,rfl,h111⟩;refine yW [38,42,47] rfl ?_;have H:=iS I1;refine vU (gH x3 x5 _ hy8 h101 h111) ?_;intro bG aJ;have H:=H.trans aJ;exact xF H
   intro bL bd;refine yW [0,1,5,6,7,49] rfl ?_;have ⟨h8,h7,H⟩:=m3 bd h8 h7 H;refine yD rfl<|zH ?_;obtain ⟨o0,aD,aV⟩:=zB N;refine qV (fun I' ah m'=>∃ (s5:List (List Int)) (k03:Int) (bI:List Value),o0=(s5,k03)/\bL.le I'/\(RL I' bI s5)/\ah=[hO (List Int) (vS p s5 c) bI]/\m'=[(0,vS p s5 c),(1,.func (.func 61) ⟨[]⟩ ⟨[]⟩),(5,vI k03),(6,vS p3 l c3),(7,vI k2)]) ?_ ?_
   · have H:=iS bL;refine yE aD ?_ ?_
     · intro bO N;refine yF<|yC 4 [] [50,51,52,53] rfl ?_;obtain ⟨x6,hy9,N⟩:=zB N;obtain ⟨x7,hy10,N⟩:=zB N;refine zN9 (wc:=c3) 0 rfl rfl h7 rfl h8 hy9 hy10 ?_;intro ad4 ccs4 hat4 hcc4 hrep4;obtain ⟨v06,rfl,h14⟩:=hrep4;obtain ⟨p6,c6,rfl⟩:=h14.form;refine zAX 0 0 hat4 hcc4 [vS p6 x7 c6] (vS p6 x7 c6) rfl rfl<|bE N fun x8 hy11 N=>oH 0 rfl rfl rfl h8 hy11 ?_;intro ad5 ccs5 hat5 hcc5 hrep5;obtain ⟨v07,rfl,h15⟩:=hrep5;obtain ⟨p7,c7,rfl⟩:=h15.form;obtain ⟨l1,hy12,N⟩:=zB N;refine tW (c:=[vS p6 x7 c6]) (x':=x7) 0 0 rfl rfl rfl hat5 rfl rfl hcc5 (by kernel_rfl) (by kernel_rfl) (by kernel_rfl) h8 hy11 (by kernel_rfl) ⟨_,rfl,h14⟩ ?_;rw [show s3.set k01.toNat x7=l1 from zC hy12];intro cs6 h16 hl01;exact kH (m':=[(0,vS p s3 c),(1,.func (.func 61) ⟨[]⟩ ⟨[]⟩),(5,vI k01),(6,vS p3 l c3),(7,vI k2),(50,vS p s3 c),(51,vI k01),(52,vS p3 l c3),(53,vI k2),(55,vS p6 x7 c6)]) ⟨rfl,rfl,rfl,rfl,rfl,rfl,rfl,rfl,rfl,rfl,trivial⟩<|zA5 (ah:=[hO (List Int) (vS p l1 c) cs6]) (m':=[(0,vS p l1 c),(1,.func (.func 61) ⟨[]⟩ ⟨[]⟩),(5,vI k01),(6,vS p3 l c3),(7,vI k2),(50,vS p l1 c),(51,vI k01),(52,vS p3 l c3),(53,vI k2),(55,vS p6 x7 c6)]) (by first | rfl | simp only [vS,hl01,cu,dj,dq,dg,cY,cZ]) (by first | rfl | simp only [vS,hl01])<|yD rfl<|zH<|zJ<|yI [] [5] rfl<|T_w [(0,vS p l1 c),(1,.func (.func 61) ⟨[]⟩ ⟨[]⟩),(5,vI (W (k01+1))),(6,vS p3 l c3),(7,vI k2)]<|zV ⟨_,_,_,(zC N).symm,H,h16,rfl,rfl⟩
     intro bO N;exact zT<|T_w [(0,vS p s3 c),(1,.func (.func 61) ⟨[]⟩ ⟨[]⟩),(5,vI k01),(6,vS p3 l c3),(7,vI k2)]<|zV ⟨_,_,_,(zC N).symm,H,h8,rfl,rfl⟩
   rintro bR ay m2 ⟨s5,k03,bI,heq,bw,h13,rfl,rfl⟩;subst o0;have ⟨h7,H⟩:=m2 bw h7 H;exact zN<|zH<|zJ<|yI [] [7] rfl<|yM<|qI [(0,vS p s5 c),(1,.func (.func 61) ⟨[]⟩ ⟨[]⟩),(5,vI k03),(6,vS p3 l c3),(7,vI (W (k2+1)))]<|ih s5 k03 (W (k2+1)) _ aV H h7 h13 hg ho hx
 intro bK N;exact wL<|T_w [(0,vS p s3 c),(5,vI k01)]<|hx _ _ _ _ (zC N).symm H h8
def xV (s1:List (List Int)) (k0:Int):Option (Out (List (List Int)) ((List (List Int)))):=do
 if (decide (k0<(s1.length:Int))) then
  let x<-idx s1 k0
  let x1<-idx s1 (W (k0 - 1))
  let y<-sD x x1
  if y then
   let l<-slc s1 k0 (s1.length:Int)
   let (s4,k02)<-xU k0 l s1 k0 1
   let l2<-clrL s4 k02 ([]:List Int)
   let l3<-slc l2 0 k02
   pure (.ret l3)
  else
   xV s1 (W (k0+1))
 else
  pure (.done s1)
 partial_fixpoint
theorem zAJ (s1:List (List Int)):∀ (k0:Int) (o:Out (List (List Int)) ((List (List Int)))),xV s1 k0=some o->∀ {B}{I0 I:Imm}{Q p c az},I0.le I->(RL I az s1)->NG Q->NO Q->(∀ (I':Imm) (s2:List (List Int)) (aR:List Value),o=(.done s2)->I0.le I'->(RL I' aR s2)->T 66 B Q (.exit 0) I' [hO (List Int) (vS p s2 c) aR] [(0,vS p s2 c)])->(∀ r I' ah m',o=(.ret r)->I0.le I'->RS Tryz.prog f129 B (fO  r) I' ah m'->T 66 B Q .ret I' ah m')->J Tryz.prog 66 B (nav (bodyOf f129) [1,1,0,1,0]) Q I [hO (List Int) (vS p s1 c) az] [(0,vS p s1 c),(1,.func (.func 61) ⟨[]⟩ ⟨[]⟩),(5,vI k0)]:=by
 refine xV.partial_correctness s1 _ fun aI ih k0 o N B I0 I Q p c az H h2 hg ho hx hr=>yO hg ho<|yB<|yG [15] rfl<|zH<|yE N ?_ ?_
 · intro aH N;refine zT<|zZ<|yH<|yB ?_;obtain ⟨x,hy,N⟩:=zB N;obtain ⟨x1,aA,N⟩:=zB N;obtain ⟨y,aK,N⟩:=zB N;refine wT [.p (.func (.func 61) ⟨[]⟩ ⟨[]⟩) [],.p (vS p s1 c) [],.p (vI k0) [],.x (fun I' v hx=>∃ ad p1 c1,v=.pointer (some ad)/\hx=[]/\(AtO (vS p s1 c) (Rp.sz (List Int)) k0.toNat ad)/\((az.drop (k0.toNat*Rp.sz (List Int))).take (Rp.sz (List Int))=[vS p1 x c1])/\(S4 I' p1 x c1)),.x (eS x),.p (vS p s1 c) [],.p (vI k0) [],.p (vI (W (k0 - 1))) [],.x (fun I' v hx=>∃ ad1 p2 c2,v=.pointer (some ad1)/\hx=[]/\(AtO (vS p s1 c) (Rp.sz (List Int)) (W (k0 - 1)).toNat ad1)/\((az.drop ((W (k0 - 1)).toNat*Rp.sz (List Int))).take (Rp.sz (List Int))=[vS p2 x1 c2])/\(S4 I' p2 x1 c2)),.x (eS x1),.q (.bool y)] [[],[],[],[(1,false),(2,false)],[(3,false)],[],[],[(6,false)],[(5,false),(7,false)],[(8,false)],[(0,false),(4,false),(9,false)]] [hO (List Int) (vS p s1 c) az] [] [(10,false)] (zY [0]) ?_ ?_
   · refine Op<|Op<|Op<|Ox ?_<|Ox ?_<|Op<|Op<|Op<|Ox ?_<|Ox ?_<|Oq ?_<|On
     · intro I1 hf ae;refine yW [19,20] rfl ?_;have h2:=iM ae h2;refine oH 0 rfl rfl rfl h2 hy ?_;intro ad aP aq bM am;obtain ⟨v0,rfl,h4⟩:=am;obtain ⟨p1,c1,rfl⟩:=h4.form;exact yL [] iR ⟨_,_,_,rfl,rfl,aq,bM,h4⟩
     · rintro I1 hf ae _ _ ⟨ad,p1,c1,rfl,rfl,aq,bM,h4⟩;exact yW [21] rfl<|zAX 0 0 aq bM [vS p1 x c1] (vS p1 x c1) rfl rfl<|yL [] iR ⟨_,_,rfl,rfl,h4⟩
     · intro I1 hf ae;refine yW [23,25] rfl ?_;have h2:=iM ae h2;refine oH 0 rfl rfl rfl h2 aA ?_;intro ad1 bv av hcc1 ax;obtain ⟨v01,rfl,h5⟩:=ax;obtain ⟨p2,c2,rfl⟩:=h5.form;exact yL [] iR ⟨_,_,_,rfl,rfl,av,hcc1,h5⟩
     · rintro I1 hf ae _ _ ⟨ad1,p2,c2,rfl,rfl,av,hcc1,h5⟩;exact yW [26] rfl<|zAX 0 0 av hcc1 [vS p2 x1 c2] (vS p2 x1 c2) rfl rfl<|yL [] iR ⟨_,_,rfl,rfl,h5⟩
     rintro I1 hf ae _ _ ⟨rfl,rfl⟩ _ _ ⟨aT,bf,rfl,rfl,h41⟩ _ _ ⟨p21,c21,rfl,rfl,h51⟩;refine yW [18,22,27] rfl ?_;have H:=iS I1;refine vU (gH x x1 _ aK h41 h51) ?_;intro aW ae;have H:=H.trans ae;exact xF H
   intro aX aF;refine yW [0,1,5,28] rfl ?_;have ⟨h2,H⟩:=m2 aF h2 H;refine yD rfl<|zH<|yE N ?_ ?_
   · intro aZ N;refine yF<|yC 2 [] [29,30] rfl<|bE N fun l bi N=>zQU 0 rfl rfl h2 bi fun p3 c3 h7=>yI [] [6] rfl<|zZ<|yG [7] rfl<|xY<|qI [(0,vS p s1 c),(1,.func (.func 61) ⟨[]⟩ ⟨[]⟩),(5,vI k0),(6,vS p3 l c3),(7,vI 1)] ?_;obtain ⟨aQ,aB,aM⟩:=zB N;refine zAI k0 l s1 k0 1 aQ aB iR h7 h2 (fun _ _ _ h=>hg _ _ _ h) (fun _ _ h=>ho _ _ h) ?_;intro I06 s4 k02 bB heq1 bC h9;subst aQ;have H:=H.trans bC;refine zS<|yV<|yC 2 [] [59,60] rfl ?_;obtain ⟨l2,hy13,N⟩:=zB aM;refine zQT ([]:List Int) [z0] 0 rfl rfl rfl rfl h9 hy13 ⟨_,rfl,(SL.nil _)⟩ fun cs7 v08 h17 hl02=>kH (m':=[(0,vS p s4 c),(5,vI k02),(59,vS p s4 c),(60,vI k02)]) ⟨rfl,rfl,rfl,rfl,trivial⟩<|zA5 (ah:=[hO (List Int) (vS p l2 c) cs7]) (m':=[(0,vS p l2 c),(5,vI k02),(59,vS p l2 c),(60,vI k02)]) (by first | rfl | simp only [vS,hl02,cu,dj,dq,dg,cY,cZ]) (by first | rfl | simp only [vS,hl02])<|yD rfl<|yV<|yC 2 [] [62,63] rfl<|bE N fun l3 hy14 N=>zMf 0 rfl rfl rfl rfl rfl (by kernel_rfl) rfl rfl h17 hy14 ?_;rintro p8 c8 cs8 - h18;refine wK (ah:=[hO (List Int) (vS p8 l3 c8) cs8]) rfl<|yI [] [4] rfl<|xD<|zW<|zG<|zG<|yX 0 rfl ?_;intro I07 le7 hl03;have h19:=SL.of_frozen hl03 le7 h18;have H:=H.trans le7;exact hr _ _ _ _ (zC N).symm H ⟨_,_,(.tmp rfl ResV.nil),zQ,⟨_,rfl,rfl,h19⟩⟩
   intro aZ N;exact zT<|zN<|zH<|zJ<|yI [] [5] rfl<|yM<|qI [(0,vS p s1 c),(1,.func (.func 61) ⟨[]⟩ ⟨[]⟩),(5,vI (W (k0+1)))]<|ih (W (k0+1)) _ N H h2 hg ho hx hr
 intro aH N;exact wL<|T_w [(0,vS p s1 c)]<|hx _ _ _ (zC N).symm H h2
def uI (s:(List (List Int))):Option ((List (List Int))):=do
 if (decide ((s.length:Int)<2)) then
  pure (id s)
 else
  match<-xV s 1 with
  | .ret r0=>pure r0
  | .done s2 =>
   pure (id s2)
theorem zA3:∀ s r,uI s=some r->∀ {I:Imm}{p c cs},(RL I cs s)->RT 129 [vS p s c,.func (.func 61) ⟨[]⟩ ⟨[]⟩] I [hO (List Int) (vS p s c) cs] (fO  r):=by
 intro s r N I p c cs h;unfold uI at N;refine yK func129 fun B=>wQ []<|zZ<|yG [10] rfl<|zH<|yE N ?_ ?_
 · intro hc N;refine yG [4] rfl<|xD<|zG<|yX 0 rfl ?_;intro I0 le hl0;have h1:=SL.of_frozen hl0 le h;obtain rfl:=zC N;exact xA ⟨_,_,(.tmp rfl ResV.nil),zQ,⟨_,rfl,rfl,h1⟩⟩
 intro hc N;refine zT<|zZ<|yG [5] rfl<|xY<|qI [(0,vS p s c),(1,.func (.func 61) ⟨[]⟩ ⟨[]⟩),(5,vI 1)] ?_;obtain ⟨o02,ho02,hMl1⟩:=zB N;refine zAJ s 1 o02 ho02 iR h (fun _ _ _ h=>h) (fun _ _ h=>h) ?_ ?_
 · intro I08 s2 aR heq2 le8 h3;subst o02;refine zS<|wP [4] rfl<|xD<|yX 0 rfl ?_;intro I09 le9 hl04;have h20:=SL.of_frozen hl04 le9 h3;obtain rfl:=zC hMl1;exact xA ⟨_,_,(.tmp rfl ResV.nil),zQ,⟨_,rfl,rfl,h20⟩⟩
 intro r0 I9 hs9 m9 aY le9 ba;subst aY;refine zW<|zG ?_;obtain rfl:=zC hMl1;exact xA ba
def uA (x1:zK) (x2:zK) (by0:List Int) (t48:Int):Option (List Int):=do
 if (decide (t48<(x2.Point.length:Int))) then
  let x3<-idx x2.Point t48
  let x4<-idx x1.Point t48
  let by02<-app 8 by0 ([(W (x3 - x4))]:List Int)
  uA x1 x2 by02 (W (t48+1))
 else
  pure (id by0)
 partial_fixpoint
theorem zAo (x1:zK) (x2:zK):∀ (by0:List Int) (t48:Int) (o:List Int),uA x1 x2 by0 t48=some o->∀ {B}{I0 I:Imm}{Q}{t:xT}{part:Int}{y:(List yR)}{out:List (List Int)}{t15:Int}{ad:Addr}{p c p1 c1 p2 c2 p3 c3 p4 c4 p5 c5 p6 c6 cs p91 c91}{b2:Nat}{b11:Nat}{p811 c811 bc bj aR},I0.le I->(S4 I p t.Program.Arrays c)->(S4 I p1 t.Program.Parts c1)->(S4 I p2 t.list c2)->(S4 I p3 t.reads c3)->(S4 I p4 t.writes c4)->(At I ad [vS p t.Program.Arrays c,vS p1 t.Program.Parts c1,vS p2 t.list c2,vS p3 t.reads c3,vS p4 t.writes c4])->(RL I cs out)->(S4 I p5 y c5)->(S4 I p811 x1.Point c811)->(S4 I p91 x2.Point c91)->(RL I aR by0)->NG Q->NO Q->(∀ (I':Imm) (by01:List Int) (aT:Option Addr) (bf:Nat) (aS:List Value),o=by01->I0.le I'->(RL I' aS by01)->T 75 B Q (.exit 2) I' [hO Int (vS aT by01 bf) aS,hO (List Int) (vS p6 out c6) cs] [(0,.pointer (some ad)),(1,vI part),(5,vS p6 out c6),(10,vS aT by01 bf),(13,vS p5 y c5),(14,vI (y.length:Int)),(15,vI t15)])->J Tryz.prog 75 B (nav (bodyOf f87) [1,1,0,1,0,0,1,1,0,0,1,1,1,1,0,1,0]) Q I [hO Int (vS bc by0 bj) aR,hB b11 (cInst x1 p811 c811),hB b2 (cInst x2 p91 c91),hO (List Int) (vS p6 out c6) cs] [(0,.pointer (some ad)),(1,vI part),(5,vS p6 out c6),(8,vP b11 0),(9,vP b2 0),(10,vS bc by0 bj),(13,vS p5 y c5),(14,vI (y.length:Int)),(15,vI t15),(47,vI (x2.Point.length:Int)),(48,vI t48)]:=by
 refine uA.partial_correctness x1 x2 _ fun aI ih by0 t48 o N B I0 I Q t part y out t15 ad p c p1 c1 p2 c2 p3 c3 p4 c4 p5 c5 p6 c6 cs p91 c91 b2 b11 p811 c811 bc bj aR H h h1 h2 h3 h4 aq h7 h5 h911 h101 h12 hg ho hx=>yO hg ho<|yG [49] rfl<|zZ<|yE N ?_ ?_
 · intro bK N;refine zT<|zZ<|yH<|yG [11] rfl<|zH ?_;obtain ⟨x3,bu,N⟩:=zB N;obtain ⟨x4,bJ,N⟩:=zB N;obtain ⟨by02,hy6,N⟩:=zB N;refine wT [.p (vS bc by0 bj) [],.p (vP b2 2) [],.p (vS p91 x2.Point c91) [1],.p (vI t48) [],.x (fun I' v hx=>∃ ad4,v=.pointer (some ad4)/\hx=[]/\(At I' ad4 [vI x3])),.q (vI x3),.p (vP b11 2) [],.p (vS p811 x1.Point c811) [0],.p (vI t48) [],.x (fun I' v hx=>∃ ad5,v=.pointer (some ad5)/\hx=[]/\(At I' ad5 [vI x4])),.q (vI x4),.p (vI (W (x3 - x4))) [],.x (fun I' v hx=>∃ b3,v=vS (some ⟨b3,0,none⟩) ([(W (x3 - x4))]:List Int) 1/\hx=[]/\(SL I' (vS (some ⟨b3,0,none⟩) ([(W (x3 - x4))]:List Int) 1) ([(W (x3 - x4))]:List Int))),.x (fun I' v hx=>∃ bD br bB,v=vS bD by02 br/\hx=[hO Int (vS bD by02 br) bB]/\(RL I' bB by02))] [[],[],[(1,false)],[],[(2,false),(3,false)],[(4,false)],[],[(6,false)],[],[(7,false),(8,false)],[(9,false)],[(5,false),(10,false)],[(11,false)],[(0,false),(12,false),(15,true)]] [hB b11 (cInst x1 p811 c811),hB b2 (cInst x2 p91 c91),hO (List Int) (vS p6 out c6) cs] [[hO Int (vS bc by0 bj) aR]] [(13,true)] (zY [1,2,3,0]) ?_ ?_
   · refine Op<|Op<|Op<|Op<|Ox ?_<|Oq ?_<|Op<|Op<|Op<|Ox ?_<|Oq ?_<|Op<|Ox ?_<|Ox ?_<|On
     · intro I1 hf ae;refine yW [53,54] rfl ?_;have h101:=h101.mono ae;refine xL rfl rfl h101 bu ?_;intro ad4 ccs3 hat4 bH;obtain rfl:=bH;exact yL [] iR ⟨_,rfl,rfl,hat4⟩
     · rintro I1 hf ae _ _ ⟨ad4,rfl,rfl,hat4⟩;exact yW [55] rfl<|xE 0 hat4 [vI x3] (vI x3) rfl<|xF iR
     · intro I1 hf ae;refine yW [58,59] rfl ?_;have h911:=h911.mono ae;refine xL rfl rfl h911 bJ ?_;intro ad5 ccs4 hat5 hrep4;obtain rfl:=hrep4;exact yL [] iR ⟨_,rfl,rfl,hat5⟩
     · rintro I1 hf ae _ _ ⟨ad5,rfl,rfl,hat5⟩;exact yW [60] rfl<|xE 0 hat5 [vI x4] (vI x4) rfl<|xF iR
     · intro I1 hf ae;refine yW [62] rfl ?_;have H:=iS I1;refine mG (rI [(W (x3 - x4))]) ?_;intro b3 bG aJ h15;have H:=H.trans aJ;exact yL [] H ⟨_,rfl,rfl,h15⟩
     rintro I1 hf ae _ _ ⟨rfl,rfl⟩ _ _ ⟨b3,rfl,rfl,h15⟩ _ _ rfl;refine yW [51,63] rfl ?_;have h12:=iM ae h12;obtain ⟨ccs5,k0,k01⟩:=h15;have h15:SL I1 (vS (some ⟨b3,0,none⟩) ([(W (x3 - x4))]:List Int) 1) ([(W (x3 - x4))]:List Int):=⟨_,k0,k01⟩;exact sO 3 1 0 rfl rfl rfl h12 (.inl k0) k01 hy6 fun bD br bB h16=>wK (ah:=(hO Int (vS bD by02 br) bB::hB b11 (cInst x1 p811 c811)::hB b2 (cInst x2 p91 c91)::hO (List Int) (vS p6 out c6) cs::hf)) rfl<|yL [hO Int (vS bD by02 br) bB] iR ⟨_,_,_,rfl,rfl,h16⟩
   rintro bL bd _ _ ⟨bD,br,bB,rfl,rfl,h16⟩;refine yW [0,1,5,8,9,13,14,15,47,48,64] rfl ?_;have ⟨h,h1,h2,h3,h4,aq⟩:=m6 bd h h1 h2 h3 h4 aq;have ⟨h7,h5,h911,h101,H⟩:=m5 bd h7 h5 h911 h101 H;exact yI [] [10] rfl<|zN<|zH<|zJ<|yI [] [48] rfl<|yM<|nT<|ih by02 (W (t48+1)) _ N H h h1 h2 h3 h4 aq h7 h5 h911 h101 h16 hg ho hx
 intro bK N;exact wL<|xR (zX [0,3] rfl (by decide))<|yN<|hx _ _ _ _ _ (zC N).symm H h12
def wE (t:xT) (part:Int) (y:(List yR)) (out:List (List Int)) (t15:Int):Option (List (List Int)):=do
 if (decide (t15<(y.length:Int))) then
  let x<-idx y t15
  let x1<-idx t.list x.From
  let x2<-idx t.list x.To
  let t44<-(do
    if (x1.Part != part) then
     pure true
    else
     pure (x2.Part != part)
      : Option Bool)
  if t44 then
   wE t part y out (W (t15+1))
  else
   let by01<-uA x1 x2 ([]:List Int) 0
   let au<-app 24 out ([by01]:List (List Int))
   wE t part y au (W (t15+1))
 else
  pure (id out)
 partial_fixpoint
theorem zAp (t:xT) (part:Int) (y:(List yR)):∀ (out:List (List Int)) (t15:Int) (o:List (List Int)),wE t part y out t15=some o->∀ {B}{I0 I:Imm}{Q}  {ad:Addr}{p c p1 c1 p2 c2 p3 c3 p4 c4 p5 c5 p6 c6 cs},I0.le I->(S4 I p t.Program.Arrays c)->(S4 I p1 t.Program.Parts c1)->(S4 I p2 t.list c2)->(S4 I p3 t.reads c3)->(S4 I p4 t.writes c4)->(At I ad [vS p t.Program.Arrays c,vS p1 t.Program.Parts c1,vS p2 t.list c2,vS p3 t.reads c3,vS p4 t.writes c4])->(S4 I p5 y c5)->(RL I cs out)->NG Q->NO Q->(∀ (I':Imm) (aj:List (List Int)) (p7:Option Addr) (c7:Nat) (az:List Value),o=aj->I0.le I'->(RL I' az aj)->T 75 B Q (.exit 0) I' [hO (List Int) (vS p7 aj c7) az] [(5,vS p7 aj c7)])->J Tryz.prog 75 B (nav (bodyOf f87) [1,1,0,1,0]) Q I [hO (List Int) (vS p6 out c6) cs] [(0,.pointer (some ad)),(1,vI part),(5,vS p6 out c6),(13,vS p5 y c5),(14,vI (y.length:Int)),(15,vI t15)]:=by
 refine wE.partial_correctness t part y _ fun aI ih out t15 o N B I0 I Q ad p c p1 c1 p2 c2 p3 c3 p4 c4 p5 c5 p6 c6 cs H h h1 h2 h3 h4 aq h5 h7 hg ho hx=>yO hg ho<|yG [16] rfl<|zZ<|yE N ?_ ?_
 · intro hc N;refine zT<|zZ<|yH<|yF<|bE N fun x aA N=>xL rfl rfl h5 aA ?_;intro ad1 aP av am;obtain rfl:=zBe am;refine xE 0 av [vI x.From,vI x.To,vI x.Kinds] (vA [vI x.From,vI x.To,vI x.Kinds]) rfl<|wS [vI 0,vI 0,vI 0] ?_;intro b hb;refine xJ 0 [vI x.From,vI x.To,vI x.Kinds] rfl<|yD rfl<|zH<|yB ?_;obtain ⟨x1,aK,N⟩:=zB N;obtain ⟨x2,bi,N⟩:=zB N;refine wT [.p (.pointer (some ad)) [],.p (.pointer (some ad)) [],.p (.pointer (some (ad.add 2))) [],.q (vS p2 t.list c2),.p (vP b 0) [],.p (vI x.From) [0],.x (ePInst x1),.x (eVInst x1),.p (.pointer (some ad)) [],.p (.pointer (some ad)) [],.p (.pointer (some (ad.add 2))) [],.q (vS p2 t.list c2),.p (vP b 1) [],.p (vI x.To) [0],.x (ePInst x2),.x (eVInst x2),.x (fun I' v hx=>∃ b1,v=vP b1 0/\hx=[hB b1 [vI 0,vI 0,z0]]),.x (fun I' v hx=>∃ b2,v=vP b2 0/\hx=[hB b2 [vI 0,vI 0,z0]]),.x (fun I' v hx=>∃ b11 p811 c811,v=vP b11 0/\hx=[hB b11 (cInst x1 p811 c811)]/\(S4 I' p811 x1.Point c811))] [[],[(0,false)],[(1,false)],[(2,false)],[],[(4,false)],[(3,false),(5,false)],[(6,false)],[],[(8,false)],[(9,false)],[(10,false)],[],[(12,false)],[(11,false),(13,false)],[(14,false)],[],[],[(7,false),(16,true)]] [hB b [vI x.From,vI x.To,vI x.Kinds],hO (List Int) (vS p6 out c6) cs] [] [(15,false),(17,true),(18,true)] (zY [0,1]) ?_ ?_
   · refine Op<|Op<|Op<|Oq ?_<|Op<|Op<|Ox ?_<|Ox ?_<|Op<|Op<|Op<|Oq ?_<|Op<|Op<|Ox ?_<|Ox ?_<|Ox ?_<|Ox ?_<|Ox ?_<|On
     · intro I1 hf ae;refine yW [21] rfl ?_;have aq:=aq.mono ae;exact xE 2 aq [vS p2 t.list c2] (vS p2 t.list c2) rfl<|xF iR
     · intro I1 hf ae;refine yW [22,24] rfl ?_;have h2:=h2.mono ae;refine xL rfl rfl h2 aK ?_;intro ad2 bv bb ax;obtain ⟨p8,c8,rfl,h9⟩:=vR ax;exact yL [] iR ⟨_,_,_,rfl,rfl,bb,h9⟩
     · rintro I1 hf ae _ _ ⟨ad2,p8,c8,rfl,rfl,bb,h9⟩;exact yW [25] rfl<|xE 0 bb (cInst x1 p8 c8) (vA (cInst x1 p8 c8)) rfl<|yL [] iR ⟨_,_,rfl,rfl,h9⟩
     · intro I1 hf ae;refine yW [29] rfl ?_;have aq:=aq.mono ae;exact xE 2 aq [vS p2 t.list c2] (vS p2 t.list c2) rfl<|xF iR
     · intro I1 hf ae;refine yW [30,32] rfl ?_;have h2:=h2.mono ae;refine xL rfl rfl h2 bi ?_;intro ad3 bP hat3 bk;obtain ⟨p9,c9,rfl,h10⟩:=vR bk;exact yL [] iR ⟨_,_,_,rfl,rfl,hat3,h10⟩
     · rintro I1 hf ae _ _ ⟨ad3,p9,c9,rfl,rfl,hat3,h10⟩;exact yW [33] rfl<|xE 0 hat3 (cInst x2 p9 c9) (vA (cInst x2 p9 c9)) rfl<|yL [] iR ⟨_,_,rfl,rfl,h10⟩
     · intro I1 hf ae;refine I_h []<|wS [vI 0,vI 0,z0] ?_;intro b1 hb1;exact yL [hB b1 [vI 0,vI 0,z0]] iR ⟨_,rfl,rfl⟩
     · intro I1 hf ae;refine I_h []<|wS [vI 0,vI 0,z0] ?_;intro b2 hb2;exact yL [hB b2 [vI 0,vI 0,z0]] iR ⟨_,rfl,rfl⟩
     rintro I1 hf ae _ _ ⟨p81,c81,rfl,rfl,h91⟩ _ _ ⟨b1,rfl,rfl⟩;exact yW [8,26] rfl<|zBd 0 (cInst x1 p81 c81) (hB b1 (cInst x1 p81 c81)::hB b [vI x.From,vI x.To,vI x.Kinds]::hO (List Int) (vS p6 out c6) cs::hf) rfl rfl rfl rfl<|yL [hB b1 (cInst x1 p81 c81)] iR ⟨_,_,_,rfl,rfl,h91⟩
   rintro aW ae _ _ ⟨p91,c91,rfl,rfl,h101⟩ _ _ ⟨b2,rfl,rfl⟩ _ _ ⟨b11,p811,c811,rfl,rfl,h911⟩;refine yW [0,1,5,8,9,13,14,15,34] rfl ?_;have ⟨h,h1,h2,h3,h4,aq⟩:=m6 ae h h1 h2 h3 h4 aq;have ⟨h7,h5,H⟩:=m3 ae h7 h5 H;refine xJ 1 (cInst x2 p91 c91) rfl<|yD rfl<|zZ<|yB ?_;refine wR N [hB b11 (cInst x1 p811 c811),hB b2 (cInst x2 p91 c91),hO (List Int) (vS p6 out c6) cs] (fun t44=>[(0,.pointer (some ad)),(1,vI part),(5,vS p6 out c6),(8,vP b11 0),(9,vP b2 0),(13,vS p5 y c5),(14,vI (y.length:Int)),(15,vI t15),(44,.bool t44)]) (fun o0 aD=>?_) ?_
   · have H:=iS aW;refine zJ<|yC 5 [0] [39] rfl<|xW [39] aD ?_ ?_
     · intro aH N;exact wI [] [(44,vY)]<|xR (zX [0,1,3] rfl (by decide))<|yN<|zV (ct N H)
     intro aH N;exact yI [1] [44] rfl<|xR (zX [0,1,3] rfl (by decide))<|yN<|zV (ct N H)
   intro t44 aX aF aV;have ⟨h,h1,h2,h3,h4,aq⟩:=m6 aF h h1 h2 h3 h4 aq;have ⟨h7,h5,h911,h101,H⟩:=m5 aF h7 h5 h911 h101 H;refine zH<|yE aV ?_ ?_
   · intro aZ N;exact zEM<|jA<|zS<|zH<|zJ<|yI [] [15] rfl<|yM<|kC (zX [2] rfl (by decide))<|nT<|ih out (W (t15+1)) _ N H h h1 h2 h3 h4 aq h5 h7 hg ho hx
   intro aZ N;refine zT<|zFB [(10,z0)]<|zZ<|yF<|yI [1] [47,48] rfl<|xY<|qI [(0,.pointer (some ad)),(1,vI part),(5,vS p6 out c6),(8,vP b11 0),(9,vP b2 0),(10,z0),(13,vS p5 y c5),(14,vI (y.length:Int)),(15,vI t15),(47,vI (x2.Point.length:Int)),(48,vI 0)]<|zAM Int fun h11=>?_;obtain ⟨aQ,aB,aM⟩:=zB N;refine zAo x1 x2 ([]:List Int) 0 aQ aB iR h h1 h2 h3 h4 aq h7 h5 h911 h101 h11 (fun _ _ _ h=>hg _ _ _ h) (fun _ _ h=>ho _ _ h) ?_;intro bR by01 aT bf aS heq1 bw h13;subst aQ;have ⟨h,h1,h2,h3,h4,aq⟩:=m6 bw h h1 h2 h3 h4 aq;have ⟨h7,h5,H⟩:=m3 bw h7 h5 H;refine zS<|zH<|zJ<|yC 2 [] [66,67] rfl<|xI 0 rfl ?_;intro I06 bC hl01;have h17:=SL.of_frozen hl01 bC h13;have ⟨h,h1,h2,h3,h4,aq⟩:=m6 bC h h1 h2 h3 h4 aq;have ⟨h5,h7,H⟩:=m3 bC h5 h7 H;refine uO [vS aT by01 bf] (List Int) ?_;intro b4 hb4;have h18:RL I06 [vS aT by01 bf] ([by01]:List (List Int)):=⟨[vS aT by01 bf],_,rfl,rfl,⟨_,rfl,h17⟩,rfl⟩;obtain ⟨au,hy7,N⟩:=zB aM;exact sO 27 1 1 rfl rfl rfl h7 (.inr ⟨0,rfl⟩) h18 hy7 fun bt bz bI h19=>sE (zY [1] (ah:=[hO (List Int) (vS bt au bz) bI]))<|yI [] [5] rfl<|zN<|zH<|zJ<|yI [] [15] rfl<|yM<|nT<|ih au (W (t15+1)) _ N H h h1 h2 h3 h4 aq h5 h19 hg ho hx
 intro hc N;exact wL<|yN<|hx _ _ _ _ _ (zC N).symm H h7
def pL (t:xT) (part:Int):Option ((List (List Int))):=do
 let y<-pH t
 let aj<-wE t part y ([]:List (List Int)) 0
 let y1<-rV aj
 let y2<-uI y1
 pure (id y2)
theorem zBn:∀ t part r,pL t part=some r->∀ {I:Imm}{ad:Addr}{p c p1 c1 p2 c2 p3 c3 p4 c4},(S4 I p t.Program.Arrays c)->(S4 I p1 t.Program.Parts c1)->(S4 I p2 t.list c2)->(S4 I p3 t.reads c3)->(S4 I p4 t.writes c4)->(At I ad [vS p t.Program.Arrays c,vS p1 t.Program.Parts c1,vS p2 t.list c2,vS p3 t.reads c3,vS p4 t.writes c4])->RT 87 [.pointer (some ad),vI part] I [] (fO  r):=by
 intro t part r N I ad p c p1 c1 p2 c2 p3 c3 p4 c4 h h1 h2 h3 h4 aq;unfold pL at N;refine yK func87 fun B=>wQ []<|zFB [(5,z0)]<|zZ<|yF<|yC 1 [] [12] rfl<|bE N fun y hy N=>xM (zAk t _ hy h h1 h2 h3 h4 aq) ?_;rintro I0 ay v2 k2 le - ⟨v0,rfl,rfl,h5⟩ -;have ⟨h,h1,h2,h3,h4,aq⟩:=m6 le h h1 h2 h3 h4 aq;obtain ⟨p5,c5,rfl⟩:=h5.form;refine yI [] [14,15] rfl<|xY<|qI [(0,.pointer (some ad)),(1,vI part),(5,z0),(13,vS p5 y c5),(14,vI (y.length:Int)),(15,vI 0)]<|zAM (List Int) fun h6=>?_;obtain ⟨o02,ho02,hMl1⟩:=zB N;refine zAp t part y ([]:List (List Int)) 0 o02 ho02 iR h h1 h2 h3 h4 aq h5 h6 (fun _ _ _ h=>h) (fun _ _ h=>h) ?_;intro I07 aj p7 c7 az heq2 le7 h8;subst o02;refine zS<|yV<|yC 1 [] [71] rfl ?_;obtain ⟨y1,hy8,N⟩:=zB hMl1;refine tY (zBI aj _ hy8 h8) rfl ?_;rintro I08 ay v2 k2 le8 - ⟨cs6,rfl,rfl,hl02,h20⟩ -;refine kH (m':=[(5,vS p7 aj c7),(72,.tuple ⟨[]⟩)]) ⟨rfl,rfl,trivial⟩<|zA5 (ah:=[hO (List Int) (vS p7 y1 c7) cs6]) (m':=[(5,vS p7 y1 c7),(72,.tuple ⟨[]⟩)]) rfl (by first | rfl | simp only [vS,hl02])<|yD rfl<|yV<|yC 1 [] [73] rfl<|bE N fun y2 hy9 N=>tY (zA3 y1 _ hy9 h20) rfl ?_;rintro I09 ay v2 k2 le9 - ⟨v03,rfl,rfl,h21⟩ -;obtain ⟨p14,c14,rfl⟩:=h21.form;refine yI [] [4] rfl<|zH<|yY ?_;obtain rfl:=zC N;exact xA ⟨_,_,(.tmp rfl ResV.nil),zQ,⟨_,rfl,rfl,h21⟩⟩
def qC (n0:Int):Option (Bool):=do
 pure (n0 != 0)
theorem zD2:∀ n0 r,qC n0=some r->∀ {I:Imm} ,RT 131 [vI n0] I [] (zU  r):=by
 intro n0 r N I;unfold qC at N;refine yK func131 fun B=>wQ []<|wP [2] rfl<|zH<|yY ?_;obtain rfl:=zC N;exact wF
def jH (d0:(List Int)):Option (Int):=do
 let y<-tJ d0 qC
 pure (id y)
theorem zEj:∀ d0 r,jH d0=some r->∀ {I:Imm}{p c},(S4 I p d0 c)->RT 88 [vS p d0 c] I [] (yQ  r):=by
 intro d0 r N I p c h;unfold jH at N;refine yK func88 fun B=>wQ []<|yV<|yC 1 [] [3] rfl ?_;have hf0:FV1 Tryz.prog I [] (.func (.func 131) ⟨[]⟩ ⟨[]⟩) qC:=by
   refine FV1.intro ?_;intro I1 ae x0 r u0 hF k0;obtain rfl:=k0;exact (zD2 x0 r hF ).mono (by rintro k i hs u ⟨v0,rfl,rfl,h⟩; exact ⟨rfl,h⟩)
 obtain ⟨y,hy,N⟩:=zB N;refine xM (fN d0 qC _ hy h hf0) ?_;rintro I0 ay v2 k2 le - ⟨v0,rfl,rfl,rfl⟩ -;refine yI [] [2] rfl<|zH<|yY ?_;obtain rfl:=zC N;exact wF
def zBo (r:(List Bool)):KT:=fun kk I' ah v=>
  ∃ v0,ah=[]/\v=tupV [v0]/\SL I' v0 r
def uS (y:(List (List Int))) (aj:List Bool) (t24:Int):Option (List Bool):=do
 if (decide (t24<(y.length:Int))) then
  let x1<-idx y t24
  let y1<-jH x1
  let aN<-(do
    if (decide (y1>=0)) then
     let x2<-idx aj y1
     let l<-pure (aj.set y1.toNat true)
     pure (id l)
    else
     pure (id aj)
      : Option (List Bool))
  uS y aN (W (t24+1))
 else
  pure (id aj)
 partial_fixpoint
theorem zBT (y:(List (List Int))):∀ (aj:List Bool) (t24:Int) (o:List Bool),uS y aj t24=some o->∀ {B}{I0 I:Imm}{Q p7 c7 p8 c8 az},I0.le I->(S4 I p7 y c7)->(RL I az aj)->NG Q->NO Q->(∀ (I':Imm) (au:List Bool) (p9:Option Addr) (c9:Nat) (aR:List Value),o=au->I0.le I'->(RL I' aR au)->T 37 B Q (.exit 0) I' [hO Bool (vS p9 au c9) aR] [(5,vS p9 au c9)])->J Tryz.prog 37 B (nav (bodyOf f45) [1,1,0,1,0]) Q I [hO Bool (vS p8 aj c8) az] [(5,vS p8 aj c8),(22,vS p7 y c7),(23,vI (y.length:Int)),(24,vI t24)]:=by
 refine uS.partial_correctness y _ fun aI ih aj t24 o N B I0 I Q p7 c7 p8 c8 az H h8 h9 hg ho hx=>yO hg ho<|yG [25] rfl<|zZ<|yE N ?_ ?_
 · intro hc N;refine zT<|zZ<|yH<|yF<|bE N fun x1 bi N=>xL rfl rfl h8 bi ?_;intro ad2 bv bb ax;obtain ⟨v03,rfl,h11⟩:=ax;obtain ⟨bc,bj,rfl⟩:=h11.form;refine xE 0 bb [vS bc x1 bj] (vS bc x1 bj) rfl<|yI [] [7] rfl<|yV<|yC 1 [] [28] rfl<|bE N fun y1 bu N=>fB (zEj x1 _ bu h11) ?_;intro aW ae;have ⟨h9,h8,H⟩:=m3 ae h9 h8 H;refine yI [] [8] rfl<|wP [31] rfl<|zH ?_;obtain ⟨o0,aD,aV⟩:=zB N;refine qV (fun I' ah m'=>∃ (aN:List Bool) (aT:Option Addr) (bf:Nat) (aS:List Value),o0=aN/\aW.le I'/\(RL I' aS aN)/\ah=[hO Bool (vS aT aN bf) aS]/\m'=[(5,vS aT aN bf),(22,vS p7 y c7),(23,vI (y.length:Int)),(24,vI t24)]) ?_ ?_
   · have H:=iS aW;refine yE aD ?_ ?_
     · intro aH N;refine zJ<|yC 2 [] [32,33] rfl<|bE N fun x2 bJ N=>oH 0 rfl rfl rfl h9 bJ ?_;intro ad3 bP hat3 bM bk;obtain rfl:=bk;obtain ⟨l,hy6,N⟩:=zB N;refine tW (c:=[vY]) (x':=true) 0 0 rfl rfl rfl hat3 rfl rfl bM (by kernel_rfl) (by kernel_rfl) (by kernel_rfl) h9 bJ (by kernel_rfl) rfl ?_;rw [show aj.set y1.toNat true=l from zC hy6];intro bB h14 hl0;exact kH (m':=[(5,vS p8 aj c8),(22,vS p7 y c7),(23,vI (y.length:Int)),(24,vI t24),(32,vS p8 aj c8),(33,vI y1)]) ⟨rfl,rfl,rfl,rfl,rfl,rfl,trivial⟩<|zA5 (ah:=[hO Bool (vS p8 l c8) bB]) (m':=[(5,vS p8 l c8),(22,vS p7 y c7),(23,vI (y.length:Int)),(24,vI t24),(32,vS p8 l c8),(33,vI y1)]) (by first | rfl | simp only [vS,hl0,cu,dj,dq,dg,cY,cZ]) (by first | rfl | simp only [vS,hl0])<|yD rfl<|yN<|zV ⟨_,_,_,_,(zC N).symm,H,h14,rfl,rfl⟩
     intro aH N;exact zT<|yN<|zV ⟨_,_,_,_,(zC N).symm,H,h9,rfl,rfl⟩
   rintro aX ay m2 ⟨aN,aT,bf,aS,heq,aF,h13,rfl,rfl⟩;subst o0;have ⟨h8,H⟩:=m2 aF h8 H;exact zN<|zH<|zJ<|yI [] [24] rfl<|yM<|nT<|ih aN (W (t24+1)) _ aV H h8 h13 hg ho hx
 intro hc N;exact wL<|yN<|hx _ _ _ _ _ (zC N).symm H h9
def oX (t:xT) (part:Int):Option ((List Bool)):=do
 let x<-idx t.Program.Parts part
 let out<-mkrow 1 (x.Nest.length:Int) (false:Bool)
 let y<-pL t part
 let au<-uS y out 0
 pure (id au)
theorem zCc:∀ t part r,oX t part=some r->∀ {I:Imm}{ad:Addr}{p c p1 c1 p2 c2 p3 c3 p4 c4},(S4 I p t.Program.Arrays c)->(S4 I p1 t.Program.Parts c1)->(S4 I p2 t.list c2)->(S4 I p3 t.reads c3)->(S4 I p4 t.writes c4)->(At I ad [vS p t.Program.Arrays c,vS p1 t.Program.Parts c1,vS p2 t.list c2,vS p3 t.reads c3,vS p4 t.writes c4])->RT 45 [.pointer (some ad),vI part] I [] (zBo  r):=by
 intro t part r N I ad p c p1 c1 p2 c2 p3 c3 p4 c4 h h1 h2 h3 h4 aq;unfold oX at N;refine yK func45 fun B=>wQ []<|yV<|yC 4 [] [12] rfl<|xE 1 aq [vS p1 t.Program.Parts c1] (vS p1 t.Program.Parts c1) rfl<|yC 6 [] [14] rfl<|bE N fun x hy N=>xL rfl rfl h1 hy ?_;intro ad1 aP av am;obtain ⟨p5,c5,p6,c6,rfl,h5,h6⟩:=wU am;refine yC 8 [] [16] rfl<|xE 0 av [vS p5 x.Nest c5] (vS p5 x.Nest c5) rfl<|yC 10 [] [18] rfl<|bE N fun out aA N=>zP9 1 [vF] rfl aA rfl fun b cs h7=>yI [] [5] rfl<|zZ<|yF<|yC 2 [] [20,21] rfl<|bE N fun y aK N=>xM (zBn t part _ aK h h1 h2 h3 h4 aq) ?_;rintro I0 ay v2 k2 le - ⟨v02,rfl,rfl,h8⟩ -;have h7:=iM le h7;obtain ⟨p7,c7,rfl⟩:=h8.form;refine yI [] [23,24] rfl<|xY<|qI [(5,vS (some ⟨b,0,none⟩) out out.length),(22,vS p7 y c7),(23,vI (y.length:Int)),(24,vI 0)] ?_;obtain ⟨aQ,aB,aM⟩:=zB N;refine zBT y out 0 aQ aB iR h8 h7 (fun _ _ _ h=>h) (fun _ _ h=>h) ?_;intro bG au p9 c9 aR heq1 aJ h10;subst aQ;refine zS<|wP [4] rfl<|xD<|yX 0 rfl ?_;intro bL bd hl01;have h15:=SL.of_frozen hl01 bd h10;obtain rfl:=zC aM;exact xA ⟨_,_,(.tmp rfl ResV.nil),zQ,⟨_,rfl,rfl,h15⟩⟩
def oF (p:zD) (part:Int) (loop:Int):Option (Bool):=do
 let (y1,y2)<-gY p
 let t6<-(do
   if y2 then
    let y3<-sS p part loop
    if y3 then
     let t<-y1
     let y4<-oX t part
     let x<-idx y4 loop
     pure (!x)
    else
     pure false
   else
    pure false
     : Option Bool)
 pure (id t6)
theorem zD3:∀ p part loop r,oF p part loop=some r->∀ {I:Imm}{p1 c p2 c1},(S4 I p1 p.Arrays c)->(S4 I p2 p.Parts c1)->RT 14 [vA (cProg p p1 c p2 c1),vI part,vI loop] I [] (zU  r):=by
 intro p part loop r N I p1 c p2 c1 h h1;unfold oF at N;refine yK func14 fun B=>?_;have H:=iS I;refine yF<|tT (cProg p p1 c p2 c1) ?_;intro b hb;refine wI [] []<|yV<|rH 1 [0] [(10,vA (cProg p p1 c p2 c1))] ?_;obtain ⟨⟨y1,y2⟩,hy,N⟩:=zB N;refine xM (zBk p _ hy h h1) ?_;rintro I0 ay v2 k2 le - ⟨v0,v01,rfl,rfl,h2,rfl⟩ -;have ⟨h,h1,H⟩:=m3 le h h1 H;refine yI [] [7,8] rfl<|zH<|yB ?_;refine wR N [] (fun t6=>[(6,.bool t6)]) (fun o0 aD=>?_) ?_
 · have H:=iS I0;refine zJ<|yC 2 [] [15] rfl<|xW [15] aD ?_ ?_
   · intro hc N;refine rH 5 [0] [(16,vA (cProg p p1 c p2 c1)),(17,vI part),(18,vI loop)]<|bE N fun y3 aA N=>vU (zAF p part loop _ aA h h1) ?_;intro aX ae;have ⟨h2,H⟩:=m2 ae h2 H;refine yC 8 [] [21] rfl<|xW [21] N ?_ ?_
     · intro aH N;refine yC 10 [] [22,23] rfl ?_;obtain ⟨t,aK,N⟩:=zB N;obtain ⟨ad,aP,rfl,aq,am⟩:=zJ9 h2 aK;obtain ⟨p3,c2,p4,c3,p5,c4,p6,c5,p7,c6,rfl,h5,h6,h7,h8,h9⟩:=zAv am;obtain ⟨y4,bi,N⟩:=zB N;refine xM (zCc t part _ bi h5 h6 h7 h8 h9 aq) ?_;rintro bG ay v2 k2 aF - ⟨v08,rfl,rfl,h10⟩ -;have H:=H.trans aF;obtain ⟨p8,c7,rfl⟩:=h10.form;refine yC 12 [] [25] rfl<|bE N fun x bu N=>xL rfl rfl h10 bu ?_;intro ad1 bv av ax;obtain rfl:=ax;exact xE 0 av [.bool x] (.bool x) rfl<|yI [] [6] rfl<|xR zQ<|yN<|zV (ct N H)
     intro aH N;exact wI [] [(6,vF)]<|xR zQ<|yN<|zV (ct N H)
   intro hc N;exact wI [] [(6,vF)]<|xR zQ<|yN<|zV (ct N H)
 intro t6 aW aJ aV;refine zH<|yY ?_;obtain rfl:=zC aV;exact wF
def kM (p:zD):Option ((List yR)):=do
 let (y1,y2)<-gY p
 if (!y2) then
  pure ([]:List yR)
 else
  let t<-y1
  let y3<-pH t
  pure (id y3)
theorem zEA:∀ p r,kM p=some r->∀ {I:Imm}{p1 c p2 c1},(S4 I p1 p.Arrays c)->(S4 I p2 p.Parts c1)->RT 47 [vA (cProg p p1 c p2 c1)] I [] (zAL  r):=by
 intro p r N I p1 c p2 c1 h h1;unfold kM at N;refine yK func47 fun B=>yF<|tT (cProg p p1 c p2 c1) ?_;intro b hb;refine wI [] []<|yV<|rH 1 [0] [(6,vA (cProg p p1 c p2 c1))] ?_;obtain ⟨⟨y1,y2⟩,hy,N⟩:=zB N;refine xM (zBk p _ hy h h1) ?_;rintro I0 ay v2 k2 le - ⟨v0,v01,rfl,rfl,h2,rfl⟩ -;refine yI [] [3,4] rfl<|zZ<|yG [11] rfl<|zH<|yE N ?_ ?_
 · intro hc N;refine wQ [(2,z0)]<|xD<|zG ?_;obtain rfl:=zC N;exact xA ⟨_,_,(.tmp rfl ResV.nil),zQ,⟨_,rfl,rfl,(SL.nil _)⟩⟩
 intro hc N;refine zT<|yV<|rH 1 [] [(12,v0)] ?_;obtain ⟨t,aA,N⟩:=zB N;obtain ⟨ad,aP,rfl,aq,am⟩:=zJ9 h2 aA;obtain ⟨p3,c2,p4,c3,p5,c4,p6,c5,p7,c6,rfl,h4,h5,h6,h7,h8⟩:=zAv am;obtain ⟨y3,aK,N⟩:=zB N;refine xM (zAk t _ aK h4 h5 h6 h7 h8 aq) ?_;rintro aW ay v2 k2 ae - ⟨v07,rfl,rfl,h9⟩ -;obtain ⟨p8,c7,rfl⟩:=h9.form;refine yI [] [2] rfl<|zH<|yY ?_;obtain rfl:=zC N;exact xA ⟨_,_,(.tmp rfl ResV.nil),zQ,⟨_,rfl,rfl,h9⟩⟩
def nR (bh:List HA) (r:Int):KT:=fun kk I' ah v=>
  ∃ v0,bh=ah/\v=tupV [v0]/\v0=.int .i64 r
def xQ (s:(List yR)) (f0:(yR->Option Bool)) (t8:Int):Option (Out Unit (Int)):=do
 if (decide (t8<(s.length:Int))) then
  let x<-idx s t8
  let y<-f0 x
  if y then
   pure (.ret t8)
  else
   xQ s f0 (W (t8+1))
 else
  pure (.done ())
 partial_fixpoint
theorem fM (s:(List yR)) (f0:(yR->Option Bool)):∀ (t8:Int) (o:Out Unit (Int)),xQ s f0 t8=some o->∀ {B}{I0 I:Imm}{Q p c}{fv:Value}{bh:List HA},I0.le I->(S4 I p s c)->(FV1 Tryz.prog I bh fv f0)->NG Q->NO Q->(∀ (I':Imm) ,o=(.done ())->I0.le I'->T 19 B Q (.exit 0) I' bh [])->(∀ r I' ah m',o=(.ret r)->I0.le I'->RS Tryz.prog f132 B (nR bh r) I' ah m'->T 19 B Q .ret I' ah m')->J Tryz.prog 19 B (nav (bodyOf f132) [1,0,1,0]) Q I bh [(0,vS p s c),(1,fv),(7,vI (s.length:Int)),(8,vI t8)]:=by
 refine xQ.partial_correctness s f0 _ fun aI ih t8 o N B I0 I Q p c fv bh H h h1 hg ho hx hr=>yO hg ho<|yG [9] rfl<|zZ<|yE N ?_ ?_
 · intro hc N;refine zT<|zZ<|yH<|yG [5] rfl<|yV<|yC 3 [] [11,12,13] rfl<|bE N fun x hy N=>xL rfl rfl h hy ?_;intro ad aP aq am;obtain rfl:=zBe am;refine xE 0 aq [vI x.From,vI x.To,vI x.Kinds] (vA [vI x.From,vI x.To,vI x.Kinds]) rfl<|bE N fun y aA N=>zK1 rfl rfl h1 aA ⟨_,rfl,(zEI rfl)⟩ (cy _).symm ?_;rintro I0 v0 le rfl;refine wK (ah:=bh) (cy _) ?_;have ⟨h,h1,H⟩:=m3 le h h1 H;refine yD rfl<|zH<|yE N ?_ ?_
   · intro aH N;exact yG [4] rfl<|xD<|zW<|zG<|zG<|hr _ _ _ _ (zC N).symm H ⟨_,_,(.tmp rfl ResV.nil),(fun _ h=>h),⟨_,rfl,rfl,rfl⟩⟩
   intro aH N;exact zT<|zN<|zH<|zJ<|yI [] [8] rfl<|yM<|nT<|ih (W (t8+1)) _ N H h h1 hg ho hx hr
 intro hc N;exact wL<|yN<|hx _  (zC N).symm H
def uW (s:(List yR)) (f0:(yR->Option Bool)):Option (Int):=do
 match<-xQ s f0 0 with
 | .ret r0=>pure r0
 | .done _ =>
  pure (-1)
theorem eN:∀ s f0 r,uW s f0=some r->∀ {I:Imm}{p c}{fv:Value}{bh:List HA},(S4 I p s c)->(FV1 Tryz.prog I bh fv f0)->RT 132 [vS p s c,fv] I bh (nR bh r):=by
 intro s f0 r N I p c fv bh h h1;unfold uW at N;refine yK func132 fun B=>wQ []<|zZ<|yG [7,8] rfl<|xY<|qI [(0,vS p s c),(1,fv),(7,vI (s.length:Int)),(8,vI 0)] ?_;obtain ⟨o0,aD,aM⟩:=zB N;refine fM s f0 0 o0 aD iR h h1 (fun _ _ _ h=>h) (fun _ _ h=>h) ?_ ?_
 · intro aW  heq ae;subst o0;refine zS<|wP [4] rfl<|zH<|yY ?_;obtain rfl:=zC aM;exact xA ⟨_,_,(.tmp rfl ResV.nil),(fun _ h=>h),⟨_,rfl,rfl,rfl⟩⟩
 intro r0 I9 hs9 m9 aY le9 ba;subst aY;refine zW<|zG ?_;obtain rfl:=zC aM;exact xA ba
def oN (d0:yR) (x:(List Int)):Option (Bool):=do
 let x1<-idx x d0.To
 let x2<-idx x d0.From
 pure (decide (x1<x2))
theorem zG8:∀ d0 x r,oN d0 x=some r->∀ {I:Imm}{ad:Addr}{p c},(S4 I p x c)->(At I ad [vS p x c])->RT 133 [vA [vI d0.From,vI d0.To,vI d0.Kinds],.pointer (some ad)] I [] (zU  r):=by
 intro d0 x r N I ad p c h aq;unfold oN at N;refine yK func133 fun B=>yF<|tT [vI d0.From,vI d0.To,vI d0.Kinds] ?_;intro b hb;refine wI [] []<|zZ<|kI (by kernel_rfl) (by kernel_rfl)<|fA 0 aq [vS p x c] (vS p x c) rfl<|fP 3 [0] [6] rfl<|bE N fun x1 hy N=>dW rfl rfl h hy ?_;intro ad1 aP av am;obtain rfl:=am;refine fA 0 av [vI x1] (vI x1) rfl<|fA 0 aq [vS p x c] (vS p x c) rfl<|fP 8 [0] [11] rfl<|bE N fun x2 aA N=>dW rfl rfl h aA ?_;intro ad2 bv bb ax;obtain rfl:=ax;refine fA 0 bb [vI x2] (vI x2) rfl<|zGr [] [3] rfl<|zH<|yY ?_;obtain rfl:=zC N;exact wF
def pM (order:(List Int)) (t13:Int) (x:List Int):Option (List Int):=do
 if (decide (t13<(order.length:Int))) then
  let x2<-idx order t13
  let x3<-idx x x2
  let l1<-pure (x.set x2.toNat t13)
  pM order (W (t13+1)) l1
 else
  pure (id x)
 partial_fixpoint
theorem zFi (order:(List Int)):∀ (t13:Int) (x:List Int) (o:List Int),pM order t13 x=some o->∀ {B}{I0 I:Imm}{Q}{deps:(List yR)}{p c p1 c1}{b1:Nat}{p2 c2 az},I0.le I->(S4 I p deps c)->(S4 I p1 order c1)->(RL I az x)->NG Q->NO Q->(∀ (I':Imm) (x1:List Int) (p3:Option Addr) (c3:Nat) (aR:List Value),o=x1->I0.le I'->(RL I' aR x1)->T 26 B Q (.exit 0) I' [hB b1 [vS p3 x1 c3],hO Int (vS p3 x1 c3) aR] [(0,vS p deps c),(5,vP b1 0)])->J Tryz.prog 26 B (nav (bodyOf f89) [1,1,0,1,0]) Q I [hB b1 [vS p2 x c2],hO Int (vS p2 x c2) az] [(0,vS p deps c),(5,vP b1 0),(11,vS p1 order c1),(12,vI (order.length:Int)),(13,vI t13)]:=by
 refine pM.partial_correctness order _ fun aI ih t13 x o N B I0 I Q deps p c p1 c1 b1 p2 c2 az H h h1 h3 hg ho hx=>yO hg ho<|yG [14] rfl<|zZ<|yE N ?_ ?_
 · intro hc N;refine zT<|zZ<|yH<|yF<|yC 1 [] [15] rfl<|bE N fun x2 aA N=>xL rfl rfl h1 aA ?_;intro ad aP aq am;obtain rfl:=am;refine xE 0 aq [vI x2] (vI x2) rfl<|yI [] [6,7] rfl<|zH<|zJ<|yC 3 [0] [18,19,20] rfl<|bE N fun x3 aK N=>oH 1 rfl rfl rfl h3 aK ?_;intro ad1 bv av bM ax;obtain rfl:=ax;obtain ⟨l1,bi,N⟩:=zB N;refine tW (c:=[vI t13]) (x':=t13) 1 0 rfl rfl rfl av rfl rfl bM (by kernel_rfl) (by kernel_rfl) (by kernel_rfl) h3 aK (by kernel_rfl) rfl ?_;rw [show x.set x2.toNat t13=l1 from zC bi];intro aS h5 hl0;exact kH (m':=[(0,vS p deps c),(5,vP b1 0),(11,vS p1 order c1),(12,vI (order.length:Int)),(13,vI t13),(18,vS p2 x c2),(19,vI x2),(20,vI t13)]) ⟨rfl,rfl,rfl,rfl,rfl,rfl,rfl,rfl,trivial⟩<|zA5 (ah:=[hB b1 [vS p2 l1 c2],hO Int (vS p2 l1 c2) aS]) (m':=[(0,vS p deps c),(5,vP b1 0),(11,vS p1 order c1),(12,vI (order.length:Int)),(13,vI t13),(18,vS p2 l1 c2),(19,vI x2),(20,vI t13)]) (by first | rfl | simp only [vS,hl0,cu,dj,dq,dg,cY,cZ]) (by first | rfl | simp only [vS,hl0])<|yD rfl<|zN<|zH<|zJ<|yI [] [13] rfl<|yM<|nT<|ih (W (t13+1)) l1 _ N H h h1 h5 hg ho hx
 intro hc N;exact wL<|yN<|hx _ _ _ _ _ (zC N).symm H h3
def fK (deps:(List yR)) (order:(List Int)):Option (Int):=do
 let l<-mkrow 8 (order.length:Int) (0:Int)
 let x1<-pM order 0 l
 let y<-uW deps (fun x0=>oN x0 x1)
 pure (id y)
theorem zID:∀ deps order r,fK deps order=some r->∀ {I:Imm}{p c p1 c1},(S4 I p deps c)->(S4 I p1 order c1)->RT 89 [vS p deps c,vS p1 order c1] I [] (yQ  r):=by
 intro deps order r N I p c p1 c1 h h1;unfold fK at N;refine yK func89 fun B=>wQ []<|yV<|yC 2 [] [9] rfl<|bE N fun l hy N=>zP9 8 [vI 0] rfl hy rfl fun b cs h2=>wS [z0] ?_;intro b1 hb;refine xJ 0 [vS (some ⟨b,0,none⟩) l l.length] rfl<|yD rfl<|zZ<|yG [11,12,13] rfl<|xY<|qI [(0,vS p deps c),(5,vP b1 0),(11,vS p1 order c1),(12,vI (order.length:Int)),(13,vI 0)] ?_;obtain ⟨o0,aD,aM⟩:=zB N;refine zFi order 0 l o0 aD iR h h1 h2 (fun _ _ _ h=>h) (fun _ _ h=>h) ?_;intro I0 x1 p3 c3 aR heq le h4;subst o0;have h:=h.mono le;refine zS<|yV<|yC 2 [] [23,24] rfl<|xI 1 rfl ?_;intro aW ae hl01;have h6:=SL.of_frozen hl01 ae h4;have h:=h.mono ae;refine xI 0 rfl ?_;intro aX aF hl02;have bb:At aX ⟨b1,0,none⟩ [vS p3 x1 c3]:=At.of_blk hl02;have ⟨h,h6⟩:=m2 aF h h6;have hf0:FV1 Tryz.prog aX [] (.func (.func 133) ⟨[]⟩ ⟨[vP b1 0]⟩) (fun x0=>oN x0 x1):=by
   refine FV1.intro ?_;intro I1 ae x0 r u0 hF k0;obtain ⟨_,rfl,k0⟩:=k0;obtain rfl:=zBe k0;exact (zG8 x0 x1 r hF (h6.mono ae) (bb.mono ae)).mono (by rintro k i hs u ⟨v0,rfl,rfl,h⟩; exact ⟨rfl,h⟩)
 obtain ⟨y,bu,N⟩:=zB aM;refine xM (eN deps (fun x0=>oN x0 x1) _ bu h hf0) ?_;rintro bG ay v2 k2 aJ - ⟨v0,rfl,rfl,rfl⟩ -;refine yI [] [4] rfl<|zH<|yY ?_;obtain rfl:=zC N;exact wF
def zAq (p:zD) (order:(List Int)):Option (Bool):=do
 let t6<-(do
   let y<-oE p order
   if y then
    let y1<-kM p
    let y2<-fK y1 order
    pure (decide (y2<0))
   else
    pure false
     : Option Bool)
 pure (id t6)
theorem zIh:∀ p order r,zAq p order=some r->∀ {I:Imm}{p1 c p2 c1 p3 c2},(S4 I p1 p.Arrays c)->(S4 I p2 p.Parts c1)->(S4 I p3 order c2)->RT 46 [vA (cProg p p1 c p2 c1),vS p3 order c2,.func (.func 47) ⟨[]⟩ ⟨[]⟩] I [] (zU  r):=by
 intro p order r N I p1 c p2 c1 p3 c2 h h1 h2;unfold zAq at N;refine yK func46 fun B=>?_;have H:=iS I;refine yF<|tT (cProg p p1 c p2 c1) ?_;intro b hb;refine wI [] []<|zH<|yB ?_;refine wR N [] (fun t6=>[(6,.bool t6)]) (fun o0 aD=>?_) ?_
 · have H:=iS I;refine zJ<|rH 2 [0] [(7,vA (cProg p p1 c p2 c1)),(8,vS p3 order c2)] ?_;obtain ⟨y,hy,N⟩:=zB aD;refine vU (zBG p order _ hy h h1 h2) ?_;intro aW le;have ⟨h2,h,h1,H⟩:=m4 le h2 h h1 H;refine yC 4 [] [10] rfl<|xW [10] N ?_ ?_
   · intro hc N;refine rH 6 [0] [(11,.func (.func 47) ⟨[]⟩ ⟨[]⟩),(12,vA (cProg p p1 c p2 c1))]<|bE N fun y1 aA N=>xM (zEA p _ aA h h1) ?_;rintro aX ay v2 k2 ae - ⟨v01,rfl,rfl,h4⟩ -;have ⟨h2,H⟩:=m2 ae h2 H;obtain ⟨p4,c3,rfl⟩:=h4.form;refine yC 8 [] [14] rfl<|bE N fun y2 aK N=>fB (zID y1 order _ aK h4 h2) ?_;intro bG aF;have H:=H.trans aF;exact yI [] [6] rfl<|xR zQ<|yN<|zV (ct N H)
   intro hc N;exact wI [] [(6,vF)]<|xR zQ<|yN<|zV (ct N H)
 intro t6 I0 aJ aV;refine zH<|yY ?_;obtain rfl:=zC aV;exact wF
def mI (p:zD) (order:(List Int)):Option (Bool):=do
 let y<-zAq p order
 pure (id y)
theorem zEk:∀ p order r,mI p order=some r->∀ {I:Imm}{p1 c p2 c1 p3 c2},(S4 I p1 p.Arrays c)->(S4 I p2 p.Parts c1)->(S4 I p3 order c2)->RT 15 [vA (cProg p p1 c p2 c1),vS p3 order c2] I [] (zU  r):=by
 intro p order r N I p1 c p2 c1 p3 c2 h h1 h2;unfold mI at N;refine yK func15 fun B=>yF<|tT (cProg p p1 c p2 c1) ?_;intro b hb;refine wI [] []<|yV<|rH 2 [0] [(5,vA (cProg p p1 c p2 c1)),(6,vS p3 order c2)]<|bE N fun y hy N=>vU (zIh p order _ hy h h1 h2) fun I0 le=>wI [] [(4,.bool y)]<|zH<|yY ?_;obtain rfl:=zC N;exact wF
def mW (code:(List UInt8)):Option (Bool):=do
 if (decide ((code.length:Int)>1048576)) then
  pure true
 else
  let (y1,y2,y3,y4)<-qR code
  let (y6,y7)<-mD y1 y2 y3 y4
  let (y9,y10)<-mE y1 y2 y3 y4
  let t49<-(do
    if (!(y7==y10)) then
     pure true
    else
     let y11<-fJ y6 y9
     if (!y11) then
      pure true
     else
      pure (!y7)
      : Option Bool)
  if t49 then
   let t2<-(do
     if (y7==y10) then
      let y12<-fJ y6 y9
      pure (id y12)
     else
      pure false
       : Option Bool)
   pure (id t2)
  else
   let t21<-(do
     let y13<-oE y1 y6
     if y13 then
      let y14<-oF y1 y2 y3
      if (!y14) then
       pure true
      else
       let y15<-mI y1 y6
       pure (id y15)
     else
      pure false
       : Option Bool)
   pure (id t21)
theorem zJP:∀ code r,mW code=some r->∀ {I:Imm}{p c},(S4 I p code c)->RT 3 [vS p code c] I [] (zU  r):=by
 intro code r N I p c h;unfold mW at N;refine yK func3 fun B=>?_;have H:=iS I;refine wQ []<|zZ<|yG [13] rfl<|zH<|yE N ?_ ?_
 · intro hc N;refine wQ [(2,vY)]<|xD<|zG ?_;obtain rfl:=zC N;exact wF
 intro hc N;refine zT<|yV<|yC 1 [] [15] rfl ?_;obtain ⟨⟨y1,y2,y3,y4⟩,hy,N⟩:=zB N;refine xM (zBN code _ hy h) ?_;rintro I0 ay v2 k2 le - ⟨v0,v01,v02,v03,rfl,rfl,⟨cs,rfl,h1⟩,rfl,rfl,h4⟩ -;have H:=H.trans le;obtain ⟨p1,c1,p2,c2,rfl,h5,h6⟩:=mJ h1;obtain ⟨p3,c3,rfl⟩:=h4.form;refine yC 7 [] [17,18,19,20] rfl<|wS zTwo ?_;intro b hb;refine xJ 0 (cProg y1 p1 c1 p2 c2) rfl<|yI [] [4,5,6] rfl<|yV<|rH 4 [0] [(22,vA (cProg y1 p1 c1 p2 c2)),(23,vI y2),(24,vI y3),(25,vS p3 y4 c3)] ?_;obtain ⟨⟨y6,y7⟩,aA,N⟩:=zB N;refine xM (zCy y1 y2 y3 y4 _ aA h5 h6 h4) ?_;rintro aW ay v2 k2 ae - ⟨v06,v07,rfl,rfl,h7,rfl⟩ -;have ⟨h4,h5,h6,H⟩:=m4 ae h4 h5 h6 H;obtain ⟨p4,c4,rfl⟩:=h7.form;refine yI [] [7,8] rfl<|yV<|rH 4 [0] [(30,vA (cProg y1 p1 c1 p2 c2)),(31,vI y2),(32,vI y3),(33,vS p3 y4 c3)] ?_;obtain ⟨⟨y9,y10⟩,aK,N⟩:=zB N;refine xM (zDA y1 y2 y3 y4 _ aK h5 h6 h4) ?_;rintro aX ay v2 k2 aF - ⟨v08,v09,rfl,rfl,h9,rfl⟩ -;have ⟨h7,h5,h6,H⟩:=m4 aF h7 h5 h6 H;obtain ⟨p5,c5,rfl⟩:=h9.form;refine yI [] [9,10] rfl<|zZ<|yB ?_;refine wR N [hB b (cProg y1 p1 c1 p2 c2)] (fun t49=>[(3,vP b 0),(4,vI y2),(5,vI y3),(7,vS p4 y6 c4),(8,.bool y7),(9,vS p5 y9 c5),(10,.bool y10),(49,.bool t49)]) (fun o0 aD=>?_) ?_
 · have H:=iS aX;refine zJ<|yC 4 [] [40] rfl<|xW [40] aD ?_ ?_
   · intro aH N;exact wI [] [(49,vY)]<|yN<|zV (ct N H)
   intro aH N;refine yC 6 [] [41,42] rfl<|bE N fun y11 bi N=>vU (zD1 y6 y9 _ bi h7 h9) ?_;intro bL aJ;have H:=H.trans aJ;refine yC 10 [] [46] rfl<|xW [46] N ?_ ?_
   · intro aZ N;exact wI [] [(49,vY)]<|yN<|zV (ct N H)
   intro aZ N;exact yI [] [49] rfl<|yN<|zV (ct N H)
 intro t49 bG bd aV;have ⟨h7,h9,h5,h6,H⟩:=m5 bd h7 h9 h5 h6 H;refine zH<|yE aV ?_ ?_
 · intro bK N;refine yB ?_;refine wR N [] (fun t2=>[(2,.bool t2)]) (fun aQ aB=>?_) ?_
   · have H:=iS bG;refine zJ<|yC 4 [] [53] rfl<|xW [53] aB ?_ ?_
     · intro bO N;refine yC 6 [] [54,55] rfl<|bE N fun y12 bu N=>vU (zD1 y6 y9 _ bu h7 h9) ?_;intro I06 bw;have H:=H.trans bw;exact yI [] [2] rfl<|xR zQ<|yN<|zV (ct N H)
     intro bO N;exact wI [] [(2,vF)]<|xR zQ<|yN<|zV (ct N H)
   intro t2 bR bC hMc1;refine xD<|zG ?_;obtain rfl:=zC hMc1;exact wF
 intro bK N;refine zT<|zH<|yB ?_;refine wR N [] (fun t21=>[(2,.bool t21)]) (fun o02 ho02=>?_) ?_
 · have H:=iS bG;refine zJ<|rH 2 [0] [(58,vA (cProg y1 p1 c1 p2 c2)),(59,vS p4 y6 c4)] ?_;obtain ⟨y13,bJ,N⟩:=zB ho02;refine vU (zBG y1 y6 _ bJ h5 h6 h7) ?_;intro I08 le7;have ⟨h7,h5,h6,H⟩:=m4 le7 h7 h5 h6 H;refine yC 4 [] [61] rfl<|xW [61] N ?_ ?_
   · intro hc5 N;refine rH 7 [0] [(62,vA (cProg y1 p1 c1 p2 c2)),(63,vI y2),(64,vI y3)]<|bE N fun y14 hy6 N=>vU (zD3 y1 y2 y3 _ hy6 h5 h6) ?_;intro I09 le8;have ⟨h7,h5,h6,H⟩:=m4 le8 h7 h5 h6 H;refine yC 10 [] [67] rfl<|xW [67] N ?_ ?_
     · intro hc6 N;exact wI [] [(2,vY)]<|xR zQ<|yN<|zV (ct N H)
     intro hc6 N;refine rH 12 [0] [(68,vA (cProg y1 p1 c1 p2 c2)),(69,vS p4 y6 c4)]<|bE N fun y15 hy7 N=>vU (zEk y1 y6 _ hy7 h5 h6 h7) ?_;intro bS le9;have H:=H.trans le9;exact yI [] [2] rfl<|xR zQ<|yN<|zV (ct N H)
   intro hc5 N;exact wI [] [(2,vF)]<|xR zQ<|yN<|zV (ct N H)
 intro t21 I07 le10 hMc2;refine zH<|yY ?_;obtain rfl:=zC hMc2;exact wF
end Go.LN
