/- Helper of the proof (see the last text). -/
import Derived.Test.YtcmjkmdecmabaaaGreatHM6
set_option linter.unusedVariables false
set_option linter.unusedSimpArgs false
namespace Go.LN
open Go.Proofs Go.Proofs.Tryz
set_option maxRecDepth 20000
def zCq (r:(List zK)):KT:=fun kk I' ah v=>
  ∃ v0,ah=[]/\v=tupV [v0]/\SL I' v0 r
def wW (p:zD) (i:Int) (y:(List (List Int))) (k0:Int) (bf:List zK) (s:Int):Option (List zK):=do
 let x1<-idx p.Parts i
 if (decide (s<(x1.Body.length:Int))) then
  let x2<-idx y k0
  let l<-app 8 ([]:List Int) x2
  let out6<-app 40 bf ([(zK.mk i s l)]:List zK)
  wW p i y k0 out6 (W (s+1))
 else
  pure (id bf)
 partial_fixpoint
theorem zCX (p:zD) (i:Int) (y:(List (List Int))) (k0:Int):∀ (bf:List zK) (s:Int) (o:List zK),wW p i y k0 bf s=some o->∀ {B}{I0 I:Imm}{Q p1 c p2 c1}{b:Nat}{p7 c6 aS bi c9 bJ},I0.le I->(RL I aS y)->(S4 I p1 p.Arrays c)->(S4 I p2 p.Parts c1)->(RL I bJ bf)->NG Q->NO Q->(∀ (I':Imm) (out5:List zK) (aR:Option Addr) (bh:Nat) (cs6:List Value),o=out5->I0.le I'->(RL I' cs6 out5)->T 54 B Q (.exit 4) I' [hO (List Int) (vS p7 y c6) aS,hO zK (vS aR out5 bh) cs6,hB b (cProg p p1 c p2 c1)] [(1,vP b 0),(3,vS aR out5 bh),(4,vI i),(5,vS p7 y c6),(6,vI k0)])->J Tryz.prog 54 B (nav (bodyOf f36) [1,1,0,1,0,0,1,0,0,1,1,0,0,1,0,0,1,0]) Q I [hO (List Int) (vS p7 y c6) aS,hO zK (vS bi bf c9) bJ,hB b (cProg p p1 c p2 c1)] [(1,vP b 0),(3,vS bi bf c9),(4,vI i),(5,vS p7 y c6),(6,vI k0),(7,vI s)]:=by
 refine wW.partial_correctness p i y k0 _ fun aJ ih bf s o N B I0 I Q p1 c p2 c1 b p7 c6 aS bi c9 bJ H h8 h h1 h11 hg ho hx=>yM hg ho<|zZ<|yE<|yB 4 [2] [30,32,33] rfl<|bE N fun x1 aN N=>xK rfl rfl h1 aN ?_;intro ad1 bv av ax;obtain ⟨bD,bc,bq,bo,rfl,h13,h14⟩:=wR ax;refine yB 6 [] [35] rfl<|xB 1 av [vS bq x1.Body bo] (vS bq x1.Body bo) rfl<|yH [] [38] rfl<|zG<|yC N ?_ ?_
 · intro aX N;refine zS<|zX<|yG<|zJ<|yB 3 [] [41,42,43] rfl<|uK [] Int ?_;intro b3 hb3;have h15:RL I [] ([]:List Int):=rfl;refine yB 6 [] [45,46] rfl<|bE N fun x2 bm N=>pQ 1 rfl rfl rfl h8 bm ?_;intro ad2 bP aY bM bd;obtain ⟨v04,rfl,h16⟩:=bd;obtain ⟨p14,bB,rfl⟩:=h16.form;refine zAH 1 0 aY bM [vS p14 x2 bB] (vS p14 x2 bB) rfl rfl ?_;obtain ⟨ccs3,k01,k02⟩:=h16;have h16:SL I (vS p14 x2 bB) x2:=⟨_,k01,k02⟩;obtain ⟨l,bw,N⟩:=zB N;refine sU 3 1 0 rfl rfl rfl h15 (.inl k01) k02 bw fun p15 c14 cs7 h17=>tZ (zY [0,1,2,3] (ah:=[hO Int (vS p15 l c14) cs7,hO (List Int) (vS p7 y c6) aS,hO zK (vS bi bf c9) bJ,hB b (cProg p p1 c p2 c1)]))<|yB 10 [] [50] rfl<|xH 0 rfl ?_;intro aW af hl0;have h18:=SL.of_frozen hl0 af h17;have ⟨h8,h11,h,h1,H⟩:=m5 af h8 h11 h h1 H;refine uK [vI i,vI s,vS p15 l c14] zK ?_;intro b4 hb4;have h19:RL aW [vI i,vI s,vS p15 l c14] ([(zK.mk i s l)]:List zK):=⟨[vI i,vI s,vS p15 l c14],_,rfl,rfl,(zAo ⟨_,rfl,h18⟩),rfl⟩;obtain ⟨out6,bI,N⟩:=zB N;exact sU 86 3 2 rfl rfl rfl h11 (.inr ⟨0,rfl⟩) h19 bI fun p16 c15 cs8 h20=>tZ (zY [1,2,3] (ah:=[hO (List Int) (vS p7 y c6) aS,hO zK (vS p16 out6 c15) cs8,hB b (cProg p p1 c p2 c1)]))<|yH [] [3] rfl<|zM<|zG<|zJ<|yH [] [7] rfl<|yK<|oY<|ih out6 (W (s+1)) _ N H h8 h h1 h20 hg ho hx
 intro aX N;exact wJ<|yL<|hx _ _ _ _ _ (zC N).symm H h11
def wX (p:zD) (i:Int) (y:(List (List Int))) (au:List zK) (k0:Int):Option (List zK):=do
 if (decide (k0<(y.length:Int))) then
  let out5<-wW p i y k0 au 0
  wX p i y out5 (W (k0+1))
 else
  pure (id au)
 partial_fixpoint
theorem zCY (p:zD) (i:Int) (y:(List (List Int))):∀ (au:List zK) (k0:Int) (o:List zK),wX p i y au k0=some o->∀ {B}{I0 I:Imm}{Q p1 c p2 c1}{b:Nat}{p7 c6 aS p8 c7 aT},I0.le I->(RL I aS y)->(S4 I p1 p.Arrays c)->(S4 I p2 p.Parts c1)->(RL I aT au)->NG Q->NO Q->(∀ (I':Imm) (aH:List zK) (p9:Option Addr) (c8:Nat) (bt:List Value),o=aH->I0.le I'->(RL I' bt aH)->T 54 B Q (.exit 2) I' [hO zK (vS p9 aH c8) bt,hB b (cProg p p1 c p2 c1)] [(1,vP b 0),(3,vS p9 aH c8),(4,vI i)])->J Tryz.prog 54 B (nav (bodyOf f36) [1,1,0,1,0,0,1,0,0,1,1,0]) Q I [hO (List Int) (vS p7 y c6) aS,hO zK (vS p8 au c7) aT,hB b (cProg p p1 c p2 c1)] [(1,vP b 0),(3,vS p8 au c7),(4,vI i),(5,vS p7 y c6),(6,vI k0)]:=by
 refine wX.partial_correctness p i y _ fun aJ ih au k0 o N B I0 I Q p1 c p2 c1 b p7 c6 aS p8 c7 aT H h8 h h1 h9 hg ho hx=>yM hg ho<|zZ<|yF [27] rfl<|zG<|yC N ?_ ?_
 · intro aI N;refine zS<|zX<|yG<|yF [7] rfl<|xX<|rU [(1,vP b 0),(3,vS p8 au c7),(4,vI i),(5,vS p7 y c6),(6,vI k0),(7,vI 0)] ?_;obtain ⟨o0,aD,aM⟩:=zB N;refine zCX p i y k0 au 0 o0 aD iR h8 h h1 h9 (fun _ _ _ h=>hg _ _ _ h) (fun _ _ h=>ho _ _ h) ?_;intro ba out5 aR bh cs6 heq aF h12;subst o0;have ⟨h8,h,h1,H⟩:=m4 aF h8 h h1 H;exact zR<|zM<|zG<|zJ<|yH [] [6] rfl<|yK<|oY<|ih out5 (W (k0+1)) _ aM H h8 h h1 h12 hg ho hx
 intro aI N;exact wJ<|xQ (zW [1,2] rfl (by decide))<|yL<|hx _ _ _ _ _ (zC N).symm H h9
def wY (p:zD) (out:List zK) (i:Int):Option (List zK):=do
 if (decide (i<(p.Parts.length:Int))) then
  let x<-idx p.Parts i
  let y<-uD ([]:List (List Int)) x.Nest ([]:List Int)
  let aH<-wX p i y out 0
  wY p aH (W (i+1))
 else
  pure (id out)
 partial_fixpoint
theorem zCZ (p:zD):∀ (out:List zK) (i:Int) (o:List zK),wY p out i=some o->∀ {B}{I0 I:Imm}{Q p1 c p2 c1}{b:Nat}{p3 c2 cs},I0.le I->(S4 I p1 p.Arrays c)->(S4 I p2 p.Parts c1)->(RL I cs out)->NG Q->NO Q->(∀ (I':Imm) (al:List zK) (p4:Option Addr) (c3:Nat) (az:List Value),o=al->I0.le I'->(RL I' az al)->T 54 B Q (.exit 0) I' [hO zK (vS p4 al c3) az] [(3,vS p4 al c3)])->J Tryz.prog 54 B (nav (bodyOf f36) [1,1,0,1,0]) Q I [hO zK (vS p3 out c2) cs,hB b (cProg p p1 c p2 c1)] [(1,vP b 0),(3,vS p3 out c2),(4,vI i)]:=by
 refine wY.partial_correctness p _ fun aJ ih out i o N B I0 I Q p1 c p2 c1 b p3 c2 cs H h h1 h3 hg ho hx=>yM hg ho<|zZ<|yE<|yH [1] [13] rfl<|zG<|yC N ?_ ?_
 · intro hc N;refine zS<|zX<|yG<|yE<|uK [] (List Int) ?_;intro b2 hb2;have h5:RL I [] ([]:List (List Int)):=rfl;refine yB 4 [2] [18,19] rfl<|bE N fun x hy N=>xK rfl rfl h1 hy ?_;intro ad aQ ar ap;obtain ⟨p5,c4,p6,c5,rfl,h6,h7⟩:=wR ap;refine yB 6 [] [21] rfl<|xB 0 ar [vS p5 x.Nest c4] (vS p5 x.Nest c4) rfl<|bE N fun y aB N=>sJ (zBs ([]:List (List Int)) x.Nest ([]:List Int) _ aB h5 h6 (SL.nil _)) rfl ?_;rintro I0 ay v2 k2 le - ⟨p7,c6,aS,rfl,rfl,h8⟩ -;have ⟨h3,h,h1,H⟩:=m4 le h3 h h1 H;refine yH [] [5] rfl<|wM [6] rfl<|xX<|rU [(1,vP b 0),(3,vS p3 out c2),(4,vI i),(5,vS p7 y c6),(6,vI 0)] ?_;obtain ⟨aP,aA,hMl1⟩:=zB N;refine zCY p i y out 0 aP aA iR h8 h h1 h3 (fun _ _ _ h=>hg _ _ _ h) (fun _ _ h=>ho _ _ h) ?_;intro bH aH p9 c8 bt heq1 aK h10;subst aP;have ⟨h,h1,H⟩:=m3 aK h h1 H;exact zR<|zM<|zG<|zJ<|yH [] [4] rfl<|yK<|oY<|ih aH (W (i+1)) _ hMl1 H h h1 h10 hg ho hx
 intro hc N;exact wJ<|xQ (zW [0] rfl (by decide))<|yL<|hx _ _ _ _ _ (zC N).symm H h3
def pF (p:zD):Option ((List zK)):=do
 let al<-wY p ([]:List zK) 0
 pure (id al)
theorem zDs:∀ p r,pF p=some r->∀ {I:Imm}{p1 c p2 c1},(S4 I p1 p.Arrays c)->(S4 I p2 p.Parts c1)->RT 36 [vA (cProg p p1 c p2 c1)] I [] (zCq  r):=by
 intro p r N I p1 c p2 c1 h h1;unfold pF at N;refine yJ func36 fun B=>yE<|tO (cProg p p1 c p2 c1) ?_;intro b hb;refine wG [] []<|yX<|uK [] zK ?_;intro b1 hb1;have h2:RL I [] ([]:List zK):=rfl;refine yH [] [3] rfl<|zX<|yF [4] rfl<|xX<|rU [(1,vP b 0),(3,vS (some ⟨b1,0,none⟩) ([]:List zK) 0),(4,vI 0)] ?_;obtain ⟨o02,ho02,hMl2⟩:=zB N;refine zCZ p ([]:List zK) 0 o02 ho02 iR h h1 h2 (fun _ _ _ h=>h) (fun _ _ h=>h) ?_;intro bL al p4 c3 az heq2 bk h4;subst o02;refine zR<|wM [2] rfl<|xD<|yU 0 rfl ?_;intro bR bz hl01;have h21:=SL.of_frozen hl01 bz h4;obtain rfl:=zC hMl2;exact yZ ⟨_,_,(.tmp rfl ResV.nil),zQ,⟨_,rfl,rfl,h21⟩⟩
def zF8 (r:(List Int)):KT:=fun kk I' ah v=>
  ∃ a0 c0 s0,ah=[.osl (.slice a0 r.length c0) (Rp.sz Int) s0]/\v=tupV [(.slice a0 r.length c0)]/\RepL (Rp.rep I') (Rp.sz Int) s0 r
def qI (list:(List zK)) (from0:Int) (to0:Int) (out:List Int) (i:Int):Option (List Int):=do
 if (decide (i<(list.length:Int))) then
  let t31<-(do
    let x<-idx list i
    if (decide (x.Part>=from0)) then
     let x1<-idx list i
     pure (decide (x1.Part<to0))
    else
     pure false
      : Option Bool)
  let au<-(do
    if t31 then
     let aH<-app 8 out ([i]:List Int)
     pure (id aH)
    else
     pure (id out)
      : Option (List Int))
  qI list from0 to0 au (W (i+1))
 else
  pure (id out)
 partial_fixpoint
theorem zE8 (list:(List zK)) (from0:Int) (to0:Int):∀ (out:List Int) (i:Int) (o:List Int),qI list from0 to0 out i=some o->∀ {B}{I0 I:Imm}{Q p c p1 c1 cs},I0.le I->(S4 I p list c)->(RL I cs out)->NG Q->NO Q->(∀ (I':Imm) (al:List Int) (p2:Option Addr) (c2:Nat) (az:List Value),o=al->I0.le I'->(RL I' az al)->T 37 B Q (.exit 0) I' [hO Int (vS p2 al c2) az] [(7,vS p2 al c2)])->J Tryz.prog 37 B (nav (bodyOf f37) [1,1,0,1,0]) Q I [hO Int (vS p1 out c1) cs] [(0,vS p list c),(1,vI from0),(2,vI to0),(7,vS p1 out c1),(8,vI i)]:=by
 refine qI.partial_correctness list from0 to0 _ fun aJ ih out i o N B I0 I Q p c p1 c1 cs H h h2 hg ho hx=>yM hg ho<|zZ<|yF [13] rfl<|zG<|yC N ?_ ?_
 · intro hc N;refine zS<|zX<|yG<|zZ ?_;refine wO N [hO Int (vS p1 out c1) cs] (fun t31=>[(0,vS p list c),(1,vI from0),(2,vI to0),(7,vS p1 out c1),(8,vI i),(31,.bool t31)]) (fun o0 aD=>?_) ?_
   · have H:=iS I;refine zJ<|yB 2 [] [16,17] rfl ?_;obtain ⟨x,hy,N⟩:=zB aD;refine xK rfl rfl h hy ?_;intro ad aQ ar ap;obtain ⟨p3,c3,rfl,h4⟩:=vO ap;refine yB 4 [] [19] rfl<|xB 0 ar [vI x.Part] (vI x.Part) rfl<|yB 8 [] [23] rfl<|xV [23] N ?_ ?_
     · intro aI N;refine yB 10 [] [24,25] rfl<|bE N fun x1 aB N=>xK rfl rfl h aB ?_;intro ad1 bv av ax;obtain ⟨p4,c4,rfl,h5⟩:=vO ax;exact yB 12 [] [27] rfl<|xB 0 av [vI x1.Part] (vI x1.Part) rfl<|yH [] [31] rfl<|yL<|zU (ct N H)
     intro aI N;exact wG [] [(31,vF)]<|yL<|zU (ct N H)
   intro t31 I0 le aU;have ⟨h,h2,H⟩:=m3 le h h2 H;refine zG ?_;obtain ⟨aP,aA,hMc1⟩:=zB aU;refine qF (fun I' ah m'=>∃ (au:List Int) (p5:Option Addr) (c5:Nat) (aS:List Value),aP=au/\I0.le I'/\(RL I' aS au)/\ah=[hO Int (vS p5 au c5) aS]/\m'=[(0,vS p list c),(1,vI from0),(2,vI to0),(7,vS p5 au c5),(8,vI i)]) ?_ ?_
   · have H:=iS I0;refine yC aA ?_ ?_
     · intro aX N;refine zJ<|yB 2 [] [32,33] rfl<|uK [vI i] Int ?_;intro b1 hb1;have h7:RL I0 [vI i] ([i]:List Int):=rI [i];obtain ⟨aH,aN,N⟩:=zB N;exact sU 3 1 1 rfl rfl rfl h2 (.inr ⟨0,rfl⟩) h7 aN fun p6 c6 aT h8=>tZ (zY [1] (ah:=[hO Int (vS p6 aH c6) aT]))<|yH [] [7] rfl<|yL<|zU ⟨_,_,_,_,(zC N).symm,H,h8,rfl,rfl⟩
     intro aX N;exact zS<|yL<|zU ⟨_,_,_,_,(zC N).symm,H,h2,rfl,rfl⟩
   rintro aW ay m2 ⟨au,p5,c5,aS,heq1,af,h6,rfl,rfl⟩;subst aP;have ⟨h,H⟩:=m2 af h H;exact zM<|zG<|zJ<|yH [] [8] rfl<|yK<|oY<|ih au (W (i+1)) _ hMc1 H h h6 hg ho hx
 intro hc N;exact wJ<|yL<|hx _ _ _ _ _ (zC N).symm H h2
def gD (list:(List zK)) (from0:Int) (to0:Int):Option ((List Int)):=do
 let al<-qI list from0 to0 ([]:List Int) 0
 pure (id al)
theorem zCg:∀ list from0 to0 r,gD list from0 to0=some r->∀ {I:Imm}{p c},(S4 I p list c)->RT 37 [vS p list c,vI from0,vI to0] I [] (zF8  r):=by
 intro list from0 to0 r N I p c h;unfold gD at N;refine yJ func37 fun B=>wP []<|yX<|uK [] Int ?_;intro b hb;have h1:RL I [] ([]:List Int):=rfl;refine yH [] [7] rfl<|zX<|yF [8] rfl<|xX<|rU [(0,vS p list c),(1,vI from0),(2,vI to0),(7,vS (some ⟨b,0,none⟩) ([]:List Int) 0),(8,vI 0)] ?_;obtain ⟨o02,ho02,aM⟩:=zB N;refine zE8 list from0 to0 ([]:List Int) 0 o02 ho02 iR h h1 (fun _ _ _ h=>h) (fun _ _ h=>h) ?_;intro ba al p2 c2 az heq2 aF h3;subst o02;refine zR<|wM [6] rfl<|zG<|yW ?_;obtain rfl:=zC aM;exact yZ ⟨_,_,(.tmp rfl ResV.nil),(zW [0] rfl (by decide)),⟨_,_,_,rfl,rfl,h3⟩⟩
def nP (a0:(List Int)) (b:(List Int)) (i:Int):Option (Out Unit (Bool)):=do
 if (decide (i<(a0.length:Int))) then
  let x<-idx a0 i
  let x1<-idx b i
  if (x != x1) then
   pure (.ret false)
  else
   nP a0 b (W (i+1))
 else
  pure (.done ())
 partial_fixpoint
theorem zF9 (a0:(List Int)) (b:(List Int)):∀ (i:Int) (o:Out Unit (Bool)),nP a0 b i=some o->∀ {B}{I0 I:Imm}{Q p c p1 c1},I0.le I->(S4 I p a0 c)->(S4 I p1 b c1)->NG Q->NO Q->(∀ (I':Imm) ,o=(.done ())->I0.le I'->T 26 B Q (.exit 0) I' [] [])->(∀ r I' ah m',o=(.ret r)->I0.le I'->RS Tryz.prog f76 B (zT  r) I' ah m'->T 26 B Q .ret I' ah m')->J Tryz.prog 26 B (nav (bodyOf f76) [1,1,0,1,0]) Q I [] [(0,vS p a0 c),(1,vS p1 b c1),(5,vI i)]:=by
 refine nP.partial_correctness a0 b _ fun aJ ih i o N B I0 I Q p c p1 c1 H h h1 hg ho hx hr=>yM hg ho<|zZ<|yF [14] rfl<|zG<|yC N ?_ ?_
 · intro aI N;refine zS<|zX<|yG<|zZ<|kF (by kernel_rfl) (by kernel_rfl)<|fL 2 [] [17,18] rfl<|bE N fun x hy N=>dQ rfl rfl h hy ?_;intro ad aQ ar ap;obtain rfl:=ap;refine gX 0 ar [vI x] (vI x) rfl<|fL 6 [] [21,22] rfl<|bE N fun x1 aB N=>dQ rfl rfl h1 aB ?_;intro ad1 bv av ax;obtain rfl:=ax;refine gX 0 av [vI x1] (vI x1) rfl<|zGo [] [25] rfl<|zG<|yC N ?_ ?_
   · intro aX N;exact wP [(4,vF)]<|xD<|zV<|zH<|zH<|hr _ _ _ _ (zC N).symm H ⟨_,_,(.tmp rfl ResV.nil),zQ,⟨_,rfl,rfl,rfl⟩⟩
   intro aX N;exact zS<|zM<|zG<|zJ<|yH [] [5] rfl<|yK<|oY<|ih (W (i+1)) _ N H h h1 hg ho hx hr
 intro aI N;exact wJ<|yL<|hx _  (zC N).symm H
def fD (a0:(List Int)) (b:(List Int)):Option (Bool):=do
 if ((a0.length:Int) != (b.length:Int)) then
  pure false
 else
  match<-nP a0 b 0 with
  | .ret r0=>pure r0
  | .done _ =>
   pure true
theorem zDQ:∀ a0 b r,fD a0 b=some r->∀ {I:Imm}{p c p1 c1},(S4 I p a0 c)->(S4 I p1 b c1)->RT 76 [vS p a0 c,vS p1 b c1] I [] (zT  r):=by
 intro a0 b r N I p c p1 c1 h h1;unfold fD at N;refine yJ func76 fun B=>wP []<|zX<|yF [10] rfl<|zG<|yC N ?_ ?_
 · intro hc N;refine wP [(4,vF)]<|xD<|zH ?_;obtain rfl:=zC N;exact wI
 intro hc N;refine zS<|zX<|yF [5] rfl<|xX<|rU [(0,vS p a0 c),(1,vS p1 b c1),(5,vI 0)] ?_;obtain ⟨o0,aD,aM⟩:=zB N;refine zF9 a0 b 0 o0 aD iR h h1 (fun _ _ _ h=>h) (fun _ _ h=>h) ?_ ?_
 · intro I0  heq le;subst o0;refine zR<|zEv [(4,vY)]<|zG<|yW ?_;obtain rfl:=zC aM;exact wI
 intro r0 I9 hs9 m9 aZ le9 bb;subst aZ;refine zV<|zH ?_;obtain rfl:=zC aM;exact yZ bb
def fJ (r:(List (List Int))):KT:=fun kk I' ah v=>
  ∃ v0,ah=[]/\v=tupV [v0]/\SL I' v0 r
def qJ (list:(List zK)) (group:(List Int)) (n0:Int) (out:List (List Int)) (i:Int):Option (List (List Int)):=do
 if (decide (i<(group.length:Int))) then
  let x<-idx group i
  let x1<-idx list x
  let l<-slc x1.Point 0 n0
  let t40<-(do
    if ((out.length:Int)==0) then
     pure true
    else
     let x2<-idx out (W ((out.length:Int) - 1))
     let y<-fD x2 l
     pure (!y)
      : Option Bool)
  let au<-(do
    if t40 then
     let aH<-app 24 out ([l]:List (List Int))
     pure (id aH)
    else
     pure (id out)
      : Option (List (List Int)))
  qJ list group n0 au (W (i+1))
 else
  pure (id out)
 partial_fixpoint
theorem zE9 (list:(List zK)) (group:(List Int)) (n0:Int):∀ (out:List (List Int)) (i:Int) (o:List (List Int)),qJ list group n0 out i=some o->∀ {B}{I0 I:Imm}{Q p c p1 c1 p2 c2 cs},I0.le I->(S4 I p list c)->(S4 I p1 group c1)->(RL I cs out)->NG Q->NO Q->(∀ (I':Imm) (al:List (List Int)) (p3:Option Addr) (c3:Nat) (az:List Value),o=al->I0.le I'->(RL I' az al)->T 46 B Q (.exit 0) I' [hO (List Int) (vS p3 al c3) az] [(7,vS p3 al c3)])->J Tryz.prog 46 B (nav (bodyOf f38) [1,1,0,1,0]) Q I [hO (List Int) (vS p2 out c2) cs] [(0,vS p list c),(1,vS p1 group c1),(2,vI n0),(7,vS p2 out c2),(8,vI i)]:=by
 refine qJ.partial_correctness list group n0 _ fun aJ ih out i o N B I0 I Q p c p1 c1 p2 c2 cs H h h1 h3 hg ho hx=>yM hg ho<|zZ<|yF [14] rfl<|zG<|yC N ?_ ?_
 · intro hc N;refine zS<|zX<|yG<|yE<|yB 3 [] [17,18,19] rfl<|bE N fun x hy N=>xK rfl rfl h1 hy ?_;intro ad aQ ar ap;obtain rfl:=ap;refine xB 0 ar [vI x] (vI x) rfl<|bE N fun x1 aB N=>xK rfl rfl h aB ?_;intro ad1 bv av ax;obtain ⟨p4,c4,rfl,h5⟩:=vO ax;refine yB 7 [] [23] rfl<|xB 2 av [vS p4 x1.Point c4] (vS p4 x1.Point c4) rfl<|yB 9 [] [25] rfl<|bE N fun l aN N=>zMa rfl h5 aN ?_;intro v01 h6;obtain ⟨p5,c5,rfl⟩:=h6.form;refine yH [] [9] rfl<|zG<|zZ ?_;refine wO N [hO (List Int) (vS p2 out c2) cs] (fun t40=>[(0,vS p list c),(1,vS p1 group c1),(2,vI n0),(7,vS p2 out c2),(8,vI i),(9,vS p5 l c5),(40,.bool t40)]) (fun o0 aD=>?_) ?_
   · have H:=iS I;refine zJ<|yB 4 [] [30] rfl<|xV [30] aD ?_ ?_
     · intro aI N;exact wG [] [(40,vY)]<|yL<|zU (ct N H)
     intro aI N;refine yB 8 [] [31,34] rfl<|bE N fun x2 bm N=>pQ 0 rfl rfl rfl h3 bm ?_;intro ad2 bP aY bM bd;obtain ⟨v02,rfl,h7⟩:=bd;obtain ⟨p6,c6,rfl⟩:=h7.form;refine zAH 0 0 aY bM [vS p6 x2 c6] (vS p6 x2 c6) rfl rfl<|yB 11 [] [37] rfl<|bE N fun y bw N=>vQ (zDQ x2 l _ bw h7 h6) ?_;intro aW le;have H:=H.trans le;exact yH [] [40] rfl<|yL<|zU (ct N H)
   intro t40 I0 af aU;have ⟨h,h1,h3,h6,H⟩:=m5 af h h1 h3 h6 H;refine zG ?_;obtain ⟨aP,aA,hMc1⟩:=zB aU;refine qF (fun I' ah m'=>∃ (au:List (List Int)) (p7:Option Addr) (c7:Nat) (aS:List Value),aP=au/\I0.le I'/\(RL I' aS au)/\ah=[hO (List Int) (vS p7 au c7) aS]/\m'=[(0,vS p list c),(1,vS p1 group c1),(2,vI n0),(7,vS p7 au c7),(8,vI i)]) ?_ ?_
   · have H:=iS I0;refine yC aA ?_ ?_
     · intro aX N;refine zJ<|yB 2 [] [41,42] rfl<|uK [vS p5 l c5] (List Int) ?_;intro b1 hb1;have h10:RL I0 [vS p5 l c5] ([l]:List (List Int)):=⟨[vS p5 l c5],_,rfl,rfl,⟨_,rfl,h6⟩,rfl⟩;obtain ⟨aH,bI,N⟩:=zB N;exact sU 27 1 1 rfl rfl rfl h3 (.inr ⟨0,rfl⟩) h10 bI fun p8 c8 aT h11=>tZ (zY [1] (ah:=[hO (List Int) (vS p8 aH c8) aT]))<|yH [] [7] rfl<|yL<|zU ⟨_,_,_,_,(zC N).symm,H,h11,rfl,rfl⟩
     intro aX N;exact zS<|yL<|zU ⟨_,_,_,_,(zC N).symm,H,h3,rfl,rfl⟩
   rintro ba ay m2 ⟨au,p7,c7,aS,heq1,aF,h9,rfl,rfl⟩;subst aP;have ⟨h,h1,H⟩:=m3 aF h h1 H;exact zM<|zG<|zJ<|yH [] [8] rfl<|yK<|oY<|ih au (W (i+1)) _ hMc1 H h h1 h9 hg ho hx
 intro hc N;exact wJ<|yL<|hx _ _ _ _ _ (zC N).symm H h3
def gE (list:(List zK)) (group:(List Int)) (n0:Int):Option ((List (List Int))):=do
 let al<-qJ list group n0 ([]:List (List Int)) 0
 pure (id al)
theorem zCh:∀ list group n0 r,gE list group n0=some r->∀ {I:Imm}{p c p1 c1},(S4 I p list c)->(S4 I p1 group c1)->RT 38 [vS p list c,vS p1 group c1,vI n0] I [] (fJ  r):=by
 intro list group n0 r N I p c p1 c1 h h1;unfold gE at N;refine yJ func38 fun B=>wP []<|yX<|uK [] (List Int) ?_;intro b hb;have h2:RL I [] ([]:List (List Int)):=rfl;refine yH [] [7] rfl<|zX<|yF [8] rfl<|xX<|rU [(0,vS p list c),(1,vS p1 group c1),(2,vI n0),(7,vS (some ⟨b,0,none⟩) ([]:List (List Int)) 0),(8,vI 0)] ?_;obtain ⟨o02,ho02,aM⟩:=zB N;refine zE9 list group n0 ([]:List (List Int)) 0 o02 ho02 iR h h1 h2 (fun _ _ _ h=>h) (fun _ _ h=>h) ?_;intro bH al p3 c3 az heq2 aK h4;subst o02;refine zR<|wM [6] rfl<|xD<|yU 0 rfl ?_;intro bL bk hl0;have h12:=SL.of_frozen hl0 bk h4;obtain rfl:=zC aM;exact yZ ⟨_,_,(.tmp rfl ResV.nil),zQ,⟨_,rfl,rfl,h12⟩⟩
def zBZ (r:(List Int)):KT:=fun kk I' ah v=>
  ∃ v0,ah=[]/\v=tupV [v0]/\SL I' v0 r
def qK (list:(List zK)) (part:Int) (prefix0:(List Int)) (out:List Int) (i:Int):Option (List Int):=do
 if (decide (i<(list.length:Int))) then
  let t34<-(do
    let x<-idx list i
    if (x.Part==part) then
     let x1<-idx list i
     let l<-slc x1.Point 0 (prefix0.length:Int)
     let y<-fD l prefix0
     pure (id y)
    else
     pure false
      : Option Bool)
  let au<-(do
    if t34 then
     let aH<-app 8 out ([i]:List Int)
     pure (id aH)
    else
     pure (id out)
      : Option (List Int))
  qK list part prefix0 au (W (i+1))
 else
  pure (id out)
 partial_fixpoint
theorem zEa (list:(List zK)) (part:Int) (prefix0:(List Int)):∀ (out:List Int) (i:Int) (o:List Int),qK list part prefix0 out i=some o->∀ {B}{I0 I:Imm}{Q p c p1 c1 p2 c2 cs},I0.le I->(S4 I p list c)->(S4 I p1 prefix0 c1)->(RL I cs out)->NG Q->NO Q->(∀ (I':Imm) (al:List Int) (p3:Option Addr) (c3:Nat) (az:List Value),o=al->I0.le I'->(RL I' az al)->T 40 B Q (.exit 0) I' [hO Int (vS p3 al c3) az] [(7,vS p3 al c3)])->J Tryz.prog 40 B (nav (bodyOf f39) [1,1,0,1,0]) Q I [hO Int (vS p2 out c2) cs] [(0,vS p list c),(1,vI part),(2,vS p1 prefix0 c1),(7,vS p2 out c2),(8,vI i)]:=by
 refine qK.partial_correctness list part prefix0 _ fun aJ ih out i o N B I0 I Q p c p1 c1 p2 c2 cs H h h1 h3 hg ho hx=>yM hg ho<|zZ<|yF [13] rfl<|zG<|yC N ?_ ?_
 · intro hc N;refine zS<|zX<|yG<|zZ ?_;refine wO N [hO Int (vS p2 out c2) cs] (fun t34=>[(0,vS p list c),(1,vI part),(2,vS p1 prefix0 c1),(7,vS p2 out c2),(8,vI i),(34,.bool t34)]) (fun o0 aD=>?_) ?_
   · have H:=iS I;refine zJ<|yB 2 [] [16,17] rfl ?_;obtain ⟨x,hy,N⟩:=zB aD;refine xK rfl rfl h hy ?_;intro ad aQ ar ap;obtain ⟨p4,c4,rfl,h5⟩:=vO ap;refine yB 4 [] [19] rfl<|xB 0 ar [vI x.Part] (vI x.Part) rfl<|yB 8 [] [23] rfl<|xV [23] N ?_ ?_
     · intro aI N;refine yB 10 [] [24,25] rfl<|bE N fun x1 aB N=>xK rfl rfl h aB ?_;intro ad1 bv av ax;obtain ⟨p5,c5,rfl,h6⟩:=vO ax;refine yB 12 [] [27] rfl<|xB 2 av [vS p5 x1.Point c5] (vS p5 x1.Point c5) rfl<|yB 15 [] [30] rfl<|bE N fun l aN N=>zMa rfl h6 aN ?_;intro v02 h7;obtain ⟨p6,c6,rfl⟩:=h7.form;refine yB 17 [] [32] rfl<|bE N fun y bm N=>vQ (zDQ l prefix0 _ bm h7 h1) ?_;intro aW le;have H:=H.trans le;exact yH [] [34] rfl<|yL<|zU (ct N H)
     intro aI N;exact wG [] [(34,vF)]<|yL<|zU (ct N H)
   intro t34 I0 af aU;have ⟨h,h1,h3,H⟩:=m4 af h h1 h3 H;refine zG ?_;obtain ⟨aP,aA,hMc1⟩:=zB aU;refine qF (fun I' ah m'=>∃ (au:List Int) (p7:Option Addr) (c7:Nat) (aS:List Value),aP=au/\I0.le I'/\(RL I' aS au)/\ah=[hO Int (vS p7 au c7) aS]/\m'=[(0,vS p list c),(1,vI part),(2,vS p1 prefix0 c1),(7,vS p7 au c7),(8,vI i)]) ?_ ?_
   · have H:=iS I0;refine yC aA ?_ ?_
     · intro aX N;refine zJ<|yB 2 [] [35,36] rfl<|uK [vI i] Int ?_;intro b1 hb1;have h10:RL I0 [vI i] ([i]:List Int):=rI [i];obtain ⟨aH,bw,N⟩:=zB N;exact sU 3 1 1 rfl rfl rfl h3 (.inr ⟨0,rfl⟩) h10 bw fun p8 c8 aT h11=>tZ (zY [1] (ah:=[hO Int (vS p8 aH c8) aT]))<|yH [] [7] rfl<|yL<|zU ⟨_,_,_,_,(zC N).symm,H,h11,rfl,rfl⟩
     intro aX N;exact zS<|yL<|zU ⟨_,_,_,_,(zC N).symm,H,h3,rfl,rfl⟩
   rintro ba ay m2 ⟨au,p7,c7,aS,heq1,aF,h9,rfl,rfl⟩;subst aP;have ⟨h,h1,H⟩:=m3 aF h h1 H;exact zM<|zG<|zJ<|yH [] [8] rfl<|yK<|oY<|ih au (W (i+1)) _ hMc1 H h h1 h9 hg ho hx
 intro hc N;exact wJ<|yL<|hx _ _ _ _ _ (zC N).symm H h3
def rA (list:(List zK)) (part:Int) (prefix0:(List Int)):Option ((List Int)):=do
 let al<-qK list part prefix0 ([]:List Int) 0
 pure (id al)
theorem zA8:∀ list part prefix0 r,rA list part prefix0=some r->∀ {I:Imm}{p c p1 c1},(S4 I p list c)->(S4 I p1 prefix0 c1)->RT 39 [vS p list c,vI part,vS p1 prefix0 c1] I [] (zBZ  r):=by
 intro list part prefix0 r N I p c p1 c1 h h1;unfold rA at N;refine yJ func39 fun B=>wP []<|yX<|uK [] Int ?_;intro b hb;have h2:RL I [] ([]:List Int):=rfl;refine yH [] [7] rfl<|zX<|yF [8] rfl<|xX<|rU [(0,vS p list c),(1,vI part),(2,vS p1 prefix0 c1),(7,vS (some ⟨b,0,none⟩) ([]:List Int) 0),(8,vI 0)] ?_;obtain ⟨o02,ho02,aM⟩:=zB N;refine zEa list part prefix0 ([]:List Int) 0 o02 ho02 iR h h1 h2 (fun _ _ _ h=>h) (fun _ _ h=>h) ?_;intro bH al p3 c3 az heq2 aK h4;subst o02;refine zR<|wM [6] rfl<|xD<|yU 0 rfl ?_;intro bL bk hl0;have h12:=SL.of_frozen hl0 bk h4;obtain rfl:=zC aM;exact yZ ⟨_,_,(.tmp rfl ResV.nil),zQ,⟨_,rfl,rfl,h12⟩⟩
def nQ (a0:(List Int)) (b:(List Int)) (i:Int):Option (Out Unit (Bool)):=do
 if (decide (i<(a0.length:Int))) then
  let x<-idx a0 i
  let x1<-idx b i
  if (x != x1) then
   pure (.ret false)
  else
   nQ a0 b (W (i+1))
 else
  pure (.done ())
 partial_fixpoint
theorem zFa (a0:(List Int)) (b:(List Int)):∀ (i:Int) (o:Out Unit (Bool)),nQ a0 b i=some o->∀ {B}{I0 I:Imm}{Q p c p1 c1},I0.le I->(S4 I p a0 c)->(S4 I p1 b c1)->NG Q->NO Q->(∀ (I':Imm) ,o=(.done ())->I0.le I'->T 26 B Q (.exit 0) I' [] [])->(∀ r I' ah m',o=(.ret r)->I0.le I'->RS Tryz.prog f12 B (zT  r) I' ah m'->T 26 B Q .ret I' ah m')->J Tryz.prog 26 B (nav (bodyOf f12) [1,1,0,1,0]) Q I [] [(0,vS p a0 c),(1,vS p1 b c1),(5,vI i)]:=by
 refine nQ.partial_correctness a0 b _ fun aJ ih i o N B I0 I Q p c p1 c1 H h h1 hg ho hx hr=>yM hg ho<|zZ<|yF [14] rfl<|zG<|yC N ?_ ?_
 · intro aI N;refine zS<|zX<|yG<|zZ<|kF (by kernel_rfl) (by kernel_rfl)<|fL 2 [] [17,18] rfl<|bE N fun x hy N=>dQ rfl rfl h hy ?_;intro ad aQ ar ap;obtain rfl:=ap;refine gX 0 ar [vI x] (vI x) rfl<|fL 6 [] [21,22] rfl<|bE N fun x1 aB N=>dQ rfl rfl h1 aB ?_;intro ad1 bv av ax;obtain rfl:=ax;refine gX 0 av [vI x1] (vI x1) rfl<|zGo [] [25] rfl<|zG<|yC N ?_ ?_
   · intro aX N;exact wP [(4,vF)]<|xD<|zV<|zH<|zH<|hr _ _ _ _ (zC N).symm H ⟨_,_,(.tmp rfl ResV.nil),zQ,⟨_,rfl,rfl,rfl⟩⟩
   intro aX N;exact zS<|zM<|zG<|zJ<|yH [] [5] rfl<|yK<|oY<|ih (W (i+1)) _ N H h h1 hg ho hx hr
 intro aI N;exact wJ<|yL<|hx _  (zC N).symm H
def fE (a0:(List Int)) (b:(List Int)):Option (Bool):=do
 if ((a0.length:Int) != (b.length:Int)) then
  pure false
 else
  match<-nQ a0 b 0 with
  | .ret r0=>pure r0
  | .done _ =>
   pure true
theorem zDR:∀ a0 b r,fE a0 b=some r->∀ {I:Imm}{p c p1 c1},(S4 I p a0 c)->(S4 I p1 b c1)->RT 12 [vS p a0 c,vS p1 b c1] I [] (zT  r):=by
 intro a0 b r N I p c p1 c1 h h1;unfold fE at N;refine yJ func12 fun B=>wP []<|zX<|yF [10] rfl<|zG<|yC N ?_ ?_
 · intro hc N;refine wP [(4,vF)]<|xD<|zH ?_;obtain rfl:=zC N;exact wI
 intro hc N;refine zS<|zX<|yF [5] rfl<|xX<|rU [(0,vS p a0 c),(1,vS p1 b c1),(5,vI 0)] ?_;obtain ⟨o0,aD,aM⟩:=zB N;refine zFa a0 b 0 o0 aD iR h h1 (fun _ _ _ h=>h) (fun _ _ h=>h) ?_ ?_
 · intro I0  heq le;subst o0;refine zR<|zEv [(4,vY)]<|zG<|yW ?_;obtain rfl:=zC aM;exact wI
 intro r0 I9 hs9 m9 aZ le9 bb;subst aZ;refine zV<|zH ?_;obtain rfl:=zC aM;exact yZ bb
def oE (order:(List Int)) (many:Int) (met1:List Bool) (t12:Int):Option (Out Unit (Bool)):=do
 if (decide (t12<(order.length:Int))) then
  let x<-idx order t12
  let t26<-(do
    let y<-wB x 0 (W (many - 1))
    if (!y) then
     pure true
    else
     let x1<-idx met1 x
     pure (id x1)
      : Option Bool)
  if t26 then
   pure (.ret false)
  else
   let x2<-idx met1 x
   let l<-pure (met1.set x.toNat true)
   oE order many l (W (t12+1))
 else
  pure (.done ())
 partial_fixpoint
theorem zEb (order:(List Int)) (many:Int):∀ (met1:List Bool) (t12:Int) (o:Out Unit (Bool)),oE order many met1 t12=some o->∀ {B}{I0 I:Imm}{Q p c p1 c1 az},I0.le I->(S4 I p order c)->(RL I az met1)->NG Q->NO Q->(∀ (I':Imm) ,o=(.done ())->I0.le I'->T 35 B Q (.exit 0) I' [] [(0,vS p order c),(1,vI many)])->(∀ r I' ah m',o=(.ret r)->I0.le I'->RS Tryz.prog f42 B (zT  r) I' ah m'->T 35 B Q .ret I' ah m')->J Tryz.prog 35 B (nav (bodyOf f42) [1,1,0,1,0]) Q I [hO Bool (vS p1 met1 c1) az] [(0,vS p order c),(1,vI many),(5,vS p1 met1 c1),(10,vS p order c),(11,vI (order.length:Int)),(12,vI t12)]:=by
 refine oE.partial_correctness order many _ fun aJ ih met1 t12 o N B I0 I Q p c p1 c1 az H h h2 hg ho hx hr=>yM hg ho<|yF [13] rfl<|zX<|yC N ?_ ?_
 · intro hc N;refine zS<|zX<|yG<|yE<|bE N fun x aB N=>xK rfl rfl h aB ?_;intro ad aQ ar ap;obtain rfl:=ap;refine xB 0 ar [vI x] (vI x) rfl<|yH [] [7] rfl<|zX<|zZ ?_;refine wO N [hO Bool (vS p1 met1 c1) az] (fun t26=>[(0,vS p order c),(1,vI many),(5,vS p1 met1 c1),(7,vI x),(10,vS p order c),(11,vI (order.length:Int)),(12,vI t12),(26,.bool t26)]) (fun o0 aD=>?_) ?_
   · have H:=iS I;refine zJ<|yB 3 [] [16,18] rfl ?_;obtain ⟨y,aN,N⟩:=zB aD;refine vQ (wH x 0 (W (many - 1)) _ aN ) ?_;intro aW le;have ⟨h2,H⟩:=m2 le h2 H;refine yB 6 [] [21] rfl<|xV [21] N ?_ ?_
     · intro aI N;exact wG [] [(26,vY)]<|yL<|zU (ct N H)
     intro aI N;refine yB 8 [] [22,23] rfl<|bE N fun x1 bm N=>pQ 0 rfl rfl rfl h2 bm ?_;intro ad1 bv av bM ax;obtain rfl:=ax;exact zAH 0 0 av bM [.bool x1] (.bool x1) rfl rfl<|yH [] [26] rfl<|yL<|zU (ct N H)
   intro t26 I0 af aU;have ⟨h,h2,H⟩:=m3 af h h2 H;refine zG<|yC aU ?_ ?_
   · intro aX N;exact wP [(4,vF)]<|xD<|zH<|zV<|zH<|zH<|hr _ _ _ _ (zC N).symm H ⟨_,_,(.tmp rfl ResV.nil),zQ,⟨_,rfl,rfl,rfl⟩⟩
   intro aX N;refine zS<|zG<|zJ<|yB 2 [] [27,28] rfl<|bE N fun x2 bw N=>pQ 0 rfl rfl rfl h2 bw ?_;intro ad2 bP aY hcc1 bd;obtain rfl:=bd;obtain ⟨l,bI,N⟩:=zB N;refine tR (c:=[vY]) (x':=true) 0 0 rfl rfl rfl aY rfl rfl hcc1 (by kernel_rfl) (by kernel_rfl) (by kernel_rfl) h2 bw (by kernel_rfl) rfl ?_;rw [show met1.set x.toNat true=l from zC bI];intro aS h4 hl0;exact kD (m':=[(0,vS p order c),(1,vI many),(5,vS p1 met1 c1),(10,vS p order c),(11,vI (order.length:Int)),(12,vI t12),(27,vS p1 met1 c1),(28,vI x)]) ⟨rfl,rfl,rfl,rfl,rfl,rfl,rfl,rfl,trivial⟩<|zA1 (ah:=[hO Bool (vS p1 l c1) aS]) (m':=[(0,vS p order c),(1,vI many),(5,vS p1 l c1),(10,vS p order c),(11,vI (order.length:Int)),(12,vI t12),(27,vS p1 l c1),(28,vI x)]) (by first | rfl | simp only [vS,hl0,cv,dj,dq,dh,cX,cY]) (by first | rfl | simp only [vS,hl0])<|yD rfl<|zM<|zG<|zJ<|yH [] [12] rfl<|yK<|oY<|ih l (W (t12+1)) _ N H h h4 hg ho hx hr
 intro hc N;exact wJ<|xQ zQ<|yL<|hx _  (zC N).symm H
def eA (order:(List Int)) (many:Int):Option (Bool):=do
 let met<-mkrow 1 many (false:Bool)
 match<-oE order many met 0 with
 | .ret r0=>pure r0
 | .done _ =>
  pure ((order.length:Int)==many)
theorem zHG:∀ order many r,eA order many=some r->∀ {I:Imm}{p c},(S4 I p order c)->RT 42 [vS p order c,vI many] I [] (zT  r):=by
 intro order many r N I p c h;unfold eA at N;refine yJ func42 fun B=>wP []<|yX<|yB 1 [] [8] rfl<|bE N fun met hy N=>zPZ 1 [vF] rfl hy rfl fun b cs h1=>yH [] [5] rfl<|zX<|yF [10,11,12] rfl<|xX<|rU [(0,vS p order c),(1,vI many),(5,vS (some ⟨b,0,none⟩) met met.length),(10,vS p order c),(11,vI (order.length:Int)),(12,vI 0)] ?_;obtain ⟨aP,aA,aM⟩:=zB N;refine zEb order many met 0 aP aA iR h h1 (fun _ _ _ h=>h) (fun _ _ h=>h) ?_ ?_
 · intro ba  heq1 aF;subst aP;refine zR<|wM [4] rfl<|zG<|yW ?_;obtain rfl:=zC aM;exact wI
 intro r0 I9 hs9 m9 aZ le9 bb;subst aZ;refine zV<|zH ?_;obtain rfl:=zC aM;exact yZ bb
def oF (p:zD) (order:(List Int)):Option (Bool):=do
 let (y1,y2)<-sE p
 let t4<-(do
   if y2 then
    let y3<-eA order (y1.length:Int)
    pure (id y3)
   else
    pure false
     : Option Bool)
 pure (id t4)
theorem zAz:∀ p order r,oF p order=some r->∀ {I:Imm}{p1 c p2 c1 p3 c2},(S4 I p1 p.Arrays c)->(S4 I p2 p.Parts c1)->(S4 I p3 order c2)->RT 13 [vA (cProg p p1 c p2 c1),vS p3 order c2] I [] (zT  r):=by
 intro p order r N I p1 c p2 c1 p3 c2 h h1 h2;unfold oF at N;refine yJ func13 fun B=>?_;have H:=iS I;refine yE<|tO (cProg p p1 c p2 c1) ?_;intro b hb;refine wG [] []<|yX<|rQ 1 [0] [(8,vA (cProg p p1 c p2 c1))] ?_;obtain ⟨⟨y1,y2⟩,hy,N⟩:=zB N;refine xL (eJ p _ hy h h1) ?_;rintro I0 ay v2 k2 le - ⟨v0,v01,rfl,rfl,h3,rfl⟩ -;have ⟨h2,H⟩:=m2 le h2 H;obtain ⟨p4,c3,rfl⟩:=h3.form;refine yH [] [5,6] rfl<|zG<|zZ ?_;refine wO N [] (fun t4=>[(4,.bool t4)]) (fun o0 aD=>?_) ?_
 · have H:=iS I0;refine zJ<|yB 2 [] [13] rfl<|xV [13] aD ?_ ?_
   · intro hc N;refine yB 5 [] [14,16] rfl<|bE N fun y3 aB N=>vQ (zHG order (y1.length:Int) _ aB h2) ?_;intro ba af;have H:=H.trans af;exact yH [] [4] rfl<|xQ zQ<|yL<|zU (ct N H)
   intro hc N;exact wG [] [(4,vF)]<|xQ zQ<|yL<|zU (ct N H)
 intro t4 aW aF aU;refine zG<|yW ?_;obtain rfl:=zC aU;exact wI
def uB (s:(List Int)) (v0:Int) (t8:Int):Option (Out Unit (Int)):=do
 if (decide (t8<(s.length:Int))) then
  let x<-idx s t8
  if (v0==x) then
   pure (.ret t8)
  else
   uB s v0 (W (t8+1))
 else
  pure (.done ())
 partial_fixpoint
theorem zBA (s:(List Int)) (v0:Int):∀ (t8:Int) (o:Out Unit (Int)),uB s v0 t8=some o->∀ {B}{I0 I:Imm}{Q p c},I0.le I->(S4 I p s c)->NG Q->NO Q->(∀ (I':Imm) ,o=(.done ())->I0.le I'->T 19 B Q (.exit 0) I' [] [])->(∀ r I' ah m',o=(.ret r)->I0.le I'->RS Tryz.prog f180 B (yS  r) I' ah m'->T 19 B Q .ret I' ah m')->J Tryz.prog 19 B (nav (bodyOf f180) [1,0,1,0]) Q I [] [(0,vS p s c),(1,vI v0),(7,vI (s.length:Int)),(8,vI t8)]:=by
 refine uB.partial_correctness s v0 _ fun aJ ih t8 o N B I0 I Q p c H h hg ho hx hr=>yM hg ho<|yF [9] rfl<|zX<|yC N ?_ ?_
 · intro hc N;refine zS<|zX<|yG<|yF [5] rfl<|yX<|yB 3 [] [11,12,13] rfl<|bE N fun x hy N=>xK rfl rfl h hy ?_;intro ad aQ ar ap;obtain rfl:=ap;refine xB 0 ar [vI x] (vI x) rfl<|yH [] [16] rfl<|zG<|yC N ?_ ?_
   · intro aI N;exact yF [4] rfl<|xD<|zV<|zH<|zH<|hr _ _ _ _ (zC N).symm H ⟨_,_,(.tmp rfl ResV.nil),zQ,⟨_,rfl,rfl,rfl⟩⟩
   intro aI N;exact zS<|zM<|zG<|zJ<|yH [] [8] rfl<|yK<|oY<|ih (W (t8+1)) _ N H h hg ho hx hr
 intro hc N;exact wJ<|yL<|hx _  (zC N).symm H
def mU (s:(List Int)) (v0:Int):Option (Int):=do
 match<-uB s v0 0 with
 | .ret r0=>pure r0
 | .done _ =>
  pure (-1)
theorem zCD:∀ s v0 r,mU s v0=some r->∀ {I:Imm}{p c},(S4 I p s c)->RT 180 [vS p s c,vI v0] I [] (yS  r):=by
 intro s v0 r N I p c h;unfold mU at N;refine yJ func180 fun B=>wP []<|zX<|yF [7,8] rfl<|xX<|rU [(0,vS p s c),(1,vI v0),(7,vI (s.length:Int)),(8,vI 0)] ?_;obtain ⟨o0,aD,aM⟩:=zB N;refine zBA s v0 0 o0 aD iR h (fun _ _ _ h=>h) (fun _ _ h=>h) ?_ ?_
 · intro I0  heq le;subst o0;refine zR<|wM [4] rfl<|zG<|yW ?_;obtain rfl:=zC aM;exact wI
 intro r0 I9 hs9 m9 aZ le9 bb;subst aZ;refine zV<|zH ?_;obtain rfl:=zC aM;exact yZ bb
def tP (s:(List Int)) (v0:Int):Option (Bool):=do
 let y<-mU s v0
 pure (decide (y>=0))
theorem eC:∀ s v0 r,tP s v0=some r->∀ {I:Imm}{p c},(S4 I p s c)->RT 140 [vS p s c,vI v0] I [] (zT  r):=by
 intro s v0 r N I p c h;unfold tP at N;refine yJ func140 fun B=>wP []<|yX<|yB 2 [] [5,6] rfl<|bE N fun y hy N=>fK (zCD s v0 _ hy h) fun I0 le=>wG [] [(4,.bool (decide (y>=0)))]<|zG<|yW ?_;obtain rfl:=zC N;exact wI
def oV (t:xS) (from0:Int) (to0:Int):Option (Int):=do
 let x<-idx t.reads to0
 let x1<-idx t.writes from0
 let y<-tP x x1
 let kinds<-(do
   if y then
    pure (W (0+1))
   else
    pure (id 0)
     : Option Int)
 let x2<-idx t.reads from0
 let x3<-idx t.writes to0
 let y1<-tP x2 x3
 let kinds1<-(do
   if y1 then
    pure (W (kinds+2))
   else
    pure (id kinds)
     : Option Int)
 let x4<-idx t.writes from0
 let x5<-idx t.writes to0
 let kinds2<-(do
   if (x4==x5) then
    pure (W (kinds1+4))
   else
    pure (id kinds1)
     : Option Int)
 pure (id kinds2)
theorem zC0:∀ t from0 to0 r,oV t from0 to0=some r->∀ {I:Imm}{ad:Addr}{p c p1 c1 p2 c2 p3 c3 p4 c4},(S4 I p t.Program.Arrays c)->(S4 I p1 t.Program.Parts c1)->(S4 I p2 t.list c2)->(S4 I p3 t.reads c3)->(S4 I p4 t.writes c4)->(At I ad [vS p t.Program.Arrays c,vS p1 t.Program.Parts c1,vS p2 t.list c2,vS p3 t.reads c3,vS p4 t.writes c4])->RT 94 [.pointer (some ad),vI from0,vI to0] I [] (yS  r):=by
 intro t from0 to0 r N I ad p c p1 c1 p2 c2 p3 c3 p4 c4 h h1 h2 h3 h4 ar;unfold oV at N;refine yJ func94 fun B=>?_;have H:=iS I;refine wP []<|wM [7] rfl<|zX<|zZ ?_;obtain ⟨x,hy,N⟩:=zB N;obtain ⟨x1,aB,N⟩:=zB N;obtain ⟨y,aN,N⟩:=zB N;refine wQ [.p (.pointer (some ad)) [],.p (.pointer (some ad)) [],.p (.pointer (some (ad.add 3))) [],.q (vS p3 t.reads c3),.p (vI to0) [],.x (fun I' v hx=>∃ ad1 p5 c5,v=.pointer (some ad1)/\hx=[]/\(At I' ad1 [vS p5 x c5])/\(S4 I' p5 x c5)),.x (eS x),.p (.pointer (some ad)) [],.p (.pointer (some ad)) [],.p (.pointer (some (ad.add 4))) [],.q (vS p4 t.writes c4),.p (vI from0) [],.x (fun I' v hx=>∃ ad2,v=.pointer (some ad2)/\hx=[]/\(At I' ad2 [vI x1])),.q (vI x1),.q (.bool y)] [[],[(0,false)],[(1,false)],[(2,false)],[],[(3,false),(4,false)],[(5,false)],[],[(7,false)],[(8,false)],[(9,false)],[],[(10,false),(11,false)],[(12,false)],[(6,false),(13,false)]] [] [] [(14,false)] zQ ?_ ?_
 · refine Op<|Op<|Op<|Oq ?_<|Op<|Ox ?_<|Ox ?_<|Op<|Op<|Op<|Oq ?_<|Op<|Ox ?_<|Oq ?_<|Oq ?_<|On
   · intro I1 hf af;refine yT [10] rfl ?_;have ar:=ar.mono af;exact xB 3 ar [vS p3 t.reads c3] (vS p3 t.reads c3) rfl<|xC iR
   · intro I1 hf af;refine yT [11,12] rfl ?_;have h3:=h3.mono af;refine xK rfl rfl h3 hy ?_;intro ad1 aQ av ap;obtain ⟨v0,rfl,h5⟩:=ap;obtain ⟨p5,c5,rfl⟩:=h5.form;exact yN [] iR ⟨_,_,_,rfl,rfl,av,h5⟩
   · rintro I1 hf af _ _ ⟨ad1,p5,c5,rfl,rfl,av,h5⟩;exact yT [13] rfl<|xB 0 av [vS p5 x c5] (vS p5 x c5) rfl<|yN [] iR ⟨_,_,rfl,rfl,h5⟩
   · intro I1 hf af;refine yT [17] rfl ?_;have ar:=ar.mono af;exact xB 4 ar [vS p4 t.writes c4] (vS p4 t.writes c4) rfl<|xC iR
   · intro I1 hf af;refine yT [18,19] rfl ?_;have h4:=h4.mono af;refine xK rfl rfl h4 aB ?_;intro ad2 bv aY ax;obtain rfl:=ax;exact yN [] iR ⟨_,rfl,rfl,aY⟩
   · rintro I1 hf af _ _ ⟨ad2,rfl,rfl,aY⟩;exact yT [20] rfl<|xB 0 aY [vI x1] (vI x1) rfl<|xC iR
   rintro I1 hf af _ _ ⟨p51,c51,rfl,rfl,h51⟩;refine yT [14,21] rfl ?_;have H:=iS I1;refine vQ (eC x x1 _ aN h51) ?_;intro I0 le;have H:=H.trans le;exact xC H
 intro aW af;refine yT [0,1,2,7,22] rfl ?_;have ⟨h3,h4,ar,H⟩:=m4 af h3 h4 ar H;refine yD rfl<|zG ?_;refine wO N [] (fun kinds=>[(0,.pointer (some ad)),(1,vI from0),(2,vI to0),(7,vI kinds)]) (fun o0 aD=>?_) ?_
 · have H:=iS aW;refine yC aD ?_ ?_
   · intro hc N;exact zJ<|yH [] [7] rfl<|yL<|zU (ct N H)
   intro hc N;exact zS<|yL<|zU (ct N H)
 intro kinds ba aF aU;have ⟨h3,h4,ar,H⟩:=m4 aF h3 h4 ar H;refine zX<|zZ ?_;obtain ⟨x2,bm,N⟩:=zB aU;obtain ⟨x3,bw,N⟩:=zB N;obtain ⟨y1,bI,N⟩:=zB N;refine wQ [.p (.pointer (some ad)) [],.p (.pointer (some ad)) [],.p (.pointer (some (ad.add 3))) [],.q (vS p3 t.reads c3),.p (vI from0) [],.x (fun I' v hx=>∃ ad3 p6 c6,v=.pointer (some ad3)/\hx=[]/\(At I' ad3 [vS p6 x2 c6])/\(S4 I' p6 x2 c6)),.x (eS x2),.p (.pointer (some ad)) [],.p (.pointer (some ad)) [],.p (.pointer (some (ad.add 4))) [],.q (vS p4 t.writes c4),.p (vI to0) [],.x (fun I' v hx=>∃ ad4,v=.pointer (some ad4)/\hx=[]/\(At I' ad4 [vI x3])),.q (vI x3),.q (.bool y1)] [[],[(0,false)],[(1,false)],[(2,false)],[],[(3,false),(4,false)],[(5,false)],[],[(7,false)],[(8,false)],[(9,false)],[],[(10,false),(11,false)],[(12,false)],[(6,false),(13,false)]] [] [] [(14,false)] zQ ?_ ?_
 · refine Op<|Op<|Op<|Oq ?_<|Op<|Ox ?_<|Ox ?_<|Op<|Op<|Op<|Oq ?_<|Op<|Ox ?_<|Oq ?_<|Oq ?_<|On
   · intro I1 hf af;refine yT [27] rfl ?_;have ar:=ar.mono af;exact xB 3 ar [vS p3 t.reads c3] (vS p3 t.reads c3) rfl<|xC iR
   · intro I1 hf af;refine yT [28,29] rfl ?_;have h3:=h3.mono af;refine xK rfl rfl h3 bm ?_;intro ad3 bP hat3 bd;obtain ⟨v02,rfl,h7⟩:=bd;obtain ⟨p6,c6,rfl⟩:=h7.form;exact yN [] iR ⟨_,_,_,rfl,rfl,hat3,h7⟩
   · rintro I1 hf af _ _ ⟨ad3,p6,c6,rfl,rfl,hat3,h7⟩;exact yT [30] rfl<|xB 0 hat3 [vS p6 x2 c6] (vS p6 x2 c6) rfl<|yN [] iR ⟨_,_,rfl,rfl,h7⟩
   · intro I1 hf af;refine yT [34] rfl ?_;have ar:=ar.mono af;exact xB 4 ar [vS p4 t.writes c4] (vS p4 t.writes c4) rfl<|xC iR
   · intro I1 hf af;refine yT [35,36] rfl ?_;have h4:=h4.mono af;refine xK rfl rfl h4 bw ?_;intro ad4 ccs3 hat4 bG;obtain rfl:=bG;exact yN [] iR ⟨_,rfl,rfl,hat4⟩
   · rintro I1 hf af _ _ ⟨ad4,rfl,rfl,hat4⟩;exact yT [37] rfl<|xB 0 hat4 [vI x3] (vI x3) rfl<|xC iR
   rintro I1 hf af _ _ ⟨p61,c61,rfl,rfl,h71⟩;refine yT [31,38] rfl ?_;have H:=iS I1;refine vQ (eC x2 x3 _ bI h71) ?_;intro bH aK;have H:=H.trans aK;exact xC H
 intro bL bk;refine yT [0,1,2,7,39] rfl ?_;have ⟨h4,ar,H⟩:=m3 bk h4 ar H;refine yD rfl<|zG ?_;refine wO N [] (fun kinds1=>[(0,.pointer (some ad)),(1,vI from0),(2,vI to0),(7,vI kinds1)]) (fun aP aA=>?_) ?_
 · have H:=iS bL;refine yC aA ?_ ?_
   · intro aI N;exact zJ<|yH [] [7] rfl<|yL<|zU (ct N H)
   intro aI N;exact zS<|yL<|zU (ct N H)
 intro kinds1 bR bz hMc1;have ⟨h4,ar,H⟩:=m3 bz h4 ar H;refine zX<|zZ<|kF (by kernel_rfl) (by kernel_rfl)<|fL 3 [] [44] rfl<|gX 4 ar [vS p4 t.writes c4] (vS p4 t.writes c4) rfl<|fL 5 [] [46] rfl ?_;obtain ⟨x4,hy6,N⟩:=zB hMc1;refine dQ rfl rfl h4 hy6 ?_;intro ad5 ccs4 hat5 hrep4;obtain rfl:=hrep4;refine gX 0 hat5 [vI x4] (vI x4) rfl<|fL 10 [] [51] rfl<|gX 4 ar [vS p4 t.writes c4] (vS p4 t.writes c4) rfl<|fL 12 [] [53] rfl<|bE N fun x5 hy7 N=>dQ rfl rfl h4 hy7 ?_;intro ad6 ccs5 hat6 hrep5;obtain rfl:=hrep5;refine gX 0 hat6 [vI x5] (vI x5) rfl<|zGo [] [56] rfl<|zG ?_;refine wO N [] (fun kinds2=>[(7,vI kinds2)]) (fun o02 ho02=>?_) ?_
 · have H:=iS bR;refine yC ho02 ?_ ?_
   · intro aX N;exact zJ<|yH [] [7] rfl<|yL<|zU (ct N H)
   intro aX N;exact zS<|yL<|zU (ct N H)
 intro kinds2 I06 bC hMc2;refine wM [6] rfl<|zG<|yW ?_;obtain rfl:=zC hMc2;exact wI
def zAG (r:(List yP)):KT:=fun kk I' ah v=>
  ∃ v0,ah=[]/\v=tupV [v0]/\SL I' v0 r
def sN (t:xS) (t12:Int) (au:List yP) (to0:Int):Option (List yP):=do
 if (decide (to0<(t.list.length:Int))) then
  let y<-oV t t12 to0
  let bf<-(do
    if (decide (y>0)) then
     let out5<-app 24 au ([(yP.mk t12 to0 y)]:List yP)
     pure (id out5)
    else
     pure (id au)
      : Option (List yP))
  sN t t12 bf (W (to0+1))
 else
  pure (id au)
 partial_fixpoint
theorem zC1 (t:xS) (t12:Int):∀ (au:List yP) (to0:Int) (o:List yP),sN t t12 au to0=some o->∀ {B}{I0 I:Imm}{Q}  {ad:Addr}{p c p1 c1 p2 c2 p3 c3 p4 c4 p7 c7 aS},I0.le I->(S4 I p t.Program.Arrays c)->(S4 I p1 t.Program.Parts c1)->(S4 I p2 t.list c2)->(S4 I p3 t.reads c3)->(S4 I p4 t.writes c4)->(At I ad [vS p t.Program.Arrays c,vS p1 t.Program.Parts c1,vS p2 t.list c2,vS p3 t.reads c3,vS p4 t.writes c4])->(RL I aS au)->NG Q->NO Q->(∀ (I':Imm) (aH:List yP) (p8:Option Addr) (c8:Nat) (aT:List Value),o=aH->I0.le I'->(RL I' aT aH)->T 41 B Q (.exit 2) I' [hO yP (vS p8 aH c8) aT] [(0,.pointer (some ad)),(3,vS p8 aH c8),(11,vI (t.list.length:Int)),(12,vI t12)])->J Tryz.prog 41 B (nav (bodyOf f51) [1,1,0,1,0,0,1,1,0,0,1,1,0]) Q I [hO yP (vS p7 au c7) aS] [(0,.pointer (some ad)),(3,vS p7 au c7),(4,vI t12),(5,vI to0),(11,vI (t.list.length:Int)),(12,vI t12)]:=by
 refine sN.partial_correctness t t12 _ fun aJ ih au to0 o N B I0 I Q ad p c p1 c1 p2 c2 p3 c3 p4 c4 p7 c7 aS H h h1 h2 h3 h4 ar h8 hg ho hx=>yM hg ho<|zZ<|yE<|yB 4 [] [17,20] rfl<|xB 2 ar [vS p2 t.list c2] (vS p2 t.list c2) rfl<|yH [] [23] rfl<|zG<|yC N ?_ ?_
 · intro aI N;refine zS<|zX<|yG<|yE<|yB 3 [] [26,27,28] rfl<|bE N fun y hy N=>fK (zC0 t t12 to0 _ hy h h1 h2 h3 h4 ar) ?_;intro I0 le;have ⟨h,h1,h2,h3,h4,ar⟩:=m6 le h h1 h2 h3 h4 ar;have ⟨h8,H⟩:=m2 le h8 H;refine yH [] [6] rfl<|wM [31] rfl<|zG ?_;obtain ⟨o0,aD,aU⟩:=zB N;refine qF (fun I' ah m'=>∃ (bf:List yP) (p9:Option Addr) (c9:Nat) (bt:List Value),o0=bf/\I0.le I'/\(RL I' bt bf)/\ah=[hO yP (vS p9 bf c9) bt]/\m'=[(0,.pointer (some ad)),(3,vS p9 bf c9),(4,vI t12),(5,vI to0),(11,vI (t.list.length:Int)),(12,vI t12)]) ?_ ?_
   · have H:=iS I0;refine yC aD ?_ ?_
     · intro aX N;refine zJ<|yB 5 [] [32,36] rfl<|uK [vI t12,vI to0,vI y] yP ?_;intro b hb;have h12:RL I0 [vI t12,vI to0,vI y] ([(yP.mk t12 to0 y)]:List yP):=⟨[vI t12,vI to0,vI y],_,rfl,rfl,(zEC rfl),rfl⟩;obtain ⟨out5,aB,N⟩:=zB N;exact sU 84 3 1 rfl rfl rfl h8 (.inr ⟨0,rfl⟩) h12 aB fun bi bh bJ h13=>tZ (zY [1] (ah:=[hO yP (vS bi out5 bh) bJ]))<|yH [] [3] rfl<|yL<|zU ⟨_,_,_,_,(zC N).symm,H,h13,rfl,rfl⟩
     intro aX N;exact zS<|yL<|zU ⟨_,_,_,_,(zC N).symm,H,h8,rfl,rfl⟩
   rintro aW ay m2 ⟨bf,p9,c9,bt,heq,af,h11,rfl,rfl⟩;subst o0;have ⟨h,h1,h2,h3,h4,ar⟩:=m6 af h h1 h2 h3 h4 ar;have H:=H.trans af;exact zM<|zG<|zJ<|yH [] [5] rfl<|yK<|oY<|ih bf (W (to0+1)) _ aU H h h1 h2 h3 h4 ar h11 hg ho hx
 intro aI N;exact wJ<|yL<|hx _ _ _ _ _ (zC N).symm H h8
def sO (t:xS) (out:List yP) (t12:Int):Option (List yP):=do
 if (decide (t12<(t.list.length:Int))) then
  let aH<-sN t t12 out (W (t12+1))
  sO t aH (W (t12+1))
 else
  pure (id out)
 partial_fixpoint
theorem zC2 (t:xS):∀ (out:List yP) (t12:Int) (o:List yP),sO t out t12=some o->∀ {B}{I0 I:Imm}{Q}  {ad:Addr}{p c p1 c1 p2 c2 p3 c3 p4 c4 p5 c5 cs},I0.le I->(S4 I p t.Program.Arrays c)->(S4 I p1 t.Program.Parts c1)->(S4 I p2 t.list c2)->(S4 I p3 t.reads c3)->(S4 I p4 t.writes c4)->(At I ad [vS p t.Program.Arrays c,vS p1 t.Program.Parts c1,vS p2 t.list c2,vS p3 t.reads c3,vS p4 t.writes c4])->(RL I cs out)->NG Q->NO Q->(∀ (I':Imm) (al:List yP) (p6:Option Addr) (c6:Nat) (az:List Value),o=al->I0.le I'->(RL I' az al)->T 41 B Q (.exit 0) I' [hO yP (vS p6 al c6) az] [(3,vS p6 al c6)])->J Tryz.prog 41 B (nav (bodyOf f51) [1,1,0,1,0]) Q I [hO yP (vS p5 out c5) cs] [(0,.pointer (some ad)),(3,vS p5 out c5),(11,vI (t.list.length:Int)),(12,vI t12)]:=by
 refine sO.partial_correctness t _ fun aJ ih out t12 o N B I0 I Q ad p c p1 c1 p2 c2 p3 c3 p4 c4 p5 c5 cs H h h1 h2 h3 h4 ar h6 hg ho hx=>yM hg ho<|yF [13] rfl<|zX<|yC N ?_ ?_
 · intro hc N;refine zS<|zX<|yG<|yF [4] rfl<|wM [5] rfl<|xX<|rU [(0,.pointer (some ad)),(3,vS p5 out c5),(4,vI t12),(5,vI (W (t12+1))),(11,vI (t.list.length:Int)),(12,vI t12)] ?_;obtain ⟨aP,aA,aM⟩:=zB N;refine zC1 t t12 out (W (t12+1)) aP aA iR h h1 h2 h3 h4 ar h6 (fun _ _ _ h=>hg _ _ _ h) (fun _ _ h=>ho _ _ h) ?_;intro ba aH p8 c8 aT heq1 aF h9;subst aP;have ⟨h,h1,h2,h3,h4,ar⟩:=m6 aF h h1 h2 h3 h4 ar;have H:=H.trans aF;exact zR<|zM<|zG<|zJ<|yH [] [12] rfl<|yK<|oY<|ih aH (W (t12+1)) _ aM H h h1 h2 h3 h4 ar h9 hg ho hx
 intro hc N;exact wJ<|yL<|hx _ _ _ _ _ (zC N).symm H h6
def pG (t:xS):Option ((List yP)):=do
 let al<-sO t ([]:List yP) 0
 pure (id al)
theorem zAf:∀ t r,pG t=some r->∀ {I:Imm}{ad:Addr}{p c p1 c1 p2 c2 p3 c3 p4 c4},(S4 I p t.Program.Arrays c)->(S4 I p1 t.Program.Parts c1)->(S4 I p2 t.list c2)->(S4 I p3 t.reads c3)->(S4 I p4 t.writes c4)->(At I ad [vS p t.Program.Arrays c,vS p1 t.Program.Parts c1,vS p2 t.list c2,vS p3 t.reads c3,vS p4 t.writes c4])->RT 51 [.pointer (some ad)] I [] (zAG  r):=by
 intro t r N I ad p c p1 c1 p2 c2 p3 c3 p4 c4 h h1 h2 h3 h4 ar;unfold pG at N;refine yJ func51 fun B=>wP []<|zEv [(3,z0)]<|zX<|yE<|yB 3 [] [9] rfl<|xB 2 ar [vS p2 t.list c2] (vS p2 t.list c2) rfl<|yH [] [11,12] rfl<|xX<|rU [(0,.pointer (some ad)),(3,z0),(11,vI (t.list.length:Int)),(12,vI 0)]<|zAI yP fun h5=>?_;obtain ⟨o02,ho02,hMl1⟩:=zB N;refine zC2 t ([]:List yP) 0 o02 ho02 iR h h1 h2 h3 h4 ar h5 (fun _ _ _ h=>h) (fun _ _ h=>h) ?_;intro bH al p6 c6 az heq2 aK h7;subst o02;refine zR<|wM [2] rfl<|xD<|yU 0 rfl ?_;intro bL bk hl0;have h14:=SL.of_frozen hl0 bk h7;obtain rfl:=zC hMl1;exact yZ ⟨_,_,(.tmp rfl ResV.nil),zQ,⟨_,rfl,rfl,h14⟩⟩
def M.cmp_isNaN_int (x:Int):Option (Bool):=do
 pure (x != x)
theorem zCE:∀ x r,M.cmp_isNaN_int x=some r->∀ {I:Imm} ,RT 194 [vI x] I [] (zT  r):=by
 intro x r N I;unfold M.cmp_isNaN_int at N;refine yJ func194 fun B=>wP []<|wM [2] rfl<|zG<|yW ?_;obtain rfl:=zC N;exact wI
def M.cmp_Compare_int (x:Int) (y:Int):Option (Int):=do
 let y1<-M.cmp_isNaN_int x
 let y2<-M.cmp_isNaN_int y
 if y1 then
  if y2 then
   pure (id 0)
  else
   pure (-1)
 else
  if y2 then
   pure (id 1)
  else
   if (decide (x<y)) then
    pure (-1)
   else
    if (decide (x>y)) then
     pure (id 1)
    else
     pure (id 0)
theorem zEc:∀ x y r,M.cmp_Compare_int x y=some r->∀ {I:Imm} ,RT 153 [vI x,vI y] I [] (yS  r):=by
 intro x y r N I;unfold M.cmp_Compare_int at N;refine yJ func153 fun B=>wP []<|yX<|yB 1 [] [7] rfl<|bE N fun y1 hy N=>vQ (zCE x _ hy ) fun I0 le=>wG [] [(5,.bool y1)]<|yX<|rQ 1 [] [(9,vI y)]<|bE N fun y2 aB N=>vQ (zCE y _ aB ) fun aW af=>wG [] [(6,.bool y2)]<|zX<|wP [(11,.bool y1)]<|zG<|yC N ?_ ?_
 · intro hc N;refine zZ<|yF [12] rfl<|zG<|yC N ?_ ?_
   · intro aI N;refine yF [4] rfl<|xD<|zH<|zH ?_;obtain rfl:=zC N;exact wI
   intro aI N;refine zS<|wM [4] rfl<|xD<|zH ?_;obtain rfl:=zC N;exact wI
 intro hc N;refine zS<|zX<|yF [13] rfl<|zG<|yC N ?_ ?_
 · intro aX N;refine yF [4] rfl<|xD<|zH ?_;obtain rfl:=zC N;exact wI
 intro aX N;refine zS<|zX<|yF [16] rfl<|zG<|yC N ?_ ?_
 · intro bK N;refine yF [4] rfl<|xD<|zH ?_;obtain rfl:=zC N;exact wI
 intro bK N;refine zS<|zX<|yF [19] rfl<|zG<|yC N ?_ ?_
 · intro bO N;refine yF [4] rfl<|xD<|zH ?_;obtain rfl:=zC N;exact wI
 intro bO N;refine zS<|wM [4] rfl<|zG<|yW ?_;obtain rfl:=zC N;exact wI
def wA (s1:(List Int)) (s2:(List Int)) (t11:Int):Option (Out Unit (Int)):=do
 if (decide (t11<(s1.length:Int))) then
  let x<-idx s1 t11
  if (decide (t11>=(s2.length:Int))) then
   pure (.ret 1)
  else
   let x1<-idx s2 t11
   let y<-M.cmp_Compare_int x x1
   if (y != 0) then
    pure (.ret y)
   else
    wA s1 s2 (W (t11+1))
 else
  pure (.done ())
 partial_fixpoint
theorem zA9 (s1:(List Int)) (s2:(List Int)):∀ (t11:Int) (o:Out Unit (Int)),wA s1 s2 t11=some o->∀ {B}{I0 I:Imm}{Q p c p1 c1},I0.le I->(S4 I p s1 c)->(S4 I p1 s2 c1)->NG Q->NO Q->(∀ (I':Imm) ,o=(.done ())->I0.le I'->T 36 B Q (.exit 0) I' [] [(0,vS p s1 c),(1,vS p1 s2 c1)])->(∀ r I' ah m',o=(.ret r)->I0.le I'->RS Tryz.prog f111 B (yS  r) I' ah m'->T 36 B Q .ret I' ah m')->J Tryz.prog 36 B (nav (bodyOf f111) [1,0,1,0]) Q I [] [(0,vS p s1 c),(1,vS p1 s2 c1),(9,vS p s1 c),(10,vI (s1.length:Int)),(11,vI t11)]:=by
 refine wA.partial_correctness s1 s2 _ fun aJ ih t11 o N B I0 I Q p c p1 c1 H h h1 hg ho hx hr=>yM hg ho<|yF [12] rfl<|zX<|yC N ?_ ?_
 · intro hc N;refine zS<|zX<|yG<|yE<|yB 1 [] [13] rfl<|bE N fun x hy N=>xK rfl rfl h hy ?_;intro ad aQ ar ap;obtain rfl:=ap;refine xB 0 ar [vI x] (vI x) rfl<|yH [] [5,6] rfl<|zX<|yF [19] rfl<|zG<|yC N ?_ ?_
   · intro aI N;exact yF [4] rfl<|xD<|zH<|zV<|zH<|zH<|hr _ _ _ _ (zC N).symm H ⟨_,_,(.tmp rfl ResV.nil),zQ,⟨_,rfl,rfl,rfl⟩⟩
   intro aI N;refine zS<|yX<|yB 2 [] [20,21] rfl<|bE N fun x1 aB N=>xK rfl rfl h1 aB ?_;intro ad1 bv av ax;obtain rfl:=ax;refine xB 0 av [vI x1] (vI x1) rfl<|yH [] [7] rfl<|yX<|yB 2 [] [24,25] rfl<|bE N fun y aN N=>fK (zEc x x1 _ aN ) ?_;intro I0 le;have ⟨h,h1,H⟩:=m3 le h h1 H;refine yH [] [8] rfl<|wM [28] rfl<|zG<|yC N ?_ ?_
   · intro aX N;exact yF [4] rfl<|xD<|zV<|zH<|zH<|hr _ _ _ _ (zC N).symm H ⟨_,_,(.tmp rfl ResV.nil),zQ,⟨_,rfl,rfl,rfl⟩⟩
   intro aX N;exact zS<|zM<|zG<|zJ<|yH [] [11] rfl<|yK<|oY<|ih (W (t11+1)) _ N H h h1 hg ho hx hr
 intro hc N;exact wJ<|yL<|hx _  (zC N).symm H
def nW (s1:(List Int)) (s2:(List Int)):Option (Int):=do
 match<-wA s1 s2 0 with
 | .ret r0=>pure r0
 | .done _ =>
  if (decide ((s1.length:Int)<(s2.length:Int))) then
   pure (-1)
  else
   pure (id 0)
theorem zBJ:∀ s1 s2 r,nW s1 s2=some r->∀ {I:Imm}{p c p1 c1},(S4 I p s1 c)->(S4 I p1 s2 c1)->RT 111 [vS p s1 c,vS p1 s2 c1] I [] (yS  r):=by
 intro s1 s2 r N I p c p1 c1 h h1;unfold nW at N;refine yJ func111 fun B=>wP []<|zX<|yF [9,10,11] rfl<|xX<|rU [(0,vS p s1 c),(1,vS p1 s2 c1),(9,vS p s1 c),(10,vI (s1.length:Int)),(11,vI 0)] ?_;obtain ⟨o0,aD,aM⟩:=zB N;refine zA9 s1 s2 0 o0 aD iR h h1 (fun _ _ _ h=>h) (fun _ _ h=>h) ?_ ?_
 · intro aW  heq af;subst o0;refine zR<|zX<|yF [35] rfl<|zG<|yC aM ?_ ?_
   · intro bK N;refine yF [4] rfl<|xD<|zH ?_;obtain rfl:=zC N;exact wI
   intro bK N;refine zS<|wM [4] rfl<|zG<|yW ?_;obtain rfl:=zC N;exact wI
 intro r0 I9 hs9 m9 aZ le9 bb;subst aZ;refine zV<|zH ?_;obtain rfl:=zC aM;exact yZ bb
theorem zQU (x y:Int):M.cmp_Compare_int x y=some (if x<y then -1 else if y<x then 1 else 0):=by
 have h1:(x != x)=false:=by simp
 have h2:(y != y)=false:=by simp
 simp only [M.cmp_Compare_int,M.cmp_isNaN_int,h1,h2,Option.pure_def,Option.bind_eq_bind,Option.bind_some,cJ,if_false,id,decide_eq_true_eq];by_cases h:x<y
 · simp [h]
 by_cases h':y<x
 · simp [h,h']
 simp [h,h']
theorem zP3 {a b:List Int} (ha:a.length<4611686018427387904):∀ (j q:Nat),q+j=a.length->q<=b.length->∃ o,wA a b (q:Int)=some o/\(match o with | .ret r=>r=cmpL (a.drop q) (b.drop q) | .done _=>a.length<=b.length/\cmpL (a.drop q) (b.drop q)=if a.length<b.length then -1 else 0):=by
 intro j
 induction j with
 | zero =>
  intro q hq hb;refine ⟨.done (),?_,by omega,?_⟩
  · rw [wA];have:¬((q:Int)<(a.length:Int)):=by omega
    simp only [this,decide_false,cJ,if_false,Option.pure_def]
  rw [dc.2 (show a.length<=q by omega)];by_cases h:a.length<b.length
  · rw [if_pos h,cR (show q<b.length by omega),cmpL]
  rw [if_neg h,dc.2 (show b.length<=q by omega),cmpL]
 | succ j ih =>
  intro q hq hb;have aE:q<a.length:=by omega
  have hc:((q:Int)<(a.length:Int)):=by omega
  have ei:idx a (q:Int)=some a[q]:=by rw [show idx a (q:Int)=a[q]? by unfold idx; simp,cg aE]
  by_cases hq2:q<b.length
  · have ej:idx b (q:Int)=some b[q]:=by rw [show idx b (q:Int)=b[q]? by unfold idx; simp,cg hq2]
    have hg:¬((q:Int)>=(b.length:Int)):=by omega
    have eW:W ((q:Int)+1)=((q+1:Nat):Int):=by show IntKind.i64.wrap _=_; rw [IntKind.wrap_i64]; omega
    rw [wA,cR aE,cR hq2,cmpL];simp only [hc,decide_true,if_true,ei,ej,hg,decide_false,cJ,if_false,zQU,Option.bind_eq_bind,Option.bind_some,Option.pure_def,eW];by_cases h1:a[q]<b[q]
    · refine ⟨.ret (-1),?_,?_⟩
      · simp [h1]
      simp [h1]
    by_cases h2:b[q]<a[q]
    · refine ⟨.ret 1,?_,?_⟩
      · simp [h1,h2]
      simp [h1,h2]
    obtain ⟨o,e1,e2⟩:=ih (q+1) (by omega) (by omega);refine ⟨o,?_,?_⟩
    · simp only [h1,h2,if_false,bne_self_eq_false,cJ]; exact e1
    rw [if_neg h1,if_neg h2]; exact e2
  refine ⟨.ret 1,?_,?_⟩
  · rw [wA];have hg:((q:Int)>=(b.length:Int)):=by omega
    simp only [hc,decide_true,if_true,ei,hg,Option.bind_eq_bind,Option.bind_some,Option.pure_def]
  show 1=cmpL _ _;rw [cR aE,dc.2 (show b.length<=q by omega),cmpL]
theorem zO6 {a b:List Int} (ha:a.length<4611686018427387904):nW a b=some (cmpL a b):=by
 obtain ⟨o,h1,h2⟩:=zP3 (b:=b) ha a.length 0 (cu _) (ff _);rw [co,co] at h2;have h1:wA a b 0=some o:=h1;unfold nW;rw [h1];cases o with
 | ret r=>show some r=_; rw [h2]
 | done u =>
  rw [h2.2];by_cases h:a.length<b.length
  · simp [h]
  simp [h]
def zAa (p:Option Addr) (c:Nat) (s r:List (List Int)):KT:=fun kk I' ah v=>
  ∃ cs',ah=[hO (List Int) (vS p r c) cs']/\v=tupV []/\r.length=s.length/\RL I' cs' r
def rR (x:List (List Int)):Option (List (List Int)):=if x.length<4611686018427387904/\∀ l∈x,l.length<4611686018427387904 then some (srtL x) else none
theorem zBB:∀ x r,rR x=some r->∀ {I:Imm}{p c cs},RL I cs x->RT 128 [vS p x c,.func (.func 111) ⟨[]⟩ ⟨[]⟩] I [hO (List Int) (vS p x c) cs] (zAa p c x r):=by
 intro x r N I p c cs h;unfold rR at N;split at N
 · rename_i hb;cases N
   refine zN1 (fun blk off cap d w h1 h2 h3 h4=>Any.slices_SortFunc Tryz.laysSort _ oneR cfR swoR 111 #[] blk off cap d w (Go.Proofs.enters_of func111 (by kernel_rfl) rfl) h1 h2 h3 h4) (fun w=>?_) (fun x y=>?_) hb.1 hb.2 h fun k cs' h'=>⟨cs',rfl,rfl,List.length_mergeSort _,h'⟩
   · exact (AnyF.slices_SortFunc_none ({ Tryz.laysSort with }:Go.Proofs.SlLaysF0.n6 Tryz.prog _) none 0 _ w).mono fun e w' ⟨h1,h2⟩=>⟨h1,0,#[],by rw [h2]; simp [Sort.grow,World.drewN]⟩
   obtain ⟨xv,xl,xh,xb⟩:=x;obtain ⟨yv,yl,yh,yb⟩:=y;obtain ⟨p1,c1,rfl⟩:=xh.form;obtain ⟨p2,c2,rfl⟩:=yh.form;exact (zBJ xl yl _ (zO6 xb) xh yh).mono (by rintro k i hs u ⟨v0,rfl,rfl,rfl⟩; exact ⟨rfl,rfl⟩)
 cases N
def xT (k0:Int) (l:List (List Int)) (s3:List (List Int)) (k01:Int) (k2:Int):Option ((List (List Int)×Int)):=do
 if (decide (k2<(l.length:Int))) then
  let x2<-idx l k2
  let x3<-idx s3 (k0+k2)
  let x4<-idx l (W (k2 - 1))
  let x5<-idx s3 (k0+(W (k2 - 1)))
  let y1<-tX x3 x5
  let (s5,k03)<-(do
    if (!y1) then
     let x6<-idx l k2
     let x7<-idx s3 (k0+k2)
     let x8<-idx s3 k01
     let l1<-pure (s3.set k01.toNat x7)
     pure (l1,(W (k01+1)))
    else
     pure (s3,k01)
      : Option (List (List Int)×Int))
  xT k0 l s5 k03 (W (k2+1))
 else
  pure (s3,k01)
 partial_fixpoint
theorem zAD (k0:Int) (l:List (List Int)):∀ (s3:List (List Int)) (k01:Int) (k2:Int) (o:(List (List Int)×Int)),xT k0 l s3 k01 k2=some o->∀ {B}{I0 I:Imm}{Q p c p3 c3 aT},I0.le I->(Win p (Rp.sz (List Int)) k0 p3 l.length)->(RL I aT s3)->NG Q->NO Q->(∀ (I':Imm) (s4:List (List Int)) (k02:Int) (bt:List Value),o=(s4,k02)->I0.le I'->(RL I' bt s4)->T 66 B Q (.exit 2) I' [hO (List Int) (vS p s4 c) bt] [(0,vS p s4 c),(5,vI k02)])->J Tryz.prog 66 B (nav (bodyOf f129) [1,1,0,1,0,0,1,0,0,1,0,1,0,1,0]) Q I [hO (List Int) (vS p s3 c) aT] [(0,vS p s3 c),(1,.func (.func 61) ⟨[]⟩ ⟨[]⟩),(5,vI k01),(6,vS p3 l c3),(7,vI k2)]:=by
 refine xT.partial_correctness k0 l _ fun aJ ih s3 k01 k2 o N B I0 I Q p c p3 c3 aT H h7 h8 hg ho hx=>yM hg ho<|zZ<|yF [35] rfl<|zG<|yC N ?_ ?_
 · intro bK N;refine zS<|zX<|yG<|zZ ?_;obtain ⟨x2,bw,N⟩:=zB N;obtain ⟨x3,bI,N⟩:=zB N;obtain ⟨x4,hy6,N⟩:=zB N;obtain ⟨x5,hy7,N⟩:=zB N;obtain ⟨y1,hy8,N⟩:=zB N;refine wQ [.p (.func (.func 61) ⟨[]⟩ ⟨[]⟩) [],.p (vS p3 l c3) [],.p (vI k2) [],.x (fun I' v hx=>∃ ad2 p4 c4,v=.pointer (some ad2)/\hx=[]/\(AtO (vS p s3 c) (Rp.sz (List Int)) (k0+k2).toNat ad2)/\((aT.drop ((k0+k2).toNat*Rp.sz (List Int))).take (Rp.sz (List Int))=[vS p4 x3 c4])/\(S4 I' p4 x3 c4)),.x (eS x3),.p (vS p3 l c3) [],.p (vI k2) [],.p (vI (W (k2 - 1))) [],.x (fun I' v hx=>∃ ad3 p5 c5,v=.pointer (some ad3)/\hx=[]/\(AtO (vS p s3 c) (Rp.sz (List Int)) (k0+(W (k2 - 1))).toNat ad3)/\((aT.drop ((k0+(W (k2 - 1))).toNat*Rp.sz (List Int))).take (Rp.sz (List Int))=[vS p5 x5 c5])/\(S4 I' p5 x5 c5)),.x (eS x5),.q (.bool y1),.p (.bool (!y1)) []] [[],[],[],[(1,false),(2,false)],[(3,false)],[],[],[(6,false)],[(5,false),(7,false)],[(8,false)],[(0,false),(4,false),(9,false)],[(10,false)]] [hO (List Int) (vS p s3 c) aT] [] [(11,false)] (zY [0]) ?_ ?_
   · refine Op<|Op<|Op<|Ox ?_<|Ox ?_<|Op<|Op<|Op<|Ox ?_<|Ox ?_<|Oq ?_<|Op<|On
     · intro I1 hf af;refine yT [39,40] rfl ?_;have ⟨h8,h7⟩:=m2 af h8 h7;refine zN2 (wc:=c3) 0 rfl rfl h7 rfl h8 bw bI ?_;intro ad2 bP aY hcc2 bd;obtain ⟨v03,rfl,h10⟩:=bd;obtain ⟨p4,c4,rfl⟩:=h10.form;exact yN [] iR ⟨_,_,_,rfl,rfl,aY,hcc2,h10⟩
     · rintro I1 hf af _ _ ⟨ad2,p4,c4,rfl,rfl,aY,hcc2,h10⟩;exact yT [41] rfl<|zAH 0 0 aY hcc2 [vS p4 x3 c4] (vS p4 x3 c4) rfl rfl<|yN [] iR ⟨_,_,rfl,rfl,h10⟩
     · intro I1 hf af;refine yT [43,45] rfl ?_;have ⟨h8,h7⟩:=m2 af h8 h7;refine zN2 (wc:=c3) 0 rfl rfl h7 rfl h8 hy6 hy7 ?_;intro ad3 ccs3 hat3 hcc3 bG;obtain ⟨v04,rfl,h11⟩:=bG;obtain ⟨p5,c5,rfl⟩:=h11.form;exact yN [] iR ⟨_,_,_,rfl,rfl,hat3,hcc3,h11⟩
     · rintro I1 hf af _ _ ⟨ad3,p5,c5,rfl,rfl,hat3,hcc3,h11⟩;exact yT [46] rfl<|zAH 0 0 hat3 hcc3 [vS p5 x5 c5] (vS p5 x5 c5) rfl rfl<|yN [] iR ⟨_,_,rfl,rfl,h11⟩
     rintro I1 hf af _ _ ⟨rfl,rfl⟩ _ _ ⟨p41,c41,rfl,rfl,h101⟩ _ _ ⟨p51,c51,rfl,rfl,h111⟩;refine yT [38,42,47] rfl ?_;have H:=iS I1;refine vQ (gB x3 x5 _ hy8 h101 h111) ?_;intro bH aK;have H:=H.trans aK;exact xC H
   intro bL bk;refine yT [0,1,5,6,7,49] rfl ?_;have ⟨h8,h7,H⟩:=m3 bk h8 h7 H;refine yD rfl<|zG ?_;obtain ⟨o0,aD,aU⟩:=zB N;refine qF (fun I' ah m'=>∃ (s5:List (List Int)) (k03:Int) (bJ:List Value),o0=(s5,k03)/\bL.le I'/\(RL I' bJ s5)/\ah=[hO (List Int) (vS p s5 c) bJ]/\m'=[(0,vS p s5 c),(1,.func (.func 61) ⟨[]⟩ ⟨[]⟩),(5,vI k03),(6,vS p3 l c3),(7,vI k2)]) ?_ ?_
   · have H:=iS bL;refine yC aD ?_ ?_
     · intro bO N;refine yE<|yB 4 [] [50,51,52,53] rfl ?_;obtain ⟨x6,hy9,N⟩:=zB N;obtain ⟨x7,hy10,N⟩:=zB N;refine zN2 (wc:=c3) 0 rfl rfl h7 rfl h8 hy9 hy10 ?_;intro ad4 ccs4 hat4 hcc4 hrep4;obtain ⟨v06,rfl,h14⟩:=hrep4;obtain ⟨p6,c6,rfl⟩:=h14.form;refine zAH 0 0 hat4 hcc4 [vS p6 x7 c6] (vS p6 x7 c6) rfl rfl<|bE N fun x8 hy11 N=>pQ 0 rfl rfl rfl h8 hy11 ?_;intro ad5 ccs5 hat5 hcc5 hrep5;obtain ⟨v07,rfl,h15⟩:=hrep5;obtain ⟨p7,c7,rfl⟩:=h15.form;obtain ⟨l1,hy12,N⟩:=zB N;refine tR (c:=[vS p6 x7 c6]) (x':=x7) 0 0 rfl rfl rfl hat5 rfl rfl hcc5 (by kernel_rfl) (by kernel_rfl) (by kernel_rfl) h8 hy11 (by kernel_rfl) ⟨_,rfl,h14⟩ ?_;rw [show s3.set k01.toNat x7=l1 from zC hy12];intro cs6 h16 hl01;exact kD (m':=[(0,vS p s3 c),(1,.func (.func 61) ⟨[]⟩ ⟨[]⟩),(5,vI k01),(6,vS p3 l c3),(7,vI k2),(50,vS p s3 c),(51,vI k01),(52,vS p3 l c3),(53,vI k2),(55,vS p6 x7 c6)]) ⟨rfl,rfl,rfl,rfl,rfl,rfl,rfl,rfl,rfl,rfl,trivial⟩<|zA1 (ah:=[hO (List Int) (vS p l1 c) cs6]) (m':=[(0,vS p l1 c),(1,.func (.func 61) ⟨[]⟩ ⟨[]⟩),(5,vI k01),(6,vS p3 l c3),(7,vI k2),(50,vS p l1 c),(51,vI k01),(52,vS p3 l c3),(53,vI k2),(55,vS p6 x7 c6)]) (by first | rfl | simp only [vS,hl01,cv,dj,dq,dh,cX,cY]) (by first | rfl | simp only [vS,hl01])<|yD rfl<|zG<|zJ<|yH [] [5] rfl<|T_w [(0,vS p l1 c),(1,.func (.func 61) ⟨[]⟩ ⟨[]⟩),(5,vI (W (k01+1))),(6,vS p3 l c3),(7,vI k2)]<|zU ⟨_,_,_,(zC N).symm,H,h16,rfl,rfl⟩
     intro bO N;exact zS<|T_w [(0,vS p s3 c),(1,.func (.func 61) ⟨[]⟩ ⟨[]⟩),(5,vI k01),(6,vS p3 l c3),(7,vI k2)]<|zU ⟨_,_,_,(zC N).symm,H,h8,rfl,rfl⟩
   rintro bR ay m2 ⟨s5,k03,bJ,heq,bz,h13,rfl,rfl⟩;subst o0;have ⟨h7,H⟩:=m2 bz h7 H;exact zM<|zG<|zJ<|yH [] [7] rfl<|yK<|rU [(0,vS p s5 c),(1,.func (.func 61) ⟨[]⟩ ⟨[]⟩),(5,vI k03),(6,vS p3 l c3),(7,vI (W (k2+1)))]<|ih s5 k03 (W (k2+1)) _ aU H h7 h13 hg ho hx
 intro bK N;exact wJ<|T_w [(0,vS p s3 c),(5,vI k01)]<|hx _ _ _ _ (zC N).symm H h8
def xU (s1:List (List Int)) (k0:Int):Option (Out (List (List Int)) ((List (List Int)))):=do
 if (decide (k0<(s1.length:Int))) then
  let x<-idx s1 k0
  let x1<-idx s1 (W (k0 - 1))
  let y<-tX x x1
  if y then
   let l<-slc s1 k0 (s1.length:Int)
   let (s4,k02)<-xT k0 l s1 k0 1
   let l2<-clrL s4 k02 ([]:List Int)
   let l3<-slc l2 0 k02
   pure (.ret l3)
  else
   xU s1 (W (k0+1))
 else
  pure (.done s1)
 partial_fixpoint
theorem zAE (s1:List (List Int)):∀ (k0:Int) (o:Out (List (List Int)) ((List (List Int)))),xU s1 k0=some o->∀ {B}{I0 I:Imm}{Q p c az},I0.le I->(RL I az s1)->NG Q->NO Q->(∀ (I':Imm) (s2:List (List Int)) (aS:List Value),o=(.done s2)->I0.le I'->(RL I' aS s2)->T 66 B Q (.exit 0) I' [hO (List Int) (vS p s2 c) aS] [(0,vS p s2 c)])->(∀ r I' ah m',o=(.ret r)->I0.le I'->RS Tryz.prog f129 B (fJ  r) I' ah m'->T 66 B Q .ret I' ah m')->J Tryz.prog 66 B (nav (bodyOf f129) [1,1,0,1,0]) Q I [hO (List Int) (vS p s1 c) az] [(0,vS p s1 c),(1,.func (.func 61) ⟨[]⟩ ⟨[]⟩),(5,vI k0)]:=by
 refine xU.partial_correctness s1 _ fun aJ ih k0 o N B I0 I Q p c az H h2 hg ho hx hr=>yM hg ho<|zZ<|yF [15] rfl<|zG<|yC N ?_ ?_
 · intro aI N;refine zS<|zX<|yG<|zZ ?_;obtain ⟨x,hy,N⟩:=zB N;obtain ⟨x1,aB,N⟩:=zB N;obtain ⟨y,aN,N⟩:=zB N;refine wQ [.p (.func (.func 61) ⟨[]⟩ ⟨[]⟩) [],.p (vS p s1 c) [],.p (vI k0) [],.x (fun I' v hx=>∃ ad p1 c1,v=.pointer (some ad)/\hx=[]/\(AtO (vS p s1 c) (Rp.sz (List Int)) k0.toNat ad)/\((az.drop (k0.toNat*Rp.sz (List Int))).take (Rp.sz (List Int))=[vS p1 x c1])/\(S4 I' p1 x c1)),.x (eS x),.p (vS p s1 c) [],.p (vI k0) [],.p (vI (W (k0 - 1))) [],.x (fun I' v hx=>∃ ad1 p2 c2,v=.pointer (some ad1)/\hx=[]/\(AtO (vS p s1 c) (Rp.sz (List Int)) (W (k0 - 1)).toNat ad1)/\((az.drop ((W (k0 - 1)).toNat*Rp.sz (List Int))).take (Rp.sz (List Int))=[vS p2 x1 c2])/\(S4 I' p2 x1 c2)),.x (eS x1),.q (.bool y)] [[],[],[],[(1,false),(2,false)],[(3,false)],[],[],[(6,false)],[(5,false),(7,false)],[(8,false)],[(0,false),(4,false),(9,false)]] [hO (List Int) (vS p s1 c) az] [] [(10,false)] (zY [0]) ?_ ?_
   · refine Op<|Op<|Op<|Ox ?_<|Ox ?_<|Op<|Op<|Op<|Ox ?_<|Ox ?_<|Oq ?_<|On
     · intro I1 hf af;refine yT [19,20] rfl ?_;have h2:=iM af h2;refine pQ 0 rfl rfl rfl h2 hy ?_;intro ad aQ ar bM ap;obtain ⟨v0,rfl,h4⟩:=ap;obtain ⟨p1,c1,rfl⟩:=h4.form;exact yN [] iR ⟨_,_,_,rfl,rfl,ar,bM,h4⟩
     · rintro I1 hf af _ _ ⟨ad,p1,c1,rfl,rfl,ar,bM,h4⟩;exact yT [21] rfl<|zAH 0 0 ar bM [vS p1 x c1] (vS p1 x c1) rfl rfl<|yN [] iR ⟨_,_,rfl,rfl,h4⟩
     · intro I1 hf af;refine yT [23,25] rfl ?_;have h2:=iM af h2;refine pQ 0 rfl rfl rfl h2 aB ?_;intro ad1 bv av hcc1 ax;obtain ⟨v01,rfl,h5⟩:=ax;obtain ⟨p2,c2,rfl⟩:=h5.form;exact yN [] iR ⟨_,_,_,rfl,rfl,av,hcc1,h5⟩
     · rintro I1 hf af _ _ ⟨ad1,p2,c2,rfl,rfl,av,hcc1,h5⟩;exact yT [26] rfl<|zAH 0 0 av hcc1 [vS p2 x1 c2] (vS p2 x1 c2) rfl rfl<|yN [] iR ⟨_,_,rfl,rfl,h5⟩
     rintro I1 hf af _ _ ⟨rfl,rfl⟩ _ _ ⟨aR,bc,rfl,rfl,h41⟩ _ _ ⟨p21,c21,rfl,rfl,h51⟩;refine yT [18,22,27] rfl ?_;have H:=iS I1;refine vQ (gB x x1 _ aN h41 h51) ?_;intro aW af;have H:=H.trans af;exact xC H
   intro ba aF;refine yT [0,1,5,28] rfl ?_;have ⟨h2,H⟩:=m2 aF h2 H;refine yD rfl<|zG<|yC N ?_ ?_
   · intro aX N;refine yE<|yB 2 [] [29,30] rfl<|bE N fun l bm N=>zQR 0 rfl rfl h2 bm fun p3 c3 h7=>yH [] [6] rfl<|zX<|yF [7] rfl<|xX<|rU [(0,vS p s1 c),(1,.func (.func 61) ⟨[]⟩ ⟨[]⟩),(5,vI k0),(6,vS p3 l c3),(7,vI 1)] ?_;obtain ⟨aP,aA,aM⟩:=zB N;refine zAD k0 l s1 k0 1 aP aA iR h7 h2 (fun _ _ _ h=>hg _ _ _ h) (fun _ _ h=>ho _ _ h) ?_;intro I06 s4 k02 bt heq1 bC h9;subst aP;have H:=H.trans bC;refine zR<|yX<|yB 2 [] [59,60] rfl ?_;obtain ⟨l2,hy13,N⟩:=zB aM;refine zQQ ([]:List Int) [z0] 0 rfl rfl rfl rfl h9 hy13 ⟨_,rfl,(SL.nil _)⟩ fun cs7 v08 h17 hl02=>kD (m':=[(0,vS p s4 c),(5,vI k02),(59,vS p s4 c),(60,vI k02)]) ⟨rfl,rfl,rfl,rfl,trivial⟩<|zA1 (ah:=[hO (List Int) (vS p l2 c) cs7]) (m':=[(0,vS p l2 c),(5,vI k02),(59,vS p l2 c),(60,vI k02)]) (by first | rfl | simp only [vS,hl02,cv,dj,dq,dh,cX,cY]) (by first | rfl | simp only [vS,hl02])<|yD rfl<|yX<|yB 2 [] [62,63] rfl<|bE N fun l3 hy14 N=>zM7 0 rfl rfl rfl rfl rfl (by kernel_rfl) rfl rfl h17 hy14 ?_;rintro p8 c8 cs8 - h18;refine wN (ah:=[hO (List Int) (vS p8 l3 c8) cs8]) rfl<|yH [] [4] rfl<|xD<|zV<|zH<|zH<|yU 0 rfl ?_;intro I07 le7 hl03;have h19:=SL.of_frozen hl03 le7 h18;have H:=H.trans le7;exact hr _ _ _ _ (zC N).symm H ⟨_,_,(.tmp rfl ResV.nil),zQ,⟨_,rfl,rfl,h19⟩⟩
   intro aX N;exact zS<|zM<|zG<|zJ<|yH [] [5] rfl<|yK<|rU [(0,vS p s1 c),(1,.func (.func 61) ⟨[]⟩ ⟨[]⟩),(5,vI (W (k0+1)))]<|ih (W (k0+1)) _ N H h2 hg ho hx hr
 intro aI N;exact wJ<|T_w [(0,vS p s1 c)]<|hx _ _ _ (zC N).symm H h2
def uE (s:(List (List Int))):Option ((List (List Int))):=do
 if (decide ((s.length:Int)<2)) then
  pure (id s)
 else
  match<-xU s 1 with
  | .ret r0=>pure r0
  | .done s2 =>
   pure (id s2)
theorem zAY:∀ s r,uE s=some r->∀ {I:Imm}{p c cs},(RL I cs s)->RT 129 [vS p s c,.func (.func 61) ⟨[]⟩ ⟨[]⟩] I [hO (List Int) (vS p s c) cs] (fJ  r):=by
 intro s r N I p c cs h;unfold uE at N;refine yJ func129 fun B=>wP []<|zX<|yF [10] rfl<|zG<|yC N ?_ ?_
 · intro hc N;refine yF [4] rfl<|xD<|zH<|yU 0 rfl ?_;intro I0 le hl0;have h1:=SL.of_frozen hl0 le h;obtain rfl:=zC N;exact yZ ⟨_,_,(.tmp rfl ResV.nil),zQ,⟨_,rfl,rfl,h1⟩⟩
 intro hc N;refine zS<|zX<|yF [5] rfl<|xX<|rU [(0,vS p s c),(1,.func (.func 61) ⟨[]⟩ ⟨[]⟩),(5,vI 1)] ?_;obtain ⟨o02,ho02,hMl1⟩:=zB N;refine zAE s 1 o02 ho02 iR h (fun _ _ _ h=>h) (fun _ _ h=>h) ?_ ?_
 · intro I08 s2 aS heq2 le8 h3;subst o02;refine zR<|wM [4] rfl<|xD<|yU 0 rfl ?_;intro I09 le9 hl04;have h20:=SL.of_frozen hl04 le9 h3;obtain rfl:=zC hMl1;exact yZ ⟨_,_,(.tmp rfl ResV.nil),zQ,⟨_,rfl,rfl,h20⟩⟩
 intro r0 I9 hs9 m9 aZ le9 bb;subst aZ;refine zV<|zH ?_;obtain rfl:=zC hMl1;exact yZ bb
def vX (x1:zK) (x2:zK) (by0:List Int) (t48:Int):Option (List Int):=do
 if (decide (t48<(x2.Point.length:Int))) then
  let x3<-idx x2.Point t48
  let x4<-idx x1.Point t48
  let by02<-app 8 by0 ([(W (x3 - x4))]:List Int)
  vX x1 x2 by02 (W (t48+1))
 else
  pure (id by0)
 partial_fixpoint
theorem zAi (x1:zK) (x2:zK):∀ (by0:List Int) (t48:Int) (o:List Int),vX x1 x2 by0 t48=some o->∀ {B}{I0 I:Imm}{Q}{t:xS}{part:Int}{y:(List yP)}{out:List (List Int)}{t15:Int}{ad:Addr}{p c p1 c1 p2 c2 p3 c3 p4 c4 p5 c5 p6 c6 cs p91 c91}{b2:Nat}{b11:Nat}{p811 c811 bi bh aS},I0.le I->(S4 I p t.Program.Arrays c)->(S4 I p1 t.Program.Parts c1)->(S4 I p2 t.list c2)->(S4 I p3 t.reads c3)->(S4 I p4 t.writes c4)->(At I ad [vS p t.Program.Arrays c,vS p1 t.Program.Parts c1,vS p2 t.list c2,vS p3 t.reads c3,vS p4 t.writes c4])->(RL I cs out)->(S4 I p5 y c5)->(S4 I p811 x1.Point c811)->(S4 I p91 x2.Point c91)->(RL I aS by0)->NG Q->NO Q->(∀ (I':Imm) (by01:List Int) (aR:Option Addr) (bc:Nat) (aT:List Value),o=by01->I0.le I'->(RL I' aT by01)->T 75 B Q (.exit 2) I' [hO Int (vS aR by01 bc) aT,hO (List Int) (vS p6 out c6) cs] [(0,.pointer (some ad)),(1,vI part),(5,vS p6 out c6),(10,vS aR by01 bc),(13,vS p5 y c5),(14,vI (y.length:Int)),(15,vI t15)])->J Tryz.prog 75 B (nav (bodyOf f87) [1,1,0,1,0,0,1,1,0,0,1,1,1,1,0,1,0]) Q I [hO Int (vS bi by0 bh) aS,hB b11 (cInst x1 p811 c811),hB b2 (cInst x2 p91 c91),hO (List Int) (vS p6 out c6) cs] [(0,.pointer (some ad)),(1,vI part),(5,vS p6 out c6),(8,vP b11 0),(9,vP b2 0),(10,vS bi by0 bh),(13,vS p5 y c5),(14,vI (y.length:Int)),(15,vI t15),(47,vI (x2.Point.length:Int)),(48,vI t48)]:=by
 refine vX.partial_correctness x1 x2 _ fun aJ ih by0 t48 o N B I0 I Q t part y out t15 ad p c p1 c1 p2 c2 p3 c3 p4 c4 p5 c5 p6 c6 cs p91 c91 b2 b11 p811 c811 bi bh aS H h h1 h2 h3 h4 ar h7 h5 h911 h101 h12 hg ho hx=>yM hg ho<|yF [49] rfl<|zX<|yC N ?_ ?_
 · intro bK N;refine zS<|zX<|yG<|yF [11] rfl<|zG ?_;obtain ⟨x3,bw,N⟩:=zB N;obtain ⟨x4,bI,N⟩:=zB N;obtain ⟨by02,hy6,N⟩:=zB N;refine wQ [.p (vS bi by0 bh) [],.p (vP b2 2) [],.p (vS p91 x2.Point c91) [1],.p (vI t48) [],.x (fun I' v hx=>∃ ad4,v=.pointer (some ad4)/\hx=[]/\(At I' ad4 [vI x3])),.q (vI x3),.p (vP b11 2) [],.p (vS p811 x1.Point c811) [0],.p (vI t48) [],.x (fun I' v hx=>∃ ad5,v=.pointer (some ad5)/\hx=[]/\(At I' ad5 [vI x4])),.q (vI x4),.p (vI (W (x3 - x4))) [],.x (fun I' v hx=>∃ b3,v=vS (some ⟨b3,0,none⟩) ([(W (x3 - x4))]:List Int) 1/\hx=[]/\(SL I' (vS (some ⟨b3,0,none⟩) ([(W (x3 - x4))]:List Int) 1) ([(W (x3 - x4))]:List Int))),.x (fun I' v hx=>∃ bD bo bt,v=vS bD by02 bo/\hx=[hO Int (vS bD by02 bo) bt]/\(RL I' bt by02))] [[],[],[(1,false)],[],[(2,false),(3,false)],[(4,false)],[],[(6,false)],[],[(7,false),(8,false)],[(9,false)],[(5,false),(10,false)],[(11,false)],[(0,false),(12,false),(15,true)]] [hB b11 (cInst x1 p811 c811),hB b2 (cInst x2 p91 c91),hO (List Int) (vS p6 out c6) cs] [[hO Int (vS bi by0 bh) aS]] [(13,true)] (zY [1,2,3,0]) ?_ ?_
   · refine Op<|Op<|Op<|Op<|Ox ?_<|Oq ?_<|Op<|Op<|Op<|Ox ?_<|Oq ?_<|Op<|Ox ?_<|Ox ?_<|On
     · intro I1 hf af;refine yT [53,54] rfl ?_;have h101:=h101.mono af;refine xK rfl rfl h101 bw ?_;intro ad4 ccs3 hat4 bG;obtain rfl:=bG;exact yN [] iR ⟨_,rfl,rfl,hat4⟩
     · rintro I1 hf af _ _ ⟨ad4,rfl,rfl,hat4⟩;exact yT [55] rfl<|xB 0 hat4 [vI x3] (vI x3) rfl<|xC iR
     · intro I1 hf af;refine yT [58,59] rfl ?_;have h911:=h911.mono af;refine xK rfl rfl h911 bI ?_;intro ad5 ccs4 hat5 hrep4;obtain rfl:=hrep4;exact yN [] iR ⟨_,rfl,rfl,hat5⟩
     · rintro I1 hf af _ _ ⟨ad5,rfl,rfl,hat5⟩;exact yT [60] rfl<|xB 0 hat5 [vI x4] (vI x4) rfl<|xC iR
     · intro I1 hf af;refine yT [62] rfl ?_;have H:=iS I1;refine mN (rI [(W (x3 - x4))]) ?_;intro b3 bH aK h15;have H:=H.trans aK;exact yN [] H ⟨_,rfl,rfl,h15⟩
     rintro I1 hf af _ _ ⟨rfl,rfl⟩ _ _ ⟨b3,rfl,rfl,h15⟩ _ _ rfl;refine yT [51,63] rfl ?_;have h12:=iM af h12;obtain ⟨ccs5,k0,k01⟩:=h15;have h15:SL I1 (vS (some ⟨b3,0,none⟩) ([(W (x3 - x4))]:List Int) 1) ([(W (x3 - x4))]:List Int):=⟨_,k0,k01⟩;exact sU 3 1 0 rfl rfl rfl h12 (.inl k0) k01 hy6 fun bD bo bt h16=>wN (ah:=(hO Int (vS bD by02 bo) bt::hB b11 (cInst x1 p811 c811)::hB b2 (cInst x2 p91 c91)::hO (List Int) (vS p6 out c6) cs::hf)) rfl<|yN [hO Int (vS bD by02 bo) bt] iR ⟨_,_,_,rfl,rfl,h16⟩
   rintro bL bk _ _ ⟨bD,bo,bt,rfl,rfl,h16⟩;refine yT [0,1,5,8,9,13,14,15,47,48,64] rfl ?_;have ⟨h,h1,h2,h3,h4,ar⟩:=m6 bk h h1 h2 h3 h4 ar;have ⟨h7,h5,h911,h101,H⟩:=m5 bk h7 h5 h911 h101 H;exact yH [] [10] rfl<|zM<|zG<|zJ<|yH [] [48] rfl<|yK<|oY<|ih by02 (W (t48+1)) _ N H h h1 h2 h3 h4 ar h7 h5 h911 h101 h16 hg ho hx
 intro bK N;exact wJ<|xQ (zW [0,3] rfl (by decide))<|yL<|hx _ _ _ _ _ (zC N).symm H h12
def wD (t:xS) (part:Int) (y:(List yP)) (out:List (List Int)) (t15:Int):Option (List (List Int)):=do
 if (decide (t15<(y.length:Int))) then
  let x<-idx y t15
  let x1<-idx t.list x.From
  let x2<-idx t.list x.To
  let t44<-(do
    if (x1.Part != part) then
     pure true
    else
     pure (x2.Part != part)
      : Option Bool)
  if t44 then
   wD t part y out (W (t15+1))
  else
   let by01<-vX x1 x2 ([]:List Int) 0
   let au<-app 24 out ([by01]:List (List Int))
   wD t part y au (W (t15+1))
 else
  pure (id out)
 partial_fixpoint
theorem zAj (t:xS) (part:Int) (y:(List yP)):∀ (out:List (List Int)) (t15:Int) (o:List (List Int)),wD t part y out t15=some o->∀ {B}{I0 I:Imm}{Q}  {ad:Addr}{p c p1 c1 p2 c2 p3 c3 p4 c4 p5 c5 p6 c6 cs},I0.le I->(S4 I p t.Program.Arrays c)->(S4 I p1 t.Program.Parts c1)->(S4 I p2 t.list c2)->(S4 I p3 t.reads c3)->(S4 I p4 t.writes c4)->(At I ad [vS p t.Program.Arrays c,vS p1 t.Program.Parts c1,vS p2 t.list c2,vS p3 t.reads c3,vS p4 t.writes c4])->(S4 I p5 y c5)->(RL I cs out)->NG Q->NO Q->(∀ (I':Imm) (al:List (List Int)) (p7:Option Addr) (c7:Nat) (az:List Value),o=al->I0.le I'->(RL I' az al)->T 75 B Q (.exit 0) I' [hO (List Int) (vS p7 al c7) az] [(5,vS p7 al c7)])->J Tryz.prog 75 B (nav (bodyOf f87) [1,1,0,1,0]) Q I [hO (List Int) (vS p6 out c6) cs] [(0,.pointer (some ad)),(1,vI part),(5,vS p6 out c6),(13,vS p5 y c5),(14,vI (y.length:Int)),(15,vI t15)]:=by
 refine wD.partial_correctness t part y _ fun aJ ih out t15 o N B I0 I Q ad p c p1 c1 p2 c2 p3 c3 p4 c4 p5 c5 p6 c6 cs H h h1 h2 h3 h4 ar h5 h7 hg ho hx=>yM hg ho<|yF [16] rfl<|zX<|yC N ?_ ?_
 · intro hc N;refine zS<|zX<|yG<|yE<|bE N fun x aB N=>xK rfl rfl h5 aB ?_;intro ad1 aQ av ap;obtain rfl:=zB6 ap;refine xB 0 av [vI x.From,vI x.To,vI x.Kinds] (vA [vI x.From,vI x.To,vI x.Kinds]) rfl<|wS [vI 0,vI 0,vI 0] ?_;intro b hb;refine xJ 0 [vI x.From,vI x.To,vI x.Kinds] rfl<|yD rfl<|zG<|zZ ?_;obtain ⟨x1,aN,N⟩:=zB N;obtain ⟨x2,bm,N⟩:=zB N;refine wQ [.p (.pointer (some ad)) [],.p (.pointer (some ad)) [],.p (.pointer (some (ad.add 2))) [],.q (vS p2 t.list c2),.p (vP b 0) [],.p (vI x.From) [0],.x (ePInst x1),.x (eVInst x1),.p (.pointer (some ad)) [],.p (.pointer (some ad)) [],.p (.pointer (some (ad.add 2))) [],.q (vS p2 t.list c2),.p (vP b 1) [],.p (vI x.To) [0],.x (ePInst x2),.x (eVInst x2),.x (fun I' v hx=>∃ b1,v=vP b1 0/\hx=[hB b1 [vI 0,vI 0,z0]]),.x (fun I' v hx=>∃ b2,v=vP b2 0/\hx=[hB b2 [vI 0,vI 0,z0]]),.x (fun I' v hx=>∃ b11 p811 c811,v=vP b11 0/\hx=[hB b11 (cInst x1 p811 c811)]/\(S4 I' p811 x1.Point c811))] [[],[(0,false)],[(1,false)],[(2,false)],[],[(4,false)],[(3,false),(5,false)],[(6,false)],[],[(8,false)],[(9,false)],[(10,false)],[],[(12,false)],[(11,false),(13,false)],[(14,false)],[],[],[(7,false),(16,true)]] [hB b [vI x.From,vI x.To,vI x.Kinds],hO (List Int) (vS p6 out c6) cs] [] [(15,false),(17,true),(18,true)] (zY [0,1]) ?_ ?_
   · refine Op<|Op<|Op<|Oq ?_<|Op<|Op<|Ox ?_<|Ox ?_<|Op<|Op<|Op<|Oq ?_<|Op<|Op<|Ox ?_<|Ox ?_<|Ox ?_<|Ox ?_<|Ox ?_<|On
     · intro I1 hf af;refine yT [21] rfl ?_;have ar:=ar.mono af;exact xB 2 ar [vS p2 t.list c2] (vS p2 t.list c2) rfl<|xC iR
     · intro I1 hf af;refine yT [22,24] rfl ?_;have h2:=h2.mono af;refine xK rfl rfl h2 aN ?_;intro ad2 bv aY ax;obtain ⟨p8,c8,rfl,h9⟩:=vO ax;exact yN [] iR ⟨_,_,_,rfl,rfl,aY,h9⟩
     · rintro I1 hf af _ _ ⟨ad2,p8,c8,rfl,rfl,aY,h9⟩;exact yT [25] rfl<|xB 0 aY (cInst x1 p8 c8) (vA (cInst x1 p8 c8)) rfl<|yN [] iR ⟨_,_,rfl,rfl,h9⟩
     · intro I1 hf af;refine yT [29] rfl ?_;have ar:=ar.mono af;exact xB 2 ar [vS p2 t.list c2] (vS p2 t.list c2) rfl<|xC iR
     · intro I1 hf af;refine yT [30,32] rfl ?_;have h2:=h2.mono af;refine xK rfl rfl h2 bm ?_;intro ad3 bP hat3 bd;obtain ⟨p9,c9,rfl,h10⟩:=vO bd;exact yN [] iR ⟨_,_,_,rfl,rfl,hat3,h10⟩
     · rintro I1 hf af _ _ ⟨ad3,p9,c9,rfl,rfl,hat3,h10⟩;exact yT [33] rfl<|xB 0 hat3 (cInst x2 p9 c9) (vA (cInst x2 p9 c9)) rfl<|yN [] iR ⟨_,_,rfl,rfl,h10⟩
     · intro I1 hf af;refine I_h []<|wS [vI 0,vI 0,z0] ?_;intro b1 hb1;exact yN [hB b1 [vI 0,vI 0,z0]] iR ⟨_,rfl,rfl⟩
     · intro I1 hf af;refine I_h []<|wS [vI 0,vI 0,z0] ?_;intro b2 hb2;exact yN [hB b2 [vI 0,vI 0,z0]] iR ⟨_,rfl,rfl⟩
     rintro I1 hf af _ _ ⟨p81,c81,rfl,rfl,h91⟩ _ _ ⟨b1,rfl,rfl⟩;exact yT [8,26] rfl<|zB5 0 (cInst x1 p81 c81) (hB b1 (cInst x1 p81 c81)::hB b [vI x.From,vI x.To,vI x.Kinds]::hO (List Int) (vS p6 out c6) cs::hf) rfl rfl rfl rfl<|yN [hB b1 (cInst x1 p81 c81)] iR ⟨_,_,_,rfl,rfl,h91⟩
   rintro aW af _ _ ⟨p91,c91,rfl,rfl,h101⟩ _ _ ⟨b2,rfl,rfl⟩ _ _ ⟨b11,p811,c811,rfl,rfl,h911⟩;refine yT [0,1,5,8,9,13,14,15,34] rfl ?_;have ⟨h,h1,h2,h3,h4,ar⟩:=m6 af h h1 h2 h3 h4 ar;have ⟨h7,h5,H⟩:=m3 af h7 h5 H;refine xJ 1 (cInst x2 p91 c91) rfl<|yD rfl<|zX<|zZ ?_;refine wO N [hB b11 (cInst x1 p811 c811),hB b2 (cInst x2 p91 c91),hO (List Int) (vS p6 out c6) cs] (fun t44=>[(0,.pointer (some ad)),(1,vI part),(5,vS p6 out c6),(8,vP b11 0),(9,vP b2 0),(13,vS p5 y c5),(14,vI (y.length:Int)),(15,vI t15),(44,.bool t44)]) (fun o0 aD=>?_) ?_
   · have H:=iS aW;refine zJ<|yB 5 [0] [39] rfl<|xV [39] aD ?_ ?_
     · intro aI N;exact wG [] [(44,vY)]<|xQ (zW [0,1,3] rfl (by decide))<|yL<|zU (ct N H)
     intro aI N;exact yH [1] [44] rfl<|xQ (zW [0,1,3] rfl (by decide))<|yL<|zU (ct N H)
   intro t44 ba aF aU;have ⟨h,h1,h2,h3,h4,ar⟩:=m6 aF h h1 h2 h3 h4 ar;have ⟨h7,h5,h911,h101,H⟩:=m5 aF h7 h5 h911 h101 H;refine zG<|yC aU ?_ ?_
   · intro aX N;exact zEG<|kX<|zR<|zG<|zJ<|yH [] [15] rfl<|yK<|kE (zW [2] rfl (by decide))<|oY<|ih out (W (t15+1)) _ N H h h1 h2 h3 h4 ar h5 h7 hg ho hx
   intro aX N;refine zS<|zEv [(10,z0)]<|zX<|yE<|yH [1] [47,48] rfl<|xX<|rU [(0,.pointer (some ad)),(1,vI part),(5,vS p6 out c6),(8,vP b11 0),(9,vP b2 0),(10,z0),(13,vS p5 y c5),(14,vI (y.length:Int)),(15,vI t15),(47,vI (x2.Point.length:Int)),(48,vI 0)]<|zAI Int fun h11=>?_;obtain ⟨aP,aA,aM⟩:=zB N;refine zAi x1 x2 ([]:List Int) 0 aP aA iR h h1 h2 h3 h4 ar h7 h5 h911 h101 h11 (fun _ _ _ h=>hg _ _ _ h) (fun _ _ h=>ho _ _ h) ?_;intro bR by01 aR bc aT heq1 bz h13;subst aP;have ⟨h,h1,h2,h3,h4,ar⟩:=m6 bz h h1 h2 h3 h4 ar;have ⟨h7,h5,H⟩:=m3 bz h7 h5 H;refine zR<|zG<|zJ<|yB 2 [] [66,67] rfl<|xH 0 rfl ?_;intro I06 bC hl01;have h17:=SL.of_frozen hl01 bC h13;have ⟨h,h1,h2,h3,h4,ar⟩:=m6 bC h h1 h2 h3 h4 ar;have ⟨h5,h7,H⟩:=m3 bC h5 h7 H;refine uK [vS aR by01 bc] (List Int) ?_;intro b4 hb4;have h18:RL I06 [vS aR by01 bc] ([by01]:List (List Int)):=⟨[vS aR by01 bc],_,rfl,rfl,⟨_,rfl,h17⟩,rfl⟩;obtain ⟨au,hy7,N⟩:=zB aM;exact sU 27 1 1 rfl rfl rfl h7 (.inr ⟨0,rfl⟩) h18 hy7 fun bq bB bJ h19=>tZ (zY [1] (ah:=[hO (List Int) (vS bq au bB) bJ]))<|yH [] [5] rfl<|zM<|zG<|zJ<|yH [] [15] rfl<|yK<|oY<|ih au (W (t15+1)) _ N H h h1 h2 h3 h4 ar h5 h19 hg ho hx
 intro hc N;exact wJ<|yL<|hx _ _ _ _ _ (zC N).symm H h7
def pL (t:xS) (part:Int):Option ((List (List Int))):=do
 let y<-pG t
 let al<-wD t part y ([]:List (List Int)) 0
 let y1<-rR al
 let y2<-uE y1
 pure (id y2)
theorem zBd:∀ t part r,pL t part=some r->∀ {I:Imm}{ad:Addr}{p c p1 c1 p2 c2 p3 c3 p4 c4},(S4 I p t.Program.Arrays c)->(S4 I p1 t.Program.Parts c1)->(S4 I p2 t.list c2)->(S4 I p3 t.reads c3)->(S4 I p4 t.writes c4)->(At I ad [vS p t.Program.Arrays c,vS p1 t.Program.Parts c1,vS p2 t.list c2,vS p3 t.reads c3,vS p4 t.writes c4])->RT 87 [.pointer (some ad),vI part] I [] (fJ  r):=by
 intro t part r N I ad p c p1 c1 p2 c2 p3 c3 p4 c4 h h1 h2 h3 h4 ar;unfold pL at N;refine yJ func87 fun B=>wP []<|zEv [(5,z0)]<|zX<|yE<|yB 1 [] [12] rfl<|bE N fun y hy N=>xL (zAf t _ hy h h1 h2 h3 h4 ar) ?_;rintro I0 ay v2 k2 le - ⟨v0,rfl,rfl,h5⟩ -;have ⟨h,h1,h2,h3,h4,ar⟩:=m6 le h h1 h2 h3 h4 ar;obtain ⟨p5,c5,rfl⟩:=h5.form;refine yH [] [14,15] rfl<|xX<|rU [(0,.pointer (some ad)),(1,vI part),(5,z0),(13,vS p5 y c5),(14,vI (y.length:Int)),(15,vI 0)]<|zAI (List Int) fun h6=>?_;obtain ⟨o02,ho02,hMl1⟩:=zB N;refine zAj t part y ([]:List (List Int)) 0 o02 ho02 iR h h1 h2 h3 h4 ar h5 h6 (fun _ _ _ h=>h) (fun _ _ h=>h) ?_;intro I07 al p7 c7 az heq2 le7 h8;subst o02;refine zR<|yX<|yB 1 [] [71] rfl ?_;obtain ⟨y1,hy8,N⟩:=zB hMl1;refine sJ (zBB al _ hy8 h8) rfl ?_;rintro I08 ay v2 k2 le8 - ⟨cs6,rfl,rfl,hl02,h20⟩ -;refine kD (m':=[(5,vS p7 al c7),(72,.tuple ⟨[]⟩)]) ⟨rfl,rfl,trivial⟩<|zA1 (ah:=[hO (List Int) (vS p7 y1 c7) cs6]) (m':=[(5,vS p7 y1 c7),(72,.tuple ⟨[]⟩)]) rfl (by first | rfl | simp only [vS,hl02])<|yD rfl<|yX<|yB 1 [] [73] rfl<|bE N fun y2 hy9 N=>sJ (zAY y1 _ hy9 h20) rfl ?_;rintro I09 ay v2 k2 le9 - ⟨v03,rfl,rfl,h21⟩ -;obtain ⟨p14,c14,rfl⟩:=h21.form;refine yH [] [4] rfl<|zG<|yW ?_;obtain rfl:=zC N;exact yZ ⟨_,_,(.tmp rfl ResV.nil),zQ,⟨_,rfl,rfl,h21⟩⟩
def qB (n0:Int):Option (Bool):=do
 pure (n0 != 0)
theorem zDS:∀ n0 r,qB n0=some r->∀ {I:Imm} ,RT 131 [vI n0] I [] (zT  r):=by
 intro n0 r N I;unfold qB at N;refine yJ func131 fun B=>wP []<|wM [2] rfl<|zG<|yW ?_;obtain rfl:=zC N;exact wI
def jD (d0:(List Int)):Option (Int):=do
 let y<-tF d0 qB
 pure (id y)
theorem zEd:∀ d0 r,jD d0=some r->∀ {I:Imm}{p c},(S4 I p d0 c)->RT 88 [vS p d0 c] I [] (yS  r):=by
 intro d0 r N I p c h;unfold jD at N;refine yJ func88 fun B=>wP []<|yX<|yB 1 [] [3] rfl ?_;have hf0:FV1 Tryz.prog I [] (.func (.func 131) ⟨[]⟩ ⟨[]⟩) qB:=by
   refine FV1.intro ?_;intro I1 af x0 r u0 hF k0;obtain rfl:=k0;exact (zDS x0 r hF ).mono (by rintro k i hs u ⟨v0,rfl,rfl,h⟩; exact ⟨rfl,h⟩)
 obtain ⟨y,hy,N⟩:=zB N;refine xL (fI d0 qB _ hy h hf0) ?_;rintro I0 ay v2 k2 le - ⟨v0,rfl,rfl,rfl⟩ -;refine yH [] [2] rfl<|zG<|yW ?_;obtain rfl:=zC N;exact wI
def zBe (r:(List Bool)):KT:=fun kk I' ah v=>
  ∃ v0,ah=[]/\v=tupV [v0]/\SL I' v0 r
def uO (y:(List (List Int))) (al:List Bool) (t24:Int):Option (List Bool):=do
 if (decide (t24<(y.length:Int))) then
  let x1<-idx y t24
  let y1<-jD x1
  let aH<-(do
    if (decide (y1>=0)) then
     let x2<-idx al y1
     let l<-pure (al.set y1.toNat true)
     pure (id l)
    else
     pure (id al)
      : Option (List Bool))
  uO y aH (W (t24+1))
 else
  pure (id al)
 partial_fixpoint
theorem zBK (y:(List (List Int))):∀ (al:List Bool) (t24:Int) (o:List Bool),uO y al t24=some o->∀ {B}{I0 I:Imm}{Q p7 c7 p8 c8 az},I0.le I->(S4 I p7 y c7)->(RL I az al)->NG Q->NO Q->(∀ (I':Imm) (au:List Bool) (p9:Option Addr) (c9:Nat) (aS:List Value),o=au->I0.le I'->(RL I' aS au)->T 37 B Q (.exit 0) I' [hO Bool (vS p9 au c9) aS] [(5,vS p9 au c9)])->J Tryz.prog 37 B (nav (bodyOf f45) [1,1,0,1,0]) Q I [hO Bool (vS p8 al c8) az] [(5,vS p8 al c8),(22,vS p7 y c7),(23,vI (y.length:Int)),(24,vI t24)]:=by
 refine uO.partial_correctness y _ fun aJ ih al t24 o N B I0 I Q p7 c7 p8 c8 az H h8 h9 hg ho hx=>yM hg ho<|yF [25] rfl<|zX<|yC N ?_ ?_
 · intro hc N;refine zS<|zX<|yG<|yE<|bE N fun x1 bm N=>xK rfl rfl h8 bm ?_;intro ad2 bv aY ax;obtain ⟨v03,rfl,h11⟩:=ax;obtain ⟨bi,bh,rfl⟩:=h11.form;refine xB 0 aY [vS bi x1 bh] (vS bi x1 bh) rfl<|yH [] [7] rfl<|yX<|yB 1 [] [28] rfl<|bE N fun y1 bw N=>fK (zEd x1 _ bw h11) ?_;intro aW af;have ⟨h9,h8,H⟩:=m3 af h9 h8 H;refine yH [] [8] rfl<|wM [31] rfl<|zG ?_;obtain ⟨o0,aD,aU⟩:=zB N;refine qF (fun I' ah m'=>∃ (aH:List Bool) (aR:Option Addr) (bc:Nat) (aT:List Value),o0=aH/\aW.le I'/\(RL I' aT aH)/\ah=[hO Bool (vS aR aH bc) aT]/\m'=[(5,vS aR aH bc),(22,vS p7 y c7),(23,vI (y.length:Int)),(24,vI t24)]) ?_ ?_
   · have H:=iS aW;refine yC aD ?_ ?_
     · intro aI N;refine zJ<|yB 2 [] [32,33] rfl<|bE N fun x2 bI N=>pQ 0 rfl rfl rfl h9 bI ?_;intro ad3 bP hat3 bM bd;obtain rfl:=bd;obtain ⟨l,hy6,N⟩:=zB N;refine tR (c:=[vY]) (x':=true) 0 0 rfl rfl rfl hat3 rfl rfl bM (by kernel_rfl) (by kernel_rfl) (by kernel_rfl) h9 bI (by kernel_rfl) rfl ?_;rw [show al.set y1.toNat true=l from zC hy6];intro bt h14 hl0;exact kD (m':=[(5,vS p8 al c8),(22,vS p7 y c7),(23,vI (y.length:Int)),(24,vI t24),(32,vS p8 al c8),(33,vI y1)]) ⟨rfl,rfl,rfl,rfl,rfl,rfl,trivial⟩<|zA1 (ah:=[hO Bool (vS p8 l c8) bt]) (m':=[(5,vS p8 l c8),(22,vS p7 y c7),(23,vI (y.length:Int)),(24,vI t24),(32,vS p8 l c8),(33,vI y1)]) (by first | rfl | simp only [vS,hl0,cv,dj,dq,dh,cX,cY]) (by first | rfl | simp only [vS,hl0])<|yD rfl<|yL<|zU ⟨_,_,_,_,(zC N).symm,H,h14,rfl,rfl⟩
     intro aI N;exact zS<|yL<|zU ⟨_,_,_,_,(zC N).symm,H,h9,rfl,rfl⟩
   rintro ba ay m2 ⟨aH,aR,bc,aT,heq,aF,h13,rfl,rfl⟩;subst o0;have ⟨h8,H⟩:=m2 aF h8 H;exact zM<|zG<|zJ<|yH [] [24] rfl<|yK<|oY<|ih aH (W (t24+1)) _ aU H h8 h13 hg ho hx
 intro hc N;exact wJ<|yL<|hx _ _ _ _ _ (zC N).symm H h9
def oW (t:xS) (part:Int):Option ((List Bool)):=do
 let x<-idx t.Program.Parts part
 let out<-mkrow 1 (x.Nest.length:Int) (false:Bool)
 let y<-pL t part
 let au<-uO y out 0
 pure (id au)
theorem zC3:∀ t part r,oW t part=some r->∀ {I:Imm}{ad:Addr}{p c p1 c1 p2 c2 p3 c3 p4 c4},(S4 I p t.Program.Arrays c)->(S4 I p1 t.Program.Parts c1)->(S4 I p2 t.list c2)->(S4 I p3 t.reads c3)->(S4 I p4 t.writes c4)->(At I ad [vS p t.Program.Arrays c,vS p1 t.Program.Parts c1,vS p2 t.list c2,vS p3 t.reads c3,vS p4 t.writes c4])->RT 45 [.pointer (some ad),vI part] I [] (zBe  r):=by
 intro t part r N I ad p c p1 c1 p2 c2 p3 c3 p4 c4 h h1 h2 h3 h4 ar;unfold oW at N;refine yJ func45 fun B=>wP []<|yX<|yB 4 [] [12] rfl<|xB 1 ar [vS p1 t.Program.Parts c1] (vS p1 t.Program.Parts c1) rfl<|yB 6 [] [14] rfl<|bE N fun x hy N=>xK rfl rfl h1 hy ?_;intro ad1 aQ av ap;obtain ⟨p5,c5,p6,c6,rfl,h5,h6⟩:=wR ap;refine yB 8 [] [16] rfl<|xB 0 av [vS p5 x.Nest c5] (vS p5 x.Nest c5) rfl<|yB 10 [] [18] rfl<|bE N fun out aB N=>zPZ 1 [vF] rfl aB rfl fun b cs h7=>yH [] [5] rfl<|zX<|yE<|yB 2 [] [20,21] rfl<|bE N fun y aN N=>xL (zBd t part _ aN h h1 h2 h3 h4 ar) ?_;rintro I0 ay v2 k2 le - ⟨v02,rfl,rfl,h8⟩ -;have h7:=iM le h7;obtain ⟨p7,c7,rfl⟩:=h8.form;refine yH [] [23,24] rfl<|xX<|rU [(5,vS (some ⟨b,0,none⟩) out out.length),(22,vS p7 y c7),(23,vI (y.length:Int)),(24,vI 0)] ?_;obtain ⟨aP,aA,aM⟩:=zB N;refine zBK y out 0 aP aA iR h8 h7 (fun _ _ _ h=>h) (fun _ _ h=>h) ?_;intro bH au p9 c9 aS heq1 aK h10;subst aP;refine zR<|wM [4] rfl<|xD<|yU 0 rfl ?_;intro bL bk hl01;have h15:=SL.of_frozen hl01 bk h10;obtain rfl:=zC aM;exact yZ ⟨_,_,(.tmp rfl ResV.nil),zQ,⟨_,rfl,rfl,h15⟩⟩
def oG (p:zD) (part:Int) (loop:Int):Option (Bool):=do
 let (y1,y2)<-gU p
 let t6<-(do
   if y2 then
    let y3<-sM p part loop
    if y3 then
     let t<-y1
     let y4<-oW t part
     let x<-idx y4 loop
     pure (!x)
    else
     pure false
   else
    pure false
     : Option Bool)
 pure (id t6)
theorem zDT:∀ p part loop r,oG p part loop=some r->∀ {I:Imm}{p1 c p2 c1},(S4 I p1 p.Arrays c)->(S4 I p2 p.Parts c1)->RT 14 [vA (cProg p p1 c p2 c1),vI part,vI loop] I [] (zT  r):=by
 intro p part loop r N I p1 c p2 c1 h h1;unfold oG at N;refine yJ func14 fun B=>?_;have H:=iS I;refine yE<|tO (cProg p p1 c p2 c1) ?_;intro b hb;refine wG [] []<|yX<|rQ 1 [0] [(10,vA (cProg p p1 c p2 c1))] ?_;obtain ⟨⟨y1,y2⟩,hy,N⟩:=zB N;refine xL (zBc p _ hy h h1) ?_;rintro I0 ay v2 k2 le - ⟨v0,v01,rfl,rfl,h2,rfl⟩ -;have ⟨h,h1,H⟩:=m3 le h h1 H;refine yH [] [7,8] rfl<|zG<|zZ ?_;refine wO N [] (fun t6=>[(6,.bool t6)]) (fun o0 aD=>?_) ?_
 · have H:=iS I0;refine zJ<|yB 2 [] [15] rfl<|xV [15] aD ?_ ?_
   · intro hc N;refine rQ 5 [0] [(16,vA (cProg p p1 c p2 c1)),(17,vI part),(18,vI loop)]<|bE N fun y3 aB N=>vQ (zAB p part loop _ aB h h1) ?_;intro ba af;have ⟨h2,H⟩:=m2 af h2 H;refine yB 8 [] [21] rfl<|xV [21] N ?_ ?_
     · intro aI N;refine yB 10 [] [22,23] rfl ?_;obtain ⟨t,aN,N⟩:=zB N;obtain ⟨ad,aQ,rfl,ar,ap⟩:=zJ3 h2 aN;obtain ⟨p3,c2,p4,c3,p5,c4,p6,c5,p7,c6,rfl,h5,h6,h7,h8,h9⟩:=zAp ap;obtain ⟨y4,bm,N⟩:=zB N;refine xL (zC3 t part _ bm h5 h6 h7 h8 h9 ar) ?_;rintro bH ay v2 k2 aF - ⟨v08,rfl,rfl,h10⟩ -;have H:=H.trans aF;obtain ⟨p8,c7,rfl⟩:=h10.form;refine yB 12 [] [25] rfl<|bE N fun x bw N=>xK rfl rfl h10 bw ?_;intro ad1 bv av ax;obtain rfl:=ax;exact xB 0 av [.bool x] (.bool x) rfl<|yH [] [6] rfl<|xQ zQ<|yL<|zU (ct N H)
     intro aI N;exact wG [] [(6,vF)]<|xQ zQ<|yL<|zU (ct N H)
   intro hc N;exact wG [] [(6,vF)]<|xQ zQ<|yL<|zU (ct N H)
 intro t6 aW aK aU;refine zG<|yW ?_;obtain rfl:=zC aU;exact wI
def kJ (p:zD):Option ((List yP)):=do
 let (y1,y2)<-gU p
 if (!y2) then
  pure ([]:List yP)
 else
  let t<-y1
  let y3<-pG t
  pure (id y3)
theorem zDt:∀ p r,kJ p=some r->∀ {I:Imm}{p1 c p2 c1},(S4 I p1 p.Arrays c)->(S4 I p2 p.Parts c1)->RT 47 [vA (cProg p p1 c p2 c1)] I [] (zAG  r):=by
 intro p r N I p1 c p2 c1 h h1;unfold kJ at N;refine yJ func47 fun B=>yE<|tO (cProg p p1 c p2 c1) ?_;intro b hb;refine wG [] []<|yX<|rQ 1 [0] [(6,vA (cProg p p1 c p2 c1))] ?_;obtain ⟨⟨y1,y2⟩,hy,N⟩:=zB N;refine xL (zBc p _ hy h h1) ?_;rintro I0 ay v2 k2 le - ⟨v0,v01,rfl,rfl,h2,rfl⟩ -;refine yH [] [3,4] rfl<|zX<|yF [11] rfl<|zG<|yC N ?_ ?_
 · intro hc N;refine wP [(2,z0)]<|xD<|zH ?_;obtain rfl:=zC N;exact yZ ⟨_,_,(.tmp rfl ResV.nil),zQ,⟨_,rfl,rfl,(SL.nil _)⟩⟩
 intro hc N;refine zS<|yX<|rQ 1 [] [(12,v0)] ?_;obtain ⟨t,aB,N⟩:=zB N;obtain ⟨ad,aQ,rfl,ar,ap⟩:=zJ3 h2 aB;obtain ⟨p3,c2,p4,c3,p5,c4,p6,c5,p7,c6,rfl,h4,h5,h6,h7,h8⟩:=zAp ap;obtain ⟨y3,aN,N⟩:=zB N;refine xL (zAf t _ aN h4 h5 h6 h7 h8 ar) ?_;rintro aW ay v2 k2 af - ⟨v07,rfl,rfl,h9⟩ -;obtain ⟨p8,c7,rfl⟩:=h9.form;refine yH [] [2] rfl<|zG<|yW ?_;obtain rfl:=zC N;exact yZ ⟨_,_,(.tmp rfl ResV.nil),zQ,⟨_,rfl,rfl,h9⟩⟩
def nR (bj:List HA) (r:Int):KT:=fun kk I' ah v=>
  ∃ v0,bj=ah/\v=tupV [v0]/\v0=.int .i64 r
def xP (s:(List yP)) (f0:(yP->Option Bool)) (t8:Int):Option (Out Unit (Int)):=do
 if (decide (t8<(s.length:Int))) then
  let x<-idx s t8
  let y<-f0 x
  if y then
   pure (.ret t8)
  else
   xP s f0 (W (t8+1))
 else
  pure (.done ())
 partial_fixpoint
theorem fH (s:(List yP)) (f0:(yP->Option Bool)):∀ (t8:Int) (o:Out Unit (Int)),xP s f0 t8=some o->∀ {B}{I0 I:Imm}{Q p c}{fv:Value}{bj:List HA},I0.le I->(S4 I p s c)->(FV1 Tryz.prog I bj fv f0)->NG Q->NO Q->(∀ (I':Imm) ,o=(.done ())->I0.le I'->T 19 B Q (.exit 0) I' bj [])->(∀ r I' ah m',o=(.ret r)->I0.le I'->RS Tryz.prog f132 B (nR bj r) I' ah m'->T 19 B Q .ret I' ah m')->J Tryz.prog 19 B (nav (bodyOf f132) [1,0,1,0]) Q I bj [(0,vS p s c),(1,fv),(7,vI (s.length:Int)),(8,vI t8)]:=by
 refine xP.partial_correctness s f0 _ fun aJ ih t8 o N B I0 I Q p c fv bj H h h1 hg ho hx hr=>yM hg ho<|yF [9] rfl<|zX<|yC N ?_ ?_
 · intro hc N;refine zS<|zX<|yG<|yF [5] rfl<|yX<|yB 3 [] [11,12,13] rfl<|bE N fun x hy N=>xK rfl rfl h hy ?_;intro ad aQ ar ap;obtain rfl:=zB6 ap;refine xB 0 ar [vI x.From,vI x.To,vI x.Kinds] (vA [vI x.From,vI x.To,vI x.Kinds]) rfl<|bE N fun y aB N=>zKW rfl rfl h1 aB ⟨_,rfl,(zEC rfl)⟩ (cy _).symm ?_;rintro I0 v0 le rfl;refine wN (ah:=bj) (cy _) ?_;have ⟨h,h1,H⟩:=m3 le h h1 H;refine yD rfl<|zG<|yC N ?_ ?_
   · intro aI N;exact yF [4] rfl<|xD<|zV<|zH<|zH<|hr _ _ _ _ (zC N).symm H ⟨_,_,(.tmp rfl ResV.nil),(fun _ h=>h),⟨_,rfl,rfl,rfl⟩⟩
   intro aI N;exact zS<|zM<|zG<|zJ<|yH [] [8] rfl<|yK<|oY<|ih (W (t8+1)) _ N H h h1 hg ho hx hr
 intro hc N;exact wJ<|yL<|hx _  (zC N).symm H
def uS (s:(List yP)) (f0:(yP->Option Bool)):Option (Int):=do
 match<-xP s f0 0 with
 | .ret r0=>pure r0
 | .done _ =>
  pure (-1)
theorem eI:∀ s f0 r,uS s f0=some r->∀ {I:Imm}{p c}{fv:Value}{bj:List HA},(S4 I p s c)->(FV1 Tryz.prog I bj fv f0)->RT 132 [vS p s c,fv] I bj (nR bj r):=by
 intro s f0 r N I p c fv bj h h1;unfold uS at N;refine yJ func132 fun B=>wP []<|zX<|yF [7,8] rfl<|xX<|rU [(0,vS p s c),(1,fv),(7,vI (s.length:Int)),(8,vI 0)] ?_;obtain ⟨o0,aD,aM⟩:=zB N;refine fH s f0 0 o0 aD iR h h1 (fun _ _ _ h=>h) (fun _ _ h=>h) ?_ ?_
 · intro aW  heq af;subst o0;refine zR<|wM [4] rfl<|zG<|yW ?_;obtain rfl:=zC aM;exact yZ ⟨_,_,(.tmp rfl ResV.nil),(fun _ h=>h),⟨_,rfl,rfl,rfl⟩⟩
 intro r0 I9 hs9 m9 aZ le9 bb;subst aZ;refine zV<|zH ?_;obtain rfl:=zC aM;exact yZ bb
def oN (d0:yP) (x:(List Int)):Option (Bool):=do
 let x1<-idx x d0.To
 let x2<-idx x d0.From
 pure (decide (x1<x2))
theorem zG5:∀ d0 x r,oN d0 x=some r->∀ {I:Imm}{ad:Addr}{p c},(S4 I p x c)->(At I ad [vS p x c])->RT 133 [vA [vI d0.From,vI d0.To,vI d0.Kinds],.pointer (some ad)] I [] (zT  r):=by
 intro d0 x r N I ad p c h ar;unfold oN at N;refine yJ func133 fun B=>yE<|tO [vI d0.From,vI d0.To,vI d0.Kinds] ?_;intro b hb;refine wG [] []<|zX<|kF (by kernel_rfl) (by kernel_rfl)<|gX 0 ar [vS p x c] (vS p x c) rfl<|fL 3 [0] [6] rfl<|bE N fun x1 hy N=>dQ rfl rfl h hy ?_;intro ad1 aQ av ap;obtain rfl:=ap;refine gX 0 av [vI x1] (vI x1) rfl<|gX 0 ar [vS p x c] (vS p x c) rfl<|fL 8 [0] [11] rfl<|bE N fun x2 aB N=>dQ rfl rfl h aB ?_;intro ad2 bv aY ax;obtain rfl:=ax;refine gX 0 aY [vI x2] (vI x2) rfl<|zGo [] [3] rfl<|zG<|yW ?_;obtain rfl:=zC N;exact wI
def pM (order:(List Int)) (t13:Int) (x:List Int):Option (List Int):=do
 if (decide (t13<(order.length:Int))) then
  let x2<-idx order t13
  let x3<-idx x x2
  let l1<-pure (x.set x2.toNat t13)
  pM order (W (t13+1)) l1
 else
  pure (id x)
 partial_fixpoint
theorem zFb (order:(List Int)):∀ (t13:Int) (x:List Int) (o:List Int),pM order t13 x=some o->∀ {B}{I0 I:Imm}{Q}{deps:(List yP)}{p c p1 c1}{b1:Nat}{p2 c2 az},I0.le I->(S4 I p deps c)->(S4 I p1 order c1)->(RL I az x)->NG Q->NO Q->(∀ (I':Imm) (x1:List Int) (p3:Option Addr) (c3:Nat) (aS:List Value),o=x1->I0.le I'->(RL I' aS x1)->T 26 B Q (.exit 0) I' [hB b1 [vS p3 x1 c3],hO Int (vS p3 x1 c3) aS] [(0,vS p deps c),(5,vP b1 0)])->J Tryz.prog 26 B (nav (bodyOf f89) [1,1,0,1,0]) Q I [hB b1 [vS p2 x c2],hO Int (vS p2 x c2) az] [(0,vS p deps c),(5,vP b1 0),(11,vS p1 order c1),(12,vI (order.length:Int)),(13,vI t13)]:=by
 refine pM.partial_correctness order _ fun aJ ih t13 x o N B I0 I Q deps p c p1 c1 b1 p2 c2 az H h h1 h3 hg ho hx=>yM hg ho<|yF [14] rfl<|zX<|yC N ?_ ?_
 · intro hc N;refine zS<|zX<|yG<|yE<|yB 1 [] [15] rfl<|bE N fun x2 aB N=>xK rfl rfl h1 aB ?_;intro ad aQ ar ap;obtain rfl:=ap;refine xB 0 ar [vI x2] (vI x2) rfl<|yH [] [6,7] rfl<|zG<|zJ<|yB 3 [0] [18,19,20] rfl<|bE N fun x3 aN N=>pQ 1 rfl rfl rfl h3 aN ?_;intro ad1 bv av bM ax;obtain rfl:=ax;obtain ⟨l1,bm,N⟩:=zB N;refine tR (c:=[vI t13]) (x':=t13) 1 0 rfl rfl rfl av rfl rfl bM (by kernel_rfl) (by kernel_rfl) (by kernel_rfl) h3 aN (by kernel_rfl) rfl ?_;rw [show x.set x2.toNat t13=l1 from zC bm];intro aT h5 hl0;exact kD (m':=[(0,vS p deps c),(5,vP b1 0),(11,vS p1 order c1),(12,vI (order.length:Int)),(13,vI t13),(18,vS p2 x c2),(19,vI x2),(20,vI t13)]) ⟨rfl,rfl,rfl,rfl,rfl,rfl,rfl,rfl,trivial⟩<|zA1 (ah:=[hB b1 [vS p2 l1 c2],hO Int (vS p2 l1 c2) aT]) (m':=[(0,vS p deps c),(5,vP b1 0),(11,vS p1 order c1),(12,vI (order.length:Int)),(13,vI t13),(18,vS p2 l1 c2),(19,vI x2),(20,vI t13)]) (by first | rfl | simp only [vS,hl0,cv,dj,dq,dh,cX,cY]) (by first | rfl | simp only [vS,hl0])<|yD rfl<|zM<|zG<|zJ<|yH [] [13] rfl<|yK<|oY<|ih (W (t13+1)) l1 _ N H h h1 h5 hg ho hx
 intro hc N;exact wJ<|yL<|hx _ _ _ _ _ (zC N).symm H h3
def fF (deps:(List yP)) (order:(List Int)):Option (Int):=do
 let l<-mkrow 8 (order.length:Int) (0:Int)
 let x1<-pM order 0 l
 let y<-uS deps (fun x0=>oN x0 x1)
 pure (id y)
theorem zHz:∀ deps order r,fF deps order=some r->∀ {I:Imm}{p c p1 c1},(S4 I p deps c)->(S4 I p1 order c1)->RT 89 [vS p deps c,vS p1 order c1] I [] (yS  r):=by
 intro deps order r N I p c p1 c1 h h1;unfold fF at N;refine yJ func89 fun B=>wP []<|yX<|yB 2 [] [9] rfl<|bE N fun l hy N=>zPZ 8 [vI 0] rfl hy rfl fun b cs h2=>wS [z0] ?_;intro b1 hb;refine xJ 0 [vS (some ⟨b,0,none⟩) l l.length] rfl<|yD rfl<|zX<|yF [11,12,13] rfl<|xX<|rU [(0,vS p deps c),(5,vP b1 0),(11,vS p1 order c1),(12,vI (order.length:Int)),(13,vI 0)] ?_;obtain ⟨o0,aD,aM⟩:=zB N;refine zFb order 0 l o0 aD iR h h1 h2 (fun _ _ _ h=>h) (fun _ _ h=>h) ?_;intro I0 x1 p3 c3 aS heq le h4;subst o0;have h:=h.mono le;refine zR<|yX<|yB 2 [] [23,24] rfl<|xH 1 rfl ?_;intro aW af hl01;have h6:=SL.of_frozen hl01 af h4;have h:=h.mono af;refine xH 0 rfl ?_;intro ba aF hl02;have aY:At ba ⟨b1,0,none⟩ [vS p3 x1 c3]:=At.of_blk hl02;have ⟨h,h6⟩:=m2 aF h h6;have hf0:FV1 Tryz.prog ba [] (.func (.func 133) ⟨[]⟩ ⟨[vP b1 0]⟩) (fun x0=>oN x0 x1):=by
   refine FV1.intro ?_;intro I1 af x0 r u0 hF k0;obtain ⟨_,rfl,k0⟩:=k0;obtain rfl:=zB6 k0;exact (zG5 x0 x1 r hF (h6.mono af) (aY.mono af)).mono (by rintro k i hs u ⟨v0,rfl,rfl,h⟩; exact ⟨rfl,h⟩)
 obtain ⟨y,bw,N⟩:=zB aM;refine xL (eI deps (fun x0=>oN x0 x1) _ bw h hf0) ?_;rintro bH ay v2 k2 aK - ⟨v0,rfl,rfl,rfl⟩ -;refine yH [] [4] rfl<|zG<|yW ?_;obtain rfl:=zC N;exact wI
def zAk (p:zD) (order:(List Int)):Option (Bool):=do
 let t6<-(do
   let y<-oF p order
   if y then
    let y1<-kJ p
    let y2<-fF y1 order
    pure (decide (y2<0))
   else
    pure false
     : Option Bool)
 pure (id t6)
theorem zIb:∀ p order r,zAk p order=some r->∀ {I:Imm}{p1 c p2 c1 p3 c2},(S4 I p1 p.Arrays c)->(S4 I p2 p.Parts c1)->(S4 I p3 order c2)->RT 46 [vA (cProg p p1 c p2 c1),vS p3 order c2,.func (.func 47) ⟨[]⟩ ⟨[]⟩] I [] (zT  r):=by
 intro p order r N I p1 c p2 c1 p3 c2 h h1 h2;unfold zAk at N;refine yJ func46 fun B=>?_;have H:=iS I;refine yE<|tO (cProg p p1 c p2 c1) ?_;intro b hb;refine wG [] []<|zG<|zZ ?_;refine wO N [] (fun t6=>[(6,.bool t6)]) (fun o0 aD=>?_) ?_
 · have H:=iS I;refine zJ<|rQ 2 [0] [(7,vA (cProg p p1 c p2 c1)),(8,vS p3 order c2)] ?_;obtain ⟨y,hy,N⟩:=zB aD;refine vQ (zAz p order _ hy h h1 h2) ?_;intro aW le;have ⟨h2,h,h1,H⟩:=m4 le h2 h h1 H;refine yB 4 [] [10] rfl<|xV [10] N ?_ ?_
   · intro hc N;refine rQ 6 [0] [(11,.func (.func 47) ⟨[]⟩ ⟨[]⟩),(12,vA (cProg p p1 c p2 c1))]<|bE N fun y1 aB N=>xL (zDt p _ aB h h1) ?_;rintro ba ay v2 k2 af - ⟨v01,rfl,rfl,h4⟩ -;have ⟨h2,H⟩:=m2 af h2 H;obtain ⟨p4,c3,rfl⟩:=h4.form;refine yB 8 [] [14] rfl<|bE N fun y2 aN N=>fK (zHz y1 order _ aN h4 h2) ?_;intro bH aF;have H:=H.trans aF;exact yH [] [6] rfl<|xQ zQ<|yL<|zU (ct N H)
   intro hc N;exact wG [] [(6,vF)]<|xQ zQ<|yL<|zU (ct N H)
 intro t6 I0 aK aU;refine zG<|yW ?_;obtain rfl:=zC aU;exact wI
def mG (p:zD) (order:(List Int)):Option (Bool):=do
 let y<-zAk p order
 pure (id y)
theorem zEe:∀ p order r,mG p order=some r->∀ {I:Imm}{p1 c p2 c1 p3 c2},(S4 I p1 p.Arrays c)->(S4 I p2 p.Parts c1)->(S4 I p3 order c2)->RT 15 [vA (cProg p p1 c p2 c1),vS p3 order c2] I [] (zT  r):=by
 intro p order r N I p1 c p2 c1 p3 c2 h h1 h2;unfold mG at N;refine yJ func15 fun B=>yE<|tO (cProg p p1 c p2 c1) ?_;intro b hb;refine wG [] []<|yX<|rQ 2 [0] [(5,vA (cProg p p1 c p2 c1)),(6,vS p3 order c2)]<|bE N fun y hy N=>vQ (zIb p order _ hy h h1 h2) fun I0 le=>wG [] [(4,.bool y)]<|zG<|yW ?_;obtain rfl:=zC N;exact wI
def zCF (r:zD×Int×Int):KT:=fun kk I' ah v=>
  ∃ v0 v1 v2,ah=[]/\v=tupV [v0,v1,v2]/\(∃ cs,v0=.agg ⟨cs⟩/\Rp.rep I' cs r.1)/\v1=.int .i64 r.2.1/\v2=.int .i64 r.2.2
def mD (code:(List UInt8)):Option (zD×Int×Int):=do
 let y<-fP code
 let (y2,y3,y4,y5)<-dC y
 pure (y2,y3,y4)
theorem zCr:∀ code r,mD code=some r->∀ {I:Imm}{p c},(S4 I p code c)->RT 24 [vS p code c] I [] (zCF  r):=by
 intro code r N I p c h;unfold mD at N;refine yJ func24 fun B=>yE<|wS zTwo ?_;intro b hb;refine wG [] []<|yX<|yB 1 [] [5] rfl<|bE N fun y hy N=>xL (zGp code _ hy h) ?_;rintro I0 ay v2 k2 le - ⟨b1,p1,c1,rfl,rfl,h1⟩ -;obtain ⟨⟨y2,y3,y4,y5⟩,aB,N⟩:=zB N;refine sJ (zHw y _ aB h1) rfl ?_;rintro aW ay v2 k2 af - ⟨v0,v01,v02,kk,rfl,rfl,⟨cs,rfl,h2⟩,rfl,rfl,h5⟩ -;obtain ⟨p2,c2,p3,c3,rfl,h6,h7⟩:=mH h2;obtain ⟨p4,c4,rfl,h8⟩:=yA h5;refine yB 6 [] [8,9,10] rfl<|xJ 1 (cProg y2 p2 c2 p3 c3) rfl<|yH [] [3,4] rfl<|zG<|yW ?_;obtain rfl:=zC N;exact yZ ⟨_,_,(.cell 1 rfl rfl (by kernel_rfl) (.tmp rfl (.tmp rfl ResV.nil))),zQ,⟨_,_,_,rfl,rfl,⟨_,rfl,(vR ⟨_,_,rfl,h6,h7⟩)⟩,rfl,rfl⟩⟩
def sP (group:(List (List Int))) (turn:Int) (au:List Int) (more1:Bool) (t13:Int):Option ((List Int×Bool)):=do
 if (decide (t13<(group.length:Int))) then
  let x<-idx group t13
  let (bf,more3)<-(do
    if (decide (turn<(x.length:Int))) then
     let x1<-idx x turn
     let out5<-app 8 au ([x1]:List Int)
     pure (out5,true)
    else
     pure (au,more1)
      : Option (List Int×Bool))
  sP group turn bf more3 (W (t13+1))
 else
  pure (au,more1)
 partial_fixpoint
theorem zC4 (group:(List (List Int))) (turn:Int):∀ (au:List Int) (more1:Bool) (t13:Int) (o:(List Int×Bool)),sP group turn au more1 t13=some o->∀ {B}{I0 I:Imm}{Q p c p3 c3 aS},I0.le I->(S4 I p group c)->(RL I aS au)->NG Q->NO Q->(∀ (I':Imm) (aH:List Int) (more2:Bool) (p4:Option Addr) (c4:Nat) (aT:List Value),o=(aH,more2)->I0.le I'->(RL I' aT aH)->T 30 B Q (.exit 2) I' [hO Int (vS p4 aH c4) aT] [(0,vS p group c),(3,vS p4 aH c4),(4,vI turn),(5,.bool more2)])->J Tryz.prog 30 B (nav (bodyOf f72) [1,1,0,1,0,0,1,0,0,1,1,0]) Q I [hO Int (vS p3 au c3) aS] [(0,vS p group c),(3,vS p3 au c3),(4,vI turn),(5,.bool more1),(11,vS p group c),(12,vI (group.length:Int)),(13,vI t13)]:=by
 refine sP.partial_correctness group turn _ fun aJ ih au more1 t13 o N B I0 I Q p c p3 c3 aS H h h4 hg ho hx=>yM hg ho<|yF [14] rfl<|zX<|yC N ?_ ?_
 · intro aI N;refine zS<|zX<|yG<|yE<|bE N fun x hy N=>xK rfl rfl h hy ?_;intro ad aQ ar ap;obtain ⟨v0,rfl,h6⟩:=ap;obtain ⟨p5,c5,rfl⟩:=h6.form;refine xB 0 ar [vS p5 x c5] (vS p5 x c5) rfl<|yH [] [7] rfl<|wM [20] rfl<|zG ?_;obtain ⟨o0,aD,aU⟩:=zB N;refine qF (fun I' ah m'=>∃ (bf:List Int) (more3:Bool) (p6:Option Addr) (c6:Nat) (bt:List Value),o0=(bf,more3)/\I.le I'/\(RL I' bt bf)/\ah=[hO Int (vS p6 bf c6) bt]/\m'=[(0,vS p group c),(3,vS p6 bf c6),(4,vI turn),(5,.bool more3),(11,vS p group c),(12,vI (group.length:Int)),(13,vI t13)]) ?_ ?_
   · have H:=iS I;refine yC aD ?_ ?_
     · intro aX N;refine yE<|yB 3 [] [21,22,23] rfl<|bE N fun x1 aB N=>xK rfl rfl h6 aB ?_;intro ad1 bv av ax;obtain rfl:=ax;refine xB 0 av [vI x1] (vI x1) rfl<|uK [vI x1] Int ?_;intro b hb;have h8:RL I [vI x1] ([x1]:List Int):=rI [x1];obtain ⟨out5,aN,N⟩:=zB N;exact sU 3 1 1 rfl rfl rfl h4 (.inr ⟨0,rfl⟩) h8 aN fun p7 c7 bJ h9=>tZ (zY [1] (ah:=[hO Int (vS p7 out5 c7) bJ]))<|yH [] [3] rfl<|zG<|zJ<|wG [] [(5,vY)]<|yL<|zU ⟨_,_,_,_,_,(zC N).symm,H,h9,rfl,rfl⟩
     intro aX N;exact zS<|yL<|zU ⟨_,_,_,_,_,(zC N).symm,H,h4,rfl,rfl⟩
   rintro I0 ay m2 ⟨bf,more3,p6,c6,bt,heq,le,h7,rfl,rfl⟩;subst o0;have ⟨h,H⟩:=m2 le h H;exact zM<|zG<|zJ<|yH [] [13] rfl<|yK<|oY<|ih bf more3 (W (t13+1)) _ aU H h h7 hg ho hx
 intro aI N;exact wJ<|yL<|hx _ _ _ _ _ _ (zC N).symm H h4
def wZ (group:(List (List Int))) (out:List Int) (turn:Int) (more:Bool):Option (List Int):=do
 if more then
  let (aH,more2)<-sP group turn out false 0
  wZ group aH (W (turn+1)) more2
 else
  pure (id out)
 partial_fixpoint
theorem zC5 (group:(List (List Int))):∀ (out:List Int) (turn:Int) (more:Bool) (o:List Int),wZ group out turn more=some o->∀ {B}{I0 I:Imm}{Q p c p1 c1 cs},I0.le I->(S4 I p group c)->(RL I cs out)->NG Q->NO Q->(∀ (I':Imm) (al:List Int) (p2:Option Addr) (c2:Nat) (az:List Value),o=al->I0.le I'->(RL I' az al)->T 30 B Q (.exit 0) I' [hO Int (vS p2 al c2) az] [(3,vS p2 al c2)])->J Tryz.prog 30 B (nav (bodyOf f72) [1,1,0,1,0]) Q I [hO Int (vS p1 out c1) cs] [(0,vS p group c),(3,vS p1 out c1),(4,vI turn),(5,.bool more)]:=by
 refine wZ.partial_correctness group _ fun aJ ih out turn more o N B I0 I Q p c p1 c1 cs H h h2 hg ho hx=>yM hg ho<|zZ<|yF [8] rfl<|zG<|yC N ?_ ?_
 · intro hc N;refine zS<|zX<|yG<|wP [(5,vF)]<|wM [11,12,13] rfl<|xX<|rU [(0,vS p group c),(3,vS p1 out c1),(4,vI turn),(5,vF),(11,vS p group c),(12,vI (group.length:Int)),(13,vI 0)] ?_;obtain ⟨aP,aA,aM⟩:=zB N;refine zC4 group turn out false 0 aP aA iR h h2 (fun _ _ _ h=>hg _ _ _ h) (fun _ _ h=>ho _ _ h) ?_;intro aW aH more2 p4 c4 aT heq1 af h5;subst aP;have ⟨h,H⟩:=m2 af h H;exact zR<|zM<|zG<|zJ<|yH [] [4] rfl<|yK<|oY<|ih aH (W (turn+1)) more2 _ aM H h h5 hg ho hx
 intro hc N;exact wJ<|yL<|hx _ _ _ _ _ (zC N).symm H h2
def rB (group:(List (List Int))):Option ((List Int)):=do
 let al<-wZ group ([]:List Int) 0 true
 pure (id al)
theorem zDu:∀ group r,rB group=some r->∀ {I:Imm}{p c},(S4 I p group c)->RT 72 [vS p group c] I [] (zBZ  r):=by
 intro group r N I p c h;unfold rB at N;refine yJ func72 fun B=>wP []<|zEv [(3,z0)]<|zX<|yF [4,5] rfl<|xX<|rU [(0,vS p group c),(3,z0),(4,vI 0),(5,vY)]<|zAI Int fun h1=>?_;obtain ⟨o02,ho02,hMl1⟩:=zB N;refine zC5 group ([]:List Int) 0 true o02 ho02 iR h h1 (fun _ _ _ h=>h) (fun _ _ h=>h) ?_;intro ba al p2 c2 az heq2 aF h3;subst o02;refine zR<|wM [2] rfl<|xD<|yU 0 rfl ?_;intro bH aK hl0;have h10:=SL.of_frozen hl0 aK h3;obtain rfl:=zC hMl1;exact yZ ⟨_,_,(.tmp rfl ResV.nil),zQ,⟨_,rfl,rfl,h10⟩⟩
def gF (p:zD) (part:Int) (loop:Int):Option ((List Int)×Bool):=do
 let ((y1,y2),_)<-dD p part loop (fun x0 (_:Unit)=>(rB x0).bind fun y=>some (y,())) ()
 pure (y1,y2)
theorem zFc:∀ p part loop r,gF p part loop=some r->∀ {I:Imm}{p1 c p2 c1},(S4 I p1 p.Arrays c)->(S4 I p2 p.Parts c1)->RT 25 [vA (cProg p p1 c p2 c1),vI part,vI loop] I [] (dR  r):=by
 intro p part loop r N I p1 c p2 c1 h h1;unfold gF at N;refine yJ func25 fun B=>yE<|tO (cProg p p1 c p2 c1) ?_;intro b hb;refine wG [] []<|yX<|rQ 3 [0] [(8,vA (cProg p p1 c p2 c1)),(9,vI part),(10,vI loop)] ?_;have hf0:FS1 Tryz.prog I (fun _:Unit=>[]) (.func (.func 72) ⟨[]⟩ ⟨[]⟩) (fun x0 (_:Unit)=>(rB x0).bind fun y=>some (y,())):=by
   refine FS1.intro ?_;intro I1 af x0 n r u0 hF k0;obtain ⟨_,_,rfl⟩:=k0.form;obtain ⟨y,hy,hF⟩:=zB hF;cases hF
   exact (zDu x0 y hy k0).mono (by rintro k i hs u ⟨v0,rfl,rfl,h⟩; exact ⟨rfl,h⟩)
 obtain ⟨⟨⟨y1,y2⟩,n9⟩,hy,N⟩:=zB N;refine xL (zHy p part loop (fun x0 (_:Unit)=>(rB x0).bind fun y=>some (y,())) () _ hy h h1 hf0) ?_;rintro I0 ay v2 k2 le - ⟨v0,v01,rfl,rfl,h2,rfl⟩ -;obtain ⟨p3,c2,rfl⟩:=h2.form;refine yH [] [6,7] rfl<|zG<|yW ?_;obtain rfl:=zC N;exact yZ ⟨_,_,(.tmp rfl (.tmp rfl ResV.nil)),zQ,⟨_,_,rfl,rfl,h2,rfl⟩⟩
end Go.LN
