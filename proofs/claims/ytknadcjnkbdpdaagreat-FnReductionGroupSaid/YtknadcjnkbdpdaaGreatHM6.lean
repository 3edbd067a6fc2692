/- Helper of the proof (see the last text). -/
import Derived.Test.YtknadcjnkbdpdaaGreatHM5
set_option linter.unusedVariables false
set_option linter.unusedSimpArgs false
namespace Go.LN
open Go.Proofs
set_option maxRecDepth 20000
def mO (b0:Nat) (r:Bool×tR):KT:=fun kk I' hs' v=>
  ∃ v0 x0_0 y0_0 x0_2 y0_2 z0_2,hs'=[.blk b0 ⟨[.slice x0_0 r.2.nest.length y0_0,.int .i64 r.2.steps,.slice x0_2 r.2.out.length y0_2]⟩,.osl (.slice x0_2 r.2.out.length y0_2) (Rp.sz (List Int)) z0_2]∧v=tupV [v0]∧v0=.bool r.1∧SL I' (.slice x0_0 r.2.nest.length y0_0) r.2.nest∧RepL (Rp.rep I') (Rp.sz (List Int)) z0_2 r.2.out
mutual
def tL (w0:tR) (point:(List Int)):Option (Bool×tR):=do
 if ((point.length:Int) == (w0.nest.length:Int)) then
  let y←sH point
  let l←app 24 w0.out ([y]:List (List Int))
  pure ((decide ((l.length:Int) ≤ 120)),(tR.mk w0.nest w0.steps l))
 else
  let x←idx w0.nest (point.length:Int)
  let (y2,y3)←mD x point
  match←sI (same point) (same y3) (same y2) w0.nest w0.steps w0.out with
  | .ret r0=>pure r0
  | .done (nest1,steps1,out1) =>
   pure (true,(tR.mk nest1 steps1 out1))
 partial_fixpoint
def sI (point:(List Int)) (y3:Int) (n0:Int) (nest:List zD) (steps:Int) (out:List (List Int)):Option (Out (List zD×Int×List (List Int)) (Bool×tR)):=do
 if (decide (n0 < y3)) then
  let (t74,nest2,steps2,out2)←(do
    if (decide ((W ((W (steps + 1)) + 1)) > 1200)) then
     pure (true,nest,(W (steps + 1)),out)
    else
     let y4←sH point
     let l1←app 8 y4 ([n0]:List Int)
     let (y6,y7)←tL (tR.mk nest (W (steps + 1)) out) (same l1)
     pure ((!y6),y7.nest,y7.steps,y7.out)
      : Option (Bool×List zD×Int×List (List Int)))
  if t74 then
   pure (.ret (false,(tR.mk nest2 steps2 out2)))
  else
   sI (same point) (same y3) (W (n0 + 1)) (same nest2) (same steps2) (same out2)
 else
  pure (.done (nest,steps,out))
 partial_fixpoint
end
theorem zAr:(∀ (w0:tR) (point:(List Int)) r,tL w0 point=some r→∀ {I:Imm}{r0:Nat}{p c p1 c1 cs p2 c2},(S4 I p w0.nest c)→(RL I cs w0.out)→(S4 I p2 point c2)→RT 160 [vP r0 0,vS p2 point c2] I [hB r0 [vS p w0.nest c,vI w0.steps,vS p1 w0.out c1],hO (List Int) (vS p1 w0.out c1) cs] (mO r0 r))∧(∀ (point:(List Int)) (y3:Int) (n0:Int) (nest:List zD) (steps:Int) (out:List (List Int)) o,sI point y3 n0 nest steps out=some o→∀ {B}{I0 I:Imm}{Q}  {r0:Nat}{p2 c2 p7 c7 p8 c8 cs3},I0.le I→(S4 I p2 point c2)→(S4 I p7 nest c7)→(RL I cs3 out)→NG Q→NO Q→(∀ (I':Imm) (nest1:List zD) (steps1:Int) (out1:List (List Int)) (p9:Option Addr) (c9:Nat) (p10:Option Addr) (c10:Nat) (cs4:List Value),o=(.done (nest1,steps1,out1))→I0.le I'→(S4 I' p9 nest1 c9)→(RL I' cs4 out1)→T 75 B Q (.exit 0) I' [hB r0 [vS p9 nest1 c9,vI steps1,vS p10 out1 c10],hO (List Int) (vS p10 out1 c10) cs4] [])→(∀ r I' hs' m',o=(.ret r)→I0.le I'→RS Tryz.prog Tryz.f160 B (mO r0 r) I' hs' m'→T 75 B Q .ret I' hs' m')→J Tryz.prog 75 B (nav (bodyOf Tryz.f160) [1,1,1,0,1,0]) Q I [hB r0 [vS p7 nest c7,vI steps,vS p8 out c8],hO (List Int) (vS p8 out c8) cs3] [(0,vP r0 0),(1,vS p2 point c2),(6,vI y3),(7,vI n0)]):=by
  refine tL.mutual_partial_correctness _ _ ?_ ?_
  · intro F_impl_walking_walk_l1 ih_impl_walking_walk_l1 w0 point r N I r0 p c p1 c1 cs p2 c2 h h1 h2;refine zY (fn:=Tryz.f160) (c:=(bodyOf Tryz.f160)) Tryz.func160 rfl rfl ?_;rintro B - -;have H:=iS I;refine yF []<|yI<|yK<|yC [0] [(15,.bool ((point.length:Int) == (w0.nest.length:Int)))]<|zM<|yL N ?_ ?_
    · intro hc N;refine yG ?_;obtain ⟨y,hy,N⟩:=zB N;obtain ⟨l,hy1,N⟩:=zB N;refine wA [.p (vP r0 0) [],.p (vP r0 0) [],.p (vP r0 0) [],.p (vP r0 2) [],.p (vS p1 w0.out c1) [0],.p (vS p2 point c2) [],.x (fun I' v hx=>∃ p3 c3 cs1,v=vS p3 y c3∧hx=[hO Int (vS p3 y c3) cs1]∧(RL I' cs1 y)),.x (fun I' v hx=>∃ b,v=vS (some ⟨b,0,none⟩) ([y]:List (List Int)) 1∧hx=[]∧(SL I' (vS (some ⟨b,0,none⟩) ([y]:List (List Int)) 1) ([y]:List (List Int)))),.x (fun I' v hx=>∃ p4 c4 cs2,v=vS p4 l c4∧hx=[hO (List Int) (vS p4 l c4) cs2]∧(RL I' cs2 l))] [[],[],[(1,false)],[(2,false)],[(3,false)],[],[(5,false)],[(6,true)],[(4,false),(7,false),(12,true)]] [hB r0 [vS p w0.nest c,vI w0.steps,vS p1 w0.out c1]] [[hO (List Int) (vS p1 w0.out c1) cs]] [(0,false),(8,true)] (yB [0,1]) ?_ ?_
      · refine Op<|Op<|Op<|Op<|Op<|Op<|Ox ?_<|Ox ?_<|Ox ?_<|On
        · intro I1 hf le1;refine yM [(21,vS p2 point c2)] ?_;have H:=iS I1;have h2:=h2.mono le1;refine xT (mC point _ hy h2) ?_;rintro I0 hs2 v2 k2 le - ⟨p3,c3,cs1,rfl,rfl,h3⟩ -;have H:=H.trans le;exact yO [hO Int (vS p3 y c3) cs1] H ⟨_,_,_,rfl,rfl,h3⟩
        · intro I1 hf le1;refine zF ?_;rintro _ _ ⟨p3,c3,cs1,rfl,rfl,h3⟩;refine yM [(22,vS p3 y c3)] ?_;have H:=iS I1;refine yJ 0 rfl ?_;intro I01 le1 hl0;have h4:=SL.of_frozen hl0 le1 h3;have H:=H.trans le1;refine xY [vS p3 y c3] (List Int) ?_;intro b hb;have h5:RL I01 [vS p3 y c3] ([y]:List (List Int)):=⟨[vS p3 y c3],_,rfl,rfl,⟨_,rfl,h4⟩,rfl⟩;refine yJ 0 rfl ?_;intro I02 le2 hl01;have h6:=SL.of_frozen hl01 le2 h5;have H:=H.trans le2;exact yO [] H ⟨_,rfl,rfl,h6⟩
        intro I1 hf le1;refine zF ?_;rintro _ _ ⟨rfl,rfl⟩;refine zF ?_;rintro _ _ ⟨b,rfl,rfl,h6⟩;refine zF ?_;rintro _ _ rfl;refine yM [(20,vS p1 w0.out c1),(23,vS (some ⟨b,0,none⟩) ([y]:List (List Int)) 1)] ?_;have h1:=iM le1 h1;obtain ⟨ccs,k0,k01⟩:=h6;have h6:SL I1 (vS (some ⟨b,0,none⟩) ([y]:List (List Int)) 1) ([y]:List (List Int)):=⟨_,k0,k01⟩;exact pG 27 1 0 rfl rfl rfl h1 (.inl k0) k01 hy1 fun p4 c4 cs2 h7=>uC (hs':=(hO (List Int) (vS p4 l c4) cs2::hB r0 [vS p w0.nest c,vI w0.steps,vS p1 w0.out c1]::hf)) rfl<|yO [hO (List Int) (vS p4 l c4) cs2] iR ⟨_,_,_,rfl,rfl,h7⟩
      intro I03 le3;refine zF ?_;rintro _ _ ⟨rfl,rfl⟩;refine zF ?_;rintro _ _ ⟨p4,c4,cs2,rfl,rfl,h7⟩;refine yM [(0,vP r0 0),(16,vP r0 0),(24,vS p4 l c4)] ?_;have h:=h.mono le3;refine yD 11 [] [(26,vP r0 2)]<|xE 1 [vS p w0.nest c,vI w0.steps,vS p4 l c4] [hO (List Int) (vS p4 l c4) cs2,hB r0 [vS p w0.nest c,vI w0.steps,vS p4 l c4]] rfl rfl rfl rfl<|yH rfl<|xD<|yC [1] [(4,.bool (decide ((l.length:Int) ≤ 120)))]<|xG<|zH ?_;obtain rfl:=zC N;exact xC ⟨_,_,(.tmp rfl ResV.nil),(yA [1,0] rfl (by decide)),⟨_,_,_,_,_,_,rfl,rfl,rfl,h,h7⟩⟩
    intro hc N;refine zW<|xD<|yD 6 [0] [(37,vS p w0.nest c),(39,vI (point.length:Int))]<|bE N fun x hy2 N=>xS rfl rfl h hy2 ?_;intro ad ccs1 hat hrep;obtain ⟨p5,c5,p6,c6,rfl,h8,h9⟩:=tP hrep;refine xM 0 hat (cLoop x p5 c5 p6 c6) (vA (cLoop x p5 c5 p6 c6)) rfl<|yD 9 [] [(42,vS p2 point c2)] ?_;obtain ⟨⟨y2,y3⟩,hy3,N⟩:=zB N;refine xT (zDO x point _ hy3 h8 h9 h2) ?_;rintro I04 hs2 v2 k2 le4 - ⟨v02,v03,rfl,rfl,rfl,rfl⟩ -;have h2:=h2.mono le4;have h:=h.mono le4;have h1:=iM le4 h1;refine yC [] [(5,vI y2),(6,vI y3)]<|yI<|yF [(7,vI y2)]<|wO<|vE [(0,vP r0 0),(1,vS p2 point c2),(6,vI y3),(7,vI y2)] ?_;obtain ⟨o01,ho01,hMl⟩:=zB N;refine ih_impl_walking_walk_l1 point y3 y2 w0.nest w0.steps w0.out o01 ho01 iR h2 h h1 (fun _ _ _ h=>h) (fun _ _ h=>h) ?_ ?_
    · intro I09 nest1 steps1 out1 p9 c9 p10 c10 cs4 heq1 le9 h14 h15;subst o01;refine zX<|vH [(4,vY)]<|zM<|yX ?_;obtain rfl:=zC hMl;exact xC ⟨_,_,(.tmp rfl ResV.nil),(yA [0,1] rfl (by decide)),⟨_,_,_,_,_,_,rfl,rfl,rfl,h14,h15⟩⟩
    intro r0 I9 hs9 m9 heq9 le9 hrs9;subst heq9;refine zZ<|zH ?_;obtain rfl:=zC hMl;exact xC hrs9
  intro F_impl_walking_walk F_impl_walking_walk_l1 ih_impl_walking_walk ih_impl_walking_walk_l1 point y3 n0 nest steps out o N B I0 I Q r0 p2 c2 p7 c7 p8 c8 cs3 H h2 h12 h13 hg ho hx hr;refine yZ hg ho<|yG<|yF [(49,.bool (decide (n0 < y3)))]<|zM<|yL N ?_ ?_
  · intro hc1 N;refine zW<|yI<|yP<|yK<|yD 7 [0] [(56,vI (W (steps + 1))),(58,vP r0 1)]<|xE 0 [vS p7 nest c7,vI (W (steps + 1)),vS p8 out c8] [hB r0 [vS p7 nest c7,vI (W (steps + 1)),vS p8 out c8],hO (List Int) (vS p8 out c8) cs3] rfl rfl rfl rfl<|yH rfl<|zM<|yG ?_;obtain ⟨o0,ho0,hMc⟩:=zB N;refine yU (fun I' hs' m'=>∃ (t74:Bool) (nest2:List zD) (steps2:Int) (out2:List (List Int)) (p11:Option Addr) (c11:Nat) (p12:Option Addr) (c12:Nat) (cs5:List Value),o0=(t74,nest2,steps2,out2)∧I.le I'∧(S4 I' p11 nest2 c11)∧(RL I' cs5 out2)∧hs'=[hB r0 [vS p11 nest2 c11,vI steps2,vS p12 out2 c12],hO (List Int) (vS p12 out2 c12) cs5]∧m'=[(0,vP r0 0),(1,vS p2 point c2),(6,vI y3),(7,vI n0),(74,.bool t74)]) ?_ ?_
    · have H:=iS I;refine zQ<|yD 7 [0] [(65,.bool (decide ((W ((W (steps + 1)) + 1)) > 1200)))] ?_;cases hc2:(decide ((W ((W (steps + 1)) + 1)) > 1200)) with
      | true =>
       have hM0:=zP hc2 ho0
       try rw [hc2]
       exact yC [] [(74,vY)]<|yT [(0,vP r0 0),(1,vS p2 point c2),(6,vI y3),(7,vI n0),(74,vY)]<|zV ⟨_,_,_,_,_,_,_,_,_,(zC hM0).symm,H,h12,h13,rfl,rfl⟩
      | false =>
       have hM01:=zL hc2 ho0
       try rw [hc2]
       refine yD 9 [] [(66,vP r0 0),(67,vS p2 point c2)] ?_;obtain ⟨y4,hy4,N⟩:=zB hM01;refine xT (mC point _ hy4 h2) ?_;rintro I06 hs2 v2 k2 le5 - ⟨p13,c13,cs6,rfl,rfl,h18⟩ -;have h12:=h12.mono le5;have h13:=iM le5 h13;have H:=H.trans le5;refine yD 11 [] [(69,vI n0)]<|xY [vI n0] Int ?_;intro b1 hb1;have h19:RL I06 [vI n0] ([n0]:List Int):=⟨[vI n0],_,rfl,rfl,rfl,rfl⟩;obtain ⟨l1,hy5,N⟩:=zB N;refine pG 3 1 1 rfl rfl rfl h18 (.inr ⟨0,rfl⟩) h19 hy5 fun p14 c14 cs7 h20=>sU (yB [1,2,3] (hs':=[hO Int (vS p14 l1 c14) cs7,hB r0 [vS p7 nest c7,vI (W (steps + 1)),vS p8 out c8],hO (List Int) (vS p8 out c8) cs3]))<|yJ 0 rfl ?_;intro I07 le6 hl02;have h21:=SL.of_frozen hl02 le6 h20;have h12:=h12.mono le6;have h13:=iM le6 h13;have H:=H.trans le6;obtain ⟨⟨y6,y7⟩,hy6,N⟩:=zB N;refine tM [hB r0 [vS p7 nest c7,vI (W (steps + 1)),vS p8 out c8],hO (List Int) (vS p8 out c8) cs3] [] (ih_impl_walking_walk (tR.mk nest (W (steps + 1)) out) l1 _ hy6 h12 h13 h21) ?_;rintro I08 hs2 v2 k2 le7 - ⟨v04,p15,c15,p16,c16,cs8,rfl,rfl,rfl,h23,h24⟩ -;have H:=H.trans le7;exact yC [] [(74,.bool (!y6))]<|yT [(0,vP r0 0),(1,vS p2 point c2),(6,vI y3),(7,vI n0),(74,.bool (!y6))]<|zV ⟨_,_,_,_,_,_,_,_,_,(zC N).symm,H,h23,h24,rfl,rfl⟩
    rintro I05 hs2 m2 ⟨t74,nest2,steps2,out2,p11,c11,p12,c12,cs5,heq,le8,h16,h17,rfl,rfl⟩;subst o0;have h2:=h2.mono le8;have H:=H.trans le8;refine zM<|yL hMc ?_ ?_
    · intro hc3 N;exact yF [(4,vF)]<|xG<|zZ<|zH<|zH<|hr _ _ _ _ (zC N).symm H ⟨_,_,(.tmp rfl ResV.nil),(yA [0,1] rfl (by decide)),⟨_,_,_,_,_,_,rfl,rfl,rfl,h16,h17⟩⟩
    intro hc3 N;exact zW<|zT<|zM<|zQ<|yC [] [(7,vI (W (n0 + 1)))]<|yY<|vE [(0,vP r0 0),(1,vS p2 point c2),(6,vI y3),(7,vI (W (n0 + 1)))]<|ih_impl_walking_walk_l1 point y3 (W (n0 + 1)) nest2 steps2 out2 _ N H h2 h16 h17 hg ho hx hr
  intro hc1 N;exact vW<|yT []<|hx _ _ _ _ _ _ _ _ _ (zC N).symm H h12 h13
theorem zBS:∀ w0 point r,tL w0 point=some r→∀ {I:Imm}{r0:Nat}{p c p1 c1 cs p2 c2},(S4 I p w0.nest c)→(RL I cs w0.out)→(S4 I p2 point c2)→RT 160 [vP r0 0,vS p2 point c2] I [hB r0 [vS p w0.nest c,vI w0.steps,vS p1 w0.out c1],hO (List Int) (vS p1 w0.out c1) cs] (mO r0 r):=zAr.1
def nB (nest:(List zD)):Option ((List (List Int))×Bool):=do
 let y←mB nest
 if (!y) then
  pure (([]:List (List Int)),false)
 else
  let (y2,y3)←tL (tR.mk nest 0 ([]:List (List Int))) ([]:List Int)
  if (!y2) then
   pure (([]:List (List Int)),false)
  else
   pure (y3.out,true)
theorem zCS:∀ nest r,nB nest=some r→∀ {I:Imm}{p c},(S4 I p nest c)→RT 117 [vS p nest c] I [] (fC  r):=by
 intro nest r N I p c h;unfold nB at N;refine zY (fn:=Tryz.f117) (c:=(bodyOf Tryz.f117)) Tryz.func117 rfl rfl ?_;rintro B - -;refine yF []<|yI<|yK<|yD 1 [] [(5,vS p nest c)]<|bE N fun y hy N=>vJ (zDN nest _ hy h) ?_;intro I0 le;have h:=h.mono le;refine yC [] [(7,.bool (!y))]<|zM<|yL N ?_ ?_
 · intro hc N;refine yF [(2,z0),(3,vF)]<|xG<|zH ?_;obtain rfl:=zC N;exact xC ⟨_,_,(.tmp rfl (.tmp rfl ResV.nil)),zR,⟨_,_,rfl,rfl,(SL.nil _),rfl⟩⟩
 intro hc N;refine zW<|xD<|yD 2 [] [(9,vA [vS p nest c,vI 0,z0])]<|uD [vS p nest c,vI 0,z0] ?_;intro b hb;refine yC [] [(4,vP b 0)]<|yI<|yK<|yD 1 [] [(11,vP b 0)]<|sU (vM (Rp.sz (List Int))) ?_;have h2:RL I0 [] ([]:List (List Int)):=RepL.nil;refine sU (yB [1,0] (hs':=[hB b [vS p nest c,vI 0,vS none ([]:List (List Int)) 0],hO (List Int) (vS none ([]:List (List Int)) 0) []])) ?_;obtain ⟨⟨y2,y3⟩,hy1,N⟩:=zB N;refine tM [hB b [vS p nest c,vI 0,vS none ([]:List (List Int)) 0],hO (List Int) (vS none ([]:List (List Int)) 0) []] [] (zBS (tR.mk nest 0 ([]:List (List Int))) ([]:List Int) _ hy1 h h2 (SL.nil _)) ?_;rintro I01 hs2 v2 k2 le1 - ⟨v01,p1,c1,p2,c2,cs,rfl,rfl,rfl,h4,h5⟩ -;refine yC [] [(13,.bool (!y2))]<|zM<|yL N ?_ ?_
 · intro hc1 N;refine yF [(2,z0),(3,vF)]<|xG<|zH ?_;obtain rfl:=zC N;exact xC ⟨_,_,(.tmp rfl (.tmp rfl ResV.nil)),zR,⟨_,_,rfl,rfl,(SL.nil _),rfl⟩⟩
 intro hc1 N;refine zW<|xD<|yC [0] [(2,vS p2 y3.out c2),(3,vY)]<|xG<|xP 1 rfl ?_;intro I02 le2 hl0;have h6:=SL.of_frozen hl0 le2 h5;obtain rfl:=zC N;exact xC ⟨_,_,(.tmp rfl (.tmp rfl ResV.nil)),zR,⟨_,_,rfl,rfl,h6,rfl⟩⟩
def qJ (hsF:List HA) (r:Int):KT:=fun kk I' hs' v=>
  ∃ v0,hsF=hs'∧v=tupV [v0]∧v0=.int .i64 r
def xK (s:(List zI)) (f0:(zI→Option Bool)) (t8:Int):Option (Out Unit (Int)):=do
 if (decide (t8 < (s.length:Int))) then
  let x←idx s t8
  let y←f0 x
  if y then
   pure (.ret t8)
  else
   xK s f0 (W (t8 + 1))
 else
  pure (.done ())
 partial_fixpoint
theorem mP (s:(List zI)) (f0:(zI→Option Bool)):∀ (t8:Int) (o:Out Unit (Int)),xK s f0 t8=some o→∀ {B}{I0 I:Imm}{Q p c}{fv:Value}{hsF:List HA},I0.le I→(S4 I p s c)→(FV1 Tryz.prog I hsF fv f0)→NG Q→NO Q→(∀ (I':Imm) ,o=(.done ())→I0.le I'→T 19 B Q (.exit 0) I' hsF [])→(∀ r I' hs' m',o=(.ret r)→I0.le I'→RS Tryz.prog Tryz.f161 B (qJ hsF r) I' hs' m'→T 19 B Q .ret I' hs' m')→J Tryz.prog 19 B (nav (bodyOf Tryz.f161) [1,0,1,0]) Q I hsF [(0,vS p s c),(1,fv),(7,vI (s.length:Int)),(8,vI t8)]:=by
 refine xK.partial_correctness s f0 _ fun self ih t8 o N B I0 I Q p c fv hsF H h h1 hg ho hx hr=>yZ hg ho<|yF [(9,.bool (decide (t8 < (s.length:Int))))]<|yI<|yL N ?_ ?_
 · intro hc N;refine zW<|yI<|yP<|yF [(5,vI t8)]<|xD<|yD 3 [] [(11,fv),(12,vS p s c),(13,vI t8)]<|bE N fun x hy N=>xS rfl rfl h hy ?_;intro ad ccs hat hrep;obtain ⟨p1,c1,p2,c2,p3,c3,p4,c4,rfl,h2,h3,h4,h5⟩:=tQ hrep;refine xM 0 hat (cStmt x p1 c1 p2 c2 p3 c3 p4 c4) (vA (cStmt x p1 c1 p2 c2 p3 c3 p4 c4)) rfl<|bE N fun y hy1 N=>zID rfl rfl h1 hy1 ⟨_,rfl,(wM ⟨_,_,_,_,rfl,h2,h3,h4,h5⟩)⟩ (List.append_nil _).symm ?_;rintro I0 v04 le rfl;refine uC (hs':=hsF) (List.append_nil _) ?_;have h:=h.mono le;have h1:=h1.mono le;have H:=H.trans le;refine yH rfl<|zM<|yL N ?_ ?_
   · intro hc1 N;exact yF [(4,vI t8)]<|xG<|zZ<|zH<|zH<|hr _ _ _ _ (zC N).symm H ⟨_,_,(.tmp rfl ResV.nil),(fun _ h=>h),⟨_,rfl,rfl,rfl⟩⟩
   intro hc1 N;exact zW<|zT<|zM<|zQ<|yC [] [(8,vI (W (t8 + 1)))]<|yY<|vE [(0,vS p s c),(1,fv),(7,vI (s.length:Int)),(8,vI (W (t8 + 1)))]<|ih (W (t8 + 1)) _ N H h h1 hg ho hx hr
 intro hc N;exact vW<|yT []<|hx _  (zC N).symm H
def vU (s:(List zI)) (f0:(zI→Option Bool)):Option (Int):=do
 match←xK s f0 0 with
 | .ret r0=>pure r0
 | .done _ =>
  pure (-1)
theorem kI:∀ s f0 r,vU s f0=some r→∀ {I:Imm}{p c}{fv:Value}{hsF:List HA},(S4 I p s c)→(FV1 Tryz.prog I hsF fv f0)→RT 161 [vS p s c,fv] I hsF (qJ hsF r):=by
 intro s f0 r N I p c fv hsF h h1;unfold vU at N;refine zY (fn:=Tryz.f161) (c:=(bodyOf Tryz.f161)) Tryz.func161 rfl rfl ?_;rintro B - -;refine yF []<|yI<|yF [(7,vI (s.length:Int)),(8,vI 0)]<|wO<|vE [(0,vS p s c),(1,fv),(7,vI (s.length:Int)),(8,vI 0)] ?_;obtain ⟨o0,ho0,hMl⟩:=zB N;refine mP s f0 0 o0 ho0 iR h h1 (fun _ _ _ h=>h) (fun _ _ h=>h) ?_ ?_
 · intro I01  heq le1;subst o0;refine zX<|vH [(4,vI (-1))]<|zM<|yX ?_;obtain rfl:=zC hMl;exact xC ⟨_,_,(.tmp rfl ResV.nil),(fun _ h=>h),⟨_,rfl,rfl,rfl⟩⟩
 intro r0 I9 hs9 m9 heq9 le9 hrs9;subst heq9;refine zZ<|zH ?_;obtain rfl:=zC hMl;exact xC hrs9
def mE (hsF:List HA) (r:Bool):KT:=fun kk I' hs' v=>
  ∃ v0,hsF=hs'∧v=tupV [v0]∧v0=.bool r
def xZ (s:(List zI)) (f0:(zI→Option Bool)):Option (Bool):=do
 let y←vU s f0
 pure (decide (y ≥ 0))
theorem mQ:∀ s f0 r,xZ s f0=some r→∀ {I:Imm}{p c}{fv:Value}{hsF:List HA},(S4 I p s c)→(FV1 Tryz.prog I hsF fv f0)→RT 118 [vS p s c,fv] I hsF (mE hsF r):=by
 intro s f0 r N I p c fv hsF h h1;unfold xZ at N;refine zY (fn:=Tryz.f118) (c:=(bodyOf Tryz.f118)) Tryz.func118 rfl rfl ?_;rintro B - -;refine yF []<|xD<|yD 2 [] [(5,vS p s c),(6,fv)]<|bE N fun y hy N=>zD1 (hs1:=hsF) (rest:=[]) rfl rfl rfl rfl (by kernel_rfl) rfl (List.append_nil _).symm (kI s f0 _ hy h h1) ?_;rintro I0 hs2 v2 k2 le - ⟨v0,rfl,rfl,rfl⟩ -;refine uC (hs':=hsF) (List.append_nil _) ?_;refine yC [] [(4,.bool (decide (y ≥ 0)))]<|zM<|yX ?_;obtain rfl:=zC N;exact xC ⟨_,_,(.tmp rfl ResV.nil),(fun _ h=>h),⟨_,rfl,rfl,rfl⟩⟩
def qD (s:zA) (x:Int):Option (Bool):=do
 let t3←(do
   let y←rL s
   if (!y) then
    pure true
   else
    let y1←sL s
    pure (decide (y1 > x))
     : Option Bool)
 pure (id t3)
theorem zCT:∀ s x r,qD s x=some r→∀ {I:Imm}{p c}{ad:Addr},(S4 I p s.Coefs c)→(At I ad [vI x])→RT 105 [vA (cAff s p c),.pointer (some ad)] I [] (zU  r):=by
 intro s x r N I p c ad h hat;unfold qD at N;refine zY (fn:=Tryz.f105) (c:=(bodyOf Tryz.f105)) Tryz.func105 rfl rfl ?_;rintro B - -;have H:=iS I;refine yK<|uD (cAff s p c) ?_;intro b hb;refine yC [] []<|zM<|yG ?_;obtain ⟨o0,ho0,hMc⟩:=zB N;refine yU (fun I' hs' m'=>∃ (t3:Bool),o0=t3∧I.le I'∧hs'=[]∧m'=[(3,.bool t3)]) ?_ ?_
 · have H:=iS I;obtain ⟨y,hy,N⟩:=zB ho0;cases hc:(!y) with
   | true =>
    have hM0:=zP hc N;refine wA [.p (vA (cAff s p c)) [0],.q (.bool y),.q vY,.q vY,.p undef [],.p undef [],.p undef [],.p undef [],.p vY []] [[],[(0,false)],[(1,false)],[(2,false)],[(3,false)],[(3,false),(4,false)],[(3,false)],[(3,false),(5,false),(6,false)],[(3,false),(7,false)]] [hB b (cAff s p c)] [] [(8,false)] (yB [0]) ?_ ?_
    · refine Op<|Oq ?_<|Oq ?_<|Oq ?_<|Op<|Op<|Op<|Op<|Op<|On
      · intro I1 hf le1;refine yM [(4,vA (cAff s p c))] ?_;have H:=iS I1;have h:=h.mono le1;refine vJ (pY s _ hy h) ?_;intro I01 le;have H:=H.trans le;exact yS H
      · intro I1 hf le1;refine yM [(5,.bool y)]<|uS 3 [(6,.bool (!y))] ?_;rw [hc];exact yS iR
      intro I1 hf le1;exact yM [(6,vY)]<|uS 4 [(7,vY)]<|yS iR
    intro I02 le1;refine yM [(12,vY)] ?_;have H:=H.trans le1;exact yC [] [(3,vY)]<|xU zR<|yT [(3,vY)]<|zV (ct hM0 H)
   | false =>
    have hM01:=zL hc N;obtain ⟨y1,hy1,N⟩:=zB hM01;refine wA [.p (vA (cAff s p c)) [0],.q (.bool y),.q vF,.q vF,.p (vA (cAff s p c)) [0],.q (vI y1),.q (vI x),.p (.bool (decide (y1 > x))) [],.p (.bool (decide (y1 > x))) []] [[],[(0,false)],[(1,false)],[(2,false)],[(3,false)],[(3,false),(4,false)],[(3,false)],[(3,false),(5,false),(6,false)],[(3,false),(7,false)]] [hB b (cAff s p c)] [] [(8,false)] (yB [0]) ?_ ?_
    · refine Op<|Oq ?_<|Oq ?_<|Oq ?_<|Op<|Oq ?_<|Oq ?_<|Op<|Op<|On
      · intro I1 hf le1;refine yM [(4,vA (cAff s p c))] ?_;have H:=iS I1;have h:=h.mono le1;refine vJ (pY s _ hy h) ?_;intro I01 le;have H:=H.trans le;exact yS H
      · intro I1 hf le1;refine yM [(5,.bool y)]<|uS 3 [(6,.bool (!y))] ?_;rw [hc];exact yS iR
      · intro I1 hf le1;exact yM [(6,vF)]<|uS 4 [(7,vF)]<|yS iR
      · intro I1 hf le1;refine yM [(7,vF),(8,vA (cAff s p c))] ?_;have H:=iS I1;have h:=h.mono le1;refine gB (kX s _ hy1 h) ?_;intro I03 le2;have H:=H.trans le2;exact yS H
      intro I1 hf le1;refine yM [(1,.pointer (some ad)),(7,vF)] ?_;have hat:=hat.mono le1;exact xM 0 hat [vI x] (vI x) rfl<|yS iR
    intro I04 le3;refine yM [(12,.bool (decide (y1 > x)))] ?_;have H:=H.trans le3;exact yC [] [(3,.bool (decide (y1 > x)))]<|xU zR<|yT [(3,.bool (decide (y1 > x)))]<|zV (ct N H)
 rintro I0 hs2 m2 ⟨t3,heq,le4,rfl,rfl⟩;subst o0;refine zM<|yX ?_;obtain rfl:=zC hMc;exact wN
def oV (a0:zJ) (depth:Int):Option (Bool):=do
 let t4←(do
   let y←mA a0.Array
   if y then
    let y1←wD (a0.Subs.length:Int) 1 2
    if y1 then
     let y2←xN a0.Subs (fun x0=>qD x0 depth)
     pure (!y2)
    else
     pure false
   else
    pure false
     : Option Bool)
 pure (id t4)
theorem zAR:∀ a0 depth r,oV a0 depth=some r→∀ {I:Imm}{p c},(S4 I p a0.Subs c)→RT 54 [vA (cAccess a0 p c),vI depth] I [] (zU  r):=by
 intro a0 depth r N I p c h;unfold oV at N;refine zY (fn:=Tryz.f54) (c:=(bodyOf Tryz.f54)) Tryz.func54 rfl rfl ?_;rintro B - -;have H:=iS I;refine yK<|uD (cAccess a0 p c) ?_;intro b hb;refine uD [vI depth] ?_;intro b1 hb1;refine yJ 0 rfl ?_;intro I0 le hl0;have hat:At I0 ⟨b1,0,none⟩ [vI depth]:=At.of_blk hl0;have h:=h.mono le;have H:=H.trans le;refine yC [] []<|zM<|yG ?_;obtain ⟨o0,ho0,hMc⟩:=zB N;refine yU (fun I' hs' m'=>∃ (t4:Bool),o0=t4∧I0.le I'∧hs'=[]∧m'=[(4,.bool t4)]) ?_ ?_
 · have H:=iS I0;refine zQ<|yD 2 [0] [(6,vT a0.Array.l)] ?_;obtain ⟨y,hy,N⟩:=zB ho0;refine vJ (pV a0.Array _ hy ) ?_;intro I02 le1;have hat:=hat.mono le1;have h:=h.mono le1;have H:=H.trans le1;refine yD 4 [] [(8,.bool y)] ?_;cases hc:y with
   | true =>
    have hM0:=zP hc N
    try rw [hc]
    refine yD 7 [0] [(11,vI (a0.Subs.length:Int))] ?_;obtain ⟨y1,hy1,N⟩:=zB hM0;refine vJ (wF (a0.Subs.length:Int) 1 2 _ hy1 ) ?_;intro I03 le2;have hat:=hat.mono le2;have h:=h.mono le2;have H:=H.trans le2;refine yD 10 [] [(14,.bool y1)] ?_;cases hc1:y1 with
    | true =>
     have hM01:=zP hc1 N
     try rw [hc1]
     refine yD 13 [0] [(16,vS p a0.Subs c),(17,.func (.func 105) ⟨[]⟩ ⟨[vP b1 0]⟩)] ?_;have hf0:FV1 Tryz.prog I03 [] (.func (.func 105) ⟨[]⟩ ⟨[vP b1 0]⟩) (fun x0=>qD x0 depth):=by
       refine FV1.intro ?_;intro I1 le1 x0 r u0 hF k0;obtain ⟨_,rfl,k0⟩:=k0;obtain ⟨p1,c1,rfl,h3⟩:=yN k0;exact (zCT x0 depth r hF h3 (hat.mono le1)).mono (by rintro k i hs u ⟨v0,rfl,rfl,h⟩; exact ⟨rfl,h⟩)
     obtain ⟨y2,hy2,N⟩:=zB hM01;refine xT (sZ a0.Subs (fun x0=>qD x0 depth) _ hy2 h hf0) ?_;rintro I04 hs2 v2 k2 le3 - ⟨v03,rfl,rfl,rfl⟩ -;have H:=H.trans le3;exact yC [] [(4,.bool (!y2))]<|xU zR<|yT [(4,.bool (!y2))]<|zV (ct N H)
    | false =>
     have hM02:=zL hc1 N
     try rw [hc1]
     exact yC [] [(4,vF)]<|xU zR<|yT [(4,vF)]<|zV (ct hM02 H)
   | false =>
    have hM03:=zL hc N
    try rw [hc]
    exact yC [] [(4,vF)]<|xU zR<|yT [(4,vF)]<|zV (ct hM03 H)
 rintro I01 hs2 m2 ⟨t4,heq,le4,rfl,rfl⟩;subst o0;refine zM<|yX ?_;obtain rfl:=zC hMc;exact wN
def oW (a0:zA):Option (Bool):=do
 let t2←(do
   if ((a0.Coefs.length:Int) == 0) then
    pure (a0.Const == 0)
   else
    pure false
     : Option Bool)
 pure (id t2)
theorem zAS:∀ a0 r,oW a0=some r→∀ {I:Imm}{p c},(S4 I p a0.Coefs c)→RT 153 [vA (cAff a0 p c)] I [] (zU  r):=by
 intro a0 r N I p c h;unfold oW at N;refine zY (fn:=Tryz.f153) (c:=(bodyOf Tryz.f153)) Tryz.func153 rfl rfl ?_;rintro B - -;have H:=iS I;refine yK<|uD (cAff a0 p c) ?_;intro b hb;refine yC [] []<|zM<|yG ?_;obtain ⟨o0,ho0,hMc⟩:=zB N;refine yU (fun I' hs' m'=>∃ (t2:Bool),o0=t2∧I.le I'∧hs'=[]∧m'=[(2,.bool t2)]) ?_ ?_
 · have H:=iS I;refine zQ<|yD 5 [0] [(7,.bool ((a0.Coefs.length:Int) == 0))] ?_;cases hc:((a0.Coefs.length:Int) == 0) with
   | true =>
    have hM0:=zP hc ho0
    try rw [hc]
    exact yC [0] [(2,.bool (a0.Const == 0))]<|xU zR<|yT [(2,.bool (a0.Const == 0))]<|zV (ct hM0 H)
   | false =>
    have hM01:=zL hc ho0
    try rw [hc]
    exact yC [] [(2,vF)]<|xU zR<|yT [(2,vF)]<|zV (ct hM01 H)
 rintro I0 hs2 m2 ⟨t2,heq,le,rfl,rfl⟩;subst o0;refine zM<|yX ?_;obtain rfl:=zC hMc;exact wN
def qK (a0:zJ):Option (Bool):=do
 let t2←(do
   if (a0.Array.l == ([]:List UInt8)) then
    pure ((a0.Subs.length:Int) == 0)
   else
    pure false
     : Option Bool)
 pure (id t2)
theorem kZ:∀ a0 r,qK a0=some r→∀ {I:Imm}{p c},(S4 I p a0.Subs c)→RT 154 [vA (cAccess a0 p c)] I [] (zU  r):=by
 intro a0 r N I p c h;unfold qK at N;refine zY (fn:=Tryz.f154) (c:=(bodyOf Tryz.f154)) Tryz.func154 rfl rfl ?_;rintro B - -;have H:=iS I;refine yK<|uD (cAccess a0 p c) ?_;intro b hb;refine yC [] []<|zM<|yG ?_;obtain ⟨o0,ho0,hMc⟩:=zB N;refine yU (fun I' hs' m'=>∃ (t2:Bool),o0=t2∧I.le I'∧hs'=[]∧m'=[(2,.bool t2)]) ?_ ?_
 · have H:=iS I;refine zQ<|yD 4 [0] [(6,.bool (a0.Array.l == ([]:List UInt8)))] ?_;cases hc:(a0.Array.l == ([]:List UInt8)) with
   | true =>
    have hM0:=zP hc ho0
    try rw [hc]
    exact yC [0] [(2,.bool ((a0.Subs.length:Int) == 0))]<|xU zR<|yT [(2,.bool ((a0.Subs.length:Int) == 0))]<|zV (ct hM0 H)
   | false =>
    have hM01:=zL hc ho0
    try rw [hc]
    exact yC [] [(2,vF)]<|xU zR<|yT [(2,vF)]<|zV (ct hM01 H)
 rintro I0 hs2 m2 ⟨t2,heq,le,rfl,rfl⟩;subst o0;refine zM<|yX ?_;obtain rfl:=zC hMc;exact wN
def fF (kind:Int):Option (Bool):=do
 let y←wD kind 4 6
 pure (id y)
theorem zG7:∀ kind r,fF kind=some r→∀ {I:Imm} ,RT 155 [vI kind] I [] (zU  r):=by
 intro kind r N I;unfold fF at N;refine zY (fn:=Tryz.f155) (c:=(bodyOf Tryz.f155)) Tryz.func155 rfl rfl ?_;rintro B - -;refine yF []<|xD<|yD 1 [] [(3,vI kind)]<|bE N fun y hy N=>vJ (wF kind 4 6 _ hy ) fun I0 le=>yC [] [(2,.bool y)]<|zM<|yX ?_;obtain rfl:=zC N;exact wN
def zCU (b0:Nat) (r:Bool×Int):KT:=fun kk I' hs' v=>
  ∃ v0 k0,hs'=[.blk b0 ⟨k0⟩]∧v=tupV [v0]∧v0=.bool r.1∧Rp.rep I' k0 r.2
def uG (e0:zG) (depth:Int) (deep:Int) (count:Int):Option (Bool×Int):=do
 let t21←(do
   if (decide ((W (count + 1)) > 12)) then
    pure true
   else
    pure (decide (deep > 5))
     : Option Bool)
 if t21 then
  pure (false,(W (count + 1)))
 else
  let t51←(do
    if (e0.Kind != 1) then
     if (e0.Num != 0) then
      pure true
     else
      if (e0.Kind != 2) then
       let y←oW e0.Index
       if (!y) then
        pure true
       else
        if (e0.Kind != 3) then
         let y1←qK e0.Read
         pure (!y1)
        else
         pure false
      else
       if (e0.Kind != 3) then
        let y2←qK e0.Read
        pure (!y2)
       else
        pure false
    else
     if (e0.Kind != 2) then
      let y3←oW e0.Index
      if (!y3) then
       pure true
      else
       if (e0.Kind != 3) then
        let y4←qK e0.Read
        pure (!y4)
       else
        pure false
     else
      if (e0.Kind != 3) then
       let y5←qK e0.Read
       pure (!y5)
      else
       pure false
      : Option Bool)
  if t51 then
   pure (false,(W (count + 1)))
  else
   if (e0.Kind == 1) then
    let t8←(do
      let y6←wD e0.Num 0 99
      if y6 then
       pure ((e0.Kids.length:Int) == 0)
      else
       pure false
        : Option Bool)
    pure (t8,(W (count + 1)))
   else
    if (e0.Kind == 2) then
     let t81←(do
       let y7←rL e0.Index
       if y7 then
        let y8←sL e0.Index
        if (decide (y8 ≤ depth)) then
         pure ((e0.Kids.length:Int) == 0)
        else
         pure false
       else
        pure false
         : Option Bool)
     pure (t81,(W (count + 1)))
    else
     if (e0.Kind == 3) then
      let t82←(do
        let y9←oV e0.Read depth
        if y9 then
         pure ((e0.Kids.length:Int) == 0)
        else
         pure false
          : Option Bool)
      pure (t82,(W (count + 1)))
     else
      let t99←(do
        let y10←fF e0.Kind
        if (!y10) then
         pure true
        else
         pure ((e0.Kids.length:Int) != 2)
          : Option Bool)
      if t99 then
       pure (false,(W (count + 1)))
      else
       let (t83,x)←(do
         let x1←idx e0.Kids 0
         let (y12,y13)←uG (same x1) (same depth) (W (deep + 1)) (W (count + 1))
         if y12 then
          let x2←idx e0.Kids 1
          let (y15,y16)←uG (same x2) (same depth) (W (deep + 1)) (same y13)
          pure (y15,y16)
         else
          pure (false,y13)
           : Option (Bool×Int))
       pure (t83,x)
 partial_fixpoint
theorem zDu:∀ e0 depth deep count r,uG e0 depth deep count=some r→∀ {I:Imm}{p c p1 c1 p2 c2}{r0:Nat},(S4 I p e0.Index.Coefs c)→(S4 I p1 e0.Read.Subs c1)→(S4 I p2 e0.Kids c2)→RT 110 [vA (cExpr e0 p c p1 c1 p2 c2),vI depth,vI deep,vP r0 0] I [hB r0 [vI count]] (zCU r0 r):=by
 refine uG.partial_correctness _ fun F_impl_exprScan ih_impl_exprScan e0 depth deep count r N I p c p1 c1 p2 c2 r0 h h1 h2=>zY (fn:=Tryz.f110) (c:=(bodyOf Tryz.f110)) Tryz.func110 rfl rfl ?_;rintro B - -;have H:=iS I;refine yK<|uD (cExpr e0 p c p1 c1 p2 c2) ?_;intro b hb;refine yC [] []<|xD<|yD 5 [1] [(12,vI (W (count + 1))),(13,vP r0 0)]<|xE 1 [vI (W (count + 1))] [hB b (cExpr e0 p c p1 c1 p2 c2),hB r0 [vI (W (count + 1))]] rfl rfl rfl rfl<|yH rfl<|yI<|yG ?_;obtain ⟨o0,ho0,hMc⟩:=zB N;refine yU (fun I' hs' m'=>∃ (t21:Bool),o0=t21∧I.le I'∧hs'=[hB b (cExpr e0 p c p1 c1 p2 c2),hB r0 [vI (W (count + 1))]]∧m'=[(1,vI depth),(2,vI deep),(3,vP r0 0),(4,vP b 0),(21,.bool t21)]) ?_ ?_
 · have H:=iS I;refine zQ<|yD 5 [1] [(18,.bool (decide ((W (count + 1)) > 12)))] ?_;cases hc:(decide ((W (count + 1)) > 12)) with
   | true =>
    have hM0:=zP hc ho0
    try rw [hc]
    exact yC [] [(21,vY)]<|yT [(1,vI depth),(2,vI deep),(3,vP r0 0),(4,vP b 0),(21,vY)]<|zV (ct hM0 H)
   | false =>
    have hM01:=zL hc ho0
    try rw [hc]
    exact yC [] [(21,.bool (decide (deep > 5)))]<|yT [(1,vI depth),(2,vI deep),(3,vP r0 0),(4,vP b 0),(21,.bool (decide (deep > 5)))]<|zV (ct hM01 H)
 rintro I0 hs2 m2 ⟨t21,heq,le,rfl,rfl⟩;subst o0;have h:=h.mono le;have h1:=h1.mono le;have h2:=h2.mono le;have H:=H.trans le;refine zM<|yL hMc ?_ ?_
 · intro hc1 N;refine yF [(8,vF)]<|xG<|zH ?_;obtain rfl:=zC N;exact xC ⟨_,_,(.tmp rfl ResV.nil),(yA [1] rfl (by decide)),⟨_,_,rfl,rfl,rfl,rfl⟩⟩
 intro hc1 N;refine zW<|yI<|yG ?_;obtain ⟨o01,ho01,hMc1⟩:=zB N;refine yU (fun I' hs' m'=>∃ (t51:Bool),o01=t51∧I0.le I'∧hs'=[hB b (cExpr e0 p c p1 c1 p2 c2),hB r0 [vI (W (count + 1))]]∧m'=[(1,vI depth),(2,vI deep),(3,vP r0 0),(4,vP b 0),(51,.bool t51)]) ?_ ?_
 · have H:=iS I0;refine zQ<|yD 4 [0] [(25,.bool (e0.Kind != 1))] ?_;cases hc2:(e0.Kind != 1) with
   | true =>
    have hM02:=zP hc2 ho01
    try rw [hc2]
    refine yD 9 [0] [(30,.bool (e0.Num != 0))] ?_;cases hc3:(e0.Num != 0) with
    | true =>
     have hM03:=zP hc3 hM02
     try rw [hc3]
     exact yC [] [(51,vY)]<|yT [(1,vI depth),(2,vI deep),(3,vP r0 0),(4,vP b 0),(51,vY)]<|zV (ct hM03 H)
    | false =>
     have hM04:=zL hc3 hM02
     try rw [hc3]
     refine yD 13 [0] [(34,.bool (e0.Kind != 2))] ?_;cases hc4:(e0.Kind != 2) with
     | true =>
      have hM05:=zP hc4 hM04
      try rw [hc4]
      refine yD 15 [0] [(36,vA (cAff e0.Index p c))] ?_;obtain ⟨y,hy,N⟩:=zB hM05;refine vJ (zAS e0.Index _ hy h) ?_;intro I02 le1;have h1:=h1.mono le1;have H:=H.trans le1;refine yD 20 [] [(41,.bool (!y))] ?_;cases hc5:(!y) with
      | true =>
       have hM06:=zP hc5 N
       try rw [hc5]
       exact yC [] [(51,vY)]<|yT [(1,vI depth),(2,vI deep),(3,vP r0 0),(4,vP b 0),(51,vY)]<|zV (ct hM06 H)
      | false =>
       have hM07:=zL hc5 N
       try rw [hc5]
       refine yD 24 [0] [(45,.bool (e0.Kind != 3))] ?_;cases hc6:(e0.Kind != 3) with
       | true =>
        have hM08:=zP hc6 hM07
        try rw [hc6]
        refine yD 26 [0] [(47,vA (cAccess e0.Read p1 c1))] ?_;obtain ⟨y1,hy1,N⟩:=zB hM08;refine vJ (kZ e0.Read _ hy1 h1) ?_;intro I03 le2;have H:=H.trans le2;exact yC [] [(51,.bool (!y1))]<|yT [(1,vI depth),(2,vI deep),(3,vP r0 0),(4,vP b 0),(51,.bool (!y1))]<|zV (ct N H)
       | false =>
        have hM09:=zL hc6 hM07
        try rw [hc6]
        exact yC [] [(51,vF)]<|yT [(1,vI depth),(2,vI deep),(3,vP r0 0),(4,vP b 0),(51,vF)]<|zV (ct hM09 H)
     | false =>
      have hM010:=zL hc4 hM04
      try rw [hc4]
      refine yD 24 [0] [(41,vF),(45,.bool (e0.Kind != 3))] ?_;cases hc7:(e0.Kind != 3) with
      | true =>
       have hM011:=zP hc7 hM010
       try rw [hc7]
       refine yD 26 [0] [(47,vA (cAccess e0.Read p1 c1))] ?_;obtain ⟨y2,hy2,N⟩:=zB hM011;refine vJ (kZ e0.Read _ hy2 h1) ?_;intro I04 le3;have H:=H.trans le3;exact yC [] [(51,.bool (!y2))]<|yT [(1,vI depth),(2,vI deep),(3,vP r0 0),(4,vP b 0),(51,.bool (!y2))]<|zV (ct N H)
      | false =>
       have hM012:=zL hc7 hM010
       try rw [hc7]
       exact yC [] [(51,vF)]<|yT [(1,vI depth),(2,vI deep),(3,vP r0 0),(4,vP b 0),(51,vF)]<|zV (ct hM012 H)
   | false =>
    have hM013:=zL hc2 ho01
    try rw [hc2]
    refine yD 13 [0] [(30,vF),(34,.bool (e0.Kind != 2))] ?_;cases hc8:(e0.Kind != 2) with
    | true =>
     have hM014:=zP hc8 hM013
     try rw [hc8]
     refine yD 15 [0] [(36,vA (cAff e0.Index p c))] ?_;obtain ⟨y3,hy3,N⟩:=zB hM014;refine vJ (zAS e0.Index _ hy3 h) ?_;intro I05 le4;have h1:=h1.mono le4;have H:=H.trans le4;refine yD 20 [] [(41,.bool (!y3))] ?_;cases hc9:(!y3) with
     | true =>
      have hM015:=zP hc9 N
      try rw [hc9]
      exact yC [] [(51,vY)]<|yT [(1,vI depth),(2,vI deep),(3,vP r0 0),(4,vP b 0),(51,vY)]<|zV (ct hM015 H)
     | false =>
      have hM016:=zL hc9 N
      try rw [hc9]
      refine yD 24 [0] [(45,.bool (e0.Kind != 3))] ?_;cases hc10:(e0.Kind != 3) with
      | true =>
       have hM017:=zP hc10 hM016
       try rw [hc10]
       refine yD 26 [0] [(47,vA (cAccess e0.Read p1 c1))] ?_;obtain ⟨y4,hy4,N⟩:=zB hM017;refine vJ (kZ e0.Read _ hy4 h1) ?_;intro I06 le5;have H:=H.trans le5;exact yC [] [(51,.bool (!y4))]<|yT [(1,vI depth),(2,vI deep),(3,vP r0 0),(4,vP b 0),(51,.bool (!y4))]<|zV (ct N H)
      | false =>
       have hM018:=zL hc10 hM016
       try rw [hc10]
       exact yC [] [(51,vF)]<|yT [(1,vI depth),(2,vI deep),(3,vP r0 0),(4,vP b 0),(51,vF)]<|zV (ct hM018 H)
    | false =>
     have hM019:=zL hc8 hM013
     try rw [hc8]
     refine yD 24 [0] [(41,vF),(45,.bool (e0.Kind != 3))] ?_;cases hc11:(e0.Kind != 3) with
     | true =>
      have hM020:=zP hc11 hM019
      try rw [hc11]
      refine yD 26 [0] [(47,vA (cAccess e0.Read p1 c1))] ?_;obtain ⟨y5,hy5,N⟩:=zB hM020;refine vJ (kZ e0.Read _ hy5 h1) ?_;intro I07 le6;have H:=H.trans le6;exact yC [] [(51,.bool (!y5))]<|yT [(1,vI depth),(2,vI deep),(3,vP r0 0),(4,vP b 0),(51,.bool (!y5))]<|zV (ct N H)
     | false =>
      have hM021:=zL hc11 hM019
      try rw [hc11]
      exact yC [] [(51,vF)]<|yT [(1,vI depth),(2,vI deep),(3,vP r0 0),(4,vP b 0),(51,vF)]<|zV (ct hM021 H)
 rintro I01 hs2 m2 ⟨t51,heq1,le7,rfl,rfl⟩;subst o01;have h:=h.mono le7;have h1:=h1.mono le7;have h2:=h2.mono le7;have H:=H.trans le7;refine zM<|yL hMc1 ?_ ?_
 · intro hc12 N;refine yF [(8,vF)]<|xG<|zH ?_;obtain rfl:=zC N;exact xC ⟨_,_,(.tmp rfl ResV.nil),(yA [1] rfl (by decide)),⟨_,_,rfl,rfl,rfl,rfl⟩⟩
 intro hc12 N;refine zW<|yI<|yP<|yK<|yC [0] [(52,.bool (e0.Kind == 1))]<|zM<|yL N ?_ ?_
 · intro hc13 N;refine yG ?_;obtain ⟨o02,ho02,hMc2⟩:=zB N;refine yU (fun I' hs' m'=>∃ (t8:Bool),o02=t8∧I01.le I'∧hs'=[hB r0 [vI (W (count + 1))]]∧m'=[(8,.bool t8)]) ?_ ?_
   · have H:=iS I01;refine zQ<|yD 2 [0] [(57,vI e0.Num)] ?_;obtain ⟨y6,hy6,N⟩:=zB ho02;refine vJ (wF e0.Num 0 99 _ hy6 ) ?_;intro I09 le8;have H:=H.trans le8;refine yD 4 [] [(59,.bool y6)] ?_;cases hc14:y6 with
     | true =>
      have hM022:=zP hc14 N
      try rw [hc14]
      exact yC [0] [(8,.bool ((e0.Kids.length:Int) == 0))]<|xU (yA [1] rfl (by decide))<|yT [(8,.bool ((e0.Kids.length:Int) == 0))]<|zV (ct hM022 H)
     | false =>
      have hM023:=zL hc14 N
      try rw [hc14]
      exact yC [] [(8,vF)]<|xU (yA [1] rfl (by decide))<|yT [(8,vF)]<|zV (ct hM023 H)
   rintro I08 hs2 m2 ⟨t8,heq2,le9,rfl,rfl⟩;subst o02;refine xG<|zZ<|zH ?_;obtain rfl:=zC hMc2;exact xC ⟨_,_,(.tmp rfl ResV.nil),(yA [0] rfl (by decide)),⟨_,_,rfl,rfl,rfl,rfl⟩⟩
 intro hc13 N;refine yK<|yC [0] [(65,.bool (e0.Kind == 2))]<|zM<|yL N ?_ ?_
 · intro hc15 N;refine yG ?_;obtain ⟨o03,ho03,hMc3⟩:=zB N;refine yU (fun I' hs' m'=>∃ (t81:Bool),o03=t81∧I01.le I'∧hs'=[hB r0 [vI (W (count + 1))]]∧m'=[(8,.bool t81)]) ?_ ?_
   · have H:=iS I01;refine zQ<|yD 2 [0] [(70,vA (cAff e0.Index p c))] ?_;obtain ⟨y7,hy7,N⟩:=zB ho03;refine vJ (pY e0.Index _ hy7 h) ?_;intro I011 le10;have h:=h.mono le10;have H:=H.trans le10;refine yD 4 [] [(72,.bool y7)] ?_;cases hc16:y7 with
     | true =>
      have hM024:=zP hc16 N
      try rw [hc16]
      refine yD 6 [0] [(74,vA (cAff e0.Index p c))] ?_;obtain ⟨y8,hy8,N⟩:=zB hM024;refine gB (kX e0.Index _ hy8 h) ?_;intro I012 le11;have H:=H.trans le11;refine yD 11 [] [(79,.bool (decide (y8 ≤ depth)))] ?_;cases hc17:(decide (y8 ≤ depth)) with
      | true =>
       have hM025:=zP hc17 N
       try rw [hc17]
       exact yC [0] [(8,.bool ((e0.Kids.length:Int) == 0))]<|xU (yA [1] rfl (by decide))<|yT [(8,.bool ((e0.Kids.length:Int) == 0))]<|zV (ct hM025 H)
      | false =>
       have hM026:=zL hc17 N
       try rw [hc17]
       exact yC [] [(8,vF)]<|xU (yA [1] rfl (by decide))<|yT [(8,vF)]<|zV (ct hM026 H)
     | false =>
      have hM027:=zL hc16 N
      try rw [hc16]
      exact yC [] [(8,vF)]<|xU (yA [1] rfl (by decide))<|yT [(8,vF)]<|zV (ct hM027 H)
   rintro I010 hs2 m2 ⟨t81,heq3,le12,rfl,rfl⟩;subst o03;refine xG<|zZ<|zH ?_;obtain rfl:=zC hMc3;exact xC ⟨_,_,(.tmp rfl ResV.nil),(yA [0] rfl (by decide)),⟨_,_,rfl,rfl,rfl,rfl⟩⟩
 intro hc15 N;refine yK<|yC [0] [(85,.bool (e0.Kind == 3))]<|zM<|yL N ?_ ?_
 · intro hc18 N;refine yG ?_;obtain ⟨o04,ho04,hMc4⟩:=zB N;refine yU (fun I' hs' m'=>∃ (t82:Bool),o04=t82∧I01.le I'∧hs'=[hB r0 [vI (W (count + 1))]]∧m'=[(8,.bool t82)]) ?_ ?_
   · have H:=iS I01;refine zQ<|yD 3 [0] [(90,vA (cAccess e0.Read p1 c1)),(91,vI depth)] ?_;obtain ⟨y9,hy9,N⟩:=zB ho04;refine vJ (zAR e0.Read depth _ hy9 h1) ?_;intro I014 le13;have H:=H.trans le13;refine yD 5 [] [(93,.bool y9)] ?_;cases hc19:y9 with
     | true =>
      have hM028:=zP hc19 N
      try rw [hc19]
      exact yC [0] [(8,.bool ((e0.Kids.length:Int) == 0))]<|xU (yA [1] rfl (by decide))<|yT [(8,.bool ((e0.Kids.length:Int) == 0))]<|zV (ct hM028 H)
     | false =>
      have hM029:=zL hc19 N
      try rw [hc19]
      exact yC [] [(8,vF)]<|xU (yA [1] rfl (by decide))<|yT [(8,vF)]<|zV (ct hM029 H)
   rintro I013 hs2 m2 ⟨t82,heq4,le14,rfl,rfl⟩;subst o04;refine xG<|zZ<|zH ?_;obtain rfl:=zC hMc4;exact xC ⟨_,_,(.tmp rfl ResV.nil),(yA [0] rfl (by decide)),⟨_,_,rfl,rfl,rfl,rfl⟩⟩
 intro hc18 N;refine yG ?_;obtain ⟨o05,ho05,hMc5⟩:=zB N;refine yU (fun I' hs' m'=>∃ (t99:Bool),o05=t99∧I01.le I'∧hs'=[hB b (cExpr e0 p c p1 c1 p2 c2),hB r0 [vI (W (count + 1))]]∧m'=[(1,vI depth),(2,vI deep),(3,vP r0 0),(4,vP b 0),(99,.bool t99)]) ?_ ?_
 · have H:=iS I01;refine zQ<|yD 2 [0] [(101,vI e0.Kind)] ?_;obtain ⟨y10,hy10,N⟩:=zB ho05;refine vJ (zG7 e0.Kind _ hy10 ) ?_;intro I016 le15;have H:=H.trans le15;refine yD 5 [] [(104,.bool (!y10))] ?_;cases hc20:(!y10) with
   | true =>
    have hM030:=zP hc20 N
    try rw [hc20]
    exact yC [] [(99,vY)]<|yT [(1,vI depth),(2,vI deep),(3,vP r0 0),(4,vP b 0),(99,vY)]<|zV (ct hM030 H)
   | false =>
    have hM031:=zL hc20 N
    try rw [hc20]
    exact yC [0] [(99,.bool ((e0.Kids.length:Int) != 2))]<|yT [(1,vI depth),(2,vI deep),(3,vP r0 0),(4,vP b 0),(99,.bool ((e0.Kids.length:Int) != 2))]<|zV (ct hM031 H)
 rintro I015 hs2 m2 ⟨t99,heq5,le16,rfl,rfl⟩;subst o05;have h2:=h2.mono le16;have H:=H.trans le16;refine zM<|yL hMc5 ?_ ?_
 · intro hc21 N;refine yF [(8,vF)]<|xG<|zZ<|zH ?_;obtain rfl:=zC N;exact xC ⟨_,_,(.tmp rfl ResV.nil),(yA [1] rfl (by decide)),⟨_,_,rfl,rfl,rfl,rfl⟩⟩
 intro hc21 N;refine zW<|zT<|zM<|yG ?_;obtain ⟨o06,ho06,hMc6⟩:=zB N;refine yU (fun I' hs' m'=>∃ (t83:Bool) (x:Int),o06=(t83,x)∧I015.le I'∧hs'=[hB r0 [vI x]]∧m'=[(8,.bool t83)]) ?_ ?_
 · have H:=iS I015;refine zQ<|yD 2 [0] [(111,vS p2 e0.Kids c2)] ?_;obtain ⟨x1,hy11,N⟩:=zB ho06;refine xS rfl rfl h2 hy11 ?_;intro ad ccs hat hrep;obtain ⟨p3,c3,p4,c4,p5,c5,rfl,h14,h15,h16⟩:=xV hrep;refine xM 0 hat (cExpr x1 p3 c3 p4 c4 p5 c5) (vA (cExpr x1 p3 c3 p4 c4 p5 c5)) rfl<|yD 8 [] [(114,vI depth),(116,vI (W (deep + 1))),(117,vP r0 0)]<|sU (yB [1,0] (hs':=[hB r0 [vI (W (count + 1))],hB b (cExpr e0 p c p1 c1 p2 c2)])) ?_;obtain ⟨⟨y12,y13⟩,hy12,N⟩:=zB N;refine tM [hB r0 [vI (W (count + 1))]] [hB b (cExpr e0 p c p1 c1 p2 c2)] (ih_impl_exprScan x1 depth (W (deep + 1)) (W (count + 1)) _ hy12 h14 h15 h16) ?_;rintro I018 hs2 v2 k2 le17 - ⟨v014,kk,rfl,rfl,rfl,h18⟩ -;have h2:=h2.mono le17;have H:=H.trans le17;obtain rfl:=h18;refine yD 10 [] [(119,.bool y12)] ?_;cases hc22:y12 with
   | true =>
    have hM032:=zP hc22 N
    try rw [hc22]
    refine yD 12 [1] [(121,vS p2 e0.Kids c2)] ?_;obtain ⟨x2,hy13,N⟩:=zB hM032;refine xS rfl rfl h2 hy13 ?_;intro ad1 ccs1 hat1 hrep1;obtain ⟨p6,c6,p7,c7,p8,c8,rfl,h19,h20,h21⟩:=xV hrep1;refine xM 0 hat1 (cExpr x2 p6 c6 p7 c7 p8 c8) (vA (cExpr x2 p6 c6 p7 c7 p8 c8)) rfl<|yD 18 [] [(124,vI depth),(126,vI (W (deep + 1))),(127,vP r0 0)] ?_;obtain ⟨⟨y15,y16⟩,hy14,N⟩:=zB N;refine tM [hB r0 [vI y13]] [hB b (cExpr e0 p c p1 c1 p2 c2)] (ih_impl_exprScan x2 depth (W (deep + 1)) y13 _ hy14 h19 h20 h21) ?_;rintro I019 hs2 v2 k2 le18 - ⟨v018,kk1,rfl,rfl,rfl,h23⟩ -;have H:=H.trans le18;obtain rfl:=h23;exact yC [] [(8,.bool y15)]<|xU (yA [0] rfl (by decide))<|yT [(8,.bool y15)]<|zV ⟨_,_,(zC N).symm,H,rfl,rfl⟩
   | false =>
    have hM033:=zL hc22 N
    try rw [hc22]
    exact yC [] [(8,vF)]<|xU (yA [0] rfl (by decide))<|yT [(8,vF)]<|zV ⟨_,_,(zC hM033).symm,H,rfl,rfl⟩
 rintro I017 hs2 m2 ⟨t83,x,heq6,le19,rfl,rfl⟩;subst o06;refine zM<|yX ?_;obtain rfl:=zC hMc6;exact xC ⟨_,_,(.tmp rfl ResV.nil),(yA [0] rfl (by decide)),⟨_,_,rfl,rfl,rfl,rfl⟩⟩
def oJ (s:zI) (depth:Int):Option (Bool):=do
 let t4←(do
   let y←wD depth 0 4
   if y then
    let y1←oV s.Write depth
    if y1 then
     let (y3,y4)←uG s.Value depth 1 0
     pure (id y3)
    else
     pure false
   else
    pure false
     : Option Bool)
 pure (id t4)
theorem dK:∀ s depth r,oJ s depth=some r→∀ {I:Imm}{p c p1 c1 p2 c2 p3 c3},(S4 I p s.Write.Subs c)→(S4 I p1 s.Value.Index.Coefs c1)→(S4 I p2 s.Value.Read.Subs c2)→(S4 I p3 s.Value.Kids c3)→RT 57 [vA (cStmt s p c p1 c1 p2 c2 p3 c3),vI depth] I [] (zU  r):=by
 intro s depth r N I p c p1 c1 p2 c2 p3 c3 h h1 h2 h3;unfold oJ at N;refine zY (fn:=Tryz.f57) (c:=(bodyOf Tryz.f57)) Tryz.func57 rfl rfl ?_;rintro B - -;have H:=iS I;refine yK<|uD (cStmt s p c p1 c1 p2 c2 p3 c3) ?_;intro b hb;refine yC [] []<|xD<|wR [vI 0] ?_;intro b1 hb1;refine xE 0 [vI 0] [hB b1 [vI 0],hB b (cStmt s p c p1 c1 p2 c2 p3 c3)] rfl rfl rfl rfl<|yH rfl<|zM<|yG ?_;obtain ⟨o0,ho0,hMc⟩:=zB N;refine yU (fun I' hs' m'=>∃ (t4:Bool),o0=t4∧I.le I'∧hs'=[]∧m'=[(4,.bool t4)]) ?_ ?_
 · have H:=iS I;refine zQ<|yD 1 [] [(6,vI depth)] ?_;obtain ⟨y,hy,N⟩:=zB ho0;refine vJ (wF depth 0 4 _ hy ) ?_;intro I01 le;have h:=h.mono le;have h1:=h1.mono le;have h2:=h2.mono le;have h3:=h3.mono le;have H:=H.trans le;refine yD 3 [] [(8,.bool y)] ?_;cases hc:y with
   | true =>
    have hM0:=zP hc N
    try rw [hc]
    refine yD 6 [1] [(10,vA (cAccess s.Write p c)),(11,vI depth)] ?_;obtain ⟨y1,hy1,N⟩:=zB hM0;refine vJ (zAR s.Write depth _ hy1 h) ?_;intro I02 le1;have h1:=h1.mono le1;have h2:=h2.mono le1;have h3:=h3.mono le1;have H:=H.trans le1;refine yD 9 [] [(14,.bool y1)] ?_;cases hc1:y1 with
    | true =>
     have hM01:=zP hc1 N
     try rw [hc1]
     refine yD 12 [1] [(16,vA (cExpr s.Value p1 c1 p2 c2 p3 c3)),(17,vI depth)] ?_;obtain ⟨⟨y3,y4⟩,hy2,N⟩:=zB hM01;refine tM [hB b1 [vI 0]] [hB b (cStmt s p c p1 c1 p2 c2 p3 c3)] (zDu s.Value depth 1 0 _ hy2 h1 h2 h3) ?_;rintro I03 hs2 v2 k2 le2 - ⟨v02,kk,rfl,rfl,rfl,h7⟩ -;have H:=H.trans le2;obtain rfl:=h7;exact yC [] [(4,.bool y3)]<|xU zR<|yT [(4,.bool y3)]<|zV (ct N H)
    | false =>
     have hM02:=zL hc1 N
     try rw [hc1]
     exact yC [] [(4,vF)]<|xU zR<|yT [(4,vF)]<|zV (ct hM02 H)
   | false =>
    have hM03:=zL hc N
    try rw [hc]
    exact yC [] [(4,vF)]<|xU zR<|yT [(4,vF)]<|zV (ct hM03 H)
 rintro I0 hs2 m2 ⟨t4,heq,le3,rfl,rfl⟩;subst o0;refine zM<|yX ?_;obtain rfl:=zC hMc;exact wN
def vD (s:zI) (x:zN):Option (Bool):=do
 let y←oJ s (x.Nest.length:Int)
 pure (!y)
theorem fV:∀ s x r,vD s x=some r→∀ {I:Imm}{p c p1 c1 p2 c2 p3 c3}{ad:Addr}{p4 c4 p5 c5},(S4 I p s.Write.Subs c)→(S4 I p1 s.Value.Index.Coefs c1)→(S4 I p2 s.Value.Read.Subs c2)→(S4 I p3 s.Value.Kids c3)→(S4 I p4 x.Nest c4)→(S4 I p5 x.Body c5)→(At I ad (cPart x p4 c4 p5 c5))→RT 119 [vA (cStmt s p c p1 c1 p2 c2 p3 c3),.pointer (some ad)] I [] (zU  r):=by
 intro s x r N I p c p1 c1 p2 c2 p3 c3 ad p4 c4 p5 c5 h h1 h2 h3 h4 h5 hat;unfold vD at N;refine zY (fn:=Tryz.f119) (c:=(bodyOf Tryz.f119)) Tryz.func119 rfl rfl ?_;rintro B - -;refine yK<|uD (cStmt s p c p1 c1 p2 c2 p3 c3) ?_;intro b hb;refine yC [] []<|xD<|yD 2 [0] [(4,vA (cStmt s p c p1 c1 p2 c2 p3 c3)),(5,.pointer (some ad))]<|xM 0 hat [vS p4 x.Nest c4] (vS p4 x.Nest c4) rfl<|yD 4 [] [(7,vI (x.Nest.length:Int))]<|bE N fun y hy N=>vJ (dK s (x.Nest.length:Int) _ hy h h1 h2 h3) fun I0 le=>yC [] [(3,.bool (!y))]<|zM<|yX ?_;obtain rfl:=zC N;exact wN
def zAk (r:(List zJ)):KT:=fun kk I' hs' v=>
  ∃ v0,hs'=[]∧v=tupV [v0]∧SL I' v0 r
mutual
def nC (e0:zG):Option ((List zJ)):=do
 if (e0.Kind == 3) then
  pure ([e0.Read]:List zJ)
 else
  let out1←pW (same e0) ([]:List zJ) (same 0)
  pure (id out1)
 partial_fixpoint
def pW (e0:zG) (out:List zJ) (t15:Int):Option (List zJ):=do
 if (decide (t15 < (e0.Kids.length:Int))) then
  let x←idx e0.Kids t15
  let y←nC (same x)
  let out2←app 40 out y
  pW (same e0) (same out2) (W (t15 + 1))
 else
  pure (id out)
 partial_fixpoint
end
theorem zFN:(∀ (e0:zG) r,nC e0=some r→∀ {I:Imm}{p c p1 c1 p2 c2},(S4 I p e0.Index.Coefs c)→(S4 I p1 e0.Read.Subs c1)→(S4 I p2 e0.Kids c2)→RT 52 [vA (cExpr e0 p c p1 c1 p2 c2)] I [] (zAk  r))∧(∀ (e0:zG) (out:List zJ) (t15:Int) o,pW e0 out t15=some o→∀ {B}{I0 I:Imm}{Q p2 c2 p3 c3 cs},I0.le I→(S4 I p2 e0.Kids c2)→(RL I cs out)→NG Q→NO Q→(∀ (I':Imm) (out1:List zJ) (p4:Option Addr) (c4:Nat) (cs1:List Value),o=out1→I0.le I'→(RL I' cs1 out1)→T 25 B Q (.exit 0) I' [hO zJ (vS p4 out1 c4) cs1] [(3,vS p4 out1 c4)])→J Tryz.prog 25 B (nav (bodyOf Tryz.f52) [1,1,1,0,1,0]) Q I [hO zJ (vS p3 out c3) cs] [(3,vS p3 out c3),(13,vS p2 e0.Kids c2),(14,vI (e0.Kids.length:Int)),(15,vI t15)]):=by
  refine nC.mutual_partial_correctness _ _ ?_ ?_
  · intro F_impl_reads_l1 ih_impl_reads_l1 e0 r N I p c p1 c1 p2 c2 h h1 h2;refine zY (fn:=Tryz.f52) (c:=(bodyOf Tryz.f52)) Tryz.func52 rfl rfl ?_;rintro B - -;refine yK<|uD (cExpr e0 p c p1 c1 p2 c2) ?_;intro b hb;refine yC [] []<|yI<|yK<|yC [0] [(8,.bool (e0.Kind == 3))]<|zM<|yL N ?_ ?_
    · intro hc N;refine yK<|yD 2 [0] [(10,vA (cAccess e0.Read p1 c1))]<|xY (cAccess e0.Read p1 c1) zJ ?_;intro b1 hb1;have h3:RL I (cAccess e0.Read p1 c1) ([e0.Read]:List zJ):=⟨(cAccess e0.Read p1 c1),_,rfl,rfl,(oF ⟨_,rfl,h1⟩),rfl⟩;refine yC [] [(2,vS (some ⟨b1,0,none⟩) ([e0.Read]:List zJ) 1)]<|xG<|zH<|xP 0 rfl ?_;intro I0 le hl0;have h4:=SL.of_frozen hl0 le h3;obtain rfl:=zC N;exact xC ⟨_,_,(.tmp rfl ResV.nil),zR,⟨_,rfl,rfl,h4⟩⟩
    intro hc N;refine zW<|vH [(3,z0)]<|yI<|yK<|yC [0] [(13,vS p2 e0.Kids c2),(14,vI (e0.Kids.length:Int)),(15,vI 0)]<|wO<|pK (yB [] (hs':=[]))<|vE [(3,z0),(13,vS p2 e0.Kids c2),(14,vI (e0.Kids.length:Int)),(15,vI 0)]<|pK (vM (Rp.sz zJ)) ?_;have h5:RL I [] ([]:List zJ):=RepL.nil;obtain ⟨o0,ho0,hMl⟩:=zB N;refine ih_impl_reads_l1 e0 ([]:List zJ) 0 o0 ho0 iR h2 h5 (fun _ _ _ h=>h) (fun _ _ h=>h) ?_;intro I02 out1 p4 c4 cs1 heq le2 h7;subst o0;refine zX<|vH [(2,vS p4 out1 c4)]<|xG<|xP 0 rfl ?_;intro I03 le3 hl01;have h13:=SL.of_frozen hl01 le3 h7;obtain rfl:=zC hMl;exact xC ⟨_,_,(.tmp rfl ResV.nil),zR,⟨_,rfl,rfl,h13⟩⟩
  intro F_impl_reads F_impl_reads_l1 ih_impl_reads ih_impl_reads_l1 e0 out t15 o N B I0 I Q p2 c2 p3 c3 cs H h2 h6 hg ho hx;refine yZ hg ho<|yF [(16,.bool (decide (t15 < (e0.Kids.length:Int))))]<|yI<|yL N ?_ ?_
  · intro hc1 N;refine zW<|yI<|yP<|yK<|bE N fun x hy N=>xS rfl rfl h2 hy ?_;intro ad ccs hat hrep;obtain ⟨p5,c5,p6,c6,p7,c7,rfl,h8,h9,h10⟩:=xV hrep;refine xM 0 hat (cExpr x p5 c5 p6 c6 p7 c7) (vA (cExpr x p5 c5 p6 c6 p7 c7)) rfl<|wR zExpr ?_;intro b2 hb2;refine xE 0 (cExpr x p5 c5 p6 c6 p7 c7) [hB b2 (cExpr x p5 c5 p6 c6 p7 c7),hO zJ (vS p3 out c3) cs] rfl rfl rfl rfl<|yH rfl<|zM<|zQ<|yD 2 [0] [(19,vS p3 out c3),(20,vA (cExpr x p5 c5 p6 c6 p7 c7))]<|bE N fun y hy1 N=>xT (ih_impl_reads x _ hy1 h8 h9 h10) ?_;rintro I01 hs2 v2 k2 le1 - ⟨v03,rfl,rfl,h11⟩ -;have h2:=h2.mono le1;have h6:=iM le1 h6;have H:=H.trans le1;obtain ⟨p8,c8,rfl⟩:=h11.form;obtain ⟨ccs1,k0,k01⟩:=h11;have h11:SL I01 (vS p8 y c8) y:=⟨_,k0,k01⟩;obtain ⟨out2,hy2,N⟩:=zB N;exact pG 42 2 1 rfl rfl rfl h6 (.inl k0) k01 hy2 fun p9 c9 cs2 h12=>sU (yB [0,1] (hs':=[hB b2 (cExpr x p5 c5 p6 c6 p7 c7),hO zJ (vS p9 out2 c9) cs2]))<|yC [] [(3,vS p9 out2 c9)]<|zT<|zM<|zQ<|yC [] [(15,vI (W (t15 + 1)))]<|yY<|pK (yA [1] rfl (by decide))<|vE [(3,vS p9 out2 c9),(13,vS p2 e0.Kids c2),(14,vI (e0.Kids.length:Int)),(15,vI (W (t15 + 1)))]<|ih_impl_reads_l1 e0 out2 (W (t15 + 1)) _ N H h2 h12 hg ho hx
  intro hc1 N;exact vW<|yT [(3,vS p3 out c3)]<|hx _ _ _ _ _ (zC N).symm H h6
theorem zBu:∀ e0 r,nC e0=some r→∀ {I:Imm}{p c p1 c1 p2 c2},(S4 I p e0.Index.Coefs c)→(S4 I p1 e0.Read.Subs c1)→(S4 I p2 e0.Kids c2)→RT 52 [vA (cExpr e0 p c p1 c1 p2 c2)] I [] (zAk  r):=zFN.1
def tW (a0:zE) (n0:Int) (t9:Int):Option (Int):=do
 if (decide (t9 < (a0.Dims.length:Int))) then
  let x←idx a0.Dims t9
  tW a0 (W (n0 * x)) (W (t9 + 1))
 else
  pure (id n0)
 partial_fixpoint
theorem zAs (a0:zE):∀ (n0:Int) (t9:Int) (o:Int),tW a0 n0 t9=some o→∀ {B}{I0 I:Imm}{Q p c},I0.le I→(S4 I p a0.Dims c)→NG Q→NO Q→(∀ (I':Imm) (n01:Int),o=n01→I0.le I'→T 18 B Q (.exit 0) I' [] [(3,vI n01)])→J Tryz.prog 18 B (nav (bodyOf Tryz.f109) [1,1,0,1,0]) Q I [] [(3,vI n0),(7,vS p a0.Dims c),(8,vI (a0.Dims.length:Int)),(9,vI t9)]:=by
 refine tW.partial_correctness a0 _ fun self ih n0 t9 o N B I0 I Q p c H h hg ho hx=>yZ hg ho<|yF [(10,.bool (decide (t9 < (a0.Dims.length:Int))))]<|yI<|yL N ?_ ?_
 · intro hc N;refine zW<|yI<|yP<|yK<|bE N fun x hy N=>xS rfl rfl h hy ?_;intro ad ccs hat hrep;obtain rfl:=hrep;exact xM 0 hat [vI x] (vI x) rfl<|yC [] [(5,vI x)]<|zM<|zQ<|yC [] [(3,vI (W (n0 * x)))]<|zT<|zM<|zQ<|yC [] [(9,vI (W (t9 + 1)))]<|yY<|vE [(3,vI (W (n0 * x))),(7,vS p a0.Dims c),(8,vI (a0.Dims.length:Int)),(9,vI (W (t9 + 1)))]<|ih (W (n0 * x)) (W (t9 + 1)) _ N H h hg ho hx
 intro hc N;exact vW<|yT [(3,vI n0)]<|hx _ _ (zC N).symm H
def nD (a0:zE):Option (Int):=do
 let n01←tW a0 1 0
 pure (id n01)
theorem zCV:∀ a0 r,nD a0=some r→∀ {I:Imm}{p c},(S4 I p a0.Dims c)→RT 109 [vA (cArr a0 p c)] I [] (xJ  r):=by
 intro a0 r N I p c h;unfold nD at N;refine zY (fn:=Tryz.f109) (c:=(bodyOf Tryz.f109)) Tryz.func109 rfl rfl ?_;rintro B - -;refine yK<|uD (cArr a0 p c) ?_;intro b hb;refine yC [] []<|vH [(3,vI 1)]<|yI<|yK<|yC [0] [(7,vS p a0.Dims c),(8,vI (a0.Dims.length:Int)),(9,vI 0)]<|wO<|pK (yB [] (hs':=[]))<|vE [(3,vI 1),(7,vS p a0.Dims c),(8,vI (a0.Dims.length:Int)),(9,vI 0)] ?_;obtain ⟨o0,ho0,hMl⟩:=zB N;refine zAs a0 1 0 o0 ho0 iR h (fun _ _ _ h=>h) (fun _ _ h=>h) ?_;intro I0 n01 heq le;subst o0;refine zX<|vH [(2,vI n01)]<|zM<|yX ?_;obtain rfl:=zC hMl;exact wN
def tD (a0:zJ) (point:(List Int)) (x:zE) (at0:Int) (t40:Int):Option (Out Int (Int)):=do
 if (decide (t40 < (a0.Subs.length:Int))) then
  let x1←idx a0.Subs t40
  let y1←tC x1 point
  let x2←idx x.Dims t40
  let y2←wD y1 0 (W (x2 - 1))
  if (!y2) then
   pure (.ret (-1))
  else
   let x3←idx x.Dims t40
   tD a0 point x (W ((W (at0 * x3)) + y1)) (W (t40 + 1))
 else
  pure (.done at0)
 partial_fixpoint
theorem zAT (a0:zJ) (point:(List Int)) (x:zE):∀ (at0:Int) (t40:Int) (o:Out Int (Int)),tD a0 point x at0 t40=some o→∀ {B}{I0 I:Imm}{Q}{first:Int}{p3 c2 p4 c3 p5 c4}{b2:Nat},I0.le I→(S4 I p4 point c3)→(S4 I p3 a0.Subs c2)→(S4 I p5 x.Dims c4)→NG Q→NO Q→(∀ (I':Imm) (at01:Int),o=(.done at01)→I0.le I'→T 71 B Q (.exit 2) I' [] [(7,vI first),(10,vI at01)])→(∀ r I' hs' m',o=(.ret r)→I0.le I'→RS Tryz.prog Tryz.f56 B (xJ  r) I' hs' m'→T 71 B Q .ret I' hs' m')→J Tryz.prog 71 B (nav (bodyOf Tryz.f56) [1,1,0,1,0,0,1,1,0,0,1,1,1,1,0,1,0]) Q I [hB b2 (cArr x p5 c4)] [(2,vS p4 point c3),(7,vI first),(9,vP b2 0),(10,vI at0),(38,vS p3 a0.Subs c2),(39,vI (a0.Subs.length:Int)),(40,vI t40)]:=by
 refine tD.partial_correctness a0 point x _ fun self ih at0 t40 o N B I0 I Q first p3 c2 p4 c3 p5 c4 b2 H h3 h2 h4 hg ho hx hr=>yZ hg ho<|yF [(41,.bool (decide (t40 < (a0.Subs.length:Int))))]<|yI<|yL N ?_ ?_
 · intro hc3 N;refine zW<|yI<|yP<|yK<|yD 1 [] [(42,vI t40)]<|bE N fun x1 hy2 N=>xS rfl rfl h2 hy2 ?_;intro ad1 ccs1 hat1 hrep1;obtain ⟨p6,c5,rfl,h6⟩:=yN hrep1;refine xM 0 hat1 (cAff x1 p6 c5) (vA (cAff x1 p6 c5)) rfl<|wR [z0,vI 0] ?_;intro b3 hb3;refine yD 5 [] [(11,vI t40)]<|xE 0 (cAff x1 p6 c5) [hB b3 (cAff x1 p6 c5),hB b2 (cArr x p5 c4)] rfl rfl rfl rfl<|yH rfl<|xD<|yD 2 [0] [(45,vA (cAff x1 p6 c5)),(46,vS p4 point c3)]<|bE N fun y1 hy3 N=>gB (pZ x1 point _ hy3 h6 h3) ?_;intro I01 le1;have h3:=h3.mono le1;have h2:=h2.mono le1;have h4:=h4.mono le1;have H:=H.trans le1;refine yC [] [(13,vI y1)]<|yI<|yK<|yD 4 [1] [(48,vI y1),(50,vS p5 x.Dims c4),(51,vI t40)]<|bE N fun x2 hy4 N=>xS rfl rfl h4 hy4 ?_;intro ad2 ccs2 hat2 hrep2;obtain rfl:=hrep2;refine xM 0 hat2 [vI x2] (vI x2) rfl<|yD 7 [] [(54,vI (W (x2 - 1)))]<|bE N fun y2 hy5 N=>vJ (wF y1 0 (W (x2 - 1)) _ hy5 ) ?_;intro I02 le2;have h3:=h3.mono le2;have h2:=h2.mono le2;have h4:=h4.mono le2;have H:=H.trans le2;refine yC [] [(56,.bool (!y2))]<|zM<|yL N ?_ ?_
   · intro hc4 N;exact yF [(6,vI (-1))]<|xG<|zH<|zZ<|zH<|zH<|hr _ _ _ _ (zC N).symm H ⟨_,_,(.tmp rfl ResV.nil),zR,⟨_,rfl,rfl,rfl⟩⟩
   intro hc4 N;refine zW<|zM<|zQ<|yD 4 [1] [(57,vI at0),(59,vS p5 x.Dims c4),(60,vI t40)]<|bE N fun x3 hy6 N=>xS rfl rfl h4 hy6 ?_;intro ad3 ccs3 hat3 hrep3;obtain rfl:=hrep3;exact xM 0 hat3 [vI x3] (vI x3) rfl<|yC [] [(10,vI (W ((W (at0 * x3)) + y1)))]<|zT<|zM<|zQ<|yC [] [(40,vI (W (t40 + 1)))]<|yY<|pK (yA [1] rfl (by decide))<|vE [(2,vS p4 point c3),(7,vI first),(9,vP b2 0),(10,vI (W ((W (at0 * x3)) + y1))),(38,vS p3 a0.Subs c2),(39,vI (a0.Subs.length:Int)),(40,vI (W (t40 + 1)))]<|ih (W ((W (at0 * x3)) + y1)) (W (t40 + 1)) _ N H h3 h2 h4 hg ho hx hr
 intro hc3 N;exact vW<|xU zR<|yT [(7,vI first),(10,vI at0)]<|hx _ _ (zC N).symm H
def vV (p:zK) (a0:zJ) (point:(List Int)) (first:Int) (t17:Int):Option (Out Unit (Int)):=do
 if (decide (t17 < (p.Arrays.length:Int))) then
  let x←idx p.Arrays t17
  if (!(x.Name.l == a0.Array.l)) then
   let y←nD x
   vV p a0 point (W (first + y)) (W (t17 + 1))
  else
   if ((a0.Subs.length:Int) != (x.Dims.length:Int)) then
    pure (.ret (-1))
   else
    match←tD a0 point x 0 0 with
    | .ret r0=>pure (.ret r0)
    | .done at01 =>
     pure (.ret (W (first + at01)))
 else
  pure (.done ())
 partial_fixpoint
theorem zAU (p:zK) (a0:zJ) (point:(List Int)):∀ (first:Int) (t17:Int) (o:Out Unit (Int)),vV p a0 point first t17=some o→∀ {B}{I0 I:Imm}{Q p1 c p3 c2 p4 c3}{b1:Nat},I0.le I→(S4 I p4 point c3)→(S4 I p1 p.Arrays c)→(S4 I p3 a0.Subs c2)→NG Q→NO Q→(∀ (I':Imm) ,o=(.done ())→I0.le I'→T 71 B Q (.exit 0) I' [] [])→(∀ r I' hs' m',o=(.ret r)→I0.le I'→RS Tryz.prog Tryz.f56 B (xJ  r) I' hs' m'→T 71 B Q .ret I' hs' m')→J Tryz.prog 71 B (nav (bodyOf Tryz.f56) [1,1,0,1,0]) Q I [hB b1 (cAccess a0 p3 c2)] [(2,vS p4 point c3),(4,vP b1 0),(7,vI first),(15,vS p1 p.Arrays c),(16,vI (p.Arrays.length:Int)),(17,vI t17)]:=by
 refine vV.partial_correctness p a0 point _ fun self ih first t17 o N B I0 I Q p1 c p3 c2 p4 c3 b1 H h3 h h2 hg ho hx hr=>yZ hg ho<|yF [(18,.bool (decide (t17 < (p.Arrays.length:Int))))]<|yI<|yL N ?_ ?_
 · intro hc N;refine zW<|yI<|yP<|yK<|bE N fun x hy N=>xS rfl rfl h hy ?_;intro ad ccs hat hrep;obtain ⟨p5,c4,rfl,h4⟩:=wH hrep;refine xM 0 hat (cArr x p5 c4) (vA (cArr x p5 c4)) rfl<|wR [vT ([]),z0] ?_;intro b2 hb2;refine xE 0 (cArr x p5 c4) [hB b2 (cArr x p5 c4),hB b1 (cAccess a0 p3 c2)] rfl rfl rfl rfl<|yH rfl<|yI<|yK<|yC [0,1] [(25,.bool (!(x.Name.l == a0.Array.l)))]<|zM<|yL N ?_ ?_
   · intro hc1 N;refine yK<|yD 2 [0] [(26,vI first),(27,vA (cArr x p5 c4))]<|bE N fun y hy1 N=>gB (zCV x _ hy1 h4) ?_;intro I0 le;have h3:=h3.mono le;have h:=h.mono le;have h2:=h2.mono le;have H:=H.trans le;exact yC [] [(7,vI (W (first + y)))]<|zM<|zEj<|kJ<|zX<|zM<|zQ<|yC [] [(17,vI (W (t17 + 1)))]<|yY<|pK (yA [1] rfl (by decide))<|vE [(2,vS p4 point c3),(4,vP b1 0),(7,vI (W (first + y))),(15,vS p1 p.Arrays c),(16,vI (p.Arrays.length:Int)),(17,vI (W (t17 + 1)))]<|ih (W (first + y)) (W (t17 + 1)) _ N H h3 h h2 hg ho hx hr
   intro hc1 N;refine zW<|yI<|yK<|yC [1,0] [(36,.bool ((a0.Subs.length:Int) != (x.Dims.length:Int)))]<|zM<|yL N ?_ ?_
   · intro hc2 N;exact yF [(6,vI (-1))]<|xG<|zH<|zZ<|zH<|zH<|hr _ _ _ _ (zC N).symm H ⟨_,_,(.tmp rfl ResV.nil),zR,⟨_,rfl,rfl,rfl⟩⟩
   intro hc2 N;refine zW<|vH [(10,vI 0)]<|yI<|yK<|yC [1] [(38,vS p3 a0.Subs c2),(39,vI (a0.Subs.length:Int)),(40,vI 0)]<|wO<|pK (yB [0] (hs':=[hB b2 (cArr x p5 c4)]))<|vE [(2,vS p4 point c3),(7,vI first),(9,vP b2 0),(10,vI 0),(38,vS p3 a0.Subs c2),(39,vI (a0.Subs.length:Int)),(40,vI 0)] ?_;obtain ⟨o0,ho0,hMl⟩:=zB N;refine zAT a0 point x 0 0 o0 ho0 iR h3 h2 h4 (fun _ _ _ h=>hg _ _ _ h) (fun _ _ h=>ho _ _ h) ?_ ?_
   · intro I03 at01 heq le3;subst o0;have H:=H.trans le3;exact zX<|vH [(6,vI (W (first + at01)))]<|xG<|zZ<|zH<|zH<|hr _ _ _ _ (zC hMl).symm H ⟨_,_,(.tmp rfl ResV.nil),zR,⟨_,rfl,rfl,rfl⟩⟩
   intro r0 I9 hs9 m9 heq9 le9 hrs9;subst heq9;exact zZ<|zH<|zZ<|zH<|zH<|hr _ _ _ _ (zC hMl).symm (H.trans le9) hrs9
 intro hc N;exact vW<|xU zR<|yT []<|hx _  (zC N).symm H
def qF (p:zK) (a0:zJ) (point:(List Int)):Option (Int):=do
 match←vV p a0 point 0 0 with
 | .ret r0=>pure r0
 | .done _ =>
  pure (-1)
theorem fG:∀ p a0 point r,qF p a0 point=some r→∀ {I:Imm}{p1 c p2 c1 p3 c2 p4 c3},(S4 I p1 p.Arrays c)→(S4 I p2 p.Parts c1)→(S4 I p3 a0.Subs c2)→(S4 I p4 point c3)→RT 56 [vA (cProg p p1 c p2 c1),vA (cAccess a0 p3 c2),vS p4 point c3] I [] (xJ  r):=by
 intro p a0 point r N I p1 c p2 c1 p3 c2 p4 c3 h h1 h2 h3;unfold qF at N;refine zY (fn:=Tryz.f56) (c:=(bodyOf Tryz.f56)) Tryz.func56 rfl rfl ?_;rintro B - -;refine yK<|uD (cProg p p1 c p2 c1) ?_;intro b hb;refine uD (cAccess a0 p3 c2) ?_;intro b1 hb1;refine yC [] []<|vH [(7,vI 0)]<|yI<|yK<|yC [1] [(15,vS p1 p.Arrays c),(16,vI (p.Arrays.length:Int)),(17,vI 0)]<|wO<|pK (yB [0] (hs':=[hB b1 (cAccess a0 p3 c2)]))<|vE [(2,vS p4 point c3),(4,vP b1 0),(7,vI 0),(15,vS p1 p.Arrays c),(16,vI (p.Arrays.length:Int)),(17,vI 0)] ?_;obtain ⟨o01,ho01,hMl1⟩:=zB N;refine zAU p a0 point 0 0 o01 ho01 iR h3 h h2 (fun _ _ _ h=>h) (fun _ _ h=>h) ?_ ?_
 · intro I04  heq1 le4;subst o01;refine zX<|vH [(6,vI (-1))]<|zM<|yX ?_;obtain rfl:=zC hMl1;exact wN
 intro r0 I9 hs9 m9 heq9 le9 hrs9;subst heq9;refine zZ<|zH ?_;obtain rfl:=zC hMl1;exact xC hrs9
def rF (hsF:List HA) (r:Int):KT:=fun kk I' hs' v=>
  ∃ v0,hsF=hs'∧v=tupV [v0]∧v0=.int .i64 r
def xB (s:(List zJ)) (f0:(zJ→Option Bool)) (t8:Int):Option (Out Unit (Int)):=do
 if (decide (t8 < (s.length:Int))) then
  let x←idx s t8
  let y←f0 x
  if y then
   pure (.ret t8)
  else
   xB s f0 (W (t8 + 1))
 else
  pure (.done ())
 partial_fixpoint
theorem nP (s:(List zJ)) (f0:(zJ→Option Bool)):∀ (t8:Int) (o:Out Unit (Int)),xB s f0 t8=some o→∀ {B}{I0 I:Imm}{Q p c}{fv:Value}{hsF:List HA},I0.le I→(S4 I p s c)→(FV1 Tryz.prog I hsF fv f0)→NG Q→NO Q→(∀ (I':Imm) ,o=(.done ())→I0.le I'→T 19 B Q (.exit 0) I' hsF [])→(∀ r I' hs' m',o=(.ret r)→I0.le I'→RS Tryz.prog Tryz.f165 B (rF hsF r) I' hs' m'→T 19 B Q .ret I' hs' m')→J Tryz.prog 19 B (nav (bodyOf Tryz.f165) [1,0,1,0]) Q I hsF [(0,vS p s c),(1,fv),(7,vI (s.length:Int)),(8,vI t8)]:=by
 refine xB.partial_correctness s f0 _ fun self ih t8 o N B I0 I Q p c fv hsF H h h1 hg ho hx hr=>yZ hg ho<|yF [(9,.bool (decide (t8 < (s.length:Int))))]<|yI<|yL N ?_ ?_
 · intro hc N;refine zW<|yI<|yP<|yF [(5,vI t8)]<|xD<|yD 3 [] [(11,fv),(12,vS p s c),(13,vI t8)]<|bE N fun x hy N=>xS rfl rfl h hy ?_;intro ad ccs hat hrep;obtain ⟨p1,c1,rfl,h2⟩:=pM hrep;refine xM 0 hat (cAccess x p1 c1) (vA (cAccess x p1 c1)) rfl<|bE N fun y hy1 N=>zID rfl rfl h1 hy1 ⟨_,rfl,(oF ⟨_,rfl,h2⟩)⟩ (List.append_nil _).symm ?_;rintro I0 v01 le rfl;refine uC (hs':=hsF) (List.append_nil _) ?_;have h:=h.mono le;have h1:=h1.mono le;have H:=H.trans le;refine yH rfl<|zM<|yL N ?_ ?_
   · intro hc1 N;exact yF [(4,vI t8)]<|xG<|zZ<|zH<|zH<|hr _ _ _ _ (zC N).symm H ⟨_,_,(.tmp rfl ResV.nil),(fun _ h=>h),⟨_,rfl,rfl,rfl⟩⟩
   intro hc1 N;exact zW<|zT<|zM<|zQ<|yC [] [(8,vI (W (t8 + 1)))]<|yY<|vE [(0,vS p s c),(1,fv),(7,vI (s.length:Int)),(8,vI (W (t8 + 1)))]<|ih (W (t8 + 1)) _ N H h h1 hg ho hx hr
 intro hc N;exact vW<|yT []<|hx _  (zC N).symm H
def wV (s:(List zJ)) (f0:(zJ→Option Bool)):Option (Int):=do
 match←xB s f0 0 with
 | .ret r0=>pure r0
 | .done _ =>
  pure (-1)
theorem mI:∀ s f0 r,wV s f0=some r→∀ {I:Imm}{p c}{fv:Value}{hsF:List HA},(S4 I p s c)→(FV1 Tryz.prog I hsF fv f0)→RT 165 [vS p s c,fv] I hsF (rF hsF r):=by
 intro s f0 r N I p c fv hsF h h1;unfold wV at N;refine zY (fn:=Tryz.f165) (c:=(bodyOf Tryz.f165)) Tryz.func165 rfl rfl ?_;rintro B - -;refine yF []<|yI<|yF [(7,vI (s.length:Int)),(8,vI 0)]<|wO<|vE [(0,vS p s c),(1,fv),(7,vI (s.length:Int)),(8,vI 0)] ?_;obtain ⟨o0,ho0,hMl⟩:=zB N;refine nP s f0 0 o0 ho0 iR h h1 (fun _ _ _ h=>h) (fun _ _ h=>h) ?_ ?_
 · intro I01  heq le1;subst o0;refine zX<|vH [(4,vI (-1))]<|zM<|yX ?_;obtain rfl:=zC hMl;exact xC ⟨_,_,(.tmp rfl ResV.nil),(fun _ h=>h),⟨_,rfl,rfl,rfl⟩⟩
 intro r0 I9 hs9 m9 heq9 le9 hrs9;subst heq9;refine zZ<|zH ?_;obtain rfl:=zC hMl;exact xC hrs9
def oQ (hsF:List HA) (r:Bool):KT:=fun kk I' hs' v=>
  ∃ v0,hsF=hs'∧v=tupV [v0]∧v0=.bool r
def xO (s:(List zJ)) (f0:(zJ→Option Bool)):Option (Bool):=do
 let y←wV s f0
 pure (decide (y ≥ 0))
theorem rA:∀ s f0 r,xO s f0=some r→∀ {I:Imm}{p c}{fv:Value}{hsF:List HA},(S4 I p s c)→(FV1 Tryz.prog I hsF fv f0)→RT 123 [vS p s c,fv] I hsF (oQ hsF r):=by
 intro s f0 r N I p c fv hsF h h1;unfold xO at N;refine zY (fn:=Tryz.f123) (c:=(bodyOf Tryz.f123)) Tryz.func123 rfl rfl ?_;rintro B - -;refine yF []<|xD<|yD 2 [] [(5,vS p s c),(6,fv)]<|bE N fun y hy N=>zD1 (hs1:=hsF) (rest:=[]) rfl rfl rfl rfl (by kernel_rfl) rfl (List.append_nil _).symm (mI s f0 _ hy h h1) ?_;rintro I0 hs2 v2 k2 le - ⟨v0,rfl,rfl,rfl⟩ -;refine uC (hs':=hsF) (List.append_nil _) ?_;refine yC [] [(4,.bool (decide (y ≥ 0)))]<|zM<|yX ?_;obtain rfl:=zC N;exact xC ⟨_,_,(.tmp rfl ResV.nil),(fun _ h=>h),⟨_,rfl,rfl,rfl⟩⟩
def uR (a0:zJ) (x:zK) (x1:(List Int)):Option (Bool):=do
 let y←qF x a0 x1
 pure (decide (y < 0))
theorem dW:∀ a0 x x1 r,uR a0 x x1=some r→∀ {I:Imm}{p c}{ad:Addr}{p1 c1 p2 c2}{ad1:Addr}{p3 c3},(S4 I p a0.Subs c)→(S4 I p1 x.Arrays c1)→(S4 I p2 x.Parts c2)→(At I ad (cProg x p1 c1 p2 c2))→(S4 I p3 x1 c3)→(At I ad1 [vS p3 x1 c3])→RT 162 [vA (cAccess a0 p c),.pointer (some ad),.pointer (some ad1)] I [] (zU  r):=by
 intro a0 x x1 r N I p c ad p1 c1 p2 c2 ad1 p3 c3 h h1 h2 hat h3 hat1;unfold uR at N;refine zY (fn:=Tryz.f162) (c:=(bodyOf Tryz.f162)) Tryz.func162 rfl rfl ?_;rintro B - -;refine yK<|uD (cAccess a0 p c) ?_;intro b hb;refine yC [] []<|xD<|xM 0 hat (cProg x p1 c1 p2 c2) (vA (cProg x p1 c1 p2 c2)) rfl<|yD 2 [0] [(6,vA (cAccess a0 p c))]<|xM 0 hat1 [vS p3 x1 c3] (vS p3 x1 c3) rfl<|bE N fun y hy N=>gB (fG x a0 x1 _ hy h1 h2 h h3) fun I0 le=>yC [] [(4,.bool (decide (y < 0)))]<|zM<|yX ?_;obtain rfl:=zC N;exact wN
def qM (p:zK) (s:zI) (point:(List Int)):Option (Bool):=do
 let t6←(do
   let y←qF p s.Write point
   if (decide (y ≥ 0)) then
    let y1←nC s.Value
    let y2←xO y1 (fun x0=>uR x0 p point)
    pure (!y2)
   else
    pure false
     : Option Bool)
 pure (id t6)
theorem zA9:∀ p s point r,qM p s point=some r→∀ {I:Imm}{p1 c p2 c1 p3 c2 p4 c3 p5 c4 p6 c5 p7 c6},(S4 I p1 p.Arrays c)→(S4 I p2 p.Parts c1)→(S4 I p3 s.Write.Subs c2)→(S4 I p4 s.Value.Index.Coefs c3)→(S4 I p5 s.Value.Read.Subs c4)→(S4 I p6 s.Value.Kids c5)→(S4 I p7 point c6)→RT 120 [vA (cProg p p1 c p2 c1),vA (cStmt s p3 c2 p4 c3 p5 c4 p6 c5),vS p7 point c6] I [] (zU  r):=by
 intro p s point r N I p1 c p2 c1 p3 c2 p4 c3 p5 c4 p6 c5 p7 c6 h h1 h2 h3 h4 h5 h6;unfold qM at N;refine zY (fn:=Tryz.f120) (c:=(bodyOf Tryz.f120)) Tryz.func120 rfl rfl ?_;rintro B - -;have H:=iS I;refine yK<|uD (cProg p p1 c p2 c1) ?_;intro b hb;refine yJ 0 rfl ?_;intro I0 le hl0;have hat:At I0 ⟨b,0,none⟩ (cProg p p1 c p2 c1):=At.of_blk hl0;have h:=h.mono le;have h1:=h1.mono le;have h2:=h2.mono le;have h3:=h3.mono le;have h4:=h4.mono le;have h5:=h5.mono le;have h6:=h6.mono le;have H:=H.trans le;refine uD (cStmt s p3 c2 p4 c3 p5 c4 p6 c5) ?_;intro b1 hb1;refine uD [vS p7 point c6] ?_;intro b2 hb2;refine yJ 0 rfl ?_;intro I01 le1 hl01;have hat1:At I01 ⟨b2,0,none⟩ [vS p7 point c6]:=At.of_blk hl01;have h:=h.mono le1;have h1:=h1.mono le1;have h2:=h2.mono le1;have h3:=h3.mono le1;have h4:=h4.mono le1;have h5:=h5.mono le1;have h6:=h6.mono le1;have hat:=hat.mono le1;have H:=H.trans le1;refine yC [] []<|zM<|yG ?_;obtain ⟨o0,ho0,hMc⟩:=zB N;refine yU (fun I' hs' m'=>∃ (t6:Bool),o0=t6∧I01.le I'∧hs'=[]∧m'=[(6,.bool t6)]) ?_ ?_
 · have H:=iS I01;refine zQ<|xM 0 hat (cProg p p1 c p2 c1) (vA (cProg p p1 c p2 c1)) rfl<|yD 3 [0] [(9,vA (cAccess s.Write p3 c2))]<|xM 0 hat1 [vS p7 point c6] (vS p7 point c6) rfl ?_;obtain ⟨y,hy,N⟩:=zB ho0;refine gB (fG p s.Write point _ hy h h1 h2 h6) ?_;intro I03 le2;have h:=h.mono le2;have h1:=h1.mono le2;have hat:=hat.mono le2;have h6:=h6.mono le2;have hat1:=hat1.mono le2;have h3:=h3.mono le2;have h4:=h4.mono le2;have h5:=h5.mono le2;have H:=H.trans le2;refine yD 7 [] [(13,.bool (decide (y ≥ 0)))] ?_;cases hc:(decide (y ≥ 0)) with
   | true =>
    have hM0:=zP hc N
    try rw [hc]
    refine yD 9 [0] [(15,vA (cExpr s.Value p4 c3 p5 c4 p6 c5))] ?_;obtain ⟨y1,hy1,N⟩:=zB hM0;refine xT (zBu s.Value _ hy1 h3 h4 h5) ?_;rintro I04 hs2 v2 k2 le3 - ⟨v01,rfl,rfl,h8⟩ -;have h:=h.mono le3;have h1:=h1.mono le3;have hat:=hat.mono le3;have h6:=h6.mono le3;have hat1:=hat1.mono le3;have H:=H.trans le3;obtain ⟨p8,c7,rfl⟩:=h8.form;refine yD 11 [] [(17,.func (.func 162) ⟨[]⟩ ⟨[vP b 0,vP b2 0]⟩)] ?_;have hf0:FV1 Tryz.prog I04 [] (.func (.func 162) ⟨[]⟩ ⟨[vP b 0,vP b2 0]⟩) (fun x0=>uR x0 p point):=by
      refine FV1.intro ?_;intro I1 le1 x0 r u0 hF k0;obtain ⟨_,rfl,k0⟩:=k0;obtain ⟨p9,c8,rfl,h9⟩:=pM k0;exact (dW x0 p point r hF h9 (h.mono le1) (h1.mono le1) (hat.mono le1) (h6.mono le1) (hat1.mono le1)).mono (by rintro k i hs u ⟨v0,rfl,rfl,h⟩; exact ⟨rfl,h⟩)
    obtain ⟨y2,hy2,N⟩:=zB N;refine xT (rA y1 (fun x0=>uR x0 p point) _ hy2 h8 hf0) ?_;rintro I05 hs2 v2 k2 le4 - ⟨v03,rfl,rfl,rfl⟩ -;have H:=H.trans le4;exact yC [] [(6,.bool (!y2))]<|xU zR<|yT [(6,.bool (!y2))]<|zV (ct N H)
   | false =>
    have hM01:=zL hc N
    try rw [hc]
    exact yC [] [(6,vF)]<|xU zR<|yT [(6,vF)]<|zV (ct hM01 H)
 rintro I02 hs2 m2 ⟨t6,heq,le5,rfl,rfl⟩;subst o0;refine zM<|yX ?_;obtain rfl:=zC hMc;exact wN
def rP (r:(List zS)×Bool):KT:=fun kk I' hs' v=>
  ∃ v0 v1,hs'=[]∧v=tupV [v0,v1]∧SL I' v0 r.1∧v1=.bool r.2
def wW (p:zK) (t26:Int) (x:zN) (x1:(List Int)) (out4:List zS) (t64:Int):Option (Out (List zS) ((List zS)×Bool)):=do
 if (decide (t64 < (x.Body.length:Int))) then
  let x2←idx x.Body t64
  let y7←qM p x2 x1
  if (!y7) then
   pure (.ret (([]:List zS),false))
  else
   let y8←sH x1
   let out6←app 40 out4 ([(zS.mk t26 t64 y8)]:List zS)
   wW p t26 x x1 out6 (W (t64 + 1))
 else
  pure (.done out4)
 partial_fixpoint
theorem fL (p:zK) (t26:Int) (x:zN) (x1:(List Int)):∀ (out4:List zS) (t64:Int) (o:Out (List zS) ((List zS)×Bool)),wW p t26 x x1 out4 t64=some o→∀ {B}{I0 I:Imm}{Q}{y2:(List (List Int))}{t54:Int}{p1 c p2 c1}{b:Nat}{p5 c4 p6 c5}{b1:Nat}{p7 c6 p14 c13 p15 c14 cs4},I0.le I→(S4 I p5 x.Nest c4)→(S4 I p6 x.Body c5)→(At I ⟨b1,0,none⟩ (cPart x p5 c4 p6 c5))→(S4 I p14 x1 c13)→(S4 I p2 p.Parts c1)→(S4 I p7 y2 c6)→(S4 I p1 p.Arrays c)→(RL I cs4 out4)→NG Q→NO Q→(∀ (I':Imm) (out5:List zS) (p16:Option Addr) (c15:Nat) (cs5:List Value),o=(.done out5)→I0.le I'→(RL I' cs5 out5)→T 89 B Q (.exit 4) I' [hO zS (vS p16 out5 c15) cs5,hB b (cProg p p1 c p2 c1)] [(1,vP b 0),(4,vS p16 out5 c15),(5,vI t26),(6,vP b1 0),(24,vS p2 p.Parts c1),(25,vI (p.Parts.length:Int)),(26,vI t26),(52,vS p7 y2 c6),(53,vI (y2.length:Int)),(54,vI t54)])→(∀ r I' hs' m',o=(.ret r)→I0.le I'→RS Tryz.prog Tryz.f67 B (rP  r) I' hs' m'→T 89 B Q .ret I' hs' m')→J Tryz.prog 89 B (nav (bodyOf Tryz.f67) [1,1,1,0,1,0,0,1,1,0,0,1,1,1,1,0,0,1,1,0,0,1,1,1,0]) Q I [hO zS (vS p15 out4 c14) cs4,hB b (cProg p p1 c p2 c1)] [(1,vP b 0),(4,vS p15 out4 c14),(5,vI t26),(6,vP b1 0),(10,vS p14 x1 c13),(24,vS p2 p.Parts c1),(25,vI (p.Parts.length:Int)),(26,vI t26),(52,vS p7 y2 c6),(53,vI (y2.length:Int)),(54,vI t54),(62,vS p6 x.Body c5),(63,vI (x.Body.length:Int)),(64,vI t64)]:=by
 refine wW.partial_correctness p t26 x x1 _ fun self ih out4 t64 o N B I0 I Q y2 t54 p1 c p2 c1 b p5 c4 p6 c5 b1 p7 c6 p14 c13 p15 c14 cs4 H h6 h7 hat1 h18 h1 h8 h h20 hg ho hx hr=>yZ hg ho<|yF [(65,.bool (decide (t64 < (x.Body.length:Int))))]<|yI<|yL N ?_ ?_
 · intro hc8 N;refine zW<|yI<|yP<|yK<|yD 1 [] [(66,vI t64)]<|bE N fun x2 hy7 N=>xS rfl rfl h7 hy7 ?_;intro ad2 ccs2 hat3 hrep2;obtain ⟨p17,c16,p18,c17,p19,c18,p20,c19,rfl,h22,h23,h24,h25⟩:=tQ hrep2;refine xM 0 hat3 (cStmt x2 p17 c16 p18 c17 p19 c18 p20 c19) (vA (cStmt x2 p17 c16 p18 c17 p19 c18 p20 c19)) rfl<|wR [vT ([]),z0,vI 0,vI 0,z0,vI 0,vT ([]),z0,z0] ?_;intro b2 hb2;refine yD 5 [] [(11,vI t64)]<|xE 0 (cStmt x2 p17 c16 p18 c17 p19 c18 p20 c19) [hB b2 (cStmt x2 p17 c16 p18 c17 p19 c18 p20 c19),hO zS (vS p15 out4 c14) cs4,hB b (cProg p p1 c p2 c1)] rfl rfl rfl rfl<|yH rfl<|yI<|yK<|yD 3 [2,0] [(69,vA (cProg p p1 c p2 c1)),(70,vA (cStmt x2 p17 c16 p18 c17 p19 c18 p20 c19)),(71,vS p14 x1 c13)]<|bE N fun y7 hy8 N=>vJ (zA9 p x2 x1 _ hy8 h h1 h22 h23 h24 h25 h18) ?_;intro I08 le8;have h20:=iM le8 h20;have h6:=h6.mono le8;have h7:=h7.mono le8;have hat1:=hat1.mono le8;have h18:=h18.mono le8;have h1:=h1.mono le8;have h8:=h8.mono le8;have h:=h.mono le8;have H:=H.trans le8;refine yC [] [(73,.bool (!y7))]<|zM<|yL N ?_ ?_
   · intro hc9 N;exact yF [(2,z0),(3,vF)]<|xG<|zH<|zZ<|zH<|zH<|hr _ _ _ _ (zC N).symm H ⟨_,_,(.tmp rfl (.tmp rfl ResV.nil)),zR,⟨_,_,rfl,rfl,(SL.nil _),rfl⟩⟩
   intro hc9 N;refine zW<|zM<|zQ<|yD 4 [] [(74,vS p15 out4 c14),(75,vI t26),(76,vI t64),(77,vS p14 x1 c13)]<|bE N fun y8 hy9 N=>xT (mC x1 _ hy9 h18) ?_;rintro I09 hs2 v2 k2 le9 - ⟨p21,c20,cs6,rfl,rfl,h27⟩ -;have h6:=h6.mono le9;have h7:=h7.mono le9;have hat1:=hat1.mono le9;have h18:=h18.mono le9;have h1:=h1.mono le9;have h8:=h8.mono le9;have h20:=iM le9 h20;have h:=h.mono le9;have H:=H.trans le9;refine yD 6 [] [(79,vA [vI t26,vI t64,vS p21 y8 c20])]<|yJ 0 rfl ?_;intro I010 le10 hl01;have h28:=SL.of_frozen hl01 le10 h27;have h6:=h6.mono le10;have h7:=h7.mono le10;have hat1:=hat1.mono le10;have h18:=h18.mono le10;have h1:=h1.mono le10;have h8:=h8.mono le10;have h20:=iM le10 h20;have h:=h.mono le10;have H:=H.trans le10;refine xY [vI t26,vI t64,vS p21 y8 c20] zS ?_;intro b3 hb3;have h29:RL I010 [vI t26,vI t64,vS p21 y8 c20] ([(zS.mk t26 t64 y8)]:List zS):=⟨[vI t26,vI t64,vS p21 y8 c20],_,rfl,rfl,(eA ⟨_,rfl,h28⟩),rfl⟩;obtain ⟨out6,hy10,N⟩:=zB N;exact pG 29 3 2 rfl rfl rfl h20 (.inr ⟨0,rfl⟩) h29 hy10 fun p22 c21 cs7 h30=>sU (yB [1,2,3] (hs':=[hB b2 (cStmt x2 p17 c16 p18 c17 p19 c18 p20 c19),hO zS (vS p22 out6 c21) cs7,hB b (cProg p p1 c p2 c1)]))<|yC [] [(4,vS p22 out6 c21)]<|zT<|zM<|zQ<|yC [] [(64,vI (W (t64 + 1)))]<|yY<|pK (yA [1,2] rfl (by decide))<|vE [(1,vP b 0),(4,vS p22 out6 c21),(5,vI t26),(6,vP b1 0),(10,vS p14 x1 c13),(24,vS p2 p.Parts c1),(25,vI (p.Parts.length:Int)),(26,vI t26),(52,vS p7 y2 c6),(53,vI (y2.length:Int)),(54,vI t54),(62,vS p6 x.Body c5),(63,vI (x.Body.length:Int)),(64,vI (W (t64 + 1)))]<|ih out6 (W (t64 + 1)) _ N H h6 h7 hat1 h18 h1 h8 h h30 hg ho hx hr
 intro hc8 N;exact vW<|yT [(1,vP b 0),(4,vS p15 out4 c14),(5,vI t26),(6,vP b1 0),(24,vS p2 p.Parts c1),(25,vI (p.Parts.length:Int)),(26,vI t26),(52,vS p7 y2 c6),(53,vI (y2.length:Int)),(54,vI t54)]<|hx _ _ _ _ _ (zC N).symm H h20
def wX (p:zK) (t26:Int) (x:zN) (y2:(List (List Int))) (out2:List zS) (t54:Int):Option (Out (List zS) ((List zS)×Bool)):=do
 if (decide (t54 < (y2.length:Int))) then
  let x1←idx y2 t54
  let y6←kW x1
  if (!y6) then
   pure (.ret (([]:List zS),false))
  else
   match←wW p t26 x x1 out2 0 with
   | .ret r0=>pure (.ret r0)
   | .done out5 =>
    wX p t26 x y2 out5 (W (t54 + 1))
 else
  pure (.done out2)
 partial_fixpoint
theorem fM (p:zK) (t26:Int) (x:zN) (y2:(List (List Int))):∀ (out2:List zS) (t54:Int) (o:Out (List zS) ((List zS)×Bool)),wX p t26 x y2 out2 t54=some o→∀ {B}{I0 I:Imm}{Q p1 c p2 c1}{b:Nat}{p5 c4 p6 c5}{b1:Nat}{p7 c6 p12 c11 cs2},I0.le I→(S4 I p5 x.Nest c4)→(S4 I p6 x.Body c5)→(At I ⟨b1,0,none⟩ (cPart x p5 c4 p6 c5))→(S4 I p2 p.Parts c1)→(S4 I p7 y2 c6)→(S4 I p1 p.Arrays c)→(RL I cs2 out2)→NG Q→NO Q→(∀ (I':Imm) (out3:List zS) (p13:Option Addr) (c12:Nat) (cs3:List Value),o=(.done out3)→I0.le I'→(RL I' cs3 out3)→T 89 B Q (.exit 2) I' [hO zS (vS p13 out3 c12) cs3,hB b (cProg p p1 c p2 c1)] [(1,vP b 0),(4,vS p13 out3 c12),(24,vS p2 p.Parts c1),(25,vI (p.Parts.length:Int)),(26,vI t26)])→(∀ r I' hs' m',o=(.ret r)→I0.le I'→RS Tryz.prog Tryz.f67 B (rP  r) I' hs' m'→T 89 B Q .ret I' hs' m')→J Tryz.prog 89 B (nav (bodyOf Tryz.f67) [1,1,1,0,1,0,0,1,1,0,0,1,1,1,1,0]) Q I [hO zS (vS p12 out2 c11) cs2,hB b (cProg p p1 c p2 c1)] [(1,vP b 0),(4,vS p12 out2 c11),(5,vI t26),(6,vP b1 0),(24,vS p2 p.Parts c1),(25,vI (p.Parts.length:Int)),(26,vI t26),(52,vS p7 y2 c6),(53,vI (y2.length:Int)),(54,vI t54)]:=by
 refine wX.partial_correctness p t26 x y2 _ fun self ih out2 t54 o N B I0 I Q p1 c p2 c1 b p5 c4 p6 c5 b1 p7 c6 p12 c11 cs2 H h6 h7 hat1 h1 h8 h h16 hg ho hx hr=>yZ hg ho<|yF [(55,.bool (decide (t54 < (y2.length:Int))))]<|yI<|yL N ?_ ?_
 · intro hc6 N;refine zW<|yI<|yP<|yK<|bE N fun x1 hy5 N=>xS rfl rfl h8 hy5 ?_;intro ad1 ccs1 hat2 hrep1;obtain ⟨v011,rfl,h18⟩:=hrep1;obtain ⟨p14,c13,rfl⟩:=h18.form;refine xM 0 hat2 [vS p14 x1 c13] (vS p14 x1 c13) rfl<|yC [] [(10,vS p14 x1 c13)]<|yI<|yK<|yD 1 [] [(58,vS p14 x1 c13)]<|bE N fun y6 hy6 N=>vJ (zE0 x1 _ hy6 h18) ?_;intro I07 le7;have h16:=iM le7 h16;have h6:=h6.mono le7;have h7:=h7.mono le7;have hat1:=hat1.mono le7;have h18:=h18.mono le7;have h1:=h1.mono le7;have h8:=h8.mono le7;have h:=h.mono le7;have H:=H.trans le7;refine yC [] [(60,.bool (!y6))]<|zM<|yL N ?_ ?_
   · intro hc7 N;exact yF [(2,z0),(3,vF)]<|xG<|zH<|zZ<|zH<|zH<|hr _ _ _ _ (zC N).symm H ⟨_,_,(.tmp rfl (.tmp rfl ResV.nil)),zR,⟨_,_,rfl,rfl,(SL.nil _),rfl⟩⟩
   intro hc7 N;refine zW<|xD<|yD 1 [] [(61,vP b1 1)]<|xM 1 hat1 [vS p6 x.Body c5] (vS p6 x.Body c5) rfl<|yC [] [(63,vI (x.Body.length:Int)),(64,vI 0)]<|wO<|vE [(1,vP b 0),(4,vS p12 out2 c11),(5,vI t26),(6,vP b1 0),(10,vS p14 x1 c13),(24,vS p2 p.Parts c1),(25,vI (p.Parts.length:Int)),(26,vI t26),(52,vS p7 y2 c6),(53,vI (y2.length:Int)),(54,vI t54),(62,vS p6 x.Body c5),(63,vI (x.Body.length:Int)),(64,vI 0)] ?_;obtain ⟨o02,ho02,hMl⟩:=zB N;refine fL p t26 x x1 out2 0 o02 ho02 iR h6 h7 hat1 h18 h1 h8 h h16 (fun _ _ _ h=>hg _ _ _ h) (fun _ _ h=>ho _ _ h) ?_ ?_
   · intro I011 out5 p16 c15 cs5 heq2 le11 h21;subst o02;have h6:=h6.mono le11;have h7:=h7.mono le11;have hat1:=hat1.mono le11;have h1:=h1.mono le11;have h8:=h8.mono le11;have h:=h.mono le11;have H:=H.trans le11;exact zX<|zT<|zM<|zQ<|yC [] [(54,vI (W (t54 + 1)))]<|yY<|vE [(1,vP b 0),(4,vS p16 out5 c15),(5,vI t26),(6,vP b1 0),(24,vS p2 p.Parts c1),(25,vI (p.Parts.length:Int)),(26,vI t26),(52,vS p7 y2 c6),(53,vI (y2.length:Int)),(54,vI (W (t54 + 1)))]<|ih out5 (W (t54 + 1)) _ hMl H h6 h7 hat1 h1 h8 h h21 hg ho hx hr
   intro r0 I9 hs9 m9 heq9 le9 hrs9;subst heq9;exact zZ<|zZ<|zH<|zH<|hr _ _ _ _ (zC hMl).symm (H.trans le9) hrs9
 intro hc6 N;exact vW<|yT [(1,vP b 0),(4,vS p12 out2 c11),(24,vS p2 p.Parts c1),(25,vI (p.Parts.length:Int)),(26,vI t26)]<|hx _ _ _ _ _ (zC N).symm H h16
def wY (p:zK) (out:List zS) (t26:Int):Option (Out (List zS) ((List zS)×Bool)):=do
 if (decide (t26 < (p.Parts.length:Int))) then
  let x←idx p.Parts t26
  let (y2,y3)←nB x.Nest
  let t51←(do
    if (!y3) then
     pure true
    else
     let y4←wD (x.Body.length:Int) 1 4
     if (!y4) then
      pure true
     else
      let y5←xZ x.Body (fun x0=>vD x0 x)
      pure (id y5)
      : Option Bool)
  if t51 then
   pure (.ret (([]:List zS),false))
  else
   match←wX p t26 x y2 out 0 with
   | .ret r0=>pure (.ret r0)
   | .done out3 =>
    wY p out3 (W (t26 + 1))
 else
  pure (.done out)
 partial_fixpoint
theorem fN (p:zK):∀ (out:List zS) (t26:Int) (o:Out (List zS) ((List zS)×Bool)),wY p out t26=some o→∀ {B}{I0 I:Imm}{Q p1 c p2 c1}{b:Nat}{p3 c2 cs},I0.le I→(S4 I p2 p.Parts c1)→(S4 I p1 p.Arrays c)→(RL I cs out)→NG Q→NO Q→(∀ (I':Imm) (out1:List zS) (p4:Option Addr) (c3:Nat) (cs1:List Value),o=(.done out1)→I0.le I'→(RL I' cs1 out1)→T 89 B Q (.exit 0) I' [hO zS (vS p4 out1 c3) cs1] [(4,vS p4 out1 c3)])→(∀ r I' hs' m',o=(.ret r)→I0.le I'→RS Tryz.prog Tryz.f67 B (rP  r) I' hs' m'→T 89 B Q .ret I' hs' m')→J Tryz.prog 89 B (nav (bodyOf Tryz.f67) [1,1,1,0,1,0]) Q I [hO zS (vS p3 out c2) cs,hB b (cProg p p1 c p2 c1)] [(1,vP b 0),(4,vS p3 out c2),(24,vS p2 p.Parts c1),(25,vI (p.Parts.length:Int)),(26,vI t26)]:=by
 refine wY.partial_correctness p _ fun self ih out t26 o N B I0 I Q p1 c p2 c1 b p3 c2 cs H h1 h h4 hg ho hx hr=>yZ hg ho<|yF [(27,.bool (decide (t26 < (p.Parts.length:Int))))]<|yI<|yL N ?_ ?_
 · intro hc2 N;refine zW<|yI<|yP<|yK<|yD 1 [] [(28,vI t26)]<|bE N fun x hy1 N=>xS rfl rfl h1 hy1 ?_;intro ad ccs hat hrep;obtain ⟨p5,c4,p6,c5,rfl,h6,h7⟩:=wT hrep;refine xM 0 hat (cPart x p5 c4 p6 c5) (vA (cPart x p5 c4 p6 c5)) rfl<|wR zTwo ?_;intro b1 hb1;refine yD 5 [] [(5,vI t26)]<|xE 0 (cPart x p5 c4 p6 c5) [hB b1 (cPart x p5 c4 p6 c5),hO zS (vS p3 out c2) cs,hB b (cProg p p1 c p2 c1)] rfl rfl rfl rfl<|yH rfl<|xD<|yD 2 [0] [(33,vS p5 x.Nest c4)] ?_;obtain ⟨⟨y2,y3⟩,hy2,N⟩:=zB N;refine xT (zCS x.Nest _ hy2 h6) ?_;rintro I02 hs2 v2 k2 le2 - ⟨v03,v04,rfl,rfl,h8,rfl⟩ -;have h4:=iM le2 h4;have h1:=h1.mono le2;have h6:=h6.mono le2;have h7:=h7.mono le2;have h:=h.mono le2;have H:=H.trans le2;obtain ⟨p7,c6,rfl⟩:=h8.form;refine yC [] [(7,vS p7 y2 c6),(8,.bool y3)]<|yI<|yG<|pL 0 rfl ?_;intro I03 le3 hl0;have hat1:At I03 ⟨b1,0,none⟩ (cPart x p5 c4 p6 c5):=At.of_blk hl0;have h4:=iM le3 h4;have h6:=h6.mono le3;have h7:=h7.mono le3;have h8:=h8.mono le3;have h1:=h1.mono le3;have h:=h.mono le3;have H:=H.trans le3;obtain ⟨o01,ho01,hMc1⟩:=zB N;refine yU (fun I' hs' m'=>∃ (t51:Bool),o01=t51∧I03.le I'∧hs'=[hO zS (vS p3 out c2) cs,hB b (cProg p p1 c p2 c1)]∧m'=[(1,vP b 0),(4,vS p3 out c2),(5,vI t26),(6,vP b1 0),(7,vS p7 y2 c6),(24,vS p2 p.Parts c1),(25,vI (p.Parts.length:Int)),(26,vI t26),(51,.bool t51)]) ?_ ?_
   · have H:=iS I03;refine zQ<|yD 3 [] [(39,.bool (!y3))] ?_;cases hc3:(!y3) with
     | true =>
      have hM02:=zP hc3 ho01
      try rw [hc3]
      exact yC [] [(51,vY)]<|yT [(1,vP b 0),(4,vS p3 out c2),(5,vI t26),(6,vP b1 0),(7,vS p7 y2 c6),(24,vS p2 p.Parts c1),(25,vI (p.Parts.length:Int)),(26,vI t26),(51,vY)]<|zV (ct hM02 H)
     | false =>
      have hM03:=zL hc3 ho01
      try rw [hc3]
      refine yD 4 [] [(40,vP b1 1)]<|xM 1 hat1 [vS p6 x.Body c5] (vS p6 x.Body c5) rfl<|yD 6 [] [(42,vI (x.Body.length:Int))] ?_;obtain ⟨y4,hy3,N⟩:=zB hM03;refine vJ (wF (x.Body.length:Int) 1 4 _ hy3 ) ?_;intro I05 le4;have h6:=h6.mono le4;have h7:=h7.mono le4;have hat1:=hat1.mono le4;have h:=h.mono le4;have H:=H.trans le4;refine yD 10 [] [(46,.bool (!y4))] ?_;cases hc4:(!y4) with
      | true =>
       have hM04:=zP hc4 N
       try rw [hc4]
       exact yC [] [(51,vY)]<|yT [(1,vP b 0),(4,vS p3 out c2),(5,vI t26),(6,vP b1 0),(7,vS p7 y2 c6),(24,vS p2 p.Parts c1),(25,vI (p.Parts.length:Int)),(26,vI t26),(51,vY)]<|zV (ct hM04 H)
      | false =>
       have hM05:=zL hc4 N
       try rw [hc4]
       refine yD 11 [] [(47,vP b1 1)]<|xM 1 hat1 [vS p6 x.Body c5] (vS p6 x.Body c5) rfl<|yD 13 [] [(49,.func (.func 119) ⟨[]⟩ ⟨[vP b1 0]⟩)] ?_;have hf0:FV1 Tryz.prog I05 [] (.func (.func 119) ⟨[]⟩ ⟨[vP b1 0]⟩) (fun x0=>vD x0 x):=by
         refine FV1.intro ?_;intro I1 le1 x0 r u0 hF k0;obtain ⟨_,rfl,k0⟩:=k0;obtain ⟨p8,c7,p9,c8,p10,c9,p11,c10,rfl,h11,h12,h13,h14⟩:=tQ k0;exact (fV x0 x r hF h11 h12 h13 h14 (h6.mono le1) (h7.mono le1) (hat1.mono le1)).mono (by rintro k i hs u ⟨v0,rfl,rfl,h⟩; exact ⟨rfl,h⟩)
       obtain ⟨y5,hy4,N⟩:=zB hM05;refine xT (mQ x.Body (fun x0=>vD x0 x) _ hy4 h7 hf0) ?_;rintro I06 hs2 v2 k2 le5 - ⟨v010,rfl,rfl,rfl⟩ -;have H:=H.trans le5;exact yC [] [(51,.bool y5)]<|yT [(1,vP b 0),(4,vS p3 out c2),(5,vI t26),(6,vP b1 0),(7,vS p7 y2 c6),(24,vS p2 p.Parts c1),(25,vI (p.Parts.length:Int)),(26,vI t26),(51,.bool y5)]<|zV (ct N H)
   rintro I04 hs2 m2 ⟨t51,heq1,le6,rfl,rfl⟩;subst o01;have h4:=iM le6 h4;have h6:=h6.mono le6;have h7:=h7.mono le6;have hat1:=hat1.mono le6;have h8:=h8.mono le6;have h1:=h1.mono le6;have h:=h.mono le6;have H:=H.trans le6;refine zM<|yL hMc1 ?_ ?_
   · intro hc5 N;exact yF [(2,z0),(3,vF)]<|xG<|zH<|zZ<|zH<|zH<|hr _ _ _ _ (zC N).symm H ⟨_,_,(.tmp rfl (.tmp rfl ResV.nil)),zR,⟨_,_,rfl,rfl,(SL.nil _),rfl⟩⟩
   intro hc5 N;refine zW<|vH [(52,vS p7 y2 c6),(53,vI (y2.length:Int)),(54,vI 0)]<|wO<|vE [(1,vP b 0),(4,vS p3 out c2),(5,vI t26),(6,vP b1 0),(24,vS p2 p.Parts c1),(25,vI (p.Parts.length:Int)),(26,vI t26),(52,vS p7 y2 c6),(53,vI (y2.length:Int)),(54,vI 0)] ?_;obtain ⟨o03,ho03,hMl1⟩:=zB N;refine fM p t26 x y2 out 0 o03 ho03 iR h6 h7 hat1 h1 h8 h h4 (fun _ _ _ h=>hg _ _ _ h) (fun _ _ h=>ho _ _ h) ?_ ?_
   · intro I012 out3 p13 c12 cs3 heq3 le12 h17;subst o03;have h1:=h1.mono le12;have h:=h.mono le12;have H:=H.trans le12;exact zX<|zT<|zM<|zQ<|yC [] [(26,vI (W (t26 + 1)))]<|yY<|vE [(1,vP b 0),(4,vS p13 out3 c12),(24,vS p2 p.Parts c1),(25,vI (p.Parts.length:Int)),(26,vI (W (t26 + 1)))]<|ih out3 (W (t26 + 1)) _ hMl1 H h1 h h17 hg ho hx hr
   intro r0 I9 hs9 m9 heq9 le9 hrs9;subst heq9;exact zZ<|zZ<|zH<|zH<|hr _ _ _ _ (zC hMl1).symm (H.trans le9) hrs9
 intro hc2 N;exact vW<|xU (yA [0] rfl (by decide))<|yT [(4,vS p3 out c2)]<|hx _ _ _ _ _ (zC N).symm H h4
def tJ (p:zK):Option ((List zS)×Bool):=do
 let t22←(do
   let y←mT p.Arrays
   if (!y) then
    pure true
   else
    pure (decide ((p.Parts.length:Int) > 4))
     : Option Bool)
 if t22 then
  pure (([]:List zS),false)
 else
  match←wY p ([]:List zS) 0 with
  | .ret r0=>pure r0
  | .done out1 =>
   pure (out1,(decide ((out1.length:Int) ≤ 120)))
theorem jB:∀ p r,tJ p=some r→∀ {I:Imm}{p1 c p2 c1},(S4 I p1 p.Arrays c)→(S4 I p2 p.Parts c1)→RT 67 [vA (cProg p p1 c p2 c1)] I [] (rP  r):=by
 intro p r N I p1 c p2 c1 h h1;unfold tJ at N;refine zY (fn:=Tryz.f67) (c:=(bodyOf Tryz.f67)) Tryz.func67 rfl rfl ?_;rintro B - -;have H:=iS I;refine yK<|uD (cProg p p1 c p2 c1) ?_;intro b hb;refine yC [] []<|yI<|yG ?_;obtain ⟨o0,ho0,hMc⟩:=zB N;refine yU (fun I' hs' m'=>∃ (t22:Bool),o0=t22∧I.le I'∧hs'=[hB b (cProg p p1 c p2 c1)]∧m'=[(1,vP b 0),(22,.bool t22)]) ?_ ?_
 · have H:=iS I;refine zQ<|yD 2 [0] [(14,vS p1 p.Arrays c)] ?_;obtain ⟨y,hy,N⟩:=zB ho0;refine vJ (zDt p.Arrays _ hy h) ?_;intro I01 le;have H:=H.trans le;refine yD 5 [] [(17,.bool (!y))] ?_;cases hc:(!y) with
   | true =>
    have hM0:=zP hc N
    try rw [hc]
    exact yC [] [(22,vY)]<|yT [(1,vP b 0),(22,vY)]<|zV (ct hM0 H)
   | false =>
    have hM01:=zL hc N
    try rw [hc]
    exact yC [0] [(22,.bool (decide ((p.Parts.length:Int) > 4)))]<|yT [(1,vP b 0),(22,.bool (decide ((p.Parts.length:Int) > 4)))]<|zV (ct hM01 H)
 rintro I0 hs2 m2 ⟨t22,heq,le1,rfl,rfl⟩;subst o0;have h:=h.mono le1;have h1:=h1.mono le1;refine zM<|yL hMc ?_ ?_
 · intro hc1 N;refine yF [(2,z0),(3,vF)]<|xG<|zH ?_;obtain rfl:=zC N;exact xC ⟨_,_,(.tmp rfl (.tmp rfl ResV.nil)),zR,⟨_,_,rfl,rfl,(SL.nil _),rfl⟩⟩
 intro hc1 N;refine zW<|vH [(4,z0)]<|yI<|yK<|yC [0] [(24,vS p2 p.Parts c1),(25,vI (p.Parts.length:Int)),(26,vI 0)]<|wO<|vE [(1,vP b 0),(4,z0),(24,vS p2 p.Parts c1),(25,vI (p.Parts.length:Int)),(26,vI 0)]<|pK (vM (Rp.sz zS)) ?_;have h3:RL I0 [] ([]:List zS):=RepL.nil;obtain ⟨o04,ho04,hMl2⟩:=zB N;refine fN p ([]:List zS) 0 o04 ho04 iR h1 h h3 (fun _ _ _ h=>h) (fun _ _ h=>h) ?_ ?_
 · intro I013 out1 p4 c3 cs1 heq4 le13 h5;subst o04;refine zX<|vH [(2,vS p4 out1 c3),(3,.bool (decide ((out1.length:Int) ≤ 120)))]<|xG<|xP 0 rfl ?_;intro I014 le14 hl02;have h31:=SL.of_frozen hl02 le14 h5;obtain rfl:=zC hMl2;exact xC ⟨_,_,(.tmp rfl (.tmp rfl ResV.nil)),zR,⟨_,_,rfl,rfl,h31,rfl⟩⟩
 intro r0 I9 hs9 m9 heq9 le9 hrs9;subst heq9;refine zZ<|zH ?_;obtain rfl:=zC hMl2;exact xC hrs9
def wS (hsF:List HA) (r:Bool):KT:=fun kk I' hs' v=>
  ∃ v0,hsF=hs'∧v=tupV [v0]∧v0=.bool r
def xF (s1:(List zA)) (s2:(List zA)) (eq:(zA→zA→Option Bool)) (t17:Int):Option (Out Unit (Bool)):=do
 if (decide (t17 < (s1.length:Int))) then
  let x←idx s1 t17
  let x1←idx s2 t17
  let y←eq x x1
  if (!y) then
   pure (.ret false)
  else
   xF s1 s2 eq (W (t17 + 1))
 else
  pure (.done ())
 partial_fixpoint
theorem sP (s1:(List zA)) (s2:(List zA)) (eq:(zA→zA→Option Bool)):∀ (t17:Int) (o:Out Unit (Bool)),xF s1 s2 eq t17=some o→∀ {B}{I0 I:Imm}{Q p c p1 c1}{fv:Value}{hsF:List HA},I0.le I→(S4 I p1 s2 c1)→(FV2 Tryz.prog I hsF fv eq)→(S4 I p s1 c)→NG Q→NO Q→(∀ (I':Imm) ,o=(.done ())→I0.le I'→T 32 B Q (.exit 0) I' hsF [])→(∀ r I' hs' m',o=(.ret r)→I0.le I'→RS Tryz.prog Tryz.f163 B (wS hsF r) I' hs' m'→T 32 B Q .ret I' hs' m')→J Tryz.prog 32 B (nav (bodyOf Tryz.f163) [1,1,0,1,0]) Q I hsF [(1,vS p1 s2 c1),(2,fv),(15,vS p s1 c),(16,vI (s1.length:Int)),(17,vI t17)]:=by
 refine xF.partial_correctness s1 s2 eq _ fun self ih t17 o N B I0 I Q p c p1 c1 fv hsF H h1 h2 h hg ho hx hr=>yZ hg ho<|yF [(18,.bool (decide (t17 < (s1.length:Int))))]<|yI<|yL N ?_ ?_
 · intro hc1 N;refine zW<|yI<|yP<|yK<|yD 1 [] [(19,vI t17)]<|bE N fun x hy N=>xS rfl rfl h hy ?_;intro ad ccs hat hrep;obtain ⟨p2,c2,rfl,h3⟩:=yN hrep;refine xM 0 hat (cAff x p2 c2) (vA (cAff x p2 c2)) rfl<|wR [z0,vI 0] ?_;intro b hb;refine yD 5 [] [(7,vI t17)]<|xE 0 (cAff x p2 c2) (hB b (cAff x p2 c2)::hsF) rfl rfl rfl rfl<|yH rfl<|xD<|yD 2 [] [(22,vS p1 s2 c1),(23,vI t17)]<|bE N fun x1 hy1 N=>xS rfl rfl h1 hy1 ?_;intro ad1 ccs1 hat1 hrep1;obtain ⟨p3,c3,rfl,h4⟩:=yN hrep1;refine xM 0 hat1 (cAff x1 p3 c3) (vA (cAff x1 p3 c3)) rfl<|wR [z0,vI 0] ?_;intro b1 hb1;refine xE 0 (cAff x1 p3 c3) (hB b1 (cAff x1 p3 c3)::hB b (cAff x p2 c2)::hsF) rfl rfl rfl rfl<|yH rfl<|xD<|yD 3 [1,0] [(26,fv),(27,vA (cAff x p2 c2)),(28,vA (cAff x1 p3 c3))]<|bE N fun y hy2 N=>sU (hs':=hsF ++ [hB b1 (cAff x1 p3 c3),hB b (cAff x p2 c2)]) (zGR [hB b1 (cAff x1 p3 c3),hB b (cAff x p2 c2)] hsF)<|zKe rfl rfl rfl h2 hy2 ⟨_,rfl,(yQ ⟨_,rfl,h3⟩)⟩ ⟨_,rfl,(yQ ⟨_,rfl,h4⟩)⟩ rfl ?_;rintro I0 v02 le rfl;refine sU (hs':=(hB b1 (cAff x1 p3 c3)::hB b (cAff x p2 c2)::hsF)) (zGR hsF [hB b1 (cAff x1 p3 c3),hB b (cAff x p2 c2)]) ?_;have h1:=h1.mono le;have h2:=h2.mono le;have h:=h.mono le;have H:=H.trans le;refine yC [] [(30,.bool (!y))]<|zM<|yL N ?_ ?_
   · intro hc2 N;exact yF [(6,vF)]<|xG<|zZ<|zH<|zH<|hr _ _ _ _ (zC N).symm H ⟨_,_,(.tmp rfl ResV.nil),(zEr [hB b1 (cAff x1 p3 c3),hB b (cAff x p2 c2)] hsF [] rfl (by decide)),⟨_,rfl,rfl,rfl⟩⟩
   intro hc2 N;exact zW<|zT<|zM<|zQ<|yC [] [(17,vI (W (t17 + 1)))]<|yY<|pK (zEr [hB b1 (cAff x1 p3 c3),hB b (cAff x p2 c2)] hsF [] rfl (by decide))<|vE [(1,vS p1 s2 c1),(2,fv),(15,vS p s1 c),(16,vI (s1.length:Int)),(17,vI (W (t17 + 1)))]<|ih (W (t17 + 1)) _ N H h1 h2 h hg ho hx hr
 intro hc1 N;exact vW<|yT []<|hx _  (zC N).symm H
def xW (s1:(List zA)) (s2:(List zA)) (eq:(zA→zA→Option Bool)):Option (Bool):=do
 if ((s1.length:Int) != (s2.length:Int)) then
  pure false
 else
  match←xF s1 s2 eq 0 with
  | .ret r0=>pure r0
  | .done _ =>
   pure true
theorem rD:∀ s1 s2 eq r,xW s1 s2 eq=some r→∀ {I:Imm}{p c p1 c1}{fv:Value}{hsF:List HA},(S4 I p s1 c)→(S4 I p1 s2 c1)→(FV2 Tryz.prog I hsF fv eq)→RT 163 [vS p s1 c,vS p1 s2 c1,fv] I hsF (wS hsF r):=by
 intro s1 s2 eq r N I p c p1 c1 fv hsF h h1 h2;unfold xW at N;refine zY (fn:=Tryz.f163) (c:=(bodyOf Tryz.f163)) Tryz.func163 rfl rfl ?_;rintro B - -;refine yF []<|yI<|yF [(14,.bool ((s1.length:Int) != (s2.length:Int)))]<|zM<|yL N ?_ ?_
 · intro hc N;refine yF [(6,vF)]<|xG<|zH ?_;obtain rfl:=zC N;exact xC ⟨_,_,(.tmp rfl ResV.nil),(fun _ h=>h),⟨_,rfl,rfl,rfl⟩⟩
 intro hc N;refine zW<|yI<|yF [(15,vS p s1 c),(16,vI (s1.length:Int)),(17,vI 0)]<|wO<|vE [(1,vS p1 s2 c1),(2,fv),(15,vS p s1 c),(16,vI (s1.length:Int)),(17,vI 0)] ?_;obtain ⟨o0,ho0,hMl⟩:=zB N;refine sP s1 s2 eq 0 o0 ho0 iR h1 h2 h (fun _ _ _ h=>h) (fun _ _ h=>h) ?_ ?_
 · intro I01  heq le1;subst o0;refine zX<|vH [(6,vY)]<|zM<|yX ?_;obtain rfl:=zC hMl;exact xC ⟨_,_,(.tmp rfl ResV.nil),(fun _ h=>h),⟨_,rfl,rfl,rfl⟩⟩
 intro r0 I9 hs9 m9 heq9 le9 hrs9;subst heq9;refine zZ<|zH ?_;obtain rfl:=zC hMl;exact xC hrs9
def qL (s1:(List Int)) (s2:(List Int)) (t13:Int):Option (Out Unit (Bool)):=do
 if (decide (t13 < (s1.length:Int))) then
  let x←idx s1 t13
  let x1←idx s2 t13
  if (x != x1) then
   pure (.ret false)
  else
   qL s1 s2 (W (t13 + 1))
 else
  pure (.done ())
 partial_fixpoint
theorem eN (s1:(List Int)) (s2:(List Int)):∀ (t13:Int) (o:Out Unit (Bool)),qL s1 s2 t13=some o→∀ {B}{I0 I:Imm}{Q p c p1 c1},I0.le I→(S4 I p s1 c)→(S4 I p1 s2 c1)→NG Q→NO Q→(∀ (I':Imm) ,o=(.done ())→I0.le I'→T 26 B Q (.exit 0) I' [] [])→(∀ r I' hs' m',o=(.ret r)→I0.le I'→RS Tryz.prog Tryz.f193 B (zU  r) I' hs' m'→T 26 B Q .ret I' hs' m')→J Tryz.prog 26 B (nav (bodyOf Tryz.f193) [1,1,0,1,0]) Q I [] [(0,vS p s1 c),(1,vS p1 s2 c1),(12,vI (s1.length:Int)),(13,vI t13)]:=by
 refine qL.partial_correctness s1 s2 _ fun self ih t13 o N B I0 I Q p c p1 c1 H h h1 hg ho hx hr=>yZ hg ho<|yF [(14,.bool (decide (t13 < (s1.length:Int))))]<|yI<|yL N ?_ ?_
 · intro hc1 N;refine zW<|yI<|yP<|yF [(5,vI t13)]<|yI<|jR (by kernel_rfl) (by kernel_rfl)<|eQ 2 [] [(16,vS p s1 c),(17,vI t13)]<|bE N fun x hy N=>zBA rfl rfl h hy ?_;intro ad ccs hat hrep;obtain rfl:=hrep;refine zAz 0 hat [vI x] (vI x) rfl<|eQ 6 [] [(20,vS p1 s2 c1),(21,vI t13)]<|bE N fun x1 hy1 N=>zBA rfl rfl h1 hy1 ?_;intro ad1 ccs1 hat1 hrep1;obtain rfl:=hrep1;refine zAz 0 hat1 [vI x1] (vI x1) rfl<|zCc [] [(24,.bool (x != x1))]<|zM<|yL N ?_ ?_
   · intro hc2 N;exact yF [(4,vF)]<|xG<|zZ<|zH<|zH<|hr _ _ _ _ (zC N).symm H ⟨_,_,(.tmp rfl ResV.nil),zR,⟨_,rfl,rfl,rfl⟩⟩
   intro hc2 N;exact zW<|zT<|zM<|zQ<|yC [] [(13,vI (W (t13 + 1)))]<|yY<|vE [(0,vS p s1 c),(1,vS p1 s2 c1),(12,vI (s1.length:Int)),(13,vI (W (t13 + 1)))]<|ih (W (t13 + 1)) _ N H h h1 hg ho hx hr
 intro hc1 N;exact vW<|yT []<|hx _  (zC N).symm H
def mR (s1:(List Int)) (s2:(List Int)):Option (Bool):=do
 if ((s1.length:Int) != (s2.length:Int)) then
  pure false
 else
  match←qL s1 s2 0 with
  | .ret r0=>pure r0
  | .done _ =>
   pure true
theorem zAV:∀ s1 s2 r,mR s1 s2=some r→∀ {I:Imm}{p c p1 c1},(S4 I p s1 c)→(S4 I p1 s2 c1)→RT 193 [vS p s1 c,vS p1 s2 c1] I [] (zU  r):=by
 intro s1 s2 r N I p c p1 c1 h h1;unfold mR at N;refine zY (fn:=Tryz.f193) (c:=(bodyOf Tryz.f193)) Tryz.func193 rfl rfl ?_;rintro B - -;refine yF []<|yI<|yF [(10,.bool ((s1.length:Int) != (s2.length:Int)))]<|zM<|yL N ?_ ?_
 · intro hc N;refine yF [(4,vF)]<|xG<|zH ?_;obtain rfl:=zC N;exact wN
 intro hc N;refine zW<|yI<|yF [(12,vI (s1.length:Int)),(13,vI 0)]<|wO<|vE [(0,vS p s1 c),(1,vS p1 s2 c1),(12,vI (s1.length:Int)),(13,vI 0)] ?_;obtain ⟨o0,ho0,hMl⟩:=zB N;refine eN s1 s2 0 o0 ho0 iR h h1 (fun _ _ _ h=>h) (fun _ _ h=>h) ?_ ?_
 · intro I0  heq le;subst o0;refine zX<|vH [(4,vY)]<|zM<|yX ?_;obtain rfl:=zC hMl;exact wN
 intro r0 I9 hs9 m9 heq9 le9 hrs9;subst heq9;refine zZ<|zH ?_;obtain rfl:=zC hMl;exact xC hrs9
def nE (a0:zA) (b:zA):Option (Bool):=do
 let t4←(do
   let y←mR a0.Coefs b.Coefs
   if y then
    pure (a0.Const == b.Const)
   else
    pure false
     : Option Bool)
 pure (id t4)
theorem zCW:∀ a0 b r,nE a0 b=some r→∀ {I:Imm}{p c p1 c1},(S4 I p a0.Coefs c)→(S4 I p1 b.Coefs c1)→RT 164 [vA (cAff a0 p c),vA (cAff b p1 c1)] I [] (zU  r):=by
 intro a0 b r N I p c p1 c1 h h1;unfold nE at N;refine zY (fn:=Tryz.f164) (c:=(bodyOf Tryz.f164)) Tryz.func164 rfl rfl ?_;rintro B - -;have H:=iS I;refine yK<|uD (cAff a0 p c) ?_;intro b1 hb;refine uD (cAff b p1 c1) ?_;intro b2 hb1;refine yC [] []<|zM<|yG ?_;obtain ⟨o0,ho0,hMc⟩:=zB N;refine yU (fun I' hs' m'=>∃ (t4:Bool),o0=t4∧I.le I'∧hs'=[]∧m'=[(4,.bool t4)]) ?_ ?_
 · have H:=iS I;refine zQ<|yD 4 [1,0] [(6,vS p a0.Coefs c),(8,vS p1 b.Coefs c1)] ?_;obtain ⟨y,hy,N⟩:=zB ho0;refine vJ (zAV a0.Coefs b.Coefs _ hy h h1) ?_;intro I01 le;have H:=H.trans le;refine yD 6 [] [(10,.bool y)] ?_;cases hc:y with
   | true =>
    have hM0:=zP hc N
    try rw [hc]
    exact yC [1,0] [(4,.bool (a0.Const == b.Const))]<|xU zR<|yT [(4,.bool (a0.Const == b.Const))]<|zV (ct hM0 H)
   | false =>
    have hM01:=zL hc N
    try rw [hc]
    exact yC [] [(4,vF)]<|xU zR<|yT [(4,vF)]<|zV (ct hM01 H)
 rintro I0 hs2 m2 ⟨t4,heq,le1,rfl,rfl⟩;subst o0;refine zM<|yX ?_;obtain rfl:=zC hMc;exact wN
def kH (a0:zJ) (b:zJ):Option (Bool):=do
 let t4←(do
   if (a0.Array.l == b.Array.l) then
    let y←xW a0.Subs b.Subs nE
    pure (id y)
   else
    pure false
     : Option Bool)
 pure (id t4)
theorem eO:∀ a0 b r,kH a0 b=some r→∀ {I:Imm}{p c p1 c1},(S4 I p a0.Subs c)→(S4 I p1 b.Subs c1)→RT 122 [vA (cAccess a0 p c),vA (cAccess b p1 c1)] I [] (zU  r):=by
 intro a0 b r N I p c p1 c1 h h1;unfold kH at N;refine zY (fn:=Tryz.f122) (c:=(bodyOf Tryz.f122)) Tryz.func122 rfl rfl ?_;rintro B - -;have H:=iS I;refine yK<|uD (cAccess a0 p c) ?_;intro b1 hb;refine uD (cAccess b p1 c1) ?_;intro b2 hb1;refine yC [] []<|zM<|yG ?_;obtain ⟨o0,ho0,hMc⟩:=zB N;refine yU (fun I' hs' m'=>∃ (t4:Bool),o0=t4∧I.le I'∧hs'=[]∧m'=[(4,.bool t4)]) ?_ ?_
 · have H:=iS I;refine zQ<|yD 6 [1,0] [(10,.bool (a0.Array.l == b.Array.l))] ?_;cases hc:(a0.Array.l == b.Array.l) with
   | true =>
    have hM0:=zP hc ho0
    try rw [hc]
    refine yD 10 [1,0] [(12,vS p a0.Subs c),(14,vS p1 b.Subs c1)] ?_;have hf0:FV2 Tryz.prog I [] (.func (.func 164) ⟨[]⟩ ⟨[]⟩) nE:=by
      refine FV2.intro ?_;intro I1 le1 x0 x1 r u0 u1 hF k0 k1;obtain ⟨_,rfl,k0⟩:=k0;obtain ⟨p2,c2,rfl,h2⟩:=yN k0;obtain ⟨_,rfl,k1⟩:=k1;obtain ⟨p3,c3,rfl,h3⟩:=yN k1;exact (zCW x0 x1 r hF h2 h3).mono (by rintro k i hs u ⟨v0,rfl,rfl,h⟩; exact ⟨rfl,h⟩)
    obtain ⟨y,hy,N⟩:=zB hM0;refine xT (rD a0.Subs b.Subs nE _ hy h h1 hf0) ?_;rintro I01 hs2 v2 k2 le - ⟨v02,rfl,rfl,rfl⟩ -;have H:=H.trans le;exact yC [] [(4,.bool y)]<|xU zR<|yT [(4,.bool y)]<|zV (ct N H)
   | false =>
    have hM01:=zL hc ho0
    try rw [hc]
    exact yC [] [(4,vF)]<|xU zR<|yT [(4,vF)]<|zV (ct hM01 H)
 rintro I0 hs2 m2 ⟨t4,heq,le1,rfl,rfl⟩;subst o0;refine zM<|yX ?_;obtain rfl:=zC hMc;exact wN
def mF (a0:zJ) (x:zI):Option (Bool):=do
 pure (a0.Array.l == x.Write.Array.l)
theorem zDP:∀ a0 x r,mF a0 x=some r→∀ {I:Imm}{p c}{ad:Addr}{p1 c1 p2 c2 p3 c3 p4 c4},(S4 I p a0.Subs c)→(S4 I p1 x.Write.Subs c1)→(S4 I p2 x.Value.Index.Coefs c2)→(S4 I p3 x.Value.Read.Subs c3)→(S4 I p4 x.Value.Kids c4)→(At I ad (cStmt x p1 c1 p2 c2 p3 c3 p4 c4))→RT 124 [vA (cAccess a0 p c),.pointer (some ad)] I [] (zU  r):=by
 intro a0 x r N I p c ad p1 c1 p2 c2 p3 c3 p4 c4 h h1 h2 h3 h4 hat;unfold mF at N;refine zY (fn:=Tryz.f124) (c:=(bodyOf Tryz.f124)) Tryz.func124 rfl rfl ?_;rintro B - -;refine yK<|uD (cAccess a0 p c) ?_;intro b hb;refine yC [] []<|xD<|yD 4 [0] [(5,vT a0.Array.l),(7,.pointer (some ad))]<|xM 0 hat [vT x.Write.Array.l] (vT x.Write.Array.l) rfl<|yC [] [(3,.bool (a0.Array.l == x.Write.Array.l))]<|zM<|yX ?_;obtain rfl:=zC N;exact wN
def gJ (s:zI):Option (Bool):=do
 let t32←(do
   if (s.Value.Kind != 4) then
    if (s.Value.Kind != 5) then
     pure true
    else
     let x←idx s.Value.Kids 0
     if (x.Kind != 3) then
      pure true
     else
      let x1←idx s.Value.Kids 0
      let y←kH x1.Read s.Write
      pure (!y)
   else
    let x2←idx s.Value.Kids 0
    if (x2.Kind != 3) then
     pure true
    else
     let x3←idx s.Value.Kids 0
     let y1←kH x3.Read s.Write
     pure (!y1)
     : Option Bool)
 if t32 then
  pure false
 else
  let x4←idx s.Value.Kids 1
  let y2←nC x4
  let y3←xO y2 (fun x0=>mF x0 s)
  pure (!y3)
theorem zAl:∀ s r,gJ s=some r→∀ {I:Imm}{p c p1 c1 p2 c2 p3 c3},(S4 I p s.Write.Subs c)→(S4 I p1 s.Value.Index.Coefs c1)→(S4 I p2 s.Value.Read.Subs c2)→(S4 I p3 s.Value.Kids c3)→RT 69 [vA (cStmt s p c p1 c1 p2 c2 p3 c3)] I [] (zU  r):=by
 intro s r N I p c p1 c1 p2 c2 p3 c3 h h1 h2 h3;unfold gJ at N;refine zY (fn:=Tryz.f69) (c:=(bodyOf Tryz.f69)) Tryz.func69 rfl rfl ?_;rintro B - -;have H:=iS I;refine yK<|uD (cStmt s p c p1 c1 p2 c2 p3 c3) ?_;intro b hb;refine yJ 0 rfl ?_;intro I0 le hl0;have hat:At I0 ⟨b,0,none⟩ (cStmt s p c p1 c1 p2 c2 p3 c3):=At.of_blk hl0;have h:=h.mono le;have h1:=h1.mono le;have h2:=h2.mono le;have h3:=h3.mono le;have H:=H.trans le;refine yC [] []<|xD<|yD 1 [] [(4,vP b 2)]<|xM 2 hat (cExpr s.Value p1 c1 p2 c2 p3 c3) (vA (cExpr s.Value p1 c1 p2 c2 p3 c3)) rfl<|wR zExpr ?_;intro b1 hb1;refine xE 0 (cExpr s.Value p1 c1 p2 c2 p3 c3) [hB b1 (cExpr s.Value p1 c1 p2 c2 p3 c3)] rfl rfl rfl rfl<|yH rfl<|yI<|yG ?_;obtain ⟨o0,ho0,hMc⟩:=zB N;refine yU (fun I' hs' m'=>∃ (t32:Bool),o0=t32∧I0.le I'∧hs'=[hB b1 (cExpr s.Value p1 c1 p2 c2 p3 c3)]∧m'=[(1,vP b 0),(3,vP b1 0),(32,.bool t32)]) ?_ ?_
 · have H:=iS I0;cases hc:(s.Value.Kind != 4) with
   | true =>
    have hM0:=zP hc ho0;cases hc1:(s.Value.Kind != 5) with
    | true =>
     have hM01:=zP hc1 hM0;refine wA [.p (vP b1 0) [],.p (vI s.Value.Kind) [0],.q vY,.q vY,.p (vP b1 0) [],.p (vI s.Value.Kind) [0],.q vY,.q vY,.q vY,.p undef [],.p undef [],.p undef [],.p undef [],.p undef [],.p undef [],.p vY [],.p vY [],.p undef [],.p undef [],.p undef [],.p undef [],.p undef [],.p undef [],.p undef [],.p undef [],.p undef [],.p vY []] [[],[(0,false)],[(1,false)],[(2,false)],[(3,false)],[(3,false),(4,false)],[(3,false),(5,false)],[(3,false),(6,false)],[(7,false)],[(8,false)],[(8,false),(9,false)],[(8,false),(10,false)],[(8,false),(11,false)],[(8,false),(12,false)],[(8,false),(13,false)],[(8,false),(14,false)],[(15,false)],[(16,false)],[(16,false),(17,false)],[(16,false),(18,false)],[(16,false),(19,false)],[(16,false),(20,false)],[(16,false)],[(16,false),(22,false)],[(16,false),(21,false),(23,false)],[(16,false),(24,false)],[(16,false),(25,false)]] [hB b1 (cExpr s.Value p1 c1 p2 c2 p3 c3)] [] [(26,false)] (yB [0]) ?_ ?_
     · refine Op<|Op<|Oq ?_<|Oq ?_<|Op<|Op<|Oq ?_<|Oq ?_<|Oq ?_<|Op<|Op<|Op<|Op<|Op<|Op<|Op<|Op<|Op<|Op<|Op<|Op<|Op<|Op<|Op<|Op<|Op<|Op<|On
       · intro I1 hf le1;refine yM [(7,vI s.Value.Kind)]<|uS 3 [(8,.bool (s.Value.Kind != 4))] ?_;rw [hc];exact yS iR
       · intro I1 hf le1;exact yM [(8,vY)]<|uS 4 [(9,vY)]<|yS iR
       · intro I1 hf le1;refine yM [(9,vY),(11,vI s.Value.Kind)]<|uS 7 [(12,.bool (s.Value.Kind != 5))] ?_;rw [hc1];exact yS iR
       · intro I1 hf le1;exact yM [(9,vY),(12,vY)]<|uS 8 [(13,vY)]<|yS iR
       intro I1 hf le1;exact yM [(13,vY)]<|uS 9 [(14,vY)]<|yS iR
     intro I02 le1;refine yM [(1,vP b 0),(3,vP b1 0),(32,vY)] ?_;have H:=H.trans le1;exact yH rfl<|yT [(1,vP b 0),(3,vP b1 0),(32,vY)]<|zV (ct hM01 H)
    | false =>
     have hM02:=zL hc1 hM0;obtain ⟨x,hy,N⟩:=zB hM02;cases hc2:(x.Kind != 3) with
     | true =>
      have hM03:=zP hc2 N;refine wA [.p (vP b1 0) [],.p (vI s.Value.Kind) [0],.q vY,.q vY,.p (vP b1 0) [],.p (vI s.Value.Kind) [0],.q vF,.q vF,.q vF,.p (vP b1 6) [],.p (vS p3 s.Value.Kids c3) [0],.x (fun I' v hx=>∃ ad p4 c4 p5 c5 p6 c6,v=.pointer (some ad)∧hx=[]∧(At I' ad (cExpr x p4 c4 p5 c5 p6 c6))∧(S4 I' p4 x.Index.Coefs c4)∧(S4 I' p5 x.Read.Subs c5)∧(S4 I' p6 x.Kids c6)),.x (fun I' v hx=>∃ ad1 p41 c41 p51 c51 p61 c61,v=.pointer (some ad1)∧hx=[]∧(At I' ad1 (cExpr x p41 c41 p51 c51 p61 c61))∧(S4 I' p41 x.Index.Coefs c41)∧(S4 I' p51 x.Read.Subs c51)∧(S4 I' p61 x.Kids c61)),.q (vI x.Kind),.q vY,.q vY,.q vY,.p undef [],.p undef [],.p undef [],.p undef [],.p undef [],.p undef [],.p undef [],.p undef [],.p undef [],.p vY []] [[],[(0,false)],[(1,false)],[(2,false)],[(3,false)],[(3,false),(4,false)],[(3,false),(5,false)],[(3,false),(6,false)],[(7,false)],[(8,false)],[(8,false),(9,false)],[(8,false),(10,false)],[(8,false),(11,false)],[(8,false),(12,false)],[(8,false),(13,false)],[(8,false),(14,false)],[(15,false)],[(16,false)],[(16,false),(17,false)],[(16,false),(18,false)],[(16,false),(19,false)],[(16,false),(20,false)],[(16,false)],[(16,false),(22,false)],[(16,false),(21,false),(23,false)],[(16,false),(24,false)],[(16,false),(25,false)]] [hB b1 (cExpr s.Value p1 c1 p2 c2 p3 c3)] [] [(26,false)] (yB [0]) ?_ ?_
      · refine Op<|Op<|Oq ?_<|Oq ?_<|Op<|Op<|Oq ?_<|Oq ?_<|Oq ?_<|Op<|Op<|Ox ?_<|Ox ?_<|Oq ?_<|Oq ?_<|Oq ?_<|Oq ?_<|Op<|Op<|Op<|Op<|Op<|Op<|Op<|Op<|Op<|Op<|On
        · intro I1 hf le1;refine yM [(7,vI s.Value.Kind)]<|uS 3 [(8,.bool (s.Value.Kind != 4))] ?_;rw [hc];exact yS iR
        · intro I1 hf le1;exact yM [(8,vY)]<|uS 4 [(9,vY)]<|yS iR
        · intro I1 hf le1;refine yM [(9,vY),(11,vI s.Value.Kind)]<|uS 7 [(12,.bool (s.Value.Kind != 5))] ?_;rw [hc1];exact yS iR
        · intro I1 hf le1;exact yM [(9,vY),(12,vF)]<|uS 8 [(13,vF)]<|yS iR
        · intro I1 hf le1;exact yM [(13,vF)]<|uS 9 [(14,vF)]<|yS iR
        · intro I1 hf le1;refine yM [(14,vF),(16,vS p3 s.Value.Kids c3)] ?_;have h3:=h3.mono le1;refine xS rfl rfl h3 hy ?_;intro ad ccs hat1 hrep;obtain ⟨p4,c4,p5,c5,p6,c6,rfl,h4,h5,h6⟩:=xV hrep;exact yO [] iR ⟨_,_,_,_,_,_,_,rfl,rfl,hat1,h4,h5,h6⟩
        · intro I1 hf le1;refine zF ?_;rintro _ _ ⟨rfl,rfl⟩;refine zF ?_;rintro _ _ ⟨ad,p4,c4,p5,c5,p6,c6,rfl,rfl,hat1,h4,h5,h6⟩;exact yM [(14,vF),(17,.pointer (some ad))]<|uS 13 [(18,.pointer (some ad))]<|yO [] iR ⟨_,_,_,_,_,_,_,rfl,rfl,hat1,h4,h5,h6⟩
        · intro I1 hf le1;refine zF ?_;rintro _ _ ⟨rfl,rfl⟩;refine zF ?_;rintro _ _ ⟨ad1,p41,c41,p51,c51,p61,c61,rfl,rfl,hat11,h41,h51,h61⟩;exact yM [(14,vF),(18,.pointer (some ad1))]<|xM 0 hat11 [vI x.Kind] (vI x.Kind) rfl<|yS iR
        · intro I1 hf le1;refine yM [(14,vF),(19,vI x.Kind)]<|uS 15 [(20,.bool (x.Kind != 3))] ?_;rw [hc2];exact yS iR
        · intro I1 hf le1;exact yM [(14,vF),(20,vY)]<|uS 16 [(21,vY)]<|yS iR
        intro I1 hf le1;exact yM [(21,vY)]<|uS 17 [(22,vY)]<|yS iR
      intro I03 le2;refine yM [(1,vP b 0),(3,vP b1 0),(32,vY)] ?_;have H:=H.trans le2;exact yH rfl<|yT [(1,vP b 0),(3,vP b1 0),(32,vY)]<|zV (ct hM03 H)
     | false =>
      have hM04:=zL hc2 N;obtain ⟨x1,hy1,N⟩:=zB hM04;obtain ⟨y,hy2,N⟩:=zB N;refine wA [.p (vP b1 0) [],.p (vI s.Value.Kind) [0],.q vY,.q vY,.p (vP b1 0) [],.p (vI s.Value.Kind) [0],.q vF,.q vF,.q vF,.p (vP b1 6) [],.p (vS p3 s.Value.Kids c3) [0],.x (fun I' v hx=>∃ ad p4 c4 p5 c5 p6 c6,v=.pointer (some ad)∧hx=[]∧(At I' ad (cExpr x p4 c4 p5 c5 p6 c6))∧(S4 I' p4 x.Index.Coefs c4)∧(S4 I' p5 x.Read.Subs c5)∧(S4 I' p6 x.Kids c6)),.x (fun I' v hx=>∃ ad1 p41 c41 p51 c51 p61 c61,v=.pointer (some ad1)∧hx=[]∧(At I' ad1 (cExpr x p41 c41 p51 c51 p61 c61))∧(S4 I' p41 x.Index.Coefs c41)∧(S4 I' p51 x.Read.Subs c51)∧(S4 I' p61 x.Kids c61)),.q (vI x.Kind),.q vF,.q vF,.q vF,.p (vP b1 6) [],.p (vS p3 s.Value.Kids c3) [0],.x (fun I' v hx=>∃ ad2 p7 c7 p8 c8 p9 c9,v=.pointer (some ad2)∧hx=[]∧(At I' ad2 (cExpr x1 p7 c7 p8 c8 p9 c9))∧(S4 I' p7 x1.Index.Coefs c7)∧(S4 I' p8 x1.Read.Subs c8)∧(S4 I' p9 x1.Kids c9)),.x (fun I' v hx=>∃ ad21 p71 c71 p81 c81 p91 c91,v=.pointer (some (ad21.add 4))∧hx=[]∧(At I' ad21 (cExpr x1 p71 c71 p81 c81 p91 c91))∧(S4 I' p71 x1.Index.Coefs c71)∧(S4 I' p81 x1.Read.Subs c81)∧(S4 I' p91 x1.Kids c91)),.x (fun I' v hx=>∃ p811 c811,v=vA (cAccess x1.Read p811 c811)∧hx=[]∧(S4 I' p811 x1.Read.Subs c811)),.p (vP b 0) [],.q (vA (cAccess s.Write p c)),.q (.bool y),.p (.bool (!y)) [],.p (.bool (!y)) []] [[],[(0,false)],[(1,false)],[(2,false)],[(3,false)],[(3,false),(4,false)],[(3,false),(5,false)],[(3,false),(6,false)],[(7,false)],[(8,false)],[(8,false),(9,false)],[(8,false),(10,false)],[(8,false),(11,false)],[(8,false),(12,false)],[(8,false),(13,false)],[(8,false),(14,false)],[(15,false)],[(16,false)],[(16,false),(17,false)],[(16,false),(18,false)],[(16,false),(19,false)],[(16,false),(20,false)],[(16,false)],[(16,false),(22,false)],[(16,false),(21,false),(23,false)],[(16,false),(24,false)],[(16,false),(25,false)]] [hB b1 (cExpr s.Value p1 c1 p2 c2 p3 c3)] [] [(26,false)] (yB [0]) ?_ ?_
      · refine Op<|Op<|Oq ?_<|Oq ?_<|Op<|Op<|Oq ?_<|Oq ?_<|Oq ?_<|Op<|Op<|Ox ?_<|Ox ?_<|Oq ?_<|Oq ?_<|Oq ?_<|Oq ?_<|Op<|Op<|Ox ?_<|Ox ?_<|Ox ?_<|Op<|Oq ?_<|Oq ?_<|Op<|Op<|On
        · intro I1 hf le1;refine yM [(7,vI s.Value.Kind)]<|uS 3 [(8,.bool (s.Value.Kind != 4))] ?_;rw [hc];exact yS iR
        · intro I1 hf le1;exact yM [(8,vY)]<|uS 4 [(9,vY)]<|yS iR
        · intro I1 hf le1;refine yM [(9,vY),(11,vI s.Value.Kind)]<|uS 7 [(12,.bool (s.Value.Kind != 5))] ?_;rw [hc1];exact yS iR
        · intro I1 hf le1;exact yM [(9,vY),(12,vF)]<|uS 8 [(13,vF)]<|yS iR
        · intro I1 hf le1;exact yM [(13,vF)]<|uS 9 [(14,vF)]<|yS iR
        · intro I1 hf le1;refine yM [(14,vF),(16,vS p3 s.Value.Kids c3)] ?_;have h3:=h3.mono le1;refine xS rfl rfl h3 hy ?_;intro ad ccs hat1 hrep;obtain ⟨p4,c4,p5,c5,p6,c6,rfl,h4,h5,h6⟩:=xV hrep;exact yO [] iR ⟨_,_,_,_,_,_,_,rfl,rfl,hat1,h4,h5,h6⟩
        · intro I1 hf le1;refine zF ?_;rintro _ _ ⟨rfl,rfl⟩;refine zF ?_;rintro _ _ ⟨ad,p4,c4,p5,c5,p6,c6,rfl,rfl,hat1,h4,h5,h6⟩;exact yM [(14,vF),(17,.pointer (some ad))]<|uS 13 [(18,.pointer (some ad))]<|yO [] iR ⟨_,_,_,_,_,_,_,rfl,rfl,hat1,h4,h5,h6⟩
        · intro I1 hf le1;refine zF ?_;rintro _ _ ⟨rfl,rfl⟩;refine zF ?_;rintro _ _ ⟨ad1,p41,c41,p51,c51,p61,c61,rfl,rfl,hat11,h41,h51,h61⟩;exact yM [(14,vF),(18,.pointer (some ad1))]<|xM 0 hat11 [vI x.Kind] (vI x.Kind) rfl<|yS iR
        · intro I1 hf le1;refine yM [(14,vF),(19,vI x.Kind)]<|uS 15 [(20,.bool (x.Kind != 3))] ?_;rw [hc2];exact yS iR
        · intro I1 hf le1;exact yM [(14,vF),(20,vF)]<|uS 16 [(21,vF)]<|yS iR
        · intro I1 hf le1;exact yM [(21,vF)]<|uS 17 [(22,vF)]<|yS iR
        · intro I1 hf le1;refine yM [(22,vF),(24,vS p3 s.Value.Kids c3)] ?_;have h3:=h3.mono le1;refine xS rfl rfl h3 hy1 ?_;intro ad2 ccs1 hat2 hrep1;obtain ⟨p7,c7,p8,c8,p9,c9,rfl,h7,h8,h9⟩:=xV hrep1;exact yO [] iR ⟨_,_,_,_,_,_,_,rfl,rfl,hat2,h7,h8,h9⟩
        · intro I1 hf le1;refine zF ?_;rintro _ _ ⟨rfl,rfl⟩;refine zF ?_;rintro _ _ ⟨ad2,p7,c7,p8,c8,p9,c9,rfl,rfl,hat2,h7,h8,h9⟩;exact yM [(22,vF),(25,.pointer (some ad2))]<|uS 21 [(26,.pointer (some (ad2.add 4)))]<|yO [] iR ⟨_,_,_,_,_,_,_,rfl,rfl,hat2,h7,h8,h9⟩
        · intro I1 hf le1;refine zF ?_;rintro _ _ ⟨rfl,rfl⟩;refine zF ?_;rintro _ _ ⟨ad21,p71,c71,p81,c81,p91,c91,rfl,rfl,hat21,h71,h81,h91⟩;exact yM [(22,vF),(26,.pointer (some (ad21.add 4)))]<|xM 4 hat21 (cAccess x1.Read p81 c81) (vA (cAccess x1.Read p81 c81)) rfl<|yO [] iR ⟨_,_,rfl,rfl,h81⟩
        · intro I1 hf le1;refine yM [(22,vF),(28,vP b 0)] ?_;have hat:=hat.mono le1;exact xM 0 hat (cAccess s.Write p c) (vA (cAccess s.Write p c)) rfl<|yS iR
        intro I1 hf le1;refine zF ?_;rintro _ _ ⟨rfl,rfl⟩;refine zF ?_;rintro _ _ ⟨p811,c811,rfl,rfl,h811⟩;refine yM [(22,vF),(27,vA (cAccess x1.Read p811 c811)),(29,vA (cAccess s.Write p c))] ?_;have H:=iS I1;have h:=h.mono le1;refine vJ (eO x1.Read s.Write _ hy2 h811 h) ?_;intro I04 le3;have H:=H.trans le3;exact yS H
      intro I05 le4;refine yM [(1,vP b 0),(3,vP b1 0),(32,.bool (!y))] ?_;have H:=H.trans le4;exact yH rfl<|yT [(1,vP b 0),(3,vP b1 0),(32,.bool (!y))]<|zV (ct N H)
   | false =>
    have hM05:=zL hc ho0;obtain ⟨x2,hy3,N⟩:=zB hM05;cases hc3:(x2.Kind != 3) with
    | true =>
     have hM06:=zP hc3 N;refine wA [.p (vP b1 0) [],.p (vI s.Value.Kind) [0],.q vF,.q vF,.p undef [],.p undef [],.p undef [],.p vF [],.p vF [],.p (vP b1 6) [],.p (vS p3 s.Value.Kids c3) [0],.x (fun I' v hx=>∃ ad3 p10 c10 p11 c11 p12 c12,v=.pointer (some ad3)∧hx=[]∧(At I' ad3 (cExpr x2 p10 c10 p11 c11 p12 c12))∧(S4 I' p10 x2.Index.Coefs c10)∧(S4 I' p11 x2.Read.Subs c11)∧(S4 I' p12 x2.Kids c12)),.x (fun I' v hx=>∃ ad31 p101 c101 p111 c111 p121 c121,v=.pointer (some ad31)∧hx=[]∧(At I' ad31 (cExpr x2 p101 c101 p111 c111 p121 c121))∧(S4 I' p101 x2.Index.Coefs c101)∧(S4 I' p111 x2.Read.Subs c111)∧(S4 I' p121 x2.Kids c121)),.q (vI x2.Kind),.q vY,.q vY,.q vY,.p undef [],.p undef [],.p undef [],.p undef [],.p undef [],.p undef [],.p undef [],.p undef [],.p undef [],.p vY []] [[],[(0,false)],[(1,false)],[(2,false)],[(3,false)],[(3,false),(4,false)],[(3,false),(5,false)],[(3,false),(6,false)],[(7,false)],[(8,false)],[(8,false),(9,false)],[(8,false),(10,false)],[(8,false),(11,false)],[(8,false),(12,false)],[(8,false),(13,false)],[(8,false),(14,false)],[(15,false)],[(16,false)],[(16,false),(17,false)],[(16,false),(18,false)],[(16,false),(19,false)],[(16,false),(20,false)],[(16,false)],[(16,false),(22,false)],[(16,false),(21,false),(23,false)],[(16,false),(24,false)],[(16,false),(25,false)]] [hB b1 (cExpr s.Value p1 c1 p2 c2 p3 c3)] [] [(26,false)] (yB [0]) ?_ ?_
     · refine Op<|Op<|Oq ?_<|Oq ?_<|Op<|Op<|Op<|Op<|Op<|Op<|Op<|Ox ?_<|Ox ?_<|Oq ?_<|Oq ?_<|Oq ?_<|Oq ?_<|Op<|Op<|Op<|Op<|Op<|Op<|Op<|Op<|Op<|Op<|On
       · intro I1 hf le1;refine yM [(7,vI s.Value.Kind)]<|uS 3 [(8,.bool (s.Value.Kind != 4))] ?_;rw [hc];exact yS iR
       · intro I1 hf le1;exact yM [(8,vF)]<|uS 4 [(9,vF)]<|yS iR
       · intro I1 hf le1;refine yM [(14,vF),(16,vS p3 s.Value.Kids c3)] ?_;have h3:=h3.mono le1;refine xS rfl rfl h3 hy3 ?_;intro ad3 ccs2 hat3 hrep2;obtain ⟨p10,c10,p11,c11,p12,c12,rfl,h11,h12,h13⟩:=xV hrep2;exact yO [] iR ⟨_,_,_,_,_,_,_,rfl,rfl,hat3,h11,h12,h13⟩
       · intro I1 hf le1;refine zF ?_;rintro _ _ ⟨rfl,rfl⟩;refine zF ?_;rintro _ _ ⟨ad3,p10,c10,p11,c11,p12,c12,rfl,rfl,hat3,h11,h12,h13⟩;exact yM [(14,vF),(17,.pointer (some ad3))]<|uS 13 [(18,.pointer (some ad3))]<|yO [] iR ⟨_,_,_,_,_,_,_,rfl,rfl,hat3,h11,h12,h13⟩
       · intro I1 hf le1;refine zF ?_;rintro _ _ ⟨rfl,rfl⟩;refine zF ?_;rintro _ _ ⟨ad31,p101,c101,p111,c111,p121,c121,rfl,rfl,hat31,h111,h121,h131⟩;exact yM [(14,vF),(18,.pointer (some ad31))]<|xM 0 hat31 [vI x2.Kind] (vI x2.Kind) rfl<|yS iR
       · intro I1 hf le1;refine yM [(14,vF),(19,vI x2.Kind)]<|uS 15 [(20,.bool (x2.Kind != 3))] ?_;rw [hc3];exact yS iR
       · intro I1 hf le1;exact yM [(14,vF),(20,vY)]<|uS 16 [(21,vY)]<|yS iR
       intro I1 hf le1;exact yM [(21,vY)]<|uS 17 [(22,vY)]<|yS iR
     intro I06 le5;refine yM [(1,vP b 0),(3,vP b1 0),(32,vY)] ?_;have H:=H.trans le5;exact yH rfl<|yT [(1,vP b 0),(3,vP b1 0),(32,vY)]<|zV (ct hM06 H)
    | false =>
     have hM07:=zL hc3 N;obtain ⟨x3,hy4,N⟩:=zB hM07;obtain ⟨y1,hy5,N⟩:=zB N;refine wA [.p (vP b1 0) [],.p (vI s.Value.Kind) [0],.q vF,.q vF,.p undef [],.p undef [],.p undef [],.p vF [],.p vF [],.p (vP b1 6) [],.p (vS p3 s.Value.Kids c3) [0],.x (fun I' v hx=>∃ ad3 p10 c10 p11 c11 p12 c12,v=.pointer (some ad3)∧hx=[]∧(At I' ad3 (cExpr x2 p10 c10 p11 c11 p12 c12))∧(S4 I' p10 x2.Index.Coefs c10)∧(S4 I' p11 x2.Read.Subs c11)∧(S4 I' p12 x2.Kids c12)),.x (fun I' v hx=>∃ ad31 p101 c101 p111 c111 p121 c121,v=.pointer (some ad31)∧hx=[]∧(At I' ad31 (cExpr x2 p101 c101 p111 c111 p121 c121))∧(S4 I' p101 x2.Index.Coefs c101)∧(S4 I' p111 x2.Read.Subs c111)∧(S4 I' p121 x2.Kids c121)),.q (vI x2.Kind),.q vF,.q vF,.q vF,.p (vP b1 6) [],.p (vS p3 s.Value.Kids c3) [0],.x (fun I' v hx=>∃ ad4 p13 c13 p14 c14 p15 c15,v=.pointer (some ad4)∧hx=[]∧(At I' ad4 (cExpr x3 p13 c13 p14 c14 p15 c15))∧(S4 I' p13 x3.Index.Coefs c13)∧(S4 I' p14 x3.Read.Subs c14)∧(S4 I' p15 x3.Kids c15)),.x (fun I' v hx=>∃ ad41 p131 c131 p141 c141 p151 c151,v=.pointer (some (ad41.add 4))∧hx=[]∧(At I' ad41 (cExpr x3 p131 c131 p141 c141 p151 c151))∧(S4 I' p131 x3.Index.Coefs c131)∧(S4 I' p141 x3.Read.Subs c141)∧(S4 I' p151 x3.Kids c151)),.x (fun I' v hx=>∃ p1411 c1411,v=vA (cAccess x3.Read p1411 c1411)∧hx=[]∧(S4 I' p1411 x3.Read.Subs c1411)),.p (vP b 0) [],.q (vA (cAccess s.Write p c)),.q (.bool y1),.p (.bool (!y1)) [],.p (.bool (!y1)) []] [[],[(0,false)],[(1,false)],[(2,false)],[(3,false)],[(3,false),(4,false)],[(3,false),(5,false)],[(3,false),(6,false)],[(7,false)],[(8,false)],[(8,false),(9,false)],[(8,false),(10,false)],[(8,false),(11,false)],[(8,false),(12,false)],[(8,false),(13,false)],[(8,false),(14,false)],[(15,false)],[(16,false)],[(16,false),(17,false)],[(16,false),(18,false)],[(16,false),(19,false)],[(16,false),(20,false)],[(16,false)],[(16,false),(22,false)],[(16,false),(21,false),(23,false)],[(16,false),(24,false)],[(16,false),(25,false)]] [hB b1 (cExpr s.Value p1 c1 p2 c2 p3 c3)] [] [(26,false)] (yB [0]) ?_ ?_
     · refine Op<|Op<|Oq ?_<|Oq ?_<|Op<|Op<|Op<|Op<|Op<|Op<|Op<|Ox ?_<|Ox ?_<|Oq ?_<|Oq ?_<|Oq ?_<|Oq ?_<|Op<|Op<|Ox ?_<|Ox ?_<|Ox ?_<|Op<|Oq ?_<|Oq ?_<|Op<|Op<|On
       · intro I1 hf le1;refine yM [(7,vI s.Value.Kind)]<|uS 3 [(8,.bool (s.Value.Kind != 4))] ?_;rw [hc];exact yS iR
       · intro I1 hf le1;exact yM [(8,vF)]<|uS 4 [(9,vF)]<|yS iR
       · intro I1 hf le1;refine yM [(14,vF),(16,vS p3 s.Value.Kids c3)] ?_;have h3:=h3.mono le1;refine xS rfl rfl h3 hy3 ?_;intro ad3 ccs2 hat3 hrep2;obtain ⟨p10,c10,p11,c11,p12,c12,rfl,h11,h12,h13⟩:=xV hrep2;exact yO [] iR ⟨_,_,_,_,_,_,_,rfl,rfl,hat3,h11,h12,h13⟩
       · intro I1 hf le1;refine zF ?_;rintro _ _ ⟨rfl,rfl⟩;refine zF ?_;rintro _ _ ⟨ad3,p10,c10,p11,c11,p12,c12,rfl,rfl,hat3,h11,h12,h13⟩;exact yM [(14,vF),(17,.pointer (some ad3))]<|uS 13 [(18,.pointer (some ad3))]<|yO [] iR ⟨_,_,_,_,_,_,_,rfl,rfl,hat3,h11,h12,h13⟩
       · intro I1 hf le1;refine zF ?_;rintro _ _ ⟨rfl,rfl⟩;refine zF ?_;rintro _ _ ⟨ad31,p101,c101,p111,c111,p121,c121,rfl,rfl,hat31,h111,h121,h131⟩;exact yM [(14,vF),(18,.pointer (some ad31))]<|xM 0 hat31 [vI x2.Kind] (vI x2.Kind) rfl<|yS iR
       · intro I1 hf le1;refine yM [(14,vF),(19,vI x2.Kind)]<|uS 15 [(20,.bool (x2.Kind != 3))] ?_;rw [hc3];exact yS iR
       · intro I1 hf le1;exact yM [(14,vF),(20,vF)]<|uS 16 [(21,vF)]<|yS iR
       · intro I1 hf le1;exact yM [(21,vF)]<|uS 17 [(22,vF)]<|yS iR
       · intro I1 hf le1;refine yM [(22,vF),(24,vS p3 s.Value.Kids c3)] ?_;have h3:=h3.mono le1;refine xS rfl rfl h3 hy4 ?_;intro ad4 ccs3 hat4 hrep3;obtain ⟨p13,c13,p14,c14,p15,c15,rfl,h14,h15,h16⟩:=xV hrep3;exact yO [] iR ⟨_,_,_,_,_,_,_,rfl,rfl,hat4,h14,h15,h16⟩
       · intro I1 hf le1;refine zF ?_;rintro _ _ ⟨rfl,rfl⟩;refine zF ?_;rintro _ _ ⟨ad4,p13,c13,p14,c14,p15,c15,rfl,rfl,hat4,h14,h15,h16⟩;exact yM [(22,vF),(25,.pointer (some ad4))]<|uS 21 [(26,.pointer (some (ad4.add 4)))]<|yO [] iR ⟨_,_,_,_,_,_,_,rfl,rfl,hat4,h14,h15,h16⟩
       · intro I1 hf le1;refine zF ?_;rintro _ _ ⟨rfl,rfl⟩;refine zF ?_;rintro _ _ ⟨ad41,p131,c131,p141,c141,p151,c151,rfl,rfl,hat41,h141,h151,h161⟩;exact yM [(22,vF),(26,.pointer (some (ad41.add 4)))]<|xM 4 hat41 (cAccess x3.Read p141 c141) (vA (cAccess x3.Read p141 c141)) rfl<|yO [] iR ⟨_,_,rfl,rfl,h151⟩
       · intro I1 hf le1;refine yM [(22,vF),(28,vP b 0)] ?_;have hat:=hat.mono le1;exact xM 0 hat (cAccess s.Write p c) (vA (cAccess s.Write p c)) rfl<|yS iR
       intro I1 hf le1;refine zF ?_;rintro _ _ ⟨rfl,rfl⟩;refine zF ?_;rintro _ _ ⟨p1411,c1411,rfl,rfl,h1511⟩;refine yM [(22,vF),(27,vA (cAccess x3.Read p1411 c1411)),(29,vA (cAccess s.Write p c))] ?_;have H:=iS I1;have h:=h.mono le1;refine vJ (eO x3.Read s.Write _ hy5 h1511 h) ?_;intro I07 le6;have H:=H.trans le6;exact yS H
     intro I08 le7;refine yM [(1,vP b 0),(3,vP b1 0),(32,.bool (!y1))] ?_;have H:=H.trans le7;exact yH rfl<|yT [(1,vP b 0),(3,vP b1 0),(32,.bool (!y1))]<|zV (ct N H)
 rintro I01 hs2 m2 ⟨t32,heq,le8,rfl,rfl⟩;subst o0;have h:=h.mono le8;have h1:=h1.mono le8;have h2:=h2.mono le8;have h3:=h3.mono le8;have hat:=hat.mono le8;refine zM<|yL hMc ?_ ?_
 · intro hc4 N;refine yF [(2,vF)]<|xG<|zH ?_;obtain rfl:=zC N;exact wN
 intro hc4 N;refine zW<|xD<|yD 2 [0] [(34,vS p3 s.Value.Kids c3)]<|bE N fun x4 hy6 N=>xS rfl rfl h3 hy6 ?_;intro ad5 ccs4 hat5 hrep4;obtain ⟨p16,c16,p17,c17,p18,c18,rfl,h18,h19,h20⟩:=xV hrep4;refine xM 0 hat5 (cExpr x4 p16 c16 p17 c17 p18 c18) (vA (cExpr x4 p16 c16 p17 c17 p18 c18)) rfl<|bE N fun y2 hy7 N=>xT (zBu x4 _ hy7 h18 h19 h20) ?_;rintro I09 hs2 v2 k2 le9 - ⟨v017,rfl,rfl,h21⟩ -;have h:=h.mono le9;have h1:=h1.mono le9;have h2:=h2.mono le9;have h3:=h3.mono le9;have hat:=hat.mono le9;obtain ⟨p19,c19,rfl⟩:=h21.form;refine yD 6 [] [(38,.func (.func 124) ⟨[]⟩ ⟨[vP b 0]⟩)] ?_;have hf0:FV1 Tryz.prog I09 [] (.func (.func 124) ⟨[]⟩ ⟨[vP b 0]⟩) (fun x0=>mF x0 s):=by
   refine FV1.intro ?_;intro I1 le1 x0 r u0 hF k0;obtain ⟨_,rfl,k0⟩:=k0;obtain ⟨p20,c20,rfl,h22⟩:=pM k0;exact (zDP x0 s r hF h22 (h.mono le1) (h1.mono le1) (h2.mono le1) (h3.mono le1) (hat.mono le1)).mono (by rintro k i hs u ⟨v0,rfl,rfl,h⟩; exact ⟨rfl,h⟩)
 obtain ⟨y3,hy8,N⟩:=zB N;refine xT (rA y2 (fun x0=>mF x0 s) _ hy8 h21 hf0) ?_;rintro I010 hs2 v2 k2 le10 - ⟨v019,rfl,rfl,rfl⟩ -;refine yC [] [(2,.bool (!y3))]<|zM<|yX ?_;obtain rfl:=zC N;exact wN
def jP (r:Str×Bool):KT:=fun kk I' hs' v=>
  ∃ v0 v1,hs'=[]∧v=tupV [v0,v1]∧v0=.string ⟨⟨r.1.l⟩⟩∧v1=.bool r.2
def kE (p:zK) (at0:Int):Option (Str×Bool):=do
 let (y1,y2)←tJ p
 let t32←(do
   if (!y2) then
    pure true
   else
    let y3←wD at0 0 (W ((y1.length:Int) - 1))
    if (!y3) then
     pure true
    else
     let x←idx y1 at0
     let y4←nS p x
     let y5←gJ y4
     pure (!y5)
     : Option Bool)
 if t32 then
  pure ((⟨[]⟩:Str),false)
 else
  let x1←idx y1 at0
  let y6←nS p x1
  pure (y6.Write.Array,true)
theorem zAa:∀ p at0 r,kE p at0=some r→∀ {I:Imm}{p1 c p2 c1},(S4 I p1 p.Arrays c)→(S4 I p2 p.Parts c1)→RT 20 [vA (cProg p p1 c p2 c1),vI at0] I [] (jP  r):=by
 intro p at0 r N I p1 c p2 c1 h h1;unfold kE at N;refine zY (fn:=Tryz.f20) (c:=(bodyOf Tryz.f20)) Tryz.func20 rfl rfl ?_;rintro B - -;have H:=iS I;refine yK<|uD (cProg p p1 c p2 c1) ?_;intro b hb;refine yC [] []<|xD<|yD 1 [0] [(9,vA (cProg p p1 c p2 c1))] ?_;obtain ⟨⟨y1,y2⟩,hy,N⟩:=zB N;refine xT (jB p _ hy h h1) ?_;rintro I0 hs2 v2 k2 le - ⟨v0,v01,rfl,rfl,h2,rfl⟩ -;have h:=h.mono le;have h1:=h1.mono le;have H:=H.trans le;obtain ⟨p3,c2,rfl⟩:=h2.form;refine yC [] [(6,vS p3 y1 c2),(7,.bool y2)]<|yI<|yG ?_;obtain ⟨o0,ho0,hMc⟩:=zB N;refine yU (fun I' hs' m'=>∃ (t32:Bool),o0=t32∧I0.le I'∧hs'=[hB b (cProg p p1 c p2 c1)]∧m'=[(1,vI at0),(2,vP b 0),(6,vS p3 y1 c2),(32,.bool t32)]) ?_ ?_
 · have H:=iS I0;cases hc:(!y2) with
   | true =>
    have hM0:=zP hc ho0;refine wA [.p (.bool y2) [],.q vY,.q vY,.p undef [],.p undef [],.p undef [],.p undef [],.p undef [],.p undef [],.p vY [],.p vY [],.p undef [],.p undef [],.p undef [],.p undef [],.p undef [],.p undef [],.p undef [],.p undef [],.p vY []] [[],[(0,false)],[(1,false)],[(2,false)],[(2,false)],[(2,false),(4,false)],[(2,false),(5,false)],[(2,false),(3,false),(6,false)],[(2,false),(7,false)],[(2,false),(8,false)],[(9,false)],[(10,false)],[(10,false)],[(10,false)],[(10,false),(12,false),(13,false)],[(10,false),(14,false)],[(10,false),(11,false),(15,false)],[(10,false),(16,false)],[(10,false),(17,false)],[(10,false),(18,false)]] [hB b (cProg p p1 c p2 c1)] [] [(19,false)] (yB [0]) ?_ ?_
    · refine Op<|Oq ?_<|Oq ?_<|Op<|Op<|Op<|Op<|Op<|Op<|Op<|Op<|Op<|Op<|Op<|Op<|Op<|Op<|Op<|Op<|Op<|On
      · intro I1 hf le1;refine yM [(13,.bool y2)]<|uS 2 [(14,.bool (!y2))] ?_;rw [hc];exact yS iR
      intro I1 hf le1;exact yM [(14,vY)]<|uS 3 [(15,vY)]<|yS iR
    intro I02 le1;refine yM [(1,vI at0),(2,vP b 0),(6,vS p3 y1 c2),(32,vY)] ?_;have H:=H.trans le1;exact yH rfl<|yT [(1,vI at0),(2,vP b 0),(6,vS p3 y1 c2),(32,vY)]<|zV (ct hM0 H)
   | false =>
    have hM01:=zL hc ho0;obtain ⟨y3,hy1,N⟩:=zB hM01;cases hc1:(!y3) with
    | true =>
     have hM02:=zP hc1 N;refine wA [.p (.bool y2) [],.q vF,.q vF,.p (vI at0) [],.p (vS p3 y1 c2) [],.p (vI (y1.length:Int)) [],.p (vI (W ((y1.length:Int) - 1))) [],.q (.bool y3),.q vY,.q vY,.q vY,.p undef [],.p undef [],.p undef [],.p undef [],.p undef [],.p undef [],.p undef [],.p undef [],.p vY []] [[],[(0,false)],[(1,false)],[(2,false)],[(2,false)],[(2,false),(4,false)],[(2,false),(5,false)],[(2,false),(3,false),(6,false)],[(2,false),(7,false)],[(2,false),(8,false)],[(9,false)],[(10,false)],[(10,false)],[(10,false)],[(10,false),(12,false),(13,false)],[(10,false),(14,false)],[(10,false),(11,false),(15,false)],[(10,false),(16,false)],[(10,false),(17,false)],[(10,false),(18,false)]] [hB b (cProg p p1 c p2 c1)] [] [(19,false)] (yB [0]) ?_ ?_
     · refine Op<|Oq ?_<|Oq ?_<|Op<|Op<|Op<|Op<|Oq ?_<|Oq ?_<|Oq ?_<|Oq ?_<|Op<|Op<|Op<|Op<|Op<|Op<|Op<|Op<|Op<|On
       · intro I1 hf le1;refine yM [(13,.bool y2)]<|uS 2 [(14,.bool (!y2))] ?_;rw [hc];exact yS iR
       · intro I1 hf le1;exact yM [(14,vF)]<|uS 3 [(15,vF)]<|yS iR
       · intro I1 hf le1;refine yM [(15,vF),(16,vI at0),(19,vI (W ((y1.length:Int) - 1)))] ?_;have H:=iS I1;refine vJ (wF at0 0 (W ((y1.length:Int) - 1)) _ hy1 ) ?_;intro I03 le2;have H:=H.trans le2;exact yS H
       · intro I1 hf le1;refine yM [(15,vF),(20,.bool y3)]<|uS 9 [(21,.bool (!y3))] ?_;rw [hc1];exact yS iR
       · intro I1 hf le1;exact yM [(15,vF),(21,vY)]<|uS 10 [(22,vY)]<|yS iR
       intro I1 hf le1;exact yM [(22,vY)]<|uS 11 [(23,vY)]<|yS iR
     intro I04 le3;refine yM [(1,vI at0),(2,vP b 0),(6,vS p3 y1 c2),(32,vY)] ?_;have H:=H.trans le3;exact yH rfl<|yT [(1,vI at0),(2,vP b 0),(6,vS p3 y1 c2),(32,vY)]<|zV (ct hM02 H)
    | false =>
     have hM03:=zL hc1 N;obtain ⟨x,hy2,N⟩:=zB hM03;obtain ⟨y4,hy3,N⟩:=zB N;obtain ⟨y5,hy4,N⟩:=zB N;refine wA [.p (.bool y2) [],.q vF,.q vF,.p (vI at0) [],.p (vS p3 y1 c2) [],.p (vI (y1.length:Int)) [],.p (vI (W ((y1.length:Int) - 1))) [],.q (.bool y3),.q vF,.q vF,.q vF,.p (vA (cProg p p1 c p2 c1)) [0],.p (vS p3 y1 c2) [],.p (vI at0) [],.x (fun I' v hx=>∃ ad p4 c3,v=.pointer (some ad)∧hx=[]∧(At I' ad (cInst x p4 c3))∧(S4 I' p4 x.Point c3)),.x (fun I' v hx=>∃ p41 c31,v=vA (cInst x p41 c31)∧hx=[]∧(S4 I' p41 x.Point c31)),.x (fun I' v hx=>∃ p5 c4 p6 c5 p7 c6 p8 c7,v=vA (cStmt y4 p5 c4 p6 c5 p7 c6 p8 c7)∧hx=[]∧(S4 I' p5 y4.Write.Subs c4)∧(S4 I' p6 y4.Value.Index.Coefs c5)∧(S4 I' p7 y4.Value.Read.Subs c6)∧(S4 I' p8 y4.Value.Kids c7)),.q (.bool y5),.p (.bool (!y5)) [],.p (.bool (!y5)) []] [[],[(0,false)],[(1,false)],[(2,false)],[(2,false)],[(2,false),(4,false)],[(2,false),(5,false)],[(2,false),(3,false),(6,false)],[(2,false),(7,false)],[(2,false),(8,false)],[(9,false)],[(10,false)],[(10,false)],[(10,false)],[(10,false),(12,false),(13,false)],[(10,false),(14,false)],[(10,false),(11,false),(15,false)],[(10,false),(16,false)],[(10,false),(17,false)],[(10,false),(18,false)]] [hB b (cProg p p1 c p2 c1)] [] [(19,false)] (yB [0]) ?_ ?_
     · refine Op<|Oq ?_<|Oq ?_<|Op<|Op<|Op<|Op<|Oq ?_<|Oq ?_<|Oq ?_<|Oq ?_<|Op<|Op<|Op<|Ox ?_<|Ox ?_<|Ox ?_<|Oq ?_<|Op<|Op<|On
       · intro I1 hf le1;refine yM [(13,.bool y2)]<|uS 2 [(14,.bool (!y2))] ?_;rw [hc];exact yS iR
       · intro I1 hf le1;exact yM [(14,vF)]<|uS 3 [(15,vF)]<|yS iR
       · intro I1 hf le1;refine yM [(15,vF),(16,vI at0),(19,vI (W ((y1.length:Int) - 1)))] ?_;have H:=iS I1;refine vJ (wF at0 0 (W ((y1.length:Int) - 1)) _ hy1 ) ?_;intro I03 le2;have H:=H.trans le2;exact yS H
       · intro I1 hf le1;refine yM [(15,vF),(20,.bool y3)]<|uS 9 [(21,.bool (!y3))] ?_;rw [hc1];exact yS iR
       · intro I1 hf le1;exact yM [(15,vF),(21,vF)]<|uS 10 [(22,vF)]<|yS iR
       · intro I1 hf le1;exact yM [(22,vF)]<|uS 11 [(23,vF)]<|yS iR
       · intro I1 hf le1;refine yM [(23,vF),(25,vS p3 y1 c2),(26,vI at0)] ?_;have h2:=h2.mono le1;refine xS rfl rfl h2 hy2 ?_;intro ad ccs hat hrep;obtain ⟨p4,c3,rfl,h5⟩:=oG hrep;exact yO [] iR ⟨_,_,_,rfl,rfl,hat,h5⟩
       · intro I1 hf le1;refine zF ?_;rintro _ _ ⟨rfl,rfl⟩;refine zF ?_;rintro _ _ ⟨ad,p4,c3,rfl,rfl,hat,h5⟩;exact yM [(23,vF),(27,.pointer (some ad))]<|xM 0 hat (cInst x p4 c3) (vA (cInst x p4 c3)) rfl<|yO [] iR ⟨_,_,rfl,rfl,h5⟩
       · intro I1 hf le1;refine zF ?_;rintro _ _ ⟨rfl,rfl⟩;refine zF ?_;rintro _ _ ⟨rfl,rfl⟩;refine zF ?_;rintro _ _ ⟨p41,c31,rfl,rfl,h51⟩;refine yM [(23,vF),(24,vA (cProg p p1 c p2 c1)),(28,vA (cInst x p41 c31))] ?_;have H:=iS I1;have h:=h.mono le1;have h1:=h1.mono le1;refine xT (fE p x _ hy3 h h1 h51) ?_;rintro I05 hs2 v2 k2 le4 - ⟨v04,rfl,rfl,⟨cs,rfl,h6⟩⟩ -;have H:=H.trans le4;obtain ⟨p5,c4,p6,c5,p7,c6,p8,c7,rfl,h7,h8,h9,h10⟩:=tQ h6;exact yO [] H ⟨_,_,_,_,_,_,_,_,rfl,rfl,h7,h8,h9,h10⟩
       intro I1 hf le1;refine zF ?_;rintro _ _ ⟨rfl,rfl⟩;refine zF ?_;rintro _ _ ⟨p5,c4,p6,c5,p7,c6,p8,c7,rfl,rfl,h7,h8,h9,h10⟩;refine yM [(23,vF),(29,vA (cStmt y4 p5 c4 p6 c5 p7 c6 p8 c7))] ?_;have H:=iS I1;refine vJ (zAl y4 _ hy4 h7 h8 h9 h10) ?_;intro I06 le5;have H:=H.trans le5;exact yS H
     intro I07 le6;refine yM [(1,vI at0),(2,vP b 0),(6,vS p3 y1 c2),(32,.bool (!y5))] ?_;have H:=H.trans le6;exact yH rfl<|yT [(1,vI at0),(2,vP b 0),(6,vS p3 y1 c2),(32,.bool (!y5))]<|zV (ct N H)
 rintro I01 hs2 m2 ⟨t32,heq,le7,rfl,rfl⟩;subst o0;have h2:=h2.mono le7;have h:=h.mono le7;have h1:=h1.mono le7;have H:=H.trans le7;refine zM<|yL hMc ?_ ?_
 · intro hc2 N;refine yF [(4,vT ([])),(5,vF)]<|xG<|zH ?_;obtain rfl:=zC N;exact xC ⟨_,_,(.tmp rfl (.tmp rfl ResV.nil)),zR,⟨_,_,rfl,rfl,rfl,rfl⟩⟩
 intro hc2 N;refine zW<|zM<|yG ?_;obtain ⟨x1,hy5,N⟩:=zB N;obtain ⟨y6,hy6,N⟩:=zB N;refine wA [.p (vA (cProg p p1 c p2 c1)) [0],.p (vS p3 y1 c2) [],.p (vI at0) [],.x (fun I' v hx=>∃ ad1 p9 c8,v=.pointer (some ad1)∧hx=[]∧(At I' ad1 (cInst x1 p9 c8))∧(S4 I' p9 x1.Point c8)),.x (fun I' v hx=>∃ p91 c81,v=vA (cInst x1 p91 c81)∧hx=[]∧(S4 I' p91 x1.Point c81)),.x (fun I' v hx=>∃ p10 c9 p11 c10 p12 c11 p13 c12,v=vA (cStmt y6 p10 c9 p11 c10 p12 c11 p13 c12)∧hx=[]∧(S4 I' p10 y6.Write.Subs c9)∧(S4 I' p11 y6.Value.Index.Coefs c10)∧(S4 I' p12 y6.Value.Read.Subs c11)∧(S4 I' p13 y6.Value.Kids c12)),.x (fun I' v hx=>∃ p101 c91,v=vA (cAccess y6.Write p101 c91)∧hx=[]∧(S4 I' p101 y6.Write.Subs c91)),.q (vT y6.Write.Array.l)] [[],[],[],[(1,false),(2,false)],[(3,false)],[(0,false),(4,false)],[(5,false)],[(6,false)]] [hB b (cProg p p1 c p2 c1)] [] [(7,false)] (yB [0]) ?_ ?_
 · refine Op<|Op<|Op<|Ox ?_<|Ox ?_<|Ox ?_<|Ox ?_<|Oq ?_<|On
   · intro I1 hf le1;refine yM [(34,vS p3 y1 c2),(35,vI at0)] ?_;have h2:=h2.mono le1;refine xS rfl rfl h2 hy5 ?_;intro ad1 ccs1 hat1 hrep1;obtain ⟨p9,c8,rfl,h12⟩:=oG hrep1;exact yO [] iR ⟨_,_,_,rfl,rfl,hat1,h12⟩
   · intro I1 hf le1;refine zF ?_;rintro _ _ ⟨ad1,p9,c8,rfl,rfl,hat1,h12⟩;exact yM [(36,.pointer (some ad1))]<|xM 0 hat1 (cInst x1 p9 c8) (vA (cInst x1 p9 c8)) rfl<|yO [] iR ⟨_,_,rfl,rfl,h12⟩
   · intro I1 hf le1;refine zF ?_;rintro _ _ ⟨rfl,rfl⟩;refine zF ?_;rintro _ _ ⟨p91,c81,rfl,rfl,h121⟩;refine yM [(33,vA (cProg p p1 c p2 c1)),(37,vA (cInst x1 p91 c81))] ?_;have H:=iS I1;have h:=h.mono le1;have h1:=h1.mono le1;refine xT (fE p x1 _ hy6 h h1 h121) ?_;rintro I08 hs2 v2 k2 le8 - ⟨v011,rfl,rfl,⟨cs1,rfl,h13⟩⟩ -;have H:=H.trans le8;obtain ⟨p10,c9,p11,c10,p12,c11,p13,c12,rfl,h14,h15,h16,h17⟩:=tQ h13;exact yO [] H ⟨_,_,_,_,_,_,_,_,rfl,rfl,h14,h15,h16,h17⟩
   · intro I1 hf le1;refine zF ?_;rintro _ _ ⟨p10,c9,p11,c10,p12,c11,p13,c12,rfl,rfl,h14,h15,h16,h17⟩;exact yM [(38,vA (cStmt y6 p10 c9 p11 c10 p12 c11 p13 c12))]<|uS 7 [(39,vA (cAccess y6.Write p10 c9))]<|yO [] iR ⟨_,_,rfl,rfl,h14⟩
   intro I1 hf le1;refine zF ?_;rintro _ _ ⟨p101,c91,rfl,rfl,h141⟩;exact yM [(39,vA (cAccess y6.Write p101 c91))]<|uS 8 [(40,vT y6.Write.Array.l)]<|yS iR
 intro I09 le9;refine yM [(40,vT y6.Write.Array.l)] ?_;refine yC [] [(4,vT y6.Write.Array.l),(5,vY)]<|zM<|yX ?_;obtain rfl:=zC N;exact xC ⟨_,_,(.tmp rfl (.tmp rfl ResV.nil)),zR,⟨_,_,rfl,rfl,rfl,rfl⟩⟩
end Go.LN
