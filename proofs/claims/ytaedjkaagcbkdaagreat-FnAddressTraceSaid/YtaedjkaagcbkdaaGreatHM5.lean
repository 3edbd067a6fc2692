/- Helper of the proof (see the last text). -/
import Derived.Test.YtaedjkaagcbkdaaGreatHM4
set_option linter.unusedVariables false
set_option linter.unusedSimpArgs false
namespace Go.LN
open Go.Proofs
set_option maxRecDepth 20000
def sU (b0:Nat) (r:Bool×uC):KT:=fun kk imm' hs' v=>
  ∃ v0 x0_0 y0_0 x0_2 y0_2 z0_2,hs'=[.blk b0 ⟨[.slice x0_0 r.2.nest.length y0_0,.int .i64 r.2.steps,.slice x0_2 r.2.out.length y0_2]⟩,.osl (.slice x0_2 r.2.out.length y0_2) (Rp.sz (List Int)) z0_2]∧v=tupV [v0]∧v0=.bool r.1∧SL imm' (.slice x0_0 r.2.nest.length y0_0) r.2.nest∧RepL (Rp.rep imm') (Rp.sz (List Int)) z0_2 r.2.out
mutual
def uN (w0:uC) (point:(List Int)):Option (Bool×uC):=do
 if ((point.length:Int) == (w0.nest.length:Int)) then
  let y←tI point
  let l←app 24 w0.out ([y]:List (List Int))
  pure ((decide ((l.length:Int) ≤ 120)),(uC.mk w0.nest w0.steps l))
 else
  let x←idx w0.nest (point.length:Int)
  let (y2,y3)←qU x point
  match←tJ (same point) (same y3) (same y2) w0.nest w0.steps w0.out with
  | .ret r0=>pure r0
  | .done (nest1,steps1,out1) =>
   pure (true,(uC.mk nest1 steps1 out1))
 partial_fixpoint
def tJ (point:(List Int)) (y3:Int) (n0:Int) (nest:List zI) (steps:Int) (out:List (List Int)):Option (Out (List zI×Int×List (List Int)) (Bool×uC)):=do
 if (decide (n0 < y3)) then
  let (t74,nest2,steps2,out2)←(do
    if (decide ((W ((W (steps + 1)) + 1)) > 1200)) then
     pure (true,nest,(W (steps + 1)),out)
    else
     let y4←tI point
     let l1←app 8 y4 ([n0]:List Int)
     let (y6,y7)←uN (uC.mk nest (W (steps + 1)) out) (same l1)
     pure ((!y6),y7.nest,y7.steps,y7.out)
      : Option (Bool×List zI×Int×List (List Int)))
  if t74 then
   pure (.ret (false,(uC.mk nest2 steps2 out2)))
  else
   tJ (same point) (same y3) (W (n0 + 1)) (same nest2) (same steps2) (same out2)
 else
  pure (.done (nest,steps,out))
 partial_fixpoint
end
theorem dP:(∀ (w0:uC) (point:(List Int)) r,uN w0 point=some r→∀ {imm:Imm}{r0:Nat}{p c p1 c1 cs p2 c2},(S4 imm p w0.nest c)→(RL imm cs w0.out)→(S4 imm p2 point c2)→Ret Tryz.prog 54 [vP r0 0,vS p2 point c2] imm [hB r0 [vS p w0.nest c,vI w0.steps,vS p1 w0.out c1],hO (List Int) (vS p1 w0.out c1) cs] (sU r0 r))∧(∀ (point:(List Int)) (y3:Int) (n0:Int) (nest:List zI) (steps:Int) (out:List (List Int)) o,tJ point y3 n0 nest steps out=some o→∀ {B}{imm0 imm:Imm}{Q}  {r0:Nat}{p2 c2 p7 c7 p8 c8 cs3},imm0.le imm→(S4 imm p2 point c2)→(S4 imm p7 nest c7)→(RL imm cs3 out)→(∀ gl a w,¬Q (.goto gl) a w)→(∀ a w,¬Q .outgrown a w)→(∀ (imm':Imm) (nest1:List zI) (steps1:Int) (out1:List (List Int)) (p9:Option Addr) (c9:Nat) (p10:Option Addr) (c10:Nat) (cs4:List Value),o=(.done (nest1,steps1,out1))→imm0.le imm'→(S4 imm' p9 nest1 c9)→(RL imm' cs4 out1)→T 75 B Q (.exit 0) imm' [hB r0 [vS p9 nest1 c9,vI steps1,vS p10 out1 c10],hO (List Int) (vS p10 out1 c10) cs4] [])→(∀ r imm' hs' m',o=(.ret r)→imm0.le imm'→RS Tryz.prog Tryz.f54 B (sU r0 r) imm' hs' m'→T 75 B Q .ret imm' hs' m')→J Tryz.prog 75 B (nav (bodyOf Tryz.f54) [1,1,1,0,1,0]) Q imm [hB r0 [vS p7 nest c7,vI steps,vS p8 out c8],hO (List Int) (vS p8 out c8) cs3] [(0,vP r0 0),(1,vS p2 point c2),(6,vI y3),(7,vI n0)]):=by
  refine uN.mutual_partial_correctness (fun w0 point r=>∀ {imm:Imm}{r0:Nat}{p c p1 c1 cs p2 c2},(S4 imm p w0.nest c)→(RL imm cs w0.out)→(S4 imm p2 point c2)→Ret Tryz.prog 54 [vP r0 0,vS p2 point c2] imm [hB r0 [vS p w0.nest c,vI w0.steps,vS p1 w0.out c1],hO (List Int) (vS p1 w0.out c1) cs] (sU r0 r)) (fun point y3 n0 nest steps out o=>∀ {B}{imm0 imm:Imm}{Q}  {r0:Nat}{p2 c2 p7 c7 p8 c8 cs3},imm0.le imm→(S4 imm p2 point c2)→(S4 imm p7 nest c7)→(RL imm cs3 out)→(∀ gl a w,¬Q (.goto gl) a w)→(∀ a w,¬Q .outgrown a w)→(∀ (imm':Imm) (nest1:List zI) (steps1:Int) (out1:List (List Int)) (p9:Option Addr) (c9:Nat) (p10:Option Addr) (c10:Nat) (cs4:List Value),o=(.done (nest1,steps1,out1))→imm0.le imm'→(S4 imm' p9 nest1 c9)→(RL imm' cs4 out1)→T 75 B Q (.exit 0) imm' [hB r0 [vS p9 nest1 c9,vI steps1,vS p10 out1 c10],hO (List Int) (vS p10 out1 c10) cs4] [])→(∀ r imm' hs' m',o=(.ret r)→imm0.le imm'→RS Tryz.prog Tryz.f54 B (sU r0 r) imm' hs' m'→T 75 B Q .ret imm' hs' m')→J Tryz.prog 75 B (nav (bodyOf Tryz.f54) [1,1,1,0,1,0]) Q imm [hB r0 [vS p7 nest c7,vI steps,vS p8 out c8],hO (List Int) (vS p8 out c8) cs3] [(0,vP r0 0),(1,vS p2 point c2),(6,vI y3),(7,vI n0)]) ?_ ?_
  · intro F_impl_walking_walk_l1 ih_impl_walking_walk_l1 w0 point r hM imm r0 p c p1 c1 cs p2 c2 h h1 h2;refine yH (fn:=Tryz.f54) (c:=(bodyOf Tryz.f54)) Tryz.func54 rfl rfl ?_;rintro B - -;have hle:=iS imm;refine zG<|zB<|yA [] []<|zF<|zG<|zG<|zB<|yA [0] [(15,.bool ((point.length:Int) == (w0.nest.length:Int)))]<|zF<|yO hM ?_ ?_
    · intro hc hM;refine zG ?_;obtain ⟨y,hy,hM⟩:=zC hM;obtain ⟨l,hy1,hM⟩:=zC hM;refine vC [.p (vP r0 0) [],.p (vP r0 0) [],.p (vP r0 0) [],.p (vP r0 2) [],.p (vS p1 w0.out c1) [0],.p (vS p2 point c2) [],.x (fun imm' v hx=>∃ p3 c3 cs1,v=vS p3 y c3∧hx=[hO Int (vS p3 y c3) cs1]∧(RL imm' cs1 y)),.x (fun imm' v hx=>∃ b,v=vS (some ⟨b,0,none⟩) ([y]:List (List Int)) 1∧hx=[]∧(SL imm' (vS (some ⟨b,0,none⟩) ([y]:List (List Int)) 1) ([y]:List (List Int)))),.x (fun imm' v hx=>∃ p4 c4 cs2,v=vS p4 l c4∧hx=[hO (List Int) (vS p4 l c4) cs2]∧(RL imm' cs2 l))] [[],[],[(1,false)],[(2,false)],[(3,false)],[],[(5,false)],[(6,true)],[(4,false),(7,false),(12,true)]] [hB r0 [vS p w0.nest c,vI w0.steps,vS p1 w0.out c1]] [[hO (List Int) (vS p1 w0.out c1) cs]] [(0,false),(8,true)] (zL [0,1] rfl (by decide)) ?_ ?_
      · refine Op<|Op<|Op<|Op<|Op<|Op<|Ox ?_<|Ox ?_<|Ox ?_<|On
        · intro imm1 hf le1;refine zE ?_;rintro _ _ ⟨rfl,rfl⟩;refine zM<|yG [(21,vS p2 point c2)] ?_;have hle:=iS imm1;have h2:=h2.mono le1;refine yQ (oK point _ hy h2) ?_;rintro imm0 hs2 v2 k2 le - ⟨p3,c3,cs1,rfl,rfl,h3⟩ -;have hle:=hle.trans le;exact zZ (hx:=[hO Int (vS p3 y c3) cs1]) rfl hle rfl (zK rfl) ⟨_,_,_,rfl,rfl,h3⟩
        · intro imm1 hf le1;refine zE ?_;rintro _ _ ⟨p3,c3,cs1,rfl,rfl,h3⟩;refine zM<|yG [(22,vS p3 y c3)] ?_;have hle:=iS imm1;refine yL 0 rfl ?_;intro imm01 le1 hl0;have h4:=SL.of_frozen hl0 le1 h3;have hle:=hle.trans le1;refine xV [vS p3 y c3] (List Int) ?_;intro b hb;have h5:RL imm01 [vS p3 y c3] ([y]:List (List Int)):=⟨[vS p3 y c3],_,rfl,rfl,⟨_,rfl,h4⟩,rfl⟩;refine yL 0 rfl ?_;intro imm02 le2 hl01;have h6:=SL.of_frozen hl01 le2 h5;have hle:=hle.trans le2;exact zZ (hx:=[]) rfl hle rfl (zK rfl) ⟨_,rfl,rfl,h6⟩
        intro imm1 hf le1;refine zE ?_;rintro _ _ ⟨rfl,rfl⟩;refine zE ?_;rintro _ _ ⟨b,rfl,rfl,h6⟩;refine zE ?_;rintro _ _ rfl;refine zM<|yG [(20,vS p1 w0.out c1),(23,vS (some ⟨b,0,none⟩) ([y]:List (List Int)) 1)] ?_;have hle:=iS imm1;have h1:=iM le1 h1;obtain ⟨ccs,k0,k01⟩:=h6;have h6:SL imm1 (vS (some ⟨b,0,none⟩) ([y]:List (List Int)) 1) ([y]:List (List Int)):=⟨_,k0,k01⟩;refine qQ 40 1 0 rfl rfl rfl h1 (.inl k0) k01 hy1 ?_;intro p4 c4 cs2 h7;exact uP (hs':=(hO (List Int) (vS p4 l c4) cs2::hB r0 [vS p w0.nest c,vI w0.steps,vS p1 w0.out c1]::hf)) rfl<|zZ (hx:=[hO (List Int) (vS p4 l c4) cs2]) rfl hle rfl (zK rfl) ⟨_,_,_,rfl,rfl,h7⟩
      intro imm03 le3;refine zE ?_;rintro _ _ ⟨rfl,rfl⟩;refine zE ?_;rintro _ _ ⟨p4,c4,cs2,rfl,rfl,h7⟩;refine zM<|yG [(0,vP r0 0),(16,vP r0 0),(24,vS p4 l c4)] ?_;have h:=h.mono le3;refine yK 11 [] [(26,vP r0 2)]<|xI 1 [vS p w0.nest c,vI w0.steps,vS p4 l c4] [hO (List Int) (vS p4 l c4) cs2,hB r0 [vS p w0.nest c,vI w0.steps,vS p4 l c4]] rfl rfl rfl rfl<|yN rfl<|zF<|zG<|zB<|yA [1] [(4,.bool (decide ((l.length:Int) ≤ 120)))]<|zF<|yI<|zP ?_;obtain rfl:=zD hM;exact yP ⟨_,_,(.tmp rfl ResV.nil),(zL [1,0] rfl (by decide)),⟨_,_,_,_,_,_,rfl,rfl,rfl,h,h7⟩⟩
    intro hc hM;refine yE<|zF<|zG<|zB<|yK 6 [0] [(37,vS p w0.nest c),(39,vI (point.length:Int))] ?_;obtain ⟨x,hy2,hM⟩:=zC hM;refine wD rfl rfl h hy2 ?_;intro ad ccs1 hat hrep;obtain ⟨v0,v01,rfl,h8,h9⟩:=vH hrep;obtain ⟨p5,c5,rfl⟩:=h8.form;obtain ⟨p6,c6,rfl⟩:=h9.form;refine xQ 0 hat (cLoop x p5 c5 p6 c6) (vA (cLoop x p5 c5 p6 c6)) rfl<|yK 9 [] [(42,vS p2 point c2)] ?_;obtain ⟨⟨y2,y3⟩,hy3,hM⟩:=zC hM;refine yQ (gX x point _ hy3 h8 h9 h2) ?_;rintro imm04 hs2 v2 k2 le4 - ⟨v02,v03,rfl,rfl,rfl,rfl⟩ -;have h2:=h2.mono le4;have h:=h.mono le4;have h1:=iM le4 h1;refine yA [] [(5,vI y2),(6,vI y3)]<|zF<|zG<|zG<|zB<|yA [] [(7,vI y2)]<|zF<|yC<|vG [(0,vP r0 0),(1,vS p2 point c2),(6,vI y3),(7,vI y2)] ?_;obtain ⟨o01,ho01,hMl⟩:=zC hM;refine ih_impl_walking_walk_l1 point y3 y2 w0.nest w0.steps w0.out o01 ho01 iR h2 h h1 (fun _ _ _ h=>h) (fun _ _ h=>h) ?_ ?_
    · intro imm09 nest1 steps1 out1 p9 c9 p10 c10 cs4 heq1 le9 h14 h15;subst o01;refine yD<|zF<|zG<|zB<|yA [] [(4,.bool true)]<|zF<|yI ?_;obtain rfl:=zD hMl;exact yP ⟨_,_,(.tmp rfl ResV.nil),(zL [0,1] rfl (by decide)),⟨_,_,_,_,_,_,rfl,rfl,rfl,h14,h15⟩⟩
    intro r0 imm9 hs9 m9 heq9 le9 hrs9;subst heq9;refine yF<|zP ?_;obtain rfl:=zD hMl;exact yP hrs9
  intro F_impl_walking_walk F_impl_walking_walk_l1 ih_impl_walking_walk ih_impl_walking_walk_l1 point y3 n0 nest steps out o hM B imm0 imm Q r0 p2 c2 p7 c7 p8 c8 cs3 hle h2 h12 h13 hg ho hx hr;refine xA hg ho<|zG<|zG<|zB<|yA [] [(49,.bool (decide (n0 < y3)))]<|zF<|yO hM ?_ ?_
  · intro hc1 hM;refine yE<|zF<|zG<|yC<|zG<|zB<|yK 7 [0] [(56,vI (W (steps + 1))),(58,vP r0 1)]<|xI 0 [vS p7 nest c7,vI (W (steps + 1)),vS p8 out c8] [hB r0 [vS p7 nest c7,vI (W (steps + 1)),vS p8 out c8],hO (List Int) (vS p8 out c8) cs3] rfl rfl rfl rfl<|yN rfl<|zF<|zG ?_;obtain ⟨o0,ho0,hMc⟩:=zC hM;refine yT (fun imm' hs' m'=>∃ (t74:Bool) (nest2:List zI) (steps2:Int) (out2:List (List Int)) (p11:Option Addr) (c11:Nat) (p12:Option Addr) (c12:Nat) (cs5:List Value),o0=(t74,nest2,steps2,out2)∧imm.le imm'∧(S4 imm' p11 nest2 c11)∧(RL imm' cs5 out2)∧hs'=[hB r0 [vS p11 nest2 c11,vI steps2,vS p12 out2 c12],hO (List Int) (vS p12 out2 c12) cs5]∧m'=[(0,vP r0 0),(1,vS p2 point c2),(6,vI y3),(7,vI n0),(74,.bool t74)]) ?_ ?_
    · have hle:=iS imm;refine zB<|yK 7 [0] [(65,.bool (decide ((W ((W (steps + 1)) + 1)) > 1200)))] ?_;cases hc2:(decide ((W ((W (steps + 1)) + 1)) > 1200)) with
      | true =>
       have hM0:=zV hc2 ho0
       try rw [hc2]
       exact yA [] [(74,.bool true)]<|yS [(0,vP r0 0),(1,vS p2 point c2),(6,vI y3),(7,vI n0),(74,.bool true)]<|yB ⟨_,_,_,_,_,_,_,_,_,(zD hM0).symm,hle,h12,h13,rfl,rfl⟩
      | false =>
       have hM01:=zT hc2 ho0
       try rw [hc2]
       refine yK 9 [] [(66,vP r0 0),(67,vS p2 point c2)] ?_;obtain ⟨y4,hy4,hM⟩:=zC hM01;refine yQ (oK point _ hy4 h2) ?_;rintro imm06 hs2 v2 k2 le5 - ⟨p13,c13,cs6,rfl,rfl,h18⟩ -;have h12:=h12.mono le5;have h13:=iM le5 h13;have hle:=hle.trans le5;refine yK 11 [] [(69,vI n0)]<|xV [vI n0] Int ?_;intro b1 hb1;have h19:RL imm06 [vI n0] ([n0]:List Int):=⟨[vI n0],_,rfl,rfl,rfl,rfl⟩;obtain ⟨l1,hy5,hM⟩:=zC hM;refine qQ 3 1 1 rfl rfl rfl h18 (.inr ⟨0,rfl⟩) h19 hy5 ?_;intro p14 c14 cs7 h20;refine rY (zL [1,2,3] (hs':=[hO Int (vS p14 l1 c14) cs7,hB r0 [vS p7 nest c7,vI (W (steps + 1)),vS p8 out c8],hO (List Int) (vS p8 out c8) cs3]) rfl (by decide))<|yL 0 rfl ?_;intro imm07 le6 hl02;have h21:=SL.of_frozen hl02 le6 h20;have h12:=h12.mono le6;have h13:=iM le6 h13;have hle:=hle.trans le6;obtain ⟨⟨y6,y7⟩,hy6,hM⟩:=zC hM;refine tV [hB r0 [vS p7 nest c7,vI (W (steps + 1)),vS p8 out c8],hO (List Int) (vS p8 out c8) cs3] [] (ih_impl_walking_walk (uC.mk nest (W (steps + 1)) out) l1 _ hy6 h12 h13 h21) ?_;rintro imm08 hs2 v2 k2 le7 - ⟨v04,p15,c15,p16,c16,cs8,rfl,rfl,rfl,h23,h24⟩ -;have hle:=hle.trans le7;exact yA [] [(74,.bool (!y6))]<|yS [(0,vP r0 0),(1,vS p2 point c2),(6,vI y3),(7,vI n0),(74,.bool (!y6))]<|yB ⟨_,_,_,_,_,_,_,_,_,(zD hM).symm,hle,h23,h24,rfl,rfl⟩
    rintro imm05 hs2 m2 ⟨t74,nest2,steps2,out2,p11,c11,p12,c12,cs5,heq,le8,h16,h17,rfl,rfl⟩;subst o0;have h2:=h2.mono le8;have hle:=hle.trans le8;refine zF<|yO hMc ?_ ?_
    · intro hc3 hM;exact zG<|zB<|yA [] [(4,.bool false)]<|zF<|yI<|yF<|zP<|zP<|hr _ _ _ _ (zD hM).symm hle ⟨_,_,(.tmp rfl ResV.nil),(zL [0,1] rfl (by decide)),⟨_,_,_,_,_,_,rfl,rfl,rfl,h16,h17⟩⟩
    intro hc3 hM;exact yE<|zY<|zF<|zB<|yA [] [(7,vI (W (n0 + 1)))]<|xB<|vG [(0,vP r0 0),(1,vS p2 point c2),(6,vI y3),(7,vI (W (n0 + 1)))]<|ih_impl_walking_walk_l1 point y3 (W (n0 + 1)) nest2 steps2 out2 _ hM hle h2 h16 h17 hg ho hx hr
  intro hc1 hM;exact yZ<|zS<|zS<|yS []<|hx _ _ _ _ _ _ _ _ _ (zD hM).symm hle h12 h13
theorem zAS:∀ (w0:uC) (point:(List Int)) r,uN w0 point=some r→∀ {imm:Imm}{r0:Nat}{p c p1 c1 cs p2 c2},(S4 imm p w0.nest c)→(RL imm cs w0.out)→(S4 imm p2 point c2)→Ret Tryz.prog 54 [vP r0 0,vS p2 point c2] imm [hB r0 [vS p w0.nest c,vI w0.steps,vS p1 w0.out c1],hO (List Int) (vS p1 w0.out c1) cs] (sU r0 r):=dP.1
def zAT (r:(List (List Int))×Bool):KT:=fun kk imm' hs' v=>
  ∃ v0 v1,hs'=[]∧v=tupV [v0,v1]∧SL imm' v0 r.1∧v1=.bool r.2
def pS (nest:(List zI)):Option ((List (List Int))×Bool):=do
 let y←qT nest
 if (!y) then
  pure (([]:List (List Int)),false)
 else
  let (y2,y3)←uN (uC.mk nest 0 ([]:List (List Int))) ([]:List Int)
  if (!y2) then
   pure (([]:List (List Int)),false)
  else
   pure (y3.out,true)
theorem zBT:∀ (nest:(List zI)) r,pS nest=some r→∀ {imm:Imm}{p c},(S4 imm p nest c)→Ret Tryz.prog 19 [vS p nest c] imm [] (zAT  r):=by
 intro nest r hM imm p c h;unfold pS at hM;refine yH (fn:=Tryz.f19) (c:=(bodyOf Tryz.f19)) Tryz.func19 rfl rfl ?_;rintro B - -;refine zG<|zB<|yA [] []<|zF<|zG<|zG<|zB<|yK 1 [] [(5,vS p nest c)] ?_;obtain ⟨y,hy,hM⟩:=zC hM;refine yQ (gW nest _ hy h) ?_;rintro imm0 hs2 v2 k2 le - ⟨v0,rfl,rfl,rfl⟩ -;have h:=h.mono le;refine yA [] [(7,.bool (!y))]<|zF<|yO hM ?_ ?_
 · intro hc hM;refine zG<|zB<|yA [] [(2,z0),(3,.bool false)]<|zF<|yI<|zP ?_;obtain rfl:=zD hM;exact yP ⟨_,_,(.tmp rfl (.tmp rfl ResV.nil)),zX,⟨_,_,rfl,rfl,(SL.nil _),rfl⟩⟩
 intro hc hM;refine yE<|zF<|zG<|zB<|yK 2 [] [(9,vA [vS p nest c,vI 0,z0])]<|tA [vS p nest c,vI 0,z0] ?_;intro b hb;refine yA [] [(4,vP b 0)]<|zF<|zG<|zG<|zB<|yK 1 [] [(11,vP b 0)]<|rY (uS (Rp.sz (List Int))) ?_;have h2:RL imm0 [] ([]:List (List Int)):=RepL.nil;refine rY (zL [1,0] (hs':=[hB b [vS p nest c,vI 0,vS none ([]:List (List Int)) 0],hO (List Int) (vS none ([]:List (List Int)) 0) []]) rfl (by decide)) ?_;obtain ⟨⟨y2,y3⟩,hy1,hM⟩:=zC hM;refine tV [hB b [vS p nest c,vI 0,vS none ([]:List (List Int)) 0],hO (List Int) (vS none ([]:List (List Int)) 0) []] [] (zAS (uC.mk nest 0 ([]:List (List Int))) ([]:List Int) _ hy1 h h2 (SL.nil _)) ?_;rintro imm01 hs2 v2 k2 le1 - ⟨v01,p1,c1,p2,c2,cs,rfl,rfl,rfl,h4,h5⟩ -;refine yA [] [(13,.bool (!y2))]<|zF<|yO hM ?_ ?_
 · intro hc1 hM;refine zG<|zB<|yA [] [(2,z0),(3,.bool false)]<|zF<|yI<|zP ?_;obtain rfl:=zD hM;exact yP ⟨_,_,(.tmp rfl (.tmp rfl ResV.nil)),zX,⟨_,_,rfl,rfl,(SL.nil _),rfl⟩⟩
 intro hc1 hM;refine yE<|zF<|zG<|zB<|yA [0] [(2,vS p2 y3.out c2),(3,.bool true)]<|zF<|yI<|xJ 1 rfl ?_;intro imm02 le2 hl0;have h6:=SL.of_frozen hl0 le2 h5;obtain rfl:=zD hM;exact yP ⟨_,_,(.tmp rfl (.tmp rfl ResV.nil)),zX,⟨_,_,rfl,rfl,h6,rfl⟩⟩
def zAk (r:Bool):KT:=fun kk imm' hs' v=>
  ∃ v0,hs'=[]∧v=tupV [v0]∧v0=.bool r
def rR (n0:Int):Option (Bool):=do
 let y←xP n0 (-9999) 9999
 pure (!y)
theorem zCM:∀ (n0:Int) r,rR n0=some r→∀ {imm:Imm} ,Ret Tryz.prog 121 [vI n0] imm [] (zAk  r):=by
 intro n0 r hM imm;unfold rR at hM;refine yH (fn:=Tryz.f121) (c:=(bodyOf Tryz.f121)) Tryz.func121 rfl rfl ?_;rintro B - -;refine zG<|zB<|yA [] []<|zF<|zG<|zB<|yK 1 [] [(3,vI n0)] ?_;obtain ⟨y,hy,hM⟩:=zC hM;refine yQ (xM n0 (-9999) 9999 _ hy ) ?_;rintro imm0 hs2 v2 k2 le - ⟨v0,rfl,rfl,rfl⟩ -;refine yA [] [(2,.bool (!y))]<|zF<|yI ?_;obtain rfl:=zD hM;exact yP ⟨_,_,(.tmp rfl ResV.nil),zX,⟨_,rfl,rfl,rfl⟩⟩
def zCN (r:Bool):KT:=fun kk imm' hs' v=>
  ∃ v0,hs'=[]∧v=tupV [v0]∧v0=.bool r
def oL (point:(List Int)):Option (Bool):=do
 let t2←(do
   if (decide ((point.length:Int) ≤ 4)) then
    let y←xG point rR
    pure (!y)
   else
    pure false
     : Option Bool)
 pure (id t2)
theorem dI:∀ (point:(List Int)) r,oL point=some r→∀ {imm:Imm}{p c},(S4 imm p point c)→Ret Tryz.prog 58 [vS p point c] imm [] (zCN  r):=by
 intro point r hM imm p c h;unfold oL at hM;refine yH (fn:=Tryz.f58) (c:=(bodyOf Tryz.f58)) Tryz.func58 rfl rfl ?_;rintro B - -;have hle:=iS imm;refine zG<|zB<|yA [] []<|zF<|zG ?_;obtain ⟨o0,ho0,hMc⟩:=zC hM;refine yT (fun imm' hs' m'=>∃ (t2:Bool),o0=t2∧imm.le imm'∧hs'=[]∧m'=[(2,.bool t2)]) ?_ ?_
 · have hle:=iS imm;refine zB<|yK 4 [] [(6,.bool (decide ((point.length:Int) ≤ 4)))] ?_;cases hc:(decide ((point.length:Int) ≤ 4)) with
   | true =>
    have hM0:=zV hc ho0
    try rw [hc]
    refine yK 5 [] [(7,vS p point c)] ?_;have hf0:FV1 Tryz.prog imm [] (.func (.func 121) ⟨[]⟩ ⟨[]⟩) rR:=by
      refine FV1.intro ?_;intro imm1 le1 x0 r u0 hF k0;obtain rfl:=k0;exact (zCM x0 r hF ).mono (by rintro k i hs u ⟨v0,rfl,rfl,h⟩; exact ⟨rfl,h⟩)
    obtain ⟨y,hy,hM⟩:=zC hM0;refine yQ (tH point rR _ hy h hf0) ?_;rintro imm01 hs2 v2 k2 le - ⟨v0,rfl,rfl,rfl⟩ -;have hle:=hle.trans le;exact yA [] [(2,.bool (!y))]<|yS [(2,.bool (!y))]<|yB ⟨_,(zD hM).symm,hle,rfl,rfl⟩
   | false =>
    have hM01:=zT hc ho0
    try rw [hc]
    exact yA [] [(2,.bool false)]<|yS [(2,.bool false)]<|yB ⟨_,(zD hM01).symm,hle,rfl,rfl⟩
 rintro imm0 hs2 m2 ⟨t2,heq,le1,rfl,rfl⟩;subst o0;refine zF<|yI ?_;obtain rfl:=zD hMc;exact yP ⟨_,_,(.tmp rfl ResV.nil),zX,⟨_,rfl,rfl,rfl⟩⟩
def dQ (r:Bool):KT:=fun kk imm' hs' v=>
  ∃ v0,hs'=[]∧v=tupV [v0]∧v0=.bool r
def oV (s:Str) (substr:Str):Option Bool:=match substr.l with | [c]=>some (decide (0 ≤ Lib.indexByte s.l c)) | _=>none
theorem zAl:∀ (s substr:Str) r,oV s substr=some r→∀ {imm:Imm},Ret Tryz.prog 165 [vT s.l,vT substr.l] imm [] (dQ r):=by
 intro s substr r hM imm;unfold oV at hM;split at hM
 · rename_i c hc;cases hM
   rw [hc];exact zHE (fun w g=>(Tryz.strings_Contains_one ⟨⟨s.l⟩⟩ c w).mono fun e w' ⟨h1,h2⟩=>⟨h1,h2 ▸ RowKit.Below.refl _ _⟩) fun k=>⟨_,rfl,rfl,rfl⟩
 cases hM
def zCO (r:Bool):KT:=fun kk imm' hs' v=>
  ∃ v0,hs'=[]∧v=tupV [v0]∧v0=.bool r
def oM (s:Str):Option (Bool):=do
 let t2←(do
   if ((s.l.length:Int) == 1) then
    let y←oV (⟨[65,66,67,68]⟩:Str) s
    pure (id y)
   else
    pure false
     : Option Bool)
 pure (id t2)
theorem qF:∀ (s:Str) r,oM s=some r→∀ {imm:Imm} ,Ret Tryz.prog 117 [vT s.l] imm [] (zCO  r):=by
 intro s r hM imm;unfold oM at hM;refine yH (fn:=Tryz.f117) (c:=(bodyOf Tryz.f117)) Tryz.func117 rfl rfl ?_;rintro B - -;have hle:=iS imm;refine zG<|zB<|yA [] []<|zF<|zG ?_;obtain ⟨o0,ho0,hMc⟩:=zC hM;refine yT (fun imm' hs' m'=>∃ (t2:Bool),o0=t2∧imm.le imm'∧hs'=[]∧m'=[(2,.bool t2)]) ?_ ?_
 · have hle:=iS imm;refine zB<|yK 4 [] [(6,.bool ((s.l.length:Int) == 1))] ?_;cases hc:((s.l.length:Int) == 1) with
   | true =>
    have hM0:=zV hc ho0
    try rw [hc]
    refine yK 5 [] [(7,vT s.l)] ?_;obtain ⟨y,hy,hM⟩:=zC hM0;refine yQ (zAl (⟨[65,66,67,68]⟩:Str) s _ hy ) ?_;rintro imm01 hs2 v2 k2 le - ⟨v0,rfl,rfl,rfl⟩ -;have hle:=hle.trans le;exact yA [] [(2,.bool y)]<|yS [(2,.bool y)]<|yB ⟨_,(zD hM).symm,hle,rfl,rfl⟩
   | false =>
    have hM01:=zT hc ho0
    try rw [hc]
    exact yA [] [(2,.bool false)]<|yS [(2,.bool false)]<|yB ⟨_,(zD hM01).symm,hle,rfl,rfl⟩
 rintro imm0 hs2 m2 ⟨t2,heq,le1,rfl,rfl⟩;subst o0;refine zF<|yI ?_;obtain rfl:=zD hMc;exact yP ⟨_,_,(.tmp rfl ResV.nil),zX,⟨_,rfl,rfl,rfl⟩⟩
def zAU (r:Bool):KT:=fun kk imm' hs' v=>
  ∃ v0,hs'=[]∧v=tupV [v0]∧v0=.bool r
def vZ (n0:Int):Option (Bool):=do
 let y←xP n0 1 6
 pure (!y)
theorem jV:∀ (n0:Int) r,vZ n0=some r→∀ {imm:Imm} ,Ret Tryz.prog 158 [vI n0] imm [] (zAU  r):=by
 intro n0 r hM imm;unfold vZ at hM;refine yH (fn:=Tryz.f158) (c:=(bodyOf Tryz.f158)) Tryz.func158 rfl rfl ?_;rintro B - -;refine zG<|zB<|yA [] []<|zF<|zG<|zB<|yK 1 [] [(3,vI n0)] ?_;obtain ⟨y,hy,hM⟩:=zC hM;refine yQ (xM n0 1 6 _ hy ) ?_;rintro imm0 hs2 v2 k2 le - ⟨v0,rfl,rfl,rfl⟩ -;refine yA [] [(2,.bool (!y))]<|zF<|yI ?_;obtain rfl:=zD hM;exact yP ⟨_,_,(.tmp rfl ResV.nil),zX,⟨_,rfl,rfl,rfl⟩⟩
def jW (r:Bool):KT:=fun kk imm' hs' v=>
  ∃ v0,hs'=[]∧v=tupV [v0]∧v0=.bool r
def sB (list:(List zJ)) (t7:Int):Option (Out Unit (Bool)):=do
 if (decide (t7 < (list.length:Int))) then
  let x←idx list t7
  let t42←(do
    let y←oM x.Name
    if (!y) then
     pure true
    else
     if (decide (t7 > 0)) then
      let x1←idx list (W (t7 - 1))
      if (!(Op.bytesLess x1.Name.l x.Name.l)) then
       pure true
      else
       let y1←xP (x.Dims.length:Int) 1 2
       if (!y1) then
        pure true
       else
        let y2←xG x.Dims vZ
        pure (id y2)
     else
      let y3←xP (x.Dims.length:Int) 1 2
      if (!y3) then
       pure true
      else
       let y4←xG x.Dims vZ
       pure (id y4)
      : Option Bool)
  if t42 then
   pure (.ret false)
  else
   sB list (W (t7 + 1))
 else
  pure (.done ())
 partial_fixpoint
theorem zAm (list:(List zJ)):∀ (t7:Int) (o:Out Unit (Bool)),sB list t7=some o→∀ {B}{imm0 imm:Imm}{Q p c},imm0.le imm→(S4 imm p list c)→(∀ gl a w,¬Q (.goto gl) a w)→(∀ a w,¬Q .outgrown a w)→(∀ (imm':Imm) ,o=(.done ())→imm0.le imm'→T 47 B Q (.exit 0) imm' [] [(0,vS p list c)])→(∀ r imm' hs' m',o=(.ret r)→imm0.le imm'→RS Tryz.prog Tryz.f105 B (jW  r) imm' hs' m'→T 47 B Q .ret imm' hs' m')→J Tryz.prog 47 B (nav (bodyOf Tryz.f105) [1,0,1,0]) Q imm [] [(0,vS p list c),(5,vS p list c),(6,vI (list.length:Int)),(7,vI t7)]:=by
 refine sB.partial_correctness list _ ?_;intro self ih t7 o hM B imm0 imm Q p c hle h hg ho hx hr;refine xA hg ho<|zG<|zB<|yA [] [(8,.bool (decide (t7 < (list.length:Int))))]<|zF<|zG<|yO hM ?_ ?_
 · intro hc hM;refine yE<|zF<|zG<|yC<|zG<|zB<|yK 1 [] [(9,vI t7)] ?_;obtain ⟨x,hy,hM⟩:=zC hM;refine wD rfl rfl h hy ?_;intro ad ccs hat hrep;obtain ⟨v0,rfl,h1⟩:=wC hrep;obtain ⟨p1,c1,rfl⟩:=h1.form;refine xQ 0 hat (cArr x p1 c1) (vA (cArr x p1 c1)) rfl<|uB [vT ([]),z0] ?_;intro b hb;refine yK 5 [] [(3,vI t7)]<|xI 0 (cArr x p1 c1) [hB b (cArr x p1 c1)] rfl rfl rfl rfl<|yN rfl<|zF<|zG ?_;obtain ⟨o0,ho0,hMc⟩:=zC hM;refine yT (fun imm' hs' m'=>∃ (t42:Bool),o0=t42∧imm.le imm'∧hs'=[]∧m'=[(0,vS p list c),(5,vS p list c),(6,vI (list.length:Int)),(7,vI t7),(42,.bool t42)]) ?_ ?_
   · have hle:=iS imm;obtain ⟨y,hy1,hM⟩:=zC ho0;cases hc1:(!y) with
     | true =>
      have hM0:=zV hc1 hM;refine vC [.p (vP b 0) [],.p (vT x.Name.l) [0],.q (.bool y),.q (.bool true),.q (.bool true),.p undef [],.p undef [],.p undef [],.p undef [],.p undef [],.p undef [],.p undef [],.p undef [],.p undef [],.p undef [],.p undef [],.p undef [],.p undef [],.p (.bool true) [],.p (.bool true) [],.p undef [],.p undef [],.p undef [],.p undef [],.p undef [],.p (.bool true) [],.p (.bool true) [],.p undef [],.p undef [],.p undef [],.p (.bool true) []] [[],[(0,false)],[(1,false)],[(2,false)],[(3,false)],[(4,false)],[(4,false),(5,false)],[(4,false),(6,false)],[(7,false)],[(7,false)],[(7,false),(9,false)],[(7,false),(8,false),(10,false)],[(7,false),(11,false)],[(7,false),(12,false)],[(7,false)],[(7,false),(14,false)],[(7,false),(13,false),(15,false)],[(4,false),(7,false),(16,false)],[(4,false),(17,false)],[(18,false)],[(19,false)],[(19,false),(20,false)],[(19,false),(21,false)],[(19,false),(22,false)],[(19,false),(23,false)],[(19,false),(24,false)],[(25,false)],[(26,false)],[(26,false),(27,false)],[(26,false),(28,false)],[(26,false),(29,false)]] [hB b (cArr x p1 c1)] [] [(30,false)] (zL [0] rfl (by decide)) ?_ ?_
      · refine Op<|Op<|Oq ?_<|Oq ?_<|Oq ?_<|Op<|Op<|Op<|Op<|Op<|Op<|Op<|Op<|Op<|Op<|Op<|Op<|Op<|Op<|Op<|Op<|Op<|Op<|Op<|Op<|Op<|Op<|Op<|Op<|Op<|Op<|On
        · intro imm1 hf le1;refine zE ?_;rintro _ _ ⟨rfl,rfl⟩;refine zM<|yG [(13,vT x.Name.l)] ?_;have hle:=iS imm1;refine yQ (qF x.Name _ hy1 ) ?_;rintro imm01 hs2 v2 k2 le - ⟨v01,rfl,rfl,rfl⟩ -;have hle:=hle.trans le;exact zZ (hx:=[]) rfl hle rfl (zK rfl) ⟨rfl,rfl⟩
        · intro imm1 hf le1;refine zE ?_;rintro _ _ ⟨rfl,rfl⟩;refine zM<|yG [(14,.bool y)] ?_;have hle:=iS imm1;refine rW 4 [(15,.bool (!y))] ?_;rw [hc1];exact zZ (hx:=[]) rfl hle rfl (zK rfl) ⟨rfl,rfl⟩
        intro imm1 hf le1;refine zE ?_;rintro _ _ ⟨rfl,rfl⟩;refine zM<|yG [(15,.bool true)] ?_;have hle:=iS imm1;exact rW 5 [(16,.bool true)]<|zZ (hx:=[]) rfl hle rfl (zK rfl) ⟨rfl,rfl⟩
      intro imm02 le1;refine zE ?_;rintro _ _ ⟨rfl,rfl⟩;refine zM<|yG [(0,vS p list c),(5,vS p list c),(6,vI (list.length:Int)),(7,vI t7),(42,.bool true)] ?_;have hle:=hle.trans le1;exact yN rfl<|wB (zL [] rfl (by decide))<|yS [(0,vS p list c),(5,vS p list c),(6,vI (list.length:Int)),(7,vI t7),(42,.bool true)]<|yB ⟨_,(zD hM0).symm,hle,rfl,rfl⟩
     | false =>
      have hM01:=zT hc1 hM;cases hc2:(decide (t7 > 0)) with
      | true =>
       have hM02:=zV hc2 hM01;obtain ⟨x1,hy2,hM⟩:=zC hM02;cases hc3:(!(Op.bytesLess x1.Name.l x.Name.l)) with
       | true =>
        have hM03:=zV hc3 hM;refine vC [.p (vP b 0) [],.p (vT x.Name.l) [0],.q (.bool y),.q (.bool false),.q (.bool false),.p (vI t7) [],.q (.bool true),.q (.bool true),.p (vS p list c) [],.p (vI t7) [],.p (vI (W (t7 - 1))) [],.x (fun imm' v hx=>∃ ad1 p2 c2,v=.pointer (some ad1)∧hx=[]∧(At imm' ad1 (cArr x1 p2 c2))∧(S4 imm' p2 x1.Dims c2)),.x (fun imm' v hx=>∃ ad11 p21 c21,v=.pointer (some ad11)∧hx=[]∧(At imm' ad11 (cArr x1 p21 c21))∧(S4 imm' p21 x1.Dims c21)),.q (vT x1.Name.l),.p (vP b 0) [],.p (vT x.Name.l) [0],.q (.bool true),.q (.bool true),.q (.bool true),.q (.bool true),.p undef [],.p undef [],.p undef [],.p undef [],.p undef [],.p (.bool true) [],.p (.bool true) [],.p undef [],.p undef [],.p undef [],.p (.bool true) []] [[],[(0,false)],[(1,false)],[(2,false)],[(3,false)],[(4,false)],[(4,false),(5,false)],[(4,false),(6,false)],[(7,false)],[(7,false)],[(7,false),(9,false)],[(7,false),(8,false),(10,false)],[(7,false),(11,false)],[(7,false),(12,false)],[(7,false)],[(7,false),(14,false)],[(7,false),(13,false),(15,false)],[(4,false),(7,false),(16,false)],[(4,false),(17,false)],[(18,false)],[(19,false)],[(19,false),(20,false)],[(19,false),(21,false)],[(19,false),(22,false)],[(19,false),(23,false)],[(19,false),(24,false)],[(25,false)],[(26,false)],[(26,false),(27,false)],[(26,false),(28,false)],[(26,false),(29,false)]] [hB b (cArr x p1 c1)] [] [(30,false)] (zL [0] rfl (by decide)) ?_ ?_
        · refine Op<|Op<|Oq ?_<|Oq ?_<|Oq ?_<|Op<|Oq ?_<|Oq ?_<|Op<|Op<|Op<|Ox ?_<|Ox ?_<|Oq ?_<|Op<|Op<|Oq ?_<|Oq ?_<|Oq ?_<|Oq ?_<|Op<|Op<|Op<|Op<|Op<|Op<|Op<|Op<|Op<|Op<|Op<|On
          · intro imm1 hf le1;refine zE ?_;rintro _ _ ⟨rfl,rfl⟩;refine zM<|yG [(13,vT x.Name.l)] ?_;have hle:=iS imm1;refine yQ (qF x.Name _ hy1 ) ?_;rintro imm01 hs2 v2 k2 le - ⟨v01,rfl,rfl,rfl⟩ -;have hle:=hle.trans le;exact zZ (hx:=[]) rfl hle rfl (zK rfl) ⟨rfl,rfl⟩
          · intro imm1 hf le1;refine zE ?_;rintro _ _ ⟨rfl,rfl⟩;refine zM<|yG [(14,.bool y)] ?_;have hle:=iS imm1;refine rW 4 [(15,.bool (!y))] ?_;rw [hc1];exact zZ (hx:=[]) rfl hle rfl (zK rfl) ⟨rfl,rfl⟩
          · intro imm1 hf le1;refine zE ?_;rintro _ _ ⟨rfl,rfl⟩;refine zM<|yG [(15,.bool false)] ?_;have hle:=iS imm1;exact rW 5 [(16,.bool false)]<|zZ (hx:=[]) rfl hle rfl (zK rfl) ⟨rfl,rfl⟩
          · intro imm1 hf le1;refine zE ?_;rintro _ _ ⟨rfl,rfl⟩;refine zE ?_;rintro _ _ ⟨rfl,rfl⟩;refine zM<|yG [(16,.bool false),(17,vI t7)] ?_;have hle:=iS imm1;refine rW 7 [(18,.bool (decide (t7 > 0)))] ?_;rw [hc2];exact zZ (hx:=[]) rfl hle rfl (zK rfl) ⟨rfl,rfl⟩
          · intro imm1 hf le1;refine zE ?_;rintro _ _ ⟨rfl,rfl⟩;refine zE ?_;rintro _ _ ⟨rfl,rfl⟩;refine zM<|yG [(16,.bool false),(18,.bool true)] ?_;have hle:=iS imm1;exact rW 8 [(19,.bool true)]<|zZ (hx:=[]) rfl hle rfl (zK rfl) ⟨rfl,rfl⟩
          · intro imm1 hf le1;refine zE ?_;rintro _ _ ⟨rfl,rfl⟩;refine zE ?_;rintro _ _ ⟨rfl,rfl⟩;refine zE ?_;rintro _ _ ⟨rfl,rfl⟩;refine zM<|yG [(19,.bool true),(20,vS p list c),(22,vI (W (t7 - 1)))] ?_;have hle:=iS imm1;have h:=h.mono le1;refine wD rfl rfl h hy2 ?_;intro ad1 ccs1 hat1 hrep1;obtain ⟨v02,rfl,h3⟩:=wC hrep1;obtain ⟨p2,c2,rfl⟩:=h3.form;exact zZ (hx:=[]) rfl hle rfl (zK rfl) ⟨_,_,_,rfl,rfl,hat1,h3⟩
          · intro imm1 hf le1;refine zE ?_;rintro _ _ ⟨rfl,rfl⟩;refine zE ?_;rintro _ _ ⟨ad1,p2,c2,rfl,rfl,hat1,h3⟩;refine zM<|yG [(19,.bool true),(23,.pointer (some ad1))] ?_;have hle:=iS imm1;exact rW 13 [(24,.pointer (some ad1))]<|zZ (hx:=[]) rfl hle rfl (zK rfl) ⟨_,_,_,rfl,rfl,hat1,h3⟩
          · intro imm1 hf le1;refine zE ?_;rintro _ _ ⟨rfl,rfl⟩;refine zE ?_;rintro _ _ ⟨ad11,p21,c21,rfl,rfl,hat11,h31⟩;refine zM<|yG [(19,.bool true),(24,.pointer (some ad11))] ?_;have hle:=iS imm1;exact xQ 0 hat11 [vT x1.Name.l] (vT x1.Name.l) rfl<|zZ (hx:=[]) rfl hle rfl (zK rfl) ⟨rfl,rfl⟩
          · intro imm1 hf le1;refine zE ?_;rintro _ _ ⟨rfl,rfl⟩;refine zE ?_;rintro _ _ ⟨rfl,rfl⟩;refine zE ?_;rintro _ _ ⟨rfl,rfl⟩;refine zM<|yG [(19,.bool true),(25,vT x1.Name.l),(27,vT x.Name.l)] ?_;have hle:=iS imm1;refine rW 17 [(28,.bool (!(Op.bytesLess x1.Name.l x.Name.l)))] ?_;rw [hc3];exact zZ (hx:=[]) rfl hle rfl (zK rfl) ⟨rfl,rfl⟩
          · intro imm1 hf le1;refine zE ?_;rintro _ _ ⟨rfl,rfl⟩;refine zE ?_;rintro _ _ ⟨rfl,rfl⟩;refine zE ?_;rintro _ _ ⟨rfl,rfl⟩;refine zM<|yG [(16,.bool false),(19,.bool true),(28,.bool true)] ?_;have hle:=iS imm1;exact rW 18 [(29,.bool true)]<|zZ (hx:=[]) rfl hle rfl (zK rfl) ⟨rfl,rfl⟩
          · intro imm1 hf le1;refine zE ?_;rintro _ _ ⟨rfl,rfl⟩;refine zE ?_;rintro _ _ ⟨rfl,rfl⟩;refine zM<|yG [(16,.bool false),(29,.bool true)] ?_;have hle:=iS imm1;exact rW 19 [(30,.bool true)]<|zZ (hx:=[]) rfl hle rfl (zK rfl) ⟨rfl,rfl⟩
          intro imm1 hf le1;refine zE ?_;rintro _ _ ⟨rfl,rfl⟩;refine zM<|yG [(30,.bool true)] ?_;have hle:=iS imm1;exact rW 20 [(31,.bool true)]<|zZ (hx:=[]) rfl hle rfl (zK rfl) ⟨rfl,rfl⟩
        intro imm03 le2;refine zE ?_;rintro _ _ ⟨rfl,rfl⟩;refine zM<|yG [(0,vS p list c),(5,vS p list c),(6,vI (list.length:Int)),(7,vI t7),(42,.bool true)] ?_;have hle:=hle.trans le2;exact yN rfl<|wB (zL [] rfl (by decide))<|yS [(0,vS p list c),(5,vS p list c),(6,vI (list.length:Int)),(7,vI t7),(42,.bool true)]<|yB ⟨_,(zD hM03).symm,hle,rfl,rfl⟩
       | false =>
        have hM04:=zT hc3 hM;obtain ⟨y1,hy3,hM⟩:=zC hM04;cases hc4:(!y1) with
        | true =>
         have hM05:=zV hc4 hM;refine vC [.p (vP b 0) [],.p (vT x.Name.l) [0],.q (.bool y),.q (.bool false),.q (.bool false),.p (vI t7) [],.q (.bool true),.q (.bool true),.p (vS p list c) [],.p (vI t7) [],.p (vI (W (t7 - 1))) [],.x (fun imm' v hx=>∃ ad1 p2 c2,v=.pointer (some ad1)∧hx=[]∧(At imm' ad1 (cArr x1 p2 c2))∧(S4 imm' p2 x1.Dims c2)),.x (fun imm' v hx=>∃ ad11 p21 c21,v=.pointer (some ad11)∧hx=[]∧(At imm' ad11 (cArr x1 p21 c21))∧(S4 imm' p21 x1.Dims c21)),.q (vT x1.Name.l),.p (vP b 0) [],.p (vT x.Name.l) [0],.q (.bool false),.q (.bool false),.q (.bool false),.q (.bool false),.p (vP b 1) [],.p (vS p1 x.Dims c1) [0],.p (vI (x.Dims.length:Int)) [],.q (.bool y1),.q (.bool true),.q (.bool true),.q (.bool true),.p undef [],.p undef [],.p undef [],.p (.bool true) []] [[],[(0,false)],[(1,false)],[(2,false)],[(3,false)],[(4,false)],[(4,false),(5,false)],[(4,false),(6,false)],[(7,false)],[(7,false)],[(7,false),(9,false)],[(7,false),(8,false),(10,false)],[(7,false),(11,false)],[(7,false),(12,false)],[(7,false)],[(7,false),(14,false)],[(7,false),(13,false),(15,false)],[(4,false),(7,false),(16,false)],[(4,false),(17,false)],[(18,false)],[(19,false)],[(19,false),(20,false)],[(19,false),(21,false)],[(19,false),(22,false)],[(19,false),(23,false)],[(19,false),(24,false)],[(25,false)],[(26,false)],[(26,false),(27,false)],[(26,false),(28,false)],[(26,false),(29,false)]] [hB b (cArr x p1 c1)] [] [(30,false)] (zL [0] rfl (by decide)) ?_ ?_
         · refine Op<|Op<|Oq ?_<|Oq ?_<|Oq ?_<|Op<|Oq ?_<|Oq ?_<|Op<|Op<|Op<|Ox ?_<|Ox ?_<|Oq ?_<|Op<|Op<|Oq ?_<|Oq ?_<|Oq ?_<|Oq ?_<|Op<|Op<|Op<|Oq ?_<|Oq ?_<|Oq ?_<|Oq ?_<|Op<|Op<|Op<|Op<|On
           · intro imm1 hf le1;refine zE ?_;rintro _ _ ⟨rfl,rfl⟩;refine zM<|yG [(13,vT x.Name.l)] ?_;have hle:=iS imm1;refine yQ (qF x.Name _ hy1 ) ?_;rintro imm01 hs2 v2 k2 le - ⟨v01,rfl,rfl,rfl⟩ -;have hle:=hle.trans le;exact zZ (hx:=[]) rfl hle rfl (zK rfl) ⟨rfl,rfl⟩
           · intro imm1 hf le1;refine zE ?_;rintro _ _ ⟨rfl,rfl⟩;refine zM<|yG [(14,.bool y)] ?_;have hle:=iS imm1;refine rW 4 [(15,.bool (!y))] ?_;rw [hc1];exact zZ (hx:=[]) rfl hle rfl (zK rfl) ⟨rfl,rfl⟩
           · intro imm1 hf le1;refine zE ?_;rintro _ _ ⟨rfl,rfl⟩;refine zM<|yG [(15,.bool false)] ?_;have hle:=iS imm1;exact rW 5 [(16,.bool false)]<|zZ (hx:=[]) rfl hle rfl (zK rfl) ⟨rfl,rfl⟩
           · intro imm1 hf le1;refine zE ?_;rintro _ _ ⟨rfl,rfl⟩;refine zE ?_;rintro _ _ ⟨rfl,rfl⟩;refine zM<|yG [(16,.bool false),(17,vI t7)] ?_;have hle:=iS imm1;refine rW 7 [(18,.bool (decide (t7 > 0)))] ?_;rw [hc2];exact zZ (hx:=[]) rfl hle rfl (zK rfl) ⟨rfl,rfl⟩
           · intro imm1 hf le1;refine zE ?_;rintro _ _ ⟨rfl,rfl⟩;refine zE ?_;rintro _ _ ⟨rfl,rfl⟩;refine zM<|yG [(16,.bool false),(18,.bool true)] ?_;have hle:=iS imm1;exact rW 8 [(19,.bool true)]<|zZ (hx:=[]) rfl hle rfl (zK rfl) ⟨rfl,rfl⟩
           · intro imm1 hf le1;refine zE ?_;rintro _ _ ⟨rfl,rfl⟩;refine zE ?_;rintro _ _ ⟨rfl,rfl⟩;refine zE ?_;rintro _ _ ⟨rfl,rfl⟩;refine zM<|yG [(19,.bool true),(20,vS p list c),(22,vI (W (t7 - 1)))] ?_;have hle:=iS imm1;have h:=h.mono le1;refine wD rfl rfl h hy2 ?_;intro ad1 ccs1 hat1 hrep1;obtain ⟨v02,rfl,h3⟩:=wC hrep1;obtain ⟨p2,c2,rfl⟩:=h3.form;exact zZ (hx:=[]) rfl hle rfl (zK rfl) ⟨_,_,_,rfl,rfl,hat1,h3⟩
           · intro imm1 hf le1;refine zE ?_;rintro _ _ ⟨rfl,rfl⟩;refine zE ?_;rintro _ _ ⟨ad1,p2,c2,rfl,rfl,hat1,h3⟩;refine zM<|yG [(19,.bool true),(23,.pointer (some ad1))] ?_;have hle:=iS imm1;exact rW 13 [(24,.pointer (some ad1))]<|zZ (hx:=[]) rfl hle rfl (zK rfl) ⟨_,_,_,rfl,rfl,hat1,h3⟩
           · intro imm1 hf le1;refine zE ?_;rintro _ _ ⟨rfl,rfl⟩;refine zE ?_;rintro _ _ ⟨ad11,p21,c21,rfl,rfl,hat11,h31⟩;refine zM<|yG [(19,.bool true),(24,.pointer (some ad11))] ?_;have hle:=iS imm1;exact xQ 0 hat11 [vT x1.Name.l] (vT x1.Name.l) rfl<|zZ (hx:=[]) rfl hle rfl (zK rfl) ⟨rfl,rfl⟩
           · intro imm1 hf le1;refine zE ?_;rintro _ _ ⟨rfl,rfl⟩;refine zE ?_;rintro _ _ ⟨rfl,rfl⟩;refine zE ?_;rintro _ _ ⟨rfl,rfl⟩;refine zM<|yG [(19,.bool true),(25,vT x1.Name.l),(27,vT x.Name.l)] ?_;have hle:=iS imm1;refine rW 17 [(28,.bool (!(Op.bytesLess x1.Name.l x.Name.l)))] ?_;rw [hc3];exact zZ (hx:=[]) rfl hle rfl (zK rfl) ⟨rfl,rfl⟩
           · intro imm1 hf le1;refine zE ?_;rintro _ _ ⟨rfl,rfl⟩;refine zE ?_;rintro _ _ ⟨rfl,rfl⟩;refine zE ?_;rintro _ _ ⟨rfl,rfl⟩;refine zM<|yG [(16,.bool false),(19,.bool true),(28,.bool false)] ?_;have hle:=iS imm1;exact rW 18 [(29,.bool false)]<|zZ (hx:=[]) rfl hle rfl (zK rfl) ⟨rfl,rfl⟩
           · intro imm1 hf le1;refine zE ?_;rintro _ _ ⟨rfl,rfl⟩;refine zE ?_;rintro _ _ ⟨rfl,rfl⟩;refine zM<|yG [(16,.bool false),(29,.bool false)] ?_;have hle:=iS imm1;exact rW 19 [(30,.bool false)]<|zZ (hx:=[]) rfl hle rfl (zK rfl) ⟨rfl,rfl⟩
           · intro imm1 hf le1;refine zE ?_;rintro _ _ ⟨rfl,rfl⟩;refine zM<|yG [(30,.bool false)] ?_;have hle:=iS imm1;exact rW 20 [(31,.bool false)]<|zZ (hx:=[]) rfl hle rfl (zK rfl) ⟨rfl,rfl⟩
           · intro imm1 hf le1;refine zE ?_;rintro _ _ ⟨rfl,rfl⟩;refine zE ?_;rintro _ _ ⟨rfl,rfl⟩;refine zM<|yG [(31,.bool false),(34,vI (x.Dims.length:Int))] ?_;have hle:=iS imm1;refine yQ (xM (x.Dims.length:Int) 1 2 _ hy3 ) ?_;rintro imm04 hs2 v2 k2 le3 - ⟨v03,rfl,rfl,rfl⟩ -;have hle:=hle.trans le3;exact zZ (hx:=[]) rfl hle rfl (zK rfl) ⟨rfl,rfl⟩
           · intro imm1 hf le1;refine zE ?_;rintro _ _ ⟨rfl,rfl⟩;refine zE ?_;rintro _ _ ⟨rfl,rfl⟩;refine zM<|yG [(31,.bool false),(35,.bool y1)] ?_;have hle:=iS imm1;refine rW 25 [(36,.bool (!y1))] ?_;rw [hc4];exact zZ (hx:=[]) rfl hle rfl (zK rfl) ⟨rfl,rfl⟩
           · intro imm1 hf le1;refine zE ?_;rintro _ _ ⟨rfl,rfl⟩;refine zE ?_;rintro _ _ ⟨rfl,rfl⟩;refine zM<|yG [(31,.bool false),(36,.bool true)] ?_;have hle:=iS imm1;exact rW 26 [(37,.bool true)]<|zZ (hx:=[]) rfl hle rfl (zK rfl) ⟨rfl,rfl⟩
           intro imm1 hf le1;refine zE ?_;rintro _ _ ⟨rfl,rfl⟩;refine zM<|yG [(37,.bool true)] ?_;have hle:=iS imm1;exact rW 27 [(38,.bool true)]<|zZ (hx:=[]) rfl hle rfl (zK rfl) ⟨rfl,rfl⟩
         intro imm05 le4;refine zE ?_;rintro _ _ ⟨rfl,rfl⟩;refine zM<|yG [(0,vS p list c),(5,vS p list c),(6,vI (list.length:Int)),(7,vI t7),(42,.bool true)] ?_;have hle:=hle.trans le4;exact yN rfl<|wB (zL [] rfl (by decide))<|yS [(0,vS p list c),(5,vS p list c),(6,vI (list.length:Int)),(7,vI t7),(42,.bool true)]<|yB ⟨_,(zD hM05).symm,hle,rfl,rfl⟩
        | false =>
         have hM06:=zT hc4 hM;obtain ⟨y2,hy4,hM⟩:=zC hM06;refine vC [.p (vP b 0) [],.p (vT x.Name.l) [0],.q (.bool y),.q (.bool false),.q (.bool false),.p (vI t7) [],.q (.bool true),.q (.bool true),.p (vS p list c) [],.p (vI t7) [],.p (vI (W (t7 - 1))) [],.x (fun imm' v hx=>∃ ad1 p2 c2,v=.pointer (some ad1)∧hx=[]∧(At imm' ad1 (cArr x1 p2 c2))∧(S4 imm' p2 x1.Dims c2)),.x (fun imm' v hx=>∃ ad11 p21 c21,v=.pointer (some ad11)∧hx=[]∧(At imm' ad11 (cArr x1 p21 c21))∧(S4 imm' p21 x1.Dims c21)),.q (vT x1.Name.l),.p (vP b 0) [],.p (vT x.Name.l) [0],.q (.bool false),.q (.bool false),.q (.bool false),.q (.bool false),.p (vP b 1) [],.p (vS p1 x.Dims c1) [0],.p (vI (x.Dims.length:Int)) [],.q (.bool y1),.q (.bool false),.q (.bool false),.q (.bool false),.p (vP b 1) [],.p (vS p1 x.Dims c1) [0],.q (.bool y2),.p (.bool y2) []] [[],[(0,false)],[(1,false)],[(2,false)],[(3,false)],[(4,false)],[(4,false),(5,false)],[(4,false),(6,false)],[(7,false)],[(7,false)],[(7,false),(9,false)],[(7,false),(8,false),(10,false)],[(7,false),(11,false)],[(7,false),(12,false)],[(7,false)],[(7,false),(14,false)],[(7,false),(13,false),(15,false)],[(4,false),(7,false),(16,false)],[(4,false),(17,false)],[(18,false)],[(19,false)],[(19,false),(20,false)],[(19,false),(21,false)],[(19,false),(22,false)],[(19,false),(23,false)],[(19,false),(24,false)],[(25,false)],[(26,false)],[(26,false),(27,false)],[(26,false),(28,false)],[(26,false),(29,false)]] [hB b (cArr x p1 c1)] [] [(30,false)] (zL [0] rfl (by decide)) ?_ ?_
         · refine Op<|Op<|Oq ?_<|Oq ?_<|Oq ?_<|Op<|Oq ?_<|Oq ?_<|Op<|Op<|Op<|Ox ?_<|Ox ?_<|Oq ?_<|Op<|Op<|Oq ?_<|Oq ?_<|Oq ?_<|Oq ?_<|Op<|Op<|Op<|Oq ?_<|Oq ?_<|Oq ?_<|Oq ?_<|Op<|Op<|Oq ?_<|Op<|On
           · intro imm1 hf le1;refine zE ?_;rintro _ _ ⟨rfl,rfl⟩;refine zM<|yG [(13,vT x.Name.l)] ?_;have hle:=iS imm1;refine yQ (qF x.Name _ hy1 ) ?_;rintro imm01 hs2 v2 k2 le - ⟨v01,rfl,rfl,rfl⟩ -;have hle:=hle.trans le;exact zZ (hx:=[]) rfl hle rfl (zK rfl) ⟨rfl,rfl⟩
           · intro imm1 hf le1;refine zE ?_;rintro _ _ ⟨rfl,rfl⟩;refine zM<|yG [(14,.bool y)] ?_;have hle:=iS imm1;refine rW 4 [(15,.bool (!y))] ?_;rw [hc1];exact zZ (hx:=[]) rfl hle rfl (zK rfl) ⟨rfl,rfl⟩
           · intro imm1 hf le1;refine zE ?_;rintro _ _ ⟨rfl,rfl⟩;refine zM<|yG [(15,.bool false)] ?_;have hle:=iS imm1;exact rW 5 [(16,.bool false)]<|zZ (hx:=[]) rfl hle rfl (zK rfl) ⟨rfl,rfl⟩
           · intro imm1 hf le1;refine zE ?_;rintro _ _ ⟨rfl,rfl⟩;refine zE ?_;rintro _ _ ⟨rfl,rfl⟩;refine zM<|yG [(16,.bool false),(17,vI t7)] ?_;have hle:=iS imm1;refine rW 7 [(18,.bool (decide (t7 > 0)))] ?_;rw [hc2];exact zZ (hx:=[]) rfl hle rfl (zK rfl) ⟨rfl,rfl⟩
           · intro imm1 hf le1;refine zE ?_;rintro _ _ ⟨rfl,rfl⟩;refine zE ?_;rintro _ _ ⟨rfl,rfl⟩;refine zM<|yG [(16,.bool false),(18,.bool true)] ?_;have hle:=iS imm1;exact rW 8 [(19,.bool true)]<|zZ (hx:=[]) rfl hle rfl (zK rfl) ⟨rfl,rfl⟩
           · intro imm1 hf le1;refine zE ?_;rintro _ _ ⟨rfl,rfl⟩;refine zE ?_;rintro _ _ ⟨rfl,rfl⟩;refine zE ?_;rintro _ _ ⟨rfl,rfl⟩;refine zM<|yG [(19,.bool true),(20,vS p list c),(22,vI (W (t7 - 1)))] ?_;have hle:=iS imm1;have h:=h.mono le1;refine wD rfl rfl h hy2 ?_;intro ad1 ccs1 hat1 hrep1;obtain ⟨v02,rfl,h3⟩:=wC hrep1;obtain ⟨p2,c2,rfl⟩:=h3.form;exact zZ (hx:=[]) rfl hle rfl (zK rfl) ⟨_,_,_,rfl,rfl,hat1,h3⟩
           · intro imm1 hf le1;refine zE ?_;rintro _ _ ⟨rfl,rfl⟩;refine zE ?_;rintro _ _ ⟨ad1,p2,c2,rfl,rfl,hat1,h3⟩;refine zM<|yG [(19,.bool true),(23,.pointer (some ad1))] ?_;have hle:=iS imm1;exact rW 13 [(24,.pointer (some ad1))]<|zZ (hx:=[]) rfl hle rfl (zK rfl) ⟨_,_,_,rfl,rfl,hat1,h3⟩
           · intro imm1 hf le1;refine zE ?_;rintro _ _ ⟨rfl,rfl⟩;refine zE ?_;rintro _ _ ⟨ad11,p21,c21,rfl,rfl,hat11,h31⟩;refine zM<|yG [(19,.bool true),(24,.pointer (some ad11))] ?_;have hle:=iS imm1;exact xQ 0 hat11 [vT x1.Name.l] (vT x1.Name.l) rfl<|zZ (hx:=[]) rfl hle rfl (zK rfl) ⟨rfl,rfl⟩
           · intro imm1 hf le1;refine zE ?_;rintro _ _ ⟨rfl,rfl⟩;refine zE ?_;rintro _ _ ⟨rfl,rfl⟩;refine zE ?_;rintro _ _ ⟨rfl,rfl⟩;refine zM<|yG [(19,.bool true),(25,vT x1.Name.l),(27,vT x.Name.l)] ?_;have hle:=iS imm1;refine rW 17 [(28,.bool (!(Op.bytesLess x1.Name.l x.Name.l)))] ?_;rw [hc3];exact zZ (hx:=[]) rfl hle rfl (zK rfl) ⟨rfl,rfl⟩
           · intro imm1 hf le1;refine zE ?_;rintro _ _ ⟨rfl,rfl⟩;refine zE ?_;rintro _ _ ⟨rfl,rfl⟩;refine zE ?_;rintro _ _ ⟨rfl,rfl⟩;refine zM<|yG [(16,.bool false),(19,.bool true),(28,.bool false)] ?_;have hle:=iS imm1;exact rW 18 [(29,.bool false)]<|zZ (hx:=[]) rfl hle rfl (zK rfl) ⟨rfl,rfl⟩
           · intro imm1 hf le1;refine zE ?_;rintro _ _ ⟨rfl,rfl⟩;refine zE ?_;rintro _ _ ⟨rfl,rfl⟩;refine zM<|yG [(16,.bool false),(29,.bool false)] ?_;have hle:=iS imm1;exact rW 19 [(30,.bool false)]<|zZ (hx:=[]) rfl hle rfl (zK rfl) ⟨rfl,rfl⟩
           · intro imm1 hf le1;refine zE ?_;rintro _ _ ⟨rfl,rfl⟩;refine zM<|yG [(30,.bool false)] ?_;have hle:=iS imm1;exact rW 20 [(31,.bool false)]<|zZ (hx:=[]) rfl hle rfl (zK rfl) ⟨rfl,rfl⟩
           · intro imm1 hf le1;refine zE ?_;rintro _ _ ⟨rfl,rfl⟩;refine zE ?_;rintro _ _ ⟨rfl,rfl⟩;refine zM<|yG [(31,.bool false),(34,vI (x.Dims.length:Int))] ?_;have hle:=iS imm1;refine yQ (xM (x.Dims.length:Int) 1 2 _ hy3 ) ?_;rintro imm04 hs2 v2 k2 le3 - ⟨v03,rfl,rfl,rfl⟩ -;have hle:=hle.trans le3;exact zZ (hx:=[]) rfl hle rfl (zK rfl) ⟨rfl,rfl⟩
           · intro imm1 hf le1;refine zE ?_;rintro _ _ ⟨rfl,rfl⟩;refine zE ?_;rintro _ _ ⟨rfl,rfl⟩;refine zM<|yG [(31,.bool false),(35,.bool y1)] ?_;have hle:=iS imm1;refine rW 25 [(36,.bool (!y1))] ?_;rw [hc4];exact zZ (hx:=[]) rfl hle rfl (zK rfl) ⟨rfl,rfl⟩
           · intro imm1 hf le1;refine zE ?_;rintro _ _ ⟨rfl,rfl⟩;refine zE ?_;rintro _ _ ⟨rfl,rfl⟩;refine zM<|yG [(31,.bool false),(36,.bool false)] ?_;have hle:=iS imm1;exact rW 26 [(37,.bool false)]<|zZ (hx:=[]) rfl hle rfl (zK rfl) ⟨rfl,rfl⟩
           · intro imm1 hf le1;refine zE ?_;rintro _ _ ⟨rfl,rfl⟩;refine zM<|yG [(37,.bool false)] ?_;have hle:=iS imm1;exact rW 27 [(38,.bool false)]<|zZ (hx:=[]) rfl hle rfl (zK rfl) ⟨rfl,rfl⟩
           intro imm1 hf le1;refine zE ?_;rintro _ _ ⟨rfl,rfl⟩;refine zE ?_;rintro _ _ ⟨rfl,rfl⟩;refine zM<|yG [(38,.bool false),(40,vS p1 x.Dims c1)] ?_;have hle:=iS imm1;have h:=h.mono le1;have h1:=h1.mono le1;have hf0:FV1 Tryz.prog imm1 [] (.func (.func 158) ⟨[]⟩ ⟨[]⟩) vZ:=by
             refine FV1.intro ?_;intro imm1 le1 x0 r u0 hF k0;obtain rfl:=k0;exact (jV x0 r hF ).mono (by rintro k i hs u ⟨v0,rfl,rfl,h⟩; exact ⟨rfl,h⟩)
           refine yQ (tH x.Dims vZ _ hy4 h1 hf0) ?_;rintro imm06 hs2 v2 k2 le5 - ⟨v04,rfl,rfl,rfl⟩ -;have hle:=hle.trans le5;exact zZ (hx:=[]) rfl hle rfl (zK rfl) ⟨rfl,rfl⟩
         intro imm07 le6;refine zE ?_;rintro _ _ ⟨rfl,rfl⟩;refine zM<|yG [(0,vS p list c),(5,vS p list c),(6,vI (list.length:Int)),(7,vI t7),(42,.bool y2)] ?_;have hle:=hle.trans le6;exact yN rfl<|wB (zL [] rfl (by decide))<|yS [(0,vS p list c),(5,vS p list c),(6,vI (list.length:Int)),(7,vI t7),(42,.bool y2)]<|yB ⟨_,(zD hM).symm,hle,rfl,rfl⟩
      | false =>
       have hM07:=zT hc2 hM01;obtain ⟨y3,hy5,hM⟩:=zC hM07;cases hc5:(!y3) with
       | true =>
        have hM08:=zV hc5 hM;refine vC [.p (vP b 0) [],.p (vT x.Name.l) [0],.q (.bool y),.q (.bool false),.q (.bool false),.p (vI t7) [],.q (.bool false),.q (.bool false),.p undef [],.p undef [],.p undef [],.p undef [],.p undef [],.p undef [],.p undef [],.p undef [],.p undef [],.p (.bool false) [],.p (.bool false) [],.p (.bool false) [],.p (vP b 1) [],.p (vS p1 x.Dims c1) [0],.p (vI (x.Dims.length:Int)) [],.q (.bool y3),.q (.bool true),.q (.bool true),.q (.bool true),.p undef [],.p undef [],.p undef [],.p (.bool true) []] [[],[(0,false)],[(1,false)],[(2,false)],[(3,false)],[(4,false)],[(4,false),(5,false)],[(4,false),(6,false)],[(7,false)],[(7,false)],[(7,false),(9,false)],[(7,false),(8,false),(10,false)],[(7,false),(11,false)],[(7,false),(12,false)],[(7,false)],[(7,false),(14,false)],[(7,false),(13,false),(15,false)],[(4,false),(7,false),(16,false)],[(4,false),(17,false)],[(18,false)],[(19,false)],[(19,false),(20,false)],[(19,false),(21,false)],[(19,false),(22,false)],[(19,false),(23,false)],[(19,false),(24,false)],[(25,false)],[(26,false)],[(26,false),(27,false)],[(26,false),(28,false)],[(26,false),(29,false)]] [hB b (cArr x p1 c1)] [] [(30,false)] (zL [0] rfl (by decide)) ?_ ?_
        · refine Op<|Op<|Oq ?_<|Oq ?_<|Oq ?_<|Op<|Oq ?_<|Oq ?_<|Op<|Op<|Op<|Op<|Op<|Op<|Op<|Op<|Op<|Op<|Op<|Op<|Op<|Op<|Op<|Oq ?_<|Oq ?_<|Oq ?_<|Oq ?_<|Op<|Op<|Op<|Op<|On
          · intro imm1 hf le1;refine zE ?_;rintro _ _ ⟨rfl,rfl⟩;refine zM<|yG [(13,vT x.Name.l)] ?_;have hle:=iS imm1;refine yQ (qF x.Name _ hy1 ) ?_;rintro imm01 hs2 v2 k2 le - ⟨v01,rfl,rfl,rfl⟩ -;have hle:=hle.trans le;exact zZ (hx:=[]) rfl hle rfl (zK rfl) ⟨rfl,rfl⟩
          · intro imm1 hf le1;refine zE ?_;rintro _ _ ⟨rfl,rfl⟩;refine zM<|yG [(14,.bool y)] ?_;have hle:=iS imm1;refine rW 4 [(15,.bool (!y))] ?_;rw [hc1];exact zZ (hx:=[]) rfl hle rfl (zK rfl) ⟨rfl,rfl⟩
          · intro imm1 hf le1;refine zE ?_;rintro _ _ ⟨rfl,rfl⟩;refine zM<|yG [(15,.bool false)] ?_;have hle:=iS imm1;exact rW 5 [(16,.bool false)]<|zZ (hx:=[]) rfl hle rfl (zK rfl) ⟨rfl,rfl⟩
          · intro imm1 hf le1;refine zE ?_;rintro _ _ ⟨rfl,rfl⟩;refine zE ?_;rintro _ _ ⟨rfl,rfl⟩;refine zM<|yG [(16,.bool false),(17,vI t7)] ?_;have hle:=iS imm1;refine rW 7 [(18,.bool (decide (t7 > 0)))] ?_;rw [hc2];exact zZ (hx:=[]) rfl hle rfl (zK rfl) ⟨rfl,rfl⟩
          · intro imm1 hf le1;refine zE ?_;rintro _ _ ⟨rfl,rfl⟩;refine zE ?_;rintro _ _ ⟨rfl,rfl⟩;refine zM<|yG [(16,.bool false),(18,.bool false)] ?_;have hle:=iS imm1;exact rW 8 [(19,.bool false)]<|zZ (hx:=[]) rfl hle rfl (zK rfl) ⟨rfl,rfl⟩
          · intro imm1 hf le1;refine zE ?_;rintro _ _ ⟨rfl,rfl⟩;refine zE ?_;rintro _ _ ⟨rfl,rfl⟩;refine zM<|yG [(31,.bool false),(34,vI (x.Dims.length:Int))] ?_;have hle:=iS imm1;refine yQ (xM (x.Dims.length:Int) 1 2 _ hy5 ) ?_;rintro imm08 hs2 v2 k2 le7 - ⟨v05,rfl,rfl,rfl⟩ -;have hle:=hle.trans le7;exact zZ (hx:=[]) rfl hle rfl (zK rfl) ⟨rfl,rfl⟩
          · intro imm1 hf le1;refine zE ?_;rintro _ _ ⟨rfl,rfl⟩;refine zE ?_;rintro _ _ ⟨rfl,rfl⟩;refine zM<|yG [(31,.bool false),(35,.bool y3)] ?_;have hle:=iS imm1;refine rW 25 [(36,.bool (!y3))] ?_;rw [hc5];exact zZ (hx:=[]) rfl hle rfl (zK rfl) ⟨rfl,rfl⟩
          · intro imm1 hf le1;refine zE ?_;rintro _ _ ⟨rfl,rfl⟩;refine zE ?_;rintro _ _ ⟨rfl,rfl⟩;refine zM<|yG [(31,.bool false),(36,.bool true)] ?_;have hle:=iS imm1;exact rW 26 [(37,.bool true)]<|zZ (hx:=[]) rfl hle rfl (zK rfl) ⟨rfl,rfl⟩
          intro imm1 hf le1;refine zE ?_;rintro _ _ ⟨rfl,rfl⟩;refine zM<|yG [(37,.bool true)] ?_;have hle:=iS imm1;exact rW 27 [(38,.bool true)]<|zZ (hx:=[]) rfl hle rfl (zK rfl) ⟨rfl,rfl⟩
        intro imm09 le8;refine zE ?_;rintro _ _ ⟨rfl,rfl⟩;refine zM<|yG [(0,vS p list c),(5,vS p list c),(6,vI (list.length:Int)),(7,vI t7),(42,.bool true)] ?_;have hle:=hle.trans le8;exact yN rfl<|wB (zL [] rfl (by decide))<|yS [(0,vS p list c),(5,vS p list c),(6,vI (list.length:Int)),(7,vI t7),(42,.bool true)]<|yB ⟨_,(zD hM08).symm,hle,rfl,rfl⟩
       | false =>
        have hM09:=zT hc5 hM;obtain ⟨y4,hy6,hM⟩:=zC hM09;refine vC [.p (vP b 0) [],.p (vT x.Name.l) [0],.q (.bool y),.q (.bool false),.q (.bool false),.p (vI t7) [],.q (.bool false),.q (.bool false),.p undef [],.p undef [],.p undef [],.p undef [],.p undef [],.p undef [],.p undef [],.p undef [],.p undef [],.p (.bool false) [],.p (.bool false) [],.p (.bool false) [],.p (vP b 1) [],.p (vS p1 x.Dims c1) [0],.p (vI (x.Dims.length:Int)) [],.q (.bool y3),.q (.bool false),.q (.bool false),.q (.bool false),.p (vP b 1) [],.p (vS p1 x.Dims c1) [0],.q (.bool y4),.p (.bool y4) []] [[],[(0,false)],[(1,false)],[(2,false)],[(3,false)],[(4,false)],[(4,false),(5,false)],[(4,false),(6,false)],[(7,false)],[(7,false)],[(7,false),(9,false)],[(7,false),(8,false),(10,false)],[(7,false),(11,false)],[(7,false),(12,false)],[(7,false)],[(7,false),(14,false)],[(7,false),(13,false),(15,false)],[(4,false),(7,false),(16,false)],[(4,false),(17,false)],[(18,false)],[(19,false)],[(19,false),(20,false)],[(19,false),(21,false)],[(19,false),(22,false)],[(19,false),(23,false)],[(19,false),(24,false)],[(25,false)],[(26,false)],[(26,false),(27,false)],[(26,false),(28,false)],[(26,false),(29,false)]] [hB b (cArr x p1 c1)] [] [(30,false)] (zL [0] rfl (by decide)) ?_ ?_
        · refine Op<|Op<|Oq ?_<|Oq ?_<|Oq ?_<|Op<|Oq ?_<|Oq ?_<|Op<|Op<|Op<|Op<|Op<|Op<|Op<|Op<|Op<|Op<|Op<|Op<|Op<|Op<|Op<|Oq ?_<|Oq ?_<|Oq ?_<|Oq ?_<|Op<|Op<|Oq ?_<|Op<|On
          · intro imm1 hf le1;refine zE ?_;rintro _ _ ⟨rfl,rfl⟩;refine zM<|yG [(13,vT x.Name.l)] ?_;have hle:=iS imm1;refine yQ (qF x.Name _ hy1 ) ?_;rintro imm01 hs2 v2 k2 le - ⟨v01,rfl,rfl,rfl⟩ -;have hle:=hle.trans le;exact zZ (hx:=[]) rfl hle rfl (zK rfl) ⟨rfl,rfl⟩
          · intro imm1 hf le1;refine zE ?_;rintro _ _ ⟨rfl,rfl⟩;refine zM<|yG [(14,.bool y)] ?_;have hle:=iS imm1;refine rW 4 [(15,.bool (!y))] ?_;rw [hc1];exact zZ (hx:=[]) rfl hle rfl (zK rfl) ⟨rfl,rfl⟩
          · intro imm1 hf le1;refine zE ?_;rintro _ _ ⟨rfl,rfl⟩;refine zM<|yG [(15,.bool false)] ?_;have hle:=iS imm1;exact rW 5 [(16,.bool false)]<|zZ (hx:=[]) rfl hle rfl (zK rfl) ⟨rfl,rfl⟩
          · intro imm1 hf le1;refine zE ?_;rintro _ _ ⟨rfl,rfl⟩;refine zE ?_;rintro _ _ ⟨rfl,rfl⟩;refine zM<|yG [(16,.bool false),(17,vI t7)] ?_;have hle:=iS imm1;refine rW 7 [(18,.bool (decide (t7 > 0)))] ?_;rw [hc2];exact zZ (hx:=[]) rfl hle rfl (zK rfl) ⟨rfl,rfl⟩
          · intro imm1 hf le1;refine zE ?_;rintro _ _ ⟨rfl,rfl⟩;refine zE ?_;rintro _ _ ⟨rfl,rfl⟩;refine zM<|yG [(16,.bool false),(18,.bool false)] ?_;have hle:=iS imm1;exact rW 8 [(19,.bool false)]<|zZ (hx:=[]) rfl hle rfl (zK rfl) ⟨rfl,rfl⟩
          · intro imm1 hf le1;refine zE ?_;rintro _ _ ⟨rfl,rfl⟩;refine zE ?_;rintro _ _ ⟨rfl,rfl⟩;refine zM<|yG [(31,.bool false),(34,vI (x.Dims.length:Int))] ?_;have hle:=iS imm1;refine yQ (xM (x.Dims.length:Int) 1 2 _ hy5 ) ?_;rintro imm08 hs2 v2 k2 le7 - ⟨v05,rfl,rfl,rfl⟩ -;have hle:=hle.trans le7;exact zZ (hx:=[]) rfl hle rfl (zK rfl) ⟨rfl,rfl⟩
          · intro imm1 hf le1;refine zE ?_;rintro _ _ ⟨rfl,rfl⟩;refine zE ?_;rintro _ _ ⟨rfl,rfl⟩;refine zM<|yG [(31,.bool false),(35,.bool y3)] ?_;have hle:=iS imm1;refine rW 25 [(36,.bool (!y3))] ?_;rw [hc5];exact zZ (hx:=[]) rfl hle rfl (zK rfl) ⟨rfl,rfl⟩
          · intro imm1 hf le1;refine zE ?_;rintro _ _ ⟨rfl,rfl⟩;refine zE ?_;rintro _ _ ⟨rfl,rfl⟩;refine zM<|yG [(31,.bool false),(36,.bool false)] ?_;have hle:=iS imm1;exact rW 26 [(37,.bool false)]<|zZ (hx:=[]) rfl hle rfl (zK rfl) ⟨rfl,rfl⟩
          · intro imm1 hf le1;refine zE ?_;rintro _ _ ⟨rfl,rfl⟩;refine zM<|yG [(37,.bool false)] ?_;have hle:=iS imm1;exact rW 27 [(38,.bool false)]<|zZ (hx:=[]) rfl hle rfl (zK rfl) ⟨rfl,rfl⟩
          intro imm1 hf le1;refine zE ?_;rintro _ _ ⟨rfl,rfl⟩;refine zE ?_;rintro _ _ ⟨rfl,rfl⟩;refine zM<|yG [(38,.bool false),(40,vS p1 x.Dims c1)] ?_;have hle:=iS imm1;have h:=h.mono le1;have h1:=h1.mono le1;have hf01:FV1 Tryz.prog imm1 [] (.func (.func 158) ⟨[]⟩ ⟨[]⟩) vZ:=by
            refine FV1.intro ?_;intro imm1 le1 x0 r u0 hF k0;obtain rfl:=k0;exact (jV x0 r hF ).mono (by rintro k i hs u ⟨v0,rfl,rfl,h⟩; exact ⟨rfl,h⟩)
          refine yQ (tH x.Dims vZ _ hy6 h1 hf01) ?_;rintro imm010 hs2 v2 k2 le9 - ⟨v06,rfl,rfl,rfl⟩ -;have hle:=hle.trans le9;exact zZ (hx:=[]) rfl hle rfl (zK rfl) ⟨rfl,rfl⟩
        intro imm011 le10;refine zE ?_;rintro _ _ ⟨rfl,rfl⟩;refine zM<|yG [(0,vS p list c),(5,vS p list c),(6,vI (list.length:Int)),(7,vI t7),(42,.bool y4)] ?_;have hle:=hle.trans le10;exact yN rfl<|wB (zL [] rfl (by decide))<|yS [(0,vS p list c),(5,vS p list c),(6,vI (list.length:Int)),(7,vI t7),(42,.bool y4)]<|yB ⟨_,(zD hM).symm,hle,rfl,rfl⟩
   rintro imm0 hs2 m2 ⟨t42,heq,le11,rfl,rfl⟩;subst o0;have h:=h.mono le11;have hle:=hle.trans le11;refine zF<|yO hMc ?_ ?_
   · intro hc6 hM;exact zG<|zB<|yA [] [(2,.bool false)]<|zF<|yI<|yF<|zP<|zP<|hr _ _ _ _ (zD hM).symm hle ⟨_,_,(.tmp rfl ResV.nil),zX,⟨_,rfl,rfl,rfl⟩⟩
   intro hc6 hM;exact yE<|zY<|zF<|zB<|yA [] [(7,vI (W (t7 + 1)))]<|xB<|vG [(0,vS p list c),(5,vS p list c),(6,vI (list.length:Int)),(7,vI (W (t7 + 1)))]<|ih (W (t7 + 1)) _ hM hle h hg ho hx hr
 intro hc hM;exact yZ<|zS<|zS<|yS [(0,vS p list c)]<|hx _  (zD hM).symm hle
def nB (list:(List zJ)):Option (Bool):=do
 match←sB list 0 with
 | .ret r0=>pure r0
 | .done _ =>
  pure (decide ((list.length:Int) ≤ 4))
theorem zCw:∀ (list:(List zJ)) r,nB list=some r→∀ {imm:Imm}{p c},(S4 imm p list c)→Ret Tryz.prog 105 [vS p list c] imm [] (jW  r):=by
 intro list r hM imm p c h;unfold nB at hM;refine yH (fn:=Tryz.f105) (c:=(bodyOf Tryz.f105)) Tryz.func105 rfl rfl ?_;rintro B - -;refine zG<|zB<|yA [] []<|zF<|zG<|zG<|zB<|yA [] [(5,vS p list c),(6,vI (list.length:Int)),(7,vI 0)]<|zF<|yC<|vG [(0,vS p list c),(5,vS p list c),(6,vI (list.length:Int)),(7,vI 0)] ?_;obtain ⟨o01,ho01,hMl⟩:=zC hM;refine zAm list 0 o01 ho01 iR h (fun _ _ _ h=>h) (fun _ _ h=>h) ?_ ?_
 · intro imm012  heq1 le12;subst o01;refine yD<|zF<|zG<|zB<|yA [] [(2,.bool (decide ((list.length:Int) ≤ 4)))]<|zF<|yI ?_;obtain rfl:=zD hMl;exact yP ⟨_,_,(.tmp rfl ResV.nil),zX,⟨_,rfl,rfl,rfl⟩⟩
 intro r0 imm9 hs9 m9 heq9 le9 hrs9;subst heq9;refine yF<|zP ?_;obtain rfl:=zD hMl;exact yP hrs9
def sZ (hsF:List HA) (r:Int):KT:=fun kk imm' hs' v=>
  ∃ v0,hsF=hs'∧v=tupV [v0]∧v0=.int .i64 r
def xC (s:(List zR)) (f0:(zR→Option Bool)) (t8:Int):Option (Out Unit (Int)):=do
 if (decide (t8 < (s.length:Int))) then
  let x←idx s t8
  let y←f0 x
  if y then
   pure (.ret t8)
  else
   xC s f0 (W (t8 + 1))
 else
  pure (.done ())
 partial_fixpoint
theorem oW (s:(List zR)) (f0:(zR→Option Bool)):∀ (t8:Int) (o:Out Unit (Int)),xC s f0 t8=some o→∀ {B}{imm0 imm:Imm}{Q p c}{fv:Value}{hsF:List HA},imm0.le imm→(S4 imm p s c)→(FV1 Tryz.prog imm hsF fv f0)→(∀ gl a w,¬Q (.goto gl) a w)→(∀ a w,¬Q .outgrown a w)→(∀ (imm':Imm) ,o=(.done ())→imm0.le imm'→T 19 B Q (.exit 0) imm' hsF [])→(∀ r imm' hs' m',o=(.ret r)→imm0.le imm'→RS Tryz.prog Tryz.f159 B (sZ hsF r) imm' hs' m'→T 19 B Q .ret imm' hs' m')→J Tryz.prog 19 B (nav (bodyOf Tryz.f159) [1,0,1,0]) Q imm hsF [(0,vS p s c),(1,fv),(7,vI (s.length:Int)),(8,vI t8)]:=by
 refine xC.partial_correctness s f0 _ ?_;intro self ih t8 o hM B imm0 imm Q p c fv hsF hle h h1 hg ho hx hr;refine xA hg ho<|zG<|zB<|yA [] [(9,.bool (decide (t8 < (s.length:Int))))]<|zF<|zG<|yO hM ?_ ?_
 · intro hc hM;refine yE<|zF<|zG<|yC<|zG<|zB<|yA [] [(5,vI t8)]<|zF<|zG<|zB<|yK 3 [] [(11,fv),(12,vS p s c),(13,vI t8)] ?_;obtain ⟨x,hy,hM⟩:=zC hM;refine wD rfl rfl h hy ?_;intro ad ccs hat hrep;obtain ⟨v0,v01,v02,v03,rfl,h2,h3,h4,h5⟩:=wE hrep;obtain ⟨p1,c1,rfl⟩:=h2.form;obtain ⟨p2,c2,rfl⟩:=h3.form;obtain ⟨p3,c3,rfl⟩:=h4.form;obtain ⟨p4,c4,rfl⟩:=h5.form;refine xQ 0 hat (cStmt x p1 c1 p2 c2 p3 c3 p4 c4) (vA (cStmt x p1 c1 p2 c2 p3 c3 p4 c4)) rfl ?_;obtain ⟨y,hy1,hM⟩:=zC hM;refine zGl rfl rfl h1 hy1 ⟨_,rfl,(wN ⟨_,_,_,_,rfl,h2,h3,h4,h5⟩)⟩ (List.append_nil _).symm ?_;rintro imm0 v04 le rfl;refine uP (hs':=hsF) (List.append_nil _) ?_;have h:=h.mono le;have h1:=h1.mono le;have hle:=hle.trans le;refine yN rfl<|zF<|yO hM ?_ ?_
   · intro hc1 hM;exact zG<|zB<|yA [] [(4,vI t8)]<|zF<|yI<|yF<|zP<|zP<|hr _ _ _ _ (zD hM).symm hle ⟨_,_,(.tmp rfl ResV.nil),(fun _ h=>h),⟨_,rfl,rfl,rfl⟩⟩
   intro hc1 hM;exact yE<|zY<|zF<|zB<|yA [] [(8,vI (W (t8 + 1)))]<|xB<|vG [(0,vS p s c),(1,fv),(7,vI (s.length:Int)),(8,vI (W (t8 + 1)))]<|ih (W (t8 + 1)) _ hM hle h h1 hg ho hx hr
 intro hc hM;exact yZ<|zS<|zS<|yS []<|hx _  (zD hM).symm hle
def wV (s:(List zR)) (f0:(zR→Option Bool)):Option (Int):=do
 match←xC s f0 0 with
 | .ret r0=>pure r0
 | .done _ =>
  pure (-1)
theorem nI:∀ (s:(List zR)) (f0:(zR→Option Bool)) r,wV s f0=some r→∀ {imm:Imm}{p c}{fv:Value}{hsF:List HA},(S4 imm p s c)→(FV1 Tryz.prog imm hsF fv f0)→Ret Tryz.prog 159 [vS p s c,fv] imm hsF (sZ hsF r):=by
 intro s f0 r hM imm p c fv hsF h h1;unfold wV at hM;refine yH (fn:=Tryz.f159) (c:=(bodyOf Tryz.f159)) Tryz.func159 rfl rfl ?_;rintro B - -;refine zG<|zB<|yA [] []<|zF<|zG<|zG<|zB<|yA [] [(7,vI (s.length:Int)),(8,vI 0)]<|zF<|yC<|vG [(0,vS p s c),(1,fv),(7,vI (s.length:Int)),(8,vI 0)] ?_;obtain ⟨o0,ho0,hMl⟩:=zC hM;refine oW s f0 0 o0 ho0 iR h h1 (fun _ _ _ h=>h) (fun _ _ h=>h) ?_ ?_
 · intro imm01  heq le1;subst o0;refine yD<|zF<|zG<|zB<|yA [] [(4,vI (-1))]<|zF<|yI ?_;obtain rfl:=zD hMl;exact yP ⟨_,_,(.tmp rfl ResV.nil),(fun _ h=>h),⟨_,rfl,rfl,rfl⟩⟩
 intro r0 imm9 hs9 m9 heq9 le9 hrs9;subst heq9;refine yF<|zP ?_;obtain rfl:=zD hMl;exact yP hrs9
def oN (hsF:List HA) (r:Bool):KT:=fun kk imm' hs' v=>
  ∃ v0,hsF=hs'∧v=tupV [v0]∧v0=.bool r
def xO (s:(List zR)) (f0:(zR→Option Bool)):Option (Bool):=do
 let y←wV s f0
 pure (decide (y ≥ 0))
theorem oX:∀ (s:(List zR)) (f0:(zR→Option Bool)) r,xO s f0=some r→∀ {imm:Imm}{p c}{fv:Value}{hsF:List HA},(S4 imm p s c)→(FV1 Tryz.prog imm hsF fv f0)→Ret Tryz.prog 106 [vS p s c,fv] imm hsF (oN hsF r):=by
 intro s f0 r hM imm p c fv hsF h h1;unfold xO at hM;refine yH (fn:=Tryz.f106) (c:=(bodyOf Tryz.f106)) Tryz.func106 rfl rfl ?_;rintro B - -;refine zG<|zB<|yA [] []<|zF<|zG<|zB<|yK 2 [] [(5,vS p s c),(6,fv)] ?_;obtain ⟨y,hy,hM⟩:=zC hM;refine zCY (hs1:=hsF) (rest:=[]) rfl rfl rfl rfl (by kernel_rfl) rfl (List.append_nil _).symm (nI s f0 _ hy h h1) ?_;rintro imm0 hs2 v2 k2 le - ⟨v0,rfl,rfl,rfl⟩ -;refine uP (hs':=hsF) (List.append_nil _) ?_;refine yA [] [(4,.bool (decide (y ≥ 0)))]<|zF<|yI ?_;obtain rfl:=zD hM;exact yP ⟨_,_,(.tmp rfl ResV.nil),(fun _ h=>h),⟨_,rfl,rfl,rfl⟩⟩
def zAV (r:Bool):KT:=fun kk imm' hs' v=>
  ∃ v0,hs'=[]∧v=tupV [v0]∧v0=.bool r
def sV (s:zA) (x:Int):Option (Bool):=do
 let t3←(do
   let y←sA s
   if (!y) then
    pure true
   else
    let y1←tM s
    pure (decide (y1 > x))
     : Option Bool)
 pure (id t3)
theorem zBU:∀ (s:zA) (x:Int) r,sV s x=some r→∀ {imm:Imm}{p c}{ad:Addr},(S4 imm p s.Coefs c)→(At imm ad [vI x])→Ret Tryz.prog 119 [vA (cAff s p c),.pointer (some ad)] imm [] (zAV  r):=by
 intro s x r hM imm p c ad h hat;unfold sV at hM;refine yH (fn:=Tryz.f119) (c:=(bodyOf Tryz.f119)) Tryz.func119 rfl rfl ?_;rintro B - -;have hle:=iS imm;refine zG<|zB<|tA (cAff s p c) ?_;intro b hb;refine yA [] []<|zF<|zG ?_;obtain ⟨o0,ho0,hMc⟩:=zC hM;refine yT (fun imm' hs' m'=>∃ (t3:Bool),o0=t3∧imm.le imm'∧hs'=[]∧m'=[(3,.bool t3)]) ?_ ?_
 · have hle:=iS imm;obtain ⟨y,hy,hM⟩:=zC ho0;cases hc:(!y) with
   | true =>
    have hM0:=zV hc hM;refine vC [.p (vA (cAff s p c)) [0],.q (.bool y),.q (.bool true),.q (.bool true),.p undef [],.p undef [],.p undef [],.p undef [],.p (.bool true) []] [[],[(0,false)],[(1,false)],[(2,false)],[(3,false)],[(3,false),(4,false)],[(3,false)],[(3,false),(5,false),(6,false)],[(3,false),(7,false)]] [hB b (cAff s p c)] [] [(8,false)] (zL [0] rfl (by decide)) ?_ ?_
    · refine Op<|Oq ?_<|Oq ?_<|Oq ?_<|Op<|Op<|Op<|Op<|Op<|On
      · intro imm1 hf le1;refine zE ?_;rintro _ _ ⟨rfl,rfl⟩;refine zM<|yG [(4,vA (cAff s p c))] ?_;have hle:=iS imm1;have h:=h.mono le1;refine yQ (qI s _ hy h) ?_;rintro imm01 hs2 v2 k2 le - ⟨v0,rfl,rfl,rfl⟩ -;have hle:=hle.trans le;exact zZ (hx:=[]) rfl hle rfl (zK rfl) ⟨rfl,rfl⟩
      · intro imm1 hf le1;refine zE ?_;rintro _ _ ⟨rfl,rfl⟩;refine zM<|yG [(5,.bool y)] ?_;have hle:=iS imm1;refine rW 3 [(6,.bool (!y))] ?_;rw [hc];exact zZ (hx:=[]) rfl hle rfl (zK rfl) ⟨rfl,rfl⟩
      intro imm1 hf le1;refine zE ?_;rintro _ _ ⟨rfl,rfl⟩;refine zM<|yG [(6,.bool true)] ?_;have hle:=iS imm1;exact rW 4 [(7,.bool true)]<|zZ (hx:=[]) rfl hle rfl (zK rfl) ⟨rfl,rfl⟩
    intro imm02 le1;refine zE ?_;rintro _ _ ⟨rfl,rfl⟩;refine zM<|yG [(12,.bool true)] ?_;have hle:=hle.trans le1;exact yA [] [(3,.bool true)]<|wB (zL [] rfl (by decide))<|yS [(3,.bool true)]<|yB ⟨_,(zD hM0).symm,hle,rfl,rfl⟩
   | false =>
    have hM01:=zT hc hM;obtain ⟨y1,hy1,hM⟩:=zC hM01;refine vC [.p (vA (cAff s p c)) [0],.q (.bool y),.q (.bool false),.q (.bool false),.p (vA (cAff s p c)) [0],.q (vI y1),.q (vI x),.p (.bool (decide (y1 > x))) [],.p (.bool (decide (y1 > x))) []] [[],[(0,false)],[(1,false)],[(2,false)],[(3,false)],[(3,false),(4,false)],[(3,false)],[(3,false),(5,false),(6,false)],[(3,false),(7,false)]] [hB b (cAff s p c)] [] [(8,false)] (zL [0] rfl (by decide)) ?_ ?_
    · refine Op<|Oq ?_<|Oq ?_<|Oq ?_<|Op<|Oq ?_<|Oq ?_<|Op<|Op<|On
      · intro imm1 hf le1;refine zE ?_;rintro _ _ ⟨rfl,rfl⟩;refine zM<|yG [(4,vA (cAff s p c))] ?_;have hle:=iS imm1;have h:=h.mono le1;refine yQ (qI s _ hy h) ?_;rintro imm01 hs2 v2 k2 le - ⟨v0,rfl,rfl,rfl⟩ -;have hle:=hle.trans le;exact zZ (hx:=[]) rfl hle rfl (zK rfl) ⟨rfl,rfl⟩
      · intro imm1 hf le1;refine zE ?_;rintro _ _ ⟨rfl,rfl⟩;refine zM<|yG [(5,.bool y)] ?_;have hle:=iS imm1;refine rW 3 [(6,.bool (!y))] ?_;rw [hc];exact zZ (hx:=[]) rfl hle rfl (zK rfl) ⟨rfl,rfl⟩
      · intro imm1 hf le1;refine zE ?_;rintro _ _ ⟨rfl,rfl⟩;refine zM<|yG [(6,.bool false)] ?_;have hle:=iS imm1;exact rW 4 [(7,.bool false)]<|zZ (hx:=[]) rfl hle rfl (zK rfl) ⟨rfl,rfl⟩
      · intro imm1 hf le1;refine zE ?_;rintro _ _ ⟨rfl,rfl⟩;refine zE ?_;rintro _ _ ⟨rfl,rfl⟩;refine zM<|yG [(7,.bool false),(8,vA (cAff s p c))] ?_;have hle:=iS imm1;have h:=h.mono le1;refine yQ (nS s _ hy1 h) ?_;rintro imm03 hs2 v2 k2 le2 - ⟨v01,rfl,rfl,rfl⟩ -;have hle:=hle.trans le2;exact zZ (hx:=[]) rfl hle rfl (zK rfl) ⟨rfl,rfl⟩
      intro imm1 hf le1;refine zE ?_;rintro _ _ ⟨rfl,rfl⟩;refine zM<|yG [(1,.pointer (some ad)),(7,.bool false)] ?_;have hle:=iS imm1;have hat:=hat.mono le1;exact xQ 0 hat [vI x] (vI x) rfl<|zZ (hx:=[]) rfl hle rfl (zK rfl) ⟨rfl,rfl⟩
    intro imm04 le3;refine zE ?_;rintro _ _ ⟨rfl,rfl⟩;refine zM<|yG [(12,.bool (decide (y1 > x)))] ?_;have hle:=hle.trans le3;exact yA [] [(3,.bool (decide (y1 > x)))]<|wB (zL [] rfl (by decide))<|yS [(3,.bool (decide (y1 > x)))]<|yB ⟨_,(zD hM).symm,hle,rfl,rfl⟩
 rintro imm0 hs2 m2 ⟨t3,heq,le4,rfl,rfl⟩;subst o0;refine zF<|yI ?_;obtain rfl:=zD hMc;exact yP ⟨_,_,(.tmp rfl ResV.nil),zX,⟨_,rfl,rfl,rfl⟩⟩
def zBV (r:Bool):KT:=fun kk imm' hs' v=>
  ∃ v0,hs'=[]∧v=tupV [v0]∧v0=.bool r
def pJ (a0:zN) (depth:Int):Option (Bool):=do
 let t4←(do
   let y←oM a0.Array
   if y then
    let y1←xP (a0.Subs.length:Int) 1 2
    if y1 then
     let y2←xD a0.Subs (fun x0=>sV x0 depth)
     pure (!y2)
    else
     pure false
   else
    pure false
     : Option Bool)
 pure (id t4)
theorem fY:∀ (a0:zN) (depth:Int) r,pJ a0 depth=some r→∀ {imm:Imm}{p c},(S4 imm p a0.Subs c)→Ret Tryz.prog 57 [vA (cAccess a0 p c),vI depth] imm [] (zBV  r):=by
 intro a0 depth r hM imm p c h;unfold pJ at hM;refine yH (fn:=Tryz.f57) (c:=(bodyOf Tryz.f57)) Tryz.func57 rfl rfl ?_;rintro B - -;have hle:=iS imm;refine zG<|zB<|tA (cAccess a0 p c) ?_;intro b hb;refine tA [vI depth] ?_;intro b1 hb1;refine yL 0 rfl ?_;intro imm0 le hl0;have hat:At imm0 ⟨b1,0,none⟩ [vI depth]:=At.of_blk hl0;have h:=h.mono le;have hle:=hle.trans le;refine yA [] []<|zF<|zG ?_;obtain ⟨o0,ho0,hMc⟩:=zC hM;refine yT (fun imm' hs' m'=>∃ (t4:Bool),o0=t4∧imm0.le imm'∧hs'=[]∧m'=[(4,.bool t4)]) ?_ ?_
 · have hle:=iS imm0;refine zB<|yK 2 [0] [(6,vT a0.Array.l)] ?_;obtain ⟨y,hy,hM⟩:=zC ho0;refine yQ (qF a0.Array _ hy ) ?_;rintro imm02 hs2 v2 k2 le1 - ⟨v0,rfl,rfl,rfl⟩ -;have hat:=hat.mono le1;have h:=h.mono le1;have hle:=hle.trans le1;refine yK 4 [] [(8,.bool y)] ?_;cases hc:y with
   | true =>
    have hM0:=zV hc hM
    try rw [hc]
    refine yK 7 [0] [(11,vI (a0.Subs.length:Int))] ?_;obtain ⟨y1,hy1,hM⟩:=zC hM0;refine yQ (xM (a0.Subs.length:Int) 1 2 _ hy1 ) ?_;rintro imm03 hs2 v2 k2 le2 - ⟨v01,rfl,rfl,rfl⟩ -;have hat:=hat.mono le2;have h:=h.mono le2;have hle:=hle.trans le2;refine yK 10 [] [(14,.bool y1)] ?_;cases hc1:y1 with
    | true =>
     have hM01:=zV hc1 hM
     try rw [hc1]
     refine yK 13 [0] [(16,vS p a0.Subs c),(17,.func (.func 119) ⟨[]⟩ ⟨[vP b1 0]⟩)] ?_;have hf0:FV1 Tryz.prog imm03 [] (.func (.func 119) ⟨[]⟩ ⟨[vP b1 0]⟩) (fun x0=>sV x0 depth):=by
       refine FV1.intro ?_;intro imm1 le1 x0 r u0 hF k0;obtain ⟨_,rfl,k0⟩:=k0;obtain ⟨v02,rfl,h3⟩:=yM k0;obtain ⟨p1,c1,rfl⟩:=h3.form;exact (zBU x0 depth r hF h3 (hat.mono le1)).mono (by rintro k i hs u ⟨v0,rfl,rfl,h⟩; exact ⟨rfl,h⟩)
     obtain ⟨y2,hy2,hM⟩:=zC hM01;refine yQ (tU a0.Subs (fun x0=>sV x0 depth) _ hy2 h hf0) ?_;rintro imm04 hs2 v2 k2 le3 - ⟨v03,rfl,rfl,rfl⟩ -;have hle:=hle.trans le3;exact yA [] [(4,.bool (!y2))]<|wB (zL [] rfl (by decide))<|yS [(4,.bool (!y2))]<|yB ⟨_,(zD hM).symm,hle,rfl,rfl⟩
    | false =>
     have hM02:=zT hc1 hM
     try rw [hc1]
     exact yA [] [(4,.bool false)]<|wB (zL [] rfl (by decide))<|yS [(4,.bool false)]<|yB ⟨_,(zD hM02).symm,hle,rfl,rfl⟩
   | false =>
    have hM03:=zT hc hM
    try rw [hc]
    exact yA [] [(4,.bool false)]<|wB (zL [] rfl (by decide))<|yS [(4,.bool false)]<|yB ⟨_,(zD hM03).symm,hle,rfl,rfl⟩
 rintro imm01 hs2 m2 ⟨t4,heq,le4,rfl,rfl⟩;subst o0;refine zF<|yI ?_;obtain rfl:=zD hMc;exact yP ⟨_,_,(.tmp rfl ResV.nil),zX,⟨_,rfl,rfl,rfl⟩⟩
def zBW (r:Bool):KT:=fun kk imm' hs' v=>
  ∃ v0,hs'=[]∧v=tupV [v0]∧v0=.bool r
def pK (a0:zA):Option (Bool):=do
 let t2←(do
   if ((a0.Coefs.length:Int) == 0) then
    pure (a0.Const == 0)
   else
    pure false
     : Option Bool)
 pure (id t2)
theorem fZ:∀ (a0:zA) r,pK a0=some r→∀ {imm:Imm}{p c},(S4 imm p a0.Coefs c)→Ret Tryz.prog 184 [vA (cAff a0 p c)] imm [] (zBW  r):=by
 intro a0 r hM imm p c h;unfold pK at hM;refine yH (fn:=Tryz.f184) (c:=(bodyOf Tryz.f184)) Tryz.func184 rfl rfl ?_;rintro B - -;have hle:=iS imm;refine zG<|zB<|tA (cAff a0 p c) ?_;intro b hb;refine yA [] []<|zF<|zG ?_;obtain ⟨o0,ho0,hMc⟩:=zC hM;refine yT (fun imm' hs' m'=>∃ (t2:Bool),o0=t2∧imm.le imm'∧hs'=[]∧m'=[(2,.bool t2)]) ?_ ?_
 · have hle:=iS imm;refine zB<|yK 5 [0] [(7,.bool ((a0.Coefs.length:Int) == 0))] ?_;cases hc:((a0.Coefs.length:Int) == 0) with
   | true =>
    have hM0:=zV hc ho0
    try rw [hc]
    exact yA [0] [(2,.bool (a0.Const == 0))]<|wB (zL [] rfl (by decide))<|yS [(2,.bool (a0.Const == 0))]<|yB ⟨_,(zD hM0).symm,hle,rfl,rfl⟩
   | false =>
    have hM01:=zT hc ho0
    try rw [hc]
    exact yA [] [(2,.bool false)]<|wB (zL [] rfl (by decide))<|yS [(2,.bool false)]<|yB ⟨_,(zD hM01).symm,hle,rfl,rfl⟩
 rintro imm0 hs2 m2 ⟨t2,heq,le,rfl,rfl⟩;subst o0;refine zF<|yI ?_;obtain rfl:=zD hMc;exact yP ⟨_,_,(.tmp rfl ResV.nil),zX,⟨_,rfl,rfl,rfl⟩⟩
def zBX (r:Bool):KT:=fun kk imm' hs' v=>
  ∃ v0,hs'=[]∧v=tupV [v0]∧v0=.bool r
def rA (a0:zN):Option (Bool):=do
 let t2←(do
   if (a0.Array.l == ([]:List UInt8)) then
    pure ((a0.Subs.length:Int) == 0)
   else
    pure false
     : Option Bool)
 pure (id t2)
theorem nU:∀ (a0:zN) r,rA a0=some r→∀ {imm:Imm}{p c},(S4 imm p a0.Subs c)→Ret Tryz.prog 185 [vA (cAccess a0 p c)] imm [] (zBX  r):=by
 intro a0 r hM imm p c h;unfold rA at hM;refine yH (fn:=Tryz.f185) (c:=(bodyOf Tryz.f185)) Tryz.func185 rfl rfl ?_;rintro B - -;have hle:=iS imm;refine zG<|zB<|tA (cAccess a0 p c) ?_;intro b hb;refine yA [] []<|zF<|zG ?_;obtain ⟨o0,ho0,hMc⟩:=zC hM;refine yT (fun imm' hs' m'=>∃ (t2:Bool),o0=t2∧imm.le imm'∧hs'=[]∧m'=[(2,.bool t2)]) ?_ ?_
 · have hle:=iS imm;refine zB<|yK 4 [0] [(6,.bool (a0.Array.l == ([]:List UInt8)))] ?_;cases hc:(a0.Array.l == ([]:List UInt8)) with
   | true =>
    have hM0:=zV hc ho0
    try rw [hc]
    exact yA [0] [(2,.bool ((a0.Subs.length:Int) == 0))]<|wB (zL [] rfl (by decide))<|yS [(2,.bool ((a0.Subs.length:Int) == 0))]<|yB ⟨_,(zD hM0).symm,hle,rfl,rfl⟩
   | false =>
    have hM01:=zT hc ho0
    try rw [hc]
    exact yA [] [(2,.bool false)]<|wB (zL [] rfl (by decide))<|yS [(2,.bool false)]<|yB ⟨_,(zD hM01).symm,hle,rfl,rfl⟩
 rintro imm0 hs2 m2 ⟨t2,heq,le,rfl,rfl⟩;subst o0;refine zF<|yI ?_;obtain rfl:=zD hMc;exact yP ⟨_,_,(.tmp rfl ResV.nil),zX,⟨_,rfl,rfl,rfl⟩⟩
def zED (r:Bool):KT:=fun kk imm' hs' v=>
  ∃ v0,hs'=[]∧v=tupV [v0]∧v0=.bool r
def kR (kind:Int):Option (Bool):=do
 let y←xP kind 4 6
 pure (id y)
theorem zFQ:∀ (kind:Int) r,kR kind=some r→∀ {imm:Imm} ,Ret Tryz.prog 186 [vI kind] imm [] (zED  r):=by
 intro kind r hM imm;unfold kR at hM;refine yH (fn:=Tryz.f186) (c:=(bodyOf Tryz.f186)) Tryz.func186 rfl rfl ?_;rintro B - -;refine zG<|zB<|yA [] []<|zF<|zG<|zB<|yK 1 [] [(3,vI kind)] ?_;obtain ⟨y,hy,hM⟩:=zC hM;refine yQ (xM kind 4 6 _ hy ) ?_;rintro imm0 hs2 v2 k2 le - ⟨v0,rfl,rfl,rfl⟩ -;refine yA [] [(2,.bool y)]<|zF<|yI ?_;obtain rfl:=zD hM;exact yP ⟨_,_,(.tmp rfl ResV.nil),zX,⟨_,rfl,rfl,rfl⟩⟩
def jX (b0:Nat) (r:Bool×Int):KT:=fun kk imm' hs' v=>
  ∃ v0 k0,hs'=[.blk b0 ⟨k0⟩]∧v=tupV [v0]∧v0=.bool r.1∧Rp.rep imm' k0 r.2
def vF (e0:zH) (depth:Int) (deep:Int) (count:Int):Option (Bool×Int):=do
 let t21←(do
   if (decide ((W (count + 1)) > 12)) then
    pure true
   else
    pure (decide (deep > 5))
     : Option Bool)
 if t21 then
  pure (false,(W (count + 1)))
 else
  let t51←(do
    if (e0.Kind != 1) then
     if (e0.Num != 0) then
      pure true
     else
      if (e0.Kind != 2) then
       let y←pK e0.Index
       if (!y) then
        pure true
       else
        if (e0.Kind != 3) then
         let y1←rA e0.Read
         pure (!y1)
        else
         pure false
      else
       if (e0.Kind != 3) then
        let y2←rA e0.Read
        pure (!y2)
       else
        pure false
    else
     if (e0.Kind != 2) then
      let y3←pK e0.Index
      if (!y3) then
       pure true
      else
       if (e0.Kind != 3) then
        let y4←rA e0.Read
        pure (!y4)
       else
        pure false
     else
      if (e0.Kind != 3) then
       let y5←rA e0.Read
       pure (!y5)
      else
       pure false
      : Option Bool)
  if t51 then
   pure (false,(W (count + 1)))
  else
   if (e0.Kind == 1) then
    let t8←(do
      let y6←xP e0.Num 0 99
      if y6 then
       pure ((e0.Kids.length:Int) == 0)
      else
       pure false
        : Option Bool)
    pure (t8,(W (count + 1)))
   else
    if (e0.Kind == 2) then
     let t81←(do
       let y7←sA e0.Index
       if y7 then
        let y8←tM e0.Index
        if (decide (y8 ≤ depth)) then
         pure ((e0.Kids.length:Int) == 0)
        else
         pure false
       else
        pure false
         : Option Bool)
     pure (t81,(W (count + 1)))
    else
     if (e0.Kind == 3) then
      let t82←(do
        let y9←pJ e0.Read depth
        if y9 then
         pure ((e0.Kids.length:Int) == 0)
        else
         pure false
          : Option Bool)
      pure (t82,(W (count + 1)))
     else
      let t99←(do
        let y10←kR e0.Kind
        if (!y10) then
         pure true
        else
         pure ((e0.Kids.length:Int) != 2)
          : Option Bool)
      if t99 then
       pure (false,(W (count + 1)))
      else
       let (t83,x)←(do
         let x1←idx e0.Kids 0
         let (y12,y13)←vF (same x1) (same depth) (W (deep + 1)) (W (count + 1))
         if y12 then
          let x2←idx e0.Kids 1
          let (y15,y16)←vF (same x2) (same depth) (W (deep + 1)) (same y13)
          pure (y15,y16)
         else
          pure (false,y13)
           : Option (Bool×Int))
       pure (t83,x)
 partial_fixpoint
theorem zCx:∀ (e0:zH) (depth:Int) (deep:Int) (count:Int) r,vF e0 depth deep count=some r→∀ {imm:Imm}{p c p1 c1 p2 c2}{r0:Nat},(S4 imm p e0.Index.Coefs c)→(S4 imm p1 e0.Read.Subs c1)→(S4 imm p2 e0.Kids c2)→Ret Tryz.prog 160 [vA (cExpr e0 p c p1 c1 p2 c2),vI depth,vI deep,vP r0 0] imm [hB r0 [vI count]] (jX r0 r):=by
 refine vF.partial_correctness (fun e0 depth deep count r=>∀ {imm:Imm}{p c p1 c1 p2 c2}{r0:Nat},(S4 imm p e0.Index.Coefs c)→(S4 imm p1 e0.Read.Subs c1)→(S4 imm p2 e0.Kids c2)→Ret Tryz.prog 160 [vA (cExpr e0 p c p1 c1 p2 c2),vI depth,vI deep,vP r0 0] imm [hB r0 [vI count]] (jX r0 r)) ?_;intro F_impl_exprScan ih_impl_exprScan e0 depth deep count r hM imm p c p1 c1 p2 c2 r0 h h1 h2;refine yH (fn:=Tryz.f160) (c:=(bodyOf Tryz.f160)) Tryz.func160 rfl rfl ?_;rintro B - -;have hle:=iS imm;refine zG<|zB<|tA (cExpr e0 p c p1 c1 p2 c2) ?_;intro b hb;refine yA [] []<|zF<|zG<|zB<|yK 5 [1] [(12,vI (W (count + 1))),(13,vP r0 0)]<|xI 1 [vI (W (count + 1))] [hB b (cExpr e0 p c p1 c1 p2 c2),hB r0 [vI (W (count + 1))]] rfl rfl rfl rfl<|yN rfl<|zF<|zG<|zG ?_;obtain ⟨o0,ho0,hMc⟩:=zC hM;refine yT (fun imm' hs' m'=>∃ (t21:Bool),o0=t21∧imm.le imm'∧hs'=[hB b (cExpr e0 p c p1 c1 p2 c2),hB r0 [vI (W (count + 1))]]∧m'=[(1,vI depth),(2,vI deep),(3,vP r0 0),(4,vP b 0),(21,.bool t21)]) ?_ ?_
 · have hle:=iS imm;refine zB<|yK 5 [1] [(18,.bool (decide ((W (count + 1)) > 12)))] ?_;cases hc:(decide ((W (count + 1)) > 12)) with
   | true =>
    have hM0:=zV hc ho0
    try rw [hc]
    exact yA [] [(21,.bool true)]<|yS [(1,vI depth),(2,vI deep),(3,vP r0 0),(4,vP b 0),(21,.bool true)]<|yB ⟨_,(zD hM0).symm,hle,rfl,rfl⟩
   | false =>
    have hM01:=zT hc ho0
    try rw [hc]
    exact yA [] [(21,.bool (decide (deep > 5)))]<|yS [(1,vI depth),(2,vI deep),(3,vP r0 0),(4,vP b 0),(21,.bool (decide (deep > 5)))]<|yB ⟨_,(zD hM01).symm,hle,rfl,rfl⟩
 rintro imm0 hs2 m2 ⟨t21,heq,le,rfl,rfl⟩;subst o0;have h:=h.mono le;have h1:=h1.mono le;have h2:=h2.mono le;have hle:=hle.trans le;refine zF<|yO hMc ?_ ?_
 · intro hc1 hM;refine zG<|zB<|yA [] [(8,.bool false)]<|zF<|yI<|zP ?_;obtain rfl:=zD hM;exact yP ⟨_,_,(.tmp rfl ResV.nil),(zL [1] rfl (by decide)),⟨_,_,rfl,rfl,rfl,rfl⟩⟩
 intro hc1 hM;refine yE<|zF<|zG<|zG ?_;obtain ⟨o01,ho01,hMc1⟩:=zC hM;refine yT (fun imm' hs' m'=>∃ (t51:Bool),o01=t51∧imm0.le imm'∧hs'=[hB b (cExpr e0 p c p1 c1 p2 c2),hB r0 [vI (W (count + 1))]]∧m'=[(1,vI depth),(2,vI deep),(3,vP r0 0),(4,vP b 0),(51,.bool t51)]) ?_ ?_
 · have hle:=iS imm0;refine zB<|yK 4 [0] [(25,.bool (e0.Kind != 1))] ?_;cases hc2:(e0.Kind != 1) with
   | true =>
    have hM02:=zV hc2 ho01
    try rw [hc2]
    refine yK 9 [0] [(30,.bool (e0.Num != 0))] ?_;cases hc3:(e0.Num != 0) with
    | true =>
     have hM03:=zV hc3 hM02
     try rw [hc3]
     exact yA [] [(51,.bool true)]<|yS [(1,vI depth),(2,vI deep),(3,vP r0 0),(4,vP b 0),(51,.bool true)]<|yB ⟨_,(zD hM03).symm,hle,rfl,rfl⟩
    | false =>
     have hM04:=zT hc3 hM02
     try rw [hc3]
     refine yK 13 [0] [(34,.bool (e0.Kind != 2))] ?_;cases hc4:(e0.Kind != 2) with
     | true =>
      have hM05:=zV hc4 hM04
      try rw [hc4]
      refine yK 15 [0] [(36,vA (cAff e0.Index p c))] ?_;obtain ⟨y,hy,hM⟩:=zC hM05;refine yQ (fZ e0.Index _ hy h) ?_;rintro imm02 hs2 v2 k2 le1 - ⟨v0,rfl,rfl,rfl⟩ -;have h1:=h1.mono le1;have hle:=hle.trans le1;refine yK 20 [] [(41,.bool (!y))] ?_;cases hc5:(!y) with
      | true =>
       have hM06:=zV hc5 hM
       try rw [hc5]
       exact yA [] [(51,.bool true)]<|yS [(1,vI depth),(2,vI deep),(3,vP r0 0),(4,vP b 0),(51,.bool true)]<|yB ⟨_,(zD hM06).symm,hle,rfl,rfl⟩
      | false =>
       have hM07:=zT hc5 hM
       try rw [hc5]
       refine yK 24 [0] [(45,.bool (e0.Kind != 3))] ?_;cases hc6:(e0.Kind != 3) with
       | true =>
        have hM08:=zV hc6 hM07
        try rw [hc6]
        refine yK 26 [0] [(47,vA (cAccess e0.Read p1 c1))] ?_;obtain ⟨y1,hy1,hM⟩:=zC hM08;refine yQ (nU e0.Read _ hy1 h1) ?_;rintro imm03 hs2 v2 k2 le2 - ⟨v01,rfl,rfl,rfl⟩ -;have hle:=hle.trans le2;exact yA [] [(51,.bool (!y1))]<|yS [(1,vI depth),(2,vI deep),(3,vP r0 0),(4,vP b 0),(51,.bool (!y1))]<|yB ⟨_,(zD hM).symm,hle,rfl,rfl⟩
       | false =>
        have hM09:=zT hc6 hM07
        try rw [hc6]
        exact yA [] [(51,.bool false)]<|yS [(1,vI depth),(2,vI deep),(3,vP r0 0),(4,vP b 0),(51,.bool false)]<|yB ⟨_,(zD hM09).symm,hle,rfl,rfl⟩
     | false =>
      have hM010:=zT hc4 hM04
      try rw [hc4]
      refine yK 24 [0] [(41,.bool false),(45,.bool (e0.Kind != 3))] ?_;cases hc7:(e0.Kind != 3) with
      | true =>
       have hM011:=zV hc7 hM010
       try rw [hc7]
       refine yK 26 [0] [(47,vA (cAccess e0.Read p1 c1))] ?_;obtain ⟨y2,hy2,hM⟩:=zC hM011;refine yQ (nU e0.Read _ hy2 h1) ?_;rintro imm04 hs2 v2 k2 le3 - ⟨v02,rfl,rfl,rfl⟩ -;have hle:=hle.trans le3;exact yA [] [(51,.bool (!y2))]<|yS [(1,vI depth),(2,vI deep),(3,vP r0 0),(4,vP b 0),(51,.bool (!y2))]<|yB ⟨_,(zD hM).symm,hle,rfl,rfl⟩
      | false =>
       have hM012:=zT hc7 hM010
       try rw [hc7]
       exact yA [] [(51,.bool false)]<|yS [(1,vI depth),(2,vI deep),(3,vP r0 0),(4,vP b 0),(51,.bool false)]<|yB ⟨_,(zD hM012).symm,hle,rfl,rfl⟩
   | false =>
    have hM013:=zT hc2 ho01
    try rw [hc2]
    refine yK 13 [0] [(30,.bool false),(34,.bool (e0.Kind != 2))] ?_;cases hc8:(e0.Kind != 2) with
    | true =>
     have hM014:=zV hc8 hM013
     try rw [hc8]
     refine yK 15 [0] [(36,vA (cAff e0.Index p c))] ?_;obtain ⟨y3,hy3,hM⟩:=zC hM014;refine yQ (fZ e0.Index _ hy3 h) ?_;rintro imm05 hs2 v2 k2 le4 - ⟨v03,rfl,rfl,rfl⟩ -;have h1:=h1.mono le4;have hle:=hle.trans le4;refine yK 20 [] [(41,.bool (!y3))] ?_;cases hc9:(!y3) with
     | true =>
      have hM015:=zV hc9 hM
      try rw [hc9]
      exact yA [] [(51,.bool true)]<|yS [(1,vI depth),(2,vI deep),(3,vP r0 0),(4,vP b 0),(51,.bool true)]<|yB ⟨_,(zD hM015).symm,hle,rfl,rfl⟩
     | false =>
      have hM016:=zT hc9 hM
      try rw [hc9]
      refine yK 24 [0] [(45,.bool (e0.Kind != 3))] ?_;cases hc10:(e0.Kind != 3) with
      | true =>
       have hM017:=zV hc10 hM016
       try rw [hc10]
       refine yK 26 [0] [(47,vA (cAccess e0.Read p1 c1))] ?_;obtain ⟨y4,hy4,hM⟩:=zC hM017;refine yQ (nU e0.Read _ hy4 h1) ?_;rintro imm06 hs2 v2 k2 le5 - ⟨v04,rfl,rfl,rfl⟩ -;have hle:=hle.trans le5;exact yA [] [(51,.bool (!y4))]<|yS [(1,vI depth),(2,vI deep),(3,vP r0 0),(4,vP b 0),(51,.bool (!y4))]<|yB ⟨_,(zD hM).symm,hle,rfl,rfl⟩
      | false =>
       have hM018:=zT hc10 hM016
       try rw [hc10]
       exact yA [] [(51,.bool false)]<|yS [(1,vI depth),(2,vI deep),(3,vP r0 0),(4,vP b 0),(51,.bool false)]<|yB ⟨_,(zD hM018).symm,hle,rfl,rfl⟩
    | false =>
     have hM019:=zT hc8 hM013
     try rw [hc8]
     refine yK 24 [0] [(41,.bool false),(45,.bool (e0.Kind != 3))] ?_;cases hc11:(e0.Kind != 3) with
     | true =>
      have hM020:=zV hc11 hM019
      try rw [hc11]
      refine yK 26 [0] [(47,vA (cAccess e0.Read p1 c1))] ?_;obtain ⟨y5,hy5,hM⟩:=zC hM020;refine yQ (nU e0.Read _ hy5 h1) ?_;rintro imm07 hs2 v2 k2 le6 - ⟨v05,rfl,rfl,rfl⟩ -;have hle:=hle.trans le6;exact yA [] [(51,.bool (!y5))]<|yS [(1,vI depth),(2,vI deep),(3,vP r0 0),(4,vP b 0),(51,.bool (!y5))]<|yB ⟨_,(zD hM).symm,hle,rfl,rfl⟩
     | false =>
      have hM021:=zT hc11 hM019
      try rw [hc11]
      exact yA [] [(51,.bool false)]<|yS [(1,vI depth),(2,vI deep),(3,vP r0 0),(4,vP b 0),(51,.bool false)]<|yB ⟨_,(zD hM021).symm,hle,rfl,rfl⟩
 rintro imm01 hs2 m2 ⟨t51,heq1,le7,rfl,rfl⟩;subst o01;have h:=h.mono le7;have h1:=h1.mono le7;have h2:=h2.mono le7;have hle:=hle.trans le7;refine zF<|yO hMc1 ?_ ?_
 · intro hc12 hM;refine zG<|zB<|yA [] [(8,.bool false)]<|zF<|yI<|zP ?_;obtain rfl:=zD hM;exact yP ⟨_,_,(.tmp rfl ResV.nil),(zL [1] rfl (by decide)),⟨_,_,rfl,rfl,rfl,rfl⟩⟩
 intro hc12 hM;refine yE<|zF<|zG<|yC<|zG<|zB<|yA [0] [(52,.bool (e0.Kind == 1))]<|zF<|yO hM ?_ ?_
 · intro hc13 hM;refine zG ?_;obtain ⟨o02,ho02,hMc2⟩:=zC hM;refine yT (fun imm' hs' m'=>∃ (t8:Bool),o02=t8∧imm01.le imm'∧hs'=[hB r0 [vI (W (count + 1))]]∧m'=[(8,.bool t8)]) ?_ ?_
   · have hle:=iS imm01;refine zB<|yK 2 [0] [(57,vI e0.Num)] ?_;obtain ⟨y6,hy6,hM⟩:=zC ho02;refine yQ (xM e0.Num 0 99 _ hy6 ) ?_;rintro imm09 hs2 v2 k2 le8 - ⟨v06,rfl,rfl,rfl⟩ -;have hle:=hle.trans le8;refine yK 4 [] [(59,.bool y6)] ?_;cases hc14:y6 with
     | true =>
      have hM022:=zV hc14 hM
      try rw [hc14]
      exact yA [0] [(8,.bool ((e0.Kids.length:Int) == 0))]<|wB (zL [1] rfl (by decide))<|yS [(8,.bool ((e0.Kids.length:Int) == 0))]<|yB ⟨_,(zD hM022).symm,hle,rfl,rfl⟩
     | false =>
      have hM023:=zT hc14 hM
      try rw [hc14]
      exact yA [] [(8,.bool false)]<|wB (zL [1] rfl (by decide))<|yS [(8,.bool false)]<|yB ⟨_,(zD hM023).symm,hle,rfl,rfl⟩
   rintro imm08 hs2 m2 ⟨t8,heq2,le9,rfl,rfl⟩;subst o02;refine zF<|yI<|yF<|zP ?_;obtain rfl:=zD hMc2;exact yP ⟨_,_,(.tmp rfl ResV.nil),(zL [0] rfl (by decide)),⟨_,_,rfl,rfl,rfl,rfl⟩⟩
 intro hc13 hM;refine zG<|zB<|yA [0] [(65,.bool (e0.Kind == 2))]<|zF<|yO hM ?_ ?_
 · intro hc15 hM;refine zG ?_;obtain ⟨o03,ho03,hMc3⟩:=zC hM;refine yT (fun imm' hs' m'=>∃ (t81:Bool),o03=t81∧imm01.le imm'∧hs'=[hB r0 [vI (W (count + 1))]]∧m'=[(8,.bool t81)]) ?_ ?_
   · have hle:=iS imm01;refine zB<|yK 2 [0] [(70,vA (cAff e0.Index p c))] ?_;obtain ⟨y7,hy7,hM⟩:=zC ho03;refine yQ (qI e0.Index _ hy7 h) ?_;rintro imm011 hs2 v2 k2 le10 - ⟨v07,rfl,rfl,rfl⟩ -;have h:=h.mono le10;have hle:=hle.trans le10;refine yK 4 [] [(72,.bool y7)] ?_;cases hc16:y7 with
     | true =>
      have hM024:=zV hc16 hM
      try rw [hc16]
      refine yK 6 [0] [(74,vA (cAff e0.Index p c))] ?_;obtain ⟨y8,hy8,hM⟩:=zC hM024;refine yQ (nS e0.Index _ hy8 h) ?_;rintro imm012 hs2 v2 k2 le11 - ⟨v08,rfl,rfl,rfl⟩ -;have hle:=hle.trans le11;refine yK 11 [] [(79,.bool (decide (y8 ≤ depth)))] ?_;cases hc17:(decide (y8 ≤ depth)) with
      | true =>
       have hM025:=zV hc17 hM
       try rw [hc17]
       exact yA [0] [(8,.bool ((e0.Kids.length:Int) == 0))]<|wB (zL [1] rfl (by decide))<|yS [(8,.bool ((e0.Kids.length:Int) == 0))]<|yB ⟨_,(zD hM025).symm,hle,rfl,rfl⟩
      | false =>
       have hM026:=zT hc17 hM
       try rw [hc17]
       exact yA [] [(8,.bool false)]<|wB (zL [1] rfl (by decide))<|yS [(8,.bool false)]<|yB ⟨_,(zD hM026).symm,hle,rfl,rfl⟩
     | false =>
      have hM027:=zT hc16 hM
      try rw [hc16]
      exact yA [] [(8,.bool false)]<|wB (zL [1] rfl (by decide))<|yS [(8,.bool false)]<|yB ⟨_,(zD hM027).symm,hle,rfl,rfl⟩
   rintro imm010 hs2 m2 ⟨t81,heq3,le12,rfl,rfl⟩;subst o03;refine zF<|yI<|yF<|zP ?_;obtain rfl:=zD hMc3;exact yP ⟨_,_,(.tmp rfl ResV.nil),(zL [0] rfl (by decide)),⟨_,_,rfl,rfl,rfl,rfl⟩⟩
 intro hc15 hM;refine zG<|zB<|yA [0] [(85,.bool (e0.Kind == 3))]<|zF<|yO hM ?_ ?_
 · intro hc18 hM;refine zG ?_;obtain ⟨o04,ho04,hMc4⟩:=zC hM;refine yT (fun imm' hs' m'=>∃ (t82:Bool),o04=t82∧imm01.le imm'∧hs'=[hB r0 [vI (W (count + 1))]]∧m'=[(8,.bool t82)]) ?_ ?_
   · have hle:=iS imm01;refine zB<|yK 3 [0] [(90,vA (cAccess e0.Read p1 c1)),(91,vI depth)] ?_;obtain ⟨y9,hy9,hM⟩:=zC ho04;refine yQ (fY e0.Read depth _ hy9 h1) ?_;rintro imm014 hs2 v2 k2 le13 - ⟨v09,rfl,rfl,rfl⟩ -;have hle:=hle.trans le13;refine yK 5 [] [(93,.bool y9)] ?_;cases hc19:y9 with
     | true =>
      have hM028:=zV hc19 hM
      try rw [hc19]
      exact yA [0] [(8,.bool ((e0.Kids.length:Int) == 0))]<|wB (zL [1] rfl (by decide))<|yS [(8,.bool ((e0.Kids.length:Int) == 0))]<|yB ⟨_,(zD hM028).symm,hle,rfl,rfl⟩
     | false =>
      have hM029:=zT hc19 hM
      try rw [hc19]
      exact yA [] [(8,.bool false)]<|wB (zL [1] rfl (by decide))<|yS [(8,.bool false)]<|yB ⟨_,(zD hM029).symm,hle,rfl,rfl⟩
   rintro imm013 hs2 m2 ⟨t82,heq4,le14,rfl,rfl⟩;subst o04;refine zF<|yI<|yF<|zP ?_;obtain rfl:=zD hMc4;exact yP ⟨_,_,(.tmp rfl ResV.nil),(zL [0] rfl (by decide)),⟨_,_,rfl,rfl,rfl,rfl⟩⟩
 intro hc18 hM;refine zG ?_;obtain ⟨o05,ho05,hMc5⟩:=zC hM;refine yT (fun imm' hs' m'=>∃ (t99:Bool),o05=t99∧imm01.le imm'∧hs'=[hB b (cExpr e0 p c p1 c1 p2 c2),hB r0 [vI (W (count + 1))]]∧m'=[(1,vI depth),(2,vI deep),(3,vP r0 0),(4,vP b 0),(99,.bool t99)]) ?_ ?_
 · have hle:=iS imm01;refine zB<|yK 2 [0] [(101,vI e0.Kind)] ?_;obtain ⟨y10,hy10,hM⟩:=zC ho05;refine yQ (zFQ e0.Kind _ hy10 ) ?_;rintro imm016 hs2 v2 k2 le15 - ⟨v010,rfl,rfl,rfl⟩ -;have hle:=hle.trans le15;refine yK 5 [] [(104,.bool (!y10))] ?_;cases hc20:(!y10) with
   | true =>
    have hM030:=zV hc20 hM
    try rw [hc20]
    exact yA [] [(99,.bool true)]<|yS [(1,vI depth),(2,vI deep),(3,vP r0 0),(4,vP b 0),(99,.bool true)]<|yB ⟨_,(zD hM030).symm,hle,rfl,rfl⟩
   | false =>
    have hM031:=zT hc20 hM
    try rw [hc20]
    exact yA [0] [(99,.bool ((e0.Kids.length:Int) != 2))]<|yS [(1,vI depth),(2,vI deep),(3,vP r0 0),(4,vP b 0),(99,.bool ((e0.Kids.length:Int) != 2))]<|yB ⟨_,(zD hM031).symm,hle,rfl,rfl⟩
 rintro imm015 hs2 m2 ⟨t99,heq5,le16,rfl,rfl⟩;subst o05;have h2:=h2.mono le16;have hle:=hle.trans le16;refine zF<|yO hMc5 ?_ ?_
 · intro hc21 hM;refine zG<|zB<|yA [] [(8,.bool false)]<|zF<|yI<|yF<|zP ?_;obtain rfl:=zD hM;exact yP ⟨_,_,(.tmp rfl ResV.nil),(zL [1] rfl (by decide)),⟨_,_,rfl,rfl,rfl,rfl⟩⟩
 intro hc21 hM;refine yE<|zY<|zF<|zG ?_;obtain ⟨o06,ho06,hMc6⟩:=zC hM;refine yT (fun imm' hs' m'=>∃ (t83:Bool) (x:Int),o06=(t83,x)∧imm015.le imm'∧hs'=[hB r0 [vI x]]∧m'=[(8,.bool t83)]) ?_ ?_
 · have hle:=iS imm015;refine zB<|yK 2 [0] [(111,vS p2 e0.Kids c2)] ?_;obtain ⟨x1,hy11,hM⟩:=zC ho06;refine wD rfl rfl h2 hy11 ?_;intro ad ccs hat hrep;obtain ⟨v011,v012,v013,rfl,h14,h15,h16⟩:=wM hrep;obtain ⟨p3,c3,rfl⟩:=h14.form;obtain ⟨p4,c4,rfl⟩:=h15.form;obtain ⟨p5,c5,rfl⟩:=h16.form;refine xQ 0 hat (cExpr x1 p3 c3 p4 c4 p5 c5) (vA (cExpr x1 p3 c3 p4 c4 p5 c5)) rfl<|yK 8 [] [(114,vI depth),(116,vI (W (deep + 1))),(117,vP r0 0)]<|rY (zL [1,0] (hs':=[hB r0 [vI (W (count + 1))],hB b (cExpr e0 p c p1 c1 p2 c2)]) rfl (by decide)) ?_;obtain ⟨⟨y12,y13⟩,hy12,hM⟩:=zC hM;refine tV [hB r0 [vI (W (count + 1))]] [hB b (cExpr e0 p c p1 c1 p2 c2)] (ih_impl_exprScan x1 depth (W (deep + 1)) (W (count + 1)) _ hy12 h14 h15 h16) ?_;rintro imm018 hs2 v2 k2 le17 - ⟨v014,kk,rfl,rfl,rfl,h18⟩ -;have h2:=h2.mono le17;have hle:=hle.trans le17;obtain rfl:=h18;refine yK 10 [] [(119,.bool y12)] ?_;cases hc22:y12 with
   | true =>
    have hM032:=zV hc22 hM
    try rw [hc22]
    refine yK 12 [1] [(121,vS p2 e0.Kids c2)] ?_;obtain ⟨x2,hy13,hM⟩:=zC hM032;refine wD rfl rfl h2 hy13 ?_;intro ad1 ccs1 hat1 hrep1;obtain ⟨v015,v016,v017,rfl,h19,h20,h21⟩:=wM hrep1;obtain ⟨p6,c6,rfl⟩:=h19.form;obtain ⟨p7,c7,rfl⟩:=h20.form;obtain ⟨p8,c8,rfl⟩:=h21.form;refine xQ 0 hat1 (cExpr x2 p6 c6 p7 c7 p8 c8) (vA (cExpr x2 p6 c6 p7 c7 p8 c8)) rfl<|yK 18 [] [(124,vI depth),(126,vI (W (deep + 1))),(127,vP r0 0)] ?_;obtain ⟨⟨y15,y16⟩,hy14,hM⟩:=zC hM;refine tV [hB r0 [vI y13]] [hB b (cExpr e0 p c p1 c1 p2 c2)] (ih_impl_exprScan x2 depth (W (deep + 1)) y13 _ hy14 h19 h20 h21) ?_;rintro imm019 hs2 v2 k2 le18 - ⟨v018,kk1,rfl,rfl,rfl,h23⟩ -;have hle:=hle.trans le18;obtain rfl:=h23;exact yA [] [(8,.bool y15)]<|wB (zL [0] rfl (by decide))<|yS [(8,.bool y15)]<|yB ⟨_,_,(zD hM).symm,hle,rfl,rfl⟩
   | false =>
    have hM033:=zT hc22 hM
    try rw [hc22]
    exact yA [] [(8,.bool false)]<|wB (zL [0] rfl (by decide))<|yS [(8,.bool false)]<|yB ⟨_,_,(zD hM033).symm,hle,rfl,rfl⟩
 rintro imm017 hs2 m2 ⟨t83,x,heq6,le19,rfl,rfl⟩;subst o06;refine zF<|yI ?_;obtain rfl:=zD hMc6;exact yP ⟨_,_,(.tmp rfl ResV.nil),(zL [0] rfl (by decide)),⟨_,_,rfl,rfl,rfl,rfl⟩⟩
def zAn (r:Bool):KT:=fun kk imm' hs' v=>
  ∃ v0,hs'=[]∧v=tupV [v0]∧v0=.bool r
def oO (s:zR) (depth:Int):Option (Bool):=do
 let t4←(do
   let y←xP depth 0 4
   if y then
    let y1←pJ s.Write depth
    if y1 then
     let (y3,y4)←vF s.Value depth 1 0
     pure (id y3)
    else
     pure false
   else
    pure false
     : Option Bool)
 pure (id t4)
theorem zCP:∀ (s:zR) (depth:Int) r,oO s depth=some r→∀ {imm:Imm}{p c p1 c1 p2 c2 p3 c3},(S4 imm p s.Write.Subs c)→(S4 imm p1 s.Value.Index.Coefs c1)→(S4 imm p2 s.Value.Read.Subs c2)→(S4 imm p3 s.Value.Kids c3)→Ret Tryz.prog 108 [vA (cStmt s p c p1 c1 p2 c2 p3 c3),vI depth] imm [] (zAn  r):=by
 intro s depth r hM imm p c p1 c1 p2 c2 p3 c3 h h1 h2 h3;unfold oO at hM;refine yH (fn:=Tryz.f108) (c:=(bodyOf Tryz.f108)) Tryz.func108 rfl rfl ?_;rintro B - -;have hle:=iS imm;refine zG<|zB<|tA (cStmt s p c p1 c1 p2 c2 p3 c3) ?_;intro b hb;refine yA [] []<|zF<|zG<|zB<|uB [vI 0] ?_;intro b1 hb1;refine xI 0 [vI 0] [hB b1 [vI 0],hB b (cStmt s p c p1 c1 p2 c2 p3 c3)] rfl rfl rfl rfl<|yN rfl<|zF<|zG ?_;obtain ⟨o0,ho0,hMc⟩:=zC hM;refine yT (fun imm' hs' m'=>∃ (t4:Bool),o0=t4∧imm.le imm'∧hs'=[]∧m'=[(4,.bool t4)]) ?_ ?_
 · have hle:=iS imm;refine zB<|yK 1 [] [(6,vI depth)] ?_;obtain ⟨y,hy,hM⟩:=zC ho0;refine yQ (xM depth 0 4 _ hy ) ?_;rintro imm01 hs2 v2 k2 le - ⟨v0,rfl,rfl,rfl⟩ -;have h:=h.mono le;have h1:=h1.mono le;have h2:=h2.mono le;have h3:=h3.mono le;have hle:=hle.trans le;refine yK 3 [] [(8,.bool y)] ?_;cases hc:y with
   | true =>
    have hM0:=zV hc hM
    try rw [hc]
    refine yK 6 [1] [(10,vA (cAccess s.Write p c)),(11,vI depth)] ?_;obtain ⟨y1,hy1,hM⟩:=zC hM0;refine yQ (fY s.Write depth _ hy1 h) ?_;rintro imm02 hs2 v2 k2 le1 - ⟨v01,rfl,rfl,rfl⟩ -;have h1:=h1.mono le1;have h2:=h2.mono le1;have h3:=h3.mono le1;have hle:=hle.trans le1;refine yK 9 [] [(14,.bool y1)] ?_;cases hc1:y1 with
    | true =>
     have hM01:=zV hc1 hM
     try rw [hc1]
     refine yK 12 [1] [(16,vA (cExpr s.Value p1 c1 p2 c2 p3 c3)),(17,vI depth)] ?_;obtain ⟨⟨y3,y4⟩,hy2,hM⟩:=zC hM01;refine tV [hB b1 [vI 0]] [hB b (cStmt s p c p1 c1 p2 c2 p3 c3)] (zCx s.Value depth 1 0 _ hy2 h1 h2 h3) ?_;rintro imm03 hs2 v2 k2 le2 - ⟨v02,kk,rfl,rfl,rfl,h7⟩ -;have hle:=hle.trans le2;obtain rfl:=h7;exact yA [] [(4,.bool y3)]<|wB (zL [] rfl (by decide))<|yS [(4,.bool y3)]<|yB ⟨_,(zD hM).symm,hle,rfl,rfl⟩
    | false =>
     have hM02:=zT hc1 hM
     try rw [hc1]
     exact yA [] [(4,.bool false)]<|wB (zL [] rfl (by decide))<|yS [(4,.bool false)]<|yB ⟨_,(zD hM02).symm,hle,rfl,rfl⟩
   | false =>
    have hM03:=zT hc hM
    try rw [hc]
    exact yA [] [(4,.bool false)]<|wB (zL [] rfl (by decide))<|yS [(4,.bool false)]<|yB ⟨_,(zD hM03).symm,hle,rfl,rfl⟩
 rintro imm0 hs2 m2 ⟨t4,heq,le3,rfl,rfl⟩;subst o0;refine zF<|yI ?_;obtain rfl:=zD hMc;exact yP ⟨_,_,(.tmp rfl ResV.nil),zX,⟨_,rfl,rfl,rfl⟩⟩
def kS (r:Bool):KT:=fun kk imm' hs' v=>
  ∃ v0,hs'=[]∧v=tupV [v0]∧v0=.bool r
def wP (s:zR) (x:zQ):Option (Bool):=do
 let y←oO s (x.Nest.length:Int)
 pure (!y)
theorem jI:∀ (s:zR) (x:zQ) r,wP s x=some r→∀ {imm:Imm}{p c p1 c1 p2 c2 p3 c3}{ad:Addr}{p4 c4 p5 c5},(S4 imm p s.Write.Subs c)→(S4 imm p1 s.Value.Index.Coefs c1)→(S4 imm p2 s.Value.Read.Subs c2)→(S4 imm p3 s.Value.Kids c3)→(S4 imm p4 x.Nest c4)→(S4 imm p5 x.Body c5)→(At imm ad (cPart x p4 c4 p5 c5))→Ret Tryz.prog 107 [vA (cStmt s p c p1 c1 p2 c2 p3 c3),.pointer (some ad)] imm [] (kS  r):=by
 intro s x r hM imm p c p1 c1 p2 c2 p3 c3 ad p4 c4 p5 c5 h h1 h2 h3 h4 h5 hat;unfold wP at hM;refine yH (fn:=Tryz.f107) (c:=(bodyOf Tryz.f107)) Tryz.func107 rfl rfl ?_;rintro B - -;refine zG<|zB<|tA (cStmt s p c p1 c1 p2 c2 p3 c3) ?_;intro b hb;refine yA [] []<|zF<|zG<|zB<|yK 2 [0] [(4,vA (cStmt s p c p1 c1 p2 c2 p3 c3)),(5,.pointer (some ad))]<|xQ 0 hat [vS p4 x.Nest c4] (vS p4 x.Nest c4) rfl<|yK 4 [] [(7,vI (x.Nest.length:Int))] ?_;obtain ⟨y,hy,hM⟩:=zC hM;refine yQ (zCP s (x.Nest.length:Int) _ hy h h1 h2 h3) ?_;rintro imm0 hs2 v2 k2 le - ⟨v0,rfl,rfl,rfl⟩ -;refine yA [] [(3,.bool (!y))]<|zF<|yI ?_;obtain rfl:=zD hM;exact yP ⟨_,_,(.tmp rfl ResV.nil),zX,⟨_,rfl,rfl,rfl⟩⟩
def zAW (r:Int):KT:=fun kk imm' hs' v=>
  ∃ v0,hs'=[]∧v=tupV [v0]∧v0=.int .i64 r
def uX (a0:zJ) (n0:Int) (t9:Int):Option (Int):=do
 if (decide (t9 < (a0.Dims.length:Int))) then
  let x←idx a0.Dims t9
  uX a0 (W (n0 * x)) (W (t9 + 1))
 else
  pure (id n0)
 partial_fixpoint
theorem dR (a0:zJ):∀ (n0:Int) (t9:Int) (o:Int),uX a0 n0 t9=some o→∀ {B}{imm0 imm:Imm}{Q p c},imm0.le imm→(S4 imm p a0.Dims c)→(∀ gl a w,¬Q (.goto gl) a w)→(∀ a w,¬Q .outgrown a w)→(∀ (imm':Imm) (n01:Int),o=n01→imm0.le imm'→T 18 B Q (.exit 0) imm' [] [(3,vI n01)])→J Tryz.prog 18 B (nav (bodyOf Tryz.f115) [1,1,0,1,0]) Q imm [] [(3,vI n0),(7,vS p a0.Dims c),(8,vI (a0.Dims.length:Int)),(9,vI t9)]:=by
 refine uX.partial_correctness a0 _ ?_;intro self ih n0 t9 o hM B imm0 imm Q p c hle h hg ho hx;refine xA hg ho<|zG<|zB<|yA [] [(10,.bool (decide (t9 < (a0.Dims.length:Int))))]<|zF<|zG<|yO hM ?_ ?_
 · intro hc hM;refine yE<|zF<|zG<|yC<|zG<|zB ?_;obtain ⟨x,hy,hM⟩:=zC hM;refine wD rfl rfl h hy ?_;intro ad ccs hat hrep;obtain rfl:=hrep;exact xQ 0 hat [vI x] (vI x) rfl<|yA [] [(5,vI x)]<|zF<|zB<|yA [] [(3,vI (W (n0 * x)))]<|zY<|zF<|zB<|yA [] [(9,vI (W (t9 + 1)))]<|xB<|vG [(3,vI (W (n0 * x))),(7,vS p a0.Dims c),(8,vI (a0.Dims.length:Int)),(9,vI (W (t9 + 1)))]<|ih (W (n0 * x)) (W (t9 + 1)) _ hM hle h hg ho hx
 intro hc hM;exact yZ<|zS<|zS<|yS [(3,vI n0)]<|hx _ _ (zD hM).symm hle
def pT (a0:zJ):Option (Int):=do
 let n01←uX a0 1 0
 pure (id n01)
theorem zBY:∀ (a0:zJ) r,pT a0=some r→∀ {imm:Imm}{p c},(S4 imm p a0.Dims c)→Ret Tryz.prog 115 [vA (cArr a0 p c)] imm [] (zAW  r):=by
 intro a0 r hM imm p c h;unfold pT at hM;refine yH (fn:=Tryz.f115) (c:=(bodyOf Tryz.f115)) Tryz.func115 rfl rfl ?_;rintro B - -;refine zG<|zB<|tA (cArr a0 p c) ?_;intro b hb;refine yA [] []<|zF<|zG<|zB<|yA [] [(3,vI 1)]<|zF<|zG<|zG<|zB<|yA [0] [(7,vS p a0.Dims c),(8,vI (a0.Dims.length:Int)),(9,vI 0)]<|zF<|yC<|qP (zL [] (hs':=[]) rfl (by decide))<|vG [(3,vI 1),(7,vS p a0.Dims c),(8,vI (a0.Dims.length:Int)),(9,vI 0)] ?_;obtain ⟨o0,ho0,hMl⟩:=zC hM;refine dR a0 1 0 o0 ho0 iR h (fun _ _ _ h=>h) (fun _ _ h=>h) ?_;intro imm0 n01 heq le;subst o0;refine yD<|zF<|zG<|zB<|yA [] [(2,vI n01)]<|zF<|yI ?_;obtain rfl:=zD hMl;exact yP ⟨_,_,(.tmp rfl ResV.nil),zX,⟨_,rfl,rfl,rfl⟩⟩
def oY (r:Int):KT:=fun kk imm' hs' v=>
  ∃ v0,hs'=[]∧v=tupV [v0]∧v0=.int .i64 r
def uG (a0:zN) (point:(List Int)) (x:zJ) (at0:Int) (t40:Int):Option (Out Int (Int)):=do
 if (decide (t40 < (a0.Subs.length:Int))) then
  let x1←idx a0.Subs t40
  let y1←uF x1 point
  let x2←idx x.Dims t40
  let y2←xP y1 0 (W (x2 - 1))
  if (!y2) then
   pure (.ret (-1))
  else
   let x3←idx x.Dims t40
   uG a0 point x (W ((W (at0 * x3)) + y1)) (W (t40 + 1))
 else
  pure (.done at0)
 partial_fixpoint
theorem eA (a0:zN) (point:(List Int)) (x:zJ):∀ (at0:Int) (t40:Int) (o:Out Int (Int)),uG a0 point x at0 t40=some o→∀ {B}{imm0 imm:Imm}{Q}{first:Int}{p3 c2 p4 c3 p5 c4}{b2:Nat},imm0.le imm→(S4 imm p4 point c3)→(S4 imm p3 a0.Subs c2)→(S4 imm p5 x.Dims c4)→(∀ gl a w,¬Q (.goto gl) a w)→(∀ a w,¬Q .outgrown a w)→(∀ (imm':Imm) (at01:Int),o=(.done at01)→imm0.le imm'→T 71 B Q (.exit 2) imm' [] [(7,vI first),(10,vI at01)])→(∀ r imm' hs' m',o=(.ret r)→imm0.le imm'→RS Tryz.prog Tryz.f59 B (oY  r) imm' hs' m'→T 71 B Q .ret imm' hs' m')→J Tryz.prog 71 B (nav (bodyOf Tryz.f59) [1,1,0,1,0,0,1,1,0,0,1,1,1,1,0,1,0]) Q imm [hB b2 (cArr x p5 c4)] [(2,vS p4 point c3),(7,vI first),(9,vP b2 0),(10,vI at0),(38,vS p3 a0.Subs c2),(39,vI (a0.Subs.length:Int)),(40,vI t40)]:=by
 refine uG.partial_correctness a0 point x _ ?_;intro self ih at0 t40 o hM B imm0 imm Q first p3 c2 p4 c3 p5 c4 b2 hle h3 h2 h4 hg ho hx hr;refine xA hg ho<|zG<|zB<|yA [] [(41,.bool (decide (t40 < (a0.Subs.length:Int))))]<|zF<|zG<|yO hM ?_ ?_
 · intro hc3 hM;refine yE<|zF<|zG<|yC<|zG<|zB<|yK 1 [] [(42,vI t40)] ?_;obtain ⟨x1,hy2,hM⟩:=zC hM;refine wD rfl rfl h2 hy2 ?_;intro ad1 ccs1 hat1 hrep1;obtain ⟨v02,rfl,h6⟩:=yM hrep1;obtain ⟨p6,c5,rfl⟩:=h6.form;refine xQ 0 hat1 (cAff x1 p6 c5) (vA (cAff x1 p6 c5)) rfl<|uB [z0,vI 0] ?_;intro b3 hb3;refine yK 5 [] [(11,vI t40)]<|xI 0 (cAff x1 p6 c5) [hB b3 (cAff x1 p6 c5),hB b2 (cArr x p5 c4)] rfl rfl rfl rfl<|yN rfl<|zF<|zG<|zB<|yK 2 [0] [(45,vA (cAff x1 p6 c5)),(46,vS p4 point c3)] ?_;obtain ⟨y1,hy3,hM⟩:=zC hM;refine yQ (qJ x1 point _ hy3 h6 h3) ?_;rintro imm01 hs2 v2 k2 le1 - ⟨v03,rfl,rfl,rfl⟩ -;have h3:=h3.mono le1;have h2:=h2.mono le1;have h4:=h4.mono le1;have hle:=hle.trans le1;refine yA [] [(13,vI y1)]<|zF<|zG<|zG<|zB<|yK 4 [1] [(48,vI y1),(50,vS p5 x.Dims c4),(51,vI t40)] ?_;obtain ⟨x2,hy4,hM⟩:=zC hM;refine wD rfl rfl h4 hy4 ?_;intro ad2 ccs2 hat2 hrep2;obtain rfl:=hrep2;refine xQ 0 hat2 [vI x2] (vI x2) rfl<|yK 7 [] [(54,vI (W (x2 - 1)))] ?_;obtain ⟨y2,hy5,hM⟩:=zC hM;refine yQ (xM y1 0 (W (x2 - 1)) _ hy5 ) ?_;rintro imm02 hs2 v2 k2 le2 - ⟨v04,rfl,rfl,rfl⟩ -;have h3:=h3.mono le2;have h2:=h2.mono le2;have h4:=h4.mono le2;have hle:=hle.trans le2;refine yA [] [(56,.bool (!y2))]<|zF<|yO hM ?_ ?_
   · intro hc4 hM;exact zG<|zB<|yA [] [(6,vI (-1))]<|zF<|yI<|zP<|yF<|zP<|zP<|hr _ _ _ _ (zD hM).symm hle ⟨_,_,(.tmp rfl ResV.nil),zX,⟨_,rfl,rfl,rfl⟩⟩
   intro hc4 hM;refine yE<|zF<|zB<|yK 4 [1] [(57,vI at0),(59,vS p5 x.Dims c4),(60,vI t40)] ?_;obtain ⟨x3,hy6,hM⟩:=zC hM;refine wD rfl rfl h4 hy6 ?_;intro ad3 ccs3 hat3 hrep3;obtain rfl:=hrep3;exact xQ 0 hat3 [vI x3] (vI x3) rfl<|yA [] [(10,vI (W ((W (at0 * x3)) + y1)))]<|zY<|zF<|zB<|yA [] [(40,vI (W (t40 + 1)))]<|xB<|qP (zL [1] rfl (by decide))<|vG [(2,vS p4 point c3),(7,vI first),(9,vP b2 0),(10,vI (W ((W (at0 * x3)) + y1))),(38,vS p3 a0.Subs c2),(39,vI (a0.Subs.length:Int)),(40,vI (W (t40 + 1)))]<|ih (W ((W (at0 * x3)) + y1)) (W (t40 + 1)) _ hM hle h3 h2 h4 hg ho hx hr
 intro hc3 hM;exact yZ<|zS<|zS<|wB (zL [] rfl (by decide))<|yS [(7,vI first),(10,vI at0)]<|hx _ _ (zD hM).symm hle
def wW (p:zW) (a0:zN) (point:(List Int)) (first:Int) (t17:Int):Option (Out Unit (Int)):=do
 if (decide (t17 < (p.Arrays.length:Int))) then
  let x←idx p.Arrays t17
  if (!(x.Name.l == a0.Array.l)) then
   let y←pT x
   wW p a0 point (W (first + y)) (W (t17 + 1))
  else
   if ((a0.Subs.length:Int) != (x.Dims.length:Int)) then
    pure (.ret (-1))
   else
    match←uG a0 point x 0 0 with
    | .ret r0=>pure (.ret r0)
    | .done at01 =>
     pure (.ret (W (first + at01)))
 else
  pure (.done ())
 partial_fixpoint
theorem eC (p:zW) (a0:zN) (point:(List Int)):∀ (first:Int) (t17:Int) (o:Out Unit (Int)),wW p a0 point first t17=some o→∀ {B}{imm0 imm:Imm}{Q p1 c p3 c2 p4 c3}{b1:Nat},imm0.le imm→(S4 imm p4 point c3)→(S4 imm p1 p.Arrays c)→(S4 imm p3 a0.Subs c2)→(∀ gl a w,¬Q (.goto gl) a w)→(∀ a w,¬Q .outgrown a w)→(∀ (imm':Imm) ,o=(.done ())→imm0.le imm'→T 71 B Q (.exit 0) imm' [] [])→(∀ r imm' hs' m',o=(.ret r)→imm0.le imm'→RS Tryz.prog Tryz.f59 B (oY  r) imm' hs' m'→T 71 B Q .ret imm' hs' m')→J Tryz.prog 71 B (nav (bodyOf Tryz.f59) [1,1,0,1,0]) Q imm [hB b1 (cAccess a0 p3 c2)] [(2,vS p4 point c3),(4,vP b1 0),(7,vI first),(15,vS p1 p.Arrays c),(16,vI (p.Arrays.length:Int)),(17,vI t17)]:=by
 refine wW.partial_correctness p a0 point _ ?_;intro self ih first t17 o hM B imm0 imm Q p1 c p3 c2 p4 c3 b1 hle h3 h h2 hg ho hx hr;refine xA hg ho<|zG<|zB<|yA [] [(18,.bool (decide (t17 < (p.Arrays.length:Int))))]<|zF<|zG<|yO hM ?_ ?_
 · intro hc hM;refine yE<|zF<|zG<|yC<|zG<|zB ?_;obtain ⟨x,hy,hM⟩:=zC hM;refine wD rfl rfl h hy ?_;intro ad ccs hat hrep;obtain ⟨v0,rfl,h4⟩:=wC hrep;obtain ⟨p5,c4,rfl⟩:=h4.form;refine xQ 0 hat (cArr x p5 c4) (vA (cArr x p5 c4)) rfl<|uB [vT ([]),z0] ?_;intro b2 hb2;refine xI 0 (cArr x p5 c4) [hB b2 (cArr x p5 c4),hB b1 (cAccess a0 p3 c2)] rfl rfl rfl rfl<|yN rfl<|zF<|zG<|zG<|zB<|yA [0,1] [(25,.bool (!(x.Name.l == a0.Array.l)))]<|zF<|yO hM ?_ ?_
   · intro hc1 hM;refine zG<|zB<|yK 2 [0] [(26,vI first),(27,vA (cArr x p5 c4))] ?_;obtain ⟨y,hy1,hM⟩:=zC hM;refine yQ (zBY x _ hy1 h4) ?_;rintro imm0 hs2 v2 k2 le - ⟨v01,rfl,rfl,rfl⟩ -;have h3:=h3.mono le;have h:=h.mono le;have h2:=h2.mono le;have hle:=hle.trans le;exact yA [] [(7,vI (W (first + y)))]<|zF<|yZ<|zS<|yD<|zF<|zB<|yA [] [(17,vI (W (t17 + 1)))]<|xB<|qP (zL [1] rfl (by decide))<|vG [(2,vS p4 point c3),(4,vP b1 0),(7,vI (W (first + y))),(15,vS p1 p.Arrays c),(16,vI (p.Arrays.length:Int)),(17,vI (W (t17 + 1)))]<|ih (W (first + y)) (W (t17 + 1)) _ hM hle h3 h h2 hg ho hx hr
   intro hc1 hM;refine yE<|zF<|zG<|zG<|zB<|yA [1,0] [(36,.bool ((a0.Subs.length:Int) != (x.Dims.length:Int)))]<|zF<|yO hM ?_ ?_
   · intro hc2 hM;exact zG<|zB<|yA [] [(6,vI (-1))]<|zF<|yI<|zP<|yF<|zP<|zP<|hr _ _ _ _ (zD hM).symm hle ⟨_,_,(.tmp rfl ResV.nil),zX,⟨_,rfl,rfl,rfl⟩⟩
   intro hc2 hM;refine yE<|zF<|zG<|zB<|yA [] [(10,vI 0)]<|zF<|zG<|zG<|zB<|yA [1] [(38,vS p3 a0.Subs c2),(39,vI (a0.Subs.length:Int)),(40,vI 0)]<|zF<|yC<|qP (zL [0] (hs':=[hB b2 (cArr x p5 c4)]) rfl (by decide))<|vG [(2,vS p4 point c3),(7,vI first),(9,vP b2 0),(10,vI 0),(38,vS p3 a0.Subs c2),(39,vI (a0.Subs.length:Int)),(40,vI 0)] ?_;obtain ⟨o0,ho0,hMl⟩:=zC hM;refine eA a0 point x 0 0 o0 ho0 iR h3 h2 h4 (fun _ _ _ h=>hg _ _ _ h) (fun _ _ h=>ho _ _ h) ?_ ?_
   · intro imm03 at01 heq le3;subst o0;have hle:=hle.trans le3;exact yD<|zF<|zG<|zB<|yA [] [(6,vI (W (first + at01)))]<|zF<|yI<|yF<|zP<|zP<|hr _ _ _ _ (zD hMl).symm hle ⟨_,_,(.tmp rfl ResV.nil),zX,⟨_,rfl,rfl,rfl⟩⟩
   intro r0 imm9 hs9 m9 heq9 le9 hrs9;subst heq9;exact yF<|zP<|yF<|zP<|zP<|hr _ _ _ _ (zD hMl).symm (hle.trans le9) hrs9
 intro hc hM;exact yZ<|zS<|zS<|wB (zL [] rfl (by decide))<|yS []<|hx _  (zD hM).symm hle
def uO (p:zW) (a0:zN) (point:(List Int)):Option (Int):=do
 match←wW p a0 point 0 0 with
 | .ret r0=>pure r0
 | .done _ =>
  pure (-1)
theorem pU:∀ (p:zW) (a0:zN) (point:(List Int)) r,uO p a0 point=some r→∀ {imm:Imm}{p1 c p2 c1 p3 c2 p4 c3},(S4 imm p1 p.Arrays c)→(S4 imm p2 p.Parts c1)→(S4 imm p3 a0.Subs c2)→(S4 imm p4 point c3)→Ret Tryz.prog 59 [vA (cProg p p1 c p2 c1),vA (cAccess a0 p3 c2),vS p4 point c3] imm [] (oY  r):=by
 intro p a0 point r hM imm p1 c p2 c1 p3 c2 p4 c3 h h1 h2 h3;unfold uO at hM;refine yH (fn:=Tryz.f59) (c:=(bodyOf Tryz.f59)) Tryz.func59 rfl rfl ?_;rintro B - -;refine zG<|zB<|tA (cProg p p1 c p2 c1) ?_;intro b hb;refine tA (cAccess a0 p3 c2) ?_;intro b1 hb1;refine yA [] []<|zF<|zG<|zB<|yA [] [(7,vI 0)]<|zF<|zG<|zG<|zB<|yA [1] [(15,vS p1 p.Arrays c),(16,vI (p.Arrays.length:Int)),(17,vI 0)]<|zF<|yC<|qP (zL [0] (hs':=[hB b1 (cAccess a0 p3 c2)]) rfl (by decide))<|vG [(2,vS p4 point c3),(4,vP b1 0),(7,vI 0),(15,vS p1 p.Arrays c),(16,vI (p.Arrays.length:Int)),(17,vI 0)] ?_;obtain ⟨o01,ho01,hMl1⟩:=zC hM;refine eC p a0 point 0 0 o01 ho01 iR h3 h h2 (fun _ _ _ h=>h) (fun _ _ h=>h) ?_ ?_
 · intro imm04  heq1 le4;subst o01;refine yD<|zF<|zG<|zB<|yA [] [(6,vI (-1))]<|zF<|yI ?_;obtain rfl:=zD hMl1;exact yP ⟨_,_,(.tmp rfl ResV.nil),zX,⟨_,rfl,rfl,rfl⟩⟩
 intro r0 imm9 hs9 m9 heq9 le9 hrs9;subst heq9;refine yF<|zP ?_;obtain rfl:=zD hMl1;exact yP hrs9
def kW (r:(List zN)):KT:=fun kk imm' hs' v=>
  ∃ v0,hs'=[]∧v=tupV [v0]∧SL imm' v0 r
mutual
def pV (e0:zH):Option ((List zN)):=do
 if (e0.Kind == 3) then
  pure ([e0.Read]:List zN)
 else
  let out1←qG (same e0) ([]:List zN) (same 0)
  pure (id out1)
 partial_fixpoint
def qG (e0:zH) (out:List zN) (t15:Int):Option (List zN):=do
 if (decide (t15 < (e0.Kids.length:Int))) then
  let x←idx e0.Kids t15
  let y←pV (same x)
  let out2←app 40 out y
  qG (same e0) (same out2) (W (t15 + 1))
 else
  pure (id out)
 partial_fixpoint
end
theorem zEE:(∀ (e0:zH) r,pV e0=some r→∀ {imm:Imm}{p c p1 c1 p2 c2},(S4 imm p e0.Index.Coefs c)→(S4 imm p1 e0.Read.Subs c1)→(S4 imm p2 e0.Kids c2)→Ret Tryz.prog 92 [vA (cExpr e0 p c p1 c1 p2 c2)] imm [] (kW  r))∧(∀ (e0:zH) (out:List zN) (t15:Int) o,qG e0 out t15=some o→∀ {B}{imm0 imm:Imm}{Q p2 c2 p3 c3 cs},imm0.le imm→(S4 imm p2 e0.Kids c2)→(RL imm cs out)→(∀ gl a w,¬Q (.goto gl) a w)→(∀ a w,¬Q .outgrown a w)→(∀ (imm':Imm) (out1:List zN) (p4:Option Addr) (c4:Nat) (cs1:List Value),o=out1→imm0.le imm'→(RL imm' cs1 out1)→T 25 B Q (.exit 0) imm' [hO zN (vS p4 out1 c4) cs1] [(3,vS p4 out1 c4)])→J Tryz.prog 25 B (nav (bodyOf Tryz.f92) [1,1,1,0,1,0]) Q imm [hO zN (vS p3 out c3) cs] [(3,vS p3 out c3),(13,vS p2 e0.Kids c2),(14,vI (e0.Kids.length:Int)),(15,vI t15)]):=by
  refine pV.mutual_partial_correctness (fun e0 r=>∀ {imm:Imm}{p c p1 c1 p2 c2},(S4 imm p e0.Index.Coefs c)→(S4 imm p1 e0.Read.Subs c1)→(S4 imm p2 e0.Kids c2)→Ret Tryz.prog 92 [vA (cExpr e0 p c p1 c1 p2 c2)] imm [] (kW  r)) (fun e0 out t15 o=>∀ {B}{imm0 imm:Imm}{Q p2 c2 p3 c3 cs},imm0.le imm→(S4 imm p2 e0.Kids c2)→(RL imm cs out)→(∀ gl a w,¬Q (.goto gl) a w)→(∀ a w,¬Q .outgrown a w)→(∀ (imm':Imm) (out1:List zN) (p4:Option Addr) (c4:Nat) (cs1:List Value),o=out1→imm0.le imm'→(RL imm' cs1 out1)→T 25 B Q (.exit 0) imm' [hO zN (vS p4 out1 c4) cs1] [(3,vS p4 out1 c4)])→J Tryz.prog 25 B (nav (bodyOf Tryz.f92) [1,1,1,0,1,0]) Q imm [hO zN (vS p3 out c3) cs] [(3,vS p3 out c3),(13,vS p2 e0.Kids c2),(14,vI (e0.Kids.length:Int)),(15,vI t15)]) ?_ ?_
  · intro F_impl_reads_l1 ih_impl_reads_l1 e0 r hM imm p c p1 c1 p2 c2 h h1 h2;refine yH (fn:=Tryz.f92) (c:=(bodyOf Tryz.f92)) Tryz.func92 rfl rfl ?_;rintro B - -;refine zG<|zB<|tA (cExpr e0 p c p1 c1 p2 c2) ?_;intro b hb;refine yA [] []<|zF<|zG<|zG<|zB<|yA [0] [(8,.bool (e0.Kind == 3))]<|zF<|yO hM ?_ ?_
    · intro hc hM;refine zG<|zB<|yK 2 [0] [(10,vA (cAccess e0.Read p1 c1))]<|xV (cAccess e0.Read p1 c1) zN ?_;intro b1 hb1;have h3:RL imm (cAccess e0.Read p1 c1) ([e0.Read]:List zN):=⟨(cAccess e0.Read p1 c1),_,rfl,rfl,(qR ⟨_,rfl,h1⟩),rfl⟩;refine yA [] [(2,vS (some ⟨b1,0,none⟩) ([e0.Read]:List zN) 1)]<|zF<|yI<|zP<|xJ 0 rfl ?_;intro imm0 le hl0;have h4:=SL.of_frozen hl0 le h3;obtain rfl:=zD hM;exact yP ⟨_,_,(.tmp rfl ResV.nil),zX,⟨_,rfl,rfl,h4⟩⟩
    intro hc hM;refine yE<|zF<|zG<|zB<|yA [] [(3,z0)]<|zF<|zG<|zG<|zB<|yA [0] [(13,vS p2 e0.Kids c2),(14,vI (e0.Kids.length:Int)),(15,vI 0)]<|zF<|yC<|qP (zL [] (hs':=[]) rfl (by decide))<|vG [(3,z0),(13,vS p2 e0.Kids c2),(14,vI (e0.Kids.length:Int)),(15,vI 0)]<|qP (uS (Rp.sz zN)) ?_;have h5:RL imm [] ([]:List zN):=RepL.nil;obtain ⟨o0,ho0,hMl⟩:=zC hM;refine ih_impl_reads_l1 e0 ([]:List zN) 0 o0 ho0 iR h2 h5 (fun _ _ _ h=>h) (fun _ _ h=>h) ?_;intro imm02 out1 p4 c4 cs1 heq le2 h7;subst o0;refine yD<|zF<|zG<|zB<|yA [] [(2,vS p4 out1 c4)]<|zF<|yI<|xJ 0 rfl ?_;intro imm03 le3 hl01;have h13:=SL.of_frozen hl01 le3 h7;obtain rfl:=zD hMl;exact yP ⟨_,_,(.tmp rfl ResV.nil),zX,⟨_,rfl,rfl,h13⟩⟩
  intro F_impl_reads F_impl_reads_l1 ih_impl_reads ih_impl_reads_l1 e0 out t15 o hM B imm0 imm Q p2 c2 p3 c3 cs hle h2 h6 hg ho hx;refine xA hg ho<|zG<|zB<|yA [] [(16,.bool (decide (t15 < (e0.Kids.length:Int))))]<|zF<|zG<|yO hM ?_ ?_
  · intro hc1 hM;refine yE<|zF<|zG<|yC<|zG<|zB ?_;obtain ⟨x,hy,hM⟩:=zC hM;refine wD rfl rfl h2 hy ?_;intro ad ccs hat hrep;obtain ⟨v0,v01,v02,rfl,h8,h9,h10⟩:=wM hrep;obtain ⟨p5,c5,rfl⟩:=h8.form;obtain ⟨p6,c6,rfl⟩:=h9.form;obtain ⟨p7,c7,rfl⟩:=h10.form;refine xQ 0 hat (cExpr x p5 c5 p6 c6 p7 c7) (vA (cExpr x p5 c5 p6 c6 p7 c7)) rfl<|uB zExpr ?_;intro b2 hb2;refine xI 0 (cExpr x p5 c5 p6 c6 p7 c7) [hB b2 (cExpr x p5 c5 p6 c6 p7 c7),hO zN (vS p3 out c3) cs] rfl rfl rfl rfl<|yN rfl<|zF<|zB<|yK 2 [0] [(19,vS p3 out c3),(20,vA (cExpr x p5 c5 p6 c6 p7 c7))] ?_;obtain ⟨y,hy1,hM⟩:=zC hM;refine yQ (ih_impl_reads x _ hy1 h8 h9 h10) ?_;rintro imm01 hs2 v2 k2 le1 - ⟨v03,rfl,rfl,h11⟩ -;have h2:=h2.mono le1;have h6:=iM le1 h6;have hle:=hle.trans le1;obtain ⟨p8,c8,rfl⟩:=h11.form;obtain ⟨ccs1,k0,k01⟩:=h11;have h11:SL imm01 (vS p8 y c8) y:=⟨_,k0,k01⟩;obtain ⟨out2,hy2,hM⟩:=zC hM;refine qQ 49 2 1 rfl rfl rfl h6 (.inl k0) k01 hy2 ?_;intro p9 c9 cs2 h12;exact rY (zL [0,1] (hs':=[hB b2 (cExpr x p5 c5 p6 c6 p7 c7),hO zN (vS p9 out2 c9) cs2]) rfl (by decide))<|yA [] [(3,vS p9 out2 c9)]<|zY<|zF<|zB<|yA [] [(15,vI (W (t15 + 1)))]<|xB<|qP (zL [1] rfl (by decide))<|vG [(3,vS p9 out2 c9),(13,vS p2 e0.Kids c2),(14,vI (e0.Kids.length:Int)),(15,vI (W (t15 + 1)))]<|ih_impl_reads_l1 e0 out2 (W (t15 + 1)) _ hM hle h2 h12 hg ho hx
  intro hc1 hM;exact yZ<|zS<|zS<|yS [(3,vS p3 out c3)]<|hx _ _ _ _ _ (zD hM).symm hle h6
theorem zAu:∀ (e0:zH) r,pV e0=some r→∀ {imm:Imm}{p c p1 c1 p2 c2},(S4 imm p e0.Index.Coefs c)→(S4 imm p1 e0.Read.Subs c1)→(S4 imm p2 e0.Kids c2)→Ret Tryz.prog 92 [vA (cExpr e0 p c p1 c1 p2 c2)] imm [] (kW  r):=zEE.1
def tX (hsF:List HA) (r:Int):KT:=fun kk imm' hs' v=>
  ∃ v0,hsF=hs'∧v=tupV [v0]∧v0=.int .i64 r
def yY (s:(List zN)) (f0:(zN→Option Bool)) (t8:Int):Option (Out Unit (Int)):=do
 if (decide (t8 < (s.length:Int))) then
  let x←idx s t8
  let y←f0 x
  if y then
   pure (.ret t8)
  else
   yY s f0 (W (t8 + 1))
 else
  pure (.done ())
 partial_fixpoint
theorem oE (s:(List zN)) (f0:(zN→Option Bool)):∀ (t8:Int) (o:Out Unit (Int)),yY s f0 t8=some o→∀ {B}{imm0 imm:Imm}{Q p c}{fv:Value}{hsF:List HA},imm0.le imm→(S4 imm p s c)→(FV1 Tryz.prog imm hsF fv f0)→(∀ gl a w,¬Q (.goto gl) a w)→(∀ a w,¬Q .outgrown a w)→(∀ (imm':Imm) ,o=(.done ())→imm0.le imm'→T 19 B Q (.exit 0) imm' hsF [])→(∀ r imm' hs' m',o=(.ret r)→imm0.le imm'→RS Tryz.prog Tryz.f179 B (tX hsF r) imm' hs' m'→T 19 B Q .ret imm' hs' m')→J Tryz.prog 19 B (nav (bodyOf Tryz.f179) [1,0,1,0]) Q imm hsF [(0,vS p s c),(1,fv),(7,vI (s.length:Int)),(8,vI t8)]:=by
 refine yY.partial_correctness s f0 _ ?_;intro self ih t8 o hM B imm0 imm Q p c fv hsF hle h h1 hg ho hx hr;refine xA hg ho<|zG<|zB<|yA [] [(9,.bool (decide (t8 < (s.length:Int))))]<|zF<|zG<|yO hM ?_ ?_
 · intro hc hM;refine yE<|zF<|zG<|yC<|zG<|zB<|yA [] [(5,vI t8)]<|zF<|zG<|zB<|yK 3 [] [(11,fv),(12,vS p s c),(13,vI t8)] ?_;obtain ⟨x,hy,hM⟩:=zC hM;refine wD rfl rfl h hy ?_;intro ad ccs hat hrep;obtain ⟨v0,rfl,h2⟩:=sC hrep;obtain ⟨p1,c1,rfl⟩:=h2.form;refine xQ 0 hat (cAccess x p1 c1) (vA (cAccess x p1 c1)) rfl ?_;obtain ⟨y,hy1,hM⟩:=zC hM;refine zGl rfl rfl h1 hy1 ⟨_,rfl,(qR ⟨_,rfl,h2⟩)⟩ (List.append_nil _).symm ?_;rintro imm0 v01 le rfl;refine uP (hs':=hsF) (List.append_nil _) ?_;have h:=h.mono le;have h1:=h1.mono le;have hle:=hle.trans le;refine yN rfl<|zF<|yO hM ?_ ?_
   · intro hc1 hM;exact zG<|zB<|yA [] [(4,vI t8)]<|zF<|yI<|yF<|zP<|zP<|hr _ _ _ _ (zD hM).symm hle ⟨_,_,(.tmp rfl ResV.nil),(fun _ h=>h),⟨_,rfl,rfl,rfl⟩⟩
   intro hc1 hM;exact yE<|zY<|zF<|zB<|yA [] [(8,vI (W (t8 + 1)))]<|xB<|vG [(0,vS p s c),(1,fv),(7,vI (s.length:Int)),(8,vI (W (t8 + 1)))]<|ih (W (t8 + 1)) _ hM hle h h1 hg ho hx hr
 intro hc hM;exact yZ<|zS<|zS<|yS []<|hx _  (zD hM).symm hle
def wI (s:(List zN)) (f0:(zN→Option Bool)):Option (Int):=do
 match←yY s f0 0 with
 | .ret r0=>pure r0
 | .done _ =>
  pure (-1)
theorem oR:∀ (s:(List zN)) (f0:(zN→Option Bool)) r,wI s f0=some r→∀ {imm:Imm}{p c}{fv:Value}{hsF:List HA},(S4 imm p s c)→(FV1 Tryz.prog imm hsF fv f0)→Ret Tryz.prog 179 [vS p s c,fv] imm hsF (tX hsF r):=by
 intro s f0 r hM imm p c fv hsF h h1;unfold wI at hM;refine yH (fn:=Tryz.f179) (c:=(bodyOf Tryz.f179)) Tryz.func179 rfl rfl ?_;rintro B - -;refine zG<|zB<|yA [] []<|zF<|zG<|zG<|zB<|yA [] [(7,vI (s.length:Int)),(8,vI 0)]<|zF<|yC<|vG [(0,vS p s c),(1,fv),(7,vI (s.length:Int)),(8,vI 0)] ?_;obtain ⟨o0,ho0,hMl⟩:=zC hM;refine oE s f0 0 o0 ho0 iR h h1 (fun _ _ _ h=>h) (fun _ _ h=>h) ?_ ?_
 · intro imm01  heq le1;subst o0;refine yD<|zF<|zG<|zB<|yA [] [(4,vI (-1))]<|zF<|yI ?_;obtain rfl:=zD hMl;exact yP ⟨_,_,(.tmp rfl ResV.nil),(fun _ h=>h),⟨_,rfl,rfl,rfl⟩⟩
 intro r0 imm9 hs9 m9 heq9 le9 hrs9;subst heq9;refine yF<|zP ?_;obtain rfl:=zD hMl;exact yP hrs9
def pE (hsF:List HA) (r:Bool):KT:=fun kk imm' hs' v=>
  ∃ v0,hsF=hs'∧v=tupV [v0]∧v0=.bool r
def xK (s:(List zN)) (f0:(zN→Option Bool)):Option (Bool):=do
 let y←wI s f0
 pure (decide (y ≥ 0))
theorem oF:∀ (s:(List zN)) (f0:(zN→Option Bool)) r,xK s f0=some r→∀ {imm:Imm}{p c}{fv:Value}{hsF:List HA},(S4 imm p s c)→(FV1 Tryz.prog imm hsF fv f0)→Ret Tryz.prog 147 [vS p s c,fv] imm hsF (pE hsF r):=by
 intro s f0 r hM imm p c fv hsF h h1;unfold xK at hM;refine yH (fn:=Tryz.f147) (c:=(bodyOf Tryz.f147)) Tryz.func147 rfl rfl ?_;rintro B - -;refine zG<|zB<|yA [] []<|zF<|zG<|zB<|yK 2 [] [(5,vS p s c),(6,fv)] ?_;obtain ⟨y,hy,hM⟩:=zC hM;refine zCY (hs1:=hsF) (rest:=[]) rfl rfl rfl rfl (by kernel_rfl) rfl (List.append_nil _).symm (oR s f0 _ hy h h1) ?_;rintro imm0 hs2 v2 k2 le - ⟨v0,rfl,rfl,rfl⟩ -;refine uP (hs':=hsF) (List.append_nil _) ?_;refine yA [] [(4,.bool (decide (y ≥ 0)))]<|zF<|yI ?_;obtain rfl:=zD hM;exact yP ⟨_,_,(.tmp rfl ResV.nil),(fun _ h=>h),⟨_,rfl,rfl,rfl⟩⟩
def jY (r:Bool):KT:=fun kk imm' hs' v=>
  ∃ v0,hs'=[]∧v=tupV [v0]∧v0=.bool r
def vR (a0:zN) (x:zW) (x1:(List Int)):Option (Bool):=do
 let y←uO x a0 x1
 pure (decide (y < 0))
theorem fD:∀ (a0:zN) (x:zW) (x1:(List Int)) r,vR a0 x x1=some r→∀ {imm:Imm}{p c}{ad:Addr}{p1 c1 p2 c2}{ad1:Addr}{p3 c3},(S4 imm p a0.Subs c)→(S4 imm p1 x.Arrays c1)→(S4 imm p2 x.Parts c2)→(At imm ad (cProg x p1 c1 p2 c2))→(S4 imm p3 x1 c3)→(At imm ad1 [vS p3 x1 c3])→Ret Tryz.prog 161 [vA (cAccess a0 p c),.pointer (some ad),.pointer (some ad1)] imm [] (jY  r):=by
 intro a0 x x1 r hM imm p c ad p1 c1 p2 c2 ad1 p3 c3 h h1 h2 hat h3 hat1;unfold vR at hM;refine yH (fn:=Tryz.f161) (c:=(bodyOf Tryz.f161)) Tryz.func161 rfl rfl ?_;rintro B - -;refine zG<|zB<|tA (cAccess a0 p c) ?_;intro b hb;refine yA [] []<|zF<|zG<|zB<|xQ 0 hat (cProg x p1 c1 p2 c2) (vA (cProg x p1 c1 p2 c2)) rfl<|yK 2 [0] [(6,vA (cAccess a0 p c))]<|xQ 0 hat1 [vS p3 x1 c3] (vS p3 x1 c3) rfl ?_;obtain ⟨y,hy,hM⟩:=zC hM;refine yQ (pU x a0 x1 _ hy h1 h2 h h3) ?_;rintro imm0 hs2 v2 k2 le - ⟨v0,rfl,rfl,rfl⟩ -;refine yA [] [(4,.bool (decide (y < 0)))]<|zF<|yI ?_;obtain rfl:=zD hM;exact yP ⟨_,_,(.tmp rfl ResV.nil),zX,⟨_,rfl,rfl,rfl⟩⟩
def fE (r:Bool):KT:=fun kk imm' hs' v=>
  ∃ v0,hs'=[]∧v=tupV [v0]∧v0=.bool r
def rC (p:zW) (s:zR) (point:(List Int)):Option (Bool):=do
 let t6←(do
   let y←uO p s.Write point
   if (decide (y ≥ 0)) then
    let y1←pV s.Value
    let y2←xK y1 (fun x0=>vR x0 p point)
    pure (!y2)
   else
    pure false
     : Option Bool)
 pure (id t6)
theorem eW:∀ (p:zW) (s:zR) (point:(List Int)) r,rC p s point=some r→∀ {imm:Imm}{p1 c p2 c1 p3 c2 p4 c3 p5 c4 p6 c5 p7 c6},(S4 imm p1 p.Arrays c)→(S4 imm p2 p.Parts c1)→(S4 imm p3 s.Write.Subs c2)→(S4 imm p4 s.Value.Index.Coefs c3)→(S4 imm p5 s.Value.Read.Subs c4)→(S4 imm p6 s.Value.Kids c5)→(S4 imm p7 point c6)→Ret Tryz.prog 109 [vA (cProg p p1 c p2 c1),vA (cStmt s p3 c2 p4 c3 p5 c4 p6 c5),vS p7 point c6] imm [] (fE  r):=by
 intro p s point r hM imm p1 c p2 c1 p3 c2 p4 c3 p5 c4 p6 c5 p7 c6 h h1 h2 h3 h4 h5 h6;unfold rC at hM;refine yH (fn:=Tryz.f109) (c:=(bodyOf Tryz.f109)) Tryz.func109 rfl rfl ?_;rintro B - -;have hle:=iS imm;refine zG<|zB<|tA (cProg p p1 c p2 c1) ?_;intro b hb;refine yL 0 rfl ?_;intro imm0 le hl0;have hat:At imm0 ⟨b,0,none⟩ (cProg p p1 c p2 c1):=At.of_blk hl0;have h:=h.mono le;have h1:=h1.mono le;have h2:=h2.mono le;have h3:=h3.mono le;have h4:=h4.mono le;have h5:=h5.mono le;have h6:=h6.mono le;have hle:=hle.trans le;refine tA (cStmt s p3 c2 p4 c3 p5 c4 p6 c5) ?_;intro b1 hb1;refine tA [vS p7 point c6] ?_;intro b2 hb2;refine yL 0 rfl ?_;intro imm01 le1 hl01;have hat1:At imm01 ⟨b2,0,none⟩ [vS p7 point c6]:=At.of_blk hl01;have h:=h.mono le1;have h1:=h1.mono le1;have h2:=h2.mono le1;have h3:=h3.mono le1;have h4:=h4.mono le1;have h5:=h5.mono le1;have h6:=h6.mono le1;have hat:=hat.mono le1;have hle:=hle.trans le1;refine yA [] []<|zF<|zG ?_;obtain ⟨o0,ho0,hMc⟩:=zC hM;refine yT (fun imm' hs' m'=>∃ (t6:Bool),o0=t6∧imm01.le imm'∧hs'=[]∧m'=[(6,.bool t6)]) ?_ ?_
 · have hle:=iS imm01;refine zB<|xQ 0 hat (cProg p p1 c p2 c1) (vA (cProg p p1 c p2 c1)) rfl<|yK 3 [0] [(9,vA (cAccess s.Write p3 c2))]<|xQ 0 hat1 [vS p7 point c6] (vS p7 point c6) rfl ?_;obtain ⟨y,hy,hM⟩:=zC ho0;refine yQ (pU p s.Write point _ hy h h1 h2 h6) ?_;rintro imm03 hs2 v2 k2 le2 - ⟨v0,rfl,rfl,rfl⟩ -;have h:=h.mono le2;have h1:=h1.mono le2;have hat:=hat.mono le2;have h6:=h6.mono le2;have hat1:=hat1.mono le2;have h3:=h3.mono le2;have h4:=h4.mono le2;have h5:=h5.mono le2;have hle:=hle.trans le2;refine yK 7 [] [(13,.bool (decide (y ≥ 0)))] ?_;cases hc:(decide (y ≥ 0)) with
   | true =>
    have hM0:=zV hc hM
    try rw [hc]
    refine yK 9 [0] [(15,vA (cExpr s.Value p4 c3 p5 c4 p6 c5))] ?_;obtain ⟨y1,hy1,hM⟩:=zC hM0;refine yQ (zAu s.Value _ hy1 h3 h4 h5) ?_;rintro imm04 hs2 v2 k2 le3 - ⟨v01,rfl,rfl,h8⟩ -;have h:=h.mono le3;have h1:=h1.mono le3;have hat:=hat.mono le3;have h6:=h6.mono le3;have hat1:=hat1.mono le3;have hle:=hle.trans le3;obtain ⟨p8,c7,rfl⟩:=h8.form;refine yK 11 [] [(17,.func (.func 161) ⟨[]⟩ ⟨[vP b 0,vP b2 0]⟩)] ?_;have hf0:FV1 Tryz.prog imm04 [] (.func (.func 161) ⟨[]⟩ ⟨[vP b 0,vP b2 0]⟩) (fun x0=>vR x0 p point):=by
      refine FV1.intro ?_;intro imm1 le1 x0 r u0 hF k0;obtain ⟨_,rfl,k0⟩:=k0;obtain ⟨v02,rfl,h9⟩:=sC k0;obtain ⟨p9,c8,rfl⟩:=h9.form;exact (fD x0 p point r hF h9 (h.mono le1) (h1.mono le1) (hat.mono le1) (h6.mono le1) (hat1.mono le1)).mono (by rintro k i hs u ⟨v0,rfl,rfl,h⟩; exact ⟨rfl,h⟩)
    obtain ⟨y2,hy2,hM⟩:=zC hM;refine yQ (oF y1 (fun x0=>vR x0 p point) _ hy2 h8 hf0) ?_;rintro imm05 hs2 v2 k2 le4 - ⟨v03,rfl,rfl,rfl⟩ -;have hle:=hle.trans le4;exact yA [] [(6,.bool (!y2))]<|wB (zL [] rfl (by decide))<|yS [(6,.bool (!y2))]<|yB ⟨_,(zD hM).symm,hle,rfl,rfl⟩
   | false =>
    have hM01:=zT hc hM
    try rw [hc]
    exact yA [] [(6,.bool false)]<|wB (zL [] rfl (by decide))<|yS [(6,.bool false)]<|yB ⟨_,(zD hM01).symm,hle,rfl,rfl⟩
 rintro imm02 hs2 m2 ⟨t6,heq,le5,rfl,rfl⟩;subst o0;refine zF<|yI ?_;obtain rfl:=zD hMc;exact yP ⟨_,_,(.tmp rfl ResV.nil),zX,⟨_,rfl,rfl,rfl⟩⟩
def sF (r:(List zU)×Bool):KT:=fun kk imm' hs' v=>
  ∃ v0 v1,hs'=[]∧v=tupV [v0,v1]∧SL imm' v0 r.1∧v1=.bool r.2
def wJ (p:zW) (t26:Int) (x:zQ) (x1:(List Int)) (out4:List zU) (t64:Int):Option (Out (List zU) ((List zU)×Bool)):=do
 if (decide (t64 < (x.Body.length:Int))) then
  let x2←idx x.Body t64
  let y7←rC p x2 x1
  if (!y7) then
   pure (.ret (([]:List zU),false))
  else
   let y8←tI x1
   let out6←app 40 out4 ([(zU.mk t26 t64 y8)]:List zU)
   wJ p t26 x x1 out6 (W (t64 + 1))
 else
  pure (.done out4)
 partial_fixpoint
theorem kX (p:zW) (t26:Int) (x:zQ) (x1:(List Int)):∀ (out4:List zU) (t64:Int) (o:Out (List zU) ((List zU)×Bool)),wJ p t26 x x1 out4 t64=some o→∀ {B}{imm0 imm:Imm}{Q}{y2:(List (List Int))}{t54:Int}{p1 c p2 c1}{b:Nat}{p5 c4 p6 c5}{b1:Nat}{p7 c6 p14 c13 p15 c14 cs4},imm0.le imm→(S4 imm p5 x.Nest c4)→(S4 imm p6 x.Body c5)→(At imm ⟨b1,0,none⟩ (cPart x p5 c4 p6 c5))→(S4 imm p14 x1 c13)→(S4 imm p2 p.Parts c1)→(S4 imm p7 y2 c6)→(S4 imm p1 p.Arrays c)→(RL imm cs4 out4)→(∀ gl a w,¬Q (.goto gl) a w)→(∀ a w,¬Q .outgrown a w)→(∀ (imm':Imm) (out5:List zU) (p16:Option Addr) (c15:Nat) (cs5:List Value),o=(.done out5)→imm0.le imm'→(RL imm' cs5 out5)→T 89 B Q (.exit 4) imm' [hO zU (vS p16 out5 c15) cs5,hB b (cProg p p1 c p2 c1)] [(1,vP b 0),(4,vS p16 out5 c15),(5,vI t26),(6,vP b1 0),(24,vS p2 p.Parts c1),(25,vI (p.Parts.length:Int)),(26,vI t26),(52,vS p7 y2 c6),(53,vI (y2.length:Int)),(54,vI t54)])→(∀ r imm' hs' m',o=(.ret r)→imm0.le imm'→RS Tryz.prog Tryz.f50 B (sF  r) imm' hs' m'→T 89 B Q .ret imm' hs' m')→J Tryz.prog 89 B (nav (bodyOf Tryz.f50) [1,1,1,0,1,0,0,1,1,0,0,1,1,1,1,0,0,1,1,0,0,1,1,1,0]) Q imm [hO zU (vS p15 out4 c14) cs4,hB b (cProg p p1 c p2 c1)] [(1,vP b 0),(4,vS p15 out4 c14),(5,vI t26),(6,vP b1 0),(10,vS p14 x1 c13),(24,vS p2 p.Parts c1),(25,vI (p.Parts.length:Int)),(26,vI t26),(52,vS p7 y2 c6),(53,vI (y2.length:Int)),(54,vI t54),(62,vS p6 x.Body c5),(63,vI (x.Body.length:Int)),(64,vI t64)]:=by
 refine wJ.partial_correctness p t26 x x1 _ ?_;intro self ih out4 t64 o hM B imm0 imm Q y2 t54 p1 c p2 c1 b p5 c4 p6 c5 b1 p7 c6 p14 c13 p15 c14 cs4 hle h6 h7 hat1 h18 h1 h8 h h20 hg ho hx hr;refine xA hg ho<|zG<|zB<|yA [] [(65,.bool (decide (t64 < (x.Body.length:Int))))]<|zF<|zG<|yO hM ?_ ?_
 · intro hc8 hM;refine yE<|zF<|zG<|yC<|zG<|zB<|yK 1 [] [(66,vI t64)] ?_;obtain ⟨x2,hy7,hM⟩:=zC hM;refine wD rfl rfl h7 hy7 ?_;intro ad2 ccs2 hat3 hrep2;obtain ⟨v013,v014,v015,v016,rfl,h22,h23,h24,h25⟩:=wE hrep2;obtain ⟨p17,c16,rfl⟩:=h22.form;obtain ⟨p18,c17,rfl⟩:=h23.form;obtain ⟨p19,c18,rfl⟩:=h24.form;obtain ⟨p20,c19,rfl⟩:=h25.form;refine xQ 0 hat3 (cStmt x2 p17 c16 p18 c17 p19 c18 p20 c19) (vA (cStmt x2 p17 c16 p18 c17 p19 c18 p20 c19)) rfl<|uB [vT ([]),z0,vI 0,vI 0,z0,vI 0,vT ([]),z0,z0] ?_;intro b2 hb2;refine yK 5 [] [(11,vI t64)]<|xI 0 (cStmt x2 p17 c16 p18 c17 p19 c18 p20 c19) [hB b2 (cStmt x2 p17 c16 p18 c17 p19 c18 p20 c19),hO zU (vS p15 out4 c14) cs4,hB b (cProg p p1 c p2 c1)] rfl rfl rfl rfl<|yN rfl<|zF<|zG<|zG<|zB<|yK 3 [2,0] [(69,vA (cProg p p1 c p2 c1)),(70,vA (cStmt x2 p17 c16 p18 c17 p19 c18 p20 c19)),(71,vS p14 x1 c13)] ?_;obtain ⟨y7,hy8,hM⟩:=zC hM;refine yQ (eW p x2 x1 _ hy8 h h1 h22 h23 h24 h25 h18) ?_;rintro imm08 hs2 v2 k2 le8 - ⟨v017,rfl,rfl,rfl⟩ -;have h20:=iM le8 h20;have h6:=h6.mono le8;have h7:=h7.mono le8;have hat1:=hat1.mono le8;have h18:=h18.mono le8;have h1:=h1.mono le8;have h8:=h8.mono le8;have h:=h.mono le8;have hle:=hle.trans le8;refine yA [] [(73,.bool (!y7))]<|zF<|yO hM ?_ ?_
   · intro hc9 hM;exact zG<|zB<|yA [] [(2,z0),(3,.bool false)]<|zF<|yI<|zP<|yF<|zP<|zP<|hr _ _ _ _ (zD hM).symm hle ⟨_,_,(.tmp rfl (.tmp rfl ResV.nil)),zX,⟨_,_,rfl,rfl,(SL.nil _),rfl⟩⟩
   intro hc9 hM;refine yE<|zF<|zB<|yK 4 [] [(74,vS p15 out4 c14),(75,vI t26),(76,vI t64),(77,vS p14 x1 c13)] ?_;obtain ⟨y8,hy9,hM⟩:=zC hM;refine yQ (oK x1 _ hy9 h18) ?_;rintro imm09 hs2 v2 k2 le9 - ⟨p21,c20,cs6,rfl,rfl,h27⟩ -;have h6:=h6.mono le9;have h7:=h7.mono le9;have hat1:=hat1.mono le9;have h18:=h18.mono le9;have h1:=h1.mono le9;have h8:=h8.mono le9;have h20:=iM le9 h20;have h:=h.mono le9;have hle:=hle.trans le9;refine yK 6 [] [(79,vA [vI t26,vI t64,vS p21 y8 c20])]<|yL 0 rfl ?_;intro imm010 le10 hl01;have h28:=SL.of_frozen hl01 le10 h27;have h6:=h6.mono le10;have h7:=h7.mono le10;have hat1:=hat1.mono le10;have h18:=h18.mono le10;have h1:=h1.mono le10;have h8:=h8.mono le10;have h20:=iM le10 h20;have h:=h.mono le10;have hle:=hle.trans le10;refine xV [vI t26,vI t64,vS p21 y8 c20] zU ?_;intro b3 hb3;have h29:RL imm010 [vI t26,vI t64,vS p21 y8 c20] ([(zU.mk t26 t64 y8)]:List zU):=⟨[vI t26,vI t64,vS p21 y8 c20],_,rfl,rfl,(jN ⟨_,rfl,h28⟩),rfl⟩;obtain ⟨out6,hy10,hM⟩:=zC hM;refine qQ 59 3 2 rfl rfl rfl h20 (.inr ⟨0,rfl⟩) h29 hy10 ?_;intro p22 c21 cs7 h30;exact rY (zL [1,2,3] (hs':=[hB b2 (cStmt x2 p17 c16 p18 c17 p19 c18 p20 c19),hO zU (vS p22 out6 c21) cs7,hB b (cProg p p1 c p2 c1)]) rfl (by decide))<|yA [] [(4,vS p22 out6 c21)]<|zY<|zF<|zB<|yA [] [(64,vI (W (t64 + 1)))]<|xB<|qP (zL [1,2] rfl (by decide))<|vG [(1,vP b 0),(4,vS p22 out6 c21),(5,vI t26),(6,vP b1 0),(10,vS p14 x1 c13),(24,vS p2 p.Parts c1),(25,vI (p.Parts.length:Int)),(26,vI t26),(52,vS p7 y2 c6),(53,vI (y2.length:Int)),(54,vI t54),(62,vS p6 x.Body c5),(63,vI (x.Body.length:Int)),(64,vI (W (t64 + 1)))]<|ih out6 (W (t64 + 1)) _ hM hle h6 h7 hat1 h18 h1 h8 h h30 hg ho hx hr
 intro hc8 hM;exact yZ<|zS<|zS<|yS [(1,vP b 0),(4,vS p15 out4 c14),(5,vI t26),(6,vP b1 0),(24,vS p2 p.Parts c1),(25,vI (p.Parts.length:Int)),(26,vI t26),(52,vS p7 y2 c6),(53,vI (y2.length:Int)),(54,vI t54)]<|hx _ _ _ _ _ (zD hM).symm hle h20
def wK (p:zW) (t26:Int) (x:zQ) (y2:(List (List Int))) (out2:List zU) (t54:Int):Option (Out (List zU) ((List zU)×Bool)):=do
 if (decide (t54 < (y2.length:Int))) then
  let x1←idx y2 t54
  let y6←oL x1
  if (!y6) then
   pure (.ret (([]:List zU),false))
  else
   match←wJ p t26 x x1 out2 0 with
   | .ret r0=>pure (.ret r0)
   | .done out5 =>
    wK p t26 x y2 out5 (W (t54 + 1))
 else
  pure (.done out2)
 partial_fixpoint
theorem kY (p:zW) (t26:Int) (x:zQ) (y2:(List (List Int))):∀ (out2:List zU) (t54:Int) (o:Out (List zU) ((List zU)×Bool)),wK p t26 x y2 out2 t54=some o→∀ {B}{imm0 imm:Imm}{Q p1 c p2 c1}{b:Nat}{p5 c4 p6 c5}{b1:Nat}{p7 c6 p12 c11 cs2},imm0.le imm→(S4 imm p5 x.Nest c4)→(S4 imm p6 x.Body c5)→(At imm ⟨b1,0,none⟩ (cPart x p5 c4 p6 c5))→(S4 imm p2 p.Parts c1)→(S4 imm p7 y2 c6)→(S4 imm p1 p.Arrays c)→(RL imm cs2 out2)→(∀ gl a w,¬Q (.goto gl) a w)→(∀ a w,¬Q .outgrown a w)→(∀ (imm':Imm) (out3:List zU) (p13:Option Addr) (c12:Nat) (cs3:List Value),o=(.done out3)→imm0.le imm'→(RL imm' cs3 out3)→T 89 B Q (.exit 2) imm' [hO zU (vS p13 out3 c12) cs3,hB b (cProg p p1 c p2 c1)] [(1,vP b 0),(4,vS p13 out3 c12),(24,vS p2 p.Parts c1),(25,vI (p.Parts.length:Int)),(26,vI t26)])→(∀ r imm' hs' m',o=(.ret r)→imm0.le imm'→RS Tryz.prog Tryz.f50 B (sF  r) imm' hs' m'→T 89 B Q .ret imm' hs' m')→J Tryz.prog 89 B (nav (bodyOf Tryz.f50) [1,1,1,0,1,0,0,1,1,0,0,1,1,1,1,0]) Q imm [hO zU (vS p12 out2 c11) cs2,hB b (cProg p p1 c p2 c1)] [(1,vP b 0),(4,vS p12 out2 c11),(5,vI t26),(6,vP b1 0),(24,vS p2 p.Parts c1),(25,vI (p.Parts.length:Int)),(26,vI t26),(52,vS p7 y2 c6),(53,vI (y2.length:Int)),(54,vI t54)]:=by
 refine wK.partial_correctness p t26 x y2 _ ?_;intro self ih out2 t54 o hM B imm0 imm Q p1 c p2 c1 b p5 c4 p6 c5 b1 p7 c6 p12 c11 cs2 hle h6 h7 hat1 h1 h8 h h16 hg ho hx hr;refine xA hg ho<|zG<|zB<|yA [] [(55,.bool (decide (t54 < (y2.length:Int))))]<|zF<|zG<|yO hM ?_ ?_
 · intro hc6 hM;refine yE<|zF<|zG<|yC<|zG<|zB ?_;obtain ⟨x1,hy5,hM⟩:=zC hM;refine wD rfl rfl h8 hy5 ?_;intro ad1 ccs1 hat2 hrep1;obtain ⟨v011,rfl,h18⟩:=hrep1;obtain ⟨p14,c13,rfl⟩:=h18.form;refine xQ 0 hat2 [vS p14 x1 c13] (vS p14 x1 c13) rfl<|yA [] [(10,vS p14 x1 c13)]<|zF<|zG<|zG<|zB<|yK 1 [] [(58,vS p14 x1 c13)] ?_;obtain ⟨y6,hy6,hM⟩:=zC hM;refine yQ (dI x1 _ hy6 h18) ?_;rintro imm07 hs2 v2 k2 le7 - ⟨v012,rfl,rfl,rfl⟩ -;have h16:=iM le7 h16;have h6:=h6.mono le7;have h7:=h7.mono le7;have hat1:=hat1.mono le7;have h18:=h18.mono le7;have h1:=h1.mono le7;have h8:=h8.mono le7;have h:=h.mono le7;have hle:=hle.trans le7;refine yA [] [(60,.bool (!y6))]<|zF<|yO hM ?_ ?_
   · intro hc7 hM;exact zG<|zB<|yA [] [(2,z0),(3,.bool false)]<|zF<|yI<|zP<|yF<|zP<|zP<|hr _ _ _ _ (zD hM).symm hle ⟨_,_,(.tmp rfl (.tmp rfl ResV.nil)),zX,⟨_,_,rfl,rfl,(SL.nil _),rfl⟩⟩
   intro hc7 hM;refine yE<|zF<|zG<|zB<|yK 1 [] [(61,vP b1 1)]<|xQ 1 hat1 [vS p6 x.Body c5] (vS p6 x.Body c5) rfl<|yA [] [(63,vI (x.Body.length:Int)),(64,vI 0)]<|zF<|yC<|vG [(1,vP b 0),(4,vS p12 out2 c11),(5,vI t26),(6,vP b1 0),(10,vS p14 x1 c13),(24,vS p2 p.Parts c1),(25,vI (p.Parts.length:Int)),(26,vI t26),(52,vS p7 y2 c6),(53,vI (y2.length:Int)),(54,vI t54),(62,vS p6 x.Body c5),(63,vI (x.Body.length:Int)),(64,vI 0)] ?_;obtain ⟨o02,ho02,hMl⟩:=zC hM;refine kX p t26 x x1 out2 0 o02 ho02 iR h6 h7 hat1 h18 h1 h8 h h16 (fun _ _ _ h=>hg _ _ _ h) (fun _ _ h=>ho _ _ h) ?_ ?_
   · intro imm011 out5 p16 c15 cs5 heq2 le11 h21;subst o02;have h6:=h6.mono le11;have h7:=h7.mono le11;have hat1:=hat1.mono le11;have h1:=h1.mono le11;have h8:=h8.mono le11;have h:=h.mono le11;have hle:=hle.trans le11;exact yD<|zY<|zF<|zB<|yA [] [(54,vI (W (t54 + 1)))]<|xB<|vG [(1,vP b 0),(4,vS p16 out5 c15),(5,vI t26),(6,vP b1 0),(24,vS p2 p.Parts c1),(25,vI (p.Parts.length:Int)),(26,vI t26),(52,vS p7 y2 c6),(53,vI (y2.length:Int)),(54,vI (W (t54 + 1)))]<|ih out5 (W (t54 + 1)) _ hMl hle h6 h7 hat1 h1 h8 h h21 hg ho hx hr
   intro r0 imm9 hs9 m9 heq9 le9 hrs9;subst heq9;exact yF<|yF<|zP<|zP<|hr _ _ _ _ (zD hMl).symm (hle.trans le9) hrs9
 intro hc6 hM;exact yZ<|zS<|zS<|yS [(1,vP b 0),(4,vS p12 out2 c11),(24,vS p2 p.Parts c1),(25,vI (p.Parts.length:Int)),(26,vI t26)]<|hx _ _ _ _ _ (zD hM).symm hle h16
def wL (p:zW) (out:List zU) (t26:Int):Option (Out (List zU) ((List zU)×Bool)):=do
 if (decide (t26 < (p.Parts.length:Int))) then
  let x←idx p.Parts t26
  let (y2,y3)←pS x.Nest
  let t51←(do
    if (!y3) then
     pure true
    else
     let y4←xP (x.Body.length:Int) 1 4
     if (!y4) then
      pure true
     else
      let y5←xO x.Body (fun x0=>wP x0 x)
      pure (id y5)
      : Option Bool)
  if t51 then
   pure (.ret (([]:List zU),false))
  else
   match←wK p t26 x y2 out 0 with
   | .ret r0=>pure (.ret r0)
   | .done out3 =>
    wL p out3 (W (t26 + 1))
 else
  pure (.done out)
 partial_fixpoint
theorem kZ (p:zW):∀ (out:List zU) (t26:Int) (o:Out (List zU) ((List zU)×Bool)),wL p out t26=some o→∀ {B}{imm0 imm:Imm}{Q p1 c p2 c1}{b:Nat}{p3 c2 cs},imm0.le imm→(S4 imm p2 p.Parts c1)→(S4 imm p1 p.Arrays c)→(RL imm cs out)→(∀ gl a w,¬Q (.goto gl) a w)→(∀ a w,¬Q .outgrown a w)→(∀ (imm':Imm) (out1:List zU) (p4:Option Addr) (c3:Nat) (cs1:List Value),o=(.done out1)→imm0.le imm'→(RL imm' cs1 out1)→T 89 B Q (.exit 0) imm' [hO zU (vS p4 out1 c3) cs1] [(4,vS p4 out1 c3)])→(∀ r imm' hs' m',o=(.ret r)→imm0.le imm'→RS Tryz.prog Tryz.f50 B (sF  r) imm' hs' m'→T 89 B Q .ret imm' hs' m')→J Tryz.prog 89 B (nav (bodyOf Tryz.f50) [1,1,1,0,1,0]) Q imm [hO zU (vS p3 out c2) cs,hB b (cProg p p1 c p2 c1)] [(1,vP b 0),(4,vS p3 out c2),(24,vS p2 p.Parts c1),(25,vI (p.Parts.length:Int)),(26,vI t26)]:=by
 refine wL.partial_correctness p _ ?_;intro self ih out t26 o hM B imm0 imm Q p1 c p2 c1 b p3 c2 cs hle h1 h h4 hg ho hx hr;refine xA hg ho<|zG<|zB<|yA [] [(27,.bool (decide (t26 < (p.Parts.length:Int))))]<|zF<|zG<|yO hM ?_ ?_
 · intro hc2 hM;refine yE<|zF<|zG<|yC<|zG<|zB<|yK 1 [] [(28,vI t26)] ?_;obtain ⟨x,hy1,hM⟩:=zC hM;refine wD rfl rfl h1 hy1 ?_;intro ad ccs hat hrep;obtain ⟨v01,v02,rfl,h6,h7⟩:=xT hrep;obtain ⟨p5,c4,rfl⟩:=h6.form;obtain ⟨p6,c5,rfl⟩:=h7.form;refine xQ 0 hat (cPart x p5 c4 p6 c5) (vA (cPart x p5 c4 p6 c5)) rfl<|uB zTwo ?_;intro b1 hb1;refine yK 5 [] [(5,vI t26)]<|xI 0 (cPart x p5 c4 p6 c5) [hB b1 (cPart x p5 c4 p6 c5),hO zU (vS p3 out c2) cs,hB b (cProg p p1 c p2 c1)] rfl rfl rfl rfl<|yN rfl<|zF<|zG<|zB<|yK 2 [0] [(33,vS p5 x.Nest c4)] ?_;obtain ⟨⟨y2,y3⟩,hy2,hM⟩:=zC hM;refine yQ (zBT x.Nest _ hy2 h6) ?_;rintro imm02 hs2 v2 k2 le2 - ⟨v03,v04,rfl,rfl,h8,rfl⟩ -;have h4:=iM le2 h4;have h1:=h1.mono le2;have h6:=h6.mono le2;have h7:=h7.mono le2;have h:=h.mono le2;have hle:=hle.trans le2;obtain ⟨p7,c6,rfl⟩:=h8.form;refine yA [] [(7,vS p7 y2 c6),(8,.bool y3)]<|zF<|zG<|zG<|qW 0 rfl ?_;intro imm03 le3 hl0;have hat1:At imm03 ⟨b1,0,none⟩ (cPart x p5 c4 p6 c5):=At.of_blk hl0;have h4:=iM le3 h4;have h6:=h6.mono le3;have h7:=h7.mono le3;have h8:=h8.mono le3;have h1:=h1.mono le3;have h:=h.mono le3;have hle:=hle.trans le3;obtain ⟨o01,ho01,hMc1⟩:=zC hM;refine yT (fun imm' hs' m'=>∃ (t51:Bool),o01=t51∧imm03.le imm'∧hs'=[hO zU (vS p3 out c2) cs,hB b (cProg p p1 c p2 c1)]∧m'=[(1,vP b 0),(4,vS p3 out c2),(5,vI t26),(6,vP b1 0),(7,vS p7 y2 c6),(24,vS p2 p.Parts c1),(25,vI (p.Parts.length:Int)),(26,vI t26),(51,.bool t51)]) ?_ ?_
   · have hle:=iS imm03;refine zB<|yK 3 [] [(39,.bool (!y3))] ?_;cases hc3:(!y3) with
     | true =>
      have hM02:=zV hc3 ho01
      try rw [hc3]
      exact yA [] [(51,.bool true)]<|yS [(1,vP b 0),(4,vS p3 out c2),(5,vI t26),(6,vP b1 0),(7,vS p7 y2 c6),(24,vS p2 p.Parts c1),(25,vI (p.Parts.length:Int)),(26,vI t26),(51,.bool true)]<|yB ⟨_,(zD hM02).symm,hle,rfl,rfl⟩
     | false =>
      have hM03:=zT hc3 ho01
      try rw [hc3]
      refine yK 4 [] [(40,vP b1 1)]<|xQ 1 hat1 [vS p6 x.Body c5] (vS p6 x.Body c5) rfl<|yK 6 [] [(42,vI (x.Body.length:Int))] ?_;obtain ⟨y4,hy3,hM⟩:=zC hM03;refine yQ (xM (x.Body.length:Int) 1 4 _ hy3 ) ?_;rintro imm05 hs2 v2 k2 le4 - ⟨v05,rfl,rfl,rfl⟩ -;have h6:=h6.mono le4;have h7:=h7.mono le4;have hat1:=hat1.mono le4;have h:=h.mono le4;have hle:=hle.trans le4;refine yK 10 [] [(46,.bool (!y4))] ?_;cases hc4:(!y4) with
      | true =>
       have hM04:=zV hc4 hM
       try rw [hc4]
       exact yA [] [(51,.bool true)]<|yS [(1,vP b 0),(4,vS p3 out c2),(5,vI t26),(6,vP b1 0),(7,vS p7 y2 c6),(24,vS p2 p.Parts c1),(25,vI (p.Parts.length:Int)),(26,vI t26),(51,.bool true)]<|yB ⟨_,(zD hM04).symm,hle,rfl,rfl⟩
      | false =>
       have hM05:=zT hc4 hM
       try rw [hc4]
       refine yK 11 [] [(47,vP b1 1)]<|xQ 1 hat1 [vS p6 x.Body c5] (vS p6 x.Body c5) rfl<|yK 13 [] [(49,.func (.func 107) ⟨[]⟩ ⟨[vP b1 0]⟩)] ?_;have hf0:FV1 Tryz.prog imm05 [] (.func (.func 107) ⟨[]⟩ ⟨[vP b1 0]⟩) (fun x0=>wP x0 x):=by
         refine FV1.intro ?_;intro imm1 le1 x0 r u0 hF k0;obtain ⟨_,rfl,k0⟩:=k0;obtain ⟨v06,v07,v08,v09,rfl,h11,h12,h13,h14⟩:=wE k0;obtain ⟨p8,c7,rfl⟩:=h11.form;obtain ⟨p9,c8,rfl⟩:=h12.form;obtain ⟨p10,c9,rfl⟩:=h13.form;obtain ⟨p11,c10,rfl⟩:=h14.form;exact (jI x0 x r hF h11 h12 h13 h14 (h6.mono le1) (h7.mono le1) (hat1.mono le1)).mono (by rintro k i hs u ⟨v0,rfl,rfl,h⟩; exact ⟨rfl,h⟩)
       obtain ⟨y5,hy4,hM⟩:=zC hM05;refine yQ (oX x.Body (fun x0=>wP x0 x) _ hy4 h7 hf0) ?_;rintro imm06 hs2 v2 k2 le5 - ⟨v010,rfl,rfl,rfl⟩ -;have hle:=hle.trans le5;exact yA [] [(51,.bool y5)]<|yS [(1,vP b 0),(4,vS p3 out c2),(5,vI t26),(6,vP b1 0),(7,vS p7 y2 c6),(24,vS p2 p.Parts c1),(25,vI (p.Parts.length:Int)),(26,vI t26),(51,.bool y5)]<|yB ⟨_,(zD hM).symm,hle,rfl,rfl⟩
   rintro imm04 hs2 m2 ⟨t51,heq1,le6,rfl,rfl⟩;subst o01;have h4:=iM le6 h4;have h6:=h6.mono le6;have h7:=h7.mono le6;have hat1:=hat1.mono le6;have h8:=h8.mono le6;have h1:=h1.mono le6;have h:=h.mono le6;have hle:=hle.trans le6;refine zF<|yO hMc1 ?_ ?_
   · intro hc5 hM;exact zG<|zB<|yA [] [(2,z0),(3,.bool false)]<|zF<|yI<|zP<|yF<|zP<|zP<|hr _ _ _ _ (zD hM).symm hle ⟨_,_,(.tmp rfl (.tmp rfl ResV.nil)),zX,⟨_,_,rfl,rfl,(SL.nil _),rfl⟩⟩
   intro hc5 hM;refine yE<|zF<|zG<|zB<|yA [] [(52,vS p7 y2 c6),(53,vI (y2.length:Int)),(54,vI 0)]<|zF<|yC<|vG [(1,vP b 0),(4,vS p3 out c2),(5,vI t26),(6,vP b1 0),(24,vS p2 p.Parts c1),(25,vI (p.Parts.length:Int)),(26,vI t26),(52,vS p7 y2 c6),(53,vI (y2.length:Int)),(54,vI 0)] ?_;obtain ⟨o03,ho03,hMl1⟩:=zC hM;refine kY p t26 x y2 out 0 o03 ho03 iR h6 h7 hat1 h1 h8 h h4 (fun _ _ _ h=>hg _ _ _ h) (fun _ _ h=>ho _ _ h) ?_ ?_
   · intro imm012 out3 p13 c12 cs3 heq3 le12 h17;subst o03;have h1:=h1.mono le12;have h:=h.mono le12;have hle:=hle.trans le12;exact yD<|zY<|zF<|zB<|yA [] [(26,vI (W (t26 + 1)))]<|xB<|vG [(1,vP b 0),(4,vS p13 out3 c12),(24,vS p2 p.Parts c1),(25,vI (p.Parts.length:Int)),(26,vI (W (t26 + 1)))]<|ih out3 (W (t26 + 1)) _ hMl1 hle h1 h h17 hg ho hx hr
   intro r0 imm9 hs9 m9 heq9 le9 hrs9;subst heq9;exact yF<|yF<|zP<|zP<|hr _ _ _ _ (zD hMl1).symm (hle.trans le9) hrs9
 intro hc2 hM;exact yZ<|zS<|zS<|wB (zL [0] rfl (by decide))<|yS [(4,vS p3 out c2)]<|hx _ _ _ _ _ (zD hM).symm hle h4
def uL (p:zW):Option ((List zU)×Bool):=do
 let t22←(do
   let y←nB p.Arrays
   if (!y) then
    pure true
   else
    pure (decide ((p.Parts.length:Int) > 4))
     : Option Bool)
 if t22 then
  pure (([]:List zU),false)
 else
  match←wL p ([]:List zU) 0 with
  | .ret r0=>pure r0
  | .done out1 =>
   pure (out1,(decide ((out1.length:Int) ≤ 120)))
theorem nW:∀ (p:zW) r,uL p=some r→∀ {imm:Imm}{p1 c p2 c1},(S4 imm p1 p.Arrays c)→(S4 imm p2 p.Parts c1)→Ret Tryz.prog 50 [vA (cProg p p1 c p2 c1)] imm [] (sF  r):=by
 intro p r hM imm p1 c p2 c1 h h1;unfold uL at hM;refine yH (fn:=Tryz.f50) (c:=(bodyOf Tryz.f50)) Tryz.func50 rfl rfl ?_;rintro B - -;have hle:=iS imm;refine zG<|zB<|tA (cProg p p1 c p2 c1) ?_;intro b hb;refine yA [] []<|zF<|zG<|zG ?_;obtain ⟨o0,ho0,hMc⟩:=zC hM;refine yT (fun imm' hs' m'=>∃ (t22:Bool),o0=t22∧imm.le imm'∧hs'=[hB b (cProg p p1 c p2 c1)]∧m'=[(1,vP b 0),(22,.bool t22)]) ?_ ?_
 · have hle:=iS imm;refine zB<|yK 2 [0] [(14,vS p1 p.Arrays c)] ?_;obtain ⟨y,hy,hM⟩:=zC ho0;refine yQ (zCw p.Arrays _ hy h) ?_;rintro imm01 hs2 v2 k2 le - ⟨v0,rfl,rfl,rfl⟩ -;have hle:=hle.trans le;refine yK 5 [] [(17,.bool (!y))] ?_;cases hc:(!y) with
   | true =>
    have hM0:=zV hc hM
    try rw [hc]
    exact yA [] [(22,.bool true)]<|yS [(1,vP b 0),(22,.bool true)]<|yB ⟨_,(zD hM0).symm,hle,rfl,rfl⟩
   | false =>
    have hM01:=zT hc hM
    try rw [hc]
    exact yA [0] [(22,.bool (decide ((p.Parts.length:Int) > 4)))]<|yS [(1,vP b 0),(22,.bool (decide ((p.Parts.length:Int) > 4)))]<|yB ⟨_,(zD hM01).symm,hle,rfl,rfl⟩
 rintro imm0 hs2 m2 ⟨t22,heq,le1,rfl,rfl⟩;subst o0;have h:=h.mono le1;have h1:=h1.mono le1;refine zF<|yO hMc ?_ ?_
 · intro hc1 hM;refine zG<|zB<|yA [] [(2,z0),(3,.bool false)]<|zF<|yI<|zP ?_;obtain rfl:=zD hM;exact yP ⟨_,_,(.tmp rfl (.tmp rfl ResV.nil)),zX,⟨_,_,rfl,rfl,(SL.nil _),rfl⟩⟩
 intro hc1 hM;refine yE<|zF<|zG<|zB<|yA [] [(4,z0)]<|zF<|zG<|zG<|zB<|yA [0] [(24,vS p2 p.Parts c1),(25,vI (p.Parts.length:Int)),(26,vI 0)]<|zF<|yC<|vG [(1,vP b 0),(4,z0),(24,vS p2 p.Parts c1),(25,vI (p.Parts.length:Int)),(26,vI 0)]<|qP (uS (Rp.sz zU)) ?_;have h3:RL imm0 [] ([]:List zU):=RepL.nil;obtain ⟨o04,ho04,hMl2⟩:=zC hM;refine kZ p ([]:List zU) 0 o04 ho04 iR h1 h h3 (fun _ _ _ h=>h) (fun _ _ h=>h) ?_ ?_
 · intro imm013 out1 p4 c3 cs1 heq4 le13 h5;subst o04;refine yD<|zF<|zG<|zB<|yA [] [(2,vS p4 out1 c3),(3,.bool (decide ((out1.length:Int) ≤ 120)))]<|zF<|yI<|xJ 0 rfl ?_;intro imm014 le14 hl02;have h31:=SL.of_frozen hl02 le14 h5;obtain rfl:=zD hMl2;exact yP ⟨_,_,(.tmp rfl (.tmp rfl ResV.nil)),zX,⟨_,_,rfl,rfl,h31,rfl⟩⟩
 intro r0 imm9 hs9 m9 heq9 le9 hrs9;subst heq9;refine yF<|zP ?_;obtain rfl:=zD hMl2;exact yP hrs9
def jZ (r:(List zU)):KT:=fun kk imm' hs' v=>
  ∃ v0,hs'=[]∧v=tupV [v0]∧SL imm' v0 r
def qB (p:zW):Option ((List zU)):=do
 let (y1,y2)←uL p
 if (!y2) then
  pure ([]:List zU)
 else
  pure (id y1)
theorem zE6:∀ (p:zW) r,qB p=some r→∀ {imm:Imm}{p1 c p2 c1},(S4 imm p1 p.Arrays c)→(S4 imm p2 p.Parts c1)→Ret Tryz.prog 16 [vA (cProg p p1 c p2 c1)] imm [] (jZ  r):=by
 intro p r hM imm p1 c p2 c1 h h1;unfold qB at hM;refine yH (fn:=Tryz.f16) (c:=(bodyOf Tryz.f16)) Tryz.func16 rfl rfl ?_;rintro B - -;refine zG<|zB<|tA (cProg p p1 c p2 c1) ?_;intro b hb;refine yA [] []<|zF<|zG<|zB<|yK 1 [0] [(6,vA (cProg p p1 c p2 c1))] ?_;obtain ⟨⟨y1,y2⟩,hy,hM⟩:=zC hM;refine yQ (nW p _ hy h h1) ?_;rintro imm0 hs2 v2 k2 le - ⟨v0,v01,rfl,rfl,h2,rfl⟩ -;obtain ⟨p3,c2,rfl⟩:=h2.form;refine yA [] [(3,vS p3 y1 c2),(4,.bool y2)]<|zF<|zG<|zG<|zB<|yA [] [(11,.bool (!y2))]<|zF<|yO hM ?_ ?_
 · intro hc hM;refine zG<|zB<|yA [] [(2,z0)]<|zF<|yI<|zP ?_;obtain rfl:=zD hM;exact yP ⟨_,_,(.tmp rfl ResV.nil),zX,⟨_,rfl,rfl,(SL.nil _)⟩⟩
 intro hc hM;refine yE<|zF<|zG<|zB<|yA [] [(2,vS p3 y1 c2)]<|zF<|yI ?_;obtain rfl:=zD hM;exact yP ⟨_,_,(.tmp rfl ResV.nil),zX,⟨_,rfl,rfl,h2⟩⟩
def dS (r:(List zU)):KT:=fun kk imm' hs' v=>
  ∃ v0,hs'=[]∧v=tupV [v0]∧SL imm' v0 r
def xY (p:zW) (i:Int) (y:(List (List Int))) (k0:Int) (out4:List zU) (s:Int):Option (List zU):=do
 let x1←idx p.Parts i
 if (decide (s < (x1.Body.length:Int))) then
  let x2←idx y k0
  let l←app 8 ([]:List Int) x2
  let out6←app 40 out4 ([(zU.mk i s l)]:List zU)
  xY p i y k0 out6 (W (s + 1))
 else
  pure (id out4)
 partial_fixpoint
theorem eX (p:zW) (i:Int) (y:(List (List Int))) (k0:Int):∀ (out4:List zU) (s:Int) (o:List zU),xY p i y k0 out4 s=some o→∀ {B}{imm0 imm:Imm}{Q p1 c p2 c1}{b:Nat}{p7 c6 cs2 p10 c9 cs5},imm0.le imm→(RL imm cs2 y)→(S4 imm p1 p.Arrays c)→(S4 imm p2 p.Parts c1)→(RL imm cs5 out4)→(∀ gl a w,¬Q (.goto gl) a w)→(∀ a w,¬Q .outgrown a w)→(∀ (imm':Imm) (out5:List zU) (p11:Option Addr) (c10:Nat) (cs6:List Value),o=out5→imm0.le imm'→(RL imm' cs6 out5)→T 54 B Q (.exit 4) imm' [hO (List Int) (vS p7 y c6) cs2,hO zU (vS p11 out5 c10) cs6,hB b (cProg p p1 c p2 c1)] [(1,vP b 0),(3,vS p11 out5 c10),(4,vI i),(5,vS p7 y c6),(6,vI k0)])→J Tryz.prog 54 B (nav (bodyOf Tryz.f52) [1,1,0,1,0,0,1,0,0,1,1,0,0,1,0,0,1,0]) Q imm [hO (List Int) (vS p7 y c6) cs2,hO zU (vS p10 out4 c9) cs5,hB b (cProg p p1 c p2 c1)] [(1,vP b 0),(3,vS p10 out4 c9),(4,vI i),(5,vS p7 y c6),(6,vI k0),(7,vI s)]:=by
 refine xY.partial_correctness p i y k0 _ ?_;intro self ih out4 s o hM B imm0 imm Q p1 c p2 c1 b p7 c6 cs2 p10 c9 cs5 hle h8 h h1 h11 hg ho hx;refine xA hg ho<|zG<|zG<|zB<|yK 4 [2] [(30,vI s),(32,vS p2 p.Parts c1),(33,vI i)] ?_;obtain ⟨x1,hy2,hM⟩:=zC hM;refine wD rfl rfl h1 hy2 ?_;intro ad1 ccs1 hat1 hrep1;obtain ⟨v02,v03,rfl,h13,h14⟩:=xT hrep1;obtain ⟨p12,c11,rfl⟩:=h13.form;obtain ⟨p13,c12,rfl⟩:=h14.form;refine yK 6 [] [(35,.pointer (some (ad1.add 1)))]<|xQ 1 hat1 [vS p13 x1.Body c12] (vS p13 x1.Body c12) rfl<|yA [] [(38,.bool (decide (s < (x1.Body.length:Int))))]<|zF<|yO hM ?_ ?_
 · intro hc2 hM;refine yE<|zF<|zG<|yC<|zB<|yK 3 [] [(41,vS p10 out4 c9),(42,vI i),(43,vI s)]<|xV [] Int ?_;intro b3 hb3;have h15:RL imm [] ([]:List Int):=rfl;refine yK 6 [] [(45,vS p7 y c6),(46,vI k0)] ?_;obtain ⟨x2,hy3,hM⟩:=zC hM;refine nK 1 rfl rfl rfl h8 hy3 ?_;intro ad2 ccs2 hat2 hcc hrep2;obtain ⟨v04,rfl,h16⟩:=hrep2;obtain ⟨p14,c13,rfl⟩:=h16.form;refine zDH 1 0 hat2 hcc [vS p14 x2 c13] (vS p14 x2 c13) rfl rfl ?_;obtain ⟨ccs3,k01,k02⟩:=h16;have h16:SL imm (vS p14 x2 c13) x2:=⟨_,k01,k02⟩;obtain ⟨l,hy4,hM⟩:=zC hM;refine qQ 3 1 0 rfl rfl rfl h15 (.inl k01) k02 hy4 ?_;intro p15 c14 cs7 h17;refine rY (zL [0,1,2,3] (hs':=[hO Int (vS p15 l c14) cs7,hO (List Int) (vS p7 y c6) cs2,hO zU (vS p10 out4 c9) cs5,hB b (cProg p p1 c p2 c1)]) rfl (by decide))<|yK 10 [] [(50,vA [vI i,vI s,vS p15 l c14])]<|yL 0 rfl ?_;intro imm01 le1 hl0;have h18:=SL.of_frozen hl0 le1 h17;have h8:=iM le1 h8;have h11:=iM le1 h11;have h:=h.mono le1;have h1:=h1.mono le1;have hle:=hle.trans le1;refine xV [vI i,vI s,vS p15 l c14] zU ?_;intro b4 hb4;have h19:RL imm01 [vI i,vI s,vS p15 l c14] ([(zU.mk i s l)]:List zU):=⟨[vI i,vI s,vS p15 l c14],_,rfl,rfl,(jN ⟨_,rfl,h18⟩),rfl⟩;obtain ⟨out6,hy5,hM⟩:=zC hM;refine qQ 59 3 2 rfl rfl rfl h11 (.inr ⟨0,rfl⟩) h19 hy5 ?_;intro p16 c15 cs8 h20;exact rY (zL [1,2,3] (hs':=[hO (List Int) (vS p7 y c6) cs2,hO zU (vS p16 out6 c15) cs8,hB b (cProg p p1 c p2 c1)]) rfl (by decide))<|yA [] [(3,vS p16 out6 c15)]<|zY<|zF<|zB<|yA [] [(7,vI (W (s + 1)))]<|xB<|vG [(1,vP b 0),(3,vS p16 out6 c15),(4,vI i),(5,vS p7 y c6),(6,vI k0),(7,vI (W (s + 1)))]<|ih out6 (W (s + 1)) _ hM hle h8 h h1 h20 hg ho hx
 intro hc2 hM;exact yZ<|zS<|zS<|yS [(1,vP b 0),(3,vS p10 out4 c9),(4,vI i),(5,vS p7 y c6),(6,vI k0)]<|hx _ _ _ _ _ (zD hM).symm hle h11
def xZ (p:zW) (i:Int) (y:(List (List Int))) (out2:List zU) (k0:Int):Option (List zU):=do
 if (decide (k0 < (y.length:Int))) then
  let out5←xY p i y k0 out2 0
  xZ p i y out5 (W (k0 + 1))
 else
  pure (id out2)
 partial_fixpoint
theorem eY (p:zW) (i:Int) (y:(List (List Int))):∀ (out2:List zU) (k0:Int) (o:List zU),xZ p i y out2 k0=some o→∀ {B}{imm0 imm:Imm}{Q p1 c p2 c1}{b:Nat}{p7 c6 cs2 p8 c7 cs3},imm0.le imm→(RL imm cs2 y)→(S4 imm p1 p.Arrays c)→(S4 imm p2 p.Parts c1)→(RL imm cs3 out2)→(∀ gl a w,¬Q (.goto gl) a w)→(∀ a w,¬Q .outgrown a w)→(∀ (imm':Imm) (out3:List zU) (p9:Option Addr) (c8:Nat) (cs4:List Value),o=out3→imm0.le imm'→(RL imm' cs4 out3)→T 54 B Q (.exit 2) imm' [hO zU (vS p9 out3 c8) cs4,hB b (cProg p p1 c p2 c1)] [(1,vP b 0),(3,vS p9 out3 c8),(4,vI i)])→J Tryz.prog 54 B (nav (bodyOf Tryz.f52) [1,1,0,1,0,0,1,0,0,1,1,0]) Q imm [hO (List Int) (vS p7 y c6) cs2,hO zU (vS p8 out2 c7) cs3,hB b (cProg p p1 c p2 c1)] [(1,vP b 0),(3,vS p8 out2 c7),(4,vI i),(5,vS p7 y c6),(6,vI k0)]:=by
 refine xZ.partial_correctness p i y _ ?_;intro self ih out2 k0 o hM B imm0 imm Q p1 c p2 c1 b p7 c6 cs2 p8 c7 cs3 hle h8 h h1 h9 hg ho hx;refine xA hg ho<|zG<|zG<|zB<|yA [] [(27,.bool (decide (k0 < (y.length:Int))))]<|zF<|yO hM ?_ ?_
 · intro hc1 hM;refine yE<|zF<|zG<|yC<|zG<|zB<|yA [] [(7,vI 0)]<|zF<|yC<|vG [(1,vP b 0),(3,vS p8 out2 c7),(4,vI i),(5,vS p7 y c6),(6,vI k0),(7,vI 0)] ?_;obtain ⟨o0,ho0,hMl⟩:=zC hM;refine eX p i y k0 out2 0 o0 ho0 iR h8 h h1 h9 (fun _ _ _ h=>hg _ _ _ h) (fun _ _ h=>ho _ _ h) ?_;intro imm02 out5 p11 c10 cs6 heq le2 h12;subst o0;have h8:=iM le2 h8;have h:=h.mono le2;have h1:=h1.mono le2;have hle:=hle.trans le2;exact yD<|zY<|zF<|zB<|yA [] [(6,vI (W (k0 + 1)))]<|xB<|vG [(1,vP b 0),(3,vS p11 out5 c10),(4,vI i),(5,vS p7 y c6),(6,vI (W (k0 + 1)))]<|ih out5 (W (k0 + 1)) _ hMl hle h8 h h1 h12 hg ho hx
 intro hc1 hM;exact yZ<|zS<|zS<|wB (zL [1,2] rfl (by decide))<|yS [(1,vP b 0),(3,vS p8 out2 c7),(4,vI i)]<|hx _ _ _ _ _ (zD hM).symm hle h9
def wA (p:zW) (out:List zU) (i:Int):Option (List zU):=do
 if (decide (i < (p.Parts.length:Int))) then
  let x←idx p.Parts i
  let y←wR ([]:List (List Int)) x.Nest ([]:List Int)
  let out3←xZ p i y out 0
  wA p out3 (W (i + 1))
 else
  pure (id out)
 partial_fixpoint
theorem eZ (p:zW):∀ (out:List zU) (i:Int) (o:List zU),wA p out i=some o→∀ {B}{imm0 imm:Imm}{Q p1 c p2 c1}{b:Nat}{p3 c2 cs},imm0.le imm→(S4 imm p1 p.Arrays c)→(S4 imm p2 p.Parts c1)→(RL imm cs out)→(∀ gl a w,¬Q (.goto gl) a w)→(∀ a w,¬Q .outgrown a w)→(∀ (imm':Imm) (out1:List zU) (p4:Option Addr) (c3:Nat) (cs1:List Value),o=out1→imm0.le imm'→(RL imm' cs1 out1)→T 54 B Q (.exit 0) imm' [hO zU (vS p4 out1 c3) cs1] [(3,vS p4 out1 c3)])→J Tryz.prog 54 B (nav (bodyOf Tryz.f52) [1,1,0,1,0]) Q imm [hO zU (vS p3 out c2) cs,hB b (cProg p p1 c p2 c1)] [(1,vP b 0),(3,vS p3 out c2),(4,vI i)]:=by
 refine wA.partial_correctness p _ ?_;intro self ih out i o hM B imm0 imm Q p1 c p2 c1 b p3 c2 cs hle h h1 h3 hg ho hx;refine xA hg ho<|zG<|zG<|zB<|yA [1] [(13,.bool (decide (i < (p.Parts.length:Int))))]<|zF<|yO hM ?_ ?_
 · intro hc hM;refine yE<|zF<|zG<|yC<|zG<|zB<|xV [] (List Int) ?_;intro b2 hb2;have h5:RL imm [] ([]:List (List Int)):=rfl;refine yK 4 [2] [(18,vS p2 p.Parts c1),(19,vI i)] ?_;obtain ⟨x,hy,hM⟩:=zC hM;refine wD rfl rfl h1 hy ?_;intro ad ccs hat hrep;obtain ⟨v0,v01,rfl,h6,h7⟩:=xT hrep;obtain ⟨p5,c4,rfl⟩:=h6.form;obtain ⟨p6,c5,rfl⟩:=h7.form;refine yK 6 [] [(21,.pointer (some ad))]<|xQ 0 hat [vS p5 x.Nest c4] (vS p5 x.Nest c4) rfl ?_;obtain ⟨y,hy1,hM⟩:=zC hM;refine tV [hO (List Int) (vS (some ⟨b2,0,none⟩) ([]:List (List Int)) 0) []] [hO zU (vS p3 out c2) cs,hB b (cProg p p1 c p2 c1)] (fM ([]:List (List Int)) x.Nest ([]:List Int) _ hy1 h5 h6 (SL.nil _)) ?_;rintro imm0 hs2 v2 k2 le - ⟨p7,c6,cs2,rfl,rfl,h8⟩ -;have h3:=iM le h3;have h:=h.mono le;have h1:=h1.mono le;have hle:=hle.trans le;refine yA [] [(5,vS p7 y c6)]<|zF<|zG<|zB<|yA [] [(6,vI 0)]<|zF<|yC<|vG [(1,vP b 0),(3,vS p3 out c2),(4,vI i),(5,vS p7 y c6),(6,vI 0)] ?_;obtain ⟨o01,ho01,hMl1⟩:=zC hM;refine eY p i y out 0 o01 ho01 iR h8 h h1 h3 (fun _ _ _ h=>hg _ _ _ h) (fun _ _ h=>ho _ _ h) ?_;intro imm03 out3 p9 c8 cs4 heq1 le3 h10;subst o01;have h:=h.mono le3;have h1:=h1.mono le3;have hle:=hle.trans le3;exact yD<|zY<|zF<|zB<|yA [] [(4,vI (W (i + 1)))]<|xB<|vG [(1,vP b 0),(3,vS p9 out3 c8),(4,vI (W (i + 1)))]<|ih out3 (W (i + 1)) _ hMl1 hle h h1 h10 hg ho hx
 intro hc hM;exact yZ<|zS<|zS<|wB (zL [0] rfl (by decide))<|yS [(3,vS p3 out c2)]<|hx _ _ _ _ _ (zD hM).symm hle h3
def oZ (p:zW):Option ((List zU)):=do
 let out1←wA p ([]:List zU) 0
 pure (id out1)
theorem zGP:∀ (p:zW) r,oZ p=some r→∀ {imm:Imm}{p1 c p2 c1},(S4 imm p1 p.Arrays c)→(S4 imm p2 p.Parts c1)→Ret Tryz.prog 52 [vA (cProg p p1 c p2 c1)] imm [] (dS  r):=by
 intro p r hM imm p1 c p2 c1 h h1;unfold oZ at hM;refine yH (fn:=Tryz.f52) (c:=(bodyOf Tryz.f52)) Tryz.func52 rfl rfl ?_;rintro B - -;refine zG<|zB<|tA (cProg p p1 c p2 c1) ?_;intro b hb;refine yA [] []<|zF<|zG<|zB<|xV [] zU ?_;intro b1 hb1;have h2:RL imm [] ([]:List zU):=rfl;refine yA [] [(3,vS (some ⟨b1,0,none⟩) ([]:List zU) 0)]<|zF<|zG<|zG<|zB<|yA [] [(4,vI 0)]<|zF<|yC<|vG [(1,vP b 0),(3,vS (some ⟨b1,0,none⟩) ([]:List zU) 0),(4,vI 0)] ?_;obtain ⟨o02,ho02,hMl2⟩:=zC hM;refine eZ p ([]:List zU) 0 o02 ho02 iR h h1 h2 (fun _ _ _ h=>h) (fun _ _ h=>h) ?_;intro imm04 out1 p4 c3 cs1 heq2 le4 h4;subst o02;refine yD<|zF<|zG<|zB<|yA [] [(2,vS p4 out1 c3)]<|zF<|yI<|xJ 0 rfl ?_;intro imm05 le5 hl01;have h21:=SL.of_frozen hl01 le5 h4;obtain rfl:=zD hMl2;exact yP ⟨_,_,(.tmp rfl ResV.nil),zX,⟨_,rfl,rfl,h21⟩⟩
def dA (r:Bool):KT:=fun kk imm' hs' v=>
  ∃ v0,hs'=[]∧v=tupV [v0]∧v0=.bool r
def qK (p:zW):Option (Bool):=do
 let (y1,y2)←uL p
 pure (id y2)
theorem zAX:∀ (p:zW) r,qK p=some r→∀ {imm:Imm}{p1 c p2 c1},(S4 imm p1 p.Arrays c)→(S4 imm p2 p.Parts c1)→Ret Tryz.prog 18 [vA (cProg p p1 c p2 c1)] imm [] (dA  r):=by
 intro p r hM imm p1 c p2 c1 h h1;unfold qK at hM;refine yH (fn:=Tryz.f18) (c:=(bodyOf Tryz.f18)) Tryz.func18 rfl rfl ?_;rintro B - -;refine zG<|zB<|tA (cProg p p1 c p2 c1) ?_;intro b hb;refine yA [] []<|zF<|zG<|zB<|yK 1 [0] [(6,vA (cProg p p1 c p2 c1))] ?_;obtain ⟨⟨y1,y2⟩,hy,hM⟩:=zC hM;refine yQ (nW p _ hy h h1) ?_;rintro imm0 hs2 v2 k2 le - ⟨v0,v01,rfl,rfl,h2,rfl⟩ -;obtain ⟨p3,c2,rfl⟩:=h2.form;refine yA [] [(4,.bool y2)]<|zF<|zG<|zB<|yA [] [(2,.bool y2)]<|zF<|yI ?_;obtain rfl:=zD hM;exact yP ⟨_,_,(.tmp rfl ResV.nil),zX,⟨_,rfl,rfl,rfl⟩⟩
end Go.LN
