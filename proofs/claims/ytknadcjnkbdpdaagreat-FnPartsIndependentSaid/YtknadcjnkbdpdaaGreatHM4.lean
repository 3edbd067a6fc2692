/- Helper of the proof (see the last text). -/
import Derived.Test.YtknadcjnkbdpdaaGreatHM3
set_option linter.unusedVariables false
set_option linter.unusedSimpArgs false
namespace Go.LN
open Go.Proofs
set_option maxRecDepth 20000
def zCq (r:zA×Int):KT:=fun kk I' hs' v=>
  ∃ v0 v1,hs'=[]∧v=tupV [v0,v1]∧(∃ cs,v0=.agg ⟨cs⟩∧Rp.rep I' cs r.1)∧v1=.int .i64 r.2
def kO (a0:zA) (s:Str) (at0:Int):Option (zA×Int):=do
 let b2←sidx s at0
 let sign←(do
   if ((b2.toNat:Int) == 45) then
    pure (-1)
   else
    pure (id 1)
     : Option Int)
 let t27←(do
   let b3←sidx s at0
   if ((b3.toNat:Int) == 45) then
    pure true
   else
    let b4←sidx s at0
    pure ((b4.toNat:Int) == 43)
     : Option Bool)
 let at01←(do
   if t27 then
    pure (W (at0 + 1))
   else
    pure (id at0)
     : Option Int)
 let (y1,y2)←nA s at01
 let t51←(do
   if (decide (y2 > at01)) then
    if (decide (y2 < (s.l.length:Int))) then
     let b5←sidx s y2
     pure ((b5.toNat:Int) == 42)
    else
     pure false
   else
    pure false
     : Option Bool)
 let star←(do
   if t51 then
    pure (W (y2 + 1))
   else
    pure (id y2)
     : Option Int)
 let y3←jE s star
 let l←app 8 ([]:List Int) a0.Coefs
 let t75←(do
   if (decide (y3 ≥ 0)) then
    if (decide (star > y2)) then
     pure true
    else
     pure (y2 == at01)
   else
    pure false
     : Option Bool)
 if t75 then
  let x←idx l y3
  let x1←idx l y3
  let l1←pure (l.set y3.toNat (W (x + (W (sign * y1)))))
  pure ((zA.mk l1 a0.Const),(W (star + 1)))
 else
  if (y2 == at01) then
   pure (a0,(-1))
  else
   pure ((zA.mk l (W (a0.Const + (W (sign * y1))))),y2)
theorem zEL:∀ a0 s at0 r,kO a0 s at0=some r→∀ {I:Imm}{p c},(S4 I p a0.Coefs c)→RT 213 [vA (cAff a0 p c),vT s.l,vI at0] I [] (zCq  r):=by
 intro a0 s at0 r N I p c h;unfold kO at N;refine zX (fn:=Tryz.f213) (c:=(bodyOf Tryz.f213)) Tryz.func213 rfl rfl ?_;rintro B - -;have H:=iS I;refine yK<|tO (cAff a0 p c) ?_;intro b hb;refine wU [z0,vI 0] ?_;intro b1 hb1;refine yB [] []<|wW [(8,vI 1)]<|yG<|yK<|yC 2 [] [(14,vT s.l),(15,vI at0)]<|bE N fun b2 hy N=>eE rfl rfl hy<|yB [] [(17,.bool ((b2.toNat:Int) == 45))]<|zL ?_;obtain ⟨o0,ho0,hMc⟩:=zB N;refine yU (fun I' hs' m'=>∃ (sign:Int),o0=sign∧I.le I'∧hs'=[hB b1 [z0,vI 0],hB b (cAff a0 p c)]∧m'=[(1,vT s.l),(2,vI at0),(3,vP b 0),(6,vP b1 0),(8,vI sign)]) ?_ ?_
 · have H:=iS I;refine yL ho0 ?_ ?_
   · intro hc N;exact zP<|yB [] [(8,vI (-1))]<|yS [(1,vT s.l),(2,vI at0),(3,vP b 0),(6,vP b1 0),(8,vI (-1))]<|zW (ct N H)
   intro hc N;exact zV<|yS [(1,vT s.l),(2,vI at0),(3,vP b 0),(6,vP b1 0),(8,vI 1)]<|zW (ct N H)
 rintro I0 hs2 m2 ⟨sign,heq,le,rfl,rfl⟩;subst o0;have h:=h.mono le;have H:=H.trans le;refine yG<|yI ?_;obtain ⟨o01,ho01,hMc1⟩:=zB hMc;refine yU (fun I' hs' m'=>∃ (t27:Bool),o01=t27∧I0.le I'∧hs'=[hB b1 [z0,vI 0],hB b (cAff a0 p c)]∧m'=[(1,vT s.l),(2,vI at0),(3,vP b 0),(6,vP b1 0),(8,vI sign),(27,.bool t27)]) ?_ ?_
 · have H:=iS I0;refine zP<|yC 2 [] [(18,vT s.l),(19,vI at0)] ?_;obtain ⟨b3,hy1,N⟩:=zB ho01;refine eE rfl rfl hy1<|yC 5 [] [(22,.bool ((b3.toNat:Int) == 45))] ?_;cases hc1:((b3.toNat:Int) == 45) with
   | true =>
    have hM0:=zS hc1 N
    try rw [hc1]
    exact yB [] [(27,vY)]<|yS [(1,vT s.l),(2,vI at0),(3,vP b 0),(6,vP b1 0),(8,vI sign),(27,vY)]<|zW (ct hM0 H)
   | false =>
    have hM01:=zQ hc1 N
    try rw [hc1]
    refine yC 7 [] [(23,vT s.l),(24,vI at0)] ?_;obtain ⟨b4,hy2,N⟩:=zB hM01;exact eE rfl rfl hy2<|yB [] [(27,.bool ((b4.toNat:Int) == 43))]<|yS [(1,vT s.l),(2,vI at0),(3,vP b 0),(6,vP b1 0),(8,vI sign),(27,.bool ((b4.toNat:Int) == 43))]<|zW (ct N H)
 rintro I01 hs2 m2 ⟨t27,heq1,le1,rfl,rfl⟩;subst o01;have h:=h.mono le1;have H:=H.trans le1;refine zL ?_;obtain ⟨o02,ho02,hMc2⟩:=zB hMc1;refine yU (fun I' hs' m'=>∃ (at01:Int),o02=at01∧I01.le I'∧hs'=[hB b1 [z0,vI 0],hB b (cAff a0 p c)]∧m'=[(1,vT s.l),(2,vI at01),(3,vP b 0),(6,vP b1 0),(8,vI sign)]) ?_ ?_
 · have H:=iS I01;refine yL ho02 ?_ ?_
   · intro hc2 N;exact zP<|yB [] [(2,vI (W (at0 + 1)))]<|yS [(1,vT s.l),(2,vI (W (at0 + 1))),(3,vP b 0),(6,vP b1 0),(8,vI sign)]<|zW (ct N H)
   intro hc2 N;exact zV<|yS [(1,vT s.l),(2,vI at0),(3,vP b 0),(6,vP b1 0),(8,vI sign)]<|zW (ct N H)
 rintro I02 hs2 m2 ⟨at01,heq2,le2,rfl,rfl⟩;subst o02;have h:=h.mono le2;have H:=H.trans le2;refine xD<|yC 2 [] [(31,vT s.l),(32,vI at01)] ?_;obtain ⟨⟨y1,y2⟩,hy3,N⟩:=zB hMc2;refine xS (zAB s at01 _ hy3 ) ?_;rintro I03 hs2 v2 k2 le3 - ⟨v0,v01,rfl,rfl,rfl,rfl⟩ -;have h:=h.mono le3;have H:=H.trans le3;refine yB [] [(9,vI y1),(10,vI y2)]<|wW [(11,vI y2)]<|yG<|yI ?_;obtain ⟨o03,ho03,hMc3⟩:=zB N;refine yU (fun I' hs' m'=>∃ (t51:Bool),o03=t51∧I03.le I'∧hs'=[hB b1 [z0,vI 0],hB b (cAff a0 p c)]∧m'=[(1,vT s.l),(2,vI at01),(3,vP b 0),(6,vP b1 0),(8,vI sign),(9,vI y1),(10,vI y2),(11,vI y2),(51,.bool t51)]) ?_ ?_
 · have H:=iS I03;refine zP<|yC 4 [] [(40,.bool (decide (y2 > at01)))] ?_;cases hc3:(decide (y2 > at01)) with
   | true =>
    have hM02:=zS hc3 ho03
    try rw [hc3]
    refine yC 10 [] [(46,.bool (decide (y2 < (s.l.length:Int))))] ?_;cases hc4:(decide (y2 < (s.l.length:Int))) with
    | true =>
     have hM03:=zS hc4 hM02
     try rw [hc4]
     refine yC 12 [] [(47,vT s.l),(48,vI y2)] ?_;obtain ⟨b5,hy4,N⟩:=zB hM03;exact eE rfl rfl hy4<|yB [] [(51,.bool ((b5.toNat:Int) == 42))]<|yS [(1,vT s.l),(2,vI at01),(3,vP b 0),(6,vP b1 0),(8,vI sign),(9,vI y1),(10,vI y2),(11,vI y2),(51,.bool ((b5.toNat:Int) == 42))]<|zW (ct N H)
    | false =>
     have hM04:=zQ hc4 hM02
     try rw [hc4]
     exact yB [] [(51,vF)]<|yS [(1,vT s.l),(2,vI at01),(3,vP b 0),(6,vP b1 0),(8,vI sign),(9,vI y1),(10,vI y2),(11,vI y2),(51,vF)]<|zW (ct hM04 H)
   | false =>
    have hM05:=zQ hc3 ho03
    try rw [hc3]
    exact yB [] [(51,vF)]<|yS [(1,vT s.l),(2,vI at01),(3,vP b 0),(6,vP b1 0),(8,vI sign),(9,vI y1),(10,vI y2),(11,vI y2),(51,vF)]<|zW (ct hM05 H)
 rintro I04 hs2 m2 ⟨t51,heq3,le4,rfl,rfl⟩;subst o03;have h:=h.mono le4;have H:=H.trans le4;refine zL ?_;obtain ⟨o04,ho04,hMc4⟩:=zB hMc3;refine yU (fun I' hs' m'=>∃ (star:Int),o04=star∧I04.le I'∧hs'=[hB b1 [z0,vI 0],hB b (cAff a0 p c)]∧m'=[(1,vT s.l),(2,vI at01),(3,vP b 0),(6,vP b1 0),(8,vI sign),(9,vI y1),(10,vI y2),(11,vI star)]) ?_ ?_
 · have H:=iS I04;refine yL ho04 ?_ ?_
   · intro hc5 N;exact zP<|yB [] [(11,vI (W (y2 + 1)))]<|yS [(1,vT s.l),(2,vI at01),(3,vP b 0),(6,vP b1 0),(8,vI sign),(9,vI y1),(10,vI y2),(11,vI (W (y2 + 1)))]<|zW (ct N H)
   intro hc5 N;exact zV<|yS [(1,vT s.l),(2,vI at01),(3,vP b 0),(6,vP b1 0),(8,vI sign),(9,vI y1),(10,vI y2),(11,vI y2)]<|zW (ct N H)
 rintro I05 hs2 m2 ⟨star,heq4,le5,rfl,rfl⟩;subst o04;have h:=h.mono le5;have H:=H.trans le5;refine xD<|yC 2 [] [(54,vT s.l),(55,vI star)] ?_;obtain ⟨y3,hy5,N⟩:=zB hMc4;refine kI (zEy s star _ hy5 ) ?_;intro I06 le6;have h:=h.mono le6;have H:=H.trans le6;refine yB [] [(12,vI y3)]<|yG<|bE N fun l hy6 N=>vC [.x (fun I' v hx=>∃ b6,v=vS (some ⟨b6,0,none⟩) ([]:List Int) 0∧hx=[hO Int (vS (some ⟨b6,0,none⟩) ([]:List Int) 0) []]∧(RL I' [] ([]:List Int))),.p (vP b 0) [],.p (vS p a0.Coefs c) [1],.x (fun I' v hx=>∃ p1 c1 cs,v=vS p1 l c1∧hx=[hO Int (vS p1 l c1) cs]∧(RL I' cs l)),.p (vP b 1) [],.p (vI a0.Const) [1],.x (fun I' v hx=>∃ p11 c11 cs1,v=vA [vS p11 l c11,vI a0.Const]∧hx=[hO Int (vS p11 l c11) cs1]∧(RL I' cs1 l)),.x (fun I' v hx=>∃ b7,v=vP b7 0∧hx=[hB b7 [z0,vI 0]])] [[],[],[(1,false)],[(0,true),(2,false)],[],[(4,false)],[(3,true),(5,false)],[]] [hB b1 [z0,vI 0],hB b (cAff a0 p c)] [] [(6,true),(7,true)] (yD [0,1]) ?_ ?_
 · refine Ox ?_<|Op<|Op<|Ox ?_<|Op<|Op<|Ox ?_<|Ox ?_<|On
   · intro I1 hf le1;refine yR []<|xU [] Int ?_;intro b6 hb2;have h4:RL I1 [] ([]:List Int):=rfl;exact yP [hO Int (vS (some ⟨b6,0,none⟩) ([]:List Int) 0) []] iR ⟨_,rfl,rfl,h4⟩
   · intro I1 hf le1;refine zF ?_;rintro _ _ ⟨b6,rfl,rfl,h4⟩;refine yR [(57,vS (some ⟨b6,0,none⟩) ([]:List Int) 0),(59,vS p a0.Coefs c)] ?_;have h:=h.mono le1;obtain ⟨ccs,k0,k01⟩:=h;have h:SL I1 (vS p a0.Coefs c) a0.Coefs:=⟨_,k0,k01⟩;exact qI 3 1 0 rfl rfl rfl h4 (.inl k0) k01 hy6 fun p1 c1 cs h5=>vJ (hs':=(hO Int (vS p1 l c1) cs::hB b1 [z0,vI 0]::hB b (cAff a0 p c)::hf)) rfl<|yP [hO Int (vS p1 l c1) cs] iR ⟨_,_,_,rfl,rfl,h5⟩
   · intro I1 hf le1;refine zF ?_;rintro _ _ ⟨p1,c1,cs,rfl,rfl,h5⟩;exact yR [(60,vS p1 l c1),(62,vI a0.Const)]<|pM 7 [(63,vA [vS p1 l c1,vI a0.Const])]<|yP [hO Int (vS p1 l c1) cs] iR ⟨_,_,_,rfl,rfl,h5⟩
   intro I1 hf le1;refine yR []<|wU [z0,vI 0] ?_;intro b7 hb3;exact yP [hB b7 [z0,vI 0]] iR ⟨_,rfl,rfl⟩
 intro I07 le7;refine zF ?_;rintro _ _ ⟨p11,c11,cs1,rfl,rfl,h51⟩;refine zF ?_;rintro _ _ ⟨b7,rfl,rfl⟩;refine yR [(2,vI at01),(3,vP b 0),(6,vP b1 0),(8,vI sign),(9,vI y1),(10,vI y2),(11,vI star),(12,vI y3),(13,vP b7 0),(63,vA [vS p11 l c11,vI a0.Const])] ?_;have h:=h.mono le7;have H:=H.trans le7;refine xB 0 [vS p11 l c11,vI a0.Const] [hB b7 [vS p11 l c11,vI a0.Const],hO Int (vS p11 l c11) cs1,hB b1 [z0,vI 0],hB b (cAff a0 p c)] rfl rfl rfl rfl<|yH rfl<|yG<|yI ?_;obtain ⟨o05,ho05,hMc5⟩:=zB N;refine yU (fun I' hs' m'=>∃ (t75:Bool),o05=t75∧I07.le I'∧hs'=[hB b7 [vS p11 l c11,vI a0.Const],hO Int (vS p11 l c11) cs1,hB b1 [z0,vI 0],hB b (cAff a0 p c)]∧m'=[(2,vI at01),(3,vP b 0),(6,vP b1 0),(8,vI sign),(9,vI y1),(10,vI y2),(11,vI star),(12,vI y3),(13,vP b7 0),(75,.bool t75)]) ?_ ?_
 · have H:=iS I07;refine zP<|yC 3 [] [(66,.bool (decide (y3 ≥ 0)))] ?_;cases hc6:(decide (y3 ≥ 0)) with
   | true =>
    have hM06:=zS hc6 ho05
    try rw [hc6]
    refine yC 7 [] [(70,.bool (decide (star > y2)))] ?_;cases hc7:(decide (star > y2)) with
    | true =>
     have hM07:=zS hc7 hM06
     try rw [hc7]
     exact yB [] [(75,vY)]<|yS [(2,vI at01),(3,vP b 0),(6,vP b1 0),(8,vI sign),(9,vI y1),(10,vI y2),(11,vI star),(12,vI y3),(13,vP b7 0),(75,vY)]<|zW (ct hM07 H)
    | false =>
     have hM08:=zQ hc7 hM06
     try rw [hc7]
     exact yB [] [(75,.bool (y2 == at01))]<|yS [(2,vI at01),(3,vP b 0),(6,vP b1 0),(8,vI sign),(9,vI y1),(10,vI y2),(11,vI star),(12,vI y3),(13,vP b7 0),(75,.bool (y2 == at01))]<|zW (ct hM08 H)
   | false =>
    have hM09:=zQ hc6 ho05
    try rw [hc6]
    exact yB [] [(75,vF)]<|yS [(2,vI at01),(3,vP b 0),(6,vP b1 0),(8,vI sign),(9,vI y1),(10,vI y2),(11,vI star),(12,vI y3),(13,vP b7 0),(75,vF)]<|zW (ct hM09 H)
 rintro I08 hs2 m2 ⟨t75,heq5,le8,rfl,rfl⟩;subst o05;have h51:=iM le8 h51;have h:=h.mono le8;refine zL<|yL hMc5 ?_ ?_
 · intro hc8 N;refine yI<|bE N fun x hy7 N=>vC [.p (vP b7 0) [],.p (vS p11 l c11) [0],.p (vI y3) [],.p (vP b7 0) [],.p (vS p11 l c11) [0],.p (vI y3) [],.x (fun I' v hx=>∃ ad,v=.pointer (some ad)∧hx=[]∧(AtO (vS p11 l c11) (Rp.sz Int) y3.toNat ad)∧((cs1.drop (y3.toNat * Rp.sz Int)).take (Rp.sz Int)=[vI x])),.q (vI x),.p (vI sign) [],.p (vI y1) [],.p (vI (W (sign * y1))) [],.p (vI (W (x + (W (sign * y1))))) []] [[],[(0,false)],[],[],[(3,false)],[],[(4,false),(5,false)],[(6,false)],[],[],[(8,false),(9,false)],[(7,false),(10,false)]] [hB b7 [vS p11 l c11,vI a0.Const],hO Int (vS p11 l c11) cs1,hB b1 [z0,vI 0],hB b (cAff a0 p c)] [] [(1,false),(2,false),(11,false)] (yD [0,1,2,3]) ?_ ?_
   · refine Op<|Op<|Op<|Op<|Op<|Op<|Ox ?_<|Oq ?_<|Op<|Op<|Op<|Op<|On
     · intro I1 hf le1;refine yR [(80,vS p11 l c11),(81,vI y3)] ?_;have h51:=iM le1 h51;refine oU 1 rfl rfl rfl h51 hy7 ?_;intro ad ccs1 hat hcc hrep;obtain rfl:=hrep;exact yP [] iR ⟨_,rfl,rfl,hat,hcc⟩
     intro I1 hf le1;refine zF ?_;rintro _ _ ⟨ad,rfl,rfl,hat,hcc⟩;exact yR [(82,.pointer (some ad))]<|zC3 1 0 hat hcc [vI x] (vI x) rfl rfl<|xI iR
   intro I09 le9;refine yR [(6,vP b1 0),(11,vI star),(13,vP b7 0),(77,vS p11 l c11),(78,vI y3),(87,vI (W (x + (W (sign * y1)))))] ?_;have h51:=iM le9 h51;obtain ⟨x1,hy8,N⟩:=zB N;refine oU 1 rfl rfl rfl h51 hy8 ?_;intro ad1 ccs2 hat1 hcc1 hrep1;obtain rfl:=hrep1;obtain ⟨l1,hy9,N⟩:=zB N;refine tT (c:=[vI (W (x + (W (sign * y1))))]) (x':=(W (x + (W (sign * y1))))) 1 0 rfl rfl rfl hat1 rfl rfl hcc1 (by kernel_rfl) (by kernel_rfl) (by kernel_rfl) h51 hy8 (by kernel_rfl) rfl ?_;rw [show l.set y3.toNat (W (x + (W (sign * y1))))=l1 from zC hy9];intro cs2 h6 hl0;refine mA (m':=[(6,vP b1 0),(11,vI star),(13,vP b7 0),(77,vS p11 l c11),(78,vI y3),(87,vI (W (x + (W (sign * y1)))))]) ⟨rfl,rfl,rfl,rfl,rfl,rfl,trivial⟩<|dE (hs':=[hB b7 [vS p11 l1 c11,vI a0.Const],hO Int (vS p11 l1 c11) cs2,hB b1 [z0,vI 0],hB b (cAff a0 p c)]) (m':=[(6,vP b1 0),(11,vI star),(13,vP b7 0),(77,vS p11 l1 c11),(78,vI y3),(87,vI (W (x + (W (sign * y1)))))]) (by first | rfl | simp only [vS,hl0,List.nil_append,List.cons_append,List.set_cons_zero,List.set_cons_succ,List.eraseIdx_cons_zero,List.eraseIdx_cons_succ]) (by first | rfl | simp only [vS,hl0])<|yH rfl<|xD<|yC 3 [0] [(89,vA [vS p11 l1 c11,vI a0.Const]),(91,vI (W (star + 1)))]<|xB 2 [vS p11 l1 c11,vI a0.Const] [hB b7 [vS p11 l1 c11,vI a0.Const],hO Int (vS p11 l1 c11) cs2,hB b1 [vS p11 l1 c11,vI a0.Const],hB b (cAff a0 p c)] rfl rfl rfl rfl<|yB [] [(7,vI (W (star + 1)))]<|xP<|zN<|xA 1 rfl ?_;intro I010 le10 hl01;have h7:=SL.of_frozen hl01 le10 h6;obtain rfl:=zC N;exact xF ⟨_,_,(.cell 1 rfl rfl (by kernel_rfl) (.tmp rfl ResV.nil)),zT,⟨_,_,rfl,rfl,⟨_,rfl,(yN ⟨_,rfl,h7⟩)⟩,rfl⟩⟩
 intro hc8 N;refine zV<|yG<|yF [(94,.bool (y2 == at01))]<|zL<|yL N ?_ ?_
 · intro hc9 N;refine yK<|yC 1 [3] [(95,vA (cAff a0 p c))]<|xB 2 (cAff a0 p c) [hB b7 [vS p11 l c11,vI a0.Const],hO Int (vS p11 l c11) cs1,hB b1 (cAff a0 p c),hB b (cAff a0 p c)] rfl rfl rfl rfl<|yB [] [(7,vI (-1))]<|xP<|zN ?_;obtain rfl:=zC N;exact xF ⟨_,_,(.cell 2 rfl rfl (by kernel_rfl) (.tmp rfl ResV.nil)),zT,⟨_,_,rfl,rfl,⟨_,rfl,(yN ⟨_,rfl,h⟩)⟩,rfl⟩⟩
 intro hc9 N;refine zV<|xD<|yC 7 [0] [(101,vI (W (a0.Const + (W (sign * y1))))),(102,vP b7 1)]<|xB 0 [vS p11 l c11,vI (W (a0.Const + (W (sign * y1))))] [hB b7 [vS p11 l c11,vI (W (a0.Const + (W (sign * y1))))],hO Int (vS p11 l c11) cs1,hB b1 [z0,vI 0],hB b (cAff a0 p c)] rfl rfl rfl rfl<|yH rfl<|xD<|yC 2 [0] [(103,vA [vS p11 l c11,vI (W (a0.Const + (W (sign * y1))))]),(104,vI y2)]<|xB 2 [vS p11 l c11,vI (W (a0.Const + (W (sign * y1))))] [hB b7 [vS p11 l c11,vI (W (a0.Const + (W (sign * y1))))],hO Int (vS p11 l c11) cs1,hB b1 [vS p11 l c11,vI (W (a0.Const + (W (sign * y1))))],hB b (cAff a0 p c)] rfl rfl rfl rfl<|yB [] [(7,vI y2)]<|xP<|xA 1 rfl ?_;intro I011 le11 hl02;have h8:=SL.of_frozen hl02 le11 h51;obtain rfl:=zC N;exact xF ⟨_,_,(.cell 1 rfl rfl (by kernel_rfl) (.tmp rfl ResV.nil)),zT,⟨_,_,rfl,rfl,⟨_,rfl,(yN ⟨_,rfl,h8⟩)⟩,rfl⟩⟩
def tD (r:Str):KT:=fun kk I' hs' v=>
  ∃ v0,hs'=[]∧v=tupV [v0]∧v0=.string ⟨⟨r.l⟩⟩
def qW (n01:Int) (out:Str):Option ((Int×Str)):=do
 if (decide (n01 > 9)) then
  let s1←cat (⟨([(u8 (W (48 + (n01.tmod 10))))]:List UInt8)⟩:Str) out
  qW (W (n01.tdiv 10)) s1
 else
  pure (n01,out)
 partial_fixpoint
theorem zCr :∀ (n01:Int) (out:Str) (o:(Int×Str)),qW n01 out=some o→∀ {B}{I0 I:Imm}{Q}  ,I0.le I→NG Q→NO Q→(∀ (I':Imm) (n02:Int) (out1:Str),o=(n02,out1)→I0.le I'→T 31 B Q (.exit 0) I' [] [(0,vI n02),(3,vT out1.l)])→J Tryz.prog 31 B (nav (bodyOf Tryz.f189) [1,1,1,1,0,0]) Q I [] [(0,vI n01),(3,vT out.l)]:=by
 refine qW.partial_correctness  _ fun self ih n01 out o N B I0 I Q H hg ho hx=>yW hg ho<|yI<|yF [(13,.bool (decide (n01 > 9)))]<|zL<|yL N ?_ ?_
 · intro hc2 N;refine zV<|wD<|yK<|yC 3 [] [(16,vI (W (48 + (n01.tmod 10))))]<|zKv (d:=17) (i:=(W (48 + (n01.tmod 10)))) rfl (by kernel_rfl)<|xU [.int .u8 ((u8 (W (48 + (n01.tmod 10)))).toNat:Int)] UInt8 ?_;intro b hb;have h1:RL I [.int .u8 ((u8 (W (48 + (n01.tmod 10)))).toNat:Int)] ([(u8 (W (48 + (n01.tmod 10))))]:List UInt8):=⟨[.int .u8 ((u8 (W (48 + (n01.tmod 10)))).toNat:Int)],_,rfl,rfl,rfl,rfl⟩;exact zHy (l:=([(u8 (W (48 + (n01.tmod 10))))]:List UInt8)) rfl rfl rfl rfl (by kernel_rfl) (by kernel_rfl) (.inr ⟨0,rfl⟩) h1<|yC 7 [] [(20,vT out.l)]<|bE N fun s1 hy2 N=>mB rfl hy2<|yB [] [(3,vT s1.l)]<|zL<|zP<|yB [] [(0,vI (W (n01.tdiv 10)))]<|zR<|yT<|rM zT<|wN [(0,vI (W (n01.tdiv 10))),(3,vT s1.l)]<|ih (W (n01.tdiv 10)) s1 _ N H  hg ho hx
 intro hc2 N;exact vD<|yS [(0,vI n01),(3,vT out.l)]<|hx _ _ _ (zC N).symm H
def sY (n0:Int):Option (Str):=do
 if (decide (n0 < (-9223372036854775807))) then
  pure (⟨[45,57,50,50,51,51,55,50,48,51,54,56,53,52,55,55,53,56,48,56]⟩:Str)
 else
  if (decide (n0 < 0)) then
   let y←sY (W (0 - n0))
   let s←cat (⟨[45]⟩:Str) y
   pure (id s)
  else
   let (n02,out1)←qW n0 (⟨[]⟩:Str)
   let s2←cat (⟨([(u8 (W (48 + n02)))]:List UInt8)⟩:Str) out1
   pure (id s2)
 partial_fixpoint
theorem jV:∀ n0 r,sY n0=some r→∀ {I:Imm} ,RT 189 [vI n0] I [] (tD  r):=by
 refine sY.partial_correctness _ fun F_spec_l16Dec ih_spec_l16Dec n0 r N I=>zX (fn:=Tryz.f189) (c:=(bodyOf Tryz.f189)) Tryz.func189 rfl rfl ?_;rintro B - -;refine yF []<|yG<|yF [(5,.bool (decide (n0 < (-9223372036854775807))))]<|zL<|yL N ?_ ?_
 · intro hc N;refine yF [(2,vT ([45,57,50,50,51,51,55,50,48,51,54,56,53,52,55,55,53,56,48,56]))]<|xP<|zN ?_;obtain rfl:=zC N;exact uM
 intro hc N;refine zV<|yG<|yF [(7,.bool (decide (n0 < 0)))]<|zL<|yL N ?_ ?_
 · intro hc1 N;refine yK<|yC 2 [] [(9,vI (W (0 - n0)))]<|bE N fun y hy N=>xS (ih_spec_l16Dec (W (0 - n0)) _ hy ) ?_;rintro I0 hs2 v2 k2 le - ⟨v0,rfl,rfl,rfl⟩ -;obtain ⟨s,hy1,N⟩:=zB N;refine mB rfl hy1<|yB [] [(2,vT s.l)]<|xP<|zN ?_;obtain rfl:=zC N;exact uM
 intro hc1 N;refine zV<|wW [(3,vT ([]))]<|yG<|yM<|wN [(0,vI n0),(3,vT ([]))] ?_;obtain ⟨o0,ho0,hMl⟩:=zB N;refine zCr n0 (⟨[]⟩:Str) o0 ho0 iR  (fun _ _ _ h=>h) (fun _ _ h=>h) ?_;intro I01 n02 out1 heq le1;subst o0;refine zU<|xD<|yC 2 [] [(25,vI (W (48 + n02)))]<|zKv (d:=26) (i:=(W (48 + n02))) rfl (by kernel_rfl)<|xU [.int .u8 ((u8 (W (48 + n02))).toNat:Int)] UInt8 ?_;intro b1 hb1;have h2:RL I01 [.int .u8 ((u8 (W (48 + n02))).toNat:Int)] ([(u8 (W (48 + n02)))]:List UInt8):=⟨[.int .u8 ((u8 (W (48 + n02))).toNat:Int)],_,rfl,rfl,rfl,rfl⟩;refine zHy (l:=([(u8 (W (48 + n02)))]:List UInt8)) rfl rfl rfl rfl (by kernel_rfl) (by kernel_rfl) (.inr ⟨0,rfl⟩) h2<|yC 6 [] [(29,vT out1.l)] ?_;obtain ⟨s2,hy3,N⟩:=zB hMl;refine mB rfl hy3<|yB [] [(2,vT s2.l)]<|zL<|xG ?_;obtain rfl:=zC N;exact uM
def kH (n0:Int) (name:Str):Option (Str):=do
 let (n01,sign)←(do
   if (decide (n0 < 0)) then
    pure ((W (0 - n0)),(⟨[45]⟩:Str))
   else
    pure (n0,(⟨[43]⟩:Str))
     : Option (Int×Str))
 if (name.l == ([]:List UInt8)) then
  let y←sY n01
  let s←cat sign y
  pure (id s)
 else
  if (n01 == 1) then
   let s1←cat sign name
   pure (id s1)
  else
   let y1←sY n01
   let s2←cat sign y1
   let s3←cat s2 (⟨[42]⟩:Str)
   let s4←cat s3 name
   pure (id s4)
theorem zBE:∀ n0 name r,kH n0 name=some r→∀ {I:Imm} ,RT 221 [vI n0,vT name.l] I [] (tD  r):=by
 intro n0 name r N I;unfold kH at N;refine zX (fn:=Tryz.f221) (c:=(bodyOf Tryz.f221)) Tryz.func221 rfl rfl ?_;rintro B - -;have H:=iS I;refine yF []<|wW [(5,vT ([43]))]<|yG<|yF [(7,.bool (decide (n0 < 0)))]<|zL ?_;obtain ⟨o0,ho0,hMc⟩:=zB N;refine yU (fun I' hs' m'=>∃ (n01:Int) (sign:Str),o0=(n01,sign)∧I.le I'∧hs'=[]∧m'=[(0,vI n01),(1,vT name.l),(5,vT sign.l)]) ?_ ?_
 · have H:=iS I;refine yL ho0 ?_ ?_
   · intro hc N;exact yF [(5,vT ([45]))]<|zL<|zP<|yB [] [(0,vI (W (0 - n0)))]<|yS [(0,vI (W (0 - n0))),(1,vT name.l),(5,vT ([45]))]<|zW ⟨_,_,(zC N).symm,H,rfl,rfl⟩
   intro hc N;exact zV<|yS [(0,vI n0),(1,vT name.l),(5,vT ([43]))]<|zW ⟨_,_,(zC N).symm,H,rfl,rfl⟩
 rintro I0 hs2 m2 ⟨n01,sign,heq,le,rfl,rfl⟩;subst o0;refine yG<|yF [(11,.bool (name.l == ([]:List UInt8)))]<|zL<|yL hMc ?_ ?_
 · intro hc1 N;refine yK<|yC 2 [] [(12,vT sign.l),(13,vI n01)]<|bE N fun y hy N=>xS (jV n01 _ hy ) ?_;rintro I01 hs2 v2 k2 le1 - ⟨v0,rfl,rfl,rfl⟩ -;obtain ⟨s,hy1,N⟩:=zB N;refine mB rfl hy1<|yB [] [(4,vT s.l)]<|xP<|zN ?_;obtain rfl:=zC N;exact uM
 intro hc1 N;refine zV<|yG<|yF [(17,.bool (n01 == 1))]<|zL<|yL N ?_ ?_
 · intro hc2 N;refine yK<|yC 2 [] [(18,vT sign.l),(19,vT name.l)]<|bE N fun s1 hy2 N=>mB rfl hy2<|yB [] [(4,vT s1.l)]<|xP<|zN ?_;obtain rfl:=zC N;exact uM
 intro hc2 N;refine zV<|xD<|yC 2 [] [(21,vT sign.l),(22,vI n01)]<|bE N fun y1 hy3 N=>xS (jV n01 _ hy3 ) ?_;rintro I02 hs2 v2 k2 le2 - ⟨v01,rfl,rfl,rfl⟩ -;obtain ⟨s2,hy4,N⟩:=zB N;refine mB rfl hy4<|bE N fun s3 hy5 N=>mB rfl hy5<|yC 6 [] [(26,vT name.l)]<|bE N fun s4 hy6 N=>mB rfl hy6<|yB [] [(4,vT s4.l)]<|zL<|xG ?_;obtain rfl:=zC N;exact uM
def qX (a0:zA) (out:Str) (i:Int):Option (Str):=do
 if (decide (i < (a0.Coefs.length:Int))) then
  let x←idx a0.Coefs i
  let out2←(do
    if (x != 0) then
     let x1←idx a0.Coefs i
     let s←sslc (⟨[105,106,107,108]⟩:Str) i (W (i + 1))
     let y←kH x1 s
     let s1←cat out y
     pure (id s1)
    else
     pure (id out)
      : Option Str)
  qX a0 out2 (W (i + 1))
 else
  pure (id out)
 partial_fixpoint
theorem zCs (a0:zA):∀ (out:Str) (i:Int) (o:Str),qX a0 out i=some o→∀ {B}{I0 I:Imm}{Q p c}{b:Nat},I0.le I→(S4 I p a0.Coefs c)→NG Q→NO Q→(∀ (I':Imm) (out1:Str),o=out1→I0.le I'→T 46 B Q (.exit 0) I' [hB b (cAff a0 p c)] [(1,vP b 0),(3,vT out1.l)])→J Tryz.prog 46 B (nav (bodyOf Tryz.f211) [1,1,0,1,0]) Q I [hB b (cAff a0 p c)] [(1,vP b 0),(3,vT out.l),(4,vI i)]:=by
 refine qX.partial_correctness a0 _ fun self ih out i o N B I0 I Q p c b H h hg ho hx=>yW hg ho<|yI<|yK<|yB [0] [(9,.bool (decide (i < (a0.Coefs.length:Int))))]<|zL<|yL N ?_ ?_
 · intro hc N;refine zV<|yG<|yM<|yK<|yC 3 [0] [(13,vS p a0.Coefs c),(14,vI i)]<|bE N fun x hy N=>xR rfl rfl h hy ?_;intro ad ccs hat hrep;obtain rfl:=hrep;refine xN 0 hat [vI x] (vI x) rfl<|yB [] [(17,.bool (x != 0))]<|zL ?_;obtain ⟨o0,ho0,hMc⟩:=zB N;refine yU (fun I' hs' m'=>∃ (out2:Str),o0=out2∧I.le I'∧hs'=[hB b (cAff a0 p c)]∧m'=[(1,vP b 0),(3,vT out2.l),(4,vI i)]) ?_ ?_
   · have H:=iS I;refine yL ho0 ?_ ?_
     · intro hc1 N;obtain ⟨x1,hy1,N⟩:=zB N;obtain ⟨s,hy2,N⟩:=zB N;obtain ⟨y,hy3,N⟩:=zB N;obtain ⟨s1,hy4,N⟩:=zB N;refine vC [.p (vT out.l) [],.p (vP b 0) [],.p (vS p a0.Coefs c) [0],.p (vI i) [],.x (fun I' v hx=>∃ ad1,v=.pointer (some ad1)∧hx=[]∧(At I' ad1 [vI x1])),.q (vI x1),.p (vI i) [],.p (vI i) [],.p (vI (W (i + 1))) [],.q (vT s.l),.q (vT y.l),.q (vT s1.l)] [[],[],[(1,false)],[],[(2,false),(3,false)],[(4,false)],[],[],[(7,false)],[(6,false),(8,false)],[(5,false),(9,false)],[(0,false),(10,false)]] [hB b (cAff a0 p c)] [] [(11,false)] (yD [0]) ?_ ?_
       · refine Op<|Op<|Op<|Op<|Ox ?_<|Oq ?_<|Op<|Op<|Op<|Oq ?_<|Oq ?_<|Oq ?_<|On
         · intro I1 hf le1;refine yR [(20,vS p a0.Coefs c),(21,vI i)] ?_;have h:=h.mono le1;refine xR rfl rfl h hy1 ?_;intro ad1 ccs1 hat1 hrep1;obtain rfl:=hrep1;exact yP [] iR ⟨_,rfl,rfl,hat1⟩
         · intro I1 hf le1;refine zF ?_;rintro _ _ ⟨ad1,rfl,rfl,hat1⟩;exact yR [(22,.pointer (some ad1))]<|xN 0 hat1 [vI x1] (vI x1) rfl<|xI iR
         · intro I1 hf le1;exact yR [(24,vI i),(26,vI (W (i + 1)))]<|zF9 rfl hy2<|xI iR
         · intro I1 hf le1;refine yR [(23,vI x1),(27,vT s.l)] ?_;have H:=iS I1;refine xS (zBE x1 s _ hy3 ) ?_;rintro I01 hs2 v2 k2 le - ⟨v0,rfl,rfl,rfl⟩ -;have H:=H.trans le;exact xI H
         intro I1 hf le1;exact yR [(18,vT out.l),(28,vT y.l)]<|mB rfl hy4<|xI iR
       intro I02 le1;refine yR [(1,vP b 0),(4,vI i),(29,vT s1.l)] ?_;have H:=H.trans le1;exact yB [] [(3,vT s1.l)]<|yS [(1,vP b 0),(3,vT s1.l),(4,vI i)]<|zW (ct N H)
     intro hc1 N;exact zV<|yS [(1,vP b 0),(3,vT out.l),(4,vI i)]<|zW (ct N H)
   rintro I0 hs2 m2 ⟨out2,heq,le2,rfl,rfl⟩;subst o0;have h:=h.mono le2;have H:=H.trans le2;exact zR<|zL<|zP<|yB [] [(4,vI (W (i + 1)))]<|yT<|wN [(1,vP b 0),(3,vT out2.l),(4,vI (W (i + 1)))]<|ih out2 (W (i + 1)) _ hMc H h hg ho hx
 intro hc N;exact vD<|yS [(1,vP b 0),(3,vT out.l)]<|hx _ _ (zC N).symm H
def nR (a0:zA):Option (Str):=do
 let out1←qX a0 (⟨[]⟩:Str) 0
 let out3←(do
   if (a0.Const != 0) then
    let y1←kH a0.Const (⟨[]⟩:Str)
    let s2←cat out1 y1
    pure (id s2)
   else
    pure (id out1)
     : Option Str)
 if (out3.l == ([]:List UInt8)) then
  pure (⟨[48]⟩:Str)
 else
  let s3←sslc out3 0 1
  if (s3.l == ([43]:List UInt8)) then
   let s4←sslc out3 1 (out3.l.length:Int)
   pure (id s4)
  else
   pure (id out3)
theorem fX:∀ a0 r,nR a0=some r→∀ {I:Imm}{p c},(S4 I p a0.Coefs c)→RT 211 [vA (cAff a0 p c)] I [] (tD  r):=by
 intro a0 r N I p c h;unfold nR at N;refine zX (fn:=Tryz.f211) (c:=(bodyOf Tryz.f211)) Tryz.func211 rfl rfl ?_;rintro B - -;have H:=iS I;refine yK<|tO (cAff a0 p c) ?_;intro b hb;refine yB [] []<|wW [(3,vT ([]))]<|yG<|yF [(4,vI 0)]<|wD<|wN [(1,vP b 0),(3,vT ([])),(4,vI 0)] ?_;obtain ⟨o01,ho01,hMl⟩:=zB N;refine zCs a0 (⟨[]⟩:Str) 0 o01 ho01 iR h (fun _ _ _ h=>h) (fun _ _ h=>h) ?_;intro I03 out1 heq1 le3;subst o01;have H:=H.trans le3;refine zU<|yG<|yK<|yB [0] [(32,.bool (a0.Const != 0))]<|zL ?_;obtain ⟨o02,ho02,hMc1⟩:=zB hMl;refine yU (fun I' hs' m'=>∃ (out3:Str),o02=out3∧I03.le I'∧hs'=[]∧m'=[(3,vT out3.l)]) ?_ ?_
 · have H:=iS I03;refine yL ho02 ?_ ?_
   · intro hc2 N;refine zP<|yC 3 [0] [(33,vT out1.l),(35,vI a0.Const)]<|bE N fun y1 hy5 N=>xS (zBE a0.Const (⟨[]⟩:Str) _ hy5 ) ?_;rintro I05 hs2 v2 k2 le4 - ⟨v01,rfl,rfl,rfl⟩ -;have H:=H.trans le4;obtain ⟨s2,hy6,N⟩:=zB N;exact mB rfl hy6<|yB [] [(3,vT s2.l)]<|wC zT<|yS [(3,vT s2.l)]<|zW (ct N H)
   intro hc2 N;exact zV<|wC zT<|yS [(3,vT out1.l)]<|zW (ct N H)
 rintro I04 hs2 m2 ⟨out3,heq2,le5,rfl,rfl⟩;subst o02;refine yG<|yF [(39,.bool (out3.l == ([]:List UInt8)))]<|zL<|yL hMc1 ?_ ?_
 · intro hc3 N;refine yF [(2,vT ([48]))]<|xP<|zN ?_;obtain rfl:=zC N;exact uM
 intro hc3 N;refine zV<|yG<|yK<|yC 1 [] [(40,vT out3.l)]<|bE N fun s3 hy7 N=>zF9 rfl hy7<|yB [] [(42,.bool (s3.l == ([43]:List UInt8)))]<|zL<|yL N ?_ ?_
 · intro hc4 N;refine yK<|yC 1 [] [(43,vT out3.l)]<|bE N fun s4 hy8 N=>zF9 rfl hy8<|yB [] [(2,vT s4.l)]<|xP<|zN ?_;obtain rfl:=zC N;exact uM
 intro hc4 N;refine zV<|wW [(2,vT out3.l)]<|zL<|xG ?_;obtain rfl:=zC N;exact uM
def oE (a0:zA):Option (Str):=do
 let y←vU a0
 if (!y) then
  pure (⟨[]⟩:Str)
 else
  let y1←nR a0
  pure (id y1)
theorem zBF:∀ a0 r,oE a0=some r→∀ {I:Imm}{p c},(S4 I p a0.Coefs c)→RT 214 [vA (cAff a0 p c)] I [] (tD  r):=by
 intro a0 r N I p c h;unfold oE at N;refine zX (fn:=Tryz.f214) (c:=(bodyOf Tryz.f214)) Tryz.func214 rfl rfl ?_;rintro B - -;refine yK<|tO (cAff a0 p c) ?_;intro b hb;refine yB [] []<|yG<|yK<|yC 1 [0] [(3,vA (cAff a0 p c))]<|bE N fun y hy N=>tQ (nW a0 _ hy h) ?_;intro I0 le;have h:=h.mono le;refine yB [] [(5,.bool (!y))]<|zL<|yL N ?_ ?_
 · intro hc N;refine yF [(2,vT ([]))]<|xP<|zN ?_;obtain rfl:=zC N;exact uM
 intro hc N;refine zV<|xD<|yC 1 [0] [(6,vA (cAff a0 p c))]<|bE N fun y1 hy1 N=>xS (fX a0 _ hy1 h) ?_;rintro I01 hs2 v2 k2 le1 - ⟨v01,rfl,rfl,rfl⟩ -;refine yB [] [(2,vT y1.l)]<|zL<|xG ?_;obtain rfl:=zC N;exact uM
def zAf (r:zA×Bool):KT:=fun kk I' hs' v=>
  ∃ v0 v1,hs'=[]∧v=tupV [v0,v1]∧(∃ cs,v0=.agg ⟨cs⟩∧Rp.rep I' cs r.1)∧v1=.bool r.2
def sV (text:Str) (at0:Int) (x:zA):Option (zA):=do
 let t18←(do
   if (decide (at0 ≥ 0)) then
    pure (decide (at0 < (text.l.length:Int)))
   else
    pure false
     : Option Bool)
 if t18 then
  let (y2,y3)←kO x text at0
  sV text y3 y2
 else
  pure (id x)
 partial_fixpoint
theorem zAT (text:Str):∀ (at0:Int) (x:zA) (o:zA),sV text at0 x=some o→∀ {B}{I0 I:Imm}{Q}  {b:Nat}{b1:Nat}{p1 c1},I0.le I→(S4 I p1 x.Coefs c1)→NG Q→NO Q→(∀ (I':Imm) (x1:zA) (p2:Option Addr) (c2:Nat),o=x1→I0.le I'→(S4 I' p2 x1.Coefs c2)→T 32 B Q (.exit 0) I' [hB b1 (cAff x1 p2 c2),hB b [z0,vI 0]] [(0,vT text.l),(2,vP b 0),(4,vP b1 0)])→J Tryz.prog 32 B (nav (bodyOf Tryz.f200) [1,1,1,1,0,0]) Q I [hB b1 (cAff x p1 c1),hB b [z0,vI 0]] [(0,vT text.l),(2,vP b 0),(4,vP b1 0),(5,vI at0)]:=by
 refine sV.partial_correctness text _ fun self ih at0 x o N B I0 I Q b b1 p1 c1 H h2 hg ho hx=>yW hg ho<|yI<|yI ?_;obtain ⟨o0,ho0,hMc⟩:=zB N;refine yU (fun I' hs' m'=>∃ (t18:Bool),o0=t18∧I.le I'∧hs'=[hB b1 (cAff x p1 c1),hB b [z0,vI 0]]∧m'=[(0,vT text.l),(2,vP b 0),(4,vP b1 0),(5,vI at0),(18,.bool t18)]) ?_ ?_
 · have H:=iS I;refine zP<|yC 3 [] [(13,.bool (decide (at0 ≥ 0)))] ?_;cases hc1:(decide (at0 ≥ 0)) with
   | true =>
    have hM0:=zS hc1 ho0
    try rw [hc1]
    exact yB [] [(18,.bool (decide (at0 < (text.l.length:Int))))]<|yS [(0,vT text.l),(2,vP b 0),(4,vP b1 0),(5,vI at0),(18,.bool (decide (at0 < (text.l.length:Int))))]<|zW (ct hM0 H)
   | false =>
    have hM01:=zQ hc1 ho0
    try rw [hc1]
    exact yB [] [(18,vF)]<|yS [(0,vT text.l),(2,vP b 0),(4,vP b1 0),(5,vI at0),(18,vF)]<|zW (ct hM01 H)
 rintro I02 hs2 m2 ⟨t18,heq,le2,rfl,rfl⟩;subst o0;have h2:=h2.mono le2;have H:=H.trans le2;refine zL<|yL hMc ?_ ?_
 · intro hc2 N;refine zV<|wD<|zP<|yC 3 [0] [(20,vA (cAff x p1 c1)),(21,vT text.l),(22,vI at0)] ?_;obtain ⟨⟨y2,y3⟩,hy1,N⟩:=zB N;refine xS (zEL x text at0 _ hy1 h2) ?_;rintro I03 hs2 v2 k2 le3 - ⟨v0,v01,rfl,rfl,⟨cs1,rfl,h4⟩,rfl⟩ -;have H:=H.trans le3;obtain ⟨p3,c3,rfl,h6⟩:=yQ h4;exact yC 7 [] [(24,vA (cAff y2 p3 c3)),(25,vI y3)]<|xB 0 (cAff y2 p3 c3) [hB b1 (cAff y2 p3 c3),hB b [z0,vI 0]] rfl rfl rfl rfl<|yB [] [(5,vI y3)]<|zR<|yT<|wN [(0,vT text.l),(2,vP b 0),(4,vP b1 0),(5,vI y3)]<|ih y3 y2 _ N H h6 hg ho hx
 intro hc2 N;exact vD<|yS [(0,vT text.l),(2,vP b 0),(4,vP b1 0)]<|hx _ _ _ _ (zC N).symm H h2
def qY (text:Str):Option (zA×Bool):=do
 let y←pI
 if (decide ((text.l.length:Int) > 40)) then
  pure ((zA.mk ([]:List Int) 0),false)
 else
  let x1←sV text 0 (zA.mk y.Coefs y.Const)
  let y4←oE x1
  if (!(y4.l == text.l)) then
   pure ((zA.mk ([]:List Int) 0),false)
  else
   pure (x1,true)
theorem fF:∀ text r,qY text=some r→∀ {I:Imm} ,RT 200 [vT text.l] I [] (zAf  r):=by
 intro text r N I;unfold qY at N;refine zX (fn:=Tryz.f200) (c:=(bodyOf Tryz.f200)) Tryz.func200 rfl rfl ?_;rintro B - -;refine yK<|wU [z0,vI 0] ?_;intro b hb;refine yB [] []<|xD<|bE N fun y hy N=>xS (mD  _ hy ) ?_;rintro I0 hs2 v2 k2 le - ⟨p,c,cs,rfl,rfl,h⟩ -;refine wU [z0,vI 0] ?_;intro b1 hb1;refine xB 0 (cAff y p c) [hB b1 (cAff y p c),hO Int (vS p y.Coefs c) cs,hB b [z0,vI 0]] rfl rfl rfl rfl<|yH rfl<|yG<|yF [(9,.bool (decide ((text.l.length:Int) > 40)))]<|zL<|yL N ?_ ?_
 · intro hc N;refine yK<|yC 1 [] [(10,vA [z0,vI 0])]<|xB 2 [z0,vI 0] [hB b1 (cAff y p c),hO Int (vS p y.Coefs c) cs,hB b [z0,vI 0]] rfl rfl rfl rfl<|yB [] [(3,vF)]<|xP<|zN ?_;obtain rfl:=zC N;exact xF ⟨_,_,(.cell 2 rfl rfl (by kernel_rfl) (.tmp rfl ResV.nil)),zT,⟨_,_,rfl,rfl,⟨_,rfl,(yN ⟨_,rfl,(SL.nil _)⟩)⟩,rfl⟩⟩
 intro hc N;refine zV<|wW [(5,vI 0)]<|yG<|yM<|pO 1 rfl ?_;intro I01 le1 hl0;have h1:=SL.of_frozen hl0 le1 h;refine wN [(0,vT text.l),(2,vP b 0),(4,vP b1 0),(5,vI 0)] ?_;obtain ⟨o01,ho01,hMl⟩:=zB N;refine zAT text 0 (zA.mk y.Coefs y.Const) o01 ho01 iR h1 (fun _ _ _ h=>h) (fun _ _ h=>h) ?_;intro I04 x1 p2 c2 heq1 le4 h3;subst o01;refine zU<|yG<|yK<|yC 1 [0] [(26,vA (cAff x1 p2 c2))] ?_;obtain ⟨y4,hy2,N⟩:=zB hMl;refine xS (zBF x1 _ hy2 h3) ?_;rintro I05 hs2 v2 k2 le5 - ⟨v03,rfl,rfl,rfl⟩ -;have h3:=h3.mono le5;refine yB [] [(29,.bool (!(y4.l == text.l)))]<|zL<|yL N ?_ ?_
 · intro hc3 N;refine yK<|yC 1 [] [(30,vA [z0,vI 0])]<|xB 1 [z0,vI 0] [hB b1 (cAff x1 p2 c2),hB b [z0,vI 0]] rfl rfl rfl rfl<|yB [] [(3,vF)]<|xP<|zN ?_;obtain rfl:=zC N;exact xF ⟨_,_,(.cell 1 rfl rfl (by kernel_rfl) (.tmp rfl ResV.nil)),zT,⟨_,_,rfl,rfl,⟨_,rfl,(yN ⟨_,rfl,(SL.nil _)⟩)⟩,rfl⟩⟩
 intro hc3 N;refine zV<|xD<|yC 1 [0] [(31,vA (cAff x1 p2 c2))]<|xB 1 (cAff x1 p2 c2) [hB b1 (cAff x1 p2 c2),hB b (cAff x1 p2 c2)] rfl rfl rfl rfl<|yB [] [(3,vY)]<|zL<|xG ?_;obtain rfl:=zC N;exact xF ⟨_,_,(.cell 1 rfl rfl (by kernel_rfl) (.tmp rfl ResV.nil)),zT,⟨_,_,rfl,rfl,⟨_,rfl,(yN ⟨_,rfl,h3⟩)⟩,rfl⟩⟩
def zAg (r:(List zA)):KT:=fun kk I' hs' v=>
  ∃ v0,hs'=[]∧v=tupV [v0]∧SL I' v0 r
def tK (y:(List Str)) (out:List zA) (i:Int):Option (List zA):=do
 let t18←(do
   if (decide (i < (y.length:Int))) then
    pure (decide (i ≤ 2))
   else
    pure false
     : Option Bool)
 if t18 then
  let x←idx y i
  let (y2,y3)←qY x
  let out2←app 32 out ([y2]:List zA)
  tK y out2 (W (i + 1))
 else
  pure (id out)
 partial_fixpoint
theorem zAU (y:(List Str)):∀ (out:List zA) (i:Int) (o:List zA),tK y out i=some o→∀ {B}{I0 I:Imm}{Q p c p1 c1 cs},I0.le I→(S4 I p y c)→(RL I cs out)→NG Q→NO Q→(∀ (I':Imm) (out1:List zA) (p2:Option Addr) (c2:Nat) (cs1:List Value),o=out1→I0.le I'→(RL I' cs1 out1)→T 34 B Q (.exit 0) I' [hO zA (vS p2 out1 c2) cs1] [(3,vS p2 out1 c2)])→J Tryz.prog 34 B (nav (bodyOf Tryz.f199) [1,1,1,0,1,0]) Q I [hO zA (vS p1 out c1) cs] [(3,vS p1 out c1),(4,vS p y c),(5,vI i)]:=by
 refine tK.partial_correctness y _ fun self ih out i o N B I0 I Q p c p1 c1 cs H h1 h2 hg ho hx=>yW hg ho<|yI<|yI ?_;obtain ⟨o0,ho0,hMc⟩:=zB N;refine yU (fun I' hs' m'=>∃ (t18:Bool),o0=t18∧I.le I'∧hs'=[hO zA (vS p1 out c1) cs]∧m'=[(3,vS p1 out c1),(4,vS p y c),(5,vI i),(18,.bool t18)]) ?_ ?_
 · have H:=iS I;refine zP<|yC 5 [] [(15,.bool (decide (i < (y.length:Int))))] ?_;cases hc:(decide (i < (y.length:Int))) with
   | true =>
    have hM0:=zS hc ho0
    try rw [hc]
    exact yB [] [(18,.bool (decide (i ≤ 2)))]<|yS [(3,vS p1 out c1),(4,vS p y c),(5,vI i),(18,.bool (decide (i ≤ 2)))]<|zW (ct hM0 H)
   | false =>
    have hM01:=zQ hc ho0
    try rw [hc]
    exact yB [] [(18,vF)]<|yS [(3,vS p1 out c1),(4,vS p y c),(5,vI i),(18,vF)]<|zW (ct hM01 H)
 rintro I01 hs2 m2 ⟨t18,heq,le1,rfl,rfl⟩;subst o0;have h2:=iM le1 h2;have h1:=h1.mono le1;have H:=H.trans le1;refine zL<|yL hMc ?_ ?_
 · intro hc1 N;refine zV<|yG<|yM<|yK<|yC 2 [] [(22,vS p y c),(23,vI i)]<|bE N fun x hy1 N=>xR rfl rfl h1 hy1 ?_;intro ad ccs hat hrep;obtain rfl:=hrep;refine xN 0 hat [vT x.l] (vT x.l) rfl ?_;obtain ⟨⟨y2,y3⟩,hy2,N⟩:=zB N;refine xS (fF x _ hy2 ) ?_;rintro I02 hs2 v2 k2 le2 - ⟨v01,v02,rfl,rfl,⟨cs2,rfl,h4⟩,rfl⟩ -;have h2:=iM le2 h2;have h1:=h1.mono le2;have H:=H.trans le2;obtain ⟨p3,c3,rfl,h6⟩:=yQ h4;refine yC 8 [] [(27,vA (cAff y2 p3 c3)),(28,.bool y3)]<|wU [z0,vI 0] ?_;intro b1 hb1;refine xB 0 (cAff y2 p3 c3) [hB b1 (cAff y2 p3 c3),hO zA (vS p1 out c1) cs] rfl rfl rfl rfl<|yB [] []<|zL<|zP<|yC 2 [0] [(29,vS p1 out c1),(30,vA (cAff y2 p3 c3))]<|xU (cAff y2 p3 c3) zA ?_;intro b2 hb2;have h7:RL I02 (cAff y2 p3 c3) ([y2]:List zA):=⟨(cAff y2 p3 c3),_,rfl,rfl,(yN ⟨_,rfl,h6⟩),rfl⟩;obtain ⟨out2,hy3,N⟩:=zB N;exact qI 44 2 2 rfl rfl rfl h2 (.inr ⟨0,rfl⟩) h7 hy3 fun p4 c4 cs3 h8=>sU (yD [1,2] (hs':=[hB b1 (cAff y2 p3 c3),hO zA (vS p4 out2 c4) cs3]))<|yB [] [(3,vS p4 out2 c4)]<|zR<|zL<|zP<|yB [] [(5,vI (W (i + 1)))]<|yT<|rM (zZ [1] rfl (by decide))<|wN [(3,vS p4 out2 c4),(4,vS p y c),(5,vI (W (i + 1)))]<|ih out2 (W (i + 1)) _ N H h1 h8 hg ho hx
 intro hc1 N;exact vD<|yS [(3,vS p1 out c1)]<|hx _ _ _ _ _ (zC N).symm H h2
def rI (text:Str):Option ((List zA)):=do
 let y←nQ text (44:UInt8)
 let out1←tK y ([]:List zA) 0
 pure (id out1)
theorem kZ:∀ text r,rI text=some r→∀ {I:Imm} ,RT 199 [vT text.l] I [] (zAg  r):=by
 intro text r N I;unfold rI at N;refine zX (fn:=Tryz.f199) (c:=(bodyOf Tryz.f199)) Tryz.func199 rfl rfl ?_;rintro B - -;refine yF []<|xD<|xU [] zA ?_;intro b hb;have h:RL I [] ([]:List zA):=rfl;refine yB [] [(3,vS (some ⟨b,0,none⟩) ([]:List zA) 0)]<|xD<|yC 1 [] [(9,vT text.l)]<|bE N fun y hy N=>xS (fW text (44:UInt8) _ hy ) ?_;rintro I0 hs2 v2 k2 le - ⟨v0,rfl,rfl,h1⟩ -;have h:=iM le h;obtain ⟨p,c,rfl⟩:=h1.form;refine yB [] [(4,vS p y c)]<|yG<|yF [(5,vI 0)]<|wD<|wN [(3,vS (some ⟨b,0,none⟩) ([]:List zA) 0),(4,vS p y c),(5,vI 0)] ?_;obtain ⟨o01,ho01,hMl⟩:=zB N;refine zAU y ([]:List zA) 0 o01 ho01 iR h1 h (fun _ _ _ h=>h) (fun _ _ h=>h) ?_;intro I03 out1 p2 c2 cs1 heq1 le3 h3;subst o01;refine zU<|wW [(2,vS p2 out1 c2)]<|xP<|xA 0 rfl ?_;intro I04 le4 hl0;have h9:=SL.of_frozen hl0 le4 h3;obtain rfl:=zC hMl;exact xF ⟨_,_,(.tmp rfl ResV.nil),zT,⟨_,rfl,rfl,h9⟩⟩
def zAC (r:zI×Int):KT:=fun kk I' hs' v=>
  ∃ v0 v1,hs'=[]∧v=tupV [v0,v1]∧(∃ cs,v0=.agg ⟨cs⟩∧Rp.rep I' cs r.1)∧v1=.int .i64 r.2
def rO (s:Str) (at0:Int):Option (zI×Int):=do
 let y←mF s at0 (93:UInt8)
 let t20←(do
   if (decide (y < (W (at0 + 2)))) then
    pure true
   else
    let b1←sidx s (W (at0 + 1))
    pure ((b1.toNat:Int) != 91)
     : Option Bool)
 if t20 then
  pure ((zI.mk (⟨[]⟩:Str) ([]:List zA)),(-1))
 else
  let s1←sslc s at0 (W (at0 + 1))
  let s2←sslc s (W (at0 + 2)) y
  let y1←rI s2
  pure ((zI.mk s1 y1),(W (y + 1)))
theorem gA:∀ s at0 r,rO s at0=some r→∀ {I:Imm} ,RT 174 [vT s.l,vI at0] I [] (zAC  r):=by
 intro s at0 r N I;unfold rO at N;refine zX (fn:=Tryz.f174) (c:=(bodyOf Tryz.f174)) Tryz.func174 rfl rfl ?_;rintro B - -;have H:=iS I;refine yK<|wU [vT ([]),z0] ?_;intro b hb;refine yB [] []<|xD<|yC 2 [] [(7,vT s.l),(8,vI at0)]<|bE N fun y hy N=>kI (zAa s at0 (93:UInt8) _ hy ) ?_;intro I0 le;have H:=H.trans le;refine yB [] [(6,vI y)]<|yG<|yI ?_;obtain ⟨o0,ho0,hMc⟩:=zB N;refine yU (fun I' hs' m'=>∃ (t20:Bool),o0=t20∧I0.le I'∧hs'=[hB b [vT ([]),z0]]∧m'=[(0,vT s.l),(1,vI at0),(4,vP b 0),(6,vI y),(20,.bool t20)]) ?_ ?_
 · have H:=iS I0;refine zP<|yC 5 [] [(14,.bool (decide (y < (W (at0 + 2)))))] ?_;cases hc:(decide (y < (W (at0 + 2)))) with
   | true =>
    have hM0:=zS hc ho0
    try rw [hc]
    exact yB [] [(20,vY)]<|yS [(0,vT s.l),(1,vI at0),(4,vP b 0),(6,vI y),(20,vY)]<|zW (ct hM0 H)
   | false =>
    have hM01:=zQ hc ho0
    try rw [hc]
    refine yC 8 [] [(15,vT s.l),(17,vI (W (at0 + 1)))] ?_;obtain ⟨b1,hy1,N⟩:=zB hM01;exact eE rfl rfl hy1<|yB [] [(20,.bool ((b1.toNat:Int) != 91))]<|yS [(0,vT s.l),(1,vI at0),(4,vP b 0),(6,vI y),(20,.bool ((b1.toNat:Int) != 91))]<|zW (ct N H)
 rintro I01 hs2 m2 ⟨t20,heq,le1,rfl,rfl⟩;subst o0;have H:=H.trans le1;refine zL<|yL hMc ?_ ?_
 · intro hc1 N;refine yK<|yC 1 [] [(21,vA [vT ([]),z0])]<|xB 0 [vT ([]),z0] [hB b [vT ([]),z0]] rfl rfl rfl rfl<|yB [] [(5,vI (-1))]<|xP<|zN ?_;obtain rfl:=zC N;exact xF ⟨_,_,(.cell 0 rfl rfl (by kernel_rfl) (.tmp rfl ResV.nil)),zT,⟨_,_,rfl,rfl,⟨_,rfl,(oO ⟨_,rfl,(SL.nil _)⟩)⟩,rfl⟩⟩
 intro hc1 N;refine zV<|zL<|yI ?_;obtain ⟨s1,hy2,N⟩:=zB N;obtain ⟨s2,hy3,N⟩:=zB N;obtain ⟨y1,hy4,N⟩:=zB N;refine vC [.p (vT s.l) [],.p (vI at0) [],.p (vI at0) [],.p (vI (W (at0 + 1))) [],.q (vT s1.l),.p (vT s.l) [],.p (vI at0) [],.p (vI (W (at0 + 2))) [],.p (vI y) [],.q (vT s2.l),.x (fun I' v hx=>∃ p c,v=vS p y1 c∧hx=[]∧(S4 I' p y1 c)),.x (fun I' v hx=>∃ p1 c1,v=vA [vT s1.l,vS p1 y1 c1]∧hx=[]∧(S4 I' p1 y1 c1)),.p (vI y) [],.p (vI (W (y + 1))) [],.x (fun I' v hx=>∃ p11 c11,hx=[hB b [vT s1.l,vS p11 y1 c11]]∧(S4 I' p11 y1 c11))] [[],[],[],[(2,false)],[(0,false),(1,false),(3,false)],[],[],[(6,false)],[],[(5,false),(7,false),(8,false)],[(9,false)],[(4,false),(10,false)],[],[(12,false)],[(11,false),(16,true)]] [] [[hB b [vT ([]),z0]]] [(13,false),(14,true)] (yD [0]) ?_ ?_
 · refine Op<|Op<|Op<|Op<|Oq ?_<|Op<|Op<|Op<|Op<|Oq ?_<|Ox ?_<|Ox ?_<|Op<|Op<|Ox ?_<|On
   · intro I1 hf le1;exact yR [(22,vT s.l),(23,vI at0),(25,vI (W (at0 + 1)))]<|zF9 rfl hy2<|xI iR
   · intro I1 hf le1;exact yR [(27,vT s.l),(29,vI (W (at0 + 2))),(30,vI y)]<|zF9 rfl hy3<|xI iR
   · intro I1 hf le1;refine yR [(31,vT s2.l)] ?_;have H:=iS I1;refine xS (kZ s2 _ hy4 ) ?_;rintro I02 hs2 v2 k2 le2 - ⟨v01,rfl,rfl,h1⟩ -;have H:=H.trans le2;obtain ⟨p,c,rfl⟩:=h1.form;exact yP [] H ⟨_,_,rfl,rfl,h1⟩
   · intro I1 hf le1;refine zF ?_;rintro _ _ ⟨rfl,rfl⟩;refine zF ?_;rintro _ _ ⟨p,c,rfl,rfl,h1⟩;exact yR [(26,vT s1.l),(32,vS p y1 c)]<|pM 12 [(33,vA [vT s1.l,vS p y1 c])]<|yP [] iR ⟨_,_,rfl,rfl,h1⟩
   intro I1 hf le1;refine zF ?_;rintro _ _ ⟨p1,c1,rfl,rfl,h11⟩;refine zF ?_;rintro _ _ rfl;refine yR [(4,vP b 0),(33,vA [vT s1.l,vS p1 y1 c1])] ?_;have H:=iS I1;exact xB 0 [vT s1.l,vS p1 y1 c1] (hB b [vT s1.l,vS p1 y1 c1]::hf) rfl rfl rfl rfl<|zDu (hx:=[hB b [vT s1.l,vS p1 y1 c1]]) rfl H rfl (zEi (v:=undef)) ⟨_,_,rfl,h11⟩
 intro I03 le3;refine zF ?_;rintro _ _ ⟨rfl,rfl⟩;refine zF ?_;rintro _ _ ⟨p11,c11,rfl,h111⟩;refine yR [(4,vP b 0),(35,vI (W (y + 1)))] ?_;refine yB [] [(5,vI (W (y + 1)))]<|zL<|xG ?_;obtain rfl:=zC N;exact xF ⟨_,_,(.cell 0 rfl rfl (by kernel_rfl) (.tmp rfl ResV.nil)),zT,⟨_,_,rfl,rfl,⟨_,rfl,(oO ⟨_,rfl,h111⟩)⟩,rfl⟩⟩
def jW (r:zG×Int):KT:=fun kk I' hs' v=>
  ∃ v0 v1,hs'=[]∧v=tupV [v0,v1]∧(∃ cs,v0=.agg ⟨cs⟩∧Rp.rep I' cs r.1)∧v1=.int .i64 r.2
mutual
def kQ (s:Str) (at0:Int) (levels:Int):Option (zG×Int):=do
 let (y1,y2)←qA (same s) (same at0) (same levels)
 let t27←(do
   if (decide (y2 < 0)) then
    pure true
   else
    pure (decide (y2 ≥ (s.l.length:Int)))
     : Option Bool)
 if t27 then
  pure ((zG.mk 0 0 (zA.mk ([]:List Int) 0) (zI.mk (⟨[]⟩:Str) ([]:List zA)) ([]:List zG)),(-1))
 else
  let b2←sidx s y2
  let kind←(do
    if ((b2.toNat:Int) == 45) then
     pure (id 5)
    else
     let kind1←(do
       if ((b2.toNat:Int) == 42) then
        pure (id 6)
       else
        pure (id 4)
         : Option Int)
     pure (id kind1)
      : Option Int)
  let (y4,y5)←qA (same s) (W (y2 + 1)) (same levels)
  let t51←(do
    if (decide (y5 < 0)) then
     pure true
    else
     pure (decide (y5 ≥ (s.l.length:Int)))
      : Option Bool)
  if t51 then
   pure ((zG.mk 0 0 (zA.mk ([]:List Int) 0) (zI.mk (⟨[]⟩:Str) ([]:List zA)) ([]:List zG)),(-1))
  else
   pure ((zG.mk kind 0 (zA.mk ([]:List Int) 0) (zI.mk (⟨[]⟩:Str) ([]:List zA)) ([y1,y4]:List zG)),(W (y5 + 1)))
 partial_fixpoint
def qA (s:Str) (at0:Int) (levels:Int):Option (zG×Int):=do
 let t26←(do
   if (decide (levels < 1)) then
    pure true
   else
    if (decide (at0 < 0)) then
     pure true
    else
     pure (decide (at0 ≥ (s.l.length:Int)))
     : Option Bool)
 if t26 then
  pure ((zG.mk 0 0 (zA.mk ([]:List Int) 0) (zI.mk (⟨[]⟩:Str) ([]:List zA)) ([]:List zG)),(-1))
 else
  let b1←sidx s at0
  if ((b1.toNat:Int) == 123) then
   let y←mF s at0 (125:UInt8)
   if (decide (y < 0)) then
    pure ((zG.mk 0 0 (zA.mk ([]:List Int) 0) (zI.mk (⟨[]⟩:Str) ([]:List zA)) ([]:List zG)),(-1))
   else
    let s1←sslc s (W (at0 + 1)) y
    let (y2,y3)←qY s1
    pure ((zG.mk 2 0 y2 (zI.mk (⟨[]⟩:Str) ([]:List zA)) ([]:List zG)),(W (y + 1)))
  else
   let t52←(do
     let b3←sidx s at0
     if (decide ((b3.toNat:Int) ≥ 65)) then
      let b4←sidx s at0
      pure (decide ((b4.toNat:Int) ≤ 68))
     else
      pure false
       : Option Bool)
   if t52 then
    let (y5,y6)←rO s at0
    pure ((zG.mk 3 0 (zA.mk ([]:List Int) 0) y5 ([]:List zG)),y6)
   else
    let b6←sidx s at0
    if ((b6.toNat:Int) == 40) then
     let (y8,y9)←kQ (same s) (W (at0 + 1)) (W (levels - 1))
     pure (y8,y9)
    else
     let (y11,y12)←nA s at0
     if (y12 == at0) then
      pure ((zG.mk 0 0 (zA.mk ([]:List Int) 0) (zI.mk (⟨[]⟩:Str) ([]:List zA)) ([]:List zG)),(-1))
     else
      pure ((zG.mk 1 y11 (zA.mk ([]:List Int) 0) (zI.mk (⟨[]⟩:Str) ([]:List zA)) ([]:List zG)),y12)
 partial_fixpoint
end
theorem zDf:(∀ (s:Str) (at0:Int) (levels:Int) r,kQ s at0 levels=some r→∀ {I:Imm} ,RT 201 [vT s.l,vI at0,vI levels] I [] (jW  r))∧(∀ (s:Str) (at0:Int) (levels:Int) r,qA s at0 levels=some r→∀ {I:Imm} ,RT 175 [vT s.l,vI at0,vI levels] I [] (jW  r)):=by
  refine kQ.mutual_partial_correctness _ _ ?_ ?_
  · intro F_spec_l3Parse ih_spec_l3Parse s at0 levels r N I;refine zX (fn:=Tryz.f201) (c:=(bodyOf Tryz.f201)) Tryz.func201 rfl rfl ?_;rintro B - -;have H:=iS I;refine yK<|wU zExpr ?_;intro b hb;refine yB [] []<|xD<|yC 3 [] [(14,vT s.l),(15,vI at0),(16,vI levels)] ?_;obtain ⟨⟨y1,y2⟩,hy,N⟩:=zB N;refine xS (ih_spec_l3Parse s at0 levels _ hy ) ?_;rintro I0 hs2 v2 k2 le - ⟨v0,v01,rfl,rfl,⟨cs,rfl,h⟩,rfl⟩ -;have H:=H.trans le;obtain ⟨p,c,p1,c1,p2,c2,rfl,h2,h3,h4⟩:=uU h;refine yC 7 [] [(18,vA (cExpr y1 p c p1 c1 p2 c2)),(19,vI y2)]<|wU zExpr ?_;intro b1 hb1;refine xB 0 (cExpr y1 p c p1 c1 p2 c2) [hB b1 (cExpr y1 p c p1 c1 p2 c2),hB b zExpr] rfl rfl rfl rfl<|yB [] [(9,vI y2)]<|yG<|yI ?_;obtain ⟨o0,ho0,hMc⟩:=zB N;refine yU (fun I' hs' m'=>∃ (t27:Bool),o0=t27∧I0.le I'∧hs'=[hB b1 (cExpr y1 p c p1 c1 p2 c2),hB b zExpr]∧m'=[(0,vT s.l),(2,vI levels),(6,vP b 0),(8,vP b1 0),(9,vI y2),(27,.bool t27)]) ?_ ?_
    · have H:=iS I0;refine zP<|yC 3 [] [(22,.bool (decide (y2 < 0)))] ?_;cases hc:(decide (y2 < 0)) with
      | true =>
       have hM0:=zS hc ho0
       try rw [hc]
       exact yB [] [(27,vY)]<|yS [(0,vT s.l),(2,vI levels),(6,vP b 0),(8,vP b1 0),(9,vI y2),(27,vY)]<|zW (ct hM0 H)
      | false =>
       have hM01:=zQ hc ho0
       try rw [hc]
       exact yB [] [(27,.bool (decide (y2 ≥ (s.l.length:Int))))]<|yS [(0,vT s.l),(2,vI levels),(6,vP b 0),(8,vP b1 0),(9,vI y2),(27,.bool (decide (y2 ≥ (s.l.length:Int))))]<|zW (ct hM01 H)
    rintro I01 hs2 m2 ⟨t27,heq,le1,rfl,rfl⟩;subst o0;have h2:=h2.mono le1;have h3:=h3.mono le1;have h4:=h4.mono le1;have H:=H.trans le1;refine zL<|yL hMc ?_ ?_
    · intro hc1 N;refine yK<|yC 1 [] [(28,vA zExpr)]<|xB 1 zExpr [hB b1 (cExpr y1 p c p1 c1 p2 c2),hB b zExpr] rfl rfl rfl rfl<|yB [] [(7,vI (-1))]<|xP<|zN ?_;obtain rfl:=zC N;exact xF ⟨_,_,(.cell 1 rfl rfl (by kernel_rfl) (.tmp rfl ResV.nil)),zT,⟨_,_,rfl,rfl,⟨_,rfl,(xV ⟨_,_,_,rfl,(SL.nil _),(SL.nil _),(SL.nil _)⟩)⟩,rfl⟩⟩
    intro hc1 N;refine zV<|wW [(10,vI 4)]<|yG<|yK<|yC 2 [] [(29,vT s.l),(30,vI y2)]<|bE N fun b2 hy1 N=>eE rfl rfl hy1<|yH rfl<|wD<|yF [(32,.bool ((b2.toNat:Int) == 45))]<|zL ?_;obtain ⟨o01,ho01,hMc1⟩:=zB N;refine yU (fun I' hs' m'=>∃ (kind:Int),o01=kind∧I01.le I'∧hs'=[hB b1 (cExpr y1 p c p1 c1 p2 c2),hB b zExpr]∧m'=[(0,vT s.l),(2,vI levels),(6,vP b 0),(8,vP b1 0),(9,vI y2),(10,vI kind)]) ?_ ?_
    · have H:=iS I01;refine yL ho01 ?_ ?_
      · intro hc2 N;exact zP<|yB [] [(10,vI 5)]<|yS [(0,vT s.l),(2,vI levels),(6,vP b 0),(8,vP b1 0),(9,vI y2),(10,vI 5)]<|zW (ct N H)
      intro hc2 N;refine yF [(34,.bool ((b2.toNat:Int) == 42))]<|zL ?_;obtain ⟨o02,ho02,hMc2⟩:=zB N;refine yU (fun I' hs' m'=>∃ (kind1:Int),o02=kind1∧I01.le I'∧hs'=[hB b1 (cExpr y1 p c p1 c1 p2 c2),hB b zExpr]∧m'=[(0,vT s.l),(2,vI levels),(6,vP b 0),(8,vP b1 0),(9,vI y2),(10,vI kind1)]) ?_ ?_
      · have H:=iS I01;refine yL ho02 ?_ ?_
        · intro hc3 N;exact zP<|yB [] [(10,vI 6)]<|yS [(0,vT s.l),(2,vI levels),(6,vP b 0),(8,vP b1 0),(9,vI y2),(10,vI 6)]<|zW (ct N H)
        intro hc3 N;exact zV<|yS [(0,vT s.l),(2,vI levels),(6,vP b 0),(8,vP b1 0),(9,vI y2),(10,vI 4)]<|zW (ct N H)
      rintro I03 hs2 m2 ⟨kind1,heq1,le2,rfl,rfl⟩;subst o02;have H:=H.trans le2;exact yS [(0,vT s.l),(2,vI levels),(6,vP b 0),(8,vP b1 0),(9,vI y2),(10,vI kind1)]<|zW (ct hMc2 H)
    rintro I02 hs2 m2 ⟨kind,heq2,le3,rfl,rfl⟩;subst o01;have h2:=h2.mono le3;have h3:=h3.mono le3;have h4:=h4.mono le3;have H:=H.trans le3;refine zR<|xD<|yC 4 [] [(37,vT s.l),(39,vI (W (y2 + 1))),(40,vI levels)] ?_;obtain ⟨⟨y4,y5⟩,hy2,N⟩:=zB hMc1;refine xS (ih_spec_l3Parse s (W (y2 + 1)) levels _ hy2 ) ?_;rintro I04 hs2 v2 k2 le4 - ⟨v05,v06,rfl,rfl,⟨cs1,rfl,h5⟩,rfl⟩ -;have h2:=h2.mono le4;have h3:=h3.mono le4;have h4:=h4.mono le4;have H:=H.trans le4;obtain ⟨p3,c3,p4,c4,p5,c5,rfl,h7,h8,h9⟩:=uU h5;refine yC 8 [] [(42,vA (cExpr y4 p3 c3 p4 c4 p5 c5)),(43,vI y5)]<|wU zExpr ?_;intro b3 hb2;refine xB 0 (cExpr y4 p3 c3 p4 c4 p5 c5) [hB b3 (cExpr y4 p3 c3 p4 c4 p5 c5),hB b1 (cExpr y1 p c p1 c1 p2 c2),hB b zExpr] rfl rfl rfl rfl<|yB [] [(12,vI y5)]<|yG<|yI ?_;obtain ⟨o03,ho03,hMc3⟩:=zB N;refine yU (fun I' hs' m'=>∃ (t51:Bool),o03=t51∧I04.le I'∧hs'=[hB b3 (cExpr y4 p3 c3 p4 c4 p5 c5),hB b1 (cExpr y1 p c p1 c1 p2 c2),hB b zExpr]∧m'=[(6,vP b 0),(8,vP b1 0),(10,vI kind),(11,vP b3 0),(12,vI y5),(51,.bool t51)]) ?_ ?_
    · have H:=iS I04;refine zP<|yC 3 [] [(46,.bool (decide (y5 < 0)))] ?_;cases hc4:(decide (y5 < 0)) with
      | true =>
       have hM02:=zS hc4 ho03
       try rw [hc4]
       exact yB [] [(51,vY)]<|yS [(6,vP b 0),(8,vP b1 0),(10,vI kind),(11,vP b3 0),(12,vI y5),(51,vY)]<|zW (ct hM02 H)
      | false =>
       have hM03:=zQ hc4 ho03
       try rw [hc4]
       exact yB [] [(51,.bool (decide (y5 ≥ (s.l.length:Int))))]<|yS [(6,vP b 0),(8,vP b1 0),(10,vI kind),(11,vP b3 0),(12,vI y5),(51,.bool (decide (y5 ≥ (s.l.length:Int))))]<|zW (ct hM03 H)
    rintro I05 hs2 m2 ⟨t51,heq3,le5,rfl,rfl⟩;subst o03;have h7:=h7.mono le5;have h8:=h8.mono le5;have h9:=h9.mono le5;have h2:=h2.mono le5;have h3:=h3.mono le5;have h4:=h4.mono le5;refine zL<|yL hMc3 ?_ ?_
    · intro hc5 N;refine yK<|yC 1 [] [(52,vA zExpr)]<|xB 2 zExpr [hB b3 (cExpr y4 p3 c3 p4 c4 p5 c5),hB b1 (cExpr y1 p c p1 c1 p2 c2),hB b zExpr] rfl rfl rfl rfl<|yB [] [(7,vI (-1))]<|xP<|zN ?_;obtain rfl:=zC N;exact xF ⟨_,_,(.cell 2 rfl rfl (by kernel_rfl) (.tmp rfl ResV.nil)),zT,⟨_,_,rfl,rfl,⟨_,rfl,(xV ⟨_,_,_,rfl,(SL.nil _),(SL.nil _),(SL.nil _)⟩)⟩,rfl⟩⟩
    intro hc5 N;refine zV<|xD<|yC 3 [1,0] [(53,vI kind),(54,vA (cExpr y1 p c p1 c1 p2 c2)),(55,vA (cExpr y4 p3 c3 p4 c4 p5 c5))]<|xU [vI y1.Kind,vI y1.Num,vS p y1.Index.Coefs c,vI y1.Index.Const,vT y1.Read.Array.l,vS p1 y1.Read.Subs c1,vS p2 y1.Kids c2,vI y4.Kind,vI y4.Num,vS p3 y4.Index.Coefs c3,vI y4.Index.Const,vT y4.Read.Array.l,vS p4 y4.Read.Subs c4,vS p5 y4.Kids c5] zG ?_;intro b4 hb3;have h10:RL I05 [vI y1.Kind,vI y1.Num,vS p y1.Index.Coefs c,vI y1.Index.Const,vT y1.Read.Array.l,vS p1 y1.Read.Subs c1,vS p2 y1.Kids c2,vI y4.Kind,vI y4.Num,vS p3 y4.Index.Coefs c3,vI y4.Index.Const,vT y4.Read.Array.l,vS p4 y4.Read.Subs c4,vS p5 y4.Kids c5] ([y1,y4]:List zG):=⟨(cExpr y1 p c p1 c1 p2 c2),_,rfl,rfl,(xV ⟨_,_,_,rfl,h2,h3,h4⟩),⟨(cExpr y4 p3 c3 p4 c4 p5 c5),_,rfl,rfl,(xV ⟨_,_,_,rfl,h7,h8,h9⟩),rfl⟩⟩;refine yC 7 [] [(57,vA [vI kind,vI 0,z0,vI 0,vT ([]),z0,vS (some ⟨b4,0,none⟩) ([y1,y4]:List zG) 2]),(59,vI (W (y5 + 1)))]<|xB 3 [vI kind,vI 0,z0,vI 0,vT ([]),z0,vS (some ⟨b4,0,none⟩) ([y1,y4]:List zG) 2] [hO zG (vS (some ⟨b4,0,none⟩) ([y1,y4]:List zG) 2) [vI y1.Kind,vI y1.Num,vS p y1.Index.Coefs c,vI y1.Index.Const,vT y1.Read.Array.l,vS p1 y1.Read.Subs c1,vS p2 y1.Kids c2,vI y4.Kind,vI y4.Num,vS p3 y4.Index.Coefs c3,vI y4.Index.Const,vT y4.Read.Array.l,vS p4 y4.Read.Subs c4,vS p5 y4.Kids c5],hB b3 (cExpr y4 p3 c3 p4 c4 p5 c5),hB b1 (cExpr y1 p c p1 c1 p2 c2),hB b [vI kind,vI 0,z0,vI 0,vT ([]),z0,vS (some ⟨b4,0,none⟩) ([y1,y4]:List zG) 2]] rfl rfl rfl rfl<|yB [] [(7,vI (W (y5 + 1)))]<|xP<|xA 0 rfl ?_;intro I06 le6 hl0;have h11:=SL.of_frozen hl0 le6 h10;obtain rfl:=zC N;exact xF ⟨_,_,(.cell 2 rfl rfl (by kernel_rfl) (.tmp rfl ResV.nil)),zT,⟨_,_,rfl,rfl,⟨_,rfl,(xV ⟨_,_,_,rfl,(SL.nil _),(SL.nil _),h11⟩)⟩,rfl⟩⟩
  intro F_spec_l3Round ih_spec_l3Round s at0 levels r N I;refine zX (fn:=Tryz.f175) (c:=(bodyOf Tryz.f175)) Tryz.func175 rfl rfl ?_;rintro B - -;have H:=iS I;refine yK<|wU zExpr ?_;intro b hb;refine yB [] []<|yG<|yI ?_;obtain ⟨o0,ho0,hMc⟩:=zB N;refine yU (fun I' hs' m'=>∃ (t26:Bool),o0=t26∧I.le I'∧hs'=[hB b zExpr]∧m'=[(0,vT s.l),(1,vI at0),(2,vI levels),(6,vP b 0),(26,.bool t26)]) ?_ ?_
  · have H:=iS I;refine zP<|yC 3 [] [(17,.bool (decide (levels < 1)))] ?_;cases hc:(decide (levels < 1)) with
    | true =>
     have hM0:=zS hc ho0
     try rw [hc]
     exact yB [] [(26,vY)]<|yS [(0,vT s.l),(1,vI at0),(2,vI levels),(6,vP b 0),(26,vY)]<|zW (ct hM0 H)
    | false =>
     have hM01:=zQ hc ho0
     try rw [hc]
     refine yC 7 [] [(21,.bool (decide (at0 < 0)))] ?_;cases hc1:(decide (at0 < 0)) with
     | true =>
      have hM02:=zS hc1 hM01
      try rw [hc1]
      exact yB [] [(26,vY)]<|yS [(0,vT s.l),(1,vI at0),(2,vI levels),(6,vP b 0),(26,vY)]<|zW (ct hM02 H)
     | false =>
      have hM03:=zQ hc1 hM01
      try rw [hc1]
      exact yB [] [(26,.bool (decide (at0 ≥ (s.l.length:Int))))]<|yS [(0,vT s.l),(1,vI at0),(2,vI levels),(6,vP b 0),(26,.bool (decide (at0 ≥ (s.l.length:Int))))]<|zW (ct hM03 H)
  rintro I0 hs2 m2 ⟨t26,heq,le,rfl,rfl⟩;subst o0;have H:=H.trans le;refine zL<|yL hMc ?_ ?_
  · intro hc2 N;refine yK<|yC 1 [] [(27,vA zExpr)]<|xB 0 zExpr [hB b zExpr] rfl rfl rfl rfl<|yB [] [(7,vI (-1))]<|xP<|zN ?_;obtain rfl:=zC N;exact xF ⟨_,_,(.cell 0 rfl rfl (by kernel_rfl) (.tmp rfl ResV.nil)),zT,⟨_,_,rfl,rfl,⟨_,rfl,(xV ⟨_,_,_,rfl,(SL.nil _),(SL.nil _),(SL.nil _)⟩)⟩,rfl⟩⟩
  intro hc2 N;refine zV<|yG<|yM<|yK<|yC 2 [] [(29,vT s.l),(30,vI at0)]<|bE N fun b1 hy N=>eE rfl rfl hy<|yB [] [(28,.bool ((b1.toNat:Int) == 123))]<|zL<|yL N ?_ ?_
  · intro hc3 N;refine yK<|yC 2 [] [(33,vT s.l),(34,vI at0)]<|bE N fun y hy1 N=>kI (zAa s at0 (125:UInt8) _ hy1 ) fun I01 le1=>yB [] [(8,vI y)]<|yG<|yF [(37,.bool (decide (y < 0)))]<|zL<|yL N ?_ ?_
    · intro hc4 N;refine yK<|yC 1 [] [(38,vA zExpr)]<|xB 0 zExpr [hB b zExpr] rfl rfl rfl rfl<|yB [] [(7,vI (-1))]<|xP<|zN<|yA<|zN ?_;obtain rfl:=zC N;exact xF ⟨_,_,(.cell 0 rfl rfl (by kernel_rfl) (.tmp rfl ResV.nil)),zT,⟨_,_,rfl,rfl,⟨_,rfl,(xV ⟨_,_,_,rfl,(SL.nil _),(SL.nil _),(SL.nil _)⟩)⟩,rfl⟩⟩
    intro hc4 N;refine zV<|xD<|yC 4 [] [(40,vT s.l),(42,vI (W (at0 + 1))),(43,vI y)]<|bE N fun s1 hy2 N=>zF9 rfl hy2 ?_;obtain ⟨⟨y2,y3⟩,hy3,N⟩:=zB N;refine xS (fF s1 _ hy3 ) ?_;rintro I02 hs2 v2 k2 le2 - ⟨v01,v02,rfl,rfl,⟨cs,rfl,h1⟩,rfl⟩ -;obtain ⟨p,c,rfl,h3⟩:=yQ h1;refine yC 9 [] [(46,vA (cAff y2 p c)),(47,.bool y3)]<|wU [z0,vI 0] ?_;intro b2 hb1;refine xB 0 (cAff y2 p c) [hB b2 (cAff y2 p c),hB b zExpr] rfl rfl rfl rfl<|yB [] []<|xD<|yC 4 [0] [(49,vA [vI 2,vI 0,vS p y2.Coefs c,vI y2.Const,vT ([]),z0,z0]),(51,vI (W (y + 1)))]<|xB 1 [vI 2,vI 0,vS p y2.Coefs c,vI y2.Const,vT ([]),z0,z0] [hB b2 (cAff y2 p c),hB b [vI 2,vI 0,vS p y2.Coefs c,vI y2.Const,vT ([]),z0,z0]] rfl rfl rfl rfl<|yB [] [(7,vI (W (y + 1)))]<|xP<|yA<|zN ?_;obtain rfl:=zC N;exact xF ⟨_,_,(.cell 1 rfl rfl (by kernel_rfl) (.tmp rfl ResV.nil)),zT,⟨_,_,rfl,rfl,⟨_,rfl,(xV ⟨_,_,_,rfl,h3,(SL.nil _),(SL.nil _)⟩)⟩,rfl⟩⟩
  intro hc3 N;refine yI ?_;obtain ⟨o01,ho01,hMc1⟩:=zB N;refine yU (fun I' hs' m'=>∃ (t52:Bool),o01=t52∧I0.le I'∧hs'=[hB b zExpr]∧m'=[(0,vT s.l),(1,vI at0),(2,vI levels),(6,vP b 0),(52,.bool t52)]) ?_ ?_
  · have H:=iS I0;refine zP<|yC 2 [] [(53,vT s.l),(54,vI at0)] ?_;obtain ⟨b3,hy4,N⟩:=zB ho01;refine eE rfl rfl hy4<|yC 5 [] [(57,.bool (decide ((b3.toNat:Int) ≥ 65)))] ?_;cases hc5:(decide ((b3.toNat:Int) ≥ 65)) with
    | true =>
     have hM04:=zS hc5 N
     try rw [hc5]
     refine yC 7 [] [(58,vT s.l),(59,vI at0)] ?_;obtain ⟨b4,hy5,N⟩:=zB hM04;exact eE rfl rfl hy5<|yB [] [(52,.bool (decide ((b4.toNat:Int) ≤ 68)))]<|yS [(0,vT s.l),(1,vI at0),(2,vI levels),(6,vP b 0),(52,.bool (decide ((b4.toNat:Int) ≤ 68)))]<|zW (ct N H)
    | false =>
     have hM05:=zQ hc5 N
     try rw [hc5]
     exact yB [] [(52,vF)]<|yS [(0,vT s.l),(1,vI at0),(2,vI levels),(6,vP b 0),(52,vF)]<|zW (ct hM05 H)
  rintro I03 hs2 m2 ⟨t52,heq1,le3,rfl,rfl⟩;subst o01;refine zL<|yL hMc1 ?_ ?_
  · intro hc6 N;refine yK<|yC 2 [] [(64,vT s.l),(65,vI at0)] ?_;obtain ⟨⟨y5,y6⟩,hy6,N⟩:=zB N;refine xS (gA s at0 _ hy6 ) ?_;rintro I04 hs2 v2 k2 le4 - ⟨v04,v05,rfl,rfl,⟨cs1,rfl,h4⟩,rfl⟩ -;obtain ⟨p1,c1,rfl,h6⟩:=pP h4;refine yC 6 [] [(67,vA (cAccess y5 p1 c1)),(68,vI y6)]<|wU [vT ([]),z0] ?_;intro b5 hb2;refine xB 0 (cAccess y5 p1 c1) [hB b5 (cAccess y5 p1 c1),hB b zExpr] rfl rfl rfl rfl<|yB [] [(12,vI y6)]<|xD<|yC 3 [0] [(70,vA [vI 3,vI 0,z0,vI 0,vT y5.Array.l,vS p1 y5.Subs c1,z0]),(71,vI y6)]<|xB 1 [vI 3,vI 0,z0,vI 0,vT y5.Array.l,vS p1 y5.Subs c1,z0] [hB b5 (cAccess y5 p1 c1),hB b [vI 3,vI 0,z0,vI 0,vT y5.Array.l,vS p1 y5.Subs c1,z0]] rfl rfl rfl rfl<|yB [] [(7,vI y6)]<|xP<|yA<|zN ?_;obtain rfl:=zC N;exact xF ⟨_,_,(.cell 1 rfl rfl (by kernel_rfl) (.tmp rfl ResV.nil)),zT,⟨_,_,rfl,rfl,⟨_,rfl,(xV ⟨_,_,_,rfl,(SL.nil _),h6,(SL.nil _)⟩)⟩,rfl⟩⟩
  intro hc6 N;refine yK<|yC 2 [] [(73,vT s.l),(74,vI at0)]<|bE N fun b6 hy7 N=>eE rfl rfl hy7<|yB [] [(72,.bool ((b6.toNat:Int) == 40))]<|zL<|yL N ?_ ?_
  · intro hc7 N;refine yK<|yC 5 [] [(77,vT s.l),(79,vI (W (at0 + 1))),(81,vI (W (levels - 1)))] ?_;obtain ⟨⟨y8,y9⟩,hy8,N⟩:=zB N;refine xS (ih_spec_l3Round s (W (at0 + 1)) (W (levels - 1)) _ hy8 ) ?_;rintro I05 hs2 v2 k2 le5 - ⟨v07,v08,rfl,rfl,⟨cs2,rfl,h7⟩,rfl⟩ -;obtain ⟨p2,c2,p3,c3,p4,c4,rfl,h9,h10,h11⟩:=uU h7;refine yC 8 [] [(83,vA (cExpr y8 p2 c2 p3 c3 p4 c4)),(84,vI y9)]<|xB 0 (cExpr y8 p2 c2 p3 c3 p4 c4) [hB b (cExpr y8 p2 c2 p3 c3 p4 c4)] rfl rfl rfl rfl<|yB [] [(7,vI y9)]<|xP<|yA<|zN ?_;obtain rfl:=zC N;exact xF ⟨_,_,(.cell 0 rfl rfl (by kernel_rfl) (.tmp rfl ResV.nil)),zT,⟨_,_,rfl,rfl,⟨_,rfl,(xV ⟨_,_,_,rfl,h9,h10,h11⟩)⟩,rfl⟩⟩
  intro hc7 N;refine zV<|zR<|xD<|yC 2 [] [(86,vT s.l),(87,vI at0)] ?_;obtain ⟨⟨y11,y12⟩,hy9,N⟩:=zB N;refine xS (zAB s at0 _ hy9 ) ?_;rintro I06 hs2 v2 k2 le6 - ⟨v012,v013,rfl,rfl,rfl,rfl⟩ -;refine yB [] [(13,vI y11),(14,vI y12)]<|yG<|yF [(93,.bool (y12 == at0))]<|zL<|yL N ?_ ?_
  · intro hc8 N;refine yK<|yC 1 [] [(94,vA zExpr)]<|xB 0 zExpr [hB b zExpr] rfl rfl rfl rfl<|yB [] [(7,vI (-1))]<|xP<|zN ?_;obtain rfl:=zC N;exact xF ⟨_,_,(.cell 0 rfl rfl (by kernel_rfl) (.tmp rfl ResV.nil)),zT,⟨_,_,rfl,rfl,⟨_,rfl,(xV ⟨_,_,_,rfl,(SL.nil _),(SL.nil _),(SL.nil _)⟩)⟩,rfl⟩⟩
  intro hc8 N;refine zV<|xD<|yC 3 [] [(96,vA [vI 1,vI y11,z0,vI 0,vT ([]),z0,z0]),(97,vI y12)]<|xB 0 [vI 1,vI y11,z0,vI 0,vT ([]),z0,z0] [hB b [vI 1,vI y11,z0,vI 0,vT ([]),z0,z0]] rfl rfl rfl rfl<|yB [] [(7,vI y12)]<|zL<|xG ?_;obtain rfl:=zC N;exact xF ⟨_,_,(.cell 0 rfl rfl (by kernel_rfl) (.tmp rfl ResV.nil)),zT,⟨_,_,rfl,rfl,⟨_,rfl,(xV ⟨_,_,_,rfl,(SL.nil _),(SL.nil _),(SL.nil _)⟩)⟩,rfl⟩⟩
theorem zEM:∀ s at0 levels r,qA s at0 levels=some r→∀ {I:Imm} ,RT 175 [vT s.l,vI at0,vI levels] I [] (jW  r):=zDf.2
def tW (list:(List zA)) (out:Str) (i:Int):Option (Str):=do
 if (decide (i < (list.length:Int))) then
  let out2←(do
    if (decide (i > 0)) then
     let s←cat out (⟨[44]⟩:Str)
     pure (id s)
    else
     pure (id out)
      : Option Str)
  let x←idx list i
  let y←nR x
  let s1←cat out2 y
  tW list s1 (W (i + 1))
 else
  pure (id out)
 partial_fixpoint
theorem zAh (list:(List zA)):∀ (out:Str) (i:Int) (o:Str),tW list out i=some o→∀ {B}{I0 I:Imm}{Q p c},I0.le I→(S4 I p list c)→NG Q→NO Q→(∀ (I':Imm) (out1:Str),o=out1→I0.le I'→T 23 B Q (.exit 0) I' [] [(3,vT out1.l)])→J Tryz.prog 23 B (nav (bodyOf Tryz.f210) [1,1,0,1,0]) Q I [] [(0,vS p list c),(3,vT out.l),(4,vI i)]:=by
 refine tW.partial_correctness list _ fun self ih out i o N B I0 I Q p c H h hg ho hx=>yW hg ho<|yI<|yF [(8,.bool (decide (i < (list.length:Int))))]<|zL<|yL N ?_ ?_
 · intro hc N;refine zV<|yG<|yM<|yI<|yF [(12,.bool (decide (i > 0)))]<|zL ?_;obtain ⟨o0,ho0,hMc⟩:=zB N;refine yU (fun I' hs' m'=>∃ (out2:Str),o0=out2∧I.le I'∧hs'=[]∧m'=[(0,vS p list c),(3,vT out2.l),(4,vI i)]) ?_ ?_
   · have H:=iS I;refine yL ho0 ?_ ?_
     · intro hc1 N;exact zP<|yC 1 [] [(13,vT out.l)]<|bE N fun s hy N=>mB rfl hy<|yB [] [(3,vT s.l)]<|yS [(0,vS p list c),(3,vT s.l),(4,vI i)]<|zW (ct N H)
     intro hc1 N;exact zV<|yS [(0,vS p list c),(3,vT out.l),(4,vI i)]<|zW (ct N H)
   rintro I0 hs2 m2 ⟨out2,heq,le,rfl,rfl⟩;subst o0;have h:=h.mono le;have H:=H.trans le;refine zL<|zP<|yC 3 [] [(15,vT out2.l),(16,vS p list c),(17,vI i)] ?_;obtain ⟨x,hy1,N⟩:=zB hMc;refine xR rfl rfl h hy1 ?_;intro ad ccs hat hrep;obtain ⟨p1,c1,rfl,h1⟩:=yQ hrep;refine xN 0 hat (cAff x p1 c1) (vA (cAff x p1 c1)) rfl<|bE N fun y hy2 N=>xS (fX x _ hy2 h1) ?_;rintro I01 hs2 v2 k2 le1 - ⟨v01,rfl,rfl,rfl⟩ -;have h:=h.mono le1;have H:=H.trans le1;obtain ⟨s1,hy3,N⟩:=zB N;exact mB rfl hy3<|yB [] [(3,vT s1.l)]<|zR<|zL<|zP<|yB [] [(4,vI (W (i + 1)))]<|yT<|wN [(0,vS p list c),(3,vT s1.l),(4,vI (W (i + 1)))]<|ih s1 (W (i + 1)) _ N H h hg ho hx
 intro hc N;exact vD<|yS [(3,vT out.l)]<|hx _ _ (zC N).symm H
def qB (list:(List zA)):Option (Str):=do
 let out1←tW list (⟨[]⟩:Str) 0
 pure (id out1)
theorem jO:∀ list r,qB list=some r→∀ {I:Imm}{p c},(S4 I p list c)→RT 210 [vS p list c] I [] (tD  r):=by
 intro list r N I p c h;unfold qB at N;refine zX (fn:=Tryz.f210) (c:=(bodyOf Tryz.f210)) Tryz.func210 rfl rfl ?_;rintro B - -;refine yF []<|wW [(3,vT ([]))]<|yG<|yF [(4,vI 0)]<|wD<|wN [(0,vS p list c),(3,vT ([])),(4,vI 0)] ?_;obtain ⟨o01,ho01,hMl⟩:=zB N;refine zAh list (⟨[]⟩:Str) 0 o01 ho01 iR h (fun _ _ _ h=>h) (fun _ _ h=>h) ?_;intro I02 out1 heq1 le2;subst o01;refine zU<|wW [(2,vT out1.l)]<|zL<|xG ?_;obtain rfl:=zC hMl;exact uM
def sN (a0:zI):Option (Str):=do
 let s←cat a0.Array (⟨[91]⟩:Str)
 let y←qB a0.Subs
 let s1←cat s y
 let s2←cat s1 (⟨[93]⟩:Str)
 pure (id s2)
theorem kR:∀ a0 r,sN a0=some r→∀ {I:Imm}{p c},(S4 I p a0.Subs c)→RT 191 [vA (cAccess a0 p c)] I [] (tD  r):=by
 intro a0 r N I p c h;unfold sN at N;refine zX (fn:=Tryz.f191) (c:=(bodyOf Tryz.f191)) Tryz.func191 rfl rfl ?_;rintro B - -;have H:=iS I;refine yK<|tO (cAccess a0 p c) ?_;intro b hb;refine yB [] []<|zL<|yI ?_;obtain ⟨s,hy,N⟩:=zB N;obtain ⟨y,hy1,N⟩:=zB N;obtain ⟨s1,hy2,N⟩:=zB N;obtain ⟨s2,hy3,N⟩:=zB N;refine vC [.p (vP b 0) [],.p (vT a0.Array.l) [0],.q (vT s.l),.p (vP b 1) [],.p (vS p a0.Subs c) [0],.q (vT y.l),.q (vT s1.l),.q (vT s2.l)] [[],[(0,false)],[(1,false)],[],[(3,false)],[(4,false)],[(2,false),(5,false)],[(6,false)]] [hB b (cAccess a0 p c)] [] [(7,false)] (yD [0]) ?_ ?_
 · refine Op<|Op<|Oq ?_<|Op<|Op<|Oq ?_<|Oq ?_<|Oq ?_<|On
   · intro I1 hf le1;exact yR [(4,vT a0.Array.l)]<|mB rfl hy<|xI iR
   · intro I1 hf le1;refine yR [(7,vS p a0.Subs c)] ?_;have H:=iS I1;have h:=h.mono le1;refine xS (jO a0.Subs _ hy1 h) ?_;rintro I0 hs2 v2 k2 le - ⟨v0,rfl,rfl,rfl⟩ -;have H:=H.trans le;exact xI H
   · intro I1 hf le1;exact yR [(5,vT s.l),(8,vT y.l)]<|mB rfl hy2<|xI iR
   intro I1 hf le1;exact yR [(9,vT s1.l)]<|mB rfl hy3<|xI iR
 intro I01 le1;refine yR [(10,vT s2.l)] ?_;refine yB [] [(2,vT s2.l)]<|zL<|xG ?_;obtain rfl:=zC N;exact uM
def sZ (e0:zG):Option (Str):=do
 if (e0.Kind == 1) then
  let y←sY e0.Num
  pure (id y)
 else
  if (e0.Kind == 2) then
   let y1←nR e0.Index
   let s←cat (⟨[123]⟩:Str) y1
   let s1←cat s (⟨[125]⟩:Str)
   pure (id s1)
  else
   if (e0.Kind == 3) then
    let y2←sN e0.Read
    pure (id y2)
   else
    let x←idx e0.Kids 0
    let y3←sZ (same x)
    let s2←cat (⟨[40]⟩:Str) y3
    let s3←sslc (⟨[43,45,42]⟩:Str) (W (e0.Kind - 4)) (W ((W (e0.Kind - 4)) + 1))
    let s4←cat s2 s3
    let x1←idx e0.Kids 1
    let y4←sZ (same x1)
    let s5←cat s4 y4
    let s6←cat s5 (⟨[41]⟩:Str)
    pure (id s6)
 partial_fixpoint
theorem zBG:∀ e0 r,sZ e0=some r→∀ {I:Imm}{p c p1 c1 p2 c2},(S4 I p e0.Index.Coefs c)→(S4 I p1 e0.Read.Subs c1)→(S4 I p2 e0.Kids c2)→RT 192 [vA (cExpr e0 p c p1 c1 p2 c2)] I [] (tD  r):=by
 refine sZ.partial_correctness _ fun F_spec_l3Text ih_spec_l3Text e0 r N I p c p1 c1 p2 c2 h h1 h2=>zX (fn:=Tryz.f192) (c:=(bodyOf Tryz.f192)) Tryz.func192 rfl rfl ?_;rintro B - -;have H:=iS I;refine yK<|tO (cExpr e0 p c p1 c1 p2 c2) ?_;intro b hb;refine yB [] []<|yG<|yK<|yB [0] [(4,vI e0.Kind)]<|wD<|yF [(5,.bool (e0.Kind == 1))]<|zL<|yL N ?_ ?_
 · intro hc N;refine yK<|yC 2 [0] [(8,vI e0.Num)]<|bE N fun y hy N=>xS (jV e0.Num _ hy ) ?_;rintro I0 hs2 v2 k2 le - ⟨v0,rfl,rfl,rfl⟩ -;refine yB [] [(2,vT y.l)]<|xP<|yA<|zN ?_;obtain rfl:=zC N;exact uM
 intro hc N;refine yF [(10,.bool (e0.Kind == 2))]<|zL<|yL N ?_ ?_
 · intro hc1 N;refine yK<|yC 2 [0] [(13,vA (cAff e0.Index p c))]<|bE N fun y1 hy1 N=>xS (fX e0.Index _ hy1 h) ?_;rintro I01 hs2 v2 k2 le1 - ⟨v01,rfl,rfl,rfl⟩ -;obtain ⟨s,hy2,N⟩:=zB N;refine mB rfl hy2<|bE N fun s1 hy3 N=>mB rfl hy3<|yB [] [(2,vT s1.l)]<|xP<|yA<|zN ?_;obtain rfl:=zC N;exact uM
 intro hc1 N;refine yF [(17,.bool (e0.Kind == 3))]<|zL<|yL N ?_ ?_
 · intro hc2 N;refine yK<|yC 2 [0] [(20,vA (cAccess e0.Read p1 c1))]<|bE N fun y2 hy4 N=>xS (kR e0.Read _ hy4 h1) ?_;rintro I02 hs2 v2 k2 le2 - ⟨v02,rfl,rfl,rfl⟩ -;refine yB [] [(2,vT y2.l)]<|xP<|yA<|zN ?_;obtain rfl:=zC N;exact uM
 intro hc2 N;refine zV<|zR<|zL<|yI ?_;obtain ⟨x,hy5,N⟩:=zB N;obtain ⟨y3,hy6,N⟩:=zB N;obtain ⟨s2,hy7,N⟩:=zB N;obtain ⟨s3,hy8,N⟩:=zB N;obtain ⟨s4,hy9,N⟩:=zB N;obtain ⟨x1,hy10,N⟩:=zB N;obtain ⟨y4,hy11,N⟩:=zB N;obtain ⟨s5,hy12,N⟩:=zB N;obtain ⟨s6,hy13,N⟩:=zB N;refine vC [.p (vP b 6) [],.p (vS p2 e0.Kids c2) [0],.x (fun I' v hx=>∃ ad p3 c3 p4 c4 p5 c5,v=.pointer (some ad)∧hx=[]∧(At I' ad (cExpr x p3 c3 p4 c4 p5 c5))∧(S4 I' p3 x.Index.Coefs c3)∧(S4 I' p4 x.Read.Subs c4)∧(S4 I' p5 x.Kids c5)),.x (fun I' v hx=>∃ p31 c31 p41 c41 p51 c51,v=vA (cExpr x p31 c31 p41 c41 p51 c51)∧hx=[]∧(S4 I' p31 x.Index.Coefs c31)∧(S4 I' p41 x.Read.Subs c41)∧(S4 I' p51 x.Kids c51)),.q (vT y3.l),.q (vT s2.l),.p (vP b 0) [],.p (vI e0.Kind) [0],.p (vI (W (e0.Kind - 4))) [],.p (vP b 0) [],.p (vI e0.Kind) [0],.p (vI (W (e0.Kind - 4))) [],.p (vI (W ((W (e0.Kind - 4)) + 1))) [],.q (vT s3.l),.q (vT s4.l),.p (vP b 6) [],.p (vS p2 e0.Kids c2) [0],.x (fun I' v hx=>∃ ad1 p6 c6 p7 c7 p8 c8,v=.pointer (some ad1)∧hx=[]∧(At I' ad1 (cExpr x1 p6 c6 p7 c7 p8 c8))∧(S4 I' p6 x1.Index.Coefs c6)∧(S4 I' p7 x1.Read.Subs c7)∧(S4 I' p8 x1.Kids c8)),.x (fun I' v hx=>∃ p61 c61 p71 c71 p81 c81,v=vA (cExpr x1 p61 c61 p71 c71 p81 c81)∧hx=[]∧(S4 I' p61 x1.Index.Coefs c61)∧(S4 I' p71 x1.Read.Subs c71)∧(S4 I' p81 x1.Kids c81)),.q (vT y4.l),.q (vT s5.l),.q (vT s6.l)] [[],[(0,false)],[(1,false)],[(2,false)],[(3,false)],[(4,false)],[],[(6,false)],[(7,false)],[],[(9,false)],[(10,false)],[(11,false)],[(8,false),(12,false)],[(5,false),(13,false)],[],[(15,false)],[(16,false)],[(17,false)],[(18,false)],[(14,false),(19,false)],[(20,false)]] [hB b (cExpr e0 p c p1 c1 p2 c2)] [] [(21,false)] (yD [0]) ?_ ?_
 · refine Op<|Op<|Ox ?_<|Ox ?_<|Oq ?_<|Oq ?_<|Op<|Op<|Op<|Op<|Op<|Op<|Op<|Oq ?_<|Oq ?_<|Op<|Op<|Ox ?_<|Ox ?_<|Oq ?_<|Oq ?_<|Oq ?_<|On
   · intro I1 hf le1;refine yR [(23,vS p2 e0.Kids c2)] ?_;have h2:=h2.mono le1;refine xR rfl rfl h2 hy5 ?_;intro ad ccs hat hrep;obtain ⟨p3,c3,p4,c4,p5,c5,rfl,h6,h7,h8⟩:=uU hrep;exact yP [] iR ⟨_,_,_,_,_,_,_,rfl,rfl,hat,h6,h7,h8⟩
   · intro I1 hf le1;refine zF ?_;rintro _ _ ⟨ad,p3,c3,p4,c4,p5,c5,rfl,rfl,hat,h6,h7,h8⟩;exact yR [(24,.pointer (some ad))]<|xN 0 hat (cExpr x p3 c3 p4 c4 p5 c5) (vA (cExpr x p3 c3 p4 c4 p5 c5)) rfl<|yP [] iR ⟨_,_,_,_,_,_,rfl,rfl,h6,h7,h8⟩
   · intro I1 hf le1;refine zF ?_;rintro _ _ ⟨p31,c31,p41,c41,p51,c51,rfl,rfl,h61,h71,h81⟩;refine yR [(25,vA (cExpr x p31 c31 p41 c41 p51 c51))] ?_;have H:=iS I1;refine xS (ih_spec_l3Text x _ hy6 h61 h71 h81) ?_;rintro I03 hs2 v2 k2 le3 - ⟨v06,rfl,rfl,rfl⟩ -;have H:=H.trans le3;exact xI H
   · intro I1 hf le1;exact yR [(26,vT y3.l)]<|mB rfl hy7<|xI iR
   · intro I1 hf le1;exact yR [(30,vI (W (e0.Kind - 4))),(34,vI (W ((W (e0.Kind - 4)) + 1)))]<|zF9 rfl hy8<|xI iR
   · intro I1 hf le1;exact yR [(27,vT s2.l),(35,vT s3.l)]<|mB rfl hy9<|xI iR
   · intro I1 hf le1;refine yR [(38,vS p2 e0.Kids c2)] ?_;have h2:=h2.mono le1;refine xR rfl rfl h2 hy10 ?_;intro ad1 ccs1 hat1 hrep1;obtain ⟨p6,c6,p7,c7,p8,c8,rfl,h10,h11,h12⟩:=uU hrep1;exact yP [] iR ⟨_,_,_,_,_,_,_,rfl,rfl,hat1,h10,h11,h12⟩
   · intro I1 hf le1;refine zF ?_;rintro _ _ ⟨ad1,p6,c6,p7,c7,p8,c8,rfl,rfl,hat1,h10,h11,h12⟩;exact yR [(39,.pointer (some ad1))]<|xN 0 hat1 (cExpr x1 p6 c6 p7 c7 p8 c8) (vA (cExpr x1 p6 c6 p7 c7 p8 c8)) rfl<|yP [] iR ⟨_,_,_,_,_,_,rfl,rfl,h10,h11,h12⟩
   · intro I1 hf le1;refine zF ?_;rintro _ _ ⟨p61,c61,p71,c71,p81,c81,rfl,rfl,h101,h111,h121⟩;refine yR [(40,vA (cExpr x1 p61 c61 p71 c71 p81 c81))] ?_;have H:=iS I1;refine xS (ih_spec_l3Text x1 _ hy11 h101 h111 h121) ?_;rintro I04 hs2 v2 k2 le4 - ⟨v010,rfl,rfl,rfl⟩ -;have H:=H.trans le4;exact xI H
   · intro I1 hf le1;exact yR [(36,vT s4.l),(41,vT y4.l)]<|mB rfl hy12<|xI iR
   intro I1 hf le1;exact yR [(42,vT s5.l)]<|mB rfl hy13<|xI iR
 intro I05 le5;refine yR [(43,vT s6.l)] ?_;refine yB [] [(2,vT s6.l)]<|zL<|xG ?_;obtain rfl:=zC N;exact uM
def nH (s:zJ):Option (Str):=do
 let y←sH s 4
 if (!y) then
  pure (⟨[]⟩:Str)
 else
  let y1←sN s.Write
  let s1←cat y1 (⟨[61]⟩:Str)
  let y2←sZ s.Value
  let s2←cat s1 y2
  pure (id s2)
theorem zCI:∀ s r,nH s=some r→∀ {I:Imm}{p c p1 c1 p2 c2 p3 c3},(S4 I p s.Write.Subs c)→(S4 I p1 s.Value.Index.Coefs c1)→(S4 I p2 s.Value.Read.Subs c2)→(S4 I p3 s.Value.Kids c3)→RT 176 [vA (cStmt s p c p1 c1 p2 c2 p3 c3)] I [] (tD  r):=by
 intro s r N I p c p1 c1 p2 c2 p3 c3 h h1 h2 h3;unfold nH at N;refine zX (fn:=Tryz.f176) (c:=(bodyOf Tryz.f176)) Tryz.func176 rfl rfl ?_;rintro B - -;have H:=iS I;refine yK<|tO (cStmt s p c p1 c1 p2 c2 p3 c3) ?_;intro b hb;refine yB [] []<|yG<|yK<|yC 1 [0] [(3,vA (cStmt s p c p1 c1 p2 c2 p3 c3))]<|bE N fun y hy N=>tQ (jT s 4 _ hy h h1 h2 h3) ?_;intro I0 le;have h:=h.mono le;have h1:=h1.mono le;have h2:=h2.mono le;have h3:=h3.mono le;have H:=H.trans le;refine yB [] [(5,.bool (!y))]<|zL<|yL N ?_ ?_
 · intro hc N;refine yF [(2,vT ([]))]<|xP<|zN ?_;obtain rfl:=zC N;exact uM
 intro hc N;refine zV<|zL<|yI ?_;obtain ⟨y1,hy1,N⟩:=zB N;obtain ⟨s1,hy2,N⟩:=zB N;obtain ⟨y2,hy3,N⟩:=zB N;obtain ⟨s2,hy4,N⟩:=zB N;refine vC [.p (vP b 0) [],.p (vA (cAccess s.Write p c)) [0],.q (vT y1.l),.q (vT s1.l),.p (vP b 2) [],.p (vA (cExpr s.Value p1 c1 p2 c2 p3 c3)) [0],.q (vT y2.l),.q (vT s2.l)] [[],[(0,false)],[(1,false)],[(2,false)],[],[(4,false)],[(5,false)],[(3,false),(6,false)]] [hB b (cStmt s p c p1 c1 p2 c2 p3 c3)] [] [(7,false)] (yD [0]) ?_ ?_
 · refine Op<|Op<|Oq ?_<|Oq ?_<|Op<|Op<|Oq ?_<|Oq ?_<|On
   · intro I1 hf le1;refine yR [(7,vA (cAccess s.Write p c))] ?_;have H:=iS I1;have h:=h.mono le1;refine xS (kR s.Write _ hy1 h) ?_;rintro I01 hs2 v2 k2 le1 - ⟨v01,rfl,rfl,rfl⟩ -;have H:=H.trans le1;exact xI H
   · intro I1 hf le1;exact yR [(8,vT y1.l)]<|mB rfl hy2<|xI iR
   · intro I1 hf le1;refine yR [(11,vA (cExpr s.Value p1 c1 p2 c2 p3 c3))] ?_;have H:=iS I1;have h1:=h1.mono le1;have h2:=h2.mono le1;have h3:=h3.mono le1;refine xS (zBG s.Value _ hy3 h1 h2 h3) ?_;rintro I02 hs2 v2 k2 le2 - ⟨v02,rfl,rfl,rfl⟩ -;have H:=H.trans le2;exact xI H
   intro I1 hf le1;exact yR [(9,vT s1.l),(12,vT y2.l)]<|mB rfl hy4<|xI iR
 intro I03 le3;refine yR [(13,vT s2.l)] ?_;refine yB [] [(2,vT s2.l)]<|zL<|xG ?_;obtain rfl:=zC N;exact uM
def zBb (r:zJ×Bool):KT:=fun kk I' hs' v=>
  ∃ v0 v1,hs'=[]∧v=tupV [v0,v1]∧(∃ cs,v0=.agg ⟨cs⟩∧Rp.rep I' cs r.1)∧v1=.bool r.2
def oT (text:Str):Option (zJ×Bool):=do
 if (decide ((text.l.length:Int) < 4)) then
  pure ((zJ.mk (zI.mk (⟨[]⟩:Str) ([]:List zA)) (zG.mk 0 0 (zA.mk ([]:List Int) 0) (zI.mk (⟨[]⟩:Str) ([]:List zA)) ([]:List zG))),false)
 else
  let (y1,y2)←rO text 0
  let t25←(do
    if (decide (y2 < 0)) then
     pure true
    else
     pure (decide (y2 ≥ (text.l.length:Int)))
      : Option Bool)
  if t25 then
   pure ((zJ.mk (zI.mk (⟨[]⟩:Str) ([]:List zA)) (zG.mk 0 0 (zA.mk ([]:List Int) 0) (zI.mk (⟨[]⟩:Str) ([]:List zA)) ([]:List zG))),false)
  else
   let (y4,y5)←qA text (W (y2 + 1)) 5
   let y6←nH (zJ.mk y1 y4)
   if (!(y6.l == text.l)) then
    pure ((zJ.mk (zI.mk (⟨[]⟩:Str) ([]:List zA)) (zG.mk 0 0 (zA.mk ([]:List Int) 0) (zI.mk (⟨[]⟩:Str) ([]:List zA)) ([]:List zG))),false)
   else
    pure ((zJ.mk y1 y4),true)
theorem eZ:∀ text r,oT text=some r→∀ {I:Imm} ,RT 139 [vT text.l] I [] (zBb  r):=by
 intro text r N I;unfold oT at N;refine zX (fn:=Tryz.f139) (c:=(bodyOf Tryz.f139)) Tryz.func139 rfl rfl ?_;rintro B - -;have H:=iS I;refine yK<|wU [vT ([]),z0,vI 0,vI 0,z0,vI 0,vT ([]),z0,z0] ?_;intro b hb;refine yB [] []<|yG<|yF [(11,.bool (decide ((text.l.length:Int) < 4)))]<|zL<|yL N ?_ ?_
 · intro hc N;refine yK<|yC 1 [] [(12,vA [vT ([]),z0,vI 0,vI 0,z0,vI 0,vT ([]),z0,z0])]<|xB 0 [vT ([]),z0,vI 0,vI 0,z0,vI 0,vT ([]),z0,z0] [hB b [vT ([]),z0,vI 0,vI 0,z0,vI 0,vT ([]),z0,z0]] rfl rfl rfl rfl<|yB [] [(3,vF)]<|xP<|zN ?_;obtain rfl:=zC N;exact xF ⟨_,_,(.cell 0 rfl rfl (by kernel_rfl) (.tmp rfl ResV.nil)),zT,⟨_,_,rfl,rfl,⟨_,rfl,(wJ ⟨_,_,_,_,rfl,(SL.nil _),(SL.nil _),(SL.nil _),(SL.nil _)⟩)⟩,rfl⟩⟩
 intro hc N;refine zV<|xD<|yC 1 [] [(14,vT text.l)] ?_;obtain ⟨⟨y1,y2⟩,hy,N⟩:=zB N;refine xS (gA text 0 _ hy ) ?_;rintro I0 hs2 v2 k2 le - ⟨v0,v01,rfl,rfl,⟨cs,rfl,h⟩,rfl⟩ -;have H:=H.trans le;obtain ⟨p,c,rfl,h2⟩:=pP h;refine yC 5 [] [(16,vA (cAccess y1 p c)),(17,vI y2)]<|wU [vT ([]),z0] ?_;intro b1 hb1;refine xB 0 (cAccess y1 p c) [hB b1 (cAccess y1 p c),hB b [vT ([]),z0,vI 0,vI 0,z0,vI 0,vT ([]),z0,z0]] rfl rfl rfl rfl<|yB [] [(5,vI y2)]<|yG<|yI ?_;obtain ⟨o0,ho0,hMc⟩:=zB N;refine yU (fun I' hs' m'=>∃ (t25:Bool),o0=t25∧I0.le I'∧hs'=[hB b1 (cAccess y1 p c),hB b [vT ([]),z0,vI 0,vI 0,z0,vI 0,vT ([]),z0,z0]]∧m'=[(0,vT text.l),(2,vP b 0),(4,vP b1 0),(5,vI y2),(25,.bool t25)]) ?_ ?_
 · have H:=iS I0;refine zP<|yC 3 [] [(20,.bool (decide (y2 < 0)))] ?_;cases hc1:(decide (y2 < 0)) with
   | true =>
    have hM0:=zS hc1 ho0
    try rw [hc1]
    exact yB [] [(25,vY)]<|yS [(0,vT text.l),(2,vP b 0),(4,vP b1 0),(5,vI y2),(25,vY)]<|zW (ct hM0 H)
   | false =>
    have hM01:=zQ hc1 ho0
    try rw [hc1]
    exact yB [] [(25,.bool (decide (y2 ≥ (text.l.length:Int))))]<|yS [(0,vT text.l),(2,vP b 0),(4,vP b1 0),(5,vI y2),(25,.bool (decide (y2 ≥ (text.l.length:Int))))]<|zW (ct hM01 H)
 rintro I01 hs2 m2 ⟨t25,heq,le1,rfl,rfl⟩;subst o0;have h2:=h2.mono le1;refine zL<|yL hMc ?_ ?_
 · intro hc2 N;refine yK<|yC 1 [] [(26,vA [vT ([]),z0,vI 0,vI 0,z0,vI 0,vT ([]),z0,z0])]<|xB 1 [vT ([]),z0,vI 0,vI 0,z0,vI 0,vT ([]),z0,z0] [hB b1 (cAccess y1 p c),hB b [vT ([]),z0,vI 0,vI 0,z0,vI 0,vT ([]),z0,z0]] rfl rfl rfl rfl<|yB [] [(3,vF)]<|xP<|zN ?_;obtain rfl:=zC N;exact xF ⟨_,_,(.cell 1 rfl rfl (by kernel_rfl) (.tmp rfl ResV.nil)),zT,⟨_,_,rfl,rfl,⟨_,rfl,(wJ ⟨_,_,_,_,rfl,(SL.nil _),(SL.nil _),(SL.nil _),(SL.nil _)⟩)⟩,rfl⟩⟩
 intro hc2 N;refine zV<|xD<|yC 3 [] [(28,vT text.l),(30,vI (W (y2 + 1)))] ?_;obtain ⟨⟨y4,y5⟩,hy1,N⟩:=zB N;refine xS (zEM text (W (y2 + 1)) 5 _ hy1 ) ?_;rintro I02 hs2 v2 k2 le2 - ⟨v03,v04,rfl,rfl,⟨cs1,rfl,h3⟩,rfl⟩ -;have h2:=h2.mono le2;obtain ⟨p1,c1,p2,c2,p3,c3,rfl,h5,h6,h7⟩:=uU h3;refine yC 7 [] [(32,vA (cExpr y4 p1 c1 p2 c2 p3 c3)),(33,vI y5)]<|wU zExpr ?_;intro b2 hb2;refine xB 0 (cExpr y4 p1 c1 p2 c2 p3 c3) [hB b2 (cExpr y4 p1 c1 p2 c2 p3 c3),hB b1 (cAccess y1 p c),hB b [vT ([]),z0,vI 0,vI 0,z0,vI 0,vT ([]),z0,z0]] rfl rfl rfl rfl<|yB [] []<|xD<|yC 3 [1,0] [(36,vA [vT y1.Array.l,vS p y1.Subs c,vI y4.Kind,vI y4.Num,vS p1 y4.Index.Coefs c1,vI y4.Index.Const,vT y4.Read.Array.l,vS p2 y4.Read.Subs c2,vS p3 y4.Kids c3])]<|wU [vT ([]),z0,vI 0,vI 0,z0,vI 0,vT ([]),z0,z0] ?_;intro b3 hb3;refine xB 0 [vT y1.Array.l,vS p y1.Subs c,vI y4.Kind,vI y4.Num,vS p1 y4.Index.Coefs c1,vI y4.Index.Const,vT y4.Read.Array.l,vS p2 y4.Read.Subs c2,vS p3 y4.Kids c3] [hB b3 [vT y1.Array.l,vS p y1.Subs c,vI y4.Kind,vI y4.Num,vS p1 y4.Index.Coefs c1,vI y4.Index.Const,vT y4.Read.Array.l,vS p2 y4.Read.Subs c2,vS p3 y4.Kids c3],hB b2 (cExpr y4 p1 c1 p2 c2 p3 c3),hB b1 (cAccess y1 p c),hB b [vT ([]),z0,vI 0,vI 0,z0,vI 0,vT ([]),z0,z0]] rfl rfl rfl rfl<|yH rfl<|yG<|yK<|yC 1 [0] [(37,vA [vT y1.Array.l,vS p y1.Subs c,vI y4.Kind,vI y4.Num,vS p1 y4.Index.Coefs c1,vI y4.Index.Const,vT y4.Read.Array.l,vS p2 y4.Read.Subs c2,vS p3 y4.Kids c3])]<|bE N fun y6 hy2 N=>xS (zCI (zJ.mk y1 y4) _ hy2 h2 h5 h6 h7) ?_;rintro I03 hs2 v2 k2 le3 - ⟨v08,rfl,rfl,rfl⟩ -;have h2:=h2.mono le3;have h5:=h5.mono le3;have h6:=h6.mono le3;have h7:=h7.mono le3;refine yB [] [(40,.bool (!(y6.l == text.l)))]<|zL<|yL N ?_ ?_
 · intro hc3 N;refine yK<|yC 1 [] [(41,vA [vT ([]),z0,vI 0,vI 0,z0,vI 0,vT ([]),z0,z0])]<|xB 3 [vT ([]),z0,vI 0,vI 0,z0,vI 0,vT ([]),z0,z0] [hB b3 [vT y1.Array.l,vS p y1.Subs c,vI y4.Kind,vI y4.Num,vS p1 y4.Index.Coefs c1,vI y4.Index.Const,vT y4.Read.Array.l,vS p2 y4.Read.Subs c2,vS p3 y4.Kids c3],hB b2 (cExpr y4 p1 c1 p2 c2 p3 c3),hB b1 (cAccess y1 p c),hB b [vT ([]),z0,vI 0,vI 0,z0,vI 0,vT ([]),z0,z0]] rfl rfl rfl rfl<|yB [] [(3,vF)]<|xP<|zN ?_;obtain rfl:=zC N;exact xF ⟨_,_,(.cell 3 rfl rfl (by kernel_rfl) (.tmp rfl ResV.nil)),zT,⟨_,_,rfl,rfl,⟨_,rfl,(wJ ⟨_,_,_,_,rfl,(SL.nil _),(SL.nil _),(SL.nil _),(SL.nil _)⟩)⟩,rfl⟩⟩
 intro hc3 N;refine zV<|xD<|yC 1 [0] [(42,vA [vT y1.Array.l,vS p y1.Subs c,vI y4.Kind,vI y4.Num,vS p1 y4.Index.Coefs c1,vI y4.Index.Const,vT y4.Read.Array.l,vS p2 y4.Read.Subs c2,vS p3 y4.Kids c3])]<|xB 3 [vT y1.Array.l,vS p y1.Subs c,vI y4.Kind,vI y4.Num,vS p1 y4.Index.Coefs c1,vI y4.Index.Const,vT y4.Read.Array.l,vS p2 y4.Read.Subs c2,vS p3 y4.Kids c3] [hB b3 [vT y1.Array.l,vS p y1.Subs c,vI y4.Kind,vI y4.Num,vS p1 y4.Index.Coefs c1,vI y4.Index.Const,vT y4.Read.Array.l,vS p2 y4.Read.Subs c2,vS p3 y4.Kids c3],hB b2 (cExpr y4 p1 c1 p2 c2 p3 c3),hB b1 (cAccess y1 p c),hB b [vT y1.Array.l,vS p y1.Subs c,vI y4.Kind,vI y4.Num,vS p1 y4.Index.Coefs c1,vI y4.Index.Const,vT y4.Read.Array.l,vS p2 y4.Read.Subs c2,vS p3 y4.Kids c3]] rfl rfl rfl rfl<|yB [] [(3,vY)]<|zL<|xG ?_;obtain rfl:=zC N;exact xF ⟨_,_,(.cell 3 rfl rfl (by kernel_rfl) (.tmp rfl ResV.nil)),zT,⟨_,_,rfl,rfl,⟨_,rfl,(wJ ⟨_,_,_,_,rfl,h2,h5,h6,h7⟩)⟩,rfl⟩⟩
def dA (r:(List zE)×Bool):KT:=fun kk I' hs' v=>
  ∃ v0 v1,hs'=[]∧v=tupV [v0,v1]∧SL I' v0 r.1∧v1=.bool r.2
def qC (sizes:(List Int)) (out:List zE) (i:Int):Option (Out (List zE) ((List zE)×Bool)):=do
 if (decide (i < (sizes.length:Int))) then
  let t28←(do
    let x←idx sizes i
    if (decide (x < 0)) then
     pure true
    else
     let x1←idx sizes i
     pure (decide (x1 > 99))
      : Option Bool)
  if t28 then
   pure (.ret (([]:List zE),false))
  else
   let y←pI
   let x2←idx sizes i
   let y1←wK x2
   let out2←app 48 out ([(zE.mk ([y]:List zA) ([y1]:List zA))]:List zE)
   qC sizes out2 (W (i + 1))
 else
  pure (.done out)
 partial_fixpoint
theorem zCJ (sizes:(List Int)):∀ (out:List zE) (i:Int) (o:Out (List zE) ((List zE)×Bool)),qC sizes out i=some o→∀ {B}{I0 I:Imm}{Q p c p1 c1 cs},I0.le I→(S4 I p sizes c)→(RL I cs out)→NG Q→NO Q→(∀ (I':Imm) (out1:List zE) (p2:Option Addr) (c2:Nat) (cs1:List Value),o=(.done out1)→I0.le I'→(RL I' cs1 out1)→T 43 B Q (.exit 0) I' [hO zE (vS p2 out1 c2) cs1] [(4,vS p2 out1 c2)])→(∀ r I' hs' m',o=(.ret r)→I0.le I'→RS Tryz.prog Tryz.f140 B (dA  r) I' hs' m'→T 43 B Q .ret I' hs' m')→J Tryz.prog 43 B (nav (bodyOf Tryz.f140) [1,1,1,0,1,0]) Q I [hO zE (vS p1 out c1) cs] [(0,vS p sizes c),(4,vS p1 out c1),(5,vI i)]:=by
 refine qC.partial_correctness sizes _ fun self ih out i o N B I0 I Q p c p1 c1 cs H h h3 hg ho hx hr=>yW hg ho<|yI<|yF [(14,.bool (decide (i < (sizes.length:Int))))]<|zL<|yL N ?_ ?_
 · intro hc1 N;refine zV<|yG<|yM<|yI<|yI ?_;obtain ⟨o0,ho0,hMc⟩:=zB N;refine yU (fun I' hs' m'=>∃ (t28:Bool),o0=t28∧I.le I'∧hs'=[hO zE (vS p1 out c1) cs]∧m'=[(0,vS p sizes c),(4,vS p1 out c1),(5,vI i),(28,.bool t28)]) ?_ ?_
   · have H:=iS I;refine zP<|yC 2 [] [(17,vS p sizes c),(18,vI i)] ?_;obtain ⟨x,hy,N⟩:=zB ho0;refine xR rfl rfl h hy ?_;intro ad ccs hat hrep;obtain rfl:=hrep;refine xN 0 hat [vI x] (vI x) rfl<|yC 6 [] [(22,.bool (decide (x < 0)))] ?_;cases hc2:(decide (x < 0)) with
     | true =>
      have hM0:=zS hc2 N
      try rw [hc2]
      exact yB [] [(28,vY)]<|yS [(0,vS p sizes c),(4,vS p1 out c1),(5,vI i),(28,vY)]<|zW (ct hM0 H)
     | false =>
      have hM01:=zQ hc2 N
      try rw [hc2]
      refine yC 8 [] [(23,vS p sizes c),(24,vI i)] ?_;obtain ⟨x1,hy1,N⟩:=zB hM01;refine xR rfl rfl h hy1 ?_;intro ad1 ccs1 hat1 hrep1;obtain rfl:=hrep1;exact xN 0 hat1 [vI x1] (vI x1) rfl<|yB [] [(28,.bool (decide (x1 > 99)))]<|yS [(0,vS p sizes c),(4,vS p1 out c1),(5,vI i),(28,.bool (decide (x1 > 99)))]<|zW (ct N H)
   rintro I01 hs2 m2 ⟨t28,heq,le1,rfl,rfl⟩;subst o0;have h:=h.mono le1;have h3:=iM le1 h3;have H:=H.trans le1;refine zL<|yL hMc ?_ ?_
   · intro hc3 N;refine yK<|xU [] zE ?_;intro b1 hb1;have h5:RL I01 [] ([]:List zE):=rfl;refine yB [] [(2,vS (some ⟨b1,0,none⟩) ([]:List zE) 0),(3,vF)]<|xP<|zN<|yA<|zN<|zN<|xA 0 rfl ?_;intro I02 le2 hl01;have h6:=SL.of_frozen hl01 le2 h5;have H:=H.trans le2;exact hr _ _ _ _ (zC N).symm H ⟨_,_,(.tmp rfl (.tmp rfl ResV.nil)),zT,⟨_,_,rfl,rfl,h6,rfl⟩⟩
   intro hc3 N;refine zV<|zL ?_;obtain ⟨y,hy2,N⟩:=zB N;obtain ⟨x2,hy3,N⟩:=zB N;obtain ⟨y1,hy4,N⟩:=zB N;obtain ⟨out2,hy5,N⟩:=zB N;refine vC [.p (vS p1 out c1) [],.x (fun I' v hx=>∃ p3 c3 cs2,v=vA (cAff y p3 c3)∧hx=[hO Int (vS p3 y.Coefs c3) cs2]∧(RL I' cs2 y.Coefs)),.x (fun I' v hx=>∃ b2,v=vS (some ⟨b2,0,none⟩) ([y]:List zA) 1∧hx=[]∧(SL I' (vS (some ⟨b2,0,none⟩) ([y]:List zA) 1) ([y]:List zA))),.p (vS p sizes c) [],.p (vI i) [],.x (fun I' v hx=>∃ ad2,v=.pointer (some ad2)∧hx=[]∧(At I' ad2 [vI x2])),.q (vI x2),.x (fun I' v hx=>∃ p4 c4 cs3,v=vA (cAff y1 p4 c4)∧hx=[hO Int (vS p4 y1.Coefs c4) cs3]∧(RL I' cs3 y1.Coefs)),.x (fun I' v hx=>∃ b3,v=vS (some ⟨b3,0,none⟩) ([y1]:List zA) 1∧hx=[]∧(SL I' (vS (some ⟨b3,0,none⟩) ([y1]:List zA) 1) ([y1]:List zA))),.x (fun I' v hx=>∃ b21 b31,v=vA [vS (some ⟨b21,0,none⟩) ([y]:List zA) 1,vS (some ⟨b31,0,none⟩) ([y1]:List zA) 1]∧hx=[]∧(SL I' (vS (some ⟨b21,0,none⟩) ([y]:List zA) 1) ([y]:List zA))∧(SL I' (vS (some ⟨b31,0,none⟩) ([y1]:List zA) 1) ([y1]:List zA))),.x (fun I' v hx=>∃ b4,v=vS (some ⟨b4,0,none⟩) ([(zE.mk ([y]:List zA) ([y1]:List zA))]:List zE) 1∧hx=[]∧(SL I' (vS (some ⟨b4,0,none⟩) ([(zE.mk ([y]:List zA) ([y1]:List zA))]:List zE) 1) ([(zE.mk ([y]:List zA) ([y1]:List zA))]:List zE))),.x (fun I' v hx=>∃ p5 c5 cs4,v=vS p5 out2 c5∧hx=[hO zE (vS p5 out2 c5) cs4]∧(RL I' cs4 out2))] [[],[],[(1,true)],[],[],[(3,false),(4,false)],[(5,false)],[(6,false)],[(7,true)],[(2,false),(8,false)],[(9,false)],[(0,false),(10,false),(13,true)]] [] [[hO zE (vS p1 out c1) cs]] [(11,true)] (yD [0]) ?_ ?_
   · refine Op<|Ox ?_<|Ox ?_<|Op<|Op<|Ox ?_<|Oq ?_<|Ox ?_<|Ox ?_<|Ox ?_<|Ox ?_<|Ox ?_<|On
     · intro I1 hf le1;refine yR [] ?_;have H:=iS I1;refine xS (mD  _ hy2 ) ?_;rintro I03 hs2 v2 k2 le3 - ⟨p3,c3,cs2,rfl,rfl,h7⟩ -;have H:=H.trans le3;exact yP [hO Int (vS p3 y.Coefs c3) cs2] H ⟨_,_,_,rfl,rfl,h7⟩
     · intro I1 hf le1;refine zF ?_;rintro _ _ ⟨p3,c3,cs2,rfl,rfl,h7⟩;refine yR [(31,vA (cAff y p3 c3))] ?_;have H:=iS I1;refine yJ 0 rfl ?_;intro I04 le4 hl02;have h8:=SL.of_frozen hl02 le4 h7;have H:=H.trans le4;refine xU (cAff y p3 c3) zA ?_;intro b2 hb2;have h9:RL I04 (cAff y p3 c3) ([y]:List zA):=⟨(cAff y p3 c3),_,rfl,rfl,(yN ⟨_,rfl,h8⟩),rfl⟩;refine yJ 0 rfl ?_;intro I05 le5 hl03;have h10:=SL.of_frozen hl03 le5 h9;have H:=H.trans le5;exact yP [] H ⟨_,rfl,rfl,h10⟩
     · intro I1 hf le1;refine yR [(33,vS p sizes c),(34,vI i)] ?_;have h:=h.mono le1;refine xR rfl rfl h hy3 ?_;intro ad2 ccs2 hat2 hrep2;obtain rfl:=hrep2;exact yP [] iR ⟨_,rfl,rfl,hat2⟩
     · intro I1 hf le1;refine zF ?_;rintro _ _ ⟨ad2,rfl,rfl,hat2⟩;exact yR [(35,.pointer (some ad2))]<|xN 0 hat2 [vI x2] (vI x2) rfl<|xI iR
     · intro I1 hf le1;refine yR [(36,vI x2)] ?_;have H:=iS I1;refine xS (vX x2 _ hy4 ) ?_;rintro I06 hs2 v2 k2 le6 - ⟨p4,c4,cs3,rfl,rfl,h11⟩ -;have H:=H.trans le6;exact yP [hO Int (vS p4 y1.Coefs c4) cs3] H ⟨_,_,_,rfl,rfl,h11⟩
     · intro I1 hf le1;refine zF ?_;rintro _ _ ⟨p4,c4,cs3,rfl,rfl,h11⟩;refine yR [(37,vA (cAff y1 p4 c4))] ?_;have H:=iS I1;refine yJ 0 rfl ?_;intro I07 le7 hl04;have h12:=SL.of_frozen hl04 le7 h11;have H:=H.trans le7;refine xU (cAff y1 p4 c4) zA ?_;intro b3 hb3;have h13:RL I07 (cAff y1 p4 c4) ([y1]:List zA):=⟨(cAff y1 p4 c4),_,rfl,rfl,(yN ⟨_,rfl,h12⟩),rfl⟩;refine yJ 0 rfl ?_;intro I08 le8 hl05;have h14:=SL.of_frozen hl05 le8 h13;have H:=H.trans le8;exact yP [] H ⟨_,rfl,rfl,h14⟩
     · intro I1 hf le1;refine zF ?_;rintro _ _ ⟨b2,rfl,rfl,h10⟩;refine zF ?_;rintro _ _ ⟨b3,rfl,rfl,h14⟩;exact yR [(32,vS (some ⟨b2,0,none⟩) ([y]:List zA) 1),(38,vS (some ⟨b3,0,none⟩) ([y1]:List zA) 1)]<|pM 10 [(39,vA [vS (some ⟨b2,0,none⟩) ([y]:List zA) 1,vS (some ⟨b3,0,none⟩) ([y1]:List zA) 1])]<|yP [] iR ⟨_,_,rfl,rfl,h10,h14⟩
     · intro I1 hf le1;refine zF ?_;rintro _ _ ⟨b21,b31,rfl,rfl,h101,h141⟩;refine yR [(39,vA [vS (some ⟨b21,0,none⟩) ([y]:List zA) 1,vS (some ⟨b31,0,none⟩) ([y1]:List zA) 1])] ?_;have H:=iS I1;refine xU [vS (some ⟨b21,0,none⟩) ([y]:List zA) 1,vS (some ⟨b31,0,none⟩) ([y1]:List zA) 1] zE ?_;intro b4 hb4;have h15:RL I1 [vS (some ⟨b21,0,none⟩) ([y]:List zA) 1,vS (some ⟨b31,0,none⟩) ([y1]:List zA) 1] ([(zE.mk ([y]:List zA) ([y1]:List zA))]:List zE):=⟨[vS (some ⟨b21,0,none⟩) ([y]:List zA) 1,vS (some ⟨b31,0,none⟩) ([y1]:List zA) 1],_,rfl,rfl,(sW ⟨_,_,rfl,h101,h141⟩),rfl⟩;refine yJ 0 rfl ?_;intro I09 le9 hl06;have h16:=SL.of_frozen hl06 le9 h15;have H:=H.trans le9;exact yP [] H ⟨_,rfl,rfl,h16⟩
     intro I1 hf le1;refine zF ?_;rintro _ _ ⟨rfl,rfl⟩;refine zF ?_;rintro _ _ ⟨b4,rfl,rfl,h16⟩;refine zF ?_;rintro _ _ rfl;refine yR [(30,vS p1 out c1),(40,vS (some ⟨b4,0,none⟩) ([(zE.mk ([y]:List zA) ([y1]:List zA))]:List zE) 1)] ?_;have h3:=iM le1 h3;obtain ⟨ccs3,k0,k01⟩:=h16;have h16:SL I1 (vS (some ⟨b4,0,none⟩) ([(zE.mk ([y]:List zA) ([y1]:List zA))]:List zE) 1) ([(zE.mk ([y]:List zA) ([y1]:List zA))]:List zE):=⟨_,k0,k01⟩;exact qI 169 2 0 rfl rfl rfl h3 (.inl k0) k01 hy5 fun p5 c5 cs4 h17=>vJ (hs':=(hO zE (vS p5 out2 c5) cs4::hf)) rfl<|yP [hO zE (vS p5 out2 c5) cs4] iR ⟨_,_,_,rfl,rfl,h17⟩
   intro I010 le10;refine zF ?_;rintro _ _ ⟨p5,c5,cs4,rfl,rfl,h17⟩;refine yR [(0,vS p sizes c),(5,vI i),(41,vS p5 out2 c5)] ?_;have h:=h.mono le10;have H:=H.trans le10;exact yB [] [(4,vS p5 out2 c5)]<|zR<|zL<|zP<|yB [] [(5,vI (W (i + 1)))]<|yT<|wN [(0,vS p sizes c),(4,vS p5 out2 c5),(5,vI (W (i + 1)))]<|ih out2 (W (i + 1)) _ N H h h17 hg ho hx hr
 intro hc1 N;exact vD<|yS [(4,vS p1 out c1)]<|hx _ _ _ _ _ (zC N).symm H h3
def kS (sizes:(List Int)):Option ((List zE)×Bool):=do
 if (decide ((sizes.length:Int) > 4)) then
  pure (([]:List zE),false)
 else
  match←qC sizes ([]:List zE) 0 with
  | .ret r0=>pure r0
  | .done out1 =>
   pure (out1,true)
theorem zEN:∀ sizes r,kS sizes=some r→∀ {I:Imm}{p c},(S4 I p sizes c)→RT 140 [vS p sizes c] I [] (dA  r):=by
 intro sizes r N I p c h;unfold kS at N;refine zX (fn:=Tryz.f140) (c:=(bodyOf Tryz.f140)) Tryz.func140 rfl rfl ?_;rintro B - -;refine yF []<|xD<|xU [] zE ?_;intro b hb;have h1:RL I [] ([]:List zE):=rfl;refine yB [] [(4,vS (some ⟨b,0,none⟩) ([]:List zE) 0)]<|yG<|yF [(9,.bool (decide ((sizes.length:Int) > 4)))]<|zL<|yL N ?_ ?_
 · intro hc N;refine yF [(2,vS (some ⟨b,0,none⟩) ([]:List zE) 0),(3,vF)]<|xP<|zN<|xA 0 rfl ?_;intro I0 le hl0;have h2:=SL.of_frozen hl0 le h1;obtain rfl:=zC N;exact xF ⟨_,_,(.tmp rfl (.tmp rfl ResV.nil)),zT,⟨_,_,rfl,rfl,h2,rfl⟩⟩
 intro hc N;refine zV<|yG<|yF [(5,vI 0)]<|wD<|wN [(0,vS p sizes c),(4,vS (some ⟨b,0,none⟩) ([]:List zE) 0),(5,vI 0)] ?_;obtain ⟨o01,ho01,hMl⟩:=zB N;refine zCJ sizes ([]:List zE) 0 o01 ho01 iR h h1 (fun _ _ _ h=>h) (fun _ _ h=>h) ?_ ?_
 · intro I011 out1 p2 c2 cs1 heq1 le11 h4;subst o01;refine zU<|wW [(2,vS p2 out1 c2),(3,vY)]<|xP<|xA 0 rfl ?_;intro I012 le12 hl07;have h18:=SL.of_frozen hl07 le12 h4;obtain rfl:=zC hMl;exact xF ⟨_,_,(.tmp rfl (.tmp rfl ResV.nil)),zT,⟨_,_,rfl,rfl,h18,rfl⟩⟩
 intro r0 I9 hs9 m9 heq9 le9 hrs9;subst heq9;refine yA<|zN ?_;obtain rfl:=zC hMl;exact xF hrs9
def zAD (b0:Nat) (r:zK×zM):KT:=fun kk I' hs' v=>
  ∃ v0 k0,hs'=[.blk b0 ⟨k0⟩]∧v=tupV [v0]∧(∃ cs,v0=.agg ⟨cs⟩∧Rp.rep I' cs r.1)∧Rp.rep I' k0 r.2
def qZ (y1:(List zE)) (Body2:List zJ) (n0:Int) (x6:zM):Option ((List zJ×zM)):=do
 if (decide (n0 < 5)) then
  let (y7,y8)←jD x6 (y1.length:Int)
  let y9←nO
  let (y11,y12)←pK y9 (zK.mk y1 ([y7]:List zJ))
  if y12 then
   let l←app 152 Body2 ([y7]:List zJ)
   pure (l,y8)
  else
   qZ y1 Body2 (W (n0 + 1)) y8
 else
  pure (Body2,x6)
 partial_fixpoint
theorem zCt (y1:(List zE)) (Body2:List zJ):∀ (n0:Int) (x6:zM) (o:(List zJ×zM)),qZ y1 Body2 n0 x6=some o→∀ {B}{I0 I:Imm}{Q}{i:Int}{x:zK}{k0:Int}{r01:Nat}{b:Nat}{p1 c1 p2 c2 p7 c7}{b1:Nat}{p14 c14 cs2 p15 c15},I0.le I→(S4 I p7 y1 c7)→(S4 I p1 x.Nest c1)→(S4 I p2 x.Body c2)→(RL I cs2 Body2)→(S4 I p15 x6.b c15)→NG Q→NO Q→(∀ (I':Imm) (Body3:List zJ) (x7:zM) (p16:Option Addr) (c16:Nat) (cs3:List Value) (p17:Option Addr) (c17:Nat),o=(Body3,x7)→I0.le I'→(RL I' cs3 Body3)→(S4 I' p17 x7.b c17)→T 81 B Q (.exit 4) I' [hO zJ (vS p16 Body3 c16) cs3,hB r01 (cRd x7 p17 c17),hB b1 [vS p7 y1 c7,vS p16 Body3 c16],hB b (cPart x p1 c1 p2 c2)] [(0,vP r01 0),(2,vP b 0),(3,vI i),(4,vP b1 0),(5,vI k0)])→J Tryz.prog 81 B (nav (bodyOf Tryz.f86) [1,0,1,0,0,1,0,0,1,0,1,0,0,1,0,0,1,0]) Q I [hO zJ (vS p14 Body2 c14) cs2,hB r01 (cRd x6 p15 c15),hB b1 [vS p7 y1 c7,vS p14 Body2 c14],hB b (cPart x p1 c1 p2 c2)] [(0,vP r01 0),(2,vP b 0),(3,vI i),(4,vP b1 0),(5,vI k0),(6,vI n0)]:=by
 refine qZ.partial_correctness y1 Body2 _ fun self ih n0 x6 o N B I0 I Q i x k0 r01 b p1 c1 p2 c2 p7 c7 b1 p14 c14 cs2 p15 c15 H h7 h1 h2 h20 h21 hg ho hx=>yW hg ho<|yI<|yF [(31,.bool (decide (n0 < 5)))]<|zL<|yL N ?_ ?_
 · intro hc2 N;refine zV<|yG<|yM<|yK<|yC 4 [2] [(34,vP r01 0),(37,vI (y1.length:Int))]<|sU (yD [1,0,2,3] (hs':=[hB r01 (cRd x6 p15 c15),hO zJ (vS p14 Body2 c14) cs2,hB b1 [vS p7 y1 c7,vS p14 Body2 c14],hB b (cPart x p1 c1 p2 c2)])) ?_;obtain ⟨⟨y7,y8⟩,hy2,N⟩:=zB N;refine tS [hB r01 (cRd x6 p15 c15)] [hO zJ (vS p14 Body2 c14) cs2,hB b1 [vS p7 y1 c7,vS p14 Body2 c14],hB b (cPart x p1 c1 p2 c2)] (zEx x6 (y1.length:Int) _ hy2 h21) ?_;rintro I03 hs2 v2 k2 le3 - ⟨v04,kk2,rfl,rfl,⟨cs4,rfl,h24⟩,h25⟩ -;have h20:=iM le3 h20;have h7:=h7.mono le3;have h1:=h1.mono le3;have h2:=h2.mono le3;have H:=H.trans le3;obtain ⟨p18,c18,p19,c19,p20,c20,p21,c21,rfl,h26,h27,h28,h29⟩:=rC h24;obtain ⟨p22,c22,rfl,h30⟩:=yE h25;refine wU [vT ([]),z0,vI 0,vI 0,z0,vI 0,vT ([]),z0,z0] ?_;intro b3 hb3;refine xB 0 (cStmt y7 p18 c18 p19 c19 p20 c20 p21 c21) [hB b3 (cStmt y7 p18 c18 p19 c19 p20 c20 p21 c21),hB r01 (cRd y8 p22 c22),hO zJ (vS p14 Body2 c14) cs2,hB b1 [vS p7 y1 c7,vS p14 Body2 c14],hB b (cPart x p1 c1 p2 c2)] rfl rfl rfl rfl<|yH rfl<|zL<|yI ?_;obtain ⟨y9,hy3,N⟩:=zB N;obtain ⟨⟨y11,y12⟩,hy4,N⟩:=zB N;refine vC [.x (fun I' v hx=>∃ p23 c23,v=vS p23 y9 c23∧hx=[]∧(S4 I' p23 y9 c23)),.p (vP b1 0) [],.p (vS p7 y1 c7) [3],.p (vA (cStmt y7 p18 c18 p19 c19 p20 c20 p21 c21)) [0],.x (fun I' v hx=>∃ b4,v=vS (some ⟨b4,0,none⟩) ([y7]:List zJ) 1∧hx=[]∧(SL I' (vS (some ⟨b4,0,none⟩) ([y7]:List zJ) 1) ([y7]:List zJ))),.x (fun I' v hx=>∃ b41,v=vA [vS p7 y1 c7,vS (some ⟨b41,0,none⟩) ([y7]:List zJ) 1]∧hx=[]∧(SL I' (vS (some ⟨b41,0,none⟩) ([y7]:List zJ) 1) ([y7]:List zJ))),.q (.tuple ⟨[vI y11,.bool y12]⟩),.p (.tuple ⟨[vI y11,.bool y12]⟩) [],.p (vI y11) [],.p (.bool y12) [],.p (vI y11) []] [[],[],[(1,false)],[],[(3,false)],[(2,false),(4,false)],[(0,false),(5,false)],[(6,false)],[(7,false)],[(7,false)],[(8,false)]] [hB b3 (cStmt y7 p18 c18 p19 c19 p20 c20 p21 c21),hB r01 (cRd y8 p22 c22),hO zJ (vS p14 Body2 c14) cs2,hB b1 [vS p7 y1 c7,vS p14 Body2 c14],hB b (cPart x p1 c1 p2 c2)] [] [(9,false)] (yD [0,1,2,3,4]) ?_ ?_
   · refine Ox ?_<|Op<|Op<|Op<|Ox ?_<|Ox ?_<|Oq ?_<|Op<|Op<|Op<|Op<|On
     · intro I1 hf le1;refine yR [] ?_;have H:=iS I1;refine xS (jU  _ hy3 ) ?_;rintro I04 hs2 v2 k2 le4 - ⟨v010,rfl,rfl,h31⟩ -;have H:=H.trans le4;obtain ⟨p23,c23,rfl⟩:=h31.form;exact yP [] H ⟨_,_,rfl,rfl,h31⟩
     · intro I1 hf le1;refine yR [(43,vA (cStmt y7 p18 c18 p19 c19 p20 c20 p21 c21))] ?_;have H:=iS I1;have h26:=h26.mono le1;have h27:=h27.mono le1;have h28:=h28.mono le1;have h29:=h29.mono le1;refine xU (cStmt y7 p18 c18 p19 c19 p20 c20 p21 c21) zJ ?_;intro b4 hb4;have h32:RL I1 (cStmt y7 p18 c18 p19 c19 p20 c20 p21 c21) ([y7]:List zJ):=⟨(cStmt y7 p18 c18 p19 c19 p20 c20 p21 c21),_,rfl,rfl,(wJ ⟨_,_,_,_,rfl,h26,h27,h28,h29⟩),rfl⟩;refine yJ 0 rfl ?_;intro I05 le5 hl01;have h33:=SL.of_frozen hl01 le5 h32;have H:=H.trans le5;exact yP [] H ⟨_,rfl,rfl,h33⟩
     · intro I1 hf le1;refine zF ?_;rintro _ _ ⟨rfl,rfl⟩;refine zF ?_;rintro _ _ ⟨b4,rfl,rfl,h33⟩;refine yR [(42,vS p7 y1 c7),(44,vS (some ⟨b4,0,none⟩) ([y7]:List zJ) 1)] ?_;exact pM 6 [(45,vA [vS p7 y1 c7,vS (some ⟨b4,0,none⟩) ([y7]:List zJ) 1])]<|yP [] iR ⟨_,rfl,rfl,h33⟩
     intro I1 hf le1;refine zF ?_;rintro _ _ ⟨p23,c23,rfl,rfl,h31⟩;refine zF ?_;rintro _ _ ⟨b41,rfl,rfl,h331⟩;refine yR [(40,vS p23 y9 c23),(45,vA [vS p7 y1 c7,vS (some ⟨b41,0,none⟩) ([y7]:List zJ) 1])] ?_;have H:=iS I1;have h7:=h7.mono le1;refine xS (fV y9 (zK.mk y1 ([y7]:List zJ)) _ hy4 h31 h7 h331) ?_;rintro I06 hs2 v2 k2 le6 - ⟨v011,v012,rfl,rfl,rfl,rfl⟩ -;have H:=H.trans le6;exact xI H
   intro I07 le7;refine yR [(0,vP r01 0),(2,vP b 0),(3,vI i),(4,vP b1 0),(5,vI k0),(6,vI n0),(7,vP b3 0),(48,.bool y12)] ?_;have h26:=h26.mono le7;have h27:=h27.mono le7;have h28:=h28.mono le7;have h29:=h29.mono le7;have h30:=h30.mono le7;have h20:=iM le7 h20;have h7:=h7.mono le7;have h1:=h1.mono le7;have h2:=h2.mono le7;have H:=H.trans le7;refine yB [] [(9,.bool y12)]<|wW [(49,.bool y12)]<|zL<|yL N ?_ ?_
   · intro hc3 N;refine yK<|yC 3 [3,0] [(51,vS p14 Body2 c14),(52,vA (cStmt y7 p18 c18 p19 c19 p20 c20 p21 c21))]<|xU (cStmt y7 p18 c18 p19 c19 p20 c20 p21 c21) zJ ?_;intro b5 hb5;have h36:RL I07 (cStmt y7 p18 c18 p19 c19 p20 c20 p21 c21) ([y7]:List zJ):=⟨(cStmt y7 p18 c18 p19 c19 p20 c20 p21 c21),_,rfl,rfl,(wJ ⟨_,_,_,_,rfl,h26,h27,h28,h29⟩),rfl⟩;obtain ⟨l,hy5,N⟩:=zB N;refine qI 49 9 3 rfl rfl rfl h20 (.inr ⟨0,rfl⟩) h36 hy5 ?_;intro p24 c24 cs5 h37;exact sU (yD [1,2,3,4,5] (hs':=[hB b3 (cStmt y7 p18 c18 p19 c19 p20 c20 p21 c21),hB r01 (cRd y8 p22 c22),hO zJ (vS p24 l c24) cs5,hB b1 [vS p7 y1 c7,vS p14 Body2 c14],hB b (cPart x p1 c1 p2 c2)]))<|yC 6 [] [(55,vP b1 1)]<|xB 3 [vS p7 y1 c7,vS p24 l c24] [hB b3 (cStmt y7 p18 c18 p19 c19 p20 c20 p21 c21),hB r01 (cRd y8 p22 c22),hO zJ (vS p24 l c24) cs5,hB b1 [vS p7 y1 c7,vS p24 l c24],hB b (cPart x p1 c1 p2 c2)] rfl rfl rfl rfl<|yH rfl<|zL<|zAn<|zF7 rfl<|oJ<|oJ<|wC (zZ [2,1,3,4] rfl (by decide))<|yS [(0,vP r01 0),(2,vP b 0),(3,vI i),(4,vP b1 0),(5,vI k0)]<|hx _ _ _ _ _ _ _ _ (zC N).symm H h37 h30
   intro hc3 N;exact zV<|zR<|zL<|zP<|yB [] [(6,vI (W (n0 + 1)))]<|yT<|rM (zZ [2,1,3,4] rfl (by decide))<|wN [(0,vP r01 0),(2,vP b 0),(3,vI i),(4,vP b1 0),(5,vI k0),(6,vI (W (n0 + 1)))]<|ih (W (n0 + 1)) y8 _ N H h7 h1 h2 h20 h30 hg ho hx
 intro hc2 N;exact vD<|yS [(0,vP r01 0),(2,vP b 0),(3,vI i),(4,vP b1 0),(5,vI k0)]<|hx _ _ _ _ _ _ _ _ (zC N).symm H h20 h21
def pA (y1:(List zE)) (k0:Int) (Body:List zJ) (x4:zM):Option ((List zJ×zM)):=do
 if (decide (k0 > 0)) then
  let (Body3,x7)←qZ y1 Body 0 x4
  pA y1 (W (k0 - 1)) Body3 x7
 else
  pure (Body,x4)
 partial_fixpoint
theorem zCu (y1:(List zE)):∀ (k0:Int) (Body:List zJ) (x4:zM) (o:(List zJ×zM)),pA y1 k0 Body x4=some o→∀ {B}{I0 I:Imm}{Q}{i:Int}{x:zK}{r01:Nat}{b:Nat}{p1 c1 p2 c2 p7 c7}{b1:Nat}{p10 c10 cs p11 c11},I0.le I→(S4 I p7 y1 c7)→(S4 I p1 x.Nest c1)→(S4 I p2 x.Body c2)→(RL I cs Body)→(S4 I p11 x4.b c11)→NG Q→NO Q→(∀ (I':Imm) (Body1:List zJ) (x5:zM) (p12:Option Addr) (c12:Nat) (cs1:List Value) (p13:Option Addr) (c13:Nat),o=(Body1,x5)→I0.le I'→(RL I' cs1 Body1)→(S4 I' p13 x5.b c13)→T 81 B Q (.exit 2) I' [hO zJ (vS p12 Body1 c12) cs1,hB r01 (cRd x5 p13 c13),hB b1 [vS p7 y1 c7,vS p12 Body1 c12],hB b (cPart x p1 c1 p2 c2)] [(0,vP r01 0),(2,vP b 0),(3,vI i),(4,vP b1 0)])→J Tryz.prog 81 B (nav (bodyOf Tryz.f86) [1,0,1,0,0,1,0,0,1,0,1,0]) Q I [hO zJ (vS p10 Body c10) cs,hB r01 (cRd x4 p11 c11),hB b1 [vS p7 y1 c7,vS p10 Body c10],hB b (cPart x p1 c1 p2 c2)] [(0,vP r01 0),(2,vP b 0),(3,vI i),(4,vP b1 0),(5,vI k0)]:=by
 refine pA.partial_correctness y1 _ fun self ih k0 Body x4 o N B I0 I Q i x r01 b p1 c1 p2 c2 p7 c7 b1 p10 c10 cs p11 c11 H h7 h1 h2 h16 h17 hg ho hx=>yW hg ho<|yI<|yF [(27,.bool (decide (k0 > 0)))]<|zL<|yL N ?_ ?_
 · intro hc1 N;refine zV<|yG<|yM<|yF [(6,vI 0)]<|wD<|wN [(0,vP r01 0),(2,vP b 0),(3,vI i),(4,vP b1 0),(5,vI k0),(6,vI 0)] ?_;obtain ⟨o0,ho0,hMl⟩:=zB N;refine zCt y1 Body 0 x4 o0 ho0 iR h7 h1 h2 h16 h17 (fun _ _ _ h=>hg _ _ _ h) (fun _ _ h=>ho _ _ h) ?_;intro I08 Body3 x7 p16 c16 cs3 p17 c17 heq le8 h22 h23;subst o0;have h7:=h7.mono le8;have h1:=h1.mono le8;have h2:=h2.mono le8;have H:=H.trans le8;exact zU<|zR<|zL<|zP<|yB [] [(5,vI (W (k0 - 1)))]<|yT<|wN [(0,vP r01 0),(2,vP b 0),(3,vI i),(4,vP b1 0),(5,vI (W (k0 - 1)))]<|ih (W (k0 - 1)) Body3 x7 _ hMl H h7 h1 h2 h22 h23 hg ho hx
 intro hc1 N;exact vD<|yS [(0,vP r01 0),(2,vP b 0),(3,vI i),(4,vP b1 0)]<|hx _ _ _ _ _ _ _ _ (zC N).symm H h16 h17
def pC (x:zK) (i:Int) (x1:zM):Option (Out (zK×zM) (zK×zM)):=do
 if (decide (i < 4)) then
  let (y1,y2)←jC x1
  let (y4,y5)←yX y2 ([1,2,1,3]:List Int)
  let (Body1,x5)←pA y1 y4 ([]:List zJ) y5
  let y13←nO
  let (y15,y16)←pK y13 (zK.mk y1 Body1)
  let t66←(do
    if y16 then
     pure (decide (y15 ≤ 40))
    else
     pure false
      : Option Bool)
  if t66 then
   pure (.ret ((zK.mk y1 Body1),x5))
  else
   pC x (W (i + 1)) x5
 else
  pure (.done (x,x1))
 partial_fixpoint
theorem zCv (x:zK):∀ (i:Int) (x1:zM) (o:Out (zK×zM) (zK×zM)),pC x i x1=some o→∀ {B}{I0 I:Imm}{Q}  {r01:Nat}{b:Nat}{p1 c1 p2 c2 p3 c3},I0.le I→(S4 I p1 x.Nest c1)→(S4 I p2 x.Body c2)→(S4 I p3 x1.b c3)→NG Q→NO Q→(∀ (I':Imm) (x2:zK) (x3:zM) (p4:Option Addr) (c4:Nat) (p5:Option Addr) (c5:Nat) (p6:Option Addr) (c6:Nat),o=(.done (x2,x3))→I0.le I'→(S4 I' p4 x2.Nest c4)→(S4 I' p5 x2.Body c5)→(S4 I' p6 x3.b c6)→T 81 B Q (.exit 0) I' [hB b (cPart x2 p4 c4 p5 c5),hB r01 (cRd x3 p6 c6)] [(2,vP b 0)])→(∀ r I' hs' m',o=(.ret r)→I0.le I'→RS Tryz.prog Tryz.f86 B (zAD r01 r) I' hs' m'→T 81 B Q .ret I' hs' m')→J Tryz.prog 81 B (nav (bodyOf Tryz.f86) [1,0,1,0]) Q I [hB b (cPart x p1 c1 p2 c2),hB r01 (cRd x1 p3 c3)] [(0,vP r01 0),(2,vP b 0),(3,vI i)]:=by
 refine pC.partial_correctness x _ fun self ih i x1 o N B I0 I Q r01 b p1 c1 p2 c2 p3 c3 H h1 h2 h3 hg ho hx hr=>yW hg ho<|yI<|yF [(17,.bool (decide (i < 4)))]<|zL<|yL N ?_ ?_
 · intro hc N;refine zV<|yG<|yM<|yK<|yC 1 [] [(20,vP r01 0)]<|sU (yD [1,0] (hs':=[hB r01 (cRd x1 p3 c3),hB b (cPart x p1 c1 p2 c2)])) ?_;obtain ⟨⟨y1,y2⟩,hy,N⟩:=zB N;refine tS [hB r01 (cRd x1 p3 c3)] [hB b (cPart x p1 c1 p2 c2)] (zEv x1 _ hy h3) ?_;rintro I0 hs2 v2 k2 le - ⟨v0,kk,rfl,rfl,h7,h8⟩ -;have h1:=h1.mono le;have h2:=h2.mono le;have H:=H.trans le;obtain ⟨p7,c7,rfl⟩:=h7.form;obtain ⟨p8,c8,rfl,h9⟩:=yE h8;refine yC 3 [] [(22,vA [vS p7 y1 c7,z0])]<|wU zTwo ?_;intro b1 hb1;refine xB 0 [vS p7 y1 c7,z0] [hB b1 [vS p7 y1 c7,z0],hB r01 (cRd y2 p8 c8),hB b (cPart x p1 c1 p2 c2)] rfl rfl rfl rfl<|yH rfl<|yG<|yK<|yC 1 [] [(23,vP r01 0)]<|xU [vI 1,vI 2,vI 1,vI 3] Int ?_;intro b2 hb2;have h10:RL I0 [vI 1,vI 2,vI 1,vI 3] ([1,2,1,3]:List Int):=⟨[vI 1],_,rfl,rfl,rfl,⟨[vI 2],_,rfl,rfl,rfl,⟨[vI 1],_,rfl,rfl,rfl,⟨[vI 3],_,rfl,rfl,rfl,rfl⟩⟩⟩⟩;refine yJ 0 rfl ?_;intro I01 le1 hl0;have h11:=SL.of_frozen hl0 le1 h10;have h7:=h7.mono le1;have h9:=h9.mono le1;have h1:=h1.mono le1;have h2:=h2.mono le1;have H:=H.trans le1;refine sU (yD [1,0,2] (hs':=[hB r01 (cRd y2 p8 c8),hB b1 [vS p7 y1 c7,z0],hB b (cPart x p1 c1 p2 c2)])) ?_;obtain ⟨⟨y4,y5⟩,hy1,N⟩:=zB N;refine tS [hB r01 (cRd y2 p8 c8)] [hB b1 [vS p7 y1 c7,z0],hB b (cPart x p1 c1 p2 c2)] (xH y2 ([1,2,1,3]:List Int) _ hy1 h9 h11) ?_;rintro I02 hs2 v2 k2 le2 - ⟨v02,kk1,rfl,rfl,rfl,h13⟩ -;have h7:=h7.mono le2;have h1:=h1.mono le2;have h2:=h2.mono le2;have H:=H.trans le2;obtain ⟨p9,c9,rfl,h14⟩:=yE h13;refine yB [] [(5,vI y4)]<|wD<|wN [(0,vP r01 0),(2,vP b 0),(3,vI i),(4,vP b1 0),(5,vI y4)]<|rM (wT (Rp.sz zJ)) ?_;have h15:RL I02 [] ([]:List zJ):=RepL.nil;obtain ⟨o01,ho01,hMl1⟩:=zB N;refine zCu y1 y4 ([]:List zJ) y5 o01 ho01 iR h7 h1 h2 h15 h14 (fun _ _ _ h=>hg _ _ _ h) (fun _ _ h=>ho _ _ h) ?_;intro I09 Body1 x5 p12 c12 cs1 p13 c13 heq1 le9 h18 h19;subst o01;have h7:=h7.mono le9;have h1:=h1.mono le9;have h2:=h2.mono le9;have H:=H.trans le9;refine zU<|yG<|pO 0 rfl ?_;intro I010 le10 hl02;have h38:=SL.of_frozen hl02 le10 h18;have h19:=h19.mono le10;have h7:=h7.mono le10;have h1:=h1.mono le10;have h2:=h2.mono le10;have H:=H.trans le10;obtain ⟨y13,hy6,N⟩:=zB hMl1;obtain ⟨⟨y15,y16⟩,hy7,N⟩:=zB N;refine vC [.x (fun I' v hx=>∃ p25 c25,v=vS p25 y13 c25∧hx=[]∧(S4 I' p25 y13 c25)),.p (vA [vS p7 y1 c7,vS p12 Body1 c12]) [1],.q (.tuple ⟨[vI y15,.bool y16]⟩),.p (.tuple ⟨[vI y15,.bool y16]⟩) [],.p (vI y15) [],.p (.bool y16) [],.p (vI y15) []] [[],[],[(0,false),(1,false)],[(2,false)],[(3,false)],[(3,false)],[(4,false)]] [hB r01 (cRd x5 p13 c13),hB b1 [vS p7 y1 c7,vS p12 Body1 c12],hB b (cPart x p1 c1 p2 c2)] [] [(5,false),(6,false)] (yD [0,1,2]) ?_ ?_
   · refine Ox ?_<|Op<|Oq ?_<|Op<|Op<|Op<|Op<|On
     · intro I1 hf le1;refine yR [] ?_;have H:=iS I1;refine xS (jU  _ hy6 ) ?_;rintro I011 hs2 v2 k2 le11 - ⟨v013,rfl,rfl,h39⟩ -;have H:=H.trans le11;obtain ⟨p25,c25,rfl⟩:=h39.form;exact yP [] H ⟨_,_,rfl,rfl,h39⟩
     intro I1 hf le1;refine zF ?_;rintro _ _ ⟨p25,c25,rfl,rfl,h39⟩;refine yR [(57,vS p25 y13 c25),(58,vA [vS p7 y1 c7,vS p12 Body1 c12])] ?_;have H:=iS I1;have h7:=h7.mono le1;have h38:=h38.mono le1;refine xS (fV y13 (zK.mk y1 Body1) _ hy7 h39 h7 h38) ?_;rintro I012 hs2 v2 k2 le12 - ⟨v014,v015,rfl,rfl,rfl,rfl⟩ -;have H:=H.trans le12;exact xI H
   intro I013 le13;refine yR [(0,vP r01 0),(2,vP b 0),(3,vI i),(4,vP b1 0),(10,vI y15),(61,.bool y16)] ?_;have h19:=h19.mono le13;have h7:=h7.mono le13;have h38:=h38.mono le13;have h1:=h1.mono le13;have h2:=h2.mono le13;have H:=H.trans le13;refine yB [] [(11,.bool y16)]<|zL<|yI ?_;obtain ⟨o02,ho02,hMc⟩:=zB N;refine yU (fun I' hs' m'=>∃ (t66:Bool),o02=t66∧I013.le I'∧hs'=[hB r01 (cRd x5 p13 c13),hB b1 [vS p7 y1 c7,vS p12 Body1 c12],hB b (cPart x p1 c1 p2 c2)]∧m'=[(0,vP r01 0),(2,vP b 0),(3,vI i),(4,vP b1 0),(66,.bool t66)]) ?_ ?_
   · have H:=iS I013;refine zP<|yC 2 [] [(63,.bool y16)] ?_;cases hc4:y16 with
     | true =>
      have hM0:=zS hc4 ho02
      try rw [hc4]
      exact yB [] [(66,.bool (decide (y15 ≤ 40)))]<|yS [(0,vP r01 0),(2,vP b 0),(3,vI i),(4,vP b1 0),(66,.bool (decide (y15 ≤ 40)))]<|zW (ct hM0 H)
     | false =>
      have hM01:=zQ hc4 ho02
      try rw [hc4]
      exact yB [] [(66,vF)]<|yS [(0,vP r01 0),(2,vP b 0),(3,vI i),(4,vP b1 0),(66,vF)]<|zW (ct hM01 H)
   rintro I014 hs2 m2 ⟨t66,heq2,le14,rfl,rfl⟩;subst o02;have h19:=h19.mono le14;have h7:=h7.mono le14;have h38:=h38.mono le14;have h1:=h1.mono le14;have h2:=h2.mono le14;have H:=H.trans le14;refine zL<|yL hMc ?_ ?_
   · intro hc5 N;exact yK<|yC 1 [1] [(67,vA [vS p7 y1 c7,vS p12 Body1 c12])]<|xB 2 [vS p7 y1 c7,vS p12 Body1 c12] [hB r01 (cRd x5 p13 c13),hB b1 [vS p7 y1 c7,vS p12 Body1 c12],hB b [vS p7 y1 c7,vS p12 Body1 c12]] rfl rfl rfl rfl<|yH rfl<|xP<|yA<|zN<|zN<|hr _ _ _ _ (zC N).symm H ⟨_,_,(.cell 2 rfl rfl (by kernel_rfl) ResV.nil),(zZ [0] rfl (by decide)),⟨_,_,rfl,rfl,⟨_,rfl,(rT ⟨_,_,rfl,h7,h38⟩)⟩,(yO ⟨_,rfl,h19⟩)⟩⟩
   intro hc5 N;exact zV<|zR<|zL<|zP<|yB [] [(3,vI (W (i + 1)))]<|yT<|rM (zZ [2,0] rfl (by decide))<|wN [(0,vP r01 0),(2,vP b 0),(3,vI (W (i + 1)))]<|ih (W (i + 1)) x5 _ N H h1 h2 h19 hg ho hx hr
 intro hc N;exact vD<|yS [(2,vP b 0)]<|hx _ _ _ _ _ _ _ _ _ (zC N).symm H h1 h2 h3
def jF (r0:zM):Option (zK×zM):=do
 match←pC (zK.mk ([]:List zE) ([]:List zJ)) 0 r0 with
 | .ret r0=>pure r0
 | .done (x2,x3) =>
  let (y18,y19)←oT (⟨[65,91,105,93,61,40,65,91,105,93,43,123,105,125,41]⟩:Str)
  let (y21,y22)←kS ([4]:List Int)
  pure ((zK.mk y21 ([y18]:List zJ)),x3)
theorem zEz:∀ r0 r,jF r0=some r→∀ {I:Imm}{r01:Nat}{p c},(S4 I p r0.b c)→RT 86 [vP r01 0] I [hB r01 (cRd r0 p c)] (zAD r01 r):=by
 intro r0 r N I r01 p c h;unfold jF at N;refine zX (fn:=Tryz.f86) (c:=(bodyOf Tryz.f86)) Tryz.func86 rfl rfl ?_;rintro B - -;refine yK<|wU zTwo ?_;intro b hb;refine yH rfl<|yG<|yF [(3,vI 0)]<|wD<|wN [(0,vP r01 0),(2,vP b 0),(3,vI 0)] ?_;obtain ⟨o03,ho03,hMl2⟩:=zB N;refine zCv (zK.mk ([]:List zE) ([]:List zJ)) 0 r0 o03 ho03 iR (SL.nil _) (SL.nil _) h (fun _ _ _ h=>h) (fun _ _ h=>h) ?_ ?_
 · intro I015 x2 x3 p4 c4 p5 c5 p6 c6 heq3 le15 h4 h5 h6;subst o03;refine zU<|yG<|zP ?_;obtain ⟨⟨y18,y19⟩,hy8,N⟩:=zB hMl2;refine xS (eZ (⟨[65,91,105,93,61,40,65,91,105,93,43,123,105,125,41]⟩:Str) _ hy8 ) ?_;rintro I016 hs2 v2 k2 le16 - ⟨v016,v017,rfl,rfl,⟨cs6,rfl,h42⟩,rfl⟩ -;have h6:=h6.mono le16;obtain ⟨p26,c26,p27,c27,p28,c28,p29,c29,rfl,h44,h45,h46,h47⟩:=rC h42;refine yC 4 [] [(70,vA (cStmt y18 p26 c26 p27 c27 p28 c28 p29 c29)),(71,.bool y19)]<|wU [vT ([]),z0,vI 0,vI 0,z0,vI 0,vT ([]),z0,z0] ?_;intro b6 hb6;refine xB 0 (cStmt y18 p26 c26 p27 c27 p28 c28 p29 c29) [hB b6 (cStmt y18 p26 c26 p27 c27 p28 c28 p29 c29),hB b (cPart x2 p4 c4 p5 c5),hB r01 (cRd x3 p6 c6)] rfl rfl rfl rfl<|yB [] []<|xD<|xU [vI 4] Int ?_;intro b7 hb7;have h48:RL I016 [vI 4] ([4]:List Int):=⟨[vI 4],_,rfl,rfl,rfl,rfl⟩;refine yJ 0 rfl ?_;intro I017 le17 hl03;have h49:=SL.of_frozen hl03 le17 h48;have h44:=h44.mono le17;have h45:=h45.mono le17;have h46:=h46.mono le17;have h47:=h47.mono le17;have h6:=h6.mono le17;obtain ⟨⟨y21,y22⟩,hy9,N⟩:=zB N;refine xS (zEN ([4]:List Int) _ hy9 h49) ?_;rintro I018 hs2 v2 k2 le18 - ⟨v022,v023,rfl,rfl,h50,rfl⟩ -;have h44:=h44.mono le18;have h45:=h45.mono le18;have h46:=h46.mono le18;have h47:=h47.mono le18;have h6:=h6.mono le18;obtain ⟨p30,c30,rfl⟩:=h50.form;refine yB [] [(14,vS p30 y21 c30)]<|xD<|yC 2 [0] [(77,vS p30 y21 c30),(78,vA (cStmt y18 p26 c26 p27 c27 p28 c28 p29 c29))]<|xU (cStmt y18 p26 c26 p27 c27 p28 c28 p29 c29) zJ ?_;intro b8 hb8;have h52:RL I018 (cStmt y18 p26 c26 p27 c27 p28 c28 p29 c29) ([y18]:List zJ):=⟨(cStmt y18 p26 c26 p27 c27 p28 c28 p29 c29),_,rfl,rfl,(wJ ⟨_,_,_,_,rfl,h44,h45,h46,h47⟩),rfl⟩;refine yC 4 [] [(80,vA [vS p30 y21 c30,vS (some ⟨b8,0,none⟩) ([y18]:List zJ) 1])]<|xB 2 [vS p30 y21 c30,vS (some ⟨b8,0,none⟩) ([y18]:List zJ) 1] [hO zJ (vS (some ⟨b8,0,none⟩) ([y18]:List zJ) 1) (cStmt y18 p26 c26 p27 c27 p28 c28 p29 c29),hB b6 (cStmt y18 p26 c26 p27 c27 p28 c28 p29 c29),hB b [vS p30 y21 c30,vS (some ⟨b8,0,none⟩) ([y18]:List zJ) 1],hB r01 (cRd x3 p6 c6)] rfl rfl rfl rfl<|yH rfl<|xP<|xA 0 rfl ?_;intro I019 le19 hl04;have h53:=SL.of_frozen hl04 le19 h52;have h50:=h50.mono le19;have h6:=h6.mono le19;obtain rfl:=zC N;exact xF ⟨_,_,(.cell 1 rfl rfl (by kernel_rfl) ResV.nil),(zZ [2] rfl (by decide)),⟨_,_,rfl,rfl,⟨_,rfl,(rT ⟨_,_,rfl,h50,h53⟩)⟩,(yO ⟨_,rfl,h6⟩)⟩⟩
 intro r0 I9 hs9 m9 heq9 le9 hrs9;subst heq9;refine yA<|zN ?_;obtain rfl:=zC hMl2;exact xF hrs9
def zDg (b0:Nat) (r:zH×zM):KT:=fun kk I' hs' v=>
  ∃ v0 k0,hs'=[.blk b0 ⟨k0⟩]∧v=tupV [v0]∧(∃ cs,v0=.agg ⟨cs⟩∧Rp.rep I' cs r.1)∧Rp.rep I' k0 r.2
def pD (i:Int) (Parts:List zK) (x:zM):Option ((List zK×zM)):=do
 if (decide (i > 0)) then
  let (y5,y6)←jF x
  let l←app 48 Parts ([y5]:List zK)
  pD (W (i - 1)) l y6
 else
  pure (Parts,x)
 partial_fixpoint
theorem zCw :∀ (i:Int) (Parts:List zK) (x:zM) (o:(List zK×zM)),pD i Parts x=some o→∀ {B}{I0 I:Imm}{Q}{y:(List zD)}{r01:Nat}{b:Nat}{p1 c1}{b1:Nat}{p3 c3 cs p4 c4},I0.le I→(S4 I p1 y c1)→(RL I cs Parts)→(S4 I p4 x.b c4)→NG Q→NO Q→(∀ (I':Imm) (Parts1:List zK) (x1:zM) (p5:Option Addr) (c5:Nat) (cs1:List Value) (p6:Option Addr) (c6:Nat),o=(Parts1,x1)→I0.le I'→(RL I' cs1 Parts1)→(S4 I' p6 x1.b c6)→T 29 B Q (.exit 0) I' [hO zK (vS p5 Parts1 c5) cs1,hB r01 (cRd x1 p6 c6),hB b1 [vS p1 y c1,vS p5 Parts1 c5],hB b zTwo] [(2,vP b 0),(3,vP b1 0)])→J Tryz.prog 29 B (nav (bodyOf Tryz.f36) [1,1,0,1,0]) Q I [hO zK (vS p3 Parts c3) cs,hB r01 (cRd x p4 c4),hB b1 [vS p1 y c1,vS p3 Parts c3],hB b zTwo] [(0,vP r01 0),(2,vP b 0),(3,vP b1 0),(4,vI i)]:=by
 refine pD.partial_correctness  _ fun self ih i Parts x o N B I0 I Q y r01 b p1 c1 b1 p3 c3 cs p4 c4 H h1 h8 h9 hg ho hx=>yW hg ho<|yI<|yF [(11,.bool (decide (i > 0)))]<|zL<|yL N ?_ ?_
 · intro hc N;refine zV<|yG<|yM ?_;obtain ⟨⟨y5,y6⟩,hy2,N⟩:=zB N;obtain ⟨l,hy3,N⟩:=zB N;refine vC [.p (vP b1 1) [],.p (vS p3 Parts c3) [0],.p (vP r01 0) [],.x (fun I' v hx=>∃ p7 c7 p8 c8 p9 c9,v=vA (cPart y5 p7 c7 p8 c8)∧hx=[hB r01 (cRd y6 p9 c9)]∧(S4 I' p7 y5.Nest c7)∧(S4 I' p8 y5.Body c8)∧(S4 I' p9 y6.b c9)),.x (fun I' v hx=>∃ b3,v=vS (some ⟨b3,0,none⟩) ([y5]:List zK) 1∧hx=[]∧(SL I' (vS (some ⟨b3,0,none⟩) ([y5]:List zK) 1) ([y5]:List zK))),.x (fun I' v hx=>∃ p10 c10 cs3,v=vS p10 l c10∧hx=[hO zK (vS p10 l c10) cs3]∧(RL I' cs3 l))] [[],[(0,false)],[],[(2,false),(8,true)],[(3,false)],[(1,false),(4,false),(9,true)]] [hB b1 [vS p1 y c1,vS p3 Parts c3],hB b zTwo] [[hB r01 (cRd x p4 c4)],[hO zK (vS p3 Parts c3) cs]] [(3,true),(5,true)] (yD [2,3,1,0]) ?_ ?_
   · refine Op<|Op<|Op<|Ox ?_<|Ox ?_<|Ox ?_<|On
     · intro I1 hf le1;refine zF ?_;rintro _ _ ⟨rfl,rfl⟩;refine zF ?_;rintro _ _ rfl;refine yR [(16,vP r01 0)] ?_;have H:=iS I1;have h9:=h9.mono le1;refine tS [hB r01 (cRd x p4 c4)] (hB b1 [vS p1 y c1,vS p3 Parts c3]::hB b zTwo::hf) (zEz x _ hy2 h9) ?_;rintro I03 hs2 v2 k2 le3 - ⟨v03,kk1,rfl,rfl,⟨cs2,rfl,h12⟩,h13⟩ -;have H:=H.trans le3;obtain ⟨p7,c7,p8,c8,rfl,h14,h15⟩:=wZ h12;obtain ⟨p9,c9,rfl,h16⟩:=yE h13;exact yP [hB r01 (cRd y6 p9 c9)] H ⟨_,_,_,_,_,_,rfl,rfl,h14,h15,h16⟩
     · intro I1 hf le1;refine zF ?_;rintro _ _ ⟨p7,c7,p8,c8,p9,c9,rfl,rfl,h14,h15,h16⟩;refine yR [(17,vA (cPart y5 p7 c7 p8 c8))] ?_;have H:=iS I1;refine xU (cPart y5 p7 c7 p8 c8) zK ?_;intro b3 hb3;have h17:RL I1 (cPart y5 p7 c7 p8 c8) ([y5]:List zK):=⟨(cPart y5 p7 c7 p8 c8),_,rfl,rfl,(rT ⟨_,_,rfl,h14,h15⟩),rfl⟩;refine yJ 0 rfl ?_;intro I04 le4 hl01;have h18:=SL.of_frozen hl01 le4 h17;have H:=H.trans le4;exact yP [] H ⟨_,rfl,rfl,h18⟩
     intro I1 hf le1;refine zF ?_;rintro _ _ ⟨rfl,rfl⟩;refine zF ?_;rintro _ _ ⟨b3,rfl,rfl,h18⟩;refine zF ?_;rintro _ _ rfl;refine yR [(15,vS p3 Parts c3),(18,vS (some ⟨b3,0,none⟩) ([y5]:List zK) 1)] ?_;have h8:=iM le1 h8;obtain ⟨ccs,k0,k01⟩:=h18;have h18:SL I1 (vS (some ⟨b3,0,none⟩) ([y5]:List zK) 1) ([y5]:List zK):=⟨_,k0,k01⟩;exact qI 53 2 0 rfl rfl rfl h8 (.inl k0) k01 hy3 fun p10 c10 cs3 h19=>vJ (hs':=(hO zK (vS p10 l c10) cs3::hB b1 [vS p1 y c1,vS p3 Parts c3]::hB b zTwo::hf)) rfl<|yP [hO zK (vS p10 l c10) cs3] iR ⟨_,_,_,rfl,rfl,h19⟩
   intro I05 le5;refine zF ?_;rintro _ _ ⟨p7,c7,p8,c8,p9,c9,rfl,rfl,h14,h15,h16⟩;refine zF ?_;rintro _ _ ⟨p10,c10,cs3,rfl,rfl,h19⟩;refine yR [(0,vP r01 0),(2,vP b 0),(3,vP b1 0),(4,vI i),(19,vS p10 l c10)] ?_;have h1:=h1.mono le5;have H:=H.trans le5;exact yC 7 [] [(20,vP b1 1)]<|xB 2 [vS p1 y c1,vS p10 l c10] [hO zK (vS p10 l c10) cs3,hB r01 (cRd y6 p9 c9),hB b1 [vS p1 y c1,vS p10 l c10],hB b zTwo] rfl rfl rfl rfl<|yH rfl<|zR<|zL<|zP<|yB [] [(4,vI (W (i - 1)))]<|yT<|wN [(0,vP r01 0),(2,vP b 0),(3,vP b1 0),(4,vI (W (i - 1)))]<|ih (W (i - 1)) l y6 _ N H h1 h19 h16 hg ho hx
 intro hc N;exact vD<|yS [(2,vP b 0),(3,vP b1 0)]<|hx _ _ _ _ _ _ _ _ (zC N).symm H h8 h9
def jG (r0:zM):Option (zH×zM):=do
 let y←nO
 let (y2,y3)←yX r0 ([1,2,1,3]:List Int)
 let (Parts1,x1)←pD y2 ([]:List zK) y3
 let y7←tH (zH.mk y Parts1)
 if y7 then
  pure ((zH.mk y Parts1),x1)
 else
  let y8←nO
  let l1←slc Parts1 0 1
  pure ((zH.mk y8 l1),x1)
theorem zFA:∀ r0 r,jG r0=some r→∀ {I:Imm}{r01:Nat}{p c},(S4 I p r0.b c)→RT 36 [vP r01 0] I [hB r01 (cRd r0 p c)] (zDg r01 r):=by
 intro r0 r N I r01 p c h;unfold jG at N;refine zX (fn:=Tryz.f36) (c:=(bodyOf Tryz.f36)) Tryz.func36 rfl rfl ?_;rintro B - -;have H:=iS I;refine yK<|wU zTwo ?_;intro b hb;refine yH rfl<|xD<|bE N fun y hy N=>xS (jU  _ hy ) ?_;rintro I0 hs2 v2 k2 le - ⟨v0,rfl,rfl,h1⟩ -;have h:=h.mono le;have H:=H.trans le;obtain ⟨p1,c1,rfl⟩:=h1.form;refine yC 2 [] [(6,vA [vS p1 y c1,z0])]<|wU zTwo ?_;intro b1 hb1;refine xB 0 [vS p1 y c1,z0] [hB b1 [vS p1 y c1,z0],hB b zTwo,hB r01 (cRd r0 p c)] rfl rfl rfl rfl<|yH rfl<|yG<|yK<|yC 1 [] [(7,vP r01 0)]<|xU [vI 1,vI 2,vI 1,vI 3] Int ?_;intro b2 hb2;have h2:RL I0 [vI 1,vI 2,vI 1,vI 3] ([1,2,1,3]:List Int):=⟨[vI 1],_,rfl,rfl,rfl,⟨[vI 2],_,rfl,rfl,rfl,⟨[vI 1],_,rfl,rfl,rfl,⟨[vI 3],_,rfl,rfl,rfl,rfl⟩⟩⟩⟩;refine yJ 0 rfl ?_;intro I01 le1 hl0;have h3:=SL.of_frozen hl0 le1 h2;have h1:=h1.mono le1;have h:=h.mono le1;have H:=H.trans le1;refine sU (yD [2,0,1] (hs':=[hB r01 (cRd r0 p c),hB b1 [vS p1 y c1,z0],hB b zTwo])) ?_;obtain ⟨⟨y2,y3⟩,hy1,N⟩:=zB N;refine tS [hB r01 (cRd r0 p c)] [hB b1 [vS p1 y c1,z0],hB b zTwo] (xH r0 ([1,2,1,3]:List Int) _ hy1 h h3) ?_;rintro I02 hs2 v2 k2 le2 - ⟨v01,kk,rfl,rfl,rfl,h5⟩ -;have h1:=h1.mono le2;have H:=H.trans le2;obtain ⟨p2,c2,rfl,h6⟩:=yE h5;refine yB [] [(4,vI y2)]<|wD<|wN [(0,vP r01 0),(2,vP b 0),(3,vP b1 0),(4,vI y2)]<|rM (wT (Rp.sz zK)) ?_;have h7:RL I02 [] ([]:List zK):=RepL.nil;obtain ⟨o0,ho0,hMl⟩:=zB N;refine zCw y2 ([]:List zK) y3 o0 ho0 iR h1 h7 h6 (fun _ _ _ h=>h) (fun _ _ h=>h) ?_;intro I06 Parts1 x1 p5 c5 cs1 p6 c6 heq le6 h10 h11;subst o0;have h1:=h1.mono le6;have H:=H.trans le6;refine zU<|yG<|yK<|yC 1 [2] [(21,vA [vS p1 y c1,vS p5 Parts1 c5])]<|yJ 0 rfl ?_;intro I07 le7 hl02;have h20:=SL.of_frozen hl02 le7 h10;have h1:=h1.mono le7;have h11:=h11.mono le7;have H:=H.trans le7;obtain ⟨y7,hy4,N⟩:=zB hMl;refine tQ (gV (zH.mk y Parts1) _ hy4 h1 h20) ?_;intro I08 le8;have h11:=h11.mono le8;have h1:=h1.mono le8;have h20:=h20.mono le8;have H:=H.trans le8;refine yH rfl<|zL<|yL N ?_ ?_
 · intro hc1 N;refine yK<|yC 1 [1] [(23,vA [vS p1 y c1,vS p5 Parts1 c5])]<|xB 2 [vS p1 y c1,vS p5 Parts1 c5] [hB r01 (cRd x1 p6 c6),hB b1 [vS p1 y c1,vS p5 Parts1 c5],hB b [vS p1 y c1,vS p5 Parts1 c5]] rfl rfl rfl rfl<|yH rfl<|xP<|zN ?_;obtain rfl:=zC N;exact xF ⟨_,_,(.cell 2 rfl rfl (by kernel_rfl) ResV.nil),(zZ [0] rfl (by decide)),⟨_,_,rfl,rfl,⟨_,rfl,(wV ⟨_,_,rfl,h1,h20⟩)⟩,(yO ⟨_,rfl,h11⟩)⟩⟩
 intro hc1 N;refine zV<|zL<|yI ?_;obtain ⟨y8,hy5,N⟩:=zB N;obtain ⟨l1,hy6,N⟩:=zB N;refine vC [.x (fun I' v hx=>∃ p11 c11,v=vS p11 y8 c11∧hx=[]∧(S4 I' p11 y8 c11)),.p (vP b1 1) [],.p (vS p5 Parts1 c5) [1],.x (fun I' v hx=>∃ p12 c12,v=vS p12 l1 c12∧hx=[]∧(S4 I' p12 l1 c12)),.x (fun I' v hx=>∃ p111 c111 p121 c121,v=vA [vS p111 y8 c111,vS p121 l1 c121]∧hx=[]∧(S4 I' p111 y8 c111)∧(S4 I' p121 l1 c121))] [[],[],[(1,false)],[(2,false)],[(0,false),(3,false)]] [hB r01 (cRd x1 p6 c6),hB b1 [vS p1 y c1,vS p5 Parts1 c5],hB b zTwo] [] [(4,false)] (yD [0,1,2]) ?_ ?_
 · refine Ox ?_<|Op<|Op<|Ox ?_<|Ox ?_<|On
   · intro I1 hf le1;refine yR [] ?_;have H:=iS I1;refine xS (jU  _ hy5 ) ?_;rintro I09 hs2 v2 k2 le9 - ⟨v08,rfl,rfl,h22⟩ -;have H:=H.trans le9;obtain ⟨p11,c11,rfl⟩:=h22.form;exact yP [] H ⟨_,_,rfl,rfl,h22⟩
   · intro I1 hf le1;refine yR [(26,vS p5 Parts1 c5)] ?_;have h20:=h20.mono le1;refine zKy rfl h20 hy6 ?_;intro v09 h23;obtain ⟨p12,c12,rfl⟩:=h23.form;exact yP [] iR ⟨_,_,rfl,rfl,h23⟩
   intro I1 hf le1;refine zF ?_;rintro _ _ ⟨p11,c11,rfl,rfl,h22⟩;refine zF ?_;rintro _ _ ⟨p12,c12,rfl,rfl,h23⟩;exact yR [(24,vS p11 y8 c11),(27,vS p12 l1 c12)]<|pM 5 [(28,vA [vS p11 y8 c11,vS p12 l1 c12])]<|yP [] iR ⟨_,_,_,_,rfl,rfl,h22,h23⟩
 intro I010 le10;refine zF ?_;rintro _ _ ⟨p111,c111,p121,c121,rfl,rfl,h221,h231⟩;refine yR [(2,vP b 0),(28,vA [vS p111 y8 c111,vS p121 l1 c121])] ?_;have h11:=h11.mono le10;refine xB 2 [vS p111 y8 c111,vS p121 l1 c121] [hB r01 (cRd x1 p6 c6),hB b1 [vS p1 y c1,vS p5 Parts1 c5],hB b [vS p111 y8 c111,vS p121 l1 c121]] rfl rfl rfl rfl<|yH rfl<|zL<|xG ?_;obtain rfl:=zC N;exact xF ⟨_,_,(.cell 2 rfl rfl (by kernel_rfl) ResV.nil),(zZ [0] rfl (by decide)),⟨_,_,rfl,rfl,⟨_,rfl,(wV ⟨_,_,rfl,h221,h231⟩)⟩,(yO ⟨_,rfl,h11⟩)⟩⟩
def qD (p:zH) (n0:Int) (i:Int):Option (Int):=do
 if (decide (i < (p.Arrays.length:Int))) then
  let x←idx p.Arrays i
  let y←oL x
  qD p (W (n0 + y)) (W (i + 1))
 else
  pure (id n0)
 partial_fixpoint
theorem zCK (p:zH):∀ (n0:Int) (i:Int) (o:Int),qD p n0 i=some o→∀ {B}{I0 I:Imm}{Q p1 c p2 c1}{b:Nat},I0.le I→(S4 I p1 p.Arrays c)→(S4 I p2 p.Parts c1)→NG Q→NO Q→(∀ (I':Imm) (n01:Int),o=n01→I0.le I'→T 21 B Q (.exit 0) I' [] [(3,vI n01)])→J Tryz.prog 21 B (nav (bodyOf Tryz.f94) [1,1,0,1,0]) Q I [hB b (cProg p p1 c p2 c1)] [(1,vP b 0),(3,vI n0),(4,vI i)]:=by
 refine qD.partial_correctness p _ fun self ih n0 i o N B I0 I Q p1 c p2 c1 b H h h1 hg ho hx=>yW hg ho<|yI<|yK<|yB [0] [(9,.bool (decide (i < (p.Arrays.length:Int))))]<|zL<|yL N ?_ ?_
 · intro hc N;refine zV<|yG<|yM<|zP<|yC 4 [0] [(12,vI n0),(14,vS p1 p.Arrays c),(15,vI i)]<|bE N fun x hy N=>xR rfl rfl h hy ?_;intro ad ccs hat hrep;obtain ⟨p3,c2,rfl,h2⟩:=xX hrep;refine xN 0 hat (cArr x p3 c2) (vA (cArr x p3 c2)) rfl<|bE N fun y hy1 N=>kI (zAw x _ hy1 h2) ?_;intro I0 le;have h:=h.mono le;have h1:=h1.mono le;have H:=H.trans le;exact yB [] [(3,vI (W (n0 + y)))]<|zR<|zL<|zP<|yB [] [(4,vI (W (i + 1)))]<|yT<|wN [(1,vP b 0),(3,vI (W (n0 + y))),(4,vI (W (i + 1)))]<|ih (W (n0 + y)) (W (i + 1)) _ N H h h1 hg ho hx
 intro hc N;exact vD<|wC zT<|yS [(3,vI n0)]<|hx _ _ (zC N).symm H
def kT (p:zH):Option (Int):=do
 let n01←qD p 0 0
 pure (id n01)
theorem zEO:∀ p r,kT p=some r→∀ {I:Imm}{p1 c p2 c1},(S4 I p1 p.Arrays c)→(S4 I p2 p.Parts c1)→RT 94 [vA (cProg p p1 c p2 c1)] I [] (xE  r):=by
 intro p r N I p1 c p2 c1 h h1;unfold kT at N;refine zX (fn:=Tryz.f94) (c:=(bodyOf Tryz.f94)) Tryz.func94 rfl rfl ?_;rintro B - -;refine yK<|tO (cProg p p1 c p2 c1) ?_;intro b hb;refine yB [] []<|wW [(3,vI 0)]<|yG<|yF [(4,vI 0)]<|wD<|wN [(1,vP b 0),(3,vI 0),(4,vI 0)] ?_;obtain ⟨o0,ho0,hMl⟩:=zB N;refine zCK p 0 0 o0 ho0 iR h h1 (fun _ _ _ h=>h) (fun _ _ h=>h) ?_;intro I01 n01 heq le1;subst o0;refine zU<|wW [(2,vI n01)]<|zL<|xG ?_;obtain rfl:=zC hMl;exact uM
def gB (r:(List zO)):KT:=fun kk I' hs' v=>
  ∃ v0,hs'=[]∧v=tupV [v0]∧SL I' v0 r
def wG (p:zH) (i:Int) (y:(List (List Int))) (k0:Int) (out4:List zO) (s:Int):Option (List zO):=do
 let x1←idx p.Parts i
 if (decide (s < (x1.Body.length:Int))) then
  let x2←idx y k0
  let l←app 8 ([]:List Int) x2
  let out6←app 40 out4 ([(zO.mk i s l)]:List zO)
  wG p i y k0 out6 (W (s + 1))
 else
  pure (id out4)
 partial_fixpoint
theorem zAV (p:zH) (i:Int) (y:(List (List Int))) (k0:Int):∀ (out4:List zO) (s:Int) (o:List zO),wG p i y k0 out4 s=some o→∀ {B}{I0 I:Imm}{Q p1 c p2 c1}{b:Nat}{p7 c6 cs2 p10 c9 cs5},I0.le I→(RL I cs2 y)→(S4 I p1 p.Arrays c)→(S4 I p2 p.Parts c1)→(RL I cs5 out4)→NG Q→NO Q→(∀ (I':Imm) (out5:List zO) (p11:Option Addr) (c10:Nat) (cs6:List Value),o=out5→I0.le I'→(RL I' cs6 out5)→T 54 B Q (.exit 4) I' [hO (List Int) (vS p7 y c6) cs2,hO zO (vS p11 out5 c10) cs6,hB b (cProg p p1 c p2 c1)] [(1,vP b 0),(3,vS p11 out5 c10),(4,vI i),(5,vS p7 y c6),(6,vI k0)])→J Tryz.prog 54 B (nav (bodyOf Tryz.f125) [1,1,0,1,0,0,1,0,0,1,1,0,0,1,0,0,1,0]) Q I [hO (List Int) (vS p7 y c6) cs2,hO zO (vS p10 out4 c9) cs5,hB b (cProg p p1 c p2 c1)] [(1,vP b 0),(3,vS p10 out4 c9),(4,vI i),(5,vS p7 y c6),(6,vI k0),(7,vI s)]:=by
 refine wG.partial_correctness p i y k0 _ fun self ih out4 s o N B I0 I Q p1 c p2 c1 b p7 c6 cs2 p10 c9 cs5 H h8 h h1 h11 hg ho hx=>yW hg ho<|yI<|yK<|yC 4 [2] [(30,vI s),(32,vS p2 p.Parts c1),(33,vI i)]<|bE N fun x1 hy2 N=>xR rfl rfl h1 hy2 ?_;intro ad1 ccs1 hat1 hrep1;obtain ⟨p12,c11,p13,c12,rfl,h13,h14⟩:=wZ hrep1;refine yC 6 [] [(35,.pointer (some (ad1.add 1)))]<|xN 1 hat1 [vS p13 x1.Body c12] (vS p13 x1.Body c12) rfl<|yB [] [(38,.bool (decide (s < (x1.Body.length:Int))))]<|zL<|yL N ?_ ?_
 · intro hc2 N;refine zV<|yG<|yM<|zP<|yC 3 [] [(41,vS p10 out4 c9),(42,vI i),(43,vI s)]<|xU [] Int ?_;intro b3 hb3;have h15:RL I [] ([]:List Int):=rfl;refine yC 6 [] [(45,vS p7 y c6),(46,vI k0)]<|bE N fun x2 hy3 N=>oU 1 rfl rfl rfl h8 hy3 ?_;intro ad2 ccs2 hat2 hcc hrep2;obtain ⟨v04,rfl,h16⟩:=hrep2;obtain ⟨p14,c13,rfl⟩:=h16.form;refine zC3 1 0 hat2 hcc [vS p14 x2 c13] (vS p14 x2 c13) rfl rfl ?_;obtain ⟨ccs3,k01,k02⟩:=h16;have h16:SL I (vS p14 x2 c13) x2:=⟨_,k01,k02⟩;obtain ⟨l,hy4,N⟩:=zB N;refine qI 3 1 0 rfl rfl rfl h15 (.inl k01) k02 hy4 fun p15 c14 cs7 h17=>sU (yD [0,1,2,3] (hs':=[hO Int (vS p15 l c14) cs7,hO (List Int) (vS p7 y c6) cs2,hO zO (vS p10 out4 c9) cs5,hB b (cProg p p1 c p2 c1)]))<|yC 10 [] [(50,vA [vI i,vI s,vS p15 l c14])]<|yJ 0 rfl ?_;intro I01 le1 hl0;have h18:=SL.of_frozen hl0 le1 h17;have h8:=iM le1 h8;have h11:=iM le1 h11;have h:=h.mono le1;have h1:=h1.mono le1;have H:=H.trans le1;refine xU [vI i,vI s,vS p15 l c14] zO ?_;intro b4 hb4;have h19:RL I01 [vI i,vI s,vS p15 l c14] ([(zO.mk i s l)]:List zO):=⟨[vI i,vI s,vS p15 l c14],_,rfl,rfl,(fR ⟨_,rfl,h18⟩),rfl⟩;obtain ⟨out6,hy5,N⟩:=zB N;exact qI 29 3 2 rfl rfl rfl h11 (.inr ⟨0,rfl⟩) h19 hy5 fun p16 c15 cs8 h20=>sU (yD [1,2,3] (hs':=[hO (List Int) (vS p7 y c6) cs2,hO zO (vS p16 out6 c15) cs8,hB b (cProg p p1 c p2 c1)]))<|yB [] [(3,vS p16 out6 c15)]<|zR<|zL<|zP<|yB [] [(7,vI (W (s + 1)))]<|yT<|wN [(1,vP b 0),(3,vS p16 out6 c15),(4,vI i),(5,vS p7 y c6),(6,vI k0),(7,vI (W (s + 1)))]<|ih out6 (W (s + 1)) _ N H h8 h h1 h20 hg ho hx
 intro hc2 N;exact vD<|yS [(1,vP b 0),(3,vS p10 out4 c9),(4,vI i),(5,vS p7 y c6),(6,vI k0)]<|hx _ _ _ _ _ (zC N).symm H h11
def wH (p:zH) (i:Int) (y:(List (List Int))) (out2:List zO) (k0:Int):Option (List zO):=do
 if (decide (k0 < (y.length:Int))) then
  let out5←wG p i y k0 out2 0
  wH p i y out5 (W (k0 + 1))
 else
  pure (id out2)
 partial_fixpoint
theorem zAW (p:zH) (i:Int) (y:(List (List Int))):∀ (out2:List zO) (k0:Int) (o:List zO),wH p i y out2 k0=some o→∀ {B}{I0 I:Imm}{Q p1 c p2 c1}{b:Nat}{p7 c6 cs2 p8 c7 cs3},I0.le I→(RL I cs2 y)→(S4 I p1 p.Arrays c)→(S4 I p2 p.Parts c1)→(RL I cs3 out2)→NG Q→NO Q→(∀ (I':Imm) (out3:List zO) (p9:Option Addr) (c8:Nat) (cs4:List Value),o=out3→I0.le I'→(RL I' cs4 out3)→T 54 B Q (.exit 2) I' [hO zO (vS p9 out3 c8) cs4,hB b (cProg p p1 c p2 c1)] [(1,vP b 0),(3,vS p9 out3 c8),(4,vI i)])→J Tryz.prog 54 B (nav (bodyOf Tryz.f125) [1,1,0,1,0,0,1,0,0,1,1,0]) Q I [hO (List Int) (vS p7 y c6) cs2,hO zO (vS p8 out2 c7) cs3,hB b (cProg p p1 c p2 c1)] [(1,vP b 0),(3,vS p8 out2 c7),(4,vI i),(5,vS p7 y c6),(6,vI k0)]:=by
 refine wH.partial_correctness p i y _ fun self ih out2 k0 o N B I0 I Q p1 c p2 c1 b p7 c6 cs2 p8 c7 cs3 H h8 h h1 h9 hg ho hx=>yW hg ho<|yI<|yF [(27,.bool (decide (k0 < (y.length:Int))))]<|zL<|yL N ?_ ?_
 · intro hc1 N;refine zV<|yG<|yM<|yF [(7,vI 0)]<|wD<|wN [(1,vP b 0),(3,vS p8 out2 c7),(4,vI i),(5,vS p7 y c6),(6,vI k0),(7,vI 0)] ?_;obtain ⟨o0,ho0,hMl⟩:=zB N;refine zAV p i y k0 out2 0 o0 ho0 iR h8 h h1 h9 (fun _ _ _ h=>hg _ _ _ h) (fun _ _ h=>ho _ _ h) ?_;intro I02 out5 p11 c10 cs6 heq le2 h12;subst o0;have h8:=iM le2 h8;have h:=h.mono le2;have h1:=h1.mono le2;have H:=H.trans le2;exact zU<|zR<|zL<|zP<|yB [] [(6,vI (W (k0 + 1)))]<|yT<|wN [(1,vP b 0),(3,vS p11 out5 c10),(4,vI i),(5,vS p7 y c6),(6,vI (W (k0 + 1)))]<|ih out5 (W (k0 + 1)) _ hMl H h8 h h1 h12 hg ho hx
 intro hc1 N;exact vD<|wC (zZ [1,2] rfl (by decide))<|yS [(1,vP b 0),(3,vS p8 out2 c7),(4,vI i)]<|hx _ _ _ _ _ (zC N).symm H h9
def wI (p:zH) (out:List zO) (i:Int):Option (List zO):=do
 if (decide (i < (p.Parts.length:Int))) then
  let x←idx p.Parts i
  let y←vH ([]:List (List Int)) x.Nest ([]:List Int)
  let out3←wH p i y out 0
  wI p out3 (W (i + 1))
 else
  pure (id out)
 partial_fixpoint
theorem zAX (p:zH):∀ (out:List zO) (i:Int) (o:List zO),wI p out i=some o→∀ {B}{I0 I:Imm}{Q p1 c p2 c1}{b:Nat}{p3 c2 cs},I0.le I→(S4 I p1 p.Arrays c)→(S4 I p2 p.Parts c1)→(RL I cs out)→NG Q→NO Q→(∀ (I':Imm) (out1:List zO) (p4:Option Addr) (c3:Nat) (cs1:List Value),o=out1→I0.le I'→(RL I' cs1 out1)→T 54 B Q (.exit 0) I' [hO zO (vS p4 out1 c3) cs1] [(3,vS p4 out1 c3)])→J Tryz.prog 54 B (nav (bodyOf Tryz.f125) [1,1,0,1,0]) Q I [hO zO (vS p3 out c2) cs,hB b (cProg p p1 c p2 c1)] [(1,vP b 0),(3,vS p3 out c2),(4,vI i)]:=by
 refine wI.partial_correctness p _ fun self ih out i o N B I0 I Q p1 c p2 c1 b p3 c2 cs H h h1 h3 hg ho hx=>yW hg ho<|yI<|yK<|yB [1] [(13,.bool (decide (i < (p.Parts.length:Int))))]<|zL<|yL N ?_ ?_
 · intro hc N;refine zV<|yG<|yM<|yK<|xU [] (List Int) ?_;intro b2 hb2;have h5:RL I [] ([]:List (List Int)):=rfl;refine yC 4 [2] [(18,vS p2 p.Parts c1),(19,vI i)]<|bE N fun x hy N=>xR rfl rfl h1 hy ?_;intro ad ccs hat hrep;obtain ⟨p5,c4,p6,c5,rfl,h6,h7⟩:=wZ hrep;refine yC 6 [] [(21,.pointer (some ad))]<|xN 0 hat [vS p5 x.Nest c4] (vS p5 x.Nest c4) rfl<|bE N fun y hy1 N=>tS [hO (List Int) (vS (some ⟨b2,0,none⟩) ([]:List (List Int)) 0) []] [hO zO (vS p3 out c2) cs,hB b (cProg p p1 c p2 c1)] (dX ([]:List (List Int)) x.Nest ([]:List Int) _ hy1 h5 h6 (SL.nil _)) ?_;rintro I0 hs2 v2 k2 le - ⟨p7,c6,cs2,rfl,rfl,h8⟩ -;have h3:=iM le h3;have h:=h.mono le;have h1:=h1.mono le;have H:=H.trans le;refine yB [] [(5,vS p7 y c6)]<|wW [(6,vI 0)]<|wD<|wN [(1,vP b 0),(3,vS p3 out c2),(4,vI i),(5,vS p7 y c6),(6,vI 0)] ?_;obtain ⟨o01,ho01,hMl1⟩:=zB N;refine zAW p i y out 0 o01 ho01 iR h8 h h1 h3 (fun _ _ _ h=>hg _ _ _ h) (fun _ _ h=>ho _ _ h) ?_;intro I03 out3 p9 c8 cs4 heq1 le3 h10;subst o01;have h:=h.mono le3;have h1:=h1.mono le3;have H:=H.trans le3;exact zU<|zR<|zL<|zP<|yB [] [(4,vI (W (i + 1)))]<|yT<|wN [(1,vP b 0),(3,vS p9 out3 c8),(4,vI (W (i + 1)))]<|ih out3 (W (i + 1)) _ hMl1 H h h1 h10 hg ho hx
 intro hc N;exact vD<|wC (zZ [0] rfl (by decide))<|yS [(3,vS p3 out c2)]<|hx _ _ _ _ _ (zC N).symm H h3
def tX (p:zH):Option ((List zO)):=do
 let out1←wI p ([]:List zO) 0
 pure (id out1)
theorem fG:∀ p r,tX p=some r→∀ {I:Imm}{p1 c p2 c1},(S4 I p1 p.Arrays c)→(S4 I p2 p.Parts c1)→RT 125 [vA (cProg p p1 c p2 c1)] I [] (gB  r):=by
 intro p r N I p1 c p2 c1 h h1;unfold tX at N;refine zX (fn:=Tryz.f125) (c:=(bodyOf Tryz.f125)) Tryz.func125 rfl rfl ?_;rintro B - -;refine yK<|tO (cProg p p1 c p2 c1) ?_;intro b hb;refine yB [] []<|xD<|xU [] zO ?_;intro b1 hb1;have h2:RL I [] ([]:List zO):=rfl;refine yB [] [(3,vS (some ⟨b1,0,none⟩) ([]:List zO) 0)]<|yG<|yF [(4,vI 0)]<|wD<|wN [(1,vP b 0),(3,vS (some ⟨b1,0,none⟩) ([]:List zO) 0),(4,vI 0)] ?_;obtain ⟨o02,ho02,hMl2⟩:=zB N;refine zAX p ([]:List zO) 0 o02 ho02 iR h h1 h2 (fun _ _ _ h=>h) (fun _ _ h=>h) ?_;intro I04 out1 p4 c3 cs1 heq2 le4 h4;subst o02;refine zU<|wW [(2,vS p4 out1 c3)]<|xP<|xA 0 rfl ?_;intro I05 le5 hl01;have h21:=SL.of_frozen hl01 le5 h4;obtain rfl:=zC hMl2;exact xF ⟨_,_,(.tmp rfl ResV.nil),zT,⟨_,rfl,rfl,h21⟩⟩
end Go.LN
