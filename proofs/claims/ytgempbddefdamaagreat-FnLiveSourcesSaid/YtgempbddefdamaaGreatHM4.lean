/- Helper of the proof (see the last text). -/
import Derived.Test.YtgempbddefdamaaGreatHM3
set_option linter.unusedVariables false
set_option linter.unusedSimpArgs false
namespace Go.LN
open Go.Proofs
set_option maxRecDepth 20000
def zBm (r:zA×Int):KT:=fun kk imm' hs' v=>
  ∃ v0 v1,hs'=[]∧v=tupV [v0,v1]∧(∃ cs,v0=.agg ⟨cs⟩∧Rp.rep imm' cs r.1)∧v1=.int .i64 r.2
def nO (a0:zA) (s:Str) (at0:Int):Option (zA×Int):=do
 let b2←sidx s at0
 let sign←(do
   if ((b2.toNat:Int) == 45) then
    pure (-1)
   else
    pure (id 1)
     : Option Int)
 let t27←(do
   let b3←sidx s at0
   if ((b3.toNat:Int) == 45) then
    pure true
   else
    let b4←sidx s at0
    pure ((b4.toNat:Int) == 43)
     : Option Bool)
 let at01←(do
   if t27 then
    pure (W (at0 + 1))
   else
    pure (id at0)
     : Option Int)
 let (y1,y2)←pH s at01
 let t51←(do
   if (decide (y2 > at01)) then
    if (decide (y2 < (s.l.length:Int))) then
     let b5←sidx s y2
     pure ((b5.toNat:Int) == 42)
    else
     pure false
   else
    pure false
     : Option Bool)
 let star←(do
   if t51 then
    pure (W (y2 + 1))
   else
    pure (id y2)
     : Option Int)
 let y3←nZ s star
 let l←app 8 ([]:List Int) a0.Coefs
 let t75←(do
   if (decide (y3 ≥ 0)) then
    if (decide (star > y2)) then
     pure true
    else
     pure (y2 == at01)
   else
    pure false
     : Option Bool)
 if t75 then
  let x←idx l y3
  let x1←idx l y3
  let l1←pure (l.set y3.toNat (W (x + (W (sign * y1)))))
  pure ((zA.mk l1 a0.Const),(W (star + 1)))
 else
  if (y2 == at01) then
   pure (a0,(-1))
  else
   pure ((zA.mk l (W (a0.Const + (W (sign * y1))))),y2)
theorem zDG:∀ (a0:zA) (s:Str) (at0:Int) r,nO a0 s at0=some r→∀ {imm:Imm}{p c},(S4 imm p a0.Coefs c)→Ret Tryz.prog 170 [vA (cAff a0 p c),vT s.l,vI at0] imm [] (zBm  r):=by
 intro a0 s at0 r hM imm p c h;unfold nO at hM;refine yG (fn:=Tryz.f170) (c:=(bodyOf Tryz.f170)) Tryz.func170 rfl rfl ?_;rintro B - -;have hle:=iS imm;refine zF<|zB<|tR (cAff a0 p c) ?_;intro b hb;refine uD [z0,vI 0] ?_;intro b1 hb1;refine yA [] []<|zE<|zF<|zB<|yA [] [(8,vI 1)]<|zE<|zF<|zF<|zB<|yK 2 [] [(14,vT s.l),(15,vI at0)] ?_;obtain ⟨b2,hy,hM⟩:=zC hM;refine jV rfl rfl hy<|yA [] [(17,.bool ((b2.toNat:Int) == 45))]<|zE ?_;obtain ⟨o0,ho0,hMc⟩:=zC hM;refine yU (fun imm' hs' m'=>∃ (sign:Int),o0=sign∧imm.le imm'∧hs'=[hB b1 [z0,vI 0],hB b (cAff a0 p c)]∧m'=[(1,vT s.l),(2,vI at0),(3,vP b 0),(6,vP b1 0),(8,vI sign)]) ?_ ?_
 · have hle:=iS imm;refine yO ho0 ?_ ?_
   · intro hc hM;exact zB<|yA [] [(8,vI (-1))]<|yT [(1,vT s.l),(2,vI at0),(3,vP b 0),(6,vP b1 0),(8,vI (-1))]<|yB ⟨_,(zD hM).symm,hle,rfl,rfl⟩
   intro hc hM;exact yE<|yT [(1,vT s.l),(2,vI at0),(3,vP b 0),(6,vP b1 0),(8,vI 1)]<|yB ⟨_,(zD hM).symm,hle,rfl,rfl⟩
 rintro imm0 hs2 m2 ⟨sign,heq,le,rfl,rfl⟩;subst o0;have h:=h.mono le;have hle:=hle.trans le;refine zE<|zF<|zF ?_;obtain ⟨o01,ho01,hMc1⟩:=zC hMc;refine yU (fun imm' hs' m'=>∃ (t27:Bool),o01=t27∧imm0.le imm'∧hs'=[hB b1 [z0,vI 0],hB b (cAff a0 p c)]∧m'=[(1,vT s.l),(2,vI at0),(3,vP b 0),(6,vP b1 0),(8,vI sign),(27,.bool t27)]) ?_ ?_
 · have hle:=iS imm0;refine zB<|yK 2 [] [(18,vT s.l),(19,vI at0)] ?_;obtain ⟨b3,hy1,hM⟩:=zC ho01;refine jV rfl rfl hy1<|yK 5 [] [(22,.bool ((b3.toNat:Int) == 45))] ?_;cases hc1:((b3.toNat:Int) == 45) with
   | true =>
    have hM0:=zW hc1 hM
    try rw [hc1]
    exact yA [] [(27,.bool true)]<|yT [(1,vT s.l),(2,vI at0),(3,vP b 0),(6,vP b1 0),(8,vI sign),(27,.bool true)]<|yB ⟨_,(zD hM0).symm,hle,rfl,rfl⟩
   | false =>
    have hM01:=zU hc1 hM
    try rw [hc1]
    refine yK 7 [] [(23,vT s.l),(24,vI at0)] ?_;obtain ⟨b4,hy2,hM⟩:=zC hM01;exact jV rfl rfl hy2<|yA [] [(27,.bool ((b4.toNat:Int) == 43))]<|yT [(1,vT s.l),(2,vI at0),(3,vP b 0),(6,vP b1 0),(8,vI sign),(27,.bool ((b4.toNat:Int) == 43))]<|yB ⟨_,(zD hM).symm,hle,rfl,rfl⟩
 rintro imm01 hs2 m2 ⟨t27,heq1,le1,rfl,rfl⟩;subst o01;have h:=h.mono le1;have hle:=hle.trans le1;refine zE ?_;obtain ⟨o02,ho02,hMc2⟩:=zC hMc1;refine yU (fun imm' hs' m'=>∃ (at01:Int),o02=at01∧imm01.le imm'∧hs'=[hB b1 [z0,vI 0],hB b (cAff a0 p c)]∧m'=[(1,vT s.l),(2,vI at01),(3,vP b 0),(6,vP b1 0),(8,vI sign)]) ?_ ?_
 · have hle:=iS imm01;refine yO ho02 ?_ ?_
   · intro hc2 hM;exact zB<|yA [] [(2,vI (W (at0 + 1)))]<|yT [(1,vT s.l),(2,vI (W (at0 + 1))),(3,vP b 0),(6,vP b1 0),(8,vI sign)]<|yB ⟨_,(zD hM).symm,hle,rfl,rfl⟩
   intro hc2 hM;exact yE<|yT [(1,vT s.l),(2,vI at0),(3,vP b 0),(6,vP b1 0),(8,vI sign)]<|yB ⟨_,(zD hM).symm,hle,rfl,rfl⟩
 rintro imm02 hs2 m2 ⟨at01,heq2,le2,rfl,rfl⟩;subst o02;have h:=h.mono le2;have hle:=hle.trans le2;refine zE<|zF<|zB<|yK 2 [] [(31,vT s.l),(32,vI at01)] ?_;obtain ⟨⟨y1,y2⟩,hy3,hM⟩:=zC hMc2;refine yR (fE s at01 _ hy3 ) ?_;rintro imm03 hs2 v2 k2 le3 - ⟨v0,v01,rfl,rfl,rfl,rfl⟩ -;have h:=h.mono le3;have hle:=hle.trans le3;refine yA [] [(9,vI y1),(10,vI y2)]<|zE<|zF<|zB<|yA [] [(11,vI y2)]<|zE<|zF<|zF ?_;obtain ⟨o03,ho03,hMc3⟩:=zC hM;refine yU (fun imm' hs' m'=>∃ (t51:Bool),o03=t51∧imm03.le imm'∧hs'=[hB b1 [z0,vI 0],hB b (cAff a0 p c)]∧m'=[(1,vT s.l),(2,vI at01),(3,vP b 0),(6,vP b1 0),(8,vI sign),(9,vI y1),(10,vI y2),(11,vI y2),(51,.bool t51)]) ?_ ?_
 · have hle:=iS imm03;refine zB<|yK 4 [] [(40,.bool (decide (y2 > at01)))] ?_;cases hc3:(decide (y2 > at01)) with
   | true =>
    have hM02:=zW hc3 ho03
    try rw [hc3]
    refine yK 10 [] [(46,.bool (decide (y2 < (s.l.length:Int))))] ?_;cases hc4:(decide (y2 < (s.l.length:Int))) with
    | true =>
     have hM03:=zW hc4 hM02
     try rw [hc4]
     refine yK 12 [] [(47,vT s.l),(48,vI y2)] ?_;obtain ⟨b5,hy4,hM⟩:=zC hM03;exact jV rfl rfl hy4<|yA [] [(51,.bool ((b5.toNat:Int) == 42))]<|yT [(1,vT s.l),(2,vI at01),(3,vP b 0),(6,vP b1 0),(8,vI sign),(9,vI y1),(10,vI y2),(11,vI y2),(51,.bool ((b5.toNat:Int) == 42))]<|yB ⟨_,(zD hM).symm,hle,rfl,rfl⟩
    | false =>
     have hM04:=zU hc4 hM02
     try rw [hc4]
     exact yA [] [(51,.bool false)]<|yT [(1,vT s.l),(2,vI at01),(3,vP b 0),(6,vP b1 0),(8,vI sign),(9,vI y1),(10,vI y2),(11,vI y2),(51,.bool false)]<|yB ⟨_,(zD hM04).symm,hle,rfl,rfl⟩
   | false =>
    have hM05:=zU hc3 ho03
    try rw [hc3]
    exact yA [] [(51,.bool false)]<|yT [(1,vT s.l),(2,vI at01),(3,vP b 0),(6,vP b1 0),(8,vI sign),(9,vI y1),(10,vI y2),(11,vI y2),(51,.bool false)]<|yB ⟨_,(zD hM05).symm,hle,rfl,rfl⟩
 rintro imm04 hs2 m2 ⟨t51,heq3,le4,rfl,rfl⟩;subst o03;have h:=h.mono le4;have hle:=hle.trans le4;refine zE ?_;obtain ⟨o04,ho04,hMc4⟩:=zC hMc3;refine yU (fun imm' hs' m'=>∃ (star:Int),o04=star∧imm04.le imm'∧hs'=[hB b1 [z0,vI 0],hB b (cAff a0 p c)]∧m'=[(1,vT s.l),(2,vI at01),(3,vP b 0),(6,vP b1 0),(8,vI sign),(9,vI y1),(10,vI y2),(11,vI star)]) ?_ ?_
 · have hle:=iS imm04;refine yO ho04 ?_ ?_
   · intro hc5 hM;exact zB<|yA [] [(11,vI (W (y2 + 1)))]<|yT [(1,vT s.l),(2,vI at01),(3,vP b 0),(6,vP b1 0),(8,vI sign),(9,vI y1),(10,vI y2),(11,vI (W (y2 + 1)))]<|yB ⟨_,(zD hM).symm,hle,rfl,rfl⟩
   intro hc5 hM;exact yE<|yT [(1,vT s.l),(2,vI at01),(3,vP b 0),(6,vP b1 0),(8,vI sign),(9,vI y1),(10,vI y2),(11,vI y2)]<|yB ⟨_,(zD hM).symm,hle,rfl,rfl⟩
 rintro imm05 hs2 m2 ⟨star,heq4,le5,rfl,rfl⟩;subst o04;have h:=h.mono le5;have hle:=hle.trans le5;refine zE<|zF<|zB<|yK 2 [] [(54,vT s.l),(55,vI star)] ?_;obtain ⟨y3,hy5,hM⟩:=zC hMc4;refine yR (zDm s star _ hy5 ) ?_;rintro imm06 hs2 v2 k2 le6 - ⟨v02,rfl,rfl,rfl⟩ -;have h:=h.mono le6;have hle:=hle.trans le6;refine yA [] [(12,vI y3)]<|zE<|zF ?_;obtain ⟨l,hy6,hM⟩:=zC hM;refine uA [.x (fun imm' v hx=>∃ b6,v=vS (some ⟨b6,0,none⟩) ([]:List Int) 0∧hx=[hO Int (vS (some ⟨b6,0,none⟩) ([]:List Int) 0) []]∧(RL imm' [] ([]:List Int))),.p (vP b 0) [],.p (vS p a0.Coefs c) [1],.x (fun imm' v hx=>∃ p1 c1 cs,v=vS p1 l c1∧hx=[hO Int (vS p1 l c1) cs]∧(RL imm' cs l)),.p (vP b 1) [],.p (vI a0.Const) [1],.x (fun imm' v hx=>∃ p11 c11 cs1,v=vA [vS p11 l c11,vI a0.Const]∧hx=[hO Int (vS p11 l c11) cs1]∧(RL imm' cs1 l)),.x (fun imm' v hx=>∃ b7,v=vP b7 0∧hx=[hB b7 [z0,vI 0]])] [[],[],[(1,false)],[(0,true),(2,false)],[],[(4,false)],[(3,true),(5,false)],[]] [hB b1 [z0,vI 0],hB b (cAff a0 p c)] [] [(6,true),(7,true)] (zK [0,1] rfl (by decide)) ?_ ?_
 · refine Ox ?_<|Op<|Op<|Ox ?_<|Op<|Op<|Ox ?_<|Ox ?_<|On
   · intro imm1 hf le1;refine zN<|yH [] ?_;have hle:=iS imm1;refine xQ [] Int ?_;intro b6 hb2;have h4:RL imm1 [] ([]:List Int):=rfl;exact zZ (hx:=[hO Int (vS (some ⟨b6,0,none⟩) ([]:List Int) 0) []]) rfl hle rfl (zM rfl) ⟨_,rfl,rfl,h4⟩
   · intro imm1 hf le1;refine zG ?_;rintro _ _ ⟨b6,rfl,rfl,h4⟩;refine zG ?_;rintro _ _ ⟨rfl,rfl⟩;refine zN<|yH [(57,vS (some ⟨b6,0,none⟩) ([]:List Int) 0),(59,vS p a0.Coefs c)] ?_;have hle:=iS imm1;have h:=h.mono le1;obtain ⟨ccs,k0,k01⟩:=h;have h:SL imm1 (vS p a0.Coefs c) a0.Coefs:=⟨_,k0,k01⟩;refine qI 3 1 0 rfl rfl rfl h4 (.inl k0) k01 hy6 ?_;intro p1 c1 cs h5;exact uB (hs':=(hO Int (vS p1 l c1) cs::hB b1 [z0,vI 0]::hB b (cAff a0 p c)::hf)) rfl<|zZ (hx:=[hO Int (vS p1 l c1) cs]) rfl hle rfl (zM rfl) ⟨_,_,_,rfl,rfl,h5⟩
   · intro imm1 hf le1;refine zG ?_;rintro _ _ ⟨p1,c1,cs,rfl,rfl,h5⟩;refine zG ?_;rintro _ _ ⟨rfl,rfl⟩;refine zN<|yH [(60,vS p1 l c1),(62,vI a0.Const)] ?_;have hle:=iS imm1;exact qV 7 [(63,vA [vS p1 l c1,vI a0.Const])]<|zZ (hx:=[hO Int (vS p1 l c1) cs]) rfl hle rfl (zM rfl) ⟨_,_,_,rfl,rfl,h5⟩
   intro imm1 hf le1;refine zN<|yH [] ?_;have hle:=iS imm1;refine uD [z0,vI 0] ?_;intro b7 hb3;exact zZ (hx:=[hB b7 [z0,vI 0]]) rfl hle rfl (zM rfl) ⟨_,rfl,rfl⟩
 intro imm07 le7;refine zG ?_;rintro _ _ ⟨p11,c11,cs1,rfl,rfl,h51⟩;refine zG ?_;rintro _ _ ⟨b7,rfl,rfl⟩;refine zN<|yH [(2,vI at01),(3,vP b 0),(6,vP b1 0),(8,vI sign),(9,vI y1),(10,vI y2),(11,vI star),(12,vI y3),(13,vP b7 0),(63,vA [vS p11 l c11,vI a0.Const])] ?_;have h:=h.mono le7;have hle:=hle.trans le7;refine xJ 0 [vS p11 l c11,vI a0.Const] [hB b7 [vS p11 l c11,vI a0.Const],hO Int (vS p11 l c11) cs1,hB b1 [z0,vI 0],hB b (cAff a0 p c)] rfl rfl rfl rfl<|yN rfl<|zE<|zF<|zF ?_;obtain ⟨o05,ho05,hMc5⟩:=zC hM;refine yU (fun imm' hs' m'=>∃ (t75:Bool),o05=t75∧imm07.le imm'∧hs'=[hB b7 [vS p11 l c11,vI a0.Const],hO Int (vS p11 l c11) cs1,hB b1 [z0,vI 0],hB b (cAff a0 p c)]∧m'=[(2,vI at01),(3,vP b 0),(6,vP b1 0),(8,vI sign),(9,vI y1),(10,vI y2),(11,vI star),(12,vI y3),(13,vP b7 0),(75,.bool t75)]) ?_ ?_
 · have hle:=iS imm07;refine zB<|yK 3 [] [(66,.bool (decide (y3 ≥ 0)))] ?_;cases hc6:(decide (y3 ≥ 0)) with
   | true =>
    have hM06:=zW hc6 ho05
    try rw [hc6]
    refine yK 7 [] [(70,.bool (decide (star > y2)))] ?_;cases hc7:(decide (star > y2)) with
    | true =>
     have hM07:=zW hc7 hM06
     try rw [hc7]
     exact yA [] [(75,.bool true)]<|yT [(2,vI at01),(3,vP b 0),(6,vP b1 0),(8,vI sign),(9,vI y1),(10,vI y2),(11,vI star),(12,vI y3),(13,vP b7 0),(75,.bool true)]<|yB ⟨_,(zD hM07).symm,hle,rfl,rfl⟩
    | false =>
     have hM08:=zU hc7 hM06
     try rw [hc7]
     exact yA [] [(75,.bool (y2 == at01))]<|yT [(2,vI at01),(3,vP b 0),(6,vP b1 0),(8,vI sign),(9,vI y1),(10,vI y2),(11,vI star),(12,vI y3),(13,vP b7 0),(75,.bool (y2 == at01))]<|yB ⟨_,(zD hM08).symm,hle,rfl,rfl⟩
   | false =>
    have hM09:=zU hc6 ho05
    try rw [hc6]
    exact yA [] [(75,.bool false)]<|yT [(2,vI at01),(3,vP b 0),(6,vP b1 0),(8,vI sign),(9,vI y1),(10,vI y2),(11,vI star),(12,vI y3),(13,vP b7 0),(75,.bool false)]<|yB ⟨_,(zD hM09).symm,hle,rfl,rfl⟩
 rintro imm08 hs2 m2 ⟨t75,heq5,le8,rfl,rfl⟩;subst o05;have h51:=iM le8 h51;have h:=h.mono le8;have hle:=hle.trans le8;refine zE<|yO hMc5 ?_ ?_
 · intro hc8 hM;refine zF ?_;obtain ⟨x,hy7,hM⟩:=zC hM;refine uA [.p (vP b7 0) [],.p (vS p11 l c11) [0],.p (vI y3) [],.p (vP b7 0) [],.p (vS p11 l c11) [0],.p (vI y3) [],.x (fun imm' v hx=>∃ ad,v=.pointer (some ad)∧hx=[]∧(AtO (vS p11 l c11) (Rp.sz Int) y3.toNat ad)∧((cs1.drop (y3.toNat * Rp.sz Int)).take (Rp.sz Int)=[vI x])),.q (vI x),.p (vI sign) [],.p (vI y1) [],.p (vI (W (sign * y1))) [],.p (vI (W (x + (W (sign * y1))))) []] [[],[(0,false)],[],[],[(3,false)],[],[(4,false),(5,false)],[(6,false)],[],[],[(8,false),(9,false)],[(7,false),(10,false)]] [hB b7 [vS p11 l c11,vI a0.Const],hO Int (vS p11 l c11) cs1,hB b1 [z0,vI 0],hB b (cAff a0 p c)] [] [(1,false),(2,false),(11,false)] (zK [0,1,2,3] rfl (by decide)) ?_ ?_
   · refine Op<|Op<|Op<|Op<|Op<|Op<|Ox ?_<|Oq ?_<|Op<|Op<|Op<|Op<|On
     · intro imm1 hf le1;refine zG ?_;rintro _ _ ⟨rfl,rfl⟩;refine zG ?_;rintro _ _ ⟨rfl,rfl⟩;refine zN<|yH [(80,vS p11 l c11),(81,vI y3)] ?_;have hle:=iS imm1;have h51:=iM le1 h51;refine nK 1 rfl rfl rfl h51 hy7 ?_;intro ad ccs1 hat hcc hrep;obtain rfl:=hrep;exact zZ (hx:=[]) rfl hle rfl (zM rfl) ⟨_,rfl,rfl,hat,hcc⟩
     intro imm1 hf le1;refine zG ?_;rintro _ _ ⟨ad,rfl,rfl,hat,hcc⟩;refine zN<|yH [(82,.pointer (some ad))] ?_;have hle:=iS imm1;exact zCu 1 0 hat hcc [vI x] (vI x) rfl rfl<|zZ (hx:=[]) rfl hle rfl (zM rfl) ⟨rfl,rfl⟩
   intro imm09 le9;refine zG ?_;rintro _ _ ⟨rfl,rfl⟩;refine zG ?_;rintro _ _ ⟨rfl,rfl⟩;refine zG ?_;rintro _ _ ⟨rfl,rfl⟩;refine zN<|yH [(6,vP b1 0),(11,vI star),(13,vP b7 0),(77,vS p11 l c11),(78,vI y3),(87,vI (W (x + (W (sign * y1)))))] ?_;have h51:=iM le9 h51;obtain ⟨x1,hy8,hM⟩:=zC hM;refine nK 1 rfl rfl rfl h51 hy8 ?_;intro ad1 ccs2 hat1 hcc1 hrep1;obtain rfl:=hrep1;obtain ⟨l1,hy9,hM⟩:=zC hM;refine qX (c:=[vI (W (x + (W (sign * y1))))]) (x':=(W (x + (W (sign * y1))))) 1 0 rfl rfl rfl hat1 rfl rfl hcc1 (by kernel_rfl) (by kernel_rfl) (by kernel_rfl) h51 hy8 (by kernel_rfl) rfl ?_;rw [show l.set y3.toNat (W (x + (W (sign * y1))))=l1 from zD hy9];intro cs2 h6 hl0;refine kJ (m':=[(6,vP b1 0),(11,vI star),(13,vP b7 0),(77,vS p11 l c11),(78,vI y3),(87,vI (W (x + (W (sign * y1)))))]) ⟨rfl,rfl,rfl,rfl,rfl,rfl,trivial⟩<|zCM (hs':=[hB b7 [vS p11 l1 c11,vI a0.Const],hO Int (vS p11 l1 c11) cs2,hB b1 [z0,vI 0],hB b (cAff a0 p c)]) (m':=[(6,vP b1 0),(11,vI star),(13,vP b7 0),(77,vS p11 l1 c11),(78,vI y3),(87,vI (W (x + (W (sign * y1)))))]) (by first | rfl | simp only [vS,hl0,List.nil_append,List.cons_append,List.set_cons_zero,List.set_cons_succ,List.eraseIdx_cons_zero,List.eraseIdx_cons_succ]) (by first | rfl | simp only [vS,hl0])<|yN rfl<|zE<|zF<|zB<|yK 3 [0] [(89,vA [vS p11 l1 c11,vI a0.Const]),(91,vI (W (star + 1)))]<|xJ 2 [vS p11 l1 c11,vI a0.Const] [hB b7 [vS p11 l1 c11,vI a0.Const],hO Int (vS p11 l1 c11) cs2,hB b1 [vS p11 l1 c11,vI a0.Const],hB b (cAff a0 p c)] rfl rfl rfl rfl<|yA [] [(7,vI (W (star + 1)))]<|zE<|yJ<|zR<|xI 1 rfl ?_;intro imm010 le10 hl01;have h7:=SL.of_frozen hl01 le10 h6;obtain rfl:=zD hM;exact yQ ⟨_,_,(.cell 1 rfl rfl (by kernel_rfl) (.tmp rfl ResV.nil)),zX,⟨_,_,rfl,rfl,⟨_,rfl,(yP ⟨_,rfl,h7⟩)⟩,rfl⟩⟩
 intro hc8 hM;refine yE<|zE<|zF<|zF<|zB<|yA [] [(94,.bool (y2 == at01))]<|zE<|yO hM ?_ ?_
 · intro hc9 hM;refine zF<|zB<|yK 1 [3] [(95,vA (cAff a0 p c))]<|xJ 2 (cAff a0 p c) [hB b7 [vS p11 l c11,vI a0.Const],hO Int (vS p11 l c11) cs1,hB b1 (cAff a0 p c),hB b (cAff a0 p c)] rfl rfl rfl rfl<|yA [] [(7,vI (-1))]<|zE<|yJ<|zR ?_;obtain rfl:=zD hM;exact yQ ⟨_,_,(.cell 2 rfl rfl (by kernel_rfl) (.tmp rfl ResV.nil)),zX,⟨_,_,rfl,rfl,⟨_,rfl,(yP ⟨_,rfl,h⟩)⟩,rfl⟩⟩
 intro hc9 hM;refine yE<|zE<|zF<|zB<|yK 7 [0] [(101,vI (W (a0.Const + (W (sign * y1))))),(102,vP b7 1)]<|xJ 0 [vS p11 l c11,vI (W (a0.Const + (W (sign * y1))))] [hB b7 [vS p11 l c11,vI (W (a0.Const + (W (sign * y1))))],hO Int (vS p11 l c11) cs1,hB b1 [z0,vI 0],hB b (cAff a0 p c)] rfl rfl rfl rfl<|yN rfl<|zE<|zF<|zB<|yK 2 [0] [(103,vA [vS p11 l c11,vI (W (a0.Const + (W (sign * y1))))]),(104,vI y2)]<|xJ 2 [vS p11 l c11,vI (W (a0.Const + (W (sign * y1))))] [hB b7 [vS p11 l c11,vI (W (a0.Const + (W (sign * y1))))],hO Int (vS p11 l c11) cs1,hB b1 [vS p11 l c11,vI (W (a0.Const + (W (sign * y1))))],hB b (cAff a0 p c)] rfl rfl rfl rfl<|yA [] [(7,vI y2)]<|zE<|yJ<|xI 1 rfl ?_;intro imm011 le11 hl02;have h8:=SL.of_frozen hl02 le11 h51;obtain rfl:=zD hM;exact yQ ⟨_,_,(.cell 1 rfl rfl (by kernel_rfl) (.tmp rfl ResV.nil)),zX,⟨_,_,rfl,rfl,⟨_,rfl,(yP ⟨_,rfl,h8⟩)⟩,rfl⟩⟩
def fF (r:Str):KT:=fun kk imm' hs' v=>
  ∃ v0,hs'=[]∧v=tupV [v0]∧v0=.string ⟨⟨r.l⟩⟩
def rJ (n01:Int) (out:Str):Option ((Int×Str)):=do
 if (decide (n01 > 9)) then
  let s1←cat (⟨([(u8 (W (48 + (n01.tmod 10))))]:List UInt8)⟩:Str) out
  rJ (W (n01.tdiv 10)) s1
 else
  pure (n01,out)
 partial_fixpoint
theorem zBn :∀ (n01:Int) (out:Str) (o:(Int×Str)),rJ n01 out=some o→∀ {B}{imm0 imm:Imm}{Q}  ,imm0.le imm→(∀ gl a w,¬Q (.goto gl) a w)→(∀ a w,¬Q .outgrown a w)→(∀ (imm':Imm) (n02:Int) (out1:Str),o=(n02,out1)→imm0.le imm'→T 31 B Q (.exit 0) imm' [] [(0,vI n02),(3,vT out1.l)])→J Tryz.prog 31 B (nav (bodyOf Tryz.f174) [1,1,1,1,0,0]) Q imm [] [(0,vI n01),(3,vT out.l)]:=by
 refine rJ.partial_correctness  _ ?_;intro self ih n01 out o hM B imm0 imm Q  hle  hg ho hx;refine xC hg ho<|zF<|zF<|zB<|yA [] [(13,.bool (decide (n01 > 9)))]<|zE<|yO hM ?_ ?_
 · intro hc2 hM;refine yE<|zE<|yC<|zF<|zB<|yK 3 [] [(16,vI (W (48 + (n01.tmod 10))))]<|zJP (d:=17) (i:=(W (48 + (n01.tmod 10)))) rfl (by kernel_rfl)<|xQ [.int .u8 ((u8 (W (48 + (n01.tmod 10)))).toNat:Int)] UInt8 ?_;intro b hb;have h1:RL imm [.int .u8 ((u8 (W (48 + (n01.tmod 10)))).toNat:Int)] ([(u8 (W (48 + (n01.tmod 10))))]:List UInt8):=⟨[.int .u8 ((u8 (W (48 + (n01.tmod 10)))).toNat:Int)],_,rfl,rfl,rfl,rfl⟩;refine zG3 (l:=([(u8 (W (48 + (n01.tmod 10))))]:List UInt8)) rfl rfl rfl rfl (by kernel_rfl) (by kernel_rfl) (.inr ⟨0,rfl⟩) h1<|yK 7 [] [(20,vT out.l)] ?_;obtain ⟨s1,hy2,hM⟩:=zC hM;exact jH rfl hy2<|yA [] [(3,vT s1.l)]<|zE<|zB<|yA [] [(0,vI (W (n01.tdiv 10)))]<|zY<|xD<|qA (zK [] rfl (by decide))<|vQ [(0,vI (W (n01.tdiv 10))),(3,vT s1.l)]<|ih (W (n01.tdiv 10)) s1 _ hM hle  hg ho hx
 intro hc2 hM;exact xA<|zS<|zS<|yT [(0,vI n01),(3,vT out.l)]<|hx _ _ _ (zD hM).symm hle
def sI (n0:Int):Option (Str):=do
 if (decide (n0 < (-9223372036854775807))) then
  pure (⟨[45,57,50,50,51,51,55,50,48,51,54,56,53,52,55,55,53,56,48,56]⟩:Str)
 else
  if (decide (n0 < 0)) then
   let y←sI (W (0 - n0))
   let s←cat (⟨[45]⟩:Str) y
   pure (id s)
  else
   let (n02,out1)←rJ n0 (⟨[]⟩:Str)
   let s2←cat (⟨([(u8 (W (48 + n02)))]:List UInt8)⟩:Str) out1
   pure (id s2)
 partial_fixpoint
theorem jN:∀ (n0:Int) r,sI n0=some r→∀ {imm:Imm} ,Ret Tryz.prog 174 [vI n0] imm [] (fF  r):=by
 refine sI.partial_correctness (fun n0 r=>∀ {imm:Imm} ,Ret Tryz.prog 174 [vI n0] imm [] (fF  r)) ?_;intro F_spec_l16Dec ih_spec_l16Dec n0 r hM imm;refine yG (fn:=Tryz.f174) (c:=(bodyOf Tryz.f174)) Tryz.func174 rfl rfl ?_;rintro B - -;refine zF<|zB<|yA [] []<|zE<|zF<|zF<|zB<|yA [] [(5,.bool (decide (n0 < (-9223372036854775807))))]<|zE<|yO hM ?_ ?_
 · intro hc hM;refine zF<|zB<|yA [] [(2,vT ([45,57,50,50,51,51,55,50,48,51,54,56,53,52,55,55,53,56,48,56]))]<|zE<|yJ<|zR ?_;obtain rfl:=zD hM;exact yQ ⟨_,_,(.tmp rfl ResV.nil),zX,⟨_,rfl,rfl,rfl⟩⟩
 intro hc hM;refine yE<|zE<|zF<|zF<|zB<|yA [] [(7,.bool (decide (n0 < 0)))]<|zE<|yO hM ?_ ?_
 · intro hc1 hM;refine zF<|zB<|yK 2 [] [(9,vI (W (0 - n0)))] ?_;obtain ⟨y,hy,hM⟩:=zC hM;refine yR (ih_spec_l16Dec (W (0 - n0)) _ hy ) ?_;rintro imm0 hs2 v2 k2 le - ⟨v0,rfl,rfl,rfl⟩ -;obtain ⟨s,hy1,hM⟩:=zC hM;refine jH rfl hy1<|yA [] [(2,vT s.l)]<|zE<|yJ<|zR ?_;obtain rfl:=zD hM;exact yQ ⟨_,_,(.tmp rfl ResV.nil),zX,⟨_,rfl,rfl,rfl⟩⟩
 intro hc1 hM;refine yE<|zE<|zF<|zB<|yA [] [(3,vT ([]))]<|zE<|zF<|yC<|vQ [(0,vI n0),(3,vT ([]))] ?_;obtain ⟨o0,ho0,hMl⟩:=zC hM;refine zBn n0 (⟨[]⟩:Str) o0 ho0 iR  (fun _ _ _ h=>h) (fun _ _ h=>h) ?_;intro imm01 n02 out1 heq le1;subst o0;refine yD<|zE<|zF<|zB<|yK 2 [] [(25,vI (W (48 + n02)))]<|zJP (d:=26) (i:=(W (48 + n02))) rfl (by kernel_rfl)<|xQ [.int .u8 ((u8 (W (48 + n02))).toNat:Int)] UInt8 ?_;intro b1 hb1;have h2:RL imm01 [.int .u8 ((u8 (W (48 + n02))).toNat:Int)] ([(u8 (W (48 + n02)))]:List UInt8):=⟨[.int .u8 ((u8 (W (48 + n02))).toNat:Int)],_,rfl,rfl,rfl,rfl⟩;refine zG3 (l:=([(u8 (W (48 + n02)))]:List UInt8)) rfl rfl rfl rfl (by kernel_rfl) (by kernel_rfl) (.inr ⟨0,rfl⟩) h2<|yK 6 [] [(29,vT out1.l)] ?_;obtain ⟨s2,hy3,hM⟩:=zC hMl;refine jH rfl hy3<|yA [] [(2,vT s2.l)]<|zE<|yJ ?_;obtain rfl:=zD hM;exact yQ ⟨_,_,(.tmp rfl ResV.nil),zX,⟨_,rfl,rfl,rfl⟩⟩
def zCb (r:Str):KT:=fun kk imm' hs' v=>
  ∃ v0,hs'=[]∧v=tupV [v0]∧v0=.string ⟨⟨r.l⟩⟩
def nF (n0:Int) (name:Str):Option (Str):=do
 let (n01,sign)←(do
   if (decide (n0 < 0)) then
    pure ((W (0 - n0)),(⟨[45]⟩:Str))
   else
    pure (n0,(⟨[43]⟩:Str))
     : Option (Int×Str))
 if (name.l == ([]:List UInt8)) then
  let y←sI n01
  let s←cat sign y
  pure (id s)
 else
  if (n01 == 1) then
   let s1←cat sign name
   pure (id s1)
  else
   let y1←sI n01
   let s2←cat sign y1
   let s3←cat s2 (⟨[42]⟩:Str)
   let s4←cat s3 name
   pure (id s4)
theorem dW:∀ (n0:Int) (name:Str) r,nF n0 name=some r→∀ {imm:Imm} ,Ret Tryz.prog 181 [vI n0,vT name.l] imm [] (zCb  r):=by
 intro n0 name r hM imm;unfold nF at hM;refine yG (fn:=Tryz.f181) (c:=(bodyOf Tryz.f181)) Tryz.func181 rfl rfl ?_;rintro B - -;have hle:=iS imm;refine zF<|zB<|yA [] []<|zE<|zF<|zB<|yA [] [(5,vT ([43]))]<|zE<|zF<|zF<|zB<|yA [] [(7,.bool (decide (n0 < 0)))]<|zE ?_;obtain ⟨o0,ho0,hMc⟩:=zC hM;refine yU (fun imm' hs' m'=>∃ (n01:Int) (sign:Str),o0=(n01,sign)∧imm.le imm'∧hs'=[]∧m'=[(0,vI n01),(1,vT name.l),(5,vT sign.l)]) ?_ ?_
 · have hle:=iS imm;refine yO ho0 ?_ ?_
   · intro hc hM;exact zF<|zB<|yA [] [(5,vT ([45]))]<|zE<|zB<|yA [] [(0,vI (W (0 - n0)))]<|yT [(0,vI (W (0 - n0))),(1,vT name.l),(5,vT ([45]))]<|yB ⟨_,_,(zD hM).symm,hle,rfl,rfl⟩
   intro hc hM;exact yE<|yT [(0,vI n0),(1,vT name.l),(5,vT ([43]))]<|yB ⟨_,_,(zD hM).symm,hle,rfl,rfl⟩
 rintro imm0 hs2 m2 ⟨n01,sign,heq,le,rfl,rfl⟩;subst o0;refine zE<|zF<|zF<|zB<|yA [] [(11,.bool (name.l == ([]:List UInt8)))]<|zE<|yO hMc ?_ ?_
 · intro hc1 hM;refine zF<|zB<|yK 2 [] [(12,vT sign.l),(13,vI n01)] ?_;obtain ⟨y,hy,hM⟩:=zC hM;refine yR (jN n01 _ hy ) ?_;rintro imm01 hs2 v2 k2 le1 - ⟨v0,rfl,rfl,rfl⟩ -;obtain ⟨s,hy1,hM⟩:=zC hM;refine jH rfl hy1<|yA [] [(4,vT s.l)]<|zE<|yJ<|zR ?_;obtain rfl:=zD hM;exact yQ ⟨_,_,(.tmp rfl ResV.nil),zX,⟨_,rfl,rfl,rfl⟩⟩
 intro hc1 hM;refine yE<|zE<|zF<|zF<|zB<|yA [] [(17,.bool (n01 == 1))]<|zE<|yO hM ?_ ?_
 · intro hc2 hM;refine zF<|zB<|yK 2 [] [(18,vT sign.l),(19,vT name.l)] ?_;obtain ⟨s1,hy2,hM⟩:=zC hM;refine jH rfl hy2<|yA [] [(4,vT s1.l)]<|zE<|yJ<|zR ?_;obtain rfl:=zD hM;exact yQ ⟨_,_,(.tmp rfl ResV.nil),zX,⟨_,rfl,rfl,rfl⟩⟩
 intro hc2 hM;refine yE<|zE<|zF<|zB<|yK 2 [] [(21,vT sign.l),(22,vI n01)] ?_;obtain ⟨y1,hy3,hM⟩:=zC hM;refine yR (jN n01 _ hy3 ) ?_;rintro imm02 hs2 v2 k2 le2 - ⟨v01,rfl,rfl,rfl⟩ -;obtain ⟨s2,hy4,hM⟩:=zC hM;refine jH rfl hy4 ?_;obtain ⟨s3,hy5,hM⟩:=zC hM;refine jH rfl hy5<|yK 6 [] [(26,vT name.l)] ?_;obtain ⟨s4,hy6,hM⟩:=zC hM;refine jH rfl hy6<|yA [] [(4,vT s4.l)]<|zE<|yJ ?_;obtain rfl:=zD hM;exact yQ ⟨_,_,(.tmp rfl ResV.nil),zX,⟨_,rfl,rfl,rfl⟩⟩
def zCc (r:Str):KT:=fun kk imm' hs' v=>
  ∃ v0,hs'=[]∧v=tupV [v0]∧v0=.string ⟨⟨r.l⟩⟩
def rK (a0:zA) (out:Str) (i:Int):Option (Str):=do
 if (decide (i < (a0.Coefs.length:Int))) then
  let x←idx a0.Coefs i
  let out2←(do
    if (x != 0) then
     let x1←idx a0.Coefs i
     let s←sslc (⟨[105,106,107,108]⟩:Str) i (W (i + 1))
     let y←nF x1 s
     let s1←cat out y
     pure (id s1)
    else
     pure (id out)
      : Option Str)
  rK a0 out2 (W (i + 1))
 else
  pure (id out)
 partial_fixpoint
theorem zBo (a0:zA):∀ (out:Str) (i:Int) (o:Str),rK a0 out i=some o→∀ {B}{imm0 imm:Imm}{Q p c}{b:Nat},imm0.le imm→(S4 imm p a0.Coefs c)→(∀ gl a w,¬Q (.goto gl) a w)→(∀ a w,¬Q .outgrown a w)→(∀ (imm':Imm) (out1:Str),o=out1→imm0.le imm'→T 46 B Q (.exit 0) imm' [hB b (cAff a0 p c)] [(1,vP b 0),(3,vT out1.l)])→J Tryz.prog 46 B (nav (bodyOf Tryz.f175) [1,1,0,1,0]) Q imm [hB b (cAff a0 p c)] [(1,vP b 0),(3,vT out.l),(4,vI i)]:=by
 refine rK.partial_correctness a0 _ ?_;intro self ih out i o hM B imm0 imm Q p c b hle h hg ho hx;refine xC hg ho<|zF<|zF<|zB<|yA [0] [(9,.bool (decide (i < (a0.Coefs.length:Int))))]<|zE<|yO hM ?_ ?_
 · intro hc hM;refine yE<|zE<|zF<|yC<|zF<|zB<|yK 3 [0] [(13,vS p a0.Coefs c),(14,vI i)] ?_;obtain ⟨x,hy,hM⟩:=zC hM;refine wJ rfl rfl h hy ?_;intro ad ccs hat hrep;obtain rfl:=hrep;refine xS 0 hat [vI x] (vI x) rfl<|yA [] [(17,.bool (x != 0))]<|zE ?_;obtain ⟨o0,ho0,hMc⟩:=zC hM;refine yU (fun imm' hs' m'=>∃ (out2:Str),o0=out2∧imm.le imm'∧hs'=[hB b (cAff a0 p c)]∧m'=[(1,vP b 0),(3,vT out2.l),(4,vI i)]) ?_ ?_
   · have hle:=iS imm;refine yO ho0 ?_ ?_
     · intro hc1 hM;obtain ⟨x1,hy1,hM⟩:=zC hM;obtain ⟨s,hy2,hM⟩:=zC hM;obtain ⟨y,hy3,hM⟩:=zC hM;obtain ⟨s1,hy4,hM⟩:=zC hM;refine uA [.p (vT out.l) [],.p (vP b 0) [],.p (vS p a0.Coefs c) [0],.p (vI i) [],.x (fun imm' v hx=>∃ ad1,v=.pointer (some ad1)∧hx=[]∧(At imm' ad1 [vI x1])),.q (vI x1),.p (vI i) [],.p (vI i) [],.p (vI (W (i + 1))) [],.q (vT s.l),.q (vT y.l),.q (vT s1.l)] [[],[],[(1,false)],[],[(2,false),(3,false)],[(4,false)],[],[],[(7,false)],[(6,false),(8,false)],[(5,false),(9,false)],[(0,false),(10,false)]] [hB b (cAff a0 p c)] [] [(11,false)] (zK [0] rfl (by decide)) ?_ ?_
       · refine Op<|Op<|Op<|Op<|Ox ?_<|Oq ?_<|Op<|Op<|Op<|Oq ?_<|Oq ?_<|Oq ?_<|On
         · intro imm1 hf le1;refine zG ?_;rintro _ _ ⟨rfl,rfl⟩;refine zG ?_;rintro _ _ ⟨rfl,rfl⟩;refine zN<|yH [(20,vS p a0.Coefs c),(21,vI i)] ?_;have hle:=iS imm1;have h:=h.mono le1;refine wJ rfl rfl h hy1 ?_;intro ad1 ccs1 hat1 hrep1;obtain rfl:=hrep1;exact zZ (hx:=[]) rfl hle rfl (zM rfl) ⟨_,rfl,rfl,hat1⟩
         · intro imm1 hf le1;refine zG ?_;rintro _ _ ⟨ad1,rfl,rfl,hat1⟩;refine zN<|yH [(22,.pointer (some ad1))] ?_;have hle:=iS imm1;exact xS 0 hat1 [vI x1] (vI x1) rfl<|zZ (hx:=[]) rfl hle rfl (zM rfl) ⟨rfl,rfl⟩
         · intro imm1 hf le1;refine zG ?_;rintro _ _ ⟨rfl,rfl⟩;refine zG ?_;rintro _ _ ⟨rfl,rfl⟩;refine zN<|yH [(24,vI i),(26,vI (W (i + 1)))] ?_;have hle:=iS imm1;exact zEQ rfl hy2<|zZ (hx:=[]) rfl hle rfl (zM rfl) ⟨rfl,rfl⟩
         · intro imm1 hf le1;refine zG ?_;rintro _ _ ⟨rfl,rfl⟩;refine zG ?_;rintro _ _ ⟨rfl,rfl⟩;refine zN<|yH [(23,vI x1),(27,vT s.l)] ?_;have hle:=iS imm1;refine yR (dW x1 s _ hy3 ) ?_;rintro imm01 hs2 v2 k2 le - ⟨v0,rfl,rfl,rfl⟩ -;have hle:=hle.trans le;exact zZ (hx:=[]) rfl hle rfl (zM rfl) ⟨rfl,rfl⟩
         intro imm1 hf le1;refine zG ?_;rintro _ _ ⟨rfl,rfl⟩;refine zG ?_;rintro _ _ ⟨rfl,rfl⟩;refine zN<|yH [(18,vT out.l),(28,vT y.l)] ?_;have hle:=iS imm1;exact jH rfl hy4<|zZ (hx:=[]) rfl hle rfl (zM rfl) ⟨rfl,rfl⟩
       intro imm02 le1;refine zG ?_;rintro _ _ ⟨rfl,rfl⟩;refine zN<|yH [(1,vP b 0),(4,vI i),(29,vT s1.l)] ?_;have hle:=hle.trans le1;exact yA [] [(3,vT s1.l)]<|yT [(1,vP b 0),(3,vT s1.l),(4,vI i)]<|yB ⟨_,(zD hM).symm,hle,rfl,rfl⟩
     intro hc1 hM;exact yE<|yT [(1,vP b 0),(3,vT out.l),(4,vI i)]<|yB ⟨_,(zD hM).symm,hle,rfl,rfl⟩
   rintro imm0 hs2 m2 ⟨out2,heq,le2,rfl,rfl⟩;subst o0;have h:=h.mono le2;have hle:=hle.trans le2;exact zY<|zE<|zB<|yA [] [(4,vI (W (i + 1)))]<|xD<|vQ [(1,vP b 0),(3,vT out2.l),(4,vI (W (i + 1)))]<|ih out2 (W (i + 1)) _ hMc hle h hg ho hx
 intro hc hM;exact xA<|zS<|zS<|yT [(1,vP b 0),(3,vT out.l)]<|hx _ _ (zD hM).symm hle
def oC (a0:zA):Option (Str):=do
 let out1←rK a0 (⟨[]⟩:Str) 0
 let out3←(do
   if (a0.Const != 0) then
    let y1←nF a0.Const (⟨[]⟩:Str)
    let s2←cat out1 y1
    pure (id s2)
   else
    pure (id out1)
     : Option Str)
 if (out3.l == ([]:List UInt8)) then
  pure (⟨[48]⟩:Str)
 else
  let s3←sslc out3 0 1
  if (s3.l == ([43]:List UInt8)) then
   let s4←sslc out3 1 (out3.l.length:Int)
   pure (id s4)
  else
   pure (id out3)
theorem jO:∀ (a0:zA) r,oC a0=some r→∀ {imm:Imm}{p c},(S4 imm p a0.Coefs c)→Ret Tryz.prog 175 [vA (cAff a0 p c)] imm [] (zCc  r):=by
 intro a0 r hM imm p c h;unfold oC at hM;refine yG (fn:=Tryz.f175) (c:=(bodyOf Tryz.f175)) Tryz.func175 rfl rfl ?_;rintro B - -;have hle:=iS imm;refine zF<|zB<|tR (cAff a0 p c) ?_;intro b hb;refine yA [] []<|zE<|zF<|zB<|yA [] [(3,vT ([]))]<|zE<|zF<|zF<|zB<|yA [] [(4,vI 0)]<|zE<|yC<|vQ [(1,vP b 0),(3,vT ([])),(4,vI 0)] ?_;obtain ⟨o01,ho01,hMl⟩:=zC hM;refine zBo a0 (⟨[]⟩:Str) 0 o01 ho01 iR h (fun _ _ _ h=>h) (fun _ _ h=>h) ?_;intro imm03 out1 heq1 le3;subst o01;have hle:=hle.trans le3;refine yD<|zE<|zF<|zF<|zB<|yA [0] [(32,.bool (a0.Const != 0))]<|zE ?_;obtain ⟨o02,ho02,hMc1⟩:=zC hMl;refine yU (fun imm' hs' m'=>∃ (out3:Str),o02=out3∧imm03.le imm'∧hs'=[]∧m'=[(3,vT out3.l)]) ?_ ?_
 · have hle:=iS imm03;refine yO ho02 ?_ ?_
   · intro hc2 hM;refine zB<|yK 3 [0] [(33,vT out1.l),(35,vI a0.Const)] ?_;obtain ⟨y1,hy5,hM⟩:=zC hM;refine yR (dW a0.Const (⟨[]⟩:Str) _ hy5 ) ?_;rintro imm05 hs2 v2 k2 le4 - ⟨v01,rfl,rfl,rfl⟩ -;have hle:=hle.trans le4;obtain ⟨s2,hy6,hM⟩:=zC hM;exact jH rfl hy6<|yA [] [(3,vT s2.l)]<|wD (zK [] rfl (by decide))<|yT [(3,vT s2.l)]<|yB ⟨_,(zD hM).symm,hle,rfl,rfl⟩
   intro hc2 hM;exact yE<|wD (zK [] rfl (by decide))<|yT [(3,vT out1.l)]<|yB ⟨_,(zD hM).symm,hle,rfl,rfl⟩
 rintro imm04 hs2 m2 ⟨out3,heq2,le5,rfl,rfl⟩;subst o02;refine zE<|zF<|zF<|zB<|yA [] [(39,.bool (out3.l == ([]:List UInt8)))]<|zE<|yO hMc1 ?_ ?_
 · intro hc3 hM;refine zF<|zB<|yA [] [(2,vT ([48]))]<|zE<|yJ<|zR ?_;obtain rfl:=zD hM;exact yQ ⟨_,_,(.tmp rfl ResV.nil),zX,⟨_,rfl,rfl,rfl⟩⟩
 intro hc3 hM;refine yE<|zE<|zF<|zF<|zB<|yK 1 [] [(40,vT out3.l)] ?_;obtain ⟨s3,hy7,hM⟩:=zC hM;refine zEQ rfl hy7<|yA [] [(42,.bool (s3.l == ([43]:List UInt8)))]<|zE<|yO hM ?_ ?_
 · intro hc4 hM;refine zF<|zB<|yK 1 [] [(43,vT out3.l)] ?_;obtain ⟨s4,hy8,hM⟩:=zC hM;refine zEQ rfl hy8<|yA [] [(2,vT s4.l)]<|zE<|yJ<|zR ?_;obtain rfl:=zD hM;exact yQ ⟨_,_,(.tmp rfl ResV.nil),zX,⟨_,rfl,rfl,rfl⟩⟩
 intro hc4 hM;refine yE<|zE<|zF<|zB<|yA [] [(2,vT out3.l)]<|zE<|yJ ?_;obtain rfl:=zD hM;exact yQ ⟨_,_,(.tmp rfl ResV.nil),zX,⟨_,rfl,rfl,rfl⟩⟩
def fW (r:Str):KT:=fun kk imm' hs' v=>
  ∃ v0,hs'=[]∧v=tupV [v0]∧v0=.string ⟨⟨r.l⟩⟩
def qJ (a0:zA):Option (Str):=do
 let y←wZ a0
 if (!y) then
  pure (⟨[]⟩:Str)
 else
  let y1←oC a0
  pure (id y1)
theorem dX:∀ (a0:zA) r,qJ a0=some r→∀ {imm:Imm}{p c},(S4 imm p a0.Coefs c)→Ret Tryz.prog 171 [vA (cAff a0 p c)] imm [] (fW  r):=by
 intro a0 r hM imm p c h;unfold qJ at hM;refine yG (fn:=Tryz.f171) (c:=(bodyOf Tryz.f171)) Tryz.func171 rfl rfl ?_;rintro B - -;refine zF<|zB<|tR (cAff a0 p c) ?_;intro b hb;refine yA [] []<|zE<|zF<|zF<|zB<|yK 1 [0] [(3,vA (cAff a0 p c))] ?_;obtain ⟨y,hy,hM⟩:=zC hM;refine yR (oG a0 _ hy h) ?_;rintro imm0 hs2 v2 k2 le - ⟨v0,rfl,rfl,rfl⟩ -;have h:=h.mono le;refine yA [] [(5,.bool (!y))]<|zE<|yO hM ?_ ?_
 · intro hc hM;refine zF<|zB<|yA [] [(2,vT ([]))]<|zE<|yJ<|zR ?_;obtain rfl:=zD hM;exact yQ ⟨_,_,(.tmp rfl ResV.nil),zX,⟨_,rfl,rfl,rfl⟩⟩
 intro hc hM;refine yE<|zE<|zF<|zB<|yK 1 [0] [(6,vA (cAff a0 p c))] ?_;obtain ⟨y1,hy1,hM⟩:=zC hM;refine yR (jO a0 _ hy1 h) ?_;rintro imm01 hs2 v2 k2 le1 - ⟨v01,rfl,rfl,rfl⟩ -;refine yA [] [(2,vT y1.l)]<|zE<|yJ ?_;obtain rfl:=zD hM;exact yQ ⟨_,_,(.tmp rfl ResV.nil),zX,⟨_,rfl,rfl,rfl⟩⟩
def eV (r:zA×Bool):KT:=fun kk imm' hs' v=>
  ∃ v0 v1,hs'=[]∧v=tupV [v0,v1]∧(∃ cs,v0=.agg ⟨cs⟩∧Rp.rep imm' cs r.1)∧v1=.bool r.2
def tS (text:Str) (at0:Int) (x:zA):Option (zA):=do
 let t18←(do
   if (decide (at0 ≥ 0)) then
    pure (decide (at0 < (text.l.length:Int)))
   else
    pure false
     : Option Bool)
 if t18 then
  let (y2,y3)←nO x text at0
  tS text y3 y2
 else
  pure (id x)
 partial_fixpoint
theorem fX (text:Str):∀ (at0:Int) (x:zA) (o:zA),tS text at0 x=some o→∀ {B}{imm0 imm:Imm}{Q}  {b:Nat}{b1:Nat}{p1 c1},imm0.le imm→(S4 imm p1 x.Coefs c1)→(∀ gl a w,¬Q (.goto gl) a w)→(∀ a w,¬Q .outgrown a w)→(∀ (imm':Imm) (x1:zA) (p2:Option Addr) (c2:Nat),o=x1→imm0.le imm'→(S4 imm' p2 x1.Coefs c2)→T 32 B Q (.exit 0) imm' [hB b1 (cAff x1 p2 c2),hB b [z0,vI 0]] [(0,vT text.l),(2,vP b 0),(4,vP b1 0)])→J Tryz.prog 32 B (nav (bodyOf Tryz.f161) [1,1,1,1,0,0]) Q imm [hB b1 (cAff x p1 c1),hB b [z0,vI 0]] [(0,vT text.l),(2,vP b 0),(4,vP b1 0),(5,vI at0)]:=by
 refine tS.partial_correctness text _ ?_;intro self ih at0 x o hM B imm0 imm Q b b1 p1 c1 hle h2 hg ho hx;refine xC hg ho<|zF<|zF ?_;obtain ⟨o0,ho0,hMc⟩:=zC hM;refine yU (fun imm' hs' m'=>∃ (t18:Bool),o0=t18∧imm.le imm'∧hs'=[hB b1 (cAff x p1 c1),hB b [z0,vI 0]]∧m'=[(0,vT text.l),(2,vP b 0),(4,vP b1 0),(5,vI at0),(18,.bool t18)]) ?_ ?_
 · have hle:=iS imm;refine zB<|yK 3 [] [(13,.bool (decide (at0 ≥ 0)))] ?_;cases hc1:(decide (at0 ≥ 0)) with
   | true =>
    have hM0:=zW hc1 ho0
    try rw [hc1]
    exact yA [] [(18,.bool (decide (at0 < (text.l.length:Int))))]<|yT [(0,vT text.l),(2,vP b 0),(4,vP b1 0),(5,vI at0),(18,.bool (decide (at0 < (text.l.length:Int))))]<|yB ⟨_,(zD hM0).symm,hle,rfl,rfl⟩
   | false =>
    have hM01:=zU hc1 ho0
    try rw [hc1]
    exact yA [] [(18,.bool false)]<|yT [(0,vT text.l),(2,vP b 0),(4,vP b1 0),(5,vI at0),(18,.bool false)]<|yB ⟨_,(zD hM01).symm,hle,rfl,rfl⟩
 rintro imm02 hs2 m2 ⟨t18,heq,le2,rfl,rfl⟩;subst o0;have h2:=h2.mono le2;have hle:=hle.trans le2;refine zE<|yO hMc ?_ ?_
 · intro hc2 hM;refine yE<|zE<|yC<|zB<|yK 3 [0] [(20,vA (cAff x p1 c1)),(21,vT text.l),(22,vI at0)] ?_;obtain ⟨⟨y2,y3⟩,hy1,hM⟩:=zC hM;refine yR (zDG x text at0 _ hy1 h2) ?_;rintro imm03 hs2 v2 k2 le3 - ⟨v0,v01,rfl,rfl,⟨cs1,rfl,h4⟩,rfl⟩ -;have hle:=hle.trans le3;obtain ⟨v02,rfl,h6⟩:=yM h4;obtain ⟨p3,c3,rfl⟩:=h6.form;exact yK 7 [] [(24,vA (cAff y2 p3 c3)),(25,vI y3)]<|xJ 0 (cAff y2 p3 c3) [hB b1 (cAff y2 p3 c3),hB b [z0,vI 0]] rfl rfl rfl rfl<|yA [] [(5,vI y3)]<|zY<|xD<|vQ [(0,vT text.l),(2,vP b 0),(4,vP b1 0),(5,vI y3)]<|ih y3 y2 _ hM hle h6 hg ho hx
 intro hc2 hM;exact xA<|zS<|zS<|yT [(0,vT text.l),(2,vP b 0),(4,vP b1 0)]<|hx _ _ _ _ (zD hM).symm hle h2
def rL (text:Str):Option (zA×Bool):=do
 let y←rU
 if (decide ((text.l.length:Int) > 40)) then
  pure ((zA.mk ([]:List Int) 0),false)
 else
  let x1←tS text 0 (zA.mk y.Coefs y.Const)
  let y4←qJ x1
  if (!(y4.l == text.l)) then
   pure ((zA.mk ([]:List Int) 0),false)
  else
   pure (x1,true)
theorem kX:∀ (text:Str) r,rL text=some r→∀ {imm:Imm} ,Ret Tryz.prog 161 [vT text.l] imm [] (eV  r):=by
 intro text r hM imm;unfold rL at hM;refine yG (fn:=Tryz.f161) (c:=(bodyOf Tryz.f161)) Tryz.func161 rfl rfl ?_;rintro B - -;refine zF<|zB<|uD [z0,vI 0] ?_;intro b hb;refine yA [] []<|zE<|zF<|zB ?_;obtain ⟨y,hy,hM⟩:=zC hM;refine yR (oI  _ hy ) ?_;rintro imm0 hs2 v2 k2 le - ⟨p,c,cs,rfl,rfl,h⟩ -;refine uD [z0,vI 0] ?_;intro b1 hb1;refine xJ 0 (cAff y p c) [hB b1 (cAff y p c),hO Int (vS p y.Coefs c) cs,hB b [z0,vI 0]] rfl rfl rfl rfl<|yN rfl<|zE<|zF<|zF<|zB<|yA [] [(9,.bool (decide ((text.l.length:Int) > 40)))]<|zE<|yO hM ?_ ?_
 · intro hc hM;refine zF<|zB<|yK 1 [] [(10,vA [z0,vI 0])]<|xJ 2 [z0,vI 0] [hB b1 (cAff y p c),hO Int (vS p y.Coefs c) cs,hB b [z0,vI 0]] rfl rfl rfl rfl<|yA [] [(3,.bool false)]<|zE<|yJ<|zR ?_;obtain rfl:=zD hM;exact yQ ⟨_,_,(.cell 2 rfl rfl (by kernel_rfl) (.tmp rfl ResV.nil)),zX,⟨_,_,rfl,rfl,⟨_,rfl,(yP ⟨_,rfl,(SL.nil _)⟩)⟩,rfl⟩⟩
 intro hc hM;refine yE<|zE<|zF<|zB<|yA [] [(5,vI 0)]<|zE<|zF<|yC<|qW 1 rfl ?_;intro imm01 le1 hl0;have h1:=SL.of_frozen hl0 le1 h;refine vQ [(0,vT text.l),(2,vP b 0),(4,vP b1 0),(5,vI 0)] ?_;obtain ⟨o01,ho01,hMl⟩:=zC hM;refine fX text 0 (zA.mk y.Coefs y.Const) o01 ho01 iR h1 (fun _ _ _ h=>h) (fun _ _ h=>h) ?_;intro imm04 x1 p2 c2 heq1 le4 h3;subst o01;refine yD<|zE<|zF<|zF<|zB<|yK 1 [0] [(26,vA (cAff x1 p2 c2))] ?_;obtain ⟨y4,hy2,hM⟩:=zC hMl;refine yR (dX x1 _ hy2 h3) ?_;rintro imm05 hs2 v2 k2 le5 - ⟨v03,rfl,rfl,rfl⟩ -;have h3:=h3.mono le5;refine yA [] [(29,.bool (!(y4.l == text.l)))]<|zE<|yO hM ?_ ?_
 · intro hc3 hM;refine zF<|zB<|yK 1 [] [(30,vA [z0,vI 0])]<|xJ 1 [z0,vI 0] [hB b1 (cAff x1 p2 c2),hB b [z0,vI 0]] rfl rfl rfl rfl<|yA [] [(3,.bool false)]<|zE<|yJ<|zR ?_;obtain rfl:=zD hM;exact yQ ⟨_,_,(.cell 1 rfl rfl (by kernel_rfl) (.tmp rfl ResV.nil)),zX,⟨_,_,rfl,rfl,⟨_,rfl,(yP ⟨_,rfl,(SL.nil _)⟩)⟩,rfl⟩⟩
 intro hc3 hM;refine yE<|zE<|zF<|zB<|yK 1 [0] [(31,vA (cAff x1 p2 c2))]<|xJ 1 (cAff x1 p2 c2) [hB b1 (cAff x1 p2 c2),hB b (cAff x1 p2 c2)] rfl rfl rfl rfl<|yA [] [(3,.bool true)]<|zE<|yJ ?_;obtain rfl:=zD hM;exact yQ ⟨_,_,(.cell 1 rfl rfl (by kernel_rfl) (.tmp rfl ResV.nil)),zX,⟨_,_,rfl,rfl,⟨_,rfl,(yP ⟨_,rfl,h3⟩)⟩,rfl⟩⟩
def zCd (r:(List Str)):KT:=fun kk imm' hs' v=>
  ∃ v0,hs'=[]∧v=tupV [v0]∧SL imm' v0 r
def rM (s:Str) (c:UInt8) (out:List Str) (from0:Int) (i:Int):Option (List Str):=do
 if (decide (i ≤ (s.l.length:Int))) then
  let t25←(do
    if (i == (s.l.length:Int)) then
     pure true
    else
     let b1←sidx s i
     pure ((b1.toNat:Int) == (c.toNat:Int))
      : Option Bool)
  let (out2,from01)←(do
    if t25 then
     let s1←sslc s from0 i
     let out3←app 16 out ([s1]:List Str)
     pure (out3,(W (i + 1)))
    else
     pure (out,from0)
      : Option (List Str×Int))
  rM s c out2 from01 (W (i + 1))
 else
  pure (id out)
 partial_fixpoint
theorem zBp (s:Str) (c:UInt8):∀ (out:List Str) (from0:Int) (i:Int) (o:List Str),rM s c out from0 i=some o→∀ {B}{imm0 imm:Imm}{Q p c1 cs},imm0.le imm→(RL imm cs out)→(∀ gl a w,¬Q (.goto gl) a w)→(∀ a w,¬Q .outgrown a w)→(∀ (imm':Imm) (out1:List Str) (p1:Option Addr) (c2:Nat) (cs1:List Value),o=out1→imm0.le imm'→(RL imm' cs1 out1)→T 36 B Q (.exit 0) imm' [hO Str (vS p1 out1 c2) cs1] [(5,vS p1 out1 c2)])→J Tryz.prog 36 B (nav (bodyOf Tryz.f169) [1,1,1,0,1,0]) Q imm [hO Str (vS p out c1) cs] [(0,vT s.l),(1,.int .u8 (c.toNat:Int)),(5,vS p out c1),(6,vI from0),(7,vI i)]:=by
 refine rM.partial_correctness s c _ ?_;intro self ih out from0 i o hM B imm0 imm Q p c1 cs hle h1 hg ho hx;refine xC hg ho<|zF<|zF<|zB<|yA [] [(12,.bool (decide (i ≤ (s.l.length:Int))))]<|zE<|yO hM ?_ ?_
 · intro hc hM;refine yE<|zE<|zF<|yC<|zF ?_;obtain ⟨o0,ho0,hMc⟩:=zC hM;refine yU (fun imm' hs' m'=>∃ (t25:Bool),o0=t25∧imm.le imm'∧hs'=[hO Str (vS p out c1) cs]∧m'=[(0,vT s.l),(1,.int .u8 (c.toNat:Int)),(5,vS p out c1),(6,vI from0),(7,vI i),(25,.bool t25)]) ?_ ?_
   · have hle:=iS imm;refine zB<|yK 5 [] [(19,.bool (i == (s.l.length:Int)))] ?_;cases hc1:(i == (s.l.length:Int)) with
     | true =>
      have hM0:=zW hc1 ho0
      try rw [hc1]
      exact yA [] [(25,.bool true)]<|yT [(0,vT s.l),(1,.int .u8 (c.toNat:Int)),(5,vS p out c1),(6,vI from0),(7,vI i),(25,.bool true)]<|yB ⟨_,(zD hM0).symm,hle,rfl,rfl⟩
     | false =>
      have hM01:=zU hc1 ho0
      try rw [hc1]
      refine yK 7 [] [(20,vT s.l),(21,vI i)] ?_;obtain ⟨b1,hy,hM⟩:=zC hM01;exact jV rfl rfl hy<|yA [] [(25,.bool ((b1.toNat:Int) == (c.toNat:Int)))]<|yT [(0,vT s.l),(1,.int .u8 (c.toNat:Int)),(5,vS p out c1),(6,vI from0),(7,vI i),(25,.bool ((b1.toNat:Int) == (c.toNat:Int)))]<|yB ⟨_,(zD hM).symm,hle,rfl,rfl⟩
   rintro imm0 hs2 m2 ⟨t25,heq,le,rfl,rfl⟩;subst o0;have h1:=iM le h1;have hle:=hle.trans le;refine zE ?_;obtain ⟨o01,ho01,hMc1⟩:=zC hMc;refine yU (fun imm' hs' m'=>∃ (out2:List Str) (from01:Int) (p2:Option Addr) (c3:Nat) (cs2:List Value),o01=(out2,from01)∧imm0.le imm'∧(RL imm' cs2 out2)∧hs'=[hO Str (vS p2 out2 c3) cs2]∧m'=[(0,vT s.l),(1,.int .u8 (c.toNat:Int)),(5,vS p2 out2 c3),(6,vI from01),(7,vI i)]) ?_ ?_
   · have hle:=iS imm0;refine yO ho01 ?_ ?_
     · intro hc2 hM;refine zF<|zB<|yK 4 [] [(26,vS p out c1),(27,vT s.l),(28,vI from0),(29,vI i)] ?_;obtain ⟨s1,hy1,hM⟩:=zC hM;refine zEQ rfl hy1<|xQ [vT s1.l] Str ?_;intro b2 hb1;have h4:RL imm0 [vT s1.l] ([s1]:List Str):=⟨[vT s1.l],_,rfl,rfl,rfl,rfl⟩;obtain ⟨out3,hy2,hM⟩:=zC hM;refine qI 9 1 1 rfl rfl rfl h1 (.inr ⟨0,rfl⟩) h4 hy2 ?_;intro p3 c4 cs3 h5;exact rX (zK [1] (hs':=[hO Str (vS p3 out3 c4) cs3]) rfl (by decide))<|yA [] [(5,vS p3 out3 c4)]<|zE<|zB<|yA [] [(6,vI (W (i + 1)))]<|yT [(0,vT s.l),(1,.int .u8 (c.toNat:Int)),(5,vS p3 out3 c4),(6,vI (W (i + 1))),(7,vI i)]<|yB ⟨_,_,_,_,_,(zD hM).symm,hle,h5,rfl,rfl⟩
     intro hc2 hM;exact yE<|yT [(0,vT s.l),(1,.int .u8 (c.toNat:Int)),(5,vS p out c1),(6,vI from0),(7,vI i)]<|yB ⟨_,_,_,_,_,(zD hM).symm,hle,h1,rfl,rfl⟩
   rintro imm01 hs2 m2 ⟨out2,from01,p2,c3,cs2,heq1,le1,h3,rfl,rfl⟩;subst o01;have hle:=hle.trans le1;exact zY<|zE<|zB<|yA [] [(7,vI (W (i + 1)))]<|xD<|vQ [(0,vT s.l),(1,.int .u8 (c.toNat:Int)),(5,vS p2 out2 c3),(6,vI from01),(7,vI (W (i + 1)))]<|ih out2 from01 (W (i + 1)) _ hMc1 hle h3 hg ho hx
 intro hc hM;exact xA<|zS<|zS<|yT [(5,vS p out c1)]<|hx _ _ _ _ _ (zD hM).symm hle h1
def mA (s:Str) (c:UInt8):Option ((List Str)):=do
 let out1←rM s c ([]:List Str) 0 0
 pure (id out1)
theorem zDn:∀ (s:Str) (c:UInt8) r,mA s c=some r→∀ {imm:Imm} ,Ret Tryz.prog 169 [vT s.l,.int .u8 (c.toNat:Int)] imm [] (zCd  r):=by
 intro s c r hM imm;unfold mA at hM;refine yG (fn:=Tryz.f169) (c:=(bodyOf Tryz.f169)) Tryz.func169 rfl rfl ?_;rintro B - -;refine zF<|zB<|yA [] []<|zE<|zF<|zB<|xQ [] Str ?_;intro b hb;have h:RL imm [] ([]:List Str):=rfl;refine yA [] [(5,vS (some ⟨b,0,none⟩) ([]:List Str) 0)]<|zE<|zF<|zB<|yA [] [(6,vI 0)]<|zE<|zF<|zF<|zB<|yA [] [(7,vI 0)]<|zE<|yC<|vQ [(0,vT s.l),(1,.int .u8 (c.toNat:Int)),(5,vS (some ⟨b,0,none⟩) ([]:List Str) 0),(6,vI 0),(7,vI 0)] ?_;obtain ⟨o02,ho02,hMl⟩:=zC hM;refine zBp s c ([]:List Str) 0 0 o02 ho02 iR h (fun _ _ _ h=>h) (fun _ _ h=>h) ?_;intro imm02 out1 p1 c2 cs1 heq2 le2 h2;subst o02;refine yD<|zE<|zF<|zB<|yA [] [(4,vS p1 out1 c2)]<|zE<|yJ<|xI 0 rfl ?_;intro imm03 le3 hl0;have h6:=SL.of_frozen hl0 le3 h2;obtain rfl:=zD hMl;exact yQ ⟨_,_,(.tmp rfl ResV.nil),zX,⟨_,rfl,rfl,h6⟩⟩
def eW (r:(List zA)):KT:=fun kk imm' hs' v=>
  ∃ v0,hs'=[]∧v=tupV [v0]∧SL imm' v0 r
def uR (y:(List Str)) (out:List zA) (i:Int):Option (List zA):=do
 let t18←(do
   if (decide (i < (y.length:Int))) then
    pure (decide (i ≤ 2))
   else
    pure false
     : Option Bool)
 if t18 then
  let x←idx y i
  let (y2,y3)←rL x
  let out2←app 32 out ([y2]:List zA)
  uR y out2 (W (i + 1))
 else
  pure (id out)
 partial_fixpoint
theorem fY (y:(List Str)):∀ (out:List zA) (i:Int) (o:List zA),uR y out i=some o→∀ {B}{imm0 imm:Imm}{Q p c p1 c1 cs},imm0.le imm→(S4 imm p y c)→(RL imm cs out)→(∀ gl a w,¬Q (.goto gl) a w)→(∀ a w,¬Q .outgrown a w)→(∀ (imm':Imm) (out1:List zA) (p2:Option Addr) (c2:Nat) (cs1:List Value),o=out1→imm0.le imm'→(RL imm' cs1 out1)→T 34 B Q (.exit 0) imm' [hO zA (vS p2 out1 c2) cs1] [(3,vS p2 out1 c2)])→J Tryz.prog 34 B (nav (bodyOf Tryz.f160) [1,1,1,0,1,0]) Q imm [hO zA (vS p1 out c1) cs] [(3,vS p1 out c1),(4,vS p y c),(5,vI i)]:=by
 refine uR.partial_correctness y _ ?_;intro self ih out i o hM B imm0 imm Q p c p1 c1 cs hle h1 h2 hg ho hx;refine xC hg ho<|zF<|zF ?_;obtain ⟨o0,ho0,hMc⟩:=zC hM;refine yU (fun imm' hs' m'=>∃ (t18:Bool),o0=t18∧imm.le imm'∧hs'=[hO zA (vS p1 out c1) cs]∧m'=[(3,vS p1 out c1),(4,vS p y c),(5,vI i),(18,.bool t18)]) ?_ ?_
 · have hle:=iS imm;refine zB<|yK 5 [] [(15,.bool (decide (i < (y.length:Int))))] ?_;cases hc:(decide (i < (y.length:Int))) with
   | true =>
    have hM0:=zW hc ho0
    try rw [hc]
    exact yA [] [(18,.bool (decide (i ≤ 2)))]<|yT [(3,vS p1 out c1),(4,vS p y c),(5,vI i),(18,.bool (decide (i ≤ 2)))]<|yB ⟨_,(zD hM0).symm,hle,rfl,rfl⟩
   | false =>
    have hM01:=zU hc ho0
    try rw [hc]
    exact yA [] [(18,.bool false)]<|yT [(3,vS p1 out c1),(4,vS p y c),(5,vI i),(18,.bool false)]<|yB ⟨_,(zD hM01).symm,hle,rfl,rfl⟩
 rintro imm01 hs2 m2 ⟨t18,heq,le1,rfl,rfl⟩;subst o0;have h2:=iM le1 h2;have h1:=h1.mono le1;have hle:=hle.trans le1;refine zE<|yO hMc ?_ ?_
 · intro hc1 hM;refine yE<|zE<|zF<|yC<|zF<|zB<|yK 2 [] [(22,vS p y c),(23,vI i)] ?_;obtain ⟨x,hy1,hM⟩:=zC hM;refine wJ rfl rfl h1 hy1 ?_;intro ad ccs hat hrep;obtain rfl:=hrep;refine xS 0 hat [vT x.l] (vT x.l) rfl ?_;obtain ⟨⟨y2,y3⟩,hy2,hM⟩:=zC hM;refine yR (kX x _ hy2 ) ?_;rintro imm02 hs2 v2 k2 le2 - ⟨v01,v02,rfl,rfl,⟨cs2,rfl,h4⟩,rfl⟩ -;have h2:=iM le2 h2;have h1:=h1.mono le2;have hle:=hle.trans le2;obtain ⟨v03,rfl,h6⟩:=yM h4;obtain ⟨p3,c3,rfl⟩:=h6.form;refine yK 8 [] [(27,vA (cAff y2 p3 c3)),(28,.bool y3)]<|uD [z0,vI 0] ?_;intro b1 hb1;refine xJ 0 (cAff y2 p3 c3) [hB b1 (cAff y2 p3 c3),hO zA (vS p1 out c1) cs] rfl rfl rfl rfl<|yA [] []<|zE<|zB<|yK 2 [0] [(29,vS p1 out c1),(30,vA (cAff y2 p3 c3))]<|xQ (cAff y2 p3 c3) zA ?_;intro b2 hb2;have h7:RL imm02 (cAff y2 p3 c3) ([y2]:List zA):=⟨(cAff y2 p3 c3),_,rfl,rfl,(yP ⟨_,rfl,h6⟩),rfl⟩;obtain ⟨out2,hy3,hM⟩:=zC hM;refine qI 66 2 2 rfl rfl rfl h2 (.inr ⟨0,rfl⟩) h7 hy3 ?_;intro p4 c4 cs3 h8;exact rX (zK [1,2] (hs':=[hB b1 (cAff y2 p3 c3),hO zA (vS p4 out2 c4) cs3]) rfl (by decide))<|yA [] [(3,vS p4 out2 c4)]<|zY<|zE<|zB<|yA [] [(5,vI (W (i + 1)))]<|xD<|qA (zK [1] rfl (by decide))<|vQ [(3,vS p4 out2 c4),(4,vS p y c),(5,vI (W (i + 1)))]<|ih out2 (W (i + 1)) _ hM hle h1 h8 hg ho hx
 intro hc1 hM;exact xA<|zS<|zS<|yT [(3,vS p1 out c1)]<|hx _ _ _ _ _ (zD hM).symm hle h2
def pC (text:Str):Option ((List zA)):=do
 let y←mA text (44:UInt8)
 let out1←uR y ([]:List zA) 0
 pure (id out1)
theorem zA3:∀ (text:Str) r,pC text=some r→∀ {imm:Imm} ,Ret Tryz.prog 160 [vT text.l] imm [] (eW  r):=by
 intro text r hM imm;unfold pC at hM;refine yG (fn:=Tryz.f160) (c:=(bodyOf Tryz.f160)) Tryz.func160 rfl rfl ?_;rintro B - -;refine zF<|zB<|yA [] []<|zE<|zF<|zB<|xQ [] zA ?_;intro b hb;have h:RL imm [] ([]:List zA):=rfl;refine yA [] [(3,vS (some ⟨b,0,none⟩) ([]:List zA) 0)]<|zE<|zF<|zB<|yK 1 [] [(9,vT text.l)] ?_;obtain ⟨y,hy,hM⟩:=zC hM;refine yR (zDn text (44:UInt8) _ hy ) ?_;rintro imm0 hs2 v2 k2 le - ⟨v0,rfl,rfl,h1⟩ -;have h:=iM le h;obtain ⟨p,c,rfl⟩:=h1.form;refine yA [] [(4,vS p y c)]<|zE<|zF<|zF<|zB<|yA [] [(5,vI 0)]<|zE<|yC<|vQ [(3,vS (some ⟨b,0,none⟩) ([]:List zA) 0),(4,vS p y c),(5,vI 0)] ?_;obtain ⟨o01,ho01,hMl⟩:=zC hM;refine fY y ([]:List zA) 0 o01 ho01 iR h1 h (fun _ _ _ h=>h) (fun _ _ h=>h) ?_;intro imm03 out1 p2 c2 cs1 heq1 le3 h3;subst o01;refine yD<|zE<|zF<|zB<|yA [] [(2,vS p2 out1 c2)]<|zE<|yJ<|xI 0 rfl ?_;intro imm04 le4 hl0;have h9:=SL.of_frozen hl0 le4 h3;obtain rfl:=zD hMl;exact yQ ⟨_,_,(.tmp rfl ResV.nil),zX,⟨_,rfl,rfl,h9⟩⟩
def fG (r:zL×Int):KT:=fun kk imm' hs' v=>
  ∃ v0 v1,hs'=[]∧v=tupV [v0,v1]∧(∃ cs,v0=.agg ⟨cs⟩∧Rp.rep imm' cs r.1)∧v1=.int .i64 r.2
def sF (s:Str) (at0:Int):Option (zL×Int):=do
 let y←oJ s at0 (93:UInt8)
 let t20←(do
   if (decide (y < (W (at0 + 2)))) then
    pure true
   else
    let b1←sidx s (W (at0 + 1))
    pure ((b1.toNat:Int) != 91)
     : Option Bool)
 if t20 then
  pure ((zL.mk (⟨[]⟩:Str) ([]:List zA)),(-1))
 else
  let s1←sslc s at0 (W (at0 + 1))
  let s2←sslc s (W (at0 + 2)) y
  let y1←pC s2
  pure ((zL.mk s1 y1),(W (y + 1)))
theorem mU:∀ (s:Str) (at0:Int) r,sF s at0=some r→∀ {imm:Imm} ,Ret Tryz.prog 144 [vT s.l,vI at0] imm [] (fG  r):=by
 intro s at0 r hM imm;unfold sF at hM;refine yG (fn:=Tryz.f144) (c:=(bodyOf Tryz.f144)) Tryz.func144 rfl rfl ?_;rintro B - -;have hle:=iS imm;refine zF<|zB<|uD [vT ([]),z0] ?_;intro b hb;refine yA [] []<|zE<|zF<|zB<|yK 2 [] [(7,vT s.l),(8,vI at0)] ?_;obtain ⟨y,hy,hM⟩:=zC hM;refine yR (eT s at0 (93:UInt8) _ hy ) ?_;rintro imm0 hs2 v2 k2 le - ⟨v0,rfl,rfl,rfl⟩ -;have hle:=hle.trans le;refine yA [] [(6,vI y)]<|zE<|zF<|zF ?_;obtain ⟨o0,ho0,hMc⟩:=zC hM;refine yU (fun imm' hs' m'=>∃ (t20:Bool),o0=t20∧imm0.le imm'∧hs'=[hB b [vT ([]),z0]]∧m'=[(0,vT s.l),(1,vI at0),(4,vP b 0),(6,vI y),(20,.bool t20)]) ?_ ?_
 · have hle:=iS imm0;refine zB<|yK 5 [] [(14,.bool (decide (y < (W (at0 + 2)))))] ?_;cases hc:(decide (y < (W (at0 + 2)))) with
   | true =>
    have hM0:=zW hc ho0
    try rw [hc]
    exact yA [] [(20,.bool true)]<|yT [(0,vT s.l),(1,vI at0),(4,vP b 0),(6,vI y),(20,.bool true)]<|yB ⟨_,(zD hM0).symm,hle,rfl,rfl⟩
   | false =>
    have hM01:=zU hc ho0
    try rw [hc]
    refine yK 8 [] [(15,vT s.l),(17,vI (W (at0 + 1)))] ?_;obtain ⟨b1,hy1,hM⟩:=zC hM01;exact jV rfl rfl hy1<|yA [] [(20,.bool ((b1.toNat:Int) != 91))]<|yT [(0,vT s.l),(1,vI at0),(4,vP b 0),(6,vI y),(20,.bool ((b1.toNat:Int) != 91))]<|yB ⟨_,(zD hM).symm,hle,rfl,rfl⟩
 rintro imm01 hs2 m2 ⟨t20,heq,le1,rfl,rfl⟩;subst o0;have hle:=hle.trans le1;refine zE<|yO hMc ?_ ?_
 · intro hc1 hM;refine zF<|zB<|yK 1 [] [(21,vA [vT ([]),z0])]<|xJ 0 [vT ([]),z0] [hB b [vT ([]),z0]] rfl rfl rfl rfl<|yA [] [(5,vI (-1))]<|zE<|yJ<|zR ?_;obtain rfl:=zD hM;exact yQ ⟨_,_,(.cell 0 rfl rfl (by kernel_rfl) (.tmp rfl ResV.nil)),zX,⟨_,_,rfl,rfl,⟨_,rfl,(qQ ⟨_,rfl,(SL.nil _)⟩)⟩,rfl⟩⟩
 intro hc1 hM;refine yE<|zE<|zF ?_;obtain ⟨s1,hy2,hM⟩:=zC hM;obtain ⟨s2,hy3,hM⟩:=zC hM;obtain ⟨y1,hy4,hM⟩:=zC hM;refine uA [.p (vT s.l) [],.p (vI at0) [],.p (vI at0) [],.p (vI (W (at0 + 1))) [],.q (vT s1.l),.p (vT s.l) [],.p (vI at0) [],.p (vI (W (at0 + 2))) [],.p (vI y) [],.q (vT s2.l),.x (fun imm' v hx=>∃ p c,v=vS p y1 c∧hx=[]∧(S4 imm' p y1 c)),.x (fun imm' v hx=>∃ p1 c1,v=vA [vT s1.l,vS p1 y1 c1]∧hx=[]∧(S4 imm' p1 y1 c1)),.p (vI y) [],.p (vI (W (y + 1))) [],.x (fun imm' v hx=>∃ p11 c11,hx=[hB b [vT s1.l,vS p11 y1 c11]]∧(S4 imm' p11 y1 c11))] [[],[],[],[(2,false)],[(0,false),(1,false),(3,false)],[],[],[(6,false)],[],[(5,false),(7,false),(8,false)],[(9,false)],[(4,false),(10,false)],[],[(12,false)],[(11,false),(16,true)]] [] [[hB b [vT ([]),z0]]] [(13,false),(14,true)] (zK [0] rfl (by decide)) ?_ ?_
 · refine Op<|Op<|Op<|Op<|Oq ?_<|Op<|Op<|Op<|Op<|Oq ?_<|Ox ?_<|Ox ?_<|Op<|Op<|Ox ?_<|On
   · intro imm1 hf le1;refine zG ?_;rintro _ _ ⟨rfl,rfl⟩;refine zG ?_;rintro _ _ ⟨rfl,rfl⟩;refine zG ?_;rintro _ _ ⟨rfl,rfl⟩;refine zN<|yH [(22,vT s.l),(23,vI at0),(25,vI (W (at0 + 1)))] ?_;have hle:=iS imm1;exact zEQ rfl hy2<|zZ (hx:=[]) rfl hle rfl (zM rfl) ⟨rfl,rfl⟩
   · intro imm1 hf le1;refine zG ?_;rintro _ _ ⟨rfl,rfl⟩;refine zG ?_;rintro _ _ ⟨rfl,rfl⟩;refine zG ?_;rintro _ _ ⟨rfl,rfl⟩;refine zN<|yH [(27,vT s.l),(29,vI (W (at0 + 2))),(30,vI y)] ?_;have hle:=iS imm1;exact zEQ rfl hy3<|zZ (hx:=[]) rfl hle rfl (zM rfl) ⟨rfl,rfl⟩
   · intro imm1 hf le1;refine zG ?_;rintro _ _ ⟨rfl,rfl⟩;refine zN<|yH [(31,vT s2.l)] ?_;have hle:=iS imm1;refine yR (zA3 s2 _ hy4 ) ?_;rintro imm02 hs2 v2 k2 le2 - ⟨v01,rfl,rfl,h1⟩ -;have hle:=hle.trans le2;obtain ⟨p,c,rfl⟩:=h1.form;exact zZ (hx:=[]) rfl hle rfl (zM rfl) ⟨_,_,rfl,rfl,h1⟩
   · intro imm1 hf le1;refine zG ?_;rintro _ _ ⟨rfl,rfl⟩;refine zG ?_;rintro _ _ ⟨p,c,rfl,rfl,h1⟩;refine zN<|yH [(26,vT s1.l),(32,vS p y1 c)] ?_;have hle:=iS imm1;exact qV 12 [(33,vA [vT s1.l,vS p y1 c])]<|zZ (hx:=[]) rfl hle rfl (zM rfl) ⟨_,_,rfl,rfl,h1⟩
   intro imm1 hf le1;refine zG ?_;rintro _ _ ⟨p1,c1,rfl,rfl,h11⟩;refine zG ?_;rintro _ _ rfl;refine zN<|yH [(4,vP b 0),(33,vA [vT s1.l,vS p1 y1 c1])] ?_;have hle:=iS imm1;exact xJ 0 [vT s1.l,vS p1 y1 c1] (hB b [vT s1.l,vS p1 y1 c1]::hf) rfl rfl rfl rfl<|zZ (hx:=[hB b [vT s1.l,vS p1 y1 c1]]) rfl hle rfl (zF3 (v:=undef)) ⟨_,_,rfl,h11⟩
 intro imm03 le3;refine zG ?_;rintro _ _ ⟨rfl,rfl⟩;refine zG ?_;rintro _ _ ⟨p11,c11,rfl,h111⟩;refine zN<|yH [(4,vP b 0),(35,vI (W (y + 1)))] ?_;refine yA [] [(5,vI (W (y + 1)))]<|zE<|yJ ?_;obtain rfl:=zD hM;exact yQ ⟨_,_,(.cell 0 rfl rfl (by kernel_rfl) (.tmp rfl ResV.nil)),zX,⟨_,_,rfl,rfl,⟨_,rfl,(qQ ⟨_,rfl,h111⟩)⟩,rfl⟩⟩
def gL (r:zH×Int):KT:=fun kk imm' hs' v=>
  ∃ v0 v1,hs'=[]∧v=tupV [v0,v1]∧(∃ cs,v0=.agg ⟨cs⟩∧Rp.rep imm' cs r.1)∧v1=.int .i64 r.2
def mO (r:zH×Int):KT:=fun kk imm' hs' v=>
  ∃ v0 v1,hs'=[]∧v=tupV [v0,v1]∧(∃ cs,v0=.agg ⟨cs⟩∧Rp.rep imm' cs r.1)∧v1=.int .i64 r.2
mutual
def nP (s:Str) (at0:Int) (levels:Int):Option (zH×Int):=do
 let (y1,y2)←sS (same s) (same at0) (same levels)
 let t27←(do
   if (decide (y2 < 0)) then
    pure true
   else
    pure (decide (y2 ≥ (s.l.length:Int)))
     : Option Bool)
 if t27 then
  pure ((zH.mk 0 0 (zA.mk ([]:List Int) 0) (zL.mk (⟨[]⟩:Str) ([]:List zA)) ([]:List zH)),(-1))
 else
  let b2←sidx s y2
  let kind←(do
    if ((b2.toNat:Int) == 45) then
     pure (id 5)
    else
     let kind1←(do
       if ((b2.toNat:Int) == 42) then
        pure (id 6)
       else
        pure (id 4)
         : Option Int)
     pure (id kind1)
      : Option Int)
  let (y4,y5)←sS (same s) (W (y2 + 1)) (same levels)
  let t51←(do
    if (decide (y5 < 0)) then
     pure true
    else
     pure (decide (y5 ≥ (s.l.length:Int)))
      : Option Bool)
  if t51 then
   pure ((zH.mk 0 0 (zA.mk ([]:List Int) 0) (zL.mk (⟨[]⟩:Str) ([]:List zA)) ([]:List zH)),(-1))
  else
   pure ((zH.mk kind 0 (zA.mk ([]:List Int) 0) (zL.mk (⟨[]⟩:Str) ([]:List zA)) ([y1,y4]:List zH)),(W (y5 + 1)))
 partial_fixpoint
def sS (s:Str) (at0:Int) (levels:Int):Option (zH×Int):=do
 let t26←(do
   if (decide (levels < 1)) then
    pure true
   else
    if (decide (at0 < 0)) then
     pure true
    else
     pure (decide (at0 ≥ (s.l.length:Int)))
     : Option Bool)
 if t26 then
  pure ((zH.mk 0 0 (zA.mk ([]:List Int) 0) (zL.mk (⟨[]⟩:Str) ([]:List zA)) ([]:List zH)),(-1))
 else
  let b1←sidx s at0
  if ((b1.toNat:Int) == 123) then
   let y←oJ s at0 (125:UInt8)
   if (decide (y < 0)) then
    pure ((zH.mk 0 0 (zA.mk ([]:List Int) 0) (zL.mk (⟨[]⟩:Str) ([]:List zA)) ([]:List zH)),(-1))
   else
    let s1←sslc s (W (at0 + 1)) y
    let (y2,y3)←rL s1
    pure ((zH.mk 2 0 y2 (zL.mk (⟨[]⟩:Str) ([]:List zA)) ([]:List zH)),(W (y + 1)))
  else
   let t52←(do
     let b3←sidx s at0
     if (decide ((b3.toNat:Int) ≥ 65)) then
      let b4←sidx s at0
      pure (decide ((b4.toNat:Int) ≤ 68))
     else
      pure false
       : Option Bool)
   if t52 then
    let (y5,y6)←sF s at0
    pure ((zH.mk 3 0 (zA.mk ([]:List Int) 0) y5 ([]:List zH)),y6)
   else
    let b6←sidx s at0
    if ((b6.toNat:Int) == 40) then
     let (y8,y9)←nP (same s) (W (at0 + 1)) (W (levels - 1))
     pure (y8,y9)
    else
     let (y11,y12)←pH s at0
     if (y12 == at0) then
      pure ((zH.mk 0 0 (zA.mk ([]:List Int) 0) (zL.mk (⟨[]⟩:Str) ([]:List zA)) ([]:List zH)),(-1))
     else
      pure ((zH.mk 1 y11 (zA.mk ([]:List Int) 0) (zL.mk (⟨[]⟩:Str) ([]:List zA)) ([]:List zH)),y12)
 partial_fixpoint
end
theorem zCe:(∀ (s:Str) (at0:Int) (levels:Int) r,nP s at0 levels=some r→∀ {imm:Imm} ,Ret Tryz.prog 162 [vT s.l,vI at0,vI levels] imm [] (gL  r))∧(∀ (s:Str) (at0:Int) (levels:Int) r,sS s at0 levels=some r→∀ {imm:Imm} ,Ret Tryz.prog 145 [vT s.l,vI at0,vI levels] imm [] (mO  r)):=by
  refine nP.mutual_partial_correctness (fun s at0 levels r=>∀ {imm:Imm} ,Ret Tryz.prog 162 [vT s.l,vI at0,vI levels] imm [] (gL  r)) (fun s at0 levels r=>∀ {imm:Imm} ,Ret Tryz.prog 145 [vT s.l,vI at0,vI levels] imm [] (mO  r)) ?_ ?_
  · intro F_spec_l3Parse ih_spec_l3Parse s at0 levels r hM imm;refine yG (fn:=Tryz.f162) (c:=(bodyOf Tryz.f162)) Tryz.func162 rfl rfl ?_;rintro B - -;have hle:=iS imm;refine zF<|zB<|uD zExpr ?_;intro b hb;refine yA [] []<|zE<|zF<|zB<|yK 3 [] [(14,vT s.l),(15,vI at0),(16,vI levels)] ?_;obtain ⟨⟨y1,y2⟩,hy,hM⟩:=zC hM;refine yR (ih_spec_l3Parse s at0 levels _ hy ) ?_;rintro imm0 hs2 v2 k2 le - ⟨v0,v01,rfl,rfl,⟨cs,rfl,h⟩,rfl⟩ -;have hle:=hle.trans le;obtain ⟨v02,v03,v04,rfl,h2,h3,h4⟩:=wK h;obtain ⟨p,c,rfl⟩:=h2.form;obtain ⟨p1,c1,rfl⟩:=h3.form;obtain ⟨p2,c2,rfl⟩:=h4.form;refine yK 7 [] [(18,vA (cExpr y1 p c p1 c1 p2 c2)),(19,vI y2)]<|uD zExpr ?_;intro b1 hb1;refine xJ 0 (cExpr y1 p c p1 c1 p2 c2) [hB b1 (cExpr y1 p c p1 c1 p2 c2),hB b zExpr] rfl rfl rfl rfl<|yA [] [(9,vI y2)]<|zE<|zF<|zF ?_;obtain ⟨o0,ho0,hMc⟩:=zC hM;refine yU (fun imm' hs' m'=>∃ (t27:Bool),o0=t27∧imm0.le imm'∧hs'=[hB b1 (cExpr y1 p c p1 c1 p2 c2),hB b zExpr]∧m'=[(0,vT s.l),(2,vI levels),(6,vP b 0),(8,vP b1 0),(9,vI y2),(27,.bool t27)]) ?_ ?_
    · have hle:=iS imm0;refine zB<|yK 3 [] [(22,.bool (decide (y2 < 0)))] ?_;cases hc:(decide (y2 < 0)) with
      | true =>
       have hM0:=zW hc ho0
       try rw [hc]
       exact yA [] [(27,.bool true)]<|yT [(0,vT s.l),(2,vI levels),(6,vP b 0),(8,vP b1 0),(9,vI y2),(27,.bool true)]<|yB ⟨_,(zD hM0).symm,hle,rfl,rfl⟩
      | false =>
       have hM01:=zU hc ho0
       try rw [hc]
       exact yA [] [(27,.bool (decide (y2 ≥ (s.l.length:Int))))]<|yT [(0,vT s.l),(2,vI levels),(6,vP b 0),(8,vP b1 0),(9,vI y2),(27,.bool (decide (y2 ≥ (s.l.length:Int))))]<|yB ⟨_,(zD hM01).symm,hle,rfl,rfl⟩
    rintro imm01 hs2 m2 ⟨t27,heq,le1,rfl,rfl⟩;subst o0;have h2:=h2.mono le1;have h3:=h3.mono le1;have h4:=h4.mono le1;have hle:=hle.trans le1;refine zE<|yO hMc ?_ ?_
    · intro hc1 hM;refine zF<|zB<|yK 1 [] [(28,vA zExpr)]<|xJ 1 zExpr [hB b1 (cExpr y1 p c p1 c1 p2 c2),hB b zExpr] rfl rfl rfl rfl<|yA [] [(7,vI (-1))]<|zE<|yJ<|zR ?_;obtain rfl:=zD hM;exact yQ ⟨_,_,(.cell 1 rfl rfl (by kernel_rfl) (.tmp rfl ResV.nil)),zX,⟨_,_,rfl,rfl,⟨_,rfl,(xM ⟨_,_,_,rfl,(SL.nil _),(SL.nil _),(SL.nil _)⟩)⟩,rfl⟩⟩
    intro hc1 hM;refine yE<|zE<|zF<|zB<|yA [] [(10,vI 4)]<|zE<|zF<|zF<|zB<|yK 2 [] [(29,vT s.l),(30,vI y2)] ?_;obtain ⟨b2,hy1,hM⟩:=zC hM;refine jV rfl rfl hy1<|yN rfl<|zE<|yC<|zF<|zB<|yA [] [(32,.bool ((b2.toNat:Int) == 45))]<|zE ?_;obtain ⟨o01,ho01,hMc1⟩:=zC hM;refine yU (fun imm' hs' m'=>∃ (kind:Int),o01=kind∧imm01.le imm'∧hs'=[hB b1 (cExpr y1 p c p1 c1 p2 c2),hB b zExpr]∧m'=[(0,vT s.l),(2,vI levels),(6,vP b 0),(8,vP b1 0),(9,vI y2),(10,vI kind)]) ?_ ?_
    · have hle:=iS imm01;refine yO ho01 ?_ ?_
      · intro hc2 hM;exact zB<|yA [] [(10,vI 5)]<|yT [(0,vT s.l),(2,vI levels),(6,vP b 0),(8,vP b1 0),(9,vI y2),(10,vI 5)]<|yB ⟨_,(zD hM).symm,hle,rfl,rfl⟩
      intro hc2 hM;refine zF<|zB<|yA [] [(34,.bool ((b2.toNat:Int) == 42))]<|zE ?_;obtain ⟨o02,ho02,hMc2⟩:=zC hM;refine yU (fun imm' hs' m'=>∃ (kind1:Int),o02=kind1∧imm01.le imm'∧hs'=[hB b1 (cExpr y1 p c p1 c1 p2 c2),hB b zExpr]∧m'=[(0,vT s.l),(2,vI levels),(6,vP b 0),(8,vP b1 0),(9,vI y2),(10,vI kind1)]) ?_ ?_
      · have hle:=iS imm01;refine yO ho02 ?_ ?_
        · intro hc3 hM;exact zB<|yA [] [(10,vI 6)]<|yT [(0,vT s.l),(2,vI levels),(6,vP b 0),(8,vP b1 0),(9,vI y2),(10,vI 6)]<|yB ⟨_,(zD hM).symm,hle,rfl,rfl⟩
        intro hc3 hM;exact yE<|yT [(0,vT s.l),(2,vI levels),(6,vP b 0),(8,vP b1 0),(9,vI y2),(10,vI 4)]<|yB ⟨_,(zD hM).symm,hle,rfl,rfl⟩
      rintro imm03 hs2 m2 ⟨kind1,heq1,le2,rfl,rfl⟩;subst o02;have hle:=hle.trans le2;exact yT [(0,vT s.l),(2,vI levels),(6,vP b 0),(8,vP b1 0),(9,vI y2),(10,vI kind1)]<|yB ⟨_,(zD hMc2).symm,hle,rfl,rfl⟩
    rintro imm02 hs2 m2 ⟨kind,heq2,le3,rfl,rfl⟩;subst o01;have h2:=h2.mono le3;have h3:=h3.mono le3;have h4:=h4.mono le3;have hle:=hle.trans le3;refine zY<|zE<|zF<|zB<|yK 4 [] [(37,vT s.l),(39,vI (W (y2 + 1))),(40,vI levels)] ?_;obtain ⟨⟨y4,y5⟩,hy2,hM⟩:=zC hMc1;refine yR (ih_spec_l3Parse s (W (y2 + 1)) levels _ hy2 ) ?_;rintro imm04 hs2 v2 k2 le4 - ⟨v05,v06,rfl,rfl,⟨cs1,rfl,h5⟩,rfl⟩ -;have h2:=h2.mono le4;have h3:=h3.mono le4;have h4:=h4.mono le4;have hle:=hle.trans le4;obtain ⟨v07,v08,v09,rfl,h7,h8,h9⟩:=wK h5;obtain ⟨p3,c3,rfl⟩:=h7.form;obtain ⟨p4,c4,rfl⟩:=h8.form;obtain ⟨p5,c5,rfl⟩:=h9.form;refine yK 8 [] [(42,vA (cExpr y4 p3 c3 p4 c4 p5 c5)),(43,vI y5)]<|uD zExpr ?_;intro b3 hb2;refine xJ 0 (cExpr y4 p3 c3 p4 c4 p5 c5) [hB b3 (cExpr y4 p3 c3 p4 c4 p5 c5),hB b1 (cExpr y1 p c p1 c1 p2 c2),hB b zExpr] rfl rfl rfl rfl<|yA [] [(12,vI y5)]<|zE<|zF<|zF ?_;obtain ⟨o03,ho03,hMc3⟩:=zC hM;refine yU (fun imm' hs' m'=>∃ (t51:Bool),o03=t51∧imm04.le imm'∧hs'=[hB b3 (cExpr y4 p3 c3 p4 c4 p5 c5),hB b1 (cExpr y1 p c p1 c1 p2 c2),hB b zExpr]∧m'=[(6,vP b 0),(8,vP b1 0),(10,vI kind),(11,vP b3 0),(12,vI y5),(51,.bool t51)]) ?_ ?_
    · have hle:=iS imm04;refine zB<|yK 3 [] [(46,.bool (decide (y5 < 0)))] ?_;cases hc4:(decide (y5 < 0)) with
      | true =>
       have hM02:=zW hc4 ho03
       try rw [hc4]
       exact yA [] [(51,.bool true)]<|yT [(6,vP b 0),(8,vP b1 0),(10,vI kind),(11,vP b3 0),(12,vI y5),(51,.bool true)]<|yB ⟨_,(zD hM02).symm,hle,rfl,rfl⟩
      | false =>
       have hM03:=zU hc4 ho03
       try rw [hc4]
       exact yA [] [(51,.bool (decide (y5 ≥ (s.l.length:Int))))]<|yT [(6,vP b 0),(8,vP b1 0),(10,vI kind),(11,vP b3 0),(12,vI y5),(51,.bool (decide (y5 ≥ (s.l.length:Int))))]<|yB ⟨_,(zD hM03).symm,hle,rfl,rfl⟩
    rintro imm05 hs2 m2 ⟨t51,heq3,le5,rfl,rfl⟩;subst o03;have h7:=h7.mono le5;have h8:=h8.mono le5;have h9:=h9.mono le5;have h2:=h2.mono le5;have h3:=h3.mono le5;have h4:=h4.mono le5;refine zE<|yO hMc3 ?_ ?_
    · intro hc5 hM;refine zF<|zB<|yK 1 [] [(52,vA zExpr)]<|xJ 2 zExpr [hB b3 (cExpr y4 p3 c3 p4 c4 p5 c5),hB b1 (cExpr y1 p c p1 c1 p2 c2),hB b zExpr] rfl rfl rfl rfl<|yA [] [(7,vI (-1))]<|zE<|yJ<|zR ?_;obtain rfl:=zD hM;exact yQ ⟨_,_,(.cell 2 rfl rfl (by kernel_rfl) (.tmp rfl ResV.nil)),zX,⟨_,_,rfl,rfl,⟨_,rfl,(xM ⟨_,_,_,rfl,(SL.nil _),(SL.nil _),(SL.nil _)⟩)⟩,rfl⟩⟩
    intro hc5 hM;refine yE<|zE<|zF<|zB<|yK 3 [1,0] [(53,vI kind),(54,vA (cExpr y1 p c p1 c1 p2 c2)),(55,vA (cExpr y4 p3 c3 p4 c4 p5 c5))]<|xQ [vI y1.Kind,vI y1.Num,vS p y1.Index.Coefs c,vI y1.Index.Const,vT y1.Read.Array.l,vS p1 y1.Read.Subs c1,vS p2 y1.Kids c2,vI y4.Kind,vI y4.Num,vS p3 y4.Index.Coefs c3,vI y4.Index.Const,vT y4.Read.Array.l,vS p4 y4.Read.Subs c4,vS p5 y4.Kids c5] zH ?_;intro b4 hb3;have h10:RL imm05 [vI y1.Kind,vI y1.Num,vS p y1.Index.Coefs c,vI y1.Index.Const,vT y1.Read.Array.l,vS p1 y1.Read.Subs c1,vS p2 y1.Kids c2,vI y4.Kind,vI y4.Num,vS p3 y4.Index.Coefs c3,vI y4.Index.Const,vT y4.Read.Array.l,vS p4 y4.Read.Subs c4,vS p5 y4.Kids c5] ([y1,y4]:List zH):=⟨(cExpr y1 p c p1 c1 p2 c2),_,rfl,rfl,(xM ⟨_,_,_,rfl,h2,h3,h4⟩),⟨(cExpr y4 p3 c3 p4 c4 p5 c5),_,rfl,rfl,(xM ⟨_,_,_,rfl,h7,h8,h9⟩),rfl⟩⟩;refine yK 7 [] [(57,vA [vI kind,vI 0,z0,vI 0,vT ([]),z0,vS (some ⟨b4,0,none⟩) ([y1,y4]:List zH) 2]),(59,vI (W (y5 + 1)))]<|xJ 3 [vI kind,vI 0,z0,vI 0,vT ([]),z0,vS (some ⟨b4,0,none⟩) ([y1,y4]:List zH) 2] [hO zH (vS (some ⟨b4,0,none⟩) ([y1,y4]:List zH) 2) [vI y1.Kind,vI y1.Num,vS p y1.Index.Coefs c,vI y1.Index.Const,vT y1.Read.Array.l,vS p1 y1.Read.Subs c1,vS p2 y1.Kids c2,vI y4.Kind,vI y4.Num,vS p3 y4.Index.Coefs c3,vI y4.Index.Const,vT y4.Read.Array.l,vS p4 y4.Read.Subs c4,vS p5 y4.Kids c5],hB b3 (cExpr y4 p3 c3 p4 c4 p5 c5),hB b1 (cExpr y1 p c p1 c1 p2 c2),hB b [vI kind,vI 0,z0,vI 0,vT ([]),z0,vS (some ⟨b4,0,none⟩) ([y1,y4]:List zH) 2]] rfl rfl rfl rfl<|yA [] [(7,vI (W (y5 + 1)))]<|zE<|yJ<|xI 0 rfl ?_;intro imm06 le6 hl0;have h11:=SL.of_frozen hl0 le6 h10;obtain rfl:=zD hM;exact yQ ⟨_,_,(.cell 2 rfl rfl (by kernel_rfl) (.tmp rfl ResV.nil)),zX,⟨_,_,rfl,rfl,⟨_,rfl,(xM ⟨_,_,_,rfl,(SL.nil _),(SL.nil _),h11⟩)⟩,rfl⟩⟩
  intro F_spec_l3Round ih_spec_l3Round s at0 levels r hM imm;refine yG (fn:=Tryz.f145) (c:=(bodyOf Tryz.f145)) Tryz.func145 rfl rfl ?_;rintro B - -;have hle:=iS imm;refine zF<|zB<|uD zExpr ?_;intro b hb;refine yA [] []<|zE<|zF<|zF ?_;obtain ⟨o0,ho0,hMc⟩:=zC hM;refine yU (fun imm' hs' m'=>∃ (t26:Bool),o0=t26∧imm.le imm'∧hs'=[hB b zExpr]∧m'=[(0,vT s.l),(1,vI at0),(2,vI levels),(6,vP b 0),(26,.bool t26)]) ?_ ?_
  · have hle:=iS imm;refine zB<|yK 3 [] [(17,.bool (decide (levels < 1)))] ?_;cases hc:(decide (levels < 1)) with
    | true =>
     have hM0:=zW hc ho0
     try rw [hc]
     exact yA [] [(26,.bool true)]<|yT [(0,vT s.l),(1,vI at0),(2,vI levels),(6,vP b 0),(26,.bool true)]<|yB ⟨_,(zD hM0).symm,hle,rfl,rfl⟩
    | false =>
     have hM01:=zU hc ho0
     try rw [hc]
     refine yK 7 [] [(21,.bool (decide (at0 < 0)))] ?_;cases hc1:(decide (at0 < 0)) with
     | true =>
      have hM02:=zW hc1 hM01
      try rw [hc1]
      exact yA [] [(26,.bool true)]<|yT [(0,vT s.l),(1,vI at0),(2,vI levels),(6,vP b 0),(26,.bool true)]<|yB ⟨_,(zD hM02).symm,hle,rfl,rfl⟩
     | false =>
      have hM03:=zU hc1 hM01
      try rw [hc1]
      exact yA [] [(26,.bool (decide (at0 ≥ (s.l.length:Int))))]<|yT [(0,vT s.l),(1,vI at0),(2,vI levels),(6,vP b 0),(26,.bool (decide (at0 ≥ (s.l.length:Int))))]<|yB ⟨_,(zD hM03).symm,hle,rfl,rfl⟩
  rintro imm0 hs2 m2 ⟨t26,heq,le,rfl,rfl⟩;subst o0;have hle:=hle.trans le;refine zE<|yO hMc ?_ ?_
  · intro hc2 hM;refine zF<|zB<|yK 1 [] [(27,vA zExpr)]<|xJ 0 zExpr [hB b zExpr] rfl rfl rfl rfl<|yA [] [(7,vI (-1))]<|zE<|yJ<|zR ?_;obtain rfl:=zD hM;exact yQ ⟨_,_,(.cell 0 rfl rfl (by kernel_rfl) (.tmp rfl ResV.nil)),zX,⟨_,_,rfl,rfl,⟨_,rfl,(xM ⟨_,_,_,rfl,(SL.nil _),(SL.nil _),(SL.nil _)⟩)⟩,rfl⟩⟩
  intro hc2 hM;refine yE<|zE<|zF<|yC<|zF<|zB<|yK 2 [] [(29,vT s.l),(30,vI at0)] ?_;obtain ⟨b1,hy,hM⟩:=zC hM;refine jV rfl rfl hy<|yA [] [(28,.bool ((b1.toNat:Int) == 123))]<|zE<|yO hM ?_ ?_
  · intro hc3 hM;refine zF<|zB<|yK 2 [] [(33,vT s.l),(34,vI at0)] ?_;obtain ⟨y,hy1,hM⟩:=zC hM;refine yR (eT s at0 (125:UInt8) _ hy1 ) ?_;rintro imm01 hs2 v2 k2 le1 - ⟨v0,rfl,rfl,rfl⟩ -;refine yA [] [(8,vI y)]<|zE<|zF<|zF<|zB<|yA [] [(37,.bool (decide (y < 0)))]<|zE<|yO hM ?_ ?_
    · intro hc4 hM;refine zF<|zB<|yK 1 [] [(38,vA zExpr)]<|xJ 0 zExpr [hB b zExpr] rfl rfl rfl rfl<|yA [] [(7,vI (-1))]<|zE<|yJ<|zR<|yF<|zR ?_;obtain rfl:=zD hM;exact yQ ⟨_,_,(.cell 0 rfl rfl (by kernel_rfl) (.tmp rfl ResV.nil)),zX,⟨_,_,rfl,rfl,⟨_,rfl,(xM ⟨_,_,_,rfl,(SL.nil _),(SL.nil _),(SL.nil _)⟩)⟩,rfl⟩⟩
    intro hc4 hM;refine yE<|zE<|zF<|zB<|yK 4 [] [(40,vT s.l),(42,vI (W (at0 + 1))),(43,vI y)] ?_;obtain ⟨s1,hy2,hM⟩:=zC hM;refine zEQ rfl hy2 ?_;obtain ⟨⟨y2,y3⟩,hy3,hM⟩:=zC hM;refine yR (kX s1 _ hy3 ) ?_;rintro imm02 hs2 v2 k2 le2 - ⟨v01,v02,rfl,rfl,⟨cs,rfl,h1⟩,rfl⟩ -;obtain ⟨v03,rfl,h3⟩:=yM h1;obtain ⟨p,c,rfl⟩:=h3.form;refine yK 9 [] [(46,vA (cAff y2 p c)),(47,.bool y3)]<|uD [z0,vI 0] ?_;intro b2 hb1;refine xJ 0 (cAff y2 p c) [hB b2 (cAff y2 p c),hB b zExpr] rfl rfl rfl rfl<|yA [] []<|zE<|zF<|zB<|yK 4 [0] [(49,vA [vI 2,vI 0,vS p y2.Coefs c,vI y2.Const,vT ([]),z0,z0]),(51,vI (W (y + 1)))]<|xJ 1 [vI 2,vI 0,vS p y2.Coefs c,vI y2.Const,vT ([]),z0,z0] [hB b2 (cAff y2 p c),hB b [vI 2,vI 0,vS p y2.Coefs c,vI y2.Const,vT ([]),z0,z0]] rfl rfl rfl rfl<|yA [] [(7,vI (W (y + 1)))]<|zE<|yJ<|yF<|zR ?_;obtain rfl:=zD hM;exact yQ ⟨_,_,(.cell 1 rfl rfl (by kernel_rfl) (.tmp rfl ResV.nil)),zX,⟨_,_,rfl,rfl,⟨_,rfl,(xM ⟨_,_,_,rfl,h3,(SL.nil _),(SL.nil _)⟩)⟩,rfl⟩⟩
  intro hc3 hM;refine zF ?_;obtain ⟨o01,ho01,hMc1⟩:=zC hM;refine yU (fun imm' hs' m'=>∃ (t52:Bool),o01=t52∧imm0.le imm'∧hs'=[hB b zExpr]∧m'=[(0,vT s.l),(1,vI at0),(2,vI levels),(6,vP b 0),(52,.bool t52)]) ?_ ?_
  · have hle:=iS imm0;refine zB<|yK 2 [] [(53,vT s.l),(54,vI at0)] ?_;obtain ⟨b3,hy4,hM⟩:=zC ho01;refine jV rfl rfl hy4<|yK 5 [] [(57,.bool (decide ((b3.toNat:Int) ≥ 65)))] ?_;cases hc5:(decide ((b3.toNat:Int) ≥ 65)) with
    | true =>
     have hM04:=zW hc5 hM
     try rw [hc5]
     refine yK 7 [] [(58,vT s.l),(59,vI at0)] ?_;obtain ⟨b4,hy5,hM⟩:=zC hM04;exact jV rfl rfl hy5<|yA [] [(52,.bool (decide ((b4.toNat:Int) ≤ 68)))]<|yT [(0,vT s.l),(1,vI at0),(2,vI levels),(6,vP b 0),(52,.bool (decide ((b4.toNat:Int) ≤ 68)))]<|yB ⟨_,(zD hM).symm,hle,rfl,rfl⟩
    | false =>
     have hM05:=zU hc5 hM
     try rw [hc5]
     exact yA [] [(52,.bool false)]<|yT [(0,vT s.l),(1,vI at0),(2,vI levels),(6,vP b 0),(52,.bool false)]<|yB ⟨_,(zD hM05).symm,hle,rfl,rfl⟩
  rintro imm03 hs2 m2 ⟨t52,heq1,le3,rfl,rfl⟩;subst o01;refine zE<|yO hMc1 ?_ ?_
  · intro hc6 hM;refine zF<|zB<|yK 2 [] [(64,vT s.l),(65,vI at0)] ?_;obtain ⟨⟨y5,y6⟩,hy6,hM⟩:=zC hM;refine yR (mU s at0 _ hy6 ) ?_;rintro imm04 hs2 v2 k2 le4 - ⟨v04,v05,rfl,rfl,⟨cs1,rfl,h4⟩,rfl⟩ -;obtain ⟨v06,rfl,h6⟩:=sC h4;obtain ⟨p1,c1,rfl⟩:=h6.form;refine yK 6 [] [(67,vA (cAccess y5 p1 c1)),(68,vI y6)]<|uD [vT ([]),z0] ?_;intro b5 hb2;refine xJ 0 (cAccess y5 p1 c1) [hB b5 (cAccess y5 p1 c1),hB b zExpr] rfl rfl rfl rfl<|yA [] [(12,vI y6)]<|zE<|zF<|zB<|yK 3 [0] [(70,vA [vI 3,vI 0,z0,vI 0,vT y5.Array.l,vS p1 y5.Subs c1,z0]),(71,vI y6)]<|xJ 1 [vI 3,vI 0,z0,vI 0,vT y5.Array.l,vS p1 y5.Subs c1,z0] [hB b5 (cAccess y5 p1 c1),hB b [vI 3,vI 0,z0,vI 0,vT y5.Array.l,vS p1 y5.Subs c1,z0]] rfl rfl rfl rfl<|yA [] [(7,vI y6)]<|zE<|yJ<|yF<|zR ?_;obtain rfl:=zD hM;exact yQ ⟨_,_,(.cell 1 rfl rfl (by kernel_rfl) (.tmp rfl ResV.nil)),zX,⟨_,_,rfl,rfl,⟨_,rfl,(xM ⟨_,_,_,rfl,(SL.nil _),h6,(SL.nil _)⟩)⟩,rfl⟩⟩
  intro hc6 hM;refine zF<|zB<|yK 2 [] [(73,vT s.l),(74,vI at0)] ?_;obtain ⟨b6,hy7,hM⟩:=zC hM;refine jV rfl rfl hy7<|yA [] [(72,.bool ((b6.toNat:Int) == 40))]<|zE<|yO hM ?_ ?_
  · intro hc7 hM;refine zF<|zB<|yK 5 [] [(77,vT s.l),(79,vI (W (at0 + 1))),(81,vI (W (levels - 1)))] ?_;obtain ⟨⟨y8,y9⟩,hy8,hM⟩:=zC hM;refine yR (ih_spec_l3Round s (W (at0 + 1)) (W (levels - 1)) _ hy8 ) ?_;rintro imm05 hs2 v2 k2 le5 - ⟨v07,v08,rfl,rfl,⟨cs2,rfl,h7⟩,rfl⟩ -;obtain ⟨v09,v010,v011,rfl,h9,h10,h11⟩:=wK h7;obtain ⟨p2,c2,rfl⟩:=h9.form;obtain ⟨p3,c3,rfl⟩:=h10.form;obtain ⟨p4,c4,rfl⟩:=h11.form;refine yK 8 [] [(83,vA (cExpr y8 p2 c2 p3 c3 p4 c4)),(84,vI y9)]<|xJ 0 (cExpr y8 p2 c2 p3 c3 p4 c4) [hB b (cExpr y8 p2 c2 p3 c3 p4 c4)] rfl rfl rfl rfl<|yA [] [(7,vI y9)]<|zE<|yJ<|yF<|zR ?_;obtain rfl:=zD hM;exact yQ ⟨_,_,(.cell 0 rfl rfl (by kernel_rfl) (.tmp rfl ResV.nil)),zX,⟨_,_,rfl,rfl,⟨_,rfl,(xM ⟨_,_,_,rfl,h9,h10,h11⟩)⟩,rfl⟩⟩
  intro hc7 hM;refine yE<|zY<|zE<|zF<|zB<|yK 2 [] [(86,vT s.l),(87,vI at0)] ?_;obtain ⟨⟨y11,y12⟩,hy9,hM⟩:=zC hM;refine yR (fE s at0 _ hy9 ) ?_;rintro imm06 hs2 v2 k2 le6 - ⟨v012,v013,rfl,rfl,rfl,rfl⟩ -;refine yA [] [(13,vI y11),(14,vI y12)]<|zE<|zF<|zF<|zB<|yA [] [(93,.bool (y12 == at0))]<|zE<|yO hM ?_ ?_
  · intro hc8 hM;refine zF<|zB<|yK 1 [] [(94,vA zExpr)]<|xJ 0 zExpr [hB b zExpr] rfl rfl rfl rfl<|yA [] [(7,vI (-1))]<|zE<|yJ<|zR ?_;obtain rfl:=zD hM;exact yQ ⟨_,_,(.cell 0 rfl rfl (by kernel_rfl) (.tmp rfl ResV.nil)),zX,⟨_,_,rfl,rfl,⟨_,rfl,(xM ⟨_,_,_,rfl,(SL.nil _),(SL.nil _),(SL.nil _)⟩)⟩,rfl⟩⟩
  intro hc8 hM;refine yE<|zE<|zF<|zB<|yK 3 [] [(96,vA [vI 1,vI y11,z0,vI 0,vT ([]),z0,z0]),(97,vI y12)]<|xJ 0 [vI 1,vI y11,z0,vI 0,vT ([]),z0,z0] [hB b [vI 1,vI y11,z0,vI 0,vT ([]),z0,z0]] rfl rfl rfl rfl<|yA [] [(7,vI y12)]<|zE<|yJ ?_;obtain rfl:=zD hM;exact yQ ⟨_,_,(.cell 0 rfl rfl (by kernel_rfl) (.tmp rfl ResV.nil)),zX,⟨_,_,rfl,rfl,⟨_,rfl,(xM ⟨_,_,_,rfl,(SL.nil _),(SL.nil _),(SL.nil _)⟩)⟩,rfl⟩⟩
theorem zDH:∀ (s:Str) (at0:Int) (levels:Int) r,sS s at0 levels=some r→∀ {imm:Imm} ,Ret Tryz.prog 145 [vT s.l,vI at0,vI levels] imm [] (mO  r):=zCe.2
def dY (r:Str):KT:=fun kk imm' hs' v=>
  ∃ v0,hs'=[]∧v=tupV [v0]∧v0=.string ⟨⟨r.l⟩⟩
def uV (list:(List zA)) (out:Str) (i:Int):Option (Str):=do
 if (decide (i < (list.length:Int))) then
  let out2←(do
    if (decide (i > 0)) then
     let s←cat out (⟨[44]⟩:Str)
     pure (id s)
    else
     pure (id out)
      : Option Str)
  let x←idx list i
  let y←oC x
  let s1←cat out2 y
  uV list s1 (W (i + 1))
 else
  pure (id out)
 partial_fixpoint
theorem eX (list:(List zA)):∀ (out:Str) (i:Int) (o:Str),uV list out i=some o→∀ {B}{imm0 imm:Imm}{Q p c},imm0.le imm→(S4 imm p list c)→(∀ gl a w,¬Q (.goto gl) a w)→(∀ a w,¬Q .outgrown a w)→(∀ (imm':Imm) (out1:Str),o=out1→imm0.le imm'→T 23 B Q (.exit 0) imm' [] [(3,vT out1.l)])→J Tryz.prog 23 B (nav (bodyOf Tryz.f173) [1,1,0,1,0]) Q imm [] [(0,vS p list c),(3,vT out.l),(4,vI i)]:=by
 refine uV.partial_correctness list _ ?_;intro self ih out i o hM B imm0 imm Q p c hle h hg ho hx;refine xC hg ho<|zF<|zF<|zB<|yA [] [(8,.bool (decide (i < (list.length:Int))))]<|zE<|yO hM ?_ ?_
 · intro hc hM;refine yE<|zE<|zF<|yC<|zF<|zF<|zB<|yA [] [(12,.bool (decide (i > 0)))]<|zE ?_;obtain ⟨o0,ho0,hMc⟩:=zC hM;refine yU (fun imm' hs' m'=>∃ (out2:Str),o0=out2∧imm.le imm'∧hs'=[]∧m'=[(0,vS p list c),(3,vT out2.l),(4,vI i)]) ?_ ?_
   · have hle:=iS imm;refine yO ho0 ?_ ?_
     · intro hc1 hM;refine zB<|yK 1 [] [(13,vT out.l)] ?_;obtain ⟨s,hy,hM⟩:=zC hM;exact jH rfl hy<|yA [] [(3,vT s.l)]<|yT [(0,vS p list c),(3,vT s.l),(4,vI i)]<|yB ⟨_,(zD hM).symm,hle,rfl,rfl⟩
     intro hc1 hM;exact yE<|yT [(0,vS p list c),(3,vT out.l),(4,vI i)]<|yB ⟨_,(zD hM).symm,hle,rfl,rfl⟩
   rintro imm0 hs2 m2 ⟨out2,heq,le,rfl,rfl⟩;subst o0;have h:=h.mono le;have hle:=hle.trans le;refine zE<|zB<|yK 3 [] [(15,vT out2.l),(16,vS p list c),(17,vI i)] ?_;obtain ⟨x,hy1,hM⟩:=zC hMc;refine wJ rfl rfl h hy1 ?_;intro ad ccs hat hrep;obtain ⟨v0,rfl,h1⟩:=yM hrep;obtain ⟨p1,c1,rfl⟩:=h1.form;refine xS 0 hat (cAff x p1 c1) (vA (cAff x p1 c1)) rfl ?_;obtain ⟨y,hy2,hM⟩:=zC hM;refine yR (jO x _ hy2 h1) ?_;rintro imm01 hs2 v2 k2 le1 - ⟨v01,rfl,rfl,rfl⟩ -;have h:=h.mono le1;have hle:=hle.trans le1;obtain ⟨s1,hy3,hM⟩:=zC hM;exact jH rfl hy3<|yA [] [(3,vT s1.l)]<|zY<|zE<|zB<|yA [] [(4,vI (W (i + 1)))]<|xD<|vQ [(0,vS p list c),(3,vT s1.l),(4,vI (W (i + 1)))]<|ih s1 (W (i + 1)) _ hM hle h hg ho hx
 intro hc hM;exact xA<|zS<|zS<|yT [(3,vT out.l)]<|hx _ _ (zD hM).symm hle
def pP (list:(List zA)):Option (Str):=do
 let out1←uV list (⟨[]⟩:Str) 0
 pure (id out1)
theorem zBB:∀ (list:(List zA)) r,pP list=some r→∀ {imm:Imm}{p c},(S4 imm p list c)→Ret Tryz.prog 173 [vS p list c] imm [] (dY  r):=by
 intro list r hM imm p c h;unfold pP at hM;refine yG (fn:=Tryz.f173) (c:=(bodyOf Tryz.f173)) Tryz.func173 rfl rfl ?_;rintro B - -;refine zF<|zB<|yA [] []<|zE<|zF<|zB<|yA [] [(3,vT ([]))]<|zE<|zF<|zF<|zB<|yA [] [(4,vI 0)]<|zE<|yC<|vQ [(0,vS p list c),(3,vT ([])),(4,vI 0)] ?_;obtain ⟨o01,ho01,hMl⟩:=zC hM;refine eX list (⟨[]⟩:Str) 0 o01 ho01 iR h (fun _ _ _ h=>h) (fun _ _ h=>h) ?_;intro imm02 out1 heq1 le2;subst o01;refine yD<|zE<|zF<|zB<|yA [] [(2,vT out1.l)]<|zE<|yJ ?_;obtain rfl:=zD hMl;exact yQ ⟨_,_,(.tmp rfl ResV.nil),zX,⟨_,rfl,rfl,rfl⟩⟩
def fZ (r:Str):KT:=fun kk imm' hs' v=>
  ∃ v0,hs'=[]∧v=tupV [v0]∧v0=.string ⟨⟨r.l⟩⟩
def sY (a0:zL):Option (Str):=do
 let s←cat a0.Array (⟨[91]⟩:Str)
 let y←pP a0.Subs
 let s1←cat s y
 let s2←cat s1 (⟨[93]⟩:Str)
 pure (id s2)
theorem kL:∀ (a0:zL) r,sY a0=some r→∀ {imm:Imm}{p c},(S4 imm p a0.Subs c)→Ret Tryz.prog 164 [vA (cAccess a0 p c)] imm [] (fZ  r):=by
 intro a0 r hM imm p c h;unfold sY at hM;refine yG (fn:=Tryz.f164) (c:=(bodyOf Tryz.f164)) Tryz.func164 rfl rfl ?_;rintro B - -;have hle:=iS imm;refine zF<|zB<|tR (cAccess a0 p c) ?_;intro b hb;refine yA [] []<|zE<|zF ?_;obtain ⟨s,hy,hM⟩:=zC hM;obtain ⟨y,hy1,hM⟩:=zC hM;obtain ⟨s1,hy2,hM⟩:=zC hM;obtain ⟨s2,hy3,hM⟩:=zC hM;refine uA [.p (vP b 0) [],.p (vT a0.Array.l) [0],.q (vT s.l),.p (vP b 1) [],.p (vS p a0.Subs c) [0],.q (vT y.l),.q (vT s1.l),.q (vT s2.l)] [[],[(0,false)],[(1,false)],[],[(3,false)],[(4,false)],[(2,false),(5,false)],[(6,false)]] [hB b (cAccess a0 p c)] [] [(7,false)] (zK [0] rfl (by decide)) ?_ ?_
 · refine Op<|Op<|Oq ?_<|Op<|Op<|Oq ?_<|Oq ?_<|Oq ?_<|On
   · intro imm1 hf le1;refine zG ?_;rintro _ _ ⟨rfl,rfl⟩;refine zN<|yH [(4,vT a0.Array.l)] ?_;have hle:=iS imm1;exact jH rfl hy<|zZ (hx:=[]) rfl hle rfl (zM rfl) ⟨rfl,rfl⟩
   · intro imm1 hf le1;refine zG ?_;rintro _ _ ⟨rfl,rfl⟩;refine zN<|yH [(7,vS p a0.Subs c)] ?_;have hle:=iS imm1;have h:=h.mono le1;refine yR (zBB a0.Subs _ hy1 h) ?_;rintro imm0 hs2 v2 k2 le - ⟨v0,rfl,rfl,rfl⟩ -;have hle:=hle.trans le;exact zZ (hx:=[]) rfl hle rfl (zM rfl) ⟨rfl,rfl⟩
   · intro imm1 hf le1;refine zG ?_;rintro _ _ ⟨rfl,rfl⟩;refine zG ?_;rintro _ _ ⟨rfl,rfl⟩;refine zN<|yH [(5,vT s.l),(8,vT y.l)] ?_;have hle:=iS imm1;exact jH rfl hy2<|zZ (hx:=[]) rfl hle rfl (zM rfl) ⟨rfl,rfl⟩
   intro imm1 hf le1;refine zG ?_;rintro _ _ ⟨rfl,rfl⟩;refine zN<|yH [(9,vT s1.l)] ?_;have hle:=iS imm1;exact jH rfl hy3<|zZ (hx:=[]) rfl hle rfl (zM rfl) ⟨rfl,rfl⟩
 intro imm01 le1;refine zG ?_;rintro _ _ ⟨rfl,rfl⟩;refine zN<|yH [(10,vT s2.l)] ?_;refine yA [] [(2,vT s2.l)]<|zE<|yJ ?_;obtain rfl:=zD hM;exact yQ ⟨_,_,(.tmp rfl ResV.nil),zX,⟨_,rfl,rfl,rfl⟩⟩
def fH (r:Str):KT:=fun kk imm' hs' v=>
  ∃ v0,hs'=[]∧v=tupV [v0]∧v0=.string ⟨⟨r.l⟩⟩
def sJ (e0:zH):Option (Str):=do
 if (e0.Kind == 1) then
  let y←sI e0.Num
  pure (id y)
 else
  if (e0.Kind == 2) then
   let y1←oC e0.Index
   let s←cat (⟨[123]⟩:Str) y1
   let s1←cat s (⟨[125]⟩:Str)
   pure (id s1)
  else
   if (e0.Kind == 3) then
    let y2←sY e0.Read
    pure (id y2)
   else
    let x←idx e0.Kids 0
    let y3←sJ (same x)
    let s2←cat (⟨[40]⟩:Str) y3
    let s3←sslc (⟨[43,45,42]⟩:Str) (W (e0.Kind - 4)) (W ((W (e0.Kind - 4)) + 1))
    let s4←cat s2 s3
    let x1←idx e0.Kids 1
    let y4←sJ (same x1)
    let s5←cat s4 y4
    let s6←cat s5 (⟨[41]⟩:Str)
    pure (id s6)
 partial_fixpoint
theorem zDo:∀ (e0:zH) r,sJ e0=some r→∀ {imm:Imm}{p c p1 c1 p2 c2},(S4 imm p e0.Index.Coefs c)→(S4 imm p1 e0.Read.Subs c1)→(S4 imm p2 e0.Kids c2)→Ret Tryz.prog 165 [vA (cExpr e0 p c p1 c1 p2 c2)] imm [] (fH  r):=by
 refine sJ.partial_correctness (fun e0 r=>∀ {imm:Imm}{p c p1 c1 p2 c2},(S4 imm p e0.Index.Coefs c)→(S4 imm p1 e0.Read.Subs c1)→(S4 imm p2 e0.Kids c2)→Ret Tryz.prog 165 [vA (cExpr e0 p c p1 c1 p2 c2)] imm [] (fH  r)) ?_;intro F_spec_l3Text ih_spec_l3Text e0 r hM imm p c p1 c1 p2 c2 h h1 h2;refine yG (fn:=Tryz.f165) (c:=(bodyOf Tryz.f165)) Tryz.func165 rfl rfl ?_;rintro B - -;have hle:=iS imm;refine zF<|zB<|tR (cExpr e0 p c p1 c1 p2 c2) ?_;intro b hb;refine yA [] []<|zE<|zF<|zF<|zB<|yA [0] [(4,vI e0.Kind)]<|zE<|yC<|zF<|zB<|yA [] [(5,.bool (e0.Kind == 1))]<|zE<|yO hM ?_ ?_
 · intro hc hM;refine zF<|zB<|yK 2 [0] [(8,vI e0.Num)] ?_;obtain ⟨y,hy,hM⟩:=zC hM;refine yR (jN e0.Num _ hy ) ?_;rintro imm0 hs2 v2 k2 le - ⟨v0,rfl,rfl,rfl⟩ -;refine yA [] [(2,vT y.l)]<|zE<|yJ<|yF<|zR ?_;obtain rfl:=zD hM;exact yQ ⟨_,_,(.tmp rfl ResV.nil),zX,⟨_,rfl,rfl,rfl⟩⟩
 intro hc hM;refine zF<|zB<|yA [] [(10,.bool (e0.Kind == 2))]<|zE<|yO hM ?_ ?_
 · intro hc1 hM;refine zF<|zB<|yK 2 [0] [(13,vA (cAff e0.Index p c))] ?_;obtain ⟨y1,hy1,hM⟩:=zC hM;refine yR (jO e0.Index _ hy1 h) ?_;rintro imm01 hs2 v2 k2 le1 - ⟨v01,rfl,rfl,rfl⟩ -;obtain ⟨s,hy2,hM⟩:=zC hM;refine jH rfl hy2 ?_;obtain ⟨s1,hy3,hM⟩:=zC hM;refine jH rfl hy3<|yA [] [(2,vT s1.l)]<|zE<|yJ<|yF<|zR ?_;obtain rfl:=zD hM;exact yQ ⟨_,_,(.tmp rfl ResV.nil),zX,⟨_,rfl,rfl,rfl⟩⟩
 intro hc1 hM;refine zF<|zB<|yA [] [(17,.bool (e0.Kind == 3))]<|zE<|yO hM ?_ ?_
 · intro hc2 hM;refine zF<|zB<|yK 2 [0] [(20,vA (cAccess e0.Read p1 c1))] ?_;obtain ⟨y2,hy4,hM⟩:=zC hM;refine yR (kL e0.Read _ hy4 h1) ?_;rintro imm02 hs2 v2 k2 le2 - ⟨v02,rfl,rfl,rfl⟩ -;refine yA [] [(2,vT y2.l)]<|zE<|yJ<|yF<|zR ?_;obtain rfl:=zD hM;exact yQ ⟨_,_,(.tmp rfl ResV.nil),zX,⟨_,rfl,rfl,rfl⟩⟩
 intro hc2 hM;refine yE<|zY<|zE<|zF ?_;obtain ⟨x,hy5,hM⟩:=zC hM;obtain ⟨y3,hy6,hM⟩:=zC hM;obtain ⟨s2,hy7,hM⟩:=zC hM;obtain ⟨s3,hy8,hM⟩:=zC hM;obtain ⟨s4,hy9,hM⟩:=zC hM;obtain ⟨x1,hy10,hM⟩:=zC hM;obtain ⟨y4,hy11,hM⟩:=zC hM;obtain ⟨s5,hy12,hM⟩:=zC hM;obtain ⟨s6,hy13,hM⟩:=zC hM;refine uA [.p (vP b 6) [],.p (vS p2 e0.Kids c2) [0],.x (fun imm' v hx=>∃ ad p3 c3 p4 c4 p5 c5,v=.pointer (some ad)∧hx=[]∧(At imm' ad (cExpr x p3 c3 p4 c4 p5 c5))∧(S4 imm' p3 x.Index.Coefs c3)∧(S4 imm' p4 x.Read.Subs c4)∧(S4 imm' p5 x.Kids c5)),.x (fun imm' v hx=>∃ p31 c31 p41 c41 p51 c51,v=vA (cExpr x p31 c31 p41 c41 p51 c51)∧hx=[]∧(S4 imm' p31 x.Index.Coefs c31)∧(S4 imm' p41 x.Read.Subs c41)∧(S4 imm' p51 x.Kids c51)),.q (vT y3.l),.q (vT s2.l),.p (vP b 0) [],.p (vI e0.Kind) [0],.p (vI (W (e0.Kind - 4))) [],.p (vP b 0) [],.p (vI e0.Kind) [0],.p (vI (W (e0.Kind - 4))) [],.p (vI (W ((W (e0.Kind - 4)) + 1))) [],.q (vT s3.l),.q (vT s4.l),.p (vP b 6) [],.p (vS p2 e0.Kids c2) [0],.x (fun imm' v hx=>∃ ad1 p6 c6 p7 c7 p8 c8,v=.pointer (some ad1)∧hx=[]∧(At imm' ad1 (cExpr x1 p6 c6 p7 c7 p8 c8))∧(S4 imm' p6 x1.Index.Coefs c6)∧(S4 imm' p7 x1.Read.Subs c7)∧(S4 imm' p8 x1.Kids c8)),.x (fun imm' v hx=>∃ p61 c61 p71 c71 p81 c81,v=vA (cExpr x1 p61 c61 p71 c71 p81 c81)∧hx=[]∧(S4 imm' p61 x1.Index.Coefs c61)∧(S4 imm' p71 x1.Read.Subs c71)∧(S4 imm' p81 x1.Kids c81)),.q (vT y4.l),.q (vT s5.l),.q (vT s6.l)] [[],[(0,false)],[(1,false)],[(2,false)],[(3,false)],[(4,false)],[],[(6,false)],[(7,false)],[],[(9,false)],[(10,false)],[(11,false)],[(8,false),(12,false)],[(5,false),(13,false)],[],[(15,false)],[(16,false)],[(17,false)],[(18,false)],[(14,false),(19,false)],[(20,false)]] [hB b (cExpr e0 p c p1 c1 p2 c2)] [] [(21,false)] (zK [0] rfl (by decide)) ?_ ?_
 · refine Op<|Op<|Ox ?_<|Ox ?_<|Oq ?_<|Oq ?_<|Op<|Op<|Op<|Op<|Op<|Op<|Op<|Oq ?_<|Oq ?_<|Op<|Op<|Ox ?_<|Ox ?_<|Oq ?_<|Oq ?_<|Oq ?_<|On
   · intro imm1 hf le1;refine zG ?_;rintro _ _ ⟨rfl,rfl⟩;refine zN<|yH [(23,vS p2 e0.Kids c2)] ?_;have hle:=iS imm1;have h2:=h2.mono le1;refine wJ rfl rfl h2 hy5 ?_;intro ad ccs hat hrep;obtain ⟨v03,v04,v05,rfl,h6,h7,h8⟩:=wK hrep;obtain ⟨p3,c3,rfl⟩:=h6.form;obtain ⟨p4,c4,rfl⟩:=h7.form;obtain ⟨p5,c5,rfl⟩:=h8.form;exact zZ (hx:=[]) rfl hle rfl (zM rfl) ⟨_,_,_,_,_,_,_,rfl,rfl,hat,h6,h7,h8⟩
   · intro imm1 hf le1;refine zG ?_;rintro _ _ ⟨ad,p3,c3,p4,c4,p5,c5,rfl,rfl,hat,h6,h7,h8⟩;refine zN<|yH [(24,.pointer (some ad))] ?_;have hle:=iS imm1;exact xS 0 hat (cExpr x p3 c3 p4 c4 p5 c5) (vA (cExpr x p3 c3 p4 c4 p5 c5)) rfl<|zZ (hx:=[]) rfl hle rfl (zM rfl) ⟨_,_,_,_,_,_,rfl,rfl,h6,h7,h8⟩
   · intro imm1 hf le1;refine zG ?_;rintro _ _ ⟨p31,c31,p41,c41,p51,c51,rfl,rfl,h61,h71,h81⟩;refine zN<|yH [(25,vA (cExpr x p31 c31 p41 c41 p51 c51))] ?_;have hle:=iS imm1;refine yR (ih_spec_l3Text x _ hy6 h61 h71 h81) ?_;rintro imm03 hs2 v2 k2 le3 - ⟨v06,rfl,rfl,rfl⟩ -;have hle:=hle.trans le3;exact zZ (hx:=[]) rfl hle rfl (zM rfl) ⟨rfl,rfl⟩
   · intro imm1 hf le1;refine zG ?_;rintro _ _ ⟨rfl,rfl⟩;refine zN<|yH [(26,vT y3.l)] ?_;have hle:=iS imm1;exact jH rfl hy7<|zZ (hx:=[]) rfl hle rfl (zM rfl) ⟨rfl,rfl⟩
   · intro imm1 hf le1;refine zG ?_;rintro _ _ ⟨rfl,rfl⟩;refine zG ?_;rintro _ _ ⟨rfl,rfl⟩;refine zN<|yH [(30,vI (W (e0.Kind - 4))),(34,vI (W ((W (e0.Kind - 4)) + 1)))] ?_;have hle:=iS imm1;exact zEQ rfl hy8<|zZ (hx:=[]) rfl hle rfl (zM rfl) ⟨rfl,rfl⟩
   · intro imm1 hf le1;refine zG ?_;rintro _ _ ⟨rfl,rfl⟩;refine zG ?_;rintro _ _ ⟨rfl,rfl⟩;refine zN<|yH [(27,vT s2.l),(35,vT s3.l)] ?_;have hle:=iS imm1;exact jH rfl hy9<|zZ (hx:=[]) rfl hle rfl (zM rfl) ⟨rfl,rfl⟩
   · intro imm1 hf le1;refine zG ?_;rintro _ _ ⟨rfl,rfl⟩;refine zN<|yH [(38,vS p2 e0.Kids c2)] ?_;have hle:=iS imm1;have h2:=h2.mono le1;refine wJ rfl rfl h2 hy10 ?_;intro ad1 ccs1 hat1 hrep1;obtain ⟨v07,v08,v09,rfl,h10,h11,h12⟩:=wK hrep1;obtain ⟨p6,c6,rfl⟩:=h10.form;obtain ⟨p7,c7,rfl⟩:=h11.form;obtain ⟨p8,c8,rfl⟩:=h12.form;exact zZ (hx:=[]) rfl hle rfl (zM rfl) ⟨_,_,_,_,_,_,_,rfl,rfl,hat1,h10,h11,h12⟩
   · intro imm1 hf le1;refine zG ?_;rintro _ _ ⟨ad1,p6,c6,p7,c7,p8,c8,rfl,rfl,hat1,h10,h11,h12⟩;refine zN<|yH [(39,.pointer (some ad1))] ?_;have hle:=iS imm1;exact xS 0 hat1 (cExpr x1 p6 c6 p7 c7 p8 c8) (vA (cExpr x1 p6 c6 p7 c7 p8 c8)) rfl<|zZ (hx:=[]) rfl hle rfl (zM rfl) ⟨_,_,_,_,_,_,rfl,rfl,h10,h11,h12⟩
   · intro imm1 hf le1;refine zG ?_;rintro _ _ ⟨p61,c61,p71,c71,p81,c81,rfl,rfl,h101,h111,h121⟩;refine zN<|yH [(40,vA (cExpr x1 p61 c61 p71 c71 p81 c81))] ?_;have hle:=iS imm1;refine yR (ih_spec_l3Text x1 _ hy11 h101 h111 h121) ?_;rintro imm04 hs2 v2 k2 le4 - ⟨v010,rfl,rfl,rfl⟩ -;have hle:=hle.trans le4;exact zZ (hx:=[]) rfl hle rfl (zM rfl) ⟨rfl,rfl⟩
   · intro imm1 hf le1;refine zG ?_;rintro _ _ ⟨rfl,rfl⟩;refine zG ?_;rintro _ _ ⟨rfl,rfl⟩;refine zN<|yH [(36,vT s4.l),(41,vT y4.l)] ?_;have hle:=iS imm1;exact jH rfl hy12<|zZ (hx:=[]) rfl hle rfl (zM rfl) ⟨rfl,rfl⟩
   intro imm1 hf le1;refine zG ?_;rintro _ _ ⟨rfl,rfl⟩;refine zN<|yH [(42,vT s5.l)] ?_;have hle:=iS imm1;exact jH rfl hy13<|zZ (hx:=[]) rfl hle rfl (zM rfl) ⟨rfl,rfl⟩
 intro imm05 le5;refine zG ?_;rintro _ _ ⟨rfl,rfl⟩;refine zN<|yH [(43,vT s6.l)] ?_;refine yA [] [(2,vT s6.l)]<|zE<|yJ ?_;obtain rfl:=zD hM;exact yQ ⟨_,_,(.tmp rfl ResV.nil),zX,⟨_,rfl,rfl,rfl⟩⟩
def dZ (r:Str):KT:=fun kk imm' hs' v=>
  ∃ v0,hs'=[]∧v=tupV [v0]∧v0=.string ⟨⟨r.l⟩⟩
def pQ (s:zQ):Option (Str):=do
 let y←tG s 4
 if (!y) then
  pure (⟨[]⟩:Str)
 else
  let y1←sY s.Write
  let s1←cat y1 (⟨[61]⟩:Str)
  let y2←sJ s.Value
  let s2←cat s1 y2
  pure (id s2)
theorem zBC:∀ (s:zQ) r,pQ s=some r→∀ {imm:Imm}{p c p1 c1 p2 c2 p3 c3},(S4 imm p s.Write.Subs c)→(S4 imm p1 s.Value.Index.Coefs c1)→(S4 imm p2 s.Value.Read.Subs c2)→(S4 imm p3 s.Value.Kids c3)→Ret Tryz.prog 146 [vA (cStmt s p c p1 c1 p2 c2 p3 c3)] imm [] (dZ  r):=by
 intro s r hM imm p c p1 c1 p2 c2 p3 c3 h h1 h2 h3;unfold pQ at hM;refine yG (fn:=Tryz.f146) (c:=(bodyOf Tryz.f146)) Tryz.func146 rfl rfl ?_;rintro B - -;have hle:=iS imm;refine zF<|zB<|tR (cStmt s p c p1 c1 p2 c2 p3 c3) ?_;intro b hb;refine yA [] []<|zE<|zF<|zF<|zB<|yK 1 [0] [(3,vA (cStmt s p c p1 c1 p2 c2 p3 c3))] ?_;obtain ⟨y,hy,hM⟩:=zC hM;refine yR (mK s 4 _ hy h h1 h2 h3) ?_;rintro imm0 hs2 v2 k2 le - ⟨v0,rfl,rfl,rfl⟩ -;have h:=h.mono le;have h1:=h1.mono le;have h2:=h2.mono le;have h3:=h3.mono le;have hle:=hle.trans le;refine yA [] [(5,.bool (!y))]<|zE<|yO hM ?_ ?_
 · intro hc hM;refine zF<|zB<|yA [] [(2,vT ([]))]<|zE<|yJ<|zR ?_;obtain rfl:=zD hM;exact yQ ⟨_,_,(.tmp rfl ResV.nil),zX,⟨_,rfl,rfl,rfl⟩⟩
 intro hc hM;refine yE<|zE<|zF ?_;obtain ⟨y1,hy1,hM⟩:=zC hM;obtain ⟨s1,hy2,hM⟩:=zC hM;obtain ⟨y2,hy3,hM⟩:=zC hM;obtain ⟨s2,hy4,hM⟩:=zC hM;refine uA [.p (vP b 0) [],.p (vA (cAccess s.Write p c)) [0],.q (vT y1.l),.q (vT s1.l),.p (vP b 2) [],.p (vA (cExpr s.Value p1 c1 p2 c2 p3 c3)) [0],.q (vT y2.l),.q (vT s2.l)] [[],[(0,false)],[(1,false)],[(2,false)],[],[(4,false)],[(5,false)],[(3,false),(6,false)]] [hB b (cStmt s p c p1 c1 p2 c2 p3 c3)] [] [(7,false)] (zK [0] rfl (by decide)) ?_ ?_
 · refine Op<|Op<|Oq ?_<|Oq ?_<|Op<|Op<|Oq ?_<|Oq ?_<|On
   · intro imm1 hf le1;refine zG ?_;rintro _ _ ⟨rfl,rfl⟩;refine zN<|yH [(7,vA (cAccess s.Write p c))] ?_;have hle:=iS imm1;have h:=h.mono le1;refine yR (kL s.Write _ hy1 h) ?_;rintro imm01 hs2 v2 k2 le1 - ⟨v01,rfl,rfl,rfl⟩ -;have hle:=hle.trans le1;exact zZ (hx:=[]) rfl hle rfl (zM rfl) ⟨rfl,rfl⟩
   · intro imm1 hf le1;refine zG ?_;rintro _ _ ⟨rfl,rfl⟩;refine zN<|yH [(8,vT y1.l)] ?_;have hle:=iS imm1;exact jH rfl hy2<|zZ (hx:=[]) rfl hle rfl (zM rfl) ⟨rfl,rfl⟩
   · intro imm1 hf le1;refine zG ?_;rintro _ _ ⟨rfl,rfl⟩;refine zN<|yH [(11,vA (cExpr s.Value p1 c1 p2 c2 p3 c3))] ?_;have hle:=iS imm1;have h1:=h1.mono le1;have h2:=h2.mono le1;have h3:=h3.mono le1;refine yR (zDo s.Value _ hy3 h1 h2 h3) ?_;rintro imm02 hs2 v2 k2 le2 - ⟨v02,rfl,rfl,rfl⟩ -;have hle:=hle.trans le2;exact zZ (hx:=[]) rfl hle rfl (zM rfl) ⟨rfl,rfl⟩
   intro imm1 hf le1;refine zG ?_;rintro _ _ ⟨rfl,rfl⟩;refine zG ?_;rintro _ _ ⟨rfl,rfl⟩;refine zN<|yH [(9,vT s1.l),(12,vT y2.l)] ?_;have hle:=iS imm1;exact jH rfl hy4<|zZ (hx:=[]) rfl hle rfl (zM rfl) ⟨rfl,rfl⟩
 intro imm03 le3;refine zG ?_;rintro _ _ ⟨rfl,rfl⟩;refine zN<|yH [(13,vT s2.l)] ?_;refine yA [] [(2,vT s2.l)]<|zE<|yJ ?_;obtain rfl:=zD hM;exact yQ ⟨_,_,(.tmp rfl ResV.nil),zX,⟨_,rfl,rfl,rfl⟩⟩
def zA4 (r:zQ×Bool):KT:=fun kk imm' hs' v=>
  ∃ v0 v1,hs'=[]∧v=tupV [v0,v1]∧(∃ cs,v0=.agg ⟨cs⟩∧Rp.rep imm' cs r.1)∧v1=.bool r.2
def oK (text:Str):Option (zQ×Bool):=do
 if (decide ((text.l.length:Int) < 4)) then
  pure ((zQ.mk (zL.mk (⟨[]⟩:Str) ([]:List zA)) (zH.mk 0 0 (zA.mk ([]:List Int) 0) (zL.mk (⟨[]⟩:Str) ([]:List zA)) ([]:List zH))),false)
 else
  let (y1,y2)←sF text 0
  let t25←(do
    if (decide (y2 < 0)) then
     pure true
    else
     pure (decide (y2 ≥ (text.l.length:Int)))
      : Option Bool)
  if t25 then
   pure ((zQ.mk (zL.mk (⟨[]⟩:Str) ([]:List zA)) (zH.mk 0 0 (zA.mk ([]:List Int) 0) (zL.mk (⟨[]⟩:Str) ([]:List zA)) ([]:List zH))),false)
  else
   let (y4,y5)←sS text (W (y2 + 1)) 5
   let y6←pQ (zQ.mk y1 y4)
   if (!(y6.l == text.l)) then
    pure ((zQ.mk (zL.mk (⟨[]⟩:Str) ([]:List zA)) (zH.mk 0 0 (zA.mk ([]:List Int) 0) (zL.mk (⟨[]⟩:Str) ([]:List zA)) ([]:List zH))),false)
   else
    pure ((zQ.mk y1 y4),true)
theorem zBq:∀ (text:Str) r,oK text=some r→∀ {imm:Imm} ,Ret Tryz.prog 118 [vT text.l] imm [] (zA4  r):=by
 intro text r hM imm;unfold oK at hM;refine yG (fn:=Tryz.f118) (c:=(bodyOf Tryz.f118)) Tryz.func118 rfl rfl ?_;rintro B - -;have hle:=iS imm;refine zF<|zB<|uD [vT ([]),z0,vI 0,vI 0,z0,vI 0,vT ([]),z0,z0] ?_;intro b hb;refine yA [] []<|zE<|zF<|zF<|zB<|yA [] [(11,.bool (decide ((text.l.length:Int) < 4)))]<|zE<|yO hM ?_ ?_
 · intro hc hM;refine zF<|zB<|yK 1 [] [(12,vA [vT ([]),z0,vI 0,vI 0,z0,vI 0,vT ([]),z0,z0])]<|xJ 0 [vT ([]),z0,vI 0,vI 0,z0,vI 0,vT ([]),z0,z0] [hB b [vT ([]),z0,vI 0,vI 0,z0,vI 0,vT ([]),z0,z0]] rfl rfl rfl rfl<|yA [] [(3,.bool false)]<|zE<|yJ<|zR ?_;obtain rfl:=zD hM;exact yQ ⟨_,_,(.cell 0 rfl rfl (by kernel_rfl) (.tmp rfl ResV.nil)),zX,⟨_,_,rfl,rfl,⟨_,rfl,(wL ⟨_,_,_,_,rfl,(SL.nil _),(SL.nil _),(SL.nil _),(SL.nil _)⟩)⟩,rfl⟩⟩
 intro hc hM;refine yE<|zE<|zF<|zB<|yK 1 [] [(14,vT text.l)] ?_;obtain ⟨⟨y1,y2⟩,hy,hM⟩:=zC hM;refine yR (mU text 0 _ hy ) ?_;rintro imm0 hs2 v2 k2 le - ⟨v0,v01,rfl,rfl,⟨cs,rfl,h⟩,rfl⟩ -;have hle:=hle.trans le;obtain ⟨v02,rfl,h2⟩:=sC h;obtain ⟨p,c,rfl⟩:=h2.form;refine yK 5 [] [(16,vA (cAccess y1 p c)),(17,vI y2)]<|uD [vT ([]),z0] ?_;intro b1 hb1;refine xJ 0 (cAccess y1 p c) [hB b1 (cAccess y1 p c),hB b [vT ([]),z0,vI 0,vI 0,z0,vI 0,vT ([]),z0,z0]] rfl rfl rfl rfl<|yA [] [(5,vI y2)]<|zE<|zF<|zF ?_;obtain ⟨o0,ho0,hMc⟩:=zC hM;refine yU (fun imm' hs' m'=>∃ (t25:Bool),o0=t25∧imm0.le imm'∧hs'=[hB b1 (cAccess y1 p c),hB b [vT ([]),z0,vI 0,vI 0,z0,vI 0,vT ([]),z0,z0]]∧m'=[(0,vT text.l),(2,vP b 0),(4,vP b1 0),(5,vI y2),(25,.bool t25)]) ?_ ?_
 · have hle:=iS imm0;refine zB<|yK 3 [] [(20,.bool (decide (y2 < 0)))] ?_;cases hc1:(decide (y2 < 0)) with
   | true =>
    have hM0:=zW hc1 ho0
    try rw [hc1]
    exact yA [] [(25,.bool true)]<|yT [(0,vT text.l),(2,vP b 0),(4,vP b1 0),(5,vI y2),(25,.bool true)]<|yB ⟨_,(zD hM0).symm,hle,rfl,rfl⟩
   | false =>
    have hM01:=zU hc1 ho0
    try rw [hc1]
    exact yA [] [(25,.bool (decide (y2 ≥ (text.l.length:Int))))]<|yT [(0,vT text.l),(2,vP b 0),(4,vP b1 0),(5,vI y2),(25,.bool (decide (y2 ≥ (text.l.length:Int))))]<|yB ⟨_,(zD hM01).symm,hle,rfl,rfl⟩
 rintro imm01 hs2 m2 ⟨t25,heq,le1,rfl,rfl⟩;subst o0;have h2:=h2.mono le1;refine zE<|yO hMc ?_ ?_
 · intro hc2 hM;refine zF<|zB<|yK 1 [] [(26,vA [vT ([]),z0,vI 0,vI 0,z0,vI 0,vT ([]),z0,z0])]<|xJ 1 [vT ([]),z0,vI 0,vI 0,z0,vI 0,vT ([]),z0,z0] [hB b1 (cAccess y1 p c),hB b [vT ([]),z0,vI 0,vI 0,z0,vI 0,vT ([]),z0,z0]] rfl rfl rfl rfl<|yA [] [(3,.bool false)]<|zE<|yJ<|zR ?_;obtain rfl:=zD hM;exact yQ ⟨_,_,(.cell 1 rfl rfl (by kernel_rfl) (.tmp rfl ResV.nil)),zX,⟨_,_,rfl,rfl,⟨_,rfl,(wL ⟨_,_,_,_,rfl,(SL.nil _),(SL.nil _),(SL.nil _),(SL.nil _)⟩)⟩,rfl⟩⟩
 intro hc2 hM;refine yE<|zE<|zF<|zB<|yK 3 [] [(28,vT text.l),(30,vI (W (y2 + 1)))] ?_;obtain ⟨⟨y4,y5⟩,hy1,hM⟩:=zC hM;refine yR (zDH text (W (y2 + 1)) 5 _ hy1 ) ?_;rintro imm02 hs2 v2 k2 le2 - ⟨v03,v04,rfl,rfl,⟨cs1,rfl,h3⟩,rfl⟩ -;have h2:=h2.mono le2;obtain ⟨v05,v06,v07,rfl,h5,h6,h7⟩:=wK h3;obtain ⟨p1,c1,rfl⟩:=h5.form;obtain ⟨p2,c2,rfl⟩:=h6.form;obtain ⟨p3,c3,rfl⟩:=h7.form;refine yK 7 [] [(32,vA (cExpr y4 p1 c1 p2 c2 p3 c3)),(33,vI y5)]<|uD zExpr ?_;intro b2 hb2;refine xJ 0 (cExpr y4 p1 c1 p2 c2 p3 c3) [hB b2 (cExpr y4 p1 c1 p2 c2 p3 c3),hB b1 (cAccess y1 p c),hB b [vT ([]),z0,vI 0,vI 0,z0,vI 0,vT ([]),z0,z0]] rfl rfl rfl rfl<|yA [] []<|zE<|zF<|zB<|yK 3 [1,0] [(36,vA [vT y1.Array.l,vS p y1.Subs c,vI y4.Kind,vI y4.Num,vS p1 y4.Index.Coefs c1,vI y4.Index.Const,vT y4.Read.Array.l,vS p2 y4.Read.Subs c2,vS p3 y4.Kids c3])]<|uD [vT ([]),z0,vI 0,vI 0,z0,vI 0,vT ([]),z0,z0] ?_;intro b3 hb3;refine xJ 0 [vT y1.Array.l,vS p y1.Subs c,vI y4.Kind,vI y4.Num,vS p1 y4.Index.Coefs c1,vI y4.Index.Const,vT y4.Read.Array.l,vS p2 y4.Read.Subs c2,vS p3 y4.Kids c3] [hB b3 [vT y1.Array.l,vS p y1.Subs c,vI y4.Kind,vI y4.Num,vS p1 y4.Index.Coefs c1,vI y4.Index.Const,vT y4.Read.Array.l,vS p2 y4.Read.Subs c2,vS p3 y4.Kids c3],hB b2 (cExpr y4 p1 c1 p2 c2 p3 c3),hB b1 (cAccess y1 p c),hB b [vT ([]),z0,vI 0,vI 0,z0,vI 0,vT ([]),z0,z0]] rfl rfl rfl rfl<|yN rfl<|zE<|zF<|zF<|zB<|yK 1 [0] [(37,vA [vT y1.Array.l,vS p y1.Subs c,vI y4.Kind,vI y4.Num,vS p1 y4.Index.Coefs c1,vI y4.Index.Const,vT y4.Read.Array.l,vS p2 y4.Read.Subs c2,vS p3 y4.Kids c3])] ?_;obtain ⟨y6,hy2,hM⟩:=zC hM;refine yR (zBC (zQ.mk y1 y4) _ hy2 h2 h5 h6 h7) ?_;rintro imm03 hs2 v2 k2 le3 - ⟨v08,rfl,rfl,rfl⟩ -;have h2:=h2.mono le3;have h5:=h5.mono le3;have h6:=h6.mono le3;have h7:=h7.mono le3;refine yA [] [(40,.bool (!(y6.l == text.l)))]<|zE<|yO hM ?_ ?_
 · intro hc3 hM;refine zF<|zB<|yK 1 [] [(41,vA [vT ([]),z0,vI 0,vI 0,z0,vI 0,vT ([]),z0,z0])]<|xJ 3 [vT ([]),z0,vI 0,vI 0,z0,vI 0,vT ([]),z0,z0] [hB b3 [vT y1.Array.l,vS p y1.Subs c,vI y4.Kind,vI y4.Num,vS p1 y4.Index.Coefs c1,vI y4.Index.Const,vT y4.Read.Array.l,vS p2 y4.Read.Subs c2,vS p3 y4.Kids c3],hB b2 (cExpr y4 p1 c1 p2 c2 p3 c3),hB b1 (cAccess y1 p c),hB b [vT ([]),z0,vI 0,vI 0,z0,vI 0,vT ([]),z0,z0]] rfl rfl rfl rfl<|yA [] [(3,.bool false)]<|zE<|yJ<|zR ?_;obtain rfl:=zD hM;exact yQ ⟨_,_,(.cell 3 rfl rfl (by kernel_rfl) (.tmp rfl ResV.nil)),zX,⟨_,_,rfl,rfl,⟨_,rfl,(wL ⟨_,_,_,_,rfl,(SL.nil _),(SL.nil _),(SL.nil _),(SL.nil _)⟩)⟩,rfl⟩⟩
 intro hc3 hM;refine yE<|zE<|zF<|zB<|yK 1 [0] [(42,vA [vT y1.Array.l,vS p y1.Subs c,vI y4.Kind,vI y4.Num,vS p1 y4.Index.Coefs c1,vI y4.Index.Const,vT y4.Read.Array.l,vS p2 y4.Read.Subs c2,vS p3 y4.Kids c3])]<|xJ 3 [vT y1.Array.l,vS p y1.Subs c,vI y4.Kind,vI y4.Num,vS p1 y4.Index.Coefs c1,vI y4.Index.Const,vT y4.Read.Array.l,vS p2 y4.Read.Subs c2,vS p3 y4.Kids c3] [hB b3 [vT y1.Array.l,vS p y1.Subs c,vI y4.Kind,vI y4.Num,vS p1 y4.Index.Coefs c1,vI y4.Index.Const,vT y4.Read.Array.l,vS p2 y4.Read.Subs c2,vS p3 y4.Kids c3],hB b2 (cExpr y4 p1 c1 p2 c2 p3 c3),hB b1 (cAccess y1 p c),hB b [vT y1.Array.l,vS p y1.Subs c,vI y4.Kind,vI y4.Num,vS p1 y4.Index.Coefs c1,vI y4.Index.Const,vT y4.Read.Array.l,vS p2 y4.Read.Subs c2,vS p3 y4.Kids c3]] rfl rfl rfl rfl<|yA [] [(3,.bool true)]<|zE<|yJ ?_;obtain rfl:=zD hM;exact yQ ⟨_,_,(.cell 3 rfl rfl (by kernel_rfl) (.tmp rfl ResV.nil)),zX,⟨_,_,rfl,rfl,⟨_,rfl,(wL ⟨_,_,_,_,rfl,h2,h5,h6,h7⟩)⟩,rfl⟩⟩
def gM (r:(List zI)×Bool):KT:=fun kk imm' hs' v=>
  ∃ v0 v1,hs'=[]∧v=tupV [v0,v1]∧SL imm' v0 r.1∧v1=.bool r.2
def sT (sizes:(List Int)) (out:List zI) (i:Int):Option (Out (List zI) ((List zI)×Bool)):=do
 if (decide (i < (sizes.length:Int))) then
  let t28←(do
    let x←idx sizes i
    if (decide (x < 0)) then
     pure true
    else
     let x1←idx sizes i
     pure (decide (x1 > 99))
      : Option Bool)
  if t28 then
   pure (.ret (([]:List zI),false))
  else
   let y←rU
   let x2←idx sizes i
   let y1←wB x2
   let out2←app 48 out ([(zI.mk ([y]:List zA) ([y1]:List zA))]:List zI)
   sT sizes out2 (W (i + 1))
 else
  pure (.done out)
 partial_fixpoint
theorem zBD (sizes:(List Int)):∀ (out:List zI) (i:Int) (o:Out (List zI) ((List zI)×Bool)),sT sizes out i=some o→∀ {B}{imm0 imm:Imm}{Q p c p1 c1 cs},imm0.le imm→(S4 imm p sizes c)→(RL imm cs out)→(∀ gl a w,¬Q (.goto gl) a w)→(∀ a w,¬Q .outgrown a w)→(∀ (imm':Imm) (out1:List zI) (p2:Option Addr) (c2:Nat) (cs1:List Value),o=(.done out1)→imm0.le imm'→(RL imm' cs1 out1)→T 43 B Q (.exit 0) imm' [hO zI (vS p2 out1 c2) cs1] [(4,vS p2 out1 c2)])→(∀ r imm' hs' m',o=(.ret r)→imm0.le imm'→RS Tryz.prog Tryz.f119 B (gM  r) imm' hs' m'→T 43 B Q .ret imm' hs' m')→J Tryz.prog 43 B (nav (bodyOf Tryz.f119) [1,1,1,0,1,0]) Q imm [hO zI (vS p1 out c1) cs] [(0,vS p sizes c),(4,vS p1 out c1),(5,vI i)]:=by
 refine sT.partial_correctness sizes _ ?_;intro self ih out i o hM B imm0 imm Q p c p1 c1 cs hle h h3 hg ho hx hr;refine xC hg ho<|zF<|zF<|zB<|yA [] [(14,.bool (decide (i < (sizes.length:Int))))]<|zE<|yO hM ?_ ?_
 · intro hc1 hM;refine yE<|zE<|zF<|yC<|zF<|zF ?_;obtain ⟨o0,ho0,hMc⟩:=zC hM;refine yU (fun imm' hs' m'=>∃ (t28:Bool),o0=t28∧imm.le imm'∧hs'=[hO zI (vS p1 out c1) cs]∧m'=[(0,vS p sizes c),(4,vS p1 out c1),(5,vI i),(28,.bool t28)]) ?_ ?_
   · have hle:=iS imm;refine zB<|yK 2 [] [(17,vS p sizes c),(18,vI i)] ?_;obtain ⟨x,hy,hM⟩:=zC ho0;refine wJ rfl rfl h hy ?_;intro ad ccs hat hrep;obtain rfl:=hrep;refine xS 0 hat [vI x] (vI x) rfl<|yK 6 [] [(22,.bool (decide (x < 0)))] ?_;cases hc2:(decide (x < 0)) with
     | true =>
      have hM0:=zW hc2 hM
      try rw [hc2]
      exact yA [] [(28,.bool true)]<|yT [(0,vS p sizes c),(4,vS p1 out c1),(5,vI i),(28,.bool true)]<|yB ⟨_,(zD hM0).symm,hle,rfl,rfl⟩
     | false =>
      have hM01:=zU hc2 hM
      try rw [hc2]
      refine yK 8 [] [(23,vS p sizes c),(24,vI i)] ?_;obtain ⟨x1,hy1,hM⟩:=zC hM01;refine wJ rfl rfl h hy1 ?_;intro ad1 ccs1 hat1 hrep1;obtain rfl:=hrep1;exact xS 0 hat1 [vI x1] (vI x1) rfl<|yA [] [(28,.bool (decide (x1 > 99)))]<|yT [(0,vS p sizes c),(4,vS p1 out c1),(5,vI i),(28,.bool (decide (x1 > 99)))]<|yB ⟨_,(zD hM).symm,hle,rfl,rfl⟩
   rintro imm01 hs2 m2 ⟨t28,heq,le1,rfl,rfl⟩;subst o0;have h:=h.mono le1;have h3:=iM le1 h3;have hle:=hle.trans le1;refine zE<|yO hMc ?_ ?_
   · intro hc3 hM;refine zF<|zB<|xQ [] zI ?_;intro b1 hb1;have h5:RL imm01 [] ([]:List zI):=rfl;refine yA [] [(2,vS (some ⟨b1,0,none⟩) ([]:List zI) 0),(3,.bool false)]<|zE<|yJ<|zR<|yF<|zR<|zR<|xI 0 rfl ?_;intro imm02 le2 hl01;have h6:=SL.of_frozen hl01 le2 h5;have hle:=hle.trans le2;exact hr _ _ _ _ (zD hM).symm hle ⟨_,_,(.tmp rfl (.tmp rfl ResV.nil)),zX,⟨_,_,rfl,rfl,h6,rfl⟩⟩
   intro hc3 hM;refine yE<|zE ?_;obtain ⟨y,hy2,hM⟩:=zC hM;obtain ⟨x2,hy3,hM⟩:=zC hM;obtain ⟨y1,hy4,hM⟩:=zC hM;obtain ⟨out2,hy5,hM⟩:=zC hM;refine uA [.p (vS p1 out c1) [],.x (fun imm' v hx=>∃ p3 c3 cs2,v=vA (cAff y p3 c3)∧hx=[hO Int (vS p3 y.Coefs c3) cs2]∧(RL imm' cs2 y.Coefs)),.x (fun imm' v hx=>∃ b2,v=vS (some ⟨b2,0,none⟩) ([y]:List zA) 1∧hx=[]∧(SL imm' (vS (some ⟨b2,0,none⟩) ([y]:List zA) 1) ([y]:List zA))),.p (vS p sizes c) [],.p (vI i) [],.x (fun imm' v hx=>∃ ad2,v=.pointer (some ad2)∧hx=[]∧(At imm' ad2 [vI x2])),.q (vI x2),.x (fun imm' v hx=>∃ p4 c4 cs3,v=vA (cAff y1 p4 c4)∧hx=[hO Int (vS p4 y1.Coefs c4) cs3]∧(RL imm' cs3 y1.Coefs)),.x (fun imm' v hx=>∃ b3,v=vS (some ⟨b3,0,none⟩) ([y1]:List zA) 1∧hx=[]∧(SL imm' (vS (some ⟨b3,0,none⟩) ([y1]:List zA) 1) ([y1]:List zA))),.x (fun imm' v hx=>∃ b21 b31,v=vA [vS (some ⟨b21,0,none⟩) ([y]:List zA) 1,vS (some ⟨b31,0,none⟩) ([y1]:List zA) 1]∧hx=[]∧(SL imm' (vS (some ⟨b21,0,none⟩) ([y]:List zA) 1) ([y]:List zA))∧(SL imm' (vS (some ⟨b31,0,none⟩) ([y1]:List zA) 1) ([y1]:List zA))),.x (fun imm' v hx=>∃ b4,v=vS (some ⟨b4,0,none⟩) ([(zI.mk ([y]:List zA) ([y1]:List zA))]:List zI) 1∧hx=[]∧(SL imm' (vS (some ⟨b4,0,none⟩) ([(zI.mk ([y]:List zA) ([y1]:List zA))]:List zI) 1) ([(zI.mk ([y]:List zA) ([y1]:List zA))]:List zI))),.x (fun imm' v hx=>∃ p5 c5 cs4,v=vS p5 out2 c5∧hx=[hO zI (vS p5 out2 c5) cs4]∧(RL imm' cs4 out2))] [[],[],[(1,true)],[],[],[(3,false),(4,false)],[(5,false)],[(6,false)],[(7,true)],[(2,false),(8,false)],[(9,false)],[(0,false),(10,false),(13,true)]] [] [[hO zI (vS p1 out c1) cs]] [(11,true)] (zK [0] rfl (by decide)) ?_ ?_
   · refine Op<|Ox ?_<|Ox ?_<|Op<|Op<|Ox ?_<|Oq ?_<|Ox ?_<|Ox ?_<|Ox ?_<|Ox ?_<|Ox ?_<|On
     · intro imm1 hf le1;refine zN<|yH [] ?_;have hle:=iS imm1;refine yR (oI  _ hy2 ) ?_;rintro imm03 hs2 v2 k2 le3 - ⟨p3,c3,cs2,rfl,rfl,h7⟩ -;have hle:=hle.trans le3;exact zZ (hx:=[hO Int (vS p3 y.Coefs c3) cs2]) rfl hle rfl (zM rfl) ⟨_,_,_,rfl,rfl,h7⟩
     · intro imm1 hf le1;refine zG ?_;rintro _ _ ⟨p3,c3,cs2,rfl,rfl,h7⟩;refine zN<|yH [(31,vA (cAff y p3 c3))] ?_;have hle:=iS imm1;refine yL 0 rfl ?_;intro imm04 le4 hl02;have h8:=SL.of_frozen hl02 le4 h7;have hle:=hle.trans le4;refine xQ (cAff y p3 c3) zA ?_;intro b2 hb2;have h9:RL imm04 (cAff y p3 c3) ([y]:List zA):=⟨(cAff y p3 c3),_,rfl,rfl,(yP ⟨_,rfl,h8⟩),rfl⟩;refine yL 0 rfl ?_;intro imm05 le5 hl03;have h10:=SL.of_frozen hl03 le5 h9;have hle:=hle.trans le5;exact zZ (hx:=[]) rfl hle rfl (zM rfl) ⟨_,rfl,rfl,h10⟩
     · intro imm1 hf le1;refine zG ?_;rintro _ _ ⟨rfl,rfl⟩;refine zG ?_;rintro _ _ ⟨rfl,rfl⟩;refine zN<|yH [(33,vS p sizes c),(34,vI i)] ?_;have hle:=iS imm1;have h:=h.mono le1;refine wJ rfl rfl h hy3 ?_;intro ad2 ccs2 hat2 hrep2;obtain rfl:=hrep2;exact zZ (hx:=[]) rfl hle rfl (zM rfl) ⟨_,rfl,rfl,hat2⟩
     · intro imm1 hf le1;refine zG ?_;rintro _ _ ⟨ad2,rfl,rfl,hat2⟩;refine zN<|yH [(35,.pointer (some ad2))] ?_;have hle:=iS imm1;exact xS 0 hat2 [vI x2] (vI x2) rfl<|zZ (hx:=[]) rfl hle rfl (zM rfl) ⟨rfl,rfl⟩
     · intro imm1 hf le1;refine zG ?_;rintro _ _ ⟨rfl,rfl⟩;refine zN<|yH [(36,vI x2)] ?_;have hle:=iS imm1;refine yR (vE x2 _ hy4 ) ?_;rintro imm06 hs2 v2 k2 le6 - ⟨p4,c4,cs3,rfl,rfl,h11⟩ -;have hle:=hle.trans le6;exact zZ (hx:=[hO Int (vS p4 y1.Coefs c4) cs3]) rfl hle rfl (zM rfl) ⟨_,_,_,rfl,rfl,h11⟩
     · intro imm1 hf le1;refine zG ?_;rintro _ _ ⟨p4,c4,cs3,rfl,rfl,h11⟩;refine zN<|yH [(37,vA (cAff y1 p4 c4))] ?_;have hle:=iS imm1;refine yL 0 rfl ?_;intro imm07 le7 hl04;have h12:=SL.of_frozen hl04 le7 h11;have hle:=hle.trans le7;refine xQ (cAff y1 p4 c4) zA ?_;intro b3 hb3;have h13:RL imm07 (cAff y1 p4 c4) ([y1]:List zA):=⟨(cAff y1 p4 c4),_,rfl,rfl,(yP ⟨_,rfl,h12⟩),rfl⟩;refine yL 0 rfl ?_;intro imm08 le8 hl05;have h14:=SL.of_frozen hl05 le8 h13;have hle:=hle.trans le8;exact zZ (hx:=[]) rfl hle rfl (zM rfl) ⟨_,rfl,rfl,h14⟩
     · intro imm1 hf le1;refine zG ?_;rintro _ _ ⟨b2,rfl,rfl,h10⟩;refine zG ?_;rintro _ _ ⟨b3,rfl,rfl,h14⟩;refine zN<|yH [(32,vS (some ⟨b2,0,none⟩) ([y]:List zA) 1),(38,vS (some ⟨b3,0,none⟩) ([y1]:List zA) 1)] ?_;have hle:=iS imm1;exact qV 10 [(39,vA [vS (some ⟨b2,0,none⟩) ([y]:List zA) 1,vS (some ⟨b3,0,none⟩) ([y1]:List zA) 1])]<|zZ (hx:=[]) rfl hle rfl (zM rfl) ⟨_,_,rfl,rfl,h10,h14⟩
     · intro imm1 hf le1;refine zG ?_;rintro _ _ ⟨b21,b31,rfl,rfl,h101,h141⟩;refine zN<|yH [(39,vA [vS (some ⟨b21,0,none⟩) ([y]:List zA) 1,vS (some ⟨b31,0,none⟩) ([y1]:List zA) 1])] ?_;have hle:=iS imm1;refine xQ [vS (some ⟨b21,0,none⟩) ([y]:List zA) 1,vS (some ⟨b31,0,none⟩) ([y1]:List zA) 1] zI ?_;intro b4 hb4;have h15:RL imm1 [vS (some ⟨b21,0,none⟩) ([y]:List zA) 1,vS (some ⟨b31,0,none⟩) ([y1]:List zA) 1] ([(zI.mk ([y]:List zA) ([y1]:List zA))]:List zI):=⟨[vS (some ⟨b21,0,none⟩) ([y]:List zA) 1,vS (some ⟨b31,0,none⟩) ([y1]:List zA) 1],_,rfl,rfl,(qY ⟨_,_,rfl,h101,h141⟩),rfl⟩;refine yL 0 rfl ?_;intro imm09 le9 hl06;have h16:=SL.of_frozen hl06 le9 h15;have hle:=hle.trans le9;exact zZ (hx:=[]) rfl hle rfl (zM rfl) ⟨_,rfl,rfl,h16⟩
     intro imm1 hf le1;refine zG ?_;rintro _ _ ⟨rfl,rfl⟩;refine zG ?_;rintro _ _ ⟨b4,rfl,rfl,h16⟩;refine zG ?_;rintro _ _ rfl;refine zN<|yH [(30,vS p1 out c1),(40,vS (some ⟨b4,0,none⟩) ([(zI.mk ([y]:List zA) ([y1]:List zA))]:List zI) 1)] ?_;have hle:=iS imm1;have h3:=iM le1 h3;obtain ⟨ccs3,k0,k01⟩:=h16;have h16:SL imm1 (vS (some ⟨b4,0,none⟩) ([(zI.mk ([y]:List zA) ([y1]:List zA))]:List zI) 1) ([(zI.mk ([y]:List zA) ([y1]:List zA))]:List zI):=⟨_,k0,k01⟩;refine qI 150 2 0 rfl rfl rfl h3 (.inl k0) k01 hy5 ?_;intro p5 c5 cs4 h17;exact uB (hs':=(hO zI (vS p5 out2 c5) cs4::hf)) rfl<|zZ (hx:=[hO zI (vS p5 out2 c5) cs4]) rfl hle rfl (zM rfl) ⟨_,_,_,rfl,rfl,h17⟩
   intro imm010 le10;refine zG ?_;rintro _ _ ⟨p5,c5,cs4,rfl,rfl,h17⟩;refine zN<|yH [(0,vS p sizes c),(5,vI i),(41,vS p5 out2 c5)] ?_;have h:=h.mono le10;have hle:=hle.trans le10;exact yA [] [(4,vS p5 out2 c5)]<|zY<|zE<|zB<|yA [] [(5,vI (W (i + 1)))]<|xD<|vQ [(0,vS p sizes c),(4,vS p5 out2 c5),(5,vI (W (i + 1)))]<|ih out2 (W (i + 1)) _ hM hle h h17 hg ho hx hr
 intro hc1 hM;exact xA<|zS<|zS<|yT [(4,vS p1 out c1)]<|hx _ _ _ _ _ (zD hM).symm hle h3
def nQ (sizes:(List Int)):Option ((List zI)×Bool):=do
 if (decide ((sizes.length:Int) > 4)) then
  pure (([]:List zI),false)
 else
  match←sT sizes ([]:List zI) 0 with
  | .ret r0=>pure r0
  | .done out1 =>
   pure (out1,true)
theorem zDI:∀ (sizes:(List Int)) r,nQ sizes=some r→∀ {imm:Imm}{p c},(S4 imm p sizes c)→Ret Tryz.prog 119 [vS p sizes c] imm [] (gM  r):=by
 intro sizes r hM imm p c h;unfold nQ at hM;refine yG (fn:=Tryz.f119) (c:=(bodyOf Tryz.f119)) Tryz.func119 rfl rfl ?_;rintro B - -;refine zF<|zB<|yA [] []<|zE<|zF<|zB<|xQ [] zI ?_;intro b hb;have h1:RL imm [] ([]:List zI):=rfl;refine yA [] [(4,vS (some ⟨b,0,none⟩) ([]:List zI) 0)]<|zE<|zF<|zF<|zB<|yA [] [(9,.bool (decide ((sizes.length:Int) > 4)))]<|zE<|yO hM ?_ ?_
 · intro hc hM;refine zF<|zB<|yA [] [(2,vS (some ⟨b,0,none⟩) ([]:List zI) 0),(3,.bool false)]<|zE<|yJ<|zR<|xI 0 rfl ?_;intro imm0 le hl0;have h2:=SL.of_frozen hl0 le h1;obtain rfl:=zD hM;exact yQ ⟨_,_,(.tmp rfl (.tmp rfl ResV.nil)),zX,⟨_,_,rfl,rfl,h2,rfl⟩⟩
 intro hc hM;refine yE<|zE<|zF<|zF<|zB<|yA [] [(5,vI 0)]<|zE<|yC<|vQ [(0,vS p sizes c),(4,vS (some ⟨b,0,none⟩) ([]:List zI) 0),(5,vI 0)] ?_;obtain ⟨o01,ho01,hMl⟩:=zC hM;refine zBD sizes ([]:List zI) 0 o01 ho01 iR h h1 (fun _ _ _ h=>h) (fun _ _ h=>h) ?_ ?_
 · intro imm011 out1 p2 c2 cs1 heq1 le11 h4;subst o01;refine yD<|zE<|zF<|zB<|yA [] [(2,vS p2 out1 c2),(3,.bool true)]<|zE<|yJ<|xI 0 rfl ?_;intro imm012 le12 hl07;have h18:=SL.of_frozen hl07 le12 h4;obtain rfl:=zD hMl;exact yQ ⟨_,_,(.tmp rfl (.tmp rfl ResV.nil)),zX,⟨_,_,rfl,rfl,h18,rfl⟩⟩
 intro r0 imm9 hs9 m9 heq9 le9 hrs9;subst heq9;refine yF<|zR ?_;obtain rfl:=zD hMl;exact yQ hrs9
def fI (b0:Nat) (r:zP×zO):KT:=fun kk imm' hs' v=>
  ∃ v0 k0,hs'=[.blk b0 ⟨k0⟩]∧v=tupV [v0]∧(∃ cs,v0=.agg ⟨cs⟩∧Rp.rep imm' cs r.1)∧Rp.rep imm' k0 r.2
def rN (y1:(List zI)) (Body2:List zQ) (n0:Int) (x6:zO):Option ((List zQ×zO)):=do
 if (decide (n0 < 5)) then
  let (y7,y8)←nX x6 (y1.length:Int)
  let y9←oA
  let (y11,y12)←rW y9 (zP.mk y1 ([y7]:List zQ))
  if y12 then
   let l←app 152 Body2 ([y7]:List zQ)
   pure (l,y8)
  else
   rN y1 Body2 (W (n0 + 1)) y8
 else
  pure (Body2,x6)
 partial_fixpoint
theorem zBr (y1:(List zI)) (Body2:List zQ):∀ (n0:Int) (x6:zO) (o:(List zQ×zO)),rN y1 Body2 n0 x6=some o→∀ {B}{imm0 imm:Imm}{Q}{i:Int}{x:zP}{k0:Int}{r01:Nat}{b:Nat}{p1 c1 p2 c2 p7 c7}{b1:Nat}{p14 c14 cs2 p15 c15},imm0.le imm→(S4 imm p7 y1 c7)→(S4 imm p1 x.Nest c1)→(S4 imm p2 x.Body c2)→(RL imm cs2 Body2)→(S4 imm p15 x6.b c15)→(∀ gl a w,¬Q (.goto gl) a w)→(∀ a w,¬Q .outgrown a w)→(∀ (imm':Imm) (Body3:List zQ) (x7:zO) (p16:Option Addr) (c16:Nat) (cs3:List Value) (p17:Option Addr) (c17:Nat),o=(Body3,x7)→imm0.le imm'→(RL imm' cs3 Body3)→(S4 imm' p17 x7.b c17)→T 81 B Q (.exit 4) imm' [hO zQ (vS p16 Body3 c16) cs3,hB r01 (cRd x7 p17 c17),hB b1 [vS p7 y1 c7,vS p16 Body3 c16],hB b (cPart x p1 c1 p2 c2)] [(0,vP r01 0),(2,vP b 0),(3,vI i),(4,vP b1 0),(5,vI k0)])→J Tryz.prog 81 B (nav (bodyOf Tryz.f88) [1,0,1,0,0,1,0,0,1,0,1,0,0,1,0,0,1,0]) Q imm [hO zQ (vS p14 Body2 c14) cs2,hB r01 (cRd x6 p15 c15),hB b1 [vS p7 y1 c7,vS p14 Body2 c14],hB b (cPart x p1 c1 p2 c2)] [(0,vP r01 0),(2,vP b 0),(3,vI i),(4,vP b1 0),(5,vI k0),(6,vI n0)]:=by
 refine rN.partial_correctness y1 Body2 _ ?_;intro self ih n0 x6 o hM B imm0 imm Q i x k0 r01 b p1 c1 p2 c2 p7 c7 b1 p14 c14 cs2 p15 c15 hle h7 h1 h2 h20 h21 hg ho hx;refine xC hg ho<|zF<|zF<|zB<|yA [] [(31,.bool (decide (n0 < 5)))]<|zE<|yO hM ?_ ?_
 · intro hc2 hM;refine yE<|zE<|zF<|yC<|zF<|zB<|yK 4 [2] [(34,vP r01 0),(37,vI (y1.length:Int))]<|rX (zK [1,0,2,3] (hs':=[hB r01 (cRd x6 p15 c15),hO zQ (vS p14 Body2 c14) cs2,hB b1 [vS p7 y1 c7,vS p14 Body2 c14],hB b (cPart x p1 c1 p2 c2)]) rfl (by decide)) ?_;obtain ⟨⟨y7,y8⟩,hy2,hM⟩:=zC hM;refine sD [hB r01 (cRd x6 p15 c15)] [hO zQ (vS p14 Body2 c14) cs2,hB b1 [vS p7 y1 c7,vS p14 Body2 c14],hB b (cPart x p1 c1 p2 c2)] (zDk x6 (y1.length:Int) _ hy2 h21) ?_;rintro imm03 hs2 v2 k2 le3 - ⟨v04,kk2,rfl,rfl,⟨cs4,rfl,h24⟩,h25⟩ -;have h20:=iM le3 h20;have h7:=h7.mono le3;have h1:=h1.mono le3;have h2:=h2.mono le3;have hle:=hle.trans le3;obtain ⟨v05,v06,v07,v08,rfl,h26,h27,h28,h29⟩:=wA h24;obtain ⟨p18,c18,rfl⟩:=h26.form;obtain ⟨p19,c19,rfl⟩:=h27.form;obtain ⟨p20,c20,rfl⟩:=h28.form;obtain ⟨p21,c21,rfl⟩:=h29.form;obtain ⟨v09,rfl,h30⟩:=yI h25;obtain ⟨p22,c22,rfl⟩:=h30.form;refine uD [vT ([]),z0,vI 0,vI 0,z0,vI 0,vT ([]),z0,z0] ?_;intro b3 hb3;refine xJ 0 (cStmt y7 p18 c18 p19 c19 p20 c20 p21 c21) [hB b3 (cStmt y7 p18 c18 p19 c19 p20 c20 p21 c21),hB r01 (cRd y8 p22 c22),hO zQ (vS p14 Body2 c14) cs2,hB b1 [vS p7 y1 c7,vS p14 Body2 c14],hB b (cPart x p1 c1 p2 c2)] rfl rfl rfl rfl<|yN rfl<|zE<|zF ?_;obtain ⟨y9,hy3,hM⟩:=zC hM;obtain ⟨⟨y11,y12⟩,hy4,hM⟩:=zC hM;refine uA [.x (fun imm' v hx=>∃ p23 c23,v=vS p23 y9 c23∧hx=[]∧(S4 imm' p23 y9 c23)),.p (vP b1 0) [],.p (vS p7 y1 c7) [3],.p (vA (cStmt y7 p18 c18 p19 c19 p20 c20 p21 c21)) [0],.x (fun imm' v hx=>∃ b4,v=vS (some ⟨b4,0,none⟩) ([y7]:List zQ) 1∧hx=[]∧(SL imm' (vS (some ⟨b4,0,none⟩) ([y7]:List zQ) 1) ([y7]:List zQ))),.x (fun imm' v hx=>∃ b41,v=vA [vS p7 y1 c7,vS (some ⟨b41,0,none⟩) ([y7]:List zQ) 1]∧hx=[]∧(SL imm' (vS (some ⟨b41,0,none⟩) ([y7]:List zQ) 1) ([y7]:List zQ))),.q (.tuple ⟨[vI y11,.bool y12]⟩),.p (.tuple ⟨[vI y11,.bool y12]⟩) [],.p (vI y11) [],.p (.bool y12) [],.p (vI y11) []] [[],[],[(1,false)],[],[(3,false)],[(2,false),(4,false)],[(0,false),(5,false)],[(6,false)],[(7,false)],[(7,false)],[(8,false)]] [hB b3 (cStmt y7 p18 c18 p19 c19 p20 c20 p21 c21),hB r01 (cRd y8 p22 c22),hO zQ (vS p14 Body2 c14) cs2,hB b1 [vS p7 y1 c7,vS p14 Body2 c14],hB b (cPart x p1 c1 p2 c2)] [] [(9,false)] (zK [0,1,2,3,4] rfl (by decide)) ?_ ?_
   · refine Ox ?_<|Op<|Op<|Op<|Ox ?_<|Ox ?_<|Oq ?_<|Op<|Op<|Op<|Op<|On
     · intro imm1 hf le1;refine zN<|yH [] ?_;have hle:=iS imm1;refine yR (mM  _ hy3 ) ?_;rintro imm04 hs2 v2 k2 le4 - ⟨v010,rfl,rfl,h31⟩ -;have hle:=hle.trans le4;obtain ⟨p23,c23,rfl⟩:=h31.form;exact zZ (hx:=[]) rfl hle rfl (zM rfl) ⟨_,_,rfl,rfl,h31⟩
     · intro imm1 hf le1;refine zG ?_;rintro _ _ ⟨rfl,rfl⟩;refine zN<|yH [(43,vA (cStmt y7 p18 c18 p19 c19 p20 c20 p21 c21))] ?_;have hle:=iS imm1;have h26:=h26.mono le1;have h27:=h27.mono le1;have h28:=h28.mono le1;have h29:=h29.mono le1;refine xQ (cStmt y7 p18 c18 p19 c19 p20 c20 p21 c21) zQ ?_;intro b4 hb4;have h32:RL imm1 (cStmt y7 p18 c18 p19 c19 p20 c20 p21 c21) ([y7]:List zQ):=⟨(cStmt y7 p18 c18 p19 c19 p20 c20 p21 c21),_,rfl,rfl,(wL ⟨_,_,_,_,rfl,h26,h27,h28,h29⟩),rfl⟩;refine yL 0 rfl ?_;intro imm05 le5 hl01;have h33:=SL.of_frozen hl01 le5 h32;have hle:=hle.trans le5;exact zZ (hx:=[]) rfl hle rfl (zM rfl) ⟨_,rfl,rfl,h33⟩
     · intro imm1 hf le1;refine zG ?_;rintro _ _ ⟨rfl,rfl⟩;refine zG ?_;rintro _ _ ⟨b4,rfl,rfl,h33⟩;refine zN<|yH [(42,vS p7 y1 c7),(44,vS (some ⟨b4,0,none⟩) ([y7]:List zQ) 1)] ?_;have hle:=iS imm1;exact qV 6 [(45,vA [vS p7 y1 c7,vS (some ⟨b4,0,none⟩) ([y7]:List zQ) 1])]<|zZ (hx:=[]) rfl hle rfl (zM rfl) ⟨_,rfl,rfl,h33⟩
     intro imm1 hf le1;refine zG ?_;rintro _ _ ⟨p23,c23,rfl,rfl,h31⟩;refine zG ?_;rintro _ _ ⟨b41,rfl,rfl,h331⟩;refine zN<|yH [(40,vS p23 y9 c23),(45,vA [vS p7 y1 c7,vS (some ⟨b41,0,none⟩) ([y7]:List zQ) 1])] ?_;have hle:=iS imm1;have h7:=h7.mono le1;refine yR (jM y9 (zP.mk y1 ([y7]:List zQ)) _ hy4 h31 h7 h331) ?_;rintro imm06 hs2 v2 k2 le6 - ⟨v011,v012,rfl,rfl,rfl,rfl⟩ -;have hle:=hle.trans le6;exact zZ (hx:=[]) rfl hle rfl (zM rfl) ⟨rfl,rfl⟩
   intro imm07 le7;refine zG ?_;rintro _ _ ⟨rfl,rfl⟩;refine zN<|yH [(0,vP r01 0),(2,vP b 0),(3,vI i),(4,vP b1 0),(5,vI k0),(6,vI n0),(7,vP b3 0),(48,.bool y12)] ?_;have h26:=h26.mono le7;have h27:=h27.mono le7;have h28:=h28.mono le7;have h29:=h29.mono le7;have h30:=h30.mono le7;have h20:=iM le7 h20;have h7:=h7.mono le7;have h1:=h1.mono le7;have h2:=h2.mono le7;have hle:=hle.trans le7;refine yA [] [(9,.bool y12)]<|zE<|zF<|zB<|yA [] [(49,.bool y12)]<|zE<|yO hM ?_ ?_
   · intro hc3 hM;refine zF<|zB<|yK 3 [3,0] [(51,vS p14 Body2 c14),(52,vA (cStmt y7 p18 c18 p19 c19 p20 c20 p21 c21))]<|xQ (cStmt y7 p18 c18 p19 c19 p20 c20 p21 c21) zQ ?_;intro b5 hb5;have h36:RL imm07 (cStmt y7 p18 c18 p19 c19 p20 c20 p21 c21) ([y7]:List zQ):=⟨(cStmt y7 p18 c18 p19 c19 p20 c20 p21 c21),_,rfl,rfl,(wL ⟨_,_,_,_,rfl,h26,h27,h28,h29⟩),rfl⟩;obtain ⟨l,hy5,hM⟩:=zC hM;refine qI 71 9 3 rfl rfl rfl h20 (.inr ⟨0,rfl⟩) h36 hy5 ?_;intro p24 c24 cs5 h37;exact rX (zK [1,2,3,4,5] (hs':=[hB b3 (cStmt y7 p18 c18 p19 c19 p20 c20 p21 c21),hB r01 (cRd y8 p22 c22),hO zQ (vS p24 l c24) cs5,hB b1 [vS p7 y1 c7,vS p14 Body2 c14],hB b (cPart x p1 c1 p2 c2)]) rfl (by decide))<|yK 6 [] [(55,vP b1 1)]<|xJ 3 [vS p7 y1 c7,vS p24 l c24] [hB b3 (cStmt y7 p18 c18 p19 c19 p20 c20 p21 c21),hB r01 (cRd y8 p22 c22),hO zQ (vS p24 l c24) cs5,hB b1 [vS p7 y1 c7,vS p24 l c24],hB b (cPart x p1 c1 p2 c2)] rfl rfl rfl rfl<|yN rfl<|zE<|xA<|zEO rfl<|zS<|zS<|wD (zK [2,1,3,4] rfl (by decide))<|yT [(0,vP r01 0),(2,vP b 0),(3,vI i),(4,vP b1 0),(5,vI k0)]<|hx _ _ _ _ _ _ _ _ (zD hM).symm hle h37 h30
   intro hc3 hM;exact yE<|zY<|zE<|zB<|yA [] [(6,vI (W (n0 + 1)))]<|xD<|qA (zK [2,1,3,4] rfl (by decide))<|vQ [(0,vP r01 0),(2,vP b 0),(3,vI i),(4,vP b1 0),(5,vI k0),(6,vI (W (n0 + 1)))]<|ih (W (n0 + 1)) y8 _ hM hle h7 h1 h2 h20 h30 hg ho hx
 intro hc2 hM;exact xA<|zS<|zS<|yT [(0,vP r01 0),(2,vP b 0),(3,vI i),(4,vP b1 0),(5,vI k0)]<|hx _ _ _ _ _ _ _ _ (zD hM).symm hle h20 h21
def rO (y1:(List zI)) (k0:Int) (Body:List zQ) (x4:zO):Option ((List zQ×zO)):=do
 if (decide (k0 > 0)) then
  let (Body3,x7)←rN y1 Body 0 x4
  rO y1 (W (k0 - 1)) Body3 x7
 else
  pure (Body,x4)
 partial_fixpoint
theorem zBs (y1:(List zI)):∀ (k0:Int) (Body:List zQ) (x4:zO) (o:(List zQ×zO)),rO y1 k0 Body x4=some o→∀ {B}{imm0 imm:Imm}{Q}{i:Int}{x:zP}{r01:Nat}{b:Nat}{p1 c1 p2 c2 p7 c7}{b1:Nat}{p10 c10 cs p11 c11},imm0.le imm→(S4 imm p7 y1 c7)→(S4 imm p1 x.Nest c1)→(S4 imm p2 x.Body c2)→(RL imm cs Body)→(S4 imm p11 x4.b c11)→(∀ gl a w,¬Q (.goto gl) a w)→(∀ a w,¬Q .outgrown a w)→(∀ (imm':Imm) (Body1:List zQ) (x5:zO) (p12:Option Addr) (c12:Nat) (cs1:List Value) (p13:Option Addr) (c13:Nat),o=(Body1,x5)→imm0.le imm'→(RL imm' cs1 Body1)→(S4 imm' p13 x5.b c13)→T 81 B Q (.exit 2) imm' [hO zQ (vS p12 Body1 c12) cs1,hB r01 (cRd x5 p13 c13),hB b1 [vS p7 y1 c7,vS p12 Body1 c12],hB b (cPart x p1 c1 p2 c2)] [(0,vP r01 0),(2,vP b 0),(3,vI i),(4,vP b1 0)])→J Tryz.prog 81 B (nav (bodyOf Tryz.f88) [1,0,1,0,0,1,0,0,1,0,1,0]) Q imm [hO zQ (vS p10 Body c10) cs,hB r01 (cRd x4 p11 c11),hB b1 [vS p7 y1 c7,vS p10 Body c10],hB b (cPart x p1 c1 p2 c2)] [(0,vP r01 0),(2,vP b 0),(3,vI i),(4,vP b1 0),(5,vI k0)]:=by
 refine rO.partial_correctness y1 _ ?_;intro self ih k0 Body x4 o hM B imm0 imm Q i x r01 b p1 c1 p2 c2 p7 c7 b1 p10 c10 cs p11 c11 hle h7 h1 h2 h16 h17 hg ho hx;refine xC hg ho<|zF<|zF<|zB<|yA [] [(27,.bool (decide (k0 > 0)))]<|zE<|yO hM ?_ ?_
 · intro hc1 hM;refine yE<|zE<|zF<|yC<|zF<|zB<|yA [] [(6,vI 0)]<|zE<|yC<|vQ [(0,vP r01 0),(2,vP b 0),(3,vI i),(4,vP b1 0),(5,vI k0),(6,vI 0)] ?_;obtain ⟨o0,ho0,hMl⟩:=zC hM;refine zBr y1 Body 0 x4 o0 ho0 iR h7 h1 h2 h16 h17 (fun _ _ _ h=>hg _ _ _ h) (fun _ _ h=>ho _ _ h) ?_;intro imm08 Body3 x7 p16 c16 cs3 p17 c17 heq le8 h22 h23;subst o0;have h7:=h7.mono le8;have h1:=h1.mono le8;have h2:=h2.mono le8;have hle:=hle.trans le8;exact yD<|zY<|zE<|zB<|yA [] [(5,vI (W (k0 - 1)))]<|xD<|vQ [(0,vP r01 0),(2,vP b 0),(3,vI i),(4,vP b1 0),(5,vI (W (k0 - 1)))]<|ih (W (k0 - 1)) Body3 x7 _ hMl hle h7 h1 h2 h22 h23 hg ho hx
 intro hc1 hM;exact xA<|zS<|zS<|yT [(0,vP r01 0),(2,vP b 0),(3,vI i),(4,vP b1 0)]<|hx _ _ _ _ _ _ _ _ (zD hM).symm hle h16 h17
def rP (x:zP) (i:Int) (x1:zO):Option (Out (zP×zO) (zP×zO)):=do
 if (decide (i < 4)) then
  let (y1,y2)←nW x1
  let (y4,y5)←yV y2 ([1,2,1,3]:List Int)
  let (Body1,x5)←rO y1 y4 ([]:List zQ) y5
  let y13←oA
  let (y15,y16)←rW y13 (zP.mk y1 Body1)
  let t66←(do
    if y16 then
     pure (decide (y15 ≤ 40))
    else
     pure false
      : Option Bool)
  if t66 then
   pure (.ret ((zP.mk y1 Body1),x5))
  else
   rP x (W (i + 1)) x5
 else
  pure (.done (x,x1))
 partial_fixpoint
theorem zBt (x:zP):∀ (i:Int) (x1:zO) (o:Out (zP×zO) (zP×zO)),rP x i x1=some o→∀ {B}{imm0 imm:Imm}{Q}  {r01:Nat}{b:Nat}{p1 c1 p2 c2 p3 c3},imm0.le imm→(S4 imm p1 x.Nest c1)→(S4 imm p2 x.Body c2)→(S4 imm p3 x1.b c3)→(∀ gl a w,¬Q (.goto gl) a w)→(∀ a w,¬Q .outgrown a w)→(∀ (imm':Imm) (x2:zP) (x3:zO) (p4:Option Addr) (c4:Nat) (p5:Option Addr) (c5:Nat) (p6:Option Addr) (c6:Nat),o=(.done (x2,x3))→imm0.le imm'→(S4 imm' p4 x2.Nest c4)→(S4 imm' p5 x2.Body c5)→(S4 imm' p6 x3.b c6)→T 81 B Q (.exit 0) imm' [hB b (cPart x2 p4 c4 p5 c5),hB r01 (cRd x3 p6 c6)] [(2,vP b 0)])→(∀ r imm' hs' m',o=(.ret r)→imm0.le imm'→RS Tryz.prog Tryz.f88 B (fI r01 r) imm' hs' m'→T 81 B Q .ret imm' hs' m')→J Tryz.prog 81 B (nav (bodyOf Tryz.f88) [1,0,1,0]) Q imm [hB b (cPart x p1 c1 p2 c2),hB r01 (cRd x1 p3 c3)] [(0,vP r01 0),(2,vP b 0),(3,vI i)]:=by
 refine rP.partial_correctness x _ ?_;intro self ih i x1 o hM B imm0 imm Q r01 b p1 c1 p2 c2 p3 c3 hle h1 h2 h3 hg ho hx hr;refine xC hg ho<|zF<|zF<|zB<|yA [] [(17,.bool (decide (i < 4)))]<|zE<|yO hM ?_ ?_
 · intro hc hM;refine yE<|zE<|zF<|yC<|zF<|zB<|yK 1 [] [(20,vP r01 0)]<|rX (zK [1,0] (hs':=[hB r01 (cRd x1 p3 c3),hB b (cPart x p1 c1 p2 c2)]) rfl (by decide)) ?_;obtain ⟨⟨y1,y2⟩,hy,hM⟩:=zC hM;refine sD [hB r01 (cRd x1 p3 c3)] [hB b (cPart x p1 c1 p2 c2)] (zDi x1 _ hy h3) ?_;rintro imm0 hs2 v2 k2 le - ⟨v0,kk,rfl,rfl,h7,h8⟩ -;have h1:=h1.mono le;have h2:=h2.mono le;have hle:=hle.trans le;obtain ⟨p7,c7,rfl⟩:=h7.form;obtain ⟨v01,rfl,h9⟩:=yI h8;obtain ⟨p8,c8,rfl⟩:=h9.form;refine yK 3 [] [(22,vA [vS p7 y1 c7,z0])]<|uD zTwo ?_;intro b1 hb1;refine xJ 0 [vS p7 y1 c7,z0] [hB b1 [vS p7 y1 c7,z0],hB r01 (cRd y2 p8 c8),hB b (cPart x p1 c1 p2 c2)] rfl rfl rfl rfl<|yN rfl<|zE<|zF<|zF<|zB<|yK 1 [] [(23,vP r01 0)]<|xQ [vI 1,vI 2,vI 1,vI 3] Int ?_;intro b2 hb2;have h10:RL imm0 [vI 1,vI 2,vI 1,vI 3] ([1,2,1,3]:List Int):=⟨[vI 1],_,rfl,rfl,rfl,⟨[vI 2],_,rfl,rfl,rfl,⟨[vI 1],_,rfl,rfl,rfl,⟨[vI 3],_,rfl,rfl,rfl,rfl⟩⟩⟩⟩;refine yL 0 rfl ?_;intro imm01 le1 hl0;have h11:=SL.of_frozen hl0 le1 h10;have h7:=h7.mono le1;have h9:=h9.mono le1;have h1:=h1.mono le1;have h2:=h2.mono le1;have hle:=hle.trans le1;refine rX (zK [1,0,2] (hs':=[hB r01 (cRd y2 p8 c8),hB b1 [vS p7 y1 c7,z0],hB b (cPart x p1 c1 p2 c2)]) rfl (by decide)) ?_;obtain ⟨⟨y4,y5⟩,hy1,hM⟩:=zC hM;refine sD [hB r01 (cRd y2 p8 c8)] [hB b1 [vS p7 y1 c7,z0],hB b (cPart x p1 c1 p2 c2)] (xF y2 ([1,2,1,3]:List Int) _ hy1 h9 h11) ?_;rintro imm02 hs2 v2 k2 le2 - ⟨v02,kk1,rfl,rfl,rfl,h13⟩ -;have h7:=h7.mono le2;have h1:=h1.mono le2;have h2:=h2.mono le2;have hle:=hle.trans le2;obtain ⟨v03,rfl,h14⟩:=yI h13;obtain ⟨p9,c9,rfl⟩:=h14.form;refine yA [] [(5,vI y4)]<|zE<|yC<|vQ [(0,vP r01 0),(2,vP b 0),(3,vI i),(4,vP b1 0),(5,vI y4)]<|qA (uI (Rp.sz zQ)) ?_;have h15:RL imm02 [] ([]:List zQ):=RepL.nil;obtain ⟨o01,ho01,hMl1⟩:=zC hM;refine zBs y1 y4 ([]:List zQ) y5 o01 ho01 iR h7 h1 h2 h15 h14 (fun _ _ _ h=>hg _ _ _ h) (fun _ _ h=>ho _ _ h) ?_;intro imm09 Body1 x5 p12 c12 cs1 p13 c13 heq1 le9 h18 h19;subst o01;have h7:=h7.mono le9;have h1:=h1.mono le9;have h2:=h2.mono le9;have hle:=hle.trans le9;refine yD<|zE<|zF<|qW 0 rfl ?_;intro imm010 le10 hl02;have h38:=SL.of_frozen hl02 le10 h18;have h19:=h19.mono le10;have h7:=h7.mono le10;have h1:=h1.mono le10;have h2:=h2.mono le10;have hle:=hle.trans le10;obtain ⟨y13,hy6,hM⟩:=zC hMl1;obtain ⟨⟨y15,y16⟩,hy7,hM⟩:=zC hM;refine uA [.x (fun imm' v hx=>∃ p25 c25,v=vS p25 y13 c25∧hx=[]∧(S4 imm' p25 y13 c25)),.p (vA [vS p7 y1 c7,vS p12 Body1 c12]) [1],.q (.tuple ⟨[vI y15,.bool y16]⟩),.p (.tuple ⟨[vI y15,.bool y16]⟩) [],.p (vI y15) [],.p (.bool y16) [],.p (vI y15) []] [[],[],[(0,false),(1,false)],[(2,false)],[(3,false)],[(3,false)],[(4,false)]] [hB r01 (cRd x5 p13 c13),hB b1 [vS p7 y1 c7,vS p12 Body1 c12],hB b (cPart x p1 c1 p2 c2)] [] [(5,false),(6,false)] (zK [0,1,2] rfl (by decide)) ?_ ?_
   · refine Ox ?_<|Op<|Oq ?_<|Op<|Op<|Op<|Op<|On
     · intro imm1 hf le1;refine zN<|yH [] ?_;have hle:=iS imm1;refine yR (mM  _ hy6 ) ?_;rintro imm011 hs2 v2 k2 le11 - ⟨v013,rfl,rfl,h39⟩ -;have hle:=hle.trans le11;obtain ⟨p25,c25,rfl⟩:=h39.form;exact zZ (hx:=[]) rfl hle rfl (zM rfl) ⟨_,_,rfl,rfl,h39⟩
     intro imm1 hf le1;refine zG ?_;rintro _ _ ⟨p25,c25,rfl,rfl,h39⟩;refine zG ?_;rintro _ _ ⟨rfl,rfl⟩;refine zN<|yH [(57,vS p25 y13 c25),(58,vA [vS p7 y1 c7,vS p12 Body1 c12])] ?_;have hle:=iS imm1;have h7:=h7.mono le1;have h38:=h38.mono le1;refine yR (jM y13 (zP.mk y1 Body1) _ hy7 h39 h7 h38) ?_;rintro imm012 hs2 v2 k2 le12 - ⟨v014,v015,rfl,rfl,rfl,rfl⟩ -;have hle:=hle.trans le12;exact zZ (hx:=[]) rfl hle rfl (zM rfl) ⟨rfl,rfl⟩
   intro imm013 le13;refine zG ?_;rintro _ _ ⟨rfl,rfl⟩;refine zG ?_;rintro _ _ ⟨rfl,rfl⟩;refine zN<|yH [(0,vP r01 0),(2,vP b 0),(3,vI i),(4,vP b1 0),(10,vI y15),(61,.bool y16)] ?_;have h19:=h19.mono le13;have h7:=h7.mono le13;have h38:=h38.mono le13;have h1:=h1.mono le13;have h2:=h2.mono le13;have hle:=hle.trans le13;refine yA [] [(11,.bool y16)]<|zE<|zF ?_;obtain ⟨o02,ho02,hMc⟩:=zC hM;refine yU (fun imm' hs' m'=>∃ (t66:Bool),o02=t66∧imm013.le imm'∧hs'=[hB r01 (cRd x5 p13 c13),hB b1 [vS p7 y1 c7,vS p12 Body1 c12],hB b (cPart x p1 c1 p2 c2)]∧m'=[(0,vP r01 0),(2,vP b 0),(3,vI i),(4,vP b1 0),(66,.bool t66)]) ?_ ?_
   · have hle:=iS imm013;refine zB<|yK 2 [] [(63,.bool y16)] ?_;cases hc4:y16 with
     | true =>
      have hM0:=zW hc4 ho02
      try rw [hc4]
      exact yA [] [(66,.bool (decide (y15 ≤ 40)))]<|yT [(0,vP r01 0),(2,vP b 0),(3,vI i),(4,vP b1 0),(66,.bool (decide (y15 ≤ 40)))]<|yB ⟨_,(zD hM0).symm,hle,rfl,rfl⟩
     | false =>
      have hM01:=zU hc4 ho02
      try rw [hc4]
      exact yA [] [(66,.bool false)]<|yT [(0,vP r01 0),(2,vP b 0),(3,vI i),(4,vP b1 0),(66,.bool false)]<|yB ⟨_,(zD hM01).symm,hle,rfl,rfl⟩
   rintro imm014 hs2 m2 ⟨t66,heq2,le14,rfl,rfl⟩;subst o02;have h19:=h19.mono le14;have h7:=h7.mono le14;have h38:=h38.mono le14;have h1:=h1.mono le14;have h2:=h2.mono le14;have hle:=hle.trans le14;refine zE<|yO hMc ?_ ?_
   · intro hc5 hM;exact zF<|zB<|yK 1 [1] [(67,vA [vS p7 y1 c7,vS p12 Body1 c12])]<|xJ 2 [vS p7 y1 c7,vS p12 Body1 c12] [hB r01 (cRd x5 p13 c13),hB b1 [vS p7 y1 c7,vS p12 Body1 c12],hB b [vS p7 y1 c7,vS p12 Body1 c12]] rfl rfl rfl rfl<|yN rfl<|zE<|yJ<|yF<|zR<|zR<|hr _ _ _ _ (zD hM).symm hle ⟨_,_,(.cell 2 rfl rfl (by kernel_rfl) ResV.nil),(zK [0] rfl (by decide)),⟨_,_,rfl,rfl,⟨_,rfl,(sL ⟨_,_,rfl,h7,h38⟩)⟩,(yS ⟨_,rfl,h19⟩)⟩⟩
   intro hc5 hM;exact yE<|zY<|zE<|zB<|yA [] [(3,vI (W (i + 1)))]<|xD<|qA (zK [2,0] rfl (by decide))<|vQ [(0,vP r01 0),(2,vP b 0),(3,vI (W (i + 1)))]<|ih (W (i + 1)) x5 _ hM hle h1 h2 h19 hg ho hx hr
 intro hc hM;exact xA<|zS<|zS<|yT [(2,vP b 0)]<|hx _ _ _ _ _ _ _ _ _ (zD hM).symm hle h1 h2 h3
def mB (r0:zO):Option (zP×zO):=do
 match←rP (zP.mk ([]:List zI) ([]:List zQ)) 0 r0 with
 | .ret r0=>pure r0
 | .done (x2,x3) =>
  let (y18,y19)←oK (⟨[65,91,105,93,61,40,65,91,105,93,43,123,105,125,41]⟩:Str)
  let (y21,y22)←nQ ([4]:List Int)
  pure ((zP.mk y21 ([y18]:List zQ)),x3)
theorem zDp:∀ (r0:zO) r,mB r0=some r→∀ {imm:Imm}{r01:Nat}{p c},(S4 imm p r0.b c)→Ret Tryz.prog 88 [vP r01 0] imm [hB r01 (cRd r0 p c)] (fI r01 r):=by
 intro r0 r hM imm r01 p c h;unfold mB at hM;refine yG (fn:=Tryz.f88) (c:=(bodyOf Tryz.f88)) Tryz.func88 rfl rfl ?_;rintro B - -;refine zF<|zB<|uD zTwo ?_;intro b hb;refine yN rfl<|zE<|zF<|zF<|zB<|yA [] [(3,vI 0)]<|zE<|yC<|vQ [(0,vP r01 0),(2,vP b 0),(3,vI 0)] ?_;obtain ⟨o03,ho03,hMl2⟩:=zC hM;refine zBt (zP.mk ([]:List zI) ([]:List zQ)) 0 r0 o03 ho03 iR (SL.nil _) (SL.nil _) h (fun _ _ _ h=>h) (fun _ _ h=>h) ?_ ?_
 · intro imm015 x2 x3 p4 c4 p5 c5 p6 c6 heq3 le15 h4 h5 h6;subst o03;refine yD<|zE<|zF<|zB ?_;obtain ⟨⟨y18,y19⟩,hy8,hM⟩:=zC hMl2;refine yR (zBq (⟨[65,91,105,93,61,40,65,91,105,93,43,123,105,125,41]⟩:Str) _ hy8 ) ?_;rintro imm016 hs2 v2 k2 le16 - ⟨v016,v017,rfl,rfl,⟨cs6,rfl,h42⟩,rfl⟩ -;have h6:=h6.mono le16;obtain ⟨v018,v019,v020,v021,rfl,h44,h45,h46,h47⟩:=wA h42;obtain ⟨p26,c26,rfl⟩:=h44.form;obtain ⟨p27,c27,rfl⟩:=h45.form;obtain ⟨p28,c28,rfl⟩:=h46.form;obtain ⟨p29,c29,rfl⟩:=h47.form;refine yK 4 [] [(70,vA (cStmt y18 p26 c26 p27 c27 p28 c28 p29 c29)),(71,.bool y19)]<|uD [vT ([]),z0,vI 0,vI 0,z0,vI 0,vT ([]),z0,z0] ?_;intro b6 hb6;refine xJ 0 (cStmt y18 p26 c26 p27 c27 p28 c28 p29 c29) [hB b6 (cStmt y18 p26 c26 p27 c27 p28 c28 p29 c29),hB b (cPart x2 p4 c4 p5 c5),hB r01 (cRd x3 p6 c6)] rfl rfl rfl rfl<|yA [] []<|zE<|zF<|zB<|xQ [vI 4] Int ?_;intro b7 hb7;have h48:RL imm016 [vI 4] ([4]:List Int):=⟨[vI 4],_,rfl,rfl,rfl,rfl⟩;refine yL 0 rfl ?_;intro imm017 le17 hl03;have h49:=SL.of_frozen hl03 le17 h48;have h44:=h44.mono le17;have h45:=h45.mono le17;have h46:=h46.mono le17;have h47:=h47.mono le17;have h6:=h6.mono le17;obtain ⟨⟨y21,y22⟩,hy9,hM⟩:=zC hM;refine yR (zDI ([4]:List Int) _ hy9 h49) ?_;rintro imm018 hs2 v2 k2 le18 - ⟨v022,v023,rfl,rfl,h50,rfl⟩ -;have h44:=h44.mono le18;have h45:=h45.mono le18;have h46:=h46.mono le18;have h47:=h47.mono le18;have h6:=h6.mono le18;obtain ⟨p30,c30,rfl⟩:=h50.form;refine yA [] [(14,vS p30 y21 c30)]<|zE<|zF<|zB<|yK 2 [0] [(77,vS p30 y21 c30),(78,vA (cStmt y18 p26 c26 p27 c27 p28 c28 p29 c29))]<|xQ (cStmt y18 p26 c26 p27 c27 p28 c28 p29 c29) zQ ?_;intro b8 hb8;have h52:RL imm018 (cStmt y18 p26 c26 p27 c27 p28 c28 p29 c29) ([y18]:List zQ):=⟨(cStmt y18 p26 c26 p27 c27 p28 c28 p29 c29),_,rfl,rfl,(wL ⟨_,_,_,_,rfl,h44,h45,h46,h47⟩),rfl⟩;refine yK 4 [] [(80,vA [vS p30 y21 c30,vS (some ⟨b8,0,none⟩) ([y18]:List zQ) 1])]<|xJ 2 [vS p30 y21 c30,vS (some ⟨b8,0,none⟩) ([y18]:List zQ) 1] [hO zQ (vS (some ⟨b8,0,none⟩) ([y18]:List zQ) 1) (cStmt y18 p26 c26 p27 c27 p28 c28 p29 c29),hB b6 (cStmt y18 p26 c26 p27 c27 p28 c28 p29 c29),hB b [vS p30 y21 c30,vS (some ⟨b8,0,none⟩) ([y18]:List zQ) 1],hB r01 (cRd x3 p6 c6)] rfl rfl rfl rfl<|yN rfl<|zE<|yJ<|xI 0 rfl ?_;intro imm019 le19 hl04;have h53:=SL.of_frozen hl04 le19 h52;have h50:=h50.mono le19;have h6:=h6.mono le19;obtain rfl:=zD hM;exact yQ ⟨_,_,(.cell 1 rfl rfl (by kernel_rfl) ResV.nil),(zK [2] rfl (by decide)),⟨_,_,rfl,rfl,⟨_,rfl,(sL ⟨_,_,rfl,h50,h53⟩)⟩,(yS ⟨_,rfl,h6⟩)⟩⟩
 intro r0 imm9 hs9 m9 heq9 le9 hrs9;subst heq9;refine yF<|zR ?_;obtain rfl:=zD hMl2;exact yQ hrs9
def zCf (b0:Nat) (r:zV×zO):KT:=fun kk imm' hs' v=>
  ∃ v0 k0,hs'=[.blk b0 ⟨k0⟩]∧v=tupV [v0]∧(∃ cs,v0=.agg ⟨cs⟩∧Rp.rep imm' cs r.1)∧Rp.rep imm' k0 r.2
def rQ (i:Int) (Parts:List zP) (x:zO):Option ((List zP×zO)):=do
 if (decide (i > 0)) then
  let (y5,y6)←mB x
  let l←app 48 Parts ([y5]:List zP)
  rQ (W (i - 1)) l y6
 else
  pure (Parts,x)
 partial_fixpoint
theorem zBu :∀ (i:Int) (Parts:List zP) (x:zO) (o:(List zP×zO)),rQ i Parts x=some o→∀ {B}{imm0 imm:Imm}{Q}{y:(List zJ)}{r01:Nat}{b:Nat}{p1 c1}{b1:Nat}{p3 c3 cs p4 c4},imm0.le imm→(S4 imm p1 y c1)→(RL imm cs Parts)→(S4 imm p4 x.b c4)→(∀ gl a w,¬Q (.goto gl) a w)→(∀ a w,¬Q .outgrown a w)→(∀ (imm':Imm) (Parts1:List zP) (x1:zO) (p5:Option Addr) (c5:Nat) (cs1:List Value) (p6:Option Addr) (c6:Nat),o=(Parts1,x1)→imm0.le imm'→(RL imm' cs1 Parts1)→(S4 imm' p6 x1.b c6)→T 29 B Q (.exit 0) imm' [hO zP (vS p5 Parts1 c5) cs1,hB r01 (cRd x1 p6 c6),hB b1 [vS p1 y c1,vS p5 Parts1 c5],hB b zTwo] [(2,vP b 0),(3,vP b1 0)])→J Tryz.prog 29 B (nav (bodyOf Tryz.f50) [1,1,0,1,0]) Q imm [hO zP (vS p3 Parts c3) cs,hB r01 (cRd x p4 c4),hB b1 [vS p1 y c1,vS p3 Parts c3],hB b zTwo] [(0,vP r01 0),(2,vP b 0),(3,vP b1 0),(4,vI i)]:=by
 refine rQ.partial_correctness  _ ?_;intro self ih i Parts x o hM B imm0 imm Q y r01 b p1 c1 b1 p3 c3 cs p4 c4 hle h1 h8 h9 hg ho hx;refine xC hg ho<|zF<|zF<|zB<|yA [] [(11,.bool (decide (i > 0)))]<|zE<|yO hM ?_ ?_
 · intro hc hM;refine yE<|zE<|zF<|yC ?_;obtain ⟨⟨y5,y6⟩,hy2,hM⟩:=zC hM;obtain ⟨l,hy3,hM⟩:=zC hM;refine uA [.p (vP b1 1) [],.p (vS p3 Parts c3) [0],.p (vP r01 0) [],.x (fun imm' v hx=>∃ p7 c7 p8 c8 p9 c9,v=vA (cPart y5 p7 c7 p8 c8)∧hx=[hB r01 (cRd y6 p9 c9)]∧(S4 imm' p7 y5.Nest c7)∧(S4 imm' p8 y5.Body c8)∧(S4 imm' p9 y6.b c9)),.x (fun imm' v hx=>∃ b3,v=vS (some ⟨b3,0,none⟩) ([y5]:List zP) 1∧hx=[]∧(SL imm' (vS (some ⟨b3,0,none⟩) ([y5]:List zP) 1) ([y5]:List zP))),.x (fun imm' v hx=>∃ p10 c10 cs3,v=vS p10 l c10∧hx=[hO zP (vS p10 l c10) cs3]∧(RL imm' cs3 l))] [[],[(0,false)],[],[(2,false),(8,true)],[(3,false)],[(1,false),(4,false),(9,true)]] [hB b1 [vS p1 y c1,vS p3 Parts c3],hB b zTwo] [[hB r01 (cRd x p4 c4)],[hO zP (vS p3 Parts c3) cs]] [(3,true),(5,true)] (zK [2,3,1,0] rfl (by decide)) ?_ ?_
   · refine Op<|Op<|Op<|Ox ?_<|Ox ?_<|Ox ?_<|On
     · intro imm1 hf le1;refine zG ?_;rintro _ _ ⟨rfl,rfl⟩;refine zG ?_;rintro _ _ rfl;refine zN<|yH [(16,vP r01 0)] ?_;have hle:=iS imm1;have h9:=h9.mono le1;refine sD [hB r01 (cRd x p4 c4)] (hB b1 [vS p1 y c1,vS p3 Parts c3]::hB b zTwo::hf) (zDp x _ hy2 h9) ?_;rintro imm03 hs2 v2 k2 le3 - ⟨v03,kk1,rfl,rfl,⟨cs2,rfl,h12⟩,h13⟩ -;have hle:=hle.trans le3;obtain ⟨v04,v05,rfl,h14,h15⟩:=wS h12;obtain ⟨p7,c7,rfl⟩:=h14.form;obtain ⟨p8,c8,rfl⟩:=h15.form;obtain ⟨v06,rfl,h16⟩:=yI h13;obtain ⟨p9,c9,rfl⟩:=h16.form;exact zZ (hx:=[hB r01 (cRd y6 p9 c9)]) rfl hle rfl (zM rfl) ⟨_,_,_,_,_,_,rfl,rfl,h14,h15,h16⟩
     · intro imm1 hf le1;refine zG ?_;rintro _ _ ⟨p7,c7,p8,c8,p9,c9,rfl,rfl,h14,h15,h16⟩;refine zN<|yH [(17,vA (cPart y5 p7 c7 p8 c8))] ?_;have hle:=iS imm1;refine xQ (cPart y5 p7 c7 p8 c8) zP ?_;intro b3 hb3;have h17:RL imm1 (cPart y5 p7 c7 p8 c8) ([y5]:List zP):=⟨(cPart y5 p7 c7 p8 c8),_,rfl,rfl,(sL ⟨_,_,rfl,h14,h15⟩),rfl⟩;refine yL 0 rfl ?_;intro imm04 le4 hl01;have h18:=SL.of_frozen hl01 le4 h17;have hle:=hle.trans le4;exact zZ (hx:=[]) rfl hle rfl (zM rfl) ⟨_,rfl,rfl,h18⟩
     intro imm1 hf le1;refine zG ?_;rintro _ _ ⟨rfl,rfl⟩;refine zG ?_;rintro _ _ ⟨b3,rfl,rfl,h18⟩;refine zG ?_;rintro _ _ rfl;refine zN<|yH [(15,vS p3 Parts c3),(18,vS (some ⟨b3,0,none⟩) ([y5]:List zP) 1)] ?_;have hle:=iS imm1;have h8:=iM le1 h8;obtain ⟨ccs,k0,k01⟩:=h18;have h18:SL imm1 (vS (some ⟨b3,0,none⟩) ([y5]:List zP) 1) ([y5]:List zP):=⟨_,k0,k01⟩;refine qI 75 2 0 rfl rfl rfl h8 (.inl k0) k01 hy3 ?_;intro p10 c10 cs3 h19;exact uB (hs':=(hO zP (vS p10 l c10) cs3::hB b1 [vS p1 y c1,vS p3 Parts c3]::hB b zTwo::hf)) rfl<|zZ (hx:=[hO zP (vS p10 l c10) cs3]) rfl hle rfl (zM rfl) ⟨_,_,_,rfl,rfl,h19⟩
   intro imm05 le5;refine zG ?_;rintro _ _ ⟨p7,c7,p8,c8,p9,c9,rfl,rfl,h14,h15,h16⟩;refine zG ?_;rintro _ _ ⟨p10,c10,cs3,rfl,rfl,h19⟩;refine zN<|yH [(0,vP r01 0),(2,vP b 0),(3,vP b1 0),(4,vI i),(19,vS p10 l c10)] ?_;have h1:=h1.mono le5;have hle:=hle.trans le5;exact yK 7 [] [(20,vP b1 1)]<|xJ 2 [vS p1 y c1,vS p10 l c10] [hO zP (vS p10 l c10) cs3,hB r01 (cRd y6 p9 c9),hB b1 [vS p1 y c1,vS p10 l c10],hB b zTwo] rfl rfl rfl rfl<|yN rfl<|zY<|zE<|zB<|yA [] [(4,vI (W (i - 1)))]<|xD<|vQ [(0,vP r01 0),(2,vP b 0),(3,vP b1 0),(4,vI (W (i - 1)))]<|ih (W (i - 1)) l y6 _ hM hle h1 h19 h16 hg ho hx
 intro hc hM;exact xA<|zS<|zS<|yT [(2,vP b 0),(3,vP b1 0)]<|hx _ _ _ _ _ _ _ _ (zD hM).symm hle h8 h9
def kI (r0:zO):Option (zV×zO):=do
 let y←oA
 let (y2,y3)←yV r0 ([1,2,1,3]:List Int)
 let (Parts1,x1)←rQ y2 ([]:List zP) y3
 let y7←tK (zV.mk y Parts1)
 if y7 then
  pure ((zV.mk y Parts1),x1)
 else
  let y8←oA
  let l1←slc Parts1 0 1
  pure ((zV.mk y8 l1),x1)
theorem zHb:∀ (r0:zO) r,kI r0=some r→∀ {imm:Imm}{r01:Nat}{p c},(S4 imm p r0.b c)→Ret Tryz.prog 50 [vP r01 0] imm [hB r01 (cRd r0 p c)] (zCf r01 r):=by
 intro r0 r hM imm r01 p c h;unfold kI at hM;refine yG (fn:=Tryz.f50) (c:=(bodyOf Tryz.f50)) Tryz.func50 rfl rfl ?_;rintro B - -;have hle:=iS imm;refine zF<|zB<|uD zTwo ?_;intro b hb;refine yN rfl<|zE<|zF<|zB ?_;obtain ⟨y,hy,hM⟩:=zC hM;refine yR (mM  _ hy ) ?_;rintro imm0 hs2 v2 k2 le - ⟨v0,rfl,rfl,h1⟩ -;have h:=h.mono le;have hle:=hle.trans le;obtain ⟨p1,c1,rfl⟩:=h1.form;refine yK 2 [] [(6,vA [vS p1 y c1,z0])]<|uD zTwo ?_;intro b1 hb1;refine xJ 0 [vS p1 y c1,z0] [hB b1 [vS p1 y c1,z0],hB b zTwo,hB r01 (cRd r0 p c)] rfl rfl rfl rfl<|yN rfl<|zE<|zF<|zF<|zB<|yK 1 [] [(7,vP r01 0)]<|xQ [vI 1,vI 2,vI 1,vI 3] Int ?_;intro b2 hb2;have h2:RL imm0 [vI 1,vI 2,vI 1,vI 3] ([1,2,1,3]:List Int):=⟨[vI 1],_,rfl,rfl,rfl,⟨[vI 2],_,rfl,rfl,rfl,⟨[vI 1],_,rfl,rfl,rfl,⟨[vI 3],_,rfl,rfl,rfl,rfl⟩⟩⟩⟩;refine yL 0 rfl ?_;intro imm01 le1 hl0;have h3:=SL.of_frozen hl0 le1 h2;have h1:=h1.mono le1;have h:=h.mono le1;have hle:=hle.trans le1;refine rX (zK [2,0,1] (hs':=[hB r01 (cRd r0 p c),hB b1 [vS p1 y c1,z0],hB b zTwo]) rfl (by decide)) ?_;obtain ⟨⟨y2,y3⟩,hy1,hM⟩:=zC hM;refine sD [hB r01 (cRd r0 p c)] [hB b1 [vS p1 y c1,z0],hB b zTwo] (xF r0 ([1,2,1,3]:List Int) _ hy1 h h3) ?_;rintro imm02 hs2 v2 k2 le2 - ⟨v01,kk,rfl,rfl,rfl,h5⟩ -;have h1:=h1.mono le2;have hle:=hle.trans le2;obtain ⟨v02,rfl,h6⟩:=yI h5;obtain ⟨p2,c2,rfl⟩:=h6.form;refine yA [] [(4,vI y2)]<|zE<|yC<|vQ [(0,vP r01 0),(2,vP b 0),(3,vP b1 0),(4,vI y2)]<|qA (uI (Rp.sz zP)) ?_;have h7:RL imm02 [] ([]:List zP):=RepL.nil;obtain ⟨o0,ho0,hMl⟩:=zC hM;refine zBu y2 ([]:List zP) y3 o0 ho0 iR h1 h7 h6 (fun _ _ _ h=>h) (fun _ _ h=>h) ?_;intro imm06 Parts1 x1 p5 c5 cs1 p6 c6 heq le6 h10 h11;subst o0;have h1:=h1.mono le6;have hle:=hle.trans le6;refine yD<|zE<|zF<|zF<|zB<|yK 1 [2] [(21,vA [vS p1 y c1,vS p5 Parts1 c5])]<|yL 0 rfl ?_;intro imm07 le7 hl02;have h20:=SL.of_frozen hl02 le7 h10;have h1:=h1.mono le7;have h11:=h11.mono le7;have hle:=hle.trans le7;obtain ⟨y7,hy4,hM⟩:=zC hMl;refine yR (dT (zV.mk y Parts1) _ hy4 h1 h20) ?_;rintro imm08 hs2 v2 k2 le8 - ⟨v07,rfl,rfl,rfl⟩ -;have h11:=h11.mono le8;have h1:=h1.mono le8;have h20:=h20.mono le8;have hle:=hle.trans le8;refine yN rfl<|zE<|yO hM ?_ ?_
 · intro hc1 hM;refine zF<|zB<|yK 1 [1] [(23,vA [vS p1 y c1,vS p5 Parts1 c5])]<|xJ 2 [vS p1 y c1,vS p5 Parts1 c5] [hB r01 (cRd x1 p6 c6),hB b1 [vS p1 y c1,vS p5 Parts1 c5],hB b [vS p1 y c1,vS p5 Parts1 c5]] rfl rfl rfl rfl<|yN rfl<|zE<|yJ<|zR ?_;obtain rfl:=zD hM;exact yQ ⟨_,_,(.cell 2 rfl rfl (by kernel_rfl) ResV.nil),(zK [0] rfl (by decide)),⟨_,_,rfl,rfl,⟨_,rfl,(nH ⟨_,_,rfl,h1,h20⟩)⟩,(yS ⟨_,rfl,h11⟩)⟩⟩
 intro hc1 hM;refine yE<|zE<|zF ?_;obtain ⟨y8,hy5,hM⟩:=zC hM;obtain ⟨l1,hy6,hM⟩:=zC hM;refine uA [.x (fun imm' v hx=>∃ p11 c11,v=vS p11 y8 c11∧hx=[]∧(S4 imm' p11 y8 c11)),.p (vP b1 1) [],.p (vS p5 Parts1 c5) [1],.x (fun imm' v hx=>∃ p12 c12,v=vS p12 l1 c12∧hx=[]∧(S4 imm' p12 l1 c12)),.x (fun imm' v hx=>∃ p111 c111 p121 c121,v=vA [vS p111 y8 c111,vS p121 l1 c121]∧hx=[]∧(S4 imm' p111 y8 c111)∧(S4 imm' p121 l1 c121))] [[],[],[(1,false)],[(2,false)],[(0,false),(3,false)]] [hB r01 (cRd x1 p6 c6),hB b1 [vS p1 y c1,vS p5 Parts1 c5],hB b zTwo] [] [(4,false)] (zK [0,1,2] rfl (by decide)) ?_ ?_
 · refine Ox ?_<|Op<|Op<|Ox ?_<|Ox ?_<|On
   · intro imm1 hf le1;refine zN<|yH [] ?_;have hle:=iS imm1;refine yR (mM  _ hy5 ) ?_;rintro imm09 hs2 v2 k2 le9 - ⟨v08,rfl,rfl,h22⟩ -;have hle:=hle.trans le9;obtain ⟨p11,c11,rfl⟩:=h22.form;exact zZ (hx:=[]) rfl hle rfl (zM rfl) ⟨_,_,rfl,rfl,h22⟩
   · intro imm1 hf le1;refine zG ?_;rintro _ _ ⟨rfl,rfl⟩;refine zN<|yH [(26,vS p5 Parts1 c5)] ?_;have hle:=iS imm1;have h20:=h20.mono le1;refine zJS rfl h20 hy6 ?_;intro v09 h23;obtain ⟨p12,c12,rfl⟩:=h23.form;exact zZ (hx:=[]) rfl hle rfl (zM rfl) ⟨_,_,rfl,rfl,h23⟩
   intro imm1 hf le1;refine zG ?_;rintro _ _ ⟨p11,c11,rfl,rfl,h22⟩;refine zG ?_;rintro _ _ ⟨p12,c12,rfl,rfl,h23⟩;refine zN<|yH [(24,vS p11 y8 c11),(27,vS p12 l1 c12)] ?_;have hle:=iS imm1;exact qV 5 [(28,vA [vS p11 y8 c11,vS p12 l1 c12])]<|zZ (hx:=[]) rfl hle rfl (zM rfl) ⟨_,_,_,_,rfl,rfl,h22,h23⟩
 intro imm010 le10;refine zG ?_;rintro _ _ ⟨p111,c111,p121,c121,rfl,rfl,h221,h231⟩;refine zN<|yH [(2,vP b 0),(28,vA [vS p111 y8 c111,vS p121 l1 c121])] ?_;have h11:=h11.mono le10;refine xJ 2 [vS p111 y8 c111,vS p121 l1 c121] [hB r01 (cRd x1 p6 c6),hB b1 [vS p1 y c1,vS p5 Parts1 c5],hB b [vS p111 y8 c111,vS p121 l1 c121]] rfl rfl rfl rfl<|yN rfl<|zE<|yJ ?_;obtain rfl:=zD hM;exact yQ ⟨_,_,(.cell 2 rfl rfl (by kernel_rfl) ResV.nil),(zK [0] rfl (by decide)),⟨_,_,rfl,rfl,⟨_,rfl,(nH ⟨_,_,rfl,h221,h231⟩)⟩,(yS ⟨_,rfl,h11⟩)⟩⟩
def zCg (r:Bool):KT:=fun kk imm' hs' v=>
  ∃ v0,hs'=[]∧v=tupV [v0]∧v0=.bool r
def xV (n0:Int) (low:Int) (high:Int):Option (Bool):=do
 let t6←(do
   if (decide (low ≤ n0)) then
    pure (decide (n0 ≤ high))
   else
    pure false
     : Option Bool)
 pure (id t6)
theorem wN:∀ (n0:Int) (low:Int) (high:Int) r,xV n0 low high=some r→∀ {imm:Imm} ,Ret Tryz.prog 52 [vI n0,vI low,vI high] imm [] (zCg  r):=by
 intro n0 low high r hM imm;unfold xV at hM;refine yG (fn:=Tryz.f52) (c:=(bodyOf Tryz.f52)) Tryz.func52 rfl rfl ?_;rintro B - -;have hle:=iS imm;refine zF<|zB<|yA [] []<|zE<|zF ?_;obtain ⟨o0,ho0,hMc⟩:=zC hM;refine yU (fun imm' hs' m'=>∃ (t6:Bool),o0=t6∧imm.le imm'∧hs'=[]∧m'=[(6,.bool t6)]) ?_ ?_
 · have hle:=iS imm;refine zB<|yK 4 [] [(10,.bool (decide (low ≤ n0)))] ?_;cases hc:(decide (low ≤ n0)) with
   | true =>
    have hM0:=zW hc ho0
    try rw [hc]
    exact yA [] [(6,.bool (decide (n0 ≤ high)))]<|yT [(6,.bool (decide (n0 ≤ high)))]<|yB ⟨_,(zD hM0).symm,hle,rfl,rfl⟩
   | false =>
    have hM01:=zU hc ho0
    try rw [hc]
    exact yA [] [(6,.bool false)]<|yT [(6,.bool false)]<|yB ⟨_,(zD hM01).symm,hle,rfl,rfl⟩
 rintro imm0 hs2 m2 ⟨t6,heq,le,rfl,rfl⟩;subst o0;refine zE<|yJ ?_;obtain rfl:=zD hMc;exact yQ ⟨_,_,(.tmp rfl ResV.nil),zX,⟨_,rfl,rfl,rfl⟩⟩
def eY (r:Bool):KT:=fun kk imm' hs' v=>
  ∃ v0,hs'=[]∧v=tupV [v0]∧v0=.bool r
def oW (s:Str) (substr:Str):Option Bool:=match substr.l with | [c]=>some (decide (0 ≤ Lib.indexByte s.l c)) | _=>none
theorem zA5:∀ (s substr:Str) r,oW s substr=some r→∀ {imm:Imm},Ret Tryz.prog 122 [vT s.l,vT substr.l] imm [] (eY r):=by
 intro s substr r hM imm;unfold oW at hM;split at hM
 · rename_i c hc;cases hM
   rw [hc];exact zGr (fun w g=>(Tryz.strings_Contains_one ⟨⟨s.l⟩⟩ c w).mono fun e w' ⟨h1,h2⟩=>⟨h1,h2 ▸ RowKit.Below.refl _ _⟩) fun k=>⟨_,rfl,rfl,rfl⟩
 cases hM
def zBv (r:Bool):KT:=fun kk imm' hs' v=>
  ∃ v0,hs'=[]∧v=tupV [v0]∧v0=.bool r
def oL (s:Str):Option (Bool):=do
 let t2←(do
   if ((s.l.length:Int) == 1) then
    let y←oW (⟨[65,66,67,68]⟩:Str) s
    pure (id y)
   else
    pure false
     : Option Bool)
 pure (id t2)
theorem qF:∀ (s:Str) r,oL s=some r→∀ {imm:Imm} ,Ret Tryz.prog 93 [vT s.l] imm [] (zBv  r):=by
 intro s r hM imm;unfold oL at hM;refine yG (fn:=Tryz.f93) (c:=(bodyOf Tryz.f93)) Tryz.func93 rfl rfl ?_;rintro B - -;have hle:=iS imm;refine zF<|zB<|yA [] []<|zE<|zF ?_;obtain ⟨o0,ho0,hMc⟩:=zC hM;refine yU (fun imm' hs' m'=>∃ (t2:Bool),o0=t2∧imm.le imm'∧hs'=[]∧m'=[(2,.bool t2)]) ?_ ?_
 · have hle:=iS imm;refine zB<|yK 4 [] [(6,.bool ((s.l.length:Int) == 1))] ?_;cases hc:((s.l.length:Int) == 1) with
   | true =>
    have hM0:=zW hc ho0
    try rw [hc]
    refine yK 5 [] [(7,vT s.l)] ?_;obtain ⟨y,hy,hM⟩:=zC hM0;refine yR (zA5 (⟨[65,66,67,68]⟩:Str) s _ hy ) ?_;rintro imm01 hs2 v2 k2 le - ⟨v0,rfl,rfl,rfl⟩ -;have hle:=hle.trans le;exact yA [] [(2,.bool y)]<|yT [(2,.bool y)]<|yB ⟨_,(zD hM).symm,hle,rfl,rfl⟩
   | false =>
    have hM01:=zU hc ho0
    try rw [hc]
    exact yA [] [(2,.bool false)]<|yT [(2,.bool false)]<|yB ⟨_,(zD hM01).symm,hle,rfl,rfl⟩
 rintro imm0 hs2 m2 ⟨t2,heq,le1,rfl,rfl⟩;subst o0;refine zE<|yJ ?_;obtain rfl:=zD hMc;exact yQ ⟨_,_,(.tmp rfl ResV.nil),zX,⟨_,rfl,rfl,rfl⟩⟩
def oT (hsF:List HA) (r:Int):KT:=fun kk imm' hs' v=>
  ∃ v0,hsF=hs'∧v=tupV [v0]∧v0=.int .i64 r
def xR (s:(List Int)) (f0:(Int→Option Bool)) (t8:Int):Option (Out Unit (Int)):=do
 if (decide (t8 < (s.length:Int))) then
  let x←idx s t8
  let y←f0 x
  if y then
   pure (.ret t8)
  else
   xR s f0 (W (t8 + 1))
 else
  pure (.done ())
 partial_fixpoint
theorem kD (s:(List Int)) (f0:(Int→Option Bool)):∀ (t8:Int) (o:Out Unit (Int)),xR s f0 t8=some o→∀ {B}{imm0 imm:Imm}{Q p c}{fv:Value}{hsF:List HA},imm0.le imm→(S4 imm p s c)→(FV1 Tryz.prog imm hsF fv f0)→(∀ gl a w,¬Q (.goto gl) a w)→(∀ a w,¬Q .outgrown a w)→(∀ (imm':Imm) ,o=(.done ())→imm0.le imm'→T 19 B Q (.exit 0) imm' hsF [])→(∀ r imm' hs' m',o=(.ret r)→imm0.le imm'→RS Tryz.prog Tryz.f123 B (oT hsF r) imm' hs' m'→T 19 B Q .ret imm' hs' m')→J Tryz.prog 19 B (nav (bodyOf Tryz.f123) [1,0,1,0]) Q imm hsF [(0,vS p s c),(1,fv),(7,vI (s.length:Int)),(8,vI t8)]:=by
 refine xR.partial_correctness s f0 _ ?_;intro self ih t8 o hM B imm0 imm Q p c fv hsF hle h h1 hg ho hx hr;refine xC hg ho<|zF<|zB<|yA [] [(9,.bool (decide (t8 < (s.length:Int))))]<|zE<|zF<|yO hM ?_ ?_
 · intro hc hM;refine yE<|zE<|zF<|yC<|zF<|zB<|yA [] [(5,vI t8)]<|zE<|zF<|zB<|yK 3 [] [(11,fv),(12,vS p s c),(13,vI t8)] ?_;obtain ⟨x,hy,hM⟩:=zC hM;refine wJ rfl rfl h hy ?_;intro ad ccs hat hrep;obtain rfl:=hrep;refine xS 0 hat [vI x] (vI x) rfl ?_;obtain ⟨y,hy1,hM⟩:=zC hM;refine zG5 rfl rfl h1 hy1 rfl (List.append_nil _).symm ?_;rintro imm0 v0 le rfl;refine uB (hs':=hsF) (List.append_nil _) ?_;have h:=h.mono le;have h1:=h1.mono le;have hle:=hle.trans le;refine yN rfl<|zE<|yO hM ?_ ?_
   · intro hc1 hM;exact zF<|zB<|yA [] [(4,vI t8)]<|zE<|yJ<|yF<|zR<|zR<|hr _ _ _ _ (zD hM).symm hle ⟨_,_,(.tmp rfl ResV.nil),(fun _ h=>h),⟨_,rfl,rfl,rfl⟩⟩
   intro hc1 hM;exact yE<|zY<|zE<|zB<|yA [] [(8,vI (W (t8 + 1)))]<|xD<|vQ [(0,vS p s c),(1,fv),(7,vI (s.length:Int)),(8,vI (W (t8 + 1)))]<|ih (W (t8 + 1)) _ hM hle h h1 hg ho hx hr
 intro hc hM;exact xA<|zS<|zS<|yT []<|hx _  (zD hM).symm hle
def sU (s:(List Int)) (f0:(Int→Option Bool)):Option (Int):=do
 match←xR s f0 0 with
 | .ret r0=>pure r0
 | .done _ =>
  pure (-1)
theorem jA:∀ (s:(List Int)) (f0:(Int→Option Bool)) r,sU s f0=some r→∀ {imm:Imm}{p c}{fv:Value}{hsF:List HA},(S4 imm p s c)→(FV1 Tryz.prog imm hsF fv f0)→Ret Tryz.prog 123 [vS p s c,fv] imm hsF (oT hsF r):=by
 intro s f0 r hM imm p c fv hsF h h1;unfold sU at hM;refine yG (fn:=Tryz.f123) (c:=(bodyOf Tryz.f123)) Tryz.func123 rfl rfl ?_;rintro B - -;refine zF<|zB<|yA [] []<|zE<|zF<|zF<|zB<|yA [] [(7,vI (s.length:Int)),(8,vI 0)]<|zE<|yC<|vQ [(0,vS p s c),(1,fv),(7,vI (s.length:Int)),(8,vI 0)] ?_;obtain ⟨o0,ho0,hMl⟩:=zC hM;refine kD s f0 0 o0 ho0 iR h h1 (fun _ _ _ h=>h) (fun _ _ h=>h) ?_ ?_
 · intro imm01  heq le1;subst o0;refine yD<|zE<|zF<|zB<|yA [] [(4,vI (-1))]<|zE<|yJ ?_;obtain rfl:=zD hMl;exact yQ ⟨_,_,(.tmp rfl ResV.nil),(fun _ h=>h),⟨_,rfl,rfl,rfl⟩⟩
 intro r0 imm9 hs9 m9 heq9 le9 hrs9;subst heq9;refine yF<|zR ?_;obtain rfl:=zD hMl;exact yQ hrs9
def mP (hsF:List HA) (r:Bool):KT:=fun kk imm' hs' v=>
  ∃ v0,hsF=hs'∧v=tupV [v0]∧v0=.bool r
def xG (s:(List Int)) (f0:(Int→Option Bool)):Option (Bool):=do
 let y←sU s f0
 pure (decide (y ≥ 0))
theorem tH:∀ (s:(List Int)) (f0:(Int→Option Bool)) r,xG s f0=some r→∀ {imm:Imm}{p c}{fv:Value}{hsF:List HA},(S4 imm p s c)→(FV1 Tryz.prog imm hsF fv f0)→Ret Tryz.prog 94 [vS p s c,fv] imm hsF (mP hsF r):=by
 intro s f0 r hM imm p c fv hsF h h1;unfold xG at hM;refine yG (fn:=Tryz.f94) (c:=(bodyOf Tryz.f94)) Tryz.func94 rfl rfl ?_;rintro B - -;refine zF<|zB<|yA [] []<|zE<|zF<|zB<|yK 2 [] [(5,vS p s c),(6,fv)] ?_;obtain ⟨y,hy,hM⟩:=zC hM;refine zCK (hs1:=hsF) (rest:=[]) rfl rfl rfl rfl (by kernel_rfl) rfl (List.append_nil _).symm (jA s f0 _ hy h h1) ?_;rintro imm0 hs2 v2 k2 le - ⟨v0,rfl,rfl,rfl⟩ -;refine uB (hs':=hsF) (List.append_nil _) ?_;refine yA [] [(4,.bool (decide (y ≥ 0)))]<|zE<|yJ ?_;obtain rfl:=zD hM;exact yQ ⟨_,_,(.tmp rfl ResV.nil),(fun _ h=>h),⟨_,rfl,rfl,rfl⟩⟩
def zAA (r:Bool):KT:=fun kk imm' hs' v=>
  ∃ v0,hs'=[]∧v=tupV [v0]∧v0=.bool r
def vY (n0:Int):Option (Bool):=do
 let y←xV n0 1 6
 pure (!y)
theorem jP:∀ (n0:Int) r,vY n0=some r→∀ {imm:Imm} ,Ret Tryz.prog 95 [vI n0] imm [] (zAA  r):=by
 intro n0 r hM imm;unfold vY at hM;refine yG (fn:=Tryz.f95) (c:=(bodyOf Tryz.f95)) Tryz.func95 rfl rfl ?_;rintro B - -;refine zF<|zB<|yA [] []<|zE<|zF<|zB<|yK 1 [] [(3,vI n0)] ?_;obtain ⟨y,hy,hM⟩:=zC hM;refine yR (wN n0 1 6 _ hy ) ?_;rintro imm0 hs2 v2 k2 le - ⟨v0,rfl,rfl,rfl⟩ -;refine yA [] [(2,.bool (!y))]<|zE<|yJ ?_;obtain rfl:=zD hM;exact yQ ⟨_,_,(.tmp rfl ResV.nil),zX,⟨_,rfl,rfl,rfl⟩⟩
end Go.LN
