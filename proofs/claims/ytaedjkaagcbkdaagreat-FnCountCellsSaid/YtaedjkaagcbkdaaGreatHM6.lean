/- Helper of the proof (see the last text). -/
import Derived.Test.YtaedjkaagcbkdaaGreatHM5
namespace Go.LN
set_option linter.unusedVariables false
set_option linter.unusedSimpArgs false
open Go.Proofs
set_option maxRecDepth 20000
def zAL (r:Int):Nat→Imm→List HA→Value→Prop:=fun kk imm' hs' v =>
  ∃ v0,hs'=[]∧v=tupV [v0]∧v0=.int .i64 r
def qD (p:zV):Option (Int):=do
 let y←uK p
 if (!y) then
  pure (id 0)
 else
  let y1←nR p
  pure (id y1)
theorem jV:∀ (p:zV) r,qD p=some r→∀ {imm:Imm}{p1 c p2 c1},(S4 imm p1 p.Arrays c)→(S4 imm p2 p.Parts c1)→Ret Tryz.prog 22 [vA (cProg p p1 c p2 c1)] imm [] (zAL  r):=by
 intro p r hM imm p1 c p2 c1 h h1
 unfold qD at hM
 refine yF (fn:=Tryz.f22) (c:=(bodyOf Tryz.f22)) Tryz.func22 rfl rfl ?_
 rintro B - -
 have hle:imm.le imm:=Imm.le.refl _
 refine zF<|zB<|tS (cProg p p1 c p2 c1) ?_
 intro b hb
 refine zY [] []<|zE<|zF<|zF<|zB<|yK 1 [0] [(3,vA (cProg p p1 c p2 c1))] ?_
 obtain ⟨y,hy,hM⟩:=zC hM
 refine yQ (kM p _ hy h h1) ?_
 rintro imm0 hs2 v2 k2 le - ⟨v0,rfl,rfl,rfl⟩ -
 have h:=h.mono le
 have h1:=h1.mono le
 have hle:=hle.trans le
 refine zY [] [(5,.bool (!y))]<|zE<|yO hM ?_ ?_
 · intro hc hM
   refine zF<|zB<|zY [] [(2,vI 0)]<|zE<|yI<|zQ ?_
   obtain rfl:=zD hM
   exact yP ⟨_,_,(.tmp rfl ResV.nil),zW,⟨_,rfl,rfl,rfl⟩⟩
 intro hc hM
 refine yD<|zE<|zF<|zB<|yK 1 [0] [(6,vA (cProg p p1 c p2 c1))] ?_
 obtain ⟨y1,hy1,hM⟩:=zC hM
 refine yQ (zDF p _ hy1 h h1) ?_
 rintro imm01 hs2 v2 k2 le1 - ⟨v01,rfl,rfl,rfl⟩ -
 have h:=h.mono le1
 have h1:=h1.mono le1
 have hle:=hle.trans le1
 refine zY [] [(2,vI y1)]<|zE<|yI ?_
 obtain rfl:=zD hM
 exact yP ⟨_,_,(.tmp rfl ResV.nil),zW,⟨_,rfl,rfl,rfl⟩⟩
def eM (r:Bool):Nat→Imm→List HA→Value→Prop:=fun kk imm' hs' v =>
  ∃ v0,hs'=[]∧v=tupV [v0]∧v0=.bool r
def qN (code:(List UInt8)) (more:(List UInt8)):Option (Bool):=do
 let t17←(do
   if (decide ((code.length:Int) > 1048576)) then
    pure true
   else
    pure (decide ((more.length:Int) > 1048576))
     : Option Bool)
 if t17 then
  pure true
 else
  let y←rC code
  let y1←qC y
  let t30←(do
    let y2←qD y
    if (y1 != y2) then
     pure true
    else
     let y3←tL y
     pure (!y3)
      : Option Bool)
  if t30 then
   let y4←qD y
   pure (y1 == y4)
  else
   let l←app 40 ([]:List zH) y.Arrays
   let l1←app 40 l ([(zH.mk (⟨[68]⟩:Str) ([(W (1 + ((code.length:Int).tmod 6))),(W (1 + ((more.length:Int).tmod 6)))]:List Int))]:List zH)
   let t4←(do
     let y5←tL (zV.mk l1 y.Parts)
     if (!y5) then
      pure true
     else
      let y6←qC (zV.mk l1 y.Parts)
      pure (y6 == (W (y1 + (W ((W (1 + ((code.length:Int).tmod 6))) * (W (1 + ((more.length:Int).tmod 6))))))))
       : Option Bool)
   pure (id t4)
theorem zAM:∀ (code:(List UInt8)) (more:(List UInt8)) r,qN code more=some r→∀ {imm:Imm}{p c p1 c1},(S4 imm p code c)→(S4 imm p1 more c1)→Ret Tryz.prog 4 [vS p code c,vS p1 more c1] imm [] (eM  r):=by
 intro code more r hM imm p c p1 c1 h h1
 unfold qN at hM
 refine yF (fn:=Tryz.f4) (c:=(bodyOf Tryz.f4)) Tryz.func4 rfl rfl ?_
 rintro B - -
 have hle:imm.le imm:=Imm.le.refl _
 refine zF<|zB<|zY [] []<|zE<|zF<|zF ?_
 obtain ⟨o0,ho0,hMc⟩:=zC hM
 refine yT (fun imm' hs' m'=>∃ (t17:Bool),o0=t17∧imm.le imm'∧hs'=[]∧m'=[(0,vS p code c),(1,vS p1 more c1),(17,.bool t17)]) ?_ ?_
 · have hle0:=hle
   have hle:imm.le imm:=Imm.le.refl _
   refine zB<|yK 4 [] [(13,.bool (decide ((code.length:Int) > 1048576)))] ?_
   cases hc:(decide ((code.length:Int) > 1048576)) with
   | true =>
    have hM0:=zU hc ho0
    try rw [hc]
    exact zY [] [(17,.bool true)]<|yU [(0,vS p code c),(1,vS p1 more c1),(17,.bool true)]<|yA ⟨_,(zD hM0).symm,hle,rfl,rfl⟩
   | false =>
    have hM01:=zS hc ho0
    try rw [hc]
    exact zY [] [(17,.bool (decide ((more.length:Int) > 1048576)))]<|yU [(0,vS p code c),(1,vS p1 more c1),(17,.bool (decide ((more.length:Int) > 1048576)))]<|yA ⟨_,(zD hM01).symm,hle,rfl,rfl⟩
 rintro imm0 hs2 m2 ⟨t17,heq,le,rfl,rfl⟩
 subst o0
 have h:=h.mono le
 have h1:=h1.mono le
 have hle:=hle.trans le
 refine zE<|yO hMc ?_ ?_
 · intro hc1 hM
   refine zF<|zB<|zY [] [(4,.bool true)]<|zE<|yI<|zQ ?_
   obtain rfl:=zD hM
   exact yP ⟨_,_,(.tmp rfl ResV.nil),zW,⟨_,rfl,rfl,rfl⟩⟩
 intro hc1 hM
 refine yD<|zE<|zF<|zB<|yK 1 [] [(18,vS p code c)] ?_
 obtain ⟨y,hy,hM⟩:=zC hM
 refine yQ (eK code _ hy h) ?_
 rintro imm01 hs2 v2 k2 le1 - ⟨v0,rfl,rfl,⟨cs,rfl,h2⟩⟩ -
 have h:=h.mono le1
 have h1:=h1.mono le1
 have hle:=hle.trans le1
 obtain ⟨v01,v02,rfl,h3,h4⟩:=nE h2
 obtain ⟨p2,c2,rfl⟩:=h3.form
 obtain ⟨p3,c3,rfl⟩:=h4.form
 refine vV zTwo ?_
 intro b hb
 refine xI 0 (cProg y p2 c2 p3 c3) [hB b (cProg y p2 c2 p3 c3)] rfl rfl rfl rfl<|yN rfl<|zE<|zF<|zB<|yK 1 [0] [(20,vA (cProg y p2 c2 p3 c3))] ?_
 obtain ⟨y1,hy1,hM⟩:=zC hM
 refine yQ (jU y _ hy1 h3 h4) ?_
 rintro imm02 hs2 v2 k2 le2 - ⟨v03,rfl,rfl,rfl⟩ -
 have h:=h.mono le2
 have h1:=h1.mono le2
 have h3:=h3.mono le2
 have h4:=h4.mono le2
 have hle:=hle.trans le2
 refine zY [] [(6,vI y1)]<|zE<|zF<|zF ?_
 obtain ⟨o01,ho01,hMc1⟩:=zC hM
 refine yT (fun imm' hs' m'=>∃ (t30:Bool),o01=t30∧imm02.le imm'∧hs'=[hB b (cProg y p2 c2 p3 c3)]∧m'=[(0,vS p code c),(1,vS p1 more c1),(5,vP b 0),(6,vI y1),(30,.bool t30)]) ?_ ?_
 · have hle01:=hle
   have hle:imm02.le imm02:=Imm.le.refl _
   refine zB<|yK 2 [0] [(22,vI y1),(23,vA (cProg y p2 c2 p3 c3))] ?_
   obtain ⟨y2,hy2,hM⟩:=zC ho01
   refine yQ (jV y _ hy2 h3 h4) ?_
   rintro imm04 hs2 v2 k2 le3 - ⟨v04,rfl,rfl,rfl⟩ -
   have h:=h.mono le3
   have h1:=h1.mono le3
   have h3:=h3.mono le3
   have h4:=h4.mono le3
   have hle:=hle.trans le3
   refine yK 5 [] [(26,.bool (y1 != y2))] ?_
   cases hc2:(y1 != y2) with
   | true =>
    have hM02:=zU hc2 hM
    try rw [hc2]
    exact zY [] [(30,.bool true)]<|yU [(0,vS p code c),(1,vS p1 more c1),(5,vP b 0),(6,vI y1),(30,.bool true)]<|yA ⟨_,(zD hM02).symm,hle,rfl,rfl⟩
   | false =>
    have hM03:=zS hc2 hM
    try rw [hc2]
    refine yK 6 [0] [(27,vA (cProg y p2 c2 p3 c3))] ?_
    obtain ⟨y3,hy3,hM⟩:=zC hM03
    refine yQ (nQ y _ hy3 h3 h4) ?_
    rintro imm05 hs2 v2 k2 le4 - ⟨v05,rfl,rfl,rfl⟩ -
    have h:=h.mono le4
    have h1:=h1.mono le4
    have h3:=h3.mono le4
    have h4:=h4.mono le4
    have hle:=hle.trans le4
    exact zY [] [(30,.bool (!y3))]<|yU [(0,vS p code c),(1,vS p1 more c1),(5,vP b 0),(6,vI y1),(30,.bool (!y3))]<|yA ⟨_,(zD hM).symm,hle,rfl,rfl⟩
 rintro imm03 hs2 m2 ⟨t30,heq1,le5,rfl,rfl⟩
 subst o01
 have h:=h.mono le5
 have h1:=h1.mono le5
 have h3:=h3.mono le5
 have h4:=h4.mono le5
 have hle:=hle.trans le5
 refine zE<|yO hMc1 ?_ ?_
 · intro hc3 hM
   refine zF<|zB<|yK 2 [0] [(31,vI y1),(32,vA (cProg y p2 c2 p3 c3))] ?_
   obtain ⟨y4,hy4,hM⟩:=zC hM
   refine yQ (jV y _ hy4 h3 h4) ?_
   rintro imm06 hs2 v2 k2 le6 - ⟨v06,rfl,rfl,rfl⟩ -
   have h3:=h3.mono le6
   have h4:=h4.mono le6
   have hle:=hle.trans le6
   refine zY [] [(4,.bool (y1 == y4))]<|zE<|yI<|zQ ?_
   obtain rfl:=zD hM
   exact yP ⟨_,_,(.tmp rfl ResV.nil),zW,⟨_,rfl,rfl,rfl⟩⟩
 intro hc3 hM
 refine yD<|zE<|zF<|zB<|zY [] [(7,vI (W (1 + ((code.length:Int).tmod 6))))]<|zE<|zF<|zB<|zY [] [(8,vI (W (1 + ((more.length:Int).tmod 6))))]<|zE<|zF ?_
 obtain ⟨l,hy5,hM⟩:=zC hM
 obtain ⟨l1,hy6,hM⟩:=zC hM
 refine uD [.x (fun imm' v hx=>∃ b1,v=vS (some ⟨b1,0,none⟩) ([]:List zH) 0∧hx=[hO zH (vS (some ⟨b1,0,none⟩) ([]:List zH) 0) []]∧(RL imm' [] ([]:List zH))),.p (vP b 0) [],.p (vS p2 y.Arrays c2) [0],.x (fun imm' v hx=>∃ p4 c4 cs1,v=vS p4 l c4∧hx=[hO zH (vS p4 l c4) cs1]∧(RL imm' cs1 l)),.p (vI (W (1 + ((code.length:Int).tmod 6)))) [],.p (vI (W (1 + ((more.length:Int).tmod 6)))) [],.x (fun imm' v hx=>∃ b2,v=vS (some ⟨b2,0,none⟩) ([(W (1 + ((code.length:Int).tmod 6))),(W (1 + ((more.length:Int).tmod 6)))]:List Int) 2∧hx=[]∧(SL imm' (vS (some ⟨b2,0,none⟩) ([(W (1 + ((code.length:Int).tmod 6))),(W (1 + ((more.length:Int).tmod 6)))]:List Int) 2) ([(W (1 + ((code.length:Int).tmod 6))),(W (1 + ((more.length:Int).tmod 6)))]:List Int))),.x (fun imm' v hx=>∃ b21,v=vA [vT ([68]),vS (some ⟨b21,0,none⟩) ([(W (1 + ((code.length:Int).tmod 6))),(W (1 + ((more.length:Int).tmod 6)))]:List Int) 2]∧hx=[]∧(SL imm' (vS (some ⟨b21,0,none⟩) ([(W (1 + ((code.length:Int).tmod 6))),(W (1 + ((more.length:Int).tmod 6)))]:List Int) 2) ([(W (1 + ((code.length:Int).tmod 6))),(W (1 + ((more.length:Int).tmod 6)))]:List Int))),.x (fun imm' v hx=>∃ b3,v=vS (some ⟨b3,0,none⟩) ([(zH.mk (⟨[68]⟩:Str) ([(W (1 + ((code.length:Int).tmod 6))),(W (1 + ((more.length:Int).tmod 6)))]:List Int))]:List zH) 1∧hx=[]∧(SL imm' (vS (some ⟨b3,0,none⟩) ([(zH.mk (⟨[68]⟩:Str) ([(W (1 + ((code.length:Int).tmod 6))),(W (1 + ((more.length:Int).tmod 6)))]:List Int))]:List zH) 1) ([(zH.mk (⟨[68]⟩:Str) ([(W (1 + ((code.length:Int).tmod 6))),(W (1 + ((more.length:Int).tmod 6)))]:List Int))]:List zH))),.x (fun imm' v hx=>∃ p5 c5 cs2,v=vS p5 l1 c5∧hx=[hO zH (vS p5 l1 c5) cs2]∧(RL imm' cs2 l1)),.p (vP b 1) [],.p (vS p3 y.Parts c3) [0],.x (fun imm' v hx=>∃ p51 c51 cs21,v=vA [vS p51 l1 c51,vS p3 y.Parts c3]∧hx=[hO zH (vS p51 l1 c51) cs21]∧(RL imm' cs21 l1)),.x (fun imm' v hx=>∃ b4,v=vP b4 0∧hx=[hB b4 zTwo])] [[],[],[(1,false)],[(0,true),(2,false)],[],[],[(4,false),(5,false)],[(6,false)],[(7,false)],[(3,true),(8,false)],[],[(10,false)],[(9,true),(11,false)],[]] [hB b (cProg y p2 c2 p3 c3)] [] [(12,true),(13,true)] (zK [0] rfl (by decide)) ?_ ?_
 · refine Ox ?_<|Op<|Op<|Ox ?_<|Op<|Op<|Ox ?_<|Ox ?_<|Ox ?_<|Ox ?_<|Op<|Op<|Ox ?_<|Ox ?_<|On
   · intro imm1 hf le1
     refine zN<|yG [] ?_
     have hle:=Imm.le.refl imm1
     refine xV [] zH ?_
     intro b1 hb1
     have h9:RL imm1 [] ([]:List zH):=rfl
     exact zZ (hx:=[hO zH (vS (some ⟨b1,0,none⟩) ([]:List zH) 0) []]) rfl hle rfl (zM rfl) ⟨_,rfl,rfl,h9⟩
   · intro imm1 hf le1
     refine zG ?_
     rintro _ _ ⟨b1,rfl,rfl,h9⟩
     refine zG ?_
     rintro _ _ ⟨rfl,rfl⟩
     refine zN<|yG [(43,vS (some ⟨b1,0,none⟩) ([]:List zH) 0),(45,vS p2 y.Arrays c2)] ?_
     have hle:=Imm.le.refl imm1
     have h3:=h3.mono le1
     obtain ⟨ccs,k0,k01⟩:=h3
     have h3:SL imm1 (vS p2 y.Arrays c2) y.Arrays:=⟨_,k0,k01⟩
     refine pC 42 2 0 rfl rfl rfl h9 (.inl k0) k01 hy5 ?_
     intro p4 c4 cs1 h10
     exact vW (hs':=(hO zH (vS p4 l c4) cs1::hB b (cProg y p2 c2 p3 c3)::hf)) rfl<|zZ (hx:=[hO zH (vS p4 l c4) cs1]) rfl hle rfl (zM rfl) ⟨_,_,_,rfl,rfl,h10⟩
   · intro imm1 hf le1
     refine zG ?_
     rintro _ _ ⟨rfl,rfl⟩
     refine zG ?_
     rintro _ _ ⟨rfl,rfl⟩
     refine zN<|yG [(47,vI (W (1 + ((code.length:Int).tmod 6)))),(48,vI (W (1 + ((more.length:Int).tmod 6))))] ?_
     have hle:=Imm.le.refl imm1
     have h3:=h3.mono le1
     have h4:=h4.mono le1
     refine xV [vI (W (1 + ((code.length:Int).tmod 6))),vI (W (1 + ((more.length:Int).tmod 6)))] Int ?_
     intro b2 hb2
     have h11:RL imm1 [vI (W (1 + ((code.length:Int).tmod 6))),vI (W (1 + ((more.length:Int).tmod 6)))] ([(W (1 + ((code.length:Int).tmod 6))),(W (1 + ((more.length:Int).tmod 6)))]:List Int):=⟨[vI (W (1 + ((code.length:Int).tmod 6)))],_,rfl,rfl,rfl,⟨[vI (W (1 + ((more.length:Int).tmod 6)))],_,rfl,rfl,rfl,rfl⟩⟩
     refine yL 0 rfl ?_
     intro imm07 le7 hl0
     have h12:=SL.of_frozen hl0 le7 h11
     have h3:=h3.mono le7
     have h4:=h4.mono le7
     have hle:=hle.trans le7
     exact zZ (hx:=[]) rfl hle rfl (zM rfl) ⟨_,rfl,rfl,h12⟩
   · intro imm1 hf le1
     refine zG ?_
     rintro _ _ ⟨b2,rfl,rfl,h12⟩
     refine zN<|yG [(49,vS (some ⟨b2,0,none⟩) ([(W (1 + ((code.length:Int).tmod 6))),(W (1 + ((more.length:Int).tmod 6)))]:List Int) 2)] ?_
     have hle:=Imm.le.refl imm1
     exact qX 8 [(50,vA [vT ([68]),vS (some ⟨b2,0,none⟩) ([(W (1 + ((code.length:Int).tmod 6))),(W (1 + ((more.length:Int).tmod 6)))]:List Int) 2])]<|zZ (hx:=[]) rfl hle rfl (zM rfl) ⟨_,rfl,rfl,h12⟩
   · intro imm1 hf le1
     refine zG ?_
     rintro _ _ ⟨b21,rfl,rfl,h121⟩
     refine zN<|yG [(50,vA [vT ([68]),vS (some ⟨b21,0,none⟩) ([(W (1 + ((code.length:Int).tmod 6))),(W (1 + ((more.length:Int).tmod 6)))]:List Int) 2])] ?_
     have hle:=Imm.le.refl imm1
     have h3:=h3.mono le1
     have h4:=h4.mono le1
     refine xV [vT ([68]),vS (some ⟨b21,0,none⟩) ([(W (1 + ((code.length:Int).tmod 6))),(W (1 + ((more.length:Int).tmod 6)))]:List Int) 2] zH ?_
     intro b3 hb3
     have h13:RL imm1 [vT ([68]),vS (some ⟨b21,0,none⟩) ([(W (1 + ((code.length:Int).tmod 6))),(W (1 + ((more.length:Int).tmod 6)))]:List Int) 2] ([(zH.mk (⟨[68]⟩:Str) ([(W (1 + ((code.length:Int).tmod 6))),(W (1 + ((more.length:Int).tmod 6)))]:List Int))]:List zH):=⟨[vT ([68]),vS (some ⟨b21,0,none⟩) ([(W (1 + ((code.length:Int).tmod 6))),(W (1 + ((more.length:Int).tmod 6)))]:List Int) 2],_,rfl,rfl,(qE ⟨_,rfl,h121⟩),rfl⟩
     refine yL 0 rfl ?_
     intro imm08 le8 hl01
     have h14:=SL.of_frozen hl01 le8 h13
     have h121:=h121.mono le8
     have h3:=h3.mono le8
     have h4:=h4.mono le8
     have hle:=hle.trans le8
     exact zZ (hx:=[]) rfl hle rfl (zM rfl) ⟨_,rfl,rfl,h14⟩
   · intro imm1 hf le1
     refine zG ?_
     rintro _ _ ⟨p4,c4,cs1,rfl,rfl,h10⟩
     refine zG ?_
     rintro _ _ ⟨b3,rfl,rfl,h14⟩
     refine zN<|yG [(46,vS p4 l c4),(51,vS (some ⟨b3,0,none⟩) ([(zH.mk (⟨[68]⟩:Str) ([(W (1 + ((code.length:Int).tmod 6))),(W (1 + ((more.length:Int).tmod 6)))]:List Int))]:List zH) 1)] ?_
     have hle:=Imm.le.refl imm1
     obtain ⟨ccs1,k02,k03⟩:=h14
     have h14:SL imm1 (vS (some ⟨b3,0,none⟩) ([(zH.mk (⟨[68]⟩:Str) ([(W (1 + ((code.length:Int).tmod 6))),(W (1 + ((more.length:Int).tmod 6)))]:List Int))]:List zH) 1) ([(zH.mk (⟨[68]⟩:Str) ([(W (1 + ((code.length:Int).tmod 6))),(W (1 + ((more.length:Int).tmod 6)))]:List Int))]:List zH):=⟨_,k02,k03⟩
     refine pC 42 2 0 rfl rfl rfl h10 (.inl k02) k03 hy6 ?_
     intro p5 c5 cs2 h15
     exact vW (hs':=(hO zH (vS p5 l1 c5) cs2::hB b (cProg y p2 c2 p3 c3)::hf)) rfl<|zZ (hx:=[hO zH (vS p5 l1 c5) cs2]) rfl hle rfl (zM rfl) ⟨_,_,_,rfl,rfl,h15⟩
   · intro imm1 hf le1
     refine zG ?_
     rintro _ _ ⟨p5,c5,cs2,rfl,rfl,h15⟩
     refine zG ?_
     rintro _ _ ⟨rfl,rfl⟩
     refine zN<|yG [(52,vS p5 l1 c5),(54,vS p3 y.Parts c3)] ?_
     have hle:=Imm.le.refl imm1
     have h4:=h4.mono le1
     exact qX 13 [(55,vA [vS p5 l1 c5,vS p3 y.Parts c3])]<|zZ (hx:=[hO zH (vS p5 l1 c5) cs2]) rfl hle rfl (zM rfl) ⟨_,_,_,rfl,rfl,h15⟩
   intro imm1 hf le1
   refine zN<|yG [] ?_
   have hle:=Imm.le.refl imm1
   refine vV zTwo ?_
   intro b4 hb4
   exact zZ (hx:=[hB b4 zTwo]) rfl hle rfl (zM rfl) ⟨_,rfl,rfl⟩
 intro imm09 le9
 refine zG ?_
 rintro _ _ ⟨p51,c51,cs21,rfl,rfl,h151⟩
 refine zG ?_
 rintro _ _ ⟨b4,rfl,rfl⟩
 refine zN<|yG [(6,vI y1),(7,vI (W (1 + ((code.length:Int).tmod 6)))),(8,vI (W (1 + ((more.length:Int).tmod 6)))),(9,vP b4 0),(55,vA [vS p51 l1 c51,vS p3 y.Parts c3])] ?_
 have h4:=h4.mono le9
 have h3:=h3.mono le9
 have hle:=hle.trans le9
 refine xI 0 [vS p51 l1 c51,vS p3 y.Parts c3] [hB b4 [vS p51 l1 c51,vS p3 y.Parts c3],hO zH (vS p51 l1 c51) cs21,hB b (cProg y p2 c2 p3 c3)] rfl rfl rfl rfl<|yN rfl<|zE<|zF ?_
 obtain ⟨o02,ho02,hMc2⟩:=zC hM
 refine yT (fun imm' hs' m'=>∃ (t4:Bool),o02=t4∧imm09.le imm'∧hs'=[]∧m'=[(4,.bool t4)]) ?_ ?_
 · have hle02:=hle
   have hle:imm09.le imm09:=Imm.le.refl _
   refine zB<|yK 1 [0] [(56,vA [vS p51 l1 c51,vS p3 y.Parts c3])]<|yL 1 rfl ?_
   intro imm011 le10 hl02
   have h16:=SL.of_frozen hl02 le10 h151
   have h4:=h4.mono le10
   have h3:=h3.mono le10
   have hle:=hle.trans le10
   obtain ⟨y5,hy7,hM⟩:=zC ho02
   refine yQ (nQ (zV.mk l1 y.Parts) _ hy7 h16 h4) ?_
   rintro imm012 hs2 v2 k2 le11 - ⟨v07,rfl,rfl,rfl⟩ -
   have h16:=h16.mono le11
   have h4:=h4.mono le11
   have h3:=h3.mono le11
   have hle:=hle.trans le11
   refine yK 4 [] [(59,.bool (!y5))] ?_
   cases hc4:(!y5) with
   | true =>
    have hM04:=zU hc4 hM
    try rw [hc4]
    exact zY [] [(4,.bool true)]<|xZ (zK [] rfl (by decide))<|yU [(4,.bool true)]<|yA ⟨_,(zD hM04).symm,hle,rfl,rfl⟩
   | false =>
    have hM05:=zS hc4 hM
    try rw [hc4]
    refine yK 5 [0] [(60,vA [vS p51 l1 c51,vS p3 y.Parts c3])] ?_
    obtain ⟨y6,hy8,hM⟩:=zC hM05
    refine yQ (jU (zV.mk l1 y.Parts) _ hy8 h16 h4) ?_
    rintro imm013 hs2 v2 k2 le12 - ⟨v08,rfl,rfl,rfl⟩ -
    have h16:=h16.mono le12
    have h4:=h4.mono le12
    have h3:=h3.mono le12
    have hle:=hle.trans le12
    exact zY [] [(4,.bool (y6 == (W (y1 + (W ((W (1 + ((code.length:Int).tmod 6))) * (W (1 + ((more.length:Int).tmod 6)))))))))]<|xZ (zK [] rfl (by decide))<|yU [(4,.bool (y6 == (W (y1 + (W ((W (1 + ((code.length:Int).tmod 6))) * (W (1 + ((more.length:Int).tmod 6)))))))))]<|yA ⟨_,(zD hM).symm,hle,rfl,rfl⟩
 rintro imm010 hs2 m2 ⟨t4,heq2,le13,rfl,rfl⟩
 subst o02
 have hle:=hle.trans le13
 refine zE<|yI ?_
 obtain rfl:=zD hMc2
 exact yP ⟨_,_,(.tmp rfl ResV.nil),zW,⟨_,rfl,rfl,rfl⟩⟩
end Go.LN
