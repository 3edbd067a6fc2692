/- Helper of the proof (see the last text). -/
import Derived.Test.YtknadcjnkbdpdaaGreatHM6
set_option linter.unusedVariables false
set_option linter.unusedSimpArgs false
namespace Go.LN
open Go.Proofs
set_option maxRecDepth 20000
def zDk (r:zH):KT:=fun kk I' hs' v=>
  ∃ (a0:Option Addr) (c0:Nat) (s0:List Value) (a1:Option Addr) (c1:Nat) (s1:List Value) (raws:List Raw2) (vN vB:Value) (nl:List zE) (bl:List zJ) (csN csB:List Value),
    hs'=[hO zD (vS a0 r.Arrays c0) s0,hO Raw2 (vS a1 raws c1) s1,hO zE vN csN,hO zJ vB csB]∧v=tupV [vA [vS a0 r.Arrays c0,vS a1 raws c1]]∧L4 I' s0 r.Arrays s1 raws r.Parts vN nl vB bl csN csB
def jI (p:zH) (line:Str):Option (zH):=do
 let y←nE line
 let t17←(do
   if (decide ((y.length:Int) > 0)) then
    let x←idx y 0
    pure (x.l == ([97,114,114,97,121]:List UInt8))
   else
    pure false
     : Option Bool)
 if t17 then
  let y1←kW y
  let l←app 40 p.Arrays ([y1]:List zD)
  pure (zH.mk l p.Parts)
 else
  if (line.l == ([112,97,114,116]:List UInt8)) then
   let l1←app 48 p.Parts ([(zK.mk ([]:List zE) ([]:List zJ))]:List zK)
   pure (zH.mk p.Arrays l1)
  else
   let t43←(do
     if (decide ((W ((p.Parts.length:Int) - 1)) ≥ 0)) then
      if (decide ((y.length:Int) > 0)) then
       let x1←idx y 0
       pure (x1.l == ([102,111,114]:List UInt8))
      else
       pure false
     else
      pure false
       : Option Bool)
   if t43 then
    let x2←idx p.Parts (W ((p.Parts.length:Int) - 1))
    let y2←jH line
    let l2←app 48 x2.Nest ([y2]:List zE)
    pure (zH.mk p.Arrays (p.Parts.set (W ((p.Parts.length:Int) - 1)).toNat (zK.mk l2 x2.Body)))
   else
    if (decide ((W ((p.Parts.length:Int) - 1)) ≥ 0)) then
     let x4←idx p.Parts (W ((p.Parts.length:Int) - 1))
     let (y4,y5)←oT line
     let l3←app 152 x4.Body ([y4]:List zJ)
     pure (zH.mk p.Arrays (p.Parts.set (W ((p.Parts.length:Int) - 1)).toNat (zK.mk x4.Nest l3)))
    else
     pure (id p)
theorem zFD:∀ p line r,jI p line=some r→∀ {I:Imm}{p1 c cs p2 c1 cs1}{raws:List Raw2}{vN vB:Value}{nl:List zE}{bl:List zJ}{csN csB:List Value},
    L4 I cs p.Arrays cs1 raws p.Parts vN nl vB bl csN csB→RT 157 [vA [vS p1 p.Arrays c,vS p2 raws c1],vT line.l] I [hO zD (vS p1 p.Arrays c) cs,hO Raw2 (vS p2 raws c1) cs1,hO zE vN csN,hO zJ vB csB] (zDk r):=by
 intro p line r N I p1 c cs p2 c1 cs1 raws vN vB nl bl csN csB hQ
 unfold jI at N
 simp only [hQ.lp.len] at N
 refine zKO Tryz.func157 fun B=>yK<|tO [vS p1 p.Arrays c,vS p2 raws c1] ?_
 intro b hb
 refine wU zTwo ?_
 intro b1 hb1
 refine yH rfl<|xD<|yC 1 [] [(11,vT line.l)] ?_
 obtain ⟨y,hy,N⟩:=zB N
 refine xS (zAL line _ hy ) ?_
 rintro I0 hs2 v2 k2 le - ⟨v0,rfl,rfl,h2⟩ -
 have hQ:=hQ.mono le
 obtain ⟨p3,c2,rfl⟩:=h2.form
 refine yB [] [(5,vS p3 y c2)]<|xD<|yB [1] [(6,vI (W ((raws.length:Int) - 1)))]<|yG<|yM<|yI ?_
 obtain ⟨o0,ho0,N⟩:=zB N
 refine yU (fun I' hs' m'=>∃ (t17:Bool),o0=t17∧I0.le I'∧hs'=[hB b1 zTwo,hB b [vS p1 p.Arrays c,vS p2 raws c1],hO zD (vS p1 p.Arrays c) cs,hO Raw2 (vS p2 raws c1) cs1,hO zE vN csN,hO zJ vB csB]∧m'=[(1,vT line.l),(2,vP b 0),(4,vP b1 0),(5,vS p3 y c2),(6,vI (W ((raws.length:Int) - 1))),(17,.bool t17)]) ?_ ?_
 · refine zP<|yC 4 [] [(21,.bool (decide ((y.length:Int) > 0)))] ?_
   cases hc:(decide ((y.length:Int) > 0)) with
   | true =>
    have hM0:=zS hc ho0
    refine yC 5 [] [(22,vS p3 y c2)] ?_
    obtain ⟨x,hy1,N⟩:=zB hM0
    refine xR rfl rfl h2 hy1 ?_
    intro ad ccs hat hrep
    obtain rfl:=hrep
    exact xN 0 hat [vT x.l] (vT x.l) rfl<|yB [] [(17,.bool (x.l == ([97,114,114,97,121]:List UInt8)))]<|yS [(1,vT line.l),(2,vP b 0),(4,vP b1 0),(5,vS p3 y c2),(6,vI (W ((raws.length:Int) - 1))),(17,.bool (x.l == ([97,114,114,97,121]:List UInt8)))]<|zW ⟨_,(zC N).symm,Imm.le.refl _,rfl,rfl⟩
   | false =>
    have hM01:=zQ hc ho0
    exact yB [] [(17,vF)]<|yS [(1,vT line.l),(2,vP b 0),(4,vP b1 0),(5,vS p3 y c2),(6,vI (W ((raws.length:Int) - 1))),(17,vF)]<|zW ⟨_,(zC hM01).symm,Imm.le.refl _,rfl,rfl⟩
 rintro I01 hs2 m2 ⟨t17,heq,le1,rfl,rfl⟩
 subst o0
 have h2:=h2.mono le1
 have hQ:=hQ.mono le1
 refine zL<|yL N ?_ ?_
 · intro hc1 N
   obtain ⟨y1,hy2,N⟩:=zB N
   obtain ⟨l,hy3,N⟩:=zB N
   refine vC [.p (vP b 0) [],.p (vS p1 p.Arrays c) [1],.p (vS p3 y c2) [],.x (fun I' v hx=>∃ p4 c3,v=vA (cArr y1 p4 c3)∧hx=[]∧(S4 I' p4 y1.Dims c3)),.x (fun I' v hx=>∃ b2,v=vS (some ⟨b2,0,none⟩) ([y1]:List zD) 1∧hx=[]∧(SL I' (vS (some ⟨b2,0,none⟩) ([y1]:List zD) 1) ([y1]:List zD))),.x (fun I' v hx=>∃ p5 c4 cs3,v=vS p5 l c4∧hx=[hO zD (vS p5 l c4) cs3]∧(RL I' cs3 l))] [[],[(0,false)],[],[(2,false)],[(3,false)],[(1,false),(4,false),(8,true)]] [hB b1 zTwo,hB b [vS p1 p.Arrays c,vS p2 raws c1],hO Raw2 (vS p2 raws c1) cs1,hO zE vN csN,hO zJ vB csB] [[hO zD (vS p1 p.Arrays c) cs]] [(5,true)] (yD [0,1,3,4,5,2]) ?_ ?_
   · refine Op<|Op<|Op<|Ox ?_<|Ox ?_<|Ox ?_<|On
     · intro I1 hf le1
       refine yR [(29,vS p3 y c2)]<|xS (zER y _ hy2 (h2.mono le1)) ?_
       rintro I02 hs2 v2 k2 le2 - ⟨v01,rfl,rfl,⟨cs2,rfl,h3⟩⟩ -
       obtain ⟨v02,rfl,h4⟩:=zA7 h3
       obtain ⟨p4,c3,rfl⟩:=h4.form
       exact yP [] le2 ⟨_,_,rfl,rfl,h4⟩
     · intro I1 hf le1
       refine zF ?_
       rintro _ _ ⟨p4,c3,rfl,rfl,h4⟩
       refine yR [(30,vA (cArr y1 p4 c3))]<|xU (cArr y1 p4 c3) zD ?_
       intro b2 hb2
       have h5:RL I1 (cArr y1 p4 c3) ([y1]:List zD):=⟨(cArr y1 p4 c3),_,rfl,rfl,(qJ ⟨_,rfl,h4⟩),rfl⟩
       refine yJ 0 rfl ?_
       intro I03 le3 hl0
       exact yP [] le3 ⟨_,rfl,rfl,SL.of_frozen hl0 le3 h5⟩
     intro I1 hf le1
     refine zF ?_
     rintro _ _ ⟨rfl,rfl⟩
     refine zF ?_
     rintro _ _ ⟨b2,rfl,rfl,h6⟩
     refine zF ?_
     rintro _ _ rfl
     refine yR [(28,vS p1 p.Arrays c),(31,vS (some ⟨b2,0,none⟩) ([y1]:List zD) 1)] ?_
     obtain ⟨ccs1,k0,k01⟩:=h6
     refine qI 127 2 0 rfl rfl rfl (hQ.mono le1).arr (.inl k0) k01 hy3 ?_
     intro p5 c4 cs3 h7
     exact vJ (hs':=(hO zD (vS p5 l c4) cs3::(hB b1 zTwo::hB b [vS p1 p.Arrays c,vS p2 raws c1]::hO Raw2 (vS p2 raws c1) cs1::hO zE vN csN::hO zJ vB csB::hf))) rfl<|yP [hO zD (vS p5 l c4) cs3] iR ⟨_,_,_,rfl,rfl,h7⟩
   intro I04 le4
   refine zF ?_
   rintro _ _ ⟨p5,c4,cs3,rfl,rfl,h7⟩
   refine yR [(2,vP b 0),(4,vP b1 0),(32,vS p5 l c4)] ?_
   have hQ:=hQ.mono le4
   refine yC 7 [] [(33,vP b 0)]<|xB 2 [vS p5 l c4,vS p2 raws c1] [hO zD (vS p5 l c4) cs3,hB b1 zTwo,hB b [vS p5 l c4,vS p2 raws c1],hO Raw2 (vS p2 raws c1) cs1,hO zE vN csN,hO zJ vB csB] rfl rfl rfl rfl<|yH rfl<|zR<|xD<|yC 1 [2] [(98,vA [vS p5 l c4,vS p2 raws c1])]<|xB 1 [vS p5 l c4,vS p2 raws c1] [hO zD (vS p5 l c4) cs3,hB b1 [vS p5 l c4,vS p2 raws c1],hB b [vS p5 l c4,vS p2 raws c1],hO Raw2 (vS p2 raws c1) cs1,hO zE vN csN,hO zJ vB csB] rfl rfl rfl rfl<|yH rfl<|zL<|xG ?_
   obtain rfl:=zC N
   exact xF ⟨_,_,(.cell 1 rfl rfl (by kernel_rfl) ResV.nil),(zZ [0,3,4,5] rfl (by decide)),⟨_,_,_,_,_,_,_,_,_,_,_,_,_,rfl,rfl,⟨h7,hQ.raw,hQ.lp,hQ.n,hQ.b⟩⟩⟩
 intro hc1 N
 refine yF [(34,.bool (line.l == ([112,97,114,116]:List UInt8)))]<|zL<|yL N ?_ ?_
 · intro hc2 N
   refine pO 4 rfl ?_
   intro I05 le5 hl5
   have kN:=SL.of_frozen hl5 le5 hQ.n
   have hQ:=hQ.mono le5
   refine pO 4 rfl ?_
   intro I06 le6 hl6
   have kB:=SL.of_frozen hl6 le6 hQ.b
   replace kN:=kN.mono le6
   have hQ:=hQ.mono le6
   obtain ⟨l1,hy4,N⟩:=zB N
   have hy5:=zGV (l':=raws) (m':=[(⟨z0,z0⟩:Raw2)]) hy4 hQ.lp.2.1 rfl
   have hLP:=hQ.lp.part kN kB hy4
   refine zP<|vJ (hs':=[hB b1 zTwo,hB b [vS p1 p.Arrays c,vS p2 raws c1],hO zD (vS p1 p.Arrays c) cs,hO Raw2 (vS p2 raws c1) cs1]) rfl<|yC 3 [1] [(38,vS p2 raws c1),(39,vA zTwo)]<|xU zTwo Raw2 ?_
   intro b3 hb3
   have h8:RL I06 zTwo [(⟨z0,z0⟩:Raw2)]:=⟨zTwo,[],rfl,rfl,⟨rfl,rfl,rfl⟩,rfl⟩
   refine qI 53 2 4 rfl rfl rfl hQ.raw (.inr ⟨0,rfl⟩) h8 hy5 ?_
   intro p6 c5 cs4 h9
   refine sU (yD [1,2,3,4] (hs':=[hB b1 zTwo,hB b [vS p1 p.Arrays c,vS p2 raws c1],hO zD (vS p1 p.Arrays c) cs,hO Raw2 (vS p6 (raws ++ [(⟨z0,z0⟩:Raw2)]) c5) cs4]))<|yC 6 [] [(42,vP b 1)]<|xB 1 [vS p1 p.Arrays c,vS p6 (raws ++ [(⟨z0,z0⟩:Raw2)]) c5] [hB b1 zTwo,hB b [vS p1 p.Arrays c,vS p6 (raws ++ [(⟨z0,z0⟩:Raw2)]) c5],hO zD (vS p1 p.Arrays c) cs,hO Raw2 (vS p6 (raws ++ [(⟨z0,z0⟩:Raw2)]) c5) cs4] rfl rfl rfl rfl<|yH rfl<|zR<|xD<|yC 1 [1] [(98,vA [vS p1 p.Arrays c,vS p6 (raws ++ [(⟨z0,z0⟩:Raw2)]) c5])]<|xB 0 [vS p1 p.Arrays c,vS p6 (raws ++ [(⟨z0,z0⟩:Raw2)]) c5] [hB b1 [vS p1 p.Arrays c,vS p6 (raws ++ [(⟨z0,z0⟩:Raw2)]) c5],hB b [vS p1 p.Arrays c,vS p6 (raws ++ [(⟨z0,z0⟩:Raw2)]) c5],hO zD (vS p1 p.Arrays c) cs,hO Raw2 (vS p6 (raws ++ [(⟨z0,z0⟩:Raw2)]) c5) cs4] rfl rfl rfl rfl<|yH rfl<|xP<|wC (wT (Rp.sz zJ))<|wC (wT (Rp.sz zE)) ?_
   obtain rfl:=zC N
   exact xF ⟨_,_,(.cell 2 rfl rfl (by kernel_rfl) ResV.nil),(zZ [4,5,0,1] rfl (by decide)),⟨_,_,_,_,_,_,_,_,_,_,_,_,_,rfl,rfl,⟨hQ.arr,h9,hLP,RepL.nil,RepL.nil⟩⟩⟩
 intro hc2 N
 refine yI ?_
 obtain ⟨o01,ho01,N⟩:=zB N
 refine yU (fun I' hs' m'=>∃ (t43:Bool),o01=t43∧I01.le I'∧hs'=[hB b1 zTwo,hB b [vS p1 p.Arrays c,vS p2 raws c1],hO zD (vS p1 p.Arrays c) cs,hO Raw2 (vS p2 raws c1) cs1,hO zE vN csN,hO zJ vB csB]∧m'=[(1,vT line.l),(2,vP b 0),(4,vP b1 0),(6,vI (W ((raws.length:Int) - 1))),(43,.bool t43)]) ?_ ?_
 · refine zP<|yC 3 [] [(46,.bool (decide ((W ((raws.length:Int) - 1)) ≥ 0)))] ?_
   cases hc3:(decide ((W ((raws.length:Int) - 1)) ≥ 0)) with
   | true =>
    have hM02:=zS hc3 ho01
    refine yC 8 [] [(51,.bool (decide ((y.length:Int) > 0)))] ?_
    cases hc4:(decide ((y.length:Int) > 0)) with
    | true =>
     have hM03:=zS hc4 hM02
     refine yC 9 [] [(52,vS p3 y c2)] ?_
     obtain ⟨x1,hy5,N⟩:=zB hM03
     refine xR rfl rfl h2 hy5 ?_
     intro ad1 ccs2 hat1 hrep1
     obtain rfl:=hrep1
     exact xN 0 hat1 [vT x1.l] (vT x1.l) rfl<|yB [] [(43,.bool (x1.l == ([102,111,114]:List UInt8)))]<|yS [(1,vT line.l),(2,vP b 0),(4,vP b1 0),(6,vI (W ((raws.length:Int) - 1))),(43,.bool (x1.l == ([102,111,114]:List UInt8)))]<|zW ⟨_,(zC N).symm,Imm.le.refl _,rfl,rfl⟩
    | false =>
     have hM04:=zQ hc4 hM02
     exact yB [] [(43,vF)]<|yS [(1,vT line.l),(2,vP b 0),(4,vP b1 0),(6,vI (W ((raws.length:Int) - 1))),(43,vF)]<|zW ⟨_,(zC hM04).symm,Imm.le.refl _,rfl,rfl⟩
   | false =>
    have hM05:=zQ hc3 ho01
    exact yB [] [(43,vF)]<|yS [(1,vT line.l),(2,vP b 0),(4,vP b1 0),(6,vI (W ((raws.length:Int) - 1))),(43,vF)]<|zW ⟨_,(zC hM05).symm,Imm.le.refl _,rfl,rfl⟩
 rintro I05 hs2 m2 ⟨t43,heq1,le5,rfl,rfl⟩
 subst o01
 have hQ:=hQ.mono le5
 refine zL<|yL N ?_ ?_
 · intro hc5 N
   refine yK<|yC 3 [1] [(58,vS p2 raws c1),(59,vI (W ((raws.length:Int) - 1)))] ?_
   obtain ⟨x2,hy6,N⟩:=zB N
   obtain ⟨rfl,hyr,hset⟩:=hQ.lp.last hy6
   refine oU 3 rfl rfl rfl hQ.raw hyr ?_
   intro ad2 ccs3 hat2 hcc hrep2
   obtain ⟨rfl,o1,o2⟩:=hrep2
   refine zC3 3 0 hat2 hcc [vN,vB] (vA [vN,vB]) rfl rfl<|wU zTwo ?_
   intro b4 hb4
   refine zKP 0 [vN,vB] (hB b4 [vN,vB]::[hB b1 zTwo,hB b [vS p1 p.Arrays c,vS p2 raws c1],hO zD (vS p1 p.Arrays c) cs,hO Raw2 (vS p2 raws c1) cs1,hO zE vN csN,hO zJ vB csB]) rfl rfl rfl rfl (by simp [Value.cells,o1,o2])<|yH rfl<|zL<|yI ?_
   obtain ⟨y2,hy7,N⟩:=zB N
   obtain ⟨l2,hy8,N⟩:=zB N
   refine vC [.p (vP b4 0) [],.p vN [0],.p (vT line.l) [],.x (fun I' v hx=>∃ p9 c8 p10 c9,v=vA (cLoop y2 p9 c8 p10 c9)∧hx=[]∧(S4 I' p9 y2.Lo c8)∧(S4 I' p10 y2.Hi c9)),.x (fun I' v hx=>∃ b5,v=vS (some ⟨b5,0,none⟩) ([y2]:List zE) 1∧hx=[]∧(SL I' (vS (some ⟨b5,0,none⟩) ([y2]:List zE) 1) ([y2]:List zE))),.x (fun I' v hx=>∃ p11 c10 cs3,v=vS p11 l2 c10∧hx=[hO zE (vS p11 l2 c10) cs3]∧(RL I' cs3 l2))] [[],[(0,false)],[],[(2,false)],[(3,false)],[(1,false),(4,false),(8,true)]] [hB b4 [vN,vB],hB b1 zTwo,hB b [vS p1 p.Arrays c,vS p2 raws c1],hO zD (vS p1 p.Arrays c) cs,hO Raw2 (vS p2 raws c1) cs1,hO zJ vB csB] [[hO zE vN csN]] [(5,true)] (yD [0,1,2,3,4,6,5]) ?_ ?_
   · refine Op<|Op<|Op<|Ox ?_<|Ox ?_<|Ox ?_<|On
     · intro I1 hf le1
       refine yR [(64,vT line.l)]<|xS (zFC line _ hy7 ) ?_
       rintro I06 hs2 v2 k2 le6 - ⟨v05,rfl,rfl,⟨cs5,rfl,h12⟩⟩ -
       obtain ⟨v06,v07,rfl,h13,h14⟩:=zAs h12
       obtain ⟨p9,c8,rfl⟩:=h13.form
       obtain ⟨p10,c9,rfl⟩:=h14.form
       exact yP [] le6 ⟨_,_,_,_,rfl,rfl,h13,h14⟩
     · intro I1 hf le1
       refine zF ?_
       rintro _ _ ⟨p9,c8,p10,c9,rfl,rfl,h13,h14⟩
       refine yR [(65,vA (cLoop y2 p9 c8 p10 c9))]<|xU (cLoop y2 p9 c8 p10 c9) zE ?_
       intro b5 hb5
       have h15:RL I1 (cLoop y2 p9 c8 p10 c9) ([y2]:List zE):=⟨(cLoop y2 p9 c8 p10 c9),_,rfl,rfl,(sW ⟨_,_,rfl,h13,h14⟩),rfl⟩
       refine yJ 0 rfl ?_
       intro I07 le7 hl01
       exact yP [] le7 ⟨_,rfl,rfl,SL.of_frozen hl01 le7 h15⟩
     intro I1 hf le1
     refine zF ?_
     rintro u _ ⟨hu,rfl⟩
     have hu:=hu.symm
     subst hu
     refine zF ?_
     rintro _ _ ⟨b5,rfl,rfl,h16⟩
     refine zF ?_
     rintro _ _ rfl
     refine yR [(63,vN),(66,vS (some ⟨b5,0,none⟩) ([y2]:List zE) 1)] ?_
     obtain ⟨ccs4,k0,k01⟩:=h16
     refine qI 169 2 0 rfl rfl rfl (hQ.mono le1).n (.inl k0) k01 hy8 ?_
     intro p11 c10 cs3 h17
     exact vJ (hs':=(hO zE (vS p11 l2 c10) cs3::(hB b4 [vN,vB]::hB b1 zTwo::hB b [vS p1 p.Arrays c,vS p2 raws c1]::hO zD (vS p1 p.Arrays c) cs::hO Raw2 (vS p2 raws c1) cs1::hO zJ vB csB::hf))) rfl<|yP [hO zE (vS p11 l2 c10) cs3] iR ⟨_,_,_,rfl,rfl,h17⟩
   intro I08 le8
   refine zF ?_
   rintro _ _ ⟨p11,c10,cs3,rfl,rfl,h17⟩
   refine yR [(2,vP b 0),(4,vP b1 0),(6,vI (W ((raws.length:Int) - 1))),(7,vP b4 0),(67,vS p11 l2 c10)] ?_
   have hQ:=hQ.mono le8
   refine yC 7 [] [(68,vP b4 0)]<|xB 1 [vS p11 l2 c10,vB] [hO zE (vS p11 l2 c10) cs3,hB b4 [vS p11 l2 c10,vB],hB b1 zTwo,hB b [vS p1 p.Arrays c,vS p2 raws c1],hO zD (vS p1 p.Arrays c) cs,hO Raw2 (vS p2 raws c1) cs1,hO zJ vB csB] rfl rfl rfl rfl<|yH rfl<|zL<|zP<|yC 4 [3,1] [(70,vS p2 raws c1),(71,vI (W ((raws.length:Int) - 1))),(72,vA [vS p11 l2 c10,vB])]<|oU 5 rfl rfl rfl hQ.raw hyr ?_
   intro ad3 ccs5 hat3 hcc1 hrep3
   obtain ⟨rfl,-⟩:=hrep3
   refine tT (α:=Raw2) (c:=[vS p11 l2 c10,vB]) (x':=⟨vS p11 l2 c10,vB⟩) 5 0 rfl rfl rfl hat3 rfl rfl hcc1 (by kernel_rfl) (by kernel_rfl) (by simp [Value.cells,o2]; rfl) hQ.raw hyr (by kernel_rfl) ⟨rfl,rfl,o2⟩ ?_
   intro cs6 h19 hl02
   refine vJ (hs':=[hO zE (vS p11 l2 c10) cs3,hB b4 [vS p11 l2 c10,vB],hB b1 zTwo,hB b [vS p1 p.Arrays c,vS p2 raws c1],hO zD (vS p1 p.Arrays c) cs,hO Raw2 (vS p2 raws c1) cs6,hO zJ vB csB]) rfl<|yH rfl<|zR<|xD<|yC 1 [3] [(98,vA [vS p1 p.Arrays c,vS p2 raws c1])]<|xB 2 [vS p1 p.Arrays c,vS p2 raws c1] [hO zE (vS p11 l2 c10) cs3,hB b4 [vS p11 l2 c10,vB],hB b1 [vS p1 p.Arrays c,vS p2 raws c1],hB b [vS p1 p.Arrays c,vS p2 raws c1],hO zD (vS p1 p.Arrays c) cs,hO Raw2 (vS p2 raws c1) cs6,hO zJ vB csB] rfl rfl rfl rfl<|yH rfl<|zL<|xG ?_
   obtain rfl:=zC N
   exact xF ⟨[vA [vS p1 p.Arrays c,vS p2 raws c1]],_,(.cell 2 rfl rfl (by kernel_rfl) ResV.nil),(zZ [4,5,0,6] rfl (by decide)),⟨p1,c,cs,p2,c1,cs6,raws.set (W ((raws.length:Int) - 1)).toNat ⟨vS p11 l2 c10,vB⟩,vS p11 l2 c10,vB,l2,bl,cs3,csB,(by simp only [vS,hl02]),(by simp only [vS,hl02]),⟨hQ.arr,h19,(hset _ _ _ _).mono le8,h17,hQ.b⟩⟩⟩
 intro hc5 N
 refine yF [(74,.bool (decide ((W ((raws.length:Int) - 1)) ≥ 0)))]<|zL<|yL N ?_ ?_
 · intro hc6 N
   refine yK<|yC 3 [1] [(78,vS p2 raws c1),(79,vI (W ((raws.length:Int) - 1)))] ?_
   obtain ⟨x4,hy10,N⟩:=zB N
   obtain ⟨rfl,hyr,hset⟩:=hQ.lp.last hy10
   refine oU 3 rfl rfl rfl hQ.raw hyr ?_
   intro ad4 ccs5 hat4 hcc2 hrep4
   obtain ⟨rfl,o1,o2⟩:=hrep4
   refine zC3 3 0 hat4 hcc2 [vN,vB] (vA [vN,vB]) rfl rfl<|wU zTwo ?_
   intro b6 hb6
   refine zKP 0 [vN,vB] (hB b6 [vN,vB]::[hB b1 zTwo,hB b [vS p1 p.Arrays c,vS p2 raws c1],hO zD (vS p1 p.Arrays c) cs,hO Raw2 (vS p2 raws c1) cs1,hO zE vN csN,hO zJ vB csB]) rfl rfl rfl rfl (by simp [Value.cells,o1,o2])<|yH rfl<|xD<|yC 1 [] [(83,vT line.l)] ?_
   obtain ⟨⟨y4,y5⟩,hy11,N⟩:=zB N
   refine xS (eZ line _ hy11 ) ?_
   rintro I09 hs2 v2 k2 le9 - ⟨v012,v013,rfl,rfl,⟨cs7,rfl,h22⟩,rfl⟩ -
   have hQ:=hQ.mono le9
   obtain ⟨v014,v015,v016,v017,rfl,h24,h25,h26,h27⟩:=pQ h22
   obtain ⟨p15,c14,rfl⟩:=h24.form
   obtain ⟨p16,c15,rfl⟩:=h25.form
   obtain ⟨p17,c16,rfl⟩:=h26.form
   obtain ⟨p18,c17,rfl⟩:=h27.form
   refine yC 5 [] [(85,vA (cStmt y4 p15 c14 p16 c15 p17 c16 p18 c17)),(86,.bool y5)]<|wU [vT ([]),z0,vI 0,vI 0,z0,vI 0,vT ([]),z0,z0] ?_
   intro b7 hb7
   refine xB 0 (cStmt y4 p15 c14 p16 c15 p17 c16 p18 c17) (hB b7 (cStmt y4 p15 c14 p16 c15 p17 c16 p18 c17)::hB b6 [vN,vB]::[hB b1 zTwo,hB b [vS p1 p.Arrays c,vS p2 raws c1],hO zD (vS p1 p.Arrays c) cs,hO Raw2 (vS p2 raws c1) cs1,hO zE vN csN,hO zJ vB csB]) rfl rfl rfl rfl<|yB [] []<|xD<|yC 3 [1,0] [(88,vB),(89,vA (cStmt y4 p15 c14 p16 c15 p17 c16 p18 c17))]<|xU (cStmt y4 p15 c14 p16 c15 p17 c16 p18 c17) zJ ?_
   intro b8 hb8
   have h28:RL I09 (cStmt y4 p15 c14 p16 c15 p17 c16 p18 c17) ([y4]:List zJ):=⟨(cStmt y4 p15 c14 p16 c15 p17 c16 p18 c17),_,rfl,rfl,(wJ ⟨_,_,_,_,rfl,h24,h25,h26,h27⟩),rfl⟩
   obtain ⟨l3,hy12,N⟩:=zB N
   refine qI 49 9 8 rfl rfl rfl hQ.b (.inr ⟨0,rfl⟩) h28 hy12 ?_
   intro p19 c18 cs9 h29
   refine sU (yD [2,3,4,5,6,7,8] (hs':=[hB b6 [vN,vB],hB b1 zTwo,hB b [vS p1 p.Arrays c,vS p2 raws c1],hO zD (vS p1 p.Arrays c) cs,hO Raw2 (vS p2 raws c1) cs1,hO zE vN csN,hO zJ (vS p19 l3 c18) cs9]))<|yC 6 [] [(92,vP b6 1)]<|xB 0 [vN,vS p19 l3 c18] [hB b6 [vN,vS p19 l3 c18],hB b1 zTwo,hB b [vS p1 p.Arrays c,vS p2 raws c1],hO zD (vS p1 p.Arrays c) cs,hO Raw2 (vS p2 raws c1) cs1,hO zE vN csN,hO zJ (vS p19 l3 c18) cs9] rfl rfl rfl rfl<|yH rfl<|zL<|zP<|yC 4 [2,0] [(94,vS p2 raws c1),(95,vI (W ((raws.length:Int) - 1))),(96,vA [vN,vS p19 l3 c18])]<|oU 4 rfl rfl rfl hQ.raw hyr ?_
   intro ad5 ccs6 hat5 hcc3 hrep5
   obtain ⟨rfl,-⟩:=hrep5
   refine tT (α:=Raw2) (c:=[vN,vS p19 l3 c18]) (x':=⟨vN,vS p19 l3 c18⟩) 4 0 rfl rfl rfl hat5 rfl rfl hcc3 (by kernel_rfl) (by kernel_rfl) (by simp [Value.cells,o1]; rfl) hQ.raw hyr (by kernel_rfl) ⟨rfl,o1,rfl⟩ ?_
   intro cs8 h31 hl03
   refine vJ (hs':=[hB b6 [vN,vS p19 l3 c18],hB b1 zTwo,hB b [vS p1 p.Arrays c,vS p2 raws c1],hO zD (vS p1 p.Arrays c) cs,hO Raw2 (vS p2 raws c1) cs8,hO zE vN csN,hO zJ (vS p19 l3 c18) cs9]) rfl<|yH rfl<|zR<|xD<|yC 1 [2] [(98,vA [vS p1 p.Arrays c,vS p2 raws c1])]<|xB 1 [vS p1 p.Arrays c,vS p2 raws c1] [hB b6 [vN,vS p19 l3 c18],hB b1 [vS p1 p.Arrays c,vS p2 raws c1],hB b [vS p1 p.Arrays c,vS p2 raws c1],hO zD (vS p1 p.Arrays c) cs,hO Raw2 (vS p2 raws c1) cs8,hO zE vN csN,hO zJ (vS p19 l3 c18) cs9] rfl rfl rfl rfl<|yH rfl<|zL<|xG ?_
   obtain rfl:=zC N
   exact xF ⟨[vA [vS p1 p.Arrays c,vS p2 raws c1]],_,(.cell 1 rfl rfl (by kernel_rfl) ResV.nil),(zZ [3,4,5,6] rfl (by decide)),⟨p1,c,cs,p2,c1,cs8,raws.set (W ((raws.length:Int) - 1)).toNat ⟨vN,vS p19 l3 c18⟩,vN,vS p19 l3 c18,nl,l3,csN,cs9,(by simp only [vS,hl03]),(by simp only [vS,hl03]),⟨hQ.arr,h31,(hset _ _ _ _).mono le9,hQ.n,h29⟩⟩⟩
 intro hc6 N
 refine zV<|zR<|xD<|yC 1 [1] [(98,vA [vS p1 p.Arrays c,vS p2 raws c1])]<|xB 0 [vS p1 p.Arrays c,vS p2 raws c1] [hB b1 [vS p1 p.Arrays c,vS p2 raws c1],hB b [vS p1 p.Arrays c,vS p2 raws c1],hO zD (vS p1 p.Arrays c) cs,hO Raw2 (vS p2 raws c1) cs1,hO zE vN csN,hO zJ vB csB] rfl rfl rfl rfl<|yH rfl<|zL<|xG ?_
 obtain rfl:=zC N
 exact xF ⟨_,_,(.cell 0 rfl rfl (by kernel_rfl) ResV.nil),(zZ [2,3,4,5] rfl (by decide)),⟨_,_,_,_,_,_,_,_,_,_,_,_,_,rfl,rfl,hQ⟩⟩
def pF (nest:(List zE)) (out:Str) (i:Int):Option (Str):=do
 if (decide (i < (nest.length:Int))) then
  let s←cat out (⟨[102,111,114,32]⟩:Str)
  let x←idx nest i
  let y←qB x.Lo
  let s1←cat s y
  let s2←cat s1 (⟨[32]⟩:Str)
  let x1←idx nest i
  let y1←qB x1.Hi
  let s3←cat s2 y1
  let s4←cat s3 (⟨[10]⟩:Str)
  pF nest s4 (W (i + 1))
 else
  pure (id out)
 partial_fixpoint
theorem zDC (nest:(List zE)):∀ (out:Str) (i:Int) (o:Str),pF nest out i=some o→∀ {B}{I0 I:Imm}{Q p c},I0.le I→(S4 I p nest c)→NG Q→NO Q→(∀ (I':Imm) (out1:Str),o=out1→I0.le I'→T 30 B Q (.exit 0) I' [] [(3,vT out1.l)])→J Tryz.prog 30 B (nav (bodyOf Tryz.f190) [1,1,0,1,0]) Q I [] [(0,vS p nest c),(3,vT out.l),(4,vI i)]:=by
 refine pF.partial_correctness nest _ fun self ih out i o N B I0 I Q p c H h hg ho hx=>yW hg ho<|yI<|yF [(8,.bool (decide (i < (nest.length:Int))))]<|zL<|yL N ?_ ?_
 · intro hc N;refine zV<|yG<|yM ?_;obtain ⟨s,hy,N⟩:=zB N;obtain ⟨x,hy1,N⟩:=zB N;obtain ⟨y,hy2,N⟩:=zB N;obtain ⟨s1,hy3,N⟩:=zB N;obtain ⟨s2,hy4,N⟩:=zB N;obtain ⟨x1,hy5,N⟩:=zB N;obtain ⟨y1,hy6,N⟩:=zB N;obtain ⟨s3,hy7,N⟩:=zB N;obtain ⟨s4,hy8,N⟩:=zB N;refine vC [.p (vT out.l) [],.q (vT s.l),.p (vS p nest c) [],.p (vI i) [],.x (fun I' v hx=>∃ ad p1 c1 p2 c2,v=.pointer (some ad)∧hx=[]∧(At I' ad (cLoop x p1 c1 p2 c2))∧(S4 I' p1 x.Lo c1)∧(S4 I' p2 x.Hi c2)),.x (fun I' v hx=>∃ ad1 p11 c11 p21 c21,v=.pointer (some ad1)∧hx=[]∧(At I' ad1 (cLoop x p11 c11 p21 c21))∧(S4 I' p11 x.Lo c11)∧(S4 I' p21 x.Hi c21)),.x (fun I' v hx=>∃ p111 c111,v=vS p111 x.Lo c111∧hx=[]∧(S4 I' p111 x.Lo c111)),.q (vT y.l),.q (vT s1.l),.q (vT s2.l),.p (vS p nest c) [],.p (vI i) [],.x (fun I' v hx=>∃ ad2 p3 c3 p4 c4,v=.pointer (some ad2)∧hx=[]∧(At I' ad2 (cLoop x1 p3 c3 p4 c4))∧(S4 I' p3 x1.Lo c3)∧(S4 I' p4 x1.Hi c4)),.x (fun I' v hx=>∃ ad21 p31 c31 p41 c41,v=.pointer (some (ad21.add 1))∧hx=[]∧(At I' ad21 (cLoop x1 p31 c31 p41 c41))∧(S4 I' p31 x1.Lo c31)∧(S4 I' p41 x1.Hi c41)),.x (fun I' v hx=>∃ p411 c411,v=vS p411 x1.Hi c411∧hx=[]∧(S4 I' p411 x1.Hi c411)),.q (vT y1.l),.q (vT s3.l),.q (vT s4.l)] [[],[(0,false)],[],[],[(2,false),(3,false)],[(4,false)],[(5,false)],[(6,false)],[(1,false),(7,false)],[(8,false)],[],[],[(10,false),(11,false)],[(12,false)],[(13,false)],[(14,false)],[(9,false),(15,false)],[(16,false)]] [] [] [(17,false)] zT ?_ ?_
   · refine Op<|Oq ?_<|Op<|Op<|Ox ?_<|Ox ?_<|Ox ?_<|Oq ?_<|Oq ?_<|Oq ?_<|Op<|Op<|Ox ?_<|Ox ?_<|Ox ?_<|Oq ?_<|Oq ?_<|Oq ?_<|On
     · intro I1 hf le1;exact yR [(11,vT out.l)]<|mB rfl hy<|xI iR
     · intro I1 hf le1;refine yR [(13,vS p nest c),(14,vI i)] ?_;have h:=h.mono le1;refine xR rfl rfl h hy1 ?_;intro ad ccs hat hrep;obtain ⟨p1,c1,p2,c2,rfl,h1,h2⟩:=tM hrep;exact yP [] iR ⟨_,_,_,_,_,rfl,rfl,hat,h1,h2⟩
     · intro I1 hf le1;refine zF ?_;rintro _ _ ⟨ad,p1,c1,p2,c2,rfl,rfl,hat,h1,h2⟩;exact yR [(15,.pointer (some ad))]<|pM 6 [(16,.pointer (some ad))]<|yP [] iR ⟨_,_,_,_,_,rfl,rfl,hat,h1,h2⟩
     · intro I1 hf le1;refine zF ?_;rintro _ _ ⟨ad1,p11,c11,p21,c21,rfl,rfl,hat1,h11,h21⟩;exact yR [(16,.pointer (some ad1))]<|xN 0 hat1 [vS p11 x.Lo c11] (vS p11 x.Lo c11) rfl<|yP [] iR ⟨_,_,rfl,rfl,h11⟩
     · intro I1 hf le1;refine zF ?_;rintro _ _ ⟨p111,c111,rfl,rfl,h111⟩;refine yR [(17,vS p111 x.Lo c111)] ?_;have H:=iS I1;refine xS (jO x.Lo _ hy2 h111) ?_;rintro I0 hs2 v2 k2 le - ⟨v02,rfl,rfl,rfl⟩ -;have H:=H.trans le;exact xI H
     · intro I1 hf le1;exact yR [(12,vT s.l),(18,vT y.l)]<|mB rfl hy3<|xI iR
     · intro I1 hf le1;exact yR [(19,vT s1.l)]<|mB rfl hy4<|xI iR
     · intro I1 hf le1;refine yR [(21,vS p nest c),(22,vI i)] ?_;have h:=h.mono le1;refine xR rfl rfl h hy5 ?_;intro ad2 ccs1 hat2 hrep1;obtain ⟨p3,c3,p4,c4,rfl,h4,h5⟩:=tM hrep1;exact yP [] iR ⟨_,_,_,_,_,rfl,rfl,hat2,h4,h5⟩
     · intro I1 hf le1;refine zF ?_;rintro _ _ ⟨ad2,p3,c3,p4,c4,rfl,rfl,hat2,h4,h5⟩;exact yR [(23,.pointer (some ad2))]<|pM 14 [(24,.pointer (some (ad2.add 1)))]<|yP [] iR ⟨_,_,_,_,_,rfl,rfl,hat2,h4,h5⟩
     · intro I1 hf le1;refine zF ?_;rintro _ _ ⟨ad21,p31,c31,p41,c41,rfl,rfl,hat21,h41,h51⟩;exact yR [(24,.pointer (some (ad21.add 1)))]<|xN 1 hat21 [vS p41 x1.Hi c41] (vS p41 x1.Hi c41) rfl<|yP [] iR ⟨_,_,rfl,rfl,h51⟩
     · intro I1 hf le1;refine zF ?_;rintro _ _ ⟨p411,c411,rfl,rfl,h511⟩;refine yR [(25,vS p411 x1.Hi c411)] ?_;have H:=iS I1;refine xS (jO x1.Hi _ hy6 h511) ?_;rintro I01 hs2 v2 k2 le1 - ⟨v05,rfl,rfl,rfl⟩ -;have H:=H.trans le1;exact xI H
     · intro I1 hf le1;exact yR [(20,vT s2.l),(26,vT y1.l)]<|mB rfl hy7<|xI iR
     intro I1 hf le1;exact yR [(27,vT s3.l)]<|mB rfl hy8<|xI iR
   intro I02 le2;refine yR [(0,vS p nest c),(4,vI i),(28,vT s4.l)] ?_;have h:=h.mono le2;have H:=H.trans le2;exact yB [] [(3,vT s4.l)]<|zR<|zL<|zP<|yB [] [(4,vI (W (i + 1)))]<|yT<|wN [(0,vS p nest c),(3,vT s4.l),(4,vI (W (i + 1)))]<|ih s4 (W (i + 1)) _ N H h hg ho hx
 intro hc N;exact vD<|yS [(3,vT out.l)]<|hx _ _ (zC N).symm H
def jJ (nest:(List zE)):Option (Str):=do
 let out1←pF nest (⟨[]⟩:Str) 0
 pure (id out1)
theorem zFE:∀ nest r,jJ nest=some r→∀ {I:Imm}{p c},(S4 I p nest c)→RT 190 [vS p nest c] I [] (tD  r):=by
 intro nest r N I p c h;unfold jJ at N;refine zX (fn:=Tryz.f190) (c:=(bodyOf Tryz.f190)) Tryz.func190 rfl rfl ?_;rintro B - -;refine yF []<|wW [(3,vT ([]))]<|yG<|yF [(4,vI 0)]<|wD<|wN [(0,vS p nest c),(3,vT ([])),(4,vI 0)] ?_;obtain ⟨o0,ho0,hMl⟩:=zB N;refine zDC nest (⟨[]⟩:Str) 0 o0 ho0 iR h (fun _ _ _ h=>h) (fun _ _ h=>h) ?_;intro I03 out1 heq le3;subst o0;refine zU<|wW [(2,vT out1.l)]<|zL<|xG ?_;obtain rfl:=zC hMl;exact uM
def uI (p:zH) (i:Int) (out2:Str) (k0:Int):Option (Str):=do
 let x1←idx p.Arrays i
 if (decide (k0 < (x1.Dims.length:Int))) then
  let s2←cat out2 (⟨[32]⟩:Str)
  let x2←idx p.Arrays i
  let x3←idx x2.Dims k0
  let y1←sY x3
  let s3←cat s2 y1
  uI p i s3 (W (k0 + 1))
 else
  pure (id out2)
 partial_fixpoint
theorem dJ (p:zH) (i:Int):∀ (out2:Str) (k0:Int) (o:Str),uI p i out2 k0=some o→∀ {B}{I0 I:Imm}{Q p1 c p2 c1}{b:Nat},I0.le I→(S4 I p1 p.Arrays c)→(S4 I p2 p.Parts c1)→NG Q→NO Q→(∀ (I':Imm) (out3:Str),o=out3→I0.le I'→T 103 B Q (.exit 2) I' [hB b (cProg p p1 c p2 c1)] [(1,vP b 0),(3,vT out3.l),(4,vI i)])→J Tryz.prog 103 B (nav (bodyOf Tryz.f158) [1,1,1,0,1,0,0,1,0,0,1,0,1,0]) Q I [hB b (cProg p p1 c p2 c1)] [(1,vP b 0),(3,vT out2.l),(4,vI i),(5,vI k0)]:=by
 refine uI.partial_correctness p i _ fun self ih out2 k0 o N B I0 I Q p1 c p2 c1 b H h h1 hg ho hx=>yW hg ho<|yI<|yK<|yC 4 [0] [(28,vI k0),(30,vS p1 p.Arrays c),(31,vI i)]<|bE N fun x1 hy4 N=>xR rfl rfl h hy4 ?_;intro ad1 ccs1 hat1 hrep1;obtain ⟨p4,c3,rfl,h4⟩:=xX hrep1;refine yC 6 [] [(33,.pointer (some (ad1.add 1)))]<|xN 1 hat1 [vS p4 x1.Dims c3] (vS p4 x1.Dims c3) rfl<|yB [] [(36,.bool (decide (k0 < (x1.Dims.length:Int))))]<|zL<|yL N ?_ ?_
 · intro hc2 N;refine zV<|yG<|yM<|zP<|yC 1 [] [(39,vT out2.l)]<|bE N fun s2 hy5 N=>mB rfl hy5<|yC 5 [0] [(42,vS p1 p.Arrays c),(43,vI i)]<|bE N fun x2 hy6 N=>xR rfl rfl h hy6 ?_;intro ad2 ccs2 hat2 hrep2;obtain ⟨p5,c4,rfl,h5⟩:=xX hrep2;refine yC 7 [] [(45,.pointer (some (ad2.add 1)))]<|xN 1 hat2 [vS p5 x2.Dims c4] (vS p5 x2.Dims c4) rfl<|yC 9 [] [(47,vI k0)]<|bE N fun x3 hy7 N=>xR rfl rfl h5 hy7 ?_;intro ad3 ccs3 hat3 hrep3;obtain rfl:=hrep3;refine xN 0 hat3 [vI x3] (vI x3) rfl<|bE N fun y1 hy8 N=>xS (jV x3 _ hy8 ) ?_;rintro I01 hs2 v2 k2 le1 - ⟨v04,rfl,rfl,rfl⟩ -;have h:=h.mono le1;have h1:=h1.mono le1;have H:=H.trans le1;obtain ⟨s3,hy9,N⟩:=zB N;exact mB rfl hy9<|yB [] [(3,vT s3.l)]<|zR<|zL<|zP<|yB [] [(5,vI (W (k0 + 1)))]<|yT<|wN [(1,vP b 0),(3,vT s3.l),(4,vI i),(5,vI (W (k0 + 1)))]<|ih s3 (W (k0 + 1)) _ N H h h1 hg ho hx
 intro hc2 N;exact vD<|yS [(1,vP b 0),(3,vT out2.l),(4,vI i)]<|hx _ _ (zC N).symm H
def uJ (p:zH) (out:Str) (i:Int):Option (Str):=do
 if (decide (i < (p.Arrays.length:Int))) then
  let s←cat out (⟨[97,114,114,97,121,32]⟩:Str)
  let x←idx p.Arrays i
  let s1←cat s x.Name
  let out3←uI p i s1 0
  let s4←cat out3 (⟨[10]⟩:Str)
  uJ p s4 (W (i + 1))
 else
  pure (id out)
 partial_fixpoint
theorem dK (p:zH):∀ (out:Str) (i:Int) (o:Str),uJ p out i=some o→∀ {B}{I0 I:Imm}{Q p1 c p2 c1}{b:Nat},I0.le I→(S4 I p1 p.Arrays c)→(S4 I p2 p.Parts c1)→NG Q→NO Q→(∀ (I':Imm) (out1:Str),o=out1→I0.le I'→T 103 B Q (.exit 0) I' [hB b (cProg p p1 c p2 c1)] [(1,vP b 0),(3,vT out1.l)])→J Tryz.prog 103 B (nav (bodyOf Tryz.f158) [1,1,1,0,1,0]) Q I [hB b (cProg p p1 c p2 c1)] [(1,vP b 0),(3,vT out.l),(4,vI i)]:=by
 refine uJ.partial_correctness p _ fun self ih out i o N B I0 I Q p1 c p2 c1 b H h h1 hg ho hx=>yW hg ho<|yI<|yK<|yB [0] [(16,.bool (decide (i < (p.Arrays.length:Int))))]<|zL<|yL N ?_ ?_
 · intro hc1 N;refine zV<|yG<|yM<|yK<|yC 1 [] [(19,vT out.l)]<|bE N fun s hy1 N=>mB rfl hy1<|yC 5 [0] [(22,vS p1 p.Arrays c),(23,vI i)]<|bE N fun x hy2 N=>xR rfl rfl h hy2 ?_;intro ad ccs hat hrep;obtain ⟨p3,c2,rfl,h3⟩:=xX hrep;refine yC 7 [] [(25,.pointer (some ad))]<|xN 0 hat [vT x.Name.l] (vT x.Name.l) rfl<|bE N fun s1 hy3 N=>mB rfl hy3<|yB [] [(3,vT s1.l)]<|yG<|yF [(5,vI 0)]<|wD<|wN [(1,vP b 0),(3,vT s1.l),(4,vI i),(5,vI 0)] ?_;obtain ⟨o0,ho0,hMl⟩:=zB N;refine dJ p i s1 0 o0 ho0 iR h h1 (fun _ _ _ h=>hg _ _ _ h) (fun _ _ h=>ho _ _ h) ?_;intro I02 out3 heq le2;subst o0;have h:=h.mono le2;have h1:=h1.mono le2;have H:=H.trans le2;refine zU<|zL<|zP<|yC 1 [] [(52,vT out3.l)] ?_;obtain ⟨s4,hy10,N⟩:=zB hMl;exact mB rfl hy10<|yB [] [(3,vT s4.l)]<|zR<|zL<|zP<|yB [] [(4,vI (W (i + 1)))]<|yT<|wN [(1,vP b 0),(3,vT s4.l),(4,vI (W (i + 1)))]<|ih s4 (W (i + 1)) _ N H h h1 hg ho hx
 intro hc1 N;exact vD<|yS [(1,vP b 0),(3,vT out.l)]<|hx _ _ (zC N).symm H
def uK (p:zH) (i1:Int) (out6:Str) (k01:Int):Option (Str):=do
 let x5←idx p.Parts i1
 if (decide (k01 < (x5.Body.length:Int))) then
  let x6←idx p.Parts i1
  let x7←idx x6.Body k01
  let y3←sN x7.Write
  let s7←cat out6 y3
  let s8←cat s7 (⟨[61]⟩:Str)
  let y4←sZ x7.Value
  let s9←cat s8 y4
  let s10←cat s9 (⟨[10]⟩:Str)
  uK p i1 s10 (W (k01 + 1))
 else
  pure (id out6)
 partial_fixpoint
theorem dL (p:zH) (i1:Int):∀ (out6:Str) (k01:Int) (o:Str),uK p i1 out6 k01=some o→∀ {B}{I0 I:Imm}{Q p1 c p2 c1}{b:Nat},I0.le I→(S4 I p1 p.Arrays c)→(S4 I p2 p.Parts c1)→NG Q→NO Q→(∀ (I':Imm) (out7:Str),o=out7→I0.le I'→T 103 B Q (.exit 6) I' [hB b (cProg p p1 c p2 c1)] [(1,vP b 0),(3,vT out7.l),(6,vI i1)])→J Tryz.prog 103 B (nav (bodyOf Tryz.f158) [1,1,1,1,0,1,0,0,1,0,0,1,1,0]) Q I [hB b (cProg p p1 c p2 c1)] [(1,vP b 0),(3,vT out6.l),(6,vI i1),(7,vI k01)]:=by
 refine uK.partial_correctness p i1 _ fun self ih out6 k01 o N B I0 I Q p1 c p2 c1 b H h h1 hg ho hx=>yW hg ho<|yI<|yK<|yC 4 [0] [(71,vI k01),(73,vS p2 p.Parts c1),(74,vI i1)]<|bE N fun x5 hy15 N=>xR rfl rfl h1 hy15 ?_;intro ad5 ccs5 hat5 hrep5;obtain ⟨p8,c7,p9,c8,rfl,h10,h11⟩:=wZ hrep5;refine yC 6 [] [(76,.pointer (some (ad5.add 1)))]<|xN 1 hat5 [vS p9 x5.Body c8] (vS p9 x5.Body c8) rfl<|yB [] [(79,.bool (decide (k01 < (x5.Body.length:Int))))]<|zL<|yL N ?_ ?_
 · intro hc4 N;refine zV<|yG<|yM<|yK<|yC 3 [0] [(83,vS p2 p.Parts c1),(84,vI i1)]<|bE N fun x6 hy16 N=>xR rfl rfl h1 hy16 ?_;intro ad6 ccs6 hat6 hrep6;obtain ⟨p10,c9,p11,c10,rfl,h12,h13⟩:=wZ hrep6;refine yC 5 [] [(86,.pointer (some (ad6.add 1)))]<|xN 1 hat6 [vS p11 x6.Body c10] (vS p11 x6.Body c10) rfl<|yC 7 [] [(88,vI k01)]<|bE N fun x7 hy17 N=>xR rfl rfl h13 hy17 ?_;intro ad7 ccs7 hat7 hrep7;obtain ⟨p12,c11,p13,c12,p14,c13,p15,c14,rfl,h14,h15,h16,h17⟩:=rC hrep7;refine xN 0 hat7 (cStmt x7 p12 c11 p13 c12 p14 c13 p15 c14) (vA (cStmt x7 p12 c11 p13 c12 p14 c13 p15 c14)) rfl<|wU [vT ([]),z0,vI 0,vI 0,z0,vI 0,vT ([]),z0,z0] ?_;intro b1 hb1;refine xB 0 (cStmt x7 p12 c11 p13 c12 p14 c13 p15 c14) [hB b1 (cStmt x7 p12 c11 p13 c12 p14 c13 p15 c14),hB b (cProg p p1 c p2 c1)] rfl rfl rfl rfl<|yH rfl<|zL ?_;obtain ⟨y3,hy18,N⟩:=zB N;obtain ⟨s7,hy19,N⟩:=zB N;obtain ⟨s8,hy20,N⟩:=zB N;obtain ⟨y4,hy21,N⟩:=zB N;obtain ⟨s9,hy22,N⟩:=zB N;obtain ⟨s10,hy23,N⟩:=zB N;refine vC [.p (vT out6.l) [],.p (vP b1 0) [],.p (vA (cAccess x7.Write p12 c11)) [0],.q (vT y3.l),.q (vT s7.l),.q (vT s8.l),.p (vP b1 2) [],.p (vA (cExpr x7.Value p13 c12 p14 c13 p15 c14)) [0],.q (vT y4.l),.q (vT s9.l),.q (vT s10.l)] [[],[],[(1,false)],[(2,false)],[(0,false),(3,false)],[(4,false)],[],[(6,false)],[(7,false)],[(5,false),(8,false)],[(9,false)]] [hB b1 (cStmt x7 p12 c11 p13 c12 p14 c13 p15 c14),hB b (cProg p p1 c p2 c1)] [] [(10,false)] (yD [0,1]) ?_ ?_
   · refine Op<|Op<|Op<|Oq ?_<|Oq ?_<|Oq ?_<|Op<|Op<|Oq ?_<|Oq ?_<|Oq ?_<|On
     · intro I1 hf le1;refine yR [(93,vA (cAccess x7.Write p12 c11))] ?_;have H:=iS I1;have h14:=h14.mono le1;refine xS (kR x7.Write _ hy18 h14) ?_;rintro I05 hs2 v2 k2 le5 - ⟨v016,rfl,rfl,rfl⟩ -;have H:=H.trans le5;exact xI H
     · intro I1 hf le1;exact yR [(91,vT out6.l),(94,vT y3.l)]<|mB rfl hy19<|xI iR
     · intro I1 hf le1;exact yR [(95,vT s7.l)]<|mB rfl hy20<|xI iR
     · intro I1 hf le1;refine yR [(98,vA (cExpr x7.Value p13 c12 p14 c13 p15 c14))] ?_;have H:=iS I1;have h15:=h15.mono le1;have h16:=h16.mono le1;have h17:=h17.mono le1;refine xS (zBG x7.Value _ hy21 h15 h16 h17) ?_;rintro I06 hs2 v2 k2 le6 - ⟨v017,rfl,rfl,rfl⟩ -;have H:=H.trans le6;exact xI H
     · intro I1 hf le1;exact yR [(96,vT s8.l),(99,vT y4.l)]<|mB rfl hy22<|xI iR
     intro I1 hf le1;exact yR [(100,vT s9.l)]<|mB rfl hy23<|xI iR
   intro I07 le7;refine yR [(1,vP b 0),(6,vI i1),(7,vI k01),(101,vT s10.l)] ?_;have h:=h.mono le7;have h1:=h1.mono le7;have H:=H.trans le7;exact yB [] [(3,vT s10.l)]<|zR<|zL<|zP<|yB [] [(7,vI (W (k01 + 1)))]<|yT<|rM (zZ [1] rfl (by decide))<|wN [(1,vP b 0),(3,vT s10.l),(6,vI i1),(7,vI (W (k01 + 1)))]<|ih s10 (W (k01 + 1)) _ N H h h1 hg ho hx
 intro hc4 N;exact vD<|yS [(1,vP b 0),(3,vT out6.l),(6,vI i1)]<|hx _ _ (zC N).symm H
def uL (p:zH) (out4:Str) (i1:Int):Option (Str):=do
 if (decide (i1 < (p.Parts.length:Int))) then
  let s5←cat out4 (⟨[112,97,114,116,10]⟩:Str)
  let x4←idx p.Parts i1
  let y2←jJ x4.Nest
  let s6←cat s5 y2
  let out7←uK p i1 s6 0
  uL p out7 (W (i1 + 1))
 else
  pure (id out4)
 partial_fixpoint
theorem dM (p:zH):∀ (out4:Str) (i1:Int) (o:Str),uL p out4 i1=some o→∀ {B}{I0 I:Imm}{Q p1 c p2 c1}{b:Nat},I0.le I→(S4 I p1 p.Arrays c)→(S4 I p2 p.Parts c1)→NG Q→NO Q→(∀ (I':Imm) (out5:Str),o=out5→I0.le I'→T 103 B Q (.exit 4) I' [] [(3,vT out5.l)])→J Tryz.prog 103 B (nav (bodyOf Tryz.f158) [1,1,1,1,0,1,0]) Q I [hB b (cProg p p1 c p2 c1)] [(1,vP b 0),(3,vT out4.l),(6,vI i1)]:=by
 refine uL.partial_correctness p _ fun self ih out4 i1 o N B I0 I Q p1 c p2 c1 b H h h1 hg ho hx=>yW hg ho<|yI<|yK<|yB [0] [(58,.bool (decide (i1 < (p.Parts.length:Int))))]<|zL<|yL N ?_ ?_
 · intro hc3 N;refine zV<|yG<|yM<|yK<|yC 1 [] [(61,vT out4.l)]<|bE N fun s5 hy11 N=>mB rfl hy11<|yC 5 [0] [(64,vS p2 p.Parts c1),(65,vI i1)]<|bE N fun x4 hy12 N=>xR rfl rfl h1 hy12 ?_;intro ad4 ccs4 hat4 hrep4;obtain ⟨p6,c5,p7,c6,rfl,h7,h8⟩:=wZ hrep4;refine yC 7 [] [(67,.pointer (some ad4))]<|xN 0 hat4 [vS p6 x4.Nest c5] (vS p6 x4.Nest c5) rfl<|bE N fun y2 hy13 N=>xS (zFE x4.Nest _ hy13 h7) ?_;rintro I04 hs2 v2 k2 le4 - ⟨v07,rfl,rfl,rfl⟩ -;have h:=h.mono le4;have h1:=h1.mono le4;have H:=H.trans le4;obtain ⟨s6,hy14,N⟩:=zB N;refine mB rfl hy14<|yB [] [(3,vT s6.l)]<|wW [(7,vI 0)]<|wD<|wN [(1,vP b 0),(3,vT s6.l),(6,vI i1),(7,vI 0)] ?_;obtain ⟨o02,ho02,hMl2⟩:=zB N;refine dL p i1 s6 0 o02 ho02 iR h h1 (fun _ _ _ h=>hg _ _ _ h) (fun _ _ h=>ho _ _ h) ?_;intro I08 out7 heq2 le8;subst o02;have h:=h.mono le8;have h1:=h1.mono le8;have H:=H.trans le8;exact zU<|zR<|zL<|zP<|yB [] [(6,vI (W (i1 + 1)))]<|yT<|wN [(1,vP b 0),(3,vT out7.l),(6,vI (W (i1 + 1)))]<|ih out7 (W (i1 + 1)) _ hMl2 H h h1 hg ho hx
 intro hc3 N;exact vD<|wC zT<|yS [(3,vT out4.l)]<|hx _ _ (zC N).symm H
def pT (p:zH):Option (Str):=do
 let y←tH p
 if (!y) then
  pure (⟨[]⟩:Str)
 else
  let out1←uJ p (⟨[112,114,111,103,114,97,109,10]⟩:Str) 0
  let out5←uL p out1 0
  pure (id out5)
theorem zAl:∀ p r,pT p=some r→∀ {I:Imm}{p1 c p2 c1},(S4 I p1 p.Arrays c)→(S4 I p2 p.Parts c1)→RT 158 [vA (cProg p p1 c p2 c1)] I [] (tD  r):=by
 intro p r N I p1 c p2 c1 h h1;unfold pT at N;refine zX (fn:=Tryz.f158) (c:=(bodyOf Tryz.f158)) Tryz.func158 rfl rfl ?_;rintro B - -;refine yK<|tO (cProg p p1 c p2 c1) ?_;intro b hb;refine yB [] []<|yG<|yK<|yC 1 [0] [(9,vA (cProg p p1 c p2 c1))]<|bE N fun y hy N=>tQ (gV p _ hy h h1) ?_;intro I0 le;have h:=h.mono le;have h1:=h1.mono le;refine yB [] [(11,.bool (!y))]<|zL<|yL N ?_ ?_
 · intro hc N;refine yF [(2,vT ([]))]<|xP<|zN ?_;obtain rfl:=zC N;exact uM
 intro hc N;refine zV<|wW [(3,vT ([112,114,111,103,114,97,109,10]))]<|yG<|yF [(4,vI 0)]<|wD<|wN [(1,vP b 0),(3,vT ([112,114,111,103,114,97,109,10])),(4,vI 0)] ?_;obtain ⟨o01,ho01,hMl1⟩:=zB N;refine dK p (⟨[112,114,111,103,114,97,109,10]⟩:Str) 0 o01 ho01 iR h h1 (fun _ _ _ h=>h) (fun _ _ h=>h) ?_;intro I03 out1 heq1 le3;subst o01;have h:=h.mono le3;have h1:=h1.mono le3;refine zU<|yG<|yF [(6,vI 0)]<|wD<|wN [(1,vP b 0),(3,vT out1.l),(6,vI 0)] ?_;obtain ⟨o03,ho03,hMl3⟩:=zB hMl1;refine dM p out1 0 o03 ho03 iR h h1 (fun _ _ _ h=>h) (fun _ _ h=>h) ?_;intro I09 out5 heq3 le9;subst o03;refine zU<|wW [(2,vT out5.l)]<|zL<|xG ?_;obtain rfl:=zC hMl3;exact uM
instance zJI {cs}{arr:List zD}{cs1}{raws:List Raw2}{parts:List zK}{vN:Value}{nl:List zE}{vB:Value}{bl:List zJ}{csN csB:List Value}:MonoI (fun i=>L4 i cs arr cs1 raws parts vN nl vB bl csN csB):=⟨fun _ _ hl h=>h.mono hl⟩
def zA1 (r:zH×Bool):KT:=fun kk I' hs' v=>
  ∃ (v0 v1:Value),hs'=[]∧v=tupV [v0,v1]∧(∃ cs,v0=.agg ⟨cs⟩∧Rp.rep I' cs r.1)∧v1=.bool r.2
def sL (y:List Str) (p:zH) (i:Int):Option zH:=do
 if (decide ((W (i + 1)) < (y.length:Int))) then
  let x←idx y i
  let p1←jI p x
  sL y p1 (W (i + 1))
 else
  pure p
 partial_fixpoint
theorem zAM (y:List Str):∀ (p:zH) (i:Int) (o:zH),sL y p i=some o→∀ {B}{I0 I:Imm}{Q}{text:Str}{pl:Option Addr}{cl:Nat}{b b1:Nat}{p1 c cs p2 c1 cs1}{raws:List Raw2}{vN vB:Value}{nl:List zE}{bl:List zJ}{csN csB:List Value},I0.le I→(S4 I pl y cl)→L4 I cs p.Arrays cs1 raws p.Parts vN nl vB bl csN csB→(∀ l a w,¬Q (.goto l) a w)→(∀ a w,¬Q .outgrown a w) →
   (∀ (I':Imm) (p1:Option Addr) (c:Nat) (cs:List Value) (p2:Option Addr) (c1:Nat) (cs1:List Value) (raws:List Raw2) (vN vB:Value) (nl:List zE) (bl:List zJ) (csN csB:List Value),I0.le I'→L4 I' cs o.Arrays cs1 raws o.Parts vN nl vB bl csN csB→T 37 B Q (.exit 0) I' [hO zD (vS p1 o.Arrays c) cs,hO Raw2 (vS p2 raws c1) cs1,hO zE vN csN,hO zJ vB csB,hB b1 [vS p1 o.Arrays c,vS p2 raws c1],hB b zTwo] [(0,vT text.l),(2,vP b 0),(5,vP b1 0)]) →
   J Tryz.prog 37 B (nav (bodyOf Tryz.f114) [1,1,1,1,0,1,0]) Q I [hO zD (vS p1 p.Arrays c) cs,hO Raw2 (vS p2 raws c1) cs1,hO zE vN csN,hO zJ vB csB,hB b1 [vS p1 p.Arrays c,vS p2 raws c1],hB b zTwo] [(0,vT text.l),(2,vP b 0),(4,vS pl y cl),(5,vP b1 0),(6,vI i)]:=by
 refine sL.partial_correctness y _ ?_
 intro self ih p i o N B I0 I Q text pl cl b b1 p1 c cs p2 c1 cs1 raws vN vB nl bl csN csB H h hQ hg ho hx
 refine yW hg ho<|yI<|yF [(18,.bool (decide ((W (i + 1)) < (y.length:Int))))]<|zL<|yL N ?_ ?_
 · intro hc1 N
   refine zV<|yG<|yM ?_
   obtain ⟨x,hy,N⟩:=zB N
   obtain ⟨q,hy1,N⟩:=zB N
   refine vC [.p (vA [vS p1 p.Arrays c,vS p2 raws c1]) [0],.p (vS pl y cl) [],.p (vI i) [],.x (fun I' v hx=>∃ ad,v=.pointer (some ad)∧hx=[]∧(At I' ad [vT x.l])),.x (fun I' v hx=>v=vT x.l∧hx=[]),.x (fun I' v hx=>∃ (p1:Option Addr) (c:Nat) (cs:List Value) (p2:Option Addr) (c1:Nat) (cs1:List Value) (raws:List Raw2) (vN vB:Value) (nl:List zE) (bl:List zJ) (csN csB:List Value),v=vA [vS p1 q.Arrays c,vS p2 raws c1]∧hx=[hO zD (vS p1 q.Arrays c) cs,hO Raw2 (vS p2 raws c1) cs1,hO zE vN csN,hO zJ vB csB]∧L4 I' cs q.Arrays cs1 raws q.Parts vN nl vB bl csN csB)] [[],[],[],[(1,false),(2,false)],[(3,false)],[(0,false),(4,false),(7,true)]] [hB b1 [vS p1 p.Arrays c,vS p2 raws c1],hB b zTwo] [[hO zD (vS p1 p.Arrays c) cs,hO Raw2 (vS p2 raws c1) cs1,hO zE vN csN,hO zJ vB csB]] [(5,true)] (yD [4,5,0,1,2,3]) ?_ ?_
   · refine Op<|Op<|Op<|Ox ?_<|Ox ?_<|Ox (hm:=fun v hx=>by repeat' (first | exact zDw | exact zJI | refine @zGq _ _ (fun _=>?_) | refine @zGH _ _ ?_ ?_)) ?_<|On
     · intro I1 hf le1
       refine yR [(22,vS pl y cl),(23,vI i)]<|xR rfl rfl (h.mono le1) hy ?_
       intro ad ccs hat hrep
       obtain rfl:=hrep
       exact yP [] iR ⟨_,rfl,rfl,hat⟩
     · intro I1 hf le1
       refine zF ?_
       rintro _ _ ⟨ad,rfl,rfl,hat⟩
       exact oW<|zAe [(24,.pointer (some ad))]<|xN 0 hat [vT x.l] (vT x.l) rfl<|xI iR
     intro I1 hf le1
     refine zF ?_
     rintro _ _ ⟨rfl,rfl⟩
     refine zF ?_
     rintro _ _ ⟨rfl,rfl⟩
     refine zF ?_
     rintro _ _ rfl
     refine yR [(21,vA [vS p1 p.Arrays c,vS p2 raws c1]),(25,vT x.l)]<|tS [hO zD (vS p1 p.Arrays c) cs,hO Raw2 (vS p2 raws c1) cs1,hO zE vN csN,hO zJ vB csB] (hB b1 [vS p1 p.Arrays c,vS p2 raws c1]::hB b zTwo::hf) (zFD p x _ hy1 (hQ.mono le1)) ?_
     rintro I02 hs2 v2 k2 le2 - ⟨p3,c2,cs2,p4,c3,cs3,raws1,vN1,vB1,nl1,bl1,csN1,csB1,rfl,rfl,hq⟩ -
     exact yP [hO zD (vS p3 q.Arrays c2) cs2,hO Raw2 (vS p4 raws1 c3) cs3,hO zE vN1 csN1,hO zJ vB1 csB1] le2 ⟨_,_,_,_,_,_,_,_,_,_,_,_,_,rfl,rfl,hq⟩
   intro I04 le4
   refine zF ?_
   rintro _ _ ⟨p3,c2,cs2,p4,c3,cs3,raws1,vN1,vB1,nl1,bl1,csN1,csB1,rfl,rfl,hq⟩
   exact oW<|zAe [(0,vT text.l),(2,vP b 0),(4,vS pl y cl),(5,vP b1 0),(6,vI i),(26,vA [vS p3 q.Arrays c2,vS p4 raws1 c3])]<|xB 4 [vS p3 q.Arrays c2,vS p4 raws1 c3] [hO zD (vS p3 q.Arrays c2) cs2,hO Raw2 (vS p4 raws1 c3) cs3,hO zE vN1 csN1,hO zJ vB1 csB1,hB b1 [vS p3 q.Arrays c2,vS p4 raws1 c3],hB b zTwo] rfl rfl rfl rfl<|yH rfl<|zR<|zL<|zP<|yB [] [(6,vI (W (i + 1)))]<|yT<|wN [(0,vT text.l),(2,vP b 0),(4,vS pl y cl),(5,vP b1 0),(6,vI (W (i + 1)))]<|ih _ _ _ N (H.trans le4) (h.mono le4) hq hg ho hx
 intro hc1 N
 obtain rfl:=zC N
 exact vD<|yS [(0,vT text.l),(2,vP b 0),(5,vP b1 0)]<|hx _ _ _ _ _ _ _ _ _ _ _ _ _ _ H hQ
def qH (text:Str):Option (zH×Bool):=do
 let y←nQ text (10:UInt8)
 if (decide ((y.length:Int) > 42)) then
  pure ((zH.mk [] []),false)
 else
  let p←sL y (zH.mk [] []) 1
  let t34←(do
    if (text.l == ([]:List UInt8)) then
     pure true
    else
     let z←pT p
     pure (!(z.l == text.l))
      : Option Bool)
  if t34 then
   pure ((zH.mk [] []),false)
  else
   pure (p,true)
theorem gX:∀ text r,qH text=some r→∀ {I:Imm},RT 114 [vT text.l] I [] (zA1 r):=by
 intro text r N I;unfold qH at N;refine zX (fn:=Tryz.f114) (c:=(bodyOf Tryz.f114)) Tryz.func114 rfl rfl ?_;rintro B - -;refine yK<|wU zTwo ?_;intro b hb;refine yB [] []<|xD<|yC 1 [] [(7,vT text.l)]<|bE N fun y hy N=>xS (fW text (10:UInt8) _ hy) ?_;rintro I0 hs2 v2 k2 le - ⟨v0,rfl,rfl,h⟩ -;obtain ⟨pl,cl,rfl⟩:=h.form;refine yB [] [(4,vS pl y cl)]<|xD<|yC 1 [] [(9,vA zTwo)]<|wU zTwo ?_;intro b1 hb1;refine xB 0 zTwo [hB b1 zTwo,hB b zTwo] rfl rfl rfl rfl<|yH rfl<|yG<|yF [(12,.bool (decide ((y.length:Int) > 42)))]<|zL<|yL N ?_ ?_
 · intro hc N;refine yK<|yC 1 [0] [(13,vA zTwo)]<|xB 1 zTwo [hB b1 zTwo,hB b zTwo] rfl rfl rfl rfl<|yB [] [(3,vF)]<|xP<|zN ?_;obtain rfl:=zC N;exact xF ⟨_,_,(.cell 1 rfl rfl (by kernel_rfl) (.tmp rfl ResV.nil)),zT,⟨_,_,rfl,rfl,⟨_,rfl,(wV ⟨_,_,rfl,(SL.nil _),(SL.nil _)⟩)⟩,rfl⟩⟩
 intro hc N;refine zV<|yG<|yF [(6,vI 1)]<|wD<|wN [(0,vT text.l),(2,vP b 0),(4,vS pl y cl),(5,vP b1 0),(6,vI 1)]<|rM (wT (Rp.sz zJ))<|rM (wT (Rp.sz zE))<|rM (wT (Rp.sz Raw2))<|rM (wT (Rp.sz zD))<|bE N fun p hy1 N=>zAM (raws:=[]) (vN:=z0) (vB:=z0) (nl:=[]) (bl:=[]) y (zH.mk [] []) 1 p hy1 iR h ⟨RepL.nil,RepL.nil,⟨by decide,rfl,.inl ⟨rfl,rfl⟩⟩,RepL.nil,RepL.nil⟩ (fun _ _ _ h=>h) (fun _ _ h=>h) fun I1 p1 c cs p2 c1 cs1 raws vN vB nl bl csN csB le1 hQ=>xA 2 rfl ?_;intro I2 le2 hl2;have kN:=SL.of_frozen hl2 le2 hQ.n;have hQ:=hQ.mono le2;refine xA 2 rfl ?_;intro I3 le3 hl3;have kB:=SL.of_frozen hl3 le3 hQ.b;replace kN:=kN.mono le3;have hQ:=hQ.mono le3;refine xA 0 rfl ?_;intro I4 le4 hl4;have kA:=SL.of_frozen hl4 le4 hQ.arr;replace kN:=kN.mono le4;replace kB:=kB.mono le4;have hQ:=hQ.mono le4;refine xA 0 rfl ?_;intro I5 le5 hl5;have kP:SL I5 (vS p2 raws c1) p.Parts:=⟨cs1,hl5,by
   rw [kD hQ.raw];exact (hQ.lp.done kN kB).mono fun _ _=>Rp.mono le5⟩
 have e0:vS p2 raws c1=vS p2 p.Parts c1:=by simp only [vS,hQ.lp.2.1]
 rw [e0] at kP ⊢;clear e0 hl5 hl4 hl3 hl2 hQ;replace kA:=kA.mono le5;refine zU<|yG<|yI<|bE N fun t34 ht N=>yU (fun I' hs' m'=>∃ (o:Bool),t34=o∧I5.le I'∧hs'=[hB b1 (cProg p p1 c p2 c1),hB b zTwo]∧m'=[(2,vP b 0),(5,vP b1 0),(34,.bool o)]) ?_ ?_
 · refine zP<|yC 3 [] [(29,.bool (text.l == ([]:List UInt8)))] ?_;cases hc2:(text.l == ([]:List UInt8)) with
   | true =>
    have hM0:=zS hc2 ht;exact yB [] [(34,vY)]<|yS [(2,vP b 0),(5,vP b1 0),(34,vY)]<|zW ⟨_,(zC hM0).symm,Imm.le.refl _,rfl,rfl⟩
   | false =>
    have hM0:=zQ hc2 ht;obtain ⟨z,hz,hM0⟩:=zB hM0;refine yC 4 [0] [(30,vA (cProg p p1 c p2 c1))]<|xS (zAl p _ hz kA kP) ?_;rintro I6 hs2 v2 k2 le6 - ⟨v0,rfl,rfl,rfl⟩ -;exact yB [] [(34,.bool (!(z.l == text.l)))]<|yS [(2,vP b 0),(5,vP b1 0),(34,.bool (!(z.l == text.l)))]<|zW (ct hM0 le6)
 rintro I6 hs2 m2 ⟨o,rfl,le6,rfl,rfl⟩;replace kA:=kA.mono le6;replace kP:=kP.mono le6;refine zL<|yL N ?_ ?_
 · intro hc2 N;refine yK<|yC 1 [] [(35,vA zTwo)]<|xB 1 zTwo [hB b1 (cProg p p1 c p2 c1),hB b zTwo] rfl rfl rfl rfl<|yB [] [(3,vF)]<|xP<|zN ?_;obtain rfl:=zC N;exact xF ⟨_,_,(.cell 1 rfl rfl (by kernel_rfl) (.tmp rfl ResV.nil)),zT,⟨_,_,rfl,rfl,⟨_,rfl,(wV ⟨_,_,rfl,(SL.nil _),(SL.nil _)⟩)⟩,rfl⟩⟩
 intro hc2 N;refine zV<|xD<|yC 1 [0] [(36,vA (cProg p p1 c p2 c1))]<|xB 1 (cProg p p1 c p2 c1) [hB b1 (cProg p p1 c p2 c1),hB b (cProg p p1 c p2 c1)] rfl rfl rfl rfl<|yB [] [(3,vY)]<|zL<|xG ?_;obtain rfl:=zC N;exact xF ⟨_,_,(.cell 1 rfl rfl (by kernel_rfl) (.tmp rfl ResV.nil)),zT,⟨_,_,rfl,rfl,⟨_,rfl,(wV ⟨_,_,rfl,kA,kP⟩)⟩,rfl⟩⟩
def zDl (b0:Nat) (r:zH×zM):KT:=fun kk I' hs' v=>
  ∃ v0 k0,hs'=[.blk b0 ⟨k0⟩]∧v=tupV [v0]∧(∃ cs,v0=.agg ⟨cs⟩∧Rp.rep I' cs r.1)∧Rp.rep I' k0 r.2
def jK (r0:zM):Option (zH×zM):=do
 let (y1,y2)←rD r0 ([(⟨[112,97,114,116,10,102,111,114,32,48,32,51,10,102,111,114,32,48,32,52,10,66,91,105,44,106,93,61,40,66,91,105,44,106,93,43,123,50,42,105,43,106,125,41,10]⟩:Str),(⟨[112,97,114,116,10,102,111,114,32,48,32,51,10,102,111,114,32,48,32,52,10,66,91,105,44,106,43,49,93,61,40,66,91,105,44,106,93,43,49,41,10]⟩:Str),(⟨[112,97,114,116,10,102,111,114,32,48,32,51,10,102,111,114,32,49,32,52,10,66,91,105,43,49,44,106,45,49,93,61,40,66,91,105,44,106,93,42,50,41,10]⟩:Str),(⟨[112,97,114,116,10,102,111,114,32,48,32,51,10,102,111,114,32,49,32,53,10,66,91,105,43,49,44,106,93,61,40,66,91,105,44,106,45,49,93,43,66,91,105,44,106,93,41,10,65,91,105,93,61,123,106,125,10]⟩:Str),(⟨[112,97,114,116,10,102,111,114,32,48,32,52,10,65,91,105,93,61,40,123,105,125,42,50,41,10,112,97,114,116,10,102,111,114,32,48,32,52,10,65,91,105,43,49,93,61,40,65,91,105,93,43,67,91,48,93,41,10]⟩:Str),(⟨[112,97,114,116,10,102,111,114,32,48,32,53,10,65,91,105,93,61,40,65,91,105,93,43,51,41,10,66,91,48,44,105,93,61,65,91,105,93,10]⟩:Str),(⟨[112,97,114,116,10,102,111,114,32,48,32,51,10,102,111,114,32,48,32,51,10,67,91,105,93,61,40,67,91,105,93,43,66,91,105,44,106,93,41,10,112,97,114,116,10,102,111,114,32,48,32,51,10,102,111,114,32,48,32,51,10,65,91,106,93,61,40,65,91,106,93,45,66,91,106,44,105,93,41,10]⟩:Str),(⟨[112,97,114,116,10,102,111,114,32,48,32,52,10,102,111,114,32,48,32,105,43,49,10,66,91,105,44,106,93,61,40,65,91,106,93,42,67,91,48,93,41,10]⟩:Str)]:List Str)
 let s←cat (⟨[112,114,111,103,114,97,109,10,97,114,114,97,121,32,65,32,54,10,97,114,114,97,121,32,66,32,52,32,53,10,97,114,114,97,121,32,67,32,51,10]⟩:Str) y1
 let (y4,y5)←qH s
 let (t20,x)←(do
   if y5 then
    let (y7,y8)←yV y2 3
    pure ((decide (y7 > 0)),y8)
   else
    pure (false,y2)
     : Option (Bool×zM))
 if t20 then
  pure (y4,x)
 else
  let (y10,y11)←jG x
  pure (y10,y11)
theorem zFF:∀ r0 r,jK r0=some r→∀ {I:Imm}{r01:Nat}{p c},(S4 I p r0.b c)→RT 115 [vP r01 0] I [hB r01 (cRd r0 p c)] (zDl r01 r):=by
 intro r0 r N I r01 p c h;unfold jK at N;refine zX (fn:=Tryz.f115) (c:=(bodyOf Tryz.f115)) Tryz.func115 rfl rfl ?_;rintro B - -;have H:=iS I;refine yK<|wU zTwo ?_;intro b hb;refine yH rfl<|xD<|yC 1 [] [(6,vP r01 0)]<|xU [vT ([112,97,114,116,10,102,111,114,32,48,32,51,10,102,111,114,32,48,32,52,10,66,91,105,44,106,93,61,40,66,91,105,44,106,93,43,123,50,42,105,43,106,125,41,10]),vT ([112,97,114,116,10,102,111,114,32,48,32,51,10,102,111,114,32,48,32,52,10,66,91,105,44,106,43,49,93,61,40,66,91,105,44,106,93,43,49,41,10]),vT ([112,97,114,116,10,102,111,114,32,48,32,51,10,102,111,114,32,49,32,52,10,66,91,105,43,49,44,106,45,49,93,61,40,66,91,105,44,106,93,42,50,41,10]),vT ([112,97,114,116,10,102,111,114,32,48,32,51,10,102,111,114,32,49,32,53,10,66,91,105,43,49,44,106,93,61,40,66,91,105,44,106,45,49,93,43,66,91,105,44,106,93,41,10,65,91,105,93,61,123,106,125,10]),vT ([112,97,114,116,10,102,111,114,32,48,32,52,10,65,91,105,93,61,40,123,105,125,42,50,41,10,112,97,114,116,10,102,111,114,32,48,32,52,10,65,91,105,43,49,93,61,40,65,91,105,93,43,67,91,48,93,41,10]),vT ([112,97,114,116,10,102,111,114,32,48,32,53,10,65,91,105,93,61,40,65,91,105,93,43,51,41,10,66,91,48,44,105,93,61,65,91,105,93,10]),vT ([112,97,114,116,10,102,111,114,32,48,32,51,10,102,111,114,32,48,32,51,10,67,91,105,93,61,40,67,91,105,93,43,66,91,105,44,106,93,41,10,112,97,114,116,10,102,111,114,32,48,32,51,10,102,111,114,32,48,32,51,10,65,91,106,93,61,40,65,91,106,93,45,66,91,106,44,105,93,41,10]),vT ([112,97,114,116,10,102,111,114,32,48,32,52,10,102,111,114,32,48,32,105,43,49,10,66,91,105,44,106,93,61,40,65,91,106,93,42,67,91,48,93,41,10])] Str ?_;intro b1 hb1;have h1:RL I [vT ([112,97,114,116,10,102,111,114,32,48,32,51,10,102,111,114,32,48,32,52,10,66,91,105,44,106,93,61,40,66,91,105,44,106,93,43,123,50,42,105,43,106,125,41,10]),vT ([112,97,114,116,10,102,111,114,32,48,32,51,10,102,111,114,32,48,32,52,10,66,91,105,44,106,43,49,93,61,40,66,91,105,44,106,93,43,49,41,10]),vT ([112,97,114,116,10,102,111,114,32,48,32,51,10,102,111,114,32,49,32,52,10,66,91,105,43,49,44,106,45,49,93,61,40,66,91,105,44,106,93,42,50,41,10]),vT ([112,97,114,116,10,102,111,114,32,48,32,51,10,102,111,114,32,49,32,53,10,66,91,105,43,49,44,106,93,61,40,66,91,105,44,106,45,49,93,43,66,91,105,44,106,93,41,10,65,91,105,93,61,123,106,125,10]),vT ([112,97,114,116,10,102,111,114,32,48,32,52,10,65,91,105,93,61,40,123,105,125,42,50,41,10,112,97,114,116,10,102,111,114,32,48,32,52,10,65,91,105,43,49,93,61,40,65,91,105,93,43,67,91,48,93,41,10]),vT ([112,97,114,116,10,102,111,114,32,48,32,53,10,65,91,105,93,61,40,65,91,105,93,43,51,41,10,66,91,48,44,105,93,61,65,91,105,93,10]),vT ([112,97,114,116,10,102,111,114,32,48,32,51,10,102,111,114,32,48,32,51,10,67,91,105,93,61,40,67,91,105,93,43,66,91,105,44,106,93,41,10,112,97,114,116,10,102,111,114,32,48,32,51,10,102,111,114,32,48,32,51,10,65,91,106,93,61,40,65,91,106,93,45,66,91,106,44,105,93,41,10]),vT ([112,97,114,116,10,102,111,114,32,48,32,52,10,102,111,114,32,48,32,105,43,49,10,66,91,105,44,106,93,61,40,65,91,106,93,42,67,91,48,93,41,10])] ([(⟨[112,97,114,116,10,102,111,114,32,48,32,51,10,102,111,114,32,48,32,52,10,66,91,105,44,106,93,61,40,66,91,105,44,106,93,43,123,50,42,105,43,106,125,41,10]⟩:Str),(⟨[112,97,114,116,10,102,111,114,32,48,32,51,10,102,111,114,32,48,32,52,10,66,91,105,44,106,43,49,93,61,40,66,91,105,44,106,93,43,49,41,10]⟩:Str),(⟨[112,97,114,116,10,102,111,114,32,48,32,51,10,102,111,114,32,49,32,52,10,66,91,105,43,49,44,106,45,49,93,61,40,66,91,105,44,106,93,42,50,41,10]⟩:Str),(⟨[112,97,114,116,10,102,111,114,32,48,32,51,10,102,111,114,32,49,32,53,10,66,91,105,43,49,44,106,93,61,40,66,91,105,44,106,45,49,93,43,66,91,105,44,106,93,41,10,65,91,105,93,61,123,106,125,10]⟩:Str),(⟨[112,97,114,116,10,102,111,114,32,48,32,52,10,65,91,105,93,61,40,123,105,125,42,50,41,10,112,97,114,116,10,102,111,114,32,48,32,52,10,65,91,105,43,49,93,61,40,65,91,105,93,43,67,91,48,93,41,10]⟩:Str),(⟨[112,97,114,116,10,102,111,114,32,48,32,53,10,65,91,105,93,61,40,65,91,105,93,43,51,41,10,66,91,48,44,105,93,61,65,91,105,93,10]⟩:Str),(⟨[112,97,114,116,10,102,111,114,32,48,32,51,10,102,111,114,32,48,32,51,10,67,91,105,93,61,40,67,91,105,93,43,66,91,105,44,106,93,41,10,112,97,114,116,10,102,111,114,32,48,32,51,10,102,111,114,32,48,32,51,10,65,91,106,93,61,40,65,91,106,93,45,66,91,106,44,105,93,41,10]⟩:Str),(⟨[112,97,114,116,10,102,111,114,32,48,32,52,10,102,111,114,32,48,32,105,43,49,10,66,91,105,44,106,93,61,40,65,91,106,93,42,67,91,48,93,41,10]⟩:Str)]:List Str):=⟨[vT ([112,97,114,116,10,102,111,114,32,48,32,51,10,102,111,114,32,48,32,52,10,66,91,105,44,106,93,61,40,66,91,105,44,106,93,43,123,50,42,105,43,106,125,41,10])],_,rfl,rfl,rfl,⟨[vT ([112,97,114,116,10,102,111,114,32,48,32,51,10,102,111,114,32,48,32,52,10,66,91,105,44,106,43,49,93,61,40,66,91,105,44,106,93,43,49,41,10])],_,rfl,rfl,rfl,⟨[vT ([112,97,114,116,10,102,111,114,32,48,32,51,10,102,111,114,32,49,32,52,10,66,91,105,43,49,44,106,45,49,93,61,40,66,91,105,44,106,93,42,50,41,10])],_,rfl,rfl,rfl,⟨[vT ([112,97,114,116,10,102,111,114,32,48,32,51,10,102,111,114,32,49,32,53,10,66,91,105,43,49,44,106,93,61,40,66,91,105,44,106,45,49,93,43,66,91,105,44,106,93,41,10,65,91,105,93,61,123,106,125,10])],_,rfl,rfl,rfl,⟨[vT ([112,97,114,116,10,102,111,114,32,48,32,52,10,65,91,105,93,61,40,123,105,125,42,50,41,10,112,97,114,116,10,102,111,114,32,48,32,52,10,65,91,105,43,49,93,61,40,65,91,105,93,43,67,91,48,93,41,10])],_,rfl,rfl,rfl,⟨[vT ([112,97,114,116,10,102,111,114,32,48,32,53,10,65,91,105,93,61,40,65,91,105,93,43,51,41,10,66,91,48,44,105,93,61,65,91,105,93,10])],_,rfl,rfl,rfl,⟨[vT ([112,97,114,116,10,102,111,114,32,48,32,51,10,102,111,114,32,48,32,51,10,67,91,105,93,61,40,67,91,105,93,43,66,91,105,44,106,93,41,10,112,97,114,116,10,102,111,114,32,48,32,51,10,102,111,114,32,48,32,51,10,65,91,106,93,61,40,65,91,106,93,45,66,91,106,44,105,93,41,10])],_,rfl,rfl,rfl,⟨[vT ([112,97,114,116,10,102,111,114,32,48,32,52,10,102,111,114,32,48,32,105,43,49,10,66,91,105,44,106,93,61,40,65,91,106,93,42,67,91,48,93,41,10])],_,rfl,rfl,rfl,rfl⟩⟩⟩⟩⟩⟩⟩⟩;refine yJ 0 rfl ?_;intro I0 le hl0;have h2:=SL.of_frozen hl0 le h1;have h:=h.mono le;have H:=H.trans le;refine sU (yD [1,0] (hs':=[hB r01 (cRd r0 p c),hB b zTwo])) ?_;obtain ⟨⟨y1,y2⟩,hy,N⟩:=zB N;refine tS [hB r01 (cRd r0 p c)] [hB b zTwo] (mC r0 ([(⟨[112,97,114,116,10,102,111,114,32,48,32,51,10,102,111,114,32,48,32,52,10,66,91,105,44,106,93,61,40,66,91,105,44,106,93,43,123,50,42,105,43,106,125,41,10]⟩:Str),(⟨[112,97,114,116,10,102,111,114,32,48,32,51,10,102,111,114,32,48,32,52,10,66,91,105,44,106,43,49,93,61,40,66,91,105,44,106,93,43,49,41,10]⟩:Str),(⟨[112,97,114,116,10,102,111,114,32,48,32,51,10,102,111,114,32,49,32,52,10,66,91,105,43,49,44,106,45,49,93,61,40,66,91,105,44,106,93,42,50,41,10]⟩:Str),(⟨[112,97,114,116,10,102,111,114,32,48,32,51,10,102,111,114,32,49,32,53,10,66,91,105,43,49,44,106,93,61,40,66,91,105,44,106,45,49,93,43,66,91,105,44,106,93,41,10,65,91,105,93,61,123,106,125,10]⟩:Str),(⟨[112,97,114,116,10,102,111,114,32,48,32,52,10,65,91,105,93,61,40,123,105,125,42,50,41,10,112,97,114,116,10,102,111,114,32,48,32,52,10,65,91,105,43,49,93,61,40,65,91,105,93,43,67,91,48,93,41,10]⟩:Str),(⟨[112,97,114,116,10,102,111,114,32,48,32,53,10,65,91,105,93,61,40,65,91,105,93,43,51,41,10,66,91,48,44,105,93,61,65,91,105,93,10]⟩:Str),(⟨[112,97,114,116,10,102,111,114,32,48,32,51,10,102,111,114,32,48,32,51,10,67,91,105,93,61,40,67,91,105,93,43,66,91,105,44,106,93,41,10,112,97,114,116,10,102,111,114,32,48,32,51,10,102,111,114,32,48,32,51,10,65,91,106,93,61,40,65,91,106,93,45,66,91,106,44,105,93,41,10]⟩:Str),(⟨[112,97,114,116,10,102,111,114,32,48,32,52,10,102,111,114,32,48,32,105,43,49,10,66,91,105,44,106,93,61,40,65,91,106,93,42,67,91,48,93,41,10]⟩:Str)]:List Str) _ hy h h2) ?_;rintro I01 hs2 v2 k2 le1 - ⟨v0,kk,rfl,rfl,rfl,h4⟩ -;have H:=H.trans le1;obtain ⟨p1,c1,rfl,h5⟩:=yE h4;refine yB [] [(3,vT y1.l)]<|xD<|yC 1 [] [(10,vT y1.l)]<|bE N fun s hy1 N=>mB rfl hy1 ?_;obtain ⟨⟨y4,y5⟩,hy2,N⟩:=zB N;refine xS (gX s _ hy2 ) ?_;rintro I02 hs2 v2 k2 le2 - ⟨v02,v03,rfl,rfl,⟨cs,rfl,h6⟩,rfl⟩ -;have h5:=h5.mono le2;have H:=H.trans le2;obtain ⟨p2,c2,p3,c3,rfl,h8,h9⟩:=oZ h6;refine yC 6 [] [(13,vA (cProg y4 p2 c2 p3 c3)),(14,.bool y5)]<|wU zTwo ?_;intro b2 hb2;refine xB 0 (cProg y4 p2 c2 p3 c3) [hB b2 (cProg y4 p2 c2 p3 c3),hB r01 (cRd y2 p1 c1),hB b zTwo] rfl rfl rfl rfl<|yB [] [(5,.bool y5)]<|yG<|yI ?_;obtain ⟨o0,ho0,hMc⟩:=zB N;refine yU (fun I' hs' m'=>∃ (t20:Bool) (x:zM) (p4:Option Addr) (c4:Nat),o0=(t20,x)∧I02.le I'∧(S4 I' p4 x.b c4)∧hs'=[hB b2 (cProg y4 p2 c2 p3 c3),hB r01 (cRd x p4 c4),hB b zTwo]∧m'=[(0,vP r01 0),(2,vP b 0),(4,vP b2 0),(20,.bool t20)]) ?_ ?_
 · have H:=iS I02;refine zP<|yC 2 [] [(16,.bool y5)] ?_;cases hc:y5 with
   | true =>
    have hM0:=zS hc ho0
    try rw [hc]
    refine yC 3 [] [(17,vP r01 0)]<|sU (yD [1,0,2] (hs':=[hB r01 (cRd y2 p1 c1),hB b2 (cProg y4 p2 c2 p3 c3),hB b zTwo])) ?_;obtain ⟨⟨y7,y8⟩,hy3,N⟩:=zB hM0;refine tS [hB r01 (cRd y2 p1 c1)] [hB b2 (cProg y4 p2 c2 p3 c3),hB b zTwo] (xQ y2 3 _ hy3 h5) ?_;rintro I04 hs2 v2 k2 le3 - ⟨v06,kk1,rfl,rfl,rfl,h12⟩ -;have H:=H.trans le3;obtain ⟨p5,c5,rfl,h13⟩:=yE h12;exact yB [] [(20,.bool (decide (y7 > 0)))]<|wC (zZ [1,0,2] rfl (by decide))<|yS [(0,vP r01 0),(2,vP b 0),(4,vP b2 0),(20,.bool (decide (y7 > 0)))]<|zW ⟨_,_,_,_,(zC N).symm,H,h13,rfl,rfl⟩
   | false =>
    have hM01:=zQ hc ho0
    try rw [hc]
    exact yB [] [(20,vF)]<|yS [(0,vP r01 0),(2,vP b 0),(4,vP b2 0),(20,vF)]<|zW ⟨_,_,_,_,(zC hM01).symm,H,h5,rfl,rfl⟩
 rintro I03 hs2 m2 ⟨t20,x,p4,c4,heq,le4,h10,rfl,rfl⟩;subst o0;have h8:=h8.mono le4;have h9:=h9.mono le4;refine zL<|yL hMc ?_ ?_
 · intro hc1 N;refine yK<|yC 1 [0] [(21,vA (cProg y4 p2 c2 p3 c3))]<|xB 2 (cProg y4 p2 c2 p3 c3) [hB b2 (cProg y4 p2 c2 p3 c3),hB r01 (cRd x p4 c4),hB b (cProg y4 p2 c2 p3 c3)] rfl rfl rfl rfl<|yH rfl<|xP<|zN ?_;obtain rfl:=zC N;exact xF ⟨_,_,(.cell 2 rfl rfl (by kernel_rfl) ResV.nil),(zZ [1] rfl (by decide)),⟨_,_,rfl,rfl,⟨_,rfl,(wV ⟨_,_,rfl,h8,h9⟩)⟩,(yO ⟨_,rfl,h10⟩)⟩⟩
 intro hc1 N;refine zV<|xD<|yC 1 [] [(22,vP r01 0)]<|sU (yD [1,0,2] (hs':=[hB r01 (cRd x p4 c4),hB b2 (cProg y4 p2 c2 p3 c3),hB b zTwo])) ?_;obtain ⟨⟨y10,y11⟩,hy4,N⟩:=zB N;refine tS [hB r01 (cRd x p4 c4)] [hB b2 (cProg y4 p2 c2 p3 c3),hB b zTwo] (zFA x _ hy4 h10) ?_;rintro I05 hs2 v2 k2 le5 - ⟨v08,kk2,rfl,rfl,⟨cs1,rfl,h14⟩,h15⟩ -;obtain ⟨p6,c6,p7,c7,rfl,h16,h17⟩:=oZ h14;obtain ⟨p8,c8,rfl,h18⟩:=yE h15;refine xB 2 (cProg y10 p6 c6 p7 c7) [hB r01 (cRd y11 p8 c8),hB b2 (cProg y4 p2 c2 p3 c3),hB b (cProg y10 p6 c6 p7 c7)] rfl rfl rfl rfl<|yH rfl<|zL<|xG ?_;obtain rfl:=zC N;exact xF ⟨_,_,(.cell 2 rfl rfl (by kernel_rfl) ResV.nil),(zZ [0] rfl (by decide)),⟨_,_,rfl,rfl,⟨_,rfl,(wV ⟨_,_,rfl,h16,h17⟩)⟩,(yO ⟨_,rfl,h18⟩)⟩⟩
def zDD (b0:Nat) (r:zH×zM):KT:=fun kk I' hs' v=>
  ∃ v0 k0,hs'=[.blk b0 ⟨k0⟩]∧v=tupV [v0]∧(∃ cs,v0=.agg ⟨cs⟩∧Rp.rep I' cs r.1)∧Rp.rep I' k0 r.2
def eC (r0:zM):Option (zH×zM):=do
 let (y1,y2)←rD r0 ([(⟨[112,97,114,116,10,102,111,114,32,48,32,52,10,65,91,105,93,61,123,105,125,10,112,97,114,116,10,102,111,114,32,48,32,51,10,67,91,105,93,61,40,67,91,105,93,43,49,41,10,112,97,114,116,10,102,111,114,32,48,32,52,10,66,91,48,44,105,93,61,65,91,105,93,10]⟩:Str),(⟨[112,97,114,116,10,102,111,114,32,48,32,52,10,65,91,105,93,61,123,50,42,105,125,10,112,97,114,116,10,102,111,114,32,48,32,53,10,65,91,105,93,61,51,10,112,97,114,116,10,67,91,48,93,61,65,91,49,93,10]⟩:Str),(⟨[112,97,114,116,10,102,111,114,32,48,32,51,10,67,91,105,93,61,66,91,105,44,48,93,10,112,97,114,116,10,102,111,114,32,48,32,51,10,66,91,105,44,49,93,61,67,91,105,93,10]⟩:Str)]:List Str)
 let s←cat (⟨[112,114,111,103,114,97,109,10,97,114,114,97,121,32,65,32,54,10,97,114,114,97,121,32,66,32,52,32,53,10,97,114,114,97,121,32,67,32,51,10]⟩:Str) y1
 let (y4,y5)←qH s
 let (t20,x)←(do
   if y5 then
    let (y7,y8)←yV y2 2
    pure ((y7 == 0),y8)
   else
    pure (false,y2)
     : Option (Bool×zM))
 if t20 then
  pure (y4,x)
 else
  let (y10,y11)←jK x
  pure (y10,y11)
theorem zES:∀ r0 r,eC r0=some r→∀ {I:Imm}{r01:Nat}{p c},(S4 I p r0.b c)→RT 127 [vP r01 0] I [hB r01 (cRd r0 p c)] (zDD r01 r):=by
 intro r0 r N I r01 p c h;unfold eC at N;refine zX (fn:=Tryz.f127) (c:=(bodyOf Tryz.f127)) Tryz.func127 rfl rfl ?_;rintro B - -;have H:=iS I;refine yK<|wU zTwo ?_;intro b hb;refine yH rfl<|xD<|yC 1 [] [(6,vP r01 0)]<|xU [vT ([112,97,114,116,10,102,111,114,32,48,32,52,10,65,91,105,93,61,123,105,125,10,112,97,114,116,10,102,111,114,32,48,32,51,10,67,91,105,93,61,40,67,91,105,93,43,49,41,10,112,97,114,116,10,102,111,114,32,48,32,52,10,66,91,48,44,105,93,61,65,91,105,93,10]),vT ([112,97,114,116,10,102,111,114,32,48,32,52,10,65,91,105,93,61,123,50,42,105,125,10,112,97,114,116,10,102,111,114,32,48,32,53,10,65,91,105,93,61,51,10,112,97,114,116,10,67,91,48,93,61,65,91,49,93,10]),vT ([112,97,114,116,10,102,111,114,32,48,32,51,10,67,91,105,93,61,66,91,105,44,48,93,10,112,97,114,116,10,102,111,114,32,48,32,51,10,66,91,105,44,49,93,61,67,91,105,93,10])] Str ?_;intro b1 hb1;have h1:RL I [vT ([112,97,114,116,10,102,111,114,32,48,32,52,10,65,91,105,93,61,123,105,125,10,112,97,114,116,10,102,111,114,32,48,32,51,10,67,91,105,93,61,40,67,91,105,93,43,49,41,10,112,97,114,116,10,102,111,114,32,48,32,52,10,66,91,48,44,105,93,61,65,91,105,93,10]),vT ([112,97,114,116,10,102,111,114,32,48,32,52,10,65,91,105,93,61,123,50,42,105,125,10,112,97,114,116,10,102,111,114,32,48,32,53,10,65,91,105,93,61,51,10,112,97,114,116,10,67,91,48,93,61,65,91,49,93,10]),vT ([112,97,114,116,10,102,111,114,32,48,32,51,10,67,91,105,93,61,66,91,105,44,48,93,10,112,97,114,116,10,102,111,114,32,48,32,51,10,66,91,105,44,49,93,61,67,91,105,93,10])] ([(⟨[112,97,114,116,10,102,111,114,32,48,32,52,10,65,91,105,93,61,123,105,125,10,112,97,114,116,10,102,111,114,32,48,32,51,10,67,91,105,93,61,40,67,91,105,93,43,49,41,10,112,97,114,116,10,102,111,114,32,48,32,52,10,66,91,48,44,105,93,61,65,91,105,93,10]⟩:Str),(⟨[112,97,114,116,10,102,111,114,32,48,32,52,10,65,91,105,93,61,123,50,42,105,125,10,112,97,114,116,10,102,111,114,32,48,32,53,10,65,91,105,93,61,51,10,112,97,114,116,10,67,91,48,93,61,65,91,49,93,10]⟩:Str),(⟨[112,97,114,116,10,102,111,114,32,48,32,51,10,67,91,105,93,61,66,91,105,44,48,93,10,112,97,114,116,10,102,111,114,32,48,32,51,10,66,91,105,44,49,93,61,67,91,105,93,10]⟩:Str)]:List Str):=⟨[vT ([112,97,114,116,10,102,111,114,32,48,32,52,10,65,91,105,93,61,123,105,125,10,112,97,114,116,10,102,111,114,32,48,32,51,10,67,91,105,93,61,40,67,91,105,93,43,49,41,10,112,97,114,116,10,102,111,114,32,48,32,52,10,66,91,48,44,105,93,61,65,91,105,93,10])],_,rfl,rfl,rfl,⟨[vT ([112,97,114,116,10,102,111,114,32,48,32,52,10,65,91,105,93,61,123,50,42,105,125,10,112,97,114,116,10,102,111,114,32,48,32,53,10,65,91,105,93,61,51,10,112,97,114,116,10,67,91,48,93,61,65,91,49,93,10])],_,rfl,rfl,rfl,⟨[vT ([112,97,114,116,10,102,111,114,32,48,32,51,10,67,91,105,93,61,66,91,105,44,48,93,10,112,97,114,116,10,102,111,114,32,48,32,51,10,66,91,105,44,49,93,61,67,91,105,93,10])],_,rfl,rfl,rfl,rfl⟩⟩⟩;refine yJ 0 rfl ?_;intro I0 le hl0;have h2:=SL.of_frozen hl0 le h1;have h:=h.mono le;have H:=H.trans le;refine sU (yD [1,0] (hs':=[hB r01 (cRd r0 p c),hB b zTwo])) ?_;obtain ⟨⟨y1,y2⟩,hy,N⟩:=zB N;refine tS [hB r01 (cRd r0 p c)] [hB b zTwo] (mC r0 ([(⟨[112,97,114,116,10,102,111,114,32,48,32,52,10,65,91,105,93,61,123,105,125,10,112,97,114,116,10,102,111,114,32,48,32,51,10,67,91,105,93,61,40,67,91,105,93,43,49,41,10,112,97,114,116,10,102,111,114,32,48,32,52,10,66,91,48,44,105,93,61,65,91,105,93,10]⟩:Str),(⟨[112,97,114,116,10,102,111,114,32,48,32,52,10,65,91,105,93,61,123,50,42,105,125,10,112,97,114,116,10,102,111,114,32,48,32,53,10,65,91,105,93,61,51,10,112,97,114,116,10,67,91,48,93,61,65,91,49,93,10]⟩:Str),(⟨[112,97,114,116,10,102,111,114,32,48,32,51,10,67,91,105,93,61,66,91,105,44,48,93,10,112,97,114,116,10,102,111,114,32,48,32,51,10,66,91,105,44,49,93,61,67,91,105,93,10]⟩:Str)]:List Str) _ hy h h2) ?_;rintro I01 hs2 v2 k2 le1 - ⟨v0,kk,rfl,rfl,rfl,h4⟩ -;have H:=H.trans le1;obtain ⟨p1,c1,rfl,h5⟩:=yE h4;refine yB [] [(3,vT y1.l)]<|xD<|yC 1 [] [(10,vT y1.l)]<|bE N fun s hy1 N=>mB rfl hy1 ?_;obtain ⟨⟨y4,y5⟩,hy2,N⟩:=zB N;refine xS (gX s _ hy2 ) ?_;rintro I02 hs2 v2 k2 le2 - ⟨v02,v03,rfl,rfl,⟨cs,rfl,h6⟩,rfl⟩ -;have h5:=h5.mono le2;have H:=H.trans le2;obtain ⟨p2,c2,p3,c3,rfl,h8,h9⟩:=oZ h6;refine yC 6 [] [(13,vA (cProg y4 p2 c2 p3 c3)),(14,.bool y5)]<|wU zTwo ?_;intro b2 hb2;refine xB 0 (cProg y4 p2 c2 p3 c3) [hB b2 (cProg y4 p2 c2 p3 c3),hB r01 (cRd y2 p1 c1),hB b zTwo] rfl rfl rfl rfl<|yB [] [(5,.bool y5)]<|yG<|yI ?_;obtain ⟨o0,ho0,hMc⟩:=zB N;refine yU (fun I' hs' m'=>∃ (t20:Bool) (x:zM) (p4:Option Addr) (c4:Nat),o0=(t20,x)∧I02.le I'∧(S4 I' p4 x.b c4)∧hs'=[hB b2 (cProg y4 p2 c2 p3 c3),hB r01 (cRd x p4 c4),hB b zTwo]∧m'=[(0,vP r01 0),(2,vP b 0),(4,vP b2 0),(20,.bool t20)]) ?_ ?_
 · have H:=iS I02;refine zP<|yC 2 [] [(16,.bool y5)] ?_;cases hc:y5 with
   | true =>
    have hM0:=zS hc ho0
    try rw [hc]
    refine yC 3 [] [(17,vP r01 0)]<|sU (yD [1,0,2] (hs':=[hB r01 (cRd y2 p1 c1),hB b2 (cProg y4 p2 c2 p3 c3),hB b zTwo])) ?_;obtain ⟨⟨y7,y8⟩,hy3,N⟩:=zB hM0;refine tS [hB r01 (cRd y2 p1 c1)] [hB b2 (cProg y4 p2 c2 p3 c3),hB b zTwo] (xQ y2 2 _ hy3 h5) ?_;rintro I04 hs2 v2 k2 le3 - ⟨v06,kk1,rfl,rfl,rfl,h12⟩ -;have H:=H.trans le3;obtain ⟨p5,c5,rfl,h13⟩:=yE h12;exact yB [] [(20,.bool (y7 == 0))]<|wC (zZ [1,0,2] rfl (by decide))<|yS [(0,vP r01 0),(2,vP b 0),(4,vP b2 0),(20,.bool (y7 == 0))]<|zW ⟨_,_,_,_,(zC N).symm,H,h13,rfl,rfl⟩
   | false =>
    have hM01:=zQ hc ho0
    try rw [hc]
    exact yB [] [(20,vF)]<|yS [(0,vP r01 0),(2,vP b 0),(4,vP b2 0),(20,vF)]<|zW ⟨_,_,_,_,(zC hM01).symm,H,h5,rfl,rfl⟩
 rintro I03 hs2 m2 ⟨t20,x,p4,c4,heq,le4,h10,rfl,rfl⟩;subst o0;have h8:=h8.mono le4;have h9:=h9.mono le4;refine zL<|yL hMc ?_ ?_
 · intro hc1 N;refine yK<|yC 1 [0] [(21,vA (cProg y4 p2 c2 p3 c3))]<|xB 2 (cProg y4 p2 c2 p3 c3) [hB b2 (cProg y4 p2 c2 p3 c3),hB r01 (cRd x p4 c4),hB b (cProg y4 p2 c2 p3 c3)] rfl rfl rfl rfl<|yH rfl<|xP<|zN ?_;obtain rfl:=zC N;exact xF ⟨_,_,(.cell 2 rfl rfl (by kernel_rfl) ResV.nil),(zZ [1] rfl (by decide)),⟨_,_,rfl,rfl,⟨_,rfl,(wV ⟨_,_,rfl,h8,h9⟩)⟩,(yO ⟨_,rfl,h10⟩)⟩⟩
 intro hc1 N;refine zV<|xD<|yC 1 [] [(22,vP r01 0)]<|sU (yD [1,0,2] (hs':=[hB r01 (cRd x p4 c4),hB b2 (cProg y4 p2 c2 p3 c3),hB b zTwo])) ?_;obtain ⟨⟨y10,y11⟩,hy4,N⟩:=zB N;refine tS [hB r01 (cRd x p4 c4)] [hB b2 (cProg y4 p2 c2 p3 c3),hB b zTwo] (zFF x _ hy4 h10) ?_;rintro I05 hs2 v2 k2 le5 - ⟨v08,kk2,rfl,rfl,⟨cs1,rfl,h14⟩,h15⟩ -;obtain ⟨p6,c6,p7,c7,rfl,h16,h17⟩:=oZ h14;obtain ⟨p8,c8,rfl,h18⟩:=yE h15;refine xB 2 (cProg y10 p6 c6 p7 c7) [hB r01 (cRd y11 p8 c8),hB b2 (cProg y4 p2 c2 p3 c3),hB b (cProg y10 p6 c6 p7 c7)] rfl rfl rfl rfl<|yH rfl<|zL<|xG ?_;obtain rfl:=zC N;exact xF ⟨_,_,(.cell 2 rfl rfl (by kernel_rfl) ResV.nil),(zZ [0] rfl (by decide)),⟨_,_,rfl,rfl,⟨_,rfl,(wV ⟨_,_,rfl,h16,h17⟩)⟩,(yO ⟨_,rfl,h18⟩)⟩⟩
def zDE (b0:Nat) (r:zH×Int×zM):KT:=fun kk I' hs' v=>
  ∃ v0 v1 k0,hs'=[.blk b0 ⟨k0⟩]∧v=tupV [v0,v1]∧(∃ cs,v0=.agg ⟨cs⟩∧Rp.rep I' cs r.1)∧v1=.int .i64 r.2.1∧Rp.rep I' k0 r.2.2
def zBM (r0:zM):Option (zH×Int×zM):=do
 let (y1,y2)←eC r0
 let (y4,y5)←qK y2 y1
 let (y7,y8)←yX y5 ([0,0,1,1,2,(-1),9]:List Int)
 pure (y4,y7,y8)
theorem zIc:∀ r0 r,zBM r0=some r→∀ {I:Imm}{r01:Nat}{p c},(S4 I p r0.b c)→RT 71 [vP r01 0] I [hB r01 (cRd r0 p c)] (zDE r01 r):=by
 intro r0 r N I r01 p c h;unfold zBM at N;refine zX (fn:=Tryz.f71) (c:=(bodyOf Tryz.f71)) Tryz.func71 rfl rfl ?_;rintro B - -;have H:=iS I;refine yK<|wU zTwo ?_;intro b hb;refine yB [] []<|xD<|yC 2 [] [(5,vP r01 0),(6,vP r01 0)]<|sU (yD [1,0] (hs':=[hB r01 (cRd r0 p c),hB b zTwo])) ?_;obtain ⟨⟨y1,y2⟩,hy,N⟩:=zB N;refine tS [hB r01 (cRd r0 p c)] [hB b zTwo] (zES r0 _ hy h) ?_;rintro I0 hs2 v2 k2 le - ⟨v0,kk,rfl,rfl,⟨cs,rfl,h1⟩,h2⟩ -;have H:=H.trans le;obtain ⟨p1,c1,p2,c2,rfl,h3,h4⟩:=oZ h1;obtain ⟨p3,c3,rfl,h5⟩:=yE h2;obtain ⟨⟨y4,y5⟩,hy1,N⟩:=zB N;refine tS [hB r01 (cRd y2 p3 c3)] [hB b zTwo] (zD3 y2 y1 _ hy1 h5 h3 h4) ?_;rintro I01 hs2 v2 k2 le1 - ⟨v04,kk1,rfl,rfl,⟨cs1,rfl,h6⟩,h7⟩ -;have H:=H.trans le1;obtain ⟨p4,c4,p5,c5,rfl,h8,h9⟩:=oZ h6;obtain ⟨p6,c6,rfl,h10⟩:=yE h7;refine wU zTwo ?_;intro b1 hb1;refine xB 0 (cProg y4 p4 c4 p5 c5) [hB b1 (cProg y4 p4 c4 p5 c5),hB r01 (cRd y5 p6 c6),hB b zTwo] rfl rfl rfl rfl<|yH rfl<|zL<|yI ?_;obtain ⟨⟨y7,y8⟩,hy2,N⟩:=zB N;refine vC [.p (vA (cProg y4 p4 c4 p5 c5)) [0],.p (vP r01 0) [],.x (fun I' v hx=>∃ b2,v=vS (some ⟨b2,0,none⟩) ([0,0,1,1,2,(-1),9]:List Int) 7∧hx=[]∧(SL I' (vS (some ⟨b2,0,none⟩) ([0,0,1,1,2,(-1),9]:List Int) 7) ([0,0,1,1,2,(-1),9]:List Int))),.x (fun I' v hx=>∃ p7 c7,v=vI y7∧hx=[hB r01 (cRd y8 p7 c7)]∧(S4 I' p7 y8.b c7)),.x (fun I' v hx=>hx=[hB b (cProg y4 p4 c4 p5 c5)])] [[],[],[],[(1,false),(2,false),(6,true)],[(0,false),(7,true)]] [hB b1 (cProg y4 p4 c4 p5 c5)] [[hB r01 (cRd y5 p6 c6)],[hB b zTwo]] [(3,true),(4,true)] (yD [0,1,2]) ?_ ?_
 · refine Op<|Op<|Ox ?_<|Ox ?_<|Ox ?_<|On
   · intro I1 hf le1;refine yR [] ?_;have H:=iS I1;refine xU [vI 0,vI 0,vI 1,vI 1,vI 2,vI (-1),vI 9] Int ?_;intro b2 hb2;have h11:RL I1 [vI 0,vI 0,vI 1,vI 1,vI 2,vI (-1),vI 9] ([0,0,1,1,2,(-1),9]:List Int):=⟨[vI 0],_,rfl,rfl,rfl,⟨[vI 0],_,rfl,rfl,rfl,⟨[vI 1],_,rfl,rfl,rfl,⟨[vI 1],_,rfl,rfl,rfl,⟨[vI 2],_,rfl,rfl,rfl,⟨[vI (-1)],_,rfl,rfl,rfl,⟨[vI 9],_,rfl,rfl,rfl,rfl⟩⟩⟩⟩⟩⟩⟩;refine yJ 0 rfl ?_;intro I02 le2 hl0;have h12:=SL.of_frozen hl0 le2 h11;have H:=H.trans le2;exact yP [] H ⟨_,rfl,rfl,h12⟩
   · intro I1 hf le1;refine zF ?_;rintro _ _ ⟨rfl,rfl⟩;refine zF ?_;rintro _ _ ⟨b2,rfl,rfl,h12⟩;refine zF ?_;rintro _ _ rfl;refine yR [(10,vP r01 0),(11,vS (some ⟨b2,0,none⟩) ([0,0,1,1,2,(-1),9]:List Int) 7)] ?_;have H:=iS I1;have h10:=h10.mono le1;refine tS [hB r01 (cRd y5 p6 c6)] (hB b1 (cProg y4 p4 c4 p5 c5)::hf) (xH y5 ([0,0,1,1,2,(-1),9]:List Int) _ hy2 h10 h12) ?_;rintro I03 hs2 v2 k2 le3 - ⟨v08,kk2,rfl,rfl,rfl,h14⟩ -;have H:=H.trans le3;obtain ⟨p7,c7,rfl,h15⟩:=yE h14;exact yP [hB r01 (cRd y8 p7 c7)] H ⟨_,_,rfl,rfl,h15⟩
   intro I1 hf le1;refine zF ?_;rintro _ _ ⟨rfl,rfl⟩;refine zF ?_;rintro _ _ rfl;refine yR [(2,vP b 0),(9,vA (cProg y4 p4 c4 p5 c5))] ?_;have H:=iS I1;exact xB 0 (cProg y4 p4 c4 p5 c5) (hB b (cProg y4 p4 c4 p5 c5)::hB b1 (cProg y4 p4 c4 p5 c5)::hf) rfl rfl rfl rfl<|zDu (hx:=[hB b (cProg y4 p4 c4 p5 c5)]) rfl H rfl (zEi (v:=undef)) rfl
 intro I04 le4;refine zF ?_;rintro _ _ ⟨p7,c7,rfl,rfl,h15⟩;refine zF ?_;rintro _ _ rfl;refine yR [(2,vP b 0),(12,vI y7)] ?_;have h8:=h8.mono le4;have h9:=h9.mono le4;refine yB [] [(3,vI y7)]<|zL<|xG ?_;obtain rfl:=zC N;exact xF ⟨_,_,(.cell 0 rfl rfl (by kernel_rfl) (.tmp rfl ResV.nil)),(zZ [1] rfl (by decide)),⟨_,_,_,rfl,rfl,⟨_,rfl,(wV ⟨_,_,rfl,h8,h9⟩)⟩,rfl,(yO ⟨_,rfl,h15⟩)⟩⟩
def zET (r:(Option rN)×Bool):KT:=fun kk I' hs' v=>
  ∃ v0 v1,hs'=[]∧v=tupV [v0,v1]∧FP I' v0 r.1∧v1=.bool r.2
def oD (p:zH) (y1:(List zO)) (t24:Int) (reads:List (List Int)) (writes:List Int):Option ((List (List Int)×List Int)):=do
 if (decide (t24 < (y1.length:Int))) then
  let x←idx y1 t24
  let (y4,y5)←qG p x
  let l←app 24 reads ([y4]:List (List Int))
  let l1←app 8 writes ([y5]:List Int)
  oD p y1 (W (t24 + 1)) l l1
 else
  pure (reads,writes)
 partial_fixpoint
theorem zDm (p:zH) (y1:(List zO)):∀ (t24:Int) (reads:List (List Int)) (writes:List Int) (o:(List (List Int)×List Int)),oD p y1 t24 reads writes=some o→∀ {B}{I0 I:Imm}{Q p1 c p2 c1}{b:Nat}{p3 c2}{b1:Nat}{p4 c3 cs p5 c4 cs1},I0.le I→(S4 I p3 y1 c2)→(S4 I p1 p.Arrays c)→(S4 I p2 p.Parts c1)→(RL I cs reads)→(RL I cs1 writes)→NG Q→NO Q→(∀ (I':Imm) (reads1:List (List Int)) (writes1:List Int) (p6:Option Addr) (c5:Nat) (cs2:List Value) (p7:Option Addr) (c6:Nat) (cs3:List Value),o=(reads1,writes1)→I0.le I'→(RL I' cs2 reads1)→(RL I' cs3 writes1)→T 56 B Q (.exit 0) I' [hO Int (vS p7 writes1 c6) cs3,hO (List Int) (vS p6 reads1 c5) cs2,hB b1 [vS p1 p.Arrays c,vS p2 p.Parts c1,vS p3 y1 c2,vS p6 reads1 c5,vS p7 writes1 c6]] [(6,vP b1 0)])→J Tryz.prog 56 B (nav (bodyOf Tryz.f73) [1,1,1,1,0,1,0]) Q I [hO Int (vS p5 writes c4) cs1,hO (List Int) (vS p4 reads c3) cs,hB b1 [vS p1 p.Arrays c,vS p2 p.Parts c1,vS p3 y1 c2,vS p4 reads c3,vS p5 writes c4],hB b (cProg p p1 c p2 c1)] [(1,vP b 0),(6,vP b1 0),(22,vS p3 y1 c2),(23,vI (y1.length:Int)),(24,vI t24)]:=by
 refine oD.partial_correctness p y1 _ fun self ih t24 reads writes o N B I0 I Q p1 c p2 c1 b p3 c2 b1 p4 c3 cs p5 c4 cs1 H h2 h h1 h6 h7 hg ho hx=>yW hg ho<|yF [(25,.bool (decide (t24 < (y1.length:Int))))]<|yG<|yL N ?_ ?_
 · intro hc1 N;refine zV<|yG<|yM<|yK<|bE N fun x hy1 N=>xR rfl rfl h2 hy1 ?_;intro ad ccs hat hrep;obtain ⟨p8,c7,rfl,h10⟩:=oQ hrep;refine xN 0 hat (cInst x p8 c7) (vA (cInst x p8 c7)) rfl<|wU [vI 0,vI 0,z0] ?_;intro b2 hb2;refine xB 0 (cInst x p8 c7) [hB b2 (cInst x p8 c7),hO Int (vS p5 writes c4) cs1,hO (List Int) (vS p4 reads c3) cs,hB b1 [vS p1 p.Arrays c,vS p2 p.Parts c1,vS p3 y1 c2,vS p4 reads c3,vS p5 writes c4],hB b (cProg p p1 c p2 c1)] rfl rfl rfl rfl<|yH rfl<|xD<|yC 2 [4,0] [(29,vA (cProg p p1 c p2 c1)),(30,vA (cInst x p8 c7))] ?_;obtain ⟨⟨y4,y5⟩,hy2,N⟩:=zB N;refine xS (zAK p x _ hy2 h h1 h10) ?_;rintro I01 hs2 v2 k2 le1 - ⟨v03,v04,rfl,rfl,h11,rfl⟩ -;have h2:=h2.mono le1;have h7:=iM le1 h7;have h6:=iM le1 h6;have h:=h.mono le1;have h1:=h1.mono le1;have H:=H.trans le1;obtain ⟨p9,c8,rfl⟩:=h11.form;refine yB [] [(9,vS p9 y4 c8),(10,vI y5)]<|zL ?_;obtain ⟨l,hy3,N⟩:=zB N;obtain ⟨l1,hy4,N⟩:=zB N;refine vC [.p (vP b1 0) [],.p (vP b1 0) [],.p (vP b1 0) [],.p (vP b1 0) [],.p (vP b1 3) [],.q (vS p4 reads c3),.p (vS p9 y4 c8) [],.x (fun I' v hx=>∃ b3,v=vS (some ⟨b3,0,none⟩) ([y4]:List (List Int)) 1∧hx=[]∧(SL I' (vS (some ⟨b3,0,none⟩) ([y4]:List (List Int)) 1) ([y4]:List (List Int)))),.x (fun I' v hx=>∃ p10 c9 cs4,v=vS p10 l c9∧hx=[hO (List Int) (vS p10 l c9) cs4]∧(RL I' cs4 l)),.p (vP b1 0) [],.p (vP b1 0) [],.p (vP b1 4) [],.q (vS p5 writes c4),.p (vI y5) [],.x (fun I' v hx=>∃ b4,v=vS (some ⟨b4,0,none⟩) ([y5]:List Int) 1∧hx=[]∧(SL I' (vS (some ⟨b4,0,none⟩) ([y5]:List Int) 1) ([y5]:List Int))),.x (fun I' v hx=>∃ p11 c10 cs5,v=vS p11 l1 c10∧hx=[hO Int (vS p11 l1 c10) cs5]∧(RL I' cs5 l1)),.p (vP b1 0) [],.p (vP b1 3) [],.x (fun I' v hx=>∃ p101 c91 cs41,hx=[hB b1 [vS p1 p.Arrays c,vS p2 p.Parts c1,vS p3 y1 c2,vS p101 l c91,vS p5 writes c4],hO (List Int) (vS p101 l c91) cs41]∧(RL I' cs41 l))] [[],[],[],[(2,false)],[(3,false)],[(4,false),(24,false)],[],[(6,false)],[(5,false),(7,false),(22,true)],[],[(9,false)],[(10,false)],[(11,false),(24,false)],[],[(13,false)],[(12,false),(14,false),(23,true)],[(0,false)],[(16,false)],[(8,true),(17,false),(24,true)]] [hB b2 (cInst x p8 c7),hB b (cProg p p1 c p2 c1)] [[hO (List Int) (vS p4 reads c3) cs],[hO Int (vS p5 writes c4) cs1],[hB b1 [vS p1 p.Arrays c,vS p2 p.Parts c1,vS p3 y1 c2,vS p4 reads c3,vS p5 writes c4]]] [(1,false),(15,true),(18,true)] (yD [0,4,2,1,3]) ?_ ?_
   · refine Op<|Op<|Op<|Op<|Op<|Ob ?_<|Op<|Ox ?_<|Ox ?_<|Op<|Op<|Op<|Ob ?_<|Op<|Ox ?_<|Ox ?_<|Op<|Op<|Ox ?_<|On
     · intro I1 hf le1 hbo;obtain ⟨hf2,hbp⟩:=hbo.at (j:=24) (g:=[hB b1 [vS p1 p.Arrays c,vS p2 p.Parts c1,vS p3 y1 c2,vS p4 reads c3,vS p5 writes c4]]) (by decide) (by kernel_rfl) rfl;refine zF ?_;rintro _ _ ⟨rfl,rfl⟩;refine zF ?_;rintro _ _ rfl;refine oW<|zKL hbp<|zAe [(38,vP b1 3)] ?_;exact zBr (cs:=[vS p4 reads c3]) (v:=vS p4 reads c3) 2 rfl rfl rfl rfl rfl (by kernel_rfl) (by kernel_rfl) (by kernel_rfl)<|xI iR
     · intro I1 hf le1;refine yR [(40,vS p9 y4 c8)] ?_;have H:=iS I1;have h11:=h11.mono le1;refine xU [vS p9 y4 c8] (List Int) ?_;intro b3 hb3;have h13:RL I1 [vS p9 y4 c8] ([y4]:List (List Int)):=⟨[vS p9 y4 c8],_,rfl,rfl,⟨_,rfl,h11⟩,rfl⟩;refine yJ 0 rfl ?_;intro I02 le2 hl0;have h14:=SL.of_frozen hl0 le2 h13;have H:=H.trans le2;exact yP [] H ⟨_,rfl,rfl,h14⟩
     · intro I1 hf le1;refine zF ?_;rintro _ _ ⟨rfl,rfl⟩;refine zF ?_;rintro _ _ ⟨b3,rfl,rfl,h14⟩;refine zF ?_;rintro _ _ rfl;refine yR [(39,vS p4 reads c3),(41,vS (some ⟨b3,0,none⟩) ([y4]:List (List Int)) 1)] ?_;have h6:=iM le1 h6;obtain ⟨ccs1,k0,k01⟩:=h14;have h14:SL I1 (vS (some ⟨b3,0,none⟩) ([y4]:List (List Int)) 1) ([y4]:List (List Int)):=⟨_,k0,k01⟩;exact qI 27 1 0 rfl rfl rfl h6 (.inl k0) k01 hy3 fun p10 c9 cs4 h15=>vJ (hs':=(hO (List Int) (vS p10 l c9) cs4::hB b2 (cInst x p8 c7)::hB b (cProg p p1 c p2 c1)::hf)) rfl<|yP [hO (List Int) (vS p10 l c9) cs4] iR ⟨_,_,_,rfl,rfl,h15⟩
     · intro I1 hf le1 hbo;obtain ⟨hf2,hbp⟩:=hbo.at (j:=24) (g:=[hB b1 [vS p1 p.Arrays c,vS p2 p.Parts c1,vS p3 y1 c2,vS p4 reads c3,vS p5 writes c4]]) (by decide) (by kernel_rfl) rfl;refine zF ?_;rintro _ _ ⟨rfl,rfl⟩;refine zF ?_;rintro _ _ rfl;refine oW<|zKL hbp<|zAe [(45,vP b1 4)] ?_;exact zBr (cs:=[vS p5 writes c4]) (v:=vS p5 writes c4) 2 rfl rfl rfl rfl rfl (by kernel_rfl) (by kernel_rfl) (by kernel_rfl)<|xI iR
     · intro I1 hf le1;refine yR [(47,vI y5)] ?_;have H:=iS I1;refine xU [vI y5] Int ?_;intro b4 hb4;have h16:RL I1 [vI y5] ([y5]:List Int):=⟨[vI y5],_,rfl,rfl,rfl,rfl⟩;refine yJ 0 rfl ?_;intro I03 le3 hl01;have h17:=SL.of_frozen hl01 le3 h16;have H:=H.trans le3;exact yP [] H ⟨_,rfl,rfl,h17⟩
     · intro I1 hf le1;refine zF ?_;rintro _ _ ⟨rfl,rfl⟩;refine zF ?_;rintro _ _ ⟨b4,rfl,rfl,h17⟩;refine zF ?_;rintro _ _ rfl;refine yR [(46,vS p5 writes c4),(48,vS (some ⟨b4,0,none⟩) ([y5]:List Int) 1)] ?_;have h7:=iM le1 h7;obtain ⟨ccs2,k02,k03⟩:=h17;have h17:SL I1 (vS (some ⟨b4,0,none⟩) ([y5]:List Int) 1) ([y5]:List Int):=⟨_,k02,k03⟩;exact qI 3 1 0 rfl rfl rfl h7 (.inl k02) k03 hy4 fun p11 c10 cs5 h18=>vJ (hs':=(hO Int (vS p11 l1 c10) cs5::hB b2 (cInst x p8 c7)::hB b (cProg p p1 c p2 c1)::hf)) rfl<|yP [hO Int (vS p11 l1 c10) cs5] iR ⟨_,_,_,rfl,rfl,h18⟩
     intro I1 hf le1;refine zF ?_;rintro _ _ ⟨p10,c9,cs4,rfl,rfl,h15⟩;refine zF ?_;rintro _ _ ⟨rfl,rfl⟩;refine zF ?_;rintro _ _ rfl;refine yR [(42,vS p10 l c9),(51,vP b1 3)] ?_;have H:=iS I1;exact xB 0 [vS p1 p.Arrays c,vS p2 p.Parts c1,vS p3 y1 c2,vS p10 l c9,vS p5 writes c4] (hB b1 [vS p1 p.Arrays c,vS p2 p.Parts c1,vS p3 y1 c2,vS p10 l c9,vS p5 writes c4]::hO (List Int) (vS p10 l c9) cs4::hB b2 (cInst x p8 c7)::hB b (cProg p p1 c p2 c1)::hf) rfl rfl rfl rfl<|zDu (hx:=[hB b1 [vS p1 p.Arrays c,vS p2 p.Parts c1,vS p3 y1 c2,vS p10 l c9,vS p5 writes c4],hO (List Int) (vS p10 l c9) cs4]) rfl H rfl (zEi (v:=undef)) ⟨_,_,_,rfl,h15⟩
   intro I04 le4;refine zF ?_;rintro _ _ ⟨rfl,rfl⟩;refine zF ?_;rintro _ _ ⟨p11,c10,cs5,rfl,rfl,h18⟩;refine zF ?_;rintro _ _ ⟨p101,c91,cs41,rfl,h151⟩;refine yR [(1,vP b 0),(6,vP b1 0),(22,vS p3 y1 c2),(23,vI (y1.length:Int)),(24,vI t24),(35,vP b1 0),(49,vS p11 l1 c10)] ?_;have h2:=h2.mono le4;have h:=h.mono le4;have h1:=h1.mono le4;have H:=H.trans le4;exact yC 21 [] [(53,vP b1 4)]<|xB 0 [vS p1 p.Arrays c,vS p2 p.Parts c1,vS p3 y1 c2,vS p101 l c91,vS p11 l1 c10] [hB b1 [vS p1 p.Arrays c,vS p2 p.Parts c1,vS p3 y1 c2,vS p101 l c91,vS p11 l1 c10],hO (List Int) (vS p101 l c91) cs41,hO Int (vS p11 l1 c10) cs5,hB b2 (cInst x p8 c7),hB b (cProg p p1 c p2 c1)] rfl rfl rfl rfl<|yH rfl<|zR<|zL<|zP<|yB [] [(24,vI (W (t24 + 1)))]<|yT<|rM (zZ [2,1,0,4] rfl (by decide))<|wN [(1,vP b 0),(6,vP b1 0),(22,vS p3 y1 c2),(23,vI (y1.length:Int)),(24,vI (W (t24 + 1)))]<|ih (W (t24 + 1)) l l1 _ N H h2 h h1 h151 h18 hg ho hx
 intro hc1 N;exact vD<|wC (zZ [0,1,2] rfl (by decide))<|yS [(6,vP b1 0)]<|hx _ _ _ _ _ _ _ _ _ (zC N).symm H h6 h7
def fL (p:zH):Option ((Option rN)×Bool):=do
 let (y1,y2)←tE p
 if (!y2) then
  pure (none,false)
 else
  let (reads1,writes1)←oD p y1 0 ([]:List (List Int)) ([]:List Int)
  pure ((some (rN.mk p y1 reads1 writes1)),true)
theorem zJ3:∀ p r,fL p=some r→∀ {I:Imm}{p1 c p2 c1},(S4 I p1 p.Arrays c)→(S4 I p2 p.Parts c1)→RT 73 [vA (cProg p p1 c p2 c1)] I [] (zET  r):=by
 intro p r N I p1 c p2 c1 h h1;unfold fL at N;refine zX (fn:=Tryz.f73) (c:=(bodyOf Tryz.f73)) Tryz.func73 rfl rfl ?_;rintro B - -;refine yK<|tO (cProg p p1 c p2 c1) ?_;intro b hb;refine yB [] []<|xD<|yC 1 [0] [(12,vA (cProg p p1 c p2 c1))] ?_;obtain ⟨⟨y1,y2⟩,hy,N⟩:=zB N;refine xS (kY p _ hy h h1) ?_;rintro I0 hs2 v2 k2 le - ⟨v0,v01,rfl,rfl,h2,rfl⟩ -;have h:=h.mono le;have h1:=h1.mono le;obtain ⟨p3,c2,rfl⟩:=h2.form;refine yB [] [(4,vS p3 y1 c2),(5,.bool y2)]<|yG<|yF [(17,.bool (!y2))]<|zL<|yL N ?_ ?_
 · intro hc N;refine yF [(2,.pointer none),(3,vF)]<|xP<|zN ?_;obtain rfl:=zC N;exact xF ⟨_,_,(.tmp rfl (.tmp rfl ResV.nil)),zT,⟨_,_,rfl,rfl,zK8,rfl⟩⟩
 intro hc N;refine zV<|xD<|yC 3 [0] [(20,vA [vS p1 p.Arrays c,vS p2 p.Parts c1,vS p3 y1 c2,z0,z0])]<|tO [vS p1 p.Arrays c,vS p2 p.Parts c1,vS p3 y1 c2,z0,z0] ?_;intro b1 hb1;refine yB [] [(6,vP b1 0)]<|yG<|yF [(22,vS p3 y1 c2),(23,vI (y1.length:Int)),(24,vI 0)]<|wD<|wN [(1,vP b 0),(6,vP b1 0),(22,vS p3 y1 c2),(23,vI (y1.length:Int)),(24,vI 0)]<|rM (wT (Rp.sz (List Int))) ?_;have h4:RL I0 [] ([]:List (List Int)):=RepL.nil;refine rM (wT (Rp.sz Int)) ?_;have h5:RL I0 [] ([]:List Int):=RepL.nil;obtain ⟨o0,ho0,hMl⟩:=zB N;refine zDm p y1 0 ([]:List (List Int)) ([]:List Int) o0 ho0 iR h2 h h1 h4 h5 (fun _ _ _ h=>h) (fun _ _ h=>h) ?_;intro I05 reads1 writes1 p6 c5 cs2 p7 c6 cs3 heq le5 h8 h9;subst o0;have h:=h.mono le5;have h1:=h1.mono le5;have h2:=h2.mono le5;refine zU<|wW [(2,vP b1 0),(3,vY)]<|xP<|xA 1 rfl ?_;intro I06 le6 hl02;have h19:=SL.of_frozen hl02 le6 h8;have h9:=iM le6 h9;have h:=h.mono le6;have h1:=h1.mono le6;have h2:=h2.mono le6;refine xA 0 rfl ?_;intro I07 le7 hl03;have h20:=SL.of_frozen hl03 le7 h9;have h:=h.mono le7;have h1:=h1.mono le7;have h2:=h2.mono le7;have h19:=h19.mono le7;refine xA 0 rfl ?_;intro I08 le8 hl04;have hat1:At I08 ⟨b1,0,none⟩ [vS p1 p.Arrays c,vS p2 p.Parts c1,vS p3 y1 c2,vS p6 reads1 c5,vS p7 writes1 c6]:=At.of_blk hl04;have h:=h.mono le8;have h1:=h1.mono le8;have h2:=h2.mono le8;have h19:=h19.mono le8;have h20:=h20.mono le8;obtain rfl:=zC hMl;exact xF ⟨_,_,(.tmp rfl (.tmp rfl ResV.nil)),zT,⟨_,_,rfl,rfl,(zKx hat1 (zDZ ⟨_,_,_,_,_,rfl,h,h1,h2,h19,h20⟩)),rfl⟩⟩
def gE (p:zH) (part:Int):Option (Bool):=do
 let y←wA part 0 (W ((p.Parts.length:Int) - 1))
 pure (id y)
theorem zG0:∀ p part r,gE p part=some r→∀ {I:Imm}{p1 c p2 c1},(S4 I p1 p.Arrays c)→(S4 I p2 p.Parts c1)→RT 74 [vA (cProg p p1 c p2 c1),vI part] I [] (zY  r):=by
 intro p part r N I p1 c p2 c1 h h1;unfold gE at N;refine zX (fn:=Tryz.f74) (c:=(bodyOf Tryz.f74)) Tryz.func74 rfl rfl ?_;rintro B - -;refine yK<|tO (cProg p p1 c p2 c1) ?_;intro b hb;refine yB [] []<|xD<|yC 5 [0] [(5,vI part),(9,vI (W ((p.Parts.length:Int) - 1)))]<|bE N fun y hy N=>tQ (wM part 0 (W ((p.Parts.length:Int) - 1)) _ hy ) fun I0 le=>yB [] [(4,.bool y)]<|zL<|xG ?_;obtain rfl:=zC N;exact uM
def dO (r:(List Bool)×(List Bool)):KT:=fun kk I' hs' v=>
  ∃ v0 v1,hs'=[]∧v=tupV [v0,v1]∧SL I' v0 r.1∧SL I' v1 r.2
def pL (x1:(List Int)) (read3:List Bool) (t46:Int):Option (List Bool):=do
 if (decide (t46 < (x1.length:Int))) then
  let x2←idx x1 t46
  let x3←idx read3 x2
  let l←pure (read3.set x2.toNat true)
  pL x1 l (W (t46 + 1))
 else
  pure (id read3)
 partial_fixpoint
theorem eH (x1:(List Int)):∀ (read3:List Bool) (t46:Int) (o:List Bool),pL x1 read3 t46=some o→∀ {B}{I0 I:Imm}{Q}{t:rN}{part:Int}{written1:List Bool}{t29:Int}{ad:Addr}{p c p1 c1 p2 c2 p3 c3 p4 c4 p6 c6 cs4 p10 c10 p11 c11 cs7},I0.le I→(S4 I p t.Program.Arrays c)→(S4 I p1 t.Program.Parts c1)→(S4 I p2 t.list c2)→(S4 I p3 t.reads c3)→(S4 I p4 t.writes c4)→(At I ad [vS p t.Program.Arrays c,vS p1 t.Program.Parts c1,vS p2 t.list c2,vS p3 t.reads c3,vS p4 t.writes c4])→(RL I cs4 written1)→(S4 I p10 x1 c10)→(RL I cs7 read3)→NG Q→NO Q→(∀ (I':Imm) (read4:List Bool) (p12:Option Addr) (c12:Nat) (cs8:List Value),o=read4→I0.le I'→(RL I' cs8 read4)→T 66 B Q (.exit 2) I' [hO Bool (vS p12 read4 c12) cs8,hO Bool (vS p6 written1 c6) cs4] [(0,.pointer (some ad)),(1,vI part),(6,vS p12 read4 c12),(7,vS p6 written1 c6),(8,vI t29),(27,vS p2 t.list c2),(28,vI (t.list.length:Int)),(29,vI t29)])→J Tryz.prog 66 B (nav (bodyOf Tryz.f75) [1,1,0,1,0,0,1,1,0,0,1,1,0,1,0]) Q I [hO Bool (vS p11 read3 c11) cs7,hO Bool (vS p6 written1 c6) cs4] [(0,.pointer (some ad)),(1,vI part),(6,vS p11 read3 c11),(7,vS p6 written1 c6),(8,vI t29),(27,vS p2 t.list c2),(28,vI (t.list.length:Int)),(29,vI t29),(44,vS p10 x1 c10),(45,vI (x1.length:Int)),(46,vI t46)]:=by
 refine pL.partial_correctness x1 _ fun self ih read3 t46 o N B I0 I Q t part written1 t29 ad p c p1 c1 p2 c2 p3 c3 p4 c4 p6 c6 cs4 p10 c10 p11 c11 cs7 H h h1 h2 h3 h4 hat h10 h14 h15 hg ho hx=>yW hg ho<|yF [(47,.bool (decide (t46 < (x1.length:Int))))]<|yG<|yL N ?_ ?_
 · intro hc2 N;refine zV<|yG<|yM<|yK<|bE N fun x2 hy6 N=>xR rfl rfl h14 hy6 ?_;intro ad3 ccs2 hat3 hrep2;obtain rfl:=hrep2;refine xN 0 hat3 [vI x2] (vI x2) rfl<|yB [] [(11,vI x2)]<|zL<|zP<|yC 2 [] [(50,vS p11 read3 c11),(51,vI x2)]<|bE N fun x3 hy7 N=>oU 0 rfl rfl rfl h15 hy7 ?_;intro ad4 ccs3 hat4 hcc hrep3;obtain rfl:=hrep3;obtain ⟨l,hy8,N⟩:=zB N;refine tT (c:=[vY]) (x':=true) 0 0 rfl rfl rfl hat4 rfl rfl hcc (by kernel_rfl) (by kernel_rfl) (by kernel_rfl) h15 hy7 (by kernel_rfl) rfl ?_;rw [show read3.set x2.toNat true=l from zC hy8];intro cs9 h17 hl0;exact mA (m':=[(0,.pointer (some ad)),(1,vI part),(6,vS p11 read3 c11),(7,vS p6 written1 c6),(8,vI t29),(27,vS p2 t.list c2),(28,vI (t.list.length:Int)),(29,vI t29),(44,vS p10 x1 c10),(45,vI (x1.length:Int)),(46,vI t46),(50,vS p11 read3 c11),(51,vI x2)]) ⟨rfl,rfl,rfl,rfl,rfl,rfl,rfl,rfl,rfl,rfl,rfl,rfl,rfl,trivial⟩<|dE (hs':=[hO Bool (vS p11 l c11) cs9,hO Bool (vS p6 written1 c6) cs4]) (m':=[(0,.pointer (some ad)),(1,vI part),(6,vS p11 l c11),(7,vS p6 written1 c6),(8,vI t29),(27,vS p2 t.list c2),(28,vI (t.list.length:Int)),(29,vI t29),(44,vS p10 x1 c10),(45,vI (x1.length:Int)),(46,vI t46),(50,vS p11 l c11),(51,vI x2)]) (by first | rfl | simp only [vS,hl0,List.nil_append,List.cons_append,List.set_cons_zero,List.set_cons_succ,List.eraseIdx_cons_zero,List.eraseIdx_cons_succ]) (by first | rfl | simp only [vS,hl0])<|yH rfl<|zR<|zL<|zP<|yB [] [(46,vI (W (t46 + 1)))]<|yT<|wN [(0,.pointer (some ad)),(1,vI part),(6,vS p11 l c11),(7,vS p6 written1 c6),(8,vI t29),(27,vS p2 t.list c2),(28,vI (t.list.length:Int)),(29,vI t29),(44,vS p10 x1 c10),(45,vI (x1.length:Int)),(46,vI (W (t46 + 1)))]<|ih l (W (t46 + 1)) _ N H h h1 h2 h3 h4 hat h10 h14 h17 hg ho hx
 intro hc2 N;exact vD<|yS [(0,.pointer (some ad)),(1,vI part),(6,vS p11 read3 c11),(7,vS p6 written1 c6),(8,vI t29),(27,vS p2 t.list c2),(28,vI (t.list.length:Int)),(29,vI t29)]<|hx _ _ _ _ _ (zC N).symm H h15
def rB (t:rN) (part:Int) (read1:List Bool) (written1:List Bool) (t29:Int):Option ((List Bool×List Bool)):=do
 if (decide (t29 < (t.list.length:Int))) then
  let x←idx t.list t29
  if (x.Part != part) then
   rB t part read1 written1 (W (t29 + 1))
  else
   let x1←idx t.reads t29
   let read4←pL x1 read1 0
   let x4←idx t.writes t29
   let x5←idx written1 x4
   let l1←pure (written1.set x4.toNat true)
   rB t part read4 l1 (W (t29 + 1))
 else
  pure (read1,written1)
 partial_fixpoint
theorem eI (t:rN) (part:Int):∀ (read1:List Bool) (written1:List Bool) (t29:Int) (o:(List Bool×List Bool)),rB t part read1 written1 t29=some o→∀ {B}{I0 I:Imm}{Q}  {ad:Addr}{p c p1 c1 p2 c2 p3 c3 p4 c4 p5 c5 cs3 p6 c6 cs4},I0.le I→(S4 I p t.Program.Arrays c)→(S4 I p1 t.Program.Parts c1)→(S4 I p2 t.list c2)→(S4 I p3 t.reads c3)→(S4 I p4 t.writes c4)→(At I ad [vS p t.Program.Arrays c,vS p1 t.Program.Parts c1,vS p2 t.list c2,vS p3 t.reads c3,vS p4 t.writes c4])→(RL I cs3 read1)→(RL I cs4 written1)→NG Q→NO Q→(∀ (I':Imm) (read2:List Bool) (written2:List Bool) (p7:Option Addr) (c7:Nat) (cs5:List Value) (p8:Option Addr) (c8:Nat) (cs6:List Value),o=(read2,written2)→I0.le I'→(RL I' cs5 read2)→(RL I' cs6 written2)→T 66 B Q (.exit 0) I' [hO Bool (vS p7 read2 c7) cs5,hO Bool (vS p8 written2 c8) cs6] [(6,vS p7 read2 c7),(7,vS p8 written2 c8)])→J Tryz.prog 66 B (nav (bodyOf Tryz.f75) [1,1,0,1,0]) Q I [hO Bool (vS p5 read1 c5) cs3,hO Bool (vS p6 written1 c6) cs4] [(0,.pointer (some ad)),(1,vI part),(6,vS p5 read1 c5),(7,vS p6 written1 c6),(27,vS p2 t.list c2),(28,vI (t.list.length:Int)),(29,vI t29)]:=by
 refine rB.partial_correctness t part _ fun self ih read1 written1 t29 o N B I0 I Q ad p c p1 c1 p2 c2 p3 c3 p4 c4 p5 c5 cs3 p6 c6 cs4 H h h1 h2 h3 h4 hat h9 h10 hg ho hx=>yW hg ho<|yF [(30,.bool (decide (t29 < (t.list.length:Int))))]<|yG<|yL N ?_ ?_
 · intro hc N;refine zV<|yG<|yM<|yK<|yC 1 [] [(31,vI t29)]<|bE N fun x hy4 N=>xR rfl rfl h2 hy4 ?_;intro ad1 ccs hat1 hrep;obtain ⟨p9,c9,rfl,h13⟩:=oQ hrep;refine xN 0 hat1 (cInst x p9 c9) (vA (cInst x p9 c9)) rfl<|wU [vI 0,vI 0,z0] ?_;intro b3 hb;refine yC 5 [] [(8,vI t29)]<|xB 0 (cInst x p9 c9) [hB b3 (cInst x p9 c9),hO Bool (vS p5 read1 c5) cs3,hO Bool (vS p6 written1 c6) cs4] rfl rfl rfl rfl<|yH rfl<|yG<|yK<|yB [0] [(37,.bool (x.Part != part))]<|zL<|yL N ?_ ?_
   · intro hc1 N;exact zAn<|oJ<|zU<|zL<|zP<|yB [] [(29,vI (W (t29 + 1)))]<|yT<|rM (zZ [1,2] rfl (by decide))<|wN [(0,.pointer (some ad)),(1,vI part),(6,vS p5 read1 c5),(7,vS p6 written1 c6),(27,vS p2 t.list c2),(28,vI (t.list.length:Int)),(29,vI (W (t29 + 1)))]<|ih read1 written1 (W (t29 + 1)) _ N H h h1 h2 h3 h4 hat h9 h10 hg ho hx
   intro hc1 N;refine zV<|yG<|yK<|yC 3 [] [(40,.pointer (some (ad.add 3)))]<|xN 3 hat [vS p3 t.reads c3] (vS p3 t.reads c3) rfl<|yC 5 [] [(42,vI t29)]<|bE N fun x1 hy5 N=>xR rfl rfl h3 hy5 ?_;intro ad2 ccs1 hat2 hrep1;obtain ⟨v03,rfl,h14⟩:=hrep1;obtain ⟨p10,c10,rfl⟩:=h14.form;refine xN 0 hat2 [vS p10 x1 c10] (vS p10 x1 c10) rfl<|yB [] [(45,vI (x1.length:Int)),(46,vI 0)]<|wD<|rM (yD [1,2] (hs':=[hO Bool (vS p5 read1 c5) cs3,hO Bool (vS p6 written1 c6) cs4]))<|wN [(0,.pointer (some ad)),(1,vI part),(6,vS p5 read1 c5),(7,vS p6 written1 c6),(8,vI t29),(27,vS p2 t.list c2),(28,vI (t.list.length:Int)),(29,vI t29),(44,vS p10 x1 c10),(45,vI (x1.length:Int)),(46,vI 0)] ?_;obtain ⟨o0,ho0,hMl⟩:=zB N;refine eH x1 read1 0 o0 ho0 iR h h1 h2 h3 h4 hat h10 h14 h9 (fun _ _ _ h=>hg _ _ _ h) (fun _ _ h=>ho _ _ h) ?_;intro I03 read4 p12 c12 cs8 heq le3 h16;subst o0;have h:=h.mono le3;have h1:=h1.mono le3;have h2:=h2.mono le3;have h3:=h3.mono le3;have h4:=h4.mono le3;have hat:=hat.mono le3;have h10:=iM le3 h10;have H:=H.trans le3;refine zU<|zL<|zP<|yC 4 [] [(54,vS p6 written1 c6),(57,.pointer (some (ad.add 4)))]<|xN 4 hat [vS p4 t.writes c4] (vS p4 t.writes c4) rfl<|yC 6 [] [(59,vI t29)] ?_;obtain ⟨x4,hy9,N⟩:=zB hMl;refine xR rfl rfl h4 hy9 ?_;intro ad5 ccs4 hat5 hrep4;obtain rfl:=hrep4;refine xN 0 hat5 [vI x4] (vI x4) rfl<|bE N fun x5 hy10 N=>oU 1 rfl rfl rfl h10 hy10 ?_;intro ad6 ccs5 hat6 hcc1 hrep5;obtain rfl:=hrep5;obtain ⟨l1,hy11,N⟩:=zB N;refine tT (c:=[vY]) (x':=true) 1 0 rfl rfl rfl hat6 rfl rfl hcc1 (by kernel_rfl) (by kernel_rfl) (by kernel_rfl) h10 hy10 (by kernel_rfl) rfl ?_;rw [show written1.set x4.toNat true=l1 from zC hy11];intro cs10 h18 hl01;exact mA (m':=[(0,.pointer (some ad)),(1,vI part),(6,vS p12 read4 c12),(7,vS p6 written1 c6),(27,vS p2 t.list c2),(28,vI (t.list.length:Int)),(29,vI t29),(54,vS p6 written1 c6),(58,vS p4 t.writes c4),(59,vI t29),(60,.pointer (some ad5)),(61,vI x4)]) ⟨rfl,rfl,rfl,rfl,rfl,rfl,rfl,rfl,rfl,rfl,rfl,rfl,trivial⟩<|dE (hs':=[hO Bool (vS p12 read4 c12) cs8,hO Bool (vS p6 l1 c6) cs10]) (m':=[(0,.pointer (some ad)),(1,vI part),(6,vS p12 read4 c12),(7,vS p6 l1 c6),(27,vS p2 t.list c2),(28,vI (t.list.length:Int)),(29,vI t29),(54,vS p6 l1 c6),(58,vS p4 t.writes c4),(59,vI t29),(60,.pointer (some ad5)),(61,vI x4)]) (by first | rfl | simp only [vS,hl01,List.nil_append,List.cons_append,List.set_cons_zero,List.set_cons_succ,List.eraseIdx_cons_zero,List.eraseIdx_cons_succ]) (by first | rfl | simp only [vS,hl01])<|yH rfl<|zR<|zL<|zP<|yB [] [(29,vI (W (t29 + 1)))]<|yT<|wN [(0,.pointer (some ad)),(1,vI part),(6,vS p12 read4 c12),(7,vS p6 l1 c6),(27,vS p2 t.list c2),(28,vI (t.list.length:Int)),(29,vI (W (t29 + 1)))]<|ih read4 l1 (W (t29 + 1)) _ N H h h1 h2 h3 h4 hat h16 h18 hg ho hx
 intro hc N;exact vD<|yS [(6,vS p5 read1 c5),(7,vS p6 written1 c6)]<|hx _ _ _ _ _ _ _ _ _ (zC N).symm H h9 h10
def gF (t:rN) (part:Int):Option ((List Bool)×(List Bool)):=do
 let y←rP t.Program
 let read←mkrow 1 y (false:Bool)
 let y1←rP t.Program
 let written←mkrow 1 y1 (false:Bool)
 let (read2,written2)←rB t part read written 0
 pure (read2,written2)
theorem zG1:∀ t part r,gF t part=some r→∀ {I:Imm}{ad:Addr}{p c p1 c1 p2 c2 p3 c3 p4 c4},(S4 I p t.Program.Arrays c)→(S4 I p1 t.Program.Parts c1)→(S4 I p2 t.list c2)→(S4 I p3 t.reads c3)→(S4 I p4 t.writes c4)→(At I ad [vS p t.Program.Arrays c,vS p1 t.Program.Parts c1,vS p2 t.list c2,vS p3 t.reads c3,vS p4 t.writes c4])→RT 75 [.pointer (some ad),vI part] I [] (dO  r):=by
 intro t part r N I ad p c p1 c1 p2 c2 p3 c3 p4 c4 h h1 h2 h3 h4 hat;unfold gF at N;refine zX (fn:=Tryz.f75) (c:=(bodyOf Tryz.f75)) Tryz.func75 rfl rfl ?_;rintro B - -;have H:=iS I;refine yF []<|zL<|yI ?_;obtain ⟨y,hy,N⟩:=zB N;obtain ⟨read,hy1,N⟩:=zB N;obtain ⟨y1,hy2,N⟩:=zB N;obtain ⟨written,hy3,N⟩:=zB N;refine vC [.p (.pointer (some ad)) [],.p (.pointer (some ad)) [],.p (.pointer (some ad)) [],.q (vA (cProg t.Program p c p1 c1)),.q (vI y),.x (fun I' v hx=>∃ b cs,v=vS (some ⟨b,0,none⟩) read read.length∧hx=[hO Bool (vS (some ⟨b,0,none⟩) read read.length) cs]∧(RL I' cs read)),.p (.pointer (some ad)) [],.p (.pointer (some ad)) [],.p (.pointer (some ad)) [],.q (vA (cProg t.Program p c p1 c1)),.q (vI y1),.x (fun I' v hx=>∃ b1 cs1,v=vS (some ⟨b1,0,none⟩) written written.length∧hx=[hO Bool (vS (some ⟨b1,0,none⟩) written written.length) cs1]∧(RL I' cs1 written)),.x (fun I' v hx=>∃ b2 cs2,v=vS (some ⟨b2,0,none⟩) read read.length∧hx=[hO Bool (vS (some ⟨b2,0,none⟩) read read.length) cs2]∧(RL I' cs2 read))] [[],[(0,false)],[(1,false)],[(2,false)],[(3,false)],[(4,false)],[],[(6,false)],[(7,false)],[(8,false)],[(9,false)],[(10,false)],[(5,true)]] [] [] [(11,true),(12,true)] zT ?_ ?_
 · refine Op<|Op<|Op<|Oq ?_<|Oq ?_<|Ox ?_<|Op<|Op<|Op<|Oq ?_<|Oq ?_<|Ox ?_<|Ox ?_<|On
   · intro I1 hf le1;refine yR [(14,.pointer (some ad))] ?_;have hat:=hat.mono le1;exact xN 0 hat (cProg t.Program p c p1 c1) (vA (cProg t.Program p c p1 c1)) rfl<|xI iR
   · intro I1 hf le1;refine yR [(15,vA (cProg t.Program p c p1 c1))] ?_;have H:=iS I1;have h:=h.mono le1;have h1:=h1.mono le1;refine kI (gD t.Program _ hy h h1) ?_;intro I0 le;have H:=H.trans le;exact xI H
   · intro I1 hf le1;exact yR [(16,vI y)]<|zK9 1 [vF] rfl hy1 rfl fun b cs h6=>yP [hO Bool (vS (some ⟨b,0,none⟩) read read.length) cs] iR ⟨_,_,rfl,rfl,h6⟩
   · intro I1 hf le1;refine yR [(20,.pointer (some ad))] ?_;have hat:=hat.mono le1;exact xN 0 hat (cProg t.Program p c p1 c1) (vA (cProg t.Program p c p1 c1)) rfl<|xI iR
   · intro I1 hf le1;refine yR [(21,vA (cProg t.Program p c p1 c1))] ?_;have H:=iS I1;have h:=h.mono le1;have h1:=h1.mono le1;refine kI (gD t.Program _ hy2 h h1) ?_;intro I01 le1;have H:=H.trans le1;exact xI H
   · intro I1 hf le1;exact yR [(22,vI y1)]<|zK9 1 [vF] rfl hy3 rfl fun b1 cs1 h8=>yP [hO Bool (vS (some ⟨b1,0,none⟩) written written.length) cs1] iR ⟨_,_,rfl,rfl,h8⟩
   intro I1 hf le1;refine zF ?_;rintro _ _ ⟨b,cs,rfl,rfl,h6⟩;exact yR [(17,vS (some ⟨b,0,none⟩) read read.length)]<|pM 13 [(6,vS (some ⟨b,0,none⟩) read read.length)]<|yP [hO Bool (vS (some ⟨b,0,none⟩) read read.length) cs] iR ⟨_,_,rfl,rfl,h6⟩
 intro I02 le2;refine zF ?_;rintro _ _ ⟨b1,cs1,rfl,rfl,h8⟩;refine zF ?_;rintro _ _ ⟨b2,cs2,rfl,rfl,h61⟩;refine yR [(0,.pointer (some ad)),(1,vI part),(6,vS (some ⟨b2,0,none⟩) read read.length),(23,vS (some ⟨b1,0,none⟩) written written.length)] ?_;have h:=h.mono le2;have h1:=h1.mono le2;have h2:=h2.mono le2;have h3:=h3.mono le2;have h4:=h4.mono le2;have hat:=hat.mono le2;refine yB [] [(7,vS (some ⟨b1,0,none⟩) written written.length)]<|yG<|yK<|yC 3 [] [(26,.pointer (some (ad.add 2)))]<|xN 2 hat [vS p2 t.list c2] (vS p2 t.list c2) rfl<|yB [] [(28,vI (t.list.length:Int)),(29,vI 0)]<|wD<|wN [(0,.pointer (some ad)),(1,vI part),(6,vS (some ⟨b2,0,none⟩) read read.length),(7,vS (some ⟨b1,0,none⟩) written written.length),(27,vS p2 t.list c2),(28,vI (t.list.length:Int)),(29,vI 0)] ?_;obtain ⟨o01,ho01,hMl1⟩:=zB N;refine eI t part read written 0 o01 ho01 iR h h1 h2 h3 h4 hat h61 h8 (fun _ _ _ h=>h) (fun _ _ h=>h) ?_;intro I04 read2 written2 p7 c7 cs5 p8 c8 cs6 heq1 le4 h11 h12;subst o01;refine zU<|wW [(4,vS p7 read2 c7),(5,vS p8 written2 c8)]<|xP<|xA 0 rfl ?_;intro I05 le5 hl02;have h19:=SL.of_frozen hl02 le5 h11;have h12:=iM le5 h12;refine xA 0 rfl ?_;intro I06 le6 hl03;have h20:=SL.of_frozen hl03 le6 h12;have h19:=h19.mono le6;obtain rfl:=zC hMl1;exact xF ⟨_,_,(.tmp rfl (.tmp rfl ResV.nil)),zT,⟨_,_,rfl,rfl,h19,h20⟩⟩
def zDn (r:(List xO)):KT:=fun kk I' hs' v=>
  ∃ v0,hs'=[]∧v=tupV [v0]∧SL I' v0 r
def tF (p:zH) (y:(List zO)) (out:List xO) (i:Int):Option (List xO):=do
 if (decide (i < (y.length:Int))) then
  let x←idx y i
  let x1←idx p.Parts x.Part
  let x2←idx y i
  let x3←idx x1.Body x2.Stmt
  let x4←idx y i
  let (y2,y3,y4)←pR p.Arrays x3 x4.Point
  let out2←app 32 out ([(xO.mk y2 y3)]:List xO)
  tF p y out2 (W (i + 1))
 else
  pure (id out)
 partial_fixpoint
theorem zDF (p:zH) (y:(List zO)):∀ (out:List xO) (i:Int) (o:List xO),tF p y out i=some o→∀ {B}{I0 I:Imm}{Q p1 c p2 c1}{b:Nat}{p3 c2 p4 c3 cs},I0.le I→(S4 I p3 y c2)→(S4 I p1 p.Arrays c)→(S4 I p2 p.Parts c1)→(RL I cs out)→NG Q→NO Q→(∀ (I':Imm) (out1:List xO) (p5:Option Addr) (c4:Nat) (cs1:List Value),o=out1→I0.le I'→(RL I' cs1 out1)→T 54 B Q (.exit 0) I' [hO xO (vS p5 out1 c4) cs1] [(3,vS p5 out1 c4)])→J Tryz.prog 54 B (nav (bodyOf Tryz.f128) [1,1,1,0,1,0]) Q I [hO xO (vS p4 out c3) cs,hB b (cProg p p1 c p2 c1)] [(1,vP b 0),(3,vS p4 out c3),(4,vS p3 y c2),(5,vI i)]:=by
 refine tF.partial_correctness p y _ fun self ih out i o N B I0 I Q p1 c p2 c1 b p3 c2 p4 c3 cs H h3 h h1 h4 hg ho hx=>yW hg ho<|yI<|yF [(15,.bool (decide (i < (y.length:Int))))]<|zL<|yL N ?_ ?_
 · intro hc N;refine zV<|yG<|yM<|yI ?_;obtain ⟨x,hy1,N⟩:=zB N;obtain ⟨x1,hy2,N⟩:=zB N;obtain ⟨x2,hy3,N⟩:=zB N;obtain ⟨x3,hy4,N⟩:=zB N;obtain ⟨x4,hy5,N⟩:=zB N;obtain ⟨⟨y2,y3,y4⟩,hy6,N⟩:=zB N;refine vC [.p (vP b 0) [],.p (vS p1 p.Arrays c) [1],.p (vP b 1) [],.p (vS p2 p.Parts c1) [1],.p (vS p3 y c2) [],.p (vI i) [],.x (fun I' v hx=>∃ ad p6 c5,v=.pointer (some ad)∧hx=[]∧(At I' ad (cInst x p6 c5))∧(S4 I' p6 x.Point c5)),.x (fun I' v hx=>∃ ad1 p61 c51,v=.pointer (some ad1)∧hx=[]∧(At I' ad1 (cInst x p61 c51))∧(S4 I' p61 x.Point c51)),.q (vI x.Part),.x (fun I' v hx=>∃ ad2 p7 c6 p8 c7,v=.pointer (some ad2)∧hx=[]∧(At I' ad2 (cPart x1 p7 c6 p8 c7))∧(S4 I' p7 x1.Nest c6)∧(S4 I' p8 x1.Body c7)),.x (fun I' v hx=>∃ ad21 p71 c61 p81 c71,v=.pointer (some (ad21.add 1))∧hx=[]∧(At I' ad21 (cPart x1 p71 c61 p81 c71))∧(S4 I' p71 x1.Nest c61)∧(S4 I' p81 x1.Body c71)),.x (fun I' v hx=>∃ p811 c711,v=vS p811 x1.Body c711∧hx=[]∧(S4 I' p811 x1.Body c711)),.p (vS p3 y c2) [],.p (vI i) [],.x (fun I' v hx=>∃ ad3 p9 c8,v=.pointer (some ad3)∧hx=[]∧(At I' ad3 (cInst x2 p9 c8))∧(S4 I' p9 x2.Point c8)),.x (fun I' v hx=>∃ ad31 p91 c81,v=.pointer (some (ad31.add 1))∧hx=[]∧(At I' ad31 (cInst x2 p91 c81))∧(S4 I' p91 x2.Point c81)),.q (vI x2.Stmt),.x (fun I' v hx=>∃ ad4 p10 c9 p11 c10 p12 c11 p13 c12,v=.pointer (some ad4)∧hx=[]∧(At I' ad4 (cStmt x3 p10 c9 p11 c10 p12 c11 p13 c12))∧(S4 I' p10 x3.Write.Subs c9)∧(S4 I' p11 x3.Value.Index.Coefs c10)∧(S4 I' p12 x3.Value.Read.Subs c11)∧(S4 I' p13 x3.Value.Kids c12)),.x (fun I' v hx=>∃ p101 c91 p111 c101 p121 c111 p131 c121,v=vA (cStmt x3 p101 c91 p111 c101 p121 c111 p131 c121)∧hx=[]∧(S4 I' p101 x3.Write.Subs c91)∧(S4 I' p111 x3.Value.Index.Coefs c101)∧(S4 I' p121 x3.Value.Read.Subs c111)∧(S4 I' p131 x3.Value.Kids c121)),.p (vS p3 y c2) [],.p (vI i) [],.x (fun I' v hx=>∃ ad5 p14 c13,v=.pointer (some ad5)∧hx=[]∧(At I' ad5 (cInst x4 p14 c13))∧(S4 I' p14 x4.Point c13)),.x (fun I' v hx=>∃ ad51 p141 c131,v=.pointer (some (ad51.add 2))∧hx=[]∧(At I' ad51 (cInst x4 p141 c131))∧(S4 I' p141 x4.Point c131)),.x (fun I' v hx=>∃ p1411 c1311,v=vS p1411 x4.Point c1311∧hx=[]∧(S4 I' p1411 x4.Point c1311)),.x (fun I' v hx=>∃ p15 c14,v=.tuple ⟨[vS p15 y2 c14,vI y3,.bool y4]⟩∧hx=[]∧(S4 I' p15 y2 c14)),.x (fun I' v hx=>∃ p151 c141,v=.tuple ⟨[vS p151 y2 c141,vI y3,.bool y4]⟩∧hx=[]∧(S4 I' p151 y2 c141)),.x (fun I' v hx=>∃ p1511 c1411,v=vS p1511 y2 c1411∧hx=[]∧(S4 I' p1511 y2 c1411)),.q (vI y3),.q (.bool y4),.x (fun I' v hx=>∃ p15111 c14111,v=vS p15111 y2 c14111∧hx=[]∧(S4 I' p15111 y2 c14111)),.p (vI y3) []] [[],[(0,false)],[],[(2,false)],[],[],[(4,false),(5,false)],[(6,false)],[(7,false)],[(3,false),(8,false)],[(9,false)],[(10,false)],[],[],[(12,false),(13,false)],[(14,false)],[(15,false)],[(11,false),(16,false)],[(17,false)],[],[],[(19,false),(20,false)],[(21,false)],[(22,false)],[(1,false),(18,false),(23,false)],[(24,false)],[(25,false)],[(25,false)],[(25,false)],[(26,false)],[(27,false)]] [hO xO (vS p4 out c3) cs,hB b (cProg p p1 c p2 c1)] [] [(28,false),(29,false),(30,false)] (yD [0,1]) ?_ ?_
   · refine Op<|Op<|Op<|Op<|Op<|Op<|Ox ?_<|Ox ?_<|Oq ?_<|Ox ?_<|Ox ?_<|Ox ?_<|Op<|Op<|Ox ?_<|Ox ?_<|Oq ?_<|Ox ?_<|Ox ?_<|Op<|Op<|Ox ?_<|Ox ?_<|Ox ?_<|Ox ?_<|Ox ?_<|Ox ?_<|Oq ?_<|Oq ?_<|Ox ?_<|Op<|On
     · intro I1 hf le1;refine yR [(23,vS p3 y c2),(24,vI i)] ?_;have h3:=h3.mono le1;refine xR rfl rfl h3 hy1 ?_;intro ad ccs hat hrep;obtain ⟨p6,c5,rfl,h6⟩:=oQ hrep;exact yP [] iR ⟨_,_,_,rfl,rfl,hat,h6⟩
     · intro I1 hf le1;refine zF ?_;rintro _ _ ⟨ad,p6,c5,rfl,rfl,hat,h6⟩;exact yR [(25,.pointer (some ad))]<|pM 8 [(26,.pointer (some ad))]<|yP [] iR ⟨_,_,_,rfl,rfl,hat,h6⟩
     · intro I1 hf le1;refine zF ?_;rintro _ _ ⟨ad1,p61,c51,rfl,rfl,hat1,h61⟩;exact yR [(26,.pointer (some ad1))]<|xN 0 hat1 [vI x.Part] (vI x.Part) rfl<|xI iR
     · intro I1 hf le1;refine yR [(22,vS p2 p.Parts c1),(27,vI x.Part)] ?_;have h1:=h1.mono le1;refine xR rfl rfl h1 hy2 ?_;intro ad2 ccs1 hat2 hrep1;obtain ⟨p7,c6,p8,c7,rfl,h7,h8⟩:=wZ hrep1;exact yP [] iR ⟨_,_,_,_,_,rfl,rfl,hat2,h7,h8⟩
     · intro I1 hf le1;refine zF ?_;rintro _ _ ⟨ad2,p7,c6,p8,c7,rfl,rfl,hat2,h7,h8⟩;exact yR [(28,.pointer (some ad2))]<|pM 11 [(29,.pointer (some (ad2.add 1)))]<|yP [] iR ⟨_,_,_,_,_,rfl,rfl,hat2,h7,h8⟩
     · intro I1 hf le1;refine zF ?_;rintro _ _ ⟨ad21,p71,c61,p81,c71,rfl,rfl,hat21,h71,h81⟩;exact yR [(29,.pointer (some (ad21.add 1)))]<|xN 1 hat21 [vS p81 x1.Body c71] (vS p81 x1.Body c71) rfl<|yP [] iR ⟨_,_,rfl,rfl,h81⟩
     · intro I1 hf le1;refine yR [(31,vS p3 y c2),(32,vI i)] ?_;have h3:=h3.mono le1;refine xR rfl rfl h3 hy3 ?_;intro ad3 ccs2 hat3 hrep2;obtain ⟨p9,c8,rfl,h9⟩:=oQ hrep2;exact yP [] iR ⟨_,_,_,rfl,rfl,hat3,h9⟩
     · intro I1 hf le1;refine zF ?_;rintro _ _ ⟨ad3,p9,c8,rfl,rfl,hat3,h9⟩;exact yR [(33,.pointer (some ad3))]<|pM 16 [(34,.pointer (some (ad3.add 1)))]<|yP [] iR ⟨_,_,_,rfl,rfl,hat3,h9⟩
     · intro I1 hf le1;refine zF ?_;rintro _ _ ⟨ad31,p91,c81,rfl,rfl,hat31,h91⟩;exact yR [(34,.pointer (some (ad31.add 1)))]<|xN 1 hat31 [vI x2.Stmt] (vI x2.Stmt) rfl<|xI iR
     · intro I1 hf le1;refine zF ?_;rintro _ _ ⟨p811,c711,rfl,rfl,h811⟩;refine yR [(30,vS p811 x1.Body c711),(35,vI x2.Stmt)]<|xR rfl rfl h811 hy4 ?_;intro ad4 ccs3 hat4 hrep3;obtain ⟨p10,c9,p11,c10,p12,c11,p13,c12,rfl,h10,h11,h12,h13⟩:=rC hrep3;exact yP [] iR ⟨_,_,_,_,_,_,_,_,_,rfl,rfl,hat4,h10,h11,h12,h13⟩
     · intro I1 hf le1;refine zF ?_;rintro _ _ ⟨ad4,p10,c9,p11,c10,p12,c11,p13,c12,rfl,rfl,hat4,h10,h11,h12,h13⟩;exact yR [(36,.pointer (some ad4))]<|xN 0 hat4 (cStmt x3 p10 c9 p11 c10 p12 c11 p13 c12) (vA (cStmt x3 p10 c9 p11 c10 p12 c11 p13 c12)) rfl<|yP [] iR ⟨_,_,_,_,_,_,_,_,rfl,rfl,h10,h11,h12,h13⟩
     · intro I1 hf le1;refine yR [(38,vS p3 y c2),(39,vI i)] ?_;have h3:=h3.mono le1;refine xR rfl rfl h3 hy5 ?_;intro ad5 ccs4 hat5 hrep4;obtain ⟨p14,c13,rfl,h14⟩:=oQ hrep4;exact yP [] iR ⟨_,_,_,rfl,rfl,hat5,h14⟩
     · intro I1 hf le1;refine zF ?_;rintro _ _ ⟨ad5,p14,c13,rfl,rfl,hat5,h14⟩;exact yR [(40,.pointer (some ad5))]<|pM 23 [(41,.pointer (some (ad5.add 2)))]<|yP [] iR ⟨_,_,_,rfl,rfl,hat5,h14⟩
     · intro I1 hf le1;refine zF ?_;rintro _ _ ⟨ad51,p141,c131,rfl,rfl,hat51,h141⟩;exact yR [(41,.pointer (some (ad51.add 2)))]<|xN 2 hat51 [vS p141 x4.Point c131] (vS p141 x4.Point c131) rfl<|yP [] iR ⟨_,_,rfl,rfl,h141⟩
     · intro I1 hf le1;refine zF ?_;rintro _ _ ⟨rfl,rfl⟩;refine zF ?_;rintro _ _ ⟨p101,c91,p111,c101,p121,c111,p131,c121,rfl,rfl,h101,h111,h121,h131⟩;refine zF ?_;rintro _ _ ⟨p1411,c1311,rfl,rfl,h1411⟩;refine yR [(20,vS p1 p.Arrays c),(37,vA (cStmt x3 p101 c91 p111 c101 p121 c111 p131 c121)),(42,vS p1411 x4.Point c1311)] ?_;have H:=iS I1;have h:=h.mono le1;refine xS (zA8 p.Arrays x3 x4.Point _ hy6 h h101 h111 h121 h131 h1411) ?_;rintro I01 hs2 v2 k2 le1 - ⟨v010,v011,v012,rfl,rfl,h15,rfl,rfl⟩ -;have H:=H.trans le1;obtain ⟨p15,c14,rfl⟩:=h15.form;exact yP [] H ⟨_,_,rfl,rfl,h15⟩
     · intro I1 hf le1;refine zF ?_;rintro _ _ ⟨p15,c14,rfl,rfl,h15⟩;exact yR [(43,.tuple ⟨[vS p15 y2 c14,vI y3,.bool y4]⟩)]<|pM 26 [(18,.tuple ⟨[vS p15 y2 c14,vI y3,.bool y4]⟩)]<|yP [] iR ⟨_,_,rfl,rfl,h15⟩
     · intro I1 hf le1;refine zF ?_;rintro _ _ ⟨p151,c141,rfl,rfl,h151⟩;exact yR [(18,.tuple ⟨[vS p151 y2 c141,vI y3,.bool y4]⟩)]<|pM 27 [(44,vS p151 y2 c141)]<|yP [] iR ⟨_,_,rfl,rfl,h151⟩
     · intro I1 hf le1;refine zF ?_;rintro _ _ ⟨p151,c141,rfl,rfl,h151⟩;exact yR [(18,.tuple ⟨[vS p151 y2 c141,vI y3,.bool y4]⟩)]<|pM 28 [(45,vI y3)]<|xI iR
     · intro I1 hf le1;refine zF ?_;rintro _ _ ⟨p151,c141,rfl,rfl,h151⟩;exact yR [(18,.tuple ⟨[vS p151 y2 c141,vI y3,.bool y4]⟩)]<|pM 29 [(46,.bool y4)]<|xI iR
     intro I1 hf le1;refine zF ?_;rintro _ _ ⟨p1511,c1411,rfl,rfl,h1511⟩;exact yR [(44,vS p1511 y2 c1411)]<|pM 30 [(6,vS p1511 y2 c1411)]<|yP [] iR ⟨_,_,rfl,rfl,h1511⟩
   intro I02 le2;refine zF ?_;rintro _ _ ⟨rfl,rfl⟩;refine zF ?_;rintro _ _ ⟨p15111,c14111,rfl,rfl,h15111⟩;refine yR [(1,vP b 0),(3,vS p4 out c3),(4,vS p3 y c2),(5,vI i),(6,vS p15111 y2 c14111),(7,vI y3),(46,.bool y4)] ?_;have h4:=iM le2 h4;have h3:=h3.mono le2;have h:=h.mono le2;have h1:=h1.mono le2;have H:=H.trans le2;refine yB [] []<|zL<|zP<|yC 4 [] [(47,vS p4 out c3),(50,vA [vS p15111 y2 c14111,vI y3])]<|xU [vS p15111 y2 c14111,vI y3] xO ?_;intro b2 hb2;have h18:RL I02 [vS p15111 y2 c14111,vI y3] ([(xO.mk y2 y3)]:List xO):=⟨[vS p15111 y2 c14111,vI y3],_,rfl,rfl,(zEC ⟨_,rfl,h15111⟩),rfl⟩;obtain ⟨out2,hy7,N⟩:=zB N;exact qI 165 2 1 rfl rfl rfl h4 (.inr ⟨0,rfl⟩) h18 hy7 fun p16 c15 cs2 h19=>sU (yD [1,2] (hs':=[hO xO (vS p16 out2 c15) cs2,hB b (cProg p p1 c p2 c1)]))<|yB [] [(3,vS p16 out2 c15)]<|zR<|zL<|zP<|yB [] [(5,vI (W (i + 1)))]<|yT<|wN [(1,vP b 0),(3,vS p16 out2 c15),(4,vS p3 y c2),(5,vI (W (i + 1)))]<|ih out2 (W (i + 1)) _ N H h3 h h1 h19 hg ho hx
 intro hc N;exact vD<|wC (zZ [0] rfl (by decide))<|yS [(3,vS p4 out c3)]<|hx _ _ _ _ _ (zC N).symm H h4
def nV (p:zH):Option ((List xO)):=do
 let y←tX p
 let out1←tF p y ([]:List xO) 0
 pure (id out1)
theorem zFG:∀ p r,nV p=some r→∀ {I:Imm}{p1 c p2 c1},(S4 I p1 p.Arrays c)→(S4 I p2 p.Parts c1)→RT 128 [vA (cProg p p1 c p2 c1)] I [] (zDn  r):=by
 intro p r N I p1 c p2 c1 h h1;unfold nV at N;refine zX (fn:=Tryz.f128) (c:=(bodyOf Tryz.f128)) Tryz.func128 rfl rfl ?_;rintro B - -;refine yK<|tO (cProg p p1 c p2 c1) ?_;intro b hb;refine yB [] []<|xD<|xU [] xO ?_;intro b1 hb1;have h2:RL I [] ([]:List xO):=rfl;refine yB [] [(3,vS (some ⟨b1,0,none⟩) ([]:List xO) 0)]<|xD<|yC 1 [1] [(10,vA (cProg p p1 c p2 c1))]<|bE N fun y hy N=>xS (fG p _ hy h h1) ?_;rintro I0 hs2 v2 k2 le - ⟨v0,rfl,rfl,h3⟩ -;have h2:=iM le h2;have h:=h.mono le;have h1:=h1.mono le;obtain ⟨p3,c2,rfl⟩:=h3.form;refine yB [] [(4,vS p3 y c2)]<|yG<|yF [(5,vI 0)]<|wD<|wN [(1,vP b 0),(3,vS (some ⟨b1,0,none⟩) ([]:List xO) 0),(4,vS p3 y c2),(5,vI 0)] ?_;obtain ⟨o0,ho0,hMl⟩:=zB N;refine zDF p y ([]:List xO) 0 o0 ho0 iR h3 h h1 h2 (fun _ _ _ h=>h) (fun _ _ h=>h) ?_;intro I03 out1 p5 c4 cs1 heq le3 h5;subst o0;refine zU<|wW [(2,vS p5 out1 c4)]<|xP<|xA 0 rfl ?_;intro I04 le4 hl0;have h20:=SL.of_frozen hl0 le4 h5;obtain rfl:=zC hMl;exact xF ⟨_,_,(.tmp rfl ResV.nil),zT,⟨_,rfl,rfl,h20⟩⟩
def fH (r:(List Int)):KT:=fun kk I' hs' v=>
  ∃ v0,hs'=[]∧v=tupV [v0]∧SL I' v0 r
def nY (list:(List Bool)) (out:List Int) (i:Int):Option (List Int):=do
 if (decide (i < (list.length:Int))) then
  let x←idx list i
  let out2←(do
    if x then
     let out3←app 8 out ([i]:List Int)
     pure (id out3)
    else
     pure (id out)
      : Option (List Int))
  nY list out2 (W (i + 1))
 else
  pure (id out)
 partial_fixpoint
theorem zBN (list:(List Bool)):∀ (out:List Int) (i:Int) (o:List Int),nY list out i=some o→∀ {B}{I0 I:Imm}{Q p c p1 c1 cs},I0.le I→(S4 I p list c)→(RL I cs out)→NG Q→NO Q→(∀ (I':Imm) (out1:List Int) (p2:Option Addr) (c2:Nat) (cs1:List Value),o=out1→I0.le I'→(RL I' cs1 out1)→T 21 B Q (.exit 0) I' [hO Int (vS p2 out1 c2) cs1] [(3,vS p2 out1 c2)])→J Tryz.prog 21 B (nav (bodyOf Tryz.f129) [1,1,0,1,0]) Q I [hO Int (vS p1 out c1) cs] [(0,vS p list c),(3,vS p1 out c1),(4,vI i)]:=by
 refine nY.partial_correctness list _ fun self ih out i o N B I0 I Q p c p1 c1 cs H h h2 hg ho hx=>yW hg ho<|yI<|yF [(9,.bool (decide (i < (list.length:Int))))]<|zL<|yL N ?_ ?_
 · intro hc N;refine zV<|yG<|yM<|yK<|yC 2 [] [(12,vS p list c),(13,vI i)]<|bE N fun x hy N=>xR rfl rfl h hy ?_;intro ad ccs hat hrep;obtain rfl:=hrep;refine xN 0 hat [.bool x] (.bool x) rfl<|yH rfl<|zL ?_;obtain ⟨o0,ho0,hMc⟩:=zB N;refine yU (fun I' hs' m'=>∃ (out2:List Int) (p3:Option Addr) (c3:Nat) (cs2:List Value),o0=out2∧I.le I'∧(RL I' cs2 out2)∧hs'=[hO Int (vS p3 out2 c3) cs2]∧m'=[(0,vS p list c),(3,vS p3 out2 c3),(4,vI i)]) ?_ ?_
   · have H:=iS I;refine yL ho0 ?_ ?_
     · intro hc1 N;refine zP<|yC 2 [] [(16,vS p1 out c1),(17,vI i)]<|xU [vI i] Int ?_;intro b1 hb1;have h5:RL I [vI i] ([i]:List Int):=⟨[vI i],_,rfl,rfl,rfl,rfl⟩;obtain ⟨out3,hy1,N⟩:=zB N;exact qI 3 1 1 rfl rfl rfl h2 (.inr ⟨0,rfl⟩) h5 hy1 fun p4 c4 cs3 h6=>sU (yD [1] (hs':=[hO Int (vS p4 out3 c4) cs3]))<|yB [] [(3,vS p4 out3 c4)]<|yS [(0,vS p list c),(3,vS p4 out3 c4),(4,vI i)]<|zW ⟨_,_,_,_,(zC N).symm,H,h6,rfl,rfl⟩
     intro hc1 N;exact zV<|yS [(0,vS p list c),(3,vS p1 out c1),(4,vI i)]<|zW ⟨_,_,_,_,(zC N).symm,H,h2,rfl,rfl⟩
   rintro I0 hs2 m2 ⟨out2,p3,c3,cs2,heq,le,h4,rfl,rfl⟩;subst o0;have h:=h.mono le;have H:=H.trans le;exact zR<|zL<|zP<|yB [] [(4,vI (W (i + 1)))]<|yT<|wN [(0,vS p list c),(3,vS p3 out2 c3),(4,vI (W (i + 1)))]<|ih out2 (W (i + 1)) _ hMc H h h4 hg ho hx
 intro hc N;exact vD<|yS [(3,vS p1 out c1)]<|hx _ _ _ _ _ (zC N).symm H h2
def gK (list:(List Bool)):Option ((List Int)):=do
 let out1←nY list ([]:List Int) 0
 pure (id out1)
theorem zDG:∀ list r,gK list=some r→∀ {I:Imm}{p c},(S4 I p list c)→RT 129 [vS p list c] I [] (fH  r):=by
 intro list r N I p c h;unfold gK at N;refine zX (fn:=Tryz.f129) (c:=(bodyOf Tryz.f129)) Tryz.func129 rfl rfl ?_;rintro B - -;refine yF []<|xD<|xU [] Int ?_;intro b hb;have h1:RL I [] ([]:List Int):=rfl;refine yB [] [(3,vS (some ⟨b,0,none⟩) ([]:List Int) 0)]<|yG<|yF [(4,vI 0)]<|wD<|wN [(0,vS p list c),(3,vS (some ⟨b,0,none⟩) ([]:List Int) 0),(4,vI 0)] ?_;obtain ⟨o01,ho01,hMl⟩:=zB N;refine zBN list ([]:List Int) 0 o01 ho01 iR h h1 (fun _ _ _ h=>h) (fun _ _ h=>h) ?_;intro I01 out1 p2 c2 cs1 heq1 le1 h3;subst o01;refine zU<|wW [(2,vS p2 out1 c2)]<|xP<|xA 0 rfl ?_;intro I02 le2 hl0;have h7:=SL.of_frozen hl0 le2 h3;obtain rfl:=zC hMl;exact xF ⟨_,_,(.tmp rfl ResV.nil),zT,⟨_,rfl,rfl,h7⟩⟩
def mX (y2:(List xO)) (i:Int) (flags3:List Bool) (k0:Int):Option (List Bool):=do
 let x3←idx y2 i
 if (decide (k0 < (x3.reads.length:Int))) then
  let x4←idx y2 i
  let x5←idx x4.reads k0
  let x6←idx flags3 x5
  let l1←pure (flags3.set x5.toNat true)
  mX y2 i l1 (W (k0 + 1))
 else
  pure (id flags3)
 partial_fixpoint
theorem zBf (y2:(List xO)) (i:Int):∀ (flags3:List Bool) (k0:Int) (o:List Bool),mX y2 i flags3 k0=some o→∀ {B}{I0 I:Imm}{Q}{part:Int}{writes:Bool}{y1:(List zO)}{p3 c2 p4 c3 p9 c8 cs4},I0.le I→(S4 I p3 y1 c2)→(S4 I p4 y2 c3)→(RL I cs4 flags3)→NG Q→NO Q→(∀ (I':Imm) (flags4:List Bool) (p10:Option Addr) (c9:Nat) (cs5:List Value),o=flags4→I0.le I'→(RL I' cs5 flags4)→T 62 B Q (.exit 2) I' [hO Bool (vS p10 flags4 c9) cs5] [(1,vI part),(2,.bool writes),(7,vS p10 flags4 c9),(8,vS p3 y1 c2),(9,vS p4 y2 c3),(10,vI i)])→J Tryz.prog 62 B (nav (bodyOf Tryz.f76) [1,1,1,1,0,1,0,0,1,0,0,1,1,1,0]) Q I [hO Bool (vS p9 flags3 c8) cs4] [(1,vI part),(2,.bool writes),(7,vS p9 flags3 c8),(8,vS p3 y1 c2),(9,vS p4 y2 c3),(10,vI i),(11,vI k0)]:=by
 refine mX.partial_correctness y2 i _ fun self ih flags3 k0 o N B I0 I Q part writes y1 p3 c2 p4 c3 p9 c8 cs4 H h4 h5 h11 hg ho hx=>yW hg ho<|yI<|yK<|yC 3 [] [(40,vI k0),(41,vS p4 y2 c3),(42,vI i)]<|bE N fun x3 hy8 N=>xR rfl rfl h5 hy8 ?_;intro ad3 ccs3 hat3 hrep3;obtain ⟨p11,c10,rfl,h13⟩:=dG hrep3;refine yC 5 [] [(44,.pointer (some ad3))]<|xN 0 hat3 [vS p11 x3.reads c10] (vS p11 x3.reads c10) rfl<|yB [] [(47,.bool (decide (k0 < (x3.reads.length:Int))))]<|zL<|yL N ?_ ?_
 · intro hc3 N;refine zV<|yG<|yM<|zP<|yC 3 [] [(50,vS p9 flags3 c8),(51,vS p4 y2 c3),(52,vI i)]<|bE N fun x4 hy9 N=>xR rfl rfl h5 hy9 ?_;intro ad4 ccs4 hat4 hrep4;obtain ⟨p12,c11,rfl,h14⟩:=dG hrep4;refine yC 5 [] [(54,.pointer (some ad4))]<|xN 0 hat4 [vS p12 x4.reads c11] (vS p12 x4.reads c11) rfl<|yC 7 [] [(56,vI k0)]<|bE N fun x5 hy10 N=>xR rfl rfl h14 hy10 ?_;intro ad5 ccs5 hat5 hrep5;obtain rfl:=hrep5;refine xN 0 hat5 [vI x5] (vI x5) rfl<|bE N fun x6 hy11 N=>oU 0 rfl rfl rfl h11 hy11 ?_;intro ad6 ccs6 hat6 hcc1 hrep6;obtain rfl:=hrep6;obtain ⟨l1,hy12,N⟩:=zB N;refine tT (c:=[vY]) (x':=true) 0 0 rfl rfl rfl hat6 rfl rfl hcc1 (by kernel_rfl) (by kernel_rfl) (by kernel_rfl) h11 hy11 (by kernel_rfl) rfl ?_;rw [show flags3.set x5.toNat true=l1 from zC hy12];intro cs6 h15 hl01;exact mA (m':=[(1,vI part),(2,.bool writes),(7,vS p9 flags3 c8),(8,vS p3 y1 c2),(9,vS p4 y2 c3),(10,vI i),(11,vI k0),(50,vS p9 flags3 c8),(55,vS p12 x4.reads c11),(56,vI k0),(57,.pointer (some ad5)),(58,vI x5)]) ⟨rfl,rfl,rfl,rfl,rfl,rfl,rfl,rfl,rfl,rfl,rfl,rfl,trivial⟩<|dE (hs':=[hO Bool (vS p9 l1 c8) cs6]) (m':=[(1,vI part),(2,.bool writes),(7,vS p9 l1 c8),(8,vS p3 y1 c2),(9,vS p4 y2 c3),(10,vI i),(11,vI k0),(50,vS p9 l1 c8),(55,vS p12 x4.reads c11),(56,vI k0),(57,.pointer (some ad5)),(58,vI x5)]) (by first | rfl | simp only [vS,hl01,List.nil_append,List.cons_append,List.set_cons_zero,List.set_cons_succ,List.eraseIdx_cons_zero,List.eraseIdx_cons_succ]) (by first | rfl | simp only [vS,hl01])<|yH rfl<|zR<|zL<|zP<|yB [] [(11,vI (W (k0 + 1)))]<|yT<|wN [(1,vI part),(2,.bool writes),(7,vS p9 l1 c8),(8,vS p3 y1 c2),(9,vS p4 y2 c3),(10,vI i),(11,vI (W (k0 + 1)))]<|ih l1 (W (k0 + 1)) _ N H h4 h5 h15 hg ho hx
 intro hc3 N;exact vD<|yS [(1,vI part),(2,.bool writes),(7,vS p9 flags3 c8),(8,vS p3 y1 c2),(9,vS p4 y2 c3),(10,vI i)]<|hx _ _ _ _ _ (zC N).symm H h11
def pG (part:Int) (writes:Bool) (y1:(List zO)) (y2:(List xO)) (flags1:List Bool) (i:Int):Option (List Bool):=do
 if (decide (i < (y1.length:Int))) then
  let x←idx y1 i
  if (x.Part != part) then
   pG part writes y1 y2 flags1 (W (i + 1))
  else
   if writes then
    let x1←idx y2 i
    let x2←idx flags1 x1.write
    let l←pure (flags1.set x1.write.toNat true)
    pG part writes y1 y2 l (W (i + 1))
   else
    let flags4←mX y2 i flags1 0
    pG part writes y1 y2 flags4 (W (i + 1))
 else
  pure (id flags1)
 partial_fixpoint
theorem zBg (part:Int) (writes:Bool) (y1:(List zO)) (y2:(List xO)):∀ (flags1:List Bool) (i:Int) (o:List Bool),pG part writes y1 y2 flags1 i=some o→∀ {B}{I0 I:Imm}{Q p3 c2 p4 c3 p5 c4 cs1},I0.le I→(S4 I p3 y1 c2)→(S4 I p4 y2 c3)→(RL I cs1 flags1)→NG Q→NO Q→(∀ (I':Imm) (flags2:List Bool) (p6:Option Addr) (c5:Nat) (cs2:List Value),o=flags2→I0.le I'→(RL I' cs2 flags2)→T 62 B Q (.exit 0) I' [hO Bool (vS p6 flags2 c5) cs2] [(7,vS p6 flags2 c5)])→J Tryz.prog 62 B (nav (bodyOf Tryz.f76) [1,1,1,1,0,1,0]) Q I [hO Bool (vS p5 flags1 c4) cs1] [(1,vI part),(2,.bool writes),(7,vS p5 flags1 c4),(8,vS p3 y1 c2),(9,vS p4 y2 c3),(10,vI i)]:=by
 refine pG.partial_correctness part writes y1 y2 _ fun self ih flags1 i o N B I0 I Q p3 c2 p4 c3 p5 c4 cs1 H h4 h5 h6 hg ho hx=>yW hg ho<|yI<|yF [(22,.bool (decide (i < (y1.length:Int))))]<|zL<|yL N ?_ ?_
 · intro hc N;refine zV<|yG<|yM<|yI<|yK<|yC 2 [] [(25,vS p3 y1 c2),(26,vI i)]<|bE N fun x hy4 N=>xR rfl rfl h4 hy4 ?_;intro ad ccs hat hrep;obtain ⟨p7,c6,rfl,h8⟩:=oQ hrep;refine yC 4 [] [(28,.pointer (some ad))]<|xN 0 hat [vI x.Part] (vI x.Part) rfl<|yB [] [(31,.bool (x.Part != part))]<|zL<|yL N ?_ ?_
   · intro hc1 N;exact zAn<|oJ<|zU<|zL<|zP<|yB [] [(10,vI (W (i + 1)))]<|yT<|wN [(1,vI part),(2,.bool writes),(7,vS p5 flags1 c4),(8,vS p3 y1 c2),(9,vS p4 y2 c3),(10,vI (W (i + 1)))]<|ih flags1 (W (i + 1)) _ N H h4 h5 h6 hg ho hx
   intro hc1 N;refine zV<|yG<|yF [(32,.bool writes)]<|zL<|yL N ?_ ?_
   · intro hc2 N;refine yK<|yC 3 [] [(33,vS p5 flags1 c4),(34,vS p4 y2 c3),(35,vI i)]<|bE N fun x1 hy5 N=>xR rfl rfl h5 hy5 ?_;intro ad1 ccs1 hat1 hrep1;obtain ⟨p8,c7,rfl,h9⟩:=dG hrep1;refine yC 5 [] [(37,.pointer (some (ad1.add 1)))]<|xN 1 hat1 [vI x1.write] (vI x1.write) rfl<|bE N fun x2 hy6 N=>oU 0 rfl rfl rfl h6 hy6 ?_;intro ad2 ccs2 hat2 hcc hrep2;obtain rfl:=hrep2;obtain ⟨l,hy7,N⟩:=zB N;refine tT (c:=[vY]) (x':=true) 0 0 rfl rfl rfl hat2 rfl rfl hcc (by kernel_rfl) (by kernel_rfl) (by kernel_rfl) h6 hy6 (by kernel_rfl) rfl ?_;rw [show flags1.set x1.write.toNat true=l from zC hy7];intro cs3 h10 hl0;exact mA (m':=[(1,vI part),(2,.bool writes),(7,vS p5 flags1 c4),(8,vS p3 y1 c2),(9,vS p4 y2 c3),(10,vI i),(33,vS p5 flags1 c4),(37,.pointer (some (ad1.add 1))),(38,vI x1.write)]) ⟨rfl,rfl,rfl,rfl,rfl,rfl,rfl,rfl,rfl,trivial⟩<|dE (hs':=[hO Bool (vS p5 l c4) cs3]) (m':=[(1,vI part),(2,.bool writes),(7,vS p5 l c4),(8,vS p3 y1 c2),(9,vS p4 y2 c3),(10,vI i),(33,vS p5 l c4),(37,.pointer (some (ad1.add 1))),(38,vI x1.write)]) (by first | rfl | simp only [vS,hl0,List.nil_append,List.cons_append,List.set_cons_zero,List.set_cons_succ,List.eraseIdx_cons_zero,List.eraseIdx_cons_succ]) (by first | rfl | simp only [vS,hl0])<|yH rfl<|zL<|zAn<|oJ<|zU<|zL<|zP<|yB [] [(10,vI (W (i + 1)))]<|yT<|wN [(1,vI part),(2,.bool writes),(7,vS p5 l c4),(8,vS p3 y1 c2),(9,vS p4 y2 c3),(10,vI (W (i + 1)))]<|ih l (W (i + 1)) _ N H h4 h5 h10 hg ho hx
   intro hc2 N;refine zV<|wW [(11,vI 0)]<|wD<|wN [(1,vI part),(2,.bool writes),(7,vS p5 flags1 c4),(8,vS p3 y1 c2),(9,vS p4 y2 c3),(10,vI i),(11,vI 0)] ?_;obtain ⟨o0,ho0,hMl⟩:=zB N;refine zBf y2 i flags1 0 o0 ho0 iR h4 h5 h6 (fun _ _ _ h=>hg _ _ _ h) (fun _ _ h=>ho _ _ h) ?_;intro I03 flags4 p10 c9 cs5 heq le3 h12;subst o0;have h4:=h4.mono le3;have h5:=h5.mono le3;have H:=H.trans le3;exact zU<|zR<|zL<|zP<|yB [] [(10,vI (W (i + 1)))]<|yT<|wN [(1,vI part),(2,.bool writes),(7,vS p10 flags4 c9),(8,vS p3 y1 c2),(9,vS p4 y2 c3),(10,vI (W (i + 1)))]<|ih flags4 (W (i + 1)) _ hMl H h4 h5 h12 hg ho hx
 intro hc N;exact vD<|yS [(7,vS p5 flags1 c4)]<|hx _ _ _ _ _ (zC N).symm H h6
def zAc (p:zH) (part:Int) (writes:Bool):Option ((List Int)):=do
 let y←kT p
 let flags←mkrow 1 y (false:Bool)
 let y1←tX p
 let y2←nV p
 let flags2←pG part writes y1 y2 flags 0
 let y3←gK flags2
 pure (id y3)
theorem zIV:∀ p part writes r,zAc p part writes=some r→∀ {I:Imm}{p1 c p2 c1},(S4 I p1 p.Arrays c)→(S4 I p2 p.Parts c1)→RT 76 [vA (cProg p p1 c p2 c1),vI part,.bool writes] I [] (fH  r):=by
 intro p part writes r N I p1 c p2 c1 h h1;unfold zAc at N;refine zX (fn:=Tryz.f76) (c:=(bodyOf Tryz.f76)) Tryz.func76 rfl rfl ?_;rintro B - -;refine yK<|tO (cProg p p1 c p2 c1) ?_;intro b hb;refine yB [] []<|xD<|yC 1 [0] [(12,vA (cProg p p1 c p2 c1))]<|bE N fun y hy N=>kI (zEO p _ hy h h1) ?_;intro I0 le;have h:=h.mono le;have h1:=h1.mono le;obtain ⟨flags,hy1,N⟩:=zB N;refine zK9 1 [vF] rfl hy1 rfl fun b1 cs h3=>yB [] [(7,vS (some ⟨b1,0,none⟩) flags flags.length)]<|xD<|yC 1 [1] [(15,vA (cProg p p1 c p2 c1))]<|bE N fun y1 hy2 N=>xS (fG p _ hy2 h h1) ?_;rintro I01 hs2 v2 k2 le1 - ⟨v01,rfl,rfl,h4⟩ -;have h3:=iM le1 h3;have h:=h.mono le1;have h1:=h1.mono le1;obtain ⟨p3,c2,rfl⟩:=h4.form;refine yB [] [(8,vS p3 y1 c2)]<|xD<|yC 1 [1] [(17,vA (cProg p p1 c p2 c1))]<|bE N fun y2 hy3 N=>xS (zFG p _ hy3 h h1) ?_;rintro I02 hs2 v2 k2 le2 - ⟨v02,rfl,rfl,h5⟩ -;have h3:=iM le2 h3;have h4:=h4.mono le2;have h:=h.mono le2;obtain ⟨p4,c3,rfl⟩:=h5.form;refine yB [] [(9,vS p4 y2 c3)]<|yG<|yF [(10,vI 0)]<|wD<|rM (yD [0] (hs':=[hO Bool (vS (some ⟨b1,0,none⟩) flags flags.length) cs]))<|wN [(1,vI part),(2,.bool writes),(7,vS (some ⟨b1,0,none⟩) flags flags.length),(8,vS p3 y1 c2),(9,vS p4 y2 c3),(10,vI 0)] ?_;obtain ⟨o01,ho01,hMl1⟩:=zB N;refine zBg part writes y1 y2 flags 0 o01 ho01 iR h4 h5 h3 (fun _ _ _ h=>h) (fun _ _ h=>h) ?_;intro I04 flags2 p6 c5 cs2 heq1 le4 h7;subst o01;refine zU<|xD<|yC 1 [] [(60,vS p6 flags2 c5)]<|yJ 0 rfl ?_;intro I05 le5 hl02;have h16:=SL.of_frozen hl02 le5 h7;obtain ⟨y3,hy13,N⟩:=zB hMl1;refine xS (zDG flags2 _ hy13 h16) ?_;rintro I06 hs2 v2 k2 le6 - ⟨v07,rfl,rfl,h17⟩ -;obtain ⟨p13,c12,rfl⟩:=h17.form;refine yB [] [(6,vS p13 y3 c12)]<|zL<|xG ?_;obtain rfl:=zC N;exact xF ⟨_,_,(.tmp rfl ResV.nil),zT,⟨_,rfl,rfl,h17⟩⟩
end Go.LN
