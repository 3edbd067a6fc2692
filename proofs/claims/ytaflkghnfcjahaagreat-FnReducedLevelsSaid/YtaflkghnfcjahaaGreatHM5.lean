/- Helper of the proof (see the last text). -/
import Derived.Test.YtaflkghnfcjahaaGreatHM4
set_option linter.unusedVariables false
set_option linter.unusedSimpArgs false
namespace Go.LN
open Go.Proofs
set_option maxRecDepth 20000
def zEt (r:zE):KT:=fun kk I' hs' v=>
  ∃ (a0:Option Addr) (c0:Nat) (s0:List Value) (a1:Option Addr) (c1:Nat) (s1:List Value) (raws:List Raw2) (vN vB:Value) (nl:List zD) (bl:List zN) (csN csB:List Value),
    hs'=[hO zF (vS a0 r.Arrays c0) s0,hO Raw2 (vS a1 raws c1) s1,hO zD vN csN,hO zN vB csB]∧v=tupV [vA [vS a0 r.Arrays c0,vS a1 raws c1]]∧L4 I' s0 r.Arrays s1 raws r.Parts vN nl vB bl csN csB
def fF (p:zE) (line:Str):Option (zE):=do
 let y←mC line
 let t17←(do
   if (decide ((y.length:Int) > 0)) then
    let x←idx y 0
    pure (x.l == ([97,114,114,97,121]:List UInt8))
   else
    pure false
     : Option Bool)
 if t17 then
  let y1←gI y
  let l←app 40 p.Arrays ([y1]:List zF)
  pure (zE.mk l p.Parts)
 else
  if (line.l == ([112,97,114,116]:List UInt8)) then
   let l1←app 48 p.Parts ([(zM.mk ([]:List zD) ([]:List zN))]:List zM)
   pure (zE.mk p.Arrays l1)
  else
   let t43←(do
     if (decide ((W ((p.Parts.length:Int) - 1)) ≥ 0)) then
      if (decide ((y.length:Int) > 0)) then
       let x1←idx y 0
       pure (x1.l == ([102,111,114]:List UInt8))
      else
       pure false
     else
      pure false
       : Option Bool)
   if t43 then
    let x2←idx p.Parts (W ((p.Parts.length:Int) - 1))
    let y2←fE line
    let l2←app 48 x2.Nest ([y2]:List zD)
    pure (zE.mk p.Arrays (p.Parts.set (W ((p.Parts.length:Int) - 1)).toNat (zM.mk l2 x2.Body)))
   else
    if (decide ((W ((p.Parts.length:Int) - 1)) ≥ 0)) then
     let x4←idx p.Parts (W ((p.Parts.length:Int) - 1))
     let (y4,y5)←nO line
     let l3←app 152 x4.Body ([y4]:List zN)
     pure (zE.mk p.Arrays (p.Parts.set (W ((p.Parts.length:Int) - 1)).toNat (zM.mk x4.Nest l3)))
    else
     pure (id p)
theorem zGT:∀ p line r,fF p line=some r→∀ {I:Imm}{p1 c cs p2 c1 cs1}{raws:List Raw2}{vN vB:Value}{nl:List zD}{bl:List zN}{csN csB:List Value},
    L4 I cs p.Arrays cs1 raws p.Parts vN nl vB bl csN csB→RT 147 [vA [vS p1 p.Arrays c,vS p2 raws c1],vT line.l] I [hO zF (vS p1 p.Arrays c) cs,hO Raw2 (vS p2 raws c1) cs1,hO zD vN csN,hO zN vB csB] (zEt r):=by
 intro p line r N I p1 c cs p2 c1 cs1 raws vN vB nl bl csN csB hQ
 unfold fF at N
 simp only [hQ.lp.len] at N
 refine yM Tryz.func147 fun B=>yF<|vX [vS p1 p.Arrays c,vS p2 raws c1] ?_
 intro b hb
 refine wH zTwo ?_
 intro b1 hb1
 refine yA rfl<|yV<|yB 1 [] [11] rfl ?_
 obtain ⟨y,hy,N⟩:=zB N
 refine xQ (zBF line _ hy ) ?_
 rintro I0 hs2 v2 k2 le - ⟨v0,rfl,rfl,h2⟩ -
 have hQ:=hQ.mono le
 obtain ⟨p3,c2,rfl⟩:=h2.form
 refine yJ [] [5] rfl<|yV<|yJ [1] [6] rfl<|zZ<|yH<|yC ?_
 obtain ⟨o0,ho0,N⟩:=zB N
 refine qL (K1 o0 I0 [hB b1 zTwo,hB b [vS p1 p.Arrays c,vS p2 raws c1],hO zF (vS p1 p.Arrays c) cs,hO Raw2 (vS p2 raws c1) cs1,hO zD vN csN,hO zN vB csB] fun t17=>[(1,vT line.l),(2,vP b 0),(4,vP b1 0),(5,vS p3 y c2),(6,vI (W ((raws.length:Int) - 1))),(17,.bool t17)]) ?_ ?_
 · refine zK<|yB 4 [] [21] rfl ?_
   cases hc:(decide ((y.length:Int) > 0)) with
   | true =>
    have hM0:=wV hc ho0
    refine yB 5 [] [22] rfl ?_
    obtain ⟨x,hy1,N⟩:=zB hM0
    refine xJ rfl rfl h2 hy1 ?_
    intro ad ccs hat hrep
    obtain rfl:=hrep
    exact yX 0 hat [vT x.l] (vT x.l) rfl<|yJ [] [17] rfl<|yQ<|zT ⟨_,(zC N).symm,Imm.le.refl _,rfl,rfl⟩
   | false =>
    have hM01:=wB hc ho0
    exact wG [] [(17,vF)]<|yQ<|zT ⟨_,(zC hM01).symm,Imm.le.refl _,rfl,rfl⟩
 rintro I01 hs2 m2 ⟨t17,heq,le1,rfl,rfl⟩
 subst o0
 have h2:=h2.mono le1
 have hQ:=hQ.mono le1
 refine zI<|yE N ?_ ?_
 · intro hc1 N
   obtain ⟨y1,hy2,N⟩:=zB N
   obtain ⟨l,hy3,N⟩:=zB N
   refine wA [.p (vP b 0) [],.p (vS p1 p.Arrays c) [1],.p (vS p3 y c2) [],.x (eVArr y1),.x (fun I' v hx=>∃ b2,v=vS (some ⟨b2,0,none⟩) ([y1]:List zF) 1∧hx=[]∧(SL I' (vS (some ⟨b2,0,none⟩) ([y1]:List zF) 1) ([y1]:List zF))),.x (fun I' v hx=>∃ p5 c4 cs3,v=vS p5 l c4∧hx=[hO zF (vS p5 l c4) cs3]∧(RL I' cs3 l))] [[],[(0,false)],[],[(2,false)],[(3,false)],[(1,false),(4,false),(8,true)]] [hB b1 zTwo,hB b [vS p1 p.Arrays c,vS p2 raws c1],hO Raw2 (vS p2 raws c1) cs1,hO zD vN csN,hO zN vB csB] [[hO zF (vS p1 p.Arrays c) cs]] [(5,true)] (zY [0,1,3,4,5,2]) ?_ ?_
   · refine Op<|Op<|Op<|Ox ?_<|Ox ?_<|Ox ?_<|On
     · intro I1 hf le1
       refine yN [29] rfl<|xQ (zFa y _ hy2 (h2.mono le1)) ?_
       rintro I02 hs2 v2 k2 le2 - ⟨v01,rfl,rfl,⟨cs2,rfl,h3⟩⟩ -
       obtain ⟨v02,rfl,h4⟩:=zBb h3
       obtain ⟨p4,c3,rfl⟩:=h4.form
       exact yI [] le2 ⟨_,_,rfl,rfl,h4⟩
     · intro I1 hf le1
       refine xX ?_
       rintro _ _ ⟨p4,c3,rfl,rfl,h4⟩
       refine yN [30] rfl<|tH (cArr y1 p4 c3) zF ?_
       intro b2 hb2
       have h5:RL I1 (cArr y1 p4 c3) ([y1]:List zF):=⟨(cArr y1 p4 c3),_,rfl,rfl,(pE ⟨_,rfl,h4⟩),rfl⟩
       refine xP 0 rfl ?_
       intro I03 le3 hl0
       exact yI [] le3 ⟨_,rfl,rfl,SL.of_frozen hl0 le3 h5⟩
     intro I1 hf le1
     refine xX ?_
     rintro _ _ ⟨rfl,rfl⟩
     refine xX ?_
     rintro _ _ ⟨b2,rfl,rfl,h6⟩
     refine xX ?_
     rintro _ _ rfl
     refine yN [28,31] rfl ?_
     obtain ⟨ccs1,k0,k01⟩:=h6
     refine qI 122 2 0 rfl rfl rfl (hQ.mono le1).arr (.inl k0) k01 hy3 ?_
     intro p5 c4 cs3 h7
     exact vH (hs':=(hO zF (vS p5 l c4) cs3::(hB b1 zTwo::hB b [vS p1 p.Arrays c,vS p2 raws c1]::hO Raw2 (vS p2 raws c1) cs1::hO zD vN csN::hO zN vB csB::hf))) rfl<|yI [hO zF (vS p5 l c4) cs3] iR ⟨_,_,_,rfl,rfl,h7⟩
   intro I04 le4
   refine xX ?_
   rintro _ _ ⟨p5,c4,cs3,rfl,rfl,h7⟩
   refine yN [2,4,32] rfl ?_
   have hQ:=hQ.mono le4
   refine yB 7 [] [33] rfl<|xI 2 [vS p5 l c4,vS p2 raws c1] rfl<|yA rfl<|zP<|yV<|fW 1 [2] [(98,vA [vS p5 l c4,vS p2 raws c1])]<|xI 1 [vS p5 l c4,vS p2 raws c1] rfl<|yA rfl<|zI<|yW ?_
   obtain rfl:=zC N
   exact xA ⟨_,_,(.cell 1 rfl rfl (by kernel_rfl) ResV.nil),(zX [0,3,4,5] rfl (by decide)),⟨_,_,_,_,_,_,_,_,_,_,_,_,_,rfl,rfl,⟨h7,hQ.raw,hQ.lp,hQ.n,hQ.b⟩⟩⟩
 intro hc1 N
 refine yG [34] rfl<|zI<|yE N ?_ ?_
 · intro hc2 N
   refine oM 4 rfl ?_
   intro I05 le5 hl5
   have kN:=SL.of_frozen hl5 le5 hQ.n
   have hQ:=hQ.mono le5
   refine oM 4 rfl ?_
   intro I06 le6 hl6
   have kB:=SL.of_frozen hl6 le6 hQ.b
   replace kN:=kN.mono le6
   have hQ:=hQ.mono le6
   obtain ⟨l1,hy4,N⟩:=zB N
   have hy5:=zHl (l':=raws) (m':=[(⟨z0,z0⟩:Raw2)]) hy4 hQ.lp.2.1 rfl
   have hLP:=hQ.lp.part kN kB hy4
   refine zK<|vH (hs':=[hB b1 zTwo,hB b [vS p1 p.Arrays c,vS p2 raws c1],hO zF (vS p1 p.Arrays c) cs,hO Raw2 (vS p2 raws c1) cs1]) rfl<|fW 3 [1] [(38,vS p2 raws c1),(39,vA zTwo)]<|tH zTwo Raw2 ?_
   intro b3 hb3
   have h8:RL I06 zTwo [(⟨z0,z0⟩:Raw2)]:=⟨zTwo,[],rfl,rfl,⟨rfl,rfl,rfl⟩,rfl⟩
   refine qI 47 2 4 rfl rfl rfl hQ.raw (.inr ⟨0,rfl⟩) h8 hy5 ?_
   intro p6 c5 cs4 h9
   refine sD (zY [1,2,3,4] (hs':=[hB b1 zTwo,hB b [vS p1 p.Arrays c,vS p2 raws c1],hO zF (vS p1 p.Arrays c) cs,hO Raw2 (vS p6 (raws ++ [(⟨z0,z0⟩:Raw2)]) c5) cs4]))<|yB 6 [] [42] rfl<|xI 1 [vS p1 p.Arrays c,vS p6 (raws ++ [(⟨z0,z0⟩:Raw2)]) c5] rfl<|yA rfl<|zP<|yV<|fW 1 [1] [(98,vA [vS p1 p.Arrays c,vS p6 (raws ++ [(⟨z0,z0⟩:Raw2)]) c5])]<|xI 0 [vS p1 p.Arrays c,vS p6 (raws ++ [(⟨z0,z0⟩:Raw2)]) c5] rfl<|yA rfl<|xG<|xT (jX (Rp.sz zN))<|xT (jX (Rp.sz zD)) ?_
   obtain rfl:=zC N
   exact xA ⟨_,_,(.cell 2 rfl rfl (by kernel_rfl) ResV.nil),(zX [4,5,0,1] rfl (by decide)),⟨_,_,_,_,_,_,_,_,_,_,_,_,_,rfl,rfl,⟨hQ.arr,h9,hLP,RepL.nil,RepL.nil⟩⟩⟩
 intro hc2 N
 refine yC ?_
 obtain ⟨o01,ho01,N⟩:=zB N
 refine qL (K1 o01 I01 [hB b1 zTwo,hB b [vS p1 p.Arrays c,vS p2 raws c1],hO zF (vS p1 p.Arrays c) cs,hO Raw2 (vS p2 raws c1) cs1,hO zD vN csN,hO zN vB csB] fun t43=>[(1,vT line.l),(2,vP b 0),(4,vP b1 0),(6,vI (W ((raws.length:Int) - 1))),(43,.bool t43)]) ?_ ?_
 · refine zK<|yB 3 [] [46] rfl ?_
   cases hc3:(decide ((W ((raws.length:Int) - 1)) ≥ 0)) with
   | true =>
    have hM02:=wV hc3 ho01
    refine yB 8 [] [51] rfl ?_
    cases hc4:(decide ((y.length:Int) > 0)) with
    | true =>
     have hM03:=wV hc4 hM02
     refine yB 9 [] [52] rfl ?_
     obtain ⟨x1,hy5,N⟩:=zB hM03
     refine xJ rfl rfl h2 hy5 ?_
     intro ad1 ccs2 hat1 hrep1
     obtain rfl:=hrep1
     exact yX 0 hat1 [vT x1.l] (vT x1.l) rfl<|yJ [] [43] rfl<|yQ<|zT ⟨_,(zC N).symm,Imm.le.refl _,rfl,rfl⟩
    | false =>
     have hM04:=wB hc4 hM02
     exact wG [] [(43,vF)]<|yQ<|zT ⟨_,(zC hM04).symm,Imm.le.refl _,rfl,rfl⟩
   | false =>
    have hM05:=wB hc3 ho01
    exact wG [] [(43,vF)]<|yQ<|zT ⟨_,(zC hM05).symm,Imm.le.refl _,rfl,rfl⟩
 rintro I05 hs2 m2 ⟨t43,heq1,le5,rfl,rfl⟩
 subst o01
 have hQ:=hQ.mono le5
 refine zI<|yE N ?_ ?_
 · intro hc5 N
   refine yF<|yB 3 [1] [58,59] rfl ?_
   obtain ⟨x2,hy6,N⟩:=zB N
   obtain ⟨rfl,hyr,hset⟩:=hQ.lp.last hy6
   refine mF 3 rfl rfl rfl hQ.raw hyr ?_
   intro ad2 ccs3 hat2 hcc hrep2
   obtain ⟨rfl,o1,o2⟩:=hrep2
   refine zDC 3 0 hat2 hcc [vN,vB] (vA [vN,vB]) rfl rfl<|wH zTwo ?_
   intro b4 hb4
   refine zLn 0 [vN,vB] (hB b4 [vN,vB]::[hB b1 zTwo,hB b [vS p1 p.Arrays c,vS p2 raws c1],hO zF (vS p1 p.Arrays c) cs,hO Raw2 (vS p2 raws c1) cs1,hO zD vN csN,hO zN vB csB]) rfl rfl rfl rfl (by simp [Value.cells,o1,o2])<|yA rfl<|zI<|yC ?_
   obtain ⟨y2,hy7,N⟩:=zB N
   obtain ⟨l2,hy8,N⟩:=zB N
   refine wA [.p (vP b4 0) [],.p vN [0],.p (vT line.l) [],.x (eVLoop y2),.x (fun I' v hx=>∃ b5,v=vS (some ⟨b5,0,none⟩) ([y2]:List zD) 1∧hx=[]∧(SL I' (vS (some ⟨b5,0,none⟩) ([y2]:List zD) 1) ([y2]:List zD))),.x (fun I' v hx=>∃ p11 c10 cs3,v=vS p11 l2 c10∧hx=[hO zD (vS p11 l2 c10) cs3]∧(RL I' cs3 l2))] [[],[(0,false)],[],[(2,false)],[(3,false)],[(1,false),(4,false),(8,true)]] [hB b4 [vN,vB],hB b1 zTwo,hB b [vS p1 p.Arrays c,vS p2 raws c1],hO zF (vS p1 p.Arrays c) cs,hO Raw2 (vS p2 raws c1) cs1,hO zN vB csB] [[hO zD vN csN]] [(5,true)] (zY [0,1,2,3,4,6,5]) ?_ ?_
   · refine Op<|Op<|Op<|Ox ?_<|Ox ?_<|Ox ?_<|On
     · intro I1 hf le1
       refine yN [64] rfl<|xQ (zGS line _ hy7 ) ?_
       rintro I06 hs2 v2 k2 le6 - ⟨v05,rfl,rfl,⟨cs5,rfl,h12⟩⟩ -
       obtain ⟨v06,v07,rfl,h13,h14⟩:=zCA h12
       obtain ⟨p9,c8,rfl⟩:=h13.form
       obtain ⟨p10,c9,rfl⟩:=h14.form
       exact yI [] le6 ⟨_,_,_,_,rfl,rfl,h13,h14⟩
     · intro I1 hf le1
       refine xX ?_
       rintro _ _ ⟨p9,c8,p10,c9,rfl,rfl,h13,h14⟩
       refine yN [65] rfl<|tH (cLoop y2 p9 c8 p10 c9) zD ?_
       intro b5 hb5
       have h15:RL I1 (cLoop y2 p9 c8 p10 c9) ([y2]:List zD):=⟨(cLoop y2 p9 c8 p10 c9),_,rfl,rfl,(rL ⟨_,_,rfl,h13,h14⟩),rfl⟩
       refine xP 0 rfl ?_
       intro I07 le7 hl01
       exact yI [] le7 ⟨_,rfl,rfl,SL.of_frozen hl01 le7 h15⟩
     intro I1 hf le1
     refine xX ?_
     rintro u _ ⟨hu,rfl⟩
     have hu:=hu.symm
     subst hu
     refine xX ?_
     rintro _ _ ⟨b5,rfl,rfl,h16⟩
     refine xX ?_
     rintro _ _ rfl
     refine yN [63,66] rfl ?_
     obtain ⟨ccs4,k0,k01⟩:=h16
     refine qI 170 2 0 rfl rfl rfl (hQ.mono le1).n (.inl k0) k01 hy8 ?_
     intro p11 c10 cs3 h17
     exact vH (hs':=(hO zD (vS p11 l2 c10) cs3::(hB b4 [vN,vB]::hB b1 zTwo::hB b [vS p1 p.Arrays c,vS p2 raws c1]::hO zF (vS p1 p.Arrays c) cs::hO Raw2 (vS p2 raws c1) cs1::hO zN vB csB::hf))) rfl<|yI [hO zD (vS p11 l2 c10) cs3] iR ⟨_,_,_,rfl,rfl,h17⟩
   intro I08 le8
   refine xX ?_
   rintro _ _ ⟨p11,c10,cs3,rfl,rfl,h17⟩
   refine yN [2,4,6,7,67] rfl ?_
   have hQ:=hQ.mono le8
   refine yB 7 [] [68] rfl<|xI 1 [vS p11 l2 c10,vB] rfl<|yA rfl<|zI<|zK<|fW 4 [3,1] [(70,vS p2 raws c1),(71,vI (W ((raws.length:Int) - 1))),(72,vA [vS p11 l2 c10,vB])]<|mF 5 rfl rfl rfl hQ.raw hyr ?_
   intro ad3 ccs5 hat3 hcc1 hrep3
   obtain ⟨rfl,-⟩:=hrep3
   refine qM (α:=Raw2) (c:=[vS p11 l2 c10,vB]) (x':=⟨vS p11 l2 c10,vB⟩) 5 0 rfl rfl rfl hat3 rfl rfl hcc1 (by kernel_rfl) (by kernel_rfl) (by simp [Value.cells,o2]; rfl) hQ.raw hyr (by kernel_rfl) ⟨rfl,rfl,o2⟩ ?_
   intro cs6 h19 hl02
   refine vH (hs':=[hO zD (vS p11 l2 c10) cs3,hB b4 [vS p11 l2 c10,vB],hB b1 zTwo,hB b [vS p1 p.Arrays c,vS p2 raws c1],hO zF (vS p1 p.Arrays c) cs,hO Raw2 (vS p2 raws c1) cs6,hO zN vB csB]) rfl<|yA rfl<|zP<|yV<|fW 1 [3] [(98,vA [vS p1 p.Arrays c,vS p2 raws c1])]<|xI 2 [vS p1 p.Arrays c,vS p2 raws c1] rfl<|yA rfl<|zI<|yW ?_
   obtain rfl:=zC N
   exact xA ⟨[vA [vS p1 p.Arrays c,vS p2 raws c1]],_,(.cell 2 rfl rfl (by kernel_rfl) ResV.nil),(zX [4,5,0,6] rfl (by decide)),⟨p1,c,cs,p2,c1,cs6,raws.set (W ((raws.length:Int) - 1)).toNat ⟨vS p11 l2 c10,vB⟩,vS p11 l2 c10,vB,l2,bl,cs3,csB,(by simp only [vS,hl02]),(by simp only [vS,hl02]),⟨hQ.arr,h19,(hset _ _ _ _).mono le8,h17,hQ.b⟩⟩⟩
 intro hc5 N
 refine yG [74] rfl<|zI<|yE N ?_ ?_
 · intro hc6 N
   refine yF<|yB 3 [1] [78,79] rfl ?_
   obtain ⟨x4,hy10,N⟩:=zB N
   obtain ⟨rfl,hyr,hset⟩:=hQ.lp.last hy10
   refine mF 3 rfl rfl rfl hQ.raw hyr ?_
   intro ad4 ccs5 hat4 hcc2 hrep4
   obtain ⟨rfl,o1,o2⟩:=hrep4
   refine zDC 3 0 hat4 hcc2 [vN,vB] (vA [vN,vB]) rfl rfl<|wH zTwo ?_
   intro b6 hb6
   refine zLn 0 [vN,vB] (hB b6 [vN,vB]::[hB b1 zTwo,hB b [vS p1 p.Arrays c,vS p2 raws c1],hO zF (vS p1 p.Arrays c) cs,hO Raw2 (vS p2 raws c1) cs1,hO zD vN csN,hO zN vB csB]) rfl rfl rfl rfl (by simp [Value.cells,o1,o2])<|yA rfl<|yV<|fW 1 [] [(83,vT line.l)] ?_
   obtain ⟨⟨y4,y5⟩,hy11,N⟩:=zB N
   refine xQ (zA3 line _ hy11 ) ?_
   rintro I09 hs2 v2 k2 le9 - ⟨v012,v013,rfl,rfl,⟨cs7,rfl,h22⟩,rfl⟩ -
   have hQ:=hQ.mono le9
   obtain ⟨v014,v015,v016,v017,rfl,h24,h25,h26,h27⟩:=oN h22
   obtain ⟨p15,c14,rfl⟩:=h24.form
   obtain ⟨p16,c15,rfl⟩:=h25.form
   obtain ⟨p17,c16,rfl⟩:=h26.form
   obtain ⟨p18,c17,rfl⟩:=h27.form
   refine yB 5 [] [85,86] rfl<|wH [vT ([]),z0,vI 0,vI 0,z0,vI 0,vT ([]),z0,z0] ?_
   intro b7 hb7
   refine zAf 0 (cStmt y4 p15 c14 p16 c15 p17 c16 p18 c17) (hB b7 (cStmt y4 p15 c14 p16 c15 p17 c16 p18 c17)::hB b6 [vN,vB]::[hB b1 zTwo,hB b [vS p1 p.Arrays c,vS p2 raws c1],hO zF (vS p1 p.Arrays c) cs,hO Raw2 (vS p2 raws c1) cs1,hO zD vN csN,hO zN vB csB]) rfl rfl rfl rfl<|wG [] []<|yV<|fW 3 [1,0] [(88,vB),(89,vA (cStmt y4 p15 c14 p16 c15 p17 c16 p18 c17))]<|tH (cStmt y4 p15 c14 p16 c15 p17 c16 p18 c17) zN ?_
   intro b8 hb8
   have h28:RL I09 (cStmt y4 p15 c14 p16 c15 p17 c16 p18 c17) ([y4]:List zN):=⟨(cStmt y4 p15 c14 p16 c15 p17 c16 p18 c17),_,rfl,rfl,(wQ ⟨_,_,_,_,rfl,h24,h25,h26,h27⟩),rfl⟩
   obtain ⟨l3,hy12,N⟩:=zB N
   refine qI 43 9 8 rfl rfl rfl hQ.b (.inr ⟨0,rfl⟩) h28 hy12 ?_
   intro p19 c18 cs9 h29
   refine sD (zY [2,3,4,5,6,7,8] (hs':=[hB b6 [vN,vB],hB b1 zTwo,hB b [vS p1 p.Arrays c,vS p2 raws c1],hO zF (vS p1 p.Arrays c) cs,hO Raw2 (vS p2 raws c1) cs1,hO zD vN csN,hO zN (vS p19 l3 c18) cs9]))<|yB 6 [] [92] rfl<|xI 0 [vN,vS p19 l3 c18] rfl<|yA rfl<|zI<|zK<|fW 4 [2,0] [(94,vS p2 raws c1),(95,vI (W ((raws.length:Int) - 1))),(96,vA [vN,vS p19 l3 c18])]<|mF 4 rfl rfl rfl hQ.raw hyr ?_
   intro ad5 ccs6 hat5 hcc3 hrep5
   obtain ⟨rfl,-⟩:=hrep5
   refine qM (α:=Raw2) (c:=[vN,vS p19 l3 c18]) (x':=⟨vN,vS p19 l3 c18⟩) 4 0 rfl rfl rfl hat5 rfl rfl hcc3 (by kernel_rfl) (by kernel_rfl) (by simp [Value.cells,o1]; rfl) hQ.raw hyr (by kernel_rfl) ⟨rfl,o1,rfl⟩ ?_
   intro cs8 h31 hl03
   refine vH (hs':=[hB b6 [vN,vS p19 l3 c18],hB b1 zTwo,hB b [vS p1 p.Arrays c,vS p2 raws c1],hO zF (vS p1 p.Arrays c) cs,hO Raw2 (vS p2 raws c1) cs8,hO zD vN csN,hO zN (vS p19 l3 c18) cs9]) rfl<|yA rfl<|zP<|yV<|fW 1 [2] [(98,vA [vS p1 p.Arrays c,vS p2 raws c1])]<|xI 1 [vS p1 p.Arrays c,vS p2 raws c1] rfl<|yA rfl<|zI<|yW ?_
   obtain rfl:=zC N
   exact xA ⟨[vA [vS p1 p.Arrays c,vS p2 raws c1]],_,(.cell 1 rfl rfl (by kernel_rfl) ResV.nil),(zX [3,4,5,6] rfl (by decide)),⟨p1,c,cs,p2,c1,cs8,raws.set (W ((raws.length:Int) - 1)).toNat ⟨vN,vS p19 l3 c18⟩,vN,vS p19 l3 c18,nl,l3,csN,cs9,(by simp only [vS,hl03]),(by simp only [vS,hl03]),⟨hQ.arr,h31,(hset _ _ _ _).mono le9,hQ.n,h29⟩⟩⟩
 intro hc6 N
 refine zS<|zP<|yV<|fW 1 [1] [(98,vA [vS p1 p.Arrays c,vS p2 raws c1])]<|xI 0 [vS p1 p.Arrays c,vS p2 raws c1] rfl<|yA rfl<|zI<|yW ?_
 obtain rfl:=zC N
 exact xA ⟨_,_,(.cell 0 rfl rfl (by kernel_rfl) ResV.nil),(zX [2,3,4,5] rfl (by decide)),⟨_,_,_,_,_,_,_,_,_,_,_,_,_,rfl,rfl,hQ⟩⟩
def vM (x:zF) (k0:Int):Option (Out Unit (Bool)):=do
 if (decide (k0 < (x.Dims.length:Int))) then
  let t77←(do
    let x2←idx x.Dims k0
    if (decide (x2 < 1)) then
     pure true
    else
     let x3←idx x.Dims k0
     pure (decide (x3 > 6))
      : Option Bool)
  if t77 then
   pure (.ret false)
  else
   vM x (W (k0 + 1))
 else
  pure (.done ())
 partial_fixpoint
theorem zCk (x:zF):∀ (k0:Int) (o:Out Unit (Bool)),vM x k0=some o→∀ {B}{I0 I:Imm}{Q}{list:(List zF)}{i:Int}{p c p1 c1}{b:Nat},I0.le I→(S4 I p list c)→(S4 I p1 x.Dims c1)→NG Q→NO Q→(∀ (I':Imm) ,o=(.done ())→I0.le I'→T 81 B Q (.exit 2) I' [] [(0,vS p list c),(3,vI i)])→(∀ r I' hs' m',o=(.ret r)→I0.le I'→RS Tryz.prog Tryz.f113 B (zU  r) I' hs' m'→T 81 B Q .ret I' hs' m')→J Tryz.prog 81 B (nav (bodyOf Tryz.f113) [1,0,1,0,0,1,0,0,1,1,1,0]) Q I [hB b (cArr x p1 c1)] [(0,vS p list c),(3,vI i),(4,vP b 0),(5,vI k0)]:=by
 refine vM.partial_correctness x _ fun self ih k0 o N B I0 I Q list i p c p1 c1 b H h h1 hg ho hx hr=>yT hg ho<|yC<|yF<|yJ [0] [61] rfl<|zI<|yE N ?_ ?_
 · intro hc9 N;refine zS<|zZ<|yH<|yC ?_;refine wE N [hB b (cArr x p1 c1)] (fun t77=>[(0,vS p list c),(3,vI i),(4,vP b 0),(5,vI k0),(77,.bool t77)]) (fun o01 ho01=>?_) ?_
   · have H:=iS I;refine zK<|yB 3 [0] [65,66] rfl ?_;obtain ⟨x2,hy2,N⟩:=zB ho01;refine xJ rfl rfl h1 hy2 ?_;intro ad2 ccs2 hat2 hrep2;obtain rfl:=hrep2;refine yX 0 hat2 [vI x2] (vI x2) rfl<|yB 7 [] [70] rfl<|xW [70] N ?_ ?_
     · intro hc10 N;exact wG [] [(77,vY)]<|yQ<|zT (ct N H)
     intro hc10 N;refine yB 10 [0] [72,73] rfl<|bE N fun x3 hy3 N=>xJ rfl rfl h1 hy3 ?_;intro ad3 ccs3 hat3 hrep3;obtain rfl:=hrep3;exact yX 0 hat3 [vI x3] (vI x3) rfl<|yJ [] [77] rfl<|yQ<|zT (ct N H)
   intro t77 I01 le1 hMc1;have ⟨h,h1,H⟩:=m3 le1 h h1 H;refine zI<|yE hMc1 ?_ ?_
   · intro hc11 N;exact vJ [(2,vF)]<|xG<|zW<|zH<|zH<|hr _ _ _ _ (zC N).symm H ⟨_,_,(.tmp rfl ResV.nil),zQ,⟨_,rfl,rfl,rfl⟩⟩
   intro hc11 N;exact zS<|zP<|zI<|zK<|yJ [] [5] rfl<|yS<|nG<|ih (W (k0 + 1)) _ N H h h1 hg ho hx hr
 intro hc9 N;exact wT<|xT zQ<|yQ<|hx _  (zC N).symm H
def uH (list:(List zF)) (i:Int):Option (Out Unit (Bool)):=do
 if (decide (i < (list.length:Int))) then
  let x←idx list i
  let t56←(do
    if ((x.Name.l.length:Int) != 1) then
     pure true
    else
     if (Op.bytesLess x.Name.l ([65]:List UInt8)) then
      pure true
     else
      if (!(Op.bytesLess x.Name.l ([68]:List UInt8) || x.Name.l == ([68]:List UInt8))) then
       pure true
      else
       if (decide (i > 0)) then
        let x1←idx list (W (i - 1))
        if (!(Op.bytesLess x1.Name.l x.Name.l)) then
         pure true
        else
         if (decide ((x.Dims.length:Int) < 1)) then
          pure true
         else
          pure (decide ((x.Dims.length:Int) > 2))
       else
        if (decide ((x.Dims.length:Int) < 1)) then
         pure true
        else
         pure (decide ((x.Dims.length:Int) > 2))
      : Option Bool)
  if t56 then
   pure (.ret false)
  else
   match←vM x 0 with
   | .ret r0=>pure (.ret r0)
   | .done _ =>
    uH list (W (i + 1))
 else
  pure (.done ())
 partial_fixpoint
theorem zCl (list:(List zF)):∀ (i:Int) (o:Out Unit (Bool)),uH list i=some o→∀ {B}{I0 I:Imm}{Q p c},I0.le I→(S4 I p list c)→NG Q→NO Q→(∀ (I':Imm) ,o=(.done ())→I0.le I'→T 81 B Q (.exit 0) I' [] [(0,vS p list c)])→(∀ r I' hs' m',o=(.ret r)→I0.le I'→RS Tryz.prog Tryz.f113 B (zU  r) I' hs' m'→T 81 B Q .ret I' hs' m')→J Tryz.prog 81 B (nav (bodyOf Tryz.f113) [1,0,1,0]) Q I [] [(0,vS p list c),(3,vI i)]:=by
 refine uH.partial_correctness list _ fun self ih i o N B I0 I Q p c H h hg ho hx hr=>yT hg ho<|yC<|yG [9] rfl<|zI<|yE N ?_ ?_
 · intro hc N;refine zS<|zZ<|yH<|yF<|yB 2 [] [12,13] rfl<|bE N fun x hy N=>xJ rfl rfl h hy ?_;intro ad ccs hat hrep;obtain ⟨p1,c1,rfl,h1⟩:=wJ hrep;refine yX 0 hat (cArr x p1 c1) (vA (cArr x p1 c1)) rfl<|wH [vT ([]),z0] ?_;intro b hb;refine xI 0 (cArr x p1 c1) rfl<|yA rfl<|zZ<|yC ?_;refine wE N [hB b (cArr x p1 c1)] (fun t56=>[(0,vS p list c),(3,vI i),(4,vP b 0),(56,.bool t56)]) (fun o0 ho0=>?_) ?_
   · have H:=iS I;refine kY (by kernel_rfl) (by kernel_rfl)<|fU 5 [0] [20] rfl<|zFV [20] ho0 ?_ ?_
     · intro hc1 N;exact zIT [] [(56,vY)]<|yQ<|zT (ct N H)
     intro hc1 N;refine fU 10 [0] [25] rfl<|zFV [25] N ?_ ?_
     · intro hc2 N;exact zIT [] [(56,vY)]<|yQ<|zT (ct N H)
     intro hc2 N;refine fU 15 [0] [30] rfl<|zFV [30] N ?_ ?_
     · intro hc3 N;exact zIT [] [(56,vY)]<|yQ<|zT (ct N H)
     intro hc3 N;refine fU 18 [] [33] rfl<|zFV [33] N ?_ ?_
     · intro hc4 N;refine fU 21 [] [34,36] rfl<|bE N fun x1 hy1 N=>dQ rfl rfl h hy1 ?_;intro ad1 ccs1 hat1 hrep1;obtain ⟨p2,c2,rfl,h2⟩:=wJ hrep1;refine fU 23 [] [38] rfl<|eK 0 hat1 [vT x1.Name.l] (vT x1.Name.l) rfl<|fU 30 [0] [45] rfl<|zFV [45] N ?_ ?_
       · intro hc5 N;exact zIT [] [(56,vY)]<|yQ<|zT (ct N H)
       intro hc5 N;refine fU 36 [0] [51] rfl<|zFV [51] N ?_ ?_
       · intro hc6 N;exact zIT [] [(56,vY)]<|yQ<|zT (ct N H)
       intro hc6 N;exact zGy [0] [56] rfl<|yQ<|zT (ct N H)
     intro hc4 N;refine fU 36 [0] [51] rfl<|zFV [51] N ?_ ?_
     · intro hc7 N;exact zIT [] [(56,vY)]<|yQ<|zT (ct N H)
     intro hc7 N;exact zGy [0] [56] rfl<|yQ<|zT (ct N H)
   intro t56 I0 le hMc;have ⟨h,h1,H⟩:=m3 le h h1 H;refine zI<|yE hMc ?_ ?_
   · intro hc8 N;exact vJ [(2,vF)]<|xG<|zH<|zW<|zH<|zH<|hr _ _ _ _ (zC N).symm H ⟨_,_,(.tmp rfl ResV.nil),zQ,⟨_,rfl,rfl,rfl⟩⟩
   intro hc8 N;refine zS<|vG [5] rfl<|xZ<|pJ [(0,vS p list c),(3,vI i),(4,vP b 0),(5,vI 0)] ?_;obtain ⟨o02,ho02,hMl⟩:=zB N;refine zCk x 0 o02 ho02 iR h h1 (fun _ _ _ h=>hg _ _ _ h) (fun _ _ h=>ho _ _ h) ?_ ?_
   · intro I02  heq2 le2;subst o02;have ⟨h,H⟩:=m2 le2 h H;exact zR<|zP<|zI<|zK<|yJ [] [3] rfl<|yS<|nG<|ih (W (i + 1)) _ hMl H h hg ho hx hr
   intro r0 I9 hs9 m9 heq9 le9 hrs9;subst heq9;exact zW<|zW<|zH<|zH<|hr _ _ _ _ (zC hMl).symm (H.trans le9) hrs9
 intro hc N;exact wT<|yQ<|hx _  (zC N).symm H
def oZ (list:(List zF)):Option (Bool):=do
 match←uH list 0 with
 | .ret r0=>pure r0
 | .done _ =>
  pure (decide ((list.length:Int) ≤ 4))
theorem zEu:∀ list r,oZ list=some r→∀ {I:Imm}{p c},(S4 I p list c)→RT 113 [vS p list c] I [] (zU  r):=by
 intro list r N I p c h;unfold oZ at N;refine yM Tryz.func113 fun B=>vJ []<|zZ<|yG [3] rfl<|xZ<|pJ [(0,vS p list c),(3,vI 0)] ?_;obtain ⟨o03,ho03,hMl1⟩:=zB N;refine zCl list 0 o03 ho03 iR h (fun _ _ _ h=>h) (fun _ _ h=>h) ?_ ?_
 · intro I03  heq3 le3;subst o03;refine zR<|vG [2] rfl<|zI<|yW ?_;obtain rfl:=zC hMl1;exact wP
 intro r0 I9 hs9 m9 heq9 le9 hrs9;subst heq9;refine zW<|zH ?_;obtain rfl:=zC hMl1;exact xA hrs9
def tP (a0:zA) (point:(List Int)) (n0:Int) (i:Int):Option (Int):=do
 let t19←(do
   if (decide (i < (point.length:Int))) then
    pure (decide (i < (a0.Coefs.length:Int)))
   else
    pure false
     : Option Bool)
 if t19 then
  let x←idx a0.Coefs i
  let x1←idx point i
  tP a0 point (W (n0 + (W (x * x1)))) (W (i + 1))
 else
  pure (id n0)
 partial_fixpoint
theorem zEA (a0:zA) (point:(List Int)):∀ (n0:Int) (i:Int) (o:Int),tP a0 point n0 i=some o→∀ {B}{I0 I:Imm}{Q p c p1 c1}{b:Nat},I0.le I→(S4 I p1 point c1)→(S4 I p a0.Coefs c)→NG Q→NO Q→(∀ (I':Imm) (n01:Int),o=n01→I0.le I'→T 35 B Q (.exit 0) I' [] [(5,vI n01)])→J Tryz.prog 35 B (nav (bodyOf Tryz.f214) [1,1,0,1,0]) Q I [hB b (cAff a0 p c)] [(1,vS p1 point c1),(2,vP b 0),(5,vI n0),(6,vI i)]:=by
 refine tP.partial_correctness a0 point _ fun self ih n0 i o N B I0 I Q p c p1 c1 b H h1 h hg ho hx=>yT hg ho<|yC<|yC ?_;refine wE N [hB b (cAff a0 p c)] (fun t19=>[(1,vS p1 point c1),(2,vP b 0),(5,vI n0),(6,vI i),(19,.bool t19)]) (fun o0 ho0=>?_) ?_
 · have H:=iS I;refine zK<|yB 5 [] [13] rfl<|xW [13] ho0 ?_ ?_
   · intro hc N;exact yJ [0] [19] rfl<|yQ<|zT (ct N H)
   intro hc N;exact wG [] [(19,vF)]<|yQ<|zT (ct N H)
 intro t19 I0 le hMc;have ⟨h1,h,H⟩:=m3 le h1 h H;refine zI<|yE hMc ?_ ?_
 · intro hc1 N;refine zS<|zZ<|yH<|kY (by kernel_rfl) (by kernel_rfl)<|fU 4 [0] [22,24,25] rfl<|bE N fun x hy N=>dQ rfl rfl h hy ?_;intro ad ccs hat hrep;obtain rfl:=hrep;refine eK 0 hat [vI x] (vI x) rfl<|fU 8 [] [28,29] rfl<|bE N fun x1 hy1 N=>dQ rfl rfl h1 hy1 ?_;intro ad1 ccs1 hat1 hrep1;obtain rfl:=hrep1;exact eK 0 hat1 [vI x1] (vI x1) rfl<|zGy [] [5] rfl<|zP<|zI<|zK<|yJ [] [6] rfl<|yS<|nG<|ih (W (n0 + (W (x * x1)))) (W (i + 1)) _ N H h1 h hg ho hx
 intro hc1 N;exact wT<|xT zQ<|yQ<|hx _ _ (zC N).symm H
def rS (a0:zA) (point:(List Int)):Option (Int):=do
 let n01←tP a0 point a0.Const 0
 pure (id n01)
theorem gJ:∀ a0 point r,rS a0 point=some r→∀ {I:Imm}{p c p1 c1},(S4 I p a0.Coefs c)→(S4 I p1 point c1)→RT 214 [vA (cAff a0 p c),vS p1 point c1] I [] (yK  r):=by
 intro a0 point r N I p c p1 c1 h h1;unfold rS at N;refine yM Tryz.func214 fun B=>yF<|vX (cAff a0 p c) ?_;intro b hb;refine wG [] []<|yV<|yJ [0] [5] rfl<|zZ<|yG [6] rfl<|xZ<|pJ [(1,vS p1 point c1),(2,vP b 0),(5,vI a0.Const),(6,vI 0)] ?_;obtain ⟨o01,ho01,hMl⟩:=zB N;refine zEA a0 point a0.Const 0 o01 ho01 iR h1 h (fun _ _ _ h=>h) (fun _ _ h=>h) ?_;intro I01 n01 heq1 le1;subst o01;refine zR<|vG [4] rfl<|zI<|yW ?_;obtain rfl:=zC hMl;exact wP
def uZ (loop:zD) (p2:(List Int)) (lo:Int) (i:Int):Option (Int):=do
 if (decide (i < (loop.Lo.length:Int))) then
  let x2←idx loop.Lo i
  let y2←rS x2 p2
  let lo2←(do
    if (decide (y2 > lo)) then
     pure (id y2)
    else
     pure (id lo)
      : Option Int)
  uZ loop p2 lo2 (W (i + 1))
 else
  pure (id lo)
 partial_fixpoint
theorem zDV (loop:zD) (p2:(List Int)):∀ (lo:Int) (i:Int) (o:Int),uZ loop p2 lo i=some o→∀ {B}{I0 I:Imm}{Q}{y1:Int}{p c p1 c1 p3 c2}{b:Nat},I0.le I→(S4 I p3 p2 c2)→(S4 I p loop.Lo c)→(S4 I p1 loop.Hi c1)→NG Q→NO Q→(∀ (I':Imm) (lo1:Int),o=lo1→I0.le I'→T 62 B Q (.exit 0) I' [hB b (cLoop loop p c p1 c1)] [(1,vS p3 p2 c2),(2,vP b 0),(6,vI lo1),(7,vI y1)])→J Tryz.prog 62 B (nav (bodyOf Tryz.f169) [1,1,1,0,1,0]) Q I [hB b (cLoop loop p c p1 c1)] [(1,vS p3 p2 c2),(2,vP b 0),(6,vI lo),(7,vI y1),(8,vI i)]:=by
 refine uZ.partial_correctness loop p2 _ fun self ih lo i o N B I0 I Q y1 p c p1 c1 p3 c2 b H h2 h h1 hg ho hx=>yT hg ho<|yC<|yF<|yJ [0] [28] rfl<|zI<|yE N ?_ ?_
 · intro hc N;refine zS<|zZ<|yH<|yF<|yB 3 [0] [32,33] rfl<|bE N fun x2 hy4 N=>xJ rfl rfl h hy4 ?_;intro ad2 ccs2 hat2 hrep2;obtain ⟨p6,c5,rfl,h7⟩:=yL hrep2;refine yX 0 hat2 (cAff x2 p6 c5) (vA (cAff x2 p6 c5)) rfl<|yB 6 [] [36] rfl<|bE N fun y2 hy5 N=>gS (gJ x2 p2 _ hy5 h7 h2) ?_;intro I02 le2;have ⟨h2,h,h1,H⟩:=m4 le2 h2 h h1 H;refine yJ [] [9] rfl<|vG [40] rfl<|zI ?_;refine wE N [hB b (cLoop loop p c p1 c1)] (fun lo2=>[(1,vS p3 p2 c2),(2,vP b 0),(6,vI lo2),(7,vI y1),(8,vI i)]) (fun o0 ho0=>?_) ?_
   · have H:=iS I02;refine yE ho0 ?_ ?_
     · intro hc1 N;exact zK<|yJ [] [6] rfl<|yQ<|zT (ct N H)
     intro hc1 N;exact zS<|yQ<|zT (ct N H)
   intro lo2 I03 le3 hMc;have ⟨h2,h,h1,H⟩:=m4 le3 h2 h h1 H;exact zP<|zI<|zK<|yJ [] [8] rfl<|yS<|nG<|ih lo2 (W (i + 1)) _ hMc H h2 h h1 hg ho hx
 intro hc N;exact wT<|yQ<|hx _ _ (zC N).symm H
def tA (loop:zD) (p2:(List Int)) (hi:Int) (i1:Int):Option (Int):=do
 if (decide (i1 < (loop.Hi.length:Int))) then
  let x3←idx loop.Hi i1
  let y3←rS x3 p2
  let hi2←(do
    if (decide (y3 < hi)) then
     pure (id y3)
    else
     pure (id hi)
      : Option Int)
  tA loop p2 hi2 (W (i1 + 1))
 else
  pure (id hi)
 partial_fixpoint
theorem zDW (loop:zD) (p2:(List Int)):∀ (hi:Int) (i1:Int) (o:Int),tA loop p2 hi i1=some o→∀ {B}{I0 I:Imm}{Q}{lo1:Int}{p c p1 c1 p3 c2}{b:Nat},I0.le I→(S4 I p3 p2 c2)→(S4 I p loop.Lo c)→(S4 I p1 loop.Hi c1)→NG Q→NO Q→(∀ (I':Imm) (hi1:Int),o=hi1→I0.le I'→T 62 B Q (.exit 2) I' [] [(6,vI lo1),(7,vI hi1)])→J Tryz.prog 62 B (nav (bodyOf Tryz.f169) [1,1,1,1,0,1,0]) Q I [hB b (cLoop loop p c p1 c1)] [(1,vS p3 p2 c2),(2,vP b 0),(6,vI lo1),(7,vI hi),(10,vI i1)]:=by
 refine tA.partial_correctness loop p2 _ fun self ih hi i1 o N B I0 I Q lo1 p c p1 c1 p3 c2 b H h2 h h1 hg ho hx=>yT hg ho<|yC<|yF<|yJ [0] [46] rfl<|zI<|yE N ?_ ?_
 · intro hc2 N;refine zS<|zZ<|yH<|yF<|yB 3 [0] [50,51] rfl<|bE N fun x3 hy6 N=>xJ rfl rfl h1 hy6 ?_;intro ad3 ccs3 hat3 hrep3;obtain ⟨p7,c6,rfl,h9⟩:=yL hrep3;refine yX 0 hat3 (cAff x3 p7 c6) (vA (cAff x3 p7 c6)) rfl<|yB 6 [] [54] rfl<|bE N fun y3 hy7 N=>gS (gJ x3 p2 _ hy7 h9 h2) ?_;intro I05 le5;have ⟨h2,h,h1,H⟩:=m4 le5 h2 h h1 H;refine yJ [] [11] rfl<|vG [58] rfl<|zI ?_;refine wE N [hB b (cLoop loop p c p1 c1)] (fun hi2=>[(1,vS p3 p2 c2),(2,vP b 0),(6,vI lo1),(7,vI hi2),(10,vI i1)]) (fun o02 ho02=>?_) ?_
   · have H:=iS I05;refine yE ho02 ?_ ?_
     · intro hc3 N;exact zK<|yJ [] [7] rfl<|yQ<|zT (ct N H)
     intro hc3 N;exact zS<|yQ<|zT (ct N H)
   intro hi2 I06 le6 hMc1;have ⟨h2,h,h1,H⟩:=m4 le6 h2 h h1 H;exact zP<|zI<|zK<|yJ [] [10] rfl<|yS<|nG<|ih hi2 (W (i1 + 1)) _ hMc1 H h2 h h1 hg ho hx
 intro hc2 N;exact wT<|xT zQ<|yQ<|hx _ _ (zC N).symm H
def oO (loop:zD) (p2:(List Int)):Option (Int×Int):=do
 let x←idx loop.Lo 0
 let y←rS x p2
 let x1←idx loop.Hi 0
 let y1←rS x1 p2
 let lo1←uZ loop p2 y 1
 let hi1←tA loop p2 y1 1
 pure (lo1,hi1)
theorem zBf:∀ loop p2 r,oO loop p2=some r→∀ {I:Imm}{p c p1 c1 p3 c2},(S4 I p loop.Lo c)→(S4 I p1 loop.Hi c1)→(S4 I p3 p2 c2)→RT 169 [vA (cLoop loop p c p1 c1),vS p3 p2 c2] I [] (gZ  r):=by
 intro loop p2 r N I p c p1 c1 p3 c2 h h1 h2;unfold oO at N;refine yM Tryz.func169 fun B=>yF<|vX (cLoop loop p c p1 c1) ?_;intro b hb;refine wG [] []<|yV<|yB 2 [0] [13] rfl<|bE N fun x hy N=>xJ rfl rfl h hy ?_;intro ad ccs hat hrep;obtain ⟨p4,c3,rfl,h3⟩:=yL hrep;refine yX 0 hat (cAff x p4 c3) (vA (cAff x p4 c3)) rfl<|yB 5 [] [16] rfl<|bE N fun y hy1 N=>gS (gJ x p2 _ hy1 h3 h2) ?_;intro I0 le;have ⟨h2,h,h1⟩:=m3 le h2 h h1;refine yJ [] [6] rfl<|yV<|yB 2 [0] [19] rfl<|bE N fun x1 hy2 N=>xJ rfl rfl h1 hy2 ?_;intro ad1 ccs1 hat1 hrep1;obtain ⟨p5,c4,rfl,h5⟩:=yL hrep1;refine yX 0 hat1 (cAff x1 p5 c4) (vA (cAff x1 p5 c4)) rfl<|yB 5 [] [22] rfl<|bE N fun y1 hy3 N=>gS (gJ x1 p2 _ hy3 h5 h2) ?_;intro I01 le1;have ⟨h2,h,h1⟩:=m3 le1 h2 h h1;refine yJ [] [7] rfl<|zZ<|yG [8] rfl<|xZ<|pJ [(1,vS p3 p2 c2),(2,vP b 0),(6,vI y),(7,vI y1),(8,vI 1)] ?_;obtain ⟨o01,ho01,hMl⟩:=zB N;refine zDV loop p2 y 1 o01 ho01 iR h2 h h1 (fun _ _ _ h=>h) (fun _ _ h=>h) ?_;intro I04 lo1 heq1 le4;subst o01;have ⟨h2,h,h1⟩:=m3 le4 h2 h h1;refine zR<|zZ<|yG [10] rfl<|xZ<|pJ [(1,vS p3 p2 c2),(2,vP b 0),(6,vI lo1),(7,vI y1),(10,vI 1)] ?_;obtain ⟨o03,ho03,hMl1⟩:=zB hMl;refine zDW loop p2 y1 1 o03 ho03 iR h2 h h1 (fun _ _ _ h=>h) (fun _ _ h=>h) ?_;intro I07 hi1 heq3 le7;subst o03;refine zR<|vG [4,5] rfl<|zI<|yW ?_;obtain rfl:=zC hMl1;exact xA ⟨_,_,(.tmp rfl (.tmp rfl ResV.nil)),zQ,⟨_,_,rfl,rfl,rfl,rfl⟩⟩
def zAM (r:(List (List Int))):KT:=fun kk I' hs' v=>
  ∃ a0 c0 s0,hs'=[.osl (.slice a0 r.length c0) (Rp.sz (List Int)) s0]∧v=tupV [(.slice a0 r.length c0)]∧RepL (Rp.rep I') (Rp.sz (List Int)) s0 r
mutual
def vW (out:(List (List Int))) (nest:(List zD)) (p2:(List Int)):Option ((List (List Int))):=do
 if ((p2.length:Int) == (nest.length:Int)) then
  let l←app 8 ([]:List Int) p2
  let t6←app 24 out ([l]:List (List Int))
  pure (id t6)
 else
  let x←idx nest (p2.length:Int)
  let (y1,y2)←oO x p2
  let out2←tL (same nest) (same p2) (same y2) (same out) (same y1)
  pure (id out2)
 partial_fixpoint
def tL (nest:(List zD)) (p2:(List Int)) (y2:Int) (out1:List (List Int)) (v04:Int):Option (List (List Int)):=do
 let t39←(do
   if (decide (v04 < y2)) then
    pure (decide ((out1.length:Int) ≤ 120))
   else
    pure false
     : Option Bool)
 if t39 then
  let l1←app 8 ([]:List Int) p2
  let l2←app 8 l1 ([v04]:List Int)
  let y3←vW (same out1) (same nest) (same l2)
  tL (same nest) (same p2) (same y2) (same y3) (W (v04 + 1))
 else
  pure (id out1)
 partial_fixpoint
end
theorem zEB:(∀ (out:(List (List Int))) (nest:(List zD)) (p2:(List Int)) r,vW out nest p2=some r→∀ {I:Imm}{p c cs p1 c1 p3 c2},(RL I cs out)→(S4 I p1 nest c1)→(S4 I p3 p2 c2)→RT 119 [vS p out c,vS p1 nest c1,vS p3 p2 c2] I [hO (List Int) (vS p out c) cs] (zAM  r))∧(∀ (nest:(List zD)) (p2:(List Int)) (y2:Int) (out1:List (List Int)) (v04:Int) o,tL nest p2 y2 out1 v04=some o→∀ {B}{I0 I:Imm}{Q p1 c1 p3 c2 p8 c7 cs3},I0.le I→(S4 I p1 nest c1)→(S4 I p3 p2 c2)→(RL I cs3 out1)→NG Q→NO Q→(∀ (I':Imm) (out2:List (List Int)) (p9:Option Addr) (c8:Nat) (cs4:List Value),o=out2→I0.le I'→(RL I' cs4 out2)→T 52 B Q (.exit 0) I' [hO (List Int) (vS p9 out2 c8) cs4] [(0,vS p9 out2 c8)])→J Tryz.prog 52 B (nav (bodyOf Tryz.f119) [1,1,1,0,1,0]) Q I [hO (List Int) (vS p8 out1 c7) cs3] [(0,vS p8 out1 c7),(1,vS p1 nest c1),(2,vS p3 p2 c2),(8,vI y2),(9,vI v04)]):=by
  refine vW.mutual_partial_correctness _ _ ?_ ?_
  · intro F_spec_l2Points_l1 ih_spec_l2Points_l1 out nest p2 r N I p c cs p1 c1 p3 c2 h h1 h2;refine yM Tryz.func119 fun B=>vJ []<|zZ<|yG [14] rfl<|zI<|yE N ?_ ?_
    · intro hc N;refine yF<|yB 1 [] [15] rfl<|tH [] Int ?_;intro b hb;have h3:RL I [] ([]:List Int):=rfl;refine yB 3 [] [17] rfl ?_;obtain ⟨ccs,k0,k01⟩:=h2;have h2:SL I (vS p3 p2 c2) p2:=⟨_,k0,k01⟩;obtain ⟨l,hy,N⟩:=zB N;refine qI 3 1 0 rfl rfl rfl h3 (.inl k0) k01 hy fun p4 c3 cs1 h4=>sD (zY [0,1] (hs':=[hO Int (vS p4 l c3) cs1,hO (List Int) (vS p out c) cs]))<|xP 0 rfl ?_;intro I0 le hl0;have h5:=SL.of_frozen hl0 le h4;have h:=iM le h;refine tH [vS p4 l c3] (List Int) ?_;intro b1 hb1;have h6:RL I0 [vS p4 l c3] ([l]:List (List Int)):=⟨[vS p4 l c3],_,rfl,rfl,⟨_,rfl,h5⟩,rfl⟩;obtain ⟨t6,hy1,N⟩:=zB N;refine qI 36 1 1 rfl rfl rfl h (.inr ⟨0,rfl⟩) h6 hy1 fun p5 c4 cs2 h7=>sD (zY [1] (hs':=[hO (List Int) (vS p5 t6 c4) cs2]))<|yJ [] [6] rfl<|xG<|zH ?_;obtain rfl:=zC N;exact xA ⟨_,_,(.tmp rfl ResV.nil),(zX [0] rfl (by decide)),⟨_,_,_,rfl,rfl,h7⟩⟩
    intro hc N;refine zS<|yV<|yB 3 [] [22,24] rfl<|bE N fun x hy2 N=>xJ rfl rfl h1 hy2 ?_;intro ad ccs1 hat hrep;obtain ⟨p6,c5,p7,c6,rfl,h8,h9⟩:=sB hrep;refine yX 0 hat (cLoop x p6 c5 p7 c6) (vA (cLoop x p6 c5 p7 c6)) rfl<|yB 6 [] [27] rfl ?_;obtain ⟨⟨y1,y2⟩,hy3,N⟩:=zB N;refine xQ (zBf x p2 _ hy3 h8 h9 h2) ?_;rintro I01 hs2 v2 k2 le1 - ⟨v02,v03,rfl,rfl,rfl,rfl⟩ -;have ⟨h,h1,h2⟩:=m3 le1 h h1 h2;refine yJ [] [7,8] rfl<|zZ<|yG [9] rfl<|xZ<|pJ [(0,vS p out c),(1,vS p1 nest c1),(2,vS p3 p2 c2),(8,vI y2),(9,vI y1)] ?_;obtain ⟨o01,ho01,hMl⟩:=zB N;refine ih_spec_l2Points_l1 nest p2 y2 out y1 o01 ho01 iR h1 h2 h (fun _ _ _ h=>h) (fun _ _ h=>h) ?_;intro I05 out2 p9 c8 cs4 heq1 le5 h13;subst o01;refine zR<|vG [6] rfl<|zI<|yW ?_;obtain rfl:=zC hMl;exact xA ⟨_,_,(.tmp rfl ResV.nil),(zX [0] rfl (by decide)),⟨_,_,_,rfl,rfl,h13⟩⟩
  intro F_spec_l2Points F_spec_l2Points_l1 ih_spec_l2Points ih_spec_l2Points_l1 nest p2 y2 out1 v04 o N B I0 I Q p1 c1 p3 c2 p8 c7 cs3 H h1 h2 h12 hg ho hx;refine yT hg ho<|yC<|yC ?_;refine wE N [hO (List Int) (vS p8 out1 c7) cs3] (fun t39=>[(0,vS p8 out1 c7),(1,vS p1 nest c1),(2,vS p3 p2 c2),(8,vI y2),(9,vI v04),(39,.bool t39)]) (fun o0 ho0=>?_) ?_
  · have H:=iS I;refine zK<|yB 4 [] [35] rfl<|xW [35] ho0 ?_ ?_
    · intro hc1 N;exact yJ [] [39] rfl<|yQ<|zT (ct N H)
    intro hc1 N;exact wG [] [(39,vF)]<|yQ<|zT (ct N H)
  intro t39 I02 le2 hMc;have ⟨h12,h1,h2,H⟩:=m4 le2 h12 h1 h2 H;refine zI<|yE hMc ?_ ?_
  · intro hc2 N;refine zS<|zZ<|yH<|zK<|yB 2 [] [42,43] rfl<|tH [] Int ?_;intro b2 hb2;have h14:RL I02 [] ([]:List Int):=rfl;refine yB 4 [] [45] rfl ?_;obtain ⟨ccs2,k02,k03⟩:=h2;have h2:SL I02 (vS p3 p2 c2) p2:=⟨_,k02,k03⟩;obtain ⟨l1,hy4,N⟩:=zB N;refine qI 3 1 0 rfl rfl rfl h14 (.inl k02) k03 hy4 fun p10 c9 cs5 h15=>sD (zY [0,1] (hs':=[hO Int (vS p10 l1 c9) cs5,hO (List Int) (vS p8 out1 c7) cs3]))<|yB 6 [] [47] rfl<|tH [vI v04] Int ?_;intro b3 hb3;have h16:RL I02 [vI v04] ([v04]:List Int):=rI [v04];obtain ⟨l2,hy5,N⟩:=zB N;refine qI 3 1 1 rfl rfl rfl h15 (.inr ⟨0,rfl⟩) h16 hy5 fun p11 c10 cs6 h17=>sD (zY [1,2] (hs':=[hO Int (vS p11 l2 c10) cs6,hO (List Int) (vS p8 out1 c7) cs3]))<|xP 0 rfl ?_;intro I03 le3 hl01;have h18:=SL.of_frozen hl01 le3 h17;have ⟨h1,h2,h12,H⟩:=m4 le3 h1 h2 h12 H;obtain ⟨y3,hy6,N⟩:=zB N;refine sE (ih_spec_l2Points out1 nest l2 _ hy6 h12 h1 h18) rfl ?_;rintro I04 hs2 v2 k2 le4 - ⟨p12,c11,cs7,rfl,rfl,h19⟩ -;have ⟨h1,h2,H⟩:=m3 le4 h1 h2 H;exact yJ [] [0] rfl<|zP<|zI<|zK<|yJ [] [9] rfl<|yS<|nG<|ih_spec_l2Points_l1 nest p2 y2 y3 (W (v04 + 1)) _ N H h1 h2 h19 hg ho hx
  intro hc2 N;exact wT<|yQ<|hx _ _ _ _ _ (zC N).symm H h12
theorem zBG:∀ out nest p2 r,vW out nest p2=some r→∀ {I:Imm}{p c cs p1 c1 p3 c2},(RL I cs out)→(S4 I p1 nest c1)→(S4 I p3 p2 c2)→RT 119 [vS p out c,vS p1 nest c1,vS p3 p2 c2] I [hO (List Int) (vS p out c) cs] (zAM  r):=zEB.1
def tQ (list:(List zA)) (depth:Int) (i:Int):Option (Out Unit (Bool)):=do
 if (decide (i < (list.length:Int))) then
  let t26←(do
    let x←idx list i
    let y←uF x
    if (!y) then
     pure true
    else
     let x1←idx list i
     let y1←qU x1
     pure (decide (y1 > depth))
      : Option Bool)
  if t26 then
   pure (.ret false)
  else
   tQ list depth (W (i + 1))
 else
  pure (.done ())
 partial_fixpoint
theorem zEC (list:(List zA)) (depth:Int):∀ (i:Int) (o:Out Unit (Bool)),tQ list depth i=some o→∀ {B}{I0 I:Imm}{Q p c},I0.le I→(S4 I p list c)→NG Q→NO Q→(∀ (I':Imm) ,o=(.done ())→I0.le I'→T 35 B Q (.exit 0) I' [] [(0,vS p list c)])→(∀ r I' hs' m',o=(.ret r)→I0.le I'→RS Tryz.prog Tryz.f242 B (zU  r) I' hs' m'→T 35 B Q .ret I' hs' m')→J Tryz.prog 35 B (nav (bodyOf Tryz.f242) [1,0,1,0]) Q I [] [(0,vS p list c),(1,vI depth),(5,vI i)]:=by
 refine tQ.partial_correctness list depth _ fun self ih i o N B I0 I Q p c H h hg ho hx hr=>yT hg ho<|yC<|yG [9] rfl<|zI<|yE N ?_ ?_
 · intro hc N;refine zS<|zZ<|yH<|yC ?_;refine wE N [] (fun t26=>[(0,vS p list c),(1,vI depth),(5,vI i),(26,.bool t26)]) (fun o0 ho0=>?_) ?_
   · have H:=iS I;refine zK<|yB 2 [] [12,13] rfl ?_;obtain ⟨x,hy,N⟩:=zB ho0;refine xJ rfl rfl h hy ?_;intro ad ccs hat hrep;obtain ⟨p1,c1,rfl,h1⟩:=yL hrep;refine yX 0 hat (cAff x p1 c1) (vA (cAff x p1 c1)) rfl<|bE N fun y hy1 N=>vZ (kE x _ hy1 h1) ?_;intro I01 le;have ⟨h,H⟩:=m2 le h H;refine yB 7 [] [18] rfl<|xW [18] N ?_ ?_
     · intro hc1 N;exact wG [] [(26,vY)]<|yQ<|zT (ct N H)
     intro hc1 N;refine yB 9 [] [19,20] rfl<|bE N fun x1 hy2 N=>xJ rfl rfl h hy2 ?_;intro ad1 ccs1 hat1 hrep1;obtain ⟨p2,c2,rfl,h3⟩:=yL hrep1;refine yX 0 hat1 (cAff x1 p2 c2) (vA (cAff x1 p2 c2)) rfl<|bE N fun y1 hy3 N=>gS (dM x1 _ hy3 h3) ?_;intro I02 le1;have H:=H.trans le1;exact yJ [] [26] rfl<|yQ<|zT (ct N H)
   intro t26 I0 le2 hMc;have ⟨h,H⟩:=m2 le2 h H;refine zI<|yE hMc ?_ ?_
   · intro hc2 N;exact vJ [(4,vF)]<|xG<|zW<|zH<|zH<|hr _ _ _ _ (zC N).symm H ⟨_,_,(.tmp rfl ResV.nil),zQ,⟨_,rfl,rfl,rfl⟩⟩
   intro hc2 N;exact zS<|zP<|zI<|zK<|yJ [] [5] rfl<|yS<|nG<|ih (W (i + 1)) _ N H h hg ho hx hr
 intro hc N;exact wT<|yQ<|hx _  (zC N).symm H
def nL (list:(List zA)) (depth:Int):Option (Bool):=do
 match←tQ list depth 0 with
 | .ret r0=>pure r0
 | .done _ =>
  let t4←(do
    if (decide ((list.length:Int) ≥ 1)) then
     pure (decide ((list.length:Int) ≤ 2))
    else
     pure false
      : Option Bool)
  pure (id t4)
theorem zCO:∀ list depth r,nL list depth=some r→∀ {I:Imm}{p c},(S4 I p list c)→RT 242 [vS p list c,vI depth] I [] (zU  r):=by
 intro list depth r N I p c h;unfold nL at N;refine yM Tryz.func242 fun B=>?_;have H:=iS I;refine vJ []<|zZ<|yG [5] rfl<|xZ<|pJ [(0,vS p list c),(1,vI depth),(5,vI 0)] ?_;obtain ⟨o01,ho01,hMl⟩:=zB N;refine zEC list depth 0 o01 ho01 iR h (fun _ _ _ h=>h) (fun _ _ h=>h) ?_ ?_
 · intro I03  heq1 le3;subst o01;have H:=H.trans le3;refine zR<|zI<|yC ?_;refine wE hMl [] (fun t4=>[(4,.bool t4)]) (fun o02 ho02=>?_) ?_
   · have H:=iS I03;refine zK<|yB 4 [] [30] rfl<|xW [30] ho02 ?_ ?_
     · intro hc3 N;exact yJ [] [4] rfl<|yQ<|zT (ct N H)
     intro hc3 N;exact wG [] [(4,vF)]<|yQ<|zT (ct N H)
   intro t4 I04 le4 hMc1;refine zI<|yW ?_;obtain rfl:=zC hMc1;exact wP
 intro r0 I9 hs9 m9 heq9 le9 hrs9;subst heq9;refine zW<|zH ?_;obtain rfl:=zC hMl;exact xA hrs9
def wS (nest:(List zD)) (i:Int):Option (Out Unit (Bool)):=do
 let t12←(do
   if (decide (i < (nest.length:Int))) then
    pure (decide ((nest.length:Int) ≤ 4))
   else
    pure false
     : Option Bool)
 if t12 then
  let t32←(do
    let x←idx nest i
    let y←nL x.Lo i
    if (!y) then
     pure true
    else
     let x1←idx nest i
     let y1←nL x1.Hi i
     pure (!y1)
      : Option Bool)
  if t32 then
   pure (.ret false)
  else
   wS nest (W (i + 1))
 else
  pure (.done ())
 partial_fixpoint
theorem zCP (nest:(List zD)):∀ (i:Int) (o:Out Unit (Bool)),wS nest i=some o→∀ {B}{I0 I:Imm}{Q p c},I0.le I→(S4 I p nest c)→NG Q→NO Q→(∀ (I':Imm) ,o=(.done ())→I0.le I'→T 36 B Q (.exit 0) I' [] [(0,vS p nest c)])→(∀ r I' hs' m',o=(.ret r)→I0.le I'→RS Tryz.prog Tryz.f205 B (zU  r) I' hs' m'→T 36 B Q .ret I' hs' m')→J Tryz.prog 36 B (nav (bodyOf Tryz.f205) [1,0,1,0]) Q I [] [(0,vS p nest c),(3,vI i)]:=by
 refine wS.partial_correctness nest _ fun self ih i o N B I0 I Q p c H h hg ho hx hr=>yT hg ho<|yC<|yC ?_;refine wE N [] (fun t12=>[(0,vS p nest c),(3,vI i),(12,.bool t12)]) (fun o0 ho0=>?_) ?_
 · have H:=iS I;refine zK<|yB 5 [] [8] rfl<|xW [8] ho0 ?_ ?_
   · intro hc N;exact yJ [] [12] rfl<|yQ<|zT (ct N H)
   intro hc N;exact wG [] [(12,vF)]<|yQ<|zT (ct N H)
 intro t12 I0 le hMc;have ⟨h,H⟩:=m2 le h H;refine zI<|yE hMc ?_ ?_
 · intro hc1 N;refine zS<|zZ<|yH<|yC ?_;refine wE N [] (fun t32=>[(0,vS p nest c),(3,vI i),(32,.bool t32)]) (fun o01 ho01=>?_) ?_
   · have H:=iS I0;refine zK<|yB 2 [] [15,16] rfl ?_;obtain ⟨x,hy,N⟩:=zB ho01;refine xJ rfl rfl h hy ?_;intro ad ccs hat hrep;obtain ⟨p1,c1,p2,c2,rfl,h1,h2⟩:=sB hrep;refine yB 4 [] [18] rfl<|yX 0 hat [vS p1 x.Lo c1] (vS p1 x.Lo c1) rfl<|yB 6 [] [20] rfl<|bE N fun y hy1 N=>vZ (zCO x.Lo i _ hy1 h1) ?_;intro I02 le1;have ⟨h,H⟩:=m2 le1 h H;refine yB 9 [] [23] rfl<|xW [23] N ?_ ?_
     · intro hc2 N;exact wG [] [(32,vY)]<|yQ<|zT (ct N H)
     intro hc2 N;refine yB 11 [] [24,25] rfl<|bE N fun x1 hy2 N=>xJ rfl rfl h hy2 ?_;intro ad1 ccs1 hat1 hrep1;obtain ⟨p3,c3,p4,c4,rfl,h4,h5⟩:=sB hrep1;refine yB 13 [] [27] rfl<|yX 1 hat1 [vS p4 x1.Hi c4] (vS p4 x1.Hi c4) rfl<|yB 15 [] [29] rfl<|bE N fun y1 hy3 N=>vZ (zCO x1.Hi i _ hy3 h5) ?_;intro I03 le2;have H:=H.trans le2;exact yJ [] [32] rfl<|yQ<|zT (ct N H)
   intro t32 I01 le3 hMc1;have ⟨h,H⟩:=m2 le3 h H;refine zI<|yE hMc1 ?_ ?_
   · intro hc3 N;exact vJ [(2,vF)]<|xG<|zW<|zH<|zH<|hr _ _ _ _ (zC N).symm H ⟨_,_,(.tmp rfl ResV.nil),zQ,⟨_,rfl,rfl,rfl⟩⟩
   intro hc3 N;exact zS<|zP<|zI<|zK<|yJ [] [3] rfl<|yS<|nG<|ih (W (i + 1)) _ N H h hg ho hx hr
 intro hc1 N;exact wT<|yQ<|hx _  (zC N).symm H
def pV (nest:(List zD)):Option (Bool):=do
 match←wS nest 0 with
 | .ret r0=>pure r0
 | .done _ =>
  pure (decide ((nest.length:Int) ≤ 4))
theorem zED:∀ nest r,pV nest=some r→∀ {I:Imm}{p c},(S4 I p nest c)→RT 205 [vS p nest c] I [] (zU  r):=by
 intro nest r N I p c h;unfold pV at N;refine yM Tryz.func205 fun B=>vJ []<|zZ<|yG [3] rfl<|xZ<|pJ [(0,vS p nest c),(3,vI 0)] ?_;obtain ⟨o02,ho02,hMl⟩:=zB N;refine zCP nest 0 o02 ho02 iR h (fun _ _ _ h=>h) (fun _ _ h=>h) ?_ ?_
 · intro I04  heq2 le4;subst o02;refine zR<|vG [2] rfl<|zI<|yW ?_;obtain rfl:=zC hMl;exact wP
 intro r0 I9 hs9 m9 heq9 le9 hrs9;subst heq9;refine zW<|zH ?_;obtain rfl:=zC hMl;exact xA hrs9
mutual
def sN (nest:(List zD)) (p1:(List Int)) (most:Int):Option (Int):=do
 if ((p1.length:Int) == (nest.length:Int)) then
  pure (id 1)
 else
  let x←idx nest (p1.length:Int)
  let (y1,y2)←oO x p1
  let n01←sW (same nest) (same p1) (same most) (same y2) (same 1) (same y1)
  pure (id n01)
 partial_fixpoint
def sW (nest:(List zD)) (p1:(List Int)) (most:Int) (y2:Int) (n0:Int) (v04:Int):Option (Int):=do
 let t35←(do
   if (decide (v04 < y2)) then
    pure (decide (n0 ≤ most))
   else
    pure false
     : Option Bool)
 if t35 then
  let l←app 8 ([]:List Int) p1
  let l1←app 8 l ([v04]:List Int)
  let y3←sN (same nest) (same l1) (W (most - n0))
  sW (same nest) (same p1) (same most) (same y2) (W (n0 + y3)) (W (v04 + 1))
 else
  pure (id n0)
 partial_fixpoint
end
theorem zFb:(∀ (nest:(List zD)) (p1:(List Int)) (most:Int) r,sN nest p1 most=some r→∀ {I:Imm}{p c p2 c1},(S4 I p nest c)→(S4 I p2 p1 c1)→RT 206 [vS p nest c,vS p2 p1 c1,vI most] I [] (yK  r))∧(∀ (nest:(List zD)) (p1:(List Int)) (most:Int) (y2:Int) (n0:Int) (v04:Int) o,sW nest p1 most y2 n0 v04=some o→∀ {B}{I0 I:Imm}{Q p c p2 c1},I0.le I→(S4 I p nest c)→(S4 I p2 p1 c1)→NG Q→NO Q→(∀ (I':Imm) (n01:Int),o=n01→I0.le I'→T 52 B Q (.exit 0) I' [] [(7,vI n01)])→J Tryz.prog 52 B (nav (bodyOf Tryz.f206) [1,1,1,1,0,1,0]) Q I [] [(0,vS p nest c),(1,vS p2 p1 c1),(2,vI most),(7,vI n0),(9,vI y2),(10,vI v04)]):=by
  refine sN.mutual_partial_correctness _ _ ?_ ?_
  · intro F_spec_l2Work_l1 ih_spec_l2Work_l1 nest p1 most r N I p c p2 c1 h h1;refine yM Tryz.func206 fun B=>vJ []<|vG [7] rfl<|zZ<|yG [15] rfl<|zI<|yE N ?_ ?_
    · intro hc N;refine yG [6] rfl<|xG<|zH ?_;obtain rfl:=zC N;exact wP
    intro hc N;refine zS<|yV<|yB 3 [] [18,20] rfl<|bE N fun x hy N=>xJ rfl rfl h hy ?_;intro ad ccs hat hrep;obtain ⟨p3,c2,p4,c3,rfl,h2,h3⟩:=sB hrep;refine yX 0 hat (cLoop x p3 c2 p4 c3) (vA (cLoop x p3 c2 p4 c3)) rfl<|yB 6 [] [23] rfl ?_;obtain ⟨⟨y1,y2⟩,hy1,N⟩:=zB N;refine xQ (zBf x p1 _ hy1 h2 h3 h1) ?_;rintro I0 hs2 v2 k2 le - ⟨v02,v03,rfl,rfl,rfl,rfl⟩ -;have ⟨h,h1⟩:=m2 le h h1;refine yJ [] [8,9] rfl<|zZ<|yG [10] rfl<|xZ<|pJ [(0,vS p nest c),(1,vS p2 p1 c1),(2,vI most),(7,vI 1),(9,vI y2),(10,vI y1)] ?_;obtain ⟨o01,ho01,hMl⟩:=zB N;refine ih_spec_l2Work_l1 nest p1 most y2 1 y1 o01 ho01 iR h h1 (fun _ _ _ h=>h) (fun _ _ h=>h) ?_;intro I04 n01 heq1 le4;subst o01;refine zR<|vG [6] rfl<|zI<|yW ?_;obtain rfl:=zC hMl;exact wP
  intro F_spec_l2Work F_spec_l2Work_l1 ih_spec_l2Work ih_spec_l2Work_l1 nest p1 most y2 n0 v04 o N B I0 I Q p c p2 c1 H h h1 hg ho hx;refine yT hg ho<|yC<|yC ?_;refine wE N [] (fun t35=>[(0,vS p nest c),(1,vS p2 p1 c1),(2,vI most),(7,vI n0),(9,vI y2),(10,vI v04),(35,.bool t35)]) (fun o0 ho0=>?_) ?_
  · have H:=iS I;refine zK<|yB 4 [] [31] rfl<|xW [31] ho0 ?_ ?_
    · intro hc1 N;exact yJ [] [35] rfl<|yQ<|zT (ct N H)
    intro hc1 N;exact wG [] [(35,vF)]<|yQ<|zT (ct N H)
  intro t35 I01 le1 hMc;have ⟨h,h1,H⟩:=m3 le1 h h1 H;refine zI<|yE hMc ?_ ?_
  · intro hc2 N;refine zS<|zZ<|yH<|zK<|yB 2 [] [38,39] rfl<|tH [] Int ?_;intro b hb;have h6:RL I01 [] ([]:List Int):=rfl;refine yB 4 [] [41] rfl ?_;obtain ⟨ccs1,k0,k01⟩:=h1;have h1:SL I01 (vS p2 p1 c1) p1:=⟨_,k0,k01⟩;obtain ⟨l,hy2,N⟩:=zB N;refine qI 3 1 0 rfl rfl rfl h6 (.inl k0) k01 hy2 fun p5 c4 cs h7=>sD (zY [0] (hs':=[hO Int (vS p5 l c4) cs]))<|yB 6 [] [43] rfl<|tH [vI v04] Int ?_;intro b1 hb1;have h8:RL I01 [vI v04] ([v04]:List Int):=rI [v04];obtain ⟨l1,hy3,N⟩:=zB N;refine qI 3 1 1 rfl rfl rfl h7 (.inr ⟨0,rfl⟩) h8 hy3 fun p6 c5 cs1 h9=>sD (zY [1] (hs':=[hO Int (vS p6 l1 c5) cs1]))<|yB 11 [] [48] rfl<|xP 0 rfl ?_;intro I02 le2 hl0;have h10:=SL.of_frozen hl0 le2 h9;have ⟨h,h1,H⟩:=m3 le2 h h1 H;obtain ⟨y3,hy4,N⟩:=zB N;refine xQ (ih_spec_l2Work nest l1 (W (most - n0)) _ hy4 h h10) ?_;rintro I03 hs2 v2 k2 le3 - ⟨v05,rfl,rfl,rfl⟩ -;have ⟨h,h1,H⟩:=m3 le3 h h1 H;exact yJ [] [7] rfl<|zP<|zI<|zK<|yJ [] [10] rfl<|yS<|nG<|ih_spec_l2Work_l1 nest p1 most y2 (W (n0 + y3)) (W (v04 + 1)) _ N H h h1 hg ho hx
  intro hc2 N;exact wT<|yQ<|hx _ _ (zC N).symm H
theorem zGU:∀ nest p1 most r,sN nest p1 most=some r→∀ {I:Imm}{p c p2 c1},(S4 I p nest c)→(S4 I p2 p1 c1)→RT 206 [vS p nest c,vS p2 p1 c1,vI most] I [] (yK  r):=zFb.1
def qX (nest:(List zD)):Option ((List (List Int))×Bool):=do
 let t12←(do
   let y←pV nest
   if (!y) then
    pure true
   else
    let y1←sN nest ([]:List Int) 1200
    pure (decide (y1 > 1200))
     : Option Bool)
 if t12 then
  pure (([]:List (List Int)),false)
 else
  let y2←vW ([]:List (List Int)) nest ([]:List Int)
  if (decide ((y2.length:Int) > 120)) then
   pure (([]:List (List Int)),false)
  else
   pure (y2,true)
theorem zDX:∀ nest r,qX nest=some r→∀ {I:Imm}{p c},(S4 I p nest c)→RT 163 [vS p nest c] I [] (dB  r):=by
 intro nest r N I p c h;unfold qX at N;refine yM Tryz.func163 fun B=>?_;have H:=iS I;refine vJ []<|zZ<|yC ?_;refine wE N [] (fun t12=>[(0,vS p nest c),(12,.bool t12)]) (fun o0 ho0=>?_) ?_
 · have H:=iS I;refine zK<|yB 1 [] [5] rfl ?_;obtain ⟨y,hy,N⟩:=zB ho0;refine vZ (zED nest _ hy h) ?_;intro I01 le;have ⟨h,H⟩:=m2 le h H;refine yB 4 [] [8] rfl<|xW [8] N ?_ ?_
   · intro hc N;exact wG [] [(12,vY)]<|yQ<|zT (ct N H)
   intro hc N;refine yB 5 [] [9] rfl<|bE N fun y1 hy1 N=>gS (zGU nest ([]:List Int) 1200 _ hy1 h (SL.nil _)) ?_;intro I02 le1;have H:=H.trans le1;exact yJ [] [12] rfl<|yQ<|zT (ct N H)
 intro t12 I0 le2 hMc;have h:=h.mono le2;refine zI<|yE hMc ?_ ?_
 · intro hc1 N;refine yF<|tH [] (List Int) ?_;intro b hb;have h3:RL I0 [] ([]:List (List Int)):=rfl;refine yJ [] [2,3] rfl<|xG<|zH<|yY 0 rfl ?_;intro I03 le3 hl0;have h4:=SL.of_frozen hl0 le3 h3;obtain rfl:=zC N;exact xA ⟨_,_,(.tmp rfl (.tmp rfl ResV.nil)),zQ,⟨_,_,rfl,rfl,h4,rfl⟩⟩
 intro hc1 N;refine zS<|yV<|tH [] (List Int) ?_;intro b1 hb1;have h5:RL I0 [] ([]:List (List Int)):=rfl;refine yB 2 [] [15] rfl<|bE N fun y2 hy2 N=>sE (zBG ([]:List (List Int)) nest ([]:List Int) _ hy2 h5 h (SL.nil _)) rfl ?_;rintro I04 hs2 v2 k2 le4 - ⟨p1,c1,cs,rfl,rfl,h6⟩ -;refine yJ [] [4] rfl<|zZ<|yG [19] rfl<|zI<|yE N ?_ ?_
 · intro hc2 N;refine yF<|tH [] (List Int) ?_;intro b2 hb2;have h7:RL I04 [] ([]:List (List Int)):=rfl;refine yJ [] [2,3] rfl<|xG<|zH<|yY 0 rfl ?_;intro I05 le5 hl01;have h8:=SL.of_frozen hl01 le5 h7;obtain rfl:=zC N;exact xA ⟨_,_,(.tmp rfl (.tmp rfl ResV.nil)),zQ,⟨_,_,rfl,rfl,h8,rfl⟩⟩
 intro hc2 N;refine zS<|vG [2,3] rfl<|xG<|yY 0 rfl ?_;intro I06 le6 hl02;have h9:=SL.of_frozen hl02 le6 h6;obtain rfl:=zC N;exact xA ⟨_,_,(.tmp rfl (.tmp rfl ResV.nil)),zQ,⟨_,_,rfl,rfl,h9,rfl⟩⟩
def zA4 (r:(List zJ)):KT:=fun kk I' hs' v=>
  ∃ a0 c0 s0,hs'=[.osl (.slice a0 r.length c0) (Rp.sz zJ) s0]∧v=tupV [(.slice a0 r.length c0)]∧RepL (Rp.rep I') (Rp.sz zJ) s0 r
mutual
def sK (out:(List zJ)) (e0:zG):Option ((List zJ)):=do
 let out1←(do
   if (e0.Kind == 3) then
    let y←uI e0.Read
    let out2←app 40 out ([y]:List zJ)
    pure (id out2)
   else
    pure (id out)
     : Option (List zJ))
 let out4←wI (same e0) (same out1) (same 0)
 pure (id out4)
 partial_fixpoint
def wI (e0:zG) (out3:List zJ) (i:Int):Option (List zJ):=do
 if (decide (i < (e0.Kids.length:Int))) then
  let x←idx e0.Kids i
  let y1←sK (same out3) (same x)
  wI (same e0) (same y1) (W (i + 1))
 else
  pure (id out3)
 partial_fixpoint
end
theorem zEv:(∀ (out:(List zJ)) (e0:zG) r,sK out e0=some r→∀ {I:Imm}{p c cs p1 c1 p2 c2 p3 c3},(RL I cs out)→(S4 I p1 e0.Index.Coefs c1)→(S4 I p2 e0.Read.Subs c2)→(S4 I p3 e0.Kids c3)→RT 210 [vS p out c,vA (cExpr e0 p1 c1 p2 c2 p3 c3)] I [hO zJ (vS p out c) cs] (zA4  r))∧(∀ (e0:zG) (out3:List zJ) (i:Int) o,wI e0 out3 i=some o→∀ {B}{I0 I:Imm}{Q p1 c1 p2 c2 p3 c3}{b:Nat}{p7 c7 cs4},I0.le I→(S4 I p1 e0.Index.Coefs c1)→(S4 I p2 e0.Read.Subs c2)→(S4 I p3 e0.Kids c3)→(RL I cs4 out3)→NG Q→NO Q→(∀ (I':Imm) (out4:List zJ) (p8:Option Addr) (c8:Nat) (cs5:List Value),o=out4→I0.le I'→(RL I' cs5 out4)→T 30 B Q (.exit 0) I' [hO zJ (vS p8 out4 c8) cs5] [(0,vS p8 out4 c8)])→J Tryz.prog 30 B (nav (bodyOf Tryz.f210) [1,1,0,1,0]) Q I [hB b (cExpr e0 p1 c1 p2 c2 p3 c3),hO zJ (vS p7 out3 c7) cs4] [(0,vS p7 out3 c7),(3,vP b 0),(5,vI i)]):=by
  refine sK.mutual_partial_correctness _ _ ?_ ?_
  · intro F_spec_l3Reads_l1 ih_spec_l3Reads_l1 out e0 r N I p c cs p1 c1 p2 c2 p3 c3 h h1 h2 h3;refine yM Tryz.func210 fun B=>?_;have H:=iS I;refine yF<|vX (cExpr e0 p1 c1 p2 c2 p3 c3) ?_;intro b hb;refine wG [] []<|zZ<|yF<|yJ [0] [8] rfl<|zI ?_;obtain ⟨o0,ho0,hMc⟩:=zB N;refine qL (fun I' hs' m'=>∃ (out1:List zJ) (p4:Option Addr) (c4:Nat) (cs1:List Value),o0=out1∧I.le I'∧(RL I' cs1 out1)∧hs'=[hB b (cExpr e0 p1 c1 p2 c2 p3 c3),hO zJ (vS p4 out1 c4) cs1]∧m'=[(0,vS p4 out1 c4),(3,vP b 0)]) ?_ ?_
    · have H:=iS I;refine yE ho0 ?_ ?_
      · intro hc N;refine zK<|fW 3 [0] [(9,vS p out c),(11,vA (cAccess e0.Read p2 c2))]<|bE N fun y hy N=>xQ (gE e0.Read _ hy h2) ?_;rintro I01 hs2 v2 k2 le - ⟨p5,c5,cs2,rfl,rfl,h5⟩ -;have ⟨h,H⟩:=m2 le h H;refine xP 0 rfl ?_;intro I02 le1 hl0;have h6:=SL.of_frozen hl0 le1 h5;have ⟨h,H⟩:=m2 le1 h H;refine tH (cAccess y p5 c5) zJ ?_;intro b1 hb1;have h7:RL I02 (cAccess y p5 c5) ([y]:List zJ):=⟨(cAccess y p5 c5),_,rfl,rfl,(nN ⟨_,rfl,h6⟩),rfl⟩;obtain ⟨out2,hy1,N⟩:=zB N;exact qI 35 2 2 rfl rfl rfl h (.inr ⟨0,rfl⟩) h7 hy1 fun p6 c6 cs3 h8=>sD (zY [1,2] (hs':=[hB b (cExpr e0 p1 c1 p2 c2 p3 c3),hO zJ (vS p6 out2 c6) cs3]))<|yJ [] [0] rfl<|yQ<|zT ⟨_,_,_,_,(zC N).symm,H,h8,rfl,rfl⟩
      intro hc N;exact zS<|yQ<|zT ⟨_,_,_,_,(zC N).symm,H,h,rfl,rfl⟩
    rintro I0 hs2 m2 ⟨out1,p4,c4,cs1,heq,le2,h4,rfl,rfl⟩;subst o0;have ⟨h1,h2,h3⟩:=m3 le2 h1 h2 h3;refine zZ<|yG [5] rfl<|xZ<|pJ [(0,vS p4 out1 c4),(3,vP b 0),(5,vI 0)] ?_;obtain ⟨o01,ho01,hMl⟩:=zB hMc;refine ih_spec_l3Reads_l1 e0 out1 0 o01 ho01 iR h1 h2 h3 h4 (fun _ _ _ h=>h) (fun _ _ h=>h) ?_;intro I04 out4 p8 c8 cs5 heq1 le4 h10;subst o01;refine zR<|vG [4] rfl<|zI<|yW ?_;obtain rfl:=zC hMl;exact xA ⟨_,_,(.tmp rfl ResV.nil),(zX [0] rfl (by decide)),⟨_,_,_,rfl,rfl,h10⟩⟩
  intro F_spec_l3Reads F_spec_l3Reads_l1 ih_spec_l3Reads ih_spec_l3Reads_l1 e0 out3 i o N B I0 I Q p1 c1 p2 c2 p3 c3 b p7 c7 cs4 H h1 h2 h3 h9 hg ho hx;refine yT hg ho<|yC<|yF<|yJ [0] [19] rfl<|zI<|yE N ?_ ?_
  · intro hc1 N;refine zS<|zZ<|yH<|zK<|yB 4 [0] [22,24,25] rfl<|bE N fun x hy2 N=>xJ rfl rfl h3 hy2 ?_;intro ad ccs hat hrep;obtain ⟨p9,c9,p10,c10,p11,c11,rfl,h11,h12,h13⟩:=xS hrep;refine yX 0 hat (cExpr x p9 c9 p10 c10 p11 c11) (vA (cExpr x p9 c9 p10 c10 p11 c11)) rfl<|sD (zY [1,0] (hs':=[hO zJ (vS p7 out3 c7) cs4,hB b (cExpr e0 p1 c1 p2 c2 p3 c3)]))<|bE N fun y1 hy3 N=>sE (ih_spec_l3Reads out3 x _ hy3 h9 h11 h12 h13) rfl ?_;rintro I03 hs2 v2 k2 le3 - ⟨p12,c12,cs6,rfl,rfl,h14⟩ -;have ⟨h1,h2,h3,H⟩:=m4 le3 h1 h2 h3 H;exact yJ [] [0] rfl<|zP<|zI<|zK<|yJ [] [5] rfl<|yS<|kX (zX [1,0] rfl (by decide))<|nG<|ih_spec_l3Reads_l1 e0 y1 (W (i + 1)) _ N H h1 h2 h3 h14 hg ho hx
  intro hc1 N;exact wT<|xT (zX [1] rfl (by decide))<|yQ<|hx _ _ _ _ _ (zC N).symm H h9
theorem zFc:∀ out e0 r,sK out e0=some r→∀ {I:Imm}{p c cs p1 c1 p2 c2 p3 c3},(RL I cs out)→(S4 I p1 e0.Index.Coefs c1)→(S4 I p2 e0.Read.Subs c2)→(S4 I p3 e0.Kids c3)→RT 210 [vS p out c,vA (cExpr e0 p1 c1 p2 c2 p3 c3)] I [hO zJ (vS p out c) cs] (zA4  r):=zEv.1
def tR (a0:zF) (n0:Int) (i:Int):Option (Int):=do
 if (decide (i < (a0.Dims.length:Int))) then
  let x←idx a0.Dims i
  tR a0 (W (n0 * x)) (W (i + 1))
 else
  pure (id n0)
 partial_fixpoint
theorem zEE (a0:zF):∀ (n0:Int) (i:Int) (o:Int),tR a0 n0 i=some o→∀ {B}{I0 I:Imm}{Q p c}{b:Nat},I0.le I→(S4 I p a0.Dims c)→NG Q→NO Q→(∀ (I':Imm) (n01:Int),o=n01→I0.le I'→T 20 B Q (.exit 0) I' [] [(3,vI n01)])→J Tryz.prog 20 B (nav (bodyOf Tryz.f247) [1,1,0,1,0]) Q I [hB b (cArr a0 p c)] [(1,vP b 0),(3,vI n0),(4,vI i)]:=by
 refine tR.partial_correctness a0 _ fun self ih n0 i o N B I0 I Q p c b H h hg ho hx=>yT hg ho<|yC<|yF<|yJ [0] [9] rfl<|zI<|yE N ?_ ?_
 · intro hc N;refine zS<|zZ<|yH<|zK<|yB 4 [0] [12,14,15] rfl<|bE N fun x hy N=>xJ rfl rfl h hy ?_;intro ad ccs hat hrep;obtain rfl:=hrep;exact yX 0 hat [vI x] (vI x) rfl<|yJ [] [3] rfl<|zP<|zI<|zK<|yJ [] [4] rfl<|yS<|nG<|ih (W (n0 * x)) (W (i + 1)) _ N H h hg ho hx
 intro hc N;exact wT<|xT zQ<|yQ<|hx _ _ (zC N).symm H
def mX (a0:zF):Option (Int):=do
 let n01←tR a0 1 0
 pure (id n01)
theorem zGV:∀ a0 r,mX a0=some r→∀ {I:Imm}{p c},(S4 I p a0.Dims c)→RT 247 [vA (cArr a0 p c)] I [] (yK  r):=by
 intro a0 r N I p c h;unfold mX at N;refine yM Tryz.func247 fun B=>yF<|vX (cArr a0 p c) ?_;intro b hb;refine wG [] []<|vG [3] rfl<|zZ<|yG [4] rfl<|xZ<|pJ [(1,vP b 0),(3,vI 1),(4,vI 0)] ?_;obtain ⟨o0,ho0,hMl⟩:=zB N;refine zEE a0 1 0 o0 ho0 iR h (fun _ _ _ h=>h) (fun _ _ h=>h) ?_;intro I0 n01 heq le;subst o0;refine zR<|vG [2] rfl<|zI<|yW ?_;obtain rfl:=zC hMl;exact wP
def uP (list:(List zF)) (a0:zJ) (point:(List Int)) (i:Int) (n0:Int) (k0:Int):Option (Out Int (Int)):=do
 if (decide (k0 < (a0.Subs.length:Int))) then
  let x2←idx list i
  if ((a0.Subs.length:Int) != (x2.Dims.length:Int)) then
   pure (.ret (-1))
  else
   let x3←idx a0.Subs k0
   let y1←rS x3 point
   let t70←(do
     if (decide (y1 < 0)) then
      pure true
     else
      let x4←idx list i
      let x5←idx x4.Dims k0
      pure (decide (y1 ≥ x5))
       : Option Bool)
   if t70 then
    pure (.ret (-1))
   else
    let x6←idx list i
    let x7←idx x6.Dims k0
    uP list a0 point i (W ((W (n0 * x7)) + y1)) (W (k0 + 1))
 else
  pure (.done n0)
 partial_fixpoint
theorem zEF (list:(List zF)) (a0:zJ) (point:(List Int)) (i:Int):∀ (n0:Int) (k0:Int) (o:Out Int (Int)),uP list a0 point i n0 k0=some o→∀ {B}{I0 I:Imm}{Q}{base:Int}{p c p1 c1 p2 c2}{b:Nat},I0.le I→(S4 I p list c)→(S4 I p2 point c2)→(S4 I p1 a0.Subs c1)→NG Q→NO Q→(∀ (I':Imm) (n01:Int),o=(.done n01)→I0.le I'→T 86 B Q (.exit 2) I' [] [(7,vI base),(9,vI n01)])→(∀ r I' hs' m',o=(.ret r)→I0.le I'→RS Tryz.prog Tryz.f211 B (yK  r) I' hs' m'→T 86 B Q .ret I' hs' m')→J Tryz.prog 86 B (nav (bodyOf Tryz.f211) [1,1,0,1,0,0,1,0,0,1,1,0,1,0]) Q I [hB b (cAccess a0 p1 c1)] [(0,vS p list c),(2,vS p2 point c2),(4,vP b 0),(7,vI base),(8,vI i),(9,vI n0),(10,vI k0)]:=by
 refine uP.partial_correctness list a0 point i _ fun self ih n0 k0 o N B I0 I Q base p c p1 c1 p2 c2 b H h h2 h1 hg ho hx hr=>yT hg ho<|yC<|yF<|yJ [0] [37] rfl<|zI<|yE N ?_ ?_
 · intro hc2 N;refine zS<|zZ<|yH<|yC<|yC<|kY (by kernel_rfl) (by kernel_rfl)<|fU 5 [0] [42,43,44] rfl<|bE N fun x2 hy3 N=>dQ rfl rfl h hy3 ?_;intro ad2 ccs2 hat2 hrep2;obtain ⟨p5,c5,rfl,h6⟩:=wJ hrep2;refine fU 7 [] [46] rfl<|eK 1 hat2 [vS p5 x2.Dims c5] (vS p5 x2.Dims c5) rfl<|zGy [] [49] rfl<|zI<|yE N ?_ ?_
   · intro hc3 N;exact yG [6] rfl<|xG<|zH<|zW<|zH<|zH<|hr _ _ _ _ (zC N).symm H ⟨_,_,(.tmp rfl ResV.nil),zQ,⟨_,rfl,rfl,rfl⟩⟩
   intro hc3 N;refine zS<|yV<|yB 3 [0] [51,52] rfl<|bE N fun x3 hy4 N=>xJ rfl rfl h1 hy4 ?_;intro ad3 ccs3 hat3 hrep3;obtain ⟨p6,c6,rfl,h7⟩:=yL hrep3;refine yX 0 hat3 (cAff x3 p6 c6) (vA (cAff x3 p6 c6)) rfl<|yB 6 [] [55] rfl<|bE N fun y1 hy5 N=>gS (gJ x3 point _ hy5 h7 h2) ?_;intro I01 le1;have ⟨h,h2,h1,H⟩:=m4 le1 h h2 h1 H;refine yJ [] [11] rfl<|zZ<|yC ?_;refine wE N [hB b (cAccess a0 p1 c1)] (fun t70=>[(0,vS p list c),(2,vS p2 point c2),(4,vP b 0),(7,vI base),(8,vI i),(9,vI n0),(10,vI k0),(11,vI y1),(70,.bool t70)]) (fun o0 ho0=>?_) ?_
   · have H:=iS I01;refine zK<|yB 3 [] [59] rfl<|xW [59] ho0 ?_ ?_
     · intro hc4 N;exact wG [] [(70,vY)]<|yQ<|zT (ct N H)
     intro hc4 N;refine yB 6 [] [60,61,62] rfl<|bE N fun x4 hy6 N=>xJ rfl rfl h hy6 ?_;intro ad4 ccs4 hat4 hrep4;obtain ⟨p7,c7,rfl,h9⟩:=wJ hrep4;refine yB 8 [] [64] rfl<|yX 1 hat4 [vS p7 x4.Dims c7] (vS p7 x4.Dims c7) rfl<|yB 10 [] [66] rfl<|bE N fun x5 hy7 N=>xJ rfl rfl h9 hy7 ?_;intro ad5 ccs5 hat5 hrep5;obtain rfl:=hrep5;exact yX 0 hat5 [vI x5] (vI x5) rfl<|yJ [] [70] rfl<|yQ<|zT (ct N H)
   intro t70 I02 le2 hMc;have ⟨h,h2,h1,H⟩:=m4 le2 h h2 h1 H;refine zI<|yE hMc ?_ ?_
   · intro hc5 N;exact yG [6] rfl<|xG<|zH<|zW<|zH<|zH<|hr _ _ _ _ (zC N).symm H ⟨_,_,(.tmp rfl ResV.nil),zQ,⟨_,rfl,rfl,rfl⟩⟩
   intro hc5 N;refine zS<|zI<|zK<|yB 3 [] [71,72,73] rfl<|bE N fun x6 hy8 N=>xJ rfl rfl h hy8 ?_;intro ad6 ccs6 hat6 hrep6;obtain ⟨p8,c8,rfl,h10⟩:=wJ hrep6;refine yB 5 [] [75] rfl<|yX 1 hat6 [vS p8 x6.Dims c8] (vS p8 x6.Dims c8) rfl<|yB 7 [] [77] rfl<|bE N fun x7 hy9 N=>xJ rfl rfl h10 hy9 ?_;intro ad7 ccs7 hat7 hrep7;obtain rfl:=hrep7;exact yX 0 hat7 [vI x7] (vI x7) rfl<|yJ [] [9] rfl<|zP<|zI<|zK<|yJ [] [10] rfl<|yS<|nG<|ih (W ((W (n0 * x7)) + y1)) (W (k0 + 1)) _ N H h h2 h1 hg ho hx hr
 intro hc2 N;exact wT<|xT zQ<|yQ<|hx _ _ (zC N).symm H
def uQ (list:(List zF)) (a0:zJ) (point:(List Int)) (base:Int) (i:Int):Option (Out Unit (Int)):=do
 if (decide (i < (list.length:Int))) then
  let x←idx list i
  if (!(x.Name.l == a0.Array.l)) then
   let x1←idx list i
   let y←mX x1
   uQ list a0 point (W (base + y)) (W (i + 1))
  else
   match←uP list a0 point i 0 0 with
   | .ret r0=>pure (.ret r0)
   | .done n01 =>
    pure (.ret (W (base + n01)))
 else
  pure (.done ())
 partial_fixpoint
theorem zEG (list:(List zF)) (a0:zJ) (point:(List Int)):∀ (base:Int) (i:Int) (o:Out Unit (Int)),uQ list a0 point base i=some o→∀ {B}{I0 I:Imm}{Q p c p1 c1 p2 c2}{b:Nat},I0.le I→(S4 I p list c)→(S4 I p2 point c2)→(S4 I p1 a0.Subs c1)→NG Q→NO Q→(∀ (I':Imm) ,o=(.done ())→I0.le I'→T 86 B Q (.exit 0) I' [] [])→(∀ r I' hs' m',o=(.ret r)→I0.le I'→RS Tryz.prog Tryz.f211 B (yK  r) I' hs' m'→T 86 B Q .ret I' hs' m')→J Tryz.prog 86 B (nav (bodyOf Tryz.f211) [1,1,0,1,0]) Q I [hB b (cAccess a0 p1 c1)] [(0,vS p list c),(2,vS p2 point c2),(4,vP b 0),(7,vI base),(8,vI i)]:=by
 refine uQ.partial_correctness list a0 point _ fun self ih base i o N B I0 I Q p c p1 c1 p2 c2 b H h h2 h1 hg ho hx hr=>yT hg ho<|yC<|yG [15] rfl<|zI<|yE N ?_ ?_
 · intro hc N;refine zS<|zZ<|yH<|yC<|yC<|kY (by kernel_rfl) (by kernel_rfl)<|fU 2 [] [18,19] rfl<|bE N fun x hy N=>dQ rfl rfl h hy ?_;intro ad ccs hat hrep;obtain ⟨p3,c3,rfl,h3⟩:=wJ hrep;refine fU 4 [] [21] rfl<|eK 0 hat [vT x.Name.l] (vT x.Name.l) rfl<|zGy [0] [25] rfl<|zI<|yE N ?_ ?_
   · intro hc1 N;refine yF<|yB 3 [] [26,27,28] rfl<|bE N fun x1 hy1 N=>xJ rfl rfl h hy1 ?_;intro ad1 ccs1 hat1 hrep1;obtain ⟨p4,c4,rfl,h4⟩:=wJ hrep1;refine yX 0 hat1 (cArr x1 p4 c4) (vA (cArr x1 p4 c4)) rfl<|bE N fun y hy2 N=>gS (zGV x1 _ hy2 h4) ?_;intro I0 le;have ⟨h,h2,h1,H⟩:=m4 le h h2 h1 H;exact yJ [] [7] rfl<|zI<|zGB<|jV<|zR<|zI<|zK<|yJ [] [8] rfl<|yS<|nG<|ih (W (base + y)) (W (i + 1)) _ N H h h2 h1 hg ho hx hr
   intro hc1 N;refine zS<|vG [9] rfl<|zZ<|yG [10] rfl<|xZ<|pJ [(0,vS p list c),(2,vS p2 point c2),(4,vP b 0),(7,vI base),(8,vI i),(9,vI 0),(10,vI 0)] ?_;obtain ⟨o01,ho01,hMl⟩:=zB N;refine zEF list a0 point i 0 0 o01 ho01 iR h h2 h1 (fun _ _ _ h=>hg _ _ _ h) (fun _ _ h=>ho _ _ h) ?_ ?_
   · intro I03 n01 heq1 le3;subst o01;have H:=H.trans le3;exact zR<|vG [6] rfl<|xG<|zW<|zH<|zH<|hr _ _ _ _ (zC hMl).symm H ⟨_,_,(.tmp rfl ResV.nil),zQ,⟨_,rfl,rfl,rfl⟩⟩
   intro r0 I9 hs9 m9 heq9 le9 hrs9;subst heq9;exact zW<|zH<|zW<|zH<|zH<|hr _ _ _ _ (zC hMl).symm (H.trans le9) hrs9
 intro hc N;exact wT<|xT zQ<|yQ<|hx _  (zC N).symm H
def nM (list:(List zF)) (a0:zJ) (point:(List Int)):Option (Int):=do
 match←uQ list a0 point 0 0 with
 | .ret r0=>pure r0
 | .done _ =>
  pure (-1)
theorem zCQ:∀ list a0 point r,nM list a0 point=some r→∀ {I:Imm}{p c p1 c1 p2 c2},(S4 I p list c)→(S4 I p1 a0.Subs c1)→(S4 I p2 point c2)→RT 211 [vS p list c,vA (cAccess a0 p1 c1),vS p2 point c2] I [] (yK  r):=by
 intro list a0 point r N I p c p1 c1 p2 c2 h h1 h2;unfold nM at N;refine yM Tryz.func211 fun B=>yF<|vX (cAccess a0 p1 c1) ?_;intro b hb;refine wG [] []<|vG [7] rfl<|zZ<|yG [8] rfl<|xZ<|pJ [(0,vS p list c),(2,vS p2 point c2),(4,vP b 0),(7,vI 0),(8,vI 0)] ?_;obtain ⟨o02,ho02,hMl1⟩:=zB N;refine zEG list a0 point 0 0 o02 ho02 iR h h2 h1 (fun _ _ _ h=>h) (fun _ _ h=>h) ?_ ?_
 · intro I04  heq2 le4;subst o02;refine zR<|vG [6] rfl<|zI<|yW ?_;obtain rfl:=zC hMl1;exact wP
 intro r0 I9 hs9 m9 heq9 le9 hrs9;subst heq9;refine zW<|zH ?_;obtain rfl:=zC hMl1;exact xA hrs9
def zA5 (r:(List Int)×Int×Bool):KT:=fun kk I' hs' v=>
  ∃ v0 v1 v2,hs'=[]∧v=tupV [v0,v1,v2]∧SL I' v0 r.1∧v1=.int .i64 r.2.1∧v2=.bool r.2.2
def tB (list:(List zF)) (point:(List Int)) (y:(List zJ)) (out:List Int) (i:Int):Option (Out (List Int) ((List Int)×Int×Bool)):=do
 if (decide (i < (y.length:Int))) then
  let x←idx y i
  let y1←nM list x point
  if (decide (y1 < 0)) then
   pure (.ret (([]:List Int),0,false))
  else
   let out2←app 8 out ([y1]:List Int)
   tB list point y out2 (W (i + 1))
 else
  pure (.done out)
 partial_fixpoint
theorem zDY (list:(List zF)) (point:(List Int)) (y:(List zJ)):∀ (out:List Int) (i:Int) (o:Out (List Int) ((List Int)×Int×Bool)),tB list point y out i=some o→∀ {B}{I0 I:Imm}{Q}{s:zN}{p c p1 c1 p2 c2 p3 c3 p4 c4 p5 c5}{b:Nat}{p6 c6 cs p7 c7 cs1},I0.le I→(S4 I p list c)→(S4 I p5 point c5)→(RL I cs y)→(S4 I p1 s.Write.Subs c1)→(S4 I p2 s.Value.Index.Coefs c2)→(S4 I p3 s.Value.Read.Subs c3)→(S4 I p4 s.Value.Kids c4)→(RL I cs1 out)→NG Q→NO Q→(∀ (I':Imm) (out1:List Int) (p8:Option Addr) (c8:Nat) (cs2:List Value),o=(.done out1)→I0.le I'→(RL I' cs2 out1)→T 49 B Q (.exit 0) I' [hO Int (vS p8 out1 c8) cs2,hB b (cStmt s p1 c1 p2 c2 p3 c3 p4 c4)] [(0,vS p list c),(2,vS p5 point c5),(4,vP b 0),(9,vS p8 out1 c8)])→(∀ r I' hs' m',o=(.ret r)→I0.le I'→RS Tryz.prog Tryz.f165 B (zA5  r) I' hs' m'→T 49 B Q .ret I' hs' m')→J Tryz.prog 49 B (nav (bodyOf Tryz.f165) [1,1,1,0,1,0]) Q I [hO zJ (vS p6 y c6) cs,hO Int (vS p7 out c7) cs1,hB b (cStmt s p1 c1 p2 c2 p3 c3 p4 c4)] [(0,vS p list c),(2,vS p5 point c5),(4,vP b 0),(9,vS p7 out c7),(10,vS p6 y c6),(11,vI i)]:=by
 refine tB.partial_correctness list point y _ fun self ih out i o N B I0 I Q s p c p1 c1 p2 c2 p3 c3 p4 c4 p5 c5 b p6 c6 cs p7 c7 cs1 H h h5 h8 h1 h2 h3 h4 h9 hg ho hx hr=>yT hg ho<|yC<|yG [22] rfl<|zI<|yE N ?_ ?_
 · intro hc N;refine zS<|zZ<|yH<|yF<|yB 3 [] [25,26,27] rfl<|bE N fun x hy1 N=>mF 0 rfl rfl rfl h8 hy1 ?_;intro ad ccs hat hcc hrep;obtain ⟨p9,c9,rfl,h11⟩:=qN hrep;refine zDC 0 0 hat hcc (cAccess x p9 c9) (vA (cAccess x p9 c9)) rfl rfl<|yB 6 [] [30] rfl<|bE N fun y1 hy2 N=>gS (zCQ list x point _ hy2 h h11 h5) ?_;intro I01 le1;have ⟨h,h5,h9,h8,h1,h2⟩:=m6 le1 h h5 h9 h8 h1 h2;have ⟨h3,h4,H⟩:=m3 le1 h3 h4 H;refine yJ [] [12] rfl<|zZ<|yG [33] rfl<|zI<|yE N ?_ ?_
   · intro hc1 N;refine yF<|tH [] Int ?_;intro b3 hb3;have h13:RL I01 [] ([]:List Int):=rfl;refine yJ [] [6,7,8] rfl<|xG<|zH<|zW<|zH<|zH<|yY 0 rfl ?_;intro I02 le2 hl0;have h14:=SL.of_frozen hl0 le2 h13;have H:=H.trans le2;exact hr _ _ _ _ (zC N).symm H ⟨_,_,(.tmp rfl (.tmp rfl (.tmp rfl ResV.nil))),zQ,⟨_,_,_,rfl,rfl,h14,rfl,rfl⟩⟩
   intro hc1 N;refine zS<|zI<|zK<|yB 2 [] [35,36] rfl<|tH [vI y1] Int ?_;intro b4 hb4;have h15:RL I01 [vI y1] ([y1]:List Int):=rI [y1];obtain ⟨out2,hy3,N⟩:=zB N;exact qI 3 1 2 rfl rfl rfl h9 (.inr ⟨0,rfl⟩) h15 hy3 fun p10 c10 cs3 h16=>sD (zY [1,2,3] (hs':=[hO zJ (vS p6 y c6) cs,hO Int (vS p10 out2 c10) cs3,hB b (cStmt s p1 c1 p2 c2 p3 c3 p4 c4)]))<|yJ [] [9] rfl<|zP<|zI<|zK<|yJ [] [11] rfl<|yS<|nG<|ih out2 (W (i + 1)) _ N H h h5 h8 h1 h2 h3 h4 h16 hg ho hx hr
 intro hc N;exact wT<|xT (zX [1,2] rfl (by decide))<|yQ<|hx _ _ _ _ _ (zC N).symm H h9
def oQ (list:(List zF)) (s:zN) (point:(List Int)):Option ((List Int)×Int×Bool):=do
 let y←sK ([]:List zJ) s.Value
 match←tB list point y ([]:List Int) 0 with
 | .ret r0=>pure r0
 | .done out1 =>
  let y2←nM list s.Write point
  if (decide (y2 < 0)) then
   pure (([]:List Int),0,false)
  else
   pure (out1,y2,true)
theorem zBg:∀ list s point r,oQ list s point=some r→∀ {I:Imm}{p c p1 c1 p2 c2 p3 c3 p4 c4 p5 c5},(S4 I p list c)→(S4 I p1 s.Write.Subs c1)→(S4 I p2 s.Value.Index.Coefs c2)→(S4 I p3 s.Value.Read.Subs c3)→(S4 I p4 s.Value.Kids c4)→(S4 I p5 point c5)→RT 165 [vS p list c,vA (cStmt s p1 c1 p2 c2 p3 c3 p4 c4),vS p5 point c5] I [] (zA5  r):=by
 intro list s point r N I p c p1 c1 p2 c2 p3 c3 p4 c4 p5 c5 h h1 h2 h3 h4 h5;unfold oQ at N;refine yM Tryz.func165 fun B=>yF<|vX (cStmt s p1 c1 p2 c2 p3 c3 p4 c4) ?_;intro b hb;refine wG [] []<|yV<|tH [] Int ?_;intro b1 hb1;have h6:RL I [] ([]:List Int):=rfl;refine yJ [] [9] rfl<|yV<|tH [] zJ ?_;intro b2 hb2;have h7:RL I [] ([]:List zJ):=rfl;refine fW 3 [2] [(17,vA (cExpr s.Value p2 c2 p3 c3 p4 c4))]<|bE N fun y hy N=>sE (zFc ([]:List zJ) s.Value _ hy h7 h2 h3 h4) rfl ?_;rintro I0 hs2 v2 k2 le - ⟨p6,c6,cs,rfl,rfl,h8⟩ -;have ⟨h,h5,h6,h1,h2,h3⟩:=m6 le h h5 h6 h1 h2 h3;have h4:=h4.mono le;refine yJ [] [10] rfl<|zZ<|yG [11] rfl<|xZ<|pJ [(0,vS p list c),(2,vS p5 point c5),(4,vP b 0),(9,vS (some ⟨b1,0,none⟩) ([]:List Int) 0),(10,vS p6 y c6),(11,vI 0)] ?_;obtain ⟨o0,ho0,hMl⟩:=zB N;refine zDY list point y ([]:List Int) 0 o0 ho0 iR h h5 h8 h1 h2 h3 h4 h6 (fun _ _ _ h=>h) (fun _ _ h=>h) ?_ ?_
 · intro I03 out1 p8 c8 cs2 heq le3 h10;subst o0;have ⟨h,h5,h1⟩:=m3 le3 h h5 h1;refine zR<|yV<|fW 4 [1] [(39,vS p list c),(41,vA (cAccess s.Write p1 c1)),(42,vS p5 point c5)] ?_;obtain ⟨y2,hy4,N⟩:=zB hMl;refine gS (zCQ list s.Write point _ hy4 h h1 h5) ?_;intro I04 le4;have h10:=iM le4 h10;refine yJ [] [13] rfl<|zZ<|yG [45] rfl<|zI<|yE N ?_ ?_
   · intro hc2 N;refine yF<|tH [] Int ?_;intro b5 hb5;have h18:RL I04 [] ([]:List Int):=rfl;refine yJ [] [6,7,8] rfl<|xG<|zH<|yY 0 rfl ?_;intro I05 le5 hl01;have h19:=SL.of_frozen hl01 le5 h18;obtain rfl:=zC N;exact xA ⟨_,_,(.tmp rfl (.tmp rfl (.tmp rfl ResV.nil))),zQ,⟨_,_,_,rfl,rfl,h19,rfl,rfl⟩⟩
   intro hc2 N;refine zS<|vG [6,7,8] rfl<|xG<|yY 0 rfl ?_;intro I06 le6 hl02;have h20:=SL.of_frozen hl02 le6 h10;obtain rfl:=zC N;exact xA ⟨_,_,(.tmp rfl (.tmp rfl (.tmp rfl ResV.nil))),zQ,⟨_,_,_,rfl,rfl,h20,rfl,rfl⟩⟩
 intro r0 I9 hs9 m9 heq9 le9 hrs9;subst heq9;refine zW<|zH ?_;obtain rfl:=zC hMl;exact xA hrs9
def tC (p:(List Int)) (i:Int):Option (Out Unit (Bool)):=do
 if (decide (i < (p.length:Int))) then
  let x←idx p i
  let y←vV x 9999
  if (!y) then
   pure (.ret false)
  else
   tC p (W (i + 1))
 else
  pure (.done ())
 partial_fixpoint
theorem zDZ (p:(List Int)):∀ (i:Int) (o:Out Unit (Bool)),tC p i=some o→∀ {B}{I0 I:Imm}{Q p1 c},I0.le I→(S4 I p1 p c)→NG Q→NO Q→(∀ (I':Imm) ,o=(.done ())→I0.le I'→T 19 B Q (.exit 0) I' [] [(0,vS p1 p c)])→(∀ r I' hs' m',o=(.ret r)→I0.le I'→RS Tryz.prog Tryz.f166 B (zU  r) I' hs' m'→T 19 B Q .ret I' hs' m')→J Tryz.prog 19 B (nav (bodyOf Tryz.f166) [1,0,1,0]) Q I [] [(0,vS p1 p c),(3,vI i)]:=by
 refine tC.partial_correctness p _ fun self ih i o N B I0 I Q p1 c H h hg ho hx hr=>yT hg ho<|yC<|yG [7] rfl<|zI<|yE N ?_ ?_
 · intro hc N;refine zS<|zZ<|yH<|yF<|yB 2 [] [10,11] rfl<|bE N fun x hy N=>xJ rfl rfl h hy ?_;intro ad ccs hat hrep;obtain rfl:=hrep;refine yX 0 hat [vI x] (vI x) rfl<|bE N fun y hy1 N=>vZ (eV x 9999 _ hy1 ) ?_;intro I0 le;have ⟨h,H⟩:=m2 le h H;refine yJ [] [15] rfl<|zI<|yE N ?_ ?_
   · intro hc1 N;exact vJ [(2,vF)]<|xG<|zW<|zH<|zH<|hr _ _ _ _ (zC N).symm H ⟨_,_,(.tmp rfl ResV.nil),zQ,⟨_,rfl,rfl,rfl⟩⟩
   intro hc1 N;exact zS<|zP<|zI<|zK<|yJ [] [3] rfl<|yS<|nG<|ih (W (i + 1)) _ N H h hg ho hx hr
 intro hc N;exact wT<|yQ<|hx _  (zC N).symm H
def nR (p:(List Int)):Option (Bool):=do
 match←tC p 0 with
 | .ret r0=>pure r0
 | .done _ =>
  pure (decide ((p.length:Int) ≤ 4))
theorem zFd:∀ p r,nR p=some r→∀ {I:Imm}{p1 c},(S4 I p1 p c)→RT 166 [vS p1 p c] I [] (zU  r):=by
 intro p r N I p1 c h;unfold nR at N;refine yM Tryz.func166 fun B=>vJ []<|zZ<|yG [3] rfl<|xZ<|pJ [(0,vS p1 p c),(3,vI 0)] ?_;obtain ⟨o0,ho0,hMl⟩:=zB N;refine zDZ p 0 o0 ho0 iR h (fun _ _ _ h=>h) (fun _ _ h=>h) ?_ ?_
 · intro I01  heq le1;subst o0;refine zR<|vG [2] rfl<|zI<|yW ?_;obtain rfl:=zC hMl;exact wP
 intro r0 I9 hs9 m9 heq9 le9 hrs9;subst heq9;refine zW<|zH ?_;obtain rfl:=zC hMl;exact xA hrs9
def uR (list:(List zF)) (part:zM) (y1:(List (List Int))) (i:Int) (k0:Int):Option (Out Unit (Int×Bool)):=do
 if (decide (k0 < (y1.length:Int))) then
  let x1←idx part.Body i
  let x2←idx y1 k0
  let (y5,y6,y7)←oQ list x1 x2
  let t80←(do
    if (!y7) then
     pure true
    else
     let x3←idx y1 k0
     let y8←nR x3
     pure (!y8)
      : Option Bool)
  if t80 then
   pure (.ret (0,false))
  else
   uR list part y1 i (W (k0 + 1))
 else
  pure (.done ())
 partial_fixpoint
theorem zEH (list:(List zF)) (part:zM) (y1:(List (List Int))) (i:Int):∀ (k0:Int) (o:Out Unit (Int×Bool)),uR list part y1 i k0=some o→∀ {B}{I0 I:Imm}{Q p c p1 c1 p2 c2}{b:Nat}{p3 c3},I0.le I→(S4 I p list c)→(S4 I p3 y1 c3)→(S4 I p1 part.Nest c1)→(S4 I p2 part.Body c2)→NG Q→NO Q→(∀ (I':Imm) ,o=(.done ())→I0.le I'→T 87 B Q (.exit 2) I' [hB b (cPart part p1 c1 p2 c2)] [(0,vS p list c),(3,vP b 0),(6,vS p3 y1 c3),(8,vI i)])→(∀ r I' hs' m',o=(.ret r)→I0.le I'→RS Tryz.prog Tryz.f114 B (kS  r) I' hs' m'→T 87 B Q .ret I' hs' m')→J Tryz.prog 87 B (nav (bodyOf Tryz.f114) [1,1,1,0,1,0,0,1,0,0,1,1,0]) Q I [hB b (cPart part p1 c1 p2 c2)] [(0,vS p list c),(3,vP b 0),(6,vS p3 y1 c3),(8,vI i),(9,vI k0)]:=by
 refine uR.partial_correctness list part y1 i _ fun self ih k0 o N B I0 I Q p c p1 c1 p2 c2 b p3 c3 H h h3 h1 h2 hg ho hx hr=>yT hg ho<|yC<|yG [53] rfl<|zI<|yE N ?_ ?_
 · intro hc5 N;refine zS<|zZ<|yH<|yC ?_;obtain ⟨x1,hy3,N⟩:=zB N;obtain ⟨x2,hy4,N⟩:=zB N;obtain ⟨⟨y5,y6,y7⟩,hy5,N⟩:=zB N;refine wA [.p (vS p list c) [],.p (vP b 1) [],.p (vS p2 part.Body c2) [0],.p (vI i) [],.x (ePStmt x1),.x (eVStmt x1),.p (vS p3 y1 c3) [],.p (vI k0) [],.x (fun I' v hx=>∃ ad2 p12 c12,v=.pointer (some ad2)∧hx=[]∧(At I' ad2 [vS p12 x2 c12])∧(S4 I' p12 x2 c12)),.x (eS x2),.x (fun I' v hx=>∃ p13 c13,v=.tuple ⟨[vS p13 y5 c13,vI y6,.bool y7]⟩∧hx=[]∧(S4 I' p13 y5 c13)),.x (fun I' v hx=>∃ p131 c131,v=.tuple ⟨[vS p131 y5 c131,vI y6,.bool y7]⟩∧hx=[]∧(S4 I' p131 y5 c131)),.x (eS y5),.q (vI y6),.q (.bool y7),.x (eS y5),.p (vI y6) []] [[],[],[(1,false)],[],[(2,false),(3,false)],[(4,false)],[],[],[(6,false),(7,false)],[(8,false)],[(0,false),(5,false),(9,false)],[(10,false)],[(11,false)],[(11,false)],[(11,false)],[(12,false)],[(13,false)]] [hB b (cPart part p1 c1 p2 c2)] [] [(14,false)] (zY [0]) ?_ ?_
   · refine Op<|Op<|Op<|Op<|Ox ?_<|Ox ?_<|Op<|Op<|Ox ?_<|Ox ?_<|Ox ?_<|Ox ?_<|Ox ?_<|Oq ?_<|Oq ?_<|Ox ?_<|Op<|On
     · intro I1 hf le1;refine yN [59,60] rfl ?_;have h2:=h2.mono le1;refine xJ rfl rfl h2 hy3 ?_;intro ad1 ccs1 hat1 hrep1;obtain ⟨p8,c8,p9,c9,p10,c10,p11,c11,rfl,h10,h11,h12,h13⟩:=tG hrep1;exact yI [] iR ⟨_,_,_,_,_,_,_,_,_,rfl,rfl,hat1,h10,h11,h12,h13⟩
     · rintro I1 hf le1 _ _ ⟨ad1,p8,c8,p9,c9,p10,c10,p11,c11,rfl,rfl,hat1,h10,h11,h12,h13⟩;exact yN [61] rfl<|yX 0 hat1 (cStmt x1 p8 c8 p9 c9 p10 c10 p11 c11) (vA (cStmt x1 p8 c8 p9 c9 p10 c10 p11 c11)) rfl<|yI [] iR ⟨_,_,_,_,_,_,_,_,rfl,rfl,h10,h11,h12,h13⟩
     · intro I1 hf le1;refine yN [63,64] rfl ?_;have h3:=h3.mono le1;refine xJ rfl rfl h3 hy4 ?_;intro ad2 ccs2 hat2 hrep2;obtain ⟨v011,rfl,h14⟩:=hrep2;obtain ⟨p12,c12,rfl⟩:=h14.form;exact yI [] iR ⟨_,_,_,rfl,rfl,hat2,h14⟩
     · rintro I1 hf le1 _ _ ⟨ad2,p12,c12,rfl,rfl,hat2,h14⟩;exact yN [65] rfl<|yX 0 hat2 [vS p12 x2 c12] (vS p12 x2 c12) rfl<|yI [] iR ⟨_,_,rfl,rfl,h14⟩
     · rintro I1 hf le1 _ _ ⟨rfl,rfl⟩ _ _ ⟨p81,c81,p91,c91,p101,c101,p111,c111,rfl,rfl,h101,h111,h121,h131⟩ _ _ ⟨p121,c121,rfl,rfl,h141⟩;refine yN [57,62,66] rfl ?_;have H:=iS I1;have h:=h.mono le1;refine xQ (zBg list x1 x2 _ hy5 h h101 h111 h121 h131 h141) ?_;rintro I04 hs2 v2 k2 le4 - ⟨v012,v013,v014,rfl,rfl,h15,rfl,rfl⟩ -;have H:=H.trans le4;obtain ⟨p13,c13,rfl⟩:=h15.form;exact yI [] H ⟨_,_,rfl,rfl,h15⟩
     · rintro I1 hf le1 _ _ ⟨p13,c13,rfl,rfl,h15⟩;exact yN [67] rfl<|tM 12 [(56,.tuple ⟨[vS p13 y5 c13,vI y6,.bool y7]⟩)]<|yI [] iR ⟨_,_,rfl,rfl,h15⟩
     · rintro I1 hf le1 _ _ ⟨p131,c131,rfl,rfl,h151⟩;exact yN [56] rfl<|tM 13 [(68,vS p131 y5 c131)]<|yI [] iR ⟨_,_,rfl,rfl,h151⟩
     · rintro I1 hf le1 _ _ ⟨p131,c131,rfl,rfl,h151⟩;exact yN [56] rfl<|tM 14 [(69,vI y6)]<|yP iR
     · rintro I1 hf le1 _ _ ⟨p131,c131,rfl,rfl,h151⟩;exact yN [56] rfl<|tM 15 [(70,.bool y7)]<|yP iR
     rintro I1 hf le1 _ _ ⟨p1311,c1311,rfl,rfl,h1511⟩;exact yN [68] rfl<|tM 16 [(10,vS p1311 y5 c1311)]<|yI [] iR ⟨_,_,rfl,rfl,h1511⟩
   intro I05 le5;refine yN [0,3,6,8,9,70] rfl ?_;have ⟨h,h3,h1,h2,H⟩:=m5 le5 h h3 h1 h2 H;refine yJ [] [12] rfl<|zI<|yC ?_;refine wE N [hB b (cPart part p1 c1 p2 c2)] (fun t80=>[(0,vS p list c),(3,vP b 0),(6,vS p3 y1 c3),(8,vI i),(9,vI k0),(80,.bool t80)]) (fun o01 ho01=>?_) ?_
   · have H:=iS I05;refine zK<|yB 3 [] [73] rfl<|xW [73] ho01 ?_ ?_
     · intro hc6 N;exact wG [] [(80,vY)]<|yQ<|zT (ct N H)
     intro hc6 N;refine yB 5 [] [74,75] rfl<|bE N fun x3 hy6 N=>xJ rfl rfl h3 hy6 ?_;intro ad3 ccs3 hat3 hrep3;obtain ⟨v015,rfl,h18⟩:=hrep3;obtain ⟨p14,c14,rfl⟩:=h18.form;refine yX 0 hat3 [vS p14 x3 c14] (vS p14 x3 c14) rfl<|bE N fun y8 hy7 N=>vZ (zFd x3 _ hy7 h18) ?_;intro I07 le6;have H:=H.trans le6;exact yJ [] [80] rfl<|yQ<|zT (ct N H)
   intro t80 I06 le7 hMc1;have ⟨h,h3,h1,h2,H⟩:=m5 le7 h h3 h1 h2 H;refine zI<|yE hMc1 ?_ ?_
   · intro hc7 N;exact yG [4,5] rfl<|xG<|zW<|zH<|zH<|hr _ _ _ _ (zC N).symm H ⟨_,_,(.tmp rfl (.tmp rfl ResV.nil)),zQ,⟨_,_,rfl,rfl,rfl,rfl⟩⟩
   intro hc7 N;exact zS<|zP<|zI<|zK<|yJ [] [9] rfl<|yS<|nG<|ih (W (k0 + 1)) _ N H h h3 h1 h2 hg ho hx hr
 intro hc5 N;exact wT<|yQ<|hx _  (zC N).symm H
def uS (list:(List zF)) (part:zM) (y1:(List (List Int))) (i:Int):Option (Out Unit (Int×Bool)):=do
 if (decide (i < (part.Body.length:Int))) then
  let x←idx part.Body i
  let y3←sV x (part.Nest.length:Int)
  if (!y3) then
   pure (.ret (0,false))
  else
   match←uR list part y1 i 0 with
   | .ret r0=>pure (.ret r0)
   | .done _ =>
    uS list part y1 (W (i + 1))
 else
  pure (.done ())
 partial_fixpoint
theorem zEI (list:(List zF)) (part:zM) (y1:(List (List Int))):∀ (i:Int) (o:Out Unit (Int×Bool)),uS list part y1 i=some o→∀ {B}{I0 I:Imm}{Q p c p1 c1 p2 c2}{b:Nat}{p3 c3},I0.le I→(S4 I p list c)→(S4 I p3 y1 c3)→(S4 I p1 part.Nest c1)→(S4 I p2 part.Body c2)→NG Q→NO Q→(∀ (I':Imm) ,o=(.done ())→I0.le I'→T 87 B Q (.exit 0) I' [hB b (cPart part p1 c1 p2 c2)] [(3,vP b 0),(6,vS p3 y1 c3)])→(∀ r I' hs' m',o=(.ret r)→I0.le I'→RS Tryz.prog Tryz.f114 B (kS  r) I' hs' m'→T 87 B Q .ret I' hs' m')→J Tryz.prog 87 B (nav (bodyOf Tryz.f114) [1,1,1,0,1,0]) Q I [hB b (cPart part p1 c1 p2 c2)] [(0,vS p list c),(3,vP b 0),(6,vS p3 y1 c3),(8,vI i)]:=by
 refine uS.partial_correctness list part y1 _ fun self ih i o N B I0 I Q p c p1 c1 p2 c2 b p3 c3 H h h3 h1 h2 hg ho hx hr=>yT hg ho<|yC<|yF<|yJ [0] [37] rfl<|zI<|yE N ?_ ?_
 · intro hc3 N;refine zS<|zZ<|yH<|yC<|yC ?_;obtain ⟨x,hy1,N⟩:=zB N;obtain ⟨y3,hy2,N⟩:=zB N;refine wA [.p (vP b 1) [],.p (vS p2 part.Body c2) [0],.p (vI i) [],.x (ePStmt x),.x (eVStmt x),.p (vP b 0) [],.p (vS p1 part.Nest c1) [0],.p (vI (part.Nest.length:Int)) [],.q (.bool y3),.p (.bool (!y3)) []] [[],[(0,false)],[],[(1,false),(2,false)],[(3,false)],[],[(5,false)],[(6,false)],[(4,false),(7,false)],[(8,false)]] [hB b (cPart part p1 c1 p2 c2)] [] [(9,false)] (zY [0]) ?_ ?_
   · refine Op<|Op<|Op<|Ox ?_<|Ox ?_<|Op<|Op<|Op<|Oq ?_<|Op<|On
     · intro I1 hf le1;refine yN [41,42] rfl ?_;have h2:=h2.mono le1;refine xJ rfl rfl h2 hy1 ?_;intro ad ccs hat hrep;obtain ⟨p4,c4,p5,c5,p6,c6,p7,c7,rfl,h5,h6,h7,h8⟩:=tG hrep;exact yI [] iR ⟨_,_,_,_,_,_,_,_,_,rfl,rfl,hat,h5,h6,h7,h8⟩
     · rintro I1 hf le1 _ _ ⟨ad,p4,c4,p5,c5,p6,c6,p7,c7,rfl,rfl,hat,h5,h6,h7,h8⟩;exact yN [43] rfl<|yX 0 hat (cStmt x p4 c4 p5 c5 p6 c6 p7 c7) (vA (cStmt x p4 c4 p5 c5 p6 c6 p7 c7)) rfl<|yI [] iR ⟨_,_,_,_,_,_,_,_,rfl,rfl,h5,h6,h7,h8⟩
     rintro I1 hf le1 _ _ ⟨p41,c41,p51,c51,p61,c61,p71,c71,rfl,rfl,h51,h61,h71,h81⟩;refine yN [44,47] rfl ?_;have H:=iS I1;refine vZ (eE x (part.Nest.length:Int) _ hy2 h51 h61 h71 h81) ?_;intro I02 le2;have H:=H.trans le2;exact yP H
   intro I03 le3;refine yN [0,3,6,8,49] rfl ?_;have ⟨h,h3,h1,h2,H⟩:=m5 le3 h h3 h1 h2 H;refine yA rfl<|zI<|yE N ?_ ?_
   · intro hc4 N;exact yG [4,5] rfl<|xG<|zH<|zW<|zH<|zH<|hr _ _ _ _ (zC N).symm H ⟨_,_,(.tmp rfl (.tmp rfl ResV.nil)),zQ,⟨_,_,rfl,rfl,rfl,rfl⟩⟩
   intro hc4 N;refine zS<|vG [9] rfl<|xZ<|pJ [(0,vS p list c),(3,vP b 0),(6,vS p3 y1 c3),(8,vI i),(9,vI 0)] ?_;obtain ⟨o02,ho02,hMl⟩:=zB N;refine zEH list part y1 i 0 o02 ho02 iR h h3 h1 h2 (fun _ _ _ h=>hg _ _ _ h) (fun _ _ h=>ho _ _ h) ?_ ?_
   · intro I08  heq2 le8;subst o02;have ⟨h,h3,h1,h2,H⟩:=m5 le8 h h3 h1 h2 H;exact zR<|zP<|zI<|zK<|yJ [] [8] rfl<|yS<|nG<|ih (W (i + 1)) _ hMl H h h3 h1 h2 hg ho hx hr
   intro r0 I9 hs9 m9 heq9 le9 hrs9;subst heq9;exact zW<|zW<|zH<|zH<|hr _ _ _ _ (zC hMl).symm (H.trans le9) hrs9
 intro hc3 N;exact wT<|yQ<|hx _  (zC N).symm H
def oL (list:(List zF)) (part:zM):Option (Int×Bool):=do
 let (y1,y2)←qX part.Nest
 let t32←(do
   if (!y2) then
    pure true
   else
    if (decide ((part.Body.length:Int) < 1)) then
     pure true
    else
     pure (decide ((part.Body.length:Int) > 4))
     : Option Bool)
 if t32 then
  pure (0,false)
 else
  match←uS list part y1 0 with
  | .ret r0=>pure r0
  | .done _ =>
   pure ((W ((y1.length:Int) * (part.Body.length:Int))),true)
theorem zAN:∀ list part r,oL list part=some r→∀ {I:Imm}{p c p1 c1 p2 c2},(S4 I p list c)→(S4 I p1 part.Nest c1)→(S4 I p2 part.Body c2)→RT 114 [vS p list c,vA (cPart part p1 c1 p2 c2)] I [] (kS  r):=by
 intro list part r N I p c p1 c1 p2 c2 h h1 h2;unfold oL at N;refine yM Tryz.func114 fun B=>?_;have H:=iS I;refine yF<|vX (cPart part p1 c1 p2 c2) ?_;intro b hb;refine wG [] []<|yV<|yB 2 [0] [15] rfl ?_;obtain ⟨⟨y1,y2⟩,hy,N⟩:=zB N;refine xQ (zDX part.Nest _ hy h1) ?_;rintro I0 hs2 v2 k2 le - ⟨v0,v01,rfl,rfl,h3,rfl⟩ -;have ⟨h,h1,h2,H⟩:=m4 le h h1 h2 H;obtain ⟨p3,c3,rfl⟩:=h3.form;refine yJ [] [6,7] rfl<|zZ<|yC ?_;refine wE N [hB b (cPart part p1 c1 p2 c2)] (fun t32=>[(0,vS p list c),(3,vP b 0),(6,vS p3 y1 c3),(32,.bool t32)]) (fun o0 ho0=>?_) ?_
 · have H:=iS I0;refine zK<|yB 3 [] [21] rfl<|xW [21] ho0 ?_ ?_
   · intro hc N;exact wG [] [(32,vY)]<|yQ<|zT (ct N H)
   intro hc N;refine yB 9 [0] [27] rfl<|xW [27] N ?_ ?_
   · intro hc1 N;exact wG [] [(32,vY)]<|yQ<|zT (ct N H)
   intro hc1 N;exact yJ [0] [32] rfl<|yQ<|zT (ct N H)
 intro t32 I01 le1 hMc;have ⟨h,h3,h1,h2⟩:=m4 le1 h h3 h1 h2;refine zI<|yE hMc ?_ ?_
 · intro hc2 N;refine yG [4,5] rfl<|xG<|zH ?_;obtain rfl:=zC N;exact xA ⟨_,_,(.tmp rfl (.tmp rfl ResV.nil)),zQ,⟨_,_,rfl,rfl,rfl,rfl⟩⟩
 intro hc2 N;refine zS<|zZ<|yG [8] rfl<|xZ<|pJ [(0,vS p list c),(3,vP b 0),(6,vS p3 y1 c3),(8,vI 0)] ?_;obtain ⟨o03,ho03,hMl1⟩:=zB N;refine zEI list part y1 0 o03 ho03 iR h h3 h1 h2 (fun _ _ _ h=>h) (fun _ _ h=>h) ?_ ?_
 · intro I09  heq3 le9;subst o03;refine zR<|yV<|yJ [0] [4,5] rfl<|zI<|yW ?_;obtain rfl:=zC hMl1;exact xA ⟨_,_,(.tmp rfl (.tmp rfl ResV.nil)),zQ,⟨_,_,rfl,rfl,rfl,rfl⟩⟩
 intro r0 I9 hs9 m9 heq9 le9 hrs9;subst heq9;refine zW<|zH ?_;obtain rfl:=zC hMl1;exact xA hrs9
def wD (p:zE) (total:Int) (i:Int):Option (Out Int (Bool)):=do
 if (decide (i < (p.Parts.length:Int))) then
  let x←idx p.Parts i
  let (y2,y3)←oL p.Arrays x
  if (!y3) then
   pure (.ret false)
  else
   wD p (W (total + y2)) (W (i + 1))
 else
  pure (.done total)
 partial_fixpoint
theorem zBH (p:zE):∀ (total:Int) (i:Int) (o:Out Int (Bool)),wD p total i=some o→∀ {B}{I0 I:Imm}{Q p1 c p2 c1}{b:Nat},I0.le I→(S4 I p1 p.Arrays c)→(S4 I p2 p.Parts c1)→NG Q→NO Q→(∀ (I':Imm) (total1:Int),o=(.done total1)→I0.le I'→T 42 B Q (.exit 0) I' [] [(3,vI total1)])→(∀ r I' hs' m',o=(.ret r)→I0.le I'→RS Tryz.prog Tryz.f54 B (zU  r) I' hs' m'→T 42 B Q .ret I' hs' m')→J Tryz.prog 42 B (nav (bodyOf Tryz.f54) [1,1,1,0,1,0]) Q I [hB b (cProg p p1 c p2 c1)] [(1,vP b 0),(3,vI total),(4,vI i)]:=by
 refine wD.partial_correctness p _ fun self ih total i o N B I0 I Q p1 c p2 c1 b H h h1 hg ho hx hr=>yT hg ho<|yC<|yF<|yJ [0] [21] rfl<|zI<|yE N ?_ ?_
 · intro hc2 N;refine zS<|zZ<|yH<|yC ?_;obtain ⟨x,hy1,N⟩:=zB N;obtain ⟨⟨y2,y3⟩,hy2,N⟩:=zB N;refine wA [.p (vP b 0) [],.p (vS p1 p.Arrays c) [0],.p (vP b 1) [],.p (vS p2 p.Parts c1) [0],.p (vI i) [],.x (ePPart x),.x (eVPart x),.q (.tuple ⟨[vI y2,.bool y3]⟩),.p (.tuple ⟨[vI y2,.bool y3]⟩) [],.p (vI y2) [],.p (.bool y3) [],.p (vI y2) []] [[],[(0,false)],[],[(2,false)],[],[(3,false),(4,false)],[(5,false)],[(1,false),(6,false)],[(7,false)],[(8,false)],[(8,false)],[(9,false)]] [hB b (cProg p p1 c p2 c1)] [] [(10,false),(11,false)] (zY [0]) ?_ ?_
   · refine Op<|Op<|Op<|Op<|Op<|Ox ?_<|Ox ?_<|Oq ?_<|Op<|Op<|Op<|Op<|On
     · intro I1 hf le1;refine yN [28,29] rfl ?_;have h1:=h1.mono le1;refine xJ rfl rfl h1 hy1 ?_;intro ad ccs hat hrep;obtain ⟨p3,c2,p4,c3,rfl,h3,h4⟩:=wW hrep;exact yI [] iR ⟨_,_,_,_,_,rfl,rfl,hat,h3,h4⟩
     · rintro I1 hf le1 _ _ ⟨ad,p3,c2,p4,c3,rfl,rfl,hat,h3,h4⟩;exact yN [30] rfl<|yX 0 hat (cPart x p3 c2 p4 c3) (vA (cPart x p3 c2 p4 c3)) rfl<|yI [] iR ⟨_,_,_,_,rfl,rfl,h3,h4⟩
     rintro I1 hf le1 _ _ ⟨rfl,rfl⟩ _ _ ⟨p31,c21,p41,c31,rfl,rfl,h31,h41⟩;refine yN [26,31] rfl ?_;have H:=iS I1;have h:=h.mono le1;refine xQ (zAN p.Arrays x _ hy2 h h31 h41) ?_;rintro I02 hs2 v2 k2 le2 - ⟨v03,v04,rfl,rfl,rfl,rfl⟩ -;have H:=H.trans le2;exact yP H
   intro I03 le3;refine yN [1,3,4,5,34] rfl ?_;have ⟨h,h1,H⟩:=m3 le3 h h1 H;refine yJ [] [6] rfl<|zZ<|yG [36] rfl<|zI<|yE N ?_ ?_
   · intro hc3 N;exact vJ [(2,vF)]<|xG<|zH<|zW<|zH<|zH<|hr _ _ _ _ (zC N).symm H ⟨_,_,(.tmp rfl ResV.nil),zQ,⟨_,rfl,rfl,rfl⟩⟩
   intro hc3 N;exact zS<|zI<|zK<|yJ [] [3] rfl<|zP<|zI<|zK<|yJ [] [4] rfl<|yS<|nG<|ih (W (total + y2)) (W (i + 1)) _ N H h h1 hg ho hx hr
 intro hc2 N;exact wT<|xT zQ<|yQ<|hx _ _ (zC N).symm H
def uJ (p:zE):Option (Bool):=do
 let t16←(do
   let y←oZ p.Arrays
   if (!y) then
    pure true
   else
    pure (decide ((p.Parts.length:Int) > 4))
     : Option Bool)
 if t16 then
  pure false
 else
  match←wD p 0 0 with
  | .ret r0=>pure r0
  | .done total1 =>
   pure (decide (total1 ≤ 120))
theorem gK:∀ p r,uJ p=some r→∀ {I:Imm}{p1 c p2 c1},(S4 I p1 p.Arrays c)→(S4 I p2 p.Parts c1)→RT 54 [vA (cProg p p1 c p2 c1)] I [] (zU  r):=by
 intro p r N I p1 c p2 c1 h h1;unfold uJ at N;refine yM Tryz.func54 fun B=>?_;have H:=iS I;refine yF<|vX (cProg p p1 c p2 c1) ?_;intro b hb;refine wG [] []<|zZ<|yC ?_;refine wE N [hB b (cProg p p1 c p2 c1)] (fun t16=>[(1,vP b 0),(16,.bool t16)]) (fun o0 ho0=>?_) ?_
 · have H:=iS I;refine zK<|yB 2 [0] [8] rfl ?_;obtain ⟨y,hy,N⟩:=zB ho0;refine vZ (zEu p.Arrays _ hy h) ?_;intro I01 le;have H:=H.trans le;refine yB 5 [] [11] rfl<|xW [11] N ?_ ?_
   · intro hc N;exact wG [] [(16,vY)]<|yQ<|zT (ct N H)
   intro hc N;exact yJ [0] [16] rfl<|yQ<|zT (ct N H)
 intro t16 I0 le1 hMc;have ⟨h,h1⟩:=m2 le1 h h1;refine zI<|yE hMc ?_ ?_
 · intro hc1 N;refine vJ [(2,vF)]<|xG<|zH ?_;obtain rfl:=zC N;exact wP
 intro hc1 N;refine zS<|vG [3] rfl<|zZ<|yG [4] rfl<|xZ<|pJ [(1,vP b 0),(3,vI 0),(4,vI 0)] ?_;obtain ⟨o01,ho01,hMl⟩:=zB N;refine zBH p 0 0 o01 ho01 iR h h1 (fun _ _ _ h=>h) (fun _ _ h=>h) ?_ ?_
 · intro I04 total1 heq1 le4;subst o01;refine zR<|vG [2] rfl<|zI<|yW ?_;obtain rfl:=zC hMl;exact wP
 intro r0 I9 hs9 m9 heq9 le9 hrs9;subst heq9;refine zW<|zH ?_;obtain rfl:=zC hMl;exact xA hrs9
def pW (nest:(List zD)) (out:Str) (i:Int):Option (Str):=do
 if (decide (i < (nest.length:Int))) then
  let s←cat out (⟨[102,111,114,32]⟩:Str)
  let x←idx nest i
  let y←qW x.Lo
  let s1←cat s y
  let s2←cat s1 (⟨[32]⟩:Str)
  let x1←idx nest i
  let y1←qW x1.Hi
  let s3←cat s2 y1
  let s4←cat s3 (⟨[10]⟩:Str)
  pW nest s4 (W (i + 1))
 else
  pure (id out)
 partial_fixpoint
theorem zEJ (nest:(List zD)):∀ (out:Str) (i:Int) (o:Str),pW nest out i=some o→∀ {B}{I0 I:Imm}{Q p c},I0.le I→(S4 I p nest c)→NG Q→NO Q→(∀ (I':Imm) (out1:Str),o=out1→I0.le I'→T 30 B Q (.exit 0) I' [] [(3,vT out1.l)])→J Tryz.prog 30 B (nav (bodyOf Tryz.f190) [1,1,0,1,0]) Q I [] [(0,vS p nest c),(3,vT out.l),(4,vI i)]:=by
 refine pW.partial_correctness nest _ fun self ih out i o N B I0 I Q p c H h hg ho hx=>yT hg ho<|yC<|yG [8] rfl<|zI<|yE N ?_ ?_
 · intro hc N;refine zS<|zZ<|yH ?_;obtain ⟨s,hy,N⟩:=zB N;obtain ⟨x,hy1,N⟩:=zB N;obtain ⟨y,hy2,N⟩:=zB N;obtain ⟨s1,hy3,N⟩:=zB N;obtain ⟨s2,hy4,N⟩:=zB N;obtain ⟨x1,hy5,N⟩:=zB N;obtain ⟨y1,hy6,N⟩:=zB N;obtain ⟨s3,hy7,N⟩:=zB N;obtain ⟨s4,hy8,N⟩:=zB N;refine wA [.p (vT out.l) [],.q (vT s.l),.p (vS p nest c) [],.p (vI i) [],.x (ePLoop x),.x (ePLoop x),.x (eS x.Lo),.q (vT y.l),.q (vT s1.l),.q (vT s2.l),.p (vS p nest c) [],.p (vI i) [],.x (ePLoop x1),.x (eQLoop 1 x1),.x (eS x1.Hi),.q (vT y1.l),.q (vT s3.l),.q (vT s4.l)] [[],[(0,false)],[],[],[(2,false),(3,false)],[(4,false)],[(5,false)],[(6,false)],[(1,false),(7,false)],[(8,false)],[],[],[(10,false),(11,false)],[(12,false)],[(13,false)],[(14,false)],[(9,false),(15,false)],[(16,false)]] [] [] [(17,false)] zQ ?_ ?_
   · refine Op<|Oq ?_<|Op<|Op<|Ox ?_<|Ox ?_<|Ox ?_<|Oq ?_<|Oq ?_<|Oq ?_<|Op<|Op<|Ox ?_<|Ox ?_<|Ox ?_<|Oq ?_<|Oq ?_<|Oq ?_<|On
     · intro I1 hf le1;exact yN [11] rfl<|kG rfl hy<|yP iR
     · intro I1 hf le1;refine yN [13,14] rfl ?_;have h:=h.mono le1;refine xJ rfl rfl h hy1 ?_;intro ad ccs hat hrep;obtain ⟨p1,c1,p2,c2,rfl,h1,h2⟩:=sB hrep;exact yI [] iR ⟨_,_,_,_,_,rfl,rfl,hat,h1,h2⟩
     · rintro I1 hf le1 _ _ ⟨ad,p1,c1,p2,c2,rfl,rfl,hat,h1,h2⟩;exact yN [15] rfl<|tM 6 [(16,.pointer (some ad))]<|yI [] iR ⟨_,_,_,_,_,rfl,rfl,hat,h1,h2⟩
     · rintro I1 hf le1 _ _ ⟨ad1,p11,c11,p21,c21,rfl,rfl,hat1,h11,h21⟩;exact yN [16] rfl<|yX 0 hat1 [vS p11 x.Lo c11] (vS p11 x.Lo c11) rfl<|yI [] iR ⟨_,_,rfl,rfl,h11⟩
     · rintro I1 hf le1 _ _ ⟨p111,c111,rfl,rfl,h111⟩;refine yN [17] rfl ?_;have H:=iS I1;refine xQ (fR x.Lo _ hy2 h111) ?_;rintro I0 hs2 v2 k2 le - ⟨v02,rfl,rfl,rfl⟩ -;have H:=H.trans le;exact yP H
     · intro I1 hf le1;exact yN [12,18] rfl<|kG rfl hy3<|yP iR
     · intro I1 hf le1;exact yN [19] rfl<|kG rfl hy4<|yP iR
     · intro I1 hf le1;refine yN [21,22] rfl ?_;have h:=h.mono le1;refine xJ rfl rfl h hy5 ?_;intro ad2 ccs1 hat2 hrep1;obtain ⟨p3,c3,p4,c4,rfl,h4,h5⟩:=sB hrep1;exact yI [] iR ⟨_,_,_,_,_,rfl,rfl,hat2,h4,h5⟩
     · rintro I1 hf le1 _ _ ⟨ad2,p3,c3,p4,c4,rfl,rfl,hat2,h4,h5⟩;exact yN [23] rfl<|tM 14 [(24,.pointer (some (ad2.add 1)))]<|yI [] iR ⟨_,_,_,_,_,rfl,rfl,hat2,h4,h5⟩
     · rintro I1 hf le1 _ _ ⟨ad21,p31,c31,p41,c41,rfl,rfl,hat21,h41,h51⟩;exact yN [24] rfl<|yX 1 hat21 [vS p41 x1.Hi c41] (vS p41 x1.Hi c41) rfl<|yI [] iR ⟨_,_,rfl,rfl,h51⟩
     · rintro I1 hf le1 _ _ ⟨p411,c411,rfl,rfl,h511⟩;refine yN [25] rfl ?_;have H:=iS I1;refine xQ (fR x1.Hi _ hy6 h511) ?_;rintro I01 hs2 v2 k2 le1 - ⟨v05,rfl,rfl,rfl⟩ -;have H:=H.trans le1;exact yP H
     · intro I1 hf le1;exact yN [20,26] rfl<|kG rfl hy7<|yP iR
     intro I1 hf le1;exact yN [27] rfl<|kG rfl hy8<|yP iR
   intro I02 le2;refine yN [0,4,28] rfl ?_;have ⟨h,H⟩:=m2 le2 h H;exact yJ [] [3] rfl<|zP<|zI<|zK<|yJ [] [4] rfl<|yS<|nG<|ih s4 (W (i + 1)) _ N H h hg ho hx
 intro hc N;exact wT<|yQ<|hx _ _ (zC N).symm H
def fG (nest:(List zD)):Option (Str):=do
 let out1←pW nest (⟨[]⟩:Str) 0
 pure (id out1)
theorem zGW:∀ nest r,fG nest=some r→∀ {I:Imm}{p c},(S4 I p nest c)→RT 190 [vS p nest c] I [] (tO  r):=by
 intro nest r N I p c h;unfold fG at N;refine yM Tryz.func190 fun B=>vJ []<|vG [3] rfl<|zZ<|yG [4] rfl<|xZ<|pJ [(0,vS p nest c),(3,vT ([])),(4,vI 0)] ?_;obtain ⟨o0,ho0,hMl⟩:=zB N;refine zEJ nest (⟨[]⟩:Str) 0 o0 ho0 iR h (fun _ _ _ h=>h) (fun _ _ h=>h) ?_;intro I03 out1 heq le3;subst o0;refine zR<|vG [2] rfl<|zI<|yW ?_;obtain rfl:=zC hMl;exact wP
def uT (p:zE) (i:Int) (out2:Str) (k0:Int):Option (Str):=do
 let x1←idx p.Arrays i
 if (decide (k0 < (x1.Dims.length:Int))) then
  let s2←cat out2 (⟨[32]⟩:Str)
  let x2←idx p.Arrays i
  let x3←idx x2.Dims k0
  let y1←rQ x3
  let s3←cat s2 y1
  uT p i s3 (W (k0 + 1))
 else
  pure (id out2)
 partial_fixpoint
theorem zAi (p:zE) (i:Int):∀ (out2:Str) (k0:Int) (o:Str),uT p i out2 k0=some o→∀ {B}{I0 I:Imm}{Q p1 c p2 c1}{b:Nat},I0.le I→(S4 I p1 p.Arrays c)→(S4 I p2 p.Parts c1)→NG Q→NO Q→(∀ (I':Imm) (out3:Str),o=out3→I0.le I'→T 103 B Q (.exit 2) I' [hB b (cProg p p1 c p2 c1)] [(1,vP b 0),(3,vT out3.l),(4,vI i)])→J Tryz.prog 103 B (nav (bodyOf Tryz.f148) [1,1,1,0,1,0,0,1,0,0,1,0,1,0]) Q I [hB b (cProg p p1 c p2 c1)] [(1,vP b 0),(3,vT out2.l),(4,vI i),(5,vI k0)]:=by
 refine uT.partial_correctness p i _ fun self ih out2 k0 o N B I0 I Q p1 c p2 c1 b H h h1 hg ho hx=>yT hg ho<|yC<|yF<|yB 4 [0] [28,30,31] rfl<|bE N fun x1 hy4 N=>xJ rfl rfl h hy4 ?_;intro ad1 ccs1 hat1 hrep1;obtain ⟨p4,c3,rfl,h4⟩:=wJ hrep1;refine yB 6 [] [33] rfl<|yX 1 hat1 [vS p4 x1.Dims c3] (vS p4 x1.Dims c3) rfl<|yJ [] [36] rfl<|zI<|yE N ?_ ?_
 · intro hc2 N;refine zS<|zZ<|yH<|zK<|yB 1 [] [39] rfl<|bE N fun s2 hy5 N=>kG rfl hy5<|yB 5 [0] [42,43] rfl<|bE N fun x2 hy6 N=>xJ rfl rfl h hy6 ?_;intro ad2 ccs2 hat2 hrep2;obtain ⟨p5,c4,rfl,h5⟩:=wJ hrep2;refine yB 7 [] [45] rfl<|yX 1 hat2 [vS p5 x2.Dims c4] (vS p5 x2.Dims c4) rfl<|yB 9 [] [47] rfl<|bE N fun x3 hy7 N=>xJ rfl rfl h5 hy7 ?_;intro ad3 ccs3 hat3 hrep3;obtain rfl:=hrep3;refine yX 0 hat3 [vI x3] (vI x3) rfl<|bE N fun y1 hy8 N=>xQ (eA x3 _ hy8 ) ?_;rintro I01 hs2 v2 k2 le1 - ⟨v04,rfl,rfl,rfl⟩ -;have ⟨h,h1,H⟩:=m3 le1 h h1 H;obtain ⟨s3,hy9,N⟩:=zB N;exact kG rfl hy9<|yJ [] [3] rfl<|zP<|zI<|zK<|yJ [] [5] rfl<|yS<|nG<|ih s3 (W (k0 + 1)) _ N H h h1 hg ho hx
 intro hc2 N;exact wT<|yQ<|hx _ _ (zC N).symm H
def uU (p:zE) (out:Str) (i:Int):Option (Str):=do
 if (decide (i < (p.Arrays.length:Int))) then
  let s←cat out (⟨[97,114,114,97,121,32]⟩:Str)
  let x←idx p.Arrays i
  let s1←cat s x.Name
  let out3←uT p i s1 0
  let s4←cat out3 (⟨[10]⟩:Str)
  uU p s4 (W (i + 1))
 else
  pure (id out)
 partial_fixpoint
theorem zAj (p:zE):∀ (out:Str) (i:Int) (o:Str),uU p out i=some o→∀ {B}{I0 I:Imm}{Q p1 c p2 c1}{b:Nat},I0.le I→(S4 I p1 p.Arrays c)→(S4 I p2 p.Parts c1)→NG Q→NO Q→(∀ (I':Imm) (out1:Str),o=out1→I0.le I'→T 103 B Q (.exit 0) I' [hB b (cProg p p1 c p2 c1)] [(1,vP b 0),(3,vT out1.l)])→J Tryz.prog 103 B (nav (bodyOf Tryz.f148) [1,1,1,0,1,0]) Q I [hB b (cProg p p1 c p2 c1)] [(1,vP b 0),(3,vT out.l),(4,vI i)]:=by
 refine uU.partial_correctness p _ fun self ih out i o N B I0 I Q p1 c p2 c1 b H h h1 hg ho hx=>yT hg ho<|yC<|yF<|yJ [0] [16] rfl<|zI<|yE N ?_ ?_
 · intro hc1 N;refine zS<|zZ<|yH<|yF<|yB 1 [] [19] rfl<|bE N fun s hy1 N=>kG rfl hy1<|yB 5 [0] [22,23] rfl<|bE N fun x hy2 N=>xJ rfl rfl h hy2 ?_;intro ad ccs hat hrep;obtain ⟨p3,c2,rfl,h3⟩:=wJ hrep;refine yB 7 [] [25] rfl<|yX 0 hat [vT x.Name.l] (vT x.Name.l) rfl<|bE N fun s1 hy3 N=>kG rfl hy3<|yJ [] [3] rfl<|zZ<|yG [5] rfl<|xZ<|pJ [(1,vP b 0),(3,vT s1.l),(4,vI i),(5,vI 0)] ?_;obtain ⟨o0,ho0,hMl⟩:=zB N;refine zAi p i s1 0 o0 ho0 iR h h1 (fun _ _ _ h=>hg _ _ _ h) (fun _ _ h=>ho _ _ h) ?_;intro I02 out3 heq le2;subst o0;have ⟨h,h1,H⟩:=m3 le2 h h1 H;refine zR<|zI<|zK<|yB 1 [] [52] rfl ?_;obtain ⟨s4,hy10,N⟩:=zB hMl;exact kG rfl hy10<|yJ [] [3] rfl<|zP<|zI<|zK<|yJ [] [4] rfl<|yS<|nG<|ih s4 (W (i + 1)) _ N H h h1 hg ho hx
 intro hc1 N;exact wT<|yQ<|hx _ _ (zC N).symm H
def uV (p:zE) (i1:Int) (out6:Str) (k01:Int):Option (Str):=do
 let x5←idx p.Parts i1
 if (decide (k01 < (x5.Body.length:Int))) then
  let x6←idx p.Parts i1
  let x7←idx x6.Body k01
  let y3←rE x7.Write
  let s7←cat out6 y3
  let s8←cat s7 (⟨[61]⟩:Str)
  let y4←rR x7.Value
  let s9←cat s8 y4
  let s10←cat s9 (⟨[10]⟩:Str)
  uV p i1 s10 (W (k01 + 1))
 else
  pure (id out6)
 partial_fixpoint
theorem zAk (p:zE) (i1:Int):∀ (out6:Str) (k01:Int) (o:Str),uV p i1 out6 k01=some o→∀ {B}{I0 I:Imm}{Q p1 c p2 c1}{b:Nat},I0.le I→(S4 I p1 p.Arrays c)→(S4 I p2 p.Parts c1)→NG Q→NO Q→(∀ (I':Imm) (out7:Str),o=out7→I0.le I'→T 103 B Q (.exit 6) I' [hB b (cProg p p1 c p2 c1)] [(1,vP b 0),(3,vT out7.l),(6,vI i1)])→J Tryz.prog 103 B (nav (bodyOf Tryz.f148) [1,1,1,1,0,1,0,0,1,0,0,1,1,0]) Q I [hB b (cProg p p1 c p2 c1)] [(1,vP b 0),(3,vT out6.l),(6,vI i1),(7,vI k01)]:=by
 refine uV.partial_correctness p i1 _ fun self ih out6 k01 o N B I0 I Q p1 c p2 c1 b H h h1 hg ho hx=>yT hg ho<|yC<|yF<|yB 4 [0] [71,73,74] rfl<|bE N fun x5 hy15 N=>xJ rfl rfl h1 hy15 ?_;intro ad5 ccs5 hat5 hrep5;obtain ⟨p8,c7,p9,c8,rfl,h10,h11⟩:=wW hrep5;refine yB 6 [] [76] rfl<|yX 1 hat5 [vS p9 x5.Body c8] (vS p9 x5.Body c8) rfl<|yJ [] [79] rfl<|zI<|yE N ?_ ?_
 · intro hc4 N;refine zS<|zZ<|yH<|yF<|yB 3 [0] [83,84] rfl<|bE N fun x6 hy16 N=>xJ rfl rfl h1 hy16 ?_;intro ad6 ccs6 hat6 hrep6;obtain ⟨p10,c9,p11,c10,rfl,h12,h13⟩:=wW hrep6;refine yB 5 [] [86] rfl<|yX 1 hat6 [vS p11 x6.Body c10] (vS p11 x6.Body c10) rfl<|yB 7 [] [88] rfl<|bE N fun x7 hy17 N=>xJ rfl rfl h13 hy17 ?_;intro ad7 ccs7 hat7 hrep7;obtain ⟨p12,c11,p13,c12,p14,c13,p15,c14,rfl,h14,h15,h16,h17⟩:=tG hrep7;refine yX 0 hat7 (cStmt x7 p12 c11 p13 c12 p14 c13 p15 c14) (vA (cStmt x7 p12 c11 p13 c12 p14 c13 p15 c14)) rfl<|wH [vT ([]),z0,vI 0,vI 0,z0,vI 0,vT ([]),z0,z0] ?_;intro b1 hb1;refine xI 0 (cStmt x7 p12 c11 p13 c12 p14 c13 p15 c14) rfl<|yA rfl<|zI ?_;obtain ⟨y3,hy18,N⟩:=zB N;obtain ⟨s7,hy19,N⟩:=zB N;obtain ⟨s8,hy20,N⟩:=zB N;obtain ⟨y4,hy21,N⟩:=zB N;obtain ⟨s9,hy22,N⟩:=zB N;obtain ⟨s10,hy23,N⟩:=zB N;refine wA [.p (vT out6.l) [],.p (vP b1 0) [],.p (vA (cAccess x7.Write p12 c11)) [0],.q (vT y3.l),.q (vT s7.l),.q (vT s8.l),.p (vP b1 2) [],.p (vA (cExpr x7.Value p13 c12 p14 c13 p15 c14)) [0],.q (vT y4.l),.q (vT s9.l),.q (vT s10.l)] [[],[],[(1,false)],[(2,false)],[(0,false),(3,false)],[(4,false)],[],[(6,false)],[(7,false)],[(5,false),(8,false)],[(9,false)]] [hB b1 (cStmt x7 p12 c11 p13 c12 p14 c13 p15 c14),hB b (cProg p p1 c p2 c1)] [] [(10,false)] (zY [0,1]) ?_ ?_
   · refine Op<|Op<|Op<|Oq ?_<|Oq ?_<|Oq ?_<|Op<|Op<|Oq ?_<|Oq ?_<|Oq ?_<|On
     · intro I1 hf le1;refine yN [93] rfl ?_;have H:=iS I1;have h14:=h14.mono le1;refine xQ (gH x7.Write _ hy18 h14) ?_;rintro I05 hs2 v2 k2 le5 - ⟨v016,rfl,rfl,rfl⟩ -;have H:=H.trans le5;exact yP H
     · intro I1 hf le1;exact yN [91,94] rfl<|kG rfl hy19<|yP iR
     · intro I1 hf le1;exact yN [95] rfl<|kG rfl hy20<|yP iR
     · intro I1 hf le1;refine yN [98] rfl ?_;have H:=iS I1;have ⟨h15,h16,h17⟩:=m3 le1 h15 h16 h17;refine xQ (zCN x7.Value _ hy21 h15 h16 h17) ?_;rintro I06 hs2 v2 k2 le6 - ⟨v017,rfl,rfl,rfl⟩ -;have H:=H.trans le6;exact yP H
     · intro I1 hf le1;exact yN [96,99] rfl<|kG rfl hy22<|yP iR
     intro I1 hf le1;exact yN [100] rfl<|kG rfl hy23<|yP iR
   intro I07 le7;refine yN [1,6,7,101] rfl ?_;have ⟨h,h1,H⟩:=m3 le7 h h1 H;exact yJ [] [3] rfl<|zP<|zI<|zK<|yJ [] [7] rfl<|yS<|kX (zX [1] rfl (by decide))<|nG<|ih s10 (W (k01 + 1)) _ N H h h1 hg ho hx
 intro hc4 N;exact wT<|yQ<|hx _ _ (zC N).symm H
def uW (p:zE) (out4:Str) (i1:Int):Option (Str):=do
 if (decide (i1 < (p.Parts.length:Int))) then
  let s5←cat out4 (⟨[112,97,114,116,10]⟩:Str)
  let x4←idx p.Parts i1
  let y2←fG x4.Nest
  let s6←cat s5 y2
  let out7←uV p i1 s6 0
  uW p out7 (W (i1 + 1))
 else
  pure (id out4)
 partial_fixpoint
theorem zAl (p:zE):∀ (out4:Str) (i1:Int) (o:Str),uW p out4 i1=some o→∀ {B}{I0 I:Imm}{Q p1 c p2 c1}{b:Nat},I0.le I→(S4 I p1 p.Arrays c)→(S4 I p2 p.Parts c1)→NG Q→NO Q→(∀ (I':Imm) (out5:Str),o=out5→I0.le I'→T 103 B Q (.exit 4) I' [] [(3,vT out5.l)])→J Tryz.prog 103 B (nav (bodyOf Tryz.f148) [1,1,1,1,0,1,0]) Q I [hB b (cProg p p1 c p2 c1)] [(1,vP b 0),(3,vT out4.l),(6,vI i1)]:=by
 refine uW.partial_correctness p _ fun self ih out4 i1 o N B I0 I Q p1 c p2 c1 b H h h1 hg ho hx=>yT hg ho<|yC<|yF<|yJ [0] [58] rfl<|zI<|yE N ?_ ?_
 · intro hc3 N;refine zS<|zZ<|yH<|yF<|yB 1 [] [61] rfl<|bE N fun s5 hy11 N=>kG rfl hy11<|yB 5 [0] [64,65] rfl<|bE N fun x4 hy12 N=>xJ rfl rfl h1 hy12 ?_;intro ad4 ccs4 hat4 hrep4;obtain ⟨p6,c5,p7,c6,rfl,h7,h8⟩:=wW hrep4;refine yB 7 [] [67] rfl<|yX 0 hat4 [vS p6 x4.Nest c5] (vS p6 x4.Nest c5) rfl<|bE N fun y2 hy13 N=>xQ (zGW x4.Nest _ hy13 h7) ?_;rintro I04 hs2 v2 k2 le4 - ⟨v07,rfl,rfl,rfl⟩ -;have ⟨h,h1,H⟩:=m3 le4 h h1 H;obtain ⟨s6,hy14,N⟩:=zB N;refine kG rfl hy14<|yJ [] [3] rfl<|vG [7] rfl<|xZ<|pJ [(1,vP b 0),(3,vT s6.l),(6,vI i1),(7,vI 0)] ?_;obtain ⟨o02,ho02,hMl2⟩:=zB N;refine zAk p i1 s6 0 o02 ho02 iR h h1 (fun _ _ _ h=>hg _ _ _ h) (fun _ _ h=>ho _ _ h) ?_;intro I08 out7 heq2 le8;subst o02;have ⟨h,h1,H⟩:=m3 le8 h h1 H;exact zR<|zP<|zI<|zK<|yJ [] [6] rfl<|yS<|nG<|ih out7 (W (i1 + 1)) _ hMl2 H h h1 hg ho hx
 intro hc3 N;exact wT<|xT zQ<|yQ<|hx _ _ (zC N).symm H
def oR (p:zE):Option (Str):=do
 let y←uJ p
 if (!y) then
  pure (⟨[]⟩:Str)
 else
  let out1←uU p (⟨[112,114,111,103,114,97,109,10]⟩:Str) 0
  let out5←uW p out1 0
  pure (id out5)
theorem zBo:∀ p r,oR p=some r→∀ {I:Imm}{p1 c p2 c1},(S4 I p1 p.Arrays c)→(S4 I p2 p.Parts c1)→RT 148 [vA (cProg p p1 c p2 c1)] I [] (tO  r):=by
 intro p r N I p1 c p2 c1 h h1;unfold oR at N;refine yM Tryz.func148 fun B=>yF<|vX (cProg p p1 c p2 c1) ?_;intro b hb;refine wG [] []<|zZ<|yF<|fW 1 [0] [(9,vA (cProg p p1 c p2 c1))]<|bE N fun y hy N=>vZ (gK p _ hy h h1) ?_;intro I0 le;have ⟨h,h1⟩:=m2 le h h1;refine yJ [] [11] rfl<|zI<|yE N ?_ ?_
 · intro hc N;refine yG [2] rfl<|xG<|zH ?_;obtain rfl:=zC N;exact wP
 intro hc N;refine zS<|vG [3] rfl<|zZ<|yG [4] rfl<|xZ<|pJ [(1,vP b 0),(3,vT ([112,114,111,103,114,97,109,10])),(4,vI 0)] ?_;obtain ⟨o01,ho01,hMl1⟩:=zB N;refine zAj p (⟨[112,114,111,103,114,97,109,10]⟩:Str) 0 o01 ho01 iR h h1 (fun _ _ _ h=>h) (fun _ _ h=>h) ?_;intro I03 out1 heq1 le3;subst o01;have ⟨h,h1⟩:=m2 le3 h h1;refine zR<|zZ<|yG [6] rfl<|xZ<|pJ [(1,vP b 0),(3,vT out1.l),(6,vI 0)] ?_;obtain ⟨o03,ho03,hMl3⟩:=zB hMl1;refine zAl p out1 0 o03 ho03 iR h h1 (fun _ _ _ h=>h) (fun _ _ h=>h) ?_;intro I09 out5 heq3 le9;subst o03;refine zR<|vG [2] rfl<|zI<|yW ?_;obtain rfl:=zC hMl3;exact wP
instance zKi {cs}{arr:List zF}{cs1}{raws:List Raw2}{parts:List zM}{vN:Value}{nl:List zD}{vB:Value}{bl:List zN}{csN csB:List Value}:MonoI (fun i=>L4 i cs arr cs1 raws parts vN nl vB bl csN csB):=⟨fun _ _ hl h=>h.mono hl⟩
def zBY (r:zE×Bool):KT:=fun kk I' hs' v=>
  ∃ (v0 v1:Value),hs'=[]∧v=tupV [v0,v1]∧(∃ cs,v0=.agg ⟨cs⟩∧Rp.rep I' cs r.1)∧v1=.bool r.2
def sX (y:List Str) (p:zE) (i:Int):Option zE:=do
 if (decide ((W (i + 1)) < (y.length:Int))) then
  let x←idx y i
  let p1←fF p x
  sX y p1 (W (i + 1))
 else
  pure p
 partial_fixpoint
theorem zBI (y:List Str):∀ (p:zE) (i:Int) (o:zE),sX y p i=some o→∀ {B}{I0 I:Imm}{Q}{text:Str}{pl:Option Addr}{cl:Nat}{b b1:Nat}{p1 c cs p2 c1 cs1}{raws:List Raw2}{vN vB:Value}{nl:List zD}{bl:List zN}{csN csB:List Value},I0.le I→(S4 I pl y cl)→L4 I cs p.Arrays cs1 raws p.Parts vN nl vB bl csN csB→(∀ l a w,¬Q (.goto l) a w)→(∀ a w,¬Q .outgrown a w) →
   (∀ (I':Imm) (p1:Option Addr) (c:Nat) (cs:List Value) (p2:Option Addr) (c1:Nat) (cs1:List Value) (raws:List Raw2) (vN vB:Value) (nl:List zD) (bl:List zN) (csN csB:List Value),I0.le I'→L4 I' cs o.Arrays cs1 raws o.Parts vN nl vB bl csN csB→T 37 B Q (.exit 0) I' [hO zF (vS p1 o.Arrays c) cs,hO Raw2 (vS p2 raws c1) cs1,hO zD vN csN,hO zN vB csB,hB b1 [vS p1 o.Arrays c,vS p2 raws c1],hB b zTwo] [(0,vT text.l),(2,vP b 0),(5,vP b1 0)]) →
   J Tryz.prog 37 B (nav (bodyOf Tryz.f99) [1,1,1,1,0,1,0]) Q I [hO zF (vS p1 p.Arrays c) cs,hO Raw2 (vS p2 raws c1) cs1,hO zD vN csN,hO zN vB csB,hB b1 [vS p1 p.Arrays c,vS p2 raws c1],hB b zTwo] [(0,vT text.l),(2,vP b 0),(4,vS pl y cl),(5,vP b1 0),(6,vI i)]:=by
 refine sX.partial_correctness y _ ?_
 intro self ih p i o N B I0 I Q text pl cl b b1 p1 c cs p2 c1 cs1 raws vN vB nl bl csN csB H h hQ hg ho hx
 refine yT hg ho<|yC<|yG [18] rfl<|zI<|yE N ?_ ?_
 · intro hc1 N
   refine zS<|zZ<|yH ?_
   obtain ⟨x,hy,N⟩:=zB N
   obtain ⟨q,hy1,N⟩:=zB N
   refine wA [.p (vA [vS p1 p.Arrays c,vS p2 raws c1]) [0],.p (vS pl y cl) [],.p (vI i) [],.x (fun I' v hx=>∃ ad,v=.pointer (some ad)∧hx=[]∧(At I' ad [vT x.l])),.x (fun I' v hx=>v=vT x.l∧hx=[]),.x (fun I' v hx=>∃ (p1:Option Addr) (c:Nat) (cs:List Value) (p2:Option Addr) (c1:Nat) (cs1:List Value) (raws:List Raw2) (vN vB:Value) (nl:List zD) (bl:List zN) (csN csB:List Value),v=vA [vS p1 q.Arrays c,vS p2 raws c1]∧hx=[hO zF (vS p1 q.Arrays c) cs,hO Raw2 (vS p2 raws c1) cs1,hO zD vN csN,hO zN vB csB]∧L4 I' cs q.Arrays cs1 raws q.Parts vN nl vB bl csN csB)] [[],[],[],[(1,false),(2,false)],[(3,false)],[(0,false),(4,false),(7,true)]] [hB b1 [vS p1 p.Arrays c,vS p2 raws c1],hB b zTwo] [[hO zF (vS p1 p.Arrays c) cs,hO Raw2 (vS p2 raws c1) cs1,hO zD vN csN,hO zN vB csB]] [(5,true)] (zY [4,5,0,1,2,3]) ?_ ?_
   · refine Op<|Op<|Op<|Ox ?_<|Ox ?_<|Ox (hm:=fun v hx=>by repeat' (first | exact zFU | exact zKi | refine @zIU _ _ (fun _=>?_) | refine @zH5 _ _ ?_ ?_)) ?_<|On
     · intro I1 hf le1
       refine yN [22,23] rfl<|xJ rfl rfl (h.mono le1) hy ?_
       intro ad ccs hat hrep
       obtain rfl:=hrep
       exact yI [] iR ⟨_,rfl,rfl,hat⟩
     · intro I1 hf le1
       refine xX ?_
       rintro _ _ ⟨ad,rfl,rfl,hat⟩
       exact nT<|zBh [(24,.pointer (some ad))]<|yX 0 hat [vT x.l] (vT x.l) rfl<|yP iR
     intro I1 hf le1
     refine xX ?_
     rintro _ _ ⟨rfl,rfl⟩
     refine xX ?_
     rintro _ _ ⟨rfl,rfl⟩
     refine xX ?_
     rintro _ _ rfl
     refine yN [21,25] rfl<|sE (zGT p x _ hy1 (hQ.mono le1)) rfl ?_
     rintro I02 hs2 v2 k2 le2 - ⟨p3,c2,cs2,p4,c3,cs3,raws1,vN1,vB1,nl1,bl1,csN1,csB1,rfl,rfl,hq⟩ -
     exact yI [hO zF (vS p3 q.Arrays c2) cs2,hO Raw2 (vS p4 raws1 c3) cs3,hO zD vN1 csN1,hO zN vB1 csB1] le2 ⟨_,_,_,_,_,_,_,_,_,_,_,_,_,rfl,rfl,hq⟩
   intro I04 le4
   refine xX ?_
   rintro _ _ ⟨p3,c2,cs2,p4,c3,cs3,raws1,vN1,vB1,nl1,bl1,csN1,csB1,rfl,rfl,hq⟩
   exact nT<|zBh [(0,vT text.l),(2,vP b 0),(4,vS pl y cl),(5,vP b1 0),(6,vI i),(26,vA [vS p3 q.Arrays c2,vS p4 raws1 c3])]<|xI 4 [vS p3 q.Arrays c2,vS p4 raws1 c3] rfl<|yA rfl<|zP<|zI<|zK<|yJ [] [6] rfl<|yS<|nG<|ih _ _ _ N (H.trans le4) (h.mono le4) hq hg ho hx
 intro hc1 N
 obtain rfl:=zC N
 exact wT<|yQ<|hx _ _ _ _ _ _ _ _ _ _ _ _ _ _ H hQ
def pD (text:Str):Option (zE×Bool):=do
 let y←mU text (10:UInt8)
 if (decide ((y.length:Int) > 42)) then
  pure ((zE.mk [] []),false)
 else
  let p←sX y (zE.mk [] []) 1
  let t34←(do
    if (text.l == ([]:List UInt8)) then
     pure true
    else
     let z←oR p
     pure (!(z.l == text.l))
      : Option Bool)
  if t34 then
   pure ((zE.mk [] []),false)
  else
   pure (p,true)
theorem dG:∀ text r,pD text=some r→∀ {I:Imm},RT 99 [vT text.l] I [] (zBY r):=by
 intro text r N I;unfold pD at N;refine yM Tryz.func99 fun B=>yF<|wH zTwo ?_;intro b hb;refine wG [] []<|yV<|yB 1 [] [7] rfl<|bE N fun y hy N=>xQ (zAJ text (10:UInt8) _ hy) ?_;rintro I0 hs2 v2 k2 le - ⟨v0,rfl,rfl,h⟩ -;obtain ⟨pl,cl,rfl⟩:=h.form;refine yJ [] [4] rfl<|yV<|yB 1 [] [9] rfl<|wH zTwo ?_;intro b1 hb1;refine zAf 0 zTwo [hB b1 zTwo,hB b zTwo] rfl rfl rfl rfl<|yA rfl<|zZ<|yG [12] rfl<|zI<|yE N ?_ ?_
 · intro hc N;refine yF<|fW 1 [0] [(13,vA zTwo)]<|zAf 1 zTwo [hB b1 zTwo,hB b zTwo] rfl rfl rfl rfl<|wG [] [(3,vF)]<|xG<|zH ?_;obtain rfl:=zC N;exact xA ⟨_,_,(.cell 1 rfl rfl (by kernel_rfl) (.tmp rfl ResV.nil)),zQ,⟨_,_,rfl,rfl,⟨_,rfl,(vE ⟨_,_,rfl,(SL.nil _),(SL.nil _)⟩)⟩,rfl⟩⟩
 intro hc N;refine zS<|zZ<|yG [6] rfl<|xZ<|pJ [(0,vT text.l),(2,vP b 0),(4,vS pl y cl),(5,vP b1 0),(6,vI 1)]<|kX (jX (Rp.sz zN))<|kX (jX (Rp.sz zD))<|kX (jX (Rp.sz Raw2))<|kX (jX (Rp.sz zF))<|bE N fun p hy1 N=>zBI (raws:=[]) (vN:=z0) (vB:=z0) (nl:=[]) (bl:=[]) y (zE.mk [] []) 1 p hy1 iR h ⟨RepL.nil,RepL.nil,⟨by decide,rfl,.inl ⟨rfl,rfl⟩⟩,RepL.nil,RepL.nil⟩ (fun _ _ _ h=>h) (fun _ _ h=>h) fun I1 p1 c cs p2 c1 cs1 raws vN vB nl bl csN csB le1 hQ=>yY 2 rfl ?_;intro I2 le2 hl2;have kN:=SL.of_frozen hl2 le2 hQ.n;have hQ:=hQ.mono le2;refine yY 2 rfl ?_;intro I3 le3 hl3;have kB:=SL.of_frozen hl3 le3 hQ.b;replace kN:=kN.mono le3;have hQ:=hQ.mono le3;refine yY 0 rfl ?_;intro I4 le4 hl4;have kA:=SL.of_frozen hl4 le4 hQ.arr;replace kN:=kN.mono le4;replace kB:=kB.mono le4;have hQ:=hQ.mono le4;refine yY 0 rfl ?_;intro I5 le5 hl5;have kP:SL I5 (vS p2 raws c1) p.Parts:=⟨cs1,hl5,by
   rw [jM hQ.raw];exact (hQ.lp.done kN kB).mono fun _ _=>Rp.mono le5⟩
 have e0:vS p2 raws c1=vS p2 p.Parts c1:=by simp only [vS,hQ.lp.2.1]
 rw [e0] at kP ⊢;clear e0 hl5 hl4 hl3 hl2 hQ;replace kA:=kA.mono le5;refine zR<|zZ<|yC<|bE N fun t34 ht N=>qL (K1 t34 I5 [hB b1 (cProg p p1 c p2 c1),hB b zTwo] fun o=>[(2,vP b 0),(5,vP b1 0),(34,.bool o)]) ?_ ?_
 · refine zK<|fW 3 [] [(29,.bool (text.l == ([]:List UInt8)))] ?_;cases hc2:(text.l == ([]:List UInt8)) with
   | true =>
    have hM0:=wV hc2 ht;exact wG [] [(34,vY)]<|yQ<|zT ⟨_,(zC hM0).symm,Imm.le.refl _,rfl,rfl⟩
   | false =>
    have hM0:=wB hc2 ht;obtain ⟨z,hz,hM0⟩:=zB hM0;refine fW 4 [0] [(30,vA (cProg p p1 c p2 c1))]<|xQ (zBo p _ hz kA kP) ?_;rintro I6 hs2 v2 k2 le6 - ⟨v0,rfl,rfl,rfl⟩ -;exact yJ [] [34] rfl<|yQ<|zT (ct hM0 le6)
 rintro I6 hs2 m2 ⟨o,rfl,le6,rfl,rfl⟩;replace kA:=kA.mono le6;replace kP:=kP.mono le6;refine zI<|yE N ?_ ?_
 · intro hc2 N;refine yF<|yB 1 [] [35] rfl<|zAf 1 zTwo [hB b1 (cProg p p1 c p2 c1),hB b zTwo] rfl rfl rfl rfl<|wG [] [(3,vF)]<|xG<|zH ?_;obtain rfl:=zC N;exact xA ⟨_,_,(.cell 1 rfl rfl (by kernel_rfl) (.tmp rfl ResV.nil)),zQ,⟨_,_,rfl,rfl,⟨_,rfl,(vE ⟨_,_,rfl,(SL.nil _),(SL.nil _)⟩)⟩,rfl⟩⟩
 intro hc2 N;refine zS<|yV<|fW 1 [0] [(36,vA (cProg p p1 c p2 c1))]<|xI 1 (cProg p p1 c p2 c1) rfl<|wG [] [(3,vY)]<|zI<|yW ?_;obtain rfl:=zC N;exact xA ⟨_,_,(.cell 1 rfl rfl (by kernel_rfl) (.tmp rfl ResV.nil)),zQ,⟨_,_,rfl,rfl,⟨_,rfl,(vE ⟨_,_,rfl,kA,kP⟩)⟩,rfl⟩⟩
def zEw (r:(List zF)):KT:=fun kk I' hs' v=>
  ∃ v0,hs'=[]∧v=tupV [v0]∧SL I' v0 r
def mY :Option ((List zF)):=do
 pure ([(zF.mk (⟨[65]⟩:Str) ([6]:List Int)),(zF.mk (⟨[66]⟩:Str) ([4,5]:List Int)),(zF.mk (⟨[67]⟩:Str) ([3]:List Int))]:List zF)
theorem eF:∀ r,mY =some r→∀ {I:Imm} ,RT 130 [] I [] (zEw  r):=by
 intro  r N I;unfold mY at N;refine yM Tryz.func130 fun B=>vJ []<|yV<|tH [vI 6] Int ?_;intro b hb;have h:RL I [vI 6] ([6]:List Int):=rI [6];refine yB 2 [] [2] rfl<|tH [vI 4,vI 5] Int ?_;intro b1 hb1;have h1:RL I [vI 4,vI 5] ([4,5]:List Int):=rI [4,5];refine yB 4 [] [4] rfl<|tH [vI 3] Int ?_;intro b2 hb2;have h2:RL I [vI 3] ([3]:List Int):=rI [3];refine yB 6 [] [6] rfl<|xP 2 rfl ?_;intro I0 le hl0;have h3:=SL.of_frozen hl0 le h;have ⟨h1,h2⟩:=m2 le h1 h2;refine xP 1 rfl ?_;intro I01 le1 hl01;have h4:=SL.of_frozen hl01 le1 h1;have ⟨h3,h2⟩:=m2 le1 h3 h2;refine xP 0 rfl ?_;intro I02 le2 hl02;have h5:=SL.of_frozen hl02 le2 h2;have ⟨h3,h4⟩:=m2 le2 h3 h4;refine tH [vT ([65]),vS (some ⟨b,0,none⟩) ([6]:List Int) 1,vT ([66]),vS (some ⟨b1,0,none⟩) ([4,5]:List Int) 2,vT ([67]),vS (some ⟨b2,0,none⟩) ([3]:List Int) 1] zF ?_;intro b3 hb3;have h6:RL I02 [vT ([65]),vS (some ⟨b,0,none⟩) ([6]:List Int) 1,vT ([66]),vS (some ⟨b1,0,none⟩) ([4,5]:List Int) 2,vT ([67]),vS (some ⟨b2,0,none⟩) ([3]:List Int) 1] ([(zF.mk (⟨[65]⟩:Str) ([6]:List Int)),(zF.mk (⟨[66]⟩:Str) ([4,5]:List Int)),(zF.mk (⟨[67]⟩:Str) ([3]:List Int))]:List zF):=⟨[vT ([65]),vS (some ⟨b,0,none⟩) ([6]:List Int) 1],_,rfl,rfl,(pE ⟨_,rfl,h3⟩),⟨[vT ([66]),vS (some ⟨b1,0,none⟩) ([4,5]:List Int) 2],_,rfl,rfl,(pE ⟨_,rfl,h4⟩),⟨[vT ([67]),vS (some ⟨b2,0,none⟩) ([3]:List Int) 1],_,rfl,rfl,(pE ⟨_,rfl,h5⟩),rfl⟩⟩⟩;refine yJ [] [0] rfl<|xG<|yY 0 rfl ?_;intro I03 le3 hl03;have h7:=SL.of_frozen hl03 le3 h6;obtain rfl:=zC N;exact xA ⟨_,_,(.tmp rfl ResV.nil),zQ,⟨_,rfl,rfl,h7⟩⟩
def rF (a0:zA) (x:Int) (b:zA) (y:Int) (i:Int) (Coefs:List Int):Option (List Int):=do
 if (decide (i < 4)) then
  let x1←idx a0.Coefs i
  let x2←idx b.Coefs i
  let l←app 8 Coefs ([(W ((W (x * x1)) + (W (y * x2))))]:List Int)
  rF a0 x b y (W (i + 1)) l
 else
  pure (id Coefs)
 partial_fixpoint
theorem zCR (a0:zA) (x:Int) (b:zA) (y:Int):∀ (i:Int) (Coefs:List Int) (o:List Int),rF a0 x b y i Coefs=some o→∀ {B}{I0 I:Imm}{Q p c p1 c1}{b1:Nat}{b2:Nat}{b3:Nat}{b4:Nat}{p2 c2 cs},I0.le I→(S4 I p1 b.Coefs c1)→(S4 I p a0.Coefs c)→(RL I cs Coefs)→NG Q→NO Q→(∀ (I':Imm) (Coefs1:List Int) (p3:Option Addr) (c3:Nat) (cs1:List Value),o=Coefs1→I0.le I'→(RL I' cs1 Coefs1)→T 46 B Q (.exit 0) I' [hO Int (vS p3 Coefs1 c3) cs1,hB b4 [vS p3 Coefs1 c3,vI (W ((W (x * a0.Const)) + (W (y * b.Const))))],hB b3 [z0,vI 0]] [(8,vP b3 0),(9,vP b4 0)])→J Tryz.prog 46 B (nav (bodyOf Tryz.f250) [1,1,0,1,0]) Q I [hO Int (vS p2 Coefs c2) cs,hB b4 [vS p2 Coefs c2,vI (W ((W (x * a0.Const)) + (W (y * b.Const))))],hB b3 [z0,vI 0],hB b2 (cAff b p1 c1),hB b1 (cAff a0 p c)] [(1,vI x),(3,vI y),(4,vP b1 0),(6,vP b2 0),(8,vP b3 0),(9,vP b4 0),(10,vI i)]:=by
 refine rF.partial_correctness a0 x b y _ fun self ih i Coefs o N B I0 I Q p c p1 c1 b1 b2 b3 b4 p2 c2 cs H h1 h h3 hg ho hx=>yT hg ho<|yC<|yG [22] rfl<|zI<|yE N ?_ ?_
 · intro hc N;refine zS<|zZ<|yH ?_;obtain ⟨x1,hy,N⟩:=zB N;obtain ⟨x2,hy1,N⟩:=zB N;obtain ⟨l,hy2,N⟩:=zB N;refine wA [.p (vP b4 0) [],.p (vS p2 Coefs c2) [0],.p (vI x) [],.p (vP b1 0) [],.p (vS p a0.Coefs c) [3],.p (vI i) [],.x (fun I' v hx=>∃ ad,v=.pointer (some ad)∧hx=[]∧(At I' ad [vI x1])),.q (vI x1),.p (vI (W (x * x1))) [],.p (vI y) [],.p (vP b2 0) [],.p (vS p1 b.Coefs c1) [2],.p (vI i) [],.x (fun I' v hx=>∃ ad1,v=.pointer (some ad1)∧hx=[]∧(At I' ad1 [vI x2])),.q (vI x2),.p (vI (W (y * x2))) [],.p (vI (W ((W (x * x1)) + (W (y * x2))))) [],.x (fun I' v hx=>∃ b5,v=vS (some ⟨b5,0,none⟩) ([(W ((W (x * x1)) + (W (y * x2))))]:List Int) 1∧hx=[]∧(SL I' (vS (some ⟨b5,0,none⟩) ([(W ((W (x * x1)) + (W (y * x2))))]:List Int) 1) ([(W ((W (x * x1)) + (W (y * x2))))]:List Int))),.x (fun I' v hx=>∃ p4 c4 cs2,v=vS p4 l c4∧hx=[hO Int (vS p4 l c4) cs2]∧(RL I' cs2 l))] [[],[(0,false)],[],[],[(3,false)],[],[(4,false),(5,false)],[(6,false)],[(2,false),(7,false)],[],[],[(10,false)],[],[(11,false),(12,false)],[(13,false)],[(9,false),(14,false)],[(8,false),(15,false)],[(16,false)],[(1,false),(17,false),(21,true)]] [hB b4 [vS p2 Coefs c2,vI (W ((W (x * a0.Const)) + (W (y * b.Const))))],hB b3 [z0,vI 0],hB b2 (cAff b p1 c1),hB b1 (cAff a0 p c)] [[hO Int (vS p2 Coefs c2) cs]] [(18,true)] (zY [1,2,3,4,0]) ?_ ?_
   · refine Op<|Op<|Op<|Op<|Op<|Op<|Ox ?_<|Oq ?_<|Op<|Op<|Op<|Op<|Op<|Ox ?_<|Oq ?_<|Op<|Op<|Ox ?_<|Ox ?_<|On
     · intro I1 hf le1;refine yN [29,30] rfl ?_;have h:=h.mono le1;refine xJ rfl rfl h hy ?_;intro ad ccs hat hrep;obtain rfl:=hrep;exact yI [] iR ⟨_,rfl,rfl,hat⟩
     · rintro I1 hf le1 _ _ ⟨ad,rfl,rfl,hat⟩;exact yN [31] rfl<|yX 0 hat [vI x1] (vI x1) rfl<|yP iR
     · intro I1 hf le1;refine yN [36,37] rfl ?_;have h1:=h1.mono le1;refine xJ rfl rfl h1 hy1 ?_;intro ad1 ccs1 hat1 hrep1;obtain rfl:=hrep1;exact yI [] iR ⟨_,rfl,rfl,hat1⟩
     · rintro I1 hf le1 _ _ ⟨ad1,rfl,rfl,hat1⟩;exact yN [38] rfl<|yX 0 hat1 [vI x2] (vI x2) rfl<|yP iR
     · intro I1 hf le1;refine yN [41] rfl ?_;have H:=iS I1;refine nQ (rI [(W ((W (x * x1)) + (W (y * x2))))]) ?_;intro b5 I0 le h6;have H:=H.trans le;exact yI [] H ⟨_,rfl,rfl,h6⟩
     rintro I1 hf le1 _ _ ⟨rfl,rfl⟩ _ _ ⟨b5,rfl,rfl,h6⟩ _ _ rfl;refine yN [26,42] rfl ?_;have h3:=iM le1 h3;obtain ⟨ccs2,k0,k01⟩:=h6;have h6:SL I1 (vS (some ⟨b5,0,none⟩) ([(W ((W (x * x1)) + (W (y * x2))))]:List Int) 1) ([(W ((W (x * x1)) + (W (y * x2))))]:List Int):=⟨_,k0,k01⟩;exact qI 3 1 0 rfl rfl rfl h3 (.inl k0) k01 hy2 fun p4 c4 cs2 h7=>vH (hs':=(hO Int (vS p4 l c4) cs2::hB b4 [vS p2 Coefs c2,vI (W ((W (x * a0.Const)) + (W (y * b.Const))))]::hB b3 [z0,vI 0]::hB b2 (cAff b p1 c1)::hB b1 (cAff a0 p c)::hf)) rfl<|yI [hO Int (vS p4 l c4) cs2] iR ⟨_,_,_,rfl,rfl,h7⟩
   rintro I01 le1 _ _ ⟨p4,c4,cs2,rfl,rfl,h7⟩;refine yN [1,3,4,6,8,9,10,43] rfl ?_;have ⟨h1,h,H⟩:=m3 le1 h1 h H;exact yB 20 [] [44] rfl<|xI 1 [vS p4 l c4,vI (W ((W (x * a0.Const)) + (W (y * b.Const))))] rfl<|yA rfl<|zP<|zI<|zK<|yJ [] [10] rfl<|yS<|nG<|ih (W (i + 1)) l _ N H h1 h h7 hg ho hx
 intro hc N;exact wT<|xT (zX [0,1,2] rfl (by decide))<|yQ<|hx _ _ _ _ _ (zC N).symm H h3
def nP (a0:zA) (x:Int) (b:zA) (y:Int):Option (zA):=do
 let Coefs1←rF a0 x b y 0 ([]:List Int)
 pure (zA.mk Coefs1 (W ((W (x * a0.Const)) + (W (y * b.Const)))))
theorem zA6:∀ a0 x b y r,nP a0 x b y=some r→∀ {I:Imm}{p c p1 c1},(S4 I p a0.Coefs c)→(S4 I p1 b.Coefs c1)→RT 250 [vA (cAff a0 p c),vI x,vA (cAff b p1 c1),vI y] I [] (jF  r):=by
 intro a0 x b y r N I p c p1 c1 h h1;unfold nP at N;refine yM Tryz.func250 fun B=>yF<|vX (cAff a0 p c) ?_;intro b1 hb;refine vX (cAff b p1 c1) ?_;intro b2 hb1;refine wH [z0,vI 0] ?_;intro b3 hb2;refine yA rfl<|yV<|fW 10 [2,1] [(20,vA [z0,vI (W ((W (x * a0.Const)) + (W (y * b.Const))))])]<|wH [z0,vI 0] ?_;intro b4 hb3;refine xI 0 [z0,vI (W ((W (x * a0.Const)) + (W (y * b.Const))))] rfl<|yA rfl<|zZ<|yG [10] rfl<|xZ<|pJ [(1,vI x),(3,vI y),(4,vP b1 0),(6,vP b2 0),(8,vP b3 0),(9,vP b4 0),(10,vI 0)]<|zAE Int fun h2=>?_;obtain ⟨o0,ho0,hMl⟩:=zB N;refine zCR a0 x b y 0 ([]:List Int) o0 ho0 iR h1 h h2 (fun _ _ _ h=>h) (fun _ _ h=>h) ?_;intro I02 Coefs1 p3 c3 cs1 heq le2 h4;subst o0;refine zR<|yV<|fW 1 [1] [(45,vA [vS p3 Coefs1 c3,vI (W ((W (x * a0.Const)) + (W (y * b.Const))))])]<|xI 2 [vS p3 Coefs1 c3,vI (W ((W (x * a0.Const)) + (W (y * b.Const))))] rfl<|yA rfl<|xG<|yY 0 rfl ?_;intro I03 le3 hl01;have h8:=SL.of_frozen hl01 le3 h4;obtain rfl:=zC hMl;exact xA ⟨_,_,(.cell 1 rfl rfl (by kernel_rfl) ResV.nil),zQ,⟨_,rfl,rfl,⟨_,rfl,(yO ⟨_,rfl,h8⟩)⟩⟩⟩
end Go.LN
