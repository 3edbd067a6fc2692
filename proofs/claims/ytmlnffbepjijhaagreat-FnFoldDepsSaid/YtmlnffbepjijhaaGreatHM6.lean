/- Helper of the proof (see the last text). -/
import Derived.Test.YtmlnffbepjijhaaGreatHM5
set_option linter.unusedVariables false
set_option linter.unusedSimpArgs false
namespace Go.LN
open Go.Proofs Go.Proofs.Tryz
set_option maxRecDepth 20000
def zGr (r:zH):KT:=fun kk I' ah v=>
  ∃ (a0:Option Addr) (c0:Nat) (s0:List Value) (a1:Option Addr) (c1:Nat) (s1:List Value) (aj:List Raw2) (vN vB:Value) (nl:List zF) (bl:List zG) (csN csB:List Value),
    ah=[hO zD (vS a0 r.Arrays c0) s0,hO Raw2 (vS a1 aj c1) s1,hO zF vN csN,hO zG vB csB]/\v=tupV [vA [vS a0 r.Arrays c0,vS a1 aj c1]]/\L4 I' s0 r.Arrays s1 aj r.Parts vN nl vB bl csN csB
def zAW (p:zH) (line:Str):Option (zH):=do
 let y<-gO line;let t17<-(do
   if (decide ((y.length:Int)>0)) then
    let x<-idx y 0;pure (x.l==([97,114,114,97,121]:List UInt8))
   else
    pure false
     : Option Bool)
 if t17 then
  let y1<-zAC y;let l<-app 40 p.Arrays ([y1]:List zD);pure (zH.mk l p.Parts)
 else
  if (line.l==([112,97,114,116]:List UInt8)) then
   let l1<-app 48 p.Parts ([(zL.mk ([]:List zF) ([]:List zG))]:List zL);pure (zH.mk p.Arrays l1)
  else
   let t43<-(do
     if (decide ((W ((p.Parts.length:Int) - 1))>=0)) then
      if (decide ((y.length:Int)>0)) then
       let x1<-idx y 0;pure (x1.l==([102,111,114]:List UInt8))
      else pure false
     else
      pure false
       : Option Bool)
   if t43 then
    let x2<-idx p.Parts (W ((p.Parts.length:Int) - 1));let y2<-zAV line;let l2<-app 48 x2.Nest ([y2]:List zF);pure (zH.mk p.Arrays (p.Parts.set (W ((p.Parts.length:Int) - 1)).toNat (zL.mk l2 x2.Body)))
   else
    if (decide ((W ((p.Parts.length:Int) - 1))>=0)) then
     let x4<-idx p.Parts (W ((p.Parts.length:Int) - 1));let (y4,y5)<-jP line;let l3<-app 152 x4.Body ([y4]:List zG);pure (zH.mk p.Arrays (p.Parts.set (W ((p.Parts.length:Int) - 1)).toNat (zL.mk x4.Nest l3)))
    else pure (id p)
theorem zIP:∀ p line r,zAW p line=some r->∀ {I:Imm}{p1 c cs p2 c1 aw}{aj:List Raw2}{vN vB:Value}{nl:List zF}{bl:List zG}{csN csB:List Value},
    L4 I cs p.Arrays aw aj p.Parts vN nl vB bl csN csB->RT 134 [vA [vS p1 p.Arrays c,vS p2 aj c1],vT line.l] I [hO zD (vS p1 p.Arrays c) cs,hO Raw2 (vS p2 aj c1) aw,hO zF vN csN,hO zG vB csB] (zGr r):=by
 intro p line r N I p1 c cs p2 c1 aw aj vN vB nl bl csN csB hQ
 unfold zAW at N
 simp only [hQ.lp.len] at N
 refine yJ func134 fun B=>yA<|vD [vS p1 p.Arrays c,vS p2 aj c1] ?_
 intro b hb
 refine xU zTwo ?_
 intro b1 hb1
 refine zU rfl<|yT<|yD 1 [] [11] rfl ?_
 obtain ⟨y,hy,N⟩:=zB N
 refine xJ (zCe line _ hy ) ?_
 rintro I0 av v2 k2 le - ⟨v0,rfl,rfl,h2⟩ -
 have hQ:=hQ.mono le
 obtain ⟨p3,c2,rfl⟩:=h2.form
 refine yL [] [5] rfl<|yT<|yL [1] [6] rfl<|zZ<|yH<|yC ?_
 obtain ⟨o0,az,N⟩:=zB N
 refine nT (K1 o0 I0 [hB b1 zTwo,hB b [vS p1 p.Arrays c,vS p2 aj c1],hO zD (vS p1 p.Arrays c) cs,hO Raw2 (vS p2 aj c1) aw,hO zF vN csN,hO zG vB csB] fun t17=>[(1,vT line.l),(2,vP b 0),(4,vP b1 0),(5,vS p3 y c2),(6,vI (W ((aj.length:Int) - 1))),(17,.bool t17)]) ?_ ?_
 · refine zM<|yD 4 [] [21] rfl ?_
   cases hc:(decide ((y.length:Int)>0)) with
   | true =>
    have hM0:=qN hc az
    refine yD 5 [] [22] rfl ?_
    obtain ⟨x,ax,N⟩:=zB hM0
    refine wA rfl rfl h2 ax ?_
    intro ad aK ap al
    obtain rfl:=al
    exact xP 0 ap [vT x.l] (vT x.l) rfl<|yL [] [17] rfl<|yQ<|zT ⟨_,(zE N).symm,Imm.le.refl _,rfl,rfl⟩
   | false =>
    have hM01:=rE hc az
    exact wT [] [(17,vF)]<|yQ<|zT ⟨_,(zE hM01).symm,Imm.le.refl _,rfl,rfl⟩
 rintro aR av m2 ⟨t17,heq,ae,rfl,rfl⟩
 subst o0
 have h2:=h2.mono ae
 have hQ:=hQ.mono ae
 refine zK<|yE N ?_ ?_
 · intro aH N
   obtain ⟨y1,aE,N⟩:=zB N
   obtain ⟨l,bj,N⟩:=zB N
   refine wV [.p (vP b 0) [],.p (vS p1 p.Arrays c) [1],.p (vS p3 y c2) [],.x (eVArr y1),.x (fun I' v hx=>∃ b2,v=vS (some ⟨b2,0,none⟩) ([y1]:List zD) 1/\hx=[]/\(SL I' (vS (some ⟨b2,0,none⟩) ([y1]:List zD) 1) ([y1]:List zD))),.x (fun I' v hx=>∃ p5 c4 aO,v=vS p5 l c4/\hx=[hO zD (vS p5 l c4) aO]/\(RL I' aO l))] [[],[(0,false)],[],[(2,false)],[(3,false)],[(1,false),(4,false),(8,true)]] [hB b1 zTwo,hB b [vS p1 p.Arrays c,vS p2 aj c1],hO Raw2 (vS p2 aj c1) aw,hO zF vN csN,hO zG vB csB] [[hO zD (vS p1 p.Arrays c) cs]] [(5,true)] (zY [0,1,3,4,5,2]) ?_ ?_
   · refine O3<|Ox ?_<|Ox ?_<|Ox ?_<|On
     · intro I1 hf ae
       refine xD [29] rfl<|xJ (zH1 y _ aE (h2.mono ae)) ?_
       rintro aV av v2 k2 aB - ⟨v01,rfl,rfl,⟨aU,rfl,h3⟩⟩ -
       obtain ⟨v02,rfl,h4⟩:=zDR h3
       obtain ⟨p4,c3,rfl⟩:=h4.form
       exact yM [] aB ⟨_,_,rfl,rfl,h4⟩
     · intro I1 hf ae
       refine wY ?_
       rintro _ _ ⟨p4,c3,rfl,rfl,h4⟩
       refine xD [30] rfl<|tK (cArr y1 p4 c3) zD ?_
       intro b2 hb2
       have h5:RL I1 (cArr y1 p4 c3) ([y1]:List zD):=⟨(cArr y1 p4 c3),_,rfl,rfl,(uL ⟨_,rfl,h4⟩),rfl⟩
       refine wC 0 rfl ?_
       intro bv aF hl0
       exact yM [] aF ⟨_,rfl,rfl,SL.of_frozen hl0 aF h5⟩
     intro I1 hf ae
     refine wY ?_
     rintro _ _ ⟨rfl,rfl⟩
     refine wY ?_
     rintro _ _ ⟨b2,rfl,rfl,h6⟩
     refine wY ?_
     rintro _ _ rfl
     refine xD [28,31] rfl ?_
     obtain ⟨bo,k0,k01⟩:=h6
     refine qA 60 2 0 rfl rfl rfl (hQ.mono ae).arr (.inl k0) k01 bj ?_
     intro p5 c4 aO h7
     exact vQ (ah:=(hO zD (vS p5 l c4) aO::(hB b1 zTwo::hB b [vS p1 p.Arrays c,vS p2 aj c1]::hO Raw2 (vS p2 aj c1) aw::hO zF vN csN::hO zG vB csB::hf))) rfl<|yM [hO zD (vS p5 l c4) aO] iR ⟨_,_,_,rfl,rfl,h7⟩
   intro bH aX
   refine wY ?_
   rintro _ _ ⟨p5,c4,aO,rfl,rfl,h7⟩
   refine xD [2,4,32] rfl ?_
   have hQ:=hQ.mono aX
   refine yD 7 [] [33] rfl<|yS 2 [vS p5 l c4,vS p2 aj c1] rfl<|zU rfl<|zP<|yT<|vU 1 [2] [(98,vA [vS p5 l c4,vS p2 aj c1])]<|yS 1 [vS p5 l c4,vS p2 aj c1] rfl<|zU rfl<|zK<|xF ?_
   obtain rfl:=zE N
   exact zHO (resC 1 rfl rfl) (zW [0,3,4,5] rfl (by decide)) ⟨_,_,_,_,_,_,_,_,_,_,_,_,_,rfl,rfl,⟨h7,hQ.raw,hQ.lp,hQ.n,hQ.b⟩⟩
 intro aH N
 refine yI [34] rfl<|zK<|yE N ?_ ?_
 · intro bf N
   refine oJ 4 rfl ?_
   intro bO bi hl5
   have kN:=SL.of_frozen hl5 bi hQ.n
   have hQ:=hQ.mono bi
   refine oJ 4 rfl ?_
   intro I06 bB hl6
   have kB:=SL.of_frozen hl6 bB hQ.b
   replace kN:=kN.mono bB
   have hQ:=hQ.mono bB
   obtain ⟨l1,bt,N⟩:=zB N
   have bD:=zFd (l':=aj) (m':=[(⟨z0,z0⟩:Raw2)]) bt hQ.lp.2.1 rfl
   have hLP:=hQ.lp.part kN kB bt
   refine zM<|vQ (ah:=[hB b1 zTwo,hB b [vS p1 p.Arrays c,vS p2 aj c1],hO zD (vS p1 p.Arrays c) cs,hO Raw2 (vS p2 aj c1) aw]) rfl<|vU 3 [1] [(38,vS p2 aj c1),(39,vA zTwo)]<|tK zTwo Raw2 ?_
   intro b3 hb3
   have h8:RL I06 zTwo [(⟨z0,z0⟩:Raw2)]:=⟨zTwo,[],rfl,rfl,⟨rfl,rfl,rfl⟩,rfl⟩
   refine qA 85 2 4 rfl rfl rfl hQ.raw (.inr ⟨0,rfl⟩) h8 bD ?_
   intro p6 c5 bw h9
   refine tU (zY [1,2,3,4] (ah:=[hB b1 zTwo,hB b [vS p1 p.Arrays c,vS p2 aj c1],hO zD (vS p1 p.Arrays c) cs,hO Raw2 (vS p6 (aj++[(⟨z0,z0⟩:Raw2)]) c5) bw]))<|yD 6 [] [42] rfl<|yS 1 [vS p1 p.Arrays c,vS p6 (aj++[(⟨z0,z0⟩:Raw2)]) c5] rfl<|zU rfl<|zP<|yT<|vU 1 [1] [(98,vA [vS p1 p.Arrays c,vS p6 (aj++[(⟨z0,z0⟩:Raw2)]) c5])]<|yS 0 [vS p1 p.Arrays c,vS p6 (aj++[(⟨z0,z0⟩:Raw2)]) c5] rfl<|zU rfl<|xL<|wH (fS (Rp.sz zG))<|wH (fS (Rp.sz zF)) ?_
   obtain rfl:=zE N
   exact zHO (resC 2 rfl rfl) (zW [4,5,0,1] rfl (by decide)) ⟨_,_,_,_,_,_,_,_,_,_,_,_,_,rfl,rfl,⟨hQ.arr,h9,hLP,RepL.nil,RepL.nil⟩⟩
 intro bf N
 refine yC ?_
 obtain ⟨aL,aC,N⟩:=zB N
 refine nT (K1 aL aR [hB b1 zTwo,hB b [vS p1 p.Arrays c,vS p2 aj c1],hO zD (vS p1 p.Arrays c) cs,hO Raw2 (vS p2 aj c1) aw,hO zF vN csN,hO zG vB csB] fun t43=>[(1,vT line.l),(2,vP b 0),(4,vP b1 0),(6,vI (W ((aj.length:Int) - 1))),(43,.bool t43)]) ?_ ?_
 · refine zM<|yD 3 [] [46] rfl ?_
   cases bG:(decide ((W ((aj.length:Int) - 1))>=0)) with
   | true =>
    have hM02:=qN bG aC
    refine yD 8 [] [51] rfl ?_
    cases bN:(decide ((y.length:Int)>0)) with
    | true =>
     have hM03:=qN bN hM02
     refine yD 9 [] [52] rfl ?_
     obtain ⟨x1,bD,N⟩:=zB hM03
     refine wA rfl rfl h2 bD ?_
     intro ad1 bR ay aA
     obtain rfl:=aA
     exact xP 0 ay [vT x1.l] (vT x1.l) rfl<|yL [] [43] rfl<|yQ<|zT ⟨_,(zE N).symm,Imm.le.refl _,rfl,rfl⟩
    | false =>
     have hM04:=rE bN hM02
     exact wT [] [(43,vF)]<|yQ<|zT ⟨_,(zE hM04).symm,Imm.le.refl _,rfl,rfl⟩
   | false =>
    have hM05:=rE bG aC
    exact wT [] [(43,vF)]<|yQ<|zT ⟨_,(zE hM05).symm,Imm.le.refl _,rfl,rfl⟩
 rintro bO av m2 ⟨t43,heq1,bi,rfl,rfl⟩
 subst aL
 have hQ:=hQ.mono bi
 refine zK<|yE N ?_ ?_
 · intro hc5 N
   refine yA<|yD 3 [1] [58,59] rfl ?_
   obtain ⟨x2,hy6,N⟩:=zB N
   obtain ⟨rfl,hyr,hset⟩:=hQ.lp.last hy6
   refine jH 3 rfl rfl rfl hQ.raw hyr ?_
   intro ad2 ccs3 bq bJ bu
   obtain ⟨rfl,o1,o2⟩:=bu
   refine zEV 3 0 bq bJ [vN,vB] (vA [vN,vB]) rfl rfl<|xU zTwo ?_
   intro b4 hb4
   refine zOO 0 [vN,vB] (hB b4 [vN,vB]::[hB b1 zTwo,hB b [vS p1 p.Arrays c,vS p2 aj c1],hO zD (vS p1 p.Arrays c) cs,hO Raw2 (vS p2 aj c1) aw,hO zF vN csN,hO zG vB csB]) rfl rfl rfl rfl (by simp [Value.cells,o1,o2])<|zU rfl<|zK<|yC ?_
   obtain ⟨y2,hy7,N⟩:=zB N
   obtain ⟨l2,hy8,N⟩:=zB N
   refine wV [.p (vP b4 0) [],.p vN [0],.p (vT line.l) [],.x (eVLoop y2),.x (fun I' v hx=>∃ b5,v=vS (some ⟨b5,0,none⟩) ([y2]:List zF) 1/\hx=[]/\(SL I' (vS (some ⟨b5,0,none⟩) ([y2]:List zF) 1) ([y2]:List zF))),.x (fun I' v hx=>∃ aI aP aO,v=vS aI l2 aP/\hx=[hO zF (vS aI l2 aP) aO]/\(RL I' aO l2))] [[],[(0,false)],[],[(2,false)],[(3,false)],[(1,false),(4,false),(8,true)]] [hB b4 [vN,vB],hB b1 zTwo,hB b [vS p1 p.Arrays c,vS p2 aj c1],hO zD (vS p1 p.Arrays c) cs,hO Raw2 (vS p2 aj c1) aw,hO zG vB csB] [[hO zF vN csN]] [(5,true)] (zY [0,1,2,3,4,6,5]) ?_ ?_
   · refine O3<|Ox ?_<|Ox ?_<|Ox ?_<|On
     · intro I1 hf ae
       refine xD [64] rfl<|xJ (zIO line _ hy7 ) ?_
       rintro I06 av v2 k2 bB - ⟨v05,rfl,rfl,⟨bC,rfl,h12⟩⟩ -
       obtain ⟨v06,v07,rfl,h13,h14⟩:=zDf h12
       obtain ⟨p9,c8,rfl⟩:=h13.form
       obtain ⟨aM,c9,rfl⟩:=h14.form
       exact yM [] bB ⟨_,_,_,_,rfl,rfl,h13,h14⟩
     · intro I1 hf ae
       refine wY ?_
       rintro _ _ ⟨p9,c8,aM,c9,rfl,rfl,h13,h14⟩
       refine xD [65] rfl<|tK (cLoop y2 p9 c8 aM c9) zF ?_
       intro b5 hb5
       have h15:RL I1 (cLoop y2 p9 c8 aM c9) ([y2]:List zF):=⟨(cLoop y2 p9 c8 aM c9),_,rfl,rfl,(uM ⟨_,_,rfl,h13,h14⟩),rfl⟩
       refine wC 0 rfl ?_
       intro I07 le7 hl01
       exact yM [] le7 ⟨_,rfl,rfl,SL.of_frozen hl01 le7 h15⟩
     intro I1 hf ae
     refine wY ?_
     rintro u _ ⟨hu,rfl⟩
     have hu:=hu.symm
     subst hu
     refine wY ?_
     rintro _ _ ⟨b5,rfl,rfl,h16⟩
     refine wY ?_
     rintro _ _ rfl
     refine xD [63,66] rfl ?_
     obtain ⟨ccs4,k0,k01⟩:=h16
     refine qA 130 2 0 rfl rfl rfl (hQ.mono ae).n (.inl k0) k01 hy8 ?_
     intro aI aP aO h17
     exact vQ (ah:=(hO zF (vS aI l2 aP) aO::(hB b4 [vN,vB]::hB b1 zTwo::hB b [vS p1 p.Arrays c,vS p2 aj c1]::hO zD (vS p1 p.Arrays c) cs::hO Raw2 (vS p2 aj c1) aw::hO zG vB csB::hf))) rfl<|yM [hO zF (vS aI l2 aP) aO] iR ⟨_,_,_,rfl,rfl,h17⟩
   intro I08 le8
   refine wY ?_
   rintro _ _ ⟨aI,aP,aO,rfl,rfl,h17⟩
   refine xD [2,4,6,7,67] rfl ?_
   have hQ:=hQ.mono le8
   refine yD 7 [] [68] rfl<|yS 1 [vS aI l2 aP,vB] rfl<|zU rfl<|zK<|zM<|vU 4 [3,1] [(70,vS p2 aj c1),(71,vI (W ((aj.length:Int) - 1))),(72,vA [vS aI l2 aP,vB])]<|jH 5 rfl rfl rfl hQ.raw hyr ?_
   intro ad3 ccs5 hat3 hcc1 bI
   obtain ⟨rfl,-⟩:=bI
   refine kS (α:=Raw2) (c:=[vS aI l2 aP,vB]) (x':=⟨vS aI l2 aP,vB⟩) 5 0 rfl rfl rfl hat3 rfl rfl hcc1 (by kernel_rfl) (by kernel_rfl) (by simp [Value.cells,o2]; rfl) hQ.raw hyr (by kernel_rfl) ⟨rfl,rfl,o2⟩ ?_
   intro cs6 h19 hl02
   refine vQ (ah:=[hO zF (vS aI l2 aP) aO,hB b4 [vS aI l2 aP,vB],hB b1 zTwo,hB b [vS p1 p.Arrays c,vS p2 aj c1],hO zD (vS p1 p.Arrays c) cs,hO Raw2 (vS p2 aj c1) cs6,hO zG vB csB]) rfl<|zU rfl<|zP<|yT<|vU 1 [3] [(98,vA [vS p1 p.Arrays c,vS p2 aj c1])]<|yS 2 [vS p1 p.Arrays c,vS p2 aj c1] rfl<|zU rfl<|zK<|xF ?_
   obtain rfl:=zE N
   exact dB ⟨[vA [vS p1 p.Arrays c,vS p2 aj c1]],_,(resC 2 rfl rfl),(zW [4,5,0,6] rfl (by decide)),⟨p1,c,cs,p2,c1,cs6,aj.set (W ((aj.length:Int) - 1)).toNat ⟨vS aI l2 aP,vB⟩,vS aI l2 aP,vB,l2,bl,aO,csB,(by simp only [vS,hl02]),(by simp only [vS,hl02]),⟨hQ.arr,h19,(hset _ _ _ _).mono le8,h17,hQ.b⟩⟩⟩
 intro hc5 N
 refine yI [74] rfl<|zK<|yE N ?_ ?_
 · intro hc6 N
   refine yA<|yD 3 [1] [78,79] rfl ?_
   obtain ⟨x4,hy10,N⟩:=zB N
   obtain ⟨rfl,hyr,hset⟩:=hQ.lp.last hy10
   refine jH 3 rfl rfl rfl hQ.raw hyr ?_
   intro ad4 ccs5 hat4 hcc2 hrep4
   obtain ⟨rfl,o1,o2⟩:=hrep4
   refine zEV 3 0 hat4 hcc2 [vN,vB] (vA [vN,vB]) rfl rfl<|xU zTwo ?_
   intro b6 hb6
   refine zOO 0 [vN,vB] (hB b6 [vN,vB]::[hB b1 zTwo,hB b [vS p1 p.Arrays c,vS p2 aj c1],hO zD (vS p1 p.Arrays c) cs,hO Raw2 (vS p2 aj c1) aw,hO zF vN csN,hO zG vB csB]) rfl rfl rfl rfl (by simp [Value.cells,o1,o2])<|zU rfl<|yT<|vU 1 [] [(83,vT line.l)] ?_
   obtain ⟨⟨y4,y5⟩,hy11,N⟩:=zB N
   refine xJ (zCD line _ hy11 ) ?_
   rintro I09 av v2 k2 le9 - ⟨v012,v013,rfl,rfl,⟨cs7,rfl,h22⟩,rfl⟩ -
   have hQ:=hQ.mono le9
   obtain ⟨v014,v015,v016,v017,rfl,h24,h25,h26,h27⟩:=kJ h22
   obtain ⟨p15,c14,rfl⟩:=h24.form
   obtain ⟨p16,c15,rfl⟩:=h25.form
   obtain ⟨p17,c16,rfl⟩:=h26.form
   obtain ⟨p18,c17,rfl⟩:=h27.form
   refine yD 5 [] [85,86] rfl<|xU [vT ([]),z0,vI 0,vI 0,z0,vI 0,vT ([]),z0,z0] ?_
   intro b7 hb7
   refine eK 0 (cStmt y4 p15 c14 p16 c15 p17 c16 p18 c17) (hB b7 (cStmt y4 p15 c14 p16 c15 p17 c16 p18 c17)::hB b6 [vN,vB]::[hB b1 zTwo,hB b [vS p1 p.Arrays c,vS p2 aj c1],hO zD (vS p1 p.Arrays c) cs,hO Raw2 (vS p2 aj c1) aw,hO zF vN csN,hO zG vB csB]) rfl rfl rfl rfl<|wT [] []<|yT<|vU 3 [1,0] [(88,vB),(89,vA (cStmt y4 p15 c14 p16 c15 p17 c16 p18 c17))]<|tK (cStmt y4 p15 c14 p16 c15 p17 c16 p18 c17) zG ?_
   intro b8 hb8
   have h28:RL I09 (cStmt y4 p15 c14 p16 c15 p17 c16 p18 c17) ([y4]:List zG):=⟨(cStmt y4 p15 c14 p16 c15 p17 c16 p18 c17),_,rfl,rfl,(xV ⟨_,_,_,_,rfl,h24,h25,h26,h27⟩),rfl⟩
   obtain ⟨l3,hy12,N⟩:=zB N
   refine qA 74 9 8 rfl rfl rfl hQ.b (.inr ⟨0,rfl⟩) h28 hy12 ?_
   intro p19 c18 cs9 h29
   refine tU (zY [2,3,4,5,6,7,8] (ah:=[hB b6 [vN,vB],hB b1 zTwo,hB b [vS p1 p.Arrays c,vS p2 aj c1],hO zD (vS p1 p.Arrays c) cs,hO Raw2 (vS p2 aj c1) aw,hO zF vN csN,hO zG (vS p19 l3 c18) cs9]))<|yD 6 [] [92] rfl<|yS 0 [vN,vS p19 l3 c18] rfl<|zU rfl<|zK<|zM<|vU 4 [2,0] [(94,vS p2 aj c1),(95,vI (W ((aj.length:Int) - 1))),(96,vA [vN,vS p19 l3 c18])]<|jH 4 rfl rfl rfl hQ.raw hyr ?_
   intro ad5 ccs6 hat5 hcc3 hrep5
   obtain ⟨rfl,-⟩:=hrep5
   refine kS (α:=Raw2) (c:=[vN,vS p19 l3 c18]) (x':=⟨vN,vS p19 l3 c18⟩) 4 0 rfl rfl rfl hat5 rfl rfl hcc3 (by kernel_rfl) (by kernel_rfl) (by simp [Value.cells,o1]; rfl) hQ.raw hyr (by kernel_rfl) ⟨rfl,o1,rfl⟩ ?_
   intro cs8 h31 hl03
   refine vQ (ah:=[hB b6 [vN,vS p19 l3 c18],hB b1 zTwo,hB b [vS p1 p.Arrays c,vS p2 aj c1],hO zD (vS p1 p.Arrays c) cs,hO Raw2 (vS p2 aj c1) cs8,hO zF vN csN,hO zG (vS p19 l3 c18) cs9]) rfl<|zU rfl<|zP<|yT<|vU 1 [2] [(98,vA [vS p1 p.Arrays c,vS p2 aj c1])]<|yS 1 [vS p1 p.Arrays c,vS p2 aj c1] rfl<|zU rfl<|zK<|xF ?_
   obtain rfl:=zE N
   exact dB ⟨[vA [vS p1 p.Arrays c,vS p2 aj c1]],_,(resC 1 rfl rfl),(zW [3,4,5,6] rfl (by decide)),⟨p1,c,cs,p2,c1,cs8,aj.set (W ((aj.length:Int) - 1)).toNat ⟨vN,vS p19 l3 c18⟩,vN,vS p19 l3 c18,nl,l3,csN,cs9,(by simp only [vS,hl03]),(by simp only [vS,hl03]),⟨hQ.arr,h31,(hset _ _ _ _).mono le9,hQ.n,h29⟩⟩⟩
 intro hc6 N
 refine zS<|zP<|yT<|vU 1 [1] [(98,vA [vS p1 p.Arrays c,vS p2 aj c1])]<|yS 0 [vS p1 p.Arrays c,vS p2 aj c1] rfl<|zU rfl<|zK<|xF ?_
 obtain rfl:=zE N
 exact zHO (resC 0 rfl rfl) (zW [2,3,4,5] rfl (by decide)) ⟨_,_,_,_,_,_,_,_,_,_,_,_,_,rfl,rfl,hQ⟩
def mT (nest:(List zF)) (out:Str) (i:Int):Option (Str):=do
 if (decide (i<(nest.length:Int))) then
  let s<-cat out (⟨[102,111,114,32]⟩:Str);let x<-idx nest i;let y<-nH x.Lo;let s1<-cat s y;let s2<-cat s1 (⟨[32]⟩:Str);let x1<-idx nest i;let y1<-nH x1.Hi;let s3<-cat s2 y1;let s4<-cat s3 (⟨[10]⟩:Str);mT nest s4 (W (i+1))
 else pure (id out)
 partial_fixpoint
theorem zGF (nest:(List zF)):∀ (out:Str) (i:Int) (o:Str),mT nest out i=some o->∀ {B}{I0 I:Imm}{Q p c},I0.le I->(S4 I p nest c)->NG Q->NO Q->(∀ I' am,o=am->I0.le I'->T 30 B Q (.exit 0) I' [] [(3,vT am.l)])->J Tryz.prog 30 B (nav (bodyOf f170) [1,1,0,1,0]) Q I [] [(0,vS p nest c),(3,vT out.l),(4,vI i)]:=by
 refine mT.partial_correctness nest _ fun aJ ih out i o N B I0 I Q p c H h hg ho hx=>yZ hg ho<|yC<|yI [8] rfl<|zK<|yE N ?_ ?_
 · intro hc N;refine zS<|zZ<|yH ?_;obtain ⟨s,hy,N⟩:=zB N;obtain ⟨x,ax,N⟩:=zB N;obtain ⟨y,aE,N⟩:=zB N;obtain ⟨s1,bj,N⟩:=zB N;obtain ⟨s2,bt,N⟩:=zB N;obtain ⟨x1,bD,N⟩:=zB N;obtain ⟨y1,hy6,N⟩:=zB N;obtain ⟨s3,hy7,N⟩:=zB N;obtain ⟨s4,hy8,N⟩:=zB N;refine wV [.p (vT out.l) [],.q (vT s.l),.p (vS p nest c) [],.p (vI i) [],.x (ePLoop x),.x (ePLoop x),.x (eS x.Lo),.q (vT y.l),.q (vT s1.l),.q (vT s2.l),.p (vS p nest c) [],.p (vI i) [],.x (ePLoop x1),.x (eQLoop 1 x1),.x (eS x1.Hi),.q (vT y1.l),.q (vT s3.l),.q (vT s4.l)] [[],[(0,false)],[],[],[(2,false),(3,false)],[(4,false)],[(5,false)],[(6,false)],[(1,false),(7,false)],[(8,false)],[],[],[(10,false),(11,false)],[(12,false)],[(13,false)],[(14,false)],[(9,false),(15,false)],[(16,false)]] [] [] [(17,false)] zN ?_ ?_
   · refine Op<|Oq ?_<|O2<|Ox ?_<|Ox ?_<|Ox ?_<|Oq ?_<|Oq ?_<|Oq ?_<|O2<|Ox ?_<|Ox ?_<|Ox ?_<|Oq ?_<|Oq ?_<|Oq ?_<|On
     · intro I1 hf ae;exact xD [11] rfl<|eF rfl hy<|xY iR
     · intro I1 hf ae;refine xD [13,14] rfl ?_;have h:=h.mono ae;refine wA rfl rfl h ax ?_;intro ad aK ap al;obtain ⟨p1,c1,p2,c2,rfl,h1,h2⟩:=vJ al;exact yM [] iR ⟨_,_,_,_,_,rfl,rfl,ap,h1,h2⟩
     · rintro I1 hf ae _ _ ⟨ad,p1,c1,p2,c2,rfl,rfl,ap,h1,h2⟩;exact xD [15] rfl<|mD 6 [(16,.pointer (some ad))]<|yM [] iR ⟨_,_,_,_,_,rfl,rfl,ap,h1,h2⟩
     · rintro I1 hf ae _ _ ⟨ad1,aI,aQ,p21,c21,rfl,rfl,ay,h11,h21⟩;exact xD [16] rfl<|xP 0 ay [vS aI x.Lo aQ] (vS aI x.Lo aQ) rfl<|yM [] iR ⟨_,_,rfl,rfl,h11⟩
     · rintro I1 hf ae _ _ ⟨p111,c111,rfl,rfl,h111⟩;refine xD [17] rfl ?_;have H:=iS I1;refine xJ (zA9 x.Lo _ aE h111) ?_;rintro I0 av v2 k2 le - ⟨v02,rfl,rfl,rfl⟩ -;have H:=H.trans le;exact xY H
     · intro I1 hf ae;exact xD [12,18] rfl<|eF rfl bj<|xY iR
     · intro I1 hf ae;exact xD [19] rfl<|eF rfl bt<|xY iR
     · intro I1 hf ae;refine xD [21,22] rfl ?_;have h:=h.mono ae;refine wA rfl rfl h bD ?_;intro ad2 bo bq aA;obtain ⟨p3,c3,p4,c4,rfl,h4,h5⟩:=vJ aA;exact yM [] iR ⟨_,_,_,_,_,rfl,rfl,bq,h4,h5⟩
     · rintro I1 hf ae _ _ ⟨ad2,p3,c3,p4,c4,rfl,rfl,bq,h4,h5⟩;exact xD [23] rfl<|mD 14 [(24,.pointer (some (ad2.add 1)))]<|yM [] iR ⟨_,_,_,_,_,rfl,rfl,bq,h4,h5⟩
     · rintro I1 hf ae _ _ ⟨ad21,p31,c31,p41,c41,rfl,rfl,hat21,h41,h51⟩;exact xD [24] rfl<|xP 1 hat21 [vS p41 x1.Hi c41] (vS p41 x1.Hi c41) rfl<|yM [] iR ⟨_,_,rfl,rfl,h51⟩
     · rintro I1 hf ae _ _ ⟨p411,c411,rfl,rfl,h511⟩;refine xD [25] rfl ?_;have H:=iS I1;refine xJ (zA9 x1.Hi _ hy6 h511) ?_;rintro aR av v2 k2 ae - ⟨v05,rfl,rfl,rfl⟩ -;have H:=H.trans ae;exact xY H
     · intro I1 hf ae;exact xD [20,26] rfl<|eF rfl hy7<|xY iR
     intro I1 hf ae;exact xD [27] rfl<|eF rfl hy8<|xY iR
   intro aV aB;refine xD [0,4,28] rfl ?_;have ⟨h,H⟩:=m2 aB h H;exact yL [] [3] rfl<|zP<|zK<|zM<|yL [] [4] rfl<|yX<|mC<|ih s4 (W (i+1)) _ N H h hg ho hx
 intro hc N;exact vC<|yQ<|hx _ _ (zE N).symm H
def zAX (nest:(List zF)):Option (Str):=do
 let am<-mT nest (⟨[]⟩:Str) 0;pure (id am)
theorem zIQ:∀ nest r,zAX nest=some r->∀ {I:Imm}{p c},(S4 I p nest c)->RT 170 [vS p nest c] I [] (rK  r):=by
 intro nest r N I p c h;unfold zAX at N;refine yJ func170 fun B=>vK []<|uJ [3] rfl<|zZ<|yI [4] rfl<|wQ<|pM [(0,vS p nest c),(3,vT ([])),(4,vI 0)] ?_;obtain ⟨o0,az,aG⟩:=zB N;refine zGF nest (⟨[]⟩:Str) 0 o0 az iR h nG nO ?_;intro bv am heq aF;subst o0;refine zR<|uJ [2] rfl<|zK<|xF ?_;obtain rfl:=zE aG;exact vZ
def sF (p:zH) (i:Int) (au:Str) (k0:Int):Option (Str):=do
 let x1<-idx p.Arrays i;if (decide (k0<(x1.Dims.length:Int))) then
  let s2<-cat au (⟨[32]⟩:Str);let x2<-idx p.Arrays i;let x3<-idx x2.Dims k0;let y1<-pT x3;let s3<-cat s2 y1;sF p i s3 (W (k0+1))
 else pure (id au)
 partial_fixpoint
theorem zCP (p:zH) (i:Int):∀ (au:Str) (k0:Int) (o:Str),sF p i au k0=some o->∀ {B}{I0 I:Imm}{Q p1 c p2 c1}{b},I0.le I->(S4 I p1 p.Arrays c)->(S4 I p2 p.Parts c1)->NG Q->NO Q->(∀ I' bx,o=bx->I0.le I'->T 103 B Q (.exit 2) I' [hB b (cProg p p1 c p2 c1)] [(1,vP b 0),(3,vT bx.l),(4,vI i)])->J Tryz.prog 103 B (nav (bodyOf f135) [1,1,1,0,1,0,0,1,0,0,1,0,1,0]) Q I [hB b (cProg p p1 c p2 c1)] [(1,vP b 0),(3,vT au.l),(4,vI i),(5,vI k0)]:=by
 refine sF.partial_correctness p i _ fun aJ ih au k0 o N B I0 I Q p1 c p2 c1 b H h h1 hg ho hx=>yZ hg ho<|yC<|yA<|yD 4 [0] [28,30,31] rfl<|bE N fun x1 bt N=>wA rfl rfl h bt ?_;intro ad1 bo ay aA;obtain ⟨p4,c3,rfl,h4⟩:=wK aA;refine yD 6 [] [33] rfl<|xP 1 ay [vS p4 x1.Dims c3] (vS p4 x1.Dims c3) rfl<|yL [] [36] rfl<|zK<|yE N ?_ ?_
 · intro bf N;refine zS<|zZ<|yH<|zM<|yD 1 [] [39] rfl<|bE N fun s2 bD N=>eF rfl bD<|yD 5 [0] [42,43] rfl<|bE N fun x2 hy6 N=>wA rfl rfl h hy6 ?_;intro ad2 bR bq bu;obtain ⟨p5,c4,rfl,h5⟩:=wK bu;refine yD 7 [] [45] rfl<|xP 1 bq [vS p5 x2.Dims c4] (vS p5 x2.Dims c4) rfl<|yD 9 [] [47] rfl<|bE N fun x3 hy7 N=>wA rfl rfl h5 hy7 ?_;intro ad3 ccs3 hat3 bI;obtain rfl:=bI;refine xP 0 hat3 [vI x3] (vI x3) rfl<|bE N fun y1 hy8 N=>xJ (zAj x3 _ hy8 ) ?_;rintro aR av v2 k2 ae - ⟨v04,rfl,rfl,rfl⟩ -;have ⟨h,h1,H⟩:=m3 ae h h1 H;obtain ⟨s3,hy9,N⟩:=zB N;exact eF rfl hy9<|yL [] [3] rfl<|zP<|zK<|zM<|yL [] [5] rfl<|yX<|mC<|ih s3 (W (k0+1)) _ N H h h1 hg ho hx
 intro bf N;exact vC<|yQ<|hx _ _ (zE N).symm H
def sG (p:zH) (out:Str) (i:Int):Option (Str):=do
 if (decide (i<(p.Arrays.length:Int))) then
  let s<-cat out (⟨[97,114,114,97,121,32]⟩:Str);let x<-idx p.Arrays i;let s1<-cat s x.Name;let bx<-sF p i s1 0;let s4<-cat bx (⟨[10]⟩:Str);sG p s4 (W (i+1))
 else pure (id out)
 partial_fixpoint
theorem zCQ (p:zH):∀ (out:Str) (i:Int) (o:Str),sG p out i=some o->∀ {B}{I0 I:Imm}{Q p1 c p2 c1}{b},I0.le I->(S4 I p1 p.Arrays c)->(S4 I p2 p.Parts c1)->NG Q->NO Q->(∀ I' am,o=am->I0.le I'->T 103 B Q (.exit 0) I' [hB b (cProg p p1 c p2 c1)] [(1,vP b 0),(3,vT am.l)])->J Tryz.prog 103 B (nav (bodyOf f135) [1,1,1,0,1,0]) Q I [hB b (cProg p p1 c p2 c1)] [(1,vP b 0),(3,vT out.l),(4,vI i)]:=by
 refine sG.partial_correctness p _ fun aJ ih out i o N B I0 I Q p1 c p2 c1 b H h h1 hg ho hx=>yZ hg ho<|yC<|yA<|yL [0] [16] rfl<|zK<|yE N ?_ ?_
 · intro aH N;refine zS<|zZ<|yH<|yA<|yD 1 [] [19] rfl<|bE N fun s ax N=>eF rfl ax<|yD 5 [0] [22,23] rfl<|bE N fun x aE N=>wA rfl rfl h aE ?_;intro ad aK ap al;obtain ⟨p3,c2,rfl,h3⟩:=wK al;refine yD 7 [] [25] rfl<|xP 0 ap [vT x.Name.l] (vT x.Name.l) rfl<|bE N fun s1 bj N=>eF rfl bj<|yL [] [3] rfl<|zZ<|yI [5] rfl<|wQ<|pM [(1,vP b 0),(3,vT s1.l),(4,vI i),(5,vI 0)] ?_;obtain ⟨o0,az,aG⟩:=zB N;refine zCP p i s1 0 o0 az iR h h1 (fun _ _ _ h=>hg _ _ _ h) (fun _ _ h=>ho _ _ h) ?_;intro aV bx heq aB;subst o0;have ⟨h,h1,H⟩:=m3 aB h h1 H;refine zR<|zK<|zM<|yD 1 [] [52] rfl ?_;obtain ⟨s4,hy10,N⟩:=zB aG;exact eF rfl hy10<|yL [] [3] rfl<|zP<|zK<|zM<|yL [] [4] rfl<|yX<|mC<|ih s4 (W (i+1)) _ N H h h1 hg ho hx
 intro aH N;exact vC<|yQ<|hx _ _ (zE N).symm H
def sH (p:zH) (i1:Int) (out6:Str) (k01:Int):Option (Str):=do
 let x5<-idx p.Parts i1;if (decide (k01<(x5.Body.length:Int))) then
  let x6<-idx p.Parts i1;let x7<-idx x6.Body k01;let y3<-pE x7.Write;let s7<-cat out6 y3;let s8<-cat s7 (⟨[61]⟩:Str);let y4<-pU x7.Value;let s9<-cat s8 y4;let s10<-cat s9 (⟨[10]⟩:Str);sH p i1 s10 (W (k01+1))
 else pure (id out6)
 partial_fixpoint
theorem zCR (p:zH) (i1:Int):∀ (out6:Str) (k01:Int) (o:Str),sH p i1 out6 k01=some o->∀ {B}{I0 I:Imm}{Q p1 c p2 c1}{b},I0.le I->(S4 I p1 p.Arrays c)->(S4 I p2 p.Parts c1)->NG Q->NO Q->(∀ I' out7,o=out7->I0.le I'->T 103 B Q (.exit 6) I' [hB b (cProg p p1 c p2 c1)] [(1,vP b 0),(3,vT out7.l),(6,vI i1)])->J Tryz.prog 103 B (nav (bodyOf f135) [1,1,1,1,0,1,0,0,1,0,0,1,1,0]) Q I [hB b (cProg p p1 c p2 c1)] [(1,vP b 0),(3,vT out6.l),(6,vI i1),(7,vI k01)]:=by
 refine sH.partial_correctness p i1 _ fun aJ ih out6 k01 o N B I0 I Q p1 c p2 c1 b H h h1 hg ho hx=>yZ hg ho<|yC<|yA<|yD 4 [0] [71,73,74] rfl<|bE N fun x5 hy15 N=>wA rfl rfl h1 hy15 ?_;intro ad5 ccs5 hat5 hrep5;obtain ⟨p8,c7,p9,c8,rfl,h10,h11⟩:=wX hrep5;refine yD 6 [] [76] rfl<|xP 1 hat5 [vS p9 x5.Body c8] (vS p9 x5.Body c8) rfl<|yL [] [79] rfl<|zK<|yE N ?_ ?_
 · intro bN N;refine zS<|zZ<|yH<|yA<|yD 3 [0] [83,84] rfl<|bE N fun x6 hy16 N=>wA rfl rfl h1 hy16 ?_;intro ad6 ccs6 hat6 hrep6;obtain ⟨aM,c9,aI,aP,rfl,h12,h13⟩:=wX hrep6;refine yD 5 [] [86] rfl<|xP 1 hat6 [vS aI x6.Body aP] (vS aI x6.Body aP) rfl<|yD 7 [] [88] rfl<|bE N fun x7 hy17 N=>wA rfl rfl h13 hy17 ?_;intro ad7 ccs7 hat7 hrep7;obtain ⟨bm,aQ,aS,aW,p14,bc,p15,c14,rfl,h14,h15,h16,h17⟩:=wI hrep7;refine xP 0 hat7 (cStmt x7 bm aQ aS aW p14 bc p15 c14) (vA (cStmt x7 bm aQ aS aW p14 bc p15 c14)) rfl<|xU [vT ([]),z0,vI 0,vI 0,z0,vI 0,vT ([]),z0,z0] ?_;intro b1 hb1;refine yS 0 (cStmt x7 bm aQ aS aW p14 bc p15 c14) rfl<|zU rfl<|zK ?_;obtain ⟨y3,hy18,N⟩:=zB N;obtain ⟨s7,hy19,N⟩:=zB N;obtain ⟨s8,hy20,N⟩:=zB N;obtain ⟨y4,hy21,N⟩:=zB N;obtain ⟨s9,hy22,N⟩:=zB N;obtain ⟨s10,hy23,N⟩:=zB N;refine wV [.p (vT out6.l) [],.p (vP b1 0) [],.p (vA (cAccess x7.Write bm aQ)) [0],.q (vT y3.l),.q (vT s7.l),.q (vT s8.l),.p (vP b1 2) [],.p (vA (cExpr x7.Value aS aW p14 bc p15 c14)) [0],.q (vT y4.l),.q (vT s9.l),.q (vT s10.l)] [[],[],[(1,false)],[(2,false)],[(0,false),(3,false)],[(4,false)],[],[(6,false)],[(7,false)],[(5,false),(8,false)],[(9,false)]] [hB b1 (cStmt x7 bm aQ aS aW p14 bc p15 c14),hB b (cProg p p1 c p2 c1)] [] [(10,false)] (zY [0,1]) ?_ ?_
   · refine O3<|Oq ?_<|Oq ?_<|Oq ?_<|O2<|Oq ?_<|Oq ?_<|Oq ?_<|On
     · intro I1 hf ae;refine xD [93] rfl ?_;have H:=iS I1;have h14:=h14.mono ae;refine xJ (zAF x7.Write _ hy18 h14) ?_;rintro bO av v2 k2 bi - ⟨v016,rfl,rfl,rfl⟩ -;have H:=H.trans bi;exact xY H
     · intro I1 hf ae;exact xD [91,94] rfl<|eF rfl hy19<|xY iR
     · intro I1 hf ae;exact xD [95] rfl<|eF rfl hy20<|xY iR
     · intro I1 hf ae;refine xD [98] rfl ?_;have H:=iS I1;have ⟨h15,h16,h17⟩:=m3 ae h15 h16 h17;refine xJ (zDu x7.Value _ hy21 h15 h16 h17) ?_;rintro I06 av v2 k2 bB - ⟨v017,rfl,rfl,rfl⟩ -;have H:=H.trans bB;exact xY H
     · intro I1 hf ae;exact xD [96,99] rfl<|eF rfl hy22<|xY iR
     intro I1 hf ae;exact xD [100] rfl<|eF rfl hy23<|xY iR
   intro I07 le7;refine xD [1,6,7,101] rfl ?_;have ⟨h,h1,H⟩:=m3 le7 h h1 H;exact yL [] [3] rfl<|zP<|zK<|zM<|yL [] [7] rfl<|yX<|qY (zW [1] rfl (by decide))<|mC<|ih s10 (W (k01+1)) _ N H h h1 hg ho hx
 intro bN N;exact vC<|yQ<|hx _ _ (zE N).symm H
def sI (p:zH) (bM:Str) (i1:Int):Option (Str):=do
 if (decide (i1<(p.Parts.length:Int))) then
  let s5<-cat bM (⟨[112,97,114,116,10]⟩:Str);let x4<-idx p.Parts i1;let y2<-zAX x4.Nest;let s6<-cat s5 y2;let out7<-sH p i1 s6 0;sI p out7 (W (i1+1))
 else pure (id bM)
 partial_fixpoint
theorem zCS (p:zH):∀ (bM:Str) (i1:Int) (o:Str),sI p bM i1=some o->∀ {B}{I0 I:Imm}{Q p1 c p2 c1}{b},I0.le I->(S4 I p1 p.Arrays c)->(S4 I p2 p.Parts c1)->NG Q->NO Q->(∀ I' out5,o=out5->I0.le I'->T 103 B Q (.exit 4) I' [] [(3,vT out5.l)])->J Tryz.prog 103 B (nav (bodyOf f135) [1,1,1,1,0,1,0]) Q I [hB b (cProg p p1 c p2 c1)] [(1,vP b 0),(3,vT bM.l),(6,vI i1)]:=by
 refine sI.partial_correctness p _ fun aJ ih bM i1 o N B I0 I Q p1 c p2 c1 b H h h1 hg ho hx=>yZ hg ho<|yC<|yA<|yL [0] [58] rfl<|zK<|yE N ?_ ?_
 · intro bG N;refine zS<|zZ<|yH<|yA<|yD 1 [] [61] rfl<|bE N fun s5 hy11 N=>eF rfl hy11<|yD 5 [0] [64,65] rfl<|bE N fun x4 hy12 N=>wA rfl rfl h1 hy12 ?_;intro ad4 ccs4 hat4 hrep4;obtain ⟨p6,c5,p7,c6,rfl,h7,h8⟩:=wX hrep4;refine yD 7 [] [67] rfl<|xP 0 hat4 [vS p6 x4.Nest c5] (vS p6 x4.Nest c5) rfl<|bE N fun y2 hy13 N=>xJ (zIQ x4.Nest _ hy13 h7) ?_;rintro bH av v2 k2 aX - ⟨v07,rfl,rfl,rfl⟩ -;have ⟨h,h1,H⟩:=m3 aX h h1 H;obtain ⟨s6,hy14,N⟩:=zB N;refine eF rfl hy14<|yL [] [3] rfl<|uJ [7] rfl<|wQ<|pM [(1,vP b 0),(3,vT s6.l),(6,vI i1),(7,vI 0)] ?_;obtain ⟨o02,ho02,hMl2⟩:=zB N;refine zCR p i1 s6 0 o02 ho02 iR h h1 (fun _ _ _ h=>hg _ _ _ h) (fun _ _ h=>ho _ _ h) ?_;intro I08 out7 heq2 le8;subst o02;have ⟨h,h1,H⟩:=m3 le8 h h1 H;exact zR<|zP<|zK<|zM<|yL [] [6] rfl<|yX<|mC<|ih out7 (W (i1+1)) _ hMl2 H h h1 hg ho hx
 intro bG N;exact vC<|wH zN<|yQ<|hx _ _ (zE N).symm H
def kM (p:zH):Option (Str):=do
 let y<-uR p;if (!y) then pure (⟨[]⟩:Str)
 else
  let am<-sG p (⟨qL0⟩:Str) 0;let out5<-sI p am 0;pure (id out5)
theorem zD4:∀ p r,kM p=some r->∀ {I:Imm}{p1 c p2 c1},(S4 I p1 p.Arrays c)->(S4 I p2 p.Parts c1)->RT 135 [vA (cProg p p1 c p2 c1)] I [] (rK  r):=by
 intro p r N I p1 c p2 c1 h h1;unfold kM at N;refine yJ func135 fun B=>yA<|vD (cProg p p1 c p2 c1) ?_;intro b hb;refine wT [] []<|zZ<|yA<|vU 1 [0] [(9,vA (cProg p p1 c p2 c1))]<|bE N fun y hy N=>vR (gY p _ hy h h1) ?_;intro I0 le;have ⟨h,h1⟩:=m2 le h h1;refine yL [] [11] rfl<|zK<|yE N ?_ ?_
 · intro hc N;refine yI [2] rfl<|xL<|zI ?_;obtain rfl:=zE N;exact vZ
 intro hc N;refine zS<|uJ [3] rfl<|zZ<|yI [4] rfl<|wQ<|pM [(1,vP b 0),(3,vT (qL0)),(4,vI 0)] ?_;obtain ⟨aL,aC,hMl1⟩:=zB N;refine zCQ p (⟨qL0⟩:Str) 0 aL aC iR h h1 nG nO ?_;intro bv am heq1 aF;subst aL;have ⟨h,h1⟩:=m2 aF h h1;refine zR<|zZ<|yI [6] rfl<|wQ<|pM [(1,vP b 0),(3,vT am.l),(6,vI 0)] ?_;obtain ⟨o03,ho03,hMl3⟩:=zB hMl1;refine zCS p am 0 o03 ho03 iR h h1 nG nO ?_;intro I09 out5 heq3 le9;subst o03;refine zR<|uJ [2] rfl<|zK<|xF ?_;obtain rfl:=zE hMl3;exact vZ
instance zMx {cs}{arr:List zD}{aw}{aj:List Raw2}{parts:List zL}{vN:Value}{nl:List zF}{vB:Value}{bl:List zG}{csN csB:List Value}:MonoI (fun i=>L4 i cs arr aw aj parts vN nl vB bl csN csB):=⟨fun _ _ hl h=>h.mono hl⟩
def zDC (r:zH×Bool):KT:=fun kk I' ah v=>
  ∃ (v0 v1:Value),ah=[]/\v=tupV [v0,v1]/\(∃ cs,v0=.agg ⟨cs⟩/\Rp.rep I' cs r.1)/\v1=.bool r.2
def qX (y:List Str) (p:zH) (i:Int):Option zH:=do
 if (decide ((W (i+1))<(y.length:Int))) then
  let x<-idx y i;let p1<-zAW p x;qX y p1 (W (i+1))
 else pure p
 partial_fixpoint
theorem zCi (y:List Str):∀ (p:zH) (i:Int) (o:zH),qX y p i=some o->∀ {B}{I0 I:Imm}{Q}{bk:Str}{pl cl}{b b1:Nat}{p1 c cs p2 c1 aw}{aj:List Raw2}{vN vB:Value}{nl:List zF}{bl:List zG}{csN csB:List Value},I0.le I->(S4 I pl y cl)->L4 I cs p.Arrays aw aj p.Parts vN nl vB bl csN csB->(∀ l a w,¬Q (.goto l) a w)->(∀ a w,¬Q .outgrown a w) ->
   (∀ (I':Imm) (p1:Option Addr) (c:Nat) (cs:List Value) (p2:Option Addr) (c1:Nat) (aw:List Value) (aj:List Raw2) (vN vB:Value) (nl:List zF) (bl:List zG) (csN csB:List Value),I0.le I'->L4 I' cs o.Arrays aw aj o.Parts vN nl vB bl csN csB->T 37 B Q (.exit 0) I' [hO zD (vS p1 o.Arrays c) cs,hO Raw2 (vS p2 aj c1) aw,hO zF vN csN,hO zG vB csB,hB b1 [vS p1 o.Arrays c,vS p2 aj c1],hB b zTwo] [(0,vT bk.l),(2,vP b 0),(5,vP b1 0)]) ->
   J Tryz.prog 37 B (nav (bodyOf f93) [1,1,1,1,0,1,0]) Q I [hO zD (vS p1 p.Arrays c) cs,hO Raw2 (vS p2 aj c1) aw,hO zF vN csN,hO zG vB csB,hB b1 [vS p1 p.Arrays c,vS p2 aj c1],hB b zTwo] [(0,vT bk.l),(2,vP b 0),(4,vS pl y cl),(5,vP b1 0),(6,vI i)]:=by
 refine qX.partial_correctness y _ ?_
 intro aJ ih p i o N B I0 I Q bk pl cl b b1 p1 c cs p2 c1 aw aj vN vB nl bl csN csB H h hQ hg ho hx
 refine yZ hg ho<|yC<|yI [18] rfl<|zK<|yE N ?_ ?_
 · intro aH N
   refine zS<|zZ<|yH ?_
   obtain ⟨x,hy,N⟩:=zB N
   obtain ⟨q,ax,N⟩:=zB N
   refine wV [.p (vA [vS p1 p.Arrays c,vS p2 aj c1]) [0],.p (vS pl y cl) [],.p (vI i) [],.x (fun I' v hx=>∃ ad,v=.pointer (some ad)/\hx=[]/\(At I' ad [vT x.l])),.x (fun I' v hx=>v=vT x.l/\hx=[]),.x (fun I' v hx=>∃ (p1:Option Addr) (c:Nat) (cs:List Value) (p2:Option Addr) (c1:Nat) (aw:List Value) (aj:List Raw2) (vN vB:Value) (nl:List zF) (bl:List zG) (csN csB:List Value),v=vA [vS p1 q.Arrays c,vS p2 aj c1]/\hx=[hO zD (vS p1 q.Arrays c) cs,hO Raw2 (vS p2 aj c1) aw,hO zF vN csN,hO zG vB csB]/\L4 I' cs q.Arrays aw aj q.Parts vN nl vB bl csN csB)] [[],[],[],[(1,false),(2,false)],[(3,false)],[(0,false),(4,false),(7,true)]] [hB b1 [vS p1 p.Arrays c,vS p2 aj c1],hB b zTwo] [[hO zD (vS p1 p.Arrays c) cs,hO Raw2 (vS p2 aj c1) aw,hO zF vN csN,hO zG vB csB]] [(5,true)] (zY [4,5,0,1,2,3]) ?_ ?_
   · refine O3<|Ox ?_<|Ox ?_<|Ox (hm:=fun v hx=>by repeat' (first | exact zHK | exact zMx | refine @zKQ _ _ (fun _=>?_) | refine @zJX _ _ ?_ ?_)) ?_<|On
     · intro I1 hf ae
       refine xD [22,23] rfl<|wA rfl rfl (h.mono ae) hy ?_
       intro ad aK ap al
       obtain rfl:=al
       exact yM [] iR ⟨_,rfl,rfl,ap⟩
     · intro I1 hf ae
       refine wY ?_
       rintro _ _ ⟨ad,rfl,rfl,ap⟩
       exact qC<|zAo [(24,.pointer (some ad))]<|xP 0 ap [vT x.l] (vT x.l) rfl<|xY iR
     intro I1 hf ae
     refine wY ?_
     rintro _ _ ⟨rfl,rfl⟩
     refine wY ?_
     rintro _ _ ⟨rfl,rfl⟩
     refine wY ?_
     rintro _ _ rfl
     refine xD [21,25] rfl<|rC (zIP p x _ ax (hQ.mono ae)) rfl ?_
     rintro aV av v2 k2 aB - ⟨p3,c2,aU,p4,c3,aO,raws1,vN1,vB1,nl1,bl1,csN1,csB1,rfl,rfl,hq⟩ -
     exact yM [hO zD (vS p3 q.Arrays c2) aU,hO Raw2 (vS p4 raws1 c3) aO,hO zF vN1 csN1,hO zG vB1 csB1] aB ⟨_,_,_,_,_,_,_,_,_,_,_,_,_,rfl,rfl,hq⟩
   intro bH aX
   refine wY ?_
   rintro _ _ ⟨p3,c2,aU,p4,c3,aO,raws1,vN1,vB1,nl1,bl1,csN1,csB1,rfl,rfl,hq⟩
   exact qC<|zAo [(0,vT bk.l),(2,vP b 0),(4,vS pl y cl),(5,vP b1 0),(6,vI i),(26,vA [vS p3 q.Arrays c2,vS p4 raws1 c3])]<|yS 4 [vS p3 q.Arrays c2,vS p4 raws1 c3] rfl<|zU rfl<|zP<|zK<|zM<|yL [] [6] rfl<|yX<|mC<|ih _ _ _ N (H.trans aX) (h.mono aX) hq hg ho hx
 intro aH N
 obtain rfl:=zE N
 exact vC<|yQ<|hx _ _ _ _ _ _ _ _ _ _ _ _ _ _ H hQ
def jC (bk:Str):Option (zH×Bool):=do
 let y<-fL bk (10:UInt8);if (decide ((y.length:Int)>42)) then pure ((zH.mk [] []),false)
 else
  let p<-qX y (zH.mk [] []) 1;let t34<-(do
    if (bk.l==([]:List UInt8)) then pure true
    else
     let z<-kM p;pure (!(z.l==bk.l))
      : Option Bool)
  if t34 then pure ((zH.mk [] []),false)
  else pure (p,true)
theorem zDv:∀ bk r,jC bk=some r->∀ {I:Imm},RT 93 [vT bk.l] I [] (zDC r):=by
 intro bk r N I;unfold jC at N;refine yJ func93 fun B=>yA<|xU zTwo ?_;intro b hb;refine wT [] []<|yT<|yD 1 [] [7] rfl<|bE N fun y hy N=>xJ (zBg bk (10:UInt8) _ hy) ?_;rintro I0 av v2 k2 le - ⟨v0,rfl,rfl,h⟩ -;obtain ⟨pl,cl,rfl⟩:=h.form;refine yL [] [4] rfl<|yT<|yD 1 [] [9] rfl<|xU zTwo ?_;intro b1 hb1;refine eK 0 zTwo [hB b1 zTwo,hB b zTwo] rfl rfl rfl rfl<|zU rfl<|zZ<|yI [12] rfl<|zK<|yE N ?_ ?_
 · intro hc N;refine yA<|vU 1 [0] [(13,vA zTwo)]<|eK 1 zTwo [hB b1 zTwo,hB b zTwo] rfl rfl rfl rfl<|wT [] [(3,vF)]<|xL<|zI ?_;exact xO N (resE 1 rfl rfl rfl) zN ⟨_,_,rfl,rfl,⟨_,rfl,(wO ⟨_,_,rfl,(SL.nil _),(SL.nil _)⟩)⟩,rfl⟩
 intro hc N;refine zS<|zZ<|yI [6] rfl<|wQ<|pM [(0,vT bk.l),(2,vP b 0),(4,vS pl y cl),(5,vP b1 0),(6,vI 1)]<|qY (fS (Rp.sz zG))<|qY (fS (Rp.sz zF))<|qY (fS (Rp.sz Raw2))<|qY (fS (Rp.sz zD))<|bE N fun p ax N=>zCi (aj:=[]) (vN:=z0) (vB:=z0) (nl:=[]) (bl:=[]) y (zH.mk [] []) 1 p ax iR h ⟨RepL.nil,RepL.nil,⟨by decide,rfl,.inl ⟨rfl,rfl⟩⟩,RepL.nil,RepL.nil⟩ nG nO fun I1 p1 c cs p2 c1 aw aj vN vB nl bl csN csB ae hQ=>xA 2 rfl ?_;intro I2 aB hl2;have kN:=SL.of_frozen hl2 aB hQ.n;have hQ:=hQ.mono aB;refine xA 2 rfl ?_;intro I3 aF hl3;have kB:=SL.of_frozen hl3 aF hQ.b;replace kN:=kN.mono aF;have hQ:=hQ.mono aF;refine xA 0 rfl ?_;intro I4 aX hl4;have kA:=SL.of_frozen hl4 aX hQ.arr;replace kN:=kN.mono aX;replace kB:=kB.mono aX;have hQ:=hQ.mono aX;refine xA 0 rfl ?_;intro I5 bi hl5;have kP:SL I5 (vS p2 aj c1) p.Parts:=⟨aw,hl5,by
   rw [gI hQ.raw];exact (hQ.lp.done kN kB).mono fun _ _=>Rp.mono bi⟩
 have e0:vS p2 aj c1=vS p2 p.Parts c1:=by simp only [vS,hQ.lp.2.1]
 rw [e0] at kP ⊢;clear e0 hl5 hl4 hl3 hl2 hQ;replace kA:=kA.mono bi;refine zR<|zZ<|yC<|bE N fun t34 ht N=>nT (K1 t34 I5 [hB b1 (cProg p p1 c p2 c1),hB b zTwo] fun o=>[(2,vP b 0),(5,vP b1 0),(34,.bool o)]) ?_ ?_
 · refine zM<|vU 3 [] [(29,.bool (bk.l==([]:List UInt8)))] ?_;cases bf:(bk.l==([]:List UInt8)) with
   | true =>
    have hM0:=qN bf ht;exact wT [] [(34,vY)]<|yQ<|zT ⟨_,(zE hM0).symm,Imm.le.refl _,rfl,rfl⟩
   | false =>
    have hM0:=rE bf ht;obtain ⟨z,hz,hM0⟩:=zB hM0;refine vU 4 [0] [(30,vA (cProg p p1 c p2 c1))]<|xJ (zD4 p _ hz kA kP) ?_;rintro I6 av v2 k2 bB - ⟨v0,rfl,rfl,rfl⟩ -;exact yL [] [34] rfl<|yQ<|zT (ct hM0 bB)
 rintro I6 av m2 ⟨o,rfl,bB,rfl,rfl⟩;replace kA:=kA.mono bB;replace kP:=kP.mono bB;refine zK<|yE N ?_ ?_
 · intro bf N;refine yA<|yD 1 [] [35] rfl<|eK 1 zTwo [hB b1 (cProg p p1 c p2 c1),hB b zTwo] rfl rfl rfl rfl<|wT [] [(3,vF)]<|xL<|zI ?_;exact xO N (resE 1 rfl rfl rfl) zN ⟨_,_,rfl,rfl,⟨_,rfl,(wO ⟨_,_,rfl,(SL.nil _),(SL.nil _)⟩)⟩,rfl⟩
 intro bf N;refine zS<|yT<|vU 1 [0] [(36,vA (cProg p p1 c p2 c1))]<|yS 1 (cProg p p1 c p2 c1) rfl<|wT [] [(3,vY)]<|zK<|xF ?_;exact xO N (resE 1 rfl rfl rfl) zN ⟨_,_,rfl,rfl,⟨_,rfl,(wO ⟨_,_,rfl,kA,kP⟩)⟩,rfl⟩
def zCj (r:(List zD)):KT:=fun kk I' ah v=>
  ∃ v0,ah=[]/\v=tupV [v0]/\SL I' v0 r
def fN :Option ((List zD)):=do
 pure ([(zD.mk (⟨[65]⟩:Str) ([6]:List Int)),(zD.mk (⟨[66]⟩:Str) ([4,5]:List Int)),(zD.mk (⟨[67]⟩:Str) ([3]:List Int))]:List zD)
theorem zAl:∀ r,fN =some r->∀ {I:Imm} ,RT 154 [] I [] (zCj  r):=by
 intro  r N I;unfold fN at N;refine yJ func154 fun B=>vK []<|yT<|tK [vI 6] Int ?_;intro b hb;have h:RL I [vI 6] ([6]:List Int):=rI [6];refine yD 2 [] [2] rfl<|tK [vI 4,vI 5] Int ?_;intro b1 hb1;have h1:RL I [vI 4,vI 5] ([4,5]:List Int):=rI [4,5];refine yD 4 [] [4] rfl<|tK [vI 3] Int ?_;intro b2 hb2;have h2:RL I [vI 3] ([3]:List Int):=rI [3];refine yD 6 [] [6] rfl<|wC 2 rfl ?_;intro I0 le hl0;have h3:=SL.of_frozen hl0 le h;have ⟨h1,h2⟩:=m2 le h1 h2;refine wC 1 rfl ?_;intro aR ae hl01;have h4:=SL.of_frozen hl01 ae h1;have ⟨h3,h2⟩:=m2 ae h3 h2;refine wC 0 rfl ?_;intro aV aB hl02;have h5:=SL.of_frozen hl02 aB h2;have ⟨h3,h4⟩:=m2 aB h3 h4;refine tK [vT ([65]),vS (some ⟨b,0,none⟩) ([6]:List Int) 1,vT ([66]),vS (some ⟨b1,0,none⟩) ([4,5]:List Int) 2,vT ([67]),vS (some ⟨b2,0,none⟩) ([3]:List Int) 1] zD ?_;intro b3 hb3;have h6:RL aV [vT ([65]),vS (some ⟨b,0,none⟩) ([6]:List Int) 1,vT ([66]),vS (some ⟨b1,0,none⟩) ([4,5]:List Int) 2,vT ([67]),vS (some ⟨b2,0,none⟩) ([3]:List Int) 1] ([(zD.mk (⟨[65]⟩:Str) ([6]:List Int)),(zD.mk (⟨[66]⟩:Str) ([4,5]:List Int)),(zD.mk (⟨[67]⟩:Str) ([3]:List Int))]:List zD):=⟨[vT ([65]),vS (some ⟨b,0,none⟩) ([6]:List Int) 1],_,rfl,rfl,(uL ⟨_,rfl,h3⟩),⟨[vT ([66]),vS (some ⟨b1,0,none⟩) ([4,5]:List Int) 2],_,rfl,rfl,(uL ⟨_,rfl,h4⟩),⟨[vT ([67]),vS (some ⟨b2,0,none⟩) ([3]:List Int) 1],_,rfl,rfl,(uL ⟨_,rfl,h5⟩),rfl⟩⟩⟩;refine yL [] [0] rfl<|xL<|xA 0 rfl ?_;intro bv aF hl03;have h7:=SL.of_frozen hl03 aF h6;exact xO N (resT rfl) zN ⟨_,rfl,rfl,h7⟩
def pF (a0:zA) (x:Int) (b:zA) (y:Int) (i:Int) (Coefs:List Int):Option (List Int):=do
 if (decide (i<4)) then
  let x1<-idx a0.Coefs i;let x2<-idx b.Coefs i;let l<-app 8 Coefs ([(W ((W (x*x1))+(W (y*x2))))]:List Int);pF a0 x b y (W (i+1)) l
 else pure (id Coefs)
 partial_fixpoint
theorem zDw (a0:zA) (x:Int) (b:zA) (y:Int):∀ (i:Int) (Coefs:List Int) (o:List Int),pF a0 x b y i Coefs=some o->∀ {B}{I0 I:Imm}{Q p c p1 c1}{b1 b2 b3 b4}{p2 c2 cs},I0.le I->(S4 I p1 b.Coefs c1)->(S4 I p a0.Coefs c)->(RL I cs Coefs)->NG Q->NO Q->(∀ I' Coefs1 p3 c3 aw,o=Coefs1->I0.le I'->(RL I' aw Coefs1)->T 46 B Q (.exit 0) I' [hO Int (vS p3 Coefs1 c3) aw,hB b4 [vS p3 Coefs1 c3,vI (W ((W (x*a0.Const))+(W (y*b.Const))))],hB b3 [z0,vI 0]] [(8,vP b3 0),(9,vP b4 0)])->J Tryz.prog 46 B (nav (bodyOf f156) [1,1,0,1,0]) Q I [hO Int (vS p2 Coefs c2) cs,hB b4 [vS p2 Coefs c2,vI (W ((W (x*a0.Const))+(W (y*b.Const))))],hB b3 [z0,vI 0],hB b2 (cAff b p1 c1),hB b1 (cAff a0 p c)] [(1,vI x),(3,vI y),(4,vP b1 0),(6,vP b2 0),(8,vP b3 0),(9,vP b4 0),(10,vI i)]:=by
 refine pF.partial_correctness a0 x b y _ fun aJ ih i Coefs o N B I0 I Q p c p1 c1 b1 b2 b3 b4 p2 c2 cs H h1 h h3 hg ho hx=>yZ hg ho<|yC<|yI [22] rfl<|zK<|yE N ?_ ?_
 · intro hc N;refine zS<|zZ<|yH ?_;obtain ⟨x1,hy,N⟩:=zB N;obtain ⟨x2,ax,N⟩:=zB N;obtain ⟨l,aE,N⟩:=zB N;refine wV [.p (vP b4 0) [],.p (vS p2 Coefs c2) [0],.p (vI x) [],.p (vP b1 0) [],.p (vS p a0.Coefs c) [3],.p (vI i) [],.x (fun I' v hx=>∃ ad,v=.pointer (some ad)/\hx=[]/\(At I' ad [vI x1])),.q (vI x1),.p (vI (W (x*x1))) [],.p (vI y) [],.p (vP b2 0) [],.p (vS p1 b.Coefs c1) [2],.p (vI i) [],.x (fun I' v hx=>∃ ad1,v=.pointer (some ad1)/\hx=[]/\(At I' ad1 [vI x2])),.q (vI x2),.p (vI (W (y*x2))) [],.p (vI (W ((W (x*x1))+(W (y*x2))))) [],.x (fun I' v hx=>∃ b5,v=vS (some ⟨b5,0,none⟩) ([(W ((W (x*x1))+(W (y*x2))))]:List Int) 1/\hx=[]/\(SL I' (vS (some ⟨b5,0,none⟩) ([(W ((W (x*x1))+(W (y*x2))))]:List Int) 1) ([(W ((W (x*x1))+(W (y*x2))))]:List Int))),.x (fun I' v hx=>∃ p4 c4 aU,v=vS p4 l c4/\hx=[hO Int (vS p4 l c4) aU]/\(RL I' aU l))] [[],[(0,false)],[],[],[(3,false)],[],[(4,false),(5,false)],[(6,false)],[(2,false),(7,false)],[],[],[(10,false)],[],[(11,false),(12,false)],[(13,false)],[(9,false),(14,false)],[(8,false),(15,false)],[(16,false)],[(1,false),(17,false),(21,true)]] [hB b4 [vS p2 Coefs c2,vI (W ((W (x*a0.Const))+(W (y*b.Const))))],hB b3 [z0,vI 0],hB b2 (cAff b p1 c1),hB b1 (cAff a0 p c)] [[hO Int (vS p2 Coefs c2) cs]] [(18,true)] (zY [1,2,3,4,0]) ?_ ?_
   · refine O4<|O2<|Ox ?_<|Oq ?_<|O4<|Op<|Ox ?_<|Oq ?_<|O2<|Ox ?_<|Ox ?_<|On
     · intro I1 hf ae;refine xD [29,30] rfl ?_;have h:=h.mono ae;refine wA rfl rfl h hy ?_;intro ad aK ap al;obtain rfl:=al;exact yM [] iR ⟨_,rfl,rfl,ap⟩
     · rintro I1 hf ae _ _ ⟨ad,rfl,rfl,ap⟩;exact xD [31] rfl<|xP 0 ap [vI x1] (vI x1) rfl<|xY iR
     · intro I1 hf ae;refine xD [36,37] rfl ?_;have h1:=h1.mono ae;refine wA rfl rfl h1 ax ?_;intro ad1 bo ay aA;obtain rfl:=aA;exact yM [] iR ⟨_,rfl,rfl,ay⟩
     · rintro I1 hf ae _ _ ⟨ad1,rfl,rfl,ay⟩;exact xD [38] rfl<|xP 0 ay [vI x2] (vI x2) rfl<|xY iR
     · intro I1 hf ae;refine xD [41] rfl ?_;have H:=iS I1;refine mE (rI [(W ((W (x*x1))+(W (y*x2))))]) ?_;intro b5 I0 le h6;have H:=H.trans le;exact yM [] H ⟨_,rfl,rfl,h6⟩
     rintro I1 hf ae _ _ ⟨rfl,rfl⟩ _ _ ⟨b5,rfl,rfl,h6⟩ _ _ rfl;refine xD [26,42] rfl ?_;have h3:=iM ae h3;obtain ⟨bR,k0,k01⟩:=h6;have h6:SL I1 (vS (some ⟨b5,0,none⟩) ([(W ((W (x*x1))+(W (y*x2))))]:List Int) 1) ([(W ((W (x*x1))+(W (y*x2))))]:List Int):=⟨_,k0,k01⟩;exact qA 3 1 0 rfl rfl rfl h3 (.inl k0) k01 aE fun p4 c4 aU h7=>vQ (ah:=(hO Int (vS p4 l c4) aU::hB b4 [vS p2 Coefs c2,vI (W ((W (x*a0.Const))+(W (y*b.Const))))]::hB b3 [z0,vI 0]::hB b2 (cAff b p1 c1)::hB b1 (cAff a0 p c)::hf)) rfl<|yM [hO Int (vS p4 l c4) aU] iR ⟨_,_,_,rfl,rfl,h7⟩
   rintro aR ae _ _ ⟨p4,c4,aU,rfl,rfl,h7⟩;refine xD [1,3,4,6,8,9,10,43] rfl ?_;have ⟨h1,h,H⟩:=m3 ae h1 h H;exact yD 20 [] [44] rfl<|yS 1 [vS p4 l c4,vI (W ((W (x*a0.Const))+(W (y*b.Const))))] rfl<|zU rfl<|zP<|zK<|zM<|yL [] [10] rfl<|yX<|mC<|ih (W (i+1)) l _ N H h1 h h7 hg ho hx
 intro hc N;exact vC<|wH (zW [0,1,2] rfl (by decide))<|yQ<|hx _ _ _ _ _ (zE N).symm H h3
def jQ (a0:zA) (x:Int) (b:zA) (y:Int):Option (zA):=do
 let Coefs1<-pF a0 x b y 0 ([]:List Int);pure (zA.mk Coefs1 (W ((W (x*a0.Const))+(W (y*b.Const)))))
theorem zCE:∀ a0 x b y r,jQ a0 x b y=some r->∀ {I:Imm}{p c p1 c1},(S4 I p a0.Coefs c)->(S4 I p1 b.Coefs c1)->RT 156 [vA (cAff a0 p c),vI x,vA (cAff b p1 c1),vI y] I [] (nA  r):=by
 intro a0 x b y r N I p c p1 c1 h h1;unfold jQ at N;refine yJ func156 fun B=>yA<|vD (cAff a0 p c) ?_;intro b1 hb;refine vD (cAff b p1 c1) ?_;intro b2 hb1;refine xU [z0,vI 0] ?_;intro b3 hb2;refine zU rfl<|yT<|vU 10 [2,1] [(20,vA [z0,vI (W ((W (x*a0.Const))+(W (y*b.Const))))])]<|xU [z0,vI 0] ?_;intro b4 hb3;refine yS 0 [z0,vI (W ((W (x*a0.Const))+(W (y*b.Const))))] rfl<|zU rfl<|zZ<|yI [10] rfl<|wQ<|pM [(1,vI x),(3,vI y),(4,vP b1 0),(6,vP b2 0),(8,vP b3 0),(9,vP b4 0),(10,vI 0)]<|zAP Int fun h2=>?_;obtain ⟨o0,az,aG⟩:=zB N;refine zDw a0 x b y 0 ([]:List Int) o0 az iR h1 h h2 nG nO ?_;intro aV Coefs1 p3 c3 aw heq aB h4;subst o0;refine zR<|yT<|vU 1 [1] [(45,vA [vS p3 Coefs1 c3,vI (W ((W (x*a0.Const))+(W (y*b.Const))))])]<|yS 2 [vS p3 Coefs1 c3,vI (W ((W (x*a0.Const))+(W (y*b.Const))))] rfl<|zU rfl<|xL<|xA 0 rfl ?_;intro bv aF hl01;have h8:=SL.of_frozen hl01 aF h4;exact xO aG (resC 1 rfl rfl) zN ⟨_,rfl,rfl,⟨_,rfl,(yK ⟨_,rfl,h8⟩)⟩⟩
def zGs (b0:Nat) (r:zF×zO):KT:=fun kk I' ah v=>
  ∃ v0 k0,ah=[.blk b0 ⟨k0⟩]/\v=tupV [v0]/\(∃ cs,v0=.agg ⟨cs⟩/\Rp.rep I' cs r.1)/\Rp.rep I' k0 r.2
def zAY (r0:zO) (aa:Int):Option (zF×zO):=do
 let (y1,y2)<-xE r0 ([0,0,1,0,(-1)]:List Int);let y3<-vH y1;let (y5,y6)<-xE y2 ([3,4,2,3,1]:List Int);let y7<-vH y5;let (t23,x)<-(do
   if (decide (aa>0)) then
    let (y9,y10)<-xG y6 4;pure ((y9==0),y10)
   else
    pure (false,y6)
     : Option (Bool×zO))
 let (x1,x2,x3)<-(do
   if t23 then
    let (y12,y13)<-xG x aa;let (y15,y16)<-xG y13 2;let (x4,x5)<-(do
      if (y15==0) then
       let y17<-jF y12;pure (y17,(zA.mk y7.Coefs y7.Const))
      else
       let y18<-jF y12;let y19<-vH 1;let y20<-jQ y18 1 y19 1;pure ((zA.mk y3.Coefs y3.Const),y20)
        : Option (zA×zA))
    pure (x4,x5,y16)
   else
    pure ((zA.mk y3.Coefs y3.Const),(zA.mk y7.Coefs y7.Const),x)
     : Option (zA×zA×zO))
 let (y22,y23)<-xG x3 12;let (Lo,Hi,x6)<-(do
   if (y22==0) then
    let (y25,y26)<-xE y23 ([3,2,4]:List Int);let y27<-vH y25;let l<-app 32 ([x2]:List zA) ([y27]:List zA);pure (([x1]:List zA),l,y26)
   else
    let (Lo1,x7)<-(do
      if (y22==1) then
       let (y29,y30)<-xE y23 ([0,1]:List Int);let y31<-vH y29;let l1<-app 32 ([x1]:List zA) ([y31]:List zA);pure (l1,y30)
      else
       pure (([x1]:List zA),y23)
        : Option (List zA×zO))
    pure (Lo1,([x2]:List zA),x7)
     : Option (List zA×List zA×zO))
 pure ((zF.mk Lo Hi),x6)
theorem zIR:∀ r0 aa r,zAY r0 aa=some r->∀ {I:Imm}{ar}{p c},(S4 I p r0.b c)->RT 198 [vP ar 0,vI aa] I [hB ar (cRd r0 p c)] (zGs ar r):=by
 intro r0 aa r N I ar p c h;unfold zAY at N;refine yJ func198 fun B=>?_;have H:=iS I;refine yA<|xU zTwo ?_;intro b hb;refine zU rfl<|yT<|yD 1 [] [9] rfl<|mE (rI [0,0,1,0,(-1)]) ?_;intro b1 I0 le h2;have ⟨h,H⟩:=m2 le h H;refine tU (zY [1,0] (ah:=[hB ar (cRd r0 p c),hB b zTwo])) ?_;obtain ⟨⟨y1,y2⟩,hy,N⟩:=zB N;refine rC (xQ r0 ([0,0,1,0,(-1)]:List Int) _ hy h h2) rfl ?_;rintro aR av v2 k2 ae - ⟨v0,kk,rfl,rfl,rfl,h4⟩ -;have H:=H.trans ae;obtain ⟨p1,c1,rfl,h5⟩:=yB h4;obtain ⟨y3,ax,N⟩:=zB N;refine xJ (uW y1 _ ax ) ?_;rintro aV av v2 k2 aB - ⟨p2,c2,cs,rfl,rfl,h6⟩ -;have ⟨h5,H⟩:=m2 aB h5 H;refine xU [z0,vI 0] ?_;intro b2 hb2;refine yS 0 (cAff y3 p2 c2) rfl<|zU rfl<|yT<|yD 1 [] [13] rfl<|mE (rI [3,4,2,3,1]) ?_;intro b3 bv aF h8;have ⟨h6,h5,H⟩:=m3 aF h6 h5 H;refine tU (zY [2,0,1,3] (ah:=[hB ar (cRd y2 p1 c1),hB b2 (cAff y3 p2 c2),hO Int (vS p2 y3.Coefs c2) cs,hB b zTwo])) ?_;obtain ⟨⟨y5,y6⟩,aE,N⟩:=zB N;refine rC (xQ y2 ([3,4,2,3,1]:List Int) _ aE h5 h8) rfl ?_;rintro bH av v2 k2 aX - ⟨v02,kk1,rfl,rfl,rfl,h10⟩ -;have ⟨h6,H⟩:=m2 aX h6 H;obtain ⟨p3,c3,rfl,h11⟩:=yB h10;obtain ⟨y7,bj,N⟩:=zB N;refine xJ (uW y5 _ bj ) ?_;rintro bO av v2 k2 bi - ⟨p4,c4,aw,rfl,rfl,h12⟩ -;have ⟨h11,h6,H⟩:=m3 bi h11 h6 H;refine xU [z0,vI 0] ?_;intro b4 hb4;refine yS 0 (cAff y7 p4 c4) rfl<|zU rfl<|zZ<|yC ?_;obtain ⟨o0,az,aT⟩:=zB N;refine nT (fun I' ah m'=>∃ (t23:Bool) (x:zO) (p5:Option Addr) (c5:Nat),o0=(t23,x)/\bO.le I'/\(S4 I' p5 x.b c5)/\ah=[hB b4 (cAff y7 p4 c4),hO Int (vS p4 y7.Coefs c4) aw,hB ar (cRd x p5 c5),hB b2 (cAff y3 p2 c2),hO Int (vS p2 y3.Coefs c2) cs,hB b zTwo]/\m'=[(0,vP ar 0),(1,vI aa),(4,vP b 0),(5,vP b2 0),(6,vP b4 0),(23,.bool t23)]) ?_ ?_
 · have H:=iS bO;refine zM<|yD 3 [] [19] rfl<|wD [19] az ?_ ?_
   · intro hc N;refine yD 4 [] [20] rfl<|tU (zY [2,0,1,3,4,5] (ah:=[hB ar (cRd y6 p3 c3),hB b4 (cAff y7 p4 c4),hO Int (vS p4 y7.Coefs c4) aw,hB b2 (cAff y3 p2 c2),hO Int (vS p2 y3.Coefs c2) cs,hB b zTwo])) ?_;obtain ⟨⟨y9,y10⟩,bt,N⟩:=zB N;refine rC (xZ y6 4 _ bt h11) rfl ?_;rintro I07 av v2 k2 bB - ⟨v04,kk2,rfl,rfl,rfl,h15⟩ -;have H:=H.trans bB;obtain ⟨p6,c6,rfl,h16⟩:=yB h15;exact yL [] [23] rfl<|wH (zW [1,2,0,3,4,5] rfl (by decide))<|yQ<|zT ⟨_,_,_,_,(zE N).symm,H,h16,rfl,rfl⟩
   intro hc N;exact wT [] [(23,vF)]<|yQ<|zT ⟨_,_,_,_,(zE N).symm,H,h11,rfl,rfl⟩
 rintro I06 av m2 ⟨t23,x,p5,c5,heq,le7,h13,rfl,rfl⟩;subst o0;have ⟨h12,h6,H⟩:=m3 le7 h12 h6 H;refine zK<|oJ 4 rfl ?_;intro I08 le8 hl02;have h17:=SL.of_frozen hl02 le8 h6;have ⟨h12,h13,H⟩:=m3 le8 h12 h13 H;refine oJ 1 rfl ?_;intro I09 le9 hl03;have h18:=SL.of_frozen hl03 le9 h12;have ⟨h13,h17,H⟩:=m3 le9 h13 h17 H;obtain ⟨aL,aC,hMc1⟩:=zB aT;refine nT (fun I' ah m'=>∃ (x1:zA) (x2:zA) (x3:zO) (p7:Option Addr) (c7:Nat) (p8:Option Addr) (c8:Nat) (p9:Option Addr) (c9:Nat),aL=(x1,x2,x3)/\I09.le I'/\(S4 I' p7 x1.Coefs c7)/\(S4 I' p8 x2.Coefs c8)/\(S4 I' p9 x3.b c9)/\ah=[hB b4 (cAff x2 p8 c8),hB ar (cRd x3 p9 c9),hB b2 (cAff x1 p7 c7),hB b zTwo]/\m'=[(0,vP ar 0),(4,vP b 0),(5,vP b2 0),(6,vP b4 0)]) ?_ ?_
 · have H:=iS I09;refine yE aC ?_ ?_
   · intro aH N;refine yA<|yD 2 [] [24,25] rfl<|tU (zY [1,0,2,3] (ah:=[hB ar (cRd x p5 c5),hB b4 (cAff y7 p4 c4),hB b2 (cAff y3 p2 c2),hB b zTwo])) ?_;obtain ⟨⟨y12,y13⟩,bD,N⟩:=zB N;refine rC (xZ x aa _ bD h13) rfl ?_;rintro bW av v2 k2 le10 - ⟨v06,kk3,rfl,rfl,rfl,h23⟩ -;have ⟨h18,h17,H⟩:=m3 le10 h18 h17 H;obtain ⟨aM,aP,rfl,h24⟩:=yB h23;refine yL [] [7] rfl<|yT<|yD 1 [] [27] rfl ?_;obtain ⟨⟨y15,y16⟩,hy6,N⟩:=zB N;refine rC (xZ y13 2 _ hy6 h24) rfl ?_;rintro bS av v2 k2 le11 - ⟨v08,kk4,rfl,rfl,rfl,h26⟩ -;have ⟨h18,h17,H⟩:=m3 le11 h18 h17 H;obtain ⟨aI,aQ,rfl,h27⟩:=yB h26;refine yL [] [29] rfl<|zK ?_;obtain ⟨o02,ho02,hMc2⟩:=zB N;refine nT (fun I' ah m'=>∃ (x4:zA) (x5:zA) (bm:Option Addr) (aW:Nat) (aS:Option Addr) (bc:Nat),o02=(x4,x5)/\bS.le I'/\(S4 I' bm x4.Coefs aW)/\(S4 I' aS x5.Coefs bc)/\ah=[hB ar (cRd y16 aI aQ),hB b4 (cAff x5 aS bc),hB b2 (cAff x4 bm aW),hB b zTwo]/\m'=[(0,vP ar 0),(4,vP b 0),(5,vP b2 0),(6,vP b4 0)]) ?_ ?_
     · have H:=iS bS;refine yE ho02 ?_ ?_
       · intro bf N;refine zM<|yD 1 [] [30] rfl<|bE N fun y17 hy7 N=>xJ (zAT y12 _ hy7 ) ?_;rintro I014 av v2 k2 le12 - ⟨v010,rfl,rfl,⟨aU,rfl,h30⟩⟩ -;have ⟨h18,H⟩:=m2 le12 h18 H;obtain ⟨p14,c14,rfl,h31⟩:=yG h30;exact yS 2 (cAff y17 p14 c14) rfl<|zU rfl<|yQ<|zT ⟨_,_,_,_,_,_,(zE N).symm,H,h31,h18,rfl,rfl⟩
       intro bf N;refine zM<|yD 1 [] [32] rfl<|bE N fun y18 hy8 N=>xJ (zAT y12 _ hy8 ) ?_;rintro I015 av v2 k2 le13 - ⟨v012,rfl,rfl,⟨aO,rfl,h32⟩⟩ -;have ⟨h17,H⟩:=m2 le13 h17 H;obtain ⟨p15,c15,rfl,h33⟩:=yG h32;obtain ⟨y19,hy9,N⟩:=zB N;refine xJ (uW 1 _ hy9 ) ?_;rintro I016 av v2 k2 le14 - ⟨p16,c16,bw,rfl,rfl,h34⟩ -;have ⟨h33,h17,H⟩:=m3 le14 h33 h17 H;refine wC 0 rfl ?_;intro I017 le15 hl04;have h35:=SL.of_frozen hl04 le15 h34;have ⟨h33,h17,H⟩:=m3 le15 h33 h17 H;obtain ⟨y20,hy10,N⟩:=zB N;refine xJ (zCE y18 1 y19 1 _ hy10 h33 h35) ?_;rintro I018 av v2 k2 le16 - ⟨v014,rfl,rfl,⟨bC,rfl,h36⟩⟩ -;have ⟨h17,H⟩:=m2 le16 h17 H;obtain ⟨p17,c17,rfl,h37⟩:=yG h36;exact yS 1 (cAff y20 p17 c17) rfl<|zU rfl<|yQ<|zT ⟨_,_,_,_,_,_,(zE N).symm,H,h17,h37,rfl,rfl⟩
     rintro I013 av m2 ⟨x4,x5,bm,aW,aS,bc,heq1,le17,h28,h29,rfl,rfl⟩;subst o02;have ⟨h27,H⟩:=m2 le17 h27 H;exact wH (zW [1,0,2,3] rfl (by decide))<|yQ<|zT ⟨_,_,_,_,_,_,_,_,_,(zE hMc2).symm,H,h28,h29,h27,rfl,rfl⟩
   intro aH N;exact zS<|yQ<|zT ⟨_,_,_,_,_,_,_,_,_,(zE N).symm,H,h17,h18,h13,rfl,rfl⟩
 rintro bL av m2 ⟨x1,x2,x3,p7,c7,p8,c8,p9,c9,heq2,le18,h19,h20,h21,rfl,rfl⟩;subst aL;have H:=H.trans le18;refine yT<|vU 1 [2] [(36,vA (cAff x1 p7 c7))]<|tK (cAff x1 p7 c7) zA ?_;intro b5 hb5;have h38:RL bL (cAff x1 p7 c7) ([x1]:List zA):=⟨(cAff x1 p7 c7),_,rfl,rfl,(yK ⟨_,rfl,h19⟩),rfl⟩;refine vU 3 [1] [(38,vA (cAff x2 p8 c8))]<|tK (cAff x2 p8 c8) zA ?_;intro b6 hb6;have h39:RL bL (cAff x2 p8 c8) ([x2]:List zA):=⟨(cAff x2 p8 c8),_,rfl,rfl,(yK ⟨_,rfl,h20⟩),rfl⟩;refine yD 5 [] [40] rfl<|xU zTwo ?_;intro b7 hb7;refine yS 0 [vS (some ⟨b5,0,none⟩) ([x1]:List zA) 1,vS (some ⟨b6,0,none⟩) ([x2]:List zA) 1] rfl<|zU rfl<|zZ<|yA<|yD 1 [] [41] rfl<|tU (zY [4,0,1,2,3,5,6] (ah:=[hB ar (cRd x3 p9 c9),hB b7 [vS (some ⟨b5,0,none⟩) ([x1]:List zA) 1,vS (some ⟨b6,0,none⟩) ([x2]:List zA) 1],hO zA (vS (some ⟨b6,0,none⟩) ([x2]:List zA) 1) (cAff x2 p8 c8),hO zA (vS (some ⟨b5,0,none⟩) ([x1]:List zA) 1) (cAff x1 p7 c7),hB b4 (cAff x2 p8 c8),hB b2 (cAff x1 p7 c7),hB b zTwo])) ?_;obtain ⟨⟨y22,y23⟩,hy11,N⟩:=zB hMc1;refine rC (xZ x3 12 _ hy11 h21) rfl ?_;rintro I019 av v2 k2 le19 - ⟨v016,kk5,rfl,rfl,rfl,h41⟩ -;have ⟨h38,h39,H⟩:=m3 le19 h38 h39 H;obtain ⟨p18,c18,rfl,h42⟩:=yB h41;refine zU rfl<|wQ<|yI [43] rfl<|zK<|oJ 4 rfl ?_;intro I020 le20 hl05;have ap:At I020 ⟨b4,0,none⟩ (cAff x2 p8 c8):=At.of_blk hl05;have ⟨h42,h38,h39,H⟩:=m4 le20 h42 h38 h39 H;refine oJ 4 rfl ?_;intro I021 le21 hl06;have ay:At I021 ⟨b2,0,none⟩ (cAff x1 p7 c7):=At.of_blk hl06;have ⟨h42,h38,h39,H⟩:=m4 le21 h42 h38 h39 H;obtain ⟨o03,ho03,hMc3⟩:=zB N;refine nT (fun I' ah m'=>∃ (Lo:List zA) (Hi:List zA) (x6:zO) (p19:Option Addr) (c19:Nat) (cs6:List Value) (p20:Option Addr) (c20:Nat) (cs7:List Value) (p21:Option Addr) (c21:Nat),o03=(Lo,Hi,x6)/\I021.le I'/\(RL I' cs6 Lo)/\(RL I' cs7 Hi)/\(S4 I' p21 x6.b c21)/\ah=[hB ar (cRd x6 p21 c21),hB b7 [vS p19 Lo c19,vS p20 Hi c20],hO zA (vS p20 Hi c20) cs7,hO zA (vS p19 Lo c19) cs6,hB b zTwo]/\m'=[(4,vP b 0),(8,vP b7 0)]) ?_ ?_
 · have H:=iS I021;refine yE ho03 ?_ ?_
   · intro bG N;obtain ⟨⟨y25,y26⟩,hy12,N⟩:=zB N;obtain ⟨y27,hy13,N⟩:=zB N;obtain ⟨l,hy14,N⟩:=zB N;refine wV [.p (vP b7 1) [],.p (vS (some ⟨b6,0,none⟩) ([x2]:List zA) 1) [0],.p (vP ar 0) [],.x (fun I' v hx=>∃ b8,v=vS (some ⟨b8,0,none⟩) ([3,2,4]:List Int) 3/\hx=[]/\(SL I' (vS (some ⟨b8,0,none⟩) ([3,2,4]:List Int) 3) ([3,2,4]:List Int))),.x (fun I' v hx=>∃ p22 c22,v=vI y25/\hx=[hB ar (cRd y26 p22 c22)]/\(S4 I' p22 y26.b c22)),.x (fun I' v hx=>∃ p23 c23 cs8,v=vA (cAff y27 p23 c23)/\hx=[hO Int (vS p23 y27.Coefs c23) cs8]/\(RL I' cs8 y27.Coefs)),.x (fun I' v hx=>∃ b9,v=vS (some ⟨b9,0,none⟩) ([y27]:List zA) 1/\hx=[]/\(SL I' (vS (some ⟨b9,0,none⟩) ([y27]:List zA) 1) ([y27]:List zA))),.x (fun I' v hx=>∃ p24 c24 cs9,v=vS p24 l c24/\hx=[hO zA (vS p24 l c24) cs9]/\(RL I' cs9 l))] [[],[(0,false)],[],[],[(2,false),(3,false),(10,true)],[(4,false)],[(5,true)],[(1,false),(6,false),(11,true)]] [hB b7 [vS (some ⟨b5,0,none⟩) ([x1]:List zA) 1,vS (some ⟨b6,0,none⟩) ([x2]:List zA) 1],hO zA (vS (some ⟨b5,0,none⟩) ([x1]:List zA) 1) (cAff x1 p7 c7),hB b zTwo] [[hB ar (cRd y23 p18 c18)],[hO zA (vS (some ⟨b6,0,none⟩) ([x2]:List zA) 1) (cAff x2 p8 c8)]] [(4,true),(7,true)] (zY [1,3,4,0,2]) ?_ ?_
     · refine O3<|Ox ?_<|Ox ?_<|Ox ?_<|Ox ?_<|Ox ?_<|On
       · intro I1 hf ae;refine I_h [] ?_;have H:=iS I1;refine mE (rI [3,2,4]) ?_;intro b8 I023 le22 h47;have H:=H.trans le22;exact yM [] H ⟨_,rfl,rfl,h47⟩
       · rintro I1 hf ae _ _ ⟨rfl,rfl⟩ _ _ ⟨b8,rfl,rfl,h47⟩ _ _ rfl;refine xD [47,48] rfl ?_;have H:=iS I1;have h42:=h42.mono ae;refine rC (xQ y23 ([3,2,4]:List Int) _ hy12 h42 h47) rfl ?_;rintro I024 av v2 k2 le23 - ⟨v018,kk6,rfl,rfl,rfl,h49⟩ -;have H:=H.trans le23;obtain ⟨p22,c22,rfl,h50⟩:=yB h49;exact yM [hB ar (cRd y26 p22 c22)] H ⟨_,_,rfl,rfl,h50⟩
       · rintro I1 hf ae _ _ ⟨p22,c22,rfl,rfl,h50⟩;refine xD [49] rfl ?_;have H:=iS I1;refine xJ (uW y25 _ hy13 ) ?_;rintro I025 av v2 k2 le24 - ⟨p23,c23,cs8,rfl,rfl,h51⟩ -;have H:=H.trans le24;exact yM [hO Int (vS p23 y27.Coefs c23) cs8] H ⟨_,_,_,rfl,rfl,h51⟩
       · rintro I1 hf ae _ _ ⟨p23,c23,cs8,rfl,rfl,h51⟩;refine xD [50] rfl ?_;have H:=iS I1;refine wC 0 rfl ?_;intro I026 le25 hl08;have h52:=SL.of_frozen hl08 le25 h51;have H:=H.trans le25;refine mE (rc y27 (yK ⟨_,rfl,h52⟩) rN) ?_;intro b9 I027 le26 h54;have H:=H.trans le26;exact yM [] H ⟨_,rfl,rfl,h54⟩
       rintro I1 hf ae _ _ ⟨rfl,rfl⟩ _ _ ⟨b9,rfl,rfl,h54⟩ _ _ rfl;refine xD [46,51] rfl ?_;have h39:=iM ae h39;obtain ⟨aK,k0,k01⟩:=h54;have h54:SL I1 (vS (some ⟨b9,0,none⟩) ([y27]:List zA) 1) ([y27]:List zA):=⟨_,k0,k01⟩;exact qA 69 2 0 rfl rfl rfl h39 (.inl k0) k01 hy14 fun p24 c24 cs9 h55=>vQ (ah:=(hO zA (vS p24 l c24) cs9::hB b7 [vS (some ⟨b5,0,none⟩) ([x1]:List zA) 1,vS (some ⟨b6,0,none⟩) ([x2]:List zA) 1]::hO zA (vS (some ⟨b5,0,none⟩) ([x1]:List zA) 1) (cAff x1 p7 c7)::hB b zTwo::hf)) rfl<|yM [hO zA (vS p24 l c24) cs9] iR ⟨_,_,_,rfl,rfl,h55⟩
     rintro I028 le27 _ _ ⟨p22,c22,rfl,rfl,h50⟩ _ _ ⟨p24,c24,cs9,rfl,rfl,h55⟩;refine xD [4,8,52] rfl ?_;have ⟨h38,H⟩:=m2 le27 h38 H;exact yD 9 [] [53] rfl<|yS 2 [vS (some ⟨b5,0,none⟩) ([x1]:List zA) 1,vS p24 l c24] rfl<|zU rfl<|wH (zW [1,2,0,3,4] rfl (by decide))<|yQ<|zT ⟨_,_,_,_,_,_,_,_,_,_,_,(zE N).symm,H,h38,h55,h50,rfl,rfl⟩
   intro bG N;refine yI [54] rfl<|zK ?_;obtain ⟨o04,ho04,hMc4⟩:=zB N;refine nT (fun I' ah m'=>∃ (Lo1:List zA) (x7:zO) (p25:Option Addr) (c25:Nat) (cs10:List Value) (p26:Option Addr) (c26:Nat),o04=(Lo1,x7)/\I021.le I'/\(RL I' cs10 Lo1)/\(S4 I' p26 x7.b c26)/\ah=[hB ar (cRd x7 p26 c26),hB b7 [vS p25 Lo1 c25,vS (some ⟨b6,0,none⟩) ([x2]:List zA) 1],hO zA (vS (some ⟨b6,0,none⟩) ([x2]:List zA) 1) (cAff x2 p8 c8),hO zA (vS p25 Lo1 c25) cs10,hB b zTwo]/\m'=[(4,vP b 0),(8,vP b7 0)]) ?_ ?_
   · have H:=iS I021;refine yE ho04 ?_ ?_
     · intro bN N;obtain ⟨⟨y29,y30⟩,hy15,N⟩:=zB N;obtain ⟨y31,hy16,N⟩:=zB N;obtain ⟨l1,hy17,N⟩:=zB N;refine wV [.p (vP b7 0) [],.p (vS (some ⟨b5,0,none⟩) ([x1]:List zA) 1) [0],.p (vP ar 0) [],.x (fun I' v hx=>∃ b10,v=vS (some ⟨b10,0,none⟩) ([0,1]:List Int) 2/\hx=[]/\(SL I' (vS (some ⟨b10,0,none⟩) ([0,1]:List Int) 2) ([0,1]:List Int))),.x (fun I' v hx=>∃ p27 c27,v=vI y29/\hx=[hB ar (cRd y30 p27 c27)]/\(S4 I' p27 y30.b c27)),.x (fun I' v hx=>∃ p28 c28 cs11,v=vA (cAff y31 p28 c28)/\hx=[hO Int (vS p28 y31.Coefs c28) cs11]/\(RL I' cs11 y31.Coefs)),.x (fun I' v hx=>∃ b11,v=vS (some ⟨b11,0,none⟩) ([y31]:List zA) 1/\hx=[]/\(SL I' (vS (some ⟨b11,0,none⟩) ([y31]:List zA) 1) ([y31]:List zA))),.x (fun I' v hx=>∃ p29 c29 cs12,v=vS p29 l1 c29/\hx=[hO zA (vS p29 l1 c29) cs12]/\(RL I' cs12 l1))] [[],[(0,false)],[],[],[(2,false),(3,false),(10,true)],[(4,false)],[(5,true)],[(1,false),(6,false),(11,true)]] [hB b7 [vS (some ⟨b5,0,none⟩) ([x1]:List zA) 1,vS (some ⟨b6,0,none⟩) ([x2]:List zA) 1],hO zA (vS (some ⟨b6,0,none⟩) ([x2]:List zA) 1) (cAff x2 p8 c8),hB b zTwo] [[hB ar (cRd y23 p18 c18)],[hO zA (vS (some ⟨b5,0,none⟩) ([x1]:List zA) 1) (cAff x1 p7 c7)]] [(4,true),(7,true)] (zY [1,2,4,0,3]) ?_ ?_
       · refine O3<|Ox ?_<|Ox ?_<|Ox ?_<|Ox ?_<|Ox ?_<|On
         · intro I1 hf ae;refine I_h [] ?_;have H:=iS I1;refine mE (rI [0,1]) ?_;intro b10 I030 le28 h59;have H:=H.trans le28;exact yM [] H ⟨_,rfl,rfl,h59⟩
         · rintro I1 hf ae _ _ ⟨rfl,rfl⟩ _ _ ⟨b10,rfl,rfl,h59⟩ _ _ rfl;refine xD [58,59] rfl ?_;have H:=iS I1;have h42:=h42.mono ae;refine rC (xQ y23 ([0,1]:List Int) _ hy15 h42 h59) rfl ?_;rintro I031 av v2 k2 le29 - ⟨v020,kk7,rfl,rfl,rfl,h61⟩ -;have H:=H.trans le29;obtain ⟨p27,c27,rfl,h62⟩:=yB h61;exact yM [hB ar (cRd y30 p27 c27)] H ⟨_,_,rfl,rfl,h62⟩
         · rintro I1 hf ae _ _ ⟨p27,c27,rfl,rfl,h62⟩;refine xD [60] rfl ?_;have H:=iS I1;refine xJ (uW y29 _ hy16 ) ?_;rintro I032 av v2 k2 le30 - ⟨p28,c28,cs11,rfl,rfl,h63⟩ -;have H:=H.trans le30;exact yM [hO Int (vS p28 y31.Coefs c28) cs11] H ⟨_,_,_,rfl,rfl,h63⟩
         · rintro I1 hf ae _ _ ⟨p28,c28,cs11,rfl,rfl,h63⟩;refine xD [61] rfl ?_;have H:=iS I1;refine wC 0 rfl ?_;intro I033 le31 hl011;have h64:=SL.of_frozen hl011 le31 h63;have H:=H.trans le31;refine mE (rc y31 (yK ⟨_,rfl,h64⟩) rN) ?_;intro b11 I034 le32 h66;have H:=H.trans le32;exact yM [] H ⟨_,rfl,rfl,h66⟩
         rintro I1 hf ae _ _ ⟨rfl,rfl⟩ _ _ ⟨b11,rfl,rfl,h66⟩ _ _ rfl;refine xD [57,62] rfl ?_;have h38:=iM ae h38;obtain ⟨bo,k02,k03⟩:=h66;have h66:SL I1 (vS (some ⟨b11,0,none⟩) ([y31]:List zA) 1) ([y31]:List zA):=⟨_,k02,k03⟩;exact qA 69 2 0 rfl rfl rfl h38 (.inl k02) k03 hy17 fun p29 c29 cs12 h67=>vQ (ah:=(hO zA (vS p29 l1 c29) cs12::hB b7 [vS (some ⟨b5,0,none⟩) ([x1]:List zA) 1,vS (some ⟨b6,0,none⟩) ([x2]:List zA) 1]::hO zA (vS (some ⟨b6,0,none⟩) ([x2]:List zA) 1) (cAff x2 p8 c8)::hB b zTwo::hf)) rfl<|yM [hO zA (vS p29 l1 c29) cs12] iR ⟨_,_,_,rfl,rfl,h67⟩
       rintro I035 le33 _ _ ⟨p27,c27,rfl,rfl,h62⟩ _ _ ⟨p29,c29,cs12,rfl,rfl,h67⟩;refine xD [4,8,63] rfl ?_;have H:=H.trans le33;exact yD 9 [] [64] rfl<|yS 2 [vS p29 l1 c29,vS (some ⟨b6,0,none⟩) ([x2]:List zA) 1] rfl<|zU rfl<|wH (zW [1,2,3,0,4] rfl (by decide))<|yQ<|zT ⟨_,_,_,_,_,_,_,(zE N).symm,H,h67,h62,rfl,rfl⟩
     intro bN N;exact zS<|yQ<|zT ⟨_,_,_,_,_,_,_,(zE N).symm,H,h38,h42,rfl,rfl⟩
   rintro I029 av m2 ⟨Lo1,x7,p25,c25,cs10,p26,c26,heq3,le34,h56,h57,rfl,rfl⟩;subst o04;have ⟨h39,H⟩:=m2 le34 h39 H;exact yQ<|zT ⟨_,_,_,_,_,_,_,_,_,_,_,(zE hMc4).symm,H,h56,h39,h57,rfl,rfl⟩
 rintro I022 av m2 ⟨Lo,Hi,x6,p19,c19,cs6,p20,c20,cs7,p21,c21,heq4,le35,h43,h44,h45,rfl,rfl⟩;subst o03;refine zP<|yT<|vU 1 [1] [(65,vA [vS p19 Lo c19,vS p20 Hi c20])]<|yS 4 [vS p19 Lo c19,vS p20 Hi c20] rfl<|zU rfl<|xL<|xA 3 rfl ?_;intro I036 le36 hl013;have h68:=SL.of_frozen hl013 le36 h43;have ⟨h45,h44⟩:=m2 le36 h45 h44;refine xA 2 rfl ?_;intro I037 le37 hl014;have h69:=SL.of_frozen hl014 le37 h44;have ⟨h45,h68⟩:=m2 le37 h45 h68;exact xO hMc3 (resC 2 rfl rfl) (zW [0] rfl (by decide)) ⟨_,_,rfl,rfl,⟨_,rfl,(uM ⟨_,_,rfl,h68,h69⟩)⟩,(yY ⟨_,rfl,h45⟩)⟩
def zGt (b0:Nat) (r:(List zF)×zO):KT:=fun kk I' ah v=>
  ∃ v0 k0,ah=[.blk b0 ⟨k0⟩]/\v=tupV [v0]/\SL I' v0 r.1/\Rp.rep I' k0 r.2
def mU (out:List zF) (i:Int) (x:zO):Option ((List zF×zO)):=do
 if (decide (i>0)) then
  let (y4,y5)<-zAY x (out.length:Int);let au<-app 48 out ([y4]:List zF);mU au (W (i - 1)) y5
 else pure (out,x)
 partial_fixpoint
theorem zGG :∀ (out:List zF) (i:Int) (x:zO) (o:(List zF×zO)),mU out i x=some o->∀ {B}{I0 I:Imm}{Q}  {ar}{p2 c2 cs p3 c3},I0.le I->(RL I cs out)->(S4 I p3 x.b c3)->NG Q->NO Q->(∀ I' am x1 p4 c4 aw p5 c5,o=(am,x1)->I0.le I'->(RL I' aw am)->(S4 I' p5 x1.b c5)->T 21 B Q (.exit 0) I' [hB ar (cRd x1 p5 c5),hO zF (vS p4 am c4) aw] [(3,vS p4 am c4)])->J Tryz.prog 21 B (nav (bodyOf f182) [1,1,0,1,0]) Q I [hB ar (cRd x p3 c3),hO zF (vS p2 out c2) cs] [(0,vP ar 0),(3,vS p2 out c2),(4,vI i)]:=by
 refine mU.partial_correctness  _ fun aJ ih out i x o N B I0 I Q ar p2 c2 cs p3 c3 H h7 h8 hg ho hx=>yZ hg ho<|yC<|yI [10] rfl<|zK<|yE N ?_ ?_
 · intro hc N;refine zS<|zZ<|yH<|zM<|yD 4 [] [13,14,16] rfl ?_;obtain ⟨⟨y4,y5⟩,ax,N⟩:=zB N;refine rC (zIR x (out.length:Int) _ ax h8) rfl ?_;rintro aV av v2 k2 aB - ⟨v02,kk1,rfl,rfl,⟨aU,rfl,h11⟩,h12⟩ -;have ⟨h7,H⟩:=m2 aB h7 H;obtain ⟨p6,c6,p7,c7,rfl,h13,h14⟩:=vJ h11;obtain ⟨p8,c8,rfl,h15⟩:=yB h12;refine tK (cLoop y4 p6 c6 p7 c7) zF ?_;intro b2 hb2;have h16:RL aV (cLoop y4 p6 c6 p7 c7) ([y4]:List zF):=⟨(cLoop y4 p6 c6 p7 c7),_,rfl,rfl,(uM ⟨_,_,rfl,h13,h14⟩),rfl⟩;obtain ⟨au,aE,N⟩:=zB N;exact qA 130 2 2 rfl rfl rfl h7 (.inr ⟨0,rfl⟩) h16 aE fun p9 c9 aO h17=>tU (zY [1,2] (ah:=[hB ar (cRd y5 p8 c8),hO zF (vS p9 au c9) aO]))<|yL [] [3] rfl<|zP<|zK<|zM<|yL [] [4] rfl<|yX<|mC<|ih au (W (i - 1)) y5 _ N H h17 h15 hg ho hx
 intro hc N;exact vC<|yQ<|hx _ _ _ _ _ _ _ _ (zE N).symm H h7 h8
def zAZ (r0:zO):Option ((List zF)×zO):=do
 let (y1,y2)<-xE r0 ([2,1,2,3]:List Int);let (am,x1)<-mU ([]:List zF) y1 y2;pure (am,x1)
theorem zIS:∀ r0 r,zAZ r0=some r->∀ {I:Imm}{ar}{p c},(S4 I p r0.b c)->RT 182 [vP ar 0] I [hB ar (cRd r0 p c)] (zGt ar r):=by
 intro r0 r N I ar p c h;unfold zAZ at N;refine yJ func182 fun B=>vK []<|yT<|tK [] zF ?_;intro b hb;have h1:RL I [] ([]:List zF):=rfl;refine yL [] [3] rfl<|zZ<|yA<|yD 1 [] [6] rfl<|mE (rI [2,1,2,3]) ?_;intro b1 I0 le h3;have ⟨h1,h⟩:=m2 le h1 h;refine tU (zY [1,0] (ah:=[hB ar (cRd r0 p c),hO zF (vS (some ⟨b,0,none⟩) ([]:List zF) 0) []])) ?_;obtain ⟨⟨y1,y2⟩,hy,N⟩:=zB N;refine rC (xQ r0 ([2,1,2,3]:List Int) _ hy h h3) rfl ?_;rintro aR av v2 k2 ae - ⟨v0,kk,rfl,rfl,rfl,h5⟩ -;have h1:=iM ae h1;obtain ⟨p1,c1,rfl,h6⟩:=yB h5;refine yL [] [4] rfl<|wQ<|pM [(0,vP ar 0),(3,vS (some ⟨b,0,none⟩) ([]:List zF) 0),(4,vI y1)] ?_;obtain ⟨o0,az,aG⟩:=zB N;refine zGG ([]:List zF) y1 y2 o0 az iR h1 h6 nG nO ?_;intro bv am x1 p4 c4 aw p5 c5 heq aF h9 h10;subst o0;refine zR<|uJ [2] rfl<|xL<|xA 1 rfl ?_;intro bH aX hl01;have h18:=SL.of_frozen hl01 aX h9;have h10:=h10.mono aX;exact xO aG (resT rfl) (zW [0] rfl (by decide)) ⟨_,_,rfl,rfl,h18,(yY ⟨_,rfl,h10⟩)⟩
def zGu (b0:Nat) (r:zJ×zO):KT:=fun kk I' ah v=>
  ∃ v0 k0,ah=[.blk b0 ⟨k0⟩]/\v=tupV [v0]/\(∃ cs,v0=.agg ⟨cs⟩/\Rp.rep I' cs r.1)/\Rp.rep I' k0 r.2
def mV (aa:Int) (n0:Int) (i:Int) (Subs:List zA) (x:zO):Option ((List zA×zO)):=do
 if (decide (i<n0)) then
  let (y4,y5)<-xE x ([0,1,0,2]:List Int);let y6<-vH y4;let (t32,x2)<-(do
    if (decide (aa>0)) then
     let (y8,y9)<-xG y5 5;pure ((decide (y8>0)),y9)
    else
     pure (false,y5)
      : Option (Bool×zO))
  let (x3,x4)<-(do
    if t32 then
     let (y11,y12)<-xG x2 aa;let y13<-jF y11;let (y15,y16)<-xE y12 ([1,1,1,2,(-1)]:List Int);let (y18,y19)<-xE y16 ([0,1,0,0,2]:List Int);let y20<-vH y18;let y21<-jQ y13 y15 y20 1;pure (y21,y19)
    else
     pure ((zA.mk y6.Coefs y6.Const),x2)
      : Option (zA×zO))
  let l<-app 32 Subs ([x3]:List zA);mV aa n0 (W (i+1)) l x4
 else pure (Subs,x)
 partial_fixpoint
theorem zGH (aa:Int) (n0:Int):∀ (i:Int) (Subs:List zA) (x:zO) (o:(List zA×zO)),mV aa n0 i Subs x=some o->∀ {B}{I0 I:Imm}{Q}{y1:Str}{ar b b2}{p2 c2 cs p3 c3},I0.le I->(RL I cs Subs)->(S4 I p3 x.b c3)->NG Q->NO Q->(∀ I' Subs1 x1 p4 c4 aw p5 c5,o=(Subs1,x1)->I0.le I'->(RL I' aw Subs1)->(S4 I' p5 x1.b c5)->T 53 B Q (.exit 0) I' [hO zA (vS p4 Subs1 c4) aw,hB b2 [vT y1.l,vS p4 Subs1 c4],hB ar (cRd x1 p5 c5),hB b [vT ([]),z0]] [(4,vP b 0),(5,vP b2 0)])->J Tryz.prog 53 B (nav (bodyOf f119) [1,1,1,1,0,1,0]) Q I [hO zA (vS p2 Subs c2) cs,hB b2 [vT y1.l,vS p2 Subs c2],hB ar (cRd x p3 c3),hB b [vT ([]),z0]] [(0,vP ar 0),(1,vI aa),(4,vP b 0),(5,vP b2 0),(6,vI n0),(7,vI i)]:=by
 refine mV.partial_correctness aa n0 _ fun aJ ih i Subs x o N B I0 I Q y1 ar b b2 p2 c2 cs p3 c3 H h7 h8 hg ho hx=>yZ hg ho<|yC<|yI [19] rfl<|zK<|yE N ?_ ?_
 · intro aH N;refine zS<|zZ<|yH<|yA<|yD 1 [] [22] rfl<|mE (rI [0,1,0,2]) ?_;intro b3 bv aF h12;have ⟨h7,h8,H⟩:=m3 aF h7 h8 H;refine tU (zY [2,0,1,3] (ah:=[hB ar (cRd x p3 c3),hO zA (vS p2 Subs c2) cs,hB b2 [vT y1.l,vS p2 Subs c2],hB b [vT ([]),z0]])) ?_;obtain ⟨⟨y4,y5⟩,ax,N⟩:=zB N;refine rC (xQ x ([0,1,0,2]:List Int) _ ax h8 h12) rfl ?_;rintro bH av v2 k2 aX - ⟨v02,kk1,rfl,rfl,rfl,h14⟩ -;have ⟨h7,H⟩:=m2 aX h7 H;obtain ⟨p6,c6,rfl,h15⟩:=yB h14;obtain ⟨y6,aE,N⟩:=zB N;refine xJ (uW y4 _ aE ) ?_;rintro bO av v2 k2 bi - ⟨p7,c7,aU,rfl,rfl,h16⟩ -;have ⟨h15,h7,H⟩:=m3 bi h15 h7 H;refine xU [z0,vI 0] ?_;intro b4 hb4;refine yS 0 (cAff y6 p7 c7) rfl<|zU rfl<|zZ<|yC ?_;obtain ⟨aL,aC,hMc1⟩:=zB N;refine nT (fun I' ah m'=>∃ (t32:Bool) (x2:zO) (p8:Option Addr) (c8:Nat),aL=(t32,x2)/\bO.le I'/\(S4 I' p8 x2.b c8)/\ah=[hB b4 (cAff y6 p7 c7),hO Int (vS p7 y6.Coefs c7) aU,hB ar (cRd x2 p8 c8),hO zA (vS p2 Subs c2) cs,hB b2 [vT y1.l,vS p2 Subs c2],hB b [vT ([]),z0]]/\m'=[(0,vP ar 0),(1,vI aa),(4,vP b 0),(5,vP b2 0),(6,vI n0),(7,vI i),(8,vP b4 0),(32,.bool t32)]) ?_ ?_
   · have H:=iS bO;refine zM<|yD 3 [] [28] rfl<|wD [28] aC ?_ ?_
     · intro bf N;refine yD 4 [] [29] rfl<|tU (zY [2,0,1,3,4,5] (ah:=[hB ar (cRd y5 p6 c6),hB b4 (cAff y6 p7 c7),hO Int (vS p7 y6.Coefs c7) aU,hO zA (vS p2 Subs c2) cs,hB b2 [vT y1.l,vS p2 Subs c2],hB b [vT ([]),z0]])) ?_;obtain ⟨⟨y8,y9⟩,bj,N⟩:=zB N;refine rC (xZ y5 5 _ bj h15) rfl ?_;rintro I07 av v2 k2 bB - ⟨v04,kk2,rfl,rfl,rfl,h19⟩ -;have H:=H.trans bB;obtain ⟨p9,c9,rfl,h20⟩:=yB h19;exact yL [] [32] rfl<|wH (zW [1,2,0,3,4,5] rfl (by decide))<|yQ<|zT ⟨_,_,_,_,(zE N).symm,H,h20,rfl,rfl⟩
     intro bf N;exact wT [] [(32,vF)]<|yQ<|zT ⟨_,_,_,_,(zE N).symm,H,h15,rfl,rfl⟩
   rintro I06 av m2 ⟨t32,x2,p8,c8,heq1,le7,h17,rfl,rfl⟩;subst aL;have ⟨h16,h7,H⟩:=m3 le7 h16 h7 H;refine zK<|oJ 1 rfl ?_;intro I08 le8 hl02;have h21:=SL.of_frozen hl02 le8 h16;have ⟨h17,h7,H⟩:=m3 le8 h17 h7 H;obtain ⟨o02,ho02,hMc2⟩:=zB hMc1;refine nT (fun I' ah m'=>∃ (x3:zA) (x4:zO) (aM:Option Addr) (aP:Nat) (aI:Option Addr) (aQ:Nat),o02=(x3,x4)/\I08.le I'/\(S4 I' aM x3.Coefs aP)/\(S4 I' aI x4.b aQ)/\ah=[hB b4 (cAff x3 aM aP),hB ar (cRd x4 aI aQ),hO zA (vS p2 Subs c2) cs,hB b2 [vT y1.l,vS p2 Subs c2],hB b [vT ([]),z0]]/\m'=[(0,vP ar 0),(1,vI aa),(4,vP b 0),(5,vP b2 0),(6,vI n0),(7,vI i),(8,vP b4 0)]) ?_ ?_
   · have H:=iS I08;refine yE ho02 ?_ ?_
     · intro bG N;refine yA<|yD 2 [] [33,34] rfl<|tU (zY [1,0,2,3,4] (ah:=[hB ar (cRd x2 p8 c8),hB b4 (cAff y6 p7 c7),hO zA (vS p2 Subs c2) cs,hB b2 [vT y1.l,vS p2 Subs c2],hB b [vT ([]),z0]])) ?_;obtain ⟨⟨y11,y12⟩,bt,N⟩:=zB N;refine rC (xZ x2 aa _ bt h17) rfl ?_;rintro bL av v2 k2 le9 - ⟨v06,kk3,rfl,rfl,rfl,h25⟩ -;have H:=H.trans le9;obtain ⟨bm,aW,rfl,h26⟩:=yB h25;refine yL [] [9] rfl<|zK<|zM<|yD 1 [] [36] rfl<|bE N fun y13 bD N=>xJ (zAT y11 _ bD ) ?_;rintro bW av v2 k2 le10 - ⟨v08,rfl,rfl,⟨aO,rfl,h27⟩⟩ -;have ⟨h26,H⟩:=m2 le10 h26 H;obtain ⟨aS,bc,rfl,h28⟩:=yG h27;refine yD 3 [] [38] rfl<|mE (rI [1,1,1,2,(-1)]) ?_;intro b5 bS le11 h30;have ⟨h28,h26,H⟩:=m3 le11 h28 h26 H;obtain ⟨⟨y15,y16⟩,hy6,N⟩:=zB N;refine rC (xQ y12 ([1,1,1,2,(-1)]:List Int) _ hy6 h26 h30) rfl ?_;rintro I013 av v2 k2 le12 - ⟨v010,kk4,rfl,rfl,rfl,h32⟩ -;have ⟨h28,H⟩:=m2 le12 h28 H;obtain ⟨p14,c14,rfl,h33⟩:=yB h32;refine yD 6 [] [41] rfl<|mE (rI [0,1,0,0,2]) ?_;intro b6 I014 le13 h35;have ⟨h28,h33,H⟩:=m3 le13 h28 h33 H;obtain ⟨⟨y18,y19⟩,hy7,N⟩:=zB N;refine rC (xQ y16 ([0,1,0,0,2]:List Int) _ hy7 h33 h35) rfl ?_;rintro I015 av v2 k2 le14 - ⟨v012,kk5,rfl,rfl,rfl,h37⟩ -;have ⟨h28,H⟩:=m2 le14 h28 H;obtain ⟨p15,c15,rfl,h38⟩:=yB h37;obtain ⟨y20,hy8,N⟩:=zB N;refine xJ (uW y18 _ hy8 ) ?_;rintro I016 av v2 k2 le15 - ⟨p16,c16,bw,rfl,rfl,h39⟩ -;have ⟨h28,h38,H⟩:=m3 le15 h28 h38 H;refine wC 0 rfl ?_;intro I017 le16 hl05;have h40:=SL.of_frozen hl05 le16 h39;have ⟨h28,h38,H⟩:=m3 le16 h28 h38 H;obtain ⟨y21,hy9,N⟩:=zB N;refine xJ (zCE y13 y15 y20 1 _ hy9 h28 h40) ?_;rintro I018 av v2 k2 le17 - ⟨v014,rfl,rfl,⟨bC,rfl,h41⟩⟩ -;have ⟨h38,H⟩:=m2 le17 h38 H;obtain ⟨p17,c17,rfl,h42⟩:=yG h41;exact yS 1 (cAff y21 p17 c17) rfl<|zU rfl<|wH (zW [1,0,2,3,4] rfl (by decide))<|yQ<|zT ⟨_,_,_,_,_,_,(zE N).symm,H,h42,h38,rfl,rfl⟩
     intro bG N;exact zS<|yQ<|zT ⟨_,_,_,_,_,_,(zE N).symm,H,h21,h17,rfl,rfl⟩
   rintro I09 av m2 ⟨x3,x4,aM,aP,aI,aQ,heq2,le18,h22,h23,rfl,rfl⟩;subst o02;have ⟨h7,H⟩:=m2 le18 h7 H;refine zK<|zM<|vU 3 [3,0] [(47,vS p2 Subs c2),(48,vA (cAff x3 aM aP))]<|tK (cAff x3 aM aP) zA ?_;intro b7 hb7;have h43:RL I09 (cAff x3 aM aP) ([x3]:List zA):=⟨(cAff x3 aM aP),_,rfl,rfl,(yK ⟨_,rfl,h22⟩),rfl⟩;obtain ⟨l,hy10,N⟩:=zB hMc2;refine qA 69 2 3 rfl rfl rfl h7 (.inr ⟨0,rfl⟩) h43 hy10 ?_;intro p18 c18 cs6 h44;exact tU (zY [1,2,3,4,5] (ah:=[hB b4 (cAff x3 aM aP),hB ar (cRd x4 aI aQ),hO zA (vS p18 l c18) cs6,hB b2 [vT y1.l,vS p2 Subs c2],hB b [vT ([]),z0]]))<|yD 6 [] [51] rfl<|yS 3 [vT y1.l,vS p18 l c18] rfl<|zU rfl<|zP<|zK<|zM<|yL [] [7] rfl<|yX<|qY (zW [2,3,1,4] rfl (by decide))<|mC<|ih (W (i+1)) l x4 _ N H h44 h23 hg ho hx
 intro aH N;exact vC<|yQ<|hx _ _ _ _ _ _ _ _ (zE N).symm H h7 h8
def kH (r0:zO) (aa:Int):Option (zJ×zO):=do
 let (y1,y2)<-nW r0 ([(⟨[65]⟩:Str),(⟨[66]⟩:Str),(⟨[65]⟩:Str),(⟨[67]⟩:Str)]:List Str);let n0<-(do
   if (y1.l==([66]:List UInt8)) then pure (id 2)
   else
    pure (id 1)
     : Option Int)
 let (Subs1,x1)<-mV aa n0 0 ([]:List zA) y2;pure ((zJ.mk y1 Subs1),x1)
theorem zBi:∀ r0 aa r,kH r0 aa=some r->∀ {I:Imm}{ar}{p c},(S4 I p r0.b c)->RT 119 [vP ar 0,vI aa] I [hB ar (cRd r0 p c)] (zGu ar r):=by
 intro r0 aa r N I ar p c h;unfold kH at N;refine yJ func119 fun B=>?_;have H:=iS I;refine yA<|xU [vT ([]),z0] ?_;intro b hb;refine zU rfl<|yT<|yD 1 [] [10] rfl<|mE (rT [(⟨[65]⟩:Str),(⟨[66]⟩:Str),(⟨[65]⟩:Str),(⟨[67]⟩:Str)]) ?_;intro b1 I0 le h2;have ⟨h,H⟩:=m2 le h H;refine tU (zY [1,0] (ah:=[hB ar (cRd r0 p c),hB b [vT ([]),z0]])) ?_;obtain ⟨⟨y1,y2⟩,hy,N⟩:=zB N;refine rC (zAN r0 ([(⟨[65]⟩:Str),(⟨[66]⟩:Str),(⟨[65]⟩:Str),(⟨[67]⟩:Str)]:List Str) _ hy h h2) rfl ?_;rintro aR av v2 k2 ae - ⟨v0,kk,rfl,rfl,rfl,h4⟩ -;have H:=H.trans ae;obtain ⟨p1,c1,rfl,h5⟩:=yB h4;refine yD 4 [] [13] rfl<|xU [vT ([]),z0] ?_;intro b2 hb2;refine yS 0 [vT y1.l,z0] rfl<|zU rfl<|uJ [6] rfl<|zZ<|yA<|yL [0] [16] rfl<|zK ?_;refine wU N [hB b2 [vT y1.l,z0],hB ar (cRd y2 p1 c1),hB b [vT ([]),z0]] (fun n0=>[(0,vP ar 0),(1,vI aa),(4,vP b 0),(5,vP b2 0),(6,vI n0)]) (fun o0 az=>?_) ?_
 · have H:=iS aR;refine yE az ?_ ?_
   · intro hc N;exact zM<|yL [] [6] rfl<|yQ<|zT (ct N H)
   intro hc N;exact zS<|yQ<|zT (ct N H)
 intro n0 aV aB aT;have h5:=h5.mono aB;refine zZ<|yI [7] rfl<|wQ<|pM [(0,vP ar 0),(1,vI aa),(4,vP b 0),(5,vP b2 0),(6,vI n0),(7,vI 0)]<|zAP zA fun h6=>?_;obtain ⟨o03,ho03,aG⟩:=zB aT;refine zGH aa n0 0 ([]:List zA) y2 o03 ho03 iR h6 h5 nG nO ?_;intro I019 Subs1 x1 p4 c4 aw p5 c5 heq3 le19 h9 h10;subst o03;refine zR<|yT<|vU 1 [1] [(52,vA [vT y1.l,vS p4 Subs1 c4])]<|yS 3 [vT y1.l,vS p4 Subs1 c4] rfl<|zU rfl<|xL<|xA 0 rfl ?_;intro I020 le20 hl06;have h45:=SL.of_frozen hl06 le20 h9;have h10:=h10.mono le20;exact xO aG (resC 2 rfl rfl) (zW [1] rfl (by decide)) ⟨_,_,rfl,rfl,⟨_,rfl,(oK ⟨_,rfl,h45⟩)⟩,(yY ⟨_,rfl,h10⟩)⟩
def zGv (b0:Nat) (r:zA×zO):KT:=fun kk I' ah v=>
  ∃ v0 k0,ah=[.blk b0 ⟨k0⟩]/\v=tupV [v0]/\(∃ cs,v0=.agg ⟨cs⟩/\Rp.rep I' cs r.1)/\Rp.rep I' k0 r.2
def mW (aa:Int) (i:Int) (Coefs:List Int) (x:zO):Option ((List Int×zO)):=do
 if (decide (i<aa)) then
  let (y5,y6)<-xE x ([0,1,0,(-1),2,0,9]:List Int);let x2<-idx Coefs i;let l<-pure (Coefs.set i.toNat y5);mW aa (W (i+1)) l y6
 else pure (Coefs,x)
 partial_fixpoint
theorem zGI (aa:Int):∀ (i:Int) (Coefs:List Int) (x:zO) (o:(List Int×zO)),mW aa i Coefs x=some o->∀ {B}{I0 I:Imm}{Q}{y3:zA}{ar b b2}{p3 c3 aw p4 c4},I0.le I->(RL I aw Coefs)->(S4 I p4 x.b c4)->NG Q->NO Q->(∀ I' Coefs1 x1 p5 c5 aU p6 c6,o=(Coefs1,x1)->I0.le I'->(RL I' aU Coefs1)->(S4 I' p6 x1.b c6)->T 24 B Q (.exit 0) I' [hB b2 [vS p5 Coefs1 c5,vI y3.Const],hO Int (vS p5 Coefs1 c5) aU,hB ar (cRd x1 p6 c6),hB b [z0,vI 0]] [(4,vP b 0),(5,vP b2 0)])->J Tryz.prog 24 B (nav (bodyOf f211) [1,1,0,1,0]) Q I [hB b2 [vS p3 Coefs c3,vI y3.Const],hO Int (vS p3 Coefs c3) aw,hB ar (cRd x p4 c4),hB b [z0,vI 0]] [(0,vP ar 0),(1,vI aa),(4,vP b 0),(5,vP b2 0),(6,vI i)]:=by
 refine mW.partial_correctness aa _ fun aJ ih i Coefs x o N B I0 I Q y3 ar b b2 p3 c3 aw p4 c4 H h7 h8 hg ho hx=>yZ hg ho<|yC<|yI [13] rfl<|zK<|yE N ?_ ?_
 · intro hc N;refine zS<|zZ<|yH ?_;obtain ⟨⟨y5,y6⟩,aE,N⟩:=zB N;refine wV [.p (vP b2 0) [],.p (vS p3 Coefs c3) [0],.p (vI i) [],.p (vP ar 0) [],.x (fun I' v hx=>∃ b3,v=vS (some ⟨b3,0,none⟩) ([0,1,0,(-1),2,0,9]:List Int) 7/\hx=[]/\(SL I' (vS (some ⟨b3,0,none⟩) ([0,1,0,(-1),2,0,9]:List Int) 7) ([0,1,0,(-1),2,0,9]:List Int))),.x (fun I' v hx=>∃ p7 c7,v=vI y5/\hx=[hB ar (cRd y6 p7 c7)]/\(S4 I' p7 y6.b c7))] [[],[(0,false)],[],[],[],[(3,false),(4,false),(8,true)]] [hB b2 [vS p3 Coefs c3,vI y3.Const],hO Int (vS p3 Coefs c3) aw,hB b [z0,vI 0]] [[hB ar (cRd x p4 c4)]] [(1,false),(2,false),(5,true)] (zY [0,1,3,2]) ?_ ?_
   · refine O4<|Ox ?_<|Ox ?_<|On
     · intro I1 hf ae;refine I_h [] ?_;have H:=iS I1;refine mE (rI [0,1,0,(-1),2,0,9]) ?_;intro b3 bv aF h12;have H:=H.trans aF;exact yM [] H ⟨_,rfl,rfl,h12⟩
     rintro I1 hf ae _ _ ⟨rfl,rfl⟩ _ _ ⟨b3,rfl,rfl,h12⟩ _ _ rfl;refine xD [19,20] rfl ?_;have H:=iS I1;have h8:=h8.mono ae;refine rC (xQ x ([0,1,0,(-1),2,0,9]:List Int) _ aE h8 h12) rfl ?_;rintro bH av v2 k2 aX - ⟨v02,kk1,rfl,rfl,rfl,h14⟩ -;have H:=H.trans aX;obtain ⟨p7,c7,rfl,h15⟩:=yB h14;exact yM [hB ar (cRd y6 p7 c7)] H ⟨_,_,rfl,rfl,h15⟩
   rintro bO bi _ _ ⟨rfl,rfl⟩ _ _ ⟨rfl,rfl⟩ _ _ ⟨p7,c7,rfl,rfl,h15⟩;refine xD [0,1,4,5,6,17,18,21] rfl ?_;have ⟨h7,H⟩:=m2 bi h7 H;obtain ⟨x2,bj,N⟩:=zB N;refine jH 2 rfl rfl rfl h7 bj ?_;intro ad aK ap bJ al;obtain rfl:=al;obtain ⟨l,bt,N⟩:=zB N;refine zMq 2 0 ap bJ h7 bj bt rfl ?_;intro aO h16 hl02;rw [vE hl02];exact zU rfl<|zP<|zK<|zM<|yL [] [6] rfl<|yX<|qY (zW [1,2,0,3] rfl (by decide))<|mC<|ih (W (i+1)) l y6 _ N H h16 h15 hg ho hx
 intro hc N;exact vC<|yQ<|hx _ _ _ _ _ _ _ _ (zE N).symm H h7 h8
def dJ (r0:zO) (aa:Int):Option (zA×zO):=do
 let (y1,y2)<-xE r0 ([0,1,(-1),2,0,5,(-9),99]:List Int);let y3<-vH y1;let (Coefs1,x1)<-mW aa 0 y3.Coefs y2;pure ((zA.mk Coefs1 y3.Const),x1)
theorem zIT:∀ r0 aa r,dJ r0 aa=some r->∀ {I:Imm}{ar}{p c},(S4 I p r0.b c)->RT 211 [vP ar 0,vI aa] I [hB ar (cRd r0 p c)] (zGv ar r):=by
 intro r0 aa r N I ar p c h;unfold dJ at N;refine yJ func211 fun B=>yA<|xU [z0,vI 0] ?_;intro b hb;refine zU rfl<|yT<|yD 1 [] [7] rfl<|mE (rI [0,1,(-1),2,0,5,(-9),99]) ?_;intro b1 I0 le h2;have h:=h.mono le;refine tU (zY [1,0] (ah:=[hB ar (cRd r0 p c),hB b [z0,vI 0]])) ?_;obtain ⟨⟨y1,y2⟩,hy,N⟩:=zB N;refine rC (xQ r0 ([0,1,(-1),2,0,5,(-9),99]:List Int) _ hy h h2) rfl ?_;rintro aR av v2 k2 ae - ⟨v0,kk,rfl,rfl,rfl,h4⟩ -;obtain ⟨p1,c1,rfl,h5⟩:=yB h4;obtain ⟨y3,ax,N⟩:=zB N;refine xJ (uW y1 _ ax ) ?_;rintro aV av v2 k2 aB - ⟨p2,c2,cs,rfl,rfl,h6⟩ -;have h5:=h5.mono aB;refine xU [z0,vI 0] ?_;intro b2 hb2;refine yS 0 (cAff y3 p2 c2) rfl<|zU rfl<|zZ<|yI [6] rfl<|wQ<|pM [(0,vP ar 0),(1,vI aa),(4,vP b 0),(5,vP b2 0),(6,vI 0)] ?_;obtain ⟨o0,az,aG⟩:=zB N;refine zGI aa 0 y3.Coefs y2 o0 az iR h6 h5 nG nO ?_;intro I06 Coefs1 x1 p5 c5 aU p6 c6 heq bB h9 h10;subst o0;refine zR<|yT<|vU 1 [0] [(23,vA [vS p5 Coefs1 c5,vI y3.Const])]<|yS 3 [vS p5 Coefs1 c5,vI y3.Const] rfl<|zU rfl<|xL<|xA 1 rfl ?_;intro I07 le7 hl03;have h17:=SL.of_frozen hl03 le7 h9;have h10:=h10.mono le7;exact xO aG (resC 2 rfl rfl) (zW [1] rfl (by decide)) ⟨_,_,rfl,rfl,⟨_,rfl,(yK ⟨_,rfl,h17⟩)⟩,(yY ⟨_,rfl,h10⟩)⟩
def zCF (b0:Nat) (r:zC×zO):KT:=fun kk I' ah v=>
  ∃ v0 k0,ah=[.blk b0 ⟨k0⟩]/\v=tupV [v0]/\(∃ cs,v0=.agg ⟨cs⟩/\Rp.rep I' cs r.1)/\Rp.rep I' k0 r.2
mutual
def nI (r0:zO) (aa:Int) (ak:Int):Option (zC×zO):=do
 let (t15,x)<-(do
   if (decide (ak<2)) then pure (true,r0)
   else
    let (y1,y2)<-xG r0 4;pure ((y1==0),y2)
     : Option (Bool×zO))
 if t15 then
  let (y4,y5)<-xG x 4;if (y4==0) then
   let (y7,y8)<-xE y5 ([1,2,0,99,3]:List Int);pure ((zC.mk 1 y7 (zA.mk ([]:List Int) 0) (zJ.mk (⟨[]⟩:Str) ([]:List zA)) ([]:List zC)),y8)
  else
   if (y4==1) then
    let (y10,y11)<-dJ y5 aa;pure ((zC.mk 2 0 y10 (zJ.mk (⟨[]⟩:Str) ([]:List zA)) ([]:List zC)),y11)
   else
    let (y13,y14)<-kH y5 aa;pure ((zC.mk 3 0 (zA.mk ([]:List Int) 0) y13 ([]:List zC)),y14)
 else
  let (y16,y17)<-xE x ([4,6,5,4]:List Int);let (Kids1,x2)<-kR (same aa) (same ak) (same 0) ([]:List zC) (same y17);pure ((zC.mk y16 0 (zA.mk ([]:List Int) 0) (zJ.mk (⟨[]⟩:Str) ([]:List zA)) Kids1),x2)
 partial_fixpoint
def kR (aa:Int) (ak:Int) (i:Int) (Kids:List zC) (x1:zO):Option ((List zC×zO)):=do
 if (decide (i<2)) then
  let (y19,y20)<-nI (same x1) (same aa) (W (ak - 1));let l<-app 112 Kids ([y19]:List zC);kR (same aa) (same ak) (W (i+1)) (same l) (same y20)
 else pure (Kids,x1)
 partial_fixpoint
end
theorem zGw:(∀ (r0:zO) (aa:Int) (ak:Int) r,nI r0 aa ak=some r->∀ {I:Imm}{ar}{p c},(S4 I p r0.b c)->RT 199 [vP ar 0,vI aa,vI ak] I [hB ar (cRd r0 p c)] (zCF ar r))/\(∀ (aa:Int) (ak:Int) (i:Int) (Kids:List zC) (x1:zO) o,kR aa ak i Kids x1=some o->∀ {B}{I0 I:Imm}{Q}{y16:Int}{ar b b3}{aM aP aU aI aQ},I0.le I->(RL I aU Kids)->(S4 I aI x1.b aQ)->NG Q->NO Q->(∀ I' Kids1 x2 bm aW aO aS bc,o=(Kids1,x2)->I0.le I'->(RL I' aO Kids1)->(S4 I' aS x2.b bc)->T 53 B Q (.exit 1) I' [hO zC (vS bm Kids1 aW) aO,hB b3 [vI y16,vI 0,z0,vI 0,vT ([]),z0,vS bm Kids1 aW],hB ar (cRd x2 aS bc),hB b zExpr] [(6,vP b 0),(7,vP b3 0)])->J Tryz.prog 53 B (nav (bodyOf f199) [1,1,1,0,1,0]) Q I [hO zC (vS aM Kids aP) aU,hB b3 [vI y16,vI 0,z0,vI 0,vT ([]),z0,vS aM Kids aP],hB ar (cRd x1 aI aQ),hB b zExpr] [(0,vP ar 0),(1,vI aa),(2,vI ak),(6,vP b 0),(7,vP b3 0),(8,vI i)]):=by
  refine nI.mutual_partial_correctness _ _ ?_ ?_
  · intro F_spec_l3Value_l1 ih_spec_l3Value_l1 r0 aa ak r N I ar p c h;refine yJ func199 fun B=>?_;have H:=iS I;refine yA<|xU zExpr ?_;intro b hb;refine zU rfl<|zZ<|yC ?_;obtain ⟨o0,az,aT⟩:=zB N;refine nT (fun I' ah m'=>∃ (t15:Bool) (x:zO) (p1:Option Addr) (c1:Nat),o0=(t15,x)/\I.le I'/\(S4 I' p1 x.b c1)/\ah=[hB b zExpr,hB ar (cRd x p1 c1)]/\m'=[(0,vP ar 0),(1,vI aa),(2,vI ak),(6,vP b 0),(15,.bool t15)]) ?_ ?_
    · have H:=iS I;refine zM<|yD 3 [] [11] rfl<|wD [11] az ?_ ?_
      · intro hc N;exact wT [] [(15,vY)]<|yQ<|zT ⟨_,_,_,_,(zE N).symm,H,h,rfl,rfl⟩
      intro hc N;refine yD 4 [] [12] rfl<|tU (zY [1,0] (ah:=[hB ar (cRd r0 p c),hB b zExpr])) ?_;obtain ⟨⟨y1,y2⟩,hy,N⟩:=zB N;refine rC (xZ r0 4 _ hy h) rfl ?_;rintro aR av v2 k2 le - ⟨v0,kk,rfl,rfl,rfl,h3⟩ -;have H:=H.trans le;obtain ⟨p2,c2,rfl,h4⟩:=yB h3;exact yL [] [15] rfl<|wH (zW [1,0] rfl (by decide))<|yQ<|zT ⟨_,_,_,_,(zE N).symm,H,h4,rfl,rfl⟩
    rintro I0 av m2 ⟨t15,x,p1,c1,heq,ae,h1,rfl,rfl⟩;subst o0;refine zK<|yE aT ?_ ?_
    · intro aH N;refine yC<|yA<|yD 1 [] [16] rfl<|tU (zY [1,0] (ah:=[hB ar (cRd x p1 c1),hB b zExpr])) ?_;obtain ⟨⟨y4,y5⟩,ax,N⟩:=zB N;refine rC (xZ x 4 _ ax h1) rfl ?_;rintro aV av v2 k2 aB - ⟨v02,kk1,rfl,rfl,rfl,h6⟩ -;obtain ⟨p3,c3,rfl,h7⟩:=yB h6;refine zU rfl<|wQ<|yI [18] rfl<|zK<|yE N ?_ ?_
      · intro bf N;refine yA<|yD 1 [] [20] rfl<|mE (rI [1,2,0,99,3]) ?_;intro b1 bv aF h9;have h7:=h7.mono aF;obtain ⟨⟨y7,y8⟩,aE,N⟩:=zB N;refine rC (xQ y5 ([1,2,0,99,3]:List Int) _ aE h7 h9) rfl ?_;rintro bH av v2 k2 aX - ⟨v04,kk2,rfl,rfl,rfl,h11⟩ -;obtain ⟨p4,c4,rfl,h12⟩:=yB h11;refine yD 4 [] [23] rfl<|yS 1 [vI 1,vI y7,z0,vI 0,vT ([]),z0,z0] rfl<|zU rfl<|xL<|zV<|zI<|zI ?_;exact xO N (resC 1 rfl rfl) (zW [0] rfl (by decide)) ⟨_,_,rfl,rfl,⟨_,rfl,(yF ⟨_,_,_,rfl,(SL.nil _),(SL.nil _),(SL.nil _)⟩)⟩,(yY ⟨_,rfl,h12⟩)⟩
      intro bf N;refine yI [24] rfl<|zK<|yE N ?_ ?_
      · intro bG N;refine yA<|yD 2 [] [26,27] rfl ?_;obtain ⟨⟨y10,y11⟩,bj,N⟩:=zB N;refine rC (zIT y5 aa _ bj h7) rfl ?_;rintro bO av v2 k2 bi - ⟨v06,kk3,rfl,rfl,⟨cs,rfl,h13⟩,h14⟩ -;obtain ⟨p5,c5,rfl,h15⟩:=yG h13;obtain ⟨p6,c6,rfl,h16⟩:=yB h14;refine yD 4 [] [29] rfl<|yS 1 [vI 2,vI 0,vS p5 y10.Coefs c5,vI y10.Const,vT ([]),z0,z0] rfl<|zU rfl<|xL<|zV<|zI<|zI ?_;exact xO N (resC 1 rfl rfl) (zW [0] rfl (by decide)) ⟨_,_,rfl,rfl,⟨_,rfl,(yF ⟨_,_,_,rfl,h15,(SL.nil _),(SL.nil _)⟩)⟩,(yY ⟨_,rfl,h16⟩)⟩
      intro bG N;refine zS<|zP<|yT<|yD 2 [] [30,31] rfl ?_;obtain ⟨⟨y13,y14⟩,bt,N⟩:=zB N;refine rC (zBi y5 aa _ bt h7) rfl ?_;rintro I06 av v2 k2 bB - ⟨v09,kk4,rfl,rfl,⟨aw,rfl,h17⟩,h18⟩ -;obtain ⟨p7,c7,rfl,h19⟩:=tY h17;obtain ⟨p8,c8,rfl,h20⟩:=yB h18;refine yD 4 [] [33] rfl<|yS 1 [vI 3,vI 0,z0,vI 0,vT y13.Array.l,vS p7 y13.Subs c7,z0] rfl<|zU rfl<|xL<|zI ?_;exact xO N (resC 1 rfl rfl) (zW [0] rfl (by decide)) ⟨_,_,rfl,rfl,⟨_,rfl,(yF ⟨_,_,_,rfl,(SL.nil _),h19,(SL.nil _)⟩)⟩,(yY ⟨_,rfl,h20⟩)⟩
    intro aH N;refine zS<|yT<|yD 1 [] [34] rfl<|mE (rI [4,6,5,4]) ?_;intro b2 I07 le7 h22;have h1:=h1.mono le7;refine tU (zY [1,0] (ah:=[hB ar (cRd x p1 c1),hB b zExpr])) ?_;obtain ⟨⟨y16,y17⟩,bD,N⟩:=zB N;refine rC (xQ x ([4,6,5,4]:List Int) _ bD h1 h22) rfl ?_;rintro I08 av v2 k2 le8 - ⟨v012,kk5,rfl,rfl,rfl,h24⟩ -;obtain ⟨p9,c9,rfl,h25⟩:=yB h24;refine yD 4 [] [37] rfl<|xU zExpr ?_;intro b3 hb3;refine yS 0 [vI y16,vI 0,z0,vI 0,vT ([]),z0,z0] rfl<|zU rfl<|zZ<|yI [8] rfl<|wQ<|pM [(0,vP ar 0),(1,vI aa),(2,vI ak),(6,vP b 0),(7,vP b3 0),(8,vI 0)]<|zAP zC fun h26=>?_;obtain ⟨aL,aC,aG⟩:=zB N;refine ih_spec_l3Value_l1 aa ak 0 ([]:List zC) y17 aL aC iR h26 h25 nG nO ?_;intro bS Kids1 x2 bm aW aO aS bc heq1 le12 h29 h30;subst aL;refine zR<|yT<|vU 1 [1] [(52,vA [vI y16,vI 0,z0,vI 0,vT ([]),z0,vS bm Kids1 aW])]<|yS 3 [vI y16,vI 0,z0,vI 0,vT ([]),z0,vS bm Kids1 aW] rfl<|zU rfl<|xL<|xA 0 rfl ?_;intro I013 le13 hl03;have h40:=SL.of_frozen hl03 le13 h29;have h30:=h30.mono le13;exact xO aG (resC 2 rfl rfl) (zW [1] rfl (by decide)) ⟨_,_,rfl,rfl,⟨_,rfl,(yF ⟨_,_,_,rfl,(SL.nil _),(SL.nil _),h40⟩)⟩,(yY ⟨_,rfl,h30⟩)⟩
  intro F_spec_l3Value F_spec_l3Value_l1 ih_spec_l3Value ih_spec_l3Value_l1 aa ak i Kids x1 o N B I0 I Q y16 ar b b3 aM aP aU aI aQ H h27 h28 hg ho hx;refine yZ hg ho<|yC<|yI [39] rfl<|zK<|yE N ?_ ?_
  · intro bN N;refine zS<|zZ<|yH ?_;obtain ⟨⟨y19,y20⟩,hy6,N⟩:=zB N;obtain ⟨l,hy7,N⟩:=zB N;refine wV [.p (vP b3 6) [],.p (vS aM Kids aP) [0],.p (vP ar 0) [],.p (vI aa) [],.p (vI ak) [],.p (vI (W (ak - 1))) [],.x (fun I' v hx=>∃ p14 c14 p15 c15 p16 c16 p17 c17,v=vA (cExpr y19 p14 c14 p15 c15 p16 c16)/\hx=[hB ar (cRd y20 p17 c17)]/\(S4 I' p14 y19.Index.Coefs c14)/\(S4 I' p15 y19.Read.Subs c15)/\(S4 I' p16 y19.Kids c16)/\(S4 I' p17 y20.b c17)),.x (fun I' v hx=>∃ b4,v=vS (some ⟨b4,0,none⟩) ([y19]:List zC) 1/\hx=[]/\(SL I' (vS (some ⟨b4,0,none⟩) ([y19]:List zC) 1) ([y19]:List zC))),.x (fun I' v hx=>∃ p18 c18 bC,v=vS p18 l c18/\hx=[hO zC (vS p18 l c18) bC]/\(RL I' bC l))] [[],[(0,false)],[],[],[],[(4,false)],[(2,false),(3,false),(5,false),(11,true)],[(6,false)],[(1,false),(7,false),(12,true)]] [hB b3 [vI y16,vI 0,z0,vI 0,vT ([]),z0,vS aM Kids aP],hB b zExpr] [[hB ar (cRd x1 aI aQ)],[hO zC (vS aM Kids aP) aU]] [(6,true),(8,true)] (zY [1,3,2,0]) ?_ ?_
    · refine O4<|O2<|Ox ?_<|Ox ?_<|Ox ?_<|On
      · rintro I1 hf ae _ _ ⟨rfl,rfl⟩ _ _ ⟨rfl,rfl⟩ _ _ ⟨rfl,rfl⟩ _ _ rfl;refine xD [44,45,47] rfl ?_;have H:=iS I1;have h28:=h28.mono ae;refine rC (ih_spec_l3Value x1 aa (W (ak - 1)) _ hy6 h28) rfl ?_;rintro I09 av v2 k2 le9 - ⟨v014,kk6,rfl,rfl,⟨bw,rfl,h31⟩,h32⟩ -;have H:=H.trans le9;obtain ⟨p14,c14,p15,c15,p16,c16,rfl,h33,h34,h35⟩:=xB h31;obtain ⟨p17,c17,rfl,h36⟩:=yB h32;exact yM [hB ar (cRd y20 p17 c17)] H ⟨_,_,_,_,_,_,_,_,rfl,rfl,h33,h34,h35,h36⟩
      · rintro I1 hf ae _ _ ⟨p14,c14,p15,c15,p16,c16,p17,c17,rfl,rfl,h33,h34,h35,h36⟩;refine xD [48] rfl ?_;have H:=iS I1;refine mE (rc y19 (yF ⟨_,_,_,rfl,h33,h34,h35⟩) rN) ?_;intro b4 bL le10 h38;have H:=H.trans le10;exact yM [] H ⟨_,rfl,rfl,h38⟩
      rintro I1 hf ae _ _ ⟨rfl,rfl⟩ _ _ ⟨b4,rfl,rfl,h38⟩ _ _ rfl;refine xD [43,49] rfl ?_;have h27:=iM ae h27;obtain ⟨aK,k0,k01⟩:=h38;have h38:SL I1 (vS (some ⟨b4,0,none⟩) ([y19]:List zC) 1) ([y19]:List zC):=⟨_,k0,k01⟩;exact qA 72 7 0 rfl rfl rfl h27 (.inl k0) k01 hy7 fun p18 c18 bC h39=>vQ (ah:=(hO zC (vS p18 l c18) bC::hB b3 [vI y16,vI 0,z0,vI 0,vT ([]),z0,vS aM Kids aP]::hB b zExpr::hf)) rfl<|yM [hO zC (vS p18 l c18) bC] iR ⟨_,_,_,rfl,rfl,h39⟩
    rintro bW le11 _ _ ⟨p14,c14,p15,c15,p16,c16,p17,c17,rfl,rfl,h33,h34,h35,h36⟩ _ _ ⟨p18,c18,bC,rfl,rfl,h39⟩;refine xD [0,1,2,6,7,8,50] rfl ?_;have H:=H.trans le11;exact yD 10 [] [51] rfl<|yS 2 [vI y16,vI 0,z0,vI 0,vT ([]),z0,vS p18 l c18] rfl<|zU rfl<|zP<|zK<|zM<|yL [] [8] rfl<|yX<|qY (zW [0,2,1,3] rfl (by decide))<|mC<|ih_spec_l3Value_l1 aa ak (W (i+1)) l y20 _ N H h39 h36 hg ho hx
  intro bN N;exact vC<|yQ<|hx _ _ _ _ _ _ _ _ (zE N).symm H h27 h28
theorem zH4:∀ r0 aa ak r,nI r0 aa ak=some r->∀ {I:Imm}{ar}{p c},(S4 I p r0.b c)->RT 199 [vP ar 0,vI aa,vI ak] I [hB ar (cRd r0 p c)] (zCF ar r):=zGw.1
def zGx (b0:Nat) (r:zG×zO):KT:=fun kk I' ah v=>
  ∃ v0 k0,ah=[.blk b0 ⟨k0⟩]/\v=tupV [v0]/\(∃ cs,v0=.agg ⟨cs⟩/\Rp.rep I' cs r.1)/\Rp.rep I' k0 r.2
def zA0 (r0:zO) (aa:Int):Option (zG×zO):=do
 let (y1,y2)<-kH r0 aa;let (y4,y5)<-xE y2 ([2,3,1,2]:List Int);let (y7,y8)<-nI y5 aa y4;let y9<-rF (zG.mk y1 y7) aa;if y9 then pure ((zG.mk y1 y7),y8)
 else
  let y10<-kE;pure ((zG.mk (zJ.mk (⟨[65]⟩:Str) ([y10]:List zA)) (zC.mk 1 1 (zA.mk ([]:List Int) 0) (zJ.mk (⟨[]⟩:Str) ([]:List zA)) ([]:List zC))),y8)
theorem zIU:∀ r0 aa r,zA0 r0 aa=some r->∀ {I:Imm}{ar}{p c},(S4 I p r0.b c)->RT 183 [vP ar 0,vI aa] I [hB ar (cRd r0 p c)] (zGx ar r):=by
 intro r0 aa r N I ar p c h;unfold zA0 at N;refine yJ func183 fun B=>yA<|xU [vT ([]),z0,vI 0,vI 0,z0,vI 0,vT ([]),z0,z0] ?_;intro b hb;refine zU rfl<|yT<|yD 2 [] [6,7] rfl<|tU (zY [1,0] (ah:=[hB ar (cRd r0 p c),hB b [vT ([]),z0,vI 0,vI 0,z0,vI 0,vT ([]),z0,z0]])) ?_;obtain ⟨⟨y1,y2⟩,hy,N⟩:=zB N;refine rC (zBi r0 aa _ hy h) rfl ?_;rintro I0 av v2 k2 le - ⟨v0,kk,rfl,rfl,⟨cs,rfl,h1⟩,h2⟩ -;obtain ⟨p1,c1,rfl,h3⟩:=tY h1;obtain ⟨p2,c2,rfl,h4⟩:=yB h2;refine yD 6 [] [9,10,11] rfl<|mE (rI [2,3,1,2]) ?_;intro b1 aR ae h6;have ⟨h3,h4⟩:=m2 ae h3 h4;obtain ⟨⟨y4,y5⟩,ax,N⟩:=zB N;refine rC (xQ y2 ([2,3,1,2]:List Int) _ ax h4 h6) rfl ?_;rintro aV av v2 k2 aB - ⟨v03,kk1,rfl,rfl,rfl,h8⟩ -;have h3:=h3.mono aB;obtain ⟨p3,c3,rfl,h9⟩:=yB h8;obtain ⟨⟨y7,y8⟩,aE,N⟩:=zB N;refine rC (zH4 y5 aa y4 _ aE h9) rfl ?_;rintro bv av v2 k2 aF - ⟨v05,kk2,rfl,rfl,⟨aw,rfl,h10⟩,h11⟩ -;have h3:=h3.mono aF;obtain ⟨p4,c4,p5,c5,p6,c6,rfl,h12,h13,h14⟩:=xB h10;obtain ⟨p7,c7,rfl,h15⟩:=yB h11;refine yD 10 [] [15] rfl<|xU [vT ([]),z0,vI 0,vI 0,z0,vI 0,vT ([]),z0,z0] ?_;intro b2 hb2;refine yS 0 [vT y1.Array.l,vS p1 y1.Subs c1,vI y7.Kind,vI y7.Num,vS p4 y7.Index.Coefs c4,vI y7.Index.Const,vT y7.Read.Array.l,vS p5 y7.Read.Subs c5,vS p6 y7.Kids c6] rfl<|zU rfl<|zZ<|yA<|vU 2 [0] [(16,vA [vT y1.Array.l,vS p1 y1.Subs c1,vI y7.Kind,vI y7.Num,vS p4 y7.Index.Coefs c4,vI y7.Index.Const,vT y7.Read.Array.l,vS p5 y7.Read.Subs c5,vS p6 y7.Kids c6]),(17,vI aa)]<|bE N fun y9 bj N=>vR (dP (zG.mk y1 y7) aa _ bj h3 h12 h13 h14) ?_;intro bH aX;have ⟨h3,h12,h13,h14,h15⟩:=m5 aX h3 h12 h13 h14 h15;refine zU rfl<|zK<|yE N ?_ ?_
 · intro hc N;refine yA<|vU 1 [0] [(19,vA [vT y1.Array.l,vS p1 y1.Subs c1,vI y7.Kind,vI y7.Num,vS p4 y7.Index.Coefs c4,vI y7.Index.Const,vT y7.Read.Array.l,vS p5 y7.Read.Subs c5,vS p6 y7.Kids c6])]<|yS 2 [vT y1.Array.l,vS p1 y1.Subs c1,vI y7.Kind,vI y7.Num,vS p4 y7.Index.Coefs c4,vI y7.Index.Const,vT y7.Read.Array.l,vS p5 y7.Read.Subs c5,vS p6 y7.Kids c6] rfl<|zU rfl<|xL<|zI ?_;exact xO N (resC 2 rfl rfl) (zW [1] rfl (by decide)) ⟨_,_,rfl,rfl,⟨_,rfl,(xV ⟨_,_,_,_,rfl,h3,h12,h13,h14⟩)⟩,(yY ⟨_,rfl,h15⟩)⟩
 intro hc N;refine zS<|yT<|bE N fun y10 bt N=>xJ (fY  _ bt ) ?_;rintro bO av v2 k2 bi - ⟨p8,c8,aU,rfl,rfl,h17⟩ -;have h15:=h15.mono bi;refine wC 0 rfl ?_;intro I06 bB hl01;have h18:=SL.of_frozen hl01 bB h17;have h15:=h15.mono bB;refine tK (cAff y10 p8 c8) zA ?_;intro b3 hb3;have h19:RL I06 (cAff y10 p8 c8) ([y10]:List zA):=⟨(cAff y10 p8 c8),_,rfl,rfl,(yK ⟨_,rfl,h18⟩),rfl⟩;refine yD 5 [] [24] rfl<|yS 3 [vT ([65]),vS (some ⟨b3,0,none⟩) ([y10]:List zA) 1,vI 1,vI 1,z0,vI 0,vT ([]),z0,z0] rfl<|zU rfl<|xL<|xA 0 rfl ?_;intro I07 le7 hl02;have h20:=SL.of_frozen hl02 le7 h19;have h15:=h15.mono le7;exact xO N (resC 2 rfl rfl) (zW [1] rfl (by decide)) ⟨_,_,rfl,rfl,⟨_,rfl,(xV ⟨_,_,_,_,rfl,h20,(SL.nil _),(SL.nil _),(SL.nil _)⟩)⟩,(yY ⟨_,rfl,h15⟩)⟩
def zCG (r:(List zF)×Bool):KT:=fun kk I' ah v=>
  ∃ v0 v1,ah=[]/\v=tupV [v0,v1]/\SL I' v0 r.1/\v1=.bool r.2
def nJ (sizes:(List Int)) (out:List zF) (i:Int):Option (Out (List zF) ((List zF)×Bool)):=do
 if (decide (i<(sizes.length:Int))) then
  let t28<-(do
    let x<-idx sizes i;if (decide (x<0)) then pure true
    else
     let x1<-idx sizes i;pure (decide (x1>99))
      : Option Bool)
  if t28 then pure (.ret (([]:List zF),false))
  else
   let y<-kE;let x2<-idx sizes i;let y1<-vH x2;let au<-app 48 out ([(zF.mk ([y]:List zA) ([y1]:List zA))]:List zF);nJ sizes au (W (i+1))
 else pure (.done out)
 partial_fixpoint
theorem zFQ (sizes:(List Int)):∀ (out:List zF) (i:Int) (o:Out (List zF) ((List zF)×Bool)),nJ sizes out i=some o->∀ {B}{I0 I:Imm}{Q p c p1 c1 cs},I0.le I->(S4 I p sizes c)->(RL I cs out)->NG Q->NO Q->(∀ I' am p2 c2 aw,o=(.done am)->I0.le I'->(RL I' aw am)->T 43 B Q (.exit 0) I' [hO zF (vS p2 am c2) aw] [(4,vS p2 am c2)])->(∀ r I' ah m',o=(.ret r)->I0.le I'->RS Tryz.prog f184 B (zCG  r) I' ah m'->T 43 B Q .ret I' ah m')->J Tryz.prog 43 B (nav (bodyOf f184) [1,1,1,0,1,0]) Q I [hO zF (vS p1 out c1) cs] [(0,vS p sizes c),(4,vS p1 out c1),(5,vI i)]:=by
 refine nJ.partial_correctness sizes _ fun aJ ih out i o N B I0 I Q p c p1 c1 cs H h h3 hg ho hx hr=>yZ hg ho<|yC<|yI [14] rfl<|zK<|yE N ?_ ?_
 · intro aH N;refine zS<|zZ<|yH<|yC<|yC ?_;refine wU N [hO zF (vS p1 out c1) cs] (fun t28=>[(0,vS p sizes c),(4,vS p1 out c1),(5,vI i),(28,.bool t28)]) (fun o0 az=>?_) ?_
   · have H:=iS I;refine zM<|yD 2 [] [17,18] rfl ?_;obtain ⟨x,hy,N⟩:=zB az;refine wA rfl rfl h hy ?_;intro ad aK ap al;obtain rfl:=al;refine xP 0 ap [vI x] (vI x) rfl<|yD 6 [] [22] rfl<|wD [22] N ?_ ?_
     · intro bf N;exact wT [] [(28,vY)]<|yQ<|zT (ct N H)
     intro bf N;refine yD 8 [] [23,24] rfl<|bE N fun x1 ax N=>wA rfl rfl h ax ?_;intro ad1 bo ay aA;obtain rfl:=aA;exact xP 0 ay [vI x1] (vI x1) rfl<|yL [] [28] rfl<|yQ<|zT (ct N H)
   intro t28 aR ae aT;have ⟨h,h3,H⟩:=m3 ae h h3 H;refine zK<|yE aT ?_ ?_
   · intro bG N;refine yA<|tK [] zF ?_;intro b1 hb1;have h5:RL aR [] ([]:List zF):=rfl;refine yL [] [2,3] rfl<|xL<|zI<|zV<|zI<|zI<|xA 0 rfl ?_;intro aV aB hl01;have h6:=SL.of_frozen hl01 aB h5;have H:=H.trans aB;exact hr _ _ _ _ (zE N).symm H ⟨_,_,(resU rfl rfl),zN,⟨_,_,rfl,rfl,h6,rfl⟩⟩
   intro bG N;refine zS<|zK ?_;obtain ⟨y,aE,N⟩:=zB N;obtain ⟨x2,bj,N⟩:=zB N;obtain ⟨y1,bt,N⟩:=zB N;obtain ⟨au,bD,N⟩:=zB N;refine wV [.p (vS p1 out c1) [],.x (fun I' v hx=>∃ p3 c3 aU,v=vA (cAff y p3 c3)/\hx=[hO Int (vS p3 y.Coefs c3) aU]/\(RL I' aU y.Coefs)),.x (fun I' v hx=>∃ b2,v=vS (some ⟨b2,0,none⟩) ([y]:List zA) 1/\hx=[]/\(SL I' (vS (some ⟨b2,0,none⟩) ([y]:List zA) 1) ([y]:List zA))),.p (vS p sizes c) [],.p (vI i) [],.x (fun I' v hx=>∃ ad2,v=.pointer (some ad2)/\hx=[]/\(At I' ad2 [vI x2])),.q (vI x2),.x (fun I' v hx=>∃ p4 c4 aO,v=vA (cAff y1 p4 c4)/\hx=[hO Int (vS p4 y1.Coefs c4) aO]/\(RL I' aO y1.Coefs)),.x (fun I' v hx=>∃ b3,v=vS (some ⟨b3,0,none⟩) ([y1]:List zA) 1/\hx=[]/\(SL I' (vS (some ⟨b3,0,none⟩) ([y1]:List zA) 1) ([y1]:List zA))),.x (fun I' v hx=>∃ b21 b31,v=vA [vS (some ⟨b21,0,none⟩) ([y]:List zA) 1,vS (some ⟨b31,0,none⟩) ([y1]:List zA) 1]/\hx=[]/\(SL I' (vS (some ⟨b21,0,none⟩) ([y]:List zA) 1) ([y]:List zA))/\(SL I' (vS (some ⟨b31,0,none⟩) ([y1]:List zA) 1) ([y1]:List zA))),.x (fun I' v hx=>∃ b4,v=vS (some ⟨b4,0,none⟩) ([(zF.mk ([y]:List zA) ([y1]:List zA))]:List zF) 1/\hx=[]/\(SL I' (vS (some ⟨b4,0,none⟩) ([(zF.mk ([y]:List zA) ([y1]:List zA))]:List zF) 1) ([(zF.mk ([y]:List zA) ([y1]:List zA))]:List zF))),.x (fun I' v hx=>∃ p5 c5 bw,v=vS p5 au c5/\hx=[hO zF (vS p5 au c5) bw]/\(RL I' bw au))] [[],[],[(1,true)],[],[],[(3,false),(4,false)],[(5,false)],[(6,false)],[(7,true)],[(2,false),(8,false)],[(9,false)],[(0,false),(10,false),(13,true)]] [] [[hO zF (vS p1 out c1) cs]] [(11,true)] (zY [0]) ?_ ?_
   · refine Op<|Ox ?_<|Ox ?_<|O2<|Ox ?_<|Oq ?_<|Ox ?_<|Ox ?_<|Ox ?_<|Ox ?_<|Ox ?_<|On
     · intro I1 hf ae;refine I_h [] ?_;have H:=iS I1;refine xJ (fY  _ aE ) ?_;rintro bv av v2 k2 aF - ⟨p3,c3,aU,rfl,rfl,h7⟩ -;have H:=H.trans aF;exact yM [hO Int (vS p3 y.Coefs c3) aU] H ⟨_,_,_,rfl,rfl,h7⟩
     · rintro I1 hf ae _ _ ⟨p3,c3,aU,rfl,rfl,h7⟩;refine xD [31] rfl ?_;have H:=iS I1;refine wC 0 rfl ?_;intro bH aX hl02;have h8:=SL.of_frozen hl02 aX h7;have H:=H.trans aX;refine mE (rc y (yK ⟨_,rfl,h8⟩) rN) ?_;intro b2 bO bi h10;have H:=H.trans bi;exact yM [] H ⟨_,rfl,rfl,h10⟩
     · intro I1 hf ae;refine xD [33,34] rfl ?_;have h:=h.mono ae;refine wA rfl rfl h bj ?_;intro ad2 bR bq bu;obtain rfl:=bu;exact yM [] iR ⟨_,rfl,rfl,bq⟩
     · rintro I1 hf ae _ _ ⟨ad2,rfl,rfl,bq⟩;exact xD [35] rfl<|xP 0 bq [vI x2] (vI x2) rfl<|xY iR
     · intro I1 hf ae;refine xD [36] rfl ?_;have H:=iS I1;refine xJ (uW x2 _ bt ) ?_;rintro I06 av v2 k2 bB - ⟨p4,c4,aO,rfl,rfl,h11⟩ -;have H:=H.trans bB;exact yM [hO Int (vS p4 y1.Coefs c4) aO] H ⟨_,_,_,rfl,rfl,h11⟩
     · rintro I1 hf ae _ _ ⟨p4,c4,aO,rfl,rfl,h11⟩;refine xD [37] rfl ?_;have H:=iS I1;refine wC 0 rfl ?_;intro I07 le7 hl04;have h12:=SL.of_frozen hl04 le7 h11;have H:=H.trans le7;refine mE (rc y1 (yK ⟨_,rfl,h12⟩) rN) ?_;intro b3 I08 le8 h14;have H:=H.trans le8;exact yM [] H ⟨_,rfl,rfl,h14⟩
     · rintro I1 hf ae _ _ ⟨b2,rfl,rfl,h10⟩ _ _ ⟨b3,rfl,rfl,h14⟩;exact xD [32,38] rfl<|mD 10 [(39,vA [vS (some ⟨b2,0,none⟩) ([y]:List zA) 1,vS (some ⟨b3,0,none⟩) ([y1]:List zA) 1])]<|yM [] iR ⟨_,_,rfl,rfl,h10,h14⟩
     · rintro I1 hf ae _ _ ⟨b21,b31,rfl,rfl,h101,h141⟩;refine xD [39] rfl ?_;have H:=iS I1;refine mE (rc (zF.mk ([y]:List zA) ([y1]:List zA)) (uM ⟨_,_,rfl,h101,h141⟩) rN) ?_;intro b4 I09 le9 h16;have H:=H.trans le9;exact yM [] H ⟨_,rfl,rfl,h16⟩
     rintro I1 hf ae _ _ ⟨rfl,rfl⟩ _ _ ⟨b4,rfl,rfl,h16⟩ _ _ rfl;refine xD [30,40] rfl ?_;have h3:=iM ae h3;obtain ⟨ccs3,k0,k01⟩:=h16;have h16:SL I1 (vS (some ⟨b4,0,none⟩) ([(zF.mk ([y]:List zA) ([y1]:List zA))]:List zF) 1) ([(zF.mk ([y]:List zA) ([y1]:List zA))]:List zF):=⟨_,k0,k01⟩;exact qA 130 2 0 rfl rfl rfl h3 (.inl k0) k01 bD fun p5 c5 bw h17=>vQ (ah:=(hO zF (vS p5 au c5) bw::hf)) rfl<|yM [hO zF (vS p5 au c5) bw] iR ⟨_,_,_,rfl,rfl,h17⟩
   rintro bL le10 _ _ ⟨p5,c5,bw,rfl,rfl,h17⟩;refine xD [0,5,41] rfl ?_;have ⟨h,H⟩:=m2 le10 h H;exact yL [] [4] rfl<|zP<|zK<|zM<|yL [] [5] rfl<|yX<|mC<|ih au (W (i+1)) _ N H h h17 hg ho hx hr
 intro aH N;exact vC<|yQ<|hx _ _ _ _ _ (zE N).symm H h3
def zAG (sizes:(List Int)):Option ((List zF)×Bool):=do
 if (decide ((sizes.length:Int)>4)) then pure (([]:List zF),false)
 else
  match<-nJ sizes ([]:List zF) 0 with
  | .ret r0=>pure r0
  | .done am =>
   pure (am,true)
theorem zH5:∀ sizes r,zAG sizes=some r->∀ {I:Imm}{p c},(S4 I p sizes c)->RT 184 [vS p sizes c] I [] (zCG  r):=by
 intro sizes r N I p c h;unfold zAG at N;refine yJ func184 fun B=>vK []<|yT<|tK [] zF ?_;intro b hb;have h1:RL I [] ([]:List zF):=rfl;refine yL [] [4] rfl<|zZ<|yI [9] rfl<|zK<|yE N ?_ ?_
 · intro hc N;refine yI [2,3] rfl<|xL<|zI<|xA 0 rfl ?_;intro I0 le hl0;have h2:=SL.of_frozen hl0 le h1;exact xO N (resU rfl rfl) zN ⟨_,_,rfl,rfl,h2,rfl⟩
 intro hc N;refine zS<|zZ<|yI [5] rfl<|wQ<|pM [(0,vS p sizes c),(4,vS (some ⟨b,0,none⟩) ([]:List zF) 0),(5,vI 0)] ?_;obtain ⟨aL,aC,aG⟩:=zB N;refine zFQ sizes ([]:List zF) 0 aL aC iR h h1 nG nO ?_ ?_
 · intro bW am p2 c2 aw heq1 le11 h4;subst aL;refine zR<|uJ [2,3] rfl<|xL<|xA 0 rfl ?_;intro bS le12 hl07;have h18:=SL.of_frozen hl07 le12 h4;exact xO aG (resU rfl rfl) zN ⟨_,_,rfl,rfl,h18,rfl⟩
 intro r0 I9 hs9 m9 aY le9 aZ;subst aY;refine zV<|zI ?_;obtain rfl:=zE aG;exact dB aZ
end Go.LN
