/- Helper of the proof (see the last text). -/
import Derived.Test.YtndncjnhabjnbaaGreatHM4
set_option linter.unusedVariables false
set_option linter.unusedSimpArgs false
namespace Go.LN
open Go.Proofs Go.Proofs.Tryz
set_option maxRecDepth 20000
def zGy(r:zC):KT:=λkk I' ag v=>
 ∃(a0:Option Addr) (c0:Nat) (s0:List Value) (a1:Option Addr) (c1:Nat) (s1:List Value) (al:List Raw2) (vN vB:Value) (nl:List zE) (bl:List zP) (csN csB:List Value),
   ag=[hO zF (vS a0 r.Arrays c0) s0,hO Raw2 (vS a1 al c1) s1,hO zE vN csN,hO zP vB csB]/\v=tupV [vA [vS a0 r.Arrays c0,vS a1 al c1]]/\L4 I' s0 r.Arrays s1 al r.Parts vN nl vB bl csN csB
def zAI(p:zC)(line:Str):Option (zC):=do
 let y<-jP line;let t17<-(do
  if(decide ((y.length:Int)>0)) then
   let x<-idx y 0;pure (x.l==([97,114,114,97,121]:List UInt8))
  else
   pure false
    : Option Bool)
 if t17 then
  let y1<-dL y;let l<-app 40 p.Arrays ([y1]:List zF);pure (zC.mk l p.Parts)
 else
  if(line.l==([112,97,114,116]:List UInt8)) then
   let l1<-app 48 p.Parts ([(zQ.mk ([]:List zE) ([]:List zP))]:List zQ);pure (zC.mk p.Arrays l1)
  else
   let t43<-(do
    if(decide ((W ((p.Parts.length:Int) - 1))>=0)) then
     if(decide ((y.length:Int)>0)) then
      let x1<-idx y 0;pure (x1.l==([102,111,114]:List UInt8))
     else pure false
    else
     pure false
      : Option Bool)
   if t43 then
    let x2<-idx p.Parts (W ((p.Parts.length:Int) - 1));let y2<-zAH line;let l2<-app 48 x2.Nest ([y2]:List zE);pure (zC.mk p.Arrays (p.Parts.set (W ((p.Parts.length:Int) - 1)).toNat (zQ.mk l2 x2.Body)))
   else
    if(decide ((W ((p.Parts.length:Int) - 1))>=0)) then
     let x4<-idx p.Parts (W ((p.Parts.length:Int) - 1));let (y4,y5)<-kW line;let l3<-app 152 x4.Body ([y4]:List zP);pure (zC.mk p.Arrays (p.Parts.set (W ((p.Parts.length:Int) - 1)).toNat (zQ.mk x4.Nest l3)))
    else pure (id p)
theorem zIb:∀p line r,zAI p line=some r->∀{I:Imm}{p1 c cs p2 c1 az}{al:List Raw2}{vN vB:Value}{nl:List zE}{bl:List zP}{csN csB:List Value},
 L4 I cs p.Arrays az al p.Parts vN nl vB bl csN csB->RT 136 [vA [vS p1 p.Arrays c,vS p2 al c1],vT line.l] I [hO zF (vS p1 p.Arrays c) cs,hO Raw2 (vS p2 al c1) az,hO zE vN csN,hO zP vB csB] (zGy r):=by
 intro p line r N I p1 c cs p2 c1 az al vN vB nl bl csN csB hQ
 unfold zAI at N
 simp only[hQ.lp.len] at N
 refine yL func136 λB=>yF<|vK [vS p1 p.Arrays c,vS p2 al c1] ?_
 intro b hb
 refine wI zTwo ?_
 intro b1 hb1
 refine yA rfl<|yW<|yG 1 [] [11] rfl ?_
 obtain⟨y,hy,N⟩:=zB N
 refine xF (zCY line _ hy ) ?_
 rintro I0 av v2 k2 le - ⟨v0,rfl,rfl,h2⟩ -
 have hQ:=hQ.mono le
 obtain⟨p3,c2,rfl⟩:=h2.form
 refine yK [] [5] rfl<|yW<|yK [1] [6] rfl<|zZ<|yI<|yB ?_
 obtain⟨o0,aA,N⟩:=zB N
 refine qQ (K1 o0 I0 [hB b1 zTwo,hB b [vS p1 p.Arrays c,vS p2 al c1],hO zF (vS p1 p.Arrays c) cs,hO Raw2 (vS p2 al c1) az,hO zE vN csN,hO zP vB csB] λt17=>[(1,vT line.l),(2,vP b 0),(4,vP b1 0),(5,vS p3 y c2),(6,vI (W ((al.length:Int) - 1))),(17,.bool t17)]) ?_ ?_
 ·refine zJ<|yG 4 [] [21] rfl ?_
  cases hc:(decide ((y.length:Int)>0)) with
  | true=>
   have hM0:=wQ hc aA
   refine yG 5 [] [22] rfl ?_
   obtain⟨x,ay,N⟩:=zB hM0
   refine xK rfl rfl h2 ay ?_
   intro ad aN ap ak
   obtain rfl:=ak
   exact xA 0 ap [vT x.l] (vT x.l) rfl<|yK [] [17] rfl<|yS<|zV ⟨_,(zD N).symm,Imm.le.refl _,rfl,rfl⟩
  | false=>
   have hM01:=wE hc aA
   exact wB [] [(17,vF)]<|yS<|zV ⟨_,(zD hM01).symm,Imm.le.refl _,rfl,rfl⟩
 rintro aT av m2 ⟨t17,heq,aa,rfl,rfl⟩
 subst o0
 have h2:=h2.mono aa
 have hQ:=hQ.mono aa
 refine zG<|yE N ?_ ?_
 ·intro aE N
  obtain⟨y1,aF,N⟩:=zB N
  obtain⟨l,aX,N⟩:=zB N
  refine wA [.p (vP b 0) [],.p (vS p1 p.Arrays c) [1],.p (vS p3 y c2) [],.x (eVArr y1),.x (λI' v hx=>∃b2,v=vS (some ⟨b2,0,none⟩) ([y1]:List zF) 1/\hx=[]/\(SL I' (vS (some ⟨b2,0,none⟩) ([y1]:List zF) 1) ([y1]:List zF))),.x (λI' v hx=>∃p5 c4 aU,v=vS p5 l c4/\hx=[hO zF (vS p5 l c4) aU]/\(RL I' aU l))] [[],[(0,false)],[],[(2,false)],[(3,false)],[(1,false),(4,false),(8,true)]] [hB b1 zTwo,hB b [vS p1 p.Arrays c,vS p2 al c1],hO Raw2 (vS p2 al c1) az,hO zE vN csN,hO zP vB csB] [[hO zF (vS p1 p.Arrays c) cs]] [(5,true)] (zY [0,1,3,4,5,2]) ?_ ?_
  ·refine O3<|Ox ?_<|Ox ?_<|Ox ?_<|On
   ·intro I1 hf aa
    refine yP [29] rfl<|xF (zHi y _ aF (h2.mono aa)) ?_
    rintro aP av v2 k2 aD - ⟨v01,rfl,rfl,⟨aM,rfl,h3⟩⟩ -
    obtain⟨v02,rfl,h4⟩:=zCy h3
    obtain⟨p4,c3,rfl⟩:=h4.form
    exact yM [] aD ⟨_,_,rfl,rfl,h4⟩
   ·intro I1 hf aa
    refine wG ?_
    rintro _ _ ⟨p4,c3,rfl,rfl,h4⟩
    refine yP [30] rfl<|uP (cArr y1 p4 c3) zF ?_
    intro b2 hb2
    have h5:RL I1 (cArr y1 p4 c3) ([y1]:List zF):=⟨(cArr y1 p4 c3),_,rfl,rfl,(qY ⟨_,rfl,h4⟩),rfl⟩
    refine xM 0 rfl ?_
    intro bx aH hl0
    exact yM [] aH ⟨_,rfl,rfl,SL.of_frozen hl0 aH h5⟩
   intro I1 hf aa
   refine wG ?_
   rintro _ _ ⟨rfl,rfl⟩
   refine wG ?_
   rintro _ _ ⟨b2,rfl,rfl,h6⟩
   refine wG ?_
   rintro _ _ rfl
   refine yP [28,31] rfl ?_
   obtain⟨bm,k0,k01⟩:=h6
   refine qA 111 2 0 rfl rfl rfl (hQ.mono aa).arr (.inl k0) k01 aX ?_
   intro p5 c4 aU h7
   exact uD (ag:=(hO zF (vS p5 l c4) aU::(hB b1 zTwo::hB b [vS p1 p.Arrays c,vS p2 al c1]::hO Raw2 (vS p2 al c1) az::hO zE vN csN::hO zP vB csB::hf))) rfl<|yM [hO zF (vS p5 l c4) aU] iR ⟨_,_,_,rfl,rfl,h7⟩
  intro bI bf
  refine wG ?_
  rintro _ _ ⟨p5,c4,aU,rfl,rfl,h7⟩
  refine yP [2,4,32] rfl ?_
  have hQ:=hQ.mono bf
  refine yG 7 [] [33] rfl<|xI 2 [vS p5 l c4,vS p2 al c1] rfl<|yA rfl<|zL<|yW<|sW 1 [2] [(98,vA [vS p5 l c4,vS p2 al c1])]<|xI 1 [vS p5 l c4,vS p2 al c1] rfl<|yA rfl<|zG<|yX ?_
  obtain rfl:=zD N
  exact zJ3 (resC 1 rfl rfl) (zX [0,3,4,5] rfl (by decide)) ⟨_,_,_,_,_,_,_,_,_,_,_,_,_,rfl,rfl,⟨h7,hQ.raw,hQ.lp,hQ.n,hQ.b⟩⟩
 intro aE N
 refine yH [34] rfl<|zG<|yE N ?_ ?_
 ·intro aV N
  refine mM 4 rfl ?_
  intro bL bu hl5
  have kN:=SL.of_frozen hl5 bu hQ.n
  have hQ:=hQ.mono bu
  refine mM 4 rfl ?_
  intro I06 bG hl6
  have kB:=SL.of_frozen hl6 bG hQ.b
  replace kN:=kN.mono bG
  have hQ:=hQ.mono bG
  obtain⟨l1,bk,N⟩:=zB N
  have bC:=zKZ (l':=al) (m':=[(⟨z0,z0⟩:Raw2)]) bk hQ.lp.2.1 rfl
  have hLP:=hQ.lp.part kN kB bk
  refine zJ<|uD (ag:=[hB b1 zTwo,hB b [vS p1 p.Arrays c,vS p2 al c1],hO zF (vS p1 p.Arrays c) cs,hO Raw2 (vS p2 al c1) az]) rfl<|sW 3 [1] [(38,vS p2 al c1),(39,vA zTwo)]<|uP zTwo Raw2 ?_
  intro b3 hb3
  have h8:RL I06 zTwo [(⟨z0,z0⟩:Raw2)]:=⟨zTwo,[],rfl,rfl,⟨rfl,rfl,rfl⟩,rfl⟩
  refine qA 70 2 4 rfl rfl rfl hQ.raw (.inr ⟨0,rfl⟩) h8 bC ?_
  intro p6 c5 bv h9
  refine tX (zY [1,2,3,4] (ag:=[hB b1 zTwo,hB b [vS p1 p.Arrays c,vS p2 al c1],hO zF (vS p1 p.Arrays c) cs,hO Raw2 (vS p6 (al++[(⟨z0,z0⟩:Raw2)]) c5) bv]))<|yG 6 [] [42] rfl<|xI 1 [vS p1 p.Arrays c,vS p6 (al++[(⟨z0,z0⟩:Raw2)]) c5] rfl<|yA rfl<|zL<|yW<|sW 1 [1] [(98,vA [vS p1 p.Arrays c,vS p6 (al++[(⟨z0,z0⟩:Raw2)]) c5])]<|xI 0 [vS p1 p.Arrays c,vS p6 (al++[(⟨z0,z0⟩:Raw2)]) c5] rfl<|yA rfl<|xD<|xW (dA (Rp.sz zP))<|xW (dA (Rp.sz zE)) ?_
  obtain rfl:=zD N
  exact zJ3 (resC 2 rfl rfl) (zX [4,5,0,1] rfl (by decide)) ⟨_,_,_,_,_,_,_,_,_,_,_,_,_,rfl,rfl,⟨hQ.arr,h9,hLP,RepL.nil,RepL.nil⟩⟩
 intro aV N
 refine yB ?_
 obtain⟨aO,aB,N⟩:=zB N
 refine qQ (K1 aO aT [hB b1 zTwo,hB b [vS p1 p.Arrays c,vS p2 al c1],hO zF (vS p1 p.Arrays c) cs,hO Raw2 (vS p2 al c1) az,hO zE vN csN,hO zP vB csB] λt43=>[(1,vT line.l),(2,vP b 0),(4,vP b1 0),(6,vI (W ((al.length:Int) - 1))),(43,.bool t43)]) ?_ ?_
 ·refine zJ<|yG 3 [] [46] rfl ?_
  cases bD:(decide ((W ((al.length:Int) - 1))>=0)) with
  | true=>
   have hM02:=wQ bD aB
   refine yG 8 [] [51] rfl ?_
   cases bM:(decide ((y.length:Int)>0)) with
   | true=>
    have hM03:=wQ bM hM02
    refine yG 9 [] [52] rfl ?_
    obtain⟨x1,bC,N⟩:=zB hM03
    refine xK rfl rfl h2 bC ?_
    intro ad1 bO ar au
    obtain rfl:=au
    exact xA 0 ar [vT x1.l] (vT x1.l) rfl<|yK [] [43] rfl<|yS<|zV ⟨_,(zD N).symm,Imm.le.refl _,rfl,rfl⟩
   | false=>
    have hM04:=wE bM hM02
    exact wB [] [(43,vF)]<|yS<|zV ⟨_,(zD hM04).symm,Imm.le.refl _,rfl,rfl⟩
  | false=>
   have hM05:=wE bD aB
   exact wB [] [(43,vF)]<|yS<|zV ⟨_,(zD hM05).symm,Imm.le.refl _,rfl,rfl⟩
 rintro bL av m2 ⟨t43,heq1,bu,rfl,rfl⟩
 subst aO
 have hQ:=hQ.mono bu
 refine zG<|yE N ?_ ?_
 ·intro hc5 N
  refine yF<|yG 3 [1] [58,59] rfl ?_
  obtain⟨x2,hy6,N⟩:=zB N
  obtain⟨rfl,hyr,hset⟩:=hQ.lp.last hy6
  refine pF 3 rfl rfl rfl hQ.raw hyr ?_
  intro ad2 ccs3 aS bJ aZ
  obtain⟨rfl,o1,o2⟩:=aZ
  refine zBt 3 0 aS bJ [vN,vB] (vA [vN,vB]) rfl rfl<|wI zTwo ?_
  intro b4 hb4
  refine zPs 0 [vN,vB] (hB b4 [vN,vB]::[hB b1 zTwo,hB b [vS p1 p.Arrays c,vS p2 al c1],hO zF (vS p1 p.Arrays c) cs,hO Raw2 (vS p2 al c1) az,hO zE vN csN,hO zP vB csB]) rfl rfl rfl rfl (by simp[Value.cells,o1,o2])<|yA rfl<|zG<|yB ?_
  obtain⟨y2,hy7,N⟩:=zB N
  obtain⟨l2,hy8,N⟩:=zB N
  refine wA [.p (vP b4 0) [],.p vN [0],.p (vT line.l) [],.x (eVLoop y2),.x (λI' v hx=>∃b5,v=vS (some ⟨b5,0,none⟩) ([y2]:List zE) 1/\hx=[]/\(SL I' (vS (some ⟨b5,0,none⟩) ([y2]:List zE) 1) ([y2]:List zE))),.x (λI' v hx=>∃aR bd aU,v=vS aR l2 bd/\hx=[hO zE (vS aR l2 bd) aU]/\(RL I' aU l2))] [[],[(0,false)],[],[(2,false)],[(3,false)],[(1,false),(4,false),(8,true)]] [hB b4 [vN,vB],hB b1 zTwo,hB b [vS p1 p.Arrays c,vS p2 al c1],hO zF (vS p1 p.Arrays c) cs,hO Raw2 (vS p2 al c1) az,hO zP vB csB] [[hO zE vN csN]] [(5,true)] (zY [0,1,2,3,4,6,5]) ?_ ?_
  ·refine O3<|Ox ?_<|Ox ?_<|Ox ?_<|On
   ·intro I1 hf aa
    refine yP [64] rfl<|xF (zIa line _ hy7 ) ?_
    rintro I06 av v2 k2 bG - ⟨v05,rfl,rfl,⟨bH,rfl,h12⟩⟩ -
    obtain⟨v06,v07,rfl,h13,h14⟩:=zDY h12
    obtain⟨p9,c8,rfl⟩:=h13.form
    obtain⟨bb,c9,rfl⟩:=h14.form
    exact yM [] bG ⟨_,_,_,_,rfl,rfl,h13,h14⟩
   ·intro I1 hf aa
    refine wG ?_
    rintro _ _ ⟨p9,c8,bb,c9,rfl,rfl,h13,h14⟩
    refine yP [65] rfl<|uP (cLoop y2 p9 c8 bb c9) zE ?_
    intro b5 hb5
    have h15:RL I1 (cLoop y2 p9 c8 bb c9) ([y2]:List zE):=⟨(cLoop y2 p9 c8 bb c9),_,rfl,rfl,(qR ⟨_,_,rfl,h13,h14⟩),rfl⟩
    refine xM 0 rfl ?_
    intro I07 le7 hl01
    exact yM [] le7 ⟨_,rfl,rfl,SL.of_frozen hl01 le7 h15⟩
   intro I1 hf aa
   refine wG ?_
   rintro u _ ⟨hu,rfl⟩
   have hu:=hu.symm
   subst hu
   refine wG ?_
   rintro _ _ ⟨b5,rfl,rfl,h16⟩
   refine wG ?_
   rintro _ _ rfl
   refine yP [63,66] rfl ?_
   obtain⟨ccs4,k0,k01⟩:=h16
   refine qA 150 2 0 rfl rfl rfl (hQ.mono aa).n (.inl k0) k01 hy8 ?_
   intro aR bd aU h17
   exact uD (ag:=(hO zE (vS aR l2 bd) aU::(hB b4 [vN,vB]::hB b1 zTwo::hB b [vS p1 p.Arrays c,vS p2 al c1]::hO zF (vS p1 p.Arrays c) cs::hO Raw2 (vS p2 al c1) az::hO zP vB csB::hf))) rfl<|yM [hO zE (vS aR l2 bd) aU] iR ⟨_,_,_,rfl,rfl,h17⟩
  intro I08 le8
  refine wG ?_
  rintro _ _ ⟨aR,bd,aU,rfl,rfl,h17⟩
  refine yP [2,4,6,7,67] rfl ?_
  have hQ:=hQ.mono le8
  refine yG 7 [] [68] rfl<|xI 1 [vS aR l2 bd,vB] rfl<|yA rfl<|zG<|zJ<|sW 4 [3,1] [(70,vS p2 al c1),(71,vI (W ((al.length:Int) - 1))),(72,vA [vS aR l2 bd,vB])]<|pF 5 rfl rfl rfl hQ.raw hyr ?_
  intro ad3 ccs5 hat3 hcc1 bB
  obtain⟨rfl,-⟩:=bB
  refine fP (α:=Raw2) (c:=[vS aR l2 bd,vB]) (x':=⟨vS aR l2 bd,vB⟩) 5 0 rfl rfl rfl hat3 rfl rfl hcc1 (by kernel_rfl) (by kernel_rfl) (by simp[Value.cells,o2];rfl) hQ.raw hyr (by kernel_rfl) ⟨rfl,rfl,o2⟩ ?_
  intro cs6 h19 hl02
  refine uD (ag:=[hO zE (vS aR l2 bd) aU,hB b4 [vS aR l2 bd,vB],hB b1 zTwo,hB b [vS p1 p.Arrays c,vS p2 al c1],hO zF (vS p1 p.Arrays c) cs,hO Raw2 (vS p2 al c1) cs6,hO zP vB csB]) rfl<|yA rfl<|zL<|yW<|sW 1 [3] [(98,vA [vS p1 p.Arrays c,vS p2 al c1])]<|xI 2 [vS p1 p.Arrays c,vS p2 al c1] rfl<|yA rfl<|zG<|yX ?_
  obtain rfl:=zD N
  exact fO ⟨[vA [vS p1 p.Arrays c,vS p2 al c1]],_,(resC 2 rfl rfl),(zX [4,5,0,6] rfl (by decide)),⟨p1,c,cs,p2,c1,cs6,al.set (W ((al.length:Int) - 1)).toNat ⟨vS aR l2 bd,vB⟩,vS aR l2 bd,vB,l2,bl,aU,csB,(by simp only[vS,hl02]),(by simp only[vS,hl02]),⟨hQ.arr,h19,(hset _ _ _ _).mono le8,h17,hQ.b⟩⟩⟩
 intro hc5 N
 refine yH [74] rfl<|zG<|yE N ?_ ?_
 ·intro hc6 N
  refine yF<|yG 3 [1] [78,79] rfl ?_
  obtain⟨x4,hy10,N⟩:=zB N
  obtain⟨rfl,hyr,hset⟩:=hQ.lp.last hy10
  refine pF 3 rfl rfl rfl hQ.raw hyr ?_
  intro ad4 ccs5 hat4 hcc2 hrep4
  obtain⟨rfl,o1,o2⟩:=hrep4
  refine zBt 3 0 hat4 hcc2 [vN,vB] (vA [vN,vB]) rfl rfl<|wI zTwo ?_
  intro b6 hb6
  refine zPs 0 [vN,vB] (hB b6 [vN,vB]::[hB b1 zTwo,hB b [vS p1 p.Arrays c,vS p2 al c1],hO zF (vS p1 p.Arrays c) cs,hO Raw2 (vS p2 al c1) az,hO zE vN csN,hO zP vB csB]) rfl rfl rfl rfl (by simp[Value.cells,o1,o2])<|yA rfl<|yW<|sW 1 [] [(83,vT line.l)] ?_
  obtain⟨⟨y4,y5⟩,hy11,N⟩:=zB N
  refine xF (zBk line _ hy11 ) ?_
  rintro I09 av v2 k2 le9 - ⟨v012,v013,rfl,rfl,⟨cs7,rfl,h22⟩,rfl⟩ -
  have hQ:=hQ.mono le9
  obtain⟨v014,v015,v016,v017,rfl,h24,h25,h26,h27⟩:=mN h22
  obtain⟨p15,c14,rfl⟩:=h24.form
  obtain⟨p16,c15,rfl⟩:=h25.form
  obtain⟨p17,c16,rfl⟩:=h26.form
  obtain⟨p18,c17,rfl⟩:=h27.form
  refine yG 5 [] [85,86] rfl<|wI [vT ([]),z0,vI 0,vI 0,z0,vI 0,vT ([]),z0,z0] ?_
  intro b7 hb7
  refine zBu 0 (cStmt y4 p15 c14 p16 c15 p17 c16 p18 c17) (hB b7 (cStmt y4 p15 c14 p16 c15 p17 c16 p18 c17)::hB b6 [vN,vB]::[hB b1 zTwo,hB b [vS p1 p.Arrays c,vS p2 al c1],hO zF (vS p1 p.Arrays c) cs,hO Raw2 (vS p2 al c1) az,hO zE vN csN,hO zP vB csB]) rfl rfl rfl rfl<|wB [] []<|yW<|sW 3 [1,0] [(88,vB),(89,vA (cStmt y4 p15 c14 p16 c15 p17 c16 p18 c17))]<|uP (cStmt y4 p15 c14 p16 c15 p17 c16 p18 c17) zP ?_
  intro b8 hb8
  have h28:RL I09 (cStmt y4 p15 c14 p16 c15 p17 c16 p18 c17) ([y4]:List zP):=⟨(cStmt y4 p15 c14 p16 c15 p17 c16 p18 c17),_,rfl,rfl,(vL ⟨_,_,_,_,rfl,h24,h25,h26,h27⟩),rfl⟩
  obtain⟨l3,hy12,N⟩:=zB N
  refine qA 83 9 8 rfl rfl rfl hQ.b (.inr ⟨0,rfl⟩) h28 hy12 ?_
  intro p19 c18 cs9 h29
  refine tX (zY [2,3,4,5,6,7,8] (ag:=[hB b6 [vN,vB],hB b1 zTwo,hB b [vS p1 p.Arrays c,vS p2 al c1],hO zF (vS p1 p.Arrays c) cs,hO Raw2 (vS p2 al c1) az,hO zE vN csN,hO zP (vS p19 l3 c18) cs9]))<|yG 6 [] [92] rfl<|xI 0 [vN,vS p19 l3 c18] rfl<|yA rfl<|zG<|zJ<|sW 4 [2,0] [(94,vS p2 al c1),(95,vI (W ((al.length:Int) - 1))),(96,vA [vN,vS p19 l3 c18])]<|pF 4 rfl rfl rfl hQ.raw hyr ?_
  intro ad5 ccs6 hat5 hcc3 hrep5
  obtain⟨rfl,-⟩:=hrep5
  refine fP (α:=Raw2) (c:=[vN,vS p19 l3 c18]) (x':=⟨vN,vS p19 l3 c18⟩) 4 0 rfl rfl rfl hat5 rfl rfl hcc3 (by kernel_rfl) (by kernel_rfl) (by simp[Value.cells,o1];rfl) hQ.raw hyr (by kernel_rfl) ⟨rfl,o1,rfl⟩ ?_
  intro cs8 h31 hl03
  refine uD (ag:=[hB b6 [vN,vS p19 l3 c18],hB b1 zTwo,hB b [vS p1 p.Arrays c,vS p2 al c1],hO zF (vS p1 p.Arrays c) cs,hO Raw2 (vS p2 al c1) cs8,hO zE vN csN,hO zP (vS p19 l3 c18) cs9]) rfl<|yA rfl<|zL<|yW<|sW 1 [2] [(98,vA [vS p1 p.Arrays c,vS p2 al c1])]<|xI 1 [vS p1 p.Arrays c,vS p2 al c1] rfl<|yA rfl<|zG<|yX ?_
  obtain rfl:=zD N
  exact fO ⟨[vA [vS p1 p.Arrays c,vS p2 al c1]],_,(resC 1 rfl rfl),(zX [3,4,5,6] rfl (by decide)),⟨p1,c,cs,p2,c1,cs8,al.set (W ((al.length:Int) - 1)).toNat ⟨vN,vS p19 l3 c18⟩,vN,vS p19 l3 c18,nl,l3,csN,cs9,(by simp only[vS,hl03]),(by simp only[vS,hl03]),⟨hQ.arr,h31,(hset _ _ _ _).mono le9,hQ.n,h29⟩⟩⟩
 intro hc6 N
 refine zT<|zL<|yW<|sW 1 [1] [(98,vA [vS p1 p.Arrays c,vS p2 al c1])]<|xI 0 [vS p1 p.Arrays c,vS p2 al c1] rfl<|yA rfl<|zG<|yX ?_
 obtain rfl:=zD N
 exact zJ3 (resC 0 rfl rfl) (zX [2,3,4,5] rfl (by decide)) ⟨_,_,_,_,_,_,_,_,_,_,_,_,_,rfl,rfl,hQ⟩
def uF(x:zF)(k0:Int):Option (Out Unit (Bool)):=do
 if(decide (k0<(x.Dims.length:Int))) then
  let t77<-(do
   let x2<-idx x.Dims k0;if(decide (x2<1)) then pure true
   else
    let x3<-idx x.Dims k0;pure (decide (x3>6))
     : Option Bool)
  if t77 then pure (.ret false)
  else uF x (W (k0+1))
 else pure (.done ())
 partial_fixpoint
theorem zEZ(x:zF):∀(k0:Int) (o:Out Unit (Bool)),uF x k0=some o->∀{B}{I0 I:Imm}{Q}{list:(List zF)}{i:Int}{p c p1 c1}{b},I0.le I->(S4 I p list c)->(S4 I p1 x.Dims c1)->NG Q->NO Q->(∀I',o=(.done ())->I0.le I'->T 81 B Q (.exit 2) I' [] [(0,vS p list c),(3,vI i)])->(∀r I' ag m',o=(.ret r)->I0.le I'->RS Tryz.prog f80 B (zU  r) I' ag m'->T 81 B Q .ret I' ag m')->J Tryz.prog 81 B (nav (bodyOf f80) [1,0,1,0,0,1,0,0,1,1,1,0]) Q I [hB b (cArr x p1 c1)] [(0,vS p list c),(3,vI i),(4,vP b 0),(5,vI k0)]:=by
 refine uF.partial_correctness x _ λaI ih k0 o N B I0 I Q list i p c p1 c1 b H h h1 hg ho hx hr=>yV hg ho<|yB<|yF<|yK [0] [61] rfl<|zG<|yE N ?_ ?_
 ·intro hc9 N;refine zT<|zZ<|yI<|yB ?_;refine wK N [hB b (cArr x p1 c1)] (λt77=>[(0,vS p list c),(3,vI i),(4,vP b 0),(5,vI k0),(77,.bool t77)]) (λaO aB=>?_) ?_
  ·have H:=iS I;refine zJ<|yG 3 [0] [65,66] rfl ?_;obtain⟨x2,aF,N⟩:=zB aB;refine xK rfl rfl h1 aF ?_;intro ad2 bO aS aZ;obtain rfl:=aZ;refine xA 0 aS [vI x2] (vI x2) rfl<|yG 7 [] [70] rfl<|xZ [70] N ?_ ?_
   ·intro hc10 N;exact wB [] [(77,vY)]<|yS<|zV (ct N H)
   intro hc10 N;refine yG 10 [0] [72,73] rfl<|bE N λx3 aX N=>xK rfl rfl h1 aX ?_;intro ad3 ccs3 hat3 bB;obtain rfl:=bB;exact xA 0 hat3 [vI x3] (vI x3) rfl<|yK [] [77] rfl<|yS<|zV (ct N H)
  intro t77 aT aa hMc1;have ⟨h,h1,H⟩:=m3 aa h h1 H;refine zG<|yE hMc1 ?_ ?_
  ·intro hc11 N;exact wL [(2,vF)]<|xD<|zW<|zH<|zH<|hr _ _ _ _ (zD N).symm H ⟨_,_,(resT rfl),zM,⟨_,rfl,rfl,rfl⟩⟩
  intro hc11 N;exact zT<|zL<|zG<|zJ<|yK [] [5] rfl<|yU<|nD<|ih (W (k0+1)) _ N H h h1 hg ho hx hr
 intro hc9 N;exact wM<|xW zM<|yS<|hx _  (zD N).symm H
def uY(list:(List zF))(i:Int):Option (Out Unit (Bool)):=do
 if(decide (i<(list.length:Int))) then
  let x<-idx list i;let t56<-(do
   if((x.Name.l.length:Int) != 1) then pure true
   else
    if(Op.bytesLess x.Name.l ([65]:List UInt8)) then pure true
    else
     if(!(Op.bytesLess x.Name.l ([68]:List UInt8)||x.Name.l==([68]:List UInt8))) then pure true
     else
      if(decide (i>0)) then
       let x1<-idx list (W (i - 1));if(!(Op.bytesLess x1.Name.l x.Name.l)) then pure true
       else
        if(decide ((x.Dims.length:Int)<1)) then pure true
        else pure (decide ((x.Dims.length:Int)>2))
      else
       if(decide ((x.Dims.length:Int)<1)) then pure true
       else pure (decide ((x.Dims.length:Int)>2))
     : Option Bool)
  if t56 then pure (.ret false)
  else
   match<-uF x 0 with
   | .ret r0=>pure (.ret r0)
   | .done _=>
    uY list (W (i+1))
 else pure (.done ())
 partial_fixpoint
theorem zE0(list:(List zF)):∀(i:Int) (o:Out Unit (Bool)),uY list i=some o->∀{B}{I0 I:Imm}{Q p c},I0.le I->(S4 I p list c)->NG Q->NO Q->(∀I',o=(.done ())->I0.le I'->T 81 B Q (.exit 0) I' [] [(0,vS p list c)])->(∀r I' ag m',o=(.ret r)->I0.le I'->RS Tryz.prog f80 B (zU  r) I' ag m'->T 81 B Q .ret I' ag m')->J Tryz.prog 81 B (nav (bodyOf f80) [1,0,1,0]) Q I [] [(0,vS p list c),(3,vI i)]:=by
 refine uY.partial_correctness list _ λaI ih i o N B I0 I Q p c H h hg ho hx hr=>yV hg ho<|yB<|yH [9] rfl<|zG<|yE N ?_ ?_
 ·intro hc N;refine zT<|zZ<|yI<|yF<|yG 2 [] [12,13] rfl<|bE N λx hy N=>xK rfl rfl h hy ?_;intro ad aN ap ak;obtain⟨p1,c1,rfl,h1⟩:=wZ ak;refine xA 0 ap (cArr x p1 c1) (vA (cArr x p1 c1)) rfl<|wI [vT ([]),z0] ?_;intro b hb;refine xI 0 (cArr x p1 c1) rfl<|yA rfl<|zZ<|yB ?_;refine wK N [hB b (cArr x p1 c1)] (λt56=>[(0,vS p list c),(3,vI i),(4,vP b 0),(56,.bool t56)]) (λo0 aA=>?_) ?_
  ·have H:=iS I;refine mV (by kernel_rfl) (by kernel_rfl)<|eX 5 [0] [20] rfl<|zH2 [20] aA ?_ ?_
   ·intro aE N;exact zLD [] [(56,vY)]<|yS<|zV (ct N H)
   intro aE N;refine eX 10 [0] [25] rfl<|zH2 [25] N ?_ ?_
   ·intro aV N;exact zLD [] [(56,vY)]<|yS<|zV (ct N H)
   intro aV N;refine eX 15 [0] [30] rfl<|zH2 [30] N ?_ ?_
   ·intro bD N;exact zLD [] [(56,vY)]<|yS<|zV (ct N H)
   intro bD N;refine eX 18 [] [33] rfl<|zH2 [33] N ?_ ?_
   ·intro bM N;refine eX 21 [] [34,36] rfl<|bE N λx1 ay N=>dZ rfl rfl h ay ?_;intro ad1 bm ar au;obtain⟨p2,c2,rfl,h2⟩:=wZ au;refine eX 23 [] [38] rfl<|gT 0 ar [vT x1.Name.l] (vT x1.Name.l) rfl<|eX 30 [0] [45] rfl<|zH2 [45] N ?_ ?_
    ·intro hc5 N;exact zLD [] [(56,vY)]<|yS<|zV (ct N H)
    intro hc5 N;refine eX 36 [0] [51] rfl<|zH2 [51] N ?_ ?_
    ·intro hc6 N;exact zLD [] [(56,vY)]<|yS<|zV (ct N H)
    intro hc6 N;exact zGl [0] [56] rfl<|yS<|zV (ct N H)
   intro bM N;refine eX 36 [0] [51] rfl<|zH2 [51] N ?_ ?_
   ·intro hc7 N;exact zLD [] [(56,vY)]<|yS<|zV (ct N H)
   intro hc7 N;exact zGl [0] [56] rfl<|yS<|zV (ct N H)
  intro t56 I0 le aQ;have ⟨h,h1,H⟩:=m3 le h h1 H;refine zG<|yE aQ ?_ ?_
  ·intro hc8 N;exact wL [(2,vF)]<|xD<|zH<|zW<|zH<|zH<|hr _ _ _ _ (zD N).symm H ⟨_,_,(resT rfl),zM,⟨_,rfl,rfl,rfl⟩⟩
  intro hc8 N;refine zT<|wV [5] rfl<|xY<|pE [(0,vS p list c),(3,vI i),(4,vP b 0),(5,vI 0)] ?_;obtain⟨o02,ho02,aG⟩:=zB N;refine zEZ x 0 o02 ho02 iR h h1 (λ_ _ _ h=>hg _ _ _ h) (λ_ _ h=>ho _ _ h) ?_ ?_
  ·intro aP  heq2 aD;subst o02;have ⟨h,H⟩:=m2 aD h H;exact zS<|zL<|zG<|zJ<|yK [] [3] rfl<|yU<|nD<|ih (W (i+1)) _ aG H h hg ho hx hr
  intro r0 I9 hs9 m9 aW le9 aY;subst aW;exact zW<|zW<|zH<|zH<|hr _ _ _ _ (zD aG).symm (H.trans le9) aY
 intro hc N;exact wM<|yS<|hx _  (zD N).symm H
def kC(list:(List zF)):Option (Bool):=do
 match<-uY list 0 with
 | .ret r0=>pure r0
 | .done _=>
  pure (decide ((list.length:Int)<=4))
theorem zGz:∀list r,kC list=some r->∀{I:Imm}{p c},(S4 I p list c)->RT 80 [vS p list c] I [] (zU  r):=by
 intro list r N I p c h;unfold kC at N;refine yL func80 λB=>wL []<|zZ<|yH [3] rfl<|xY<|pE [(0,vS p list c),(3,vI 0)] ?_;obtain⟨o03,ho03,hMl1⟩:=zB N;refine zE0 list 0 o03 ho03 iR h nG nO ?_ ?_
 ·intro bx  heq3 aH;subst o03;refine zS<|wV [2] rfl<|zG<|yX ?_;obtain rfl:=zD hMl1;exact wC
 intro r0 I9 hs9 m9 aW le9 aY;subst aW;refine zW<|zH ?_;obtain rfl:=zD hMl1;exact fO aY
def sJ(a0:zA)(ah:(List Int))(n0:Int)(i:Int):Option (Int):=do
 let t19<-(do
  if(decide (i<(ah.length:Int))) then pure (decide (i<(a0.Coefs.length:Int)))
  else
   pure false
    : Option Bool)
 if t19 then
  let x<-idx a0.Coefs i;let x1<-idx ah i;sJ a0 ah (W (n0+(W (x*x1)))) (W (i+1))
 else pure (id n0)
 partial_fixpoint
theorem zFq(a0:zA)(ah:(List Int)):∀(n0:Int) (i:Int) (o:Int),sJ a0 ah n0 i=some o->∀{B}{I0 I:Imm}{Q p c p1 c1}{b},I0.le I->(S4 I p1 ah c1)->(S4 I p a0.Coefs c)->NG Q->NO Q->(∀I' n01,o=n01->I0.le I'->T 35 B Q (.exit 0) I' [] [(5,vI n01)])->J Tryz.prog 35 B (nav (bodyOf f175) [1,1,0,1,0]) Q I [hB b (cAff a0 p c)] [(1,vS p1 ah c1),(2,vP b 0),(5,vI n0),(6,vI i)]:=by
 refine sJ.partial_correctness a0 ah _ λaI ih n0 i o N B I0 I Q p c p1 c1 b H h1 h hg ho hx=>yV hg ho<|yB<|yB ?_;refine wK N [hB b (cAff a0 p c)] (λt19=>[(1,vS p1 ah c1),(2,vP b 0),(5,vI n0),(6,vI i),(19,.bool t19)]) (λo0 aA=>?_) ?_
 ·have H:=iS I;refine zJ<|yG 5 [] [13] rfl<|xZ [13] aA ?_ ?_
  ·intro hc N;exact yK [0] [19] rfl<|yS<|zV (ct N H)
  intro hc N;exact wB [] [(19,vF)]<|yS<|zV (ct N H)
 intro t19 I0 le aQ;have ⟨h1,h,H⟩:=m3 le h1 h H;refine zG<|yE aQ ?_ ?_
 ·intro aE N;refine zT<|zZ<|yI<|mV (by kernel_rfl) (by kernel_rfl)<|eX 4 [0] [22,24,25] rfl<|bE N λx hy N=>dZ rfl rfl h hy ?_;intro ad aN ap ak;obtain rfl:=ak;refine gT 0 ap [vI x] (vI x) rfl<|eX 8 [] [28,29] rfl<|bE N λx1 ay N=>dZ rfl rfl h1 ay ?_;intro ad1 bm ar au;obtain rfl:=au;exact gT 0 ar [vI x1] (vI x1) rfl<|zGl [] [5] rfl<|zL<|zG<|zJ<|yK [] [6] rfl<|yU<|nD<|ih (W (n0+(W (x*x1)))) (W (i+1)) _ N H h1 h hg ho hx
 intro aE N;exact wM<|xW zM<|yS<|hx _ _ (zD N).symm H
def qX(a0:zA)(ah:(List Int)):Option (Int):=do
 let n01<-sJ a0 ah a0.Const 0;pure (id n01)
theorem dM:∀a0 ah r,qX a0 ah=some r->∀{I:Imm}{p c p1 c1},(S4 I p a0.Coefs c)->(S4 I p1 ah c1)->RT 175 [vA (cAff a0 p c),vS p1 ah c1] I [] (yJ  r):=by
 intro a0 ah r N I p c p1 c1 h h1;unfold qX at N;refine yL func175 λB=>yF<|vK (cAff a0 p c) ?_;intro b hb;refine wB [] []<|yW<|yK [0] [5] rfl<|zZ<|yH [6] rfl<|xY<|pE [(1,vS p1 ah c1),(2,vP b 0),(5,vI a0.Const),(6,vI 0)] ?_;obtain⟨aO,aB,aG⟩:=zB N;refine zFq a0 ah a0.Const 0 aO aB iR h1 h nG nO ?_;intro aT n01 heq1 aa;subst aO;refine zS<|wV [4] rfl<|zG<|yX ?_;obtain rfl:=zD aG;exact wC
def tT(loop:zE)(p2:(List Int))(lo:Int)(i:Int):Option (Int):=do
 if(decide (i<(loop.Lo.length:Int))) then
  let x2<-idx loop.Lo i;let y2<-qX x2 p2;let lo2<-(do
   if(decide (y2>lo)) then pure (id y2)
   else
    pure (id lo)
     : Option Int)
  tT loop p2 lo2 (W (i+1))
 else pure (id lo)
 partial_fixpoint
theorem zFB(loop:zE)(p2:(List Int)):∀(lo:Int) (i:Int) (o:Int),tT loop p2 lo i=some o->∀{B}{I0 I:Imm}{Q}{y1:Int}{p c p1 c1 p3 c2}{b},I0.le I->(S4 I p3 p2 c2)->(S4 I p loop.Lo c)->(S4 I p1 loop.Hi c1)->NG Q->NO Q->(∀I' lo1,o=lo1->I0.le I'->T 62 B Q (.exit 0) I' [hB b (cLoop loop p c p1 c1)] [(1,vS p3 p2 c2),(2,vP b 0),(6,vI lo1),(7,vI y1)])->J Tryz.prog 62 B (nav (bodyOf f143) [1,1,1,0,1,0]) Q I [hB b (cLoop loop p c p1 c1)] [(1,vS p3 p2 c2),(2,vP b 0),(6,vI lo),(7,vI y1),(8,vI i)]:=by
 refine tT.partial_correctness loop p2 _ λaI ih lo i o N B I0 I Q y1 p c p1 c1 p3 c2 b H h2 h h1 hg ho hx=>yV hg ho<|yB<|yF<|yK [0] [28] rfl<|zG<|yE N ?_ ?_
 ·intro hc N;refine zT<|zZ<|yI<|yF<|yG 3 [0] [32,33] rfl<|bE N λx2 bk N=>xK rfl rfl h bk ?_;intro ad2 bO aS aZ;obtain⟨p6,c5,rfl,h7⟩:=yQ aZ;refine xA 0 aS (cAff x2 p6 c5) (vA (cAff x2 p6 c5)) rfl<|yG 6 [] [36] rfl<|bE N λy2 bC N=>eO (dM x2 p2 _ bC h7 h2) ?_;intro aP aD;have ⟨h2,h,h1,H⟩:=m4 aD h2 h h1 H;refine yK [] [9] rfl<|wV [40] rfl<|zG ?_;refine wK N [hB b (cLoop loop p c p1 c1)] (λlo2=>[(1,vS p3 p2 c2),(2,vP b 0),(6,vI lo2),(7,vI y1),(8,vI i)]) (λo0 aA=>?_) ?_
  ·have H:=iS aP;refine yE aA ?_ ?_
   ·intro aE N;exact zJ<|yK [] [6] rfl<|yS<|zV (ct N H)
   intro aE N;exact zT<|yS<|zV (ct N H)
  intro lo2 bx aH aQ;have ⟨h2,h,h1,H⟩:=m4 aH h2 h h1 H;exact zL<|zG<|zJ<|yK [] [8] rfl<|yU<|nD<|ih lo2 (W (i+1)) _ aQ H h2 h h1 hg ho hx
 intro hc N;exact wM<|yS<|hx _ _ (zD N).symm H
def tU(loop:zE)(p2:(List Int))(hi:Int)(i1:Int):Option (Int):=do
 if(decide (i1<(loop.Hi.length:Int))) then
  let x3<-idx loop.Hi i1;let y3<-qX x3 p2;let hi2<-(do
   if(decide (y3<hi)) then pure (id y3)
   else
    pure (id hi)
     : Option Int)
  tU loop p2 hi2 (W (i1+1))
 else pure (id hi)
 partial_fixpoint
theorem zFC(loop:zE)(p2:(List Int)):∀(hi:Int) (i1:Int) (o:Int),tU loop p2 hi i1=some o->∀{B}{I0 I:Imm}{Q}{lo1:Int}{p c p1 c1 p3 c2}{b},I0.le I->(S4 I p3 p2 c2)->(S4 I p loop.Lo c)->(S4 I p1 loop.Hi c1)->NG Q->NO Q->(∀I' hi1,o=hi1->I0.le I'->T 62 B Q (.exit 2) I' [] [(6,vI lo1),(7,vI hi1)])->J Tryz.prog 62 B (nav (bodyOf f143) [1,1,1,1,0,1,0]) Q I [hB b (cLoop loop p c p1 c1)] [(1,vS p3 p2 c2),(2,vP b 0),(6,vI lo1),(7,vI hi),(10,vI i1)]:=by
 refine tU.partial_correctness loop p2 _ λaI ih hi i1 o N B I0 I Q lo1 p c p1 c1 p3 c2 b H h2 h h1 hg ho hx=>yV hg ho<|yB<|yF<|yK [0] [46] rfl<|zG<|yE N ?_ ?_
 ·intro aV N;refine zT<|zZ<|yI<|yF<|yG 3 [0] [50,51] rfl<|bE N λx3 hy6 N=>xK rfl rfl h1 hy6 ?_;intro ad3 ccs3 hat3 bB;obtain⟨p7,c6,rfl,h9⟩:=yQ bB;refine xA 0 hat3 (cAff x3 p7 c6) (vA (cAff x3 p7 c6)) rfl<|yG 6 [] [54] rfl<|bE N λy3 hy7 N=>eO (dM x3 p2 _ hy7 h9 h2) ?_;intro bL bu;have ⟨h2,h,h1,H⟩:=m4 bu h2 h h1 H;refine yK [] [11] rfl<|wV [58] rfl<|zG ?_;refine wK N [hB b (cLoop loop p c p1 c1)] (λhi2=>[(1,vS p3 p2 c2),(2,vP b 0),(6,vI lo1),(7,vI hi2),(10,vI i1)]) (λo02 ho02=>?_) ?_
  ·have H:=iS bL;refine yE ho02 ?_ ?_
   ·intro bD N;exact zJ<|yK [] [7] rfl<|yS<|zV (ct N H)
   intro bD N;exact zT<|yS<|zV (ct N H)
  intro hi2 I06 bG hMc1;have ⟨h2,h,h1,H⟩:=m4 bG h2 h h1 H;exact zL<|zG<|zJ<|yK [] [10] rfl<|yU<|nD<|ih hi2 (W (i1+1)) _ hMc1 H h2 h h1 hg ho hx
 intro aV N;exact wM<|xW zM<|yS<|hx _ _ (zD N).symm H
def mO(loop:zE)(p2:(List Int)):Option (Int×Int):=do
 let x<-idx loop.Lo 0;let y<-qX x p2;let x1<-idx loop.Hi 0;let y1<-qX x1 p2;let lo1<-tT loop p2 y 1;let hi1<-tU loop p2 y1 1;pure (lo1,hi1)
theorem zDC:∀loop p2 r,mO loop p2=some r->∀{I:Imm}{p c p1 c1 p3 c2},(S4 I p loop.Lo c)->(S4 I p1 loop.Hi c1)->(S4 I p3 p2 c2)->RT 143 [vA (cLoop loop p c p1 c1),vS p3 p2 c2] I [] (zAB  r):=by
 intro loop p2 r N I p c p1 c1 p3 c2 h h1 h2;unfold mO at N;refine yL func143 λB=>yF<|vK (cLoop loop p c p1 c1) ?_;intro b hb;refine wB [] []<|yW<|yG 2 [0] [13] rfl<|bE N λx hy N=>xK rfl rfl h hy ?_;intro ad aN ap ak;obtain⟨p4,c3,rfl,h3⟩:=yQ ak;refine xA 0 ap (cAff x p4 c3) (vA (cAff x p4 c3)) rfl<|yG 5 [] [16] rfl<|bE N λy ay N=>eO (dM x p2 _ ay h3 h2) ?_;intro I0 le;have ⟨h2,h,h1⟩:=m3 le h2 h h1;refine yK [] [6] rfl<|yW<|yG 2 [0] [19] rfl<|bE N λx1 aF N=>xK rfl rfl h1 aF ?_;intro ad1 bm ar au;obtain⟨p5,c4,rfl,h5⟩:=yQ au;refine xA 0 ar (cAff x1 p5 c4) (vA (cAff x1 p5 c4)) rfl<|yG 5 [] [22] rfl<|bE N λy1 aX N=>eO (dM x1 p2 _ aX h5 h2) ?_;intro aT aa;have ⟨h2,h,h1⟩:=m3 aa h2 h h1;refine yK [] [7] rfl<|zZ<|yH [8] rfl<|xY<|pE [(1,vS p3 p2 c2),(2,vP b 0),(6,vI y),(7,vI y1),(8,vI 1)] ?_;obtain⟨aO,aB,aG⟩:=zB N;refine zFB loop p2 y 1 aO aB iR h2 h h1 nG nO ?_;intro bI lo1 heq1 bf;subst aO;have ⟨h2,h,h1⟩:=m3 bf h2 h h1;refine zS<|zZ<|yH [10] rfl<|xY<|pE [(1,vS p3 p2 c2),(2,vP b 0),(6,vI lo1),(7,vI y1),(10,vI 1)] ?_;obtain⟨o03,ho03,hMl1⟩:=zB aG;refine zFC loop p2 y1 1 o03 ho03 iR h2 h h1 nG nO ?_;intro I07 hi1 heq3 le7;subst o03;refine zS<|wV [4,5] rfl<|zG<|yX ?_;exact xU hMl1 (resU rfl rfl) zM ⟨_,_,rfl,rfl,rfl,rfl⟩
def zBZ(r:(List (List Int))):KT:=λkk I' ag v=>
 ∃a0 c0 s0,ag=[.osl (.slice a0 r.length c0) (Rp.sz (List Int)) s0]/\v=tupV [(.slice a0 r.length c0)]/\RepL (Rp.rep I') (Rp.sz (List Int)) s0 r
mutual
def uO(out:(List (List Int)))(nest:(List zE))(p2:(List Int)):Option ((List (List Int))):=do
 if((p2.length:Int)==(nest.length:Int)) then
  let l<-app 8 ([]:List Int) p2;let t6<-app 24 out ([l]:List (List Int));pure (id t6)
 else
  let x<-idx nest (p2.length:Int);let (y1,y2)<-mO x p2;let aq<-sE (same nest) (same p2) (same y2) (same out) (same y1);pure (id aq)
 partial_fixpoint
def sE(nest:(List zE))(p2:(List Int))(y2:Int)(aj:List (List Int))(v04:Int):Option (List (List Int)):=do
 let t39<-(do
  if(decide (v04<y2)) then pure (decide ((aj.length:Int)<=120))
  else
   pure false
    : Option Bool)
 if t39 then
  let l1<-app 8 ([]:List Int) p2;let l2<-app 8 l1 ([v04]:List Int);let y3<-uO (same aj) (same nest) (same l2);sE (same nest) (same p2) (same y2) (same y3) (W (v04+1))
 else pure (id aj)
 partial_fixpoint
end
theorem zFr:(∀(out:(List (List Int))) (nest:(List zE)) (p2:(List Int)) r,uO out nest p2=some r->∀{I:Imm}{p c cs p1 c1 p3 c2},(RL I cs out)->(S4 I p1 nest c1)->(S4 I p3 p2 c2)->RT 106 [vS p out c,vS p1 nest c1,vS p3 p2 c2] I [hO (List Int) (vS p out c) cs] (zBZ  r))/\(∀(nest:(List zE)) (p2:(List Int)) (y2:Int) (aj:List (List Int)) (v04:Int) o,sE nest p2 y2 aj v04=some o->∀{B}{I0 I:Imm}{Q p1 c1 p3 c2 p8 c7 aU},I0.le I->(S4 I p1 nest c1)->(S4 I p3 p2 c2)->(RL I aU aj)->NG Q->NO Q->(∀I' aq p9 c8 bv,o=aq->I0.le I'->(RL I' bv aq)->T 52 B Q (.exit 0) I' [hO (List Int) (vS p9 aq c8) bv] [(0,vS p9 aq c8)])->J Tryz.prog 52 B (nav (bodyOf f106) [1,1,1,0,1,0]) Q I [hO (List Int) (vS p8 aj c7) aU] [(0,vS p8 aj c7),(1,vS p1 nest c1),(2,vS p3 p2 c2),(8,vI y2),(9,vI v04)]):=by
 refine uO.mutual_partial_correctness _ _ ?_ ?_
 ·intro F_spec_l2Points_l1 ih_spec_l2Points_l1 out nest p2 r N I p c cs p1 c1 p3 c2 h h1 h2;refine yL func106 λB=>wL []<|zZ<|yH [14] rfl<|zG<|yE N ?_ ?_
  ·intro hc N;refine yF<|yG 1 [] [15] rfl<|uP [] Int ?_;intro b hb;have h3:RL I [] ([]:List Int):=rfl;refine yG 3 [] [17] rfl ?_;obtain⟨aN,k0,k01⟩:=h2;have h2:SL I (vS p3 p2 c2) p2:=⟨_,k0,k01⟩;obtain⟨l,hy,N⟩:=zB N;refine qA 3 1 0 rfl rfl rfl h3 (.inl k0) k01 hy λp4 c3 az h4=>tX (zY [0,1] (ag:=[hO Int (vS p4 l c3) az,hO (List Int) (vS p out c) cs]))<|xM 0 rfl ?_;intro I0 le hl0;have h5:=SL.of_frozen hl0 le h4;have h:=iM le h;refine uP [vS p4 l c3] (List Int) ?_;intro b1 hb1;have h6:RL I0 [vS p4 l c3] ([l]:List (List Int)):=⟨[vS p4 l c3],_,rfl,rfl,⟨_,rfl,h5⟩,rfl⟩;obtain⟨t6,ay,N⟩:=zB N;refine qA 28 1 1 rfl rfl rfl h (.inr ⟨0,rfl⟩) h6 ay λp5 c4 aM h7=>tX (zY [1] (ag:=[hO (List Int) (vS p5 t6 c4) aM]))<|yK [] [6] rfl<|xD<|zH ?_;exact xU N (resT rfl) (zX [0] rfl (by decide)) ⟨_,_,_,rfl,rfl,h7⟩
  intro hc N;refine zT<|yW<|yG 3 [] [22,24] rfl<|bE N λx aF N=>xK rfl rfl h1 aF ?_;intro ad bm ap ak;obtain⟨p6,c5,p7,c6,rfl,h8,h9⟩:=sX ak;refine xA 0 ap (cLoop x p6 c5 p7 c6) (vA (cLoop x p6 c5 p7 c6)) rfl<|yG 6 [] [27] rfl ?_;obtain⟨⟨y1,y2⟩,aX,N⟩:=zB N;refine xF (zDC x p2 _ aX h8 h9 h2) ?_;rintro aT av v2 k2 aa - ⟨v02,v03,rfl,rfl,rfl,rfl⟩ -;have ⟨h,h1,h2⟩:=m3 aa h h1 h2;refine yK [] [7,8] rfl<|zZ<|yH [9] rfl<|xY<|pE [(0,vS p out c),(1,vS p1 nest c1),(2,vS p3 p2 c2),(8,vI y2),(9,vI y1)] ?_;obtain⟨aO,aB,aG⟩:=zB N;refine ih_spec_l2Points_l1 nest p2 y2 out y1 aO aB iR h1 h2 h nG nO ?_;intro bL aq p9 c8 bv heq1 bu h13;subst aO;refine zS<|wV [6] rfl<|zG<|yX ?_;exact xU aG (resT rfl) (zX [0] rfl (by decide)) ⟨_,_,_,rfl,rfl,h13⟩
 intro F_spec_l2Points F_spec_l2Points_l1 ih_spec_l2Points ih_spec_l2Points_l1 nest p2 y2 aj v04 o N B I0 I Q p1 c1 p3 c2 p8 c7 aU H h1 h2 h12 hg ho hx;refine yV hg ho<|yB<|yB ?_;refine wK N [hO (List Int) (vS p8 aj c7) aU] (λt39=>[(0,vS p8 aj c7),(1,vS p1 nest c1),(2,vS p3 p2 c2),(8,vI y2),(9,vI v04),(39,.bool t39)]) (λo0 aA=>?_) ?_
 ·have H:=iS I;refine zJ<|yG 4 [] [35] rfl<|xZ [35] aA ?_ ?_
  ·intro aE N;exact yK [] [39] rfl<|yS<|zV (ct N H)
  intro aE N;exact wB [] [(39,vF)]<|yS<|zV (ct N H)
 intro t39 aP aD aQ;have ⟨h12,h1,h2,H⟩:=m4 aD h12 h1 h2 H;refine zG<|yE aQ ?_ ?_
 ·intro aV N;refine zT<|zZ<|yI<|zJ<|yG 2 [] [42,43] rfl<|uP [] Int ?_;intro b2 hb2;have h14:RL aP [] ([]:List Int):=rfl;refine yG 4 [] [45] rfl ?_;obtain⟨bO,k02,k03⟩:=h2;have h2:SL aP (vS p3 p2 c2) p2:=⟨_,k02,k03⟩;obtain⟨l1,bk,N⟩:=zB N;refine qA 3 1 0 rfl rfl rfl h14 (.inl k02) k03 bk λbb c9 bH h15=>tX (zY [0,1] (ag:=[hO Int (vS bb l1 c9) bH,hO (List Int) (vS p8 aj c7) aU]))<|yG 6 [] [47] rfl<|uP [vI v04] Int ?_;intro b3 hb3;have h16:RL aP [vI v04] ([v04]:List Int):=rI [v04];obtain⟨l2,bC,N⟩:=zB N;refine qA 3 1 1 rfl rfl rfl h15 (.inr ⟨0,rfl⟩) h16 bC λaR bd cs6 h17=>tX (zY [1,2] (ag:=[hO Int (vS aR l2 bd) cs6,hO (List Int) (vS p8 aj c7) aU]))<|xM 0 rfl ?_;intro bx aH hl01;have h18:=SL.of_frozen hl01 aH h17;have ⟨h1,h2,h12,H⟩:=m4 aH h1 h2 h12 H;obtain⟨y3,hy6,N⟩:=zB N;refine sG (ih_spec_l2Points aj nest l2 _ hy6 h12 h1 h18) rfl ?_;rintro bI av v2 k2 bf - ⟨bz,bh,cs7,rfl,rfl,h19⟩ -;have ⟨h1,h2,H⟩:=m3 bf h1 h2 H;exact yK [] [0] rfl<|zL<|zG<|zJ<|yK [] [9] rfl<|yU<|nD<|ih_spec_l2Points_l1 nest p2 y2 y3 (W (v04+1)) _ N H h1 h2 h19 hg ho hx
 intro aV N;exact wM<|yS<|hx _ _ _ _ _ (zD N).symm H h12
theorem zCZ:∀out nest p2 r,uO out nest p2=some r->∀{I:Imm}{p c cs p1 c1 p3 c2},(RL I cs out)->(S4 I p1 nest c1)->(S4 I p3 p2 c2)->RT 106 [vS p out c,vS p1 nest c1,vS p3 p2 c2] I [hO (List Int) (vS p out c) cs] (zBZ  r):=zFr.1
def sK(list:(List zA))(ae:Int)(i:Int):Option (Out Unit (Bool)):=do
 if(decide (i<(list.length:Int))) then
  let t26<-(do
   let x<-idx list i;let y<-uW x;if(!y) then pure true
   else
    let x1<-idx list i;let y1<-oI x1;pure (decide (y1>ae))
     : Option Bool)
  if t26 then pure (.ret false)
  else sK list ae (W (i+1))
 else pure (.done ())
 partial_fixpoint
theorem zFs(list:(List zA))(ae:Int):∀(i:Int) (o:Out Unit (Bool)),sK list ae i=some o->∀{B}{I0 I:Imm}{Q p c},I0.le I->(S4 I p list c)->NG Q->NO Q->(∀I',o=(.done ())->I0.le I'->T 35 B Q (.exit 0) I' [] [(0,vS p list c)])->(∀r I' ag m',o=(.ret r)->I0.le I'->RS Tryz.prog f184 B (zU  r) I' ag m'->T 35 B Q .ret I' ag m')->J Tryz.prog 35 B (nav (bodyOf f184) [1,0,1,0]) Q I [] [(0,vS p list c),(1,vI ae),(5,vI i)]:=by
 refine sK.partial_correctness list ae _ λaI ih i o N B I0 I Q p c H h hg ho hx hr=>yV hg ho<|yB<|yH [9] rfl<|zG<|yE N ?_ ?_
 ·intro hc N;refine zT<|zZ<|yI<|yB ?_;refine wK N [] (λt26=>[(0,vS p list c),(1,vI ae),(5,vI i),(26,.bool t26)]) (λo0 aA=>?_) ?_
  ·have H:=iS I;refine zJ<|yG 2 [] [12,13] rfl ?_;obtain⟨x,hy,N⟩:=zB aA;refine xK rfl rfl h hy ?_;intro ad aN ap ak;obtain⟨p1,c1,rfl,h1⟩:=yQ ak;refine xA 0 ap (cAff x p1 c1) (vA (cAff x p1 c1)) rfl<|bE N λy ay N=>vJ (gU x _ ay h1) ?_;intro aT le;have ⟨h,H⟩:=m2 le h H;refine yG 7 [] [18] rfl<|xZ [18] N ?_ ?_
   ·intro aE N;exact wB [] [(26,vY)]<|yS<|zV (ct N H)
   intro aE N;refine yG 9 [] [19,20] rfl<|bE N λx1 aF N=>xK rfl rfl h aF ?_;intro ad1 bm ar au;obtain⟨p2,c2,rfl,h3⟩:=yQ au;refine xA 0 ar (cAff x1 p2 c2) (vA (cAff x1 p2 c2)) rfl<|bE N λy1 aX N=>eO (zAy x1 _ aX h3) ?_;intro aP aa;have H:=H.trans aa;exact yK [] [26] rfl<|yS<|zV (ct N H)
  intro t26 I0 aD aQ;have ⟨h,H⟩:=m2 aD h H;refine zG<|yE aQ ?_ ?_
  ·intro aV N;exact wL [(4,vF)]<|xD<|zW<|zH<|zH<|hr _ _ _ _ (zD N).symm H ⟨_,_,(resT rfl),zM,⟨_,rfl,rfl,rfl⟩⟩
  intro aV N;exact zT<|zL<|zG<|zJ<|yK [] [5] rfl<|yU<|nD<|ih (W (i+1)) _ N H h hg ho hx hr
 intro hc N;exact wM<|yS<|hx _  (zD N).symm H
def kT(list:(List zA))(ae:Int):Option (Bool):=do
 match<-sK list ae 0 with
 | .ret r0=>pure r0
 | .done _=>
  let t4<-(do
   if(decide ((list.length:Int)>=1)) then pure (decide ((list.length:Int)<=2))
   else
    pure false
     : Option Bool)
  pure (id t4)
theorem zDh:∀list ae r,kT list ae=some r->∀{I:Imm}{p c},(S4 I p list c)->RT 184 [vS p list c,vI ae] I [] (zU  r):=by
 intro list ae r N I p c h;unfold kT at N;refine yL func184 λB=>?_;have H:=iS I;refine wL []<|zZ<|yH [5] rfl<|xY<|pE [(0,vS p list c),(1,vI ae),(5,vI 0)] ?_;obtain⟨aO,aB,aG⟩:=zB N;refine zFs list ae 0 aO aB iR h nG nO ?_ ?_
 ·intro bx  heq1 aH;subst aO;have H:=H.trans aH;refine zS<|zG<|yB ?_;refine wK aG [] (λt4=>[(4,.bool t4)]) (λo02 ho02=>?_) ?_
  ·have H:=iS bx;refine zJ<|yG 4 [] [30] rfl<|xZ [30] ho02 ?_ ?_
   ·intro bD N;exact yK [] [4] rfl<|yS<|zV (ct N H)
   intro bD N;exact wB [] [(4,vF)]<|yS<|zV (ct N H)
  intro t4 bI bf hMc1;refine zG<|yX ?_;obtain rfl:=zD hMc1;exact wC
 intro r0 I9 hs9 m9 aW le9 aY;subst aW;refine zW<|zH ?_;obtain rfl:=zD aG;exact fO aY
def vQ(nest:(List zE))(i:Int):Option (Out Unit (Bool)):=do
 let t12<-(do
  if(decide (i<(nest.length:Int))) then pure (decide ((nest.length:Int)<=4))
  else
   pure false
    : Option Bool)
 if t12 then
  let t32<-(do
   let x<-idx nest i;let y<-kT x.Lo i;if(!y) then pure true
   else
    let x1<-idx nest i;let y1<-kT x1.Hi i;pure (!y1)
     : Option Bool)
  if t32 then pure (.ret false)
  else vQ nest (W (i+1))
 else pure (.done ())
 partial_fixpoint
theorem zDi(nest:(List zE)):∀(i:Int) (o:Out Unit (Bool)),vQ nest i=some o->∀{B}{I0 I:Imm}{Q p c},I0.le I->(S4 I p nest c)->NG Q->NO Q->(∀I',o=(.done ())->I0.le I'->T 36 B Q (.exit 0) I' [] [(0,vS p nest c)])->(∀r I' ag m',o=(.ret r)->I0.le I'->RS Tryz.prog f153 B (zU  r) I' ag m'->T 36 B Q .ret I' ag m')->J Tryz.prog 36 B (nav (bodyOf f153) [1,0,1,0]) Q I [] [(0,vS p nest c),(3,vI i)]:=by
 refine vQ.partial_correctness nest _ λaI ih i o N B I0 I Q p c H h hg ho hx hr=>yV hg ho<|yB<|yB ?_;refine wK N [] (λt12=>[(0,vS p nest c),(3,vI i),(12,.bool t12)]) (λo0 aA=>?_) ?_
 ·have H:=iS I;refine zJ<|yG 5 [] [8] rfl<|xZ [8] aA ?_ ?_
  ·intro hc N;exact yK [] [12] rfl<|yS<|zV (ct N H)
  intro hc N;exact wB [] [(12,vF)]<|yS<|zV (ct N H)
 intro t12 I0 le aQ;have ⟨h,H⟩:=m2 le h H;refine zG<|yE aQ ?_ ?_
 ·intro aE N;refine zT<|zZ<|yI<|yB ?_;refine wK N [] (λt32=>[(0,vS p nest c),(3,vI i),(32,.bool t32)]) (λaO aB=>?_) ?_
  ·have H:=iS I0;refine zJ<|yG 2 [] [15,16] rfl ?_;obtain⟨x,hy,N⟩:=zB aB;refine xK rfl rfl h hy ?_;intro ad aN ap ak;obtain⟨p1,c1,p2,c2,rfl,h1,h2⟩:=sX ak;refine yG 4 [] [18] rfl<|xA 0 ap [vS p1 x.Lo c1] (vS p1 x.Lo c1) rfl<|yG 6 [] [20] rfl<|bE N λy ay N=>vJ (zDh x.Lo i _ ay h1) ?_;intro aP aa;have ⟨h,H⟩:=m2 aa h H;refine yG 9 [] [23] rfl<|xZ [23] N ?_ ?_
   ·intro aV N;exact wB [] [(32,vY)]<|yS<|zV (ct N H)
   intro aV N;refine yG 11 [] [24,25] rfl<|bE N λx1 aF N=>xK rfl rfl h aF ?_;intro ad1 bm ar au;obtain⟨p3,c3,p4,c4,rfl,h4,h5⟩:=sX au;refine yG 13 [] [27] rfl<|xA 1 ar [vS p4 x1.Hi c4] (vS p4 x1.Hi c4) rfl<|yG 15 [] [29] rfl<|bE N λy1 aX N=>vJ (zDh x1.Hi i _ aX h5) ?_;intro bx aD;have H:=H.trans aD;exact yK [] [32] rfl<|yS<|zV (ct N H)
  intro t32 aT aH hMc1;have ⟨h,H⟩:=m2 aH h H;refine zG<|yE hMc1 ?_ ?_
  ·intro bD N;exact wL [(2,vF)]<|xD<|zW<|zH<|zH<|hr _ _ _ _ (zD N).symm H ⟨_,_,(resT rfl),zM,⟨_,rfl,rfl,rfl⟩⟩
  intro bD N;exact zT<|zL<|zG<|zJ<|yK [] [3] rfl<|yU<|nD<|ih (W (i+1)) _ N H h hg ho hx hr
 intro aE N;exact wM<|yS<|hx _  (zD N).symm H
def nT(nest:(List zE)):Option (Bool):=do
 match<-vQ nest 0 with
 | .ret r0=>pure r0
 | .done _=>
  pure (decide ((nest.length:Int)<=4))
theorem zFt:∀nest r,nT nest=some r->∀{I:Imm}{p c},(S4 I p nest c)->RT 153 [vS p nest c] I [] (zU  r):=by
 intro nest r N I p c h;unfold nT at N;refine yL func153 λB=>wL []<|zZ<|yH [3] rfl<|xY<|pE [(0,vS p nest c),(3,vI 0)] ?_;obtain⟨o02,ho02,aG⟩:=zB N;refine zDi nest 0 o02 ho02 iR h nG nO ?_ ?_
 ·intro bI  heq2 bf;subst o02;refine zS<|wV [2] rfl<|zG<|yX ?_;obtain rfl:=zD aG;exact wC
 intro r0 I9 hs9 m9 aW le9 aY;subst aW;refine zW<|zH ?_;obtain rfl:=zD aG;exact fO aY
mutual
def rL(nest:(List zE))(p1:(List Int))(most:Int):Option (Int):=do
 if((p1.length:Int)==(nest.length:Int)) then pure (id 1)
 else
  let x<-idx nest (p1.length:Int);let (y1,y2)<-mO x p1;let n01<-rX (same nest) (same p1) (same most) (same y2) (same 1) (same y1);pure (id n01)
 partial_fixpoint
def rX(nest:(List zE))(p1:(List Int))(most:Int)(y2:Int)(n0:Int)(v04:Int):Option (Int):=do
 let t35<-(do
  if(decide (v04<y2)) then pure (decide (n0<=most))
  else
   pure false
    : Option Bool)
 if t35 then
  let l<-app 8 ([]:List Int) p1;let l1<-app 8 l ([v04]:List Int);let y3<-rL (same nest) (same l1) (W (most - n0));rX (same nest) (same p1) (same most) (same y2) (W (n0+y3)) (W (v04+1))
 else pure (id n0)
 partial_fixpoint
end
theorem zHj:(∀(nest:(List zE)) (p1:(List Int)) (most:Int) r,rL nest p1 most=some r->∀{I:Imm}{p c p2 c1},(S4 I p nest c)->(S4 I p2 p1 c1)->RT 154 [vS p nest c,vS p2 p1 c1,vI most] I [] (yJ  r))/\(∀(nest:(List zE)) (p1:(List Int)) (most:Int) (y2:Int) (n0:Int) (v04:Int) o,rX nest p1 most y2 n0 v04=some o->∀{B}{I0 I:Imm}{Q p c p2 c1},I0.le I->(S4 I p nest c)->(S4 I p2 p1 c1)->NG Q->NO Q->(∀I' n01,o=n01->I0.le I'->T 52 B Q (.exit 0) I' [] [(7,vI n01)])->J Tryz.prog 52 B (nav (bodyOf f154) [1,1,1,1,0,1,0]) Q I [] [(0,vS p nest c),(1,vS p2 p1 c1),(2,vI most),(7,vI n0),(9,vI y2),(10,vI v04)]):=by
 refine rL.mutual_partial_correctness _ _ ?_ ?_
 ·intro F_spec_l2Work_l1 ih_spec_l2Work_l1 nest p1 most r N I p c p2 c1 h h1;refine yL func154 λB=>wL []<|wV [7] rfl<|zZ<|yH [15] rfl<|zG<|yE N ?_ ?_
  ·intro hc N;refine yH [6] rfl<|xD<|zH ?_;obtain rfl:=zD N;exact wC
  intro hc N;refine zT<|yW<|yG 3 [] [18,20] rfl<|bE N λx hy N=>xK rfl rfl h hy ?_;intro ad aN ap ak;obtain⟨p3,c2,p4,c3,rfl,h2,h3⟩:=sX ak;refine xA 0 ap (cLoop x p3 c2 p4 c3) (vA (cLoop x p3 c2 p4 c3)) rfl<|yG 6 [] [23] rfl ?_;obtain⟨⟨y1,y2⟩,ay,N⟩:=zB N;refine xF (zDC x p1 _ ay h2 h3 h1) ?_;rintro I0 av v2 k2 le - ⟨v02,v03,rfl,rfl,rfl,rfl⟩ -;have ⟨h,h1⟩:=m2 le h h1;refine yK [] [8,9] rfl<|zZ<|yH [10] rfl<|xY<|pE [(0,vS p nest c),(1,vS p2 p1 c1),(2,vI most),(7,vI 1),(9,vI y2),(10,vI y1)] ?_;obtain⟨aO,aB,aG⟩:=zB N;refine ih_spec_l2Work_l1 nest p1 most y2 1 y1 aO aB iR h h1 nG nO ?_;intro bI n01 heq1 bf;subst aO;refine zS<|wV [6] rfl<|zG<|yX ?_;obtain rfl:=zD aG;exact wC
 intro F_spec_l2Work F_spec_l2Work_l1 ih_spec_l2Work ih_spec_l2Work_l1 nest p1 most y2 n0 v04 o N B I0 I Q p c p2 c1 H h h1 hg ho hx;refine yV hg ho<|yB<|yB ?_;refine wK N [] (λt35=>[(0,vS p nest c),(1,vS p2 p1 c1),(2,vI most),(7,vI n0),(9,vI y2),(10,vI v04),(35,.bool t35)]) (λo0 aA=>?_) ?_
 ·have H:=iS I;refine zJ<|yG 4 [] [31] rfl<|xZ [31] aA ?_ ?_
  ·intro aE N;exact yK [] [35] rfl<|yS<|zV (ct N H)
  intro aE N;exact wB [] [(35,vF)]<|yS<|zV (ct N H)
 intro t35 aT aa aQ;have ⟨h,h1,H⟩:=m3 aa h h1 H;refine zG<|yE aQ ?_ ?_
 ·intro aV N;refine zT<|zZ<|yI<|zJ<|yG 2 [] [38,39] rfl<|uP [] Int ?_;intro b hb;have h6:RL aT [] ([]:List Int):=rfl;refine yG 4 [] [41] rfl ?_;obtain⟨bm,k0,k01⟩:=h1;have h1:SL aT (vS p2 p1 c1) p1:=⟨_,k0,k01⟩;obtain⟨l,aF,N⟩:=zB N;refine qA 3 1 0 rfl rfl rfl h6 (.inl k0) k01 aF λp5 c4 cs h7=>tX (zY [0] (ag:=[hO Int (vS p5 l c4) cs]))<|yG 6 [] [43] rfl<|uP [vI v04] Int ?_;intro b1 hb1;have h8:RL aT [vI v04] ([v04]:List Int):=rI [v04];obtain⟨l1,aX,N⟩:=zB N;refine qA 3 1 1 rfl rfl rfl h7 (.inr ⟨0,rfl⟩) h8 aX λp6 c5 az h9=>tX (zY [1] (ag:=[hO Int (vS p6 l1 c5) az]))<|yG 11 [] [48] rfl<|xM 0 rfl ?_;intro aP aD hl0;have h10:=SL.of_frozen hl0 aD h9;have ⟨h,h1,H⟩:=m3 aD h h1 H;obtain⟨y3,bk,N⟩:=zB N;refine xF (ih_spec_l2Work nest l1 (W (most - n0)) _ bk h h10) ?_;rintro bx av v2 k2 aH - ⟨v05,rfl,rfl,rfl⟩ -;have ⟨h,h1,H⟩:=m3 aH h h1 H;exact yK [] [7] rfl<|zL<|zG<|zJ<|yK [] [10] rfl<|yU<|nD<|ih_spec_l2Work_l1 nest p1 most y2 (W (n0+y3)) (W (v04+1)) _ N H h h1 hg ho hx
 intro aV N;exact wM<|yS<|hx _ _ (zD N).symm H
theorem zIc:∀nest p1 most r,rL nest p1 most=some r->∀{I:Imm}{p c p2 c1},(S4 I p nest c)->(S4 I p2 p1 c1)->RT 154 [vS p nest c,vS p2 p1 c1,vI most] I [] (yJ  r):=zHj.1
def oL(nest:(List zE)):Option ((List (List Int))×Bool):=do
 let t12<-(do
  let y<-nT nest;if(!y) then pure true
  else
   let y1<-rL nest ([]:List Int) 1200;pure (decide (y1>1200))
    : Option Bool)
 if t12 then pure (([]:List (List Int)),false)
 else
  let y2<-uO ([]:List (List Int)) nest ([]:List Int);if(decide ((y2.length:Int)>120)) then pure (([]:List (List Int)),false)
  else pure (y2,true)
theorem zFD:∀nest r,oL nest=some r->∀{I:Imm}{p c},(S4 I p nest c)->RT 117 [vS p nest c] I [] (zAn  r):=by
 intro nest r N I p c h;unfold oL at N;refine yL func117 λB=>?_;have H:=iS I;refine wL []<|zZ<|yB ?_;refine wK N [] (λt12=>[(0,vS p nest c),(12,.bool t12)]) (λo0 aA=>?_) ?_
 ·have H:=iS I;refine zJ<|yG 1 [] [5] rfl ?_;obtain⟨y,hy,N⟩:=zB aA;refine vJ (zFt nest _ hy h) ?_;intro aT le;have ⟨h,H⟩:=m2 le h H;refine yG 4 [] [8] rfl<|xZ [8] N ?_ ?_
  ·intro hc N;exact wB [] [(12,vY)]<|yS<|zV (ct N H)
  intro hc N;refine yG 5 [] [9] rfl<|bE N λy1 ay N=>eO (zIc nest ([]:List Int) 1200 _ ay h (SL.nil _)) ?_;intro aP aa;have H:=H.trans aa;exact yK [] [12] rfl<|yS<|zV (ct N H)
 intro t12 I0 aD aQ;have h:=h.mono aD;refine zG<|yE aQ ?_ ?_
 ·intro aE N;refine yF<|uP [] (List Int) ?_;intro b hb;have h3:RL I0 [] ([]:List (List Int)):=rfl;refine yK [] [2,3] rfl<|xD<|zH<|yZ 0 rfl ?_;intro bx aH hl0;have h4:=SL.of_frozen hl0 aH h3;exact xU N (resU rfl rfl) zM ⟨_,_,rfl,rfl,h4,rfl⟩
 intro aE N;refine zT<|yW<|uP [] (List Int) ?_;intro b1 hb1;have h5:RL I0 [] ([]:List (List Int)):=rfl;refine yG 2 [] [15] rfl<|bE N λy2 aF N=>sG (zCZ ([]:List (List Int)) nest ([]:List Int) _ aF h5 h (SL.nil _)) rfl ?_;rintro bI av v2 k2 bf - ⟨p1,c1,cs,rfl,rfl,h6⟩ -;refine yK [] [4] rfl<|zZ<|yH [19] rfl<|zG<|yE N ?_ ?_
 ·intro aV N;refine yF<|uP [] (List Int) ?_;intro b2 hb2;have h7:RL bI [] ([]:List (List Int)):=rfl;refine yK [] [2,3] rfl<|xD<|zH<|yZ 0 rfl ?_;intro bL bu hl01;have h8:=SL.of_frozen hl01 bu h7;exact xU N (resU rfl rfl) zM ⟨_,_,rfl,rfl,h8,rfl⟩
 intro aV N;refine zT<|wV [2,3] rfl<|xD<|yZ 0 rfl ?_;intro I06 bG hl02;have h9:=SL.of_frozen hl02 bG h6;exact xU N (resU rfl rfl) zM ⟨_,_,rfl,rfl,h9,rfl⟩
def zBl(r:(List zK)):KT:=λkk I' ag v=>
 ∃a0 c0 s0,ag=[.osl (.slice a0 r.length c0) (Rp.sz zK) s0]/\v=tupV [(.slice a0 r.length c0)]/\RepL (Rp.rep I') (Rp.sz zK) s0 r
mutual
def rF(out:(List zK))(e0:zI):Option ((List zK)):=do
 let aj<-(do
  if(e0.Kind==3) then
   let y<-tA e0.Read;let aq<-app 40 out ([y]:List zK);pure (id aq)
  else
   pure (id out)
    : Option (List zK))
 let br<-wW (same e0) (same aj) (same 0);pure (id br)
 partial_fixpoint
def wW(e0:zI)(aL:List zK)(i:Int):Option (List zK):=do
 if(decide (i<(e0.Kids.length:Int))) then
  let x<-idx e0.Kids i;let y1<-rF (same aL) (same x);wW (same e0) (same y1) (W (i+1))
 else pure (id aL)
 partial_fixpoint
end
theorem zHA:(∀(out:(List zK)) (e0:zI) r,rF out e0=some r->∀{I:Imm}{p c cs p1 c1 p2 c2 p3 c3},(RL I cs out)->(S4 I p1 e0.Index.Coefs c1)->(S4 I p2 e0.Read.Subs c2)->(S4 I p3 e0.Kids c3)->RT 158 [vS p out c,vA (cExpr e0 p1 c1 p2 c2 p3 c3)] I [hO zK (vS p out c) cs] (zBl  r))/\(∀(e0:zI) (aL:List zK) (i:Int) o,wW e0 aL i=some o->∀{B}{I0 I:Imm}{Q p1 c1 p2 c2 p3 c3}{b}{p7 c7 bv},I0.le I->(S4 I p1 e0.Index.Coefs c1)->(S4 I p2 e0.Read.Subs c2)->(S4 I p3 e0.Kids c3)->(RL I bv aL)->NG Q->NO Q->(∀I' br p8 c8 bH,o=br->I0.le I'->(RL I' bH br)->T 30 B Q (.exit 0) I' [hO zK (vS p8 br c8) bH] [(0,vS p8 br c8)])->J Tryz.prog 30 B (nav (bodyOf f158) [1,1,0,1,0]) Q I [hB b (cExpr e0 p1 c1 p2 c2 p3 c3),hO zK (vS p7 aL c7) bv] [(0,vS p7 aL c7),(3,vP b 0),(5,vI i)]):=by
 refine rF.mutual_partial_correctness _ _ ?_ ?_
 ·intro F_spec_l3Reads_l1 ih_spec_l3Reads_l1 out e0 r N I p c cs p1 c1 p2 c2 p3 c3 h h1 h2 h3;refine yL func158 λB=>?_;have H:=iS I;refine yF<|vK (cExpr e0 p1 c1 p2 c2 p3 c3) ?_;intro b hb;refine wB [] []<|zZ<|yF<|yK [0] [8] rfl<|zG ?_;obtain⟨o0,aA,aQ⟩:=zB N;refine qQ (λI' ag m'=>∃(aj:List zK) (p4:Option Addr) (c4:Nat) (az:List Value),o0=aj/\I.le I'/\(RL I' az aj)/\ag=[hB b (cExpr e0 p1 c1 p2 c2 p3 c3),hO zK (vS p4 aj c4) az]/\m'=[(0,vS p4 aj c4),(3,vP b 0)]) ?_ ?_
  ·have H:=iS I;refine yE aA ?_ ?_
   ·intro hc N;refine zJ<|sW 3 [0] [(9,vS p out c),(11,vA (cAccess e0.Read p2 c2))]<|bE N λy hy N=>xF (dH e0.Read _ hy h2) ?_;rintro aT av v2 k2 le - ⟨p5,c5,aM,rfl,rfl,h5⟩ -;have ⟨h,H⟩:=m2 le h H;refine xM 0 rfl ?_;intro aP aa hl0;have h6:=SL.of_frozen hl0 aa h5;have ⟨h,H⟩:=m2 aa h H;refine uP (cAccess y p5 c5) zK ?_;intro b1 hb1;have h7:RL aP (cAccess y p5 c5) ([y]:List zK):=⟨(cAccess y p5 c5),_,rfl,rfl,(kV ⟨_,rfl,h6⟩),rfl⟩;obtain⟨aq,ay,N⟩:=zB N;exact qA 76 2 2 rfl rfl rfl h (.inr ⟨0,rfl⟩) h7 ay λp6 c6 aU h8=>tX (zY [1,2] (ag:=[hB b (cExpr e0 p1 c1 p2 c2 p3 c3),hO zK (vS p6 aq c6) aU]))<|yK [] [0] rfl<|yS<|zV ⟨_,_,_,_,(zD N).symm,H,h8,rfl,rfl⟩
   intro hc N;exact zT<|yS<|zV ⟨_,_,_,_,(zD N).symm,H,h,rfl,rfl⟩
  rintro I0 av m2 ⟨aj,p4,c4,az,heq,aD,h4,rfl,rfl⟩;subst o0;have ⟨h1,h2,h3⟩:=m3 aD h1 h2 h3;refine zZ<|yH [5] rfl<|xY<|pE [(0,vS p4 aj c4),(3,vP b 0),(5,vI 0)] ?_;obtain⟨aO,aB,aG⟩:=zB aQ;refine ih_spec_l3Reads_l1 e0 aj 0 aO aB iR h1 h2 h3 h4 nG nO ?_;intro bI br p8 c8 bH heq1 bf h10;subst aO;refine zS<|wV [4] rfl<|zG<|yX ?_;exact xU aG (resT rfl) (zX [0] rfl (by decide)) ⟨_,_,_,rfl,rfl,h10⟩
 intro F_spec_l3Reads F_spec_l3Reads_l1 ih_spec_l3Reads ih_spec_l3Reads_l1 e0 aL i o N B I0 I Q p1 c1 p2 c2 p3 c3 b p7 c7 bv H h1 h2 h3 h9 hg ho hx;refine yV hg ho<|yB<|yF<|yK [0] [19] rfl<|zG<|yE N ?_ ?_
 ·intro aE N;refine zT<|zZ<|yI<|zJ<|yG 4 [0] [22,24,25] rfl<|bE N λx aF N=>xK rfl rfl h3 aF ?_;intro ad aN ap ak;obtain⟨p9,c9,bb,bd,aR,bh,rfl,h11,h12,h13⟩:=xX ak;refine xA 0 ap (cExpr x p9 c9 bb bd aR bh) (vA (cExpr x p9 c9 bb bd aR bh)) rfl<|tX (zY [1,0] (ag:=[hO zK (vS p7 aL c7) bv,hB b (cExpr e0 p1 c1 p2 c2 p3 c3)]))<|bE N λy1 aX N=>sG (ih_spec_l3Reads aL x _ aX h9 h11 h12 h13) rfl ?_;rintro bx av v2 k2 aH - ⟨bz,bo,cs6,rfl,rfl,h14⟩ -;have ⟨h1,h2,h3,H⟩:=m4 aH h1 h2 h3 H;exact yK [] [0] rfl<|zL<|zG<|zJ<|yK [] [5] rfl<|yU<|jS (zX [1,0] rfl (by decide))<|nD<|ih_spec_l3Reads_l1 e0 y1 (W (i+1)) _ N H h1 h2 h3 h14 hg ho hx
 intro aE N;exact wM<|xW (zX [1] rfl (by decide))<|yS<|hx _ _ _ _ _ (zD N).symm H h9
theorem zHk:∀out e0 r,rF out e0=some r->∀{I:Imm}{p c cs p1 c1 p2 c2 p3 c3},(RL I cs out)->(S4 I p1 e0.Index.Coefs c1)->(S4 I p2 e0.Read.Subs c2)->(S4 I p3 e0.Kids c3)->RT 158 [vS p out c,vA (cExpr e0 p1 c1 p2 c2 p3 c3)] I [hO zK (vS p out c) cs] (zBl  r):=zHA.1
def sL(a0:zF)(n0:Int)(i:Int):Option (Int):=do
 if(decide (i<(a0.Dims.length:Int))) then
  let x<-idx a0.Dims i;sL a0 (W (n0*x)) (W (i+1))
 else pure (id n0)
 partial_fixpoint
theorem zFu(a0:zF):∀(n0:Int) (i:Int) (o:Int),sL a0 n0 i=some o->∀{B}{I0 I:Imm}{Q p c}{b},I0.le I->(S4 I p a0.Dims c)->NG Q->NO Q->(∀I' n01,o=n01->I0.le I'->T 20 B Q (.exit 0) I' [] [(3,vI n01)])->J Tryz.prog 20 B (nav (bodyOf f189) [1,1,0,1,0]) Q I [hB b (cArr a0 p c)] [(1,vP b 0),(3,vI n0),(4,vI i)]:=by
 refine sL.partial_correctness a0 _ λaI ih n0 i o N B I0 I Q p c b H h hg ho hx=>yV hg ho<|yB<|yF<|yK [0] [9] rfl<|zG<|yE N ?_ ?_
 ·intro hc N;refine zT<|zZ<|yI<|zJ<|yG 4 [0] [12,14,15] rfl<|bE N λx hy N=>xK rfl rfl h hy ?_;intro ad aN ap ak;obtain rfl:=ak;exact xA 0 ap [vI x] (vI x) rfl<|yK [] [3] rfl<|zL<|zG<|zJ<|yK [] [4] rfl<|yU<|nD<|ih (W (n0*x)) (W (i+1)) _ N H h hg ho hx
 intro hc N;exact wM<|xW zM<|yS<|hx _ _ (zD N).symm H
def gN(a0:zF):Option (Int):=do
 let n01<-sL a0 1 0;pure (id n01)
theorem zId:∀a0 r,gN a0=some r->∀{I:Imm}{p c},(S4 I p a0.Dims c)->RT 189 [vA (cArr a0 p c)] I [] (yJ  r):=by
 intro a0 r N I p c h;unfold gN at N;refine yL func189 λB=>yF<|vK (cArr a0 p c) ?_;intro b hb;refine wB [] []<|wV [3] rfl<|zZ<|yH [4] rfl<|xY<|pE [(1,vP b 0),(3,vI 1),(4,vI 0)] ?_;obtain⟨o0,aA,aG⟩:=zB N;refine zFu a0 1 0 o0 aA iR h nG nO ?_;intro I0 n01 heq le;subst o0;refine zS<|wV [2] rfl<|zG<|yX ?_;obtain rfl:=zD aG;exact wC
def tI(list:(List zF))(a0:zK)(ah:(List Int))(i:Int)(n0:Int)(k0:Int):Option (Out Int (Int)):=do
 if(decide (k0<(a0.Subs.length:Int))) then
  let x2<-idx list i;if((a0.Subs.length:Int) != (x2.Dims.length:Int)) then pure (.ret (-1))
  else
   let x3<-idx a0.Subs k0;let y1<-qX x3 ah;let t70<-(do
    if(decide (y1<0)) then pure true
    else
     let x4<-idx list i;let x5<-idx x4.Dims k0;pure (decide (y1>=x5))
      : Option Bool)
   if t70 then pure (.ret (-1))
   else
    let x6<-idx list i;let x7<-idx x6.Dims k0;tI list a0 ah i (W ((W (n0*x7))+y1)) (W (k0+1))
 else pure (.done n0)
 partial_fixpoint
theorem zFv(list:(List zF))(a0:zK)(ah:(List Int))(i:Int):∀(n0:Int) (k0:Int) (o:Out Int (Int)),tI list a0 ah i n0 k0=some o->∀{B}{I0 I:Imm}{Q}{base:Int}{p c p1 c1 p2 c2}{b},I0.le I->(S4 I p list c)->(S4 I p2 ah c2)->(S4 I p1 a0.Subs c1)->NG Q->NO Q->(∀I' n01,o=(.done n01)->I0.le I'->T 86 B Q (.exit 2) I' [] [(7,vI base),(9,vI n01)])->(∀r I' ag m',o=(.ret r)->I0.le I'->RS Tryz.prog f159 B (yJ  r) I' ag m'->T 86 B Q .ret I' ag m')->J Tryz.prog 86 B (nav (bodyOf f159) [1,1,0,1,0,0,1,0,0,1,1,0,1,0]) Q I [hB b (cAccess a0 p1 c1)] [(0,vS p list c),(2,vS p2 ah c2),(4,vP b 0),(7,vI base),(8,vI i),(9,vI n0),(10,vI k0)]:=by
 refine tI.partial_correctness list a0 ah i _ λaI ih n0 k0 o N B I0 I Q base p c p1 c1 p2 c2 b H h h2 h1 hg ho hx hr=>yV hg ho<|yB<|yF<|yK [0] [37] rfl<|zG<|yE N ?_ ?_
 ·intro aV N;refine zT<|zZ<|yI<|yB<|yB<|mV (by kernel_rfl) (by kernel_rfl)<|eX 5 [0] [42,43,44] rfl<|bE N λx2 aX N=>dZ rfl rfl h aX ?_;intro ad2 bO aS aZ;obtain⟨p5,c5,rfl,h6⟩:=wZ aZ;refine eX 7 [] [46] rfl<|gT 1 aS [vS p5 x2.Dims c5] (vS p5 x2.Dims c5) rfl<|zGl [] [49] rfl<|zG<|yE N ?_ ?_
  ·intro bD N;exact yH [6] rfl<|xD<|zH<|zW<|zH<|zH<|hr _ _ _ _ (zD N).symm H ⟨_,_,(resT rfl),zM,⟨_,rfl,rfl,rfl⟩⟩
  intro bD N;refine zT<|yW<|yG 3 [0] [51,52] rfl<|bE N λx3 bk N=>xK rfl rfl h1 bk ?_;intro ad3 ccs3 hat3 bB;obtain⟨p6,c6,rfl,h7⟩:=yQ bB;refine xA 0 hat3 (cAff x3 p6 c6) (vA (cAff x3 p6 c6)) rfl<|yG 6 [] [55] rfl<|bE N λy1 bC N=>eO (dM x3 ah _ bC h7 h2) ?_;intro aT aa;have ⟨h,h2,h1,H⟩:=m4 aa h h2 h1 H;refine yK [] [11] rfl<|zZ<|yB ?_;refine wK N [hB b (cAccess a0 p1 c1)] (λt70=>[(0,vS p list c),(2,vS p2 ah c2),(4,vP b 0),(7,vI base),(8,vI i),(9,vI n0),(10,vI k0),(11,vI y1),(70,.bool t70)]) (λo0 aA=>?_) ?_
  ·have H:=iS aT;refine zJ<|yG 3 [] [59] rfl<|xZ [59] aA ?_ ?_
   ·intro bM N;exact wB [] [(70,vY)]<|yS<|zV (ct N H)
   intro bM N;refine yG 6 [] [60,61,62] rfl<|bE N λx4 hy6 N=>xK rfl rfl h hy6 ?_;intro ad4 ccs4 hat4 hrep4;obtain⟨p7,c7,rfl,h9⟩:=wZ hrep4;refine yG 8 [] [64] rfl<|xA 1 hat4 [vS p7 x4.Dims c7] (vS p7 x4.Dims c7) rfl<|yG 10 [] [66] rfl<|bE N λx5 hy7 N=>xK rfl rfl h9 hy7 ?_;intro ad5 ccs5 hat5 hrep5;obtain rfl:=hrep5;exact xA 0 hat5 [vI x5] (vI x5) rfl<|yK [] [70] rfl<|yS<|zV (ct N H)
  intro t70 aP aD aQ;have ⟨h,h2,h1,H⟩:=m4 aD h h2 h1 H;refine zG<|yE aQ ?_ ?_
  ·intro hc5 N;exact yH [6] rfl<|xD<|zH<|zW<|zH<|zH<|hr _ _ _ _ (zD N).symm H ⟨_,_,(resT rfl),zM,⟨_,rfl,rfl,rfl⟩⟩
  intro hc5 N;refine zT<|zG<|zJ<|yG 3 [] [71,72,73] rfl<|bE N λx6 hy8 N=>xK rfl rfl h hy8 ?_;intro ad6 ccs6 hat6 hrep6;obtain⟨p8,c8,rfl,h10⟩:=wZ hrep6;refine yG 5 [] [75] rfl<|xA 1 hat6 [vS p8 x6.Dims c8] (vS p8 x6.Dims c8) rfl<|yG 7 [] [77] rfl<|bE N λx7 hy9 N=>xK rfl rfl h10 hy9 ?_;intro ad7 ccs7 hat7 hrep7;obtain rfl:=hrep7;exact xA 0 hat7 [vI x7] (vI x7) rfl<|yK [] [9] rfl<|zL<|zG<|zJ<|yK [] [10] rfl<|yU<|nD<|ih (W ((W (n0*x7))+y1)) (W (k0+1)) _ N H h h2 h1 hg ho hx hr
 intro aV N;exact wM<|xW zM<|yS<|hx _ _ (zD N).symm H
def tJ(list:(List zF))(a0:zK)(ah:(List Int))(base:Int)(i:Int):Option (Out Unit (Int)):=do
 if(decide (i<(list.length:Int))) then
  let x<-idx list i;if(!(x.Name.l==a0.Array.l)) then
   let x1<-idx list i;let y<-gN x1;tJ list a0 ah (W (base+y)) (W (i+1))
  else
   match<-tI list a0 ah i 0 0 with
   | .ret r0=>pure (.ret r0)
   | .done n01=>
    pure (.ret (W (base+n01)))
 else pure (.done ())
 partial_fixpoint
theorem zFw(list:(List zF))(a0:zK)(ah:(List Int)):∀(base:Int) (i:Int) (o:Out Unit (Int)),tJ list a0 ah base i=some o->∀{B}{I0 I:Imm}{Q p c p1 c1 p2 c2}{b},I0.le I->(S4 I p list c)->(S4 I p2 ah c2)->(S4 I p1 a0.Subs c1)->NG Q->NO Q->(∀I',o=(.done ())->I0.le I'->T 86 B Q (.exit 0) I' [] [])->(∀r I' ag m',o=(.ret r)->I0.le I'->RS Tryz.prog f159 B (yJ  r) I' ag m'->T 86 B Q .ret I' ag m')->J Tryz.prog 86 B (nav (bodyOf f159) [1,1,0,1,0]) Q I [hB b (cAccess a0 p1 c1)] [(0,vS p list c),(2,vS p2 ah c2),(4,vP b 0),(7,vI base),(8,vI i)]:=by
 refine tJ.partial_correctness list a0 ah _ λaI ih base i o N B I0 I Q p c p1 c1 p2 c2 b H h h2 h1 hg ho hx hr=>yV hg ho<|yB<|yH [15] rfl<|zG<|yE N ?_ ?_
 ·intro hc N;refine zT<|zZ<|yI<|yB<|yB<|mV (by kernel_rfl) (by kernel_rfl)<|eX 2 [] [18,19] rfl<|bE N λx hy N=>dZ rfl rfl h hy ?_;intro ad aN ap ak;obtain⟨p3,c3,rfl,h3⟩:=wZ ak;refine eX 4 [] [21] rfl<|gT 0 ap [vT x.Name.l] (vT x.Name.l) rfl<|zGl [0] [25] rfl<|zG<|yE N ?_ ?_
  ·intro aE N;refine yF<|yG 3 [] [26,27,28] rfl<|bE N λx1 ay N=>xK rfl rfl h ay ?_;intro ad1 bm ar au;obtain⟨p4,c4,rfl,h4⟩:=wZ au;refine xA 0 ar (cArr x1 p4 c4) (vA (cArr x1 p4 c4)) rfl<|bE N λy aF N=>eO (zId x1 _ aF h4) ?_;intro I0 le;have ⟨h,h2,h1,H⟩:=m4 le h h2 h1 H;exact yK [] [7] rfl<|zG<|zIN<|eZ<|zS<|zG<|zJ<|yK [] [8] rfl<|yU<|nD<|ih (W (base+y)) (W (i+1)) _ N H h h2 h1 hg ho hx hr
  intro aE N;refine zT<|wV [9] rfl<|zZ<|yH [10] rfl<|xY<|pE [(0,vS p list c),(2,vS p2 ah c2),(4,vP b 0),(7,vI base),(8,vI i),(9,vI 0),(10,vI 0)] ?_;obtain⟨aO,aB,aG⟩:=zB N;refine zFv list a0 ah i 0 0 aO aB iR h h2 h1 (λ_ _ _ h=>hg _ _ _ h) (λ_ _ h=>ho _ _ h) ?_ ?_
  ·intro bx n01 heq1 aH;subst aO;have H:=H.trans aH;exact zS<|wV [6] rfl<|xD<|zW<|zH<|zH<|hr _ _ _ _ (zD aG).symm H ⟨_,_,(resT rfl),zM,⟨_,rfl,rfl,rfl⟩⟩
  intro r0 I9 hs9 m9 aW le9 aY;subst aW;exact zW<|zH<|zW<|zH<|zH<|hr _ _ _ _ (zD aG).symm (H.trans le9) aY
 intro hc N;exact wM<|xW zM<|yS<|hx _  (zD N).symm H
def kU(list:(List zF))(a0:zK)(ah:(List Int)):Option (Int):=do
 match<-tJ list a0 ah 0 0 with
 | .ret r0=>pure r0
 | .done _=>
  pure (-1)
theorem zDj:∀list a0 ah r,kU list a0 ah=some r->∀{I:Imm}{p c p1 c1 p2 c2},(S4 I p list c)->(S4 I p1 a0.Subs c1)->(S4 I p2 ah c2)->RT 159 [vS p list c,vA (cAccess a0 p1 c1),vS p2 ah c2] I [] (yJ  r):=by
 intro list a0 ah r N I p c p1 c1 p2 c2 h h1 h2;unfold kU at N;refine yL func159 λB=>yF<|vK (cAccess a0 p1 c1) ?_;intro b hb;refine wB [] []<|wV [7] rfl<|zZ<|yH [8] rfl<|xY<|pE [(0,vS p list c),(2,vS p2 ah c2),(4,vP b 0),(7,vI 0),(8,vI 0)] ?_;obtain⟨o02,ho02,hMl1⟩:=zB N;refine zFw list a0 ah 0 0 o02 ho02 iR h h2 h1 nG nO ?_ ?_
 ·intro bI  heq2 bf;subst o02;refine zS<|wV [6] rfl<|zG<|yX ?_;obtain rfl:=zD hMl1;exact wC
 intro r0 I9 hs9 m9 aW le9 aY;subst aW;refine zW<|zH ?_;obtain rfl:=zD hMl1;exact fO aY
def zBm(r:(List Int)×Int×Bool):KT:=λkk I' ag v=>
 ∃v0 v1 v2,ag=[]/\v=tupV [v0,v1,v2]/\SL I' v0 r.1/\v1=.int .i64 r.2.1/\v2=.bool r.2.2
def tV(list:(List zF))(ah:(List Int))(y:(List zK))(out:List Int)(i:Int):Option (Out (List Int) ((List Int)×Int×Bool)):=do
 if(decide (i<(y.length:Int))) then
  let x<-idx y i;let y1<-kU list x ah;if(decide (y1<0)) then pure (.ret (([]:List Int),0,false))
  else
   let aq<-app 8 out ([y1]:List Int);tV list ah y aq (W (i+1))
 else pure (.done out)
 partial_fixpoint
theorem zFE(list:(List zF))(ah:(List Int))(y:(List zK)):∀(out:List Int) (i:Int) (o:Out (List Int) ((List Int)×Int×Bool)),tV list ah y out i=some o->∀{B}{I0 I:Imm}{Q}{s:zP}{p c p1 c1 p2 c2 p3 c3 p4 c4 p5 c5}{b}{p6 c6 cs p7 c7 az},I0.le I->(S4 I p list c)->(S4 I p5 ah c5)->(RL I cs y)->(S4 I p1 s.Write.Subs c1)->(S4 I p2 s.Value.Index.Coefs c2)->(S4 I p3 s.Value.Read.Subs c3)->(S4 I p4 s.Value.Kids c4)->(RL I az out)->NG Q->NO Q->(∀I' aj p8 c8 aM,o=(.done aj)->I0.le I'->(RL I' aM aj)->T 49 B Q (.exit 0) I' [hO Int (vS p8 aj c8) aM,hB b (cStmt s p1 c1 p2 c2 p3 c3 p4 c4)] [(0,vS p list c),(2,vS p5 ah c5),(4,vP b 0),(9,vS p8 aj c8)])->(∀r I' ag m',o=(.ret r)->I0.le I'->RS Tryz.prog f119 B (zBm  r) I' ag m'->T 49 B Q .ret I' ag m')->J Tryz.prog 49 B (nav (bodyOf f119) [1,1,1,0,1,0]) Q I [hO zK (vS p6 y c6) cs,hO Int (vS p7 out c7) az,hB b (cStmt s p1 c1 p2 c2 p3 c3 p4 c4)] [(0,vS p list c),(2,vS p5 ah c5),(4,vP b 0),(9,vS p7 out c7),(10,vS p6 y c6),(11,vI i)]:=by
 refine tV.partial_correctness list ah y _ λaI ih out i o N B I0 I Q s p c p1 c1 p2 c2 p3 c3 p4 c4 p5 c5 b p6 c6 cs p7 c7 az H h h5 h8 h1 h2 h3 h4 h9 hg ho hx hr=>yV hg ho<|yB<|yH [22] rfl<|zG<|yE N ?_ ?_
 ·intro hc N;refine zT<|zZ<|yI<|yF<|yG 3 [] [25,26,27] rfl<|bE N λx ay N=>pF 0 rfl rfl rfl h8 ay ?_;intro ad aN ap bJ ak;obtain⟨p9,c9,rfl,h11⟩:=oA ak;refine zBt 0 0 ap bJ (cAccess x p9 c9) (vA (cAccess x p9 c9)) rfl rfl<|yG 6 [] [30] rfl<|bE N λy1 aF N=>eO (zDj list x ah _ aF h h11 h5) ?_;intro aT aa;have ⟨h,h5,h9,h8,h1,h2⟩:=m6 aa h h5 h9 h8 h1 h2;have ⟨h3,h4,H⟩:=m3 aa h3 h4 H;refine yK [] [12] rfl<|zZ<|yH [33] rfl<|zG<|yE N ?_ ?_
  ·intro aE N;refine yF<|uP [] Int ?_;intro b3 hb3;have h13:RL aT [] ([]:List Int):=rfl;refine yK [] [6,7,8] rfl<|xD<|zH<|zW<|zH<|zH<|yZ 0 rfl ?_;intro aP aD hl0;have h14:=SL.of_frozen hl0 aD h13;have H:=H.trans aD;exact hr _ _ _ _ (zD N).symm H ⟨_,_,(.tmp rfl (resU rfl rfl)),zM,⟨_,_,_,rfl,rfl,h14,rfl,rfl⟩⟩
  intro aE N;refine zT<|zG<|zJ<|yG 2 [] [35,36] rfl<|uP [vI y1] Int ?_;intro b4 hb4;have h15:RL aT [vI y1] ([y1]:List Int):=rI [y1];obtain⟨aq,aX,N⟩:=zB N;exact qA 3 1 2 rfl rfl rfl h9 (.inr ⟨0,rfl⟩) h15 aX λbb bd aU h16=>tX (zY [1,2,3] (ag:=[hO zK (vS p6 y c6) cs,hO Int (vS bb aq bd) aU,hB b (cStmt s p1 c1 p2 c2 p3 c3 p4 c4)]))<|yK [] [9] rfl<|zL<|zG<|zJ<|yK [] [11] rfl<|yU<|nD<|ih aq (W (i+1)) _ N H h h5 h8 h1 h2 h3 h4 h16 hg ho hx hr
 intro hc N;exact wM<|xW (zX [1,2] rfl (by decide))<|yS<|hx _ _ _ _ _ (zD N).symm H h9
def mP(list:(List zF))(s:zP)(ah:(List Int)):Option ((List Int)×Int×Bool):=do
 let y<-rF ([]:List zK) s.Value
 match<-tV list ah y ([]:List Int) 0 with
 | .ret r0=>pure r0
 | .done aj=>
  let y2<-kU list s.Write ah;if(decide (y2<0)) then pure (([]:List Int),0,false)
  else pure (aj,y2,true)
theorem zDD:∀list s ah r,mP list s ah=some r->∀{I:Imm}{p c p1 c1 p2 c2 p3 c3 p4 c4 p5 c5},(S4 I p list c)->(S4 I p1 s.Write.Subs c1)->(S4 I p2 s.Value.Index.Coefs c2)->(S4 I p3 s.Value.Read.Subs c3)->(S4 I p4 s.Value.Kids c4)->(S4 I p5 ah c5)->RT 119 [vS p list c,vA (cStmt s p1 c1 p2 c2 p3 c3 p4 c4),vS p5 ah c5] I [] (zBm  r):=by
 intro list s ah r N I p c p1 c1 p2 c2 p3 c3 p4 c4 p5 c5 h h1 h2 h3 h4 h5;unfold mP at N;refine yL func119 λB=>yF<|vK (cStmt s p1 c1 p2 c2 p3 c3 p4 c4) ?_;intro b hb;refine wB [] []<|yW<|uP [] Int ?_;intro b1 hb1;have h6:RL I [] ([]:List Int):=rfl;refine yK [] [9] rfl<|yW<|uP [] zK ?_;intro b2 hb2;have h7:RL I [] ([]:List zK):=rfl;refine sW 3 [2] [(17,vA (cExpr s.Value p2 c2 p3 c3 p4 c4))]<|bE N λy hy N=>sG (zHk ([]:List zK) s.Value _ hy h7 h2 h3 h4) rfl ?_;rintro I0 av v2 k2 le - ⟨p6,c6,cs,rfl,rfl,h8⟩ -;have ⟨h,h5,h6,h1,h2,h3⟩:=m6 le h h5 h6 h1 h2 h3;have h4:=h4.mono le;refine yK [] [10] rfl<|zZ<|yH [11] rfl<|xY<|pE [(0,vS p list c),(2,vS p5 ah c5),(4,vP b 0),(9,vS (some ⟨b1,0,none⟩) ([]:List Int) 0),(10,vS p6 y c6),(11,vI 0)] ?_;obtain⟨o0,aA,aG⟩:=zB N;refine zFE list ah y ([]:List Int) 0 o0 aA iR h h5 h8 h1 h2 h3 h4 h6 nG nO ?_ ?_
 ·intro bx aj p8 c8 aM heq aH h10;subst o0;have ⟨h,h5,h1⟩:=m3 aH h h5 h1;refine zS<|yW<|sW 4 [1] [(39,vS p list c),(41,vA (cAccess s.Write p1 c1)),(42,vS p5 ah c5)] ?_;obtain⟨y2,bk,N⟩:=zB aG;refine eO (zDj list s.Write ah _ bk h h1 h5) ?_;intro bI bf;have h10:=iM bf h10;refine yK [] [13] rfl<|zZ<|yH [45] rfl<|zG<|yE N ?_ ?_
  ·intro aV N;refine yF<|uP [] Int ?_;intro b5 hb5;have h18:RL bI [] ([]:List Int):=rfl;refine yK [] [6,7,8] rfl<|xD<|zH<|yZ 0 rfl ?_;intro bL bu hl01;have h19:=SL.of_frozen hl01 bu h18;exact xU N (.tmp rfl (resU rfl rfl)) zM ⟨_,_,_,rfl,rfl,h19,rfl,rfl⟩
  intro aV N;refine zT<|wV [6,7,8] rfl<|xD<|yZ 0 rfl ?_;intro I06 bG hl02;have h20:=SL.of_frozen hl02 bG h10;exact xU N (.tmp rfl (resU rfl rfl)) zM ⟨_,_,_,rfl,rfl,h20,rfl,rfl⟩
 intro r0 I9 hs9 m9 aW le9 aY;subst aW;refine zW<|zH ?_;obtain rfl:=zD aG;exact fO aY
def tW(p:(List Int))(i:Int):Option (Out Unit (Bool)):=do
 if(decide (i<(p.length:Int))) then
  let x<-idx p i;let y<-uN x 9999;if(!y) then pure (.ret false)
  else tW p (W (i+1))
 else pure (.done ())
 partial_fixpoint
theorem zFF(p:(List Int)):∀(i:Int) (o:Out Unit (Bool)),tW p i=some o->∀{B}{I0 I:Imm}{Q p1 c},I0.le I->(S4 I p1 p c)->NG Q->NO Q->(∀I',o=(.done ())->I0.le I'->T 19 B Q (.exit 0) I' [] [(0,vS p1 p c)])->(∀r I' ag m',o=(.ret r)->I0.le I'->RS Tryz.prog f120 B (zU  r) I' ag m'->T 19 B Q .ret I' ag m')->J Tryz.prog 19 B (nav (bodyOf f120) [1,0,1,0]) Q I [] [(0,vS p1 p c),(3,vI i)]:=by
 refine tW.partial_correctness p _ λaI ih i o N B I0 I Q p1 c H h hg ho hx hr=>yV hg ho<|yB<|yH [7] rfl<|zG<|yE N ?_ ?_
 ·intro hc N;refine zT<|zZ<|yI<|yF<|yG 2 [] [10,11] rfl<|bE N λx hy N=>xK rfl rfl h hy ?_;intro ad aN ap ak;obtain rfl:=ak;refine xA 0 ap [vI x] (vI x) rfl<|bE N λy ay N=>vJ (zAe x 9999 _ ay ) ?_;intro I0 le;have ⟨h,H⟩:=m2 le h H;refine yK [] [15] rfl<|zG<|yE N ?_ ?_
  ·intro aE N;exact wL [(2,vF)]<|xD<|zW<|zH<|zH<|hr _ _ _ _ (zD N).symm H ⟨_,_,(resT rfl),zM,⟨_,rfl,rfl,rfl⟩⟩
  intro aE N;exact zT<|zL<|zG<|zJ<|yK [] [3] rfl<|yU<|nD<|ih (W (i+1)) _ N H h hg ho hx hr
 intro hc N;exact wM<|yS<|hx _  (zD N).symm H
def jB(p:(List Int)):Option (Bool):=do
 match<-tW p 0 with
 | .ret r0=>pure r0
 | .done _=>
  pure (decide ((p.length:Int)<=4))
theorem zHl:∀p r,jB p=some r->∀{I:Imm}{p1 c},(S4 I p1 p c)->RT 120 [vS p1 p c] I [] (zU  r):=by
 intro p r N I p1 c h;unfold jB at N;refine yL func120 λB=>wL []<|zZ<|yH [3] rfl<|xY<|pE [(0,vS p1 p c),(3,vI 0)] ?_;obtain⟨o0,aA,aG⟩:=zB N;refine zFF p 0 o0 aA iR h nG nO ?_ ?_
 ·intro aT  heq aa;subst o0;refine zS<|wV [2] rfl<|zG<|yX ?_;obtain rfl:=zD aG;exact wC
 intro r0 I9 hs9 m9 aW le9 aY;subst aW;refine zW<|zH ?_;obtain rfl:=zD aG;exact fO aY
def tK(list:(List zF))(part:zQ)(y1:(List (List Int)))(i:Int)(k0:Int):Option (Out Unit (Int×Bool)):=do
 if(decide (k0<(y1.length:Int))) then
  let x1<-idx part.Body i;let x2<-idx y1 k0;let (y5,y6,y7)<-mP list x1 x2;let t80<-(do
   if(!y7) then pure true
   else
    let x3<-idx y1 k0;let y8<-jB x3;pure (!y8)
     : Option Bool)
  if t80 then pure (.ret (0,false))
  else tK list part y1 i (W (k0+1))
 else pure (.done ())
 partial_fixpoint
theorem zFx(list:(List zF))(part:zQ)(y1:(List (List Int)))(i:Int):∀(k0:Int) (o:Out Unit (Int×Bool)),tK list part y1 i k0=some o->∀{B}{I0 I:Imm}{Q p c p1 c1 p2 c2}{b}{p3 c3},I0.le I->(S4 I p list c)->(S4 I p3 y1 c3)->(S4 I p1 part.Nest c1)->(S4 I p2 part.Body c2)->NG Q->NO Q->(∀I',o=(.done ())->I0.le I'->T 87 B Q (.exit 2) I' [hB b (cPart part p1 c1 p2 c2)] [(0,vS p list c),(3,vP b 0),(6,vS p3 y1 c3),(8,vI i)])->(∀r I' ag m',o=(.ret r)->I0.le I'->RS Tryz.prog f81 B (fI  r) I' ag m'->T 87 B Q .ret I' ag m')->J Tryz.prog 87 B (nav (bodyOf f81) [1,1,1,0,1,0,0,1,0,0,1,1,0]) Q I [hB b (cPart part p1 c1 p2 c2)] [(0,vS p list c),(3,vP b 0),(6,vS p3 y1 c3),(8,vI i),(9,vI k0)]:=by
 refine tK.partial_correctness list part y1 i _ λaI ih k0 o N B I0 I Q p c p1 c1 p2 c2 b p3 c3 H h h3 h1 h2 hg ho hx hr=>yV hg ho<|yB<|yH [53] rfl<|zG<|yE N ?_ ?_
 ·intro hc5 N;refine zT<|zZ<|yI<|yB ?_;obtain⟨x1,aX,N⟩:=zB N;obtain⟨x2,bk,N⟩:=zB N;obtain⟨⟨y5,y6,y7⟩,bC,N⟩:=zB N;refine wA [.p (vS p list c) [],.p (vP b 1) [],.p (vS p2 part.Body c2) [0],.p (vI i) [],.x (ePStmt x1),.x (eVStmt x1),.p (vS p3 y1 c3) [],.p (vI k0) [],.x (λI' v hx=>∃ad2 bz bo,v=.pointer (some ad2)/\hx=[]/\(At I' ad2 [vS bz x2 bo])/\(S4 I' bz x2 bo)),.x (eS x2),.x (λI' v hx=>∃bj bw,v=.tuple ⟨[vS bj y5 bw,vI y6,.bool y7]⟩/\hx=[]/\(S4 I' bj y5 bw)),.x (λI' v hx=>∃p131 c131,v=.tuple ⟨[vS p131 y5 c131,vI y6,.bool y7]⟩/\hx=[]/\(S4 I' p131 y5 c131)),.x (eS y5),.q (vI y6),.q (.bool y7),.x (eS y5),.p (vI y6) []] [[],[],[(1,false)],[],[(2,false),(3,false)],[(4,false)],[],[],[(6,false),(7,false)],[(8,false)],[(0,false),(5,false),(9,false)],[(10,false)],[(11,false)],[(11,false)],[(11,false)],[(12,false)],[(13,false)]] [hB b (cPart part p1 c1 p2 c2)] [] [(14,false)] (zY [0]) ?_ ?_
  ·refine O4<|Ox ?_<|Ox ?_<|O2<|Ox ?_<|Ox ?_<|Ox ?_<|Ox ?_<|Ox ?_<|Oq ?_<|Oq ?_<|Ox ?_<|Op<|On
   ·intro I1 hf aa;refine yP [59,60] rfl ?_;have h2:=h2.mono aa;refine xK rfl rfl h2 aX ?_;intro ad1 bm ar au;obtain⟨p8,c8,p9,c9,bb,bd,aR,bh,rfl,h10,h11,h12,h13⟩:=sA au;exact yM [] iR ⟨_,_,_,_,_,_,_,_,_,rfl,rfl,ar,h10,h11,h12,h13⟩
   ·rintro I1 hf aa _ _ ⟨ad1,p8,c8,p9,c9,bb,bd,aR,bh,rfl,rfl,ar,h10,h11,h12,h13⟩;exact yP [61] rfl<|xA 0 ar (cStmt x1 p8 c8 p9 c9 bb bd aR bh) (vA (cStmt x1 p8 c8 p9 c9 bb bd aR bh)) rfl<|yM [] iR ⟨_,_,_,_,_,_,_,_,rfl,rfl,h10,h11,h12,h13⟩
   ·intro I1 hf aa;refine yP [63,64] rfl ?_;have h3:=h3.mono aa;refine xK rfl rfl h3 bk ?_;intro ad2 bO aS aZ;obtain⟨v011,rfl,h14⟩:=aZ;obtain⟨bz,bo,rfl⟩:=h14.form;exact yM [] iR ⟨_,_,_,rfl,rfl,aS,h14⟩
   ·rintro I1 hf aa _ _ ⟨ad2,bz,bo,rfl,rfl,aS,h14⟩;exact yP [65] rfl<|xA 0 aS [vS bz x2 bo] (vS bz x2 bo) rfl<|yM [] iR ⟨_,_,rfl,rfl,h14⟩
   ·rintro I1 hf aa _ _ ⟨rfl,rfl⟩ _ _ ⟨p81,c81,p91,c91,p101,c101,p111,c111,rfl,rfl,h101,h111,h121,h131⟩ _ _ ⟨p121,c121,rfl,rfl,h141⟩;refine yP [57,62,66] rfl ?_;have H:=iS I1;have h:=h.mono aa;refine xF (zDD list x1 x2 _ bC h h101 h111 h121 h131 h141) ?_;rintro bI av v2 k2 bf - ⟨v012,v013,v014,rfl,rfl,h15,rfl,rfl⟩ -;have H:=H.trans bf;obtain⟨bj,bw,rfl⟩:=h15.form;exact yM [] H ⟨_,_,rfl,rfl,h15⟩
   ·rintro I1 hf aa _ _ ⟨bj,bw,rfl,rfl,h15⟩;exact yP [67] rfl<|tD 12 [(56,.tuple ⟨[vS bj y5 bw,vI y6,.bool y7]⟩)]<|yM [] iR ⟨_,_,rfl,rfl,h15⟩
   ·rintro I1 hf aa _ _ ⟨p131,c131,rfl,rfl,h151⟩;exact yP [56] rfl<|tD 13 [(68,vS p131 y5 c131)]<|yM [] iR ⟨_,_,rfl,rfl,h151⟩
   ·rintro I1 hf aa _ _ ⟨p131,c131,rfl,rfl,h151⟩;exact yP [56] rfl<|tD 14 [(69,vI y6)]<|yR iR
   ·rintro I1 hf aa _ _ ⟨p131,c131,rfl,rfl,h151⟩;exact yP [56] rfl<|tD 15 [(70,.bool y7)]<|yR iR
   rintro I1 hf aa _ _ ⟨p1311,c1311,rfl,rfl,h1511⟩;exact yP [68] rfl<|tD 16 [(10,vS p1311 y5 c1311)]<|yM [] iR ⟨_,_,rfl,rfl,h1511⟩
  intro bL bu;refine yP [0,3,6,8,9,70] rfl ?_;have ⟨h,h3,h1,h2,H⟩:=m5 bu h h3 h1 h2 H;refine yK [] [12] rfl<|zG<|yB ?_;refine wK N [hB b (cPart part p1 c1 p2 c2)] (λt80=>[(0,vS p list c),(3,vP b 0),(6,vS p3 y1 c3),(8,vI i),(9,vI k0),(80,.bool t80)]) (λaO aB=>?_) ?_
  ·have H:=iS bL;refine zJ<|yG 3 [] [73] rfl<|xZ [73] aB ?_ ?_
   ·intro hc6 N;exact wB [] [(80,vY)]<|yS<|zV (ct N H)
   intro hc6 N;refine yG 5 [] [74,75] rfl<|bE N λx3 hy6 N=>xK rfl rfl h3 hy6 ?_;intro ad3 ccs3 hat3 bB;obtain⟨v015,rfl,h18⟩:=bB;obtain⟨p14,c14,rfl⟩:=h18.form;refine xA 0 hat3 [vS p14 x3 c14] (vS p14 x3 c14) rfl<|bE N λy8 hy7 N=>vJ (zHl x3 _ hy7 h18) ?_;intro I07 bG;have H:=H.trans bG;exact yK [] [80] rfl<|yS<|zV (ct N H)
  intro t80 I06 le7 hMc1;have ⟨h,h3,h1,h2,H⟩:=m5 le7 h h3 h1 h2 H;refine zG<|yE hMc1 ?_ ?_
  ·intro hc7 N;exact yH [4,5] rfl<|xD<|zW<|zH<|zH<|hr _ _ _ _ (zD N).symm H ⟨_,_,(resU rfl rfl),zM,⟨_,_,rfl,rfl,rfl,rfl⟩⟩
  intro hc7 N;exact zT<|zL<|zG<|zJ<|yK [] [9] rfl<|yU<|nD<|ih (W (k0+1)) _ N H h h3 h1 h2 hg ho hx hr
 intro hc5 N;exact wM<|yS<|hx _  (zD N).symm H
def tL(list:(List zF))(part:zQ)(y1:(List (List Int)))(i:Int):Option (Out Unit (Int×Bool)):=do
 if(decide (i<(part.Body.length:Int))) then
  let x<-idx part.Body i;let y3<-rW x (part.Nest.length:Int);if(!y3) then pure (.ret (0,false))
  else
   match<-tK list part y1 i 0 with
   | .ret r0=>pure (.ret r0)
   | .done _=>
    tL list part y1 (W (i+1))
 else pure (.done ())
 partial_fixpoint
theorem zFy(list:(List zF))(part:zQ)(y1:(List (List Int))):∀(i:Int) (o:Out Unit (Int×Bool)),tL list part y1 i=some o->∀{B}{I0 I:Imm}{Q p c p1 c1 p2 c2}{b}{p3 c3},I0.le I->(S4 I p list c)->(S4 I p3 y1 c3)->(S4 I p1 part.Nest c1)->(S4 I p2 part.Body c2)->NG Q->NO Q->(∀I',o=(.done ())->I0.le I'->T 87 B Q (.exit 0) I' [hB b (cPart part p1 c1 p2 c2)] [(3,vP b 0),(6,vS p3 y1 c3)])->(∀r I' ag m',o=(.ret r)->I0.le I'->RS Tryz.prog f81 B (fI  r) I' ag m'->T 87 B Q .ret I' ag m')->J Tryz.prog 87 B (nav (bodyOf f81) [1,1,1,0,1,0]) Q I [hB b (cPart part p1 c1 p2 c2)] [(0,vS p list c),(3,vP b 0),(6,vS p3 y1 c3),(8,vI i)]:=by
 refine tL.partial_correctness list part y1 _ λaI ih i o N B I0 I Q p c p1 c1 p2 c2 b p3 c3 H h h3 h1 h2 hg ho hx hr=>yV hg ho<|yB<|yF<|yK [0] [37] rfl<|zG<|yE N ?_ ?_
 ·intro bD N;refine zT<|zZ<|yI<|yB<|yB ?_;obtain⟨x,ay,N⟩:=zB N;obtain⟨y3,aF,N⟩:=zB N;refine wA [.p (vP b 1) [],.p (vS p2 part.Body c2) [0],.p (vI i) [],.x (ePStmt x),.x (eVStmt x),.p (vP b 0) [],.p (vS p1 part.Nest c1) [0],.p (vI (part.Nest.length:Int)) [],.q (.bool y3),.p (.bool (!y3)) []] [[],[(0,false)],[],[(1,false),(2,false)],[(3,false)],[],[(5,false)],[(6,false)],[(4,false),(7,false)],[(8,false)]] [hB b (cPart part p1 c1 p2 c2)] [] [(9,false)] (zY [0]) ?_ ?_
  ·refine O3<|Ox ?_<|Ox ?_<|O3<|Oq ?_<|Op<|On
   ·intro I1 hf aa;refine yP [41,42] rfl ?_;have h2:=h2.mono aa;refine xK rfl rfl h2 ay ?_;intro ad aN ap ak;obtain⟨p4,c4,p5,c5,p6,c6,p7,c7,rfl,h5,h6,h7,h8⟩:=sA ak;exact yM [] iR ⟨_,_,_,_,_,_,_,_,_,rfl,rfl,ap,h5,h6,h7,h8⟩
   ·rintro I1 hf aa _ _ ⟨ad,p4,c4,p5,c5,p6,c6,p7,c7,rfl,rfl,ap,h5,h6,h7,h8⟩;exact yP [43] rfl<|xA 0 ap (cStmt x p4 c4 p5 c5 p6 c6 p7 c7) (vA (cStmt x p4 c4 p5 c5 p6 c6 p7 c7)) rfl<|yM [] iR ⟨_,_,_,_,_,_,_,_,rfl,rfl,h5,h6,h7,h8⟩
   rintro I1 hf aa _ _ ⟨p41,c41,p51,c51,p61,c61,p71,c71,rfl,rfl,h51,h61,h71,h81⟩;refine yP [44,47] rfl ?_;have H:=iS I1;refine vJ (zA5 x (part.Nest.length:Int) _ aF h51 h61 h71 h81) ?_;intro aP aD;have H:=H.trans aD;exact yR H
  intro bx aH;refine yP [0,3,6,8,49] rfl ?_;have ⟨h,h3,h1,h2,H⟩:=m5 aH h h3 h1 h2 H;refine yA rfl<|zG<|yE N ?_ ?_
  ·intro bM N;exact yH [4,5] rfl<|xD<|zH<|zW<|zH<|zH<|hr _ _ _ _ (zD N).symm H ⟨_,_,(resU rfl rfl),zM,⟨_,_,rfl,rfl,rfl,rfl⟩⟩
  intro bM N;refine zT<|wV [9] rfl<|xY<|pE [(0,vS p list c),(3,vP b 0),(6,vS p3 y1 c3),(8,vI i),(9,vI 0)] ?_;obtain⟨o02,ho02,aG⟩:=zB N;refine zFx list part y1 i 0 o02 ho02 iR h h3 h1 h2 (λ_ _ _ h=>hg _ _ _ h) (λ_ _ h=>ho _ _ h) ?_ ?_
  ·intro I08  heq2 le8;subst o02;have ⟨h,h3,h1,h2,H⟩:=m5 le8 h h3 h1 h2 H;exact zS<|zL<|zG<|zJ<|yK [] [8] rfl<|yU<|nD<|ih (W (i+1)) _ aG H h h3 h1 h2 hg ho hx hr
  intro r0 I9 hs9 m9 aW le9 aY;subst aW;exact zW<|zW<|zH<|zH<|hr _ _ _ _ (zD aG).symm (H.trans le9) aY
 intro bD N;exact wM<|yS<|hx _  (zD N).symm H
def mL(list:(List zF))(part:zQ):Option (Int×Bool):=do
 let (y1,y2)<-oL part.Nest;let t32<-(do
  if(!y2) then pure true
  else
   if(decide ((part.Body.length:Int)<1)) then pure true
   else
    pure (decide ((part.Body.length:Int)>4))
    : Option Bool)
 if t32 then pure (0,false)
 else
  match<-tL list part y1 0 with
  | .ret r0=>pure r0
  | .done _=>
   pure ((W ((y1.length:Int)*(part.Body.length:Int))),true)
theorem zB0:∀list part r,mL list part=some r->∀{I:Imm}{p c p1 c1 p2 c2},(S4 I p list c)->(S4 I p1 part.Nest c1)->(S4 I p2 part.Body c2)->RT 81 [vS p list c,vA (cPart part p1 c1 p2 c2)] I [] (fI  r):=by
 intro list part r N I p c p1 c1 p2 c2 h h1 h2;unfold mL at N;refine yL func81 λB=>?_;have H:=iS I;refine yF<|vK (cPart part p1 c1 p2 c2) ?_;intro b hb;refine wB [] []<|yW<|yG 2 [0] [15] rfl ?_;obtain⟨⟨y1,y2⟩,hy,N⟩:=zB N;refine xF (zFD part.Nest _ hy h1) ?_;rintro I0 av v2 k2 le - ⟨v0,v01,rfl,rfl,h3,rfl⟩ -;have ⟨h,h1,h2,H⟩:=m4 le h h1 h2 H;obtain⟨p3,c3,rfl⟩:=h3.form;refine yK [] [6,7] rfl<|zZ<|yB ?_;refine wK N [hB b (cPart part p1 c1 p2 c2)] (λt32=>[(0,vS p list c),(3,vP b 0),(6,vS p3 y1 c3),(32,.bool t32)]) (λo0 aA=>?_) ?_
 ·have H:=iS I0;refine zJ<|yG 3 [] [21] rfl<|xZ [21] aA ?_ ?_
  ·intro hc N;exact wB [] [(32,vY)]<|yS<|zV (ct N H)
  intro hc N;refine yG 9 [0] [27] rfl<|xZ [27] N ?_ ?_
  ·intro aE N;exact wB [] [(32,vY)]<|yS<|zV (ct N H)
  intro aE N;exact yK [0] [32] rfl<|yS<|zV (ct N H)
 intro t32 aT aa aQ;have ⟨h,h3,h1,h2⟩:=m4 aa h h3 h1 h2;refine zG<|yE aQ ?_ ?_
 ·intro aV N;refine yH [4,5] rfl<|xD<|zH ?_;exact xU N (resU rfl rfl) zM ⟨_,_,rfl,rfl,rfl,rfl⟩
 intro aV N;refine zT<|zZ<|yH [8] rfl<|xY<|pE [(0,vS p list c),(3,vP b 0),(6,vS p3 y1 c3),(8,vI 0)] ?_;obtain⟨o03,ho03,hMl1⟩:=zB N;refine zFy list part y1 0 o03 ho03 iR h h3 h1 h2 nG nO ?_ ?_
 ·intro I09  heq3 le9;subst o03;refine zS<|yW<|yK [0] [4,5] rfl<|zG<|yX ?_;exact xU hMl1 (resU rfl rfl) zM ⟨_,_,rfl,rfl,rfl,rfl⟩
 intro r0 I9 hs9 m9 aW le9 aY;subst aW;refine zW<|zH ?_;obtain rfl:=zD hMl1;exact fO aY
def wT(p:zC)(total:Int)(i:Int):Option (Out Int (Bool)):=do
 if(decide (i<(p.Parts.length:Int))) then
  let x<-idx p.Parts i;let (y2,y3)<-mL p.Arrays x;if(!y3) then pure (.ret false)
  else wT p (W (total+y2)) (W (i+1))
 else pure (.done total)
 partial_fixpoint
theorem zC0(p:zC):∀(total:Int) (i:Int) (o:Out Int (Bool)),wT p total i=some o->∀{B}{I0 I:Imm}{Q p1 c p2 c1}{b},I0.le I->(S4 I p1 p.Arrays c)->(S4 I p2 p.Parts c1)->NG Q->NO Q->(∀I' total1,o=(.done total1)->I0.le I'->T 42 B Q (.exit 0) I' [] [(3,vI total1)])->(∀r I' ag m',o=(.ret r)->I0.le I'->RS Tryz.prog f43 B (zU  r) I' ag m'->T 42 B Q .ret I' ag m')->J Tryz.prog 42 B (nav (bodyOf f43) [1,1,1,0,1,0]) Q I [hB b (cProg p p1 c p2 c1)] [(1,vP b 0),(3,vI total),(4,vI i)]:=by
 refine wT.partial_correctness p _ λaI ih total i o N B I0 I Q p1 c p2 c1 b H h h1 hg ho hx hr=>yV hg ho<|yB<|yF<|yK [0] [21] rfl<|zG<|yE N ?_ ?_
 ·intro aV N;refine zT<|zZ<|yI<|yB ?_;obtain⟨x,ay,N⟩:=zB N;obtain⟨⟨y2,y3⟩,aF,N⟩:=zB N;refine wA [.p (vP b 0) [],.p (vS p1 p.Arrays c) [0],.p (vP b 1) [],.p (vS p2 p.Parts c1) [0],.p (vI i) [],.x (ePPart x),.x (eVPart x),.q (.tuple ⟨[vI y2,.bool y3]⟩),.p (.tuple ⟨[vI y2,.bool y3]⟩) [],.p (vI y2) [],.p (.bool y3) [],.p (vI y2) []] [[],[(0,false)],[],[(2,false)],[],[(3,false),(4,false)],[(5,false)],[(1,false),(6,false)],[(7,false)],[(8,false)],[(8,false)],[(9,false)]] [hB b (cProg p p1 c p2 c1)] [] [(10,false),(11,false)] (zY [0]) ?_ ?_
  ·refine O4<|Op<|Ox ?_<|Ox ?_<|Oq ?_<|O4<|On
   ·intro I1 hf aa;refine yP [28,29] rfl ?_;have h1:=h1.mono aa;refine xK rfl rfl h1 ay ?_;intro ad aN ap ak;obtain⟨p3,c2,p4,c3,rfl,h3,h4⟩:=vU ak;exact yM [] iR ⟨_,_,_,_,_,rfl,rfl,ap,h3,h4⟩
   ·rintro I1 hf aa _ _ ⟨ad,p3,c2,p4,c3,rfl,rfl,ap,h3,h4⟩;exact yP [30] rfl<|xA 0 ap (cPart x p3 c2 p4 c3) (vA (cPart x p3 c2 p4 c3)) rfl<|yM [] iR ⟨_,_,_,_,rfl,rfl,h3,h4⟩
   rintro I1 hf aa _ _ ⟨rfl,rfl⟩ _ _ ⟨p31,c21,p41,c31,rfl,rfl,h31,h41⟩;refine yP [26,31] rfl ?_;have H:=iS I1;have h:=h.mono aa;refine xF (zB0 p.Arrays x _ aF h h31 h41) ?_;rintro aP av v2 k2 aD - ⟨v03,v04,rfl,rfl,rfl,rfl⟩ -;have H:=H.trans aD;exact yR H
  intro bx aH;refine yP [1,3,4,5,34] rfl ?_;have ⟨h,h1,H⟩:=m3 aH h h1 H;refine yK [] [6] rfl<|zZ<|yH [36] rfl<|zG<|yE N ?_ ?_
  ·intro bD N;exact wL [(2,vF)]<|xD<|zH<|zW<|zH<|zH<|hr _ _ _ _ (zD N).symm H ⟨_,_,(resT rfl),zM,⟨_,rfl,rfl,rfl⟩⟩
  intro bD N;exact zT<|zG<|zJ<|yK [] [3] rfl<|zL<|zG<|zJ<|yK [] [4] rfl<|yU<|nD<|ih (W (total+y2)) (W (i+1)) _ N H h h1 hg ho hx hr
 intro aV N;exact wM<|xW zM<|yS<|hx _ _ (zD N).symm H
def uG(p:zC):Option (Bool):=do
 let t16<-(do
  let y<-kC p.Arrays;if(!y) then pure true
  else
   pure (decide ((p.Parts.length:Int)>4))
    : Option Bool)
 if t16 then pure false
 else
  match<-wT p 0 0 with
  | .ret r0=>pure r0
  | .done total1=>
   pure (decide (total1<=120))
theorem jY:∀p r,uG p=some r->∀{I:Imm}{p1 c p2 c1},(S4 I p1 p.Arrays c)->(S4 I p2 p.Parts c1)->RT 43 [vA (cProg p p1 c p2 c1)] I [] (zU  r):=by
 intro p r N I p1 c p2 c1 h h1;unfold uG at N;refine yL func43 λB=>?_;have H:=iS I;refine yF<|vK (cProg p p1 c p2 c1) ?_;intro b hb;refine wB [] []<|zZ<|yB ?_;refine wK N [hB b (cProg p p1 c p2 c1)] (λt16=>[(1,vP b 0),(16,.bool t16)]) (λo0 aA=>?_) ?_
 ·have H:=iS I;refine zJ<|yG 2 [0] [8] rfl ?_;obtain⟨y,hy,N⟩:=zB aA;refine vJ (zGz p.Arrays _ hy h) ?_;intro aT le;have H:=H.trans le;refine yG 5 [] [11] rfl<|xZ [11] N ?_ ?_
  ·intro hc N;exact wB [] [(16,vY)]<|yS<|zV (ct N H)
  intro hc N;exact yK [0] [16] rfl<|yS<|zV (ct N H)
 intro t16 I0 aa aQ;have ⟨h,h1⟩:=m2 aa h h1;refine zG<|yE aQ ?_ ?_
 ·intro aE N;refine wL [(2,vF)]<|xD<|zH ?_;obtain rfl:=zD N;exact wC
 intro aE N;refine zT<|wV [3] rfl<|zZ<|yH [4] rfl<|xY<|pE [(1,vP b 0),(3,vI 0),(4,vI 0)] ?_;obtain⟨aO,aB,aG⟩:=zB N;refine zC0 p 0 0 aO aB iR h h1 nG nO ?_ ?_
 ·intro bI total1 heq1 bf;subst aO;refine zS<|wV [2] rfl<|zG<|yX ?_;obtain rfl:=zD aG;exact wC
 intro r0 I9 hs9 m9 aW le9 aY;subst aW;refine zW<|zH ?_;obtain rfl:=zD aG;exact fO aY
def nU(nest:(List zE))(out:Str)(i:Int):Option (Str):=do
 if(decide (i<(nest.length:Int))) then
  let s<-cat out (⟨[102,111,114,32]⟩:Str);let x<-idx nest i;let y<-oK x.Lo;let s1<-cat s y;let s2<-cat s1 (⟨[32]⟩:Str);let x1<-idx nest i;let y1<-oK x1.Hi;let s3<-cat s2 y1;let s4<-cat s3 (⟨[10]⟩:Str);nU nest s4 (W (i+1))
 else pure (id out)
 partial_fixpoint
theorem zFz(nest:(List zE)):∀(out:Str) (i:Int) (o:Str),nU nest out i=some o->∀{B}{I0 I:Imm}{Q p c},I0.le I->(S4 I p nest c)->NG Q->NO Q->(∀I' aj,o=aj->I0.le I'->T 30 B Q (.exit 0) I' [] [(3,vT aj.l)])->J Tryz.prog 30 B (nav (bodyOf f170) [1,1,0,1,0]) Q I [] [(0,vS p nest c),(3,vT out.l),(4,vI i)]:=by
 refine nU.partial_correctness nest _ λaI ih out i o N B I0 I Q p c H h hg ho hx=>yV hg ho<|yB<|yH [8] rfl<|zG<|yE N ?_ ?_
 ·intro hc N;refine zT<|zZ<|yI ?_;obtain⟨s,hy,N⟩:=zB N;obtain⟨x,ay,N⟩:=zB N;obtain⟨y,aF,N⟩:=zB N;obtain⟨s1,aX,N⟩:=zB N;obtain⟨s2,bk,N⟩:=zB N;obtain⟨x1,bC,N⟩:=zB N;obtain⟨y1,hy6,N⟩:=zB N;obtain⟨s3,hy7,N⟩:=zB N;obtain⟨s4,hy8,N⟩:=zB N;refine wA [.p (vT out.l) [],.q (vT s.l),.p (vS p nest c) [],.p (vI i) [],.x (ePLoop x),.x (ePLoop x),.x (eS x.Lo),.q (vT y.l),.q (vT s1.l),.q (vT s2.l),.p (vS p nest c) [],.p (vI i) [],.x (ePLoop x1),.x (eQLoop 1 x1),.x (eS x1.Hi),.q (vT y1.l),.q (vT s3.l),.q (vT s4.l)] [[],[(0,false)],[],[],[(2,false),(3,false)],[(4,false)],[(5,false)],[(6,false)],[(1,false),(7,false)],[(8,false)],[],[],[(10,false),(11,false)],[(12,false)],[(13,false)],[(14,false)],[(9,false),(15,false)],[(16,false)]] [] [] [(17,false)] zM ?_ ?_
  ·refine Op<|Oq ?_<|O2<|Ox ?_<|Ox ?_<|Ox ?_<|Oq ?_<|Oq ?_<|Oq ?_<|O2<|Ox ?_<|Ox ?_<|Ox ?_<|Oq ?_<|Oq ?_<|Oq ?_<|On
   ·intro I1 hf aa;exact yP [11] rfl<|gW rfl hy<|yR iR
   ·intro I1 hf aa;refine yP [13,14] rfl ?_;have h:=h.mono aa;refine xK rfl rfl h ay ?_;intro ad aN ap ak;obtain⟨p1,c1,p2,c2,rfl,h1,h2⟩:=sX ak;exact yM [] iR ⟨_,_,_,_,_,rfl,rfl,ap,h1,h2⟩
   ·rintro I1 hf aa _ _ ⟨ad,p1,c1,p2,c2,rfl,rfl,ap,h1,h2⟩;exact yP [15] rfl<|tD 6 [(16,.pointer (some ad))]<|yM [] iR ⟨_,_,_,_,_,rfl,rfl,ap,h1,h2⟩
   ·rintro I1 hf aa _ _ ⟨ad1,aR,bh,p21,c21,rfl,rfl,ar,h11,h21⟩;exact yP [16] rfl<|xA 0 ar [vS aR x.Lo bh] (vS aR x.Lo bh) rfl<|yM [] iR ⟨_,_,rfl,rfl,h11⟩
   ·rintro I1 hf aa _ _ ⟨p111,c111,rfl,rfl,h111⟩;refine yP [17] rfl ?_;have H:=iS I1;refine xF (zAW x.Lo _ aF h111) ?_;rintro I0 av v2 k2 le - ⟨v02,rfl,rfl,rfl⟩ -;have H:=H.trans le;exact yR H
   ·intro I1 hf aa;exact yP [12,18] rfl<|gW rfl aX<|yR iR
   ·intro I1 hf aa;exact yP [19] rfl<|gW rfl bk<|yR iR
   ·intro I1 hf aa;refine yP [21,22] rfl ?_;have h:=h.mono aa;refine xK rfl rfl h bC ?_;intro ad2 bm aS au;obtain⟨p3,c3,p4,c4,rfl,h4,h5⟩:=sX au;exact yM [] iR ⟨_,_,_,_,_,rfl,rfl,aS,h4,h5⟩
   ·rintro I1 hf aa _ _ ⟨ad2,p3,c3,p4,c4,rfl,rfl,aS,h4,h5⟩;exact yP [23] rfl<|tD 14 [(24,.pointer (some (ad2.add 1)))]<|yM [] iR ⟨_,_,_,_,_,rfl,rfl,aS,h4,h5⟩
   ·rintro I1 hf aa _ _ ⟨ad21,p31,c31,p41,c41,rfl,rfl,hat21,h41,h51⟩;exact yP [24] rfl<|xA 1 hat21 [vS p41 x1.Hi c41] (vS p41 x1.Hi c41) rfl<|yM [] iR ⟨_,_,rfl,rfl,h51⟩
   ·rintro I1 hf aa _ _ ⟨p411,c411,rfl,rfl,h511⟩;refine yP [25] rfl ?_;have H:=iS I1;refine xF (zAW x1.Hi _ hy6 h511) ?_;rintro aT av v2 k2 aa - ⟨v05,rfl,rfl,rfl⟩ -;have H:=H.trans aa;exact yR H
   ·intro I1 hf aa;exact yP [20,26] rfl<|gW rfl hy7<|yR iR
   intro I1 hf aa;exact yP [27] rfl<|gW rfl hy8<|yR iR
  intro aP aD;refine yP [0,4,28] rfl ?_;have ⟨h,H⟩:=m2 aD h H;exact yK [] [3] rfl<|zL<|zG<|zJ<|yK [] [4] rfl<|yU<|nD<|ih s4 (W (i+1)) _ N H h hg ho hx
 intro hc N;exact wM<|yS<|hx _ _ (zD N).symm H
def zAJ(nest:(List zE)):Option (Str):=do
 let aj<-nU nest (⟨[]⟩:Str) 0;pure (id aj)
theorem zIe:∀nest r,zAJ nest=some r->∀{I:Imm}{p c},(S4 I p nest c)->RT 170 [vS p nest c] I [] (sI  r):=by
 intro nest r N I p c h;unfold zAJ at N;refine yL func170 λB=>wL []<|wV [3] rfl<|zZ<|yH [4] rfl<|xY<|pE [(0,vS p nest c),(3,vT ([])),(4,vI 0)] ?_;obtain⟨o0,aA,aG⟩:=zB N;refine zFz nest (⟨[]⟩:Str) 0 o0 aA iR h nG nO ?_;intro bx aj heq aH;subst o0;refine zS<|wV [2] rfl<|zG<|yX ?_;obtain rfl:=zD aG;exact wC
def tM(p:zC)(i:Int)(aq:Str)(k0:Int):Option (Str):=do
 let x1<-idx p.Arrays i;if(decide (k0<(x1.Dims.length:Int))) then
  let s2<-cat aq (⟨[32]⟩:Str);let x2<-idx p.Arrays i;let x3<-idx x2.Dims k0;let y1<-qV x3;let s3<-cat s2 y1;tM p i s3 (W (k0+1))
 else pure (id aq)
 partial_fixpoint
theorem zBx(p:zC)(i:Int):∀(aq:Str) (k0:Int) (o:Str),tM p i aq k0=some o->∀{B}{I0 I:Imm}{Q p1 c p2 c1}{b},I0.le I->(S4 I p1 p.Arrays c)->(S4 I p2 p.Parts c1)->NG Q->NO Q->(∀I' aL,o=aL->I0.le I'->T 103 B Q (.exit 2) I' [hB b (cProg p p1 c p2 c1)] [(1,vP b 0),(3,vT aL.l),(4,vI i)])->J Tryz.prog 103 B (nav (bodyOf f137) [1,1,1,0,1,0,0,1,0,0,1,0,1,0]) Q I [hB b (cProg p p1 c p2 c1)] [(1,vP b 0),(3,vT aq.l),(4,vI i),(5,vI k0)]:=by
 refine tM.partial_correctness p i _ λaI ih aq k0 o N B I0 I Q p1 c p2 c1 b H h h1 hg ho hx=>yV hg ho<|yB<|yF<|yG 4 [0] [28,30,31] rfl<|bE N λx1 bk N=>xK rfl rfl h bk ?_;intro ad1 bm ar au;obtain⟨p4,c3,rfl,h4⟩:=wZ au;refine yG 6 [] [33] rfl<|xA 1 ar [vS p4 x1.Dims c3] (vS p4 x1.Dims c3) rfl<|yK [] [36] rfl<|zG<|yE N ?_ ?_
 ·intro aV N;refine zT<|zZ<|yI<|zJ<|yG 1 [] [39] rfl<|bE N λs2 bC N=>gW rfl bC<|yG 5 [0] [42,43] rfl<|bE N λx2 hy6 N=>xK rfl rfl h hy6 ?_;intro ad2 bO aS aZ;obtain⟨p5,c4,rfl,h5⟩:=wZ aZ;refine yG 7 [] [45] rfl<|xA 1 aS [vS p5 x2.Dims c4] (vS p5 x2.Dims c4) rfl<|yG 9 [] [47] rfl<|bE N λx3 hy7 N=>xK rfl rfl h5 hy7 ?_;intro ad3 ccs3 hat3 bB;obtain rfl:=bB;refine xA 0 hat3 [vI x3] (vI x3) rfl<|bE N λy1 hy8 N=>xF (zA3 x3 _ hy8 ) ?_;rintro aT av v2 k2 aa - ⟨v04,rfl,rfl,rfl⟩ -;have ⟨h,h1,H⟩:=m3 aa h h1 H;obtain⟨s3,hy9,N⟩:=zB N;exact gW rfl hy9<|yK [] [3] rfl<|zL<|zG<|zJ<|yK [] [5] rfl<|yU<|nD<|ih s3 (W (k0+1)) _ N H h h1 hg ho hx
 intro aV N;exact wM<|yS<|hx _ _ (zD N).symm H
def tN(p:zC)(out:Str)(i:Int):Option (Str):=do
 if(decide (i<(p.Arrays.length:Int))) then
  let s<-cat out (⟨[97,114,114,97,121,32]⟩:Str);let x<-idx p.Arrays i;let s1<-cat s x.Name;let aL<-tM p i s1 0;let s4<-cat aL (⟨[10]⟩:Str);tN p s4 (W (i+1))
 else pure (id out)
 partial_fixpoint
theorem zBy(p:zC):∀(out:Str) (i:Int) (o:Str),tN p out i=some o->∀{B}{I0 I:Imm}{Q p1 c p2 c1}{b},I0.le I->(S4 I p1 p.Arrays c)->(S4 I p2 p.Parts c1)->NG Q->NO Q->(∀I' aj,o=aj->I0.le I'->T 103 B Q (.exit 0) I' [hB b (cProg p p1 c p2 c1)] [(1,vP b 0),(3,vT aj.l)])->J Tryz.prog 103 B (nav (bodyOf f137) [1,1,1,0,1,0]) Q I [hB b (cProg p p1 c p2 c1)] [(1,vP b 0),(3,vT out.l),(4,vI i)]:=by
 refine tN.partial_correctness p _ λaI ih out i o N B I0 I Q p1 c p2 c1 b H h h1 hg ho hx=>yV hg ho<|yB<|yF<|yK [0] [16] rfl<|zG<|yE N ?_ ?_
 ·intro aE N;refine zT<|zZ<|yI<|yF<|yG 1 [] [19] rfl<|bE N λs ay N=>gW rfl ay<|yG 5 [0] [22,23] rfl<|bE N λx aF N=>xK rfl rfl h aF ?_;intro ad aN ap ak;obtain⟨p3,c2,rfl,h3⟩:=wZ ak;refine yG 7 [] [25] rfl<|xA 0 ap [vT x.Name.l] (vT x.Name.l) rfl<|bE N λs1 aX N=>gW rfl aX<|yK [] [3] rfl<|zZ<|yH [5] rfl<|xY<|pE [(1,vP b 0),(3,vT s1.l),(4,vI i),(5,vI 0)] ?_;obtain⟨o0,aA,aG⟩:=zB N;refine zBx p i s1 0 o0 aA iR h h1 (λ_ _ _ h=>hg _ _ _ h) (λ_ _ h=>ho _ _ h) ?_;intro aP aL heq aD;subst o0;have ⟨h,h1,H⟩:=m3 aD h h1 H;refine zS<|zG<|zJ<|yG 1 [] [52] rfl ?_;obtain⟨s4,hy10,N⟩:=zB aG;exact gW rfl hy10<|yK [] [3] rfl<|zL<|zG<|zJ<|yK [] [4] rfl<|yU<|nD<|ih s4 (W (i+1)) _ N H h h1 hg ho hx
 intro aE N;exact wM<|yS<|hx _ _ (zD N).symm H
def tO(p:zC)(i1:Int)(out6:Str)(k01:Int):Option (Str):=do
 let x5<-idx p.Parts i1;if(decide (k01<(x5.Body.length:Int))) then
  let x6<-idx p.Parts i1;let x7<-idx x6.Body k01;let y3<-qG x7.Write;let s7<-cat out6 y3;let s8<-cat s7 (⟨[61]⟩:Str);let y4<-qW x7.Value;let s9<-cat s8 y4;let s10<-cat s9 (⟨[10]⟩:Str);tO p i1 s10 (W (k01+1))
 else pure (id out6)
 partial_fixpoint
theorem zBz(p:zC)(i1:Int):∀(out6:Str) (k01:Int) (o:Str),tO p i1 out6 k01=some o->∀{B}{I0 I:Imm}{Q p1 c p2 c1}{b},I0.le I->(S4 I p1 p.Arrays c)->(S4 I p2 p.Parts c1)->NG Q->NO Q->(∀I' out7,o=out7->I0.le I'->T 103 B Q (.exit 6) I' [hB b (cProg p p1 c p2 c1)] [(1,vP b 0),(3,vT out7.l),(6,vI i1)])->J Tryz.prog 103 B (nav (bodyOf f137) [1,1,1,1,0,1,0,0,1,0,0,1,1,0]) Q I [hB b (cProg p p1 c p2 c1)] [(1,vP b 0),(3,vT out6.l),(6,vI i1),(7,vI k01)]:=by
 refine tO.partial_correctness p i1 _ λaI ih out6 k01 o N B I0 I Q p1 c p2 c1 b H h h1 hg ho hx=>yV hg ho<|yB<|yF<|yG 4 [0] [71,73,74] rfl<|bE N λx5 hy15 N=>xK rfl rfl h1 hy15 ?_;intro ad5 ccs5 hat5 hrep5;obtain⟨p8,c7,p9,c8,rfl,h10,h11⟩:=vU hrep5;refine yG 6 [] [76] rfl<|xA 1 hat5 [vS p9 x5.Body c8] (vS p9 x5.Body c8) rfl<|yK [] [79] rfl<|zG<|yE N ?_ ?_
 ·intro bM N;refine zT<|zZ<|yI<|yF<|yG 3 [0] [83,84] rfl<|bE N λx6 hy16 N=>xK rfl rfl h1 hy16 ?_;intro ad6 ccs6 hat6 hrep6;obtain⟨bb,c9,aR,bd,rfl,h12,h13⟩:=vU hrep6;refine yG 5 [] [86] rfl<|xA 1 hat6 [vS aR x6.Body bd] (vS aR x6.Body bd) rfl<|yG 7 [] [88] rfl<|bE N λx7 hy17 N=>xK rfl rfl h13 hy17 ?_;intro ad7 ccs7 hat7 hrep7;obtain⟨bz,bh,bj,bo,p14,bw,p15,c14,rfl,h14,h15,h16,h17⟩:=sA hrep7;refine xA 0 hat7 (cStmt x7 bz bh bj bo p14 bw p15 c14) (vA (cStmt x7 bz bh bj bo p14 bw p15 c14)) rfl<|wI [vT ([]),z0,vI 0,vI 0,z0,vI 0,vT ([]),z0,z0] ?_;intro b1 hb1;refine xI 0 (cStmt x7 bz bh bj bo p14 bw p15 c14) rfl<|yA rfl<|zG ?_;obtain⟨y3,hy18,N⟩:=zB N;obtain⟨s7,hy19,N⟩:=zB N;obtain⟨s8,hy20,N⟩:=zB N;obtain⟨y4,hy21,N⟩:=zB N;obtain⟨s9,hy22,N⟩:=zB N;obtain⟨s10,hy23,N⟩:=zB N;refine wA [.p (vT out6.l) [],.p (vP b1 0) [],.p (vA (cAccess x7.Write bz bh)) [0],.q (vT y3.l),.q (vT s7.l),.q (vT s8.l),.p (vP b1 2) [],.p (vA (cExpr x7.Value bj bo p14 bw p15 c14)) [0],.q (vT y4.l),.q (vT s9.l),.q (vT s10.l)] [[],[],[(1,false)],[(2,false)],[(0,false),(3,false)],[(4,false)],[],[(6,false)],[(7,false)],[(5,false),(8,false)],[(9,false)]] [hB b1 (cStmt x7 bz bh bj bo p14 bw p15 c14),hB b (cProg p p1 c p2 c1)] [] [(10,false)] (zY [0,1]) ?_ ?_
  ·refine O3<|Oq ?_<|Oq ?_<|Oq ?_<|O2<|Oq ?_<|Oq ?_<|Oq ?_<|On
   ·intro I1 hf aa;refine yP [93] rfl ?_;have H:=iS I1;have h14:=h14.mono aa;refine xF (dK x7.Write _ hy18 h14) ?_;rintro bL av v2 k2 bu - ⟨v016,rfl,rfl,rfl⟩ -;have H:=H.trans bu;exact yR H
   ·intro I1 hf aa;exact yP [91,94] rfl<|gW rfl hy19<|yR iR
   ·intro I1 hf aa;exact yP [95] rfl<|gW rfl hy20<|yR iR
   ·intro I1 hf aa;refine yP [98] rfl ?_;have H:=iS I1;have ⟨h15,h16,h17⟩:=m3 aa h15 h16 h17;refine xF (zDg x7.Value _ hy21 h15 h16 h17) ?_;rintro I06 av v2 k2 bG - ⟨v017,rfl,rfl,rfl⟩ -;have H:=H.trans bG;exact yR H
   ·intro I1 hf aa;exact yP [96,99] rfl<|gW rfl hy22<|yR iR
   intro I1 hf aa;exact yP [100] rfl<|gW rfl hy23<|yR iR
  intro I07 le7;refine yP [1,6,7,101] rfl ?_;have ⟨h,h1,H⟩:=m3 le7 h h1 H;exact yK [] [3] rfl<|zL<|zG<|zJ<|yK [] [7] rfl<|yU<|jS (zX [1] rfl (by decide))<|nD<|ih s10 (W (k01+1)) _ N H h h1 hg ho hx
 intro bM N;exact wM<|yS<|hx _ _ (zD N).symm H
def tP(p:zC)(br:Str)(i1:Int):Option (Str):=do
 if(decide (i1<(p.Parts.length:Int))) then
  let s5<-cat br (⟨[112,97,114,116,10]⟩:Str);let x4<-idx p.Parts i1;let y2<-zAJ x4.Nest;let s6<-cat s5 y2;let out7<-tO p i1 s6 0;tP p out7 (W (i1+1))
 else pure (id br)
 partial_fixpoint
theorem zCA(p:zC):∀(br:Str) (i1:Int) (o:Str),tP p br i1=some o->∀{B}{I0 I:Imm}{Q p1 c p2 c1}{b},I0.le I->(S4 I p1 p.Arrays c)->(S4 I p2 p.Parts c1)->NG Q->NO Q->(∀I' out5,o=out5->I0.le I'->T 103 B Q (.exit 4) I' [] [(3,vT out5.l)])->J Tryz.prog 103 B (nav (bodyOf f137) [1,1,1,1,0,1,0]) Q I [hB b (cProg p p1 c p2 c1)] [(1,vP b 0),(3,vT br.l),(6,vI i1)]:=by
 refine tP.partial_correctness p _ λaI ih br i1 o N B I0 I Q p1 c p2 c1 b H h h1 hg ho hx=>yV hg ho<|yB<|yF<|yK [0] [58] rfl<|zG<|yE N ?_ ?_
 ·intro bD N;refine zT<|zZ<|yI<|yF<|yG 1 [] [61] rfl<|bE N λs5 hy11 N=>gW rfl hy11<|yG 5 [0] [64,65] rfl<|bE N λx4 hy12 N=>xK rfl rfl h1 hy12 ?_;intro ad4 ccs4 hat4 hrep4;obtain⟨p6,c5,p7,c6,rfl,h7,h8⟩:=vU hrep4;refine yG 7 [] [67] rfl<|xA 0 hat4 [vS p6 x4.Nest c5] (vS p6 x4.Nest c5) rfl<|bE N λy2 hy13 N=>xF (zIe x4.Nest _ hy13 h7) ?_;rintro bI av v2 k2 bf - ⟨v07,rfl,rfl,rfl⟩ -;have ⟨h,h1,H⟩:=m3 bf h h1 H;obtain⟨s6,hy14,N⟩:=zB N;refine gW rfl hy14<|yK [] [3] rfl<|wV [7] rfl<|xY<|pE [(1,vP b 0),(3,vT s6.l),(6,vI i1),(7,vI 0)] ?_;obtain⟨o02,ho02,hMl2⟩:=zB N;refine zBz p i1 s6 0 o02 ho02 iR h h1 (λ_ _ _ h=>hg _ _ _ h) (λ_ _ h=>ho _ _ h) ?_;intro I08 out7 heq2 le8;subst o02;have ⟨h,h1,H⟩:=m3 le8 h h1 H;exact zS<|zL<|zG<|zJ<|yK [] [6] rfl<|yU<|nD<|ih out7 (W (i1+1)) _ hMl2 H h h1 hg ho hx
 intro bD N;exact wM<|xW zM<|yS<|hx _ _ (zD N).symm H
def mQ(p:zC):Option (Str):=do
 let y<-uG p;if(!y) then pure (⟨[]⟩:Str)
 else
  let aj<-tN p (⟨qL0⟩:Str) 0;let out5<-tP p aj 0;pure (id out5)
theorem zDO:∀p r,mQ p=some r->∀{I:Imm}{p1 c p2 c1},(S4 I p1 p.Arrays c)->(S4 I p2 p.Parts c1)->RT 137 [vA (cProg p p1 c p2 c1)] I [] (sI  r):=by
 intro p r N I p1 c p2 c1 h h1;unfold mQ at N;refine yL func137 λB=>yF<|vK (cProg p p1 c p2 c1) ?_;intro b hb;refine wB [] []<|zZ<|yF<|sW 1 [0] [(9,vA (cProg p p1 c p2 c1))]<|bE N λy hy N=>vJ (jY p _ hy h h1) ?_;intro I0 le;have ⟨h,h1⟩:=m2 le h h1;refine yK [] [11] rfl<|zG<|yE N ?_ ?_
 ·intro hc N;refine yH [2] rfl<|xD<|zH ?_;obtain rfl:=zD N;exact wC
 intro hc N;refine zT<|wV [3] rfl<|zZ<|yH [4] rfl<|xY<|pE [(1,vP b 0),(3,vT (qL0)),(4,vI 0)] ?_;obtain⟨aO,aB,hMl1⟩:=zB N;refine zBy p (⟨qL0⟩:Str) 0 aO aB iR h h1 nG nO ?_;intro bx aj heq1 aH;subst aO;have ⟨h,h1⟩:=m2 aH h h1;refine zS<|zZ<|yH [6] rfl<|xY<|pE [(1,vP b 0),(3,vT aj.l),(6,vI 0)] ?_;obtain⟨o03,ho03,hMl3⟩:=zB hMl1;refine zCA p aj 0 o03 ho03 iR h h1 nG nO ?_;intro I09 out5 heq3 le9;subst o03;refine zS<|wV [2] rfl<|zG<|yX ?_;obtain rfl:=zD hMl3;exact wC
instance zOW{cs}{arr:List zF}{az}{al:List Raw2}{parts:List zQ}{vN:Value}{nl:List zE}{vB:Value}{bl:List zP}{csN csB:List Value}:MonoI (λi=>L4 i cs arr az al parts vN nl vB bl csN csB):=⟨λ_ _ hl h=>h.mono hl⟩
def zCm(r:zC×Bool):KT:=λkk I' ag v=>
 ∃(v0 v1:Value),ag=[]/\v=tupV [v0,v1]/\(∃cs,v0=.agg ⟨cs⟩/\Rp.rep I' cs r.1)/\v1=.bool r.2
def rY(y:List Str)(p:zC)(i:Int):Option zC:=do
 if(decide ((W (i+1))<(y.length:Int))) then
  let x<-idx y i;let p1<-zAI p x;rY y p1 (W (i+1))
 else pure p
 partial_fixpoint
theorem zC1(y:List Str):∀(p:zC) (i:Int) (o:zC),rY y p i=some o->∀{B}{I0 I:Imm}{Q}{bq:Str}{pl cl}{b b1:Nat}{p1 c cs p2 c1 az}{al:List Raw2}{vN vB:Value}{nl:List zE}{bl:List zP}{csN csB:List Value},I0.le I->(S4 I pl y cl)->L4 I cs p.Arrays az al p.Parts vN nl vB bl csN csB->(∀l a w,¬Q (.goto l) a w)->(∀a w,¬Q .outgrown a w) ->
 (∀(I':Imm) (p1:Option Addr) (c:Nat) (cs:List Value) (p2:Option Addr) (c1:Nat) (az:List Value) (al:List Raw2) (vN vB:Value) (nl:List zE) (bl:List zP) (csN csB:List Value),I0.le I'->L4 I' cs o.Arrays az al o.Parts vN nl vB bl csN csB->T 37 B Q (.exit 0) I' [hO zF (vS p1 o.Arrays c) cs,hO Raw2 (vS p2 al c1) az,hO zE vN csN,hO zP vB csB,hB b1 [vS p1 o.Arrays c,vS p2 al c1],hB b zTwo] [(0,vT bq.l),(2,vP b 0),(5,vP b1 0)]) ->
 J Tryz.prog 37 B (nav (bodyOf f99) [1,1,1,1,0,1,0]) Q I [hO zF (vS p1 p.Arrays c) cs,hO Raw2 (vS p2 al c1) az,hO zE vN csN,hO zP vB csB,hB b1 [vS p1 p.Arrays c,vS p2 al c1],hB b zTwo] [(0,vT bq.l),(2,vP b 0),(4,vS pl y cl),(5,vP b1 0),(6,vI i)]:=by
 refine rY.partial_correctness y _ ?_
 intro aI ih p i o N B I0 I Q bq pl cl b b1 p1 c cs p2 c1 az al vN vB nl bl csN csB H h hQ hg ho hx
 refine yV hg ho<|yB<|yH [18] rfl<|zG<|yE N ?_ ?_
 ·intro aE N
  refine zT<|zZ<|yI ?_
  obtain⟨x,hy,N⟩:=zB N
  obtain⟨q,ay,N⟩:=zB N
  refine wA [.p (vA [vS p1 p.Arrays c,vS p2 al c1]) [0],.p (vS pl y cl) [],.p (vI i) [],.x (λI' v hx=>∃ad,v=.pointer (some ad)/\hx=[]/\(At I' ad [vT x.l])),.x (λI' v hx=>v=vT x.l/\hx=[]),.x (λI' v hx=>∃(p1:Option Addr) (c:Nat) (cs:List Value) (p2:Option Addr) (c1:Nat) (az:List Value) (al:List Raw2) (vN vB:Value) (nl:List zE) (bl:List zP) (csN csB:List Value),v=vA [vS p1 q.Arrays c,vS p2 al c1]/\hx=[hO zF (vS p1 q.Arrays c) cs,hO Raw2 (vS p2 al c1) az,hO zE vN csN,hO zP vB csB]/\L4 I' cs q.Arrays az al q.Parts vN nl vB bl csN csB)] [[],[],[],[(1,false),(2,false)],[(3,false)],[(0,false),(4,false),(7,true)]] [hB b1 [vS p1 p.Arrays c,vS p2 al c1],hB b zTwo] [[hO zF (vS p1 p.Arrays c) cs,hO Raw2 (vS p2 al c1) az,hO zE vN csN,hO zP vB csB]] [(5,true)] (zY [4,5,0,1,2,3]) ?_ ?_
  ·refine O3<|Ox ?_<|Ox ?_<|Ox (hm:=λv hx=>by repeat' (first|exact zH1|exact zOW|refine @zLE _ _ (λ_=>?_)|refine @zKB _ _ ?_ ?_)) ?_<|On
   ·intro I1 hf aa
    refine yP [22,23] rfl<|xK rfl rfl (h.mono aa) hy ?_
    intro ad aN ap ak
    obtain rfl:=ak
    exact yM [] iR ⟨_,rfl,rfl,ap⟩
   ·intro I1 hf aa
    refine wG ?_
    rintro _ _ ⟨ad,rfl,rfl,ap⟩
    exact jF<|zDF [(24,.pointer (some ad))]<|xA 0 ap [vT x.l] (vT x.l) rfl<|yR iR
   intro I1 hf aa
   refine wG ?_
   rintro _ _ ⟨rfl,rfl⟩
   refine wG ?_
   rintro _ _ ⟨rfl,rfl⟩
   refine wG ?_
   rintro _ _ rfl
   refine yP [21,25] rfl<|sG (zIb p x _ ay (hQ.mono aa)) rfl ?_
   rintro aP av v2 k2 aD - ⟨p3,c2,aM,p4,c3,aU,raws1,vN1,vB1,nl1,bl1,csN1,csB1,rfl,rfl,hq⟩ -
   exact yM [hO zF (vS p3 q.Arrays c2) aM,hO Raw2 (vS p4 raws1 c3) aU,hO zE vN1 csN1,hO zP vB1 csB1] aD ⟨_,_,_,_,_,_,_,_,_,_,_,_,_,rfl,rfl,hq⟩
  intro bI bf
  refine wG ?_
  rintro _ _ ⟨p3,c2,aM,p4,c3,aU,raws1,vN1,vB1,nl1,bl1,csN1,csB1,rfl,rfl,hq⟩
  exact jF<|zDF [(0,vT bq.l),(2,vP b 0),(4,vS pl y cl),(5,vP b1 0),(6,vI i),(26,vA [vS p3 q.Arrays c2,vS p4 raws1 c3])]<|xI 4 [vS p3 q.Arrays c2,vS p4 raws1 c3] rfl<|yA rfl<|zL<|zG<|zJ<|yK [] [6] rfl<|yU<|nD<|ih _ _ _ N (H.trans bf) (h.mono bf) hq hg ho hx
 intro aE N
 obtain rfl:=zD N
 exact wM<|yS<|hx _ _ _ _ _ _ _ _ _ _ _ _ _ _ H hQ
def oW(bq:Str):Option (zC×Bool):=do
 let y<-gJ bq (10:UInt8);if(decide ((y.length:Int)>42)) then pure ((zC.mk [] []),false)
 else
  let p<-rY y (zC.mk [] []) 1;let t34<-(do
   if(bq.l==([]:List UInt8)) then pure true
   else
    let z<-mQ p;pure (!(z.l==bq.l))
     : Option Bool)
  if t34 then pure ((zC.mk [] []),false)
  else pure (p,true)
theorem zAr:∀bq r,oW bq=some r->∀{I:Imm},RT 99 [vT bq.l] I [] (zCm r):=by
 intro bq r N I;unfold oW at N;refine yL func99 λB=>yF<|wI zTwo ?_;intro b hb;refine wB [] []<|yW<|yG 1 [] [7] rfl<|bE N λy hy N=>xF (zBW bq (10:UInt8) _ hy) ?_;rintro I0 av v2 k2 le - ⟨v0,rfl,rfl,h⟩ -;obtain⟨pl,cl,rfl⟩:=h.form;refine yK [] [4] rfl<|yW<|yG 1 [] [9] rfl<|wI zTwo ?_;intro b1 hb1;refine zBu 0 zTwo [hB b1 zTwo,hB b zTwo] rfl rfl rfl rfl<|yA rfl<|zZ<|yH [12] rfl<|zG<|yE N ?_ ?_
 ·intro hc N;refine yF<|sW 1 [0] [(13,vA zTwo)]<|zBu 1 zTwo [hB b1 zTwo,hB b zTwo] rfl rfl rfl rfl<|wB [] [(3,vF)]<|xD<|zH ?_;exact xU N (resE 1 rfl rfl rfl) zM ⟨_,_,rfl,rfl,⟨_,rfl,(wN ⟨_,_,rfl,(SL.nil _),(SL.nil _)⟩)⟩,rfl⟩
 intro hc N;refine zT<|zZ<|yH [6] rfl<|xY<|pE [(0,vT bq.l),(2,vP b 0),(4,vS pl y cl),(5,vP b1 0),(6,vI 1)]<|jS (dA (Rp.sz zP))<|jS (dA (Rp.sz zE))<|jS (dA (Rp.sz Raw2))<|jS (dA (Rp.sz zF))<|bE N λp ay N=>zC1 (al:=[]) (vN:=z0) (vB:=z0) (nl:=[]) (bl:=[]) y (zC.mk [] []) 1 p ay iR h ⟨RepL.nil,RepL.nil,⟨by decide,rfl,.inl ⟨rfl,rfl⟩⟩,RepL.nil,RepL.nil⟩ nG nO λI1 p1 c cs p2 c1 az al vN vB nl bl csN csB aa hQ=>yZ 2 rfl ?_;intro I2 aD hl2;have kN:=SL.of_frozen hl2 aD hQ.n;have hQ:=hQ.mono aD;refine yZ 2 rfl ?_;intro I3 aH hl3;have kB:=SL.of_frozen hl3 aH hQ.b;replace kN:=kN.mono aH;have hQ:=hQ.mono aH;refine yZ 0 rfl ?_;intro I4 bf hl4;have kA:=SL.of_frozen hl4 bf hQ.arr;replace kN:=kN.mono bf;replace kB:=kB.mono bf;have hQ:=hQ.mono bf;refine yZ 0 rfl ?_;intro I5 bu hl5;have kP:SL I5 (vS p2 al c1) p.Parts:=⟨az,hl5,by
  rw[gX hQ.raw];exact(hQ.lp.done kN kB).mono λ_ _=>Rp.mono bu⟩
 have e0:vS p2 al c1=vS p2 p.Parts c1:=by simp only[vS,hQ.lp.2.1]
 rw[e0] at kP ⊢;clear e0 hl5 hl4 hl3 hl2 hQ;replace kA:=kA.mono bu;refine zS<|zZ<|yB<|bE N λt34 ht N=>qQ (K1 t34 I5 [hB b1 (cProg p p1 c p2 c1),hB b zTwo] λo=>[(2,vP b 0),(5,vP b1 0),(34,.bool o)]) ?_ ?_
 ·refine zJ<|sW 3 [] [(29,.bool (bq.l==([]:List UInt8)))] ?_;cases aV:(bq.l==([]:List UInt8)) with
  | true=>
   have hM0:=wQ aV ht;exact wB [] [(34,vY)]<|yS<|zV ⟨_,(zD hM0).symm,Imm.le.refl _,rfl,rfl⟩
  | false=>
   have hM0:=wE aV ht;obtain⟨z,hz,hM0⟩:=zB hM0;refine sW 4 [0] [(30,vA (cProg p p1 c p2 c1))]<|xF (zDO p _ hz kA kP) ?_;rintro I6 av v2 k2 bG - ⟨v0,rfl,rfl,rfl⟩ -;exact yK [] [34] rfl<|yS<|zV (ct hM0 bG)
 rintro I6 av m2 ⟨o,rfl,bG,rfl,rfl⟩;replace kA:=kA.mono bG;replace kP:=kP.mono bG;refine zG<|yE N ?_ ?_
 ·intro aV N;refine yF<|yG 1 [] [35] rfl<|zBu 1 zTwo [hB b1 (cProg p p1 c p2 c1),hB b zTwo] rfl rfl rfl rfl<|wB [] [(3,vF)]<|xD<|zH ?_;exact xU N (resE 1 rfl rfl rfl) zM ⟨_,_,rfl,rfl,⟨_,rfl,(wN ⟨_,_,rfl,(SL.nil _),(SL.nil _)⟩)⟩,rfl⟩
 intro aV N;refine zT<|yW<|sW 1 [0] [(36,vA (cProg p p1 c p2 c1))]<|xI 1 (cProg p p1 c p2 c1) rfl<|wB [] [(3,vY)]<|zG<|yX ?_;exact xU N (resE 1 rfl rfl rfl) zM ⟨_,_,rfl,rfl,⟨_,rfl,(wN ⟨_,_,rfl,kA,kP⟩)⟩,rfl⟩
def zHB(r:(List zF)):KT:=λkk I' ag v=>
 ∃v0,ag=[]/\v=tupV [v0]/\SL I' v0 r
def gO :Option ((List zF)):=do
 pure ([(zF.mk (⟨[65]⟩:Str) ([6]:List Int)),(zF.mk (⟨[66]⟩:Str) ([4,5]:List Int)),(zF.mk (⟨[67]⟩:Str) ([3]:List Int))]:List zF)
theorem zA6:∀r,gO =some r->∀{I:Imm} ,RT 76 [] I [] (zHB  r):=by
 intro  r N I;unfold gO at N;refine yL func76 λB=>wL []<|yW<|uP [vI 6] Int ?_;intro b hb;have h:RL I [vI 6] ([6]:List Int):=rI [6];refine yG 2 [] [2] rfl<|uP [vI 4,vI 5] Int ?_;intro b1 hb1;have h1:RL I [vI 4,vI 5] ([4,5]:List Int):=rI [4,5];refine yG 4 [] [4] rfl<|uP [vI 3] Int ?_;intro b2 hb2;have h2:RL I [vI 3] ([3]:List Int):=rI [3];refine yG 6 [] [6] rfl<|xM 2 rfl ?_;intro I0 le hl0;have h3:=SL.of_frozen hl0 le h;have ⟨h1,h2⟩:=m2 le h1 h2;refine xM 1 rfl ?_;intro aT aa hl01;have h4:=SL.of_frozen hl01 aa h1;have ⟨h3,h2⟩:=m2 aa h3 h2;refine xM 0 rfl ?_;intro aP aD hl02;have h5:=SL.of_frozen hl02 aD h2;have ⟨h3,h4⟩:=m2 aD h3 h4;refine uP [vT ([65]),vS (some ⟨b,0,none⟩) ([6]:List Int) 1,vT ([66]),vS (some ⟨b1,0,none⟩) ([4,5]:List Int) 2,vT ([67]),vS (some ⟨b2,0,none⟩) ([3]:List Int) 1] zF ?_;intro b3 hb3;have h6:RL aP [vT ([65]),vS (some ⟨b,0,none⟩) ([6]:List Int) 1,vT ([66]),vS (some ⟨b1,0,none⟩) ([4,5]:List Int) 2,vT ([67]),vS (some ⟨b2,0,none⟩) ([3]:List Int) 1] ([(zF.mk (⟨[65]⟩:Str) ([6]:List Int)),(zF.mk (⟨[66]⟩:Str) ([4,5]:List Int)),(zF.mk (⟨[67]⟩:Str) ([3]:List Int))]:List zF):=⟨[vT ([65]),vS (some ⟨b,0,none⟩) ([6]:List Int) 1],_,rfl,rfl,(qY ⟨_,rfl,h3⟩),⟨[vT ([66]),vS (some ⟨b1,0,none⟩) ([4,5]:List Int) 2],_,rfl,rfl,(qY ⟨_,rfl,h4⟩),⟨[vT ([67]),vS (some ⟨b2,0,none⟩) ([3]:List Int) 1],_,rfl,rfl,(qY ⟨_,rfl,h5⟩),rfl⟩⟩⟩;refine yK [] [0] rfl<|xD<|yZ 0 rfl ?_;intro bx aH hl03;have h7:=SL.of_frozen hl03 aH h6;exact xU N (resT rfl) zM ⟨_,rfl,rfl,h7⟩
def qH(a0:zA)(x:Int)(b:zA)(y:Int)(i:Int)(Coefs:List Int):Option (List Int):=do
 if(decide (i<4)) then
  let x1<-idx a0.Coefs i;let x2<-idx b.Coefs i;let l<-app 8 Coefs ([(W ((W (x*x1))+(W (y*x2))))]:List Int);qH a0 x b y (W (i+1)) l
 else pure (id Coefs)
 partial_fixpoint
theorem zDk(a0:zA)(x:Int)(b:zA)(y:Int):∀(i:Int) (Coefs:List Int) (o:List Int),qH a0 x b y i Coefs=some o->∀{B}{I0 I:Imm}{Q p c p1 c1}{b1 b2 b3 b4}{p2 c2 cs},I0.le I->(S4 I p1 b.Coefs c1)->(S4 I p a0.Coefs c)->(RL I cs Coefs)->NG Q->NO Q->(∀I' Coefs1 p3 c3 az,o=Coefs1->I0.le I'->(RL I' az Coefs1)->T 46 B Q (.exit 0) I' [hO Int (vS p3 Coefs1 c3) az,hB b4 [vS p3 Coefs1 c3,vI (W ((W (x*a0.Const))+(W (y*b.Const))))],hB b3 [z0,vI 0]] [(8,vP b3 0),(9,vP b4 0)])->J Tryz.prog 46 B (nav (bodyOf f177) [1,1,0,1,0]) Q I [hO Int (vS p2 Coefs c2) cs,hB b4 [vS p2 Coefs c2,vI (W ((W (x*a0.Const))+(W (y*b.Const))))],hB b3 [z0,vI 0],hB b2 (cAff b p1 c1),hB b1 (cAff a0 p c)] [(1,vI x),(3,vI y),(4,vP b1 0),(6,vP b2 0),(8,vP b3 0),(9,vP b4 0),(10,vI i)]:=by
 refine qH.partial_correctness a0 x b y _ λaI ih i Coefs o N B I0 I Q p c p1 c1 b1 b2 b3 b4 p2 c2 cs H h1 h h3 hg ho hx=>yV hg ho<|yB<|yH [22] rfl<|zG<|yE N ?_ ?_
 ·intro hc N;refine zT<|zZ<|yI ?_;obtain⟨x1,hy,N⟩:=zB N;obtain⟨x2,ay,N⟩:=zB N;obtain⟨l,aF,N⟩:=zB N;refine wA [.p (vP b4 0) [],.p (vS p2 Coefs c2) [0],.p (vI x) [],.p (vP b1 0) [],.p (vS p a0.Coefs c) [3],.p (vI i) [],.x (λI' v hx=>∃ad,v=.pointer (some ad)/\hx=[]/\(At I' ad [vI x1])),.q (vI x1),.p (vI (W (x*x1))) [],.p (vI y) [],.p (vP b2 0) [],.p (vS p1 b.Coefs c1) [2],.p (vI i) [],.x (λI' v hx=>∃ad1,v=.pointer (some ad1)/\hx=[]/\(At I' ad1 [vI x2])),.q (vI x2),.p (vI (W (y*x2))) [],.p (vI (W ((W (x*x1))+(W (y*x2))))) [],.x (λI' v hx=>∃b5,v=vS (some ⟨b5,0,none⟩) ([(W ((W (x*x1))+(W (y*x2))))]:List Int) 1/\hx=[]/\(SL I' (vS (some ⟨b5,0,none⟩) ([(W ((W (x*x1))+(W (y*x2))))]:List Int) 1) ([(W ((W (x*x1))+(W (y*x2))))]:List Int))),.x (λI' v hx=>∃p4 c4 aM,v=vS p4 l c4/\hx=[hO Int (vS p4 l c4) aM]/\(RL I' aM l))] [[],[(0,false)],[],[],[(3,false)],[],[(4,false),(5,false)],[(6,false)],[(2,false),(7,false)],[],[],[(10,false)],[],[(11,false),(12,false)],[(13,false)],[(9,false),(14,false)],[(8,false),(15,false)],[(16,false)],[(1,false),(17,false),(21,true)]] [hB b4 [vS p2 Coefs c2,vI (W ((W (x*a0.Const))+(W (y*b.Const))))],hB b3 [z0,vI 0],hB b2 (cAff b p1 c1),hB b1 (cAff a0 p c)] [[hO Int (vS p2 Coefs c2) cs]] [(18,true)] (zY [1,2,3,4,0]) ?_ ?_
  ·refine O4<|O2<|Ox ?_<|Oq ?_<|O4<|Op<|Ox ?_<|Oq ?_<|O2<|Ox ?_<|Ox ?_<|On
   ·intro I1 hf aa;refine yP [29,30] rfl ?_;have h:=h.mono aa;refine xK rfl rfl h hy ?_;intro ad aN ap ak;obtain rfl:=ak;exact yM [] iR ⟨_,rfl,rfl,ap⟩
   ·rintro I1 hf aa _ _ ⟨ad,rfl,rfl,ap⟩;exact yP [31] rfl<|xA 0 ap [vI x1] (vI x1) rfl<|yR iR
   ·intro I1 hf aa;refine yP [36,37] rfl ?_;have h1:=h1.mono aa;refine xK rfl rfl h1 ay ?_;intro ad1 bm ar au;obtain rfl:=au;exact yM [] iR ⟨_,rfl,rfl,ar⟩
   ·rintro I1 hf aa _ _ ⟨ad1,rfl,rfl,ar⟩;exact yP [38] rfl<|xA 0 ar [vI x2] (vI x2) rfl<|yR iR
   ·intro I1 hf aa;refine yP [41] rfl ?_;have H:=iS I1;refine kM (rI [(W ((W (x*x1))+(W (y*x2))))]) ?_;intro b5 I0 le h6;have H:=H.trans le;exact yM [] H ⟨_,rfl,rfl,h6⟩
   rintro I1 hf aa _ _ ⟨rfl,rfl⟩ _ _ ⟨b5,rfl,rfl,h6⟩ _ _ rfl;refine yP [26,42] rfl ?_;have h3:=iM aa h3;obtain⟨bO,k0,k01⟩:=h6;have h6:SL I1 (vS (some ⟨b5,0,none⟩) ([(W ((W (x*x1))+(W (y*x2))))]:List Int) 1) ([(W ((W (x*x1))+(W (y*x2))))]:List Int):=⟨_,k0,k01⟩;exact qA 3 1 0 rfl rfl rfl h3 (.inl k0) k01 aF λp4 c4 aM h7=>uD (ag:=(hO Int (vS p4 l c4) aM::hB b4 [vS p2 Coefs c2,vI (W ((W (x*a0.Const))+(W (y*b.Const))))]::hB b3 [z0,vI 0]::hB b2 (cAff b p1 c1)::hB b1 (cAff a0 p c)::hf)) rfl<|yM [hO Int (vS p4 l c4) aM] iR ⟨_,_,_,rfl,rfl,h7⟩
  rintro aT aa _ _ ⟨p4,c4,aM,rfl,rfl,h7⟩;refine yP [1,3,4,6,8,9,10,43] rfl ?_;have ⟨h1,h,H⟩:=m3 aa h1 h H;exact yG 20 [] [44] rfl<|xI 1 [vS p4 l c4,vI (W ((W (x*a0.Const))+(W (y*b.Const))))] rfl<|yA rfl<|zL<|zG<|zJ<|yK [] [10] rfl<|yU<|nD<|ih (W (i+1)) l _ N H h1 h h7 hg ho hx
 intro hc N;exact wM<|xW (zX [0,1,2] rfl (by decide))<|yS<|hx _ _ _ _ _ (zD N).symm H h3
def kX(a0:zA)(x:Int)(b:zA)(y:Int):Option (zA):=do
 let Coefs1<-qH a0 x b y 0 ([]:List Int);pure (zA.mk Coefs1 (W ((W (x*a0.Const))+(W (y*b.Const)))))
theorem zBn:∀a0 x b y r,kX a0 x b y=some r->∀{I:Imm}{p c p1 c1},(S4 I p a0.Coefs c)->(S4 I p1 b.Coefs c1)->RT 177 [vA (cAff a0 p c),vI x,vA (cAff b p1 c1),vI y] I [] (fV  r):=by
 intro a0 x b y r N I p c p1 c1 h h1;unfold kX at N;refine yL func177 λB=>yF<|vK (cAff a0 p c) ?_;intro b1 hb;refine vK (cAff b p1 c1) ?_;intro b2 hb1;refine wI [z0,vI 0] ?_;intro b3 hb2;refine yA rfl<|yW<|sW 10 [2,1] [(20,vA [z0,vI (W ((W (x*a0.Const))+(W (y*b.Const))))])]<|wI [z0,vI 0] ?_;intro b4 hb3;refine xI 0 [z0,vI (W ((W (x*a0.Const))+(W (y*b.Const))))] rfl<|yA rfl<|zZ<|yH [10] rfl<|xY<|pE [(1,vI x),(3,vI y),(4,vP b1 0),(6,vP b2 0),(8,vP b3 0),(9,vP b4 0),(10,vI 0)]<|zAm Int λh2=>?_;obtain⟨o0,aA,aG⟩:=zB N;refine zDk a0 x b y 0 ([]:List Int) o0 aA iR h1 h h2 nG nO ?_;intro aP Coefs1 p3 c3 az heq aD h4;subst o0;refine zS<|yW<|sW 1 [1] [(45,vA [vS p3 Coefs1 c3,vI (W ((W (x*a0.Const))+(W (y*b.Const))))])]<|xI 2 [vS p3 Coefs1 c3,vI (W ((W (x*a0.Const))+(W (y*b.Const))))] rfl<|yA rfl<|xD<|yZ 0 rfl ?_;intro bx aH hl01;have h8:=SL.of_frozen hl01 aH h4;exact xU aG (resC 1 rfl rfl) zM ⟨_,rfl,rfl,⟨_,rfl,(yT ⟨_,rfl,h8⟩)⟩⟩
end Go.LN
