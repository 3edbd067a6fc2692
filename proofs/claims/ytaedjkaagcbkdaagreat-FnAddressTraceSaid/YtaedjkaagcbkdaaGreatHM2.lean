/- Helper of the proof (see the last text). -/
import Derived.Test.YtaedjkaagcbkdaaGreatHM1
set_option linter.unusedVariables false
set_option linter.unusedSimpArgs false
namespace Go.LN
open Go.Proofs
set_option maxRecDepth 20000
def mH (b0:Nat) (r:zW×zO):KT:=fun kk imm' hs' v=>
  ∃ v0 k0,hs'=[.blk b0 ⟨k0⟩]∧v=tupV [v0]∧(∃ cs,v0=.agg ⟨cs⟩∧Rp.rep imm' cs r.1)∧Rp.rep imm' k0 r.2
def sX (r0:zO) (p1:zW):Option (zW×zO):=do
 let y←sG p1
 let (y2,y3)←yW r0 60
 let (Arrays,Parts,x)←(do
   if (y2 == 0) then
    let (y5,y6)←qC y3 ([(⟨[65]⟩:Str),(⟨[68]⟩:Str),(⟨[69]⟩:Str)]:List Str)
    let (y8,y9)←yV y6 ([7,0,3,(-1)]:List Int)
    let l←app 40 y.Arrays ([(zJ.mk y5 ([y8]:List Int))]:List zJ)
    pure (l,y.Parts,y9)
   else
    let (Arrays1,Parts1,x1)←(do
      if (y2 == 1) then
       let (Arrays2,x2)←(do
         if (decide ((y.Arrays.length:Int) > 0)) then
          let (y11,y12)←yV y3 ([1,2,7]:List Int)
          let x3←idx y.Arrays 0
          let l1←pure (y.Arrays.set (0:Int).toNat (zJ.mk x3.Name ([y11]:List Int)))
          pure (l1,y12)
         else
          pure (y.Arrays,y3)
           : Option (List zJ×zO))
       pure (Arrays2,y.Parts,x2)
      else
       let (Parts2,x4)←(do
         if (y2 == 2) then
          let (Parts3,x5)←(do
            if (decide ((y.Parts.length:Int) > 0)) then
             let x6←idx y.Parts 0
             let (y14,y15)←qD y3 x6.Nest
             let (y17,y18)←qD y15 y14
             let (y20,y21)←qD y18 y17
             let x7←idx y.Parts 0
             let l2←pure (y.Parts.set (0:Int).toNat (zQ.mk y20 x7.Body))
             pure (l2,y21)
            else
             pure (y.Parts,y3)
              : Option (List zQ×zO))
          pure (Parts3,x5)
         else
          let (Parts4,x8)←(do
            if (y2 == 3) then
             let t76←(do
               if (decide ((y.Parts.length:Int) > 0)) then
                let x9←idx y.Parts (W ((y.Parts.length:Int) - 1))
                pure (decide ((x9.Body.length:Int) > 0))
               else
                pure false
                 : Option Bool)
             let (Parts5,x10)←(do
               if t76 then
                let x11←idx y.Parts (W ((y.Parts.length:Int) - 1))
                let x12←idx x11.Body 0
                let (y22,y23)←uY y3 x12
                let (y24,y25)←uY y23 y22
                let (y26,y27)←uY y25 y24
                let l3←pure ((y.Parts).set (W ((y.Parts.length:Int) - 1)).toNat (zQ.mk x11.Nest (x11.Body.set 0 y26)))
                pure (l3,y27)
               else
                pure (y.Parts,y3)
                 : Option (List zQ×zO))
             pure (Parts5,x10)
            else
             let Parts6←(do
               if (y2 == 4) then
                let Parts7←(do
                  if (decide ((y.Parts.length:Int) > 0)) then
                   let x13←idx y.Parts (W ((y.Parts.length:Int) - 1))
                   let l4←pure (y.Parts.set (W ((y.Parts.length:Int) - 1)).toNat (zQ.mk x13.Nest ([]:List zR)))
                   pure (id l4)
                  else
                   pure y.Parts
                    : Option (List zQ))
                pure (id Parts7)
               else
                pure y.Parts
                 : Option (List zQ))
             pure (Parts6,y3)
              : Option (List zQ×zO))
          pure (Parts4,x8)
           : Option (List zQ×zO))
       pure (y.Arrays,Parts2,x4)
        : Option (List zJ×List zQ×zO))
    pure (Arrays1,Parts1,x1)
     : Option (List zJ×List zQ×zO))
 pure ((zW.mk Arrays Parts),x)
theorem zBj:∀ (r0:zO) (p1:zW) r,sX r0 p1=some r→∀ {imm:Imm}{r01:Nat}{p c p2 c1 p3 c2},(S4 imm p r0.b c)→(S4 imm p2 p1.Arrays c1)→(S4 imm p3 p1.Parts c2)→(∀ (y:zW) (y2:Int) (y3:zO) (x:zQ) (s:zR),sG p1=some y→yW r0 60=some (y2,y3)→(y2 == 3)=true→idx y.Parts (W ((y.Parts.length:Int) - 1))=some x→idx x.Body 0=some s→False)→Ret Tryz.prog 61 [vP r01 0,vA (cProg p1 p2 c1 p3 c2)] imm [hB r01 (cRd r0 p c)] (mH r01 r):=by
 intro r0 p1 r hM imm r01 p c p2 c1 p3 c2 h h1 h2 hne;unfold sX at hM;refine yH (fn:=Tryz.f61) (c:=(bodyOf Tryz.f61)) Tryz.func61 rfl rfl ?_;rintro B - -;have hle:=iS imm;refine zG<|zB<|tA (cProg p1 p2 c1 p3 c2) ?_;intro b hb;refine uB zTwo ?_;intro b1 hb1;refine yN rfl<|zF<|zG<|zB<|yK 1 [1] [(7,vA (cProg p1 p2 c1 p3 c2))] ?_;obtain ⟨y,hy,hM⟩:=zC hM;refine yQ (zDq p1 _ hy h1 h2) ?_;rintro imm0 hs2 v2 k2 le - ⟨p4,c3,cs,p5,c4,cs1,rfl,rfl,h3,h4⟩ -;have h:=h.mono le;have hle:=hle.trans le;refine uB zTwo ?_;intro b2 hb2;refine xI 0 (cProg y p4 c3 p5 c4) [hB b2 (cProg y p4 c3 p5 c4),hO zJ (vS p4 y.Arrays c3) cs,hO zQ (vS p5 y.Parts c4) cs1,hB b1 zTwo,hB b (cProg p1 p2 c1 p3 c2),hB r01 (cRd r0 p c)] rfl rfl rfl rfl<|yN rfl<|zF<|zG<|zB<|yA [0] [(6,vI (y.Parts.length:Int))]<|zF<|zG<|zG<|zB<|yK 1 [] [(12,vP r01 0)]<|rY (zL [5,0,1,2,3,4] (hs':=[hB r01 (cRd r0 p c),hB b2 (cProg y p4 c3 p5 c4),hO zJ (vS p4 y.Arrays c3) cs,hO zQ (vS p5 y.Parts c4) cs1,hB b1 zTwo,hB b (cProg p1 p2 c1 p3 c2)]) rfl (by decide)) ?_;obtain ⟨⟨y2,y3⟩,hy1,hM⟩:=zC hM;refine tV [hB r01 (cRd r0 p c)] [hB b2 (cProg y p4 c3 p5 c4),hO zJ (vS p4 y.Arrays c3) cs,hO zQ (vS p5 y.Parts c4) cs1,hB b1 zTwo,hB b (cProg p1 p2 c1 p3 c2)] (xL r0 60 _ hy1 h) ?_;rintro imm01 hs2 v2 k2 le1 - ⟨v0,kk,rfl,rfl,rfl,h6⟩ -;have h3:=iM le1 h3;have h4:=iM le1 h4;have hle:=hle.trans le1;obtain ⟨v01,rfl,h7⟩:=yJ h6;obtain ⟨p6,c5,rfl⟩:=h7.form;refine yN rfl<|zF<|yC<|zG<|zB<|yA [] [(14,.bool (y2 == 0))]<|zF<|qW 5 rfl ?_;intro imm02 le2 hl0;have hat:At imm02 ⟨b,0,none⟩ (cProg p1 p2 c1 p3 c2):=At.of_blk hl0;have h7:=h7.mono le2;have h3:=iM le2 h3;have h4:=iM le2 h4;have hle:=hle.trans le2;obtain ⟨o0,ho0,hMc⟩:=zC hM;refine yT (fun imm' hs' m'=>∃ (Arrays:List zJ) (Parts:List zQ) (x:zO) (p7:Option Addr) (c6:Nat) (cs2:List Value) (p8:Option Addr) (c7:Nat) (cs3:List Value) (p9:Option Addr) (c8:Nat),o0=(Arrays,Parts,x)∧imm02.le imm'∧(RL imm' cs2 Arrays)∧(RL imm' cs3 Parts)∧(S4 imm' p9 x.b c8)∧hs'=[hB r01 (cRd x p9 c8),hB b2 [vS p7 Arrays c6,vS p8 Parts c7],hO zJ (vS p7 Arrays c6) cs2,hO zQ (vS p8 Parts c7) cs3,hB b1 zTwo]∧m'=[(4,vP b1 0),(5,vP b2 0)]) ?_ ?_
 · have hle:=iS imm02;refine yO ho0 ?_ ?_
   · intro hc hM;obtain ⟨⟨y5,y6⟩,hy2,hM⟩:=zC hM;obtain ⟨⟨y8,y9⟩,hy3,hM⟩:=zC hM;obtain ⟨l,hy4,hM⟩:=zC hM;refine vC [.p (vP b2 0) [],.p (vS p4 y.Arrays c3) [0],.p (vP r01 0) [],.x (fun imm' v hx=>∃ b3,v=vS (some ⟨b3,0,none⟩) ([(⟨[65]⟩:Str),(⟨[68]⟩:Str),(⟨[69]⟩:Str)]:List Str) 3∧hx=[]∧(SL imm' (vS (some ⟨b3,0,none⟩) ([(⟨[65]⟩:Str),(⟨[68]⟩:Str),(⟨[69]⟩:Str)]:List Str) 3) ([(⟨[65]⟩:Str),(⟨[68]⟩:Str),(⟨[69]⟩:Str)]:List Str))),.x (fun imm' v hx=>∃ p10 c9,v=vT y5.l∧hx=[hB r01 (cRd y6 p10 c9)]∧(S4 imm' p10 y6.b c9)),.p (vP r01 0) [],.x (fun imm' v hx=>∃ b4,v=vS (some ⟨b4,0,none⟩) ([7,0,3,(-1)]:List Int) 4∧hx=[]∧(SL imm' (vS (some ⟨b4,0,none⟩) ([7,0,3,(-1)]:List Int) 4) ([7,0,3,(-1)]:List Int))),.x (fun imm' v hx=>∃ p11 c10,v=vI y8∧hx=[hB r01 (cRd y9 p11 c10)]∧(S4 imm' p11 y9.b c10)),.x (fun imm' v hx=>∃ b5,v=vS (some ⟨b5,0,none⟩) ([y8]:List Int) 1∧hx=[]∧(SL imm' (vS (some ⟨b5,0,none⟩) ([y8]:List Int) 1) ([y8]:List Int))),.x (fun imm' v hx=>∃ b51,v=vA [vT y5.l,vS (some ⟨b51,0,none⟩) ([y8]:List Int) 1]∧hx=[]∧(SL imm' (vS (some ⟨b51,0,none⟩) ([y8]:List Int) 1) ([y8]:List Int))),.x (fun imm' v hx=>∃ b6,v=vS (some ⟨b6,0,none⟩) ([(zJ.mk y5 ([y8]:List Int))]:List zJ) 1∧hx=[]∧(SL imm' (vS (some ⟨b6,0,none⟩) ([(zJ.mk y5 ([y8]:List Int))]:List zJ) 1) ([(zJ.mk y5 ([y8]:List Int))]:List zJ))),.x (fun imm' v hx=>∃ p12 c11 cs4,v=vS p12 l c11∧hx=[hO zJ (vS p12 l c11) cs4]∧(RL imm' cs4 l))] [[],[(0,false)],[],[],[(2,false),(3,false),(14,true)],[],[],[(5,false),(6,false),(4,true)],[(7,false)],[(4,false),(8,false)],[(9,false)],[(1,false),(10,false),(15,true)]] [hB b2 (cProg y p4 c3 p5 c4),hO zQ (vS p5 y.Parts c4) cs1,hB b1 zTwo] [[hB r01 (cRd y3 p6 c5)],[hO zJ (vS p4 y.Arrays c3) cs]] [(7,true),(11,true)] (zL [1,3,4,0,2] rfl (by decide)) ?_ ?_
     · refine Op<|Op<|Op<|Ox ?_<|Ox ?_<|Op<|Ox ?_<|Ox ?_<|Ox ?_<|Ox ?_<|Ox ?_<|Ox ?_<|On
       · intro imm1 hf le1;refine zM<|yG [] ?_;have hle:=iS imm1;refine xV [vT ([65]),vT ([68]),vT ([69])] Str ?_;intro b3 hb3;have h11:RL imm1 [vT ([65]),vT ([68]),vT ([69])] ([(⟨[65]⟩:Str),(⟨[68]⟩:Str),(⟨[69]⟩:Str)]:List Str):=⟨[vT ([65])],_,rfl,rfl,rfl,⟨[vT ([68])],_,rfl,rfl,rfl,⟨[vT ([69])],_,rfl,rfl,rfl,rfl⟩⟩⟩;refine yL 0 rfl ?_;intro imm04 le3 hl01;have h12:=SL.of_frozen hl01 le3 h11;have hle:=hle.trans le3;exact zZ (hx:=[]) rfl hle rfl (zK rfl) ⟨_,rfl,rfl,h12⟩
       · intro imm1 hf le1;refine zE ?_;rintro _ _ ⟨rfl,rfl⟩;refine zE ?_;rintro _ _ ⟨b3,rfl,rfl,h12⟩;refine zE ?_;rintro _ _ rfl;refine zM<|yG [(18,vP r01 0),(19,vS (some ⟨b3,0,none⟩) ([(⟨[65]⟩:Str),(⟨[68]⟩:Str),(⟨[69]⟩:Str)]:List Str) 3)] ?_;have hle:=iS imm1;have h7:=h7.mono le1;refine tV [hB r01 (cRd y3 p6 c5)] (hB b2 (cProg y p4 c3 p5 c4)::hO zQ (vS p5 y.Parts c4) cs1::hB b1 zTwo::hf) (kC y3 ([(⟨[65]⟩:Str),(⟨[68]⟩:Str),(⟨[69]⟩:Str)]:List Str) _ hy2 h7 h12) ?_;rintro imm05 hs2 v2 k2 le4 - ⟨v02,kk1,rfl,rfl,rfl,h14⟩ -;have hle:=hle.trans le4;obtain ⟨v03,rfl,h15⟩:=yJ h14;obtain ⟨p10,c9,rfl⟩:=h15.form;exact zZ (hx:=[hB r01 (cRd y6 p10 c9)]) rfl hle rfl (zK rfl) ⟨_,_,rfl,rfl,h15⟩
       · intro imm1 hf le1;refine zM<|yG [] ?_;have hle:=iS imm1;refine xV [vI 7,vI 0,vI 3,vI (-1)] Int ?_;intro b4 hb4;have h16:RL imm1 [vI 7,vI 0,vI 3,vI (-1)] ([7,0,3,(-1)]:List Int):=⟨[vI 7],_,rfl,rfl,rfl,⟨[vI 0],_,rfl,rfl,rfl,⟨[vI 3],_,rfl,rfl,rfl,⟨[vI (-1)],_,rfl,rfl,rfl,rfl⟩⟩⟩⟩;refine yL 0 rfl ?_;intro imm06 le5 hl02;have h17:=SL.of_frozen hl02 le5 h16;have hle:=hle.trans le5;exact zZ (hx:=[]) rfl hle rfl (zK rfl) ⟨_,rfl,rfl,h17⟩
       · intro imm1 hf le1;refine zE ?_;rintro _ _ ⟨rfl,rfl⟩;refine zE ?_;rintro _ _ ⟨b4,rfl,rfl,h17⟩;refine zE ?_;rintro _ _ ⟨p10,c9,rfl,rfl,h15⟩;refine zM<|yG [(21,vP r01 0),(22,vS (some ⟨b4,0,none⟩) ([7,0,3,(-1)]:List Int) 4)] ?_;have hle:=iS imm1;refine tV [hB r01 (cRd y6 p10 c9)] (hB b2 (cProg y p4 c3 p5 c4)::hO zQ (vS p5 y.Parts c4) cs1::hB b1 zTwo::hf) (xE y6 ([7,0,3,(-1)]:List Int) _ hy3 h15 h17) ?_;rintro imm07 hs2 v2 k2 le6 - ⟨v04,kk2,rfl,rfl,rfl,h19⟩ -;have hle:=hle.trans le6;obtain ⟨v05,rfl,h20⟩:=yJ h19;obtain ⟨p11,c10,rfl⟩:=h20.form;exact zZ (hx:=[hB r01 (cRd y9 p11 c10)]) rfl hle rfl (zK rfl) ⟨_,_,rfl,rfl,h20⟩
       · intro imm1 hf le1;refine zE ?_;rintro _ _ ⟨p11,c10,rfl,rfl,h20⟩;refine zM<|yG [(23,vI y8)] ?_;have hle:=iS imm1;refine xV [vI y8] Int ?_;intro b5 hb5;have h21:RL imm1 [vI y8] ([y8]:List Int):=⟨[vI y8],_,rfl,rfl,rfl,rfl⟩;refine yL 0 rfl ?_;intro imm08 le7 hl03;have h22:=SL.of_frozen hl03 le7 h21;have hle:=hle.trans le7;exact zZ (hx:=[]) rfl hle rfl (zK rfl) ⟨_,rfl,rfl,h22⟩
       · intro imm1 hf le1;refine zE ?_;rintro _ _ ⟨p10,c9,rfl,rfl,h15⟩;refine zE ?_;rintro _ _ ⟨b5,rfl,rfl,h22⟩;refine zM<|yG [(20,vT y5.l),(24,vS (some ⟨b5,0,none⟩) ([y8]:List Int) 1)] ?_;have hle:=iS imm1;exact rW 10 [(25,vA [vT y5.l,vS (some ⟨b5,0,none⟩) ([y8]:List Int) 1])]<|zZ (hx:=[]) rfl hle rfl (zK rfl) ⟨_,rfl,rfl,h22⟩
       · intro imm1 hf le1;refine zE ?_;rintro _ _ ⟨b51,rfl,rfl,h221⟩;refine zM<|yG [(25,vA [vT y5.l,vS (some ⟨b51,0,none⟩) ([y8]:List Int) 1])] ?_;have hle:=iS imm1;refine xV [vT y5.l,vS (some ⟨b51,0,none⟩) ([y8]:List Int) 1] zJ ?_;intro b6 hb6;have h23:RL imm1 [vT y5.l,vS (some ⟨b51,0,none⟩) ([y8]:List Int) 1] ([(zJ.mk y5 ([y8]:List Int))]:List zJ):=⟨[vT y5.l,vS (some ⟨b51,0,none⟩) ([y8]:List Int) 1],_,rfl,rfl,(pG ⟨_,rfl,h221⟩),rfl⟩;refine yL 0 rfl ?_;intro imm09 le8 hl04;have h24:=SL.of_frozen hl04 le8 h23;have hle:=hle.trans le8;exact zZ (hx:=[]) rfl hle rfl (zK rfl) ⟨_,rfl,rfl,h24⟩
       intro imm1 hf le1;refine zE ?_;rintro _ _ ⟨rfl,rfl⟩;refine zE ?_;rintro _ _ ⟨b6,rfl,rfl,h24⟩;refine zE ?_;rintro _ _ rfl;refine zM<|yG [(17,vS p4 y.Arrays c3),(26,vS (some ⟨b6,0,none⟩) ([(zJ.mk y5 ([y8]:List Int))]:List zJ) 1)] ?_;have hle:=iS imm1;have h3:=iM le1 h3;obtain ⟨ccs,k0,k01⟩:=h24;have h24:SL imm1 (vS (some ⟨b6,0,none⟩) ([(zJ.mk y5 ([y8]:List Int))]:List zJ) 1) ([(zJ.mk y5 ([y8]:List Int))]:List zJ):=⟨_,k0,k01⟩;refine qQ 42 2 0 rfl rfl rfl h3 (.inl k0) k01 hy4 ?_;intro p12 c11 cs4 h25;exact uP (hs':=(hO zJ (vS p12 l c11) cs4::hB b2 (cProg y p4 c3 p5 c4)::hO zQ (vS p5 y.Parts c4) cs1::hB b1 zTwo::hf)) rfl<|zZ (hx:=[hO zJ (vS p12 l c11) cs4]) rfl hle rfl (zK rfl) ⟨_,_,_,rfl,rfl,h25⟩
     intro imm010 le9;refine zE ?_;rintro _ _ ⟨p11,c10,rfl,rfl,h20⟩;refine zE ?_;rintro _ _ ⟨p12,c11,cs4,rfl,rfl,h25⟩;refine zM<|yG [(4,vP b1 0),(5,vP b2 0),(27,vS p12 l c11)] ?_;have h4:=iM le9 h4;have hle:=hle.trans le9;exact yK 13 [] [(28,vP b2 0)]<|xI 2 [vS p12 l c11,vS p5 y.Parts c4] [hO zJ (vS p12 l c11) cs4,hB r01 (cRd y9 p11 c10),hB b2 [vS p12 l c11,vS p5 y.Parts c4],hO zQ (vS p5 y.Parts c4) cs1,hB b1 zTwo] rfl rfl rfl rfl<|yN rfl<|wB (zL [1,2,0,3,4] rfl (by decide))<|yS [(4,vP b1 0),(5,vP b2 0)]<|yB ⟨_,_,_,_,_,_,_,_,_,_,_,(zD hM).symm,hle,h25,h4,h20,rfl,rfl⟩
   intro hc hM;refine zG<|zB<|yA [] [(29,.bool (y2 == 1))]<|zF ?_;obtain ⟨o01,ho01,hMc1⟩:=zC hM;refine yT (fun imm' hs' m'=>∃ (Arrays1:List zJ) (Parts1:List zQ) (x1:zO) (p13:Option Addr) (c12:Nat) (cs5:List Value) (p14:Option Addr) (c13:Nat) (cs6:List Value) (p15:Option Addr) (c14:Nat),o01=(Arrays1,Parts1,x1)∧imm02.le imm'∧(RL imm' cs5 Arrays1)∧(RL imm' cs6 Parts1)∧(S4 imm' p15 x1.b c14)∧hs'=[hB r01 (cRd x1 p15 c14),hB b2 [vS p13 Arrays1 c12,vS p14 Parts1 c13],hO zJ (vS p13 Arrays1 c12) cs5,hO zQ (vS p14 Parts1 c13) cs6,hB b1 zTwo]∧m'=[(4,vP b1 0),(5,vP b2 0)]) ?_ ?_
   · have hle:=iS imm02;refine yO ho01 ?_ ?_
     · intro hc1 hM;refine zG<|zB<|yA [1] [(34,.bool (decide ((y.Arrays.length:Int) > 0)))]<|zF ?_;obtain ⟨o02,ho02,hMc2⟩:=zC hM;refine yT (fun imm' hs' m'=>∃ (Arrays2:List zJ) (x2:zO) (p16:Option Addr) (c15:Nat) (cs7:List Value) (p17:Option Addr) (c16:Nat),o02=(Arrays2,x2)∧imm02.le imm'∧(RL imm' cs7 Arrays2)∧(S4 imm' p17 x2.b c16)∧hs'=[hB r01 (cRd x2 p17 c16),hB b2 [vS p16 Arrays2 c15,vS p5 y.Parts c4],hO zJ (vS p16 Arrays2 c15) cs7,hO zQ (vS p5 y.Parts c4) cs1,hB b1 zTwo]∧m'=[(4,vP b1 0),(5,vP b2 0)]) ?_ ?_
       · have hle:=iS imm02;refine yO ho02 ?_ ?_
         · intro hc2 hM;obtain ⟨⟨y11,y12⟩,hy5,hM⟩:=zC hM;refine vC [.p (vP b2 0) [],.p (vS p4 y.Arrays c3) [0],.p (vP r01 0) [],.x (fun imm' v hx=>∃ b7,v=vS (some ⟨b7,0,none⟩) ([1,2,7]:List Int) 3∧hx=[]∧(SL imm' (vS (some ⟨b7,0,none⟩) ([1,2,7]:List Int) 3) ([1,2,7]:List Int))),.x (fun imm' v hx=>∃ p18 c17,v=vI y11∧hx=[hB r01 (cRd y12 p18 c17)]∧(S4 imm' p18 y12.b c17)),.x (fun imm' v hx=>∃ b8,v=vS (some ⟨b8,0,none⟩) ([y11]:List Int) 1∧hx=[]∧(SL imm' (vS (some ⟨b8,0,none⟩) ([y11]:List Int) 1) ([y11]:List Int)))] [[],[(0,false)],[],[],[(2,false),(3,false),(9,true)],[(4,false)]] [hB b2 (cProg y p4 c3 p5 c4),hO zJ (vS p4 y.Arrays c3) cs,hO zQ (vS p5 y.Parts c4) cs1,hB b1 zTwo] [[hB r01 (cRd y3 p6 c5)]] [(1,false),(4,true),(5,false)] (zL [1,2,3,4,0] rfl (by decide)) ?_ ?_
           · refine Op<|Op<|Op<|Ox ?_<|Ox ?_<|Ox ?_<|On
             · intro imm1 hf le1;refine zM<|yG [] ?_;have hle:=iS imm1;refine xV [vI 1,vI 2,vI 7] Int ?_;intro b7 hb7;have h31:RL imm1 [vI 1,vI 2,vI 7] ([1,2,7]:List Int):=⟨[vI 1],_,rfl,rfl,rfl,⟨[vI 2],_,rfl,rfl,rfl,⟨[vI 7],_,rfl,rfl,rfl,rfl⟩⟩⟩;refine yL 0 rfl ?_;intro imm013 le10 hl05;have h32:=SL.of_frozen hl05 le10 h31;have hle:=hle.trans le10;exact zZ (hx:=[]) rfl hle rfl (zK rfl) ⟨_,rfl,rfl,h32⟩
             · intro imm1 hf le1;refine zE ?_;rintro _ _ ⟨rfl,rfl⟩;refine zE ?_;rintro _ _ ⟨b7,rfl,rfl,h32⟩;refine zE ?_;rintro _ _ rfl;refine zM<|yG [(37,vP r01 0),(38,vS (some ⟨b7,0,none⟩) ([1,2,7]:List Int) 3)] ?_;have hle:=iS imm1;have h7:=h7.mono le1;refine tV [hB r01 (cRd y3 p6 c5)] (hB b2 (cProg y p4 c3 p5 c4)::hO zJ (vS p4 y.Arrays c3) cs::hO zQ (vS p5 y.Parts c4) cs1::hB b1 zTwo::hf) (xE y3 ([1,2,7]:List Int) _ hy5 h7 h32) ?_;rintro imm014 hs2 v2 k2 le11 - ⟨v06,kk3,rfl,rfl,rfl,h34⟩ -;have hle:=hle.trans le11;obtain ⟨v07,rfl,h35⟩:=yJ h34;obtain ⟨p18,c17,rfl⟩:=h35.form;exact zZ (hx:=[hB r01 (cRd y12 p18 c17)]) rfl hle rfl (zK rfl) ⟨_,_,rfl,rfl,h35⟩
             intro imm1 hf le1;refine zE ?_;rintro _ _ ⟨p18,c17,rfl,rfl,h35⟩;refine zM<|yG [(39,vI y11)] ?_;have hle:=iS imm1;refine xV [vI y11] Int ?_;intro b8 hb8;have h36:RL imm1 [vI y11] ([y11]:List Int):=⟨[vI y11],_,rfl,rfl,rfl,rfl⟩;refine yL 0 rfl ?_;intro imm015 le12 hl06;have h37:=SL.of_frozen hl06 le12 h36;have hle:=hle.trans le12;exact zZ (hx:=[]) rfl hle rfl (zK rfl) ⟨_,rfl,rfl,h37⟩
           intro imm016 le13;refine zE ?_;rintro _ _ ⟨rfl,rfl⟩;refine zE ?_;rintro _ _ ⟨p18,c17,rfl,rfl,h35⟩;refine zE ?_;rintro _ _ ⟨b8,rfl,rfl,h37⟩;refine zM<|yG [(4,vP b1 0),(5,vP b2 0),(36,vS p4 y.Arrays c3),(40,vS (some ⟨b8,0,none⟩) ([y11]:List Int) 1)] ?_;have h3:=iM le13 h3;have hle:=hle.trans le13;obtain ⟨x3,hy6,hM⟩:=zC hM;refine nK 2 rfl rfl rfl h3 hy6 ?_;intro ad ccs1 hat1 hcc hrep;obtain ⟨v08,rfl,h38⟩:=wC hrep;obtain ⟨p19,c18,rfl⟩:=h38.form;refine yK 8 [] [(42,.pointer (some (ad.add 1)))] ?_;obtain ⟨l1,hy7,hM⟩:=zC hM;refine qX (c:=[vT x3.Name.l,vS (some ⟨b8,0,none⟩) ([y11]:List Int) 1]) (x':=(zJ.mk x3.Name ([y11]:List Int))) 2 1 rfl rfl rfl hat1 rfl rfl hcc (by kernel_rfl) (by kernel_rfl) (by kernel_rfl) h3 hy6 (by kernel_rfl) (pG ⟨_,rfl,h37⟩) ?_;rw [show y.Arrays.set (0:Int).toNat (zJ.mk x3.Name ([y11]:List Int))=l1 from zD hy7];intro cs8 h39 hl07;exact kO (m':=[(4,vP b1 0),(5,vP b2 0),(40,vS (some ⟨b8,0,none⟩) ([y11]:List Int) 1)]) ⟨rfl,rfl,rfl,trivial⟩<|zC0 (hs':=[hB r01 (cRd y12 p18 c17),hB b2 [vS p4 l1 c3,vS p5 y.Parts c4],hO zJ (vS p4 l1 c3) cs8,hO zQ (vS p5 y.Parts c4) cs1,hB b1 zTwo]) (m':=[(4,vP b1 0),(5,vP b2 0),(40,vS (some ⟨b8,0,none⟩) ([y11]:List Int) 1)]) (by first | rfl | simp only [vS,hl07,List.nil_append,List.cons_append,List.set_cons_zero,List.set_cons_succ,List.eraseIdx_cons_zero,List.eraseIdx_cons_succ]) (by first | rfl | simp only [vS,hl07])<|yN rfl<|yS [(4,vP b1 0),(5,vP b2 0)]<|yB ⟨_,_,_,_,_,_,_,(zD hM).symm,hle,h39,h35,rfl,rfl⟩
         intro hc2 hM;exact yE<|yS [(4,vP b1 0),(5,vP b2 0)]<|yB ⟨_,_,_,_,_,_,_,(zD hM).symm,hle,h3,h7,rfl,rfl⟩
       rintro imm012 hs2 m2 ⟨Arrays2,x2,p16,c15,cs7,p17,c16,heq,le14,h29,h30,rfl,rfl⟩;subst o02;have h4:=iM le14 h4;have hle:=hle.trans le14;exact yS [(4,vP b1 0),(5,vP b2 0)]<|yB ⟨_,_,_,_,_,_,_,_,_,_,_,(zD hMc2).symm,hle,h29,h4,h30,rfl,rfl⟩
     intro hc1 hM;refine zG<|zB<|yA [] [(43,.bool (y2 == 2))]<|zF ?_;obtain ⟨o03,ho03,hMc3⟩:=zC hM;refine yT (fun imm' hs' m'=>∃ (Parts2:List zQ) (x4:zO) (p20:Option Addr) (c19:Nat) (cs9:List Value) (p21:Option Addr) (c20:Nat),o03=(Parts2,x4)∧imm02.le imm'∧(RL imm' cs9 Parts2)∧(S4 imm' p21 x4.b c20)∧hs'=[hB r01 (cRd x4 p21 c20),hB b2 [vS p4 y.Arrays c3,vS p20 Parts2 c19],hO zJ (vS p4 y.Arrays c3) cs,hO zQ (vS p20 Parts2 c19) cs9,hB b1 zTwo]∧m'=[(4,vP b1 0),(5,vP b2 0)]) ?_ ?_
     · have hle:=iS imm02;refine yO ho03 ?_ ?_
       · intro hc3 hM;refine zG<|zB<|yA [] [(46,.bool (decide ((y.Parts.length:Int) > 0)))]<|zF ?_;obtain ⟨o04,ho04,hMc4⟩:=zC hM;refine yT (fun imm' hs' m'=>∃ (Parts3:List zQ) (x5:zO) (p22:Option Addr) (c21:Nat) (cs10:List Value) (p23:Option Addr) (c22:Nat),o04=(Parts3,x5)∧imm02.le imm'∧(RL imm' cs10 Parts3)∧(S4 imm' p23 x5.b c22)∧hs'=[hB r01 (cRd x5 p23 c22),hB b2 [vS p4 y.Arrays c3,vS p22 Parts3 c21],hO zJ (vS p4 y.Arrays c3) cs,hO zQ (vS p22 Parts3 c21) cs10,hB b1 zTwo]∧m'=[(4,vP b1 0),(5,vP b2 0)]) ?_ ?_
         · have hle:=iS imm02;refine yO ho04 ?_ ?_
           · intro hc4 hM;obtain ⟨x6,hy8,hM⟩:=zC hM;obtain ⟨⟨y14,y15⟩,hy9,hM⟩:=zC hM;obtain ⟨⟨y17,y18⟩,hy10,hM⟩:=zC hM;obtain ⟨⟨y20,y21⟩,hy11,hM⟩:=zC hM;refine vC [.p (vP b2 1) [],.p (vS p5 y.Parts c4) [0],.p (vP r01 0) [],.p (vP r01 0) [],.p (vP r01 0) [],.p (vP b2 1) [],.p (vS p5 y.Parts c4) [0],.x (fun imm' v hx=>∃ ad1 p24 c23 p25 c24,v=.pointer (some ad1)∧hx=[]∧(AtO (vS p5 y.Parts c4) (Rp.sz zQ) (0:Int).toNat ad1)∧((cs1.drop ((0:Int).toNat * Rp.sz zQ)).take (Rp.sz zQ)=(cPart x6 p24 c23 p25 c24))∧(S4 imm' p24 x6.Nest c23)∧(S4 imm' p25 x6.Body c24)),.x (fun imm' v hx=>∃ ad11 p241 c231 p251 c241,v=.pointer (some ad11)∧hx=[]∧(AtO (vS p5 y.Parts c4) (Rp.sz zQ) (0:Int).toNat ad11)∧((cs1.drop ((0:Int).toNat * Rp.sz zQ)).take (Rp.sz zQ)=(cPart x6 p241 c231 p251 c241))∧(S4 imm' p241 x6.Nest c231)∧(S4 imm' p251 x6.Body c241)),.x (fun imm' v hx=>∃ p2411 c2311,v=vS p2411 x6.Nest c2311∧hx=[]∧(S4 imm' p2411 x6.Nest c2311)),.x (fun imm' v hx=>∃ p26 c25 p27 c26,v=vS p26 y14 c25∧hx=[hB r01 (cRd y15 p27 c26)]∧(S4 imm' p26 y14 c25)∧(S4 imm' p27 y15.b c26)),.x (fun imm' v hx=>∃ p28 c27 p29 c28,v=vS p28 y17 c27∧hx=[hB r01 (cRd y18 p29 c28)]∧(S4 imm' p28 y17 c27)∧(S4 imm' p29 y18.b c28)),.x (fun imm' v hx=>∃ p30 c29 p31 c30,v=vS p30 y20 c29∧hx=[hB r01 (cRd y21 p31 c30)]∧(S4 imm' p30 y20 c29)∧(S4 imm' p31 y21.b c30))] [[],[(0,false)],[],[],[],[],[(5,false)],[(6,false)],[(7,false)],[(8,false)],[(4,false),(9,false),(16,true)],[(3,false),(10,true)],[(2,false),(11,true)]] [hB b2 (cProg y p4 c3 p5 c4),hO zJ (vS p4 y.Arrays c3) cs,hO zQ (vS p5 y.Parts c4) cs1,hB b1 zTwo] [[hB r01 (cRd y3 p6 c5)]] [(1,false),(12,true)] (zL [1,2,3,4,0] rfl (by decide)) ?_ ?_
             · refine Op<|Op<|Op<|Op<|Op<|Op<|Op<|Ox ?_<|Ox ?_<|Ox ?_<|Ox ?_<|Ox ?_<|Ox ?_<|On
               · intro imm1 hf le1;refine zE ?_;rintro _ _ ⟨rfl,rfl⟩;refine zM<|yG [(53,vS p5 y.Parts c4)] ?_;have hle:=iS imm1;have h4:=iM le1 h4;refine nK 2 rfl rfl rfl h4 hy8 ?_;intro ad1 ccs2 hat2 hcc1 hrep1;obtain ⟨v09,v010,rfl,h44,h45⟩:=xT hrep1;obtain ⟨p24,c23,rfl⟩:=h44.form;obtain ⟨p25,c24,rfl⟩:=h45.form;exact zZ (hx:=[]) rfl hle rfl (zK rfl) ⟨_,_,_,_,_,rfl,rfl,hat2,hcc1,h44,h45⟩
               · intro imm1 hf le1;refine zE ?_;rintro _ _ ⟨ad1,p24,c23,p25,c24,rfl,rfl,hat2,hcc1,h44,h45⟩;refine zM<|yG [(54,.pointer (some ad1))] ?_;have hle:=iS imm1;exact rW 9 [(55,.pointer (some ad1))]<|zZ (hx:=[]) rfl hle rfl (zK rfl) ⟨_,_,_,_,_,rfl,rfl,hat2,hcc1,h44,h45⟩
               · intro imm1 hf le1;refine zE ?_;rintro _ _ ⟨ad11,p241,c231,p251,c241,rfl,rfl,hat21,hcc11,h441,h451⟩;refine zM<|yG [(55,.pointer (some ad11))] ?_;have hle:=iS imm1;exact zDH 2 0 hat21 hcc11 [vS p241 x6.Nest c231] (vS p241 x6.Nest c231) rfl rfl<|zZ (hx:=[]) rfl hle rfl (zK rfl) ⟨_,_,rfl,rfl,h441⟩
               · intro imm1 hf le1;refine zE ?_;rintro _ _ ⟨rfl,rfl⟩;refine zE ?_;rintro _ _ ⟨p2411,c2311,rfl,rfl,h4411⟩;refine zE ?_;rintro _ _ rfl;refine zM<|yG [(51,vP r01 0),(56,vS p2411 x6.Nest c2311)] ?_;have hle:=iS imm1;have h7:=h7.mono le1;refine tV [hB r01 (cRd y3 p6 c5)] (hB b2 (cProg y p4 c3 p5 c4)::hO zJ (vS p4 y.Arrays c3) cs::hO zQ (vS p5 y.Parts c4) cs1::hB b1 zTwo::hf) (kE y3 x6.Nest _ hy9 h7 h4411) ?_;rintro imm019 hs2 v2 k2 le15 - ⟨v011,kk4,rfl,rfl,h46,h47⟩ -;have hle:=hle.trans le15;obtain ⟨p26,c25,rfl⟩:=h46.form;obtain ⟨v012,rfl,h48⟩:=yJ h47;obtain ⟨p27,c26,rfl⟩:=h48.form;exact zZ (hx:=[hB r01 (cRd y15 p27 c26)]) rfl hle rfl (zK rfl) ⟨_,_,_,_,rfl,rfl,h46,h48⟩
               · intro imm1 hf le1;refine zE ?_;rintro _ _ ⟨rfl,rfl⟩;refine zE ?_;rintro _ _ ⟨p26,c25,p27,c26,rfl,rfl,h46,h48⟩;refine zM<|yG [(50,vP r01 0),(57,vS p26 y14 c25)] ?_;have hle:=iS imm1;refine tV [hB r01 (cRd y15 p27 c26)] (hB b2 (cProg y p4 c3 p5 c4)::hO zJ (vS p4 y.Arrays c3) cs::hO zQ (vS p5 y.Parts c4) cs1::hB b1 zTwo::hf) (kE y15 y14 _ hy10 h48 h46) ?_;rintro imm020 hs2 v2 k2 le16 - ⟨v013,kk5,rfl,rfl,h49,h50⟩ -;have hle:=hle.trans le16;obtain ⟨p28,c27,rfl⟩:=h49.form;obtain ⟨v014,rfl,h51⟩:=yJ h50;obtain ⟨p29,c28,rfl⟩:=h51.form;exact zZ (hx:=[hB r01 (cRd y18 p29 c28)]) rfl hle rfl (zK rfl) ⟨_,_,_,_,rfl,rfl,h49,h51⟩
               intro imm1 hf le1;refine zE ?_;rintro _ _ ⟨rfl,rfl⟩;refine zE ?_;rintro _ _ ⟨p28,c27,p29,c28,rfl,rfl,h49,h51⟩;refine zM<|yG [(49,vP r01 0),(58,vS p28 y17 c27)] ?_;have hle:=iS imm1;refine tV [hB r01 (cRd y18 p29 c28)] (hB b2 (cProg y p4 c3 p5 c4)::hO zJ (vS p4 y.Arrays c3) cs::hO zQ (vS p5 y.Parts c4) cs1::hB b1 zTwo::hf) (kE y18 y17 _ hy11 h51 h49) ?_;rintro imm021 hs2 v2 k2 le17 - ⟨v015,kk6,rfl,rfl,h52,h53⟩ -;have hle:=hle.trans le17;obtain ⟨p30,c29,rfl⟩:=h52.form;obtain ⟨v016,rfl,h54⟩:=yJ h53;obtain ⟨p31,c30,rfl⟩:=h54.form;exact zZ (hx:=[hB r01 (cRd y21 p31 c30)]) rfl hle rfl (zK rfl) ⟨_,_,_,_,rfl,rfl,h52,h54⟩
             intro imm022 le18;refine zE ?_;rintro _ _ ⟨rfl,rfl⟩;refine zE ?_;rintro _ _ ⟨p30,c29,p31,c30,rfl,rfl,h52,h54⟩;refine zM<|yG [(4,vP b1 0),(5,vP b2 0),(48,vS p5 y.Parts c4),(59,vS p30 y20 c29)] ?_;have h4:=iM le18 h4;have hle:=hle.trans le18;obtain ⟨x7,hy12,hM⟩:=zC hM;refine nK 3 rfl rfl rfl h4 hy12 ?_;intro ad2 ccs3 hat3 hcc2 hrep2;obtain ⟨v017,v018,rfl,h55,h56⟩:=xT hrep2;obtain ⟨p32,c31,rfl⟩:=h55.form;obtain ⟨p33,c32,rfl⟩:=h56.form;refine yK 15 [] [(61,.pointer (some ad2))] ?_;obtain ⟨l2,hy13,hM⟩:=zC hM;refine qX (c:=[vS p30 y20 c29,vS p33 x7.Body c32]) (x':=(zQ.mk y20 x7.Body)) 3 0 rfl rfl rfl hat3 rfl rfl hcc2 (by kernel_rfl) (by kernel_rfl) (by kernel_rfl) h4 hy12 (by kernel_rfl) (sK ⟨_,_,rfl,h52,h56⟩) ?_;rw [show y.Parts.set (0:Int).toNat (zQ.mk y20 x7.Body)=l2 from zD hy13];intro cs11 h57 hl08;exact kO (m':=[(4,vP b1 0),(5,vP b2 0),(59,vS p30 y20 c29)]) ⟨rfl,rfl,rfl,trivial⟩<|zC0 (hs':=[hB r01 (cRd y21 p31 c30),hB b2 [vS p4 y.Arrays c3,vS p5 l2 c4],hO zJ (vS p4 y.Arrays c3) cs,hO zQ (vS p5 l2 c4) cs11,hB b1 zTwo]) (m':=[(4,vP b1 0),(5,vP b2 0),(59,vS p30 y20 c29)]) (by first | rfl | simp only [vS,hl08,List.nil_append,List.cons_append,List.set_cons_zero,List.set_cons_succ,List.eraseIdx_cons_zero,List.eraseIdx_cons_succ]) (by first | rfl | simp only [vS,hl08])<|yN rfl<|yS [(4,vP b1 0),(5,vP b2 0)]<|yB ⟨_,_,_,_,_,_,_,(zD hM).symm,hle,h57,h54,rfl,rfl⟩
           intro hc4 hM;exact yE<|yS [(4,vP b1 0),(5,vP b2 0)]<|yB ⟨_,_,_,_,_,_,_,(zD hM).symm,hle,h4,h7,rfl,rfl⟩
         rintro imm018 hs2 m2 ⟨Parts3,x5,p22,c21,cs10,p23,c22,heq1,le19,h42,h43,rfl,rfl⟩;subst o04;have hle:=hle.trans le19;exact yS [(4,vP b1 0),(5,vP b2 0)]<|yB ⟨_,_,_,_,_,_,_,(zD hMc4).symm,hle,h42,h43,rfl,rfl⟩
       intro hc3 hM;refine zG<|zB<|yA [] [(62,.bool (y2 == 3))]<|zF ?_;obtain ⟨o05,ho05,hMc5⟩:=zC hM;refine yT (fun imm' hs' m'=>∃ (Parts4:List zQ) (x8:zO) (p34:Option Addr) (c33:Nat) (cs12:List Value) (p35:Option Addr) (c34:Nat),o05=(Parts4,x8)∧imm02.le imm'∧(RL imm' cs12 Parts4)∧(S4 imm' p35 x8.b c34)∧hs'=[hB r01 (cRd x8 p35 c34),hB b2 [vS p4 y.Arrays c3,vS p34 Parts4 c33],hO zJ (vS p4 y.Arrays c3) cs,hO zQ (vS p34 Parts4 c33) cs12,hB b1 zTwo]∧m'=[(4,vP b1 0),(5,vP b2 0)]) ?_ ?_
       · have hle:=iS imm02;refine yO ho05 ?_ ?_
         · intro hc5 hM;refine zG ?_;obtain ⟨o06,ho06,hMc6⟩:=zC hM;refine yT (fun imm' hs' m'=>∃ (t76:Bool),o06=t76∧imm02.le imm'∧hs'=[hB r01 (cRd y3 p6 c5),hB b2 (cProg y p4 c3 p5 c4),hO zJ (vS p4 y.Arrays c3) cs,hO zQ (vS p5 y.Parts c4) cs1,hB b1 zTwo]∧m'=[(0,vP r01 0),(4,vP b1 0),(5,vP b2 0),(6,vI (y.Parts.length:Int)),(76,.bool t76)]) ?_ ?_
           · have hle:=iS imm02;refine zB<|yK 3 [] [(66,.bool (decide ((y.Parts.length:Int) > 0)))] ?_;cases hc6:(decide ((y.Parts.length:Int) > 0)) with
             | true =>
              have hM0:=zV hc6 ho06
              try rw [hc6]
              refine yK 7 [1] [(68,vS p5 y.Parts c4),(70,vI (W ((y.Parts.length:Int) - 1)))] ?_;obtain ⟨x9,hy14,hM⟩:=zC hM0;refine nK 3 rfl rfl rfl h4 hy14 ?_;intro ad3 ccs4 hat4 hcc3 hrep3;obtain ⟨v019,v020,rfl,h60,h61⟩:=xT hrep3;obtain ⟨p36,c35,rfl⟩:=h60.form;obtain ⟨p37,c36,rfl⟩:=h61.form;exact yK 9 [] [(72,.pointer (some (ad3.add 1)))]<|zDH 3 1 hat4 hcc3 [vS p37 x9.Body c36] (vS p37 x9.Body c36) rfl rfl<|yA [] [(76,.bool (decide ((x9.Body.length:Int) > 0)))]<|yS [(0,vP r01 0),(4,vP b1 0),(5,vP b2 0),(6,vI (y.Parts.length:Int)),(76,.bool (decide ((x9.Body.length:Int) > 0)))]<|yB ⟨_,(zD hM).symm,hle,rfl,rfl⟩
             | false =>
              have hM01:=zT hc6 ho06
              try rw [hc6]
              exact yA [] [(76,.bool false)]<|yS [(0,vP r01 0),(4,vP b1 0),(5,vP b2 0),(6,vI (y.Parts.length:Int)),(76,.bool false)]<|yB ⟨_,(zD hM01).symm,hle,rfl,rfl⟩
           rintro imm024 hs2 m2 ⟨t76,heq2,le20,rfl,rfl⟩;subst o06;have h7:=h7.mono le20;have h4:=iM le20 h4;have hle:=hle.trans le20;refine zF ?_;obtain ⟨o07,ho07,hMc7⟩:=zC hMc6;refine yT (fun imm' hs' m'=>∃ (Parts5:List zQ) (x10:zO) (p38:Option Addr) (c37:Nat) (cs13:List Value) (p39:Option Addr) (c38:Nat),o07=(Parts5,x10)∧imm024.le imm'∧(RL imm' cs13 Parts5)∧(S4 imm' p39 x10.b c38)∧hs'=[hB r01 (cRd x10 p39 c38),hB b2 [vS p4 y.Arrays c3,vS p38 Parts5 c37],hO zJ (vS p4 y.Arrays c3) cs,hO zQ (vS p38 Parts5 c37) cs13,hB b1 zTwo]∧m'=[(4,vP b1 0),(5,vP b2 0)]) ?_ ?_
           · have hle:=iS imm024;refine yO ho07 ?_ ?_
             · intro hc7 hM;obtain ⟨x11,hy15,hM⟩:=zC hM;obtain ⟨x12,hy16,hM⟩:=zC hM;obtain ⟨⟨y22,y23⟩,hy17,hM⟩:=zC hM;obtain ⟨⟨y24,y25⟩,hy18,hM⟩:=zC hM;obtain ⟨⟨y26,y27⟩,hy19,hM⟩:=zC hM;obtain ⟨l3,hy20,hM⟩:=zC hM;have hF:False:=hne _ _ _ _ _ (by assumption) (by assumption) (by assumption) hy15 hy16;obtain ⟨p40,c39,cs14,p41,c40,h64,h65⟩:∃ p40 c39 cs14 p41 c40,(RL imm024 cs14 l3)∧(S4 imm024 p41 y27.b c40):=hF.elim;exact zHg hF (imm':=imm024) (hs':=[hB r01 (cRd y27 p41 c40),hB b2 [vS p4 y.Arrays c3,vS p40 l3 c39],hO zJ (vS p4 y.Arrays c3) cs,hO zQ (vS p40 l3 c39) cs14,hB b1 zTwo]) (m':=[(0,vP r01 0),(4,vP b1 0),(5,vP b2 0),(6,vI (y.Parts.length:Int)),(76,.bool t76)])<|yS [(4,vP b1 0),(5,vP b2 0)]<|yB ⟨_,_,_,_,_,_,_,(zD hM).symm,hle,h64,h65,rfl,rfl⟩
             intro hc7 hM;exact yE<|yS [(4,vP b1 0),(5,vP b2 0)]<|yB ⟨_,_,_,_,_,_,_,(zD hM).symm,hle,h4,h7,rfl,rfl⟩
           rintro imm025 hs2 m2 ⟨Parts5,x10,p38,c37,cs13,p39,c38,heq3,le21,h62,h63,rfl,rfl⟩;subst o07;have hle:=hle.trans le21;exact yS [(4,vP b1 0),(5,vP b2 0)]<|yB ⟨_,_,_,_,_,_,_,(zD hMc7).symm,hle,h62,h63,rfl,rfl⟩
         intro hc5 hM;refine zG<|zB<|yA [] [(100,.bool (y2 == 4))]<|zF ?_;obtain ⟨o08,ho08,hMc8⟩:=zC hM;refine yT (fun imm' hs' m'=>∃ (Parts6:List zQ) (p42:Option Addr) (c41:Nat) (cs15:List Value),o08=Parts6∧imm02.le imm'∧(RL imm' cs15 Parts6)∧hs'=[hB r01 (cRd y3 p6 c5),hB b2 [vS p4 y.Arrays c3,vS p42 Parts6 c41],hO zJ (vS p4 y.Arrays c3) cs,hO zQ (vS p42 Parts6 c41) cs15,hB b1 zTwo]∧m'=[(4,vP b1 0),(5,vP b2 0)]) ?_ ?_
         · have hle:=iS imm02;refine yO ho08 ?_ ?_
           · intro hc8 hM;refine zG<|zB<|yA [] [(103,.bool (decide ((y.Parts.length:Int) > 0)))]<|zF ?_;obtain ⟨o09,ho09,hMc9⟩:=zC hM;refine yT (fun imm' hs' m'=>∃ (Parts7:List zQ) (p43:Option Addr) (c42:Nat) (cs16:List Value),o09=Parts7∧imm02.le imm'∧(RL imm' cs16 Parts7)∧hs'=[hB r01 (cRd y3 p6 c5),hB b2 [vS p4 y.Arrays c3,vS p43 Parts7 c42],hO zJ (vS p4 y.Arrays c3) cs,hO zQ (vS p43 Parts7 c42) cs16,hB b1 zTwo]∧m'=[(4,vP b1 0),(5,vP b2 0)]) ?_ ?_
             · have hle:=iS imm02;refine yO ho09 ?_ ?_
               · intro hc9 hM;refine zB<|yK 4 [1] [(105,vS p5 y.Parts c4),(107,vI (W ((y.Parts.length:Int) - 1)))] ?_;obtain ⟨x13,hy21,hM⟩:=zC hM;refine nK 3 rfl rfl rfl h4 hy21 ?_;intro ad4 ccs5 hat5 hcc4 hrep4;obtain ⟨v021,v022,rfl,h68,h69⟩:=xT hrep4;obtain ⟨p44,c43,rfl⟩:=h68.form;obtain ⟨p45,c44,rfl⟩:=h69.form;refine yK 6 [] [(109,.pointer (some (ad4.add 1)))] ?_;obtain ⟨l4,hy22,hM⟩:=zC hM;refine qX (c:=[vS p44 x13.Nest c43,z0]) (x':=(zQ.mk x13.Nest ([]:List zR))) 3 1 rfl rfl rfl hat5 rfl rfl hcc4 (by kernel_rfl) (by kernel_rfl) (by kernel_rfl) h4 hy21 (by kernel_rfl) (sK ⟨_,_,rfl,h68,(SL.nil _)⟩) ?_;rw [show y.Parts.set (W ((y.Parts.length:Int) - 1)).toNat (zQ.mk x13.Nest ([]:List zR))=l4 from zD hy22];intro cs17 h70 hl09;exact kO (m':=[(4,vP b1 0),(5,vP b2 0)]) ⟨rfl,rfl,trivial⟩<|zC0 (hs':=[hB r01 (cRd y3 p6 c5),hB b2 [vS p4 y.Arrays c3,vS p5 l4 c4],hO zJ (vS p4 y.Arrays c3) cs,hO zQ (vS p5 l4 c4) cs17,hB b1 zTwo]) (m':=[(4,vP b1 0),(5,vP b2 0)]) (by first | rfl | simp only [vS,hl09,List.nil_append,List.cons_append,List.set_cons_zero,List.set_cons_succ,List.eraseIdx_cons_zero,List.eraseIdx_cons_succ]) (by first | rfl | simp only [vS,hl09])<|yN rfl<|yS [(4,vP b1 0),(5,vP b2 0)]<|yB ⟨_,_,_,_,(zD hM).symm,hle,h70,rfl,rfl⟩
               intro hc9 hM;exact yE<|yS [(4,vP b1 0),(5,vP b2 0)]<|yB ⟨_,_,_,_,(zD hM).symm,hle,h4,rfl,rfl⟩
             rintro imm027 hs2 m2 ⟨Parts7,p43,c42,cs16,heq4,le22,h67,rfl,rfl⟩;subst o09;have hle:=hle.trans le22;exact yS [(4,vP b1 0),(5,vP b2 0)]<|yB ⟨_,_,_,_,(zD hMc9).symm,hle,h67,rfl,rfl⟩
           intro hc8 hM;exact yE<|yS [(4,vP b1 0),(5,vP b2 0)]<|yB ⟨_,_,_,_,(zD hM).symm,hle,h4,rfl,rfl⟩
         rintro imm026 hs2 m2 ⟨Parts6,p42,c41,cs15,heq5,le23,h66,rfl,rfl⟩;subst o08;have h7:=h7.mono le23;have hle:=hle.trans le23;exact yS [(4,vP b1 0),(5,vP b2 0)]<|yB ⟨_,_,_,_,_,_,_,(zD hMc8).symm,hle,h66,h7,rfl,rfl⟩
       rintro imm023 hs2 m2 ⟨Parts4,x8,p34,c33,cs12,p35,c34,heq6,le24,h58,h59,rfl,rfl⟩;subst o05;have hle:=hle.trans le24;exact yS [(4,vP b1 0),(5,vP b2 0)]<|yB ⟨_,_,_,_,_,_,_,(zD hMc5).symm,hle,h58,h59,rfl,rfl⟩
     rintro imm017 hs2 m2 ⟨Parts2,x4,p20,c19,cs9,p21,c20,heq7,le25,h40,h41,rfl,rfl⟩;subst o03;have h3:=iM le25 h3;have hle:=hle.trans le25;exact yS [(4,vP b1 0),(5,vP b2 0)]<|yB ⟨_,_,_,_,_,_,_,_,_,_,_,(zD hMc3).symm,hle,h3,h40,h41,rfl,rfl⟩
   rintro imm011 hs2 m2 ⟨Arrays1,Parts1,x1,p13,c12,cs5,p14,c13,cs6,p15,c14,heq8,le26,h26,h27,h28,rfl,rfl⟩;subst o01;have hle:=hle.trans le26;exact yS [(4,vP b1 0),(5,vP b2 0)]<|yB ⟨_,_,_,_,_,_,_,_,_,_,_,(zD hMc1).symm,hle,h26,h27,h28,rfl,rfl⟩
 rintro imm03 hs2 m2 ⟨Arrays,Parts,x,p7,c6,cs2,p8,c7,cs3,p9,c8,heq9,le27,h8,h9,h10,rfl,rfl⟩;subst o0;refine zY<|zF<|zG<|zB<|yK 1 [1] [(110,vA [vS p7 Arrays c6,vS p8 Parts c7])]<|xI 4 [vS p7 Arrays c6,vS p8 Parts c7] [hB r01 (cRd x p9 c8),hB b2 [vS p7 Arrays c6,vS p8 Parts c7],hO zJ (vS p7 Arrays c6) cs2,hO zQ (vS p8 Parts c7) cs3,hB b1 [vS p7 Arrays c6,vS p8 Parts c7]] rfl rfl rfl rfl<|yN rfl<|zF<|yI<|xJ 2 rfl ?_;intro imm028 le28 hl010;have h71:=SL.of_frozen hl010 le28 h8;have h10:=h10.mono le28;have h9:=iM le28 h9;refine xJ 2 rfl ?_;intro imm029 le29 hl011;have h72:=SL.of_frozen hl011 le29 h9;have h10:=h10.mono le29;have h71:=h71.mono le29;obtain rfl:=zD hMc;exact yP ⟨_,_,(.cell 2 rfl rfl (by kernel_rfl) ResV.nil),(zL [0] rfl (by decide)),⟨_,_,rfl,rfl,⟨_,rfl,(pO ⟨_,_,rfl,h71,h72⟩)⟩,(yU ⟨_,rfl,h10⟩)⟩⟩
theorem zBE (p:zW):∀ (i1:Int) (Parts:List zQ) (o:List zQ),vK p i1 Parts=some o→∀ {B}{imm0 imm:Imm}{Q}{Arrays1:List zJ}{p1 c p2 c1}{b:Nat}{b1:Nat}{b2:Nat}{p4 c3 cs1 p9 c8 cs4}{raws:List Raw2}{pN pB:Option Addr}{cN cB:Nat}{nl:List zI}{bl:List zR}{csB:List Value},imm0.le imm→(RL imm cs1 Arrays1)→(S4 imm p1 p.Arrays c)→(S4 imm p2 p.Parts c1)→(RL imm cs4 raws)→LP imm raws Parts (vS pN nl cN) nl (vS pB bl cB) bl→SL imm (vS pN nl cN) nl→RL imm csB bl→(∀ l a w,¬Q (.goto l) a w)→(∀ a w,¬Q .outgrown a w)→(∀ (imm':Imm) (p10:Option Addr) (c9:Nat) (cs5:List Value) (raws1:List Raw2) (pN pB:Option Addr) (cN cB:Nat) (nl:List zI) (bl:List zR) (csB:List Value),imm0.le imm'→(RL imm' cs5 raws1)→LP imm' raws1 o (vS pN nl cN) nl (vS pB bl cB) bl→SL imm' (vS pN nl cN) nl→RL imm' csB bl→T 84 B Q (.exit 2) imm' [hO zR (vS pB bl cB) csB,hO Raw2 (vS p10 raws1 c9) cs5,hO zJ (vS p4 Arrays1 c3) cs1,hB b2 [vS p4 Arrays1 c3,vS p10 raws1 c9],hB b1 zTwo] [(2,vP b1 0),(3,vP b2 0)])→J Tryz.prog 84 B (nav (bodyOf Tryz.f123) [1,1,1,0,1,0]) Q imm [hO zR (vS pB bl cB) csB,hO Raw2 (vS p9 raws c8) cs4,hO zJ (vS p4 Arrays1 c3) cs1,hB b2 [vS p4 Arrays1 c3,vS p9 raws c8],hB b1 zTwo,hB b (cProg p p1 c p2 c1)] [(1,vP b 0),(2,vP b1 0),(3,vP b2 0),(5,vI i1)]:=by
 refine vK.partial_correctness p _ ?_;intro self ih i1 Parts o hM B imm0 imm Q Arrays1 p1 c p2 c1 b b1 b2 p4 c3 cs1 p9 c8 cs4 raws pN pB cN cB nl bl csB hle h4 h h1 hRw hLP hN hBd hg ho hx;refine xA hg ho<|zG<|zG<|zB<|yA [5] [(40,.bool (decide (i1 < (p.Parts.length:Int))))]<|zF<|yO hM ?_ ?_
 · intro hc1 hM;refine qW 0 rfl ?_;intro immf lef hlf;have kB:=SL.of_frozen hlf lef hBd;have h4:=iM lef h4;have h:=h.mono lef;have h1:=h1.mono lef;have hN:=hN.mono lef;have hRw:=iM lef hRw;have hLP:=hLP.mono lef;have hle:=hle.trans lef;have h14:=hLP.done hN kB;rw [← nT hRw] at h14;have eP:vS p9 raws c8=vS p9 Parts c8:=by simp only [vS,hLP.2.1]
   rw [eP];clear hBd hlf;refine yE<|zF<|zG<|yC<|zG<|zB<|yK 3 [4] [(44,vS p2 p.Parts c1),(45,vI i1)] ?_;obtain ⟨x2,hy4,hM⟩:=zC hM;refine wD rfl rfl h1 hy4 ?_;intro ad3 ccs4 hat3 hrep2;obtain ⟨v02,v03,rfl,h16,h17⟩:=xT hrep2;obtain ⟨p11,c10,rfl⟩:=h16.form;obtain ⟨p12,c11,rfl⟩:=h17.form;refine yK 5 [] [(47,.pointer (some ad3))]<|xQ 0 hat3 [vS p11 x2.Nest c10] (vS p11 x2.Nest c10) rfl ?_;obtain ⟨y,hy5,hM⟩:=zC hM;refine yQ (zAB x2.Nest _ hy5 h16) ?_;rintro imm04 hs2 v2 k2 le4 - ⟨v04,rfl,rfl,h18⟩ -;have h14:=iM le4 h14;have hRw:=iM le4 hRw;have hLP:=hLP.mono le4;have hN:=hN.mono le4;replace kB:=kB.mono le4;have h4:=iM le4 h4;have h:=h.mono le4;have h1:=h1.mono le4;have hle:=hle.trans le4;obtain ⟨p13,c12,rfl⟩:=h18.form;refine yK 8 [] [(50,vA [vS p13 y c12,z0])]<|uB zTwo ?_;intro b5 hb5;refine xI 0 [vS p13 y c12,z0] [hB b5 [vS p13 y c12,z0],hO zQ (vS p9 Parts c8) cs4,hO zJ (vS p4 Arrays1 c3) cs1,hB b2 [vS p4 Arrays1 c3,vS p9 Parts c8],hB b1 zTwo,hB b (cProg p p1 c p2 c1)] rfl rfl rfl rfl<|yN rfl<|zF<|zG<|zG<|zB<|yA [] [(7,vI 0)]<|zF<|yC<|vG [(1,vP b 0),(2,vP b1 0),(3,vP b2 0),(5,vI i1),(6,vP b5 0),(7,vI 0)]<|qP (uS (Rp.sz zR)) ?_;have h19:RL imm04 [] ([]:List zR):=RepL.nil;obtain ⟨o01,ho01,hMl1⟩:=zC hM;refine gO p i1 0 ([]:List zR) o01 ho01 iR h18 h14 h4 h h1 h19 (fun _ _ _ h=>hg _ _ _ h) (fun _ _ h=>ho _ _ h) ?_;intro imm010 Body1 p15 c14 cs7 heq1 le10 h21;subst o01;have h18:=h18.mono le10;have hRw:=iM le10 hRw;have hLP:=hLP.mono le10;have hN:=hN.mono le10;replace kB:=kB.mono le10;have h4:=iM le10 h4;have h:=h.mono le10;have h1:=h1.mono le10;have hle:=hle.trans le10;obtain ⟨l3,hy11,hM⟩:=zC hMl1;have hy12:=zGm (l':=raws) (m':=[(⟨vS p13 y c12,vS p15 Body1 c14⟩:Raw2)]) hy11 hLP.2.1 rfl;have h40:RL imm010 [vS p13 y c12,vS p15 Body1 c14] [(⟨vS p13 y c12,vS p15 Body1 c14⟩:Raw2)]:=⟨[vS p13 y c12,vS p15 Body1 c14],[],rfl,rfl,⟨rfl,rfl,rfl⟩,rfl⟩;refine yD<|zF<|zB<|yK 3 [4,1] [(78,vS p9 Parts c8),(79,vA [vS p13 y c12,vS p15 Body1 c14])]<|xV [vS p13 y c12,vS p15 Body1 c14] Raw2 ?_;intro b7 hb7;refine qQ (α:=Raw2) 37 2 3 rfl rfl rfl hRw (.inr ⟨0,rfl⟩) h40 hy12 ?_;intro p29 c28 cs11 h41;exact rY (zL [1,3,4,5,6,7] (hs':=[hO zR (vS p15 Body1 c14) cs7,hO Raw2 (vS p29 (raws ++ [(⟨vS p13 y c12,vS p15 Body1 c14⟩:Raw2)]) c28) cs11,hO zJ (vS p4 Arrays1 c3) cs1,hB b2 [vS p4 Arrays1 c3,vS p9 Parts c8],hB b1 zTwo,hB b (cProg p p1 c p2 c1)]) rfl (by decide))<|yK 6 [] [(82,vP b2 1)]<|xI 3 [vS p4 Arrays1 c3,vS p29 (raws ++ [(⟨vS p13 y c12,vS p15 Body1 c14⟩:Raw2)]) c28] [hO zR (vS p15 Body1 c14) cs7,hO Raw2 (vS p29 (raws ++ [(⟨vS p13 y c12,vS p15 Body1 c14⟩:Raw2)]) c28) cs11,hO zJ (vS p4 Arrays1 c3) cs1,hB b2 [vS p4 Arrays1 c3,vS p29 (raws ++ [(⟨vS p13 y c12,vS p15 Body1 c14⟩:Raw2)]) c28],hB b1 zTwo,hB b (cProg p p1 c p2 c1)] rfl rfl rfl rfl<|yN rfl<|zY<|zF<|zB<|yA [] [(5,vI (W (i1 + 1)))]<|xB<|vG [(1,vP b 0),(2,vP b1 0),(3,vP b2 0),(5,vI (W (i1 + 1)))]<|ih (W (i1 + 1)) l3 _ hM hle h4 h h1 h41 (hLP.push hN kB hy11) h18 h21 hg ho hx
 intro hc1 hM;have:=zD hM;simp only [id] at this;subst this;exact yZ<|zS<|zS<|wB (zL [0,1,2,3,4] rfl (by decide))<|yS [(2,vP b1 0),(3,vP b2 0)]<|hx _ _ _ _ _ _ _ _ _ _ _ _ hle hRw hLP hN hBd
def zBk (r:zW):KT:=fun kk imm' hs' v=>
  ∃ (a0:Option Addr) (c0:Nat) (s0:List Value) (a1:Option Addr) (c1:Nat) (s1:List Value) (raws:List Raw2) (pN pB:Option Addr) (cN cB:Nat) (nl:List zI) (bl:List zR) (csB:List Value),hs'=[hO zR (vS pB bl cB) csB,hO Raw2 (vS a1 raws c1) s1,hO zJ (vS a0 r.Arrays c0) s0]∧v=tupV [vA [vS a0 r.Arrays c0,vS a1 raws c1]]∧RL imm' s0 r.Arrays∧RL imm' s1 raws∧LP imm' raws r.Parts (vS pN nl cN) nl (vS pB bl cB) bl∧SL imm' (vS pN nl cN) nl∧RL imm' csB bl
theorem zDL:∀ (p:zW) r,sG p=some r→∀ {imm:Imm}{p1 c p2 c1},(S4 imm p1 p.Arrays c)→(S4 imm p2 p.Parts c1)→Ret Tryz.prog 123 [vA (cProg p p1 c p2 c1)] imm [] (zBk r):=by
 intro p r hM imm p1 c p2 c1 h h1;unfold sG at hM;refine yH (fn:=Tryz.f123) (c:=(bodyOf Tryz.f123)) Tryz.func123 rfl rfl ?_;rintro B - -;refine zG<|zB<|tA (cProg p p1 c p2 c1) ?_;intro b hb;refine uB zTwo ?_;intro b1 hb1;refine yN rfl<|zF<|zG<|zB<|yK 1 [] [(8,vA zTwo)]<|uB zTwo ?_;intro b2 hb2;refine xI 0 zTwo [hB b2 zTwo,hB b1 zTwo,hB b (cProg p p1 c p2 c1)] rfl rfl rfl rfl<|yN rfl<|zF<|zG<|zG<|zB<|yA [] [(4,vI 0)]<|zF<|yC<|vG [(1,vP b 0),(2,vP b1 0),(3,vP b2 0),(4,vI 0)]<|qP (uS (Rp.sz zJ)) ?_;have h2:RL imm [] ([]:List zJ):=RepL.nil;obtain ⟨o0,ho0,hMl⟩:=zC hM;refine gN p 0 ([]:List zJ) o0 ho0 iR h h1 h2 (fun _ _ _ h=>h) (fun _ _ h=>h) ?_;intro imm03 Arrays1 p4 c3 cs1 heq le3 h4;subst o0;have h:=h.mono le3;have h1:=h1.mono le3;refine yD<|zF<|zG<|zG<|zB<|yA [] [(5,vI 0)]<|zF<|yC<|vG [(1,vP b 0),(2,vP b1 0),(3,vP b2 0),(5,vI 0)]<|qP (uS (Rp.sz Raw2))<|qP (uS (Rp.sz zR)) ?_;obtain ⟨o02,ho02,hMl2⟩:=zC hMl;refine zBE p 0 ([]:List zQ) o02 ho02 (raws:=[]) (pN:=none) (pB:=none) (cN:=0) (cB:=0) (nl:=[]) (bl:=[]) iR h4 h h1 RepL.nil LP.nil (SL.nil _) RepL.nil (fun _ _ _ h=>h) (fun _ _ h=>h) ?_;intro imm012 p10 c9 cs5 raws1 pN pB cN cB nl bl csB le12 hRw hLP hN hBd;have h4:=iM le12 h4;obtain rfl:=zD hMl2;exact yD<|zF<|zG<|zB<|yK 1 [3] [(83,vA [vS p4 Arrays1 c3,vS p10 raws1 c9])]<|xI 4 [vS p4 Arrays1 c3,vS p10 raws1 c9] [hO zR (vS pB bl cB) csB,hO Raw2 (vS p10 raws1 c9) cs5,hO zJ (vS p4 Arrays1 c3) cs1,hB b2 [vS p4 Arrays1 c3,vS p10 raws1 c9],hB b1 [vS p4 Arrays1 c3,vS p10 raws1 c9]] rfl rfl rfl rfl<|yN rfl<|zF<|yI<|yP ⟨_,_,(.cell 4 rfl rfl (by kernel_rfl) ResV.nil),(zL [0,1,2] rfl (by decide)),⟨_,_,_,_,_,_,_,_,_,_,_,_,_,_,rfl,rfl,h4,hRw,hLP,hN,hBd⟩⟩
theorem zHl {raws:List Raw2}{k:Nat}{r:Raw2} (h:raws[k]?=some r):raws.set k r=raws:=by
  obtain ⟨hk,e⟩:=List.getElem?_eq_some_iff.1 h;subst e;exact List.set_getElem_self hk
theorem zBl (r0:zO) (p1:zW) (r:zW×zO) (hM:sX r0 p1=some r) {y:zW}{y3:zO}{x:zQ}{s:zR} (hy:sG p1=some y) (hy1:yW r0 60=some (3,y3)) (hx:idx y.Parts (W ((y.Parts.length:Int) - 1))=some x) (hs:idx x.Body 0=some s) :
    ∀ {imm:Imm}{r01:Nat}{p c p2 c1 p3 c2},(S4 imm p r0.b c)→(S4 imm p2 p1.Arrays c1)→(S4 imm p3 p1.Parts c2)→Ret Tryz.prog 61 [vP r01 0,vA (cProg p1 p2 c1 p3 c2)] imm [hB r01 (cRd r0 p c)] (mH r01 r):=by
 intro imm r01 p c p2 c1' p3 c2 h h1 h2
 obtain ⟨i0,i1,i2⟩:=sJ hx
 obtain ⟨j0,j1,j2⟩:=sJ hs
 have hn:(y.Parts.length:Int) > 0:=by
   have:=(List.getElem?_eq_some_iff.1 i2).1; omega
 have hb:(x.Body.length:Int) > 0:=by
   have:=(List.getElem?_eq_some_iff.1 j2).1; omega
 have e0:((3:Int) == 0)=false:=rfl
 have e1:((3:Int) == 1)=false:=rfl
 have e2:((3:Int) == 2)=false:=rfl
 have e3:((3:Int) == 3)=true:=rfl
 unfold sX at hM
 simp only [hy,hy1,e0,e1,e2,e3,hn,hb,hx,hs,decide_true,if_true,Bool.false_eq_true,if_false,Option.pure_def,Option.bind_eq_bind,Option.bind_some] at hM
 cases hm1:uY y3 s with
 | none=>rw [hm1] at hM; cases hM
 | some q1 =>
 obtain ⟨y22,y23⟩:=q1
 simp only [hm1,Option.bind_some] at hM
 cases hm2:uY y23 y22 with
 | none=>rw [hm2] at hM; cases hM
 | some q2 =>
 obtain ⟨y24,y25⟩:=q2
 simp only [hm2,Option.bind_some] at hM
 cases hm3:uY y25 y24 with
 | none=>rw [hm3] at hM; cases hM
 | some q3 =>
 obtain ⟨y26,y27⟩:=q3
 simp only [hm3,Option.bind_some,Option.some.injEq] at hM
 subst hM
 refine yH (fn:=Tryz.f61) (c:=(bodyOf Tryz.f61)) Tryz.func61 rfl rfl ?_
 rintro B - -
 refine zG<|zB<|tA [vS p2 p1.Arrays c1',vS p3 p1.Parts c2] ?_
 intro b hb
 refine uB zTwo ?_
 intro b1 hb1
 refine yN rfl<|zF<|zG<|zB<|yK 1 [1] [(7,vA [vS p2 p1.Arrays c1',vS p3 p1.Parts c2])]<|yQ (zDL p1 _ hy h1 h2) ?_
 rintro imm0 hs2 v2 k2 le - ⟨a0,c0,s0,a1,c1,s1,raws,pN,pB,cN,cB,nl,bl,csB,rfl,rfl,h3,hRw,hLP,hN,hBd⟩ -
 have h:=h.mono le
 clear h1 h2
 rw [hLP.len] at hx hn i0 i1 i2
 obtain ⟨rfl,hraw,hset⟩:=hLP.last hx
 simp only at hs hb j0 j1 j2 hm1
 have hset:=hset (vS pN nl cN) nl (vS pB bl cB) (bl.set 0 y26)
 rw [zHl (sJ hraw).2.2] at hset
 refine uB zTwo ?_
 intro b2 hb2
 refine xI 0 [vS a0 y.Arrays c0,vS a1 raws c1] [hB b2 [vS a0 y.Arrays c0,vS a1 raws c1],hO zR (vS pB bl cB) csB,hO Raw2 (vS a1 raws c1) s1,hO zJ (vS a0 y.Arrays c0) s0,hB b1 zTwo,hB b [vS p2 p1.Arrays c1',vS p3 p1.Parts c2],hB r01 (cRd r0 p c)] rfl rfl rfl rfl<|yN rfl<|zF<|zG<|zB<|yA [0] [(6,vI (raws.length:Int))]<|zF<|zG<|zG<|zB<|yK 1 [] [(12,vP r01 0)]<|rY (zL [6,1,2,0,3,4] (hs':=[hB r01 (cRd r0 p c),hO zR (vS pB bl cB) csB,hO Raw2 (vS a1 raws c1) s1,hB b2 [vS a0 y.Arrays c0,vS a1 raws c1],hO zJ (vS a0 y.Arrays c0) s0,hB b1 zTwo]) rfl (by decide))<|tV [hB r01 (cRd r0 p c)] [hO zR (vS pB bl cB) csB,hO Raw2 (vS a1 raws c1) s1,hB b2 [vS a0 y.Arrays c0,vS a1 raws c1],hO zJ (vS a0 y.Arrays c0) s0,hB b1 zTwo] (xL r0 60 _ hy1 h) ?_
 rintro imm01 hs2 v2 k2 le1 - ⟨v0,kk,rfl,rfl,rfl,h6⟩ -
 obtain ⟨v01,rfl,h7⟩:=yJ h6
 obtain ⟨p6,c5,rfl⟩:=h7.form
 clear h6 h
 have h3:=iM le1 h3
 have hRw:=iM le1 hRw
 have hN:=hN.mono le1
 have hBd:=iM le1 hBd
 have hset:=hset.mono le1
 refine yN rfl<|zF<|yC<|zG<|zB<|yA [] [(14,.bool ((3:Int) == 0))]<|zF<|jG rfl<|zG<|zB<|yA [] [(29,.bool ((3:Int) == 1))]<|zF<|jG rfl<|zG<|zB<|yA [] [(43,.bool ((3:Int) == 2))]<|zF<|jG rfl<|zG<|zB<|yA [] [(62,.bool ((3:Int) == 3))]<|zF<|dU rfl<|zG<|zB<|yK 3 [] [(66,.bool (decide ((raws.length:Int) > 0)))] ?_
 rw [decide_eq_true hn]
 refine yK 7 [3] [(68,vS a1 raws c1),(70,vI (W ((raws.length:Int) - 1)))]<|nK (α:=Raw2) 2 rfl rfl rfl hRw hraw ?_
 intro ad ccs hat hcc hrep
 obtain ⟨rfl,o1,o2⟩:=hrep
 refine yK 9 [] [(72,.pointer (some (ad.add 1)))]<|zDH 2 1 hat hcc [vS pB bl cB] (vS pB bl cB) rfl rfl<|yA [] [(76,.bool (decide ((bl.length:Int) > 0)))] ?_
 rw [decide_eq_true hb]
 refine zF<|dU rfl<|vG [(0,vP r01 0),(4,vP b1 0),(5,vP b2 0),(6,vI (raws.length:Int))]<|vC [.p (vP b2 1) [],.p (vS a1 raws c1) [2],.p (vI (raws.length:Int)) [],.p (vI (W ((raws.length:Int) - 1))) [],.x (fun imm' v hx'=>∃ ad,v=.pointer (some ad)∧hx'=[]∧AtO (vS a1 raws c1) 2 (W ((raws.length:Int) - 1)).toNat ad),.x (fun imm' v hx'=>∃ ad,v=.pointer (some (ad.add 1))∧hx'=[]∧AtO (vS a1 raws c1) 2 (W ((raws.length:Int) - 1)).toNat ad),.x (fun imm' v hx'=>v=vS pB bl cB∧hx'=[]),.p (vP r01 0) [],.p (vP r01 0) [],.p (vP r01 0) [],.p (vP b2 1) [],.p (vS a1 raws c1) [2],.p (vI (raws.length:Int)) [],.p (vI (W ((raws.length:Int) - 1))) [],.x (fun imm' v hx'=>∃ ad,v=.pointer (some ad)∧hx'=[]∧AtO (vS a1 raws c1) 2 (W ((raws.length:Int) - 1)).toNat ad),.x (fun imm' v hx'=>∃ ad,v=.pointer (some (ad.add 1))∧hx'=[]∧AtO (vS a1 raws c1) 2 (W ((raws.length:Int) - 1)).toNat ad),.x (fun imm' v hx'=>v=vS pB bl cB∧hx'=[]),.x (fun imm' v hx'=>∃ ad,v=.pointer (some ad)∧hx'=[]∧AtO (vS pB bl cB) 9 0 ad),.x (fun imm' v hx'=>∃ cs9,v=.agg ⟨cs9⟩∧hx'=[]∧Rp.rep imm' cs9 s),.x (fun imm' v hx'=>∃ (cs9 kk:List Value),v=.agg ⟨cs9⟩∧hx'=[hB r01 kk]∧Rp.rep imm' cs9 y22∧Rp.rep imm' kk y23),.x (fun imm' v hx'=>∃ (cs9 kk:List Value),v=.agg ⟨cs9⟩∧hx'=[hB r01 kk]∧Rp.rep imm' cs9 y24∧Rp.rep imm' kk y25),.x (fun imm' v hx'=>∃ (cs9 kk:List Value),v=.agg ⟨cs9⟩∧hx'=[hB r01 kk]∧Rp.rep imm' cs9 y26∧Rp.rep imm' kk y27)] [[],[(0,false)],[],[(2,false)],[(1,false),(3,false)],[(4,false)],[(5,false)],[],[],[],[],[(10,false)],[],[(12,false)],[(11,false),(13,false)],[(14,false)],[(15,false)],[(16,false)],[(17,false)],[(9,false),(18,false),(24,true)],[(8,false),(19,true)],[(7,false),(20,true)]] [hO zR (vS pB bl cB) csB,hO Raw2 (vS a1 raws c1) s1,hB b2 [vS a0 y.Arrays c0,vS a1 raws c1],hO zJ (vS a0 y.Arrays c0) s0,hB b1 zTwo] [[hB r01 (cRd y3 p6 c5)]] [(6,false),(21,true)] (zL [1,2,3,4,5,0] rfl (by decide)) ?_ ?_
 · refine Op<|Op<|Op<|Op<|Ox ?_<|Ox ?_<|Ox ?_<|Op<|Op<|Op<|Op<|Op<|Op<|Op<|Ox ?_<|Ox ?_<|Ox ?_<|Ox ?_<|Ox ?_<|Ox ?_<|Ox ?_<|Ox ?_<|On
   · intro imm1 hf le1
     refine zE ?_
     rintro _ _ ⟨rfl,rfl⟩
     refine zE ?_
     rintro _ _ ⟨rfl,rfl⟩
     refine zM<|yG [(78,vS a1 raws c1),(80,vI (W ((raws.length:Int) - 1)))]<|nK (α:=Raw2) 1 rfl rfl rfl (iM le1 hRw) hraw ?_
     intro ad ccs hat hcc hrep
     exact zZ (hx:=[]) rfl iR rfl (zK rfl) ⟨_,rfl,rfl,hat⟩
   · intro imm1 hf le1
     refine zE ?_
     rintro _ _ ⟨ad,rfl,rfl,hat⟩
     exact zM<|yG [(81,.pointer (some ad))]<|rW 6 [(82,.pointer (some (ad.add 1)))]<|zZ (hx:=[]) rfl iR rfl (zK rfl) ⟨_,rfl,rfl,hat⟩
   · intro imm1 hf le1
     refine zE ?_
     rintro _ _ ⟨ad,rfl,rfl,hat⟩
     refine zM<|yG [(82,.pointer (some (ad.add 1)))] ?_
     have hrep:=hRw.at (sJ hraw).2.2
     obtain ⟨⟨hcc,o1,o2⟩,_⟩:=hrep
     exact zDH 1 1 hat hcc [vS pB bl cB] (vS pB bl cB) rfl rfl<|zZ (hx:=[]) rfl iR rfl (zK rfl) ⟨rfl,rfl⟩
   · intro imm1 hf le1
     refine zE ?_
     rintro _ _ ⟨rfl,rfl⟩
     refine zE ?_
     rintro _ _ ⟨rfl,rfl⟩
     refine zM<|yG [(88,vS a1 raws c1),(90,vI (W ((raws.length:Int) - 1)))]<|nK (α:=Raw2) 1 rfl rfl rfl (iM le1 hRw) hraw ?_
     intro ad ccs hat hcc hrep
     exact zZ (hx:=[]) rfl iR rfl (zK rfl) ⟨_,rfl,rfl,hat⟩
   · intro imm1 hf le1
     refine zE ?_
     rintro _ _ ⟨ad,rfl,rfl,hat⟩
     exact zM<|yG [(91,.pointer (some ad))]<|rW 16 [(92,.pointer (some (ad.add 1)))]<|zZ (hx:=[]) rfl iR rfl (zK rfl) ⟨_,rfl,rfl,hat⟩
   · intro imm1 hf le1
     refine zE ?_
     rintro _ _ ⟨ad,rfl,rfl,hat⟩
     refine zM<|yG [(92,.pointer (some (ad.add 1)))] ?_
     have hrep:=hRw.at (sJ hraw).2.2
     obtain ⟨⟨hcc,o1,o2⟩,_⟩:=hrep
     exact zDH 1 1 hat hcc [vS pB bl cB] (vS pB bl cB) rfl rfl<|zZ (hx:=[]) rfl iR rfl (zK rfl) ⟨rfl,rfl⟩
   · intro imm1 hf le1
     refine zE ?_
     rintro _ _ ⟨rfl,rfl⟩
     refine zM<|yG [(93,vS pB bl cB)]<|nK (α:=zR) 0 rfl rfl rfl (iM le1 hBd) hs ?_
     intro ad ccs hat hcc hrep
     exact zZ (hx:=[]) rfl iR rfl (zK rfl) ⟨_,rfl,rfl,hat⟩
   · intro imm1 hf le1
     refine zE ?_
     rintro _ _ ⟨ad,rfl,rfl,hat⟩
     refine zM<|yG [(94,.pointer (some ad))] ?_
     obtain ⟨hrep,_⟩:=(iM le1 hBd).at j2
     generalize hcc:(csB.drop (Int.toNat 0 * Rp.sz zR)).take (Rp.sz zR)=cc at hrep
     obtain ⟨w0,w1,w2,w3,rfl,e10,e11,e12,e13⟩:=wE hrep
     obtain ⟨p10,c10,rfl⟩:=e10.form
     obtain ⟨p11,c11,rfl⟩:=e11.form
     obtain ⟨p12,c12,rfl⟩:=e12.form
     obtain ⟨p13,c13,rfl⟩:=e13.form
     exact zDH 0 0 hat hcc (cStmt s p10 c10 p11 c11 p12 c12 p13 c13) (vA (cStmt s p10 c10 p11 c11 p12 c12 p13 c13)) rfl rfl<|zZ (hx:=[]) rfl iR rfl (zK rfl) ⟨_,rfl,rfl,wN ⟨_,_,_,_,rfl,e10,e11,e12,e13⟩⟩
   · intro imm1 hf le1
     refine zE ?_
     rintro _ _ ⟨rfl,rfl⟩
     refine zE ?_
     rintro _ _ ⟨cs9,rfl,rfl,h9⟩
     refine zE ?_
     rintro _ _ rfl
     obtain ⟨w0,w1,w2,w3,rfl,e10,e11,e12,e13⟩:=wE h9
     obtain ⟨p10,c10,rfl⟩:=e10.form
     obtain ⟨p11,c11,rfl⟩:=e11.form
     obtain ⟨p12,c12,rfl⟩:=e12.form
     obtain ⟨p13,c13,rfl⟩:=e13.form
     refine zM<|yG [(86,vP r01 0),(95,vA (cStmt s p10 c10 p11 c11 p12 c12 p13 c13))]<|tV [hB r01 (cRd y3 p6 c5)] (hO zR (vS pB bl cB) csB::hO Raw2 (vS a1 raws c1) s1::hB b2 [vS a0 y.Arrays c0,vS a1 raws c1]::hO zJ (vS a0 y.Arrays c0) s0::hB b1 zTwo::hf) (kD y3 s _ hm1 (h7.mono le1) e10 e11 e12 e13) ?_
     rintro imm02 hs2 v2 k2 le2 - ⟨v0,kk2,rfl,rfl,⟨cs2,rfl,h10⟩,h11⟩ -
     exact zZ (hx:=[hB r01 kk2]) rfl le2 rfl (zK rfl) ⟨_,_,rfl,rfl,h10,h11⟩
   · intro imm1 hf le1
     refine zE ?_
     rintro _ _ ⟨rfl,rfl⟩
     refine zE ?_
     rintro _ _ ⟨cs9,kk,rfl,rfl,h9,hk⟩
     obtain ⟨w0,w1,w2,w3,rfl,e10,e11,e12,e13⟩:=wE h9
     obtain ⟨p10,c10,rfl⟩:=e10.form
     obtain ⟨p11,c11,rfl⟩:=e11.form
     obtain ⟨p12,c12,rfl⟩:=e12.form
     obtain ⟨p13,c13,rfl⟩:=e13.form
     obtain ⟨w4,rfl,hsl⟩:=yJ hk
     obtain ⟨p8,c8,rfl⟩:=hsl.form
     refine zM<|yG [(85,vP r01 0),(96,vA (cStmt y22 p10 c10 p11 c11 p12 c12 p13 c13))]<|tV [hB r01 (cRd y23 p8 c8)] (hO zR (vS pB bl cB) csB::hO Raw2 (vS a1 raws c1) s1::hB b2 [vS a0 y.Arrays c0,vS a1 raws c1]::hO zJ (vS a0 y.Arrays c0) s0::hB b1 zTwo::hf) (kD y23 y22 _ hm2 (hsl) e10 e11 e12 e13) ?_
     rintro imm02 hs2 v2 k2 le2 - ⟨v0,kk2,rfl,rfl,⟨cs2,rfl,h10⟩,h11⟩ -
     exact zZ (hx:=[hB r01 kk2]) rfl le2 rfl (zK rfl) ⟨_,_,rfl,rfl,h10,h11⟩
   intro imm1 hf le1
   refine zE ?_
   rintro _ _ ⟨rfl,rfl⟩
   refine zE ?_
   rintro _ _ ⟨cs9,kk,rfl,rfl,h9,hk⟩
   obtain ⟨w0,w1,w2,w3,rfl,e10,e11,e12,e13⟩:=wE h9
   obtain ⟨p10,c10,rfl⟩:=e10.form
   obtain ⟨p11,c11,rfl⟩:=e11.form
   obtain ⟨p12,c12,rfl⟩:=e12.form
   obtain ⟨p13,c13,rfl⟩:=e13.form
   obtain ⟨w4,rfl,hsl⟩:=yJ hk
   obtain ⟨p8,c8,rfl⟩:=hsl.form
   refine zM<|yG [(84,vP r01 0),(97,vA (cStmt y24 p10 c10 p11 c11 p12 c12 p13 c13))]<|tV [hB r01 (cRd y25 p8 c8)] (hO zR (vS pB bl cB) csB::hO Raw2 (vS a1 raws c1) s1::hB b2 [vS a0 y.Arrays c0,vS a1 raws c1]::hO zJ (vS a0 y.Arrays c0) s0::hB b1 zTwo::hf) (kD y25 y24 _ hm3 (hsl) e10 e11 e12 e13) ?_
   rintro imm02 hs2 v2 k2 le2 - ⟨v0,kk2,rfl,rfl,⟨cs2,rfl,h10⟩,h11⟩ -
   exact zZ (hx:=[hB r01 kk2]) rfl le2 rfl (zK rfl) ⟨_,_,rfl,rfl,h10,h11⟩
 intro imm5 le5
 refine zE ?_
 rintro _ _ ⟨rfl,rfl⟩
 refine zE ?_
 rintro _ _ ⟨cs9,kk,rfl,rfl,h9,hk⟩
 obtain ⟨w0,w1,w2,w3,rfl,e10,e11,e12,e13⟩:=wE h9
 obtain ⟨p10,c10,rfl⟩:=e10.form
 obtain ⟨p11,c11,rfl⟩:=e11.form
 obtain ⟨p12,c12,rfl⟩:=e12.form
 obtain ⟨p13,c13,rfl⟩:=e13.form
 have h3:=iM le5 h3
 have hRw:=iM le5 hRw
 have hN:=hN.mono le5
 have hBd:=iM le5 hBd
 have hset:=hset.mono le5
 refine zM<|yG [(4,vP b1 0),(5,vP b2 0),(83,vS pB bl cB),(98,vA (cStmt y26 p10 c10 p11 c11 p12 c12 p13 c13))]<|nK (α:=zR) 1 rfl rfl rfl hBd hs ?_
 intro ad ccs hat hcc hrep
 obtain ⟨w0,w1,w2,w3,rfl,e20,e21,e22,e23⟩:=wE hrep
 obtain ⟨p20,c20,rfl⟩:=e20.form
 obtain ⟨p21,c21,rfl⟩:=e21.form
 obtain ⟨p22,c22,rfl⟩:=e22.form
 obtain ⟨p23,c23,rfl⟩:=e23.form
 refine qX (c:=(cStmt y26 p10 c10 p11 c11 p12 c12 p13 c13)) (x':=y26) 1 0 rfl rfl rfl hat rfl rfl hcc (by kernel_rfl) (by kernel_rfl) (by kernel_rfl) hBd hs (by kernel_rfl) (wN ⟨_,_,_,_,rfl,e10,e11,e12,e13⟩) ?_
 intro cs7 h7' hlen
 refine uP (hs':=[hB r01 kk,hO zR (vS pB bl cB) cs7,hO Raw2 (vS a1 raws c1) s1,hB b2 [vS a0 y.Arrays c0,vS a1 raws c1],hO zJ (vS a0 y.Arrays c0) s0,hB b1 zTwo]) rfl<|yL 1 rfl ?_
 intro imm6 le6 hl6
 have eB:vS pB bl cB=vS pB (bl.set 0 y26) cB:=by simp [vS]
 have kB:SL imm6 (vS pB (bl.set 0 y26) cB) (bl.set 0 y26):=by
   rw [← eB]
   exact SL.of_frozen (l:=bl.set 0 y26) hl6 le6 h7'
 rw [eB] at hset
 have hdone:=(hset.mono le6).done (hN.mono le6) kB
 have eS:=nT hRw
 rw [← eS] at hdone
 have h3:=iM le6 h3
 have hk:=Rp.mono le6 hk
 have eP:vS a1 raws c1=vS a1 (y.Parts.set (W ((raws.length:Int) - 1)).toNat ⟨nl,bl.set 0 y26⟩) c1:=by simp only [vS,List.length_set,hLP.2.1]
 refine uP (hs':=[hB r01 kk,hO Raw2 (vS a1 raws c1) s1,hB b2 [vS a0 y.Arrays c0,vS a1 raws c1],hO zJ (vS a0 y.Arrays c0) s0,hB b1 zTwo]) rfl<|yN rfl<|zY<|zF<|zG<|zB<|yK 1 [2] [(110,vA [vS a0 y.Arrays c0,vS a1 raws c1])]<|xI 4 [vS a0 y.Arrays c0,vS a1 raws c1] [hB r01 kk,hO Raw2 (vS a1 raws c1) s1,hB b2 [vS a0 y.Arrays c0,vS a1 raws c1],hO zJ (vS a0 y.Arrays c0) s0,hB b1 [vS a0 y.Arrays c0,vS a1 raws c1]] rfl rfl rfl rfl<|yN rfl<|zF<|yI<|xJ 1 rfl ?_
 intro imm7 le7 hl7
 have k1:SL imm7 (vS a1 raws c1) (y.Parts.set (W ((raws.length:Int) - 1)).toNat ⟨nl,bl.set 0 y26⟩):=SL.of_frozen (l:=y.Parts.set (W ((raws.length:Int) - 1)).toNat ⟨nl,bl.set 0 y26⟩) hl7 le7 hdone
 refine xJ 2 rfl ?_
 intro imm8 le8 hl8
 have k2:=SL.of_frozen hl8 le8 (iM le7 h3)
 rw [hLP.len]
 exact yP ⟨_,_,(.cell 2 rfl rfl (by kernel_rfl) ResV.nil),(zL [0] rfl (by decide)),⟨_,_,rfl,rfl,⟨_,rfl,(pO ⟨_,_,rfl,k2,k1.mono le8⟩)⟩,Rp.mono le8 (Rp.mono le7 hk)⟩⟩
theorem zC9:∀ (r0:zO) (p1:zW) r,sX r0 p1=some r→∀ {imm:Imm}{r01:Nat}{p c p2 c1 p3 c2},(S4 imm p r0.b c)→(S4 imm p2 p1.Arrays c1)→(S4 imm p3 p1.Parts c2)→Ret Tryz.prog 61 [vP r01 0,vA (cProg p1 p2 c1 p3 c2)] imm [hB r01 (cRd r0 p c)] (mH r01 r):=by
 intro r0 p1 r hM imm r01 p c p2 c1 p3 c2 h h1 h2;by_cases hq:∃ y y3 x s,sG p1=some y∧yW r0 60=some (3,y3)∧idx y.Parts (W ((y.Parts.length:Int) - 1))=some x∧idx x.Body 0=some s
 · obtain ⟨y,y3,x,s,e1,e2,e3,e4⟩:=hq;exact zBl r0 p1 r hM e1 e2 e3 e4 h h1 h2
 refine zBj r0 p1 r hM h h1 h2 ?_;intro y y2 y3 x s e1 e2 e3 e4 e5;obtain rfl:=eq_of_beq e3;exact hq ⟨y,y3,x,s,e1,e2,e4,e5⟩
def mI (r:Bool):KT:=fun kk imm' hs' v=>
  ∃ v0,hs'=[]∧v=tupV [v0]∧v0=.bool r
def wO (x:zJ) (k0:Int):Option (Out Unit (Bool)):=do
 if (decide (k0 < (x.Dims.length:Int))) then
  let t77←(do
    let x2←idx x.Dims k0
    if (decide (x2 < 1)) then
     pure true
    else
     let x3←idx x.Dims k0
     pure (decide (x3 > 6))
      : Option Bool)
  if t77 then
   pure (.ret false)
  else
   wO x (W (k0 + 1))
 else
  pure (.done ())
 partial_fixpoint
theorem zAb (x:zJ):∀ (k0:Int) (o:Out Unit (Bool)),wO x k0=some o→∀ {B}{imm0 imm:Imm}{Q}{list:(List zJ)}{i:Int}{p c p1 c1}{b:Nat},imm0.le imm→(S4 imm p list c)→(S4 imm p1 x.Dims c1)→(∀ gl a w,¬Q (.goto gl) a w)→(∀ a w,¬Q .outgrown a w)→(∀ (imm':Imm) ,o=(.done ())→imm0.le imm'→T 81 B Q (.exit 2) imm' [] [(0,vS p list c),(3,vI i)])→(∀ r imm' hs' m',o=(.ret r)→imm0.le imm'→RS Tryz.prog Tryz.f111 B (mI  r) imm' hs' m'→T 81 B Q .ret imm' hs' m')→J Tryz.prog 81 B (nav (bodyOf Tryz.f111) [1,0,1,0,0,1,0,0,1,1,1,0]) Q imm [hB b (cArr x p1 c1)] [(0,vS p list c),(3,vI i),(4,vP b 0),(5,vI k0)]:=by
 refine wO.partial_correctness x _ ?_;intro self ih k0 o hM B imm0 imm Q list i p c p1 c1 b hle h h1 hg ho hx hr;refine xA hg ho<|zG<|zG<|zB<|yA [0] [(61,.bool (decide (k0 < (x.Dims.length:Int))))]<|zF<|yO hM ?_ ?_
 · intro hc9 hM;refine yE<|zF<|zG<|yC<|zG ?_;obtain ⟨o01,ho01,hMc1⟩:=zC hM;refine yT (fun imm' hs' m'=>∃ (t77:Bool),o01=t77∧imm.le imm'∧hs'=[hB b (cArr x p1 c1)]∧m'=[(0,vS p list c),(3,vI i),(4,vP b 0),(5,vI k0),(77,.bool t77)]) ?_ ?_
   · have hle:=iS imm;refine zB<|yK 3 [0] [(65,vS p1 x.Dims c1),(66,vI k0)] ?_;obtain ⟨x2,hy2,hM⟩:=zC ho01;refine wD rfl rfl h1 hy2 ?_;intro ad2 ccs2 hat2 hrep2;obtain rfl:=hrep2;refine xQ 0 hat2 [vI x2] (vI x2) rfl<|yK 7 [] [(70,.bool (decide (x2 < 1)))] ?_;cases hc10:(decide (x2 < 1)) with
     | true =>
      have hM014:=zV hc10 hM
      try rw [hc10]
      exact yA [] [(77,.bool true)]<|yS [(0,vS p list c),(3,vI i),(4,vP b 0),(5,vI k0),(77,.bool true)]<|yB ⟨_,(zD hM014).symm,hle,rfl,rfl⟩
     | false =>
      have hM015:=zT hc10 hM
      try rw [hc10]
      refine yK 10 [0] [(72,vS p1 x.Dims c1),(73,vI k0)] ?_;obtain ⟨x3,hy3,hM⟩:=zC hM015;refine wD rfl rfl h1 hy3 ?_;intro ad3 ccs3 hat3 hrep3;obtain rfl:=hrep3;exact xQ 0 hat3 [vI x3] (vI x3) rfl<|yA [] [(77,.bool (decide (x3 > 6)))]<|yS [(0,vS p list c),(3,vI i),(4,vP b 0),(5,vI k0),(77,.bool (decide (x3 > 6)))]<|yB ⟨_,(zD hM).symm,hle,rfl,rfl⟩
   rintro imm01 hs2 m2 ⟨t77,heq1,le1,rfl,rfl⟩;subst o01;have h:=h.mono le1;have h1:=h1.mono le1;have hle:=hle.trans le1;refine zF<|yO hMc1 ?_ ?_
   · intro hc11 hM;exact zG<|zB<|yA [] [(2,.bool false)]<|zF<|yI<|yF<|zP<|zP<|hr _ _ _ _ (zD hM).symm hle ⟨_,_,(.tmp rfl ResV.nil),zX,⟨_,rfl,rfl,rfl⟩⟩
   intro hc11 hM;exact yE<|zY<|zF<|zB<|yA [] [(5,vI (W (k0 + 1)))]<|xB<|vG [(0,vS p list c),(3,vI i),(4,vP b 0),(5,vI (W (k0 + 1)))]<|ih (W (k0 + 1)) _ hM hle h h1 hg ho hx hr
 intro hc9 hM;exact yZ<|zS<|zS<|wB (zL [] rfl (by decide))<|yS [(0,vS p list c),(3,vI i)]<|hx _  (zD hM).symm hle
def wX (list:(List zJ)) (i:Int):Option (Out Unit (Bool)):=do
 if (decide (i < (list.length:Int))) then
  let x←idx list i
  let t56←(do
    if ((x.Name.l.length:Int) != 1) then
     pure true
    else
     if (Op.bytesLess x.Name.l ([65]:List UInt8)) then
      pure true
     else
      if (!(Op.bytesLess x.Name.l ([68]:List UInt8) || x.Name.l == ([68]:List UInt8))) then
       pure true
      else
       if (decide (i > 0)) then
        let x1←idx list (W (i - 1))
        if (!(Op.bytesLess x1.Name.l x.Name.l)) then
         pure true
        else
         if (decide ((x.Dims.length:Int) < 1)) then
          pure true
         else
          pure (decide ((x.Dims.length:Int) > 2))
       else
        if (decide ((x.Dims.length:Int) < 1)) then
         pure true
        else
         pure (decide ((x.Dims.length:Int) > 2))
      : Option Bool)
  if t56 then
   pure (.ret false)
  else
   match←wO x 0 with
   | .ret r0=>pure (.ret r0)
   | .done _ =>
    wX list (W (i + 1))
 else
  pure (.done ())
 partial_fixpoint
theorem zAc (list:(List zJ)):∀ (i:Int) (o:Out Unit (Bool)),wX list i=some o→∀ {B}{imm0 imm:Imm}{Q p c},imm0.le imm→(S4 imm p list c)→(∀ gl a w,¬Q (.goto gl) a w)→(∀ a w,¬Q .outgrown a w)→(∀ (imm':Imm) ,o=(.done ())→imm0.le imm'→T 81 B Q (.exit 0) imm' [] [(0,vS p list c)])→(∀ r imm' hs' m',o=(.ret r)→imm0.le imm'→RS Tryz.prog Tryz.f111 B (mI  r) imm' hs' m'→T 81 B Q .ret imm' hs' m')→J Tryz.prog 81 B (nav (bodyOf Tryz.f111) [1,0,1,0]) Q imm [] [(0,vS p list c),(3,vI i)]:=by
 refine wX.partial_correctness list _ ?_;intro self ih i o hM B imm0 imm Q p c hle h hg ho hx hr;refine xA hg ho<|zG<|zG<|zB<|yA [] [(9,.bool (decide (i < (list.length:Int))))]<|zF<|yO hM ?_ ?_
 · intro hc hM;refine yE<|zF<|zG<|yC<|zG<|zB<|yK 2 [] [(12,vS p list c),(13,vI i)] ?_;obtain ⟨x,hy,hM⟩:=zC hM;refine wD rfl rfl h hy ?_;intro ad ccs hat hrep;obtain ⟨v0,rfl,h1⟩:=wC hrep;obtain ⟨p1,c1,rfl⟩:=h1.form;refine xQ 0 hat (cArr x p1 c1) (vA (cArr x p1 c1)) rfl<|uB [vT ([]),z0] ?_;intro b hb;refine xI 0 (cArr x p1 c1) [hB b (cArr x p1 c1)] rfl rfl rfl rfl<|yN rfl<|zF<|zG<|zG ?_;obtain ⟨o0,ho0,hMc⟩:=zC hM;refine yT (fun imm' hs' m'=>∃ (t56:Bool),o0=t56∧imm.le imm'∧hs'=[hB b (cArr x p1 c1)]∧m'=[(0,vS p list c),(3,vI i),(4,vP b 0),(56,.bool t56)]) ?_ ?_
   · have hle:=iS imm;refine kA (by kernel_rfl) (by kernel_rfl)<|fH 5 [0] [(20,.bool ((x.Name.l.length:Int) != 1))] ?_;cases hc1:((x.Name.l.length:Int) != 1) with
     | true =>
      have hM0:=zV hc1 ho0
      try rw [hc1]
      exact zC3 [] [(56,.bool true)]<|yS [(0,vS p list c),(3,vI i),(4,vP b 0),(56,.bool true)]<|yB ⟨_,(zD hM0).symm,hle,rfl,rfl⟩
     | false =>
      have hM01:=zT hc1 ho0
      try rw [hc1]
      refine fH 10 [0] [(25,.bool (Op.bytesLess x.Name.l ([65]:List UInt8)))] ?_;cases hc2:(Op.bytesLess x.Name.l ([65]:List UInt8)) with
      | true =>
       have hM02:=zV hc2 hM01
       try rw [hc2]
       exact zC3 [] [(56,.bool true)]<|yS [(0,vS p list c),(3,vI i),(4,vP b 0),(56,.bool true)]<|yB ⟨_,(zD hM02).symm,hle,rfl,rfl⟩
      | false =>
       have hM03:=zT hc2 hM01
       try rw [hc2]
       refine fH 15 [0] [(30,.bool (!(Op.bytesLess x.Name.l ([68]:List UInt8) || x.Name.l == ([68]:List UInt8))))] ?_;cases hc3:(!(Op.bytesLess x.Name.l ([68]:List UInt8) || x.Name.l == ([68]:List UInt8))) with
       | true =>
        have hM04:=zV hc3 hM03
        try rw [hc3]
        exact zC3 [] [(56,.bool true)]<|yS [(0,vS p list c),(3,vI i),(4,vP b 0),(56,.bool true)]<|yB ⟨_,(zD hM04).symm,hle,rfl,rfl⟩
       | false =>
        have hM05:=zT hc3 hM03
        try rw [hc3]
        refine fH 18 [] [(33,.bool (decide (i > 0)))] ?_;cases hc4:(decide (i > 0)) with
        | true =>
         have hM06:=zV hc4 hM05
         try rw [hc4]
         refine fH 21 [] [(34,vS p list c),(36,vI (W (i - 1)))] ?_;obtain ⟨x1,hy1,hM⟩:=zC hM06;refine zBd rfl rfl h hy1 ?_;intro ad1 ccs1 hat1 hrep1;obtain ⟨v01,rfl,h2⟩:=wC hrep1;obtain ⟨p2,c2,rfl⟩:=h2.form;refine fH 23 [] [(38,.pointer (some ad1))]<|zBc 0 hat1 [vT x1.Name.l] (vT x1.Name.l) rfl<|fH 30 [0] [(45,.bool (!(Op.bytesLess x1.Name.l x.Name.l)))] ?_;cases hc5:(!(Op.bytesLess x1.Name.l x.Name.l)) with
         | true =>
          have hM07:=zV hc5 hM
          try rw [hc5]
          exact zC3 [] [(56,.bool true)]<|yS [(0,vS p list c),(3,vI i),(4,vP b 0),(56,.bool true)]<|yB ⟨_,(zD hM07).symm,hle,rfl,rfl⟩
         | false =>
          have hM08:=zT hc5 hM
          try rw [hc5]
          refine fH 36 [0] [(51,.bool (decide ((x.Dims.length:Int) < 1)))] ?_;cases hc6:(decide ((x.Dims.length:Int) < 1)) with
          | true =>
           have hM09:=zV hc6 hM08
           try rw [hc6]
           exact zC3 [] [(56,.bool true)]<|yS [(0,vS p list c),(3,vI i),(4,vP b 0),(56,.bool true)]<|yB ⟨_,(zD hM09).symm,hle,rfl,rfl⟩
          | false =>
           have hM010:=zT hc6 hM08
           try rw [hc6]
           exact zC3 [0] [(56,.bool (decide ((x.Dims.length:Int) > 2)))]<|yS [(0,vS p list c),(3,vI i),(4,vP b 0),(56,.bool (decide ((x.Dims.length:Int) > 2)))]<|yB ⟨_,(zD hM010).symm,hle,rfl,rfl⟩
        | false =>
         have hM011:=zT hc4 hM05
         try rw [hc4]
         refine fH 36 [0] [(51,.bool (decide ((x.Dims.length:Int) < 1)))] ?_;cases hc7:(decide ((x.Dims.length:Int) < 1)) with
         | true =>
          have hM012:=zV hc7 hM011
          try rw [hc7]
          exact zC3 [] [(56,.bool true)]<|yS [(0,vS p list c),(3,vI i),(4,vP b 0),(56,.bool true)]<|yB ⟨_,(zD hM012).symm,hle,rfl,rfl⟩
         | false =>
          have hM013:=zT hc7 hM011
          try rw [hc7]
          exact zC3 [0] [(56,.bool (decide ((x.Dims.length:Int) > 2)))]<|yS [(0,vS p list c),(3,vI i),(4,vP b 0),(56,.bool (decide ((x.Dims.length:Int) > 2)))]<|yB ⟨_,(zD hM013).symm,hle,rfl,rfl⟩
   rintro imm0 hs2 m2 ⟨t56,heq,le,rfl,rfl⟩;subst o0;have h:=h.mono le;have h1:=h1.mono le;have hle:=hle.trans le;refine zF<|yO hMc ?_ ?_
   · intro hc8 hM;exact zG<|zB<|yA [] [(2,.bool false)]<|zF<|yI<|zP<|yF<|zP<|zP<|hr _ _ _ _ (zD hM).symm hle ⟨_,_,(.tmp rfl ResV.nil),zX,⟨_,rfl,rfl,rfl⟩⟩
   intro hc8 hM;refine yE<|zF<|zG<|zB<|yA [] [(5,vI 0)]<|zF<|yC<|vG [(0,vS p list c),(3,vI i),(4,vP b 0),(5,vI 0)] ?_;obtain ⟨o02,ho02,hMl⟩:=zC hM;refine zAb x 0 o02 ho02 iR h h1 (fun _ _ _ h=>hg _ _ _ h) (fun _ _ h=>ho _ _ h) ?_ ?_
   · intro imm02  heq2 le2;subst o02;have h:=h.mono le2;have hle:=hle.trans le2;exact yD<|zY<|zF<|zB<|yA [] [(3,vI (W (i + 1)))]<|xB<|vG [(0,vS p list c),(3,vI (W (i + 1)))]<|ih (W (i + 1)) _ hMl hle h hg ho hx hr
   intro r0 imm9 hs9 m9 heq9 le9 hrs9;subst heq9;exact yF<|yF<|zP<|zP<|hr _ _ _ _ (zD hMl).symm (hle.trans le9) hrs9
 intro hc hM;exact yZ<|zS<|zS<|yS [(0,vS p list c)]<|hx _  (zD hM).symm hle
def qE (list:(List zJ)):Option (Bool):=do
 match←wX list 0 with
 | .ret r0=>pure r0
 | .done _ =>
  pure (decide ((list.length:Int) ≤ 4))
theorem zCa:∀ (list:(List zJ)) r,qE list=some r→∀ {imm:Imm}{p c},(S4 imm p list c)→Ret Tryz.prog 111 [vS p list c] imm [] (mI  r):=by
 intro list r hM imm p c h;unfold qE at hM;refine yH (fn:=Tryz.f111) (c:=(bodyOf Tryz.f111)) Tryz.func111 rfl rfl ?_;rintro B - -;refine zG<|zB<|yA [] []<|zF<|zG<|zG<|zB<|yA [] [(3,vI 0)]<|zF<|yC<|vG [(0,vS p list c),(3,vI 0)] ?_;obtain ⟨o03,ho03,hMl1⟩:=zC hM;refine zAc list 0 o03 ho03 iR h (fun _ _ _ h=>h) (fun _ _ h=>h) ?_ ?_
 · intro imm03  heq3 le3;subst o03;refine yD<|zF<|zG<|zB<|yA [] [(2,.bool (decide ((list.length:Int) ≤ 4)))]<|zF<|yI ?_;obtain rfl:=zD hMl1;exact yP ⟨_,_,(.tmp rfl ResV.nil),zX,⟨_,rfl,rfl,rfl⟩⟩
 intro r0 imm9 hs9 m9 heq9 le9 hrs9;subst heq9;refine yF<|zP ?_;obtain rfl:=zD hMl1;exact yP hrs9
def zBF (r:Bool):KT:=fun kk imm' hs' v=>
  ∃ v0,hs'=[]∧v=tupV [v0]∧v0=.bool r
def wQ (n0:Int) (most:Int):Option (Bool):=do
 let t4←(do
   if (decide (n0 ≥ (W (0 - most)))) then
    pure (decide (n0 ≤ most))
   else
    pure false
     : Option Bool)
 pure (id t4)
theorem kF:∀ (n0:Int) (most:Int) r,wQ n0 most=some r→∀ {imm:Imm} ,Ret Tryz.prog 132 [vI n0,vI most] imm [] (zBF  r):=by
 intro n0 most r hM imm;unfold wQ at hM;refine yH (fn:=Tryz.f132) (c:=(bodyOf Tryz.f132)) Tryz.func132 rfl rfl ?_;rintro B - -;have hle:=iS imm;refine zG<|zB<|yA [] []<|zF<|zG ?_;obtain ⟨o0,ho0,hMc⟩:=zC hM;refine yT (fun imm' hs' m'=>∃ (t4:Bool),o0=t4∧imm.le imm'∧hs'=[]∧m'=[(4,.bool t4)]) ?_ ?_
 · have hle:=iS imm;refine zB<|yK 5 [] [(9,.bool (decide (n0 ≥ (W (0 - most)))))] ?_;cases hc:(decide (n0 ≥ (W (0 - most)))) with
   | true =>
    have hM0:=zV hc ho0
    try rw [hc]
    exact yA [] [(4,.bool (decide (n0 ≤ most)))]<|yS [(4,.bool (decide (n0 ≤ most)))]<|yB ⟨_,(zD hM0).symm,hle,rfl,rfl⟩
   | false =>
    have hM01:=zT hc ho0
    try rw [hc]
    exact yA [] [(4,.bool false)]<|yS [(4,.bool false)]<|yB ⟨_,(zD hM01).symm,hle,rfl,rfl⟩
 rintro imm0 hs2 m2 ⟨t4,heq,le,rfl,rfl⟩;subst o0;refine zF<|yI ?_;obtain rfl:=zD hMc;exact yP ⟨_,_,(.tmp rfl ResV.nil),zX,⟨_,rfl,rfl,rfl⟩⟩
def gQ (r:Bool):KT:=fun kk imm' hs' v=>
  ∃ v0,hs'=[]∧v=tupV [v0]∧v0=.bool r
def vU (p:(List Int)) (i:Int):Option (Out Unit (Bool)):=do
 if (decide (i < (p.length:Int))) then
  let x←idx p i
  let y←wQ x 9999
  if (!y) then
   pure (.ret false)
  else
   vU p (W (i + 1))
 else
  pure (.done ())
 partial_fixpoint
theorem zBG (p:(List Int)):∀ (i:Int) (o:Out Unit (Bool)),vU p i=some o→∀ {B}{imm0 imm:Imm}{Q p1 c},imm0.le imm→(S4 imm p1 p c)→(∀ gl a w,¬Q (.goto gl) a w)→(∀ a w,¬Q .outgrown a w)→(∀ (imm':Imm) ,o=(.done ())→imm0.le imm'→T 19 B Q (.exit 0) imm' [] [(0,vS p1 p c)])→(∀ r imm' hs' m',o=(.ret r)→imm0.le imm'→RS Tryz.prog Tryz.f68 B (gQ  r) imm' hs' m'→T 19 B Q .ret imm' hs' m')→J Tryz.prog 19 B (nav (bodyOf Tryz.f68) [1,0,1,0]) Q imm [] [(0,vS p1 p c),(3,vI i)]:=by
 refine vU.partial_correctness p _ ?_;intro self ih i o hM B imm0 imm Q p1 c hle h hg ho hx hr;refine xA hg ho<|zG<|zG<|zB<|yA [] [(7,.bool (decide (i < (p.length:Int))))]<|zF<|yO hM ?_ ?_
 · intro hc hM;refine yE<|zF<|zG<|yC<|zG<|zB<|yK 2 [] [(10,vS p1 p c),(11,vI i)] ?_;obtain ⟨x,hy,hM⟩:=zC hM;refine wD rfl rfl h hy ?_;intro ad ccs hat hrep;obtain rfl:=hrep;refine xQ 0 hat [vI x] (vI x) rfl ?_;obtain ⟨y,hy1,hM⟩:=zC hM;refine yQ (kF x 9999 _ hy1 ) ?_;rintro imm0 hs2 v2 k2 le - ⟨v0,rfl,rfl,rfl⟩ -;have h:=h.mono le;have hle:=hle.trans le;refine yA [] [(15,.bool (!y))]<|zF<|yO hM ?_ ?_
   · intro hc1 hM;exact zG<|zB<|yA [] [(2,.bool false)]<|zF<|yI<|yF<|zP<|zP<|hr _ _ _ _ (zD hM).symm hle ⟨_,_,(.tmp rfl ResV.nil),zX,⟨_,rfl,rfl,rfl⟩⟩
   intro hc1 hM;exact yE<|zY<|zF<|zB<|yA [] [(3,vI (W (i + 1)))]<|xB<|vG [(0,vS p1 p c),(3,vI (W (i + 1)))]<|ih (W (i + 1)) _ hM hle h hg ho hx hr
 intro hc hM;exact yZ<|zS<|zS<|yS [(0,vS p1 p c)]<|hx _  (zD hM).symm hle
def qZ (p:(List Int)):Option (Bool):=do
 match←vU p 0 with
 | .ret r0=>pure r0
 | .done _ =>
  pure (decide ((p.length:Int) ≤ 4))
theorem zDM:∀ (p:(List Int)) r,qZ p=some r→∀ {imm:Imm}{p1 c},(S4 imm p1 p c)→Ret Tryz.prog 68 [vS p1 p c] imm [] (gQ  r):=by
 intro p r hM imm p1 c h;unfold qZ at hM;refine yH (fn:=Tryz.f68) (c:=(bodyOf Tryz.f68)) Tryz.func68 rfl rfl ?_;rintro B - -;refine zG<|zB<|yA [] []<|zF<|zG<|zG<|zB<|yA [] [(3,vI 0)]<|zF<|yC<|vG [(0,vS p1 p c),(3,vI 0)] ?_;obtain ⟨o0,ho0,hMl⟩:=zC hM;refine zBG p 0 o0 ho0 iR h (fun _ _ _ h=>h) (fun _ _ h=>h) ?_ ?_
 · intro imm01  heq le1;subst o0;refine yD<|zF<|zG<|zB<|yA [] [(2,.bool (decide ((p.length:Int) ≤ 4)))]<|zF<|yI ?_;obtain rfl:=zD hMl;exact yP ⟨_,_,(.tmp rfl ResV.nil),zX,⟨_,rfl,rfl,rfl⟩⟩
 intro r0 imm9 hs9 m9 heq9 le9 hrs9;subst heq9;refine yF<|zP ?_;obtain rfl:=zD hMl;exact yP hrs9
def zCb (r:Int):KT:=fun kk imm' hs' v=>
  ∃ v0,hs'=[]∧v=tupV [v0]∧v0=.int .i64 r
def uI (a0:zJ) (n0:Int) (i:Int):Option (Int):=do
 if (decide (i < (a0.Dims.length:Int))) then
  let x←idx a0.Dims i
  uI a0 (W (n0 * x)) (W (i + 1))
 else
  pure (id n0)
 partial_fixpoint
theorem zBm (a0:zJ):∀ (n0:Int) (i:Int) (o:Int),uI a0 n0 i=some o→∀ {B}{imm0 imm:Imm}{Q p c}{b:Nat},imm0.le imm→(S4 imm p a0.Dims c)→(∀ gl a w,¬Q (.goto gl) a w)→(∀ a w,¬Q .outgrown a w)→(∀ (imm':Imm) (n01:Int),o=n01→imm0.le imm'→T 20 B Q (.exit 0) imm' [] [(3,vI n01)])→J Tryz.prog 20 B (nav (bodyOf Tryz.f116) [1,1,0,1,0]) Q imm [hB b (cArr a0 p c)] [(1,vP b 0),(3,vI n0),(4,vI i)]:=by
 refine uI.partial_correctness a0 _ ?_;intro self ih n0 i o hM B imm0 imm Q p c b hle h hg ho hx;refine xA hg ho<|zG<|zG<|zB<|yA [0] [(9,.bool (decide (i < (a0.Dims.length:Int))))]<|zF<|yO hM ?_ ?_
 · intro hc hM;refine yE<|zF<|zG<|yC<|zB<|yK 4 [0] [(12,vI n0),(14,vS p a0.Dims c),(15,vI i)] ?_;obtain ⟨x,hy,hM⟩:=zC hM;refine wD rfl rfl h hy ?_;intro ad ccs hat hrep;obtain rfl:=hrep;exact xQ 0 hat [vI x] (vI x) rfl<|yA [] [(3,vI (W (n0 * x)))]<|zY<|zF<|zB<|yA [] [(4,vI (W (i + 1)))]<|xB<|vG [(1,vP b 0),(3,vI (W (n0 * x))),(4,vI (W (i + 1)))]<|ih (W (n0 * x)) (W (i + 1)) _ hM hle h hg ho hx
 intro hc hM;exact yZ<|zS<|zS<|wB (zL [] rfl (by decide))<|yS [(3,vI n0)]<|hx _ _ (zD hM).symm hle
def pY (a0:zJ):Option (Int):=do
 let n01←uI a0 1 0
 pure (id n01)
theorem zDr:∀ (a0:zJ) r,pY a0=some r→∀ {imm:Imm}{p c},(S4 imm p a0.Dims c)→Ret Tryz.prog 116 [vA (cArr a0 p c)] imm [] (zCb  r):=by
 intro a0 r hM imm p c h;unfold pY at hM;refine yH (fn:=Tryz.f116) (c:=(bodyOf Tryz.f116)) Tryz.func116 rfl rfl ?_;rintro B - -;refine zG<|zB<|tA (cArr a0 p c) ?_;intro b hb;refine yA [] []<|zF<|zG<|zB<|yA [] [(3,vI 1)]<|zF<|zG<|zG<|zB<|yA [] [(4,vI 0)]<|zF<|yC<|vG [(1,vP b 0),(3,vI 1),(4,vI 0)] ?_;obtain ⟨o0,ho0,hMl⟩:=zC hM;refine zBm a0 1 0 o0 ho0 iR h (fun _ _ _ h=>h) (fun _ _ h=>h) ?_;intro imm0 n01 heq le;subst o0;refine yD<|zF<|zG<|zB<|yA [] [(2,vI n01)]<|zF<|yI ?_;obtain rfl:=zD hMl;exact yP ⟨_,_,(.tmp rfl ResV.nil),zX,⟨_,rfl,rfl,rfl⟩⟩
def zCc (r:Int):KT:=fun kk imm' hs' v=>
  ∃ v0,hs'=[]∧v=tupV [v0]∧v0=.int .i64 r
def uJ (a0:zA) (point:(List Int)) (n0:Int) (i:Int):Option (Int):=do
 let t19←(do
   if (decide (i < (point.length:Int))) then
    pure (decide (i < (a0.Coefs.length:Int)))
   else
    pure false
     : Option Bool)
 if t19 then
  let x←idx a0.Coefs i
  let x1←idx point i
  uJ a0 point (W (n0 + (W (x * x1)))) (W (i + 1))
 else
  pure (id n0)
 partial_fixpoint
theorem zBn (a0:zA) (point:(List Int)):∀ (n0:Int) (i:Int) (o:Int),uJ a0 point n0 i=some o→∀ {B}{imm0 imm:Imm}{Q p c p1 c1}{b:Nat},imm0.le imm→(S4 imm p1 point c1)→(S4 imm p a0.Coefs c)→(∀ gl a w,¬Q (.goto gl) a w)→(∀ a w,¬Q .outgrown a w)→(∀ (imm':Imm) (n01:Int),o=n01→imm0.le imm'→T 35 B Q (.exit 0) imm' [] [(5,vI n01)])→J Tryz.prog 35 B (nav (bodyOf Tryz.f133) [1,1,0,1,0]) Q imm [hB b (cAff a0 p c)] [(1,vS p1 point c1),(2,vP b 0),(5,vI n0),(6,vI i)]:=by
 refine uJ.partial_correctness a0 point _ ?_;intro self ih n0 i o hM B imm0 imm Q p c p1 c1 b hle h1 h hg ho hx;refine xA hg ho<|zG<|zG ?_;obtain ⟨o0,ho0,hMc⟩:=zC hM;refine yT (fun imm' hs' m'=>∃ (t19:Bool),o0=t19∧imm.le imm'∧hs'=[hB b (cAff a0 p c)]∧m'=[(1,vS p1 point c1),(2,vP b 0),(5,vI n0),(6,vI i),(19,.bool t19)]) ?_ ?_
 · have hle:=iS imm;refine zB<|yK 5 [] [(13,.bool (decide (i < (point.length:Int))))] ?_;cases hc:(decide (i < (point.length:Int))) with
   | true =>
    have hM0:=zV hc ho0
    try rw [hc]
    exact yA [0] [(19,.bool (decide (i < (a0.Coefs.length:Int))))]<|yS [(1,vS p1 point c1),(2,vP b 0),(5,vI n0),(6,vI i),(19,.bool (decide (i < (a0.Coefs.length:Int))))]<|yB ⟨_,(zD hM0).symm,hle,rfl,rfl⟩
   | false =>
    have hM01:=zT hc ho0
    try rw [hc]
    exact yA [] [(19,.bool false)]<|yS [(1,vS p1 point c1),(2,vP b 0),(5,vI n0),(6,vI i),(19,.bool false)]<|yB ⟨_,(zD hM01).symm,hle,rfl,rfl⟩
 rintro imm0 hs2 m2 ⟨t19,heq,le,rfl,rfl⟩;subst o0;have h1:=h1.mono le;have h:=h.mono le;have hle:=hle.trans le;refine zF<|yO hMc ?_ ?_
 · intro hc1 hM;refine yE<|zF<|zG<|yC<|kA (by kernel_rfl) (by kernel_rfl)<|fH 4 [0] [(22,vI n0),(24,vS p a0.Coefs c),(25,vI i)] ?_;obtain ⟨x,hy,hM⟩:=zC hM;refine zBd rfl rfl h hy ?_;intro ad ccs hat hrep;obtain rfl:=hrep;refine zBc 0 hat [vI x] (vI x) rfl<|fH 8 [] [(28,vS p1 point c1),(29,vI i)] ?_;obtain ⟨x1,hy1,hM⟩:=zC hM;refine zBd rfl rfl h1 hy1 ?_;intro ad1 ccs1 hat1 hrep1;obtain rfl:=hrep1;exact zBc 0 hat1 [vI x1] (vI x1) rfl<|zC3 [] [(5,vI (W (n0 + (W (x * x1)))))]<|zY<|zF<|zB<|yA [] [(6,vI (W (i + 1)))]<|xB<|vG [(1,vS p1 point c1),(2,vP b 0),(5,vI (W (n0 + (W (x * x1))))),(6,vI (W (i + 1)))]<|ih (W (n0 + (W (x * x1)))) (W (i + 1)) _ hM hle h1 h hg ho hx
 intro hc1 hM;exact yZ<|zS<|zS<|wB (zL [] rfl (by decide))<|yS [(5,vI n0)]<|hx _ _ (zD hM).symm hle
def tT (a0:zA) (point:(List Int)):Option (Int):=do
 let n01←uJ a0 point a0.Const 0
 pure (id n01)
theorem nO:∀ (a0:zA) (point:(List Int)) r,tT a0 point=some r→∀ {imm:Imm}{p c p1 c1},(S4 imm p a0.Coefs c)→(S4 imm p1 point c1)→Ret Tryz.prog 133 [vA (cAff a0 p c),vS p1 point c1] imm [] (zCc  r):=by
 intro a0 point r hM imm p c p1 c1 h h1;unfold tT at hM;refine yH (fn:=Tryz.f133) (c:=(bodyOf Tryz.f133)) Tryz.func133 rfl rfl ?_;rintro B - -;refine zG<|zB<|tA (cAff a0 p c) ?_;intro b hb;refine yA [] []<|zF<|zG<|zB<|yA [0] [(5,vI a0.Const)]<|zF<|zG<|zG<|zB<|yA [] [(6,vI 0)]<|zF<|yC<|vG [(1,vS p1 point c1),(2,vP b 0),(5,vI a0.Const),(6,vI 0)] ?_;obtain ⟨o01,ho01,hMl⟩:=zC hM;refine zBn a0 point a0.Const 0 o01 ho01 iR h1 h (fun _ _ _ h=>h) (fun _ _ h=>h) ?_;intro imm01 n01 heq1 le1;subst o01;refine yD<|zF<|zG<|zB<|yA [] [(4,vI n01)]<|zF<|yI ?_;obtain rfl:=zD hMl;exact yP ⟨_,_,(.tmp rfl ResV.nil),zX,⟨_,rfl,rfl,rfl⟩⟩
def kG (r:Int):KT:=fun kk imm' hs' v=>
  ∃ v0,hs'=[]∧v=tupV [v0]∧v0=.int .i64 r
def vL (list:(List zJ)) (a0:zN) (point:(List Int)) (i:Int) (n0:Int) (k0:Int):Option (Out Int (Int)):=do
 if (decide (k0 < (a0.Subs.length:Int))) then
  let x2←idx list i
  if ((a0.Subs.length:Int) != (x2.Dims.length:Int)) then
   pure (.ret (-1))
  else
   let x3←idx a0.Subs k0
   let y1←tT x3 point
   let t70←(do
     if (decide (y1 < 0)) then
      pure true
     else
      let x4←idx list i
      let x5←idx x4.Dims k0
      pure (decide (y1 ≥ x5))
       : Option Bool)
   if t70 then
    pure (.ret (-1))
   else
    let x6←idx list i
    let x7←idx x6.Dims k0
    vL list a0 point i (W ((W (n0 * x7)) + y1)) (W (k0 + 1))
 else
  pure (.done n0)
 partial_fixpoint
theorem zBo (list:(List zJ)) (a0:zN) (point:(List Int)) (i:Int):∀ (n0:Int) (k0:Int) (o:Out Int (Int)),vL list a0 point i n0 k0=some o→∀ {B}{imm0 imm:Imm}{Q}{base:Int}{p c p1 c1 p2 c2}{b:Nat},imm0.le imm→(S4 imm p list c)→(S4 imm p2 point c2)→(S4 imm p1 a0.Subs c1)→(∀ gl a w,¬Q (.goto gl) a w)→(∀ a w,¬Q .outgrown a w)→(∀ (imm':Imm) (n01:Int),o=(.done n01)→imm0.le imm'→T 86 B Q (.exit 2) imm' [] [(7,vI base),(9,vI n01)])→(∀ r imm' hs' m',o=(.ret r)→imm0.le imm'→RS Tryz.prog Tryz.f69 B (kG  r) imm' hs' m'→T 86 B Q .ret imm' hs' m')→J Tryz.prog 86 B (nav (bodyOf Tryz.f69) [1,1,0,1,0,0,1,0,0,1,1,0,1,0]) Q imm [hB b (cAccess a0 p1 c1)] [(0,vS p list c),(2,vS p2 point c2),(4,vP b 0),(7,vI base),(8,vI i),(9,vI n0),(10,vI k0)]:=by
 refine vL.partial_correctness list a0 point i _ ?_;intro self ih n0 k0 o hM B imm0 imm Q base p c p1 c1 p2 c2 b hle h h2 h1 hg ho hx hr;refine xA hg ho<|zG<|zG<|zB<|yA [0] [(37,.bool (decide (k0 < (a0.Subs.length:Int))))]<|zF<|yO hM ?_ ?_
 · intro hc2 hM;refine yE<|zF<|zG<|yC<|zG<|zG<|kA (by kernel_rfl) (by kernel_rfl)<|fH 5 [0] [(42,vI (a0.Subs.length:Int)),(43,vS p list c),(44,vI i)] ?_;obtain ⟨x2,hy3,hM⟩:=zC hM;refine zBd rfl rfl h hy3 ?_;intro ad2 ccs2 hat2 hrep2;obtain ⟨v03,rfl,h6⟩:=wC hrep2;obtain ⟨p5,c5,rfl⟩:=h6.form;refine fH 7 [] [(46,.pointer (some (ad2.add 1)))]<|zBc 1 hat2 [vS p5 x2.Dims c5] (vS p5 x2.Dims c5) rfl<|zC3 [] [(49,.bool ((a0.Subs.length:Int) != (x2.Dims.length:Int)))]<|zF<|yO hM ?_ ?_
   · intro hc3 hM;exact zG<|zB<|yA [] [(6,vI (-1))]<|zF<|yI<|zP<|yF<|zP<|zP<|hr _ _ _ _ (zD hM).symm hle ⟨_,_,(.tmp rfl ResV.nil),zX,⟨_,rfl,rfl,rfl⟩⟩
   intro hc3 hM;refine yE<|zF<|zG<|zB<|yK 3 [0] [(51,vS p1 a0.Subs c1),(52,vI k0)] ?_;obtain ⟨x3,hy4,hM⟩:=zC hM;refine wD rfl rfl h1 hy4 ?_;intro ad3 ccs3 hat3 hrep3;obtain ⟨v04,rfl,h7⟩:=yM hrep3;obtain ⟨p6,c6,rfl⟩:=h7.form;refine xQ 0 hat3 (cAff x3 p6 c6) (vA (cAff x3 p6 c6)) rfl<|yK 6 [] [(55,vS p2 point c2)] ?_;obtain ⟨y1,hy5,hM⟩:=zC hM;refine yQ (nO x3 point _ hy5 h7 h2) ?_;rintro imm01 hs2 v2 k2 le1 - ⟨v05,rfl,rfl,rfl⟩ -;have h:=h.mono le1;have h2:=h2.mono le1;have h1:=h1.mono le1;have hle:=hle.trans le1;refine yA [] [(11,vI y1)]<|zF<|zG<|zG ?_;obtain ⟨o0,ho0,hMc⟩:=zC hM;refine yT (fun imm' hs' m'=>∃ (t70:Bool),o0=t70∧imm01.le imm'∧hs'=[hB b (cAccess a0 p1 c1)]∧m'=[(0,vS p list c),(2,vS p2 point c2),(4,vP b 0),(7,vI base),(8,vI i),(9,vI n0),(10,vI k0),(11,vI y1),(70,.bool t70)]) ?_ ?_
   · have hle:=iS imm01;refine zB<|yK 3 [] [(59,.bool (decide (y1 < 0)))] ?_;cases hc4:(decide (y1 < 0)) with
     | true =>
      have hM0:=zV hc4 ho0
      try rw [hc4]
      exact yA [] [(70,.bool true)]<|yS [(0,vS p list c),(2,vS p2 point c2),(4,vP b 0),(7,vI base),(8,vI i),(9,vI n0),(10,vI k0),(11,vI y1),(70,.bool true)]<|yB ⟨_,(zD hM0).symm,hle,rfl,rfl⟩
     | false =>
      have hM01:=zT hc4 ho0
      try rw [hc4]
      refine yK 6 [] [(60,vI y1),(61,vS p list c),(62,vI i)] ?_;obtain ⟨x4,hy6,hM⟩:=zC hM01;refine wD rfl rfl h hy6 ?_;intro ad4 ccs4 hat4 hrep4;obtain ⟨v06,rfl,h9⟩:=wC hrep4;obtain ⟨p7,c7,rfl⟩:=h9.form;refine yK 8 [] [(64,.pointer (some (ad4.add 1)))]<|xQ 1 hat4 [vS p7 x4.Dims c7] (vS p7 x4.Dims c7) rfl<|yK 10 [] [(66,vI k0)] ?_;obtain ⟨x5,hy7,hM⟩:=zC hM;refine wD rfl rfl h9 hy7 ?_;intro ad5 ccs5 hat5 hrep5;obtain rfl:=hrep5;exact xQ 0 hat5 [vI x5] (vI x5) rfl<|yA [] [(70,.bool (decide (y1 ≥ x5)))]<|yS [(0,vS p list c),(2,vS p2 point c2),(4,vP b 0),(7,vI base),(8,vI i),(9,vI n0),(10,vI k0),(11,vI y1),(70,.bool (decide (y1 ≥ x5)))]<|yB ⟨_,(zD hM).symm,hle,rfl,rfl⟩
   rintro imm02 hs2 m2 ⟨t70,heq,le2,rfl,rfl⟩;subst o0;have h:=h.mono le2;have h2:=h2.mono le2;have h1:=h1.mono le2;have hle:=hle.trans le2;refine zF<|yO hMc ?_ ?_
   · intro hc5 hM;exact zG<|zB<|yA [] [(6,vI (-1))]<|zF<|yI<|zP<|yF<|zP<|zP<|hr _ _ _ _ (zD hM).symm hle ⟨_,_,(.tmp rfl ResV.nil),zX,⟨_,rfl,rfl,rfl⟩⟩
   intro hc5 hM;refine yE<|zF<|zB<|yK 3 [] [(71,vI n0),(72,vS p list c),(73,vI i)] ?_;obtain ⟨x6,hy8,hM⟩:=zC hM;refine wD rfl rfl h hy8 ?_;intro ad6 ccs6 hat6 hrep6;obtain ⟨v07,rfl,h10⟩:=wC hrep6;obtain ⟨p8,c8,rfl⟩:=h10.form;refine yK 5 [] [(75,.pointer (some (ad6.add 1)))]<|xQ 1 hat6 [vS p8 x6.Dims c8] (vS p8 x6.Dims c8) rfl<|yK 7 [] [(77,vI k0)] ?_;obtain ⟨x7,hy9,hM⟩:=zC hM;refine wD rfl rfl h10 hy9 ?_;intro ad7 ccs7 hat7 hrep7;obtain rfl:=hrep7;exact xQ 0 hat7 [vI x7] (vI x7) rfl<|yA [] [(9,vI (W ((W (n0 * x7)) + y1)))]<|zY<|zF<|zB<|yA [] [(10,vI (W (k0 + 1)))]<|xB<|vG [(0,vS p list c),(2,vS p2 point c2),(4,vP b 0),(7,vI base),(8,vI i),(9,vI (W ((W (n0 * x7)) + y1))),(10,vI (W (k0 + 1)))]<|ih (W ((W (n0 * x7)) + y1)) (W (k0 + 1)) _ hM hle h h2 h1 hg ho hx hr
 intro hc2 hM;exact yZ<|zS<|zS<|wB (zL [] rfl (by decide))<|yS [(7,vI base),(9,vI n0)]<|hx _ _ (zD hM).symm hle
def vM (list:(List zJ)) (a0:zN) (point:(List Int)) (base:Int) (i:Int):Option (Out Unit (Int)):=do
 if (decide (i < (list.length:Int))) then
  let x←idx list i
  if (!(x.Name.l == a0.Array.l)) then
   let x1←idx list i
   let y←pY x1
   vM list a0 point (W (base + y)) (W (i + 1))
  else
   match←vL list a0 point i 0 0 with
   | .ret r0=>pure (.ret r0)
   | .done n01 =>
    pure (.ret (W (base + n01)))
 else
  pure (.done ())
 partial_fixpoint
theorem zBp (list:(List zJ)) (a0:zN) (point:(List Int)):∀ (base:Int) (i:Int) (o:Out Unit (Int)),vM list a0 point base i=some o→∀ {B}{imm0 imm:Imm}{Q p c p1 c1 p2 c2}{b:Nat},imm0.le imm→(S4 imm p list c)→(S4 imm p2 point c2)→(S4 imm p1 a0.Subs c1)→(∀ gl a w,¬Q (.goto gl) a w)→(∀ a w,¬Q .outgrown a w)→(∀ (imm':Imm) ,o=(.done ())→imm0.le imm'→T 86 B Q (.exit 0) imm' [] [])→(∀ r imm' hs' m',o=(.ret r)→imm0.le imm'→RS Tryz.prog Tryz.f69 B (kG  r) imm' hs' m'→T 86 B Q .ret imm' hs' m')→J Tryz.prog 86 B (nav (bodyOf Tryz.f69) [1,1,0,1,0]) Q imm [hB b (cAccess a0 p1 c1)] [(0,vS p list c),(2,vS p2 point c2),(4,vP b 0),(7,vI base),(8,vI i)]:=by
 refine vM.partial_correctness list a0 point _ ?_;intro self ih base i o hM B imm0 imm Q p c p1 c1 p2 c2 b hle h h2 h1 hg ho hx hr;refine xA hg ho<|zG<|zG<|zB<|yA [] [(15,.bool (decide (i < (list.length:Int))))]<|zF<|yO hM ?_ ?_
 · intro hc hM;refine yE<|zF<|zG<|yC<|zG<|zG<|kA (by kernel_rfl) (by kernel_rfl)<|fH 2 [] [(18,vS p list c),(19,vI i)] ?_;obtain ⟨x,hy,hM⟩:=zC hM;refine zBd rfl rfl h hy ?_;intro ad ccs hat hrep;obtain ⟨v0,rfl,h3⟩:=wC hrep;obtain ⟨p3,c3,rfl⟩:=h3.form;refine fH 4 [] [(21,.pointer (some ad))]<|zBc 0 hat [vT x.Name.l] (vT x.Name.l) rfl<|zC3 [0] [(25,.bool (!(x.Name.l == a0.Array.l)))]<|zF<|yO hM ?_ ?_
   · intro hc1 hM;refine zG<|zB<|yK 3 [] [(26,vI base),(27,vS p list c),(28,vI i)] ?_;obtain ⟨x1,hy1,hM⟩:=zC hM;refine wD rfl rfl h hy1 ?_;intro ad1 ccs1 hat1 hrep1;obtain ⟨v01,rfl,h4⟩:=wC hrep1;obtain ⟨p4,c4,rfl⟩:=h4.form;refine xQ 0 hat1 (cArr x1 p4 c4) (vA (cArr x1 p4 c4)) rfl ?_;obtain ⟨y,hy2,hM⟩:=zC hM;refine yQ (zDr x1 _ hy2 h4) ?_;rintro imm0 hs2 v2 k2 le - ⟨v02,rfl,rfl,rfl⟩ -;have h:=h.mono le;have h2:=h2.mono le;have h1:=h1.mono le;have hle:=hle.trans le;exact yA [] [(7,vI (W (base + y)))]<|zF<|yZ<|zS<|yD<|zF<|zB<|yA [] [(8,vI (W (i + 1)))]<|xB<|vG [(0,vS p list c),(2,vS p2 point c2),(4,vP b 0),(7,vI (W (base + y))),(8,vI (W (i + 1)))]<|ih (W (base + y)) (W (i + 1)) _ hM hle h h2 h1 hg ho hx hr
   intro hc1 hM;refine yE<|zF<|zG<|zB<|yA [] [(9,vI 0)]<|zF<|zG<|zG<|zB<|yA [] [(10,vI 0)]<|zF<|yC<|vG [(0,vS p list c),(2,vS p2 point c2),(4,vP b 0),(7,vI base),(8,vI i),(9,vI 0),(10,vI 0)] ?_;obtain ⟨o01,ho01,hMl⟩:=zC hM;refine zBo list a0 point i 0 0 o01 ho01 iR h h2 h1 (fun _ _ _ h=>hg _ _ _ h) (fun _ _ h=>ho _ _ h) ?_ ?_
   · intro imm03 n01 heq1 le3;subst o01;have hle:=hle.trans le3;exact yD<|zF<|zG<|zB<|yA [] [(6,vI (W (base + n01)))]<|zF<|yI<|yF<|zP<|zP<|hr _ _ _ _ (zD hMl).symm hle ⟨_,_,(.tmp rfl ResV.nil),zX,⟨_,rfl,rfl,rfl⟩⟩
   intro r0 imm9 hs9 m9 heq9 le9 hrs9;subst heq9;exact yF<|zP<|yF<|zP<|zP<|hr _ _ _ _ (zD hMl).symm (hle.trans le9) hrs9
 intro hc hM;exact yZ<|zS<|zS<|wB (zL [] rfl (by decide))<|yS []<|hx _  (zD hM).symm hle
def qN (list:(List zJ)) (a0:zN) (point:(List Int)):Option (Int):=do
 match←vM list a0 point 0 0 with
 | .ret r0=>pure r0
 | .done _ =>
  pure (-1)
theorem zAC:∀ (list:(List zJ)) (a0:zN) (point:(List Int)) r,qN list a0 point=some r→∀ {imm:Imm}{p c p1 c1 p2 c2},(S4 imm p list c)→(S4 imm p1 a0.Subs c1)→(S4 imm p2 point c2)→Ret Tryz.prog 69 [vS p list c,vA (cAccess a0 p1 c1),vS p2 point c2] imm [] (kG  r):=by
 intro list a0 point r hM imm p c p1 c1 p2 c2 h h1 h2;unfold qN at hM;refine yH (fn:=Tryz.f69) (c:=(bodyOf Tryz.f69)) Tryz.func69 rfl rfl ?_;rintro B - -;refine zG<|zB<|tA (cAccess a0 p1 c1) ?_;intro b hb;refine yA [] []<|zF<|zG<|zB<|yA [] [(7,vI 0)]<|zF<|zG<|zG<|zB<|yA [] [(8,vI 0)]<|zF<|yC<|vG [(0,vS p list c),(2,vS p2 point c2),(4,vP b 0),(7,vI 0),(8,vI 0)] ?_;obtain ⟨o02,ho02,hMl1⟩:=zC hM;refine zBp list a0 point 0 0 o02 ho02 iR h h2 h1 (fun _ _ _ h=>h) (fun _ _ h=>h) ?_ ?_
 · intro imm04  heq2 le4;subst o02;refine yD<|zF<|zG<|zB<|yA [] [(6,vI (-1))]<|zF<|yI ?_;obtain rfl:=zD hMl1;exact yP ⟨_,_,(.tmp rfl ResV.nil),zX,⟨_,rfl,rfl,rfl⟩⟩
 intro r0 imm9 hs9 m9 heq9 le9 hrs9;subst heq9;refine yF<|zP ?_;obtain rfl:=zD hMl1;exact yP hrs9
def mN (r:(List zN)):KT:=fun kk imm' hs' v=>
  ∃ a0 c0 s0,hs'=[.osl (.slice a0 r.length c0) (Rp.sz zN) s0]∧v=tupV [(.slice a0 r.length c0)]∧RepL (Rp.rep imm') (Rp.sz zN) s0 r
mutual
def uT (out:(List zN)) (e0:zH):Option ((List zN)):=do
 let out1←(do
   if (e0.Kind == 3) then
    let y←vD e0.Read
    let out2←app 40 out ([y]:List zN)
    pure (id out2)
   else
    pure (id out)
     : Option (List zN))
 let out4←xW (same e0) (same out1) (same 0)
 pure (id out4)
 partial_fixpoint
def xW (e0:zH) (out3:List zN) (i:Int):Option (List zN):=do
 if (decide (i < (e0.Kids.length:Int))) then
  let x←idx e0.Kids i
  let y1←uT (same out3) (same x)
  xW (same e0) (same y1) (W (i + 1))
 else
  pure (id out3)
 partial_fixpoint
end
theorem zCd:(∀ (out:(List zN)) (e0:zH) r,uT out e0=some r→∀ {imm:Imm}{p c cs p1 c1 p2 c2 p3 c3},(RL imm cs out)→(S4 imm p1 e0.Index.Coefs c1)→(S4 imm p2 e0.Read.Subs c2)→(S4 imm p3 e0.Kids c3)→Ret Tryz.prog 142 [vS p out c,vA (cExpr e0 p1 c1 p2 c2 p3 c3)] imm [hO zN (vS p out c) cs] (mN  r))∧(∀ (e0:zH) (out3:List zN) (i:Int) o,xW e0 out3 i=some o→∀ {B}{imm0 imm:Imm}{Q p1 c1 p2 c2 p3 c3}{b:Nat}{p7 c7 cs4},imm0.le imm→(S4 imm p1 e0.Index.Coefs c1)→(S4 imm p2 e0.Read.Subs c2)→(S4 imm p3 e0.Kids c3)→(RL imm cs4 out3)→(∀ gl a w,¬Q (.goto gl) a w)→(∀ a w,¬Q .outgrown a w)→(∀ (imm':Imm) (out4:List zN) (p8:Option Addr) (c8:Nat) (cs5:List Value),o=out4→imm0.le imm'→(RL imm' cs5 out4)→T 30 B Q (.exit 0) imm' [hO zN (vS p8 out4 c8) cs5] [(0,vS p8 out4 c8)])→J Tryz.prog 30 B (nav (bodyOf Tryz.f142) [1,1,0,1,0]) Q imm [hB b (cExpr e0 p1 c1 p2 c2 p3 c3),hO zN (vS p7 out3 c7) cs4] [(0,vS p7 out3 c7),(3,vP b 0),(5,vI i)]):=by
  refine uT.mutual_partial_correctness (fun out e0 r=>∀ {imm:Imm}{p c cs p1 c1 p2 c2 p3 c3},(RL imm cs out)→(S4 imm p1 e0.Index.Coefs c1)→(S4 imm p2 e0.Read.Subs c2)→(S4 imm p3 e0.Kids c3)→Ret Tryz.prog 142 [vS p out c,vA (cExpr e0 p1 c1 p2 c2 p3 c3)] imm [hO zN (vS p out c) cs] (mN  r)) (fun e0 out3 i o=>∀ {B}{imm0 imm:Imm}{Q p1 c1 p2 c2 p3 c3}{b:Nat}{p7 c7 cs4},imm0.le imm→(S4 imm p1 e0.Index.Coefs c1)→(S4 imm p2 e0.Read.Subs c2)→(S4 imm p3 e0.Kids c3)→(RL imm cs4 out3)→(∀ gl a w,¬Q (.goto gl) a w)→(∀ a w,¬Q .outgrown a w)→(∀ (imm':Imm) (out4:List zN) (p8:Option Addr) (c8:Nat) (cs5:List Value),o=out4→imm0.le imm'→(RL imm' cs5 out4)→T 30 B Q (.exit 0) imm' [hO zN (vS p8 out4 c8) cs5] [(0,vS p8 out4 c8)])→J Tryz.prog 30 B (nav (bodyOf Tryz.f142) [1,1,0,1,0]) Q imm [hB b (cExpr e0 p1 c1 p2 c2 p3 c3),hO zN (vS p7 out3 c7) cs4] [(0,vS p7 out3 c7),(3,vP b 0),(5,vI i)]) ?_ ?_
  · intro F_spec_l3Reads_l1 ih_spec_l3Reads_l1 out e0 r hM imm p c cs p1 c1 p2 c2 p3 c3 h h1 h2 h3;refine yH (fn:=Tryz.f142) (c:=(bodyOf Tryz.f142)) Tryz.func142 rfl rfl ?_;rintro B - -;have hle:=iS imm;refine zG<|zB<|tA (cExpr e0 p1 c1 p2 c2 p3 c3) ?_;intro b hb;refine yA [] []<|zF<|zG<|zG<|zB<|yA [0] [(8,.bool (e0.Kind == 3))]<|zF ?_;obtain ⟨o0,ho0,hMc⟩:=zC hM;refine yT (fun imm' hs' m'=>∃ (out1:List zN) (p4:Option Addr) (c4:Nat) (cs1:List Value),o0=out1∧imm.le imm'∧(RL imm' cs1 out1)∧hs'=[hB b (cExpr e0 p1 c1 p2 c2 p3 c3),hO zN (vS p4 out1 c4) cs1]∧m'=[(0,vS p4 out1 c4),(3,vP b 0)]) ?_ ?_
    · have hle:=iS imm;refine yO ho0 ?_ ?_
      · intro hc hM;refine zB<|yK 3 [0] [(9,vS p out c),(11,vA (cAccess e0.Read p2 c2))] ?_;obtain ⟨y,hy,hM⟩:=zC hM;refine yQ (nM e0.Read _ hy h2) ?_;rintro imm01 hs2 v2 k2 le - ⟨p5,c5,cs2,rfl,rfl,h5⟩ -;have h:=iM le h;have hle:=hle.trans le;refine yL 0 rfl ?_;intro imm02 le1 hl0;have h6:=SL.of_frozen hl0 le1 h5;have h:=iM le1 h;have hle:=hle.trans le1;refine xV (cAccess y p5 c5) zN ?_;intro b1 hb1;have h7:RL imm02 (cAccess y p5 c5) ([y]:List zN):=⟨(cAccess y p5 c5),_,rfl,rfl,(qR ⟨_,rfl,h6⟩),rfl⟩;obtain ⟨out2,hy1,hM⟩:=zC hM;refine qQ 49 2 2 rfl rfl rfl h (.inr ⟨0,rfl⟩) h7 hy1 ?_;intro p6 c6 cs3 h8;exact rY (zL [1,2] (hs':=[hB b (cExpr e0 p1 c1 p2 c2 p3 c3),hO zN (vS p6 out2 c6) cs3]) rfl (by decide))<|yA [] [(0,vS p6 out2 c6)]<|yS [(0,vS p6 out2 c6),(3,vP b 0)]<|yB ⟨_,_,_,_,(zD hM).symm,hle,h8,rfl,rfl⟩
      intro hc hM;exact yE<|yS [(0,vS p out c),(3,vP b 0)]<|yB ⟨_,_,_,_,(zD hM).symm,hle,h,rfl,rfl⟩
    rintro imm0 hs2 m2 ⟨out1,p4,c4,cs1,heq,le2,h4,rfl,rfl⟩;subst o0;have h1:=h1.mono le2;have h2:=h2.mono le2;have h3:=h3.mono le2;refine zF<|zG<|zG<|zB<|yA [] [(5,vI 0)]<|zF<|yC<|vG [(0,vS p4 out1 c4),(3,vP b 0),(5,vI 0)] ?_;obtain ⟨o01,ho01,hMl⟩:=zC hMc;refine ih_spec_l3Reads_l1 e0 out1 0 o01 ho01 iR h1 h2 h3 h4 (fun _ _ _ h=>h) (fun _ _ h=>h) ?_;intro imm04 out4 p8 c8 cs5 heq1 le4 h10;subst o01;refine yD<|zF<|zG<|zB<|yA [] [(4,vS p8 out4 c8)]<|zF<|yI ?_;obtain rfl:=zD hMl;exact yP ⟨_,_,(.tmp rfl ResV.nil),(zL [0] rfl (by decide)),⟨_,_,_,rfl,rfl,h10⟩⟩
  intro F_spec_l3Reads F_spec_l3Reads_l1 ih_spec_l3Reads ih_spec_l3Reads_l1 e0 out3 i o hM B imm0 imm Q p1 c1 p2 c2 p3 c3 b p7 c7 cs4 hle h1 h2 h3 h9 hg ho hx;refine xA hg ho<|zG<|zG<|zB<|yA [0] [(19,.bool (decide (i < (e0.Kids.length:Int))))]<|zF<|yO hM ?_ ?_
  · intro hc1 hM;refine yE<|zF<|zG<|yC<|zB<|yK 4 [0] [(22,vS p7 out3 c7),(24,vS p3 e0.Kids c3),(25,vI i)] ?_;obtain ⟨x,hy2,hM⟩:=zC hM;refine wD rfl rfl h3 hy2 ?_;intro ad ccs hat hrep;obtain ⟨v0,v01,v02,rfl,h11,h12,h13⟩:=wM hrep;obtain ⟨p9,c9,rfl⟩:=h11.form;obtain ⟨p10,c10,rfl⟩:=h12.form;obtain ⟨p11,c11,rfl⟩:=h13.form;refine xQ 0 hat (cExpr x p9 c9 p10 c10 p11 c11) (vA (cExpr x p9 c9 p10 c10 p11 c11)) rfl<|rY (zL [1,0] (hs':=[hO zN (vS p7 out3 c7) cs4,hB b (cExpr e0 p1 c1 p2 c2 p3 c3)]) rfl (by decide)) ?_;obtain ⟨y1,hy3,hM⟩:=zC hM;refine tV [hO zN (vS p7 out3 c7) cs4] [hB b (cExpr e0 p1 c1 p2 c2 p3 c3)] (ih_spec_l3Reads out3 x _ hy3 h9 h11 h12 h13) ?_;rintro imm03 hs2 v2 k2 le3 - ⟨p12,c12,cs6,rfl,rfl,h14⟩ -;have h1:=h1.mono le3;have h2:=h2.mono le3;have h3:=h3.mono le3;have hle:=hle.trans le3;exact yA [] [(0,vS p12 y1 c12)]<|zY<|zF<|zB<|yA [] [(5,vI (W (i + 1)))]<|xB<|qP (zL [1,0] rfl (by decide))<|vG [(0,vS p12 y1 c12),(3,vP b 0),(5,vI (W (i + 1)))]<|ih_spec_l3Reads_l1 e0 y1 (W (i + 1)) _ hM hle h1 h2 h3 h14 hg ho hx
  intro hc1 hM;exact yZ<|zS<|zS<|wB (zL [1] rfl (by decide))<|yS [(0,vS p7 out3 c7)]<|hx _ _ _ _ _ (zD hM).symm hle h9
theorem zDN:∀ (out:(List zN)) (e0:zH) r,uT out e0=some r→∀ {imm:Imm}{p c cs p1 c1 p2 c2 p3 c3},(RL imm cs out)→(S4 imm p1 e0.Index.Coefs c1)→(S4 imm p2 e0.Read.Subs c2)→(S4 imm p3 e0.Kids c3)→Ret Tryz.prog 142 [vS p out c,vA (cExpr e0 p1 c1 p2 c2 p3 c3)] imm [hO zN (vS p out c) cs] (mN  r):=zCd.1
def gR (r:(List Int)×Int×Bool):KT:=fun kk imm' hs' v=>
  ∃ v0 v1 v2,hs'=[]∧v=tupV [v0,v1,v2]∧SL imm' v0 r.1∧v1=.int .i64 r.2.1∧v2=.bool r.2.2
def vV (list:(List zJ)) (point:(List Int)) (y:(List zN)) (out:List Int) (i:Int):Option (Out (List Int) ((List Int)×Int×Bool)):=do
 if (decide (i < (y.length:Int))) then
  let x←idx y i
  let y1←qN list x point
  if (decide (y1 < 0)) then
   pure (.ret (([]:List Int),0,false))
  else
   let out2←app 8 out ([y1]:List Int)
   vV list point y out2 (W (i + 1))
 else
  pure (.done out)
 partial_fixpoint
theorem zBH (list:(List zJ)) (point:(List Int)) (y:(List zN)):∀ (out:List Int) (i:Int) (o:Out (List Int) ((List Int)×Int×Bool)),vV list point y out i=some o→∀ {B}{imm0 imm:Imm}{Q}{s:zR}{p c p1 c1 p2 c2 p3 c3 p4 c4 p5 c5}{b:Nat}{p6 c6 cs p7 c7 cs1},imm0.le imm→(S4 imm p list c)→(S4 imm p5 point c5)→(RL imm cs y)→(S4 imm p1 s.Write.Subs c1)→(S4 imm p2 s.Value.Index.Coefs c2)→(S4 imm p3 s.Value.Read.Subs c3)→(S4 imm p4 s.Value.Kids c4)→(RL imm cs1 out)→(∀ gl a w,¬Q (.goto gl) a w)→(∀ a w,¬Q .outgrown a w)→(∀ (imm':Imm) (out1:List Int) (p8:Option Addr) (c8:Nat) (cs2:List Value),o=(.done out1)→imm0.le imm'→(RL imm' cs2 out1)→T 49 B Q (.exit 0) imm' [hO Int (vS p8 out1 c8) cs2,hB b (cStmt s p1 c1 p2 c2 p3 c3 p4 c4)] [(0,vS p list c),(2,vS p5 point c5),(4,vP b 0),(9,vS p8 out1 c8)])→(∀ r imm' hs' m',o=(.ret r)→imm0.le imm'→RS Tryz.prog Tryz.f90 B (gR  r) imm' hs' m'→T 49 B Q .ret imm' hs' m')→J Tryz.prog 49 B (nav (bodyOf Tryz.f90) [1,1,1,0,1,0]) Q imm [hO zN (vS p6 y c6) cs,hO Int (vS p7 out c7) cs1,hB b (cStmt s p1 c1 p2 c2 p3 c3 p4 c4)] [(0,vS p list c),(2,vS p5 point c5),(4,vP b 0),(9,vS p7 out c7),(10,vS p6 y c6),(11,vI i)]:=by
 refine vV.partial_correctness list point y _ ?_;intro self ih out i o hM B imm0 imm Q s p c p1 c1 p2 c2 p3 c3 p4 c4 p5 c5 b p6 c6 cs p7 c7 cs1 hle h h5 h8 h1 h2 h3 h4 h9 hg ho hx hr;refine xA hg ho<|zG<|zG<|zB<|yA [] [(22,.bool (decide (i < (y.length:Int))))]<|zF<|yO hM ?_ ?_
 · intro hc hM;refine yE<|zF<|zG<|yC<|zG<|zB<|yK 3 [] [(25,vS p list c),(26,vS p6 y c6),(27,vI i)] ?_;obtain ⟨x,hy1,hM⟩:=zC hM;refine nK 0 rfl rfl rfl h8 hy1 ?_;intro ad ccs hat hcc hrep;obtain ⟨v0,rfl,h11⟩:=sC hrep;obtain ⟨p9,c9,rfl⟩:=h11.form;refine zDH 0 0 hat hcc (cAccess x p9 c9) (vA (cAccess x p9 c9)) rfl rfl<|yK 6 [] [(30,vS p5 point c5)] ?_;obtain ⟨y1,hy2,hM⟩:=zC hM;refine yQ (zAC list x point _ hy2 h h11 h5) ?_;rintro imm01 hs2 v2 k2 le1 - ⟨v01,rfl,rfl,rfl⟩ -;have h:=h.mono le1;have h5:=h5.mono le1;have h9:=iM le1 h9;have h8:=iM le1 h8;have h1:=h1.mono le1;have h2:=h2.mono le1;have h3:=h3.mono le1;have h4:=h4.mono le1;have hle:=hle.trans le1;refine yA [] [(12,vI y1)]<|zF<|zG<|zG<|zB<|yA [] [(33,.bool (decide (y1 < 0)))]<|zF<|yO hM ?_ ?_
   · intro hc1 hM;refine zG<|zB<|xV [] Int ?_;intro b3 hb3;have h13:RL imm01 [] ([]:List Int):=rfl;refine yA [] [(6,vS (some ⟨b3,0,none⟩) ([]:List Int) 0),(7,vI 0),(8,.bool false)]<|zF<|yI<|zP<|yF<|zP<|zP<|xJ 0 rfl ?_;intro imm02 le2 hl0;have h14:=SL.of_frozen hl0 le2 h13;have hle:=hle.trans le2;exact hr _ _ _ _ (zD hM).symm hle ⟨_,_,(.tmp rfl (.tmp rfl (.tmp rfl ResV.nil))),zX,⟨_,_,_,rfl,rfl,h14,rfl,rfl⟩⟩
   intro hc1 hM;refine yE<|zF<|zB<|yK 2 [] [(35,vS p7 out c7),(36,vI y1)]<|xV [vI y1] Int ?_;intro b4 hb4;have h15:RL imm01 [vI y1] ([y1]:List Int):=⟨[vI y1],_,rfl,rfl,rfl,rfl⟩;obtain ⟨out2,hy3,hM⟩:=zC hM;refine qQ 3 1 2 rfl rfl rfl h9 (.inr ⟨0,rfl⟩) h15 hy3 ?_;intro p10 c10 cs3 h16;exact rY (zL [1,2,3] (hs':=[hO zN (vS p6 y c6) cs,hO Int (vS p10 out2 c10) cs3,hB b (cStmt s p1 c1 p2 c2 p3 c3 p4 c4)]) rfl (by decide))<|yA [] [(9,vS p10 out2 c10)]<|zY<|zF<|zB<|yA [] [(11,vI (W (i + 1)))]<|xB<|vG [(0,vS p list c),(2,vS p5 point c5),(4,vP b 0),(9,vS p10 out2 c10),(10,vS p6 y c6),(11,vI (W (i + 1)))]<|ih out2 (W (i + 1)) _ hM hle h h5 h8 h1 h2 h3 h4 h16 hg ho hx hr
 intro hc hM;exact yZ<|zS<|zS<|wB (zL [1,2] rfl (by decide))<|yS [(0,vS p list c),(2,vS p5 point c5),(4,vP b 0),(9,vS p7 out c7)]<|hx _ _ _ _ _ (zD hM).symm hle h9
def pA (list:(List zJ)) (s:zR) (point:(List Int)):Option ((List Int)×Int×Bool):=do
 let y←uT ([]:List zN) s.Value
 match←vV list point y ([]:List Int) 0 with
 | .ret r0=>pure r0
 | .done out1 =>
  let y2←qN list s.Write point
  if (decide (y2 < 0)) then
   pure (([]:List Int),0,false)
  else
   pure (out1,y2,true)
theorem zDO:∀ (list:(List zJ)) (s:zR) (point:(List Int)) r,pA list s point=some r→∀ {imm:Imm}{p c p1 c1 p2 c2 p3 c3 p4 c4 p5 c5},(S4 imm p list c)→(S4 imm p1 s.Write.Subs c1)→(S4 imm p2 s.Value.Index.Coefs c2)→(S4 imm p3 s.Value.Read.Subs c3)→(S4 imm p4 s.Value.Kids c4)→(S4 imm p5 point c5)→Ret Tryz.prog 90 [vS p list c,vA (cStmt s p1 c1 p2 c2 p3 c3 p4 c4),vS p5 point c5] imm [] (gR  r):=by
 intro list s point r hM imm p c p1 c1 p2 c2 p3 c3 p4 c4 p5 c5 h h1 h2 h3 h4 h5;unfold pA at hM;refine yH (fn:=Tryz.f90) (c:=(bodyOf Tryz.f90)) Tryz.func90 rfl rfl ?_;rintro B - -;refine zG<|zB<|tA (cStmt s p1 c1 p2 c2 p3 c3 p4 c4) ?_;intro b hb;refine yA [] []<|zF<|zG<|zB<|xV [] Int ?_;intro b1 hb1;have h6:RL imm [] ([]:List Int):=rfl;refine yA [] [(9,vS (some ⟨b1,0,none⟩) ([]:List Int) 0)]<|zF<|zG<|zB<|xV [] zN ?_;intro b2 hb2;have h7:RL imm [] ([]:List zN):=rfl;refine yK 3 [2] [(17,vA (cExpr s.Value p2 c2 p3 c3 p4 c4))] ?_;obtain ⟨y,hy,hM⟩:=zC hM;refine tV [hO zN (vS (some ⟨b2,0,none⟩) ([]:List zN) 0) []] [hO Int (vS (some ⟨b1,0,none⟩) ([]:List Int) 0) [],hB b (cStmt s p1 c1 p2 c2 p3 c3 p4 c4)] (zDN ([]:List zN) s.Value _ hy h7 h2 h3 h4) ?_;rintro imm0 hs2 v2 k2 le - ⟨p6,c6,cs,rfl,rfl,h8⟩ -;have h:=h.mono le;have h5:=h5.mono le;have h6:=iM le h6;have h1:=h1.mono le;have h2:=h2.mono le;have h3:=h3.mono le;have h4:=h4.mono le;refine yA [] [(10,vS p6 y c6)]<|zF<|zG<|zG<|zB<|yA [] [(11,vI 0)]<|zF<|yC<|vG [(0,vS p list c),(2,vS p5 point c5),(4,vP b 0),(9,vS (some ⟨b1,0,none⟩) ([]:List Int) 0),(10,vS p6 y c6),(11,vI 0)] ?_;obtain ⟨o0,ho0,hMl⟩:=zC hM;refine zBH list point y ([]:List Int) 0 o0 ho0 iR h h5 h8 h1 h2 h3 h4 h6 (fun _ _ _ h=>h) (fun _ _ h=>h) ?_ ?_
 · intro imm03 out1 p8 c8 cs2 heq le3 h10;subst o0;have h:=h.mono le3;have h5:=h5.mono le3;have h1:=h1.mono le3;refine yD<|zF<|zG<|zB<|yK 4 [1] [(39,vS p list c),(41,vA (cAccess s.Write p1 c1)),(42,vS p5 point c5)] ?_;obtain ⟨y2,hy4,hM⟩:=zC hMl;refine yQ (zAC list s.Write point _ hy4 h h1 h5) ?_;rintro imm04 hs2 v2 k2 le4 - ⟨v02,rfl,rfl,rfl⟩ -;have h10:=iM le4 h10;refine yA [] [(13,vI y2)]<|zF<|zG<|zG<|zB<|yA [] [(45,.bool (decide (y2 < 0)))]<|zF<|yO hM ?_ ?_
   · intro hc2 hM;refine zG<|zB<|xV [] Int ?_;intro b5 hb5;have h18:RL imm04 [] ([]:List Int):=rfl;refine yA [] [(6,vS (some ⟨b5,0,none⟩) ([]:List Int) 0),(7,vI 0),(8,.bool false)]<|zF<|yI<|zP<|xJ 0 rfl ?_;intro imm05 le5 hl01;have h19:=SL.of_frozen hl01 le5 h18;obtain rfl:=zD hM;exact yP ⟨_,_,(.tmp rfl (.tmp rfl (.tmp rfl ResV.nil))),zX,⟨_,_,_,rfl,rfl,h19,rfl,rfl⟩⟩
   intro hc2 hM;refine yE<|zF<|zG<|zB<|yA [] [(6,vS p8 out1 c8),(7,vI y2),(8,.bool true)]<|zF<|yI<|xJ 0 rfl ?_;intro imm06 le6 hl02;have h20:=SL.of_frozen hl02 le6 h10;obtain rfl:=zD hM;exact yP ⟨_,_,(.tmp rfl (.tmp rfl (.tmp rfl ResV.nil))),zX,⟨_,_,_,rfl,rfl,h20,rfl,rfl⟩⟩
 intro r0 imm9 hs9 m9 heq9 le9 hrs9;subst heq9;refine yF<|zP ?_;obtain rfl:=zD hMl;exact yP hrs9
def mY (r:Bool):KT:=fun kk imm' hs' v=>
  ∃ v0,hs'=[]∧v=tupV [v0]∧v0=.bool r
def xX (a0:zA) (i:Int):Option (Out Unit (Bool)):=do
 if (decide (i < (a0.Coefs.length:Int))) then
  let x←idx a0.Coefs i
  let y←wQ x 9
  if (!y) then
   pure (.ret false)
  else
   xX a0 (W (i + 1))
 else
  pure (.done ())
 partial_fixpoint
theorem eM (a0:zA):∀ (i:Int) (o:Out Unit (Bool)),xX a0 i=some o→∀ {B}{imm0 imm:Imm}{Q p c}{b:Nat},imm0.le imm→(S4 imm p a0.Coefs c)→(∀ gl a w,¬Q (.goto gl) a w)→(∀ a w,¬Q .outgrown a w)→(∀ (imm':Imm) ,o=(.done ())→imm0.le imm'→T 27 B Q (.exit 0) imm' [hB b (cAff a0 p c)] [(1,vP b 0)])→(∀ r imm' hs' m',o=(.ret r)→imm0.le imm'→RS Tryz.prog Tryz.f130 B (mY  r) imm' hs' m'→T 27 B Q .ret imm' hs' m')→J Tryz.prog 27 B (nav (bodyOf Tryz.f130) [1,0,1,0]) Q imm [hB b (cAff a0 p c)] [(1,vP b 0),(3,vI i)]:=by
 refine xX.partial_correctness a0 _ ?_;intro self ih i o hM B imm0 imm Q p c b hle h hg ho hx hr;refine xA hg ho<|zG<|zG<|zB<|yA [0] [(8,.bool (decide (i < (a0.Coefs.length:Int))))]<|zF<|yO hM ?_ ?_
 · intro hc hM;refine yE<|zF<|zG<|yC<|zG<|zB<|yK 3 [0] [(12,vS p a0.Coefs c),(13,vI i)] ?_;obtain ⟨x,hy,hM⟩:=zC hM;refine wD rfl rfl h hy ?_;intro ad ccs hat hrep;obtain rfl:=hrep;refine xQ 0 hat [vI x] (vI x) rfl ?_;obtain ⟨y,hy1,hM⟩:=zC hM;refine yQ (kF x 9 _ hy1 ) ?_;rintro imm0 hs2 v2 k2 le - ⟨v0,rfl,rfl,rfl⟩ -;have h:=h.mono le;have hle:=hle.trans le;refine yA [] [(17,.bool (!y))]<|zF<|yO hM ?_ ?_
   · intro hc1 hM;exact zG<|zB<|yA [] [(2,.bool false)]<|zF<|yI<|yF<|zP<|zP<|hr _ _ _ _ (zD hM).symm hle ⟨_,_,(.tmp rfl ResV.nil),zX,⟨_,rfl,rfl,rfl⟩⟩
   intro hc1 hM;exact yE<|zY<|zF<|zB<|yA [] [(3,vI (W (i + 1)))]<|xB<|vG [(1,vP b 0),(3,vI (W (i + 1)))]<|ih (W (i + 1)) _ hM hle h hg ho hx hr
 intro hc hM;exact yZ<|zS<|zS<|yS [(1,vP b 0)]<|hx _  (zD hM).symm hle
def wY (a0:zA):Option (Bool):=do
 match←xX a0 0 with
 | .ret r0=>pure r0
 | .done _ =>
  let t2←(do
    if ((a0.Coefs.length:Int) == 4) then
     let y1←wQ a0.Const 99
     pure (id y1)
    else
     pure false
      : Option Bool)
  pure (id t2)
theorem oG:∀ (a0:zA) r,wY a0=some r→∀ {imm:Imm}{p c},(S4 imm p a0.Coefs c)→Ret Tryz.prog 130 [vA (cAff a0 p c)] imm [] (mY  r):=by
 intro a0 r hM imm p c h;unfold wY at hM;refine yH (fn:=Tryz.f130) (c:=(bodyOf Tryz.f130)) Tryz.func130 rfl rfl ?_;rintro B - -;have hle:=iS imm;refine zG<|zB<|tA (cAff a0 p c) ?_;intro b hb;refine yA [] []<|zF<|zG<|zG<|zB<|yA [] [(3,vI 0)]<|zF<|yC<|vG [(1,vP b 0),(3,vI 0)] ?_;obtain ⟨o0,ho0,hMl⟩:=zC hM;refine eM a0 0 o0 ho0 iR h (fun _ _ _ h=>h) (fun _ _ h=>h) ?_ ?_
 · intro imm01  heq le1;subst o0;have hle:=hle.trans le1;refine yD<|zF<|zG ?_;obtain ⟨o01,ho01,hMc⟩:=zC hMl;refine yT (fun imm' hs' m'=>∃ (t2:Bool),o01=t2∧imm01.le imm'∧hs'=[]∧m'=[(2,.bool t2)]) ?_ ?_
   · have hle:=iS imm01;refine zB<|yK 5 [0] [(22,.bool ((a0.Coefs.length:Int) == 4))] ?_;cases hc2:((a0.Coefs.length:Int) == 4) with
     | true =>
      have hM0:=zV hc2 ho01
      try rw [hc2]
      refine yK 7 [0] [(24,vI a0.Const)] ?_;obtain ⟨y1,hy2,hM⟩:=zC hM0;refine yQ (kF a0.Const 99 _ hy2 ) ?_;rintro imm03 hs2 v2 k2 le2 - ⟨v01,rfl,rfl,rfl⟩ -;have hle:=hle.trans le2;exact yA [] [(2,.bool y1)]<|wB (zL [] rfl (by decide))<|yS [(2,.bool y1)]<|yB ⟨_,(zD hM).symm,hle,rfl,rfl⟩
     | false =>
      have hM01:=zT hc2 ho01
      try rw [hc2]
      exact yA [] [(2,.bool false)]<|wB (zL [] rfl (by decide))<|yS [(2,.bool false)]<|yB ⟨_,(zD hM01).symm,hle,rfl,rfl⟩
   rintro imm02 hs2 m2 ⟨t2,heq1,le3,rfl,rfl⟩;subst o01;refine zF<|yI ?_;obtain rfl:=zD hMc;exact yP ⟨_,_,(.tmp rfl ResV.nil),zX,⟨_,rfl,rfl,rfl⟩⟩
 intro r0 imm9 hs9 m9 heq9 le9 hrs9;subst heq9;refine yF<|zP ?_;obtain rfl:=zD hMl;exact yP hrs9
def zBq (r:Int):KT:=fun kk imm' hs' v=>
  ∃ v0,hs'=[]∧v=tupV [v0]∧v0=.int .i64 r
def vW (a0:zA) (n0:Int) (i:Int):Option (Int):=do
 if (decide (i < (a0.Coefs.length:Int))) then
  let x←idx a0.Coefs i
  let n02←(do
    if (x != 0) then
     pure (W (i + 1))
    else
     pure (id n0)
      : Option Int)
  vW a0 n02 (W (i + 1))
 else
  pure (id n0)
 partial_fixpoint
theorem zBI (a0:zA):∀ (n0:Int) (i:Int) (o:Int),vW a0 n0 i=some o→∀ {B}{imm0 imm:Imm}{Q p c}{b:Nat},imm0.le imm→(S4 imm p a0.Coefs c)→(∀ gl a w,¬Q (.goto gl) a w)→(∀ a w,¬Q .outgrown a w)→(∀ (imm':Imm) (n01:Int),o=n01→imm0.le imm'→T 21 B Q (.exit 0) imm' [] [(3,vI n01)])→J Tryz.prog 21 B (nav (bodyOf Tryz.f131) [1,1,0,1,0]) Q imm [hB b (cAff a0 p c)] [(1,vP b 0),(3,vI n0),(4,vI i)]:=by
 refine vW.partial_correctness a0 _ ?_;intro self ih n0 i o hM B imm0 imm Q p c b hle h hg ho hx;refine xA hg ho<|zG<|zG<|zB<|yA [0] [(9,.bool (decide (i < (a0.Coefs.length:Int))))]<|zF<|yO hM ?_ ?_
 · intro hc hM;refine yE<|zF<|zG<|yC<|zG<|zB<|yK 3 [0] [(13,vS p a0.Coefs c),(14,vI i)] ?_;obtain ⟨x,hy,hM⟩:=zC hM;refine wD rfl rfl h hy ?_;intro ad ccs hat hrep;obtain rfl:=hrep;refine xQ 0 hat [vI x] (vI x) rfl<|yA [] [(17,.bool (x != 0))]<|zF ?_;obtain ⟨o0,ho0,hMc⟩:=zC hM;refine yT (fun imm' hs' m'=>∃ (n02:Int),o0=n02∧imm.le imm'∧hs'=[hB b (cAff a0 p c)]∧m'=[(1,vP b 0),(3,vI n02),(4,vI i)]) ?_ ?_
   · have hle:=iS imm;refine yO ho0 ?_ ?_
     · intro hc1 hM;exact zB<|yA [] [(3,vI (W (i + 1)))]<|yS [(1,vP b 0),(3,vI (W (i + 1))),(4,vI i)]<|yB ⟨_,(zD hM).symm,hle,rfl,rfl⟩
     intro hc1 hM;exact yE<|yS [(1,vP b 0),(3,vI n0),(4,vI i)]<|yB ⟨_,(zD hM).symm,hle,rfl,rfl⟩
   rintro imm0 hs2 m2 ⟨n02,heq,le,rfl,rfl⟩;subst o0;have h:=h.mono le;have hle:=hle.trans le;exact zY<|zF<|zB<|yA [] [(4,vI (W (i + 1)))]<|xB<|vG [(1,vP b 0),(3,vI n02),(4,vI (W (i + 1)))]<|ih n02 (W (i + 1)) _ hMc hle h hg ho hx
 intro hc hM;exact yZ<|zS<|zS<|wB (zL [] rfl (by decide))<|yS [(3,vI n0)]<|hx _ _ (zD hM).symm hle
def sM (a0:zA):Option (Int):=do
 let n01←vW a0 0 0
 pure (id n01)
theorem kU:∀ (a0:zA) r,sM a0=some r→∀ {imm:Imm}{p c},(S4 imm p a0.Coefs c)→Ret Tryz.prog 131 [vA (cAff a0 p c)] imm [] (zBq  r):=by
 intro a0 r hM imm p c h;unfold sM at hM;refine yH (fn:=Tryz.f131) (c:=(bodyOf Tryz.f131)) Tryz.func131 rfl rfl ?_;rintro B - -;refine zG<|zB<|tA (cAff a0 p c) ?_;intro b hb;refine yA [] []<|zF<|zG<|zB<|yA [] [(3,vI 0)]<|zF<|zG<|zG<|zB<|yA [] [(4,vI 0)]<|zF<|yC<|vG [(1,vP b 0),(3,vI 0),(4,vI 0)] ?_;obtain ⟨o01,ho01,hMl⟩:=zC hM;refine zBI a0 0 0 o01 ho01 iR h (fun _ _ _ h=>h) (fun _ _ h=>h) ?_;intro imm01 n01 heq1 le1;subst o01;refine yD<|zF<|zG<|zB<|yA [] [(2,vI n01)]<|zF<|yI ?_;obtain rfl:=zD hMl;exact yP ⟨_,_,(.tmp rfl ResV.nil),zX,⟨_,rfl,rfl,rfl⟩⟩
def jP (r:Bool):KT:=fun kk imm' hs' v=>
  ∃ v0,hs'=[]∧v=tupV [v0]∧v0=.bool r
def wZ (a0:zN) (depth:Int) (i:Int):Option (Out Unit (Bool)):=do
 if (decide (i < (a0.Subs.length:Int))) then
  let t29←(do
    let x←idx a0.Subs i
    let y←wY x
    if (!y) then
     pure true
    else
     let x1←idx a0.Subs i
     let y1←sM x1
     pure (decide (y1 > depth))
      : Option Bool)
  if t29 then
   pure (.ret false)
  else
   wZ a0 depth (W (i + 1))
 else
  pure (.done ())
 partial_fixpoint
theorem zAd (a0:zN) (depth:Int):∀ (i:Int) (o:Out Unit (Bool)),wZ a0 depth i=some o→∀ {B}{imm0 imm:Imm}{Q p c}{b:Nat},imm0.le imm→(S4 imm p a0.Subs c)→(∀ gl a w,¬Q (.goto gl) a w)→(∀ a w,¬Q .outgrown a w)→(∀ (imm':Imm) ,o=(.done ())→imm0.le imm'→T 56 B Q (.exit 0) imm' [hB b (cAccess a0 p c)] [(2,vP b 0)])→(∀ r imm' hs' m',o=(.ret r)→imm0.le imm'→RS Tryz.prog Tryz.f67 B (jP  r) imm' hs' m'→T 56 B Q .ret imm' hs' m')→J Tryz.prog 56 B (nav (bodyOf Tryz.f67) [1,0,1,0]) Q imm [hB b (cAccess a0 p c)] [(1,vI depth),(2,vP b 0),(5,vI i)]:=by
 refine wZ.partial_correctness a0 depth _ ?_;intro self ih i o hM B imm0 imm Q p c b hle h hg ho hx hr;refine xA hg ho<|zG<|zG<|zB<|yA [0] [(10,.bool (decide (i < (a0.Subs.length:Int))))]<|zF<|yO hM ?_ ?_
 · intro hc hM;refine yE<|zF<|zG<|yC<|zG ?_;obtain ⟨o0,ho0,hMc⟩:=zC hM;refine yT (fun imm' hs' m'=>∃ (t29:Bool),o0=t29∧imm.le imm'∧hs'=[hB b (cAccess a0 p c)]∧m'=[(1,vI depth),(2,vP b 0),(5,vI i),(29,.bool t29)]) ?_ ?_
   · have hle:=iS imm;refine zB<|yK 3 [0] [(14,vS p a0.Subs c),(15,vI i)] ?_;obtain ⟨x,hy,hM⟩:=zC ho0;refine wD rfl rfl h hy ?_;intro ad ccs hat hrep;obtain ⟨v0,rfl,h1⟩:=yM hrep;obtain ⟨p1,c1,rfl⟩:=h1.form;refine xQ 0 hat (cAff x p1 c1) (vA (cAff x p1 c1)) rfl ?_;obtain ⟨y,hy1,hM⟩:=zC hM;refine yQ (oG x _ hy1 h1) ?_;rintro imm01 hs2 v2 k2 le - ⟨v01,rfl,rfl,rfl⟩ -;have h:=h.mono le;have hle:=hle.trans le;refine yK 8 [] [(20,.bool (!y))] ?_;cases hc1:(!y) with
     | true =>
      have hM0:=zV hc1 hM
      try rw [hc1]
      exact yA [] [(29,.bool true)]<|yS [(1,vI depth),(2,vP b 0),(5,vI i),(29,.bool true)]<|yB ⟨_,(zD hM0).symm,hle,rfl,rfl⟩
     | false =>
      have hM01:=zT hc1 hM
      try rw [hc1]
      refine yK 11 [0] [(22,vS p a0.Subs c),(23,vI i)] ?_;obtain ⟨x1,hy2,hM⟩:=zC hM01;refine wD rfl rfl h hy2 ?_;intro ad1 ccs1 hat1 hrep1;obtain ⟨v02,rfl,h3⟩:=yM hrep1;obtain ⟨p2,c2,rfl⟩:=h3.form;refine xQ 0 hat1 (cAff x1 p2 c2) (vA (cAff x1 p2 c2)) rfl ?_;obtain ⟨y1,hy3,hM⟩:=zC hM;refine yQ (kU x1 _ hy3 h3) ?_;rintro imm02 hs2 v2 k2 le1 - ⟨v03,rfl,rfl,rfl⟩ -;have hle:=hle.trans le1;exact yA [] [(29,.bool (decide (y1 > depth)))]<|yS [(1,vI depth),(2,vP b 0),(5,vI i),(29,.bool (decide (y1 > depth)))]<|yB ⟨_,(zD hM).symm,hle,rfl,rfl⟩
   rintro imm0 hs2 m2 ⟨t29,heq,le2,rfl,rfl⟩;subst o0;have h:=h.mono le2;have hle:=hle.trans le2;refine zF<|yO hMc ?_ ?_
   · intro hc2 hM;exact zG<|zB<|yA [] [(4,.bool false)]<|zF<|yI<|yF<|zP<|zP<|hr _ _ _ _ (zD hM).symm hle ⟨_,_,(.tmp rfl ResV.nil),zX,⟨_,rfl,rfl,rfl⟩⟩
   intro hc2 hM;exact yE<|zY<|zF<|zB<|yA [] [(5,vI (W (i + 1)))]<|xB<|vG [(1,vI depth),(2,vP b 0),(5,vI (W (i + 1)))]<|ih (W (i + 1)) _ hM hle h hg ho hx hr
 intro hc hM;exact yZ<|zS<|zS<|yS [(2,vP b 0)]<|hx _  (zD hM).symm hle
def sY (a0:zN) (depth:Int):Option (Bool):=do
 match←wZ a0 depth 0 with
 | .ret r0=>pure r0
 | .done _ =>
  let t4←(do
    if ((a0.Array.l.length:Int) == 1) then
     if (!(Op.bytesLess a0.Array.l ([65]:List UInt8))) then
      if (Op.bytesLess a0.Array.l ([68]:List UInt8) || a0.Array.l == ([68]:List UInt8)) then
       if (decide ((a0.Subs.length:Int) ≥ 1)) then
        pure (decide ((a0.Subs.length:Int) ≤ 2))
       else
        pure false
      else
       pure false
     else
      pure false
    else
     pure false
      : Option Bool)
  pure (id t4)
theorem fL:∀ (a0:zN) (depth:Int) r,sY a0 depth=some r→∀ {imm:Imm}{p c},(S4 imm p a0.Subs c)→Ret Tryz.prog 67 [vA (cAccess a0 p c),vI depth] imm [] (jP  r):=by
 intro a0 depth r hM imm p c h;unfold sY at hM;refine yH (fn:=Tryz.f67) (c:=(bodyOf Tryz.f67)) Tryz.func67 rfl rfl ?_;rintro B - -;have hle:=iS imm;refine zG<|zB<|tA (cAccess a0 p c) ?_;intro b hb;refine yA [] []<|zF<|zG<|zG<|zB<|yA [] [(5,vI 0)]<|zF<|yC<|vG [(1,vI depth),(2,vP b 0),(5,vI 0)] ?_;obtain ⟨o01,ho01,hMl⟩:=zC hM;refine zAd a0 depth 0 o01 ho01 iR h (fun _ _ _ h=>h) (fun _ _ h=>h) ?_ ?_
 · intro imm03  heq1 le3;subst o01;have hle:=hle.trans le3;refine yD<|zF<|zG ?_;obtain ⟨o02,ho02,hMc1⟩:=zC hMl;refine yT (fun imm' hs' m'=>∃ (t4:Bool),o02=t4∧imm03.le imm'∧hs'=[]∧m'=[(4,.bool t4)]) ?_ ?_
   · have hle:=iS imm03;refine zB<|yK 5 [0] [(34,.bool ((a0.Array.l.length:Int) == 1))] ?_;cases hc3:((a0.Array.l.length:Int) == 1) with
     | true =>
      have hM02:=zV hc3 ho02
      try rw [hc3]
      refine yK 10 [0] [(39,.bool (!(Op.bytesLess a0.Array.l ([65]:List UInt8))))] ?_;cases hc4:(!(Op.bytesLess a0.Array.l ([65]:List UInt8))) with
      | true =>
       have hM03:=zV hc4 hM02
       try rw [hc4]
       refine yK 15 [0] [(44,.bool (Op.bytesLess a0.Array.l ([68]:List UInt8) || a0.Array.l == ([68]:List UInt8)))] ?_;cases hc5:(Op.bytesLess a0.Array.l ([68]:List UInt8) || a0.Array.l == ([68]:List UInt8)) with
       | true =>
        have hM04:=zV hc5 hM03
        try rw [hc5]
        refine yK 21 [0] [(50,.bool (decide ((a0.Subs.length:Int) ≥ 1)))] ?_;cases hc6:(decide ((a0.Subs.length:Int) ≥ 1)) with
        | true =>
         have hM05:=zV hc6 hM04
         try rw [hc6]
         exact yA [0] [(4,.bool (decide ((a0.Subs.length:Int) ≤ 2)))]<|wB (zL [] rfl (by decide))<|yS [(4,.bool (decide ((a0.Subs.length:Int) ≤ 2)))]<|yB ⟨_,(zD hM05).symm,hle,rfl,rfl⟩
        | false =>
         have hM06:=zT hc6 hM04
         try rw [hc6]
         exact yA [] [(4,.bool false)]<|wB (zL [] rfl (by decide))<|yS [(4,.bool false)]<|yB ⟨_,(zD hM06).symm,hle,rfl,rfl⟩
       | false =>
        have hM07:=zT hc5 hM03
        try rw [hc5]
        exact yA [] [(4,.bool false)]<|wB (zL [] rfl (by decide))<|yS [(4,.bool false)]<|yB ⟨_,(zD hM07).symm,hle,rfl,rfl⟩
      | false =>
       have hM08:=zT hc4 hM02
       try rw [hc4]
       exact yA [] [(4,.bool false)]<|wB (zL [] rfl (by decide))<|yS [(4,.bool false)]<|yB ⟨_,(zD hM08).symm,hle,rfl,rfl⟩
     | false =>
      have hM09:=zT hc3 ho02
      try rw [hc3]
      exact yA [] [(4,.bool false)]<|wB (zL [] rfl (by decide))<|yS [(4,.bool false)]<|yB ⟨_,(zD hM09).symm,hle,rfl,rfl⟩
   rintro imm04 hs2 m2 ⟨t4,heq2,le4,rfl,rfl⟩;subst o02;refine zF<|yI ?_;obtain rfl:=zD hMc1;exact yP ⟨_,_,(.tmp rfl ResV.nil),zX,⟨_,rfl,rfl,rfl⟩⟩
 intro r0 imm9 hs9 m9 heq9 le9 hrs9;subst heq9;refine yF<|zP ?_;obtain rfl:=zD hMl;exact yP hrs9
def zCe (r:Int):KT:=fun kk imm' hs' v=>
  ∃ v0,hs'=[]∧v=tupV [v0]∧v0=.int .i64 r
def pZ (kind:Int):Option (Int):=do
 let t4←(do
   if (kind == 1) then
    pure (kind == 1)
   else
    let t41←(do
      if (kind == 2) then
       pure (kind == 2)
      else
       pure (kind == 3)
        : Option Bool)
    pure (id t41)
     : Option Bool)
 if t4 then
  pure (id 0)
 else
  let t8←(do
    if (kind == 4) then
     pure (kind == 4)
    else
     let t81←(do
       if (kind == 5) then
        pure (kind == 5)
       else
        pure (kind == 6)
         : Option Bool)
     pure (id t81)
      : Option Bool)
  if t8 then
   pure (id 2)
  else
   pure (-1)
theorem zAD:∀ (kind:Int) r,pZ kind=some r→∀ {imm:Imm} ,Ret Tryz.prog 180 [vI kind] imm [] (zCe  r):=by
 intro kind r hM imm;unfold pZ at hM;refine yH (fn:=Tryz.f180) (c:=(bodyOf Tryz.f180)) Tryz.func180 rfl rfl ?_;rintro B - -;have hle:=iS imm;refine zG<|zB<|yA [] []<|zF<|zG<|zG<|zB<|yA [] [(3,vI kind)]<|zF<|yC<|zG<|zG<|zB<|yA [] [(4,.bool (kind == 1))]<|zF ?_;obtain ⟨o0,ho0,hMc⟩:=zC hM;refine yT (fun imm' hs' m'=>∃ (t4:Bool),o0=t4∧imm.le imm'∧hs'=[]∧m'=[(3,vI kind),(4,.bool t4)]) ?_ ?_
 · have hle:=iS imm;refine yO ho0 ?_ ?_
   · intro hc hM;exact yE<|yS [(3,vI kind),(4,.bool (kind == 1))]<|yB ⟨_,(zD hM).symm,hle,rfl,rfl⟩
   intro hc hM;refine zG<|zB<|yA [] [(4,.bool (kind == 2))]<|zF ?_;obtain ⟨o01,ho01,hMc1⟩:=zC hM;refine yT (fun imm' hs' m'=>∃ (t41:Bool),o01=t41∧imm.le imm'∧hs'=[]∧m'=[(3,vI kind),(4,.bool t41)]) ?_ ?_
   · have hle:=iS imm;refine yO ho01 ?_ ?_
     · intro hc1 hM;exact yE<|yS [(3,vI kind),(4,.bool (kind == 2))]<|yB ⟨_,(zD hM).symm,hle,rfl,rfl⟩
     intro hc1 hM;exact zB<|yA [] [(4,.bool (kind == 3))]<|yS [(3,vI kind),(4,.bool (kind == 3))]<|yB ⟨_,(zD hM).symm,hle,rfl,rfl⟩
   rintro imm01 hs2 m2 ⟨t41,heq,le,rfl,rfl⟩;subst o01;have hle:=hle.trans le;exact yS [(3,vI kind),(4,.bool t41)]<|yB ⟨_,(zD hMc1).symm,hle,rfl,rfl⟩
 rintro imm0 hs2 m2 ⟨t4,heq1,le1,rfl,rfl⟩;subst o0;have hle:=hle.trans le1;refine zF<|yO hMc ?_ ?_
 · intro hc2 hM;refine zG<|zB<|yA [] [(2,vI 0)]<|zF<|yI<|yF<|zP ?_;obtain rfl:=zD hM;exact yP ⟨_,_,(.tmp rfl ResV.nil),zX,⟨_,rfl,rfl,rfl⟩⟩
 intro hc2 hM;refine zG<|zG<|zB<|yA [] [(8,.bool (kind == 4))]<|zF ?_;obtain ⟨o02,ho02,hMc2⟩:=zC hM;refine yT (fun imm' hs' m'=>∃ (t8:Bool),o02=t8∧imm0.le imm'∧hs'=[]∧m'=[(8,.bool t8)]) ?_ ?_
 · have hle:=iS imm0;refine yO ho02 ?_ ?_
   · intro hc3 hM;exact yE<|yS [(8,.bool (kind == 4))]<|yB ⟨_,(zD hM).symm,hle,rfl,rfl⟩
   intro hc3 hM;refine zG<|zB<|yA [] [(8,.bool (kind == 5))]<|zF ?_;obtain ⟨o03,ho03,hMc3⟩:=zC hM;refine yT (fun imm' hs' m'=>∃ (t81:Bool),o03=t81∧imm0.le imm'∧hs'=[]∧m'=[(8,.bool t81)]) ?_ ?_
   · have hle:=iS imm0;refine yO ho03 ?_ ?_
     · intro hc4 hM;exact yE<|yS [(8,.bool (kind == 5))]<|yB ⟨_,(zD hM).symm,hle,rfl,rfl⟩
     intro hc4 hM;exact zB<|yA [] [(8,.bool (kind == 6))]<|yS [(8,.bool (kind == 6))]<|yB ⟨_,(zD hM).symm,hle,rfl,rfl⟩
   rintro imm03 hs2 m2 ⟨t81,heq2,le2,rfl,rfl⟩;subst o03;have hle:=hle.trans le2;exact yS [(8,.bool t81)]<|yB ⟨_,(zD hMc3).symm,hle,rfl,rfl⟩
 rintro imm02 hs2 m2 ⟨t8,heq3,le3,rfl,rfl⟩;subst o02;refine zF<|yO hMc2 ?_ ?_
 · intro hc5 hM;refine zG<|zB<|yA [] [(2,vI 2)]<|zF<|yI<|yF<|zP ?_;obtain rfl:=zD hM;exact yP ⟨_,_,(.tmp rfl ResV.nil),zX,⟨_,rfl,rfl,rfl⟩⟩
 intro hc5 hM;refine yE<|zY<|zF<|zG<|zB<|yA [] [(2,vI (-1))]<|zF<|yI ?_;obtain rfl:=zD hM;exact yP ⟨_,_,(.tmp rfl ResV.nil),zX,⟨_,rfl,rfl,rfl⟩⟩
def zBr (r:Bool):KT:=fun kk imm' hs' v=>
  ∃ v0,hs'=[]∧v=tupV [v0]∧v0=.bool r
def sN (a0:zN):Option (Bool):=do
 let t2←(do
   if (a0.Array.l == ([]:List UInt8)) then
    pure ((a0.Subs.length:Int) == 0)
   else
    pure false
     : Option Bool)
 pure (id t2)
theorem kV:∀ (a0:zN) r,sN a0=some r→∀ {imm:Imm}{p c},(S4 imm p a0.Subs c)→Ret Tryz.prog 203 [vA (cAccess a0 p c)] imm [] (zBr  r):=by
 intro a0 r hM imm p c h;unfold sN at hM;refine yH (fn:=Tryz.f203) (c:=(bodyOf Tryz.f203)) Tryz.func203 rfl rfl ?_;rintro B - -;have hle:=iS imm;refine zG<|zB<|tA (cAccess a0 p c) ?_;intro b hb;refine yA [] []<|zF<|zG ?_;obtain ⟨o0,ho0,hMc⟩:=zC hM;refine yT (fun imm' hs' m'=>∃ (t2:Bool),o0=t2∧imm.le imm'∧hs'=[]∧m'=[(2,.bool t2)]) ?_ ?_
 · have hle:=iS imm;refine zB<|yK 4 [0] [(6,.bool (a0.Array.l == ([]:List UInt8)))] ?_;cases hc:(a0.Array.l == ([]:List UInt8)) with
   | true =>
    have hM0:=zV hc ho0
    try rw [hc]
    exact yA [0] [(2,.bool ((a0.Subs.length:Int) == 0))]<|wB (zL [] rfl (by decide))<|yS [(2,.bool ((a0.Subs.length:Int) == 0))]<|yB ⟨_,(zD hM0).symm,hle,rfl,rfl⟩
   | false =>
    have hM01:=zT hc ho0
    try rw [hc]
    exact yA [] [(2,.bool false)]<|wB (zL [] rfl (by decide))<|yS [(2,.bool false)]<|yB ⟨_,(zD hM01).symm,hle,rfl,rfl⟩
 rintro imm0 hs2 m2 ⟨t2,heq,le,rfl,rfl⟩;subst o0;refine zF<|yI ?_;obtain rfl:=zD hMc;exact yP ⟨_,_,(.tmp rfl ResV.nil),zX,⟨_,rfl,rfl,rfl⟩⟩
def zCf (r:Bool):KT:=fun kk imm' hs' v=>
  ∃ v0,hs'=[]∧v=tupV [v0]∧v0=.bool r
def rU (a0:zA):Option (Bool):=do
 let t2←(do
   if ((a0.Coefs.length:Int) == 0) then
    pure (a0.Const == 0)
   else
    pure false
     : Option Bool)
 pure (id t2)
theorem jQ:∀ (a0:zA) r,rU a0=some r→∀ {imm:Imm}{p c},(S4 imm p a0.Coefs c)→Ret Tryz.prog 204 [vA (cAff a0 p c)] imm [] (zCf  r):=by
 intro a0 r hM imm p c h;unfold rU at hM;refine yH (fn:=Tryz.f204) (c:=(bodyOf Tryz.f204)) Tryz.func204 rfl rfl ?_;rintro B - -;have hle:=iS imm;refine zG<|zB<|tA (cAff a0 p c) ?_;intro b hb;refine yA [] []<|zF<|zG ?_;obtain ⟨o0,ho0,hMc⟩:=zC hM;refine yT (fun imm' hs' m'=>∃ (t2:Bool),o0=t2∧imm.le imm'∧hs'=[]∧m'=[(2,.bool t2)]) ?_ ?_
 · have hle:=iS imm;refine zB<|yK 5 [0] [(7,.bool ((a0.Coefs.length:Int) == 0))] ?_;cases hc:((a0.Coefs.length:Int) == 0) with
   | true =>
    have hM0:=zV hc ho0
    try rw [hc]
    exact yA [0] [(2,.bool (a0.Const == 0))]<|wB (zL [] rfl (by decide))<|yS [(2,.bool (a0.Const == 0))]<|yB ⟨_,(zD hM0).symm,hle,rfl,rfl⟩
   | false =>
    have hM01:=zT hc ho0
    try rw [hc]
    exact yA [] [(2,.bool false)]<|wB (zL [] rfl (by decide))<|yS [(2,.bool false)]<|yB ⟨_,(zD hM01).symm,hle,rfl,rfl⟩
 rintro imm0 hs2 m2 ⟨t2,heq,le,rfl,rfl⟩;subst o0;refine zF<|yI ?_;obtain rfl:=zD hMc;exact yP ⟨_,_,(.tmp rfl ResV.nil),zX,⟨_,rfl,rfl,rfl⟩⟩
def zDP (r:Bool):KT:=fun kk imm' hs' v=>
  ∃ v0,hs'=[]∧v=tupV [v0]∧v0=.bool r
def oU (e0:zH) (depth:Int):Option (Bool):=do
 if (e0.Kind == 2) then
  let t4←(do
    if (e0.Num == 0) then
     let y←sN e0.Read
     if y then
      let y1←wY e0.Index
      if y1 then
       let y2←sM e0.Index
       pure (decide (y2 ≤ depth))
      else
       pure false
     else
      pure false
    else
     pure false
      : Option Bool)
  pure (id t4)
 else
  if (e0.Kind == 3) then
   let t41←(do
     if (e0.Num == 0) then
      let y3←rU e0.Index
      if y3 then
       let y4←sY e0.Read depth
       pure (id y4)
      else
       pure false
     else
      pure false
       : Option Bool)
   pure (id t41)
  else
   if (e0.Kind == 1) then
    let t42←(do
      if (decide (e0.Num ≥ 0)) then
       if (decide (e0.Num ≤ 99)) then
        let y5←rU e0.Index
        if y5 then
         let y6←sN e0.Read
         pure (id y6)
        else
         pure false
       else
        pure false
      else
       pure false
        : Option Bool)
    pure (id t42)
   else
    let t43←(do
      if (e0.Num == 0) then
       let y7←rU e0.Index
       if y7 then
        let y8←sN e0.Read
        pure (id y8)
       else
        pure false
      else
       pure false
        : Option Bool)
    pure (id t43)
theorem zE4:∀ (e0:zH) (depth:Int) r,oU e0 depth=some r→∀ {imm:Imm}{p c p1 c1 p2 c2},(S4 imm p e0.Index.Coefs c)→(S4 imm p1 e0.Read.Subs c1)→(S4 imm p2 e0.Kids c2)→Ret Tryz.prog 181 [vA (cExpr e0 p c p1 c1 p2 c2),vI depth] imm [] (zDP  r):=by
 intro e0 depth r hM imm p c p1 c1 p2 c2 h h1 h2;unfold oU at hM;refine yH (fn:=Tryz.f181) (c:=(bodyOf Tryz.f181)) Tryz.func181 rfl rfl ?_;rintro B - -;have hle:=iS imm;refine zG<|zB<|tA (cExpr e0 p c p1 c1 p2 c2) ?_;intro b hb;refine yA [] []<|zF<|zG<|zG<|zB<|yA [0] [(7,.bool (e0.Kind == 2))]<|zF<|yO hM ?_ ?_
 · intro hc hM;refine zG ?_;obtain ⟨o0,ho0,hMc⟩:=zC hM;refine yT (fun imm' hs' m'=>∃ (t4:Bool),o0=t4∧imm.le imm'∧hs'=[]∧m'=[(4,.bool t4)]) ?_ ?_
   · have hle:=iS imm;refine zB<|yK 4 [0] [(11,.bool (e0.Num == 0))] ?_;cases hc1:(e0.Num == 0) with
     | true =>
      have hM0:=zV hc1 ho0
      try rw [hc1]
      refine yK 6 [0] [(13,vA (cAccess e0.Read p1 c1))] ?_;obtain ⟨y,hy,hM⟩:=zC hM0;refine yQ (kV e0.Read _ hy h1) ?_;rintro imm01 hs2 v2 k2 le - ⟨v0,rfl,rfl,rfl⟩ -;have h:=h.mono le;have hle:=hle.trans le;refine yK 9 [] [(16,.bool y)] ?_;cases hc2:y with
      | true =>
       have hM01:=zV hc2 hM
       try rw [hc2]
       refine yK 11 [0] [(18,vA (cAff e0.Index p c))] ?_;obtain ⟨y1,hy1,hM⟩:=zC hM01;refine yQ (oG e0.Index _ hy1 h) ?_;rintro imm02 hs2 v2 k2 le1 - ⟨v01,rfl,rfl,rfl⟩ -;have h:=h.mono le1;have hle:=hle.trans le1;refine yK 14 [] [(21,.bool y1)] ?_;cases hc3:y1 with
       | true =>
        have hM02:=zV hc3 hM
        try rw [hc3]
        refine yK 16 [0] [(23,vA (cAff e0.Index p c))] ?_;obtain ⟨y2,hy2,hM⟩:=zC hM02;refine yQ (kU e0.Index _ hy2 h) ?_;rintro imm03 hs2 v2 k2 le2 - ⟨v02,rfl,rfl,rfl⟩ -;have hle:=hle.trans le2;exact yA [] [(4,.bool (decide (y2 ≤ depth)))]<|wB (zL [] rfl (by decide))<|yS [(4,.bool (decide (y2 ≤ depth)))]<|yB ⟨_,(zD hM).symm,hle,rfl,rfl⟩
       | false =>
        have hM03:=zT hc3 hM
        try rw [hc3]
        exact yA [] [(4,.bool false)]<|wB (zL [] rfl (by decide))<|yS [(4,.bool false)]<|yB ⟨_,(zD hM03).symm,hle,rfl,rfl⟩
      | false =>
       have hM04:=zT hc2 hM
       try rw [hc2]
       exact yA [] [(4,.bool false)]<|wB (zL [] rfl (by decide))<|yS [(4,.bool false)]<|yB ⟨_,(zD hM04).symm,hle,rfl,rfl⟩
     | false =>
      have hM05:=zT hc1 ho0
      try rw [hc1]
      exact yA [] [(4,.bool false)]<|wB (zL [] rfl (by decide))<|yS [(4,.bool false)]<|yB ⟨_,(zD hM05).symm,hle,rfl,rfl⟩
   rintro imm0 hs2 m2 ⟨t4,heq,le3,rfl,rfl⟩;subst o0;refine zF<|yI<|zP ?_;obtain rfl:=zD hMc;exact yP ⟨_,_,(.tmp rfl ResV.nil),zX,⟨_,rfl,rfl,rfl⟩⟩
 intro hc hM;refine yE<|zF<|zG<|zG<|zB<|yA [0] [(30,.bool (e0.Kind == 3))]<|zF<|yO hM ?_ ?_
 · intro hc4 hM;refine zG ?_;obtain ⟨o01,ho01,hMc1⟩:=zC hM;refine yT (fun imm' hs' m'=>∃ (t41:Bool),o01=t41∧imm.le imm'∧hs'=[]∧m'=[(4,.bool t41)]) ?_ ?_
   · have hle:=iS imm;refine zB<|yK 4 [0] [(34,.bool (e0.Num == 0))] ?_;cases hc5:(e0.Num == 0) with
     | true =>
      have hM06:=zV hc5 ho01
      try rw [hc5]
      refine yK 6 [0] [(36,vA (cAff e0.Index p c))] ?_;obtain ⟨y3,hy3,hM⟩:=zC hM06;refine yQ (jQ e0.Index _ hy3 h) ?_;rintro imm05 hs2 v2 k2 le4 - ⟨v03,rfl,rfl,rfl⟩ -;have h1:=h1.mono le4;have hle:=hle.trans le4;refine yK 9 [] [(39,.bool y3)] ?_;cases hc6:y3 with
      | true =>
       have hM07:=zV hc6 hM
       try rw [hc6]
       refine yK 12 [0] [(41,vA (cAccess e0.Read p1 c1)),(42,vI depth)] ?_;obtain ⟨y4,hy4,hM⟩:=zC hM07;refine yQ (fL e0.Read depth _ hy4 h1) ?_;rintro imm06 hs2 v2 k2 le5 - ⟨v04,rfl,rfl,rfl⟩ -;have hle:=hle.trans le5;exact yA [] [(4,.bool y4)]<|wB (zL [] rfl (by decide))<|yS [(4,.bool y4)]<|yB ⟨_,(zD hM).symm,hle,rfl,rfl⟩
      | false =>
       have hM08:=zT hc6 hM
       try rw [hc6]
       exact yA [] [(4,.bool false)]<|wB (zL [] rfl (by decide))<|yS [(4,.bool false)]<|yB ⟨_,(zD hM08).symm,hle,rfl,rfl⟩
     | false =>
      have hM09:=zT hc5 ho01
      try rw [hc5]
      exact yA [] [(4,.bool false)]<|wB (zL [] rfl (by decide))<|yS [(4,.bool false)]<|yB ⟨_,(zD hM09).symm,hle,rfl,rfl⟩
   rintro imm04 hs2 m2 ⟨t41,heq1,le6,rfl,rfl⟩;subst o01;refine zF<|yI<|zP ?_;obtain rfl:=zD hMc1;exact yP ⟨_,_,(.tmp rfl ResV.nil),zX,⟨_,rfl,rfl,rfl⟩⟩
 intro hc4 hM;refine yE<|zF<|zG<|zG<|zB<|yA [0] [(47,.bool (e0.Kind == 1))]<|zF<|yO hM ?_ ?_
 · intro hc7 hM;refine zG ?_;obtain ⟨o02,ho02,hMc2⟩:=zC hM;refine yT (fun imm' hs' m'=>∃ (t42:Bool),o02=t42∧imm.le imm'∧hs'=[]∧m'=[(4,.bool t42)]) ?_ ?_
   · have hle:=iS imm;refine zB<|yK 4 [0] [(51,.bool (decide (e0.Num ≥ 0)))] ?_;cases hc8:(decide (e0.Num ≥ 0)) with
     | true =>
      have hM010:=zV hc8 ho02
      try rw [hc8]
      refine yK 9 [0] [(56,.bool (decide (e0.Num ≤ 99)))] ?_;cases hc9:(decide (e0.Num ≤ 99)) with
      | true =>
       have hM011:=zV hc9 hM010
       try rw [hc9]
       refine yK 11 [0] [(58,vA (cAff e0.Index p c))] ?_;obtain ⟨y5,hy5,hM⟩:=zC hM011;refine yQ (jQ e0.Index _ hy5 h) ?_;rintro imm08 hs2 v2 k2 le7 - ⟨v05,rfl,rfl,rfl⟩ -;have h1:=h1.mono le7;have hle:=hle.trans le7;refine yK 14 [] [(61,.bool y5)] ?_;cases hc10:y5 with
       | true =>
        have hM012:=zV hc10 hM
        try rw [hc10]
        refine yK 16 [0] [(63,vA (cAccess e0.Read p1 c1))] ?_;obtain ⟨y6,hy6,hM⟩:=zC hM012;refine yQ (kV e0.Read _ hy6 h1) ?_;rintro imm09 hs2 v2 k2 le8 - ⟨v06,rfl,rfl,rfl⟩ -;have hle:=hle.trans le8;exact yA [] [(4,.bool y6)]<|wB (zL [] rfl (by decide))<|yS [(4,.bool y6)]<|yB ⟨_,(zD hM).symm,hle,rfl,rfl⟩
       | false =>
        have hM013:=zT hc10 hM
        try rw [hc10]
        exact yA [] [(4,.bool false)]<|wB (zL [] rfl (by decide))<|yS [(4,.bool false)]<|yB ⟨_,(zD hM013).symm,hle,rfl,rfl⟩
      | false =>
       have hM014:=zT hc9 hM010
       try rw [hc9]
       exact yA [] [(4,.bool false)]<|wB (zL [] rfl (by decide))<|yS [(4,.bool false)]<|yB ⟨_,(zD hM014).symm,hle,rfl,rfl⟩
     | false =>
      have hM015:=zT hc8 ho02
      try rw [hc8]
      exact yA [] [(4,.bool false)]<|wB (zL [] rfl (by decide))<|yS [(4,.bool false)]<|yB ⟨_,(zD hM015).symm,hle,rfl,rfl⟩
   rintro imm07 hs2 m2 ⟨t42,heq2,le9,rfl,rfl⟩;subst o02;refine zF<|yI<|zP ?_;obtain rfl:=zD hMc2;exact yP ⟨_,_,(.tmp rfl ResV.nil),zX,⟨_,rfl,rfl,rfl⟩⟩
 intro hc7 hM;refine yE<|zF<|zG ?_;obtain ⟨o03,ho03,hMc3⟩:=zC hM;refine yT (fun imm' hs' m'=>∃ (t43:Bool),o03=t43∧imm.le imm'∧hs'=[]∧m'=[(4,.bool t43)]) ?_ ?_
 · have hle:=iS imm;refine zB<|yK 4 [0] [(69,.bool (e0.Num == 0))] ?_;cases hc11:(e0.Num == 0) with
   | true =>
    have hM016:=zV hc11 ho03
    try rw [hc11]
    refine yK 6 [0] [(71,vA (cAff e0.Index p c))] ?_;obtain ⟨y7,hy7,hM⟩:=zC hM016;refine yQ (jQ e0.Index _ hy7 h) ?_;rintro imm011 hs2 v2 k2 le10 - ⟨v07,rfl,rfl,rfl⟩ -;have h1:=h1.mono le10;have hle:=hle.trans le10;refine yK 9 [] [(74,.bool y7)] ?_;cases hc12:y7 with
    | true =>
     have hM017:=zV hc12 hM
     try rw [hc12]
     refine yK 11 [0] [(76,vA (cAccess e0.Read p1 c1))] ?_;obtain ⟨y8,hy8,hM⟩:=zC hM017;refine yQ (kV e0.Read _ hy8 h1) ?_;rintro imm012 hs2 v2 k2 le11 - ⟨v08,rfl,rfl,rfl⟩ -;have hle:=hle.trans le11;exact yA [] [(4,.bool y8)]<|wB (zL [] rfl (by decide))<|yS [(4,.bool y8)]<|yB ⟨_,(zD hM).symm,hle,rfl,rfl⟩
    | false =>
     have hM018:=zT hc12 hM
     try rw [hc12]
     exact yA [] [(4,.bool false)]<|wB (zL [] rfl (by decide))<|yS [(4,.bool false)]<|yB ⟨_,(zD hM018).symm,hle,rfl,rfl⟩
   | false =>
    have hM019:=zT hc11 ho03
    try rw [hc11]
    exact yA [] [(4,.bool false)]<|wB (zL [] rfl (by decide))<|yS [(4,.bool false)]<|yB ⟨_,(zD hM019).symm,hle,rfl,rfl⟩
 rintro imm010 hs2 m2 ⟨t43,heq3,le12,rfl,rfl⟩;subst o03;refine zF<|yI ?_;obtain rfl:=zD hMc3;exact yP ⟨_,_,(.tmp rfl ResV.nil),zX,⟨_,rfl,rfl,rfl⟩⟩
def pP (r:Bool):KT:=fun kk imm' hs' v=>
  ∃ v0,hs'=[]∧v=tupV [v0]∧v0=.bool r
mutual
def uH (e0:zH) (depth:Int) (levels:Int):Option (Bool):=do
 let t24←(do
   if (decide (levels < 1)) then
    pure true
   else
    let y←pZ e0.Kind
    if (y != (e0.Kids.length:Int)) then
     pure true
    else
     let y1←oU e0 depth
     pure (!y1)
     : Option Bool)
 if t24 then
  pure false
 else
  match←wT (same e0) (same depth) (same levels) (same 0) with
  | .ret r0=>pure r0
  | .done _ =>
   pure true
 partial_fixpoint
def wT (e0:zH) (depth:Int) (levels:Int) (i:Int):Option (Out Unit (Bool)):=do
 if (decide (i < (e0.Kids.length:Int))) then
  let x←idx e0.Kids i
  let y2←uH (same x) (same depth) (W (levels - 1))
  if (!y2) then
   pure (.ret false)
  else
   wT (same e0) (same depth) (same levels) (W (i + 1))
 else
  pure (.done ())
 partial_fixpoint
end
theorem zCg:(∀ (e0:zH) (depth:Int) (levels:Int) r,uH e0 depth levels=some r→∀ {imm:Imm}{p c p1 c1 p2 c2},(S4 imm p e0.Index.Coefs c)→(S4 imm p1 e0.Read.Subs c1)→(S4 imm p2 e0.Kids c2)→Ret Tryz.prog 149 [vA (cExpr e0 p c p1 c1 p2 c2),vI depth,vI levels] imm [] (pP  r))∧(∀ (e0:zH) (depth:Int) (levels:Int) (i:Int) o,wT e0 depth levels i=some o→∀ {B}{imm0 imm:Imm}{Q p c p1 c1 p2 c2}{b:Nat},imm0.le imm→(S4 imm p e0.Index.Coefs c)→(S4 imm p1 e0.Read.Subs c1)→(S4 imm p2 e0.Kids c2)→(∀ gl a w,¬Q (.goto gl) a w)→(∀ a w,¬Q .outgrown a w)→(∀ (imm':Imm) ,o=(.done ())→imm0.le imm'→T 42 B Q (.exit 0) imm' [] [])→(∀ r imm' hs' m',o=(.ret r)→imm0.le imm'→RS Tryz.prog Tryz.f149 B (pP  r) imm' hs' m'→T 42 B Q .ret imm' hs' m')→J Tryz.prog 42 B (nav (bodyOf Tryz.f149) [1,1,0,1,0]) Q imm [hB b (cExpr e0 p c p1 c1 p2 c2)] [(1,vI depth),(2,vI levels),(3,vP b 0),(7,vI i)]):=by
  refine uH.mutual_partial_correctness (fun e0 depth levels r=>∀ {imm:Imm}{p c p1 c1 p2 c2},(S4 imm p e0.Index.Coefs c)→(S4 imm p1 e0.Read.Subs c1)→(S4 imm p2 e0.Kids c2)→Ret Tryz.prog 149 [vA (cExpr e0 p c p1 c1 p2 c2),vI depth,vI levels] imm [] (pP  r)) (fun e0 depth levels i o=>∀ {B}{imm0 imm:Imm}{Q p c p1 c1 p2 c2}{b:Nat},imm0.le imm→(S4 imm p e0.Index.Coefs c)→(S4 imm p1 e0.Read.Subs c1)→(S4 imm p2 e0.Kids c2)→(∀ gl a w,¬Q (.goto gl) a w)→(∀ a w,¬Q .outgrown a w)→(∀ (imm':Imm) ,o=(.done ())→imm0.le imm'→T 42 B Q (.exit 0) imm' [] [])→(∀ r imm' hs' m',o=(.ret r)→imm0.le imm'→RS Tryz.prog Tryz.f149 B (pP  r) imm' hs' m'→T 42 B Q .ret imm' hs' m')→J Tryz.prog 42 B (nav (bodyOf Tryz.f149) [1,1,0,1,0]) Q imm [hB b (cExpr e0 p c p1 c1 p2 c2)] [(1,vI depth),(2,vI levels),(3,vP b 0),(7,vI i)]) ?_ ?_
  · intro F_spec_l3Shape_l1 ih_spec_l3Shape_l1 e0 depth levels r hM imm p c p1 c1 p2 c2 h h1 h2;refine yH (fn:=Tryz.f149) (c:=(bodyOf Tryz.f149)) Tryz.func149 rfl rfl ?_;rintro B - -;have hle:=iS imm;refine zG<|zB<|tA (cExpr e0 p c p1 c1 p2 c2) ?_;intro b hb;refine yA [] []<|zF<|zG<|zG ?_;obtain ⟨o0,ho0,hMc⟩:=zC hM;refine yT (fun imm' hs' m'=>∃ (t24:Bool),o0=t24∧imm.le imm'∧hs'=[hB b (cExpr e0 p c p1 c1 p2 c2)]∧m'=[(1,vI depth),(2,vI levels),(3,vP b 0),(24,.bool t24)]) ?_ ?_
    · have hle:=iS imm;cases hc:(decide (levels < 1)) with
      | true =>
       have hM0:=zV hc ho0;refine vC [.p (vI levels) [],.q (.bool true),.q (.bool true),.p undef [],.p undef [],.p undef [],.p undef [],.p undef [],.p undef [],.p undef [],.p (.bool true) [],.p (.bool true) [],.p undef [],.p undef [],.p undef [],.p undef [],.p (.bool true) []] [[],[(0,false)],[(1,false)],[(2,false)],[(2,false),(3,false)],[(2,false),(4,false)],[(2,false)],[(2,false),(6,false)],[(2,false),(7,false)],[(2,false),(5,false),(8,false)],[(2,false),(9,false)],[(10,false)],[(11,false)],[(11,false)],[(11,false),(12,false),(13,false)],[(11,false),(14,false)],[(11,false),(15,false)]] [hB b (cExpr e0 p c p1 c1 p2 c2)] [] [(16,false)] (zL [0] rfl (by decide)) ?_ ?_
       · refine Op<|Oq ?_<|Oq ?_<|Op<|Op<|Op<|Op<|Op<|Op<|Op<|Op<|Op<|Op<|Op<|Op<|Op<|Op<|On
         · intro imm1 hf le1;refine zE ?_;rintro _ _ ⟨rfl,rfl⟩;refine zM<|yG [(8,vI levels)] ?_;have hle:=iS imm1;refine rW 2 [(9,.bool (decide (levels < 1)))] ?_;rw [hc];exact zZ (hx:=[]) rfl hle rfl (zK rfl) ⟨rfl,rfl⟩
         intro imm1 hf le1;refine zE ?_;rintro _ _ ⟨rfl,rfl⟩;refine zM<|yG [(9,.bool true)] ?_;have hle:=iS imm1;exact rW 3 [(10,.bool true)]<|zZ (hx:=[]) rfl hle rfl (zK rfl) ⟨rfl,rfl⟩
       intro imm01 le;refine zE ?_;rintro _ _ ⟨rfl,rfl⟩;refine zM<|yG [(1,vI depth),(2,vI levels),(3,vP b 0),(24,.bool true)] ?_;have hle:=hle.trans le;exact yN rfl<|yS [(1,vI depth),(2,vI levels),(3,vP b 0),(24,.bool true)]<|yB ⟨_,(zD hM0).symm,hle,rfl,rfl⟩
      | false =>
       have hM01:=zT hc ho0;obtain ⟨y,hy,hM⟩:=zC hM01;cases hc1:(y != (e0.Kids.length:Int)) with
       | true =>
        have hM02:=zV hc1 hM;refine vC [.p (vI levels) [],.q (.bool false),.q (.bool false),.p (vP b 0) [],.p (vI e0.Kind) [0],.q (vI y),.p (vP b 6) [],.p (vS p2 e0.Kids c2) [0],.p (vI (e0.Kids.length:Int)) [],.q (.bool true),.q (.bool true),.q (.bool true),.p undef [],.p undef [],.p undef [],.p undef [],.p (.bool true) []] [[],[(0,false)],[(1,false)],[(2,false)],[(2,false),(3,false)],[(2,false),(4,false)],[(2,false)],[(2,false),(6,false)],[(2,false),(7,false)],[(2,false),(5,false),(8,false)],[(2,false),(9,false)],[(10,false)],[(11,false)],[(11,false)],[(11,false),(12,false),(13,false)],[(11,false),(14,false)],[(11,false),(15,false)]] [hB b (cExpr e0 p c p1 c1 p2 c2)] [] [(16,false)] (zL [0] rfl (by decide)) ?_ ?_
        · refine Op<|Oq ?_<|Oq ?_<|Op<|Op<|Oq ?_<|Op<|Op<|Op<|Oq ?_<|Oq ?_<|Oq ?_<|Op<|Op<|Op<|Op<|Op<|On
          · intro imm1 hf le1;refine zE ?_;rintro _ _ ⟨rfl,rfl⟩;refine zM<|yG [(8,vI levels)] ?_;have hle:=iS imm1;refine rW 2 [(9,.bool (decide (levels < 1)))] ?_;rw [hc];exact zZ (hx:=[]) rfl hle rfl (zK rfl) ⟨rfl,rfl⟩
          · intro imm1 hf le1;refine zE ?_;rintro _ _ ⟨rfl,rfl⟩;refine zM<|yG [(9,.bool false)] ?_;have hle:=iS imm1;exact rW 3 [(10,.bool false)]<|zZ (hx:=[]) rfl hle rfl (zK rfl) ⟨rfl,rfl⟩
          · intro imm1 hf le1;refine zE ?_;rintro _ _ ⟨rfl,rfl⟩;refine zE ?_;rintro _ _ ⟨rfl,rfl⟩;refine zM<|yG [(10,.bool false),(12,vI e0.Kind)] ?_;have hle:=iS imm1;refine yQ (zAD e0.Kind _ hy ) ?_;rintro imm02 hs2 v2 k2 le1 - ⟨v0,rfl,rfl,rfl⟩ -;have hle:=hle.trans le1;exact zZ (hx:=[]) rfl hle rfl (zK rfl) ⟨rfl,rfl⟩
          · intro imm1 hf le1;refine zE ?_;rintro _ _ ⟨rfl,rfl⟩;refine zE ?_;rintro _ _ ⟨rfl,rfl⟩;refine zE ?_;rintro _ _ ⟨rfl,rfl⟩;refine zM<|yG [(10,.bool false),(13,vI y),(16,vI (e0.Kids.length:Int))] ?_;have hle:=iS imm1;refine rW 10 [(17,.bool (y != (e0.Kids.length:Int)))] ?_;rw [hc1];exact zZ (hx:=[]) rfl hle rfl (zK rfl) ⟨rfl,rfl⟩
          · intro imm1 hf le1;refine zE ?_;rintro _ _ ⟨rfl,rfl⟩;refine zE ?_;rintro _ _ ⟨rfl,rfl⟩;refine zM<|yG [(10,.bool false),(17,.bool true)] ?_;have hle:=iS imm1;exact rW 11 [(18,.bool true)]<|zZ (hx:=[]) rfl hle rfl (zK rfl) ⟨rfl,rfl⟩
          intro imm1 hf le1;refine zE ?_;rintro _ _ ⟨rfl,rfl⟩;refine zM<|yG [(18,.bool true)] ?_;have hle:=iS imm1;exact rW 12 [(19,.bool true)]<|zZ (hx:=[]) rfl hle rfl (zK rfl) ⟨rfl,rfl⟩
        intro imm03 le2;refine zE ?_;rintro _ _ ⟨rfl,rfl⟩;refine zM<|yG [(1,vI depth),(2,vI levels),(3,vP b 0),(24,.bool true)] ?_;have hle:=hle.trans le2;exact yN rfl<|yS [(1,vI depth),(2,vI levels),(3,vP b 0),(24,.bool true)]<|yB ⟨_,(zD hM02).symm,hle,rfl,rfl⟩
       | false =>
        have hM03:=zT hc1 hM;obtain ⟨y1,hy1,hM⟩:=zC hM03;refine vC [.p (vI levels) [],.q (.bool false),.q (.bool false),.p (vP b 0) [],.p (vI e0.Kind) [0],.q (vI y),.p (vP b 6) [],.p (vS p2 e0.Kids c2) [0],.p (vI (e0.Kids.length:Int)) [],.q (.bool false),.q (.bool false),.q (.bool false),.p (vA (cExpr e0 p c p1 c1 p2 c2)) [0],.p (vI depth) [],.q (.bool y1),.p (.bool (!y1)) [],.p (.bool (!y1)) []] [[],[(0,false)],[(1,false)],[(2,false)],[(2,false),(3,false)],[(2,false),(4,false)],[(2,false)],[(2,false),(6,false)],[(2,false),(7,false)],[(2,false),(5,false),(8,false)],[(2,false),(9,false)],[(10,false)],[(11,false)],[(11,false)],[(11,false),(12,false),(13,false)],[(11,false),(14,false)],[(11,false),(15,false)]] [hB b (cExpr e0 p c p1 c1 p2 c2)] [] [(16,false)] (zL [0] rfl (by decide)) ?_ ?_
        · refine Op<|Oq ?_<|Oq ?_<|Op<|Op<|Oq ?_<|Op<|Op<|Op<|Oq ?_<|Oq ?_<|Oq ?_<|Op<|Op<|Oq ?_<|Op<|Op<|On
          · intro imm1 hf le1;refine zE ?_;rintro _ _ ⟨rfl,rfl⟩;refine zM<|yG [(8,vI levels)] ?_;have hle:=iS imm1;refine rW 2 [(9,.bool (decide (levels < 1)))] ?_;rw [hc];exact zZ (hx:=[]) rfl hle rfl (zK rfl) ⟨rfl,rfl⟩
          · intro imm1 hf le1;refine zE ?_;rintro _ _ ⟨rfl,rfl⟩;refine zM<|yG [(9,.bool false)] ?_;have hle:=iS imm1;exact rW 3 [(10,.bool false)]<|zZ (hx:=[]) rfl hle rfl (zK rfl) ⟨rfl,rfl⟩
          · intro imm1 hf le1;refine zE ?_;rintro _ _ ⟨rfl,rfl⟩;refine zE ?_;rintro _ _ ⟨rfl,rfl⟩;refine zM<|yG [(10,.bool false),(12,vI e0.Kind)] ?_;have hle:=iS imm1;refine yQ (zAD e0.Kind _ hy ) ?_;rintro imm02 hs2 v2 k2 le1 - ⟨v0,rfl,rfl,rfl⟩ -;have hle:=hle.trans le1;exact zZ (hx:=[]) rfl hle rfl (zK rfl) ⟨rfl,rfl⟩
          · intro imm1 hf le1;refine zE ?_;rintro _ _ ⟨rfl,rfl⟩;refine zE ?_;rintro _ _ ⟨rfl,rfl⟩;refine zE ?_;rintro _ _ ⟨rfl,rfl⟩;refine zM<|yG [(10,.bool false),(13,vI y),(16,vI (e0.Kids.length:Int))] ?_;have hle:=iS imm1;refine rW 10 [(17,.bool (y != (e0.Kids.length:Int)))] ?_;rw [hc1];exact zZ (hx:=[]) rfl hle rfl (zK rfl) ⟨rfl,rfl⟩
          · intro imm1 hf le1;refine zE ?_;rintro _ _ ⟨rfl,rfl⟩;refine zE ?_;rintro _ _ ⟨rfl,rfl⟩;refine zM<|yG [(10,.bool false),(17,.bool false)] ?_;have hle:=iS imm1;exact rW 11 [(18,.bool false)]<|zZ (hx:=[]) rfl hle rfl (zK rfl) ⟨rfl,rfl⟩
          · intro imm1 hf le1;refine zE ?_;rintro _ _ ⟨rfl,rfl⟩;refine zM<|yG [(18,.bool false)] ?_;have hle:=iS imm1;exact rW 12 [(19,.bool false)]<|zZ (hx:=[]) rfl hle rfl (zK rfl) ⟨rfl,rfl⟩
          intro imm1 hf le1;refine zE ?_;rintro _ _ ⟨rfl,rfl⟩;refine zE ?_;rintro _ _ ⟨rfl,rfl⟩;refine zE ?_;rintro _ _ ⟨rfl,rfl⟩;refine zM<|yG [(19,.bool false),(20,vA (cExpr e0 p c p1 c1 p2 c2)),(21,vI depth)] ?_;have hle:=iS imm1;have h:=h.mono le1;have h1:=h1.mono le1;have h2:=h2.mono le1;refine yQ (zE4 e0 depth _ hy1 h h1 h2) ?_;rintro imm04 hs2 v2 k2 le3 - ⟨v01,rfl,rfl,rfl⟩ -;have hle:=hle.trans le3;exact zZ (hx:=[]) rfl hle rfl (zK rfl) ⟨rfl,rfl⟩
        intro imm05 le4;refine zE ?_;rintro _ _ ⟨rfl,rfl⟩;refine zM<|yG [(1,vI depth),(2,vI levels),(3,vP b 0),(24,.bool (!y1))] ?_;have hle:=hle.trans le4;exact yN rfl<|yS [(1,vI depth),(2,vI levels),(3,vP b 0),(24,.bool (!y1))]<|yB ⟨_,(zD hM).symm,hle,rfl,rfl⟩
    rintro imm0 hs2 m2 ⟨t24,heq,le5,rfl,rfl⟩;subst o0;have h:=h.mono le5;have h1:=h1.mono le5;have h2:=h2.mono le5;refine zF<|yO hMc ?_ ?_
    · intro hc2 hM;refine zG<|zB<|yA [] [(6,.bool false)]<|zF<|yI<|zP ?_;obtain rfl:=zD hM;exact yP ⟨_,_,(.tmp rfl ResV.nil),zX,⟨_,rfl,rfl,rfl⟩⟩
    intro hc2 hM;refine yE<|zF<|zG<|zG<|zB<|yA [] [(7,vI 0)]<|zF<|yC<|vG [(1,vI depth),(2,vI levels),(3,vP b 0),(7,vI 0)] ?_;obtain ⟨o01,ho01,hMl⟩:=zC hM;refine ih_spec_l3Shape_l1 e0 depth levels 0 o01 ho01 iR h h1 h2 (fun _ _ _ h=>h) (fun _ _ h=>h) ?_ ?_
    · intro imm07  heq1 le7;subst o01;refine yD<|zF<|zG<|zB<|yA [] [(6,.bool true)]<|zF<|yI ?_;obtain rfl:=zD hMl;exact yP ⟨_,_,(.tmp rfl ResV.nil),zX,⟨_,rfl,rfl,rfl⟩⟩
    intro r0 imm9 hs9 m9 heq9 le9 hrs9;subst heq9;refine yF<|zP ?_;obtain rfl:=zD hMl;exact yP hrs9
  intro F_spec_l3Shape F_spec_l3Shape_l1 ih_spec_l3Shape ih_spec_l3Shape_l1 e0 depth levels i o hM B imm0 imm Q p c p1 c1 p2 c2 b hle h h1 h2 hg ho hx hr;refine xA hg ho<|zG<|zG<|zB<|yA [0] [(29,.bool (decide (i < (e0.Kids.length:Int))))]<|zF<|yO hM ?_ ?_
  · intro hc3 hM;refine yE<|zF<|zG<|yC<|zG<|zB<|yK 3 [0] [(33,vS p2 e0.Kids c2),(34,vI i)] ?_;obtain ⟨x,hy2,hM⟩:=zC hM;refine wD rfl rfl h2 hy2 ?_;intro ad ccs hat hrep;obtain ⟨v02,v03,v04,rfl,h5,h6,h7⟩:=wM hrep;obtain ⟨p3,c3,rfl⟩:=h5.form;obtain ⟨p4,c4,rfl⟩:=h6.form;obtain ⟨p5,c5,rfl⟩:=h7.form;refine xQ 0 hat (cExpr x p3 c3 p4 c4 p5 c5) (vA (cExpr x p3 c3 p4 c4 p5 c5)) rfl<|yK 8 [] [(37,vI depth),(39,vI (W (levels - 1)))] ?_;obtain ⟨y2,hy3,hM⟩:=zC hM;refine yQ (ih_spec_l3Shape x depth (W (levels - 1)) _ hy3 h5 h6 h7) ?_;rintro imm06 hs2 v2 k2 le6 - ⟨v05,rfl,rfl,rfl⟩ -;have h:=h.mono le6;have h1:=h1.mono le6;have h2:=h2.mono le6;have hle:=hle.trans le6;refine yA [] [(41,.bool (!y2))]<|zF<|yO hM ?_ ?_
    · intro hc4 hM;exact zG<|zB<|yA [] [(6,.bool false)]<|zF<|yI<|yF<|zP<|zP<|hr _ _ _ _ (zD hM).symm hle ⟨_,_,(.tmp rfl ResV.nil),zX,⟨_,rfl,rfl,rfl⟩⟩
    intro hc4 hM;exact yE<|zY<|zF<|zB<|yA [] [(7,vI (W (i + 1)))]<|xB<|vG [(1,vI depth),(2,vI levels),(3,vP b 0),(7,vI (W (i + 1)))]<|ih_spec_l3Shape_l1 e0 depth levels (W (i + 1)) _ hM hle h h1 h2 hg ho hx hr
  intro hc3 hM;exact yZ<|zS<|zS<|wB (zL [] rfl (by decide))<|yS []<|hx _  (zD hM).symm hle
theorem zDQ:∀ (e0:zH) (depth:Int) (levels:Int) r,uH e0 depth levels=some r→∀ {imm:Imm}{p c p1 c1 p2 c2},(S4 imm p e0.Index.Coefs c)→(S4 imm p1 e0.Read.Subs c1)→(S4 imm p2 e0.Kids c2)→Ret Tryz.prog 149 [vA (cExpr e0 p c p1 c1 p2 c2),vI depth,vI levels] imm [] (pP  r):=zCg.1
def mO (r:Int):KT:=fun kk imm' hs' v=>
  ∃ v0,hs'=[]∧v=tupV [v0]∧v0=.int .i64 r
mutual
def uU (e0:zH) (levels:Int):Option (Int):=do
 let n01←wU (same e0) (same levels) (same 1) (same 0)
 pure (id n01)
 partial_fixpoint
def wU (e0:zH) (levels:Int) (n0:Int) (i:Int):Option (Int):=do
 let t15←(do
   if (decide (i < (e0.Kids.length:Int))) then
    pure (decide (levels > 0))
   else
    pure false
     : Option Bool)
 if t15 then
  let x←idx e0.Kids i
  let y←uU (same x) (W (levels - 1))
  wU (same e0) (same levels) (W (n0 + y)) (W (i + 1))
 else
  pure (id n0)
 partial_fixpoint
end
theorem zCh:(∀ (e0:zH) (levels:Int) r,uU e0 levels=some r→∀ {imm:Imm}{p c p1 c1 p2 c2},(S4 imm p e0.Index.Coefs c)→(S4 imm p1 e0.Read.Subs c1)→(S4 imm p2 e0.Kids c2)→Ret Tryz.prog 150 [vA (cExpr e0 p c p1 c1 p2 c2),vI levels] imm [] (mO  r))∧(∀ (e0:zH) (levels:Int) (n0:Int) (i:Int) o,wU e0 levels n0 i=some o→∀ {B}{imm0 imm:Imm}{Q p c p1 c1 p2 c2}{b:Nat},imm0.le imm→(S4 imm p e0.Index.Coefs c)→(S4 imm p1 e0.Read.Subs c1)→(S4 imm p2 e0.Kids c2)→(∀ gl a w,¬Q (.goto gl) a w)→(∀ a w,¬Q .outgrown a w)→(∀ (imm':Imm) (n01:Int),o=n01→imm0.le imm'→T 29 B Q (.exit 0) imm' [] [(5,vI n01)])→J Tryz.prog 29 B (nav (bodyOf Tryz.f150) [1,1,0,1,0]) Q imm [hB b (cExpr e0 p c p1 c1 p2 c2)] [(1,vI levels),(2,vP b 0),(5,vI n0),(6,vI i)]):=by
  refine uU.mutual_partial_correctness (fun e0 levels r=>∀ {imm:Imm}{p c p1 c1 p2 c2},(S4 imm p e0.Index.Coefs c)→(S4 imm p1 e0.Read.Subs c1)→(S4 imm p2 e0.Kids c2)→Ret Tryz.prog 150 [vA (cExpr e0 p c p1 c1 p2 c2),vI levels] imm [] (mO  r)) (fun e0 levels n0 i o=>∀ {B}{imm0 imm:Imm}{Q p c p1 c1 p2 c2}{b:Nat},imm0.le imm→(S4 imm p e0.Index.Coefs c)→(S4 imm p1 e0.Read.Subs c1)→(S4 imm p2 e0.Kids c2)→(∀ gl a w,¬Q (.goto gl) a w)→(∀ a w,¬Q .outgrown a w)→(∀ (imm':Imm) (n01:Int),o=n01→imm0.le imm'→T 29 B Q (.exit 0) imm' [] [(5,vI n01)])→J Tryz.prog 29 B (nav (bodyOf Tryz.f150) [1,1,0,1,0]) Q imm [hB b (cExpr e0 p c p1 c1 p2 c2)] [(1,vI levels),(2,vP b 0),(5,vI n0),(6,vI i)]) ?_ ?_
  · intro F_spec_l3Count_l1 ih_spec_l3Count_l1 e0 levels r hM imm p c p1 c1 p2 c2 h h1 h2;refine yH (fn:=Tryz.f150) (c:=(bodyOf Tryz.f150)) Tryz.func150 rfl rfl ?_;rintro B - -;refine zG<|zB<|tA (cExpr e0 p c p1 c1 p2 c2) ?_;intro b hb;refine yA [] []<|zF<|zG<|zB<|yA [] [(5,vI 1)]<|zF<|zG<|zG<|zB<|yA [] [(6,vI 0)]<|zF<|yC<|vG [(1,vI levels),(2,vP b 0),(5,vI 1),(6,vI 0)] ?_;obtain ⟨o01,ho01,hMl⟩:=zC hM;refine ih_spec_l3Count_l1 e0 levels 1 0 o01 ho01 iR h h1 h2 (fun _ _ _ h=>h) (fun _ _ h=>h) ?_;intro imm02 n01 heq1 le2;subst o01;refine yD<|zF<|zG<|zB<|yA [] [(4,vI n01)]<|zF<|yI ?_;obtain rfl:=zD hMl;exact yP ⟨_,_,(.tmp rfl ResV.nil),zX,⟨_,rfl,rfl,rfl⟩⟩
  intro F_spec_l3Count F_spec_l3Count_l1 ih_spec_l3Count ih_spec_l3Count_l1 e0 levels n0 i o hM B imm0 imm Q p c p1 c1 p2 c2 b hle h h1 h2 hg ho hx;refine xA hg ho<|zG<|zG ?_;obtain ⟨o0,ho0,hMc⟩:=zC hM;refine yT (fun imm' hs' m'=>∃ (t15:Bool),o0=t15∧imm.le imm'∧hs'=[hB b (cExpr e0 p c p1 c1 p2 c2)]∧m'=[(1,vI levels),(2,vP b 0),(5,vI n0),(6,vI i),(15,.bool t15)]) ?_ ?_
  · have hle:=iS imm;refine zB<|yK 6 [0] [(12,.bool (decide (i < (e0.Kids.length:Int))))] ?_;cases hc:(decide (i < (e0.Kids.length:Int))) with
    | true =>
     have hM0:=zV hc ho0
     try rw [hc]
     exact yA [] [(15,.bool (decide (levels > 0)))]<|yS [(1,vI levels),(2,vP b 0),(5,vI n0),(6,vI i),(15,.bool (decide (levels > 0)))]<|yB ⟨_,(zD hM0).symm,hle,rfl,rfl⟩
    | false =>
     have hM01:=zT hc ho0
     try rw [hc]
     exact yA [] [(15,.bool false)]<|yS [(1,vI levels),(2,vP b 0),(5,vI n0),(6,vI i),(15,.bool false)]<|yB ⟨_,(zD hM01).symm,hle,rfl,rfl⟩
  rintro imm0 hs2 m2 ⟨t15,heq,le,rfl,rfl⟩;subst o0;have h:=h.mono le;have h1:=h1.mono le;have h2:=h2.mono le;have hle:=hle.trans le;refine zF<|yO hMc ?_ ?_
  · intro hc1 hM;refine yE<|zF<|zG<|yC<|zB<|yK 4 [0] [(18,vI n0),(20,vS p2 e0.Kids c2),(21,vI i)] ?_;obtain ⟨x,hy,hM⟩:=zC hM;refine wD rfl rfl h2 hy ?_;intro ad ccs hat hrep;obtain ⟨v0,v01,v02,rfl,h3,h4,h5⟩:=wM hrep;obtain ⟨p3,c3,rfl⟩:=h3.form;obtain ⟨p4,c4,rfl⟩:=h4.form;obtain ⟨p5,c5,rfl⟩:=h5.form;refine xQ 0 hat (cExpr x p3 c3 p4 c4 p5 c5) (vA (cExpr x p3 c3 p4 c4 p5 c5)) rfl<|yK 8 [] [(25,vI (W (levels - 1)))] ?_;obtain ⟨y,hy1,hM⟩:=zC hM;refine yQ (ih_spec_l3Count x (W (levels - 1)) _ hy1 h3 h4 h5) ?_;rintro imm01 hs2 v2 k2 le1 - ⟨v03,rfl,rfl,rfl⟩ -;have h:=h.mono le1;have h1:=h1.mono le1;have h2:=h2.mono le1;have hle:=hle.trans le1;exact yA [] [(5,vI (W (n0 + y)))]<|zY<|zF<|zB<|yA [] [(6,vI (W (i + 1)))]<|xB<|vG [(1,vI levels),(2,vP b 0),(5,vI (W (n0 + y))),(6,vI (W (i + 1)))]<|ih_spec_l3Count_l1 e0 levels (W (n0 + y)) (W (i + 1)) _ hM hle h h1 h2 hg ho hx
  intro hc1 hM;exact yZ<|zS<|zS<|wB (zL [] rfl (by decide))<|yS [(5,vI n0)]<|hx _ _ (zD hM).symm hle
theorem zDR:∀ (e0:zH) (levels:Int) r,uU e0 levels=some r→∀ {imm:Imm}{p c p1 c1 p2 c2},(S4 imm p e0.Index.Coefs c)→(S4 imm p1 e0.Read.Subs c1)→(S4 imm p2 e0.Kids c2)→Ret Tryz.prog 150 [vA (cExpr e0 p c p1 c1 p2 c2),vI levels] imm [] (mO  r):=zCh.1
def zAe (r:Bool):KT:=fun kk imm' hs' v=>
  ∃ v0,hs'=[]∧v=tupV [v0]∧v0=.bool r
def tF (s:zR) (depth:Int):Option (Bool):=do
 let t24←(do
   if (decide (depth < 0)) then
    pure true
   else
    if (decide (depth > 4)) then
     pure true
    else
     let y←sY s.Write depth
     if (!y) then
      pure true
     else
      let y1←uH s.Value depth 5
      pure (!y1)
     : Option Bool)
 if t24 then
  pure false
 else
  let y2←uU s.Value 5
  pure (decide (y2 ≤ 12))
theorem mP:∀ (s:zR) (depth:Int) r,tF s depth=some r→∀ {imm:Imm}{p c p1 c1 p2 c2 p3 c3},(S4 imm p s.Write.Subs c)→(S4 imm p1 s.Value.Index.Coefs c1)→(S4 imm p2 s.Value.Read.Subs c2)→(S4 imm p3 s.Value.Kids c3)→Ret Tryz.prog 97 [vA (cStmt s p c p1 c1 p2 c2 p3 c3),vI depth] imm [] (zAe  r):=by
 intro s depth r hM imm p c p1 c1 p2 c2 p3 c3 h h1 h2 h3;unfold tF at hM;refine yH (fn:=Tryz.f97) (c:=(bodyOf Tryz.f97)) Tryz.func97 rfl rfl ?_;rintro B - -;have hle:=iS imm;refine zG<|zB<|tA (cStmt s p c p1 c1 p2 c2 p3 c3) ?_;intro b hb;refine yA [] []<|zF<|zG<|zG ?_;obtain ⟨o0,ho0,hMc⟩:=zC hM;refine yT (fun imm' hs' m'=>∃ (t24:Bool),o0=t24∧imm.le imm'∧hs'=[hB b (cStmt s p c p1 c1 p2 c2 p3 c3)]∧m'=[(2,vP b 0),(24,.bool t24)]) ?_ ?_
 · have hle:=iS imm;refine zB<|yK 3 [] [(7,.bool (decide (depth < 0)))] ?_;cases hc:(decide (depth < 0)) with
   | true =>
    have hM0:=zV hc ho0
    try rw [hc]
    exact yA [] [(24,.bool true)]<|yS [(2,vP b 0),(24,.bool true)]<|yB ⟨_,(zD hM0).symm,hle,rfl,rfl⟩
   | false =>
    have hM01:=zT hc ho0
    try rw [hc]
    refine yK 7 [] [(11,.bool (decide (depth > 4)))] ?_;cases hc1:(decide (depth > 4)) with
    | true =>
     have hM02:=zV hc1 hM01
     try rw [hc1]
     exact yA [] [(24,.bool true)]<|yS [(2,vP b 0),(24,.bool true)]<|yB ⟨_,(zD hM02).symm,hle,rfl,rfl⟩
    | false =>
     have hM03:=zT hc1 hM01
     try rw [hc1]
     refine yK 10 [0] [(13,vA (cAccess s.Write p c)),(14,vI depth)] ?_;obtain ⟨y,hy,hM⟩:=zC hM03;refine yQ (fL s.Write depth _ hy h) ?_;rintro imm01 hs2 v2 k2 le - ⟨v0,rfl,rfl,rfl⟩ -;have h1:=h1.mono le;have h2:=h2.mono le;have h3:=h3.mono le;have hle:=hle.trans le;refine yK 14 [] [(18,.bool (!y))] ?_;cases hc2:(!y) with
     | true =>
      have hM04:=zV hc2 hM
      try rw [hc2]
      exact yA [] [(24,.bool true)]<|yS [(2,vP b 0),(24,.bool true)]<|yB ⟨_,(zD hM04).symm,hle,rfl,rfl⟩
     | false =>
      have hM05:=zT hc2 hM
      try rw [hc2]
      refine yK 17 [0] [(20,vA (cExpr s.Value p1 c1 p2 c2 p3 c3)),(21,vI depth)] ?_;obtain ⟨y1,hy1,hM⟩:=zC hM05;refine yQ (zDQ s.Value depth 5 _ hy1 h1 h2 h3) ?_;rintro imm02 hs2 v2 k2 le1 - ⟨v01,rfl,rfl,rfl⟩ -;have hle:=hle.trans le1;exact yA [] [(24,.bool (!y1))]<|yS [(2,vP b 0),(24,.bool (!y1))]<|yB ⟨_,(zD hM).symm,hle,rfl,rfl⟩
 rintro imm0 hs2 m2 ⟨t24,heq,le2,rfl,rfl⟩;subst o0;have h1:=h1.mono le2;have h2:=h2.mono le2;have h3:=h3.mono le2;refine zF<|yO hMc ?_ ?_
 · intro hc3 hM;refine zG<|zB<|yA [] [(4,.bool false)]<|zF<|yI<|zP ?_;obtain rfl:=zD hM;exact yP ⟨_,_,(.tmp rfl ResV.nil),zX,⟨_,rfl,rfl,rfl⟩⟩
 intro hc3 hM;refine yE<|zF<|zG<|zB<|yK 2 [0] [(26,vA (cExpr s.Value p1 c1 p2 c2 p3 c3))] ?_;obtain ⟨y2,hy2,hM⟩:=zC hM;refine yQ (zDR s.Value 5 _ hy2 h1 h2 h3) ?_;rintro imm03 hs2 v2 k2 le3 - ⟨v02,rfl,rfl,rfl⟩ -;refine yA [] [(4,.bool (decide (y2 ≤ 12)))]<|zF<|yI ?_;obtain rfl:=zD hM;exact yP ⟨_,_,(.tmp rfl ResV.nil),zX,⟨_,rfl,rfl,rfl⟩⟩
def zBs (r:Int×Int):KT:=fun kk imm' hs' v=>
  ∃ v0 v1,hs'=[]∧v=tupV [v0,v1]∧v0=.int .i64 r.1∧v1=.int .i64 r.2
def vX (loop:zI) (p2:(List Int)) (lo:Int) (i:Int):Option (Int):=do
 if (decide (i < (loop.Lo.length:Int))) then
  let x2←idx loop.Lo i
  let y2←tT x2 p2
  let lo2←(do
    if (decide (y2 > lo)) then
     pure (id y2)
    else
     pure (id lo)
      : Option Int)
  vX loop p2 lo2 (W (i + 1))
 else
  pure (id lo)
 partial_fixpoint
theorem zBJ (loop:zI) (p2:(List Int)):∀ (lo:Int) (i:Int) (o:Int),vX loop p2 lo i=some o→∀ {B}{imm0 imm:Imm}{Q}{y1:Int}{p c p1 c1 p3 c2}{b:Nat},imm0.le imm→(S4 imm p3 p2 c2)→(S4 imm p loop.Lo c)→(S4 imm p1 loop.Hi c1)→(∀ gl a w,¬Q (.goto gl) a w)→(∀ a w,¬Q .outgrown a w)→(∀ (imm':Imm) (lo1:Int),o=lo1→imm0.le imm'→T 62 B Q (.exit 0) imm' [hB b (cLoop loop p c p1 c1)] [(1,vS p3 p2 c2),(2,vP b 0),(6,vI lo1),(7,vI y1)])→J Tryz.prog 62 B (nav (bodyOf Tryz.f163) [1,1,1,0,1,0]) Q imm [hB b (cLoop loop p c p1 c1)] [(1,vS p3 p2 c2),(2,vP b 0),(6,vI lo),(7,vI y1),(8,vI i)]:=by
 refine vX.partial_correctness loop p2 _ ?_;intro self ih lo i o hM B imm0 imm Q y1 p c p1 c1 p3 c2 b hle h2 h h1 hg ho hx;refine xA hg ho<|zG<|zG<|zB<|yA [0] [(28,.bool (decide (i < (loop.Lo.length:Int))))]<|zF<|yO hM ?_ ?_
 · intro hc hM;refine yE<|zF<|zG<|yC<|zG<|zB<|yK 3 [0] [(32,vS p loop.Lo c),(33,vI i)] ?_;obtain ⟨x2,hy4,hM⟩:=zC hM;refine wD rfl rfl h hy4 ?_;intro ad2 ccs2 hat2 hrep2;obtain ⟨v04,rfl,h7⟩:=yM hrep2;obtain ⟨p6,c5,rfl⟩:=h7.form;refine xQ 0 hat2 (cAff x2 p6 c5) (vA (cAff x2 p6 c5)) rfl<|yK 6 [] [(36,vS p3 p2 c2)] ?_;obtain ⟨y2,hy5,hM⟩:=zC hM;refine yQ (nO x2 p2 _ hy5 h7 h2) ?_;rintro imm02 hs2 v2 k2 le2 - ⟨v05,rfl,rfl,rfl⟩ -;have h2:=h2.mono le2;have h:=h.mono le2;have h1:=h1.mono le2;have hle:=hle.trans le2;refine yA [] [(9,vI y2)]<|zF<|zG<|zB<|yA [] [(40,.bool (decide (y2 > lo)))]<|zF ?_;obtain ⟨o0,ho0,hMc⟩:=zC hM;refine yT (fun imm' hs' m'=>∃ (lo2:Int),o0=lo2∧imm02.le imm'∧hs'=[hB b (cLoop loop p c p1 c1)]∧m'=[(1,vS p3 p2 c2),(2,vP b 0),(6,vI lo2),(7,vI y1),(8,vI i)]) ?_ ?_
   · have hle:=iS imm02;refine yO ho0 ?_ ?_
     · intro hc1 hM;exact zB<|yA [] [(6,vI y2)]<|yS [(1,vS p3 p2 c2),(2,vP b 0),(6,vI y2),(7,vI y1),(8,vI i)]<|yB ⟨_,(zD hM).symm,hle,rfl,rfl⟩
     intro hc1 hM;exact yE<|yS [(1,vS p3 p2 c2),(2,vP b 0),(6,vI lo),(7,vI y1),(8,vI i)]<|yB ⟨_,(zD hM).symm,hle,rfl,rfl⟩
   rintro imm03 hs2 m2 ⟨lo2,heq,le3,rfl,rfl⟩;subst o0;have h2:=h2.mono le3;have h:=h.mono le3;have h1:=h1.mono le3;have hle:=hle.trans le3;exact zY<|zF<|zB<|yA [] [(8,vI (W (i + 1)))]<|xB<|vG [(1,vS p3 p2 c2),(2,vP b 0),(6,vI lo2),(7,vI y1),(8,vI (W (i + 1)))]<|ih lo2 (W (i + 1)) _ hMc hle h2 h h1 hg ho hx
 intro hc hM;exact yZ<|zS<|zS<|yS [(1,vS p3 p2 c2),(2,vP b 0),(6,vI lo),(7,vI y1)]<|hx _ _ (zD hM).symm hle
def vY (loop:zI) (p2:(List Int)) (hi:Int) (i1:Int):Option (Int):=do
 if (decide (i1 < (loop.Hi.length:Int))) then
  let x3←idx loop.Hi i1
  let y3←tT x3 p2
  let hi2←(do
    if (decide (y3 < hi)) then
     pure (id y3)
    else
     pure (id hi)
      : Option Int)
  vY loop p2 hi2 (W (i1 + 1))
 else
  pure (id hi)
 partial_fixpoint
theorem zBK (loop:zI) (p2:(List Int)):∀ (hi:Int) (i1:Int) (o:Int),vY loop p2 hi i1=some o→∀ {B}{imm0 imm:Imm}{Q}{lo1:Int}{p c p1 c1 p3 c2}{b:Nat},imm0.le imm→(S4 imm p3 p2 c2)→(S4 imm p loop.Lo c)→(S4 imm p1 loop.Hi c1)→(∀ gl a w,¬Q (.goto gl) a w)→(∀ a w,¬Q .outgrown a w)→(∀ (imm':Imm) (hi1:Int),o=hi1→imm0.le imm'→T 62 B Q (.exit 2) imm' [] [(6,vI lo1),(7,vI hi1)])→J Tryz.prog 62 B (nav (bodyOf Tryz.f163) [1,1,1,1,0,1,0]) Q imm [hB b (cLoop loop p c p1 c1)] [(1,vS p3 p2 c2),(2,vP b 0),(6,vI lo1),(7,vI hi),(10,vI i1)]:=by
 refine vY.partial_correctness loop p2 _ ?_;intro self ih hi i1 o hM B imm0 imm Q lo1 p c p1 c1 p3 c2 b hle h2 h h1 hg ho hx;refine xA hg ho<|zG<|zG<|zB<|yA [0] [(46,.bool (decide (i1 < (loop.Hi.length:Int))))]<|zF<|yO hM ?_ ?_
 · intro hc2 hM;refine yE<|zF<|zG<|yC<|zG<|zB<|yK 3 [0] [(50,vS p1 loop.Hi c1),(51,vI i1)] ?_;obtain ⟨x3,hy6,hM⟩:=zC hM;refine wD rfl rfl h1 hy6 ?_;intro ad3 ccs3 hat3 hrep3;obtain ⟨v06,rfl,h9⟩:=yM hrep3;obtain ⟨p7,c6,rfl⟩:=h9.form;refine xQ 0 hat3 (cAff x3 p7 c6) (vA (cAff x3 p7 c6)) rfl<|yK 6 [] [(54,vS p3 p2 c2)] ?_;obtain ⟨y3,hy7,hM⟩:=zC hM;refine yQ (nO x3 p2 _ hy7 h9 h2) ?_;rintro imm05 hs2 v2 k2 le5 - ⟨v07,rfl,rfl,rfl⟩ -;have h2:=h2.mono le5;have h:=h.mono le5;have h1:=h1.mono le5;have hle:=hle.trans le5;refine yA [] [(11,vI y3)]<|zF<|zG<|zB<|yA [] [(58,.bool (decide (y3 < hi)))]<|zF ?_;obtain ⟨o02,ho02,hMc1⟩:=zC hM;refine yT (fun imm' hs' m'=>∃ (hi2:Int),o02=hi2∧imm05.le imm'∧hs'=[hB b (cLoop loop p c p1 c1)]∧m'=[(1,vS p3 p2 c2),(2,vP b 0),(6,vI lo1),(7,vI hi2),(10,vI i1)]) ?_ ?_
   · have hle:=iS imm05;refine yO ho02 ?_ ?_
     · intro hc3 hM;exact zB<|yA [] [(7,vI y3)]<|yS [(1,vS p3 p2 c2),(2,vP b 0),(6,vI lo1),(7,vI y3),(10,vI i1)]<|yB ⟨_,(zD hM).symm,hle,rfl,rfl⟩
     intro hc3 hM;exact yE<|yS [(1,vS p3 p2 c2),(2,vP b 0),(6,vI lo1),(7,vI hi),(10,vI i1)]<|yB ⟨_,(zD hM).symm,hle,rfl,rfl⟩
   rintro imm06 hs2 m2 ⟨hi2,heq2,le6,rfl,rfl⟩;subst o02;have h2:=h2.mono le6;have h:=h.mono le6;have h1:=h1.mono le6;have hle:=hle.trans le6;exact zY<|zF<|zB<|yA [] [(10,vI (W (i1 + 1)))]<|xB<|vG [(1,vS p3 p2 c2),(2,vP b 0),(6,vI lo1),(7,vI hi2),(10,vI (W (i1 + 1)))]<|ih hi2 (W (i1 + 1)) _ hMc1 hle h2 h h1 hg ho hx
 intro hc2 hM;exact yZ<|zS<|zS<|wB (zL [] rfl (by decide))<|yS [(6,vI lo1),(7,vI hi)]<|hx _ _ (zD hM).symm hle
def rX (loop:zI) (p2:(List Int)):Option (Int×Int):=do
 let x←idx loop.Lo 0
 let y←tT x p2
 let x1←idx loop.Hi 0
 let y1←tT x1 p2
 let lo1←vX loop p2 y 1
 let hi1←vY loop p2 y1 1
 pure (lo1,hi1)
theorem dG:∀ (loop:zI) (p2:(List Int)) r,rX loop p2=some r→∀ {imm:Imm}{p c p1 c1 p3 c2},(S4 imm p loop.Lo c)→(S4 imm p1 loop.Hi c1)→(S4 imm p3 p2 c2)→Ret Tryz.prog 163 [vA (cLoop loop p c p1 c1),vS p3 p2 c2] imm [] (zBs  r):=by
 intro loop p2 r hM imm p c p1 c1 p3 c2 h h1 h2;unfold rX at hM;refine yH (fn:=Tryz.f163) (c:=(bodyOf Tryz.f163)) Tryz.func163 rfl rfl ?_;rintro B - -;refine zG<|zB<|tA (cLoop loop p c p1 c1) ?_;intro b hb;refine yA [] []<|zF<|zG<|zB<|yK 2 [0] [(13,vS p loop.Lo c)] ?_;obtain ⟨x,hy,hM⟩:=zC hM;refine wD rfl rfl h hy ?_;intro ad ccs hat hrep;obtain ⟨v0,rfl,h3⟩:=yM hrep;obtain ⟨p4,c3,rfl⟩:=h3.form;refine xQ 0 hat (cAff x p4 c3) (vA (cAff x p4 c3)) rfl<|yK 5 [] [(16,vS p3 p2 c2)] ?_;obtain ⟨y,hy1,hM⟩:=zC hM;refine yQ (nO x p2 _ hy1 h3 h2) ?_;rintro imm0 hs2 v2 k2 le - ⟨v01,rfl,rfl,rfl⟩ -;have h2:=h2.mono le;have h:=h.mono le;have h1:=h1.mono le;refine yA [] [(6,vI y)]<|zF<|zG<|zB<|yK 2 [0] [(19,vS p1 loop.Hi c1)] ?_;obtain ⟨x1,hy2,hM⟩:=zC hM;refine wD rfl rfl h1 hy2 ?_;intro ad1 ccs1 hat1 hrep1;obtain ⟨v02,rfl,h5⟩:=yM hrep1;obtain ⟨p5,c4,rfl⟩:=h5.form;refine xQ 0 hat1 (cAff x1 p5 c4) (vA (cAff x1 p5 c4)) rfl<|yK 5 [] [(22,vS p3 p2 c2)] ?_;obtain ⟨y1,hy3,hM⟩:=zC hM;refine yQ (nO x1 p2 _ hy3 h5 h2) ?_;rintro imm01 hs2 v2 k2 le1 - ⟨v03,rfl,rfl,rfl⟩ -;have h2:=h2.mono le1;have h:=h.mono le1;have h1:=h1.mono le1;refine yA [] [(7,vI y1)]<|zF<|zG<|zG<|zB<|yA [] [(8,vI 1)]<|zF<|yC<|vG [(1,vS p3 p2 c2),(2,vP b 0),(6,vI y),(7,vI y1),(8,vI 1)] ?_;obtain ⟨o01,ho01,hMl⟩:=zC hM;refine zBJ loop p2 y 1 o01 ho01 iR h2 h h1 (fun _ _ _ h=>h) (fun _ _ h=>h) ?_;intro imm04 lo1 heq1 le4;subst o01;have h2:=h2.mono le4;have h:=h.mono le4;have h1:=h1.mono le4;refine yD<|zF<|zG<|zG<|zB<|yA [] [(10,vI 1)]<|zF<|yC<|vG [(1,vS p3 p2 c2),(2,vP b 0),(6,vI lo1),(7,vI y1),(10,vI 1)] ?_;obtain ⟨o03,ho03,hMl1⟩:=zC hMl;refine zBK loop p2 y1 1 o03 ho03 iR h2 h h1 (fun _ _ _ h=>h) (fun _ _ h=>h) ?_;intro imm07 hi1 heq3 le7;subst o03;refine yD<|zF<|zG<|zB<|yA [] [(4,vI lo1),(5,vI hi1)]<|zF<|yI ?_;obtain rfl:=zD hMl1;exact yP ⟨_,_,(.tmp rfl (.tmp rfl ResV.nil)),zX,⟨_,_,rfl,rfl,rfl,rfl⟩⟩
def mJ (r:(List (List Int))):KT:=fun kk imm' hs' v=>
  ∃ a0 c0 s0,hs'=[.osl (.slice a0 r.length c0) (Rp.sz (List Int)) s0]∧v=tupV [(.slice a0 r.length c0)]∧RepL (Rp.rep imm') (Rp.sz (List Int)) s0 r
mutual
def wR (out:(List (List Int))) (nest:(List zI)) (p2:(List Int)):Option ((List (List Int))):=do
 if ((p2.length:Int) == (nest.length:Int)) then
  let l←app 8 ([]:List Int) p2
  let t6←app 24 out ([l]:List (List Int))
  pure (id t6)
 else
  let x←idx nest (p2.length:Int)
  let (y1,y2)←rX x p2
  let out2←uD (same nest) (same p2) (same y2) (same out) (same y1)
  pure (id out2)
 partial_fixpoint
def uD (nest:(List zI)) (p2:(List Int)) (y2:Int) (out1:List (List Int)) (v04:Int):Option (List (List Int)):=do
 let t39←(do
   if (decide (v04 < y2)) then
    pure (decide ((out1.length:Int) ≤ 120))
   else
    pure false
     : Option Bool)
 if t39 then
  let l1←app 8 ([]:List Int) p2
  let l2←app 8 l1 ([v04]:List Int)
  let y3←wR (same out1) (same nest) (same l2)
  uD (same nest) (same p2) (same y2) (same y3) (W (v04 + 1))
 else
  pure (id out1)
 partial_fixpoint
end
theorem zBt:(∀ (out:(List (List Int))) (nest:(List zI)) (p2:(List Int)) r,wR out nest p2=some r→∀ {imm:Imm}{p c cs p1 c1 p3 c2},(RL imm cs out)→(S4 imm p1 nest c1)→(S4 imm p3 p2 c2)→Ret Tryz.prog 113 [vS p out c,vS p1 nest c1,vS p3 p2 c2] imm [hO (List Int) (vS p out c) cs] (mJ  r))∧(∀ (nest:(List zI)) (p2:(List Int)) (y2:Int) (out1:List (List Int)) (v04:Int) o,uD nest p2 y2 out1 v04=some o→∀ {B}{imm0 imm:Imm}{Q p1 c1 p3 c2 p8 c7 cs3},imm0.le imm→(S4 imm p1 nest c1)→(S4 imm p3 p2 c2)→(RL imm cs3 out1)→(∀ gl a w,¬Q (.goto gl) a w)→(∀ a w,¬Q .outgrown a w)→(∀ (imm':Imm) (out2:List (List Int)) (p9:Option Addr) (c8:Nat) (cs4:List Value),o=out2→imm0.le imm'→(RL imm' cs4 out2)→T 52 B Q (.exit 0) imm' [hO (List Int) (vS p9 out2 c8) cs4] [(0,vS p9 out2 c8)])→J Tryz.prog 52 B (nav (bodyOf Tryz.f113) [1,1,1,0,1,0]) Q imm [hO (List Int) (vS p8 out1 c7) cs3] [(0,vS p8 out1 c7),(1,vS p1 nest c1),(2,vS p3 p2 c2),(8,vI y2),(9,vI v04)]):=by
  refine wR.mutual_partial_correctness (fun out nest p2 r=>∀ {imm:Imm}{p c cs p1 c1 p3 c2},(RL imm cs out)→(S4 imm p1 nest c1)→(S4 imm p3 p2 c2)→Ret Tryz.prog 113 [vS p out c,vS p1 nest c1,vS p3 p2 c2] imm [hO (List Int) (vS p out c) cs] (mJ  r)) (fun nest p2 y2 out1 v04 o=>∀ {B}{imm0 imm:Imm}{Q p1 c1 p3 c2 p8 c7 cs3},imm0.le imm→(S4 imm p1 nest c1)→(S4 imm p3 p2 c2)→(RL imm cs3 out1)→(∀ gl a w,¬Q (.goto gl) a w)→(∀ a w,¬Q .outgrown a w)→(∀ (imm':Imm) (out2:List (List Int)) (p9:Option Addr) (c8:Nat) (cs4:List Value),o=out2→imm0.le imm'→(RL imm' cs4 out2)→T 52 B Q (.exit 0) imm' [hO (List Int) (vS p9 out2 c8) cs4] [(0,vS p9 out2 c8)])→J Tryz.prog 52 B (nav (bodyOf Tryz.f113) [1,1,1,0,1,0]) Q imm [hO (List Int) (vS p8 out1 c7) cs3] [(0,vS p8 out1 c7),(1,vS p1 nest c1),(2,vS p3 p2 c2),(8,vI y2),(9,vI v04)]) ?_ ?_
  · intro F_spec_l2Points_l1 ih_spec_l2Points_l1 out nest p2 r hM imm p c cs p1 c1 p3 c2 h h1 h2;refine yH (fn:=Tryz.f113) (c:=(bodyOf Tryz.f113)) Tryz.func113 rfl rfl ?_;rintro B - -;refine zG<|zB<|yA [] []<|zF<|zG<|zG<|zB<|yA [] [(14,.bool ((p2.length:Int) == (nest.length:Int)))]<|zF<|yO hM ?_ ?_
    · intro hc hM;refine zG<|zB<|yK 1 [] [(15,vS p out c)]<|xV [] Int ?_;intro b hb;have h3:RL imm [] ([]:List Int):=rfl;refine yK 3 [] [(17,vS p3 p2 c2)] ?_;obtain ⟨ccs,k0,k01⟩:=h2;have h2:SL imm (vS p3 p2 c2) p2:=⟨_,k0,k01⟩;obtain ⟨l,hy,hM⟩:=zC hM;refine qQ 3 1 0 rfl rfl rfl h3 (.inl k0) k01 hy ?_;intro p4 c3 cs1 h4;refine rY (zL [0,1] (hs':=[hO Int (vS p4 l c3) cs1,hO (List Int) (vS p out c) cs]) rfl (by decide))<|yL 0 rfl ?_;intro imm0 le hl0;have h5:=SL.of_frozen hl0 le h4;have h:=iM le h;refine xV [vS p4 l c3] (List Int) ?_;intro b1 hb1;have h6:RL imm0 [vS p4 l c3] ([l]:List (List Int)):=⟨[vS p4 l c3],_,rfl,rfl,⟨_,rfl,h5⟩,rfl⟩;obtain ⟨t6,hy1,hM⟩:=zC hM;refine qQ 40 1 1 rfl rfl rfl h (.inr ⟨0,rfl⟩) h6 hy1 ?_;intro p5 c4 cs2 h7;refine rY (zL [1] (hs':=[hO (List Int) (vS p5 t6 c4) cs2]) rfl (by decide))<|yA [] [(6,vS p5 t6 c4)]<|zF<|yI<|zP ?_;obtain rfl:=zD hM;exact yP ⟨_,_,(.tmp rfl ResV.nil),(zL [0] rfl (by decide)),⟨_,_,_,rfl,rfl,h7⟩⟩
    intro hc hM;refine yE<|zF<|zG<|zB<|yK 3 [] [(22,vS p1 nest c1),(24,vI (p2.length:Int))] ?_;obtain ⟨x,hy2,hM⟩:=zC hM;refine wD rfl rfl h1 hy2 ?_;intro ad ccs1 hat hrep;obtain ⟨v0,v01,rfl,h8,h9⟩:=vH hrep;obtain ⟨p6,c5,rfl⟩:=h8.form;obtain ⟨p7,c6,rfl⟩:=h9.form;refine xQ 0 hat (cLoop x p6 c5 p7 c6) (vA (cLoop x p6 c5 p7 c6)) rfl<|yK 6 [] [(27,vS p3 p2 c2)] ?_;obtain ⟨⟨y1,y2⟩,hy3,hM⟩:=zC hM;refine yQ (dG x p2 _ hy3 h8 h9 h2) ?_;rintro imm01 hs2 v2 k2 le1 - ⟨v02,v03,rfl,rfl,rfl,rfl⟩ -;have h:=iM le1 h;have h1:=h1.mono le1;have h2:=h2.mono le1;refine yA [] [(7,vI y1),(8,vI y2)]<|zF<|zG<|zG<|zB<|yA [] [(9,vI y1)]<|zF<|yC<|vG [(0,vS p out c),(1,vS p1 nest c1),(2,vS p3 p2 c2),(8,vI y2),(9,vI y1)] ?_;obtain ⟨o01,ho01,hMl⟩:=zC hM;refine ih_spec_l2Points_l1 nest p2 y2 out y1 o01 ho01 iR h1 h2 h (fun _ _ _ h=>h) (fun _ _ h=>h) ?_;intro imm05 out2 p9 c8 cs4 heq1 le5 h13;subst o01;refine yD<|zF<|zG<|zB<|yA [] [(6,vS p9 out2 c8)]<|zF<|yI ?_;obtain rfl:=zD hMl;exact yP ⟨_,_,(.tmp rfl ResV.nil),(zL [0] rfl (by decide)),⟨_,_,_,rfl,rfl,h13⟩⟩
  intro F_spec_l2Points F_spec_l2Points_l1 ih_spec_l2Points ih_spec_l2Points_l1 nest p2 y2 out1 v04 o hM B imm0 imm Q p1 c1 p3 c2 p8 c7 cs3 hle h1 h2 h12 hg ho hx;refine xA hg ho<|zG<|zG ?_;obtain ⟨o0,ho0,hMc⟩:=zC hM;refine yT (fun imm' hs' m'=>∃ (t39:Bool),o0=t39∧imm.le imm'∧hs'=[hO (List Int) (vS p8 out1 c7) cs3]∧m'=[(0,vS p8 out1 c7),(1,vS p1 nest c1),(2,vS p3 p2 c2),(8,vI y2),(9,vI v04),(39,.bool t39)]) ?_ ?_
  · have hle:=iS imm;refine zB<|yK 4 [] [(35,.bool (decide (v04 < y2)))] ?_;cases hc1:(decide (v04 < y2)) with
    | true =>
     have hM0:=zV hc1 ho0
     try rw [hc1]
     exact yA [] [(39,.bool (decide ((out1.length:Int) ≤ 120)))]<|yS [(0,vS p8 out1 c7),(1,vS p1 nest c1),(2,vS p3 p2 c2),(8,vI y2),(9,vI v04),(39,.bool (decide ((out1.length:Int) ≤ 120)))]<|yB ⟨_,(zD hM0).symm,hle,rfl,rfl⟩
    | false =>
     have hM01:=zT hc1 ho0
     try rw [hc1]
     exact yA [] [(39,.bool false)]<|yS [(0,vS p8 out1 c7),(1,vS p1 nest c1),(2,vS p3 p2 c2),(8,vI y2),(9,vI v04),(39,.bool false)]<|yB ⟨_,(zD hM01).symm,hle,rfl,rfl⟩
  rintro imm02 hs2 m2 ⟨t39,heq,le2,rfl,rfl⟩;subst o0;have h12:=iM le2 h12;have h1:=h1.mono le2;have h2:=h2.mono le2;have hle:=hle.trans le2;refine zF<|yO hMc ?_ ?_
  · intro hc2 hM;refine yE<|zF<|zG<|yC<|zB<|yK 2 [] [(42,vS p8 out1 c7),(43,vS p1 nest c1)]<|xV [] Int ?_;intro b2 hb2;have h14:RL imm02 [] ([]:List Int):=rfl;refine yK 4 [] [(45,vS p3 p2 c2)] ?_;obtain ⟨ccs2,k02,k03⟩:=h2;have h2:SL imm02 (vS p3 p2 c2) p2:=⟨_,k02,k03⟩;obtain ⟨l1,hy4,hM⟩:=zC hM;refine qQ 3 1 0 rfl rfl rfl h14 (.inl k02) k03 hy4 ?_;intro p10 c9 cs5 h15;refine rY (zL [0,1] (hs':=[hO Int (vS p10 l1 c9) cs5,hO (List Int) (vS p8 out1 c7) cs3]) rfl (by decide))<|yK 6 [] [(47,vI v04)]<|xV [vI v04] Int ?_;intro b3 hb3;have h16:RL imm02 [vI v04] ([v04]:List Int):=⟨[vI v04],_,rfl,rfl,rfl,rfl⟩;obtain ⟨l2,hy5,hM⟩:=zC hM;refine qQ 3 1 1 rfl rfl rfl h15 (.inr ⟨0,rfl⟩) h16 hy5 ?_;intro p11 c10 cs6 h17;refine rY (zL [1,2] (hs':=[hO Int (vS p11 l2 c10) cs6,hO (List Int) (vS p8 out1 c7) cs3]) rfl (by decide))<|yL 0 rfl ?_;intro imm03 le3 hl01;have h18:=SL.of_frozen hl01 le3 h17;have h1:=h1.mono le3;have h2:=h2.mono le3;have h12:=iM le3 h12;have hle:=hle.trans le3;obtain ⟨y3,hy6,hM⟩:=zC hM;refine tV [hO (List Int) (vS p8 out1 c7) cs3] [] (ih_spec_l2Points out1 nest l2 _ hy6 h12 h1 h18) ?_;rintro imm04 hs2 v2 k2 le4 - ⟨p12,c11,cs7,rfl,rfl,h19⟩ -;have h1:=h1.mono le4;have h2:=h2.mono le4;have hle:=hle.trans le4;exact yA [] [(0,vS p12 y3 c11)]<|zY<|zF<|zB<|yA [] [(9,vI (W (v04 + 1)))]<|xB<|vG [(0,vS p12 y3 c11),(1,vS p1 nest c1),(2,vS p3 p2 c2),(8,vI y2),(9,vI (W (v04 + 1)))]<|ih_spec_l2Points_l1 nest p2 y2 y3 (W (v04 + 1)) _ hM hle h1 h2 h19 hg ho hx
  intro hc2 hM;exact yZ<|zS<|zS<|yS [(0,vS p8 out1 c7)]<|hx _ _ _ _ _ (zD hM).symm hle h12
theorem fM:∀ (out:(List (List Int))) (nest:(List zI)) (p2:(List Int)) r,wR out nest p2=some r→∀ {imm:Imm}{p c cs p1 c1 p3 c2},(RL imm cs out)→(S4 imm p1 nest c1)→(S4 imm p3 p2 c2)→Ret Tryz.prog 113 [vS p out c,vS p1 nest c1,vS p3 p2 c2] imm [hO (List Int) (vS p out c) cs] (mJ  r):=zBt.1
end Go.LN
