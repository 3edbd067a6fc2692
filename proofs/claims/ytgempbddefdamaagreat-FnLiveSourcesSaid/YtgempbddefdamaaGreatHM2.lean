/- Helper of the proof (see the last text). -/
import Derived.Test.YtgempbddefdamaaGreatHM1
set_option linter.unusedVariables false
set_option linter.unusedSimpArgs false
namespace Go.LN
open Go.Proofs
set_option maxRecDepth 20000
def mC (b0:Nat) (r:zV×zO):KT:=fun kk imm' hs' v=>
  ∃ v0 k0,hs'=[.blk b0 ⟨k0⟩]∧v=tupV [v0]∧(∃ cs,v0=.agg ⟨cs⟩∧Rp.rep imm' cs r.1)∧Rp.rep imm' k0 r.2
def qD (r0:zO) (p1:zV):Option (zV×zO):=do
 let y←sH p1
 let (y2,y3)←yW r0 60
 let (Arrays,Parts,x)←(do
   if (y2 == 0) then
    let (y5,y6)←qB y3 ([(⟨[65]⟩:Str),(⟨[68]⟩:Str),(⟨[69]⟩:Str)]:List Str)
    let (y8,y9)←yV y6 ([7,0,3,(-1)]:List Int)
    let l←app 40 y.Arrays ([(zJ.mk y5 ([y8]:List Int))]:List zJ)
    pure (l,y.Parts,y9)
   else
    let (Arrays1,Parts1,x1)←(do
      if (y2 == 1) then
       let (Arrays2,x2)←(do
         if (decide ((y.Arrays.length:Int) > 0)) then
          let (y11,y12)←yV y3 ([1,2,7]:List Int)
          let x3←idx y.Arrays 0
          let l1←pure (y.Arrays.set (0:Int).toNat (zJ.mk x3.Name ([y11]:List Int)))
          pure (l1,y12)
         else
          pure (y.Arrays,y3)
           : Option (List zJ×zO))
       pure (Arrays2,y.Parts,x2)
      else
       let (Parts2,x4)←(do
         if (y2 == 2) then
          let (Parts3,x5)←(do
            if (decide ((y.Parts.length:Int) > 0)) then
             let x6←idx y.Parts 0
             let (y14,y15)←qC y3 x6.Nest
             let (y17,y18)←qC y15 y14
             let (y20,y21)←qC y18 y17
             let x7←idx y.Parts 0
             let l2←pure (y.Parts.set (0:Int).toNat (zP.mk y20 x7.Body))
             pure (l2,y21)
            else
             pure (y.Parts,y3)
              : Option (List zP×zO))
          pure (Parts3,x5)
         else
          let (Parts4,x8)←(do
            if (y2 == 3) then
             let t76←(do
               if (decide ((y.Parts.length:Int) > 0)) then
                let x9←idx y.Parts (W ((y.Parts.length:Int) - 1))
                pure (decide ((x9.Body.length:Int) > 0))
               else
                pure false
                 : Option Bool)
             let (Parts5,x10)←(do
               if t76 then
                let x11←idx y.Parts (W ((y.Parts.length:Int) - 1))
                let x12←idx x11.Body 0
                let (y22,y23)←uZ y3 x12
                let (y24,y25)←uZ y23 y22
                let (y26,y27)←uZ y25 y24
                let l3←pure ((y.Parts).set (W ((y.Parts.length:Int) - 1)).toNat (zP.mk x11.Nest (x11.Body.set 0 y26)))
                pure (l3,y27)
               else
                pure (y.Parts,y3)
                 : Option (List zP×zO))
             pure (Parts5,x10)
            else
             let Parts6←(do
               if (y2 == 4) then
                let Parts7←(do
                  if (decide ((y.Parts.length:Int) > 0)) then
                   let x13←idx y.Parts (W ((y.Parts.length:Int) - 1))
                   let l4←pure (y.Parts.set (W ((y.Parts.length:Int) - 1)).toNat (zP.mk x13.Nest ([]:List zQ)))
                   pure (id l4)
                  else
                   pure y.Parts
                    : Option (List zP))
                pure (id Parts7)
               else
                pure y.Parts
                 : Option (List zP))
             pure (Parts6,y3)
              : Option (List zP×zO))
          pure (Parts4,x8)
           : Option (List zP×zO))
       pure (y.Arrays,Parts2,x4)
        : Option (List zJ×List zP×zO))
    pure (Arrays1,Parts1,x1)
     : Option (List zJ×List zP×zO))
 pure ((zV.mk Arrays Parts),x)
theorem zB3:∀ (r0:zO) (p1:zV) r,qD r0 p1=some r→∀ {imm:Imm}{r01:Nat}{p c p2 c1 p3 c2},(S4 imm p r0.b c)→(S4 imm p2 p1.Arrays c1)→(S4 imm p3 p1.Parts c2)→(∀ (y:zV) (y2:Int) (y3:zO) (x:zP) (s:zQ),sH p1=some y→yW r0 60=some (y2,y3)→(y2 == 3)=true→idx y.Parts (W ((y.Parts.length:Int) - 1))=some x→idx x.Body 0=some s→False)→Ret Tryz.prog 49 [vP r01 0,vA (cProg p1 p2 c1 p3 c2)] imm [hB r01 (cRd r0 p c)] (mC r01 r):=by
 intro r0 p1 r hM imm r01 p c p2 c1 p3 c2 h h1 h2 hne;unfold qD at hM;refine yG (fn:=Tryz.f49) (c:=(bodyOf Tryz.f49)) Tryz.func49 rfl rfl ?_;rintro B - -;have hle:=iS imm;refine zF<|zB<|tR (cProg p1 p2 c1 p3 c2) ?_;intro b hb;refine uD zTwo ?_;intro b1 hb1;refine yN rfl<|zE<|zF<|zB<|yK 1 [1] [(7,vA (cProg p1 p2 c1 p3 c2))] ?_;obtain ⟨y,hy,hM⟩:=zC hM;refine yR (zDe p1 _ hy h1 h2) ?_;rintro imm0 hs2 v2 k2 le - ⟨p4,c3,cs,p5,c4,cs1,rfl,rfl,h3,h4⟩ -;have h:=h.mono le;have hle:=hle.trans le;refine uD zTwo ?_;intro b2 hb2;refine xJ 0 (cProg y p4 c3 p5 c4) [hB b2 (cProg y p4 c3 p5 c4),hO zJ (vS p4 y.Arrays c3) cs,hO zP (vS p5 y.Parts c4) cs1,hB b1 zTwo,hB b (cProg p1 p2 c1 p3 c2),hB r01 (cRd r0 p c)] rfl rfl rfl rfl<|yN rfl<|zE<|zF<|zB<|yA [0] [(6,vI (y.Parts.length:Int))]<|zE<|zF<|zF<|zB<|yK 1 [] [(12,vP r01 0)]<|rX (zK [5,0,1,2,3,4] (hs':=[hB r01 (cRd r0 p c),hB b2 (cProg y p4 c3 p5 c4),hO zJ (vS p4 y.Arrays c3) cs,hO zP (vS p5 y.Parts c4) cs1,hB b1 zTwo,hB b (cProg p1 p2 c1 p3 c2)]) rfl (by decide)) ?_;obtain ⟨⟨y2,y3⟩,hy1,hM⟩:=zC hM;refine sD [hB r01 (cRd r0 p c)] [hB b2 (cProg y p4 c3 p5 c4),hO zJ (vS p4 y.Arrays c3) cs,hO zP (vS p5 y.Parts c4) cs1,hB b1 zTwo,hB b (cProg p1 p2 c1 p3 c2)] (xL r0 60 _ hy1 h) ?_;rintro imm01 hs2 v2 k2 le1 - ⟨v0,kk,rfl,rfl,rfl,h6⟩ -;have h3:=iM le1 h3;have h4:=iM le1 h4;have hle:=hle.trans le1;obtain ⟨v01,rfl,h7⟩:=yI h6;obtain ⟨p6,c5,rfl⟩:=h7.form;refine yN rfl<|zE<|yC<|zF<|zB<|yA [] [(14,.bool (y2 == 0))]<|zE<|qW 5 rfl ?_;intro imm02 le2 hl0;have hat:At imm02 ⟨b,0,none⟩ (cProg p1 p2 c1 p3 c2):=At.of_blk hl0;have h7:=h7.mono le2;have h3:=iM le2 h3;have h4:=iM le2 h4;have hle:=hle.trans le2;obtain ⟨o0,ho0,hMc⟩:=zC hM;refine yU (fun imm' hs' m'=>∃ (Arrays:List zJ) (Parts:List zP) (x:zO) (p7:Option Addr) (c6:Nat) (cs2:List Value) (p8:Option Addr) (c7:Nat) (cs3:List Value) (p9:Option Addr) (c8:Nat),o0=(Arrays,Parts,x)∧imm02.le imm'∧(RL imm' cs2 Arrays)∧(RL imm' cs3 Parts)∧(S4 imm' p9 x.b c8)∧hs'=[hB r01 (cRd x p9 c8),hB b2 [vS p7 Arrays c6,vS p8 Parts c7],hO zJ (vS p7 Arrays c6) cs2,hO zP (vS p8 Parts c7) cs3,hB b1 zTwo]∧m'=[(4,vP b1 0),(5,vP b2 0)]) ?_ ?_
 · have hle:=iS imm02;refine yO ho0 ?_ ?_
   · intro hc hM;obtain ⟨⟨y5,y6⟩,hy2,hM⟩:=zC hM;obtain ⟨⟨y8,y9⟩,hy3,hM⟩:=zC hM;obtain ⟨l,hy4,hM⟩:=zC hM;refine uA [.p (vP b2 0) [],.p (vS p4 y.Arrays c3) [0],.p (vP r01 0) [],.x (fun imm' v hx=>∃ b3,v=vS (some ⟨b3,0,none⟩) ([(⟨[65]⟩:Str),(⟨[68]⟩:Str),(⟨[69]⟩:Str)]:List Str) 3∧hx=[]∧(SL imm' (vS (some ⟨b3,0,none⟩) ([(⟨[65]⟩:Str),(⟨[68]⟩:Str),(⟨[69]⟩:Str)]:List Str) 3) ([(⟨[65]⟩:Str),(⟨[68]⟩:Str),(⟨[69]⟩:Str)]:List Str))),.x (fun imm' v hx=>∃ p10 c9,v=vT y5.l∧hx=[hB r01 (cRd y6 p10 c9)]∧(S4 imm' p10 y6.b c9)),.p (vP r01 0) [],.x (fun imm' v hx=>∃ b4,v=vS (some ⟨b4,0,none⟩) ([7,0,3,(-1)]:List Int) 4∧hx=[]∧(SL imm' (vS (some ⟨b4,0,none⟩) ([7,0,3,(-1)]:List Int) 4) ([7,0,3,(-1)]:List Int))),.x (fun imm' v hx=>∃ p11 c10,v=vI y8∧hx=[hB r01 (cRd y9 p11 c10)]∧(S4 imm' p11 y9.b c10)),.x (fun imm' v hx=>∃ b5,v=vS (some ⟨b5,0,none⟩) ([y8]:List Int) 1∧hx=[]∧(SL imm' (vS (some ⟨b5,0,none⟩) ([y8]:List Int) 1) ([y8]:List Int))),.x (fun imm' v hx=>∃ b51,v=vA [vT y5.l,vS (some ⟨b51,0,none⟩) ([y8]:List Int) 1]∧hx=[]∧(SL imm' (vS (some ⟨b51,0,none⟩) ([y8]:List Int) 1) ([y8]:List Int))),.x (fun imm' v hx=>∃ b6,v=vS (some ⟨b6,0,none⟩) ([(zJ.mk y5 ([y8]:List Int))]:List zJ) 1∧hx=[]∧(SL imm' (vS (some ⟨b6,0,none⟩) ([(zJ.mk y5 ([y8]:List Int))]:List zJ) 1) ([(zJ.mk y5 ([y8]:List Int))]:List zJ))),.x (fun imm' v hx=>∃ p12 c11 cs4,v=vS p12 l c11∧hx=[hO zJ (vS p12 l c11) cs4]∧(RL imm' cs4 l))] [[],[(0,false)],[],[],[(2,false),(3,false),(14,true)],[],[],[(5,false),(6,false),(4,true)],[(7,false)],[(4,false),(8,false)],[(9,false)],[(1,false),(10,false),(15,true)]] [hB b2 (cProg y p4 c3 p5 c4),hO zP (vS p5 y.Parts c4) cs1,hB b1 zTwo] [[hB r01 (cRd y3 p6 c5)],[hO zJ (vS p4 y.Arrays c3) cs]] [(7,true),(11,true)] (zK [1,3,4,0,2] rfl (by decide)) ?_ ?_
     · refine Op<|Op<|Op<|Ox ?_<|Ox ?_<|Op<|Ox ?_<|Ox ?_<|Ox ?_<|Ox ?_<|Ox ?_<|Ox ?_<|On
       · intro imm1 hf le1;refine zN<|yH [] ?_;have hle:=iS imm1;refine xQ [vT ([65]),vT ([68]),vT ([69])] Str ?_;intro b3 hb3;have h11:RL imm1 [vT ([65]),vT ([68]),vT ([69])] ([(⟨[65]⟩:Str),(⟨[68]⟩:Str),(⟨[69]⟩:Str)]:List Str):=⟨[vT ([65])],_,rfl,rfl,rfl,⟨[vT ([68])],_,rfl,rfl,rfl,⟨[vT ([69])],_,rfl,rfl,rfl,rfl⟩⟩⟩;refine yL 0 rfl ?_;intro imm04 le3 hl01;have h12:=SL.of_frozen hl01 le3 h11;have hle:=hle.trans le3;exact zZ (hx:=[]) rfl hle rfl (zM rfl) ⟨_,rfl,rfl,h12⟩
       · intro imm1 hf le1;refine zG ?_;rintro _ _ ⟨rfl,rfl⟩;refine zG ?_;rintro _ _ ⟨b3,rfl,rfl,h12⟩;refine zG ?_;rintro _ _ rfl;refine zN<|yH [(18,vP r01 0),(19,vS (some ⟨b3,0,none⟩) ([(⟨[65]⟩:Str),(⟨[68]⟩:Str),(⟨[69]⟩:Str)]:List Str) 3)] ?_;have hle:=iS imm1;have h7:=h7.mono le1;refine sD [hB r01 (cRd y3 p6 c5)] (hB b2 (cProg y p4 c3 p5 c4)::hO zP (vS p5 y.Parts c4) cs1::hB b1 zTwo::hf) (mV y3 ([(⟨[65]⟩:Str),(⟨[68]⟩:Str),(⟨[69]⟩:Str)]:List Str) _ hy2 h7 h12) ?_;rintro imm05 hs2 v2 k2 le4 - ⟨v02,kk1,rfl,rfl,rfl,h14⟩ -;have hle:=hle.trans le4;obtain ⟨v03,rfl,h15⟩:=yI h14;obtain ⟨p10,c9,rfl⟩:=h15.form;exact zZ (hx:=[hB r01 (cRd y6 p10 c9)]) rfl hle rfl (zM rfl) ⟨_,_,rfl,rfl,h15⟩
       · intro imm1 hf le1;refine zN<|yH [] ?_;have hle:=iS imm1;refine xQ [vI 7,vI 0,vI 3,vI (-1)] Int ?_;intro b4 hb4;have h16:RL imm1 [vI 7,vI 0,vI 3,vI (-1)] ([7,0,3,(-1)]:List Int):=⟨[vI 7],_,rfl,rfl,rfl,⟨[vI 0],_,rfl,rfl,rfl,⟨[vI 3],_,rfl,rfl,rfl,⟨[vI (-1)],_,rfl,rfl,rfl,rfl⟩⟩⟩⟩;refine yL 0 rfl ?_;intro imm06 le5 hl02;have h17:=SL.of_frozen hl02 le5 h16;have hle:=hle.trans le5;exact zZ (hx:=[]) rfl hle rfl (zM rfl) ⟨_,rfl,rfl,h17⟩
       · intro imm1 hf le1;refine zG ?_;rintro _ _ ⟨rfl,rfl⟩;refine zG ?_;rintro _ _ ⟨b4,rfl,rfl,h17⟩;refine zG ?_;rintro _ _ ⟨p10,c9,rfl,rfl,h15⟩;refine zN<|yH [(21,vP r01 0),(22,vS (some ⟨b4,0,none⟩) ([7,0,3,(-1)]:List Int) 4)] ?_;have hle:=iS imm1;refine sD [hB r01 (cRd y6 p10 c9)] (hB b2 (cProg y p4 c3 p5 c4)::hO zP (vS p5 y.Parts c4) cs1::hB b1 zTwo::hf) (xF y6 ([7,0,3,(-1)]:List Int) _ hy3 h15 h17) ?_;rintro imm07 hs2 v2 k2 le6 - ⟨v04,kk2,rfl,rfl,rfl,h19⟩ -;have hle:=hle.trans le6;obtain ⟨v05,rfl,h20⟩:=yI h19;obtain ⟨p11,c10,rfl⟩:=h20.form;exact zZ (hx:=[hB r01 (cRd y9 p11 c10)]) rfl hle rfl (zM rfl) ⟨_,_,rfl,rfl,h20⟩
       · intro imm1 hf le1;refine zG ?_;rintro _ _ ⟨p11,c10,rfl,rfl,h20⟩;refine zN<|yH [(23,vI y8)] ?_;have hle:=iS imm1;refine xQ [vI y8] Int ?_;intro b5 hb5;have h21:RL imm1 [vI y8] ([y8]:List Int):=⟨[vI y8],_,rfl,rfl,rfl,rfl⟩;refine yL 0 rfl ?_;intro imm08 le7 hl03;have h22:=SL.of_frozen hl03 le7 h21;have hle:=hle.trans le7;exact zZ (hx:=[]) rfl hle rfl (zM rfl) ⟨_,rfl,rfl,h22⟩
       · intro imm1 hf le1;refine zG ?_;rintro _ _ ⟨p10,c9,rfl,rfl,h15⟩;refine zG ?_;rintro _ _ ⟨b5,rfl,rfl,h22⟩;refine zN<|yH [(20,vT y5.l),(24,vS (some ⟨b5,0,none⟩) ([y8]:List Int) 1)] ?_;have hle:=iS imm1;exact qV 10 [(25,vA [vT y5.l,vS (some ⟨b5,0,none⟩) ([y8]:List Int) 1])]<|zZ (hx:=[]) rfl hle rfl (zM rfl) ⟨_,rfl,rfl,h22⟩
       · intro imm1 hf le1;refine zG ?_;rintro _ _ ⟨b51,rfl,rfl,h221⟩;refine zN<|yH [(25,vA [vT y5.l,vS (some ⟨b51,0,none⟩) ([y8]:List Int) 1])] ?_;have hle:=iS imm1;refine xQ [vT y5.l,vS (some ⟨b51,0,none⟩) ([y8]:List Int) 1] zJ ?_;intro b6 hb6;have h23:RL imm1 [vT y5.l,vS (some ⟨b51,0,none⟩) ([y8]:List Int) 1] ([(zJ.mk y5 ([y8]:List Int))]:List zJ):=⟨[vT y5.l,vS (some ⟨b51,0,none⟩) ([y8]:List Int) 1],_,rfl,rfl,(pG ⟨_,rfl,h221⟩),rfl⟩;refine yL 0 rfl ?_;intro imm09 le8 hl04;have h24:=SL.of_frozen hl04 le8 h23;have hle:=hle.trans le8;exact zZ (hx:=[]) rfl hle rfl (zM rfl) ⟨_,rfl,rfl,h24⟩
       intro imm1 hf le1;refine zG ?_;rintro _ _ ⟨rfl,rfl⟩;refine zG ?_;rintro _ _ ⟨b6,rfl,rfl,h24⟩;refine zG ?_;rintro _ _ rfl;refine zN<|yH [(17,vS p4 y.Arrays c3),(26,vS (some ⟨b6,0,none⟩) ([(zJ.mk y5 ([y8]:List Int))]:List zJ) 1)] ?_;have hle:=iS imm1;have h3:=iM le1 h3;obtain ⟨ccs,k0,k01⟩:=h24;have h24:SL imm1 (vS (some ⟨b6,0,none⟩) ([(zJ.mk y5 ([y8]:List Int))]:List zJ) 1) ([(zJ.mk y5 ([y8]:List Int))]:List zJ):=⟨_,k0,k01⟩;refine qI 112 2 0 rfl rfl rfl h3 (.inl k0) k01 hy4 ?_;intro p12 c11 cs4 h25;exact uB (hs':=(hO zJ (vS p12 l c11) cs4::hB b2 (cProg y p4 c3 p5 c4)::hO zP (vS p5 y.Parts c4) cs1::hB b1 zTwo::hf)) rfl<|zZ (hx:=[hO zJ (vS p12 l c11) cs4]) rfl hle rfl (zM rfl) ⟨_,_,_,rfl,rfl,h25⟩
     intro imm010 le9;refine zG ?_;rintro _ _ ⟨p11,c10,rfl,rfl,h20⟩;refine zG ?_;rintro _ _ ⟨p12,c11,cs4,rfl,rfl,h25⟩;refine zN<|yH [(4,vP b1 0),(5,vP b2 0),(27,vS p12 l c11)] ?_;have h4:=iM le9 h4;have hle:=hle.trans le9;exact yK 13 [] [(28,vP b2 0)]<|xJ 2 [vS p12 l c11,vS p5 y.Parts c4] [hO zJ (vS p12 l c11) cs4,hB r01 (cRd y9 p11 c10),hB b2 [vS p12 l c11,vS p5 y.Parts c4],hO zP (vS p5 y.Parts c4) cs1,hB b1 zTwo] rfl rfl rfl rfl<|yN rfl<|wD (zK [1,2,0,3,4] rfl (by decide))<|yT [(4,vP b1 0),(5,vP b2 0)]<|yB ⟨_,_,_,_,_,_,_,_,_,_,_,(zD hM).symm,hle,h25,h4,h20,rfl,rfl⟩
   intro hc hM;refine zF<|zB<|yA [] [(29,.bool (y2 == 1))]<|zE ?_;obtain ⟨o01,ho01,hMc1⟩:=zC hM;refine yU (fun imm' hs' m'=>∃ (Arrays1:List zJ) (Parts1:List zP) (x1:zO) (p13:Option Addr) (c12:Nat) (cs5:List Value) (p14:Option Addr) (c13:Nat) (cs6:List Value) (p15:Option Addr) (c14:Nat),o01=(Arrays1,Parts1,x1)∧imm02.le imm'∧(RL imm' cs5 Arrays1)∧(RL imm' cs6 Parts1)∧(S4 imm' p15 x1.b c14)∧hs'=[hB r01 (cRd x1 p15 c14),hB b2 [vS p13 Arrays1 c12,vS p14 Parts1 c13],hO zJ (vS p13 Arrays1 c12) cs5,hO zP (vS p14 Parts1 c13) cs6,hB b1 zTwo]∧m'=[(4,vP b1 0),(5,vP b2 0)]) ?_ ?_
   · have hle:=iS imm02;refine yO ho01 ?_ ?_
     · intro hc1 hM;refine zF<|zB<|yA [1] [(34,.bool (decide ((y.Arrays.length:Int) > 0)))]<|zE ?_;obtain ⟨o02,ho02,hMc2⟩:=zC hM;refine yU (fun imm' hs' m'=>∃ (Arrays2:List zJ) (x2:zO) (p16:Option Addr) (c15:Nat) (cs7:List Value) (p17:Option Addr) (c16:Nat),o02=(Arrays2,x2)∧imm02.le imm'∧(RL imm' cs7 Arrays2)∧(S4 imm' p17 x2.b c16)∧hs'=[hB r01 (cRd x2 p17 c16),hB b2 [vS p16 Arrays2 c15,vS p5 y.Parts c4],hO zJ (vS p16 Arrays2 c15) cs7,hO zP (vS p5 y.Parts c4) cs1,hB b1 zTwo]∧m'=[(4,vP b1 0),(5,vP b2 0)]) ?_ ?_
       · have hle:=iS imm02;refine yO ho02 ?_ ?_
         · intro hc2 hM;obtain ⟨⟨y11,y12⟩,hy5,hM⟩:=zC hM;refine uA [.p (vP b2 0) [],.p (vS p4 y.Arrays c3) [0],.p (vP r01 0) [],.x (fun imm' v hx=>∃ b7,v=vS (some ⟨b7,0,none⟩) ([1,2,7]:List Int) 3∧hx=[]∧(SL imm' (vS (some ⟨b7,0,none⟩) ([1,2,7]:List Int) 3) ([1,2,7]:List Int))),.x (fun imm' v hx=>∃ p18 c17,v=vI y11∧hx=[hB r01 (cRd y12 p18 c17)]∧(S4 imm' p18 y12.b c17)),.x (fun imm' v hx=>∃ b8,v=vS (some ⟨b8,0,none⟩) ([y11]:List Int) 1∧hx=[]∧(SL imm' (vS (some ⟨b8,0,none⟩) ([y11]:List Int) 1) ([y11]:List Int)))] [[],[(0,false)],[],[],[(2,false),(3,false),(9,true)],[(4,false)]] [hB b2 (cProg y p4 c3 p5 c4),hO zJ (vS p4 y.Arrays c3) cs,hO zP (vS p5 y.Parts c4) cs1,hB b1 zTwo] [[hB r01 (cRd y3 p6 c5)]] [(1,false),(4,true),(5,false)] (zK [1,2,3,4,0] rfl (by decide)) ?_ ?_
           · refine Op<|Op<|Op<|Ox ?_<|Ox ?_<|Ox ?_<|On
             · intro imm1 hf le1;refine zN<|yH [] ?_;have hle:=iS imm1;refine xQ [vI 1,vI 2,vI 7] Int ?_;intro b7 hb7;have h31:RL imm1 [vI 1,vI 2,vI 7] ([1,2,7]:List Int):=⟨[vI 1],_,rfl,rfl,rfl,⟨[vI 2],_,rfl,rfl,rfl,⟨[vI 7],_,rfl,rfl,rfl,rfl⟩⟩⟩;refine yL 0 rfl ?_;intro imm013 le10 hl05;have h32:=SL.of_frozen hl05 le10 h31;have hle:=hle.trans le10;exact zZ (hx:=[]) rfl hle rfl (zM rfl) ⟨_,rfl,rfl,h32⟩
             · intro imm1 hf le1;refine zG ?_;rintro _ _ ⟨rfl,rfl⟩;refine zG ?_;rintro _ _ ⟨b7,rfl,rfl,h32⟩;refine zG ?_;rintro _ _ rfl;refine zN<|yH [(37,vP r01 0),(38,vS (some ⟨b7,0,none⟩) ([1,2,7]:List Int) 3)] ?_;have hle:=iS imm1;have h7:=h7.mono le1;refine sD [hB r01 (cRd y3 p6 c5)] (hB b2 (cProg y p4 c3 p5 c4)::hO zJ (vS p4 y.Arrays c3) cs::hO zP (vS p5 y.Parts c4) cs1::hB b1 zTwo::hf) (xF y3 ([1,2,7]:List Int) _ hy5 h7 h32) ?_;rintro imm014 hs2 v2 k2 le11 - ⟨v06,kk3,rfl,rfl,rfl,h34⟩ -;have hle:=hle.trans le11;obtain ⟨v07,rfl,h35⟩:=yI h34;obtain ⟨p18,c17,rfl⟩:=h35.form;exact zZ (hx:=[hB r01 (cRd y12 p18 c17)]) rfl hle rfl (zM rfl) ⟨_,_,rfl,rfl,h35⟩
             intro imm1 hf le1;refine zG ?_;rintro _ _ ⟨p18,c17,rfl,rfl,h35⟩;refine zN<|yH [(39,vI y11)] ?_;have hle:=iS imm1;refine xQ [vI y11] Int ?_;intro b8 hb8;have h36:RL imm1 [vI y11] ([y11]:List Int):=⟨[vI y11],_,rfl,rfl,rfl,rfl⟩;refine yL 0 rfl ?_;intro imm015 le12 hl06;have h37:=SL.of_frozen hl06 le12 h36;have hle:=hle.trans le12;exact zZ (hx:=[]) rfl hle rfl (zM rfl) ⟨_,rfl,rfl,h37⟩
           intro imm016 le13;refine zG ?_;rintro _ _ ⟨rfl,rfl⟩;refine zG ?_;rintro _ _ ⟨p18,c17,rfl,rfl,h35⟩;refine zG ?_;rintro _ _ ⟨b8,rfl,rfl,h37⟩;refine zN<|yH [(4,vP b1 0),(5,vP b2 0),(36,vS p4 y.Arrays c3),(40,vS (some ⟨b8,0,none⟩) ([y11]:List Int) 1)] ?_;have h3:=iM le13 h3;have hle:=hle.trans le13;obtain ⟨x3,hy6,hM⟩:=zC hM;refine nK 2 rfl rfl rfl h3 hy6 ?_;intro ad ccs1 hat1 hcc hrep;obtain ⟨v08,rfl,h38⟩:=xZ hrep;obtain ⟨p19,c18,rfl⟩:=h38.form;refine yK 8 [] [(42,.pointer (some (ad.add 1)))] ?_;obtain ⟨l1,hy7,hM⟩:=zC hM;refine qX (c:=[vT x3.Name.l,vS (some ⟨b8,0,none⟩) ([y11]:List Int) 1]) (x':=(zJ.mk x3.Name ([y11]:List Int))) 2 1 rfl rfl rfl hat1 rfl rfl hcc (by kernel_rfl) (by kernel_rfl) (by kernel_rfl) h3 hy6 (by kernel_rfl) (pG ⟨_,rfl,h37⟩) ?_;rw [show y.Arrays.set (0:Int).toNat (zJ.mk x3.Name ([y11]:List Int))=l1 from zD hy7];intro cs8 h39 hl07;exact kJ (m':=[(4,vP b1 0),(5,vP b2 0),(40,vS (some ⟨b8,0,none⟩) ([y11]:List Int) 1)]) ⟨rfl,rfl,rfl,trivial⟩<|zCM (hs':=[hB r01 (cRd y12 p18 c17),hB b2 [vS p4 l1 c3,vS p5 y.Parts c4],hO zJ (vS p4 l1 c3) cs8,hO zP (vS p5 y.Parts c4) cs1,hB b1 zTwo]) (m':=[(4,vP b1 0),(5,vP b2 0),(40,vS (some ⟨b8,0,none⟩) ([y11]:List Int) 1)]) (by first | rfl | simp only [vS,hl07,List.nil_append,List.cons_append,List.set_cons_zero,List.set_cons_succ,List.eraseIdx_cons_zero,List.eraseIdx_cons_succ]) (by first | rfl | simp only [vS,hl07])<|yN rfl<|yT [(4,vP b1 0),(5,vP b2 0)]<|yB ⟨_,_,_,_,_,_,_,(zD hM).symm,hle,h39,h35,rfl,rfl⟩
         intro hc2 hM;exact yE<|yT [(4,vP b1 0),(5,vP b2 0)]<|yB ⟨_,_,_,_,_,_,_,(zD hM).symm,hle,h3,h7,rfl,rfl⟩
       rintro imm012 hs2 m2 ⟨Arrays2,x2,p16,c15,cs7,p17,c16,heq,le14,h29,h30,rfl,rfl⟩;subst o02;have h4:=iM le14 h4;have hle:=hle.trans le14;exact yT [(4,vP b1 0),(5,vP b2 0)]<|yB ⟨_,_,_,_,_,_,_,_,_,_,_,(zD hMc2).symm,hle,h29,h4,h30,rfl,rfl⟩
     intro hc1 hM;refine zF<|zB<|yA [] [(43,.bool (y2 == 2))]<|zE ?_;obtain ⟨o03,ho03,hMc3⟩:=zC hM;refine yU (fun imm' hs' m'=>∃ (Parts2:List zP) (x4:zO) (p20:Option Addr) (c19:Nat) (cs9:List Value) (p21:Option Addr) (c20:Nat),o03=(Parts2,x4)∧imm02.le imm'∧(RL imm' cs9 Parts2)∧(S4 imm' p21 x4.b c20)∧hs'=[hB r01 (cRd x4 p21 c20),hB b2 [vS p4 y.Arrays c3,vS p20 Parts2 c19],hO zJ (vS p4 y.Arrays c3) cs,hO zP (vS p20 Parts2 c19) cs9,hB b1 zTwo]∧m'=[(4,vP b1 0),(5,vP b2 0)]) ?_ ?_
     · have hle:=iS imm02;refine yO ho03 ?_ ?_
       · intro hc3 hM;refine zF<|zB<|yA [] [(46,.bool (decide ((y.Parts.length:Int) > 0)))]<|zE ?_;obtain ⟨o04,ho04,hMc4⟩:=zC hM;refine yU (fun imm' hs' m'=>∃ (Parts3:List zP) (x5:zO) (p22:Option Addr) (c21:Nat) (cs10:List Value) (p23:Option Addr) (c22:Nat),o04=(Parts3,x5)∧imm02.le imm'∧(RL imm' cs10 Parts3)∧(S4 imm' p23 x5.b c22)∧hs'=[hB r01 (cRd x5 p23 c22),hB b2 [vS p4 y.Arrays c3,vS p22 Parts3 c21],hO zJ (vS p4 y.Arrays c3) cs,hO zP (vS p22 Parts3 c21) cs10,hB b1 zTwo]∧m'=[(4,vP b1 0),(5,vP b2 0)]) ?_ ?_
         · have hle:=iS imm02;refine yO ho04 ?_ ?_
           · intro hc4 hM;obtain ⟨x6,hy8,hM⟩:=zC hM;obtain ⟨⟨y14,y15⟩,hy9,hM⟩:=zC hM;obtain ⟨⟨y17,y18⟩,hy10,hM⟩:=zC hM;obtain ⟨⟨y20,y21⟩,hy11,hM⟩:=zC hM;refine uA [.p (vP b2 1) [],.p (vS p5 y.Parts c4) [0],.p (vP r01 0) [],.p (vP r01 0) [],.p (vP r01 0) [],.p (vP b2 1) [],.p (vS p5 y.Parts c4) [0],.x (fun imm' v hx=>∃ ad1 p24 c23 p25 c24,v=.pointer (some ad1)∧hx=[]∧(AtO (vS p5 y.Parts c4) (Rp.sz zP) (0:Int).toNat ad1)∧((cs1.drop ((0:Int).toNat * Rp.sz zP)).take (Rp.sz zP)=(cPart x6 p24 c23 p25 c24))∧(S4 imm' p24 x6.Nest c23)∧(S4 imm' p25 x6.Body c24)),.x (fun imm' v hx=>∃ ad11 p241 c231 p251 c241,v=.pointer (some ad11)∧hx=[]∧(AtO (vS p5 y.Parts c4) (Rp.sz zP) (0:Int).toNat ad11)∧((cs1.drop ((0:Int).toNat * Rp.sz zP)).take (Rp.sz zP)=(cPart x6 p241 c231 p251 c241))∧(S4 imm' p241 x6.Nest c231)∧(S4 imm' p251 x6.Body c241)),.x (fun imm' v hx=>∃ p2411 c2311,v=vS p2411 x6.Nest c2311∧hx=[]∧(S4 imm' p2411 x6.Nest c2311)),.x (fun imm' v hx=>∃ p26 c25 p27 c26,v=vS p26 y14 c25∧hx=[hB r01 (cRd y15 p27 c26)]∧(S4 imm' p26 y14 c25)∧(S4 imm' p27 y15.b c26)),.x (fun imm' v hx=>∃ p28 c27 p29 c28,v=vS p28 y17 c27∧hx=[hB r01 (cRd y18 p29 c28)]∧(S4 imm' p28 y17 c27)∧(S4 imm' p29 y18.b c28)),.x (fun imm' v hx=>∃ p30 c29 p31 c30,v=vS p30 y20 c29∧hx=[hB r01 (cRd y21 p31 c30)]∧(S4 imm' p30 y20 c29)∧(S4 imm' p31 y21.b c30))] [[],[(0,false)],[],[],[],[],[(5,false)],[(6,false)],[(7,false)],[(8,false)],[(4,false),(9,false),(16,true)],[(3,false),(10,true)],[(2,false),(11,true)]] [hB b2 (cProg y p4 c3 p5 c4),hO zJ (vS p4 y.Arrays c3) cs,hO zP (vS p5 y.Parts c4) cs1,hB b1 zTwo] [[hB r01 (cRd y3 p6 c5)]] [(1,false),(12,true)] (zK [1,2,3,4,0] rfl (by decide)) ?_ ?_
             · refine Op<|Op<|Op<|Op<|Op<|Op<|Op<|Ox ?_<|Ox ?_<|Ox ?_<|Ox ?_<|Ox ?_<|Ox ?_<|On
               · intro imm1 hf le1;refine zG ?_;rintro _ _ ⟨rfl,rfl⟩;refine zN<|yH [(53,vS p5 y.Parts c4)] ?_;have hle:=iS imm1;have h4:=iM le1 h4;refine nK 2 rfl rfl rfl h4 hy8 ?_;intro ad1 ccs2 hat2 hcc1 hrep1;obtain ⟨v09,v010,rfl,h44,h45⟩:=wS hrep1;obtain ⟨p24,c23,rfl⟩:=h44.form;obtain ⟨p25,c24,rfl⟩:=h45.form;exact zZ (hx:=[]) rfl hle rfl (zM rfl) ⟨_,_,_,_,_,rfl,rfl,hat2,hcc1,h44,h45⟩
               · intro imm1 hf le1;refine zG ?_;rintro _ _ ⟨ad1,p24,c23,p25,c24,rfl,rfl,hat2,hcc1,h44,h45⟩;refine zN<|yH [(54,.pointer (some ad1))] ?_;have hle:=iS imm1;exact qV 9 [(55,.pointer (some ad1))]<|zZ (hx:=[]) rfl hle rfl (zM rfl) ⟨_,_,_,_,_,rfl,rfl,hat2,hcc1,h44,h45⟩
               · intro imm1 hf le1;refine zG ?_;rintro _ _ ⟨ad11,p241,c231,p251,c241,rfl,rfl,hat21,hcc11,h441,h451⟩;refine zN<|yH [(55,.pointer (some ad11))] ?_;have hle:=iS imm1;exact zCu 2 0 hat21 hcc11 [vS p241 x6.Nest c231] (vS p241 x6.Nest c231) rfl rfl<|zZ (hx:=[]) rfl hle rfl (zM rfl) ⟨_,_,rfl,rfl,h441⟩
               · intro imm1 hf le1;refine zG ?_;rintro _ _ ⟨rfl,rfl⟩;refine zG ?_;rintro _ _ ⟨p2411,c2311,rfl,rfl,h4411⟩;refine zG ?_;rintro _ _ rfl;refine zN<|yH [(51,vP r01 0),(56,vS p2411 x6.Nest c2311)] ?_;have hle:=iS imm1;have h7:=h7.mono le1;refine sD [hB r01 (cRd y3 p6 c5)] (hB b2 (cProg y p4 c3 p5 c4)::hO zJ (vS p4 y.Arrays c3) cs::hO zP (vS p5 y.Parts c4) cs1::hB b1 zTwo::hf) (mW y3 x6.Nest _ hy9 h7 h4411) ?_;rintro imm019 hs2 v2 k2 le15 - ⟨v011,kk4,rfl,rfl,h46,h47⟩ -;have hle:=hle.trans le15;obtain ⟨p26,c25,rfl⟩:=h46.form;obtain ⟨v012,rfl,h48⟩:=yI h47;obtain ⟨p27,c26,rfl⟩:=h48.form;exact zZ (hx:=[hB r01 (cRd y15 p27 c26)]) rfl hle rfl (zM rfl) ⟨_,_,_,_,rfl,rfl,h46,h48⟩
               · intro imm1 hf le1;refine zG ?_;rintro _ _ ⟨rfl,rfl⟩;refine zG ?_;rintro _ _ ⟨p26,c25,p27,c26,rfl,rfl,h46,h48⟩;refine zN<|yH [(50,vP r01 0),(57,vS p26 y14 c25)] ?_;have hle:=iS imm1;refine sD [hB r01 (cRd y15 p27 c26)] (hB b2 (cProg y p4 c3 p5 c4)::hO zJ (vS p4 y.Arrays c3) cs::hO zP (vS p5 y.Parts c4) cs1::hB b1 zTwo::hf) (mW y15 y14 _ hy10 h48 h46) ?_;rintro imm020 hs2 v2 k2 le16 - ⟨v013,kk5,rfl,rfl,h49,h50⟩ -;have hle:=hle.trans le16;obtain ⟨p28,c27,rfl⟩:=h49.form;obtain ⟨v014,rfl,h51⟩:=yI h50;obtain ⟨p29,c28,rfl⟩:=h51.form;exact zZ (hx:=[hB r01 (cRd y18 p29 c28)]) rfl hle rfl (zM rfl) ⟨_,_,_,_,rfl,rfl,h49,h51⟩
               intro imm1 hf le1;refine zG ?_;rintro _ _ ⟨rfl,rfl⟩;refine zG ?_;rintro _ _ ⟨p28,c27,p29,c28,rfl,rfl,h49,h51⟩;refine zN<|yH [(49,vP r01 0),(58,vS p28 y17 c27)] ?_;have hle:=iS imm1;refine sD [hB r01 (cRd y18 p29 c28)] (hB b2 (cProg y p4 c3 p5 c4)::hO zJ (vS p4 y.Arrays c3) cs::hO zP (vS p5 y.Parts c4) cs1::hB b1 zTwo::hf) (mW y18 y17 _ hy11 h51 h49) ?_;rintro imm021 hs2 v2 k2 le17 - ⟨v015,kk6,rfl,rfl,h52,h53⟩ -;have hle:=hle.trans le17;obtain ⟨p30,c29,rfl⟩:=h52.form;obtain ⟨v016,rfl,h54⟩:=yI h53;obtain ⟨p31,c30,rfl⟩:=h54.form;exact zZ (hx:=[hB r01 (cRd y21 p31 c30)]) rfl hle rfl (zM rfl) ⟨_,_,_,_,rfl,rfl,h52,h54⟩
             intro imm022 le18;refine zG ?_;rintro _ _ ⟨rfl,rfl⟩;refine zG ?_;rintro _ _ ⟨p30,c29,p31,c30,rfl,rfl,h52,h54⟩;refine zN<|yH [(4,vP b1 0),(5,vP b2 0),(48,vS p5 y.Parts c4),(59,vS p30 y20 c29)] ?_;have h4:=iM le18 h4;have hle:=hle.trans le18;obtain ⟨x7,hy12,hM⟩:=zC hM;refine nK 3 rfl rfl rfl h4 hy12 ?_;intro ad2 ccs3 hat3 hcc2 hrep2;obtain ⟨v017,v018,rfl,h55,h56⟩:=wS hrep2;obtain ⟨p32,c31,rfl⟩:=h55.form;obtain ⟨p33,c32,rfl⟩:=h56.form;refine yK 15 [] [(61,.pointer (some ad2))] ?_;obtain ⟨l2,hy13,hM⟩:=zC hM;refine qX (c:=[vS p30 y20 c29,vS p33 x7.Body c32]) (x':=(zP.mk y20 x7.Body)) 3 0 rfl rfl rfl hat3 rfl rfl hcc2 (by kernel_rfl) (by kernel_rfl) (by kernel_rfl) h4 hy12 (by kernel_rfl) (sL ⟨_,_,rfl,h52,h56⟩) ?_;rw [show y.Parts.set (0:Int).toNat (zP.mk y20 x7.Body)=l2 from zD hy13];intro cs11 h57 hl08;exact kJ (m':=[(4,vP b1 0),(5,vP b2 0),(59,vS p30 y20 c29)]) ⟨rfl,rfl,rfl,trivial⟩<|zCM (hs':=[hB r01 (cRd y21 p31 c30),hB b2 [vS p4 y.Arrays c3,vS p5 l2 c4],hO zJ (vS p4 y.Arrays c3) cs,hO zP (vS p5 l2 c4) cs11,hB b1 zTwo]) (m':=[(4,vP b1 0),(5,vP b2 0),(59,vS p30 y20 c29)]) (by first | rfl | simp only [vS,hl08,List.nil_append,List.cons_append,List.set_cons_zero,List.set_cons_succ,List.eraseIdx_cons_zero,List.eraseIdx_cons_succ]) (by first | rfl | simp only [vS,hl08])<|yN rfl<|yT [(4,vP b1 0),(5,vP b2 0)]<|yB ⟨_,_,_,_,_,_,_,(zD hM).symm,hle,h57,h54,rfl,rfl⟩
           intro hc4 hM;exact yE<|yT [(4,vP b1 0),(5,vP b2 0)]<|yB ⟨_,_,_,_,_,_,_,(zD hM).symm,hle,h4,h7,rfl,rfl⟩
         rintro imm018 hs2 m2 ⟨Parts3,x5,p22,c21,cs10,p23,c22,heq1,le19,h42,h43,rfl,rfl⟩;subst o04;have hle:=hle.trans le19;exact yT [(4,vP b1 0),(5,vP b2 0)]<|yB ⟨_,_,_,_,_,_,_,(zD hMc4).symm,hle,h42,h43,rfl,rfl⟩
       intro hc3 hM;refine zF<|zB<|yA [] [(62,.bool (y2 == 3))]<|zE ?_;obtain ⟨o05,ho05,hMc5⟩:=zC hM;refine yU (fun imm' hs' m'=>∃ (Parts4:List zP) (x8:zO) (p34:Option Addr) (c33:Nat) (cs12:List Value) (p35:Option Addr) (c34:Nat),o05=(Parts4,x8)∧imm02.le imm'∧(RL imm' cs12 Parts4)∧(S4 imm' p35 x8.b c34)∧hs'=[hB r01 (cRd x8 p35 c34),hB b2 [vS p4 y.Arrays c3,vS p34 Parts4 c33],hO zJ (vS p4 y.Arrays c3) cs,hO zP (vS p34 Parts4 c33) cs12,hB b1 zTwo]∧m'=[(4,vP b1 0),(5,vP b2 0)]) ?_ ?_
       · have hle:=iS imm02;refine yO ho05 ?_ ?_
         · intro hc5 hM;refine zF ?_;obtain ⟨o06,ho06,hMc6⟩:=zC hM;refine yU (fun imm' hs' m'=>∃ (t76:Bool),o06=t76∧imm02.le imm'∧hs'=[hB r01 (cRd y3 p6 c5),hB b2 (cProg y p4 c3 p5 c4),hO zJ (vS p4 y.Arrays c3) cs,hO zP (vS p5 y.Parts c4) cs1,hB b1 zTwo]∧m'=[(0,vP r01 0),(4,vP b1 0),(5,vP b2 0),(6,vI (y.Parts.length:Int)),(76,.bool t76)]) ?_ ?_
           · have hle:=iS imm02;refine zB<|yK 3 [] [(66,.bool (decide ((y.Parts.length:Int) > 0)))] ?_;cases hc6:(decide ((y.Parts.length:Int) > 0)) with
             | true =>
              have hM0:=zW hc6 ho06
              try rw [hc6]
              refine yK 7 [1] [(68,vS p5 y.Parts c4),(70,vI (W ((y.Parts.length:Int) - 1)))] ?_;obtain ⟨x9,hy14,hM⟩:=zC hM0;refine nK 3 rfl rfl rfl h4 hy14 ?_;intro ad3 ccs4 hat4 hcc3 hrep3;obtain ⟨v019,v020,rfl,h60,h61⟩:=wS hrep3;obtain ⟨p36,c35,rfl⟩:=h60.form;obtain ⟨p37,c36,rfl⟩:=h61.form;exact yK 9 [] [(72,.pointer (some (ad3.add 1)))]<|zCu 3 1 hat4 hcc3 [vS p37 x9.Body c36] (vS p37 x9.Body c36) rfl rfl<|yA [] [(76,.bool (decide ((x9.Body.length:Int) > 0)))]<|yT [(0,vP r01 0),(4,vP b1 0),(5,vP b2 0),(6,vI (y.Parts.length:Int)),(76,.bool (decide ((x9.Body.length:Int) > 0)))]<|yB ⟨_,(zD hM).symm,hle,rfl,rfl⟩
             | false =>
              have hM01:=zU hc6 ho06
              try rw [hc6]
              exact yA [] [(76,.bool false)]<|yT [(0,vP r01 0),(4,vP b1 0),(5,vP b2 0),(6,vI (y.Parts.length:Int)),(76,.bool false)]<|yB ⟨_,(zD hM01).symm,hle,rfl,rfl⟩
           rintro imm024 hs2 m2 ⟨t76,heq2,le20,rfl,rfl⟩;subst o06;have h7:=h7.mono le20;have h4:=iM le20 h4;have hle:=hle.trans le20;refine zE ?_;obtain ⟨o07,ho07,hMc7⟩:=zC hMc6;refine yU (fun imm' hs' m'=>∃ (Parts5:List zP) (x10:zO) (p38:Option Addr) (c37:Nat) (cs13:List Value) (p39:Option Addr) (c38:Nat),o07=(Parts5,x10)∧imm024.le imm'∧(RL imm' cs13 Parts5)∧(S4 imm' p39 x10.b c38)∧hs'=[hB r01 (cRd x10 p39 c38),hB b2 [vS p4 y.Arrays c3,vS p38 Parts5 c37],hO zJ (vS p4 y.Arrays c3) cs,hO zP (vS p38 Parts5 c37) cs13,hB b1 zTwo]∧m'=[(4,vP b1 0),(5,vP b2 0)]) ?_ ?_
           · have hle:=iS imm024;refine yO ho07 ?_ ?_
             · intro hc7 hM;obtain ⟨x11,hy15,hM⟩:=zC hM;obtain ⟨x12,hy16,hM⟩:=zC hM;obtain ⟨⟨y22,y23⟩,hy17,hM⟩:=zC hM;obtain ⟨⟨y24,y25⟩,hy18,hM⟩:=zC hM;obtain ⟨⟨y26,y27⟩,hy19,hM⟩:=zC hM;obtain ⟨l3,hy20,hM⟩:=zC hM;have hF:False:=hne _ _ _ _ _ (by assumption) (by assumption) (by assumption) hy15 hy16;obtain ⟨p40,c39,cs14,p41,c40,h64,h65⟩:∃ p40 c39 cs14 p41 c40,(RL imm024 cs14 l3)∧(S4 imm024 p41 y27.b c40):=hF.elim;exact zH5 hF (imm':=imm024) (hs':=[hB r01 (cRd y27 p41 c40),hB b2 [vS p4 y.Arrays c3,vS p40 l3 c39],hO zJ (vS p4 y.Arrays c3) cs,hO zP (vS p40 l3 c39) cs14,hB b1 zTwo]) (m':=[(0,vP r01 0),(4,vP b1 0),(5,vP b2 0),(6,vI (y.Parts.length:Int)),(76,.bool t76)])<|yT [(4,vP b1 0),(5,vP b2 0)]<|yB ⟨_,_,_,_,_,_,_,(zD hM).symm,hle,h64,h65,rfl,rfl⟩
             intro hc7 hM;exact yE<|yT [(4,vP b1 0),(5,vP b2 0)]<|yB ⟨_,_,_,_,_,_,_,(zD hM).symm,hle,h4,h7,rfl,rfl⟩
           rintro imm025 hs2 m2 ⟨Parts5,x10,p38,c37,cs13,p39,c38,heq3,le21,h62,h63,rfl,rfl⟩;subst o07;have hle:=hle.trans le21;exact yT [(4,vP b1 0),(5,vP b2 0)]<|yB ⟨_,_,_,_,_,_,_,(zD hMc7).symm,hle,h62,h63,rfl,rfl⟩
         intro hc5 hM;refine zF<|zB<|yA [] [(100,.bool (y2 == 4))]<|zE ?_;obtain ⟨o08,ho08,hMc8⟩:=zC hM;refine yU (fun imm' hs' m'=>∃ (Parts6:List zP) (p42:Option Addr) (c41:Nat) (cs15:List Value),o08=Parts6∧imm02.le imm'∧(RL imm' cs15 Parts6)∧hs'=[hB r01 (cRd y3 p6 c5),hB b2 [vS p4 y.Arrays c3,vS p42 Parts6 c41],hO zJ (vS p4 y.Arrays c3) cs,hO zP (vS p42 Parts6 c41) cs15,hB b1 zTwo]∧m'=[(4,vP b1 0),(5,vP b2 0)]) ?_ ?_
         · have hle:=iS imm02;refine yO ho08 ?_ ?_
           · intro hc8 hM;refine zF<|zB<|yA [] [(103,.bool (decide ((y.Parts.length:Int) > 0)))]<|zE ?_;obtain ⟨o09,ho09,hMc9⟩:=zC hM;refine yU (fun imm' hs' m'=>∃ (Parts7:List zP) (p43:Option Addr) (c42:Nat) (cs16:List Value),o09=Parts7∧imm02.le imm'∧(RL imm' cs16 Parts7)∧hs'=[hB r01 (cRd y3 p6 c5),hB b2 [vS p4 y.Arrays c3,vS p43 Parts7 c42],hO zJ (vS p4 y.Arrays c3) cs,hO zP (vS p43 Parts7 c42) cs16,hB b1 zTwo]∧m'=[(4,vP b1 0),(5,vP b2 0)]) ?_ ?_
             · have hle:=iS imm02;refine yO ho09 ?_ ?_
               · intro hc9 hM;refine zB<|yK 4 [1] [(105,vS p5 y.Parts c4),(107,vI (W ((y.Parts.length:Int) - 1)))] ?_;obtain ⟨x13,hy21,hM⟩:=zC hM;refine nK 3 rfl rfl rfl h4 hy21 ?_;intro ad4 ccs5 hat5 hcc4 hrep4;obtain ⟨v021,v022,rfl,h68,h69⟩:=wS hrep4;obtain ⟨p44,c43,rfl⟩:=h68.form;obtain ⟨p45,c44,rfl⟩:=h69.form;refine yK 6 [] [(109,.pointer (some (ad4.add 1)))] ?_;obtain ⟨l4,hy22,hM⟩:=zC hM;refine qX (c:=[vS p44 x13.Nest c43,z0]) (x':=(zP.mk x13.Nest ([]:List zQ))) 3 1 rfl rfl rfl hat5 rfl rfl hcc4 (by kernel_rfl) (by kernel_rfl) (by kernel_rfl) h4 hy21 (by kernel_rfl) (sL ⟨_,_,rfl,h68,(SL.nil _)⟩) ?_;rw [show y.Parts.set (W ((y.Parts.length:Int) - 1)).toNat (zP.mk x13.Nest ([]:List zQ))=l4 from zD hy22];intro cs17 h70 hl09;exact kJ (m':=[(4,vP b1 0),(5,vP b2 0)]) ⟨rfl,rfl,trivial⟩<|zCM (hs':=[hB r01 (cRd y3 p6 c5),hB b2 [vS p4 y.Arrays c3,vS p5 l4 c4],hO zJ (vS p4 y.Arrays c3) cs,hO zP (vS p5 l4 c4) cs17,hB b1 zTwo]) (m':=[(4,vP b1 0),(5,vP b2 0)]) (by first | rfl | simp only [vS,hl09,List.nil_append,List.cons_append,List.set_cons_zero,List.set_cons_succ,List.eraseIdx_cons_zero,List.eraseIdx_cons_succ]) (by first | rfl | simp only [vS,hl09])<|yN rfl<|yT [(4,vP b1 0),(5,vP b2 0)]<|yB ⟨_,_,_,_,(zD hM).symm,hle,h70,rfl,rfl⟩
               intro hc9 hM;exact yE<|yT [(4,vP b1 0),(5,vP b2 0)]<|yB ⟨_,_,_,_,(zD hM).symm,hle,h4,rfl,rfl⟩
             rintro imm027 hs2 m2 ⟨Parts7,p43,c42,cs16,heq4,le22,h67,rfl,rfl⟩;subst o09;have hle:=hle.trans le22;exact yT [(4,vP b1 0),(5,vP b2 0)]<|yB ⟨_,_,_,_,(zD hMc9).symm,hle,h67,rfl,rfl⟩
           intro hc8 hM;exact yE<|yT [(4,vP b1 0),(5,vP b2 0)]<|yB ⟨_,_,_,_,(zD hM).symm,hle,h4,rfl,rfl⟩
         rintro imm026 hs2 m2 ⟨Parts6,p42,c41,cs15,heq5,le23,h66,rfl,rfl⟩;subst o08;have h7:=h7.mono le23;have hle:=hle.trans le23;exact yT [(4,vP b1 0),(5,vP b2 0)]<|yB ⟨_,_,_,_,_,_,_,(zD hMc8).symm,hle,h66,h7,rfl,rfl⟩
       rintro imm023 hs2 m2 ⟨Parts4,x8,p34,c33,cs12,p35,c34,heq6,le24,h58,h59,rfl,rfl⟩;subst o05;have hle:=hle.trans le24;exact yT [(4,vP b1 0),(5,vP b2 0)]<|yB ⟨_,_,_,_,_,_,_,(zD hMc5).symm,hle,h58,h59,rfl,rfl⟩
     rintro imm017 hs2 m2 ⟨Parts2,x4,p20,c19,cs9,p21,c20,heq7,le25,h40,h41,rfl,rfl⟩;subst o03;have h3:=iM le25 h3;have hle:=hle.trans le25;exact yT [(4,vP b1 0),(5,vP b2 0)]<|yB ⟨_,_,_,_,_,_,_,_,_,_,_,(zD hMc3).symm,hle,h3,h40,h41,rfl,rfl⟩
   rintro imm011 hs2 m2 ⟨Arrays1,Parts1,x1,p13,c12,cs5,p14,c13,cs6,p15,c14,heq8,le26,h26,h27,h28,rfl,rfl⟩;subst o01;have hle:=hle.trans le26;exact yT [(4,vP b1 0),(5,vP b2 0)]<|yB ⟨_,_,_,_,_,_,_,_,_,_,_,(zD hMc1).symm,hle,h26,h27,h28,rfl,rfl⟩
 rintro imm03 hs2 m2 ⟨Arrays,Parts,x,p7,c6,cs2,p8,c7,cs3,p9,c8,heq9,le27,h8,h9,h10,rfl,rfl⟩;subst o0;refine zY<|zE<|zF<|zB<|yK 1 [1] [(110,vA [vS p7 Arrays c6,vS p8 Parts c7])]<|xJ 4 [vS p7 Arrays c6,vS p8 Parts c7] [hB r01 (cRd x p9 c8),hB b2 [vS p7 Arrays c6,vS p8 Parts c7],hO zJ (vS p7 Arrays c6) cs2,hO zP (vS p8 Parts c7) cs3,hB b1 [vS p7 Arrays c6,vS p8 Parts c7]] rfl rfl rfl rfl<|yN rfl<|zE<|yJ<|xI 2 rfl ?_;intro imm028 le28 hl010;have h71:=SL.of_frozen hl010 le28 h8;have h10:=h10.mono le28;have h9:=iM le28 h9;refine xI 2 rfl ?_;intro imm029 le29 hl011;have h72:=SL.of_frozen hl011 le29 h9;have h10:=h10.mono le29;have h71:=h71.mono le29;obtain rfl:=zD hMc;exact yQ ⟨_,_,(.cell 2 rfl rfl (by kernel_rfl) ResV.nil),(zK [0] rfl (by decide)),⟨_,_,rfl,rfl,⟨_,rfl,(nH ⟨_,_,rfl,h71,h72⟩)⟩,(yS ⟨_,rfl,h10⟩)⟩⟩
theorem zAr (p:zV):∀ (i1:Int) (Parts:List zP) (o:List zP),vH p i1 Parts=some o→∀ {B}{imm0 imm:Imm}{Q}{Arrays1:List zJ}{p1 c p2 c1}{b:Nat}{b1:Nat}{b2:Nat}{p4 c3 cs1 p9 c8 cs4}{raws:List Raw2}{pN pB:Option Addr}{cN cB:Nat}{nl:List zI}{bl:List zQ}{csB:List Value},imm0.le imm→(RL imm cs1 Arrays1)→(S4 imm p1 p.Arrays c)→(S4 imm p2 p.Parts c1)→(RL imm cs4 raws)→LP imm raws Parts (vS pN nl cN) nl (vS pB bl cB) bl→SL imm (vS pN nl cN) nl→RL imm csB bl→(∀ l a w,¬Q (.goto l) a w)→(∀ a w,¬Q .outgrown a w)→(∀ (imm':Imm) (p10:Option Addr) (c9:Nat) (cs5:List Value) (raws1:List Raw2) (pN pB:Option Addr) (cN cB:Nat) (nl:List zI) (bl:List zQ) (csB:List Value),imm0.le imm'→(RL imm' cs5 raws1)→LP imm' raws1 o (vS pN nl cN) nl (vS pB bl cB) bl→SL imm' (vS pN nl cN) nl→RL imm' csB bl→T 84 B Q (.exit 2) imm' [hO zQ (vS pB bl cB) csB,hO Raw2 (vS p10 raws1 c9) cs5,hO zJ (vS p4 Arrays1 c3) cs1,hB b2 [vS p4 Arrays1 c3,vS p10 raws1 c9],hB b1 zTwo] [(2,vP b1 0),(3,vP b2 0)])→J Tryz.prog 84 B (nav (bodyOf Tryz.f81) [1,1,1,0,1,0]) Q imm [hO zQ (vS pB bl cB) csB,hO Raw2 (vS p9 raws c8) cs4,hO zJ (vS p4 Arrays1 c3) cs1,hB b2 [vS p4 Arrays1 c3,vS p9 raws c8],hB b1 zTwo,hB b (cProg p p1 c p2 c1)] [(1,vP b 0),(2,vP b1 0),(3,vP b2 0),(5,vI i1)]:=by
 refine vH.partial_correctness p _ ?_;intro self ih i1 Parts o hM B imm0 imm Q Arrays1 p1 c p2 c1 b b1 b2 p4 c3 cs1 p9 c8 cs4 raws pN pB cN cB nl bl csB hle h4 h h1 hRw hLP hN hBd hg ho hx;refine xC hg ho<|zF<|zF<|zB<|yA [5] [(40,.bool (decide (i1 < (p.Parts.length:Int))))]<|zE<|yO hM ?_ ?_
 · intro hc1 hM;refine qW 0 rfl ?_;intro immf lef hlf;have kB:=SL.of_frozen hlf lef hBd;have h4:=iM lef h4;have h:=h.mono lef;have h1:=h1.mono lef;have hN:=hN.mono lef;have hRw:=iM lef hRw;have hLP:=hLP.mono lef;have hle:=hle.trans lef;have h14:=hLP.done hN kB;rw [← nS hRw] at h14;have eP:vS p9 raws c8=vS p9 Parts c8:=by simp only [vS,hLP.2.1]
   rw [eP];clear hBd hlf;refine yE<|zE<|zF<|yC<|zF<|zB<|yK 3 [4] [(44,vS p2 p.Parts c1),(45,vI i1)] ?_;obtain ⟨x2,hy4,hM⟩:=zC hM;refine wJ rfl rfl h1 hy4 ?_;intro ad3 ccs4 hat3 hrep2;obtain ⟨v02,v03,rfl,h16,h17⟩:=wS hrep2;obtain ⟨p11,c10,rfl⟩:=h16.form;obtain ⟨p12,c11,rfl⟩:=h17.form;refine yK 5 [] [(47,.pointer (some ad3))]<|xS 0 hat3 [vS p11 x2.Nest c10] (vS p11 x2.Nest c10) rfl ?_;obtain ⟨y,hy5,hM⟩:=zC hM;refine yR (dL x2.Nest _ hy5 h16) ?_;rintro imm04 hs2 v2 k2 le4 - ⟨v04,rfl,rfl,h18⟩ -;have h14:=iM le4 h14;have hRw:=iM le4 hRw;have hLP:=hLP.mono le4;have hN:=hN.mono le4;replace kB:=kB.mono le4;have h4:=iM le4 h4;have h:=h.mono le4;have h1:=h1.mono le4;have hle:=hle.trans le4;obtain ⟨p13,c12,rfl⟩:=h18.form;refine yK 8 [] [(50,vA [vS p13 y c12,z0])]<|uD zTwo ?_;intro b5 hb5;refine xJ 0 [vS p13 y c12,z0] [hB b5 [vS p13 y c12,z0],hO zP (vS p9 Parts c8) cs4,hO zJ (vS p4 Arrays1 c3) cs1,hB b2 [vS p4 Arrays1 c3,vS p9 Parts c8],hB b1 zTwo,hB b (cProg p p1 c p2 c1)] rfl rfl rfl rfl<|yN rfl<|zE<|zF<|zF<|zB<|yA [] [(7,vI 0)]<|zE<|yC<|vQ [(1,vP b 0),(2,vP b1 0),(3,vP b2 0),(5,vI i1),(6,vP b5 0),(7,vI 0)]<|qA (uI (Rp.sz zQ)) ?_;have h19:RL imm04 [] ([]:List zQ):=RepL.nil;obtain ⟨o01,ho01,hMl1⟩:=zC hM;refine gG p i1 0 ([]:List zQ) o01 ho01 iR h18 h14 h4 h h1 h19 (fun _ _ _ h=>hg _ _ _ h) (fun _ _ h=>ho _ _ h) ?_;intro imm010 Body1 p15 c14 cs7 heq1 le10 h21;subst o01;have h18:=h18.mono le10;have hRw:=iM le10 hRw;have hLP:=hLP.mono le10;have hN:=hN.mono le10;replace kB:=kB.mono le10;have h4:=iM le10 h4;have h:=h.mono le10;have h1:=h1.mono le10;have hle:=hle.trans le10;obtain ⟨l3,hy11,hM⟩:=zC hMl1;have hy12:=zG7 (l':=raws) (m':=[(⟨vS p13 y c12,vS p15 Body1 c14⟩:Raw2)]) hy11 hLP.2.1 rfl;have h40:RL imm010 [vS p13 y c12,vS p15 Body1 c14] [(⟨vS p13 y c12,vS p15 Body1 c14⟩:Raw2)]:=⟨[vS p13 y c12,vS p15 Body1 c14],[],rfl,rfl,⟨rfl,rfl,rfl⟩,rfl⟩;refine yD<|zE<|zB<|yK 3 [4,1] [(78,vS p9 Parts c8),(79,vA [vS p13 y c12,vS p15 Body1 c14])]<|xQ [vS p13 y c12,vS p15 Body1 c14] Raw2 ?_;intro b7 hb7;refine qI (α:=Raw2) 75 2 3 rfl rfl rfl hRw (.inr ⟨0,rfl⟩) h40 hy12 ?_;intro p29 c28 cs11 h41;exact rX (zK [1,3,4,5,6,7] (hs':=[hO zQ (vS p15 Body1 c14) cs7,hO Raw2 (vS p29 (raws ++ [(⟨vS p13 y c12,vS p15 Body1 c14⟩:Raw2)]) c28) cs11,hO zJ (vS p4 Arrays1 c3) cs1,hB b2 [vS p4 Arrays1 c3,vS p9 Parts c8],hB b1 zTwo,hB b (cProg p p1 c p2 c1)]) rfl (by decide))<|yK 6 [] [(82,vP b2 1)]<|xJ 3 [vS p4 Arrays1 c3,vS p29 (raws ++ [(⟨vS p13 y c12,vS p15 Body1 c14⟩:Raw2)]) c28] [hO zQ (vS p15 Body1 c14) cs7,hO Raw2 (vS p29 (raws ++ [(⟨vS p13 y c12,vS p15 Body1 c14⟩:Raw2)]) c28) cs11,hO zJ (vS p4 Arrays1 c3) cs1,hB b2 [vS p4 Arrays1 c3,vS p29 (raws ++ [(⟨vS p13 y c12,vS p15 Body1 c14⟩:Raw2)]) c28],hB b1 zTwo,hB b (cProg p p1 c p2 c1)] rfl rfl rfl rfl<|yN rfl<|zY<|zE<|zB<|yA [] [(5,vI (W (i1 + 1)))]<|xD<|vQ [(1,vP b 0),(2,vP b1 0),(3,vP b2 0),(5,vI (W (i1 + 1)))]<|ih (W (i1 + 1)) l3 _ hM hle h4 h h1 h41 (hLP.push hN kB hy11) h18 h21 hg ho hx
 intro hc1 hM;have:=zD hM;simp only [id] at this;subst this;exact xA<|zS<|zS<|wD (zK [0,1,2,3,4] rfl (by decide))<|yT [(2,vP b1 0),(3,vP b2 0)]<|hx _ _ _ _ _ _ _ _ _ _ _ _ hle hRw hLP hN hBd
def zB4 (r:zV):KT:=fun kk imm' hs' v=>
  ∃ (a0:Option Addr) (c0:Nat) (s0:List Value) (a1:Option Addr) (c1:Nat) (s1:List Value) (raws:List Raw2) (pN pB:Option Addr) (cN cB:Nat) (nl:List zI) (bl:List zQ) (csB:List Value),hs'=[hO zQ (vS pB bl cB) csB,hO Raw2 (vS a1 raws c1) s1,hO zJ (vS a0 r.Arrays c0) s0]∧v=tupV [vA [vS a0 r.Arrays c0,vS a1 raws c1]]∧RL imm' s0 r.Arrays∧RL imm' s1 raws∧LP imm' raws r.Parts (vS pN nl cN) nl (vS pB bl cB) bl∧SL imm' (vS pN nl cN) nl∧RL imm' csB bl
theorem zCx:∀ (p:zV) r,sH p=some r→∀ {imm:Imm}{p1 c p2 c1},(S4 imm p1 p.Arrays c)→(S4 imm p2 p.Parts c1)→Ret Tryz.prog 81 [vA (cProg p p1 c p2 c1)] imm [] (zB4 r):=by
 intro p r hM imm p1 c p2 c1 h h1;unfold sH at hM;refine yG (fn:=Tryz.f81) (c:=(bodyOf Tryz.f81)) Tryz.func81 rfl rfl ?_;rintro B - -;refine zF<|zB<|tR (cProg p p1 c p2 c1) ?_;intro b hb;refine uD zTwo ?_;intro b1 hb1;refine yN rfl<|zE<|zF<|zB<|yK 1 [] [(8,vA zTwo)]<|uD zTwo ?_;intro b2 hb2;refine xJ 0 zTwo [hB b2 zTwo,hB b1 zTwo,hB b (cProg p p1 c p2 c1)] rfl rfl rfl rfl<|yN rfl<|zE<|zF<|zF<|zB<|yA [] [(4,vI 0)]<|zE<|yC<|vQ [(1,vP b 0),(2,vP b1 0),(3,vP b2 0),(4,vI 0)]<|qA (uI (Rp.sz zJ)) ?_;have h2:RL imm [] ([]:List zJ):=RepL.nil;obtain ⟨o0,ho0,hMl⟩:=zC hM;refine gF p 0 ([]:List zJ) o0 ho0 iR h h1 h2 (fun _ _ _ h=>h) (fun _ _ h=>h) ?_;intro imm03 Arrays1 p4 c3 cs1 heq le3 h4;subst o0;have h:=h.mono le3;have h1:=h1.mono le3;refine yD<|zE<|zF<|zF<|zB<|yA [] [(5,vI 0)]<|zE<|yC<|vQ [(1,vP b 0),(2,vP b1 0),(3,vP b2 0),(5,vI 0)]<|qA (uI (Rp.sz Raw2))<|qA (uI (Rp.sz zQ)) ?_;obtain ⟨o02,ho02,hMl2⟩:=zC hMl;refine zAr p 0 ([]:List zP) o02 ho02 (raws:=[]) (pN:=none) (pB:=none) (cN:=0) (cB:=0) (nl:=[]) (bl:=[]) iR h4 h h1 RepL.nil LP.nil (SL.nil _) RepL.nil (fun _ _ _ h=>h) (fun _ _ h=>h) ?_;intro imm012 p10 c9 cs5 raws1 pN pB cN cB nl bl csB le12 hRw hLP hN hBd;have h4:=iM le12 h4;obtain rfl:=zD hMl2;exact yD<|zE<|zF<|zB<|yK 1 [3] [(83,vA [vS p4 Arrays1 c3,vS p10 raws1 c9])]<|xJ 4 [vS p4 Arrays1 c3,vS p10 raws1 c9] [hO zQ (vS pB bl cB) csB,hO Raw2 (vS p10 raws1 c9) cs5,hO zJ (vS p4 Arrays1 c3) cs1,hB b2 [vS p4 Arrays1 c3,vS p10 raws1 c9],hB b1 [vS p4 Arrays1 c3,vS p10 raws1 c9]] rfl rfl rfl rfl<|yN rfl<|zE<|yJ<|yQ ⟨_,_,(.cell 4 rfl rfl (by kernel_rfl) ResV.nil),(zK [0,1,2] rfl (by decide)),⟨_,_,_,_,_,_,_,_,_,_,_,_,_,_,rfl,rfl,h4,hRw,hLP,hN,hBd⟩⟩
theorem zHa {raws:List Raw2}{k:Nat}{r:Raw2} (h:raws[k]?=some r):raws.set k r=raws:=by
  obtain ⟨hk,e⟩:=List.getElem?_eq_some_iff.1 h;subst e;exact List.set_getElem_self hk
theorem zB5 (r0:zO) (p1:zV) (r:zV×zO) (hM:qD r0 p1=some r) {y:zV}{y3:zO}{x:zP}{s:zQ} (hy:sH p1=some y) (hy1:yW r0 60=some (3,y3)) (hx:idx y.Parts (W ((y.Parts.length:Int) - 1))=some x) (hs:idx x.Body 0=some s) :
    ∀ {imm:Imm}{r01:Nat}{p c p2 c1 p3 c2},(S4 imm p r0.b c)→(S4 imm p2 p1.Arrays c1)→(S4 imm p3 p1.Parts c2)→Ret Tryz.prog 49 [vP r01 0,vA (cProg p1 p2 c1 p3 c2)] imm [hB r01 (cRd r0 p c)] (mC r01 r):=by
 intro imm r01 p c p2 c1' p3 c2 h h1 h2
 obtain ⟨i0,i1,i2⟩:=sK hx
 obtain ⟨j0,j1,j2⟩:=sK hs
 have hn:(y.Parts.length:Int) > 0:=by
   have:=(List.getElem?_eq_some_iff.1 i2).1; omega
 have hb:(x.Body.length:Int) > 0:=by
   have:=(List.getElem?_eq_some_iff.1 j2).1; omega
 have e0:((3:Int) == 0)=false:=rfl
 have e1:((3:Int) == 1)=false:=rfl
 have e2:((3:Int) == 2)=false:=rfl
 have e3:((3:Int) == 3)=true:=rfl
 unfold qD at hM
 simp only [hy,hy1,e0,e1,e2,e3,hn,hb,hx,hs,decide_true,if_true,Bool.false_eq_true,if_false,Option.pure_def,Option.bind_eq_bind,Option.bind_some] at hM
 cases hm1:uZ y3 s with
 | none=>rw [hm1] at hM; cases hM
 | some q1 =>
 obtain ⟨y22,y23⟩:=q1
 simp only [hm1,Option.bind_some] at hM
 cases hm2:uZ y23 y22 with
 | none=>rw [hm2] at hM; cases hM
 | some q2 =>
 obtain ⟨y24,y25⟩:=q2
 simp only [hm2,Option.bind_some] at hM
 cases hm3:uZ y25 y24 with
 | none=>rw [hm3] at hM; cases hM
 | some q3 =>
 obtain ⟨y26,y27⟩:=q3
 simp only [hm3,Option.bind_some,Option.some.injEq] at hM
 subst hM
 refine yG (fn:=Tryz.f49) (c:=(bodyOf Tryz.f49)) Tryz.func49 rfl rfl ?_
 rintro B - -
 refine zF<|zB<|tR [vS p2 p1.Arrays c1',vS p3 p1.Parts c2] ?_
 intro b hb
 refine uD zTwo ?_
 intro b1 hb1
 refine yN rfl<|zE<|zF<|zB<|yK 1 [1] [(7,vA [vS p2 p1.Arrays c1',vS p3 p1.Parts c2])]<|yR (zCx p1 _ hy h1 h2) ?_
 rintro imm0 hs2 v2 k2 le - ⟨a0,c0,s0,a1,c1,s1,raws,pN,pB,cN,cB,nl,bl,csB,rfl,rfl,h3,hRw,hLP,hN,hBd⟩ -
 have h:=h.mono le
 clear h1 h2
 rw [hLP.len] at hx hn i0 i1 i2
 obtain ⟨rfl,hraw,hset⟩:=hLP.last hx
 simp only at hs hb j0 j1 j2 hm1
 have hset:=hset (vS pN nl cN) nl (vS pB bl cB) (bl.set 0 y26)
 rw [zHa (sK hraw).2.2] at hset
 refine uD zTwo ?_
 intro b2 hb2
 refine xJ 0 [vS a0 y.Arrays c0,vS a1 raws c1] [hB b2 [vS a0 y.Arrays c0,vS a1 raws c1],hO zQ (vS pB bl cB) csB,hO Raw2 (vS a1 raws c1) s1,hO zJ (vS a0 y.Arrays c0) s0,hB b1 zTwo,hB b [vS p2 p1.Arrays c1',vS p3 p1.Parts c2],hB r01 (cRd r0 p c)] rfl rfl rfl rfl<|yN rfl<|zE<|zF<|zB<|yA [0] [(6,vI (raws.length:Int))]<|zE<|zF<|zF<|zB<|yK 1 [] [(12,vP r01 0)]<|rX (zK [6,1,2,0,3,4] (hs':=[hB r01 (cRd r0 p c),hO zQ (vS pB bl cB) csB,hO Raw2 (vS a1 raws c1) s1,hB b2 [vS a0 y.Arrays c0,vS a1 raws c1],hO zJ (vS a0 y.Arrays c0) s0,hB b1 zTwo]) rfl (by decide))<|sD [hB r01 (cRd r0 p c)] [hO zQ (vS pB bl cB) csB,hO Raw2 (vS a1 raws c1) s1,hB b2 [vS a0 y.Arrays c0,vS a1 raws c1],hO zJ (vS a0 y.Arrays c0) s0,hB b1 zTwo] (xL r0 60 _ hy1 h) ?_
 rintro imm01 hs2 v2 k2 le1 - ⟨v0,kk,rfl,rfl,rfl,h6⟩ -
 obtain ⟨v01,rfl,h7⟩:=yI h6
 obtain ⟨p6,c5,rfl⟩:=h7.form
 clear h6 h
 have h3:=iM le1 h3
 have hRw:=iM le1 hRw
 have hN:=hN.mono le1
 have hBd:=iM le1 hBd
 have hset:=hset.mono le1
 refine yN rfl<|zE<|yC<|zF<|zB<|yA [] [(14,.bool ((3:Int) == 0))]<|zE<|kZ rfl<|zF<|zB<|yA [] [(29,.bool ((3:Int) == 1))]<|zE<|kZ rfl<|zF<|zB<|yA [] [(43,.bool ((3:Int) == 2))]<|zE<|kZ rfl<|zF<|zB<|yA [] [(62,.bool ((3:Int) == 3))]<|zE<|dG rfl<|zF<|zB<|yK 3 [] [(66,.bool (decide ((raws.length:Int) > 0)))] ?_
 rw [decide_eq_true hn]
 refine yK 7 [3] [(68,vS a1 raws c1),(70,vI (W ((raws.length:Int) - 1)))]<|nK (α:=Raw2) 2 rfl rfl rfl hRw hraw ?_
 intro ad ccs hat hcc hrep
 obtain ⟨rfl,o1,o2⟩:=hrep
 refine yK 9 [] [(72,.pointer (some (ad.add 1)))]<|zCu 2 1 hat hcc [vS pB bl cB] (vS pB bl cB) rfl rfl<|yA [] [(76,.bool (decide ((bl.length:Int) > 0)))] ?_
 rw [decide_eq_true hb]
 refine zE<|dG rfl<|vQ [(0,vP r01 0),(4,vP b1 0),(5,vP b2 0),(6,vI (raws.length:Int))]<|uA [.p (vP b2 1) [],.p (vS a1 raws c1) [2],.p (vI (raws.length:Int)) [],.p (vI (W ((raws.length:Int) - 1))) [],.x (fun imm' v hx'=>∃ ad,v=.pointer (some ad)∧hx'=[]∧AtO (vS a1 raws c1) 2 (W ((raws.length:Int) - 1)).toNat ad),.x (fun imm' v hx'=>∃ ad,v=.pointer (some (ad.add 1))∧hx'=[]∧AtO (vS a1 raws c1) 2 (W ((raws.length:Int) - 1)).toNat ad),.x (fun imm' v hx'=>v=vS pB bl cB∧hx'=[]),.p (vP r01 0) [],.p (vP r01 0) [],.p (vP r01 0) [],.p (vP b2 1) [],.p (vS a1 raws c1) [2],.p (vI (raws.length:Int)) [],.p (vI (W ((raws.length:Int) - 1))) [],.x (fun imm' v hx'=>∃ ad,v=.pointer (some ad)∧hx'=[]∧AtO (vS a1 raws c1) 2 (W ((raws.length:Int) - 1)).toNat ad),.x (fun imm' v hx'=>∃ ad,v=.pointer (some (ad.add 1))∧hx'=[]∧AtO (vS a1 raws c1) 2 (W ((raws.length:Int) - 1)).toNat ad),.x (fun imm' v hx'=>v=vS pB bl cB∧hx'=[]),.x (fun imm' v hx'=>∃ ad,v=.pointer (some ad)∧hx'=[]∧AtO (vS pB bl cB) 9 0 ad),.x (fun imm' v hx'=>∃ cs9,v=.agg ⟨cs9⟩∧hx'=[]∧Rp.rep imm' cs9 s),.x (fun imm' v hx'=>∃ (cs9 kk:List Value),v=.agg ⟨cs9⟩∧hx'=[hB r01 kk]∧Rp.rep imm' cs9 y22∧Rp.rep imm' kk y23),.x (fun imm' v hx'=>∃ (cs9 kk:List Value),v=.agg ⟨cs9⟩∧hx'=[hB r01 kk]∧Rp.rep imm' cs9 y24∧Rp.rep imm' kk y25),.x (fun imm' v hx'=>∃ (cs9 kk:List Value),v=.agg ⟨cs9⟩∧hx'=[hB r01 kk]∧Rp.rep imm' cs9 y26∧Rp.rep imm' kk y27)] [[],[(0,false)],[],[(2,false)],[(1,false),(3,false)],[(4,false)],[(5,false)],[],[],[],[],[(10,false)],[],[(12,false)],[(11,false),(13,false)],[(14,false)],[(15,false)],[(16,false)],[(17,false)],[(9,false),(18,false),(24,true)],[(8,false),(19,true)],[(7,false),(20,true)]] [hO zQ (vS pB bl cB) csB,hO Raw2 (vS a1 raws c1) s1,hB b2 [vS a0 y.Arrays c0,vS a1 raws c1],hO zJ (vS a0 y.Arrays c0) s0,hB b1 zTwo] [[hB r01 (cRd y3 p6 c5)]] [(6,false),(21,true)] (zK [1,2,3,4,5,0] rfl (by decide)) ?_ ?_
 · refine Op<|Op<|Op<|Op<|Ox ?_<|Ox ?_<|Ox ?_<|Op<|Op<|Op<|Op<|Op<|Op<|Op<|Ox ?_<|Ox ?_<|Ox ?_<|Ox ?_<|Ox ?_<|Ox ?_<|Ox ?_<|Ox ?_<|On
   · intro imm1 hf le1
     refine zG ?_
     rintro _ _ ⟨rfl,rfl⟩
     refine zG ?_
     rintro _ _ ⟨rfl,rfl⟩
     refine zN<|yH [(78,vS a1 raws c1),(80,vI (W ((raws.length:Int) - 1)))]<|nK (α:=Raw2) 1 rfl rfl rfl (iM le1 hRw) hraw ?_
     intro ad ccs hat hcc hrep
     exact zZ (hx:=[]) rfl iR rfl (zM rfl) ⟨_,rfl,rfl,hat⟩
   · intro imm1 hf le1
     refine zG ?_
     rintro _ _ ⟨ad,rfl,rfl,hat⟩
     exact zN<|yH [(81,.pointer (some ad))]<|qV 6 [(82,.pointer (some (ad.add 1)))]<|zZ (hx:=[]) rfl iR rfl (zM rfl) ⟨_,rfl,rfl,hat⟩
   · intro imm1 hf le1
     refine zG ?_
     rintro _ _ ⟨ad,rfl,rfl,hat⟩
     refine zN<|yH [(82,.pointer (some (ad.add 1)))] ?_
     have hrep:=hRw.at (sK hraw).2.2
     obtain ⟨⟨hcc,o1,o2⟩,_⟩:=hrep
     exact zCu 1 1 hat hcc [vS pB bl cB] (vS pB bl cB) rfl rfl<|zZ (hx:=[]) rfl iR rfl (zM rfl) ⟨rfl,rfl⟩
   · intro imm1 hf le1
     refine zG ?_
     rintro _ _ ⟨rfl,rfl⟩
     refine zG ?_
     rintro _ _ ⟨rfl,rfl⟩
     refine zN<|yH [(88,vS a1 raws c1),(90,vI (W ((raws.length:Int) - 1)))]<|nK (α:=Raw2) 1 rfl rfl rfl (iM le1 hRw) hraw ?_
     intro ad ccs hat hcc hrep
     exact zZ (hx:=[]) rfl iR rfl (zM rfl) ⟨_,rfl,rfl,hat⟩
   · intro imm1 hf le1
     refine zG ?_
     rintro _ _ ⟨ad,rfl,rfl,hat⟩
     exact zN<|yH [(91,.pointer (some ad))]<|qV 16 [(92,.pointer (some (ad.add 1)))]<|zZ (hx:=[]) rfl iR rfl (zM rfl) ⟨_,rfl,rfl,hat⟩
   · intro imm1 hf le1
     refine zG ?_
     rintro _ _ ⟨ad,rfl,rfl,hat⟩
     refine zN<|yH [(92,.pointer (some (ad.add 1)))] ?_
     have hrep:=hRw.at (sK hraw).2.2
     obtain ⟨⟨hcc,o1,o2⟩,_⟩:=hrep
     exact zCu 1 1 hat hcc [vS pB bl cB] (vS pB bl cB) rfl rfl<|zZ (hx:=[]) rfl iR rfl (zM rfl) ⟨rfl,rfl⟩
   · intro imm1 hf le1
     refine zG ?_
     rintro _ _ ⟨rfl,rfl⟩
     refine zN<|yH [(93,vS pB bl cB)]<|nK (α:=zQ) 0 rfl rfl rfl (iM le1 hBd) hs ?_
     intro ad ccs hat hcc hrep
     exact zZ (hx:=[]) rfl iR rfl (zM rfl) ⟨_,rfl,rfl,hat⟩
   · intro imm1 hf le1
     refine zG ?_
     rintro _ _ ⟨ad,rfl,rfl,hat⟩
     refine zN<|yH [(94,.pointer (some ad))] ?_
     obtain ⟨hrep,_⟩:=(iM le1 hBd).at j2
     generalize hcc:(csB.drop (Int.toNat 0 * Rp.sz zQ)).take (Rp.sz zQ)=cc at hrep
     obtain ⟨w0,w1,w2,w3,rfl,e10,e11,e12,e13⟩:=wA hrep
     obtain ⟨p10,c10,rfl⟩:=e10.form
     obtain ⟨p11,c11,rfl⟩:=e11.form
     obtain ⟨p12,c12,rfl⟩:=e12.form
     obtain ⟨p13,c13,rfl⟩:=e13.form
     exact zCu 0 0 hat hcc (cStmt s p10 c10 p11 c11 p12 c12 p13 c13) (vA (cStmt s p10 c10 p11 c11 p12 c12 p13 c13)) rfl rfl<|zZ (hx:=[]) rfl iR rfl (zM rfl) ⟨_,rfl,rfl,wL ⟨_,_,_,_,rfl,e10,e11,e12,e13⟩⟩
   · intro imm1 hf le1
     refine zG ?_
     rintro _ _ ⟨rfl,rfl⟩
     refine zG ?_
     rintro _ _ ⟨cs9,rfl,rfl,h9⟩
     refine zG ?_
     rintro _ _ rfl
     obtain ⟨w0,w1,w2,w3,rfl,e10,e11,e12,e13⟩:=wA h9
     obtain ⟨p10,c10,rfl⟩:=e10.form
     obtain ⟨p11,c11,rfl⟩:=e11.form
     obtain ⟨p12,c12,rfl⟩:=e12.form
     obtain ⟨p13,c13,rfl⟩:=e13.form
     refine zN<|yH [(86,vP r01 0),(95,vA (cStmt s p10 c10 p11 c11 p12 c12 p13 c13))]<|sD [hB r01 (cRd y3 p6 c5)] (hO zQ (vS pB bl cB) csB::hO Raw2 (vS a1 raws c1) s1::hB b2 [vS a0 y.Arrays c0,vS a1 raws c1]::hO zJ (vS a0 y.Arrays c0) s0::hB b1 zTwo::hf) (mX y3 s _ hm1 (h7.mono le1) e10 e11 e12 e13) ?_
     rintro imm02 hs2 v2 k2 le2 - ⟨v0,kk2,rfl,rfl,⟨cs2,rfl,h10⟩,h11⟩ -
     exact zZ (hx:=[hB r01 kk2]) rfl le2 rfl (zM rfl) ⟨_,_,rfl,rfl,h10,h11⟩
   · intro imm1 hf le1
     refine zG ?_
     rintro _ _ ⟨rfl,rfl⟩
     refine zG ?_
     rintro _ _ ⟨cs9,kk,rfl,rfl,h9,hk⟩
     obtain ⟨w0,w1,w2,w3,rfl,e10,e11,e12,e13⟩:=wA h9
     obtain ⟨p10,c10,rfl⟩:=e10.form
     obtain ⟨p11,c11,rfl⟩:=e11.form
     obtain ⟨p12,c12,rfl⟩:=e12.form
     obtain ⟨p13,c13,rfl⟩:=e13.form
     obtain ⟨w4,rfl,hsl⟩:=yI hk
     obtain ⟨p8,c8,rfl⟩:=hsl.form
     refine zN<|yH [(85,vP r01 0),(96,vA (cStmt y22 p10 c10 p11 c11 p12 c12 p13 c13))]<|sD [hB r01 (cRd y23 p8 c8)] (hO zQ (vS pB bl cB) csB::hO Raw2 (vS a1 raws c1) s1::hB b2 [vS a0 y.Arrays c0,vS a1 raws c1]::hO zJ (vS a0 y.Arrays c0) s0::hB b1 zTwo::hf) (mX y23 y22 _ hm2 (hsl) e10 e11 e12 e13) ?_
     rintro imm02 hs2 v2 k2 le2 - ⟨v0,kk2,rfl,rfl,⟨cs2,rfl,h10⟩,h11⟩ -
     exact zZ (hx:=[hB r01 kk2]) rfl le2 rfl (zM rfl) ⟨_,_,rfl,rfl,h10,h11⟩
   intro imm1 hf le1
   refine zG ?_
   rintro _ _ ⟨rfl,rfl⟩
   refine zG ?_
   rintro _ _ ⟨cs9,kk,rfl,rfl,h9,hk⟩
   obtain ⟨w0,w1,w2,w3,rfl,e10,e11,e12,e13⟩:=wA h9
   obtain ⟨p10,c10,rfl⟩:=e10.form
   obtain ⟨p11,c11,rfl⟩:=e11.form
   obtain ⟨p12,c12,rfl⟩:=e12.form
   obtain ⟨p13,c13,rfl⟩:=e13.form
   obtain ⟨w4,rfl,hsl⟩:=yI hk
   obtain ⟨p8,c8,rfl⟩:=hsl.form
   refine zN<|yH [(84,vP r01 0),(97,vA (cStmt y24 p10 c10 p11 c11 p12 c12 p13 c13))]<|sD [hB r01 (cRd y25 p8 c8)] (hO zQ (vS pB bl cB) csB::hO Raw2 (vS a1 raws c1) s1::hB b2 [vS a0 y.Arrays c0,vS a1 raws c1]::hO zJ (vS a0 y.Arrays c0) s0::hB b1 zTwo::hf) (mX y25 y24 _ hm3 (hsl) e10 e11 e12 e13) ?_
   rintro imm02 hs2 v2 k2 le2 - ⟨v0,kk2,rfl,rfl,⟨cs2,rfl,h10⟩,h11⟩ -
   exact zZ (hx:=[hB r01 kk2]) rfl le2 rfl (zM rfl) ⟨_,_,rfl,rfl,h10,h11⟩
 intro imm5 le5
 refine zG ?_
 rintro _ _ ⟨rfl,rfl⟩
 refine zG ?_
 rintro _ _ ⟨cs9,kk,rfl,rfl,h9,hk⟩
 obtain ⟨w0,w1,w2,w3,rfl,e10,e11,e12,e13⟩:=wA h9
 obtain ⟨p10,c10,rfl⟩:=e10.form
 obtain ⟨p11,c11,rfl⟩:=e11.form
 obtain ⟨p12,c12,rfl⟩:=e12.form
 obtain ⟨p13,c13,rfl⟩:=e13.form
 have h3:=iM le5 h3
 have hRw:=iM le5 hRw
 have hN:=hN.mono le5
 have hBd:=iM le5 hBd
 have hset:=hset.mono le5
 refine zN<|yH [(4,vP b1 0),(5,vP b2 0),(83,vS pB bl cB),(98,vA (cStmt y26 p10 c10 p11 c11 p12 c12 p13 c13))]<|nK (α:=zQ) 1 rfl rfl rfl hBd hs ?_
 intro ad ccs hat hcc hrep
 obtain ⟨w0,w1,w2,w3,rfl,e20,e21,e22,e23⟩:=wA hrep
 obtain ⟨p20,c20,rfl⟩:=e20.form
 obtain ⟨p21,c21,rfl⟩:=e21.form
 obtain ⟨p22,c22,rfl⟩:=e22.form
 obtain ⟨p23,c23,rfl⟩:=e23.form
 refine qX (c:=(cStmt y26 p10 c10 p11 c11 p12 c12 p13 c13)) (x':=y26) 1 0 rfl rfl rfl hat rfl rfl hcc (by kernel_rfl) (by kernel_rfl) (by kernel_rfl) hBd hs (by kernel_rfl) (wL ⟨_,_,_,_,rfl,e10,e11,e12,e13⟩) ?_
 intro cs7 h7' hlen
 refine uB (hs':=[hB r01 kk,hO zQ (vS pB bl cB) cs7,hO Raw2 (vS a1 raws c1) s1,hB b2 [vS a0 y.Arrays c0,vS a1 raws c1],hO zJ (vS a0 y.Arrays c0) s0,hB b1 zTwo]) rfl<|yL 1 rfl ?_
 intro imm6 le6 hl6
 have eB:vS pB bl cB=vS pB (bl.set 0 y26) cB:=by simp [vS]
 have kB:SL imm6 (vS pB (bl.set 0 y26) cB) (bl.set 0 y26):=by
   rw [← eB]
   exact SL.of_frozen (l:=bl.set 0 y26) hl6 le6 h7'
 rw [eB] at hset
 have hdone:=(hset.mono le6).done (hN.mono le6) kB
 have eS:=nS hRw
 rw [← eS] at hdone
 have h3:=iM le6 h3
 have hk:=Rp.mono le6 hk
 have eP:vS a1 raws c1=vS a1 (y.Parts.set (W ((raws.length:Int) - 1)).toNat ⟨nl,bl.set 0 y26⟩) c1:=by simp only [vS,List.length_set,hLP.2.1]
 refine uB (hs':=[hB r01 kk,hO Raw2 (vS a1 raws c1) s1,hB b2 [vS a0 y.Arrays c0,vS a1 raws c1],hO zJ (vS a0 y.Arrays c0) s0,hB b1 zTwo]) rfl<|yN rfl<|zY<|zE<|zF<|zB<|yK 1 [2] [(110,vA [vS a0 y.Arrays c0,vS a1 raws c1])]<|xJ 4 [vS a0 y.Arrays c0,vS a1 raws c1] [hB r01 kk,hO Raw2 (vS a1 raws c1) s1,hB b2 [vS a0 y.Arrays c0,vS a1 raws c1],hO zJ (vS a0 y.Arrays c0) s0,hB b1 [vS a0 y.Arrays c0,vS a1 raws c1]] rfl rfl rfl rfl<|yN rfl<|zE<|yJ<|xI 1 rfl ?_
 intro imm7 le7 hl7
 have k1:SL imm7 (vS a1 raws c1) (y.Parts.set (W ((raws.length:Int) - 1)).toNat ⟨nl,bl.set 0 y26⟩):=SL.of_frozen (l:=y.Parts.set (W ((raws.length:Int) - 1)).toNat ⟨nl,bl.set 0 y26⟩) hl7 le7 hdone
 refine xI 2 rfl ?_
 intro imm8 le8 hl8
 have k2:=SL.of_frozen hl8 le8 (iM le7 h3)
 rw [hLP.len]
 exact yQ ⟨_,_,(.cell 2 rfl rfl (by kernel_rfl) ResV.nil),(zK [0] rfl (by decide)),⟨_,_,rfl,rfl,⟨_,rfl,(nH ⟨_,_,rfl,k2,k1.mono le8⟩)⟩,Rp.mono le8 (Rp.mono le7 hk)⟩⟩
theorem zGs:∀ (r0:zO) (p1:zV) r,qD r0 p1=some r→∀ {imm:Imm}{r01:Nat}{p c p2 c1 p3 c2},(S4 imm p r0.b c)→(S4 imm p2 p1.Arrays c1)→(S4 imm p3 p1.Parts c2)→Ret Tryz.prog 49 [vP r01 0,vA (cProg p1 p2 c1 p3 c2)] imm [hB r01 (cRd r0 p c)] (mC r01 r):=by
 intro r0 p1 r hM imm r01 p c p2 c1 p3 c2 h h1 h2;by_cases hq:∃ y y3 x s,sH p1=some y∧yW r0 60=some (3,y3)∧idx y.Parts (W ((y.Parts.length:Int) - 1))=some x∧idx x.Body 0=some s
 · obtain ⟨y,y3,x,s,e1,e2,e3,e4⟩:=hq;exact zB5 r0 p1 r hM e1 e2 e3 e4 h h1 h2
 refine zB3 r0 p1 r hM h h1 h2 ?_;intro y y2 y3 x s e1 e2 e3 e4 e5;obtain rfl:=eq_of_beq e3;exact hq ⟨y,y3,x,s,e1,e2,e4,e5⟩
def mD (r:Bool):KT:=fun kk imm' hs' v=>
  ∃ v0,hs'=[]∧v=tupV [v0]∧v0=.bool r
def wM (x:zJ) (k0:Int):Option (Out Unit (Bool)):=do
 if (decide (k0 < (x.Dims.length:Int))) then
  let t77←(do
    let x2←idx x.Dims k0
    if (decide (x2 < 1)) then
     pure true
    else
     let x3←idx x.Dims k0
     pure (decide (x3 > 6))
      : Option Bool)
  if t77 then
   pure (.ret false)
  else
   wM x (W (k0 + 1))
 else
  pure (.done ())
 partial_fixpoint
theorem zAX (x:zJ):∀ (k0:Int) (o:Out Unit (Bool)),wM x k0=some o→∀ {B}{imm0 imm:Imm}{Q}{list:(List zJ)}{i:Int}{p c p1 c1}{b:Nat},imm0.le imm→(S4 imm p list c)→(S4 imm p1 x.Dims c1)→(∀ gl a w,¬Q (.goto gl) a w)→(∀ a w,¬Q .outgrown a w)→(∀ (imm':Imm) ,o=(.done ())→imm0.le imm'→T 81 B Q (.exit 2) imm' [] [(0,vS p list c),(3,vI i)])→(∀ r imm' hs' m',o=(.ret r)→imm0.le imm'→RS Tryz.prog Tryz.f75 B (mD  r) imm' hs' m'→T 81 B Q .ret imm' hs' m')→J Tryz.prog 81 B (nav (bodyOf Tryz.f75) [1,0,1,0,0,1,0,0,1,1,1,0]) Q imm [hB b (cArr x p1 c1)] [(0,vS p list c),(3,vI i),(4,vP b 0),(5,vI k0)]:=by
 refine wM.partial_correctness x _ ?_;intro self ih k0 o hM B imm0 imm Q list i p c p1 c1 b hle h h1 hg ho hx hr;refine xC hg ho<|zF<|zF<|zB<|yA [0] [(61,.bool (decide (k0 < (x.Dims.length:Int))))]<|zE<|yO hM ?_ ?_
 · intro hc9 hM;refine yE<|zE<|zF<|yC<|zF ?_;obtain ⟨o01,ho01,hMc1⟩:=zC hM;refine yU (fun imm' hs' m'=>∃ (t77:Bool),o01=t77∧imm.le imm'∧hs'=[hB b (cArr x p1 c1)]∧m'=[(0,vS p list c),(3,vI i),(4,vP b 0),(5,vI k0),(77,.bool t77)]) ?_ ?_
   · have hle:=iS imm;refine zB<|yK 3 [0] [(65,vS p1 x.Dims c1),(66,vI k0)] ?_;obtain ⟨x2,hy2,hM⟩:=zC ho01;refine wJ rfl rfl h1 hy2 ?_;intro ad2 ccs2 hat2 hrep2;obtain rfl:=hrep2;refine xS 0 hat2 [vI x2] (vI x2) rfl<|yK 7 [] [(70,.bool (decide (x2 < 1)))] ?_;cases hc10:(decide (x2 < 1)) with
     | true =>
      have hM014:=zW hc10 hM
      try rw [hc10]
      exact yA [] [(77,.bool true)]<|yT [(0,vS p list c),(3,vI i),(4,vP b 0),(5,vI k0),(77,.bool true)]<|yB ⟨_,(zD hM014).symm,hle,rfl,rfl⟩
     | false =>
      have hM015:=zU hc10 hM
      try rw [hc10]
      refine yK 10 [0] [(72,vS p1 x.Dims c1),(73,vI k0)] ?_;obtain ⟨x3,hy3,hM⟩:=zC hM015;refine wJ rfl rfl h1 hy3 ?_;intro ad3 ccs3 hat3 hrep3;obtain rfl:=hrep3;exact xS 0 hat3 [vI x3] (vI x3) rfl<|yA [] [(77,.bool (decide (x3 > 6)))]<|yT [(0,vS p list c),(3,vI i),(4,vP b 0),(5,vI k0),(77,.bool (decide (x3 > 6)))]<|yB ⟨_,(zD hM).symm,hle,rfl,rfl⟩
   rintro imm01 hs2 m2 ⟨t77,heq1,le1,rfl,rfl⟩;subst o01;have h:=h.mono le1;have h1:=h1.mono le1;have hle:=hle.trans le1;refine zE<|yO hMc1 ?_ ?_
   · intro hc11 hM;exact zF<|zB<|yA [] [(2,.bool false)]<|zE<|yJ<|yF<|zR<|zR<|hr _ _ _ _ (zD hM).symm hle ⟨_,_,(.tmp rfl ResV.nil),zX,⟨_,rfl,rfl,rfl⟩⟩
   intro hc11 hM;exact yE<|zY<|zE<|zB<|yA [] [(5,vI (W (k0 + 1)))]<|xD<|vQ [(0,vS p list c),(3,vI i),(4,vP b 0),(5,vI (W (k0 + 1)))]<|ih (W (k0 + 1)) _ hM hle h h1 hg ho hx hr
 intro hc9 hM;exact xA<|zS<|zS<|wD (zK [] rfl (by decide))<|yT [(0,vS p list c),(3,vI i)]<|hx _  (zD hM).symm hle
def wY (list:(List zJ)) (i:Int):Option (Out Unit (Bool)):=do
 if (decide (i < (list.length:Int))) then
  let x←idx list i
  let t56←(do
    if ((x.Name.l.length:Int) != 1) then
     pure true
    else
     if (Op.bytesLess x.Name.l ([65]:List UInt8)) then
      pure true
     else
      if (!(Op.bytesLess x.Name.l ([68]:List UInt8) || x.Name.l == ([68]:List UInt8))) then
       pure true
      else
       if (decide (i > 0)) then
        let x1←idx list (W (i - 1))
        if (!(Op.bytesLess x1.Name.l x.Name.l)) then
         pure true
        else
         if (decide ((x.Dims.length:Int) < 1)) then
          pure true
         else
          pure (decide ((x.Dims.length:Int) > 2))
       else
        if (decide ((x.Dims.length:Int) < 1)) then
         pure true
        else
         pure (decide ((x.Dims.length:Int) > 2))
      : Option Bool)
  if t56 then
   pure (.ret false)
  else
   match←wM x 0 with
   | .ret r0=>pure (.ret r0)
   | .done _ =>
    wY list (W (i + 1))
 else
  pure (.done ())
 partial_fixpoint
theorem zAY (list:(List zJ)):∀ (i:Int) (o:Out Unit (Bool)),wY list i=some o→∀ {B}{imm0 imm:Imm}{Q p c},imm0.le imm→(S4 imm p list c)→(∀ gl a w,¬Q (.goto gl) a w)→(∀ a w,¬Q .outgrown a w)→(∀ (imm':Imm) ,o=(.done ())→imm0.le imm'→T 81 B Q (.exit 0) imm' [] [(0,vS p list c)])→(∀ r imm' hs' m',o=(.ret r)→imm0.le imm'→RS Tryz.prog Tryz.f75 B (mD  r) imm' hs' m'→T 81 B Q .ret imm' hs' m')→J Tryz.prog 81 B (nav (bodyOf Tryz.f75) [1,0,1,0]) Q imm [] [(0,vS p list c),(3,vI i)]:=by
 refine wY.partial_correctness list _ ?_;intro self ih i o hM B imm0 imm Q p c hle h hg ho hx hr;refine xC hg ho<|zF<|zF<|zB<|yA [] [(9,.bool (decide (i < (list.length:Int))))]<|zE<|yO hM ?_ ?_
 · intro hc hM;refine yE<|zE<|zF<|yC<|zF<|zB<|yK 2 [] [(12,vS p list c),(13,vI i)] ?_;obtain ⟨x,hy,hM⟩:=zC hM;refine wJ rfl rfl h hy ?_;intro ad ccs hat hrep;obtain ⟨v0,rfl,h1⟩:=xZ hrep;obtain ⟨p1,c1,rfl⟩:=h1.form;refine xS 0 hat (cArr x p1 c1) (vA (cArr x p1 c1)) rfl<|uD [vT ([]),z0] ?_;intro b hb;refine xJ 0 (cArr x p1 c1) [hB b (cArr x p1 c1)] rfl rfl rfl rfl<|yN rfl<|zE<|zF<|zF ?_;obtain ⟨o0,ho0,hMc⟩:=zC hM;refine yU (fun imm' hs' m'=>∃ (t56:Bool),o0=t56∧imm.le imm'∧hs'=[hB b (cArr x p1 c1)]∧m'=[(0,vS p list c),(3,vI i),(4,vP b 0),(56,.bool t56)]) ?_ ?_
   · have hle:=iS imm;refine jF (by kernel_rfl) (by kernel_rfl)<|eU 5 [0] [(20,.bool ((x.Name.l.length:Int) != 1))] ?_;cases hc1:((x.Name.l.length:Int) != 1) with
     | true =>
      have hM0:=zW hc1 ho0
      try rw [hc1]
      exact zCt [] [(56,.bool true)]<|yT [(0,vS p list c),(3,vI i),(4,vP b 0),(56,.bool true)]<|yB ⟨_,(zD hM0).symm,hle,rfl,rfl⟩
     | false =>
      have hM01:=zU hc1 ho0
      try rw [hc1]
      refine eU 10 [0] [(25,.bool (Op.bytesLess x.Name.l ([65]:List UInt8)))] ?_;cases hc2:(Op.bytesLess x.Name.l ([65]:List UInt8)) with
      | true =>
       have hM02:=zW hc2 hM01
       try rw [hc2]
       exact zCt [] [(56,.bool true)]<|yT [(0,vS p list c),(3,vI i),(4,vP b 0),(56,.bool true)]<|yB ⟨_,(zD hM02).symm,hle,rfl,rfl⟩
      | false =>
       have hM03:=zU hc2 hM01
       try rw [hc2]
       refine eU 15 [0] [(30,.bool (!(Op.bytesLess x.Name.l ([68]:List UInt8) || x.Name.l == ([68]:List UInt8))))] ?_;cases hc3:(!(Op.bytesLess x.Name.l ([68]:List UInt8) || x.Name.l == ([68]:List UInt8))) with
       | true =>
        have hM04:=zW hc3 hM03
        try rw [hc3]
        exact zCt [] [(56,.bool true)]<|yT [(0,vS p list c),(3,vI i),(4,vP b 0),(56,.bool true)]<|yB ⟨_,(zD hM04).symm,hle,rfl,rfl⟩
       | false =>
        have hM05:=zU hc3 hM03
        try rw [hc3]
        refine eU 18 [] [(33,.bool (decide (i > 0)))] ?_;cases hc4:(decide (i > 0)) with
        | true =>
         have hM06:=zW hc4 hM05
         try rw [hc4]
         refine eU 21 [] [(34,vS p list c),(36,vI (W (i - 1)))] ?_;obtain ⟨x1,hy1,hM⟩:=zC hM06;refine zDb rfl rfl h hy1 ?_;intro ad1 ccs1 hat1 hrep1;obtain ⟨v01,rfl,h2⟩:=xZ hrep1;obtain ⟨p2,c2,rfl⟩:=h2.form;refine eU 23 [] [(38,.pointer (some ad1))]<|zDa 0 hat1 [vT x1.Name.l] (vT x1.Name.l) rfl<|eU 30 [0] [(45,.bool (!(Op.bytesLess x1.Name.l x.Name.l)))] ?_;cases hc5:(!(Op.bytesLess x1.Name.l x.Name.l)) with
         | true =>
          have hM07:=zW hc5 hM
          try rw [hc5]
          exact zCt [] [(56,.bool true)]<|yT [(0,vS p list c),(3,vI i),(4,vP b 0),(56,.bool true)]<|yB ⟨_,(zD hM07).symm,hle,rfl,rfl⟩
         | false =>
          have hM08:=zU hc5 hM
          try rw [hc5]
          refine eU 36 [0] [(51,.bool (decide ((x.Dims.length:Int) < 1)))] ?_;cases hc6:(decide ((x.Dims.length:Int) < 1)) with
          | true =>
           have hM09:=zW hc6 hM08
           try rw [hc6]
           exact zCt [] [(56,.bool true)]<|yT [(0,vS p list c),(3,vI i),(4,vP b 0),(56,.bool true)]<|yB ⟨_,(zD hM09).symm,hle,rfl,rfl⟩
          | false =>
           have hM010:=zU hc6 hM08
           try rw [hc6]
           exact zCt [0] [(56,.bool (decide ((x.Dims.length:Int) > 2)))]<|yT [(0,vS p list c),(3,vI i),(4,vP b 0),(56,.bool (decide ((x.Dims.length:Int) > 2)))]<|yB ⟨_,(zD hM010).symm,hle,rfl,rfl⟩
        | false =>
         have hM011:=zU hc4 hM05
         try rw [hc4]
         refine eU 36 [0] [(51,.bool (decide ((x.Dims.length:Int) < 1)))] ?_;cases hc7:(decide ((x.Dims.length:Int) < 1)) with
         | true =>
          have hM012:=zW hc7 hM011
          try rw [hc7]
          exact zCt [] [(56,.bool true)]<|yT [(0,vS p list c),(3,vI i),(4,vP b 0),(56,.bool true)]<|yB ⟨_,(zD hM012).symm,hle,rfl,rfl⟩
         | false =>
          have hM013:=zU hc7 hM011
          try rw [hc7]
          exact zCt [0] [(56,.bool (decide ((x.Dims.length:Int) > 2)))]<|yT [(0,vS p list c),(3,vI i),(4,vP b 0),(56,.bool (decide ((x.Dims.length:Int) > 2)))]<|yB ⟨_,(zD hM013).symm,hle,rfl,rfl⟩
   rintro imm0 hs2 m2 ⟨t56,heq,le,rfl,rfl⟩;subst o0;have h:=h.mono le;have h1:=h1.mono le;have hle:=hle.trans le;refine zE<|yO hMc ?_ ?_
   · intro hc8 hM;exact zF<|zB<|yA [] [(2,.bool false)]<|zE<|yJ<|zR<|yF<|zR<|zR<|hr _ _ _ _ (zD hM).symm hle ⟨_,_,(.tmp rfl ResV.nil),zX,⟨_,rfl,rfl,rfl⟩⟩
   intro hc8 hM;refine yE<|zE<|zF<|zB<|yA [] [(5,vI 0)]<|zE<|yC<|vQ [(0,vS p list c),(3,vI i),(4,vP b 0),(5,vI 0)] ?_;obtain ⟨o02,ho02,hMl⟩:=zC hM;refine zAX x 0 o02 ho02 iR h h1 (fun _ _ _ h=>hg _ _ _ h) (fun _ _ h=>ho _ _ h) ?_ ?_
   · intro imm02  heq2 le2;subst o02;have h:=h.mono le2;have hle:=hle.trans le2;exact yD<|zY<|zE<|zB<|yA [] [(3,vI (W (i + 1)))]<|xD<|vQ [(0,vS p list c),(3,vI (W (i + 1)))]<|ih (W (i + 1)) _ hMl hle h hg ho hx hr
   intro r0 imm9 hs9 m9 heq9 le9 hrs9;subst heq9;exact yF<|yF<|zR<|zR<|hr _ _ _ _ (zD hMl).symm (hle.trans le9) hrs9
 intro hc hM;exact xA<|zS<|zS<|yT [(0,vS p list c)]<|hx _  (zD hM).symm hle
def qE (list:(List zJ)):Option (Bool):=do
 match←wY list 0 with
 | .ret r0=>pure r0
 | .done _ =>
  pure (decide ((list.length:Int) ≤ 4))
theorem zCV:∀ (list:(List zJ)) r,qE list=some r→∀ {imm:Imm}{p c},(S4 imm p list c)→Ret Tryz.prog 75 [vS p list c] imm [] (mD  r):=by
 intro list r hM imm p c h;unfold qE at hM;refine yG (fn:=Tryz.f75) (c:=(bodyOf Tryz.f75)) Tryz.func75 rfl rfl ?_;rintro B - -;refine zF<|zB<|yA [] []<|zE<|zF<|zF<|zB<|yA [] [(3,vI 0)]<|zE<|yC<|vQ [(0,vS p list c),(3,vI 0)] ?_;obtain ⟨o03,ho03,hMl1⟩:=zC hM;refine zAY list 0 o03 ho03 iR h (fun _ _ _ h=>h) (fun _ _ h=>h) ?_ ?_
 · intro imm03  heq3 le3;subst o03;refine yD<|zE<|zF<|zB<|yA [] [(2,.bool (decide ((list.length:Int) ≤ 4)))]<|zE<|yJ ?_;obtain rfl:=zD hMl1;exact yQ ⟨_,_,(.tmp rfl ResV.nil),zX,⟨_,rfl,rfl,rfl⟩⟩
 intro r0 imm9 hs9 m9 heq9 le9 hrs9;subst heq9;refine yF<|zR ?_;obtain rfl:=zD hMl1;exact yQ hrs9
def mI (r:(List zL)):KT:=fun kk imm' hs' v=>
  ∃ a0 c0 s0,hs'=[.osl (.slice a0 r.length c0) (Rp.sz zL) s0]∧v=tupV [(.slice a0 r.length c0)]∧RepL (Rp.rep imm') (Rp.sz zL) s0 r
mutual
def uT (out:(List zL)) (e0:zH):Option ((List zL)):=do
 let out1←(do
   if (e0.Kind == 3) then
    let y←vD e0.Read
    let out2←app 40 out ([y]:List zL)
    pure (id out2)
   else
    pure (id out)
     : Option (List zL))
 let out4←xT (same e0) (same out1) (same 0)
 pure (id out4)
 partial_fixpoint
def xT (e0:zH) (out3:List zL) (i:Int):Option (List zL):=do
 if (decide (i < (e0.Kids.length:Int))) then
  let x←idx e0.Kids i
  let y1←uT (same out3) (same x)
  xT (same e0) (same y1) (W (i + 1))
 else
  pure (id out3)
 partial_fixpoint
end
theorem zCW:(∀ (out:(List zL)) (e0:zH) r,uT out e0=some r→∀ {imm:Imm}{p c cs p1 c1 p2 c2 p3 c3},(RL imm cs out)→(S4 imm p1 e0.Index.Coefs c1)→(S4 imm p2 e0.Read.Subs c2)→(S4 imm p3 e0.Kids c3)→Ret Tryz.prog 79 [vS p out c,vA (cExpr e0 p1 c1 p2 c2 p3 c3)] imm [hO zL (vS p out c) cs] (mI  r))∧(∀ (e0:zH) (out3:List zL) (i:Int) o,xT e0 out3 i=some o→∀ {B}{imm0 imm:Imm}{Q p1 c1 p2 c2 p3 c3}{b:Nat}{p7 c7 cs4},imm0.le imm→(S4 imm p1 e0.Index.Coefs c1)→(S4 imm p2 e0.Read.Subs c2)→(S4 imm p3 e0.Kids c3)→(RL imm cs4 out3)→(∀ gl a w,¬Q (.goto gl) a w)→(∀ a w,¬Q .outgrown a w)→(∀ (imm':Imm) (out4:List zL) (p8:Option Addr) (c8:Nat) (cs5:List Value),o=out4→imm0.le imm'→(RL imm' cs5 out4)→T 30 B Q (.exit 0) imm' [hO zL (vS p8 out4 c8) cs5] [(0,vS p8 out4 c8)])→J Tryz.prog 30 B (nav (bodyOf Tryz.f79) [1,1,0,1,0]) Q imm [hB b (cExpr e0 p1 c1 p2 c2 p3 c3),hO zL (vS p7 out3 c7) cs4] [(0,vS p7 out3 c7),(3,vP b 0),(5,vI i)]):=by
  refine uT.mutual_partial_correctness (fun out e0 r=>∀ {imm:Imm}{p c cs p1 c1 p2 c2 p3 c3},(RL imm cs out)→(S4 imm p1 e0.Index.Coefs c1)→(S4 imm p2 e0.Read.Subs c2)→(S4 imm p3 e0.Kids c3)→Ret Tryz.prog 79 [vS p out c,vA (cExpr e0 p1 c1 p2 c2 p3 c3)] imm [hO zL (vS p out c) cs] (mI  r)) (fun e0 out3 i o=>∀ {B}{imm0 imm:Imm}{Q p1 c1 p2 c2 p3 c3}{b:Nat}{p7 c7 cs4},imm0.le imm→(S4 imm p1 e0.Index.Coefs c1)→(S4 imm p2 e0.Read.Subs c2)→(S4 imm p3 e0.Kids c3)→(RL imm cs4 out3)→(∀ gl a w,¬Q (.goto gl) a w)→(∀ a w,¬Q .outgrown a w)→(∀ (imm':Imm) (out4:List zL) (p8:Option Addr) (c8:Nat) (cs5:List Value),o=out4→imm0.le imm'→(RL imm' cs5 out4)→T 30 B Q (.exit 0) imm' [hO zL (vS p8 out4 c8) cs5] [(0,vS p8 out4 c8)])→J Tryz.prog 30 B (nav (bodyOf Tryz.f79) [1,1,0,1,0]) Q imm [hB b (cExpr e0 p1 c1 p2 c2 p3 c3),hO zL (vS p7 out3 c7) cs4] [(0,vS p7 out3 c7),(3,vP b 0),(5,vI i)]) ?_ ?_
  · intro F_spec_l3Reads_l1 ih_spec_l3Reads_l1 out e0 r hM imm p c cs p1 c1 p2 c2 p3 c3 h h1 h2 h3;refine yG (fn:=Tryz.f79) (c:=(bodyOf Tryz.f79)) Tryz.func79 rfl rfl ?_;rintro B - -;have hle:=iS imm;refine zF<|zB<|tR (cExpr e0 p1 c1 p2 c2 p3 c3) ?_;intro b hb;refine yA [] []<|zE<|zF<|zF<|zB<|yA [0] [(8,.bool (e0.Kind == 3))]<|zE ?_;obtain ⟨o0,ho0,hMc⟩:=zC hM;refine yU (fun imm' hs' m'=>∃ (out1:List zL) (p4:Option Addr) (c4:Nat) (cs1:List Value),o0=out1∧imm.le imm'∧(RL imm' cs1 out1)∧hs'=[hB b (cExpr e0 p1 c1 p2 c2 p3 c3),hO zL (vS p4 out1 c4) cs1]∧m'=[(0,vS p4 out1 c4),(3,vP b 0)]) ?_ ?_
    · have hle:=iS imm;refine yO ho0 ?_ ?_
      · intro hc hM;refine zB<|yK 3 [0] [(9,vS p out c),(11,vA (cAccess e0.Read p2 c2))] ?_;obtain ⟨y,hy,hM⟩:=zC hM;refine yR (nL e0.Read _ hy h2) ?_;rintro imm01 hs2 v2 k2 le - ⟨p5,c5,cs2,rfl,rfl,h5⟩ -;have h:=iM le h;have hle:=hle.trans le;refine yL 0 rfl ?_;intro imm02 le1 hl0;have h6:=SL.of_frozen hl0 le1 h5;have h:=iM le1 h;have hle:=hle.trans le1;refine xQ (cAccess y p5 c5) zL ?_;intro b1 hb1;have h7:RL imm02 (cAccess y p5 c5) ([y]:List zL):=⟨(cAccess y p5 c5),_,rfl,rfl,(qQ ⟨_,rfl,h6⟩),rfl⟩;obtain ⟨out2,hy1,hM⟩:=zC hM;refine qI 64 2 2 rfl rfl rfl h (.inr ⟨0,rfl⟩) h7 hy1 ?_;intro p6 c6 cs3 h8;exact rX (zK [1,2] (hs':=[hB b (cExpr e0 p1 c1 p2 c2 p3 c3),hO zL (vS p6 out2 c6) cs3]) rfl (by decide))<|yA [] [(0,vS p6 out2 c6)]<|yT [(0,vS p6 out2 c6),(3,vP b 0)]<|yB ⟨_,_,_,_,(zD hM).symm,hle,h8,rfl,rfl⟩
      intro hc hM;exact yE<|yT [(0,vS p out c),(3,vP b 0)]<|yB ⟨_,_,_,_,(zD hM).symm,hle,h,rfl,rfl⟩
    rintro imm0 hs2 m2 ⟨out1,p4,c4,cs1,heq,le2,h4,rfl,rfl⟩;subst o0;have h1:=h1.mono le2;have h2:=h2.mono le2;have h3:=h3.mono le2;refine zE<|zF<|zF<|zB<|yA [] [(5,vI 0)]<|zE<|yC<|vQ [(0,vS p4 out1 c4),(3,vP b 0),(5,vI 0)] ?_;obtain ⟨o01,ho01,hMl⟩:=zC hMc;refine ih_spec_l3Reads_l1 e0 out1 0 o01 ho01 iR h1 h2 h3 h4 (fun _ _ _ h=>h) (fun _ _ h=>h) ?_;intro imm04 out4 p8 c8 cs5 heq1 le4 h10;subst o01;refine yD<|zE<|zF<|zB<|yA [] [(4,vS p8 out4 c8)]<|zE<|yJ ?_;obtain rfl:=zD hMl;exact yQ ⟨_,_,(.tmp rfl ResV.nil),(zK [0] rfl (by decide)),⟨_,_,_,rfl,rfl,h10⟩⟩
  intro F_spec_l3Reads F_spec_l3Reads_l1 ih_spec_l3Reads ih_spec_l3Reads_l1 e0 out3 i o hM B imm0 imm Q p1 c1 p2 c2 p3 c3 b p7 c7 cs4 hle h1 h2 h3 h9 hg ho hx;refine xC hg ho<|zF<|zF<|zB<|yA [0] [(19,.bool (decide (i < (e0.Kids.length:Int))))]<|zE<|yO hM ?_ ?_
  · intro hc1 hM;refine yE<|zE<|zF<|yC<|zB<|yK 4 [0] [(22,vS p7 out3 c7),(24,vS p3 e0.Kids c3),(25,vI i)] ?_;obtain ⟨x,hy2,hM⟩:=zC hM;refine wJ rfl rfl h3 hy2 ?_;intro ad ccs hat hrep;obtain ⟨v0,v01,v02,rfl,h11,h12,h13⟩:=wK hrep;obtain ⟨p9,c9,rfl⟩:=h11.form;obtain ⟨p10,c10,rfl⟩:=h12.form;obtain ⟨p11,c11,rfl⟩:=h13.form;refine xS 0 hat (cExpr x p9 c9 p10 c10 p11 c11) (vA (cExpr x p9 c9 p10 c10 p11 c11)) rfl<|rX (zK [1,0] (hs':=[hO zL (vS p7 out3 c7) cs4,hB b (cExpr e0 p1 c1 p2 c2 p3 c3)]) rfl (by decide)) ?_;obtain ⟨y1,hy3,hM⟩:=zC hM;refine sD [hO zL (vS p7 out3 c7) cs4] [hB b (cExpr e0 p1 c1 p2 c2 p3 c3)] (ih_spec_l3Reads out3 x _ hy3 h9 h11 h12 h13) ?_;rintro imm03 hs2 v2 k2 le3 - ⟨p12,c12,cs6,rfl,rfl,h14⟩ -;have h1:=h1.mono le3;have h2:=h2.mono le3;have h3:=h3.mono le3;have hle:=hle.trans le3;exact yA [] [(0,vS p12 y1 c12)]<|zY<|zE<|zB<|yA [] [(5,vI (W (i + 1)))]<|xD<|qA (zK [1,0] rfl (by decide))<|vQ [(0,vS p12 y1 c12),(3,vP b 0),(5,vI (W (i + 1)))]<|ih_spec_l3Reads_l1 e0 y1 (W (i + 1)) _ hM hle h1 h2 h3 h14 hg ho hx
  intro hc1 hM;exact xA<|zS<|zS<|wD (zK [1] rfl (by decide))<|yT [(0,vS p7 out3 c7)]<|hx _ _ _ _ _ (zD hM).symm hle h9
theorem zCy:∀ (out:(List zL)) (e0:zH) r,uT out e0=some r→∀ {imm:Imm}{p c cs p1 c1 p2 c2 p3 c3},(RL imm cs out)→(S4 imm p1 e0.Index.Coefs c1)→(S4 imm p2 e0.Read.Subs c2)→(S4 imm p3 e0.Kids c3)→Ret Tryz.prog 79 [vS p out c,vA (cExpr e0 p1 c1 p2 c2 p3 c3)] imm [hO zL (vS p out c) cs] (mI  r):=zCW.1
def zCX (r:Int):KT:=fun kk imm' hs' v=>
  ∃ v0,hs'=[]∧v=tupV [v0]∧v0=.int .i64 r
def uL (a0:zJ) (n0:Int) (i:Int):Option (Int):=do
 if (decide (i < (a0.Dims.length:Int))) then
  let x←idx a0.Dims i
  uL a0 (W (n0 * x)) (W (i + 1))
 else
  pure (id n0)
 partial_fixpoint
theorem zB6 (a0:zJ):∀ (n0:Int) (i:Int) (o:Int),uL a0 n0 i=some o→∀ {B}{imm0 imm:Imm}{Q p c}{b:Nat},imm0.le imm→(S4 imm p a0.Dims c)→(∀ gl a w,¬Q (.goto gl) a w)→(∀ a w,¬Q .outgrown a w)→(∀ (imm':Imm) (n01:Int),o=n01→imm0.le imm'→T 20 B Q (.exit 0) imm' [] [(3,vI n01)])→J Tryz.prog 20 B (nav (bodyOf Tryz.f77) [1,1,0,1,0]) Q imm [hB b (cArr a0 p c)] [(1,vP b 0),(3,vI n0),(4,vI i)]:=by
 refine uL.partial_correctness a0 _ ?_;intro self ih n0 i o hM B imm0 imm Q p c b hle h hg ho hx;refine xC hg ho<|zF<|zF<|zB<|yA [0] [(9,.bool (decide (i < (a0.Dims.length:Int))))]<|zE<|yO hM ?_ ?_
 · intro hc hM;refine yE<|zE<|zF<|yC<|zB<|yK 4 [0] [(12,vI n0),(14,vS p a0.Dims c),(15,vI i)] ?_;obtain ⟨x,hy,hM⟩:=zC hM;refine wJ rfl rfl h hy ?_;intro ad ccs hat hrep;obtain rfl:=hrep;exact xS 0 hat [vI x] (vI x) rfl<|yA [] [(3,vI (W (n0 * x)))]<|zY<|zE<|zB<|yA [] [(4,vI (W (i + 1)))]<|xD<|vQ [(1,vP b 0),(3,vI (W (n0 * x))),(4,vI (W (i + 1)))]<|ih (W (n0 * x)) (W (i + 1)) _ hM hle h hg ho hx
 intro hc hM;exact xA<|zS<|zS<|wD (zK [] rfl (by decide))<|yT [(3,vI n0)]<|hx _ _ (zD hM).symm hle
def pY (a0:zJ):Option (Int):=do
 let n01←uL a0 1 0
 pure (id n01)
theorem zDf:∀ (a0:zJ) r,pY a0=some r→∀ {imm:Imm}{p c},(S4 imm p a0.Dims c)→Ret Tryz.prog 77 [vA (cArr a0 p c)] imm [] (zCX  r):=by
 intro a0 r hM imm p c h;unfold pY at hM;refine yG (fn:=Tryz.f77) (c:=(bodyOf Tryz.f77)) Tryz.func77 rfl rfl ?_;rintro B - -;refine zF<|zB<|tR (cArr a0 p c) ?_;intro b hb;refine yA [] []<|zE<|zF<|zB<|yA [] [(3,vI 1)]<|zE<|zF<|zF<|zB<|yA [] [(4,vI 0)]<|zE<|yC<|vQ [(1,vP b 0),(3,vI 1),(4,vI 0)] ?_;obtain ⟨o0,ho0,hMl⟩:=zC hM;refine zB6 a0 1 0 o0 ho0 iR h (fun _ _ _ h=>h) (fun _ _ h=>h) ?_;intro imm0 n01 heq le;subst o0;refine yD<|zE<|zF<|zB<|yA [] [(2,vI n01)]<|zE<|yJ ?_;obtain rfl:=zD hMl;exact yQ ⟨_,_,(.tmp rfl ResV.nil),zX,⟨_,rfl,rfl,rfl⟩⟩
def zCY (r:Int):KT:=fun kk imm' hs' v=>
  ∃ v0,hs'=[]∧v=tupV [v0]∧v0=.int .i64 r
def uM (a0:zA) (point:(List Int)) (n0:Int) (i:Int):Option (Int):=do
 let t19←(do
   if (decide (i < (point.length:Int))) then
    pure (decide (i < (a0.Coefs.length:Int)))
   else
    pure false
     : Option Bool)
 if t19 then
  let x←idx a0.Coefs i
  let x1←idx point i
  uM a0 point (W (n0 + (W (x * x1)))) (W (i + 1))
 else
  pure (id n0)
 partial_fixpoint
theorem zB7 (a0:zA) (point:(List Int)):∀ (n0:Int) (i:Int) (o:Int),uM a0 point n0 i=some o→∀ {B}{imm0 imm:Imm}{Q p c p1 c1}{b:Nat},imm0.le imm→(S4 imm p1 point c1)→(S4 imm p a0.Coefs c)→(∀ gl a w,¬Q (.goto gl) a w)→(∀ a w,¬Q .outgrown a w)→(∀ (imm':Imm) (n01:Int),o=n01→imm0.le imm'→T 35 B Q (.exit 0) imm' [] [(5,vI n01)])→J Tryz.prog 35 B (nav (bodyOf Tryz.f110) [1,1,0,1,0]) Q imm [hB b (cAff a0 p c)] [(1,vS p1 point c1),(2,vP b 0),(5,vI n0),(6,vI i)]:=by
 refine uM.partial_correctness a0 point _ ?_;intro self ih n0 i o hM B imm0 imm Q p c p1 c1 b hle h1 h hg ho hx;refine xC hg ho<|zF<|zF ?_;obtain ⟨o0,ho0,hMc⟩:=zC hM;refine yU (fun imm' hs' m'=>∃ (t19:Bool),o0=t19∧imm.le imm'∧hs'=[hB b (cAff a0 p c)]∧m'=[(1,vS p1 point c1),(2,vP b 0),(5,vI n0),(6,vI i),(19,.bool t19)]) ?_ ?_
 · have hle:=iS imm;refine zB<|yK 5 [] [(13,.bool (decide (i < (point.length:Int))))] ?_;cases hc:(decide (i < (point.length:Int))) with
   | true =>
    have hM0:=zW hc ho0
    try rw [hc]
    exact yA [0] [(19,.bool (decide (i < (a0.Coefs.length:Int))))]<|yT [(1,vS p1 point c1),(2,vP b 0),(5,vI n0),(6,vI i),(19,.bool (decide (i < (a0.Coefs.length:Int))))]<|yB ⟨_,(zD hM0).symm,hle,rfl,rfl⟩
   | false =>
    have hM01:=zU hc ho0
    try rw [hc]
    exact yA [] [(19,.bool false)]<|yT [(1,vS p1 point c1),(2,vP b 0),(5,vI n0),(6,vI i),(19,.bool false)]<|yB ⟨_,(zD hM01).symm,hle,rfl,rfl⟩
 rintro imm0 hs2 m2 ⟨t19,heq,le,rfl,rfl⟩;subst o0;have h1:=h1.mono le;have h:=h.mono le;have hle:=hle.trans le;refine zE<|yO hMc ?_ ?_
 · intro hc1 hM;refine yE<|zE<|zF<|yC<|jF (by kernel_rfl) (by kernel_rfl)<|eU 4 [0] [(22,vI n0),(24,vS p a0.Coefs c),(25,vI i)] ?_;obtain ⟨x,hy,hM⟩:=zC hM;refine zDb rfl rfl h hy ?_;intro ad ccs hat hrep;obtain rfl:=hrep;refine zDa 0 hat [vI x] (vI x) rfl<|eU 8 [] [(28,vS p1 point c1),(29,vI i)] ?_;obtain ⟨x1,hy1,hM⟩:=zC hM;refine zDb rfl rfl h1 hy1 ?_;intro ad1 ccs1 hat1 hrep1;obtain rfl:=hrep1;exact zDa 0 hat1 [vI x1] (vI x1) rfl<|zCt [] [(5,vI (W (n0 + (W (x * x1)))))]<|zY<|zE<|zB<|yA [] [(6,vI (W (i + 1)))]<|xD<|vQ [(1,vS p1 point c1),(2,vP b 0),(5,vI (W (n0 + (W (x * x1))))),(6,vI (W (i + 1)))]<|ih (W (n0 + (W (x * x1)))) (W (i + 1)) _ hM hle h1 h hg ho hx
 intro hc1 hM;exact xA<|zS<|zS<|wD (zK [] rfl (by decide))<|yT [(5,vI n0)]<|hx _ _ (zD hM).symm hle
def tT (a0:zA) (point:(List Int)):Option (Int):=do
 let n01←uM a0 point a0.Const 0
 pure (id n01)
theorem nN:∀ (a0:zA) (point:(List Int)) r,tT a0 point=some r→∀ {imm:Imm}{p c p1 c1},(S4 imm p a0.Coefs c)→(S4 imm p1 point c1)→Ret Tryz.prog 110 [vA (cAff a0 p c),vS p1 point c1] imm [] (zCY  r):=by
 intro a0 point r hM imm p c p1 c1 h h1;unfold tT at hM;refine yG (fn:=Tryz.f110) (c:=(bodyOf Tryz.f110)) Tryz.func110 rfl rfl ?_;rintro B - -;refine zF<|zB<|tR (cAff a0 p c) ?_;intro b hb;refine yA [] []<|zE<|zF<|zB<|yA [0] [(5,vI a0.Const)]<|zE<|zF<|zF<|zB<|yA [] [(6,vI 0)]<|zE<|yC<|vQ [(1,vS p1 point c1),(2,vP b 0),(5,vI a0.Const),(6,vI 0)] ?_;obtain ⟨o01,ho01,hMl⟩:=zC hM;refine zB7 a0 point a0.Const 0 o01 ho01 iR h1 h (fun _ _ _ h=>h) (fun _ _ h=>h) ?_;intro imm01 n01 heq1 le1;subst o01;refine yD<|zE<|zF<|zB<|yA [] [(4,vI n01)]<|zE<|yJ ?_;obtain rfl:=zD hMl;exact yQ ⟨_,_,(.tmp rfl ResV.nil),zX,⟨_,rfl,rfl,rfl⟩⟩
def mY (r:Int):KT:=fun kk imm' hs' v=>
  ∃ v0,hs'=[]∧v=tupV [v0]∧v0=.int .i64 r
def vJ (list:(List zJ)) (a0:zL) (point:(List Int)) (i:Int) (n0:Int) (k0:Int):Option (Out Int (Int)):=do
 if (decide (k0 < (a0.Subs.length:Int))) then
  let x2←idx list i
  if ((a0.Subs.length:Int) != (x2.Dims.length:Int)) then
   pure (.ret (-1))
  else
   let x3←idx a0.Subs k0
   let y1←tT x3 point
   let t70←(do
     if (decide (y1 < 0)) then
      pure true
     else
      let x4←idx list i
      let x5←idx x4.Dims k0
      pure (decide (y1 ≥ x5))
       : Option Bool)
   if t70 then
    pure (.ret (-1))
   else
    let x6←idx list i
    let x7←idx x6.Dims k0
    vJ list a0 point i (W ((W (n0 * x7)) + y1)) (W (k0 + 1))
 else
  pure (.done n0)
 partial_fixpoint
theorem zB8 (list:(List zJ)) (a0:zL) (point:(List Int)) (i:Int):∀ (n0:Int) (k0:Int) (o:Out Int (Int)),vJ list a0 point i n0 k0=some o→∀ {B}{imm0 imm:Imm}{Q}{base:Int}{p c p1 c1 p2 c2}{b:Nat},imm0.le imm→(S4 imm p list c)→(S4 imm p2 point c2)→(S4 imm p1 a0.Subs c1)→(∀ gl a w,¬Q (.goto gl) a w)→(∀ a w,¬Q .outgrown a w)→(∀ (imm':Imm) (n01:Int),o=(.done n01)→imm0.le imm'→T 86 B Q (.exit 2) imm' [] [(7,vI base),(9,vI n01)])→(∀ r imm' hs' m',o=(.ret r)→imm0.le imm'→RS Tryz.prog Tryz.f80 B (mY  r) imm' hs' m'→T 86 B Q .ret imm' hs' m')→J Tryz.prog 86 B (nav (bodyOf Tryz.f80) [1,1,0,1,0,0,1,0,0,1,1,0,1,0]) Q imm [hB b (cAccess a0 p1 c1)] [(0,vS p list c),(2,vS p2 point c2),(4,vP b 0),(7,vI base),(8,vI i),(9,vI n0),(10,vI k0)]:=by
 refine vJ.partial_correctness list a0 point i _ ?_;intro self ih n0 k0 o hM B imm0 imm Q base p c p1 c1 p2 c2 b hle h h2 h1 hg ho hx hr;refine xC hg ho<|zF<|zF<|zB<|yA [0] [(37,.bool (decide (k0 < (a0.Subs.length:Int))))]<|zE<|yO hM ?_ ?_
 · intro hc2 hM;refine yE<|zE<|zF<|yC<|zF<|zF<|jF (by kernel_rfl) (by kernel_rfl)<|eU 5 [0] [(42,vI (a0.Subs.length:Int)),(43,vS p list c),(44,vI i)] ?_;obtain ⟨x2,hy3,hM⟩:=zC hM;refine zDb rfl rfl h hy3 ?_;intro ad2 ccs2 hat2 hrep2;obtain ⟨v03,rfl,h6⟩:=xZ hrep2;obtain ⟨p5,c5,rfl⟩:=h6.form;refine eU 7 [] [(46,.pointer (some (ad2.add 1)))]<|zDa 1 hat2 [vS p5 x2.Dims c5] (vS p5 x2.Dims c5) rfl<|zCt [] [(49,.bool ((a0.Subs.length:Int) != (x2.Dims.length:Int)))]<|zE<|yO hM ?_ ?_
   · intro hc3 hM;exact zF<|zB<|yA [] [(6,vI (-1))]<|zE<|yJ<|zR<|yF<|zR<|zR<|hr _ _ _ _ (zD hM).symm hle ⟨_,_,(.tmp rfl ResV.nil),zX,⟨_,rfl,rfl,rfl⟩⟩
   intro hc3 hM;refine yE<|zE<|zF<|zB<|yK 3 [0] [(51,vS p1 a0.Subs c1),(52,vI k0)] ?_;obtain ⟨x3,hy4,hM⟩:=zC hM;refine wJ rfl rfl h1 hy4 ?_;intro ad3 ccs3 hat3 hrep3;obtain ⟨v04,rfl,h7⟩:=yM hrep3;obtain ⟨p6,c6,rfl⟩:=h7.form;refine xS 0 hat3 (cAff x3 p6 c6) (vA (cAff x3 p6 c6)) rfl<|yK 6 [] [(55,vS p2 point c2)] ?_;obtain ⟨y1,hy5,hM⟩:=zC hM;refine yR (nN x3 point _ hy5 h7 h2) ?_;rintro imm01 hs2 v2 k2 le1 - ⟨v05,rfl,rfl,rfl⟩ -;have h:=h.mono le1;have h2:=h2.mono le1;have h1:=h1.mono le1;have hle:=hle.trans le1;refine yA [] [(11,vI y1)]<|zE<|zF<|zF ?_;obtain ⟨o0,ho0,hMc⟩:=zC hM;refine yU (fun imm' hs' m'=>∃ (t70:Bool),o0=t70∧imm01.le imm'∧hs'=[hB b (cAccess a0 p1 c1)]∧m'=[(0,vS p list c),(2,vS p2 point c2),(4,vP b 0),(7,vI base),(8,vI i),(9,vI n0),(10,vI k0),(11,vI y1),(70,.bool t70)]) ?_ ?_
   · have hle:=iS imm01;refine zB<|yK 3 [] [(59,.bool (decide (y1 < 0)))] ?_;cases hc4:(decide (y1 < 0)) with
     | true =>
      have hM0:=zW hc4 ho0
      try rw [hc4]
      exact yA [] [(70,.bool true)]<|yT [(0,vS p list c),(2,vS p2 point c2),(4,vP b 0),(7,vI base),(8,vI i),(9,vI n0),(10,vI k0),(11,vI y1),(70,.bool true)]<|yB ⟨_,(zD hM0).symm,hle,rfl,rfl⟩
     | false =>
      have hM01:=zU hc4 ho0
      try rw [hc4]
      refine yK 6 [] [(60,vI y1),(61,vS p list c),(62,vI i)] ?_;obtain ⟨x4,hy6,hM⟩:=zC hM01;refine wJ rfl rfl h hy6 ?_;intro ad4 ccs4 hat4 hrep4;obtain ⟨v06,rfl,h9⟩:=xZ hrep4;obtain ⟨p7,c7,rfl⟩:=h9.form;refine yK 8 [] [(64,.pointer (some (ad4.add 1)))]<|xS 1 hat4 [vS p7 x4.Dims c7] (vS p7 x4.Dims c7) rfl<|yK 10 [] [(66,vI k0)] ?_;obtain ⟨x5,hy7,hM⟩:=zC hM;refine wJ rfl rfl h9 hy7 ?_;intro ad5 ccs5 hat5 hrep5;obtain rfl:=hrep5;exact xS 0 hat5 [vI x5] (vI x5) rfl<|yA [] [(70,.bool (decide (y1 ≥ x5)))]<|yT [(0,vS p list c),(2,vS p2 point c2),(4,vP b 0),(7,vI base),(8,vI i),(9,vI n0),(10,vI k0),(11,vI y1),(70,.bool (decide (y1 ≥ x5)))]<|yB ⟨_,(zD hM).symm,hle,rfl,rfl⟩
   rintro imm02 hs2 m2 ⟨t70,heq,le2,rfl,rfl⟩;subst o0;have h:=h.mono le2;have h2:=h2.mono le2;have h1:=h1.mono le2;have hle:=hle.trans le2;refine zE<|yO hMc ?_ ?_
   · intro hc5 hM;exact zF<|zB<|yA [] [(6,vI (-1))]<|zE<|yJ<|zR<|yF<|zR<|zR<|hr _ _ _ _ (zD hM).symm hle ⟨_,_,(.tmp rfl ResV.nil),zX,⟨_,rfl,rfl,rfl⟩⟩
   intro hc5 hM;refine yE<|zE<|zB<|yK 3 [] [(71,vI n0),(72,vS p list c),(73,vI i)] ?_;obtain ⟨x6,hy8,hM⟩:=zC hM;refine wJ rfl rfl h hy8 ?_;intro ad6 ccs6 hat6 hrep6;obtain ⟨v07,rfl,h10⟩:=xZ hrep6;obtain ⟨p8,c8,rfl⟩:=h10.form;refine yK 5 [] [(75,.pointer (some (ad6.add 1)))]<|xS 1 hat6 [vS p8 x6.Dims c8] (vS p8 x6.Dims c8) rfl<|yK 7 [] [(77,vI k0)] ?_;obtain ⟨x7,hy9,hM⟩:=zC hM;refine wJ rfl rfl h10 hy9 ?_;intro ad7 ccs7 hat7 hrep7;obtain rfl:=hrep7;exact xS 0 hat7 [vI x7] (vI x7) rfl<|yA [] [(9,vI (W ((W (n0 * x7)) + y1)))]<|zY<|zE<|zB<|yA [] [(10,vI (W (k0 + 1)))]<|xD<|vQ [(0,vS p list c),(2,vS p2 point c2),(4,vP b 0),(7,vI base),(8,vI i),(9,vI (W ((W (n0 * x7)) + y1))),(10,vI (W (k0 + 1)))]<|ih (W ((W (n0 * x7)) + y1)) (W (k0 + 1)) _ hM hle h h2 h1 hg ho hx hr
 intro hc2 hM;exact xA<|zS<|zS<|wD (zK [] rfl (by decide))<|yT [(7,vI base),(9,vI n0)]<|hx _ _ (zD hM).symm hle
def vK (list:(List zJ)) (a0:zL) (point:(List Int)) (base:Int) (i:Int):Option (Out Unit (Int)):=do
 if (decide (i < (list.length:Int))) then
  let x←idx list i
  if (!(x.Name.l == a0.Array.l)) then
   let x1←idx list i
   let y←pY x1
   vK list a0 point (W (base + y)) (W (i + 1))
  else
   match←vJ list a0 point i 0 0 with
   | .ret r0=>pure (.ret r0)
   | .done n01 =>
    pure (.ret (W (base + n01)))
 else
  pure (.done ())
 partial_fixpoint
theorem zB9 (list:(List zJ)) (a0:zL) (point:(List Int)):∀ (base:Int) (i:Int) (o:Out Unit (Int)),vK list a0 point base i=some o→∀ {B}{imm0 imm:Imm}{Q p c p1 c1 p2 c2}{b:Nat},imm0.le imm→(S4 imm p list c)→(S4 imm p2 point c2)→(S4 imm p1 a0.Subs c1)→(∀ gl a w,¬Q (.goto gl) a w)→(∀ a w,¬Q .outgrown a w)→(∀ (imm':Imm) ,o=(.done ())→imm0.le imm'→T 86 B Q (.exit 0) imm' [] [])→(∀ r imm' hs' m',o=(.ret r)→imm0.le imm'→RS Tryz.prog Tryz.f80 B (mY  r) imm' hs' m'→T 86 B Q .ret imm' hs' m')→J Tryz.prog 86 B (nav (bodyOf Tryz.f80) [1,1,0,1,0]) Q imm [hB b (cAccess a0 p1 c1)] [(0,vS p list c),(2,vS p2 point c2),(4,vP b 0),(7,vI base),(8,vI i)]:=by
 refine vK.partial_correctness list a0 point _ ?_;intro self ih base i o hM B imm0 imm Q p c p1 c1 p2 c2 b hle h h2 h1 hg ho hx hr;refine xC hg ho<|zF<|zF<|zB<|yA [] [(15,.bool (decide (i < (list.length:Int))))]<|zE<|yO hM ?_ ?_
 · intro hc hM;refine yE<|zE<|zF<|yC<|zF<|zF<|jF (by kernel_rfl) (by kernel_rfl)<|eU 2 [] [(18,vS p list c),(19,vI i)] ?_;obtain ⟨x,hy,hM⟩:=zC hM;refine zDb rfl rfl h hy ?_;intro ad ccs hat hrep;obtain ⟨v0,rfl,h3⟩:=xZ hrep;obtain ⟨p3,c3,rfl⟩:=h3.form;refine eU 4 [] [(21,.pointer (some ad))]<|zDa 0 hat [vT x.Name.l] (vT x.Name.l) rfl<|zCt [0] [(25,.bool (!(x.Name.l == a0.Array.l)))]<|zE<|yO hM ?_ ?_
   · intro hc1 hM;refine zF<|zB<|yK 3 [] [(26,vI base),(27,vS p list c),(28,vI i)] ?_;obtain ⟨x1,hy1,hM⟩:=zC hM;refine wJ rfl rfl h hy1 ?_;intro ad1 ccs1 hat1 hrep1;obtain ⟨v01,rfl,h4⟩:=xZ hrep1;obtain ⟨p4,c4,rfl⟩:=h4.form;refine xS 0 hat1 (cArr x1 p4 c4) (vA (cArr x1 p4 c4)) rfl ?_;obtain ⟨y,hy2,hM⟩:=zC hM;refine yR (zDf x1 _ hy2 h4) ?_;rintro imm0 hs2 v2 k2 le - ⟨v02,rfl,rfl,rfl⟩ -;have h:=h.mono le;have h2:=h2.mono le;have h1:=h1.mono le;have hle:=hle.trans le;exact yA [] [(7,vI (W (base + y)))]<|zE<|xA<|zS<|yD<|zE<|zB<|yA [] [(8,vI (W (i + 1)))]<|xD<|vQ [(0,vS p list c),(2,vS p2 point c2),(4,vP b 0),(7,vI (W (base + y))),(8,vI (W (i + 1)))]<|ih (W (base + y)) (W (i + 1)) _ hM hle h h2 h1 hg ho hx hr
   intro hc1 hM;refine yE<|zE<|zF<|zB<|yA [] [(9,vI 0)]<|zE<|zF<|zF<|zB<|yA [] [(10,vI 0)]<|zE<|yC<|vQ [(0,vS p list c),(2,vS p2 point c2),(4,vP b 0),(7,vI base),(8,vI i),(9,vI 0),(10,vI 0)] ?_;obtain ⟨o01,ho01,hMl⟩:=zC hM;refine zB8 list a0 point i 0 0 o01 ho01 iR h h2 h1 (fun _ _ _ h=>hg _ _ _ h) (fun _ _ h=>ho _ _ h) ?_ ?_
   · intro imm03 n01 heq1 le3;subst o01;have hle:=hle.trans le3;exact yD<|zE<|zF<|zB<|yA [] [(6,vI (W (base + n01)))]<|zE<|yJ<|yF<|zR<|zR<|hr _ _ _ _ (zD hMl).symm hle ⟨_,_,(.tmp rfl ResV.nil),zX,⟨_,rfl,rfl,rfl⟩⟩
   intro r0 imm9 hs9 m9 heq9 le9 hrs9;subst heq9;exact yF<|zR<|yF<|zR<|zR<|hr _ _ _ _ (zD hMl).symm (hle.trans le9) hrs9
 intro hc hM;exact xA<|zS<|zS<|wD (zK [] rfl (by decide))<|yT []<|hx _  (zD hM).symm hle
def qO (list:(List zJ)) (a0:zL) (point:(List Int)):Option (Int):=do
 match←vK list a0 point 0 0 with
 | .ret r0=>pure r0
 | .done _ =>
  pure (-1)
theorem dO:∀ (list:(List zJ)) (a0:zL) (point:(List Int)) r,qO list a0 point=some r→∀ {imm:Imm}{p c p1 c1 p2 c2},(S4 imm p list c)→(S4 imm p1 a0.Subs c1)→(S4 imm p2 point c2)→Ret Tryz.prog 80 [vS p list c,vA (cAccess a0 p1 c1),vS p2 point c2] imm [] (mY  r):=by
 intro list a0 point r hM imm p c p1 c1 p2 c2 h h1 h2;unfold qO at hM;refine yG (fn:=Tryz.f80) (c:=(bodyOf Tryz.f80)) Tryz.func80 rfl rfl ?_;rintro B - -;refine zF<|zB<|tR (cAccess a0 p1 c1) ?_;intro b hb;refine yA [] []<|zE<|zF<|zB<|yA [] [(7,vI 0)]<|zE<|zF<|zF<|zB<|yA [] [(8,vI 0)]<|zE<|yC<|vQ [(0,vS p list c),(2,vS p2 point c2),(4,vP b 0),(7,vI 0),(8,vI 0)] ?_;obtain ⟨o02,ho02,hMl1⟩:=zC hM;refine zB9 list a0 point 0 0 o02 ho02 iR h h2 h1 (fun _ _ _ h=>h) (fun _ _ h=>h) ?_ ?_
 · intro imm04  heq2 le4;subst o02;refine yD<|zE<|zF<|zB<|yA [] [(6,vI (-1))]<|zE<|yJ ?_;obtain rfl:=zD hMl1;exact yQ ⟨_,_,(.tmp rfl ResV.nil),zX,⟨_,rfl,rfl,rfl⟩⟩
 intro r0 imm9 hs9 m9 heq9 le9 hrs9;subst heq9;refine yF<|zR ?_;obtain rfl:=zD hMl1;exact yQ hrs9
def gH (r:(List Int)×Int×Bool):KT:=fun kk imm' hs' v=>
  ∃ v0 v1 v2,hs'=[]∧v=tupV [v0,v1,v2]∧SL imm' v0 r.1∧v1=.int .i64 r.2.1∧v2=.bool r.2.2
def vR (list:(List zJ)) (point:(List Int)) (y:(List zL)) (out:List Int) (i:Int):Option (Out (List Int) ((List Int)×Int×Bool)):=do
 if (decide (i < (y.length:Int))) then
  let x←idx y i
  let y1←qO list x point
  if (decide (y1 < 0)) then
   pure (.ret (([]:List Int),0,false))
  else
   let out2←app 8 out ([y1]:List Int)
   vR list point y out2 (W (i + 1))
 else
  pure (.done out)
 partial_fixpoint
theorem zAs (list:(List zJ)) (point:(List Int)) (y:(List zL)):∀ (out:List Int) (i:Int) (o:Out (List Int) ((List Int)×Int×Bool)),vR list point y out i=some o→∀ {B}{imm0 imm:Imm}{Q}{s:zQ}{p c p1 c1 p2 c2 p3 c3 p4 c4 p5 c5}{b:Nat}{p6 c6 cs p7 c7 cs1},imm0.le imm→(S4 imm p list c)→(S4 imm p5 point c5)→(RL imm cs y)→(S4 imm p1 s.Write.Subs c1)→(S4 imm p2 s.Value.Index.Coefs c2)→(S4 imm p3 s.Value.Read.Subs c3)→(S4 imm p4 s.Value.Kids c4)→(RL imm cs1 out)→(∀ gl a w,¬Q (.goto gl) a w)→(∀ a w,¬Q .outgrown a w)→(∀ (imm':Imm) (out1:List Int) (p8:Option Addr) (c8:Nat) (cs2:List Value),o=(.done out1)→imm0.le imm'→(RL imm' cs2 out1)→T 49 B Q (.exit 0) imm' [hO Int (vS p8 out1 c8) cs2,hB b (cStmt s p1 c1 p2 c2 p3 c3 p4 c4)] [(0,vS p list c),(2,vS p5 point c5),(4,vP b 0),(9,vS p8 out1 c8)])→(∀ r imm' hs' m',o=(.ret r)→imm0.le imm'→RS Tryz.prog Tryz.f43 B (gH  r) imm' hs' m'→T 49 B Q .ret imm' hs' m')→J Tryz.prog 49 B (nav (bodyOf Tryz.f43) [1,1,1,0,1,0]) Q imm [hO zL (vS p6 y c6) cs,hO Int (vS p7 out c7) cs1,hB b (cStmt s p1 c1 p2 c2 p3 c3 p4 c4)] [(0,vS p list c),(2,vS p5 point c5),(4,vP b 0),(9,vS p7 out c7),(10,vS p6 y c6),(11,vI i)]:=by
 refine vR.partial_correctness list point y _ ?_;intro self ih out i o hM B imm0 imm Q s p c p1 c1 p2 c2 p3 c3 p4 c4 p5 c5 b p6 c6 cs p7 c7 cs1 hle h h5 h8 h1 h2 h3 h4 h9 hg ho hx hr;refine xC hg ho<|zF<|zF<|zB<|yA [] [(22,.bool (decide (i < (y.length:Int))))]<|zE<|yO hM ?_ ?_
 · intro hc hM;refine yE<|zE<|zF<|yC<|zF<|zB<|yK 3 [] [(25,vS p list c),(26,vS p6 y c6),(27,vI i)] ?_;obtain ⟨x,hy1,hM⟩:=zC hM;refine nK 0 rfl rfl rfl h8 hy1 ?_;intro ad ccs hat hcc hrep;obtain ⟨v0,rfl,h11⟩:=sC hrep;obtain ⟨p9,c9,rfl⟩:=h11.form;refine zCu 0 0 hat hcc (cAccess x p9 c9) (vA (cAccess x p9 c9)) rfl rfl<|yK 6 [] [(30,vS p5 point c5)] ?_;obtain ⟨y1,hy2,hM⟩:=zC hM;refine yR (dO list x point _ hy2 h h11 h5) ?_;rintro imm01 hs2 v2 k2 le1 - ⟨v01,rfl,rfl,rfl⟩ -;have h:=h.mono le1;have h5:=h5.mono le1;have h9:=iM le1 h9;have h8:=iM le1 h8;have h1:=h1.mono le1;have h2:=h2.mono le1;have h3:=h3.mono le1;have h4:=h4.mono le1;have hle:=hle.trans le1;refine yA [] [(12,vI y1)]<|zE<|zF<|zF<|zB<|yA [] [(33,.bool (decide (y1 < 0)))]<|zE<|yO hM ?_ ?_
   · intro hc1 hM;refine zF<|zB<|xQ [] Int ?_;intro b3 hb3;have h13:RL imm01 [] ([]:List Int):=rfl;refine yA [] [(6,vS (some ⟨b3,0,none⟩) ([]:List Int) 0),(7,vI 0),(8,.bool false)]<|zE<|yJ<|zR<|yF<|zR<|zR<|xI 0 rfl ?_;intro imm02 le2 hl0;have h14:=SL.of_frozen hl0 le2 h13;have hle:=hle.trans le2;exact hr _ _ _ _ (zD hM).symm hle ⟨_,_,(.tmp rfl (.tmp rfl (.tmp rfl ResV.nil))),zX,⟨_,_,_,rfl,rfl,h14,rfl,rfl⟩⟩
   intro hc1 hM;refine yE<|zE<|zB<|yK 2 [] [(35,vS p7 out c7),(36,vI y1)]<|xQ [vI y1] Int ?_;intro b4 hb4;have h15:RL imm01 [vI y1] ([y1]:List Int):=⟨[vI y1],_,rfl,rfl,rfl,rfl⟩;obtain ⟨out2,hy3,hM⟩:=zC hM;refine qI 3 1 2 rfl rfl rfl h9 (.inr ⟨0,rfl⟩) h15 hy3 ?_;intro p10 c10 cs3 h16;exact rX (zK [1,2,3] (hs':=[hO zL (vS p6 y c6) cs,hO Int (vS p10 out2 c10) cs3,hB b (cStmt s p1 c1 p2 c2 p3 c3 p4 c4)]) rfl (by decide))<|yA [] [(9,vS p10 out2 c10)]<|zY<|zE<|zB<|yA [] [(11,vI (W (i + 1)))]<|xD<|vQ [(0,vS p list c),(2,vS p5 point c5),(4,vP b 0),(9,vS p10 out2 c10),(10,vS p6 y c6),(11,vI (W (i + 1)))]<|ih out2 (W (i + 1)) _ hM hle h h5 h8 h1 h2 h3 h4 h16 hg ho hx hr
 intro hc hM;exact xA<|zS<|zS<|wD (zK [1,2] rfl (by decide))<|yT [(0,vS p list c),(2,vS p5 point c5),(4,vP b 0),(9,vS p7 out c7)]<|hx _ _ _ _ _ (zD hM).symm hle h9
def qZ (list:(List zJ)) (s:zQ) (point:(List Int)):Option ((List Int)×Int×Bool):=do
 let y←uT ([]:List zL) s.Value
 match←vR list point y ([]:List Int) 0 with
 | .ret r0=>pure r0
 | .done out1 =>
  let y2←qO list s.Write point
  if (decide (y2 < 0)) then
   pure (([]:List Int),0,false)
  else
   pure (out1,y2,true)
theorem zCz:∀ (list:(List zJ)) (s:zQ) (point:(List Int)) r,qZ list s point=some r→∀ {imm:Imm}{p c p1 c1 p2 c2 p3 c3 p4 c4 p5 c5},(S4 imm p list c)→(S4 imm p1 s.Write.Subs c1)→(S4 imm p2 s.Value.Index.Coefs c2)→(S4 imm p3 s.Value.Read.Subs c3)→(S4 imm p4 s.Value.Kids c4)→(S4 imm p5 point c5)→Ret Tryz.prog 43 [vS p list c,vA (cStmt s p1 c1 p2 c2 p3 c3 p4 c4),vS p5 point c5] imm [] (gH  r):=by
 intro list s point r hM imm p c p1 c1 p2 c2 p3 c3 p4 c4 p5 c5 h h1 h2 h3 h4 h5;unfold qZ at hM;refine yG (fn:=Tryz.f43) (c:=(bodyOf Tryz.f43)) Tryz.func43 rfl rfl ?_;rintro B - -;refine zF<|zB<|tR (cStmt s p1 c1 p2 c2 p3 c3 p4 c4) ?_;intro b hb;refine yA [] []<|zE<|zF<|zB<|xQ [] Int ?_;intro b1 hb1;have h6:RL imm [] ([]:List Int):=rfl;refine yA [] [(9,vS (some ⟨b1,0,none⟩) ([]:List Int) 0)]<|zE<|zF<|zB<|xQ [] zL ?_;intro b2 hb2;have h7:RL imm [] ([]:List zL):=rfl;refine yK 3 [2] [(17,vA (cExpr s.Value p2 c2 p3 c3 p4 c4))] ?_;obtain ⟨y,hy,hM⟩:=zC hM;refine sD [hO zL (vS (some ⟨b2,0,none⟩) ([]:List zL) 0) []] [hO Int (vS (some ⟨b1,0,none⟩) ([]:List Int) 0) [],hB b (cStmt s p1 c1 p2 c2 p3 c3 p4 c4)] (zCy ([]:List zL) s.Value _ hy h7 h2 h3 h4) ?_;rintro imm0 hs2 v2 k2 le - ⟨p6,c6,cs,rfl,rfl,h8⟩ -;have h:=h.mono le;have h5:=h5.mono le;have h6:=iM le h6;have h1:=h1.mono le;have h2:=h2.mono le;have h3:=h3.mono le;have h4:=h4.mono le;refine yA [] [(10,vS p6 y c6)]<|zE<|zF<|zF<|zB<|yA [] [(11,vI 0)]<|zE<|yC<|vQ [(0,vS p list c),(2,vS p5 point c5),(4,vP b 0),(9,vS (some ⟨b1,0,none⟩) ([]:List Int) 0),(10,vS p6 y c6),(11,vI 0)] ?_;obtain ⟨o0,ho0,hMl⟩:=zC hM;refine zAs list point y ([]:List Int) 0 o0 ho0 iR h h5 h8 h1 h2 h3 h4 h6 (fun _ _ _ h=>h) (fun _ _ h=>h) ?_ ?_
 · intro imm03 out1 p8 c8 cs2 heq le3 h10;subst o0;have h:=h.mono le3;have h5:=h5.mono le3;have h1:=h1.mono le3;refine yD<|zE<|zF<|zB<|yK 4 [1] [(39,vS p list c),(41,vA (cAccess s.Write p1 c1)),(42,vS p5 point c5)] ?_;obtain ⟨y2,hy4,hM⟩:=zC hMl;refine yR (dO list s.Write point _ hy4 h h1 h5) ?_;rintro imm04 hs2 v2 k2 le4 - ⟨v02,rfl,rfl,rfl⟩ -;have h10:=iM le4 h10;refine yA [] [(13,vI y2)]<|zE<|zF<|zF<|zB<|yA [] [(45,.bool (decide (y2 < 0)))]<|zE<|yO hM ?_ ?_
   · intro hc2 hM;refine zF<|zB<|xQ [] Int ?_;intro b5 hb5;have h18:RL imm04 [] ([]:List Int):=rfl;refine yA [] [(6,vS (some ⟨b5,0,none⟩) ([]:List Int) 0),(7,vI 0),(8,.bool false)]<|zE<|yJ<|zR<|xI 0 rfl ?_;intro imm05 le5 hl01;have h19:=SL.of_frozen hl01 le5 h18;obtain rfl:=zD hM;exact yQ ⟨_,_,(.tmp rfl (.tmp rfl (.tmp rfl ResV.nil))),zX,⟨_,_,_,rfl,rfl,h19,rfl,rfl⟩⟩
   intro hc2 hM;refine yE<|zE<|zF<|zB<|yA [] [(6,vS p8 out1 c8),(7,vI y2),(8,.bool true)]<|zE<|yJ<|xI 0 rfl ?_;intro imm06 le6 hl02;have h20:=SL.of_frozen hl02 le6 h10;obtain rfl:=zD hM;exact yQ ⟨_,_,(.tmp rfl (.tmp rfl (.tmp rfl ResV.nil))),zX,⟨_,_,_,rfl,rfl,h20,rfl,rfl⟩⟩
 intro r0 imm9 hs9 m9 heq9 le9 hrs9;subst heq9;refine yF<|zR ?_;obtain rfl:=zD hMl;exact yQ hrs9
def zBa (r:Int×Int):KT:=fun kk imm' hs' v=>
  ∃ v0 v1,hs'=[]∧v=tupV [v0,v1]∧v0=.int .i64 r.1∧v1=.int .i64 r.2
def vU (loop:zI) (p2:(List Int)) (lo:Int) (i:Int):Option (Int):=do
 if (decide (i < (loop.Lo.length:Int))) then
  let x2←idx loop.Lo i
  let y2←tT x2 p2
  let lo2←(do
    if (decide (y2 > lo)) then
     pure (id y2)
    else
     pure (id lo)
      : Option Int)
  vU loop p2 lo2 (W (i + 1))
 else
  pure (id lo)
 partial_fixpoint
theorem zAt (loop:zI) (p2:(List Int)):∀ (lo:Int) (i:Int) (o:Int),vU loop p2 lo i=some o→∀ {B}{imm0 imm:Imm}{Q}{y1:Int}{p c p1 c1 p3 c2}{b:Nat},imm0.le imm→(S4 imm p3 p2 c2)→(S4 imm p loop.Lo c)→(S4 imm p1 loop.Hi c1)→(∀ gl a w,¬Q (.goto gl) a w)→(∀ a w,¬Q .outgrown a w)→(∀ (imm':Imm) (lo1:Int),o=lo1→imm0.le imm'→T 62 B Q (.exit 0) imm' [hB b (cLoop loop p c p1 c1)] [(1,vS p3 p2 c2),(2,vP b 0),(6,vI lo1),(7,vI y1)])→J Tryz.prog 62 B (nav (bodyOf Tryz.f108) [1,1,1,0,1,0]) Q imm [hB b (cLoop loop p c p1 c1)] [(1,vS p3 p2 c2),(2,vP b 0),(6,vI lo),(7,vI y1),(8,vI i)]:=by
 refine vU.partial_correctness loop p2 _ ?_;intro self ih lo i o hM B imm0 imm Q y1 p c p1 c1 p3 c2 b hle h2 h h1 hg ho hx;refine xC hg ho<|zF<|zF<|zB<|yA [0] [(28,.bool (decide (i < (loop.Lo.length:Int))))]<|zE<|yO hM ?_ ?_
 · intro hc hM;refine yE<|zE<|zF<|yC<|zF<|zB<|yK 3 [0] [(32,vS p loop.Lo c),(33,vI i)] ?_;obtain ⟨x2,hy4,hM⟩:=zC hM;refine wJ rfl rfl h hy4 ?_;intro ad2 ccs2 hat2 hrep2;obtain ⟨v04,rfl,h7⟩:=yM hrep2;obtain ⟨p6,c5,rfl⟩:=h7.form;refine xS 0 hat2 (cAff x2 p6 c5) (vA (cAff x2 p6 c5)) rfl<|yK 6 [] [(36,vS p3 p2 c2)] ?_;obtain ⟨y2,hy5,hM⟩:=zC hM;refine yR (nN x2 p2 _ hy5 h7 h2) ?_;rintro imm02 hs2 v2 k2 le2 - ⟨v05,rfl,rfl,rfl⟩ -;have h2:=h2.mono le2;have h:=h.mono le2;have h1:=h1.mono le2;have hle:=hle.trans le2;refine yA [] [(9,vI y2)]<|zE<|zF<|zB<|yA [] [(40,.bool (decide (y2 > lo)))]<|zE ?_;obtain ⟨o0,ho0,hMc⟩:=zC hM;refine yU (fun imm' hs' m'=>∃ (lo2:Int),o0=lo2∧imm02.le imm'∧hs'=[hB b (cLoop loop p c p1 c1)]∧m'=[(1,vS p3 p2 c2),(2,vP b 0),(6,vI lo2),(7,vI y1),(8,vI i)]) ?_ ?_
   · have hle:=iS imm02;refine yO ho0 ?_ ?_
     · intro hc1 hM;exact zB<|yA [] [(6,vI y2)]<|yT [(1,vS p3 p2 c2),(2,vP b 0),(6,vI y2),(7,vI y1),(8,vI i)]<|yB ⟨_,(zD hM).symm,hle,rfl,rfl⟩
     intro hc1 hM;exact yE<|yT [(1,vS p3 p2 c2),(2,vP b 0),(6,vI lo),(7,vI y1),(8,vI i)]<|yB ⟨_,(zD hM).symm,hle,rfl,rfl⟩
   rintro imm03 hs2 m2 ⟨lo2,heq,le3,rfl,rfl⟩;subst o0;have h2:=h2.mono le3;have h:=h.mono le3;have h1:=h1.mono le3;have hle:=hle.trans le3;exact zY<|zE<|zB<|yA [] [(8,vI (W (i + 1)))]<|xD<|vQ [(1,vS p3 p2 c2),(2,vP b 0),(6,vI lo2),(7,vI y1),(8,vI (W (i + 1)))]<|ih lo2 (W (i + 1)) _ hMc hle h2 h h1 hg ho hx
 intro hc hM;exact xA<|zS<|zS<|yT [(1,vS p3 p2 c2),(2,vP b 0),(6,vI lo),(7,vI y1)]<|hx _ _ (zD hM).symm hle
def vV (loop:zI) (p2:(List Int)) (hi:Int) (i1:Int):Option (Int):=do
 if (decide (i1 < (loop.Hi.length:Int))) then
  let x3←idx loop.Hi i1
  let y3←tT x3 p2
  let hi2←(do
    if (decide (y3 < hi)) then
     pure (id y3)
    else
     pure (id hi)
      : Option Int)
  vV loop p2 hi2 (W (i1 + 1))
 else
  pure (id hi)
 partial_fixpoint
theorem zAu (loop:zI) (p2:(List Int)):∀ (hi:Int) (i1:Int) (o:Int),vV loop p2 hi i1=some o→∀ {B}{imm0 imm:Imm}{Q}{lo1:Int}{p c p1 c1 p3 c2}{b:Nat},imm0.le imm→(S4 imm p3 p2 c2)→(S4 imm p loop.Lo c)→(S4 imm p1 loop.Hi c1)→(∀ gl a w,¬Q (.goto gl) a w)→(∀ a w,¬Q .outgrown a w)→(∀ (imm':Imm) (hi1:Int),o=hi1→imm0.le imm'→T 62 B Q (.exit 2) imm' [] [(6,vI lo1),(7,vI hi1)])→J Tryz.prog 62 B (nav (bodyOf Tryz.f108) [1,1,1,1,0,1,0]) Q imm [hB b (cLoop loop p c p1 c1)] [(1,vS p3 p2 c2),(2,vP b 0),(6,vI lo1),(7,vI hi),(10,vI i1)]:=by
 refine vV.partial_correctness loop p2 _ ?_;intro self ih hi i1 o hM B imm0 imm Q lo1 p c p1 c1 p3 c2 b hle h2 h h1 hg ho hx;refine xC hg ho<|zF<|zF<|zB<|yA [0] [(46,.bool (decide (i1 < (loop.Hi.length:Int))))]<|zE<|yO hM ?_ ?_
 · intro hc2 hM;refine yE<|zE<|zF<|yC<|zF<|zB<|yK 3 [0] [(50,vS p1 loop.Hi c1),(51,vI i1)] ?_;obtain ⟨x3,hy6,hM⟩:=zC hM;refine wJ rfl rfl h1 hy6 ?_;intro ad3 ccs3 hat3 hrep3;obtain ⟨v06,rfl,h9⟩:=yM hrep3;obtain ⟨p7,c6,rfl⟩:=h9.form;refine xS 0 hat3 (cAff x3 p7 c6) (vA (cAff x3 p7 c6)) rfl<|yK 6 [] [(54,vS p3 p2 c2)] ?_;obtain ⟨y3,hy7,hM⟩:=zC hM;refine yR (nN x3 p2 _ hy7 h9 h2) ?_;rintro imm05 hs2 v2 k2 le5 - ⟨v07,rfl,rfl,rfl⟩ -;have h2:=h2.mono le5;have h:=h.mono le5;have h1:=h1.mono le5;have hle:=hle.trans le5;refine yA [] [(11,vI y3)]<|zE<|zF<|zB<|yA [] [(58,.bool (decide (y3 < hi)))]<|zE ?_;obtain ⟨o02,ho02,hMc1⟩:=zC hM;refine yU (fun imm' hs' m'=>∃ (hi2:Int),o02=hi2∧imm05.le imm'∧hs'=[hB b (cLoop loop p c p1 c1)]∧m'=[(1,vS p3 p2 c2),(2,vP b 0),(6,vI lo1),(7,vI hi2),(10,vI i1)]) ?_ ?_
   · have hle:=iS imm05;refine yO ho02 ?_ ?_
     · intro hc3 hM;exact zB<|yA [] [(7,vI y3)]<|yT [(1,vS p3 p2 c2),(2,vP b 0),(6,vI lo1),(7,vI y3),(10,vI i1)]<|yB ⟨_,(zD hM).symm,hle,rfl,rfl⟩
     intro hc3 hM;exact yE<|yT [(1,vS p3 p2 c2),(2,vP b 0),(6,vI lo1),(7,vI hi),(10,vI i1)]<|yB ⟨_,(zD hM).symm,hle,rfl,rfl⟩
   rintro imm06 hs2 m2 ⟨hi2,heq2,le6,rfl,rfl⟩;subst o02;have h2:=h2.mono le6;have h:=h.mono le6;have h1:=h1.mono le6;have hle:=hle.trans le6;exact zY<|zE<|zB<|yA [] [(10,vI (W (i1 + 1)))]<|xD<|vQ [(1,vS p3 p2 c2),(2,vP b 0),(6,vI lo1),(7,vI hi2),(10,vI (W (i1 + 1)))]<|ih hi2 (W (i1 + 1)) _ hMc1 hle h2 h h1 hg ho hx
 intro hc2 hM;exact xA<|zS<|zS<|wD (zK [] rfl (by decide))<|yT [(6,vI lo1),(7,vI hi)]<|hx _ _ (zD hM).symm hle
def rY (loop:zI) (p2:(List Int)):Option (Int×Int):=do
 let x←idx loop.Lo 0
 let y←tT x p2
 let x1←idx loop.Hi 0
 let y1←tT x1 p2
 let lo1←vU loop p2 y 1
 let hi1←vV loop p2 y1 1
 pure (lo1,hi1)
theorem eQ:∀ (loop:zI) (p2:(List Int)) r,rY loop p2=some r→∀ {imm:Imm}{p c p1 c1 p3 c2},(S4 imm p loop.Lo c)→(S4 imm p1 loop.Hi c1)→(S4 imm p3 p2 c2)→Ret Tryz.prog 108 [vA (cLoop loop p c p1 c1),vS p3 p2 c2] imm [] (zBa  r):=by
 intro loop p2 r hM imm p c p1 c1 p3 c2 h h1 h2;unfold rY at hM;refine yG (fn:=Tryz.f108) (c:=(bodyOf Tryz.f108)) Tryz.func108 rfl rfl ?_;rintro B - -;refine zF<|zB<|tR (cLoop loop p c p1 c1) ?_;intro b hb;refine yA [] []<|zE<|zF<|zB<|yK 2 [0] [(13,vS p loop.Lo c)] ?_;obtain ⟨x,hy,hM⟩:=zC hM;refine wJ rfl rfl h hy ?_;intro ad ccs hat hrep;obtain ⟨v0,rfl,h3⟩:=yM hrep;obtain ⟨p4,c3,rfl⟩:=h3.form;refine xS 0 hat (cAff x p4 c3) (vA (cAff x p4 c3)) rfl<|yK 5 [] [(16,vS p3 p2 c2)] ?_;obtain ⟨y,hy1,hM⟩:=zC hM;refine yR (nN x p2 _ hy1 h3 h2) ?_;rintro imm0 hs2 v2 k2 le - ⟨v01,rfl,rfl,rfl⟩ -;have h2:=h2.mono le;have h:=h.mono le;have h1:=h1.mono le;refine yA [] [(6,vI y)]<|zE<|zF<|zB<|yK 2 [0] [(19,vS p1 loop.Hi c1)] ?_;obtain ⟨x1,hy2,hM⟩:=zC hM;refine wJ rfl rfl h1 hy2 ?_;intro ad1 ccs1 hat1 hrep1;obtain ⟨v02,rfl,h5⟩:=yM hrep1;obtain ⟨p5,c4,rfl⟩:=h5.form;refine xS 0 hat1 (cAff x1 p5 c4) (vA (cAff x1 p5 c4)) rfl<|yK 5 [] [(22,vS p3 p2 c2)] ?_;obtain ⟨y1,hy3,hM⟩:=zC hM;refine yR (nN x1 p2 _ hy3 h5 h2) ?_;rintro imm01 hs2 v2 k2 le1 - ⟨v03,rfl,rfl,rfl⟩ -;have h2:=h2.mono le1;have h:=h.mono le1;have h1:=h1.mono le1;refine yA [] [(7,vI y1)]<|zE<|zF<|zF<|zB<|yA [] [(8,vI 1)]<|zE<|yC<|vQ [(1,vS p3 p2 c2),(2,vP b 0),(6,vI y),(7,vI y1),(8,vI 1)] ?_;obtain ⟨o01,ho01,hMl⟩:=zC hM;refine zAt loop p2 y 1 o01 ho01 iR h2 h h1 (fun _ _ _ h=>h) (fun _ _ h=>h) ?_;intro imm04 lo1 heq1 le4;subst o01;have h2:=h2.mono le4;have h:=h.mono le4;have h1:=h1.mono le4;refine yD<|zE<|zF<|zF<|zB<|yA [] [(10,vI 1)]<|zE<|yC<|vQ [(1,vS p3 p2 c2),(2,vP b 0),(6,vI lo1),(7,vI y1),(10,vI 1)] ?_;obtain ⟨o03,ho03,hMl1⟩:=zC hMl;refine zAu loop p2 y1 1 o03 ho03 iR h2 h h1 (fun _ _ _ h=>h) (fun _ _ h=>h) ?_;intro imm07 hi1 heq3 le7;subst o03;refine yD<|zE<|zF<|zB<|yA [] [(4,vI lo1),(5,vI hi1)]<|zE<|yJ ?_;obtain rfl:=zD hMl1;exact yQ ⟨_,_,(.tmp rfl (.tmp rfl ResV.nil)),zX,⟨_,_,rfl,rfl,rfl,rfl⟩⟩
def mE (r:(List (List Int))):KT:=fun kk imm' hs' v=>
  ∃ a0 c0 s0,hs'=[.osl (.slice a0 r.length c0) (Rp.sz (List Int)) s0]∧v=tupV [(.slice a0 r.length c0)]∧RepL (Rp.rep imm') (Rp.sz (List Int)) s0 r
mutual
def wQ (out:(List (List Int))) (nest:(List zI)) (p2:(List Int)):Option ((List (List Int))):=do
 if ((p2.length:Int) == (nest.length:Int)) then
  let l←app 8 ([]:List Int) p2
  let t6←app 24 out ([l]:List (List Int))
  pure (id t6)
 else
  let x←idx nest (p2.length:Int)
  let (y1,y2)←rY x p2
  let out2←uE (same nest) (same p2) (same y2) (same out) (same y1)
  pure (id out2)
 partial_fixpoint
def uE (nest:(List zI)) (p2:(List Int)) (y2:Int) (out1:List (List Int)) (v04:Int):Option (List (List Int)):=do
 let t39←(do
   if (decide (v04 < y2)) then
    pure (decide ((out1.length:Int) ≤ 120))
   else
    pure false
     : Option Bool)
 if t39 then
  let l1←app 8 ([]:List Int) p2
  let l2←app 8 l1 ([v04]:List Int)
  let y3←wQ (same out1) (same nest) (same l2)
  uE (same nest) (same p2) (same y2) (same y3) (W (v04 + 1))
 else
  pure (id out1)
 partial_fixpoint
end
theorem zBb:(∀ (out:(List (List Int))) (nest:(List zI)) (p2:(List Int)) r,wQ out nest p2=some r→∀ {imm:Imm}{p c cs p1 c1 p3 c2},(RL imm cs out)→(S4 imm p1 nest c1)→(S4 imm p3 p2 c2)→Ret Tryz.prog 78 [vS p out c,vS p1 nest c1,vS p3 p2 c2] imm [hO (List Int) (vS p out c) cs] (mE  r))∧(∀ (nest:(List zI)) (p2:(List Int)) (y2:Int) (out1:List (List Int)) (v04:Int) o,uE nest p2 y2 out1 v04=some o→∀ {B}{imm0 imm:Imm}{Q p1 c1 p3 c2 p8 c7 cs3},imm0.le imm→(S4 imm p1 nest c1)→(S4 imm p3 p2 c2)→(RL imm cs3 out1)→(∀ gl a w,¬Q (.goto gl) a w)→(∀ a w,¬Q .outgrown a w)→(∀ (imm':Imm) (out2:List (List Int)) (p9:Option Addr) (c8:Nat) (cs4:List Value),o=out2→imm0.le imm'→(RL imm' cs4 out2)→T 52 B Q (.exit 0) imm' [hO (List Int) (vS p9 out2 c8) cs4] [(0,vS p9 out2 c8)])→J Tryz.prog 52 B (nav (bodyOf Tryz.f78) [1,1,1,0,1,0]) Q imm [hO (List Int) (vS p8 out1 c7) cs3] [(0,vS p8 out1 c7),(1,vS p1 nest c1),(2,vS p3 p2 c2),(8,vI y2),(9,vI v04)]):=by
  refine wQ.mutual_partial_correctness (fun out nest p2 r=>∀ {imm:Imm}{p c cs p1 c1 p3 c2},(RL imm cs out)→(S4 imm p1 nest c1)→(S4 imm p3 p2 c2)→Ret Tryz.prog 78 [vS p out c,vS p1 nest c1,vS p3 p2 c2] imm [hO (List Int) (vS p out c) cs] (mE  r)) (fun nest p2 y2 out1 v04 o=>∀ {B}{imm0 imm:Imm}{Q p1 c1 p3 c2 p8 c7 cs3},imm0.le imm→(S4 imm p1 nest c1)→(S4 imm p3 p2 c2)→(RL imm cs3 out1)→(∀ gl a w,¬Q (.goto gl) a w)→(∀ a w,¬Q .outgrown a w)→(∀ (imm':Imm) (out2:List (List Int)) (p9:Option Addr) (c8:Nat) (cs4:List Value),o=out2→imm0.le imm'→(RL imm' cs4 out2)→T 52 B Q (.exit 0) imm' [hO (List Int) (vS p9 out2 c8) cs4] [(0,vS p9 out2 c8)])→J Tryz.prog 52 B (nav (bodyOf Tryz.f78) [1,1,1,0,1,0]) Q imm [hO (List Int) (vS p8 out1 c7) cs3] [(0,vS p8 out1 c7),(1,vS p1 nest c1),(2,vS p3 p2 c2),(8,vI y2),(9,vI v04)]) ?_ ?_
  · intro F_spec_l2Points_l1 ih_spec_l2Points_l1 out nest p2 r hM imm p c cs p1 c1 p3 c2 h h1 h2;refine yG (fn:=Tryz.f78) (c:=(bodyOf Tryz.f78)) Tryz.func78 rfl rfl ?_;rintro B - -;refine zF<|zB<|yA [] []<|zE<|zF<|zF<|zB<|yA [] [(14,.bool ((p2.length:Int) == (nest.length:Int)))]<|zE<|yO hM ?_ ?_
    · intro hc hM;refine zF<|zB<|yK 1 [] [(15,vS p out c)]<|xQ [] Int ?_;intro b hb;have h3:RL imm [] ([]:List Int):=rfl;refine yK 3 [] [(17,vS p3 p2 c2)] ?_;obtain ⟨ccs,k0,k01⟩:=h2;have h2:SL imm (vS p3 p2 c2) p2:=⟨_,k0,k01⟩;obtain ⟨l,hy,hM⟩:=zC hM;refine qI 3 1 0 rfl rfl rfl h3 (.inl k0) k01 hy ?_;intro p4 c3 cs1 h4;refine rX (zK [0,1] (hs':=[hO Int (vS p4 l c3) cs1,hO (List Int) (vS p out c) cs]) rfl (by decide))<|yL 0 rfl ?_;intro imm0 le hl0;have h5:=SL.of_frozen hl0 le h4;have h:=iM le h;refine xQ [vS p4 l c3] (List Int) ?_;intro b1 hb1;have h6:RL imm0 [vS p4 l c3] ([l]:List (List Int)):=⟨[vS p4 l c3],_,rfl,rfl,⟨_,rfl,h5⟩,rfl⟩;obtain ⟨t6,hy1,hM⟩:=zC hM;refine qI 28 1 1 rfl rfl rfl h (.inr ⟨0,rfl⟩) h6 hy1 ?_;intro p5 c4 cs2 h7;refine rX (zK [1] (hs':=[hO (List Int) (vS p5 t6 c4) cs2]) rfl (by decide))<|yA [] [(6,vS p5 t6 c4)]<|zE<|yJ<|zR ?_;obtain rfl:=zD hM;exact yQ ⟨_,_,(.tmp rfl ResV.nil),(zK [0] rfl (by decide)),⟨_,_,_,rfl,rfl,h7⟩⟩
    intro hc hM;refine yE<|zE<|zF<|zB<|yK 3 [] [(22,vS p1 nest c1),(24,vI (p2.length:Int))] ?_;obtain ⟨x,hy2,hM⟩:=zC hM;refine wJ rfl rfl h1 hy2 ?_;intro ad ccs1 hat hrep;obtain ⟨v0,v01,rfl,h8,h9⟩:=uJ hrep;obtain ⟨p6,c5,rfl⟩:=h8.form;obtain ⟨p7,c6,rfl⟩:=h9.form;refine xS 0 hat (cLoop x p6 c5 p7 c6) (vA (cLoop x p6 c5 p7 c6)) rfl<|yK 6 [] [(27,vS p3 p2 c2)] ?_;obtain ⟨⟨y1,y2⟩,hy3,hM⟩:=zC hM;refine yR (eQ x p2 _ hy3 h8 h9 h2) ?_;rintro imm01 hs2 v2 k2 le1 - ⟨v02,v03,rfl,rfl,rfl,rfl⟩ -;have h:=iM le1 h;have h1:=h1.mono le1;have h2:=h2.mono le1;refine yA [] [(7,vI y1),(8,vI y2)]<|zE<|zF<|zF<|zB<|yA [] [(9,vI y1)]<|zE<|yC<|vQ [(0,vS p out c),(1,vS p1 nest c1),(2,vS p3 p2 c2),(8,vI y2),(9,vI y1)] ?_;obtain ⟨o01,ho01,hMl⟩:=zC hM;refine ih_spec_l2Points_l1 nest p2 y2 out y1 o01 ho01 iR h1 h2 h (fun _ _ _ h=>h) (fun _ _ h=>h) ?_;intro imm05 out2 p9 c8 cs4 heq1 le5 h13;subst o01;refine yD<|zE<|zF<|zB<|yA [] [(6,vS p9 out2 c8)]<|zE<|yJ ?_;obtain rfl:=zD hMl;exact yQ ⟨_,_,(.tmp rfl ResV.nil),(zK [0] rfl (by decide)),⟨_,_,_,rfl,rfl,h13⟩⟩
  intro F_spec_l2Points F_spec_l2Points_l1 ih_spec_l2Points ih_spec_l2Points_l1 nest p2 y2 out1 v04 o hM B imm0 imm Q p1 c1 p3 c2 p8 c7 cs3 hle h1 h2 h12 hg ho hx;refine xC hg ho<|zF<|zF ?_;obtain ⟨o0,ho0,hMc⟩:=zC hM;refine yU (fun imm' hs' m'=>∃ (t39:Bool),o0=t39∧imm.le imm'∧hs'=[hO (List Int) (vS p8 out1 c7) cs3]∧m'=[(0,vS p8 out1 c7),(1,vS p1 nest c1),(2,vS p3 p2 c2),(8,vI y2),(9,vI v04),(39,.bool t39)]) ?_ ?_
  · have hle:=iS imm;refine zB<|yK 4 [] [(35,.bool (decide (v04 < y2)))] ?_;cases hc1:(decide (v04 < y2)) with
    | true =>
     have hM0:=zW hc1 ho0
     try rw [hc1]
     exact yA [] [(39,.bool (decide ((out1.length:Int) ≤ 120)))]<|yT [(0,vS p8 out1 c7),(1,vS p1 nest c1),(2,vS p3 p2 c2),(8,vI y2),(9,vI v04),(39,.bool (decide ((out1.length:Int) ≤ 120)))]<|yB ⟨_,(zD hM0).symm,hle,rfl,rfl⟩
    | false =>
     have hM01:=zU hc1 ho0
     try rw [hc1]
     exact yA [] [(39,.bool false)]<|yT [(0,vS p8 out1 c7),(1,vS p1 nest c1),(2,vS p3 p2 c2),(8,vI y2),(9,vI v04),(39,.bool false)]<|yB ⟨_,(zD hM01).symm,hle,rfl,rfl⟩
  rintro imm02 hs2 m2 ⟨t39,heq,le2,rfl,rfl⟩;subst o0;have h12:=iM le2 h12;have h1:=h1.mono le2;have h2:=h2.mono le2;have hle:=hle.trans le2;refine zE<|yO hMc ?_ ?_
  · intro hc2 hM;refine yE<|zE<|zF<|yC<|zB<|yK 2 [] [(42,vS p8 out1 c7),(43,vS p1 nest c1)]<|xQ [] Int ?_;intro b2 hb2;have h14:RL imm02 [] ([]:List Int):=rfl;refine yK 4 [] [(45,vS p3 p2 c2)] ?_;obtain ⟨ccs2,k02,k03⟩:=h2;have h2:SL imm02 (vS p3 p2 c2) p2:=⟨_,k02,k03⟩;obtain ⟨l1,hy4,hM⟩:=zC hM;refine qI 3 1 0 rfl rfl rfl h14 (.inl k02) k03 hy4 ?_;intro p10 c9 cs5 h15;refine rX (zK [0,1] (hs':=[hO Int (vS p10 l1 c9) cs5,hO (List Int) (vS p8 out1 c7) cs3]) rfl (by decide))<|yK 6 [] [(47,vI v04)]<|xQ [vI v04] Int ?_;intro b3 hb3;have h16:RL imm02 [vI v04] ([v04]:List Int):=⟨[vI v04],_,rfl,rfl,rfl,rfl⟩;obtain ⟨l2,hy5,hM⟩:=zC hM;refine qI 3 1 1 rfl rfl rfl h15 (.inr ⟨0,rfl⟩) h16 hy5 ?_;intro p11 c10 cs6 h17;refine rX (zK [1,2] (hs':=[hO Int (vS p11 l2 c10) cs6,hO (List Int) (vS p8 out1 c7) cs3]) rfl (by decide))<|yL 0 rfl ?_;intro imm03 le3 hl01;have h18:=SL.of_frozen hl01 le3 h17;have h1:=h1.mono le3;have h2:=h2.mono le3;have h12:=iM le3 h12;have hle:=hle.trans le3;obtain ⟨y3,hy6,hM⟩:=zC hM;refine sD [hO (List Int) (vS p8 out1 c7) cs3] [] (ih_spec_l2Points out1 nest l2 _ hy6 h12 h1 h18) ?_;rintro imm04 hs2 v2 k2 le4 - ⟨p12,c11,cs7,rfl,rfl,h19⟩ -;have h1:=h1.mono le4;have h2:=h2.mono le4;have hle:=hle.trans le4;exact yA [] [(0,vS p12 y3 c11)]<|zY<|zE<|zB<|yA [] [(9,vI (W (v04 + 1)))]<|xD<|vQ [(0,vS p12 y3 c11),(1,vS p1 nest c1),(2,vS p3 p2 c2),(8,vI y2),(9,vI (W (v04 + 1)))]<|ih_spec_l2Points_l1 nest p2 y2 y3 (W (v04 + 1)) _ hM hle h1 h2 h19 hg ho hx
  intro hc2 hM;exact xA<|zS<|zS<|yT [(0,vS p8 out1 c7)]<|hx _ _ _ _ _ (zD hM).symm hle h12
theorem gZ:∀ (out:(List (List Int))) (nest:(List zI)) (p2:(List Int)) r,wQ out nest p2=some r→∀ {imm:Imm}{p c cs p1 c1 p3 c2},(RL imm cs out)→(S4 imm p1 nest c1)→(S4 imm p3 p2 c2)→Ret Tryz.prog 78 [vS p out c,vS p1 nest c1,vS p3 p2 c2] imm [hO (List Int) (vS p out c) cs] (mE  r):=zBb.1
def zAv (r:Bool):KT:=fun kk imm' hs' v=>
  ∃ v0,hs'=[]∧v=tupV [v0]∧v0=.bool r
def wR (n0:Int) (most:Int):Option (Bool):=do
 let t4←(do
   if (decide (n0 ≥ (W (0 - most)))) then
    pure (decide (n0 ≤ most))
   else
    pure false
     : Option Bool)
 pure (id t4)
theorem mZ:∀ (n0:Int) (most:Int) r,wR n0 most=some r→∀ {imm:Imm} ,Ret Tryz.prog 138 [vI n0,vI most] imm [] (zAv  r):=by
 intro n0 most r hM imm;unfold wR at hM;refine yG (fn:=Tryz.f138) (c:=(bodyOf Tryz.f138)) Tryz.func138 rfl rfl ?_;rintro B - -;have hle:=iS imm;refine zF<|zB<|yA [] []<|zE<|zF ?_;obtain ⟨o0,ho0,hMc⟩:=zC hM;refine yU (fun imm' hs' m'=>∃ (t4:Bool),o0=t4∧imm.le imm'∧hs'=[]∧m'=[(4,.bool t4)]) ?_ ?_
 · have hle:=iS imm;refine zB<|yK 5 [] [(9,.bool (decide (n0 ≥ (W (0 - most)))))] ?_;cases hc:(decide (n0 ≥ (W (0 - most)))) with
   | true =>
    have hM0:=zW hc ho0
    try rw [hc]
    exact yA [] [(4,.bool (decide (n0 ≤ most)))]<|yT [(4,.bool (decide (n0 ≤ most)))]<|yB ⟨_,(zD hM0).symm,hle,rfl,rfl⟩
   | false =>
    have hM01:=zU hc ho0
    try rw [hc]
    exact yA [] [(4,.bool false)]<|yT [(4,.bool false)]<|yB ⟨_,(zD hM01).symm,hle,rfl,rfl⟩
 rintro imm0 hs2 m2 ⟨t4,heq,le,rfl,rfl⟩;subst o0;refine zE<|yJ ?_;obtain rfl:=zD hMc;exact yQ ⟨_,_,(.tmp rfl ResV.nil),zX,⟨_,rfl,rfl,rfl⟩⟩
def mT (r:Bool):KT:=fun kk imm' hs' v=>
  ∃ v0,hs'=[]∧v=tupV [v0]∧v0=.bool r
def xU (a0:zA) (i:Int):Option (Out Unit (Bool)):=do
 if (decide (i < (a0.Coefs.length:Int))) then
  let x←idx a0.Coefs i
  let y←wR x 9
  if (!y) then
   pure (.ret false)
  else
   xU a0 (W (i + 1))
 else
  pure (.done ())
 partial_fixpoint
theorem fV (a0:zA):∀ (i:Int) (o:Out Unit (Bool)),xU a0 i=some o→∀ {B}{imm0 imm:Imm}{Q p c}{b:Nat},imm0.le imm→(S4 imm p a0.Coefs c)→(∀ gl a w,¬Q (.goto gl) a w)→(∀ a w,¬Q .outgrown a w)→(∀ (imm':Imm) ,o=(.done ())→imm0.le imm'→T 27 B Q (.exit 0) imm' [hB b (cAff a0 p c)] [(1,vP b 0)])→(∀ r imm' hs' m',o=(.ret r)→imm0.le imm'→RS Tryz.prog Tryz.f153 B (mT  r) imm' hs' m'→T 27 B Q .ret imm' hs' m')→J Tryz.prog 27 B (nav (bodyOf Tryz.f153) [1,0,1,0]) Q imm [hB b (cAff a0 p c)] [(1,vP b 0),(3,vI i)]:=by
 refine xU.partial_correctness a0 _ ?_;intro self ih i o hM B imm0 imm Q p c b hle h hg ho hx hr;refine xC hg ho<|zF<|zF<|zB<|yA [0] [(8,.bool (decide (i < (a0.Coefs.length:Int))))]<|zE<|yO hM ?_ ?_
 · intro hc hM;refine yE<|zE<|zF<|yC<|zF<|zB<|yK 3 [0] [(12,vS p a0.Coefs c),(13,vI i)] ?_;obtain ⟨x,hy,hM⟩:=zC hM;refine wJ rfl rfl h hy ?_;intro ad ccs hat hrep;obtain rfl:=hrep;refine xS 0 hat [vI x] (vI x) rfl ?_;obtain ⟨y,hy1,hM⟩:=zC hM;refine yR (mZ x 9 _ hy1 ) ?_;rintro imm0 hs2 v2 k2 le - ⟨v0,rfl,rfl,rfl⟩ -;have h:=h.mono le;have hle:=hle.trans le;refine yA [] [(17,.bool (!y))]<|zE<|yO hM ?_ ?_
   · intro hc1 hM;exact zF<|zB<|yA [] [(2,.bool false)]<|zE<|yJ<|yF<|zR<|zR<|hr _ _ _ _ (zD hM).symm hle ⟨_,_,(.tmp rfl ResV.nil),zX,⟨_,rfl,rfl,rfl⟩⟩
   intro hc1 hM;exact yE<|zY<|zE<|zB<|yA [] [(3,vI (W (i + 1)))]<|xD<|vQ [(1,vP b 0),(3,vI (W (i + 1)))]<|ih (W (i + 1)) _ hM hle h hg ho hx hr
 intro hc hM;exact xA<|zS<|zS<|yT [(1,vP b 0)]<|hx _  (zD hM).symm hle
def wZ (a0:zA):Option (Bool):=do
 match←xU a0 0 with
 | .ret r0=>pure r0
 | .done _ =>
  let t2←(do
    if ((a0.Coefs.length:Int) == 4) then
     let y1←wR a0.Const 99
     pure (id y1)
    else
     pure false
      : Option Bool)
  pure (id t2)
theorem oG:∀ (a0:zA) r,wZ a0=some r→∀ {imm:Imm}{p c},(S4 imm p a0.Coefs c)→Ret Tryz.prog 153 [vA (cAff a0 p c)] imm [] (mT  r):=by
 intro a0 r hM imm p c h;unfold wZ at hM;refine yG (fn:=Tryz.f153) (c:=(bodyOf Tryz.f153)) Tryz.func153 rfl rfl ?_;rintro B - -;have hle:=iS imm;refine zF<|zB<|tR (cAff a0 p c) ?_;intro b hb;refine yA [] []<|zE<|zF<|zF<|zB<|yA [] [(3,vI 0)]<|zE<|yC<|vQ [(1,vP b 0),(3,vI 0)] ?_;obtain ⟨o0,ho0,hMl⟩:=zC hM;refine fV a0 0 o0 ho0 iR h (fun _ _ _ h=>h) (fun _ _ h=>h) ?_ ?_
 · intro imm01  heq le1;subst o0;have hle:=hle.trans le1;refine yD<|zE<|zF ?_;obtain ⟨o01,ho01,hMc⟩:=zC hMl;refine yU (fun imm' hs' m'=>∃ (t2:Bool),o01=t2∧imm01.le imm'∧hs'=[]∧m'=[(2,.bool t2)]) ?_ ?_
   · have hle:=iS imm01;refine zB<|yK 5 [0] [(22,.bool ((a0.Coefs.length:Int) == 4))] ?_;cases hc2:((a0.Coefs.length:Int) == 4) with
     | true =>
      have hM0:=zW hc2 ho01
      try rw [hc2]
      refine yK 7 [0] [(24,vI a0.Const)] ?_;obtain ⟨y1,hy2,hM⟩:=zC hM0;refine yR (mZ a0.Const 99 _ hy2 ) ?_;rintro imm03 hs2 v2 k2 le2 - ⟨v01,rfl,rfl,rfl⟩ -;have hle:=hle.trans le2;exact yA [] [(2,.bool y1)]<|wD (zK [] rfl (by decide))<|yT [(2,.bool y1)]<|yB ⟨_,(zD hM).symm,hle,rfl,rfl⟩
     | false =>
      have hM01:=zU hc2 ho01
      try rw [hc2]
      exact yA [] [(2,.bool false)]<|wD (zK [] rfl (by decide))<|yT [(2,.bool false)]<|yB ⟨_,(zD hM01).symm,hle,rfl,rfl⟩
   rintro imm02 hs2 m2 ⟨t2,heq1,le3,rfl,rfl⟩;subst o01;refine zE<|yJ ?_;obtain rfl:=zD hMc;exact yQ ⟨_,_,(.tmp rfl ResV.nil),zX,⟨_,rfl,rfl,rfl⟩⟩
 intro r0 imm9 hs9 m9 heq9 le9 hrs9;subst heq9;refine yF<|zR ?_;obtain rfl:=zD hMl;exact yQ hrs9
def zBc (r:Int):KT:=fun kk imm' hs' v=>
  ∃ v0,hs'=[]∧v=tupV [v0]∧v0=.int .i64 r
def vW (a0:zA) (n0:Int) (i:Int):Option (Int):=do
 if (decide (i < (a0.Coefs.length:Int))) then
  let x←idx a0.Coefs i
  let n02←(do
    if (x != 0) then
     pure (W (i + 1))
    else
     pure (id n0)
      : Option Int)
  vW a0 n02 (W (i + 1))
 else
  pure (id n0)
 partial_fixpoint
theorem zAw (a0:zA):∀ (n0:Int) (i:Int) (o:Int),vW a0 n0 i=some o→∀ {B}{imm0 imm:Imm}{Q p c}{b:Nat},imm0.le imm→(S4 imm p a0.Coefs c)→(∀ gl a w,¬Q (.goto gl) a w)→(∀ a w,¬Q .outgrown a w)→(∀ (imm':Imm) (n01:Int),o=n01→imm0.le imm'→T 21 B Q (.exit 0) imm' [] [(3,vI n01)])→J Tryz.prog 21 B (nav (bodyOf Tryz.f154) [1,1,0,1,0]) Q imm [hB b (cAff a0 p c)] [(1,vP b 0),(3,vI n0),(4,vI i)]:=by
 refine vW.partial_correctness a0 _ ?_;intro self ih n0 i o hM B imm0 imm Q p c b hle h hg ho hx;refine xC hg ho<|zF<|zF<|zB<|yA [0] [(9,.bool (decide (i < (a0.Coefs.length:Int))))]<|zE<|yO hM ?_ ?_
 · intro hc hM;refine yE<|zE<|zF<|yC<|zF<|zB<|yK 3 [0] [(13,vS p a0.Coefs c),(14,vI i)] ?_;obtain ⟨x,hy,hM⟩:=zC hM;refine wJ rfl rfl h hy ?_;intro ad ccs hat hrep;obtain rfl:=hrep;refine xS 0 hat [vI x] (vI x) rfl<|yA [] [(17,.bool (x != 0))]<|zE ?_;obtain ⟨o0,ho0,hMc⟩:=zC hM;refine yU (fun imm' hs' m'=>∃ (n02:Int),o0=n02∧imm.le imm'∧hs'=[hB b (cAff a0 p c)]∧m'=[(1,vP b 0),(3,vI n02),(4,vI i)]) ?_ ?_
   · have hle:=iS imm;refine yO ho0 ?_ ?_
     · intro hc1 hM;exact zB<|yA [] [(3,vI (W (i + 1)))]<|yT [(1,vP b 0),(3,vI (W (i + 1))),(4,vI i)]<|yB ⟨_,(zD hM).symm,hle,rfl,rfl⟩
     intro hc1 hM;exact yE<|yT [(1,vP b 0),(3,vI n0),(4,vI i)]<|yB ⟨_,(zD hM).symm,hle,rfl,rfl⟩
   rintro imm0 hs2 m2 ⟨n02,heq,le,rfl,rfl⟩;subst o0;have h:=h.mono le;have hle:=hle.trans le;exact zY<|zE<|zB<|yA [] [(4,vI (W (i + 1)))]<|xD<|vQ [(1,vP b 0),(3,vI n02),(4,vI (W (i + 1)))]<|ih n02 (W (i + 1)) _ hMc hle h hg ho hx
 intro hc hM;exact xA<|zS<|zS<|wD (zK [] rfl (by decide))<|yT [(3,vI n0)]<|hx _ _ (zD hM).symm hle
def sN (a0:zA):Option (Int):=do
 let n01←vW a0 0 0
 pure (id n01)
theorem kO:∀ (a0:zA) r,sN a0=some r→∀ {imm:Imm}{p c},(S4 imm p a0.Coefs c)→Ret Tryz.prog 154 [vA (cAff a0 p c)] imm [] (zBc  r):=by
 intro a0 r hM imm p c h;unfold sN at hM;refine yG (fn:=Tryz.f154) (c:=(bodyOf Tryz.f154)) Tryz.func154 rfl rfl ?_;rintro B - -;refine zF<|zB<|tR (cAff a0 p c) ?_;intro b hb;refine yA [] []<|zE<|zF<|zB<|yA [] [(3,vI 0)]<|zE<|zF<|zF<|zB<|yA [] [(4,vI 0)]<|zE<|yC<|vQ [(1,vP b 0),(3,vI 0),(4,vI 0)] ?_;obtain ⟨o01,ho01,hMl⟩:=zC hM;refine zAw a0 0 0 o01 ho01 iR h (fun _ _ _ h=>h) (fun _ _ h=>h) ?_;intro imm01 n01 heq1 le1;subst o01;refine yD<|zE<|zF<|zB<|yA [] [(2,vI n01)]<|zE<|yJ ?_;obtain rfl:=zD hMl;exact yQ ⟨_,_,(.tmp rfl ResV.nil),zX,⟨_,rfl,rfl,rfl⟩⟩
def fA (r:Bool):KT:=fun kk imm' hs' v=>
  ∃ v0,hs'=[]∧v=tupV [v0]∧v0=.bool r
def uN (list:(List zA)) (depth:Int) (i:Int):Option (Out Unit (Bool)):=do
 if (decide (i < (list.length:Int))) then
  let t26←(do
    let x←idx list i
    let y←wZ x
    if (!y) then
     pure true
    else
     let x1←idx list i
     let y1←sN x1
     pure (decide (y1 > depth))
      : Option Bool)
  if t26 then
   pure (.ret false)
  else
   uN list depth (W (i + 1))
 else
  pure (.done ())
 partial_fixpoint
theorem zBd (list:(List zA)) (depth:Int):∀ (i:Int) (o:Out Unit (Bool)),uN list depth i=some o→∀ {B}{imm0 imm:Imm}{Q p c},imm0.le imm→(S4 imm p list c)→(∀ gl a w,¬Q (.goto gl) a w)→(∀ a w,¬Q .outgrown a w)→(∀ (imm':Imm) ,o=(.done ())→imm0.le imm'→T 35 B Q (.exit 0) imm' [] [(0,vS p list c)])→(∀ r imm' hs' m',o=(.ret r)→imm0.le imm'→RS Tryz.prog Tryz.f152 B (fA  r) imm' hs' m'→T 35 B Q .ret imm' hs' m')→J Tryz.prog 35 B (nav (bodyOf Tryz.f152) [1,0,1,0]) Q imm [] [(0,vS p list c),(1,vI depth),(5,vI i)]:=by
 refine uN.partial_correctness list depth _ ?_;intro self ih i o hM B imm0 imm Q p c hle h hg ho hx hr;refine xC hg ho<|zF<|zF<|zB<|yA [] [(9,.bool (decide (i < (list.length:Int))))]<|zE<|yO hM ?_ ?_
 · intro hc hM;refine yE<|zE<|zF<|yC<|zF ?_;obtain ⟨o0,ho0,hMc⟩:=zC hM;refine yU (fun imm' hs' m'=>∃ (t26:Bool),o0=t26∧imm.le imm'∧hs'=[]∧m'=[(0,vS p list c),(1,vI depth),(5,vI i),(26,.bool t26)]) ?_ ?_
   · have hle:=iS imm;refine zB<|yK 2 [] [(12,vS p list c),(13,vI i)] ?_;obtain ⟨x,hy,hM⟩:=zC ho0;refine wJ rfl rfl h hy ?_;intro ad ccs hat hrep;obtain ⟨v0,rfl,h1⟩:=yM hrep;obtain ⟨p1,c1,rfl⟩:=h1.form;refine xS 0 hat (cAff x p1 c1) (vA (cAff x p1 c1)) rfl ?_;obtain ⟨y,hy1,hM⟩:=zC hM;refine yR (oG x _ hy1 h1) ?_;rintro imm01 hs2 v2 k2 le - ⟨v01,rfl,rfl,rfl⟩ -;have h:=h.mono le;have hle:=hle.trans le;refine yK 7 [] [(18,.bool (!y))] ?_;cases hc1:(!y) with
     | true =>
      have hM0:=zW hc1 hM
      try rw [hc1]
      exact yA [] [(26,.bool true)]<|yT [(0,vS p list c),(1,vI depth),(5,vI i),(26,.bool true)]<|yB ⟨_,(zD hM0).symm,hle,rfl,rfl⟩
     | false =>
      have hM01:=zU hc1 hM
      try rw [hc1]
      refine yK 9 [] [(19,vS p list c),(20,vI i)] ?_;obtain ⟨x1,hy2,hM⟩:=zC hM01;refine wJ rfl rfl h hy2 ?_;intro ad1 ccs1 hat1 hrep1;obtain ⟨v02,rfl,h3⟩:=yM hrep1;obtain ⟨p2,c2,rfl⟩:=h3.form;refine xS 0 hat1 (cAff x1 p2 c2) (vA (cAff x1 p2 c2)) rfl ?_;obtain ⟨y1,hy3,hM⟩:=zC hM;refine yR (kO x1 _ hy3 h3) ?_;rintro imm02 hs2 v2 k2 le1 - ⟨v03,rfl,rfl,rfl⟩ -;have hle:=hle.trans le1;exact yA [] [(26,.bool (decide (y1 > depth)))]<|yT [(0,vS p list c),(1,vI depth),(5,vI i),(26,.bool (decide (y1 > depth)))]<|yB ⟨_,(zD hM).symm,hle,rfl,rfl⟩
   rintro imm0 hs2 m2 ⟨t26,heq,le2,rfl,rfl⟩;subst o0;have h:=h.mono le2;have hle:=hle.trans le2;refine zE<|yO hMc ?_ ?_
   · intro hc2 hM;exact zF<|zB<|yA [] [(4,.bool false)]<|zE<|yJ<|yF<|zR<|zR<|hr _ _ _ _ (zD hM).symm hle ⟨_,_,(.tmp rfl ResV.nil),zX,⟨_,rfl,rfl,rfl⟩⟩
   intro hc2 hM;exact yE<|zY<|zE<|zB<|yA [] [(5,vI (W (i + 1)))]<|xD<|vQ [(0,vS p list c),(1,vI depth),(5,vI (W (i + 1)))]<|ih (W (i + 1)) _ hM hle h hg ho hx hr
 intro hc hM;exact xA<|zS<|zS<|yT [(0,vS p list c)]<|hx _  (zD hM).symm hle
def qP (list:(List zA)) (depth:Int):Option (Bool):=do
 match←uN list depth 0 with
 | .ret r0=>pure r0
 | .done _ =>
  let t4←(do
    if (decide ((list.length:Int) ≥ 1)) then
     pure (decide ((list.length:Int) ≤ 2))
    else
     pure false
      : Option Bool)
  pure (id t4)
theorem dP:∀ (list:(List zA)) (depth:Int) r,qP list depth=some r→∀ {imm:Imm}{p c},(S4 imm p list c)→Ret Tryz.prog 152 [vS p list c,vI depth] imm [] (fA  r):=by
 intro list depth r hM imm p c h;unfold qP at hM;refine yG (fn:=Tryz.f152) (c:=(bodyOf Tryz.f152)) Tryz.func152 rfl rfl ?_;rintro B - -;have hle:=iS imm;refine zF<|zB<|yA [] []<|zE<|zF<|zF<|zB<|yA [] [(5,vI 0)]<|zE<|yC<|vQ [(0,vS p list c),(1,vI depth),(5,vI 0)] ?_;obtain ⟨o01,ho01,hMl⟩:=zC hM;refine zBd list depth 0 o01 ho01 iR h (fun _ _ _ h=>h) (fun _ _ h=>h) ?_ ?_
 · intro imm03  heq1 le3;subst o01;have hle:=hle.trans le3;refine yD<|zE<|zF ?_;obtain ⟨o02,ho02,hMc1⟩:=zC hMl;refine yU (fun imm' hs' m'=>∃ (t4:Bool),o02=t4∧imm03.le imm'∧hs'=[]∧m'=[(4,.bool t4)]) ?_ ?_
   · have hle:=iS imm03;refine zB<|yK 4 [] [(30,.bool (decide ((list.length:Int) ≥ 1)))] ?_;cases hc3:(decide ((list.length:Int) ≥ 1)) with
     | true =>
      have hM02:=zW hc3 ho02
      try rw [hc3]
      exact yA [] [(4,.bool (decide ((list.length:Int) ≤ 2)))]<|yT [(4,.bool (decide ((list.length:Int) ≤ 2)))]<|yB ⟨_,(zD hM02).symm,hle,rfl,rfl⟩
     | false =>
      have hM03:=zU hc3 ho02
      try rw [hc3]
      exact yA [] [(4,.bool false)]<|yT [(4,.bool false)]<|yB ⟨_,(zD hM03).symm,hle,rfl,rfl⟩
   rintro imm04 hs2 m2 ⟨t4,heq2,le4,rfl,rfl⟩;subst o02;refine zE<|yJ ?_;obtain rfl:=zD hMc1;exact yQ ⟨_,_,(.tmp rfl ResV.nil),zX,⟨_,rfl,rfl,rfl⟩⟩
 intro r0 imm9 hs9 m9 heq9 le9 hrs9;subst heq9;refine yF<|zR ?_;obtain rfl:=zD hMl;exact yQ hrs9
def kW (r:Bool):KT:=fun kk imm' hs' v=>
  ∃ v0,hs'=[]∧v=tupV [v0]∧v0=.bool r
def wC (nest:(List zI)) (i:Int):Option (Out Unit (Bool)):=do
 let t12←(do
   if (decide (i < (nest.length:Int))) then
    pure (decide ((nest.length:Int) ≤ 4))
   else
    pure false
     : Option Bool)
 if t12 then
  let t32←(do
    let x←idx nest i
    let y←qP x.Lo i
    if (!y) then
     pure true
    else
     let x1←idx nest i
     let y1←qP x1.Hi i
     pure (!y1)
      : Option Bool)
  if t32 then
   pure (.ret false)
  else
   wC nest (W (i + 1))
 else
  pure (.done ())
 partial_fixpoint
theorem dQ (nest:(List zI)):∀ (i:Int) (o:Out Unit (Bool)),wC nest i=some o→∀ {B}{imm0 imm:Imm}{Q p c},imm0.le imm→(S4 imm p nest c)→(∀ gl a w,¬Q (.goto gl) a w)→(∀ a w,¬Q .outgrown a w)→(∀ (imm':Imm) ,o=(.done ())→imm0.le imm'→T 36 B Q (.exit 0) imm' [] [(0,vS p nest c)])→(∀ r imm' hs' m',o=(.ret r)→imm0.le imm'→RS Tryz.prog Tryz.f133 B (kW  r) imm' hs' m'→T 36 B Q .ret imm' hs' m')→J Tryz.prog 36 B (nav (bodyOf Tryz.f133) [1,0,1,0]) Q imm [] [(0,vS p nest c),(3,vI i)]:=by
 refine wC.partial_correctness nest _ ?_;intro self ih i o hM B imm0 imm Q p c hle h hg ho hx hr;refine xC hg ho<|zF<|zF ?_;obtain ⟨o0,ho0,hMc⟩:=zC hM;refine yU (fun imm' hs' m'=>∃ (t12:Bool),o0=t12∧imm.le imm'∧hs'=[]∧m'=[(0,vS p nest c),(3,vI i),(12,.bool t12)]) ?_ ?_
 · have hle:=iS imm;refine zB<|yK 5 [] [(8,.bool (decide (i < (nest.length:Int))))] ?_;cases hc:(decide (i < (nest.length:Int))) with
   | true =>
    have hM0:=zW hc ho0
    try rw [hc]
    exact yA [] [(12,.bool (decide ((nest.length:Int) ≤ 4)))]<|yT [(0,vS p nest c),(3,vI i),(12,.bool (decide ((nest.length:Int) ≤ 4)))]<|yB ⟨_,(zD hM0).symm,hle,rfl,rfl⟩
   | false =>
    have hM01:=zU hc ho0
    try rw [hc]
    exact yA [] [(12,.bool false)]<|yT [(0,vS p nest c),(3,vI i),(12,.bool false)]<|yB ⟨_,(zD hM01).symm,hle,rfl,rfl⟩
 rintro imm0 hs2 m2 ⟨t12,heq,le,rfl,rfl⟩;subst o0;have h:=h.mono le;have hle:=hle.trans le;refine zE<|yO hMc ?_ ?_
 · intro hc1 hM;refine yE<|zE<|zF<|yC<|zF ?_;obtain ⟨o01,ho01,hMc1⟩:=zC hM;refine yU (fun imm' hs' m'=>∃ (t32:Bool),o01=t32∧imm0.le imm'∧hs'=[]∧m'=[(0,vS p nest c),(3,vI i),(32,.bool t32)]) ?_ ?_
   · have hle:=iS imm0;refine zB<|yK 2 [] [(15,vS p nest c),(16,vI i)] ?_;obtain ⟨x,hy,hM⟩:=zC ho01;refine wJ rfl rfl h hy ?_;intro ad ccs hat hrep;obtain ⟨v0,v01,rfl,h1,h2⟩:=uJ hrep;obtain ⟨p1,c1,rfl⟩:=h1.form;obtain ⟨p2,c2,rfl⟩:=h2.form;refine yK 4 [] [(18,.pointer (some ad))]<|xS 0 hat [vS p1 x.Lo c1] (vS p1 x.Lo c1) rfl<|yK 6 [] [(20,vI i)] ?_;obtain ⟨y,hy1,hM⟩:=zC hM;refine yR (dP x.Lo i _ hy1 h1) ?_;rintro imm02 hs2 v2 k2 le1 - ⟨v02,rfl,rfl,rfl⟩ -;have h:=h.mono le1;have hle:=hle.trans le1;refine yK 9 [] [(23,.bool (!y))] ?_;cases hc2:(!y) with
     | true =>
      have hM02:=zW hc2 hM
      try rw [hc2]
      exact yA [] [(32,.bool true)]<|yT [(0,vS p nest c),(3,vI i),(32,.bool true)]<|yB ⟨_,(zD hM02).symm,hle,rfl,rfl⟩
     | false =>
      have hM03:=zU hc2 hM
      try rw [hc2]
      refine yK 11 [] [(24,vS p nest c),(25,vI i)] ?_;obtain ⟨x1,hy2,hM⟩:=zC hM03;refine wJ rfl rfl h hy2 ?_;intro ad1 ccs1 hat1 hrep1;obtain ⟨v03,v04,rfl,h4,h5⟩:=uJ hrep1;obtain ⟨p3,c3,rfl⟩:=h4.form;obtain ⟨p4,c4,rfl⟩:=h5.form;refine yK 13 [] [(27,.pointer (some (ad1.add 1)))]<|xS 1 hat1 [vS p4 x1.Hi c4] (vS p4 x1.Hi c4) rfl<|yK 15 [] [(29,vI i)] ?_;obtain ⟨y1,hy3,hM⟩:=zC hM;refine yR (dP x1.Hi i _ hy3 h5) ?_;rintro imm03 hs2 v2 k2 le2 - ⟨v05,rfl,rfl,rfl⟩ -;have hle:=hle.trans le2;exact yA [] [(32,.bool (!y1))]<|yT [(0,vS p nest c),(3,vI i),(32,.bool (!y1))]<|yB ⟨_,(zD hM).symm,hle,rfl,rfl⟩
   rintro imm01 hs2 m2 ⟨t32,heq1,le3,rfl,rfl⟩;subst o01;have h:=h.mono le3;have hle:=hle.trans le3;refine zE<|yO hMc1 ?_ ?_
   · intro hc3 hM;exact zF<|zB<|yA [] [(2,.bool false)]<|zE<|yJ<|yF<|zR<|zR<|hr _ _ _ _ (zD hM).symm hle ⟨_,_,(.tmp rfl ResV.nil),zX,⟨_,rfl,rfl,rfl⟩⟩
   intro hc3 hM;exact yE<|zY<|zE<|zB<|yA [] [(3,vI (W (i + 1)))]<|xD<|vQ [(0,vS p nest c),(3,vI (W (i + 1)))]<|ih (W (i + 1)) _ hM hle h hg ho hx hr
 intro hc1 hM;exact xA<|zS<|zS<|yT [(0,vS p nest c)]<|hx _  (zD hM).symm hle
def rE (nest:(List zI)):Option (Bool):=do
 match←wC nest 0 with
 | .ret r0=>pure r0
 | .done _ =>
  pure (decide ((nest.length:Int) ≤ 4))
theorem zBe:∀ (nest:(List zI)) r,rE nest=some r→∀ {imm:Imm}{p c},(S4 imm p nest c)→Ret Tryz.prog 133 [vS p nest c] imm [] (kW  r):=by
 intro nest r hM imm p c h;unfold rE at hM;refine yG (fn:=Tryz.f133) (c:=(bodyOf Tryz.f133)) Tryz.func133 rfl rfl ?_;rintro B - -;refine zF<|zB<|yA [] []<|zE<|zF<|zF<|zB<|yA [] [(3,vI 0)]<|zE<|yC<|vQ [(0,vS p nest c),(3,vI 0)] ?_;obtain ⟨o02,ho02,hMl⟩:=zC hM;refine dQ nest 0 o02 ho02 iR h (fun _ _ _ h=>h) (fun _ _ h=>h) ?_ ?_
 · intro imm04  heq2 le4;subst o02;refine yD<|zE<|zF<|zB<|yA [] [(2,.bool (decide ((nest.length:Int) ≤ 4)))]<|zE<|yJ ?_;obtain rfl:=zD hMl;exact yQ ⟨_,_,(.tmp rfl ResV.nil),zX,⟨_,rfl,rfl,rfl⟩⟩
 intro r0 imm9 hs9 m9 heq9 le9 hrs9;subst heq9;refine yF<|zR ?_;obtain rfl:=zD hMl;exact yQ hrs9
def kA (r:Int):KT:=fun kk imm' hs' v=>
  ∃ v0,hs'=[]∧v=tupV [v0]∧v0=.int .i64 r
mutual
def tA (nest:(List zI)) (p1:(List Int)) (most:Int):Option (Int):=do
 if ((p1.length:Int) == (nest.length:Int)) then
  pure (id 1)
 else
  let x←idx nest (p1.length:Int)
  let (y1,y2)←rY x p1
  let n01←tF (same nest) (same p1) (same most) (same y2) (same 1) (same y1)
  pure (id n01)
 partial_fixpoint
def tF (nest:(List zI)) (p1:(List Int)) (most:Int) (y2:Int) (n0:Int) (v04:Int):Option (Int):=do
 let t35←(do
   if (decide (v04 < y2)) then
    pure (decide (n0 ≤ most))
   else
    pure false
     : Option Bool)
 if t35 then
  let l←app 8 ([]:List Int) p1
  let l1←app 8 l ([v04]:List Int)
  let y3←tA (same nest) (same l1) (W (most - n0))
  tF (same nest) (same p1) (same most) (same y2) (W (n0 + y3)) (W (v04 + 1))
 else
  pure (id n0)
 partial_fixpoint
end
theorem zDA:(∀ (nest:(List zI)) (p1:(List Int)) (most:Int) r,tA nest p1 most=some r→∀ {imm:Imm}{p c p2 c1},(S4 imm p nest c)→(S4 imm p2 p1 c1)→Ret Tryz.prog 134 [vS p nest c,vS p2 p1 c1,vI most] imm [] (kA  r))∧(∀ (nest:(List zI)) (p1:(List Int)) (most:Int) (y2:Int) (n0:Int) (v04:Int) o,tF nest p1 most y2 n0 v04=some o→∀ {B}{imm0 imm:Imm}{Q p c p2 c1},imm0.le imm→(S4 imm p nest c)→(S4 imm p2 p1 c1)→(∀ gl a w,¬Q (.goto gl) a w)→(∀ a w,¬Q .outgrown a w)→(∀ (imm':Imm) (n01:Int),o=n01→imm0.le imm'→T 52 B Q (.exit 0) imm' [] [(7,vI n01)])→J Tryz.prog 52 B (nav (bodyOf Tryz.f134) [1,1,1,1,0,1,0]) Q imm [] [(0,vS p nest c),(1,vS p2 p1 c1),(2,vI most),(7,vI n0),(9,vI y2),(10,vI v04)]):=by
  refine tA.mutual_partial_correctness (fun nest p1 most r=>∀ {imm:Imm}{p c p2 c1},(S4 imm p nest c)→(S4 imm p2 p1 c1)→Ret Tryz.prog 134 [vS p nest c,vS p2 p1 c1,vI most] imm [] (kA  r)) (fun nest p1 most y2 n0 v04 o=>∀ {B}{imm0 imm:Imm}{Q p c p2 c1},imm0.le imm→(S4 imm p nest c)→(S4 imm p2 p1 c1)→(∀ gl a w,¬Q (.goto gl) a w)→(∀ a w,¬Q .outgrown a w)→(∀ (imm':Imm) (n01:Int),o=n01→imm0.le imm'→T 52 B Q (.exit 0) imm' [] [(7,vI n01)])→J Tryz.prog 52 B (nav (bodyOf Tryz.f134) [1,1,1,1,0,1,0]) Q imm [] [(0,vS p nest c),(1,vS p2 p1 c1),(2,vI most),(7,vI n0),(9,vI y2),(10,vI v04)]) ?_ ?_
  · intro F_spec_l2Work_l1 ih_spec_l2Work_l1 nest p1 most r hM imm p c p2 c1 h h1;refine yG (fn:=Tryz.f134) (c:=(bodyOf Tryz.f134)) Tryz.func134 rfl rfl ?_;rintro B - -;refine zF<|zB<|yA [] []<|zE<|zF<|zB<|yA [] [(7,vI 1)]<|zE<|zF<|zF<|zB<|yA [] [(15,.bool ((p1.length:Int) == (nest.length:Int)))]<|zE<|yO hM ?_ ?_
    · intro hc hM;refine zF<|zB<|yA [] [(6,vI 1)]<|zE<|yJ<|zR ?_;obtain rfl:=zD hM;exact yQ ⟨_,_,(.tmp rfl ResV.nil),zX,⟨_,rfl,rfl,rfl⟩⟩
    intro hc hM;refine yE<|zE<|zF<|zB<|yK 3 [] [(18,vS p nest c),(20,vI (p1.length:Int))] ?_;obtain ⟨x,hy,hM⟩:=zC hM;refine wJ rfl rfl h hy ?_;intro ad ccs hat hrep;obtain ⟨v0,v01,rfl,h2,h3⟩:=uJ hrep;obtain ⟨p3,c2,rfl⟩:=h2.form;obtain ⟨p4,c3,rfl⟩:=h3.form;refine xS 0 hat (cLoop x p3 c2 p4 c3) (vA (cLoop x p3 c2 p4 c3)) rfl<|yK 6 [] [(23,vS p2 p1 c1)] ?_;obtain ⟨⟨y1,y2⟩,hy1,hM⟩:=zC hM;refine yR (eQ x p1 _ hy1 h2 h3 h1) ?_;rintro imm0 hs2 v2 k2 le - ⟨v02,v03,rfl,rfl,rfl,rfl⟩ -;have h:=h.mono le;have h1:=h1.mono le;refine yA [] [(8,vI y1),(9,vI y2)]<|zE<|zF<|zF<|zB<|yA [] [(10,vI y1)]<|zE<|yC<|vQ [(0,vS p nest c),(1,vS p2 p1 c1),(2,vI most),(7,vI 1),(9,vI y2),(10,vI y1)] ?_;obtain ⟨o01,ho01,hMl⟩:=zC hM;refine ih_spec_l2Work_l1 nest p1 most y2 1 y1 o01 ho01 iR h h1 (fun _ _ _ h=>h) (fun _ _ h=>h) ?_;intro imm04 n01 heq1 le4;subst o01;refine yD<|zE<|zF<|zB<|yA [] [(6,vI n01)]<|zE<|yJ ?_;obtain rfl:=zD hMl;exact yQ ⟨_,_,(.tmp rfl ResV.nil),zX,⟨_,rfl,rfl,rfl⟩⟩
  intro F_spec_l2Work F_spec_l2Work_l1 ih_spec_l2Work ih_spec_l2Work_l1 nest p1 most y2 n0 v04 o hM B imm0 imm Q p c p2 c1 hle h h1 hg ho hx;refine xC hg ho<|zF<|zF ?_;obtain ⟨o0,ho0,hMc⟩:=zC hM;refine yU (fun imm' hs' m'=>∃ (t35:Bool),o0=t35∧imm.le imm'∧hs'=[]∧m'=[(0,vS p nest c),(1,vS p2 p1 c1),(2,vI most),(7,vI n0),(9,vI y2),(10,vI v04),(35,.bool t35)]) ?_ ?_
  · have hle:=iS imm;refine zB<|yK 4 [] [(31,.bool (decide (v04 < y2)))] ?_;cases hc1:(decide (v04 < y2)) with
    | true =>
     have hM0:=zW hc1 ho0
     try rw [hc1]
     exact yA [] [(35,.bool (decide (n0 ≤ most)))]<|yT [(0,vS p nest c),(1,vS p2 p1 c1),(2,vI most),(7,vI n0),(9,vI y2),(10,vI v04),(35,.bool (decide (n0 ≤ most)))]<|yB ⟨_,(zD hM0).symm,hle,rfl,rfl⟩
    | false =>
     have hM01:=zU hc1 ho0
     try rw [hc1]
     exact yA [] [(35,.bool false)]<|yT [(0,vS p nest c),(1,vS p2 p1 c1),(2,vI most),(7,vI n0),(9,vI y2),(10,vI v04),(35,.bool false)]<|yB ⟨_,(zD hM01).symm,hle,rfl,rfl⟩
  rintro imm01 hs2 m2 ⟨t35,heq,le1,rfl,rfl⟩;subst o0;have h:=h.mono le1;have h1:=h1.mono le1;have hle:=hle.trans le1;refine zE<|yO hMc ?_ ?_
  · intro hc2 hM;refine yE<|zE<|zF<|yC<|zB<|yK 2 [] [(38,vI n0),(39,vS p nest c)]<|xQ [] Int ?_;intro b hb;have h6:RL imm01 [] ([]:List Int):=rfl;refine yK 4 [] [(41,vS p2 p1 c1)] ?_;obtain ⟨ccs1,k0,k01⟩:=h1;have h1:SL imm01 (vS p2 p1 c1) p1:=⟨_,k0,k01⟩;obtain ⟨l,hy2,hM⟩:=zC hM;refine qI 3 1 0 rfl rfl rfl h6 (.inl k0) k01 hy2 ?_;intro p5 c4 cs h7;refine rX (zK [0] (hs':=[hO Int (vS p5 l c4) cs]) rfl (by decide))<|yK 6 [] [(43,vI v04)]<|xQ [vI v04] Int ?_;intro b1 hb1;have h8:RL imm01 [vI v04] ([v04]:List Int):=⟨[vI v04],_,rfl,rfl,rfl,rfl⟩;obtain ⟨l1,hy3,hM⟩:=zC hM;refine qI 3 1 1 rfl rfl rfl h7 (.inr ⟨0,rfl⟩) h8 hy3 ?_;intro p6 c5 cs1 h9;refine rX (zK [1] (hs':=[hO Int (vS p6 l1 c5) cs1]) rfl (by decide))<|yK 11 [] [(48,vI (W (most - n0)))]<|yL 0 rfl ?_;intro imm02 le2 hl0;have h10:=SL.of_frozen hl0 le2 h9;have h:=h.mono le2;have h1:=h1.mono le2;have hle:=hle.trans le2;obtain ⟨y3,hy4,hM⟩:=zC hM;refine yR (ih_spec_l2Work nest l1 (W (most - n0)) _ hy4 h h10) ?_;rintro imm03 hs2 v2 k2 le3 - ⟨v05,rfl,rfl,rfl⟩ -;have h:=h.mono le3;have h1:=h1.mono le3;have hle:=hle.trans le3;exact yA [] [(7,vI (W (n0 + y3)))]<|zY<|zE<|zB<|yA [] [(10,vI (W (v04 + 1)))]<|xD<|vQ [(0,vS p nest c),(1,vS p2 p1 c1),(2,vI most),(7,vI (W (n0 + y3))),(9,vI y2),(10,vI (W (v04 + 1)))]<|ih_spec_l2Work_l1 nest p1 most y2 (W (n0 + y3)) (W (v04 + 1)) _ hM hle h h1 hg ho hx
  intro hc2 hM;exact xA<|zS<|zS<|yT [(7,vI n0)]<|hx _ _ (zD hM).symm hle
theorem zDg:∀ (nest:(List zI)) (p1:(List Int)) (most:Int) r,tA nest p1 most=some r→∀ {imm:Imm}{p c p2 c1},(S4 imm p nest c)→(S4 imm p2 p1 c1)→Ret Tryz.prog 134 [vS p nest c,vS p2 p1 c1,vI most] imm [] (kA  r):=zDA.1
def dR (r:(List (List Int))×Bool):KT:=fun kk imm' hs' v=>
  ∃ v0 v1,hs'=[]∧v=tupV [v0,v1]∧SL imm' v0 r.1∧v1=.bool r.2
def sO (nest:(List zI)):Option ((List (List Int))×Bool):=do
 let t12←(do
   let y←rE nest
   if (!y) then
    pure true
   else
    let y1←tA nest ([]:List Int) 1200
    pure (decide (y1 > 1200))
     : Option Bool)
 if t12 then
  pure (([]:List (List Int)),false)
 else
  let y2←wQ ([]:List (List Int)) nest ([]:List Int)
  if (decide ((y2.length:Int) > 120)) then
   pure (([]:List (List Int)),false)
  else
   pure (y2,true)
theorem zAx:∀ (nest:(List zI)) r,sO nest=some r→∀ {imm:Imm}{p c},(S4 imm p nest c)→Ret Tryz.prog 105 [vS p nest c] imm [] (dR  r):=by
 intro nest r hM imm p c h;unfold sO at hM;refine yG (fn:=Tryz.f105) (c:=(bodyOf Tryz.f105)) Tryz.func105 rfl rfl ?_;rintro B - -;have hle:=iS imm;refine zF<|zB<|yA [] []<|zE<|zF<|zF ?_;obtain ⟨o0,ho0,hMc⟩:=zC hM;refine yU (fun imm' hs' m'=>∃ (t12:Bool),o0=t12∧imm.le imm'∧hs'=[]∧m'=[(0,vS p nest c),(12,.bool t12)]) ?_ ?_
 · have hle:=iS imm;refine zB<|yK 1 [] [(5,vS p nest c)] ?_;obtain ⟨y,hy,hM⟩:=zC ho0;refine yR (zBe nest _ hy h) ?_;rintro imm01 hs2 v2 k2 le - ⟨v0,rfl,rfl,rfl⟩ -;have h:=h.mono le;have hle:=hle.trans le;refine yK 4 [] [(8,.bool (!y))] ?_;cases hc:(!y) with
   | true =>
    have hM0:=zW hc hM
    try rw [hc]
    exact yA [] [(12,.bool true)]<|yT [(0,vS p nest c),(12,.bool true)]<|yB ⟨_,(zD hM0).symm,hle,rfl,rfl⟩
   | false =>
    have hM01:=zU hc hM
    try rw [hc]
    refine yK 5 [] [(9,vS p nest c)] ?_;obtain ⟨y1,hy1,hM⟩:=zC hM01;refine yR (zDg nest ([]:List Int) 1200 _ hy1 h (SL.nil _)) ?_;rintro imm02 hs2 v2 k2 le1 - ⟨v01,rfl,rfl,rfl⟩ -;have hle:=hle.trans le1;exact yA [] [(12,.bool (decide (y1 > 1200)))]<|yT [(0,vS p nest c),(12,.bool (decide (y1 > 1200)))]<|yB ⟨_,(zD hM).symm,hle,rfl,rfl⟩
 rintro imm0 hs2 m2 ⟨t12,heq,le2,rfl,rfl⟩;subst o0;have h:=h.mono le2;refine zE<|yO hMc ?_ ?_
 · intro hc1 hM;refine zF<|zB<|xQ [] (List Int) ?_;intro b hb;have h3:RL imm0 [] ([]:List (List Int)):=rfl;refine yA [] [(2,vS (some ⟨b,0,none⟩) ([]:List (List Int)) 0),(3,.bool false)]<|zE<|yJ<|zR<|xI 0 rfl ?_;intro imm03 le3 hl0;have h4:=SL.of_frozen hl0 le3 h3;obtain rfl:=zD hM;exact yQ ⟨_,_,(.tmp rfl (.tmp rfl ResV.nil)),zX,⟨_,_,rfl,rfl,h4,rfl⟩⟩
 intro hc1 hM;refine yE<|zE<|zF<|zB<|xQ [] (List Int) ?_;intro b1 hb1;have h5:RL imm0 [] ([]:List (List Int)):=rfl;refine yK 2 [] [(15,vS p nest c)] ?_;obtain ⟨y2,hy2,hM⟩:=zC hM;refine sD [hO (List Int) (vS (some ⟨b1,0,none⟩) ([]:List (List Int)) 0) []] [] (gZ ([]:List (List Int)) nest ([]:List Int) _ hy2 h5 h (SL.nil _)) ?_;rintro imm04 hs2 v2 k2 le4 - ⟨p1,c1,cs,rfl,rfl,h6⟩ -;refine yA [] [(4,vS p1 y2 c1)]<|zE<|zF<|zF<|zB<|yA [] [(19,.bool (decide ((y2.length:Int) > 120)))]<|zE<|yO hM ?_ ?_
 · intro hc2 hM;refine zF<|zB<|xQ [] (List Int) ?_;intro b2 hb2;have h7:RL imm04 [] ([]:List (List Int)):=rfl;refine yA [] [(2,vS (some ⟨b2,0,none⟩) ([]:List (List Int)) 0),(3,.bool false)]<|zE<|yJ<|zR<|xI 0 rfl ?_;intro imm05 le5 hl01;have h8:=SL.of_frozen hl01 le5 h7;obtain rfl:=zD hM;exact yQ ⟨_,_,(.tmp rfl (.tmp rfl ResV.nil)),zX,⟨_,_,rfl,rfl,h8,rfl⟩⟩
 intro hc2 hM;refine yE<|zE<|zF<|zB<|yA [] [(2,vS p1 y2 c1),(3,.bool true)]<|zE<|yJ<|xI 0 rfl ?_;intro imm06 le6 hl02;have h9:=SL.of_frozen hl02 le6 h6;obtain rfl:=zD hM;exact yQ ⟨_,_,(.tmp rfl (.tmp rfl ResV.nil)),zX,⟨_,_,rfl,rfl,h9,rfl⟩⟩
def jK (r:Bool):KT:=fun kk imm' hs' v=>
  ∃ v0,hs'=[]∧v=tupV [v0]∧v0=.bool r
def vC (a0:zL) (depth:Int) (i:Int):Option (Out Unit (Bool)):=do
 if (decide (i < (a0.Subs.length:Int))) then
  let t29←(do
    let x←idx a0.Subs i
    let y←wZ x
    if (!y) then
     pure true
    else
     let x1←idx a0.Subs i
     let y1←sN x1
     pure (decide (y1 > depth))
      : Option Bool)
  if t29 then
   pure (.ret false)
  else
   vC a0 depth (W (i + 1))
 else
  pure (.done ())
 partial_fixpoint
theorem zAZ (a0:zL) (depth:Int):∀ (i:Int) (o:Out Unit (Bool)),vC a0 depth i=some o→∀ {B}{imm0 imm:Imm}{Q p c}{b:Nat},imm0.le imm→(S4 imm p a0.Subs c)→(∀ gl a w,¬Q (.goto gl) a w)→(∀ a w,¬Q .outgrown a w)→(∀ (imm':Imm) ,o=(.done ())→imm0.le imm'→T 56 B Q (.exit 0) imm' [hB b (cAccess a0 p c)] [(2,vP b 0)])→(∀ r imm' hs' m',o=(.ret r)→imm0.le imm'→RS Tryz.prog Tryz.f135 B (jK  r) imm' hs' m'→T 56 B Q .ret imm' hs' m')→J Tryz.prog 56 B (nav (bodyOf Tryz.f135) [1,0,1,0]) Q imm [hB b (cAccess a0 p c)] [(1,vI depth),(2,vP b 0),(5,vI i)]:=by
 refine vC.partial_correctness a0 depth _ ?_;intro self ih i o hM B imm0 imm Q p c b hle h hg ho hx hr;refine xC hg ho<|zF<|zF<|zB<|yA [0] [(10,.bool (decide (i < (a0.Subs.length:Int))))]<|zE<|yO hM ?_ ?_
 · intro hc hM;refine yE<|zE<|zF<|yC<|zF ?_;obtain ⟨o0,ho0,hMc⟩:=zC hM;refine yU (fun imm' hs' m'=>∃ (t29:Bool),o0=t29∧imm.le imm'∧hs'=[hB b (cAccess a0 p c)]∧m'=[(1,vI depth),(2,vP b 0),(5,vI i),(29,.bool t29)]) ?_ ?_
   · have hle:=iS imm;refine zB<|yK 3 [0] [(14,vS p a0.Subs c),(15,vI i)] ?_;obtain ⟨x,hy,hM⟩:=zC ho0;refine wJ rfl rfl h hy ?_;intro ad ccs hat hrep;obtain ⟨v0,rfl,h1⟩:=yM hrep;obtain ⟨p1,c1,rfl⟩:=h1.form;refine xS 0 hat (cAff x p1 c1) (vA (cAff x p1 c1)) rfl ?_;obtain ⟨y,hy1,hM⟩:=zC hM;refine yR (oG x _ hy1 h1) ?_;rintro imm01 hs2 v2 k2 le - ⟨v01,rfl,rfl,rfl⟩ -;have h:=h.mono le;have hle:=hle.trans le;refine yK 8 [] [(20,.bool (!y))] ?_;cases hc1:(!y) with
     | true =>
      have hM0:=zW hc1 hM
      try rw [hc1]
      exact yA [] [(29,.bool true)]<|yT [(1,vI depth),(2,vP b 0),(5,vI i),(29,.bool true)]<|yB ⟨_,(zD hM0).symm,hle,rfl,rfl⟩
     | false =>
      have hM01:=zU hc1 hM
      try rw [hc1]
      refine yK 11 [0] [(22,vS p a0.Subs c),(23,vI i)] ?_;obtain ⟨x1,hy2,hM⟩:=zC hM01;refine wJ rfl rfl h hy2 ?_;intro ad1 ccs1 hat1 hrep1;obtain ⟨v02,rfl,h3⟩:=yM hrep1;obtain ⟨p2,c2,rfl⟩:=h3.form;refine xS 0 hat1 (cAff x1 p2 c2) (vA (cAff x1 p2 c2)) rfl ?_;obtain ⟨y1,hy3,hM⟩:=zC hM;refine yR (kO x1 _ hy3 h3) ?_;rintro imm02 hs2 v2 k2 le1 - ⟨v03,rfl,rfl,rfl⟩ -;have hle:=hle.trans le1;exact yA [] [(29,.bool (decide (y1 > depth)))]<|yT [(1,vI depth),(2,vP b 0),(5,vI i),(29,.bool (decide (y1 > depth)))]<|yB ⟨_,(zD hM).symm,hle,rfl,rfl⟩
   rintro imm0 hs2 m2 ⟨t29,heq,le2,rfl,rfl⟩;subst o0;have h:=h.mono le2;have hle:=hle.trans le2;refine zE<|yO hMc ?_ ?_
   · intro hc2 hM;exact zF<|zB<|yA [] [(4,.bool false)]<|zE<|yJ<|yF<|zR<|zR<|hr _ _ _ _ (zD hM).symm hle ⟨_,_,(.tmp rfl ResV.nil),zX,⟨_,rfl,rfl,rfl⟩⟩
   intro hc2 hM;exact yE<|zY<|zE<|zB<|yA [] [(5,vI (W (i + 1)))]<|xD<|vQ [(1,vI depth),(2,vP b 0),(5,vI (W (i + 1)))]<|ih (W (i + 1)) _ hM hle h hg ho hx hr
 intro hc hM;exact xA<|zS<|zS<|yT [(2,vP b 0)]<|hx _  (zD hM).symm hle
def sZ (a0:zL) (depth:Int):Option (Bool):=do
 match←vC a0 depth 0 with
 | .ret r0=>pure r0
 | .done _ =>
  let t4←(do
    if ((a0.Array.l.length:Int) == 1) then
     if (!(Op.bytesLess a0.Array.l ([65]:List UInt8))) then
      if (Op.bytesLess a0.Array.l ([68]:List UInt8) || a0.Array.l == ([68]:List UInt8)) then
       if (decide ((a0.Subs.length:Int) ≥ 1)) then
        pure (decide ((a0.Subs.length:Int) ≤ 2))
       else
        pure false
      else
       pure false
     else
      pure false
    else
     pure false
      : Option Bool)
  pure (id t4)
theorem fB:∀ (a0:zL) (depth:Int) r,sZ a0 depth=some r→∀ {imm:Imm}{p c},(S4 imm p a0.Subs c)→Ret Tryz.prog 135 [vA (cAccess a0 p c),vI depth] imm [] (jK  r):=by
 intro a0 depth r hM imm p c h;unfold sZ at hM;refine yG (fn:=Tryz.f135) (c:=(bodyOf Tryz.f135)) Tryz.func135 rfl rfl ?_;rintro B - -;have hle:=iS imm;refine zF<|zB<|tR (cAccess a0 p c) ?_;intro b hb;refine yA [] []<|zE<|zF<|zF<|zB<|yA [] [(5,vI 0)]<|zE<|yC<|vQ [(1,vI depth),(2,vP b 0),(5,vI 0)] ?_;obtain ⟨o01,ho01,hMl⟩:=zC hM;refine zAZ a0 depth 0 o01 ho01 iR h (fun _ _ _ h=>h) (fun _ _ h=>h) ?_ ?_
 · intro imm03  heq1 le3;subst o01;have hle:=hle.trans le3;refine yD<|zE<|zF ?_;obtain ⟨o02,ho02,hMc1⟩:=zC hMl;refine yU (fun imm' hs' m'=>∃ (t4:Bool),o02=t4∧imm03.le imm'∧hs'=[]∧m'=[(4,.bool t4)]) ?_ ?_
   · have hle:=iS imm03;refine zB<|yK 5 [0] [(34,.bool ((a0.Array.l.length:Int) == 1))] ?_;cases hc3:((a0.Array.l.length:Int) == 1) with
     | true =>
      have hM02:=zW hc3 ho02
      try rw [hc3]
      refine yK 10 [0] [(39,.bool (!(Op.bytesLess a0.Array.l ([65]:List UInt8))))] ?_;cases hc4:(!(Op.bytesLess a0.Array.l ([65]:List UInt8))) with
      | true =>
       have hM03:=zW hc4 hM02
       try rw [hc4]
       refine yK 15 [0] [(44,.bool (Op.bytesLess a0.Array.l ([68]:List UInt8) || a0.Array.l == ([68]:List UInt8)))] ?_;cases hc5:(Op.bytesLess a0.Array.l ([68]:List UInt8) || a0.Array.l == ([68]:List UInt8)) with
       | true =>
        have hM04:=zW hc5 hM03
        try rw [hc5]
        refine yK 21 [0] [(50,.bool (decide ((a0.Subs.length:Int) ≥ 1)))] ?_;cases hc6:(decide ((a0.Subs.length:Int) ≥ 1)) with
        | true =>
         have hM05:=zW hc6 hM04
         try rw [hc6]
         exact yA [0] [(4,.bool (decide ((a0.Subs.length:Int) ≤ 2)))]<|wD (zK [] rfl (by decide))<|yT [(4,.bool (decide ((a0.Subs.length:Int) ≤ 2)))]<|yB ⟨_,(zD hM05).symm,hle,rfl,rfl⟩
        | false =>
         have hM06:=zU hc6 hM04
         try rw [hc6]
         exact yA [] [(4,.bool false)]<|wD (zK [] rfl (by decide))<|yT [(4,.bool false)]<|yB ⟨_,(zD hM06).symm,hle,rfl,rfl⟩
       | false =>
        have hM07:=zU hc5 hM03
        try rw [hc5]
        exact yA [] [(4,.bool false)]<|wD (zK [] rfl (by decide))<|yT [(4,.bool false)]<|yB ⟨_,(zD hM07).symm,hle,rfl,rfl⟩
      | false =>
       have hM08:=zU hc4 hM02
       try rw [hc4]
       exact yA [] [(4,.bool false)]<|wD (zK [] rfl (by decide))<|yT [(4,.bool false)]<|yB ⟨_,(zD hM08).symm,hle,rfl,rfl⟩
     | false =>
      have hM09:=zU hc3 ho02
      try rw [hc3]
      exact yA [] [(4,.bool false)]<|wD (zK [] rfl (by decide))<|yT [(4,.bool false)]<|yB ⟨_,(zD hM09).symm,hle,rfl,rfl⟩
   rintro imm04 hs2 m2 ⟨t4,heq2,le4,rfl,rfl⟩;subst o02;refine zE<|yJ ?_;obtain rfl:=zD hMc1;exact yQ ⟨_,_,(.tmp rfl ResV.nil),zX,⟨_,rfl,rfl,rfl⟩⟩
 intro r0 imm9 hs9 m9 heq9 le9 hrs9;subst heq9;refine yF<|zR ?_;obtain rfl:=zD hMl;exact yQ hrs9
def zCZ (r:Int):KT:=fun kk imm' hs' v=>
  ∃ v0,hs'=[]∧v=tupV [v0]∧v0=.int .i64 r
def pZ (kind:Int):Option (Int):=do
 let t4←(do
   if (kind == 1) then
    pure (kind == 1)
   else
    let t41←(do
      if (kind == 2) then
       pure (kind == 2)
      else
       pure (kind == 3)
        : Option Bool)
    pure (id t41)
     : Option Bool)
 if t4 then
  pure (id 0)
 else
  let t8←(do
    if (kind == 4) then
     pure (kind == 4)
    else
     let t81←(do
       if (kind == 5) then
        pure (kind == 5)
       else
        pure (kind == 6)
         : Option Bool)
     pure (id t81)
      : Option Bool)
  if t8 then
   pure (id 2)
  else
   pure (-1)
theorem dS:∀ (kind:Int) r,pZ kind=some r→∀ {imm:Imm} ,Ret Tryz.prog 155 [vI kind] imm [] (zCZ  r):=by
 intro kind r hM imm;unfold pZ at hM;refine yG (fn:=Tryz.f155) (c:=(bodyOf Tryz.f155)) Tryz.func155 rfl rfl ?_;rintro B - -;have hle:=iS imm;refine zF<|zB<|yA [] []<|zE<|zF<|zF<|zB<|yA [] [(3,vI kind)]<|zE<|yC<|zF<|zF<|zB<|yA [] [(4,.bool (kind == 1))]<|zE ?_;obtain ⟨o0,ho0,hMc⟩:=zC hM;refine yU (fun imm' hs' m'=>∃ (t4:Bool),o0=t4∧imm.le imm'∧hs'=[]∧m'=[(3,vI kind),(4,.bool t4)]) ?_ ?_
 · have hle:=iS imm;refine yO ho0 ?_ ?_
   · intro hc hM;exact yE<|yT [(3,vI kind),(4,.bool (kind == 1))]<|yB ⟨_,(zD hM).symm,hle,rfl,rfl⟩
   intro hc hM;refine zF<|zB<|yA [] [(4,.bool (kind == 2))]<|zE ?_;obtain ⟨o01,ho01,hMc1⟩:=zC hM;refine yU (fun imm' hs' m'=>∃ (t41:Bool),o01=t41∧imm.le imm'∧hs'=[]∧m'=[(3,vI kind),(4,.bool t41)]) ?_ ?_
   · have hle:=iS imm;refine yO ho01 ?_ ?_
     · intro hc1 hM;exact yE<|yT [(3,vI kind),(4,.bool (kind == 2))]<|yB ⟨_,(zD hM).symm,hle,rfl,rfl⟩
     intro hc1 hM;exact zB<|yA [] [(4,.bool (kind == 3))]<|yT [(3,vI kind),(4,.bool (kind == 3))]<|yB ⟨_,(zD hM).symm,hle,rfl,rfl⟩
   rintro imm01 hs2 m2 ⟨t41,heq,le,rfl,rfl⟩;subst o01;have hle:=hle.trans le;exact yT [(3,vI kind),(4,.bool t41)]<|yB ⟨_,(zD hMc1).symm,hle,rfl,rfl⟩
 rintro imm0 hs2 m2 ⟨t4,heq1,le1,rfl,rfl⟩;subst o0;have hle:=hle.trans le1;refine zE<|yO hMc ?_ ?_
 · intro hc2 hM;refine zF<|zB<|yA [] [(2,vI 0)]<|zE<|yJ<|yF<|zR ?_;obtain rfl:=zD hM;exact yQ ⟨_,_,(.tmp rfl ResV.nil),zX,⟨_,rfl,rfl,rfl⟩⟩
 intro hc2 hM;refine zF<|zF<|zB<|yA [] [(8,.bool (kind == 4))]<|zE ?_;obtain ⟨o02,ho02,hMc2⟩:=zC hM;refine yU (fun imm' hs' m'=>∃ (t8:Bool),o02=t8∧imm0.le imm'∧hs'=[]∧m'=[(8,.bool t8)]) ?_ ?_
 · have hle:=iS imm0;refine yO ho02 ?_ ?_
   · intro hc3 hM;exact yE<|yT [(8,.bool (kind == 4))]<|yB ⟨_,(zD hM).symm,hle,rfl,rfl⟩
   intro hc3 hM;refine zF<|zB<|yA [] [(8,.bool (kind == 5))]<|zE ?_;obtain ⟨o03,ho03,hMc3⟩:=zC hM;refine yU (fun imm' hs' m'=>∃ (t81:Bool),o03=t81∧imm0.le imm'∧hs'=[]∧m'=[(8,.bool t81)]) ?_ ?_
   · have hle:=iS imm0;refine yO ho03 ?_ ?_
     · intro hc4 hM;exact yE<|yT [(8,.bool (kind == 5))]<|yB ⟨_,(zD hM).symm,hle,rfl,rfl⟩
     intro hc4 hM;exact zB<|yA [] [(8,.bool (kind == 6))]<|yT [(8,.bool (kind == 6))]<|yB ⟨_,(zD hM).symm,hle,rfl,rfl⟩
   rintro imm03 hs2 m2 ⟨t81,heq2,le2,rfl,rfl⟩;subst o03;have hle:=hle.trans le2;exact yT [(8,.bool t81)]<|yB ⟨_,(zD hMc3).symm,hle,rfl,rfl⟩
 rintro imm02 hs2 m2 ⟨t8,heq3,le3,rfl,rfl⟩;subst o02;refine zE<|yO hMc2 ?_ ?_
 · intro hc5 hM;refine zF<|zB<|yA [] [(2,vI 2)]<|zE<|yJ<|yF<|zR ?_;obtain rfl:=zD hM;exact yQ ⟨_,_,(.tmp rfl ResV.nil),zX,⟨_,rfl,rfl,rfl⟩⟩
 intro hc5 hM;refine yE<|zY<|zE<|zF<|zB<|yA [] [(2,vI (-1))]<|zE<|yJ ?_;obtain rfl:=zD hM;exact yQ ⟨_,_,(.tmp rfl ResV.nil),zX,⟨_,rfl,rfl,rfl⟩⟩
def zBf (r:Bool):KT:=fun kk imm' hs' v=>
  ∃ v0,hs'=[]∧v=tupV [v0]∧v0=.bool r
def sP (a0:zL):Option (Bool):=do
 let t2←(do
   if (a0.Array.l == ([]:List UInt8)) then
    pure ((a0.Subs.length:Int) == 0)
   else
    pure false
     : Option Bool)
 pure (id t2)
theorem kP:∀ (a0:zL) r,sP a0=some r→∀ {imm:Imm}{p c},(S4 imm p a0.Subs c)→Ret Tryz.prog 167 [vA (cAccess a0 p c)] imm [] (zBf  r):=by
 intro a0 r hM imm p c h;unfold sP at hM;refine yG (fn:=Tryz.f167) (c:=(bodyOf Tryz.f167)) Tryz.func167 rfl rfl ?_;rintro B - -;have hle:=iS imm;refine zF<|zB<|tR (cAccess a0 p c) ?_;intro b hb;refine yA [] []<|zE<|zF ?_;obtain ⟨o0,ho0,hMc⟩:=zC hM;refine yU (fun imm' hs' m'=>∃ (t2:Bool),o0=t2∧imm.le imm'∧hs'=[]∧m'=[(2,.bool t2)]) ?_ ?_
 · have hle:=iS imm;refine zB<|yK 4 [0] [(6,.bool (a0.Array.l == ([]:List UInt8)))] ?_;cases hc:(a0.Array.l == ([]:List UInt8)) with
   | true =>
    have hM0:=zW hc ho0
    try rw [hc]
    exact yA [0] [(2,.bool ((a0.Subs.length:Int) == 0))]<|wD (zK [] rfl (by decide))<|yT [(2,.bool ((a0.Subs.length:Int) == 0))]<|yB ⟨_,(zD hM0).symm,hle,rfl,rfl⟩
   | false =>
    have hM01:=zU hc ho0
    try rw [hc]
    exact yA [] [(2,.bool false)]<|wD (zK [] rfl (by decide))<|yT [(2,.bool false)]<|yB ⟨_,(zD hM01).symm,hle,rfl,rfl⟩
 rintro imm0 hs2 m2 ⟨t2,heq,le,rfl,rfl⟩;subst o0;refine zE<|yJ ?_;obtain rfl:=zD hMc;exact yQ ⟨_,_,(.tmp rfl ResV.nil),zX,⟨_,rfl,rfl,rfl⟩⟩
def zC0 (r:Bool):KT:=fun kk imm' hs' v=>
  ∃ v0,hs'=[]∧v=tupV [v0]∧v0=.bool r
def rV (a0:zA):Option (Bool):=do
 let t2←(do
   if ((a0.Coefs.length:Int) == 0) then
    pure (a0.Const == 0)
   else
    pure false
     : Option Bool)
 pure (id t2)
theorem jL:∀ (a0:zA) r,rV a0=some r→∀ {imm:Imm}{p c},(S4 imm p a0.Coefs c)→Ret Tryz.prog 168 [vA (cAff a0 p c)] imm [] (zC0  r):=by
 intro a0 r hM imm p c h;unfold rV at hM;refine yG (fn:=Tryz.f168) (c:=(bodyOf Tryz.f168)) Tryz.func168 rfl rfl ?_;rintro B - -;have hle:=iS imm;refine zF<|zB<|tR (cAff a0 p c) ?_;intro b hb;refine yA [] []<|zE<|zF ?_;obtain ⟨o0,ho0,hMc⟩:=zC hM;refine yU (fun imm' hs' m'=>∃ (t2:Bool),o0=t2∧imm.le imm'∧hs'=[]∧m'=[(2,.bool t2)]) ?_ ?_
 · have hle:=iS imm;refine zB<|yK 5 [0] [(7,.bool ((a0.Coefs.length:Int) == 0))] ?_;cases hc:((a0.Coefs.length:Int) == 0) with
   | true =>
    have hM0:=zW hc ho0
    try rw [hc]
    exact yA [0] [(2,.bool (a0.Const == 0))]<|wD (zK [] rfl (by decide))<|yT [(2,.bool (a0.Const == 0))]<|yB ⟨_,(zD hM0).symm,hle,rfl,rfl⟩
   | false =>
    have hM01:=zU hc ho0
    try rw [hc]
    exact yA [] [(2,.bool false)]<|wD (zK [] rfl (by decide))<|yT [(2,.bool false)]<|yB ⟨_,(zD hM01).symm,hle,rfl,rfl⟩
 rintro imm0 hs2 m2 ⟨t2,heq,le,rfl,rfl⟩;subst o0;refine zE<|yJ ?_;obtain rfl:=zD hMc;exact yQ ⟨_,_,(.tmp rfl ResV.nil),zX,⟨_,rfl,rfl,rfl⟩⟩
def zDB (r:Bool):KT:=fun kk imm' hs' v=>
  ∃ v0,hs'=[]∧v=tupV [v0]∧v0=.bool r
def oV (e0:zH) (depth:Int):Option (Bool):=do
 if (e0.Kind == 2) then
  let t4←(do
    if (e0.Num == 0) then
     let y←sP e0.Read
     if y then
      let y1←wZ e0.Index
      if y1 then
       let y2←sN e0.Index
       pure (decide (y2 ≤ depth))
      else
       pure false
     else
      pure false
    else
     pure false
      : Option Bool)
  pure (id t4)
 else
  if (e0.Kind == 3) then
   let t41←(do
     if (e0.Num == 0) then
      let y3←rV e0.Index
      if y3 then
       let y4←sZ e0.Read depth
       pure (id y4)
      else
       pure false
     else
      pure false
       : Option Bool)
   pure (id t41)
  else
   if (e0.Kind == 1) then
    let t42←(do
      if (decide (e0.Num ≥ 0)) then
       if (decide (e0.Num ≤ 99)) then
        let y5←rV e0.Index
        if y5 then
         let y6←sP e0.Read
         pure (id y6)
        else
         pure false
       else
        pure false
      else
       pure false
        : Option Bool)
    pure (id t42)
   else
    let t43←(do
      if (e0.Num == 0) then
       let y7←rV e0.Index
       if y7 then
        let y8←sP e0.Read
        pure (id y8)
       else
        pure false
      else
       pure false
        : Option Bool)
    pure (id t43)
theorem zER:∀ (e0:zH) (depth:Int) r,oV e0 depth=some r→∀ {imm:Imm}{p c p1 c1 p2 c2},(S4 imm p e0.Index.Coefs c)→(S4 imm p1 e0.Read.Subs c1)→(S4 imm p2 e0.Kids c2)→Ret Tryz.prog 156 [vA (cExpr e0 p c p1 c1 p2 c2),vI depth] imm [] (zDB  r):=by
 intro e0 depth r hM imm p c p1 c1 p2 c2 h h1 h2;unfold oV at hM;refine yG (fn:=Tryz.f156) (c:=(bodyOf Tryz.f156)) Tryz.func156 rfl rfl ?_;rintro B - -;have hle:=iS imm;refine zF<|zB<|tR (cExpr e0 p c p1 c1 p2 c2) ?_;intro b hb;refine yA [] []<|zE<|zF<|zF<|zB<|yA [0] [(7,.bool (e0.Kind == 2))]<|zE<|yO hM ?_ ?_
 · intro hc hM;refine zF ?_;obtain ⟨o0,ho0,hMc⟩:=zC hM;refine yU (fun imm' hs' m'=>∃ (t4:Bool),o0=t4∧imm.le imm'∧hs'=[]∧m'=[(4,.bool t4)]) ?_ ?_
   · have hle:=iS imm;refine zB<|yK 4 [0] [(11,.bool (e0.Num == 0))] ?_;cases hc1:(e0.Num == 0) with
     | true =>
      have hM0:=zW hc1 ho0
      try rw [hc1]
      refine yK 6 [0] [(13,vA (cAccess e0.Read p1 c1))] ?_;obtain ⟨y,hy,hM⟩:=zC hM0;refine yR (kP e0.Read _ hy h1) ?_;rintro imm01 hs2 v2 k2 le - ⟨v0,rfl,rfl,rfl⟩ -;have h:=h.mono le;have hle:=hle.trans le;refine yK 9 [] [(16,.bool y)] ?_;cases hc2:y with
      | true =>
       have hM01:=zW hc2 hM
       try rw [hc2]
       refine yK 11 [0] [(18,vA (cAff e0.Index p c))] ?_;obtain ⟨y1,hy1,hM⟩:=zC hM01;refine yR (oG e0.Index _ hy1 h) ?_;rintro imm02 hs2 v2 k2 le1 - ⟨v01,rfl,rfl,rfl⟩ -;have h:=h.mono le1;have hle:=hle.trans le1;refine yK 14 [] [(21,.bool y1)] ?_;cases hc3:y1 with
       | true =>
        have hM02:=zW hc3 hM
        try rw [hc3]
        refine yK 16 [0] [(23,vA (cAff e0.Index p c))] ?_;obtain ⟨y2,hy2,hM⟩:=zC hM02;refine yR (kO e0.Index _ hy2 h) ?_;rintro imm03 hs2 v2 k2 le2 - ⟨v02,rfl,rfl,rfl⟩ -;have hle:=hle.trans le2;exact yA [] [(4,.bool (decide (y2 ≤ depth)))]<|wD (zK [] rfl (by decide))<|yT [(4,.bool (decide (y2 ≤ depth)))]<|yB ⟨_,(zD hM).symm,hle,rfl,rfl⟩
       | false =>
        have hM03:=zU hc3 hM
        try rw [hc3]
        exact yA [] [(4,.bool false)]<|wD (zK [] rfl (by decide))<|yT [(4,.bool false)]<|yB ⟨_,(zD hM03).symm,hle,rfl,rfl⟩
      | false =>
       have hM04:=zU hc2 hM
       try rw [hc2]
       exact yA [] [(4,.bool false)]<|wD (zK [] rfl (by decide))<|yT [(4,.bool false)]<|yB ⟨_,(zD hM04).symm,hle,rfl,rfl⟩
     | false =>
      have hM05:=zU hc1 ho0
      try rw [hc1]
      exact yA [] [(4,.bool false)]<|wD (zK [] rfl (by decide))<|yT [(4,.bool false)]<|yB ⟨_,(zD hM05).symm,hle,rfl,rfl⟩
   rintro imm0 hs2 m2 ⟨t4,heq,le3,rfl,rfl⟩;subst o0;refine zE<|yJ<|zR ?_;obtain rfl:=zD hMc;exact yQ ⟨_,_,(.tmp rfl ResV.nil),zX,⟨_,rfl,rfl,rfl⟩⟩
 intro hc hM;refine yE<|zE<|zF<|zF<|zB<|yA [0] [(30,.bool (e0.Kind == 3))]<|zE<|yO hM ?_ ?_
 · intro hc4 hM;refine zF ?_;obtain ⟨o01,ho01,hMc1⟩:=zC hM;refine yU (fun imm' hs' m'=>∃ (t41:Bool),o01=t41∧imm.le imm'∧hs'=[]∧m'=[(4,.bool t41)]) ?_ ?_
   · have hle:=iS imm;refine zB<|yK 4 [0] [(34,.bool (e0.Num == 0))] ?_;cases hc5:(e0.Num == 0) with
     | true =>
      have hM06:=zW hc5 ho01
      try rw [hc5]
      refine yK 6 [0] [(36,vA (cAff e0.Index p c))] ?_;obtain ⟨y3,hy3,hM⟩:=zC hM06;refine yR (jL e0.Index _ hy3 h) ?_;rintro imm05 hs2 v2 k2 le4 - ⟨v03,rfl,rfl,rfl⟩ -;have h1:=h1.mono le4;have hle:=hle.trans le4;refine yK 9 [] [(39,.bool y3)] ?_;cases hc6:y3 with
      | true =>
       have hM07:=zW hc6 hM
       try rw [hc6]
       refine yK 12 [0] [(41,vA (cAccess e0.Read p1 c1)),(42,vI depth)] ?_;obtain ⟨y4,hy4,hM⟩:=zC hM07;refine yR (fB e0.Read depth _ hy4 h1) ?_;rintro imm06 hs2 v2 k2 le5 - ⟨v04,rfl,rfl,rfl⟩ -;have hle:=hle.trans le5;exact yA [] [(4,.bool y4)]<|wD (zK [] rfl (by decide))<|yT [(4,.bool y4)]<|yB ⟨_,(zD hM).symm,hle,rfl,rfl⟩
      | false =>
       have hM08:=zU hc6 hM
       try rw [hc6]
       exact yA [] [(4,.bool false)]<|wD (zK [] rfl (by decide))<|yT [(4,.bool false)]<|yB ⟨_,(zD hM08).symm,hle,rfl,rfl⟩
     | false =>
      have hM09:=zU hc5 ho01
      try rw [hc5]
      exact yA [] [(4,.bool false)]<|wD (zK [] rfl (by decide))<|yT [(4,.bool false)]<|yB ⟨_,(zD hM09).symm,hle,rfl,rfl⟩
   rintro imm04 hs2 m2 ⟨t41,heq1,le6,rfl,rfl⟩;subst o01;refine zE<|yJ<|zR ?_;obtain rfl:=zD hMc1;exact yQ ⟨_,_,(.tmp rfl ResV.nil),zX,⟨_,rfl,rfl,rfl⟩⟩
 intro hc4 hM;refine yE<|zE<|zF<|zF<|zB<|yA [0] [(47,.bool (e0.Kind == 1))]<|zE<|yO hM ?_ ?_
 · intro hc7 hM;refine zF ?_;obtain ⟨o02,ho02,hMc2⟩:=zC hM;refine yU (fun imm' hs' m'=>∃ (t42:Bool),o02=t42∧imm.le imm'∧hs'=[]∧m'=[(4,.bool t42)]) ?_ ?_
   · have hle:=iS imm;refine zB<|yK 4 [0] [(51,.bool (decide (e0.Num ≥ 0)))] ?_;cases hc8:(decide (e0.Num ≥ 0)) with
     | true =>
      have hM010:=zW hc8 ho02
      try rw [hc8]
      refine yK 9 [0] [(56,.bool (decide (e0.Num ≤ 99)))] ?_;cases hc9:(decide (e0.Num ≤ 99)) with
      | true =>
       have hM011:=zW hc9 hM010
       try rw [hc9]
       refine yK 11 [0] [(58,vA (cAff e0.Index p c))] ?_;obtain ⟨y5,hy5,hM⟩:=zC hM011;refine yR (jL e0.Index _ hy5 h) ?_;rintro imm08 hs2 v2 k2 le7 - ⟨v05,rfl,rfl,rfl⟩ -;have h1:=h1.mono le7;have hle:=hle.trans le7;refine yK 14 [] [(61,.bool y5)] ?_;cases hc10:y5 with
       | true =>
        have hM012:=zW hc10 hM
        try rw [hc10]
        refine yK 16 [0] [(63,vA (cAccess e0.Read p1 c1))] ?_;obtain ⟨y6,hy6,hM⟩:=zC hM012;refine yR (kP e0.Read _ hy6 h1) ?_;rintro imm09 hs2 v2 k2 le8 - ⟨v06,rfl,rfl,rfl⟩ -;have hle:=hle.trans le8;exact yA [] [(4,.bool y6)]<|wD (zK [] rfl (by decide))<|yT [(4,.bool y6)]<|yB ⟨_,(zD hM).symm,hle,rfl,rfl⟩
       | false =>
        have hM013:=zU hc10 hM
        try rw [hc10]
        exact yA [] [(4,.bool false)]<|wD (zK [] rfl (by decide))<|yT [(4,.bool false)]<|yB ⟨_,(zD hM013).symm,hle,rfl,rfl⟩
      | false =>
       have hM014:=zU hc9 hM010
       try rw [hc9]
       exact yA [] [(4,.bool false)]<|wD (zK [] rfl (by decide))<|yT [(4,.bool false)]<|yB ⟨_,(zD hM014).symm,hle,rfl,rfl⟩
     | false =>
      have hM015:=zU hc8 ho02
      try rw [hc8]
      exact yA [] [(4,.bool false)]<|wD (zK [] rfl (by decide))<|yT [(4,.bool false)]<|yB ⟨_,(zD hM015).symm,hle,rfl,rfl⟩
   rintro imm07 hs2 m2 ⟨t42,heq2,le9,rfl,rfl⟩;subst o02;refine zE<|yJ<|zR ?_;obtain rfl:=zD hMc2;exact yQ ⟨_,_,(.tmp rfl ResV.nil),zX,⟨_,rfl,rfl,rfl⟩⟩
 intro hc7 hM;refine yE<|zE<|zF ?_;obtain ⟨o03,ho03,hMc3⟩:=zC hM;refine yU (fun imm' hs' m'=>∃ (t43:Bool),o03=t43∧imm.le imm'∧hs'=[]∧m'=[(4,.bool t43)]) ?_ ?_
 · have hle:=iS imm;refine zB<|yK 4 [0] [(69,.bool (e0.Num == 0))] ?_;cases hc11:(e0.Num == 0) with
   | true =>
    have hM016:=zW hc11 ho03
    try rw [hc11]
    refine yK 6 [0] [(71,vA (cAff e0.Index p c))] ?_;obtain ⟨y7,hy7,hM⟩:=zC hM016;refine yR (jL e0.Index _ hy7 h) ?_;rintro imm011 hs2 v2 k2 le10 - ⟨v07,rfl,rfl,rfl⟩ -;have h1:=h1.mono le10;have hle:=hle.trans le10;refine yK 9 [] [(74,.bool y7)] ?_;cases hc12:y7 with
    | true =>
     have hM017:=zW hc12 hM
     try rw [hc12]
     refine yK 11 [0] [(76,vA (cAccess e0.Read p1 c1))] ?_;obtain ⟨y8,hy8,hM⟩:=zC hM017;refine yR (kP e0.Read _ hy8 h1) ?_;rintro imm012 hs2 v2 k2 le11 - ⟨v08,rfl,rfl,rfl⟩ -;have hle:=hle.trans le11;exact yA [] [(4,.bool y8)]<|wD (zK [] rfl (by decide))<|yT [(4,.bool y8)]<|yB ⟨_,(zD hM).symm,hle,rfl,rfl⟩
    | false =>
     have hM018:=zU hc12 hM
     try rw [hc12]
     exact yA [] [(4,.bool false)]<|wD (zK [] rfl (by decide))<|yT [(4,.bool false)]<|yB ⟨_,(zD hM018).symm,hle,rfl,rfl⟩
   | false =>
    have hM019:=zU hc11 ho03
    try rw [hc11]
    exact yA [] [(4,.bool false)]<|wD (zK [] rfl (by decide))<|yT [(4,.bool false)]<|yB ⟨_,(zD hM019).symm,hle,rfl,rfl⟩
 rintro imm010 hs2 m2 ⟨t43,heq3,le12,rfl,rfl⟩;subst o03;refine zE<|yJ ?_;obtain rfl:=zD hMc3;exact yQ ⟨_,_,(.tmp rfl ResV.nil),zX,⟨_,rfl,rfl,rfl⟩⟩
end Go.LN
