/- Helper of the proof (see the last text). -/
import Derived.Test.YtknadcjnkbdpdaaGreatHM1
set_option linter.unusedVariables false
set_option linter.unusedSimpArgs false
namespace Go.LN
open Go.Proofs
set_option maxRecDepth 20000
def jS (b0:Nat) (r:zK×zO):KT:=fun kk I' hs' v=>
  ∃ v0 k0,hs'=[.blk b0 ⟨k0⟩]∧v=tupV [v0]∧(∃ cs,v0=.agg ⟨cs⟩∧Rp.rep I' cs r.1)∧Rp.rep I' k0 r.2
def qH (r0:zO) (p1:zK):Option (zK×zO):=do
 let y←rQ p1
 let (y2,y3)←yV r0 60
 let (Arrays,Parts,x)←(do
   if (y2 == 0) then
    let (y5,y6)←rC y3 ([(⟨[65]⟩:Str),(⟨[68]⟩:Str),(⟨[69]⟩:Str)]:List Str)
    let (y8,y9)←yW y6 ([7,0,3,(-1)]:List Int)
    let l←app 40 y.Arrays ([(zE.mk y5 ([y8]:List Int))]:List zE)
    pure (l,y.Parts,y9)
   else
    let (Arrays1,Parts1,x1)←(do
      if (y2 == 1) then
       let (Arrays2,x2)←(do
         if (decide ((y.Arrays.length:Int) > 0)) then
          let (y11,y12)←yW y3 ([1,2,7]:List Int)
          let x3←idx y.Arrays 0
          let l1←pure (y.Arrays.set (0:Int).toNat (zE.mk x3.Name ([y11]:List Int)))
          pure (l1,y12)
         else
          pure (y.Arrays,y3)
           : Option (List zE×zO))
       pure (Arrays2,y.Parts,x2)
      else
       let (Parts2,x4)←(do
         if (y2 == 2) then
          let (Parts3,x5)←(do
            if (decide ((y.Parts.length:Int) > 0)) then
             let x6←idx y.Parts 0
             let (y14,y15)←pT y3 x6.Nest
             let (y17,y18)←pT y15 y14
             let (y20,y21)←pT y18 y17
             let x7←idx y.Parts 0
             let l2←pure (y.Parts.set (0:Int).toNat (zN.mk y20 x7.Body))
             pure (l2,y21)
            else
             pure (y.Parts,y3)
              : Option (List zN×zO))
          pure (Parts3,x5)
         else
          let (Parts4,x8)←(do
            if (y2 == 3) then
             let t76←(do
               if (decide ((y.Parts.length:Int) > 0)) then
                let x9←idx y.Parts (W ((y.Parts.length:Int) - 1))
                pure (decide ((x9.Body.length:Int) > 0))
               else
                pure false
                 : Option Bool)
             let (Parts5,x10)←(do
               if t76 then
                let x11←idx y.Parts (W ((y.Parts.length:Int) - 1))
                let x12←idx x11.Body 0
                let (y22,y23)←tX y3 x12
                let (y24,y25)←tX y23 y22
                let (y26,y27)←tX y25 y24
                let l3←pure ((y.Parts).set (W ((y.Parts.length:Int) - 1)).toNat (zN.mk x11.Nest (x11.Body.set 0 y26)))
                pure (l3,y27)
               else
                pure (y.Parts,y3)
                 : Option (List zN×zO))
             pure (Parts5,x10)
            else
             let Parts6←(do
               if (y2 == 4) then
                let Parts7←(do
                  if (decide ((y.Parts.length:Int) > 0)) then
                   let x13←idx y.Parts (W ((y.Parts.length:Int) - 1))
                   let l4←pure (y.Parts.set (W ((y.Parts.length:Int) - 1)).toNat (zN.mk x13.Nest ([]:List zI)))
                   pure (id l4)
                  else
                   pure y.Parts
                    : Option (List zN))
                pure (id Parts7)
               else
                pure y.Parts
                 : Option (List zN))
             pure (Parts6,y3)
              : Option (List zN×zO))
          pure (Parts4,x8)
           : Option (List zN×zO))
       pure (y.Arrays,Parts2,x4)
        : Option (List zE×List zN×zO))
    pure (Arrays1,Parts1,x1)
     : Option (List zE×List zN×zO))
 pure ((zK.mk Arrays Parts),x)
theorem zCk:∀ (r0:zO) (p1:zK) r,qH r0 p1=some r→∀ {I:Imm}{r01:Nat}{p c p2 c1 p3 c2},(S4 I p r0.b c)→(S4 I p2 p1.Arrays c1)→(S4 I p3 p1.Parts c2)→(∀ (y:zK) (y2:Int) (y3:zO) (x:zN) (s:zI),rQ p1=some y→yV r0 60=some (y2,y3)→(y2 == 3)=true→idx y.Parts (W ((y.Parts.length:Int) - 1))=some x→idx x.Body 0=some s→False)→RT 35 [vP r01 0,vA (cProg p1 p2 c1 p3 c2)] I [hB r01 (cRd r0 p c)] (jS r01 r):=by
 intro r0 p1 r N I r01 p c p2 c1 p3 c2 h h1 h2 hne;unfold qH at N;refine zY (fn:=Tryz.f35) (c:=(bodyOf Tryz.f35)) Tryz.func35 rfl rfl ?_;rintro B - -;have H:=iS I;refine yK<|uD (cProg p1 p2 c1 p3 c2) ?_;intro b hb;refine wR zTwo ?_;intro b1 hb1;refine yH rfl<|xD<|yD 1 [1] [(7,vA (cProg p1 p2 c1 p3 c2))]<|bE N fun y hy N=>xT (zEz p1 _ hy h1 h2) ?_;rintro I0 hs2 v2 k2 le - ⟨p4,c3,cs,p5,c4,cs1,rfl,rfl,h3,h4⟩ -;have h:=h.mono le;have H:=H.trans le;refine wR zTwo ?_;intro b2 hb2;refine xE 0 (cProg y p4 c3 p5 c4) [hB b2 (cProg y p4 c3 p5 c4),hO zE (vS p4 y.Arrays c3) cs,hO zN (vS p5 y.Parts c4) cs1,hB b1 zTwo,hB b (cProg p1 p2 c1 p3 c2),hB r01 (cRd r0 p c)] rfl rfl rfl rfl<|yH rfl<|xD<|yC [0] [(6,vI (y.Parts.length:Int))]<|yI<|yK<|yD 1 [] [(12,vP r01 0)]<|sU (yB [5,0,1,2,3,4] (hs':=[hB r01 (cRd r0 p c),hB b2 (cProg y p4 c3 p5 c4),hO zE (vS p4 y.Arrays c3) cs,hO zN (vS p5 y.Parts c4) cs1,hB b1 zTwo,hB b (cProg p1 p2 c1 p3 c2)])) ?_;obtain ⟨⟨y2,y3⟩,hy1,N⟩:=zB N;refine tM [hB r01 (cRd r0 p c)] [hB b2 (cProg y p4 c3 p5 c4),hO zE (vS p4 y.Arrays c3) cs,hO zN (vS p5 y.Parts c4) cs1,hB b1 zTwo,hB b (cProg p1 p2 c1 p3 c2)] (xH r0 60 _ hy1 h) ?_;rintro I01 hs2 v2 k2 le1 - ⟨v0,kk,rfl,rfl,rfl,h6⟩ -;have h3:=iM le1 h3;have h4:=iM le1 h4;have H:=H.trans le1;obtain ⟨p6,c5,rfl,h7⟩:=yE h6;refine yH rfl<|wO<|yF [(14,.bool (y2 == 0))]<|zM<|pL 5 rfl ?_;intro I02 le2 hl0;have hat:At I02 ⟨b,0,none⟩ (cProg p1 p2 c1 p3 c2):=At.of_blk hl0;have h7:=h7.mono le2;have h3:=iM le2 h3;have h4:=iM le2 h4;have H:=H.trans le2;obtain ⟨o0,ho0,hMc⟩:=zB N;refine yU (fun I' hs' m'=>∃ (Arrays:List zE) (Parts:List zN) (x:zO) (p7:Option Addr) (c6:Nat) (cs2:List Value) (p8:Option Addr) (c7:Nat) (cs3:List Value) (p9:Option Addr) (c8:Nat),o0=(Arrays,Parts,x)∧I02.le I'∧(RL I' cs2 Arrays)∧(RL I' cs3 Parts)∧(S4 I' p9 x.b c8)∧hs'=[hB r01 (cRd x p9 c8),hB b2 [vS p7 Arrays c6,vS p8 Parts c7],hO zE (vS p7 Arrays c6) cs2,hO zN (vS p8 Parts c7) cs3,hB b1 zTwo]∧m'=[(4,vP b1 0),(5,vP b2 0)]) ?_ ?_
 · have H:=iS I02;refine yL ho0 ?_ ?_
   · intro hc N;obtain ⟨⟨y5,y6⟩,hy2,N⟩:=zB N;obtain ⟨⟨y8,y9⟩,hy3,N⟩:=zB N;obtain ⟨l,hy4,N⟩:=zB N;refine wA [.p (vP b2 0) [],.p (vS p4 y.Arrays c3) [0],.p (vP r01 0) [],.x (fun I' v hx=>∃ b3,v=vS (some ⟨b3,0,none⟩) ([(⟨[65]⟩:Str),(⟨[68]⟩:Str),(⟨[69]⟩:Str)]:List Str) 3∧hx=[]∧(SL I' (vS (some ⟨b3,0,none⟩) ([(⟨[65]⟩:Str),(⟨[68]⟩:Str),(⟨[69]⟩:Str)]:List Str) 3) ([(⟨[65]⟩:Str),(⟨[68]⟩:Str),(⟨[69]⟩:Str)]:List Str))),.x (fun I' v hx=>∃ p10 c9,v=vT y5.l∧hx=[hB r01 (cRd y6 p10 c9)]∧(S4 I' p10 y6.b c9)),.p (vP r01 0) [],.x (fun I' v hx=>∃ b4,v=vS (some ⟨b4,0,none⟩) ([7,0,3,(-1)]:List Int) 4∧hx=[]∧(SL I' (vS (some ⟨b4,0,none⟩) ([7,0,3,(-1)]:List Int) 4) ([7,0,3,(-1)]:List Int))),.x (fun I' v hx=>∃ p11 c10,v=vI y8∧hx=[hB r01 (cRd y9 p11 c10)]∧(S4 I' p11 y9.b c10)),.x (fun I' v hx=>∃ b5,v=vS (some ⟨b5,0,none⟩) ([y8]:List Int) 1∧hx=[]∧(SL I' (vS (some ⟨b5,0,none⟩) ([y8]:List Int) 1) ([y8]:List Int))),.x (fun I' v hx=>∃ b51,v=vA [vT y5.l,vS (some ⟨b51,0,none⟩) ([y8]:List Int) 1]∧hx=[]∧(SL I' (vS (some ⟨b51,0,none⟩) ([y8]:List Int) 1) ([y8]:List Int))),.x (fun I' v hx=>∃ b6,v=vS (some ⟨b6,0,none⟩) ([(zE.mk y5 ([y8]:List Int))]:List zE) 1∧hx=[]∧(SL I' (vS (some ⟨b6,0,none⟩) ([(zE.mk y5 ([y8]:List Int))]:List zE) 1) ([(zE.mk y5 ([y8]:List Int))]:List zE))),.x (fun I' v hx=>∃ p12 c11 cs4,v=vS p12 l c11∧hx=[hO zE (vS p12 l c11) cs4]∧(RL I' cs4 l))] [[],[(0,false)],[],[],[(2,false),(3,false),(14,true)],[],[],[(5,false),(6,false),(4,true)],[(7,false)],[(4,false),(8,false)],[(9,false)],[(1,false),(10,false),(15,true)]] [hB b2 (cProg y p4 c3 p5 c4),hO zN (vS p5 y.Parts c4) cs1,hB b1 zTwo] [[hB r01 (cRd y3 p6 c5)],[hO zE (vS p4 y.Arrays c3) cs]] [(7,true),(11,true)] (yB [1,3,4,0,2]) ?_ ?_
     · refine Op<|Op<|Op<|Ox ?_<|Ox ?_<|Op<|Ox ?_<|Ox ?_<|Ox ?_<|Ox ?_<|Ox ?_<|Ox ?_<|On
       · intro I1 hf le1;refine yM [] ?_;have H:=iS I1;refine xY [vT ([65]),vT ([68]),vT ([69])] Str ?_;intro b3 hb3;have h11:RL I1 [vT ([65]),vT ([68]),vT ([69])] ([(⟨[65]⟩:Str),(⟨[68]⟩:Str),(⟨[69]⟩:Str)]:List Str):=⟨[vT ([65])],_,rfl,rfl,rfl,⟨[vT ([68])],_,rfl,rfl,rfl,⟨[vT ([69])],_,rfl,rfl,rfl,rfl⟩⟩⟩;refine yJ 0 rfl ?_;intro I04 le3 hl01;have h12:=SL.of_frozen hl01 le3 h11;have H:=H.trans le3;exact yO [] H ⟨_,rfl,rfl,h12⟩
       · intro I1 hf le1;refine zF ?_;rintro _ _ ⟨rfl,rfl⟩;refine zF ?_;rintro _ _ ⟨b3,rfl,rfl,h12⟩;refine zF ?_;rintro _ _ rfl;refine yM [(18,vP r01 0),(19,vS (some ⟨b3,0,none⟩) ([(⟨[65]⟩:Str),(⟨[68]⟩:Str),(⟨[69]⟩:Str)]:List Str) 3)] ?_;have H:=iS I1;have h7:=h7.mono le1;refine tM [hB r01 (cRd y3 p6 c5)] (hB b2 (cProg y p4 c3 p5 c4)::hO zN (vS p5 y.Parts c4) cs1::hB b1 zTwo::hf) (nV y3 ([(⟨[65]⟩:Str),(⟨[68]⟩:Str),(⟨[69]⟩:Str)]:List Str) _ hy2 h7 h12) ?_;rintro I05 hs2 v2 k2 le4 - ⟨v02,kk1,rfl,rfl,rfl,h14⟩ -;have H:=H.trans le4;obtain ⟨p10,c9,rfl,h15⟩:=yE h14;exact yO [hB r01 (cRd y6 p10 c9)] H ⟨_,_,rfl,rfl,h15⟩
       · intro I1 hf le1;refine yM [] ?_;have H:=iS I1;refine xY [vI 7,vI 0,vI 3,vI (-1)] Int ?_;intro b4 hb4;have h16:RL I1 [vI 7,vI 0,vI 3,vI (-1)] ([7,0,3,(-1)]:List Int):=⟨[vI 7],_,rfl,rfl,rfl,⟨[vI 0],_,rfl,rfl,rfl,⟨[vI 3],_,rfl,rfl,rfl,⟨[vI (-1)],_,rfl,rfl,rfl,rfl⟩⟩⟩⟩;refine yJ 0 rfl ?_;intro I06 le5 hl02;have h17:=SL.of_frozen hl02 le5 h16;have H:=H.trans le5;exact yO [] H ⟨_,rfl,rfl,h17⟩
       · intro I1 hf le1;refine zF ?_;rintro _ _ ⟨rfl,rfl⟩;refine zF ?_;rintro _ _ ⟨b4,rfl,rfl,h17⟩;refine zF ?_;rintro _ _ ⟨p10,c9,rfl,rfl,h15⟩;refine yM [(21,vP r01 0),(22,vS (some ⟨b4,0,none⟩) ([7,0,3,(-1)]:List Int) 4)] ?_;have H:=iS I1;refine tM [hB r01 (cRd y6 p10 c9)] (hB b2 (cProg y p4 c3 p5 c4)::hO zN (vS p5 y.Parts c4) cs1::hB b1 zTwo::hf) (xI y6 ([7,0,3,(-1)]:List Int) _ hy3 h15 h17) ?_;rintro I07 hs2 v2 k2 le6 - ⟨v04,kk2,rfl,rfl,rfl,h19⟩ -;have H:=H.trans le6;obtain ⟨p11,c10,rfl,h20⟩:=yE h19;exact yO [hB r01 (cRd y9 p11 c10)] H ⟨_,_,rfl,rfl,h20⟩
       · intro I1 hf le1;refine zF ?_;rintro _ _ ⟨p11,c10,rfl,rfl,h20⟩;refine yM [(23,vI y8)] ?_;have H:=iS I1;refine xY [vI y8] Int ?_;intro b5 hb5;have h21:RL I1 [vI y8] ([y8]:List Int):=⟨[vI y8],_,rfl,rfl,rfl,rfl⟩;refine yJ 0 rfl ?_;intro I08 le7 hl03;have h22:=SL.of_frozen hl03 le7 h21;have H:=H.trans le7;exact yO [] H ⟨_,rfl,rfl,h22⟩
       · intro I1 hf le1;refine zF ?_;rintro _ _ ⟨p10,c9,rfl,rfl,h15⟩;refine zF ?_;rintro _ _ ⟨b5,rfl,rfl,h22⟩;exact yM [(20,vT y5.l),(24,vS (some ⟨b5,0,none⟩) ([y8]:List Int) 1)]<|uS 10 [(25,vA [vT y5.l,vS (some ⟨b5,0,none⟩) ([y8]:List Int) 1])]<|yO [] iR ⟨_,rfl,rfl,h22⟩
       · intro I1 hf le1;refine zF ?_;rintro _ _ ⟨b51,rfl,rfl,h221⟩;refine yM [(25,vA [vT y5.l,vS (some ⟨b51,0,none⟩) ([y8]:List Int) 1])] ?_;have H:=iS I1;refine xY [vT y5.l,vS (some ⟨b51,0,none⟩) ([y8]:List Int) 1] zE ?_;intro b6 hb6;have h23:RL I1 [vT y5.l,vS (some ⟨b51,0,none⟩) ([y8]:List Int) 1] ([(zE.mk y5 ([y8]:List Int))]:List zE):=⟨[vT y5.l,vS (some ⟨b51,0,none⟩) ([y8]:List Int) 1],_,rfl,rfl,(qG ⟨_,rfl,h221⟩),rfl⟩;refine yJ 0 rfl ?_;intro I09 le8 hl04;have h24:=SL.of_frozen hl04 le8 h23;have H:=H.trans le8;exact yO [] H ⟨_,rfl,rfl,h24⟩
       intro I1 hf le1;refine zF ?_;rintro _ _ ⟨rfl,rfl⟩;refine zF ?_;rintro _ _ ⟨b6,rfl,rfl,h24⟩;refine zF ?_;rintro _ _ rfl;refine yM [(17,vS p4 y.Arrays c3),(26,vS (some ⟨b6,0,none⟩) ([(zE.mk y5 ([y8]:List Int))]:List zE) 1)] ?_;have h3:=iM le1 h3;obtain ⟨ccs,k0,k01⟩:=h24;have h24:SL I1 (vS (some ⟨b6,0,none⟩) ([(zE.mk y5 ([y8]:List Int))]:List zE) 1) ([(zE.mk y5 ([y8]:List Int))]:List zE):=⟨_,k0,k01⟩;exact pG 127 2 0 rfl rfl rfl h3 (.inl k0) k01 hy4 fun p12 c11 cs4 h25=>uC (hs':=(hO zE (vS p12 l c11) cs4::hB b2 (cProg y p4 c3 p5 c4)::hO zN (vS p5 y.Parts c4) cs1::hB b1 zTwo::hf)) rfl<|yO [hO zE (vS p12 l c11) cs4] iR ⟨_,_,_,rfl,rfl,h25⟩
     intro I010 le9;refine zF ?_;rintro _ _ ⟨p11,c10,rfl,rfl,h20⟩;refine zF ?_;rintro _ _ ⟨p12,c11,cs4,rfl,rfl,h25⟩;refine yM [(4,vP b1 0),(5,vP b2 0),(27,vS p12 l c11)] ?_;have h4:=iM le9 h4;have H:=H.trans le9;exact yD 13 [] [(28,vP b2 0)]<|xE 2 [vS p12 l c11,vS p5 y.Parts c4] [hO zE (vS p12 l c11) cs4,hB r01 (cRd y9 p11 c10),hB b2 [vS p12 l c11,vS p5 y.Parts c4],hO zN (vS p5 y.Parts c4) cs1,hB b1 zTwo] rfl rfl rfl rfl<|yH rfl<|xU (yA [1,2,0,3,4] rfl (by decide))<|yT [(4,vP b1 0),(5,vP b2 0)]<|zV ⟨_,_,_,_,_,_,_,_,_,_,_,(zC N).symm,H,h25,h4,h20,rfl,rfl⟩
   intro hc N;refine yF [(29,.bool (y2 == 1))]<|zM ?_;obtain ⟨o01,ho01,hMc1⟩:=zB N;refine yU (fun I' hs' m'=>∃ (Arrays1:List zE) (Parts1:List zN) (x1:zO) (p13:Option Addr) (c12:Nat) (cs5:List Value) (p14:Option Addr) (c13:Nat) (cs6:List Value) (p15:Option Addr) (c14:Nat),o01=(Arrays1,Parts1,x1)∧I02.le I'∧(RL I' cs5 Arrays1)∧(RL I' cs6 Parts1)∧(S4 I' p15 x1.b c14)∧hs'=[hB r01 (cRd x1 p15 c14),hB b2 [vS p13 Arrays1 c12,vS p14 Parts1 c13],hO zE (vS p13 Arrays1 c12) cs5,hO zN (vS p14 Parts1 c13) cs6,hB b1 zTwo]∧m'=[(4,vP b1 0),(5,vP b2 0)]) ?_ ?_
   · have H:=iS I02;refine yL ho01 ?_ ?_
     · intro hc1 N;refine yK<|yC [1] [(34,.bool (decide ((y.Arrays.length:Int) > 0)))]<|zM ?_;obtain ⟨o02,ho02,hMc2⟩:=zB N;refine yU (fun I' hs' m'=>∃ (Arrays2:List zE) (x2:zO) (p16:Option Addr) (c15:Nat) (cs7:List Value) (p17:Option Addr) (c16:Nat),o02=(Arrays2,x2)∧I02.le I'∧(RL I' cs7 Arrays2)∧(S4 I' p17 x2.b c16)∧hs'=[hB r01 (cRd x2 p17 c16),hB b2 [vS p16 Arrays2 c15,vS p5 y.Parts c4],hO zE (vS p16 Arrays2 c15) cs7,hO zN (vS p5 y.Parts c4) cs1,hB b1 zTwo]∧m'=[(4,vP b1 0),(5,vP b2 0)]) ?_ ?_
       · have H:=iS I02;refine yL ho02 ?_ ?_
         · intro hc2 N;obtain ⟨⟨y11,y12⟩,hy5,N⟩:=zB N;refine wA [.p (vP b2 0) [],.p (vS p4 y.Arrays c3) [0],.p (vP r01 0) [],.x (fun I' v hx=>∃ b7,v=vS (some ⟨b7,0,none⟩) ([1,2,7]:List Int) 3∧hx=[]∧(SL I' (vS (some ⟨b7,0,none⟩) ([1,2,7]:List Int) 3) ([1,2,7]:List Int))),.x (fun I' v hx=>∃ p18 c17,v=vI y11∧hx=[hB r01 (cRd y12 p18 c17)]∧(S4 I' p18 y12.b c17)),.x (fun I' v hx=>∃ b8,v=vS (some ⟨b8,0,none⟩) ([y11]:List Int) 1∧hx=[]∧(SL I' (vS (some ⟨b8,0,none⟩) ([y11]:List Int) 1) ([y11]:List Int)))] [[],[(0,false)],[],[],[(2,false),(3,false),(9,true)],[(4,false)]] [hB b2 (cProg y p4 c3 p5 c4),hO zE (vS p4 y.Arrays c3) cs,hO zN (vS p5 y.Parts c4) cs1,hB b1 zTwo] [[hB r01 (cRd y3 p6 c5)]] [(1,false),(4,true),(5,false)] (yB [1,2,3,4,0]) ?_ ?_
           · refine Op<|Op<|Op<|Ox ?_<|Ox ?_<|Ox ?_<|On
             · intro I1 hf le1;refine yM [] ?_;have H:=iS I1;refine xY [vI 1,vI 2,vI 7] Int ?_;intro b7 hb7;have h31:RL I1 [vI 1,vI 2,vI 7] ([1,2,7]:List Int):=⟨[vI 1],_,rfl,rfl,rfl,⟨[vI 2],_,rfl,rfl,rfl,⟨[vI 7],_,rfl,rfl,rfl,rfl⟩⟩⟩;refine yJ 0 rfl ?_;intro I013 le10 hl05;have h32:=SL.of_frozen hl05 le10 h31;have H:=H.trans le10;exact yO [] H ⟨_,rfl,rfl,h32⟩
             · intro I1 hf le1;refine zF ?_;rintro _ _ ⟨rfl,rfl⟩;refine zF ?_;rintro _ _ ⟨b7,rfl,rfl,h32⟩;refine zF ?_;rintro _ _ rfl;refine yM [(37,vP r01 0),(38,vS (some ⟨b7,0,none⟩) ([1,2,7]:List Int) 3)] ?_;have H:=iS I1;have h7:=h7.mono le1;refine tM [hB r01 (cRd y3 p6 c5)] (hB b2 (cProg y p4 c3 p5 c4)::hO zE (vS p4 y.Arrays c3) cs::hO zN (vS p5 y.Parts c4) cs1::hB b1 zTwo::hf) (xI y3 ([1,2,7]:List Int) _ hy5 h7 h32) ?_;rintro I014 hs2 v2 k2 le11 - ⟨v06,kk3,rfl,rfl,rfl,h34⟩ -;have H:=H.trans le11;obtain ⟨p18,c17,rfl,h35⟩:=yE h34;exact yO [hB r01 (cRd y12 p18 c17)] H ⟨_,_,rfl,rfl,h35⟩
             intro I1 hf le1;refine zF ?_;rintro _ _ ⟨p18,c17,rfl,rfl,h35⟩;refine yM [(39,vI y11)] ?_;have H:=iS I1;refine xY [vI y11] Int ?_;intro b8 hb8;have h36:RL I1 [vI y11] ([y11]:List Int):=⟨[vI y11],_,rfl,rfl,rfl,rfl⟩;refine yJ 0 rfl ?_;intro I015 le12 hl06;have h37:=SL.of_frozen hl06 le12 h36;have H:=H.trans le12;exact yO [] H ⟨_,rfl,rfl,h37⟩
           intro I016 le13;refine zF ?_;rintro _ _ ⟨rfl,rfl⟩;refine zF ?_;rintro _ _ ⟨p18,c17,rfl,rfl,h35⟩;refine zF ?_;rintro _ _ ⟨b8,rfl,rfl,h37⟩;refine yM [(4,vP b1 0),(5,vP b2 0),(36,vS p4 y.Arrays c3),(40,vS (some ⟨b8,0,none⟩) ([y11]:List Int) 1)] ?_;have h3:=iM le13 h3;have H:=H.trans le13;obtain ⟨x3,hy6,N⟩:=zB N;refine nT 2 rfl rfl rfl h3 hy6 ?_;intro ad ccs1 hat1 hcc hrep;obtain ⟨p19,c18,rfl,h38⟩:=wH hrep;refine yD 8 [] [(42,.pointer (some (ad.add 1)))] ?_;obtain ⟨l1,hy7,N⟩:=zB N;refine qO (c:=[vT x3.Name.l,vS (some ⟨b8,0,none⟩) ([y11]:List Int) 1]) (x':=(zE.mk x3.Name ([y11]:List Int))) 2 1 rfl rfl rfl hat1 rfl rfl hcc (by kernel_rfl) (by kernel_rfl) (by kernel_rfl) h3 hy6 (by kernel_rfl) (qG ⟨_,rfl,h37⟩) ?_;rw [show y.Arrays.set (0:Int).toNat (zE.mk x3.Name ([y11]:List Int))=l1 from zC hy7];intro cs8 h39 hl07;exact gA (m':=[(4,vP b1 0),(5,vP b2 0),(40,vS (some ⟨b8,0,none⟩) ([y11]:List Int) 1)]) ⟨rfl,rfl,rfl,trivial⟩<|zD3 (hs':=[hB r01 (cRd y12 p18 c17),hB b2 [vS p4 l1 c3,vS p5 y.Parts c4],hO zE (vS p4 l1 c3) cs8,hO zN (vS p5 y.Parts c4) cs1,hB b1 zTwo]) (m':=[(4,vP b1 0),(5,vP b2 0),(40,vS (some ⟨b8,0,none⟩) ([y11]:List Int) 1)]) (by first | rfl | simp only [vS,hl07,List.nil_append,List.cons_append,List.set_cons_zero,List.set_cons_succ,List.eraseIdx_cons_zero,List.eraseIdx_cons_succ]) (by first | rfl | simp only [vS,hl07])<|yH rfl<|yT [(4,vP b1 0),(5,vP b2 0)]<|zV ⟨_,_,_,_,_,_,_,(zC N).symm,H,h39,h35,rfl,rfl⟩
         intro hc2 N;exact zW<|yT [(4,vP b1 0),(5,vP b2 0)]<|zV ⟨_,_,_,_,_,_,_,(zC N).symm,H,h3,h7,rfl,rfl⟩
       rintro I012 hs2 m2 ⟨Arrays2,x2,p16,c15,cs7,p17,c16,heq,le14,h29,h30,rfl,rfl⟩;subst o02;have h4:=iM le14 h4;have H:=H.trans le14;exact yT [(4,vP b1 0),(5,vP b2 0)]<|zV ⟨_,_,_,_,_,_,_,_,_,_,_,(zC hMc2).symm,H,h29,h4,h30,rfl,rfl⟩
     intro hc1 N;refine yF [(43,.bool (y2 == 2))]<|zM ?_;obtain ⟨o03,ho03,hMc3⟩:=zB N;refine yU (fun I' hs' m'=>∃ (Parts2:List zN) (x4:zO) (p20:Option Addr) (c19:Nat) (cs9:List Value) (p21:Option Addr) (c20:Nat),o03=(Parts2,x4)∧I02.le I'∧(RL I' cs9 Parts2)∧(S4 I' p21 x4.b c20)∧hs'=[hB r01 (cRd x4 p21 c20),hB b2 [vS p4 y.Arrays c3,vS p20 Parts2 c19],hO zE (vS p4 y.Arrays c3) cs,hO zN (vS p20 Parts2 c19) cs9,hB b1 zTwo]∧m'=[(4,vP b1 0),(5,vP b2 0)]) ?_ ?_
     · have H:=iS I02;refine yL ho03 ?_ ?_
       · intro hc3 N;refine yF [(46,.bool (decide ((y.Parts.length:Int) > 0)))]<|zM ?_;obtain ⟨o04,ho04,hMc4⟩:=zB N;refine yU (fun I' hs' m'=>∃ (Parts3:List zN) (x5:zO) (p22:Option Addr) (c21:Nat) (cs10:List Value) (p23:Option Addr) (c22:Nat),o04=(Parts3,x5)∧I02.le I'∧(RL I' cs10 Parts3)∧(S4 I' p23 x5.b c22)∧hs'=[hB r01 (cRd x5 p23 c22),hB b2 [vS p4 y.Arrays c3,vS p22 Parts3 c21],hO zE (vS p4 y.Arrays c3) cs,hO zN (vS p22 Parts3 c21) cs10,hB b1 zTwo]∧m'=[(4,vP b1 0),(5,vP b2 0)]) ?_ ?_
         · have H:=iS I02;refine yL ho04 ?_ ?_
           · intro hc4 N;obtain ⟨x6,hy8,N⟩:=zB N;obtain ⟨⟨y14,y15⟩,hy9,N⟩:=zB N;obtain ⟨⟨y17,y18⟩,hy10,N⟩:=zB N;obtain ⟨⟨y20,y21⟩,hy11,N⟩:=zB N;refine wA [.p (vP b2 1) [],.p (vS p5 y.Parts c4) [0],.p (vP r01 0) [],.p (vP r01 0) [],.p (vP r01 0) [],.p (vP b2 1) [],.p (vS p5 y.Parts c4) [0],.x (fun I' v hx=>∃ ad1 p24 c23 p25 c24,v=.pointer (some ad1)∧hx=[]∧(AtO (vS p5 y.Parts c4) (Rp.sz zN) (0:Int).toNat ad1)∧((cs1.drop ((0:Int).toNat * Rp.sz zN)).take (Rp.sz zN)=(cPart x6 p24 c23 p25 c24))∧(S4 I' p24 x6.Nest c23)∧(S4 I' p25 x6.Body c24)),.x (fun I' v hx=>∃ ad11 p241 c231 p251 c241,v=.pointer (some ad11)∧hx=[]∧(AtO (vS p5 y.Parts c4) (Rp.sz zN) (0:Int).toNat ad11)∧((cs1.drop ((0:Int).toNat * Rp.sz zN)).take (Rp.sz zN)=(cPart x6 p241 c231 p251 c241))∧(S4 I' p241 x6.Nest c231)∧(S4 I' p251 x6.Body c241)),.x (fun I' v hx=>∃ p2411 c2311,v=vS p2411 x6.Nest c2311∧hx=[]∧(S4 I' p2411 x6.Nest c2311)),.x (fun I' v hx=>∃ p26 c25 p27 c26,v=vS p26 y14 c25∧hx=[hB r01 (cRd y15 p27 c26)]∧(S4 I' p26 y14 c25)∧(S4 I' p27 y15.b c26)),.x (fun I' v hx=>∃ p28 c27 p29 c28,v=vS p28 y17 c27∧hx=[hB r01 (cRd y18 p29 c28)]∧(S4 I' p28 y17 c27)∧(S4 I' p29 y18.b c28)),.x (fun I' v hx=>∃ p30 c29 p31 c30,v=vS p30 y20 c29∧hx=[hB r01 (cRd y21 p31 c30)]∧(S4 I' p30 y20 c29)∧(S4 I' p31 y21.b c30))] [[],[(0,false)],[],[],[],[],[(5,false)],[(6,false)],[(7,false)],[(8,false)],[(4,false),(9,false),(16,true)],[(3,false),(10,true)],[(2,false),(11,true)]] [hB b2 (cProg y p4 c3 p5 c4),hO zE (vS p4 y.Arrays c3) cs,hO zN (vS p5 y.Parts c4) cs1,hB b1 zTwo] [[hB r01 (cRd y3 p6 c5)]] [(1,false),(12,true)] (yB [1,2,3,4,0]) ?_ ?_
             · refine Op<|Op<|Op<|Op<|Op<|Op<|Op<|Ox ?_<|Ox ?_<|Ox ?_<|Ox ?_<|Ox ?_<|Ox ?_<|On
               · intro I1 hf le1;refine yM [(53,vS p5 y.Parts c4)] ?_;have h4:=iM le1 h4;refine nT 2 rfl rfl rfl h4 hy8 ?_;intro ad1 ccs2 hat2 hcc1 hrep1;obtain ⟨p24,c23,p25,c24,rfl,h44,h45⟩:=wT hrep1;exact yO [] iR ⟨_,_,_,_,_,rfl,rfl,hat2,hcc1,h44,h45⟩
               · intro I1 hf le1;refine zF ?_;rintro _ _ ⟨ad1,p24,c23,p25,c24,rfl,rfl,hat2,hcc1,h44,h45⟩;exact yM [(54,.pointer (some ad1))]<|uS 9 [(55,.pointer (some ad1))]<|yO [] iR ⟨_,_,_,_,_,rfl,rfl,hat2,hcc1,h44,h45⟩
               · intro I1 hf le1;refine zF ?_;rintro _ _ ⟨ad11,p241,c231,p251,c241,rfl,rfl,hat21,hcc11,h441,h451⟩;exact yM [(55,.pointer (some ad11))]<|zCe 2 0 hat21 hcc11 [vS p241 x6.Nest c231] (vS p241 x6.Nest c231) rfl rfl<|yO [] iR ⟨_,_,rfl,rfl,h441⟩
               · intro I1 hf le1;refine zF ?_;rintro _ _ ⟨rfl,rfl⟩;refine zF ?_;rintro _ _ ⟨p2411,c2311,rfl,rfl,h4411⟩;refine zF ?_;rintro _ _ rfl;refine yM [(51,vP r01 0),(56,vS p2411 x6.Nest c2311)] ?_;have H:=iS I1;have h7:=h7.mono le1;refine tM [hB r01 (cRd y3 p6 c5)] (hB b2 (cProg y p4 c3 p5 c4)::hO zE (vS p4 y.Arrays c3) cs::hO zN (vS p5 y.Parts c4) cs1::hB b1 zTwo::hf) (gR y3 x6.Nest _ hy9 h7 h4411) ?_;rintro I019 hs2 v2 k2 le15 - ⟨v011,kk4,rfl,rfl,h46,h47⟩ -;have H:=H.trans le15;obtain ⟨p26,c25,rfl⟩:=h46.form;obtain ⟨p27,c26,rfl,h48⟩:=yE h47;exact yO [hB r01 (cRd y15 p27 c26)] H ⟨_,_,_,_,rfl,rfl,h46,h48⟩
               · intro I1 hf le1;refine zF ?_;rintro _ _ ⟨rfl,rfl⟩;refine zF ?_;rintro _ _ ⟨p26,c25,p27,c26,rfl,rfl,h46,h48⟩;refine yM [(50,vP r01 0),(57,vS p26 y14 c25)] ?_;have H:=iS I1;refine tM [hB r01 (cRd y15 p27 c26)] (hB b2 (cProg y p4 c3 p5 c4)::hO zE (vS p4 y.Arrays c3) cs::hO zN (vS p5 y.Parts c4) cs1::hB b1 zTwo::hf) (gR y15 y14 _ hy10 h48 h46) ?_;rintro I020 hs2 v2 k2 le16 - ⟨v013,kk5,rfl,rfl,h49,h50⟩ -;have H:=H.trans le16;obtain ⟨p28,c27,rfl⟩:=h49.form;obtain ⟨p29,c28,rfl,h51⟩:=yE h50;exact yO [hB r01 (cRd y18 p29 c28)] H ⟨_,_,_,_,rfl,rfl,h49,h51⟩
               intro I1 hf le1;refine zF ?_;rintro _ _ ⟨rfl,rfl⟩;refine zF ?_;rintro _ _ ⟨p28,c27,p29,c28,rfl,rfl,h49,h51⟩;refine yM [(49,vP r01 0),(58,vS p28 y17 c27)] ?_;have H:=iS I1;refine tM [hB r01 (cRd y18 p29 c28)] (hB b2 (cProg y p4 c3 p5 c4)::hO zE (vS p4 y.Arrays c3) cs::hO zN (vS p5 y.Parts c4) cs1::hB b1 zTwo::hf) (gR y18 y17 _ hy11 h51 h49) ?_;rintro I021 hs2 v2 k2 le17 - ⟨v015,kk6,rfl,rfl,h52,h53⟩ -;have H:=H.trans le17;obtain ⟨p30,c29,rfl⟩:=h52.form;obtain ⟨p31,c30,rfl,h54⟩:=yE h53;exact yO [hB r01 (cRd y21 p31 c30)] H ⟨_,_,_,_,rfl,rfl,h52,h54⟩
             intro I022 le18;refine zF ?_;rintro _ _ ⟨rfl,rfl⟩;refine zF ?_;rintro _ _ ⟨p30,c29,p31,c30,rfl,rfl,h52,h54⟩;refine yM [(4,vP b1 0),(5,vP b2 0),(48,vS p5 y.Parts c4),(59,vS p30 y20 c29)] ?_;have h4:=iM le18 h4;have H:=H.trans le18;obtain ⟨x7,hy12,N⟩:=zB N;refine nT 3 rfl rfl rfl h4 hy12 ?_;intro ad2 ccs3 hat3 hcc2 hrep2;obtain ⟨p32,c31,p33,c32,rfl,h55,h56⟩:=wT hrep2;refine yD 15 [] [(61,.pointer (some ad2))] ?_;obtain ⟨l2,hy13,N⟩:=zB N;refine qO (c:=[vS p30 y20 c29,vS p33 x7.Body c32]) (x':=(zN.mk y20 x7.Body)) 3 0 rfl rfl rfl hat3 rfl rfl hcc2 (by kernel_rfl) (by kernel_rfl) (by kernel_rfl) h4 hy12 (by kernel_rfl) (rS ⟨_,_,rfl,h52,h56⟩) ?_;rw [show y.Parts.set (0:Int).toNat (zN.mk y20 x7.Body)=l2 from zC hy13];intro cs11 h57 hl08;exact gA (m':=[(4,vP b1 0),(5,vP b2 0),(59,vS p30 y20 c29)]) ⟨rfl,rfl,rfl,trivial⟩<|zD3 (hs':=[hB r01 (cRd y21 p31 c30),hB b2 [vS p4 y.Arrays c3,vS p5 l2 c4],hO zE (vS p4 y.Arrays c3) cs,hO zN (vS p5 l2 c4) cs11,hB b1 zTwo]) (m':=[(4,vP b1 0),(5,vP b2 0),(59,vS p30 y20 c29)]) (by first | rfl | simp only [vS,hl08,List.nil_append,List.cons_append,List.set_cons_zero,List.set_cons_succ,List.eraseIdx_cons_zero,List.eraseIdx_cons_succ]) (by first | rfl | simp only [vS,hl08])<|yH rfl<|yT [(4,vP b1 0),(5,vP b2 0)]<|zV ⟨_,_,_,_,_,_,_,(zC N).symm,H,h57,h54,rfl,rfl⟩
           intro hc4 N;exact zW<|yT [(4,vP b1 0),(5,vP b2 0)]<|zV ⟨_,_,_,_,_,_,_,(zC N).symm,H,h4,h7,rfl,rfl⟩
         rintro I018 hs2 m2 ⟨Parts3,x5,p22,c21,cs10,p23,c22,heq1,le19,h42,h43,rfl,rfl⟩;subst o04;have H:=H.trans le19;exact yT [(4,vP b1 0),(5,vP b2 0)]<|zV ⟨_,_,_,_,_,_,_,(zC hMc4).symm,H,h42,h43,rfl,rfl⟩
       intro hc3 N;refine yF [(62,.bool (y2 == 3))]<|zM ?_;obtain ⟨o05,ho05,hMc5⟩:=zB N;refine yU (fun I' hs' m'=>∃ (Parts4:List zN) (x8:zO) (p34:Option Addr) (c33:Nat) (cs12:List Value) (p35:Option Addr) (c34:Nat),o05=(Parts4,x8)∧I02.le I'∧(RL I' cs12 Parts4)∧(S4 I' p35 x8.b c34)∧hs'=[hB r01 (cRd x8 p35 c34),hB b2 [vS p4 y.Arrays c3,vS p34 Parts4 c33],hO zE (vS p4 y.Arrays c3) cs,hO zN (vS p34 Parts4 c33) cs12,hB b1 zTwo]∧m'=[(4,vP b1 0),(5,vP b2 0)]) ?_ ?_
       · have H:=iS I02;refine yL ho05 ?_ ?_
         · intro hc5 N;refine yG ?_;obtain ⟨o06,ho06,hMc6⟩:=zB N;refine yU (fun I' hs' m'=>∃ (t76:Bool),o06=t76∧I02.le I'∧hs'=[hB r01 (cRd y3 p6 c5),hB b2 (cProg y p4 c3 p5 c4),hO zE (vS p4 y.Arrays c3) cs,hO zN (vS p5 y.Parts c4) cs1,hB b1 zTwo]∧m'=[(0,vP r01 0),(4,vP b1 0),(5,vP b2 0),(6,vI (y.Parts.length:Int)),(76,.bool t76)]) ?_ ?_
           · have H:=iS I02;refine zQ<|yD 3 [] [(66,.bool (decide ((y.Parts.length:Int) > 0)))] ?_;cases hc6:(decide ((y.Parts.length:Int) > 0)) with
             | true =>
              have hM0:=zP hc6 ho06
              try rw [hc6]
              refine yD 7 [1] [(68,vS p5 y.Parts c4),(70,vI (W ((y.Parts.length:Int) - 1)))] ?_;obtain ⟨x9,hy14,N⟩:=zB hM0;refine nT 3 rfl rfl rfl h4 hy14 ?_;intro ad3 ccs4 hat4 hcc3 hrep3;obtain ⟨p36,c35,p37,c36,rfl,h60,h61⟩:=wT hrep3;exact yD 9 [] [(72,.pointer (some (ad3.add 1)))]<|zCe 3 1 hat4 hcc3 [vS p37 x9.Body c36] (vS p37 x9.Body c36) rfl rfl<|yC [] [(76,.bool (decide ((x9.Body.length:Int) > 0)))]<|yT [(0,vP r01 0),(4,vP b1 0),(5,vP b2 0),(6,vI (y.Parts.length:Int)),(76,.bool (decide ((x9.Body.length:Int) > 0)))]<|zV (ct N H)
             | false =>
              have hM01:=zL hc6 ho06
              try rw [hc6]
              exact yC [] [(76,vF)]<|yT [(0,vP r01 0),(4,vP b1 0),(5,vP b2 0),(6,vI (y.Parts.length:Int)),(76,vF)]<|zV (ct hM01 H)
           rintro I024 hs2 m2 ⟨t76,heq2,le20,rfl,rfl⟩;subst o06;have h7:=h7.mono le20;have h4:=iM le20 h4;have H:=H.trans le20;refine zM ?_;obtain ⟨o07,ho07,hMc7⟩:=zB hMc6;refine yU (fun I' hs' m'=>∃ (Parts5:List zN) (x10:zO) (p38:Option Addr) (c37:Nat) (cs13:List Value) (p39:Option Addr) (c38:Nat),o07=(Parts5,x10)∧I024.le I'∧(RL I' cs13 Parts5)∧(S4 I' p39 x10.b c38)∧hs'=[hB r01 (cRd x10 p39 c38),hB b2 [vS p4 y.Arrays c3,vS p38 Parts5 c37],hO zE (vS p4 y.Arrays c3) cs,hO zN (vS p38 Parts5 c37) cs13,hB b1 zTwo]∧m'=[(4,vP b1 0),(5,vP b2 0)]) ?_ ?_
           · have H:=iS I024;refine yL ho07 ?_ ?_
             · intro hc7 N;obtain ⟨x11,hy15,N⟩:=zB N;obtain ⟨x12,hy16,N⟩:=zB N;obtain ⟨⟨y22,y23⟩,hy17,N⟩:=zB N;obtain ⟨⟨y24,y25⟩,hy18,N⟩:=zB N;obtain ⟨⟨y26,y27⟩,hy19,N⟩:=zB N;obtain ⟨l3,hy20,N⟩:=zB N;have hF:False:=hne _ _ _ _ _ (by assumption) (by assumption) (by assumption) hy15 hy16;obtain ⟨p40,c39,cs14,p41,c40,h64,h65⟩:∃ p40 c39 cs14 p41 c40,(RL I024 cs14 l3)∧(S4 I024 p41 y27.b c40):=hF.elim;exact zIw hF (imm':=I024) (hs':=[hB r01 (cRd y27 p41 c40),hB b2 [vS p4 y.Arrays c3,vS p40 l3 c39],hO zE (vS p4 y.Arrays c3) cs,hO zN (vS p40 l3 c39) cs14,hB b1 zTwo]) (m':=[(0,vP r01 0),(4,vP b1 0),(5,vP b2 0),(6,vI (y.Parts.length:Int)),(76,.bool t76)])<|yT [(4,vP b1 0),(5,vP b2 0)]<|zV ⟨_,_,_,_,_,_,_,(zC N).symm,H,h64,h65,rfl,rfl⟩
             intro hc7 N;exact zW<|yT [(4,vP b1 0),(5,vP b2 0)]<|zV ⟨_,_,_,_,_,_,_,(zC N).symm,H,h4,h7,rfl,rfl⟩
           rintro I025 hs2 m2 ⟨Parts5,x10,p38,c37,cs13,p39,c38,heq3,le21,h62,h63,rfl,rfl⟩;subst o07;have H:=H.trans le21;exact yT [(4,vP b1 0),(5,vP b2 0)]<|zV ⟨_,_,_,_,_,_,_,(zC hMc7).symm,H,h62,h63,rfl,rfl⟩
         intro hc5 N;refine yF [(100,.bool (y2 == 4))]<|zM ?_;obtain ⟨o08,ho08,hMc8⟩:=zB N;refine yU (fun I' hs' m'=>∃ (Parts6:List zN) (p42:Option Addr) (c41:Nat) (cs15:List Value),o08=Parts6∧I02.le I'∧(RL I' cs15 Parts6)∧hs'=[hB r01 (cRd y3 p6 c5),hB b2 [vS p4 y.Arrays c3,vS p42 Parts6 c41],hO zE (vS p4 y.Arrays c3) cs,hO zN (vS p42 Parts6 c41) cs15,hB b1 zTwo]∧m'=[(4,vP b1 0),(5,vP b2 0)]) ?_ ?_
         · have H:=iS I02;refine yL ho08 ?_ ?_
           · intro hc8 N;refine yF [(103,.bool (decide ((y.Parts.length:Int) > 0)))]<|zM ?_;obtain ⟨o09,ho09,hMc9⟩:=zB N;refine yU (fun I' hs' m'=>∃ (Parts7:List zN) (p43:Option Addr) (c42:Nat) (cs16:List Value),o09=Parts7∧I02.le I'∧(RL I' cs16 Parts7)∧hs'=[hB r01 (cRd y3 p6 c5),hB b2 [vS p4 y.Arrays c3,vS p43 Parts7 c42],hO zE (vS p4 y.Arrays c3) cs,hO zN (vS p43 Parts7 c42) cs16,hB b1 zTwo]∧m'=[(4,vP b1 0),(5,vP b2 0)]) ?_ ?_
             · have H:=iS I02;refine yL ho09 ?_ ?_
               · intro hc9 N;refine zQ<|yD 4 [1] [(105,vS p5 y.Parts c4),(107,vI (W ((y.Parts.length:Int) - 1)))]<|bE N fun x13 hy21 N=>nT 3 rfl rfl rfl h4 hy21 ?_;intro ad4 ccs5 hat5 hcc4 hrep4;obtain ⟨p44,c43,p45,c44,rfl,h68,h69⟩:=wT hrep4;refine yD 6 [] [(109,.pointer (some (ad4.add 1)))] ?_;obtain ⟨l4,hy22,N⟩:=zB N;refine qO (c:=[vS p44 x13.Nest c43,z0]) (x':=(zN.mk x13.Nest ([]:List zI))) 3 1 rfl rfl rfl hat5 rfl rfl hcc4 (by kernel_rfl) (by kernel_rfl) (by kernel_rfl) h4 hy21 (by kernel_rfl) (rS ⟨_,_,rfl,h68,(SL.nil _)⟩) ?_;rw [show y.Parts.set (W ((y.Parts.length:Int) - 1)).toNat (zN.mk x13.Nest ([]:List zI))=l4 from zC hy22];intro cs17 h70 hl09;exact gA (m':=[(4,vP b1 0),(5,vP b2 0)]) ⟨rfl,rfl,trivial⟩<|zD3 (hs':=[hB r01 (cRd y3 p6 c5),hB b2 [vS p4 y.Arrays c3,vS p5 l4 c4],hO zE (vS p4 y.Arrays c3) cs,hO zN (vS p5 l4 c4) cs17,hB b1 zTwo]) (m':=[(4,vP b1 0),(5,vP b2 0)]) (by first | rfl | simp only [vS,hl09,List.nil_append,List.cons_append,List.set_cons_zero,List.set_cons_succ,List.eraseIdx_cons_zero,List.eraseIdx_cons_succ]) (by first | rfl | simp only [vS,hl09])<|yH rfl<|yT [(4,vP b1 0),(5,vP b2 0)]<|zV ⟨_,_,_,_,(zC N).symm,H,h70,rfl,rfl⟩
               intro hc9 N;exact zW<|yT [(4,vP b1 0),(5,vP b2 0)]<|zV ⟨_,_,_,_,(zC N).symm,H,h4,rfl,rfl⟩
             rintro I027 hs2 m2 ⟨Parts7,p43,c42,cs16,heq4,le22,h67,rfl,rfl⟩;subst o09;have H:=H.trans le22;exact yT [(4,vP b1 0),(5,vP b2 0)]<|zV ⟨_,_,_,_,(zC hMc9).symm,H,h67,rfl,rfl⟩
           intro hc8 N;exact zW<|yT [(4,vP b1 0),(5,vP b2 0)]<|zV ⟨_,_,_,_,(zC N).symm,H,h4,rfl,rfl⟩
         rintro I026 hs2 m2 ⟨Parts6,p42,c41,cs15,heq5,le23,h66,rfl,rfl⟩;subst o08;have h7:=h7.mono le23;have H:=H.trans le23;exact yT [(4,vP b1 0),(5,vP b2 0)]<|zV ⟨_,_,_,_,_,_,_,(zC hMc8).symm,H,h66,h7,rfl,rfl⟩
       rintro I023 hs2 m2 ⟨Parts4,x8,p34,c33,cs12,p35,c34,heq6,le24,h58,h59,rfl,rfl⟩;subst o05;have H:=H.trans le24;exact yT [(4,vP b1 0),(5,vP b2 0)]<|zV ⟨_,_,_,_,_,_,_,(zC hMc5).symm,H,h58,h59,rfl,rfl⟩
     rintro I017 hs2 m2 ⟨Parts2,x4,p20,c19,cs9,p21,c20,heq7,le25,h40,h41,rfl,rfl⟩;subst o03;have h3:=iM le25 h3;have H:=H.trans le25;exact yT [(4,vP b1 0),(5,vP b2 0)]<|zV ⟨_,_,_,_,_,_,_,_,_,_,_,(zC hMc3).symm,H,h3,h40,h41,rfl,rfl⟩
   rintro I011 hs2 m2 ⟨Arrays1,Parts1,x1,p13,c12,cs5,p14,c13,cs6,p15,c14,heq8,le26,h26,h27,h28,rfl,rfl⟩;subst o01;have H:=H.trans le26;exact yT [(4,vP b1 0),(5,vP b2 0)]<|zV ⟨_,_,_,_,_,_,_,_,_,_,_,(zC hMc1).symm,H,h26,h27,h28,rfl,rfl⟩
 rintro I03 hs2 m2 ⟨Arrays,Parts,x,p7,c6,cs2,p8,c7,cs3,p9,c8,heq9,le27,h8,h9,h10,rfl,rfl⟩;subst o0;refine zT<|xD<|yD 1 [1] [(110,vA [vS p7 Arrays c6,vS p8 Parts c7])]<|xE 4 [vS p7 Arrays c6,vS p8 Parts c7] [hB r01 (cRd x p9 c8),hB b2 [vS p7 Arrays c6,vS p8 Parts c7],hO zE (vS p7 Arrays c6) cs2,hO zN (vS p8 Parts c7) cs3,hB b1 [vS p7 Arrays c6,vS p8 Parts c7]] rfl rfl rfl rfl<|yH rfl<|xG<|xP 2 rfl ?_;intro I028 le28 hl010;have h71:=SL.of_frozen hl010 le28 h8;have h10:=h10.mono le28;have h9:=iM le28 h9;refine xP 2 rfl ?_;intro I029 le29 hl011;have h72:=SL.of_frozen hl011 le29 h9;have h10:=h10.mono le29;have h71:=h71.mono le29;obtain rfl:=zC hMc;exact xC ⟨_,_,(.cell 2 rfl rfl (by kernel_rfl) ResV.nil),(yA [0] rfl (by decide)),⟨_,_,rfl,rfl,⟨_,rfl,(wZ ⟨_,_,rfl,h71,h72⟩)⟩,(yR ⟨_,rfl,h10⟩)⟩⟩
theorem zCG (p:zK):∀ (i1:Int) (Parts:List zN) (o:List zN),uI p i1 Parts=some o→∀ {B}{I0 I:Imm}{Q}{Arrays1:List zE}{p1 c p2 c1}{b:Nat}{b1:Nat}{b2:Nat}{p4 c3 cs1 p9 c8 cs4}{raws:List Raw2}{pN pB:Option Addr}{cN cB:Nat}{nl:List zD}{bl:List zI}{csB:List Value},I0.le I→(RL I cs1 Arrays1)→(S4 I p1 p.Arrays c)→(S4 I p2 p.Parts c1)→(RL I cs4 raws)→LP I raws Parts (vS pN nl cN) nl (vS pB bl cB) bl→SL I (vS pN nl cN) nl→RL I csB bl→(∀ l a w,¬Q (.goto l) a w)→(∀ a w,¬Q .outgrown a w)→(∀ (I':Imm) (p10:Option Addr) (c9:Nat) (cs5:List Value) (raws1:List Raw2) (pN pB:Option Addr) (cN cB:Nat) (nl:List zD) (bl:List zI) (csB:List Value),I0.le I'→(RL I' cs5 raws1)→LP I' raws1 o (vS pN nl cN) nl (vS pB bl cB) bl→SL I' (vS pN nl cN) nl→RL I' csB bl→T 84 B Q (.exit 2) I' [hO zI (vS pB bl cB) csB,hO Raw2 (vS p10 raws1 c9) cs5,hO zE (vS p4 Arrays1 c3) cs1,hB b2 [vS p4 Arrays1 c3,vS p10 raws1 c9],hB b1 zTwo] [(2,vP b1 0),(3,vP b2 0)])→J Tryz.prog 84 B (nav (bodyOf Tryz.f80) [1,1,1,0,1,0]) Q I [hO zI (vS pB bl cB) csB,hO Raw2 (vS p9 raws c8) cs4,hO zE (vS p4 Arrays1 c3) cs1,hB b2 [vS p4 Arrays1 c3,vS p9 raws c8],hB b1 zTwo,hB b (cProg p p1 c p2 c1)] [(1,vP b 0),(2,vP b1 0),(3,vP b2 0),(5,vI i1)]:=by
 refine uI.partial_correctness p _ fun self ih i1 Parts o N B I0 I Q Arrays1 p1 c p2 c1 b b1 b2 p4 c3 cs1 p9 c8 cs4 raws pN pB cN cB nl bl csB H h4 h h1 hRw hLP hN hBd hg ho hx=>yZ hg ho<|yG<|yK<|yC [5] [(40,.bool (decide (i1 < (p.Parts.length:Int))))]<|zM<|yL N ?_ ?_
 · intro hc1 N;refine pL 0 rfl ?_;intro immf lef hlf;have kB:=SL.of_frozen hlf lef hBd;have h4:=iM lef h4;have h:=h.mono lef;have h1:=h1.mono lef;have hN:=hN.mono lef;have hRw:=iM lef hRw;have hLP:=hLP.mono lef;have H:=H.trans lef;have h14:=hLP.done hN kB;rw [← mW hRw] at h14;have eP:vS p9 raws c8=vS p9 Parts c8:=by simp only [vS,hLP.2.1]
   rw [eP];clear hBd hlf;refine zW<|yI<|yP<|yK<|yD 3 [4] [(44,vS p2 p.Parts c1),(45,vI i1)]<|bE N fun x2 hy4 N=>xS rfl rfl h1 hy4 ?_;intro ad3 ccs4 hat3 hrep2;obtain ⟨p11,c10,p12,c11,rfl,h16,h17⟩:=wT hrep2;refine yD 5 [] [(47,.pointer (some ad3))]<|xM 0 hat3 [vS p11 x2.Nest c10] (vS p11 x2.Nest c10) rfl<|bE N fun y hy5 N=>xT (zBD x2.Nest _ hy5 h16) ?_;rintro I04 hs2 v2 k2 le4 - ⟨v04,rfl,rfl,h18⟩ -;have h14:=iM le4 h14;have hRw:=iM le4 hRw;have hLP:=hLP.mono le4;have hN:=hN.mono le4;replace kB:=kB.mono le4;have h4:=iM le4 h4;have h:=h.mono le4;have h1:=h1.mono le4;have H:=H.trans le4;obtain ⟨p13,c12,rfl⟩:=h18.form;refine yD 8 [] [(50,vA [vS p13 y c12,z0])]<|wR zTwo ?_;intro b5 hb5;refine xE 0 [vS p13 y c12,z0] [hB b5 [vS p13 y c12,z0],hO zN (vS p9 Parts c8) cs4,hO zE (vS p4 Arrays1 c3) cs1,hB b2 [vS p4 Arrays1 c3,vS p9 Parts c8],hB b1 zTwo,hB b (cProg p p1 c p2 c1)] rfl rfl rfl rfl<|yH rfl<|yI<|yF [(7,vI 0)]<|wO<|vE [(1,vP b 0),(2,vP b1 0),(3,vP b2 0),(5,vI i1),(6,vP b5 0),(7,vI 0)]<|pK (vM (Rp.sz zI)) ?_;have h19:RL I04 [] ([]:List zI):=RepL.nil;obtain ⟨o01,ho01,hMl1⟩:=zB N;refine dC p i1 0 ([]:List zI) o01 ho01 iR h18 h14 h4 h h1 h19 (fun _ _ _ h=>hg _ _ _ h) (fun _ _ h=>ho _ _ h) ?_;intro I010 Body1 p15 c14 cs7 heq1 le10 h21;subst o01;have h18:=h18.mono le10;have hRw:=iM le10 hRw;have hLP:=hLP.mono le10;have hN:=hN.mono le10;replace kB:=kB.mono le10;have h4:=iM le10 h4;have h:=h.mono le10;have h1:=h1.mono le10;have H:=H.trans le10;obtain ⟨l3,hy11,N⟩:=zB hMl1;have hy12:=zG3 (l':=raws) (m':=[(⟨vS p13 y c12,vS p15 Body1 c14⟩:Raw2)]) hy11 hLP.2.1 rfl;have h40:RL I010 [vS p13 y c12,vS p15 Body1 c14] [(⟨vS p13 y c12,vS p15 Body1 c14⟩:Raw2)]:=⟨[vS p13 y c12,vS p15 Body1 c14],[],rfl,rfl,⟨rfl,rfl,rfl⟩,rfl⟩;refine zX<|zM<|zQ<|yD 3 [4,1] [(78,vS p9 Parts c8),(79,vA [vS p13 y c12,vS p15 Body1 c14])]<|xY [vS p13 y c12,vS p15 Body1 c14] Raw2 ?_;intro b7 hb7;refine pG (α:=Raw2) 53 2 3 rfl rfl rfl hRw (.inr ⟨0,rfl⟩) h40 hy12 ?_;intro p29 c28 cs11 h41;exact sU (yB [1,3,4,5,6,7] (hs':=[hO zI (vS p15 Body1 c14) cs7,hO Raw2 (vS p29 (raws ++ [(⟨vS p13 y c12,vS p15 Body1 c14⟩:Raw2)]) c28) cs11,hO zE (vS p4 Arrays1 c3) cs1,hB b2 [vS p4 Arrays1 c3,vS p9 Parts c8],hB b1 zTwo,hB b (cProg p p1 c p2 c1)]))<|yD 6 [] [(82,vP b2 1)]<|xE 3 [vS p4 Arrays1 c3,vS p29 (raws ++ [(⟨vS p13 y c12,vS p15 Body1 c14⟩:Raw2)]) c28] [hO zI (vS p15 Body1 c14) cs7,hO Raw2 (vS p29 (raws ++ [(⟨vS p13 y c12,vS p15 Body1 c14⟩:Raw2)]) c28) cs11,hO zE (vS p4 Arrays1 c3) cs1,hB b2 [vS p4 Arrays1 c3,vS p29 (raws ++ [(⟨vS p13 y c12,vS p15 Body1 c14⟩:Raw2)]) c28],hB b1 zTwo,hB b (cProg p p1 c p2 c1)] rfl rfl rfl rfl<|yH rfl<|zT<|zM<|zQ<|yC [] [(5,vI (W (i1 + 1)))]<|yY<|vE [(1,vP b 0),(2,vP b1 0),(3,vP b2 0),(5,vI (W (i1 + 1)))]<|ih (W (i1 + 1)) l3 _ N H h4 h h1 h41 (hLP.push hN kB hy11) h18 h21 hg ho hx
 intro hc1 N;have:=zC N;simp only [id] at this;subst this;exact vW<|xU (yA [0,1,2,3,4] rfl (by decide))<|yT [(2,vP b1 0),(3,vP b2 0)]<|hx _ _ _ _ _ _ _ _ _ _ _ _ H hRw hLP hN hBd
def zCl (r:zK):KT:=fun kk I' hs' v=>
  ∃ (a0:Option Addr) (c0:Nat) (s0:List Value) (a1:Option Addr) (c1:Nat) (s1:List Value) (raws:List Raw2) (pN pB:Option Addr) (cN cB:Nat) (nl:List zD) (bl:List zI) (csB:List Value),hs'=[hO zI (vS pB bl cB) csB,hO Raw2 (vS a1 raws c1) s1,hO zE (vS a0 r.Arrays c0) s0]∧v=tupV [vA [vS a0 r.Arrays c0,vS a1 raws c1]]∧RL I' s0 r.Arrays∧RL I' s1 raws∧LP I' raws r.Parts (vS pN nl cN) nl (vS pB bl cB) bl∧SL I' (vS pN nl cN) nl∧RL I' csB bl
theorem zEM:∀ (p:zK) r,rQ p=some r→∀ {I:Imm}{p1 c p2 c1},(S4 I p1 p.Arrays c)→(S4 I p2 p.Parts c1)→RT 80 [vA (cProg p p1 c p2 c1)] I [] (zCl r):=by
 intro p r N I p1 c p2 c1 h h1;unfold rQ at N;refine zY (fn:=Tryz.f80) (c:=(bodyOf Tryz.f80)) Tryz.func80 rfl rfl ?_;rintro B - -;refine yK<|uD (cProg p p1 c p2 c1) ?_;intro b hb;refine wR zTwo ?_;intro b1 hb1;refine yH rfl<|xD<|yD 1 [] [(8,vA zTwo)]<|wR zTwo ?_;intro b2 hb2;refine xE 0 zTwo [hB b2 zTwo,hB b1 zTwo,hB b (cProg p p1 c p2 c1)] rfl rfl rfl rfl<|yH rfl<|yI<|yF [(4,vI 0)]<|wO<|vE [(1,vP b 0),(2,vP b1 0),(3,vP b2 0),(4,vI 0)]<|pK (vM (Rp.sz zE)) ?_;have h2:RL I [] ([]:List zE):=RepL.nil;obtain ⟨o0,ho0,hMl⟩:=zB N;refine dB p 0 ([]:List zE) o0 ho0 iR h h1 h2 (fun _ _ _ h=>h) (fun _ _ h=>h) ?_;intro I03 Arrays1 p4 c3 cs1 heq le3 h4;subst o0;have h:=h.mono le3;have h1:=h1.mono le3;refine zX<|yI<|yF [(5,vI 0)]<|wO<|vE [(1,vP b 0),(2,vP b1 0),(3,vP b2 0),(5,vI 0)]<|pK (vM (Rp.sz Raw2))<|pK (vM (Rp.sz zI)) ?_;obtain ⟨o02,ho02,hMl2⟩:=zB hMl;refine zCG p 0 ([]:List zN) o02 ho02 (raws:=[]) (pN:=none) (pB:=none) (cN:=0) (cB:=0) (nl:=[]) (bl:=[]) iR h4 h h1 RepL.nil LP.nil (SL.nil _) RepL.nil (fun _ _ _ h=>h) (fun _ _ h=>h) ?_;intro I012 p10 c9 cs5 raws1 pN pB cN cB nl bl csB le12 hRw hLP hN hBd;have h4:=iM le12 h4;obtain rfl:=zC hMl2;exact zX<|xD<|yD 1 [3] [(83,vA [vS p4 Arrays1 c3,vS p10 raws1 c9])]<|xE 4 [vS p4 Arrays1 c3,vS p10 raws1 c9] [hO zI (vS pB bl cB) csB,hO Raw2 (vS p10 raws1 c9) cs5,hO zE (vS p4 Arrays1 c3) cs1,hB b2 [vS p4 Arrays1 c3,vS p10 raws1 c9],hB b1 [vS p4 Arrays1 c3,vS p10 raws1 c9]] rfl rfl rfl rfl<|yH rfl<|xG<|xC ⟨_,_,(.cell 4 rfl rfl (by kernel_rfl) ResV.nil),(yA [0,1,2] rfl (by decide)),⟨_,_,_,_,_,_,_,_,_,_,_,_,_,_,rfl,rfl,h4,hRw,hLP,hN,hBd⟩⟩
theorem zJB {raws:List Raw2}{k:Nat}{r:Raw2} (h:raws[k]?=some r):raws.set k r=raws:=by
  obtain ⟨hk,e⟩:=List.getElem?_eq_some_iff.1 h;subst e;exact List.set_getElem_self hk
theorem zCm (r0:zO) (p1:zK) (r:zK×zO) (N:qH r0 p1=some r) {y:zK}{y3:zO}{x:zN}{s:zI} (hy:rQ p1=some y) (hy1:yV r0 60=some (3,y3)) (hx:idx y.Parts (W ((y.Parts.length:Int) - 1))=some x) (hs:idx x.Body 0=some s) :
    ∀ {I:Imm}{r01:Nat}{p c p2 c1 p3 c2},(S4 I p r0.b c)→(S4 I p2 p1.Arrays c1)→(S4 I p3 p1.Parts c2)→RT 35 [vP r01 0,vA (cProg p1 p2 c1 p3 c2)] I [hB r01 (cRd r0 p c)] (jS r01 r):=by
 intro I r01 p c p2 c1' p3 c2 h h1 h2
 obtain ⟨i0,i1,i2⟩:=rR hx
 obtain ⟨j0,j1,j2⟩:=rR hs
 have hn:(y.Parts.length:Int) > 0:=by
   have:=(List.getElem?_eq_some_iff.1 i2).1; omega
 have hb:(x.Body.length:Int) > 0:=by
   have:=(List.getElem?_eq_some_iff.1 j2).1; omega
 have e0:((3:Int) == 0)=false:=rfl
 have e1:((3:Int) == 1)=false:=rfl
 have e2:((3:Int) == 2)=false:=rfl
 have e3:((3:Int) == 3)=true:=rfl
 unfold qH at N
 simp only [hy,hy1,e0,e1,e2,e3,hn,hb,hx,hs,decide_true,if_true,Bool.false_eq_true,if_false,Option.pure_def,Option.bind_eq_bind,Option.bind_some] at N
 cases hm1:tX y3 s with
 | none=>rw [hm1] at N; cases N
 | some q1 =>
 obtain ⟨y22,y23⟩:=q1
 simp only [hm1,Option.bind_some] at N
 cases hm2:tX y23 y22 with
 | none=>rw [hm2] at N; cases N
 | some q2 =>
 obtain ⟨y24,y25⟩:=q2
 simp only [hm2,Option.bind_some] at N
 cases hm3:tX y25 y24 with
 | none=>rw [hm3] at N; cases N
 | some q3 =>
 obtain ⟨y26,y27⟩:=q3
 simp only [hm3,Option.bind_some,Option.some.injEq] at N
 subst N
 refine zJv Tryz.func35 fun B=>yK<|uD [vS p2 p1.Arrays c1',vS p3 p1.Parts c2] ?_
 intro b hb
 refine wR zTwo ?_
 intro b1 hb1
 refine yH rfl<|xD<|yD 1 [1] [(7,vA [vS p2 p1.Arrays c1',vS p3 p1.Parts c2])]<|xT (zEM p1 _ hy h1 h2) ?_
 rintro I0 hs2 v2 k2 le - ⟨a0,c0,s0,a1,c1,s1,raws,pN,pB,cN,cB,nl,bl,csB,rfl,rfl,h3,hRw,hLP,hN,hBd⟩ -
 have h:=h.mono le
 clear h1 h2
 rw [hLP.len] at hx hn i0 i1 i2
 obtain ⟨rfl,hraw,hset⟩:=hLP.last hx
 simp only at hs hb j0 j1 j2 hm1
 have hset:=hset (vS pN nl cN) nl (vS pB bl cB) (bl.set 0 y26)
 rw [zJB (rR hraw).2.2] at hset
 refine wR zTwo ?_
 intro b2 hb2
 refine xE 0 [vS a0 y.Arrays c0,vS a1 raws c1] [hB b2 [vS a0 y.Arrays c0,vS a1 raws c1],hO zI (vS pB bl cB) csB,hO Raw2 (vS a1 raws c1) s1,hO zE (vS a0 y.Arrays c0) s0,hB b1 zTwo,hB b [vS p2 p1.Arrays c1',vS p3 p1.Parts c2],hB r01 (cRd r0 p c)] rfl rfl rfl rfl<|yH rfl<|xD<|yC [0] [(6,vI (raws.length:Int))]<|yI<|yK<|yD 1 [] [(12,vP r01 0)]<|sU (yB [6,1,2,0,3,4] (hs':=[hB r01 (cRd r0 p c),hO zI (vS pB bl cB) csB,hO Raw2 (vS a1 raws c1) s1,hB b2 [vS a0 y.Arrays c0,vS a1 raws c1],hO zE (vS a0 y.Arrays c0) s0,hB b1 zTwo]))<|tM [hB r01 (cRd r0 p c)] [hO zI (vS pB bl cB) csB,hO Raw2 (vS a1 raws c1) s1,hB b2 [vS a0 y.Arrays c0,vS a1 raws c1],hO zE (vS a0 y.Arrays c0) s0,hB b1 zTwo] (xH r0 60 _ hy1 h) ?_
 rintro I01 hs2 v2 k2 le1 - ⟨v0,kk,rfl,rfl,rfl,h6⟩ -
 obtain ⟨v01,rfl,h7⟩:=jQ h6
 obtain ⟨p6,c5,rfl⟩:=h7.form
 clear h6 h
 have h3:=iM le1 h3
 have hRw:=iM le1 hRw
 have hN:=hN.mono le1
 have hBd:=iM le1 hBd
 have hset:=hset.mono le1
 refine yH rfl<|wO<|yF [(14,.bool ((3:Int) == 0))]<|zM<|fT rfl<|yF [(29,.bool ((3:Int) == 1))]<|zM<|fT rfl<|yF [(43,.bool ((3:Int) == 2))]<|zM<|fT rfl<|yF [(62,.bool ((3:Int) == 3))]<|zM<|zAv rfl<|yK<|yD 3 [] [(66,.bool (decide ((raws.length:Int) > 0)))] ?_
 rw [decide_eq_true hn]
 refine yD 7 [3] [(68,vS a1 raws c1),(70,vI (W ((raws.length:Int) - 1)))]<|nT (α:=Raw2) 2 rfl rfl rfl hRw hraw ?_
 intro ad ccs hat hcc hrep
 obtain ⟨rfl,o1,o2⟩:=hrep
 refine yD 9 [] [(72,.pointer (some (ad.add 1)))]<|zCe 2 1 hat hcc [vS pB bl cB] (vS pB bl cB) rfl rfl<|yC [] [(76,.bool (decide ((bl.length:Int) > 0)))] ?_
 rw [decide_eq_true hb]
 refine zM<|zAv rfl<|vE [(0,vP r01 0),(4,vP b1 0),(5,vP b2 0),(6,vI (raws.length:Int))]<|wA [.p (vP b2 1) [],.p (vS a1 raws c1) [2],.p (vI (raws.length:Int)) [],.p (vI (W ((raws.length:Int) - 1))) [],.x (fun I' v hx'=>∃ ad,v=.pointer (some ad)∧hx'=[]∧AtO (vS a1 raws c1) 2 (W ((raws.length:Int) - 1)).toNat ad),.x (fun I' v hx'=>∃ ad,v=.pointer (some (ad.add 1))∧hx'=[]∧AtO (vS a1 raws c1) 2 (W ((raws.length:Int) - 1)).toNat ad),.x (fun I' v hx'=>v=vS pB bl cB∧hx'=[]),.p (vP r01 0) [],.p (vP r01 0) [],.p (vP r01 0) [],.p (vP b2 1) [],.p (vS a1 raws c1) [2],.p (vI (raws.length:Int)) [],.p (vI (W ((raws.length:Int) - 1))) [],.x (fun I' v hx'=>∃ ad,v=.pointer (some ad)∧hx'=[]∧AtO (vS a1 raws c1) 2 (W ((raws.length:Int) - 1)).toNat ad),.x (fun I' v hx'=>∃ ad,v=.pointer (some (ad.add 1))∧hx'=[]∧AtO (vS a1 raws c1) 2 (W ((raws.length:Int) - 1)).toNat ad),.x (fun I' v hx'=>v=vS pB bl cB∧hx'=[]),.x (fun I' v hx'=>∃ ad,v=.pointer (some ad)∧hx'=[]∧AtO (vS pB bl cB) 9 0 ad),.x (fun I' v hx'=>∃ cs9,v=.agg ⟨cs9⟩∧hx'=[]∧Rp.rep I' cs9 s),.x (fun I' v hx'=>∃ (cs9 kk:List Value),v=.agg ⟨cs9⟩∧hx'=[hB r01 kk]∧Rp.rep I' cs9 y22∧Rp.rep I' kk y23),.x (fun I' v hx'=>∃ (cs9 kk:List Value),v=.agg ⟨cs9⟩∧hx'=[hB r01 kk]∧Rp.rep I' cs9 y24∧Rp.rep I' kk y25),.x (fun I' v hx'=>∃ (cs9 kk:List Value),v=.agg ⟨cs9⟩∧hx'=[hB r01 kk]∧Rp.rep I' cs9 y26∧Rp.rep I' kk y27)] [[],[(0,false)],[],[(2,false)],[(1,false),(3,false)],[(4,false)],[(5,false)],[],[],[],[],[(10,false)],[],[(12,false)],[(11,false),(13,false)],[(14,false)],[(15,false)],[(16,false)],[(17,false)],[(9,false),(18,false),(24,true)],[(8,false),(19,true)],[(7,false),(20,true)]] [hO zI (vS pB bl cB) csB,hO Raw2 (vS a1 raws c1) s1,hB b2 [vS a0 y.Arrays c0,vS a1 raws c1],hO zE (vS a0 y.Arrays c0) s0,hB b1 zTwo] [[hB r01 (cRd y3 p6 c5)]] [(6,false),(21,true)] (yB [1,2,3,4,5,0]) ?_ ?_
 · refine Op<|Op<|Op<|Op<|Ox ?_<|Ox ?_<|Ox ?_<|Op<|Op<|Op<|Op<|Op<|Op<|Op<|Ox ?_<|Ox ?_<|Ox ?_<|Ox ?_<|Ox ?_<|Ox ?_<|Ox ?_<|Ox ?_<|On
   · intro I1 hf le1
     refine zF ?_
     rintro _ _ ⟨rfl,rfl⟩
     refine zF ?_
     rintro _ _ ⟨rfl,rfl⟩
     refine nQ<|zB9 [(78,vS a1 raws c1),(80,vI (W ((raws.length:Int) - 1)))]<|nT (α:=Raw2) 1 rfl rfl rfl (iM le1 hRw) hraw ?_
     intro ad ccs hat hcc hrep
     exact yO [] iR ⟨_,rfl,rfl,hat⟩
   · intro I1 hf le1
     refine zF ?_
     rintro _ _ ⟨ad,rfl,rfl,hat⟩
     exact nQ<|zB9 [(81,.pointer (some ad))]<|uS 6 [(82,.pointer (some (ad.add 1)))]<|yO [] iR ⟨_,rfl,rfl,hat⟩
   · intro I1 hf le1
     refine zF ?_
     rintro _ _ ⟨ad,rfl,rfl,hat⟩
     refine nQ<|zB9 [(82,.pointer (some (ad.add 1)))] ?_
     have hrep:=hRw.at (rR hraw).2.2
     obtain ⟨⟨hcc,o1,o2⟩,_⟩:=hrep
     exact zCe 1 1 hat hcc [vS pB bl cB] (vS pB bl cB) rfl rfl<|yS iR
   · intro I1 hf le1
     refine zF ?_
     rintro _ _ ⟨rfl,rfl⟩
     refine zF ?_
     rintro _ _ ⟨rfl,rfl⟩
     refine nQ<|zB9 [(88,vS a1 raws c1),(90,vI (W ((raws.length:Int) - 1)))]<|nT (α:=Raw2) 1 rfl rfl rfl (iM le1 hRw) hraw ?_
     intro ad ccs hat hcc hrep
     exact yO [] iR ⟨_,rfl,rfl,hat⟩
   · intro I1 hf le1
     refine zF ?_
     rintro _ _ ⟨ad,rfl,rfl,hat⟩
     exact nQ<|zB9 [(91,.pointer (some ad))]<|uS 16 [(92,.pointer (some (ad.add 1)))]<|yO [] iR ⟨_,rfl,rfl,hat⟩
   · intro I1 hf le1
     refine zF ?_
     rintro _ _ ⟨ad,rfl,rfl,hat⟩
     refine nQ<|zB9 [(92,.pointer (some (ad.add 1)))] ?_
     have hrep:=hRw.at (rR hraw).2.2
     obtain ⟨⟨hcc,o1,o2⟩,_⟩:=hrep
     exact zCe 1 1 hat hcc [vS pB bl cB] (vS pB bl cB) rfl rfl<|yS iR
   · intro I1 hf le1
     refine zF ?_
     rintro _ _ ⟨rfl,rfl⟩
     refine nQ<|zB9 [(93,vS pB bl cB)]<|nT (α:=zI) 0 rfl rfl rfl (iM le1 hBd) hs ?_
     intro ad ccs hat hcc hrep
     exact yO [] iR ⟨_,rfl,rfl,hat⟩
   · intro I1 hf le1
     refine zF ?_
     rintro _ _ ⟨ad,rfl,rfl,hat⟩
     refine nQ<|zB9 [(94,.pointer (some ad))] ?_
     obtain ⟨hrep,_⟩:=(iM le1 hBd).at j2
     generalize hcc:(csB.drop (Int.toNat 0 * Rp.sz zI)).take (Rp.sz zI)=cc at hrep
     obtain ⟨w0,w1,w2,w3,rfl,e10,e11,e12,e13⟩:=pO hrep
     obtain ⟨p10,c10,rfl⟩:=e10.form
     obtain ⟨p11,c11,rfl⟩:=e11.form
     obtain ⟨p12,c12,rfl⟩:=e12.form
     obtain ⟨p13,c13,rfl⟩:=e13.form
     exact zCe 0 0 hat hcc (cStmt s p10 c10 p11 c11 p12 c12 p13 c13) (vA (cStmt s p10 c10 p11 c11 p12 c12 p13 c13)) rfl rfl<|yO [] iR ⟨_,rfl,rfl,wM ⟨_,_,_,_,rfl,e10,e11,e12,e13⟩⟩
   · intro I1 hf le1
     refine zF ?_
     rintro _ _ ⟨rfl,rfl⟩
     refine zF ?_
     rintro _ _ ⟨cs9,rfl,rfl,h9⟩
     refine zF ?_
     rintro _ _ rfl
     obtain ⟨w0,w1,w2,w3,rfl,e10,e11,e12,e13⟩:=pO h9
     obtain ⟨p10,c10,rfl⟩:=e10.form
     obtain ⟨p11,c11,rfl⟩:=e11.form
     obtain ⟨p12,c12,rfl⟩:=e12.form
     obtain ⟨p13,c13,rfl⟩:=e13.form
     refine nQ<|zB9 [(86,vP r01 0),(95,vA (cStmt s p10 c10 p11 c11 p12 c12 p13 c13))]<|tM [hB r01 (cRd y3 p6 c5)] (hO zI (vS pB bl cB) csB::hO Raw2 (vS a1 raws c1) s1::hB b2 [vS a0 y.Arrays c0,vS a1 raws c1]::hO zE (vS a0 y.Arrays c0) s0::hB b1 zTwo::hf) (gS y3 s _ hm1 (h7.mono le1) e10 e11 e12 e13) ?_
     rintro I02 hs2 v2 k2 le2 - ⟨v0,kk2,rfl,rfl,⟨cs2,rfl,h10⟩,h11⟩ -
     exact yO [hB r01 kk2] le2 ⟨_,_,rfl,rfl,h10,h11⟩
   · intro I1 hf le1
     refine zF ?_
     rintro _ _ ⟨rfl,rfl⟩
     refine zF ?_
     rintro _ _ ⟨cs9,kk,rfl,rfl,h9,hk⟩
     obtain ⟨w0,w1,w2,w3,rfl,e10,e11,e12,e13⟩:=pO h9
     obtain ⟨p10,c10,rfl⟩:=e10.form
     obtain ⟨p11,c11,rfl⟩:=e11.form
     obtain ⟨p12,c12,rfl⟩:=e12.form
     obtain ⟨p13,c13,rfl⟩:=e13.form
     obtain ⟨w4,rfl,hsl⟩:=jQ hk
     obtain ⟨p8,c8,rfl⟩:=hsl.form
     refine nQ<|zB9 [(85,vP r01 0),(96,vA (cStmt y22 p10 c10 p11 c11 p12 c12 p13 c13))]<|tM [hB r01 (cRd y23 p8 c8)] (hO zI (vS pB bl cB) csB::hO Raw2 (vS a1 raws c1) s1::hB b2 [vS a0 y.Arrays c0,vS a1 raws c1]::hO zE (vS a0 y.Arrays c0) s0::hB b1 zTwo::hf) (gS y23 y22 _ hm2 (hsl) e10 e11 e12 e13) ?_
     rintro I02 hs2 v2 k2 le2 - ⟨v0,kk2,rfl,rfl,⟨cs2,rfl,h10⟩,h11⟩ -
     exact yO [hB r01 kk2] le2 ⟨_,_,rfl,rfl,h10,h11⟩
   intro I1 hf le1
   refine zF ?_
   rintro _ _ ⟨rfl,rfl⟩
   refine zF ?_
   rintro _ _ ⟨cs9,kk,rfl,rfl,h9,hk⟩
   obtain ⟨w0,w1,w2,w3,rfl,e10,e11,e12,e13⟩:=pO h9
   obtain ⟨p10,c10,rfl⟩:=e10.form
   obtain ⟨p11,c11,rfl⟩:=e11.form
   obtain ⟨p12,c12,rfl⟩:=e12.form
   obtain ⟨p13,c13,rfl⟩:=e13.form
   obtain ⟨w4,rfl,hsl⟩:=jQ hk
   obtain ⟨p8,c8,rfl⟩:=hsl.form
   refine nQ<|zB9 [(84,vP r01 0),(97,vA (cStmt y24 p10 c10 p11 c11 p12 c12 p13 c13))]<|tM [hB r01 (cRd y25 p8 c8)] (hO zI (vS pB bl cB) csB::hO Raw2 (vS a1 raws c1) s1::hB b2 [vS a0 y.Arrays c0,vS a1 raws c1]::hO zE (vS a0 y.Arrays c0) s0::hB b1 zTwo::hf) (gS y25 y24 _ hm3 (hsl) e10 e11 e12 e13) ?_
   rintro I02 hs2 v2 k2 le2 - ⟨v0,kk2,rfl,rfl,⟨cs2,rfl,h10⟩,h11⟩ -
   exact yO [hB r01 kk2] le2 ⟨_,_,rfl,rfl,h10,h11⟩
 intro I5 le5
 refine zF ?_
 rintro _ _ ⟨rfl,rfl⟩
 refine zF ?_
 rintro _ _ ⟨cs9,kk,rfl,rfl,h9,hk⟩
 obtain ⟨w0,w1,w2,w3,rfl,e10,e11,e12,e13⟩:=pO h9
 obtain ⟨p10,c10,rfl⟩:=e10.form
 obtain ⟨p11,c11,rfl⟩:=e11.form
 obtain ⟨p12,c12,rfl⟩:=e12.form
 obtain ⟨p13,c13,rfl⟩:=e13.form
 have h3:=iM le5 h3
 have hRw:=iM le5 hRw
 have hN:=hN.mono le5
 have hBd:=iM le5 hBd
 have hset:=hset.mono le5
 refine nQ<|zB9 [(4,vP b1 0),(5,vP b2 0),(83,vS pB bl cB),(98,vA (cStmt y26 p10 c10 p11 c11 p12 c12 p13 c13))]<|nT (α:=zI) 1 rfl rfl rfl hBd hs ?_
 intro ad ccs hat hcc hrep
 obtain ⟨w0,w1,w2,w3,rfl,e20,e21,e22,e23⟩:=pO hrep
 obtain ⟨p20,c20,rfl⟩:=e20.form
 obtain ⟨p21,c21,rfl⟩:=e21.form
 obtain ⟨p22,c22,rfl⟩:=e22.form
 obtain ⟨p23,c23,rfl⟩:=e23.form
 refine qO (c:=(cStmt y26 p10 c10 p11 c11 p12 c12 p13 c13)) (x':=y26) 1 0 rfl rfl rfl hat rfl rfl hcc (by kernel_rfl) (by kernel_rfl) (by kernel_rfl) hBd hs (by kernel_rfl) (wM ⟨_,_,_,_,rfl,e10,e11,e12,e13⟩) ?_
 intro cs7 h7' hlen
 refine uC (hs':=[hB r01 kk,hO zI (vS pB bl cB) cs7,hO Raw2 (vS a1 raws c1) s1,hB b2 [vS a0 y.Arrays c0,vS a1 raws c1],hO zE (vS a0 y.Arrays c0) s0,hB b1 zTwo]) rfl<|yJ 1 rfl ?_
 intro I6 le6 hl6
 have eB:vS pB bl cB=vS pB (bl.set 0 y26) cB:=by simp [vS]
 have kB:SL I6 (vS pB (bl.set 0 y26) cB) (bl.set 0 y26):=by
   rw [← eB]
   exact SL.of_frozen (l:=bl.set 0 y26) hl6 le6 h7'
 rw [eB] at hset
 have hdone:=(hset.mono le6).done (hN.mono le6) kB
 have eS:=mW hRw
 rw [← eS] at hdone
 have h3:=iM le6 h3
 have hk:=Rp.mono le6 hk
 have eP:vS a1 raws c1=vS a1 (y.Parts.set (W ((raws.length:Int) - 1)).toNat ⟨nl,bl.set 0 y26⟩) c1:=by simp only [vS,List.length_set,hLP.2.1]
 refine uC (hs':=[hB r01 kk,hO Raw2 (vS a1 raws c1) s1,hB b2 [vS a0 y.Arrays c0,vS a1 raws c1],hO zE (vS a0 y.Arrays c0) s0,hB b1 zTwo]) rfl<|yH rfl<|zT<|xD<|yD 1 [2] [(110,vA [vS a0 y.Arrays c0,vS a1 raws c1])]<|xE 4 [vS a0 y.Arrays c0,vS a1 raws c1] [hB r01 kk,hO Raw2 (vS a1 raws c1) s1,hB b2 [vS a0 y.Arrays c0,vS a1 raws c1],hO zE (vS a0 y.Arrays c0) s0,hB b1 [vS a0 y.Arrays c0,vS a1 raws c1]] rfl rfl rfl rfl<|yH rfl<|xG<|xP 1 rfl ?_
 intro I7 le7 hl7
 have k1:SL I7 (vS a1 raws c1) (y.Parts.set (W ((raws.length:Int) - 1)).toNat ⟨nl,bl.set 0 y26⟩):=SL.of_frozen (l:=y.Parts.set (W ((raws.length:Int) - 1)).toNat ⟨nl,bl.set 0 y26⟩) hl7 le7 hdone
 refine xP 2 rfl ?_
 intro I8 le8 hl8
 have k2:=SL.of_frozen hl8 le8 (iM le7 h3)
 rw [hLP.len]
 exact xC ⟨_,_,(.cell 2 rfl rfl (by kernel_rfl) ResV.nil),(yA [0] rfl (by decide)),⟨_,_,rfl,rfl,⟨_,rfl,(wZ ⟨_,_,rfl,k2,k1.mono le8⟩)⟩,Rp.mono le8 (Rp.mono le7 hk)⟩⟩
theorem zDc:∀ r0 p1 r,qH r0 p1=some r→∀ {I:Imm}{r01:Nat}{p c p2 c1 p3 c2},(S4 I p r0.b c)→(S4 I p2 p1.Arrays c1)→(S4 I p3 p1.Parts c2)→RT 35 [vP r01 0,vA (cProg p1 p2 c1 p3 c2)] I [hB r01 (cRd r0 p c)] (jS r01 r):=by
 intro r0 p1 r N I r01 p c p2 c1 p3 c2 h h1 h2;by_cases hq:∃ y y3 x s,rQ p1=some y∧yV r0 60=some (3,y3)∧idx y.Parts (W ((y.Parts.length:Int) - 1))=some x∧idx x.Body 0=some s
 · obtain ⟨y,y3,x,s,e1,e2,e3,e4⟩:=hq;exact zCm r0 p1 r N e1 e2 e3 e4 h h1 h2
 refine zCk r0 p1 r N h h1 h2 ?_;intro y y2 y3 x s e1 e2 e3 e4 e5;obtain rfl:=eq_of_beq e3;exact hq ⟨y,y3,x,s,e1,e2,e4,e5⟩
def gT (r:(List Str)):KT:=fun kk I' hs' v=>
  ∃ v0,hs'=[]∧v=tupV [v0]∧SL I' v0 r
def qP (s:Str) (c:UInt8) (out:List Str) (from0:Int) (i:Int):Option (List Str):=do
 if (decide (i ≤ (s.l.length:Int))) then
  let t25←(do
    if (i == (s.l.length:Int)) then
     pure true
    else
     let b1←sidx s i
     pure ((b1.toNat:Int) == (c.toNat:Int))
      : Option Bool)
  let (out2,from01)←(do
    if t25 then
     let s1←sslc s from0 i
     let out3←app 16 out ([s1]:List Str)
     pure (out3,(W (i + 1)))
    else
     pure (out,from0)
      : Option (List Str×Int))
  qP s c out2 from01 (W (i + 1))
 else
  pure (id out)
 partial_fixpoint
theorem zCn (s:Str) (c:UInt8):∀ (out:List Str) (from0:Int) (i:Int) (o:List Str),qP s c out from0 i=some o→∀ {B}{I0 I:Imm}{Q p c1 cs},I0.le I→(RL I cs out)→NG Q→NO Q→(∀ (I':Imm) (out1:List Str) (p1:Option Addr) (c2:Nat) (cs1:List Value),o=out1→I0.le I'→(RL I' cs1 out1)→T 36 B Q (.exit 0) I' [hO Str (vS p1 out1 c2) cs1] [(5,vS p1 out1 c2)])→J Tryz.prog 36 B (nav (bodyOf Tryz.f156) [1,1,1,0,1,0]) Q I [hO Str (vS p out c1) cs] [(0,vT s.l),(1,.int .u8 (c.toNat:Int)),(5,vS p out c1),(6,vI from0),(7,vI i)]:=by
 refine qP.partial_correctness s c _ fun self ih out from0 i o N B I0 I Q p c1 cs H h1 hg ho hx=>yZ hg ho<|yG<|yF [(12,.bool (decide (i ≤ (s.l.length:Int))))]<|zM<|yL N ?_ ?_
 · intro hc N;refine zW<|yI<|yP<|yG ?_;obtain ⟨o0,ho0,hMc⟩:=zB N;refine yU (fun I' hs' m'=>∃ (t25:Bool),o0=t25∧I.le I'∧hs'=[hO Str (vS p out c1) cs]∧m'=[(0,vT s.l),(1,.int .u8 (c.toNat:Int)),(5,vS p out c1),(6,vI from0),(7,vI i),(25,.bool t25)]) ?_ ?_
   · have H:=iS I;refine zQ<|yD 5 [] [(19,.bool (i == (s.l.length:Int)))] ?_;cases hc1:(i == (s.l.length:Int)) with
     | true =>
      have hM0:=zP hc1 ho0
      try rw [hc1]
      exact yC [] [(25,vY)]<|yT [(0,vT s.l),(1,.int .u8 (c.toNat:Int)),(5,vS p out c1),(6,vI from0),(7,vI i),(25,vY)]<|zV (ct hM0 H)
     | false =>
      have hM01:=zL hc1 ho0
      try rw [hc1]
      refine yD 7 [] [(20,vT s.l),(21,vI i)] ?_;obtain ⟨b1,hy,N⟩:=zB hM01;exact eT rfl rfl hy<|yC [] [(25,.bool ((b1.toNat:Int) == (c.toNat:Int)))]<|yT [(0,vT s.l),(1,.int .u8 (c.toNat:Int)),(5,vS p out c1),(6,vI from0),(7,vI i),(25,.bool ((b1.toNat:Int) == (c.toNat:Int)))]<|zV (ct N H)
   rintro I0 hs2 m2 ⟨t25,heq,le,rfl,rfl⟩;subst o0;have h1:=iM le h1;have H:=H.trans le;refine zM ?_;obtain ⟨o01,ho01,hMc1⟩:=zB hMc;refine yU (fun I' hs' m'=>∃ (out2:List Str) (from01:Int) (p2:Option Addr) (c3:Nat) (cs2:List Value),o01=(out2,from01)∧I0.le I'∧(RL I' cs2 out2)∧hs'=[hO Str (vS p2 out2 c3) cs2]∧m'=[(0,vT s.l),(1,.int .u8 (c.toNat:Int)),(5,vS p2 out2 c3),(6,vI from01),(7,vI i)]) ?_ ?_
   · have H:=iS I0;refine yL ho01 ?_ ?_
     · intro hc2 N;refine yK<|yD 4 [] [(26,vS p out c1),(27,vT s.l),(28,vI from0),(29,vI i)]<|bE N fun s1 hy1 N=>zFh rfl hy1<|xY [vT s1.l] Str ?_;intro b2 hb1;have h4:RL I0 [vT s1.l] ([s1]:List Str):=⟨[vT s1.l],_,rfl,rfl,rfl,rfl⟩;obtain ⟨out3,hy2,N⟩:=zB N;exact pG 9 1 1 rfl rfl rfl h1 (.inr ⟨0,rfl⟩) h4 hy2 fun p3 c4 cs3 h5=>sU (yB [1] (hs':=[hO Str (vS p3 out3 c4) cs3]))<|yC [] [(5,vS p3 out3 c4)]<|zM<|zQ<|yC [] [(6,vI (W (i + 1)))]<|yT [(0,vT s.l),(1,.int .u8 (c.toNat:Int)),(5,vS p3 out3 c4),(6,vI (W (i + 1))),(7,vI i)]<|zV ⟨_,_,_,_,_,(zC N).symm,H,h5,rfl,rfl⟩
     intro hc2 N;exact zW<|yT [(0,vT s.l),(1,.int .u8 (c.toNat:Int)),(5,vS p out c1),(6,vI from0),(7,vI i)]<|zV ⟨_,_,_,_,_,(zC N).symm,H,h1,rfl,rfl⟩
   rintro I01 hs2 m2 ⟨out2,from01,p2,c3,cs2,heq1,le1,h3,rfl,rfl⟩;subst o01;have H:=H.trans le1;exact zT<|zM<|zQ<|yC [] [(7,vI (W (i + 1)))]<|yY<|vE [(0,vT s.l),(1,.int .u8 (c.toNat:Int)),(5,vS p2 out2 c3),(6,vI from01),(7,vI (W (i + 1)))]<|ih out2 from01 (W (i + 1)) _ hMc1 H h3 hg ho hx
 intro hc N;exact vW<|yT [(5,vS p out c1)]<|hx _ _ _ _ _ (zC N).symm H h1
def nI (s:Str) (c:UInt8):Option ((List Str)):=do
 let out1←qP s c ([]:List Str) 0 0
 pure (id out1)
theorem eE:∀ s c r,nI s c=some r→∀ {I:Imm} ,RT 156 [vT s.l,.int .u8 (c.toNat:Int)] I [] (gT  r):=by
 intro s c r N I;unfold nI at N;refine zY (fn:=Tryz.f156) (c:=(bodyOf Tryz.f156)) Tryz.func156 rfl rfl ?_;rintro B - -;refine yF []<|xD<|xY [] Str ?_;intro b hb;have h:RL I [] ([]:List Str):=rfl;refine yC [] [(5,vS (some ⟨b,0,none⟩) ([]:List Str) 0)]<|vH [(6,vI 0)]<|yI<|yF [(7,vI 0)]<|wO<|vE [(0,vT s.l),(1,.int .u8 (c.toNat:Int)),(5,vS (some ⟨b,0,none⟩) ([]:List Str) 0),(6,vI 0),(7,vI 0)] ?_;obtain ⟨o02,ho02,hMl⟩:=zB N;refine zCn s c ([]:List Str) 0 0 o02 ho02 iR h (fun _ _ _ h=>h) (fun _ _ h=>h) ?_;intro I02 out1 p1 c2 cs1 heq2 le2 h2;subst o02;refine zX<|vH [(4,vS p1 out1 c2)]<|xG<|xP 0 rfl ?_;intro I03 le3 hl0;have h6:=SL.of_frozen hl0 le3 h2;obtain rfl:=zC hMl;exact xC ⟨_,_,(.tmp rfl ResV.nil),zR,⟨_,rfl,rfl,h6⟩⟩
def xJ (r:Int):KT:=fun kk I' hs' v=>
  ∃ v0,hs'=[]∧v=tupV [v0]∧v0=.int .i64 r
def rU (s:Str) (end0:UInt8) (i:Int):Option (Out Unit (Int)):=do
 if (decide (i < (s.l.length:Int))) then
  let b←sidx s i
  if ((b.toNat:Int) == (end0.toNat:Int)) then
   pure (.ret i)
  else
   rU s end0 (W (i + 1))
 else
  pure (.done ())
 partial_fixpoint
theorem zCH (s:Str) (end0:UInt8):∀ (i:Int) (o:Out Unit (Int)),rU s end0 i=some o→∀ {B}{I0 I:Imm}{Q}  ,I0.le I→NG Q→NO Q→(∀ (I':Imm) ,o=(.done ())→I0.le I'→T 21 B Q (.exit 0) I' [] [])→(∀ r I' hs' m',o=(.ret r)→I0.le I'→RS Tryz.prog Tryz.f198 B (xJ  r) I' hs' m'→T 21 B Q .ret I' hs' m')→J Tryz.prog 21 B (nav (bodyOf Tryz.f198) [1,0,1,0]) Q I [] [(0,vT s.l),(2,.int .u8 (end0.toNat:Int)),(7,vI i)]:=by
 refine rU.partial_correctness s end0 _ fun self ih i o N B I0 I Q H hg ho hx hr=>yZ hg ho<|yG<|yF [(12,.bool (decide (i < (s.l.length:Int))))]<|zM<|yL N ?_ ?_
 · intro hc N;refine zW<|yI<|yP<|yK<|yD 2 [] [(15,vT s.l),(16,vI i)]<|bE N fun b hy N=>eT rfl rfl hy<|yC [] [(19,.bool ((b.toNat:Int) == (end0.toNat:Int)))]<|zM<|yL N ?_ ?_
   · intro hc1 N;exact yF [(6,vI i)]<|xG<|zZ<|zH<|zH<|hr _ _ _ _ (zC N).symm H ⟨_,_,(.tmp rfl ResV.nil),zR,⟨_,rfl,rfl,rfl⟩⟩
   intro hc1 N;exact zW<|zT<|zM<|zQ<|yC [] [(7,vI (W (i + 1)))]<|yY<|vE [(0,vT s.l),(2,.int .u8 (end0.toNat:Int)),(7,vI (W (i + 1)))]<|ih (W (i + 1)) _ N H  hg ho hx hr
 intro hc N;exact vW<|yT []<|hx _  (zC N).symm H
def nX (s:Str) (at0:Int) (end0:UInt8):Option (Int):=do
 match←rU s end0 at0 with
 | .ret r0=>pure r0
 | .done _ =>
  pure (-1)
theorem zAi:∀ s at0 end0 r,nX s at0 end0=some r→∀ {I:Imm} ,RT 198 [vT s.l,vI at0,.int .u8 (end0.toNat:Int)] I [] (xJ  r):=by
 intro s at0 end0 r N I;unfold nX at N;refine zY (fn:=Tryz.f198) (c:=(bodyOf Tryz.f198)) Tryz.func198 rfl rfl ?_;rintro B - -;refine yF []<|yI<|yF [(7,vI at0)]<|wO<|vE [(0,vT s.l),(2,.int .u8 (end0.toNat:Int)),(7,vI at0)] ?_;obtain ⟨o0,ho0,hMl⟩:=zB N;refine zCH s end0 at0 o0 ho0 iR  (fun _ _ _ h=>h) (fun _ _ h=>h) ?_ ?_
 · intro I0  heq le;subst o0;refine zX<|vH [(6,vI (-1))]<|zM<|yX ?_;obtain rfl:=zC hMl;exact wN
 intro r0 I9 hs9 m9 heq9 le9 hrs9;subst heq9;refine zZ<|zH ?_;obtain rfl:=zC hMl;exact xC hrs9
def nY (r:Int×Bool):KT:=fun kk I' hs' v=>
  ∃ v0 v1,hs'=[]∧v=tupV [v0,v1]∧v0=.int .i64 r.1∧v1=.bool r.2
def qQ (s1:Str) (n0:Int) (i:Int):Option (Out Int (Int×Bool)):=do
 if (decide (i < (s1.l.length:Int))) then
  let t54←(do
    let b2←sidx s1 i
    if (decide ((b2.toNat:Int) < 48)) then
     pure true
    else
     let b3←sidx s1 i
     pure (decide ((b3.toNat:Int) > 57))
      : Option Bool)
  if t54 then
   pure (.ret (0,false))
  else
   let b4←sidx s1 i
   qQ s1 (W ((W (n0 * 10)) + (W (IntKind.u8.wrap ((b4.toNat:Int) - 48))))) (W (i + 1))
 else
  pure (.done n0)
 partial_fixpoint
theorem zCo (s1:Str):∀ (n0:Int) (i:Int) (o:Out Int (Int×Bool)),qQ s1 n0 i=some o→∀ {B}{I0 I:Imm}{Q}{neg:Bool} ,I0.le I→NG Q→NO Q→(∀ (I':Imm) (n01:Int),o=(.done n01)→I0.le I'→T 67 B Q (.exit 0) I' [] [(4,.bool neg),(5,vI n01)])→(∀ r I' hs' m',o=(.ret r)→I0.le I'→RS Tryz.prog Tryz.f209 B (nY  r) I' hs' m'→T 67 B Q .ret I' hs' m')→J Tryz.prog 67 B (nav (bodyOf Tryz.f209) [1,1,1,1,1,0,1,0]) Q I [] [(0,vT s1.l),(4,.bool neg),(5,vI n0),(6,vI i)]:=by
 refine qQ.partial_correctness s1 _ fun self ih n0 i o N B I0 I Q neg H hg ho hx hr=>yZ hg ho<|yG<|yF [(42,.bool (decide (i < (s1.l.length:Int))))]<|zM<|yL N ?_ ?_
 · intro hc7 N;refine zW<|yI<|yP<|yG<|yG ?_;obtain ⟨o03,ho03,hMc3⟩:=zB N;refine yU (fun I' hs' m'=>∃ (t54:Bool),o03=t54∧I.le I'∧hs'=[]∧m'=[(0,vT s1.l),(4,.bool neg),(5,vI n0),(6,vI i),(54,.bool t54)]) ?_ ?_
   · have H:=iS I;refine zQ<|yD 2 [] [(45,vT s1.l),(46,vI i)] ?_;obtain ⟨b2,hy3,N⟩:=zB ho03;refine eT rfl rfl hy3<|yD 5 [] [(49,.bool (decide ((b2.toNat:Int) < 48)))] ?_;cases hc8:(decide ((b2.toNat:Int) < 48)) with
     | true =>
      have hM010:=zP hc8 N
      try rw [hc8]
      exact yC [] [(54,vY)]<|yT [(0,vT s1.l),(4,.bool neg),(5,vI n0),(6,vI i),(54,vY)]<|zV (ct hM010 H)
     | false =>
      have hM011:=zL hc8 N
      try rw [hc8]
      refine yD 7 [] [(50,vT s1.l),(51,vI i)] ?_;obtain ⟨b3,hy4,N⟩:=zB hM011;exact eT rfl rfl hy4<|yC [] [(54,.bool (decide ((b3.toNat:Int) > 57)))]<|yT [(0,vT s1.l),(4,.bool neg),(5,vI n0),(6,vI i),(54,.bool (decide ((b3.toNat:Int) > 57)))]<|zV (ct N H)
   rintro I03 hs2 m2 ⟨t54,heq3,le3,rfl,rfl⟩;subst o03;have H:=H.trans le3;refine zM<|yL hMc3 ?_ ?_
   · intro hc9 N;exact yF [(2,vI 0),(3,vF)]<|xG<|zH<|zZ<|zH<|zH<|hr _ _ _ _ (zC N).symm H ⟨_,_,(.tmp rfl (.tmp rfl ResV.nil)),zR,⟨_,_,rfl,rfl,rfl,rfl⟩⟩
   intro hc9 N;exact zW<|zM<|zQ<|yD 4 [] [(56,vI (W (n0 * 10))),(57,vT s1.l),(58,vI i)]<|bE N fun b4 hy5 N=>eT rfl rfl hy5<|yC [] [(5,vI (W ((W (n0 * 10)) + (W (IntKind.u8.wrap ((b4.toNat:Int) - 48))))))]<|zT<|zM<|zQ<|yC [] [(6,vI (W (i + 1)))]<|yY<|vE [(0,vT s1.l),(4,.bool neg),(5,vI (W ((W (n0 * 10)) + (W (IntKind.u8.wrap ((b4.toNat:Int) - 48)))))),(6,vI (W (i + 1)))]<|ih (W ((W (n0 * 10)) + (W (IntKind.u8.wrap ((b4.toNat:Int) - 48))))) (W (i + 1)) _ N H  hg ho hx hr
 intro hc7 N;exact vW<|yT [(4,.bool neg),(5,vI n0)]<|hx _ _ (zC N).symm H
def mY (s:Str):Option (Int×Bool):=do
 let neg←(do
   if (decide ((s.l.length:Int) > 0)) then
    let b←sidx s 0
    pure ((b.toNat:Int) == 45)
   else
    pure false
     : Option Bool)
 let s1←(do
   if neg then
    let s2←sslc s 1 (s.l.length:Int)
    pure (id s2)
   else
    pure (id s)
     : Option Str)
 let t38←(do
   if ((s1.l.length:Int) == 0) then
    pure true
   else
    if (decide ((s1.l.length:Int) > 17)) then
     pure true
    else
     let b1←sidx s1 0
     if ((b1.toNat:Int) == 48) then
      if (decide ((s1.l.length:Int) > 1)) then
       pure true
      else
       pure (id neg)
     else
      pure false
     : Option Bool)
 if t38 then
  pure (0,false)
 else
  match←qQ s1 0 0 with
  | .ret r0=>pure r0
  | .done n01 =>
   let n02←(do
     if neg then
      pure (W (0 - n01))
     else
      pure (id n01)
       : Option Int)
   pure (n02,true)
theorem zBF:∀ s r,mY s=some r→∀ {I:Imm} ,RT 209 [vT s.l] I [] (nY  r):=by
 intro s r N I;unfold mY at N;refine zY (fn:=Tryz.f209) (c:=(bodyOf Tryz.f209)) Tryz.func209 rfl rfl ?_;rintro B - -;have H:=iS I;refine yF []<|zM<|yG ?_;obtain ⟨o0,ho0,hMc⟩:=zB N;refine yU (fun I' hs' m'=>∃ (neg:Bool),o0=neg∧I.le I'∧hs'=[]∧m'=[(0,vT s.l),(4,.bool neg)]) ?_ ?_
 · have H:=iS I;refine zQ<|yD 4 [] [(10,.bool (decide ((s.l.length:Int) > 0)))] ?_;cases hc:(decide ((s.l.length:Int) > 0)) with
   | true =>
    have hM0:=zP hc ho0
    try rw [hc]
    refine yD 5 [] [(11,vT s.l)] ?_;obtain ⟨b,hy,N⟩:=zB hM0;exact eT rfl rfl hy<|yC [] [(4,.bool ((b.toNat:Int) == 45))]<|yT [(0,vT s.l),(4,.bool ((b.toNat:Int) == 45))]<|zV (ct N H)
   | false =>
    have hM01:=zL hc ho0
    try rw [hc]
    exact yC [] [(4,vF)]<|yT [(0,vT s.l),(4,vF)]<|zV (ct hM01 H)
 rintro I0 hs2 m2 ⟨neg,heq,le,rfl,rfl⟩;subst o0;have H:=H.trans le;refine yI<|yF [(15,.bool neg)]<|zM ?_;obtain ⟨o01,ho01,hMc1⟩:=zB hMc;refine yU (fun I' hs' m'=>∃ (s1:Str),o01=s1∧I0.le I'∧hs'=[]∧m'=[(0,vT s1.l),(4,.bool neg)]) ?_ ?_
 · have H:=iS I0;refine yL ho01 ?_ ?_
   · intro hc1 N;exact zQ<|yD 1 [] [(16,vT s.l)]<|bE N fun s2 hy1 N=>zFh rfl hy1<|yC [] [(0,vT s2.l)]<|yT [(0,vT s2.l),(4,.bool neg)]<|zV (ct N H)
   intro hc1 N;exact zW<|yT [(0,vT s.l),(4,.bool neg)]<|zV (ct N H)
 rintro I01 hs2 m2 ⟨s1,heq1,le1,rfl,rfl⟩;subst o01;have H:=H.trans le1;refine yI<|yG ?_;obtain ⟨o02,ho02,hMc2⟩:=zB hMc1;refine yU (fun I' hs' m'=>∃ (t38:Bool),o02=t38∧I01.le I'∧hs'=[]∧m'=[(0,vT s1.l),(4,.bool neg),(38,.bool t38)]) ?_ ?_
 · have H:=iS I01;refine zQ<|yD 4 [] [(21,.bool ((s1.l.length:Int) == 0))] ?_;cases hc2:((s1.l.length:Int) == 0) with
   | true =>
    have hM02:=zP hc2 ho02
    try rw [hc2]
    exact yC [] [(38,vY)]<|yT [(0,vT s1.l),(4,.bool neg),(38,vY)]<|zV (ct hM02 H)
   | false =>
    have hM03:=zL hc2 ho02
    try rw [hc2]
    refine yD 9 [] [(26,.bool (decide ((s1.l.length:Int) > 17)))] ?_;cases hc3:(decide ((s1.l.length:Int) > 17)) with
    | true =>
     have hM04:=zP hc3 hM03
     try rw [hc3]
     exact yC [] [(38,vY)]<|yT [(0,vT s1.l),(4,.bool neg),(38,vY)]<|zV (ct hM04 H)
    | false =>
     have hM05:=zL hc3 hM03
     try rw [hc3]
     refine yD 10 [] [(27,vT s1.l)] ?_;obtain ⟨b1,hy2,N⟩:=zB hM05;refine eT rfl rfl hy2<|yD 13 [] [(30,.bool ((b1.toNat:Int) == 48))] ?_;cases hc4:((b1.toNat:Int) == 48) with
     | true =>
      have hM06:=zP hc4 N
      try rw [hc4]
      refine yD 17 [] [(34,.bool (decide ((s1.l.length:Int) > 1)))] ?_;cases hc5:(decide ((s1.l.length:Int) > 1)) with
      | true =>
       have hM07:=zP hc5 hM06
       try rw [hc5]
       exact yC [] [(38,vY)]<|yT [(0,vT s1.l),(4,.bool neg),(38,vY)]<|zV (ct hM07 H)
      | false =>
       have hM08:=zL hc5 hM06
       try rw [hc5]
       exact yC [] [(38,.bool neg)]<|yT [(0,vT s1.l),(4,.bool neg),(38,.bool neg)]<|zV (ct hM08 H)
     | false =>
      have hM09:=zL hc4 N
      try rw [hc4]
      exact yC [] [(38,vF)]<|yT [(0,vT s1.l),(4,.bool neg),(38,vF)]<|zV (ct hM09 H)
 rintro I02 hs2 m2 ⟨t38,heq2,le2,rfl,rfl⟩;subst o02;have H:=H.trans le2;refine zM<|yL hMc2 ?_ ?_
 · intro hc6 N;refine yF [(2,vI 0),(3,vF)]<|xG<|zH ?_;obtain rfl:=zC N;exact xC ⟨_,_,(.tmp rfl (.tmp rfl ResV.nil)),zR,⟨_,_,rfl,rfl,rfl,rfl⟩⟩
 intro hc6 N;refine zW<|vH [(5,vI 0)]<|yI<|yF [(6,vI 0)]<|wO<|vE [(0,vT s1.l),(4,.bool neg),(5,vI 0),(6,vI 0)] ?_;obtain ⟨o04,ho04,hMl⟩:=zB N;refine zCo s1 0 0 o04 ho04 iR  (fun _ _ _ h=>h) (fun _ _ h=>h) ?_ ?_
 · intro I04 n01 heq4 le4;subst o04;have H:=H.trans le4;refine zX<|yI<|yF [(63,.bool neg)]<|zM ?_;obtain ⟨o05,ho05,hMc4⟩:=zB hMl;refine yU (fun I' hs' m'=>∃ (n02:Int),o05=n02∧I04.le I'∧hs'=[]∧m'=[(5,vI n02)]) ?_ ?_
   · have H:=iS I04;refine yL ho05 ?_ ?_
     · intro hc10 N;exact zQ<|yC [] [(5,vI (W (0 - n01)))]<|yT [(5,vI (W (0 - n01)))]<|zV (ct N H)
     intro hc10 N;exact zW<|yT [(5,vI n01)]<|zV (ct N H)
   rintro I05 hs2 m2 ⟨n02,heq5,le5,rfl,rfl⟩;subst o05;refine vH [(2,vI n02),(3,vY)]<|zM<|yX ?_;obtain rfl:=zC hMc4;exact xC ⟨_,_,(.tmp rfl (.tmp rfl ResV.nil)),zR,⟨_,_,rfl,rfl,rfl,rfl⟩⟩
 intro r0 I9 hs9 m9 heq9 le9 hrs9;subst heq9;refine zZ<|zH ?_;obtain rfl:=zC hMl;exact xC hrs9
def jT (r:Int×Int):KT:=fun kk I' hs' v=>
  ∃ v0 v1,hs'=[]∧v=tupV [v0,v1]∧v0=.int .i64 r.1∧v1=.int .i64 r.2
def rH (s:Str) (at0:Int) (end0:Int):Option (Int):=do
 let t31←(do
   if (decide (end0 < (s.l.length:Int))) then
    if (decide (end0 < (W (at0 + 2)))) then
     let b←sidx s end0
     if (decide ((b.toNat:Int) ≥ 48)) then
      let b1←sidx s end0
      pure (decide ((b1.toNat:Int) ≤ 57))
     else
      pure false
    else
     pure false
   else
    pure false
     : Option Bool)
 if t31 then
  rH s at0 (W (end0 + 1))
 else
  pure (id end0)
 partial_fixpoint
theorem zBd (s:Str) (at0:Int):∀ (end0:Int) (o:Int),rH s at0 end0=some o→∀ {B}{I0 I:Imm}{Q}  ,I0.le I→NG Q→NO Q→(∀ (I':Imm) (end01:Int),o=end01→I0.le I'→T 47 B Q (.exit 0) I' [] [(0,vT s.l),(1,vI at0),(6,vI end01)])→J Tryz.prog 47 B (nav (bodyOf Tryz.f202) [1,1,0,0]) Q I [] [(0,vT s.l),(1,vI at0),(6,vI end0)]:=by
 refine rH.partial_correctness s at0 _ fun self ih end0 o N B I0 I Q H hg ho hx=>yZ hg ho<|yG<|yG ?_;obtain ⟨o0,ho0,hMc⟩:=zB N;refine yU (fun I' hs' m'=>∃ (t31:Bool),o0=t31∧I.le I'∧hs'=[]∧m'=[(0,vT s.l),(1,vI at0),(6,vI end0),(31,.bool t31)]) ?_ ?_
 · have H:=iS I;refine zQ<|yD 5 [] [(14,.bool (decide (end0 < (s.l.length:Int))))] ?_;cases hc:(decide (end0 < (s.l.length:Int))) with
   | true =>
    have hM0:=zP hc ho0
    try rw [hc]
    refine yD 11 [] [(20,.bool (decide (end0 < (W (at0 + 2)))))] ?_;cases hc1:(decide (end0 < (W (at0 + 2)))) with
    | true =>
     have hM01:=zP hc1 hM0
     try rw [hc1]
     refine yD 13 [] [(21,vT s.l),(22,vI end0)] ?_;obtain ⟨b,hy,N⟩:=zB hM01;refine eT rfl rfl hy<|yD 17 [] [(26,.bool (decide ((b.toNat:Int) ≥ 48)))] ?_;cases hc2:(decide ((b.toNat:Int) ≥ 48)) with
     | true =>
      have hM02:=zP hc2 N
      try rw [hc2]
      refine yD 19 [] [(27,vT s.l),(28,vI end0)] ?_;obtain ⟨b1,hy1,N⟩:=zB hM02;exact eT rfl rfl hy1<|yC [] [(31,.bool (decide ((b1.toNat:Int) ≤ 57)))]<|yT [(0,vT s.l),(1,vI at0),(6,vI end0),(31,.bool (decide ((b1.toNat:Int) ≤ 57)))]<|zV (ct N H)
     | false =>
      have hM03:=zL hc2 N
      try rw [hc2]
      exact yC [] [(31,vF)]<|yT [(0,vT s.l),(1,vI at0),(6,vI end0),(31,vF)]<|zV (ct hM03 H)
    | false =>
     have hM04:=zL hc1 hM0
     try rw [hc1]
     exact yC [] [(31,vF)]<|yT [(0,vT s.l),(1,vI at0),(6,vI end0),(31,vF)]<|zV (ct hM04 H)
   | false =>
    have hM05:=zL hc ho0
    try rw [hc]
    exact yC [] [(31,vF)]<|yT [(0,vT s.l),(1,vI at0),(6,vI end0),(31,vF)]<|zV (ct hM05 H)
 rintro I0 hs2 m2 ⟨t31,heq,le,rfl,rfl⟩;subst o0;have H:=H.trans le;refine zM<|yL hMc ?_ ?_
 · intro hc3 N;exact zW<|wO<|zQ<|yC [] [(6,vI (W (end0 + 1)))]<|zT<|yY<|vE [(0,vT s.l),(1,vI at0),(6,vI (W (end0 + 1)))]<|ih (W (end0 + 1)) _ N H  hg ho hx
 intro hc3 N;exact vW<|yT [(0,vT s.l),(1,vI at0),(6,vI end0)]<|hx _ _ (zC N).symm H
def oR (s:Str) (at0:Int):Option (Int×Int):=do
 let end01←rH s at0 at0
 let s1←sslc s at0 end01
 let (y1,y2)←mY s1
 if (!y2) then
  pure (1,at0)
 else
  pure (y1,end01)
theorem zAH:∀ s at0 r,oR s at0=some r→∀ {I:Imm} ,RT 202 [vT s.l,vI at0] I [] (jT  r):=by
 intro s at0 r N I;unfold oR at N;refine zY (fn:=Tryz.f202) (c:=(bodyOf Tryz.f202)) Tryz.func202 rfl rfl ?_;rintro B - -;refine yF []<|vH [(6,vI at0)]<|yI<|yP<|vE [(0,vT s.l),(1,vI at0),(6,vI at0)] ?_;obtain ⟨o01,ho01,hMl⟩:=zB N;refine zBd s at0 at0 o01 ho01 iR  (fun _ _ _ h=>h) (fun _ _ h=>h) ?_;intro I01 end01 heq1 le1;subst o01;refine zX<|xD<|yD 3 [] [(35,vT s.l),(36,vI at0),(37,vI end01)] ?_;obtain ⟨s1,hy2,N⟩:=zB hMl;refine zFh rfl hy2 ?_;obtain ⟨⟨y1,y2⟩,hy3,N⟩:=zB N;refine xT (zBF s1 _ hy3 ) ?_;rintro I02 hs2 v2 k2 le2 - ⟨v0,v01,rfl,rfl,rfl,rfl⟩ -;refine yC [] [(7,vI y1),(8,.bool y2)]<|yI<|yF [(43,.bool (!y2))]<|zM<|yL N ?_ ?_
 · intro hc4 N;refine yF [(4,vI 1),(5,vI at0)]<|xG<|zH ?_;obtain rfl:=zC N;exact xC ⟨_,_,(.tmp rfl (.tmp rfl ResV.nil)),zR,⟨_,_,rfl,rfl,rfl,rfl⟩⟩
 intro hc4 N;refine zW<|vH [(4,vI y1),(5,vI end01)]<|zM<|yX ?_;obtain rfl:=zC N;exact xC ⟨_,_,(.tmp rfl (.tmp rfl ResV.nil)),zR,⟨_,_,rfl,rfl,rfl,rfl⟩⟩
def jF (s:Str) (at0:Int):Option (Int):=do
 let t20←(do
   if (decide (at0 ≥ (s.l.length:Int))) then
    pure true
   else
    let b←sidx s at0
    if (decide ((b.toNat:Int) < 105)) then
     pure true
    else
     let b1←sidx s at0
     pure (decide ((b1.toNat:Int) > 108))
     : Option Bool)
 if t20 then
  pure (-1)
 else
  let b2←sidx s at0
  pure (W ((W (b2.toNat:Int)) - 105))
theorem zFA:∀ s at0 r,jF s at0=some r→∀ {I:Imm} ,RT 223 [vT s.l,vI at0] I [] (xJ  r):=by
 intro s at0 r N I;unfold jF at N;refine zY (fn:=Tryz.f223) (c:=(bodyOf Tryz.f223)) Tryz.func223 rfl rfl ?_;rintro B - -;have H:=iS I;refine yF []<|yI<|yG ?_;obtain ⟨o0,ho0,hMc⟩:=zB N;refine yU (fun I' hs' m'=>∃ (t20:Bool),o0=t20∧I.le I'∧hs'=[]∧m'=[(0,vT s.l),(1,vI at0),(20,.bool t20)]) ?_ ?_
 · have H:=iS I;refine zQ<|yD 5 [] [(9,.bool (decide (at0 ≥ (s.l.length:Int))))] ?_;cases hc:(decide (at0 ≥ (s.l.length:Int))) with
   | true =>
    have hM0:=zP hc ho0
    try rw [hc]
    exact yC [] [(20,vY)]<|yT [(0,vT s.l),(1,vI at0),(20,vY)]<|zV (ct hM0 H)
   | false =>
    have hM01:=zL hc ho0
    try rw [hc]
    refine yD 7 [] [(10,vT s.l),(11,vI at0)] ?_;obtain ⟨b,hy,N⟩:=zB hM01;refine eT rfl rfl hy<|yD 11 [] [(15,.bool (decide ((b.toNat:Int) < 105)))] ?_;cases hc1:(decide ((b.toNat:Int) < 105)) with
    | true =>
     have hM02:=zP hc1 N
     try rw [hc1]
     exact yC [] [(20,vY)]<|yT [(0,vT s.l),(1,vI at0),(20,vY)]<|zV (ct hM02 H)
    | false =>
     have hM03:=zL hc1 N
     try rw [hc1]
     refine yD 13 [] [(16,vT s.l),(17,vI at0)] ?_;obtain ⟨b1,hy1,N⟩:=zB hM03;exact eT rfl rfl hy1<|yC [] [(20,.bool (decide ((b1.toNat:Int) > 108)))]<|yT [(0,vT s.l),(1,vI at0),(20,.bool (decide ((b1.toNat:Int) > 108)))]<|zV (ct N H)
 rintro I0 hs2 m2 ⟨t20,heq,le,rfl,rfl⟩;subst o0;refine zM<|yL hMc ?_ ?_
 · intro hc2 N;refine yF [(4,vI (-1))]<|xG<|zH ?_;obtain rfl:=zC N;exact wN
 intro hc2 N;refine zW<|xD<|yD 2 [] [(21,vT s.l),(22,vI at0)]<|bE N fun b2 hy2 N=>eT rfl rfl hy2<|yC [] [(4,vI (W ((W (b2.toNat:Int)) - 105)))]<|zM<|yX ?_;obtain rfl:=zC N;exact wN
def zCp (r:zA×Int):KT:=fun kk I' hs' v=>
  ∃ v0 v1,hs'=[]∧v=tupV [v0,v1]∧(∃ cs,v0=.agg ⟨cs⟩∧Rp.rep I' cs r.1)∧v1=.int .i64 r.2
def kO (a0:zA) (s:Str) (at0:Int):Option (zA×Int):=do
 let b2←sidx s at0
 let sign←(do
   if ((b2.toNat:Int) == 45) then
    pure (-1)
   else
    pure (id 1)
     : Option Int)
 let t27←(do
   let b3←sidx s at0
   if ((b3.toNat:Int) == 45) then
    pure true
   else
    let b4←sidx s at0
    pure ((b4.toNat:Int) == 43)
     : Option Bool)
 let at01←(do
   if t27 then
    pure (W (at0 + 1))
   else
    pure (id at0)
     : Option Int)
 let (y1,y2)←oR s at01
 let t51←(do
   if (decide (y2 > at01)) then
    if (decide (y2 < (s.l.length:Int))) then
     let b5←sidx s y2
     pure ((b5.toNat:Int) == 42)
    else
     pure false
   else
    pure false
     : Option Bool)
 let star←(do
   if t51 then
    pure (W (y2 + 1))
   else
    pure (id y2)
     : Option Int)
 let y3←jF s star
 let l←app 8 ([]:List Int) a0.Coefs
 let t75←(do
   if (decide (y3 ≥ 0)) then
    if (decide (star > y2)) then
     pure true
    else
     pure (y2 == at01)
   else
    pure false
     : Option Bool)
 if t75 then
  let x←idx l y3
  let x1←idx l y3
  let l1←pure (l.set y3.toNat (W (x + (W (sign * y1)))))
  pure ((zA.mk l1 a0.Const),(W (star + 1)))
 else
  if (y2 == at01) then
   pure (a0,(-1))
  else
   pure ((zA.mk l (W (a0.Const + (W (sign * y1))))),y2)
theorem zEN:∀ a0 s at0 r,kO a0 s at0=some r→∀ {I:Imm}{p c},(S4 I p a0.Coefs c)→RT 213 [vA (cAff a0 p c),vT s.l,vI at0] I [] (zCp  r):=by
 intro a0 s at0 r N I p c h;unfold kO at N;refine zY (fn:=Tryz.f213) (c:=(bodyOf Tryz.f213)) Tryz.func213 rfl rfl ?_;rintro B - -;have H:=iS I;refine yK<|uD (cAff a0 p c) ?_;intro b hb;refine wR [z0,vI 0] ?_;intro b1 hb1;refine yC [] []<|vH [(8,vI 1)]<|yI<|yK<|yD 2 [] [(14,vT s.l),(15,vI at0)]<|bE N fun b2 hy N=>eT rfl rfl hy<|yC [] [(17,.bool ((b2.toNat:Int) == 45))]<|zM ?_;obtain ⟨o0,ho0,hMc⟩:=zB N;refine yU (fun I' hs' m'=>∃ (sign:Int),o0=sign∧I.le I'∧hs'=[hB b1 [z0,vI 0],hB b (cAff a0 p c)]∧m'=[(1,vT s.l),(2,vI at0),(3,vP b 0),(6,vP b1 0),(8,vI sign)]) ?_ ?_
 · have H:=iS I;refine yL ho0 ?_ ?_
   · intro hc N;exact zQ<|yC [] [(8,vI (-1))]<|yT [(1,vT s.l),(2,vI at0),(3,vP b 0),(6,vP b1 0),(8,vI (-1))]<|zV (ct N H)
   intro hc N;exact zW<|yT [(1,vT s.l),(2,vI at0),(3,vP b 0),(6,vP b1 0),(8,vI 1)]<|zV (ct N H)
 rintro I0 hs2 m2 ⟨sign,heq,le,rfl,rfl⟩;subst o0;have h:=h.mono le;have H:=H.trans le;refine yI<|yG ?_;obtain ⟨o01,ho01,hMc1⟩:=zB hMc;refine yU (fun I' hs' m'=>∃ (t27:Bool),o01=t27∧I0.le I'∧hs'=[hB b1 [z0,vI 0],hB b (cAff a0 p c)]∧m'=[(1,vT s.l),(2,vI at0),(3,vP b 0),(6,vP b1 0),(8,vI sign),(27,.bool t27)]) ?_ ?_
 · have H:=iS I0;refine zQ<|yD 2 [] [(18,vT s.l),(19,vI at0)] ?_;obtain ⟨b3,hy1,N⟩:=zB ho01;refine eT rfl rfl hy1<|yD 5 [] [(22,.bool ((b3.toNat:Int) == 45))] ?_;cases hc1:((b3.toNat:Int) == 45) with
   | true =>
    have hM0:=zP hc1 N
    try rw [hc1]
    exact yC [] [(27,vY)]<|yT [(1,vT s.l),(2,vI at0),(3,vP b 0),(6,vP b1 0),(8,vI sign),(27,vY)]<|zV (ct hM0 H)
   | false =>
    have hM01:=zL hc1 N
    try rw [hc1]
    refine yD 7 [] [(23,vT s.l),(24,vI at0)] ?_;obtain ⟨b4,hy2,N⟩:=zB hM01;exact eT rfl rfl hy2<|yC [] [(27,.bool ((b4.toNat:Int) == 43))]<|yT [(1,vT s.l),(2,vI at0),(3,vP b 0),(6,vP b1 0),(8,vI sign),(27,.bool ((b4.toNat:Int) == 43))]<|zV (ct N H)
 rintro I01 hs2 m2 ⟨t27,heq1,le1,rfl,rfl⟩;subst o01;have h:=h.mono le1;have H:=H.trans le1;refine zM ?_;obtain ⟨o02,ho02,hMc2⟩:=zB hMc1;refine yU (fun I' hs' m'=>∃ (at01:Int),o02=at01∧I01.le I'∧hs'=[hB b1 [z0,vI 0],hB b (cAff a0 p c)]∧m'=[(1,vT s.l),(2,vI at01),(3,vP b 0),(6,vP b1 0),(8,vI sign)]) ?_ ?_
 · have H:=iS I01;refine yL ho02 ?_ ?_
   · intro hc2 N;exact zQ<|yC [] [(2,vI (W (at0 + 1)))]<|yT [(1,vT s.l),(2,vI (W (at0 + 1))),(3,vP b 0),(6,vP b1 0),(8,vI sign)]<|zV (ct N H)
   intro hc2 N;exact zW<|yT [(1,vT s.l),(2,vI at0),(3,vP b 0),(6,vP b1 0),(8,vI sign)]<|zV (ct N H)
 rintro I02 hs2 m2 ⟨at01,heq2,le2,rfl,rfl⟩;subst o02;have h:=h.mono le2;have H:=H.trans le2;refine xD<|yD 2 [] [(31,vT s.l),(32,vI at01)] ?_;obtain ⟨⟨y1,y2⟩,hy3,N⟩:=zB hMc2;refine xT (zAH s at01 _ hy3 ) ?_;rintro I03 hs2 v2 k2 le3 - ⟨v0,v01,rfl,rfl,rfl,rfl⟩ -;have h:=h.mono le3;have H:=H.trans le3;refine yC [] [(9,vI y1),(10,vI y2)]<|vH [(11,vI y2)]<|yI<|yG ?_;obtain ⟨o03,ho03,hMc3⟩:=zB N;refine yU (fun I' hs' m'=>∃ (t51:Bool),o03=t51∧I03.le I'∧hs'=[hB b1 [z0,vI 0],hB b (cAff a0 p c)]∧m'=[(1,vT s.l),(2,vI at01),(3,vP b 0),(6,vP b1 0),(8,vI sign),(9,vI y1),(10,vI y2),(11,vI y2),(51,.bool t51)]) ?_ ?_
 · have H:=iS I03;refine zQ<|yD 4 [] [(40,.bool (decide (y2 > at01)))] ?_;cases hc3:(decide (y2 > at01)) with
   | true =>
    have hM02:=zP hc3 ho03
    try rw [hc3]
    refine yD 10 [] [(46,.bool (decide (y2 < (s.l.length:Int))))] ?_;cases hc4:(decide (y2 < (s.l.length:Int))) with
    | true =>
     have hM03:=zP hc4 hM02
     try rw [hc4]
     refine yD 12 [] [(47,vT s.l),(48,vI y2)] ?_;obtain ⟨b5,hy4,N⟩:=zB hM03;exact eT rfl rfl hy4<|yC [] [(51,.bool ((b5.toNat:Int) == 42))]<|yT [(1,vT s.l),(2,vI at01),(3,vP b 0),(6,vP b1 0),(8,vI sign),(9,vI y1),(10,vI y2),(11,vI y2),(51,.bool ((b5.toNat:Int) == 42))]<|zV (ct N H)
    | false =>
     have hM04:=zL hc4 hM02
     try rw [hc4]
     exact yC [] [(51,vF)]<|yT [(1,vT s.l),(2,vI at01),(3,vP b 0),(6,vP b1 0),(8,vI sign),(9,vI y1),(10,vI y2),(11,vI y2),(51,vF)]<|zV (ct hM04 H)
   | false =>
    have hM05:=zL hc3 ho03
    try rw [hc3]
    exact yC [] [(51,vF)]<|yT [(1,vT s.l),(2,vI at01),(3,vP b 0),(6,vP b1 0),(8,vI sign),(9,vI y1),(10,vI y2),(11,vI y2),(51,vF)]<|zV (ct hM05 H)
 rintro I04 hs2 m2 ⟨t51,heq3,le4,rfl,rfl⟩;subst o03;have h:=h.mono le4;have H:=H.trans le4;refine zM ?_;obtain ⟨o04,ho04,hMc4⟩:=zB hMc3;refine yU (fun I' hs' m'=>∃ (star:Int),o04=star∧I04.le I'∧hs'=[hB b1 [z0,vI 0],hB b (cAff a0 p c)]∧m'=[(1,vT s.l),(2,vI at01),(3,vP b 0),(6,vP b1 0),(8,vI sign),(9,vI y1),(10,vI y2),(11,vI star)]) ?_ ?_
 · have H:=iS I04;refine yL ho04 ?_ ?_
   · intro hc5 N;exact zQ<|yC [] [(11,vI (W (y2 + 1)))]<|yT [(1,vT s.l),(2,vI at01),(3,vP b 0),(6,vP b1 0),(8,vI sign),(9,vI y1),(10,vI y2),(11,vI (W (y2 + 1)))]<|zV (ct N H)
   intro hc5 N;exact zW<|yT [(1,vT s.l),(2,vI at01),(3,vP b 0),(6,vP b1 0),(8,vI sign),(9,vI y1),(10,vI y2),(11,vI y2)]<|zV (ct N H)
 rintro I05 hs2 m2 ⟨star,heq4,le5,rfl,rfl⟩;subst o04;have h:=h.mono le5;have H:=H.trans le5;refine xD<|yD 2 [] [(54,vT s.l),(55,vI star)] ?_;obtain ⟨y3,hy5,N⟩:=zB hMc4;refine gB (zFA s star _ hy5 ) ?_;intro I06 le6;have h:=h.mono le6;have H:=H.trans le6;refine yC [] [(12,vI y3)]<|yI<|bE N fun l hy6 N=>wA [.x (fun I' v hx=>∃ b6,v=vS (some ⟨b6,0,none⟩) ([]:List Int) 0∧hx=[hO Int (vS (some ⟨b6,0,none⟩) ([]:List Int) 0) []]∧(RL I' [] ([]:List Int))),.p (vP b 0) [],.p (vS p a0.Coefs c) [1],.x (fun I' v hx=>∃ p1 c1 cs,v=vS p1 l c1∧hx=[hO Int (vS p1 l c1) cs]∧(RL I' cs l)),.p (vP b 1) [],.p (vI a0.Const) [1],.x (fun I' v hx=>∃ p11 c11 cs1,v=vA [vS p11 l c11,vI a0.Const]∧hx=[hO Int (vS p11 l c11) cs1]∧(RL I' cs1 l)),.x (fun I' v hx=>∃ b7,v=vP b7 0∧hx=[hB b7 [z0,vI 0]])] [[],[],[(1,false)],[(0,true),(2,false)],[],[(4,false)],[(3,true),(5,false)],[]] [hB b1 [z0,vI 0],hB b (cAff a0 p c)] [] [(6,true),(7,true)] (yB [0,1]) ?_ ?_
 · refine Ox ?_<|Op<|Op<|Ox ?_<|Op<|Op<|Ox ?_<|Ox ?_<|On
   · intro I1 hf le1;refine yM []<|xY [] Int ?_;intro b6 hb2;have h4:RL I1 [] ([]:List Int):=rfl;exact yO [hO Int (vS (some ⟨b6,0,none⟩) ([]:List Int) 0) []] iR ⟨_,rfl,rfl,h4⟩
   · intro I1 hf le1;refine zF ?_;rintro _ _ ⟨b6,rfl,rfl,h4⟩;refine yM [(57,vS (some ⟨b6,0,none⟩) ([]:List Int) 0),(59,vS p a0.Coefs c)] ?_;have h:=h.mono le1;obtain ⟨ccs,k0,k01⟩:=h;have h:SL I1 (vS p a0.Coefs c) a0.Coefs:=⟨_,k0,k01⟩;exact pG 3 1 0 rfl rfl rfl h4 (.inl k0) k01 hy6 fun p1 c1 cs h5=>uC (hs':=(hO Int (vS p1 l c1) cs::hB b1 [z0,vI 0]::hB b (cAff a0 p c)::hf)) rfl<|yO [hO Int (vS p1 l c1) cs] iR ⟨_,_,_,rfl,rfl,h5⟩
   · intro I1 hf le1;refine zF ?_;rintro _ _ ⟨p1,c1,cs,rfl,rfl,h5⟩;exact yM [(60,vS p1 l c1),(62,vI a0.Const)]<|uS 7 [(63,vA [vS p1 l c1,vI a0.Const])]<|yO [hO Int (vS p1 l c1) cs] iR ⟨_,_,_,rfl,rfl,h5⟩
   intro I1 hf le1;refine yM []<|wR [z0,vI 0] ?_;intro b7 hb3;exact yO [hB b7 [z0,vI 0]] iR ⟨_,rfl,rfl⟩
 intro I07 le7;refine zF ?_;rintro _ _ ⟨p11,c11,cs1,rfl,rfl,h51⟩;refine zF ?_;rintro _ _ ⟨b7,rfl,rfl⟩;refine yM [(2,vI at01),(3,vP b 0),(6,vP b1 0),(8,vI sign),(9,vI y1),(10,vI y2),(11,vI star),(12,vI y3),(13,vP b7 0),(63,vA [vS p11 l c11,vI a0.Const])] ?_;have h:=h.mono le7;have H:=H.trans le7;refine xE 0 [vS p11 l c11,vI a0.Const] [hB b7 [vS p11 l c11,vI a0.Const],hO Int (vS p11 l c11) cs1,hB b1 [z0,vI 0],hB b (cAff a0 p c)] rfl rfl rfl rfl<|yH rfl<|yI<|yG ?_;obtain ⟨o05,ho05,hMc5⟩:=zB N;refine yU (fun I' hs' m'=>∃ (t75:Bool),o05=t75∧I07.le I'∧hs'=[hB b7 [vS p11 l c11,vI a0.Const],hO Int (vS p11 l c11) cs1,hB b1 [z0,vI 0],hB b (cAff a0 p c)]∧m'=[(2,vI at01),(3,vP b 0),(6,vP b1 0),(8,vI sign),(9,vI y1),(10,vI y2),(11,vI star),(12,vI y3),(13,vP b7 0),(75,.bool t75)]) ?_ ?_
 · have H:=iS I07;refine zQ<|yD 3 [] [(66,.bool (decide (y3 ≥ 0)))] ?_;cases hc6:(decide (y3 ≥ 0)) with
   | true =>
    have hM06:=zP hc6 ho05
    try rw [hc6]
    refine yD 7 [] [(70,.bool (decide (star > y2)))] ?_;cases hc7:(decide (star > y2)) with
    | true =>
     have hM07:=zP hc7 hM06
     try rw [hc7]
     exact yC [] [(75,vY)]<|yT [(2,vI at01),(3,vP b 0),(6,vP b1 0),(8,vI sign),(9,vI y1),(10,vI y2),(11,vI star),(12,vI y3),(13,vP b7 0),(75,vY)]<|zV (ct hM07 H)
    | false =>
     have hM08:=zL hc7 hM06
     try rw [hc7]
     exact yC [] [(75,.bool (y2 == at01))]<|yT [(2,vI at01),(3,vP b 0),(6,vP b1 0),(8,vI sign),(9,vI y1),(10,vI y2),(11,vI star),(12,vI y3),(13,vP b7 0),(75,.bool (y2 == at01))]<|zV (ct hM08 H)
   | false =>
    have hM09:=zL hc6 ho05
    try rw [hc6]
    exact yC [] [(75,vF)]<|yT [(2,vI at01),(3,vP b 0),(6,vP b1 0),(8,vI sign),(9,vI y1),(10,vI y2),(11,vI star),(12,vI y3),(13,vP b7 0),(75,vF)]<|zV (ct hM09 H)
 rintro I08 hs2 m2 ⟨t75,heq5,le8,rfl,rfl⟩;subst o05;have h51:=iM le8 h51;have h:=h.mono le8;refine zM<|yL hMc5 ?_ ?_
 · intro hc8 N;refine yG<|bE N fun x hy7 N=>wA [.p (vP b7 0) [],.p (vS p11 l c11) [0],.p (vI y3) [],.p (vP b7 0) [],.p (vS p11 l c11) [0],.p (vI y3) [],.x (fun I' v hx=>∃ ad,v=.pointer (some ad)∧hx=[]∧(AtO (vS p11 l c11) (Rp.sz Int) y3.toNat ad)∧((cs1.drop (y3.toNat * Rp.sz Int)).take (Rp.sz Int)=[vI x])),.q (vI x),.p (vI sign) [],.p (vI y1) [],.p (vI (W (sign * y1))) [],.p (vI (W (x + (W (sign * y1))))) []] [[],[(0,false)],[],[],[(3,false)],[],[(4,false),(5,false)],[(6,false)],[],[],[(8,false),(9,false)],[(7,false),(10,false)]] [hB b7 [vS p11 l c11,vI a0.Const],hO Int (vS p11 l c11) cs1,hB b1 [z0,vI 0],hB b (cAff a0 p c)] [] [(1,false),(2,false),(11,false)] (yB [0,1,2,3]) ?_ ?_
   · refine Op<|Op<|Op<|Op<|Op<|Op<|Ox ?_<|Oq ?_<|Op<|Op<|Op<|Op<|On
     · intro I1 hf le1;refine yM [(80,vS p11 l c11),(81,vI y3)] ?_;have h51:=iM le1 h51;refine nT 1 rfl rfl rfl h51 hy7 ?_;intro ad ccs1 hat hcc hrep;obtain rfl:=hrep;exact yO [] iR ⟨_,rfl,rfl,hat,hcc⟩
     intro I1 hf le1;refine zF ?_;rintro _ _ ⟨ad,rfl,rfl,hat,hcc⟩;exact yM [(82,.pointer (some ad))]<|zCe 1 0 hat hcc [vI x] (vI x) rfl rfl<|yS iR
   intro I09 le9;refine yM [(6,vP b1 0),(11,vI star),(13,vP b7 0),(77,vS p11 l c11),(78,vI y3),(87,vI (W (x + (W (sign * y1)))))] ?_;have h51:=iM le9 h51;obtain ⟨x1,hy8,N⟩:=zB N;refine nT 1 rfl rfl rfl h51 hy8 ?_;intro ad1 ccs2 hat1 hcc1 hrep1;obtain rfl:=hrep1;obtain ⟨l1,hy9,N⟩:=zB N;refine qO (c:=[vI (W (x + (W (sign * y1))))]) (x':=(W (x + (W (sign * y1))))) 1 0 rfl rfl rfl hat1 rfl rfl hcc1 (by kernel_rfl) (by kernel_rfl) (by kernel_rfl) h51 hy8 (by kernel_rfl) rfl ?_;rw [show l.set y3.toNat (W (x + (W (sign * y1))))=l1 from zC hy9];intro cs2 h6 hl0;refine gA (m':=[(6,vP b1 0),(11,vI star),(13,vP b7 0),(77,vS p11 l c11),(78,vI y3),(87,vI (W (x + (W (sign * y1)))))]) ⟨rfl,rfl,rfl,rfl,rfl,rfl,trivial⟩<|zD3 (hs':=[hB b7 [vS p11 l1 c11,vI a0.Const],hO Int (vS p11 l1 c11) cs2,hB b1 [z0,vI 0],hB b (cAff a0 p c)]) (m':=[(6,vP b1 0),(11,vI star),(13,vP b7 0),(77,vS p11 l1 c11),(78,vI y3),(87,vI (W (x + (W (sign * y1)))))]) (by first | rfl | simp only [vS,hl0,List.nil_append,List.cons_append,List.set_cons_zero,List.set_cons_succ,List.eraseIdx_cons_zero,List.eraseIdx_cons_succ]) (by first | rfl | simp only [vS,hl0])<|yH rfl<|xD<|yD 3 [0] [(89,vA [vS p11 l1 c11,vI a0.Const]),(91,vI (W (star + 1)))]<|xE 2 [vS p11 l1 c11,vI a0.Const] [hB b7 [vS p11 l1 c11,vI a0.Const],hO Int (vS p11 l1 c11) cs2,hB b1 [vS p11 l1 c11,vI a0.Const],hB b (cAff a0 p c)] rfl rfl rfl rfl<|yC [] [(7,vI (W (star + 1)))]<|xG<|zH<|xP 1 rfl ?_;intro I010 le10 hl01;have h7:=SL.of_frozen hl01 le10 h6;obtain rfl:=zC N;exact xC ⟨_,_,(.cell 1 rfl rfl (by kernel_rfl) (.tmp rfl ResV.nil)),zR,⟨_,_,rfl,rfl,⟨_,rfl,(yQ ⟨_,rfl,h7⟩)⟩,rfl⟩⟩
 intro hc8 N;refine zW<|yI<|yF [(94,.bool (y2 == at01))]<|zM<|yL N ?_ ?_
 · intro hc9 N;refine yK<|yD 1 [3] [(95,vA (cAff a0 p c))]<|xE 2 (cAff a0 p c) [hB b7 [vS p11 l c11,vI a0.Const],hO Int (vS p11 l c11) cs1,hB b1 (cAff a0 p c),hB b (cAff a0 p c)] rfl rfl rfl rfl<|yC [] [(7,vI (-1))]<|xG<|zH ?_;obtain rfl:=zC N;exact xC ⟨_,_,(.cell 2 rfl rfl (by kernel_rfl) (.tmp rfl ResV.nil)),zR,⟨_,_,rfl,rfl,⟨_,rfl,(yQ ⟨_,rfl,h⟩)⟩,rfl⟩⟩
 intro hc9 N;refine zW<|xD<|yD 7 [0] [(101,vI (W (a0.Const + (W (sign * y1))))),(102,vP b7 1)]<|xE 0 [vS p11 l c11,vI (W (a0.Const + (W (sign * y1))))] [hB b7 [vS p11 l c11,vI (W (a0.Const + (W (sign * y1))))],hO Int (vS p11 l c11) cs1,hB b1 [z0,vI 0],hB b (cAff a0 p c)] rfl rfl rfl rfl<|yH rfl<|xD<|yD 2 [0] [(103,vA [vS p11 l c11,vI (W (a0.Const + (W (sign * y1))))]),(104,vI y2)]<|xE 2 [vS p11 l c11,vI (W (a0.Const + (W (sign * y1))))] [hB b7 [vS p11 l c11,vI (W (a0.Const + (W (sign * y1))))],hO Int (vS p11 l c11) cs1,hB b1 [vS p11 l c11,vI (W (a0.Const + (W (sign * y1))))],hB b (cAff a0 p c)] rfl rfl rfl rfl<|yC [] [(7,vI y2)]<|xG<|xP 1 rfl ?_;intro I011 le11 hl02;have h8:=SL.of_frozen hl02 le11 h51;obtain rfl:=zC N;exact xC ⟨_,_,(.cell 1 rfl rfl (by kernel_rfl) (.tmp rfl ResV.nil)),zR,⟨_,_,rfl,rfl,⟨_,rfl,(yQ ⟨_,rfl,h8⟩)⟩,rfl⟩⟩
def zU (r:Bool):KT:=fun kk I' hs' v=>
  ∃ v0,hs'=[]∧v=tupV [v0]∧v0=.bool r
def vK (n0:Int) (most:Int):Option (Bool):=do
 let t4←(do
   if (decide (n0 ≥ (W (0 - most)))) then
    pure (decide (n0 ≤ most))
   else
    pure false
     : Option Bool)
 pure (id t4)
theorem gU:∀ n0 most r,vK n0 most=some r→∀ {I:Imm} ,RT 179 [vI n0,vI most] I [] (zU  r):=by
 intro n0 most r N I;unfold vK at N;refine zY (fn:=Tryz.f179) (c:=(bodyOf Tryz.f179)) Tryz.func179 rfl rfl ?_;rintro B - -;have H:=iS I;refine yF []<|zM<|yG ?_;obtain ⟨o0,ho0,hMc⟩:=zB N;refine yU (fun I' hs' m'=>∃ (t4:Bool),o0=t4∧I.le I'∧hs'=[]∧m'=[(4,.bool t4)]) ?_ ?_
 · have H:=iS I;refine zQ<|yD 5 [] [(9,.bool (decide (n0 ≥ (W (0 - most)))))] ?_;cases hc:(decide (n0 ≥ (W (0 - most)))) with
   | true =>
    have hM0:=zP hc ho0
    try rw [hc]
    exact yC [] [(4,.bool (decide (n0 ≤ most)))]<|yT [(4,.bool (decide (n0 ≤ most)))]<|zV (ct hM0 H)
   | false =>
    have hM01:=zL hc ho0
    try rw [hc]
    exact yC [] [(4,vF)]<|yT [(4,vF)]<|zV (ct hM01 H)
 rintro I0 hs2 m2 ⟨t4,heq,le,rfl,rfl⟩;subst o0;refine zM<|yX ?_;obtain rfl:=zC hMc;exact wN
def wI (a0:zA) (i:Int):Option (Out Unit (Bool)):=do
 if (decide (i < (a0.Coefs.length:Int))) then
  let x←idx a0.Coefs i
  let y←vK x 9
  if (!y) then
   pure (.ret false)
  else
   wI a0 (W (i + 1))
 else
  pure (.done ())
 partial_fixpoint
theorem zA0 (a0:zA):∀ (i:Int) (o:Out Unit (Bool)),wI a0 i=some o→∀ {B}{I0 I:Imm}{Q p c}{b:Nat},I0.le I→(S4 I p a0.Coefs c)→NG Q→NO Q→(∀ (I':Imm) ,o=(.done ())→I0.le I'→T 27 B Q (.exit 0) I' [hB b (cAff a0 p c)] [(1,vP b 0)])→(∀ r I' hs' m',o=(.ret r)→I0.le I'→RS Tryz.prog Tryz.f204 B (zU  r) I' hs' m'→T 27 B Q .ret I' hs' m')→J Tryz.prog 27 B (nav (bodyOf Tryz.f204) [1,0,1,0]) Q I [hB b (cAff a0 p c)] [(1,vP b 0),(3,vI i)]:=by
 refine wI.partial_correctness a0 _ fun self ih i o N B I0 I Q p c b H h hg ho hx hr=>yZ hg ho<|yG<|yK<|yC [0] [(8,.bool (decide (i < (a0.Coefs.length:Int))))]<|zM<|yL N ?_ ?_
 · intro hc N;refine zW<|yI<|yP<|yK<|yD 3 [0] [(12,vS p a0.Coefs c),(13,vI i)]<|bE N fun x hy N=>xS rfl rfl h hy ?_;intro ad ccs hat hrep;obtain rfl:=hrep;refine xM 0 hat [vI x] (vI x) rfl<|bE N fun y hy1 N=>vJ (gU x 9 _ hy1 ) ?_;intro I0 le;have h:=h.mono le;have H:=H.trans le;refine yC [] [(17,.bool (!y))]<|zM<|yL N ?_ ?_
   · intro hc1 N;exact yF [(2,vF)]<|xG<|zZ<|zH<|zH<|hr _ _ _ _ (zC N).symm H ⟨_,_,(.tmp rfl ResV.nil),zR,⟨_,rfl,rfl,rfl⟩⟩
   intro hc1 N;exact zW<|zT<|zM<|zQ<|yC [] [(3,vI (W (i + 1)))]<|yY<|vE [(1,vP b 0),(3,vI (W (i + 1)))]<|ih (W (i + 1)) _ N H h hg ho hx hr
 intro hc N;exact vW<|yT [(1,vP b 0)]<|hx _  (zC N).symm H
def vX (a0:zA):Option (Bool):=do
 match←wI a0 0 with
 | .ret r0=>pure r0
 | .done _ =>
  let t2←(do
    if ((a0.Coefs.length:Int) == 4) then
     let y1←vK a0.Const 99
     pure (id y1)
    else
     pure false
      : Option Bool)
  pure (id t2)
theorem nR:∀ a0 r,vX a0=some r→∀ {I:Imm}{p c},(S4 I p a0.Coefs c)→RT 204 [vA (cAff a0 p c)] I [] (zU  r):=by
 intro a0 r N I p c h;unfold vX at N;refine zY (fn:=Tryz.f204) (c:=(bodyOf Tryz.f204)) Tryz.func204 rfl rfl ?_;rintro B - -;have H:=iS I;refine yK<|uD (cAff a0 p c) ?_;intro b hb;refine yC [] []<|yI<|yF [(3,vI 0)]<|wO<|vE [(1,vP b 0),(3,vI 0)] ?_;obtain ⟨o0,ho0,hMl⟩:=zB N;refine zA0 a0 0 o0 ho0 iR h (fun _ _ _ h=>h) (fun _ _ h=>h) ?_ ?_
 · intro I01  heq le1;subst o0;have H:=H.trans le1;refine zX<|zM<|yG ?_;obtain ⟨o01,ho01,hMc⟩:=zB hMl;refine yU (fun I' hs' m'=>∃ (t2:Bool),o01=t2∧I01.le I'∧hs'=[]∧m'=[(2,.bool t2)]) ?_ ?_
   · have H:=iS I01;refine zQ<|yD 5 [0] [(22,.bool ((a0.Coefs.length:Int) == 4))] ?_;cases hc2:((a0.Coefs.length:Int) == 4) with
     | true =>
      have hM0:=zP hc2 ho01
      try rw [hc2]
      refine yD 7 [0] [(24,vI a0.Const)] ?_;obtain ⟨y1,hy2,N⟩:=zB hM0;refine vJ (gU a0.Const 99 _ hy2 ) ?_;intro I03 le2;have H:=H.trans le2;exact yC [] [(2,.bool y1)]<|xU zR<|yT [(2,.bool y1)]<|zV (ct N H)
     | false =>
      have hM01:=zL hc2 ho01
      try rw [hc2]
      exact yC [] [(2,vF)]<|xU zR<|yT [(2,vF)]<|zV (ct hM01 H)
   rintro I02 hs2 m2 ⟨t2,heq1,le3,rfl,rfl⟩;subst o01;refine zM<|yX ?_;obtain rfl:=zC hMc;exact wN
 intro r0 I9 hs9 m9 heq9 le9 hrs9;subst heq9;refine zZ<|zH ?_;obtain rfl:=zC hMl;exact xC hrs9
def tF (r:Str):KT:=fun kk I' hs' v=>
  ∃ v0,hs'=[]∧v=tupV [v0]∧v0=.string ⟨⟨r.l⟩⟩
def qR (n01:Int) (out:Str):Option ((Int×Str)):=do
 if (decide (n01 > 9)) then
  let s1←cat (⟨([(u8 (W (48 + (n01.tmod 10))))]:List UInt8)⟩:Str) out
  qR (W (n01.tdiv 10)) s1
 else
  pure (n01,out)
 partial_fixpoint
theorem zCq :∀ (n01:Int) (out:Str) (o:(Int×Str)),qR n01 out=some o→∀ {B}{I0 I:Imm}{Q}  ,I0.le I→NG Q→NO Q→(∀ (I':Imm) (n02:Int) (out1:Str),o=(n02,out1)→I0.le I'→T 31 B Q (.exit 0) I' [] [(0,vI n02),(3,vT out1.l)])→J Tryz.prog 31 B (nav (bodyOf Tryz.f189) [1,1,1,1,0,0]) Q I [] [(0,vI n01),(3,vT out.l)]:=by
 refine qR.partial_correctness  _ fun self ih n01 out o N B I0 I Q H hg ho hx=>yZ hg ho<|yG<|yF [(13,.bool (decide (n01 > 9)))]<|zM<|yL N ?_ ?_
 · intro hc2 N;refine zW<|wO<|yK<|yD 3 [] [(16,vI (W (48 + (n01.tmod 10))))]<|zK9 (d:=17) (i:=(W (48 + (n01.tmod 10)))) rfl (by kernel_rfl)<|xY [.int .u8 ((u8 (W (48 + (n01.tmod 10)))).toNat:Int)] UInt8 ?_;intro b hb;have h1:RL I [.int .u8 ((u8 (W (48 + (n01.tmod 10)))).toNat:Int)] ([(u8 (W (48 + (n01.tmod 10))))]:List UInt8):=⟨[.int .u8 ((u8 (W (48 + (n01.tmod 10)))).toNat:Int)],_,rfl,rfl,rfl,rfl⟩;exact zIA (l:=([(u8 (W (48 + (n01.tmod 10))))]:List UInt8)) rfl rfl rfl rfl (by kernel_rfl) (by kernel_rfl) (.inr ⟨0,rfl⟩) h1<|yD 7 [] [(20,vT out.l)]<|bE N fun s1 hy2 N=>nU rfl hy2<|yC [] [(3,vT s1.l)]<|zM<|zQ<|yC [] [(0,vI (W (n01.tdiv 10)))]<|zT<|yY<|pK zR<|vE [(0,vI (W (n01.tdiv 10))),(3,vT s1.l)]<|ih (W (n01.tdiv 10)) s1 _ N H  hg ho hx
 intro hc2 N;exact vW<|yT [(0,vI n01),(3,vT out.l)]<|hx _ _ _ (zC N).symm H
def sW (n0:Int):Option (Str):=do
 if (decide (n0 < (-9223372036854775807))) then
  pure (⟨[45,57,50,50,51,51,55,50,48,51,54,56,53,52,55,55,53,56,48,56]⟩:Str)
 else
  if (decide (n0 < 0)) then
   let y←sW (W (0 - n0))
   let s←cat (⟨[45]⟩:Str) y
   pure (id s)
  else
   let (n02,out1)←qR n0 (⟨[]⟩:Str)
   let s2←cat (⟨([(u8 (W (48 + n02)))]:List UInt8)⟩:Str) out1
   pure (id s2)
 partial_fixpoint
theorem gD:∀ n0 r,sW n0=some r→∀ {I:Imm} ,RT 189 [vI n0] I [] (tF  r):=by
 refine sW.partial_correctness _ fun F_spec_l16Dec ih_spec_l16Dec n0 r N I=>zY (fn:=Tryz.f189) (c:=(bodyOf Tryz.f189)) Tryz.func189 rfl rfl ?_;rintro B - -;refine yF []<|yI<|yF [(5,.bool (decide (n0 < (-9223372036854775807))))]<|zM<|yL N ?_ ?_
 · intro hc N;refine yF [(2,vT ([45,57,50,50,51,51,55,50,48,51,54,56,53,52,55,55,53,56,48,56]))]<|xG<|zH ?_;obtain rfl:=zC N;exact wN
 intro hc N;refine zW<|yI<|yF [(7,.bool (decide (n0 < 0)))]<|zM<|yL N ?_ ?_
 · intro hc1 N;refine yK<|yD 2 [] [(9,vI (W (0 - n0)))]<|bE N fun y hy N=>xT (ih_spec_l16Dec (W (0 - n0)) _ hy ) ?_;rintro I0 hs2 v2 k2 le - ⟨v0,rfl,rfl,rfl⟩ -;obtain ⟨s,hy1,N⟩:=zB N;refine nU rfl hy1<|yC [] [(2,vT s.l)]<|xG<|zH ?_;obtain rfl:=zC N;exact wN
 intro hc1 N;refine zW<|vH [(3,vT ([]))]<|yI<|yP<|vE [(0,vI n0),(3,vT ([]))] ?_;obtain ⟨o0,ho0,hMl⟩:=zB N;refine zCq n0 (⟨[]⟩:Str) o0 ho0 iR  (fun _ _ _ h=>h) (fun _ _ h=>h) ?_;intro I01 n02 out1 heq le1;subst o0;refine zX<|xD<|yD 2 [] [(25,vI (W (48 + n02)))]<|zK9 (d:=26) (i:=(W (48 + n02))) rfl (by kernel_rfl)<|xY [.int .u8 ((u8 (W (48 + n02))).toNat:Int)] UInt8 ?_;intro b1 hb1;have h2:RL I01 [.int .u8 ((u8 (W (48 + n02))).toNat:Int)] ([(u8 (W (48 + n02)))]:List UInt8):=⟨[.int .u8 ((u8 (W (48 + n02))).toNat:Int)],_,rfl,rfl,rfl,rfl⟩;refine zIA (l:=([(u8 (W (48 + n02)))]:List UInt8)) rfl rfl rfl rfl (by kernel_rfl) (by kernel_rfl) (.inr ⟨0,rfl⟩) h2<|yD 6 [] [(29,vT out1.l)] ?_;obtain ⟨s2,hy3,N⟩:=zB hMl;refine nU rfl hy3<|yC [] [(2,vT s2.l)]<|zM<|yX ?_;obtain rfl:=zC N;exact wN
def mZ (n0:Int) (name:Str):Option (Str):=do
 let (n01,sign)←(do
   if (decide (n0 < 0)) then
    pure ((W (0 - n0)),(⟨[45]⟩:Str))
   else
    pure (n0,(⟨[43]⟩:Str))
     : Option (Int×Str))
 if (name.l == ([]:List UInt8)) then
  let y←sW n01
  let s←cat sign y
  pure (id s)
 else
  if (n01 == 1) then
   let s1←cat sign name
   pure (id s1)
  else
   let y1←sW n01
   let s2←cat sign y1
   let s3←cat s2 (⟨[42]⟩:Str)
   let s4←cat s3 name
   pure (id s4)
theorem zBG:∀ n0 name r,mZ n0 name=some r→∀ {I:Imm} ,RT 221 [vI n0,vT name.l] I [] (tF  r):=by
 intro n0 name r N I;unfold mZ at N;refine zY (fn:=Tryz.f221) (c:=(bodyOf Tryz.f221)) Tryz.func221 rfl rfl ?_;rintro B - -;have H:=iS I;refine yF []<|vH [(5,vT ([43]))]<|yI<|yF [(7,.bool (decide (n0 < 0)))]<|zM ?_;obtain ⟨o0,ho0,hMc⟩:=zB N;refine yU (fun I' hs' m'=>∃ (n01:Int) (sign:Str),o0=(n01,sign)∧I.le I'∧hs'=[]∧m'=[(0,vI n01),(1,vT name.l),(5,vT sign.l)]) ?_ ?_
 · have H:=iS I;refine yL ho0 ?_ ?_
   · intro hc N;exact yF [(5,vT ([45]))]<|zM<|zQ<|yC [] [(0,vI (W (0 - n0)))]<|yT [(0,vI (W (0 - n0))),(1,vT name.l),(5,vT ([45]))]<|zV ⟨_,_,(zC N).symm,H,rfl,rfl⟩
   intro hc N;exact zW<|yT [(0,vI n0),(1,vT name.l),(5,vT ([43]))]<|zV ⟨_,_,(zC N).symm,H,rfl,rfl⟩
 rintro I0 hs2 m2 ⟨n01,sign,heq,le,rfl,rfl⟩;subst o0;refine yI<|yF [(11,.bool (name.l == ([]:List UInt8)))]<|zM<|yL hMc ?_ ?_
 · intro hc1 N;refine yK<|yD 2 [] [(12,vT sign.l),(13,vI n01)]<|bE N fun y hy N=>xT (gD n01 _ hy ) ?_;rintro I01 hs2 v2 k2 le1 - ⟨v0,rfl,rfl,rfl⟩ -;obtain ⟨s,hy1,N⟩:=zB N;refine nU rfl hy1<|yC [] [(4,vT s.l)]<|xG<|zH ?_;obtain rfl:=zC N;exact wN
 intro hc1 N;refine zW<|yI<|yF [(17,.bool (n01 == 1))]<|zM<|yL N ?_ ?_
 · intro hc2 N;refine yK<|yD 2 [] [(18,vT sign.l),(19,vT name.l)]<|bE N fun s1 hy2 N=>nU rfl hy2<|yC [] [(4,vT s1.l)]<|xG<|zH ?_;obtain rfl:=zC N;exact wN
 intro hc2 N;refine zW<|xD<|yD 2 [] [(21,vT sign.l),(22,vI n01)]<|bE N fun y1 hy3 N=>xT (gD n01 _ hy3 ) ?_;rintro I02 hs2 v2 k2 le2 - ⟨v01,rfl,rfl,rfl⟩ -;obtain ⟨s2,hy4,N⟩:=zB N;refine nU rfl hy4<|bE N fun s3 hy5 N=>nU rfl hy5<|yD 6 [] [(26,vT name.l)]<|bE N fun s4 hy6 N=>nU rfl hy6<|yC [] [(4,vT s4.l)]<|zM<|yX ?_;obtain rfl:=zC N;exact wN
def qS (a0:zA) (out:Str) (i:Int):Option (Str):=do
 if (decide (i < (a0.Coefs.length:Int))) then
  let x←idx a0.Coefs i
  let out2←(do
    if (x != 0) then
     let x1←idx a0.Coefs i
     let s←sslc (⟨[105,106,107,108]⟩:Str) i (W (i + 1))
     let y←mZ x1 s
     let s1←cat out y
     pure (id s1)
    else
     pure (id out)
      : Option Str)
  qS a0 out2 (W (i + 1))
 else
  pure (id out)
 partial_fixpoint
theorem zCr (a0:zA):∀ (out:Str) (i:Int) (o:Str),qS a0 out i=some o→∀ {B}{I0 I:Imm}{Q p c}{b:Nat},I0.le I→(S4 I p a0.Coefs c)→NG Q→NO Q→(∀ (I':Imm) (out1:Str),o=out1→I0.le I'→T 46 B Q (.exit 0) I' [hB b (cAff a0 p c)] [(1,vP b 0),(3,vT out1.l)])→J Tryz.prog 46 B (nav (bodyOf Tryz.f211) [1,1,0,1,0]) Q I [hB b (cAff a0 p c)] [(1,vP b 0),(3,vT out.l),(4,vI i)]:=by
 refine qS.partial_correctness a0 _ fun self ih out i o N B I0 I Q p c b H h hg ho hx=>yZ hg ho<|yG<|yK<|yC [0] [(9,.bool (decide (i < (a0.Coefs.length:Int))))]<|zM<|yL N ?_ ?_
 · intro hc N;refine zW<|yI<|yP<|yK<|yD 3 [0] [(13,vS p a0.Coefs c),(14,vI i)]<|bE N fun x hy N=>xS rfl rfl h hy ?_;intro ad ccs hat hrep;obtain rfl:=hrep;refine xM 0 hat [vI x] (vI x) rfl<|yC [] [(17,.bool (x != 0))]<|zM ?_;obtain ⟨o0,ho0,hMc⟩:=zB N;refine yU (fun I' hs' m'=>∃ (out2:Str),o0=out2∧I.le I'∧hs'=[hB b (cAff a0 p c)]∧m'=[(1,vP b 0),(3,vT out2.l),(4,vI i)]) ?_ ?_
   · have H:=iS I;refine yL ho0 ?_ ?_
     · intro hc1 N;obtain ⟨x1,hy1,N⟩:=zB N;obtain ⟨s,hy2,N⟩:=zB N;obtain ⟨y,hy3,N⟩:=zB N;obtain ⟨s1,hy4,N⟩:=zB N;refine wA [.p (vT out.l) [],.p (vP b 0) [],.p (vS p a0.Coefs c) [0],.p (vI i) [],.x (fun I' v hx=>∃ ad1,v=.pointer (some ad1)∧hx=[]∧(At I' ad1 [vI x1])),.q (vI x1),.p (vI i) [],.p (vI i) [],.p (vI (W (i + 1))) [],.q (vT s.l),.q (vT y.l),.q (vT s1.l)] [[],[],[(1,false)],[],[(2,false),(3,false)],[(4,false)],[],[],[(7,false)],[(6,false),(8,false)],[(5,false),(9,false)],[(0,false),(10,false)]] [hB b (cAff a0 p c)] [] [(11,false)] (yB [0]) ?_ ?_
       · refine Op<|Op<|Op<|Op<|Ox ?_<|Oq ?_<|Op<|Op<|Op<|Oq ?_<|Oq ?_<|Oq ?_<|On
         · intro I1 hf le1;refine yM [(20,vS p a0.Coefs c),(21,vI i)] ?_;have h:=h.mono le1;refine xS rfl rfl h hy1 ?_;intro ad1 ccs1 hat1 hrep1;obtain rfl:=hrep1;exact yO [] iR ⟨_,rfl,rfl,hat1⟩
         · intro I1 hf le1;refine zF ?_;rintro _ _ ⟨ad1,rfl,rfl,hat1⟩;exact yM [(22,.pointer (some ad1))]<|xM 0 hat1 [vI x1] (vI x1) rfl<|yS iR
         · intro I1 hf le1;exact yM [(24,vI i),(26,vI (W (i + 1)))]<|zFh rfl hy2<|yS iR
         · intro I1 hf le1;refine yM [(23,vI x1),(27,vT s.l)] ?_;have H:=iS I1;refine xT (zBG x1 s _ hy3 ) ?_;rintro I01 hs2 v2 k2 le - ⟨v0,rfl,rfl,rfl⟩ -;have H:=H.trans le;exact yS H
         intro I1 hf le1;exact yM [(18,vT out.l),(28,vT y.l)]<|nU rfl hy4<|yS iR
       intro I02 le1;refine yM [(1,vP b 0),(4,vI i),(29,vT s1.l)] ?_;have H:=H.trans le1;exact yC [] [(3,vT s1.l)]<|yT [(1,vP b 0),(3,vT s1.l),(4,vI i)]<|zV (ct N H)
     intro hc1 N;exact zW<|yT [(1,vP b 0),(3,vT out.l),(4,vI i)]<|zV (ct N H)
   rintro I0 hs2 m2 ⟨out2,heq,le2,rfl,rfl⟩;subst o0;have h:=h.mono le2;have H:=H.trans le2;exact zT<|zM<|zQ<|yC [] [(4,vI (W (i + 1)))]<|yY<|vE [(1,vP b 0),(3,vT out2.l),(4,vI (W (i + 1)))]<|ih out2 (W (i + 1)) _ hMc H h hg ho hx
 intro hc N;exact vW<|yT [(1,vP b 0),(3,vT out.l)]<|hx _ _ (zC N).symm H
def nJ (a0:zA):Option (Str):=do
 let out1←qS a0 (⟨[]⟩:Str) 0
 let out3←(do
   if (a0.Const != 0) then
    let y1←mZ a0.Const (⟨[]⟩:Str)
    let s2←cat out1 y1
    pure (id s2)
   else
    pure (id out1)
     : Option Str)
 if (out3.l == ([]:List UInt8)) then
  pure (⟨[48]⟩:Str)
 else
  let s3←sslc out3 0 1
  if (s3.l == ([43]:List UInt8)) then
   let s4←sslc out3 1 (out3.l.length:Int)
   pure (id s4)
  else
   pure (id out3)
theorem eF:∀ a0 r,nJ a0=some r→∀ {I:Imm}{p c},(S4 I p a0.Coefs c)→RT 211 [vA (cAff a0 p c)] I [] (tF  r):=by
 intro a0 r N I p c h;unfold nJ at N;refine zY (fn:=Tryz.f211) (c:=(bodyOf Tryz.f211)) Tryz.func211 rfl rfl ?_;rintro B - -;have H:=iS I;refine yK<|uD (cAff a0 p c) ?_;intro b hb;refine yC [] []<|vH [(3,vT ([]))]<|yI<|yF [(4,vI 0)]<|wO<|vE [(1,vP b 0),(3,vT ([])),(4,vI 0)] ?_;obtain ⟨o01,ho01,hMl⟩:=zB N;refine zCr a0 (⟨[]⟩:Str) 0 o01 ho01 iR h (fun _ _ _ h=>h) (fun _ _ h=>h) ?_;intro I03 out1 heq1 le3;subst o01;have H:=H.trans le3;refine zX<|yI<|yK<|yC [0] [(32,.bool (a0.Const != 0))]<|zM ?_;obtain ⟨o02,ho02,hMc1⟩:=zB hMl;refine yU (fun I' hs' m'=>∃ (out3:Str),o02=out3∧I03.le I'∧hs'=[]∧m'=[(3,vT out3.l)]) ?_ ?_
 · have H:=iS I03;refine yL ho02 ?_ ?_
   · intro hc2 N;refine zQ<|yD 3 [0] [(33,vT out1.l),(35,vI a0.Const)]<|bE N fun y1 hy5 N=>xT (zBG a0.Const (⟨[]⟩:Str) _ hy5 ) ?_;rintro I05 hs2 v2 k2 le4 - ⟨v01,rfl,rfl,rfl⟩ -;have H:=H.trans le4;obtain ⟨s2,hy6,N⟩:=zB N;exact nU rfl hy6<|yC [] [(3,vT s2.l)]<|xU zR<|yT [(3,vT s2.l)]<|zV (ct N H)
   intro hc2 N;exact zW<|xU zR<|yT [(3,vT out1.l)]<|zV (ct N H)
 rintro I04 hs2 m2 ⟨out3,heq2,le5,rfl,rfl⟩;subst o02;refine yI<|yF [(39,.bool (out3.l == ([]:List UInt8)))]<|zM<|yL hMc1 ?_ ?_
 · intro hc3 N;refine yF [(2,vT ([48]))]<|xG<|zH ?_;obtain rfl:=zC N;exact wN
 intro hc3 N;refine zW<|yI<|yK<|yD 1 [] [(40,vT out3.l)]<|bE N fun s3 hy7 N=>zFh rfl hy7<|yC [] [(42,.bool (s3.l == ([43]:List UInt8)))]<|zM<|yL N ?_ ?_
 · intro hc4 N;refine yK<|yD 1 [] [(43,vT out3.l)]<|bE N fun s4 hy8 N=>zFh rfl hy8<|yC [] [(2,vT s4.l)]<|xG<|zH ?_;obtain rfl:=zC N;exact wN
 intro hc4 N;refine zW<|vH [(2,vT out3.l)]<|zM<|yX ?_;obtain rfl:=zC N;exact wN
def pX (a0:zA):Option (Str):=do
 let y←vX a0
 if (!y) then
  pure (⟨[]⟩:Str)
 else
  let y1←nJ a0
  pure (id y1)
theorem zBH:∀ a0 r,pX a0=some r→∀ {I:Imm}{p c},(S4 I p a0.Coefs c)→RT 214 [vA (cAff a0 p c)] I [] (tF  r):=by
 intro a0 r N I p c h;unfold pX at N;refine zY (fn:=Tryz.f214) (c:=(bodyOf Tryz.f214)) Tryz.func214 rfl rfl ?_;rintro B - -;refine yK<|uD (cAff a0 p c) ?_;intro b hb;refine yC [] []<|yI<|yK<|yD 1 [0] [(3,vA (cAff a0 p c))]<|bE N fun y hy N=>vJ (nR a0 _ hy h) ?_;intro I0 le;have h:=h.mono le;refine yC [] [(5,.bool (!y))]<|zM<|yL N ?_ ?_
 · intro hc N;refine yF [(2,vT ([]))]<|xG<|zH ?_;obtain rfl:=zC N;exact wN
 intro hc N;refine zW<|xD<|yD 1 [0] [(6,vA (cAff a0 p c))]<|bE N fun y1 hy1 N=>xT (eF a0 _ hy1 h) ?_;rintro I01 hs2 v2 k2 le1 - ⟨v01,rfl,rfl,rfl⟩ -;refine yC [] [(2,vT y1.l)]<|zM<|yX ?_;obtain rfl:=zC N;exact wN
def zAm (r:zA×Bool):KT:=fun kk I' hs' v=>
  ∃ v0 v1,hs'=[]∧v=tupV [v0,v1]∧(∃ cs,v0=.agg ⟨cs⟩∧Rp.rep I' cs r.1)∧v1=.bool r.2
def sT (text:Str) (at0:Int) (x:zA):Option (zA):=do
 let t18←(do
   if (decide (at0 ≥ 0)) then
    pure (decide (at0 < (text.l.length:Int)))
   else
    pure false
     : Option Bool)
 if t18 then
  let (y2,y3)←kO x text at0
  sT text y3 y2
 else
  pure (id x)
 partial_fixpoint
theorem zA1 (text:Str):∀ (at0:Int) (x:zA) (o:zA),sT text at0 x=some o→∀ {B}{I0 I:Imm}{Q}  {b:Nat}{b1:Nat}{p1 c1},I0.le I→(S4 I p1 x.Coefs c1)→NG Q→NO Q→(∀ (I':Imm) (x1:zA) (p2:Option Addr) (c2:Nat),o=x1→I0.le I'→(S4 I' p2 x1.Coefs c2)→T 32 B Q (.exit 0) I' [hB b1 (cAff x1 p2 c2),hB b [z0,vI 0]] [(0,vT text.l),(2,vP b 0),(4,vP b1 0)])→J Tryz.prog 32 B (nav (bodyOf Tryz.f200) [1,1,1,1,0,0]) Q I [hB b1 (cAff x p1 c1),hB b [z0,vI 0]] [(0,vT text.l),(2,vP b 0),(4,vP b1 0),(5,vI at0)]:=by
 refine sT.partial_correctness text _ fun self ih at0 x o N B I0 I Q b b1 p1 c1 H h2 hg ho hx=>yZ hg ho<|yG<|yG ?_;obtain ⟨o0,ho0,hMc⟩:=zB N;refine yU (fun I' hs' m'=>∃ (t18:Bool),o0=t18∧I.le I'∧hs'=[hB b1 (cAff x p1 c1),hB b [z0,vI 0]]∧m'=[(0,vT text.l),(2,vP b 0),(4,vP b1 0),(5,vI at0),(18,.bool t18)]) ?_ ?_
 · have H:=iS I;refine zQ<|yD 3 [] [(13,.bool (decide (at0 ≥ 0)))] ?_;cases hc1:(decide (at0 ≥ 0)) with
   | true =>
    have hM0:=zP hc1 ho0
    try rw [hc1]
    exact yC [] [(18,.bool (decide (at0 < (text.l.length:Int))))]<|yT [(0,vT text.l),(2,vP b 0),(4,vP b1 0),(5,vI at0),(18,.bool (decide (at0 < (text.l.length:Int))))]<|zV (ct hM0 H)
   | false =>
    have hM01:=zL hc1 ho0
    try rw [hc1]
    exact yC [] [(18,vF)]<|yT [(0,vT text.l),(2,vP b 0),(4,vP b1 0),(5,vI at0),(18,vF)]<|zV (ct hM01 H)
 rintro I02 hs2 m2 ⟨t18,heq,le2,rfl,rfl⟩;subst o0;have h2:=h2.mono le2;have H:=H.trans le2;refine zM<|yL hMc ?_ ?_
 · intro hc2 N;refine zW<|wO<|zQ<|yD 3 [0] [(20,vA (cAff x p1 c1)),(21,vT text.l),(22,vI at0)] ?_;obtain ⟨⟨y2,y3⟩,hy1,N⟩:=zB N;refine xT (zEN x text at0 _ hy1 h2) ?_;rintro I03 hs2 v2 k2 le3 - ⟨v0,v01,rfl,rfl,⟨cs1,rfl,h4⟩,rfl⟩ -;have H:=H.trans le3;obtain ⟨p3,c3,rfl,h6⟩:=yN h4;exact yD 7 [] [(24,vA (cAff y2 p3 c3)),(25,vI y3)]<|xE 0 (cAff y2 p3 c3) [hB b1 (cAff y2 p3 c3),hB b [z0,vI 0]] rfl rfl rfl rfl<|yC [] [(5,vI y3)]<|zT<|yY<|vE [(0,vT text.l),(2,vP b 0),(4,vP b1 0),(5,vI y3)]<|ih y3 y2 _ N H h6 hg ho hx
 intro hc2 N;exact vW<|yT [(0,vT text.l),(2,vP b 0),(4,vP b1 0)]<|hx _ _ _ _ (zC N).symm H h2
def qT (text:Str):Option (zA×Bool):=do
 let y←pH
 if (decide ((text.l.length:Int) > 40)) then
  pure ((zA.mk ([]:List Int) 0),false)
 else
  let x1←sT text 0 (zA.mk y.Coefs y.Const)
  let y4←pX x1
  if (!(y4.l == text.l)) then
   pure ((zA.mk ([]:List Int) 0),false)
  else
   pure (x1,true)
theorem fR:∀ text r,qT text=some r→∀ {I:Imm} ,RT 200 [vT text.l] I [] (zAm  r):=by
 intro text r N I;unfold qT at N;refine zY (fn:=Tryz.f200) (c:=(bodyOf Tryz.f200)) Tryz.func200 rfl rfl ?_;rintro B - -;refine yK<|wR [z0,vI 0] ?_;intro b hb;refine yC [] []<|xD<|bE N fun y hy N=>xT (nW  _ hy ) ?_;rintro I0 hs2 v2 k2 le - ⟨p,c,cs,rfl,rfl,h⟩ -;refine wR [z0,vI 0] ?_;intro b1 hb1;refine xE 0 (cAff y p c) [hB b1 (cAff y p c),hO Int (vS p y.Coefs c) cs,hB b [z0,vI 0]] rfl rfl rfl rfl<|yH rfl<|yI<|yF [(9,.bool (decide ((text.l.length:Int) > 40)))]<|zM<|yL N ?_ ?_
 · intro hc N;refine yK<|yD 1 [] [(10,vA [z0,vI 0])]<|xE 2 [z0,vI 0] [hB b1 (cAff y p c),hO Int (vS p y.Coefs c) cs,hB b [z0,vI 0]] rfl rfl rfl rfl<|yC [] [(3,vF)]<|xG<|zH ?_;obtain rfl:=zC N;exact xC ⟨_,_,(.cell 2 rfl rfl (by kernel_rfl) (.tmp rfl ResV.nil)),zR,⟨_,_,rfl,rfl,⟨_,rfl,(yQ ⟨_,rfl,(SL.nil _)⟩)⟩,rfl⟩⟩
 intro hc N;refine zW<|vH [(5,vI 0)]<|yI<|yP<|pL 1 rfl ?_;intro I01 le1 hl0;have h1:=SL.of_frozen hl0 le1 h;refine vE [(0,vT text.l),(2,vP b 0),(4,vP b1 0),(5,vI 0)] ?_;obtain ⟨o01,ho01,hMl⟩:=zB N;refine zA1 text 0 (zA.mk y.Coefs y.Const) o01 ho01 iR h1 (fun _ _ _ h=>h) (fun _ _ h=>h) ?_;intro I04 x1 p2 c2 heq1 le4 h3;subst o01;refine zX<|yI<|yK<|yD 1 [0] [(26,vA (cAff x1 p2 c2))] ?_;obtain ⟨y4,hy2,N⟩:=zB hMl;refine xT (zBH x1 _ hy2 h3) ?_;rintro I05 hs2 v2 k2 le5 - ⟨v03,rfl,rfl,rfl⟩ -;have h3:=h3.mono le5;refine yC [] [(29,.bool (!(y4.l == text.l)))]<|zM<|yL N ?_ ?_
 · intro hc3 N;refine yK<|yD 1 [] [(30,vA [z0,vI 0])]<|xE 1 [z0,vI 0] [hB b1 (cAff x1 p2 c2),hB b [z0,vI 0]] rfl rfl rfl rfl<|yC [] [(3,vF)]<|xG<|zH ?_;obtain rfl:=zC N;exact xC ⟨_,_,(.cell 1 rfl rfl (by kernel_rfl) (.tmp rfl ResV.nil)),zR,⟨_,_,rfl,rfl,⟨_,rfl,(yQ ⟨_,rfl,(SL.nil _)⟩)⟩,rfl⟩⟩
 intro hc3 N;refine zW<|xD<|yD 1 [0] [(31,vA (cAff x1 p2 c2))]<|xE 1 (cAff x1 p2 c2) [hB b1 (cAff x1 p2 c2),hB b (cAff x1 p2 c2)] rfl rfl rfl rfl<|yC [] [(3,vY)]<|zM<|yX ?_;obtain rfl:=zC N;exact xC ⟨_,_,(.cell 1 rfl rfl (by kernel_rfl) (.tmp rfl ResV.nil)),zR,⟨_,_,rfl,rfl,⟨_,rfl,(yQ ⟨_,rfl,h3⟩)⟩,rfl⟩⟩
def zAn (r:(List zA)):KT:=fun kk I' hs' v=>
  ∃ v0,hs'=[]∧v=tupV [v0]∧SL I' v0 r
def tN (y:(List Str)) (out:List zA) (i:Int):Option (List zA):=do
 let t18←(do
   if (decide (i < (y.length:Int))) then
    pure (decide (i ≤ 2))
   else
    pure false
     : Option Bool)
 if t18 then
  let x←idx y i
  let (y2,y3)←qT x
  let out2←app 32 out ([y2]:List zA)
  tN y out2 (W (i + 1))
 else
  pure (id out)
 partial_fixpoint
theorem zA2 (y:(List Str)):∀ (out:List zA) (i:Int) (o:List zA),tN y out i=some o→∀ {B}{I0 I:Imm}{Q p c p1 c1 cs},I0.le I→(S4 I p y c)→(RL I cs out)→NG Q→NO Q→(∀ (I':Imm) (out1:List zA) (p2:Option Addr) (c2:Nat) (cs1:List Value),o=out1→I0.le I'→(RL I' cs1 out1)→T 34 B Q (.exit 0) I' [hO zA (vS p2 out1 c2) cs1] [(3,vS p2 out1 c2)])→J Tryz.prog 34 B (nav (bodyOf Tryz.f199) [1,1,1,0,1,0]) Q I [hO zA (vS p1 out c1) cs] [(3,vS p1 out c1),(4,vS p y c),(5,vI i)]:=by
 refine tN.partial_correctness y _ fun self ih out i o N B I0 I Q p c p1 c1 cs H h1 h2 hg ho hx=>yZ hg ho<|yG<|yG ?_;obtain ⟨o0,ho0,hMc⟩:=zB N;refine yU (fun I' hs' m'=>∃ (t18:Bool),o0=t18∧I.le I'∧hs'=[hO zA (vS p1 out c1) cs]∧m'=[(3,vS p1 out c1),(4,vS p y c),(5,vI i),(18,.bool t18)]) ?_ ?_
 · have H:=iS I;refine zQ<|yD 5 [] [(15,.bool (decide (i < (y.length:Int))))] ?_;cases hc:(decide (i < (y.length:Int))) with
   | true =>
    have hM0:=zP hc ho0
    try rw [hc]
    exact yC [] [(18,.bool (decide (i ≤ 2)))]<|yT [(3,vS p1 out c1),(4,vS p y c),(5,vI i),(18,.bool (decide (i ≤ 2)))]<|zV (ct hM0 H)
   | false =>
    have hM01:=zL hc ho0
    try rw [hc]
    exact yC [] [(18,vF)]<|yT [(3,vS p1 out c1),(4,vS p y c),(5,vI i),(18,vF)]<|zV (ct hM01 H)
 rintro I01 hs2 m2 ⟨t18,heq,le1,rfl,rfl⟩;subst o0;have h2:=iM le1 h2;have h1:=h1.mono le1;have H:=H.trans le1;refine zM<|yL hMc ?_ ?_
 · intro hc1 N;refine zW<|yI<|yP<|yK<|yD 2 [] [(22,vS p y c),(23,vI i)]<|bE N fun x hy1 N=>xS rfl rfl h1 hy1 ?_;intro ad ccs hat hrep;obtain rfl:=hrep;refine xM 0 hat [vT x.l] (vT x.l) rfl ?_;obtain ⟨⟨y2,y3⟩,hy2,N⟩:=zB N;refine xT (fR x _ hy2 ) ?_;rintro I02 hs2 v2 k2 le2 - ⟨v01,v02,rfl,rfl,⟨cs2,rfl,h4⟩,rfl⟩ -;have h2:=iM le2 h2;have h1:=h1.mono le2;have H:=H.trans le2;obtain ⟨p3,c3,rfl,h6⟩:=yN h4;refine yD 8 [] [(27,vA (cAff y2 p3 c3)),(28,.bool y3)]<|wR [z0,vI 0] ?_;intro b1 hb1;refine xE 0 (cAff y2 p3 c3) [hB b1 (cAff y2 p3 c3),hO zA (vS p1 out c1) cs] rfl rfl rfl rfl<|yC [] []<|zM<|zQ<|yD 2 [0] [(29,vS p1 out c1),(30,vA (cAff y2 p3 c3))]<|xY (cAff y2 p3 c3) zA ?_;intro b2 hb2;have h7:RL I02 (cAff y2 p3 c3) ([y2]:List zA):=⟨(cAff y2 p3 c3),_,rfl,rfl,(yQ ⟨_,rfl,h6⟩),rfl⟩;obtain ⟨out2,hy3,N⟩:=zB N;exact pG 44 2 2 rfl rfl rfl h2 (.inr ⟨0,rfl⟩) h7 hy3 fun p4 c4 cs3 h8=>sU (yB [1,2] (hs':=[hB b1 (cAff y2 p3 c3),hO zA (vS p4 out2 c4) cs3]))<|yC [] [(3,vS p4 out2 c4)]<|zT<|zM<|zQ<|yC [] [(5,vI (W (i + 1)))]<|yY<|pK (yA [1] rfl (by decide))<|vE [(3,vS p4 out2 c4),(4,vS p y c),(5,vI (W (i + 1)))]<|ih out2 (W (i + 1)) _ N H h1 h8 hg ho hx
 intro hc1 N;exact vW<|yT [(3,vS p1 out c1)]<|hx _ _ _ _ _ (zC N).symm H h2
def rI (text:Str):Option ((List zA)):=do
 let y←nI text (44:UInt8)
 let out1←tN y ([]:List zA) 0
 pure (id out1)
theorem jC:∀ text r,rI text=some r→∀ {I:Imm} ,RT 199 [vT text.l] I [] (zAn  r):=by
 intro text r N I;unfold rI at N;refine zY (fn:=Tryz.f199) (c:=(bodyOf Tryz.f199)) Tryz.func199 rfl rfl ?_;rintro B - -;refine yF []<|xD<|xY [] zA ?_;intro b hb;have h:RL I [] ([]:List zA):=rfl;refine yC [] [(3,vS (some ⟨b,0,none⟩) ([]:List zA) 0)]<|xD<|yD 1 [] [(9,vT text.l)]<|bE N fun y hy N=>xT (eE text (44:UInt8) _ hy ) ?_;rintro I0 hs2 v2 k2 le - ⟨v0,rfl,rfl,h1⟩ -;have h:=iM le h;obtain ⟨p,c,rfl⟩:=h1.form;refine yC [] [(4,vS p y c)]<|yI<|yF [(5,vI 0)]<|wO<|vE [(3,vS (some ⟨b,0,none⟩) ([]:List zA) 0),(4,vS p y c),(5,vI 0)] ?_;obtain ⟨o01,ho01,hMl⟩:=zB N;refine zA2 y ([]:List zA) 0 o01 ho01 iR h1 h (fun _ _ _ h=>h) (fun _ _ h=>h) ?_;intro I03 out1 p2 c2 cs1 heq1 le3 h3;subst o01;refine zX<|vH [(2,vS p2 out1 c2)]<|xG<|xP 0 rfl ?_;intro I04 le4 hl0;have h9:=SL.of_frozen hl0 le4 h3;obtain rfl:=zC hMl;exact xC ⟨_,_,(.tmp rfl ResV.nil),zR,⟨_,rfl,rfl,h9⟩⟩
def zAI (r:zJ×Int):KT:=fun kk I' hs' v=>
  ∃ v0 v1,hs'=[]∧v=tupV [v0,v1]∧(∃ cs,v0=.agg ⟨cs⟩∧Rp.rep I' cs r.1)∧v1=.int .i64 r.2
def rM (s:Str) (at0:Int):Option (zJ×Int):=do
 let y←nX s at0 (93:UInt8)
 let t20←(do
   if (decide (y < (W (at0 + 2)))) then
    pure true
   else
    let b1←sidx s (W (at0 + 1))
    pure ((b1.toNat:Int) != 91)
     : Option Bool)
 if t20 then
  pure ((zJ.mk (⟨[]⟩:Str) ([]:List zA)),(-1))
 else
  let s1←sslc s at0 (W (at0 + 1))
  let s2←sslc s (W (at0 + 2)) y
  let y1←rI s2
  pure ((zJ.mk s1 y1),(W (y + 1)))
theorem gQ:∀ s at0 r,rM s at0=some r→∀ {I:Imm} ,RT 174 [vT s.l,vI at0] I [] (zAI  r):=by
 intro s at0 r N I;unfold rM at N;refine zY (fn:=Tryz.f174) (c:=(bodyOf Tryz.f174)) Tryz.func174 rfl rfl ?_;rintro B - -;have H:=iS I;refine yK<|wR [vT ([]),z0] ?_;intro b hb;refine yC [] []<|xD<|yD 2 [] [(7,vT s.l),(8,vI at0)]<|bE N fun y hy N=>gB (zAi s at0 (93:UInt8) _ hy ) ?_;intro I0 le;have H:=H.trans le;refine yC [] [(6,vI y)]<|yI<|yG ?_;obtain ⟨o0,ho0,hMc⟩:=zB N;refine yU (fun I' hs' m'=>∃ (t20:Bool),o0=t20∧I0.le I'∧hs'=[hB b [vT ([]),z0]]∧m'=[(0,vT s.l),(1,vI at0),(4,vP b 0),(6,vI y),(20,.bool t20)]) ?_ ?_
 · have H:=iS I0;refine zQ<|yD 5 [] [(14,.bool (decide (y < (W (at0 + 2)))))] ?_;cases hc:(decide (y < (W (at0 + 2)))) with
   | true =>
    have hM0:=zP hc ho0
    try rw [hc]
    exact yC [] [(20,vY)]<|yT [(0,vT s.l),(1,vI at0),(4,vP b 0),(6,vI y),(20,vY)]<|zV (ct hM0 H)
   | false =>
    have hM01:=zL hc ho0
    try rw [hc]
    refine yD 8 [] [(15,vT s.l),(17,vI (W (at0 + 1)))] ?_;obtain ⟨b1,hy1,N⟩:=zB hM01;exact eT rfl rfl hy1<|yC [] [(20,.bool ((b1.toNat:Int) != 91))]<|yT [(0,vT s.l),(1,vI at0),(4,vP b 0),(6,vI y),(20,.bool ((b1.toNat:Int) != 91))]<|zV (ct N H)
 rintro I01 hs2 m2 ⟨t20,heq,le1,rfl,rfl⟩;subst o0;have H:=H.trans le1;refine zM<|yL hMc ?_ ?_
 · intro hc1 N;refine yK<|yD 1 [] [(21,vA [vT ([]),z0])]<|xE 0 [vT ([]),z0] [hB b [vT ([]),z0]] rfl rfl rfl rfl<|yC [] [(5,vI (-1))]<|xG<|zH ?_;obtain rfl:=zC N;exact xC ⟨_,_,(.cell 0 rfl rfl (by kernel_rfl) (.tmp rfl ResV.nil)),zR,⟨_,_,rfl,rfl,⟨_,rfl,(oF ⟨_,rfl,(SL.nil _)⟩)⟩,rfl⟩⟩
 intro hc1 N;refine zW<|zM<|yG ?_;obtain ⟨s1,hy2,N⟩:=zB N;obtain ⟨s2,hy3,N⟩:=zB N;obtain ⟨y1,hy4,N⟩:=zB N;refine wA [.p (vT s.l) [],.p (vI at0) [],.p (vI at0) [],.p (vI (W (at0 + 1))) [],.q (vT s1.l),.p (vT s.l) [],.p (vI at0) [],.p (vI (W (at0 + 2))) [],.p (vI y) [],.q (vT s2.l),.x (fun I' v hx=>∃ p c,v=vS p y1 c∧hx=[]∧(S4 I' p y1 c)),.x (fun I' v hx=>∃ p1 c1,v=vA [vT s1.l,vS p1 y1 c1]∧hx=[]∧(S4 I' p1 y1 c1)),.p (vI y) [],.p (vI (W (y + 1))) [],.x (fun I' v hx=>∃ p11 c11,hx=[hB b [vT s1.l,vS p11 y1 c11]]∧(S4 I' p11 y1 c11))] [[],[],[],[(2,false)],[(0,false),(1,false),(3,false)],[],[],[(6,false)],[],[(5,false),(7,false),(8,false)],[(9,false)],[(4,false),(10,false)],[],[(12,false)],[(11,false),(16,true)]] [] [[hB b [vT ([]),z0]]] [(13,false),(14,true)] (yB [0]) ?_ ?_
 · refine Op<|Op<|Op<|Op<|Oq ?_<|Op<|Op<|Op<|Op<|Oq ?_<|Ox ?_<|Ox ?_<|Op<|Op<|Ox ?_<|On
   · intro I1 hf le1;exact yM [(22,vT s.l),(23,vI at0),(25,vI (W (at0 + 1)))]<|zFh rfl hy2<|yS iR
   · intro I1 hf le1;exact yM [(27,vT s.l),(29,vI (W (at0 + 2))),(30,vI y)]<|zFh rfl hy3<|yS iR
   · intro I1 hf le1;refine yM [(31,vT s2.l)] ?_;have H:=iS I1;refine xT (jC s2 _ hy4 ) ?_;rintro I02 hs2 v2 k2 le2 - ⟨v01,rfl,rfl,h1⟩ -;have H:=H.trans le2;obtain ⟨p,c,rfl⟩:=h1.form;exact yO [] H ⟨_,_,rfl,rfl,h1⟩
   · intro I1 hf le1;refine zF ?_;rintro _ _ ⟨rfl,rfl⟩;refine zF ?_;rintro _ _ ⟨p,c,rfl,rfl,h1⟩;exact yM [(26,vT s1.l),(32,vS p y1 c)]<|uS 12 [(33,vA [vT s1.l,vS p y1 c])]<|yO [] iR ⟨_,_,rfl,rfl,h1⟩
   intro I1 hf le1;refine zF ?_;rintro _ _ ⟨p1,c1,rfl,rfl,h11⟩;refine zF ?_;rintro _ _ rfl;refine yM [(4,vP b 0),(33,vA [vT s1.l,vS p1 y1 c1])] ?_;have H:=iS I1;exact xE 0 [vT s1.l,vS p1 y1 c1] (hB b [vT s1.l,vS p1 y1 c1]::hf) rfl rfl rfl rfl<|zEp (hx:=[hB b [vT s1.l,vS p1 y1 c1]]) rfl H rfl (zGw (v:=undef)) ⟨_,_,rfl,h11⟩
 intro I03 le3;refine zF ?_;rintro _ _ ⟨rfl,rfl⟩;refine zF ?_;rintro _ _ ⟨p11,c11,rfl,h111⟩;refine yM [(4,vP b 0),(35,vI (W (y + 1)))] ?_;refine yC [] [(5,vI (W (y + 1)))]<|zM<|yX ?_;obtain rfl:=zC N;exact xC ⟨_,_,(.cell 0 rfl rfl (by kernel_rfl) (.tmp rfl ResV.nil)),zR,⟨_,_,rfl,rfl,⟨_,rfl,(oF ⟨_,rfl,h111⟩)⟩,rfl⟩⟩
def gE (r:zG×Int):KT:=fun kk I' hs' v=>
  ∃ v0 v1,hs'=[]∧v=tupV [v0,v1]∧(∃ cs,v0=.agg ⟨cs⟩∧Rp.rep I' cs r.1)∧v1=.int .i64 r.2
mutual
def kQ (s:Str) (at0:Int) (levels:Int):Option (zG×Int):=do
 let (y1,y2)←rV (same s) (same at0) (same levels)
 let t27←(do
   if (decide (y2 < 0)) then
    pure true
   else
    pure (decide (y2 ≥ (s.l.length:Int)))
     : Option Bool)
 if t27 then
  pure ((zG.mk 0 0 (zA.mk ([]:List Int) 0) (zJ.mk (⟨[]⟩:Str) ([]:List zA)) ([]:List zG)),(-1))
 else
  let b2←sidx s y2
  let kind←(do
    if ((b2.toNat:Int) == 45) then
     pure (id 5)
    else
     let kind1←(do
       if ((b2.toNat:Int) == 42) then
        pure (id 6)
       else
        pure (id 4)
         : Option Int)
     pure (id kind1)
      : Option Int)
  let (y4,y5)←rV (same s) (W (y2 + 1)) (same levels)
  let t51←(do
    if (decide (y5 < 0)) then
     pure true
    else
     pure (decide (y5 ≥ (s.l.length:Int)))
      : Option Bool)
  if t51 then
   pure ((zG.mk 0 0 (zA.mk ([]:List Int) 0) (zJ.mk (⟨[]⟩:Str) ([]:List zA)) ([]:List zG)),(-1))
  else
   pure ((zG.mk kind 0 (zA.mk ([]:List Int) 0) (zJ.mk (⟨[]⟩:Str) ([]:List zA)) ([y1,y4]:List zG)),(W (y5 + 1)))
 partial_fixpoint
def rV (s:Str) (at0:Int) (levels:Int):Option (zG×Int):=do
 let t26←(do
   if (decide (levels < 1)) then
    pure true
   else
    if (decide (at0 < 0)) then
     pure true
    else
     pure (decide (at0 ≥ (s.l.length:Int)))
     : Option Bool)
 if t26 then
  pure ((zG.mk 0 0 (zA.mk ([]:List Int) 0) (zJ.mk (⟨[]⟩:Str) ([]:List zA)) ([]:List zG)),(-1))
 else
  let b1←sidx s at0
  if ((b1.toNat:Int) == 123) then
   let y←nX s at0 (125:UInt8)
   if (decide (y < 0)) then
    pure ((zG.mk 0 0 (zA.mk ([]:List Int) 0) (zJ.mk (⟨[]⟩:Str) ([]:List zA)) ([]:List zG)),(-1))
   else
    let s1←sslc s (W (at0 + 1)) y
    let (y2,y3)←qT s1
    pure ((zG.mk 2 0 y2 (zJ.mk (⟨[]⟩:Str) ([]:List zA)) ([]:List zG)),(W (y + 1)))
  else
   let t52←(do
     let b3←sidx s at0
     if (decide ((b3.toNat:Int) ≥ 65)) then
      let b4←sidx s at0
      pure (decide ((b4.toNat:Int) ≤ 68))
     else
      pure false
       : Option Bool)
   if t52 then
    let (y5,y6)←rM s at0
    pure ((zG.mk 3 0 (zA.mk ([]:List Int) 0) y5 ([]:List zG)),y6)
   else
    let b6←sidx s at0
    if ((b6.toNat:Int) == 40) then
     let (y8,y9)←kQ (same s) (W (at0 + 1)) (W (levels - 1))
     pure (y8,y9)
    else
     let (y11,y12)←oR s at0
     if (y12 == at0) then
      pure ((zG.mk 0 0 (zA.mk ([]:List Int) 0) (zJ.mk (⟨[]⟩:Str) ([]:List zA)) ([]:List zG)),(-1))
     else
      pure ((zG.mk 1 y11 (zA.mk ([]:List Int) 0) (zJ.mk (⟨[]⟩:Str) ([]:List zA)) ([]:List zG)),y12)
 partial_fixpoint
end
theorem zDd:(∀ (s:Str) (at0:Int) (levels:Int) r,kQ s at0 levels=some r→∀ {I:Imm} ,RT 201 [vT s.l,vI at0,vI levels] I [] (gE  r))∧(∀ (s:Str) (at0:Int) (levels:Int) r,rV s at0 levels=some r→∀ {I:Imm} ,RT 175 [vT s.l,vI at0,vI levels] I [] (gE  r)):=by
  refine kQ.mutual_partial_correctness _ _ ?_ ?_
  · intro F_spec_l3Parse ih_spec_l3Parse s at0 levels r N I;refine zY (fn:=Tryz.f201) (c:=(bodyOf Tryz.f201)) Tryz.func201 rfl rfl ?_;rintro B - -;have H:=iS I;refine yK<|wR zExpr ?_;intro b hb;refine yC [] []<|xD<|yD 3 [] [(14,vT s.l),(15,vI at0),(16,vI levels)] ?_;obtain ⟨⟨y1,y2⟩,hy,N⟩:=zB N;refine xT (ih_spec_l3Parse s at0 levels _ hy ) ?_;rintro I0 hs2 v2 k2 le - ⟨v0,v01,rfl,rfl,⟨cs,rfl,h⟩,rfl⟩ -;have H:=H.trans le;obtain ⟨p,c,p1,c1,p2,c2,rfl,h2,h3,h4⟩:=xV h;refine yD 7 [] [(18,vA (cExpr y1 p c p1 c1 p2 c2)),(19,vI y2)]<|wR zExpr ?_;intro b1 hb1;refine xE 0 (cExpr y1 p c p1 c1 p2 c2) [hB b1 (cExpr y1 p c p1 c1 p2 c2),hB b zExpr] rfl rfl rfl rfl<|yC [] [(9,vI y2)]<|yI<|yG ?_;obtain ⟨o0,ho0,hMc⟩:=zB N;refine yU (fun I' hs' m'=>∃ (t27:Bool),o0=t27∧I0.le I'∧hs'=[hB b1 (cExpr y1 p c p1 c1 p2 c2),hB b zExpr]∧m'=[(0,vT s.l),(2,vI levels),(6,vP b 0),(8,vP b1 0),(9,vI y2),(27,.bool t27)]) ?_ ?_
    · have H:=iS I0;refine zQ<|yD 3 [] [(22,.bool (decide (y2 < 0)))] ?_;cases hc:(decide (y2 < 0)) with
      | true =>
       have hM0:=zP hc ho0
       try rw [hc]
       exact yC [] [(27,vY)]<|yT [(0,vT s.l),(2,vI levels),(6,vP b 0),(8,vP b1 0),(9,vI y2),(27,vY)]<|zV (ct hM0 H)
      | false =>
       have hM01:=zL hc ho0
       try rw [hc]
       exact yC [] [(27,.bool (decide (y2 ≥ (s.l.length:Int))))]<|yT [(0,vT s.l),(2,vI levels),(6,vP b 0),(8,vP b1 0),(9,vI y2),(27,.bool (decide (y2 ≥ (s.l.length:Int))))]<|zV (ct hM01 H)
    rintro I01 hs2 m2 ⟨t27,heq,le1,rfl,rfl⟩;subst o0;have h2:=h2.mono le1;have h3:=h3.mono le1;have h4:=h4.mono le1;have H:=H.trans le1;refine zM<|yL hMc ?_ ?_
    · intro hc1 N;refine yK<|yD 1 [] [(28,vA zExpr)]<|xE 1 zExpr [hB b1 (cExpr y1 p c p1 c1 p2 c2),hB b zExpr] rfl rfl rfl rfl<|yC [] [(7,vI (-1))]<|xG<|zH ?_;obtain rfl:=zC N;exact xC ⟨_,_,(.cell 1 rfl rfl (by kernel_rfl) (.tmp rfl ResV.nil)),zR,⟨_,_,rfl,rfl,⟨_,rfl,(xX ⟨_,_,_,rfl,(SL.nil _),(SL.nil _),(SL.nil _)⟩)⟩,rfl⟩⟩
    intro hc1 N;refine zW<|vH [(10,vI 4)]<|yI<|yK<|yD 2 [] [(29,vT s.l),(30,vI y2)]<|bE N fun b2 hy1 N=>eT rfl rfl hy1<|yH rfl<|wO<|yF [(32,.bool ((b2.toNat:Int) == 45))]<|zM ?_;obtain ⟨o01,ho01,hMc1⟩:=zB N;refine yU (fun I' hs' m'=>∃ (kind:Int),o01=kind∧I01.le I'∧hs'=[hB b1 (cExpr y1 p c p1 c1 p2 c2),hB b zExpr]∧m'=[(0,vT s.l),(2,vI levels),(6,vP b 0),(8,vP b1 0),(9,vI y2),(10,vI kind)]) ?_ ?_
    · have H:=iS I01;refine yL ho01 ?_ ?_
      · intro hc2 N;exact zQ<|yC [] [(10,vI 5)]<|yT [(0,vT s.l),(2,vI levels),(6,vP b 0),(8,vP b1 0),(9,vI y2),(10,vI 5)]<|zV (ct N H)
      intro hc2 N;refine yF [(34,.bool ((b2.toNat:Int) == 42))]<|zM ?_;obtain ⟨o02,ho02,hMc2⟩:=zB N;refine yU (fun I' hs' m'=>∃ (kind1:Int),o02=kind1∧I01.le I'∧hs'=[hB b1 (cExpr y1 p c p1 c1 p2 c2),hB b zExpr]∧m'=[(0,vT s.l),(2,vI levels),(6,vP b 0),(8,vP b1 0),(9,vI y2),(10,vI kind1)]) ?_ ?_
      · have H:=iS I01;refine yL ho02 ?_ ?_
        · intro hc3 N;exact zQ<|yC [] [(10,vI 6)]<|yT [(0,vT s.l),(2,vI levels),(6,vP b 0),(8,vP b1 0),(9,vI y2),(10,vI 6)]<|zV (ct N H)
        intro hc3 N;exact zW<|yT [(0,vT s.l),(2,vI levels),(6,vP b 0),(8,vP b1 0),(9,vI y2),(10,vI 4)]<|zV (ct N H)
      rintro I03 hs2 m2 ⟨kind1,heq1,le2,rfl,rfl⟩;subst o02;have H:=H.trans le2;exact yT [(0,vT s.l),(2,vI levels),(6,vP b 0),(8,vP b1 0),(9,vI y2),(10,vI kind1)]<|zV (ct hMc2 H)
    rintro I02 hs2 m2 ⟨kind,heq2,le3,rfl,rfl⟩;subst o01;have h2:=h2.mono le3;have h3:=h3.mono le3;have h4:=h4.mono le3;have H:=H.trans le3;refine zT<|xD<|yD 4 [] [(37,vT s.l),(39,vI (W (y2 + 1))),(40,vI levels)] ?_;obtain ⟨⟨y4,y5⟩,hy2,N⟩:=zB hMc1;refine xT (ih_spec_l3Parse s (W (y2 + 1)) levels _ hy2 ) ?_;rintro I04 hs2 v2 k2 le4 - ⟨v05,v06,rfl,rfl,⟨cs1,rfl,h5⟩,rfl⟩ -;have h2:=h2.mono le4;have h3:=h3.mono le4;have h4:=h4.mono le4;have H:=H.trans le4;obtain ⟨p3,c3,p4,c4,p5,c5,rfl,h7,h8,h9⟩:=xV h5;refine yD 8 [] [(42,vA (cExpr y4 p3 c3 p4 c4 p5 c5)),(43,vI y5)]<|wR zExpr ?_;intro b3 hb2;refine xE 0 (cExpr y4 p3 c3 p4 c4 p5 c5) [hB b3 (cExpr y4 p3 c3 p4 c4 p5 c5),hB b1 (cExpr y1 p c p1 c1 p2 c2),hB b zExpr] rfl rfl rfl rfl<|yC [] [(12,vI y5)]<|yI<|yG ?_;obtain ⟨o03,ho03,hMc3⟩:=zB N;refine yU (fun I' hs' m'=>∃ (t51:Bool),o03=t51∧I04.le I'∧hs'=[hB b3 (cExpr y4 p3 c3 p4 c4 p5 c5),hB b1 (cExpr y1 p c p1 c1 p2 c2),hB b zExpr]∧m'=[(6,vP b 0),(8,vP b1 0),(10,vI kind),(11,vP b3 0),(12,vI y5),(51,.bool t51)]) ?_ ?_
    · have H:=iS I04;refine zQ<|yD 3 [] [(46,.bool (decide (y5 < 0)))] ?_;cases hc4:(decide (y5 < 0)) with
      | true =>
       have hM02:=zP hc4 ho03
       try rw [hc4]
       exact yC [] [(51,vY)]<|yT [(6,vP b 0),(8,vP b1 0),(10,vI kind),(11,vP b3 0),(12,vI y5),(51,vY)]<|zV (ct hM02 H)
      | false =>
       have hM03:=zL hc4 ho03
       try rw [hc4]
       exact yC [] [(51,.bool (decide (y5 ≥ (s.l.length:Int))))]<|yT [(6,vP b 0),(8,vP b1 0),(10,vI kind),(11,vP b3 0),(12,vI y5),(51,.bool (decide (y5 ≥ (s.l.length:Int))))]<|zV (ct hM03 H)
    rintro I05 hs2 m2 ⟨t51,heq3,le5,rfl,rfl⟩;subst o03;have h7:=h7.mono le5;have h8:=h8.mono le5;have h9:=h9.mono le5;have h2:=h2.mono le5;have h3:=h3.mono le5;have h4:=h4.mono le5;refine zM<|yL hMc3 ?_ ?_
    · intro hc5 N;refine yK<|yD 1 [] [(52,vA zExpr)]<|xE 2 zExpr [hB b3 (cExpr y4 p3 c3 p4 c4 p5 c5),hB b1 (cExpr y1 p c p1 c1 p2 c2),hB b zExpr] rfl rfl rfl rfl<|yC [] [(7,vI (-1))]<|xG<|zH ?_;obtain rfl:=zC N;exact xC ⟨_,_,(.cell 2 rfl rfl (by kernel_rfl) (.tmp rfl ResV.nil)),zR,⟨_,_,rfl,rfl,⟨_,rfl,(xX ⟨_,_,_,rfl,(SL.nil _),(SL.nil _),(SL.nil _)⟩)⟩,rfl⟩⟩
    intro hc5 N;refine zW<|xD<|yD 3 [1,0] [(53,vI kind),(54,vA (cExpr y1 p c p1 c1 p2 c2)),(55,vA (cExpr y4 p3 c3 p4 c4 p5 c5))]<|xY [vI y1.Kind,vI y1.Num,vS p y1.Index.Coefs c,vI y1.Index.Const,vT y1.Read.Array.l,vS p1 y1.Read.Subs c1,vS p2 y1.Kids c2,vI y4.Kind,vI y4.Num,vS p3 y4.Index.Coefs c3,vI y4.Index.Const,vT y4.Read.Array.l,vS p4 y4.Read.Subs c4,vS p5 y4.Kids c5] zG ?_;intro b4 hb3;have h10:RL I05 [vI y1.Kind,vI y1.Num,vS p y1.Index.Coefs c,vI y1.Index.Const,vT y1.Read.Array.l,vS p1 y1.Read.Subs c1,vS p2 y1.Kids c2,vI y4.Kind,vI y4.Num,vS p3 y4.Index.Coefs c3,vI y4.Index.Const,vT y4.Read.Array.l,vS p4 y4.Read.Subs c4,vS p5 y4.Kids c5] ([y1,y4]:List zG):=⟨(cExpr y1 p c p1 c1 p2 c2),_,rfl,rfl,(xX ⟨_,_,_,rfl,h2,h3,h4⟩),⟨(cExpr y4 p3 c3 p4 c4 p5 c5),_,rfl,rfl,(xX ⟨_,_,_,rfl,h7,h8,h9⟩),rfl⟩⟩;refine yD 7 [] [(57,vA [vI kind,vI 0,z0,vI 0,vT ([]),z0,vS (some ⟨b4,0,none⟩) ([y1,y4]:List zG) 2]),(59,vI (W (y5 + 1)))]<|xE 3 [vI kind,vI 0,z0,vI 0,vT ([]),z0,vS (some ⟨b4,0,none⟩) ([y1,y4]:List zG) 2] [hO zG (vS (some ⟨b4,0,none⟩) ([y1,y4]:List zG) 2) [vI y1.Kind,vI y1.Num,vS p y1.Index.Coefs c,vI y1.Index.Const,vT y1.Read.Array.l,vS p1 y1.Read.Subs c1,vS p2 y1.Kids c2,vI y4.Kind,vI y4.Num,vS p3 y4.Index.Coefs c3,vI y4.Index.Const,vT y4.Read.Array.l,vS p4 y4.Read.Subs c4,vS p5 y4.Kids c5],hB b3 (cExpr y4 p3 c3 p4 c4 p5 c5),hB b1 (cExpr y1 p c p1 c1 p2 c2),hB b [vI kind,vI 0,z0,vI 0,vT ([]),z0,vS (some ⟨b4,0,none⟩) ([y1,y4]:List zG) 2]] rfl rfl rfl rfl<|yC [] [(7,vI (W (y5 + 1)))]<|xG<|xP 0 rfl ?_;intro I06 le6 hl0;have h11:=SL.of_frozen hl0 le6 h10;obtain rfl:=zC N;exact xC ⟨_,_,(.cell 2 rfl rfl (by kernel_rfl) (.tmp rfl ResV.nil)),zR,⟨_,_,rfl,rfl,⟨_,rfl,(xX ⟨_,_,_,rfl,(SL.nil _),(SL.nil _),h11⟩)⟩,rfl⟩⟩
  intro F_spec_l3Round ih_spec_l3Round s at0 levels r N I;refine zY (fn:=Tryz.f175) (c:=(bodyOf Tryz.f175)) Tryz.func175 rfl rfl ?_;rintro B - -;have H:=iS I;refine yK<|wR zExpr ?_;intro b hb;refine yC [] []<|yI<|yG ?_;obtain ⟨o0,ho0,hMc⟩:=zB N;refine yU (fun I' hs' m'=>∃ (t26:Bool),o0=t26∧I.le I'∧hs'=[hB b zExpr]∧m'=[(0,vT s.l),(1,vI at0),(2,vI levels),(6,vP b 0),(26,.bool t26)]) ?_ ?_
  · have H:=iS I;refine zQ<|yD 3 [] [(17,.bool (decide (levels < 1)))] ?_;cases hc:(decide (levels < 1)) with
    | true =>
     have hM0:=zP hc ho0
     try rw [hc]
     exact yC [] [(26,vY)]<|yT [(0,vT s.l),(1,vI at0),(2,vI levels),(6,vP b 0),(26,vY)]<|zV (ct hM0 H)
    | false =>
     have hM01:=zL hc ho0
     try rw [hc]
     refine yD 7 [] [(21,.bool (decide (at0 < 0)))] ?_;cases hc1:(decide (at0 < 0)) with
     | true =>
      have hM02:=zP hc1 hM01
      try rw [hc1]
      exact yC [] [(26,vY)]<|yT [(0,vT s.l),(1,vI at0),(2,vI levels),(6,vP b 0),(26,vY)]<|zV (ct hM02 H)
     | false =>
      have hM03:=zL hc1 hM01
      try rw [hc1]
      exact yC [] [(26,.bool (decide (at0 ≥ (s.l.length:Int))))]<|yT [(0,vT s.l),(1,vI at0),(2,vI levels),(6,vP b 0),(26,.bool (decide (at0 ≥ (s.l.length:Int))))]<|zV (ct hM03 H)
  rintro I0 hs2 m2 ⟨t26,heq,le,rfl,rfl⟩;subst o0;have H:=H.trans le;refine zM<|yL hMc ?_ ?_
  · intro hc2 N;refine yK<|yD 1 [] [(27,vA zExpr)]<|xE 0 zExpr [hB b zExpr] rfl rfl rfl rfl<|yC [] [(7,vI (-1))]<|xG<|zH ?_;obtain rfl:=zC N;exact xC ⟨_,_,(.cell 0 rfl rfl (by kernel_rfl) (.tmp rfl ResV.nil)),zR,⟨_,_,rfl,rfl,⟨_,rfl,(xX ⟨_,_,_,rfl,(SL.nil _),(SL.nil _),(SL.nil _)⟩)⟩,rfl⟩⟩
  intro hc2 N;refine zW<|yI<|yP<|yK<|yD 2 [] [(29,vT s.l),(30,vI at0)]<|bE N fun b1 hy N=>eT rfl rfl hy<|yC [] [(28,.bool ((b1.toNat:Int) == 123))]<|zM<|yL N ?_ ?_
  · intro hc3 N;refine yK<|yD 2 [] [(33,vT s.l),(34,vI at0)]<|bE N fun y hy1 N=>gB (zAi s at0 (125:UInt8) _ hy1 ) fun I01 le1=>yC [] [(8,vI y)]<|yI<|yF [(37,.bool (decide (y < 0)))]<|zM<|yL N ?_ ?_
    · intro hc4 N;refine yK<|yD 1 [] [(38,vA zExpr)]<|xE 0 zExpr [hB b zExpr] rfl rfl rfl rfl<|yC [] [(7,vI (-1))]<|xG<|zH<|zZ<|zH ?_;obtain rfl:=zC N;exact xC ⟨_,_,(.cell 0 rfl rfl (by kernel_rfl) (.tmp rfl ResV.nil)),zR,⟨_,_,rfl,rfl,⟨_,rfl,(xX ⟨_,_,_,rfl,(SL.nil _),(SL.nil _),(SL.nil _)⟩)⟩,rfl⟩⟩
    intro hc4 N;refine zW<|xD<|yD 4 [] [(40,vT s.l),(42,vI (W (at0 + 1))),(43,vI y)]<|bE N fun s1 hy2 N=>zFh rfl hy2 ?_;obtain ⟨⟨y2,y3⟩,hy3,N⟩:=zB N;refine xT (fR s1 _ hy3 ) ?_;rintro I02 hs2 v2 k2 le2 - ⟨v01,v02,rfl,rfl,⟨cs,rfl,h1⟩,rfl⟩ -;obtain ⟨p,c,rfl,h3⟩:=yN h1;refine yD 9 [] [(46,vA (cAff y2 p c)),(47,.bool y3)]<|wR [z0,vI 0] ?_;intro b2 hb1;refine xE 0 (cAff y2 p c) [hB b2 (cAff y2 p c),hB b zExpr] rfl rfl rfl rfl<|yC [] []<|xD<|yD 4 [0] [(49,vA [vI 2,vI 0,vS p y2.Coefs c,vI y2.Const,vT ([]),z0,z0]),(51,vI (W (y + 1)))]<|xE 1 [vI 2,vI 0,vS p y2.Coefs c,vI y2.Const,vT ([]),z0,z0] [hB b2 (cAff y2 p c),hB b [vI 2,vI 0,vS p y2.Coefs c,vI y2.Const,vT ([]),z0,z0]] rfl rfl rfl rfl<|yC [] [(7,vI (W (y + 1)))]<|xG<|zZ<|zH ?_;obtain rfl:=zC N;exact xC ⟨_,_,(.cell 1 rfl rfl (by kernel_rfl) (.tmp rfl ResV.nil)),zR,⟨_,_,rfl,rfl,⟨_,rfl,(xX ⟨_,_,_,rfl,h3,(SL.nil _),(SL.nil _)⟩)⟩,rfl⟩⟩
  intro hc3 N;refine yG ?_;obtain ⟨o01,ho01,hMc1⟩:=zB N;refine yU (fun I' hs' m'=>∃ (t52:Bool),o01=t52∧I0.le I'∧hs'=[hB b zExpr]∧m'=[(0,vT s.l),(1,vI at0),(2,vI levels),(6,vP b 0),(52,.bool t52)]) ?_ ?_
  · have H:=iS I0;refine zQ<|yD 2 [] [(53,vT s.l),(54,vI at0)] ?_;obtain ⟨b3,hy4,N⟩:=zB ho01;refine eT rfl rfl hy4<|yD 5 [] [(57,.bool (decide ((b3.toNat:Int) ≥ 65)))] ?_;cases hc5:(decide ((b3.toNat:Int) ≥ 65)) with
    | true =>
     have hM04:=zP hc5 N
     try rw [hc5]
     refine yD 7 [] [(58,vT s.l),(59,vI at0)] ?_;obtain ⟨b4,hy5,N⟩:=zB hM04;exact eT rfl rfl hy5<|yC [] [(52,.bool (decide ((b4.toNat:Int) ≤ 68)))]<|yT [(0,vT s.l),(1,vI at0),(2,vI levels),(6,vP b 0),(52,.bool (decide ((b4.toNat:Int) ≤ 68)))]<|zV (ct N H)
    | false =>
     have hM05:=zL hc5 N
     try rw [hc5]
     exact yC [] [(52,vF)]<|yT [(0,vT s.l),(1,vI at0),(2,vI levels),(6,vP b 0),(52,vF)]<|zV (ct hM05 H)
  rintro I03 hs2 m2 ⟨t52,heq1,le3,rfl,rfl⟩;subst o01;refine zM<|yL hMc1 ?_ ?_
  · intro hc6 N;refine yK<|yD 2 [] [(64,vT s.l),(65,vI at0)] ?_;obtain ⟨⟨y5,y6⟩,hy6,N⟩:=zB N;refine xT (gQ s at0 _ hy6 ) ?_;rintro I04 hs2 v2 k2 le4 - ⟨v04,v05,rfl,rfl,⟨cs1,rfl,h4⟩,rfl⟩ -;obtain ⟨p1,c1,rfl,h6⟩:=pM h4;refine yD 6 [] [(67,vA (cAccess y5 p1 c1)),(68,vI y6)]<|wR [vT ([]),z0] ?_;intro b5 hb2;refine xE 0 (cAccess y5 p1 c1) [hB b5 (cAccess y5 p1 c1),hB b zExpr] rfl rfl rfl rfl<|yC [] [(12,vI y6)]<|xD<|yD 3 [0] [(70,vA [vI 3,vI 0,z0,vI 0,vT y5.Array.l,vS p1 y5.Subs c1,z0]),(71,vI y6)]<|xE 1 [vI 3,vI 0,z0,vI 0,vT y5.Array.l,vS p1 y5.Subs c1,z0] [hB b5 (cAccess y5 p1 c1),hB b [vI 3,vI 0,z0,vI 0,vT y5.Array.l,vS p1 y5.Subs c1,z0]] rfl rfl rfl rfl<|yC [] [(7,vI y6)]<|xG<|zZ<|zH ?_;obtain rfl:=zC N;exact xC ⟨_,_,(.cell 1 rfl rfl (by kernel_rfl) (.tmp rfl ResV.nil)),zR,⟨_,_,rfl,rfl,⟨_,rfl,(xX ⟨_,_,_,rfl,(SL.nil _),h6,(SL.nil _)⟩)⟩,rfl⟩⟩
  intro hc6 N;refine yK<|yD 2 [] [(73,vT s.l),(74,vI at0)]<|bE N fun b6 hy7 N=>eT rfl rfl hy7<|yC [] [(72,.bool ((b6.toNat:Int) == 40))]<|zM<|yL N ?_ ?_
  · intro hc7 N;refine yK<|yD 5 [] [(77,vT s.l),(79,vI (W (at0 + 1))),(81,vI (W (levels - 1)))] ?_;obtain ⟨⟨y8,y9⟩,hy8,N⟩:=zB N;refine xT (ih_spec_l3Round s (W (at0 + 1)) (W (levels - 1)) _ hy8 ) ?_;rintro I05 hs2 v2 k2 le5 - ⟨v07,v08,rfl,rfl,⟨cs2,rfl,h7⟩,rfl⟩ -;obtain ⟨p2,c2,p3,c3,p4,c4,rfl,h9,h10,h11⟩:=xV h7;refine yD 8 [] [(83,vA (cExpr y8 p2 c2 p3 c3 p4 c4)),(84,vI y9)]<|xE 0 (cExpr y8 p2 c2 p3 c3 p4 c4) [hB b (cExpr y8 p2 c2 p3 c3 p4 c4)] rfl rfl rfl rfl<|yC [] [(7,vI y9)]<|xG<|zZ<|zH ?_;obtain rfl:=zC N;exact xC ⟨_,_,(.cell 0 rfl rfl (by kernel_rfl) (.tmp rfl ResV.nil)),zR,⟨_,_,rfl,rfl,⟨_,rfl,(xX ⟨_,_,_,rfl,h9,h10,h11⟩)⟩,rfl⟩⟩
  intro hc7 N;refine zW<|zT<|xD<|yD 2 [] [(86,vT s.l),(87,vI at0)] ?_;obtain ⟨⟨y11,y12⟩,hy9,N⟩:=zB N;refine xT (zAH s at0 _ hy9 ) ?_;rintro I06 hs2 v2 k2 le6 - ⟨v012,v013,rfl,rfl,rfl,rfl⟩ -;refine yC [] [(13,vI y11),(14,vI y12)]<|yI<|yF [(93,.bool (y12 == at0))]<|zM<|yL N ?_ ?_
  · intro hc8 N;refine yK<|yD 1 [] [(94,vA zExpr)]<|xE 0 zExpr [hB b zExpr] rfl rfl rfl rfl<|yC [] [(7,vI (-1))]<|xG<|zH ?_;obtain rfl:=zC N;exact xC ⟨_,_,(.cell 0 rfl rfl (by kernel_rfl) (.tmp rfl ResV.nil)),zR,⟨_,_,rfl,rfl,⟨_,rfl,(xX ⟨_,_,_,rfl,(SL.nil _),(SL.nil _),(SL.nil _)⟩)⟩,rfl⟩⟩
  intro hc8 N;refine zW<|xD<|yD 3 [] [(96,vA [vI 1,vI y11,z0,vI 0,vT ([]),z0,z0]),(97,vI y12)]<|xE 0 [vI 1,vI y11,z0,vI 0,vT ([]),z0,z0] [hB b [vI 1,vI y11,z0,vI 0,vT ([]),z0,z0]] rfl rfl rfl rfl<|yC [] [(7,vI y12)]<|zM<|yX ?_;obtain rfl:=zC N;exact xC ⟨_,_,(.cell 0 rfl rfl (by kernel_rfl) (.tmp rfl ResV.nil)),zR,⟨_,_,rfl,rfl,⟨_,rfl,(xX ⟨_,_,_,rfl,(SL.nil _),(SL.nil _),(SL.nil _)⟩)⟩,rfl⟩⟩
theorem zEO:∀ s at0 levels r,rV s at0 levels=some r→∀ {I:Imm} ,RT 175 [vT s.l,vI at0,vI levels] I [] (gE  r):=zDd.2
def uT (a0:zA) (n0:Int) (i:Int):Option (Int):=do
 if (decide (i < (a0.Coefs.length:Int))) then
  let x←idx a0.Coefs i
  let n02←(do
    if (x != 0) then
     pure (W (i + 1))
    else
     pure (id n0)
      : Option Int)
  uT a0 n02 (W (i + 1))
 else
  pure (id n0)
 partial_fixpoint
theorem zCI (a0:zA):∀ (n0:Int) (i:Int) (o:Int),uT a0 n0 i=some o→∀ {B}{I0 I:Imm}{Q p c}{b:Nat},I0.le I→(S4 I p a0.Coefs c)→NG Q→NO Q→(∀ (I':Imm) (n01:Int),o=n01→I0.le I'→T 21 B Q (.exit 0) I' [] [(3,vI n01)])→J Tryz.prog 21 B (nav (bodyOf Tryz.f205) [1,1,0,1,0]) Q I [hB b (cAff a0 p c)] [(1,vP b 0),(3,vI n0),(4,vI i)]:=by
 refine uT.partial_correctness a0 _ fun self ih n0 i o N B I0 I Q p c b H h hg ho hx=>yZ hg ho<|yG<|yK<|yC [0] [(9,.bool (decide (i < (a0.Coefs.length:Int))))]<|zM<|yL N ?_ ?_
 · intro hc N;refine zW<|yI<|yP<|yK<|yD 3 [0] [(13,vS p a0.Coefs c),(14,vI i)]<|bE N fun x hy N=>xS rfl rfl h hy ?_;intro ad ccs hat hrep;obtain rfl:=hrep;refine xM 0 hat [vI x] (vI x) rfl<|yC [] [(17,.bool (x != 0))]<|zM ?_;obtain ⟨o0,ho0,hMc⟩:=zB N;refine yU (fun I' hs' m'=>∃ (n02:Int),o0=n02∧I.le I'∧hs'=[hB b (cAff a0 p c)]∧m'=[(1,vP b 0),(3,vI n02),(4,vI i)]) ?_ ?_
   · have H:=iS I;refine yL ho0 ?_ ?_
     · intro hc1 N;exact zQ<|yC [] [(3,vI (W (i + 1)))]<|yT [(1,vP b 0),(3,vI (W (i + 1))),(4,vI i)]<|zV (ct N H)
     intro hc1 N;exact zW<|yT [(1,vP b 0),(3,vI n0),(4,vI i)]<|zV (ct N H)
   rintro I0 hs2 m2 ⟨n02,heq,le,rfl,rfl⟩;subst o0;have h:=h.mono le;have H:=H.trans le;exact zT<|zM<|zQ<|yC [] [(4,vI (W (i + 1)))]<|yY<|vE [(1,vP b 0),(3,vI n02),(4,vI (W (i + 1)))]<|ih n02 (W (i + 1)) _ hMc H h hg ho hx
 intro hc N;exact vW<|xU zR<|yT [(3,vI n0)]<|hx _ _ (zC N).symm H
def rW (a0:zA):Option (Int):=do
 let n01←uT a0 0 0
 pure (id n01)
theorem fI:∀ a0 r,rW a0=some r→∀ {I:Imm}{p c},(S4 I p a0.Coefs c)→RT 205 [vA (cAff a0 p c)] I [] (xJ  r):=by
 intro a0 r N I p c h;unfold rW at N;refine zY (fn:=Tryz.f205) (c:=(bodyOf Tryz.f205)) Tryz.func205 rfl rfl ?_;rintro B - -;refine yK<|uD (cAff a0 p c) ?_;intro b hb;refine yC [] []<|vH [(3,vI 0)]<|yI<|yF [(4,vI 0)]<|wO<|vE [(1,vP b 0),(3,vI 0),(4,vI 0)] ?_;obtain ⟨o01,ho01,hMl⟩:=zB N;refine zCI a0 0 0 o01 ho01 iR h (fun _ _ _ h=>h) (fun _ _ h=>h) ?_;intro I01 n01 heq1 le1;subst o01;refine zX<|vH [(2,vI n01)]<|zM<|yX ?_;obtain rfl:=zC hMl;exact wN
def vZ (a0:zJ) (depth:Int) (i:Int):Option (Out Unit (Bool)):=do
 if (decide (i < (a0.Subs.length:Int))) then
  let t29←(do
    let x←idx a0.Subs i
    let y←vX x
    if (!y) then
     pure true
    else
     let x1←idx a0.Subs i
     let y1←rW x1
     pure (decide (y1 > depth))
      : Option Bool)
  if t29 then
   pure (.ret false)
  else
   vZ a0 depth (W (i + 1))
 else
  pure (.done ())
 partial_fixpoint
theorem zBe (a0:zJ) (depth:Int):∀ (i:Int) (o:Out Unit (Bool)),vZ a0 depth i=some o→∀ {B}{I0 I:Imm}{Q p c}{b:Nat},I0.le I→(S4 I p a0.Subs c)→NG Q→NO Q→(∀ (I':Imm) ,o=(.done ())→I0.le I'→T 56 B Q (.exit 0) I' [hB b (cAccess a0 p c)] [(2,vP b 0)])→(∀ r I' hs' m',o=(.ret r)→I0.le I'→RS Tryz.prog Tryz.f181 B (zU  r) I' hs' m'→T 56 B Q .ret I' hs' m')→J Tryz.prog 56 B (nav (bodyOf Tryz.f181) [1,0,1,0]) Q I [hB b (cAccess a0 p c)] [(1,vI depth),(2,vP b 0),(5,vI i)]:=by
 refine vZ.partial_correctness a0 depth _ fun self ih i o N B I0 I Q p c b H h hg ho hx hr=>yZ hg ho<|yG<|yK<|yC [0] [(10,.bool (decide (i < (a0.Subs.length:Int))))]<|zM<|yL N ?_ ?_
 · intro hc N;refine zW<|yI<|yP<|yG ?_;obtain ⟨o0,ho0,hMc⟩:=zB N;refine yU (fun I' hs' m'=>∃ (t29:Bool),o0=t29∧I.le I'∧hs'=[hB b (cAccess a0 p c)]∧m'=[(1,vI depth),(2,vP b 0),(5,vI i),(29,.bool t29)]) ?_ ?_
   · have H:=iS I;refine zQ<|yD 3 [0] [(14,vS p a0.Subs c),(15,vI i)] ?_;obtain ⟨x,hy,N⟩:=zB ho0;refine xS rfl rfl h hy ?_;intro ad ccs hat hrep;obtain ⟨p1,c1,rfl,h1⟩:=yN hrep;refine xM 0 hat (cAff x p1 c1) (vA (cAff x p1 c1)) rfl<|bE N fun y hy1 N=>vJ (nR x _ hy1 h1) ?_;intro I01 le;have h:=h.mono le;have H:=H.trans le;refine yD 8 [] [(20,.bool (!y))] ?_;cases hc1:(!y) with
     | true =>
      have hM0:=zP hc1 N
      try rw [hc1]
      exact yC [] [(29,vY)]<|yT [(1,vI depth),(2,vP b 0),(5,vI i),(29,vY)]<|zV (ct hM0 H)
     | false =>
      have hM01:=zL hc1 N
      try rw [hc1]
      refine yD 11 [0] [(22,vS p a0.Subs c),(23,vI i)] ?_;obtain ⟨x1,hy2,N⟩:=zB hM01;refine xS rfl rfl h hy2 ?_;intro ad1 ccs1 hat1 hrep1;obtain ⟨p2,c2,rfl,h3⟩:=yN hrep1;refine xM 0 hat1 (cAff x1 p2 c2) (vA (cAff x1 p2 c2)) rfl<|bE N fun y1 hy3 N=>gB (fI x1 _ hy3 h3) ?_;intro I02 le1;have H:=H.trans le1;exact yC [] [(29,.bool (decide (y1 > depth)))]<|yT [(1,vI depth),(2,vP b 0),(5,vI i),(29,.bool (decide (y1 > depth)))]<|zV (ct N H)
   rintro I0 hs2 m2 ⟨t29,heq,le2,rfl,rfl⟩;subst o0;have h:=h.mono le2;have H:=H.trans le2;refine zM<|yL hMc ?_ ?_
   · intro hc2 N;exact yF [(4,vF)]<|xG<|zZ<|zH<|zH<|hr _ _ _ _ (zC N).symm H ⟨_,_,(.tmp rfl ResV.nil),zR,⟨_,rfl,rfl,rfl⟩⟩
   intro hc2 N;exact zW<|zT<|zM<|zQ<|yC [] [(5,vI (W (i + 1)))]<|yY<|vE [(1,vI depth),(2,vP b 0),(5,vI (W (i + 1)))]<|ih (W (i + 1)) _ N H h hg ho hx hr
 intro hc N;exact vW<|yT [(2,vP b 0)]<|hx _  (zC N).symm H
def qI (a0:zJ) (depth:Int):Option (Bool):=do
 match←vZ a0 depth 0 with
 | .ret r0=>pure r0
 | .done _ =>
  let t4←(do
    if ((a0.Array.l.length:Int) == 1) then
     if (!(Op.bytesLess a0.Array.l ([65]:List UInt8))) then
      if (Op.bytesLess a0.Array.l ([68]:List UInt8) || a0.Array.l == ([68]:List UInt8)) then
       if (decide ((a0.Subs.length:Int) ≥ 1)) then
        pure (decide ((a0.Subs.length:Int) ≤ 2))
       else
        pure false
      else
       pure false
     else
      pure false
    else
     pure false
      : Option Bool)
  pure (id t4)
theorem zAJ:∀ a0 depth r,qI a0 depth=some r→∀ {I:Imm}{p c},(S4 I p a0.Subs c)→RT 181 [vA (cAccess a0 p c),vI depth] I [] (zU  r):=by
 intro a0 depth r N I p c h;unfold qI at N;refine zY (fn:=Tryz.f181) (c:=(bodyOf Tryz.f181)) Tryz.func181 rfl rfl ?_;rintro B - -;have H:=iS I;refine yK<|uD (cAccess a0 p c) ?_;intro b hb;refine yC [] []<|yI<|yF [(5,vI 0)]<|wO<|vE [(1,vI depth),(2,vP b 0),(5,vI 0)] ?_;obtain ⟨o01,ho01,hMl⟩:=zB N;refine zBe a0 depth 0 o01 ho01 iR h (fun _ _ _ h=>h) (fun _ _ h=>h) ?_ ?_
 · intro I03  heq1 le3;subst o01;have H:=H.trans le3;refine zX<|zM<|yG ?_;obtain ⟨o02,ho02,hMc1⟩:=zB hMl;refine yU (fun I' hs' m'=>∃ (t4:Bool),o02=t4∧I03.le I'∧hs'=[]∧m'=[(4,.bool t4)]) ?_ ?_
   · have H:=iS I03;refine zQ<|yD 5 [0] [(34,.bool ((a0.Array.l.length:Int) == 1))] ?_;cases hc3:((a0.Array.l.length:Int) == 1) with
     | true =>
      have hM02:=zP hc3 ho02
      try rw [hc3]
      refine yD 10 [0] [(39,.bool (!(Op.bytesLess a0.Array.l ([65]:List UInt8))))] ?_;cases hc4:(!(Op.bytesLess a0.Array.l ([65]:List UInt8))) with
      | true =>
       have hM03:=zP hc4 hM02
       try rw [hc4]
       refine yD 15 [0] [(44,.bool (Op.bytesLess a0.Array.l ([68]:List UInt8) || a0.Array.l == ([68]:List UInt8)))] ?_;cases hc5:(Op.bytesLess a0.Array.l ([68]:List UInt8) || a0.Array.l == ([68]:List UInt8)) with
       | true =>
        have hM04:=zP hc5 hM03
        try rw [hc5]
        refine yD 21 [0] [(50,.bool (decide ((a0.Subs.length:Int) ≥ 1)))] ?_;cases hc6:(decide ((a0.Subs.length:Int) ≥ 1)) with
        | true =>
         have hM05:=zP hc6 hM04
         try rw [hc6]
         exact yC [0] [(4,.bool (decide ((a0.Subs.length:Int) ≤ 2)))]<|xU zR<|yT [(4,.bool (decide ((a0.Subs.length:Int) ≤ 2)))]<|zV (ct hM05 H)
        | false =>
         have hM06:=zL hc6 hM04
         try rw [hc6]
         exact yC [] [(4,vF)]<|xU zR<|yT [(4,vF)]<|zV (ct hM06 H)
       | false =>
        have hM07:=zL hc5 hM03
        try rw [hc5]
        exact yC [] [(4,vF)]<|xU zR<|yT [(4,vF)]<|zV (ct hM07 H)
      | false =>
       have hM08:=zL hc4 hM02
       try rw [hc4]
       exact yC [] [(4,vF)]<|xU zR<|yT [(4,vF)]<|zV (ct hM08 H)
     | false =>
      have hM09:=zL hc3 ho02
      try rw [hc3]
      exact yC [] [(4,vF)]<|xU zR<|yT [(4,vF)]<|zV (ct hM09 H)
   rintro I04 hs2 m2 ⟨t4,heq2,le4,rfl,rfl⟩;subst o02;refine zM<|yX ?_;obtain rfl:=zC hMc1;exact wN
 intro r0 I9 hs9 m9 heq9 le9 hrs9;subst heq9;refine zZ<|zH ?_;obtain rfl:=zC hMl;exact xC hrs9
def nK (kind:Int):Option (Int):=do
 let t4←(do
   if (kind == 1) then
    pure (kind == 1)
   else
    let t41←(do
      if (kind == 2) then
       pure (kind == 2)
      else
       pure (kind == 3)
        : Option Bool)
    pure (id t41)
     : Option Bool)
 if t4 then
  pure (id 0)
 else
  let t8←(do
    if (kind == 4) then
     pure (kind == 4)
    else
     let t81←(do
       if (kind == 5) then
        pure (kind == 5)
       else
        pure (kind == 6)
         : Option Bool)
     pure (id t81)
      : Option Bool)
  if t8 then
   pure (id 2)
  else
   pure (-1)
theorem zBI:∀ kind r,nK kind=some r→∀ {I:Imm} ,RT 206 [vI kind] I [] (xJ  r):=by
 intro kind r N I;unfold nK at N;refine zY (fn:=Tryz.f206) (c:=(bodyOf Tryz.f206)) Tryz.func206 rfl rfl ?_;rintro B - -;have H:=iS I;refine yF []<|yI<|yF [(3,vI kind)]<|wO<|yG<|yF [(4,.bool (kind == 1))]<|zM ?_;obtain ⟨o0,ho0,hMc⟩:=zB N;refine yU (fun I' hs' m'=>∃ (t4:Bool),o0=t4∧I.le I'∧hs'=[]∧m'=[(3,vI kind),(4,.bool t4)]) ?_ ?_
 · have H:=iS I;refine yL ho0 ?_ ?_
   · intro hc N;exact zW<|yT [(3,vI kind),(4,.bool (kind == 1))]<|zV (ct N H)
   intro hc N;refine yF [(4,.bool (kind == 2))]<|zM ?_;obtain ⟨o01,ho01,hMc1⟩:=zB N;refine yU (fun I' hs' m'=>∃ (t41:Bool),o01=t41∧I.le I'∧hs'=[]∧m'=[(3,vI kind),(4,.bool t41)]) ?_ ?_
   · have H:=iS I;refine yL ho01 ?_ ?_
     · intro hc1 N;exact zW<|yT [(3,vI kind),(4,.bool (kind == 2))]<|zV (ct N H)
     intro hc1 N;exact zQ<|yC [] [(4,.bool (kind == 3))]<|yT [(3,vI kind),(4,.bool (kind == 3))]<|zV (ct N H)
   rintro I01 hs2 m2 ⟨t41,heq,le,rfl,rfl⟩;subst o01;have H:=H.trans le;exact yT [(3,vI kind),(4,.bool t41)]<|zV (ct hMc1 H)
 rintro I0 hs2 m2 ⟨t4,heq1,le1,rfl,rfl⟩;subst o0;have H:=H.trans le1;refine zM<|yL hMc ?_ ?_
 · intro hc2 N;refine yF [(2,vI 0)]<|xG<|zZ<|zH ?_;obtain rfl:=zC N;exact wN
 intro hc2 N;refine yG<|yF [(8,.bool (kind == 4))]<|zM ?_;obtain ⟨o02,ho02,hMc2⟩:=zB N;refine yU (fun I' hs' m'=>∃ (t8:Bool),o02=t8∧I0.le I'∧hs'=[]∧m'=[(8,.bool t8)]) ?_ ?_
 · have H:=iS I0;refine yL ho02 ?_ ?_
   · intro hc3 N;exact zW<|yT [(8,.bool (kind == 4))]<|zV (ct N H)
   intro hc3 N;refine yF [(8,.bool (kind == 5))]<|zM ?_;obtain ⟨o03,ho03,hMc3⟩:=zB N;refine yU (fun I' hs' m'=>∃ (t81:Bool),o03=t81∧I0.le I'∧hs'=[]∧m'=[(8,.bool t81)]) ?_ ?_
   · have H:=iS I0;refine yL ho03 ?_ ?_
     · intro hc4 N;exact zW<|yT [(8,.bool (kind == 5))]<|zV (ct N H)
     intro hc4 N;exact zQ<|yC [] [(8,.bool (kind == 6))]<|yT [(8,.bool (kind == 6))]<|zV (ct N H)
   rintro I03 hs2 m2 ⟨t81,heq2,le2,rfl,rfl⟩;subst o03;have H:=H.trans le2;exact yT [(8,.bool t81)]<|zV (ct hMc3 H)
 rintro I02 hs2 m2 ⟨t8,heq3,le3,rfl,rfl⟩;subst o02;refine zM<|yL hMc2 ?_ ?_
 · intro hc5 N;refine yF [(2,vI 2)]<|xG<|zZ<|zH ?_;obtain rfl:=zC N;exact wN
 intro hc5 N;refine zW<|zT<|vH [(2,vI (-1))]<|zM<|yX ?_;obtain rfl:=zC N;exact wN
def rX (a0:zJ):Option (Bool):=do
 let t2←(do
   if (a0.Array.l == ([]:List UInt8)) then
    pure ((a0.Subs.length:Int) == 0)
   else
    pure false
     : Option Bool)
 pure (id t2)
theorem fJ:∀ a0 r,rX a0=some r→∀ {I:Imm}{p c},(S4 I p a0.Subs c)→RT 215 [vA (cAccess a0 p c)] I [] (zU  r):=by
 intro a0 r N I p c h;unfold rX at N;refine zY (fn:=Tryz.f215) (c:=(bodyOf Tryz.f215)) Tryz.func215 rfl rfl ?_;rintro B - -;have H:=iS I;refine yK<|uD (cAccess a0 p c) ?_;intro b hb;refine yC [] []<|zM<|yG ?_;obtain ⟨o0,ho0,hMc⟩:=zB N;refine yU (fun I' hs' m'=>∃ (t2:Bool),o0=t2∧I.le I'∧hs'=[]∧m'=[(2,.bool t2)]) ?_ ?_
 · have H:=iS I;refine zQ<|yD 4 [0] [(6,.bool (a0.Array.l == ([]:List UInt8)))] ?_;cases hc:(a0.Array.l == ([]:List UInt8)) with
   | true =>
    have hM0:=zP hc ho0
    try rw [hc]
    exact yC [0] [(2,.bool ((a0.Subs.length:Int) == 0))]<|xU zR<|yT [(2,.bool ((a0.Subs.length:Int) == 0))]<|zV (ct hM0 H)
   | false =>
    have hM01:=zL hc ho0
    try rw [hc]
    exact yC [] [(2,vF)]<|xU zR<|yT [(2,vF)]<|zV (ct hM01 H)
 rintro I0 hs2 m2 ⟨t2,heq,le,rfl,rfl⟩;subst o0;refine zM<|yX ?_;obtain rfl:=zC hMc;exact wN
def pI (a0:zA):Option (Bool):=do
 let t2←(do
   if ((a0.Coefs.length:Int) == 0) then
    pure (a0.Const == 0)
   else
    pure false
     : Option Bool)
 pure (id t2)
theorem eG:∀ a0 r,pI a0=some r→∀ {I:Imm}{p c},(S4 I p a0.Coefs c)→RT 216 [vA (cAff a0 p c)] I [] (zU  r):=by
 intro a0 r N I p c h;unfold pI at N;refine zY (fn:=Tryz.f216) (c:=(bodyOf Tryz.f216)) Tryz.func216 rfl rfl ?_;rintro B - -;have H:=iS I;refine yK<|uD (cAff a0 p c) ?_;intro b hb;refine yC [] []<|zM<|yG ?_;obtain ⟨o0,ho0,hMc⟩:=zB N;refine yU (fun I' hs' m'=>∃ (t2:Bool),o0=t2∧I.le I'∧hs'=[]∧m'=[(2,.bool t2)]) ?_ ?_
 · have H:=iS I;refine zQ<|yD 5 [0] [(7,.bool ((a0.Coefs.length:Int) == 0))] ?_;cases hc:((a0.Coefs.length:Int) == 0) with
   | true =>
    have hM0:=zP hc ho0
    try rw [hc]
    exact yC [0] [(2,.bool (a0.Const == 0))]<|xU zR<|yT [(2,.bool (a0.Const == 0))]<|zV (ct hM0 H)
   | false =>
    have hM01:=zL hc ho0
    try rw [hc]
    exact yC [] [(2,vF)]<|xU zR<|yT [(2,vF)]<|zV (ct hM01 H)
 rintro I0 hs2 m2 ⟨t2,heq,le,rfl,rfl⟩;subst o0;refine zM<|yX ?_;obtain rfl:=zC hMc;exact wN
end Go.LN
