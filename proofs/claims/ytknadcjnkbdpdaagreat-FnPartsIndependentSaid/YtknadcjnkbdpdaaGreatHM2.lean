/- Helper of the proof (see the last text). -/
import Derived.Test.YtknadcjnkbdpdaaGreatHM1
set_option linter.unusedVariables false
set_option linter.unusedSimpArgs false
namespace Go.LN
open Go.Proofs
set_option maxRecDepth 20000
def jN (b0:Nat) (r:zH×zM):KT:=fun kk I' hs' v=>
  ∃ v0 k0,hs'=[.blk b0 ⟨k0⟩]∧v=tupV [v0]∧(∃ cs,v0=.agg ⟨cs⟩∧Rp.rep I' cs r.1)∧Rp.rep I' k0 r.2
def qK (r0:zM) (p1:zH):Option (zH×zM):=do
 let y←rR p1
 let (y2,y3)←yV r0 60
 let (Arrays,Parts,x)←(do
   if (y2 == 0) then
    let (y5,y6)←rD y3 ([(⟨[65]⟩:Str),(⟨[68]⟩:Str),(⟨[69]⟩:Str)]:List Str)
    let (y8,y9)←yX y6 ([7,0,3,(-1)]:List Int)
    let l←app 40 y.Arrays ([(zD.mk y5 ([y8]:List Int))]:List zD)
    pure (l,y.Parts,y9)
   else
    let (Arrays1,Parts1,x1)←(do
      if (y2 == 1) then
       let (Arrays2,x2)←(do
         if (decide ((y.Arrays.length:Int) > 0)) then
          let (y11,y12)←yX y3 ([1,2,7]:List Int)
          let x3←idx y.Arrays 0
          let l1←pure (y.Arrays.set (0:Int).toNat (zD.mk x3.Name ([y11]:List Int)))
          pure (l1,y12)
         else
          pure (y.Arrays,y3)
           : Option (List zD×zM))
       pure (Arrays2,y.Parts,x2)
      else
       let (Parts2,x4)←(do
         if (y2 == 2) then
          let (Parts3,x5)←(do
            if (decide ((y.Parts.length:Int) > 0)) then
             let x6←idx y.Parts 0
             let (y14,y15)←pY y3 x6.Nest
             let (y17,y18)←pY y15 y14
             let (y20,y21)←pY y18 y17
             let x7←idx y.Parts 0
             let l2←pure (y.Parts.set (0:Int).toNat (zK.mk y20 x7.Body))
             pure (l2,y21)
            else
             pure (y.Parts,y3)
              : Option (List zK×zM))
          pure (Parts3,x5)
         else
          let (Parts4,x8)←(do
            if (y2 == 3) then
             let t76←(do
               if (decide ((y.Parts.length:Int) > 0)) then
                let x9←idx y.Parts (W ((y.Parts.length:Int) - 1))
                pure (decide ((x9.Body.length:Int) > 0))
               else
                pure false
                 : Option Bool)
             let (Parts5,x10)←(do
               if t76 then
                let x11←idx y.Parts (W ((y.Parts.length:Int) - 1))
                let x12←idx x11.Body 0
                let (y22,y23)←sA y3 x12
                let (y24,y25)←sA y23 y22
                let (y26,y27)←sA y25 y24
                let l3←pure ((y.Parts).set (W ((y.Parts.length:Int) - 1)).toNat (zK.mk x11.Nest (x11.Body.set 0 y26)))
                pure (l3,y27)
               else
                pure (y.Parts,y3)
                 : Option (List zK×zM))
             pure (Parts5,x10)
            else
             let Parts6←(do
               if (y2 == 4) then
                let Parts7←(do
                  if (decide ((y.Parts.length:Int) > 0)) then
                   let x13←idx y.Parts (W ((y.Parts.length:Int) - 1))
                   let l4←pure (y.Parts.set (W ((y.Parts.length:Int) - 1)).toNat (zK.mk x13.Nest ([]:List zJ)))
                   pure (id l4)
                  else
                   pure y.Parts
                    : Option (List zK))
                pure (id Parts7)
               else
                pure y.Parts
                 : Option (List zK))
             pure (Parts6,y3)
              : Option (List zK×zM))
          pure (Parts4,x8)
           : Option (List zK×zM))
       pure (y.Arrays,Parts2,x4)
        : Option (List zD×List zK×zM))
    pure (Arrays1,Parts1,x1)
     : Option (List zD×List zK×zM))
 pure ((zH.mk Arrays Parts),x)
theorem zC9:∀ (r0:zM) (p1:zH) r,qK r0 p1=some r→∀ {I:Imm}{r01:Nat}{p c p2 c1 p3 c2},(S4 I p r0.b c)→(S4 I p2 p1.Arrays c1)→(S4 I p3 p1.Parts c2)→(∀ (y:zH) (y2:Int) (y3:zM) (x:zK) (s:zJ),rR p1=some y→yV r0 60=some (y2,y3)→(y2 == 3)=true→idx y.Parts (W ((y.Parts.length:Int) - 1))=some x→idx x.Body 0=some s→False)→RT 35 [vP r01 0,vA (cProg p1 p2 c1 p3 c2)] I [hB r01 (cRd r0 p c)] (jN r01 r):=by
 intro r0 p1 r N I r01 p c p2 c1 p3 c2 h h1 h2 hne;unfold qK at N;refine zX (fn:=Tryz.f35) (c:=(bodyOf Tryz.f35)) Tryz.func35 rfl rfl ?_;rintro B - -;have H:=iS I;refine yK<|tO (cProg p1 p2 c1 p3 c2) ?_;intro b hb;refine wU zTwo ?_;intro b1 hb1;refine yH rfl<|xD<|yC 1 [1] [(7,vA (cProg p1 p2 c1 p3 c2))]<|bE N fun y hy N=>xS (zEs p1 _ hy h1 h2) ?_;rintro I0 hs2 v2 k2 le - ⟨p4,c3,cs,p5,c4,cs1,rfl,rfl,h3,h4⟩ -;have h:=h.mono le;have H:=H.trans le;refine wU zTwo ?_;intro b2 hb2;refine xB 0 (cProg y p4 c3 p5 c4) [hB b2 (cProg y p4 c3 p5 c4),hO zD (vS p4 y.Arrays c3) cs,hO zK (vS p5 y.Parts c4) cs1,hB b1 zTwo,hB b (cProg p1 p2 c1 p3 c2),hB r01 (cRd r0 p c)] rfl rfl rfl rfl<|yH rfl<|xD<|yB [0] [(6,vI (y.Parts.length:Int))]<|yG<|yK<|yC 1 [] [(12,vP r01 0)]<|sU (yD [5,0,1,2,3,4] (hs':=[hB r01 (cRd r0 p c),hB b2 (cProg y p4 c3 p5 c4),hO zD (vS p4 y.Arrays c3) cs,hO zK (vS p5 y.Parts c4) cs1,hB b1 zTwo,hB b (cProg p1 p2 c1 p3 c2)])) ?_;obtain ⟨⟨y2,y3⟩,hy1,N⟩:=zB N;refine tS [hB r01 (cRd r0 p c)] [hB b2 (cProg y p4 c3 p5 c4),hO zD (vS p4 y.Arrays c3) cs,hO zK (vS p5 y.Parts c4) cs1,hB b1 zTwo,hB b (cProg p1 p2 c1 p3 c2)] (xQ r0 60 _ hy1 h) ?_;rintro I01 hs2 v2 k2 le1 - ⟨v0,kk,rfl,rfl,rfl,h6⟩ -;have h3:=iM le1 h3;have h4:=iM le1 h4;have H:=H.trans le1;obtain ⟨p6,c5,rfl,h7⟩:=yE h6;refine yH rfl<|wD<|yF [(14,.bool (y2 == 0))]<|zL<|pO 5 rfl ?_;intro I02 le2 hl0;have hat:At I02 ⟨b,0,none⟩ (cProg p1 p2 c1 p3 c2):=At.of_blk hl0;have h7:=h7.mono le2;have h3:=iM le2 h3;have h4:=iM le2 h4;have H:=H.trans le2;obtain ⟨o0,ho0,hMc⟩:=zB N;refine yU (fun I' hs' m'=>∃ (Arrays:List zD) (Parts:List zK) (x:zM) (p7:Option Addr) (c6:Nat) (cs2:List Value) (p8:Option Addr) (c7:Nat) (cs3:List Value) (p9:Option Addr) (c8:Nat),o0=(Arrays,Parts,x)∧I02.le I'∧(RL I' cs2 Arrays)∧(RL I' cs3 Parts)∧(S4 I' p9 x.b c8)∧hs'=[hB r01 (cRd x p9 c8),hB b2 [vS p7 Arrays c6,vS p8 Parts c7],hO zD (vS p7 Arrays c6) cs2,hO zK (vS p8 Parts c7) cs3,hB b1 zTwo]∧m'=[(4,vP b1 0),(5,vP b2 0)]) ?_ ?_
 · have H:=iS I02;refine yL ho0 ?_ ?_
   · intro hc N;obtain ⟨⟨y5,y6⟩,hy2,N⟩:=zB N;obtain ⟨⟨y8,y9⟩,hy3,N⟩:=zB N;obtain ⟨l,hy4,N⟩:=zB N;refine vC [.p (vP b2 0) [],.p (vS p4 y.Arrays c3) [0],.p (vP r01 0) [],.x (fun I' v hx=>∃ b3,v=vS (some ⟨b3,0,none⟩) ([(⟨[65]⟩:Str),(⟨[68]⟩:Str),(⟨[69]⟩:Str)]:List Str) 3∧hx=[]∧(SL I' (vS (some ⟨b3,0,none⟩) ([(⟨[65]⟩:Str),(⟨[68]⟩:Str),(⟨[69]⟩:Str)]:List Str) 3) ([(⟨[65]⟩:Str),(⟨[68]⟩:Str),(⟨[69]⟩:Str)]:List Str))),.x (fun I' v hx=>∃ p10 c9,v=vT y5.l∧hx=[hB r01 (cRd y6 p10 c9)]∧(S4 I' p10 y6.b c9)),.p (vP r01 0) [],.x (fun I' v hx=>∃ b4,v=vS (some ⟨b4,0,none⟩) ([7,0,3,(-1)]:List Int) 4∧hx=[]∧(SL I' (vS (some ⟨b4,0,none⟩) ([7,0,3,(-1)]:List Int) 4) ([7,0,3,(-1)]:List Int))),.x (fun I' v hx=>∃ p11 c10,v=vI y8∧hx=[hB r01 (cRd y9 p11 c10)]∧(S4 I' p11 y9.b c10)),.x (fun I' v hx=>∃ b5,v=vS (some ⟨b5,0,none⟩) ([y8]:List Int) 1∧hx=[]∧(SL I' (vS (some ⟨b5,0,none⟩) ([y8]:List Int) 1) ([y8]:List Int))),.x (fun I' v hx=>∃ b51,v=vA [vT y5.l,vS (some ⟨b51,0,none⟩) ([y8]:List Int) 1]∧hx=[]∧(SL I' (vS (some ⟨b51,0,none⟩) ([y8]:List Int) 1) ([y8]:List Int))),.x (fun I' v hx=>∃ b6,v=vS (some ⟨b6,0,none⟩) ([(zD.mk y5 ([y8]:List Int))]:List zD) 1∧hx=[]∧(SL I' (vS (some ⟨b6,0,none⟩) ([(zD.mk y5 ([y8]:List Int))]:List zD) 1) ([(zD.mk y5 ([y8]:List Int))]:List zD))),.x (fun I' v hx=>∃ p12 c11 cs4,v=vS p12 l c11∧hx=[hO zD (vS p12 l c11) cs4]∧(RL I' cs4 l))] [[],[(0,false)],[],[],[(2,false),(3,false),(14,true)],[],[],[(5,false),(6,false),(4,true)],[(7,false)],[(4,false),(8,false)],[(9,false)],[(1,false),(10,false),(15,true)]] [hB b2 (cProg y p4 c3 p5 c4),hO zK (vS p5 y.Parts c4) cs1,hB b1 zTwo] [[hB r01 (cRd y3 p6 c5)],[hO zD (vS p4 y.Arrays c3) cs]] [(7,true),(11,true)] (yD [1,3,4,0,2]) ?_ ?_
     · refine Op<|Op<|Op<|Ox ?_<|Ox ?_<|Op<|Ox ?_<|Ox ?_<|Ox ?_<|Ox ?_<|Ox ?_<|Ox ?_<|On
       · intro I1 hf le1;refine yR [] ?_;have H:=iS I1;refine xU [vT ([65]),vT ([68]),vT ([69])] Str ?_;intro b3 hb3;have h11:RL I1 [vT ([65]),vT ([68]),vT ([69])] ([(⟨[65]⟩:Str),(⟨[68]⟩:Str),(⟨[69]⟩:Str)]:List Str):=⟨[vT ([65])],_,rfl,rfl,rfl,⟨[vT ([68])],_,rfl,rfl,rfl,⟨[vT ([69])],_,rfl,rfl,rfl,rfl⟩⟩⟩;refine yJ 0 rfl ?_;intro I04 le3 hl01;have h12:=SL.of_frozen hl01 le3 h11;have H:=H.trans le3;exact yP [] H ⟨_,rfl,rfl,h12⟩
       · intro I1 hf le1;refine zF ?_;rintro _ _ ⟨rfl,rfl⟩;refine zF ?_;rintro _ _ ⟨b3,rfl,rfl,h12⟩;refine zF ?_;rintro _ _ rfl;refine yR [(18,vP r01 0),(19,vS (some ⟨b3,0,none⟩) ([(⟨[65]⟩:Str),(⟨[68]⟩:Str),(⟨[69]⟩:Str)]:List Str) 3)] ?_;have H:=iS I1;have h7:=h7.mono le1;refine tS [hB r01 (cRd y3 p6 c5)] (hB b2 (cProg y p4 c3 p5 c4)::hO zK (vS p5 y.Parts c4) cs1::hB b1 zTwo::hf) (mC y3 ([(⟨[65]⟩:Str),(⟨[68]⟩:Str),(⟨[69]⟩:Str)]:List Str) _ hy2 h7 h12) ?_;rintro I05 hs2 v2 k2 le4 - ⟨v02,kk1,rfl,rfl,rfl,h14⟩ -;have H:=H.trans le4;obtain ⟨p10,c9,rfl,h15⟩:=yE h14;exact yP [hB r01 (cRd y6 p10 c9)] H ⟨_,_,rfl,rfl,h15⟩
       · intro I1 hf le1;refine yR [] ?_;have H:=iS I1;refine xU [vI 7,vI 0,vI 3,vI (-1)] Int ?_;intro b4 hb4;have h16:RL I1 [vI 7,vI 0,vI 3,vI (-1)] ([7,0,3,(-1)]:List Int):=⟨[vI 7],_,rfl,rfl,rfl,⟨[vI 0],_,rfl,rfl,rfl,⟨[vI 3],_,rfl,rfl,rfl,⟨[vI (-1)],_,rfl,rfl,rfl,rfl⟩⟩⟩⟩;refine yJ 0 rfl ?_;intro I06 le5 hl02;have h17:=SL.of_frozen hl02 le5 h16;have H:=H.trans le5;exact yP [] H ⟨_,rfl,rfl,h17⟩
       · intro I1 hf le1;refine zF ?_;rintro _ _ ⟨rfl,rfl⟩;refine zF ?_;rintro _ _ ⟨b4,rfl,rfl,h17⟩;refine zF ?_;rintro _ _ ⟨p10,c9,rfl,rfl,h15⟩;refine yR [(21,vP r01 0),(22,vS (some ⟨b4,0,none⟩) ([7,0,3,(-1)]:List Int) 4)] ?_;have H:=iS I1;refine tS [hB r01 (cRd y6 p10 c9)] (hB b2 (cProg y p4 c3 p5 c4)::hO zK (vS p5 y.Parts c4) cs1::hB b1 zTwo::hf) (xH y6 ([7,0,3,(-1)]:List Int) _ hy3 h15 h17) ?_;rintro I07 hs2 v2 k2 le6 - ⟨v04,kk2,rfl,rfl,rfl,h19⟩ -;have H:=H.trans le6;obtain ⟨p11,c10,rfl,h20⟩:=yE h19;exact yP [hB r01 (cRd y9 p11 c10)] H ⟨_,_,rfl,rfl,h20⟩
       · intro I1 hf le1;refine zF ?_;rintro _ _ ⟨p11,c10,rfl,rfl,h20⟩;refine yR [(23,vI y8)] ?_;have H:=iS I1;refine xU [vI y8] Int ?_;intro b5 hb5;have h21:RL I1 [vI y8] ([y8]:List Int):=⟨[vI y8],_,rfl,rfl,rfl,rfl⟩;refine yJ 0 rfl ?_;intro I08 le7 hl03;have h22:=SL.of_frozen hl03 le7 h21;have H:=H.trans le7;exact yP [] H ⟨_,rfl,rfl,h22⟩
       · intro I1 hf le1;refine zF ?_;rintro _ _ ⟨p10,c9,rfl,rfl,h15⟩;refine zF ?_;rintro _ _ ⟨b5,rfl,rfl,h22⟩;exact yR [(20,vT y5.l),(24,vS (some ⟨b5,0,none⟩) ([y8]:List Int) 1)]<|pM 10 [(25,vA [vT y5.l,vS (some ⟨b5,0,none⟩) ([y8]:List Int) 1])]<|yP [] iR ⟨_,rfl,rfl,h22⟩
       · intro I1 hf le1;refine zF ?_;rintro _ _ ⟨b51,rfl,rfl,h221⟩;refine yR [(25,vA [vT y5.l,vS (some ⟨b51,0,none⟩) ([y8]:List Int) 1])] ?_;have H:=iS I1;refine xU [vT y5.l,vS (some ⟨b51,0,none⟩) ([y8]:List Int) 1] zD ?_;intro b6 hb6;have h23:RL I1 [vT y5.l,vS (some ⟨b51,0,none⟩) ([y8]:List Int) 1] ([(zD.mk y5 ([y8]:List Int))]:List zD):=⟨[vT y5.l,vS (some ⟨b51,0,none⟩) ([y8]:List Int) 1],_,rfl,rfl,(qJ ⟨_,rfl,h221⟩),rfl⟩;refine yJ 0 rfl ?_;intro I09 le8 hl04;have h24:=SL.of_frozen hl04 le8 h23;have H:=H.trans le8;exact yP [] H ⟨_,rfl,rfl,h24⟩
       intro I1 hf le1;refine zF ?_;rintro _ _ ⟨rfl,rfl⟩;refine zF ?_;rintro _ _ ⟨b6,rfl,rfl,h24⟩;refine zF ?_;rintro _ _ rfl;refine yR [(17,vS p4 y.Arrays c3),(26,vS (some ⟨b6,0,none⟩) ([(zD.mk y5 ([y8]:List Int))]:List zD) 1)] ?_;have h3:=iM le1 h3;obtain ⟨ccs,k0,k01⟩:=h24;have h24:SL I1 (vS (some ⟨b6,0,none⟩) ([(zD.mk y5 ([y8]:List Int))]:List zD) 1) ([(zD.mk y5 ([y8]:List Int))]:List zD):=⟨_,k0,k01⟩;exact qI 127 2 0 rfl rfl rfl h3 (.inl k0) k01 hy4 fun p12 c11 cs4 h25=>vJ (hs':=(hO zD (vS p12 l c11) cs4::hB b2 (cProg y p4 c3 p5 c4)::hO zK (vS p5 y.Parts c4) cs1::hB b1 zTwo::hf)) rfl<|yP [hO zD (vS p12 l c11) cs4] iR ⟨_,_,_,rfl,rfl,h25⟩
     intro I010 le9;refine zF ?_;rintro _ _ ⟨p11,c10,rfl,rfl,h20⟩;refine zF ?_;rintro _ _ ⟨p12,c11,cs4,rfl,rfl,h25⟩;refine yR [(4,vP b1 0),(5,vP b2 0),(27,vS p12 l c11)] ?_;have h4:=iM le9 h4;have H:=H.trans le9;exact yC 13 [] [(28,vP b2 0)]<|xB 2 [vS p12 l c11,vS p5 y.Parts c4] [hO zD (vS p12 l c11) cs4,hB r01 (cRd y9 p11 c10),hB b2 [vS p12 l c11,vS p5 y.Parts c4],hO zK (vS p5 y.Parts c4) cs1,hB b1 zTwo] rfl rfl rfl rfl<|yH rfl<|wC (zZ [1,2,0,3,4] rfl (by decide))<|yS [(4,vP b1 0),(5,vP b2 0)]<|zW ⟨_,_,_,_,_,_,_,_,_,_,_,(zC N).symm,H,h25,h4,h20,rfl,rfl⟩
   intro hc N;refine yF [(29,.bool (y2 == 1))]<|zL ?_;obtain ⟨o01,ho01,hMc1⟩:=zB N;refine yU (fun I' hs' m'=>∃ (Arrays1:List zD) (Parts1:List zK) (x1:zM) (p13:Option Addr) (c12:Nat) (cs5:List Value) (p14:Option Addr) (c13:Nat) (cs6:List Value) (p15:Option Addr) (c14:Nat),o01=(Arrays1,Parts1,x1)∧I02.le I'∧(RL I' cs5 Arrays1)∧(RL I' cs6 Parts1)∧(S4 I' p15 x1.b c14)∧hs'=[hB r01 (cRd x1 p15 c14),hB b2 [vS p13 Arrays1 c12,vS p14 Parts1 c13],hO zD (vS p13 Arrays1 c12) cs5,hO zK (vS p14 Parts1 c13) cs6,hB b1 zTwo]∧m'=[(4,vP b1 0),(5,vP b2 0)]) ?_ ?_
   · have H:=iS I02;refine yL ho01 ?_ ?_
     · intro hc1 N;refine yK<|yB [1] [(34,.bool (decide ((y.Arrays.length:Int) > 0)))]<|zL ?_;obtain ⟨o02,ho02,hMc2⟩:=zB N;refine yU (fun I' hs' m'=>∃ (Arrays2:List zD) (x2:zM) (p16:Option Addr) (c15:Nat) (cs7:List Value) (p17:Option Addr) (c16:Nat),o02=(Arrays2,x2)∧I02.le I'∧(RL I' cs7 Arrays2)∧(S4 I' p17 x2.b c16)∧hs'=[hB r01 (cRd x2 p17 c16),hB b2 [vS p16 Arrays2 c15,vS p5 y.Parts c4],hO zD (vS p16 Arrays2 c15) cs7,hO zK (vS p5 y.Parts c4) cs1,hB b1 zTwo]∧m'=[(4,vP b1 0),(5,vP b2 0)]) ?_ ?_
       · have H:=iS I02;refine yL ho02 ?_ ?_
         · intro hc2 N;obtain ⟨⟨y11,y12⟩,hy5,N⟩:=zB N;refine vC [.p (vP b2 0) [],.p (vS p4 y.Arrays c3) [0],.p (vP r01 0) [],.x (fun I' v hx=>∃ b7,v=vS (some ⟨b7,0,none⟩) ([1,2,7]:List Int) 3∧hx=[]∧(SL I' (vS (some ⟨b7,0,none⟩) ([1,2,7]:List Int) 3) ([1,2,7]:List Int))),.x (fun I' v hx=>∃ p18 c17,v=vI y11∧hx=[hB r01 (cRd y12 p18 c17)]∧(S4 I' p18 y12.b c17)),.x (fun I' v hx=>∃ b8,v=vS (some ⟨b8,0,none⟩) ([y11]:List Int) 1∧hx=[]∧(SL I' (vS (some ⟨b8,0,none⟩) ([y11]:List Int) 1) ([y11]:List Int)))] [[],[(0,false)],[],[],[(2,false),(3,false),(9,true)],[(4,false)]] [hB b2 (cProg y p4 c3 p5 c4),hO zD (vS p4 y.Arrays c3) cs,hO zK (vS p5 y.Parts c4) cs1,hB b1 zTwo] [[hB r01 (cRd y3 p6 c5)]] [(1,false),(4,true),(5,false)] (yD [1,2,3,4,0]) ?_ ?_
           · refine Op<|Op<|Op<|Ox ?_<|Ox ?_<|Ox ?_<|On
             · intro I1 hf le1;refine yR [] ?_;have H:=iS I1;refine xU [vI 1,vI 2,vI 7] Int ?_;intro b7 hb7;have h31:RL I1 [vI 1,vI 2,vI 7] ([1,2,7]:List Int):=⟨[vI 1],_,rfl,rfl,rfl,⟨[vI 2],_,rfl,rfl,rfl,⟨[vI 7],_,rfl,rfl,rfl,rfl⟩⟩⟩;refine yJ 0 rfl ?_;intro I013 le10 hl05;have h32:=SL.of_frozen hl05 le10 h31;have H:=H.trans le10;exact yP [] H ⟨_,rfl,rfl,h32⟩
             · intro I1 hf le1;refine zF ?_;rintro _ _ ⟨rfl,rfl⟩;refine zF ?_;rintro _ _ ⟨b7,rfl,rfl,h32⟩;refine zF ?_;rintro _ _ rfl;refine yR [(37,vP r01 0),(38,vS (some ⟨b7,0,none⟩) ([1,2,7]:List Int) 3)] ?_;have H:=iS I1;have h7:=h7.mono le1;refine tS [hB r01 (cRd y3 p6 c5)] (hB b2 (cProg y p4 c3 p5 c4)::hO zD (vS p4 y.Arrays c3) cs::hO zK (vS p5 y.Parts c4) cs1::hB b1 zTwo::hf) (xH y3 ([1,2,7]:List Int) _ hy5 h7 h32) ?_;rintro I014 hs2 v2 k2 le11 - ⟨v06,kk3,rfl,rfl,rfl,h34⟩ -;have H:=H.trans le11;obtain ⟨p18,c17,rfl,h35⟩:=yE h34;exact yP [hB r01 (cRd y12 p18 c17)] H ⟨_,_,rfl,rfl,h35⟩
             intro I1 hf le1;refine zF ?_;rintro _ _ ⟨p18,c17,rfl,rfl,h35⟩;refine yR [(39,vI y11)] ?_;have H:=iS I1;refine xU [vI y11] Int ?_;intro b8 hb8;have h36:RL I1 [vI y11] ([y11]:List Int):=⟨[vI y11],_,rfl,rfl,rfl,rfl⟩;refine yJ 0 rfl ?_;intro I015 le12 hl06;have h37:=SL.of_frozen hl06 le12 h36;have H:=H.trans le12;exact yP [] H ⟨_,rfl,rfl,h37⟩
           intro I016 le13;refine zF ?_;rintro _ _ ⟨rfl,rfl⟩;refine zF ?_;rintro _ _ ⟨p18,c17,rfl,rfl,h35⟩;refine zF ?_;rintro _ _ ⟨b8,rfl,rfl,h37⟩;refine yR [(4,vP b1 0),(5,vP b2 0),(36,vS p4 y.Arrays c3),(40,vS (some ⟨b8,0,none⟩) ([y11]:List Int) 1)] ?_;have h3:=iM le13 h3;have H:=H.trans le13;obtain ⟨x3,hy6,N⟩:=zB N;refine oU 2 rfl rfl rfl h3 hy6 ?_;intro ad ccs1 hat1 hcc hrep;obtain ⟨p19,c18,rfl,h38⟩:=xX hrep;refine yC 8 [] [(42,.pointer (some (ad.add 1)))] ?_;obtain ⟨l1,hy7,N⟩:=zB N;refine tT (c:=[vT x3.Name.l,vS (some ⟨b8,0,none⟩) ([y11]:List Int) 1]) (x':=(zD.mk x3.Name ([y11]:List Int))) 2 1 rfl rfl rfl hat1 rfl rfl hcc (by kernel_rfl) (by kernel_rfl) (by kernel_rfl) h3 hy6 (by kernel_rfl) (qJ ⟨_,rfl,h37⟩) ?_;rw [show y.Arrays.set (0:Int).toNat (zD.mk x3.Name ([y11]:List Int))=l1 from zC hy7];intro cs8 h39 hl07;exact mA (m':=[(4,vP b1 0),(5,vP b2 0),(40,vS (some ⟨b8,0,none⟩) ([y11]:List Int) 1)]) ⟨rfl,rfl,rfl,trivial⟩<|dE (hs':=[hB r01 (cRd y12 p18 c17),hB b2 [vS p4 l1 c3,vS p5 y.Parts c4],hO zD (vS p4 l1 c3) cs8,hO zK (vS p5 y.Parts c4) cs1,hB b1 zTwo]) (m':=[(4,vP b1 0),(5,vP b2 0),(40,vS (some ⟨b8,0,none⟩) ([y11]:List Int) 1)]) (by first | rfl | simp only [vS,hl07,List.nil_append,List.cons_append,List.set_cons_zero,List.set_cons_succ,List.eraseIdx_cons_zero,List.eraseIdx_cons_succ]) (by first | rfl | simp only [vS,hl07])<|yH rfl<|yS [(4,vP b1 0),(5,vP b2 0)]<|zW ⟨_,_,_,_,_,_,_,(zC N).symm,H,h39,h35,rfl,rfl⟩
         intro hc2 N;exact zV<|yS [(4,vP b1 0),(5,vP b2 0)]<|zW ⟨_,_,_,_,_,_,_,(zC N).symm,H,h3,h7,rfl,rfl⟩
       rintro I012 hs2 m2 ⟨Arrays2,x2,p16,c15,cs7,p17,c16,heq,le14,h29,h30,rfl,rfl⟩;subst o02;have h4:=iM le14 h4;have H:=H.trans le14;exact yS [(4,vP b1 0),(5,vP b2 0)]<|zW ⟨_,_,_,_,_,_,_,_,_,_,_,(zC hMc2).symm,H,h29,h4,h30,rfl,rfl⟩
     intro hc1 N;refine yF [(43,.bool (y2 == 2))]<|zL ?_;obtain ⟨o03,ho03,hMc3⟩:=zB N;refine yU (fun I' hs' m'=>∃ (Parts2:List zK) (x4:zM) (p20:Option Addr) (c19:Nat) (cs9:List Value) (p21:Option Addr) (c20:Nat),o03=(Parts2,x4)∧I02.le I'∧(RL I' cs9 Parts2)∧(S4 I' p21 x4.b c20)∧hs'=[hB r01 (cRd x4 p21 c20),hB b2 [vS p4 y.Arrays c3,vS p20 Parts2 c19],hO zD (vS p4 y.Arrays c3) cs,hO zK (vS p20 Parts2 c19) cs9,hB b1 zTwo]∧m'=[(4,vP b1 0),(5,vP b2 0)]) ?_ ?_
     · have H:=iS I02;refine yL ho03 ?_ ?_
       · intro hc3 N;refine yF [(46,.bool (decide ((y.Parts.length:Int) > 0)))]<|zL ?_;obtain ⟨o04,ho04,hMc4⟩:=zB N;refine yU (fun I' hs' m'=>∃ (Parts3:List zK) (x5:zM) (p22:Option Addr) (c21:Nat) (cs10:List Value) (p23:Option Addr) (c22:Nat),o04=(Parts3,x5)∧I02.le I'∧(RL I' cs10 Parts3)∧(S4 I' p23 x5.b c22)∧hs'=[hB r01 (cRd x5 p23 c22),hB b2 [vS p4 y.Arrays c3,vS p22 Parts3 c21],hO zD (vS p4 y.Arrays c3) cs,hO zK (vS p22 Parts3 c21) cs10,hB b1 zTwo]∧m'=[(4,vP b1 0),(5,vP b2 0)]) ?_ ?_
         · have H:=iS I02;refine yL ho04 ?_ ?_
           · intro hc4 N;obtain ⟨x6,hy8,N⟩:=zB N;obtain ⟨⟨y14,y15⟩,hy9,N⟩:=zB N;obtain ⟨⟨y17,y18⟩,hy10,N⟩:=zB N;obtain ⟨⟨y20,y21⟩,hy11,N⟩:=zB N;refine vC [.p (vP b2 1) [],.p (vS p5 y.Parts c4) [0],.p (vP r01 0) [],.p (vP r01 0) [],.p (vP r01 0) [],.p (vP b2 1) [],.p (vS p5 y.Parts c4) [0],.x (fun I' v hx=>∃ ad1 p24 c23 p25 c24,v=.pointer (some ad1)∧hx=[]∧(AtO (vS p5 y.Parts c4) (Rp.sz zK) (0:Int).toNat ad1)∧((cs1.drop ((0:Int).toNat * Rp.sz zK)).take (Rp.sz zK)=(cPart x6 p24 c23 p25 c24))∧(S4 I' p24 x6.Nest c23)∧(S4 I' p25 x6.Body c24)),.x (fun I' v hx=>∃ ad11 p241 c231 p251 c241,v=.pointer (some ad11)∧hx=[]∧(AtO (vS p5 y.Parts c4) (Rp.sz zK) (0:Int).toNat ad11)∧((cs1.drop ((0:Int).toNat * Rp.sz zK)).take (Rp.sz zK)=(cPart x6 p241 c231 p251 c241))∧(S4 I' p241 x6.Nest c231)∧(S4 I' p251 x6.Body c241)),.x (fun I' v hx=>∃ p2411 c2311,v=vS p2411 x6.Nest c2311∧hx=[]∧(S4 I' p2411 x6.Nest c2311)),.x (fun I' v hx=>∃ p26 c25 p27 c26,v=vS p26 y14 c25∧hx=[hB r01 (cRd y15 p27 c26)]∧(S4 I' p26 y14 c25)∧(S4 I' p27 y15.b c26)),.x (fun I' v hx=>∃ p28 c27 p29 c28,v=vS p28 y17 c27∧hx=[hB r01 (cRd y18 p29 c28)]∧(S4 I' p28 y17 c27)∧(S4 I' p29 y18.b c28)),.x (fun I' v hx=>∃ p30 c29 p31 c30,v=vS p30 y20 c29∧hx=[hB r01 (cRd y21 p31 c30)]∧(S4 I' p30 y20 c29)∧(S4 I' p31 y21.b c30))] [[],[(0,false)],[],[],[],[],[(5,false)],[(6,false)],[(7,false)],[(8,false)],[(4,false),(9,false),(16,true)],[(3,false),(10,true)],[(2,false),(11,true)]] [hB b2 (cProg y p4 c3 p5 c4),hO zD (vS p4 y.Arrays c3) cs,hO zK (vS p5 y.Parts c4) cs1,hB b1 zTwo] [[hB r01 (cRd y3 p6 c5)]] [(1,false),(12,true)] (yD [1,2,3,4,0]) ?_ ?_
             · refine Op<|Op<|Op<|Op<|Op<|Op<|Op<|Ox ?_<|Ox ?_<|Ox ?_<|Ox ?_<|Ox ?_<|Ox ?_<|On
               · intro I1 hf le1;refine yR [(53,vS p5 y.Parts c4)] ?_;have h4:=iM le1 h4;refine oU 2 rfl rfl rfl h4 hy8 ?_;intro ad1 ccs2 hat2 hcc1 hrep1;obtain ⟨p24,c23,p25,c24,rfl,h44,h45⟩:=wZ hrep1;exact yP [] iR ⟨_,_,_,_,_,rfl,rfl,hat2,hcc1,h44,h45⟩
               · intro I1 hf le1;refine zF ?_;rintro _ _ ⟨ad1,p24,c23,p25,c24,rfl,rfl,hat2,hcc1,h44,h45⟩;exact yR [(54,.pointer (some ad1))]<|pM 9 [(55,.pointer (some ad1))]<|yP [] iR ⟨_,_,_,_,_,rfl,rfl,hat2,hcc1,h44,h45⟩
               · intro I1 hf le1;refine zF ?_;rintro _ _ ⟨ad11,p241,c231,p251,c241,rfl,rfl,hat21,hcc11,h441,h451⟩;exact yR [(55,.pointer (some ad11))]<|zC3 2 0 hat21 hcc11 [vS p241 x6.Nest c231] (vS p241 x6.Nest c231) rfl rfl<|yP [] iR ⟨_,_,rfl,rfl,h441⟩
               · intro I1 hf le1;refine zF ?_;rintro _ _ ⟨rfl,rfl⟩;refine zF ?_;rintro _ _ ⟨p2411,c2311,rfl,rfl,h4411⟩;refine zF ?_;rintro _ _ rfl;refine yR [(51,vP r01 0),(56,vS p2411 x6.Nest c2311)] ?_;have H:=iS I1;have h7:=h7.mono le1;refine tS [hB r01 (cRd y3 p6 c5)] (hB b2 (cProg y p4 c3 p5 c4)::hO zD (vS p4 y.Arrays c3) cs::hO zK (vS p5 y.Parts c4) cs1::hB b1 zTwo::hf) (gG y3 x6.Nest _ hy9 h7 h4411) ?_;rintro I019 hs2 v2 k2 le15 - ⟨v011,kk4,rfl,rfl,h46,h47⟩ -;have H:=H.trans le15;obtain ⟨p26,c25,rfl⟩:=h46.form;obtain ⟨p27,c26,rfl,h48⟩:=yE h47;exact yP [hB r01 (cRd y15 p27 c26)] H ⟨_,_,_,_,rfl,rfl,h46,h48⟩
               · intro I1 hf le1;refine zF ?_;rintro _ _ ⟨rfl,rfl⟩;refine zF ?_;rintro _ _ ⟨p26,c25,p27,c26,rfl,rfl,h46,h48⟩;refine yR [(50,vP r01 0),(57,vS p26 y14 c25)] ?_;have H:=iS I1;refine tS [hB r01 (cRd y15 p27 c26)] (hB b2 (cProg y p4 c3 p5 c4)::hO zD (vS p4 y.Arrays c3) cs::hO zK (vS p5 y.Parts c4) cs1::hB b1 zTwo::hf) (gG y15 y14 _ hy10 h48 h46) ?_;rintro I020 hs2 v2 k2 le16 - ⟨v013,kk5,rfl,rfl,h49,h50⟩ -;have H:=H.trans le16;obtain ⟨p28,c27,rfl⟩:=h49.form;obtain ⟨p29,c28,rfl,h51⟩:=yE h50;exact yP [hB r01 (cRd y18 p29 c28)] H ⟨_,_,_,_,rfl,rfl,h49,h51⟩
               intro I1 hf le1;refine zF ?_;rintro _ _ ⟨rfl,rfl⟩;refine zF ?_;rintro _ _ ⟨p28,c27,p29,c28,rfl,rfl,h49,h51⟩;refine yR [(49,vP r01 0),(58,vS p28 y17 c27)] ?_;have H:=iS I1;refine tS [hB r01 (cRd y18 p29 c28)] (hB b2 (cProg y p4 c3 p5 c4)::hO zD (vS p4 y.Arrays c3) cs::hO zK (vS p5 y.Parts c4) cs1::hB b1 zTwo::hf) (gG y18 y17 _ hy11 h51 h49) ?_;rintro I021 hs2 v2 k2 le17 - ⟨v015,kk6,rfl,rfl,h52,h53⟩ -;have H:=H.trans le17;obtain ⟨p30,c29,rfl⟩:=h52.form;obtain ⟨p31,c30,rfl,h54⟩:=yE h53;exact yP [hB r01 (cRd y21 p31 c30)] H ⟨_,_,_,_,rfl,rfl,h52,h54⟩
             intro I022 le18;refine zF ?_;rintro _ _ ⟨rfl,rfl⟩;refine zF ?_;rintro _ _ ⟨p30,c29,p31,c30,rfl,rfl,h52,h54⟩;refine yR [(4,vP b1 0),(5,vP b2 0),(48,vS p5 y.Parts c4),(59,vS p30 y20 c29)] ?_;have h4:=iM le18 h4;have H:=H.trans le18;obtain ⟨x7,hy12,N⟩:=zB N;refine oU 3 rfl rfl rfl h4 hy12 ?_;intro ad2 ccs3 hat3 hcc2 hrep2;obtain ⟨p32,c31,p33,c32,rfl,h55,h56⟩:=wZ hrep2;refine yC 15 [] [(61,.pointer (some ad2))] ?_;obtain ⟨l2,hy13,N⟩:=zB N;refine tT (c:=[vS p30 y20 c29,vS p33 x7.Body c32]) (x':=(zK.mk y20 x7.Body)) 3 0 rfl rfl rfl hat3 rfl rfl hcc2 (by kernel_rfl) (by kernel_rfl) (by kernel_rfl) h4 hy12 (by kernel_rfl) (rT ⟨_,_,rfl,h52,h56⟩) ?_;rw [show y.Parts.set (0:Int).toNat (zK.mk y20 x7.Body)=l2 from zC hy13];intro cs11 h57 hl08;exact mA (m':=[(4,vP b1 0),(5,vP b2 0),(59,vS p30 y20 c29)]) ⟨rfl,rfl,rfl,trivial⟩<|dE (hs':=[hB r01 (cRd y21 p31 c30),hB b2 [vS p4 y.Arrays c3,vS p5 l2 c4],hO zD (vS p4 y.Arrays c3) cs,hO zK (vS p5 l2 c4) cs11,hB b1 zTwo]) (m':=[(4,vP b1 0),(5,vP b2 0),(59,vS p30 y20 c29)]) (by first | rfl | simp only [vS,hl08,List.nil_append,List.cons_append,List.set_cons_zero,List.set_cons_succ,List.eraseIdx_cons_zero,List.eraseIdx_cons_succ]) (by first | rfl | simp only [vS,hl08])<|yH rfl<|yS [(4,vP b1 0),(5,vP b2 0)]<|zW ⟨_,_,_,_,_,_,_,(zC N).symm,H,h57,h54,rfl,rfl⟩
           intro hc4 N;exact zV<|yS [(4,vP b1 0),(5,vP b2 0)]<|zW ⟨_,_,_,_,_,_,_,(zC N).symm,H,h4,h7,rfl,rfl⟩
         rintro I018 hs2 m2 ⟨Parts3,x5,p22,c21,cs10,p23,c22,heq1,le19,h42,h43,rfl,rfl⟩;subst o04;have H:=H.trans le19;exact yS [(4,vP b1 0),(5,vP b2 0)]<|zW ⟨_,_,_,_,_,_,_,(zC hMc4).symm,H,h42,h43,rfl,rfl⟩
       intro hc3 N;refine yF [(62,.bool (y2 == 3))]<|zL ?_;obtain ⟨o05,ho05,hMc5⟩:=zB N;refine yU (fun I' hs' m'=>∃ (Parts4:List zK) (x8:zM) (p34:Option Addr) (c33:Nat) (cs12:List Value) (p35:Option Addr) (c34:Nat),o05=(Parts4,x8)∧I02.le I'∧(RL I' cs12 Parts4)∧(S4 I' p35 x8.b c34)∧hs'=[hB r01 (cRd x8 p35 c34),hB b2 [vS p4 y.Arrays c3,vS p34 Parts4 c33],hO zD (vS p4 y.Arrays c3) cs,hO zK (vS p34 Parts4 c33) cs12,hB b1 zTwo]∧m'=[(4,vP b1 0),(5,vP b2 0)]) ?_ ?_
       · have H:=iS I02;refine yL ho05 ?_ ?_
         · intro hc5 N;refine yI ?_;obtain ⟨o06,ho06,hMc6⟩:=zB N;refine yU (fun I' hs' m'=>∃ (t76:Bool),o06=t76∧I02.le I'∧hs'=[hB r01 (cRd y3 p6 c5),hB b2 (cProg y p4 c3 p5 c4),hO zD (vS p4 y.Arrays c3) cs,hO zK (vS p5 y.Parts c4) cs1,hB b1 zTwo]∧m'=[(0,vP r01 0),(4,vP b1 0),(5,vP b2 0),(6,vI (y.Parts.length:Int)),(76,.bool t76)]) ?_ ?_
           · have H:=iS I02;refine zP<|yC 3 [] [(66,.bool (decide ((y.Parts.length:Int) > 0)))] ?_;cases hc6:(decide ((y.Parts.length:Int) > 0)) with
             | true =>
              have hM0:=zS hc6 ho06
              try rw [hc6]
              refine yC 7 [1] [(68,vS p5 y.Parts c4),(70,vI (W ((y.Parts.length:Int) - 1)))] ?_;obtain ⟨x9,hy14,N⟩:=zB hM0;refine oU 3 rfl rfl rfl h4 hy14 ?_;intro ad3 ccs4 hat4 hcc3 hrep3;obtain ⟨p36,c35,p37,c36,rfl,h60,h61⟩:=wZ hrep3;exact yC 9 [] [(72,.pointer (some (ad3.add 1)))]<|zC3 3 1 hat4 hcc3 [vS p37 x9.Body c36] (vS p37 x9.Body c36) rfl rfl<|yB [] [(76,.bool (decide ((x9.Body.length:Int) > 0)))]<|yS [(0,vP r01 0),(4,vP b1 0),(5,vP b2 0),(6,vI (y.Parts.length:Int)),(76,.bool (decide ((x9.Body.length:Int) > 0)))]<|zW (ct N H)
             | false =>
              have hM01:=zQ hc6 ho06
              try rw [hc6]
              exact yB [] [(76,vF)]<|yS [(0,vP r01 0),(4,vP b1 0),(5,vP b2 0),(6,vI (y.Parts.length:Int)),(76,vF)]<|zW (ct hM01 H)
           rintro I024 hs2 m2 ⟨t76,heq2,le20,rfl,rfl⟩;subst o06;have h7:=h7.mono le20;have h4:=iM le20 h4;have H:=H.trans le20;refine zL ?_;obtain ⟨o07,ho07,hMc7⟩:=zB hMc6;refine yU (fun I' hs' m'=>∃ (Parts5:List zK) (x10:zM) (p38:Option Addr) (c37:Nat) (cs13:List Value) (p39:Option Addr) (c38:Nat),o07=(Parts5,x10)∧I024.le I'∧(RL I' cs13 Parts5)∧(S4 I' p39 x10.b c38)∧hs'=[hB r01 (cRd x10 p39 c38),hB b2 [vS p4 y.Arrays c3,vS p38 Parts5 c37],hO zD (vS p4 y.Arrays c3) cs,hO zK (vS p38 Parts5 c37) cs13,hB b1 zTwo]∧m'=[(4,vP b1 0),(5,vP b2 0)]) ?_ ?_
           · have H:=iS I024;refine yL ho07 ?_ ?_
             · intro hc7 N;obtain ⟨x11,hy15,N⟩:=zB N;obtain ⟨x12,hy16,N⟩:=zB N;obtain ⟨⟨y22,y23⟩,hy17,N⟩:=zB N;obtain ⟨⟨y24,y25⟩,hy18,N⟩:=zB N;obtain ⟨⟨y26,y27⟩,hy19,N⟩:=zB N;obtain ⟨l3,hy20,N⟩:=zB N;have hF:False:=hne _ _ _ _ _ (by assumption) (by assumption) (by assumption) hy15 hy16;obtain ⟨p40,c39,cs14,p41,c40,h64,h65⟩:∃ p40 c39 cs14 p41 c40,(RL I024 cs14 l3)∧(S4 I024 p41 y27.b c40):=hF.elim;exact zJC hF (imm':=I024) (hs':=[hB r01 (cRd y27 p41 c40),hB b2 [vS p4 y.Arrays c3,vS p40 l3 c39],hO zD (vS p4 y.Arrays c3) cs,hO zK (vS p40 l3 c39) cs14,hB b1 zTwo]) (m':=[(0,vP r01 0),(4,vP b1 0),(5,vP b2 0),(6,vI (y.Parts.length:Int)),(76,.bool t76)])<|yS [(4,vP b1 0),(5,vP b2 0)]<|zW ⟨_,_,_,_,_,_,_,(zC N).symm,H,h64,h65,rfl,rfl⟩
             intro hc7 N;exact zV<|yS [(4,vP b1 0),(5,vP b2 0)]<|zW ⟨_,_,_,_,_,_,_,(zC N).symm,H,h4,h7,rfl,rfl⟩
           rintro I025 hs2 m2 ⟨Parts5,x10,p38,c37,cs13,p39,c38,heq3,le21,h62,h63,rfl,rfl⟩;subst o07;have H:=H.trans le21;exact yS [(4,vP b1 0),(5,vP b2 0)]<|zW ⟨_,_,_,_,_,_,_,(zC hMc7).symm,H,h62,h63,rfl,rfl⟩
         intro hc5 N;refine yF [(100,.bool (y2 == 4))]<|zL ?_;obtain ⟨o08,ho08,hMc8⟩:=zB N;refine yU (fun I' hs' m'=>∃ (Parts6:List zK) (p42:Option Addr) (c41:Nat) (cs15:List Value),o08=Parts6∧I02.le I'∧(RL I' cs15 Parts6)∧hs'=[hB r01 (cRd y3 p6 c5),hB b2 [vS p4 y.Arrays c3,vS p42 Parts6 c41],hO zD (vS p4 y.Arrays c3) cs,hO zK (vS p42 Parts6 c41) cs15,hB b1 zTwo]∧m'=[(4,vP b1 0),(5,vP b2 0)]) ?_ ?_
         · have H:=iS I02;refine yL ho08 ?_ ?_
           · intro hc8 N;refine yF [(103,.bool (decide ((y.Parts.length:Int) > 0)))]<|zL ?_;obtain ⟨o09,ho09,hMc9⟩:=zB N;refine yU (fun I' hs' m'=>∃ (Parts7:List zK) (p43:Option Addr) (c42:Nat) (cs16:List Value),o09=Parts7∧I02.le I'∧(RL I' cs16 Parts7)∧hs'=[hB r01 (cRd y3 p6 c5),hB b2 [vS p4 y.Arrays c3,vS p43 Parts7 c42],hO zD (vS p4 y.Arrays c3) cs,hO zK (vS p43 Parts7 c42) cs16,hB b1 zTwo]∧m'=[(4,vP b1 0),(5,vP b2 0)]) ?_ ?_
             · have H:=iS I02;refine yL ho09 ?_ ?_
               · intro hc9 N;refine zP<|yC 4 [1] [(105,vS p5 y.Parts c4),(107,vI (W ((y.Parts.length:Int) - 1)))]<|bE N fun x13 hy21 N=>oU 3 rfl rfl rfl h4 hy21 ?_;intro ad4 ccs5 hat5 hcc4 hrep4;obtain ⟨p44,c43,p45,c44,rfl,h68,h69⟩:=wZ hrep4;refine yC 6 [] [(109,.pointer (some (ad4.add 1)))] ?_;obtain ⟨l4,hy22,N⟩:=zB N;refine tT (c:=[vS p44 x13.Nest c43,z0]) (x':=(zK.mk x13.Nest ([]:List zJ))) 3 1 rfl rfl rfl hat5 rfl rfl hcc4 (by kernel_rfl) (by kernel_rfl) (by kernel_rfl) h4 hy21 (by kernel_rfl) (rT ⟨_,_,rfl,h68,(SL.nil _)⟩) ?_;rw [show y.Parts.set (W ((y.Parts.length:Int) - 1)).toNat (zK.mk x13.Nest ([]:List zJ))=l4 from zC hy22];intro cs17 h70 hl09;exact mA (m':=[(4,vP b1 0),(5,vP b2 0)]) ⟨rfl,rfl,trivial⟩<|dE (hs':=[hB r01 (cRd y3 p6 c5),hB b2 [vS p4 y.Arrays c3,vS p5 l4 c4],hO zD (vS p4 y.Arrays c3) cs,hO zK (vS p5 l4 c4) cs17,hB b1 zTwo]) (m':=[(4,vP b1 0),(5,vP b2 0)]) (by first | rfl | simp only [vS,hl09,List.nil_append,List.cons_append,List.set_cons_zero,List.set_cons_succ,List.eraseIdx_cons_zero,List.eraseIdx_cons_succ]) (by first | rfl | simp only [vS,hl09])<|yH rfl<|yS [(4,vP b1 0),(5,vP b2 0)]<|zW ⟨_,_,_,_,(zC N).symm,H,h70,rfl,rfl⟩
               intro hc9 N;exact zV<|yS [(4,vP b1 0),(5,vP b2 0)]<|zW ⟨_,_,_,_,(zC N).symm,H,h4,rfl,rfl⟩
             rintro I027 hs2 m2 ⟨Parts7,p43,c42,cs16,heq4,le22,h67,rfl,rfl⟩;subst o09;have H:=H.trans le22;exact yS [(4,vP b1 0),(5,vP b2 0)]<|zW ⟨_,_,_,_,(zC hMc9).symm,H,h67,rfl,rfl⟩
           intro hc8 N;exact zV<|yS [(4,vP b1 0),(5,vP b2 0)]<|zW ⟨_,_,_,_,(zC N).symm,H,h4,rfl,rfl⟩
         rintro I026 hs2 m2 ⟨Parts6,p42,c41,cs15,heq5,le23,h66,rfl,rfl⟩;subst o08;have h7:=h7.mono le23;have H:=H.trans le23;exact yS [(4,vP b1 0),(5,vP b2 0)]<|zW ⟨_,_,_,_,_,_,_,(zC hMc8).symm,H,h66,h7,rfl,rfl⟩
       rintro I023 hs2 m2 ⟨Parts4,x8,p34,c33,cs12,p35,c34,heq6,le24,h58,h59,rfl,rfl⟩;subst o05;have H:=H.trans le24;exact yS [(4,vP b1 0),(5,vP b2 0)]<|zW ⟨_,_,_,_,_,_,_,(zC hMc5).symm,H,h58,h59,rfl,rfl⟩
     rintro I017 hs2 m2 ⟨Parts2,x4,p20,c19,cs9,p21,c20,heq7,le25,h40,h41,rfl,rfl⟩;subst o03;have h3:=iM le25 h3;have H:=H.trans le25;exact yS [(4,vP b1 0),(5,vP b2 0)]<|zW ⟨_,_,_,_,_,_,_,_,_,_,_,(zC hMc3).symm,H,h3,h40,h41,rfl,rfl⟩
   rintro I011 hs2 m2 ⟨Arrays1,Parts1,x1,p13,c12,cs5,p14,c13,cs6,p15,c14,heq8,le26,h26,h27,h28,rfl,rfl⟩;subst o01;have H:=H.trans le26;exact yS [(4,vP b1 0),(5,vP b2 0)]<|zW ⟨_,_,_,_,_,_,_,_,_,_,_,(zC hMc1).symm,H,h26,h27,h28,rfl,rfl⟩
 rintro I03 hs2 m2 ⟨Arrays,Parts,x,p7,c6,cs2,p8,c7,cs3,p9,c8,heq9,le27,h8,h9,h10,rfl,rfl⟩;subst o0;refine zR<|xD<|yC 1 [1] [(110,vA [vS p7 Arrays c6,vS p8 Parts c7])]<|xB 4 [vS p7 Arrays c6,vS p8 Parts c7] [hB r01 (cRd x p9 c8),hB b2 [vS p7 Arrays c6,vS p8 Parts c7],hO zD (vS p7 Arrays c6) cs2,hO zK (vS p8 Parts c7) cs3,hB b1 [vS p7 Arrays c6,vS p8 Parts c7]] rfl rfl rfl rfl<|yH rfl<|xP<|xA 2 rfl ?_;intro I028 le28 hl010;have h71:=SL.of_frozen hl010 le28 h8;have h10:=h10.mono le28;have h9:=iM le28 h9;refine xA 2 rfl ?_;intro I029 le29 hl011;have h72:=SL.of_frozen hl011 le29 h9;have h10:=h10.mono le29;have h71:=h71.mono le29;obtain rfl:=zC hMc;exact xF ⟨_,_,(.cell 2 rfl rfl (by kernel_rfl) ResV.nil),(zZ [0] rfl (by decide)),⟨_,_,rfl,rfl,⟨_,rfl,(wV ⟨_,_,rfl,h71,h72⟩)⟩,(yO ⟨_,rfl,h10⟩)⟩⟩
theorem zCA (p:zH):∀ (i1:Int) (Parts:List zK) (o:List zK),uB p i1 Parts=some o→∀ {B}{I0 I:Imm}{Q}{Arrays1:List zD}{p1 c p2 c1}{b:Nat}{b1:Nat}{b2:Nat}{p4 c3 cs1 p9 c8 cs4}{raws:List Raw2}{pN pB:Option Addr}{cN cB:Nat}{nl:List zE}{bl:List zJ}{csB:List Value},I0.le I→(RL I cs1 Arrays1)→(S4 I p1 p.Arrays c)→(S4 I p2 p.Parts c1)→(RL I cs4 raws)→LP I raws Parts (vS pN nl cN) nl (vS pB bl cB) bl→SL I (vS pN nl cN) nl→RL I csB bl→(∀ l a w,¬Q (.goto l) a w)→(∀ a w,¬Q .outgrown a w)→(∀ (I':Imm) (p10:Option Addr) (c9:Nat) (cs5:List Value) (raws1:List Raw2) (pN pB:Option Addr) (cN cB:Nat) (nl:List zE) (bl:List zJ) (csB:List Value),I0.le I'→(RL I' cs5 raws1)→LP I' raws1 o (vS pN nl cN) nl (vS pB bl cB) bl→SL I' (vS pN nl cN) nl→RL I' csB bl→T 84 B Q (.exit 2) I' [hO zJ (vS pB bl cB) csB,hO Raw2 (vS p10 raws1 c9) cs5,hO zD (vS p4 Arrays1 c3) cs1,hB b2 [vS p4 Arrays1 c3,vS p10 raws1 c9],hB b1 zTwo] [(2,vP b1 0),(3,vP b2 0)])→J Tryz.prog 84 B (nav (bodyOf Tryz.f80) [1,1,1,0,1,0]) Q I [hO zJ (vS pB bl cB) csB,hO Raw2 (vS p9 raws c8) cs4,hO zD (vS p4 Arrays1 c3) cs1,hB b2 [vS p4 Arrays1 c3,vS p9 raws c8],hB b1 zTwo,hB b (cProg p p1 c p2 c1)] [(1,vP b 0),(2,vP b1 0),(3,vP b2 0),(5,vI i1)]:=by
 refine uB.partial_correctness p _ fun self ih i1 Parts o N B I0 I Q Arrays1 p1 c p2 c1 b b1 b2 p4 c3 cs1 p9 c8 cs4 raws pN pB cN cB nl bl csB H h4 h h1 hRw hLP hN hBd hg ho hx=>yW hg ho<|yI<|yK<|yB [5] [(40,.bool (decide (i1 < (p.Parts.length:Int))))]<|zL<|yL N ?_ ?_
 · intro hc1 N;refine pO 0 rfl ?_;intro immf lef hlf;have kB:=SL.of_frozen hlf lef hBd;have h4:=iM lef h4;have h:=h.mono lef;have h1:=h1.mono lef;have hN:=hN.mono lef;have hRw:=iM lef hRw;have hLP:=hLP.mono lef;have H:=H.trans lef;have h14:=hLP.done hN kB;rw [← kD hRw] at h14;have eP:vS p9 raws c8=vS p9 Parts c8:=by simp only [vS,hLP.2.1]
   rw [eP];clear hBd hlf;refine zV<|yG<|yM<|yK<|yC 3 [4] [(44,vS p2 p.Parts c1),(45,vI i1)]<|bE N fun x2 hy4 N=>xR rfl rfl h1 hy4 ?_;intro ad3 ccs4 hat3 hrep2;obtain ⟨p11,c10,p12,c11,rfl,h16,h17⟩:=wZ hrep2;refine yC 5 [] [(47,.pointer (some ad3))]<|xN 0 hat3 [vS p11 x2.Nest c10] (vS p11 x2.Nest c10) rfl<|bE N fun y hy5 N=>xS (zAu x2.Nest _ hy5 h16) ?_;rintro I04 hs2 v2 k2 le4 - ⟨v04,rfl,rfl,h18⟩ -;have h14:=iM le4 h14;have hRw:=iM le4 hRw;have hLP:=hLP.mono le4;have hN:=hN.mono le4;replace kB:=kB.mono le4;have h4:=iM le4 h4;have h:=h.mono le4;have h1:=h1.mono le4;have H:=H.trans le4;obtain ⟨p13,c12,rfl⟩:=h18.form;refine yC 8 [] [(50,vA [vS p13 y c12,z0])]<|wU zTwo ?_;intro b5 hb5;refine xB 0 [vS p13 y c12,z0] [hB b5 [vS p13 y c12,z0],hO zK (vS p9 Parts c8) cs4,hO zD (vS p4 Arrays1 c3) cs1,hB b2 [vS p4 Arrays1 c3,vS p9 Parts c8],hB b1 zTwo,hB b (cProg p p1 c p2 c1)] rfl rfl rfl rfl<|yH rfl<|yG<|yF [(7,vI 0)]<|wD<|wN [(1,vP b 0),(2,vP b1 0),(3,vP b2 0),(5,vI i1),(6,vP b5 0),(7,vI 0)]<|rM (wT (Rp.sz zJ)) ?_;have h19:RL I04 [] ([]:List zJ):=RepL.nil;obtain ⟨o01,ho01,hMl1⟩:=zB N;refine eU p i1 0 ([]:List zJ) o01 ho01 iR h18 h14 h4 h h1 h19 (fun _ _ _ h=>hg _ _ _ h) (fun _ _ h=>ho _ _ h) ?_;intro I010 Body1 p15 c14 cs7 heq1 le10 h21;subst o01;have h18:=h18.mono le10;have hRw:=iM le10 hRw;have hLP:=hLP.mono le10;have hN:=hN.mono le10;replace kB:=kB.mono le10;have h4:=iM le10 h4;have h:=h.mono le10;have h1:=h1.mono le10;have H:=H.trans le10;obtain ⟨l3,hy11,N⟩:=zB hMl1;have hy12:=zGV (l':=raws) (m':=[(⟨vS p13 y c12,vS p15 Body1 c14⟩:Raw2)]) hy11 hLP.2.1 rfl;have h40:RL I010 [vS p13 y c12,vS p15 Body1 c14] [(⟨vS p13 y c12,vS p15 Body1 c14⟩:Raw2)]:=⟨[vS p13 y c12,vS p15 Body1 c14],[],rfl,rfl,⟨rfl,rfl,rfl⟩,rfl⟩;refine zU<|zL<|zP<|yC 3 [4,1] [(78,vS p9 Parts c8),(79,vA [vS p13 y c12,vS p15 Body1 c14])]<|xU [vS p13 y c12,vS p15 Body1 c14] Raw2 ?_;intro b7 hb7;refine qI (α:=Raw2) 53 2 3 rfl rfl rfl hRw (.inr ⟨0,rfl⟩) h40 hy12 ?_;intro p29 c28 cs11 h41;exact sU (yD [1,3,4,5,6,7] (hs':=[hO zJ (vS p15 Body1 c14) cs7,hO Raw2 (vS p29 (raws ++ [(⟨vS p13 y c12,vS p15 Body1 c14⟩:Raw2)]) c28) cs11,hO zD (vS p4 Arrays1 c3) cs1,hB b2 [vS p4 Arrays1 c3,vS p9 Parts c8],hB b1 zTwo,hB b (cProg p p1 c p2 c1)]))<|yC 6 [] [(82,vP b2 1)]<|xB 3 [vS p4 Arrays1 c3,vS p29 (raws ++ [(⟨vS p13 y c12,vS p15 Body1 c14⟩:Raw2)]) c28] [hO zJ (vS p15 Body1 c14) cs7,hO Raw2 (vS p29 (raws ++ [(⟨vS p13 y c12,vS p15 Body1 c14⟩:Raw2)]) c28) cs11,hO zD (vS p4 Arrays1 c3) cs1,hB b2 [vS p4 Arrays1 c3,vS p29 (raws ++ [(⟨vS p13 y c12,vS p15 Body1 c14⟩:Raw2)]) c28],hB b1 zTwo,hB b (cProg p p1 c p2 c1)] rfl rfl rfl rfl<|yH rfl<|zR<|zL<|zP<|yB [] [(5,vI (W (i1 + 1)))]<|yT<|wN [(1,vP b 0),(2,vP b1 0),(3,vP b2 0),(5,vI (W (i1 + 1)))]<|ih (W (i1 + 1)) l3 _ N H h4 h h1 h41 (hLP.push hN kB hy11) h18 h21 hg ho hx
 intro hc1 N;have:=zC N;simp only [id] at this;subst this;exact vD<|wC (zZ [0,1,2,3,4] rfl (by decide))<|yS [(2,vP b1 0),(3,vP b2 0)]<|hx _ _ _ _ _ _ _ _ _ _ _ _ H hRw hLP hN hBd
def zCa (r:zH):KT:=fun kk I' hs' v=>
  ∃ (a0:Option Addr) (c0:Nat) (s0:List Value) (a1:Option Addr) (c1:Nat) (s1:List Value) (raws:List Raw2) (pN pB:Option Addr) (cN cB:Nat) (nl:List zE) (bl:List zJ) (csB:List Value),hs'=[hO zJ (vS pB bl cB) csB,hO Raw2 (vS a1 raws c1) s1,hO zD (vS a0 r.Arrays c0) s0]∧v=tupV [vA [vS a0 r.Arrays c0,vS a1 raws c1]]∧RL I' s0 r.Arrays∧RL I' s1 raws∧LP I' raws r.Parts (vS pN nl cN) nl (vS pB bl cB) bl∧SL I' (vS pN nl cN) nl∧RL I' csB bl
theorem zEE:∀ (p:zH) r,rR p=some r→∀ {I:Imm}{p1 c p2 c1},(S4 I p1 p.Arrays c)→(S4 I p2 p.Parts c1)→RT 80 [vA (cProg p p1 c p2 c1)] I [] (zCa r):=by
 intro p r N I p1 c p2 c1 h h1;unfold rR at N;refine zX (fn:=Tryz.f80) (c:=(bodyOf Tryz.f80)) Tryz.func80 rfl rfl ?_;rintro B - -;refine yK<|tO (cProg p p1 c p2 c1) ?_;intro b hb;refine wU zTwo ?_;intro b1 hb1;refine yH rfl<|xD<|yC 1 [] [(8,vA zTwo)]<|wU zTwo ?_;intro b2 hb2;refine xB 0 zTwo [hB b2 zTwo,hB b1 zTwo,hB b (cProg p p1 c p2 c1)] rfl rfl rfl rfl<|yH rfl<|yG<|yF [(4,vI 0)]<|wD<|wN [(1,vP b 0),(2,vP b1 0),(3,vP b2 0),(4,vI 0)]<|rM (wT (Rp.sz zD)) ?_;have h2:RL I [] ([]:List zD):=RepL.nil;obtain ⟨o0,ho0,hMl⟩:=zB N;refine eT p 0 ([]:List zD) o0 ho0 iR h h1 h2 (fun _ _ _ h=>h) (fun _ _ h=>h) ?_;intro I03 Arrays1 p4 c3 cs1 heq le3 h4;subst o0;have h:=h.mono le3;have h1:=h1.mono le3;refine zU<|yG<|yF [(5,vI 0)]<|wD<|wN [(1,vP b 0),(2,vP b1 0),(3,vP b2 0),(5,vI 0)]<|rM (wT (Rp.sz Raw2))<|rM (wT (Rp.sz zJ)) ?_;obtain ⟨o02,ho02,hMl2⟩:=zB hMl;refine zCA p 0 ([]:List zK) o02 ho02 (raws:=[]) (pN:=none) (pB:=none) (cN:=0) (cB:=0) (nl:=[]) (bl:=[]) iR h4 h h1 RepL.nil LP.nil (SL.nil _) RepL.nil (fun _ _ _ h=>h) (fun _ _ h=>h) ?_;intro I012 p10 c9 cs5 raws1 pN pB cN cB nl bl csB le12 hRw hLP hN hBd;have h4:=iM le12 h4;obtain rfl:=zC hMl2;exact zU<|xD<|yC 1 [3] [(83,vA [vS p4 Arrays1 c3,vS p10 raws1 c9])]<|xB 4 [vS p4 Arrays1 c3,vS p10 raws1 c9] [hO zJ (vS pB bl cB) csB,hO Raw2 (vS p10 raws1 c9) cs5,hO zD (vS p4 Arrays1 c3) cs1,hB b2 [vS p4 Arrays1 c3,vS p10 raws1 c9],hB b1 [vS p4 Arrays1 c3,vS p10 raws1 c9]] rfl rfl rfl rfl<|yH rfl<|xP<|xF ⟨_,_,(.cell 4 rfl rfl (by kernel_rfl) ResV.nil),(zZ [0,1,2] rfl (by decide)),⟨_,_,_,_,_,_,_,_,_,_,_,_,_,_,rfl,rfl,h4,hRw,hLP,hN,hBd⟩⟩
theorem zJH {raws:List Raw2}{k:Nat}{r:Raw2} (h:raws[k]?=some r):raws.set k r=raws:=by
  obtain ⟨hk,e⟩:=List.getElem?_eq_some_iff.1 h;subst e;exact List.set_getElem_self hk
theorem zCb (r0:zM) (p1:zH) (r:zH×zM) (N:qK r0 p1=some r) {y:zH}{y3:zM}{x:zK}{s:zJ} (hy:rR p1=some y) (hy1:yV r0 60=some (3,y3)) (hx:idx y.Parts (W ((y.Parts.length:Int) - 1))=some x) (hs:idx x.Body 0=some s) :
    ∀ {I:Imm}{r01:Nat}{p c p2 c1 p3 c2},(S4 I p r0.b c)→(S4 I p2 p1.Arrays c1)→(S4 I p3 p1.Parts c2)→RT 35 [vP r01 0,vA (cProg p1 p2 c1 p3 c2)] I [hB r01 (cRd r0 p c)] (jN r01 r):=by
 intro I r01 p c p2 c1' p3 c2 h h1 h2
 obtain ⟨i0,i1,i2⟩:=rS hx
 obtain ⟨j0,j1,j2⟩:=rS hs
 have hn:(y.Parts.length:Int) > 0:=by
   have:=(List.getElem?_eq_some_iff.1 i2).1; omega
 have hb:(x.Body.length:Int) > 0:=by
   have:=(List.getElem?_eq_some_iff.1 j2).1; omega
 have e0:((3:Int) == 0)=false:=rfl
 have e1:((3:Int) == 1)=false:=rfl
 have e2:((3:Int) == 2)=false:=rfl
 have e3:((3:Int) == 3)=true:=rfl
 unfold qK at N
 simp only [hy,hy1,e0,e1,e2,e3,hn,hb,hx,hs,decide_true,if_true,Bool.false_eq_true,if_false,Option.pure_def,Option.bind_eq_bind,Option.bind_some] at N
 cases hm1:sA y3 s with
 | none=>rw [hm1] at N; cases N
 | some q1 =>
 obtain ⟨y22,y23⟩:=q1
 simp only [hm1,Option.bind_some] at N
 cases hm2:sA y23 y22 with
 | none=>rw [hm2] at N; cases N
 | some q2 =>
 obtain ⟨y24,y25⟩:=q2
 simp only [hm2,Option.bind_some] at N
 cases hm3:sA y25 y24 with
 | none=>rw [hm3] at N; cases N
 | some q3 =>
 obtain ⟨y26,y27⟩:=q3
 simp only [hm3,Option.bind_some,Option.some.injEq] at N
 subst N
 refine zKO Tryz.func35 fun B=>yK<|tO [vS p2 p1.Arrays c1',vS p3 p1.Parts c2] ?_
 intro b hb
 refine wU zTwo ?_
 intro b1 hb1
 refine yH rfl<|xD<|yC 1 [1] [(7,vA [vS p2 p1.Arrays c1',vS p3 p1.Parts c2])]<|xS (zEE p1 _ hy h1 h2) ?_
 rintro I0 hs2 v2 k2 le - ⟨a0,c0,s0,a1,c1,s1,raws,pN,pB,cN,cB,nl,bl,csB,rfl,rfl,h3,hRw,hLP,hN,hBd⟩ -
 have h:=h.mono le
 clear h1 h2
 rw [hLP.len] at hx hn i0 i1 i2
 obtain ⟨rfl,hraw,hset⟩:=hLP.last hx
 simp only at hs hb j0 j1 j2 hm1
 have hset:=hset (vS pN nl cN) nl (vS pB bl cB) (bl.set 0 y26)
 rw [zJH (rS hraw).2.2] at hset
 refine wU zTwo ?_
 intro b2 hb2
 refine xB 0 [vS a0 y.Arrays c0,vS a1 raws c1] [hB b2 [vS a0 y.Arrays c0,vS a1 raws c1],hO zJ (vS pB bl cB) csB,hO Raw2 (vS a1 raws c1) s1,hO zD (vS a0 y.Arrays c0) s0,hB b1 zTwo,hB b [vS p2 p1.Arrays c1',vS p3 p1.Parts c2],hB r01 (cRd r0 p c)] rfl rfl rfl rfl<|yH rfl<|xD<|yB [0] [(6,vI (raws.length:Int))]<|yG<|yK<|yC 1 [] [(12,vP r01 0)]<|sU (yD [6,1,2,0,3,4] (hs':=[hB r01 (cRd r0 p c),hO zJ (vS pB bl cB) csB,hO Raw2 (vS a1 raws c1) s1,hB b2 [vS a0 y.Arrays c0,vS a1 raws c1],hO zD (vS a0 y.Arrays c0) s0,hB b1 zTwo]))<|tS [hB r01 (cRd r0 p c)] [hO zJ (vS pB bl cB) csB,hO Raw2 (vS a1 raws c1) s1,hB b2 [vS a0 y.Arrays c0,vS a1 raws c1],hO zD (vS a0 y.Arrays c0) s0,hB b1 zTwo] (xQ r0 60 _ hy1 h) ?_
 rintro I01 hs2 v2 k2 le1 - ⟨v0,kk,rfl,rfl,rfl,h6⟩ -
 obtain ⟨v01,rfl,h7⟩:=jM h6
 obtain ⟨p6,c5,rfl⟩:=h7.form
 clear h6 h
 have h3:=iM le1 h3
 have hRw:=iM le1 hRw
 have hN:=hN.mono le1
 have hBd:=iM le1 hBd
 have hset:=hset.mono le1
 refine yH rfl<|wD<|yF [(14,.bool ((3:Int) == 0))]<|zL<|fI rfl<|yF [(29,.bool ((3:Int) == 1))]<|zL<|fI rfl<|yF [(43,.bool ((3:Int) == 2))]<|zL<|fI rfl<|yF [(62,.bool ((3:Int) == 3))]<|zL<|zAo rfl<|yK<|yC 3 [] [(66,.bool (decide ((raws.length:Int) > 0)))] ?_
 rw [decide_eq_true hn]
 refine yC 7 [3] [(68,vS a1 raws c1),(70,vI (W ((raws.length:Int) - 1)))]<|oU (α:=Raw2) 2 rfl rfl rfl hRw hraw ?_
 intro ad ccs hat hcc hrep
 obtain ⟨rfl,o1,o2⟩:=hrep
 refine yC 9 [] [(72,.pointer (some (ad.add 1)))]<|zC3 2 1 hat hcc [vS pB bl cB] (vS pB bl cB) rfl rfl<|yB [] [(76,.bool (decide ((bl.length:Int) > 0)))] ?_
 rw [decide_eq_true hb]
 refine zL<|zAo rfl<|wN [(0,vP r01 0),(4,vP b1 0),(5,vP b2 0),(6,vI (raws.length:Int))]<|vC [.p (vP b2 1) [],.p (vS a1 raws c1) [2],.p (vI (raws.length:Int)) [],.p (vI (W ((raws.length:Int) - 1))) [],.x (fun I' v hx'=>∃ ad,v=.pointer (some ad)∧hx'=[]∧AtO (vS a1 raws c1) 2 (W ((raws.length:Int) - 1)).toNat ad),.x (fun I' v hx'=>∃ ad,v=.pointer (some (ad.add 1))∧hx'=[]∧AtO (vS a1 raws c1) 2 (W ((raws.length:Int) - 1)).toNat ad),.x (fun I' v hx'=>v=vS pB bl cB∧hx'=[]),.p (vP r01 0) [],.p (vP r01 0) [],.p (vP r01 0) [],.p (vP b2 1) [],.p (vS a1 raws c1) [2],.p (vI (raws.length:Int)) [],.p (vI (W ((raws.length:Int) - 1))) [],.x (fun I' v hx'=>∃ ad,v=.pointer (some ad)∧hx'=[]∧AtO (vS a1 raws c1) 2 (W ((raws.length:Int) - 1)).toNat ad),.x (fun I' v hx'=>∃ ad,v=.pointer (some (ad.add 1))∧hx'=[]∧AtO (vS a1 raws c1) 2 (W ((raws.length:Int) - 1)).toNat ad),.x (fun I' v hx'=>v=vS pB bl cB∧hx'=[]),.x (fun I' v hx'=>∃ ad,v=.pointer (some ad)∧hx'=[]∧AtO (vS pB bl cB) 9 0 ad),.x (fun I' v hx'=>∃ cs9,v=.agg ⟨cs9⟩∧hx'=[]∧Rp.rep I' cs9 s),.x (fun I' v hx'=>∃ (cs9 kk:List Value),v=.agg ⟨cs9⟩∧hx'=[hB r01 kk]∧Rp.rep I' cs9 y22∧Rp.rep I' kk y23),.x (fun I' v hx'=>∃ (cs9 kk:List Value),v=.agg ⟨cs9⟩∧hx'=[hB r01 kk]∧Rp.rep I' cs9 y24∧Rp.rep I' kk y25),.x (fun I' v hx'=>∃ (cs9 kk:List Value),v=.agg ⟨cs9⟩∧hx'=[hB r01 kk]∧Rp.rep I' cs9 y26∧Rp.rep I' kk y27)] [[],[(0,false)],[],[(2,false)],[(1,false),(3,false)],[(4,false)],[(5,false)],[],[],[],[],[(10,false)],[],[(12,false)],[(11,false),(13,false)],[(14,false)],[(15,false)],[(16,false)],[(17,false)],[(9,false),(18,false),(24,true)],[(8,false),(19,true)],[(7,false),(20,true)]] [hO zJ (vS pB bl cB) csB,hO Raw2 (vS a1 raws c1) s1,hB b2 [vS a0 y.Arrays c0,vS a1 raws c1],hO zD (vS a0 y.Arrays c0) s0,hB b1 zTwo] [[hB r01 (cRd y3 p6 c5)]] [(6,false),(21,true)] (yD [1,2,3,4,5,0]) ?_ ?_
 · refine Op<|Op<|Op<|Op<|Ox ?_<|Ox ?_<|Ox ?_<|Op<|Op<|Op<|Op<|Op<|Op<|Op<|Ox ?_<|Ox ?_<|Ox ?_<|Ox ?_<|Ox ?_<|Ox ?_<|Ox ?_<|Ox ?_<|On
   · intro I1 hf le1
     refine zF ?_
     rintro _ _ ⟨rfl,rfl⟩
     refine zF ?_
     rintro _ _ ⟨rfl,rfl⟩
     refine oW<|zAe [(78,vS a1 raws c1),(80,vI (W ((raws.length:Int) - 1)))]<|oU (α:=Raw2) 1 rfl rfl rfl (iM le1 hRw) hraw ?_
     intro ad ccs hat hcc hrep
     exact yP [] iR ⟨_,rfl,rfl,hat⟩
   · intro I1 hf le1
     refine zF ?_
     rintro _ _ ⟨ad,rfl,rfl,hat⟩
     exact oW<|zAe [(81,.pointer (some ad))]<|pM 6 [(82,.pointer (some (ad.add 1)))]<|yP [] iR ⟨_,rfl,rfl,hat⟩
   · intro I1 hf le1
     refine zF ?_
     rintro _ _ ⟨ad,rfl,rfl,hat⟩
     refine oW<|zAe [(82,.pointer (some (ad.add 1)))] ?_
     have hrep:=hRw.at (rS hraw).2.2
     obtain ⟨⟨hcc,o1,o2⟩,_⟩:=hrep
     exact zC3 1 1 hat hcc [vS pB bl cB] (vS pB bl cB) rfl rfl<|xI iR
   · intro I1 hf le1
     refine zF ?_
     rintro _ _ ⟨rfl,rfl⟩
     refine zF ?_
     rintro _ _ ⟨rfl,rfl⟩
     refine oW<|zAe [(88,vS a1 raws c1),(90,vI (W ((raws.length:Int) - 1)))]<|oU (α:=Raw2) 1 rfl rfl rfl (iM le1 hRw) hraw ?_
     intro ad ccs hat hcc hrep
     exact yP [] iR ⟨_,rfl,rfl,hat⟩
   · intro I1 hf le1
     refine zF ?_
     rintro _ _ ⟨ad,rfl,rfl,hat⟩
     exact oW<|zAe [(91,.pointer (some ad))]<|pM 16 [(92,.pointer (some (ad.add 1)))]<|yP [] iR ⟨_,rfl,rfl,hat⟩
   · intro I1 hf le1
     refine zF ?_
     rintro _ _ ⟨ad,rfl,rfl,hat⟩
     refine oW<|zAe [(92,.pointer (some (ad.add 1)))] ?_
     have hrep:=hRw.at (rS hraw).2.2
     obtain ⟨⟨hcc,o1,o2⟩,_⟩:=hrep
     exact zC3 1 1 hat hcc [vS pB bl cB] (vS pB bl cB) rfl rfl<|xI iR
   · intro I1 hf le1
     refine zF ?_
     rintro _ _ ⟨rfl,rfl⟩
     refine oW<|zAe [(93,vS pB bl cB)]<|oU (α:=zJ) 0 rfl rfl rfl (iM le1 hBd) hs ?_
     intro ad ccs hat hcc hrep
     exact yP [] iR ⟨_,rfl,rfl,hat⟩
   · intro I1 hf le1
     refine zF ?_
     rintro _ _ ⟨ad,rfl,rfl,hat⟩
     refine oW<|zAe [(94,.pointer (some ad))] ?_
     obtain ⟨hrep,_⟩:=(iM le1 hBd).at j2
     generalize hcc:(csB.drop (Int.toNat 0 * Rp.sz zJ)).take (Rp.sz zJ)=cc at hrep
     obtain ⟨w0,w1,w2,w3,rfl,e10,e11,e12,e13⟩:=pQ hrep
     obtain ⟨p10,c10,rfl⟩:=e10.form
     obtain ⟨p11,c11,rfl⟩:=e11.form
     obtain ⟨p12,c12,rfl⟩:=e12.form
     obtain ⟨p13,c13,rfl⟩:=e13.form
     exact zC3 0 0 hat hcc (cStmt s p10 c10 p11 c11 p12 c12 p13 c13) (vA (cStmt s p10 c10 p11 c11 p12 c12 p13 c13)) rfl rfl<|yP [] iR ⟨_,rfl,rfl,wJ ⟨_,_,_,_,rfl,e10,e11,e12,e13⟩⟩
   · intro I1 hf le1
     refine zF ?_
     rintro _ _ ⟨rfl,rfl⟩
     refine zF ?_
     rintro _ _ ⟨cs9,rfl,rfl,h9⟩
     refine zF ?_
     rintro _ _ rfl
     obtain ⟨w0,w1,w2,w3,rfl,e10,e11,e12,e13⟩:=pQ h9
     obtain ⟨p10,c10,rfl⟩:=e10.form
     obtain ⟨p11,c11,rfl⟩:=e11.form
     obtain ⟨p12,c12,rfl⟩:=e12.form
     obtain ⟨p13,c13,rfl⟩:=e13.form
     refine oW<|zAe [(86,vP r01 0),(95,vA (cStmt s p10 c10 p11 c11 p12 c12 p13 c13))]<|tS [hB r01 (cRd y3 p6 c5)] (hO zJ (vS pB bl cB) csB::hO Raw2 (vS a1 raws c1) s1::hB b2 [vS a0 y.Arrays c0,vS a1 raws c1]::hO zD (vS a0 y.Arrays c0) s0::hB b1 zTwo::hf) (gH y3 s _ hm1 (h7.mono le1) e10 e11 e12 e13) ?_
     rintro I02 hs2 v2 k2 le2 - ⟨v0,kk2,rfl,rfl,⟨cs2,rfl,h10⟩,h11⟩ -
     exact yP [hB r01 kk2] le2 ⟨_,_,rfl,rfl,h10,h11⟩
   · intro I1 hf le1
     refine zF ?_
     rintro _ _ ⟨rfl,rfl⟩
     refine zF ?_
     rintro _ _ ⟨cs9,kk,rfl,rfl,h9,hk⟩
     obtain ⟨w0,w1,w2,w3,rfl,e10,e11,e12,e13⟩:=pQ h9
     obtain ⟨p10,c10,rfl⟩:=e10.form
     obtain ⟨p11,c11,rfl⟩:=e11.form
     obtain ⟨p12,c12,rfl⟩:=e12.form
     obtain ⟨p13,c13,rfl⟩:=e13.form
     obtain ⟨w4,rfl,hsl⟩:=jM hk
     obtain ⟨p8,c8,rfl⟩:=hsl.form
     refine oW<|zAe [(85,vP r01 0),(96,vA (cStmt y22 p10 c10 p11 c11 p12 c12 p13 c13))]<|tS [hB r01 (cRd y23 p8 c8)] (hO zJ (vS pB bl cB) csB::hO Raw2 (vS a1 raws c1) s1::hB b2 [vS a0 y.Arrays c0,vS a1 raws c1]::hO zD (vS a0 y.Arrays c0) s0::hB b1 zTwo::hf) (gH y23 y22 _ hm2 (hsl) e10 e11 e12 e13) ?_
     rintro I02 hs2 v2 k2 le2 - ⟨v0,kk2,rfl,rfl,⟨cs2,rfl,h10⟩,h11⟩ -
     exact yP [hB r01 kk2] le2 ⟨_,_,rfl,rfl,h10,h11⟩
   intro I1 hf le1
   refine zF ?_
   rintro _ _ ⟨rfl,rfl⟩
   refine zF ?_
   rintro _ _ ⟨cs9,kk,rfl,rfl,h9,hk⟩
   obtain ⟨w0,w1,w2,w3,rfl,e10,e11,e12,e13⟩:=pQ h9
   obtain ⟨p10,c10,rfl⟩:=e10.form
   obtain ⟨p11,c11,rfl⟩:=e11.form
   obtain ⟨p12,c12,rfl⟩:=e12.form
   obtain ⟨p13,c13,rfl⟩:=e13.form
   obtain ⟨w4,rfl,hsl⟩:=jM hk
   obtain ⟨p8,c8,rfl⟩:=hsl.form
   refine oW<|zAe [(84,vP r01 0),(97,vA (cStmt y24 p10 c10 p11 c11 p12 c12 p13 c13))]<|tS [hB r01 (cRd y25 p8 c8)] (hO zJ (vS pB bl cB) csB::hO Raw2 (vS a1 raws c1) s1::hB b2 [vS a0 y.Arrays c0,vS a1 raws c1]::hO zD (vS a0 y.Arrays c0) s0::hB b1 zTwo::hf) (gH y25 y24 _ hm3 (hsl) e10 e11 e12 e13) ?_
   rintro I02 hs2 v2 k2 le2 - ⟨v0,kk2,rfl,rfl,⟨cs2,rfl,h10⟩,h11⟩ -
   exact yP [hB r01 kk2] le2 ⟨_,_,rfl,rfl,h10,h11⟩
 intro I5 le5
 refine zF ?_
 rintro _ _ ⟨rfl,rfl⟩
 refine zF ?_
 rintro _ _ ⟨cs9,kk,rfl,rfl,h9,hk⟩
 obtain ⟨w0,w1,w2,w3,rfl,e10,e11,e12,e13⟩:=pQ h9
 obtain ⟨p10,c10,rfl⟩:=e10.form
 obtain ⟨p11,c11,rfl⟩:=e11.form
 obtain ⟨p12,c12,rfl⟩:=e12.form
 obtain ⟨p13,c13,rfl⟩:=e13.form
 have h3:=iM le5 h3
 have hRw:=iM le5 hRw
 have hN:=hN.mono le5
 have hBd:=iM le5 hBd
 have hset:=hset.mono le5
 refine oW<|zAe [(4,vP b1 0),(5,vP b2 0),(83,vS pB bl cB),(98,vA (cStmt y26 p10 c10 p11 c11 p12 c12 p13 c13))]<|oU (α:=zJ) 1 rfl rfl rfl hBd hs ?_
 intro ad ccs hat hcc hrep
 obtain ⟨w0,w1,w2,w3,rfl,e20,e21,e22,e23⟩:=pQ hrep
 obtain ⟨p20,c20,rfl⟩:=e20.form
 obtain ⟨p21,c21,rfl⟩:=e21.form
 obtain ⟨p22,c22,rfl⟩:=e22.form
 obtain ⟨p23,c23,rfl⟩:=e23.form
 refine tT (c:=(cStmt y26 p10 c10 p11 c11 p12 c12 p13 c13)) (x':=y26) 1 0 rfl rfl rfl hat rfl rfl hcc (by kernel_rfl) (by kernel_rfl) (by kernel_rfl) hBd hs (by kernel_rfl) (wJ ⟨_,_,_,_,rfl,e10,e11,e12,e13⟩) ?_
 intro cs7 h7' hlen
 refine vJ (hs':=[hB r01 kk,hO zJ (vS pB bl cB) cs7,hO Raw2 (vS a1 raws c1) s1,hB b2 [vS a0 y.Arrays c0,vS a1 raws c1],hO zD (vS a0 y.Arrays c0) s0,hB b1 zTwo]) rfl<|yJ 1 rfl ?_
 intro I6 le6 hl6
 have eB:vS pB bl cB=vS pB (bl.set 0 y26) cB:=by simp [vS]
 have kB:SL I6 (vS pB (bl.set 0 y26) cB) (bl.set 0 y26):=by
   rw [← eB]
   exact SL.of_frozen (l:=bl.set 0 y26) hl6 le6 h7'
 rw [eB] at hset
 have hdone:=(hset.mono le6).done (hN.mono le6) kB
 have eS:=kD hRw
 rw [← eS] at hdone
 have h3:=iM le6 h3
 have hk:=Rp.mono le6 hk
 have eP:vS a1 raws c1=vS a1 (y.Parts.set (W ((raws.length:Int) - 1)).toNat ⟨nl,bl.set 0 y26⟩) c1:=by simp only [vS,List.length_set,hLP.2.1]
 refine vJ (hs':=[hB r01 kk,hO Raw2 (vS a1 raws c1) s1,hB b2 [vS a0 y.Arrays c0,vS a1 raws c1],hO zD (vS a0 y.Arrays c0) s0,hB b1 zTwo]) rfl<|yH rfl<|zR<|xD<|yC 1 [2] [(110,vA [vS a0 y.Arrays c0,vS a1 raws c1])]<|xB 4 [vS a0 y.Arrays c0,vS a1 raws c1] [hB r01 kk,hO Raw2 (vS a1 raws c1) s1,hB b2 [vS a0 y.Arrays c0,vS a1 raws c1],hO zD (vS a0 y.Arrays c0) s0,hB b1 [vS a0 y.Arrays c0,vS a1 raws c1]] rfl rfl rfl rfl<|yH rfl<|xP<|xA 1 rfl ?_
 intro I7 le7 hl7
 have k1:SL I7 (vS a1 raws c1) (y.Parts.set (W ((raws.length:Int) - 1)).toNat ⟨nl,bl.set 0 y26⟩):=SL.of_frozen (l:=y.Parts.set (W ((raws.length:Int) - 1)).toNat ⟨nl,bl.set 0 y26⟩) hl7 le7 hdone
 refine xA 2 rfl ?_
 intro I8 le8 hl8
 have k2:=SL.of_frozen hl8 le8 (iM le7 h3)
 rw [hLP.len]
 exact xF ⟨_,_,(.cell 2 rfl rfl (by kernel_rfl) ResV.nil),(zZ [0] rfl (by decide)),⟨_,_,rfl,rfl,⟨_,rfl,(wV ⟨_,_,rfl,k2,k1.mono le8⟩)⟩,Rp.mono le8 (Rp.mono le7 hk)⟩⟩
theorem zD3:∀ r0 p1 r,qK r0 p1=some r→∀ {I:Imm}{r01:Nat}{p c p2 c1 p3 c2},(S4 I p r0.b c)→(S4 I p2 p1.Arrays c1)→(S4 I p3 p1.Parts c2)→RT 35 [vP r01 0,vA (cProg p1 p2 c1 p3 c2)] I [hB r01 (cRd r0 p c)] (jN r01 r):=by
 intro r0 p1 r N I r01 p c p2 c1 p3 c2 h h1 h2;by_cases hq:∃ y y3 x s,rR p1=some y∧yV r0 60=some (3,y3)∧idx y.Parts (W ((y.Parts.length:Int) - 1))=some x∧idx x.Body 0=some s
 · obtain ⟨y,y3,x,s,e1,e2,e3,e4⟩:=hq;exact zCb r0 p1 r N e1 e2 e3 e4 h h1 h2
 refine zC9 r0 p1 r N h h1 h2 ?_;intro y y2 y3 x s e1 e2 e3 e4 e5;obtain rfl:=eq_of_beq e3;exact hq ⟨y,y3,x,s,e1,e2,e4,e5⟩
def zY (r:Bool):KT:=fun kk I' hs' v=>
  ∃ v0,hs'=[]∧v=tupV [v0]∧v0=.bool r
def wX (x:zD) (k0:Int):Option (Out Unit (Bool)):=do
 if (decide (k0 < (x.Dims.length:Int))) then
  let t77←(do
    let x2←idx x.Dims k0
    if (decide (x2 < 1)) then
     pure true
    else
     let x3←idx x.Dims k0
     pure (decide (x3 > 6))
      : Option Bool)
  if t77 then
   pure (.ret false)
  else
   wX x (W (k0 + 1))
 else
  pure (.done ())
 partial_fixpoint
theorem zB7 (x:zD):∀ (k0:Int) (o:Out Unit (Bool)),wX x k0=some o→∀ {B}{I0 I:Imm}{Q}{list:(List zD)}{i:Int}{p c p1 c1}{b:Nat},I0.le I→(S4 I p list c)→(S4 I p1 x.Dims c1)→NG Q→NO Q→(∀ (I':Imm) ,o=(.done ())→I0.le I'→T 81 B Q (.exit 2) I' [] [(0,vS p list c),(3,vI i)])→(∀ r I' hs' m',o=(.ret r)→I0.le I'→RS Tryz.prog Tryz.f99 B (zY  r) I' hs' m'→T 81 B Q .ret I' hs' m')→J Tryz.prog 81 B (nav (bodyOf Tryz.f99) [1,0,1,0,0,1,0,0,1,1,1,0]) Q I [hB b (cArr x p1 c1)] [(0,vS p list c),(3,vI i),(4,vP b 0),(5,vI k0)]:=by
 refine wX.partial_correctness x _ fun self ih k0 o N B I0 I Q list i p c p1 c1 b H h h1 hg ho hx hr=>yW hg ho<|yI<|yK<|yB [0] [(61,.bool (decide (k0 < (x.Dims.length:Int))))]<|zL<|yL N ?_ ?_
 · intro hc9 N;refine zV<|yG<|yM<|yI ?_;obtain ⟨o01,ho01,hMc1⟩:=zB N;refine yU (fun I' hs' m'=>∃ (t77:Bool),o01=t77∧I.le I'∧hs'=[hB b (cArr x p1 c1)]∧m'=[(0,vS p list c),(3,vI i),(4,vP b 0),(5,vI k0),(77,.bool t77)]) ?_ ?_
   · have H:=iS I;refine zP<|yC 3 [0] [(65,vS p1 x.Dims c1),(66,vI k0)] ?_;obtain ⟨x2,hy2,N⟩:=zB ho01;refine xR rfl rfl h1 hy2 ?_;intro ad2 ccs2 hat2 hrep2;obtain rfl:=hrep2;refine xN 0 hat2 [vI x2] (vI x2) rfl<|yC 7 [] [(70,.bool (decide (x2 < 1)))] ?_;cases hc10:(decide (x2 < 1)) with
     | true =>
      have hM014:=zS hc10 N
      try rw [hc10]
      exact yB [] [(77,vY)]<|yS [(0,vS p list c),(3,vI i),(4,vP b 0),(5,vI k0),(77,vY)]<|zW (ct hM014 H)
     | false =>
      have hM015:=zQ hc10 N
      try rw [hc10]
      refine yC 10 [0] [(72,vS p1 x.Dims c1),(73,vI k0)] ?_;obtain ⟨x3,hy3,N⟩:=zB hM015;refine xR rfl rfl h1 hy3 ?_;intro ad3 ccs3 hat3 hrep3;obtain rfl:=hrep3;exact xN 0 hat3 [vI x3] (vI x3) rfl<|yB [] [(77,.bool (decide (x3 > 6)))]<|yS [(0,vS p list c),(3,vI i),(4,vP b 0),(5,vI k0),(77,.bool (decide (x3 > 6)))]<|zW (ct N H)
   rintro I01 hs2 m2 ⟨t77,heq1,le1,rfl,rfl⟩;subst o01;have h:=h.mono le1;have h1:=h1.mono le1;have H:=H.trans le1;refine zL<|yL hMc1 ?_ ?_
   · intro hc11 N;exact yF [(2,vF)]<|xP<|yA<|zN<|zN<|hr _ _ _ _ (zC N).symm H ⟨_,_,(.tmp rfl ResV.nil),zT,⟨_,rfl,rfl,rfl⟩⟩
   intro hc11 N;exact zV<|zR<|zL<|zP<|yB [] [(5,vI (W (k0 + 1)))]<|yT<|wN [(0,vS p list c),(3,vI i),(4,vP b 0),(5,vI (W (k0 + 1)))]<|ih (W (k0 + 1)) _ N H h h1 hg ho hx hr
 intro hc9 N;exact vD<|wC zT<|yS [(0,vS p list c),(3,vI i)]<|hx _  (zC N).symm H
def vR (list:(List zD)) (i:Int):Option (Out Unit (Bool)):=do
 if (decide (i < (list.length:Int))) then
  let x←idx list i
  let t56←(do
    if ((x.Name.l.length:Int) != 1) then
     pure true
    else
     if (Op.bytesLess x.Name.l ([65]:List UInt8)) then
      pure true
     else
      if (!(Op.bytesLess x.Name.l ([68]:List UInt8) || x.Name.l == ([68]:List UInt8))) then
       pure true
      else
       if (decide (i > 0)) then
        let x1←idx list (W (i - 1))
        if (!(Op.bytesLess x1.Name.l x.Name.l)) then
         pure true
        else
         if (decide ((x.Dims.length:Int) < 1)) then
          pure true
         else
          pure (decide ((x.Dims.length:Int) > 2))
       else
        if (decide ((x.Dims.length:Int) < 1)) then
         pure true
        else
         pure (decide ((x.Dims.length:Int) > 2))
      : Option Bool)
  if t56 then
   pure (.ret false)
  else
   match←wX x 0 with
   | .ret r0=>pure (.ret r0)
   | .done _ =>
    vR list (W (i + 1))
 else
  pure (.done ())
 partial_fixpoint
theorem zB8 (list:(List zD)):∀ (i:Int) (o:Out Unit (Bool)),vR list i=some o→∀ {B}{I0 I:Imm}{Q p c},I0.le I→(S4 I p list c)→NG Q→NO Q→(∀ (I':Imm) ,o=(.done ())→I0.le I'→T 81 B Q (.exit 0) I' [] [(0,vS p list c)])→(∀ r I' hs' m',o=(.ret r)→I0.le I'→RS Tryz.prog Tryz.f99 B (zY  r) I' hs' m'→T 81 B Q .ret I' hs' m')→J Tryz.prog 81 B (nav (bodyOf Tryz.f99) [1,0,1,0]) Q I [] [(0,vS p list c),(3,vI i)]:=by
 refine vR.partial_correctness list _ fun self ih i o N B I0 I Q p c H h hg ho hx hr=>yW hg ho<|yI<|yF [(9,.bool (decide (i < (list.length:Int))))]<|zL<|yL N ?_ ?_
 · intro hc N;refine zV<|yG<|yM<|yK<|yC 2 [] [(12,vS p list c),(13,vI i)]<|bE N fun x hy N=>xR rfl rfl h hy ?_;intro ad ccs hat hrep;obtain ⟨p1,c1,rfl,h1⟩:=xX hrep;refine xN 0 hat (cArr x p1 c1) (vA (cArr x p1 c1)) rfl<|wU [vT ([]),z0] ?_;intro b hb;refine xB 0 (cArr x p1 c1) [hB b (cArr x p1 c1)] rfl rfl rfl rfl<|yH rfl<|yG<|yI ?_;obtain ⟨o0,ho0,hMc⟩:=zB N;refine yU (fun I' hs' m'=>∃ (t56:Bool),o0=t56∧I.le I'∧hs'=[hB b (cArr x p1 c1)]∧m'=[(0,vS p list c),(3,vI i),(4,vP b 0),(56,.bool t56)]) ?_ ?_
   · have H:=iS I;refine fP (by kernel_rfl) (by kernel_rfl)<|zAd 5 [0] [(20,.bool ((x.Name.l.length:Int) != 1))] ?_;cases hc1:((x.Name.l.length:Int) != 1) with
     | true =>
      have hM0:=zS hc1 ho0
      try rw [hc1]
      exact zEA [] [(56,vY)]<|yS [(0,vS p list c),(3,vI i),(4,vP b 0),(56,vY)]<|zW (ct hM0 H)
     | false =>
      have hM01:=zQ hc1 ho0
      try rw [hc1]
      refine zAd 10 [0] [(25,.bool (Op.bytesLess x.Name.l ([65]:List UInt8)))] ?_;cases hc2:(Op.bytesLess x.Name.l ([65]:List UInt8)) with
      | true =>
       have hM02:=zS hc2 hM01
       try rw [hc2]
       exact zEA [] [(56,vY)]<|yS [(0,vS p list c),(3,vI i),(4,vP b 0),(56,vY)]<|zW (ct hM02 H)
      | false =>
       have hM03:=zQ hc2 hM01
       try rw [hc2]
       refine zAd 15 [0] [(30,.bool (!(Op.bytesLess x.Name.l ([68]:List UInt8) || x.Name.l == ([68]:List UInt8))))] ?_;cases hc3:(!(Op.bytesLess x.Name.l ([68]:List UInt8) || x.Name.l == ([68]:List UInt8))) with
       | true =>
        have hM04:=zS hc3 hM03
        try rw [hc3]
        exact zEA [] [(56,vY)]<|yS [(0,vS p list c),(3,vI i),(4,vP b 0),(56,vY)]<|zW (ct hM04 H)
       | false =>
        have hM05:=zQ hc3 hM03
        try rw [hc3]
        refine zAd 18 [] [(33,.bool (decide (i > 0)))] ?_;cases hc4:(decide (i > 0)) with
        | true =>
         have hM06:=zS hc4 hM05
         try rw [hc4]
         refine zAd 21 [] [(34,vS p list c),(36,vI (W (i - 1)))] ?_;obtain ⟨x1,hy1,N⟩:=zB hM06;refine zEn rfl rfl h hy1 ?_;intro ad1 ccs1 hat1 hrep1;obtain ⟨p2,c2,rfl,h2⟩:=xX hrep1;refine zAd 23 [] [(38,.pointer (some ad1))]<|zEm 0 hat1 [vT x1.Name.l] (vT x1.Name.l) rfl<|zAd 30 [0] [(45,.bool (!(Op.bytesLess x1.Name.l x.Name.l)))] ?_;cases hc5:(!(Op.bytesLess x1.Name.l x.Name.l)) with
         | true =>
          have hM07:=zS hc5 N
          try rw [hc5]
          exact zEA [] [(56,vY)]<|yS [(0,vS p list c),(3,vI i),(4,vP b 0),(56,vY)]<|zW (ct hM07 H)
         | false =>
          have hM08:=zQ hc5 N
          try rw [hc5]
          refine zAd 36 [0] [(51,.bool (decide ((x.Dims.length:Int) < 1)))] ?_;cases hc6:(decide ((x.Dims.length:Int) < 1)) with
          | true =>
           have hM09:=zS hc6 hM08
           try rw [hc6]
           exact zEA [] [(56,vY)]<|yS [(0,vS p list c),(3,vI i),(4,vP b 0),(56,vY)]<|zW (ct hM09 H)
          | false =>
           have hM010:=zQ hc6 hM08
           try rw [hc6]
           exact zEA [0] [(56,.bool (decide ((x.Dims.length:Int) > 2)))]<|yS [(0,vS p list c),(3,vI i),(4,vP b 0),(56,.bool (decide ((x.Dims.length:Int) > 2)))]<|zW (ct hM010 H)
        | false =>
         have hM011:=zQ hc4 hM05
         try rw [hc4]
         refine zAd 36 [0] [(51,.bool (decide ((x.Dims.length:Int) < 1)))] ?_;cases hc7:(decide ((x.Dims.length:Int) < 1)) with
         | true =>
          have hM012:=zS hc7 hM011
          try rw [hc7]
          exact zEA [] [(56,vY)]<|yS [(0,vS p list c),(3,vI i),(4,vP b 0),(56,vY)]<|zW (ct hM012 H)
         | false =>
          have hM013:=zQ hc7 hM011
          try rw [hc7]
          exact zEA [0] [(56,.bool (decide ((x.Dims.length:Int) > 2)))]<|yS [(0,vS p list c),(3,vI i),(4,vP b 0),(56,.bool (decide ((x.Dims.length:Int) > 2)))]<|zW (ct hM013 H)
   rintro I0 hs2 m2 ⟨t56,heq,le,rfl,rfl⟩;subst o0;have h:=h.mono le;have h1:=h1.mono le;have H:=H.trans le;refine zL<|yL hMc ?_ ?_
   · intro hc8 N;exact yF [(2,vF)]<|xP<|zN<|yA<|zN<|zN<|hr _ _ _ _ (zC N).symm H ⟨_,_,(.tmp rfl ResV.nil),zT,⟨_,rfl,rfl,rfl⟩⟩
   intro hc8 N;refine zV<|wW [(5,vI 0)]<|wD<|wN [(0,vS p list c),(3,vI i),(4,vP b 0),(5,vI 0)] ?_;obtain ⟨o02,ho02,hMl⟩:=zB N;refine zB7 x 0 o02 ho02 iR h h1 (fun _ _ _ h=>hg _ _ _ h) (fun _ _ h=>ho _ _ h) ?_ ?_
   · intro I02  heq2 le2;subst o02;have h:=h.mono le2;have H:=H.trans le2;exact zU<|zR<|zL<|zP<|yB [] [(3,vI (W (i + 1)))]<|yT<|wN [(0,vS p list c),(3,vI (W (i + 1)))]<|ih (W (i + 1)) _ hMl H h hg ho hx hr
   intro r0 I9 hs9 m9 heq9 le9 hrs9;subst heq9;exact yA<|yA<|zN<|zN<|hr _ _ _ _ (zC hMl).symm (H.trans le9) hrs9
 intro hc N;exact vD<|yS [(0,vS p list c)]<|hx _  (zC N).symm H
def pZ (list:(List zD)):Option (Bool):=do
 match←vR list 0 with
 | .ret r0=>pure r0
 | .done _ =>
  pure (decide ((list.length:Int) ≤ 4))
theorem zD4:∀ list r,pZ list=some r→∀ {I:Imm}{p c},(S4 I p list c)→RT 99 [vS p list c] I [] (zY  r):=by
 intro list r N I p c h;unfold pZ at N;refine zX (fn:=Tryz.f99) (c:=(bodyOf Tryz.f99)) Tryz.func99 rfl rfl ?_;rintro B - -;refine yF []<|yG<|yF [(3,vI 0)]<|wD<|wN [(0,vS p list c),(3,vI 0)] ?_;obtain ⟨o03,ho03,hMl1⟩:=zB N;refine zB8 list 0 o03 ho03 iR h (fun _ _ _ h=>h) (fun _ _ h=>h) ?_ ?_
 · intro I03  heq3 le3;subst o03;refine zU<|wW [(2,.bool (decide ((list.length:Int) ≤ 4)))]<|zL<|xG ?_;obtain rfl:=zC hMl1;exact uM
 intro r0 I9 hs9 m9 heq9 le9 hrs9;subst heq9;refine yA<|zN ?_;obtain rfl:=zC hMl1;exact xF hrs9
def xE (r:Int):KT:=fun kk I' hs' v=>
  ∃ v0,hs'=[]∧v=tupV [v0]∧v0=.int .i64 r
def tA (a0:zA) (point:(List Int)) (n0:Int) (i:Int):Option (Int):=do
 let t19←(do
   if (decide (i < (point.length:Int))) then
    pure (decide (i < (a0.Coefs.length:Int)))
   else
    pure false
     : Option Bool)
 if t19 then
  let x←idx a0.Coefs i
  let x1←idx point i
  tA a0 point (W (n0 + (W (x * x1)))) (W (i + 1))
 else
  pure (id n0)
 partial_fixpoint
theorem zCc (a0:zA) (point:(List Int)):∀ (n0:Int) (i:Int) (o:Int),tA a0 point n0 i=some o→∀ {B}{I0 I:Imm}{Q p c p1 c1}{b:Nat},I0.le I→(S4 I p1 point c1)→(S4 I p a0.Coefs c)→NG Q→NO Q→(∀ (I':Imm) (n01:Int),o=n01→I0.le I'→T 35 B Q (.exit 0) I' [] [(5,vI n01)])→J Tryz.prog 35 B (nav (bodyOf Tryz.f97) [1,1,0,1,0]) Q I [hB b (cAff a0 p c)] [(1,vS p1 point c1),(2,vP b 0),(5,vI n0),(6,vI i)]:=by
 refine tA.partial_correctness a0 point _ fun self ih n0 i o N B I0 I Q p c p1 c1 b H h1 h hg ho hx=>yW hg ho<|yI<|yI ?_;obtain ⟨o0,ho0,hMc⟩:=zB N;refine yU (fun I' hs' m'=>∃ (t19:Bool),o0=t19∧I.le I'∧hs'=[hB b (cAff a0 p c)]∧m'=[(1,vS p1 point c1),(2,vP b 0),(5,vI n0),(6,vI i),(19,.bool t19)]) ?_ ?_
 · have H:=iS I;refine zP<|yC 5 [] [(13,.bool (decide (i < (point.length:Int))))] ?_;cases hc:(decide (i < (point.length:Int))) with
   | true =>
    have hM0:=zS hc ho0
    try rw [hc]
    exact yB [0] [(19,.bool (decide (i < (a0.Coefs.length:Int))))]<|yS [(1,vS p1 point c1),(2,vP b 0),(5,vI n0),(6,vI i),(19,.bool (decide (i < (a0.Coefs.length:Int))))]<|zW (ct hM0 H)
   | false =>
    have hM01:=zQ hc ho0
    try rw [hc]
    exact yB [] [(19,vF)]<|yS [(1,vS p1 point c1),(2,vP b 0),(5,vI n0),(6,vI i),(19,vF)]<|zW (ct hM01 H)
 rintro I0 hs2 m2 ⟨t19,heq,le,rfl,rfl⟩;subst o0;have h1:=h1.mono le;have h:=h.mono le;have H:=H.trans le;refine zL<|yL hMc ?_ ?_
 · intro hc1 N;refine zV<|yG<|yM<|fP (by kernel_rfl) (by kernel_rfl)<|zAd 4 [0] [(22,vI n0),(24,vS p a0.Coefs c),(25,vI i)]<|bE N fun x hy N=>zEn rfl rfl h hy ?_;intro ad ccs hat hrep;obtain rfl:=hrep;refine zEm 0 hat [vI x] (vI x) rfl<|zAd 8 [] [(28,vS p1 point c1),(29,vI i)]<|bE N fun x1 hy1 N=>zEn rfl rfl h1 hy1 ?_;intro ad1 ccs1 hat1 hrep1;obtain rfl:=hrep1;exact zEm 0 hat1 [vI x1] (vI x1) rfl<|zEA [] [(5,vI (W (n0 + (W (x * x1)))))]<|zR<|zL<|zP<|yB [] [(6,vI (W (i + 1)))]<|yT<|wN [(1,vS p1 point c1),(2,vP b 0),(5,vI (W (n0 + (W (x * x1))))),(6,vI (W (i + 1)))]<|ih (W (n0 + (W (x * x1)))) (W (i + 1)) _ N H h1 h hg ho hx
 intro hc1 N;exact vD<|wC zT<|yS [(5,vI n0)]<|hx _ _ (zC N).symm H
def sX (a0:zA) (point:(List Int)):Option (Int):=do
 let n01←tA a0 point a0.Const 0
 pure (id n01)
theorem kM:∀ a0 point r,sX a0 point=some r→∀ {I:Imm}{p c p1 c1},(S4 I p a0.Coefs c)→(S4 I p1 point c1)→RT 97 [vA (cAff a0 p c),vS p1 point c1] I [] (xE  r):=by
 intro a0 point r N I p c p1 c1 h h1;unfold sX at N;refine zX (fn:=Tryz.f97) (c:=(bodyOf Tryz.f97)) Tryz.func97 rfl rfl ?_;rintro B - -;refine yK<|tO (cAff a0 p c) ?_;intro b hb;refine yB [] []<|xD<|yB [0] [(5,vI a0.Const)]<|yG<|yF [(6,vI 0)]<|wD<|wN [(1,vS p1 point c1),(2,vP b 0),(5,vI a0.Const),(6,vI 0)] ?_;obtain ⟨o01,ho01,hMl⟩:=zB N;refine zCc a0 point a0.Const 0 o01 ho01 iR h1 h (fun _ _ _ h=>h) (fun _ _ h=>h) ?_;intro I01 n01 heq1 le1;subst o01;refine zU<|wW [(4,vI n01)]<|zL<|xG ?_;obtain rfl:=zC hMl;exact uM
def tB (a0:zD) (n0:Int) (i:Int):Option (Int):=do
 if (decide (i < (a0.Dims.length:Int))) then
  let x←idx a0.Dims i
  tB a0 (W (n0 * x)) (W (i + 1))
 else
  pure (id n0)
 partial_fixpoint
theorem zCd (a0:zD):∀ (n0:Int) (i:Int) (o:Int),tB a0 n0 i=some o→∀ {B}{I0 I:Imm}{Q p c}{b:Nat},I0.le I→(S4 I p a0.Dims c)→NG Q→NO Q→(∀ (I':Imm) (n01:Int),o=n01→I0.le I'→T 20 B Q (.exit 0) I' [] [(3,vI n01)])→J Tryz.prog 20 B (nav (bodyOf Tryz.f143) [1,1,0,1,0]) Q I [hB b (cArr a0 p c)] [(1,vP b 0),(3,vI n0),(4,vI i)]:=by
 refine tB.partial_correctness a0 _ fun self ih n0 i o N B I0 I Q p c b H h hg ho hx=>yW hg ho<|yI<|yK<|yB [0] [(9,.bool (decide (i < (a0.Dims.length:Int))))]<|zL<|yL N ?_ ?_
 · intro hc N;refine zV<|yG<|yM<|zP<|yC 4 [0] [(12,vI n0),(14,vS p a0.Dims c),(15,vI i)]<|bE N fun x hy N=>xR rfl rfl h hy ?_;intro ad ccs hat hrep;obtain rfl:=hrep;exact xN 0 hat [vI x] (vI x) rfl<|yB [] [(3,vI (W (n0 * x)))]<|zR<|zL<|zP<|yB [] [(4,vI (W (i + 1)))]<|yT<|wN [(1,vP b 0),(3,vI (W (n0 * x))),(4,vI (W (i + 1)))]<|ih (W (n0 * x)) (W (i + 1)) _ N H h hg ho hx
 intro hc N;exact vD<|wC zT<|yS [(3,vI n0)]<|hx _ _ (zC N).symm H
def oL (a0:zD):Option (Int):=do
 let n01←tB a0 1 0
 pure (id n01)
theorem zAw:∀ a0 r,oL a0=some r→∀ {I:Imm}{p c},(S4 I p a0.Dims c)→RT 143 [vA (cArr a0 p c)] I [] (xE  r):=by
 intro a0 r N I p c h;unfold oL at N;refine zX (fn:=Tryz.f143) (c:=(bodyOf Tryz.f143)) Tryz.func143 rfl rfl ?_;rintro B - -;refine yK<|tO (cArr a0 p c) ?_;intro b hb;refine yB [] []<|wW [(3,vI 1)]<|yG<|yF [(4,vI 0)]<|wD<|wN [(1,vP b 0),(3,vI 1),(4,vI 0)] ?_;obtain ⟨o0,ho0,hMl⟩:=zB N;refine zCd a0 1 0 o0 ho0 iR h (fun _ _ _ h=>h) (fun _ _ h=>h) ?_;intro I0 n01 heq le;subst o0;refine zU<|wW [(2,vI n01)]<|zL<|xG ?_;obtain rfl:=zC hMl;exact uM
def uC (list:(List zD)) (a0:zI) (point:(List Int)) (i:Int) (n0:Int) (k0:Int):Option (Out Int (Int)):=do
 if (decide (k0 < (a0.Subs.length:Int))) then
  let x2←idx list i
  if ((a0.Subs.length:Int) != (x2.Dims.length:Int)) then
   pure (.ret (-1))
  else
   let x3←idx a0.Subs k0
   let y1←sX x3 point
   let t70←(do
     if (decide (y1 < 0)) then
      pure true
     else
      let x4←idx list i
      let x5←idx x4.Dims k0
      pure (decide (y1 ≥ x5))
       : Option Bool)
   if t70 then
    pure (.ret (-1))
   else
    let x6←idx list i
    let x7←idx x6.Dims k0
    uC list a0 point i (W ((W (n0 * x7)) + y1)) (W (k0 + 1))
 else
  pure (.done n0)
 partial_fixpoint
theorem zCe (list:(List zD)) (a0:zI) (point:(List Int)) (i:Int):∀ (n0:Int) (k0:Int) (o:Out Int (Int)),uC list a0 point i n0 k0=some o→∀ {B}{I0 I:Imm}{Q}{base:Int}{p c p1 c1 p2 c2}{b:Nat},I0.le I→(S4 I p list c)→(S4 I p2 point c2)→(S4 I p1 a0.Subs c1)→NG Q→NO Q→(∀ (I':Imm) (n01:Int),o=(.done n01)→I0.le I'→T 86 B Q (.exit 2) I' [] [(7,vI base),(9,vI n01)])→(∀ r I' hs' m',o=(.ret r)→I0.le I'→RS Tryz.prog Tryz.f98 B (xE  r) I' hs' m'→T 86 B Q .ret I' hs' m')→J Tryz.prog 86 B (nav (bodyOf Tryz.f98) [1,1,0,1,0,0,1,0,0,1,1,0,1,0]) Q I [hB b (cAccess a0 p1 c1)] [(0,vS p list c),(2,vS p2 point c2),(4,vP b 0),(7,vI base),(8,vI i),(9,vI n0),(10,vI k0)]:=by
 refine uC.partial_correctness list a0 point i _ fun self ih n0 k0 o N B I0 I Q base p c p1 c1 p2 c2 b H h h2 h1 hg ho hx hr=>yW hg ho<|yI<|yK<|yB [0] [(37,.bool (decide (k0 < (a0.Subs.length:Int))))]<|zL<|yL N ?_ ?_
 · intro hc2 N;refine zV<|yG<|yM<|yI<|yI<|fP (by kernel_rfl) (by kernel_rfl)<|zAd 5 [0] [(42,vI (a0.Subs.length:Int)),(43,vS p list c),(44,vI i)]<|bE N fun x2 hy3 N=>zEn rfl rfl h hy3 ?_;intro ad2 ccs2 hat2 hrep2;obtain ⟨p5,c5,rfl,h6⟩:=xX hrep2;refine zAd 7 [] [(46,.pointer (some (ad2.add 1)))]<|zEm 1 hat2 [vS p5 x2.Dims c5] (vS p5 x2.Dims c5) rfl<|zEA [] [(49,.bool ((a0.Subs.length:Int) != (x2.Dims.length:Int)))]<|zL<|yL N ?_ ?_
   · intro hc3 N;exact yF [(6,vI (-1))]<|xP<|zN<|yA<|zN<|zN<|hr _ _ _ _ (zC N).symm H ⟨_,_,(.tmp rfl ResV.nil),zT,⟨_,rfl,rfl,rfl⟩⟩
   intro hc3 N;refine zV<|xD<|yC 3 [0] [(51,vS p1 a0.Subs c1),(52,vI k0)]<|bE N fun x3 hy4 N=>xR rfl rfl h1 hy4 ?_;intro ad3 ccs3 hat3 hrep3;obtain ⟨p6,c6,rfl,h7⟩:=yQ hrep3;refine xN 0 hat3 (cAff x3 p6 c6) (vA (cAff x3 p6 c6)) rfl<|yC 6 [] [(55,vS p2 point c2)]<|bE N fun y1 hy5 N=>kI (kM x3 point _ hy5 h7 h2) ?_;intro I01 le1;have h:=h.mono le1;have h2:=h2.mono le1;have h1:=h1.mono le1;have H:=H.trans le1;refine yB [] [(11,vI y1)]<|yG<|yI ?_;obtain ⟨o0,ho0,hMc⟩:=zB N;refine yU (fun I' hs' m'=>∃ (t70:Bool),o0=t70∧I01.le I'∧hs'=[hB b (cAccess a0 p1 c1)]∧m'=[(0,vS p list c),(2,vS p2 point c2),(4,vP b 0),(7,vI base),(8,vI i),(9,vI n0),(10,vI k0),(11,vI y1),(70,.bool t70)]) ?_ ?_
   · have H:=iS I01;refine zP<|yC 3 [] [(59,.bool (decide (y1 < 0)))] ?_;cases hc4:(decide (y1 < 0)) with
     | true =>
      have hM0:=zS hc4 ho0
      try rw [hc4]
      exact yB [] [(70,vY)]<|yS [(0,vS p list c),(2,vS p2 point c2),(4,vP b 0),(7,vI base),(8,vI i),(9,vI n0),(10,vI k0),(11,vI y1),(70,vY)]<|zW (ct hM0 H)
     | false =>
      have hM01:=zQ hc4 ho0
      try rw [hc4]
      refine yC 6 [] [(60,vI y1),(61,vS p list c),(62,vI i)] ?_;obtain ⟨x4,hy6,N⟩:=zB hM01;refine xR rfl rfl h hy6 ?_;intro ad4 ccs4 hat4 hrep4;obtain ⟨p7,c7,rfl,h9⟩:=xX hrep4;refine yC 8 [] [(64,.pointer (some (ad4.add 1)))]<|xN 1 hat4 [vS p7 x4.Dims c7] (vS p7 x4.Dims c7) rfl<|yC 10 [] [(66,vI k0)]<|bE N fun x5 hy7 N=>xR rfl rfl h9 hy7 ?_;intro ad5 ccs5 hat5 hrep5;obtain rfl:=hrep5;exact xN 0 hat5 [vI x5] (vI x5) rfl<|yB [] [(70,.bool (decide (y1 ≥ x5)))]<|yS [(0,vS p list c),(2,vS p2 point c2),(4,vP b 0),(7,vI base),(8,vI i),(9,vI n0),(10,vI k0),(11,vI y1),(70,.bool (decide (y1 ≥ x5)))]<|zW (ct N H)
   rintro I02 hs2 m2 ⟨t70,heq,le2,rfl,rfl⟩;subst o0;have h:=h.mono le2;have h2:=h2.mono le2;have h1:=h1.mono le2;have H:=H.trans le2;refine zL<|yL hMc ?_ ?_
   · intro hc5 N;exact yF [(6,vI (-1))]<|xP<|zN<|yA<|zN<|zN<|hr _ _ _ _ (zC N).symm H ⟨_,_,(.tmp rfl ResV.nil),zT,⟨_,rfl,rfl,rfl⟩⟩
   intro hc5 N;refine zV<|zL<|zP<|yC 3 [] [(71,vI n0),(72,vS p list c),(73,vI i)]<|bE N fun x6 hy8 N=>xR rfl rfl h hy8 ?_;intro ad6 ccs6 hat6 hrep6;obtain ⟨p8,c8,rfl,h10⟩:=xX hrep6;refine yC 5 [] [(75,.pointer (some (ad6.add 1)))]<|xN 1 hat6 [vS p8 x6.Dims c8] (vS p8 x6.Dims c8) rfl<|yC 7 [] [(77,vI k0)]<|bE N fun x7 hy9 N=>xR rfl rfl h10 hy9 ?_;intro ad7 ccs7 hat7 hrep7;obtain rfl:=hrep7;exact xN 0 hat7 [vI x7] (vI x7) rfl<|yB [] [(9,vI (W ((W (n0 * x7)) + y1)))]<|zR<|zL<|zP<|yB [] [(10,vI (W (k0 + 1)))]<|yT<|wN [(0,vS p list c),(2,vS p2 point c2),(4,vP b 0),(7,vI base),(8,vI i),(9,vI (W ((W (n0 * x7)) + y1))),(10,vI (W (k0 + 1)))]<|ih (W ((W (n0 * x7)) + y1)) (W (k0 + 1)) _ N H h h2 h1 hg ho hx hr
 intro hc2 N;exact vD<|wC zT<|yS [(7,vI base),(9,vI n0)]<|hx _ _ (zC N).symm H
def uD (list:(List zD)) (a0:zI) (point:(List Int)) (base:Int) (i:Int):Option (Out Unit (Int)):=do
 if (decide (i < (list.length:Int))) then
  let x←idx list i
  if (!(x.Name.l == a0.Array.l)) then
   let x1←idx list i
   let y←oL x1
   uD list a0 point (W (base + y)) (W (i + 1))
  else
   match←uC list a0 point i 0 0 with
   | .ret r0=>pure (.ret r0)
   | .done n01 =>
    pure (.ret (W (base + n01)))
 else
  pure (.done ())
 partial_fixpoint
theorem zCf (list:(List zD)) (a0:zI) (point:(List Int)):∀ (base:Int) (i:Int) (o:Out Unit (Int)),uD list a0 point base i=some o→∀ {B}{I0 I:Imm}{Q p c p1 c1 p2 c2}{b:Nat},I0.le I→(S4 I p list c)→(S4 I p2 point c2)→(S4 I p1 a0.Subs c1)→NG Q→NO Q→(∀ (I':Imm) ,o=(.done ())→I0.le I'→T 86 B Q (.exit 0) I' [] [])→(∀ r I' hs' m',o=(.ret r)→I0.le I'→RS Tryz.prog Tryz.f98 B (xE  r) I' hs' m'→T 86 B Q .ret I' hs' m')→J Tryz.prog 86 B (nav (bodyOf Tryz.f98) [1,1,0,1,0]) Q I [hB b (cAccess a0 p1 c1)] [(0,vS p list c),(2,vS p2 point c2),(4,vP b 0),(7,vI base),(8,vI i)]:=by
 refine uD.partial_correctness list a0 point _ fun self ih base i o N B I0 I Q p c p1 c1 p2 c2 b H h h2 h1 hg ho hx hr=>yW hg ho<|yI<|yF [(15,.bool (decide (i < (list.length:Int))))]<|zL<|yL N ?_ ?_
 · intro hc N;refine zV<|yG<|yM<|yI<|yI<|fP (by kernel_rfl) (by kernel_rfl)<|zAd 2 [] [(18,vS p list c),(19,vI i)]<|bE N fun x hy N=>zEn rfl rfl h hy ?_;intro ad ccs hat hrep;obtain ⟨p3,c3,rfl,h3⟩:=xX hrep;refine zAd 4 [] [(21,.pointer (some ad))]<|zEm 0 hat [vT x.Name.l] (vT x.Name.l) rfl<|zEA [0] [(25,.bool (!(x.Name.l == a0.Array.l)))]<|zL<|yL N ?_ ?_
   · intro hc1 N;refine yK<|yC 3 [] [(26,vI base),(27,vS p list c),(28,vI i)]<|bE N fun x1 hy1 N=>xR rfl rfl h hy1 ?_;intro ad1 ccs1 hat1 hrep1;obtain ⟨p4,c4,rfl,h4⟩:=xX hrep1;refine xN 0 hat1 (cArr x1 p4 c4) (vA (cArr x1 p4 c4)) rfl<|bE N fun y hy2 N=>kI (zAw x1 _ hy2 h4) ?_;intro I0 le;have h:=h.mono le;have h2:=h2.mono le;have h1:=h1.mono le;have H:=H.trans le;exact yB [] [(7,vI (W (base + y)))]<|zL<|zAn<|oJ<|zU<|zL<|zP<|yB [] [(8,vI (W (i + 1)))]<|yT<|wN [(0,vS p list c),(2,vS p2 point c2),(4,vP b 0),(7,vI (W (base + y))),(8,vI (W (i + 1)))]<|ih (W (base + y)) (W (i + 1)) _ N H h h2 h1 hg ho hx hr
   intro hc1 N;refine zV<|wW [(9,vI 0)]<|yG<|yF [(10,vI 0)]<|wD<|wN [(0,vS p list c),(2,vS p2 point c2),(4,vP b 0),(7,vI base),(8,vI i),(9,vI 0),(10,vI 0)] ?_;obtain ⟨o01,ho01,hMl⟩:=zB N;refine zCe list a0 point i 0 0 o01 ho01 iR h h2 h1 (fun _ _ _ h=>hg _ _ _ h) (fun _ _ h=>ho _ _ h) ?_ ?_
   · intro I03 n01 heq1 le3;subst o01;have H:=H.trans le3;exact zU<|wW [(6,vI (W (base + n01)))]<|xP<|yA<|zN<|zN<|hr _ _ _ _ (zC hMl).symm H ⟨_,_,(.tmp rfl ResV.nil),zT,⟨_,rfl,rfl,rfl⟩⟩
   intro r0 I9 hs9 m9 heq9 le9 hrs9;subst heq9;exact yA<|zN<|yA<|zN<|zN<|hr _ _ _ _ (zC hMl).symm (H.trans le9) hrs9
 intro hc N;exact vD<|wC zT<|yS []<|hx _  (zC N).symm H
def oM (list:(List zD)) (a0:zI) (point:(List Int)):Option (Int):=do
 match←uD list a0 point 0 0 with
 | .ret r0=>pure r0
 | .done _ =>
  pure (-1)
theorem zAx:∀ list a0 point r,oM list a0 point=some r→∀ {I:Imm}{p c p1 c1 p2 c2},(S4 I p list c)→(S4 I p1 a0.Subs c1)→(S4 I p2 point c2)→RT 98 [vS p list c,vA (cAccess a0 p1 c1),vS p2 point c2] I [] (xE  r):=by
 intro list a0 point r N I p c p1 c1 p2 c2 h h1 h2;unfold oM at N;refine zX (fn:=Tryz.f98) (c:=(bodyOf Tryz.f98)) Tryz.func98 rfl rfl ?_;rintro B - -;refine yK<|tO (cAccess a0 p1 c1) ?_;intro b hb;refine yB [] []<|wW [(7,vI 0)]<|yG<|yF [(8,vI 0)]<|wD<|wN [(0,vS p list c),(2,vS p2 point c2),(4,vP b 0),(7,vI 0),(8,vI 0)] ?_;obtain ⟨o02,ho02,hMl1⟩:=zB N;refine zCf list a0 point 0 0 o02 ho02 iR h h2 h1 (fun _ _ _ h=>h) (fun _ _ h=>h) ?_ ?_
 · intro I04  heq2 le4;subst o02;refine zU<|wW [(6,vI (-1))]<|zL<|xG ?_;obtain rfl:=zC hMl1;exact uM
 intro r0 I9 hs9 m9 heq9 le9 hrs9;subst heq9;refine yA<|zN ?_;obtain rfl:=zC hMl1;exact xF hrs9
def eV (r:(List zI)):KT:=fun kk I' hs' v=>
  ∃ a0 c0 s0,hs'=[.osl (.slice a0 r.length c0) (Rp.sz zI) s0]∧v=tupV [(.slice a0 r.length c0)]∧RepL (Rp.rep I') (Rp.sz zI) s0 r
mutual
def tU (out:(List zI)) (e0:zG):Option ((List zI)):=do
 let out1←(do
   if (e0.Kind == 3) then
    let y←vW e0.Read
    let out2←app 40 out ([y]:List zI)
    pure (id out2)
   else
    pure (id out)
     : Option (List zI))
 let out4←wE (same e0) (same out1) (same 0)
 pure (id out4)
 partial_fixpoint
def wE (e0:zG) (out3:List zI) (i:Int):Option (List zI):=do
 if (decide (i < (e0.Kids.length:Int))) then
  let x←idx e0.Kids i
  let y1←tU (same out3) (same x)
  wE (same e0) (same y1) (W (i + 1))
 else
  pure (id out3)
 partial_fixpoint
end
theorem zD5:(∀ (out:(List zI)) (e0:zG) r,tU out e0=some r→∀ {I:Imm}{p c cs p1 c1 p2 c2 p3 c3},(RL I cs out)→(S4 I p1 e0.Index.Coefs c1)→(S4 I p2 e0.Read.Subs c2)→(S4 I p3 e0.Kids c3)→RT 101 [vS p out c,vA (cExpr e0 p1 c1 p2 c2 p3 c3)] I [hO zI (vS p out c) cs] (eV  r))∧(∀ (e0:zG) (out3:List zI) (i:Int) o,wE e0 out3 i=some o→∀ {B}{I0 I:Imm}{Q p1 c1 p2 c2 p3 c3}{b:Nat}{p7 c7 cs4},I0.le I→(S4 I p1 e0.Index.Coefs c1)→(S4 I p2 e0.Read.Subs c2)→(S4 I p3 e0.Kids c3)→(RL I cs4 out3)→NG Q→NO Q→(∀ (I':Imm) (out4:List zI) (p8:Option Addr) (c8:Nat) (cs5:List Value),o=out4→I0.le I'→(RL I' cs5 out4)→T 30 B Q (.exit 0) I' [hO zI (vS p8 out4 c8) cs5] [(0,vS p8 out4 c8)])→J Tryz.prog 30 B (nav (bodyOf Tryz.f101) [1,1,0,1,0]) Q I [hB b (cExpr e0 p1 c1 p2 c2 p3 c3),hO zI (vS p7 out3 c7) cs4] [(0,vS p7 out3 c7),(3,vP b 0),(5,vI i)]):=by
  refine tU.mutual_partial_correctness _ _ ?_ ?_
  · intro F_spec_l3Reads_l1 ih_spec_l3Reads_l1 out e0 r N I p c cs p1 c1 p2 c2 p3 c3 h h1 h2 h3;refine zX (fn:=Tryz.f101) (c:=(bodyOf Tryz.f101)) Tryz.func101 rfl rfl ?_;rintro B - -;have H:=iS I;refine yK<|tO (cExpr e0 p1 c1 p2 c2 p3 c3) ?_;intro b hb;refine yB [] []<|yG<|yK<|yB [0] [(8,.bool (e0.Kind == 3))]<|zL ?_;obtain ⟨o0,ho0,hMc⟩:=zB N;refine yU (fun I' hs' m'=>∃ (out1:List zI) (p4:Option Addr) (c4:Nat) (cs1:List Value),o0=out1∧I.le I'∧(RL I' cs1 out1)∧hs'=[hB b (cExpr e0 p1 c1 p2 c2 p3 c3),hO zI (vS p4 out1 c4) cs1]∧m'=[(0,vS p4 out1 c4),(3,vP b 0)]) ?_ ?_
    · have H:=iS I;refine yL ho0 ?_ ?_
      · intro hc N;refine zP<|yC 3 [0] [(9,vS p out c),(11,vA (cAccess e0.Read p2 c2))]<|bE N fun y hy N=>xS (kL e0.Read _ hy h2) ?_;rintro I01 hs2 v2 k2 le - ⟨p5,c5,cs2,rfl,rfl,h5⟩ -;have h:=iM le h;have H:=H.trans le;refine yJ 0 rfl ?_;intro I02 le1 hl0;have h6:=SL.of_frozen hl0 le1 h5;have h:=iM le1 h;have H:=H.trans le1;refine xU (cAccess y p5 c5) zI ?_;intro b1 hb1;have h7:RL I02 (cAccess y p5 c5) ([y]:List zI):=⟨(cAccess y p5 c5),_,rfl,rfl,(oO ⟨_,rfl,h6⟩),rfl⟩;obtain ⟨out2,hy1,N⟩:=zB N;exact qI 42 2 2 rfl rfl rfl h (.inr ⟨0,rfl⟩) h7 hy1 fun p6 c6 cs3 h8=>sU (yD [1,2] (hs':=[hB b (cExpr e0 p1 c1 p2 c2 p3 c3),hO zI (vS p6 out2 c6) cs3]))<|yB [] [(0,vS p6 out2 c6)]<|yS [(0,vS p6 out2 c6),(3,vP b 0)]<|zW ⟨_,_,_,_,(zC N).symm,H,h8,rfl,rfl⟩
      intro hc N;exact zV<|yS [(0,vS p out c),(3,vP b 0)]<|zW ⟨_,_,_,_,(zC N).symm,H,h,rfl,rfl⟩
    rintro I0 hs2 m2 ⟨out1,p4,c4,cs1,heq,le2,h4,rfl,rfl⟩;subst o0;have h1:=h1.mono le2;have h2:=h2.mono le2;have h3:=h3.mono le2;refine yG<|yF [(5,vI 0)]<|wD<|wN [(0,vS p4 out1 c4),(3,vP b 0),(5,vI 0)] ?_;obtain ⟨o01,ho01,hMl⟩:=zB hMc;refine ih_spec_l3Reads_l1 e0 out1 0 o01 ho01 iR h1 h2 h3 h4 (fun _ _ _ h=>h) (fun _ _ h=>h) ?_;intro I04 out4 p8 c8 cs5 heq1 le4 h10;subst o01;refine zU<|wW [(4,vS p8 out4 c8)]<|zL<|xG ?_;obtain rfl:=zC hMl;exact xF ⟨_,_,(.tmp rfl ResV.nil),(zZ [0] rfl (by decide)),⟨_,_,_,rfl,rfl,h10⟩⟩
  intro F_spec_l3Reads F_spec_l3Reads_l1 ih_spec_l3Reads ih_spec_l3Reads_l1 e0 out3 i o N B I0 I Q p1 c1 p2 c2 p3 c3 b p7 c7 cs4 H h1 h2 h3 h9 hg ho hx;refine yW hg ho<|yI<|yK<|yB [0] [(19,.bool (decide (i < (e0.Kids.length:Int))))]<|zL<|yL N ?_ ?_
  · intro hc1 N;refine zV<|yG<|yM<|zP<|yC 4 [0] [(22,vS p7 out3 c7),(24,vS p3 e0.Kids c3),(25,vI i)]<|bE N fun x hy2 N=>xR rfl rfl h3 hy2 ?_;intro ad ccs hat hrep;obtain ⟨p9,c9,p10,c10,p11,c11,rfl,h11,h12,h13⟩:=uU hrep;refine xN 0 hat (cExpr x p9 c9 p10 c10 p11 c11) (vA (cExpr x p9 c9 p10 c10 p11 c11)) rfl<|sU (yD [1,0] (hs':=[hO zI (vS p7 out3 c7) cs4,hB b (cExpr e0 p1 c1 p2 c2 p3 c3)]))<|bE N fun y1 hy3 N=>tS [hO zI (vS p7 out3 c7) cs4] [hB b (cExpr e0 p1 c1 p2 c2 p3 c3)] (ih_spec_l3Reads out3 x _ hy3 h9 h11 h12 h13) ?_;rintro I03 hs2 v2 k2 le3 - ⟨p12,c12,cs6,rfl,rfl,h14⟩ -;have h1:=h1.mono le3;have h2:=h2.mono le3;have h3:=h3.mono le3;have H:=H.trans le3;exact yB [] [(0,vS p12 y1 c12)]<|zR<|zL<|zP<|yB [] [(5,vI (W (i + 1)))]<|yT<|rM (zZ [1,0] rfl (by decide))<|wN [(0,vS p12 y1 c12),(3,vP b 0),(5,vI (W (i + 1)))]<|ih_spec_l3Reads_l1 e0 y1 (W (i + 1)) _ N H h1 h2 h3 h14 hg ho hx
  intro hc1 N;exact vD<|wC (zZ [1] rfl (by decide))<|yS [(0,vS p7 out3 c7)]<|hx _ _ _ _ _ (zC N).symm H h9
theorem zEF:∀ out e0 r,tU out e0=some r→∀ {I:Imm}{p c cs p1 c1 p2 c2 p3 c3},(RL I cs out)→(S4 I p1 e0.Index.Coefs c1)→(S4 I p2 e0.Read.Subs c2)→(S4 I p3 e0.Kids c3)→RT 101 [vS p out c,vA (cExpr e0 p1 c1 p2 c2 p3 c3)] I [hO zI (vS p out c) cs] (eV  r):=zD5.1
def eW (r:(List Int)×Int×Bool):KT:=fun kk I' hs' v=>
  ∃ v0 v1 v2,hs'=[]∧v=tupV [v0,v1,v2]∧SL I' v0 r.1∧v1=.int .i64 r.2.1∧v2=.bool r.2.2
def uN (list:(List zD)) (point:(List Int)) (y:(List zI)) (out:List Int) (i:Int):Option (Out (List Int) ((List Int)×Int×Bool)):=do
 if (decide (i < (y.length:Int))) then
  let x←idx y i
  let y1←oM list x point
  if (decide (y1 < 0)) then
   pure (.ret (([]:List Int),0,false))
  else
   let out2←app 8 out ([y1]:List Int)
   uN list point y out2 (W (i + 1))
 else
  pure (.done out)
 partial_fixpoint
theorem zCB (list:(List zD)) (point:(List Int)) (y:(List zI)):∀ (out:List Int) (i:Int) (o:Out (List Int) ((List Int)×Int×Bool)),uN list point y out i=some o→∀ {B}{I0 I:Imm}{Q}{s:zJ}{p c p1 c1 p2 c2 p3 c3 p4 c4 p5 c5}{b:Nat}{p6 c6 cs p7 c7 cs1},I0.le I→(S4 I p list c)→(S4 I p5 point c5)→(RL I cs y)→(S4 I p1 s.Write.Subs c1)→(S4 I p2 s.Value.Index.Coefs c2)→(S4 I p3 s.Value.Read.Subs c3)→(S4 I p4 s.Value.Kids c4)→(RL I cs1 out)→NG Q→NO Q→(∀ (I':Imm) (out1:List Int) (p8:Option Addr) (c8:Nat) (cs2:List Value),o=(.done out1)→I0.le I'→(RL I' cs2 out1)→T 49 B Q (.exit 0) I' [hO Int (vS p8 out1 c8) cs2,hB b (cStmt s p1 c1 p2 c2 p3 c3 p4 c4)] [(0,vS p list c),(2,vS p5 point c5),(4,vP b 0),(9,vS p8 out1 c8)])→(∀ r I' hs' m',o=(.ret r)→I0.le I'→RS Tryz.prog Tryz.f50 B (eW  r) I' hs' m'→T 49 B Q .ret I' hs' m')→J Tryz.prog 49 B (nav (bodyOf Tryz.f50) [1,1,1,0,1,0]) Q I [hO zI (vS p6 y c6) cs,hO Int (vS p7 out c7) cs1,hB b (cStmt s p1 c1 p2 c2 p3 c3 p4 c4)] [(0,vS p list c),(2,vS p5 point c5),(4,vP b 0),(9,vS p7 out c7),(10,vS p6 y c6),(11,vI i)]:=by
 refine uN.partial_correctness list point y _ fun self ih out i o N B I0 I Q s p c p1 c1 p2 c2 p3 c3 p4 c4 p5 c5 b p6 c6 cs p7 c7 cs1 H h h5 h8 h1 h2 h3 h4 h9 hg ho hx hr=>yW hg ho<|yI<|yF [(22,.bool (decide (i < (y.length:Int))))]<|zL<|yL N ?_ ?_
 · intro hc N;refine zV<|yG<|yM<|yK<|yC 3 [] [(25,vS p list c),(26,vS p6 y c6),(27,vI i)]<|bE N fun x hy1 N=>oU 0 rfl rfl rfl h8 hy1 ?_;intro ad ccs hat hcc hrep;obtain ⟨p9,c9,rfl,h11⟩:=pP hrep;refine zC3 0 0 hat hcc (cAccess x p9 c9) (vA (cAccess x p9 c9)) rfl rfl<|yC 6 [] [(30,vS p5 point c5)]<|bE N fun y1 hy2 N=>kI (zAx list x point _ hy2 h h11 h5) ?_;intro I01 le1;have h:=h.mono le1;have h5:=h5.mono le1;have h9:=iM le1 h9;have h8:=iM le1 h8;have h1:=h1.mono le1;have h2:=h2.mono le1;have h3:=h3.mono le1;have h4:=h4.mono le1;have H:=H.trans le1;refine yB [] [(12,vI y1)]<|yG<|yF [(33,.bool (decide (y1 < 0)))]<|zL<|yL N ?_ ?_
   · intro hc1 N;refine yK<|xU [] Int ?_;intro b3 hb3;have h13:RL I01 [] ([]:List Int):=rfl;refine yB [] [(6,vS (some ⟨b3,0,none⟩) ([]:List Int) 0),(7,vI 0),(8,vF)]<|xP<|zN<|yA<|zN<|zN<|xA 0 rfl ?_;intro I02 le2 hl0;have h14:=SL.of_frozen hl0 le2 h13;have H:=H.trans le2;exact hr _ _ _ _ (zC N).symm H ⟨_,_,(.tmp rfl (.tmp rfl (.tmp rfl ResV.nil))),zT,⟨_,_,_,rfl,rfl,h14,rfl,rfl⟩⟩
   intro hc1 N;refine zV<|zL<|zP<|yC 2 [] [(35,vS p7 out c7),(36,vI y1)]<|xU [vI y1] Int ?_;intro b4 hb4;have h15:RL I01 [vI y1] ([y1]:List Int):=⟨[vI y1],_,rfl,rfl,rfl,rfl⟩;obtain ⟨out2,hy3,N⟩:=zB N;exact qI 3 1 2 rfl rfl rfl h9 (.inr ⟨0,rfl⟩) h15 hy3 fun p10 c10 cs3 h16=>sU (yD [1,2,3] (hs':=[hO zI (vS p6 y c6) cs,hO Int (vS p10 out2 c10) cs3,hB b (cStmt s p1 c1 p2 c2 p3 c3 p4 c4)]))<|yB [] [(9,vS p10 out2 c10)]<|zR<|zL<|zP<|yB [] [(11,vI (W (i + 1)))]<|yT<|wN [(0,vS p list c),(2,vS p5 point c5),(4,vP b 0),(9,vS p10 out2 c10),(10,vS p6 y c6),(11,vI (W (i + 1)))]<|ih out2 (W (i + 1)) _ N H h h5 h8 h1 h2 h3 h4 h16 hg ho hx hr
 intro hc N;exact vD<|wC (zZ [1,2] rfl (by decide))<|yS [(0,vS p list c),(2,vS p5 point c5),(4,vP b 0),(9,vS p7 out c7)]<|hx _ _ _ _ _ (zC N).symm H h9
def pR (list:(List zD)) (s:zJ) (point:(List Int)):Option ((List Int)×Int×Bool):=do
 let y←tU ([]:List zI) s.Value
 match←uN list point y ([]:List Int) 0 with
 | .ret r0=>pure r0
 | .done out1 =>
  let y2←oM list s.Write point
  if (decide (y2 < 0)) then
   pure (([]:List Int),0,false)
  else
   pure (out1,y2,true)
theorem zA8:∀ list s point r,pR list s point=some r→∀ {I:Imm}{p c p1 c1 p2 c2 p3 c3 p4 c4 p5 c5},(S4 I p list c)→(S4 I p1 s.Write.Subs c1)→(S4 I p2 s.Value.Index.Coefs c2)→(S4 I p3 s.Value.Read.Subs c3)→(S4 I p4 s.Value.Kids c4)→(S4 I p5 point c5)→RT 50 [vS p list c,vA (cStmt s p1 c1 p2 c2 p3 c3 p4 c4),vS p5 point c5] I [] (eW  r):=by
 intro list s point r N I p c p1 c1 p2 c2 p3 c3 p4 c4 p5 c5 h h1 h2 h3 h4 h5;unfold pR at N;refine zX (fn:=Tryz.f50) (c:=(bodyOf Tryz.f50)) Tryz.func50 rfl rfl ?_;rintro B - -;refine yK<|tO (cStmt s p1 c1 p2 c2 p3 c3 p4 c4) ?_;intro b hb;refine yB [] []<|xD<|xU [] Int ?_;intro b1 hb1;have h6:RL I [] ([]:List Int):=rfl;refine yB [] [(9,vS (some ⟨b1,0,none⟩) ([]:List Int) 0)]<|xD<|xU [] zI ?_;intro b2 hb2;have h7:RL I [] ([]:List zI):=rfl;refine yC 3 [2] [(17,vA (cExpr s.Value p2 c2 p3 c3 p4 c4))]<|bE N fun y hy N=>tS [hO zI (vS (some ⟨b2,0,none⟩) ([]:List zI) 0) []] [hO Int (vS (some ⟨b1,0,none⟩) ([]:List Int) 0) [],hB b (cStmt s p1 c1 p2 c2 p3 c3 p4 c4)] (zEF ([]:List zI) s.Value _ hy h7 h2 h3 h4) ?_;rintro I0 hs2 v2 k2 le - ⟨p6,c6,cs,rfl,rfl,h8⟩ -;have h:=h.mono le;have h5:=h5.mono le;have h6:=iM le h6;have h1:=h1.mono le;have h2:=h2.mono le;have h3:=h3.mono le;have h4:=h4.mono le;refine yB [] [(10,vS p6 y c6)]<|yG<|yF [(11,vI 0)]<|wD<|wN [(0,vS p list c),(2,vS p5 point c5),(4,vP b 0),(9,vS (some ⟨b1,0,none⟩) ([]:List Int) 0),(10,vS p6 y c6),(11,vI 0)] ?_;obtain ⟨o0,ho0,hMl⟩:=zB N;refine zCB list point y ([]:List Int) 0 o0 ho0 iR h h5 h8 h1 h2 h3 h4 h6 (fun _ _ _ h=>h) (fun _ _ h=>h) ?_ ?_
 · intro I03 out1 p8 c8 cs2 heq le3 h10;subst o0;have h:=h.mono le3;have h5:=h5.mono le3;have h1:=h1.mono le3;refine zU<|xD<|yC 4 [1] [(39,vS p list c),(41,vA (cAccess s.Write p1 c1)),(42,vS p5 point c5)] ?_;obtain ⟨y2,hy4,N⟩:=zB hMl;refine kI (zAx list s.Write point _ hy4 h h1 h5) ?_;intro I04 le4;have h10:=iM le4 h10;refine yB [] [(13,vI y2)]<|yG<|yF [(45,.bool (decide (y2 < 0)))]<|zL<|yL N ?_ ?_
   · intro hc2 N;refine yK<|xU [] Int ?_;intro b5 hb5;have h18:RL I04 [] ([]:List Int):=rfl;refine yB [] [(6,vS (some ⟨b5,0,none⟩) ([]:List Int) 0),(7,vI 0),(8,vF)]<|xP<|zN<|xA 0 rfl ?_;intro I05 le5 hl01;have h19:=SL.of_frozen hl01 le5 h18;obtain rfl:=zC N;exact xF ⟨_,_,(.tmp rfl (.tmp rfl (.tmp rfl ResV.nil))),zT,⟨_,_,_,rfl,rfl,h19,rfl,rfl⟩⟩
   intro hc2 N;refine zV<|wW [(6,vS p8 out1 c8),(7,vI y2),(8,vY)]<|xP<|xA 0 rfl ?_;intro I06 le6 hl02;have h20:=SL.of_frozen hl02 le6 h10;obtain rfl:=zC N;exact xF ⟨_,_,(.tmp rfl (.tmp rfl (.tmp rfl ResV.nil))),zT,⟨_,_,_,rfl,rfl,h20,rfl,rfl⟩⟩
 intro r0 I9 hs9 m9 heq9 le9 hrs9;subst heq9;refine yA<|zN ?_;obtain rfl:=zC hMl;exact xF hrs9
def vG (n0:Int) (most:Int):Option (Bool):=do
 let t4←(do
   if (decide (n0 ≥ (W (0 - most)))) then
    pure (decide (n0 ≤ most))
   else
    pure false
     : Option Bool)
 pure (id t4)
theorem gI:∀ n0 most r,vG n0 most=some r→∀ {I:Imm} ,RT 179 [vI n0,vI most] I [] (zY  r):=by
 intro n0 most r N I;unfold vG at N;refine zX (fn:=Tryz.f179) (c:=(bodyOf Tryz.f179)) Tryz.func179 rfl rfl ?_;rintro B - -;have H:=iS I;refine yF []<|zL<|yI ?_;obtain ⟨o0,ho0,hMc⟩:=zB N;refine yU (fun I' hs' m'=>∃ (t4:Bool),o0=t4∧I.le I'∧hs'=[]∧m'=[(4,.bool t4)]) ?_ ?_
 · have H:=iS I;refine zP<|yC 5 [] [(9,.bool (decide (n0 ≥ (W (0 - most)))))] ?_;cases hc:(decide (n0 ≥ (W (0 - most)))) with
   | true =>
    have hM0:=zS hc ho0
    try rw [hc]
    exact yB [] [(4,.bool (decide (n0 ≤ most)))]<|yS [(4,.bool (decide (n0 ≤ most)))]<|zW (ct hM0 H)
   | false =>
    have hM01:=zQ hc ho0
    try rw [hc]
    exact yB [] [(4,vF)]<|yS [(4,vF)]<|zW (ct hM01 H)
 rintro I0 hs2 m2 ⟨t4,heq,le,rfl,rfl⟩;subst o0;refine zL<|xG ?_;obtain rfl:=zC hMc;exact uM
def uO (p:(List Int)) (i:Int):Option (Out Unit (Bool)):=do
 if (decide (i < (p.length:Int))) then
  let x←idx p i
  let y←vG x 9999
  if (!y) then
   pure (.ret false)
  else
   uO p (W (i + 1))
 else
  pure (.done ())
 partial_fixpoint
theorem zCC (p:(List Int)):∀ (i:Int) (o:Out Unit (Bool)),uO p i=some o→∀ {B}{I0 I:Imm}{Q p1 c},I0.le I→(S4 I p1 p c)→NG Q→NO Q→(∀ (I':Imm) ,o=(.done ())→I0.le I'→T 19 B Q (.exit 0) I' [] [(0,vS p1 p c)])→(∀ r I' hs' m',o=(.ret r)→I0.le I'→RS Tryz.prog Tryz.f145 B (zY  r) I' hs' m'→T 19 B Q .ret I' hs' m')→J Tryz.prog 19 B (nav (bodyOf Tryz.f145) [1,0,1,0]) Q I [] [(0,vS p1 p c),(3,vI i)]:=by
 refine uO.partial_correctness p _ fun self ih i o N B I0 I Q p1 c H h hg ho hx hr=>yW hg ho<|yI<|yF [(7,.bool (decide (i < (p.length:Int))))]<|zL<|yL N ?_ ?_
 · intro hc N;refine zV<|yG<|yM<|yK<|yC 2 [] [(10,vS p1 p c),(11,vI i)]<|bE N fun x hy N=>xR rfl rfl h hy ?_;intro ad ccs hat hrep;obtain rfl:=hrep;refine xN 0 hat [vI x] (vI x) rfl<|bE N fun y hy1 N=>tQ (gI x 9999 _ hy1 ) ?_;intro I0 le;have h:=h.mono le;have H:=H.trans le;refine yB [] [(15,.bool (!y))]<|zL<|yL N ?_ ?_
   · intro hc1 N;exact yF [(2,vF)]<|xP<|yA<|zN<|zN<|hr _ _ _ _ (zC N).symm H ⟨_,_,(.tmp rfl ResV.nil),zT,⟨_,rfl,rfl,rfl⟩⟩
   intro hc1 N;exact zV<|zR<|zL<|zP<|yB [] [(3,vI (W (i + 1)))]<|yT<|wN [(0,vS p1 p c),(3,vI (W (i + 1)))]<|ih (W (i + 1)) _ N H h hg ho hx hr
 intro hc N;exact vD<|yS [(0,vS p1 p c)]<|hx _  (zC N).symm H
def oV (p:(List Int)):Option (Bool):=do
 match←uO p 0 with
 | .ret r0=>pure r0
 | .done _ =>
  pure (decide ((p.length:Int) ≤ 4))
theorem zEG:∀ p r,oV p=some r→∀ {I:Imm}{p1 c},(S4 I p1 p c)→RT 145 [vS p1 p c] I [] (zY  r):=by
 intro p r N I p1 c h;unfold oV at N;refine zX (fn:=Tryz.f145) (c:=(bodyOf Tryz.f145)) Tryz.func145 rfl rfl ?_;rintro B - -;refine yF []<|yG<|yF [(3,vI 0)]<|wD<|wN [(0,vS p1 p c),(3,vI 0)] ?_;obtain ⟨o0,ho0,hMl⟩:=zB N;refine zCC p 0 o0 ho0 iR h (fun _ _ _ h=>h) (fun _ _ h=>h) ?_ ?_
 · intro I01  heq le1;subst o0;refine zU<|wW [(2,.bool (decide ((p.length:Int) ≤ 4)))]<|zL<|xG ?_;obtain rfl:=zC hMl;exact uM
 intro r0 I9 hs9 m9 heq9 le9 hrs9;subst heq9;refine yA<|zN ?_;obtain rfl:=zC hMl;exact xF hrs9
def wF (a0:zA) (i:Int):Option (Out Unit (Bool)):=do
 if (decide (i < (a0.Coefs.length:Int))) then
  let x←idx a0.Coefs i
  let y←vG x 9
  if (!y) then
   pure (.ret false)
  else
   wF a0 (W (i + 1))
 else
  pure (.done ())
 partial_fixpoint
theorem zAS (a0:zA):∀ (i:Int) (o:Out Unit (Bool)),wF a0 i=some o→∀ {B}{I0 I:Imm}{Q p c}{b:Nat},I0.le I→(S4 I p a0.Coefs c)→NG Q→NO Q→(∀ (I':Imm) ,o=(.done ())→I0.le I'→T 27 B Q (.exit 0) I' [hB b (cAff a0 p c)] [(1,vP b 0)])→(∀ r I' hs' m',o=(.ret r)→I0.le I'→RS Tryz.prog Tryz.f204 B (zY  r) I' hs' m'→T 27 B Q .ret I' hs' m')→J Tryz.prog 27 B (nav (bodyOf Tryz.f204) [1,0,1,0]) Q I [hB b (cAff a0 p c)] [(1,vP b 0),(3,vI i)]:=by
 refine wF.partial_correctness a0 _ fun self ih i o N B I0 I Q p c b H h hg ho hx hr=>yW hg ho<|yI<|yK<|yB [0] [(8,.bool (decide (i < (a0.Coefs.length:Int))))]<|zL<|yL N ?_ ?_
 · intro hc N;refine zV<|yG<|yM<|yK<|yC 3 [0] [(12,vS p a0.Coefs c),(13,vI i)]<|bE N fun x hy N=>xR rfl rfl h hy ?_;intro ad ccs hat hrep;obtain rfl:=hrep;refine xN 0 hat [vI x] (vI x) rfl<|bE N fun y hy1 N=>tQ (gI x 9 _ hy1 ) ?_;intro I0 le;have h:=h.mono le;have H:=H.trans le;refine yB [] [(17,.bool (!y))]<|zL<|yL N ?_ ?_
   · intro hc1 N;exact yF [(2,vF)]<|xP<|yA<|zN<|zN<|hr _ _ _ _ (zC N).symm H ⟨_,_,(.tmp rfl ResV.nil),zT,⟨_,rfl,rfl,rfl⟩⟩
   intro hc1 N;exact zV<|zR<|zL<|zP<|yB [] [(3,vI (W (i + 1)))]<|yT<|wN [(1,vP b 0),(3,vI (W (i + 1)))]<|ih (W (i + 1)) _ N H h hg ho hx hr
 intro hc N;exact vD<|yS [(1,vP b 0)]<|hx _  (zC N).symm H
def vU (a0:zA):Option (Bool):=do
 match←wF a0 0 with
 | .ret r0=>pure r0
 | .done _ =>
  let t2←(do
    if ((a0.Coefs.length:Int) == 4) then
     let y1←vG a0.Const 99
     pure (id y1)
    else
     pure false
      : Option Bool)
  pure (id t2)
theorem nW:∀ a0 r,vU a0=some r→∀ {I:Imm}{p c},(S4 I p a0.Coefs c)→RT 204 [vA (cAff a0 p c)] I [] (zY  r):=by
 intro a0 r N I p c h;unfold vU at N;refine zX (fn:=Tryz.f204) (c:=(bodyOf Tryz.f204)) Tryz.func204 rfl rfl ?_;rintro B - -;have H:=iS I;refine yK<|tO (cAff a0 p c) ?_;intro b hb;refine yB [] []<|yG<|yF [(3,vI 0)]<|wD<|wN [(1,vP b 0),(3,vI 0)] ?_;obtain ⟨o0,ho0,hMl⟩:=zB N;refine zAS a0 0 o0 ho0 iR h (fun _ _ _ h=>h) (fun _ _ h=>h) ?_ ?_
 · intro I01  heq le1;subst o0;have H:=H.trans le1;refine zU<|zL<|yI ?_;obtain ⟨o01,ho01,hMc⟩:=zB hMl;refine yU (fun I' hs' m'=>∃ (t2:Bool),o01=t2∧I01.le I'∧hs'=[]∧m'=[(2,.bool t2)]) ?_ ?_
   · have H:=iS I01;refine zP<|yC 5 [0] [(22,.bool ((a0.Coefs.length:Int) == 4))] ?_;cases hc2:((a0.Coefs.length:Int) == 4) with
     | true =>
      have hM0:=zS hc2 ho01
      try rw [hc2]
      refine yC 7 [0] [(24,vI a0.Const)] ?_;obtain ⟨y1,hy2,N⟩:=zB hM0;refine tQ (gI a0.Const 99 _ hy2 ) ?_;intro I03 le2;have H:=H.trans le2;exact yB [] [(2,.bool y1)]<|wC zT<|yS [(2,.bool y1)]<|zW (ct N H)
     | false =>
      have hM01:=zQ hc2 ho01
      try rw [hc2]
      exact yB [] [(2,vF)]<|wC zT<|yS [(2,vF)]<|zW (ct hM01 H)
   rintro I02 hs2 m2 ⟨t2,heq1,le3,rfl,rfl⟩;subst o01;refine zL<|xG ?_;obtain rfl:=zC hMc;exact uM
 intro r0 I9 hs9 m9 heq9 le9 hrs9;subst heq9;refine yA<|zN ?_;obtain rfl:=zC hMl;exact xF hrs9
def uP (a0:zA) (n0:Int) (i:Int):Option (Int):=do
 if (decide (i < (a0.Coefs.length:Int))) then
  let x←idx a0.Coefs i
  let n02←(do
    if (x != 0) then
     pure (W (i + 1))
    else
     pure (id n0)
      : Option Int)
  uP a0 n02 (W (i + 1))
 else
  pure (id n0)
 partial_fixpoint
theorem zCD (a0:zA):∀ (n0:Int) (i:Int) (o:Int),uP a0 n0 i=some o→∀ {B}{I0 I:Imm}{Q p c}{b:Nat},I0.le I→(S4 I p a0.Coefs c)→NG Q→NO Q→(∀ (I':Imm) (n01:Int),o=n01→I0.le I'→T 21 B Q (.exit 0) I' [] [(3,vI n01)])→J Tryz.prog 21 B (nav (bodyOf Tryz.f205) [1,1,0,1,0]) Q I [hB b (cAff a0 p c)] [(1,vP b 0),(3,vI n0),(4,vI i)]:=by
 refine uP.partial_correctness a0 _ fun self ih n0 i o N B I0 I Q p c b H h hg ho hx=>yW hg ho<|yI<|yK<|yB [0] [(9,.bool (decide (i < (a0.Coefs.length:Int))))]<|zL<|yL N ?_ ?_
 · intro hc N;refine zV<|yG<|yM<|yK<|yC 3 [0] [(13,vS p a0.Coefs c),(14,vI i)]<|bE N fun x hy N=>xR rfl rfl h hy ?_;intro ad ccs hat hrep;obtain rfl:=hrep;refine xN 0 hat [vI x] (vI x) rfl<|yB [] [(17,.bool (x != 0))]<|zL ?_;obtain ⟨o0,ho0,hMc⟩:=zB N;refine yU (fun I' hs' m'=>∃ (n02:Int),o0=n02∧I.le I'∧hs'=[hB b (cAff a0 p c)]∧m'=[(1,vP b 0),(3,vI n02),(4,vI i)]) ?_ ?_
   · have H:=iS I;refine yL ho0 ?_ ?_
     · intro hc1 N;exact zP<|yB [] [(3,vI (W (i + 1)))]<|yS [(1,vP b 0),(3,vI (W (i + 1))),(4,vI i)]<|zW (ct N H)
     intro hc1 N;exact zV<|yS [(1,vP b 0),(3,vI n0),(4,vI i)]<|zW (ct N H)
   rintro I0 hs2 m2 ⟨n02,heq,le,rfl,rfl⟩;subst o0;have h:=h.mono le;have H:=H.trans le;exact zR<|zL<|zP<|yB [] [(4,vI (W (i + 1)))]<|yT<|wN [(1,vP b 0),(3,vI n02),(4,vI (W (i + 1)))]<|ih n02 (W (i + 1)) _ hMc H h hg ho hx
 intro hc N;exact vD<|wC zT<|yS [(3,vI n0)]<|hx _ _ (zC N).symm H
def rV (a0:zA):Option (Int):=do
 let n01←uP a0 0 0
 pure (id n01)
theorem gY:∀ a0 r,rV a0=some r→∀ {I:Imm}{p c},(S4 I p a0.Coefs c)→RT 205 [vA (cAff a0 p c)] I [] (xE  r):=by
 intro a0 r N I p c h;unfold rV at N;refine zX (fn:=Tryz.f205) (c:=(bodyOf Tryz.f205)) Tryz.func205 rfl rfl ?_;rintro B - -;refine yK<|tO (cAff a0 p c) ?_;intro b hb;refine yB [] []<|wW [(3,vI 0)]<|yG<|yF [(4,vI 0)]<|wD<|wN [(1,vP b 0),(3,vI 0),(4,vI 0)] ?_;obtain ⟨o01,ho01,hMl⟩:=zB N;refine zCD a0 0 0 o01 ho01 iR h (fun _ _ _ h=>h) (fun _ _ h=>h) ?_;intro I01 n01 heq1 le1;subst o01;refine zU<|wW [(2,vI n01)]<|zL<|xG ?_;obtain rfl:=zC hMl;exact uM
def tC (list:(List zA)) (depth:Int) (i:Int):Option (Out Unit (Bool)):=do
 if (decide (i < (list.length:Int))) then
  let t26←(do
    let x←idx list i
    let y←vU x
    if (!y) then
     pure true
    else
     let x1←idx list i
     let y1←rV x1
     pure (decide (y1 > depth))
      : Option Bool)
  if t26 then
   pure (.ret false)
  else
   tC list depth (W (i + 1))
 else
  pure (.done ())
 partial_fixpoint
theorem zCg (list:(List zA)) (depth:Int):∀ (i:Int) (o:Out Unit (Bool)),tC list depth i=some o→∀ {B}{I0 I:Imm}{Q p c},I0.le I→(S4 I p list c)→NG Q→NO Q→(∀ (I':Imm) ,o=(.done ())→I0.le I'→T 35 B Q (.exit 0) I' [] [(0,vS p list c)])→(∀ r I' hs' m',o=(.ret r)→I0.le I'→RS Tryz.prog Tryz.f178 B (zY  r) I' hs' m'→T 35 B Q .ret I' hs' m')→J Tryz.prog 35 B (nav (bodyOf Tryz.f178) [1,0,1,0]) Q I [] [(0,vS p list c),(1,vI depth),(5,vI i)]:=by
 refine tC.partial_correctness list depth _ fun self ih i o N B I0 I Q p c H h hg ho hx hr=>yW hg ho<|yI<|yF [(9,.bool (decide (i < (list.length:Int))))]<|zL<|yL N ?_ ?_
 · intro hc N;refine zV<|yG<|yM<|yI ?_;obtain ⟨o0,ho0,hMc⟩:=zB N;refine yU (fun I' hs' m'=>∃ (t26:Bool),o0=t26∧I.le I'∧hs'=[]∧m'=[(0,vS p list c),(1,vI depth),(5,vI i),(26,.bool t26)]) ?_ ?_
   · have H:=iS I;refine zP<|yC 2 [] [(12,vS p list c),(13,vI i)] ?_;obtain ⟨x,hy,N⟩:=zB ho0;refine xR rfl rfl h hy ?_;intro ad ccs hat hrep;obtain ⟨p1,c1,rfl,h1⟩:=yQ hrep;refine xN 0 hat (cAff x p1 c1) (vA (cAff x p1 c1)) rfl<|bE N fun y hy1 N=>tQ (nW x _ hy1 h1) ?_;intro I01 le;have h:=h.mono le;have H:=H.trans le;refine yC 7 [] [(18,.bool (!y))] ?_;cases hc1:(!y) with
     | true =>
      have hM0:=zS hc1 N
      try rw [hc1]
      exact yB [] [(26,vY)]<|yS [(0,vS p list c),(1,vI depth),(5,vI i),(26,vY)]<|zW (ct hM0 H)
     | false =>
      have hM01:=zQ hc1 N
      try rw [hc1]
      refine yC 9 [] [(19,vS p list c),(20,vI i)] ?_;obtain ⟨x1,hy2,N⟩:=zB hM01;refine xR rfl rfl h hy2 ?_;intro ad1 ccs1 hat1 hrep1;obtain ⟨p2,c2,rfl,h3⟩:=yQ hrep1;refine xN 0 hat1 (cAff x1 p2 c2) (vA (cAff x1 p2 c2)) rfl<|bE N fun y1 hy3 N=>kI (gY x1 _ hy3 h3) ?_;intro I02 le1;have H:=H.trans le1;exact yB [] [(26,.bool (decide (y1 > depth)))]<|yS [(0,vS p list c),(1,vI depth),(5,vI i),(26,.bool (decide (y1 > depth)))]<|zW (ct N H)
   rintro I0 hs2 m2 ⟨t26,heq,le2,rfl,rfl⟩;subst o0;have h:=h.mono le2;have H:=H.trans le2;refine zL<|yL hMc ?_ ?_
   · intro hc2 N;exact yF [(4,vF)]<|xP<|yA<|zN<|zN<|hr _ _ _ _ (zC N).symm H ⟨_,_,(.tmp rfl ResV.nil),zT,⟨_,rfl,rfl,rfl⟩⟩
   intro hc2 N;exact zV<|zR<|zL<|zP<|yB [] [(5,vI (W (i + 1)))]<|yT<|wN [(0,vS p list c),(1,vI depth),(5,vI (W (i + 1)))]<|ih (W (i + 1)) _ N H h hg ho hx hr
 intro hc N;exact vD<|yS [(0,vS p list c)]<|hx _  (zC N).symm H
def oN (list:(List zA)) (depth:Int):Option (Bool):=do
 match←tC list depth 0 with
 | .ret r0=>pure r0
 | .done _ =>
  let t4←(do
    if (decide ((list.length:Int) ≥ 1)) then
     pure (decide ((list.length:Int) ≤ 2))
    else
     pure false
      : Option Bool)
  pure (id t4)
theorem zAy:∀ list depth r,oN list depth=some r→∀ {I:Imm}{p c},(S4 I p list c)→RT 178 [vS p list c,vI depth] I [] (zY  r):=by
 intro list depth r N I p c h;unfold oN at N;refine zX (fn:=Tryz.f178) (c:=(bodyOf Tryz.f178)) Tryz.func178 rfl rfl ?_;rintro B - -;have H:=iS I;refine yF []<|yG<|yF [(5,vI 0)]<|wD<|wN [(0,vS p list c),(1,vI depth),(5,vI 0)] ?_;obtain ⟨o01,ho01,hMl⟩:=zB N;refine zCg list depth 0 o01 ho01 iR h (fun _ _ _ h=>h) (fun _ _ h=>h) ?_ ?_
 · intro I03  heq1 le3;subst o01;have H:=H.trans le3;refine zU<|zL<|yI ?_;obtain ⟨o02,ho02,hMc1⟩:=zB hMl;refine yU (fun I' hs' m'=>∃ (t4:Bool),o02=t4∧I03.le I'∧hs'=[]∧m'=[(4,.bool t4)]) ?_ ?_
   · have H:=iS I03;refine zP<|yC 4 [] [(30,.bool (decide ((list.length:Int) ≥ 1)))] ?_;cases hc3:(decide ((list.length:Int) ≥ 1)) with
     | true =>
      have hM02:=zS hc3 ho02
      try rw [hc3]
      exact yB [] [(4,.bool (decide ((list.length:Int) ≤ 2)))]<|yS [(4,.bool (decide ((list.length:Int) ≤ 2)))]<|zW (ct hM02 H)
     | false =>
      have hM03:=zQ hc3 ho02
      try rw [hc3]
      exact yB [] [(4,vF)]<|yS [(4,vF)]<|zW (ct hM03 H)
   rintro I04 hs2 m2 ⟨t4,heq2,le4,rfl,rfl⟩;subst o02;refine zL<|xG ?_;obtain rfl:=zC hMc1;exact uM
 intro r0 I9 hs9 m9 heq9 le9 hrs9;subst heq9;refine yA<|zN ?_;obtain rfl:=zC hMl;exact xF hrs9
def wL (nest:(List zE)) (i:Int):Option (Out Unit (Bool)):=do
 let t12←(do
   if (decide (i < (nest.length:Int))) then
    pure (decide ((nest.length:Int) ≤ 4))
   else
    pure false
     : Option Bool)
 if t12 then
  let t32←(do
    let x←idx nest i
    let y←oN x.Lo i
    if (!y) then
     pure true
    else
     let x1←idx nest i
     let y1←oN x1.Hi i
     pure (!y1)
      : Option Bool)
  if t32 then
   pure (.ret false)
  else
   wL nest (W (i + 1))
 else
  pure (.done ())
 partial_fixpoint
theorem zAz (nest:(List zE)):∀ (i:Int) (o:Out Unit (Bool)),wL nest i=some o→∀ {B}{I0 I:Imm}{Q p c},I0.le I→(S4 I p nest c)→NG Q→NO Q→(∀ (I':Imm) ,o=(.done ())→I0.le I'→T 36 B Q (.exit 0) I' [] [(0,vS p nest c)])→(∀ r I' hs' m',o=(.ret r)→I0.le I'→RS Tryz.prog Tryz.f144 B (zY  r) I' hs' m'→T 36 B Q .ret I' hs' m')→J Tryz.prog 36 B (nav (bodyOf Tryz.f144) [1,0,1,0]) Q I [] [(0,vS p nest c),(3,vI i)]:=by
 refine wL.partial_correctness nest _ fun self ih i o N B I0 I Q p c H h hg ho hx hr=>yW hg ho<|yI<|yI ?_;obtain ⟨o0,ho0,hMc⟩:=zB N;refine yU (fun I' hs' m'=>∃ (t12:Bool),o0=t12∧I.le I'∧hs'=[]∧m'=[(0,vS p nest c),(3,vI i),(12,.bool t12)]) ?_ ?_
 · have H:=iS I;refine zP<|yC 5 [] [(8,.bool (decide (i < (nest.length:Int))))] ?_;cases hc:(decide (i < (nest.length:Int))) with
   | true =>
    have hM0:=zS hc ho0
    try rw [hc]
    exact yB [] [(12,.bool (decide ((nest.length:Int) ≤ 4)))]<|yS [(0,vS p nest c),(3,vI i),(12,.bool (decide ((nest.length:Int) ≤ 4)))]<|zW (ct hM0 H)
   | false =>
    have hM01:=zQ hc ho0
    try rw [hc]
    exact yB [] [(12,vF)]<|yS [(0,vS p nest c),(3,vI i),(12,vF)]<|zW (ct hM01 H)
 rintro I0 hs2 m2 ⟨t12,heq,le,rfl,rfl⟩;subst o0;have h:=h.mono le;have H:=H.trans le;refine zL<|yL hMc ?_ ?_
 · intro hc1 N;refine zV<|yG<|yM<|yI ?_;obtain ⟨o01,ho01,hMc1⟩:=zB N;refine yU (fun I' hs' m'=>∃ (t32:Bool),o01=t32∧I0.le I'∧hs'=[]∧m'=[(0,vS p nest c),(3,vI i),(32,.bool t32)]) ?_ ?_
   · have H:=iS I0;refine zP<|yC 2 [] [(15,vS p nest c),(16,vI i)] ?_;obtain ⟨x,hy,N⟩:=zB ho01;refine xR rfl rfl h hy ?_;intro ad ccs hat hrep;obtain ⟨p1,c1,p2,c2,rfl,h1,h2⟩:=tM hrep;refine yC 4 [] [(18,.pointer (some ad))]<|xN 0 hat [vS p1 x.Lo c1] (vS p1 x.Lo c1) rfl<|yC 6 [] [(20,vI i)]<|bE N fun y hy1 N=>tQ (zAy x.Lo i _ hy1 h1) ?_;intro I02 le1;have h:=h.mono le1;have H:=H.trans le1;refine yC 9 [] [(23,.bool (!y))] ?_;cases hc2:(!y) with
     | true =>
      have hM02:=zS hc2 N
      try rw [hc2]
      exact yB [] [(32,vY)]<|yS [(0,vS p nest c),(3,vI i),(32,vY)]<|zW (ct hM02 H)
     | false =>
      have hM03:=zQ hc2 N
      try rw [hc2]
      refine yC 11 [] [(24,vS p nest c),(25,vI i)] ?_;obtain ⟨x1,hy2,N⟩:=zB hM03;refine xR rfl rfl h hy2 ?_;intro ad1 ccs1 hat1 hrep1;obtain ⟨p3,c3,p4,c4,rfl,h4,h5⟩:=tM hrep1;refine yC 13 [] [(27,.pointer (some (ad1.add 1)))]<|xN 1 hat1 [vS p4 x1.Hi c4] (vS p4 x1.Hi c4) rfl<|yC 15 [] [(29,vI i)]<|bE N fun y1 hy3 N=>tQ (zAy x1.Hi i _ hy3 h5) ?_;intro I03 le2;have H:=H.trans le2;exact yB [] [(32,.bool (!y1))]<|yS [(0,vS p nest c),(3,vI i),(32,.bool (!y1))]<|zW (ct N H)
   rintro I01 hs2 m2 ⟨t32,heq1,le3,rfl,rfl⟩;subst o01;have h:=h.mono le3;have H:=H.trans le3;refine zL<|yL hMc1 ?_ ?_
   · intro hc3 N;exact yF [(2,vF)]<|xP<|yA<|zN<|zN<|hr _ _ _ _ (zC N).symm H ⟨_,_,(.tmp rfl ResV.nil),zT,⟨_,rfl,rfl,rfl⟩⟩
   intro hc3 N;exact zV<|zR<|zL<|zP<|yB [] [(3,vI (W (i + 1)))]<|yT<|wN [(0,vS p nest c),(3,vI (W (i + 1)))]<|ih (W (i + 1)) _ N H h hg ho hx hr
 intro hc1 N;exact vD<|yS [(0,vS p nest c)]<|hx _  (zC N).symm H
def qQ (nest:(List zE)):Option (Bool):=do
 match←wL nest 0 with
 | .ret r0=>pure r0
 | .done _ =>
  pure (decide ((nest.length:Int) ≤ 4))
theorem zCh:∀ nest r,qQ nest=some r→∀ {I:Imm}{p c},(S4 I p nest c)→RT 144 [vS p nest c] I [] (zY  r):=by
 intro nest r N I p c h;unfold qQ at N;refine zX (fn:=Tryz.f144) (c:=(bodyOf Tryz.f144)) Tryz.func144 rfl rfl ?_;rintro B - -;refine yF []<|yG<|yF [(3,vI 0)]<|wD<|wN [(0,vS p nest c),(3,vI 0)] ?_;obtain ⟨o02,ho02,hMl⟩:=zB N;refine zAz nest 0 o02 ho02 iR h (fun _ _ _ h=>h) (fun _ _ h=>h) ?_ ?_
 · intro I04  heq2 le4;subst o02;refine zU<|wW [(2,.bool (decide ((nest.length:Int) ≤ 4)))]<|zL<|xG ?_;obtain rfl:=zC hMl;exact uM
 intro r0 I9 hs9 m9 heq9 le9 hrs9;subst heq9;refine yA<|zN ?_;obtain rfl:=zC hMl;exact xF hrs9
def jS (r:Int×Int):KT:=fun kk I' hs' v=>
  ∃ v0 v1,hs'=[]∧v=tupV [v0,v1]∧v0=.int .i64 r.1∧v1=.int .i64 r.2
def uQ (loop:zE) (p2:(List Int)) (lo:Int) (i:Int):Option (Int):=do
 if (decide (i < (loop.Lo.length:Int))) then
  let x2←idx loop.Lo i
  let y2←sX x2 p2
  let lo2←(do
    if (decide (y2 > lo)) then
     pure (id y2)
    else
     pure (id lo)
      : Option Int)
  uQ loop p2 lo2 (W (i + 1))
 else
  pure (id lo)
 partial_fixpoint
theorem zCE (loop:zE) (p2:(List Int)):∀ (lo:Int) (i:Int) (o:Int),uQ loop p2 lo i=some o→∀ {B}{I0 I:Imm}{Q}{y1:Int}{p c p1 c1 p3 c2}{b:Nat},I0.le I→(S4 I p3 p2 c2)→(S4 I p loop.Lo c)→(S4 I p1 loop.Hi c1)→NG Q→NO Q→(∀ (I':Imm) (lo1:Int),o=lo1→I0.le I'→T 62 B Q (.exit 0) I' [hB b (cLoop loop p c p1 c1)] [(1,vS p3 p2 c2),(2,vP b 0),(6,vI lo1),(7,vI y1)])→J Tryz.prog 62 B (nav (bodyOf Tryz.f146) [1,1,1,0,1,0]) Q I [hB b (cLoop loop p c p1 c1)] [(1,vS p3 p2 c2),(2,vP b 0),(6,vI lo),(7,vI y1),(8,vI i)]:=by
 refine uQ.partial_correctness loop p2 _ fun self ih lo i o N B I0 I Q y1 p c p1 c1 p3 c2 b H h2 h h1 hg ho hx=>yW hg ho<|yI<|yK<|yB [0] [(28,.bool (decide (i < (loop.Lo.length:Int))))]<|zL<|yL N ?_ ?_
 · intro hc N;refine zV<|yG<|yM<|yK<|yC 3 [0] [(32,vS p loop.Lo c),(33,vI i)]<|bE N fun x2 hy4 N=>xR rfl rfl h hy4 ?_;intro ad2 ccs2 hat2 hrep2;obtain ⟨p6,c5,rfl,h7⟩:=yQ hrep2;refine xN 0 hat2 (cAff x2 p6 c5) (vA (cAff x2 p6 c5)) rfl<|yC 6 [] [(36,vS p3 p2 c2)]<|bE N fun y2 hy5 N=>kI (kM x2 p2 _ hy5 h7 h2) ?_;intro I02 le2;have h2:=h2.mono le2;have h:=h.mono le2;have h1:=h1.mono le2;have H:=H.trans le2;refine yB [] [(9,vI y2)]<|wW [(40,.bool (decide (y2 > lo)))]<|zL ?_;obtain ⟨o0,ho0,hMc⟩:=zB N;refine yU (fun I' hs' m'=>∃ (lo2:Int),o0=lo2∧I02.le I'∧hs'=[hB b (cLoop loop p c p1 c1)]∧m'=[(1,vS p3 p2 c2),(2,vP b 0),(6,vI lo2),(7,vI y1),(8,vI i)]) ?_ ?_
   · have H:=iS I02;refine yL ho0 ?_ ?_
     · intro hc1 N;exact zP<|yB [] [(6,vI y2)]<|yS [(1,vS p3 p2 c2),(2,vP b 0),(6,vI y2),(7,vI y1),(8,vI i)]<|zW (ct N H)
     intro hc1 N;exact zV<|yS [(1,vS p3 p2 c2),(2,vP b 0),(6,vI lo),(7,vI y1),(8,vI i)]<|zW (ct N H)
   rintro I03 hs2 m2 ⟨lo2,heq,le3,rfl,rfl⟩;subst o0;have h2:=h2.mono le3;have h:=h.mono le3;have h1:=h1.mono le3;have H:=H.trans le3;exact zR<|zL<|zP<|yB [] [(8,vI (W (i + 1)))]<|yT<|wN [(1,vS p3 p2 c2),(2,vP b 0),(6,vI lo2),(7,vI y1),(8,vI (W (i + 1)))]<|ih lo2 (W (i + 1)) _ hMc H h2 h h1 hg ho hx
 intro hc N;exact vD<|yS [(1,vS p3 p2 c2),(2,vP b 0),(6,vI lo),(7,vI y1)]<|hx _ _ (zC N).symm H
def uR (loop:zE) (p2:(List Int)) (hi:Int) (i1:Int):Option (Int):=do
 if (decide (i1 < (loop.Hi.length:Int))) then
  let x3←idx loop.Hi i1
  let y3←sX x3 p2
  let hi2←(do
    if (decide (y3 < hi)) then
     pure (id y3)
    else
     pure (id hi)
      : Option Int)
  uR loop p2 hi2 (W (i1 + 1))
 else
  pure (id hi)
 partial_fixpoint
theorem zCF (loop:zE) (p2:(List Int)):∀ (hi:Int) (i1:Int) (o:Int),uR loop p2 hi i1=some o→∀ {B}{I0 I:Imm}{Q}{lo1:Int}{p c p1 c1 p3 c2}{b:Nat},I0.le I→(S4 I p3 p2 c2)→(S4 I p loop.Lo c)→(S4 I p1 loop.Hi c1)→NG Q→NO Q→(∀ (I':Imm) (hi1:Int),o=hi1→I0.le I'→T 62 B Q (.exit 2) I' [] [(6,vI lo1),(7,vI hi1)])→J Tryz.prog 62 B (nav (bodyOf Tryz.f146) [1,1,1,1,0,1,0]) Q I [hB b (cLoop loop p c p1 c1)] [(1,vS p3 p2 c2),(2,vP b 0),(6,vI lo1),(7,vI hi),(10,vI i1)]:=by
 refine uR.partial_correctness loop p2 _ fun self ih hi i1 o N B I0 I Q lo1 p c p1 c1 p3 c2 b H h2 h h1 hg ho hx=>yW hg ho<|yI<|yK<|yB [0] [(46,.bool (decide (i1 < (loop.Hi.length:Int))))]<|zL<|yL N ?_ ?_
 · intro hc2 N;refine zV<|yG<|yM<|yK<|yC 3 [0] [(50,vS p1 loop.Hi c1),(51,vI i1)]<|bE N fun x3 hy6 N=>xR rfl rfl h1 hy6 ?_;intro ad3 ccs3 hat3 hrep3;obtain ⟨p7,c6,rfl,h9⟩:=yQ hrep3;refine xN 0 hat3 (cAff x3 p7 c6) (vA (cAff x3 p7 c6)) rfl<|yC 6 [] [(54,vS p3 p2 c2)]<|bE N fun y3 hy7 N=>kI (kM x3 p2 _ hy7 h9 h2) ?_;intro I05 le5;have h2:=h2.mono le5;have h:=h.mono le5;have h1:=h1.mono le5;have H:=H.trans le5;refine yB [] [(11,vI y3)]<|wW [(58,.bool (decide (y3 < hi)))]<|zL ?_;obtain ⟨o02,ho02,hMc1⟩:=zB N;refine yU (fun I' hs' m'=>∃ (hi2:Int),o02=hi2∧I05.le I'∧hs'=[hB b (cLoop loop p c p1 c1)]∧m'=[(1,vS p3 p2 c2),(2,vP b 0),(6,vI lo1),(7,vI hi2),(10,vI i1)]) ?_ ?_
   · have H:=iS I05;refine yL ho02 ?_ ?_
     · intro hc3 N;exact zP<|yB [] [(7,vI y3)]<|yS [(1,vS p3 p2 c2),(2,vP b 0),(6,vI lo1),(7,vI y3),(10,vI i1)]<|zW (ct N H)
     intro hc3 N;exact zV<|yS [(1,vS p3 p2 c2),(2,vP b 0),(6,vI lo1),(7,vI hi),(10,vI i1)]<|zW (ct N H)
   rintro I06 hs2 m2 ⟨hi2,heq2,le6,rfl,rfl⟩;subst o02;have h2:=h2.mono le6;have h:=h.mono le6;have h1:=h1.mono le6;have H:=H.trans le6;exact zR<|zL<|zP<|yB [] [(10,vI (W (i1 + 1)))]<|yT<|wN [(1,vS p3 p2 c2),(2,vP b 0),(6,vI lo1),(7,vI hi2),(10,vI (W (i1 + 1)))]<|ih hi2 (W (i1 + 1)) _ hMc1 H h2 h h1 hg ho hx
 intro hc2 N;exact vD<|wC zT<|yS [(6,vI lo1),(7,vI hi)]<|hx _ _ (zC N).symm H
def pS (loop:zE) (p2:(List Int)):Option (Int×Int):=do
 let x←idx loop.Lo 0
 let y←sX x p2
 let x1←idx loop.Hi 0
 let y1←sX x1 p2
 let lo1←uQ loop p2 y 1
 let hi1←uR loop p2 y1 1
 pure (lo1,hi1)
theorem zA9:∀ loop p2 r,pS loop p2=some r→∀ {I:Imm}{p c p1 c1 p3 c2},(S4 I p loop.Lo c)→(S4 I p1 loop.Hi c1)→(S4 I p3 p2 c2)→RT 146 [vA (cLoop loop p c p1 c1),vS p3 p2 c2] I [] (jS  r):=by
 intro loop p2 r N I p c p1 c1 p3 c2 h h1 h2;unfold pS at N;refine zX (fn:=Tryz.f146) (c:=(bodyOf Tryz.f146)) Tryz.func146 rfl rfl ?_;rintro B - -;refine yK<|tO (cLoop loop p c p1 c1) ?_;intro b hb;refine yB [] []<|xD<|yC 2 [0] [(13,vS p loop.Lo c)]<|bE N fun x hy N=>xR rfl rfl h hy ?_;intro ad ccs hat hrep;obtain ⟨p4,c3,rfl,h3⟩:=yQ hrep;refine xN 0 hat (cAff x p4 c3) (vA (cAff x p4 c3)) rfl<|yC 5 [] [(16,vS p3 p2 c2)]<|bE N fun y hy1 N=>kI (kM x p2 _ hy1 h3 h2) ?_;intro I0 le;have h2:=h2.mono le;have h:=h.mono le;have h1:=h1.mono le;refine yB [] [(6,vI y)]<|xD<|yC 2 [0] [(19,vS p1 loop.Hi c1)]<|bE N fun x1 hy2 N=>xR rfl rfl h1 hy2 ?_;intro ad1 ccs1 hat1 hrep1;obtain ⟨p5,c4,rfl,h5⟩:=yQ hrep1;refine xN 0 hat1 (cAff x1 p5 c4) (vA (cAff x1 p5 c4)) rfl<|yC 5 [] [(22,vS p3 p2 c2)]<|bE N fun y1 hy3 N=>kI (kM x1 p2 _ hy3 h5 h2) ?_;intro I01 le1;have h2:=h2.mono le1;have h:=h.mono le1;have h1:=h1.mono le1;refine yB [] [(7,vI y1)]<|yG<|yF [(8,vI 1)]<|wD<|wN [(1,vS p3 p2 c2),(2,vP b 0),(6,vI y),(7,vI y1),(8,vI 1)] ?_;obtain ⟨o01,ho01,hMl⟩:=zB N;refine zCE loop p2 y 1 o01 ho01 iR h2 h h1 (fun _ _ _ h=>h) (fun _ _ h=>h) ?_;intro I04 lo1 heq1 le4;subst o01;have h2:=h2.mono le4;have h:=h.mono le4;have h1:=h1.mono le4;refine zU<|yG<|yF [(10,vI 1)]<|wD<|wN [(1,vS p3 p2 c2),(2,vP b 0),(6,vI lo1),(7,vI y1),(10,vI 1)] ?_;obtain ⟨o03,ho03,hMl1⟩:=zB hMl;refine zCF loop p2 y1 1 o03 ho03 iR h2 h h1 (fun _ _ _ h=>h) (fun _ _ h=>h) ?_;intro I07 hi1 heq3 le7;subst o03;refine zU<|wW [(4,vI lo1),(5,vI hi1)]<|zL<|xG ?_;obtain rfl:=zC hMl1;exact xF ⟨_,_,(.tmp rfl (.tmp rfl ResV.nil)),zT,⟨_,_,rfl,rfl,rfl,rfl⟩⟩
def fT (r:(List (List Int))):KT:=fun kk I' hs' v=>
  ∃ a0 c0 s0,hs'=[.osl (.slice a0 r.length c0) (Rp.sz (List Int)) s0]∧v=tupV [(.slice a0 r.length c0)]∧RepL (Rp.rep I') (Rp.sz (List Int)) s0 r
mutual
def vH (out:(List (List Int))) (nest:(List zE)) (p2:(List Int)):Option ((List (List Int))):=do
 if ((p2.length:Int) == (nest.length:Int)) then
  let l←app 8 ([]:List Int) p2
  let t6←app 24 out ([l]:List (List Int))
  pure (id t6)
 else
  let x←idx nest (p2.length:Int)
  let (y1,y2)←pS x p2
  let out2←uV (same nest) (same p2) (same y2) (same out) (same y1)
  pure (id out2)
 partial_fixpoint
def uV (nest:(List zE)) (p2:(List Int)) (y2:Int) (out1:List (List Int)) (v04:Int):Option (List (List Int)):=do
 let t39←(do
   if (decide (v04 < y2)) then
    pure (decide ((out1.length:Int) ≤ 120))
   else
    pure false
     : Option Bool)
 if t39 then
  let l1←app 8 ([]:List Int) p2
  let l2←app 8 l1 ([v04]:List Int)
  let y3←vH (same out1) (same nest) (same l2)
  uV (same nest) (same p2) (same y2) (same y3) (W (v04 + 1))
 else
  pure (id out1)
 partial_fixpoint
end
theorem zCi:(∀ (out:(List (List Int))) (nest:(List zE)) (p2:(List Int)) r,vH out nest p2=some r→∀ {I:Imm}{p c cs p1 c1 p3 c2},(RL I cs out)→(S4 I p1 nest c1)→(S4 I p3 p2 c2)→RT 166 [vS p out c,vS p1 nest c1,vS p3 p2 c2] I [hO (List Int) (vS p out c) cs] (fT  r))∧(∀ (nest:(List zE)) (p2:(List Int)) (y2:Int) (out1:List (List Int)) (v04:Int) o,uV nest p2 y2 out1 v04=some o→∀ {B}{I0 I:Imm}{Q p1 c1 p3 c2 p8 c7 cs3},I0.le I→(S4 I p1 nest c1)→(S4 I p3 p2 c2)→(RL I cs3 out1)→NG Q→NO Q→(∀ (I':Imm) (out2:List (List Int)) (p9:Option Addr) (c8:Nat) (cs4:List Value),o=out2→I0.le I'→(RL I' cs4 out2)→T 52 B Q (.exit 0) I' [hO (List Int) (vS p9 out2 c8) cs4] [(0,vS p9 out2 c8)])→J Tryz.prog 52 B (nav (bodyOf Tryz.f166) [1,1,1,0,1,0]) Q I [hO (List Int) (vS p8 out1 c7) cs3] [(0,vS p8 out1 c7),(1,vS p1 nest c1),(2,vS p3 p2 c2),(8,vI y2),(9,vI v04)]):=by
  refine vH.mutual_partial_correctness _ _ ?_ ?_
  · intro F_spec_l2Points_l1 ih_spec_l2Points_l1 out nest p2 r N I p c cs p1 c1 p3 c2 h h1 h2;refine zX (fn:=Tryz.f166) (c:=(bodyOf Tryz.f166)) Tryz.func166 rfl rfl ?_;rintro B - -;refine yF []<|yG<|yF [(14,.bool ((p2.length:Int) == (nest.length:Int)))]<|zL<|yL N ?_ ?_
    · intro hc N;refine yK<|yC 1 [] [(15,vS p out c)]<|xU [] Int ?_;intro b hb;have h3:RL I [] ([]:List Int):=rfl;refine yC 3 [] [(17,vS p3 p2 c2)] ?_;obtain ⟨ccs,k0,k01⟩:=h2;have h2:SL I (vS p3 p2 c2) p2:=⟨_,k0,k01⟩;obtain ⟨l,hy,N⟩:=zB N;refine qI 3 1 0 rfl rfl rfl h3 (.inl k0) k01 hy fun p4 c3 cs1 h4=>sU (yD [0,1] (hs':=[hO Int (vS p4 l c3) cs1,hO (List Int) (vS p out c) cs]))<|yJ 0 rfl ?_;intro I0 le hl0;have h5:=SL.of_frozen hl0 le h4;have h:=iM le h;refine xU [vS p4 l c3] (List Int) ?_;intro b1 hb1;have h6:RL I0 [vS p4 l c3] ([l]:List (List Int)):=⟨[vS p4 l c3],_,rfl,rfl,⟨_,rfl,h5⟩,rfl⟩;obtain ⟨t6,hy1,N⟩:=zB N;refine qI 27 1 1 rfl rfl rfl h (.inr ⟨0,rfl⟩) h6 hy1 fun p5 c4 cs2 h7=>sU (yD [1] (hs':=[hO (List Int) (vS p5 t6 c4) cs2]))<|yB [] [(6,vS p5 t6 c4)]<|xP<|zN ?_;obtain rfl:=zC N;exact xF ⟨_,_,(.tmp rfl ResV.nil),(zZ [0] rfl (by decide)),⟨_,_,_,rfl,rfl,h7⟩⟩
    intro hc N;refine zV<|xD<|yC 3 [] [(22,vS p1 nest c1),(24,vI (p2.length:Int))]<|bE N fun x hy2 N=>xR rfl rfl h1 hy2 ?_;intro ad ccs1 hat hrep;obtain ⟨p6,c5,p7,c6,rfl,h8,h9⟩:=tM hrep;refine xN 0 hat (cLoop x p6 c5 p7 c6) (vA (cLoop x p6 c5 p7 c6)) rfl<|yC 6 [] [(27,vS p3 p2 c2)] ?_;obtain ⟨⟨y1,y2⟩,hy3,N⟩:=zB N;refine xS (zA9 x p2 _ hy3 h8 h9 h2) ?_;rintro I01 hs2 v2 k2 le1 - ⟨v02,v03,rfl,rfl,rfl,rfl⟩ -;have h:=iM le1 h;have h1:=h1.mono le1;have h2:=h2.mono le1;refine yB [] [(7,vI y1),(8,vI y2)]<|yG<|yF [(9,vI y1)]<|wD<|wN [(0,vS p out c),(1,vS p1 nest c1),(2,vS p3 p2 c2),(8,vI y2),(9,vI y1)] ?_;obtain ⟨o01,ho01,hMl⟩:=zB N;refine ih_spec_l2Points_l1 nest p2 y2 out y1 o01 ho01 iR h1 h2 h (fun _ _ _ h=>h) (fun _ _ h=>h) ?_;intro I05 out2 p9 c8 cs4 heq1 le5 h13;subst o01;refine zU<|wW [(6,vS p9 out2 c8)]<|zL<|xG ?_;obtain rfl:=zC hMl;exact xF ⟨_,_,(.tmp rfl ResV.nil),(zZ [0] rfl (by decide)),⟨_,_,_,rfl,rfl,h13⟩⟩
  intro F_spec_l2Points F_spec_l2Points_l1 ih_spec_l2Points ih_spec_l2Points_l1 nest p2 y2 out1 v04 o N B I0 I Q p1 c1 p3 c2 p8 c7 cs3 H h1 h2 h12 hg ho hx;refine yW hg ho<|yI<|yI ?_;obtain ⟨o0,ho0,hMc⟩:=zB N;refine yU (fun I' hs' m'=>∃ (t39:Bool),o0=t39∧I.le I'∧hs'=[hO (List Int) (vS p8 out1 c7) cs3]∧m'=[(0,vS p8 out1 c7),(1,vS p1 nest c1),(2,vS p3 p2 c2),(8,vI y2),(9,vI v04),(39,.bool t39)]) ?_ ?_
  · have H:=iS I;refine zP<|yC 4 [] [(35,.bool (decide (v04 < y2)))] ?_;cases hc1:(decide (v04 < y2)) with
    | true =>
     have hM0:=zS hc1 ho0
     try rw [hc1]
     exact yB [] [(39,.bool (decide ((out1.length:Int) ≤ 120)))]<|yS [(0,vS p8 out1 c7),(1,vS p1 nest c1),(2,vS p3 p2 c2),(8,vI y2),(9,vI v04),(39,.bool (decide ((out1.length:Int) ≤ 120)))]<|zW (ct hM0 H)
    | false =>
     have hM01:=zQ hc1 ho0
     try rw [hc1]
     exact yB [] [(39,vF)]<|yS [(0,vS p8 out1 c7),(1,vS p1 nest c1),(2,vS p3 p2 c2),(8,vI y2),(9,vI v04),(39,vF)]<|zW (ct hM01 H)
  rintro I02 hs2 m2 ⟨t39,heq,le2,rfl,rfl⟩;subst o0;have h12:=iM le2 h12;have h1:=h1.mono le2;have h2:=h2.mono le2;have H:=H.trans le2;refine zL<|yL hMc ?_ ?_
  · intro hc2 N;refine zV<|yG<|yM<|zP<|yC 2 [] [(42,vS p8 out1 c7),(43,vS p1 nest c1)]<|xU [] Int ?_;intro b2 hb2;have h14:RL I02 [] ([]:List Int):=rfl;refine yC 4 [] [(45,vS p3 p2 c2)] ?_;obtain ⟨ccs2,k02,k03⟩:=h2;have h2:SL I02 (vS p3 p2 c2) p2:=⟨_,k02,k03⟩;obtain ⟨l1,hy4,N⟩:=zB N;refine qI 3 1 0 rfl rfl rfl h14 (.inl k02) k03 hy4 fun p10 c9 cs5 h15=>sU (yD [0,1] (hs':=[hO Int (vS p10 l1 c9) cs5,hO (List Int) (vS p8 out1 c7) cs3]))<|yC 6 [] [(47,vI v04)]<|xU [vI v04] Int ?_;intro b3 hb3;have h16:RL I02 [vI v04] ([v04]:List Int):=⟨[vI v04],_,rfl,rfl,rfl,rfl⟩;obtain ⟨l2,hy5,N⟩:=zB N;refine qI 3 1 1 rfl rfl rfl h15 (.inr ⟨0,rfl⟩) h16 hy5 fun p11 c10 cs6 h17=>sU (yD [1,2] (hs':=[hO Int (vS p11 l2 c10) cs6,hO (List Int) (vS p8 out1 c7) cs3]))<|yJ 0 rfl ?_;intro I03 le3 hl01;have h18:=SL.of_frozen hl01 le3 h17;have h1:=h1.mono le3;have h2:=h2.mono le3;have h12:=iM le3 h12;have H:=H.trans le3;obtain ⟨y3,hy6,N⟩:=zB N;refine tS [hO (List Int) (vS p8 out1 c7) cs3] [] (ih_spec_l2Points out1 nest l2 _ hy6 h12 h1 h18) ?_;rintro I04 hs2 v2 k2 le4 - ⟨p12,c11,cs7,rfl,rfl,h19⟩ -;have h1:=h1.mono le4;have h2:=h2.mono le4;have H:=H.trans le4;exact yB [] [(0,vS p12 y3 c11)]<|zR<|zL<|zP<|yB [] [(9,vI (W (v04 + 1)))]<|yT<|wN [(0,vS p12 y3 c11),(1,vS p1 nest c1),(2,vS p3 p2 c2),(8,vI y2),(9,vI (W (v04 + 1)))]<|ih_spec_l2Points_l1 nest p2 y2 y3 (W (v04 + 1)) _ N H h1 h2 h19 hg ho hx
  intro hc2 N;exact vD<|yS [(0,vS p8 out1 c7)]<|hx _ _ _ _ _ (zC N).symm H h12
theorem dX:∀ out nest p2 r,vH out nest p2=some r→∀ {I:Imm}{p c cs p1 c1 p3 c2},(RL I cs out)→(S4 I p1 nest c1)→(S4 I p3 p2 c2)→RT 166 [vS p out c,vS p1 nest c1,vS p3 p2 c2] I [hO (List Int) (vS p out c) cs] (fT  r):=zCi.1
mutual
def sB (nest:(List zE)) (p1:(List Int)) (most:Int):Option (Int):=do
 if ((p1.length:Int) == (nest.length:Int)) then
  pure (id 1)
 else
  let x←idx nest (p1.length:Int)
  let (y1,y2)←pS x p1
  let n01←sG (same nest) (same p1) (same most) (same y2) (same 1) (same y1)
  pure (id n01)
 partial_fixpoint
def sG (nest:(List zE)) (p1:(List Int)) (most:Int) (y2:Int) (n0:Int) (v04:Int):Option (Int):=do
 let t35←(do
   if (decide (v04 < y2)) then
    pure (decide (n0 ≤ most))
   else
    pure false
     : Option Bool)
 if t35 then
  let l←app 8 ([]:List Int) p1
  let l1←app 8 l ([v04]:List Int)
  let y3←sB (same nest) (same l1) (W (most - n0))
  sG (same nest) (same p1) (same most) (same y2) (W (n0 + y3)) (W (v04 + 1))
 else
  pure (id n0)
 partial_fixpoint
end
theorem zEH:(∀ (nest:(List zE)) (p1:(List Int)) (most:Int) r,sB nest p1 most=some r→∀ {I:Imm}{p c p2 c1},(S4 I p nest c)→(S4 I p2 p1 c1)→RT 180 [vS p nest c,vS p2 p1 c1,vI most] I [] (xE  r))∧(∀ (nest:(List zE)) (p1:(List Int)) (most:Int) (y2:Int) (n0:Int) (v04:Int) o,sG nest p1 most y2 n0 v04=some o→∀ {B}{I0 I:Imm}{Q p c p2 c1},I0.le I→(S4 I p nest c)→(S4 I p2 p1 c1)→NG Q→NO Q→(∀ (I':Imm) (n01:Int),o=n01→I0.le I'→T 52 B Q (.exit 0) I' [] [(7,vI n01)])→J Tryz.prog 52 B (nav (bodyOf Tryz.f180) [1,1,1,1,0,1,0]) Q I [] [(0,vS p nest c),(1,vS p2 p1 c1),(2,vI most),(7,vI n0),(9,vI y2),(10,vI v04)]):=by
  refine sB.mutual_partial_correctness _ _ ?_ ?_
  · intro F_spec_l2Work_l1 ih_spec_l2Work_l1 nest p1 most r N I p c p2 c1 h h1;refine zX (fn:=Tryz.f180) (c:=(bodyOf Tryz.f180)) Tryz.func180 rfl rfl ?_;rintro B - -;refine yF []<|wW [(7,vI 1)]<|yG<|yF [(15,.bool ((p1.length:Int) == (nest.length:Int)))]<|zL<|yL N ?_ ?_
    · intro hc N;refine yF [(6,vI 1)]<|xP<|zN ?_;obtain rfl:=zC N;exact uM
    intro hc N;refine zV<|xD<|yC 3 [] [(18,vS p nest c),(20,vI (p1.length:Int))]<|bE N fun x hy N=>xR rfl rfl h hy ?_;intro ad ccs hat hrep;obtain ⟨p3,c2,p4,c3,rfl,h2,h3⟩:=tM hrep;refine xN 0 hat (cLoop x p3 c2 p4 c3) (vA (cLoop x p3 c2 p4 c3)) rfl<|yC 6 [] [(23,vS p2 p1 c1)] ?_;obtain ⟨⟨y1,y2⟩,hy1,N⟩:=zB N;refine xS (zA9 x p1 _ hy1 h2 h3 h1) ?_;rintro I0 hs2 v2 k2 le - ⟨v02,v03,rfl,rfl,rfl,rfl⟩ -;have h:=h.mono le;have h1:=h1.mono le;refine yB [] [(8,vI y1),(9,vI y2)]<|yG<|yF [(10,vI y1)]<|wD<|wN [(0,vS p nest c),(1,vS p2 p1 c1),(2,vI most),(7,vI 1),(9,vI y2),(10,vI y1)] ?_;obtain ⟨o01,ho01,hMl⟩:=zB N;refine ih_spec_l2Work_l1 nest p1 most y2 1 y1 o01 ho01 iR h h1 (fun _ _ _ h=>h) (fun _ _ h=>h) ?_;intro I04 n01 heq1 le4;subst o01;refine zU<|wW [(6,vI n01)]<|zL<|xG ?_;obtain rfl:=zC hMl;exact uM
  intro F_spec_l2Work F_spec_l2Work_l1 ih_spec_l2Work ih_spec_l2Work_l1 nest p1 most y2 n0 v04 o N B I0 I Q p c p2 c1 H h h1 hg ho hx;refine yW hg ho<|yI<|yI ?_;obtain ⟨o0,ho0,hMc⟩:=zB N;refine yU (fun I' hs' m'=>∃ (t35:Bool),o0=t35∧I.le I'∧hs'=[]∧m'=[(0,vS p nest c),(1,vS p2 p1 c1),(2,vI most),(7,vI n0),(9,vI y2),(10,vI v04),(35,.bool t35)]) ?_ ?_
  · have H:=iS I;refine zP<|yC 4 [] [(31,.bool (decide (v04 < y2)))] ?_;cases hc1:(decide (v04 < y2)) with
    | true =>
     have hM0:=zS hc1 ho0
     try rw [hc1]
     exact yB [] [(35,.bool (decide (n0 ≤ most)))]<|yS [(0,vS p nest c),(1,vS p2 p1 c1),(2,vI most),(7,vI n0),(9,vI y2),(10,vI v04),(35,.bool (decide (n0 ≤ most)))]<|zW (ct hM0 H)
    | false =>
     have hM01:=zQ hc1 ho0
     try rw [hc1]
     exact yB [] [(35,vF)]<|yS [(0,vS p nest c),(1,vS p2 p1 c1),(2,vI most),(7,vI n0),(9,vI y2),(10,vI v04),(35,vF)]<|zW (ct hM01 H)
  rintro I01 hs2 m2 ⟨t35,heq,le1,rfl,rfl⟩;subst o0;have h:=h.mono le1;have h1:=h1.mono le1;have H:=H.trans le1;refine zL<|yL hMc ?_ ?_
  · intro hc2 N;refine zV<|yG<|yM<|zP<|yC 2 [] [(38,vI n0),(39,vS p nest c)]<|xU [] Int ?_;intro b hb;have h6:RL I01 [] ([]:List Int):=rfl;refine yC 4 [] [(41,vS p2 p1 c1)] ?_;obtain ⟨ccs1,k0,k01⟩:=h1;have h1:SL I01 (vS p2 p1 c1) p1:=⟨_,k0,k01⟩;obtain ⟨l,hy2,N⟩:=zB N;refine qI 3 1 0 rfl rfl rfl h6 (.inl k0) k01 hy2 fun p5 c4 cs h7=>sU (yD [0] (hs':=[hO Int (vS p5 l c4) cs]))<|yC 6 [] [(43,vI v04)]<|xU [vI v04] Int ?_;intro b1 hb1;have h8:RL I01 [vI v04] ([v04]:List Int):=⟨[vI v04],_,rfl,rfl,rfl,rfl⟩;obtain ⟨l1,hy3,N⟩:=zB N;refine qI 3 1 1 rfl rfl rfl h7 (.inr ⟨0,rfl⟩) h8 hy3 fun p6 c5 cs1 h9=>sU (yD [1] (hs':=[hO Int (vS p6 l1 c5) cs1]))<|yC 11 [] [(48,vI (W (most - n0)))]<|yJ 0 rfl ?_;intro I02 le2 hl0;have h10:=SL.of_frozen hl0 le2 h9;have h:=h.mono le2;have h1:=h1.mono le2;have H:=H.trans le2;obtain ⟨y3,hy4,N⟩:=zB N;refine xS (ih_spec_l2Work nest l1 (W (most - n0)) _ hy4 h h10) ?_;rintro I03 hs2 v2 k2 le3 - ⟨v05,rfl,rfl,rfl⟩ -;have h:=h.mono le3;have h1:=h1.mono le3;have H:=H.trans le3;exact yB [] [(7,vI (W (n0 + y3)))]<|zR<|zL<|zP<|yB [] [(10,vI (W (v04 + 1)))]<|yT<|wN [(0,vS p nest c),(1,vS p2 p1 c1),(2,vI most),(7,vI (W (n0 + y3))),(9,vI y2),(10,vI (W (v04 + 1)))]<|ih_spec_l2Work_l1 nest p1 most y2 (W (n0 + y3)) (W (v04 + 1)) _ N H h h1 hg ho hx
  intro hc2 N;exact vD<|yS [(7,vI n0)]<|hx _ _ (zC N).symm H
theorem zEt:∀ nest p1 most r,sB nest p1 most=some r→∀ {I:Imm}{p c p2 c1},(S4 I p nest c)→(S4 I p2 p1 c1)→RT 180 [vS p nest c,vS p2 p1 c1,vI most] I [] (xE  r):=zEH.1
def gU (r:(List (List Int))×Bool):KT:=fun kk I' hs' v=>
  ∃ v0 v1,hs'=[]∧v=tupV [v0,v1]∧SL I' v0 r.1∧v1=.bool r.2
def rW (nest:(List zE)):Option ((List (List Int))×Bool):=do
 let t12←(do
   let y←qQ nest
   if (!y) then
    pure true
   else
    let y1←sB nest ([]:List Int) 1200
    pure (decide (y1 > 1200))
     : Option Bool)
 if t12 then
  pure (([]:List (List Int)),false)
 else
  let y2←vH ([]:List (List Int)) nest ([]:List Int)
  if (decide ((y2.length:Int) > 120)) then
   pure (([]:List (List Int)),false)
  else
   pure (y2,true)
theorem zCG:∀ nest r,rW nest=some r→∀ {I:Imm}{p c},(S4 I p nest c)→RT 147 [vS p nest c] I [] (gU  r):=by
 intro nest r N I p c h;unfold rW at N;refine zX (fn:=Tryz.f147) (c:=(bodyOf Tryz.f147)) Tryz.func147 rfl rfl ?_;rintro B - -;have H:=iS I;refine yF []<|yG<|yI ?_;obtain ⟨o0,ho0,hMc⟩:=zB N;refine yU (fun I' hs' m'=>∃ (t12:Bool),o0=t12∧I.le I'∧hs'=[]∧m'=[(0,vS p nest c),(12,.bool t12)]) ?_ ?_
 · have H:=iS I;refine zP<|yC 1 [] [(5,vS p nest c)] ?_;obtain ⟨y,hy,N⟩:=zB ho0;refine tQ (zCh nest _ hy h) ?_;intro I01 le;have h:=h.mono le;have H:=H.trans le;refine yC 4 [] [(8,.bool (!y))] ?_;cases hc:(!y) with
   | true =>
    have hM0:=zS hc N
    try rw [hc]
    exact yB [] [(12,vY)]<|yS [(0,vS p nest c),(12,vY)]<|zW (ct hM0 H)
   | false =>
    have hM01:=zQ hc N
    try rw [hc]
    refine yC 5 [] [(9,vS p nest c)] ?_;obtain ⟨y1,hy1,N⟩:=zB hM01;refine kI (zEt nest ([]:List Int) 1200 _ hy1 h (SL.nil _)) ?_;intro I02 le1;have H:=H.trans le1;exact yB [] [(12,.bool (decide (y1 > 1200)))]<|yS [(0,vS p nest c),(12,.bool (decide (y1 > 1200)))]<|zW (ct N H)
 rintro I0 hs2 m2 ⟨t12,heq,le2,rfl,rfl⟩;subst o0;have h:=h.mono le2;refine zL<|yL hMc ?_ ?_
 · intro hc1 N;refine yK<|xU [] (List Int) ?_;intro b hb;have h3:RL I0 [] ([]:List (List Int)):=rfl;refine yB [] [(2,vS (some ⟨b,0,none⟩) ([]:List (List Int)) 0),(3,vF)]<|xP<|zN<|xA 0 rfl ?_;intro I03 le3 hl0;have h4:=SL.of_frozen hl0 le3 h3;obtain rfl:=zC N;exact xF ⟨_,_,(.tmp rfl (.tmp rfl ResV.nil)),zT,⟨_,_,rfl,rfl,h4,rfl⟩⟩
 intro hc1 N;refine zV<|xD<|xU [] (List Int) ?_;intro b1 hb1;have h5:RL I0 [] ([]:List (List Int)):=rfl;refine yC 2 [] [(15,vS p nest c)]<|bE N fun y2 hy2 N=>tS [hO (List Int) (vS (some ⟨b1,0,none⟩) ([]:List (List Int)) 0) []] [] (dX ([]:List (List Int)) nest ([]:List Int) _ hy2 h5 h (SL.nil _)) ?_;rintro I04 hs2 v2 k2 le4 - ⟨p1,c1,cs,rfl,rfl,h6⟩ -;refine yB [] [(4,vS p1 y2 c1)]<|yG<|yF [(19,.bool (decide ((y2.length:Int) > 120)))]<|zL<|yL N ?_ ?_
 · intro hc2 N;refine yK<|xU [] (List Int) ?_;intro b2 hb2;have h7:RL I04 [] ([]:List (List Int)):=rfl;refine yB [] [(2,vS (some ⟨b2,0,none⟩) ([]:List (List Int)) 0),(3,vF)]<|xP<|zN<|xA 0 rfl ?_;intro I05 le5 hl01;have h8:=SL.of_frozen hl01 le5 h7;obtain rfl:=zC N;exact xF ⟨_,_,(.tmp rfl (.tmp rfl ResV.nil)),zT,⟨_,_,rfl,rfl,h8,rfl⟩⟩
 intro hc2 N;refine zV<|wW [(2,vS p1 y2 c1),(3,vY)]<|xP<|xA 0 rfl ?_;intro I06 le6 hl02;have h9:=SL.of_frozen hl02 le6 h6;obtain rfl:=zC N;exact xF ⟨_,_,(.tmp rfl (.tmp rfl ResV.nil)),zT,⟨_,_,rfl,rfl,h9,rfl⟩⟩
def vV (a0:zI) (depth:Int) (i:Int):Option (Out Unit (Bool)):=do
 if (decide (i < (a0.Subs.length:Int))) then
  let t29←(do
    let x←idx a0.Subs i
    let y←vU x
    if (!y) then
     pure true
    else
     let x1←idx a0.Subs i
     let y1←rV x1
     pure (decide (y1 > depth))
      : Option Bool)
  if t29 then
   pure (.ret false)
  else
   vV a0 depth (W (i + 1))
 else
  pure (.done ())
 partial_fixpoint
theorem zB9 (a0:zI) (depth:Int):∀ (i:Int) (o:Out Unit (Bool)),vV a0 depth i=some o→∀ {B}{I0 I:Imm}{Q p c}{b:Nat},I0.le I→(S4 I p a0.Subs c)→NG Q→NO Q→(∀ (I':Imm) ,o=(.done ())→I0.le I'→T 56 B Q (.exit 0) I' [hB b (cAccess a0 p c)] [(2,vP b 0)])→(∀ r I' hs' m',o=(.ret r)→I0.le I'→RS Tryz.prog Tryz.f181 B (zY  r) I' hs' m'→T 56 B Q .ret I' hs' m')→J Tryz.prog 56 B (nav (bodyOf Tryz.f181) [1,0,1,0]) Q I [hB b (cAccess a0 p c)] [(1,vI depth),(2,vP b 0),(5,vI i)]:=by
 refine vV.partial_correctness a0 depth _ fun self ih i o N B I0 I Q p c b H h hg ho hx hr=>yW hg ho<|yI<|yK<|yB [0] [(10,.bool (decide (i < (a0.Subs.length:Int))))]<|zL<|yL N ?_ ?_
 · intro hc N;refine zV<|yG<|yM<|yI ?_;obtain ⟨o0,ho0,hMc⟩:=zB N;refine yU (fun I' hs' m'=>∃ (t29:Bool),o0=t29∧I.le I'∧hs'=[hB b (cAccess a0 p c)]∧m'=[(1,vI depth),(2,vP b 0),(5,vI i),(29,.bool t29)]) ?_ ?_
   · have H:=iS I;refine zP<|yC 3 [0] [(14,vS p a0.Subs c),(15,vI i)] ?_;obtain ⟨x,hy,N⟩:=zB ho0;refine xR rfl rfl h hy ?_;intro ad ccs hat hrep;obtain ⟨p1,c1,rfl,h1⟩:=yQ hrep;refine xN 0 hat (cAff x p1 c1) (vA (cAff x p1 c1)) rfl<|bE N fun y hy1 N=>tQ (nW x _ hy1 h1) ?_;intro I01 le;have h:=h.mono le;have H:=H.trans le;refine yC 8 [] [(20,.bool (!y))] ?_;cases hc1:(!y) with
     | true =>
      have hM0:=zS hc1 N
      try rw [hc1]
      exact yB [] [(29,vY)]<|yS [(1,vI depth),(2,vP b 0),(5,vI i),(29,vY)]<|zW (ct hM0 H)
     | false =>
      have hM01:=zQ hc1 N
      try rw [hc1]
      refine yC 11 [0] [(22,vS p a0.Subs c),(23,vI i)] ?_;obtain ⟨x1,hy2,N⟩:=zB hM01;refine xR rfl rfl h hy2 ?_;intro ad1 ccs1 hat1 hrep1;obtain ⟨p2,c2,rfl,h3⟩:=yQ hrep1;refine xN 0 hat1 (cAff x1 p2 c2) (vA (cAff x1 p2 c2)) rfl<|bE N fun y1 hy3 N=>kI (gY x1 _ hy3 h3) ?_;intro I02 le1;have H:=H.trans le1;exact yB [] [(29,.bool (decide (y1 > depth)))]<|yS [(1,vI depth),(2,vP b 0),(5,vI i),(29,.bool (decide (y1 > depth)))]<|zW (ct N H)
   rintro I0 hs2 m2 ⟨t29,heq,le2,rfl,rfl⟩;subst o0;have h:=h.mono le2;have H:=H.trans le2;refine zL<|yL hMc ?_ ?_
   · intro hc2 N;exact yF [(4,vF)]<|xP<|yA<|zN<|zN<|hr _ _ _ _ (zC N).symm H ⟨_,_,(.tmp rfl ResV.nil),zT,⟨_,rfl,rfl,rfl⟩⟩
   intro hc2 N;exact zV<|zR<|zL<|zP<|yB [] [(5,vI (W (i + 1)))]<|yT<|wN [(1,vI depth),(2,vP b 0),(5,vI (W (i + 1)))]<|ih (W (i + 1)) _ N H h hg ho hx hr
 intro hc N;exact vD<|yS [(2,vP b 0)]<|hx _  (zC N).symm H
def qL (a0:zI) (depth:Int):Option (Bool):=do
 match←vV a0 depth 0 with
 | .ret r0=>pure r0
 | .done _ =>
  let t4←(do
    if ((a0.Array.l.length:Int) == 1) then
     if (!(Op.bytesLess a0.Array.l ([65]:List UInt8))) then
      if (Op.bytesLess a0.Array.l ([68]:List UInt8) || a0.Array.l == ([68]:List UInt8)) then
       if (decide ((a0.Subs.length:Int) ≥ 1)) then
        pure (decide ((a0.Subs.length:Int) ≤ 2))
       else
        pure false
      else
       pure false
     else
      pure false
    else
     pure false
      : Option Bool)
  pure (id t4)
theorem dY:∀ a0 depth r,qL a0 depth=some r→∀ {I:Imm}{p c},(S4 I p a0.Subs c)→RT 181 [vA (cAccess a0 p c),vI depth] I [] (zY  r):=by
 intro a0 depth r N I p c h;unfold qL at N;refine zX (fn:=Tryz.f181) (c:=(bodyOf Tryz.f181)) Tryz.func181 rfl rfl ?_;rintro B - -;have H:=iS I;refine yK<|tO (cAccess a0 p c) ?_;intro b hb;refine yB [] []<|yG<|yF [(5,vI 0)]<|wD<|wN [(1,vI depth),(2,vP b 0),(5,vI 0)] ?_;obtain ⟨o01,ho01,hMl⟩:=zB N;refine zB9 a0 depth 0 o01 ho01 iR h (fun _ _ _ h=>h) (fun _ _ h=>h) ?_ ?_
 · intro I03  heq1 le3;subst o01;have H:=H.trans le3;refine zU<|zL<|yI ?_;obtain ⟨o02,ho02,hMc1⟩:=zB hMl;refine yU (fun I' hs' m'=>∃ (t4:Bool),o02=t4∧I03.le I'∧hs'=[]∧m'=[(4,.bool t4)]) ?_ ?_
   · have H:=iS I03;refine zP<|yC 5 [0] [(34,.bool ((a0.Array.l.length:Int) == 1))] ?_;cases hc3:((a0.Array.l.length:Int) == 1) with
     | true =>
      have hM02:=zS hc3 ho02
      try rw [hc3]
      refine yC 10 [0] [(39,.bool (!(Op.bytesLess a0.Array.l ([65]:List UInt8))))] ?_;cases hc4:(!(Op.bytesLess a0.Array.l ([65]:List UInt8))) with
      | true =>
       have hM03:=zS hc4 hM02
       try rw [hc4]
       refine yC 15 [0] [(44,.bool (Op.bytesLess a0.Array.l ([68]:List UInt8) || a0.Array.l == ([68]:List UInt8)))] ?_;cases hc5:(Op.bytesLess a0.Array.l ([68]:List UInt8) || a0.Array.l == ([68]:List UInt8)) with
       | true =>
        have hM04:=zS hc5 hM03
        try rw [hc5]
        refine yC 21 [0] [(50,.bool (decide ((a0.Subs.length:Int) ≥ 1)))] ?_;cases hc6:(decide ((a0.Subs.length:Int) ≥ 1)) with
        | true =>
         have hM05:=zS hc6 hM04
         try rw [hc6]
         exact yB [0] [(4,.bool (decide ((a0.Subs.length:Int) ≤ 2)))]<|wC zT<|yS [(4,.bool (decide ((a0.Subs.length:Int) ≤ 2)))]<|zW (ct hM05 H)
        | false =>
         have hM06:=zQ hc6 hM04
         try rw [hc6]
         exact yB [] [(4,vF)]<|wC zT<|yS [(4,vF)]<|zW (ct hM06 H)
       | false =>
        have hM07:=zQ hc5 hM03
        try rw [hc5]
        exact yB [] [(4,vF)]<|wC zT<|yS [(4,vF)]<|zW (ct hM07 H)
      | false =>
       have hM08:=zQ hc4 hM02
       try rw [hc4]
       exact yB [] [(4,vF)]<|wC zT<|yS [(4,vF)]<|zW (ct hM08 H)
     | false =>
      have hM09:=zQ hc3 ho02
      try rw [hc3]
      exact yB [] [(4,vF)]<|wC zT<|yS [(4,vF)]<|zW (ct hM09 H)
   rintro I04 hs2 m2 ⟨t4,heq2,le4,rfl,rfl⟩;subst o02;refine zL<|xG ?_;obtain rfl:=zC hMc1;exact uM
 intro r0 I9 hs9 m9 heq9 le9 hrs9;subst heq9;refine yA<|zN ?_;obtain rfl:=zC hMl;exact xF hrs9
def nN (kind:Int):Option (Int):=do
 let t4←(do
   if (kind == 1) then
    pure (kind == 1)
   else
    let t41←(do
      if (kind == 2) then
       pure (kind == 2)
      else
       pure (kind == 3)
        : Option Bool)
    pure (id t41)
     : Option Bool)
 if t4 then
  pure (id 0)
 else
  let t8←(do
    if (kind == 4) then
     pure (kind == 4)
    else
     let t81←(do
       if (kind == 5) then
        pure (kind == 5)
       else
        pure (kind == 6)
         : Option Bool)
     pure (id t81)
      : Option Bool)
  if t8 then
   pure (id 2)
  else
   pure (-1)
theorem zBA:∀ kind r,nN kind=some r→∀ {I:Imm} ,RT 206 [vI kind] I [] (xE  r):=by
 intro kind r N I;unfold nN at N;refine zX (fn:=Tryz.f206) (c:=(bodyOf Tryz.f206)) Tryz.func206 rfl rfl ?_;rintro B - -;have H:=iS I;refine yF []<|yG<|yF [(3,vI kind)]<|wD<|yI<|yF [(4,.bool (kind == 1))]<|zL ?_;obtain ⟨o0,ho0,hMc⟩:=zB N;refine yU (fun I' hs' m'=>∃ (t4:Bool),o0=t4∧I.le I'∧hs'=[]∧m'=[(3,vI kind),(4,.bool t4)]) ?_ ?_
 · have H:=iS I;refine yL ho0 ?_ ?_
   · intro hc N;exact zV<|yS [(3,vI kind),(4,.bool (kind == 1))]<|zW (ct N H)
   intro hc N;refine yF [(4,.bool (kind == 2))]<|zL ?_;obtain ⟨o01,ho01,hMc1⟩:=zB N;refine yU (fun I' hs' m'=>∃ (t41:Bool),o01=t41∧I.le I'∧hs'=[]∧m'=[(3,vI kind),(4,.bool t41)]) ?_ ?_
   · have H:=iS I;refine yL ho01 ?_ ?_
     · intro hc1 N;exact zV<|yS [(3,vI kind),(4,.bool (kind == 2))]<|zW (ct N H)
     intro hc1 N;exact zP<|yB [] [(4,.bool (kind == 3))]<|yS [(3,vI kind),(4,.bool (kind == 3))]<|zW (ct N H)
   rintro I01 hs2 m2 ⟨t41,heq,le,rfl,rfl⟩;subst o01;have H:=H.trans le;exact yS [(3,vI kind),(4,.bool t41)]<|zW (ct hMc1 H)
 rintro I0 hs2 m2 ⟨t4,heq1,le1,rfl,rfl⟩;subst o0;have H:=H.trans le1;refine zL<|yL hMc ?_ ?_
 · intro hc2 N;refine yF [(2,vI 0)]<|xP<|yA<|zN ?_;obtain rfl:=zC N;exact uM
 intro hc2 N;refine yI<|yF [(8,.bool (kind == 4))]<|zL ?_;obtain ⟨o02,ho02,hMc2⟩:=zB N;refine yU (fun I' hs' m'=>∃ (t8:Bool),o02=t8∧I0.le I'∧hs'=[]∧m'=[(8,.bool t8)]) ?_ ?_
 · have H:=iS I0;refine yL ho02 ?_ ?_
   · intro hc3 N;exact zV<|yS [(8,.bool (kind == 4))]<|zW (ct N H)
   intro hc3 N;refine yF [(8,.bool (kind == 5))]<|zL ?_;obtain ⟨o03,ho03,hMc3⟩:=zB N;refine yU (fun I' hs' m'=>∃ (t81:Bool),o03=t81∧I0.le I'∧hs'=[]∧m'=[(8,.bool t81)]) ?_ ?_
   · have H:=iS I0;refine yL ho03 ?_ ?_
     · intro hc4 N;exact zV<|yS [(8,.bool (kind == 5))]<|zW (ct N H)
     intro hc4 N;exact zP<|yB [] [(8,.bool (kind == 6))]<|yS [(8,.bool (kind == 6))]<|zW (ct N H)
   rintro I03 hs2 m2 ⟨t81,heq2,le2,rfl,rfl⟩;subst o03;have H:=H.trans le2;exact yS [(8,.bool t81)]<|zW (ct hMc3 H)
 rintro I02 hs2 m2 ⟨t8,heq3,le3,rfl,rfl⟩;subst o02;refine zL<|yL hMc2 ?_ ?_
 · intro hc5 N;refine yF [(2,vI 2)]<|xP<|yA<|zN ?_;obtain rfl:=zC N;exact uM
 intro hc5 N;refine zV<|zR<|wW [(2,vI (-1))]<|zL<|xG ?_;obtain rfl:=zC N;exact uM
def rX (a0:zI):Option (Bool):=do
 let t2←(do
   if (a0.Array.l == ([]:List UInt8)) then
    pure ((a0.Subs.length:Int) == 0)
   else
    pure false
     : Option Bool)
 pure (id t2)
theorem gZ:∀ a0 r,rX a0=some r→∀ {I:Imm}{p c},(S4 I p a0.Subs c)→RT 215 [vA (cAccess a0 p c)] I [] (zY  r):=by
 intro a0 r N I p c h;unfold rX at N;refine zX (fn:=Tryz.f215) (c:=(bodyOf Tryz.f215)) Tryz.func215 rfl rfl ?_;rintro B - -;have H:=iS I;refine yK<|tO (cAccess a0 p c) ?_;intro b hb;refine yB [] []<|zL<|yI ?_;obtain ⟨o0,ho0,hMc⟩:=zB N;refine yU (fun I' hs' m'=>∃ (t2:Bool),o0=t2∧I.le I'∧hs'=[]∧m'=[(2,.bool t2)]) ?_ ?_
 · have H:=iS I;refine zP<|yC 4 [0] [(6,.bool (a0.Array.l == ([]:List UInt8)))] ?_;cases hc:(a0.Array.l == ([]:List UInt8)) with
   | true =>
    have hM0:=zS hc ho0
    try rw [hc]
    exact yB [0] [(2,.bool ((a0.Subs.length:Int) == 0))]<|wC zT<|yS [(2,.bool ((a0.Subs.length:Int) == 0))]<|zW (ct hM0 H)
   | false =>
    have hM01:=zQ hc ho0
    try rw [hc]
    exact yB [] [(2,vF)]<|wC zT<|yS [(2,vF)]<|zW (ct hM01 H)
 rintro I0 hs2 m2 ⟨t2,heq,le,rfl,rfl⟩;subst o0;refine zL<|xG ?_;obtain rfl:=zC hMc;exact uM
def pJ (a0:zA):Option (Bool):=do
 let t2←(do
   if ((a0.Coefs.length:Int) == 0) then
    pure (a0.Const == 0)
   else
    pure false
     : Option Bool)
 pure (id t2)
theorem fU:∀ a0 r,pJ a0=some r→∀ {I:Imm}{p c},(S4 I p a0.Coefs c)→RT 216 [vA (cAff a0 p c)] I [] (zY  r):=by
 intro a0 r N I p c h;unfold pJ at N;refine zX (fn:=Tryz.f216) (c:=(bodyOf Tryz.f216)) Tryz.func216 rfl rfl ?_;rintro B - -;have H:=iS I;refine yK<|tO (cAff a0 p c) ?_;intro b hb;refine yB [] []<|zL<|yI ?_;obtain ⟨o0,ho0,hMc⟩:=zB N;refine yU (fun I' hs' m'=>∃ (t2:Bool),o0=t2∧I.le I'∧hs'=[]∧m'=[(2,.bool t2)]) ?_ ?_
 · have H:=iS I;refine zP<|yC 5 [0] [(7,.bool ((a0.Coefs.length:Int) == 0))] ?_;cases hc:((a0.Coefs.length:Int) == 0) with
   | true =>
    have hM0:=zS hc ho0
    try rw [hc]
    exact yB [0] [(2,.bool (a0.Const == 0))]<|wC zT<|yS [(2,.bool (a0.Const == 0))]<|zW (ct hM0 H)
   | false =>
    have hM01:=zQ hc ho0
    try rw [hc]
    exact yB [] [(2,vF)]<|wC zT<|yS [(2,vF)]<|zW (ct hM01 H)
 rintro I0 hs2 m2 ⟨t2,heq,le,rfl,rfl⟩;subst o0;refine zL<|xG ?_;obtain rfl:=zC hMc;exact uM
def mS (e0:zG) (depth:Int):Option (Bool):=do
 if (e0.Kind == 2) then
  let t4←(do
    if (e0.Num == 0) then
     let y←rX e0.Read
     if y then
      let y1←vU e0.Index
      if y1 then
       let y2←rV e0.Index
       pure (decide (y2 ≤ depth))
      else
       pure false
     else
      pure false
    else
     pure false
      : Option Bool)
  pure (id t4)
 else
  if (e0.Kind == 3) then
   let t41←(do
     if (e0.Num == 0) then
      let y3←pJ e0.Index
      if y3 then
       let y4←qL e0.Read depth
       pure (id y4)
      else
       pure false
     else
      pure false
       : Option Bool)
   pure (id t41)
  else
   if (e0.Kind == 1) then
    let t42←(do
      if (decide (e0.Num ≥ 0)) then
       if (decide (e0.Num ≤ 99)) then
        let y5←pJ e0.Index
        if y5 then
         let y6←rX e0.Read
         pure (id y6)
        else
         pure false
       else
        pure false
      else
       pure false
        : Option Bool)
    pure (id t42)
   else
    let t43←(do
      if (e0.Num == 0) then
       let y7←pJ e0.Index
       if y7 then
        let y8←rX e0.Read
        pure (id y8)
       else
        pure false
      else
       pure false
        : Option Bool)
    pure (id t43)
theorem zFa:∀ e0 depth r,mS e0 depth=some r→∀ {I:Imm}{p c p1 c1 p2 c2},(S4 I p e0.Index.Coefs c)→(S4 I p1 e0.Read.Subs c1)→(S4 I p2 e0.Kids c2)→RT 207 [vA (cExpr e0 p c p1 c1 p2 c2),vI depth] I [] (zY  r):=by
 intro e0 depth r N I p c p1 c1 p2 c2 h h1 h2;unfold mS at N;refine zX (fn:=Tryz.f207) (c:=(bodyOf Tryz.f207)) Tryz.func207 rfl rfl ?_;rintro B - -;have H:=iS I;refine yK<|tO (cExpr e0 p c p1 c1 p2 c2) ?_;intro b hb;refine yB [] []<|yG<|yK<|yB [0] [(7,.bool (e0.Kind == 2))]<|zL<|yL N ?_ ?_
 · intro hc N;refine yI ?_;obtain ⟨o0,ho0,hMc⟩:=zB N;refine yU (fun I' hs' m'=>∃ (t4:Bool),o0=t4∧I.le I'∧hs'=[]∧m'=[(4,.bool t4)]) ?_ ?_
   · have H:=iS I;refine zP<|yC 4 [0] [(11,.bool (e0.Num == 0))] ?_;cases hc1:(e0.Num == 0) with
     | true =>
      have hM0:=zS hc1 ho0
      try rw [hc1]
      refine yC 6 [0] [(13,vA (cAccess e0.Read p1 c1))] ?_;obtain ⟨y,hy,N⟩:=zB hM0;refine tQ (gZ e0.Read _ hy h1) ?_;intro I01 le;have h:=h.mono le;have H:=H.trans le;refine yC 9 [] [(16,.bool y)] ?_;cases hc2:y with
      | true =>
       have hM01:=zS hc2 N
       try rw [hc2]
       refine yC 11 [0] [(18,vA (cAff e0.Index p c))] ?_;obtain ⟨y1,hy1,N⟩:=zB hM01;refine tQ (nW e0.Index _ hy1 h) ?_;intro I02 le1;have h:=h.mono le1;have H:=H.trans le1;refine yC 14 [] [(21,.bool y1)] ?_;cases hc3:y1 with
       | true =>
        have hM02:=zS hc3 N
        try rw [hc3]
        refine yC 16 [0] [(23,vA (cAff e0.Index p c))] ?_;obtain ⟨y2,hy2,N⟩:=zB hM02;refine kI (gY e0.Index _ hy2 h) ?_;intro I03 le2;have H:=H.trans le2;exact yB [] [(4,.bool (decide (y2 ≤ depth)))]<|wC zT<|yS [(4,.bool (decide (y2 ≤ depth)))]<|zW (ct N H)
       | false =>
        have hM03:=zQ hc3 N
        try rw [hc3]
        exact yB [] [(4,vF)]<|wC zT<|yS [(4,vF)]<|zW (ct hM03 H)
      | false =>
       have hM04:=zQ hc2 N
       try rw [hc2]
       exact yB [] [(4,vF)]<|wC zT<|yS [(4,vF)]<|zW (ct hM04 H)
     | false =>
      have hM05:=zQ hc1 ho0
      try rw [hc1]
      exact yB [] [(4,vF)]<|wC zT<|yS [(4,vF)]<|zW (ct hM05 H)
   rintro I0 hs2 m2 ⟨t4,heq,le3,rfl,rfl⟩;subst o0;refine xP<|zN ?_;obtain rfl:=zC hMc;exact uM
 intro hc N;refine zV<|yG<|yK<|yB [0] [(30,.bool (e0.Kind == 3))]<|zL<|yL N ?_ ?_
 · intro hc4 N;refine yI ?_;obtain ⟨o01,ho01,hMc1⟩:=zB N;refine yU (fun I' hs' m'=>∃ (t41:Bool),o01=t41∧I.le I'∧hs'=[]∧m'=[(4,.bool t41)]) ?_ ?_
   · have H:=iS I;refine zP<|yC 4 [0] [(34,.bool (e0.Num == 0))] ?_;cases hc5:(e0.Num == 0) with
     | true =>
      have hM06:=zS hc5 ho01
      try rw [hc5]
      refine yC 6 [0] [(36,vA (cAff e0.Index p c))] ?_;obtain ⟨y3,hy3,N⟩:=zB hM06;refine tQ (fU e0.Index _ hy3 h) ?_;intro I05 le4;have h1:=h1.mono le4;have H:=H.trans le4;refine yC 9 [] [(39,.bool y3)] ?_;cases hc6:y3 with
      | true =>
       have hM07:=zS hc6 N
       try rw [hc6]
       refine yC 12 [0] [(41,vA (cAccess e0.Read p1 c1)),(42,vI depth)] ?_;obtain ⟨y4,hy4,N⟩:=zB hM07;refine tQ (dY e0.Read depth _ hy4 h1) ?_;intro I06 le5;have H:=H.trans le5;exact yB [] [(4,.bool y4)]<|wC zT<|yS [(4,.bool y4)]<|zW (ct N H)
      | false =>
       have hM08:=zQ hc6 N
       try rw [hc6]
       exact yB [] [(4,vF)]<|wC zT<|yS [(4,vF)]<|zW (ct hM08 H)
     | false =>
      have hM09:=zQ hc5 ho01
      try rw [hc5]
      exact yB [] [(4,vF)]<|wC zT<|yS [(4,vF)]<|zW (ct hM09 H)
   rintro I04 hs2 m2 ⟨t41,heq1,le6,rfl,rfl⟩;subst o01;refine xP<|zN ?_;obtain rfl:=zC hMc1;exact uM
 intro hc4 N;refine zV<|yG<|yK<|yB [0] [(47,.bool (e0.Kind == 1))]<|zL<|yL N ?_ ?_
 · intro hc7 N;refine yI ?_;obtain ⟨o02,ho02,hMc2⟩:=zB N;refine yU (fun I' hs' m'=>∃ (t42:Bool),o02=t42∧I.le I'∧hs'=[]∧m'=[(4,.bool t42)]) ?_ ?_
   · have H:=iS I;refine zP<|yC 4 [0] [(51,.bool (decide (e0.Num ≥ 0)))] ?_;cases hc8:(decide (e0.Num ≥ 0)) with
     | true =>
      have hM010:=zS hc8 ho02
      try rw [hc8]
      refine yC 9 [0] [(56,.bool (decide (e0.Num ≤ 99)))] ?_;cases hc9:(decide (e0.Num ≤ 99)) with
      | true =>
       have hM011:=zS hc9 hM010
       try rw [hc9]
       refine yC 11 [0] [(58,vA (cAff e0.Index p c))] ?_;obtain ⟨y5,hy5,N⟩:=zB hM011;refine tQ (fU e0.Index _ hy5 h) ?_;intro I08 le7;have h1:=h1.mono le7;have H:=H.trans le7;refine yC 14 [] [(61,.bool y5)] ?_;cases hc10:y5 with
       | true =>
        have hM012:=zS hc10 N
        try rw [hc10]
        refine yC 16 [0] [(63,vA (cAccess e0.Read p1 c1))] ?_;obtain ⟨y6,hy6,N⟩:=zB hM012;refine tQ (gZ e0.Read _ hy6 h1) ?_;intro I09 le8;have H:=H.trans le8;exact yB [] [(4,.bool y6)]<|wC zT<|yS [(4,.bool y6)]<|zW (ct N H)
       | false =>
        have hM013:=zQ hc10 N
        try rw [hc10]
        exact yB [] [(4,vF)]<|wC zT<|yS [(4,vF)]<|zW (ct hM013 H)
      | false =>
       have hM014:=zQ hc9 hM010
       try rw [hc9]
       exact yB [] [(4,vF)]<|wC zT<|yS [(4,vF)]<|zW (ct hM014 H)
     | false =>
      have hM015:=zQ hc8 ho02
      try rw [hc8]
      exact yB [] [(4,vF)]<|wC zT<|yS [(4,vF)]<|zW (ct hM015 H)
   rintro I07 hs2 m2 ⟨t42,heq2,le9,rfl,rfl⟩;subst o02;refine xP<|zN ?_;obtain rfl:=zC hMc2;exact uM
 intro hc7 N;refine zV<|zL<|yI ?_;obtain ⟨o03,ho03,hMc3⟩:=zB N;refine yU (fun I' hs' m'=>∃ (t43:Bool),o03=t43∧I.le I'∧hs'=[]∧m'=[(4,.bool t43)]) ?_ ?_
 · have H:=iS I;refine zP<|yC 4 [0] [(69,.bool (e0.Num == 0))] ?_;cases hc11:(e0.Num == 0) with
   | true =>
    have hM016:=zS hc11 ho03
    try rw [hc11]
    refine yC 6 [0] [(71,vA (cAff e0.Index p c))] ?_;obtain ⟨y7,hy7,N⟩:=zB hM016;refine tQ (fU e0.Index _ hy7 h) ?_;intro I011 le10;have h1:=h1.mono le10;have H:=H.trans le10;refine yC 9 [] [(74,.bool y7)] ?_;cases hc12:y7 with
    | true =>
     have hM017:=zS hc12 N
     try rw [hc12]
     refine yC 11 [0] [(76,vA (cAccess e0.Read p1 c1))] ?_;obtain ⟨y8,hy8,N⟩:=zB hM017;refine tQ (gZ e0.Read _ hy8 h1) ?_;intro I012 le11;have H:=H.trans le11;exact yB [] [(4,.bool y8)]<|wC zT<|yS [(4,.bool y8)]<|zW (ct N H)
    | false =>
     have hM018:=zQ hc12 N
     try rw [hc12]
     exact yB [] [(4,vF)]<|wC zT<|yS [(4,vF)]<|zW (ct hM018 H)
   | false =>
    have hM019:=zQ hc11 ho03
    try rw [hc11]
    exact yB [] [(4,vF)]<|wC zT<|yS [(4,vF)]<|zW (ct hM019 H)
 rintro I010 hs2 m2 ⟨t43,heq3,le12,rfl,rfl⟩;subst o03;refine zL<|xG ?_;obtain rfl:=zC hMc3;exact uM
end Go.LN
