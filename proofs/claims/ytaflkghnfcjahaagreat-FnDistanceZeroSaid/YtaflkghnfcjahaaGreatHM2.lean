/- Helper of the proof (see the last text). -/
import Derived.Test.YtaflkghnfcjahaaGreatHM1
set_option linter.unusedVariables false
set_option linter.unusedSimpArgs false
namespace Go.LN
open Go.Proofs
set_option maxRecDepth 20000
def gR (b0:Nat) (r:zE×zM):KT:=fun kk I' hs' v=>
  ∃ v0 k0,hs'=[.blk b0 ⟨k0⟩]∧v=tupV [v0]∧(∃ cs,v0=.agg ⟨cs⟩∧Rp.rep I' cs r.1)∧Rp.rep I' k0 r.2
def qR (r0:zM) (p1:zE):Option (zE×zM):=do
 let y←rX p1
 let (y2,y3)←yW r0 60
 let (Arrays,Parts,x)←(do
   if (y2 == 0) then
    let (y5,y6)←oK y3 ([(⟨[65]⟩:Str),(⟨[68]⟩:Str),(⟨[69]⟩:Str)]:List Str)
    let (y8,y9)←yU y6 ([7,0,3,(-1)]:List Int)
    let l←app 40 y.Arrays ([(zH.mk y5 ([y8]:List Int))]:List zH)
    pure (l,y.Parts,y9)
   else
    let (Arrays1,Parts1,x1)←(do
      if (y2 == 1) then
       let (Arrays2,x2)←(do
         if (decide ((y.Arrays.length:Int) > 0)) then
          let (y11,y12)←yU y3 ([1,2,7]:List Int)
          let x3←idx y.Arrays 0
          let l1←pure (y.Arrays.set (0:Int).toNat (zH.mk x3.Name ([y11]:List Int)))
          pure (l1,y12)
         else
          pure (y.Arrays,y3)
           : Option (List zH×zM))
       pure (Arrays2,y.Parts,x2)
      else
       let (Parts2,x4)←(do
         if (y2 == 2) then
          let (Parts3,x5)←(do
            if (decide ((y.Parts.length:Int) > 0)) then
             let x6←idx y.Parts 0
             let (y14,y15)←oL y3 x6.Nest
             let (y17,y18)←oL y15 y14
             let (y20,y21)←oL y18 y17
             let x7←idx y.Parts 0
             let l2←pure (y.Parts.set (0:Int).toNat (zN.mk y20 x7.Body))
             pure (l2,y21)
            else
             pure (y.Parts,y3)
              : Option (List zN×zM))
          pure (Parts3,x5)
         else
          let (Parts4,x8)←(do
            if (y2 == 3) then
             let t76←(do
               if (decide ((y.Parts.length:Int) > 0)) then
                let x9←idx y.Parts (W ((y.Parts.length:Int) - 1))
                pure (decide ((x9.Body.length:Int) > 0))
               else
                pure false
                 : Option Bool)
             let (Parts5,x10)←(do
               if t76 then
                let x11←idx y.Parts (W ((y.Parts.length:Int) - 1))
                let x12←idx x11.Body 0
                let (y22,y23)←sE y3 x12
                let (y24,y25)←sE y23 y22
                let (y26,y27)←sE y25 y24
                let l3←pure ((y.Parts).set (W ((y.Parts.length:Int) - 1)).toNat (zN.mk x11.Nest (x11.Body.set 0 y26)))
                pure (l3,y27)
               else
                pure (y.Parts,y3)
                 : Option (List zN×zM))
             pure (Parts5,x10)
            else
             let Parts6←(do
               if (y2 == 4) then
                let Parts7←(do
                  if (decide ((y.Parts.length:Int) > 0)) then
                   let x13←idx y.Parts (W ((y.Parts.length:Int) - 1))
                   let l4←pure (y.Parts.set (W ((y.Parts.length:Int) - 1)).toNat (zN.mk x13.Nest ([]:List zQ)))
                   pure (id l4)
                  else
                   pure y.Parts
                    : Option (List zN))
                pure (id Parts7)
               else
                pure y.Parts
                 : Option (List zN))
             pure (Parts6,y3)
              : Option (List zN×zM))
          pure (Parts4,x8)
           : Option (List zN×zM))
       pure (y.Arrays,Parts2,x4)
        : Option (List zH×List zN×zM))
    pure (Arrays1,Parts1,x1)
     : Option (List zH×List zN×zM))
 pure ((zE.mk Arrays Parts),x)
theorem zDH:∀ (r0:zM) (p1:zE) r,qR r0 p1=some r→∀ {I:Imm}{r01:Nat}{p c p2 c1 p3 c2},(S4 I p r0.b c)→(S4 I p2 p1.Arrays c1)→(S4 I p3 p1.Parts c2)→(∀ (y:zE) (y2:Int) (y3:zM) (x:zN) (s:zQ),rX p1=some y→yW r0 60=some (y2,y3)→(y2 == 3)=true→idx y.Parts (W ((y.Parts.length:Int) - 1))=some x→idx x.Body 0=some s→False)→RT 47 [vP r01 0,vA (cProg p1 p2 c1 p3 c2)] I [hB r01 (cRd r0 p c)] (gR r01 r):=by
 intro r0 p1 r N I r01 p c p2 c1 p3 c2 h h1 h2 hne;unfold qR at N;refine yL Tryz.func47 fun B=>?_;have H:=iS I;refine yF<|tX (cProg p1 p2 c1 p3 c2) ?_;intro b hb;refine uF zTwo ?_;intro b1 hb1;refine yE rfl<|xG<|oD 1 [1] [(7,vA (cProg p1 p2 c1 p3 c2))]<|bE N fun y hy N=>xV (zFc p1 _ hy h1 h2) ?_;rintro I0 hs2 v2 k2 le - ⟨p4,c3,cs,p5,c4,cs1,rfl,rfl,h3,h4⟩ -;have ⟨h,H⟩:=m2 le h H;refine uF zTwo ?_;intro b2 hb2;refine xQ 0 (cProg y p4 c3 p5 c4) rfl<|yE rfl<|xG<|yJ [0] [6] rfl<|zX<|yF<|yH 1 [] [12] rfl<|rW (zY [5,0,1,2,3,4] (hs':=[hB r01 (cRd r0 p c),hB b2 (cProg y p4 c3 p5 c4),hO zH (vS p4 y.Arrays c3) cs,hO zN (vS p5 y.Parts c4) cs1,hB b1 zTwo,hB b (cProg p1 p2 c1 p3 c2)])) ?_;obtain ⟨⟨y2,y3⟩,hy1,N⟩:=zC N;refine sR (xT r0 60 _ hy1 h) rfl ?_;rintro I01 hs2 v2 k2 le1 - ⟨v0,kk,rfl,rfl,rfl,h6⟩ -;have ⟨h3,h4,H⟩:=m3 le1 h3 h4 H;obtain ⟨p6,c5,rfl,h7⟩:=yA h6;refine yE rfl<|wB<|yD [14] rfl<|zI<|oT 5 rfl ?_;intro I02 le2 hl0;have hat:At I02 ⟨b,0,none⟩ (cProg p1 p2 c1 p3 c2):=At.of_blk hl0;have ⟨h7,h3,h4,H⟩:=m4 le2 h7 h3 h4 H;obtain ⟨o0,ho0,hMc⟩:=zC N;refine oC (fun I' hs' m'=>∃ (Arrays:List zH) (Parts:List zN) (x:zM) (p7:Option Addr) (c6:Nat) (cs2:List Value) (p8:Option Addr) (c7:Nat) (cs3:List Value) (p9:Option Addr) (c8:Nat),o0=(Arrays,Parts,x)∧I02.le I'∧(RL I' cs2 Arrays)∧(RL I' cs3 Parts)∧(S4 I' p9 x.b c8)∧hs'=[hB r01 (cRd x p9 c8),hB b2 [vS p7 Arrays c6,vS p8 Parts c7],hO zH (vS p7 Arrays c6) cs2,hO zN (vS p8 Parts c7) cs3,hB b1 zTwo]∧m'=[(4,vP b1 0),(5,vP b2 0)]) ?_ ?_
 · have H:=iS I02;refine yB ho0 ?_ ?_
   · intro hc N;obtain ⟨⟨y5,y6⟩,hy2,N⟩:=zC N;obtain ⟨⟨y8,y9⟩,hy3,N⟩:=zC N;obtain ⟨l,hy4,N⟩:=zC N;refine wX [.p (vP b2 0) [],.p (vS p4 y.Arrays c3) [0],.p (vP r01 0) [],.x (fun I' v hx=>∃ b3,v=vS (some ⟨b3,0,none⟩) ([(⟨[65]⟩:Str),(⟨[68]⟩:Str),(⟨[69]⟩:Str)]:List Str) 3∧hx=[]∧(SL I' (vS (some ⟨b3,0,none⟩) ([(⟨[65]⟩:Str),(⟨[68]⟩:Str),(⟨[69]⟩:Str)]:List Str) 3) ([(⟨[65]⟩:Str),(⟨[68]⟩:Str),(⟨[69]⟩:Str)]:List Str))),.x (fun I' v hx=>∃ p10 c9,v=vT y5.l∧hx=[hB r01 (cRd y6 p10 c9)]∧(S4 I' p10 y6.b c9)),.p (vP r01 0) [],.x (fun I' v hx=>∃ b4,v=vS (some ⟨b4,0,none⟩) ([7,0,3,(-1)]:List Int) 4∧hx=[]∧(SL I' (vS (some ⟨b4,0,none⟩) ([7,0,3,(-1)]:List Int) 4) ([7,0,3,(-1)]:List Int))),.x (fun I' v hx=>∃ p11 c10,v=vI y8∧hx=[hB r01 (cRd y9 p11 c10)]∧(S4 I' p11 y9.b c10)),.x (fun I' v hx=>∃ b5,v=vS (some ⟨b5,0,none⟩) ([y8]:List Int) 1∧hx=[]∧(SL I' (vS (some ⟨b5,0,none⟩) ([y8]:List Int) 1) ([y8]:List Int))),.x (fun I' v hx=>∃ b51,v=vA [vT y5.l,vS (some ⟨b51,0,none⟩) ([y8]:List Int) 1]∧hx=[]∧(SL I' (vS (some ⟨b51,0,none⟩) ([y8]:List Int) 1) ([y8]:List Int))),.x (fun I' v hx=>∃ b6,v=vS (some ⟨b6,0,none⟩) ([(zH.mk y5 ([y8]:List Int))]:List zH) 1∧hx=[]∧(SL I' (vS (some ⟨b6,0,none⟩) ([(zH.mk y5 ([y8]:List Int))]:List zH) 1) ([(zH.mk y5 ([y8]:List Int))]:List zH))),.x (fun I' v hx=>∃ p12 c11 cs4,v=vS p12 l c11∧hx=[hO zH (vS p12 l c11) cs4]∧(RL I' cs4 l))] [[],[(0,false)],[],[],[(2,false),(3,false),(14,true)],[],[],[(5,false),(6,false),(4,true)],[(7,false)],[(4,false),(8,false)],[(9,false)],[(1,false),(10,false),(15,true)]] [hB b2 (cProg y p4 c3 p5 c4),hO zN (vS p5 y.Parts c4) cs1,hB b1 zTwo] [[hB r01 (cRd y3 p6 c5)],[hO zH (vS p4 y.Arrays c3) cs]] [(7,true),(11,true)] (zY [1,3,4,0,2]) ?_ ?_
     · refine Op<|Op<|Op<|Ox ?_<|Ox ?_<|Op<|Ox ?_<|Ox ?_<|Ox ?_<|Ox ?_<|Ox ?_<|Ox ?_<|On
       · intro I1 hf le1;refine eU [] ?_;have H:=iS I1;refine nE (rT [(⟨[65]⟩:Str),(⟨[68]⟩:Str),(⟨[69]⟩:Str)]) ?_;intro b3 I04 le3 h12;have H:=H.trans le3;exact yK [] H ⟨_,rfl,rfl,h12⟩
       · rintro I1 hf le1 _ _ ⟨rfl,rfl⟩ _ _ ⟨b3,rfl,rfl,h12⟩ _ _ rfl;refine yS [18,19] rfl ?_;have H:=iS I1;have h7:=h7.mono le1;refine sR (fM y3 ([(⟨[65]⟩:Str),(⟨[68]⟩:Str),(⟨[69]⟩:Str)]:List Str) _ hy2 h7 h12) rfl ?_;rintro I05 hs2 v2 k2 le4 - ⟨v02,kk1,rfl,rfl,rfl,h14⟩ -;have H:=H.trans le4;obtain ⟨p10,c9,rfl,h15⟩:=yA h14;exact yK [hB r01 (cRd y6 p10 c9)] H ⟨_,_,rfl,rfl,h15⟩
       · intro I1 hf le1;refine eU [] ?_;have H:=iS I1;refine nE (rI [7,0,3,(-1)]) ?_;intro b4 I06 le5 h17;have H:=H.trans le5;exact yK [] H ⟨_,rfl,rfl,h17⟩
       · rintro I1 hf le1 _ _ ⟨rfl,rfl⟩ _ _ ⟨b4,rfl,rfl,h17⟩ _ _ ⟨p10,c9,rfl,rfl,h15⟩;refine yS [21,22] rfl ?_;have H:=iS I1;refine sR (xD y6 ([7,0,3,(-1)]:List Int) _ hy3 h15 h17) rfl ?_;rintro I07 hs2 v2 k2 le6 - ⟨v04,kk2,rfl,rfl,rfl,h19⟩ -;have H:=H.trans le6;obtain ⟨p11,c10,rfl,h20⟩:=yA h19;exact yK [hB r01 (cRd y9 p11 c10)] H ⟨_,_,rfl,rfl,h20⟩
       · rintro I1 hf le1 _ _ ⟨p11,c10,rfl,rfl,h20⟩;refine yS [23] rfl ?_;have H:=iS I1;refine nE (rI [y8]) ?_;intro b5 I08 le7 h22;have H:=H.trans le7;exact yK [] H ⟨_,rfl,rfl,h22⟩
       · rintro I1 hf le1 _ _ ⟨p10,c9,rfl,rfl,h15⟩ _ _ ⟨b5,rfl,rfl,h22⟩;exact yS [20,24] rfl<|oH 10 [(25,vA [vT y5.l,vS (some ⟨b5,0,none⟩) ([y8]:List Int) 1])]<|yK [] iR ⟨_,rfl,rfl,h22⟩
       · rintro I1 hf le1 _ _ ⟨b51,rfl,rfl,h221⟩;refine yS [25] rfl ?_;have H:=iS I1;refine nE (rc (zH.mk y5 ([y8]:List Int)) (nS ⟨_,rfl,h221⟩) rN) ?_;intro b6 I09 le8 h24;have H:=H.trans le8;exact yK [] H ⟨_,rfl,rfl,h24⟩
       rintro I1 hf le1 _ _ ⟨rfl,rfl⟩ _ _ ⟨b6,rfl,rfl,h24⟩ _ _ rfl;refine yS [17,26] rfl ?_;have h3:=iM le1 h3;obtain ⟨ccs,k0,k01⟩:=h24;have h24:SL I1 (vS (some ⟨b6,0,none⟩) ([(zH.mk y5 ([y8]:List Int))]:List zH) 1) ([(zH.mk y5 ([y8]:List Int))]:List zH):=⟨_,k0,k01⟩;exact qB 122 2 0 rfl rfl rfl h3 (.inl k0) k01 hy4 fun p12 c11 cs4 h25=>uG (hs':=(hO zH (vS p12 l c11) cs4::hB b2 (cProg y p4 c3 p5 c4)::hO zN (vS p5 y.Parts c4) cs1::hB b1 zTwo::hf)) rfl<|yK [hO zH (vS p12 l c11) cs4] iR ⟨_,_,_,rfl,rfl,h25⟩
     rintro I010 le9 _ _ ⟨p11,c10,rfl,rfl,h20⟩ _ _ ⟨p12,c11,cs4,rfl,rfl,h25⟩;refine yS [4,5,27] rfl ?_;have ⟨h4,H⟩:=m2 le9 h4 H;exact yH 13 [] [28] rfl<|xQ 2 [vS p12 l c11,vS p5 y.Parts c4] rfl<|yE rfl<|wA (zW [1,2,0,3,4] rfl (by decide))<|yO<|zV ⟨_,_,_,_,_,_,_,_,_,_,_,(zB N).symm,H,h25,h4,h20,rfl,rfl⟩
   intro hc N;refine yD [29] rfl<|zI ?_;obtain ⟨o01,ho01,hMc1⟩:=zC N;refine oC (fun I' hs' m'=>∃ (Arrays1:List zH) (Parts1:List zN) (x1:zM) (p13:Option Addr) (c12:Nat) (cs5:List Value) (p14:Option Addr) (c13:Nat) (cs6:List Value) (p15:Option Addr) (c14:Nat),o01=(Arrays1,Parts1,x1)∧I02.le I'∧(RL I' cs5 Arrays1)∧(RL I' cs6 Parts1)∧(S4 I' p15 x1.b c14)∧hs'=[hB r01 (cRd x1 p15 c14),hB b2 [vS p13 Arrays1 c12,vS p14 Parts1 c13],hO zH (vS p13 Arrays1 c12) cs5,hO zN (vS p14 Parts1 c13) cs6,hB b1 zTwo]∧m'=[(4,vP b1 0),(5,vP b2 0)]) ?_ ?_
   · have H:=iS I02;refine yB ho01 ?_ ?_
     · intro hc1 N;refine yF<|yJ [1] [34] rfl<|zI ?_;obtain ⟨o02,ho02,hMc2⟩:=zC N;refine oC (fun I' hs' m'=>∃ (Arrays2:List zH) (x2:zM) (p16:Option Addr) (c15:Nat) (cs7:List Value) (p17:Option Addr) (c16:Nat),o02=(Arrays2,x2)∧I02.le I'∧(RL I' cs7 Arrays2)∧(S4 I' p17 x2.b c16)∧hs'=[hB r01 (cRd x2 p17 c16),hB b2 [vS p16 Arrays2 c15,vS p5 y.Parts c4],hO zH (vS p16 Arrays2 c15) cs7,hO zN (vS p5 y.Parts c4) cs1,hB b1 zTwo]∧m'=[(4,vP b1 0),(5,vP b2 0)]) ?_ ?_
       · have H:=iS I02;refine yB ho02 ?_ ?_
         · intro hc2 N;obtain ⟨⟨y11,y12⟩,hy5,N⟩:=zC N;refine wX [.p (vP b2 0) [],.p (vS p4 y.Arrays c3) [0],.p (vP r01 0) [],.x (fun I' v hx=>∃ b7,v=vS (some ⟨b7,0,none⟩) ([1,2,7]:List Int) 3∧hx=[]∧(SL I' (vS (some ⟨b7,0,none⟩) ([1,2,7]:List Int) 3) ([1,2,7]:List Int))),.x (fun I' v hx=>∃ p18 c17,v=vI y11∧hx=[hB r01 (cRd y12 p18 c17)]∧(S4 I' p18 y12.b c17)),.x (fun I' v hx=>∃ b8,v=vS (some ⟨b8,0,none⟩) ([y11]:List Int) 1∧hx=[]∧(SL I' (vS (some ⟨b8,0,none⟩) ([y11]:List Int) 1) ([y11]:List Int)))] [[],[(0,false)],[],[],[(2,false),(3,false),(9,true)],[(4,false)]] [hB b2 (cProg y p4 c3 p5 c4),hO zH (vS p4 y.Arrays c3) cs,hO zN (vS p5 y.Parts c4) cs1,hB b1 zTwo] [[hB r01 (cRd y3 p6 c5)]] [(1,false),(4,true),(5,false)] (zY [1,2,3,4,0]) ?_ ?_
           · refine Op<|Op<|Op<|Ox ?_<|Ox ?_<|Ox ?_<|On
             · intro I1 hf le1;refine eU [] ?_;have H:=iS I1;refine nE (rI [1,2,7]) ?_;intro b7 I013 le10 h32;have H:=H.trans le10;exact yK [] H ⟨_,rfl,rfl,h32⟩
             · rintro I1 hf le1 _ _ ⟨rfl,rfl⟩ _ _ ⟨b7,rfl,rfl,h32⟩ _ _ rfl;refine yS [37,38] rfl ?_;have H:=iS I1;have h7:=h7.mono le1;refine sR (xD y3 ([1,2,7]:List Int) _ hy5 h7 h32) rfl ?_;rintro I014 hs2 v2 k2 le11 - ⟨v06,kk3,rfl,rfl,rfl,h34⟩ -;have H:=H.trans le11;obtain ⟨p18,c17,rfl,h35⟩:=yA h34;exact yK [hB r01 (cRd y12 p18 c17)] H ⟨_,_,rfl,rfl,h35⟩
             rintro I1 hf le1 _ _ ⟨p18,c17,rfl,rfl,h35⟩;refine yS [39] rfl ?_;have H:=iS I1;refine nE (rI [y11]) ?_;intro b8 I015 le12 h37;have H:=H.trans le12;exact yK [] H ⟨_,rfl,rfl,h37⟩
           rintro I016 le13 _ _ ⟨rfl,rfl⟩ _ _ ⟨p18,c17,rfl,rfl,h35⟩ _ _ ⟨b8,rfl,rfl,h37⟩;refine yS [4,5,36,40] rfl ?_;have ⟨h3,H⟩:=m2 le13 h3 H;obtain ⟨x3,hy6,N⟩:=zC N;refine kI 2 rfl rfl rfl h3 hy6 ?_;intro ad ccs1 hat1 hcc hrep;obtain ⟨p19,c18,rfl,h38⟩:=vZ hrep;refine yH 8 [] [42] rfl ?_;obtain ⟨l1,hy7,N⟩:=zC N;refine oJ (c:=[vT x3.Name.l,vS (some ⟨b8,0,none⟩) ([y11]:List Int) 1]) (x':=(zH.mk x3.Name ([y11]:List Int))) 2 1 rfl rfl rfl hat1 rfl rfl hcc (by kernel_rfl) (by kernel_rfl) (by kernel_rfl) h3 hy6 (by kernel_rfl) (nS ⟨_,rfl,h37⟩) ?_;rw [show y.Arrays.set (0:Int).toNat (zH.mk x3.Name ([y11]:List Int))=l1 from zB hy7];intro cs8 h39 hl07;exact kT (m':=[(4,vP b1 0),(5,vP b2 0),(40,vS (some ⟨b8,0,none⟩) ([y11]:List Int) 1)]) ⟨rfl,rfl,rfl,trivial⟩<|zAj (hs':=[hB r01 (cRd y12 p18 c17),hB b2 [vS p4 l1 c3,vS p5 y.Parts c4],hO zH (vS p4 l1 c3) cs8,hO zN (vS p5 y.Parts c4) cs1,hB b1 zTwo]) (m':=[(4,vP b1 0),(5,vP b2 0),(40,vS (some ⟨b8,0,none⟩) ([y11]:List Int) 1)]) (by first | rfl | simp only [vS,hl07,List.nil_append,List.cons_append,List.set_cons_zero,List.set_cons_succ,List.eraseIdx_cons_zero,List.eraseIdx_cons_succ]) (by first | rfl | simp only [vS,hl07])<|yE rfl<|yO<|zV ⟨_,_,_,_,_,_,_,(zB N).symm,H,h39,h35,rfl,rfl⟩
         intro hc2 N;exact zS<|yO<|zV ⟨_,_,_,_,_,_,_,(zB N).symm,H,h3,h7,rfl,rfl⟩
       rintro I012 hs2 m2 ⟨Arrays2,x2,p16,c15,cs7,p17,c16,heq,le14,h29,h30,rfl,rfl⟩;subst o02;have ⟨h4,H⟩:=m2 le14 h4 H;exact yO<|zV ⟨_,_,_,_,_,_,_,_,_,_,_,(zB hMc2).symm,H,h29,h4,h30,rfl,rfl⟩
     intro hc1 N;refine yD [43] rfl<|zI ?_;obtain ⟨o03,ho03,hMc3⟩:=zC N;refine oC (fun I' hs' m'=>∃ (Parts2:List zN) (x4:zM) (p20:Option Addr) (c19:Nat) (cs9:List Value) (p21:Option Addr) (c20:Nat),o03=(Parts2,x4)∧I02.le I'∧(RL I' cs9 Parts2)∧(S4 I' p21 x4.b c20)∧hs'=[hB r01 (cRd x4 p21 c20),hB b2 [vS p4 y.Arrays c3,vS p20 Parts2 c19],hO zH (vS p4 y.Arrays c3) cs,hO zN (vS p20 Parts2 c19) cs9,hB b1 zTwo]∧m'=[(4,vP b1 0),(5,vP b2 0)]) ?_ ?_
     · have H:=iS I02;refine yB ho03 ?_ ?_
       · intro hc3 N;refine yD [46] rfl<|zI ?_;obtain ⟨o04,ho04,hMc4⟩:=zC N;refine oC (fun I' hs' m'=>∃ (Parts3:List zN) (x5:zM) (p22:Option Addr) (c21:Nat) (cs10:List Value) (p23:Option Addr) (c22:Nat),o04=(Parts3,x5)∧I02.le I'∧(RL I' cs10 Parts3)∧(S4 I' p23 x5.b c22)∧hs'=[hB r01 (cRd x5 p23 c22),hB b2 [vS p4 y.Arrays c3,vS p22 Parts3 c21],hO zH (vS p4 y.Arrays c3) cs,hO zN (vS p22 Parts3 c21) cs10,hB b1 zTwo]∧m'=[(4,vP b1 0),(5,vP b2 0)]) ?_ ?_
         · have H:=iS I02;refine yB ho04 ?_ ?_
           · intro hc4 N;obtain ⟨x6,hy8,N⟩:=zC N;obtain ⟨⟨y14,y15⟩,hy9,N⟩:=zC N;obtain ⟨⟨y17,y18⟩,hy10,N⟩:=zC N;obtain ⟨⟨y20,y21⟩,hy11,N⟩:=zC N;refine wX [.p (vP b2 1) [],.p (vS p5 y.Parts c4) [0],.p (vP r01 0) [],.p (vP r01 0) [],.p (vP r01 0) [],.p (vP b2 1) [],.p (vS p5 y.Parts c4) [0],.x (fun I' v hx=>∃ ad1 p24 c23 p25 c24,v=.pointer (some ad1)∧hx=[]∧(AtO (vS p5 y.Parts c4) (Rp.sz zN) (0:Int).toNat ad1)∧((cs1.drop ((0:Int).toNat * Rp.sz zN)).take (Rp.sz zN)=(cPart x6 p24 c23 p25 c24))∧(S4 I' p24 x6.Nest c23)∧(S4 I' p25 x6.Body c24)),.x (fun I' v hx=>∃ ad11 p241 c231 p251 c241,v=.pointer (some ad11)∧hx=[]∧(AtO (vS p5 y.Parts c4) (Rp.sz zN) (0:Int).toNat ad11)∧((cs1.drop ((0:Int).toNat * Rp.sz zN)).take (Rp.sz zN)=(cPart x6 p241 c231 p251 c241))∧(S4 I' p241 x6.Nest c231)∧(S4 I' p251 x6.Body c241)),.x (eS x6.Nest),.x (fun I' v hx=>∃ p26 c25 p27 c26,v=vS p26 y14 c25∧hx=[hB r01 (cRd y15 p27 c26)]∧(S4 I' p26 y14 c25)∧(S4 I' p27 y15.b c26)),.x (fun I' v hx=>∃ p28 c27 p29 c28,v=vS p28 y17 c27∧hx=[hB r01 (cRd y18 p29 c28)]∧(S4 I' p28 y17 c27)∧(S4 I' p29 y18.b c28)),.x (fun I' v hx=>∃ p30 c29 p31 c30,v=vS p30 y20 c29∧hx=[hB r01 (cRd y21 p31 c30)]∧(S4 I' p30 y20 c29)∧(S4 I' p31 y21.b c30))] [[],[(0,false)],[],[],[],[],[(5,false)],[(6,false)],[(7,false)],[(8,false)],[(4,false),(9,false),(16,true)],[(3,false),(10,true)],[(2,false),(11,true)]] [hB b2 (cProg y p4 c3 p5 c4),hO zH (vS p4 y.Arrays c3) cs,hO zN (vS p5 y.Parts c4) cs1,hB b1 zTwo] [[hB r01 (cRd y3 p6 c5)]] [(1,false),(12,true)] (zY [1,2,3,4,0]) ?_ ?_
             · refine Op<|Op<|Op<|Op<|Op<|Op<|Op<|Ox ?_<|Ox ?_<|Ox ?_<|Ox ?_<|Ox ?_<|Ox ?_<|On
               · intro I1 hf le1;refine yS [53] rfl ?_;have h4:=iM le1 h4;refine kI 2 rfl rfl rfl h4 hy8 ?_;intro ad1 ccs2 hat2 hcc1 hrep1;obtain ⟨p24,c23,p25,c24,rfl,h44,h45⟩:=tD hrep1;exact yK [] iR ⟨_,_,_,_,_,rfl,rfl,hat2,hcc1,h44,h45⟩
               · rintro I1 hf le1 _ _ ⟨ad1,p24,c23,p25,c24,rfl,rfl,hat2,hcc1,h44,h45⟩;exact yS [54] rfl<|oH 9 [(55,.pointer (some ad1))]<|yK [] iR ⟨_,_,_,_,_,rfl,rfl,hat2,hcc1,h44,h45⟩
               · rintro I1 hf le1 _ _ ⟨ad11,p241,c231,p251,c241,rfl,rfl,hat21,hcc11,h441,h451⟩;exact yS [55] rfl<|zBZ 2 0 hat21 hcc11 [vS p241 x6.Nest c231] (vS p241 x6.Nest c231) rfl rfl<|yK [] iR ⟨_,_,rfl,rfl,h441⟩
               · rintro I1 hf le1 _ _ ⟨rfl,rfl⟩ _ _ ⟨p2411,c2311,rfl,rfl,h4411⟩ _ _ rfl;refine yS [51,56] rfl ?_;have H:=iS I1;have h7:=h7.mono le1;refine sR (fN y3 x6.Nest _ hy9 h7 h4411) rfl ?_;rintro I019 hs2 v2 k2 le15 - ⟨v011,kk4,rfl,rfl,h46,h47⟩ -;have H:=H.trans le15;obtain ⟨p26,c25,rfl⟩:=h46.form;obtain ⟨p27,c26,rfl,h48⟩:=yA h47;exact yK [hB r01 (cRd y15 p27 c26)] H ⟨_,_,_,_,rfl,rfl,h46,h48⟩
               · rintro I1 hf le1 _ _ ⟨rfl,rfl⟩ _ _ ⟨p26,c25,p27,c26,rfl,rfl,h46,h48⟩;refine yS [50,57] rfl ?_;have H:=iS I1;refine sR (fN y15 y14 _ hy10 h48 h46) rfl ?_;rintro I020 hs2 v2 k2 le16 - ⟨v013,kk5,rfl,rfl,h49,h50⟩ -;have H:=H.trans le16;obtain ⟨p28,c27,rfl⟩:=h49.form;obtain ⟨p29,c28,rfl,h51⟩:=yA h50;exact yK [hB r01 (cRd y18 p29 c28)] H ⟨_,_,_,_,rfl,rfl,h49,h51⟩
               rintro I1 hf le1 _ _ ⟨rfl,rfl⟩ _ _ ⟨p28,c27,p29,c28,rfl,rfl,h49,h51⟩;refine yS [49,58] rfl ?_;have H:=iS I1;refine sR (fN y18 y17 _ hy11 h51 h49) rfl ?_;rintro I021 hs2 v2 k2 le17 - ⟨v015,kk6,rfl,rfl,h52,h53⟩ -;have H:=H.trans le17;obtain ⟨p30,c29,rfl⟩:=h52.form;obtain ⟨p31,c30,rfl,h54⟩:=yA h53;exact yK [hB r01 (cRd y21 p31 c30)] H ⟨_,_,_,_,rfl,rfl,h52,h54⟩
             rintro I022 le18 _ _ ⟨rfl,rfl⟩ _ _ ⟨p30,c29,p31,c30,rfl,rfl,h52,h54⟩;refine yS [4,5,48,59] rfl ?_;have ⟨h4,H⟩:=m2 le18 h4 H;obtain ⟨x7,hy12,N⟩:=zC N;refine kI 3 rfl rfl rfl h4 hy12 ?_;intro ad2 ccs3 hat3 hcc2 hrep2;obtain ⟨p32,c31,p33,c32,rfl,h55,h56⟩:=tD hrep2;refine yH 15 [] [61] rfl ?_;obtain ⟨l2,hy13,N⟩:=zC N;refine oJ (c:=[vS p30 y20 c29,vS p33 x7.Body c32]) (x':=(zN.mk y20 x7.Body)) 3 0 rfl rfl rfl hat3 rfl rfl hcc2 (by kernel_rfl) (by kernel_rfl) (by kernel_rfl) h4 hy12 (by kernel_rfl) (qD ⟨_,_,rfl,h52,h56⟩) ?_;rw [show y.Parts.set (0:Int).toNat (zN.mk y20 x7.Body)=l2 from zB hy13];intro cs11 h57 hl08;exact kT (m':=[(4,vP b1 0),(5,vP b2 0),(59,vS p30 y20 c29)]) ⟨rfl,rfl,rfl,trivial⟩<|zAj (hs':=[hB r01 (cRd y21 p31 c30),hB b2 [vS p4 y.Arrays c3,vS p5 l2 c4],hO zH (vS p4 y.Arrays c3) cs,hO zN (vS p5 l2 c4) cs11,hB b1 zTwo]) (m':=[(4,vP b1 0),(5,vP b2 0),(59,vS p30 y20 c29)]) (by first | rfl | simp only [vS,hl08,List.nil_append,List.cons_append,List.set_cons_zero,List.set_cons_succ,List.eraseIdx_cons_zero,List.eraseIdx_cons_succ]) (by first | rfl | simp only [vS,hl08])<|yE rfl<|yO<|zV ⟨_,_,_,_,_,_,_,(zB N).symm,H,h57,h54,rfl,rfl⟩
           intro hc4 N;exact zS<|yO<|zV ⟨_,_,_,_,_,_,_,(zB N).symm,H,h4,h7,rfl,rfl⟩
         rintro I018 hs2 m2 ⟨Parts3,x5,p22,c21,cs10,p23,c22,heq1,le19,h42,h43,rfl,rfl⟩;subst o04;have H:=H.trans le19;exact yO<|zV ⟨_,_,_,_,_,_,_,(zB hMc4).symm,H,h42,h43,rfl,rfl⟩
       intro hc3 N;refine yD [62] rfl<|zI ?_;obtain ⟨o05,ho05,hMc5⟩:=zC N;refine oC (fun I' hs' m'=>∃ (Parts4:List zN) (x8:zM) (p34:Option Addr) (c33:Nat) (cs12:List Value) (p35:Option Addr) (c34:Nat),o05=(Parts4,x8)∧I02.le I'∧(RL I' cs12 Parts4)∧(S4 I' p35 x8.b c34)∧hs'=[hB r01 (cRd x8 p35 c34),hB b2 [vS p4 y.Arrays c3,vS p34 Parts4 c33],hO zH (vS p4 y.Arrays c3) cs,hO zN (vS p34 Parts4 c33) cs12,hB b1 zTwo]∧m'=[(4,vP b1 0),(5,vP b2 0)]) ?_ ?_
       · have H:=iS I02;refine yB ho05 ?_ ?_
         · intro hc5 N;refine zZ ?_;refine wP N [hB r01 (cRd y3 p6 c5),hB b2 (cProg y p4 c3 p5 c4),hO zH (vS p4 y.Arrays c3) cs,hO zN (vS p5 y.Parts c4) cs1,hB b1 zTwo] (fun t76=>[(0,vP r01 0),(4,vP b1 0),(5,vP b2 0),(6,vI (y.Parts.length:Int)),(76,.bool t76)]) (fun o06 ho06=>?_) ?_
           · have H:=iS I02;refine zL<|yH 3 [] [66] rfl<|xZ [66] ho06 ?_ ?_
             · intro hc6 N;refine yH 7 [1] [68,70] rfl<|bE N fun x9 hy14 N=>kI 3 rfl rfl rfl h4 hy14 ?_;intro ad3 ccs4 hat4 hcc3 hrep3;obtain ⟨p36,c35,p37,c36,rfl,h60,h61⟩:=tD hrep3;exact yH 9 [] [72] rfl<|zBZ 3 1 hat4 hcc3 [vS p37 x9.Body c36] (vS p37 x9.Body c36) rfl rfl<|yJ [] [76] rfl<|yO<|zV (ct N H)
             intro hc6 N;exact vG [] [(76,vF)]<|yO<|zV (ct N H)
           intro t76 I024 le20 hMc6;have ⟨h7,h4,H⟩:=m3 le20 h7 h4 H;refine zI ?_;obtain ⟨o07,ho07,hMc7⟩:=zC hMc6;refine oC (fun I' hs' m'=>∃ (Parts5:List zN) (x10:zM) (p38:Option Addr) (c37:Nat) (cs13:List Value) (p39:Option Addr) (c38:Nat),o07=(Parts5,x10)∧I024.le I'∧(RL I' cs13 Parts5)∧(S4 I' p39 x10.b c38)∧hs'=[hB r01 (cRd x10 p39 c38),hB b2 [vS p4 y.Arrays c3,vS p38 Parts5 c37],hO zH (vS p4 y.Arrays c3) cs,hO zN (vS p38 Parts5 c37) cs13,hB b1 zTwo]∧m'=[(4,vP b1 0),(5,vP b2 0)]) ?_ ?_
           · have H:=iS I024;refine yB ho07 ?_ ?_
             · intro hc7 N;obtain ⟨x11,hy15,N⟩:=zC N;obtain ⟨x12,hy16,N⟩:=zC N;obtain ⟨⟨y22,y23⟩,hy17,N⟩:=zC N;obtain ⟨⟨y24,y25⟩,hy18,N⟩:=zC N;obtain ⟨⟨y26,y27⟩,hy19,N⟩:=zC N;obtain ⟨l3,hy20,N⟩:=zC N;have hF:False:=hne _ _ _ _ _ (by assumption) (by assumption) (by assumption) hy15 hy16;obtain ⟨p40,c39,cs14,p41,c40,h64,h65⟩:∃ p40 c39 cs14 p41 c40,(RL I024 cs14 l3)∧(S4 I024 p41 y27.b c40):=hF.elim;exact zKZ hF (imm':=I024) (hs':=[hB r01 (cRd y27 p41 c40),hB b2 [vS p4 y.Arrays c3,vS p40 l3 c39],hO zH (vS p4 y.Arrays c3) cs,hO zN (vS p40 l3 c39) cs14,hB b1 zTwo]) (m':=[(0,vP r01 0),(4,vP b1 0),(5,vP b2 0),(6,vI (y.Parts.length:Int)),(76,.bool t76)])<|yO<|zV ⟨_,_,_,_,_,_,_,(zB N).symm,H,h64,h65,rfl,rfl⟩
             intro hc7 N;exact zS<|yO<|zV ⟨_,_,_,_,_,_,_,(zB N).symm,H,h4,h7,rfl,rfl⟩
           rintro I025 hs2 m2 ⟨Parts5,x10,p38,c37,cs13,p39,c38,heq3,le21,h62,h63,rfl,rfl⟩;subst o07;have H:=H.trans le21;exact yO<|zV ⟨_,_,_,_,_,_,_,(zB hMc7).symm,H,h62,h63,rfl,rfl⟩
         intro hc5 N;refine yD [100] rfl<|zI ?_;obtain ⟨o08,ho08,hMc8⟩:=zC N;refine oC (fun I' hs' m'=>∃ (Parts6:List zN) (p42:Option Addr) (c41:Nat) (cs15:List Value),o08=Parts6∧I02.le I'∧(RL I' cs15 Parts6)∧hs'=[hB r01 (cRd y3 p6 c5),hB b2 [vS p4 y.Arrays c3,vS p42 Parts6 c41],hO zH (vS p4 y.Arrays c3) cs,hO zN (vS p42 Parts6 c41) cs15,hB b1 zTwo]∧m'=[(4,vP b1 0),(5,vP b2 0)]) ?_ ?_
         · have H:=iS I02;refine yB ho08 ?_ ?_
           · intro hc8 N;refine yD [103] rfl<|zI ?_;obtain ⟨o09,ho09,hMc9⟩:=zC N;refine oC (fun I' hs' m'=>∃ (Parts7:List zN) (p43:Option Addr) (c42:Nat) (cs16:List Value),o09=Parts7∧I02.le I'∧(RL I' cs16 Parts7)∧hs'=[hB r01 (cRd y3 p6 c5),hB b2 [vS p4 y.Arrays c3,vS p43 Parts7 c42],hO zH (vS p4 y.Arrays c3) cs,hO zN (vS p43 Parts7 c42) cs16,hB b1 zTwo]∧m'=[(4,vP b1 0),(5,vP b2 0)]) ?_ ?_
             · have H:=iS I02;refine yB ho09 ?_ ?_
               · intro hc9 N;refine zL<|yH 4 [1] [105,107] rfl<|bE N fun x13 hy21 N=>kI 3 rfl rfl rfl h4 hy21 ?_;intro ad4 ccs5 hat5 hcc4 hrep4;obtain ⟨p44,c43,p45,c44,rfl,h68,h69⟩:=tD hrep4;refine yH 6 [] [109] rfl ?_;obtain ⟨l4,hy22,N⟩:=zC N;refine oJ (c:=[vS p44 x13.Nest c43,z0]) (x':=(zN.mk x13.Nest ([]:List zQ))) 3 1 rfl rfl rfl hat5 rfl rfl hcc4 (by kernel_rfl) (by kernel_rfl) (by kernel_rfl) h4 hy21 (by kernel_rfl) (qD ⟨_,_,rfl,h68,(SL.nil _)⟩) ?_;rw [show y.Parts.set (W ((y.Parts.length:Int) - 1)).toNat (zN.mk x13.Nest ([]:List zQ))=l4 from zB hy22];intro cs17 h70 hl09;exact kT (m':=[(4,vP b1 0),(5,vP b2 0)]) ⟨rfl,rfl,trivial⟩<|zAj (hs':=[hB r01 (cRd y3 p6 c5),hB b2 [vS p4 y.Arrays c3,vS p5 l4 c4],hO zH (vS p4 y.Arrays c3) cs,hO zN (vS p5 l4 c4) cs17,hB b1 zTwo]) (m':=[(4,vP b1 0),(5,vP b2 0)]) (by first | rfl | simp only [vS,hl09,List.nil_append,List.cons_append,List.set_cons_zero,List.set_cons_succ,List.eraseIdx_cons_zero,List.eraseIdx_cons_succ]) (by first | rfl | simp only [vS,hl09])<|yE rfl<|yO<|zV ⟨_,_,_,_,(zB N).symm,H,h70,rfl,rfl⟩
               intro hc9 N;exact zS<|yO<|zV ⟨_,_,_,_,(zB N).symm,H,h4,rfl,rfl⟩
             rintro I027 hs2 m2 ⟨Parts7,p43,c42,cs16,heq4,le22,h67,rfl,rfl⟩;subst o09;have H:=H.trans le22;exact yO<|zV ⟨_,_,_,_,(zB hMc9).symm,H,h67,rfl,rfl⟩
           intro hc8 N;exact zS<|yO<|zV ⟨_,_,_,_,(zB N).symm,H,h4,rfl,rfl⟩
         rintro I026 hs2 m2 ⟨Parts6,p42,c41,cs15,heq5,le23,h66,rfl,rfl⟩;subst o08;have ⟨h7,H⟩:=m2 le23 h7 H;exact yO<|zV ⟨_,_,_,_,_,_,_,(zB hMc8).symm,H,h66,h7,rfl,rfl⟩
       rintro I023 hs2 m2 ⟨Parts4,x8,p34,c33,cs12,p35,c34,heq6,le24,h58,h59,rfl,rfl⟩;subst o05;have H:=H.trans le24;exact yO<|zV ⟨_,_,_,_,_,_,_,(zB hMc5).symm,H,h58,h59,rfl,rfl⟩
     rintro I017 hs2 m2 ⟨Parts2,x4,p20,c19,cs9,p21,c20,heq7,le25,h40,h41,rfl,rfl⟩;subst o03;have ⟨h3,H⟩:=m2 le25 h3 H;exact yO<|zV ⟨_,_,_,_,_,_,_,_,_,_,_,(zB hMc3).symm,H,h3,h40,h41,rfl,rfl⟩
   rintro I011 hs2 m2 ⟨Arrays1,Parts1,x1,p13,c12,cs5,p14,c13,cs6,p15,c14,heq8,le26,h26,h27,h28,rfl,rfl⟩;subst o01;have H:=H.trans le26;exact yO<|zV ⟨_,_,_,_,_,_,_,_,_,_,_,(zB hMc1).symm,H,h26,h27,h28,rfl,rfl⟩
 rintro I03 hs2 m2 ⟨Arrays,Parts,x,p7,c6,cs2,p8,c7,cs3,p9,c8,heq9,le27,h8,h9,h10,rfl,rfl⟩;subst o0;refine zO<|xG<|oD 1 [1] [(110,vA [vS p7 Arrays c6,vS p8 Parts c7])]<|xQ 4 [vS p7 Arrays c6,vS p8 Parts c7] rfl<|yE rfl<|xB<|xA 2 rfl ?_;intro I028 le28 hl010;have h71:=SL.of_frozen hl010 le28 h8;have ⟨h10,h9⟩:=m2 le28 h10 h9;refine xA 2 rfl ?_;intro I029 le29 hl011;have h72:=SL.of_frozen hl011 le29 h9;have ⟨h10,h71⟩:=m2 le29 h10 h71;obtain rfl:=zB hMc;exact xC ⟨_,_,(.cell 2 rfl rfl (by kernel_rfl) ResV.nil),(zW [0] rfl (by decide)),⟨_,_,rfl,rfl,⟨_,rfl,(nY ⟨_,_,rfl,h71,h72⟩)⟩,(yT ⟨_,rfl,h10⟩)⟩⟩
theorem zC1 (p:zE):∀ (i1:Int) (Parts:List zN) (o:List zN),uN p i1 Parts=some o→∀ {B}{I0 I:Imm}{Q}{Arrays1:List zH}{p1 c p2 c1}{b:Nat}{b1:Nat}{b2:Nat}{p4 c3 cs1 p9 c8 cs4}{raws:List Raw2}{pN pB:Option Addr}{cN cB:Nat}{nl:List zD}{bl:List zQ}{csB:List Value},I0.le I→(RL I cs1 Arrays1)→(S4 I p1 p.Arrays c)→(S4 I p2 p.Parts c1)→(RL I cs4 raws)→LP I raws Parts (vS pN nl cN) nl (vS pB bl cB) bl→SL I (vS pN nl cN) nl→RL I csB bl→(∀ l a w,¬Q (.goto l) a w)→(∀ a w,¬Q .outgrown a w)→(∀ (I':Imm) (p10:Option Addr) (c9:Nat) (cs5:List Value) (raws1:List Raw2) (pN pB:Option Addr) (cN cB:Nat) (nl:List zD) (bl:List zQ) (csB:List Value),I0.le I'→(RL I' cs5 raws1)→LP I' raws1 o (vS pN nl cN) nl (vS pB bl cB) bl→SL I' (vS pN nl cN) nl→RL I' csB bl→T 84 B Q (.exit 2) I' [hO zQ (vS pB bl cB) csB,hO Raw2 (vS p10 raws1 c9) cs5,hO zH (vS p4 Arrays1 c3) cs1,hB b2 [vS p4 Arrays1 c3,vS p10 raws1 c9],hB b1 zTwo] [(2,vP b1 0),(3,vP b2 0)])→J Tryz.prog 84 B (nav (bodyOf Tryz.f94) [1,1,1,0,1,0]) Q I [hO zQ (vS pB bl cB) csB,hO Raw2 (vS p9 raws c8) cs4,hO zH (vS p4 Arrays1 c3) cs1,hB b2 [vS p4 Arrays1 c3,vS p9 raws c8],hB b1 zTwo,hB b (cProg p p1 c p2 c1)] [(1,vP b 0),(2,vP b1 0),(3,vP b2 0),(5,vI i1)]:=by
 refine uN.partial_correctness p _ fun self ih i1 Parts o N B I0 I Q Arrays1 p1 c p2 c1 b b1 b2 p4 c3 cs1 p9 c8 cs4 raws pN pB cN cB nl bl csB H h4 h h1 hRw hLP hN hBd hg ho hx=>yR hg ho<|zZ<|yF<|yJ [5] [40] rfl<|zI<|yB N ?_ ?_
 · intro hc1 N;refine oT 0 rfl ?_;intro immf lef hlf;have kB:=SL.of_frozen hlf lef hBd;have ⟨h4,h,h1,hN,hRw,hLP⟩:=m6 lef h4 h h1 hN hRw hLP;have H:=H.trans lef;have h14:=hLP.done hN kB;rw [← jS hRw] at h14;have eP:vS p9 raws c8=vS p9 Parts c8:=by simp only [vS,hLP.2.1]
   rw [eP];clear hBd hlf;refine zS<|zX<|yG<|yF<|yH 3 [4] [44,45] rfl<|bE N fun x2 hy4 N=>xS rfl rfl h1 hy4 ?_;intro ad3 ccs4 hat3 hrep2;obtain ⟨p11,c10,p12,c11,rfl,h16,h17⟩:=tD hrep2;refine yH 5 [] [47] rfl<|xL 0 hat3 [vS p11 x2.Nest c10] (vS p11 x2.Nest c10) rfl<|bE N fun y hy5 N=>xV (zB1 x2.Nest _ hy5 h16) ?_;rintro I04 hs2 v2 k2 le4 - ⟨v04,rfl,rfl,h18⟩ -;have ⟨h14,hRw,hLP,hN⟩:=m4 le4 h14 hRw hLP hN;replace kB:=kB.mono le4;have ⟨h4,h,h1,H⟩:=m4 le4 h4 h h1 H;obtain ⟨p13,c12,rfl⟩:=h18.form;refine yH 8 [] [50] rfl<|uF zTwo ?_;intro b5 hb5;refine xQ 0 [vS p13 y c12,z0] rfl<|yE rfl<|zX<|yD [7] rfl<|wB<|qW [(1,vP b 0),(2,vP b1 0),(3,vP b2 0),(5,vI i1),(6,vP b5 0),(7,vI 0)]<|eV zQ fun h19=>?_;obtain ⟨o01,ho01,hMl1⟩:=zC N;refine zAF p i1 0 ([]:List zQ) o01 ho01 iR h18 h14 h4 h h1 h19 (fun _ _ _ h=>hg _ _ _ h) (fun _ _ h=>ho _ _ h) ?_;intro I010 Body1 p15 c14 cs7 heq1 le10 h21;subst o01;have ⟨h18,hRw,hLP,hN⟩:=m4 le10 h18 hRw hLP hN;replace kB:=kB.mono le10;have ⟨h4,h,h1,H⟩:=m4 le10 h4 h h1 H;obtain ⟨l3,hy11,N⟩:=zC hMl1;have hy12:=zJK (l':=raws) (m':=[(⟨vS p13 y c12,vS p15 Body1 c14⟩:Raw2)]) hy11 hLP.2.1 rfl;have h40:RL I010 [vS p13 y c12,vS p15 Body1 c14] [(⟨vS p13 y c12,vS p15 Body1 c14⟩:Raw2)]:=⟨[vS p13 y c12,vS p15 Body1 c14],[],rfl,rfl,⟨rfl,rfl,rfl⟩,rfl⟩;refine zR<|zI<|zL<|oD 3 [4,1] [(78,vS p9 Parts c8),(79,vA [vS p13 y c12,vS p15 Body1 c14])]<|tJ [vS p13 y c12,vS p15 Body1 c14] Raw2 ?_;intro b7 hb7;refine qB (α:=Raw2) 47 2 3 rfl rfl rfl hRw (.inr ⟨0,rfl⟩) h40 hy12 ?_;intro p29 c28 cs11 h41;exact rW (zY [1,3,4,5,6,7] (hs':=[hO zQ (vS p15 Body1 c14) cs7,hO Raw2 (vS p29 (raws ++ [(⟨vS p13 y c12,vS p15 Body1 c14⟩:Raw2)]) c28) cs11,hO zH (vS p4 Arrays1 c3) cs1,hB b2 [vS p4 Arrays1 c3,vS p9 Parts c8],hB b1 zTwo,hB b (cProg p p1 c p2 c1)]))<|yH 6 [] [82] rfl<|xQ 3 [vS p4 Arrays1 c3,vS p29 (raws ++ [(⟨vS p13 y c12,vS p15 Body1 c14⟩:Raw2)]) c28] rfl<|yE rfl<|zO<|zI<|zL<|yJ [] [5] rfl<|yQ<|nO<|ih (W (i1 + 1)) l3 _ N H h4 h h1 h41 (hLP.push hN kB hy11) h18 h21 hg ho hx
 intro hc1 N;have:=zB N;simp only [id] at this;subst this;exact wY<|wA (zW [0,1,2,3,4] rfl (by decide))<|yO<|hx _ _ _ _ _ _ _ _ _ _ _ _ H hRw hLP hN hBd
def zDI (r:zE):KT:=fun kk I' hs' v=>
  ∃ (a0:Option Addr) (c0:Nat) (s0:List Value) (a1:Option Addr) (c1:Nat) (s1:List Value) (raws:List Raw2) (pN pB:Option Addr) (cN cB:Nat) (nl:List zD) (bl:List zQ) (csB:List Value),hs'=[hO zQ (vS pB bl cB) csB,hO Raw2 (vS a1 raws c1) s1,hO zH (vS a0 r.Arrays c0) s0]∧v=tupV [vA [vS a0 r.Arrays c0,vS a1 raws c1]]∧RL I' s0 r.Arrays∧RL I' s1 raws∧LP I' raws r.Parts (vS pN nl cN) nl (vS pB bl cB) bl∧SL I' (vS pN nl cN) nl∧RL I' csB bl
theorem zEl:∀ (p:zE) r,rX p=some r→∀ {I:Imm}{p1 c p2 c1},(S4 I p1 p.Arrays c)→(S4 I p2 p.Parts c1)→RT 94 [vA (cProg p p1 c p2 c1)] I [] (zDI r):=by
 intro p r N I p1 c p2 c1 h h1;unfold rX at N;refine yL Tryz.func94 fun B=>yF<|tX (cProg p p1 c p2 c1) ?_;intro b hb;refine uF zTwo ?_;intro b1 hb1;refine yE rfl<|xG<|yH 1 [] [8] rfl<|uF zTwo ?_;intro b2 hb2;refine zCz 0 zTwo [hB b2 zTwo,hB b1 zTwo,hB b (cProg p p1 c p2 c1)] rfl rfl rfl rfl<|yE rfl<|zX<|yD [4] rfl<|wB<|qW [(1,vP b 0),(2,vP b1 0),(3,vP b2 0),(4,vI 0)]<|eV zH fun h2=>?_;obtain ⟨o0,ho0,hMl⟩:=zC N;refine zAE p 0 ([]:List zH) o0 ho0 iR h h1 h2 (fun _ _ _ h=>h) (fun _ _ h=>h) ?_;intro I03 Arrays1 p4 c3 cs1 heq le3 h4;subst o0;have ⟨h,h1⟩:=m2 le3 h h1;refine zR<|zX<|yD [5] rfl<|wB<|qW [(1,vP b 0),(2,vP b1 0),(3,vP b2 0),(5,vI 0)]<|jR (zBW (Rp.sz Raw2))<|jR (zBW (Rp.sz zQ)) ?_;obtain ⟨o02,ho02,hMl2⟩:=zC hMl;refine zC1 p 0 ([]:List zN) o02 ho02 (raws:=[]) (pN:=none) (pB:=none) (cN:=0) (cB:=0) (nl:=[]) (bl:=[]) iR h4 h h1 RepL.nil LP.nil (SL.nil _) RepL.nil (fun _ _ _ h=>h) (fun _ _ h=>h) ?_;intro I012 p10 c9 cs5 raws1 pN pB cN cB nl bl csB le12 hRw hLP hN hBd;have h4:=iM le12 h4;obtain rfl:=zB hMl2;exact zR<|xG<|oD 1 [3] [(83,vA [vS p4 Arrays1 c3,vS p10 raws1 c9])]<|xQ 4 [vS p4 Arrays1 c3,vS p10 raws1 c9] rfl<|yE rfl<|xB<|xC ⟨_,_,(.cell 4 rfl rfl (by kernel_rfl) ResV.nil),(zW [0,1,2] rfl (by decide)),⟨_,_,_,_,_,_,_,_,_,_,_,_,_,_,rfl,rfl,h4,hRw,hLP,hN,hBd⟩⟩
theorem zK9 {raws:List Raw2}{k:Nat}{r:Raw2} (h:raws[k]?=some r):raws.set k r=raws:=by
  obtain ⟨hk,e⟩:=List.getElem?_eq_some_iff.1 h;subst e;exact List.set_getElem_self hk
theorem zDJ (r0:zM) (p1:zE) (r:zE×zM) (N:qR r0 p1=some r) {y:zE}{y3:zM}{x:zN}{s:zQ} (hy:rX p1=some y) (hy1:yW r0 60=some (3,y3)) (hx:idx y.Parts (W ((y.Parts.length:Int) - 1))=some x) (hs:idx x.Body 0=some s) :
    ∀ {I:Imm}{r01:Nat}{p c p2 c1 p3 c2},(S4 I p r0.b c)→(S4 I p2 p1.Arrays c1)→(S4 I p3 p1.Parts c2)→RT 47 [vP r01 0,vA (cProg p1 p2 c1 p3 c2)] I [hB r01 (cRd r0 p c)] (gR r01 r):=by
 intro I r01 p c p2 c1' p3 c2 h h1 h2
 obtain ⟨i0,i1,i2⟩:=rB hx
 obtain ⟨j0,j1,j2⟩:=rB hs
 have hn:(y.Parts.length:Int) > 0:=by
   have:=(List.getElem?_eq_some_iff.1 i2).1; omega
 have hb:(x.Body.length:Int) > 0:=by
   have:=(List.getElem?_eq_some_iff.1 j2).1; omega
 have e0:((3:Int) == 0)=false:=rfl
 have e1:((3:Int) == 1)=false:=rfl
 have e2:((3:Int) == 2)=false:=rfl
 have e3:((3:Int) == 3)=true:=rfl
 unfold qR at N
 simp only [hy,hy1,e0,e1,e2,e3,hn,hb,hx,hs,decide_true,if_true,Bool.false_eq_true,if_false,Option.pure_def,Option.bind_eq_bind,Option.bind_some] at N
 cases hm1:sE y3 s with
 | none=>rw [hm1] at N; cases N
 | some q1 =>
 obtain ⟨y22,y23⟩:=q1
 simp only [hm1,Option.bind_some] at N
 cases hm2:sE y23 y22 with
 | none=>rw [hm2] at N; cases N
 | some q2 =>
 obtain ⟨y24,y25⟩:=q2
 simp only [hm2,Option.bind_some] at N
 cases hm3:sE y25 y24 with
 | none=>rw [hm3] at N; cases N
 | some q3 =>
 obtain ⟨y26,y27⟩:=q3
 simp only [hm3,Option.bind_some,Option.some.injEq] at N
 subst N
 refine yL Tryz.func47 fun B=>yF<|tX [vS p2 p1.Arrays c1',vS p3 p1.Parts c2] ?_
 intro b hb
 refine uF zTwo ?_
 intro b1 hb1
 refine yE rfl<|xG<|oD 1 [1] [(7,vA [vS p2 p1.Arrays c1',vS p3 p1.Parts c2])]<|xV (zEl p1 _ hy h1 h2) ?_
 rintro I0 hs2 v2 k2 le - ⟨a0,c0,s0,a1,c1,s1,raws,pN,pB,cN,cB,nl,bl,csB,rfl,rfl,h3,hRw,hLP,hN,hBd⟩ -
 have h:=h.mono le
 clear h1 h2
 rw [hLP.len] at hx hn i0 i1 i2
 obtain ⟨rfl,hraw,hset⟩:=hLP.last hx
 simp only at hs hb j0 j1 j2 hm1
 have hset:=hset (vS pN nl cN) nl (vS pB bl cB) (bl.set 0 y26)
 rw [zK9 (rB hraw).2.2] at hset
 refine uF zTwo ?_
 intro b2 hb2
 refine xQ 0 [vS a0 y.Arrays c0,vS a1 raws c1] rfl<|yE rfl<|xG<|yJ [0] [6] rfl<|zX<|yF<|yH 1 [] [12] rfl<|rW (zY [6,1,2,0,3,4] (hs':=[hB r01 (cRd r0 p c),hO zQ (vS pB bl cB) csB,hO Raw2 (vS a1 raws c1) s1,hB b2 [vS a0 y.Arrays c0,vS a1 raws c1],hO zH (vS a0 y.Arrays c0) s0,hB b1 zTwo]))<|sR (xT r0 60 _ hy1 h) rfl ?_
 rintro I01 hs2 v2 k2 le1 - ⟨v0,kk,rfl,rfl,rfl,h6⟩ -
 obtain ⟨v01,rfl,h7⟩:=gQ h6
 obtain ⟨p6,c5,rfl⟩:=h7.form
 clear h6 h
 have h3:=iM le1 h3
 have hRw:=iM le1 hRw
 have hN:=hN.mono le1
 have hBd:=iM le1 hBd
 have hset:=hset.mono le1
 refine yE rfl<|wB<|yD [14] rfl<|zI<|eT rfl<|yD [29] rfl<|zI<|eT rfl<|yD [43] rfl<|zI<|eT rfl<|yD [62] rfl<|zI<|zBU rfl<|yF<|yH 3 [] [66] rfl ?_
 rw [decide_eq_true hn]
 refine yH 7 [3] [68,70] rfl<|kI (α:=Raw2) 2 rfl rfl rfl hRw hraw ?_
 intro ad ccs hat hcc hrep
 obtain ⟨rfl,o1,o2⟩:=hrep
 refine yH 9 [] [72] rfl<|zBZ 2 1 hat hcc [vS pB bl cB] (vS pB bl cB) rfl rfl<|yJ [] [76] rfl ?_
 rw [decide_eq_true hb]
 refine zI<|zBU rfl<|qW [(0,vP r01 0),(4,vP b1 0),(5,vP b2 0),(6,vI (raws.length:Int))]<|wX [.p (vP b2 1) [],.p (vS a1 raws c1) [2],.p (vI (raws.length:Int)) [],.p (vI (W ((raws.length:Int) - 1))) [],.x (fun I' v hx'=>∃ ad,v=.pointer (some ad)∧hx'=[]∧AtO (vS a1 raws c1) 2 (W ((raws.length:Int) - 1)).toNat ad),.x (fun I' v hx'=>∃ ad,v=.pointer (some (ad.add 1))∧hx'=[]∧AtO (vS a1 raws c1) 2 (W ((raws.length:Int) - 1)).toNat ad),.x (fun I' v hx'=>v=vS pB bl cB∧hx'=[]),.p (vP r01 0) [],.p (vP r01 0) [],.p (vP r01 0) [],.p (vP b2 1) [],.p (vS a1 raws c1) [2],.p (vI (raws.length:Int)) [],.p (vI (W ((raws.length:Int) - 1))) [],.x (fun I' v hx'=>∃ ad,v=.pointer (some ad)∧hx'=[]∧AtO (vS a1 raws c1) 2 (W ((raws.length:Int) - 1)).toNat ad),.x (fun I' v hx'=>∃ ad,v=.pointer (some (ad.add 1))∧hx'=[]∧AtO (vS a1 raws c1) 2 (W ((raws.length:Int) - 1)).toNat ad),.x (fun I' v hx'=>v=vS pB bl cB∧hx'=[]),.x (fun I' v hx'=>∃ ad,v=.pointer (some ad)∧hx'=[]∧AtO (vS pB bl cB) 9 0 ad),.x (fun I' v hx'=>∃ cs9,v=.agg ⟨cs9⟩∧hx'=[]∧Rp.rep I' cs9 s),.x (fun I' v hx'=>∃ (cs9 kk:List Value),v=.agg ⟨cs9⟩∧hx'=[hB r01 kk]∧Rp.rep I' cs9 y22∧Rp.rep I' kk y23),.x (fun I' v hx'=>∃ (cs9 kk:List Value),v=.agg ⟨cs9⟩∧hx'=[hB r01 kk]∧Rp.rep I' cs9 y24∧Rp.rep I' kk y25),.x (fun I' v hx'=>∃ (cs9 kk:List Value),v=.agg ⟨cs9⟩∧hx'=[hB r01 kk]∧Rp.rep I' cs9 y26∧Rp.rep I' kk y27)] [[],[(0,false)],[],[(2,false)],[(1,false),(3,false)],[(4,false)],[(5,false)],[],[],[],[],[(10,false)],[],[(12,false)],[(11,false),(13,false)],[(14,false)],[(15,false)],[(16,false)],[(17,false)],[(9,false),(18,false),(24,true)],[(8,false),(19,true)],[(7,false),(20,true)]] [hO zQ (vS pB bl cB) csB,hO Raw2 (vS a1 raws c1) s1,hB b2 [vS a0 y.Arrays c0,vS a1 raws c1],hO zH (vS a0 y.Arrays c0) s0,hB b1 zTwo] [[hB r01 (cRd y3 p6 c5)]] [(6,false),(21,true)] (zY [1,2,3,4,5,0]) ?_ ?_
 · refine Op<|Op<|Op<|Op<|Ox ?_<|Ox ?_<|Ox ?_<|Op<|Op<|Op<|Op<|Op<|Op<|Op<|Ox ?_<|Ox ?_<|Ox ?_<|Ox ?_<|Ox ?_<|Ox ?_<|Ox ?_<|Ox ?_<|On
   · intro I1 hf le1
     refine tY ?_
     rintro _ _ ⟨rfl,rfl⟩
     refine tY ?_
     rintro _ _ ⟨rfl,rfl⟩
     refine mS<|zBs [(78,vS a1 raws c1),(80,vI (W ((raws.length:Int) - 1)))]<|kI (α:=Raw2) 1 rfl rfl rfl (iM le1 hRw) hraw ?_
     intro ad ccs hat hcc hrep
     exact yK [] iR ⟨_,rfl,rfl,hat⟩
   · intro I1 hf le1
     refine tY ?_
     rintro _ _ ⟨ad,rfl,rfl,hat⟩
     exact mS<|zBs [(81,.pointer (some ad))]<|oH 6 [(82,.pointer (some (ad.add 1)))]<|yK [] iR ⟨_,rfl,rfl,hat⟩
   · intro I1 hf le1
     refine tY ?_
     rintro _ _ ⟨ad,rfl,rfl,hat⟩
     refine mS<|zBs [(82,.pointer (some (ad.add 1)))] ?_
     have hrep:=hRw.at (rB hraw).2.2
     obtain ⟨⟨hcc,o1,o2⟩,_⟩:=hrep
     exact zBZ 1 1 hat hcc [vS pB bl cB] (vS pB bl cB) rfl rfl<|xF iR
   · intro I1 hf le1
     refine tY ?_
     rintro _ _ ⟨rfl,rfl⟩
     refine tY ?_
     rintro _ _ ⟨rfl,rfl⟩
     refine mS<|zBs [(88,vS a1 raws c1),(90,vI (W ((raws.length:Int) - 1)))]<|kI (α:=Raw2) 1 rfl rfl rfl (iM le1 hRw) hraw ?_
     intro ad ccs hat hcc hrep
     exact yK [] iR ⟨_,rfl,rfl,hat⟩
   · intro I1 hf le1
     refine tY ?_
     rintro _ _ ⟨ad,rfl,rfl,hat⟩
     exact mS<|zBs [(91,.pointer (some ad))]<|oH 16 [(92,.pointer (some (ad.add 1)))]<|yK [] iR ⟨_,rfl,rfl,hat⟩
   · intro I1 hf le1
     refine tY ?_
     rintro _ _ ⟨ad,rfl,rfl,hat⟩
     refine mS<|zBs [(92,.pointer (some (ad.add 1)))] ?_
     have hrep:=hRw.at (rB hraw).2.2
     obtain ⟨⟨hcc,o1,o2⟩,_⟩:=hrep
     exact zBZ 1 1 hat hcc [vS pB bl cB] (vS pB bl cB) rfl rfl<|xF iR
   · intro I1 hf le1
     refine tY ?_
     rintro _ _ ⟨rfl,rfl⟩
     refine mS<|zBs [(93,vS pB bl cB)]<|kI (α:=zQ) 0 rfl rfl rfl (iM le1 hBd) hs ?_
     intro ad ccs hat hcc hrep
     exact yK [] iR ⟨_,rfl,rfl,hat⟩
   · intro I1 hf le1
     refine tY ?_
     rintro _ _ ⟨ad,rfl,rfl,hat⟩
     refine mS<|zBs [(94,.pointer (some ad))] ?_
     obtain ⟨hrep,_⟩:=(iM le1 hBd).at j2
     generalize hcc:(csB.drop (Int.toNat 0 * Rp.sz zQ)).take (Rp.sz zQ)=cc at hrep
     obtain ⟨w0,w1,w2,w3,rfl,e10,e11,e12,e13⟩:=nJ hrep
     obtain ⟨p10,c10,rfl⟩:=e10.form
     obtain ⟨p11,c11,rfl⟩:=e11.form
     obtain ⟨p12,c12,rfl⟩:=e12.form
     obtain ⟨p13,c13,rfl⟩:=e13.form
     exact zBZ 0 0 hat hcc (cStmt s p10 c10 p11 c11 p12 c12 p13 c13) (vA (cStmt s p10 c10 p11 c11 p12 c12 p13 c13)) rfl rfl<|yK [] iR ⟨_,rfl,rfl,wZ ⟨_,_,_,_,rfl,e10,e11,e12,e13⟩⟩
   · intro I1 hf le1
     refine tY ?_
     rintro _ _ ⟨rfl,rfl⟩
     refine tY ?_
     rintro _ _ ⟨cs9,rfl,rfl,h9⟩
     refine tY ?_
     rintro _ _ rfl
     obtain ⟨w0,w1,w2,w3,rfl,e10,e11,e12,e13⟩:=nJ h9
     obtain ⟨p10,c10,rfl⟩:=e10.form
     obtain ⟨p11,c11,rfl⟩:=e11.form
     obtain ⟨p12,c12,rfl⟩:=e12.form
     obtain ⟨p13,c13,rfl⟩:=e13.form
     refine mS<|zBs [(86,vP r01 0),(95,vA (cStmt s p10 c10 p11 c11 p12 c12 p13 c13))]<|sR (fO y3 s _ hm1 (h7.mono le1) e10 e11 e12 e13) rfl ?_
     rintro I02 hs2 v2 k2 le2 - ⟨v0,kk2,rfl,rfl,⟨cs2,rfl,h10⟩,h11⟩ -
     exact yK [hB r01 kk2] le2 ⟨_,_,rfl,rfl,h10,h11⟩
   · intro I1 hf le1
     refine tY ?_
     rintro _ _ ⟨rfl,rfl⟩
     refine tY ?_
     rintro _ _ ⟨cs9,kk,rfl,rfl,h9,hk⟩
     obtain ⟨w0,w1,w2,w3,rfl,e10,e11,e12,e13⟩:=nJ h9
     obtain ⟨p10,c10,rfl⟩:=e10.form
     obtain ⟨p11,c11,rfl⟩:=e11.form
     obtain ⟨p12,c12,rfl⟩:=e12.form
     obtain ⟨p13,c13,rfl⟩:=e13.form
     obtain ⟨w4,rfl,hsl⟩:=gQ hk
     obtain ⟨p8,c8,rfl⟩:=hsl.form
     refine mS<|zBs [(85,vP r01 0),(96,vA (cStmt y22 p10 c10 p11 c11 p12 c12 p13 c13))]<|sR (fO y23 y22 _ hm2 (hsl) e10 e11 e12 e13) rfl ?_
     rintro I02 hs2 v2 k2 le2 - ⟨v0,kk2,rfl,rfl,⟨cs2,rfl,h10⟩,h11⟩ -
     exact yK [hB r01 kk2] le2 ⟨_,_,rfl,rfl,h10,h11⟩
   intro I1 hf le1
   refine tY ?_
   rintro _ _ ⟨rfl,rfl⟩
   refine tY ?_
   rintro _ _ ⟨cs9,kk,rfl,rfl,h9,hk⟩
   obtain ⟨w0,w1,w2,w3,rfl,e10,e11,e12,e13⟩:=nJ h9
   obtain ⟨p10,c10,rfl⟩:=e10.form
   obtain ⟨p11,c11,rfl⟩:=e11.form
   obtain ⟨p12,c12,rfl⟩:=e12.form
   obtain ⟨p13,c13,rfl⟩:=e13.form
   obtain ⟨w4,rfl,hsl⟩:=gQ hk
   obtain ⟨p8,c8,rfl⟩:=hsl.form
   refine mS<|zBs [(84,vP r01 0),(97,vA (cStmt y24 p10 c10 p11 c11 p12 c12 p13 c13))]<|sR (fO y25 y24 _ hm3 (hsl) e10 e11 e12 e13) rfl ?_
   rintro I02 hs2 v2 k2 le2 - ⟨v0,kk2,rfl,rfl,⟨cs2,rfl,h10⟩,h11⟩ -
   exact yK [hB r01 kk2] le2 ⟨_,_,rfl,rfl,h10,h11⟩
 intro I5 le5
 refine tY ?_
 rintro _ _ ⟨rfl,rfl⟩
 refine tY ?_
 rintro _ _ ⟨cs9,kk,rfl,rfl,h9,hk⟩
 obtain ⟨w0,w1,w2,w3,rfl,e10,e11,e12,e13⟩:=nJ h9
 obtain ⟨p10,c10,rfl⟩:=e10.form
 obtain ⟨p11,c11,rfl⟩:=e11.form
 obtain ⟨p12,c12,rfl⟩:=e12.form
 obtain ⟨p13,c13,rfl⟩:=e13.form
 have h3:=iM le5 h3
 have hRw:=iM le5 hRw
 have hN:=hN.mono le5
 have hBd:=iM le5 hBd
 have hset:=hset.mono le5
 refine mS<|zBs [(4,vP b1 0),(5,vP b2 0),(83,vS pB bl cB),(98,vA (cStmt y26 p10 c10 p11 c11 p12 c12 p13 c13))]<|kI (α:=zQ) 1 rfl rfl rfl hBd hs ?_
 intro ad ccs hat hcc hrep
 obtain ⟨w0,w1,w2,w3,rfl,e20,e21,e22,e23⟩:=nJ hrep
 obtain ⟨p20,c20,rfl⟩:=e20.form
 obtain ⟨p21,c21,rfl⟩:=e21.form
 obtain ⟨p22,c22,rfl⟩:=e22.form
 obtain ⟨p23,c23,rfl⟩:=e23.form
 refine oJ (c:=(cStmt y26 p10 c10 p11 c11 p12 c12 p13 c13)) (x':=y26) 1 0 rfl rfl rfl hat rfl rfl hcc (by kernel_rfl) (by kernel_rfl) (by kernel_rfl) hBd hs (by kernel_rfl) (wZ ⟨_,_,_,_,rfl,e10,e11,e12,e13⟩) ?_
 intro cs7 h7' hlen
 refine uG (hs':=[hB r01 kk,hO zQ (vS pB bl cB) cs7,hO Raw2 (vS a1 raws c1) s1,hB b2 [vS a0 y.Arrays c0,vS a1 raws c1],hO zH (vS a0 y.Arrays c0) s0,hB b1 zTwo]) rfl<|xM 1 rfl ?_
 intro I6 le6 hl6
 have eB:vS pB bl cB=vS pB (bl.set 0 y26) cB:=by simp [vS]
 have kB:SL I6 (vS pB (bl.set 0 y26) cB) (bl.set 0 y26):=by
   rw [← eB]
   exact SL.of_frozen (l:=bl.set 0 y26) hl6 le6 h7'
 rw [eB] at hset
 have hdone:=(hset.mono le6).done (hN.mono le6) kB
 have eS:=jS hRw
 rw [← eS] at hdone
 have h3:=iM le6 h3
 have hk:=Rp.mono le6 hk
 have eP:vS a1 raws c1=vS a1 (y.Parts.set (W ((raws.length:Int) - 1)).toNat ⟨nl,bl.set 0 y26⟩) c1:=by simp only [vS,List.length_set,hLP.2.1]
 refine uG (hs':=[hB r01 kk,hO Raw2 (vS a1 raws c1) s1,hB b2 [vS a0 y.Arrays c0,vS a1 raws c1],hO zH (vS a0 y.Arrays c0) s0,hB b1 zTwo]) rfl<|yE rfl<|zO<|xG<|oD 1 [2] [(110,vA [vS a0 y.Arrays c0,vS a1 raws c1])]<|xQ 4 [vS a0 y.Arrays c0,vS a1 raws c1] rfl<|yE rfl<|xB<|xA 1 rfl ?_
 intro I7 le7 hl7
 have k1:SL I7 (vS a1 raws c1) (y.Parts.set (W ((raws.length:Int) - 1)).toNat ⟨nl,bl.set 0 y26⟩):=SL.of_frozen (l:=y.Parts.set (W ((raws.length:Int) - 1)).toNat ⟨nl,bl.set 0 y26⟩) hl7 le7 hdone
 refine xA 2 rfl ?_
 intro I8 le8 hl8
 have k2:=SL.of_frozen hl8 le8 (iM le7 h3)
 rw [hLP.len]
 exact xC ⟨_,_,(.cell 2 rfl rfl (by kernel_rfl) ResV.nil),(zW [0] rfl (by decide)),⟨_,_,rfl,rfl,⟨_,rfl,(nY ⟨_,_,rfl,k2,k1.mono le8⟩)⟩,Rp.mono le8 (Rp.mono le7 hk)⟩⟩
theorem zED:∀ r0 p1 r,qR r0 p1=some r→∀ {I:Imm}{r01:Nat}{p c p2 c1 p3 c2},(S4 I p r0.b c)→(S4 I p2 p1.Arrays c1)→(S4 I p3 p1.Parts c2)→RT 47 [vP r01 0,vA (cProg p1 p2 c1 p3 c2)] I [hB r01 (cRd r0 p c)] (gR r01 r):=by
 intro r0 p1 r N I r01 p c p2 c1 p3 c2 h h1 h2;by_cases hq:∃ y y3 x s,rX p1=some y∧yW r0 60=some (3,y3)∧idx y.Parts (W ((y.Parts.length:Int) - 1))=some x∧idx x.Body 0=some s
 · obtain ⟨y,y3,x,s,e1,e2,e3,e4⟩:=hq;exact zDJ r0 p1 r N e1 e2 e3 e4 h h1 h2
 refine zDH r0 p1 r N h h1 h2 ?_;intro y y2 y3 x s e1 e2 e3 e4 e5;obtain rfl:=eq_of_beq e3;exact hq ⟨y,y3,x,s,e1,e2,e4,e5⟩
def zT (r:Bool):KT:=fun kk I' hs' v=>
  ∃ v0,hs'=[]∧v=tupV [v0]∧v0=.bool r
def vC (x:zH) (k0:Int):Option (Out Unit (Bool)):=do
 if (decide (k0 < (x.Dims.length:Int))) then
  let t77←(do
    let x2←idx x.Dims k0
    if (decide (x2 < 1)) then
     pure true
    else
     let x3←idx x.Dims k0
     pure (decide (x3 > 6))
      : Option Bool)
  if t77 then
   pure (.ret false)
  else
   vC x (W (k0 + 1))
 else
  pure (.done ())
 partial_fixpoint
theorem zBw (x:zH):∀ (k0:Int) (o:Out Unit (Bool)),vC x k0=some o→∀ {B}{I0 I:Imm}{Q}{list:(List zH)}{i:Int}{p c p1 c1}{b:Nat},I0.le I→(S4 I p list c)→(S4 I p1 x.Dims c1)→NG Q→NO Q→(∀ (I':Imm) ,o=(.done ())→I0.le I'→T 81 B Q (.exit 2) I' [] [(0,vS p list c),(3,vI i)])→(∀ r I' hs' m',o=(.ret r)→I0.le I'→RS Tryz.prog Tryz.f113 B (zT  r) I' hs' m'→T 81 B Q .ret I' hs' m')→J Tryz.prog 81 B (nav (bodyOf Tryz.f113) [1,0,1,0,0,1,0,0,1,1,1,0]) Q I [hB b (cArr x p1 c1)] [(0,vS p list c),(3,vI i),(4,vP b 0),(5,vI k0)]:=by
 refine vC.partial_correctness x _ fun self ih k0 o N B I0 I Q list i p c p1 c1 b H h h1 hg ho hx hr=>yR hg ho<|zZ<|yF<|yJ [0] [61] rfl<|zI<|yB N ?_ ?_
 · intro hc9 N;refine zS<|zX<|yG<|zZ ?_;refine wP N [hB b (cArr x p1 c1)] (fun t77=>[(0,vS p list c),(3,vI i),(4,vP b 0),(5,vI k0),(77,.bool t77)]) (fun o01 ho01=>?_) ?_
   · have H:=iS I;refine zL<|yH 3 [0] [65,66] rfl ?_;obtain ⟨x2,hy2,N⟩:=zC ho01;refine xS rfl rfl h1 hy2 ?_;intro ad2 ccs2 hat2 hrep2;obtain rfl:=hrep2;refine xL 0 hat2 [vI x2] (vI x2) rfl<|yH 7 [] [70] rfl<|xZ [70] N ?_ ?_
     · intro hc10 N;exact vG [] [(77,vY)]<|yO<|zV (ct N H)
     intro hc10 N;refine yH 10 [0] [72,73] rfl<|bE N fun x3 hy3 N=>xS rfl rfl h1 hy3 ?_;intro ad3 ccs3 hat3 hrep3;obtain rfl:=hrep3;exact xL 0 hat3 [vI x3] (vI x3) rfl<|yJ [] [77] rfl<|yO<|zV (ct N H)
   intro t77 I01 le1 hMc1;have ⟨h,h1,H⟩:=m3 le1 h h1 H;refine zI<|yB hMc1 ?_ ?_
   · intro hc11 N;exact wV [(2,vF)]<|xB<|zU<|zF<|zF<|hr _ _ _ _ (zB N).symm H ⟨_,_,(.tmp rfl ResV.nil),zP,⟨_,rfl,rfl,rfl⟩⟩
   intro hc11 N;exact zS<|zO<|zI<|zL<|yJ [] [5] rfl<|yQ<|nO<|ih (W (k0 + 1)) _ N H h h1 hg ho hx hr
 intro hc9 N;exact wY<|wA zP<|yO<|hx _  (zB N).symm H
def uA (list:(List zH)) (i:Int):Option (Out Unit (Bool)):=do
 if (decide (i < (list.length:Int))) then
  let x←idx list i
  let t56←(do
    if ((x.Name.l.length:Int) != 1) then
     pure true
    else
     if (Op.bytesLess x.Name.l ([65]:List UInt8)) then
      pure true
     else
      if (!(Op.bytesLess x.Name.l ([68]:List UInt8) || x.Name.l == ([68]:List UInt8))) then
       pure true
      else
       if (decide (i > 0)) then
        let x1←idx list (W (i - 1))
        if (!(Op.bytesLess x1.Name.l x.Name.l)) then
         pure true
        else
         if (decide ((x.Dims.length:Int) < 1)) then
          pure true
         else
          pure (decide ((x.Dims.length:Int) > 2))
       else
        if (decide ((x.Dims.length:Int) < 1)) then
         pure true
        else
         pure (decide ((x.Dims.length:Int) > 2))
      : Option Bool)
  if t56 then
   pure (.ret false)
  else
   match←vC x 0 with
   | .ret r0=>pure (.ret r0)
   | .done _ =>
    uA list (W (i + 1))
 else
  pure (.done ())
 partial_fixpoint
theorem zBx (list:(List zH)):∀ (i:Int) (o:Out Unit (Bool)),uA list i=some o→∀ {B}{I0 I:Imm}{Q p c},I0.le I→(S4 I p list c)→NG Q→NO Q→(∀ (I':Imm) ,o=(.done ())→I0.le I'→T 81 B Q (.exit 0) I' [] [(0,vS p list c)])→(∀ r I' hs' m',o=(.ret r)→I0.le I'→RS Tryz.prog Tryz.f113 B (zT  r) I' hs' m'→T 81 B Q .ret I' hs' m')→J Tryz.prog 81 B (nav (bodyOf Tryz.f113) [1,0,1,0]) Q I [] [(0,vS p list c),(3,vI i)]:=by
 refine uA.partial_correctness list _ fun self ih i o N B I0 I Q p c H h hg ho hx hr=>yR hg ho<|zZ<|yD [9] rfl<|zI<|yB N ?_ ?_
 · intro hc N;refine zS<|zX<|yG<|yF<|yH 2 [] [12,13] rfl<|bE N fun x hy N=>xS rfl rfl h hy ?_;intro ad ccs hat hrep;obtain ⟨p1,c1,rfl,h1⟩:=vZ hrep;refine xL 0 hat (cArr x p1 c1) (vA (cArr x p1 c1)) rfl<|uF [vT ([]),z0] ?_;intro b hb;refine xQ 0 (cArr x p1 c1) rfl<|yE rfl<|zX<|zZ ?_;refine wP N [hB b (cArr x p1 c1)] (fun t56=>[(0,vS p list c),(3,vI i),(4,vP b 0),(56,.bool t56)]) (fun o0 ho0=>?_) ?_
   · have H:=iS I;refine nH (by kernel_rfl) (by kernel_rfl)<|jY 5 [0] [20] rfl<|zF9 [20] ho0 ?_ ?_
     · intro hc1 N;exact zIj [] [(56,vY)]<|yO<|zV (ct N H)
     intro hc1 N;refine jY 10 [0] [25] rfl<|zF9 [25] N ?_ ?_
     · intro hc2 N;exact zIj [] [(56,vY)]<|yO<|zV (ct N H)
     intro hc2 N;refine jY 15 [0] [30] rfl<|zF9 [30] N ?_ ?_
     · intro hc3 N;exact zIj [] [(56,vY)]<|yO<|zV (ct N H)
     intro hc3 N;refine jY 18 [] [33] rfl<|zF9 [33] N ?_ ?_
     · intro hc4 N;refine jY 21 [] [34,36] rfl<|bE N fun x1 hy1 N=>gW rfl rfl h hy1 ?_;intro ad1 ccs1 hat1 hrep1;obtain ⟨p2,c2,rfl,h2⟩:=vZ hrep1;refine jY 23 [] [38] rfl<|jX 0 hat1 [vT x1.Name.l] (vT x1.Name.l) rfl<|jY 30 [0] [45] rfl<|zF9 [45] N ?_ ?_
       · intro hc5 N;exact zIj [] [(56,vY)]<|yO<|zV (ct N H)
       intro hc5 N;refine jY 36 [0] [51] rfl<|zF9 [51] N ?_ ?_
       · intro hc6 N;exact zIj [] [(56,vY)]<|yO<|zV (ct N H)
       intro hc6 N;exact zEi [0] [56] rfl<|yO<|zV (ct N H)
     intro hc4 N;refine jY 36 [0] [51] rfl<|zF9 [51] N ?_ ?_
     · intro hc7 N;exact zIj [] [(56,vY)]<|yO<|zV (ct N H)
     intro hc7 N;exact zEi [0] [56] rfl<|yO<|zV (ct N H)
   intro t56 I0 le hMc;have ⟨h,h1,H⟩:=m3 le h h1 H;refine zI<|yB hMc ?_ ?_
   · intro hc8 N;exact wV [(2,vF)]<|xB<|zF<|zU<|zF<|zF<|hr _ _ _ _ (zB N).symm H ⟨_,_,(.tmp rfl ResV.nil),zP,⟨_,rfl,rfl,rfl⟩⟩
   intro hc8 N;refine zS<|wW [5] rfl<|wB<|qW [(0,vS p list c),(3,vI i),(4,vP b 0),(5,vI 0)] ?_;obtain ⟨o02,ho02,hMl⟩:=zC N;refine zBw x 0 o02 ho02 iR h h1 (fun _ _ _ h=>hg _ _ _ h) (fun _ _ h=>ho _ _ h) ?_ ?_
   · intro I02  heq2 le2;subst o02;have ⟨h,H⟩:=m2 le2 h H;exact zR<|zO<|zI<|zL<|yJ [] [3] rfl<|yQ<|nO<|ih (W (i + 1)) _ hMl H h hg ho hx hr
   intro r0 I9 hs9 m9 heq9 le9 hrs9;subst heq9;exact zU<|zU<|zF<|zF<|hr _ _ _ _ (zB hMl).symm (H.trans le9) hrs9
 intro hc N;exact wY<|yO<|hx _  (zB N).symm H
def oM (list:(List zH)):Option (Bool):=do
 match←uA list 0 with
 | .ret r0=>pure r0
 | .done _ =>
  pure (decide ((list.length:Int) ≤ 4))
theorem zEE:∀ list r,oM list=some r→∀ {I:Imm}{p c},(S4 I p list c)→RT 113 [vS p list c] I [] (zT  r):=by
 intro list r N I p c h;unfold oM at N;refine yL Tryz.func113 fun B=>wV []<|zX<|yD [3] rfl<|wB<|qW [(0,vS p list c),(3,vI 0)] ?_;obtain ⟨o03,ho03,hMl1⟩:=zC N;refine zBx list 0 o03 ho03 iR h (fun _ _ _ h=>h) (fun _ _ h=>h) ?_ ?_
 · intro I03  heq3 le3;subst o03;refine zR<|wW [2] rfl<|zI<|yZ ?_;obtain rfl:=zB hMl1;exact wL
 intro r0 I9 hs9 m9 heq9 le9 hrs9;subst heq9;refine zU<|zF ?_;obtain rfl:=zB hMl1;exact xC hrs9
def yP (r:Int):KT:=fun kk I' hs' v=>
  ∃ v0,hs'=[]∧v=tupV [v0]∧v0=.int .i64 r
def tK (a0:zA) (point:(List Int)) (n0:Int) (i:Int):Option (Int):=do
 let t19←(do
   if (decide (i < (point.length:Int))) then
    pure (decide (i < (a0.Coefs.length:Int)))
   else
    pure false
     : Option Bool)
 if t19 then
  let x←idx a0.Coefs i
  let x1←idx point i
  tK a0 point (W (n0 + (W (x * x1)))) (W (i + 1))
 else
  pure (id n0)
 partial_fixpoint
theorem zDK (a0:zA) (point:(List Int)):∀ (n0:Int) (i:Int) (o:Int),tK a0 point n0 i=some o→∀ {B}{I0 I:Imm}{Q p c p1 c1}{b:Nat},I0.le I→(S4 I p1 point c1)→(S4 I p a0.Coefs c)→NG Q→NO Q→(∀ (I':Imm) (n01:Int),o=n01→I0.le I'→T 35 B Q (.exit 0) I' [] [(5,vI n01)])→J Tryz.prog 35 B (nav (bodyOf Tryz.f214) [1,1,0,1,0]) Q I [hB b (cAff a0 p c)] [(1,vS p1 point c1),(2,vP b 0),(5,vI n0),(6,vI i)]:=by
 refine tK.partial_correctness a0 point _ fun self ih n0 i o N B I0 I Q p c p1 c1 b H h1 h hg ho hx=>yR hg ho<|zZ<|zZ ?_;refine wP N [hB b (cAff a0 p c)] (fun t19=>[(1,vS p1 point c1),(2,vP b 0),(5,vI n0),(6,vI i),(19,.bool t19)]) (fun o0 ho0=>?_) ?_
 · have H:=iS I;refine zL<|yH 5 [] [13] rfl<|xZ [13] ho0 ?_ ?_
   · intro hc N;exact yJ [0] [19] rfl<|yO<|zV (ct N H)
   intro hc N;exact vG [] [(19,vF)]<|yO<|zV (ct N H)
 intro t19 I0 le hMc;have ⟨h1,h,H⟩:=m3 le h1 h H;refine zI<|yB hMc ?_ ?_
 · intro hc1 N;refine zS<|zX<|yG<|nH (by kernel_rfl) (by kernel_rfl)<|jY 4 [0] [22,24,25] rfl<|bE N fun x hy N=>gW rfl rfl h hy ?_;intro ad ccs hat hrep;obtain rfl:=hrep;refine jX 0 hat [vI x] (vI x) rfl<|jY 8 [] [28,29] rfl<|bE N fun x1 hy1 N=>gW rfl rfl h1 hy1 ?_;intro ad1 ccs1 hat1 hrep1;obtain rfl:=hrep1;exact jX 0 hat1 [vI x1] (vI x1) rfl<|zEi [] [5] rfl<|zO<|zI<|zL<|yJ [] [6] rfl<|yQ<|nO<|ih (W (n0 + (W (x * x1)))) (W (i + 1)) _ N H h1 h hg ho hx
 intro hc1 N;exact wY<|wA zP<|yO<|hx _ _ (zB N).symm H
def rD (a0:zA) (point:(List Int)):Option (Int):=do
 let n01←tK a0 point a0.Const 0
 pure (id n01)
theorem jG:∀ a0 point r,rD a0 point=some r→∀ {I:Imm}{p c p1 c1},(S4 I p a0.Coefs c)→(S4 I p1 point c1)→RT 214 [vA (cAff a0 p c),vS p1 point c1] I [] (yP  r):=by
 intro a0 point r N I p c p1 c1 h h1;unfold rD at N;refine yL Tryz.func214 fun B=>yF<|tX (cAff a0 p c) ?_;intro b hb;refine vG [] []<|xG<|yJ [0] [5] rfl<|zX<|yD [6] rfl<|wB<|qW [(1,vS p1 point c1),(2,vP b 0),(5,vI a0.Const),(6,vI 0)] ?_;obtain ⟨o01,ho01,hMl⟩:=zC N;refine zDK a0 point a0.Const 0 o01 ho01 iR h1 h (fun _ _ _ h=>h) (fun _ _ h=>h) ?_;intro I01 n01 heq1 le1;subst o01;refine zR<|wW [4] rfl<|zI<|yZ ?_;obtain rfl:=zB hMl;exact wL
def gX (r:Int×Int):KT:=fun kk I' hs' v=>
  ∃ v0 v1,hs'=[]∧v=tupV [v0,v1]∧v0=.int .i64 r.1∧v1=.int .i64 r.2
def uU (loop:zD) (p2:(List Int)) (lo:Int) (i:Int):Option (Int):=do
 if (decide (i < (loop.Lo.length:Int))) then
  let x2←idx loop.Lo i
  let y2←rD x2 p2
  let lo2←(do
    if (decide (y2 > lo)) then
     pure (id y2)
    else
     pure (id lo)
      : Option Int)
  uU loop p2 lo2 (W (i + 1))
 else
  pure (id lo)
 partial_fixpoint
theorem zC2 (loop:zD) (p2:(List Int)):∀ (lo:Int) (i:Int) (o:Int),uU loop p2 lo i=some o→∀ {B}{I0 I:Imm}{Q}{y1:Int}{p c p1 c1 p3 c2}{b:Nat},I0.le I→(S4 I p3 p2 c2)→(S4 I p loop.Lo c)→(S4 I p1 loop.Hi c1)→NG Q→NO Q→(∀ (I':Imm) (lo1:Int),o=lo1→I0.le I'→T 62 B Q (.exit 0) I' [hB b (cLoop loop p c p1 c1)] [(1,vS p3 p2 c2),(2,vP b 0),(6,vI lo1),(7,vI y1)])→J Tryz.prog 62 B (nav (bodyOf Tryz.f169) [1,1,1,0,1,0]) Q I [hB b (cLoop loop p c p1 c1)] [(1,vS p3 p2 c2),(2,vP b 0),(6,vI lo),(7,vI y1),(8,vI i)]:=by
 refine uU.partial_correctness loop p2 _ fun self ih lo i o N B I0 I Q y1 p c p1 c1 p3 c2 b H h2 h h1 hg ho hx=>yR hg ho<|zZ<|yF<|yJ [0] [28] rfl<|zI<|yB N ?_ ?_
 · intro hc N;refine zS<|zX<|yG<|yF<|yH 3 [0] [32,33] rfl<|bE N fun x2 hy4 N=>xS rfl rfl h hy4 ?_;intro ad2 ccs2 hat2 hrep2;obtain ⟨p6,c5,rfl,h7⟩:=yN hrep2;refine xL 0 hat2 (cAff x2 p6 c5) (vA (cAff x2 p6 c5)) rfl<|yH 6 [] [36] rfl<|bE N fun y2 hy5 N=>jD (jG x2 p2 _ hy5 h7 h2) ?_;intro I02 le2;have ⟨h2,h,h1,H⟩:=m4 le2 h2 h h1 H;refine yJ [] [9] rfl<|wW [40] rfl<|zI ?_;refine wP N [hB b (cLoop loop p c p1 c1)] (fun lo2=>[(1,vS p3 p2 c2),(2,vP b 0),(6,vI lo2),(7,vI y1),(8,vI i)]) (fun o0 ho0=>?_) ?_
   · have H:=iS I02;refine yB ho0 ?_ ?_
     · intro hc1 N;exact zL<|yJ [] [6] rfl<|yO<|zV (ct N H)
     intro hc1 N;exact zS<|yO<|zV (ct N H)
   intro lo2 I03 le3 hMc;have ⟨h2,h,h1,H⟩:=m4 le3 h2 h h1 H;exact zO<|zI<|zL<|yJ [] [8] rfl<|yQ<|nO<|ih lo2 (W (i + 1)) _ hMc H h2 h h1 hg ho hx
 intro hc N;exact wY<|yO<|hx _ _ (zB N).symm H
def uV (loop:zD) (p2:(List Int)) (hi:Int) (i1:Int):Option (Int):=do
 if (decide (i1 < (loop.Hi.length:Int))) then
  let x3←idx loop.Hi i1
  let y3←rD x3 p2
  let hi2←(do
    if (decide (y3 < hi)) then
     pure (id y3)
    else
     pure (id hi)
      : Option Int)
  uV loop p2 hi2 (W (i1 + 1))
 else
  pure (id hi)
 partial_fixpoint
theorem zC3 (loop:zD) (p2:(List Int)):∀ (hi:Int) (i1:Int) (o:Int),uV loop p2 hi i1=some o→∀ {B}{I0 I:Imm}{Q}{lo1:Int}{p c p1 c1 p3 c2}{b:Nat},I0.le I→(S4 I p3 p2 c2)→(S4 I p loop.Lo c)→(S4 I p1 loop.Hi c1)→NG Q→NO Q→(∀ (I':Imm) (hi1:Int),o=hi1→I0.le I'→T 62 B Q (.exit 2) I' [] [(6,vI lo1),(7,vI hi1)])→J Tryz.prog 62 B (nav (bodyOf Tryz.f169) [1,1,1,1,0,1,0]) Q I [hB b (cLoop loop p c p1 c1)] [(1,vS p3 p2 c2),(2,vP b 0),(6,vI lo1),(7,vI hi),(10,vI i1)]:=by
 refine uV.partial_correctness loop p2 _ fun self ih hi i1 o N B I0 I Q lo1 p c p1 c1 p3 c2 b H h2 h h1 hg ho hx=>yR hg ho<|zZ<|yF<|yJ [0] [46] rfl<|zI<|yB N ?_ ?_
 · intro hc2 N;refine zS<|zX<|yG<|yF<|yH 3 [0] [50,51] rfl<|bE N fun x3 hy6 N=>xS rfl rfl h1 hy6 ?_;intro ad3 ccs3 hat3 hrep3;obtain ⟨p7,c6,rfl,h9⟩:=yN hrep3;refine xL 0 hat3 (cAff x3 p7 c6) (vA (cAff x3 p7 c6)) rfl<|yH 6 [] [54] rfl<|bE N fun y3 hy7 N=>jD (jG x3 p2 _ hy7 h9 h2) ?_;intro I05 le5;have ⟨h2,h,h1,H⟩:=m4 le5 h2 h h1 H;refine yJ [] [11] rfl<|wW [58] rfl<|zI ?_;refine wP N [hB b (cLoop loop p c p1 c1)] (fun hi2=>[(1,vS p3 p2 c2),(2,vP b 0),(6,vI lo1),(7,vI hi2),(10,vI i1)]) (fun o02 ho02=>?_) ?_
   · have H:=iS I05;refine yB ho02 ?_ ?_
     · intro hc3 N;exact zL<|yJ [] [7] rfl<|yO<|zV (ct N H)
     intro hc3 N;exact zS<|yO<|zV (ct N H)
   intro hi2 I06 le6 hMc1;have ⟨h2,h,h1,H⟩:=m4 le6 h2 h h1 H;exact zO<|zI<|zL<|yJ [] [10] rfl<|yQ<|nO<|ih hi2 (W (i1 + 1)) _ hMc1 H h2 h h1 hg ho hx
 intro hc2 N;exact wY<|wA zP<|yO<|hx _ _ (zB N).symm H
def oF (loop:zD) (p2:(List Int)):Option (Int×Int):=do
 let x←idx loop.Lo 0
 let y←rD x p2
 let x1←idx loop.Hi 0
 let y1←rD x1 p2
 let lo1←uU loop p2 y 1
 let hi1←uV loop p2 y1 1
 pure (lo1,hi1)
theorem zBI:∀ loop p2 r,oF loop p2=some r→∀ {I:Imm}{p c p1 c1 p3 c2},(S4 I p loop.Lo c)→(S4 I p1 loop.Hi c1)→(S4 I p3 p2 c2)→RT 169 [vA (cLoop loop p c p1 c1),vS p3 p2 c2] I [] (gX  r):=by
 intro loop p2 r N I p c p1 c1 p3 c2 h h1 h2;unfold oF at N;refine yL Tryz.func169 fun B=>yF<|tX (cLoop loop p c p1 c1) ?_;intro b hb;refine vG [] []<|xG<|yH 2 [0] [13] rfl<|bE N fun x hy N=>xS rfl rfl h hy ?_;intro ad ccs hat hrep;obtain ⟨p4,c3,rfl,h3⟩:=yN hrep;refine xL 0 hat (cAff x p4 c3) (vA (cAff x p4 c3)) rfl<|yH 5 [] [16] rfl<|bE N fun y hy1 N=>jD (jG x p2 _ hy1 h3 h2) ?_;intro I0 le;have ⟨h2,h,h1⟩:=m3 le h2 h h1;refine yJ [] [6] rfl<|xG<|yH 2 [0] [19] rfl<|bE N fun x1 hy2 N=>xS rfl rfl h1 hy2 ?_;intro ad1 ccs1 hat1 hrep1;obtain ⟨p5,c4,rfl,h5⟩:=yN hrep1;refine xL 0 hat1 (cAff x1 p5 c4) (vA (cAff x1 p5 c4)) rfl<|yH 5 [] [22] rfl<|bE N fun y1 hy3 N=>jD (jG x1 p2 _ hy3 h5 h2) ?_;intro I01 le1;have ⟨h2,h,h1⟩:=m3 le1 h2 h h1;refine yJ [] [7] rfl<|zX<|yD [8] rfl<|wB<|qW [(1,vS p3 p2 c2),(2,vP b 0),(6,vI y),(7,vI y1),(8,vI 1)] ?_;obtain ⟨o01,ho01,hMl⟩:=zC N;refine zC2 loop p2 y 1 o01 ho01 iR h2 h h1 (fun _ _ _ h=>h) (fun _ _ h=>h) ?_;intro I04 lo1 heq1 le4;subst o01;have ⟨h2,h,h1⟩:=m3 le4 h2 h h1;refine zR<|zX<|yD [10] rfl<|wB<|qW [(1,vS p3 p2 c2),(2,vP b 0),(6,vI lo1),(7,vI y1),(10,vI 1)] ?_;obtain ⟨o03,ho03,hMl1⟩:=zC hMl;refine zC3 loop p2 y1 1 o03 ho03 iR h2 h h1 (fun _ _ _ h=>h) (fun _ _ h=>h) ?_;intro I07 hi1 heq3 le7;subst o03;refine zR<|wW [4,5] rfl<|zI<|yZ ?_;obtain rfl:=zB hMl1;exact xC ⟨_,_,(.tmp rfl (.tmp rfl ResV.nil)),zP,⟨_,_,rfl,rfl,rfl,rfl⟩⟩
def dG (r:(List (List Int))):KT:=fun kk I' hs' v=>
  ∃ a0 c0 s0,hs'=[.osl (.slice a0 r.length c0) (Rp.sz (List Int)) s0]∧v=tupV [(.slice a0 r.length c0)]∧RepL (Rp.rep I') (Rp.sz (List Int)) s0 r
mutual
def vL (out:(List (List Int))) (nest:(List zD)) (p2:(List Int)):Option ((List (List Int))):=do
 if ((p2.length:Int) == (nest.length:Int)) then
  let l←app 8 ([]:List Int) p2
  let t6←app 24 out ([l]:List (List Int))
  pure (id t6)
 else
  let x←idx nest (p2.length:Int)
  let (y1,y2)←oF x p2
  let out2←tE (same nest) (same p2) (same y2) (same out) (same y1)
  pure (id out2)
 partial_fixpoint
def tE (nest:(List zD)) (p2:(List Int)) (y2:Int) (out1:List (List Int)) (v04:Int):Option (List (List Int)):=do
 let t39←(do
   if (decide (v04 < y2)) then
    pure (decide ((out1.length:Int) ≤ 120))
   else
    pure false
     : Option Bool)
 if t39 then
  let l1←app 8 ([]:List Int) p2
  let l2←app 8 l1 ([v04]:List Int)
  let y3←vL (same out1) (same nest) (same l2)
  tE (same nest) (same p2) (same y2) (same y3) (W (v04 + 1))
 else
  pure (id out1)
 partial_fixpoint
end
theorem zDL:(∀ (out:(List (List Int))) (nest:(List zD)) (p2:(List Int)) r,vL out nest p2=some r→∀ {I:Imm}{p c cs p1 c1 p3 c2},(RL I cs out)→(S4 I p1 nest c1)→(S4 I p3 p2 c2)→RT 119 [vS p out c,vS p1 nest c1,vS p3 p2 c2] I [hO (List Int) (vS p out c) cs] (dG  r))∧(∀ (nest:(List zD)) (p2:(List Int)) (y2:Int) (out1:List (List Int)) (v04:Int) o,tE nest p2 y2 out1 v04=some o→∀ {B}{I0 I:Imm}{Q p1 c1 p3 c2 p8 c7 cs3},I0.le I→(S4 I p1 nest c1)→(S4 I p3 p2 c2)→(RL I cs3 out1)→NG Q→NO Q→(∀ (I':Imm) (out2:List (List Int)) (p9:Option Addr) (c8:Nat) (cs4:List Value),o=out2→I0.le I'→(RL I' cs4 out2)→T 52 B Q (.exit 0) I' [hO (List Int) (vS p9 out2 c8) cs4] [(0,vS p9 out2 c8)])→J Tryz.prog 52 B (nav (bodyOf Tryz.f119) [1,1,1,0,1,0]) Q I [hO (List Int) (vS p8 out1 c7) cs3] [(0,vS p8 out1 c7),(1,vS p1 nest c1),(2,vS p3 p2 c2),(8,vI y2),(9,vI v04)]):=by
  refine vL.mutual_partial_correctness _ _ ?_ ?_
  · intro F_spec_l2Points_l1 ih_spec_l2Points_l1 out nest p2 r N I p c cs p1 c1 p3 c2 h h1 h2;refine yL Tryz.func119 fun B=>wV []<|zX<|yD [14] rfl<|zI<|yB N ?_ ?_
    · intro hc N;refine yF<|yH 1 [] [15] rfl<|tJ [] Int ?_;intro b hb;have h3:RL I [] ([]:List Int):=rfl;refine yH 3 [] [17] rfl ?_;obtain ⟨ccs,k0,k01⟩:=h2;have h2:SL I (vS p3 p2 c2) p2:=⟨_,k0,k01⟩;obtain ⟨l,hy,N⟩:=zC N;refine qB 3 1 0 rfl rfl rfl h3 (.inl k0) k01 hy fun p4 c3 cs1 h4=>rW (zY [0,1] (hs':=[hO Int (vS p4 l c3) cs1,hO (List Int) (vS p out c) cs]))<|xM 0 rfl ?_;intro I0 le hl0;have h5:=SL.of_frozen hl0 le h4;have h:=iM le h;refine tJ [vS p4 l c3] (List Int) ?_;intro b1 hb1;have h6:RL I0 [vS p4 l c3] ([l]:List (List Int)):=⟨[vS p4 l c3],_,rfl,rfl,⟨_,rfl,h5⟩,rfl⟩;obtain ⟨t6,hy1,N⟩:=zC N;refine qB 36 1 1 rfl rfl rfl h (.inr ⟨0,rfl⟩) h6 hy1 fun p5 c4 cs2 h7=>rW (zY [1] (hs':=[hO (List Int) (vS p5 t6 c4) cs2]))<|yJ [] [6] rfl<|xB<|zF ?_;obtain rfl:=zB N;exact xC ⟨_,_,(.tmp rfl ResV.nil),(zW [0] rfl (by decide)),⟨_,_,_,rfl,rfl,h7⟩⟩
    intro hc N;refine zS<|xG<|yH 3 [] [22,24] rfl<|bE N fun x hy2 N=>xS rfl rfl h1 hy2 ?_;intro ad ccs1 hat hrep;obtain ⟨p6,c5,p7,c6,rfl,h8,h9⟩:=rH hrep;refine xL 0 hat (cLoop x p6 c5 p7 c6) (vA (cLoop x p6 c5 p7 c6)) rfl<|yH 6 [] [27] rfl ?_;obtain ⟨⟨y1,y2⟩,hy3,N⟩:=zC N;refine xV (zBI x p2 _ hy3 h8 h9 h2) ?_;rintro I01 hs2 v2 k2 le1 - ⟨v02,v03,rfl,rfl,rfl,rfl⟩ -;have ⟨h,h1,h2⟩:=m3 le1 h h1 h2;refine yJ [] [7,8] rfl<|zX<|yD [9] rfl<|wB<|qW [(0,vS p out c),(1,vS p1 nest c1),(2,vS p3 p2 c2),(8,vI y2),(9,vI y1)] ?_;obtain ⟨o01,ho01,hMl⟩:=zC N;refine ih_spec_l2Points_l1 nest p2 y2 out y1 o01 ho01 iR h1 h2 h (fun _ _ _ h=>h) (fun _ _ h=>h) ?_;intro I05 out2 p9 c8 cs4 heq1 le5 h13;subst o01;refine zR<|wW [6] rfl<|zI<|yZ ?_;obtain rfl:=zB hMl;exact xC ⟨_,_,(.tmp rfl ResV.nil),(zW [0] rfl (by decide)),⟨_,_,_,rfl,rfl,h13⟩⟩
  intro F_spec_l2Points F_spec_l2Points_l1 ih_spec_l2Points ih_spec_l2Points_l1 nest p2 y2 out1 v04 o N B I0 I Q p1 c1 p3 c2 p8 c7 cs3 H h1 h2 h12 hg ho hx;refine yR hg ho<|zZ<|zZ ?_;refine wP N [hO (List Int) (vS p8 out1 c7) cs3] (fun t39=>[(0,vS p8 out1 c7),(1,vS p1 nest c1),(2,vS p3 p2 c2),(8,vI y2),(9,vI v04),(39,.bool t39)]) (fun o0 ho0=>?_) ?_
  · have H:=iS I;refine zL<|yH 4 [] [35] rfl<|xZ [35] ho0 ?_ ?_
    · intro hc1 N;exact yJ [] [39] rfl<|yO<|zV (ct N H)
    intro hc1 N;exact vG [] [(39,vF)]<|yO<|zV (ct N H)
  intro t39 I02 le2 hMc;have ⟨h12,h1,h2,H⟩:=m4 le2 h12 h1 h2 H;refine zI<|yB hMc ?_ ?_
  · intro hc2 N;refine zS<|zX<|yG<|zL<|yH 2 [] [42,43] rfl<|tJ [] Int ?_;intro b2 hb2;have h14:RL I02 [] ([]:List Int):=rfl;refine yH 4 [] [45] rfl ?_;obtain ⟨ccs2,k02,k03⟩:=h2;have h2:SL I02 (vS p3 p2 c2) p2:=⟨_,k02,k03⟩;obtain ⟨l1,hy4,N⟩:=zC N;refine qB 3 1 0 rfl rfl rfl h14 (.inl k02) k03 hy4 fun p10 c9 cs5 h15=>rW (zY [0,1] (hs':=[hO Int (vS p10 l1 c9) cs5,hO (List Int) (vS p8 out1 c7) cs3]))<|yH 6 [] [47] rfl<|tJ [vI v04] Int ?_;intro b3 hb3;have h16:RL I02 [vI v04] ([v04]:List Int):=rI [v04];obtain ⟨l2,hy5,N⟩:=zC N;refine qB 3 1 1 rfl rfl rfl h15 (.inr ⟨0,rfl⟩) h16 hy5 fun p11 c10 cs6 h17=>rW (zY [1,2] (hs':=[hO Int (vS p11 l2 c10) cs6,hO (List Int) (vS p8 out1 c7) cs3]))<|xM 0 rfl ?_;intro I03 le3 hl01;have h18:=SL.of_frozen hl01 le3 h17;have ⟨h1,h2,h12,H⟩:=m4 le3 h1 h2 h12 H;obtain ⟨y3,hy6,N⟩:=zC N;refine sR (ih_spec_l2Points out1 nest l2 _ hy6 h12 h1 h18) rfl ?_;rintro I04 hs2 v2 k2 le4 - ⟨p12,c11,cs7,rfl,rfl,h19⟩ -;have ⟨h1,h2,H⟩:=m3 le4 h1 h2 H;exact yJ [] [0] rfl<|zO<|zI<|zL<|yJ [] [9] rfl<|yQ<|nO<|ih_spec_l2Points_l1 nest p2 y2 y3 (W (v04 + 1)) _ N H h1 h2 h19 hg ho hx
  intro hc2 N;exact wY<|yO<|hx _ _ _ _ _ (zB N).symm H h12
theorem zA2:∀ out nest p2 r,vL out nest p2=some r→∀ {I:Imm}{p c cs p1 c1 p3 c2},(RL I cs out)→(S4 I p1 nest c1)→(S4 I p3 p2 c2)→RT 119 [vS p out c,vS p1 nest c1,vS p3 p2 c2] I [hO (List Int) (vS p out c) cs] (dG  r):=zDL.1
def vM (n0:Int) (most:Int):Option (Bool):=do
 let t4←(do
   if (decide (n0 ≥ (W (0 - most)))) then
    pure (decide (n0 ≤ most))
   else
    pure false
     : Option Bool)
 pure (id t4)
theorem fP:∀ n0 most r,vM n0 most=some r→∀ {I:Imm} ,RT 212 [vI n0,vI most] I [] (zT  r):=by
 intro n0 most r N I;unfold vM at N;refine yL Tryz.func212 fun B=>?_;have H:=iS I;refine wV []<|zI<|zZ ?_;refine wP N [] (fun t4=>[(4,.bool t4)]) (fun o0 ho0=>?_) ?_
 · have H:=iS I;refine zL<|yH 5 [] [9] rfl<|xZ [9] ho0 ?_ ?_
   · intro hc N;exact yJ [] [4] rfl<|yO<|zV (ct N H)
   intro hc N;exact vG [] [(4,vF)]<|yO<|zV (ct N H)
 intro t4 I0 le hMc;refine zI<|yZ ?_;obtain rfl:=zB hMc;exact wL
def wH (a0:zA) (i:Int):Option (Out Unit (Bool)):=do
 if (decide (i < (a0.Coefs.length:Int))) then
  let x←idx a0.Coefs i
  let y←vM x 9
  if (!y) then
   pure (.ret false)
  else
   wH a0 (W (i + 1))
 else
  pure (.done ())
 partial_fixpoint
theorem zAn (a0:zA):∀ (i:Int) (o:Out Unit (Bool)),wH a0 i=some o→∀ {B}{I0 I:Imm}{Q p c}{b:Nat},I0.le I→(S4 I p a0.Coefs c)→NG Q→NO Q→(∀ (I':Imm) ,o=(.done ())→I0.le I'→T 27 B Q (.exit 0) I' [hB b (cAff a0 p c)] [(1,vP b 0)])→(∀ r I' hs' m',o=(.ret r)→I0.le I'→RS Tryz.prog Tryz.f243 B (zT  r) I' hs' m'→T 27 B Q .ret I' hs' m')→J Tryz.prog 27 B (nav (bodyOf Tryz.f243) [1,0,1,0]) Q I [hB b (cAff a0 p c)] [(1,vP b 0),(3,vI i)]:=by
 refine wH.partial_correctness a0 _ fun self ih i o N B I0 I Q p c b H h hg ho hx hr=>yR hg ho<|zZ<|yF<|yJ [0] [8] rfl<|zI<|yB N ?_ ?_
 · intro hc N;refine zS<|zX<|yG<|yF<|yH 3 [0] [12,13] rfl<|bE N fun x hy N=>xS rfl rfl h hy ?_;intro ad ccs hat hrep;obtain rfl:=hrep;refine xL 0 hat [vI x] (vI x) rfl<|bE N fun y hy1 N=>uH (fP x 9 _ hy1 ) ?_;intro I0 le;have ⟨h,H⟩:=m2 le h H;refine yJ [] [17] rfl<|zI<|yB N ?_ ?_
   · intro hc1 N;exact wV [(2,vF)]<|xB<|zU<|zF<|zF<|hr _ _ _ _ (zB N).symm H ⟨_,_,(.tmp rfl ResV.nil),zP,⟨_,rfl,rfl,rfl⟩⟩
   intro hc1 N;exact zS<|zO<|zI<|zL<|yJ [] [3] rfl<|yQ<|nO<|ih (W (i + 1)) _ N H h hg ho hx hr
 intro hc N;exact wY<|yO<|hx _  (zB N).symm H
def uB (a0:zA):Option (Bool):=do
 match←wH a0 0 with
 | .ret r0=>pure r0
 | .done _ =>
  let t2←(do
    if ((a0.Coefs.length:Int) == 4) then
     let y1←vM a0.Const 99
     pure (id y1)
    else
     pure false
      : Option Bool)
  pure (id t2)
theorem mT:∀ a0 r,uB a0=some r→∀ {I:Imm}{p c},(S4 I p a0.Coefs c)→RT 243 [vA (cAff a0 p c)] I [] (zT  r):=by
 intro a0 r N I p c h;unfold uB at N;refine yL Tryz.func243 fun B=>?_;have H:=iS I;refine yF<|tX (cAff a0 p c) ?_;intro b hb;refine vG [] []<|zX<|yD [3] rfl<|wB<|qW [(1,vP b 0),(3,vI 0)] ?_;obtain ⟨o0,ho0,hMl⟩:=zC N;refine zAn a0 0 o0 ho0 iR h (fun _ _ _ h=>h) (fun _ _ h=>h) ?_ ?_
 · intro I01  heq le1;subst o0;have H:=H.trans le1;refine zR<|zI<|zZ ?_;refine wP hMl [] (fun t2=>[(2,.bool t2)]) (fun o01 ho01=>?_) ?_
   · have H:=iS I01;refine zL<|yH 5 [0] [22] rfl<|xZ [22] ho01 ?_ ?_
     · intro hc2 N;refine yH 7 [0] [24] rfl<|bE N fun y1 hy2 N=>uH (fP a0.Const 99 _ hy2 ) ?_;intro I03 le2;have H:=H.trans le2;exact yJ [] [2] rfl<|wA zP<|yO<|zV (ct N H)
     intro hc2 N;exact vG [] [(2,vF)]<|wA zP<|yO<|zV (ct N H)
   intro t2 I02 le3 hMc;refine zI<|yZ ?_;obtain rfl:=zB hMc;exact wL
 intro r0 I9 hs9 m9 heq9 le9 hrs9;subst heq9;refine zU<|zF ?_;obtain rfl:=zB hMl;exact xC hrs9
def uW (a0:zA) (n0:Int) (i:Int):Option (Int):=do
 if (decide (i < (a0.Coefs.length:Int))) then
  let x←idx a0.Coefs i
  let n02←(do
    if (x != 0) then
     pure (W (i + 1))
    else
     pure (id n0)
      : Option Int)
  uW a0 n02 (W (i + 1))
 else
  pure (id n0)
 partial_fixpoint
theorem zC4 (a0:zA):∀ (n0:Int) (i:Int) (o:Int),uW a0 n0 i=some o→∀ {B}{I0 I:Imm}{Q p c}{b:Nat},I0.le I→(S4 I p a0.Coefs c)→NG Q→NO Q→(∀ (I':Imm) (n01:Int),o=n01→I0.le I'→T 21 B Q (.exit 0) I' [] [(3,vI n01)])→J Tryz.prog 21 B (nav (bodyOf Tryz.f244) [1,1,0,1,0]) Q I [hB b (cAff a0 p c)] [(1,vP b 0),(3,vI n0),(4,vI i)]:=by
 refine uW.partial_correctness a0 _ fun self ih n0 i o N B I0 I Q p c b H h hg ho hx=>yR hg ho<|zZ<|yF<|yJ [0] [9] rfl<|zI<|yB N ?_ ?_
 · intro hc N;refine zS<|zX<|yG<|yF<|yH 3 [0] [13,14] rfl<|bE N fun x hy N=>xS rfl rfl h hy ?_;intro ad ccs hat hrep;obtain rfl:=hrep;refine xL 0 hat [vI x] (vI x) rfl<|yJ [] [17] rfl<|zI ?_;refine wP N [hB b (cAff a0 p c)] (fun n02=>[(1,vP b 0),(3,vI n02),(4,vI i)]) (fun o0 ho0=>?_) ?_
   · have H:=iS I;refine yB ho0 ?_ ?_
     · intro hc1 N;exact zL<|yJ [] [3] rfl<|yO<|zV (ct N H)
     intro hc1 N;exact zS<|yO<|zV (ct N H)
   intro n02 I0 le hMc;have ⟨h,H⟩:=m2 le h H;exact zO<|zI<|zL<|yJ [] [4] rfl<|yQ<|nO<|ih n02 (W (i + 1)) _ hMc H h hg ho hx
 intro hc N;exact wY<|wA zP<|yO<|hx _ _ (zB N).symm H
def qF (a0:zA):Option (Int):=do
 let n01←uW a0 0 0
 pure (id n01)
theorem eE:∀ a0 r,qF a0=some r→∀ {I:Imm}{p c},(S4 I p a0.Coefs c)→RT 244 [vA (cAff a0 p c)] I [] (yP  r):=by
 intro a0 r N I p c h;unfold qF at N;refine yL Tryz.func244 fun B=>yF<|tX (cAff a0 p c) ?_;intro b hb;refine vG [] []<|wW [3] rfl<|zX<|yD [4] rfl<|wB<|qW [(1,vP b 0),(3,vI 0),(4,vI 0)] ?_;obtain ⟨o01,ho01,hMl⟩:=zC N;refine zC4 a0 0 0 o01 ho01 iR h (fun _ _ _ h=>h) (fun _ _ h=>h) ?_;intro I01 n01 heq1 le1;subst o01;refine zR<|wW [2] rfl<|zI<|yZ ?_;obtain rfl:=zB hMl;exact wL
def tL (list:(List zA)) (depth:Int) (i:Int):Option (Out Unit (Bool)):=do
 if (decide (i < (list.length:Int))) then
  let t26←(do
    let x←idx list i
    let y←uB x
    if (!y) then
     pure true
    else
     let x1←idx list i
     let y1←qF x1
     pure (decide (y1 > depth))
      : Option Bool)
  if t26 then
   pure (.ret false)
  else
   tL list depth (W (i + 1))
 else
  pure (.done ())
 partial_fixpoint
theorem zDM (list:(List zA)) (depth:Int):∀ (i:Int) (o:Out Unit (Bool)),tL list depth i=some o→∀ {B}{I0 I:Imm}{Q p c},I0.le I→(S4 I p list c)→NG Q→NO Q→(∀ (I':Imm) ,o=(.done ())→I0.le I'→T 35 B Q (.exit 0) I' [] [(0,vS p list c)])→(∀ r I' hs' m',o=(.ret r)→I0.le I'→RS Tryz.prog Tryz.f242 B (zT  r) I' hs' m'→T 35 B Q .ret I' hs' m')→J Tryz.prog 35 B (nav (bodyOf Tryz.f242) [1,0,1,0]) Q I [] [(0,vS p list c),(1,vI depth),(5,vI i)]:=by
 refine tL.partial_correctness list depth _ fun self ih i o N B I0 I Q p c H h hg ho hx hr=>yR hg ho<|zZ<|yD [9] rfl<|zI<|yB N ?_ ?_
 · intro hc N;refine zS<|zX<|yG<|zZ ?_;refine wP N [] (fun t26=>[(0,vS p list c),(1,vI depth),(5,vI i),(26,.bool t26)]) (fun o0 ho0=>?_) ?_
   · have H:=iS I;refine zL<|yH 2 [] [12,13] rfl ?_;obtain ⟨x,hy,N⟩:=zC ho0;refine xS rfl rfl h hy ?_;intro ad ccs hat hrep;obtain ⟨p1,c1,rfl,h1⟩:=yN hrep;refine xL 0 hat (cAff x p1 c1) (vA (cAff x p1 c1)) rfl<|bE N fun y hy1 N=>uH (mT x _ hy1 h1) ?_;intro I01 le;have ⟨h,H⟩:=m2 le h H;refine yH 7 [] [18] rfl<|xZ [18] N ?_ ?_
     · intro hc1 N;exact vG [] [(26,vY)]<|yO<|zV (ct N H)
     intro hc1 N;refine yH 9 [] [19,20] rfl<|bE N fun x1 hy2 N=>xS rfl rfl h hy2 ?_;intro ad1 ccs1 hat1 hrep1;obtain ⟨p2,c2,rfl,h3⟩:=yN hrep1;refine xL 0 hat1 (cAff x1 p2 c2) (vA (cAff x1 p2 c2)) rfl<|bE N fun y1 hy3 N=>jD (eE x1 _ hy3 h3) ?_;intro I02 le1;have H:=H.trans le1;exact yJ [] [26] rfl<|yO<|zV (ct N H)
   intro t26 I0 le2 hMc;have ⟨h,H⟩:=m2 le2 h H;refine zI<|yB hMc ?_ ?_
   · intro hc2 N;exact wV [(4,vF)]<|xB<|zU<|zF<|zF<|hr _ _ _ _ (zB N).symm H ⟨_,_,(.tmp rfl ResV.nil),zP,⟨_,rfl,rfl,rfl⟩⟩
   intro hc2 N;exact zS<|zO<|zI<|zL<|yJ [] [5] rfl<|yQ<|nO<|ih (W (i + 1)) _ N H h hg ho hx hr
 intro hc N;exact wY<|yO<|hx _  (zB N).symm H
def nB (list:(List zA)) (depth:Int):Option (Bool):=do
 match←tL list depth 0 with
 | .ret r0=>pure r0
 | .done _ =>
  let t4←(do
    if (decide ((list.length:Int) ≥ 1)) then
     pure (decide ((list.length:Int) ≤ 2))
    else
     pure false
      : Option Bool)
  pure (id t4)
theorem zB3:∀ list depth r,nB list depth=some r→∀ {I:Imm}{p c},(S4 I p list c)→RT 242 [vS p list c,vI depth] I [] (zT  r):=by
 intro list depth r N I p c h;unfold nB at N;refine yL Tryz.func242 fun B=>?_;have H:=iS I;refine wV []<|zX<|yD [5] rfl<|wB<|qW [(0,vS p list c),(1,vI depth),(5,vI 0)] ?_;obtain ⟨o01,ho01,hMl⟩:=zC N;refine zDM list depth 0 o01 ho01 iR h (fun _ _ _ h=>h) (fun _ _ h=>h) ?_ ?_
 · intro I03  heq1 le3;subst o01;have H:=H.trans le3;refine zR<|zI<|zZ ?_;refine wP hMl [] (fun t4=>[(4,.bool t4)]) (fun o02 ho02=>?_) ?_
   · have H:=iS I03;refine zL<|yH 4 [] [30] rfl<|xZ [30] ho02 ?_ ?_
     · intro hc3 N;exact yJ [] [4] rfl<|yO<|zV (ct N H)
     intro hc3 N;exact vG [] [(4,vF)]<|yO<|zV (ct N H)
   intro t4 I04 le4 hMc1;refine zI<|yZ ?_;obtain rfl:=zB hMc1;exact wL
 intro r0 I9 hs9 m9 heq9 le9 hrs9;subst heq9;refine zU<|zF ?_;obtain rfl:=zB hMl;exact xC hrs9
def wN (nest:(List zD)) (i:Int):Option (Out Unit (Bool)):=do
 let t12←(do
   if (decide (i < (nest.length:Int))) then
    pure (decide ((nest.length:Int) ≤ 4))
   else
    pure false
     : Option Bool)
 if t12 then
  let t32←(do
    let x←idx nest i
    let y←nB x.Lo i
    if (!y) then
     pure true
    else
     let x1←idx nest i
     let y1←nB x1.Hi i
     pure (!y1)
      : Option Bool)
  if t32 then
   pure (.ret false)
  else
   wN nest (W (i + 1))
 else
  pure (.done ())
 partial_fixpoint
theorem zB4 (nest:(List zD)):∀ (i:Int) (o:Out Unit (Bool)),wN nest i=some o→∀ {B}{I0 I:Imm}{Q p c},I0.le I→(S4 I p nest c)→NG Q→NO Q→(∀ (I':Imm) ,o=(.done ())→I0.le I'→T 36 B Q (.exit 0) I' [] [(0,vS p nest c)])→(∀ r I' hs' m',o=(.ret r)→I0.le I'→RS Tryz.prog Tryz.f205 B (zT  r) I' hs' m'→T 36 B Q .ret I' hs' m')→J Tryz.prog 36 B (nav (bodyOf Tryz.f205) [1,0,1,0]) Q I [] [(0,vS p nest c),(3,vI i)]:=by
 refine wN.partial_correctness nest _ fun self ih i o N B I0 I Q p c H h hg ho hx hr=>yR hg ho<|zZ<|zZ ?_;refine wP N [] (fun t12=>[(0,vS p nest c),(3,vI i),(12,.bool t12)]) (fun o0 ho0=>?_) ?_
 · have H:=iS I;refine zL<|yH 5 [] [8] rfl<|xZ [8] ho0 ?_ ?_
   · intro hc N;exact yJ [] [12] rfl<|yO<|zV (ct N H)
   intro hc N;exact vG [] [(12,vF)]<|yO<|zV (ct N H)
 intro t12 I0 le hMc;have ⟨h,H⟩:=m2 le h H;refine zI<|yB hMc ?_ ?_
 · intro hc1 N;refine zS<|zX<|yG<|zZ ?_;refine wP N [] (fun t32=>[(0,vS p nest c),(3,vI i),(32,.bool t32)]) (fun o01 ho01=>?_) ?_
   · have H:=iS I0;refine zL<|yH 2 [] [15,16] rfl ?_;obtain ⟨x,hy,N⟩:=zC ho01;refine xS rfl rfl h hy ?_;intro ad ccs hat hrep;obtain ⟨p1,c1,p2,c2,rfl,h1,h2⟩:=rH hrep;refine yH 4 [] [18] rfl<|xL 0 hat [vS p1 x.Lo c1] (vS p1 x.Lo c1) rfl<|yH 6 [] [20] rfl<|bE N fun y hy1 N=>uH (zB3 x.Lo i _ hy1 h1) ?_;intro I02 le1;have ⟨h,H⟩:=m2 le1 h H;refine yH 9 [] [23] rfl<|xZ [23] N ?_ ?_
     · intro hc2 N;exact vG [] [(32,vY)]<|yO<|zV (ct N H)
     intro hc2 N;refine yH 11 [] [24,25] rfl<|bE N fun x1 hy2 N=>xS rfl rfl h hy2 ?_;intro ad1 ccs1 hat1 hrep1;obtain ⟨p3,c3,p4,c4,rfl,h4,h5⟩:=rH hrep1;refine yH 13 [] [27] rfl<|xL 1 hat1 [vS p4 x1.Hi c4] (vS p4 x1.Hi c4) rfl<|yH 15 [] [29] rfl<|bE N fun y1 hy3 N=>uH (zB3 x1.Hi i _ hy3 h5) ?_;intro I03 le2;have H:=H.trans le2;exact yJ [] [32] rfl<|yO<|zV (ct N H)
   intro t32 I01 le3 hMc1;have ⟨h,H⟩:=m2 le3 h H;refine zI<|yB hMc1 ?_ ?_
   · intro hc3 N;exact wV [(2,vF)]<|xB<|zU<|zF<|zF<|hr _ _ _ _ (zB N).symm H ⟨_,_,(.tmp rfl ResV.nil),zP,⟨_,rfl,rfl,rfl⟩⟩
   intro hc3 N;exact zS<|zO<|zI<|zL<|yJ [] [3] rfl<|yQ<|nO<|ih (W (i + 1)) _ N H h hg ho hx hr
 intro hc1 N;exact wY<|yO<|hx _  (zB N).symm H
def pC (nest:(List zD)):Option (Bool):=do
 match←wN nest 0 with
 | .ret r0=>pure r0
 | .done _ =>
  pure (decide ((nest.length:Int) ≤ 4))
theorem zDN:∀ nest r,pC nest=some r→∀ {I:Imm}{p c},(S4 I p nest c)→RT 205 [vS p nest c] I [] (zT  r):=by
 intro nest r N I p c h;unfold pC at N;refine yL Tryz.func205 fun B=>wV []<|zX<|yD [3] rfl<|wB<|qW [(0,vS p nest c),(3,vI 0)] ?_;obtain ⟨o02,ho02,hMl⟩:=zC N;refine zB4 nest 0 o02 ho02 iR h (fun _ _ _ h=>h) (fun _ _ h=>h) ?_ ?_
 · intro I04  heq2 le4;subst o02;refine zR<|wW [2] rfl<|zI<|yZ ?_;obtain rfl:=zB hMl;exact wL
 intro r0 I9 hs9 m9 heq9 le9 hrs9;subst heq9;refine zU<|zF ?_;obtain rfl:=zB hMl;exact xC hrs9
mutual
def sF (nest:(List zD)) (p1:(List Int)) (most:Int):Option (Int):=do
 if ((p1.length:Int) == (nest.length:Int)) then
  pure (id 1)
 else
  let x←idx nest (p1.length:Int)
  let (y1,y2)←oF x p1
  let n01←sK (same nest) (same p1) (same most) (same y2) (same 1) (same y1)
  pure (id n01)
 partial_fixpoint
def sK (nest:(List zD)) (p1:(List Int)) (most:Int) (y2:Int) (n0:Int) (v04:Int):Option (Int):=do
 let t35←(do
   if (decide (v04 < y2)) then
    pure (decide (n0 ≤ most))
   else
    pure false
     : Option Bool)
 if t35 then
  let l←app 8 ([]:List Int) p1
  let l1←app 8 l ([v04]:List Int)
  let y3←sF (same nest) (same l1) (W (most - n0))
  sK (same nest) (same p1) (same most) (same y2) (W (n0 + y3)) (W (v04 + 1))
 else
  pure (id n0)
 partial_fixpoint
end
theorem zEm:(∀ (nest:(List zD)) (p1:(List Int)) (most:Int) r,sF nest p1 most=some r→∀ {I:Imm}{p c p2 c1},(S4 I p nest c)→(S4 I p2 p1 c1)→RT 206 [vS p nest c,vS p2 p1 c1,vI most] I [] (yP  r))∧(∀ (nest:(List zD)) (p1:(List Int)) (most:Int) (y2:Int) (n0:Int) (v04:Int) o,sK nest p1 most y2 n0 v04=some o→∀ {B}{I0 I:Imm}{Q p c p2 c1},I0.le I→(S4 I p nest c)→(S4 I p2 p1 c1)→NG Q→NO Q→(∀ (I':Imm) (n01:Int),o=n01→I0.le I'→T 52 B Q (.exit 0) I' [] [(7,vI n01)])→J Tryz.prog 52 B (nav (bodyOf Tryz.f206) [1,1,1,1,0,1,0]) Q I [] [(0,vS p nest c),(1,vS p2 p1 c1),(2,vI most),(7,vI n0),(9,vI y2),(10,vI v04)]):=by
  refine sF.mutual_partial_correctness _ _ ?_ ?_
  · intro F_spec_l2Work_l1 ih_spec_l2Work_l1 nest p1 most r N I p c p2 c1 h h1;refine yL Tryz.func206 fun B=>wV []<|wW [7] rfl<|zX<|yD [15] rfl<|zI<|yB N ?_ ?_
    · intro hc N;refine yD [6] rfl<|xB<|zF ?_;obtain rfl:=zB N;exact wL
    intro hc N;refine zS<|xG<|yH 3 [] [18,20] rfl<|bE N fun x hy N=>xS rfl rfl h hy ?_;intro ad ccs hat hrep;obtain ⟨p3,c2,p4,c3,rfl,h2,h3⟩:=rH hrep;refine xL 0 hat (cLoop x p3 c2 p4 c3) (vA (cLoop x p3 c2 p4 c3)) rfl<|yH 6 [] [23] rfl ?_;obtain ⟨⟨y1,y2⟩,hy1,N⟩:=zC N;refine xV (zBI x p1 _ hy1 h2 h3 h1) ?_;rintro I0 hs2 v2 k2 le - ⟨v02,v03,rfl,rfl,rfl,rfl⟩ -;have ⟨h,h1⟩:=m2 le h h1;refine yJ [] [8,9] rfl<|zX<|yD [10] rfl<|wB<|qW [(0,vS p nest c),(1,vS p2 p1 c1),(2,vI most),(7,vI 1),(9,vI y2),(10,vI y1)] ?_;obtain ⟨o01,ho01,hMl⟩:=zC N;refine ih_spec_l2Work_l1 nest p1 most y2 1 y1 o01 ho01 iR h h1 (fun _ _ _ h=>h) (fun _ _ h=>h) ?_;intro I04 n01 heq1 le4;subst o01;refine zR<|wW [6] rfl<|zI<|yZ ?_;obtain rfl:=zB hMl;exact wL
  intro F_spec_l2Work F_spec_l2Work_l1 ih_spec_l2Work ih_spec_l2Work_l1 nest p1 most y2 n0 v04 o N B I0 I Q p c p2 c1 H h h1 hg ho hx;refine yR hg ho<|zZ<|zZ ?_;refine wP N [] (fun t35=>[(0,vS p nest c),(1,vS p2 p1 c1),(2,vI most),(7,vI n0),(9,vI y2),(10,vI v04),(35,.bool t35)]) (fun o0 ho0=>?_) ?_
  · have H:=iS I;refine zL<|yH 4 [] [31] rfl<|xZ [31] ho0 ?_ ?_
    · intro hc1 N;exact yJ [] [35] rfl<|yO<|zV (ct N H)
    intro hc1 N;exact vG [] [(35,vF)]<|yO<|zV (ct N H)
  intro t35 I01 le1 hMc;have ⟨h,h1,H⟩:=m3 le1 h h1 H;refine zI<|yB hMc ?_ ?_
  · intro hc2 N;refine zS<|zX<|yG<|zL<|yH 2 [] [38,39] rfl<|tJ [] Int ?_;intro b hb;have h6:RL I01 [] ([]:List Int):=rfl;refine yH 4 [] [41] rfl ?_;obtain ⟨ccs1,k0,k01⟩:=h1;have h1:SL I01 (vS p2 p1 c1) p1:=⟨_,k0,k01⟩;obtain ⟨l,hy2,N⟩:=zC N;refine qB 3 1 0 rfl rfl rfl h6 (.inl k0) k01 hy2 fun p5 c4 cs h7=>rW (zY [0] (hs':=[hO Int (vS p5 l c4) cs]))<|yH 6 [] [43] rfl<|tJ [vI v04] Int ?_;intro b1 hb1;have h8:RL I01 [vI v04] ([v04]:List Int):=rI [v04];obtain ⟨l1,hy3,N⟩:=zC N;refine qB 3 1 1 rfl rfl rfl h7 (.inr ⟨0,rfl⟩) h8 hy3 fun p6 c5 cs1 h9=>rW (zY [1] (hs':=[hO Int (vS p6 l1 c5) cs1]))<|yH 11 [] [48] rfl<|xM 0 rfl ?_;intro I02 le2 hl0;have h10:=SL.of_frozen hl0 le2 h9;have ⟨h,h1,H⟩:=m3 le2 h h1 H;obtain ⟨y3,hy4,N⟩:=zC N;refine xV (ih_spec_l2Work nest l1 (W (most - n0)) _ hy4 h h10) ?_;rintro I03 hs2 v2 k2 le3 - ⟨v05,rfl,rfl,rfl⟩ -;have ⟨h,h1,H⟩:=m3 le3 h h1 H;exact yJ [] [7] rfl<|zO<|zI<|zL<|yJ [] [10] rfl<|yQ<|nO<|ih_spec_l2Work_l1 nest p1 most y2 (W (n0 + y3)) (W (v04 + 1)) _ N H h h1 hg ho hx
  intro hc2 N;exact wY<|yO<|hx _ _ (zB N).symm H
theorem zFd:∀ nest p1 most r,sF nest p1 most=some r→∀ {I:Imm}{p c p2 c1},(S4 I p nest c)→(S4 I p2 p1 c1)→RT 206 [vS p nest c,vS p2 p1 c1,vI most] I [] (yP  r):=zEm.1
def fX (r:(List (List Int))×Bool):KT:=fun kk I' hs' v=>
  ∃ v0 v1,hs'=[]∧v=tupV [v0,v1]∧SL I' v0 r.1∧v1=.bool r.2
def qG (nest:(List zD)):Option ((List (List Int))×Bool):=do
 let t12←(do
   let y←pC nest
   if (!y) then
    pure true
   else
    let y1←sF nest ([]:List Int) 1200
    pure (decide (y1 > 1200))
     : Option Bool)
 if t12 then
  pure (([]:List (List Int)),false)
 else
  let y2←vL ([]:List (List Int)) nest ([]:List Int)
  if (decide ((y2.length:Int) > 120)) then
   pure (([]:List (List Int)),false)
  else
   pure (y2,true)
theorem zC5:∀ nest r,qG nest=some r→∀ {I:Imm}{p c},(S4 I p nest c)→RT 163 [vS p nest c] I [] (fX  r):=by
 intro nest r N I p c h;unfold qG at N;refine yL Tryz.func163 fun B=>?_;have H:=iS I;refine wV []<|zX<|zZ ?_;refine wP N [] (fun t12=>[(0,vS p nest c),(12,.bool t12)]) (fun o0 ho0=>?_) ?_
 · have H:=iS I;refine zL<|yH 1 [] [5] rfl ?_;obtain ⟨y,hy,N⟩:=zC ho0;refine uH (zDN nest _ hy h) ?_;intro I01 le;have ⟨h,H⟩:=m2 le h H;refine yH 4 [] [8] rfl<|xZ [8] N ?_ ?_
   · intro hc N;exact vG [] [(12,vY)]<|yO<|zV (ct N H)
   intro hc N;refine yH 5 [] [9] rfl<|bE N fun y1 hy1 N=>jD (zFd nest ([]:List Int) 1200 _ hy1 h (SL.nil _)) ?_;intro I02 le1;have H:=H.trans le1;exact yJ [] [12] rfl<|yO<|zV (ct N H)
 intro t12 I0 le2 hMc;have h:=h.mono le2;refine zI<|yB hMc ?_ ?_
 · intro hc1 N;refine yF<|tJ [] (List Int) ?_;intro b hb;have h3:RL I0 [] ([]:List (List Int)):=rfl;refine yJ [] [2,3] rfl<|xB<|zF<|xA 0 rfl ?_;intro I03 le3 hl0;have h4:=SL.of_frozen hl0 le3 h3;obtain rfl:=zB N;exact xC ⟨_,_,(.tmp rfl (.tmp rfl ResV.nil)),zP,⟨_,_,rfl,rfl,h4,rfl⟩⟩
 intro hc1 N;refine zS<|xG<|tJ [] (List Int) ?_;intro b1 hb1;have h5:RL I0 [] ([]:List (List Int)):=rfl;refine yH 2 [] [15] rfl<|bE N fun y2 hy2 N=>sR (zA2 ([]:List (List Int)) nest ([]:List Int) _ hy2 h5 h (SL.nil _)) rfl ?_;rintro I04 hs2 v2 k2 le4 - ⟨p1,c1,cs,rfl,rfl,h6⟩ -;refine yJ [] [4] rfl<|zX<|yD [19] rfl<|zI<|yB N ?_ ?_
 · intro hc2 N;refine yF<|tJ [] (List Int) ?_;intro b2 hb2;have h7:RL I04 [] ([]:List (List Int)):=rfl;refine yJ [] [2,3] rfl<|xB<|zF<|xA 0 rfl ?_;intro I05 le5 hl01;have h8:=SL.of_frozen hl01 le5 h7;obtain rfl:=zB N;exact xC ⟨_,_,(.tmp rfl (.tmp rfl ResV.nil)),zP,⟨_,_,rfl,rfl,h8,rfl⟩⟩
 intro hc2 N;refine zS<|wW [2,3] rfl<|xB<|xA 0 rfl ?_;intro I06 le6 hl02;have h9:=SL.of_frozen hl02 le6 h6;obtain rfl:=zB N;exact xC ⟨_,_,(.tmp rfl (.tmp rfl ResV.nil)),zP,⟨_,_,rfl,rfl,h9,rfl⟩⟩
def uC (a0:zJ) (depth:Int) (i:Int):Option (Out Unit (Bool)):=do
 if (decide (i < (a0.Subs.length:Int))) then
  let t29←(do
    let x←idx a0.Subs i
    let y←uB x
    if (!y) then
     pure true
    else
     let x1←idx a0.Subs i
     let y1←qF x1
     pure (decide (y1 > depth))
      : Option Bool)
  if t29 then
   pure (.ret false)
  else
   uC a0 depth (W (i + 1))
 else
  pure (.done ())
 partial_fixpoint
theorem zBy (a0:zJ) (depth:Int):∀ (i:Int) (o:Out Unit (Bool)),uC a0 depth i=some o→∀ {B}{I0 I:Imm}{Q p c}{b:Nat},I0.le I→(S4 I p a0.Subs c)→NG Q→NO Q→(∀ (I':Imm) ,o=(.done ())→I0.le I'→T 56 B Q (.exit 0) I' [hB b (cAccess a0 p c)] [(2,vP b 0)])→(∀ r I' hs' m',o=(.ret r)→I0.le I'→RS Tryz.prog Tryz.f207 B (zT  r) I' hs' m'→T 56 B Q .ret I' hs' m')→J Tryz.prog 56 B (nav (bodyOf Tryz.f207) [1,0,1,0]) Q I [hB b (cAccess a0 p c)] [(1,vI depth),(2,vP b 0),(5,vI i)]:=by
 refine uC.partial_correctness a0 depth _ fun self ih i o N B I0 I Q p c b H h hg ho hx hr=>yR hg ho<|zZ<|yF<|yJ [0] [10] rfl<|zI<|yB N ?_ ?_
 · intro hc N;refine zS<|zX<|yG<|zZ ?_;refine wP N [hB b (cAccess a0 p c)] (fun t29=>[(1,vI depth),(2,vP b 0),(5,vI i),(29,.bool t29)]) (fun o0 ho0=>?_) ?_
   · have H:=iS I;refine zL<|yH 3 [0] [14,15] rfl ?_;obtain ⟨x,hy,N⟩:=zC ho0;refine xS rfl rfl h hy ?_;intro ad ccs hat hrep;obtain ⟨p1,c1,rfl,h1⟩:=yN hrep;refine xL 0 hat (cAff x p1 c1) (vA (cAff x p1 c1)) rfl<|bE N fun y hy1 N=>uH (mT x _ hy1 h1) ?_;intro I01 le;have ⟨h,H⟩:=m2 le h H;refine yH 8 [] [20] rfl<|xZ [20] N ?_ ?_
     · intro hc1 N;exact vG [] [(29,vY)]<|yO<|zV (ct N H)
     intro hc1 N;refine yH 11 [0] [22,23] rfl<|bE N fun x1 hy2 N=>xS rfl rfl h hy2 ?_;intro ad1 ccs1 hat1 hrep1;obtain ⟨p2,c2,rfl,h3⟩:=yN hrep1;refine xL 0 hat1 (cAff x1 p2 c2) (vA (cAff x1 p2 c2)) rfl<|bE N fun y1 hy3 N=>jD (eE x1 _ hy3 h3) ?_;intro I02 le1;have H:=H.trans le1;exact yJ [] [29] rfl<|yO<|zV (ct N H)
   intro t29 I0 le2 hMc;have ⟨h,H⟩:=m2 le2 h H;refine zI<|yB hMc ?_ ?_
   · intro hc2 N;exact wV [(4,vF)]<|xB<|zU<|zF<|zF<|hr _ _ _ _ (zB N).symm H ⟨_,_,(.tmp rfl ResV.nil),zP,⟨_,rfl,rfl,rfl⟩⟩
   intro hc2 N;exact zS<|zO<|zI<|zL<|yJ [] [5] rfl<|yQ<|nO<|ih (W (i + 1)) _ N H h hg ho hx hr
 intro hc N;exact wY<|yO<|hx _  (zB N).symm H
def qS (a0:zJ) (depth:Int):Option (Bool):=do
 match←uC a0 depth 0 with
 | .ret r0=>pure r0
 | .done _ =>
  let t4←(do
    if ((a0.Array.l.length:Int) == 1) then
     if (!(Op.bytesLess a0.Array.l ([65]:List UInt8))) then
      if (Op.bytesLess a0.Array.l ([68]:List UInt8) || a0.Array.l == ([68]:List UInt8)) then
       if (decide ((a0.Subs.length:Int) ≥ 1)) then
        pure (decide ((a0.Subs.length:Int) ≤ 2))
       else
        pure false
      else
       pure false
     else
      pure false
    else
     pure false
      : Option Bool)
  pure (id t4)
theorem zA3:∀ a0 depth r,qS a0 depth=some r→∀ {I:Imm}{p c},(S4 I p a0.Subs c)→RT 207 [vA (cAccess a0 p c),vI depth] I [] (zT  r):=by
 intro a0 depth r N I p c h;unfold qS at N;refine yL Tryz.func207 fun B=>?_;have H:=iS I;refine yF<|tX (cAccess a0 p c) ?_;intro b hb;refine vG [] []<|zX<|yD [5] rfl<|wB<|qW [(1,vI depth),(2,vP b 0),(5,vI 0)] ?_;obtain ⟨o01,ho01,hMl⟩:=zC N;refine zBy a0 depth 0 o01 ho01 iR h (fun _ _ _ h=>h) (fun _ _ h=>h) ?_ ?_
 · intro I03  heq1 le3;subst o01;have H:=H.trans le3;refine zR<|zI<|zZ ?_;refine wP hMl [] (fun t4=>[(4,.bool t4)]) (fun o02 ho02=>?_) ?_
   · have H:=iS I03;refine zL<|yH 5 [0] [34] rfl<|xZ [34] ho02 ?_ ?_
     · intro hc3 N;refine yH 10 [0] [39] rfl<|xZ [39] N ?_ ?_
       · intro hc4 N;refine yH 15 [0] [44] rfl<|xZ [44] N ?_ ?_
         · intro hc5 N;refine yH 21 [0] [50] rfl<|xZ [50] N ?_ ?_
           · intro hc6 N;exact yJ [0] [4] rfl<|wA zP<|yO<|zV (ct N H)
           intro hc6 N;exact vG [] [(4,vF)]<|wA zP<|yO<|zV (ct N H)
         intro hc5 N;exact vG [] [(4,vF)]<|wA zP<|yO<|zV (ct N H)
       intro hc4 N;exact vG [] [(4,vF)]<|wA zP<|yO<|zV (ct N H)
     intro hc3 N;exact vG [] [(4,vF)]<|wA zP<|yO<|zV (ct N H)
   intro t4 I04 le4 hMc1;refine zI<|yZ ?_;obtain rfl:=zB hMc1;exact wL
 intro r0 I9 hs9 m9 heq9 le9 hrs9;subst heq9;refine zU<|zF ?_;obtain rfl:=zB hMl;exact xC hrs9
def mJ (kind:Int):Option (Int):=do
 let t4←(do
   if (kind == 1) then
    pure (kind == 1)
   else
    let t41←(do
      if (kind == 2) then
       pure (kind == 2)
      else
       pure (kind == 3)
        : Option Bool)
    pure (id t41)
     : Option Bool)
 if t4 then
  pure (id 0)
 else
  let t8←(do
    if (kind == 4) then
     pure (kind == 4)
    else
     let t81←(do
       if (kind == 5) then
        pure (kind == 5)
       else
        pure (kind == 6)
         : Option Bool)
     pure (id t81)
      : Option Bool)
  if t8 then
   pure (id 2)
  else
   pure (-1)
theorem zB5:∀ kind r,mJ kind=some r→∀ {I:Imm} ,RT 245 [vI kind] I [] (yP  r):=by
 intro kind r N I;unfold mJ at N;refine yL Tryz.func245 fun B=>?_;have H:=iS I;refine wV []<|zX<|yD [3] rfl<|wB<|zZ<|yD [4] rfl<|zI ?_;refine wP N [] (fun t4=>[(3,vI kind),(4,.bool t4)]) (fun o0 ho0=>?_) ?_
 · have H:=iS I;refine yB ho0 ?_ ?_
   · intro hc N;exact zS<|yO<|zV (ct N H)
   intro hc N;refine yD [4] rfl<|zI ?_;refine wP N [] (fun t41=>[(3,vI kind),(4,.bool t41)]) (fun o01 ho01=>?_) ?_
   · have H:=iS I;refine yB ho01 ?_ ?_
     · intro hc1 N;exact zS<|yO<|zV (ct N H)
     intro hc1 N;exact zL<|yJ [] [4] rfl<|yO<|zV (ct N H)
   intro t41 I01 le hMc1;have H:=H.trans le;exact yO<|zV (ct hMc1 H)
 intro t4 I0 le1 hMc;have H:=H.trans le1;refine zI<|yB hMc ?_ ?_
 · intro hc2 N;refine yD [2] rfl<|xB<|zU<|zF ?_;obtain rfl:=zB N;exact wL
 intro hc2 N;refine zZ<|yD [8] rfl<|zI ?_;refine wP N [] (fun t8=>[(8,.bool t8)]) (fun o02 ho02=>?_) ?_
 · have H:=iS I0;refine yB ho02 ?_ ?_
   · intro hc3 N;exact zS<|yO<|zV (ct N H)
   intro hc3 N;refine yD [8] rfl<|zI ?_;refine wP N [] (fun t81=>[(8,.bool t81)]) (fun o03 ho03=>?_) ?_
   · have H:=iS I0;refine yB ho03 ?_ ?_
     · intro hc4 N;exact zS<|yO<|zV (ct N H)
     intro hc4 N;exact zL<|yJ [] [8] rfl<|yO<|zV (ct N H)
   intro t81 I03 le2 hMc3;have H:=H.trans le2;exact yO<|zV (ct hMc3 H)
 intro t8 I02 le3 hMc2;refine zI<|yB hMc2 ?_ ?_
 · intro hc5 N;refine yD [2] rfl<|xB<|zU<|zF ?_;obtain rfl:=zB N;exact wL
 intro hc5 N;refine zS<|zO<|wW [2] rfl<|zI<|yZ ?_;obtain rfl:=zB N;exact wL
def qH (a0:zJ):Option (Bool):=do
 let t2←(do
   if (a0.Array.l == ([]:List UInt8)) then
    pure ((a0.Subs.length:Int) == 0)
   else
    pure false
     : Option Bool)
 pure (id t2)
theorem eF:∀ a0 r,qH a0=some r→∀ {I:Imm}{p c},(S4 I p a0.Subs c)→RT 263 [vA (cAccess a0 p c)] I [] (zT  r):=by
 intro a0 r N I p c h;unfold qH at N;refine yL Tryz.func263 fun B=>?_;have H:=iS I;refine yF<|tX (cAccess a0 p c) ?_;intro b hb;refine vG [] []<|zI<|zZ ?_;refine wP N [] (fun t2=>[(2,.bool t2)]) (fun o0 ho0=>?_) ?_
 · have H:=iS I;refine zL<|yH 4 [0] [6] rfl<|xZ [6] ho0 ?_ ?_
   · intro hc N;exact yJ [0] [2] rfl<|wA zP<|yO<|zV (ct N H)
   intro hc N;exact vG [] [(2,vF)]<|wA zP<|yO<|zV (ct N H)
 intro t2 I0 le hMc;refine zI<|yZ ?_;obtain rfl:=zB hMc;exact wL
def pY (a0:zA):Option (Bool):=do
 let t2←(do
   if ((a0.Coefs.length:Int) == 0) then
    pure (a0.Const == 0)
   else
    pure false
     : Option Bool)
 pure (id t2)
theorem dH:∀ a0 r,pY a0=some r→∀ {I:Imm}{p c},(S4 I p a0.Coefs c)→RT 264 [vA (cAff a0 p c)] I [] (zT  r):=by
 intro a0 r N I p c h;unfold pY at N;refine yL Tryz.func264 fun B=>?_;have H:=iS I;refine yF<|tX (cAff a0 p c) ?_;intro b hb;refine vG [] []<|zI<|zZ ?_;refine wP N [] (fun t2=>[(2,.bool t2)]) (fun o0 ho0=>?_) ?_
 · have H:=iS I;refine zL<|yH 5 [0] [7] rfl<|xZ [7] ho0 ?_ ?_
   · intro hc N;exact yJ [0] [2] rfl<|wA zP<|yO<|zV (ct N H)
   intro hc N;exact vG [] [(2,vF)]<|wA zP<|yO<|zV (ct N H)
 intro t2 I0 le hMc;refine zI<|yZ ?_;obtain rfl:=zB hMc;exact wL
def kM (e0:zG) (depth:Int):Option (Bool):=do
 if (e0.Kind == 2) then
  let t4←(do
    if (e0.Num == 0) then
     let y←qH e0.Read
     if y then
      let y1←uB e0.Index
      if y1 then
       let y2←qF e0.Index
       pure (decide (y2 ≤ depth))
      else
       pure false
     else
      pure false
    else
     pure false
      : Option Bool)
  pure (id t4)
 else
  if (e0.Kind == 3) then
   let t41←(do
     if (e0.Num == 0) then
      let y3←pY e0.Index
      if y3 then
       let y4←qS e0.Read depth
       pure (id y4)
      else
       pure false
     else
      pure false
       : Option Bool)
   pure (id t41)
  else
   if (e0.Kind == 1) then
    let t42←(do
      if (decide (e0.Num ≥ 0)) then
       if (decide (e0.Num ≤ 99)) then
        let y5←pY e0.Index
        if y5 then
         let y6←qH e0.Read
         pure (id y6)
        else
         pure false
       else
        pure false
      else
       pure false
        : Option Bool)
    pure (id t42)
   else
    let t43←(do
      if (e0.Num == 0) then
       let y7←pY e0.Index
       if y7 then
        let y8←qH e0.Read
        pure (id y8)
       else
        pure false
      else
       pure false
        : Option Bool)
    pure (id t43)
theorem zGY:∀ e0 depth r,kM e0 depth=some r→∀ {I:Imm}{p c p1 c1 p2 c2},(S4 I p e0.Index.Coefs c)→(S4 I p1 e0.Read.Subs c1)→(S4 I p2 e0.Kids c2)→RT 246 [vA (cExpr e0 p c p1 c1 p2 c2),vI depth] I [] (zT  r):=by
 intro e0 depth r N I p c p1 c1 p2 c2 h h1 h2;unfold kM at N;refine yL Tryz.func246 fun B=>?_;have H:=iS I;refine yF<|tX (cExpr e0 p c p1 c1 p2 c2) ?_;intro b hb;refine vG [] []<|zX<|yF<|yJ [0] [7] rfl<|zI<|yB N ?_ ?_
 · intro hc N;refine zZ ?_;refine wP N [] (fun t4=>[(4,.bool t4)]) (fun o0 ho0=>?_) ?_
   · have H:=iS I;refine zL<|yH 4 [0] [11] rfl<|xZ [11] ho0 ?_ ?_
     · intro hc1 N;refine oD 6 [0] [(13,vA (cAccess e0.Read p1 c1))]<|bE N fun y hy N=>uH (eF e0.Read _ hy h1) ?_;intro I01 le;have ⟨h,H⟩:=m2 le h H;refine yH 9 [] [16] rfl<|xZ [16] N ?_ ?_
       · intro hc2 N;refine oD 11 [0] [(18,vA (cAff e0.Index p c))]<|bE N fun y1 hy1 N=>uH (mT e0.Index _ hy1 h) ?_;intro I02 le1;have ⟨h,H⟩:=m2 le1 h H;refine yH 14 [] [21] rfl<|xZ [21] N ?_ ?_
         · intro hc3 N;refine oD 16 [0] [(23,vA (cAff e0.Index p c))]<|bE N fun y2 hy2 N=>jD (eE e0.Index _ hy2 h) ?_;intro I03 le2;have H:=H.trans le2;exact yJ [] [4] rfl<|wA zP<|yO<|zV (ct N H)
         intro hc3 N;exact vG [] [(4,vF)]<|wA zP<|yO<|zV (ct N H)
       intro hc2 N;exact vG [] [(4,vF)]<|wA zP<|yO<|zV (ct N H)
     intro hc1 N;exact vG [] [(4,vF)]<|wA zP<|yO<|zV (ct N H)
   intro t4 I0 le3 hMc;refine xB<|zF ?_;obtain rfl:=zB hMc;exact wL
 intro hc N;refine zS<|zX<|yF<|yJ [0] [30] rfl<|zI<|yB N ?_ ?_
 · intro hc4 N;refine zZ ?_;refine wP N [] (fun t41=>[(4,.bool t41)]) (fun o01 ho01=>?_) ?_
   · have H:=iS I;refine zL<|yH 4 [0] [34] rfl<|xZ [34] ho01 ?_ ?_
     · intro hc5 N;refine oD 6 [0] [(36,vA (cAff e0.Index p c))]<|bE N fun y3 hy3 N=>uH (dH e0.Index _ hy3 h) ?_;intro I05 le4;have ⟨h1,H⟩:=m2 le4 h1 H;refine yH 9 [] [39] rfl<|xZ [39] N ?_ ?_
       · intro hc6 N;refine oD 12 [0] [(41,vA (cAccess e0.Read p1 c1)),(42,vI depth)]<|bE N fun y4 hy4 N=>uH (zA3 e0.Read depth _ hy4 h1) ?_;intro I06 le5;have H:=H.trans le5;exact yJ [] [4] rfl<|wA zP<|yO<|zV (ct N H)
       intro hc6 N;exact vG [] [(4,vF)]<|wA zP<|yO<|zV (ct N H)
     intro hc5 N;exact vG [] [(4,vF)]<|wA zP<|yO<|zV (ct N H)
   intro t41 I04 le6 hMc1;refine xB<|zF ?_;obtain rfl:=zB hMc1;exact wL
 intro hc4 N;refine zS<|zX<|yF<|yJ [0] [47] rfl<|zI<|yB N ?_ ?_
 · intro hc7 N;refine zZ ?_;refine wP N [] (fun t42=>[(4,.bool t42)]) (fun o02 ho02=>?_) ?_
   · have H:=iS I;refine zL<|yH 4 [0] [51] rfl<|xZ [51] ho02 ?_ ?_
     · intro hc8 N;refine yH 9 [0] [56] rfl<|xZ [56] N ?_ ?_
       · intro hc9 N;refine oD 11 [0] [(58,vA (cAff e0.Index p c))]<|bE N fun y5 hy5 N=>uH (dH e0.Index _ hy5 h) ?_;intro I08 le7;have ⟨h1,H⟩:=m2 le7 h1 H;refine yH 14 [] [61] rfl<|xZ [61] N ?_ ?_
         · intro hc10 N;refine oD 16 [0] [(63,vA (cAccess e0.Read p1 c1))]<|bE N fun y6 hy6 N=>uH (eF e0.Read _ hy6 h1) ?_;intro I09 le8;have H:=H.trans le8;exact yJ [] [4] rfl<|wA zP<|yO<|zV (ct N H)
         intro hc10 N;exact vG [] [(4,vF)]<|wA zP<|yO<|zV (ct N H)
       intro hc9 N;exact vG [] [(4,vF)]<|wA zP<|yO<|zV (ct N H)
     intro hc8 N;exact vG [] [(4,vF)]<|wA zP<|yO<|zV (ct N H)
   intro t42 I07 le9 hMc2;refine xB<|zF ?_;obtain rfl:=zB hMc2;exact wL
 intro hc7 N;refine zS<|zI<|zZ ?_;refine wP N [] (fun t43=>[(4,.bool t43)]) (fun o03 ho03=>?_) ?_
 · have H:=iS I;refine zL<|yH 4 [0] [69] rfl<|xZ [69] ho03 ?_ ?_
   · intro hc11 N;refine oD 6 [0] [(71,vA (cAff e0.Index p c))]<|bE N fun y7 hy7 N=>uH (dH e0.Index _ hy7 h) ?_;intro I011 le10;have ⟨h1,H⟩:=m2 le10 h1 H;refine yH 9 [] [74] rfl<|xZ [74] N ?_ ?_
     · intro hc12 N;refine oD 11 [0] [(76,vA (cAccess e0.Read p1 c1))]<|bE N fun y8 hy8 N=>uH (eF e0.Read _ hy8 h1) ?_;intro I012 le11;have H:=H.trans le11;exact yJ [] [4] rfl<|wA zP<|yO<|zV (ct N H)
     intro hc12 N;exact vG [] [(4,vF)]<|wA zP<|yO<|zV (ct N H)
   intro hc11 N;exact vG [] [(4,vF)]<|wA zP<|yO<|zV (ct N H)
 intro t43 I010 le12 hMc3;refine zI<|yZ ?_;obtain rfl:=zB hMc3;exact wL
mutual
def tI (e0:zG) (depth:Int) (levels:Int):Option (Bool):=do
 let t24←(do
   if (decide (levels < 1)) then
    pure true
   else
    let y←mJ e0.Kind
    if (y != (e0.Kids.length:Int)) then
     pure true
    else
     let y1←kM e0 depth
     pure (!y1)
     : Option Bool)
 if t24 then
  pure false
 else
  match←vU (same e0) (same depth) (same levels) (same 0) with
  | .ret r0=>pure r0
  | .done _ =>
   pure true
 partial_fixpoint
def vU (e0:zG) (depth:Int) (levels:Int) (i:Int):Option (Out Unit (Bool)):=do
 if (decide (i < (e0.Kids.length:Int))) then
  let x←idx e0.Kids i
  let y2←tI (same x) (same depth) (W (levels - 1))
  if (!y2) then
   pure (.ret false)
  else
   vU (same e0) (same depth) (same levels) (W (i + 1))
 else
  pure (.done ())
 partial_fixpoint
end
theorem zEF:(∀ (e0:zG) (depth:Int) (levels:Int) r,tI e0 depth levels=some r→∀ {I:Imm}{p c p1 c1 p2 c2},(S4 I p e0.Index.Coefs c)→(S4 I p1 e0.Read.Subs c1)→(S4 I p2 e0.Kids c2)→RT 208 [vA (cExpr e0 p c p1 c1 p2 c2),vI depth,vI levels] I [] (zT  r))∧(∀ (e0:zG) (depth:Int) (levels:Int) (i:Int) o,vU e0 depth levels i=some o→∀ {B}{I0 I:Imm}{Q p c p1 c1 p2 c2}{b:Nat},I0.le I→(S4 I p e0.Index.Coefs c)→(S4 I p1 e0.Read.Subs c1)→(S4 I p2 e0.Kids c2)→NG Q→NO Q→(∀ (I':Imm) ,o=(.done ())→I0.le I'→T 42 B Q (.exit 0) I' [] [])→(∀ r I' hs' m',o=(.ret r)→I0.le I'→RS Tryz.prog Tryz.f208 B (zT  r) I' hs' m'→T 42 B Q .ret I' hs' m')→J Tryz.prog 42 B (nav (bodyOf Tryz.f208) [1,1,0,1,0]) Q I [hB b (cExpr e0 p c p1 c1 p2 c2)] [(1,vI depth),(2,vI levels),(3,vP b 0),(7,vI i)]):=by
  refine tI.mutual_partial_correctness _ _ ?_ ?_
  · intro F_spec_l3Shape_l1 ih_spec_l3Shape_l1 e0 depth levels r N I p c p1 c1 p2 c2 h h1 h2;refine yL Tryz.func208 fun B=>?_;have H:=iS I;refine yF<|tX (cExpr e0 p c p1 c1 p2 c2) ?_;intro b hb;refine vG [] []<|zX<|zZ ?_;refine wP N [hB b (cExpr e0 p c p1 c1 p2 c2)] (fun t24=>[(1,vI depth),(2,vI levels),(3,vP b 0),(24,.bool t24)]) (fun o0 ho0=>?_) ?_
    · have H:=iS I;cases hc:(decide (levels < 1)) with
      | true =>
       have hM0:=oX hc ho0;refine wX [.p (vI levels) [],.q vY,.q vY,.p undef [],.p undef [],.p undef [],.p undef [],.p undef [],.p undef [],.p undef [],.p vY [],.p vY [],.p undef [],.p undef [],.p undef [],.p undef [],.p vY []] [[],[(0,false)],[(1,false)],[(2,false)],[(2,false),(3,false)],[(2,false),(4,false)],[(2,false)],[(2,false),(6,false)],[(2,false),(7,false)],[(2,false),(5,false),(8,false)],[(2,false),(9,false)],[(10,false)],[(11,false)],[(11,false)],[(11,false),(12,false),(13,false)],[(11,false),(14,false)],[(11,false),(15,false)]] [hB b (cExpr e0 p c p1 c1 p2 c2)] [] [(16,false)] (zY [0]) ?_ ?_
       · refine Op<|Oq ?_<|Oq ?_<|Op<|Op<|Op<|Op<|Op<|Op<|Op<|Op<|Op<|Op<|Op<|Op<|Op<|Op<|On
         · intro I1 hf le1;refine yS [8] rfl<|oH 2 [(9,.bool (decide (levels < 1)))] ?_;rw [hc];exact xF iR
         intro I1 hf le1;exact eU [(9,vY)]<|oH 3 [(10,vY)]<|xF iR
       intro I01 le;refine yS [1,2,3,24] rfl ?_;have H:=H.trans le;exact yE rfl<|yO<|zV (ct hM0 H)
      | false =>
       have hM01:=pW hc ho0;obtain ⟨y,hy,N⟩:=zC hM01;cases hc1:(y != (e0.Kids.length:Int)) with
       | true =>
        have hM02:=oX hc1 N;refine wX [.p (vI levels) [],.q vF,.q vF,.p (vP b 0) [],.p (vI e0.Kind) [0],.q (vI y),.p (vP b 6) [],.p (vS p2 e0.Kids c2) [0],.p (vI (e0.Kids.length:Int)) [],.q vY,.q vY,.q vY,.p undef [],.p undef [],.p undef [],.p undef [],.p vY []] [[],[(0,false)],[(1,false)],[(2,false)],[(2,false),(3,false)],[(2,false),(4,false)],[(2,false)],[(2,false),(6,false)],[(2,false),(7,false)],[(2,false),(5,false),(8,false)],[(2,false),(9,false)],[(10,false)],[(11,false)],[(11,false)],[(11,false),(12,false),(13,false)],[(11,false),(14,false)],[(11,false),(15,false)]] [hB b (cExpr e0 p c p1 c1 p2 c2)] [] [(16,false)] (zY [0]) ?_ ?_
        · refine Op<|Oq ?_<|Oq ?_<|Op<|Op<|Oq ?_<|Op<|Op<|Op<|Oq ?_<|Oq ?_<|Oq ?_<|Op<|Op<|Op<|Op<|Op<|On
          · intro I1 hf le1;refine yS [8] rfl<|oH 2 [(9,.bool (decide (levels < 1)))] ?_;rw [hc];exact xF iR
          · intro I1 hf le1;exact eU [(9,vF)]<|oH 3 [(10,vF)]<|xF iR
          · intro I1 hf le1;refine yS [10,12] rfl ?_;have H:=iS I1;refine jD (zB5 e0.Kind _ hy ) ?_;intro I02 le1;have H:=H.trans le1;exact xF H
          · intro I1 hf le1;refine yS [10,13,16] rfl<|oH 10 [(17,.bool (y != (e0.Kids.length:Int)))] ?_;rw [hc1];exact xF iR
          · intro I1 hf le1;exact yS [10,17] rfl<|oH 11 [(18,vY)]<|xF iR
          intro I1 hf le1;exact eU [(18,vY)]<|oH 12 [(19,vY)]<|xF iR
        intro I03 le2;refine yS [1,2,3,24] rfl ?_;have H:=H.trans le2;exact yE rfl<|yO<|zV (ct hM02 H)
       | false =>
        have hM03:=pW hc1 N;obtain ⟨y1,hy1,N⟩:=zC hM03;refine wX [.p (vI levels) [],.q vF,.q vF,.p (vP b 0) [],.p (vI e0.Kind) [0],.q (vI y),.p (vP b 6) [],.p (vS p2 e0.Kids c2) [0],.p (vI (e0.Kids.length:Int)) [],.q vF,.q vF,.q vF,.p (vA (cExpr e0 p c p1 c1 p2 c2)) [0],.p (vI depth) [],.q (.bool y1),.p (.bool (!y1)) [],.p (.bool (!y1)) []] [[],[(0,false)],[(1,false)],[(2,false)],[(2,false),(3,false)],[(2,false),(4,false)],[(2,false)],[(2,false),(6,false)],[(2,false),(7,false)],[(2,false),(5,false),(8,false)],[(2,false),(9,false)],[(10,false)],[(11,false)],[(11,false)],[(11,false),(12,false),(13,false)],[(11,false),(14,false)],[(11,false),(15,false)]] [hB b (cExpr e0 p c p1 c1 p2 c2)] [] [(16,false)] (zY [0]) ?_ ?_
        · refine Op<|Oq ?_<|Oq ?_<|Op<|Op<|Oq ?_<|Op<|Op<|Op<|Oq ?_<|Oq ?_<|Oq ?_<|Op<|Op<|Oq ?_<|Op<|Op<|On
          · intro I1 hf le1;refine yS [8] rfl<|oH 2 [(9,.bool (decide (levels < 1)))] ?_;rw [hc];exact xF iR
          · intro I1 hf le1;exact eU [(9,vF)]<|oH 3 [(10,vF)]<|xF iR
          · intro I1 hf le1;refine yS [10,12] rfl ?_;have H:=iS I1;refine jD (zB5 e0.Kind _ hy ) ?_;intro I02 le1;have H:=H.trans le1;exact xF H
          · intro I1 hf le1;refine yS [10,13,16] rfl<|oH 10 [(17,.bool (y != (e0.Kids.length:Int)))] ?_;rw [hc1];exact xF iR
          · intro I1 hf le1;exact yS [10,17] rfl<|oH 11 [(18,vF)]<|xF iR
          · intro I1 hf le1;exact eU [(18,vF)]<|oH 12 [(19,vF)]<|xF iR
          intro I1 hf le1;refine yS [19,20,21] rfl ?_;have H:=iS I1;have ⟨h,h1,h2⟩:=m3 le1 h h1 h2;refine uH (zGY e0 depth _ hy1 h h1 h2) ?_;intro I04 le3;have H:=H.trans le3;exact xF H
        intro I05 le4;refine yS [1,2,3,24] rfl ?_;have H:=H.trans le4;exact yE rfl<|yO<|zV (ct N H)
    intro t24 I0 le5 hMc;have ⟨h,h1,h2⟩:=m3 le5 h h1 h2;refine zI<|yB hMc ?_ ?_
    · intro hc2 N;refine wV [(6,vF)]<|xB<|zF ?_;obtain rfl:=zB N;exact wL
    intro hc2 N;refine zS<|zX<|yD [7] rfl<|wB<|qW [(1,vI depth),(2,vI levels),(3,vP b 0),(7,vI 0)] ?_;obtain ⟨o01,ho01,hMl⟩:=zC N;refine ih_spec_l3Shape_l1 e0 depth levels 0 o01 ho01 iR h h1 h2 (fun _ _ _ h=>h) (fun _ _ h=>h) ?_ ?_
    · intro I07  heq1 le7;subst o01;refine zR<|zDB [(6,vY)]<|zI<|yZ ?_;obtain rfl:=zB hMl;exact wL
    intro r0 I9 hs9 m9 heq9 le9 hrs9;subst heq9;refine zU<|zF ?_;obtain rfl:=zB hMl;exact xC hrs9
  intro F_spec_l3Shape F_spec_l3Shape_l1 ih_spec_l3Shape ih_spec_l3Shape_l1 e0 depth levels i o N B I0 I Q p c p1 c1 p2 c2 b H h h1 h2 hg ho hx hr;refine yR hg ho<|zZ<|yF<|yJ [0] [29] rfl<|zI<|yB N ?_ ?_
  · intro hc3 N;refine zS<|zX<|yG<|yF<|yH 3 [0] [33,34] rfl<|bE N fun x hy2 N=>xS rfl rfl h2 hy2 ?_;intro ad ccs hat hrep;obtain ⟨p3,c3,p4,c4,p5,c5,rfl,h5,h6,h7⟩:=tC hrep;refine xL 0 hat (cExpr x p3 c3 p4 c4 p5 c5) (vA (cExpr x p3 c3 p4 c4 p5 c5)) rfl<|yH 8 [] [37,39] rfl<|bE N fun y2 hy3 N=>xV (ih_spec_l3Shape x depth (W (levels - 1)) _ hy3 h5 h6 h7) ?_;rintro I06 hs2 v2 k2 le6 - ⟨v05,rfl,rfl,rfl⟩ -;have ⟨h,h1,h2,H⟩:=m4 le6 h h1 h2 H;refine yJ [] [41] rfl<|zI<|yB N ?_ ?_
    · intro hc4 N;exact wV [(6,vF)]<|xB<|zU<|zF<|zF<|hr _ _ _ _ (zB N).symm H ⟨_,_,(.tmp rfl ResV.nil),zP,⟨_,rfl,rfl,rfl⟩⟩
    intro hc4 N;exact zS<|zO<|zI<|zL<|yJ [] [7] rfl<|yQ<|nO<|ih_spec_l3Shape_l1 e0 depth levels (W (i + 1)) _ N H h h1 h2 hg ho hx hr
  intro hc3 N;exact wY<|wA zP<|yO<|hx _  (zB N).symm H
theorem zEn:∀ e0 depth levels r,tI e0 depth levels=some r→∀ {I:Imm}{p c p1 c1 p2 c2},(S4 I p e0.Index.Coefs c)→(S4 I p1 e0.Read.Subs c1)→(S4 I p2 e0.Kids c2)→RT 208 [vA (cExpr e0 p c p1 c1 p2 c2),vI depth,vI levels] I [] (zT  r):=zEF.1
mutual
def tZ (e0:zG) (levels:Int):Option (Int):=do
 let n01←vV (same e0) (same levels) (same 1) (same 0)
 pure (id n01)
 partial_fixpoint
def vV (e0:zG) (levels:Int) (n0:Int) (i:Int):Option (Int):=do
 let t15←(do
   if (decide (i < (e0.Kids.length:Int))) then
    pure (decide (levels > 0))
   else
    pure false
     : Option Bool)
 if t15 then
  let x←idx e0.Kids i
  let y←tZ (same x) (W (levels - 1))
  vV (same e0) (same levels) (W (n0 + y)) (W (i + 1))
 else
  pure (id n0)
 partial_fixpoint
end
theorem zEG:(∀ (e0:zG) (levels:Int) r,tZ e0 levels=some r→∀ {I:Imm}{p c p1 c1 p2 c2},(S4 I p e0.Index.Coefs c)→(S4 I p1 e0.Read.Subs c1)→(S4 I p2 e0.Kids c2)→RT 209 [vA (cExpr e0 p c p1 c1 p2 c2),vI levels] I [] (yP  r))∧(∀ (e0:zG) (levels:Int) (n0:Int) (i:Int) o,vV e0 levels n0 i=some o→∀ {B}{I0 I:Imm}{Q p c p1 c1 p2 c2}{b:Nat},I0.le I→(S4 I p e0.Index.Coefs c)→(S4 I p1 e0.Read.Subs c1)→(S4 I p2 e0.Kids c2)→NG Q→NO Q→(∀ (I':Imm) (n01:Int),o=n01→I0.le I'→T 29 B Q (.exit 0) I' [] [(5,vI n01)])→J Tryz.prog 29 B (nav (bodyOf Tryz.f209) [1,1,0,1,0]) Q I [hB b (cExpr e0 p c p1 c1 p2 c2)] [(1,vI levels),(2,vP b 0),(5,vI n0),(6,vI i)]):=by
  refine tZ.mutual_partial_correctness _ _ ?_ ?_
  · intro F_spec_l3Count_l1 ih_spec_l3Count_l1 e0 levels r N I p c p1 c1 p2 c2 h h1 h2;refine yL Tryz.func209 fun B=>yF<|tX (cExpr e0 p c p1 c1 p2 c2) ?_;intro b hb;refine vG [] []<|wW [5] rfl<|zX<|yD [6] rfl<|wB<|qW [(1,vI levels),(2,vP b 0),(5,vI 1),(6,vI 0)] ?_;obtain ⟨o01,ho01,hMl⟩:=zC N;refine ih_spec_l3Count_l1 e0 levels 1 0 o01 ho01 iR h h1 h2 (fun _ _ _ h=>h) (fun _ _ h=>h) ?_;intro I02 n01 heq1 le2;subst o01;refine zR<|wW [4] rfl<|zI<|yZ ?_;obtain rfl:=zB hMl;exact wL
  intro F_spec_l3Count F_spec_l3Count_l1 ih_spec_l3Count ih_spec_l3Count_l1 e0 levels n0 i o N B I0 I Q p c p1 c1 p2 c2 b H h h1 h2 hg ho hx;refine yR hg ho<|zZ<|zZ ?_;refine wP N [hB b (cExpr e0 p c p1 c1 p2 c2)] (fun t15=>[(1,vI levels),(2,vP b 0),(5,vI n0),(6,vI i),(15,.bool t15)]) (fun o0 ho0=>?_) ?_
  · have H:=iS I;refine zL<|yH 6 [0] [12] rfl<|xZ [12] ho0 ?_ ?_
    · intro hc N;exact yJ [] [15] rfl<|yO<|zV (ct N H)
    intro hc N;exact vG [] [(15,vF)]<|yO<|zV (ct N H)
  intro t15 I0 le hMc;have ⟨h,h1,h2,H⟩:=m4 le h h1 h2 H;refine zI<|yB hMc ?_ ?_
  · intro hc1 N;refine zS<|zX<|yG<|zL<|yH 4 [0] [18,20,21] rfl<|bE N fun x hy N=>xS rfl rfl h2 hy ?_;intro ad ccs hat hrep;obtain ⟨p3,c3,p4,c4,p5,c5,rfl,h3,h4,h5⟩:=tC hrep;refine xL 0 hat (cExpr x p3 c3 p4 c4 p5 c5) (vA (cExpr x p3 c3 p4 c4 p5 c5)) rfl<|yH 8 [] [25] rfl<|bE N fun y hy1 N=>xV (ih_spec_l3Count x (W (levels - 1)) _ hy1 h3 h4 h5) ?_;rintro I01 hs2 v2 k2 le1 - ⟨v03,rfl,rfl,rfl⟩ -;have ⟨h,h1,h2,H⟩:=m4 le1 h h1 h2 H;exact yJ [] [5] rfl<|zO<|zI<|zL<|yJ [] [6] rfl<|yQ<|nO<|ih_spec_l3Count_l1 e0 levels (W (n0 + y)) (W (i + 1)) _ N H h h1 h2 hg ho hx
  intro hc1 N;exact wY<|wA zP<|yO<|hx _ _ (zB N).symm H
theorem zEo:∀ e0 levels r,tZ e0 levels=some r→∀ {I:Imm}{p c p1 c1 p2 c2},(S4 I p e0.Index.Coefs c)→(S4 I p1 e0.Read.Subs c1)→(S4 I p2 e0.Kids c2)→RT 209 [vA (cExpr e0 p c p1 c1 p2 c2),vI levels] I [] (yP  r):=zEG.1
def sL (s:zQ) (depth:Int):Option (Bool):=do
 let t24←(do
   if (decide (depth < 0)) then
    pure true
   else
    if (decide (depth > 4)) then
     pure true
    else
     let y←qS s.Write depth
     if (!y) then
      pure true
     else
      let y1←tI s.Value depth 5
      pure (!y1)
     : Option Bool)
 if t24 then
  pure false
 else
  let y2←tZ s.Value 5
  pure (decide (y2 ≤ 12))
theorem gY:∀ s depth r,sL s depth=some r→∀ {I:Imm}{p c p1 c1 p2 c2 p3 c3},(S4 I p s.Write.Subs c)→(S4 I p1 s.Value.Index.Coefs c1)→(S4 I p2 s.Value.Read.Subs c2)→(S4 I p3 s.Value.Kids c3)→RT 164 [vA (cStmt s p c p1 c1 p2 c2 p3 c3),vI depth] I [] (zT  r):=by
 intro s depth r N I p c p1 c1 p2 c2 p3 c3 h h1 h2 h3;unfold sL at N;refine yL Tryz.func164 fun B=>?_;have H:=iS I;refine yF<|tX (cStmt s p c p1 c1 p2 c2 p3 c3) ?_;intro b hb;refine vG [] []<|zX<|zZ ?_;refine wP N [hB b (cStmt s p c p1 c1 p2 c2 p3 c3)] (fun t24=>[(2,vP b 0),(24,.bool t24)]) (fun o0 ho0=>?_) ?_
 · have H:=iS I;refine zL<|yH 3 [] [7] rfl<|xZ [7] ho0 ?_ ?_
   · intro hc N;exact vG [] [(24,vY)]<|yO<|zV (ct N H)
   intro hc N;refine yH 7 [] [11] rfl<|xZ [11] N ?_ ?_
   · intro hc1 N;exact vG [] [(24,vY)]<|yO<|zV (ct N H)
   intro hc1 N;refine oD 10 [0] [(13,vA (cAccess s.Write p c)),(14,vI depth)]<|bE N fun y hy N=>uH (zA3 s.Write depth _ hy h) ?_;intro I01 le;have ⟨h1,h2,h3,H⟩:=m4 le h1 h2 h3 H;refine yH 14 [] [18] rfl<|xZ [18] N ?_ ?_
   · intro hc2 N;exact vG [] [(24,vY)]<|yO<|zV (ct N H)
   intro hc2 N;refine oD 17 [0] [(20,vA (cExpr s.Value p1 c1 p2 c2 p3 c3)),(21,vI depth)]<|bE N fun y1 hy1 N=>uH (zEn s.Value depth 5 _ hy1 h1 h2 h3) ?_;intro I02 le1;have H:=H.trans le1;exact yJ [] [24] rfl<|yO<|zV (ct N H)
 intro t24 I0 le2 hMc;have ⟨h1,h2,h3⟩:=m3 le2 h1 h2 h3;refine zI<|yB hMc ?_ ?_
 · intro hc3 N;refine wV [(4,vF)]<|xB<|zF ?_;obtain rfl:=zB N;exact wL
 intro hc3 N;refine zS<|xG<|oD 2 [0] [(26,vA (cExpr s.Value p1 c1 p2 c2 p3 c3))]<|bE N fun y2 hy2 N=>jD (zEo s.Value 5 _ hy2 h1 h2 h3) fun I03 le3=>yJ [] [4] rfl<|zI<|yZ ?_;obtain rfl:=zB N;exact wL
def zAG (r:(List zJ)):KT:=fun kk I' hs' v=>
  ∃ a0 c0 s0,hs'=[.osl (.slice a0 r.length c0) (Rp.sz zJ) s0]∧v=tupV [(.slice a0 r.length c0)]∧RepL (Rp.rep I') (Rp.sz zJ) s0 r
mutual
def sA (out:(List zJ)) (e0:zG):Option ((List zJ)):=do
 let out1←(do
   if (e0.Kind == 3) then
    let y←uJ e0.Read
    let out2←app 40 out ([y]:List zJ)
    pure (id out2)
   else
    pure (id out)
     : Option (List zJ))
 let out4←wG (same e0) (same out1) (same 0)
 pure (id out4)
 partial_fixpoint
def wG (e0:zG) (out3:List zJ) (i:Int):Option (List zJ):=do
 if (decide (i < (e0.Kids.length:Int))) then
  let x←idx e0.Kids i
  let y1←sA (same out3) (same x)
  wG (same e0) (same y1) (W (i + 1))
 else
  pure (id out3)
 partial_fixpoint
end
theorem zEH:(∀ (out:(List zJ)) (e0:zG) r,sA out e0=some r→∀ {I:Imm}{p c cs p1 c1 p2 c2 p3 c3},(RL I cs out)→(S4 I p1 e0.Index.Coefs c1)→(S4 I p2 e0.Read.Subs c2)→(S4 I p3 e0.Kids c3)→RT 210 [vS p out c,vA (cExpr e0 p1 c1 p2 c2 p3 c3)] I [hO zJ (vS p out c) cs] (zAG  r))∧(∀ (e0:zG) (out3:List zJ) (i:Int) o,wG e0 out3 i=some o→∀ {B}{I0 I:Imm}{Q p1 c1 p2 c2 p3 c3}{b:Nat}{p7 c7 cs4},I0.le I→(S4 I p1 e0.Index.Coefs c1)→(S4 I p2 e0.Read.Subs c2)→(S4 I p3 e0.Kids c3)→(RL I cs4 out3)→NG Q→NO Q→(∀ (I':Imm) (out4:List zJ) (p8:Option Addr) (c8:Nat) (cs5:List Value),o=out4→I0.le I'→(RL I' cs5 out4)→T 30 B Q (.exit 0) I' [hO zJ (vS p8 out4 c8) cs5] [(0,vS p8 out4 c8)])→J Tryz.prog 30 B (nav (bodyOf Tryz.f210) [1,1,0,1,0]) Q I [hB b (cExpr e0 p1 c1 p2 c2 p3 c3),hO zJ (vS p7 out3 c7) cs4] [(0,vS p7 out3 c7),(3,vP b 0),(5,vI i)]):=by
  refine sA.mutual_partial_correctness _ _ ?_ ?_
  · intro F_spec_l3Reads_l1 ih_spec_l3Reads_l1 out e0 r N I p c cs p1 c1 p2 c2 p3 c3 h h1 h2 h3;refine yL Tryz.func210 fun B=>?_;have H:=iS I;refine yF<|tX (cExpr e0 p1 c1 p2 c2 p3 c3) ?_;intro b hb;refine vG [] []<|zX<|yF<|yJ [0] [8] rfl<|zI ?_;obtain ⟨o0,ho0,hMc⟩:=zC N;refine oC (fun I' hs' m'=>∃ (out1:List zJ) (p4:Option Addr) (c4:Nat) (cs1:List Value),o0=out1∧I.le I'∧(RL I' cs1 out1)∧hs'=[hB b (cExpr e0 p1 c1 p2 c2 p3 c3),hO zJ (vS p4 out1 c4) cs1]∧m'=[(0,vS p4 out1 c4),(3,vP b 0)]) ?_ ?_
    · have H:=iS I;refine yB ho0 ?_ ?_
      · intro hc N;refine zL<|oD 3 [0] [(9,vS p out c),(11,vA (cAccess e0.Read p2 c2))]<|bE N fun y hy N=>xV (jF e0.Read _ hy h2) ?_;rintro I01 hs2 v2 k2 le - ⟨p5,c5,cs2,rfl,rfl,h5⟩ -;have ⟨h,H⟩:=m2 le h H;refine xM 0 rfl ?_;intro I02 le1 hl0;have h6:=SL.of_frozen hl0 le1 h5;have ⟨h,H⟩:=m2 le1 h H;refine tJ (cAccess y p5 c5) zJ ?_;intro b1 hb1;have h7:RL I02 (cAccess y p5 c5) ([y]:List zJ):=⟨(cAccess y p5 c5),_,rfl,rfl,(nD ⟨_,rfl,h6⟩),rfl⟩;obtain ⟨out2,hy1,N⟩:=zC N;exact qB 35 2 2 rfl rfl rfl h (.inr ⟨0,rfl⟩) h7 hy1 fun p6 c6 cs3 h8=>rW (zY [1,2] (hs':=[hB b (cExpr e0 p1 c1 p2 c2 p3 c3),hO zJ (vS p6 out2 c6) cs3]))<|yJ [] [0] rfl<|yO<|zV ⟨_,_,_,_,(zB N).symm,H,h8,rfl,rfl⟩
      intro hc N;exact zS<|yO<|zV ⟨_,_,_,_,(zB N).symm,H,h,rfl,rfl⟩
    rintro I0 hs2 m2 ⟨out1,p4,c4,cs1,heq,le2,h4,rfl,rfl⟩;subst o0;have ⟨h1,h2,h3⟩:=m3 le2 h1 h2 h3;refine zX<|yD [5] rfl<|wB<|qW [(0,vS p4 out1 c4),(3,vP b 0),(5,vI 0)] ?_;obtain ⟨o01,ho01,hMl⟩:=zC hMc;refine ih_spec_l3Reads_l1 e0 out1 0 o01 ho01 iR h1 h2 h3 h4 (fun _ _ _ h=>h) (fun _ _ h=>h) ?_;intro I04 out4 p8 c8 cs5 heq1 le4 h10;subst o01;refine zR<|wW [4] rfl<|zI<|yZ ?_;obtain rfl:=zB hMl;exact xC ⟨_,_,(.tmp rfl ResV.nil),(zW [0] rfl (by decide)),⟨_,_,_,rfl,rfl,h10⟩⟩
  intro F_spec_l3Reads F_spec_l3Reads_l1 ih_spec_l3Reads ih_spec_l3Reads_l1 e0 out3 i o N B I0 I Q p1 c1 p2 c2 p3 c3 b p7 c7 cs4 H h1 h2 h3 h9 hg ho hx;refine yR hg ho<|zZ<|yF<|yJ [0] [19] rfl<|zI<|yB N ?_ ?_
  · intro hc1 N;refine zS<|zX<|yG<|zL<|yH 4 [0] [22,24,25] rfl<|bE N fun x hy2 N=>xS rfl rfl h3 hy2 ?_;intro ad ccs hat hrep;obtain ⟨p9,c9,p10,c10,p11,c11,rfl,h11,h12,h13⟩:=tC hrep;refine xL 0 hat (cExpr x p9 c9 p10 c10 p11 c11) (vA (cExpr x p9 c9 p10 c10 p11 c11)) rfl<|rW (zY [1,0] (hs':=[hO zJ (vS p7 out3 c7) cs4,hB b (cExpr e0 p1 c1 p2 c2 p3 c3)]))<|bE N fun y1 hy3 N=>sR (ih_spec_l3Reads out3 x _ hy3 h9 h11 h12 h13) rfl ?_;rintro I03 hs2 v2 k2 le3 - ⟨p12,c12,cs6,rfl,rfl,h14⟩ -;have ⟨h1,h2,h3,H⟩:=m4 le3 h1 h2 h3 H;exact yJ [] [0] rfl<|zO<|zI<|zL<|yJ [] [5] rfl<|yQ<|jR (zW [1,0] rfl (by decide))<|nO<|ih_spec_l3Reads_l1 e0 y1 (W (i + 1)) _ N H h1 h2 h3 h14 hg ho hx
  intro hc1 N;exact wY<|wA (zW [1] rfl (by decide))<|yO<|hx _ _ _ _ _ (zB N).symm H h9
theorem zEp:∀ out e0 r,sA out e0=some r→∀ {I:Imm}{p c cs p1 c1 p2 c2 p3 c3},(RL I cs out)→(S4 I p1 e0.Index.Coefs c1)→(S4 I p2 e0.Read.Subs c2)→(S4 I p3 e0.Kids c3)→RT 210 [vS p out c,vA (cExpr e0 p1 c1 p2 c2 p3 c3)] I [hO zJ (vS p out c) cs] (zAG  r):=zEH.1
def tM (a0:zH) (n0:Int) (i:Int):Option (Int):=do
 if (decide (i < (a0.Dims.length:Int))) then
  let x←idx a0.Dims i
  tM a0 (W (n0 * x)) (W (i + 1))
 else
  pure (id n0)
 partial_fixpoint
theorem zDO (a0:zH):∀ (n0:Int) (i:Int) (o:Int),tM a0 n0 i=some o→∀ {B}{I0 I:Imm}{Q p c}{b:Nat},I0.le I→(S4 I p a0.Dims c)→NG Q→NO Q→(∀ (I':Imm) (n01:Int),o=n01→I0.le I'→T 20 B Q (.exit 0) I' [] [(3,vI n01)])→J Tryz.prog 20 B (nav (bodyOf Tryz.f247) [1,1,0,1,0]) Q I [hB b (cArr a0 p c)] [(1,vP b 0),(3,vI n0),(4,vI i)]:=by
 refine tM.partial_correctness a0 _ fun self ih n0 i o N B I0 I Q p c b H h hg ho hx=>yR hg ho<|zZ<|yF<|yJ [0] [9] rfl<|zI<|yB N ?_ ?_
 · intro hc N;refine zS<|zX<|yG<|zL<|yH 4 [0] [12,14,15] rfl<|bE N fun x hy N=>xS rfl rfl h hy ?_;intro ad ccs hat hrep;obtain rfl:=hrep;exact xL 0 hat [vI x] (vI x) rfl<|yJ [] [3] rfl<|zO<|zI<|zL<|yJ [] [4] rfl<|yQ<|nO<|ih (W (n0 * x)) (W (i + 1)) _ N H h hg ho hx
 intro hc N;exact wY<|wA zP<|yO<|hx _ _ (zB N).symm H
def mK (a0:zH):Option (Int):=do
 let n01←tM a0 1 0
 pure (id n01)
theorem zFe:∀ a0 r,mK a0=some r→∀ {I:Imm}{p c},(S4 I p a0.Dims c)→RT 247 [vA (cArr a0 p c)] I [] (yP  r):=by
 intro a0 r N I p c h;unfold mK at N;refine yL Tryz.func247 fun B=>yF<|tX (cArr a0 p c) ?_;intro b hb;refine vG [] []<|wW [3] rfl<|zX<|yD [4] rfl<|wB<|qW [(1,vP b 0),(3,vI 1),(4,vI 0)] ?_;obtain ⟨o0,ho0,hMl⟩:=zC N;refine zDO a0 1 0 o0 ho0 iR h (fun _ _ _ h=>h) (fun _ _ h=>h) ?_;intro I0 n01 heq le;subst o0;refine zR<|wW [2] rfl<|zI<|yZ ?_;obtain rfl:=zB hMl;exact wL
end Go.LN
