/- Helper of the proof (see the last text). -/
import Derived.Test.YtpacccdphbhfbaaGreatHM1
set_option linter.unusedVariables false
set_option linter.unusedSimpArgs false
namespace Go.LN
open Go.Proofs
set_option maxRecDepth 20000
def jW (b0:Nat) (r:zK×zH):KT:=fun kk I' hs' v=>
  ∃ v0 k0,hs'=[.blk b0 ⟨k0⟩]∧v=tupV [v0]∧(∃ cs,v0=.agg ⟨cs⟩∧Rp.rep I' cs r.1)∧Rp.rep I' k0 r.2
def qM (r0:zH) (p1:zK):Option (zK×zH):=do
 let y←rK p1
 let (y2,y3)←yO r0 60
 let (Arrays,Parts,x)←(do
   if (y2 == 0) then
    let (y5,y6)←oC y3 ([(⟨[65]⟩:Str),(⟨[68]⟩:Str),(⟨[69]⟩:Str)]:List Str)
    let (y8,y9)←yK y6 ([7,0,3,(-1)]:List Int)
    let l←app 40 y.Arrays ([(zF.mk y5 ([y8]:List Int))]:List zF)
    pure (l,y.Parts,y9)
   else
    let (Arrays1,Parts1,x1)←(do
      if (y2 == 1) then
       let (Arrays2,x2)←(do
         if (decide ((y.Arrays.length:Int) > 0)) then
          let (y11,y12)←yK y3 ([1,2,7]:List Int)
          let x3←idx y.Arrays 0
          let l1←pure (y.Arrays.set (0:Int).toNat (zF.mk x3.Name ([y11]:List Int)))
          pure (l1,y12)
         else
          pure (y.Arrays,y3)
           : Option (List zF×zH))
       pure (Arrays2,y.Parts,x2)
      else
       let (Parts2,x4)←(do
         if (y2 == 2) then
          let (Parts3,x5)←(do
            if (decide ((y.Parts.length:Int) > 0)) then
             let x6←idx y.Parts 0
             let (y14,y15)←oD y3 x6.Nest
             let (y17,y18)←oD y15 y14
             let (y20,y21)←oD y18 y17
             let x7←idx y.Parts 0
             let l2←pure (y.Parts.set (0:Int).toNat (zL.mk y20 x7.Body))
             pure (l2,y21)
            else
             pure (y.Parts,y3)
              : Option (List zL×zH))
          pure (Parts3,x5)
         else
          let (Parts4,x8)←(do
            if (y2 == 3) then
             let t76←(do
               if (decide ((y.Parts.length:Int) > 0)) then
                let x9←idx y.Parts (W ((y.Parts.length:Int) - 1))
                pure (decide ((x9.Body.length:Int) > 0))
               else
                pure false
                 : Option Bool)
             let (Parts5,x10)←(do
               if t76 then
                let x11←idx y.Parts (W ((y.Parts.length:Int) - 1))
                let x12←idx x11.Body 0
                let (y22,y23)←tT y3 x12
                let (y24,y25)←tT y23 y22
                let (y26,y27)←tT y25 y24
                let l3←pure ((y.Parts).set (W ((y.Parts.length:Int) - 1)).toNat (zL.mk x11.Nest (x11.Body.set 0 y26)))
                pure (l3,y27)
               else
                pure (y.Parts,y3)
                 : Option (List zL×zH))
             pure (Parts5,x10)
            else
             let Parts6←(do
               if (y2 == 4) then
                let Parts7←(do
                  if (decide ((y.Parts.length:Int) > 0)) then
                   let x13←idx y.Parts (W ((y.Parts.length:Int) - 1))
                   let l4←pure (y.Parts.set (W ((y.Parts.length:Int) - 1)).toNat (zL.mk x13.Nest ([]:List zN)))
                   pure (id l4)
                  else
                   pure y.Parts
                    : Option (List zL))
                pure (id Parts7)
               else
                pure y.Parts
                 : Option (List zL))
             pure (Parts6,y3)
              : Option (List zL×zH))
          pure (Parts4,x8)
           : Option (List zL×zH))
       pure (y.Arrays,Parts2,x4)
        : Option (List zF×List zL×zH))
    pure (Arrays1,Parts1,x1)
     : Option (List zF×List zL×zH))
 pure ((zK.mk Arrays Parts),x)
theorem zCd:∀ (r0:zH) (p1:zK) r,qM r0 p1=some r→∀ {I:Imm}{r01:Nat}{p c p2 c1 p3 c2},(S4 I p r0.b c)→(S4 I p2 p1.Arrays c1)→(S4 I p3 p1.Parts c2)→(∀ (y:zK) (y2:Int) (y3:zH) (x:zL) (s:zN),rK p1=some y→yO r0 60=some (y2,y3)→(y2 == 3)=true→idx y.Parts (W ((y.Parts.length:Int) - 1))=some x→idx x.Body 0=some s→False)→RT 58 [vP r01 0,vA (cProg p1 p2 c1 p3 c2)] I [hB r01 (cRd r0 p c)] (jW r01 r):=by
 intro r0 p1 r N I r01 p c p2 c1 p3 c2 h h1 h2 hne;unfold qM at N;refine yJ Tryz.func58 fun B=>?_;have H:=iS I;refine yB<|vM (cProg p1 p2 c1 p3 c2) ?_;intro b hb;refine wU zTwo ?_;intro b1 hb1;refine yC rfl<|xE<|sU 1 [1] [(7,vA (cProg p1 p2 c1 p3 c2))]<|bE N fun y hy N=>xP (zEk p1 _ hy h1 h2) ?_;rintro I0 hs2 v2 k2 le - ⟨p4,c3,cs,p5,c4,cs1,rfl,rfl,h3,h4⟩ -;have ⟨h,H⟩:=m2 le h H;refine wU zTwo ?_;intro b2 hb2;refine xI 0 (cProg y p4 c3 p5 c4) rfl<|yC rfl<|xE<|yI [0] [6] rfl<|yA<|yB<|yD 1 [] [12] rfl<|sX (zY [5,0,1,2,3,4] (hs':=[hB r01 (cRd r0 p c),hB b2 (cProg y p4 c3 p5 c4),hO zF (vS p4 y.Arrays c3) cs,hO zL (vS p5 y.Parts c4) cs1,hB b1 zTwo,hB b (cProg p1 p2 c1 p3 c2)])) ?_;obtain ⟨⟨y2,y3⟩,hy1,N⟩:=zB N;refine uQ (xA r0 60 _ hy1 h) rfl ?_;rintro I01 hs2 v2 k2 le1 - ⟨v0,kk,rfl,rfl,rfl,h6⟩ -;have ⟨h3,h4,H⟩:=m3 le1 h3 h4 H;obtain ⟨p6,c5,rfl,h7⟩:=zW h6;refine yC rfl<|wK<|yH [14] rfl<|zJ<|oY 5 rfl ?_;intro I02 le2 hl0;have hat:At I02 ⟨b,0,none⟩ (cProg p1 p2 c1 p3 c2):=At.of_blk hl0;have ⟨h7,h3,h4,H⟩:=m4 le2 h7 h3 h4 H;obtain ⟨o0,ho0,hMc⟩:=zB N;refine pM (fun I' hs' m'=>∃ (Arrays:List zF) (Parts:List zL) (x:zH) (p7:Option Addr) (c6:Nat) (cs2:List Value) (p8:Option Addr) (c7:Nat) (cs3:List Value) (p9:Option Addr) (c8:Nat),o0=(Arrays,Parts,x)∧I02.le I'∧(RL I' cs2 Arrays)∧(RL I' cs3 Parts)∧(S4 I' p9 x.b c8)∧hs'=[hB r01 (cRd x p9 c8),hB b2 [vS p7 Arrays c6,vS p8 Parts c7],hO zF (vS p7 Arrays c6) cs2,hO zL (vS p8 Parts c7) cs3,hB b1 zTwo]∧m'=[(4,vP b1 0),(5,vP b2 0)]) ?_ ?_
 · have H:=iS I02;refine yE ho0 ?_ ?_
   · intro hc N;obtain ⟨⟨y5,y6⟩,hy2,N⟩:=zB N;obtain ⟨⟨y8,y9⟩,hy3,N⟩:=zB N;obtain ⟨l,hy4,N⟩:=zB N;refine wS [.p (vP b2 0) [],.p (vS p4 y.Arrays c3) [0],.p (vP r01 0) [],.x (fun I' v hx=>∃ b3,v=vS (some ⟨b3,0,none⟩) ([(⟨[65]⟩:Str),(⟨[68]⟩:Str),(⟨[69]⟩:Str)]:List Str) 3∧hx=[]∧(SL I' (vS (some ⟨b3,0,none⟩) ([(⟨[65]⟩:Str),(⟨[68]⟩:Str),(⟨[69]⟩:Str)]:List Str) 3) ([(⟨[65]⟩:Str),(⟨[68]⟩:Str),(⟨[69]⟩:Str)]:List Str))),.x (fun I' v hx=>∃ p10 c9,v=vT y5.l∧hx=[hB r01 (cRd y6 p10 c9)]∧(S4 I' p10 y6.b c9)),.p (vP r01 0) [],.x (fun I' v hx=>∃ b4,v=vS (some ⟨b4,0,none⟩) ([7,0,3,(-1)]:List Int) 4∧hx=[]∧(SL I' (vS (some ⟨b4,0,none⟩) ([7,0,3,(-1)]:List Int) 4) ([7,0,3,(-1)]:List Int))),.x (fun I' v hx=>∃ p11 c10,v=vI y8∧hx=[hB r01 (cRd y9 p11 c10)]∧(S4 I' p11 y9.b c10)),.x (fun I' v hx=>∃ b5,v=vS (some ⟨b5,0,none⟩) ([y8]:List Int) 1∧hx=[]∧(SL I' (vS (some ⟨b5,0,none⟩) ([y8]:List Int) 1) ([y8]:List Int))),.x (fun I' v hx=>∃ b51,v=vA [vT y5.l,vS (some ⟨b51,0,none⟩) ([y8]:List Int) 1]∧hx=[]∧(SL I' (vS (some ⟨b51,0,none⟩) ([y8]:List Int) 1) ([y8]:List Int))),.x (fun I' v hx=>∃ b6,v=vS (some ⟨b6,0,none⟩) ([(zF.mk y5 ([y8]:List Int))]:List zF) 1∧hx=[]∧(SL I' (vS (some ⟨b6,0,none⟩) ([(zF.mk y5 ([y8]:List Int))]:List zF) 1) ([(zF.mk y5 ([y8]:List Int))]:List zF))),.x (fun I' v hx=>∃ p12 c11 cs4,v=vS p12 l c11∧hx=[hO zF (vS p12 l c11) cs4]∧(RL I' cs4 l))] [[],[(0,false)],[],[],[(2,false),(3,false),(14,true)],[],[],[(5,false),(6,false),(4,true)],[(7,false)],[(4,false),(8,false)],[(9,false)],[(1,false),(10,false),(15,true)]] [hB b2 (cProg y p4 c3 p5 c4),hO zL (vS p5 y.Parts c4) cs1,hB b1 zTwo] [[hB r01 (cRd y3 p6 c5)],[hO zF (vS p4 y.Arrays c3) cs]] [(7,true),(11,true)] (zY [1,3,4,0,2]) ?_ ?_
     · refine Op<|Op<|Op<|Ox ?_<|Ox ?_<|Op<|Ox ?_<|Ox ?_<|Ox ?_<|Ox ?_<|Ox ?_<|Ox ?_<|On
       · intro I1 hf le1;refine fC [] ?_;have H:=iS I1;refine pW (rT [(⟨[65]⟩:Str),(⟨[68]⟩:Str),(⟨[69]⟩:Str)]) ?_;intro b3 I04 le3 h12;have H:=H.trans le3;exact yN [] H ⟨_,rfl,rfl,h12⟩
       · rintro I1 hf le1 _ _ ⟨rfl,rfl⟩ _ _ ⟨b3,rfl,rfl,h12⟩ _ _ rfl;refine yS [18,19] rfl ?_;have H:=iS I1;have h7:=h7.mono le1;refine uQ (gT y3 ([(⟨[65]⟩:Str),(⟨[68]⟩:Str),(⟨[69]⟩:Str)]:List Str) _ hy2 h7 h12) rfl ?_;rintro I05 hs2 v2 k2 le4 - ⟨v02,kk1,rfl,rfl,rfl,h14⟩ -;have H:=H.trans le4;obtain ⟨p10,c9,rfl,h15⟩:=zW h14;exact yN [hB r01 (cRd y6 p10 c9)] H ⟨_,_,rfl,rfl,h15⟩
       · intro I1 hf le1;refine fC [] ?_;have H:=iS I1;refine pW (rI [7,0,3,(-1)]) ?_;intro b4 I06 le5 h17;have H:=H.trans le5;exact yN [] H ⟨_,rfl,rfl,h17⟩
       · rintro I1 hf le1 _ _ ⟨rfl,rfl⟩ _ _ ⟨b4,rfl,rfl,h17⟩ _ _ ⟨p10,c9,rfl,rfl,h15⟩;refine yS [21,22] rfl ?_;have H:=iS I1;refine uQ (yR y6 ([7,0,3,(-1)]:List Int) _ hy3 h15 h17) rfl ?_;rintro I07 hs2 v2 k2 le6 - ⟨v04,kk2,rfl,rfl,rfl,h19⟩ -;have H:=H.trans le6;obtain ⟨p11,c10,rfl,h20⟩:=zW h19;exact yN [hB r01 (cRd y9 p11 c10)] H ⟨_,_,rfl,rfl,h20⟩
       · rintro I1 hf le1 _ _ ⟨p11,c10,rfl,rfl,h20⟩;refine yS [23] rfl ?_;have H:=iS I1;refine pW (rI [y8]) ?_;intro b5 I08 le7 h22;have H:=H.trans le7;exact yN [] H ⟨_,rfl,rfl,h22⟩
       · rintro I1 hf le1 _ _ ⟨p10,c9,rfl,rfl,h15⟩ _ _ ⟨b5,rfl,rfl,h22⟩;exact yS [20,24] rfl<|qQ 10 [(25,vA [vT y5.l,vS (some ⟨b5,0,none⟩) ([y8]:List Int) 1])]<|yN [] iR ⟨_,rfl,rfl,h22⟩
       · rintro I1 hf le1 _ _ ⟨b51,rfl,rfl,h221⟩;refine yS [25] rfl ?_;have H:=iS I1;refine pW (rc (zF.mk y5 ([y8]:List Int)) (nK ⟨_,rfl,h221⟩) rN) ?_;intro b6 I09 le8 h24;have H:=H.trans le8;exact yN [] H ⟨_,rfl,rfl,h24⟩
       rintro I1 hf le1 _ _ ⟨rfl,rfl⟩ _ _ ⟨b6,rfl,rfl,h24⟩ _ _ rfl;refine yS [17,26] rfl ?_;have h3:=iM le1 h3;obtain ⟨ccs,k0,k01⟩:=h24;have h24:SL I1 (vS (some ⟨b6,0,none⟩) ([(zF.mk y5 ([y8]:List Int))]:List zF) 1) ([(zF.mk y5 ([y8]:List Int))]:List zF):=⟨_,k0,k01⟩;exact pP 147 2 0 rfl rfl rfl h3 (.inl k0) k01 hy4 fun p12 c11 cs4 h25=>uR (hs':=(hO zF (vS p12 l c11) cs4::hB b2 (cProg y p4 c3 p5 c4)::hO zL (vS p5 y.Parts c4) cs1::hB b1 zTwo::hf)) rfl<|yN [hO zF (vS p12 l c11) cs4] iR ⟨_,_,_,rfl,rfl,h25⟩
     rintro I010 le9 _ _ ⟨p11,c10,rfl,rfl,h20⟩ _ _ ⟨p12,c11,cs4,rfl,rfl,h25⟩;refine yS [4,5,27] rfl ?_;have ⟨h4,H⟩:=m2 le9 h4 H;exact yD 13 [] [28] rfl<|xI 2 [vS p12 l c11,vS p5 y.Parts c4] rfl<|yC rfl<|xV (zX [1,2,0,3,4] rfl (by decide))<|yQ<|zR ⟨_,_,_,_,_,_,_,_,_,_,_,(zC N).symm,H,h25,h4,h20,rfl,rfl⟩
   intro hc N;refine yH [29] rfl<|zJ ?_;obtain ⟨o01,ho01,hMc1⟩:=zB N;refine pM (fun I' hs' m'=>∃ (Arrays1:List zF) (Parts1:List zL) (x1:zH) (p13:Option Addr) (c12:Nat) (cs5:List Value) (p14:Option Addr) (c13:Nat) (cs6:List Value) (p15:Option Addr) (c14:Nat),o01=(Arrays1,Parts1,x1)∧I02.le I'∧(RL I' cs5 Arrays1)∧(RL I' cs6 Parts1)∧(S4 I' p15 x1.b c14)∧hs'=[hB r01 (cRd x1 p15 c14),hB b2 [vS p13 Arrays1 c12,vS p14 Parts1 c13],hO zF (vS p13 Arrays1 c12) cs5,hO zL (vS p14 Parts1 c13) cs6,hB b1 zTwo]∧m'=[(4,vP b1 0),(5,vP b2 0)]) ?_ ?_
   · have H:=iS I02;refine yE ho01 ?_ ?_
     · intro hc1 N;refine yB<|yI [1] [34] rfl<|zJ ?_;obtain ⟨o02,ho02,hMc2⟩:=zB N;refine pM (fun I' hs' m'=>∃ (Arrays2:List zF) (x2:zH) (p16:Option Addr) (c15:Nat) (cs7:List Value) (p17:Option Addr) (c16:Nat),o02=(Arrays2,x2)∧I02.le I'∧(RL I' cs7 Arrays2)∧(S4 I' p17 x2.b c16)∧hs'=[hB r01 (cRd x2 p17 c16),hB b2 [vS p16 Arrays2 c15,vS p5 y.Parts c4],hO zF (vS p16 Arrays2 c15) cs7,hO zL (vS p5 y.Parts c4) cs1,hB b1 zTwo]∧m'=[(4,vP b1 0),(5,vP b2 0)]) ?_ ?_
       · have H:=iS I02;refine yE ho02 ?_ ?_
         · intro hc2 N;obtain ⟨⟨y11,y12⟩,hy5,N⟩:=zB N;refine wS [.p (vP b2 0) [],.p (vS p4 y.Arrays c3) [0],.p (vP r01 0) [],.x (fun I' v hx=>∃ b7,v=vS (some ⟨b7,0,none⟩) ([1,2,7]:List Int) 3∧hx=[]∧(SL I' (vS (some ⟨b7,0,none⟩) ([1,2,7]:List Int) 3) ([1,2,7]:List Int))),.x (fun I' v hx=>∃ p18 c17,v=vI y11∧hx=[hB r01 (cRd y12 p18 c17)]∧(S4 I' p18 y12.b c17)),.x (fun I' v hx=>∃ b8,v=vS (some ⟨b8,0,none⟩) ([y11]:List Int) 1∧hx=[]∧(SL I' (vS (some ⟨b8,0,none⟩) ([y11]:List Int) 1) ([y11]:List Int)))] [[],[(0,false)],[],[],[(2,false),(3,false),(9,true)],[(4,false)]] [hB b2 (cProg y p4 c3 p5 c4),hO zF (vS p4 y.Arrays c3) cs,hO zL (vS p5 y.Parts c4) cs1,hB b1 zTwo] [[hB r01 (cRd y3 p6 c5)]] [(1,false),(4,true),(5,false)] (zY [1,2,3,4,0]) ?_ ?_
           · refine Op<|Op<|Op<|Ox ?_<|Ox ?_<|Ox ?_<|On
             · intro I1 hf le1;refine fC [] ?_;have H:=iS I1;refine pW (rI [1,2,7]) ?_;intro b7 I013 le10 h32;have H:=H.trans le10;exact yN [] H ⟨_,rfl,rfl,h32⟩
             · rintro I1 hf le1 _ _ ⟨rfl,rfl⟩ _ _ ⟨b7,rfl,rfl,h32⟩ _ _ rfl;refine yS [37,38] rfl ?_;have H:=iS I1;have h7:=h7.mono le1;refine uQ (yR y3 ([1,2,7]:List Int) _ hy5 h7 h32) rfl ?_;rintro I014 hs2 v2 k2 le11 - ⟨v06,kk3,rfl,rfl,rfl,h34⟩ -;have H:=H.trans le11;obtain ⟨p18,c17,rfl,h35⟩:=zW h34;exact yN [hB r01 (cRd y12 p18 c17)] H ⟨_,_,rfl,rfl,h35⟩
             rintro I1 hf le1 _ _ ⟨p18,c17,rfl,rfl,h35⟩;refine yS [39] rfl ?_;have H:=iS I1;refine pW (rI [y11]) ?_;intro b8 I015 le12 h37;have H:=H.trans le12;exact yN [] H ⟨_,rfl,rfl,h37⟩
           rintro I016 le13 _ _ ⟨rfl,rfl⟩ _ _ ⟨p18,c17,rfl,rfl,h35⟩ _ _ ⟨b8,rfl,rfl,h37⟩;refine yS [4,5,36,40] rfl ?_;have ⟨h3,H⟩:=m2 le13 h3 H;obtain ⟨x3,hy6,N⟩:=zB N;refine kR 2 rfl rfl rfl h3 hy6 ?_;intro ad ccs1 hat1 hcc hrep;obtain ⟨p19,c18,rfl,h38⟩:=wT hrep;refine yD 8 [] [42] rfl ?_;obtain ⟨l1,hy7,N⟩:=zB N;refine oA (c:=[vT x3.Name.l,vS (some ⟨b8,0,none⟩) ([y11]:List Int) 1]) (x':=(zF.mk x3.Name ([y11]:List Int))) 2 1 rfl rfl rfl hat1 rfl rfl hcc (by kernel_rfl) (by kernel_rfl) (by kernel_rfl) h3 hy6 (by kernel_rfl) (nK ⟨_,rfl,h37⟩) ?_;rw [show y.Arrays.set (0:Int).toNat (zF.mk x3.Name ([y11]:List Int))=l1 from zC hy7];intro cs8 h39 hl07;exact jI (m':=[(4,vP b1 0),(5,vP b2 0),(40,vS (some ⟨b8,0,none⟩) ([y11]:List Int) 1)]) ⟨rfl,rfl,rfl,trivial⟩<|zBr (hs':=[hB r01 (cRd y12 p18 c17),hB b2 [vS p4 l1 c3,vS p5 y.Parts c4],hO zF (vS p4 l1 c3) cs8,hO zL (vS p5 y.Parts c4) cs1,hB b1 zTwo]) (m':=[(4,vP b1 0),(5,vP b2 0),(40,vS (some ⟨b8,0,none⟩) ([y11]:List Int) 1)]) (by first | rfl | simp only [vS,hl07,List.nil_append,List.cons_append,List.set_cons_zero,List.set_cons_succ,List.eraseIdx_cons_zero,List.eraseIdx_cons_succ]) (by first | rfl | simp only [vS,hl07])<|yC rfl<|yQ<|zR ⟨_,_,_,_,_,_,_,(zC N).symm,H,h39,h35,rfl,rfl⟩
         intro hc2 N;exact zT<|yQ<|zR ⟨_,_,_,_,_,_,_,(zC N).symm,H,h3,h7,rfl,rfl⟩
       rintro I012 hs2 m2 ⟨Arrays2,x2,p16,c15,cs7,p17,c16,heq,le14,h29,h30,rfl,rfl⟩;subst o02;have ⟨h4,H⟩:=m2 le14 h4 H;exact yQ<|zR ⟨_,_,_,_,_,_,_,_,_,_,_,(zC hMc2).symm,H,h29,h4,h30,rfl,rfl⟩
     intro hc1 N;refine yH [43] rfl<|zJ ?_;obtain ⟨o03,ho03,hMc3⟩:=zB N;refine pM (fun I' hs' m'=>∃ (Parts2:List zL) (x4:zH) (p20:Option Addr) (c19:Nat) (cs9:List Value) (p21:Option Addr) (c20:Nat),o03=(Parts2,x4)∧I02.le I'∧(RL I' cs9 Parts2)∧(S4 I' p21 x4.b c20)∧hs'=[hB r01 (cRd x4 p21 c20),hB b2 [vS p4 y.Arrays c3,vS p20 Parts2 c19],hO zF (vS p4 y.Arrays c3) cs,hO zL (vS p20 Parts2 c19) cs9,hB b1 zTwo]∧m'=[(4,vP b1 0),(5,vP b2 0)]) ?_ ?_
     · have H:=iS I02;refine yE ho03 ?_ ?_
       · intro hc3 N;refine yH [46] rfl<|zJ ?_;obtain ⟨o04,ho04,hMc4⟩:=zB N;refine pM (fun I' hs' m'=>∃ (Parts3:List zL) (x5:zH) (p22:Option Addr) (c21:Nat) (cs10:List Value) (p23:Option Addr) (c22:Nat),o04=(Parts3,x5)∧I02.le I'∧(RL I' cs10 Parts3)∧(S4 I' p23 x5.b c22)∧hs'=[hB r01 (cRd x5 p23 c22),hB b2 [vS p4 y.Arrays c3,vS p22 Parts3 c21],hO zF (vS p4 y.Arrays c3) cs,hO zL (vS p22 Parts3 c21) cs10,hB b1 zTwo]∧m'=[(4,vP b1 0),(5,vP b2 0)]) ?_ ?_
         · have H:=iS I02;refine yE ho04 ?_ ?_
           · intro hc4 N;obtain ⟨x6,hy8,N⟩:=zB N;obtain ⟨⟨y14,y15⟩,hy9,N⟩:=zB N;obtain ⟨⟨y17,y18⟩,hy10,N⟩:=zB N;obtain ⟨⟨y20,y21⟩,hy11,N⟩:=zB N;refine wS [.p (vP b2 1) [],.p (vS p5 y.Parts c4) [0],.p (vP r01 0) [],.p (vP r01 0) [],.p (vP r01 0) [],.p (vP b2 1) [],.p (vS p5 y.Parts c4) [0],.x (fun I' v hx=>∃ ad1 p24 c23 p25 c24,v=.pointer (some ad1)∧hx=[]∧(AtO (vS p5 y.Parts c4) (Rp.sz zL) (0:Int).toNat ad1)∧((cs1.drop ((0:Int).toNat * Rp.sz zL)).take (Rp.sz zL)=(cPart x6 p24 c23 p25 c24))∧(S4 I' p24 x6.Nest c23)∧(S4 I' p25 x6.Body c24)),.x (fun I' v hx=>∃ ad11 p241 c231 p251 c241,v=.pointer (some ad11)∧hx=[]∧(AtO (vS p5 y.Parts c4) (Rp.sz zL) (0:Int).toNat ad11)∧((cs1.drop ((0:Int).toNat * Rp.sz zL)).take (Rp.sz zL)=(cPart x6 p241 c231 p251 c241))∧(S4 I' p241 x6.Nest c231)∧(S4 I' p251 x6.Body c241)),.x (eS x6.Nest),.x (fun I' v hx=>∃ p26 c25 p27 c26,v=vS p26 y14 c25∧hx=[hB r01 (cRd y15 p27 c26)]∧(S4 I' p26 y14 c25)∧(S4 I' p27 y15.b c26)),.x (fun I' v hx=>∃ p28 c27 p29 c28,v=vS p28 y17 c27∧hx=[hB r01 (cRd y18 p29 c28)]∧(S4 I' p28 y17 c27)∧(S4 I' p29 y18.b c28)),.x (fun I' v hx=>∃ p30 c29 p31 c30,v=vS p30 y20 c29∧hx=[hB r01 (cRd y21 p31 c30)]∧(S4 I' p30 y20 c29)∧(S4 I' p31 y21.b c30))] [[],[(0,false)],[],[],[],[],[(5,false)],[(6,false)],[(7,false)],[(8,false)],[(4,false),(9,false),(16,true)],[(3,false),(10,true)],[(2,false),(11,true)]] [hB b2 (cProg y p4 c3 p5 c4),hO zF (vS p4 y.Arrays c3) cs,hO zL (vS p5 y.Parts c4) cs1,hB b1 zTwo] [[hB r01 (cRd y3 p6 c5)]] [(1,false),(12,true)] (zY [1,2,3,4,0]) ?_ ?_
             · refine Op<|Op<|Op<|Op<|Op<|Op<|Op<|Ox ?_<|Ox ?_<|Ox ?_<|Ox ?_<|Ox ?_<|Ox ?_<|On
               · intro I1 hf le1;refine yS [53] rfl ?_;have h4:=iM le1 h4;refine kR 2 rfl rfl rfl h4 hy8 ?_;intro ad1 ccs2 hat2 hcc1 hrep1;obtain ⟨p24,c23,p25,c24,rfl,h44,h45⟩:=wE hrep1;exact yN [] iR ⟨_,_,_,_,_,rfl,rfl,hat2,hcc1,h44,h45⟩
               · rintro I1 hf le1 _ _ ⟨ad1,p24,c23,p25,c24,rfl,rfl,hat2,hcc1,h44,h45⟩;exact yS [54] rfl<|qQ 9 [(55,.pointer (some ad1))]<|yN [] iR ⟨_,_,_,_,_,rfl,rfl,hat2,hcc1,h44,h45⟩
               · rintro I1 hf le1 _ _ ⟨ad11,p241,c231,p251,c241,rfl,rfl,hat21,hcc11,h441,h451⟩;exact yS [55] rfl<|zDs 2 0 hat21 hcc11 [vS p241 x6.Nest c231] (vS p241 x6.Nest c231) rfl rfl<|yN [] iR ⟨_,_,rfl,rfl,h441⟩
               · rintro I1 hf le1 _ _ ⟨rfl,rfl⟩ _ _ ⟨p2411,c2311,rfl,rfl,h4411⟩ _ _ rfl;refine yS [51,56] rfl ?_;have H:=iS I1;have h7:=h7.mono le1;refine uQ (gV y3 x6.Nest _ hy9 h7 h4411) rfl ?_;rintro I019 hs2 v2 k2 le15 - ⟨v011,kk4,rfl,rfl,h46,h47⟩ -;have H:=H.trans le15;obtain ⟨p26,c25,rfl⟩:=h46.form;obtain ⟨p27,c26,rfl,h48⟩:=zW h47;exact yN [hB r01 (cRd y15 p27 c26)] H ⟨_,_,_,_,rfl,rfl,h46,h48⟩
               · rintro I1 hf le1 _ _ ⟨rfl,rfl⟩ _ _ ⟨p26,c25,p27,c26,rfl,rfl,h46,h48⟩;refine yS [50,57] rfl ?_;have H:=iS I1;refine uQ (gV y15 y14 _ hy10 h48 h46) rfl ?_;rintro I020 hs2 v2 k2 le16 - ⟨v013,kk5,rfl,rfl,h49,h50⟩ -;have H:=H.trans le16;obtain ⟨p28,c27,rfl⟩:=h49.form;obtain ⟨p29,c28,rfl,h51⟩:=zW h50;exact yN [hB r01 (cRd y18 p29 c28)] H ⟨_,_,_,_,rfl,rfl,h49,h51⟩
               rintro I1 hf le1 _ _ ⟨rfl,rfl⟩ _ _ ⟨p28,c27,p29,c28,rfl,rfl,h49,h51⟩;refine yS [49,58] rfl ?_;have H:=iS I1;refine uQ (gV y18 y17 _ hy11 h51 h49) rfl ?_;rintro I021 hs2 v2 k2 le17 - ⟨v015,kk6,rfl,rfl,h52,h53⟩ -;have H:=H.trans le17;obtain ⟨p30,c29,rfl⟩:=h52.form;obtain ⟨p31,c30,rfl,h54⟩:=zW h53;exact yN [hB r01 (cRd y21 p31 c30)] H ⟨_,_,_,_,rfl,rfl,h52,h54⟩
             rintro I022 le18 _ _ ⟨rfl,rfl⟩ _ _ ⟨p30,c29,p31,c30,rfl,rfl,h52,h54⟩;refine yS [4,5,48,59] rfl ?_;have ⟨h4,H⟩:=m2 le18 h4 H;obtain ⟨x7,hy12,N⟩:=zB N;refine kR 3 rfl rfl rfl h4 hy12 ?_;intro ad2 ccs3 hat3 hcc2 hrep2;obtain ⟨p32,c31,p33,c32,rfl,h55,h56⟩:=wE hrep2;refine yD 15 [] [61] rfl ?_;obtain ⟨l2,hy13,N⟩:=zB N;refine oA (c:=[vS p30 y20 c29,vS p33 x7.Body c32]) (x':=(zL.mk y20 x7.Body)) 3 0 rfl rfl rfl hat3 rfl rfl hcc2 (by kernel_rfl) (by kernel_rfl) (by kernel_rfl) h4 hy12 (by kernel_rfl) (sQ ⟨_,_,rfl,h52,h56⟩) ?_;rw [show y.Parts.set (0:Int).toNat (zL.mk y20 x7.Body)=l2 from zC hy13];intro cs11 h57 hl08;exact jI (m':=[(4,vP b1 0),(5,vP b2 0),(59,vS p30 y20 c29)]) ⟨rfl,rfl,rfl,trivial⟩<|zBr (hs':=[hB r01 (cRd y21 p31 c30),hB b2 [vS p4 y.Arrays c3,vS p5 l2 c4],hO zF (vS p4 y.Arrays c3) cs,hO zL (vS p5 l2 c4) cs11,hB b1 zTwo]) (m':=[(4,vP b1 0),(5,vP b2 0),(59,vS p30 y20 c29)]) (by first | rfl | simp only [vS,hl08,List.nil_append,List.cons_append,List.set_cons_zero,List.set_cons_succ,List.eraseIdx_cons_zero,List.eraseIdx_cons_succ]) (by first | rfl | simp only [vS,hl08])<|yC rfl<|yQ<|zR ⟨_,_,_,_,_,_,_,(zC N).symm,H,h57,h54,rfl,rfl⟩
           intro hc4 N;exact zT<|yQ<|zR ⟨_,_,_,_,_,_,_,(zC N).symm,H,h4,h7,rfl,rfl⟩
         rintro I018 hs2 m2 ⟨Parts3,x5,p22,c21,cs10,p23,c22,heq1,le19,h42,h43,rfl,rfl⟩;subst o04;have H:=H.trans le19;exact yQ<|zR ⟨_,_,_,_,_,_,_,(zC hMc4).symm,H,h42,h43,rfl,rfl⟩
       intro hc3 N;refine yH [62] rfl<|zJ ?_;obtain ⟨o05,ho05,hMc5⟩:=zB N;refine pM (fun I' hs' m'=>∃ (Parts4:List zL) (x8:zH) (p34:Option Addr) (c33:Nat) (cs12:List Value) (p35:Option Addr) (c34:Nat),o05=(Parts4,x8)∧I02.le I'∧(RL I' cs12 Parts4)∧(S4 I' p35 x8.b c34)∧hs'=[hB r01 (cRd x8 p35 c34),hB b2 [vS p4 y.Arrays c3,vS p34 Parts4 c33],hO zF (vS p4 y.Arrays c3) cs,hO zL (vS p34 Parts4 c33) cs12,hB b1 zTwo]∧m'=[(4,vP b1 0),(5,vP b2 0)]) ?_ ?_
       · have H:=iS I02;refine yE ho05 ?_ ?_
         · intro hc5 N;refine zZ ?_;refine wD N [hB r01 (cRd y3 p6 c5),hB b2 (cProg y p4 c3 p5 c4),hO zF (vS p4 y.Arrays c3) cs,hO zL (vS p5 y.Parts c4) cs1,hB b1 zTwo] (fun t76=>[(0,vP r01 0),(4,vP b1 0),(5,vP b2 0),(6,vI (y.Parts.length:Int)),(76,.bool t76)]) (fun o06 ho06=>?_) ?_
           · have H:=iS I02;refine zO<|yD 3 [] [66] rfl<|xQ [66] ho06 ?_ ?_
             · intro hc6 N;refine yD 7 [1] [68,70] rfl<|bE N fun x9 hy14 N=>kR 3 rfl rfl rfl h4 hy14 ?_;intro ad3 ccs4 hat4 hcc3 hrep3;obtain ⟨p36,c35,p37,c36,rfl,h60,h61⟩:=wE hrep3;exact yD 9 [] [72] rfl<|zDs 3 1 hat4 hcc3 [vS p37 x9.Body c36] (vS p37 x9.Body c36) rfl rfl<|yI [] [76] rfl<|yQ<|zR (ct N H)
             intro hc6 N;exact xY [] [(76,vF)]<|yQ<|zR (ct N H)
           intro t76 I024 le20 hMc6;have ⟨h7,h4,H⟩:=m3 le20 h7 h4 H;refine zJ ?_;obtain ⟨o07,ho07,hMc7⟩:=zB hMc6;refine pM (fun I' hs' m'=>∃ (Parts5:List zL) (x10:zH) (p38:Option Addr) (c37:Nat) (cs13:List Value) (p39:Option Addr) (c38:Nat),o07=(Parts5,x10)∧I024.le I'∧(RL I' cs13 Parts5)∧(S4 I' p39 x10.b c38)∧hs'=[hB r01 (cRd x10 p39 c38),hB b2 [vS p4 y.Arrays c3,vS p38 Parts5 c37],hO zF (vS p4 y.Arrays c3) cs,hO zL (vS p38 Parts5 c37) cs13,hB b1 zTwo]∧m'=[(4,vP b1 0),(5,vP b2 0)]) ?_ ?_
           · have H:=iS I024;refine yE ho07 ?_ ?_
             · intro hc7 N;obtain ⟨x11,hy15,N⟩:=zB N;obtain ⟨x12,hy16,N⟩:=zB N;obtain ⟨⟨y22,y23⟩,hy17,N⟩:=zB N;obtain ⟨⟨y24,y25⟩,hy18,N⟩:=zB N;obtain ⟨⟨y26,y27⟩,hy19,N⟩:=zB N;obtain ⟨l3,hy20,N⟩:=zB N;have hF:False:=hne _ _ _ _ _ (by assumption) (by assumption) (by assumption) hy15 hy16;obtain ⟨p40,c39,cs14,p41,c40,h64,h65⟩:∃ p40 c39 cs14 p41 c40,(RL I024 cs14 l3)∧(S4 I024 p41 y27.b c40):=hF.elim;exact zJF hF (imm':=I024) (hs':=[hB r01 (cRd y27 p41 c40),hB b2 [vS p4 y.Arrays c3,vS p40 l3 c39],hO zF (vS p4 y.Arrays c3) cs,hO zL (vS p40 l3 c39) cs14,hB b1 zTwo]) (m':=[(0,vP r01 0),(4,vP b1 0),(5,vP b2 0),(6,vI (y.Parts.length:Int)),(76,.bool t76)])<|yQ<|zR ⟨_,_,_,_,_,_,_,(zC N).symm,H,h64,h65,rfl,rfl⟩
             intro hc7 N;exact zT<|yQ<|zR ⟨_,_,_,_,_,_,_,(zC N).symm,H,h4,h7,rfl,rfl⟩
           rintro I025 hs2 m2 ⟨Parts5,x10,p38,c37,cs13,p39,c38,heq3,le21,h62,h63,rfl,rfl⟩;subst o07;have H:=H.trans le21;exact yQ<|zR ⟨_,_,_,_,_,_,_,(zC hMc7).symm,H,h62,h63,rfl,rfl⟩
         intro hc5 N;refine yH [100] rfl<|zJ ?_;obtain ⟨o08,ho08,hMc8⟩:=zB N;refine pM (fun I' hs' m'=>∃ (Parts6:List zL) (p42:Option Addr) (c41:Nat) (cs15:List Value),o08=Parts6∧I02.le I'∧(RL I' cs15 Parts6)∧hs'=[hB r01 (cRd y3 p6 c5),hB b2 [vS p4 y.Arrays c3,vS p42 Parts6 c41],hO zF (vS p4 y.Arrays c3) cs,hO zL (vS p42 Parts6 c41) cs15,hB b1 zTwo]∧m'=[(4,vP b1 0),(5,vP b2 0)]) ?_ ?_
         · have H:=iS I02;refine yE ho08 ?_ ?_
           · intro hc8 N;refine yH [103] rfl<|zJ ?_;obtain ⟨o09,ho09,hMc9⟩:=zB N;refine pM (fun I' hs' m'=>∃ (Parts7:List zL) (p43:Option Addr) (c42:Nat) (cs16:List Value),o09=Parts7∧I02.le I'∧(RL I' cs16 Parts7)∧hs'=[hB r01 (cRd y3 p6 c5),hB b2 [vS p4 y.Arrays c3,vS p43 Parts7 c42],hO zF (vS p4 y.Arrays c3) cs,hO zL (vS p43 Parts7 c42) cs16,hB b1 zTwo]∧m'=[(4,vP b1 0),(5,vP b2 0)]) ?_ ?_
             · have H:=iS I02;refine yE ho09 ?_ ?_
               · intro hc9 N;refine zO<|yD 4 [1] [105,107] rfl<|bE N fun x13 hy21 N=>kR 3 rfl rfl rfl h4 hy21 ?_;intro ad4 ccs5 hat5 hcc4 hrep4;obtain ⟨p44,c43,p45,c44,rfl,h68,h69⟩:=wE hrep4;refine yD 6 [] [109] rfl ?_;obtain ⟨l4,hy22,N⟩:=zB N;refine oA (c:=[vS p44 x13.Nest c43,z0]) (x':=(zL.mk x13.Nest ([]:List zN))) 3 1 rfl rfl rfl hat5 rfl rfl hcc4 (by kernel_rfl) (by kernel_rfl) (by kernel_rfl) h4 hy21 (by kernel_rfl) (sQ ⟨_,_,rfl,h68,(SL.nil _)⟩) ?_;rw [show y.Parts.set (W ((y.Parts.length:Int) - 1)).toNat (zL.mk x13.Nest ([]:List zN))=l4 from zC hy22];intro cs17 h70 hl09;exact jI (m':=[(4,vP b1 0),(5,vP b2 0)]) ⟨rfl,rfl,trivial⟩<|zBr (hs':=[hB r01 (cRd y3 p6 c5),hB b2 [vS p4 y.Arrays c3,vS p5 l4 c4],hO zF (vS p4 y.Arrays c3) cs,hO zL (vS p5 l4 c4) cs17,hB b1 zTwo]) (m':=[(4,vP b1 0),(5,vP b2 0)]) (by first | rfl | simp only [vS,hl09,List.nil_append,List.cons_append,List.set_cons_zero,List.set_cons_succ,List.eraseIdx_cons_zero,List.eraseIdx_cons_succ]) (by first | rfl | simp only [vS,hl09])<|yC rfl<|yQ<|zR ⟨_,_,_,_,(zC N).symm,H,h70,rfl,rfl⟩
               intro hc9 N;exact zT<|yQ<|zR ⟨_,_,_,_,(zC N).symm,H,h4,rfl,rfl⟩
             rintro I027 hs2 m2 ⟨Parts7,p43,c42,cs16,heq4,le22,h67,rfl,rfl⟩;subst o09;have H:=H.trans le22;exact yQ<|zR ⟨_,_,_,_,(zC hMc9).symm,H,h67,rfl,rfl⟩
           intro hc8 N;exact zT<|yQ<|zR ⟨_,_,_,_,(zC N).symm,H,h4,rfl,rfl⟩
         rintro I026 hs2 m2 ⟨Parts6,p42,c41,cs15,heq5,le23,h66,rfl,rfl⟩;subst o08;have ⟨h7,H⟩:=m2 le23 h7 H;exact yQ<|zR ⟨_,_,_,_,_,_,_,(zC hMc8).symm,H,h66,h7,rfl,rfl⟩
       rintro I023 hs2 m2 ⟨Parts4,x8,p34,c33,cs12,p35,c34,heq6,le24,h58,h59,rfl,rfl⟩;subst o05;have H:=H.trans le24;exact yQ<|zR ⟨_,_,_,_,_,_,_,(zC hMc5).symm,H,h58,h59,rfl,rfl⟩
     rintro I017 hs2 m2 ⟨Parts2,x4,p20,c19,cs9,p21,c20,heq7,le25,h40,h41,rfl,rfl⟩;subst o03;have ⟨h3,H⟩:=m2 le25 h3 H;exact yQ<|zR ⟨_,_,_,_,_,_,_,_,_,_,_,(zC hMc3).symm,H,h3,h40,h41,rfl,rfl⟩
   rintro I011 hs2 m2 ⟨Arrays1,Parts1,x1,p13,c12,cs5,p14,c13,cs6,p15,c14,heq8,le26,h26,h27,h28,rfl,rfl⟩;subst o01;have H:=H.trans le26;exact yQ<|zR ⟨_,_,_,_,_,_,_,_,_,_,_,(zC hMc1).symm,H,h26,h27,h28,rfl,rfl⟩
 rintro I03 hs2 m2 ⟨Arrays,Parts,x,p7,c6,cs2,p8,c7,cs3,p9,c8,heq9,le27,h8,h9,h10,rfl,rfl⟩;subst o0;refine zQ<|xE<|sU 1 [1] [(110,vA [vS p7 Arrays c6,vS p8 Parts c7])]<|xI 4 [vS p7 Arrays c6,vS p8 Parts c7] rfl<|yC rfl<|xB<|xJ 2 rfl ?_;intro I028 le28 hl010;have h71:=SL.of_frozen hl010 le28 h8;have ⟨h10,h9⟩:=m2 le28 h10 h9;refine xJ 2 rfl ?_;intro I029 le29 hl011;have h72:=SL.of_frozen hl011 le29 h9;have ⟨h10,h71⟩:=m2 le29 h10 h71;obtain rfl:=zC hMc;exact xC ⟨_,_,(.cell 2 rfl rfl (by kernel_rfl) ResV.nil),(zX [0] rfl (by decide)),⟨_,_,rfl,rfl,⟨_,rfl,(nQ ⟨_,_,rfl,h71,h72⟩)⟩,(yM ⟨_,rfl,h10⟩)⟩⟩
theorem zBz (p:zK):∀ (i1:Int) (Parts:List zL) (o:List zL),uC p i1 Parts=some o→∀ {B}{I0 I:Imm}{Q}{Arrays1:List zF}{p1 c p2 c1}{b:Nat}{b1:Nat}{b2:Nat}{p4 c3 cs1 p9 c8 cs4}{raws:List Raw2}{pN pB:Option Addr}{cN cB:Nat}{nl:List zE}{bl:List zN}{csB:List Value},I0.le I→(RL I cs1 Arrays1)→(S4 I p1 p.Arrays c)→(S4 I p2 p.Parts c1)→(RL I cs4 raws)→LP I raws Parts (vS pN nl cN) nl (vS pB bl cB) bl→SL I (vS pN nl cN) nl→RL I csB bl→(∀ l a w,¬Q (.goto l) a w)→(∀ a w,¬Q .outgrown a w)→(∀ (I':Imm) (p10:Option Addr) (c9:Nat) (cs5:List Value) (raws1:List Raw2) (pN pB:Option Addr) (cN cB:Nat) (nl:List zE) (bl:List zN) (csB:List Value),I0.le I'→(RL I' cs5 raws1)→LP I' raws1 o (vS pN nl cN) nl (vS pB bl cB) bl→SL I' (vS pN nl cN) nl→RL I' csB bl→T 84 B Q (.exit 2) I' [hO zN (vS pB bl cB) csB,hO Raw2 (vS p10 raws1 c9) cs5,hO zF (vS p4 Arrays1 c3) cs1,hB b2 [vS p4 Arrays1 c3,vS p10 raws1 c9],hB b1 zTwo] [(2,vP b1 0),(3,vP b2 0)])→J Tryz.prog 84 B (nav (bodyOf Tryz.f117) [1,1,1,0,1,0]) Q I [hO zN (vS pB bl cB) csB,hO Raw2 (vS p9 raws c8) cs4,hO zF (vS p4 Arrays1 c3) cs1,hB b2 [vS p4 Arrays1 c3,vS p9 raws c8],hB b1 zTwo,hB b (cProg p p1 c p2 c1)] [(1,vP b 0),(2,vP b1 0),(3,vP b2 0),(5,vI i1)]:=by
 refine uC.partial_correctness p _ fun self ih i1 Parts o N B I0 I Q Arrays1 p1 c p2 c1 b b1 b2 p4 c3 cs1 p9 c8 cs4 raws pN pB cN cB nl bl csB H h4 h h1 hRw hLP hN hBd hg ho hx=>yY hg ho<|zZ<|yB<|yI [5] [40] rfl<|zJ<|yE N ?_ ?_
 · intro hc1 N;refine oY 0 rfl ?_;intro immf lef hlf;have kB:=SL.of_frozen hlf lef hBd;have ⟨h4,h,h1,hN,hRw,hLP⟩:=m6 lef h4 h h1 hN hRw hLP;have H:=H.trans lef;have h14:=hLP.done hN kB;rw [← jG hRw] at h14;have eP:vS p9 raws c8=vS p9 Parts c8:=by simp only [vS,hLP.2.1]
   rw [eP];clear hBd hlf;refine zT<|yA<|yL<|yB<|yD 3 [4] [44,45] rfl<|bE N fun x2 hy4 N=>xS rfl rfl h1 hy4 ?_;intro ad3 ccs4 hat3 hrep2;obtain ⟨p11,c10,p12,c11,rfl,h16,h17⟩:=wE hrep2;refine yD 5 [] [47] rfl<|xL 0 hat3 [vS p11 x2.Nest c10] (vS p11 x2.Nest c10) rfl<|bE N fun y hy5 N=>xP (zBC x2.Nest _ hy5 h16) ?_;rintro I04 hs2 v2 k2 le4 - ⟨v04,rfl,rfl,h18⟩ -;have ⟨h14,hRw,hLP,hN⟩:=m4 le4 h14 hRw hLP hN;replace kB:=kB.mono le4;have ⟨h4,h,h1,H⟩:=m4 le4 h4 h h1 H;obtain ⟨p13,c12,rfl⟩:=h18.form;refine yD 8 [] [50] rfl<|wU zTwo ?_;intro b5 hb5;refine xI 0 [vS p13 y c12,z0] rfl<|yC rfl<|yA<|yH [7] rfl<|wK<|oM [(1,vP b 0),(2,vP b1 0),(3,vP b2 0),(5,vI i1),(6,vP b5 0),(7,vI 0)]<|zAE zN fun h19=>?_;obtain ⟨o01,ho01,hMl1⟩:=zB N;refine dG p i1 0 ([]:List zN) o01 ho01 iR h18 h14 h4 h h1 h19 (fun _ _ _ h=>hg _ _ _ h) (fun _ _ h=>ho _ _ h) ?_;intro I010 Body1 p15 c14 cs7 heq1 le10 h21;subst o01;have ⟨h18,hRw,hLP,hN⟩:=m4 le10 h18 hRw hLP hN;replace kB:=kB.mono le10;have ⟨h4,h,h1,H⟩:=m4 le10 h4 h h1 H;obtain ⟨l3,hy11,N⟩:=zB hMl1;have hy12:=zHz (l':=raws) (m':=[(⟨vS p13 y c12,vS p15 Body1 c14⟩:Raw2)]) hy11 hLP.2.1 rfl;have h40:RL I010 [vS p13 y c12,vS p15 Body1 c14] [(⟨vS p13 y c12,vS p15 Body1 c14⟩:Raw2)]:=⟨[vS p13 y c12,vS p15 Body1 c14],[],rfl,rfl,⟨rfl,rfl,rfl⟩,rfl⟩;refine zV<|zJ<|zO<|sU 3 [4,1] [(78,vS p9 Parts c8),(79,vA [vS p13 y c12,vS p15 Body1 c14])]<|tJ [vS p13 y c12,vS p15 Body1 c14] Raw2 ?_;intro b7 hb7;refine pP (α:=Raw2) 36 2 3 rfl rfl rfl hRw (.inr ⟨0,rfl⟩) h40 hy12 ?_;intro p29 c28 cs11 h41;exact sX (zY [1,3,4,5,6,7] (hs':=[hO zN (vS p15 Body1 c14) cs7,hO Raw2 (vS p29 (raws ++ [(⟨vS p13 y c12,vS p15 Body1 c14⟩:Raw2)]) c28) cs11,hO zF (vS p4 Arrays1 c3) cs1,hB b2 [vS p4 Arrays1 c3,vS p9 Parts c8],hB b1 zTwo,hB b (cProg p p1 c p2 c1)]))<|yD 6 [] [82] rfl<|xI 3 [vS p4 Arrays1 c3,vS p29 (raws ++ [(⟨vS p13 y c12,vS p15 Body1 c14⟩:Raw2)]) c28] rfl<|yC rfl<|zQ<|zJ<|zO<|yI [] [5] rfl<|yZ<|mW<|ih (W (i1 + 1)) l3 _ N H h4 h h1 h41 (hLP.push hN kB hy11) h18 h21 hg ho hx
 intro hc1 N;have:=zC N;simp only [id] at this;subst this;exact uA<|xV (zX [0,1,2,3,4] rfl (by decide))<|yQ<|hx _ _ _ _ _ _ _ _ _ _ _ _ H hRw hLP hN hBd
def zCe (r:zK):KT:=fun kk I' hs' v=>
  ∃ (a0:Option Addr) (c0:Nat) (s0:List Value) (a1:Option Addr) (c1:Nat) (s1:List Value) (raws:List Raw2) (pN pB:Option Addr) (cN cB:Nat) (nl:List zE) (bl:List zN) (csB:List Value),hs'=[hO zN (vS pB bl cB) csB,hO Raw2 (vS a1 raws c1) s1,hO zF (vS a0 r.Arrays c0) s0]∧v=tupV [vA [vS a0 r.Arrays c0,vS a1 raws c1]]∧RL I' s0 r.Arrays∧RL I' s1 raws∧LP I' raws r.Parts (vS pN nl cN) nl (vS pB bl cB) bl∧SL I' (vS pN nl cN) nl∧RL I' csB bl
theorem zDw:∀ (p:zK) r,rK p=some r→∀ {I:Imm}{p1 c p2 c1},(S4 I p1 p.Arrays c)→(S4 I p2 p.Parts c1)→RT 117 [vA (cProg p p1 c p2 c1)] I [] (zCe r):=by
 intro p r N I p1 c p2 c1 h h1;unfold rK at N;refine yJ Tryz.func117 fun B=>yB<|vM (cProg p p1 c p2 c1) ?_;intro b hb;refine wU zTwo ?_;intro b1 hb1;refine yC rfl<|xE<|yD 1 [] [8] rfl<|wU zTwo ?_;intro b2 hb2;refine zDR 0 zTwo [hB b2 zTwo,hB b1 zTwo,hB b (cProg p p1 c p2 c1)] rfl rfl rfl rfl<|yC rfl<|yA<|yH [4] rfl<|wK<|oM [(1,vP b 0),(2,vP b1 0),(3,vP b2 0),(4,vI 0)]<|zAE zF fun h2=>?_;obtain ⟨o0,ho0,hMl⟩:=zB N;refine dE p 0 ([]:List zF) o0 ho0 iR h h1 h2 (fun _ _ _ h=>h) (fun _ _ h=>h) ?_;intro I03 Arrays1 p4 c3 cs1 heq le3 h4;subst o0;have ⟨h,h1⟩:=m2 le3 h h1;refine zV<|yA<|yH [5] rfl<|wK<|oM [(1,vP b 0),(2,vP b1 0),(3,vP b2 0),(5,vI 0)]<|kP (zAx (Rp.sz Raw2))<|kP (zAx (Rp.sz zN)) ?_;obtain ⟨o02,ho02,hMl2⟩:=zB hMl;refine zBz p 0 ([]:List zL) o02 ho02 (raws:=[]) (pN:=none) (pB:=none) (cN:=0) (cB:=0) (nl:=[]) (bl:=[]) iR h4 h h1 RepL.nil LP.nil (SL.nil _) RepL.nil (fun _ _ _ h=>h) (fun _ _ h=>h) ?_;intro I012 p10 c9 cs5 raws1 pN pB cN cB nl bl csB le12 hRw hLP hN hBd;have h4:=iM le12 h4;obtain rfl:=zC hMl2;exact zV<|xE<|sU 1 [3] [(83,vA [vS p4 Arrays1 c3,vS p10 raws1 c9])]<|xI 4 [vS p4 Arrays1 c3,vS p10 raws1 c9] rfl<|yC rfl<|xB<|xC ⟨_,_,(.cell 4 rfl rfl (by kernel_rfl) ResV.nil),(zX [0,1,2] rfl (by decide)),⟨_,_,_,_,_,_,_,_,_,_,_,_,_,_,rfl,rfl,h4,hRw,hLP,hN,hBd⟩⟩
theorem zJK {raws:List Raw2}{k:Nat}{r:Raw2} (h:raws[k]?=some r):raws.set k r=raws:=by
  obtain ⟨hk,e⟩:=List.getElem?_eq_some_iff.1 h;subst e;exact List.set_getElem_self hk
theorem zCf (r0:zH) (p1:zK) (r:zK×zH) (N:qM r0 p1=some r) {y:zK}{y3:zH}{x:zL}{s:zN} (hy:rK p1=some y) (hy1:yO r0 60=some (3,y3)) (hx:idx y.Parts (W ((y.Parts.length:Int) - 1))=some x) (hs:idx x.Body 0=some s) :
    ∀ {I:Imm}{r01:Nat}{p c p2 c1 p3 c2},(S4 I p r0.b c)→(S4 I p2 p1.Arrays c1)→(S4 I p3 p1.Parts c2)→RT 58 [vP r01 0,vA (cProg p1 p2 c1 p3 c2)] I [hB r01 (cRd r0 p c)] (jW r01 r):=by
 intro I r01 p c p2 c1' p3 c2 h h1 h2
 obtain ⟨i0,i1,i2⟩:=rP hx
 obtain ⟨j0,j1,j2⟩:=rP hs
 have hn:(y.Parts.length:Int) > 0:=by
   have:=(List.getElem?_eq_some_iff.1 i2).1; omega
 have hb:(x.Body.length:Int) > 0:=by
   have:=(List.getElem?_eq_some_iff.1 j2).1; omega
 have e0:((3:Int) == 0)=false:=rfl
 have e1:((3:Int) == 1)=false:=rfl
 have e2:((3:Int) == 2)=false:=rfl
 have e3:((3:Int) == 3)=true:=rfl
 unfold qM at N
 simp only [hy,hy1,e0,e1,e2,e3,hn,hb,hx,hs,decide_true,if_true,Bool.false_eq_true,if_false,Option.pure_def,Option.bind_eq_bind,Option.bind_some] at N
 cases hm1:tT y3 s with
 | none=>rw [hm1] at N; cases N
 | some q1 =>
 obtain ⟨y22,y23⟩:=q1
 simp only [hm1,Option.bind_some] at N
 cases hm2:tT y23 y22 with
 | none=>rw [hm2] at N; cases N
 | some q2 =>
 obtain ⟨y24,y25⟩:=q2
 simp only [hm2,Option.bind_some] at N
 cases hm3:tT y25 y24 with
 | none=>rw [hm3] at N; cases N
 | some q3 =>
 obtain ⟨y26,y27⟩:=q3
 simp only [hm3,Option.bind_some,Option.some.injEq] at N
 subst N
 refine yJ Tryz.func58 fun B=>yB<|vM [vS p2 p1.Arrays c1',vS p3 p1.Parts c2] ?_
 intro b hb
 refine wU zTwo ?_
 intro b1 hb1
 refine yC rfl<|xE<|sU 1 [1] [(7,vA [vS p2 p1.Arrays c1',vS p3 p1.Parts c2])]<|xP (zDw p1 _ hy h1 h2) ?_
 rintro I0 hs2 v2 k2 le - ⟨a0,c0,s0,a1,c1,s1,raws,pN,pB,cN,cB,nl,bl,csB,rfl,rfl,h3,hRw,hLP,hN,hBd⟩ -
 have h:=h.mono le
 clear h1 h2
 rw [hLP.len] at hx hn i0 i1 i2
 obtain ⟨rfl,hraw,hset⟩:=hLP.last hx
 simp only at hs hb j0 j1 j2 hm1
 have hset:=hset (vS pN nl cN) nl (vS pB bl cB) (bl.set 0 y26)
 rw [zJK (rP hraw).2.2] at hset
 refine wU zTwo ?_
 intro b2 hb2
 refine xI 0 [vS a0 y.Arrays c0,vS a1 raws c1] rfl<|yC rfl<|xE<|yI [0] [6] rfl<|yA<|yB<|yD 1 [] [12] rfl<|sX (zY [6,1,2,0,3,4] (hs':=[hB r01 (cRd r0 p c),hO zN (vS pB bl cB) csB,hO Raw2 (vS a1 raws c1) s1,hB b2 [vS a0 y.Arrays c0,vS a1 raws c1],hO zF (vS a0 y.Arrays c0) s0,hB b1 zTwo]))<|uQ (xA r0 60 _ hy1 h) rfl ?_
 rintro I01 hs2 v2 k2 le1 - ⟨v0,kk,rfl,rfl,rfl,h6⟩ -
 obtain ⟨v01,rfl,h7⟩:=jU h6
 obtain ⟨p6,c5,rfl⟩:=h7.form
 clear h6 h
 have h3:=iM le1 h3
 have hRw:=iM le1 hRw
 have hN:=hN.mono le1
 have hBd:=iM le1 hBd
 have hset:=hset.mono le1
 refine yC rfl<|wK<|yH [14] rfl<|zJ<|fW rfl<|yH [29] rfl<|zJ<|fW rfl<|yH [43] rfl<|zJ<|fW rfl<|yH [62] rfl<|zJ<|zAv rfl<|yB<|yD 3 [] [66] rfl ?_
 rw [decide_eq_true hn]
 refine yD 7 [3] [68,70] rfl<|kR (α:=Raw2) 2 rfl rfl rfl hRw hraw ?_
 intro ad ccs hat hcc hrep
 obtain ⟨rfl,o1,o2⟩:=hrep
 refine yD 9 [] [72] rfl<|zDs 2 1 hat hcc [vS pB bl cB] (vS pB bl cB) rfl rfl<|yI [] [76] rfl ?_
 rw [decide_eq_true hb]
 refine zJ<|zAv rfl<|oM [(0,vP r01 0),(4,vP b1 0),(5,vP b2 0),(6,vI (raws.length:Int))]<|wS [.p (vP b2 1) [],.p (vS a1 raws c1) [2],.p (vI (raws.length:Int)) [],.p (vI (W ((raws.length:Int) - 1))) [],.x (fun I' v hx'=>∃ ad,v=.pointer (some ad)∧hx'=[]∧AtO (vS a1 raws c1) 2 (W ((raws.length:Int) - 1)).toNat ad),.x (fun I' v hx'=>∃ ad,v=.pointer (some (ad.add 1))∧hx'=[]∧AtO (vS a1 raws c1) 2 (W ((raws.length:Int) - 1)).toNat ad),.x (fun I' v hx'=>v=vS pB bl cB∧hx'=[]),.p (vP r01 0) [],.p (vP r01 0) [],.p (vP r01 0) [],.p (vP b2 1) [],.p (vS a1 raws c1) [2],.p (vI (raws.length:Int)) [],.p (vI (W ((raws.length:Int) - 1))) [],.x (fun I' v hx'=>∃ ad,v=.pointer (some ad)∧hx'=[]∧AtO (vS a1 raws c1) 2 (W ((raws.length:Int) - 1)).toNat ad),.x (fun I' v hx'=>∃ ad,v=.pointer (some (ad.add 1))∧hx'=[]∧AtO (vS a1 raws c1) 2 (W ((raws.length:Int) - 1)).toNat ad),.x (fun I' v hx'=>v=vS pB bl cB∧hx'=[]),.x (fun I' v hx'=>∃ ad,v=.pointer (some ad)∧hx'=[]∧AtO (vS pB bl cB) 9 0 ad),.x (fun I' v hx'=>∃ cs9,v=.agg ⟨cs9⟩∧hx'=[]∧Rp.rep I' cs9 s),.x (fun I' v hx'=>∃ (cs9 kk:List Value),v=.agg ⟨cs9⟩∧hx'=[hB r01 kk]∧Rp.rep I' cs9 y22∧Rp.rep I' kk y23),.x (fun I' v hx'=>∃ (cs9 kk:List Value),v=.agg ⟨cs9⟩∧hx'=[hB r01 kk]∧Rp.rep I' cs9 y24∧Rp.rep I' kk y25),.x (fun I' v hx'=>∃ (cs9 kk:List Value),v=.agg ⟨cs9⟩∧hx'=[hB r01 kk]∧Rp.rep I' cs9 y26∧Rp.rep I' kk y27)] [[],[(0,false)],[],[(2,false)],[(1,false),(3,false)],[(4,false)],[(5,false)],[],[],[],[],[(10,false)],[],[(12,false)],[(11,false),(13,false)],[(14,false)],[(15,false)],[(16,false)],[(17,false)],[(9,false),(18,false),(24,true)],[(8,false),(19,true)],[(7,false),(20,true)]] [hO zN (vS pB bl cB) csB,hO Raw2 (vS a1 raws c1) s1,hB b2 [vS a0 y.Arrays c0,vS a1 raws c1],hO zF (vS a0 y.Arrays c0) s0,hB b1 zTwo] [[hB r01 (cRd y3 p6 c5)]] [(6,false),(21,true)] (zY [1,2,3,4,5,0]) ?_ ?_
 · refine Op<|Op<|Op<|Op<|Ox ?_<|Ox ?_<|Ox ?_<|Op<|Op<|Op<|Op<|Op<|Op<|Op<|Ox ?_<|Ox ?_<|Ox ?_<|Ox ?_<|Ox ?_<|Ox ?_<|Ox ?_<|Ox ?_<|On
   · intro I1 hf le1
     refine rR ?_
     rintro _ _ ⟨rfl,rfl⟩
     refine rR ?_
     rintro _ _ ⟨rfl,rfl⟩
     refine kQ<|zC8 [(78,vS a1 raws c1),(80,vI (W ((raws.length:Int) - 1)))]<|kR (α:=Raw2) 1 rfl rfl rfl (iM le1 hRw) hraw ?_
     intro ad ccs hat hcc hrep
     exact yN [] iR ⟨_,rfl,rfl,hat⟩
   · intro I1 hf le1
     refine rR ?_
     rintro _ _ ⟨ad,rfl,rfl,hat⟩
     exact kQ<|zC8 [(81,.pointer (some ad))]<|qQ 6 [(82,.pointer (some (ad.add 1)))]<|yN [] iR ⟨_,rfl,rfl,hat⟩
   · intro I1 hf le1
     refine rR ?_
     rintro _ _ ⟨ad,rfl,rfl,hat⟩
     refine kQ<|zC8 [(82,.pointer (some (ad.add 1)))] ?_
     have hrep:=hRw.at (rP hraw).2.2
     obtain ⟨⟨hcc,o1,o2⟩,_⟩:=hrep
     exact zDs 1 1 hat hcc [vS pB bl cB] (vS pB bl cB) rfl rfl<|xF iR
   · intro I1 hf le1
     refine rR ?_
     rintro _ _ ⟨rfl,rfl⟩
     refine rR ?_
     rintro _ _ ⟨rfl,rfl⟩
     refine kQ<|zC8 [(88,vS a1 raws c1),(90,vI (W ((raws.length:Int) - 1)))]<|kR (α:=Raw2) 1 rfl rfl rfl (iM le1 hRw) hraw ?_
     intro ad ccs hat hcc hrep
     exact yN [] iR ⟨_,rfl,rfl,hat⟩
   · intro I1 hf le1
     refine rR ?_
     rintro _ _ ⟨ad,rfl,rfl,hat⟩
     exact kQ<|zC8 [(91,.pointer (some ad))]<|qQ 16 [(92,.pointer (some (ad.add 1)))]<|yN [] iR ⟨_,rfl,rfl,hat⟩
   · intro I1 hf le1
     refine rR ?_
     rintro _ _ ⟨ad,rfl,rfl,hat⟩
     refine kQ<|zC8 [(92,.pointer (some (ad.add 1)))] ?_
     have hrep:=hRw.at (rP hraw).2.2
     obtain ⟨⟨hcc,o1,o2⟩,_⟩:=hrep
     exact zDs 1 1 hat hcc [vS pB bl cB] (vS pB bl cB) rfl rfl<|xF iR
   · intro I1 hf le1
     refine rR ?_
     rintro _ _ ⟨rfl,rfl⟩
     refine kQ<|zC8 [(93,vS pB bl cB)]<|kR (α:=zN) 0 rfl rfl rfl (iM le1 hBd) hs ?_
     intro ad ccs hat hcc hrep
     exact yN [] iR ⟨_,rfl,rfl,hat⟩
   · intro I1 hf le1
     refine rR ?_
     rintro _ _ ⟨ad,rfl,rfl,hat⟩
     refine kQ<|zC8 [(94,.pointer (some ad))] ?_
     obtain ⟨hrep,_⟩:=(iM le1 hBd).at j2
     generalize hcc:(csB.drop (Int.toNat 0 * Rp.sz zN)).take (Rp.sz zN)=cc at hrep
     obtain ⟨w0,w1,w2,w3,rfl,e10,e11,e12,e13⟩:=nA hrep
     obtain ⟨p10,c10,rfl⟩:=e10.form
     obtain ⟨p11,c11,rfl⟩:=e11.form
     obtain ⟨p12,c12,rfl⟩:=e12.form
     obtain ⟨p13,c13,rfl⟩:=e13.form
     exact zDs 0 0 hat hcc (cStmt s p10 c10 p11 c11 p12 c12 p13 c13) (vA (cStmt s p10 c10 p11 c11 p12 c12 p13 c13)) rfl rfl<|yN [] iR ⟨_,rfl,rfl,xR ⟨_,_,_,_,rfl,e10,e11,e12,e13⟩⟩
   · intro I1 hf le1
     refine rR ?_
     rintro _ _ ⟨rfl,rfl⟩
     refine rR ?_
     rintro _ _ ⟨cs9,rfl,rfl,h9⟩
     refine rR ?_
     rintro _ _ rfl
     obtain ⟨w0,w1,w2,w3,rfl,e10,e11,e12,e13⟩:=nA h9
     obtain ⟨p10,c10,rfl⟩:=e10.form
     obtain ⟨p11,c11,rfl⟩:=e11.form
     obtain ⟨p12,c12,rfl⟩:=e12.form
     obtain ⟨p13,c13,rfl⟩:=e13.form
     refine kQ<|zC8 [(86,vP r01 0),(95,vA (cStmt s p10 c10 p11 c11 p12 c12 p13 c13))]<|uQ (gU y3 s _ hm1 (h7.mono le1) e10 e11 e12 e13) rfl ?_
     rintro I02 hs2 v2 k2 le2 - ⟨v0,kk2,rfl,rfl,⟨cs2,rfl,h10⟩,h11⟩ -
     exact yN [hB r01 kk2] le2 ⟨_,_,rfl,rfl,h10,h11⟩
   · intro I1 hf le1
     refine rR ?_
     rintro _ _ ⟨rfl,rfl⟩
     refine rR ?_
     rintro _ _ ⟨cs9,kk,rfl,rfl,h9,hk⟩
     obtain ⟨w0,w1,w2,w3,rfl,e10,e11,e12,e13⟩:=nA h9
     obtain ⟨p10,c10,rfl⟩:=e10.form
     obtain ⟨p11,c11,rfl⟩:=e11.form
     obtain ⟨p12,c12,rfl⟩:=e12.form
     obtain ⟨p13,c13,rfl⟩:=e13.form
     obtain ⟨w4,rfl,hsl⟩:=jU hk
     obtain ⟨p8,c8,rfl⟩:=hsl.form
     refine kQ<|zC8 [(85,vP r01 0),(96,vA (cStmt y22 p10 c10 p11 c11 p12 c12 p13 c13))]<|uQ (gU y23 y22 _ hm2 (hsl) e10 e11 e12 e13) rfl ?_
     rintro I02 hs2 v2 k2 le2 - ⟨v0,kk2,rfl,rfl,⟨cs2,rfl,h10⟩,h11⟩ -
     exact yN [hB r01 kk2] le2 ⟨_,_,rfl,rfl,h10,h11⟩
   intro I1 hf le1
   refine rR ?_
   rintro _ _ ⟨rfl,rfl⟩
   refine rR ?_
   rintro _ _ ⟨cs9,kk,rfl,rfl,h9,hk⟩
   obtain ⟨w0,w1,w2,w3,rfl,e10,e11,e12,e13⟩:=nA h9
   obtain ⟨p10,c10,rfl⟩:=e10.form
   obtain ⟨p11,c11,rfl⟩:=e11.form
   obtain ⟨p12,c12,rfl⟩:=e12.form
   obtain ⟨p13,c13,rfl⟩:=e13.form
   obtain ⟨w4,rfl,hsl⟩:=jU hk
   obtain ⟨p8,c8,rfl⟩:=hsl.form
   refine kQ<|zC8 [(84,vP r01 0),(97,vA (cStmt y24 p10 c10 p11 c11 p12 c12 p13 c13))]<|uQ (gU y25 y24 _ hm3 (hsl) e10 e11 e12 e13) rfl ?_
   rintro I02 hs2 v2 k2 le2 - ⟨v0,kk2,rfl,rfl,⟨cs2,rfl,h10⟩,h11⟩ -
   exact yN [hB r01 kk2] le2 ⟨_,_,rfl,rfl,h10,h11⟩
 intro I5 le5
 refine rR ?_
 rintro _ _ ⟨rfl,rfl⟩
 refine rR ?_
 rintro _ _ ⟨cs9,kk,rfl,rfl,h9,hk⟩
 obtain ⟨w0,w1,w2,w3,rfl,e10,e11,e12,e13⟩:=nA h9
 obtain ⟨p10,c10,rfl⟩:=e10.form
 obtain ⟨p11,c11,rfl⟩:=e11.form
 obtain ⟨p12,c12,rfl⟩:=e12.form
 obtain ⟨p13,c13,rfl⟩:=e13.form
 have h3:=iM le5 h3
 have hRw:=iM le5 hRw
 have hN:=hN.mono le5
 have hBd:=iM le5 hBd
 have hset:=hset.mono le5
 refine kQ<|zC8 [(4,vP b1 0),(5,vP b2 0),(83,vS pB bl cB),(98,vA (cStmt y26 p10 c10 p11 c11 p12 c12 p13 c13))]<|kR (α:=zN) 1 rfl rfl rfl hBd hs ?_
 intro ad ccs hat hcc hrep
 obtain ⟨w0,w1,w2,w3,rfl,e20,e21,e22,e23⟩:=nA hrep
 obtain ⟨p20,c20,rfl⟩:=e20.form
 obtain ⟨p21,c21,rfl⟩:=e21.form
 obtain ⟨p22,c22,rfl⟩:=e22.form
 obtain ⟨p23,c23,rfl⟩:=e23.form
 refine oA (c:=(cStmt y26 p10 c10 p11 c11 p12 c12 p13 c13)) (x':=y26) 1 0 rfl rfl rfl hat rfl rfl hcc (by kernel_rfl) (by kernel_rfl) (by kernel_rfl) hBd hs (by kernel_rfl) (xR ⟨_,_,_,_,rfl,e10,e11,e12,e13⟩) ?_
 intro cs7 h7' hlen
 refine uR (hs':=[hB r01 kk,hO zN (vS pB bl cB) cs7,hO Raw2 (vS a1 raws c1) s1,hB b2 [vS a0 y.Arrays c0,vS a1 raws c1],hO zF (vS a0 y.Arrays c0) s0,hB b1 zTwo]) rfl<|xK 1 rfl ?_
 intro I6 le6 hl6
 have eB:vS pB bl cB=vS pB (bl.set 0 y26) cB:=by simp [vS]
 have kB:SL I6 (vS pB (bl.set 0 y26) cB) (bl.set 0 y26):=by
   rw [← eB]
   exact SL.of_frozen (l:=bl.set 0 y26) hl6 le6 h7'
 rw [eB] at hset
 have hdone:=(hset.mono le6).done (hN.mono le6) kB
 have eS:=jG hRw
 rw [← eS] at hdone
 have h3:=iM le6 h3
 have hk:=Rp.mono le6 hk
 have eP:vS a1 raws c1=vS a1 (y.Parts.set (W ((raws.length:Int) - 1)).toNat ⟨nl,bl.set 0 y26⟩) c1:=by simp only [vS,List.length_set,hLP.2.1]
 refine uR (hs':=[hB r01 kk,hO Raw2 (vS a1 raws c1) s1,hB b2 [vS a0 y.Arrays c0,vS a1 raws c1],hO zF (vS a0 y.Arrays c0) s0,hB b1 zTwo]) rfl<|yC rfl<|zQ<|xE<|sU 1 [2] [(110,vA [vS a0 y.Arrays c0,vS a1 raws c1])]<|xI 4 [vS a0 y.Arrays c0,vS a1 raws c1] rfl<|yC rfl<|xB<|xJ 1 rfl ?_
 intro I7 le7 hl7
 have k1:SL I7 (vS a1 raws c1) (y.Parts.set (W ((raws.length:Int) - 1)).toNat ⟨nl,bl.set 0 y26⟩):=SL.of_frozen (l:=y.Parts.set (W ((raws.length:Int) - 1)).toNat ⟨nl,bl.set 0 y26⟩) hl7 le7 hdone
 refine xJ 2 rfl ?_
 intro I8 le8 hl8
 have k2:=SL.of_frozen hl8 le8 (iM le7 h3)
 rw [hLP.len]
 exact xC ⟨_,_,(.cell 2 rfl rfl (by kernel_rfl) ResV.nil),(zX [0] rfl (by decide)),⟨_,_,rfl,rfl,⟨_,rfl,(nQ ⟨_,_,rfl,k2,k1.mono le8⟩)⟩,Rp.mono le8 (Rp.mono le7 hk)⟩⟩
theorem zDY:∀ r0 p1 r,qM r0 p1=some r→∀ {I:Imm}{r01:Nat}{p c p2 c1 p3 c2},(S4 I p r0.b c)→(S4 I p2 p1.Arrays c1)→(S4 I p3 p1.Parts c2)→RT 58 [vP r01 0,vA (cProg p1 p2 c1 p3 c2)] I [hB r01 (cRd r0 p c)] (jW r01 r):=by
 intro r0 p1 r N I r01 p c p2 c1 p3 c2 h h1 h2;by_cases hq:∃ y y3 x s,rK p1=some y∧yO r0 60=some (3,y3)∧idx y.Parts (W ((y.Parts.length:Int) - 1))=some x∧idx x.Body 0=some s
 · obtain ⟨y,y3,x,s,e1,e2,e3,e4⟩:=hq;exact zCf r0 p1 r N e1 e2 e3 e4 h h1 h2
 refine zCd r0 p1 r N h h1 h2 ?_;intro y y2 y3 x s e1 e2 e3 e4 e5;obtain rfl:=eq_of_beq e3;exact hq ⟨y,y3,x,s,e1,e2,e4,e5⟩
def zS (r:Bool):KT:=fun kk I' hs' v=>
  ∃ v0,hs'=[]∧v=tupV [v0]∧v0=.bool r
def wW (x:zF) (k0:Int):Option (Out Unit (Bool)):=do
 if (decide (k0 < (x.Dims.length:Int))) then
  let t77←(do
    let x2←idx x.Dims k0
    if (decide (x2 < 1)) then
     pure true
    else
     let x3←idx x.Dims k0
     pure (decide (x3 > 6))
      : Option Bool)
  if t77 then
   pure (.ret false)
  else
   wW x (W (k0 + 1))
 else
  pure (.done ())
 partial_fixpoint
theorem zB5 (x:zF):∀ (k0:Int) (o:Out Unit (Bool)),wW x k0=some o→∀ {B}{I0 I:Imm}{Q}{list:(List zF)}{i:Int}{p c p1 c1}{b:Nat},I0.le I→(S4 I p list c)→(S4 I p1 x.Dims c1)→NG Q→NO Q→(∀ (I':Imm) ,o=(.done ())→I0.le I'→T 81 B Q (.exit 2) I' [] [(0,vS p list c),(3,vI i)])→(∀ r I' hs' m',o=(.ret r)→I0.le I'→RS Tryz.prog Tryz.f144 B (zS  r) I' hs' m'→T 81 B Q .ret I' hs' m')→J Tryz.prog 81 B (nav (bodyOf Tryz.f144) [1,0,1,0,0,1,0,0,1,1,1,0]) Q I [hB b (cArr x p1 c1)] [(0,vS p list c),(3,vI i),(4,vP b 0),(5,vI k0)]:=by
 refine wW.partial_correctness x _ fun self ih k0 o N B I0 I Q list i p c p1 c1 b H h h1 hg ho hx hr=>yY hg ho<|zZ<|yB<|yI [0] [61] rfl<|zJ<|yE N ?_ ?_
 · intro hc9 N;refine zT<|yA<|yL<|zZ ?_;refine wD N [hB b (cArr x p1 c1)] (fun t77=>[(0,vS p list c),(3,vI i),(4,vP b 0),(5,vI k0),(77,.bool t77)]) (fun o01 ho01=>?_) ?_
   · have H:=iS I;refine zO<|yD 3 [0] [65,66] rfl ?_;obtain ⟨x2,hy2,N⟩:=zB ho01;refine xS rfl rfl h1 hy2 ?_;intro ad2 ccs2 hat2 hrep2;obtain rfl:=hrep2;refine xL 0 hat2 [vI x2] (vI x2) rfl<|yD 7 [] [70] rfl<|xQ [70] N ?_ ?_
     · intro hc10 N;exact xY [] [(77,vY)]<|yQ<|zR (ct N H)
     intro hc10 N;refine yD 10 [0] [72,73] rfl<|bE N fun x3 hy3 N=>xS rfl rfl h1 hy3 ?_;intro ad3 ccs3 hat3 hrep3;obtain rfl:=hrep3;exact xL 0 hat3 [vI x3] (vI x3) rfl<|yI [] [77] rfl<|yQ<|zR (ct N H)
   intro t77 I01 le1 hMc1;have ⟨h,h1,H⟩:=m3 le1 h h1 H;refine zJ<|yE hMc1 ?_ ?_
   · intro hc11 N;exact vU [(2,vF)]<|xB<|zU<|zI<|zI<|hr _ _ _ _ (zC N).symm H ⟨_,_,(.tmp rfl ResV.nil),zP,⟨_,rfl,rfl,rfl⟩⟩
   intro hc11 N;exact zT<|zQ<|zJ<|zO<|yI [] [5] rfl<|yZ<|mW<|ih (W (k0 + 1)) _ N H h h1 hg ho hx hr
 intro hc9 N;exact uA<|xV zP<|yQ<|hx _  (zC N).symm H
def vO (list:(List zF)) (i:Int):Option (Out Unit (Bool)):=do
 if (decide (i < (list.length:Int))) then
  let x←idx list i
  let t56←(do
    if ((x.Name.l.length:Int) != 1) then
     pure true
    else
     if (Op.bytesLess x.Name.l ([65]:List UInt8)) then
      pure true
     else
      if (!(Op.bytesLess x.Name.l ([68]:List UInt8) || x.Name.l == ([68]:List UInt8))) then
       pure true
      else
       if (decide (i > 0)) then
        let x1←idx list (W (i - 1))
        if (!(Op.bytesLess x1.Name.l x.Name.l)) then
         pure true
        else
         if (decide ((x.Dims.length:Int) < 1)) then
          pure true
         else
          pure (decide ((x.Dims.length:Int) > 2))
       else
        if (decide ((x.Dims.length:Int) < 1)) then
         pure true
        else
         pure (decide ((x.Dims.length:Int) > 2))
      : Option Bool)
  if t56 then
   pure (.ret false)
  else
   match←wW x 0 with
   | .ret r0=>pure (.ret r0)
   | .done _ =>
    vO list (W (i + 1))
 else
  pure (.done ())
 partial_fixpoint
theorem zB6 (list:(List zF)):∀ (i:Int) (o:Out Unit (Bool)),vO list i=some o→∀ {B}{I0 I:Imm}{Q p c},I0.le I→(S4 I p list c)→NG Q→NO Q→(∀ (I':Imm) ,o=(.done ())→I0.le I'→T 81 B Q (.exit 0) I' [] [(0,vS p list c)])→(∀ r I' hs' m',o=(.ret r)→I0.le I'→RS Tryz.prog Tryz.f144 B (zS  r) I' hs' m'→T 81 B Q .ret I' hs' m')→J Tryz.prog 81 B (nav (bodyOf Tryz.f144) [1,0,1,0]) Q I [] [(0,vS p list c),(3,vI i)]:=by
 refine vO.partial_correctness list _ fun self ih i o N B I0 I Q p c H h hg ho hx hr=>yY hg ho<|zZ<|yH [9] rfl<|zJ<|yE N ?_ ?_
 · intro hc N;refine zT<|yA<|yL<|yB<|yD 2 [] [12,13] rfl<|bE N fun x hy N=>xS rfl rfl h hy ?_;intro ad ccs hat hrep;obtain ⟨p1,c1,rfl,h1⟩:=wT hrep;refine xL 0 hat (cArr x p1 c1) (vA (cArr x p1 c1)) rfl<|wU [vT ([]),z0] ?_;intro b hb;refine xI 0 (cArr x p1 c1) rfl<|yC rfl<|yA<|zZ ?_;refine wD N [hB b (cArr x p1 c1)] (fun t56=>[(0,vS p list c),(3,vI i),(4,vP b 0),(56,.bool t56)]) (fun o0 ho0=>?_) ?_
   · have H:=iS I;refine eC (by kernel_rfl) (by kernel_rfl)<|zAj 5 [0] [20] rfl<|zEh [20] ho0 ?_ ?_
     · intro hc1 N;exact zHa [] [(56,vY)]<|yQ<|zR (ct N H)
     intro hc1 N;refine zAj 10 [0] [25] rfl<|zEh [25] N ?_ ?_
     · intro hc2 N;exact zHa [] [(56,vY)]<|yQ<|zR (ct N H)
     intro hc2 N;refine zAj 15 [0] [30] rfl<|zEh [30] N ?_ ?_
     · intro hc3 N;exact zHa [] [(56,vY)]<|yQ<|zR (ct N H)
     intro hc3 N;refine zAj 18 [] [33] rfl<|zEh [33] N ?_ ?_
     · intro hc4 N;refine zAj 21 [] [34,36] rfl<|bE N fun x1 hy1 N=>zEd rfl rfl h hy1 ?_;intro ad1 ccs1 hat1 hrep1;obtain ⟨p2,c2,rfl,h2⟩:=wT hrep1;refine zAj 23 [] [38] rfl<|zEc 0 hat1 [vT x1.Name.l] (vT x1.Name.l) rfl<|zAj 30 [0] [45] rfl<|zEh [45] N ?_ ?_
       · intro hc5 N;exact zHa [] [(56,vY)]<|yQ<|zR (ct N H)
       intro hc5 N;refine zAj 36 [0] [51] rfl<|zEh [51] N ?_ ?_
       · intro hc6 N;exact zHa [] [(56,vY)]<|yQ<|zR (ct N H)
       intro hc6 N;exact zIY [0] [56] rfl<|yQ<|zR (ct N H)
     intro hc4 N;refine zAj 36 [0] [51] rfl<|zEh [51] N ?_ ?_
     · intro hc7 N;exact zHa [] [(56,vY)]<|yQ<|zR (ct N H)
     intro hc7 N;exact zIY [0] [56] rfl<|yQ<|zR (ct N H)
   intro t56 I0 le hMc;have ⟨h,h1,H⟩:=m3 le h h1 H;refine zJ<|yE hMc ?_ ?_
   · intro hc8 N;exact vU [(2,vF)]<|xB<|zI<|zU<|zI<|zI<|hr _ _ _ _ (zC N).symm H ⟨_,_,(.tmp rfl ResV.nil),zP,⟨_,rfl,rfl,rfl⟩⟩
   intro hc8 N;refine zT<|vV [5] rfl<|wK<|oM [(0,vS p list c),(3,vI i),(4,vP b 0),(5,vI 0)] ?_;obtain ⟨o02,ho02,hMl⟩:=zB N;refine zB5 x 0 o02 ho02 iR h h1 (fun _ _ _ h=>hg _ _ _ h) (fun _ _ h=>ho _ _ h) ?_ ?_
   · intro I02  heq2 le2;subst o02;have ⟨h,H⟩:=m2 le2 h H;exact zV<|zQ<|zJ<|zO<|yI [] [3] rfl<|yZ<|mW<|ih (W (i + 1)) _ hMl H h hg ho hx hr
   intro r0 I9 hs9 m9 heq9 le9 hrs9;subst heq9;exact zU<|zU<|zI<|zI<|hr _ _ _ _ (zC hMl).symm (H.trans le9) hrs9
 intro hc N;exact uA<|yQ<|hx _  (zC N).symm H
def oE (list:(List zF)):Option (Bool):=do
 match←vO list 0 with
 | .ret r0=>pure r0
 | .done _ =>
  pure (decide ((list.length:Int) ≤ 4))
theorem zDZ:∀ list r,oE list=some r→∀ {I:Imm}{p c},(S4 I p list c)→RT 144 [vS p list c] I [] (zS  r):=by
 intro list r N I p c h;unfold oE at N;refine yJ Tryz.func144 fun B=>vU []<|yA<|yH [3] rfl<|wK<|oM [(0,vS p list c),(3,vI 0)] ?_;obtain ⟨o03,ho03,hMl1⟩:=zB N;refine zB6 list 0 o03 ho03 iR h (fun _ _ _ h=>h) (fun _ _ h=>h) ?_ ?_
 · intro I03  heq3 le3;subst o03;refine zV<|vV [2] rfl<|zJ<|yX ?_;obtain rfl:=zC hMl1;exact xZ
 intro r0 I9 hs9 m9 heq9 le9 hrs9;subst heq9;refine zU<|zI ?_;obtain rfl:=zC hMl1;exact xC hrs9
def vD (n0:Int) (most:Int):Option (Bool):=do
 let t4←(do
   if (decide (n0 ≥ (W (0 - most)))) then
    pure (decide (n0 ≤ most))
   else
    pure false
     : Option Bool)
 pure (id t4)
theorem gW:∀ n0 most r,vD n0 most=some r→∀ {I:Imm} ,RT 207 [vI n0,vI most] I [] (zS  r):=by
 intro n0 most r N I;unfold vD at N;refine yJ Tryz.func207 fun B=>?_;have H:=iS I;refine vU []<|zJ<|zZ ?_;refine wD N [] (fun t4=>[(4,.bool t4)]) (fun o0 ho0=>?_) ?_
 · have H:=iS I;refine zO<|yD 5 [] [9] rfl<|xQ [9] ho0 ?_ ?_
   · intro hc N;exact yI [] [4] rfl<|yQ<|zR (ct N H)
   intro hc N;exact xY [] [(4,vF)]<|yQ<|zR (ct N H)
 intro t4 I0 le hMc;refine zJ<|yX ?_;obtain rfl:=zC hMc;exact xZ
def wG (a0:zA) (i:Int):Option (Out Unit (Bool)):=do
 if (decide (i < (a0.Coefs.length:Int))) then
  let x←idx a0.Coefs i
  let y←vD x 9
  if (!y) then
   pure (.ret false)
  else
   wG a0 (W (i + 1))
 else
  pure (.done ())
 partial_fixpoint
theorem zAZ (a0:zA):∀ (i:Int) (o:Out Unit (Bool)),wG a0 i=some o→∀ {B}{I0 I:Imm}{Q p c}{b:Nat},I0.le I→(S4 I p a0.Coefs c)→NG Q→NO Q→(∀ (I':Imm) ,o=(.done ())→I0.le I'→T 27 B Q (.exit 0) I' [hB b (cAff a0 p c)] [(1,vP b 0)])→(∀ r I' hs' m',o=(.ret r)→I0.le I'→RS Tryz.prog Tryz.f163 B (zS  r) I' hs' m'→T 27 B Q .ret I' hs' m')→J Tryz.prog 27 B (nav (bodyOf Tryz.f163) [1,0,1,0]) Q I [hB b (cAff a0 p c)] [(1,vP b 0),(3,vI i)]:=by
 refine wG.partial_correctness a0 _ fun self ih i o N B I0 I Q p c b H h hg ho hx hr=>yY hg ho<|zZ<|yB<|yI [0] [8] rfl<|zJ<|yE N ?_ ?_
 · intro hc N;refine zT<|yA<|yL<|yB<|yD 3 [0] [12,13] rfl<|bE N fun x hy N=>xS rfl rfl h hy ?_;intro ad ccs hat hrep;obtain rfl:=hrep;refine xL 0 hat [vI x] (vI x) rfl<|bE N fun y hy1 N=>wZ (gW x 9 _ hy1 ) ?_;intro I0 le;have ⟨h,H⟩:=m2 le h H;refine yI [] [17] rfl<|zJ<|yE N ?_ ?_
   · intro hc1 N;exact vU [(2,vF)]<|xB<|zU<|zI<|zI<|hr _ _ _ _ (zC N).symm H ⟨_,_,(.tmp rfl ResV.nil),zP,⟨_,rfl,rfl,rfl⟩⟩
   intro hc1 N;exact zT<|zQ<|zJ<|zO<|yI [] [3] rfl<|yZ<|mW<|ih (W (i + 1)) _ N H h hg ho hx hr
 intro hc N;exact uA<|yQ<|hx _  (zC N).symm H
def vQ (a0:zA):Option (Bool):=do
 match←wG a0 0 with
 | .ret r0=>pure r0
 | .done _ =>
  let t2←(do
    if ((a0.Coefs.length:Int) == 4) then
     let y1←vD a0.Const 99
     pure (id y1)
    else
     pure false
      : Option Bool)
  pure (id t2)
theorem mI:∀ a0 r,vQ a0=some r→∀ {I:Imm}{p c},(S4 I p a0.Coefs c)→RT 163 [vA (cAff a0 p c)] I [] (zS  r):=by
 intro a0 r N I p c h;unfold vQ at N;refine yJ Tryz.func163 fun B=>?_;have H:=iS I;refine yB<|vM (cAff a0 p c) ?_;intro b hb;refine xY [] []<|yA<|yH [3] rfl<|wK<|oM [(1,vP b 0),(3,vI 0)] ?_;obtain ⟨o0,ho0,hMl⟩:=zB N;refine zAZ a0 0 o0 ho0 iR h (fun _ _ _ h=>h) (fun _ _ h=>h) ?_ ?_
 · intro I01  heq le1;subst o0;have H:=H.trans le1;refine zV<|zJ<|zZ ?_;refine wD hMl [] (fun t2=>[(2,.bool t2)]) (fun o01 ho01=>?_) ?_
   · have H:=iS I01;refine zO<|yD 5 [0] [22] rfl<|xQ [22] ho01 ?_ ?_
     · intro hc2 N;refine yD 7 [0] [24] rfl<|bE N fun y1 hy2 N=>wZ (gW a0.Const 99 _ hy2 ) ?_;intro I03 le2;have H:=H.trans le2;exact yI [] [2] rfl<|xV zP<|yQ<|zR (ct N H)
     intro hc2 N;exact xY [] [(2,vF)]<|xV zP<|yQ<|zR (ct N H)
   intro t2 I02 le3 hMc;refine zJ<|yX ?_;obtain rfl:=zC hMc;exact xZ
 intro r0 I9 hs9 m9 heq9 le9 hrs9;subst heq9;refine zU<|zI ?_;obtain rfl:=zC hMl;exact xC hrs9
def yP (r:Int):KT:=fun kk I' hs' v=>
  ∃ v0,hs'=[]∧v=tupV [v0]∧v0=.int .i64 r
def uJ (a0:zA) (n0:Int) (i:Int):Option (Int):=do
 if (decide (i < (a0.Coefs.length:Int))) then
  let x←idx a0.Coefs i
  let n02←(do
    if (x != 0) then
     pure (W (i + 1))
    else
     pure (id n0)
      : Option Int)
  uJ a0 n02 (W (i + 1))
 else
  pure (id n0)
 partial_fixpoint
theorem zCA (a0:zA):∀ (n0:Int) (i:Int) (o:Int),uJ a0 n0 i=some o→∀ {B}{I0 I:Imm}{Q p c}{b:Nat},I0.le I→(S4 I p a0.Coefs c)→NG Q→NO Q→(∀ (I':Imm) (n01:Int),o=n01→I0.le I'→T 21 B Q (.exit 0) I' [] [(3,vI n01)])→J Tryz.prog 21 B (nav (bodyOf Tryz.f164) [1,1,0,1,0]) Q I [hB b (cAff a0 p c)] [(1,vP b 0),(3,vI n0),(4,vI i)]:=by
 refine uJ.partial_correctness a0 _ fun self ih n0 i o N B I0 I Q p c b H h hg ho hx=>yY hg ho<|zZ<|yB<|yI [0] [9] rfl<|zJ<|yE N ?_ ?_
 · intro hc N;refine zT<|yA<|yL<|yB<|yD 3 [0] [13,14] rfl<|bE N fun x hy N=>xS rfl rfl h hy ?_;intro ad ccs hat hrep;obtain rfl:=hrep;refine xL 0 hat [vI x] (vI x) rfl<|yI [] [17] rfl<|zJ ?_;refine wD N [hB b (cAff a0 p c)] (fun n02=>[(1,vP b 0),(3,vI n02),(4,vI i)]) (fun o0 ho0=>?_) ?_
   · have H:=iS I;refine yE ho0 ?_ ?_
     · intro hc1 N;exact zO<|yI [] [3] rfl<|yQ<|zR (ct N H)
     intro hc1 N;exact zT<|yQ<|zR (ct N H)
   intro n02 I0 le hMc;have ⟨h,H⟩:=m2 le h H;exact zQ<|zJ<|zO<|yI [] [4] rfl<|yZ<|mW<|ih n02 (W (i + 1)) _ hMc H h hg ho hx
 intro hc N;exact uA<|xV zP<|yQ<|hx _ _ (zC N).symm H
def rW (a0:zA):Option (Int):=do
 let n01←uJ a0 0 0
 pure (id n01)
theorem fM:∀ a0 r,rW a0=some r→∀ {I:Imm}{p c},(S4 I p a0.Coefs c)→RT 164 [vA (cAff a0 p c)] I [] (yP  r):=by
 intro a0 r N I p c h;unfold rW at N;refine yJ Tryz.func164 fun B=>yB<|vM (cAff a0 p c) ?_;intro b hb;refine xY [] []<|vV [3] rfl<|yA<|yH [4] rfl<|wK<|oM [(1,vP b 0),(3,vI 0),(4,vI 0)] ?_;obtain ⟨o01,ho01,hMl⟩:=zB N;refine zCA a0 0 0 o01 ho01 iR h (fun _ _ _ h=>h) (fun _ _ h=>h) ?_;intro I01 n01 heq1 le1;subst o01;refine zV<|vV [2] rfl<|zJ<|yX ?_;obtain rfl:=zC hMl;exact xZ
def vR (a0:zG) (depth:Int) (i:Int):Option (Out Unit (Bool)):=do
 if (decide (i < (a0.Subs.length:Int))) then
  let t29←(do
    let x←idx a0.Subs i
    let y←vQ x
    if (!y) then
     pure true
    else
     let x1←idx a0.Subs i
     let y1←rW x1
     pure (decide (y1 > depth))
      : Option Bool)
  if t29 then
   pure (.ret false)
  else
   vR a0 depth (W (i + 1))
 else
  pure (.done ())
 partial_fixpoint
theorem zB7 (a0:zG) (depth:Int):∀ (i:Int) (o:Out Unit (Bool)),vR a0 depth i=some o→∀ {B}{I0 I:Imm}{Q p c}{b:Nat},I0.le I→(S4 I p a0.Subs c)→NG Q→NO Q→(∀ (I':Imm) ,o=(.done ())→I0.le I'→T 56 B Q (.exit 0) I' [hB b (cAccess a0 p c)] [(2,vP b 0)])→(∀ r I' hs' m',o=(.ret r)→I0.le I'→RS Tryz.prog Tryz.f104 B (zS  r) I' hs' m'→T 56 B Q .ret I' hs' m')→J Tryz.prog 56 B (nav (bodyOf Tryz.f104) [1,0,1,0]) Q I [hB b (cAccess a0 p c)] [(1,vI depth),(2,vP b 0),(5,vI i)]:=by
 refine vR.partial_correctness a0 depth _ fun self ih i o N B I0 I Q p c b H h hg ho hx hr=>yY hg ho<|zZ<|yB<|yI [0] [10] rfl<|zJ<|yE N ?_ ?_
 · intro hc N;refine zT<|yA<|yL<|zZ ?_;refine wD N [hB b (cAccess a0 p c)] (fun t29=>[(1,vI depth),(2,vP b 0),(5,vI i),(29,.bool t29)]) (fun o0 ho0=>?_) ?_
   · have H:=iS I;refine zO<|yD 3 [0] [14,15] rfl ?_;obtain ⟨x,hy,N⟩:=zB ho0;refine xS rfl rfl h hy ?_;intro ad ccs hat hrep;obtain ⟨p1,c1,rfl,h1⟩:=yG hrep;refine xL 0 hat (cAff x p1 c1) (vA (cAff x p1 c1)) rfl<|bE N fun y hy1 N=>wZ (mI x _ hy1 h1) ?_;intro I01 le;have ⟨h,H⟩:=m2 le h H;refine yD 8 [] [20] rfl<|xQ [20] N ?_ ?_
     · intro hc1 N;exact xY [] [(29,vY)]<|yQ<|zR (ct N H)
     intro hc1 N;refine yD 11 [0] [22,23] rfl<|bE N fun x1 hy2 N=>xS rfl rfl h hy2 ?_;intro ad1 ccs1 hat1 hrep1;obtain ⟨p2,c2,rfl,h3⟩:=yG hrep1;refine xL 0 hat1 (cAff x1 p2 c2) (vA (cAff x1 p2 c2)) rfl<|bE N fun y1 hy3 N=>oH (fM x1 _ hy3 h3) ?_;intro I02 le1;have H:=H.trans le1;exact yI [] [29] rfl<|yQ<|zR (ct N H)
   intro t29 I0 le2 hMc;have ⟨h,H⟩:=m2 le2 h H;refine zJ<|yE hMc ?_ ?_
   · intro hc2 N;exact vU [(4,vF)]<|xB<|zU<|zI<|zI<|hr _ _ _ _ (zC N).symm H ⟨_,_,(.tmp rfl ResV.nil),zP,⟨_,rfl,rfl,rfl⟩⟩
   intro hc2 N;exact zT<|zQ<|zJ<|zO<|yI [] [5] rfl<|yZ<|mW<|ih (W (i + 1)) _ N H h hg ho hx hr
 intro hc N;exact uA<|yQ<|hx _  (zC N).symm H
def qN (a0:zG) (depth:Int):Option (Bool):=do
 match←vR a0 depth 0 with
 | .ret r0=>pure r0
 | .done _ =>
  let t4←(do
    if ((a0.Array.l.length:Int) == 1) then
     if (!(Op.bytesLess a0.Array.l ([65]:List UInt8))) then
      if (Op.bytesLess a0.Array.l ([68]:List UInt8) || a0.Array.l == ([68]:List UInt8)) then
       if (decide ((a0.Subs.length:Int) ≥ 1)) then
        pure (decide ((a0.Subs.length:Int) ≤ 2))
       else
        pure false
      else
       pure false
     else
      pure false
    else
     pure false
      : Option Bool)
  pure (id t4)
theorem zAJ:∀ a0 depth r,qN a0 depth=some r→∀ {I:Imm}{p c},(S4 I p a0.Subs c)→RT 104 [vA (cAccess a0 p c),vI depth] I [] (zS  r):=by
 intro a0 depth r N I p c h;unfold qN at N;refine yJ Tryz.func104 fun B=>?_;have H:=iS I;refine yB<|vM (cAccess a0 p c) ?_;intro b hb;refine xY [] []<|yA<|yH [5] rfl<|wK<|oM [(1,vI depth),(2,vP b 0),(5,vI 0)] ?_;obtain ⟨o01,ho01,hMl⟩:=zB N;refine zB7 a0 depth 0 o01 ho01 iR h (fun _ _ _ h=>h) (fun _ _ h=>h) ?_ ?_
 · intro I03  heq1 le3;subst o01;have H:=H.trans le3;refine zV<|zJ<|zZ ?_;refine wD hMl [] (fun t4=>[(4,.bool t4)]) (fun o02 ho02=>?_) ?_
   · have H:=iS I03;refine zO<|yD 5 [0] [34] rfl<|xQ [34] ho02 ?_ ?_
     · intro hc3 N;refine yD 10 [0] [39] rfl<|xQ [39] N ?_ ?_
       · intro hc4 N;refine yD 15 [0] [44] rfl<|xQ [44] N ?_ ?_
         · intro hc5 N;refine yD 21 [0] [50] rfl<|xQ [50] N ?_ ?_
           · intro hc6 N;exact yI [0] [4] rfl<|xV zP<|yQ<|zR (ct N H)
           intro hc6 N;exact xY [] [(4,vF)]<|xV zP<|yQ<|zR (ct N H)
         intro hc5 N;exact xY [] [(4,vF)]<|xV zP<|yQ<|zR (ct N H)
       intro hc4 N;exact xY [] [(4,vF)]<|xV zP<|yQ<|zR (ct N H)
     intro hc3 N;exact xY [] [(4,vF)]<|xV zP<|yQ<|zR (ct N H)
   intro t4 I04 le4 hMc1;refine zJ<|yX ?_;obtain rfl:=zC hMc1;exact xZ
 intro r0 I9 hs9 m9 heq9 le9 hrs9;subst heq9;refine zU<|zI ?_;obtain rfl:=zC hMl;exact xC hrs9
def mA (kind:Int):Option (Int):=do
 let t4←(do
   if (kind == 1) then
    pure (kind == 1)
   else
    let t41←(do
      if (kind == 2) then
       pure (kind == 2)
      else
       pure (kind == 3)
        : Option Bool)
    pure (id t41)
     : Option Bool)
 if t4 then
  pure (id 0)
 else
  let t8←(do
    if (kind == 4) then
     pure (kind == 4)
    else
     let t81←(do
       if (kind == 5) then
        pure (kind == 5)
       else
        pure (kind == 6)
         : Option Bool)
     pure (id t81)
      : Option Bool)
  if t8 then
   pure (id 2)
  else
   pure (-1)
theorem zBD:∀ kind r,mA kind=some r→∀ {I:Imm} ,RT 165 [vI kind] I [] (yP  r):=by
 intro kind r N I;unfold mA at N;refine yJ Tryz.func165 fun B=>?_;have H:=iS I;refine vU []<|yA<|yH [3] rfl<|wK<|zZ<|yH [4] rfl<|zJ ?_;refine wD N [] (fun t4=>[(3,vI kind),(4,.bool t4)]) (fun o0 ho0=>?_) ?_
 · have H:=iS I;refine yE ho0 ?_ ?_
   · intro hc N;exact zT<|yQ<|zR (ct N H)
   intro hc N;refine yH [4] rfl<|zJ ?_;refine wD N [] (fun t41=>[(3,vI kind),(4,.bool t41)]) (fun o01 ho01=>?_) ?_
   · have H:=iS I;refine yE ho01 ?_ ?_
     · intro hc1 N;exact zT<|yQ<|zR (ct N H)
     intro hc1 N;exact zO<|yI [] [4] rfl<|yQ<|zR (ct N H)
   intro t41 I01 le hMc1;have H:=H.trans le;exact yQ<|zR (ct hMc1 H)
 intro t4 I0 le1 hMc;have H:=H.trans le1;refine zJ<|yE hMc ?_ ?_
 · intro hc2 N;refine yH [2] rfl<|xB<|zU<|zI ?_;obtain rfl:=zC N;exact xZ
 intro hc2 N;refine zZ<|yH [8] rfl<|zJ ?_;refine wD N [] (fun t8=>[(8,.bool t8)]) (fun o02 ho02=>?_) ?_
 · have H:=iS I0;refine yE ho02 ?_ ?_
   · intro hc3 N;exact zT<|yQ<|zR (ct N H)
   intro hc3 N;refine yH [8] rfl<|zJ ?_;refine wD N [] (fun t81=>[(8,.bool t81)]) (fun o03 ho03=>?_) ?_
   · have H:=iS I0;refine yE ho03 ?_ ?_
     · intro hc4 N;exact zT<|yQ<|zR (ct N H)
     intro hc4 N;exact zO<|yI [] [8] rfl<|yQ<|zR (ct N H)
   intro t81 I03 le2 hMc3;have H:=H.trans le2;exact yQ<|zR (ct hMc3 H)
 intro t8 I02 le3 hMc2;refine zJ<|yE hMc2 ?_ ?_
 · intro hc5 N;refine yH [2] rfl<|xB<|zU<|zI ?_;obtain rfl:=zC N;exact xZ
 intro hc5 N;refine zT<|zQ<|vV [2] rfl<|zJ<|yX ?_;obtain rfl:=zC N;exact xZ
def rX (a0:zG):Option (Bool):=do
 let t2←(do
   if (a0.Array.l == ([]:List UInt8)) then
    pure ((a0.Subs.length:Int) == 0)
   else
    pure false
     : Option Bool)
 pure (id t2)
theorem fN:∀ a0 r,rX a0=some r→∀ {I:Imm}{p c},(S4 I p a0.Subs c)→RT 208 [vA (cAccess a0 p c)] I [] (zS  r):=by
 intro a0 r N I p c h;unfold rX at N;refine yJ Tryz.func208 fun B=>?_;have H:=iS I;refine yB<|vM (cAccess a0 p c) ?_;intro b hb;refine xY [] []<|zJ<|zZ ?_;refine wD N [] (fun t2=>[(2,.bool t2)]) (fun o0 ho0=>?_) ?_
 · have H:=iS I;refine zO<|yD 4 [0] [6] rfl<|xQ [6] ho0 ?_ ?_
   · intro hc N;exact yI [0] [2] rfl<|xV zP<|yQ<|zR (ct N H)
   intro hc N;exact xY [] [(2,vF)]<|xV zP<|yQ<|zR (ct N H)
 intro t2 I0 le hMc;refine zJ<|yX ?_;obtain rfl:=zC hMc;exact xZ
def pR (a0:zA):Option (Bool):=do
 let t2←(do
   if ((a0.Coefs.length:Int) == 0) then
    pure (a0.Const == 0)
   else
    pure false
     : Option Bool)
 pure (id t2)
theorem eH:∀ a0 r,pR a0=some r→∀ {I:Imm}{p c},(S4 I p a0.Coefs c)→RT 209 [vA (cAff a0 p c)] I [] (zS  r):=by
 intro a0 r N I p c h;unfold pR at N;refine yJ Tryz.func209 fun B=>?_;have H:=iS I;refine yB<|vM (cAff a0 p c) ?_;intro b hb;refine xY [] []<|zJ<|zZ ?_;refine wD N [] (fun t2=>[(2,.bool t2)]) (fun o0 ho0=>?_) ?_
 · have H:=iS I;refine zO<|yD 5 [0] [7] rfl<|xQ [7] ho0 ?_ ?_
   · intro hc N;exact yI [0] [2] rfl<|xV zP<|yQ<|zR (ct N H)
   intro hc N;exact xY [] [(2,vF)]<|xV zP<|yQ<|zR (ct N H)
 intro t2 I0 le hMc;refine zJ<|yX ?_;obtain rfl:=zC hMc;exact xZ
def kD (e0:zD) (depth:Int):Option (Bool):=do
 if (e0.Kind == 2) then
  let t4←(do
    if (e0.Num == 0) then
     let y←rX e0.Read
     if y then
      let y1←vQ e0.Index
      if y1 then
       let y2←rW e0.Index
       pure (decide (y2 ≤ depth))
      else
       pure false
     else
      pure false
    else
     pure false
      : Option Bool)
  pure (id t4)
 else
  if (e0.Kind == 3) then
   let t41←(do
     if (e0.Num == 0) then
      let y3←pR e0.Index
      if y3 then
       let y4←qN e0.Read depth
       pure (id y4)
      else
       pure false
     else
      pure false
       : Option Bool)
   pure (id t41)
  else
   if (e0.Kind == 1) then
    let t42←(do
      if (decide (e0.Num ≥ 0)) then
       if (decide (e0.Num ≤ 99)) then
        let y5←pR e0.Index
        if y5 then
         let y6←rX e0.Read
         pure (id y6)
        else
         pure false
       else
        pure false
      else
       pure false
        : Option Bool)
    pure (id t42)
   else
    let t43←(do
      if (e0.Num == 0) then
       let y7←pR e0.Index
       if y7 then
        let y8←rX e0.Read
        pure (id y8)
       else
        pure false
      else
       pure false
        : Option Bool)
    pure (id t43)
theorem zFY:∀ e0 depth r,kD e0 depth=some r→∀ {I:Imm}{p c p1 c1 p2 c2},(S4 I p e0.Index.Coefs c)→(S4 I p1 e0.Read.Subs c1)→(S4 I p2 e0.Kids c2)→RT 166 [vA (cExpr e0 p c p1 c1 p2 c2),vI depth] I [] (zS  r):=by
 intro e0 depth r N I p c p1 c1 p2 c2 h h1 h2;unfold kD at N;refine yJ Tryz.func166 fun B=>?_;have H:=iS I;refine yB<|vM (cExpr e0 p c p1 c1 p2 c2) ?_;intro b hb;refine xY [] []<|yA<|yB<|yI [0] [7] rfl<|zJ<|yE N ?_ ?_
 · intro hc N;refine zZ ?_;refine wD N [] (fun t4=>[(4,.bool t4)]) (fun o0 ho0=>?_) ?_
   · have H:=iS I;refine zO<|yD 4 [0] [11] rfl<|xQ [11] ho0 ?_ ?_
     · intro hc1 N;refine sU 6 [0] [(13,vA (cAccess e0.Read p1 c1))]<|bE N fun y hy N=>wZ (fN e0.Read _ hy h1) ?_;intro I01 le;have ⟨h,H⟩:=m2 le h H;refine yD 9 [] [16] rfl<|xQ [16] N ?_ ?_
       · intro hc2 N;refine sU 11 [0] [(18,vA (cAff e0.Index p c))]<|bE N fun y1 hy1 N=>wZ (mI e0.Index _ hy1 h) ?_;intro I02 le1;have ⟨h,H⟩:=m2 le1 h H;refine yD 14 [] [21] rfl<|xQ [21] N ?_ ?_
         · intro hc3 N;refine sU 16 [0] [(23,vA (cAff e0.Index p c))]<|bE N fun y2 hy2 N=>oH (fM e0.Index _ hy2 h) ?_;intro I03 le2;have H:=H.trans le2;exact yI [] [4] rfl<|xV zP<|yQ<|zR (ct N H)
         intro hc3 N;exact xY [] [(4,vF)]<|xV zP<|yQ<|zR (ct N H)
       intro hc2 N;exact xY [] [(4,vF)]<|xV zP<|yQ<|zR (ct N H)
     intro hc1 N;exact xY [] [(4,vF)]<|xV zP<|yQ<|zR (ct N H)
   intro t4 I0 le3 hMc;refine xB<|zI ?_;obtain rfl:=zC hMc;exact xZ
 intro hc N;refine zT<|yA<|yB<|yI [0] [30] rfl<|zJ<|yE N ?_ ?_
 · intro hc4 N;refine zZ ?_;refine wD N [] (fun t41=>[(4,.bool t41)]) (fun o01 ho01=>?_) ?_
   · have H:=iS I;refine zO<|yD 4 [0] [34] rfl<|xQ [34] ho01 ?_ ?_
     · intro hc5 N;refine sU 6 [0] [(36,vA (cAff e0.Index p c))]<|bE N fun y3 hy3 N=>wZ (eH e0.Index _ hy3 h) ?_;intro I05 le4;have ⟨h1,H⟩:=m2 le4 h1 H;refine yD 9 [] [39] rfl<|xQ [39] N ?_ ?_
       · intro hc6 N;refine sU 12 [0] [(41,vA (cAccess e0.Read p1 c1)),(42,vI depth)]<|bE N fun y4 hy4 N=>wZ (zAJ e0.Read depth _ hy4 h1) ?_;intro I06 le5;have H:=H.trans le5;exact yI [] [4] rfl<|xV zP<|yQ<|zR (ct N H)
       intro hc6 N;exact xY [] [(4,vF)]<|xV zP<|yQ<|zR (ct N H)
     intro hc5 N;exact xY [] [(4,vF)]<|xV zP<|yQ<|zR (ct N H)
   intro t41 I04 le6 hMc1;refine xB<|zI ?_;obtain rfl:=zC hMc1;exact xZ
 intro hc4 N;refine zT<|yA<|yB<|yI [0] [47] rfl<|zJ<|yE N ?_ ?_
 · intro hc7 N;refine zZ ?_;refine wD N [] (fun t42=>[(4,.bool t42)]) (fun o02 ho02=>?_) ?_
   · have H:=iS I;refine zO<|yD 4 [0] [51] rfl<|xQ [51] ho02 ?_ ?_
     · intro hc8 N;refine yD 9 [0] [56] rfl<|xQ [56] N ?_ ?_
       · intro hc9 N;refine sU 11 [0] [(58,vA (cAff e0.Index p c))]<|bE N fun y5 hy5 N=>wZ (eH e0.Index _ hy5 h) ?_;intro I08 le7;have ⟨h1,H⟩:=m2 le7 h1 H;refine yD 14 [] [61] rfl<|xQ [61] N ?_ ?_
         · intro hc10 N;refine sU 16 [0] [(63,vA (cAccess e0.Read p1 c1))]<|bE N fun y6 hy6 N=>wZ (fN e0.Read _ hy6 h1) ?_;intro I09 le8;have H:=H.trans le8;exact yI [] [4] rfl<|xV zP<|yQ<|zR (ct N H)
         intro hc10 N;exact xY [] [(4,vF)]<|xV zP<|yQ<|zR (ct N H)
       intro hc9 N;exact xY [] [(4,vF)]<|xV zP<|yQ<|zR (ct N H)
     intro hc8 N;exact xY [] [(4,vF)]<|xV zP<|yQ<|zR (ct N H)
   intro t42 I07 le9 hMc2;refine xB<|zI ?_;obtain rfl:=zC hMc2;exact xZ
 intro hc7 N;refine zT<|zJ<|zZ ?_;refine wD N [] (fun t43=>[(4,.bool t43)]) (fun o03 ho03=>?_) ?_
 · have H:=iS I;refine zO<|yD 4 [0] [69] rfl<|xQ [69] ho03 ?_ ?_
   · intro hc11 N;refine sU 6 [0] [(71,vA (cAff e0.Index p c))]<|bE N fun y7 hy7 N=>wZ (eH e0.Index _ hy7 h) ?_;intro I011 le10;have ⟨h1,H⟩:=m2 le10 h1 H;refine yD 9 [] [74] rfl<|xQ [74] N ?_ ?_
     · intro hc12 N;refine sU 11 [0] [(76,vA (cAccess e0.Read p1 c1))]<|bE N fun y8 hy8 N=>wZ (fN e0.Read _ hy8 h1) ?_;intro I012 le11;have H:=H.trans le11;exact yI [] [4] rfl<|xV zP<|yQ<|zR (ct N H)
     intro hc12 N;exact xY [] [(4,vF)]<|xV zP<|yQ<|zR (ct N H)
   intro hc11 N;exact xY [] [(4,vF)]<|xV zP<|yQ<|zR (ct N H)
 intro t43 I010 le12 hMc3;refine zJ<|yX ?_;obtain rfl:=zC hMc3;exact xZ
mutual
def uV (e0:zD) (depth:Int) (levels:Int):Option (Bool):=do
 let t24←(do
   if (decide (levels < 1)) then
    pure true
   else
    let y←mA e0.Kind
    if (y != (e0.Kids.length:Int)) then
     pure true
    else
     let y1←kD e0 depth
     pure (!y1)
     : Option Bool)
 if t24 then
  pure false
 else
  match←vH (same e0) (same depth) (same levels) (same 0) with
  | .ret r0=>pure r0
  | .done _ =>
   pure true
 partial_fixpoint
def vH (e0:zD) (depth:Int) (levels:Int) (i:Int):Option (Out Unit (Bool)):=do
 if (decide (i < (e0.Kids.length:Int))) then
  let x←idx e0.Kids i
  let y2←uV (same x) (same depth) (W (levels - 1))
  if (!y2) then
   pure (.ret false)
  else
   vH (same e0) (same depth) (same levels) (W (i + 1))
 else
  pure (.done ())
 partial_fixpoint
end
theorem zD0:(∀ (e0:zD) (depth:Int) (levels:Int) r,uV e0 depth levels=some r→∀ {I:Imm}{p c p1 c1 p2 c2},(S4 I p e0.Index.Coefs c)→(S4 I p1 e0.Read.Subs c1)→(S4 I p2 e0.Kids c2)→RT 105 [vA (cExpr e0 p c p1 c1 p2 c2),vI depth,vI levels] I [] (zS  r))∧(∀ (e0:zD) (depth:Int) (levels:Int) (i:Int) o,vH e0 depth levels i=some o→∀ {B}{I0 I:Imm}{Q p c p1 c1 p2 c2}{b:Nat},I0.le I→(S4 I p e0.Index.Coefs c)→(S4 I p1 e0.Read.Subs c1)→(S4 I p2 e0.Kids c2)→NG Q→NO Q→(∀ (I':Imm) ,o=(.done ())→I0.le I'→T 42 B Q (.exit 0) I' [] [])→(∀ r I' hs' m',o=(.ret r)→I0.le I'→RS Tryz.prog Tryz.f105 B (zS  r) I' hs' m'→T 42 B Q .ret I' hs' m')→J Tryz.prog 42 B (nav (bodyOf Tryz.f105) [1,1,0,1,0]) Q I [hB b (cExpr e0 p c p1 c1 p2 c2)] [(1,vI depth),(2,vI levels),(3,vP b 0),(7,vI i)]):=by
  refine uV.mutual_partial_correctness _ _ ?_ ?_
  · intro F_spec_l3Shape_l1 ih_spec_l3Shape_l1 e0 depth levels r N I p c p1 c1 p2 c2 h h1 h2;refine yJ Tryz.func105 fun B=>?_;have H:=iS I;refine yB<|vM (cExpr e0 p c p1 c1 p2 c2) ?_;intro b hb;refine xY [] []<|yA<|zZ ?_;refine wD N [hB b (cExpr e0 p c p1 c1 p2 c2)] (fun t24=>[(1,vI depth),(2,vI levels),(3,vP b 0),(24,.bool t24)]) (fun o0 ho0=>?_) ?_
    · have H:=iS I;cases hc:(decide (levels < 1)) with
      | true =>
       have hM0:=rQ hc ho0;refine wS [.p (vI levels) [],.q vY,.q vY,.p undef [],.p undef [],.p undef [],.p undef [],.p undef [],.p undef [],.p undef [],.p vY [],.p vY [],.p undef [],.p undef [],.p undef [],.p undef [],.p vY []] [[],[(0,false)],[(1,false)],[(2,false)],[(2,false),(3,false)],[(2,false),(4,false)],[(2,false)],[(2,false),(6,false)],[(2,false),(7,false)],[(2,false),(5,false),(8,false)],[(2,false),(9,false)],[(10,false)],[(11,false)],[(11,false)],[(11,false),(12,false),(13,false)],[(11,false),(14,false)],[(11,false),(15,false)]] [hB b (cExpr e0 p c p1 c1 p2 c2)] [] [(16,false)] (zY [0]) ?_ ?_
       · refine Op<|Oq ?_<|Oq ?_<|Op<|Op<|Op<|Op<|Op<|Op<|Op<|Op<|Op<|Op<|Op<|Op<|Op<|Op<|On
         · intro I1 hf le1;refine yS [8] rfl<|qQ 2 [(9,.bool (decide (levels < 1)))] ?_;rw [hc];exact xF iR
         intro I1 hf le1;exact fC [(9,vY)]<|qQ 3 [(10,vY)]<|xF iR
       intro I01 le;refine yS [1,2,3,24] rfl ?_;have H:=H.trans le;exact yC rfl<|yQ<|zR (ct hM0 H)
      | false =>
       have hM01:=sP hc ho0;obtain ⟨y,hy,N⟩:=zB hM01;cases hc1:(y != (e0.Kids.length:Int)) with
       | true =>
        have hM02:=rQ hc1 N;refine wS [.p (vI levels) [],.q vF,.q vF,.p (vP b 0) [],.p (vI e0.Kind) [0],.q (vI y),.p (vP b 6) [],.p (vS p2 e0.Kids c2) [0],.p (vI (e0.Kids.length:Int)) [],.q vY,.q vY,.q vY,.p undef [],.p undef [],.p undef [],.p undef [],.p vY []] [[],[(0,false)],[(1,false)],[(2,false)],[(2,false),(3,false)],[(2,false),(4,false)],[(2,false)],[(2,false),(6,false)],[(2,false),(7,false)],[(2,false),(5,false),(8,false)],[(2,false),(9,false)],[(10,false)],[(11,false)],[(11,false)],[(11,false),(12,false),(13,false)],[(11,false),(14,false)],[(11,false),(15,false)]] [hB b (cExpr e0 p c p1 c1 p2 c2)] [] [(16,false)] (zY [0]) ?_ ?_
        · refine Op<|Oq ?_<|Oq ?_<|Op<|Op<|Oq ?_<|Op<|Op<|Op<|Oq ?_<|Oq ?_<|Oq ?_<|Op<|Op<|Op<|Op<|Op<|On
          · intro I1 hf le1;refine yS [8] rfl<|qQ 2 [(9,.bool (decide (levels < 1)))] ?_;rw [hc];exact xF iR
          · intro I1 hf le1;exact fC [(9,vF)]<|qQ 3 [(10,vF)]<|xF iR
          · intro I1 hf le1;refine yS [10,12] rfl ?_;have H:=iS I1;refine oH (zBD e0.Kind _ hy ) ?_;intro I02 le1;have H:=H.trans le1;exact xF H
          · intro I1 hf le1;refine yS [10,13,16] rfl<|qQ 10 [(17,.bool (y != (e0.Kids.length:Int)))] ?_;rw [hc1];exact xF iR
          · intro I1 hf le1;exact yS [10,17] rfl<|qQ 11 [(18,vY)]<|xF iR
          intro I1 hf le1;exact fC [(18,vY)]<|qQ 12 [(19,vY)]<|xF iR
        intro I03 le2;refine yS [1,2,3,24] rfl ?_;have H:=H.trans le2;exact yC rfl<|yQ<|zR (ct hM02 H)
       | false =>
        have hM03:=sP hc1 N;obtain ⟨y1,hy1,N⟩:=zB hM03;refine wS [.p (vI levels) [],.q vF,.q vF,.p (vP b 0) [],.p (vI e0.Kind) [0],.q (vI y),.p (vP b 6) [],.p (vS p2 e0.Kids c2) [0],.p (vI (e0.Kids.length:Int)) [],.q vF,.q vF,.q vF,.p (vA (cExpr e0 p c p1 c1 p2 c2)) [0],.p (vI depth) [],.q (.bool y1),.p (.bool (!y1)) [],.p (.bool (!y1)) []] [[],[(0,false)],[(1,false)],[(2,false)],[(2,false),(3,false)],[(2,false),(4,false)],[(2,false)],[(2,false),(6,false)],[(2,false),(7,false)],[(2,false),(5,false),(8,false)],[(2,false),(9,false)],[(10,false)],[(11,false)],[(11,false)],[(11,false),(12,false),(13,false)],[(11,false),(14,false)],[(11,false),(15,false)]] [hB b (cExpr e0 p c p1 c1 p2 c2)] [] [(16,false)] (zY [0]) ?_ ?_
        · refine Op<|Oq ?_<|Oq ?_<|Op<|Op<|Oq ?_<|Op<|Op<|Op<|Oq ?_<|Oq ?_<|Oq ?_<|Op<|Op<|Oq ?_<|Op<|Op<|On
          · intro I1 hf le1;refine yS [8] rfl<|qQ 2 [(9,.bool (decide (levels < 1)))] ?_;rw [hc];exact xF iR
          · intro I1 hf le1;exact fC [(9,vF)]<|qQ 3 [(10,vF)]<|xF iR
          · intro I1 hf le1;refine yS [10,12] rfl ?_;have H:=iS I1;refine oH (zBD e0.Kind _ hy ) ?_;intro I02 le1;have H:=H.trans le1;exact xF H
          · intro I1 hf le1;refine yS [10,13,16] rfl<|qQ 10 [(17,.bool (y != (e0.Kids.length:Int)))] ?_;rw [hc1];exact xF iR
          · intro I1 hf le1;exact yS [10,17] rfl<|qQ 11 [(18,vF)]<|xF iR
          · intro I1 hf le1;exact fC [(18,vF)]<|qQ 12 [(19,vF)]<|xF iR
          intro I1 hf le1;refine yS [19,20,21] rfl ?_;have H:=iS I1;have ⟨h,h1,h2⟩:=m3 le1 h h1 h2;refine wZ (zFY e0 depth _ hy1 h h1 h2) ?_;intro I04 le3;have H:=H.trans le3;exact xF H
        intro I05 le4;refine yS [1,2,3,24] rfl ?_;have H:=H.trans le4;exact yC rfl<|yQ<|zR (ct N H)
    intro t24 I0 le5 hMc;have ⟨h,h1,h2⟩:=m3 le5 h h1 h2;refine zJ<|yE hMc ?_ ?_
    · intro hc2 N;refine vU [(6,vF)]<|xB<|zI ?_;obtain rfl:=zC N;exact xZ
    intro hc2 N;refine zT<|yA<|yH [7] rfl<|wK<|oM [(1,vI depth),(2,vI levels),(3,vP b 0),(7,vI 0)] ?_;obtain ⟨o01,ho01,hMl⟩:=zB N;refine ih_spec_l3Shape_l1 e0 depth levels 0 o01 ho01 iR h h1 h2 (fun _ _ _ h=>h) (fun _ _ h=>h) ?_ ?_
    · intro I07  heq1 le7;subst o01;refine zV<|zIX [(6,vY)]<|zJ<|yX ?_;obtain rfl:=zC hMl;exact xZ
    intro r0 I9 hs9 m9 heq9 le9 hrs9;subst heq9;refine zU<|zI ?_;obtain rfl:=zC hMl;exact xC hrs9
  intro F_spec_l3Shape F_spec_l3Shape_l1 ih_spec_l3Shape ih_spec_l3Shape_l1 e0 depth levels i o N B I0 I Q p c p1 c1 p2 c2 b H h h1 h2 hg ho hx hr;refine yY hg ho<|zZ<|yB<|yI [0] [29] rfl<|zJ<|yE N ?_ ?_
  · intro hc3 N;refine zT<|yA<|yL<|yB<|yD 3 [0] [33,34] rfl<|bE N fun x hy2 N=>xS rfl rfl h2 hy2 ?_;intro ad ccs hat hrep;obtain ⟨p3,c3,p4,c4,p5,c5,rfl,h5,h6,h7⟩:=xX hrep;refine xL 0 hat (cExpr x p3 c3 p4 c4 p5 c5) (vA (cExpr x p3 c3 p4 c4 p5 c5)) rfl<|yD 8 [] [37,39] rfl<|bE N fun y2 hy3 N=>xP (ih_spec_l3Shape x depth (W (levels - 1)) _ hy3 h5 h6 h7) ?_;rintro I06 hs2 v2 k2 le6 - ⟨v05,rfl,rfl,rfl⟩ -;have ⟨h,h1,h2,H⟩:=m4 le6 h h1 h2 H;refine yI [] [41] rfl<|zJ<|yE N ?_ ?_
    · intro hc4 N;exact vU [(6,vF)]<|xB<|zU<|zI<|zI<|hr _ _ _ _ (zC N).symm H ⟨_,_,(.tmp rfl ResV.nil),zP,⟨_,rfl,rfl,rfl⟩⟩
    intro hc4 N;exact zT<|zQ<|zJ<|zO<|yI [] [7] rfl<|yZ<|mW<|ih_spec_l3Shape_l1 e0 depth levels (W (i + 1)) _ N H h h1 h2 hg ho hx hr
  intro hc3 N;exact uA<|xV zP<|yQ<|hx _  (zC N).symm H
theorem zDx:∀ e0 depth levels r,uV e0 depth levels=some r→∀ {I:Imm}{p c p1 c1 p2 c2},(S4 I p e0.Index.Coefs c)→(S4 I p1 e0.Read.Subs c1)→(S4 I p2 e0.Kids c2)→RT 105 [vA (cExpr e0 p c p1 c1 p2 c2),vI depth,vI levels] I [] (zS  r):=zD0.1
mutual
def tK (e0:zD) (levels:Int):Option (Int):=do
 let n01←vJ (same e0) (same levels) (same 1) (same 0)
 pure (id n01)
 partial_fixpoint
def vJ (e0:zD) (levels:Int) (n0:Int) (i:Int):Option (Int):=do
 let t15←(do
   if (decide (i < (e0.Kids.length:Int))) then
    pure (decide (levels > 0))
   else
    pure false
     : Option Bool)
 if t15 then
  let x←idx e0.Kids i
  let y←tK (same x) (W (levels - 1))
  vJ (same e0) (same levels) (W (n0 + y)) (W (i + 1))
 else
  pure (id n0)
 partial_fixpoint
end
theorem zD1:(∀ (e0:zD) (levels:Int) r,tK e0 levels=some r→∀ {I:Imm}{p c p1 c1 p2 c2},(S4 I p e0.Index.Coefs c)→(S4 I p1 e0.Read.Subs c1)→(S4 I p2 e0.Kids c2)→RT 106 [vA (cExpr e0 p c p1 c1 p2 c2),vI levels] I [] (yP  r))∧(∀ (e0:zD) (levels:Int) (n0:Int) (i:Int) o,vJ e0 levels n0 i=some o→∀ {B}{I0 I:Imm}{Q p c p1 c1 p2 c2}{b:Nat},I0.le I→(S4 I p e0.Index.Coefs c)→(S4 I p1 e0.Read.Subs c1)→(S4 I p2 e0.Kids c2)→NG Q→NO Q→(∀ (I':Imm) (n01:Int),o=n01→I0.le I'→T 29 B Q (.exit 0) I' [] [(5,vI n01)])→J Tryz.prog 29 B (nav (bodyOf Tryz.f106) [1,1,0,1,0]) Q I [hB b (cExpr e0 p c p1 c1 p2 c2)] [(1,vI levels),(2,vP b 0),(5,vI n0),(6,vI i)]):=by
  refine tK.mutual_partial_correctness _ _ ?_ ?_
  · intro F_spec_l3Count_l1 ih_spec_l3Count_l1 e0 levels r N I p c p1 c1 p2 c2 h h1 h2;refine yJ Tryz.func106 fun B=>yB<|vM (cExpr e0 p c p1 c1 p2 c2) ?_;intro b hb;refine xY [] []<|vV [5] rfl<|yA<|yH [6] rfl<|wK<|oM [(1,vI levels),(2,vP b 0),(5,vI 1),(6,vI 0)] ?_;obtain ⟨o01,ho01,hMl⟩:=zB N;refine ih_spec_l3Count_l1 e0 levels 1 0 o01 ho01 iR h h1 h2 (fun _ _ _ h=>h) (fun _ _ h=>h) ?_;intro I02 n01 heq1 le2;subst o01;refine zV<|vV [4] rfl<|zJ<|yX ?_;obtain rfl:=zC hMl;exact xZ
  intro F_spec_l3Count F_spec_l3Count_l1 ih_spec_l3Count ih_spec_l3Count_l1 e0 levels n0 i o N B I0 I Q p c p1 c1 p2 c2 b H h h1 h2 hg ho hx;refine yY hg ho<|zZ<|zZ ?_;refine wD N [hB b (cExpr e0 p c p1 c1 p2 c2)] (fun t15=>[(1,vI levels),(2,vP b 0),(5,vI n0),(6,vI i),(15,.bool t15)]) (fun o0 ho0=>?_) ?_
  · have H:=iS I;refine zO<|yD 6 [0] [12] rfl<|xQ [12] ho0 ?_ ?_
    · intro hc N;exact yI [] [15] rfl<|yQ<|zR (ct N H)
    intro hc N;exact xY [] [(15,vF)]<|yQ<|zR (ct N H)
  intro t15 I0 le hMc;have ⟨h,h1,h2,H⟩:=m4 le h h1 h2 H;refine zJ<|yE hMc ?_ ?_
  · intro hc1 N;refine zT<|yA<|yL<|zO<|yD 4 [0] [18,20,21] rfl<|bE N fun x hy N=>xS rfl rfl h2 hy ?_;intro ad ccs hat hrep;obtain ⟨p3,c3,p4,c4,p5,c5,rfl,h3,h4,h5⟩:=xX hrep;refine xL 0 hat (cExpr x p3 c3 p4 c4 p5 c5) (vA (cExpr x p3 c3 p4 c4 p5 c5)) rfl<|yD 8 [] [25] rfl<|bE N fun y hy1 N=>xP (ih_spec_l3Count x (W (levels - 1)) _ hy1 h3 h4 h5) ?_;rintro I01 hs2 v2 k2 le1 - ⟨v03,rfl,rfl,rfl⟩ -;have ⟨h,h1,h2,H⟩:=m4 le1 h h1 h2 H;exact yI [] [5] rfl<|zQ<|zJ<|zO<|yI [] [6] rfl<|yZ<|mW<|ih_spec_l3Count_l1 e0 levels (W (n0 + y)) (W (i + 1)) _ N H h h1 h2 hg ho hx
  intro hc1 N;exact uA<|xV zP<|yQ<|hx _ _ (zC N).symm H
theorem zDy:∀ e0 levels r,tK e0 levels=some r→∀ {I:Imm}{p c p1 c1 p2 c2},(S4 I p e0.Index.Coefs c)→(S4 I p1 e0.Read.Subs c1)→(S4 I p2 e0.Kids c2)→RT 106 [vA (cExpr e0 p c p1 c1 p2 c2),vI levels] I [] (yP  r):=zD1.1
def sA (s:zN) (depth:Int):Option (Bool):=do
 let t24←(do
   if (decide (depth < 0)) then
    pure true
   else
    if (decide (depth > 4)) then
     pure true
    else
     let y←qN s.Write depth
     if (!y) then
      pure true
     else
      let y1←uV s.Value depth 5
      pure (!y1)
     : Option Bool)
 if t24 then
  pure false
 else
  let y2←tK s.Value 5
  pure (decide (y2 ≤ 12))
theorem gD:∀ s depth r,sA s depth=some r→∀ {I:Imm}{p c p1 c1 p2 c2 p3 c3},(S4 I p s.Write.Subs c)→(S4 I p1 s.Value.Index.Coefs c1)→(S4 I p2 s.Value.Read.Subs c2)→(S4 I p3 s.Value.Kids c3)→RT 47 [vA (cStmt s p c p1 c1 p2 c2 p3 c3),vI depth] I [] (zS  r):=by
 intro s depth r N I p c p1 c1 p2 c2 p3 c3 h h1 h2 h3;unfold sA at N;refine yJ Tryz.func47 fun B=>?_;have H:=iS I;refine yB<|vM (cStmt s p c p1 c1 p2 c2 p3 c3) ?_;intro b hb;refine xY [] []<|yA<|zZ ?_;refine wD N [hB b (cStmt s p c p1 c1 p2 c2 p3 c3)] (fun t24=>[(2,vP b 0),(24,.bool t24)]) (fun o0 ho0=>?_) ?_
 · have H:=iS I;refine zO<|yD 3 [] [7] rfl<|xQ [7] ho0 ?_ ?_
   · intro hc N;exact xY [] [(24,vY)]<|yQ<|zR (ct N H)
   intro hc N;refine yD 7 [] [11] rfl<|xQ [11] N ?_ ?_
   · intro hc1 N;exact xY [] [(24,vY)]<|yQ<|zR (ct N H)
   intro hc1 N;refine sU 10 [0] [(13,vA (cAccess s.Write p c)),(14,vI depth)]<|bE N fun y hy N=>wZ (zAJ s.Write depth _ hy h) ?_;intro I01 le;have ⟨h1,h2,h3,H⟩:=m4 le h1 h2 h3 H;refine yD 14 [] [18] rfl<|xQ [18] N ?_ ?_
   · intro hc2 N;exact xY [] [(24,vY)]<|yQ<|zR (ct N H)
   intro hc2 N;refine sU 17 [0] [(20,vA (cExpr s.Value p1 c1 p2 c2 p3 c3)),(21,vI depth)]<|bE N fun y1 hy1 N=>wZ (zDx s.Value depth 5 _ hy1 h1 h2 h3) ?_;intro I02 le1;have H:=H.trans le1;exact yI [] [24] rfl<|yQ<|zR (ct N H)
 intro t24 I0 le2 hMc;have ⟨h1,h2,h3⟩:=m3 le2 h1 h2 h3;refine zJ<|yE hMc ?_ ?_
 · intro hc3 N;refine vU [(4,vF)]<|xB<|zI ?_;obtain rfl:=zC N;exact xZ
 intro hc3 N;refine zT<|xE<|sU 2 [0] [(26,vA (cExpr s.Value p1 c1 p2 c2 p3 c3))]<|bE N fun y2 hy2 N=>oH (zDy s.Value 5 _ hy2 h1 h2 h3) fun I03 le3=>xY [] [(4,.bool (decide (y2 ≤ 12)))]<|zJ<|yX ?_;obtain rfl:=zC N;exact xZ
def uK (p:(List Int)) (i:Int):Option (Out Unit (Bool)):=do
 if (decide (i < (p.length:Int))) then
  let x←idx p i
  let y←vD x 9999
  if (!y) then
   pure (.ret false)
  else
   uK p (W (i + 1))
 else
  pure (.done ())
 partial_fixpoint
theorem zCB (p:(List Int)):∀ (i:Int) (o:Out Unit (Bool)),uK p i=some o→∀ {B}{I0 I:Imm}{Q p1 c},I0.le I→(S4 I p1 p c)→NG Q→NO Q→(∀ (I':Imm) ,o=(.done ())→I0.le I'→T 19 B Q (.exit 0) I' [] [(0,vS p1 p c)])→(∀ r I' hs' m',o=(.ret r)→I0.le I'→RS Tryz.prog Tryz.f178 B (zS  r) I' hs' m'→T 19 B Q .ret I' hs' m')→J Tryz.prog 19 B (nav (bodyOf Tryz.f178) [1,0,1,0]) Q I [] [(0,vS p1 p c),(3,vI i)]:=by
 refine uK.partial_correctness p _ fun self ih i o N B I0 I Q p1 c H h hg ho hx hr=>yY hg ho<|zZ<|yH [7] rfl<|zJ<|yE N ?_ ?_
 · intro hc N;refine zT<|yA<|yL<|yB<|yD 2 [] [10,11] rfl<|bE N fun x hy N=>xS rfl rfl h hy ?_;intro ad ccs hat hrep;obtain rfl:=hrep;refine xL 0 hat [vI x] (vI x) rfl<|bE N fun y hy1 N=>wZ (gW x 9999 _ hy1 ) ?_;intro I0 le;have ⟨h,H⟩:=m2 le h H;refine yI [] [15] rfl<|zJ<|yE N ?_ ?_
   · intro hc1 N;exact vU [(2,vF)]<|xB<|zU<|zI<|zI<|hr _ _ _ _ (zC N).symm H ⟨_,_,(.tmp rfl ResV.nil),zP,⟨_,rfl,rfl,rfl⟩⟩
   intro hc1 N;exact zT<|zQ<|zJ<|zO<|yI [] [3] rfl<|yZ<|mW<|ih (W (i + 1)) _ N H h hg ho hx hr
 intro hc N;exact uA<|yQ<|hx _  (zC N).symm H
def pT (p:(List Int)):Option (Bool):=do
 match←uK p 0 with
 | .ret r0=>pure r0
 | .done _ =>
  pure (decide ((p.length:Int) ≤ 4))
theorem zAd:∀ p r,pT p=some r→∀ {I:Imm}{p1 c},(S4 I p1 p c)→RT 178 [vS p1 p c] I [] (zS  r):=by
 intro p r N I p1 c h;unfold pT at N;refine yJ Tryz.func178 fun B=>vU []<|yA<|yH [3] rfl<|wK<|oM [(0,vS p1 p c),(3,vI 0)] ?_;obtain ⟨o0,ho0,hMl⟩:=zB N;refine zCB p 0 o0 ho0 iR h (fun _ _ _ h=>h) (fun _ _ h=>h) ?_ ?_
 · intro I01  heq le1;subst o0;refine zV<|vV [2] rfl<|zJ<|yX ?_;obtain rfl:=zC hMl;exact xZ
 intro r0 I9 hs9 m9 heq9 le9 hrs9;subst heq9;refine zU<|zI ?_;obtain rfl:=zC hMl;exact xC hrs9
def uW (list:(List zA)) (depth:Int) (i:Int):Option (Out Unit (Bool)):=do
 if (decide (i < (list.length:Int))) then
  let t26←(do
    let x←idx list i
    let y←vQ x
    if (!y) then
     pure true
    else
     let x1←idx list i
     let y1←rW x1
     pure (decide (y1 > depth))
      : Option Bool)
  if t26 then
   pure (.ret false)
  else
   uW list depth (W (i + 1))
 else
  pure (.done ())
 partial_fixpoint
theorem zCg (list:(List zA)) (depth:Int):∀ (i:Int) (o:Out Unit (Bool)),uW list depth i=some o→∀ {B}{I0 I:Imm}{Q p c},I0.le I→(S4 I p list c)→NG Q→NO Q→(∀ (I':Imm) ,o=(.done ())→I0.le I'→T 35 B Q (.exit 0) I' [] [(0,vS p list c)])→(∀ r I' hs' m',o=(.ret r)→I0.le I'→RS Tryz.prog Tryz.f217 B (zS  r) I' hs' m'→T 35 B Q .ret I' hs' m')→J Tryz.prog 35 B (nav (bodyOf Tryz.f217) [1,0,1,0]) Q I [] [(0,vS p list c),(1,vI depth),(5,vI i)]:=by
 refine uW.partial_correctness list depth _ fun self ih i o N B I0 I Q p c H h hg ho hx hr=>yY hg ho<|zZ<|yH [9] rfl<|zJ<|yE N ?_ ?_
 · intro hc N;refine zT<|yA<|yL<|zZ ?_;refine wD N [] (fun t26=>[(0,vS p list c),(1,vI depth),(5,vI i),(26,.bool t26)]) (fun o0 ho0=>?_) ?_
   · have H:=iS I;refine zO<|yD 2 [] [12,13] rfl ?_;obtain ⟨x,hy,N⟩:=zB ho0;refine xS rfl rfl h hy ?_;intro ad ccs hat hrep;obtain ⟨p1,c1,rfl,h1⟩:=yG hrep;refine xL 0 hat (cAff x p1 c1) (vA (cAff x p1 c1)) rfl<|bE N fun y hy1 N=>wZ (mI x _ hy1 h1) ?_;intro I01 le;have ⟨h,H⟩:=m2 le h H;refine yD 7 [] [18] rfl<|xQ [18] N ?_ ?_
     · intro hc1 N;exact xY [] [(26,vY)]<|yQ<|zR (ct N H)
     intro hc1 N;refine yD 9 [] [19,20] rfl<|bE N fun x1 hy2 N=>xS rfl rfl h hy2 ?_;intro ad1 ccs1 hat1 hrep1;obtain ⟨p2,c2,rfl,h3⟩:=yG hrep1;refine xL 0 hat1 (cAff x1 p2 c2) (vA (cAff x1 p2 c2)) rfl<|bE N fun y1 hy3 N=>oH (fM x1 _ hy3 h3) ?_;intro I02 le1;have H:=H.trans le1;exact yI [] [26] rfl<|yQ<|zR (ct N H)
   intro t26 I0 le2 hMc;have ⟨h,H⟩:=m2 le2 h H;refine zJ<|yE hMc ?_ ?_
   · intro hc2 N;exact vU [(4,vF)]<|xB<|zU<|zI<|zI<|hr _ _ _ _ (zC N).symm H ⟨_,_,(.tmp rfl ResV.nil),zP,⟨_,rfl,rfl,rfl⟩⟩
   intro hc2 N;exact zT<|zQ<|zJ<|zO<|yI [] [5] rfl<|yZ<|mW<|ih (W (i + 1)) _ N H h hg ho hx hr
 intro hc N;exact uA<|yQ<|hx _  (zC N).symm H
def oO (list:(List zA)) (depth:Int):Option (Bool):=do
 match←uW list depth 0 with
 | .ret r0=>pure r0
 | .done _ =>
  let t4←(do
    if (decide ((list.length:Int) ≥ 1)) then
     pure (decide ((list.length:Int) ≤ 2))
    else
     pure false
      : Option Bool)
  pure (id t4)
theorem zBE:∀ list depth r,oO list depth=some r→∀ {I:Imm}{p c},(S4 I p list c)→RT 217 [vS p list c,vI depth] I [] (zS  r):=by
 intro list depth r N I p c h;unfold oO at N;refine yJ Tryz.func217 fun B=>?_;have H:=iS I;refine vU []<|yA<|yH [5] rfl<|wK<|oM [(0,vS p list c),(1,vI depth),(5,vI 0)] ?_;obtain ⟨o01,ho01,hMl⟩:=zB N;refine zCg list depth 0 o01 ho01 iR h (fun _ _ _ h=>h) (fun _ _ h=>h) ?_ ?_
 · intro I03  heq1 le3;subst o01;have H:=H.trans le3;refine zV<|zJ<|zZ ?_;refine wD hMl [] (fun t4=>[(4,.bool t4)]) (fun o02 ho02=>?_) ?_
   · have H:=iS I03;refine zO<|yD 4 [] [30] rfl<|xQ [30] ho02 ?_ ?_
     · intro hc3 N;exact yI [] [4] rfl<|yQ<|zR (ct N H)
     intro hc3 N;exact xY [] [(4,vF)]<|yQ<|zR (ct N H)
   intro t4 I04 le4 hMc1;refine zJ<|yX ?_;obtain rfl:=zC hMc1;exact xZ
 intro r0 I9 hs9 m9 heq9 le9 hrs9;subst heq9;refine zU<|zI ?_;obtain rfl:=zC hMl;exact xC hrs9
def wM (nest:(List zE)) (i:Int):Option (Out Unit (Bool)):=do
 let t12←(do
   if (decide (i < (nest.length:Int))) then
    pure (decide ((nest.length:Int) ≤ 4))
   else
    pure false
     : Option Bool)
 if t12 then
  let t32←(do
    let x←idx nest i
    let y←oO x.Lo i
    if (!y) then
     pure true
    else
     let x1←idx nest i
     let y1←oO x1.Hi i
     pure (!y1)
      : Option Bool)
  if t32 then
   pure (.ret false)
  else
   wM nest (W (i + 1))
 else
  pure (.done ())
 partial_fixpoint
theorem zBF (nest:(List zE)):∀ (i:Int) (o:Out Unit (Bool)),wM nest i=some o→∀ {B}{I0 I:Imm}{Q p c},I0.le I→(S4 I p nest c)→NG Q→NO Q→(∀ (I':Imm) ,o=(.done ())→I0.le I'→T 36 B Q (.exit 0) I' [] [(0,vS p nest c)])→(∀ r I' hs' m',o=(.ret r)→I0.le I'→RS Tryz.prog Tryz.f177 B (zS  r) I' hs' m'→T 36 B Q .ret I' hs' m')→J Tryz.prog 36 B (nav (bodyOf Tryz.f177) [1,0,1,0]) Q I [] [(0,vS p nest c),(3,vI i)]:=by
 refine wM.partial_correctness nest _ fun self ih i o N B I0 I Q p c H h hg ho hx hr=>yY hg ho<|zZ<|zZ ?_;refine wD N [] (fun t12=>[(0,vS p nest c),(3,vI i),(12,.bool t12)]) (fun o0 ho0=>?_) ?_
 · have H:=iS I;refine zO<|yD 5 [] [8] rfl<|xQ [8] ho0 ?_ ?_
   · intro hc N;exact yI [] [12] rfl<|yQ<|zR (ct N H)
   intro hc N;exact xY [] [(12,vF)]<|yQ<|zR (ct N H)
 intro t12 I0 le hMc;have ⟨h,H⟩:=m2 le h H;refine zJ<|yE hMc ?_ ?_
 · intro hc1 N;refine zT<|yA<|yL<|zZ ?_;refine wD N [] (fun t32=>[(0,vS p nest c),(3,vI i),(32,.bool t32)]) (fun o01 ho01=>?_) ?_
   · have H:=iS I0;refine zO<|yD 2 [] [15,16] rfl ?_;obtain ⟨x,hy,N⟩:=zB ho01;refine xS rfl rfl h hy ?_;intro ad ccs hat hrep;obtain ⟨p1,c1,p2,c2,rfl,h1,h2⟩:=tG hrep;refine yD 4 [] [18] rfl<|xL 0 hat [vS p1 x.Lo c1] (vS p1 x.Lo c1) rfl<|yD 6 [] [20] rfl<|bE N fun y hy1 N=>wZ (zBE x.Lo i _ hy1 h1) ?_;intro I02 le1;have ⟨h,H⟩:=m2 le1 h H;refine yD 9 [] [23] rfl<|xQ [23] N ?_ ?_
     · intro hc2 N;exact xY [] [(32,vY)]<|yQ<|zR (ct N H)
     intro hc2 N;refine yD 11 [] [24,25] rfl<|bE N fun x1 hy2 N=>xS rfl rfl h hy2 ?_;intro ad1 ccs1 hat1 hrep1;obtain ⟨p3,c3,p4,c4,rfl,h4,h5⟩:=tG hrep1;refine yD 13 [] [27] rfl<|xL 1 hat1 [vS p4 x1.Hi c4] (vS p4 x1.Hi c4) rfl<|yD 15 [] [29] rfl<|bE N fun y1 hy3 N=>wZ (zBE x1.Hi i _ hy3 h5) ?_;intro I03 le2;have H:=H.trans le2;exact yI [] [32] rfl<|yQ<|zR (ct N H)
   intro t32 I01 le3 hMc1;have ⟨h,H⟩:=m2 le3 h H;refine zJ<|yE hMc1 ?_ ?_
   · intro hc3 N;exact vU [(2,vF)]<|xB<|zU<|zI<|zI<|hr _ _ _ _ (zC N).symm H ⟨_,_,(.tmp rfl ResV.nil),zP,⟨_,rfl,rfl,rfl⟩⟩
   intro hc3 N;exact zT<|zQ<|zJ<|zO<|yI [] [3] rfl<|yZ<|mW<|ih (W (i + 1)) _ N H h hg ho hx hr
 intro hc1 N;exact uA<|yQ<|hx _  (zC N).symm H
def rE (nest:(List zE)):Option (Bool):=do
 match←wM nest 0 with
 | .ret r0=>pure r0
 | .done _ =>
  pure (decide ((nest.length:Int) ≤ 4))
theorem dH:∀ nest r,rE nest=some r→∀ {I:Imm}{p c},(S4 I p nest c)→RT 177 [vS p nest c] I [] (zS  r):=by
 intro nest r N I p c h;unfold rE at N;refine yJ Tryz.func177 fun B=>vU []<|yA<|yH [3] rfl<|wK<|oM [(0,vS p nest c),(3,vI 0)] ?_;obtain ⟨o02,ho02,hMl⟩:=zB N;refine zBF nest 0 o02 ho02 iR h (fun _ _ _ h=>h) (fun _ _ h=>h) ?_ ?_
 · intro I04  heq2 le4;subst o02;refine zV<|vV [2] rfl<|zJ<|yX ?_;obtain rfl:=zC hMl;exact xZ
 intro r0 I9 hs9 m9 heq9 le9 hrs9;subst heq9;refine zU<|zI ?_;obtain rfl:=zC hMl;exact xC hrs9
def uX (a0:zA) (point:(List Int)) (n0:Int) (i:Int):Option (Int):=do
 let t19←(do
   if (decide (i < (point.length:Int))) then
    pure (decide (i < (a0.Coefs.length:Int)))
   else
    pure false
     : Option Bool)
 if t19 then
  let x←idx a0.Coefs i
  let x1←idx point i
  uX a0 point (W (n0 + (W (x * x1)))) (W (i + 1))
 else
  pure (id n0)
 partial_fixpoint
theorem zCh (a0:zA) (point:(List Int)):∀ (n0:Int) (i:Int) (o:Int),uX a0 point n0 i=some o→∀ {B}{I0 I:Imm}{Q p c p1 c1}{b:Nat},I0.le I→(S4 I p1 point c1)→(S4 I p a0.Coefs c)→NG Q→NO Q→(∀ (I':Imm) (n01:Int),o=n01→I0.le I'→T 35 B Q (.exit 0) I' [] [(5,vI n01)])→J Tryz.prog 35 B (nav (bodyOf Tryz.f132) [1,1,0,1,0]) Q I [hB b (cAff a0 p c)] [(1,vS p1 point c1),(2,vP b 0),(5,vI n0),(6,vI i)]:=by
 refine uX.partial_correctness a0 point _ fun self ih n0 i o N B I0 I Q p c p1 c1 b H h1 h hg ho hx=>yY hg ho<|zZ<|zZ ?_;refine wD N [hB b (cAff a0 p c)] (fun t19=>[(1,vS p1 point c1),(2,vP b 0),(5,vI n0),(6,vI i),(19,.bool t19)]) (fun o0 ho0=>?_) ?_
 · have H:=iS I;refine zO<|yD 5 [] [13] rfl<|xQ [13] ho0 ?_ ?_
   · intro hc N;exact yI [0] [19] rfl<|yQ<|zR (ct N H)
   intro hc N;exact xY [] [(19,vF)]<|yQ<|zR (ct N H)
 intro t19 I0 le hMc;have ⟨h1,h,H⟩:=m3 le h1 h H;refine zJ<|yE hMc ?_ ?_
 · intro hc1 N;refine zT<|yA<|yL<|eC (by kernel_rfl) (by kernel_rfl)<|zAj 4 [0] [22,24,25] rfl<|bE N fun x hy N=>zEd rfl rfl h hy ?_;intro ad ccs hat hrep;obtain rfl:=hrep;refine zEc 0 hat [vI x] (vI x) rfl<|zAj 8 [] [28,29] rfl<|bE N fun x1 hy1 N=>zEd rfl rfl h1 hy1 ?_;intro ad1 ccs1 hat1 hrep1;obtain rfl:=hrep1;exact zEc 0 hat1 [vI x1] (vI x1) rfl<|zIY [] [5] rfl<|zQ<|zJ<|zO<|yI [] [6] rfl<|yZ<|mW<|ih (W (n0 + (W (x * x1)))) (W (i + 1)) _ N H h1 h hg ho hx
 intro hc1 N;exact uA<|xV zP<|yQ<|hx _ _ (zC N).symm H
def tU (a0:zA) (point:(List Int)):Option (Int):=do
 let n01←uX a0 point a0.Const 0
 pure (id n01)
theorem mM:∀ a0 point r,tU a0 point=some r→∀ {I:Imm}{p c p1 c1},(S4 I p a0.Coefs c)→(S4 I p1 point c1)→RT 132 [vA (cAff a0 p c),vS p1 point c1] I [] (yP  r):=by
 intro a0 point r N I p c p1 c1 h h1;unfold tU at N;refine yJ Tryz.func132 fun B=>yB<|vM (cAff a0 p c) ?_;intro b hb;refine xY [] []<|xE<|yI [0] [5] rfl<|yA<|yH [6] rfl<|wK<|oM [(1,vS p1 point c1),(2,vP b 0),(5,vI a0.Const),(6,vI 0)] ?_;obtain ⟨o01,ho01,hMl⟩:=zB N;refine zCh a0 point a0.Const 0 o01 ho01 iR h1 h (fun _ _ _ h=>h) (fun _ _ h=>h) ?_;intro I01 n01 heq1 le1;subst o01;refine zV<|vV [4] rfl<|zJ<|yX ?_;obtain rfl:=zC hMl;exact xZ
def gE (r:Int×Int):KT:=fun kk I' hs' v=>
  ∃ v0 v1,hs'=[]∧v=tupV [v0,v1]∧v0=.int .i64 r.1∧v1=.int .i64 r.2
def uL (loop:zE) (p2:(List Int)) (lo:Int) (i:Int):Option (Int):=do
 if (decide (i < (loop.Lo.length:Int))) then
  let x2←idx loop.Lo i
  let y2←tU x2 p2
  let lo2←(do
    if (decide (y2 > lo)) then
     pure (id y2)
    else
     pure (id lo)
      : Option Int)
  uL loop p2 lo2 (W (i + 1))
 else
  pure (id lo)
 partial_fixpoint
theorem zCC (loop:zE) (p2:(List Int)):∀ (lo:Int) (i:Int) (o:Int),uL loop p2 lo i=some o→∀ {B}{I0 I:Imm}{Q}{y1:Int}{p c p1 c1 p3 c2}{b:Nat},I0.le I→(S4 I p3 p2 c2)→(S4 I p loop.Lo c)→(S4 I p1 loop.Hi c1)→NG Q→NO Q→(∀ (I':Imm) (lo1:Int),o=lo1→I0.le I'→T 62 B Q (.exit 0) I' [hB b (cLoop loop p c p1 c1)] [(1,vS p3 p2 c2),(2,vP b 0),(6,vI lo1),(7,vI y1)])→J Tryz.prog 62 B (nav (bodyOf Tryz.f179) [1,1,1,0,1,0]) Q I [hB b (cLoop loop p c p1 c1)] [(1,vS p3 p2 c2),(2,vP b 0),(6,vI lo),(7,vI y1),(8,vI i)]:=by
 refine uL.partial_correctness loop p2 _ fun self ih lo i o N B I0 I Q y1 p c p1 c1 p3 c2 b H h2 h h1 hg ho hx=>yY hg ho<|zZ<|yB<|yI [0] [28] rfl<|zJ<|yE N ?_ ?_
 · intro hc N;refine zT<|yA<|yL<|yB<|yD 3 [0] [32,33] rfl<|bE N fun x2 hy4 N=>xS rfl rfl h hy4 ?_;intro ad2 ccs2 hat2 hrep2;obtain ⟨p6,c5,rfl,h7⟩:=yG hrep2;refine xL 0 hat2 (cAff x2 p6 c5) (vA (cAff x2 p6 c5)) rfl<|yD 6 [] [36] rfl<|bE N fun y2 hy5 N=>oH (mM x2 p2 _ hy5 h7 h2) ?_;intro I02 le2;have ⟨h2,h,h1,H⟩:=m4 le2 h2 h h1 H;refine yI [] [9] rfl<|vV [40] rfl<|zJ ?_;refine wD N [hB b (cLoop loop p c p1 c1)] (fun lo2=>[(1,vS p3 p2 c2),(2,vP b 0),(6,vI lo2),(7,vI y1),(8,vI i)]) (fun o0 ho0=>?_) ?_
   · have H:=iS I02;refine yE ho0 ?_ ?_
     · intro hc1 N;exact zO<|yI [] [6] rfl<|yQ<|zR (ct N H)
     intro hc1 N;exact zT<|yQ<|zR (ct N H)
   intro lo2 I03 le3 hMc;have ⟨h2,h,h1,H⟩:=m4 le3 h2 h h1 H;exact zQ<|zJ<|zO<|yI [] [8] rfl<|yZ<|mW<|ih lo2 (W (i + 1)) _ hMc H h2 h h1 hg ho hx
 intro hc N;exact uA<|yQ<|hx _ _ (zC N).symm H
def uM (loop:zE) (p2:(List Int)) (hi:Int) (i1:Int):Option (Int):=do
 if (decide (i1 < (loop.Hi.length:Int))) then
  let x3←idx loop.Hi i1
  let y3←tU x3 p2
  let hi2←(do
    if (decide (y3 < hi)) then
     pure (id y3)
    else
     pure (id hi)
      : Option Int)
  uM loop p2 hi2 (W (i1 + 1))
 else
  pure (id hi)
 partial_fixpoint
theorem zCD (loop:zE) (p2:(List Int)):∀ (hi:Int) (i1:Int) (o:Int),uM loop p2 hi i1=some o→∀ {B}{I0 I:Imm}{Q}{lo1:Int}{p c p1 c1 p3 c2}{b:Nat},I0.le I→(S4 I p3 p2 c2)→(S4 I p loop.Lo c)→(S4 I p1 loop.Hi c1)→NG Q→NO Q→(∀ (I':Imm) (hi1:Int),o=hi1→I0.le I'→T 62 B Q (.exit 2) I' [] [(6,vI lo1),(7,vI hi1)])→J Tryz.prog 62 B (nav (bodyOf Tryz.f179) [1,1,1,1,0,1,0]) Q I [hB b (cLoop loop p c p1 c1)] [(1,vS p3 p2 c2),(2,vP b 0),(6,vI lo1),(7,vI hi),(10,vI i1)]:=by
 refine uM.partial_correctness loop p2 _ fun self ih hi i1 o N B I0 I Q lo1 p c p1 c1 p3 c2 b H h2 h h1 hg ho hx=>yY hg ho<|zZ<|yB<|yI [0] [46] rfl<|zJ<|yE N ?_ ?_
 · intro hc2 N;refine zT<|yA<|yL<|yB<|yD 3 [0] [50,51] rfl<|bE N fun x3 hy6 N=>xS rfl rfl h1 hy6 ?_;intro ad3 ccs3 hat3 hrep3;obtain ⟨p7,c6,rfl,h9⟩:=yG hrep3;refine xL 0 hat3 (cAff x3 p7 c6) (vA (cAff x3 p7 c6)) rfl<|yD 6 [] [54] rfl<|bE N fun y3 hy7 N=>oH (mM x3 p2 _ hy7 h9 h2) ?_;intro I05 le5;have ⟨h2,h,h1,H⟩:=m4 le5 h2 h h1 H;refine yI [] [11] rfl<|vV [58] rfl<|zJ ?_;refine wD N [hB b (cLoop loop p c p1 c1)] (fun hi2=>[(1,vS p3 p2 c2),(2,vP b 0),(6,vI lo1),(7,vI hi2),(10,vI i1)]) (fun o02 ho02=>?_) ?_
   · have H:=iS I05;refine yE ho02 ?_ ?_
     · intro hc3 N;exact zO<|yI [] [7] rfl<|yQ<|zR (ct N H)
     intro hc3 N;exact zT<|yQ<|zR (ct N H)
   intro hi2 I06 le6 hMc1;have ⟨h2,h,h1,H⟩:=m4 le6 h2 h h1 H;exact zQ<|zJ<|zO<|yI [] [10] rfl<|yZ<|mW<|ih hi2 (W (i1 + 1)) _ hMc1 H h2 h h1 hg ho hx
 intro hc2 N;exact uA<|xV zP<|yQ<|hx _ _ (zC N).symm H
def rY (loop:zE) (p2:(List Int)):Option (Int×Int):=do
 let x←idx loop.Lo 0
 let y←tU x p2
 let x1←idx loop.Hi 0
 let y1←tU x1 p2
 let lo1←uL loop p2 y 1
 let hi1←uM loop p2 y1 1
 pure (lo1,hi1)
theorem fO:∀ loop p2 r,rY loop p2=some r→∀ {I:Imm}{p c p1 c1 p3 c2},(S4 I p loop.Lo c)→(S4 I p1 loop.Hi c1)→(S4 I p3 p2 c2)→RT 179 [vA (cLoop loop p c p1 c1),vS p3 p2 c2] I [] (gE  r):=by
 intro loop p2 r N I p c p1 c1 p3 c2 h h1 h2;unfold rY at N;refine yJ Tryz.func179 fun B=>yB<|vM (cLoop loop p c p1 c1) ?_;intro b hb;refine xY [] []<|xE<|yD 2 [0] [13] rfl<|bE N fun x hy N=>xS rfl rfl h hy ?_;intro ad ccs hat hrep;obtain ⟨p4,c3,rfl,h3⟩:=yG hrep;refine xL 0 hat (cAff x p4 c3) (vA (cAff x p4 c3)) rfl<|yD 5 [] [16] rfl<|bE N fun y hy1 N=>oH (mM x p2 _ hy1 h3 h2) ?_;intro I0 le;have ⟨h2,h,h1⟩:=m3 le h2 h h1;refine yI [] [6] rfl<|xE<|yD 2 [0] [19] rfl<|bE N fun x1 hy2 N=>xS rfl rfl h1 hy2 ?_;intro ad1 ccs1 hat1 hrep1;obtain ⟨p5,c4,rfl,h5⟩:=yG hrep1;refine xL 0 hat1 (cAff x1 p5 c4) (vA (cAff x1 p5 c4)) rfl<|yD 5 [] [22] rfl<|bE N fun y1 hy3 N=>oH (mM x1 p2 _ hy3 h5 h2) ?_;intro I01 le1;have ⟨h2,h,h1⟩:=m3 le1 h2 h h1;refine yI [] [7] rfl<|yA<|yH [8] rfl<|wK<|oM [(1,vS p3 p2 c2),(2,vP b 0),(6,vI y),(7,vI y1),(8,vI 1)] ?_;obtain ⟨o01,ho01,hMl⟩:=zB N;refine zCC loop p2 y 1 o01 ho01 iR h2 h h1 (fun _ _ _ h=>h) (fun _ _ h=>h) ?_;intro I04 lo1 heq1 le4;subst o01;have ⟨h2,h,h1⟩:=m3 le4 h2 h h1;refine zV<|yA<|yH [10] rfl<|wK<|oM [(1,vS p3 p2 c2),(2,vP b 0),(6,vI lo1),(7,vI y1),(10,vI 1)] ?_;obtain ⟨o03,ho03,hMl1⟩:=zB hMl;refine zCD loop p2 y1 1 o03 ho03 iR h2 h h1 (fun _ _ _ h=>h) (fun _ _ h=>h) ?_;intro I07 hi1 heq3 le7;subst o03;refine zV<|vV [4,5] rfl<|zJ<|yX ?_;obtain rfl:=zC hMl1;exact xC ⟨_,_,(.tmp rfl (.tmp rfl ResV.nil)),zP,⟨_,_,rfl,rfl,rfl,rfl⟩⟩
def eI (r:(List (List Int))):KT:=fun kk I' hs' v=>
  ∃ a0 c0 s0,hs'=[.osl (.slice a0 r.length c0) (Rp.sz (List Int)) s0]∧v=tupV [(.slice a0 r.length c0)]∧RepL (Rp.rep I') (Rp.sz (List Int)) s0 r
mutual
def vE (out:(List (List Int))) (nest:(List zE)) (p2:(List Int)):Option ((List (List Int))):=do
 if ((p2.length:Int) == (nest.length:Int)) then
  let l←app 8 ([]:List Int) p2
  let t6←app 24 out ([l]:List (List Int))
  pure (id t6)
 else
  let x←idx nest (p2.length:Int)
  let (y1,y2)←rY x p2
  let out2←uS (same nest) (same p2) (same y2) (same out) (same y1)
  pure (id out2)
 partial_fixpoint
def uS (nest:(List zE)) (p2:(List Int)) (y2:Int) (out1:List (List Int)) (v04:Int):Option (List (List Int)):=do
 let t39←(do
   if (decide (v04 < y2)) then
    pure (decide ((out1.length:Int) ≤ 120))
   else
    pure false
     : Option Bool)
 if t39 then
  let l1←app 8 ([]:List Int) p2
  let l2←app 8 l1 ([v04]:List Int)
  let y3←vE (same out1) (same nest) (same l2)
  uS (same nest) (same p2) (same y2) (same y3) (W (v04 + 1))
 else
  pure (id out1)
 partial_fixpoint
end
theorem zCi:(∀ (out:(List (List Int))) (nest:(List zE)) (p2:(List Int)) r,vE out nest p2=some r→∀ {I:Imm}{p c cs p1 c1 p3 c2},(RL I cs out)→(S4 I p1 nest c1)→(S4 I p3 p2 c2)→RT 192 [vS p out c,vS p1 nest c1,vS p3 p2 c2] I [hO (List Int) (vS p out c) cs] (eI  r))∧(∀ (nest:(List zE)) (p2:(List Int)) (y2:Int) (out1:List (List Int)) (v04:Int) o,uS nest p2 y2 out1 v04=some o→∀ {B}{I0 I:Imm}{Q p1 c1 p3 c2 p8 c7 cs3},I0.le I→(S4 I p1 nest c1)→(S4 I p3 p2 c2)→(RL I cs3 out1)→NG Q→NO Q→(∀ (I':Imm) (out2:List (List Int)) (p9:Option Addr) (c8:Nat) (cs4:List Value),o=out2→I0.le I'→(RL I' cs4 out2)→T 52 B Q (.exit 0) I' [hO (List Int) (vS p9 out2 c8) cs4] [(0,vS p9 out2 c8)])→J Tryz.prog 52 B (nav (bodyOf Tryz.f192) [1,1,1,0,1,0]) Q I [hO (List Int) (vS p8 out1 c7) cs3] [(0,vS p8 out1 c7),(1,vS p1 nest c1),(2,vS p3 p2 c2),(8,vI y2),(9,vI v04)]):=by
  refine vE.mutual_partial_correctness _ _ ?_ ?_
  · intro F_spec_l2Points_l1 ih_spec_l2Points_l1 out nest p2 r N I p c cs p1 c1 p3 c2 h h1 h2;refine yJ Tryz.func192 fun B=>vU []<|yA<|yH [14] rfl<|zJ<|yE N ?_ ?_
    · intro hc N;refine yB<|yD 1 [] [15] rfl<|tJ [] Int ?_;intro b hb;have h3:RL I [] ([]:List Int):=rfl;refine yD 3 [] [17] rfl ?_;obtain ⟨ccs,k0,k01⟩:=h2;have h2:SL I (vS p3 p2 c2) p2:=⟨_,k0,k01⟩;obtain ⟨l,hy,N⟩:=zB N;refine pP 3 1 0 rfl rfl rfl h3 (.inl k0) k01 hy fun p4 c3 cs1 h4=>sX (zY [0,1] (hs':=[hO Int (vS p4 l c3) cs1,hO (List Int) (vS p out c) cs]))<|xK 0 rfl ?_;intro I0 le hl0;have h5:=SL.of_frozen hl0 le h4;have h:=iM le h;refine tJ [vS p4 l c3] (List Int) ?_;intro b1 hb1;have h6:RL I0 [vS p4 l c3] ([l]:List (List Int)):=⟨[vS p4 l c3],_,rfl,rfl,⟨_,rfl,h5⟩,rfl⟩;obtain ⟨t6,hy1,N⟩:=zB N;refine pP 29 1 1 rfl rfl rfl h (.inr ⟨0,rfl⟩) h6 hy1 fun p5 c4 cs2 h7=>sX (zY [1] (hs':=[hO (List Int) (vS p5 t6 c4) cs2]))<|yI [] [6] rfl<|xB<|zI ?_;obtain rfl:=zC N;exact xC ⟨_,_,(.tmp rfl ResV.nil),(zX [0] rfl (by decide)),⟨_,_,_,rfl,rfl,h7⟩⟩
    intro hc N;refine zT<|xE<|yD 3 [] [22,24] rfl<|bE N fun x hy2 N=>xS rfl rfl h1 hy2 ?_;intro ad ccs1 hat hrep;obtain ⟨p6,c5,p7,c6,rfl,h8,h9⟩:=tG hrep;refine xL 0 hat (cLoop x p6 c5 p7 c6) (vA (cLoop x p6 c5 p7 c6)) rfl<|yD 6 [] [27] rfl ?_;obtain ⟨⟨y1,y2⟩,hy3,N⟩:=zB N;refine xP (fO x p2 _ hy3 h8 h9 h2) ?_;rintro I01 hs2 v2 k2 le1 - ⟨v02,v03,rfl,rfl,rfl,rfl⟩ -;have ⟨h,h1,h2⟩:=m3 le1 h h1 h2;refine yI [] [7,8] rfl<|yA<|yH [9] rfl<|wK<|oM [(0,vS p out c),(1,vS p1 nest c1),(2,vS p3 p2 c2),(8,vI y2),(9,vI y1)] ?_;obtain ⟨o01,ho01,hMl⟩:=zB N;refine ih_spec_l2Points_l1 nest p2 y2 out y1 o01 ho01 iR h1 h2 h (fun _ _ _ h=>h) (fun _ _ h=>h) ?_;intro I05 out2 p9 c8 cs4 heq1 le5 h13;subst o01;refine zV<|vV [6] rfl<|zJ<|yX ?_;obtain rfl:=zC hMl;exact xC ⟨_,_,(.tmp rfl ResV.nil),(zX [0] rfl (by decide)),⟨_,_,_,rfl,rfl,h13⟩⟩
  intro F_spec_l2Points F_spec_l2Points_l1 ih_spec_l2Points ih_spec_l2Points_l1 nest p2 y2 out1 v04 o N B I0 I Q p1 c1 p3 c2 p8 c7 cs3 H h1 h2 h12 hg ho hx;refine yY hg ho<|zZ<|zZ ?_;refine wD N [hO (List Int) (vS p8 out1 c7) cs3] (fun t39=>[(0,vS p8 out1 c7),(1,vS p1 nest c1),(2,vS p3 p2 c2),(8,vI y2),(9,vI v04),(39,.bool t39)]) (fun o0 ho0=>?_) ?_
  · have H:=iS I;refine zO<|yD 4 [] [35] rfl<|xQ [35] ho0 ?_ ?_
    · intro hc1 N;exact yI [] [39] rfl<|yQ<|zR (ct N H)
    intro hc1 N;exact xY [] [(39,vF)]<|yQ<|zR (ct N H)
  intro t39 I02 le2 hMc;have ⟨h12,h1,h2,H⟩:=m4 le2 h12 h1 h2 H;refine zJ<|yE hMc ?_ ?_
  · intro hc2 N;refine zT<|yA<|yL<|zO<|yD 2 [] [42,43] rfl<|tJ [] Int ?_;intro b2 hb2;have h14:RL I02 [] ([]:List Int):=rfl;refine yD 4 [] [45] rfl ?_;obtain ⟨ccs2,k02,k03⟩:=h2;have h2:SL I02 (vS p3 p2 c2) p2:=⟨_,k02,k03⟩;obtain ⟨l1,hy4,N⟩:=zB N;refine pP 3 1 0 rfl rfl rfl h14 (.inl k02) k03 hy4 fun p10 c9 cs5 h15=>sX (zY [0,1] (hs':=[hO Int (vS p10 l1 c9) cs5,hO (List Int) (vS p8 out1 c7) cs3]))<|yD 6 [] [47] rfl<|tJ [vI v04] Int ?_;intro b3 hb3;have h16:RL I02 [vI v04] ([v04]:List Int):=rI [v04];obtain ⟨l2,hy5,N⟩:=zB N;refine pP 3 1 1 rfl rfl rfl h15 (.inr ⟨0,rfl⟩) h16 hy5 fun p11 c10 cs6 h17=>sX (zY [1,2] (hs':=[hO Int (vS p11 l2 c10) cs6,hO (List Int) (vS p8 out1 c7) cs3]))<|xK 0 rfl ?_;intro I03 le3 hl01;have h18:=SL.of_frozen hl01 le3 h17;have ⟨h1,h2,h12,H⟩:=m4 le3 h1 h2 h12 H;obtain ⟨y3,hy6,N⟩:=zB N;refine uQ (ih_spec_l2Points out1 nest l2 _ hy6 h12 h1 h18) rfl ?_;rintro I04 hs2 v2 k2 le4 - ⟨p12,c11,cs7,rfl,rfl,h19⟩ -;have ⟨h1,h2,H⟩:=m3 le4 h1 h2 H;exact yI [] [0] rfl<|zQ<|zJ<|zO<|yI [] [9] rfl<|yZ<|mW<|ih_spec_l2Points_l1 nest p2 y2 y3 (W (v04 + 1)) _ N H h1 h2 h19 hg ho hx
  intro hc2 N;exact uA<|yQ<|hx _ _ _ _ _ (zC N).symm H h12
theorem zAK:∀ out nest p2 r,vE out nest p2=some r→∀ {I:Imm}{p c cs p1 c1 p3 c2},(RL I cs out)→(S4 I p1 nest c1)→(S4 I p3 p2 c2)→RT 192 [vS p out c,vS p1 nest c1,vS p3 p2 c2] I [hO (List Int) (vS p out c) cs] (eI  r):=zCi.1
mutual
def tV (nest:(List zE)) (p1:(List Int)) (most:Int):Option (Int):=do
 if ((p1.length:Int) == (nest.length:Int)) then
  pure (id 1)
 else
  let x←idx nest (p1.length:Int)
  let (y1,y2)←rY x p1
  let n01←sB (same nest) (same p1) (same most) (same y2) (same 1) (same y1)
  pure (id n01)
 partial_fixpoint
def sB (nest:(List zE)) (p1:(List Int)) (most:Int) (y2:Int) (n0:Int) (v04:Int):Option (Int):=do
 let t35←(do
   if (decide (v04 < y2)) then
    pure (decide (n0 ≤ most))
   else
    pure false
     : Option Bool)
 if t35 then
  let l←app 8 ([]:List Int) p1
  let l1←app 8 l ([v04]:List Int)
  let y3←tV (same nest) (same l1) (W (most - n0))
  sB (same nest) (same p1) (same most) (same y2) (W (n0 + y3)) (W (v04 + 1))
 else
  pure (id n0)
 partial_fixpoint
end
theorem zDz:(∀ (nest:(List zE)) (p1:(List Int)) (most:Int) r,tV nest p1 most=some r→∀ {I:Imm}{p c p2 c1},(S4 I p nest c)→(S4 I p2 p1 c1)→RT 231 [vS p nest c,vS p2 p1 c1,vI most] I [] (yP  r))∧(∀ (nest:(List zE)) (p1:(List Int)) (most:Int) (y2:Int) (n0:Int) (v04:Int) o,sB nest p1 most y2 n0 v04=some o→∀ {B}{I0 I:Imm}{Q p c p2 c1},I0.le I→(S4 I p nest c)→(S4 I p2 p1 c1)→NG Q→NO Q→(∀ (I':Imm) (n01:Int),o=n01→I0.le I'→T 52 B Q (.exit 0) I' [] [(7,vI n01)])→J Tryz.prog 52 B (nav (bodyOf Tryz.f231) [1,1,1,1,0,1,0]) Q I [] [(0,vS p nest c),(1,vS p2 p1 c1),(2,vI most),(7,vI n0),(9,vI y2),(10,vI v04)]):=by
  refine tV.mutual_partial_correctness _ _ ?_ ?_
  · intro F_spec_l2Work_l1 ih_spec_l2Work_l1 nest p1 most r N I p c p2 c1 h h1;refine yJ Tryz.func231 fun B=>vU []<|vV [7] rfl<|yA<|yH [15] rfl<|zJ<|yE N ?_ ?_
    · intro hc N;refine yH [6] rfl<|xB<|zI ?_;obtain rfl:=zC N;exact xZ
    intro hc N;refine zT<|xE<|yD 3 [] [18,20] rfl<|bE N fun x hy N=>xS rfl rfl h hy ?_;intro ad ccs hat hrep;obtain ⟨p3,c2,p4,c3,rfl,h2,h3⟩:=tG hrep;refine xL 0 hat (cLoop x p3 c2 p4 c3) (vA (cLoop x p3 c2 p4 c3)) rfl<|yD 6 [] [23] rfl ?_;obtain ⟨⟨y1,y2⟩,hy1,N⟩:=zB N;refine xP (fO x p1 _ hy1 h2 h3 h1) ?_;rintro I0 hs2 v2 k2 le - ⟨v02,v03,rfl,rfl,rfl,rfl⟩ -;have ⟨h,h1⟩:=m2 le h h1;refine yI [] [8,9] rfl<|yA<|yH [10] rfl<|wK<|oM [(0,vS p nest c),(1,vS p2 p1 c1),(2,vI most),(7,vI 1),(9,vI y2),(10,vI y1)] ?_;obtain ⟨o01,ho01,hMl⟩:=zB N;refine ih_spec_l2Work_l1 nest p1 most y2 1 y1 o01 ho01 iR h h1 (fun _ _ _ h=>h) (fun _ _ h=>h) ?_;intro I04 n01 heq1 le4;subst o01;refine zV<|vV [6] rfl<|zJ<|yX ?_;obtain rfl:=zC hMl;exact xZ
  intro F_spec_l2Work F_spec_l2Work_l1 ih_spec_l2Work ih_spec_l2Work_l1 nest p1 most y2 n0 v04 o N B I0 I Q p c p2 c1 H h h1 hg ho hx;refine yY hg ho<|zZ<|zZ ?_;refine wD N [] (fun t35=>[(0,vS p nest c),(1,vS p2 p1 c1),(2,vI most),(7,vI n0),(9,vI y2),(10,vI v04),(35,.bool t35)]) (fun o0 ho0=>?_) ?_
  · have H:=iS I;refine zO<|yD 4 [] [31] rfl<|xQ [31] ho0 ?_ ?_
    · intro hc1 N;exact yI [] [35] rfl<|yQ<|zR (ct N H)
    intro hc1 N;exact xY [] [(35,vF)]<|yQ<|zR (ct N H)
  intro t35 I01 le1 hMc;have ⟨h,h1,H⟩:=m3 le1 h h1 H;refine zJ<|yE hMc ?_ ?_
  · intro hc2 N;refine zT<|yA<|yL<|zO<|yD 2 [] [38,39] rfl<|tJ [] Int ?_;intro b hb;have h6:RL I01 [] ([]:List Int):=rfl;refine yD 4 [] [41] rfl ?_;obtain ⟨ccs1,k0,k01⟩:=h1;have h1:SL I01 (vS p2 p1 c1) p1:=⟨_,k0,k01⟩;obtain ⟨l,hy2,N⟩:=zB N;refine pP 3 1 0 rfl rfl rfl h6 (.inl k0) k01 hy2 fun p5 c4 cs h7=>sX (zY [0] (hs':=[hO Int (vS p5 l c4) cs]))<|yD 6 [] [43] rfl<|tJ [vI v04] Int ?_;intro b1 hb1;have h8:RL I01 [vI v04] ([v04]:List Int):=rI [v04];obtain ⟨l1,hy3,N⟩:=zB N;refine pP 3 1 1 rfl rfl rfl h7 (.inr ⟨0,rfl⟩) h8 hy3 fun p6 c5 cs1 h9=>sX (zY [1] (hs':=[hO Int (vS p6 l1 c5) cs1]))<|yD 11 [] [48] rfl<|xK 0 rfl ?_;intro I02 le2 hl0;have h10:=SL.of_frozen hl0 le2 h9;have ⟨h,h1,H⟩:=m3 le2 h h1 H;obtain ⟨y3,hy4,N⟩:=zB N;refine xP (ih_spec_l2Work nest l1 (W (most - n0)) _ hy4 h h10) ?_;rintro I03 hs2 v2 k2 le3 - ⟨v05,rfl,rfl,rfl⟩ -;have ⟨h,h1,H⟩:=m3 le3 h h1 H;exact yI [] [7] rfl<|zQ<|zJ<|zO<|yI [] [10] rfl<|yZ<|mW<|ih_spec_l2Work_l1 nest p1 most y2 (W (n0 + y3)) (W (v04 + 1)) _ N H h h1 hg ho hx
  intro hc2 N;exact uA<|yQ<|hx _ _ (zC N).symm H
theorem zEl:∀ nest p1 most r,tV nest p1 most=some r→∀ {I:Imm}{p c p2 c1},(S4 I p nest c)→(S4 I p2 p1 c1)→RT 231 [vS p nest c,vS p2 p1 c1,vI most] I [] (yP  r):=zDz.1
def fG (r:(List (List Int))×Bool):KT:=fun kk I' hs' v=>
  ∃ v0 v1,hs'=[]∧v=tupV [v0,v1]∧SL I' v0 r.1∧v1=.bool r.2
def rZ (nest:(List zE)):Option ((List (List Int))×Bool):=do
 let t12←(do
   let y←rE nest
   if (!y) then
    pure true
   else
    let y1←tV nest ([]:List Int) 1200
    pure (decide (y1 > 1200))
     : Option Bool)
 if t12 then
  pure (([]:List (List Int)),false)
 else
  let y2←vE ([]:List (List Int)) nest ([]:List Int)
  if (decide ((y2.length:Int) > 120)) then
   pure (([]:List (List Int)),false)
  else
   pure (y2,true)
theorem zCE:∀ nest r,rZ nest=some r→∀ {I:Imm}{p c},(S4 I p nest c)→RT 190 [vS p nest c] I [] (fG  r):=by
 intro nest r N I p c h;unfold rZ at N;refine yJ Tryz.func190 fun B=>?_;have H:=iS I;refine vU []<|yA<|zZ ?_;refine wD N [] (fun t12=>[(0,vS p nest c),(12,.bool t12)]) (fun o0 ho0=>?_) ?_
 · have H:=iS I;refine zO<|yD 1 [] [5] rfl ?_;obtain ⟨y,hy,N⟩:=zB ho0;refine wZ (dH nest _ hy h) ?_;intro I01 le;have ⟨h,H⟩:=m2 le h H;refine yD 4 [] [8] rfl<|xQ [8] N ?_ ?_
   · intro hc N;exact xY [] [(12,vY)]<|yQ<|zR (ct N H)
   intro hc N;refine yD 5 [] [9] rfl<|bE N fun y1 hy1 N=>oH (zEl nest ([]:List Int) 1200 _ hy1 h (SL.nil _)) ?_;intro I02 le1;have H:=H.trans le1;exact yI [] [12] rfl<|yQ<|zR (ct N H)
 intro t12 I0 le2 hMc;have h:=h.mono le2;refine zJ<|yE hMc ?_ ?_
 · intro hc1 N;refine yB<|tJ [] (List Int) ?_;intro b hb;have h3:RL I0 [] ([]:List (List Int)):=rfl;refine yI [] [2,3] rfl<|xB<|zI<|xJ 0 rfl ?_;intro I03 le3 hl0;have h4:=SL.of_frozen hl0 le3 h3;obtain rfl:=zC N;exact xC ⟨_,_,(.tmp rfl (.tmp rfl ResV.nil)),zP,⟨_,_,rfl,rfl,h4,rfl⟩⟩
 intro hc1 N;refine zT<|xE<|tJ [] (List Int) ?_;intro b1 hb1;have h5:RL I0 [] ([]:List (List Int)):=rfl;refine yD 2 [] [15] rfl<|bE N fun y2 hy2 N=>uQ (zAK ([]:List (List Int)) nest ([]:List Int) _ hy2 h5 h (SL.nil _)) rfl ?_;rintro I04 hs2 v2 k2 le4 - ⟨p1,c1,cs,rfl,rfl,h6⟩ -;refine yI [] [4] rfl<|yA<|yH [19] rfl<|zJ<|yE N ?_ ?_
 · intro hc2 N;refine yB<|tJ [] (List Int) ?_;intro b2 hb2;have h7:RL I04 [] ([]:List (List Int)):=rfl;refine yI [] [2,3] rfl<|xB<|zI<|xJ 0 rfl ?_;intro I05 le5 hl01;have h8:=SL.of_frozen hl01 le5 h7;obtain rfl:=zC N;exact xC ⟨_,_,(.tmp rfl (.tmp rfl ResV.nil)),zP,⟨_,_,rfl,rfl,h8,rfl⟩⟩
 intro hc2 N;refine zT<|vV [2,3] rfl<|xB<|xJ 0 rfl ?_;intro I06 le6 hl02;have h9:=SL.of_frozen hl02 le6 h6;obtain rfl:=zC N;exact xC ⟨_,_,(.tmp rfl (.tmp rfl ResV.nil)),zP,⟨_,_,rfl,rfl,h9,rfl⟩⟩
def uY (a0:zF) (n0:Int) (i:Int):Option (Int):=do
 if (decide (i < (a0.Dims.length:Int))) then
  let x←idx a0.Dims i
  uY a0 (W (n0 * x)) (W (i + 1))
 else
  pure (id n0)
 partial_fixpoint
theorem zCj (a0:zF):∀ (n0:Int) (i:Int) (o:Int),uY a0 n0 i=some o→∀ {B}{I0 I:Imm}{Q p c}{b:Nat},I0.le I→(S4 I p a0.Dims c)→NG Q→NO Q→(∀ (I':Imm) (n01:Int),o=n01→I0.le I'→T 20 B Q (.exit 0) I' [] [(3,vI n01)])→J Tryz.prog 20 B (nav (bodyOf Tryz.f176) [1,1,0,1,0]) Q I [hB b (cArr a0 p c)] [(1,vP b 0),(3,vI n0),(4,vI i)]:=by
 refine uY.partial_correctness a0 _ fun self ih n0 i o N B I0 I Q p c b H h hg ho hx=>yY hg ho<|zZ<|yB<|yI [0] [9] rfl<|zJ<|yE N ?_ ?_
 · intro hc N;refine zT<|yA<|yL<|zO<|yD 4 [0] [12,14,15] rfl<|bE N fun x hy N=>xS rfl rfl h hy ?_;intro ad ccs hat hrep;obtain rfl:=hrep;exact xL 0 hat [vI x] (vI x) rfl<|yI [] [3] rfl<|zQ<|zJ<|zO<|yI [] [4] rfl<|yZ<|mW<|ih (W (n0 * x)) (W (i + 1)) _ N H h hg ho hx
 intro hc N;exact uA<|xV zP<|yQ<|hx _ _ (zC N).symm H
def oQ (a0:zF):Option (Int):=do
 let n01←uY a0 1 0
 pure (id n01)
theorem zBG:∀ a0 r,oQ a0=some r→∀ {I:Imm}{p c},(S4 I p a0.Dims c)→RT 176 [vA (cArr a0 p c)] I [] (yP  r):=by
 intro a0 r N I p c h;unfold oQ at N;refine yJ Tryz.func176 fun B=>yB<|vM (cArr a0 p c) ?_;intro b hb;refine xY [] []<|vV [3] rfl<|yA<|yH [4] rfl<|wK<|oM [(1,vP b 0),(3,vI 1),(4,vI 0)] ?_;obtain ⟨o0,ho0,hMl⟩:=zB N;refine zCj a0 1 0 o0 ho0 iR h (fun _ _ _ h=>h) (fun _ _ h=>h) ?_;intro I0 n01 heq le;subst o0;refine zV<|vV [2] rfl<|zJ<|yX ?_;obtain rfl:=zC hMl;exact xZ
def uD (list:(List zF)) (a0:zG) (point:(List Int)) (i:Int) (n0:Int) (k0:Int):Option (Out Int (Int)):=do
 if (decide (k0 < (a0.Subs.length:Int))) then
  let x2←idx list i
  if ((a0.Subs.length:Int) != (x2.Dims.length:Int)) then
   pure (.ret (-1))
  else
   let x3←idx a0.Subs k0
   let y1←tU x3 point
   let t70←(do
     if (decide (y1 < 0)) then
      pure true
     else
      let x4←idx list i
      let x5←idx x4.Dims k0
      pure (decide (y1 ≥ x5))
       : Option Bool)
   if t70 then
    pure (.ret (-1))
   else
    let x6←idx list i
    let x7←idx x6.Dims k0
    uD list a0 point i (W ((W (n0 * x7)) + y1)) (W (k0 + 1))
 else
  pure (.done n0)
 partial_fixpoint
theorem zCk (list:(List zF)) (a0:zG) (point:(List Int)) (i:Int):∀ (n0:Int) (k0:Int) (o:Out Int (Int)),uD list a0 point i n0 k0=some o→∀ {B}{I0 I:Imm}{Q}{base:Int}{p c p1 c1 p2 c2}{b:Nat},I0.le I→(S4 I p list c)→(S4 I p2 point c2)→(S4 I p1 a0.Subs c1)→NG Q→NO Q→(∀ (I':Imm) (n01:Int),o=(.done n01)→I0.le I'→T 86 B Q (.exit 2) I' [] [(7,vI base),(9,vI n01)])→(∀ r I' hs' m',o=(.ret r)→I0.le I'→RS Tryz.prog Tryz.f133 B (yP  r) I' hs' m'→T 86 B Q .ret I' hs' m')→J Tryz.prog 86 B (nav (bodyOf Tryz.f133) [1,1,0,1,0,0,1,0,0,1,1,0,1,0]) Q I [hB b (cAccess a0 p1 c1)] [(0,vS p list c),(2,vS p2 point c2),(4,vP b 0),(7,vI base),(8,vI i),(9,vI n0),(10,vI k0)]:=by
 refine uD.partial_correctness list a0 point i _ fun self ih n0 k0 o N B I0 I Q base p c p1 c1 p2 c2 b H h h2 h1 hg ho hx hr=>yY hg ho<|zZ<|yB<|yI [0] [37] rfl<|zJ<|yE N ?_ ?_
 · intro hc2 N;refine zT<|yA<|yL<|zZ<|zZ<|eC (by kernel_rfl) (by kernel_rfl)<|zAj 5 [0] [42,43,44] rfl<|bE N fun x2 hy3 N=>zEd rfl rfl h hy3 ?_;intro ad2 ccs2 hat2 hrep2;obtain ⟨p5,c5,rfl,h6⟩:=wT hrep2;refine zAj 7 [] [46] rfl<|zEc 1 hat2 [vS p5 x2.Dims c5] (vS p5 x2.Dims c5) rfl<|zIY [] [49] rfl<|zJ<|yE N ?_ ?_
   · intro hc3 N;exact yH [6] rfl<|xB<|zI<|zU<|zI<|zI<|hr _ _ _ _ (zC N).symm H ⟨_,_,(.tmp rfl ResV.nil),zP,⟨_,rfl,rfl,rfl⟩⟩
   intro hc3 N;refine zT<|xE<|yD 3 [0] [51,52] rfl<|bE N fun x3 hy4 N=>xS rfl rfl h1 hy4 ?_;intro ad3 ccs3 hat3 hrep3;obtain ⟨p6,c6,rfl,h7⟩:=yG hrep3;refine xL 0 hat3 (cAff x3 p6 c6) (vA (cAff x3 p6 c6)) rfl<|yD 6 [] [55] rfl<|bE N fun y1 hy5 N=>oH (mM x3 point _ hy5 h7 h2) ?_;intro I01 le1;have ⟨h,h2,h1,H⟩:=m4 le1 h h2 h1 H;refine yI [] [11] rfl<|yA<|zZ ?_;refine wD N [hB b (cAccess a0 p1 c1)] (fun t70=>[(0,vS p list c),(2,vS p2 point c2),(4,vP b 0),(7,vI base),(8,vI i),(9,vI n0),(10,vI k0),(11,vI y1),(70,.bool t70)]) (fun o0 ho0=>?_) ?_
   · have H:=iS I01;refine zO<|yD 3 [] [59] rfl<|xQ [59] ho0 ?_ ?_
     · intro hc4 N;exact xY [] [(70,vY)]<|yQ<|zR (ct N H)
     intro hc4 N;refine yD 6 [] [60,61,62] rfl<|bE N fun x4 hy6 N=>xS rfl rfl h hy6 ?_;intro ad4 ccs4 hat4 hrep4;obtain ⟨p7,c7,rfl,h9⟩:=wT hrep4;refine yD 8 [] [64] rfl<|xL 1 hat4 [vS p7 x4.Dims c7] (vS p7 x4.Dims c7) rfl<|yD 10 [] [66] rfl<|bE N fun x5 hy7 N=>xS rfl rfl h9 hy7 ?_;intro ad5 ccs5 hat5 hrep5;obtain rfl:=hrep5;exact xL 0 hat5 [vI x5] (vI x5) rfl<|yI [] [70] rfl<|yQ<|zR (ct N H)
   intro t70 I02 le2 hMc;have ⟨h,h2,h1,H⟩:=m4 le2 h h2 h1 H;refine zJ<|yE hMc ?_ ?_
   · intro hc5 N;exact yH [6] rfl<|xB<|zI<|zU<|zI<|zI<|hr _ _ _ _ (zC N).symm H ⟨_,_,(.tmp rfl ResV.nil),zP,⟨_,rfl,rfl,rfl⟩⟩
   intro hc5 N;refine zT<|zJ<|zO<|yD 3 [] [71,72,73] rfl<|bE N fun x6 hy8 N=>xS rfl rfl h hy8 ?_;intro ad6 ccs6 hat6 hrep6;obtain ⟨p8,c8,rfl,h10⟩:=wT hrep6;refine yD 5 [] [75] rfl<|xL 1 hat6 [vS p8 x6.Dims c8] (vS p8 x6.Dims c8) rfl<|yD 7 [] [77] rfl<|bE N fun x7 hy9 N=>xS rfl rfl h10 hy9 ?_;intro ad7 ccs7 hat7 hrep7;obtain rfl:=hrep7;exact xL 0 hat7 [vI x7] (vI x7) rfl<|yI [] [9] rfl<|zQ<|zJ<|zO<|yI [] [10] rfl<|yZ<|mW<|ih (W ((W (n0 * x7)) + y1)) (W (k0 + 1)) _ N H h h2 h1 hg ho hx hr
 intro hc2 N;exact uA<|xV zP<|yQ<|hx _ _ (zC N).symm H
def uE (list:(List zF)) (a0:zG) (point:(List Int)) (base:Int) (i:Int):Option (Out Unit (Int)):=do
 if (decide (i < (list.length:Int))) then
  let x←idx list i
  if (!(x.Name.l == a0.Array.l)) then
   let x1←idx list i
   let y←oQ x1
   uE list a0 point (W (base + y)) (W (i + 1))
  else
   match←uD list a0 point i 0 0 with
   | .ret r0=>pure (.ret r0)
   | .done n01 =>
    pure (.ret (W (base + n01)))
 else
  pure (.done ())
 partial_fixpoint
theorem zCl (list:(List zF)) (a0:zG) (point:(List Int)):∀ (base:Int) (i:Int) (o:Out Unit (Int)),uE list a0 point base i=some o→∀ {B}{I0 I:Imm}{Q p c p1 c1 p2 c2}{b:Nat},I0.le I→(S4 I p list c)→(S4 I p2 point c2)→(S4 I p1 a0.Subs c1)→NG Q→NO Q→(∀ (I':Imm) ,o=(.done ())→I0.le I'→T 86 B Q (.exit 0) I' [] [])→(∀ r I' hs' m',o=(.ret r)→I0.le I'→RS Tryz.prog Tryz.f133 B (yP  r) I' hs' m'→T 86 B Q .ret I' hs' m')→J Tryz.prog 86 B (nav (bodyOf Tryz.f133) [1,1,0,1,0]) Q I [hB b (cAccess a0 p1 c1)] [(0,vS p list c),(2,vS p2 point c2),(4,vP b 0),(7,vI base),(8,vI i)]:=by
 refine uE.partial_correctness list a0 point _ fun self ih base i o N B I0 I Q p c p1 c1 p2 c2 b H h h2 h1 hg ho hx hr=>yY hg ho<|zZ<|yH [15] rfl<|zJ<|yE N ?_ ?_
 · intro hc N;refine zT<|yA<|yL<|zZ<|zZ<|eC (by kernel_rfl) (by kernel_rfl)<|zAj 2 [] [18,19] rfl<|bE N fun x hy N=>zEd rfl rfl h hy ?_;intro ad ccs hat hrep;obtain ⟨p3,c3,rfl,h3⟩:=wT hrep;refine zAj 4 [] [21] rfl<|zEc 0 hat [vT x.Name.l] (vT x.Name.l) rfl<|zIY [0] [25] rfl<|zJ<|yE N ?_ ?_
   · intro hc1 N;refine yB<|yD 3 [] [26,27,28] rfl<|bE N fun x1 hy1 N=>xS rfl rfl h hy1 ?_;intro ad1 ccs1 hat1 hrep1;obtain ⟨p4,c4,rfl,h4⟩:=wT hrep1;refine xL 0 hat1 (cArr x1 p4 c4) (vA (cArr x1 p4 c4)) rfl<|bE N fun y hy2 N=>oH (zBG x1 _ hy2 h4) ?_;intro I0 le;have ⟨h,h2,h1,H⟩:=m4 le h h2 h1 H;exact yI [] [7] rfl<|zJ<|zGE<|jY<|zV<|zJ<|zO<|yI [] [8] rfl<|yZ<|mW<|ih (W (base + y)) (W (i + 1)) _ N H h h2 h1 hg ho hx hr
   intro hc1 N;refine zT<|vV [9] rfl<|yA<|yH [10] rfl<|wK<|oM [(0,vS p list c),(2,vS p2 point c2),(4,vP b 0),(7,vI base),(8,vI i),(9,vI 0),(10,vI 0)] ?_;obtain ⟨o01,ho01,hMl⟩:=zB N;refine zCk list a0 point i 0 0 o01 ho01 iR h h2 h1 (fun _ _ _ h=>hg _ _ _ h) (fun _ _ h=>ho _ _ h) ?_ ?_
   · intro I03 n01 heq1 le3;subst o01;have H:=H.trans le3;exact zV<|vV [6] rfl<|xB<|zU<|zI<|zI<|hr _ _ _ _ (zC hMl).symm H ⟨_,_,(.tmp rfl ResV.nil),zP,⟨_,rfl,rfl,rfl⟩⟩
   intro r0 I9 hs9 m9 heq9 le9 hrs9;subst heq9;exact zU<|zI<|zU<|zI<|zI<|hr _ _ _ _ (zC hMl).symm (H.trans le9) hrs9
 intro hc N;exact uA<|xV zP<|yQ<|hx _  (zC N).symm H
def rL (list:(List zF)) (a0:zG) (point:(List Int)):Option (Int):=do
 match←uE list a0 point 0 0 with
 | .ret r0=>pure r0
 | .done _ =>
  pure (-1)
theorem eJ:∀ list a0 point r,rL list a0 point=some r→∀ {I:Imm}{p c p1 c1 p2 c2},(S4 I p list c)→(S4 I p1 a0.Subs c1)→(S4 I p2 point c2)→RT 133 [vS p list c,vA (cAccess a0 p1 c1),vS p2 point c2] I [] (yP  r):=by
 intro list a0 point r N I p c p1 c1 p2 c2 h h1 h2;unfold rL at N;refine yJ Tryz.func133 fun B=>yB<|vM (cAccess a0 p1 c1) ?_;intro b hb;refine xY [] []<|vV [7] rfl<|yA<|yH [8] rfl<|wK<|oM [(0,vS p list c),(2,vS p2 point c2),(4,vP b 0),(7,vI 0),(8,vI 0)] ?_;obtain ⟨o02,ho02,hMl1⟩:=zB N;refine zCl list a0 point 0 0 o02 ho02 iR h h2 h1 (fun _ _ _ h=>h) (fun _ _ h=>h) ?_ ?_
 · intro I04  heq2 le4;subst o02;refine zV<|vV [6] rfl<|zJ<|yX ?_;obtain rfl:=zC hMl1;exact xZ
 intro r0 I9 hs9 m9 heq9 le9 hrs9;subst heq9;refine zU<|zI ?_;obtain rfl:=zC hMl1;exact xC hrs9
end Go.LN
