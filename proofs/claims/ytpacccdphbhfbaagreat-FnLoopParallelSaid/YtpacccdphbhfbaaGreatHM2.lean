/- Helper of the proof (see the last text). -/
import Derived.Test.YtpacccdphbhfbaaGreatHM1
set_option linter.unusedVariables false
set_option linter.unusedSimpArgs false
namespace Go.LN
open Go.Proofs
set_option maxRecDepth 20000
def fS (b0:Nat) (r:zD×zM):KT:=fun kk I' hs' v=>
  ∃ v0 k0,hs'=[.blk b0 ⟨k0⟩]∧v=tupV [v0]∧(∃ cs,v0=.agg ⟨cs⟩∧Rp.rep I' cs r.1)∧Rp.rep I' k0 r.2
def pP (r0:zM) (p1:zD):Option (zD×zM):=do
 let y←qX p1
 let (y2,y3)←yZ r0 60
 let (Arrays,Parts,x)←(do
   if (y2 == 0) then
    let (y5,y6)←pO y3 ([(⟨[65]⟩:Str),(⟨[68]⟩:Str),(⟨[69]⟩:Str)]:List Str)
    let (y8,y9)←yU y6 ([7,0,3,(-1)]:List Int)
    let l←app 40 y.Arrays ([(zF.mk y5 ([y8]:List Int))]:List zF)
    pure (l,y.Parts,y9)
   else
    let (Arrays1,Parts1,x1)←(do
      if (y2 == 1) then
       let (Arrays2,x2)←(do
         if (decide ((y.Arrays.length:Int) > 0)) then
          let (y11,y12)←yU y3 ([1,2,7]:List Int)
          let x3←idx y.Arrays 0
          let l1←pure (y.Arrays.set (0:Int).toNat (zF.mk x3.Name ([y11]:List Int)))
          pure (l1,y12)
         else
          pure (y.Arrays,y3)
           : Option (List zF×zM))
       pure (Arrays2,y.Parts,x2)
      else
       let (Parts2,x4)←(do
         if (y2 == 2) then
          let (Parts3,x5)←(do
            if (decide ((y.Parts.length:Int) > 0)) then
             let x6←idx y.Parts 0
             let (y14,y15)←nI y3 x6.Nest
             let (y17,y18)←nI y15 y14
             let (y20,y21)←nI y18 y17
             let x7←idx y.Parts 0
             let l2←pure (y.Parts.set (0:Int).toNat (zN.mk y20 x7.Body))
             pure (l2,y21)
            else
             pure (y.Parts,y3)
              : Option (List zN×zM))
          pure (Parts3,x5)
         else
          let (Parts4,x8)←(do
            if (y2 == 3) then
             let t76←(do
               if (decide ((y.Parts.length:Int) > 0)) then
                let x9←idx y.Parts (W ((y.Parts.length:Int) - 1))
                pure (decide ((x9.Body.length:Int) > 0))
               else
                pure false
                 : Option Bool)
             let (Parts5,x10)←(do
               if t76 then
                let x11←idx y.Parts (W ((y.Parts.length:Int) - 1))
                let x12←idx x11.Body 0
                let (y22,y23)←sR y3 x12
                let (y24,y25)←sR y23 y22
                let (y26,y27)←sR y25 y24
                let l3←pure ((y.Parts).set (W ((y.Parts.length:Int) - 1)).toNat (zN.mk x11.Nest (x11.Body.set 0 y26)))
                pure (l3,y27)
               else
                pure (y.Parts,y3)
                 : Option (List zN×zM))
             pure (Parts5,x10)
            else
             let Parts6←(do
               if (y2 == 4) then
                let Parts7←(do
                  if (decide ((y.Parts.length:Int) > 0)) then
                   let x13←idx y.Parts (W ((y.Parts.length:Int) - 1))
                   let l4←pure (y.Parts.set (W ((y.Parts.length:Int) - 1)).toNat (zN.mk x13.Nest ([]:List zP)))
                   pure (id l4)
                  else
                   pure y.Parts
                    : Option (List zN))
                pure (id Parts7)
               else
                pure y.Parts
                 : Option (List zN))
             pure (Parts6,y3)
              : Option (List zN×zM))
          pure (Parts4,x8)
           : Option (List zN×zM))
       pure (y.Arrays,Parts2,x4)
        : Option (List zF×List zN×zM))
    pure (Arrays1,Parts1,x1)
     : Option (List zF×List zN×zM))
 pure ((zD.mk Arrays Parts),x)
theorem zEE:∀ (r0:zM) (p1:zD) r,pP r0 p1=some r→∀ {I:Imm}{r01:Nat}{p c p2 c1 p3 c2},(S4 I p r0.b c)→(S4 I p2 p1.Arrays c1)→(S4 I p3 p1.Parts c2)→(∀ (y:zD) (y2:Int) (y3:zM) (x:zN) (s:zP),qX p1=some y→yZ r0 60=some (y2,y3)→(y2 == 3)=true→idx y.Parts (W ((y.Parts.length:Int) - 1))=some x→idx x.Body 0=some s→False)→RT 58 [vP r01 0,vA (cProg p1 p2 c1 p3 c2)] I [hB r01 (cRd r0 p c)] (fS r01 r):=by
 intro r0 p1 r N I r01 p c p2 c1 p3 c2 h h1 h2 hne;unfold pP at N;refine yL Tryz.func58 fun B=>?_;have H:=iS I;refine yD<|tS (cProg p1 p2 c1 p3 c2) ?_;intro b hb;refine wY zTwo ?_;intro b1 hb1;refine yB rfl<|yX<|qL 1 [1] [(7,vA (cProg p1 p2 c1 p3 c2))]<|bE N fun y hy N=>xP (zGk p1 _ hy h1 h2) ?_;rintro I0 hs2 v2 k2 le - ⟨p4,c3,cs,p5,c4,cs1,rfl,rfl,h3,h4⟩ -;have ⟨h,H⟩:=m2 le h H;refine wY zTwo ?_;intro b2 hb2;refine xJ 0 (cProg y p4 c3 p5 c4) rfl<|yB rfl<|yX<|yI [0] [6] rfl<|zY<|yD<|yE 1 [] [12] rfl<|sK (zX [5,0,1,2,3,4] (hs':=[hB r01 (cRd r0 p c),hB b2 (cProg y p4 c3 p5 c4),hO zF (vS p4 y.Arrays c3) cs,hO zN (vS p5 y.Parts c4) cs1,hB b1 zTwo,hB b (cProg p1 p2 c1 p3 c2)])) ?_;obtain ⟨⟨y2,y3⟩,hy1,N⟩:=zB N;refine sJ (xQ r0 60 _ hy1 h) rfl ?_;rintro I01 hs2 v2 k2 le1 - ⟨v0,kk,rfl,rfl,rfl,h6⟩ -;have ⟨h3,h4,H⟩:=m3 le1 h3 h4 H;obtain ⟨p6,c5,rfl,h7⟩:=yA h6;refine yB rfl<|xW<|yF [14] rfl<|zI<|pU 5 rfl ?_;intro I02 le2 hl0;have hat:At I02 ⟨b,0,none⟩ (cProg p1 p2 c1 p3 c2):=At.of_blk hl0;have ⟨h7,h3,h4,H⟩:=m4 le2 h7 h3 h4 H;obtain ⟨o0,ho0,hMc⟩:=zB N;refine qA (fun I' hs' m'=>∃ (Arrays:List zF) (Parts:List zN) (x:zM) (p7:Option Addr) (c6:Nat) (cs2:List Value) (p8:Option Addr) (c7:Nat) (cs3:List Value) (p9:Option Addr) (c8:Nat),o0=(Arrays,Parts,x)∧I02.le I'∧(RL I' cs2 Arrays)∧(RL I' cs3 Parts)∧(S4 I' p9 x.b c8)∧hs'=[hB r01 (cRd x p9 c8),hB b2 [vS p7 Arrays c6,vS p8 Parts c7],hO zF (vS p7 Arrays c6) cs2,hO zN (vS p8 Parts c7) cs3,hB b1 zTwo]∧m'=[(4,vP b1 0),(5,vP b2 0)]) ?_ ?_
 · have H:=iS I02;refine yC ho0 ?_ ?_
   · intro hc N;obtain ⟨⟨y5,y6⟩,hy2,N⟩:=zB N;obtain ⟨⟨y8,y9⟩,hy3,N⟩:=zB N;obtain ⟨l,hy4,N⟩:=zB N;refine wK [.p (vP b2 0) [],.p (vS p4 y.Arrays c3) [0],.p (vP r01 0) [],.x (fun I' v hx=>∃ b3,v=vS (some ⟨b3,0,none⟩) ([(⟨[65]⟩:Str),(⟨[68]⟩:Str),(⟨[69]⟩:Str)]:List Str) 3∧hx=[]∧(SL I' (vS (some ⟨b3,0,none⟩) ([(⟨[65]⟩:Str),(⟨[68]⟩:Str),(⟨[69]⟩:Str)]:List Str) 3) ([(⟨[65]⟩:Str),(⟨[68]⟩:Str),(⟨[69]⟩:Str)]:List Str))),.x (fun I' v hx=>∃ p10 c9,v=vT y5.l∧hx=[hB r01 (cRd y6 p10 c9)]∧(S4 I' p10 y6.b c9)),.p (vP r01 0) [],.x (fun I' v hx=>∃ b4,v=vS (some ⟨b4,0,none⟩) ([7,0,3,(-1)]:List Int) 4∧hx=[]∧(SL I' (vS (some ⟨b4,0,none⟩) ([7,0,3,(-1)]:List Int) 4) ([7,0,3,(-1)]:List Int))),.x (fun I' v hx=>∃ p11 c10,v=vI y8∧hx=[hB r01 (cRd y9 p11 c10)]∧(S4 I' p11 y9.b c10)),.x (fun I' v hx=>∃ b5,v=vS (some ⟨b5,0,none⟩) ([y8]:List Int) 1∧hx=[]∧(SL I' (vS (some ⟨b5,0,none⟩) ([y8]:List Int) 1) ([y8]:List Int))),.x (fun I' v hx=>∃ b51,v=vA [vT y5.l,vS (some ⟨b51,0,none⟩) ([y8]:List Int) 1]∧hx=[]∧(SL I' (vS (some ⟨b51,0,none⟩) ([y8]:List Int) 1) ([y8]:List Int))),.x (fun I' v hx=>∃ b6,v=vS (some ⟨b6,0,none⟩) ([(zF.mk y5 ([y8]:List Int))]:List zF) 1∧hx=[]∧(SL I' (vS (some ⟨b6,0,none⟩) ([(zF.mk y5 ([y8]:List Int))]:List zF) 1) ([(zF.mk y5 ([y8]:List Int))]:List zF))),.x (fun I' v hx=>∃ p12 c11 cs4,v=vS p12 l c11∧hx=[hO zF (vS p12 l c11) cs4]∧(RL I' cs4 l))] [[],[(0,false)],[],[],[(2,false),(3,false),(14,true)],[],[],[(5,false),(6,false),(4,true)],[(7,false)],[(4,false),(8,false)],[(9,false)],[(1,false),(10,false),(15,true)]] [hB b2 (cProg y p4 c3 p5 c4),hO zN (vS p5 y.Parts c4) cs1,hB b1 zTwo] [[hB r01 (cRd y3 p6 c5)],[hO zF (vS p4 y.Arrays c3) cs]] [(7,true),(11,true)] (zX [1,3,4,0,2]) ?_ ?_
     · refine Op<|Op<|Op<|Ox ?_<|Ox ?_<|Op<|Ox ?_<|Ox ?_<|Ox ?_<|Ox ?_<|Ox ?_<|Ox ?_<|On
       · intro I1 hf le1;refine I_h [] ?_;have H:=iS I1;refine nH (rT [(⟨[65]⟩:Str),(⟨[68]⟩:Str),(⟨[69]⟩:Str)]) ?_;intro b3 I04 le3 h12;have H:=H.trans le3;exact yK [] H ⟨_,rfl,rfl,h12⟩
       · rintro I1 hf le1 _ _ ⟨rfl,rfl⟩ _ _ ⟨b3,rfl,rfl,h12⟩ _ _ rfl;refine yR [18,19] rfl ?_;have H:=iS I1;have h7:=h7.mono le1;refine sJ (gZ y3 ([(⟨[65]⟩:Str),(⟨[68]⟩:Str),(⟨[69]⟩:Str)]:List Str) _ hy2 h7 h12) rfl ?_;rintro I05 hs2 v2 k2 le4 - ⟨v02,kk1,rfl,rfl,rfl,h14⟩ -;have H:=H.trans le4;obtain ⟨p10,c9,rfl,h15⟩:=yA h14;exact yK [hB r01 (cRd y6 p10 c9)] H ⟨_,_,rfl,rfl,h15⟩
       · intro I1 hf le1;refine I_h [] ?_;have H:=iS I1;refine nH (rI [7,0,3,(-1)]) ?_;intro b4 I06 le5 h17;have H:=H.trans le5;exact yK [] H ⟨_,rfl,rfl,h17⟩
       · rintro I1 hf le1 _ _ ⟨rfl,rfl⟩ _ _ ⟨b4,rfl,rfl,h17⟩ _ _ ⟨p10,c9,rfl,rfl,h15⟩;refine yR [21,22] rfl ?_;have H:=iS I1;refine sJ (xB y6 ([7,0,3,(-1)]:List Int) _ hy3 h15 h17) rfl ?_;rintro I07 hs2 v2 k2 le6 - ⟨v04,kk2,rfl,rfl,rfl,h19⟩ -;have H:=H.trans le6;obtain ⟨p11,c10,rfl,h20⟩:=yA h19;exact yK [hB r01 (cRd y9 p11 c10)] H ⟨_,_,rfl,rfl,h20⟩
       · rintro I1 hf le1 _ _ ⟨p11,c10,rfl,rfl,h20⟩;refine yR [23] rfl ?_;have H:=iS I1;refine nH (rI [y8]) ?_;intro b5 I08 le7 h22;have H:=H.trans le7;exact yK [] H ⟨_,rfl,rfl,h22⟩
       · rintro I1 hf le1 _ _ ⟨p10,c9,rfl,rfl,h15⟩ _ _ ⟨b5,rfl,rfl,h22⟩;exact yR [20,24] rfl<|oY 10 [(25,vA [vT y5.l,vS (some ⟨b5,0,none⟩) ([y8]:List Int) 1])]<|yK [] iR ⟨_,rfl,rfl,h22⟩
       · rintro I1 hf le1 _ _ ⟨b51,rfl,rfl,h221⟩;refine yR [25] rfl ?_;have H:=iS I1;refine nH (rc (zF.mk y5 ([y8]:List Int)) (pM ⟨_,rfl,h221⟩) rN) ?_;intro b6 I09 le8 h24;have H:=H.trans le8;exact yK [] H ⟨_,rfl,rfl,h24⟩
       rintro I1 hf le1 _ _ ⟨rfl,rfl⟩ _ _ ⟨b6,rfl,rfl,h24⟩ _ _ rfl;refine yR [17,26] rfl ?_;have h3:=iM le1 h3;obtain ⟨ccs,k0,k01⟩:=h24;have h24:SL I1 (vS (some ⟨b6,0,none⟩) ([(zF.mk y5 ([y8]:List Int))]:List zF) 1) ([(zF.mk y5 ([y8]:List Int))]:List zF):=⟨_,k0,k01⟩;exact rX 147 2 0 rfl rfl rfl h3 (.inl k0) k01 hy4 fun p12 c11 cs4 h25=>vK (hs':=(hO zF (vS p12 l c11) cs4::hB b2 (cProg y p4 c3 p5 c4)::hO zN (vS p5 y.Parts c4) cs1::hB b1 zTwo::hf)) rfl<|yK [hO zF (vS p12 l c11) cs4] iR ⟨_,_,_,rfl,rfl,h25⟩
     rintro I010 le9 _ _ ⟨p11,c10,rfl,rfl,h20⟩ _ _ ⟨p12,c11,cs4,rfl,rfl,h25⟩;refine yR [4,5,27] rfl ?_;have ⟨h4,H⟩:=m2 le9 h4 H;exact yE 13 [] [28] rfl<|xJ 2 [vS p12 l c11,vS p5 y.Parts c4] rfl<|yB rfl<|xY (zW [1,2,0,3,4] rfl (by decide))<|yN<|zT ⟨_,_,_,_,_,_,_,_,_,_,_,(zC N).symm,H,h25,h4,h20,rfl,rfl⟩
   intro hc N;refine yF [29] rfl<|zI ?_;obtain ⟨o01,ho01,hMc1⟩:=zB N;refine qA (fun I' hs' m'=>∃ (Arrays1:List zF) (Parts1:List zN) (x1:zM) (p13:Option Addr) (c12:Nat) (cs5:List Value) (p14:Option Addr) (c13:Nat) (cs6:List Value) (p15:Option Addr) (c14:Nat),o01=(Arrays1,Parts1,x1)∧I02.le I'∧(RL I' cs5 Arrays1)∧(RL I' cs6 Parts1)∧(S4 I' p15 x1.b c14)∧hs'=[hB r01 (cRd x1 p15 c14),hB b2 [vS p13 Arrays1 c12,vS p14 Parts1 c13],hO zF (vS p13 Arrays1 c12) cs5,hO zN (vS p14 Parts1 c13) cs6,hB b1 zTwo]∧m'=[(4,vP b1 0),(5,vP b2 0)]) ?_ ?_
   · have H:=iS I02;refine yC ho01 ?_ ?_
     · intro hc1 N;refine yD<|yI [1] [34] rfl<|zI ?_;obtain ⟨o02,ho02,hMc2⟩:=zB N;refine qA (fun I' hs' m'=>∃ (Arrays2:List zF) (x2:zM) (p16:Option Addr) (c15:Nat) (cs7:List Value) (p17:Option Addr) (c16:Nat),o02=(Arrays2,x2)∧I02.le I'∧(RL I' cs7 Arrays2)∧(S4 I' p17 x2.b c16)∧hs'=[hB r01 (cRd x2 p17 c16),hB b2 [vS p16 Arrays2 c15,vS p5 y.Parts c4],hO zF (vS p16 Arrays2 c15) cs7,hO zN (vS p5 y.Parts c4) cs1,hB b1 zTwo]∧m'=[(4,vP b1 0),(5,vP b2 0)]) ?_ ?_
       · have H:=iS I02;refine yC ho02 ?_ ?_
         · intro hc2 N;obtain ⟨⟨y11,y12⟩,hy5,N⟩:=zB N;refine wK [.p (vP b2 0) [],.p (vS p4 y.Arrays c3) [0],.p (vP r01 0) [],.x (fun I' v hx=>∃ b7,v=vS (some ⟨b7,0,none⟩) ([1,2,7]:List Int) 3∧hx=[]∧(SL I' (vS (some ⟨b7,0,none⟩) ([1,2,7]:List Int) 3) ([1,2,7]:List Int))),.x (fun I' v hx=>∃ p18 c17,v=vI y11∧hx=[hB r01 (cRd y12 p18 c17)]∧(S4 I' p18 y12.b c17)),.x (fun I' v hx=>∃ b8,v=vS (some ⟨b8,0,none⟩) ([y11]:List Int) 1∧hx=[]∧(SL I' (vS (some ⟨b8,0,none⟩) ([y11]:List Int) 1) ([y11]:List Int)))] [[],[(0,false)],[],[],[(2,false),(3,false),(9,true)],[(4,false)]] [hB b2 (cProg y p4 c3 p5 c4),hO zF (vS p4 y.Arrays c3) cs,hO zN (vS p5 y.Parts c4) cs1,hB b1 zTwo] [[hB r01 (cRd y3 p6 c5)]] [(1,false),(4,true),(5,false)] (zX [1,2,3,4,0]) ?_ ?_
           · refine Op<|Op<|Op<|Ox ?_<|Ox ?_<|Ox ?_<|On
             · intro I1 hf le1;refine I_h [] ?_;have H:=iS I1;refine nH (rI [1,2,7]) ?_;intro b7 I013 le10 h32;have H:=H.trans le10;exact yK [] H ⟨_,rfl,rfl,h32⟩
             · rintro I1 hf le1 _ _ ⟨rfl,rfl⟩ _ _ ⟨b7,rfl,rfl,h32⟩ _ _ rfl;refine yR [37,38] rfl ?_;have H:=iS I1;have h7:=h7.mono le1;refine sJ (xB y3 ([1,2,7]:List Int) _ hy5 h7 h32) rfl ?_;rintro I014 hs2 v2 k2 le11 - ⟨v06,kk3,rfl,rfl,rfl,h34⟩ -;have H:=H.trans le11;obtain ⟨p18,c17,rfl,h35⟩:=yA h34;exact yK [hB r01 (cRd y12 p18 c17)] H ⟨_,_,rfl,rfl,h35⟩
             rintro I1 hf le1 _ _ ⟨p18,c17,rfl,rfl,h35⟩;refine yR [39] rfl ?_;have H:=iS I1;refine nH (rI [y11]) ?_;intro b8 I015 le12 h37;have H:=H.trans le12;exact yK [] H ⟨_,rfl,rfl,h37⟩
           rintro I016 le13 _ _ ⟨rfl,rfl⟩ _ _ ⟨p18,c17,rfl,rfl,h35⟩ _ _ ⟨b8,rfl,rfl,h37⟩;refine yR [4,5,36,40] rfl ?_;have ⟨h3,H⟩:=m2 le13 h3 H;obtain ⟨x3,hy6,N⟩:=zB N;refine nV 2 rfl rfl rfl h3 hy6 ?_;intro ad ccs1 hat1 hcc hrep;obtain ⟨p19,c18,rfl,h38⟩:=wO hrep;refine yE 8 [] [42] rfl ?_;obtain ⟨l1,hy7,N⟩:=zB N;refine rG (c:=[vT x3.Name.l,vS (some ⟨b8,0,none⟩) ([y11]:List Int) 1]) (x':=(zF.mk x3.Name ([y11]:List Int))) 2 1 rfl rfl rfl hat1 rfl rfl hcc (by kernel_rfl) (by kernel_rfl) (by kernel_rfl) h3 hy6 (by kernel_rfl) (pM ⟨_,rfl,h37⟩) ?_;rw [show y.Arrays.set (0:Int).toNat (zF.mk x3.Name ([y11]:List Int))=l1 from zC hy7];intro cs8 h39 hl07;exact mS (m':=[(4,vP b1 0),(5,vP b2 0),(40,vS (some ⟨b8,0,none⟩) ([y11]:List Int) 1)]) ⟨rfl,rfl,rfl,trivial⟩<|zAN (hs':=[hB r01 (cRd y12 p18 c17),hB b2 [vS p4 l1 c3,vS p5 y.Parts c4],hO zF (vS p4 l1 c3) cs8,hO zN (vS p5 y.Parts c4) cs1,hB b1 zTwo]) (m':=[(4,vP b1 0),(5,vP b2 0),(40,vS (some ⟨b8,0,none⟩) ([y11]:List Int) 1)]) (by first | rfl | simp only [vS,hl07,List.nil_append,List.cons_append,List.set_cons_zero,List.set_cons_succ,List.eraseIdx_cons_zero,List.eraseIdx_cons_succ]) (by first | rfl | simp only [vS,hl07])<|yB rfl<|yN<|zT ⟨_,_,_,_,_,_,_,(zC N).symm,H,h39,h35,rfl,rfl⟩
         intro hc2 N;exact zS<|yN<|zT ⟨_,_,_,_,_,_,_,(zC N).symm,H,h3,h7,rfl,rfl⟩
       rintro I012 hs2 m2 ⟨Arrays2,x2,p16,c15,cs7,p17,c16,heq,le14,h29,h30,rfl,rfl⟩;subst o02;have ⟨h4,H⟩:=m2 le14 h4 H;exact yN<|zT ⟨_,_,_,_,_,_,_,_,_,_,_,(zC hMc2).symm,H,h29,h4,h30,rfl,rfl⟩
     intro hc1 N;refine yF [43] rfl<|zI ?_;obtain ⟨o03,ho03,hMc3⟩:=zB N;refine qA (fun I' hs' m'=>∃ (Parts2:List zN) (x4:zM) (p20:Option Addr) (c19:Nat) (cs9:List Value) (p21:Option Addr) (c20:Nat),o03=(Parts2,x4)∧I02.le I'∧(RL I' cs9 Parts2)∧(S4 I' p21 x4.b c20)∧hs'=[hB r01 (cRd x4 p21 c20),hB b2 [vS p4 y.Arrays c3,vS p20 Parts2 c19],hO zF (vS p4 y.Arrays c3) cs,hO zN (vS p20 Parts2 c19) cs9,hB b1 zTwo]∧m'=[(4,vP b1 0),(5,vP b2 0)]) ?_ ?_
     · have H:=iS I02;refine yC ho03 ?_ ?_
       · intro hc3 N;refine yF [46] rfl<|zI ?_;obtain ⟨o04,ho04,hMc4⟩:=zB N;refine qA (fun I' hs' m'=>∃ (Parts3:List zN) (x5:zM) (p22:Option Addr) (c21:Nat) (cs10:List Value) (p23:Option Addr) (c22:Nat),o04=(Parts3,x5)∧I02.le I'∧(RL I' cs10 Parts3)∧(S4 I' p23 x5.b c22)∧hs'=[hB r01 (cRd x5 p23 c22),hB b2 [vS p4 y.Arrays c3,vS p22 Parts3 c21],hO zF (vS p4 y.Arrays c3) cs,hO zN (vS p22 Parts3 c21) cs10,hB b1 zTwo]∧m'=[(4,vP b1 0),(5,vP b2 0)]) ?_ ?_
         · have H:=iS I02;refine yC ho04 ?_ ?_
           · intro hc4 N;obtain ⟨x6,hy8,N⟩:=zB N;obtain ⟨⟨y14,y15⟩,hy9,N⟩:=zB N;obtain ⟨⟨y17,y18⟩,hy10,N⟩:=zB N;obtain ⟨⟨y20,y21⟩,hy11,N⟩:=zB N;refine wK [.p (vP b2 1) [],.p (vS p5 y.Parts c4) [0],.p (vP r01 0) [],.p (vP r01 0) [],.p (vP r01 0) [],.p (vP b2 1) [],.p (vS p5 y.Parts c4) [0],.x (fun I' v hx=>∃ ad1 p24 c23 p25 c24,v=.pointer (some ad1)∧hx=[]∧(AtO (vS p5 y.Parts c4) (Rp.sz zN) (0:Int).toNat ad1)∧((cs1.drop ((0:Int).toNat * Rp.sz zN)).take (Rp.sz zN)=(cPart x6 p24 c23 p25 c24))∧(S4 I' p24 x6.Nest c23)∧(S4 I' p25 x6.Body c24)),.x (fun I' v hx=>∃ ad11 p241 c231 p251 c241,v=.pointer (some ad11)∧hx=[]∧(AtO (vS p5 y.Parts c4) (Rp.sz zN) (0:Int).toNat ad11)∧((cs1.drop ((0:Int).toNat * Rp.sz zN)).take (Rp.sz zN)=(cPart x6 p241 c231 p251 c241))∧(S4 I' p241 x6.Nest c231)∧(S4 I' p251 x6.Body c241)),.x (eS x6.Nest),.x (fun I' v hx=>∃ p26 c25 p27 c26,v=vS p26 y14 c25∧hx=[hB r01 (cRd y15 p27 c26)]∧(S4 I' p26 y14 c25)∧(S4 I' p27 y15.b c26)),.x (fun I' v hx=>∃ p28 c27 p29 c28,v=vS p28 y17 c27∧hx=[hB r01 (cRd y18 p29 c28)]∧(S4 I' p28 y17 c27)∧(S4 I' p29 y18.b c28)),.x (fun I' v hx=>∃ p30 c29 p31 c30,v=vS p30 y20 c29∧hx=[hB r01 (cRd y21 p31 c30)]∧(S4 I' p30 y20 c29)∧(S4 I' p31 y21.b c30))] [[],[(0,false)],[],[],[],[],[(5,false)],[(6,false)],[(7,false)],[(8,false)],[(4,false),(9,false),(16,true)],[(3,false),(10,true)],[(2,false),(11,true)]] [hB b2 (cProg y p4 c3 p5 c4),hO zF (vS p4 y.Arrays c3) cs,hO zN (vS p5 y.Parts c4) cs1,hB b1 zTwo] [[hB r01 (cRd y3 p6 c5)]] [(1,false),(12,true)] (zX [1,2,3,4,0]) ?_ ?_
             · refine Op<|Op<|Op<|Op<|Op<|Op<|Op<|Ox ?_<|Ox ?_<|Ox ?_<|Ox ?_<|Ox ?_<|Ox ?_<|On
               · intro I1 hf le1;refine yR [53] rfl ?_;have h4:=iM le1 h4;refine nV 2 rfl rfl rfl h4 hy8 ?_;intro ad1 ccs2 hat2 hcc1 hrep1;obtain ⟨p24,c23,p25,c24,rfl,h44,h45⟩:=wL hrep1;exact yK [] iR ⟨_,_,_,_,_,rfl,rfl,hat2,hcc1,h44,h45⟩
               · rintro I1 hf le1 _ _ ⟨ad1,p24,c23,p25,c24,rfl,rfl,hat2,hcc1,h44,h45⟩;exact yR [54] rfl<|oY 9 [(55,.pointer (some ad1))]<|yK [] iR ⟨_,_,_,_,_,rfl,rfl,hat2,hcc1,h44,h45⟩
               · rintro I1 hf le1 _ _ ⟨ad11,p241,c231,p251,c241,rfl,rfl,hat21,hcc11,h441,h451⟩;exact yR [55] rfl<|zB3 2 0 hat21 hcc11 [vS p241 x6.Nest c231] (vS p241 x6.Nest c231) rfl rfl<|yK [] iR ⟨_,_,rfl,rfl,h441⟩
               · rintro I1 hf le1 _ _ ⟨rfl,rfl⟩ _ _ ⟨p2411,c2311,rfl,rfl,h4411⟩ _ _ rfl;refine yR [51,56] rfl ?_;have H:=iS I1;have h7:=h7.mono le1;refine sJ (eX y3 x6.Nest _ hy9 h7 h4411) rfl ?_;rintro I019 hs2 v2 k2 le15 - ⟨v011,kk4,rfl,rfl,h46,h47⟩ -;have H:=H.trans le15;obtain ⟨p26,c25,rfl⟩:=h46.form;obtain ⟨p27,c26,rfl,h48⟩:=yA h47;exact yK [hB r01 (cRd y15 p27 c26)] H ⟨_,_,_,_,rfl,rfl,h46,h48⟩
               · rintro I1 hf le1 _ _ ⟨rfl,rfl⟩ _ _ ⟨p26,c25,p27,c26,rfl,rfl,h46,h48⟩;refine yR [50,57] rfl ?_;have H:=iS I1;refine sJ (eX y15 y14 _ hy10 h48 h46) rfl ?_;rintro I020 hs2 v2 k2 le16 - ⟨v013,kk5,rfl,rfl,h49,h50⟩ -;have H:=H.trans le16;obtain ⟨p28,c27,rfl⟩:=h49.form;obtain ⟨p29,c28,rfl,h51⟩:=yA h50;exact yK [hB r01 (cRd y18 p29 c28)] H ⟨_,_,_,_,rfl,rfl,h49,h51⟩
               rintro I1 hf le1 _ _ ⟨rfl,rfl⟩ _ _ ⟨p28,c27,p29,c28,rfl,rfl,h49,h51⟩;refine yR [49,58] rfl ?_;have H:=iS I1;refine sJ (eX y18 y17 _ hy11 h51 h49) rfl ?_;rintro I021 hs2 v2 k2 le17 - ⟨v015,kk6,rfl,rfl,h52,h53⟩ -;have H:=H.trans le17;obtain ⟨p30,c29,rfl⟩:=h52.form;obtain ⟨p31,c30,rfl,h54⟩:=yA h53;exact yK [hB r01 (cRd y21 p31 c30)] H ⟨_,_,_,_,rfl,rfl,h52,h54⟩
             rintro I022 le18 _ _ ⟨rfl,rfl⟩ _ _ ⟨p30,c29,p31,c30,rfl,rfl,h52,h54⟩;refine yR [4,5,48,59] rfl ?_;have ⟨h4,H⟩:=m2 le18 h4 H;obtain ⟨x7,hy12,N⟩:=zB N;refine nV 3 rfl rfl rfl h4 hy12 ?_;intro ad2 ccs3 hat3 hcc2 hrep2;obtain ⟨p32,c31,p33,c32,rfl,h55,h56⟩:=wL hrep2;refine yE 15 [] [61] rfl ?_;obtain ⟨l2,hy13,N⟩:=zB N;refine rG (c:=[vS p30 y20 c29,vS p33 x7.Body c32]) (x':=(zN.mk y20 x7.Body)) 3 0 rfl rfl rfl hat3 rfl rfl hcc2 (by kernel_rfl) (by kernel_rfl) (by kernel_rfl) h4 hy12 (by kernel_rfl) (qY ⟨_,_,rfl,h52,h56⟩) ?_;rw [show y.Parts.set (0:Int).toNat (zN.mk y20 x7.Body)=l2 from zC hy13];intro cs11 h57 hl08;exact mS (m':=[(4,vP b1 0),(5,vP b2 0),(59,vS p30 y20 c29)]) ⟨rfl,rfl,rfl,trivial⟩<|zAN (hs':=[hB r01 (cRd y21 p31 c30),hB b2 [vS p4 y.Arrays c3,vS p5 l2 c4],hO zF (vS p4 y.Arrays c3) cs,hO zN (vS p5 l2 c4) cs11,hB b1 zTwo]) (m':=[(4,vP b1 0),(5,vP b2 0),(59,vS p30 y20 c29)]) (by first | rfl | simp only [vS,hl08,List.nil_append,List.cons_append,List.set_cons_zero,List.set_cons_succ,List.eraseIdx_cons_zero,List.eraseIdx_cons_succ]) (by first | rfl | simp only [vS,hl08])<|yB rfl<|yN<|zT ⟨_,_,_,_,_,_,_,(zC N).symm,H,h57,h54,rfl,rfl⟩
           intro hc4 N;exact zS<|yN<|zT ⟨_,_,_,_,_,_,_,(zC N).symm,H,h4,h7,rfl,rfl⟩
         rintro I018 hs2 m2 ⟨Parts3,x5,p22,c21,cs10,p23,c22,heq1,le19,h42,h43,rfl,rfl⟩;subst o04;have H:=H.trans le19;exact yN<|zT ⟨_,_,_,_,_,_,_,(zC hMc4).symm,H,h42,h43,rfl,rfl⟩
       intro hc3 N;refine yF [62] rfl<|zI ?_;obtain ⟨o05,ho05,hMc5⟩:=zB N;refine qA (fun I' hs' m'=>∃ (Parts4:List zN) (x8:zM) (p34:Option Addr) (c33:Nat) (cs12:List Value) (p35:Option Addr) (c34:Nat),o05=(Parts4,x8)∧I02.le I'∧(RL I' cs12 Parts4)∧(S4 I' p35 x8.b c34)∧hs'=[hB r01 (cRd x8 p35 c34),hB b2 [vS p4 y.Arrays c3,vS p34 Parts4 c33],hO zF (vS p4 y.Arrays c3) cs,hO zN (vS p34 Parts4 c33) cs12,hB b1 zTwo]∧m'=[(4,vP b1 0),(5,vP b2 0)]) ?_ ?_
       · have H:=iS I02;refine yC ho05 ?_ ?_
         · intro hc5 N;refine zZ ?_;refine wT N [hB r01 (cRd y3 p6 c5),hB b2 (cProg y p4 c3 p5 c4),hO zF (vS p4 y.Arrays c3) cs,hO zN (vS p5 y.Parts c4) cs1,hB b1 zTwo] (fun t76=>[(0,vP r01 0),(4,vP b1 0),(5,vP b2 0),(6,vI (y.Parts.length:Int)),(76,.bool t76)]) (fun o06 ho06=>?_) ?_
           · have H:=iS I02;refine zK<|yE 3 [] [66] rfl<|xZ [66] ho06 ?_ ?_
             · intro hc6 N;refine yE 7 [1] [68,70] rfl<|bE N fun x9 hy14 N=>nV 3 rfl rfl rfl h4 hy14 ?_;intro ad3 ccs4 hat4 hcc3 hrep3;obtain ⟨p36,c35,p37,c36,rfl,h60,h61⟩:=wL hrep3;exact yE 9 [] [72] rfl<|zB3 3 1 hat4 hcc3 [vS p37 x9.Body c36] (vS p37 x9.Body c36) rfl rfl<|yI [] [76] rfl<|yN<|zT (ct N H)
             intro hc6 N;exact wI [] [(76,vF)]<|yN<|zT (ct N H)
           intro t76 I024 le20 hMc6;have ⟨h7,h4,H⟩:=m3 le20 h7 h4 H;refine zI ?_;obtain ⟨o07,ho07,hMc7⟩:=zB hMc6;refine qA (fun I' hs' m'=>∃ (Parts5:List zN) (x10:zM) (p38:Option Addr) (c37:Nat) (cs13:List Value) (p39:Option Addr) (c38:Nat),o07=(Parts5,x10)∧I024.le I'∧(RL I' cs13 Parts5)∧(S4 I' p39 x10.b c38)∧hs'=[hB r01 (cRd x10 p39 c38),hB b2 [vS p4 y.Arrays c3,vS p38 Parts5 c37],hO zF (vS p4 y.Arrays c3) cs,hO zN (vS p38 Parts5 c37) cs13,hB b1 zTwo]∧m'=[(4,vP b1 0),(5,vP b2 0)]) ?_ ?_
           · have H:=iS I024;refine yC ho07 ?_ ?_
             · intro hc7 N;obtain ⟨x11,hy15,N⟩:=zB N;obtain ⟨x12,hy16,N⟩:=zB N;obtain ⟨⟨y22,y23⟩,hy17,N⟩:=zB N;obtain ⟨⟨y24,y25⟩,hy18,N⟩:=zB N;obtain ⟨⟨y26,y27⟩,hy19,N⟩:=zB N;obtain ⟨l3,hy20,N⟩:=zB N;have hF:False:=hne _ _ _ _ _ (by assumption) (by assumption) (by assumption) hy15 hy16;obtain ⟨p40,c39,cs14,p41,c40,h64,h65⟩:∃ p40 c39 cs14 p41 c40,(RL I024 cs14 l3)∧(S4 I024 p41 y27.b c40):=hF.elim;exact zLk hF (imm':=I024) (hs':=[hB r01 (cRd y27 p41 c40),hB b2 [vS p4 y.Arrays c3,vS p40 l3 c39],hO zF (vS p4 y.Arrays c3) cs,hO zN (vS p40 l3 c39) cs14,hB b1 zTwo]) (m':=[(0,vP r01 0),(4,vP b1 0),(5,vP b2 0),(6,vI (y.Parts.length:Int)),(76,.bool t76)])<|yN<|zT ⟨_,_,_,_,_,_,_,(zC N).symm,H,h64,h65,rfl,rfl⟩
             intro hc7 N;exact zS<|yN<|zT ⟨_,_,_,_,_,_,_,(zC N).symm,H,h4,h7,rfl,rfl⟩
           rintro I025 hs2 m2 ⟨Parts5,x10,p38,c37,cs13,p39,c38,heq3,le21,h62,h63,rfl,rfl⟩;subst o07;have H:=H.trans le21;exact yN<|zT ⟨_,_,_,_,_,_,_,(zC hMc7).symm,H,h62,h63,rfl,rfl⟩
         intro hc5 N;refine yF [100] rfl<|zI ?_;obtain ⟨o08,ho08,hMc8⟩:=zB N;refine qA (fun I' hs' m'=>∃ (Parts6:List zN) (p42:Option Addr) (c41:Nat) (cs15:List Value),o08=Parts6∧I02.le I'∧(RL I' cs15 Parts6)∧hs'=[hB r01 (cRd y3 p6 c5),hB b2 [vS p4 y.Arrays c3,vS p42 Parts6 c41],hO zF (vS p4 y.Arrays c3) cs,hO zN (vS p42 Parts6 c41) cs15,hB b1 zTwo]∧m'=[(4,vP b1 0),(5,vP b2 0)]) ?_ ?_
         · have H:=iS I02;refine yC ho08 ?_ ?_
           · intro hc8 N;refine yF [103] rfl<|zI ?_;obtain ⟨o09,ho09,hMc9⟩:=zB N;refine qA (fun I' hs' m'=>∃ (Parts7:List zN) (p43:Option Addr) (c42:Nat) (cs16:List Value),o09=Parts7∧I02.le I'∧(RL I' cs16 Parts7)∧hs'=[hB r01 (cRd y3 p6 c5),hB b2 [vS p4 y.Arrays c3,vS p43 Parts7 c42],hO zF (vS p4 y.Arrays c3) cs,hO zN (vS p43 Parts7 c42) cs16,hB b1 zTwo]∧m'=[(4,vP b1 0),(5,vP b2 0)]) ?_ ?_
             · have H:=iS I02;refine yC ho09 ?_ ?_
               · intro hc9 N;refine zK<|yE 4 [1] [105,107] rfl<|bE N fun x13 hy21 N=>nV 3 rfl rfl rfl h4 hy21 ?_;intro ad4 ccs5 hat5 hcc4 hrep4;obtain ⟨p44,c43,p45,c44,rfl,h68,h69⟩:=wL hrep4;refine yE 6 [] [109] rfl ?_;obtain ⟨l4,hy22,N⟩:=zB N;refine rG (c:=[vS p44 x13.Nest c43,z0]) (x':=(zN.mk x13.Nest ([]:List zP))) 3 1 rfl rfl rfl hat5 rfl rfl hcc4 (by kernel_rfl) (by kernel_rfl) (by kernel_rfl) h4 hy21 (by kernel_rfl) (qY ⟨_,_,rfl,h68,(SL.nil _)⟩) ?_;rw [show y.Parts.set (W ((y.Parts.length:Int) - 1)).toNat (zN.mk x13.Nest ([]:List zP))=l4 from zC hy22];intro cs17 h70 hl09;exact mS (m':=[(4,vP b1 0),(5,vP b2 0)]) ⟨rfl,rfl,trivial⟩<|zAN (hs':=[hB r01 (cRd y3 p6 c5),hB b2 [vS p4 y.Arrays c3,vS p5 l4 c4],hO zF (vS p4 y.Arrays c3) cs,hO zN (vS p5 l4 c4) cs17,hB b1 zTwo]) (m':=[(4,vP b1 0),(5,vP b2 0)]) (by first | rfl | simp only [vS,hl09,List.nil_append,List.cons_append,List.set_cons_zero,List.set_cons_succ,List.eraseIdx_cons_zero,List.eraseIdx_cons_succ]) (by first | rfl | simp only [vS,hl09])<|yB rfl<|yN<|zT ⟨_,_,_,_,(zC N).symm,H,h70,rfl,rfl⟩
               intro hc9 N;exact zS<|yN<|zT ⟨_,_,_,_,(zC N).symm,H,h4,rfl,rfl⟩
             rintro I027 hs2 m2 ⟨Parts7,p43,c42,cs16,heq4,le22,h67,rfl,rfl⟩;subst o09;have H:=H.trans le22;exact yN<|zT ⟨_,_,_,_,(zC hMc9).symm,H,h67,rfl,rfl⟩
           intro hc8 N;exact zS<|yN<|zT ⟨_,_,_,_,(zC N).symm,H,h4,rfl,rfl⟩
         rintro I026 hs2 m2 ⟨Parts6,p42,c41,cs15,heq5,le23,h66,rfl,rfl⟩;subst o08;have ⟨h7,H⟩:=m2 le23 h7 H;exact yN<|zT ⟨_,_,_,_,_,_,_,(zC hMc8).symm,H,h66,h7,rfl,rfl⟩
       rintro I023 hs2 m2 ⟨Parts4,x8,p34,c33,cs12,p35,c34,heq6,le24,h58,h59,rfl,rfl⟩;subst o05;have H:=H.trans le24;exact yN<|zT ⟨_,_,_,_,_,_,_,(zC hMc5).symm,H,h58,h59,rfl,rfl⟩
     rintro I017 hs2 m2 ⟨Parts2,x4,p20,c19,cs9,p21,c20,heq7,le25,h40,h41,rfl,rfl⟩;subst o03;have ⟨h3,H⟩:=m2 le25 h3 H;exact yN<|zT ⟨_,_,_,_,_,_,_,_,_,_,_,(zC hMc3).symm,H,h3,h40,h41,rfl,rfl⟩
   rintro I011 hs2 m2 ⟨Arrays1,Parts1,x1,p13,c12,cs5,p14,c13,cs6,p15,c14,heq8,le26,h26,h27,h28,rfl,rfl⟩;subst o01;have H:=H.trans le26;exact yN<|zT ⟨_,_,_,_,_,_,_,_,_,_,_,(zC hMc1).symm,H,h26,h27,h28,rfl,rfl⟩
 rintro I03 hs2 m2 ⟨Arrays,Parts,x,p7,c6,cs2,p8,c7,cs3,p9,c8,heq9,le27,h8,h9,h10,rfl,rfl⟩;subst o0;refine zO<|yX<|qL 1 [1] [(110,vA [vS p7 Arrays c6,vS p8 Parts c7])]<|xJ 4 [vS p7 Arrays c6,vS p8 Parts c7] rfl<|yB rfl<|xG<|yV 2 rfl ?_;intro I028 le28 hl010;have h71:=SL.of_frozen hl010 le28 h8;have ⟨h10,h9⟩:=m2 le28 h10 h9;refine yV 2 rfl ?_;intro I029 le29 hl011;have h72:=SL.of_frozen hl011 le29 h9;have ⟨h10,h71⟩:=m2 le29 h10 h71;obtain rfl:=zC hMc;exact xA ⟨_,_,(.cell 2 rfl rfl (by kernel_rfl) ResV.nil),(zW [0] rfl (by decide)),⟨_,_,rfl,rfl,⟨_,rfl,(uB ⟨_,_,rfl,h71,h72⟩)⟩,(yT ⟨_,rfl,h10⟩)⟩⟩
theorem zDZ (p:zD):∀ (i1:Int) (Parts:List zN) (o:List zN),uT p i1 Parts=some o→∀ {B}{I0 I:Imm}{Q}{Arrays1:List zF}{p1 c p2 c1}{b:Nat}{b1:Nat}{b2:Nat}{p4 c3 cs1 p9 c8 cs4}{raws:List Raw2}{pN pB:Option Addr}{cN cB:Nat}{nl:List zE}{bl:List zP}{csB:List Value},I0.le I→(RL I cs1 Arrays1)→(S4 I p1 p.Arrays c)→(S4 I p2 p.Parts c1)→(RL I cs4 raws)→LP I raws Parts (vS pN nl cN) nl (vS pB bl cB) bl→SL I (vS pN nl cN) nl→RL I csB bl→(∀ l a w,¬Q (.goto l) a w)→(∀ a w,¬Q .outgrown a w)→(∀ (I':Imm) (p10:Option Addr) (c9:Nat) (cs5:List Value) (raws1:List Raw2) (pN pB:Option Addr) (cN cB:Nat) (nl:List zE) (bl:List zP) (csB:List Value),I0.le I'→(RL I' cs5 raws1)→LP I' raws1 o (vS pN nl cN) nl (vS pB bl cB) bl→SL I' (vS pN nl cN) nl→RL I' csB bl→T 84 B Q (.exit 2) I' [hO zP (vS pB bl cB) csB,hO Raw2 (vS p10 raws1 c9) cs5,hO zF (vS p4 Arrays1 c3) cs1,hB b2 [vS p4 Arrays1 c3,vS p10 raws1 c9],hB b1 zTwo] [(2,vP b1 0),(3,vP b2 0)])→J Tryz.prog 84 B (nav (bodyOf Tryz.f117) [1,1,1,0,1,0]) Q I [hO zP (vS pB bl cB) csB,hO Raw2 (vS p9 raws c8) cs4,hO zF (vS p4 Arrays1 c3) cs1,hB b2 [vS p4 Arrays1 c3,vS p9 raws c8],hB b1 zTwo,hB b (cProg p p1 c p2 c1)] [(1,vP b 0),(2,vP b1 0),(3,vP b2 0),(5,vI i1)]:=by
 refine uT.partial_correctness p _ fun self ih i1 Parts o N B I0 I Q Arrays1 p1 c p2 c1 b b1 b2 p4 c3 cs1 p9 c8 cs4 raws pN pB cN cB nl bl csB H h4 h h1 hRw hLP hN hBd hg ho hx=>yQ hg ho<|zZ<|yD<|yI [5] [40] rfl<|zI<|yC N ?_ ?_
 · intro hc1 N;refine pU 0 rfl ?_;intro immf lef hlf;have kB:=SL.of_frozen hlf lef hBd;have ⟨h4,h,h1,hN,hRw,hLP⟩:=m6 lef h4 h h1 hN hRw hLP;have H:=H.trans lef;have h14:=hLP.done hN kB;rw [← jZ hRw] at h14;have eP:vS p9 raws c8=vS p9 Parts c8:=by simp only [vS,hLP.2.1]
   rw [eP];clear hBd hlf;refine zS<|zY<|yG<|yD<|yE 3 [4] [44,45] rfl<|bE N fun x2 hy4 N=>xK rfl rfl h1 hy4 ?_;intro ad3 ccs4 hat3 hrep2;obtain ⟨p11,c10,p12,c11,rfl,h16,h17⟩:=wL hrep2;refine yE 5 [] [47] rfl<|xF 0 hat3 [vS p11 x2.Nest c10] (vS p11 x2.Nest c10) rfl<|bE N fun y hy5 N=>xP (zCP x2.Nest _ hy5 h16) ?_;rintro I04 hs2 v2 k2 le4 - ⟨v04,rfl,rfl,h18⟩ -;have ⟨h14,hRw,hLP,hN⟩:=m4 le4 h14 hRw hLP hN;replace kB:=kB.mono le4;have ⟨h4,h,h1,H⟩:=m4 le4 h4 h h1 H;obtain ⟨p13,c12,rfl⟩:=h18.form;refine yE 8 [] [50] rfl<|wY zTwo ?_;intro b5 hb5;refine xJ 0 [vS p13 y c12,z0] rfl<|yB rfl<|zY<|yF [7] rfl<|xW<|qW [(1,vP b 0),(2,vP b1 0),(3,vP b2 0),(5,vI i1),(6,vP b5 0),(7,vI 0)]<|dR zP fun h19=>?_;obtain ⟨o01,ho01,hMl1⟩:=zB N;refine zAe p i1 0 ([]:List zP) o01 ho01 iR h18 h14 h4 h h1 h19 (fun _ _ _ h=>hg _ _ _ h) (fun _ _ h=>ho _ _ h) ?_;intro I010 Body1 p15 c14 cs7 heq1 le10 h21;subst o01;have ⟨h18,hRw,hLP,hN⟩:=m4 le10 h18 hRw hLP hN;replace kB:=kB.mono le10;have ⟨h4,h,h1,H⟩:=m4 le10 h4 h h1 H;obtain ⟨l3,hy11,N⟩:=zB hMl1;have hy12:=zIX (l':=raws) (m':=[(⟨vS p13 y c12,vS p15 Body1 c14⟩:Raw2)]) hy11 hLP.2.1 rfl;have h40:RL I010 [vS p13 y c12,vS p15 Body1 c14] [(⟨vS p13 y c12,vS p15 Body1 c14⟩:Raw2)]:=⟨[vS p13 y c12,vS p15 Body1 c14],[],rfl,rfl,⟨rfl,rfl,rfl⟩,rfl⟩;refine zR<|zI<|zK<|qL 3 [4,1] [(78,vS p9 Parts c8),(79,vA [vS p13 y c12,vS p15 Body1 c14])]<|uN [vS p13 y c12,vS p15 Body1 c14] Raw2 ?_;intro b7 hb7;refine rX (α:=Raw2) 36 2 3 rfl rfl rfl hRw (.inr ⟨0,rfl⟩) h40 hy12 ?_;intro p29 c28 cs11 h41;exact sK (zX [1,3,4,5,6,7] (hs':=[hO zP (vS p15 Body1 c14) cs7,hO Raw2 (vS p29 (raws ++ [(⟨vS p13 y c12,vS p15 Body1 c14⟩:Raw2)]) c28) cs11,hO zF (vS p4 Arrays1 c3) cs1,hB b2 [vS p4 Arrays1 c3,vS p9 Parts c8],hB b1 zTwo,hB b (cProg p p1 c p2 c1)]))<|yE 6 [] [82] rfl<|xJ 3 [vS p4 Arrays1 c3,vS p29 (raws ++ [(⟨vS p13 y c12,vS p15 Body1 c14⟩:Raw2)]) c28] rfl<|yB rfl<|zO<|zI<|zK<|yI [] [5] rfl<|yO<|nF<|ih (W (i1 + 1)) l3 _ N H h4 h h1 h41 (hLP.push hN kB hy11) h18 h21 hg ho hx
 intro hc1 N;have:=zC N;simp only [id] at this;subst this;exact wJ<|xY (zW [0,1,2,3,4] rfl (by decide))<|yN<|hx _ _ _ _ _ _ _ _ _ _ _ _ H hRw hLP hN hBd
def zEF (r:zD):KT:=fun kk I' hs' v=>
  ∃ (a0:Option Addr) (c0:Nat) (s0:List Value) (a1:Option Addr) (c1:Nat) (s1:List Value) (raws:List Raw2) (pN pB:Option Addr) (cN cB:Nat) (nl:List zE) (bl:List zP) (csB:List Value),hs'=[hO zP (vS pB bl cB) csB,hO Raw2 (vS a1 raws c1) s1,hO zF (vS a0 r.Arrays c0) s0]∧v=tupV [vA [vS a0 r.Arrays c0,vS a1 raws c1]]∧RL I' s0 r.Arrays∧RL I' s1 raws∧LP I' raws r.Parts (vS pN nl cN) nl (vS pB bl cB) bl∧SL I' (vS pN nl cN) nl∧RL I' csB bl
theorem zFt:∀ (p:zD) r,qX p=some r→∀ {I:Imm}{p1 c p2 c1},(S4 I p1 p.Arrays c)→(S4 I p2 p.Parts c1)→RT 117 [vA (cProg p p1 c p2 c1)] I [] (zEF r):=by
 intro p r N I p1 c p2 c1 h h1;unfold qX at N;refine yL Tryz.func117 fun B=>yD<|tS (cProg p p1 c p2 c1) ?_;intro b hb;refine wY zTwo ?_;intro b1 hb1;refine yB rfl<|yX<|yE 1 [] [8] rfl<|wY zTwo ?_;intro b2 hb2;refine zB4 0 zTwo [hB b2 zTwo,hB b1 zTwo,hB b (cProg p p1 c p2 c1)] rfl rfl rfl rfl<|yB rfl<|zY<|yF [4] rfl<|xW<|qW [(1,vP b 0),(2,vP b1 0),(3,vP b2 0),(4,vI 0)]<|dR zF fun h2=>?_;obtain ⟨o0,ho0,hMl⟩:=zB N;refine zAd p 0 ([]:List zF) o0 ho0 iR h h1 h2 (fun _ _ _ h=>h) (fun _ _ h=>h) ?_;intro I03 Arrays1 p4 c3 cs1 heq le3 h4;subst o0;have ⟨h,h1⟩:=m2 le3 h h1;refine zR<|zY<|yF [5] rfl<|xW<|qW [(1,vP b 0),(2,vP b1 0),(3,vP b2 0),(5,vI 0)]<|jG (gI (Rp.sz Raw2))<|jG (gI (Rp.sz zP)) ?_;obtain ⟨o02,ho02,hMl2⟩:=zB hMl;refine zDZ p 0 ([]:List zN) o02 ho02 (raws:=[]) (pN:=none) (pB:=none) (cN:=0) (cB:=0) (nl:=[]) (bl:=[]) iR h4 h h1 RepL.nil LP.nil (SL.nil _) RepL.nil (fun _ _ _ h=>h) (fun _ _ h=>h) ?_;intro I012 p10 c9 cs5 raws1 pN pB cN cB nl bl csB le12 hRw hLP hN hBd;have h4:=iM le12 h4;obtain rfl:=zC hMl2;exact zR<|yX<|qL 1 [3] [(83,vA [vS p4 Arrays1 c3,vS p10 raws1 c9])]<|xJ 4 [vS p4 Arrays1 c3,vS p10 raws1 c9] rfl<|yB rfl<|xG<|xA ⟨_,_,(.cell 4 rfl rfl (by kernel_rfl) ResV.nil),(zW [0,1,2] rfl (by decide)),⟨_,_,_,_,_,_,_,_,_,_,_,_,_,_,rfl,rfl,h4,hRw,hLP,hN,hBd⟩⟩
theorem zLu {raws:List Raw2}{k:Nat}{r:Raw2} (h:raws[k]?=some r):raws.set k r=raws:=by
  obtain ⟨hk,e⟩:=List.getElem?_eq_some_iff.1 h;subst e;exact List.set_getElem_self hk
theorem zEG (r0:zM) (p1:zD) (r:zD×zM) (N:pP r0 p1=some r) {y:zD}{y3:zM}{x:zN}{s:zP} (hy:qX p1=some y) (hy1:yZ r0 60=some (3,y3)) (hx:idx y.Parts (W ((y.Parts.length:Int) - 1))=some x) (hs:idx x.Body 0=some s) :
    ∀ {I:Imm}{r01:Nat}{p c p2 c1 p3 c2},(S4 I p r0.b c)→(S4 I p2 p1.Arrays c1)→(S4 I p3 p1.Parts c2)→RT 58 [vP r01 0,vA (cProg p1 p2 c1 p3 c2)] I [hB r01 (cRd r0 p c)] (fS r01 r):=by
 intro I r01 p c p2 c1' p3 c2 h h1 h2
 obtain ⟨i0,i1,i2⟩:=rZ hx
 obtain ⟨j0,j1,j2⟩:=rZ hs
 have hn:(y.Parts.length:Int) > 0:=by
   have:=(List.getElem?_eq_some_iff.1 i2).1; omega
 have hb:(x.Body.length:Int) > 0:=by
   have:=(List.getElem?_eq_some_iff.1 j2).1; omega
 have e0:((3:Int) == 0)=false:=rfl
 have e1:((3:Int) == 1)=false:=rfl
 have e2:((3:Int) == 2)=false:=rfl
 have e3:((3:Int) == 3)=true:=rfl
 unfold pP at N
 simp only [hy,hy1,e0,e1,e2,e3,hn,hb,hx,hs,decide_true,if_true,Bool.false_eq_true,if_false,Option.pure_def,Option.bind_eq_bind,Option.bind_some] at N
 cases hm1:sR y3 s with
 | none=>rw [hm1] at N; cases N
 | some q1 =>
 obtain ⟨y22,y23⟩:=q1
 simp only [hm1,Option.bind_some] at N
 cases hm2:sR y23 y22 with
 | none=>rw [hm2] at N; cases N
 | some q2 =>
 obtain ⟨y24,y25⟩:=q2
 simp only [hm2,Option.bind_some] at N
 cases hm3:sR y25 y24 with
 | none=>rw [hm3] at N; cases N
 | some q3 =>
 obtain ⟨y26,y27⟩:=q3
 simp only [hm3,Option.bind_some,Option.some.injEq] at N
 subst N
 refine yL Tryz.func58 fun B=>yD<|tS [vS p2 p1.Arrays c1',vS p3 p1.Parts c2] ?_
 intro b hb
 refine wY zTwo ?_
 intro b1 hb1
 refine yB rfl<|yX<|qL 1 [1] [(7,vA [vS p2 p1.Arrays c1',vS p3 p1.Parts c2])]<|xP (zFt p1 _ hy h1 h2) ?_
 rintro I0 hs2 v2 k2 le - ⟨a0,c0,s0,a1,c1,s1,raws,pN,pB,cN,cB,nl,bl,csB,rfl,rfl,h3,hRw,hLP,hN,hBd⟩ -
 have h:=h.mono le
 clear h1 h2
 rw [hLP.len] at hx hn i0 i1 i2
 obtain ⟨rfl,hraw,hset⟩:=hLP.last hx
 simp only at hs hb j0 j1 j2 hm1
 have hset:=hset (vS pN nl cN) nl (vS pB bl cB) (bl.set 0 y26)
 rw [zLu (rZ hraw).2.2] at hset
 refine wY zTwo ?_
 intro b2 hb2
 refine xJ 0 [vS a0 y.Arrays c0,vS a1 raws c1] rfl<|yB rfl<|yX<|yI [0] [6] rfl<|zY<|yD<|yE 1 [] [12] rfl<|sK (zX [6,1,2,0,3,4] (hs':=[hB r01 (cRd r0 p c),hO zP (vS pB bl cB) csB,hO Raw2 (vS a1 raws c1) s1,hB b2 [vS a0 y.Arrays c0,vS a1 raws c1],hO zF (vS a0 y.Arrays c0) s0,hB b1 zTwo]))<|sJ (xQ r0 60 _ hy1 h) rfl ?_
 rintro I01 hs2 v2 k2 le1 - ⟨v0,kk,rfl,rfl,rfl,h6⟩ -
 obtain ⟨v01,rfl,h7⟩:=fR h6
 obtain ⟨p6,c5,rfl⟩:=h7.form
 clear h6 h
 have h3:=iM le1 h3
 have hRw:=iM le1 hRw
 have hN:=hN.mono le1
 have hBd:=iM le1 hBd
 have hset:=hset.mono le1
 refine yB rfl<|xW<|yF [14] rfl<|zI<|zAF rfl<|yF [29] rfl<|zI<|zAF rfl<|yF [43] rfl<|zI<|zAF rfl<|yF [62] rfl<|zI<|zCI rfl<|yD<|yE 3 [] [66] rfl ?_
 rw [decide_eq_true hn]
 refine yE 7 [3] [68,70] rfl<|nV (α:=Raw2) 2 rfl rfl rfl hRw hraw ?_
 intro ad ccs hat hcc hrep
 obtain ⟨rfl,o1,o2⟩:=hrep
 refine yE 9 [] [72] rfl<|zB3 2 1 hat hcc [vS pB bl cB] (vS pB bl cB) rfl rfl<|yI [] [76] rfl ?_
 rw [decide_eq_true hb]
 refine zI<|zCI rfl<|qW [(0,vP r01 0),(4,vP b1 0),(5,vP b2 0),(6,vI (raws.length:Int))]<|wK [.p (vP b2 1) [],.p (vS a1 raws c1) [2],.p (vI (raws.length:Int)) [],.p (vI (W ((raws.length:Int) - 1))) [],.x (fun I' v hx'=>∃ ad,v=.pointer (some ad)∧hx'=[]∧AtO (vS a1 raws c1) 2 (W ((raws.length:Int) - 1)).toNat ad),.x (fun I' v hx'=>∃ ad,v=.pointer (some (ad.add 1))∧hx'=[]∧AtO (vS a1 raws c1) 2 (W ((raws.length:Int) - 1)).toNat ad),.x (fun I' v hx'=>v=vS pB bl cB∧hx'=[]),.p (vP r01 0) [],.p (vP r01 0) [],.p (vP r01 0) [],.p (vP b2 1) [],.p (vS a1 raws c1) [2],.p (vI (raws.length:Int)) [],.p (vI (W ((raws.length:Int) - 1))) [],.x (fun I' v hx'=>∃ ad,v=.pointer (some ad)∧hx'=[]∧AtO (vS a1 raws c1) 2 (W ((raws.length:Int) - 1)).toNat ad),.x (fun I' v hx'=>∃ ad,v=.pointer (some (ad.add 1))∧hx'=[]∧AtO (vS a1 raws c1) 2 (W ((raws.length:Int) - 1)).toNat ad),.x (fun I' v hx'=>v=vS pB bl cB∧hx'=[]),.x (fun I' v hx'=>∃ ad,v=.pointer (some ad)∧hx'=[]∧AtO (vS pB bl cB) 9 0 ad),.x (fun I' v hx'=>∃ cs9,v=.agg ⟨cs9⟩∧hx'=[]∧Rp.rep I' cs9 s),.x (fun I' v hx'=>∃ (cs9 kk:List Value),v=.agg ⟨cs9⟩∧hx'=[hB r01 kk]∧Rp.rep I' cs9 y22∧Rp.rep I' kk y23),.x (fun I' v hx'=>∃ (cs9 kk:List Value),v=.agg ⟨cs9⟩∧hx'=[hB r01 kk]∧Rp.rep I' cs9 y24∧Rp.rep I' kk y25),.x (fun I' v hx'=>∃ (cs9 kk:List Value),v=.agg ⟨cs9⟩∧hx'=[hB r01 kk]∧Rp.rep I' cs9 y26∧Rp.rep I' kk y27)] [[],[(0,false)],[],[(2,false)],[(1,false),(3,false)],[(4,false)],[(5,false)],[],[],[],[],[(10,false)],[],[(12,false)],[(11,false),(13,false)],[(14,false)],[(15,false)],[(16,false)],[(17,false)],[(9,false),(18,false),(24,true)],[(8,false),(19,true)],[(7,false),(20,true)]] [hO zP (vS pB bl cB) csB,hO Raw2 (vS a1 raws c1) s1,hB b2 [vS a0 y.Arrays c0,vS a1 raws c1],hO zF (vS a0 y.Arrays c0) s0,hB b1 zTwo] [[hB r01 (cRd y3 p6 c5)]] [(6,false),(21,true)] (zX [1,2,3,4,5,0]) ?_ ?_
 · refine Op<|Op<|Op<|Op<|Ox ?_<|Ox ?_<|Ox ?_<|Op<|Op<|Op<|Op<|Op<|Op<|Op<|Ox ?_<|Ox ?_<|Ox ?_<|Ox ?_<|Ox ?_<|Ox ?_<|Ox ?_<|Ox ?_<|On
   · intro I1 hf le1
     refine wA ?_
     rintro _ _ ⟨rfl,rfl⟩
     refine wA ?_
     rintro _ _ ⟨rfl,rfl⟩
     refine mG<|zBw [(78,vS a1 raws c1),(80,vI (W ((raws.length:Int) - 1)))]<|nV (α:=Raw2) 1 rfl rfl rfl (iM le1 hRw) hraw ?_
     intro ad ccs hat hcc hrep
     exact yK [] iR ⟨_,rfl,rfl,hat⟩
   · intro I1 hf le1
     refine wA ?_
     rintro _ _ ⟨ad,rfl,rfl,hat⟩
     exact mG<|zBw [(81,.pointer (some ad))]<|oY 6 [(82,.pointer (some (ad.add 1)))]<|yK [] iR ⟨_,rfl,rfl,hat⟩
   · intro I1 hf le1
     refine wA ?_
     rintro _ _ ⟨ad,rfl,rfl,hat⟩
     refine mG<|zBw [(82,.pointer (some (ad.add 1)))] ?_
     have hrep:=hRw.at (rZ hraw).2.2
     obtain ⟨⟨hcc,o1,o2⟩,_⟩:=hrep
     exact zB3 1 1 hat hcc [vS pB bl cB] (vS pB bl cB) rfl rfl<|xE iR
   · intro I1 hf le1
     refine wA ?_
     rintro _ _ ⟨rfl,rfl⟩
     refine wA ?_
     rintro _ _ ⟨rfl,rfl⟩
     refine mG<|zBw [(88,vS a1 raws c1),(90,vI (W ((raws.length:Int) - 1)))]<|nV (α:=Raw2) 1 rfl rfl rfl (iM le1 hRw) hraw ?_
     intro ad ccs hat hcc hrep
     exact yK [] iR ⟨_,rfl,rfl,hat⟩
   · intro I1 hf le1
     refine wA ?_
     rintro _ _ ⟨ad,rfl,rfl,hat⟩
     exact mG<|zBw [(91,.pointer (some ad))]<|oY 16 [(92,.pointer (some (ad.add 1)))]<|yK [] iR ⟨_,rfl,rfl,hat⟩
   · intro I1 hf le1
     refine wA ?_
     rintro _ _ ⟨ad,rfl,rfl,hat⟩
     refine mG<|zBw [(92,.pointer (some (ad.add 1)))] ?_
     have hrep:=hRw.at (rZ hraw).2.2
     obtain ⟨⟨hcc,o1,o2⟩,_⟩:=hrep
     exact zB3 1 1 hat hcc [vS pB bl cB] (vS pB bl cB) rfl rfl<|xE iR
   · intro I1 hf le1
     refine wA ?_
     rintro _ _ ⟨rfl,rfl⟩
     refine mG<|zBw [(93,vS pB bl cB)]<|nV (α:=zP) 0 rfl rfl rfl (iM le1 hBd) hs ?_
     intro ad ccs hat hcc hrep
     exact yK [] iR ⟨_,rfl,rfl,hat⟩
   · intro I1 hf le1
     refine wA ?_
     rintro _ _ ⟨ad,rfl,rfl,hat⟩
     refine mG<|zBw [(94,.pointer (some ad))] ?_
     obtain ⟨hrep,_⟩:=(iM le1 hBd).at j2
     generalize hcc:(csB.drop (Int.toNat 0 * Rp.sz zP)).take (Rp.sz zP)=cc at hrep
     obtain ⟨w0,w1,w2,w3,rfl,e10,e11,e12,e13⟩:=nA hrep
     obtain ⟨p10,c10,rfl⟩:=e10.form
     obtain ⟨p11,c11,rfl⟩:=e11.form
     obtain ⟨p12,c12,rfl⟩:=e12.form
     obtain ⟨p13,c13,rfl⟩:=e13.form
     exact zB3 0 0 hat hcc (cStmt s p10 c10 p11 c11 p12 c12 p13 c13) (vA (cStmt s p10 c10 p11 c11 p12 c12 p13 c13)) rfl rfl<|yK [] iR ⟨_,rfl,rfl,wU ⟨_,_,_,_,rfl,e10,e11,e12,e13⟩⟩
   · intro I1 hf le1
     refine wA ?_
     rintro _ _ ⟨rfl,rfl⟩
     refine wA ?_
     rintro _ _ ⟨cs9,rfl,rfl,h9⟩
     refine wA ?_
     rintro _ _ rfl
     obtain ⟨w0,w1,w2,w3,rfl,e10,e11,e12,e13⟩:=nA h9
     obtain ⟨p10,c10,rfl⟩:=e10.form
     obtain ⟨p11,c11,rfl⟩:=e11.form
     obtain ⟨p12,c12,rfl⟩:=e12.form
     obtain ⟨p13,c13,rfl⟩:=e13.form
     refine mG<|zBw [(86,vP r01 0),(95,vA (cStmt s p10 c10 p11 c11 p12 c12 p13 c13))]<|sJ (eV y3 s _ hm1 (h7.mono le1) e10 e11 e12 e13) rfl ?_
     rintro I02 hs2 v2 k2 le2 - ⟨v0,kk2,rfl,rfl,⟨cs2,rfl,h10⟩,h11⟩ -
     exact yK [hB r01 kk2] le2 ⟨_,_,rfl,rfl,h10,h11⟩
   · intro I1 hf le1
     refine wA ?_
     rintro _ _ ⟨rfl,rfl⟩
     refine wA ?_
     rintro _ _ ⟨cs9,kk,rfl,rfl,h9,hk⟩
     obtain ⟨w0,w1,w2,w3,rfl,e10,e11,e12,e13⟩:=nA h9
     obtain ⟨p10,c10,rfl⟩:=e10.form
     obtain ⟨p11,c11,rfl⟩:=e11.form
     obtain ⟨p12,c12,rfl⟩:=e12.form
     obtain ⟨p13,c13,rfl⟩:=e13.form
     obtain ⟨w4,rfl,hsl⟩:=fR hk
     obtain ⟨p8,c8,rfl⟩:=hsl.form
     refine mG<|zBw [(85,vP r01 0),(96,vA (cStmt y22 p10 c10 p11 c11 p12 c12 p13 c13))]<|sJ (eV y23 y22 _ hm2 (hsl) e10 e11 e12 e13) rfl ?_
     rintro I02 hs2 v2 k2 le2 - ⟨v0,kk2,rfl,rfl,⟨cs2,rfl,h10⟩,h11⟩ -
     exact yK [hB r01 kk2] le2 ⟨_,_,rfl,rfl,h10,h11⟩
   intro I1 hf le1
   refine wA ?_
   rintro _ _ ⟨rfl,rfl⟩
   refine wA ?_
   rintro _ _ ⟨cs9,kk,rfl,rfl,h9,hk⟩
   obtain ⟨w0,w1,w2,w3,rfl,e10,e11,e12,e13⟩:=nA h9
   obtain ⟨p10,c10,rfl⟩:=e10.form
   obtain ⟨p11,c11,rfl⟩:=e11.form
   obtain ⟨p12,c12,rfl⟩:=e12.form
   obtain ⟨p13,c13,rfl⟩:=e13.form
   obtain ⟨w4,rfl,hsl⟩:=fR hk
   obtain ⟨p8,c8,rfl⟩:=hsl.form
   refine mG<|zBw [(84,vP r01 0),(97,vA (cStmt y24 p10 c10 p11 c11 p12 c12 p13 c13))]<|sJ (eV y25 y24 _ hm3 (hsl) e10 e11 e12 e13) rfl ?_
   rintro I02 hs2 v2 k2 le2 - ⟨v0,kk2,rfl,rfl,⟨cs2,rfl,h10⟩,h11⟩ -
   exact yK [hB r01 kk2] le2 ⟨_,_,rfl,rfl,h10,h11⟩
 intro I5 le5
 refine wA ?_
 rintro _ _ ⟨rfl,rfl⟩
 refine wA ?_
 rintro _ _ ⟨cs9,kk,rfl,rfl,h9,hk⟩
 obtain ⟨w0,w1,w2,w3,rfl,e10,e11,e12,e13⟩:=nA h9
 obtain ⟨p10,c10,rfl⟩:=e10.form
 obtain ⟨p11,c11,rfl⟩:=e11.form
 obtain ⟨p12,c12,rfl⟩:=e12.form
 obtain ⟨p13,c13,rfl⟩:=e13.form
 have h3:=iM le5 h3
 have hRw:=iM le5 hRw
 have hN:=hN.mono le5
 have hBd:=iM le5 hBd
 have hset:=hset.mono le5
 refine mG<|zBw [(4,vP b1 0),(5,vP b2 0),(83,vS pB bl cB),(98,vA (cStmt y26 p10 c10 p11 c11 p12 c12 p13 c13))]<|nV (α:=zP) 1 rfl rfl rfl hBd hs ?_
 intro ad ccs hat hcc hrep
 obtain ⟨w0,w1,w2,w3,rfl,e20,e21,e22,e23⟩:=nA hrep
 obtain ⟨p20,c20,rfl⟩:=e20.form
 obtain ⟨p21,c21,rfl⟩:=e21.form
 obtain ⟨p22,c22,rfl⟩:=e22.form
 obtain ⟨p23,c23,rfl⟩:=e23.form
 refine rG (c:=(cStmt y26 p10 c10 p11 c11 p12 c12 p13 c13)) (x':=y26) 1 0 rfl rfl rfl hat rfl rfl hcc (by kernel_rfl) (by kernel_rfl) (by kernel_rfl) hBd hs (by kernel_rfl) (wU ⟨_,_,_,_,rfl,e10,e11,e12,e13⟩) ?_
 intro cs7 h7' hlen
 refine vK (hs':=[hB r01 kk,hO zP (vS pB bl cB) cs7,hO Raw2 (vS a1 raws c1) s1,hB b2 [vS a0 y.Arrays c0,vS a1 raws c1],hO zF (vS a0 y.Arrays c0) s0,hB b1 zTwo]) rfl<|xO 1 rfl ?_
 intro I6 le6 hl6
 have eB:vS pB bl cB=vS pB (bl.set 0 y26) cB:=by simp [vS]
 have kB:SL I6 (vS pB (bl.set 0 y26) cB) (bl.set 0 y26):=by
   rw [← eB]
   exact SL.of_frozen (l:=bl.set 0 y26) hl6 le6 h7'
 rw [eB] at hset
 have hdone:=(hset.mono le6).done (hN.mono le6) kB
 have eS:=jZ hRw
 rw [← eS] at hdone
 have h3:=iM le6 h3
 have hk:=Rp.mono le6 hk
 have eP:vS a1 raws c1=vS a1 (y.Parts.set (W ((raws.length:Int) - 1)).toNat ⟨nl,bl.set 0 y26⟩) c1:=by simp only [vS,List.length_set,hLP.2.1]
 refine vK (hs':=[hB r01 kk,hO Raw2 (vS a1 raws c1) s1,hB b2 [vS a0 y.Arrays c0,vS a1 raws c1],hO zF (vS a0 y.Arrays c0) s0,hB b1 zTwo]) rfl<|yB rfl<|zO<|yX<|qL 1 [2] [(110,vA [vS a0 y.Arrays c0,vS a1 raws c1])]<|xJ 4 [vS a0 y.Arrays c0,vS a1 raws c1] rfl<|yB rfl<|xG<|yV 1 rfl ?_
 intro I7 le7 hl7
 have k1:SL I7 (vS a1 raws c1) (y.Parts.set (W ((raws.length:Int) - 1)).toNat ⟨nl,bl.set 0 y26⟩):=SL.of_frozen (l:=y.Parts.set (W ((raws.length:Int) - 1)).toNat ⟨nl,bl.set 0 y26⟩) hl7 le7 hdone
 refine yV 2 rfl ?_
 intro I8 le8 hl8
 have k2:=SL.of_frozen hl8 le8 (iM le7 h3)
 rw [hLP.len]
 exact xA ⟨_,_,(.cell 2 rfl rfl (by kernel_rfl) ResV.nil),(zW [0] rfl (by decide)),⟨_,_,rfl,rfl,⟨_,rfl,(uB ⟨_,_,rfl,k2,k1.mono le8⟩)⟩,Rp.mono le8 (Rp.mono le7 hk)⟩⟩
theorem zFH:∀ r0 p1 r,pP r0 p1=some r→∀ {I:Imm}{r01:Nat}{p c p2 c1 p3 c2},(S4 I p r0.b c)→(S4 I p2 p1.Arrays c1)→(S4 I p3 p1.Parts c2)→RT 58 [vP r01 0,vA (cProg p1 p2 c1 p3 c2)] I [hB r01 (cRd r0 p c)] (fS r01 r):=by
 intro r0 p1 r N I r01 p c p2 c1 p3 c2 h h1 h2;by_cases hq:∃ y y3 x s,qX p1=some y∧yZ r0 60=some (3,y3)∧idx y.Parts (W ((y.Parts.length:Int) - 1))=some x∧idx x.Body 0=some s
 · obtain ⟨y,y3,x,s,e1,e2,e3,e4⟩:=hq;exact zEG r0 p1 r N e1 e2 e3 e4 h h1 h2
 refine zEE r0 p1 r N h h1 h2 ?_;intro y y2 y3 x s e1 e2 e3 e4 e5;obtain rfl:=eq_of_beq e3;exact hq ⟨y,y3,x,s,e1,e2,e4,e5⟩
def zU (r:Bool):KT:=fun kk I' hs' v=>
  ∃ v0,hs'=[]∧v=tupV [v0]∧v0=.bool r
def vL (x:zF) (k0:Int):Option (Out Unit (Bool)):=do
 if (decide (k0 < (x.Dims.length:Int))) then
  let t77←(do
    let x2←idx x.Dims k0
    if (decide (x2 < 1)) then
     pure true
    else
     let x3←idx x.Dims k0
     pure (decide (x3 > 6))
      : Option Bool)
  if t77 then
   pure (.ret false)
  else
   vL x (W (k0 + 1))
 else
  pure (.done ())
 partial_fixpoint
theorem zCt (x:zF):∀ (k0:Int) (o:Out Unit (Bool)),vL x k0=some o→∀ {B}{I0 I:Imm}{Q}{list:(List zF)}{i:Int}{p c p1 c1}{b:Nat},I0.le I→(S4 I p list c)→(S4 I p1 x.Dims c1)→NG Q→NO Q→(∀ (I':Imm) ,o=(.done ())→I0.le I'→T 81 B Q (.exit 2) I' [] [(0,vS p list c),(3,vI i)])→(∀ r I' hs' m',o=(.ret r)→I0.le I'→RS Tryz.prog Tryz.f144 B (zU  r) I' hs' m'→T 81 B Q .ret I' hs' m')→J Tryz.prog 81 B (nav (bodyOf Tryz.f144) [1,0,1,0,0,1,0,0,1,1,1,0]) Q I [hB b (cArr x p1 c1)] [(0,vS p list c),(3,vI i),(4,vP b 0),(5,vI k0)]:=by
 refine vL.partial_correctness x _ fun self ih k0 o N B I0 I Q list i p c p1 c1 b H h h1 hg ho hx hr=>yQ hg ho<|zZ<|yD<|yI [0] [61] rfl<|zI<|yC N ?_ ?_
 · intro hc9 N;refine zS<|zY<|yG<|zZ ?_;refine wT N [hB b (cArr x p1 c1)] (fun t77=>[(0,vS p list c),(3,vI i),(4,vP b 0),(5,vI k0),(77,.bool t77)]) (fun o01 ho01=>?_) ?_
   · have H:=iS I;refine zK<|yE 3 [0] [65,66] rfl ?_;obtain ⟨x2,hy2,N⟩:=zB ho01;refine xK rfl rfl h1 hy2 ?_;intro ad2 ccs2 hat2 hrep2;obtain rfl:=hrep2;refine xF 0 hat2 [vI x2] (vI x2) rfl<|yE 7 [] [70] rfl<|xZ [70] N ?_ ?_
     · intro hc10 N;exact wI [] [(77,vY)]<|yN<|zT (ct N H)
     intro hc10 N;refine yE 10 [0] [72,73] rfl<|bE N fun x3 hy3 N=>xK rfl rfl h1 hy3 ?_;intro ad3 ccs3 hat3 hrep3;obtain rfl:=hrep3;exact xF 0 hat3 [vI x3] (vI x3) rfl<|yI [] [77] rfl<|yN<|zT (ct N H)
   intro t77 I01 le1 hMc1;have ⟨h,h1,H⟩:=m3 le1 h h1 H;refine zI<|yC hMc1 ?_ ?_
   · intro hc11 N;exact vJ [(2,vF)]<|xG<|zV<|zG<|zG<|hr _ _ _ _ (zC N).symm H ⟨_,_,(.tmp rfl ResV.nil),zQ,⟨_,rfl,rfl,rfl⟩⟩
   intro hc11 N;exact zS<|zO<|zI<|zK<|yI [] [5] rfl<|yO<|nF<|ih (W (k0 + 1)) _ N H h h1 hg ho hx hr
 intro hc9 N;exact wJ<|xY zQ<|yN<|hx _  (zC N).symm H
def uI (list:(List zF)) (i:Int):Option (Out Unit (Bool)):=do
 if (decide (i < (list.length:Int))) then
  let x←idx list i
  let t56←(do
    if ((x.Name.l.length:Int) != 1) then
     pure true
    else
     if (Op.bytesLess x.Name.l ([65]:List UInt8)) then
      pure true
     else
      if (!(Op.bytesLess x.Name.l ([68]:List UInt8) || x.Name.l == ([68]:List UInt8))) then
       pure true
      else
       if (decide (i > 0)) then
        let x1←idx list (W (i - 1))
        if (!(Op.bytesLess x1.Name.l x.Name.l)) then
         pure true
        else
         if (decide ((x.Dims.length:Int) < 1)) then
          pure true
         else
          pure (decide ((x.Dims.length:Int) > 2))
       else
        if (decide ((x.Dims.length:Int) < 1)) then
         pure true
        else
         pure (decide ((x.Dims.length:Int) > 2))
      : Option Bool)
  if t56 then
   pure (.ret false)
  else
   match←vL x 0 with
   | .ret r0=>pure (.ret r0)
   | .done _ =>
    uI list (W (i + 1))
 else
  pure (.done ())
 partial_fixpoint
theorem zCu (list:(List zF)):∀ (i:Int) (o:Out Unit (Bool)),uI list i=some o→∀ {B}{I0 I:Imm}{Q p c},I0.le I→(S4 I p list c)→NG Q→NO Q→(∀ (I':Imm) ,o=(.done ())→I0.le I'→T 81 B Q (.exit 0) I' [] [(0,vS p list c)])→(∀ r I' hs' m',o=(.ret r)→I0.le I'→RS Tryz.prog Tryz.f144 B (zU  r) I' hs' m'→T 81 B Q .ret I' hs' m')→J Tryz.prog 81 B (nav (bodyOf Tryz.f144) [1,0,1,0]) Q I [] [(0,vS p list c),(3,vI i)]:=by
 refine uI.partial_correctness list _ fun self ih i o N B I0 I Q p c H h hg ho hx hr=>yQ hg ho<|zZ<|yF [9] rfl<|zI<|yC N ?_ ?_
 · intro hc N;refine zS<|zY<|yG<|yD<|yE 2 [] [12,13] rfl<|bE N fun x hy N=>xK rfl rfl h hy ?_;intro ad ccs hat hrep;obtain ⟨p1,c1,rfl,h1⟩:=wO hrep;refine xF 0 hat (cArr x p1 c1) (vA (cArr x p1 c1)) rfl<|wY [vT ([]),z0] ?_;intro b hb;refine xJ 0 (cArr x p1 c1) rfl<|yB rfl<|zY<|zZ ?_;refine wT N [hB b (cArr x p1 c1)] (fun t56=>[(0,vS p list c),(3,vI i),(4,vP b 0),(56,.bool t56)]) (fun o0 ho0=>?_) ?_
   · have H:=iS I;refine kF (by kernel_rfl) (by kernel_rfl)<|fX 5 [0] [20] rfl<|zGh [20] ho0 ?_ ?_
     · intro hc1 N;exact zJz [] [(56,vY)]<|yN<|zT (ct N H)
     intro hc1 N;refine fX 10 [0] [25] rfl<|zGh [25] N ?_ ?_
     · intro hc2 N;exact zJz [] [(56,vY)]<|yN<|zT (ct N H)
     intro hc2 N;refine fX 15 [0] [30] rfl<|zGh [30] N ?_ ?_
     · intro hc3 N;exact zJz [] [(56,vY)]<|yN<|zT (ct N H)
     intro hc3 N;refine fX 18 [] [33] rfl<|zGh [33] N ?_ ?_
     · intro hc4 N;refine fX 21 [] [34,36] rfl<|bE N fun x1 hy1 N=>dK rfl rfl h hy1 ?_;intro ad1 ccs1 hat1 hrep1;obtain ⟨p2,c2,rfl,h2⟩:=wO hrep1;refine fX 23 [] [38] rfl<|fZ 0 hat1 [vT x1.Name.l] (vT x1.Name.l) rfl<|fX 30 [0] [45] rfl<|zGh [45] N ?_ ?_
       · intro hc5 N;exact zJz [] [(56,vY)]<|yN<|zT (ct N H)
       intro hc5 N;refine fX 36 [0] [51] rfl<|zGh [51] N ?_ ?_
       · intro hc6 N;exact zJz [] [(56,vY)]<|yN<|zT (ct N H)
       intro hc6 N;exact zGg [0] [56] rfl<|yN<|zT (ct N H)
     intro hc4 N;refine fX 36 [0] [51] rfl<|zGh [51] N ?_ ?_
     · intro hc7 N;exact zJz [] [(56,vY)]<|yN<|zT (ct N H)
     intro hc7 N;exact zGg [0] [56] rfl<|yN<|zT (ct N H)
   intro t56 I0 le hMc;have ⟨h,h1,H⟩:=m3 le h h1 H;refine zI<|yC hMc ?_ ?_
   · intro hc8 N;exact vJ [(2,vF)]<|xG<|zG<|zV<|zG<|zG<|hr _ _ _ _ (zC N).symm H ⟨_,_,(.tmp rfl ResV.nil),zQ,⟨_,rfl,rfl,rfl⟩⟩
   intro hc8 N;refine zS<|wH [5] rfl<|xW<|qW [(0,vS p list c),(3,vI i),(4,vP b 0),(5,vI 0)] ?_;obtain ⟨o02,ho02,hMl⟩:=zB N;refine zCt x 0 o02 ho02 iR h h1 (fun _ _ _ h=>hg _ _ _ h) (fun _ _ h=>ho _ _ h) ?_ ?_
   · intro I02  heq2 le2;subst o02;have ⟨h,H⟩:=m2 le2 h H;exact zR<|zO<|zI<|zK<|yI [] [3] rfl<|yO<|nF<|ih (W (i + 1)) _ hMl H h hg ho hx hr
   intro r0 I9 hs9 m9 heq9 le9 hrs9;subst heq9;exact zV<|zV<|zG<|zG<|hr _ _ _ _ (zC hMl).symm (H.trans le9) hrs9
 intro hc N;exact wJ<|yN<|hx _  (zC N).symm H
def nJ (list:(List zF)):Option (Bool):=do
 match←uI list 0 with
 | .ret r0=>pure r0
 | .done _ =>
  pure (decide ((list.length:Int) ≤ 4))
theorem zFI:∀ list r,nJ list=some r→∀ {I:Imm}{p c},(S4 I p list c)→RT 144 [vS p list c] I [] (zU  r):=by
 intro list r N I p c h;unfold nJ at N;refine yL Tryz.func144 fun B=>vJ []<|zY<|yF [3] rfl<|xW<|qW [(0,vS p list c),(3,vI 0)] ?_;obtain ⟨o03,ho03,hMl1⟩:=zB N;refine zCu list 0 o03 ho03 iR h (fun _ _ _ h=>h) (fun _ _ h=>h) ?_ ?_
 · intro I03  heq3 le3;subst o03;refine zR<|wH [2] rfl<|zI<|yW ?_;obtain rfl:=zC hMl1;exact wM
 intro r0 I9 hs9 m9 heq9 le9 hrs9;subst heq9;refine zV<|zG ?_;obtain rfl:=zC hMl1;exact xA hrs9
def vX (n0:Int) (most:Int):Option (Bool):=do
 let t4←(do
   if (decide (n0 ≥ (W (0 - most)))) then
    pure (decide (n0 ≤ most))
   else
    pure false
     : Option Bool)
 pure (id t4)
theorem eY:∀ n0 most r,vX n0 most=some r→∀ {I:Imm} ,RT 207 [vI n0,vI most] I [] (zU  r):=by
 intro n0 most r N I;unfold vX at N;refine yL Tryz.func207 fun B=>?_;have H:=iS I;refine vJ []<|zI<|zZ ?_;refine wT N [] (fun t4=>[(4,.bool t4)]) (fun o0 ho0=>?_) ?_
 · have H:=iS I;refine zK<|yE 5 [] [9] rfl<|xZ [9] ho0 ?_ ?_
   · intro hc N;exact yI [] [4] rfl<|yN<|zT (ct N H)
   intro hc N;exact wI [] [(4,vF)]<|yN<|zT (ct N H)
 intro t4 I0 le hMc;refine zI<|yW ?_;obtain rfl:=zC hMc;exact wM
def wP (a0:zA) (i:Int):Option (Out Unit (Bool)):=do
 if (decide (i < (a0.Coefs.length:Int))) then
  let x←idx a0.Coefs i
  let y←vX x 9
  if (!y) then
   pure (.ret false)
  else
   wP a0 (W (i + 1))
 else
  pure (.done ())
 partial_fixpoint
theorem zB7 (a0:zA):∀ (i:Int) (o:Out Unit (Bool)),wP a0 i=some o→∀ {B}{I0 I:Imm}{Q p c}{b:Nat},I0.le I→(S4 I p a0.Coefs c)→NG Q→NO Q→(∀ (I':Imm) ,o=(.done ())→I0.le I'→T 27 B Q (.exit 0) I' [hB b (cAff a0 p c)] [(1,vP b 0)])→(∀ r I' hs' m',o=(.ret r)→I0.le I'→RS Tryz.prog Tryz.f163 B (zU  r) I' hs' m'→T 27 B Q .ret I' hs' m')→J Tryz.prog 27 B (nav (bodyOf Tryz.f163) [1,0,1,0]) Q I [hB b (cAff a0 p c)] [(1,vP b 0),(3,vI i)]:=by
 refine wP.partial_correctness a0 _ fun self ih i o N B I0 I Q p c b H h hg ho hx hr=>yQ hg ho<|zZ<|yD<|yI [0] [8] rfl<|zI<|yC N ?_ ?_
 · intro hc N;refine zS<|zY<|yG<|yD<|yE 3 [0] [12,13] rfl<|bE N fun x hy N=>xK rfl rfl h hy ?_;intro ad ccs hat hrep;obtain rfl:=hrep;refine xF 0 hat [vI x] (vI x) rfl<|bE N fun y hy1 N=>uH (eY x 9 _ hy1 ) ?_;intro I0 le;have ⟨h,H⟩:=m2 le h H;refine yI [] [17] rfl<|zI<|yC N ?_ ?_
   · intro hc1 N;exact vJ [(2,vF)]<|xG<|zV<|zG<|zG<|hr _ _ _ _ (zC N).symm H ⟨_,_,(.tmp rfl ResV.nil),zQ,⟨_,rfl,rfl,rfl⟩⟩
   intro hc1 N;exact zS<|zO<|zI<|zK<|yI [] [3] rfl<|yO<|nF<|ih (W (i + 1)) _ N H h hg ho hx hr
 intro hc N;exact wJ<|yN<|hx _  (zC N).symm H
def uJ (a0:zA):Option (Bool):=do
 match←wP a0 0 with
 | .ret r0=>pure r0
 | .done _ =>
  let t2←(do
    if ((a0.Coefs.length:Int) == 4) then
     let y1←vX a0.Const 99
     pure (id y1)
    else
     pure false
      : Option Bool)
  pure (id t2)
theorem kS:∀ a0 r,uJ a0=some r→∀ {I:Imm}{p c},(S4 I p a0.Coefs c)→RT 163 [vA (cAff a0 p c)] I [] (zU  r):=by
 intro a0 r N I p c h;unfold uJ at N;refine yL Tryz.func163 fun B=>?_;have H:=iS I;refine yD<|tS (cAff a0 p c) ?_;intro b hb;refine wI [] []<|zY<|yF [3] rfl<|xW<|qW [(1,vP b 0),(3,vI 0)] ?_;obtain ⟨o0,ho0,hMl⟩:=zB N;refine zB7 a0 0 o0 ho0 iR h (fun _ _ _ h=>h) (fun _ _ h=>h) ?_ ?_
 · intro I01  heq le1;subst o0;have H:=H.trans le1;refine zR<|zI<|zZ ?_;refine wT hMl [] (fun t2=>[(2,.bool t2)]) (fun o01 ho01=>?_) ?_
   · have H:=iS I01;refine zK<|yE 5 [0] [22] rfl<|xZ [22] ho01 ?_ ?_
     · intro hc2 N;refine yE 7 [0] [24] rfl<|bE N fun y1 hy2 N=>uH (eY a0.Const 99 _ hy2 ) ?_;intro I03 le2;have H:=H.trans le2;exact yI [] [2] rfl<|xY zQ<|yN<|zT (ct N H)
     intro hc2 N;exact wI [] [(2,vF)]<|xY zQ<|yN<|zT (ct N H)
   intro t2 I02 le3 hMc;refine zI<|yW ?_;obtain rfl:=zC hMc;exact wM
 intro r0 I9 hs9 m9 heq9 le9 hrs9;subst heq9;refine zV<|zG ?_;obtain rfl:=zC hMl;exact xA hrs9
def yM (r:Int):KT:=fun kk I' hs' v=>
  ∃ v0,hs'=[]∧v=tupV [v0]∧v0=.int .i64 r
def tF (a0:zA) (n0:Int) (i:Int):Option (Int):=do
 if (decide (i < (a0.Coefs.length:Int))) then
  let x←idx a0.Coefs i
  let n02←(do
    if (x != 0) then
     pure (W (i + 1))
    else
     pure (id n0)
      : Option Int)
  tF a0 n02 (W (i + 1))
 else
  pure (id n0)
 partial_fixpoint
theorem zD0 (a0:zA):∀ (n0:Int) (i:Int) (o:Int),tF a0 n0 i=some o→∀ {B}{I0 I:Imm}{Q p c}{b:Nat},I0.le I→(S4 I p a0.Coefs c)→NG Q→NO Q→(∀ (I':Imm) (n01:Int),o=n01→I0.le I'→T 21 B Q (.exit 0) I' [] [(3,vI n01)])→J Tryz.prog 21 B (nav (bodyOf Tryz.f164) [1,1,0,1,0]) Q I [hB b (cAff a0 p c)] [(1,vP b 0),(3,vI n0),(4,vI i)]:=by
 refine tF.partial_correctness a0 _ fun self ih n0 i o N B I0 I Q p c b H h hg ho hx=>yQ hg ho<|zZ<|yD<|yI [0] [9] rfl<|zI<|yC N ?_ ?_
 · intro hc N;refine zS<|zY<|yG<|yD<|yE 3 [0] [13,14] rfl<|bE N fun x hy N=>xK rfl rfl h hy ?_;intro ad ccs hat hrep;obtain rfl:=hrep;refine xF 0 hat [vI x] (vI x) rfl<|yI [] [17] rfl<|zI ?_;refine wT N [hB b (cAff a0 p c)] (fun n02=>[(1,vP b 0),(3,vI n02),(4,vI i)]) (fun o0 ho0=>?_) ?_
   · have H:=iS I;refine yC ho0 ?_ ?_
     · intro hc1 N;exact zK<|yI [] [3] rfl<|yN<|zT (ct N H)
     intro hc1 N;exact zS<|yN<|zT (ct N H)
   intro n02 I0 le hMc;have ⟨h,H⟩:=m2 le h H;exact zO<|zI<|zK<|yI [] [4] rfl<|yO<|nF<|ih n02 (W (i + 1)) _ hMc H h hg ho hx
 intro hc N;exact wJ<|xY zQ<|yN<|hx _ _ (zC N).symm H
def pA (a0:zA):Option (Int):=do
 let n01←tF a0 0 0
 pure (id n01)
theorem dS:∀ a0 r,pA a0=some r→∀ {I:Imm}{p c},(S4 I p a0.Coefs c)→RT 164 [vA (cAff a0 p c)] I [] (yM  r):=by
 intro a0 r N I p c h;unfold pA at N;refine yL Tryz.func164 fun B=>yD<|tS (cAff a0 p c) ?_;intro b hb;refine wI [] []<|wH [3] rfl<|zY<|yF [4] rfl<|xW<|qW [(1,vP b 0),(3,vI 0),(4,vI 0)] ?_;obtain ⟨o01,ho01,hMl⟩:=zB N;refine zD0 a0 0 0 o01 ho01 iR h (fun _ _ _ h=>h) (fun _ _ h=>h) ?_;intro I01 n01 heq1 le1;subst o01;refine zR<|wH [2] rfl<|zI<|yW ?_;obtain rfl:=zC hMl;exact wM
def uK (a0:zJ) (depth:Int) (i:Int):Option (Out Unit (Bool)):=do
 if (decide (i < (a0.Subs.length:Int))) then
  let t29←(do
    let x←idx a0.Subs i
    let y←uJ x
    if (!y) then
     pure true
    else
     let x1←idx a0.Subs i
     let y1←pA x1
     pure (decide (y1 > depth))
      : Option Bool)
  if t29 then
   pure (.ret false)
  else
   uK a0 depth (W (i + 1))
 else
  pure (.done ())
 partial_fixpoint
theorem zCv (a0:zJ) (depth:Int):∀ (i:Int) (o:Out Unit (Bool)),uK a0 depth i=some o→∀ {B}{I0 I:Imm}{Q p c}{b:Nat},I0.le I→(S4 I p a0.Subs c)→NG Q→NO Q→(∀ (I':Imm) ,o=(.done ())→I0.le I'→T 56 B Q (.exit 0) I' [hB b (cAccess a0 p c)] [(2,vP b 0)])→(∀ r I' hs' m',o=(.ret r)→I0.le I'→RS Tryz.prog Tryz.f104 B (zU  r) I' hs' m'→T 56 B Q .ret I' hs' m')→J Tryz.prog 56 B (nav (bodyOf Tryz.f104) [1,0,1,0]) Q I [hB b (cAccess a0 p c)] [(1,vI depth),(2,vP b 0),(5,vI i)]:=by
 refine uK.partial_correctness a0 depth _ fun self ih i o N B I0 I Q p c b H h hg ho hx hr=>yQ hg ho<|zZ<|yD<|yI [0] [10] rfl<|zI<|yC N ?_ ?_
 · intro hc N;refine zS<|zY<|yG<|zZ ?_;refine wT N [hB b (cAccess a0 p c)] (fun t29=>[(1,vI depth),(2,vP b 0),(5,vI i),(29,.bool t29)]) (fun o0 ho0=>?_) ?_
   · have H:=iS I;refine zK<|yE 3 [0] [14,15] rfl ?_;obtain ⟨x,hy,N⟩:=zB ho0;refine xK rfl rfl h hy ?_;intro ad ccs hat hrep;obtain ⟨p1,c1,rfl,h1⟩:=yS hrep;refine xF 0 hat (cAff x p1 c1) (vA (cAff x p1 c1)) rfl<|bE N fun y hy1 N=>uH (kS x _ hy1 h1) ?_;intro I01 le;have ⟨h,H⟩:=m2 le h H;refine yE 8 [] [20] rfl<|xZ [20] N ?_ ?_
     · intro hc1 N;exact wI [] [(29,vY)]<|yN<|zT (ct N H)
     intro hc1 N;refine yE 11 [0] [22,23] rfl<|bE N fun x1 hy2 N=>xK rfl rfl h hy2 ?_;intro ad1 ccs1 hat1 hrep1;obtain ⟨p2,c2,rfl,h3⟩:=yS hrep1;refine xF 0 hat1 (cAff x1 p2 c2) (vA (cAff x1 p2 c2)) rfl<|bE N fun y1 hy3 N=>gF (dS x1 _ hy3 h3) ?_;intro I02 le1;have H:=H.trans le1;exact yI [] [29] rfl<|yN<|zT (ct N H)
   intro t29 I0 le2 hMc;have ⟨h,H⟩:=m2 le2 h H;refine zI<|yC hMc ?_ ?_
   · intro hc2 N;exact vJ [(4,vF)]<|xG<|zV<|zG<|zG<|hr _ _ _ _ (zC N).symm H ⟨_,_,(.tmp rfl ResV.nil),zQ,⟨_,rfl,rfl,rfl⟩⟩
   intro hc2 N;exact zS<|zO<|zI<|zK<|yI [] [5] rfl<|yO<|nF<|ih (W (i + 1)) _ N H h hg ho hx hr
 intro hc N;exact wJ<|yN<|hx _  (zC N).symm H
def pQ (a0:zJ) (depth:Int):Option (Bool):=do
 match←uK a0 depth 0 with
 | .ret r0=>pure r0
 | .done _ =>
  let t4←(do
    if ((a0.Array.l.length:Int) == 1) then
     if (!(Op.bytesLess a0.Array.l ([65]:List UInt8))) then
      if (Op.bytesLess a0.Array.l ([68]:List UInt8) || a0.Array.l == ([68]:List UInt8)) then
       if (decide ((a0.Subs.length:Int) ≥ 1)) then
        pure (decide ((a0.Subs.length:Int) ≤ 2))
       else
        pure false
      else
       pure false
     else
      pure false
    else
     pure false
      : Option Bool)
  pure (id t4)
theorem zBH:∀ a0 depth r,pQ a0 depth=some r→∀ {I:Imm}{p c},(S4 I p a0.Subs c)→RT 104 [vA (cAccess a0 p c),vI depth] I [] (zU  r):=by
 intro a0 depth r N I p c h;unfold pQ at N;refine yL Tryz.func104 fun B=>?_;have H:=iS I;refine yD<|tS (cAccess a0 p c) ?_;intro b hb;refine wI [] []<|zY<|yF [5] rfl<|xW<|qW [(1,vI depth),(2,vP b 0),(5,vI 0)] ?_;obtain ⟨o01,ho01,hMl⟩:=zB N;refine zCv a0 depth 0 o01 ho01 iR h (fun _ _ _ h=>h) (fun _ _ h=>h) ?_ ?_
 · intro I03  heq1 le3;subst o01;have H:=H.trans le3;refine zR<|zI<|zZ ?_;refine wT hMl [] (fun t4=>[(4,.bool t4)]) (fun o02 ho02=>?_) ?_
   · have H:=iS I03;refine zK<|yE 5 [0] [34] rfl<|xZ [34] ho02 ?_ ?_
     · intro hc3 N;refine yE 10 [0] [39] rfl<|xZ [39] N ?_ ?_
       · intro hc4 N;refine yE 15 [0] [44] rfl<|xZ [44] N ?_ ?_
         · intro hc5 N;refine yE 21 [0] [50] rfl<|xZ [50] N ?_ ?_
           · intro hc6 N;exact yI [0] [4] rfl<|xY zQ<|yN<|zT (ct N H)
           intro hc6 N;exact wI [] [(4,vF)]<|xY zQ<|yN<|zT (ct N H)
         intro hc5 N;exact wI [] [(4,vF)]<|xY zQ<|yN<|zT (ct N H)
       intro hc4 N;exact wI [] [(4,vF)]<|xY zQ<|yN<|zT (ct N H)
     intro hc3 N;exact wI [] [(4,vF)]<|xY zQ<|yN<|zT (ct N H)
   intro t4 I04 le4 hMc1;refine zI<|yW ?_;obtain rfl:=zC hMc1;exact wM
 intro r0 I9 hs9 m9 heq9 le9 hrs9;subst heq9;refine zV<|zG ?_;obtain rfl:=zC hMl;exact xA hrs9
def kG (kind:Int):Option (Int):=do
 let t4←(do
   if (kind == 1) then
    pure (kind == 1)
   else
    let t41←(do
      if (kind == 2) then
       pure (kind == 2)
      else
       pure (kind == 3)
        : Option Bool)
    pure (id t41)
     : Option Bool)
 if t4 then
  pure (id 0)
 else
  let t8←(do
    if (kind == 4) then
     pure (kind == 4)
    else
     let t81←(do
       if (kind == 5) then
        pure (kind == 5)
       else
        pure (kind == 6)
         : Option Bool)
     pure (id t81)
      : Option Bool)
  if t8 then
   pure (id 2)
  else
   pure (-1)
theorem zCQ:∀ kind r,kG kind=some r→∀ {I:Imm} ,RT 165 [vI kind] I [] (yM  r):=by
 intro kind r N I;unfold kG at N;refine yL Tryz.func165 fun B=>?_;have H:=iS I;refine vJ []<|zY<|yF [3] rfl<|xW<|zZ<|yF [4] rfl<|zI ?_;refine wT N [] (fun t4=>[(3,vI kind),(4,.bool t4)]) (fun o0 ho0=>?_) ?_
 · have H:=iS I;refine yC ho0 ?_ ?_
   · intro hc N;exact zS<|yN<|zT (ct N H)
   intro hc N;refine yF [4] rfl<|zI ?_;refine wT N [] (fun t41=>[(3,vI kind),(4,.bool t41)]) (fun o01 ho01=>?_) ?_
   · have H:=iS I;refine yC ho01 ?_ ?_
     · intro hc1 N;exact zS<|yN<|zT (ct N H)
     intro hc1 N;exact zK<|yI [] [4] rfl<|yN<|zT (ct N H)
   intro t41 I01 le hMc1;have H:=H.trans le;exact yN<|zT (ct hMc1 H)
 intro t4 I0 le1 hMc;have H:=H.trans le1;refine zI<|yC hMc ?_ ?_
 · intro hc2 N;refine yF [2] rfl<|xG<|zV<|zG ?_;obtain rfl:=zC N;exact wM
 intro hc2 N;refine zZ<|yF [8] rfl<|zI ?_;refine wT N [] (fun t8=>[(8,.bool t8)]) (fun o02 ho02=>?_) ?_
 · have H:=iS I0;refine yC ho02 ?_ ?_
   · intro hc3 N;exact zS<|yN<|zT (ct N H)
   intro hc3 N;refine yF [8] rfl<|zI ?_;refine wT N [] (fun t81=>[(8,.bool t81)]) (fun o03 ho03=>?_) ?_
   · have H:=iS I0;refine yC ho03 ?_ ?_
     · intro hc4 N;exact zS<|yN<|zT (ct N H)
     intro hc4 N;exact zK<|yI [] [8] rfl<|yN<|zT (ct N H)
   intro t81 I03 le2 hMc3;have H:=H.trans le2;exact yN<|zT (ct hMc3 H)
 intro t8 I02 le3 hMc2;refine zI<|yC hMc2 ?_ ?_
 · intro hc5 N;refine yF [2] rfl<|xG<|zV<|zG ?_;obtain rfl:=zC N;exact wM
 intro hc5 N;refine zS<|zO<|wH [2] rfl<|zI<|yW ?_;obtain rfl:=zC N;exact wM
def pC (a0:zJ):Option (Bool):=do
 let t2←(do
   if (a0.Array.l == ([]:List UInt8)) then
    pure ((a0.Subs.length:Int) == 0)
   else
    pure false
     : Option Bool)
 pure (id t2)
theorem dU:∀ a0 r,pC a0=some r→∀ {I:Imm}{p c},(S4 I p a0.Subs c)→RT 208 [vA (cAccess a0 p c)] I [] (zU  r):=by
 intro a0 r N I p c h;unfold pC at N;refine yL Tryz.func208 fun B=>?_;have H:=iS I;refine yD<|tS (cAccess a0 p c) ?_;intro b hb;refine wI [] []<|zI<|zZ ?_;refine wT N [] (fun t2=>[(2,.bool t2)]) (fun o0 ho0=>?_) ?_
 · have H:=iS I;refine zK<|yE 4 [0] [6] rfl<|xZ [6] ho0 ?_ ?_
   · intro hc N;exact yI [0] [2] rfl<|xY zQ<|yN<|zT (ct N H)
   intro hc N;exact wI [] [(2,vF)]<|xY zQ<|yN<|zT (ct N H)
 intro t2 I0 le hMc;refine zI<|yW ?_;obtain rfl:=zC hMc;exact wM
def oV (a0:zA):Option (Bool):=do
 let t2←(do
   if ((a0.Coefs.length:Int) == 0) then
    pure (a0.Const == 0)
   else
    pure false
     : Option Bool)
 pure (id t2)
theorem zAQ:∀ a0 r,oV a0=some r→∀ {I:Imm}{p c},(S4 I p a0.Coefs c)→RT 209 [vA (cAff a0 p c)] I [] (zU  r):=by
 intro a0 r N I p c h;unfold oV at N;refine yL Tryz.func209 fun B=>?_;have H:=iS I;refine yD<|tS (cAff a0 p c) ?_;intro b hb;refine wI [] []<|zI<|zZ ?_;refine wT N [] (fun t2=>[(2,.bool t2)]) (fun o0 ho0=>?_) ?_
 · have H:=iS I;refine zK<|yE 5 [0] [7] rfl<|xZ [7] ho0 ?_ ?_
   · intro hc N;exact yI [0] [2] rfl<|xY zQ<|yN<|zT (ct N H)
   intro hc N;exact wI [] [(2,vF)]<|xY zQ<|yN<|zT (ct N H)
 intro t2 I0 le hMc;refine zI<|yW ?_;obtain rfl:=zC hMc;exact wM
def jP (e0:zH) (depth:Int):Option (Bool):=do
 if (e0.Kind == 2) then
  let t4←(do
    if (e0.Num == 0) then
     let y←pC e0.Read
     if y then
      let y1←uJ e0.Index
      if y1 then
       let y2←pA e0.Index
       pure (decide (y2 ≤ depth))
      else
       pure false
     else
      pure false
    else
     pure false
      : Option Bool)
  pure (id t4)
 else
  if (e0.Kind == 3) then
   let t41←(do
     if (e0.Num == 0) then
      let y3←oV e0.Index
      if y3 then
       let y4←pQ e0.Read depth
       pure (id y4)
      else
       pure false
     else
      pure false
       : Option Bool)
   pure (id t41)
  else
   if (e0.Kind == 1) then
    let t42←(do
      if (decide (e0.Num ≥ 0)) then
       if (decide (e0.Num ≤ 99)) then
        let y5←oV e0.Index
        if y5 then
         let y6←pC e0.Read
         pure (id y6)
        else
         pure false
       else
        pure false
      else
       pure false
        : Option Bool)
    pure (id t42)
   else
    let t43←(do
      if (e0.Num == 0) then
       let y7←oV e0.Index
       if y7 then
        let y8←pC e0.Read
        pure (id y8)
       else
        pure false
      else
       pure false
        : Option Bool)
    pure (id t43)
theorem zH9:∀ e0 depth r,jP e0 depth=some r→∀ {I:Imm}{p c p1 c1 p2 c2},(S4 I p e0.Index.Coefs c)→(S4 I p1 e0.Read.Subs c1)→(S4 I p2 e0.Kids c2)→RT 166 [vA (cExpr e0 p c p1 c1 p2 c2),vI depth] I [] (zU  r):=by
 intro e0 depth r N I p c p1 c1 p2 c2 h h1 h2;unfold jP at N;refine yL Tryz.func166 fun B=>?_;have H:=iS I;refine yD<|tS (cExpr e0 p c p1 c1 p2 c2) ?_;intro b hb;refine wI [] []<|zY<|yD<|yI [0] [7] rfl<|zI<|yC N ?_ ?_
 · intro hc N;refine zZ ?_;refine wT N [] (fun t4=>[(4,.bool t4)]) (fun o0 ho0=>?_) ?_
   · have H:=iS I;refine zK<|yE 4 [0] [11] rfl<|xZ [11] ho0 ?_ ?_
     · intro hc1 N;refine qL 6 [0] [(13,vA (cAccess e0.Read p1 c1))]<|bE N fun y hy N=>uH (dU e0.Read _ hy h1) ?_;intro I01 le;have ⟨h,H⟩:=m2 le h H;refine yE 9 [] [16] rfl<|xZ [16] N ?_ ?_
       · intro hc2 N;refine qL 11 [0] [(18,vA (cAff e0.Index p c))]<|bE N fun y1 hy1 N=>uH (kS e0.Index _ hy1 h) ?_;intro I02 le1;have ⟨h,H⟩:=m2 le1 h H;refine yE 14 [] [21] rfl<|xZ [21] N ?_ ?_
         · intro hc3 N;refine qL 16 [0] [(23,vA (cAff e0.Index p c))]<|bE N fun y2 hy2 N=>gF (dS e0.Index _ hy2 h) ?_;intro I03 le2;have H:=H.trans le2;exact yI [] [4] rfl<|xY zQ<|yN<|zT (ct N H)
         intro hc3 N;exact wI [] [(4,vF)]<|xY zQ<|yN<|zT (ct N H)
       intro hc2 N;exact wI [] [(4,vF)]<|xY zQ<|yN<|zT (ct N H)
     intro hc1 N;exact wI [] [(4,vF)]<|xY zQ<|yN<|zT (ct N H)
   intro t4 I0 le3 hMc;refine xG<|zG ?_;obtain rfl:=zC hMc;exact wM
 intro hc N;refine zS<|zY<|yD<|yI [0] [30] rfl<|zI<|yC N ?_ ?_
 · intro hc4 N;refine zZ ?_;refine wT N [] (fun t41=>[(4,.bool t41)]) (fun o01 ho01=>?_) ?_
   · have H:=iS I;refine zK<|yE 4 [0] [34] rfl<|xZ [34] ho01 ?_ ?_
     · intro hc5 N;refine qL 6 [0] [(36,vA (cAff e0.Index p c))]<|bE N fun y3 hy3 N=>uH (zAQ e0.Index _ hy3 h) ?_;intro I05 le4;have ⟨h1,H⟩:=m2 le4 h1 H;refine yE 9 [] [39] rfl<|xZ [39] N ?_ ?_
       · intro hc6 N;refine qL 12 [0] [(41,vA (cAccess e0.Read p1 c1)),(42,vI depth)]<|bE N fun y4 hy4 N=>uH (zBH e0.Read depth _ hy4 h1) ?_;intro I06 le5;have H:=H.trans le5;exact yI [] [4] rfl<|xY zQ<|yN<|zT (ct N H)
       intro hc6 N;exact wI [] [(4,vF)]<|xY zQ<|yN<|zT (ct N H)
     intro hc5 N;exact wI [] [(4,vF)]<|xY zQ<|yN<|zT (ct N H)
   intro t41 I04 le6 hMc1;refine xG<|zG ?_;obtain rfl:=zC hMc1;exact wM
 intro hc4 N;refine zS<|zY<|yD<|yI [0] [47] rfl<|zI<|yC N ?_ ?_
 · intro hc7 N;refine zZ ?_;refine wT N [] (fun t42=>[(4,.bool t42)]) (fun o02 ho02=>?_) ?_
   · have H:=iS I;refine zK<|yE 4 [0] [51] rfl<|xZ [51] ho02 ?_ ?_
     · intro hc8 N;refine yE 9 [0] [56] rfl<|xZ [56] N ?_ ?_
       · intro hc9 N;refine qL 11 [0] [(58,vA (cAff e0.Index p c))]<|bE N fun y5 hy5 N=>uH (zAQ e0.Index _ hy5 h) ?_;intro I08 le7;have ⟨h1,H⟩:=m2 le7 h1 H;refine yE 14 [] [61] rfl<|xZ [61] N ?_ ?_
         · intro hc10 N;refine qL 16 [0] [(63,vA (cAccess e0.Read p1 c1))]<|bE N fun y6 hy6 N=>uH (dU e0.Read _ hy6 h1) ?_;intro I09 le8;have H:=H.trans le8;exact yI [] [4] rfl<|xY zQ<|yN<|zT (ct N H)
         intro hc10 N;exact wI [] [(4,vF)]<|xY zQ<|yN<|zT (ct N H)
       intro hc9 N;exact wI [] [(4,vF)]<|xY zQ<|yN<|zT (ct N H)
     intro hc8 N;exact wI [] [(4,vF)]<|xY zQ<|yN<|zT (ct N H)
   intro t42 I07 le9 hMc2;refine xG<|zG ?_;obtain rfl:=zC hMc2;exact wM
 intro hc7 N;refine zS<|zI<|zZ ?_;refine wT N [] (fun t43=>[(4,.bool t43)]) (fun o03 ho03=>?_) ?_
 · have H:=iS I;refine zK<|yE 4 [0] [69] rfl<|xZ [69] ho03 ?_ ?_
   · intro hc11 N;refine qL 6 [0] [(71,vA (cAff e0.Index p c))]<|bE N fun y7 hy7 N=>uH (zAQ e0.Index _ hy7 h) ?_;intro I011 le10;have ⟨h1,H⟩:=m2 le10 h1 H;refine yE 9 [] [74] rfl<|xZ [74] N ?_ ?_
     · intro hc12 N;refine qL 11 [0] [(76,vA (cAccess e0.Read p1 c1))]<|bE N fun y8 hy8 N=>uH (dU e0.Read _ hy8 h1) ?_;intro I012 le11;have H:=H.trans le11;exact yI [] [4] rfl<|xY zQ<|yN<|zT (ct N H)
     intro hc12 N;exact wI [] [(4,vF)]<|xY zQ<|yN<|zT (ct N H)
   intro hc11 N;exact wI [] [(4,vF)]<|xY zQ<|yN<|zT (ct N H)
 intro t43 I010 le12 hMc3;refine zI<|yW ?_;obtain rfl:=zC hMc3;exact wM
mutual
def tT (e0:zH) (depth:Int) (levels:Int):Option (Bool):=do
 let t24←(do
   if (decide (levels < 1)) then
    pure true
   else
    let y←kG e0.Kind
    if (y != (e0.Kids.length:Int)) then
     pure true
    else
     let y1←jP e0 depth
     pure (!y1)
     : Option Bool)
 if t24 then
  pure false
 else
  match←uD (same e0) (same depth) (same levels) (same 0) with
  | .ret r0=>pure r0
  | .done _ =>
   pure true
 partial_fixpoint
def uD (e0:zH) (depth:Int) (levels:Int) (i:Int):Option (Out Unit (Bool)):=do
 if (decide (i < (e0.Kids.length:Int))) then
  let x←idx e0.Kids i
  let y2←tT (same x) (same depth) (W (levels - 1))
  if (!y2) then
   pure (.ret false)
  else
   uD (same e0) (same depth) (same levels) (W (i + 1))
 else
  pure (.done ())
 partial_fixpoint
end
theorem zFJ:(∀ (e0:zH) (depth:Int) (levels:Int) r,tT e0 depth levels=some r→∀ {I:Imm}{p c p1 c1 p2 c2},(S4 I p e0.Index.Coefs c)→(S4 I p1 e0.Read.Subs c1)→(S4 I p2 e0.Kids c2)→RT 105 [vA (cExpr e0 p c p1 c1 p2 c2),vI depth,vI levels] I [] (zU  r))∧(∀ (e0:zH) (depth:Int) (levels:Int) (i:Int) o,uD e0 depth levels i=some o→∀ {B}{I0 I:Imm}{Q p c p1 c1 p2 c2}{b:Nat},I0.le I→(S4 I p e0.Index.Coefs c)→(S4 I p1 e0.Read.Subs c1)→(S4 I p2 e0.Kids c2)→NG Q→NO Q→(∀ (I':Imm) ,o=(.done ())→I0.le I'→T 42 B Q (.exit 0) I' [] [])→(∀ r I' hs' m',o=(.ret r)→I0.le I'→RS Tryz.prog Tryz.f105 B (zU  r) I' hs' m'→T 42 B Q .ret I' hs' m')→J Tryz.prog 42 B (nav (bodyOf Tryz.f105) [1,1,0,1,0]) Q I [hB b (cExpr e0 p c p1 c1 p2 c2)] [(1,vI depth),(2,vI levels),(3,vP b 0),(7,vI i)]):=by
  refine tT.mutual_partial_correctness _ _ ?_ ?_
  · intro F_spec_l3Shape_l1 ih_spec_l3Shape_l1 e0 depth levels r N I p c p1 c1 p2 c2 h h1 h2;refine yL Tryz.func105 fun B=>?_;have H:=iS I;refine yD<|tS (cExpr e0 p c p1 c1 p2 c2) ?_;intro b hb;refine wI [] []<|zY<|zZ ?_;refine wT N [hB b (cExpr e0 p c p1 c1 p2 c2)] (fun t24=>[(1,vI depth),(2,vI levels),(3,vP b 0),(24,.bool t24)]) (fun o0 ho0=>?_) ?_
    · have H:=iS I;cases hc:(decide (levels < 1)) with
      | true =>
       have hM0:=sT hc ho0;refine wK [.p (vI levels) [],.q vY,.q vY,.p undef [],.p undef [],.p undef [],.p undef [],.p undef [],.p undef [],.p undef [],.p vY [],.p vY [],.p undef [],.p undef [],.p undef [],.p undef [],.p vY []] [[],[(0,false)],[(1,false)],[(2,false)],[(2,false),(3,false)],[(2,false),(4,false)],[(2,false)],[(2,false),(6,false)],[(2,false),(7,false)],[(2,false),(5,false),(8,false)],[(2,false),(9,false)],[(10,false)],[(11,false)],[(11,false)],[(11,false),(12,false),(13,false)],[(11,false),(14,false)],[(11,false),(15,false)]] [hB b (cExpr e0 p c p1 c1 p2 c2)] [] [(16,false)] (zX [0]) ?_ ?_
       · refine Op<|Oq ?_<|Oq ?_<|Op<|Op<|Op<|Op<|Op<|Op<|Op<|Op<|Op<|Op<|Op<|Op<|Op<|Op<|On
         · intro I1 hf le1;refine yR [8] rfl<|oY 2 [(9,.bool (decide (levels < 1)))] ?_;rw [hc];exact xE iR
         intro I1 hf le1;exact I_h [(9,vY)]<|oY 3 [(10,vY)]<|xE iR
       intro I01 le;refine yR [1,2,3,24] rfl ?_;have H:=H.trans le;exact yB rfl<|yN<|zT (ct hM0 H)
      | false =>
       have hM01:=tU hc ho0;obtain ⟨y,hy,N⟩:=zB hM01;cases hc1:(y != (e0.Kids.length:Int)) with
       | true =>
        have hM02:=sT hc1 N;refine wK [.p (vI levels) [],.q vF,.q vF,.p (vP b 0) [],.p (vI e0.Kind) [0],.q (vI y),.p (vP b 6) [],.p (vS p2 e0.Kids c2) [0],.p (vI (e0.Kids.length:Int)) [],.q vY,.q vY,.q vY,.p undef [],.p undef [],.p undef [],.p undef [],.p vY []] [[],[(0,false)],[(1,false)],[(2,false)],[(2,false),(3,false)],[(2,false),(4,false)],[(2,false)],[(2,false),(6,false)],[(2,false),(7,false)],[(2,false),(5,false),(8,false)],[(2,false),(9,false)],[(10,false)],[(11,false)],[(11,false)],[(11,false),(12,false),(13,false)],[(11,false),(14,false)],[(11,false),(15,false)]] [hB b (cExpr e0 p c p1 c1 p2 c2)] [] [(16,false)] (zX [0]) ?_ ?_
        · refine Op<|Oq ?_<|Oq ?_<|Op<|Op<|Oq ?_<|Op<|Op<|Op<|Oq ?_<|Oq ?_<|Oq ?_<|Op<|Op<|Op<|Op<|Op<|On
          · intro I1 hf le1;refine yR [8] rfl<|oY 2 [(9,.bool (decide (levels < 1)))] ?_;rw [hc];exact xE iR
          · intro I1 hf le1;exact I_h [(9,vF)]<|oY 3 [(10,vF)]<|xE iR
          · intro I1 hf le1;refine yR [10,12] rfl ?_;have H:=iS I1;refine gF (zCQ e0.Kind _ hy ) ?_;intro I02 le1;have H:=H.trans le1;exact xE H
          · intro I1 hf le1;refine yR [10,13,16] rfl<|oY 10 [(17,.bool (y != (e0.Kids.length:Int)))] ?_;rw [hc1];exact xE iR
          · intro I1 hf le1;exact yR [10,17] rfl<|oY 11 [(18,vY)]<|xE iR
          intro I1 hf le1;exact I_h [(18,vY)]<|oY 12 [(19,vY)]<|xE iR
        intro I03 le2;refine yR [1,2,3,24] rfl ?_;have H:=H.trans le2;exact yB rfl<|yN<|zT (ct hM02 H)
       | false =>
        have hM03:=tU hc1 N;obtain ⟨y1,hy1,N⟩:=zB hM03;refine wK [.p (vI levels) [],.q vF,.q vF,.p (vP b 0) [],.p (vI e0.Kind) [0],.q (vI y),.p (vP b 6) [],.p (vS p2 e0.Kids c2) [0],.p (vI (e0.Kids.length:Int)) [],.q vF,.q vF,.q vF,.p (vA (cExpr e0 p c p1 c1 p2 c2)) [0],.p (vI depth) [],.q (.bool y1),.p (.bool (!y1)) [],.p (.bool (!y1)) []] [[],[(0,false)],[(1,false)],[(2,false)],[(2,false),(3,false)],[(2,false),(4,false)],[(2,false)],[(2,false),(6,false)],[(2,false),(7,false)],[(2,false),(5,false),(8,false)],[(2,false),(9,false)],[(10,false)],[(11,false)],[(11,false)],[(11,false),(12,false),(13,false)],[(11,false),(14,false)],[(11,false),(15,false)]] [hB b (cExpr e0 p c p1 c1 p2 c2)] [] [(16,false)] (zX [0]) ?_ ?_
        · refine Op<|Oq ?_<|Oq ?_<|Op<|Op<|Oq ?_<|Op<|Op<|Op<|Oq ?_<|Oq ?_<|Oq ?_<|Op<|Op<|Oq ?_<|Op<|Op<|On
          · intro I1 hf le1;refine yR [8] rfl<|oY 2 [(9,.bool (decide (levels < 1)))] ?_;rw [hc];exact xE iR
          · intro I1 hf le1;exact I_h [(9,vF)]<|oY 3 [(10,vF)]<|xE iR
          · intro I1 hf le1;refine yR [10,12] rfl ?_;have H:=iS I1;refine gF (zCQ e0.Kind _ hy ) ?_;intro I02 le1;have H:=H.trans le1;exact xE H
          · intro I1 hf le1;refine yR [10,13,16] rfl<|oY 10 [(17,.bool (y != (e0.Kids.length:Int)))] ?_;rw [hc1];exact xE iR
          · intro I1 hf le1;exact yR [10,17] rfl<|oY 11 [(18,vF)]<|xE iR
          · intro I1 hf le1;exact I_h [(18,vF)]<|oY 12 [(19,vF)]<|xE iR
          intro I1 hf le1;refine yR [19,20,21] rfl ?_;have H:=iS I1;have ⟨h,h1,h2⟩:=m3 le1 h h1 h2;refine uH (zH9 e0 depth _ hy1 h h1 h2) ?_;intro I04 le3;have H:=H.trans le3;exact xE H
        intro I05 le4;refine yR [1,2,3,24] rfl ?_;have H:=H.trans le4;exact yB rfl<|yN<|zT (ct N H)
    intro t24 I0 le5 hMc;have ⟨h,h1,h2⟩:=m3 le5 h h1 h2;refine zI<|yC hMc ?_ ?_
    · intro hc2 N;refine vJ [(6,vF)]<|xG<|zG ?_;obtain rfl:=zC N;exact wM
    intro hc2 N;refine zS<|zY<|yF [7] rfl<|xW<|qW [(1,vI depth),(2,vI levels),(3,vP b 0),(7,vI 0)] ?_;obtain ⟨o01,ho01,hMl⟩:=zB N;refine ih_spec_l3Shape_l1 e0 depth levels 0 o01 ho01 iR h h1 h2 (fun _ _ _ h=>h) (fun _ _ h=>h) ?_ ?_
    · intro I07  heq1 le7;subst o01;refine zR<|zFr [(6,vY)]<|zI<|yW ?_;obtain rfl:=zC hMl;exact wM
    intro r0 I9 hs9 m9 heq9 le9 hrs9;subst heq9;refine zV<|zG ?_;obtain rfl:=zC hMl;exact xA hrs9
  intro F_spec_l3Shape F_spec_l3Shape_l1 ih_spec_l3Shape ih_spec_l3Shape_l1 e0 depth levels i o N B I0 I Q p c p1 c1 p2 c2 b H h h1 h2 hg ho hx hr;refine yQ hg ho<|zZ<|yD<|yI [0] [29] rfl<|zI<|yC N ?_ ?_
  · intro hc3 N;refine zS<|zY<|yG<|yD<|yE 3 [0] [33,34] rfl<|bE N fun x hy2 N=>xK rfl rfl h2 hy2 ?_;intro ad ccs hat hrep;obtain ⟨p3,c3,p4,c4,p5,c5,rfl,h5,h6,h7⟩:=tN hrep;refine xF 0 hat (cExpr x p3 c3 p4 c4 p5 c5) (vA (cExpr x p3 c3 p4 c4 p5 c5)) rfl<|yE 8 [] [37,39] rfl<|bE N fun y2 hy3 N=>xP (ih_spec_l3Shape x depth (W (levels - 1)) _ hy3 h5 h6 h7) ?_;rintro I06 hs2 v2 k2 le6 - ⟨v05,rfl,rfl,rfl⟩ -;have ⟨h,h1,h2,H⟩:=m4 le6 h h1 h2 H;refine yI [] [41] rfl<|zI<|yC N ?_ ?_
    · intro hc4 N;exact vJ [(6,vF)]<|xG<|zV<|zG<|zG<|hr _ _ _ _ (zC N).symm H ⟨_,_,(.tmp rfl ResV.nil),zQ,⟨_,rfl,rfl,rfl⟩⟩
    intro hc4 N;exact zS<|zO<|zI<|zK<|yI [] [7] rfl<|yO<|nF<|ih_spec_l3Shape_l1 e0 depth levels (W (i + 1)) _ N H h h1 h2 hg ho hx hr
  intro hc3 N;exact wJ<|xY zQ<|yN<|hx _  (zC N).symm H
theorem zFu:∀ e0 depth levels r,tT e0 depth levels=some r→∀ {I:Imm}{p c p1 c1 p2 c2},(S4 I p e0.Index.Coefs c)→(S4 I p1 e0.Read.Subs c1)→(S4 I p2 e0.Kids c2)→RT 105 [vA (cExpr e0 p c p1 c1 p2 c2),vI depth,vI levels] I [] (zU  r):=zFJ.1
mutual
def sL (e0:zH) (levels:Int):Option (Int):=do
 let n01←uE (same e0) (same levels) (same 1) (same 0)
 pure (id n01)
 partial_fixpoint
def uE (e0:zH) (levels:Int) (n0:Int) (i:Int):Option (Int):=do
 let t15←(do
   if (decide (i < (e0.Kids.length:Int))) then
    pure (decide (levels > 0))
   else
    pure false
     : Option Bool)
 if t15 then
  let x←idx e0.Kids i
  let y←sL (same x) (W (levels - 1))
  uE (same e0) (same levels) (W (n0 + y)) (W (i + 1))
 else
  pure (id n0)
 partial_fixpoint
end
theorem zFK:(∀ (e0:zH) (levels:Int) r,sL e0 levels=some r→∀ {I:Imm}{p c p1 c1 p2 c2},(S4 I p e0.Index.Coefs c)→(S4 I p1 e0.Read.Subs c1)→(S4 I p2 e0.Kids c2)→RT 106 [vA (cExpr e0 p c p1 c1 p2 c2),vI levels] I [] (yM  r))∧(∀ (e0:zH) (levels:Int) (n0:Int) (i:Int) o,uE e0 levels n0 i=some o→∀ {B}{I0 I:Imm}{Q p c p1 c1 p2 c2}{b:Nat},I0.le I→(S4 I p e0.Index.Coefs c)→(S4 I p1 e0.Read.Subs c1)→(S4 I p2 e0.Kids c2)→NG Q→NO Q→(∀ (I':Imm) (n01:Int),o=n01→I0.le I'→T 29 B Q (.exit 0) I' [] [(5,vI n01)])→J Tryz.prog 29 B (nav (bodyOf Tryz.f106) [1,1,0,1,0]) Q I [hB b (cExpr e0 p c p1 c1 p2 c2)] [(1,vI levels),(2,vP b 0),(5,vI n0),(6,vI i)]):=by
  refine sL.mutual_partial_correctness _ _ ?_ ?_
  · intro F_spec_l3Count_l1 ih_spec_l3Count_l1 e0 levels r N I p c p1 c1 p2 c2 h h1 h2;refine yL Tryz.func106 fun B=>yD<|tS (cExpr e0 p c p1 c1 p2 c2) ?_;intro b hb;refine wI [] []<|wH [5] rfl<|zY<|yF [6] rfl<|xW<|qW [(1,vI levels),(2,vP b 0),(5,vI 1),(6,vI 0)] ?_;obtain ⟨o01,ho01,hMl⟩:=zB N;refine ih_spec_l3Count_l1 e0 levels 1 0 o01 ho01 iR h h1 h2 (fun _ _ _ h=>h) (fun _ _ h=>h) ?_;intro I02 n01 heq1 le2;subst o01;refine zR<|wH [4] rfl<|zI<|yW ?_;obtain rfl:=zC hMl;exact wM
  intro F_spec_l3Count F_spec_l3Count_l1 ih_spec_l3Count ih_spec_l3Count_l1 e0 levels n0 i o N B I0 I Q p c p1 c1 p2 c2 b H h h1 h2 hg ho hx;refine yQ hg ho<|zZ<|zZ ?_;refine wT N [hB b (cExpr e0 p c p1 c1 p2 c2)] (fun t15=>[(1,vI levels),(2,vP b 0),(5,vI n0),(6,vI i),(15,.bool t15)]) (fun o0 ho0=>?_) ?_
  · have H:=iS I;refine zK<|yE 6 [0] [12] rfl<|xZ [12] ho0 ?_ ?_
    · intro hc N;exact yI [] [15] rfl<|yN<|zT (ct N H)
    intro hc N;exact wI [] [(15,vF)]<|yN<|zT (ct N H)
  intro t15 I0 le hMc;have ⟨h,h1,h2,H⟩:=m4 le h h1 h2 H;refine zI<|yC hMc ?_ ?_
  · intro hc1 N;refine zS<|zY<|yG<|zK<|yE 4 [0] [18,20,21] rfl<|bE N fun x hy N=>xK rfl rfl h2 hy ?_;intro ad ccs hat hrep;obtain ⟨p3,c3,p4,c4,p5,c5,rfl,h3,h4,h5⟩:=tN hrep;refine xF 0 hat (cExpr x p3 c3 p4 c4 p5 c5) (vA (cExpr x p3 c3 p4 c4 p5 c5)) rfl<|yE 8 [] [25] rfl<|bE N fun y hy1 N=>xP (ih_spec_l3Count x (W (levels - 1)) _ hy1 h3 h4 h5) ?_;rintro I01 hs2 v2 k2 le1 - ⟨v03,rfl,rfl,rfl⟩ -;have ⟨h,h1,h2,H⟩:=m4 le1 h h1 h2 H;exact yI [] [5] rfl<|zO<|zI<|zK<|yI [] [6] rfl<|yO<|nF<|ih_spec_l3Count_l1 e0 levels (W (n0 + y)) (W (i + 1)) _ N H h h1 h2 hg ho hx
  intro hc1 N;exact wJ<|xY zQ<|yN<|hx _ _ (zC N).symm H
theorem zFv:∀ e0 levels r,sL e0 levels=some r→∀ {I:Imm}{p c p1 c1 p2 c2},(S4 I p e0.Index.Coefs c)→(S4 I p1 e0.Read.Subs c1)→(S4 I p2 e0.Kids c2)→RT 106 [vA (cExpr e0 p c p1 c1 p2 c2),vI levels] I [] (yM  r):=zFK.1
def sY (s:zP) (depth:Int):Option (Bool):=do
 let t24←(do
   if (decide (depth < 0)) then
    pure true
   else
    if (decide (depth > 4)) then
     pure true
    else
     let y←pQ s.Write depth
     if (!y) then
      pure true
     else
      let y1←tT s.Value depth 5
      pure (!y1)
     : Option Bool)
 if t24 then
  pure false
 else
  let y2←sL s.Value 5
  pure (decide (y2 ≤ 12))
theorem eC:∀ s depth r,sY s depth=some r→∀ {I:Imm}{p c p1 c1 p2 c2 p3 c3},(S4 I p s.Write.Subs c)→(S4 I p1 s.Value.Index.Coefs c1)→(S4 I p2 s.Value.Read.Subs c2)→(S4 I p3 s.Value.Kids c3)→RT 47 [vA (cStmt s p c p1 c1 p2 c2 p3 c3),vI depth] I [] (zU  r):=by
 intro s depth r N I p c p1 c1 p2 c2 p3 c3 h h1 h2 h3;unfold sY at N;refine yL Tryz.func47 fun B=>?_;have H:=iS I;refine yD<|tS (cStmt s p c p1 c1 p2 c2 p3 c3) ?_;intro b hb;refine wI [] []<|zY<|zZ ?_;refine wT N [hB b (cStmt s p c p1 c1 p2 c2 p3 c3)] (fun t24=>[(2,vP b 0),(24,.bool t24)]) (fun o0 ho0=>?_) ?_
 · have H:=iS I;refine zK<|yE 3 [] [7] rfl<|xZ [7] ho0 ?_ ?_
   · intro hc N;exact wI [] [(24,vY)]<|yN<|zT (ct N H)
   intro hc N;refine yE 7 [] [11] rfl<|xZ [11] N ?_ ?_
   · intro hc1 N;exact wI [] [(24,vY)]<|yN<|zT (ct N H)
   intro hc1 N;refine qL 10 [0] [(13,vA (cAccess s.Write p c)),(14,vI depth)]<|bE N fun y hy N=>uH (zBH s.Write depth _ hy h) ?_;intro I01 le;have ⟨h1,h2,h3,H⟩:=m4 le h1 h2 h3 H;refine yE 14 [] [18] rfl<|xZ [18] N ?_ ?_
   · intro hc2 N;exact wI [] [(24,vY)]<|yN<|zT (ct N H)
   intro hc2 N;refine qL 17 [0] [(20,vA (cExpr s.Value p1 c1 p2 c2 p3 c3)),(21,vI depth)]<|bE N fun y1 hy1 N=>uH (zFu s.Value depth 5 _ hy1 h1 h2 h3) ?_;intro I02 le1;have H:=H.trans le1;exact yI [] [24] rfl<|yN<|zT (ct N H)
 intro t24 I0 le2 hMc;have ⟨h1,h2,h3⟩:=m3 le2 h1 h2 h3;refine zI<|yC hMc ?_ ?_
 · intro hc3 N;refine vJ [(4,vF)]<|xG<|zG ?_;obtain rfl:=zC N;exact wM
 intro hc3 N;refine zS<|yX<|qL 2 [0] [(26,vA (cExpr s.Value p1 c1 p2 c2 p3 c3))]<|bE N fun y2 hy2 N=>gF (zFv s.Value 5 _ hy2 h1 h2 h3) fun I03 le3=>wI [] [(4,.bool (decide (y2 ≤ 12)))]<|zI<|yW ?_;obtain rfl:=zC N;exact wM
def tG (p:(List Int)) (i:Int):Option (Out Unit (Bool)):=do
 if (decide (i < (p.length:Int))) then
  let x←idx p i
  let y←vX x 9999
  if (!y) then
   pure (.ret false)
  else
   tG p (W (i + 1))
 else
  pure (.done ())
 partial_fixpoint
theorem zD1 (p:(List Int)):∀ (i:Int) (o:Out Unit (Bool)),tG p i=some o→∀ {B}{I0 I:Imm}{Q p1 c},I0.le I→(S4 I p1 p c)→NG Q→NO Q→(∀ (I':Imm) ,o=(.done ())→I0.le I'→T 19 B Q (.exit 0) I' [] [(0,vS p1 p c)])→(∀ r I' hs' m',o=(.ret r)→I0.le I'→RS Tryz.prog Tryz.f178 B (zU  r) I' hs' m'→T 19 B Q .ret I' hs' m')→J Tryz.prog 19 B (nav (bodyOf Tryz.f178) [1,0,1,0]) Q I [] [(0,vS p1 p c),(3,vI i)]:=by
 refine tG.partial_correctness p _ fun self ih i o N B I0 I Q p1 c H h hg ho hx hr=>yQ hg ho<|zZ<|yF [7] rfl<|zI<|yC N ?_ ?_
 · intro hc N;refine zS<|zY<|yG<|yD<|yE 2 [] [10,11] rfl<|bE N fun x hy N=>xK rfl rfl h hy ?_;intro ad ccs hat hrep;obtain rfl:=hrep;refine xF 0 hat [vI x] (vI x) rfl<|bE N fun y hy1 N=>uH (eY x 9999 _ hy1 ) ?_;intro I0 le;have ⟨h,H⟩:=m2 le h H;refine yI [] [15] rfl<|zI<|yC N ?_ ?_
   · intro hc1 N;exact vJ [(2,vF)]<|xG<|zV<|zG<|zG<|hr _ _ _ _ (zC N).symm H ⟨_,_,(.tmp rfl ResV.nil),zQ,⟨_,rfl,rfl,rfl⟩⟩
   intro hc1 N;exact zS<|zO<|zI<|zK<|yI [] [3] rfl<|yO<|nF<|ih (W (i + 1)) _ N H h hg ho hx hr
 intro hc N;exact wJ<|yN<|hx _  (zC N).symm H
def mE (p:(List Int)):Option (Bool):=do
 match←tG p 0 with
 | .ret r0=>pure r0
 | .done _ =>
  pure (decide ((p.length:Int) ≤ 4))
theorem zFw:∀ p r,mE p=some r→∀ {I:Imm}{p1 c},(S4 I p1 p c)→RT 178 [vS p1 p c] I [] (zU  r):=by
 intro p r N I p1 c h;unfold mE at N;refine yL Tryz.func178 fun B=>vJ []<|zY<|yF [3] rfl<|xW<|qW [(0,vS p1 p c),(3,vI 0)] ?_;obtain ⟨o0,ho0,hMl⟩:=zB N;refine zD1 p 0 o0 ho0 iR h (fun _ _ _ h=>h) (fun _ _ h=>h) ?_ ?_
 · intro I01  heq le1;subst o0;refine zR<|wH [2] rfl<|zI<|yW ?_;obtain rfl:=zC hMl;exact wM
 intro r0 I9 hs9 m9 heq9 le9 hrs9;subst heq9;refine zV<|zG ?_;obtain rfl:=zC hMl;exact xA hrs9
def tV (list:(List zA)) (depth:Int) (i:Int):Option (Out Unit (Bool)):=do
 if (decide (i < (list.length:Int))) then
  let t26←(do
    let x←idx list i
    let y←uJ x
    if (!y) then
     pure true
    else
     let x1←idx list i
     let y1←pA x1
     pure (decide (y1 > depth))
      : Option Bool)
  if t26 then
   pure (.ret false)
  else
   tV list depth (W (i + 1))
 else
  pure (.done ())
 partial_fixpoint
theorem zEH (list:(List zA)) (depth:Int):∀ (i:Int) (o:Out Unit (Bool)),tV list depth i=some o→∀ {B}{I0 I:Imm}{Q p c},I0.le I→(S4 I p list c)→NG Q→NO Q→(∀ (I':Imm) ,o=(.done ())→I0.le I'→T 35 B Q (.exit 0) I' [] [(0,vS p list c)])→(∀ r I' hs' m',o=(.ret r)→I0.le I'→RS Tryz.prog Tryz.f217 B (zU  r) I' hs' m'→T 35 B Q .ret I' hs' m')→J Tryz.prog 35 B (nav (bodyOf Tryz.f217) [1,0,1,0]) Q I [] [(0,vS p list c),(1,vI depth),(5,vI i)]:=by
 refine tV.partial_correctness list depth _ fun self ih i o N B I0 I Q p c H h hg ho hx hr=>yQ hg ho<|zZ<|yF [9] rfl<|zI<|yC N ?_ ?_
 · intro hc N;refine zS<|zY<|yG<|zZ ?_;refine wT N [] (fun t26=>[(0,vS p list c),(1,vI depth),(5,vI i),(26,.bool t26)]) (fun o0 ho0=>?_) ?_
   · have H:=iS I;refine zK<|yE 2 [] [12,13] rfl ?_;obtain ⟨x,hy,N⟩:=zB ho0;refine xK rfl rfl h hy ?_;intro ad ccs hat hrep;obtain ⟨p1,c1,rfl,h1⟩:=yS hrep;refine xF 0 hat (cAff x p1 c1) (vA (cAff x p1 c1)) rfl<|bE N fun y hy1 N=>uH (kS x _ hy1 h1) ?_;intro I01 le;have ⟨h,H⟩:=m2 le h H;refine yE 7 [] [18] rfl<|xZ [18] N ?_ ?_
     · intro hc1 N;exact wI [] [(26,vY)]<|yN<|zT (ct N H)
     intro hc1 N;refine yE 9 [] [19,20] rfl<|bE N fun x1 hy2 N=>xK rfl rfl h hy2 ?_;intro ad1 ccs1 hat1 hrep1;obtain ⟨p2,c2,rfl,h3⟩:=yS hrep1;refine xF 0 hat1 (cAff x1 p2 c2) (vA (cAff x1 p2 c2)) rfl<|bE N fun y1 hy3 N=>gF (dS x1 _ hy3 h3) ?_;intro I02 le1;have H:=H.trans le1;exact yI [] [26] rfl<|yN<|zT (ct N H)
   intro t26 I0 le2 hMc;have ⟨h,H⟩:=m2 le2 h H;refine zI<|yC hMc ?_ ?_
   · intro hc2 N;exact vJ [(4,vF)]<|xG<|zV<|zG<|zG<|hr _ _ _ _ (zC N).symm H ⟨_,_,(.tmp rfl ResV.nil),zQ,⟨_,rfl,rfl,rfl⟩⟩
   intro hc2 N;exact zS<|zO<|zI<|zK<|yI [] [5] rfl<|yO<|nF<|ih (W (i + 1)) _ N H h hg ho hx hr
 intro hc N;exact wJ<|yN<|hx _  (zC N).symm H
def nX (list:(List zA)) (depth:Int):Option (Bool):=do
 match←tV list depth 0 with
 | .ret r0=>pure r0
 | .done _ =>
  let t4←(do
    if (decide ((list.length:Int) ≥ 1)) then
     pure (decide ((list.length:Int) ≤ 2))
    else
     pure false
      : Option Bool)
  pure (id t4)
theorem zCR:∀ list depth r,nX list depth=some r→∀ {I:Imm}{p c},(S4 I p list c)→RT 217 [vS p list c,vI depth] I [] (zU  r):=by
 intro list depth r N I p c h;unfold nX at N;refine yL Tryz.func217 fun B=>?_;have H:=iS I;refine vJ []<|zY<|yF [5] rfl<|xW<|qW [(0,vS p list c),(1,vI depth),(5,vI 0)] ?_;obtain ⟨o01,ho01,hMl⟩:=zB N;refine zEH list depth 0 o01 ho01 iR h (fun _ _ _ h=>h) (fun _ _ h=>h) ?_ ?_
 · intro I03  heq1 le3;subst o01;have H:=H.trans le3;refine zR<|zI<|zZ ?_;refine wT hMl [] (fun t4=>[(4,.bool t4)]) (fun o02 ho02=>?_) ?_
   · have H:=iS I03;refine zK<|yE 4 [] [30] rfl<|xZ [30] ho02 ?_ ?_
     · intro hc3 N;exact yI [] [4] rfl<|yN<|zT (ct N H)
     intro hc3 N;exact wI [] [(4,vF)]<|yN<|zT (ct N H)
   intro t4 I04 le4 hMc1;refine zI<|yW ?_;obtain rfl:=zC hMc1;exact wM
 intro r0 I9 hs9 m9 heq9 le9 hrs9;subst heq9;refine zV<|zG ?_;obtain rfl:=zC hMl;exact xA hrs9
def wW (nest:(List zE)) (i:Int):Option (Out Unit (Bool)):=do
 let t12←(do
   if (decide (i < (nest.length:Int))) then
    pure (decide ((nest.length:Int) ≤ 4))
   else
    pure false
     : Option Bool)
 if t12 then
  let t32←(do
    let x←idx nest i
    let y←nX x.Lo i
    if (!y) then
     pure true
    else
     let x1←idx nest i
     let y1←nX x1.Hi i
     pure (!y1)
      : Option Bool)
  if t32 then
   pure (.ret false)
  else
   wW nest (W (i + 1))
 else
  pure (.done ())
 partial_fixpoint
theorem zCS (nest:(List zE)):∀ (i:Int) (o:Out Unit (Bool)),wW nest i=some o→∀ {B}{I0 I:Imm}{Q p c},I0.le I→(S4 I p nest c)→NG Q→NO Q→(∀ (I':Imm) ,o=(.done ())→I0.le I'→T 36 B Q (.exit 0) I' [] [(0,vS p nest c)])→(∀ r I' hs' m',o=(.ret r)→I0.le I'→RS Tryz.prog Tryz.f177 B (zU  r) I' hs' m'→T 36 B Q .ret I' hs' m')→J Tryz.prog 36 B (nav (bodyOf Tryz.f177) [1,0,1,0]) Q I [] [(0,vS p nest c),(3,vI i)]:=by
 refine wW.partial_correctness nest _ fun self ih i o N B I0 I Q p c H h hg ho hx hr=>yQ hg ho<|zZ<|zZ ?_;refine wT N [] (fun t12=>[(0,vS p nest c),(3,vI i),(12,.bool t12)]) (fun o0 ho0=>?_) ?_
 · have H:=iS I;refine zK<|yE 5 [] [8] rfl<|xZ [8] ho0 ?_ ?_
   · intro hc N;exact yI [] [12] rfl<|yN<|zT (ct N H)
   intro hc N;exact wI [] [(12,vF)]<|yN<|zT (ct N H)
 intro t12 I0 le hMc;have ⟨h,H⟩:=m2 le h H;refine zI<|yC hMc ?_ ?_
 · intro hc1 N;refine zS<|zY<|yG<|zZ ?_;refine wT N [] (fun t32=>[(0,vS p nest c),(3,vI i),(32,.bool t32)]) (fun o01 ho01=>?_) ?_
   · have H:=iS I0;refine zK<|yE 2 [] [15,16] rfl ?_;obtain ⟨x,hy,N⟩:=zB ho01;refine xK rfl rfl h hy ?_;intro ad ccs hat hrep;obtain ⟨p1,c1,p2,c2,rfl,h1,h2⟩:=sH hrep;refine yE 4 [] [18] rfl<|xF 0 hat [vS p1 x.Lo c1] (vS p1 x.Lo c1) rfl<|yE 6 [] [20] rfl<|bE N fun y hy1 N=>uH (zCR x.Lo i _ hy1 h1) ?_;intro I02 le1;have ⟨h,H⟩:=m2 le1 h H;refine yE 9 [] [23] rfl<|xZ [23] N ?_ ?_
     · intro hc2 N;exact wI [] [(32,vY)]<|yN<|zT (ct N H)
     intro hc2 N;refine yE 11 [] [24,25] rfl<|bE N fun x1 hy2 N=>xK rfl rfl h hy2 ?_;intro ad1 ccs1 hat1 hrep1;obtain ⟨p3,c3,p4,c4,rfl,h4,h5⟩:=sH hrep1;refine yE 13 [] [27] rfl<|xF 1 hat1 [vS p4 x1.Hi c4] (vS p4 x1.Hi c4) rfl<|yE 15 [] [29] rfl<|bE N fun y1 hy3 N=>uH (zCR x1.Hi i _ hy3 h5) ?_;intro I03 le2;have H:=H.trans le2;exact yI [] [32] rfl<|yN<|zT (ct N H)
   intro t32 I01 le3 hMc1;have ⟨h,H⟩:=m2 le3 h H;refine zI<|yC hMc1 ?_ ?_
   · intro hc3 N;exact vJ [(2,vF)]<|xG<|zV<|zG<|zG<|hr _ _ _ _ (zC N).symm H ⟨_,_,(.tmp rfl ResV.nil),zQ,⟨_,rfl,rfl,rfl⟩⟩
   intro hc3 N;exact zS<|zO<|zI<|zK<|yI [] [3] rfl<|yO<|nF<|ih (W (i + 1)) _ N H h hg ho hx hr
 intro hc1 N;exact wJ<|yN<|hx _  (zC N).symm H
def pY (nest:(List zE)):Option (Bool):=do
 match←wW nest 0 with
 | .ret r0=>pure r0
 | .done _ =>
  pure (decide ((nest.length:Int) ≤ 4))
theorem zEI:∀ nest r,pY nest=some r→∀ {I:Imm}{p c},(S4 I p nest c)→RT 177 [vS p nest c] I [] (zU  r):=by
 intro nest r N I p c h;unfold pY at N;refine yL Tryz.func177 fun B=>vJ []<|zY<|yF [3] rfl<|xW<|qW [(0,vS p nest c),(3,vI 0)] ?_;obtain ⟨o02,ho02,hMl⟩:=zB N;refine zCS nest 0 o02 ho02 iR h (fun _ _ _ h=>h) (fun _ _ h=>h) ?_ ?_
 · intro I04  heq2 le4;subst o02;refine zR<|wH [2] rfl<|zI<|yW ?_;obtain rfl:=zC hMl;exact wM
 intro r0 I9 hs9 m9 heq9 le9 hrs9;subst heq9;refine zV<|zG ?_;obtain rfl:=zC hMl;exact xA hrs9
def tW (a0:zA) (point:(List Int)) (n0:Int) (i:Int):Option (Int):=do
 let t19←(do
   if (decide (i < (point.length:Int))) then
    pure (decide (i < (a0.Coefs.length:Int)))
   else
    pure false
     : Option Bool)
 if t19 then
  let x←idx a0.Coefs i
  let x1←idx point i
  tW a0 point (W (n0 + (W (x * x1)))) (W (i + 1))
 else
  pure (id n0)
 partial_fixpoint
theorem zEJ (a0:zA) (point:(List Int)):∀ (n0:Int) (i:Int) (o:Int),tW a0 point n0 i=some o→∀ {B}{I0 I:Imm}{Q p c p1 c1}{b:Nat},I0.le I→(S4 I p1 point c1)→(S4 I p a0.Coefs c)→NG Q→NO Q→(∀ (I':Imm) (n01:Int),o=n01→I0.le I'→T 35 B Q (.exit 0) I' [] [(5,vI n01)])→J Tryz.prog 35 B (nav (bodyOf Tryz.f132) [1,1,0,1,0]) Q I [hB b (cAff a0 p c)] [(1,vS p1 point c1),(2,vP b 0),(5,vI n0),(6,vI i)]:=by
 refine tW.partial_correctness a0 point _ fun self ih n0 i o N B I0 I Q p c p1 c1 b H h1 h hg ho hx=>yQ hg ho<|zZ<|zZ ?_;refine wT N [hB b (cAff a0 p c)] (fun t19=>[(1,vS p1 point c1),(2,vP b 0),(5,vI n0),(6,vI i),(19,.bool t19)]) (fun o0 ho0=>?_) ?_
 · have H:=iS I;refine zK<|yE 5 [] [13] rfl<|xZ [13] ho0 ?_ ?_
   · intro hc N;exact yI [0] [19] rfl<|yN<|zT (ct N H)
   intro hc N;exact wI [] [(19,vF)]<|yN<|zT (ct N H)
 intro t19 I0 le hMc;have ⟨h1,h,H⟩:=m3 le h1 h H;refine zI<|yC hMc ?_ ?_
 · intro hc1 N;refine zS<|zY<|yG<|kF (by kernel_rfl) (by kernel_rfl)<|fX 4 [0] [22,24,25] rfl<|bE N fun x hy N=>dK rfl rfl h hy ?_;intro ad ccs hat hrep;obtain rfl:=hrep;refine fZ 0 hat [vI x] (vI x) rfl<|fX 8 [] [28,29] rfl<|bE N fun x1 hy1 N=>dK rfl rfl h1 hy1 ?_;intro ad1 ccs1 hat1 hrep1;obtain rfl:=hrep1;exact fZ 0 hat1 [vI x1] (vI x1) rfl<|zGg [] [5] rfl<|zO<|zI<|zK<|yI [] [6] rfl<|yO<|nF<|ih (W (n0 + (W (x * x1)))) (W (i + 1)) _ N H h1 h hg ho hx
 intro hc1 N;exact wJ<|xY zQ<|yN<|hx _ _ (zC N).symm H
def qC (a0:zA) (point:(List Int)):Option (Int):=do
 let n01←tW a0 point a0.Const 0
 pure (id n01)
theorem gL:∀ a0 point r,qC a0 point=some r→∀ {I:Imm}{p c p1 c1},(S4 I p a0.Coefs c)→(S4 I p1 point c1)→RT 132 [vA (cAff a0 p c),vS p1 point c1] I [] (yM  r):=by
 intro a0 point r N I p c p1 c1 h h1;unfold qC at N;refine yL Tryz.func132 fun B=>yD<|tS (cAff a0 p c) ?_;intro b hb;refine wI [] []<|yX<|yI [0] [5] rfl<|zY<|yF [6] rfl<|xW<|qW [(1,vS p1 point c1),(2,vP b 0),(5,vI a0.Const),(6,vI 0)] ?_;obtain ⟨o01,ho01,hMl⟩:=zB N;refine zEJ a0 point a0.Const 0 o01 ho01 iR h1 h (fun _ _ _ h=>h) (fun _ _ h=>h) ?_;intro I01 n01 heq1 le1;subst o01;refine zR<|wH [4] rfl<|zI<|yW ?_;obtain rfl:=zC hMl;exact wM
def eE (r:Int×Int):KT:=fun kk I' hs' v=>
  ∃ v0 v1,hs'=[]∧v=tupV [v0,v1]∧v0=.int .i64 r.1∧v1=.int .i64 r.2
def tH (loop:zE) (p2:(List Int)) (lo:Int) (i:Int):Option (Int):=do
 if (decide (i < (loop.Lo.length:Int))) then
  let x2←idx loop.Lo i
  let y2←qC x2 p2
  let lo2←(do
    if (decide (y2 > lo)) then
     pure (id y2)
    else
     pure (id lo)
      : Option Int)
  tH loop p2 lo2 (W (i + 1))
 else
  pure (id lo)
 partial_fixpoint
theorem zD2 (loop:zE) (p2:(List Int)):∀ (lo:Int) (i:Int) (o:Int),tH loop p2 lo i=some o→∀ {B}{I0 I:Imm}{Q}{y1:Int}{p c p1 c1 p3 c2}{b:Nat},I0.le I→(S4 I p3 p2 c2)→(S4 I p loop.Lo c)→(S4 I p1 loop.Hi c1)→NG Q→NO Q→(∀ (I':Imm) (lo1:Int),o=lo1→I0.le I'→T 62 B Q (.exit 0) I' [hB b (cLoop loop p c p1 c1)] [(1,vS p3 p2 c2),(2,vP b 0),(6,vI lo1),(7,vI y1)])→J Tryz.prog 62 B (nav (bodyOf Tryz.f179) [1,1,1,0,1,0]) Q I [hB b (cLoop loop p c p1 c1)] [(1,vS p3 p2 c2),(2,vP b 0),(6,vI lo),(7,vI y1),(8,vI i)]:=by
 refine tH.partial_correctness loop p2 _ fun self ih lo i o N B I0 I Q y1 p c p1 c1 p3 c2 b H h2 h h1 hg ho hx=>yQ hg ho<|zZ<|yD<|yI [0] [28] rfl<|zI<|yC N ?_ ?_
 · intro hc N;refine zS<|zY<|yG<|yD<|yE 3 [0] [32,33] rfl<|bE N fun x2 hy4 N=>xK rfl rfl h hy4 ?_;intro ad2 ccs2 hat2 hrep2;obtain ⟨p6,c5,rfl,h7⟩:=yS hrep2;refine xF 0 hat2 (cAff x2 p6 c5) (vA (cAff x2 p6 c5)) rfl<|yE 6 [] [36] rfl<|bE N fun y2 hy5 N=>gF (gL x2 p2 _ hy5 h7 h2) ?_;intro I02 le2;have ⟨h2,h,h1,H⟩:=m4 le2 h2 h h1 H;refine yI [] [9] rfl<|wH [40] rfl<|zI ?_;refine wT N [hB b (cLoop loop p c p1 c1)] (fun lo2=>[(1,vS p3 p2 c2),(2,vP b 0),(6,vI lo2),(7,vI y1),(8,vI i)]) (fun o0 ho0=>?_) ?_
   · have H:=iS I02;refine yC ho0 ?_ ?_
     · intro hc1 N;exact zK<|yI [] [6] rfl<|yN<|zT (ct N H)
     intro hc1 N;exact zS<|yN<|zT (ct N H)
   intro lo2 I03 le3 hMc;have ⟨h2,h,h1,H⟩:=m4 le3 h2 h h1 H;exact zO<|zI<|zK<|yI [] [8] rfl<|yO<|nF<|ih lo2 (W (i + 1)) _ hMc H h2 h h1 hg ho hx
 intro hc N;exact wJ<|yN<|hx _ _ (zC N).symm H
def tI (loop:zE) (p2:(List Int)) (hi:Int) (i1:Int):Option (Int):=do
 if (decide (i1 < (loop.Hi.length:Int))) then
  let x3←idx loop.Hi i1
  let y3←qC x3 p2
  let hi2←(do
    if (decide (y3 < hi)) then
     pure (id y3)
    else
     pure (id hi)
      : Option Int)
  tI loop p2 hi2 (W (i1 + 1))
 else
  pure (id hi)
 partial_fixpoint
theorem zD3 (loop:zE) (p2:(List Int)):∀ (hi:Int) (i1:Int) (o:Int),tI loop p2 hi i1=some o→∀ {B}{I0 I:Imm}{Q}{lo1:Int}{p c p1 c1 p3 c2}{b:Nat},I0.le I→(S4 I p3 p2 c2)→(S4 I p loop.Lo c)→(S4 I p1 loop.Hi c1)→NG Q→NO Q→(∀ (I':Imm) (hi1:Int),o=hi1→I0.le I'→T 62 B Q (.exit 2) I' [] [(6,vI lo1),(7,vI hi1)])→J Tryz.prog 62 B (nav (bodyOf Tryz.f179) [1,1,1,1,0,1,0]) Q I [hB b (cLoop loop p c p1 c1)] [(1,vS p3 p2 c2),(2,vP b 0),(6,vI lo1),(7,vI hi),(10,vI i1)]:=by
 refine tI.partial_correctness loop p2 _ fun self ih hi i1 o N B I0 I Q lo1 p c p1 c1 p3 c2 b H h2 h h1 hg ho hx=>yQ hg ho<|zZ<|yD<|yI [0] [46] rfl<|zI<|yC N ?_ ?_
 · intro hc2 N;refine zS<|zY<|yG<|yD<|yE 3 [0] [50,51] rfl<|bE N fun x3 hy6 N=>xK rfl rfl h1 hy6 ?_;intro ad3 ccs3 hat3 hrep3;obtain ⟨p7,c6,rfl,h9⟩:=yS hrep3;refine xF 0 hat3 (cAff x3 p7 c6) (vA (cAff x3 p7 c6)) rfl<|yE 6 [] [54] rfl<|bE N fun y3 hy7 N=>gF (gL x3 p2 _ hy7 h9 h2) ?_;intro I05 le5;have ⟨h2,h,h1,H⟩:=m4 le5 h2 h h1 H;refine yI [] [11] rfl<|wH [58] rfl<|zI ?_;refine wT N [hB b (cLoop loop p c p1 c1)] (fun hi2=>[(1,vS p3 p2 c2),(2,vP b 0),(6,vI lo1),(7,vI hi2),(10,vI i1)]) (fun o02 ho02=>?_) ?_
   · have H:=iS I05;refine yC ho02 ?_ ?_
     · intro hc3 N;exact zK<|yI [] [7] rfl<|yN<|zT (ct N H)
     intro hc3 N;exact zS<|yN<|zT (ct N H)
   intro hi2 I06 le6 hMc1;have ⟨h2,h,h1,H⟩:=m4 le6 h2 h h1 H;exact zO<|zI<|zK<|yI [] [10] rfl<|yO<|nF<|ih hi2 (W (i1 + 1)) _ hMc1 H h2 h h1 hg ho hx
 intro hc2 N;exact wJ<|xY zQ<|yN<|hx _ _ (zC N).symm H
def nB (loop:zE) (p2:(List Int)):Option (Int×Int):=do
 let x←idx loop.Lo 0
 let y←qC x p2
 let x1←idx loop.Hi 0
 let y1←qC x1 p2
 let lo1←tH loop p2 y 1
 let hi1←tI loop p2 y1 1
 pure (lo1,hi1)
theorem zBs:∀ loop p2 r,nB loop p2=some r→∀ {I:Imm}{p c p1 c1 p3 c2},(S4 I p loop.Lo c)→(S4 I p1 loop.Hi c1)→(S4 I p3 p2 c2)→RT 179 [vA (cLoop loop p c p1 c1),vS p3 p2 c2] I [] (eE  r):=by
 intro loop p2 r N I p c p1 c1 p3 c2 h h1 h2;unfold nB at N;refine yL Tryz.func179 fun B=>yD<|tS (cLoop loop p c p1 c1) ?_;intro b hb;refine wI [] []<|yX<|yE 2 [0] [13] rfl<|bE N fun x hy N=>xK rfl rfl h hy ?_;intro ad ccs hat hrep;obtain ⟨p4,c3,rfl,h3⟩:=yS hrep;refine xF 0 hat (cAff x p4 c3) (vA (cAff x p4 c3)) rfl<|yE 5 [] [16] rfl<|bE N fun y hy1 N=>gF (gL x p2 _ hy1 h3 h2) ?_;intro I0 le;have ⟨h2,h,h1⟩:=m3 le h2 h h1;refine yI [] [6] rfl<|yX<|yE 2 [0] [19] rfl<|bE N fun x1 hy2 N=>xK rfl rfl h1 hy2 ?_;intro ad1 ccs1 hat1 hrep1;obtain ⟨p5,c4,rfl,h5⟩:=yS hrep1;refine xF 0 hat1 (cAff x1 p5 c4) (vA (cAff x1 p5 c4)) rfl<|yE 5 [] [22] rfl<|bE N fun y1 hy3 N=>gF (gL x1 p2 _ hy3 h5 h2) ?_;intro I01 le1;have ⟨h2,h,h1⟩:=m3 le1 h2 h h1;refine yI [] [7] rfl<|zY<|yF [8] rfl<|xW<|qW [(1,vS p3 p2 c2),(2,vP b 0),(6,vI y),(7,vI y1),(8,vI 1)] ?_;obtain ⟨o01,ho01,hMl⟩:=zB N;refine zD2 loop p2 y 1 o01 ho01 iR h2 h h1 (fun _ _ _ h=>h) (fun _ _ h=>h) ?_;intro I04 lo1 heq1 le4;subst o01;have ⟨h2,h,h1⟩:=m3 le4 h2 h h1;refine zR<|zY<|yF [10] rfl<|xW<|qW [(1,vS p3 p2 c2),(2,vP b 0),(6,vI lo1),(7,vI y1),(10,vI 1)] ?_;obtain ⟨o03,ho03,hMl1⟩:=zB hMl;refine zD3 loop p2 y1 1 o03 ho03 iR h2 h h1 (fun _ _ _ h=>h) (fun _ _ h=>h) ?_;intro I07 hi1 heq3 le7;subst o03;refine zR<|wH [4,5] rfl<|zI<|yW ?_;obtain rfl:=zC hMl1;exact xA ⟨_,_,(.tmp rfl (.tmp rfl ResV.nil)),zQ,⟨_,_,rfl,rfl,rfl,rfl⟩⟩
def zAR (r:(List (List Int))):KT:=fun kk I' hs' v=>
  ∃ a0 c0 s0,hs'=[.osl (.slice a0 r.length c0) (Rp.sz (List Int)) s0]∧v=tupV [(.slice a0 r.length c0)]∧RepL (Rp.rep I') (Rp.sz (List Int)) s0 r
mutual
def vZ (out:(List (List Int))) (nest:(List zE)) (p2:(List Int)):Option ((List (List Int))):=do
 if ((p2.length:Int) == (nest.length:Int)) then
  let l←app 8 ([]:List Int) p2
  let t6←app 24 out ([l]:List (List Int))
  pure (id t6)
 else
  let x←idx nest (p2.length:Int)
  let (y1,y2)←nB x p2
  let out2←tO (same nest) (same p2) (same y2) (same out) (same y1)
  pure (id out2)
 partial_fixpoint
def tO (nest:(List zE)) (p2:(List Int)) (y2:Int) (out1:List (List Int)) (v04:Int):Option (List (List Int)):=do
 let t39←(do
   if (decide (v04 < y2)) then
    pure (decide ((out1.length:Int) ≤ 120))
   else
    pure false
     : Option Bool)
 if t39 then
  let l1←app 8 ([]:List Int) p2
  let l2←app 8 l1 ([v04]:List Int)
  let y3←vZ (same out1) (same nest) (same l2)
  tO (same nest) (same p2) (same y2) (same y3) (W (v04 + 1))
 else
  pure (id out1)
 partial_fixpoint
end
theorem zEK:(∀ (out:(List (List Int))) (nest:(List zE)) (p2:(List Int)) r,vZ out nest p2=some r→∀ {I:Imm}{p c cs p1 c1 p3 c2},(RL I cs out)→(S4 I p1 nest c1)→(S4 I p3 p2 c2)→RT 192 [vS p out c,vS p1 nest c1,vS p3 p2 c2] I [hO (List Int) (vS p out c) cs] (zAR  r))∧(∀ (nest:(List zE)) (p2:(List Int)) (y2:Int) (out1:List (List Int)) (v04:Int) o,tO nest p2 y2 out1 v04=some o→∀ {B}{I0 I:Imm}{Q p1 c1 p3 c2 p8 c7 cs3},I0.le I→(S4 I p1 nest c1)→(S4 I p3 p2 c2)→(RL I cs3 out1)→NG Q→NO Q→(∀ (I':Imm) (out2:List (List Int)) (p9:Option Addr) (c8:Nat) (cs4:List Value),o=out2→I0.le I'→(RL I' cs4 out2)→T 52 B Q (.exit 0) I' [hO (List Int) (vS p9 out2 c8) cs4] [(0,vS p9 out2 c8)])→J Tryz.prog 52 B (nav (bodyOf Tryz.f192) [1,1,1,0,1,0]) Q I [hO (List Int) (vS p8 out1 c7) cs3] [(0,vS p8 out1 c7),(1,vS p1 nest c1),(2,vS p3 p2 c2),(8,vI y2),(9,vI v04)]):=by
  refine vZ.mutual_partial_correctness _ _ ?_ ?_
  · intro F_spec_l2Points_l1 ih_spec_l2Points_l1 out nest p2 r N I p c cs p1 c1 p3 c2 h h1 h2;refine yL Tryz.func192 fun B=>vJ []<|zY<|yF [14] rfl<|zI<|yC N ?_ ?_
    · intro hc N;refine yD<|yE 1 [] [15] rfl<|uN [] Int ?_;intro b hb;have h3:RL I [] ([]:List Int):=rfl;refine yE 3 [] [17] rfl ?_;obtain ⟨ccs,k0,k01⟩:=h2;have h2:SL I (vS p3 p2 c2) p2:=⟨_,k0,k01⟩;obtain ⟨l,hy,N⟩:=zB N;refine rX 3 1 0 rfl rfl rfl h3 (.inl k0) k01 hy fun p4 c3 cs1 h4=>sK (zX [0,1] (hs':=[hO Int (vS p4 l c3) cs1,hO (List Int) (vS p out c) cs]))<|xO 0 rfl ?_;intro I0 le hl0;have h5:=SL.of_frozen hl0 le h4;have h:=iM le h;refine uN [vS p4 l c3] (List Int) ?_;intro b1 hb1;have h6:RL I0 [vS p4 l c3] ([l]:List (List Int)):=⟨[vS p4 l c3],_,rfl,rfl,⟨_,rfl,h5⟩,rfl⟩;obtain ⟨t6,hy1,N⟩:=zB N;refine rX 29 1 1 rfl rfl rfl h (.inr ⟨0,rfl⟩) h6 hy1 fun p5 c4 cs2 h7=>sK (zX [1] (hs':=[hO (List Int) (vS p5 t6 c4) cs2]))<|yI [] [6] rfl<|xG<|zG ?_;obtain rfl:=zC N;exact xA ⟨_,_,(.tmp rfl ResV.nil),(zW [0] rfl (by decide)),⟨_,_,_,rfl,rfl,h7⟩⟩
    intro hc N;refine zS<|yX<|yE 3 [] [22,24] rfl<|bE N fun x hy2 N=>xK rfl rfl h1 hy2 ?_;intro ad ccs1 hat hrep;obtain ⟨p6,c5,p7,c6,rfl,h8,h9⟩:=sH hrep;refine xF 0 hat (cLoop x p6 c5 p7 c6) (vA (cLoop x p6 c5 p7 c6)) rfl<|yE 6 [] [27] rfl ?_;obtain ⟨⟨y1,y2⟩,hy3,N⟩:=zB N;refine xP (zBs x p2 _ hy3 h8 h9 h2) ?_;rintro I01 hs2 v2 k2 le1 - ⟨v02,v03,rfl,rfl,rfl,rfl⟩ -;have ⟨h,h1,h2⟩:=m3 le1 h h1 h2;refine yI [] [7,8] rfl<|zY<|yF [9] rfl<|xW<|qW [(0,vS p out c),(1,vS p1 nest c1),(2,vS p3 p2 c2),(8,vI y2),(9,vI y1)] ?_;obtain ⟨o01,ho01,hMl⟩:=zB N;refine ih_spec_l2Points_l1 nest p2 y2 out y1 o01 ho01 iR h1 h2 h (fun _ _ _ h=>h) (fun _ _ h=>h) ?_;intro I05 out2 p9 c8 cs4 heq1 le5 h13;subst o01;refine zR<|wH [6] rfl<|zI<|yW ?_;obtain rfl:=zC hMl;exact xA ⟨_,_,(.tmp rfl ResV.nil),(zW [0] rfl (by decide)),⟨_,_,_,rfl,rfl,h13⟩⟩
  intro F_spec_l2Points F_spec_l2Points_l1 ih_spec_l2Points ih_spec_l2Points_l1 nest p2 y2 out1 v04 o N B I0 I Q p1 c1 p3 c2 p8 c7 cs3 H h1 h2 h12 hg ho hx;refine yQ hg ho<|zZ<|zZ ?_;refine wT N [hO (List Int) (vS p8 out1 c7) cs3] (fun t39=>[(0,vS p8 out1 c7),(1,vS p1 nest c1),(2,vS p3 p2 c2),(8,vI y2),(9,vI v04),(39,.bool t39)]) (fun o0 ho0=>?_) ?_
  · have H:=iS I;refine zK<|yE 4 [] [35] rfl<|xZ [35] ho0 ?_ ?_
    · intro hc1 N;exact yI [] [39] rfl<|yN<|zT (ct N H)
    intro hc1 N;exact wI [] [(39,vF)]<|yN<|zT (ct N H)
  intro t39 I02 le2 hMc;have ⟨h12,h1,h2,H⟩:=m4 le2 h12 h1 h2 H;refine zI<|yC hMc ?_ ?_
  · intro hc2 N;refine zS<|zY<|yG<|zK<|yE 2 [] [42,43] rfl<|uN [] Int ?_;intro b2 hb2;have h14:RL I02 [] ([]:List Int):=rfl;refine yE 4 [] [45] rfl ?_;obtain ⟨ccs2,k02,k03⟩:=h2;have h2:SL I02 (vS p3 p2 c2) p2:=⟨_,k02,k03⟩;obtain ⟨l1,hy4,N⟩:=zB N;refine rX 3 1 0 rfl rfl rfl h14 (.inl k02) k03 hy4 fun p10 c9 cs5 h15=>sK (zX [0,1] (hs':=[hO Int (vS p10 l1 c9) cs5,hO (List Int) (vS p8 out1 c7) cs3]))<|yE 6 [] [47] rfl<|uN [vI v04] Int ?_;intro b3 hb3;have h16:RL I02 [vI v04] ([v04]:List Int):=rI [v04];obtain ⟨l2,hy5,N⟩:=zB N;refine rX 3 1 1 rfl rfl rfl h15 (.inr ⟨0,rfl⟩) h16 hy5 fun p11 c10 cs6 h17=>sK (zX [1,2] (hs':=[hO Int (vS p11 l2 c10) cs6,hO (List Int) (vS p8 out1 c7) cs3]))<|xO 0 rfl ?_;intro I03 le3 hl01;have h18:=SL.of_frozen hl01 le3 h17;have ⟨h1,h2,h12,H⟩:=m4 le3 h1 h2 h12 H;obtain ⟨y3,hy6,N⟩:=zB N;refine sJ (ih_spec_l2Points out1 nest l2 _ hy6 h12 h1 h18) rfl ?_;rintro I04 hs2 v2 k2 le4 - ⟨p12,c11,cs7,rfl,rfl,h19⟩ -;have ⟨h1,h2,H⟩:=m3 le4 h1 h2 H;exact yI [] [0] rfl<|zO<|zI<|zK<|yI [] [9] rfl<|yO<|nF<|ih_spec_l2Points_l1 nest p2 y2 y3 (W (v04 + 1)) _ N H h1 h2 h19 hg ho hx
  intro hc2 N;exact wJ<|yN<|hx _ _ _ _ _ (zC N).symm H h12
theorem zBI:∀ out nest p2 r,vZ out nest p2=some r→∀ {I:Imm}{p c cs p1 c1 p3 c2},(RL I cs out)→(S4 I p1 nest c1)→(S4 I p3 p2 c2)→RT 192 [vS p out c,vS p1 nest c1,vS p3 p2 c2] I [hO (List Int) (vS p out c) cs] (zAR  r):=zEK.1
mutual
def sS (nest:(List zE)) (p1:(List Int)) (most:Int):Option (Int):=do
 if ((p1.length:Int) == (nest.length:Int)) then
  pure (id 1)
 else
  let x←idx nest (p1.length:Int)
  let (y1,y2)←nB x p1
  let n01←sZ (same nest) (same p1) (same most) (same y2) (same 1) (same y1)
  pure (id n01)
 partial_fixpoint
def sZ (nest:(List zE)) (p1:(List Int)) (most:Int) (y2:Int) (n0:Int) (v04:Int):Option (Int):=do
 let t35←(do
   if (decide (v04 < y2)) then
    pure (decide (n0 ≤ most))
   else
    pure false
     : Option Bool)
 if t35 then
  let l←app 8 ([]:List Int) p1
  let l1←app 8 l ([v04]:List Int)
  let y3←sS (same nest) (same l1) (W (most - n0))
  sZ (same nest) (same p1) (same most) (same y2) (W (n0 + y3)) (W (v04 + 1))
 else
  pure (id n0)
 partial_fixpoint
end
theorem zFx:(∀ (nest:(List zE)) (p1:(List Int)) (most:Int) r,sS nest p1 most=some r→∀ {I:Imm}{p c p2 c1},(S4 I p nest c)→(S4 I p2 p1 c1)→RT 231 [vS p nest c,vS p2 p1 c1,vI most] I [] (yM  r))∧(∀ (nest:(List zE)) (p1:(List Int)) (most:Int) (y2:Int) (n0:Int) (v04:Int) o,sZ nest p1 most y2 n0 v04=some o→∀ {B}{I0 I:Imm}{Q p c p2 c1},I0.le I→(S4 I p nest c)→(S4 I p2 p1 c1)→NG Q→NO Q→(∀ (I':Imm) (n01:Int),o=n01→I0.le I'→T 52 B Q (.exit 0) I' [] [(7,vI n01)])→J Tryz.prog 52 B (nav (bodyOf Tryz.f231) [1,1,1,1,0,1,0]) Q I [] [(0,vS p nest c),(1,vS p2 p1 c1),(2,vI most),(7,vI n0),(9,vI y2),(10,vI v04)]):=by
  refine sS.mutual_partial_correctness _ _ ?_ ?_
  · intro F_spec_l2Work_l1 ih_spec_l2Work_l1 nest p1 most r N I p c p2 c1 h h1;refine yL Tryz.func231 fun B=>vJ []<|wH [7] rfl<|zY<|yF [15] rfl<|zI<|yC N ?_ ?_
    · intro hc N;refine yF [6] rfl<|xG<|zG ?_;obtain rfl:=zC N;exact wM
    intro hc N;refine zS<|yX<|yE 3 [] [18,20] rfl<|bE N fun x hy N=>xK rfl rfl h hy ?_;intro ad ccs hat hrep;obtain ⟨p3,c2,p4,c3,rfl,h2,h3⟩:=sH hrep;refine xF 0 hat (cLoop x p3 c2 p4 c3) (vA (cLoop x p3 c2 p4 c3)) rfl<|yE 6 [] [23] rfl ?_;obtain ⟨⟨y1,y2⟩,hy1,N⟩:=zB N;refine xP (zBs x p1 _ hy1 h2 h3 h1) ?_;rintro I0 hs2 v2 k2 le - ⟨v02,v03,rfl,rfl,rfl,rfl⟩ -;have ⟨h,h1⟩:=m2 le h h1;refine yI [] [8,9] rfl<|zY<|yF [10] rfl<|xW<|qW [(0,vS p nest c),(1,vS p2 p1 c1),(2,vI most),(7,vI 1),(9,vI y2),(10,vI y1)] ?_;obtain ⟨o01,ho01,hMl⟩:=zB N;refine ih_spec_l2Work_l1 nest p1 most y2 1 y1 o01 ho01 iR h h1 (fun _ _ _ h=>h) (fun _ _ h=>h) ?_;intro I04 n01 heq1 le4;subst o01;refine zR<|wH [6] rfl<|zI<|yW ?_;obtain rfl:=zC hMl;exact wM
  intro F_spec_l2Work F_spec_l2Work_l1 ih_spec_l2Work ih_spec_l2Work_l1 nest p1 most y2 n0 v04 o N B I0 I Q p c p2 c1 H h h1 hg ho hx;refine yQ hg ho<|zZ<|zZ ?_;refine wT N [] (fun t35=>[(0,vS p nest c),(1,vS p2 p1 c1),(2,vI most),(7,vI n0),(9,vI y2),(10,vI v04),(35,.bool t35)]) (fun o0 ho0=>?_) ?_
  · have H:=iS I;refine zK<|yE 4 [] [31] rfl<|xZ [31] ho0 ?_ ?_
    · intro hc1 N;exact yI [] [35] rfl<|yN<|zT (ct N H)
    intro hc1 N;exact wI [] [(35,vF)]<|yN<|zT (ct N H)
  intro t35 I01 le1 hMc;have ⟨h,h1,H⟩:=m3 le1 h h1 H;refine zI<|yC hMc ?_ ?_
  · intro hc2 N;refine zS<|zY<|yG<|zK<|yE 2 [] [38,39] rfl<|uN [] Int ?_;intro b hb;have h6:RL I01 [] ([]:List Int):=rfl;refine yE 4 [] [41] rfl ?_;obtain ⟨ccs1,k0,k01⟩:=h1;have h1:SL I01 (vS p2 p1 c1) p1:=⟨_,k0,k01⟩;obtain ⟨l,hy2,N⟩:=zB N;refine rX 3 1 0 rfl rfl rfl h6 (.inl k0) k01 hy2 fun p5 c4 cs h7=>sK (zX [0] (hs':=[hO Int (vS p5 l c4) cs]))<|yE 6 [] [43] rfl<|uN [vI v04] Int ?_;intro b1 hb1;have h8:RL I01 [vI v04] ([v04]:List Int):=rI [v04];obtain ⟨l1,hy3,N⟩:=zB N;refine rX 3 1 1 rfl rfl rfl h7 (.inr ⟨0,rfl⟩) h8 hy3 fun p6 c5 cs1 h9=>sK (zX [1] (hs':=[hO Int (vS p6 l1 c5) cs1]))<|yE 11 [] [48] rfl<|xO 0 rfl ?_;intro I02 le2 hl0;have h10:=SL.of_frozen hl0 le2 h9;have ⟨h,h1,H⟩:=m3 le2 h h1 H;obtain ⟨y3,hy4,N⟩:=zB N;refine xP (ih_spec_l2Work nest l1 (W (most - n0)) _ hy4 h h10) ?_;rintro I03 hs2 v2 k2 le3 - ⟨v05,rfl,rfl,rfl⟩ -;have ⟨h,h1,H⟩:=m3 le3 h h1 H;exact yI [] [7] rfl<|zO<|zI<|zK<|yI [] [10] rfl<|yO<|nF<|ih_spec_l2Work_l1 nest p1 most y2 (W (n0 + y3)) (W (v04 + 1)) _ N H h h1 hg ho hx
  intro hc2 N;exact wJ<|yN<|hx _ _ (zC N).symm H
theorem zGl:∀ nest p1 most r,sS nest p1 most=some r→∀ {I:Imm}{p c p2 c1},(S4 I p nest c)→(S4 I p2 p1 c1)→RT 231 [vS p nest c,vS p2 p1 c1,vI most] I [] (yM  r):=zFx.1
def dO (r:(List (List Int))×Bool):KT:=fun kk I' hs' v=>
  ∃ v0 v1,hs'=[]∧v=tupV [v0,v1]∧SL I' v0 r.1∧v1=.bool r.2
def pD (nest:(List zE)):Option ((List (List Int))×Bool):=do
 let t12←(do
   let y←pY nest
   if (!y) then
    pure true
   else
    let y1←sS nest ([]:List Int) 1200
    pure (decide (y1 > 1200))
     : Option Bool)
 if t12 then
  pure (([]:List (List Int)),false)
 else
  let y2←vZ ([]:List (List Int)) nest ([]:List Int)
  if (decide ((y2.length:Int) > 120)) then
   pure (([]:List (List Int)),false)
  else
   pure (y2,true)
theorem zD4:∀ nest r,pD nest=some r→∀ {I:Imm}{p c},(S4 I p nest c)→RT 190 [vS p nest c] I [] (dO  r):=by
 intro nest r N I p c h;unfold pD at N;refine yL Tryz.func190 fun B=>?_;have H:=iS I;refine vJ []<|zY<|zZ ?_;refine wT N [] (fun t12=>[(0,vS p nest c),(12,.bool t12)]) (fun o0 ho0=>?_) ?_
 · have H:=iS I;refine zK<|yE 1 [] [5] rfl ?_;obtain ⟨y,hy,N⟩:=zB ho0;refine uH (zEI nest _ hy h) ?_;intro I01 le;have ⟨h,H⟩:=m2 le h H;refine yE 4 [] [8] rfl<|xZ [8] N ?_ ?_
   · intro hc N;exact wI [] [(12,vY)]<|yN<|zT (ct N H)
   intro hc N;refine yE 5 [] [9] rfl<|bE N fun y1 hy1 N=>gF (zGl nest ([]:List Int) 1200 _ hy1 h (SL.nil _)) ?_;intro I02 le1;have H:=H.trans le1;exact yI [] [12] rfl<|yN<|zT (ct N H)
 intro t12 I0 le2 hMc;have h:=h.mono le2;refine zI<|yC hMc ?_ ?_
 · intro hc1 N;refine yD<|uN [] (List Int) ?_;intro b hb;have h3:RL I0 [] ([]:List (List Int)):=rfl;refine yI [] [2,3] rfl<|xG<|zG<|yV 0 rfl ?_;intro I03 le3 hl0;have h4:=SL.of_frozen hl0 le3 h3;obtain rfl:=zC N;exact xA ⟨_,_,(.tmp rfl (.tmp rfl ResV.nil)),zQ,⟨_,_,rfl,rfl,h4,rfl⟩⟩
 intro hc1 N;refine zS<|yX<|uN [] (List Int) ?_;intro b1 hb1;have h5:RL I0 [] ([]:List (List Int)):=rfl;refine yE 2 [] [15] rfl<|bE N fun y2 hy2 N=>sJ (zBI ([]:List (List Int)) nest ([]:List Int) _ hy2 h5 h (SL.nil _)) rfl ?_;rintro I04 hs2 v2 k2 le4 - ⟨p1,c1,cs,rfl,rfl,h6⟩ -;refine yI [] [4] rfl<|zY<|yF [19] rfl<|zI<|yC N ?_ ?_
 · intro hc2 N;refine yD<|uN [] (List Int) ?_;intro b2 hb2;have h7:RL I04 [] ([]:List (List Int)):=rfl;refine yI [] [2,3] rfl<|xG<|zG<|yV 0 rfl ?_;intro I05 le5 hl01;have h8:=SL.of_frozen hl01 le5 h7;obtain rfl:=zC N;exact xA ⟨_,_,(.tmp rfl (.tmp rfl ResV.nil)),zQ,⟨_,_,rfl,rfl,h8,rfl⟩⟩
 intro hc2 N;refine zS<|wH [2,3] rfl<|xG<|yV 0 rfl ?_;intro I06 le6 hl02;have h9:=SL.of_frozen hl02 le6 h6;obtain rfl:=zC N;exact xA ⟨_,_,(.tmp rfl (.tmp rfl ResV.nil)),zQ,⟨_,_,rfl,rfl,h9,rfl⟩⟩
def tX (a0:zF) (n0:Int) (i:Int):Option (Int):=do
 if (decide (i < (a0.Dims.length:Int))) then
  let x←idx a0.Dims i
  tX a0 (W (n0 * x)) (W (i + 1))
 else
  pure (id n0)
 partial_fixpoint
theorem zEL (a0:zF):∀ (n0:Int) (i:Int) (o:Int),tX a0 n0 i=some o→∀ {B}{I0 I:Imm}{Q p c}{b:Nat},I0.le I→(S4 I p a0.Dims c)→NG Q→NO Q→(∀ (I':Imm) (n01:Int),o=n01→I0.le I'→T 20 B Q (.exit 0) I' [] [(3,vI n01)])→J Tryz.prog 20 B (nav (bodyOf Tryz.f176) [1,1,0,1,0]) Q I [hB b (cArr a0 p c)] [(1,vP b 0),(3,vI n0),(4,vI i)]:=by
 refine tX.partial_correctness a0 _ fun self ih n0 i o N B I0 I Q p c b H h hg ho hx=>yQ hg ho<|zZ<|yD<|yI [0] [9] rfl<|zI<|yC N ?_ ?_
 · intro hc N;refine zS<|zY<|yG<|zK<|yE 4 [0] [12,14,15] rfl<|bE N fun x hy N=>xK rfl rfl h hy ?_;intro ad ccs hat hrep;obtain rfl:=hrep;exact xF 0 hat [vI x] (vI x) rfl<|yI [] [3] rfl<|zO<|zI<|zK<|yI [] [4] rfl<|yO<|nF<|ih (W (n0 * x)) (W (i + 1)) _ N H h hg ho hx
 intro hc N;exact wJ<|xY zQ<|yN<|hx _ _ (zC N).symm H
def kH (a0:zF):Option (Int):=do
 let n01←tX a0 1 0
 pure (id n01)
theorem zGm:∀ a0 r,kH a0=some r→∀ {I:Imm}{p c},(S4 I p a0.Dims c)→RT 176 [vA (cArr a0 p c)] I [] (yM  r):=by
 intro a0 r N I p c h;unfold kH at N;refine yL Tryz.func176 fun B=>yD<|tS (cArr a0 p c) ?_;intro b hb;refine wI [] []<|wH [3] rfl<|zY<|yF [4] rfl<|xW<|qW [(1,vP b 0),(3,vI 1),(4,vI 0)] ?_;obtain ⟨o0,ho0,hMl⟩:=zB N;refine zEL a0 1 0 o0 ho0 iR h (fun _ _ _ h=>h) (fun _ _ h=>h) ?_;intro I0 n01 heq le;subst o0;refine zR<|wH [2] rfl<|zI<|yW ?_;obtain rfl:=zC hMl;exact wM
def uU (list:(List zF)) (a0:zJ) (point:(List Int)) (i:Int) (n0:Int) (k0:Int):Option (Out Int (Int)):=do
 if (decide (k0 < (a0.Subs.length:Int))) then
  let x2←idx list i
  if ((a0.Subs.length:Int) != (x2.Dims.length:Int)) then
   pure (.ret (-1))
  else
   let x3←idx a0.Subs k0
   let y1←qC x3 point
   let t70←(do
     if (decide (y1 < 0)) then
      pure true
     else
      let x4←idx list i
      let x5←idx x4.Dims k0
      pure (decide (y1 ≥ x5))
       : Option Bool)
   if t70 then
    pure (.ret (-1))
   else
    let x6←idx list i
    let x7←idx x6.Dims k0
    uU list a0 point i (W ((W (n0 * x7)) + y1)) (W (k0 + 1))
 else
  pure (.done n0)
 partial_fixpoint
theorem zEM (list:(List zF)) (a0:zJ) (point:(List Int)) (i:Int):∀ (n0:Int) (k0:Int) (o:Out Int (Int)),uU list a0 point i n0 k0=some o→∀ {B}{I0 I:Imm}{Q}{base:Int}{p c p1 c1 p2 c2}{b:Nat},I0.le I→(S4 I p list c)→(S4 I p2 point c2)→(S4 I p1 a0.Subs c1)→NG Q→NO Q→(∀ (I':Imm) (n01:Int),o=(.done n01)→I0.le I'→T 86 B Q (.exit 2) I' [] [(7,vI base),(9,vI n01)])→(∀ r I' hs' m',o=(.ret r)→I0.le I'→RS Tryz.prog Tryz.f133 B (yM  r) I' hs' m'→T 86 B Q .ret I' hs' m')→J Tryz.prog 86 B (nav (bodyOf Tryz.f133) [1,1,0,1,0,0,1,0,0,1,1,0,1,0]) Q I [hB b (cAccess a0 p1 c1)] [(0,vS p list c),(2,vS p2 point c2),(4,vP b 0),(7,vI base),(8,vI i),(9,vI n0),(10,vI k0)]:=by
 refine uU.partial_correctness list a0 point i _ fun self ih n0 k0 o N B I0 I Q base p c p1 c1 p2 c2 b H h h2 h1 hg ho hx hr=>yQ hg ho<|zZ<|yD<|yI [0] [37] rfl<|zI<|yC N ?_ ?_
 · intro hc2 N;refine zS<|zY<|yG<|zZ<|zZ<|kF (by kernel_rfl) (by kernel_rfl)<|fX 5 [0] [42,43,44] rfl<|bE N fun x2 hy3 N=>dK rfl rfl h hy3 ?_;intro ad2 ccs2 hat2 hrep2;obtain ⟨p5,c5,rfl,h6⟩:=wO hrep2;refine fX 7 [] [46] rfl<|fZ 1 hat2 [vS p5 x2.Dims c5] (vS p5 x2.Dims c5) rfl<|zGg [] [49] rfl<|zI<|yC N ?_ ?_
   · intro hc3 N;exact yF [6] rfl<|xG<|zG<|zV<|zG<|zG<|hr _ _ _ _ (zC N).symm H ⟨_,_,(.tmp rfl ResV.nil),zQ,⟨_,rfl,rfl,rfl⟩⟩
   intro hc3 N;refine zS<|yX<|yE 3 [0] [51,52] rfl<|bE N fun x3 hy4 N=>xK rfl rfl h1 hy4 ?_;intro ad3 ccs3 hat3 hrep3;obtain ⟨p6,c6,rfl,h7⟩:=yS hrep3;refine xF 0 hat3 (cAff x3 p6 c6) (vA (cAff x3 p6 c6)) rfl<|yE 6 [] [55] rfl<|bE N fun y1 hy5 N=>gF (gL x3 point _ hy5 h7 h2) ?_;intro I01 le1;have ⟨h,h2,h1,H⟩:=m4 le1 h h2 h1 H;refine yI [] [11] rfl<|zY<|zZ ?_;refine wT N [hB b (cAccess a0 p1 c1)] (fun t70=>[(0,vS p list c),(2,vS p2 point c2),(4,vP b 0),(7,vI base),(8,vI i),(9,vI n0),(10,vI k0),(11,vI y1),(70,.bool t70)]) (fun o0 ho0=>?_) ?_
   · have H:=iS I01;refine zK<|yE 3 [] [59] rfl<|xZ [59] ho0 ?_ ?_
     · intro hc4 N;exact wI [] [(70,vY)]<|yN<|zT (ct N H)
     intro hc4 N;refine yE 6 [] [60,61,62] rfl<|bE N fun x4 hy6 N=>xK rfl rfl h hy6 ?_;intro ad4 ccs4 hat4 hrep4;obtain ⟨p7,c7,rfl,h9⟩:=wO hrep4;refine yE 8 [] [64] rfl<|xF 1 hat4 [vS p7 x4.Dims c7] (vS p7 x4.Dims c7) rfl<|yE 10 [] [66] rfl<|bE N fun x5 hy7 N=>xK rfl rfl h9 hy7 ?_;intro ad5 ccs5 hat5 hrep5;obtain rfl:=hrep5;exact xF 0 hat5 [vI x5] (vI x5) rfl<|yI [] [70] rfl<|yN<|zT (ct N H)
   intro t70 I02 le2 hMc;have ⟨h,h2,h1,H⟩:=m4 le2 h h2 h1 H;refine zI<|yC hMc ?_ ?_
   · intro hc5 N;exact yF [6] rfl<|xG<|zG<|zV<|zG<|zG<|hr _ _ _ _ (zC N).symm H ⟨_,_,(.tmp rfl ResV.nil),zQ,⟨_,rfl,rfl,rfl⟩⟩
   intro hc5 N;refine zS<|zI<|zK<|yE 3 [] [71,72,73] rfl<|bE N fun x6 hy8 N=>xK rfl rfl h hy8 ?_;intro ad6 ccs6 hat6 hrep6;obtain ⟨p8,c8,rfl,h10⟩:=wO hrep6;refine yE 5 [] [75] rfl<|xF 1 hat6 [vS p8 x6.Dims c8] (vS p8 x6.Dims c8) rfl<|yE 7 [] [77] rfl<|bE N fun x7 hy9 N=>xK rfl rfl h10 hy9 ?_;intro ad7 ccs7 hat7 hrep7;obtain rfl:=hrep7;exact xF 0 hat7 [vI x7] (vI x7) rfl<|yI [] [9] rfl<|zO<|zI<|zK<|yI [] [10] rfl<|yO<|nF<|ih (W ((W (n0 * x7)) + y1)) (W (k0 + 1)) _ N H h h2 h1 hg ho hx hr
 intro hc2 N;exact wJ<|xY zQ<|yN<|hx _ _ (zC N).symm H
def uV (list:(List zF)) (a0:zJ) (point:(List Int)) (base:Int) (i:Int):Option (Out Unit (Int)):=do
 if (decide (i < (list.length:Int))) then
  let x←idx list i
  if (!(x.Name.l == a0.Array.l)) then
   let x1←idx list i
   let y←kH x1
   uV list a0 point (W (base + y)) (W (i + 1))
  else
   match←uU list a0 point i 0 0 with
   | .ret r0=>pure (.ret r0)
   | .done n01 =>
    pure (.ret (W (base + n01)))
 else
  pure (.done ())
 partial_fixpoint
theorem zEN (list:(List zF)) (a0:zJ) (point:(List Int)):∀ (base:Int) (i:Int) (o:Out Unit (Int)),uV list a0 point base i=some o→∀ {B}{I0 I:Imm}{Q p c p1 c1 p2 c2}{b:Nat},I0.le I→(S4 I p list c)→(S4 I p2 point c2)→(S4 I p1 a0.Subs c1)→NG Q→NO Q→(∀ (I':Imm) ,o=(.done ())→I0.le I'→T 86 B Q (.exit 0) I' [] [])→(∀ r I' hs' m',o=(.ret r)→I0.le I'→RS Tryz.prog Tryz.f133 B (yM  r) I' hs' m'→T 86 B Q .ret I' hs' m')→J Tryz.prog 86 B (nav (bodyOf Tryz.f133) [1,1,0,1,0]) Q I [hB b (cAccess a0 p1 c1)] [(0,vS p list c),(2,vS p2 point c2),(4,vP b 0),(7,vI base),(8,vI i)]:=by
 refine uV.partial_correctness list a0 point _ fun self ih base i o N B I0 I Q p c p1 c1 p2 c2 b H h h2 h1 hg ho hx hr=>yQ hg ho<|zZ<|yF [15] rfl<|zI<|yC N ?_ ?_
 · intro hc N;refine zS<|zY<|yG<|zZ<|zZ<|kF (by kernel_rfl) (by kernel_rfl)<|fX 2 [] [18,19] rfl<|bE N fun x hy N=>dK rfl rfl h hy ?_;intro ad ccs hat hrep;obtain ⟨p3,c3,rfl,h3⟩:=wO hrep;refine fX 4 [] [21] rfl<|fZ 0 hat [vT x.Name.l] (vT x.Name.l) rfl<|zGg [0] [25] rfl<|zI<|yC N ?_ ?_
   · intro hc1 N;refine yD<|yE 3 [] [26,27,28] rfl<|bE N fun x1 hy1 N=>xK rfl rfl h hy1 ?_;intro ad1 ccs1 hat1 hrep1;obtain ⟨p4,c4,rfl,h4⟩:=wO hrep1;refine xF 0 hat1 (cArr x1 p4 c4) (vA (cArr x1 p4 c4)) rfl<|bE N fun y hy2 N=>gF (zGm x1 _ hy2 h4) ?_;intro I0 le;have ⟨h,h2,h1,H⟩:=m4 le h h2 h1 H;exact yI [] [7] rfl<|zI<|zEr<|jK<|zR<|zI<|zK<|yI [] [8] rfl<|yO<|nF<|ih (W (base + y)) (W (i + 1)) _ N H h h2 h1 hg ho hx hr
   intro hc1 N;refine zS<|wH [9] rfl<|zY<|yF [10] rfl<|xW<|qW [(0,vS p list c),(2,vS p2 point c2),(4,vP b 0),(7,vI base),(8,vI i),(9,vI 0),(10,vI 0)] ?_;obtain ⟨o01,ho01,hMl⟩:=zB N;refine zEM list a0 point i 0 0 o01 ho01 iR h h2 h1 (fun _ _ _ h=>hg _ _ _ h) (fun _ _ h=>ho _ _ h) ?_ ?_
   · intro I03 n01 heq1 le3;subst o01;have H:=H.trans le3;exact zR<|wH [6] rfl<|xG<|zV<|zG<|zG<|hr _ _ _ _ (zC hMl).symm H ⟨_,_,(.tmp rfl ResV.nil),zQ,⟨_,rfl,rfl,rfl⟩⟩
   intro r0 I9 hs9 m9 heq9 le9 hrs9;subst heq9;exact zV<|zG<|zV<|zG<|zG<|hr _ _ _ _ (zC hMl).symm (H.trans le9) hrs9
 intro hc N;exact wJ<|xY zQ<|yN<|hx _  (zC N).symm H
def nY (list:(List zF)) (a0:zJ) (point:(List Int)):Option (Int):=do
 match←uV list a0 point 0 0 with
 | .ret r0=>pure r0
 | .done _ =>
  pure (-1)
theorem zCT:∀ list a0 point r,nY list a0 point=some r→∀ {I:Imm}{p c p1 c1 p2 c2},(S4 I p list c)→(S4 I p1 a0.Subs c1)→(S4 I p2 point c2)→RT 133 [vS p list c,vA (cAccess a0 p1 c1),vS p2 point c2] I [] (yM  r):=by
 intro list a0 point r N I p c p1 c1 p2 c2 h h1 h2;unfold nY at N;refine yL Tryz.func133 fun B=>yD<|tS (cAccess a0 p1 c1) ?_;intro b hb;refine wI [] []<|wH [7] rfl<|zY<|yF [8] rfl<|xW<|qW [(0,vS p list c),(2,vS p2 point c2),(4,vP b 0),(7,vI 0),(8,vI 0)] ?_;obtain ⟨o02,ho02,hMl1⟩:=zB N;refine zEN list a0 point 0 0 o02 ho02 iR h h2 h1 (fun _ _ _ h=>h) (fun _ _ h=>h) ?_ ?_
 · intro I04  heq2 le4;subst o02;refine zR<|wH [6] rfl<|zI<|yW ?_;obtain rfl:=zC hMl1;exact wM
 intro r0 I9 hs9 m9 heq9 le9 hrs9;subst heq9;refine zV<|zG ?_;obtain rfl:=zC hMl1;exact xA hrs9
end Go.LN
