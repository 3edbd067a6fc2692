/- Helper of the proof (see the last text). -/
import Derived.Test.YtmlnffbepjijhaaGreatHM1
set_option linter.unusedVariables false
set_option linter.unusedSimpArgs false
namespace Go.LN
open Go.Proofs
set_option maxRecDepth 20000
def zAK (b0:Nat) (r:zF×zP):KT:=fun kk I' hs' v=>
  ∃ v0 k0,hs'=[.blk b0 ⟨k0⟩]/\v=tupV [v0]/\(∃ cs,v0=.agg ⟨cs⟩/\Rp.rep I' cs r.1)/\Rp.rep I' k0 r.2
def nO (r0:zP) (p1:zF):Option (zF×zP):=do
 let y<-rK p1
 let (y2,y3)<-xF r0 60
 let (Arrays,Parts,x)<-(do
   if (y2==0) then
    let (y5,y6)<-qK y3 ([(⟨[65]⟩:Str),(⟨[68]⟩:Str),(⟨[69]⟩:Str)]:List Str)
    let (y8,y9)<-xG y6 ([7,0,3,(-1)]:List Int)
    let l<-app 40 y.Arrays ([(zD.mk y5 ([y8]:List Int))]:List zD)
    pure (l,y.Parts,y9)
   else
    let (Arrays1,Parts1,x1)<-(do
      if (y2==1) then
       let (Arrays2,x2)<-(do
         if (decide ((y.Arrays.length:Int)>0)) then
          let (y11,y12)<-xG y3 ([1,2,7]:List Int)
          let x3<-idx y.Arrays 0
          let l1<-pure (y.Arrays.set (0:Int).toNat (zD.mk x3.Name ([y11]:List Int)))
          pure (l1,y12)
         else
          pure (y.Arrays,y3)
           : Option (List zD×zP))
       pure (Arrays2,y.Parts,x2)
      else
       let (Parts2,x4)<-(do
         if (y2==2) then
          let (Parts3,x5)<-(do
            if (decide ((y.Parts.length:Int)>0)) then
             let x6<-idx y.Parts 0
             let (y14,y15)<-kO y3 x6.Nest
             let (y17,y18)<-kO y15 y14
             let (y20,y21)<-kO y18 y17
             let x7<-idx y.Parts 0
             let l2<-pure (y.Parts.set (0:Int).toNat (zI.mk y20 x7.Body))
             pure (l2,y21)
            else
             pure (y.Parts,y3)
              : Option (List zI×zP))
          pure (Parts3,x5)
         else
          let (Parts4,x8)<-(do
            if (y2==3) then
             let t76<-(do
               if (decide ((y.Parts.length:Int)>0)) then
                let x9<-idx y.Parts (W ((y.Parts.length:Int) - 1))
                pure (decide ((x9.Body.length:Int)>0))
               else
                pure false
                 : Option Bool)
             let (Parts5,x10)<-(do
               if t76 then
                let x11<-idx y.Parts (W ((y.Parts.length:Int) - 1))
                let x12<-idx x11.Body 0
                let (y22,y23)<-qL y3 x12
                let (y24,y25)<-qL y23 y22
                let (y26,y27)<-qL y25 y24
                let l3<-pure ((y.Parts).set (W ((y.Parts.length:Int) - 1)).toNat (zI.mk x11.Nest (x11.Body.set 0 y26)))
                pure (l3,y27)
               else
                pure (y.Parts,y3)
                 : Option (List zI×zP))
             pure (Parts5,x10)
            else
             let Parts6<-(do
               if (y2==4) then
                let Parts7<-(do
                  if (decide ((y.Parts.length:Int)>0)) then
                   let x13<-idx y.Parts (W ((y.Parts.length:Int) - 1))
                   let l4<-pure (y.Parts.set (W ((y.Parts.length:Int) - 1)).toNat (zI.mk x13.Nest ([]:List zJ)))
                   pure (id l4)
                  else
                   pure y.Parts
                    : Option (List zI))
                pure (id Parts7)
               else
                pure y.Parts
                 : Option (List zI))
             pure (Parts6,y3)
              : Option (List zI×zP))
          pure (Parts4,x8)
           : Option (List zI×zP))
       pure (y.Arrays,Parts2,x4)
        : Option (List zD×List zI×zP))
    pure (Arrays1,Parts1,x1)
     : Option (List zD×List zI×zP))
 pure ((zF.mk Arrays Parts),x)
theorem zFL:∀ (r0:zP) (p1:zF) r,nO r0 p1=some r->∀ {I:Imm}{r01:Nat}{p c p2 c1 p3 c2},(S4 I p r0.b c)->(S4 I p2 p1.Arrays c1)->(S4 I p3 p1.Parts c2)->(∀ (y:zF) (y2:Int) (y3:zP) (x:zI) (s:zJ),rK p1=some y->xF r0 60=some (y2,y3)->(y2==3)=true->idx y.Parts (W ((y.Parts.length:Int) - 1))=some x->idx x.Body 0=some s->False)->RT 49 [vP r01 0,vA (cProg p1 p2 c1 p3 c2)] I [hB r01 (cRd r0 p c)] (zAK r01 r):=by
 intro r0 p1 r N I r01 p c p2 c1 p3 c2 h h1 h2 hne;unfold nO at N;refine yJ Tryz.func49 fun B=>?_;have H:=iS I;refine yC<|vK (cProg p1 p2 c1 p3 c2) ?_;intro b hb;refine xU zTwo ?_;intro b1 hb1;refine zX rfl<|yX<|tZ 1 [1] [(7,vA (cProg p1 p2 c1 p3 c2))]<|bE N fun y hy N=>xH (zH4 p1 _ hy h1 h2) ?_;rintro I0 hs2 v2 k2 le - ⟨p4,c3,cs,p5,c4,cs1,rfl,rfl,h3,h4⟩ -;have ⟨h,H⟩:=m2 le h H;refine xU zTwo ?_;intro b2 hb2;refine yZ 0 (cProg y p4 c3 p5 c4) rfl<|zX rfl<|yX<|yM [0] [6] rfl<|zZ<|yC<|yE 1 [] [12] rfl<|sW (zY [5,0,1,2,3,4] (hs':=[hB r01 (cRd r0 p c),hB b2 (cProg y p4 c3 p5 c4),hO zD (vS p4 y.Arrays c3) cs,hO zI (vS p5 y.Parts c4) cs1,hB b1 zTwo,hB b (cProg p1 p2 c1 p3 c2)])) ?_;obtain ⟨⟨y2,y3⟩,hy1,N⟩:=zB N;refine rS (wD r0 60 _ hy1 h) rfl ?_;rintro I01 hs2 v2 k2 le1 - ⟨v0,kk,rfl,rfl,rfl,h6⟩ -;have ⟨h3,h4,H⟩:=m3 le1 h3 h4 H;obtain ⟨p6,c5,rfl,h7⟩:=yA h6;refine zX rfl<|wK<|yH [14] rfl<|zK<|qX 5 rfl ?_;intro I02 le2 hl0;have hat:At I02 ⟨b,0,none⟩ (cProg p1 p2 c1 p3 c2):=At.of_blk hl0;have ⟨h7,h3,h4,H⟩:=m4 le2 h7 h3 h4 H;obtain ⟨o0,ho0,hMc⟩:=zB N;refine nN (fun I' hs' m'=>∃ (Arrays:List zD) (Parts:List zI) (x:zP) (p7:Option Addr) (c6:Nat) (cs2:List Value) (p8:Option Addr) (c7:Nat) (cs3:List Value) (p9:Option Addr) (c8:Nat),o0=(Arrays,Parts,x)/\I02.le I'/\(RL I' cs2 Arrays)/\(RL I' cs3 Parts)/\(S4 I' p9 x.b c8)/\hs'=[hB r01 (cRd x p9 c8),hB b2 [vS p7 Arrays c6,vS p8 Parts c7],hO zD (vS p7 Arrays c6) cs2,hO zI (vS p8 Parts c7) cs3,hB b1 zTwo]/\m'=[(4,vP b1 0),(5,vP b2 0)]) ?_ ?_
 · have H:=iS I02;refine yG ho0 ?_ ?_
   · intro hc N;obtain ⟨⟨y5,y6⟩,hy2,N⟩:=zB N;obtain ⟨⟨y8,y9⟩,hy3,N⟩:=zB N;obtain ⟨l,hy4,N⟩:=zB N;refine wP [.p (vP b2 0) [],.p (vS p4 y.Arrays c3) [0],.p (vP r01 0) [],.x (fun I' v hx=>∃ b3,v=vS (some ⟨b3,0,none⟩) ([(⟨[65]⟩:Str),(⟨[68]⟩:Str),(⟨[69]⟩:Str)]:List Str) 3/\hx=[]/\(SL I' (vS (some ⟨b3,0,none⟩) ([(⟨[65]⟩:Str),(⟨[68]⟩:Str),(⟨[69]⟩:Str)]:List Str) 3) ([(⟨[65]⟩:Str),(⟨[68]⟩:Str),(⟨[69]⟩:Str)]:List Str))),.x (fun I' v hx=>∃ p10 c9,v=vT y5.l/\hx=[hB r01 (cRd y6 p10 c9)]/\(S4 I' p10 y6.b c9)),.p (vP r01 0) [],.x (fun I' v hx=>∃ b4,v=vS (some ⟨b4,0,none⟩) ([7,0,3,(-1)]:List Int) 4/\hx=[]/\(SL I' (vS (some ⟨b4,0,none⟩) ([7,0,3,(-1)]:List Int) 4) ([7,0,3,(-1)]:List Int))),.x (fun I' v hx=>∃ p11 c10,v=vI y8/\hx=[hB r01 (cRd y9 p11 c10)]/\(S4 I' p11 y9.b c10)),.x (fun I' v hx=>∃ b5,v=vS (some ⟨b5,0,none⟩) ([y8]:List Int) 1/\hx=[]/\(SL I' (vS (some ⟨b5,0,none⟩) ([y8]:List Int) 1) ([y8]:List Int))),.x (fun I' v hx=>∃ b51,v=vA [vT y5.l,vS (some ⟨b51,0,none⟩) ([y8]:List Int) 1]/\hx=[]/\(SL I' (vS (some ⟨b51,0,none⟩) ([y8]:List Int) 1) ([y8]:List Int))),.x (fun I' v hx=>∃ b6,v=vS (some ⟨b6,0,none⟩) ([(zD.mk y5 ([y8]:List Int))]:List zD) 1/\hx=[]/\(SL I' (vS (some ⟨b6,0,none⟩) ([(zD.mk y5 ([y8]:List Int))]:List zD) 1) ([(zD.mk y5 ([y8]:List Int))]:List zD))),.x (fun I' v hx=>∃ p12 c11 cs4,v=vS p12 l c11/\hx=[hO zD (vS p12 l c11) cs4]/\(RL I' cs4 l))] [[],[(0,false)],[],[],[(2,false),(3,false),(14,true)],[],[],[(5,false),(6,false),(4,true)],[(7,false)],[(4,false),(8,false)],[(9,false)],[(1,false),(10,false),(15,true)]] [hB b2 (cProg y p4 c3 p5 c4),hO zI (vS p5 y.Parts c4) cs1,hB b1 zTwo] [[hB r01 (cRd y3 p6 c5)],[hO zD (vS p4 y.Arrays c3) cs]] [(7,true),(11,true)] (zY [1,3,4,0,2]) ?_ ?_
     · refine Op<|Op<|Op<|Ox ?_<|Ox ?_<|Op<|Ox ?_<|Ox ?_<|Ox ?_<|Ox ?_<|Ox ?_<|Ox ?_<|On
       · intro I1 hf le1;refine dS [] ?_;have H:=iS I1;refine mU (rT [(⟨[65]⟩:Str),(⟨[68]⟩:Str),(⟨[69]⟩:Str)]) ?_;intro b3 I04 le3 h12;have H:=H.trans le3;exact yL [] H ⟨_,rfl,rfl,h12⟩
       · rintro I1 hf le1 _ _ ⟨rfl,rfl⟩ _ _ ⟨b3,rfl,rfl,h12⟩ _ _ rfl;refine yV [18,19] rfl ?_;have H:=iS I1;have h7:=h7.mono le1;refine rS (jB y3 ([(⟨[65]⟩:Str),(⟨[68]⟩:Str),(⟨[69]⟩:Str)]:List Str) _ hy2 h7 h12) rfl ?_;rintro I05 hs2 v2 k2 le4 - ⟨v02,kk1,rfl,rfl,rfl,h14⟩ -;have H:=H.trans le4;obtain ⟨p10,c9,rfl,h15⟩:=yA h14;exact yL [hB r01 (cRd y6 p10 c9)] H ⟨_,_,rfl,rfl,h15⟩
       · intro I1 hf le1;refine dS [] ?_;have H:=iS I1;refine mU (rI [7,0,3,(-1)]) ?_;intro b4 I06 le5 h17;have H:=H.trans le5;exact yL [] H ⟨_,rfl,rfl,h17⟩
       · rintro I1 hf le1 _ _ ⟨rfl,rfl⟩ _ _ ⟨b4,rfl,rfl,h17⟩ _ _ ⟨p10,c9,rfl,rfl,h15⟩;refine yV [21,22] rfl ?_;have H:=iS I1;refine rS (xR y6 ([7,0,3,(-1)]:List Int) _ hy3 h15 h17) rfl ?_;rintro I07 hs2 v2 k2 le6 - ⟨v04,kk2,rfl,rfl,rfl,h19⟩ -;have H:=H.trans le6;obtain ⟨p11,c10,rfl,h20⟩:=yA h19;exact yL [hB r01 (cRd y9 p11 c10)] H ⟨_,_,rfl,rfl,h20⟩
       · rintro I1 hf le1 _ _ ⟨p11,c10,rfl,rfl,h20⟩;refine yV [23] rfl ?_;have H:=iS I1;refine mU (rI [y8]) ?_;intro b5 I08 le7 h22;have H:=H.trans le7;exact yL [] H ⟨_,rfl,rfl,h22⟩
       · rintro I1 hf le1 _ _ ⟨p10,c9,rfl,rfl,h15⟩ _ _ ⟨b5,rfl,rfl,h22⟩;exact yV [20,24] rfl<|qA 10 [(25,vA [vT y5.l,vS (some ⟨b5,0,none⟩) ([y8]:List Int) 1])]<|yL [] iR ⟨_,rfl,rfl,h22⟩
       · rintro I1 hf le1 _ _ ⟨b51,rfl,rfl,h221⟩;refine yV [25] rfl ?_;have H:=iS I1;refine mU (rc (zD.mk y5 ([y8]:List Int)) (uO ⟨_,rfl,h221⟩) rN) ?_;intro b6 I09 le8 h24;have H:=H.trans le8;exact yL [] H ⟨_,rfl,rfl,h24⟩
       rintro I1 hf le1 _ _ ⟨rfl,rfl⟩ _ _ ⟨b6,rfl,rfl,h24⟩ _ _ rfl;refine yV [17,26] rfl ?_;have h3:=iM le1 h3;obtain ⟨ccs,k0,k01⟩:=h24;have h24:SL I1 (vS (some ⟨b6,0,none⟩) ([(zD.mk y5 ([y8]:List Int))]:List zD) 1) ([(zD.mk y5 ([y8]:List Int))]:List zD):=⟨_,k0,k01⟩;exact qD 60 2 0 rfl rfl rfl h3 (.inl k0) k01 hy4 fun p12 c11 cs4 h25=>vH (hs':=(hO zD (vS p12 l c11) cs4::hB b2 (cProg y p4 c3 p5 c4)::hO zI (vS p5 y.Parts c4) cs1::hB b1 zTwo::hf)) rfl<|yL [hO zD (vS p12 l c11) cs4] iR ⟨_,_,_,rfl,rfl,h25⟩
     rintro I010 le9 _ _ ⟨p11,c10,rfl,rfl,h20⟩ _ _ ⟨p12,c11,cs4,rfl,rfl,h25⟩;refine yV [4,5,27] rfl ?_;have ⟨h4,H⟩:=m2 le9 h4 H;exact yE 13 [] [28] rfl<|yZ 2 [vS p12 l c11,vS p5 y.Parts c4] rfl<|zX rfl<|wG (zW [1,2,0,3,4] rfl (by decide))<|yW<|zU ⟨_,_,_,_,_,_,_,_,_,_,_,(zC N).symm,H,h25,h4,h20,rfl,rfl⟩
   intro hc N;refine yH [29] rfl<|zK ?_;obtain ⟨o01,ho01,hMc1⟩:=zB N;refine nN (fun I' hs' m'=>∃ (Arrays1:List zD) (Parts1:List zI) (x1:zP) (p13:Option Addr) (c12:Nat) (cs5:List Value) (p14:Option Addr) (c13:Nat) (cs6:List Value) (p15:Option Addr) (c14:Nat),o01=(Arrays1,Parts1,x1)/\I02.le I'/\(RL I' cs5 Arrays1)/\(RL I' cs6 Parts1)/\(S4 I' p15 x1.b c14)/\hs'=[hB r01 (cRd x1 p15 c14),hB b2 [vS p13 Arrays1 c12,vS p14 Parts1 c13],hO zD (vS p13 Arrays1 c12) cs5,hO zI (vS p14 Parts1 c13) cs6,hB b1 zTwo]/\m'=[(4,vP b1 0),(5,vP b2 0)]) ?_ ?_
   · have H:=iS I02;refine yG ho01 ?_ ?_
     · intro hc1 N;refine yC<|yM [1] [34] rfl<|zK ?_;obtain ⟨o02,ho02,hMc2⟩:=zB N;refine nN (fun I' hs' m'=>∃ (Arrays2:List zD) (x2:zP) (p16:Option Addr) (c15:Nat) (cs7:List Value) (p17:Option Addr) (c16:Nat),o02=(Arrays2,x2)/\I02.le I'/\(RL I' cs7 Arrays2)/\(S4 I' p17 x2.b c16)/\hs'=[hB r01 (cRd x2 p17 c16),hB b2 [vS p16 Arrays2 c15,vS p5 y.Parts c4],hO zD (vS p16 Arrays2 c15) cs7,hO zI (vS p5 y.Parts c4) cs1,hB b1 zTwo]/\m'=[(4,vP b1 0),(5,vP b2 0)]) ?_ ?_
       · have H:=iS I02;refine yG ho02 ?_ ?_
         · intro hc2 N;obtain ⟨⟨y11,y12⟩,hy5,N⟩:=zB N;refine wP [.p (vP b2 0) [],.p (vS p4 y.Arrays c3) [0],.p (vP r01 0) [],.x (fun I' v hx=>∃ b7,v=vS (some ⟨b7,0,none⟩) ([1,2,7]:List Int) 3/\hx=[]/\(SL I' (vS (some ⟨b7,0,none⟩) ([1,2,7]:List Int) 3) ([1,2,7]:List Int))),.x (fun I' v hx=>∃ p18 c17,v=vI y11/\hx=[hB r01 (cRd y12 p18 c17)]/\(S4 I' p18 y12.b c17)),.x (fun I' v hx=>∃ b8,v=vS (some ⟨b8,0,none⟩) ([y11]:List Int) 1/\hx=[]/\(SL I' (vS (some ⟨b8,0,none⟩) ([y11]:List Int) 1) ([y11]:List Int)))] [[],[(0,false)],[],[],[(2,false),(3,false),(9,true)],[(4,false)]] [hB b2 (cProg y p4 c3 p5 c4),hO zD (vS p4 y.Arrays c3) cs,hO zI (vS p5 y.Parts c4) cs1,hB b1 zTwo] [[hB r01 (cRd y3 p6 c5)]] [(1,false),(4,true),(5,false)] (zY [1,2,3,4,0]) ?_ ?_
           · refine Op<|Op<|Op<|Ox ?_<|Ox ?_<|Ox ?_<|On
             · intro I1 hf le1;refine dS [] ?_;have H:=iS I1;refine mU (rI [1,2,7]) ?_;intro b7 I013 le10 h32;have H:=H.trans le10;exact yL [] H ⟨_,rfl,rfl,h32⟩
             · rintro I1 hf le1 _ _ ⟨rfl,rfl⟩ _ _ ⟨b7,rfl,rfl,h32⟩ _ _ rfl;refine yV [37,38] rfl ?_;have H:=iS I1;have h7:=h7.mono le1;refine rS (xR y3 ([1,2,7]:List Int) _ hy5 h7 h32) rfl ?_;rintro I014 hs2 v2 k2 le11 - ⟨v06,kk3,rfl,rfl,rfl,h34⟩ -;have H:=H.trans le11;obtain ⟨p18,c17,rfl,h35⟩:=yA h34;exact yL [hB r01 (cRd y12 p18 c17)] H ⟨_,_,rfl,rfl,h35⟩
             rintro I1 hf le1 _ _ ⟨p18,c17,rfl,rfl,h35⟩;refine yV [39] rfl ?_;have H:=iS I1;refine mU (rI [y11]) ?_;intro b8 I015 le12 h37;have H:=H.trans le12;exact yL [] H ⟨_,rfl,rfl,h37⟩
           rintro I016 le13 _ _ ⟨rfl,rfl⟩ _ _ ⟨p18,c17,rfl,rfl,h35⟩ _ _ ⟨b8,rfl,rfl,h37⟩;refine yV [4,5,36,40] rfl ?_;have ⟨h3,H⟩:=m2 le13 h3 H;obtain ⟨x3,hy6,N⟩:=zB N;refine nU 2 rfl rfl rfl h3 hy6 ?_;intro ad ccs1 hat1 hcc hrep;obtain ⟨p19,c18,rfl,h38⟩:=xL hrep;refine yE 8 [] [42] rfl ?_;obtain ⟨l1,hy7,N⟩:=zB N;refine qE (c:=[vT x3.Name.l,vS (some ⟨b8,0,none⟩) ([y11]:List Int) 1]) (x':=(zD.mk x3.Name ([y11]:List Int))) 2 1 rfl rfl rfl hat1 rfl rfl hcc (by kernel_rfl) (by kernel_rfl) (by kernel_rfl) h3 hy6 (by kernel_rfl) (uO ⟨_,rfl,h37⟩) ?_;rw [show y.Arrays.set (0:Int).toNat (zD.mk x3.Name ([y11]:List Int))=l1 from zC hy7];intro cs8 h39 hl07;exact fY (m':=[(4,vP b1 0),(5,vP b2 0),(40,vS (some ⟨b8,0,none⟩) ([y11]:List Int) 1)]) ⟨rfl,rfl,rfl,trivial⟩<|zCX (hs':=[hB r01 (cRd y12 p18 c17),hB b2 [vS p4 l1 c3,vS p5 y.Parts c4],hO zD (vS p4 l1 c3) cs8,hO zI (vS p5 y.Parts c4) cs1,hB b1 zTwo]) (m':=[(4,vP b1 0),(5,vP b2 0),(40,vS (some ⟨b8,0,none⟩) ([y11]:List Int) 1)]) (by first | rfl | simp only [vS,hl07,List.nil_append,List.cons_append,List.set_cons_zero,List.set_cons_succ,List.eraseIdx_cons_zero,List.eraseIdx_cons_succ]) (by first | rfl | simp only [vS,hl07])<|zX rfl<|yW<|zU ⟨_,_,_,_,_,_,_,(zC N).symm,H,h39,h35,rfl,rfl⟩
         intro hc2 N;exact zS<|yW<|zU ⟨_,_,_,_,_,_,_,(zC N).symm,H,h3,h7,rfl,rfl⟩
       rintro I012 hs2 m2 ⟨Arrays2,x2,p16,c15,cs7,p17,c16,heq,le14,h29,h30,rfl,rfl⟩;subst o02;have ⟨h4,H⟩:=m2 le14 h4 H;exact yW<|zU ⟨_,_,_,_,_,_,_,_,_,_,_,(zC hMc2).symm,H,h29,h4,h30,rfl,rfl⟩
     intro hc1 N;refine yH [43] rfl<|zK ?_;obtain ⟨o03,ho03,hMc3⟩:=zB N;refine nN (fun I' hs' m'=>∃ (Parts2:List zI) (x4:zP) (p20:Option Addr) (c19:Nat) (cs9:List Value) (p21:Option Addr) (c20:Nat),o03=(Parts2,x4)/\I02.le I'/\(RL I' cs9 Parts2)/\(S4 I' p21 x4.b c20)/\hs'=[hB r01 (cRd x4 p21 c20),hB b2 [vS p4 y.Arrays c3,vS p20 Parts2 c19],hO zD (vS p4 y.Arrays c3) cs,hO zI (vS p20 Parts2 c19) cs9,hB b1 zTwo]/\m'=[(4,vP b1 0),(5,vP b2 0)]) ?_ ?_
     · have H:=iS I02;refine yG ho03 ?_ ?_
       · intro hc3 N;refine yH [46] rfl<|zK ?_;obtain ⟨o04,ho04,hMc4⟩:=zB N;refine nN (fun I' hs' m'=>∃ (Parts3:List zI) (x5:zP) (p22:Option Addr) (c21:Nat) (cs10:List Value) (p23:Option Addr) (c22:Nat),o04=(Parts3,x5)/\I02.le I'/\(RL I' cs10 Parts3)/\(S4 I' p23 x5.b c22)/\hs'=[hB r01 (cRd x5 p23 c22),hB b2 [vS p4 y.Arrays c3,vS p22 Parts3 c21],hO zD (vS p4 y.Arrays c3) cs,hO zI (vS p22 Parts3 c21) cs10,hB b1 zTwo]/\m'=[(4,vP b1 0),(5,vP b2 0)]) ?_ ?_
         · have H:=iS I02;refine yG ho04 ?_ ?_
           · intro hc4 N;obtain ⟨x6,hy8,N⟩:=zB N;obtain ⟨⟨y14,y15⟩,hy9,N⟩:=zB N;obtain ⟨⟨y17,y18⟩,hy10,N⟩:=zB N;obtain ⟨⟨y20,y21⟩,hy11,N⟩:=zB N;refine wP [.p (vP b2 1) [],.p (vS p5 y.Parts c4) [0],.p (vP r01 0) [],.p (vP r01 0) [],.p (vP r01 0) [],.p (vP b2 1) [],.p (vS p5 y.Parts c4) [0],.x (fun I' v hx=>∃ ad1 p24 c23 p25 c24,v=.pointer (some ad1)/\hx=[]/\(AtO (vS p5 y.Parts c4) (Rp.sz zI) (0:Int).toNat ad1)/\((cs1.drop ((0:Int).toNat*Rp.sz zI)).take (Rp.sz zI)=(cPart x6 p24 c23 p25 c24))/\(S4 I' p24 x6.Nest c23)/\(S4 I' p25 x6.Body c24)),.x (fun I' v hx=>∃ ad11 p241 c231 p251 c241,v=.pointer (some ad11)/\hx=[]/\(AtO (vS p5 y.Parts c4) (Rp.sz zI) (0:Int).toNat ad11)/\((cs1.drop ((0:Int).toNat*Rp.sz zI)).take (Rp.sz zI)=(cPart x6 p241 c231 p251 c241))/\(S4 I' p241 x6.Nest c231)/\(S4 I' p251 x6.Body c241)),.x (eS x6.Nest),.x (fun I' v hx=>∃ p26 c25 p27 c26,v=vS p26 y14 c25/\hx=[hB r01 (cRd y15 p27 c26)]/\(S4 I' p26 y14 c25)/\(S4 I' p27 y15.b c26)),.x (fun I' v hx=>∃ p28 c27 p29 c28,v=vS p28 y17 c27/\hx=[hB r01 (cRd y18 p29 c28)]/\(S4 I' p28 y17 c27)/\(S4 I' p29 y18.b c28)),.x (fun I' v hx=>∃ p30 c29 p31 c30,v=vS p30 y20 c29/\hx=[hB r01 (cRd y21 p31 c30)]/\(S4 I' p30 y20 c29)/\(S4 I' p31 y21.b c30))] [[],[(0,false)],[],[],[],[],[(5,false)],[(6,false)],[(7,false)],[(8,false)],[(4,false),(9,false),(16,true)],[(3,false),(10,true)],[(2,false),(11,true)]] [hB b2 (cProg y p4 c3 p5 c4),hO zD (vS p4 y.Arrays c3) cs,hO zI (vS p5 y.Parts c4) cs1,hB b1 zTwo] [[hB r01 (cRd y3 p6 c5)]] [(1,false),(12,true)] (zY [1,2,3,4,0]) ?_ ?_
             · refine Op<|Op<|Op<|Op<|Op<|Op<|Op<|Ox ?_<|Ox ?_<|Ox ?_<|Ox ?_<|Ox ?_<|Ox ?_<|On
               · intro I1 hf le1;refine yV [53] rfl ?_;have h4:=iM le1 h4;refine nU 2 rfl rfl rfl h4 hy8 ?_;intro ad1 ccs2 hat2 hcc1 hrep1;obtain ⟨p24,c23,p25,c24,rfl,h44,h45⟩:=wH hrep1;exact yL [] iR ⟨_,_,_,_,_,rfl,rfl,hat2,hcc1,h44,h45⟩
               · rintro I1 hf le1 _ _ ⟨ad1,p24,c23,p25,c24,rfl,rfl,hat2,hcc1,h44,h45⟩;exact yV [54] rfl<|qA 9 [(55,.pointer (some ad1))]<|yL [] iR ⟨_,_,_,_,_,rfl,rfl,hat2,hcc1,h44,h45⟩
               · rintro I1 hf le1 _ _ ⟨ad11,p241,c231,p251,c241,rfl,rfl,hat21,hcc11,h441,h451⟩;exact yV [55] rfl<|zBu 2 0 hat21 hcc11 [vS p241 x6.Nest c231] (vS p241 x6.Nest c231) rfl rfl<|yL [] iR ⟨_,_,rfl,rfl,h441⟩
               · rintro I1 hf le1 _ _ ⟨rfl,rfl⟩ _ _ ⟨p2411,c2311,rfl,rfl,h4411⟩ _ _ rfl;refine yV [51,56] rfl ?_;have H:=iS I1;have h7:=h7.mono le1;refine rS (zA3 y3 x6.Nest _ hy9 h7 h4411) rfl ?_;rintro I019 hs2 v2 k2 le15 - ⟨v011,kk4,rfl,rfl,h46,h47⟩ -;have H:=H.trans le15;obtain ⟨p26,c25,rfl⟩:=h46.form;obtain ⟨p27,c26,rfl,h48⟩:=yA h47;exact yL [hB r01 (cRd y15 p27 c26)] H ⟨_,_,_,_,rfl,rfl,h46,h48⟩
               · rintro I1 hf le1 _ _ ⟨rfl,rfl⟩ _ _ ⟨p26,c25,p27,c26,rfl,rfl,h46,h48⟩;refine yV [50,57] rfl ?_;have H:=iS I1;refine rS (zA3 y15 y14 _ hy10 h48 h46) rfl ?_;rintro I020 hs2 v2 k2 le16 - ⟨v013,kk5,rfl,rfl,h49,h50⟩ -;have H:=H.trans le16;obtain ⟨p28,c27,rfl⟩:=h49.form;obtain ⟨p29,c28,rfl,h51⟩:=yA h50;exact yL [hB r01 (cRd y18 p29 c28)] H ⟨_,_,_,_,rfl,rfl,h49,h51⟩
               rintro I1 hf le1 _ _ ⟨rfl,rfl⟩ _ _ ⟨p28,c27,p29,c28,rfl,rfl,h49,h51⟩;refine yV [49,58] rfl ?_;have H:=iS I1;refine rS (zA3 y18 y17 _ hy11 h51 h49) rfl ?_;rintro I021 hs2 v2 k2 le17 - ⟨v015,kk6,rfl,rfl,h52,h53⟩ -;have H:=H.trans le17;obtain ⟨p30,c29,rfl⟩:=h52.form;obtain ⟨p31,c30,rfl,h54⟩:=yA h53;exact yL [hB r01 (cRd y21 p31 c30)] H ⟨_,_,_,_,rfl,rfl,h52,h54⟩
             rintro I022 le18 _ _ ⟨rfl,rfl⟩ _ _ ⟨p30,c29,p31,c30,rfl,rfl,h52,h54⟩;refine yV [4,5,48,59] rfl ?_;have ⟨h4,H⟩:=m2 le18 h4 H;obtain ⟨x7,hy12,N⟩:=zB N;refine nU 3 rfl rfl rfl h4 hy12 ?_;intro ad2 ccs3 hat3 hcc2 hrep2;obtain ⟨p32,c31,p33,c32,rfl,h55,h56⟩:=wH hrep2;refine yE 15 [] [61] rfl ?_;obtain ⟨l2,hy13,N⟩:=zB N;refine qE (c:=[vS p30 y20 c29,vS p33 x7.Body c32]) (x':=(zI.mk y20 x7.Body)) 3 0 rfl rfl rfl hat3 rfl rfl hcc2 (by kernel_rfl) (by kernel_rfl) (by kernel_rfl) h4 hy12 (by kernel_rfl) (uQ ⟨_,_,rfl,h52,h56⟩) ?_;rw [show y.Parts.set (0:Int).toNat (zI.mk y20 x7.Body)=l2 from zC hy13];intro cs11 h57 hl08;exact fY (m':=[(4,vP b1 0),(5,vP b2 0),(59,vS p30 y20 c29)]) ⟨rfl,rfl,rfl,trivial⟩<|zCX (hs':=[hB r01 (cRd y21 p31 c30),hB b2 [vS p4 y.Arrays c3,vS p5 l2 c4],hO zD (vS p4 y.Arrays c3) cs,hO zI (vS p5 l2 c4) cs11,hB b1 zTwo]) (m':=[(4,vP b1 0),(5,vP b2 0),(59,vS p30 y20 c29)]) (by first | rfl | simp only [vS,hl08,List.nil_append,List.cons_append,List.set_cons_zero,List.set_cons_succ,List.eraseIdx_cons_zero,List.eraseIdx_cons_succ]) (by first | rfl | simp only [vS,hl08])<|zX rfl<|yW<|zU ⟨_,_,_,_,_,_,_,(zC N).symm,H,h57,h54,rfl,rfl⟩
           intro hc4 N;exact zS<|yW<|zU ⟨_,_,_,_,_,_,_,(zC N).symm,H,h4,h7,rfl,rfl⟩
         rintro I018 hs2 m2 ⟨Parts3,x5,p22,c21,cs10,p23,c22,heq1,le19,h42,h43,rfl,rfl⟩;subst o04;have H:=H.trans le19;exact yW<|zU ⟨_,_,_,_,_,_,_,(zC hMc4).symm,H,h42,h43,rfl,rfl⟩
       intro hc3 N;refine yH [62] rfl<|zK ?_;obtain ⟨o05,ho05,hMc5⟩:=zB N;refine nN (fun I' hs' m'=>∃ (Parts4:List zI) (x8:zP) (p34:Option Addr) (c33:Nat) (cs12:List Value) (p35:Option Addr) (c34:Nat),o05=(Parts4,x8)/\I02.le I'/\(RL I' cs12 Parts4)/\(S4 I' p35 x8.b c34)/\hs'=[hB r01 (cRd x8 p35 c34),hB b2 [vS p4 y.Arrays c3,vS p34 Parts4 c33],hO zD (vS p4 y.Arrays c3) cs,hO zI (vS p34 Parts4 c33) cs12,hB b1 zTwo]/\m'=[(4,vP b1 0),(5,vP b2 0)]) ?_ ?_
       · have H:=iS I02;refine yG ho05 ?_ ?_
         · intro hc5 N;refine yD ?_;refine uB N [hB r01 (cRd y3 p6 c5),hB b2 (cProg y p4 c3 p5 c4),hO zD (vS p4 y.Arrays c3) cs,hO zI (vS p5 y.Parts c4) cs1,hB b1 zTwo] (fun t76=>[(0,vP r01 0),(4,vP b1 0),(5,vP b2 0),(6,vI (y.Parts.length:Int)),(76,.bool t76)]) (fun o06 ho06=>?_) ?_
           · have H:=iS I02;refine zM<|yE 3 [] [66] rfl<|wO [66] ho06 ?_ ?_
             · intro hc6 N;refine yE 7 [1] [68,70] rfl<|bE N fun x9 hy14 N=>nU 3 rfl rfl rfl h4 hy14 ?_;intro ad3 ccs4 hat4 hcc3 hrep3;obtain ⟨p36,c35,p37,c36,rfl,h60,h61⟩:=wH hrep3;exact yE 9 [] [72] rfl<|zBu 3 1 hat4 hcc3 [vS p37 x9.Body c36] (vS p37 x9.Body c36) rfl rfl<|yM [] [76] rfl<|yW<|zU (ct N H)
             intro hc6 N;exact wU [] [(76,vF)]<|yW<|zU (ct N H)
           intro t76 I024 le20 hMc6;have ⟨h7,h4,H⟩:=m3 le20 h7 h4 H;refine zK ?_;obtain ⟨o07,ho07,hMc7⟩:=zB hMc6;refine nN (fun I' hs' m'=>∃ (Parts5:List zI) (x10:zP) (p38:Option Addr) (c37:Nat) (cs13:List Value) (p39:Option Addr) (c38:Nat),o07=(Parts5,x10)/\I024.le I'/\(RL I' cs13 Parts5)/\(S4 I' p39 x10.b c38)/\hs'=[hB r01 (cRd x10 p39 c38),hB b2 [vS p4 y.Arrays c3,vS p38 Parts5 c37],hO zD (vS p4 y.Arrays c3) cs,hO zI (vS p38 Parts5 c37) cs13,hB b1 zTwo]/\m'=[(4,vP b1 0),(5,vP b2 0)]) ?_ ?_
           · have H:=iS I024;refine yG ho07 ?_ ?_
             · intro hc7 N;obtain ⟨x11,hy15,N⟩:=zB N;obtain ⟨x12,hy16,N⟩:=zB N;obtain ⟨⟨y22,y23⟩,hy17,N⟩:=zB N;obtain ⟨⟨y24,y25⟩,hy18,N⟩:=zB N;obtain ⟨⟨y26,y27⟩,hy19,N⟩:=zB N;obtain ⟨l3,hy20,N⟩:=zB N;have hF:False:=hne _ _ _ _ _ (by assumption) (by assumption) (by assumption) hy15 hy16;obtain ⟨p40,c39,cs14,p41,c40,h64,h65⟩:∃ p40 c39 cs14 p41 c40,(RL I024 cs14 l3)/\(S4 I024 p41 y27.b c40):=hF.elim;exact zM1 hF (imm':=I024) (hs':=[hB r01 (cRd y27 p41 c40),hB b2 [vS p4 y.Arrays c3,vS p40 l3 c39],hO zD (vS p4 y.Arrays c3) cs,hO zI (vS p40 l3 c39) cs14,hB b1 zTwo]) (m':=[(0,vP r01 0),(4,vP b1 0),(5,vP b2 0),(6,vI (y.Parts.length:Int)),(76,.bool t76)])<|yW<|zU ⟨_,_,_,_,_,_,_,(zC N).symm,H,h64,h65,rfl,rfl⟩
             intro hc7 N;exact zS<|yW<|zU ⟨_,_,_,_,_,_,_,(zC N).symm,H,h4,h7,rfl,rfl⟩
           rintro I025 hs2 m2 ⟨Parts5,x10,p38,c37,cs13,p39,c38,heq3,le21,h62,h63,rfl,rfl⟩;subst o07;have H:=H.trans le21;exact yW<|zU ⟨_,_,_,_,_,_,_,(zC hMc7).symm,H,h62,h63,rfl,rfl⟩
         intro hc5 N;refine yH [100] rfl<|zK ?_;obtain ⟨o08,ho08,hMc8⟩:=zB N;refine nN (fun I' hs' m'=>∃ (Parts6:List zI) (p42:Option Addr) (c41:Nat) (cs15:List Value),o08=Parts6/\I02.le I'/\(RL I' cs15 Parts6)/\hs'=[hB r01 (cRd y3 p6 c5),hB b2 [vS p4 y.Arrays c3,vS p42 Parts6 c41],hO zD (vS p4 y.Arrays c3) cs,hO zI (vS p42 Parts6 c41) cs15,hB b1 zTwo]/\m'=[(4,vP b1 0),(5,vP b2 0)]) ?_ ?_
         · have H:=iS I02;refine yG ho08 ?_ ?_
           · intro hc8 N;refine yH [103] rfl<|zK ?_;obtain ⟨o09,ho09,hMc9⟩:=zB N;refine nN (fun I' hs' m'=>∃ (Parts7:List zI) (p43:Option Addr) (c42:Nat) (cs16:List Value),o09=Parts7/\I02.le I'/\(RL I' cs16 Parts7)/\hs'=[hB r01 (cRd y3 p6 c5),hB b2 [vS p4 y.Arrays c3,vS p43 Parts7 c42],hO zD (vS p4 y.Arrays c3) cs,hO zI (vS p43 Parts7 c42) cs16,hB b1 zTwo]/\m'=[(4,vP b1 0),(5,vP b2 0)]) ?_ ?_
             · have H:=iS I02;refine yG ho09 ?_ ?_
               · intro hc9 N;refine zM<|yE 4 [1] [105,107] rfl<|bE N fun x13 hy21 N=>nU 3 rfl rfl rfl h4 hy21 ?_;intro ad4 ccs5 hat5 hcc4 hrep4;obtain ⟨p44,c43,p45,c44,rfl,h68,h69⟩:=wH hrep4;refine yE 6 [] [109] rfl ?_;obtain ⟨l4,hy22,N⟩:=zB N;refine qE (c:=[vS p44 x13.Nest c43,z0]) (x':=(zI.mk x13.Nest ([]:List zJ))) 3 1 rfl rfl rfl hat5 rfl rfl hcc4 (by kernel_rfl) (by kernel_rfl) (by kernel_rfl) h4 hy21 (by kernel_rfl) (uQ ⟨_,_,rfl,h68,(SL.nil _)⟩) ?_;rw [show y.Parts.set (W ((y.Parts.length:Int) - 1)).toNat (zI.mk x13.Nest ([]:List zJ))=l4 from zC hy22];intro cs17 h70 hl09;exact fY (m':=[(4,vP b1 0),(5,vP b2 0)]) ⟨rfl,rfl,trivial⟩<|zCX (hs':=[hB r01 (cRd y3 p6 c5),hB b2 [vS p4 y.Arrays c3,vS p5 l4 c4],hO zD (vS p4 y.Arrays c3) cs,hO zI (vS p5 l4 c4) cs17,hB b1 zTwo]) (m':=[(4,vP b1 0),(5,vP b2 0)]) (by first | rfl | simp only [vS,hl09,List.nil_append,List.cons_append,List.set_cons_zero,List.set_cons_succ,List.eraseIdx_cons_zero,List.eraseIdx_cons_succ]) (by first | rfl | simp only [vS,hl09])<|zX rfl<|yW<|zU ⟨_,_,_,_,(zC N).symm,H,h70,rfl,rfl⟩
               intro hc9 N;exact zS<|yW<|zU ⟨_,_,_,_,(zC N).symm,H,h4,rfl,rfl⟩
             rintro I027 hs2 m2 ⟨Parts7,p43,c42,cs16,heq4,le22,h67,rfl,rfl⟩;subst o09;have H:=H.trans le22;exact yW<|zU ⟨_,_,_,_,(zC hMc9).symm,H,h67,rfl,rfl⟩
           intro hc8 N;exact zS<|yW<|zU ⟨_,_,_,_,(zC N).symm,H,h4,rfl,rfl⟩
         rintro I026 hs2 m2 ⟨Parts6,p42,c41,cs15,heq5,le23,h66,rfl,rfl⟩;subst o08;have ⟨h7,H⟩:=m2 le23 h7 H;exact yW<|zU ⟨_,_,_,_,_,_,_,(zC hMc8).symm,H,h66,h7,rfl,rfl⟩
       rintro I023 hs2 m2 ⟨Parts4,x8,p34,c33,cs12,p35,c34,heq6,le24,h58,h59,rfl,rfl⟩;subst o05;have H:=H.trans le24;exact yW<|zU ⟨_,_,_,_,_,_,_,(zC hMc5).symm,H,h58,h59,rfl,rfl⟩
     rintro I017 hs2 m2 ⟨Parts2,x4,p20,c19,cs9,p21,c20,heq7,le25,h40,h41,rfl,rfl⟩;subst o03;have ⟨h3,H⟩:=m2 le25 h3 H;exact yW<|zU ⟨_,_,_,_,_,_,_,_,_,_,_,(zC hMc3).symm,H,h3,h40,h41,rfl,rfl⟩
   rintro I011 hs2 m2 ⟨Arrays1,Parts1,x1,p13,c12,cs5,p14,c13,cs6,p15,c14,heq8,le26,h26,h27,h28,rfl,rfl⟩;subst o01;have H:=H.trans le26;exact yW<|zU ⟨_,_,_,_,_,_,_,_,_,_,_,(zC hMc1).symm,H,h26,h27,h28,rfl,rfl⟩
 rintro I03 hs2 m2 ⟨Arrays,Parts,x,p7,c6,cs2,p8,c7,cs3,p9,c8,heq9,le27,h8,h9,h10,rfl,rfl⟩;subst o0;refine zO<|yX<|tZ 1 [1] [(110,vA [vS p7 Arrays c6,vS p8 Parts c7])]<|yZ 4 [vS p7 Arrays c6,vS p8 Parts c7] rfl<|zX rfl<|xI<|xE 2 rfl ?_;intro I028 le28 hl010;have h71:=SL.of_frozen hl010 le28 h8;have ⟨h10,h9⟩:=m2 le28 h10 h9;refine xE 2 rfl ?_;intro I029 le29 hl011;have h72:=SL.of_frozen hl011 le29 h9;have ⟨h10,h71⟩:=m2 le29 h10 h71;obtain rfl:=zC hMc;exact xC ⟨_,_,(.cell 2 rfl rfl (by kernel_rfl) ResV.nil),(zW [0] rfl (by decide)),⟨_,_,rfl,rfl,⟨_,rfl,(xY ⟨_,_,rfl,h71,h72⟩)⟩,(yY ⟨_,rfl,h10⟩)⟩⟩
theorem zEZ (p:zF):∀ (i1:Int) (Parts:List zI) (o:List zI),sC p i1 Parts=some o->∀ {B}{I0 I:Imm}{Q}{Arrays1:List zD}{p1 c p2 c1}{b:Nat}{b1:Nat}{b2:Nat}{p4 c3 cs1 p9 c8 cs4}{raws:List Raw2}{pN pB:Option Addr}{cN cB:Nat}{nl:List zE}{bl:List zJ}{csB:List Value},I0.le I->(RL I cs1 Arrays1)->(S4 I p1 p.Arrays c)->(S4 I p2 p.Parts c1)->(RL I cs4 raws)->LP I raws Parts (vS pN nl cN) nl (vS pB bl cB) bl->SL I (vS pN nl cN) nl->RL I csB bl->(∀ l a w,¬Q (.goto l) a w)->(∀ a w,¬Q .outgrown a w)->(∀ (I':Imm) (p10:Option Addr) (c9:Nat) (cs5:List Value) (raws1:List Raw2) (pN pB:Option Addr) (cN cB:Nat) (nl:List zE) (bl:List zJ) (csB:List Value),I0.le I'->(RL I' cs5 raws1)->LP I' raws1 o (vS pN nl cN) nl (vS pB bl cB) bl->SL I' (vS pN nl cN) nl->RL I' csB bl->T 84 B Q (.exit 2) I' [hO zJ (vS pB bl cB) csB,hO Raw2 (vS p10 raws1 c9) cs5,hO zD (vS p4 Arrays1 c3) cs1,hB b2 [vS p4 Arrays1 c3,vS p10 raws1 c9],hB b1 zTwo] [(2,vP b1 0),(3,vP b2 0)])->J Tryz.prog 84 B (nav (bodyOf Tryz.f34) [1,1,1,0,1,0]) Q I [hO zJ (vS pB bl cB) csB,hO Raw2 (vS p9 raws c8) cs4,hO zD (vS p4 Arrays1 c3) cs1,hB b2 [vS p4 Arrays1 c3,vS p9 raws c8],hB b1 zTwo,hB b (cProg p p1 c p2 c1)] [(1,vP b 0),(2,vP b1 0),(3,vP b2 0),(5,vI i1)]:=by
 refine sC.partial_correctness p _ fun self ih i1 Parts o N B I0 I Q Arrays1 p1 c p2 c1 b b1 b2 p4 c3 cs1 p9 c8 cs4 raws pN pB cN cB nl bl csB H h4 h h1 hRw hLP hN hBd hg ho hx=>yU hg ho<|yD<|yC<|yM [5] [40] rfl<|zK<|yG N ?_ ?_
 · intro hc1 N;refine qX 0 rfl ?_;intro immf lef hlf;have kB:=SL.of_frozen hlf lef hBd;have ⟨h4,h,h1,hN,hRw,hLP⟩:=m6 lef h4 h h1 hN hRw hLP;have H:=H.trans lef;have h14:=hLP.done hN kB;rw [<- fC hRw] at h14;have eP:vS p9 raws c8=vS p9 Parts c8:=by simp only [vS,hLP.2.1]
   rw [eP];clear hBd hlf;refine zS<|zZ<|yF<|yC<|yE 3 [4] [44,45] rfl<|bE N fun x2 hy4 N=>xT rfl rfl h1 hy4 ?_;intro ad3 ccs4 hat3 hrep2;obtain ⟨p11,c10,p12,c11,rfl,h16,h17⟩:=wH hrep2;refine yE 5 [] [47] rfl<|xO 0 hat3 [vS p11 x2.Nest c10] (vS p11 x2.Nest c10) rfl<|bE N fun y hy5 N=>xH (zDO x2.Nest _ hy5 h16) ?_;rintro I04 hs2 v2 k2 le4 - ⟨v04,rfl,rfl,h18⟩ -;have ⟨h14,hRw,hLP,hN⟩:=m4 le4 h14 hRw hLP hN;replace kB:=kB.mono le4;have ⟨h4,h,h1,H⟩:=m4 le4 h4 h h1 H;obtain ⟨p13,c12,rfl⟩:=h18.form;refine yE 8 [] [50] rfl<|xU zTwo ?_;intro b5 hb5;refine yZ 0 [vS p13 y c12,z0] rfl<|zX rfl<|zZ<|yH [7] rfl<|wK<|pM [(1,vP b 0),(2,vP b1 0),(3,vP b2 0),(5,vI i1),(6,vP b5 0),(7,vI 0)]<|zAb zJ fun h19=>?_;obtain ⟨o01,ho01,hMl1⟩:=zB N;refine zB5 p i1 0 ([]:List zJ) o01 ho01 iR h18 h14 h4 h h1 h19 (fun _ _ _ h=>hg _ _ _ h) (fun _ _ h=>ho _ _ h) ?_;intro I010 Body1 p15 c14 cs7 heq1 le10 h21;subst o01;have ⟨h18,hRw,hLP,hN⟩:=m4 le10 h18 hRw hLP hN;replace kB:=kB.mono le10;have ⟨h4,h,h1,H⟩:=m4 le10 h4 h h1 H;obtain ⟨l3,hy11,N⟩:=zB hMl1;have hy12:=zFG (l':=raws) (m':=[(⟨vS p13 y c12,vS p15 Body1 c14⟩:Raw2)]) hy11 hLP.2.1 rfl;have h40:RL I010 [vS p13 y c12,vS p15 Body1 c14] [(⟨vS p13 y c12,vS p15 Body1 c14⟩:Raw2)]:=⟨[vS p13 y c12,vS p15 Body1 c14],[],rfl,rfl,⟨rfl,rfl,rfl⟩,rfl⟩;refine zR<|zK<|zM<|tZ 3 [4,1] [(78,vS p9 Parts c8),(79,vA [vS p13 y c12,vS p15 Body1 c14])]<|tK [vS p13 y c12,vS p15 Body1 c14] Raw2 ?_;intro b7 hb7;refine qD (α:=Raw2) 85 2 3 rfl rfl rfl hRw (.inr ⟨0,rfl⟩) h40 hy12 ?_;intro p29 c28 cs11 h41;exact sW (zY [1,3,4,5,6,7] (hs':=[hO zJ (vS p15 Body1 c14) cs7,hO Raw2 (vS p29 (raws++[(⟨vS p13 y c12,vS p15 Body1 c14⟩:Raw2)]) c28) cs11,hO zD (vS p4 Arrays1 c3) cs1,hB b2 [vS p4 Arrays1 c3,vS p9 Parts c8],hB b1 zTwo,hB b (cProg p p1 c p2 c1)]))<|yE 6 [] [82] rfl<|yZ 3 [vS p4 Arrays1 c3,vS p29 (raws++[(⟨vS p13 y c12,vS p15 Body1 c14⟩:Raw2)]) c28] rfl<|zX rfl<|zO<|zK<|zM<|yM [] [5] rfl<|yT<|nT<|ih (W (i1+1)) l3 _ N H h4 h h1 h41 (hLP.push hN kB hy11) h18 h21 hg ho hx
 intro hc1 N;have:=zC N;simp only [id] at this;subst this;exact wW<|wG (zW [0,1,2,3,4] rfl (by decide))<|yW<|hx _ _ _ _ _ _ _ _ _ _ _ _ H hRw hLP hN hBd
def zFM (r:zF):KT:=fun kk I' hs' v=>
  ∃ (a0:Option Addr) (c0:Nat) (s0:List Value) (a1:Option Addr) (c1:Nat) (s1:List Value) (raws:List Raw2) (pN pB:Option Addr) (cN cB:Nat) (nl:List zE) (bl:List zJ) (csB:List Value),hs'=[hO zJ (vS pB bl cB) csB,hO Raw2 (vS a1 raws c1) s1,hO zD (vS a0 r.Arrays c0) s0]/\v=tupV [vA [vS a0 r.Arrays c0,vS a1 raws c1]]/\RL I' s0 r.Arrays/\RL I' s1 raws/\LP I' raws r.Parts (vS pN nl cN) nl (vS pB bl cB) bl/\SL I' (vS pN nl cN) nl/\RL I' csB bl
theorem zGc:∀ (p:zF) r,rK p=some r->∀ {I:Imm}{p1 c p2 c1},(S4 I p1 p.Arrays c)->(S4 I p2 p.Parts c1)->RT 34 [vA (cProg p p1 c p2 c1)] I [] (zFM r):=by
 intro p r N I p1 c p2 c1 h h1;unfold rK at N;refine yJ Tryz.func34 fun B=>yC<|vK (cProg p p1 c p2 c1) ?_;intro b hb;refine xU zTwo ?_;intro b1 hb1;refine zX rfl<|yX<|yE 1 [] [8] rfl<|xU zTwo ?_;intro b2 hb2;refine eQ 0 zTwo [hB b2 zTwo,hB b1 zTwo,hB b (cProg p p1 c p2 c1)] rfl rfl rfl rfl<|zX rfl<|zZ<|yH [4] rfl<|wK<|pM [(1,vP b 0),(2,vP b1 0),(3,vP b2 0),(4,vI 0)]<|zAb zD fun h2=>?_;obtain ⟨o0,ho0,hMl⟩:=zB N;refine zB4 p 0 ([]:List zD) o0 ho0 iR h h1 h2 (fun _ _ _ h=>h) (fun _ _ h=>h) ?_;intro I03 Arrays1 p4 c3 cs1 heq le3 h4;subst o0;have ⟨h,h1⟩:=m2 le3 h h1;refine zR<|zZ<|yH [5] rfl<|wK<|pM [(1,vP b 0),(2,vP b1 0),(3,vP b2 0),(5,vI 0)]<|pL (gZ (Rp.sz Raw2))<|pL (gZ (Rp.sz zJ)) ?_;obtain ⟨o02,ho02,hMl2⟩:=zB hMl;refine zEZ p 0 ([]:List zI) o02 ho02 (raws:=[]) (pN:=none) (pB:=none) (cN:=0) (cB:=0) (nl:=[]) (bl:=[]) iR h4 h h1 RepL.nil LP.nil (SL.nil _) RepL.nil (fun _ _ _ h=>h) (fun _ _ h=>h) ?_;intro I012 p10 c9 cs5 raws1 pN pB cN cB nl bl csB le12 hRw hLP hN hBd;have h4:=iM le12 h4;obtain rfl:=zC hMl2;exact zR<|yX<|tZ 1 [3] [(83,vA [vS p4 Arrays1 c3,vS p10 raws1 c9])]<|yZ 4 [vS p4 Arrays1 c3,vS p10 raws1 c9] rfl<|zX rfl<|xI<|xC ⟨_,_,(.cell 4 rfl rfl (by kernel_rfl) ResV.nil),(zW [0,1,2] rfl (by decide)),⟨_,_,_,_,_,_,_,_,_,_,_,_,_,_,rfl,rfl,h4,hRw,hLP,hN,hBd⟩⟩
theorem zM8 {raws:List Raw2}{k:Nat}{r:Raw2} (h:raws[k]?=some r):raws.set k r=raws:=by
  obtain ⟨hk,e⟩:=List.getElem?_eq_some_iff.1 h;subst e;exact List.set_getElem_self hk
theorem zFN (r0:zP) (p1:zF) (r:zF×zP) (N:nO r0 p1=some r) {y:zF}{y3:zP}{x:zI}{s:zJ} (hy:rK p1=some y) (hy1:xF r0 60=some (3,y3)) (hx:idx y.Parts (W ((y.Parts.length:Int) - 1))=some x) (hs:idx x.Body 0=some s) :
    ∀ {I:Imm}{r01:Nat}{p c p2 c1 p3 c2},(S4 I p r0.b c)->(S4 I p2 p1.Arrays c1)->(S4 I p3 p1.Parts c2)->RT 49 [vP r01 0,vA (cProg p1 p2 c1 p3 c2)] I [hB r01 (cRd r0 p c)] (zAK r01 r):=by
 intro I r01 p c p2 c1' p3 c2 h h1 h2
 obtain ⟨i0,i1,i2⟩:=rE hx
 obtain ⟨j0,j1,j2⟩:=rE hs
 have hn:(y.Parts.length:Int)>0:=by
   have:=(List.getElem?_eq_some_iff.1 i2).1; omega
 have hb:(x.Body.length:Int)>0:=by
   have:=(List.getElem?_eq_some_iff.1 j2).1; omega
 have e0:((3:Int)==0)=false:=rfl
 have e1:((3:Int)==1)=false:=rfl
 have e2:((3:Int)==2)=false:=rfl
 have e3:((3:Int)==3)=true:=rfl
 unfold nO at N
 simp only [hy,hy1,e0,e1,e2,e3,hn,hb,hx,hs,decide_true,if_true,Bool.false_eq_true,if_false,Option.pure_def,Option.bind_eq_bind,Option.bind_some] at N
 cases hm1:qL y3 s with
 | none=>rw [hm1] at N; cases N
 | some q1 =>
 obtain ⟨y22,y23⟩:=q1
 simp only [hm1,Option.bind_some] at N
 cases hm2:qL y23 y22 with
 | none=>rw [hm2] at N; cases N
 | some q2 =>
 obtain ⟨y24,y25⟩:=q2
 simp only [hm2,Option.bind_some] at N
 cases hm3:qL y25 y24 with
 | none=>rw [hm3] at N; cases N
 | some q3 =>
 obtain ⟨y26,y27⟩:=q3
 simp only [hm3,Option.bind_some,Option.some.injEq] at N
 subst N
 refine yJ Tryz.func49 fun B=>yC<|vK [vS p2 p1.Arrays c1',vS p3 p1.Parts c2] ?_
 intro b hb
 refine xU zTwo ?_
 intro b1 hb1
 refine zX rfl<|yX<|tZ 1 [1] [(7,vA [vS p2 p1.Arrays c1',vS p3 p1.Parts c2])]<|xH (zGc p1 _ hy h1 h2) ?_
 rintro I0 hs2 v2 k2 le - ⟨a0,c0,s0,a1,c1,s1,raws,pN,pB,cN,cB,nl,bl,csB,rfl,rfl,h3,hRw,hLP,hN,hBd⟩ -
 have h:=h.mono le
 clear h1 h2
 rw [hLP.len] at hx hn i0 i1 i2
 obtain ⟨rfl,hraw,hset⟩:=hLP.last hx
 simp only at hs hb j0 j1 j2 hm1
 have hset:=hset (vS pN nl cN) nl (vS pB bl cB) (bl.set 0 y26)
 rw [zM8 (rE hraw).2.2] at hset
 refine xU zTwo ?_
 intro b2 hb2
 refine yZ 0 [vS a0 y.Arrays c0,vS a1 raws c1] rfl<|zX rfl<|yX<|yM [0] [6] rfl<|zZ<|yC<|yE 1 [] [12] rfl<|sW (zY [6,1,2,0,3,4] (hs':=[hB r01 (cRd r0 p c),hO zJ (vS pB bl cB) csB,hO Raw2 (vS a1 raws c1) s1,hB b2 [vS a0 y.Arrays c0,vS a1 raws c1],hO zD (vS a0 y.Arrays c0) s0,hB b1 zTwo]))<|rS (wD r0 60 _ hy1 h) rfl ?_
 rintro I01 hs2 v2 k2 le1 - ⟨v0,kk,rfl,rfl,rfl,h6⟩ -
 obtain ⟨v01,rfl,h7⟩:=zAJ h6
 obtain ⟨p6,c5,rfl⟩:=h7.form
 clear h6 h
 have h3:=iM le1 h3
 have hRw:=iM le1 hRw
 have hN:=hN.mono le1
 have hBd:=iM le1 hBd
 have hset:=hset.mono le1
 refine zX rfl<|wK<|yH [14] rfl<|zK<|zAw rfl<|yH [29] rfl<|zK<|zAw rfl<|yH [43] rfl<|zK<|zAw rfl<|yH [62] rfl<|zK<|zDH rfl<|yC<|yE 3 [] [66] rfl ?_
 rw [decide_eq_true hn]
 refine yE 7 [3] [68,70] rfl<|nU (α:=Raw2) 2 rfl rfl rfl hRw hraw ?_
 intro ad ccs hat hcc hrep
 obtain ⟨rfl,o1,o2⟩:=hrep
 refine yE 9 [] [72] rfl<|zBu 2 1 hat hcc [vS pB bl cB] (vS pB bl cB) rfl rfl<|yM [] [76] rfl ?_
 rw [decide_eq_true hb]
 refine zK<|zDH rfl<|pM [(0,vP r01 0),(4,vP b1 0),(5,vP b2 0),(6,vI (raws.length:Int))]<|wP [.p (vP b2 1) [],.p (vS a1 raws c1) [2],.p (vI (raws.length:Int)) [],.p (vI (W ((raws.length:Int) - 1))) [],.x (fun I' v hx'=>∃ ad,v=.pointer (some ad)/\hx'=[]/\AtO (vS a1 raws c1) 2 (W ((raws.length:Int) - 1)).toNat ad),.x (fun I' v hx'=>∃ ad,v=.pointer (some (ad.add 1))/\hx'=[]/\AtO (vS a1 raws c1) 2 (W ((raws.length:Int) - 1)).toNat ad),.x (fun I' v hx'=>v=vS pB bl cB/\hx'=[]),.p (vP r01 0) [],.p (vP r01 0) [],.p (vP r01 0) [],.p (vP b2 1) [],.p (vS a1 raws c1) [2],.p (vI (raws.length:Int)) [],.p (vI (W ((raws.length:Int) - 1))) [],.x (fun I' v hx'=>∃ ad,v=.pointer (some ad)/\hx'=[]/\AtO (vS a1 raws c1) 2 (W ((raws.length:Int) - 1)).toNat ad),.x (fun I' v hx'=>∃ ad,v=.pointer (some (ad.add 1))/\hx'=[]/\AtO (vS a1 raws c1) 2 (W ((raws.length:Int) - 1)).toNat ad),.x (fun I' v hx'=>v=vS pB bl cB/\hx'=[]),.x (fun I' v hx'=>∃ ad,v=.pointer (some ad)/\hx'=[]/\AtO (vS pB bl cB) 9 0 ad),.x (fun I' v hx'=>∃ cs9,v=.agg ⟨cs9⟩/\hx'=[]/\Rp.rep I' cs9 s),.x (fun I' v hx'=>∃ (cs9 kk:List Value),v=.agg ⟨cs9⟩/\hx'=[hB r01 kk]/\Rp.rep I' cs9 y22/\Rp.rep I' kk y23),.x (fun I' v hx'=>∃ (cs9 kk:List Value),v=.agg ⟨cs9⟩/\hx'=[hB r01 kk]/\Rp.rep I' cs9 y24/\Rp.rep I' kk y25),.x (fun I' v hx'=>∃ (cs9 kk:List Value),v=.agg ⟨cs9⟩/\hx'=[hB r01 kk]/\Rp.rep I' cs9 y26/\Rp.rep I' kk y27)] [[],[(0,false)],[],[(2,false)],[(1,false),(3,false)],[(4,false)],[(5,false)],[],[],[],[],[(10,false)],[],[(12,false)],[(11,false),(13,false)],[(14,false)],[(15,false)],[(16,false)],[(17,false)],[(9,false),(18,false),(24,true)],[(8,false),(19,true)],[(7,false),(20,true)]] [hO zJ (vS pB bl cB) csB,hO Raw2 (vS a1 raws c1) s1,hB b2 [vS a0 y.Arrays c0,vS a1 raws c1],hO zD (vS a0 y.Arrays c0) s0,hB b1 zTwo] [[hB r01 (cRd y3 p6 c5)]] [(6,false),(21,true)] (zY [1,2,3,4,5,0]) ?_ ?_
 · refine Op<|Op<|Op<|Op<|Ox ?_<|Ox ?_<|Ox ?_<|Op<|Op<|Op<|Op<|Op<|Op<|Op<|Ox ?_<|Ox ?_<|Ox ?_<|Ox ?_<|Ox ?_<|Ox ?_<|Ox ?_<|Ox ?_<|On
   · intro I1 hf le1
     refine vL ?_
     rintro _ _ ⟨rfl,rfl⟩
     refine vL ?_
     rintro _ _ ⟨rfl,rfl⟩
     refine pT<|zAl [(78,vS a1 raws c1),(80,vI (W ((raws.length:Int) - 1)))]<|nU (α:=Raw2) 1 rfl rfl rfl (iM le1 hRw) hraw ?_
     intro ad ccs hat hcc hrep
     exact yL [] iR ⟨_,rfl,rfl,hat⟩
   · intro I1 hf le1
     refine vL ?_
     rintro _ _ ⟨ad,rfl,rfl,hat⟩
     exact pT<|zAl [(81,.pointer (some ad))]<|qA 6 [(82,.pointer (some (ad.add 1)))]<|yL [] iR ⟨_,rfl,rfl,hat⟩
   · intro I1 hf le1
     refine vL ?_
     rintro _ _ ⟨ad,rfl,rfl,hat⟩
     refine pT<|zAl [(82,.pointer (some (ad.add 1)))] ?_
     have hrep:=hRw.at (rE hraw).2.2
     obtain ⟨⟨hcc,o1,o2⟩,_⟩:=hrep
     exact zBu 1 1 hat hcc [vS pB bl cB] (vS pB bl cB) rfl rfl<|xB iR
   · intro I1 hf le1
     refine vL ?_
     rintro _ _ ⟨rfl,rfl⟩
     refine vL ?_
     rintro _ _ ⟨rfl,rfl⟩
     refine pT<|zAl [(88,vS a1 raws c1),(90,vI (W ((raws.length:Int) - 1)))]<|nU (α:=Raw2) 1 rfl rfl rfl (iM le1 hRw) hraw ?_
     intro ad ccs hat hcc hrep
     exact yL [] iR ⟨_,rfl,rfl,hat⟩
   · intro I1 hf le1
     refine vL ?_
     rintro _ _ ⟨ad,rfl,rfl,hat⟩
     exact pT<|zAl [(91,.pointer (some ad))]<|qA 16 [(92,.pointer (some (ad.add 1)))]<|yL [] iR ⟨_,rfl,rfl,hat⟩
   · intro I1 hf le1
     refine vL ?_
     rintro _ _ ⟨ad,rfl,rfl,hat⟩
     refine pT<|zAl [(92,.pointer (some (ad.add 1)))] ?_
     have hrep:=hRw.at (rE hraw).2.2
     obtain ⟨⟨hcc,o1,o2⟩,_⟩:=hrep
     exact zBu 1 1 hat hcc [vS pB bl cB] (vS pB bl cB) rfl rfl<|xB iR
   · intro I1 hf le1
     refine vL ?_
     rintro _ _ ⟨rfl,rfl⟩
     refine pT<|zAl [(93,vS pB bl cB)]<|nU (α:=zJ) 0 rfl rfl rfl (iM le1 hBd) hs ?_
     intro ad ccs hat hcc hrep
     exact yL [] iR ⟨_,rfl,rfl,hat⟩
   · intro I1 hf le1
     refine vL ?_
     rintro _ _ ⟨ad,rfl,rfl,hat⟩
     refine pT<|zAl [(94,.pointer (some ad))] ?_
     obtain ⟨hrep,_⟩:=(iM le1 hBd).at j2
     generalize hcc:(csB.drop (Int.toNat 0*Rp.sz zJ)).take (Rp.sz zJ)=cc at hrep
     obtain ⟨w0,w1,w2,w3,rfl,e10,e11,e12,e13⟩:=mY hrep
     obtain ⟨p10,c10,rfl⟩:=e10.form
     obtain ⟨p11,c11,rfl⟩:=e11.form
     obtain ⟨p12,c12,rfl⟩:=e12.form
     obtain ⟨p13,c13,rfl⟩:=e13.form
     exact zBu 0 0 hat hcc (cStmt s p10 c10 p11 c11 p12 c12 p13 c13) (vA (cStmt s p10 c10 p11 c11 p12 c12 p13 c13)) rfl rfl<|yL [] iR ⟨_,rfl,rfl,wC ⟨_,_,_,_,rfl,e10,e11,e12,e13⟩⟩
   · intro I1 hf le1
     refine vL ?_
     rintro _ _ ⟨rfl,rfl⟩
     refine vL ?_
     rintro _ _ ⟨cs9,rfl,rfl,h9⟩
     refine vL ?_
     rintro _ _ rfl
     obtain ⟨w0,w1,w2,w3,rfl,e10,e11,e12,e13⟩:=mY h9
     obtain ⟨p10,c10,rfl⟩:=e10.form
     obtain ⟨p11,c11,rfl⟩:=e11.form
     obtain ⟨p12,c12,rfl⟩:=e12.form
     obtain ⟨p13,c13,rfl⟩:=e13.form
     refine pT<|zAl [(86,vP r01 0),(95,vA (cStmt s p10 c10 p11 c11 p12 c12 p13 c13))]<|rS (zA4 y3 s _ hm1 (h7.mono le1) e10 e11 e12 e13) rfl ?_
     rintro I02 hs2 v2 k2 le2 - ⟨v0,kk2,rfl,rfl,⟨cs2,rfl,h10⟩,h11⟩ -
     exact yL [hB r01 kk2] le2 ⟨_,_,rfl,rfl,h10,h11⟩
   · intro I1 hf le1
     refine vL ?_
     rintro _ _ ⟨rfl,rfl⟩
     refine vL ?_
     rintro _ _ ⟨cs9,kk,rfl,rfl,h9,hk⟩
     obtain ⟨w0,w1,w2,w3,rfl,e10,e11,e12,e13⟩:=mY h9
     obtain ⟨p10,c10,rfl⟩:=e10.form
     obtain ⟨p11,c11,rfl⟩:=e11.form
     obtain ⟨p12,c12,rfl⟩:=e12.form
     obtain ⟨p13,c13,rfl⟩:=e13.form
     obtain ⟨w4,rfl,hsl⟩:=zAJ hk
     obtain ⟨p8,c8,rfl⟩:=hsl.form
     refine pT<|zAl [(85,vP r01 0),(96,vA (cStmt y22 p10 c10 p11 c11 p12 c12 p13 c13))]<|rS (zA4 y23 y22 _ hm2 (hsl) e10 e11 e12 e13) rfl ?_
     rintro I02 hs2 v2 k2 le2 - ⟨v0,kk2,rfl,rfl,⟨cs2,rfl,h10⟩,h11⟩ -
     exact yL [hB r01 kk2] le2 ⟨_,_,rfl,rfl,h10,h11⟩
   intro I1 hf le1
   refine vL ?_
   rintro _ _ ⟨rfl,rfl⟩
   refine vL ?_
   rintro _ _ ⟨cs9,kk,rfl,rfl,h9,hk⟩
   obtain ⟨w0,w1,w2,w3,rfl,e10,e11,e12,e13⟩:=mY h9
   obtain ⟨p10,c10,rfl⟩:=e10.form
   obtain ⟨p11,c11,rfl⟩:=e11.form
   obtain ⟨p12,c12,rfl⟩:=e12.form
   obtain ⟨p13,c13,rfl⟩:=e13.form
   obtain ⟨w4,rfl,hsl⟩:=zAJ hk
   obtain ⟨p8,c8,rfl⟩:=hsl.form
   refine pT<|zAl [(84,vP r01 0),(97,vA (cStmt y24 p10 c10 p11 c11 p12 c12 p13 c13))]<|rS (zA4 y25 y24 _ hm3 (hsl) e10 e11 e12 e13) rfl ?_
   rintro I02 hs2 v2 k2 le2 - ⟨v0,kk2,rfl,rfl,⟨cs2,rfl,h10⟩,h11⟩ -
   exact yL [hB r01 kk2] le2 ⟨_,_,rfl,rfl,h10,h11⟩
 intro I5 le5
 refine vL ?_
 rintro _ _ ⟨rfl,rfl⟩
 refine vL ?_
 rintro _ _ ⟨cs9,kk,rfl,rfl,h9,hk⟩
 obtain ⟨w0,w1,w2,w3,rfl,e10,e11,e12,e13⟩:=mY h9
 obtain ⟨p10,c10,rfl⟩:=e10.form
 obtain ⟨p11,c11,rfl⟩:=e11.form
 obtain ⟨p12,c12,rfl⟩:=e12.form
 obtain ⟨p13,c13,rfl⟩:=e13.form
 have h3:=iM le5 h3
 have hRw:=iM le5 hRw
 have hN:=hN.mono le5
 have hBd:=iM le5 hBd
 have hset:=hset.mono le5
 refine pT<|zAl [(4,vP b1 0),(5,vP b2 0),(83,vS pB bl cB),(98,vA (cStmt y26 p10 c10 p11 c11 p12 c12 p13 c13))]<|nU (α:=zJ) 1 rfl rfl rfl hBd hs ?_
 intro ad ccs hat hcc hrep
 obtain ⟨w0,w1,w2,w3,rfl,e20,e21,e22,e23⟩:=mY hrep
 obtain ⟨p20,c20,rfl⟩:=e20.form
 obtain ⟨p21,c21,rfl⟩:=e21.form
 obtain ⟨p22,c22,rfl⟩:=e22.form
 obtain ⟨p23,c23,rfl⟩:=e23.form
 refine qE (c:=(cStmt y26 p10 c10 p11 c11 p12 c12 p13 c13)) (x':=y26) 1 0 rfl rfl rfl hat rfl rfl hcc (by kernel_rfl) (by kernel_rfl) (by kernel_rfl) hBd hs (by kernel_rfl) (wC ⟨_,_,_,_,rfl,e10,e11,e12,e13⟩) ?_
 intro cs7 h7' hlen
 refine vH (hs':=[hB r01 kk,hO zJ (vS pB bl cB) cs7,hO Raw2 (vS a1 raws c1) s1,hB b2 [vS a0 y.Arrays c0,vS a1 raws c1],hO zD (vS a0 y.Arrays c0) s0,hB b1 zTwo]) rfl<|xX 1 rfl ?_
 intro I6 le6 hl6
 have eB:vS pB bl cB=vS pB (bl.set 0 y26) cB:=by simp [vS]
 have kB:SL I6 (vS pB (bl.set 0 y26) cB) (bl.set 0 y26):=by
   rw [<- eB]
   exact SL.of_frozen (l:=bl.set 0 y26) hl6 le6 h7'
 rw [eB] at hset
 have hdone:=(hset.mono le6).done (hN.mono le6) kB
 have eS:=fC hRw
 rw [<- eS] at hdone
 have h3:=iM le6 h3
 have hk:=Rp.mono le6 hk
 have eP:vS a1 raws c1=vS a1 (y.Parts.set (W ((raws.length:Int) - 1)).toNat ⟨nl,bl.set 0 y26⟩) c1:=by simp only [vS,List.length_set,hLP.2.1]
 refine vH (hs':=[hB r01 kk,hO Raw2 (vS a1 raws c1) s1,hB b2 [vS a0 y.Arrays c0,vS a1 raws c1],hO zD (vS a0 y.Arrays c0) s0,hB b1 zTwo]) rfl<|zX rfl<|zO<|yX<|tZ 1 [2] [(110,vA [vS a0 y.Arrays c0,vS a1 raws c1])]<|yZ 4 [vS a0 y.Arrays c0,vS a1 raws c1] rfl<|zX rfl<|xI<|xE 1 rfl ?_
 intro I7 le7 hl7
 have k1:SL I7 (vS a1 raws c1) (y.Parts.set (W ((raws.length:Int) - 1)).toNat ⟨nl,bl.set 0 y26⟩):=SL.of_frozen (l:=y.Parts.set (W ((raws.length:Int) - 1)).toNat ⟨nl,bl.set 0 y26⟩) hl7 le7 hdone
 refine xE 2 rfl ?_
 intro I8 le8 hl8
 have k2:=SL.of_frozen hl8 le8 (iM le7 h3)
 rw [hLP.len]
 exact xC ⟨_,_,(.cell 2 rfl rfl (by kernel_rfl) ResV.nil),(zW [0] rfl (by decide)),⟨_,_,rfl,rfl,⟨_,rfl,(xY ⟨_,_,rfl,k2,k1.mono le8⟩)⟩,Rp.mono le8 (Rp.mono le7 hk)⟩⟩
theorem zGC:∀ r0 p1 r,nO r0 p1=some r->∀ {I:Imm}{r01:Nat}{p c p2 c1 p3 c2},(S4 I p r0.b c)->(S4 I p2 p1.Arrays c1)->(S4 I p3 p1.Parts c2)->RT 49 [vP r01 0,vA (cProg p1 p2 c1 p3 c2)] I [hB r01 (cRd r0 p c)] (zAK r01 r):=by
 intro r0 p1 r N I r01 p c p2 c1 p3 c2 h h1 h2;by_cases hq:∃ y y3 x s,rK p1=some y/\xF r0 60=some (3,y3)/\idx y.Parts (W ((y.Parts.length:Int) - 1))=some x/\idx x.Body 0=some s
 · obtain ⟨y,y3,x,s,e1,e2,e3,e4⟩:=hq;exact zFN r0 p1 r N e1 e2 e3 e4 h h1 h2
 refine zFL r0 p1 r N h h1 h2 ?_;intro y y2 y3 x s e1 e2 e3 e4 e5;obtain rfl:=eq_of_beq e3;exact hq ⟨y,y3,x,s,e1,e2,e4,e5⟩
def zCA (r:(List Str)):KT:=fun kk I' hs' v=>
  ∃ v0,hs'=[]/\v=tupV [v0]/\SL I' v0 r
def mD (s:Str) (c:UInt8) (out:List Str) (from0:Int) (i:Int):Option (List Str):=do
 if (decide (i<=(s.l.length:Int))) then
  let t25<-(do
    if (i==(s.l.length:Int)) then
     pure true
    else
     let b1<-sidx s i
     pure ((b1.toNat:Int)==(c.toNat:Int))
      : Option Bool)
  let (out2,from01)<-(do
    if t25 then
     let s1<-sslc s from0 i
     let out3<-app 16 out ([s1]:List Str)
     pure (out3,(W (i+1)))
    else
     pure (out,from0)
      : Option (List Str×Int))
  mD s c out2 from01 (W (i+1))
 else
  pure (id out)
 partial_fixpoint
theorem zFO (s:Str) (c:UInt8):∀ (out:List Str) (from0:Int) (i:Int) (o:List Str),mD s c out from0 i=some o->∀ {B}{I0 I:Imm}{Q p c1 cs},I0.le I->(RL I cs out)->NG Q->NO Q->(∀ (I':Imm) (out1:List Str) (p1:Option Addr) (c2:Nat) (cs1:List Value),o=out1->I0.le I'->(RL I' cs1 out1)->T 36 B Q (.exit 0) I' [hO Str (vS p1 out1 c2) cs1] [(5,vS p1 out1 c2)])->J Tryz.prog 36 B (nav (bodyOf Tryz.f133) [1,1,1,0,1,0]) Q I [hO Str (vS p out c1) cs] [(0,vT s.l),(1,.int .u8 (c.toNat:Int)),(5,vS p out c1),(6,vI from0),(7,vI i)]:=by
 refine mD.partial_correctness s c _ fun self ih out from0 i o N B I0 I Q p c1 cs H h1 hg ho hx=>yU hg ho<|yD<|yH [12] rfl<|zK<|yG N ?_ ?_
 · intro hc N;refine zS<|zZ<|yF<|yD ?_;refine uB N [hO Str (vS p out c1) cs] (fun t25=>[(0,vT s.l),(1,.int .u8 (c.toNat:Int)),(5,vS p out c1),(6,vI from0),(7,vI i),(25,.bool t25)]) (fun o0 ho0=>?_) ?_
   · have H:=iS I;refine zM<|yE 5 [] [19] rfl<|wO [19] ho0 ?_ ?_
     · intro hc1 N;exact wU [] [(25,vY)]<|yW<|zU (ct N H)
     intro hc1 N;exact yE 7 [] [20,21] rfl<|bE N fun b1 hy N=>zBS rfl rfl hy<|yM [] [25] rfl<|yW<|zU (ct N H)
   intro t25 I0 le hMc;have ⟨h1,H⟩:=m2 le h1 H;refine zK ?_;obtain ⟨o01,ho01,hMc1⟩:=zB hMc;refine nN (fun I' hs' m'=>∃ (out2:List Str) (from01:Int) (p2:Option Addr) (c3:Nat) (cs2:List Value),o01=(out2,from01)/\I0.le I'/\(RL I' cs2 out2)/\hs'=[hO Str (vS p2 out2 c3) cs2]/\m'=[(0,vT s.l),(1,.int .u8 (c.toNat:Int)),(5,vS p2 out2 c3),(6,vI from01),(7,vI i)]) ?_ ?_
   · have H:=iS I0;refine yG ho01 ?_ ?_
     · intro hc2 N;refine yC<|yE 4 [] [26,27,28,29] rfl<|bE N fun s1 hy1 N=>zIM rfl hy1<|tK [vT s1.l] Str ?_;intro b2 hb1;have h4:RL I0 [vT s1.l] ([s1]:List Str):=rT [s1];obtain ⟨out3,hy2,N⟩:=zB N;exact qD 9 1 1 rfl rfl rfl h1 (.inr ⟨0,rfl⟩) h4 hy2 fun p3 c4 cs3 h5=>sW (zY [1] (hs':=[hO Str (vS p3 out3 c4) cs3]))<|yM [] [5] rfl<|zK<|zM<|yM [] [6] rfl<|yW<|zU ⟨_,_,_,_,_,(zC N).symm,H,h5,rfl,rfl⟩
     intro hc2 N;exact zS<|yW<|zU ⟨_,_,_,_,_,(zC N).symm,H,h1,rfl,rfl⟩
   rintro I01 hs2 m2 ⟨out2,from01,p2,c3,cs2,heq1,le1,h3,rfl,rfl⟩;subst o01;have H:=H.trans le1;exact zO<|zK<|zM<|yM [] [7] rfl<|yT<|nT<|ih out2 from01 (W (i+1)) _ hMc1 H h3 hg ho hx
 intro hc N;exact wW<|yW<|hx _ _ _ _ _ (zC N).symm H h1
def gK (s:Str) (c:UInt8):Option ((List Str)):=do
 let out1<-mD s c ([]:List Str) 0 0
 pure (id out1)
theorem zBG:∀ s c r,gK s c=some r->∀ {I:Imm} ,RT 133 [vT s.l,.int .u8 (c.toNat:Int)] I [] (zCA  r):=by
 intro s c r N I;unfold gK at N;refine yJ Tryz.func133 fun B=>vM []<|yX<|tK [] Str ?_;intro b hb;have h:RL I [] ([]:List Str):=rfl;refine yM [] [5] rfl<|uN [6] rfl<|zZ<|yH [7] rfl<|wK<|pM [(0,vT s.l),(1,.int .u8 (c.toNat:Int)),(5,vS (some ⟨b,0,none⟩) ([]:List Str) 0),(6,vI 0),(7,vI 0)] ?_;obtain ⟨o02,ho02,hMl⟩:=zB N;refine zFO s c ([]:List Str) 0 0 o02 ho02 iR h (fun _ _ _ h=>h) (fun _ _ h=>h) ?_;intro I02 out1 p1 c2 cs1 heq2 le2 h2;subst o02;refine zR<|uN [4] rfl<|xI<|xE 0 rfl ?_;intro I03 le3 hl0;have h6:=SL.of_frozen hl0 le3 h2;obtain rfl:=zC hMl;exact xC ⟨_,_,(.tmp rfl ResV.nil),zQ,⟨_,rfl,rfl,h6⟩⟩
def pY (y:(List Str)) (out:List Str) (i:Int):Option (List Str):=do
 if (decide (i<(y.length:Int))) then
  let x<-idx y i
  let out2<-(do
    if (!(x.l==([]:List UInt8))) then
     let x1<-idx y i
     let out3<-app 16 out ([x1]:List Str)
     pure (id out3)
    else
     pure (id out)
      : Option (List Str))
  pY y out2 (W (i+1))
 else
  pure (id out)
 partial_fixpoint
theorem zDt (y:(List Str)):∀ (out:List Str) (i:Int) (o:List Str),pY y out i=some o->∀ {B}{I0 I:Imm}{Q p c p1 c1 cs},I0.le I->(S4 I p y c)->(RL I cs out)->NG Q->NO Q->(∀ (I':Imm) (out1:List Str) (p2:Option Addr) (c2:Nat) (cs1:List Value),o=out1->I0.le I'->(RL I' cs1 out1)->T 28 B Q (.exit 0) I' [hO Str (vS p2 out1 c2) cs1] [(4,vS p2 out1 c2)])->J Tryz.prog 28 B (nav (bodyOf Tryz.f165) [1,1,1,0,1,0]) Q I [hO Str (vS p1 out c1) cs] [(3,vS p y c),(4,vS p1 out c1),(5,vI i)]:=by
 refine pY.partial_correctness y _ fun self ih out i o N B I0 I Q p c p1 c1 cs H h h2 hg ho hx=>yU hg ho<|yD<|yH [12] rfl<|zK<|yG N ?_ ?_
 · intro hc N;refine zS<|zZ<|yF<|yC<|yE 2 [] [15,16] rfl<|bE N fun x hy1 N=>xT rfl rfl h hy1 ?_;intro ad ccs hat hrep;obtain rfl:=hrep;refine xO 0 hat [vT x.l] (vT x.l) rfl<|yM [] [19] rfl<|zK ?_;obtain ⟨o0,ho0,hMc⟩:=zB N;refine nN (fun I' hs' m'=>∃ (out2:List Str) (p3:Option Addr) (c3:Nat) (cs2:List Value),o0=out2/\I.le I'/\(RL I' cs2 out2)/\hs'=[hO Str (vS p3 out2 c3) cs2]/\m'=[(3,vS p y c),(4,vS p3 out2 c3),(5,vI i)]) ?_ ?_
   · have H:=iS I;refine yG ho0 ?_ ?_
     · intro hc1 N;refine zM<|yE 3 [] [20,21,22] rfl<|bE N fun x1 hy2 N=>xT rfl rfl h hy2 ?_;intro ad1 ccs1 hat1 hrep1;obtain rfl:=hrep1;refine xO 0 hat1 [vT x1.l] (vT x1.l) rfl<|tK [vT x1.l] Str ?_;intro b1 hb1;have h5:RL I [vT x1.l] ([x1]:List Str):=rT [x1];obtain ⟨out3,hy3,N⟩:=zB N;exact qD 9 1 1 rfl rfl rfl h2 (.inr ⟨0,rfl⟩) h5 hy3 fun p4 c4 cs3 h6=>sW (zY [1] (hs':=[hO Str (vS p4 out3 c4) cs3]))<|yM [] [4] rfl<|yW<|zU ⟨_,_,_,_,(zC N).symm,H,h6,rfl,rfl⟩
     intro hc1 N;exact zS<|yW<|zU ⟨_,_,_,_,(zC N).symm,H,h2,rfl,rfl⟩
   rintro I01 hs2 m2 ⟨out2,p3,c3,cs2,heq,le1,h4,rfl,rfl⟩;subst o0;have ⟨h,H⟩:=m2 le1 h H;exact zO<|zK<|zM<|yM [] [5] rfl<|yT<|nT<|ih out2 (W (i+1)) _ hMc H h h4 hg ho hx
 intro hc N;exact wW<|yW<|hx _ _ _ _ _ (zC N).symm H h2
def jQ (s:Str):Option ((List Str)):=do
 let y<-gK s (32:UInt8)
 let out1<-pY y ([]:List Str) 0
 pure (id out1)
theorem zCB:∀ s r,jQ s=some r->∀ {I:Imm} ,RT 165 [vT s.l] I [] (zCA  r):=by
 intro s r N I;unfold jQ at N;refine yJ Tryz.func165 fun B=>vM []<|yX<|yE 1 [] [6] rfl<|bE N fun y hy N=>xH (zBG s (32:UInt8) _ hy ) ?_;rintro I0 hs2 v2 k2 le - ⟨v0,rfl,rfl,h⟩ -;obtain ⟨p,c,rfl⟩:=h.form;refine yM [] [3] rfl<|yX<|tK [] Str ?_;intro b hb;have h1:RL I0 [] ([]:List Str):=rfl;refine yM [] [4] rfl<|zZ<|yH [5] rfl<|wK<|pM [(3,vS p y c),(4,vS (some ⟨b,0,none⟩) ([]:List Str) 0),(5,vI 0)] ?_;obtain ⟨o01,ho01,hMl⟩:=zB N;refine zDt y ([]:List Str) 0 o01 ho01 iR h h1 (fun _ _ _ h=>h) (fun _ _ h=>h) ?_;intro I02 out1 p2 c2 cs1 heq1 le2 h3;subst o01;refine zR<|uN [2] rfl<|xI<|xE 0 rfl ?_;intro I03 le3 hl0;have h7:=SL.of_frozen hl0 le3 h3;obtain rfl:=zC hMl;exact xC ⟨_,_,(.tmp rfl ResV.nil),zQ,⟨_,rfl,rfl,h7⟩⟩
def fE (r:Int×Bool):KT:=fun kk I' hs' v=>
  ∃ v0 v1,hs'=[]/\v=tupV [v0,v1]/\v0=.int .i64 r.1/\v1=.bool r.2
def mE (s1:Str) (n0:Int) (i:Int):Option (Out Int (Int×Bool)):=do
 if (decide (i<(s1.l.length:Int))) then
  let t54<-(do
    let b2<-sidx s1 i
    if (decide ((b2.toNat:Int)<48)) then
     pure true
    else
     let b3<-sidx s1 i
     pure (decide ((b3.toNat:Int)>57))
      : Option Bool)
  if t54 then
   pure (.ret (0,false))
  else
   let b4<-sidx s1 i
   mE s1 (W ((W (n0*10))+(W (IntKind.u8.wrap ((b4.toNat:Int) - 48))))) (W (i+1))
 else
  pure (.done n0)
 partial_fixpoint
theorem zFP (s1:Str):∀ (n0:Int) (i:Int) (o:Out Int (Int×Bool)),mE s1 n0 i=some o->∀ {B}{I0 I:Imm}{Q}{neg:Bool} ,I0.le I->NG Q->NO Q->(∀ (I':Imm) (n01:Int),o=(.done n01)->I0.le I'->T 67 B Q (.exit 0) I' [] [(4,.bool neg),(5,vI n01)])->(∀ r I' hs' m',o=(.ret r)->I0.le I'->RS Tryz.prog Tryz.f187 B (fE  r) I' hs' m'->T 67 B Q .ret I' hs' m')->J Tryz.prog 67 B (nav (bodyOf Tryz.f187) [1,1,1,1,1,0,1,0]) Q I [] [(0,vT s1.l),(4,.bool neg),(5,vI n0),(6,vI i)]:=by
 refine mE.partial_correctness s1 _ fun self ih n0 i o N B I0 I Q neg H hg ho hx hr=>yU hg ho<|yD<|yH [42] rfl<|zK<|yG N ?_ ?_
 · intro hc7 N;refine zS<|zZ<|yF<|yD<|yD ?_;refine uB N [] (fun t54=>[(0,vT s1.l),(4,.bool neg),(5,vI n0),(6,vI i),(54,.bool t54)]) (fun o03 ho03=>?_) ?_
   · have H:=iS I;refine zM<|yE 2 [] [45,46] rfl ?_;obtain ⟨b2,hy3,N⟩:=zB ho03;refine zBS rfl rfl hy3<|yE 5 [] [49] rfl<|wO [49] N ?_ ?_
     · intro hc8 N;exact wU [] [(54,vY)]<|yW<|zU (ct N H)
     intro hc8 N;exact yE 7 [] [50,51] rfl<|bE N fun b3 hy4 N=>zBS rfl rfl hy4<|yM [] [54] rfl<|yW<|zU (ct N H)
   intro t54 I03 le3 hMc3;have H:=H.trans le3;refine zK<|yG hMc3 ?_ ?_
   · intro hc9 N;exact yH [2,3] rfl<|xI<|zL<|zV<|zL<|zL<|hr _ _ _ _ (zC N).symm H ⟨_,_,(.tmp rfl (.tmp rfl ResV.nil)),zQ,⟨_,_,rfl,rfl,rfl,rfl⟩⟩
   intro hc9 N;exact zS<|zK<|zM<|yE 4 [] [56,57,58] rfl<|bE N fun b4 hy5 N=>zBS rfl rfl hy5<|yM [] [5] rfl<|zO<|zK<|zM<|yM [] [6] rfl<|yT<|nT<|ih (W ((W (n0*10))+(W (IntKind.u8.wrap ((b4.toNat:Int) - 48))))) (W (i+1)) _ N H  hg ho hx hr
 intro hc7 N;exact wW<|yW<|hx _ _ (zC N).symm H
def eG (s:Str):Option (Int×Bool):=do
 let neg<-(do
   if (decide ((s.l.length:Int)>0)) then
    let b<-sidx s 0
    pure ((b.toNat:Int)==45)
   else
    pure false
     : Option Bool)
 let s1<-(do
   if neg then
    let s2<-sslc s 1 (s.l.length:Int)
    pure (id s2)
   else
    pure (id s)
     : Option Str)
 let t38<-(do
   if ((s1.l.length:Int)==0) then
    pure true
   else
    if (decide ((s1.l.length:Int)>17)) then
     pure true
    else
     let b1<-sidx s1 0
     if ((b1.toNat:Int)==48) then
      if (decide ((s1.l.length:Int)>1)) then
       pure true
      else
       pure (id neg)
     else
      pure false
     : Option Bool)
 if t38 then
  pure (0,false)
 else
  match<-mE s1 0 0 with
  | .ret r0=>pure r0
  | .done n01 =>
   let n02<-(do
     if neg then
      pure (W (0 - n01))
     else
      pure (id n01)
       : Option Int)
   pure (n02,true)
theorem zDQ:∀ s r,eG s=some r->∀ {I:Imm} ,RT 187 [vT s.l] I [] (fE  r):=by
 intro s r N I;unfold eG at N;refine yJ Tryz.func187 fun B=>?_;have H:=iS I;refine vM []<|zK<|yD ?_;refine uB N [] (fun neg=>[(0,vT s.l),(4,.bool neg)]) (fun o0 ho0=>?_) ?_
 · have H:=iS I;refine zM<|yE 4 [] [10] rfl<|wO [10] ho0 ?_ ?_
   · intro hc N;exact yE 5 [] [11] rfl<|bE N fun b hy N=>zBS rfl rfl hy<|yM [] [4] rfl<|yW<|zU (ct N H)
   intro hc N;exact wU [] [(4,vF)]<|yW<|zU (ct N H)
 intro neg I0 le hMc;have H:=H.trans le;refine zZ<|yH [15] rfl<|zK ?_;refine uB hMc [] (fun s1=>[(0,vT s1.l),(4,.bool neg)]) (fun o01 ho01=>?_) ?_
 · have H:=iS I0;refine yG ho01 ?_ ?_
   · intro hc1 N;exact zM<|yE 1 [] [16] rfl<|bE N fun s2 hy1 N=>zIM rfl hy1<|yM [] [0] rfl<|yW<|zU (ct N H)
   intro hc1 N;exact zS<|yW<|zU (ct N H)
 intro s1 I01 le1 hMc1;have H:=H.trans le1;refine zZ<|yD ?_;refine uB hMc1 [] (fun t38=>[(0,vT s1.l),(4,.bool neg),(38,.bool t38)]) (fun o02 ho02=>?_) ?_
 · have H:=iS I01;refine zM<|yE 4 [] [21] rfl<|wO [21] ho02 ?_ ?_
   · intro hc2 N;exact wU [] [(38,vY)]<|yW<|zU (ct N H)
   intro hc2 N;refine yE 9 [] [26] rfl<|wO [26] N ?_ ?_
   · intro hc3 N;exact wU [] [(38,vY)]<|yW<|zU (ct N H)
   intro hc3 N;refine yE 10 [] [27] rfl<|bE N fun b1 hy2 N=>zBS rfl rfl hy2<|yE 13 [] [30] rfl<|wO [30] N ?_ ?_
   · intro hc4 N;refine yE 17 [] [34] rfl<|wO [34] N ?_ ?_
     · intro hc5 N;exact wU [] [(38,vY)]<|yW<|zU (ct N H)
     intro hc5 N;exact yM [] [38] rfl<|yW<|zU (ct N H)
   intro hc4 N;exact wU [] [(38,vF)]<|yW<|zU (ct N H)
 intro t38 I02 le2 hMc2;have H:=H.trans le2;refine zK<|yG hMc2 ?_ ?_
 · intro hc6 N;refine yH [2,3] rfl<|xI<|zL ?_;obtain rfl:=zC N;exact xC ⟨_,_,(.tmp rfl (.tmp rfl ResV.nil)),zQ,⟨_,_,rfl,rfl,rfl,rfl⟩⟩
 intro hc6 N;refine zS<|uN [5] rfl<|zZ<|yH [6] rfl<|wK<|pM [(0,vT s1.l),(4,.bool neg),(5,vI 0),(6,vI 0)] ?_;obtain ⟨o04,ho04,hMl⟩:=zB N;refine zFP s1 0 0 o04 ho04 iR  (fun _ _ _ h=>h) (fun _ _ h=>h) ?_ ?_
 · intro I04 n01 heq4 le4;subst o04;have H:=H.trans le4;refine zR<|zZ<|yH [63] rfl<|zK ?_;refine uB hMl [] (fun n02=>[(5,vI n02)]) (fun o05 ho05=>?_) ?_
   · have H:=iS I04;refine yG ho05 ?_ ?_
     · intro hc10 N;exact zM<|yM [] [5] rfl<|yW<|zU (ct N H)
     intro hc10 N;exact zS<|yW<|zU (ct N H)
   intro n02 I05 le5 hMc4;refine uN [2,3] rfl<|zK<|xD ?_;obtain rfl:=zC hMc4;exact xC ⟨_,_,(.tmp rfl (.tmp rfl ResV.nil)),zQ,⟨_,_,rfl,rfl,rfl,rfl⟩⟩
 intro r0 I9 hs9 m9 heq9 le9 hrs9;subst heq9;refine zV<|zL ?_;obtain rfl:=zC hMl;exact xC hrs9
def zB7 (r:zD):KT:=fun kk I' hs' v=>
  ∃ v0,hs'=[]/\v=tupV [v0]/\(∃ cs,v0=.agg ⟨cs⟩/\Rp.rep I' cs r)
def pH (w0:(List Str)) (i:Int) (Name:Str) (Dims:List Int):Option ((Str×List Int)):=do
 let t15<-(do
   if (decide (i<(w0.length:Int))) then
    pure (decide (i<=4))
   else
    pure false
     : Option Bool)
 if t15 then
  if (i==1) then
   let x<-idx w0 1
   pH w0 (W (i+1)) x Dims
  else
   let x1<-idx w0 i
   let (y1,y2)<-eG x1
   let l<-app 8 Dims ([y1]:List Int)
   pH w0 (W (i+1)) Name l
 else
  pure (Name,Dims)
 partial_fixpoint
theorem zE0 (w0:(List Str)):∀ (i:Int) (Name:Str) (Dims:List Int) (o:(Str×List Int)),pH w0 i Name Dims=some o->∀ {B}{I0 I:Imm}{Q p c}{b:Nat}{b1:Nat}{p1 c1 cs},I0.le I->(S4 I p w0 c)->(RL I cs Dims)->NG Q->NO Q->(∀ (I':Imm) (Name1:Str) (Dims1:List Int) (p2:Option Addr) (c2:Nat) (cs1:List Value),o=(Name1,Dims1)->I0.le I'->(RL I' cs1 Dims1)->T 39 B Q (.exit 0) I' [hO Int (vS p2 Dims1 c2) cs1,hB b1 [vT Name1.l,vS p2 Dims1 c2],hB b [vT ([]),z0]] [(2,vP b 0),(3,vP b1 0)])->J Tryz.prog 39 B (nav (bodyOf Tryz.f166) [1,1,0,1,0]) Q I [hO Int (vS p1 Dims c1) cs,hB b1 [vT Name.l,vS p1 Dims c1],hB b [vT ([]),z0]] [(0,vS p w0 c),(2,vP b 0),(3,vP b1 0),(4,vI i)]:=by
 refine pH.partial_correctness w0 _ fun self ih i Name Dims o N B I0 I Q p c b b1 p1 c1 cs H h h2 hg ho hx=>yU hg ho<|yD<|yD ?_;refine uB N [hO Int (vS p1 Dims c1) cs,hB b1 [vT Name.l,vS p1 Dims c1],hB b [vT ([]),z0]] (fun t15=>[(0,vS p w0 c),(2,vP b 0),(3,vP b1 0),(4,vI i),(15,.bool t15)]) (fun o0 ho0=>?_) ?_
 · have H:=iS I;refine zM<|yE 5 [] [12] rfl<|wO [12] ho0 ?_ ?_
   · intro hc N;exact yM [] [15] rfl<|yW<|zU (ct N H)
   intro hc N;exact wU [] [(15,vF)]<|yW<|zU (ct N H)
 intro t15 I0 le hMc;have ⟨h,h2,H⟩:=m3 le h h2 H;refine zK<|yG hMc ?_ ?_
 · intro hc1 N;refine zS<|zZ<|yF<|yD<|yH [19] rfl<|zK<|yG N ?_ ?_
   · intro hc2 N;refine yC<|yE 1 [] [20] rfl<|bE N fun x hy N=>xT rfl rfl h hy ?_;intro ad ccs hat hrep;obtain rfl:=hrep;exact xO 0 hat [vT x.l] (vT x.l) rfl<|yE 4 [] [23] rfl<|yZ 1 [vT x.l,vS p1 Dims c1] rfl<|zX rfl<|zK<|zEO<|jY<|zR<|zK<|zM<|yM [] [4] rfl<|yT<|nT<|ih (W (i+1)) x Dims _ N H h h2 hg ho hx
   intro hc2 N;refine zS<|yX<|yE 2 [] [25,26] rfl<|bE N fun x1 hy1 N=>xT rfl rfl h hy1 ?_;intro ad1 ccs1 hat1 hrep1;obtain rfl:=hrep1;refine xO 0 hat1 [vT x1.l] (vT x1.l) rfl ?_;obtain ⟨⟨y1,y2⟩,hy2,N⟩:=zB N;refine xH (zDQ x1 _ hy2 ) ?_;rintro I01 hs2 v2 k2 le1 - ⟨v0,v01,rfl,rfl,rfl,rfl⟩ -;have ⟨h,h2,H⟩:=m3 le1 h h2 H;refine yM [] [5] rfl<|zK<|zM<|yE 3 [1] [33,34] rfl<|tK [vI y1] Int ?_;intro b2 hb2;have h6:RL I01 [vI y1] ([y1]:List Int):=rI [y1];obtain ⟨l,hy3,N⟩:=zB N;refine qD 3 1 1 rfl rfl rfl h2 (.inr ⟨0,rfl⟩) h6 hy3 ?_;intro p3 c3 cs2 h7;exact sW (zY [1,2,3] (hs':=[hO Int (vS p3 l c3) cs2,hB b1 [vT Name.l,vS p1 Dims c1],hB b [vT ([]),z0]]))<|yE 6 [] [37] rfl<|yZ 1 [vT Name.l,vS p3 l c3] rfl<|zX rfl<|zO<|zK<|zM<|yM [] [4] rfl<|yT<|nT<|ih (W (i+1)) Name l _ N H h h7 hg ho hx
 intro hc1 N;exact wW<|yW<|hx _ _ _ _ _ _ (zC N).symm H h2
def eX (w0:(List Str)):Option (zD):=do
 let (Name1,Dims1)<-pH w0 1 (⟨[]⟩:Str) ([]:List Int)
 pure (zD.mk Name1 Dims1)
theorem zGd:∀ w0 r,eX w0=some r->∀ {I:Imm}{p c},(S4 I p w0 c)->RT 166 [vS p w0 c] I [] (zB7  r):=by
 intro w0 r N I p c h;unfold eX at N;refine yJ Tryz.func166 fun B=>yC<|xU [vT ([]),z0] ?_;intro b hb;refine zX rfl<|yX<|yE 1 [] [7] rfl<|xU [vT ([]),z0] ?_;intro b1 hb1;refine yZ 0 [vT ([]),z0] rfl<|zX rfl<|zZ<|yH [4] rfl<|wK<|pM [(0,vS p w0 c),(2,vP b 0),(3,vP b1 0),(4,vI 1)]<|zAb Int fun h1=>?_;obtain ⟨o01,ho01,hMl⟩:=zB N;refine zE0 w0 1 (⟨[]⟩:Str) ([]:List Int) o01 ho01 iR h h1 (fun _ _ _ h=>h) (fun _ _ h=>h) ?_;intro I02 Name1 Dims1 p2 c2 cs1 heq1 le2 h3;subst o01;refine zR<|yX<|tZ 1 [1] [(38,vA [vT Name1.l,vS p2 Dims1 c2])]<|yZ 2 [vT Name1.l,vS p2 Dims1 c2] rfl<|zX rfl<|xI<|xE 0 rfl ?_;intro I03 le3 hl0;have h8:=SL.of_frozen hl0 le3 h3;obtain rfl:=zC hMl;exact xC ⟨_,_,(.cell 1 rfl rfl (by kernel_rfl) ResV.nil),zQ,⟨_,rfl,rfl,⟨_,rfl,(uO ⟨_,rfl,h8⟩)⟩⟩⟩
def zAL (r:Int×Int):KT:=fun kk I' hs' v=>
  ∃ v0 v1,hs'=[]/\v=tupV [v0,v1]/\v0=.int .i64 r.1/\v1=.int .i64 r.2
def pZ (s:Str) (at0:Int) (end0:Int):Option (Int):=do
 let t31<-(do
   if (decide (end0<(s.l.length:Int))) then
    if (decide (end0<(W (at0+2)))) then
     let b<-sidx s end0
     if (decide ((b.toNat:Int)>=48)) then
      let b1<-sidx s end0
      pure (decide ((b1.toNat:Int)<=57))
     else
      pure false
    else
     pure false
   else
    pure false
     : Option Bool)
 if t31 then
  pZ s at0 (W (end0+1))
 else
  pure (id end0)
 partial_fixpoint
theorem zDu (s:Str) (at0:Int):∀ (end0:Int) (o:Int),pZ s at0 end0=some o->∀ {B}{I0 I:Imm}{Q}  ,I0.le I->NG Q->NO Q->(∀ (I':Imm) (end01:Int),o=end01->I0.le I'->T 47 B Q (.exit 0) I' [] [(0,vT s.l),(1,vI at0),(6,vI end01)])->J Tryz.prog 47 B (nav (bodyOf Tryz.f203) [1,1,0,0]) Q I [] [(0,vT s.l),(1,vI at0),(6,vI end0)]:=by
 refine pZ.partial_correctness s at0 _ fun self ih end0 o N B I0 I Q H hg ho hx=>yU hg ho<|yD<|yD ?_;refine uB N [] (fun t31=>[(0,vT s.l),(1,vI at0),(6,vI end0),(31,.bool t31)]) (fun o0 ho0=>?_) ?_
 · have H:=iS I;refine zM<|yE 5 [] [14] rfl<|wO [14] ho0 ?_ ?_
   · intro hc N;refine yE 11 [] [20] rfl<|wO [20] N ?_ ?_
     · intro hc1 N;refine yE 13 [] [21,22] rfl<|bE N fun b hy N=>zBS rfl rfl hy<|yE 17 [] [26] rfl<|wO [26] N ?_ ?_
       · intro hc2 N;exact yE 19 [] [27,28] rfl<|bE N fun b1 hy1 N=>zBS rfl rfl hy1<|yM [] [31] rfl<|yW<|zU (ct N H)
       intro hc2 N;exact wU [] [(31,vF)]<|yW<|zU (ct N H)
     intro hc1 N;exact wU [] [(31,vF)]<|yW<|zU (ct N H)
   intro hc N;exact wU [] [(31,vF)]<|yW<|zU (ct N H)
 intro t31 I0 le hMc;have H:=H.trans le;refine zK<|yG hMc ?_ ?_
 · intro hc3 N;exact zS<|wK<|zM<|yM [] [6] rfl<|zO<|yT<|nT<|ih (W (end0+1)) _ N H  hg ho hx
 intro hc3 N;exact wW<|yW<|hx _ _ (zC N).symm H
def jR (s:Str) (at0:Int):Option (Int×Int):=do
 let end01<-pZ s at0 at0
 let s1<-sslc s at0 end01
 let (y1,y2)<-eG s1
 if (!y2) then
  pure (1,at0)
 else
  pure (y1,end01)
theorem zCC:∀ s at0 r,jR s at0=some r->∀ {I:Imm} ,RT 203 [vT s.l,vI at0] I [] (zAL  r):=by
 intro s at0 r N I;unfold jR at N;refine yJ Tryz.func203 fun B=>vM []<|uN [6] rfl<|zZ<|yF<|pM [(0,vT s.l),(1,vI at0),(6,vI at0)] ?_;obtain ⟨o01,ho01,hMl⟩:=zB N;refine zDu s at0 at0 o01 ho01 iR  (fun _ _ _ h=>h) (fun _ _ h=>h) ?_;intro I01 end01 heq1 le1;subst o01;refine zR<|yX<|yE 3 [] [35,36,37] rfl ?_;obtain ⟨s1,hy2,N⟩:=zB hMl;refine zIM rfl hy2 ?_;obtain ⟨⟨y1,y2⟩,hy3,N⟩:=zB N;refine xH (zDQ s1 _ hy3 ) ?_;rintro I02 hs2 v2 k2 le2 - ⟨v0,v01,rfl,rfl,rfl,rfl⟩ -;refine yM [] [7,8] rfl<|zZ<|yH [43] rfl<|zK<|yG N ?_ ?_
 · intro hc4 N;refine yH [4,5] rfl<|xI<|zL ?_;obtain rfl:=zC N;exact xC ⟨_,_,(.tmp rfl (.tmp rfl ResV.nil)),zQ,⟨_,_,rfl,rfl,rfl,rfl⟩⟩
 intro hc4 N;refine zS<|uN [4,5] rfl<|zK<|xD ?_;obtain rfl:=zC N;exact xC ⟨_,_,(.tmp rfl (.tmp rfl ResV.nil)),zQ,⟨_,_,rfl,rfl,rfl,rfl⟩⟩
def xQ (r:Int):KT:=fun kk I' hs' v=>
  ∃ v0,hs'=[]/\v=tupV [v0]/\v0=.int .i64 r
def dY (s:Str) (at0:Int):Option (Int):=do
 let t20<-(do
   if (decide (at0>=(s.l.length:Int))) then
    pure true
   else
    let b<-sidx s at0
    if (decide ((b.toNat:Int)<105)) then
     pure true
    else
     let b1<-sidx s at0
     pure (decide ((b1.toNat:Int)>108))
     : Option Bool)
 if t20 then
  pure (-1)
 else
  let b2<-sidx s at0
  pure (W ((W (b2.toNat:Int)) - 105))
theorem zH5:∀ s at0 r,dY s at0=some r->∀ {I:Imm} ,RT 216 [vT s.l,vI at0] I [] (xQ  r):=by
 intro s at0 r N I;unfold dY at N;refine yJ Tryz.func216 fun B=>?_;have H:=iS I;refine vM []<|zZ<|yD ?_;refine uB N [] (fun t20=>[(0,vT s.l),(1,vI at0),(20,.bool t20)]) (fun o0 ho0=>?_) ?_
 · have H:=iS I;refine zM<|yE 5 [] [9] rfl<|wO [9] ho0 ?_ ?_
   · intro hc N;exact wU [] [(20,vY)]<|yW<|zU (ct N H)
   intro hc N;refine yE 7 [] [10,11] rfl<|bE N fun b hy N=>zBS rfl rfl hy<|yE 11 [] [15] rfl<|wO [15] N ?_ ?_
   · intro hc1 N;exact wU [] [(20,vY)]<|yW<|zU (ct N H)
   intro hc1 N;exact yE 13 [] [16,17] rfl<|bE N fun b1 hy1 N=>zBS rfl rfl hy1<|yM [] [20] rfl<|yW<|zU (ct N H)
 intro t20 I0 le hMc;refine zK<|yG hMc ?_ ?_
 · intro hc2 N;refine yH [4] rfl<|xI<|zL ?_;obtain rfl:=zC N;exact uE
 intro hc2 N;refine zS<|yX<|yE 2 [] [21,22] rfl<|bE N fun b2 hy2 N=>zBS rfl rfl hy2<|yM [] [4] rfl<|zK<|xD ?_;obtain rfl:=zC N;exact uE
def zFQ (r:zA×Int):KT:=fun kk I' hs' v=>
  ∃ v0 v1,hs'=[]/\v=tupV [v0,v1]/\(∃ cs,v0=.agg ⟨cs⟩/\Rp.rep I' cs r.1)/\v1=.int .i64 r.2
def eY (a0:zA) (s:Str) (at0:Int):Option (zA×Int):=do
 let b2<-sidx s at0
 let sign<-(do
   if ((b2.toNat:Int)==45) then
    pure (-1)
   else
    pure (id 1)
     : Option Int)
 let t27<-(do
   let b3<-sidx s at0
   if ((b3.toNat:Int)==45) then
    pure true
   else
    let b4<-sidx s at0
    pure ((b4.toNat:Int)==43)
     : Option Bool)
 let at01<-(do
   if t27 then
    pure (W (at0+1))
   else
    pure (id at0)
     : Option Int)
 let (y1,y2)<-jR s at01
 let t51<-(do
   if (decide (y2>at01)) then
    if (decide (y2<(s.l.length:Int))) then
     let b5<-sidx s y2
     pure ((b5.toNat:Int)==42)
    else
     pure false
   else
    pure false
     : Option Bool)
 let star<-(do
   if t51 then
    pure (W (y2+1))
   else
    pure (id y2)
     : Option Int)
 let y3<-dY s star
 let l<-app 8 ([]:List Int) a0.Coefs
 let t75<-(do
   if (decide (y3>=0)) then
    if (decide (star>y2)) then
     pure true
    else
     pure (y2==at01)
   else
    pure false
     : Option Bool)
 if t75 then
  let x<-idx l y3
  let x1<-idx l y3
  let l1<-pure (l.set y3.toNat (W (x+(W (sign*y1)))))
  pure ((zA.mk l1 a0.Const),(W (star+1)))
 else
  if (y2==at01) then
   pure (a0,(-1))
  else
   pure ((zA.mk l (W (a0.Const+(W (sign*y1))))),y2)
theorem zGe:∀ a0 s at0 r,eY a0 s at0=some r->∀ {I:Imm}{p c},(S4 I p a0.Coefs c)->RT 212 [vA (cAff a0 p c),vT s.l,vI at0] I [] (zFQ  r):=by
 intro a0 s at0 r N I p c h;unfold eY at N;refine yJ Tryz.func212 fun B=>?_;have H:=iS I;refine yC<|vK (cAff a0 p c) ?_;intro b hb;refine xU [z0,vI 0] ?_;intro b1 hb1;refine wU [] []<|uN [8] rfl<|zZ<|yC<|yE 2 [] [14,15] rfl<|bE N fun b2 hy N=>zBS rfl rfl hy<|yM [] [17] rfl<|zK ?_;refine uB N [hB b1 [z0,vI 0],hB b (cAff a0 p c)] (fun sign=>[(1,vT s.l),(2,vI at0),(3,vP b 0),(6,vP b1 0),(8,vI sign)]) (fun o0 ho0=>?_) ?_
 · have H:=iS I;refine yG ho0 ?_ ?_
   · intro hc N;exact zM<|yM [] [8] rfl<|yW<|zU (ct N H)
   intro hc N;exact zS<|yW<|zU (ct N H)
 intro sign I0 le hMc;have ⟨h,H⟩:=m2 le h H;refine zZ<|yD ?_;refine uB hMc [hB b1 [z0,vI 0],hB b (cAff a0 p c)] (fun t27=>[(1,vT s.l),(2,vI at0),(3,vP b 0),(6,vP b1 0),(8,vI sign),(27,.bool t27)]) (fun o01 ho01=>?_) ?_
 · have H:=iS I0;refine zM<|yE 2 [] [18,19] rfl ?_;obtain ⟨b3,hy1,N⟩:=zB ho01;refine zBS rfl rfl hy1<|yE 5 [] [22] rfl<|wO [22] N ?_ ?_
   · intro hc1 N;exact wU [] [(27,vY)]<|yW<|zU (ct N H)
   intro hc1 N;exact yE 7 [] [23,24] rfl<|bE N fun b4 hy2 N=>zBS rfl rfl hy2<|yM [] [27] rfl<|yW<|zU (ct N H)
 intro t27 I01 le1 hMc1;have ⟨h,H⟩:=m2 le1 h H;refine zK ?_;refine uB hMc1 [hB b1 [z0,vI 0],hB b (cAff a0 p c)] (fun at01=>[(1,vT s.l),(2,vI at01),(3,vP b 0),(6,vP b1 0),(8,vI sign)]) (fun o02 ho02=>?_) ?_
 · have H:=iS I01;refine yG ho02 ?_ ?_
   · intro hc2 N;exact zM<|yM [] [2] rfl<|yW<|zU (ct N H)
   intro hc2 N;exact zS<|yW<|zU (ct N H)
 intro at01 I02 le2 hMc2;have ⟨h,H⟩:=m2 le2 h H;refine yX<|yE 2 [] [31,32] rfl ?_;obtain ⟨⟨y1,y2⟩,hy3,N⟩:=zB hMc2;refine xH (zCC s at01 _ hy3 ) ?_;rintro I03 hs2 v2 k2 le3 - ⟨v0,v01,rfl,rfl,rfl,rfl⟩ -;have ⟨h,H⟩:=m2 le3 h H;refine yM [] [9,10] rfl<|uN [11] rfl<|zZ<|yD ?_;refine uB N [hB b1 [z0,vI 0],hB b (cAff a0 p c)] (fun t51=>[(1,vT s.l),(2,vI at01),(3,vP b 0),(6,vP b1 0),(8,vI sign),(9,vI y1),(10,vI y2),(11,vI y2),(51,.bool t51)]) (fun o03 ho03=>?_) ?_
 · have H:=iS I03;refine zM<|yE 4 [] [40] rfl<|wO [40] ho03 ?_ ?_
   · intro hc3 N;refine yE 10 [] [46] rfl<|wO [46] N ?_ ?_
     · intro hc4 N;exact yE 12 [] [47,48] rfl<|bE N fun b5 hy4 N=>zBS rfl rfl hy4<|yM [] [51] rfl<|yW<|zU (ct N H)
     intro hc4 N;exact wU [] [(51,vF)]<|yW<|zU (ct N H)
   intro hc3 N;exact wU [] [(51,vF)]<|yW<|zU (ct N H)
 intro t51 I04 le4 hMc3;have ⟨h,H⟩:=m2 le4 h H;refine zK ?_;refine uB hMc3 [hB b1 [z0,vI 0],hB b (cAff a0 p c)] (fun star=>[(1,vT s.l),(2,vI at01),(3,vP b 0),(6,vP b1 0),(8,vI sign),(9,vI y1),(10,vI y2),(11,vI star)]) (fun o04 ho04=>?_) ?_
 · have H:=iS I04;refine yG ho04 ?_ ?_
   · intro hc5 N;exact zM<|yM [] [11] rfl<|yW<|zU (ct N H)
   intro hc5 N;exact zS<|yW<|zU (ct N H)
 intro star I05 le5 hMc4;have ⟨h,H⟩:=m2 le5 h H;refine yX<|yE 2 [] [54,55] rfl ?_;obtain ⟨y3,hy5,N⟩:=zB hMc4;refine fB (zH5 s star _ hy5 ) ?_;intro I06 le6;have ⟨h,H⟩:=m2 le6 h H;refine yM [] [12] rfl<|zZ<|bE N fun l hy6 N=>wP [.x (fun I' v hx=>∃ b6,v=vS (some ⟨b6,0,none⟩) ([]:List Int) 0/\hx=[hO Int (vS (some ⟨b6,0,none⟩) ([]:List Int) 0) []]/\(RL I' [] ([]:List Int))),.p (vP b 0) [],.p (vS p a0.Coefs c) [1],.x (fun I' v hx=>∃ p1 c1 cs,v=vS p1 l c1/\hx=[hO Int (vS p1 l c1) cs]/\(RL I' cs l)),.p (vP b 1) [],.p (vI a0.Const) [1],.x (fun I' v hx=>∃ p11 c11 cs1,v=vA [vS p11 l c11,vI a0.Const]/\hx=[hO Int (vS p11 l c11) cs1]/\(RL I' cs1 l)),.x (fun I' v hx=>∃ b7,v=vP b7 0/\hx=[hB b7 [z0,vI 0]])] [[],[],[(1,false)],[(0,true),(2,false)],[],[(4,false)],[(3,true),(5,false)],[]] [hB b1 [z0,vI 0],hB b (cAff a0 p c)] [] [(6,true),(7,true)] (zY [0,1]) ?_ ?_
 · refine Ox ?_<|Op<|Op<|Ox ?_<|Op<|Op<|Ox ?_<|Ox ?_<|On
   · intro I1 hf le1;refine dS []<|tK [] Int ?_;intro b6 hb2;have h4:RL I1 [] ([]:List Int):=rfl;exact yL [hO Int (vS (some ⟨b6,0,none⟩) ([]:List Int) 0) []] iR ⟨_,rfl,rfl,h4⟩
   · rintro I1 hf le1 _ _ ⟨b6,rfl,rfl,h4⟩;refine yV [57,59] rfl ?_;have h:=h.mono le1;obtain ⟨ccs,k0,k01⟩:=h;have h:SL I1 (vS p a0.Coefs c) a0.Coefs:=⟨_,k0,k01⟩;exact qD 3 1 0 rfl rfl rfl h4 (.inl k0) k01 hy6 fun p1 c1 cs h5=>vH (hs':=(hO Int (vS p1 l c1) cs::hB b1 [z0,vI 0]::hB b (cAff a0 p c)::hf)) rfl<|yL [hO Int (vS p1 l c1) cs] iR ⟨_,_,_,rfl,rfl,h5⟩
   · rintro I1 hf le1 _ _ ⟨p1,c1,cs,rfl,rfl,h5⟩;exact yV [60,62] rfl<|qA 7 [(63,vA [vS p1 l c1,vI a0.Const])]<|yL [hO Int (vS p1 l c1) cs] iR ⟨_,_,_,rfl,rfl,h5⟩
   intro I1 hf le1;refine dS []<|xU [z0,vI 0] ?_;intro b7 hb3;exact yL [hB b7 [z0,vI 0]] iR ⟨_,rfl,rfl⟩
 rintro I07 le7 _ _ ⟨p11,c11,cs1,rfl,rfl,h51⟩ _ _ ⟨b7,rfl,rfl⟩;refine yV [2,3,6,8,9,10,11,12,13,63] rfl ?_;have ⟨h,H⟩:=m2 le7 h H;refine yZ 0 [vS p11 l c11,vI a0.Const] rfl<|zX rfl<|zZ<|yD ?_;refine uB N [hB b7 [vS p11 l c11,vI a0.Const],hO Int (vS p11 l c11) cs1,hB b1 [z0,vI 0],hB b (cAff a0 p c)] (fun t75=>[(2,vI at01),(3,vP b 0),(6,vP b1 0),(8,vI sign),(9,vI y1),(10,vI y2),(11,vI star),(12,vI y3),(13,vP b7 0),(75,.bool t75)]) (fun o05 ho05=>?_) ?_
 · have H:=iS I07;refine zM<|yE 3 [] [66] rfl<|wO [66] ho05 ?_ ?_
   · intro hc6 N;refine yE 7 [] [70] rfl<|wO [70] N ?_ ?_
     · intro hc7 N;exact wU [] [(75,vY)]<|yW<|zU (ct N H)
     intro hc7 N;exact yM [] [75] rfl<|yW<|zU (ct N H)
   intro hc6 N;exact wU [] [(75,vF)]<|yW<|zU (ct N H)
 intro t75 I08 le8 hMc5;have ⟨h51,h⟩:=m2 le8 h51 h;refine zK<|yG hMc5 ?_ ?_
 · intro hc8 N;refine yD<|bE N fun x hy7 N=>wP [.p (vP b7 0) [],.p (vS p11 l c11) [0],.p (vI y3) [],.p (vP b7 0) [],.p (vS p11 l c11) [0],.p (vI y3) [],.x (fun I' v hx=>∃ ad,v=.pointer (some ad)/\hx=[]/\(AtO (vS p11 l c11) (Rp.sz Int) y3.toNat ad)/\((cs1.drop (y3.toNat*Rp.sz Int)).take (Rp.sz Int)=[vI x])),.q (vI x),.p (vI sign) [],.p (vI y1) [],.p (vI (W (sign*y1))) [],.p (vI (W (x+(W (sign*y1))))) []] [[],[(0,false)],[],[],[(3,false)],[],[(4,false),(5,false)],[(6,false)],[],[],[(8,false),(9,false)],[(7,false),(10,false)]] [hB b7 [vS p11 l c11,vI a0.Const],hO Int (vS p11 l c11) cs1,hB b1 [z0,vI 0],hB b (cAff a0 p c)] [] [(1,false),(2,false),(11,false)] (zY [0,1,2,3]) ?_ ?_
   · refine Op<|Op<|Op<|Op<|Op<|Op<|Ox ?_<|Oq ?_<|Op<|Op<|Op<|Op<|On
     · intro I1 hf le1;refine yV [80,81] rfl ?_;have h51:=iM le1 h51;refine nU 1 rfl rfl rfl h51 hy7 ?_;intro ad ccs1 hat hcc hrep;obtain rfl:=hrep;exact yL [] iR ⟨_,rfl,rfl,hat,hcc⟩
     rintro I1 hf le1 _ _ ⟨ad,rfl,rfl,hat,hcc⟩;exact yV [82] rfl<|zBu 1 0 hat hcc [vI x] (vI x) rfl rfl<|xB iR
   intro I09 le9;refine yV [6,11,13,77,78,87] rfl ?_;have h51:=iM le9 h51;obtain ⟨x1,hy8,N⟩:=zB N;refine nU 1 rfl rfl rfl h51 hy8 ?_;intro ad1 ccs2 hat1 hcc1 hrep1;obtain rfl:=hrep1;obtain ⟨l1,hy9,N⟩:=zB N;refine qE (c:=[vI (W (x+(W (sign*y1))))]) (x':=(W (x+(W (sign*y1))))) 1 0 rfl rfl rfl hat1 rfl rfl hcc1 (by kernel_rfl) (by kernel_rfl) (by kernel_rfl) h51 hy8 (by kernel_rfl) rfl ?_;rw [show l.set y3.toNat (W (x+(W (sign*y1))))=l1 from zC hy9];intro cs2 h6 hl0;refine fY (m':=[(6,vP b1 0),(11,vI star),(13,vP b7 0),(77,vS p11 l c11),(78,vI y3),(87,vI (W (x+(W (sign*y1)))))]) ⟨rfl,rfl,rfl,rfl,rfl,rfl,trivial⟩<|zCX (hs':=[hB b7 [vS p11 l1 c11,vI a0.Const],hO Int (vS p11 l1 c11) cs2,hB b1 [z0,vI 0],hB b (cAff a0 p c)]) (m':=[(6,vP b1 0),(11,vI star),(13,vP b7 0),(77,vS p11 l1 c11),(78,vI y3),(87,vI (W (x+(W (sign*y1)))))]) (by first | rfl | simp only [vS,hl0,List.nil_append,List.cons_append,List.set_cons_zero,List.set_cons_succ,List.eraseIdx_cons_zero,List.eraseIdx_cons_succ]) (by first | rfl | simp only [vS,hl0])<|zX rfl<|yX<|tZ 3 [0] [(89,vA [vS p11 l1 c11,vI a0.Const]),(91,vI (W (star+1)))]<|yZ 2 [vS p11 l1 c11,vI a0.Const] rfl<|yM [] [7] rfl<|xI<|zL<|xE 1 rfl ?_;intro I010 le10 hl01;have h7:=SL.of_frozen hl01 le10 h6;obtain rfl:=zC N;exact xC ⟨_,_,(.cell 1 rfl rfl (by kernel_rfl) (.tmp rfl ResV.nil)),zQ,⟨_,_,rfl,rfl,⟨_,rfl,(yI ⟨_,rfl,h7⟩)⟩,rfl⟩⟩
 intro hc8 N;refine zS<|zZ<|yH [94] rfl<|zK<|yG N ?_ ?_
 · intro hc9 N;refine yC<|tZ 1 [3] [(95,vA (cAff a0 p c))]<|yZ 2 (cAff a0 p c) rfl<|yM [] [7] rfl<|xI<|zL ?_;obtain rfl:=zC N;exact xC ⟨_,_,(.cell 2 rfl rfl (by kernel_rfl) (.tmp rfl ResV.nil)),zQ,⟨_,_,rfl,rfl,⟨_,rfl,(yI ⟨_,rfl,h⟩)⟩,rfl⟩⟩
 intro hc9 N;refine zS<|yX<|yE 7 [0] [101,102] rfl<|yZ 0 [vS p11 l c11,vI (W (a0.Const+(W (sign*y1))))] rfl<|zX rfl<|yX<|tZ 2 [0] [(103,vA [vS p11 l c11,vI (W (a0.Const+(W (sign*y1))))]),(104,vI y2)]<|yZ 2 [vS p11 l c11,vI (W (a0.Const+(W (sign*y1))))] rfl<|yM [] [7] rfl<|xI<|xE 1 rfl ?_;intro I011 le11 hl02;have h8:=SL.of_frozen hl02 le11 h51;obtain rfl:=zC N;exact xC ⟨_,_,(.cell 1 rfl rfl (by kernel_rfl) (.tmp rfl ResV.nil)),zQ,⟨_,_,rfl,rfl,⟨_,rfl,(yI ⟨_,rfl,h8⟩)⟩,rfl⟩⟩
def zT (r:Bool):KT:=fun kk I' hs' v=>
  ∃ v0,hs'=[]/\v=tupV [v0]/\v0=.bool r
def tA (n0:Int) (most:Int):Option (Bool):=do
 let t4<-(do
   if (decide (n0>=(W (0 - most)))) then
    pure (decide (n0<=most))
   else
    pure false
     : Option Bool)
 pure (id t4)
theorem zA5:∀ n0 most r,tA n0 most=some r->∀ {I:Imm} ,RT 152 [vI n0,vI most] I [] (zT  r):=by
 intro n0 most r N I;unfold tA at N;refine yJ Tryz.func152 fun B=>?_;have H:=iS I;refine vM []<|zK<|yD ?_;refine uB N [] (fun t4=>[(4,.bool t4)]) (fun o0 ho0=>?_) ?_
 · have H:=iS I;refine zM<|yE 5 [] [9] rfl<|wO [9] ho0 ?_ ?_
   · intro hc N;exact yM [] [4] rfl<|yW<|zU (ct N H)
   intro hc N;exact wU [] [(4,vF)]<|yW<|zU (ct N H)
 intro t4 I0 le hMc;refine zK<|xD ?_;obtain rfl:=zC hMc;exact uE
def vQ (a0:zA) (i:Int):Option (Out Unit (Bool)):=do
 if (decide (i<(a0.Coefs.length:Int))) then
  let x<-idx a0.Coefs i
  let y<-tA x 9
  if (!y) then
   pure (.ret false)
  else
   vQ a0 (W (i+1))
 else
  pure (.done ())
 partial_fixpoint
theorem zC1 (a0:zA):∀ (i:Int) (o:Out Unit (Bool)),vQ a0 i=some o->∀ {B}{I0 I:Imm}{Q p c}{b:Nat},I0.le I->(S4 I p a0.Coefs c)->NG Q->NO Q->(∀ (I':Imm) ,o=(.done ())->I0.le I'->T 27 B Q (.exit 0) I' [hB b (cAff a0 p c)] [(1,vP b 0)])->(∀ r I' hs' m',o=(.ret r)->I0.le I'->RS Tryz.prog Tryz.f159 B (zT  r) I' hs' m'->T 27 B Q .ret I' hs' m')->J Tryz.prog 27 B (nav (bodyOf Tryz.f159) [1,0,1,0]) Q I [hB b (cAff a0 p c)] [(1,vP b 0),(3,vI i)]:=by
 refine vQ.partial_correctness a0 _ fun self ih i o N B I0 I Q p c b H h hg ho hx hr=>yU hg ho<|yD<|yC<|yM [0] [8] rfl<|zK<|yG N ?_ ?_
 · intro hc N;refine zS<|zZ<|yF<|yC<|yE 3 [0] [12,13] rfl<|bE N fun x hy N=>xT rfl rfl h hy ?_;intro ad ccs hat hrep;obtain rfl:=hrep;refine xO 0 hat [vI x] (vI x) rfl<|bE N fun y hy1 N=>uZ (zA5 x 9 _ hy1 ) ?_;intro I0 le;have ⟨h,H⟩:=m2 le h H;refine yM [] [17] rfl<|zK<|yG N ?_ ?_
   · intro hc1 N;exact vM [(2,vF)]<|xI<|zV<|zL<|zL<|hr _ _ _ _ (zC N).symm H ⟨_,_,(.tmp rfl ResV.nil),zQ,⟨_,rfl,rfl,rfl⟩⟩
   intro hc1 N;exact zS<|zO<|zK<|zM<|yM [] [3] rfl<|yT<|nT<|ih (W (i+1)) _ N H h hg ho hx hr
 intro hc N;exact wW<|yW<|hx _  (zC N).symm H
def tO (a0:zA):Option (Bool):=do
 match<-vQ a0 0 with
 | .ret r0=>pure r0
 | .done _ =>
  let t2<-(do
    if ((a0.Coefs.length:Int)==4) then
     let y1<-tA a0.Const 99
     pure (id y1)
    else
     pure false
      : Option Bool)
  pure (id t2)
theorem gX:∀ a0 r,tO a0=some r->∀ {I:Imm}{p c},(S4 I p a0.Coefs c)->RT 159 [vA (cAff a0 p c)] I [] (zT  r):=by
 intro a0 r N I p c h;unfold tO at N;refine yJ Tryz.func159 fun B=>?_;have H:=iS I;refine yC<|vK (cAff a0 p c) ?_;intro b hb;refine wU [] []<|zZ<|yH [3] rfl<|wK<|pM [(1,vP b 0),(3,vI 0)] ?_;obtain ⟨o0,ho0,hMl⟩:=zB N;refine zC1 a0 0 o0 ho0 iR h (fun _ _ _ h=>h) (fun _ _ h=>h) ?_ ?_
 · intro I01  heq le1;subst o0;have H:=H.trans le1;refine zR<|zK<|yD ?_;refine uB hMl [] (fun t2=>[(2,.bool t2)]) (fun o01 ho01=>?_) ?_
   · have H:=iS I01;refine zM<|yE 5 [0] [22] rfl<|wO [22] ho01 ?_ ?_
     · intro hc2 N;refine yE 7 [0] [24] rfl<|bE N fun y1 hy2 N=>uZ (zA5 a0.Const 99 _ hy2 ) ?_;intro I03 le2;have H:=H.trans le2;exact yM [] [2] rfl<|wG zQ<|yW<|zU (ct N H)
     intro hc2 N;exact wU [] [(2,vF)]<|wG zQ<|yW<|zU (ct N H)
   intro t2 I02 le3 hMc;refine zK<|xD ?_;obtain rfl:=zC hMc;exact uE
 intro r0 I9 hs9 m9 heq9 le9 hrs9;subst heq9;refine zV<|zL ?_;obtain rfl:=zC hMl;exact xC hrs9
def rL (r:Str):KT:=fun kk I' hs' v=>
  ∃ v0,hs'=[]/\v=tupV [v0]/\v0=.string ⟨⟨r.l⟩⟩
def mF (n01:Int) (out:Str):Option ((Int×Str)):=do
 if (decide (n01>9)) then
  let s1<-cat (⟨([(u8 (W (48+(n01.tmod 10))))]:List UInt8)⟩:Str) out
  mF (W (n01.tdiv 10)) s1
 else
  pure (n01,out)
 partial_fixpoint
theorem zFR :∀ (n01:Int) (out:Str) (o:(Int×Str)),mF n01 out=some o->∀ {B}{I0 I:Imm}{Q}  ,I0.le I->NG Q->NO Q->(∀ (I':Imm) (n02:Int) (out1:Str),o=(n02,out1)->I0.le I'->T 31 B Q (.exit 0) I' [] [(0,vI n02),(3,vT out1.l)])->J Tryz.prog 31 B (nav (bodyOf Tryz.f169) [1,1,1,1,0,0]) Q I [] [(0,vI n01),(3,vT out.l)]:=by
 refine mF.partial_correctness  _ fun self ih n01 out o N B I0 I Q H hg ho hx=>yU hg ho<|yD<|yH [13] rfl<|zK<|yG N ?_ ?_
 · intro hc2 N;refine zS<|wK<|yC<|yE 3 [] [16] rfl<|zOe (d:=17) (i:=(W (48+(n01.tmod 10)))) rfl (by kernel_rfl)<|tK [.int .u8 ((u8 (W (48+(n01.tmod 10)))).toNat:Int)] UInt8 ?_;intro b hb;have h1:RL I [.int .u8 ((u8 (W (48+(n01.tmod 10)))).toNat:Int)] ([(u8 (W (48+(n01.tmod 10))))]:List UInt8):=⟨[.int .u8 ((u8 (W (48+(n01.tmod 10)))).toNat:Int)],_,rfl,rfl,rfl,rfl⟩;exact zLI (l:=([(u8 (W (48+(n01.tmod 10))))]:List UInt8)) rfl rfl rfl rfl (by kernel_rfl) (by kernel_rfl) (.inr ⟨0,rfl⟩) h1<|yE 7 [] [20] rfl<|bE N fun s1 hy2 N=>fA rfl hy2<|yM [] [3] rfl<|zK<|zM<|yM [] [0] rfl<|zO<|yT<|pL zQ<|nT<|ih (W (n01.tdiv 10)) s1 _ N H  hg ho hx
 intro hc2 N;exact wW<|yW<|hx _ _ _ (zC N).symm H
def pQ (n0:Int):Option (Str):=do
 if (decide (n0<(-9223372036854775807))) then
  pure (⟨[45,57,50,50,51,51,55,50,48,51,54,56,53,52,55,55,53,56,48,56]⟩:Str)
 else
  if (decide (n0<0)) then
   let y<-pQ (W (0 - n0))
   let s<-cat (⟨[45]⟩:Str) y
   pure (id s)
  else
   let (n02,out1)<-mF n0 (⟨[]⟩:Str)
   let s2<-cat (⟨([(u8 (W (48+n02)))]:List UInt8)⟩:Str) out1
   pure (id s2)
 partial_fixpoint
theorem zAR:∀ n0 r,pQ n0=some r->∀ {I:Imm} ,RT 169 [vI n0] I [] (rL  r):=by
 refine pQ.partial_correctness _ fun F_spec_l16Dec ih_spec_l16Dec n0 r N I=>yJ Tryz.func169 fun B=>vM []<|zZ<|yH [5] rfl<|zK<|yG N ?_ ?_
 · intro hc N;refine yH [2] rfl<|xI<|zL ?_;obtain rfl:=zC N;exact uE
 intro hc N;refine zS<|zZ<|yH [7] rfl<|zK<|yG N ?_ ?_
 · intro hc1 N;refine yC<|yE 2 [] [9] rfl<|bE N fun y hy N=>xH (ih_spec_l16Dec (W (0 - n0)) _ hy ) ?_;rintro I0 hs2 v2 k2 le - ⟨v0,rfl,rfl,rfl⟩ -;obtain ⟨s,hy1,N⟩:=zB N;refine fA rfl hy1<|yM [] [2] rfl<|xI<|zL ?_;obtain rfl:=zC N;exact uE
 intro hc1 N;refine zS<|uN [3] rfl<|zZ<|yF<|pM [(0,vI n0),(3,vT ([]))] ?_;obtain ⟨o0,ho0,hMl⟩:=zB N;refine zFR n0 (⟨[]⟩:Str) o0 ho0 iR  (fun _ _ _ h=>h) (fun _ _ h=>h) ?_;intro I01 n02 out1 heq le1;subst o0;refine zR<|yX<|yE 2 [] [25] rfl<|zOe (d:=26) (i:=(W (48+n02))) rfl (by kernel_rfl)<|tK [.int .u8 ((u8 (W (48+n02))).toNat:Int)] UInt8 ?_;intro b1 hb1;have h2:RL I01 [.int .u8 ((u8 (W (48+n02))).toNat:Int)] ([(u8 (W (48+n02)))]:List UInt8):=⟨[.int .u8 ((u8 (W (48+n02))).toNat:Int)],_,rfl,rfl,rfl,rfl⟩;refine zLI (l:=([(u8 (W (48+n02)))]:List UInt8)) rfl rfl rfl rfl (by kernel_rfl) (by kernel_rfl) (.inr ⟨0,rfl⟩) h2<|yE 6 [] [29] rfl ?_;obtain ⟨s2,hy3,N⟩:=zB hMl;refine fA rfl hy3<|yM [] [2] rfl<|zK<|xD ?_;obtain rfl:=zC N;exact uE
def eH (n0:Int) (name:Str):Option (Str):=do
 let (n01,sign)<-(do
   if (decide (n0<0)) then
    pure ((W (0 - n0)),(⟨[45]⟩:Str))
   else
    pure (n0,(⟨[43]⟩:Str))
     : Option (Int×Str))
 if (name.l==([]:List UInt8)) then
  let y<-pQ n01
  let s<-cat sign y
  pure (id s)
 else
  if (n01==1) then
   let s1<-cat sign name
   pure (id s1)
  else
   let y1<-pQ n01
   let s2<-cat sign y1
   let s3<-cat s2 (⟨[42]⟩:Str)
   let s4<-cat s3 name
   pure (id s4)
theorem zDR:∀ n0 name r,eH n0 name=some r->∀ {I:Imm} ,RT 204 [vI n0,vT name.l] I [] (rL  r):=by
 intro n0 name r N I;unfold eH at N;refine yJ Tryz.func204 fun B=>?_;have H:=iS I;refine vM []<|uN [5] rfl<|zZ<|yH [7] rfl<|zK ?_;obtain ⟨o0,ho0,hMc⟩:=zB N;refine nN (fun I' hs' m'=>∃ (n01:Int) (sign:Str),o0=(n01,sign)/\I.le I'/\hs'=[]/\m'=[(0,vI n01),(1,vT name.l),(5,vT sign.l)]) ?_ ?_
 · have H:=iS I;refine yG ho0 ?_ ?_
   · intro hc N;exact yH [5] rfl<|zK<|zM<|yM [] [0] rfl<|yW<|zU ⟨_,_,(zC N).symm,H,rfl,rfl⟩
   intro hc N;exact zS<|yW<|zU ⟨_,_,(zC N).symm,H,rfl,rfl⟩
 rintro I0 hs2 m2 ⟨n01,sign,heq,le,rfl,rfl⟩;subst o0;refine zZ<|yH [11] rfl<|zK<|yG hMc ?_ ?_
 · intro hc1 N;refine yC<|yE 2 [] [12,13] rfl<|bE N fun y hy N=>xH (zAR n01 _ hy ) ?_;rintro I01 hs2 v2 k2 le1 - ⟨v0,rfl,rfl,rfl⟩ -;obtain ⟨s,hy1,N⟩:=zB N;refine fA rfl hy1<|yM [] [4] rfl<|xI<|zL ?_;obtain rfl:=zC N;exact uE
 intro hc1 N;refine zS<|zZ<|yH [17] rfl<|zK<|yG N ?_ ?_
 · intro hc2 N;refine yC<|yE 2 [] [18,19] rfl<|bE N fun s1 hy2 N=>fA rfl hy2<|yM [] [4] rfl<|xI<|zL ?_;obtain rfl:=zC N;exact uE
 intro hc2 N;refine zS<|yX<|yE 2 [] [21,22] rfl<|bE N fun y1 hy3 N=>xH (zAR n01 _ hy3 ) ?_;rintro I02 hs2 v2 k2 le2 - ⟨v01,rfl,rfl,rfl⟩ -;obtain ⟨s2,hy4,N⟩:=zB N;refine fA rfl hy4<|bE N fun s3 hy5 N=>fA rfl hy5<|yE 6 [] [26] rfl<|bE N fun s4 hy6 N=>fA rfl hy6<|yM [] [4] rfl<|zK<|xD ?_;obtain rfl:=zC N;exact uE
def mG (a0:zA) (out:Str) (i:Int):Option (Str):=do
 if (decide (i<(a0.Coefs.length:Int))) then
  let x<-idx a0.Coefs i
  let out2<-(do
    if (x != 0) then
     let x1<-idx a0.Coefs i
     let s<-sslc (⟨[105,106,107,108]⟩:Str) i (W (i+1))
     let y<-eH x1 s
     let s1<-cat out y
     pure (id s1)
    else
     pure (id out)
      : Option Str)
  mG a0 out2 (W (i+1))
 else
  pure (id out)
 partial_fixpoint
theorem zFS (a0:zA):∀ (out:Str) (i:Int) (o:Str),mG a0 out i=some o->∀ {B}{I0 I:Imm}{Q p c}{b:Nat},I0.le I->(S4 I p a0.Coefs c)->NG Q->NO Q->(∀ (I':Imm) (out1:Str),o=out1->I0.le I'->T 46 B Q (.exit 0) I' [hB b (cAff a0 p c)] [(1,vP b 0),(3,vT out1.l)])->J Tryz.prog 46 B (nav (bodyOf Tryz.f193) [1,1,0,1,0]) Q I [hB b (cAff a0 p c)] [(1,vP b 0),(3,vT out.l),(4,vI i)]:=by
 refine mG.partial_correctness a0 _ fun self ih out i o N B I0 I Q p c b H h hg ho hx=>yU hg ho<|yD<|yC<|yM [0] [9] rfl<|zK<|yG N ?_ ?_
 · intro hc N;refine zS<|zZ<|yF<|yC<|yE 3 [0] [13,14] rfl<|bE N fun x hy N=>xT rfl rfl h hy ?_;intro ad ccs hat hrep;obtain rfl:=hrep;refine xO 0 hat [vI x] (vI x) rfl<|yM [] [17] rfl<|zK ?_;refine uB N [hB b (cAff a0 p c)] (fun out2=>[(1,vP b 0),(3,vT out2.l),(4,vI i)]) (fun o0 ho0=>?_) ?_
   · have H:=iS I;refine yG ho0 ?_ ?_
     · intro hc1 N;obtain ⟨x1,hy1,N⟩:=zB N;obtain ⟨s,hy2,N⟩:=zB N;obtain ⟨y,hy3,N⟩:=zB N;obtain ⟨s1,hy4,N⟩:=zB N;refine wP [.p (vT out.l) [],.p (vP b 0) [],.p (vS p a0.Coefs c) [0],.p (vI i) [],.x (fun I' v hx=>∃ ad1,v=.pointer (some ad1)/\hx=[]/\(At I' ad1 [vI x1])),.q (vI x1),.p (vI i) [],.p (vI i) [],.p (vI (W (i+1))) [],.q (vT s.l),.q (vT y.l),.q (vT s1.l)] [[],[],[(1,false)],[],[(2,false),(3,false)],[(4,false)],[],[],[(7,false)],[(6,false),(8,false)],[(5,false),(9,false)],[(0,false),(10,false)]] [hB b (cAff a0 p c)] [] [(11,false)] (zY [0]) ?_ ?_
       · refine Op<|Op<|Op<|Op<|Ox ?_<|Oq ?_<|Op<|Op<|Op<|Oq ?_<|Oq ?_<|Oq ?_<|On
         · intro I1 hf le1;refine yV [20,21] rfl ?_;have h:=h.mono le1;refine xT rfl rfl h hy1 ?_;intro ad1 ccs1 hat1 hrep1;obtain rfl:=hrep1;exact yL [] iR ⟨_,rfl,rfl,hat1⟩
         · rintro I1 hf le1 _ _ ⟨ad1,rfl,rfl,hat1⟩;exact yV [22] rfl<|xO 0 hat1 [vI x1] (vI x1) rfl<|xB iR
         · intro I1 hf le1;exact yV [24,26] rfl<|zIM rfl hy2<|xB iR
         · intro I1 hf le1;refine yV [23,27] rfl ?_;have H:=iS I1;refine xH (zDR x1 s _ hy3 ) ?_;rintro I01 hs2 v2 k2 le - ⟨v0,rfl,rfl,rfl⟩ -;have H:=H.trans le;exact xB H
         intro I1 hf le1;exact yV [18,28] rfl<|fA rfl hy4<|xB iR
       intro I02 le1;refine yV [1,4,29] rfl ?_;have H:=H.trans le1;exact yM [] [3] rfl<|yW<|zU (ct N H)
     intro hc1 N;exact zS<|yW<|zU (ct N H)
   intro out2 I0 le2 hMc;have ⟨h,H⟩:=m2 le2 h H;exact zO<|zK<|zM<|yM [] [4] rfl<|yT<|nT<|ih out2 (W (i+1)) _ hMc H h hg ho hx
 intro hc N;exact wW<|yW<|hx _ _ (zC N).symm H
def gL (a0:zA):Option (Str):=do
 let out1<-mG a0 (⟨[]⟩:Str) 0
 let out3<-(do
   if (a0.Const != 0) then
    let y1<-eH a0.Const (⟨[]⟩:Str)
    let s2<-cat out1 y1
    pure (id s2)
   else
    pure (id out1)
     : Option Str)
 if (out3.l==([]:List UInt8)) then
  pure (⟨[48]⟩:Str)
 else
  let s3<-sslc out3 0 1
  if (s3.l==([43]:List UInt8)) then
   let s4<-sslc out3 1 (out3.l.length:Int)
   pure (id s4)
  else
   pure (id out3)
theorem zBH:∀ a0 r,gL a0=some r->∀ {I:Imm}{p c},(S4 I p a0.Coefs c)->RT 193 [vA (cAff a0 p c)] I [] (rL  r):=by
 intro a0 r N I p c h;unfold gL at N;refine yJ Tryz.func193 fun B=>?_;have H:=iS I;refine yC<|vK (cAff a0 p c) ?_;intro b hb;refine wU [] []<|uN [3] rfl<|zZ<|yH [4] rfl<|wK<|pM [(1,vP b 0),(3,vT ([])),(4,vI 0)] ?_;obtain ⟨o01,ho01,hMl⟩:=zB N;refine zFS a0 (⟨[]⟩:Str) 0 o01 ho01 iR h (fun _ _ _ h=>h) (fun _ _ h=>h) ?_;intro I03 out1 heq1 le3;subst o01;have H:=H.trans le3;refine zR<|zZ<|yC<|yM [0] [32] rfl<|zK ?_;refine uB hMl [] (fun out3=>[(3,vT out3.l)]) (fun o02 ho02=>?_) ?_
 · have H:=iS I03;refine yG ho02 ?_ ?_
   · intro hc2 N;refine zM<|yE 3 [0] [33,35] rfl<|bE N fun y1 hy5 N=>xH (zDR a0.Const (⟨[]⟩:Str) _ hy5 ) ?_;rintro I05 hs2 v2 k2 le4 - ⟨v01,rfl,rfl,rfl⟩ -;have H:=H.trans le4;obtain ⟨s2,hy6,N⟩:=zB N;exact fA rfl hy6<|yM [] [3] rfl<|wG zQ<|yW<|zU (ct N H)
   intro hc2 N;exact zS<|wG zQ<|yW<|zU (ct N H)
 intro out3 I04 le5 hMc1;refine zZ<|yH [39] rfl<|zK<|yG hMc1 ?_ ?_
 · intro hc3 N;refine yH [2] rfl<|xI<|zL ?_;obtain rfl:=zC N;exact uE
 intro hc3 N;refine zS<|zZ<|yC<|yE 1 [] [40] rfl<|bE N fun s3 hy7 N=>zIM rfl hy7<|yM [] [42] rfl<|zK<|yG N ?_ ?_
 · intro hc4 N;refine yC<|yE 1 [] [43] rfl<|bE N fun s4 hy8 N=>zIM rfl hy8<|yM [] [2] rfl<|xI<|zL ?_;obtain rfl:=zC N;exact uE
 intro hc4 N;refine zS<|uN [2] rfl<|zK<|xD ?_;obtain rfl:=zC N;exact uE
def kT (a0:zA):Option (Str):=do
 let y<-tO a0
 if (!y) then
  pure (⟨[]⟩:Str)
 else
  let y1<-gL a0
  pure (id y1)
theorem zDS:∀ a0 r,kT a0=some r->∀ {I:Imm}{p c},(S4 I p a0.Coefs c)->RT 213 [vA (cAff a0 p c)] I [] (rL  r):=by
 intro a0 r N I p c h;unfold kT at N;refine yJ Tryz.func213 fun B=>yC<|vK (cAff a0 p c) ?_;intro b hb;refine wU [] []<|zZ<|yC<|tZ 1 [0] [(3,vA (cAff a0 p c))]<|bE N fun y hy N=>uZ (gX a0 _ hy h) ?_;intro I0 le;have h:=h.mono le;refine yM [] [5] rfl<|zK<|yG N ?_ ?_
 · intro hc N;refine yH [2] rfl<|xI<|zL ?_;obtain rfl:=zC N;exact uE
 intro hc N;refine zS<|yX<|tZ 1 [0] [(6,vA (cAff a0 p c))]<|bE N fun y1 hy1 N=>xH (zBH a0 _ hy1 h) ?_;rintro I01 hs2 v2 k2 le1 - ⟨v01,rfl,rfl,rfl⟩ -;refine yM [] [2] rfl<|zK<|xD ?_;obtain rfl:=zC N;exact uE
def zCt (r:zA×Bool):KT:=fun kk I' hs' v=>
  ∃ v0 v1,hs'=[]/\v=tupV [v0,v1]/\(∃ cs,v0=.agg ⟨cs⟩/\Rp.rep I' cs r.1)/\v1=.bool r.2
def pO (text:Str) (at0:Int) (x:zA):Option (zA):=do
 let t18<-(do
   if (decide (at0>=0)) then
    pure (decide (at0<(text.l.length:Int)))
   else
    pure false
     : Option Bool)
 if t18 then
  let (y2,y3)<-eY x text at0
  pO text y3 y2
 else
  pure (id x)
 partial_fixpoint
theorem zC2 (text:Str):∀ (at0:Int) (x:zA) (o:zA),pO text at0 x=some o->∀ {B}{I0 I:Imm}{Q}  {b:Nat}{b1:Nat}{p1 c1},I0.le I->(S4 I p1 x.Coefs c1)->NG Q->NO Q->(∀ (I':Imm) (x1:zA) (p2:Option Addr) (c2:Nat),o=x1->I0.le I'->(S4 I' p2 x1.Coefs c2)->T 32 B Q (.exit 0) I' [hB b1 (cAff x1 p2 c2),hB b [z0,vI 0]] [(0,vT text.l),(2,vP b 0),(4,vP b1 0)])->J Tryz.prog 32 B (nav (bodyOf Tryz.f200) [1,1,1,1,0,0]) Q I [hB b1 (cAff x p1 c1),hB b [z0,vI 0]] [(0,vT text.l),(2,vP b 0),(4,vP b1 0),(5,vI at0)]:=by
 refine pO.partial_correctness text _ fun self ih at0 x o N B I0 I Q b b1 p1 c1 H h2 hg ho hx=>yU hg ho<|yD<|yD ?_;refine uB N [hB b1 (cAff x p1 c1),hB b [z0,vI 0]] (fun t18=>[(0,vT text.l),(2,vP b 0),(4,vP b1 0),(5,vI at0),(18,.bool t18)]) (fun o0 ho0=>?_) ?_
 · have H:=iS I;refine zM<|yE 3 [] [13] rfl<|wO [13] ho0 ?_ ?_
   · intro hc1 N;exact yM [] [18] rfl<|yW<|zU (ct N H)
   intro hc1 N;exact wU [] [(18,vF)]<|yW<|zU (ct N H)
 intro t18 I02 le2 hMc;have ⟨h2,H⟩:=m2 le2 h2 H;refine zK<|yG hMc ?_ ?_
 · intro hc2 N;refine zS<|wK<|zM<|tZ 3 [0] [(20,vA (cAff x p1 c1)),(21,vT text.l),(22,vI at0)] ?_;obtain ⟨⟨y2,y3⟩,hy1,N⟩:=zB N;refine xH (zGe x text at0 _ hy1 h2) ?_;rintro I03 hs2 v2 k2 le3 - ⟨v0,v01,rfl,rfl,⟨cs1,rfl,h4⟩,rfl⟩ -;have H:=H.trans le3;obtain ⟨p3,c3,rfl,h6⟩:=yB h4;exact yE 7 [] [24,25] rfl<|yZ 0 (cAff y2 p3 c3) rfl<|yM [] [5] rfl<|zO<|yT<|nT<|ih y3 y2 _ N H h6 hg ho hx
 intro hc2 N;exact wW<|yW<|hx _ _ _ _ (zC N).symm H h2
def mH (text:Str):Option (zA×Bool):=do
 let y<-mV
 if (decide ((text.l.length:Int)>40)) then
  pure ((zA.mk ([]:List Int) 0),false)
 else
  let x1<-pO text 0 (zA.mk y.Coefs y.Const)
  let y4<-kT x1
  if (!(y4.l==text.l)) then
   pure ((zA.mk ([]:List Int) 0),false)
  else
   pure (x1,true)
theorem zAt:∀ text r,mH text=some r->∀ {I:Imm} ,RT 200 [vT text.l] I [] (zCt  r):=by
 intro text r N I;unfold mH at N;refine yJ Tryz.func200 fun B=>yC<|xU [z0,vI 0] ?_;intro b hb;refine wU [] []<|yX<|bE N fun y hy N=>xH (fD  _ hy ) ?_;rintro I0 hs2 v2 k2 le - ⟨p,c,cs,rfl,rfl,h⟩ -;refine xU [z0,vI 0] ?_;intro b1 hb1;refine yZ 0 (cAff y p c) rfl<|zX rfl<|zZ<|yH [9] rfl<|zK<|yG N ?_ ?_
 · intro hc N;refine yC<|yE 1 [] [10] rfl<|yZ 2 [z0,vI 0] rfl<|wU [] [(3,vF)]<|xI<|zL ?_;obtain rfl:=zC N;exact xC ⟨_,_,(.cell 2 rfl rfl (by kernel_rfl) (.tmp rfl ResV.nil)),zQ,⟨_,_,rfl,rfl,⟨_,rfl,(yI ⟨_,rfl,(SL.nil _)⟩)⟩,rfl⟩⟩
 intro hc N;refine zS<|uN [5] rfl<|zZ<|yF<|qX 1 rfl ?_;intro I01 le1 hl0;have h1:=SL.of_frozen hl0 le1 h;refine pM [(0,vT text.l),(2,vP b 0),(4,vP b1 0),(5,vI 0)] ?_;obtain ⟨o01,ho01,hMl⟩:=zB N;refine zC2 text 0 (zA.mk y.Coefs y.Const) o01 ho01 iR h1 (fun _ _ _ h=>h) (fun _ _ h=>h) ?_;intro I04 x1 p2 c2 heq1 le4 h3;subst o01;refine zR<|zZ<|yC<|tZ 1 [0] [(26,vA (cAff x1 p2 c2))] ?_;obtain ⟨y4,hy2,N⟩:=zB hMl;refine xH (zDS x1 _ hy2 h3) ?_;rintro I05 hs2 v2 k2 le5 - ⟨v03,rfl,rfl,rfl⟩ -;have h3:=h3.mono le5;refine yM [] [29] rfl<|zK<|yG N ?_ ?_
 · intro hc3 N;refine yC<|yE 1 [] [30] rfl<|yZ 1 [z0,vI 0] rfl<|wU [] [(3,vF)]<|xI<|zL ?_;obtain rfl:=zC N;exact xC ⟨_,_,(.cell 1 rfl rfl (by kernel_rfl) (.tmp rfl ResV.nil)),zQ,⟨_,_,rfl,rfl,⟨_,rfl,(yI ⟨_,rfl,(SL.nil _)⟩)⟩,rfl⟩⟩
 intro hc3 N;refine zS<|yX<|tZ 1 [0] [(31,vA (cAff x1 p2 c2))]<|yZ 1 (cAff x1 p2 c2) rfl<|wU [] [(3,vY)]<|zK<|xD ?_;obtain rfl:=zC N;exact xC ⟨_,_,(.cell 1 rfl rfl (by kernel_rfl) (.tmp rfl ResV.nil)),zQ,⟨_,_,rfl,rfl,⟨_,rfl,(yI ⟨_,rfl,h3⟩)⟩,rfl⟩⟩
def eJ (r:(List zA)):KT:=fun kk I' hs' v=>
  ∃ v0,hs'=[]/\v=tupV [v0]/\SL I' v0 r
def rU (y:(List Str)) (out:List zA) (i:Int):Option (List zA):=do
 let t18<-(do
   if (decide (i<(y.length:Int))) then
    pure (decide (i<=2))
   else
    pure false
     : Option Bool)
 if t18 then
  let x<-idx y i
  let (y2,y3)<-mH x
  let out2<-app 32 out ([y2]:List zA)
  rU y out2 (W (i+1))
 else
  pure (id out)
 partial_fixpoint
theorem zC3 (y:(List Str)):∀ (out:List zA) (i:Int) (o:List zA),rU y out i=some o->∀ {B}{I0 I:Imm}{Q p c p1 c1 cs},I0.le I->(S4 I p y c)->(RL I cs out)->NG Q->NO Q->(∀ (I':Imm) (out1:List zA) (p2:Option Addr) (c2:Nat) (cs1:List Value),o=out1->I0.le I'->(RL I' cs1 out1)->T 34 B Q (.exit 0) I' [hO zA (vS p2 out1 c2) cs1] [(3,vS p2 out1 c2)])->J Tryz.prog 34 B (nav (bodyOf Tryz.f188) [1,1,1,0,1,0]) Q I [hO zA (vS p1 out c1) cs] [(3,vS p1 out c1),(4,vS p y c),(5,vI i)]:=by
 refine rU.partial_correctness y _ fun self ih out i o N B I0 I Q p c p1 c1 cs H h1 h2 hg ho hx=>yU hg ho<|yD<|yD ?_;refine uB N [hO zA (vS p1 out c1) cs] (fun t18=>[(3,vS p1 out c1),(4,vS p y c),(5,vI i),(18,.bool t18)]) (fun o0 ho0=>?_) ?_
 · have H:=iS I;refine zM<|yE 5 [] [15] rfl<|wO [15] ho0 ?_ ?_
   · intro hc N;exact yM [] [18] rfl<|yW<|zU (ct N H)
   intro hc N;exact wU [] [(18,vF)]<|yW<|zU (ct N H)
 intro t18 I01 le1 hMc;have ⟨h2,h1,H⟩:=m3 le1 h2 h1 H;refine zK<|yG hMc ?_ ?_
 · intro hc1 N;refine zS<|zZ<|yF<|yC<|yE 2 [] [22,23] rfl<|bE N fun x hy1 N=>xT rfl rfl h1 hy1 ?_;intro ad ccs hat hrep;obtain rfl:=hrep;refine xO 0 hat [vT x.l] (vT x.l) rfl ?_;obtain ⟨⟨y2,y3⟩,hy2,N⟩:=zB N;refine xH (zAt x _ hy2 ) ?_;rintro I02 hs2 v2 k2 le2 - ⟨v01,v02,rfl,rfl,⟨cs2,rfl,h4⟩,rfl⟩ -;have ⟨h2,h1,H⟩:=m3 le2 h2 h1 H;obtain ⟨p3,c3,rfl,h6⟩:=yB h4;refine yE 8 [] [27,28] rfl<|xU [z0,vI 0] ?_;intro b1 hb1;refine yZ 0 (cAff y2 p3 c3) rfl<|wU [] []<|zK<|zM<|tZ 2 [0] [(29,vS p1 out c1),(30,vA (cAff y2 p3 c3))]<|tK (cAff y2 p3 c3) zA ?_;intro b2 hb2;have h7:RL I02 (cAff y2 p3 c3) ([y2]:List zA):=⟨(cAff y2 p3 c3),_,rfl,rfl,(yI ⟨_,rfl,h6⟩),rfl⟩;obtain ⟨out2,hy3,N⟩:=zB N;exact qD 69 2 2 rfl rfl rfl h2 (.inr ⟨0,rfl⟩) h7 hy3 fun p4 c4 cs3 h8=>sW (zY [1,2] (hs':=[hB b1 (cAff y2 p3 c3),hO zA (vS p4 out2 c4) cs3]))<|yM [] [3] rfl<|zO<|zK<|zM<|yM [] [5] rfl<|yT<|pL (zW [1] rfl (by decide))<|nT<|ih out2 (W (i+1)) _ N H h1 h8 hg ho hx
 intro hc1 N;exact wW<|yW<|hx _ _ _ _ _ (zC N).symm H h2
def oA (text:Str):Option ((List zA)):=do
 let y<-gK text (44:UInt8)
 let out1<-rU y ([]:List zA) 0
 pure (id out1)
theorem dW:∀ text r,oA text=some r->∀ {I:Imm} ,RT 188 [vT text.l] I [] (eJ  r):=by
 intro text r N I;unfold oA at N;refine yJ Tryz.func188 fun B=>vM []<|yX<|tK [] zA ?_;intro b hb;have h:RL I [] ([]:List zA):=rfl;refine yM [] [3] rfl<|yX<|yE 1 [] [9] rfl<|bE N fun y hy N=>xH (zBG text (44:UInt8) _ hy ) ?_;rintro I0 hs2 v2 k2 le - ⟨v0,rfl,rfl,h1⟩ -;have h:=iM le h;obtain ⟨p,c,rfl⟩:=h1.form;refine yM [] [4] rfl<|zZ<|yH [5] rfl<|wK<|pM [(3,vS (some ⟨b,0,none⟩) ([]:List zA) 0),(4,vS p y c),(5,vI 0)] ?_;obtain ⟨o01,ho01,hMl⟩:=zB N;refine zC3 y ([]:List zA) 0 o01 ho01 iR h1 h (fun _ _ _ h=>h) (fun _ _ h=>h) ?_;intro I03 out1 p2 c2 cs1 heq1 le3 h3;subst o01;refine zR<|uN [2] rfl<|xI<|xE 0 rfl ?_;intro I04 le4 hl0;have h9:=SL.of_frozen hl0 le4 h3;obtain rfl:=zC hMl;exact xC ⟨_,_,(.tmp rfl ResV.nil),zQ,⟨_,rfl,rfl,h9⟩⟩
def zCD (r:zE):KT:=fun kk I' hs' v=>
  ∃ v0,hs'=[]/\v=tupV [v0]/\(∃ cs,v0=.agg ⟨cs⟩/\Rp.rep I' cs r)
def dZ (line:Str):Option (zE):=do
 let y<-jQ line
 if ((y.length:Int) != 3) then
  pure (zE.mk ([]:List zA) ([]:List zA))
 else
  let x<-idx y 1
  let y1<-oA x
  let x1<-idx y 2
  let y2<-oA x1
  pure (zE.mk y1 y2)
theorem zH6:∀ line r,dZ line=some r->∀ {I:Imm} ,RT 167 [vT line.l] I [] (zCD  r):=by
 intro line r N I;unfold dZ at N;refine yJ Tryz.func167 fun B=>?_;have H:=iS I;refine yC<|xU zTwo ?_;intro b hb;refine zX rfl<|yX<|yE 1 [] [4] rfl<|bE N fun y hy N=>xH (zCB line _ hy ) ?_;rintro I0 hs2 v2 k2 le - ⟨v0,rfl,rfl,h⟩ -;have H:=H.trans le;obtain ⟨p,c,rfl⟩:=h.form;refine yM [] [3] rfl<|zZ<|yH [8] rfl<|zK<|yG N ?_ ?_
 · intro hc N;refine yC<|yE 1 [] [9] rfl<|eQ 0 zTwo [hB b zTwo] rfl rfl rfl rfl<|zX rfl<|xI<|zL ?_;obtain rfl:=zC N;exact xC ⟨_,_,(.cell 0 rfl rfl (by kernel_rfl) ResV.nil),zQ,⟨_,rfl,rfl,⟨_,rfl,(uP ⟨_,_,rfl,(SL.nil _),(SL.nil _)⟩)⟩⟩⟩
 intro hc N;refine zS<|zK<|yD ?_;obtain ⟨x,hy1,N⟩:=zB N;obtain ⟨y1,hy2,N⟩:=zB N;obtain ⟨x1,hy3,N⟩:=zB N;obtain ⟨y2,hy4,N⟩:=zB N;refine wP [.p (vS p y c) [],.x (fun I' v hx=>∃ ad,v=.pointer (some ad)/\hx=[]/\(At I' ad [vT x.l])),.q (vT x.l),.x (eS y1),.p (vS p y c) [],.x (fun I' v hx=>∃ ad1,v=.pointer (some ad1)/\hx=[]/\(At I' ad1 [vT x1.l])),.q (vT x1.l),.x (eS y2),.x (fun I' v hx=>∃ p11 c11 p21 c21,v=vA [vS p11 y1 c11,vS p21 y2 c21]/\hx=[]/\(S4 I' p11 y1 c11)/\(S4 I' p21 y2 c21))] [[],[(0,false)],[(1,false)],[(2,false)],[],[(4,false)],[(5,false)],[(6,false)],[(3,false),(7,false)]] [hB b zTwo] [] [(8,false)] (zY [0]) ?_ ?_
 · refine Op<|Ox ?_<|Oq ?_<|Ox ?_<|Op<|Ox ?_<|Oq ?_<|Ox ?_<|Ox ?_<|On
   · intro I1 hf le1;refine yV [10] rfl ?_;have h:=h.mono le1;refine xT rfl rfl h hy1 ?_;intro ad ccs hat hrep;obtain rfl:=hrep;exact yL [] iR ⟨_,rfl,rfl,hat⟩
   · rintro I1 hf le1 _ _ ⟨ad,rfl,rfl,hat⟩;exact yV [11] rfl<|xO 0 hat [vT x.l] (vT x.l) rfl<|xB iR
   · intro I1 hf le1;refine yV [12] rfl ?_;have H:=iS I1;refine xH (dW x _ hy2 ) ?_;rintro I01 hs2 v2 k2 le1 - ⟨v01,rfl,rfl,h1⟩ -;have H:=H.trans le1;obtain ⟨p1,c1,rfl⟩:=h1.form;exact yL [] H ⟨_,_,rfl,rfl,h1⟩
   · intro I1 hf le1;refine yV [14] rfl ?_;have h:=h.mono le1;refine xT rfl rfl h hy3 ?_;intro ad1 ccs1 hat1 hrep1;obtain rfl:=hrep1;exact yL [] iR ⟨_,rfl,rfl,hat1⟩
   · rintro I1 hf le1 _ _ ⟨ad1,rfl,rfl,hat1⟩;exact yV [15] rfl<|xO 0 hat1 [vT x1.l] (vT x1.l) rfl<|xB iR
   · intro I1 hf le1;refine yV [16] rfl ?_;have H:=iS I1;refine xH (dW x1 _ hy4 ) ?_;rintro I02 hs2 v2 k2 le2 - ⟨v02,rfl,rfl,h2⟩ -;have H:=H.trans le2;obtain ⟨p2,c2,rfl⟩:=h2.form;exact yL [] H ⟨_,_,rfl,rfl,h2⟩
   rintro I1 hf le1 _ _ ⟨p1,c1,rfl,rfl,h1⟩ _ _ ⟨p2,c2,rfl,rfl,h2⟩;exact yV [13,17] rfl<|qA 9 [(18,vA [vS p1 y1 c1,vS p2 y2 c2])]<|yL [] iR ⟨_,_,_,_,rfl,rfl,h1,h2⟩
 rintro I03 le3 _ _ ⟨p11,c11,p21,c21,rfl,rfl,h11,h21⟩;refine yV [2,18] rfl ?_;refine yZ 0 [vS p11 y1 c11,vS p21 y2 c21] rfl<|zX rfl<|zK<|xD ?_;obtain rfl:=zC N;exact xC ⟨_,_,(.cell 0 rfl rfl (by kernel_rfl) ResV.nil),zQ,⟨_,rfl,rfl,⟨_,rfl,(uP ⟨_,_,rfl,h11,h21⟩)⟩⟩⟩
def oQ (s:Str) (end0:UInt8) (i:Int):Option (Out Unit (Int)):=do
 if (decide (i<(s.l.length:Int))) then
  let b<-sidx s i
  if ((b.toNat:Int)==(end0.toNat:Int)) then
   pure (.ret i)
  else
   oQ s end0 (W (i+1))
 else
  pure (.done ())
 partial_fixpoint
theorem zE1 (s:Str) (end0:UInt8):∀ (i:Int) (o:Out Unit (Int)),oQ s end0 i=some o->∀ {B}{I0 I:Imm}{Q}  ,I0.le I->NG Q->NO Q->(∀ (I':Imm) ,o=(.done ())->I0.le I'->T 21 B Q (.exit 0) I' [] [])->(∀ r I' hs' m',o=(.ret r)->I0.le I'->RS Tryz.prog Tryz.f201 B (xQ  r) I' hs' m'->T 21 B Q .ret I' hs' m')->J Tryz.prog 21 B (nav (bodyOf Tryz.f201) [1,0,1,0]) Q I [] [(0,vT s.l),(2,.int .u8 (end0.toNat:Int)),(7,vI i)]:=by
 refine oQ.partial_correctness s end0 _ fun self ih i o N B I0 I Q H hg ho hx hr=>yU hg ho<|yD<|yH [12] rfl<|zK<|yG N ?_ ?_
 · intro hc N;refine zS<|zZ<|yF<|yC<|yE 2 [] [15,16] rfl<|bE N fun b hy N=>zBS rfl rfl hy<|yM [] [19] rfl<|zK<|yG N ?_ ?_
   · intro hc1 N;exact yH [6] rfl<|xI<|zV<|zL<|zL<|hr _ _ _ _ (zC N).symm H ⟨_,_,(.tmp rfl ResV.nil),zQ,⟨_,rfl,rfl,rfl⟩⟩
   intro hc1 N;exact zS<|zO<|zK<|zM<|yM [] [7] rfl<|yT<|nT<|ih (W (i+1)) _ N H  hg ho hx hr
 intro hc N;exact wW<|yW<|hx _  (zC N).symm H
def fF (s:Str) (at0:Int) (end0:UInt8):Option (Int):=do
 match<-oQ s end0 at0 with
 | .ret r0=>pure r0
 | .done _ =>
  pure (-1)
theorem zCq:∀ s at0 end0 r,fF s at0 end0=some r->∀ {I:Imm} ,RT 201 [vT s.l,vI at0,.int .u8 (end0.toNat:Int)] I [] (xQ  r):=by
 intro s at0 end0 r N I;unfold fF at N;refine yJ Tryz.func201 fun B=>vM []<|zZ<|yH [7] rfl<|wK<|pM [(0,vT s.l),(2,.int .u8 (end0.toNat:Int)),(7,vI at0)] ?_;obtain ⟨o0,ho0,hMl⟩:=zB N;refine zE1 s end0 at0 o0 ho0 iR  (fun _ _ _ h=>h) (fun _ _ h=>h) ?_ ?_
 · intro I0  heq le;subst o0;refine zR<|uN [6] rfl<|zK<|xD ?_;obtain rfl:=zC hMl;exact uE
 intro r0 I9 hs9 m9 heq9 le9 hrs9;subst heq9;refine zV<|zL ?_;obtain rfl:=zC hMl;exact xC hrs9
def zCE (r:zG×Int):KT:=fun kk I' hs' v=>
  ∃ v0 v1,hs'=[]/\v=tupV [v0,v1]/\(∃ cs,v0=.agg ⟨cs⟩/\Rp.rep I' cs r.1)/\v1=.int .i64 r.2
def oG (s:Str) (at0:Int):Option (zG×Int):=do
 let y<-fF s at0 (93:UInt8)
 let t20<-(do
   if (decide (y<(W (at0+2)))) then
    pure true
   else
    let b1<-sidx s (W (at0+1))
    pure ((b1.toNat:Int) != 91)
     : Option Bool)
 if t20 then
  pure ((zG.mk (⟨[]⟩:Str) ([]:List zA)),(-1))
 else
  let s1<-sslc s at0 (W (at0+1))
  let s2<-sslc s (W (at0+2)) y
  let y1<-oA s2
  pure ((zG.mk s1 y1),(W (y+1)))
theorem zAZ:∀ s at0 r,oG s at0=some r->∀ {I:Imm} ,RT 189 [vT s.l,vI at0] I [] (zCE  r):=by
 intro s at0 r N I;unfold oG at N;refine yJ Tryz.func189 fun B=>?_;have H:=iS I;refine yC<|xU [vT ([]),z0] ?_;intro b hb;refine wU [] []<|yX<|yE 2 [] [7,8] rfl<|bE N fun y hy N=>fB (zCq s at0 (93:UInt8) _ hy ) ?_;intro I0 le;have H:=H.trans le;refine yM [] [6] rfl<|zZ<|yD ?_;refine uB N [hB b [vT ([]),z0]] (fun t20=>[(0,vT s.l),(1,vI at0),(4,vP b 0),(6,vI y),(20,.bool t20)]) (fun o0 ho0=>?_) ?_
 · have H:=iS I0;refine zM<|yE 5 [] [14] rfl<|wO [14] ho0 ?_ ?_
   · intro hc N;exact wU [] [(20,vY)]<|yW<|zU (ct N H)
   intro hc N;exact yE 8 [] [15,17] rfl<|bE N fun b1 hy1 N=>zBS rfl rfl hy1<|yM [] [20] rfl<|yW<|zU (ct N H)
 intro t20 I01 le1 hMc;have H:=H.trans le1;refine zK<|yG hMc ?_ ?_
 · intro hc1 N;refine yC<|yE 1 [] [21] rfl<|yZ 0 [vT ([]),z0] rfl<|yM [] [5] rfl<|xI<|zL ?_;obtain rfl:=zC N;exact xC ⟨_,_,(.cell 0 rfl rfl (by kernel_rfl) (.tmp rfl ResV.nil)),zQ,⟨_,_,rfl,rfl,⟨_,rfl,(rJ ⟨_,rfl,(SL.nil _)⟩)⟩,rfl⟩⟩
 intro hc1 N;refine zS<|zK<|yD ?_;obtain ⟨s1,hy2,N⟩:=zB N;obtain ⟨s2,hy3,N⟩:=zB N;obtain ⟨y1,hy4,N⟩:=zB N;refine wP [.p (vT s.l) [],.p (vI at0) [],.p (vI at0) [],.p (vI (W (at0+1))) [],.q (vT s1.l),.p (vT s.l) [],.p (vI at0) [],.p (vI (W (at0+2))) [],.p (vI y) [],.q (vT s2.l),.x (eS y1),.x (fun I' v hx=>∃ p1 c1,v=vA [vT s1.l,vS p1 y1 c1]/\hx=[]/\(S4 I' p1 y1 c1)),.p (vI y) [],.p (vI (W (y+1))) [],.x (fun I' v hx=>∃ p11 c11,hx=[hB b [vT s1.l,vS p11 y1 c11]]/\(S4 I' p11 y1 c11))] [[],[],[],[(2,false)],[(0,false),(1,false),(3,false)],[],[],[(6,false)],[],[(5,false),(7,false),(8,false)],[(9,false)],[(4,false),(10,false)],[],[(12,false)],[(11,false),(16,true)]] [] [[hB b [vT ([]),z0]]] [(13,false),(14,true)] (zY [0]) ?_ ?_
 · refine Op<|Op<|Op<|Op<|Oq ?_<|Op<|Op<|Op<|Op<|Oq ?_<|Ox ?_<|Ox ?_<|Op<|Op<|Ox ?_<|On
   · intro I1 hf le1;exact yV [22,23,25] rfl<|zIM rfl hy2<|xB iR
   · intro I1 hf le1;exact yV [27,29,30] rfl<|zIM rfl hy3<|xB iR
   · intro I1 hf le1;refine yV [31] rfl ?_;have H:=iS I1;refine xH (dW s2 _ hy4 ) ?_;rintro I02 hs2 v2 k2 le2 - ⟨v01,rfl,rfl,h1⟩ -;have H:=H.trans le2;obtain ⟨p,c,rfl⟩:=h1.form;exact yL [] H ⟨_,_,rfl,rfl,h1⟩
   · rintro I1 hf le1 _ _ ⟨rfl,rfl⟩ _ _ ⟨p,c,rfl,rfl,h1⟩;exact yV [26,32] rfl<|qA 12 [(33,vA [vT s1.l,vS p y1 c])]<|yL [] iR ⟨_,_,rfl,rfl,h1⟩
   rintro I1 hf le1 _ _ ⟨p1,c1,rfl,rfl,h11⟩ _ _ rfl;refine yV [4,33] rfl ?_;have H:=iS I1;exact eQ 0 [vT s1.l,vS p1 y1 c1] (hB b [vT s1.l,vS p1 y1 c1]::hf) rfl rfl rfl rfl<|zG3 (hx:=[hB b [vT s1.l,vS p1 y1 c1]]) rfl H rfl (zHT (v:=undef)) ⟨_,_,rfl,h11⟩
 rintro I03 le3 _ _ ⟨rfl,rfl⟩ _ _ ⟨p11,c11,rfl,h111⟩;refine yV [4,35] rfl ?_;refine yM [] [5] rfl<|zK<|xD ?_;obtain rfl:=zC N;exact xC ⟨_,_,(.cell 0 rfl rfl (by kernel_rfl) (.tmp rfl ResV.nil)),zQ,⟨_,_,rfl,rfl,⟨_,rfl,(rJ ⟨_,rfl,h111⟩)⟩,rfl⟩⟩
def zAS (r:zH×Int):KT:=fun kk I' hs' v=>
  ∃ v0 v1,hs'=[]/\v=tupV [v0,v1]/\(∃ cs,v0=.agg ⟨cs⟩/\Rp.rep I' cs r.1)/\v1=.int .i64 r.2
mutual
def eZ (s:Str) (at0:Int) (levels:Int):Option (zH×Int):=do
 let (y1,y2)<-oR (same s) (same at0) (same levels)
 let t27<-(do
   if (decide (y2<0)) then
    pure true
   else
    pure (decide (y2>=(s.l.length:Int)))
     : Option Bool)
 if t27 then
  pure ((zH.mk 0 0 (zA.mk ([]:List Int) 0) (zG.mk (⟨[]⟩:Str) ([]:List zA)) ([]:List zH)),(-1))
 else
  let b2<-sidx s y2
  let kind<-(do
    if ((b2.toNat:Int)==45) then
     pure (id 5)
    else
     let kind1<-(do
       if ((b2.toNat:Int)==42) then
        pure (id 6)
       else
        pure (id 4)
         : Option Int)
     pure (id kind1)
      : Option Int)
  let (y4,y5)<-oR (same s) (W (y2+1)) (same levels)
  let t51<-(do
    if (decide (y5<0)) then
     pure true
    else
     pure (decide (y5>=(s.l.length:Int)))
      : Option Bool)
  if t51 then
   pure ((zH.mk 0 0 (zA.mk ([]:List Int) 0) (zG.mk (⟨[]⟩:Str) ([]:List zA)) ([]:List zH)),(-1))
  else
   pure ((zH.mk kind 0 (zA.mk ([]:List Int) 0) (zG.mk (⟨[]⟩:Str) ([]:List zA)) ([y1,y4]:List zH)),(W (y5+1)))
 partial_fixpoint
def oR (s:Str) (at0:Int) (levels:Int):Option (zH×Int):=do
 let t26<-(do
   if (decide (levels<1)) then
    pure true
   else
    if (decide (at0<0)) then
     pure true
    else
     pure (decide (at0>=(s.l.length:Int)))
     : Option Bool)
 if t26 then
  pure ((zH.mk 0 0 (zA.mk ([]:List Int) 0) (zG.mk (⟨[]⟩:Str) ([]:List zA)) ([]:List zH)),(-1))
 else
  let b1<-sidx s at0
  if ((b1.toNat:Int)==123) then
   let y<-fF s at0 (125:UInt8)
   if (decide (y<0)) then
    pure ((zH.mk 0 0 (zA.mk ([]:List Int) 0) (zG.mk (⟨[]⟩:Str) ([]:List zA)) ([]:List zH)),(-1))
   else
    let s1<-sslc s (W (at0+1)) y
    let (y2,y3)<-mH s1
    pure ((zH.mk 2 0 y2 (zG.mk (⟨[]⟩:Str) ([]:List zA)) ([]:List zH)),(W (y+1)))
  else
   let t52<-(do
     let b3<-sidx s at0
     if (decide ((b3.toNat:Int)>=65)) then
      let b4<-sidx s at0
      pure (decide ((b4.toNat:Int)<=68))
     else
      pure false
       : Option Bool)
   if t52 then
    let (y5,y6)<-oG s at0
    pure ((zH.mk 3 0 (zA.mk ([]:List Int) 0) y5 ([]:List zH)),y6)
   else
    let b6<-sidx s at0
    if ((b6.toNat:Int)==40) then
     let (y8,y9)<-eZ (same s) (W (at0+1)) (W (levels - 1))
     pure (y8,y9)
    else
     let (y11,y12)<-jR s at0
     if (y12==at0) then
      pure ((zH.mk 0 0 (zA.mk ([]:List Int) 0) (zG.mk (⟨[]⟩:Str) ([]:List zA)) ([]:List zH)),(-1))
     else
      pure ((zH.mk 1 y11 (zA.mk ([]:List Int) 0) (zG.mk (⟨[]⟩:Str) ([]:List zA)) ([]:List zH)),y12)
 partial_fixpoint
end
theorem zGD:(∀ (s:Str) (at0:Int) (levels:Int) r,eZ s at0 levels=some r->∀ {I:Imm} ,RT 202 [vT s.l,vI at0,vI levels] I [] (zAS  r))/\(∀ (s:Str) (at0:Int) (levels:Int) r,oR s at0 levels=some r->∀ {I:Imm} ,RT 190 [vT s.l,vI at0,vI levels] I [] (zAS  r)):=by
  refine eZ.mutual_partial_correctness _ _ ?_ ?_
  · intro F_spec_l3Parse ih_spec_l3Parse s at0 levels r N I;refine yJ Tryz.func202 fun B=>?_;have H:=iS I;refine yC<|xU zExpr ?_;intro b hb;refine wU [] []<|yX<|yE 3 [] [14,15,16] rfl ?_;obtain ⟨⟨y1,y2⟩,hy,N⟩:=zB N;refine xH (ih_spec_l3Parse s at0 levels _ hy ) ?_;rintro I0 hs2 v2 k2 le - ⟨v0,v01,rfl,rfl,⟨cs,rfl,h⟩,rfl⟩ -;have H:=H.trans le;obtain ⟨p,c,p1,c1,p2,c2,rfl,h2,h3,h4⟩:=wT h;refine yE 7 [] [18,19] rfl<|xU zExpr ?_;intro b1 hb1;refine yZ 0 (cExpr y1 p c p1 c1 p2 c2) rfl<|yM [] [9] rfl<|zZ<|yD ?_;refine uB N [hB b1 (cExpr y1 p c p1 c1 p2 c2),hB b zExpr] (fun t27=>[(0,vT s.l),(2,vI levels),(6,vP b 0),(8,vP b1 0),(9,vI y2),(27,.bool t27)]) (fun o0 ho0=>?_) ?_
    · have H:=iS I0;refine zM<|yE 3 [] [22] rfl<|wO [22] ho0 ?_ ?_
      · intro hc N;exact wU [] [(27,vY)]<|yW<|zU (ct N H)
      intro hc N;exact yM [] [27] rfl<|yW<|zU (ct N H)
    intro t27 I01 le1 hMc;have ⟨h2,h3,h4,H⟩:=m4 le1 h2 h3 h4 H;refine zK<|yG hMc ?_ ?_
    · intro hc1 N;refine yC<|yE 1 [] [28] rfl<|eQ 1 zExpr [hB b1 (cExpr y1 p c p1 c1 p2 c2),hB b zExpr] rfl rfl rfl rfl<|yM [] [7] rfl<|xI<|zL ?_;obtain rfl:=zC N;exact xC ⟨_,_,(.cell 1 rfl rfl (by kernel_rfl) (.tmp rfl ResV.nil)),zQ,⟨_,_,rfl,rfl,⟨_,rfl,(wB ⟨_,_,_,rfl,(SL.nil _),(SL.nil _),(SL.nil _)⟩)⟩,rfl⟩⟩
    intro hc1 N;refine zS<|uN [10] rfl<|zZ<|yC<|yE 2 [] [29,30] rfl<|bE N fun b2 hy1 N=>zBS rfl rfl hy1<|zX rfl<|wK<|yH [32] rfl<|zK ?_;refine uB N [hB b1 (cExpr y1 p c p1 c1 p2 c2),hB b zExpr] (fun kind=>[(0,vT s.l),(2,vI levels),(6,vP b 0),(8,vP b1 0),(9,vI y2),(10,vI kind)]) (fun o01 ho01=>?_) ?_
    · have H:=iS I01;refine yG ho01 ?_ ?_
      · intro hc2 N;exact zM<|yM [] [10] rfl<|yW<|zU (ct N H)
      intro hc2 N;refine yH [34] rfl<|zK ?_;refine uB N [hB b1 (cExpr y1 p c p1 c1 p2 c2),hB b zExpr] (fun kind1=>[(0,vT s.l),(2,vI levels),(6,vP b 0),(8,vP b1 0),(9,vI y2),(10,vI kind1)]) (fun o02 ho02=>?_) ?_
      · have H:=iS I01;refine yG ho02 ?_ ?_
        · intro hc3 N;exact zM<|yM [] [10] rfl<|yW<|zU (ct N H)
        intro hc3 N;exact zS<|yW<|zU (ct N H)
      intro kind1 I03 le2 hMc2;have H:=H.trans le2;exact yW<|zU (ct hMc2 H)
    intro kind I02 le3 hMc1;have ⟨h2,h3,h4,H⟩:=m4 le3 h2 h3 h4 H;refine zO<|yX<|yE 4 [] [37,39,40] rfl ?_;obtain ⟨⟨y4,y5⟩,hy2,N⟩:=zB hMc1;refine xH (ih_spec_l3Parse s (W (y2+1)) levels _ hy2 ) ?_;rintro I04 hs2 v2 k2 le4 - ⟨v05,v06,rfl,rfl,⟨cs1,rfl,h5⟩,rfl⟩ -;have ⟨h2,h3,h4,H⟩:=m4 le4 h2 h3 h4 H;obtain ⟨p3,c3,p4,c4,p5,c5,rfl,h7,h8,h9⟩:=wT h5;refine yE 8 [] [42,43] rfl<|xU zExpr ?_;intro b3 hb2;refine yZ 0 (cExpr y4 p3 c3 p4 c4 p5 c5) rfl<|yM [] [12] rfl<|zZ<|yD ?_;refine uB N [hB b3 (cExpr y4 p3 c3 p4 c4 p5 c5),hB b1 (cExpr y1 p c p1 c1 p2 c2),hB b zExpr] (fun t51=>[(6,vP b 0),(8,vP b1 0),(10,vI kind),(11,vP b3 0),(12,vI y5),(51,.bool t51)]) (fun o03 ho03=>?_) ?_
    · have H:=iS I04;refine zM<|yE 3 [] [46] rfl<|wO [46] ho03 ?_ ?_
      · intro hc4 N;exact wU [] [(51,vY)]<|yW<|zU (ct N H)
      intro hc4 N;exact yM [] [51] rfl<|yW<|zU (ct N H)
    intro t51 I05 le5 hMc3;have ⟨h7,h8,h9,h2,h3,h4⟩:=m6 le5 h7 h8 h9 h2 h3 h4;refine zK<|yG hMc3 ?_ ?_
    · intro hc5 N;refine yC<|yE 1 [] [52] rfl<|eQ 2 zExpr [hB b3 (cExpr y4 p3 c3 p4 c4 p5 c5),hB b1 (cExpr y1 p c p1 c1 p2 c2),hB b zExpr] rfl rfl rfl rfl<|yM [] [7] rfl<|xI<|zL ?_;obtain rfl:=zC N;exact xC ⟨_,_,(.cell 2 rfl rfl (by kernel_rfl) (.tmp rfl ResV.nil)),zQ,⟨_,_,rfl,rfl,⟨_,rfl,(wB ⟨_,_,_,rfl,(SL.nil _),(SL.nil _),(SL.nil _)⟩)⟩,rfl⟩⟩
    intro hc5 N;refine zS<|yX<|tZ 3 [1,0] [(53,vI kind),(54,vA (cExpr y1 p c p1 c1 p2 c2)),(55,vA (cExpr y4 p3 c3 p4 c4 p5 c5))]<|tK [vI y1.Kind,vI y1.Num,vS p y1.Index.Coefs c,vI y1.Index.Const,vT y1.Read.Array.l,vS p1 y1.Read.Subs c1,vS p2 y1.Kids c2,vI y4.Kind,vI y4.Num,vS p3 y4.Index.Coefs c3,vI y4.Index.Const,vT y4.Read.Array.l,vS p4 y4.Read.Subs c4,vS p5 y4.Kids c5] zH ?_;intro b4 hb3;have h10:RL I05 [vI y1.Kind,vI y1.Num,vS p y1.Index.Coefs c,vI y1.Index.Const,vT y1.Read.Array.l,vS p1 y1.Read.Subs c1,vS p2 y1.Kids c2,vI y4.Kind,vI y4.Num,vS p3 y4.Index.Coefs c3,vI y4.Index.Const,vT y4.Read.Array.l,vS p4 y4.Read.Subs c4,vS p5 y4.Kids c5] ([y1,y4]:List zH):=⟨(cExpr y1 p c p1 c1 p2 c2),_,rfl,rfl,(wB ⟨_,_,_,rfl,h2,h3,h4⟩),⟨(cExpr y4 p3 c3 p4 c4 p5 c5),_,rfl,rfl,(wB ⟨_,_,_,rfl,h7,h8,h9⟩),rfl⟩⟩;refine yE 7 [] [57,59] rfl<|yZ 3 [vI kind,vI 0,z0,vI 0,vT ([]),z0,vS (some ⟨b4,0,none⟩) ([y1,y4]:List zH) 2] rfl<|yM [] [7] rfl<|xI<|xE 0 rfl ?_;intro I06 le6 hl0;have h11:=SL.of_frozen hl0 le6 h10;obtain rfl:=zC N;exact xC ⟨_,_,(.cell 2 rfl rfl (by kernel_rfl) (.tmp rfl ResV.nil)),zQ,⟨_,_,rfl,rfl,⟨_,rfl,(wB ⟨_,_,_,rfl,(SL.nil _),(SL.nil _),h11⟩)⟩,rfl⟩⟩
  intro F_spec_l3Round ih_spec_l3Round s at0 levels r N I;refine yJ Tryz.func190 fun B=>?_;have H:=iS I;refine yC<|xU zExpr ?_;intro b hb;refine wU [] []<|zZ<|yD ?_;refine uB N [hB b zExpr] (fun t26=>[(0,vT s.l),(1,vI at0),(2,vI levels),(6,vP b 0),(26,.bool t26)]) (fun o0 ho0=>?_) ?_
  · have H:=iS I;refine zM<|yE 3 [] [17] rfl<|wO [17] ho0 ?_ ?_
    · intro hc N;exact wU [] [(26,vY)]<|yW<|zU (ct N H)
    intro hc N;refine yE 7 [] [21] rfl<|wO [21] N ?_ ?_
    · intro hc1 N;exact wU [] [(26,vY)]<|yW<|zU (ct N H)
    intro hc1 N;exact yM [] [26] rfl<|yW<|zU (ct N H)
  intro t26 I0 le hMc;have H:=H.trans le;refine zK<|yG hMc ?_ ?_
  · intro hc2 N;refine yC<|yE 1 [] [27] rfl<|eQ 0 zExpr [hB b zExpr] rfl rfl rfl rfl<|yM [] [7] rfl<|xI<|zL ?_;obtain rfl:=zC N;exact xC ⟨_,_,(.cell 0 rfl rfl (by kernel_rfl) (.tmp rfl ResV.nil)),zQ,⟨_,_,rfl,rfl,⟨_,rfl,(wB ⟨_,_,_,rfl,(SL.nil _),(SL.nil _),(SL.nil _)⟩)⟩,rfl⟩⟩
  intro hc2 N;refine zS<|zZ<|yF<|yC<|yE 2 [] [29,30] rfl<|bE N fun b1 hy N=>zBS rfl rfl hy<|yM [] [28] rfl<|zK<|yG N ?_ ?_
  · intro hc3 N;refine yC<|yE 2 [] [33,34] rfl<|bE N fun y hy1 N=>fB (zCq s at0 (125:UInt8) _ hy1 ) fun I01 le1=>wU [] [(8,vI y)]<|zZ<|vM [(37,.bool (decide (y<0)))]<|zK<|yG N ?_ ?_
    · intro hc4 N;refine yC<|yE 1 [] [38] rfl<|eQ 0 zExpr [hB b zExpr] rfl rfl rfl rfl<|yM [] [7] rfl<|xI<|zL<|zV<|zL ?_;obtain rfl:=zC N;exact xC ⟨_,_,(.cell 0 rfl rfl (by kernel_rfl) (.tmp rfl ResV.nil)),zQ,⟨_,_,rfl,rfl,⟨_,rfl,(wB ⟨_,_,_,rfl,(SL.nil _),(SL.nil _),(SL.nil _)⟩)⟩,rfl⟩⟩
    intro hc4 N;refine zS<|yX<|yE 4 [] [40,42,43] rfl<|bE N fun s1 hy2 N=>zIM rfl hy2 ?_;obtain ⟨⟨y2,y3⟩,hy3,N⟩:=zB N;refine xH (zAt s1 _ hy3 ) ?_;rintro I02 hs2 v2 k2 le2 - ⟨v01,v02,rfl,rfl,⟨cs,rfl,h1⟩,rfl⟩ -;obtain ⟨p,c,rfl,h3⟩:=yB h1;refine yE 9 [] [46,47] rfl<|xU [z0,vI 0] ?_;intro b2 hb1;refine yZ 0 (cAff y2 p c) rfl<|wU [] []<|yX<|tZ 4 [0] [(49,vA [vI 2,vI 0,vS p y2.Coefs c,vI y2.Const,vT ([]),z0,z0]),(51,vI (W (y+1)))]<|yZ 1 [vI 2,vI 0,vS p y2.Coefs c,vI y2.Const,vT ([]),z0,z0] rfl<|yM [] [7] rfl<|xI<|zV<|zL ?_;obtain rfl:=zC N;exact xC ⟨_,_,(.cell 1 rfl rfl (by kernel_rfl) (.tmp rfl ResV.nil)),zQ,⟨_,_,rfl,rfl,⟨_,rfl,(wB ⟨_,_,_,rfl,h3,(SL.nil _),(SL.nil _)⟩)⟩,rfl⟩⟩
  intro hc3 N;refine yD ?_;refine uB N [hB b zExpr] (fun t52=>[(0,vT s.l),(1,vI at0),(2,vI levels),(6,vP b 0),(52,.bool t52)]) (fun o01 ho01=>?_) ?_
  · have H:=iS I0;refine zM<|yE 2 [] [53,54] rfl ?_;obtain ⟨b3,hy4,N⟩:=zB ho01;refine zBS rfl rfl hy4<|yE 5 [] [57] rfl<|wO [57] N ?_ ?_
    · intro hc5 N;exact yE 7 [] [58,59] rfl<|bE N fun b4 hy5 N=>zBS rfl rfl hy5<|yM [] [52] rfl<|yW<|zU (ct N H)
    intro hc5 N;exact wU [] [(52,vF)]<|yW<|zU (ct N H)
  intro t52 I03 le3 hMc1;refine zK<|yG hMc1 ?_ ?_
  · intro hc6 N;refine yC<|yE 2 [] [64,65] rfl ?_;obtain ⟨⟨y5,y6⟩,hy6,N⟩:=zB N;refine xH (zAZ s at0 _ hy6 ) ?_;rintro I04 hs2 v2 k2 le4 - ⟨v04,v05,rfl,rfl,⟨cs1,rfl,h4⟩,rfl⟩ -;obtain ⟨p1,c1,rfl,h6⟩:=tD h4;refine yE 6 [] [67,68] rfl<|xU [vT ([]),z0] ?_;intro b5 hb2;refine yZ 0 (cAccess y5 p1 c1) rfl<|yM [] [12] rfl<|yX<|tZ 3 [0] [(70,vA [vI 3,vI 0,z0,vI 0,vT y5.Array.l,vS p1 y5.Subs c1,z0]),(71,vI y6)]<|yZ 1 [vI 3,vI 0,z0,vI 0,vT y5.Array.l,vS p1 y5.Subs c1,z0] rfl<|yM [] [7] rfl<|xI<|zV<|zL ?_;obtain rfl:=zC N;exact xC ⟨_,_,(.cell 1 rfl rfl (by kernel_rfl) (.tmp rfl ResV.nil)),zQ,⟨_,_,rfl,rfl,⟨_,rfl,(wB ⟨_,_,_,rfl,(SL.nil _),h6,(SL.nil _)⟩)⟩,rfl⟩⟩
  intro hc6 N;refine yC<|yE 2 [] [73,74] rfl<|bE N fun b6 hy7 N=>zBS rfl rfl hy7<|yM [] [72] rfl<|zK<|yG N ?_ ?_
  · intro hc7 N;refine yC<|yE 5 [] [77,79,81] rfl ?_;obtain ⟨⟨y8,y9⟩,hy8,N⟩:=zB N;refine xH (ih_spec_l3Round s (W (at0+1)) (W (levels - 1)) _ hy8 ) ?_;rintro I05 hs2 v2 k2 le5 - ⟨v07,v08,rfl,rfl,⟨cs2,rfl,h7⟩,rfl⟩ -;obtain ⟨p2,c2,p3,c3,p4,c4,rfl,h9,h10,h11⟩:=wT h7;refine yE 8 [] [83,84] rfl<|yZ 0 (cExpr y8 p2 c2 p3 c3 p4 c4) rfl<|yM [] [7] rfl<|xI<|zV<|zL ?_;obtain rfl:=zC N;exact xC ⟨_,_,(.cell 0 rfl rfl (by kernel_rfl) (.tmp rfl ResV.nil)),zQ,⟨_,_,rfl,rfl,⟨_,rfl,(wB ⟨_,_,_,rfl,h9,h10,h11⟩)⟩,rfl⟩⟩
  intro hc7 N;refine zS<|zO<|yX<|yE 2 [] [86,87] rfl ?_;obtain ⟨⟨y11,y12⟩,hy9,N⟩:=zB N;refine xH (zCC s at0 _ hy9 ) ?_;rintro I06 hs2 v2 k2 le6 - ⟨v012,v013,rfl,rfl,rfl,rfl⟩ -;refine yM [] [13,14] rfl<|zZ<|yH [93] rfl<|zK<|yG N ?_ ?_
  · intro hc8 N;refine yC<|yE 1 [] [94] rfl<|eQ 0 zExpr [hB b zExpr] rfl rfl rfl rfl<|yM [] [7] rfl<|xI<|zL ?_;obtain rfl:=zC N;exact xC ⟨_,_,(.cell 0 rfl rfl (by kernel_rfl) (.tmp rfl ResV.nil)),zQ,⟨_,_,rfl,rfl,⟨_,rfl,(wB ⟨_,_,_,rfl,(SL.nil _),(SL.nil _),(SL.nil _)⟩)⟩,rfl⟩⟩
  intro hc8 N;refine zS<|yX<|yE 3 [] [96,97] rfl<|yZ 0 [vI 1,vI y11,z0,vI 0,vT ([]),z0,z0] rfl<|yM [] [7] rfl<|zK<|xD ?_;obtain rfl:=zC N;exact xC ⟨_,_,(.cell 0 rfl rfl (by kernel_rfl) (.tmp rfl ResV.nil)),zQ,⟨_,_,rfl,rfl,⟨_,rfl,(wB ⟨_,_,_,rfl,(SL.nil _),(SL.nil _),(SL.nil _)⟩)⟩,rfl⟩⟩
theorem zGf:∀ s at0 levels r,oR s at0 levels=some r->∀ {I:Imm} ,RT 190 [vT s.l,vI at0,vI levels] I [] (zAS  r):=zGD.2
def sO (a0:zA) (n0:Int) (i:Int):Option (Int):=do
 if (decide (i<(a0.Coefs.length:Int))) then
  let x<-idx a0.Coefs i
  let n02<-(do
    if (x != 0) then
     pure (W (i+1))
    else
     pure (id n0)
      : Option Int)
  sO a0 n02 (W (i+1))
 else
  pure (id n0)
 partial_fixpoint
theorem zE2 (a0:zA):∀ (n0:Int) (i:Int) (o:Int),sO a0 n0 i=some o->∀ {B}{I0 I:Imm}{Q p c}{b:Nat},I0.le I->(S4 I p a0.Coefs c)->NG Q->NO Q->(∀ (I':Imm) (n01:Int),o=n01->I0.le I'->T 21 B Q (.exit 0) I' [] [(3,vI n01)])->J Tryz.prog 21 B (nav (bodyOf Tryz.f160) [1,1,0,1,0]) Q I [hB b (cAff a0 p c)] [(1,vP b 0),(3,vI n0),(4,vI i)]:=by
 refine sO.partial_correctness a0 _ fun self ih n0 i o N B I0 I Q p c b H h hg ho hx=>yU hg ho<|yD<|yC<|yM [0] [9] rfl<|zK<|yG N ?_ ?_
 · intro hc N;refine zS<|zZ<|yF<|yC<|yE 3 [0] [13,14] rfl<|bE N fun x hy N=>xT rfl rfl h hy ?_;intro ad ccs hat hrep;obtain rfl:=hrep;refine xO 0 hat [vI x] (vI x) rfl<|yM [] [17] rfl<|zK ?_;refine uB N [hB b (cAff a0 p c)] (fun n02=>[(1,vP b 0),(3,vI n02),(4,vI i)]) (fun o0 ho0=>?_) ?_
   · have H:=iS I;refine yG ho0 ?_ ?_
     · intro hc1 N;exact zM<|yM [] [3] rfl<|yW<|zU (ct N H)
     intro hc1 N;exact zS<|yW<|zU (ct N H)
   intro n02 I0 le hMc;have ⟨h,H⟩:=m2 le h H;exact zO<|zK<|zM<|yM [] [4] rfl<|yT<|nT<|ih n02 (W (i+1)) _ hMc H h hg ho hx
 intro hc N;exact wW<|wG zQ<|yW<|hx _ _ (zC N).symm H
def oT (a0:zA):Option (Int):=do
 let n01<-sO a0 0 0
 pure (id n01)
theorem zAm:∀ a0 r,oT a0=some r->∀ {I:Imm}{p c},(S4 I p a0.Coefs c)->RT 160 [vA (cAff a0 p c)] I [] (xQ  r):=by
 intro a0 r N I p c h;unfold oT at N;refine yJ Tryz.func160 fun B=>yC<|vK (cAff a0 p c) ?_;intro b hb;refine wU [] []<|uN [3] rfl<|zZ<|yH [4] rfl<|wK<|pM [(1,vP b 0),(3,vI 0),(4,vI 0)] ?_;obtain ⟨o01,ho01,hMl⟩:=zB N;refine zE2 a0 0 0 o01 ho01 iR h (fun _ _ _ h=>h) (fun _ _ h=>h) ?_;intro I01 n01 heq1 le1;subst o01;refine zR<|uN [2] rfl<|zK<|xD ?_;obtain rfl:=zC hMl;exact uE
def tP (a0:zG) (depth:Int) (i:Int):Option (Out Unit (Bool)):=do
 if (decide (i<(a0.Subs.length:Int))) then
  let t29<-(do
    let x<-idx a0.Subs i
    let y<-tO x
    if (!y) then
     pure true
    else
     let x1<-idx a0.Subs i
     let y1<-oT x1
     pure (decide (y1>depth))
      : Option Bool)
  if t29 then
   pure (.ret false)
  else
   tP a0 depth (W (i+1))
 else
  pure (.done ())
 partial_fixpoint
theorem zDv (a0:zG) (depth:Int):∀ (i:Int) (o:Out Unit (Bool)),tP a0 depth i=some o->∀ {B}{I0 I:Imm}{Q p c}{b:Nat},I0.le I->(S4 I p a0.Subs c)->NG Q->NO Q->(∀ (I':Imm) ,o=(.done ())->I0.le I'->T 56 B Q (.exit 0) I' [hB b (cAccess a0 p c)] [(2,vP b 0)])->(∀ r I' hs' m',o=(.ret r)->I0.le I'->RS Tryz.prog Tryz.f127 B (zT  r) I' hs' m'->T 56 B Q .ret I' hs' m')->J Tryz.prog 56 B (nav (bodyOf Tryz.f127) [1,0,1,0]) Q I [hB b (cAccess a0 p c)] [(1,vI depth),(2,vP b 0),(5,vI i)]:=by
 refine tP.partial_correctness a0 depth _ fun self ih i o N B I0 I Q p c b H h hg ho hx hr=>yU hg ho<|yD<|yC<|yM [0] [10] rfl<|zK<|yG N ?_ ?_
 · intro hc N;refine zS<|zZ<|yF<|yD ?_;refine uB N [hB b (cAccess a0 p c)] (fun t29=>[(1,vI depth),(2,vP b 0),(5,vI i),(29,.bool t29)]) (fun o0 ho0=>?_) ?_
   · have H:=iS I;refine zM<|yE 3 [0] [14,15] rfl ?_;obtain ⟨x,hy,N⟩:=zB ho0;refine xT rfl rfl h hy ?_;intro ad ccs hat hrep;obtain ⟨p1,c1,rfl,h1⟩:=yB hrep;refine xO 0 hat (cAff x p1 c1) (vA (cAff x p1 c1)) rfl<|bE N fun y hy1 N=>uZ (gX x _ hy1 h1) ?_;intro I01 le;have ⟨h,H⟩:=m2 le h H;refine yE 8 [] [20] rfl<|wO [20] N ?_ ?_
     · intro hc1 N;exact wU [] [(29,vY)]<|yW<|zU (ct N H)
     intro hc1 N;refine yE 11 [0] [22,23] rfl<|bE N fun x1 hy2 N=>xT rfl rfl h hy2 ?_;intro ad1 ccs1 hat1 hrep1;obtain ⟨p2,c2,rfl,h3⟩:=yB hrep1;refine xO 0 hat1 (cAff x1 p2 c2) (vA (cAff x1 p2 c2)) rfl<|bE N fun y1 hy3 N=>fB (zAm x1 _ hy3 h3) ?_;intro I02 le1;have H:=H.trans le1;exact yM [] [29] rfl<|yW<|zU (ct N H)
   intro t29 I0 le2 hMc;have ⟨h,H⟩:=m2 le2 h H;refine zK<|yG hMc ?_ ?_
   · intro hc2 N;exact vM [(4,vF)]<|xI<|zV<|zL<|zL<|hr _ _ _ _ (zC N).symm H ⟨_,_,(.tmp rfl ResV.nil),zQ,⟨_,rfl,rfl,rfl⟩⟩
   intro hc2 N;exact zS<|zO<|zK<|zM<|yM [] [5] rfl<|yT<|nT<|ih (W (i+1)) _ N H h hg ho hx hr
 intro hc N;exact wW<|yW<|hx _  (zC N).symm H
def nP (a0:zG) (depth:Int):Option (Bool):=do
 match<-tP a0 depth 0 with
 | .ret r0=>pure r0
 | .done _ =>
  let t4<-(do
    if ((a0.Array.l.length:Int)==1) then
     if (!(Op.bytesLess a0.Array.l ([65]:List UInt8))) then
      if (Op.bytesLess a0.Array.l ([68]:List UInt8)||a0.Array.l==([68]:List UInt8)) then
       if (decide ((a0.Subs.length:Int)>=1)) then
        pure (decide ((a0.Subs.length:Int)<=2))
       else
        pure false
      else
       pure false
     else
      pure false
    else
     pure false
      : Option Bool)
  pure (id t4)
theorem zCF:∀ a0 depth r,nP a0 depth=some r->∀ {I:Imm}{p c},(S4 I p a0.Subs c)->RT 127 [vA (cAccess a0 p c),vI depth] I [] (zT  r):=by
 intro a0 depth r N I p c h;unfold nP at N;refine yJ Tryz.func127 fun B=>?_;have H:=iS I;refine yC<|vK (cAccess a0 p c) ?_;intro b hb;refine wU [] []<|zZ<|yH [5] rfl<|wK<|pM [(1,vI depth),(2,vP b 0),(5,vI 0)] ?_;obtain ⟨o01,ho01,hMl⟩:=zB N;refine zDv a0 depth 0 o01 ho01 iR h (fun _ _ _ h=>h) (fun _ _ h=>h) ?_ ?_
 · intro I03  heq1 le3;subst o01;have H:=H.trans le3;refine zR<|zK<|yD ?_;refine uB hMl [] (fun t4=>[(4,.bool t4)]) (fun o02 ho02=>?_) ?_
   · have H:=iS I03;refine zM<|yE 5 [0] [34] rfl<|wO [34] ho02 ?_ ?_
     · intro hc3 N;refine yE 10 [0] [39] rfl<|wO [39] N ?_ ?_
       · intro hc4 N;refine yE 15 [0] [44] rfl<|wO [44] N ?_ ?_
         · intro hc5 N;refine yE 21 [0] [50] rfl<|wO [50] N ?_ ?_
           · intro hc6 N;exact yM [0] [4] rfl<|wG zQ<|yW<|zU (ct N H)
           intro hc6 N;exact wU [] [(4,vF)]<|wG zQ<|yW<|zU (ct N H)
         intro hc5 N;exact wU [] [(4,vF)]<|wG zQ<|yW<|zU (ct N H)
       intro hc4 N;exact wU [] [(4,vF)]<|wG zQ<|yW<|zU (ct N H)
     intro hc3 N;exact wU [] [(4,vF)]<|wG zQ<|yW<|zU (ct N H)
   intro t4 I04 le4 hMc1;refine zK<|xD ?_;obtain rfl:=zC hMc1;exact uE
 intro r0 I9 hs9 m9 heq9 le9 hrs9;subst heq9;refine zV<|zL ?_;obtain rfl:=zC hMl;exact xC hrs9
end Go.LN
