/- Helper of the proof (see the last text). -/
import Derived.Test.YtmlnffbepjijhaaGreatHM1
set_option linter.unusedVariables false
set_option linter.unusedSimpArgs false
namespace Go.LN
open Go.Proofs Go.Proofs.Tryz
set_option maxRecDepth 20000
def zA7 (b0:Nat) (r:zC×zQ):KT:=fun kk I' af v=>
  ∃ v0 k0,af=[.blk b0 ⟨k0⟩]/\v=tupV [v0]/\(∃ cs,v0=.agg ⟨cs⟩/\Rp.rep I' cs r.1)/\Rp.rep I' k0 r.2
def mB (r0:zQ) (p1:zC):Option (zC×zQ):=do
 let y<-rL p1;let (y2,y3)<-xG r0 60;let (Arrays,Parts,x)<-(do
   if (y2==0) then
    let (y5,y6)<-qN y3 ([(⟨[65]⟩:Str),(⟨[68]⟩:Str),(⟨[69]⟩:Str)]:List Str);let (y8,y9)<-xI y6 ([7,0,3,(-1)]:List Int);let l<-app 40 y.Arrays ([(zE.mk y5 ([y8]:List Int))]:List zE);pure (l,y.Parts,y9)
   else
    let (aq,aR,x1)<-(do
      if (y2==1) then
       let (Arrays2,x2)<-(do
         if (decide ((y.Arrays.length:Int)>0)) then
          let (y11,y12)<-xI y3 ([1,2,7]:List Int);let x3<-idx y.Arrays 0;let l1<-pure (y.Arrays.set (0:Int).toNat (zE.mk x3.Name ([y11]:List Int)));pure (l1,y12)
         else
          pure (y.Arrays,y3)
           : Option (List zE×zQ))
       pure (Arrays2,y.Parts,x2)
      else
       let (Parts2,x4)<-(do
         if (y2==2) then
          let (Parts3,x5)<-(do
            if (decide ((y.Parts.length:Int)>0)) then
             let x6<-idx y.Parts 0;let (y14,y15)<-kZ y3 x6.Nest;let (y17,y18)<-kZ y15 y14;let (y20,y21)<-kZ y18 y17;let x7<-idx y.Parts 0;let l2<-pure (y.Parts.set (0:Int).toNat (zI.mk y20 x7.Body));pure (l2,y21)
            else
             pure (y.Parts,y3)
              : Option (List zI×zQ))
          pure (Parts3,x5)
         else
          let (Parts4,x8)<-(do
            if (y2==3) then
             let t76<-(do
               if (decide ((y.Parts.length:Int)>0)) then
                let x9<-idx y.Parts (W ((y.Parts.length:Int) - 1));pure (decide ((x9.Body.length:Int)>0))
               else
                pure false
                 : Option Bool)
             let (Parts5,x10)<-(do
               if t76 then
                let x11<-idx y.Parts (W ((y.Parts.length:Int) - 1));let x12<-idx x11.Body 0;let (y22,y23)<-qO y3 x12;let (y24,y25)<-qO y23 y22;let (y26,y27)<-qO y25 y24;let l3<-pure ((y.Parts).set (W ((y.Parts.length:Int) - 1)).toNat (zI.mk x11.Nest (x11.Body.set 0 y26)));pure (l3,y27)
               else
                pure (y.Parts,y3)
                 : Option (List zI×zQ))
             pure (Parts5,x10)
            else
             let Parts6<-(do
               if (y2==4) then
                let Parts7<-(do
                  if (decide ((y.Parts.length:Int)>0)) then
                   let x13<-idx y.Parts (W ((y.Parts.length:Int) - 1));let l4<-pure (y.Parts.set (W ((y.Parts.length:Int) - 1)).toNat (zI.mk x13.Nest ([]:List zL)));pure (id l4)
                  else
                   pure y.Parts
                    : Option (List zI))
                pure (id Parts7)
               else
                pure y.Parts
                 : Option (List zI))
             pure (Parts6,y3)
              : Option (List zI×zQ))
          pure (Parts4,x8)
           : Option (List zI×zQ))
       pure (y.Arrays,Parts2,x4)
        : Option (List zE×List zI×zQ))
    pure (aq,aR,x1)
     : Option (List zE×List zI×zQ))
 pure ((zC.mk Arrays Parts),x)
theorem zFw:∀ (r0:zQ) (p1:zC) r,mB r0 p1=some r->∀ {I:Imm}{ar}{p c p2 c1 p3 c2},(S4 I p r0.b c)->(S4 I p2 p1.Arrays c1)->(S4 I p3 p1.Parts c2)->(∀ (y:zC) (y2:Int) (y3:zQ) (x:zI) (s:zL),rL p1=some y->xG r0 60=some (y2,y3)->(y2==3)=true->idx y.Parts (W ((y.Parts.length:Int) - 1))=some x->idx x.Body 0=some s->False)->RT 49 [vP ar 0,vA (cProg p1 p2 c1 p3 c2)] I [hB ar (cRd r0 p c)] (zA7 ar r):=by
 intro r0 p1 r N I ar p c p2 c1 p3 c2 h h1 h2 hne;unfold mB at N;refine yI func49 fun B=>?_;have H:=iS I;refine yB<|vJ (cProg p1 p2 c1 p3 c2) ?_;intro b hb;refine xU zTwo ?_;intro b1 hb1;refine zX rfl<|yW<|tL 1 [1] [(7,vA (cProg p1 p2 c1 p3 c2))]<|bE N fun y hy N=>xE (zIY p1 _ hy h1 h2) ?_;rintro I0 aw v2 k2 le - ⟨p4,c3,cs,p5,c4,av,rfl,rfl,h3,h4⟩ -;have ⟨h,H⟩:=m2 le h H;refine xU zTwo ?_;intro b2 hb2;refine yY 0 (cProg y p4 c3 p5 c4) rfl<|zX rfl<|yW<|yK [0] [6] rfl<|zZ<|yB<|yE 1 [] [12] rfl<|tX (zY [5,0,1,2,3,4] (af:=[hB ar (cRd r0 p c),hB b2 (cProg y p4 c3 p5 c4),hO zE (vS p4 y.Arrays c3) cs,hO zI (vS p5 y.Parts c4) av,hB b1 zTwo,hB b (cProg p1 p2 c1 p3 c2)])) ?_;obtain ⟨⟨y2,y3⟩,ay,N⟩:=zB N;refine rW (wD r0 60 _ ay h) rfl ?_;rintro aO aw v2 k2 aa - ⟨v0,kk,rfl,rfl,rfl,h6⟩ -;have ⟨h3,h4,H⟩:=m3 aa h3 h4 H;obtain ⟨p6,c5,rfl,h7⟩:=yC h6;refine zX rfl<|wI<|yH [14] rfl<|zK<|pD 5 rfl ?_;intro aV aA hl0;have al:At aV ⟨b,0,none⟩ (cProg p1 p2 c1 p3 c2):=At.of_blk hl0;have ⟨h7,h3,h4,H⟩:=m4 aA h7 h3 h4 H;obtain ⟨o0,az,aT⟩:=zB N;refine oW (fun I' af m'=>∃ (Arrays:List zE) (Parts:List zI) (x:zQ) (p7:Option Addr) (c6:Nat) (aP:List Value) (p8:Option Addr) (c7:Nat) (aI:List Value) (p9:Option Addr) (c8:Nat),o0=(Arrays,Parts,x)/\aV.le I'/\(RL I' aP Arrays)/\(RL I' aI Parts)/\(S4 I' p9 x.b c8)/\af=[hB ar (cRd x p9 c8),hB b2 [vS p7 Arrays c6,vS p8 Parts c7],hO zE (vS p7 Arrays c6) aP,hO zI (vS p8 Parts c7) aI,hB b1 zTwo]/\m'=[(4,vP b1 0),(5,vP b2 0)]) ?_ ?_
 · have H:=iS aV;refine yG az ?_ ?_
   · intro hc N;obtain ⟨⟨y5,y6⟩,aG,N⟩:=zB N;obtain ⟨⟨y8,y9⟩,bc,N⟩:=zB N;obtain ⟨l,bu,N⟩:=zB N;refine wO [.p (vP b2 0) [],.p (vS p4 y.Arrays c3) [0],.p (vP ar 0) [],.x (fun I' v hx=>∃ b3,v=vS (some ⟨b3,0,none⟩) ([(⟨[65]⟩:Str),(⟨[68]⟩:Str),(⟨[69]⟩:Str)]:List Str) 3/\hx=[]/\(SL I' (vS (some ⟨b3,0,none⟩) ([(⟨[65]⟩:Str),(⟨[68]⟩:Str),(⟨[69]⟩:Str)]:List Str) 3) ([(⟨[65]⟩:Str),(⟨[68]⟩:Str),(⟨[69]⟩:Str)]:List Str))),.x (fun I' v hx=>∃ aQ c9,v=vT y5.l/\hx=[hB ar (cRd y6 aQ c9)]/\(S4 I' aQ y6.b c9)),.p (vP ar 0) [],.x (fun I' v hx=>∃ b4,v=vS (some ⟨b4,0,none⟩) ([7,0,3,(-1)]:List Int) 4/\hx=[]/\(SL I' (vS (some ⟨b4,0,none⟩) ([7,0,3,(-1)]:List Int) 4) ([7,0,3,(-1)]:List Int))),.x (fun I' v hx=>∃ aJ aM,v=vI y8/\hx=[hB ar (cRd y9 aJ aM)]/\(S4 I' aJ y9.b aM)),.x (fun I' v hx=>∃ b5,v=vS (some ⟨b5,0,none⟩) ([y8]:List Int) 1/\hx=[]/\(SL I' (vS (some ⟨b5,0,none⟩) ([y8]:List Int) 1) ([y8]:List Int))),.x (fun I' v hx=>∃ b51,v=vA [vT y5.l,vS (some ⟨b51,0,none⟩) ([y8]:List Int) 1]/\hx=[]/\(SL I' (vS (some ⟨b51,0,none⟩) ([y8]:List Int) 1) ([y8]:List Int))),.x (fun I' v hx=>∃ b6,v=vS (some ⟨b6,0,none⟩) ([(zE.mk y5 ([y8]:List Int))]:List zE) 1/\hx=[]/\(SL I' (vS (some ⟨b6,0,none⟩) ([(zE.mk y5 ([y8]:List Int))]:List zE) 1) ([(zE.mk y5 ([y8]:List Int))]:List zE))),.x (fun I' v hx=>∃ br aW bo,v=vS br l aW/\hx=[hO zE (vS br l aW) bo]/\(RL I' bo l))] [[],[(0,false)],[],[],[(2,false),(3,false),(14,true)],[],[],[(5,false),(6,false),(4,true)],[(7,false)],[(4,false),(8,false)],[(9,false)],[(1,false),(10,false),(15,true)]] [hB b2 (cProg y p4 c3 p5 c4),hO zI (vS p5 y.Parts c4) av,hB b1 zTwo] [[hB ar (cRd y3 p6 c5)],[hO zE (vS p4 y.Arrays c3) cs]] [(7,true),(11,true)] (zY [1,3,4,0,2]) ?_ ?_
     · refine O3<|Ox ?_<|Ox ?_<|Op<|Ox ?_<|Ox ?_<|Ox ?_<|Ox ?_<|Ox ?_<|Ox ?_<|On
       · intro I1 hf aa;refine I_h [] ?_;have H:=iS I1;refine mG (rT [(⟨[65]⟩:Str),(⟨[68]⟩:Str),(⟨[69]⟩:Str)]) ?_;intro b3 bD aK h12;have H:=H.trans aK;exact yL [] H ⟨_,rfl,rfl,h12⟩
       · rintro I1 hf aa _ _ ⟨rfl,rfl⟩ _ _ ⟨b3,rfl,rfl,h12⟩ _ _ rfl;refine yX [18,19] rfl ?_;have H:=iS I1;have h7:=h7.mono aa;refine rW (jP y3 ([(⟨[65]⟩:Str),(⟨[68]⟩:Str),(⟨[69]⟩:Str)]:List Str) _ aG h7 h12) rfl ?_;rintro bI aw v2 k2 aX - ⟨v02,kk1,rfl,rfl,rfl,h14⟩ -;have H:=H.trans aX;obtain ⟨aQ,c9,rfl,h15⟩:=yC h14;exact yL [hB ar (cRd y6 aQ c9)] H ⟨_,_,rfl,rfl,h15⟩
       · intro I1 hf aa;refine I_h [] ?_;have H:=iS I1;refine mG (rI [7,0,3,(-1)]) ?_;intro b4 I06 bf h17;have H:=H.trans bf;exact yL [] H ⟨_,rfl,rfl,h17⟩
       · rintro I1 hf aa _ _ ⟨rfl,rfl⟩ _ _ ⟨b4,rfl,rfl,h17⟩ _ _ ⟨aQ,c9,rfl,rfl,h15⟩;refine yX [21,22] rfl ?_;have H:=iS I1;refine rW (xS y6 ([7,0,3,(-1)]:List Int) _ bc h15 h17) rfl ?_;rintro I07 aw v2 k2 bt - ⟨v04,kk2,rfl,rfl,rfl,h19⟩ -;have H:=H.trans bt;obtain ⟨aJ,aM,rfl,h20⟩:=yC h19;exact yL [hB ar (cRd y9 aJ aM)] H ⟨_,_,rfl,rfl,h20⟩
       · rintro I1 hf aa _ _ ⟨aJ,aM,rfl,rfl,h20⟩;refine yX [23] rfl ?_;have H:=iS I1;refine mG (rI [y8]) ?_;intro b5 I08 le7 h22;have H:=H.trans le7;exact yL [] H ⟨_,rfl,rfl,h22⟩
       · rintro I1 hf aa _ _ ⟨aQ,c9,rfl,rfl,h15⟩ _ _ ⟨b5,rfl,rfl,h22⟩;exact yX [20,24] rfl<|pE 10 [(25,vA [vT y5.l,vS (some ⟨b5,0,none⟩) ([y8]:List Int) 1])]<|yL [] iR ⟨_,rfl,rfl,h22⟩
       · rintro I1 hf aa _ _ ⟨b51,rfl,rfl,h221⟩;refine yX [25] rfl ?_;have H:=iS I1;refine mG (rc (zE.mk y5 ([y8]:List Int)) (uI ⟨_,rfl,h221⟩) rN) ?_;intro b6 I09 le8 h24;have H:=H.trans le8;exact yL [] H ⟨_,rfl,rfl,h24⟩
       rintro I1 hf aa _ _ ⟨rfl,rfl⟩ _ _ ⟨b6,rfl,rfl,h24⟩ _ _ rfl;refine yX [17,26] rfl ?_;have h3:=iM aa h3;obtain ⟨aL,k0,k01⟩:=h24;have h24:SL I1 (vS (some ⟨b6,0,none⟩) ([(zE.mk y5 ([y8]:List Int))]:List zE) 1) ([(zE.mk y5 ([y8]:List Int))]:List zE):=⟨_,k0,k01⟩;exact rF 60 2 0 rfl rfl rfl h3 (.inl k0) k01 bu fun br aW bo h25=>wX (af:=(hO zE (vS br l aW) bo::hB b2 (cProg y p4 c3 p5 c4)::hO zI (vS p5 y.Parts c4) av::hB b1 zTwo::hf)) rfl<|yL [hO zE (vS br l aW) bo] iR ⟨_,_,_,rfl,rfl,h25⟩
     rintro bL le9 _ _ ⟨aJ,aM,rfl,rfl,h20⟩ _ _ ⟨br,aW,bo,rfl,rfl,h25⟩;refine yX [4,5,27] rfl ?_;have ⟨h4,H⟩:=m2 le9 h4 H;exact yE 13 [] [28] rfl<|yY 2 [vS br l aW,vS p5 y.Parts c4] rfl<|zX rfl<|wF (zW [1,2,0,3,4] rfl (by decide))<|yU<|zU ⟨_,_,_,_,_,_,_,_,_,_,_,(zD N).symm,H,h25,h4,h20,rfl,rfl⟩
   intro hc N;refine yH [29] rfl<|zK ?_;obtain ⟨aN,aC,hMc1⟩:=zB N;refine oW (fun I' af m'=>∃ (aq:List zE) (aR:List zI) (x1:zQ) (bh:Option Addr) (bd:Nat) (bv:List Value) (p14:Option Addr) (bj:Nat) (cs6:List Value) (p15:Option Addr) (c14:Nat),aN=(aq,aR,x1)/\aV.le I'/\(RL I' bv aq)/\(RL I' cs6 aR)/\(S4 I' p15 x1.b c14)/\af=[hB ar (cRd x1 p15 c14),hB b2 [vS bh aq bd,vS p14 aR bj],hO zE (vS bh aq bd) bv,hO zI (vS p14 aR bj) cs6,hB b1 zTwo]/\m'=[(4,vP b1 0),(5,vP b2 0)]) ?_ ?_
   · have H:=iS aV;refine yG aC ?_ ?_
     · intro aH N;refine yB<|yK [1] [34] rfl<|zK ?_;obtain ⟨o02,ho02,hMc2⟩:=zB N;refine oW (fun I' af m'=>∃ (Arrays2:List zE) (x2:zQ) (p16:Option Addr) (c15:Nat) (cs7:List Value) (p17:Option Addr) (c16:Nat),o02=(Arrays2,x2)/\aV.le I'/\(RL I' cs7 Arrays2)/\(S4 I' p17 x2.b c16)/\af=[hB ar (cRd x2 p17 c16),hB b2 [vS p16 Arrays2 c15,vS p5 y.Parts c4],hO zE (vS p16 Arrays2 c15) cs7,hO zI (vS p5 y.Parts c4) av,hB b1 zTwo]/\m'=[(4,vP b1 0),(5,vP b2 0)]) ?_ ?_
       · have H:=iS aV;refine yG ho02 ?_ ?_
         · intro aY N;obtain ⟨⟨y11,y12⟩,bz,N⟩:=zB N;refine wO [.p (vP b2 0) [],.p (vS p4 y.Arrays c3) [0],.p (vP ar 0) [],.x (fun I' v hx=>∃ b7,v=vS (some ⟨b7,0,none⟩) ([1,2,7]:List Int) 3/\hx=[]/\(SL I' (vS (some ⟨b7,0,none⟩) ([1,2,7]:List Int) 3) ([1,2,7]:List Int))),.x (fun I' v hx=>∃ p18 c17,v=vI y11/\hx=[hB ar (cRd y12 p18 c17)]/\(S4 I' p18 y12.b c17)),.x (fun I' v hx=>∃ b8,v=vS (some ⟨b8,0,none⟩) ([y11]:List Int) 1/\hx=[]/\(SL I' (vS (some ⟨b8,0,none⟩) ([y11]:List Int) 1) ([y11]:List Int)))] [[],[(0,false)],[],[],[(2,false),(3,false),(9,true)],[(4,false)]] [hB b2 (cProg y p4 c3 p5 c4),hO zE (vS p4 y.Arrays c3) cs,hO zI (vS p5 y.Parts c4) av,hB b1 zTwo] [[hB ar (cRd y3 p6 c5)]] [(1,false),(4,true),(5,false)] (zY [1,2,3,4,0]) ?_ ?_
           · refine O3<|Ox ?_<|Ox ?_<|Ox ?_<|On
             · intro I1 hf aa;refine I_h [] ?_;have H:=iS I1;refine mG (rI [1,2,7]) ?_;intro b7 I013 le10 h32;have H:=H.trans le10;exact yL [] H ⟨_,rfl,rfl,h32⟩
             · rintro I1 hf aa _ _ ⟨rfl,rfl⟩ _ _ ⟨b7,rfl,rfl,h32⟩ _ _ rfl;refine yX [37,38] rfl ?_;have H:=iS I1;have h7:=h7.mono aa;refine rW (xS y3 ([1,2,7]:List Int) _ bz h7 h32) rfl ?_;rintro I014 aw v2 k2 le11 - ⟨v06,kk3,rfl,rfl,rfl,h34⟩ -;have H:=H.trans le11;obtain ⟨p18,c17,rfl,h35⟩:=yC h34;exact yL [hB ar (cRd y12 p18 c17)] H ⟨_,_,rfl,rfl,h35⟩
             rintro I1 hf aa _ _ ⟨p18,c17,rfl,rfl,h35⟩;refine yX [39] rfl ?_;have H:=iS I1;refine mG (rI [y11]) ?_;intro b8 I015 le12 h37;have H:=H.trans le12;exact yL [] H ⟨_,rfl,rfl,h37⟩
           rintro I016 le13 _ _ ⟨rfl,rfl⟩ _ _ ⟨p18,c17,rfl,rfl,h35⟩ _ _ ⟨b8,rfl,rfl,h37⟩;refine yX [4,5,36,40] rfl ?_;have ⟨h3,H⟩:=m2 le13 h3 H;obtain ⟨x3,hy6,N⟩:=zB N;refine mA 2 rfl rfl rfl h3 hy6 ?_;intro ad bm au bG aj;obtain ⟨p19,c18,rfl,h38⟩:=xP aj;refine yE 8 [] [42] rfl ?_;obtain ⟨l1,hy7,N⟩:=zB N;refine zKu (c:=[vT x3.Name.l,vS (some ⟨b8,0,none⟩) ([y11]:List Int) 1]) 2 1 au bG h3 hy6 hy7 (uI ⟨_,rfl,h37⟩) ?_;intro cs8 h39 hl07;exact zBZ (m':=[(4,vP b1 0),(5,vP b2 0),(40,vS (some ⟨b8,0,none⟩) ([y11]:List Int) 1)]) ⟨rfl,rfl,rfl,trivial⟩<|zKI (af:=[hB ar (cRd y12 p18 c17),hB b2 [vS p4 l1 c3,vS p5 y.Parts c4],hO zE (vS p4 l1 c3) cs8,hO zI (vS p5 y.Parts c4) av,hB b1 zTwo]) (m':=[(4,vP b1 0),(5,vP b2 0),(40,vS (some ⟨b8,0,none⟩) ([y11]:List Int) 1)]) (by first | rfl | simp only [vS,hl07,cx,dv,fa,en,eu,ev]) (by first | rfl | simp only [vS,hl07])<|zX rfl<|yU<|zU ⟨_,_,_,_,_,_,_,(zD N).symm,H,h39,h35,rfl,rfl⟩
         intro aY N;exact zS<|yU<|zU ⟨_,_,_,_,_,_,_,(zD N).symm,H,h3,h7,rfl,rfl⟩
       rintro bO aw m2 ⟨Arrays2,x2,p16,c15,cs7,p17,c16,heq,le14,h29,h30,rfl,rfl⟩;subst o02;have ⟨h4,H⟩:=m2 le14 h4 H;exact yU<|zU ⟨_,_,_,_,_,_,_,_,_,_,_,(zD hMc2).symm,H,h29,h4,h30,rfl,rfl⟩
     intro aH N;refine yH [43] rfl<|zK ?_;obtain ⟨o03,ho03,hMc3⟩:=zB N;refine oW (fun I' af m'=>∃ (Parts2:List zI) (x4:zQ) (p20:Option Addr) (c19:Nat) (cs9:List Value) (p21:Option Addr) (c20:Nat),o03=(Parts2,x4)/\aV.le I'/\(RL I' cs9 Parts2)/\(S4 I' p21 x4.b c20)/\af=[hB ar (cRd x4 p21 c20),hB b2 [vS p4 y.Arrays c3,vS p20 Parts2 c19],hO zE (vS p4 y.Arrays c3) cs,hO zI (vS p20 Parts2 c19) cs9,hB b1 zTwo]/\m'=[(4,vP b1 0),(5,vP b2 0)]) ?_ ?_
     · have H:=iS aV;refine yG ho03 ?_ ?_
       · intro bC N;refine yH [46] rfl<|zK ?_;obtain ⟨o04,ho04,hMc4⟩:=zB N;refine oW (fun I' af m'=>∃ (Parts3:List zI) (x5:zQ) (p22:Option Addr) (c21:Nat) (cs10:List Value) (p23:Option Addr) (c22:Nat),o04=(Parts3,x5)/\aV.le I'/\(RL I' cs10 Parts3)/\(S4 I' p23 x5.b c22)/\af=[hB ar (cRd x5 p23 c22),hB b2 [vS p4 y.Arrays c3,vS p22 Parts3 c21],hO zE (vS p4 y.Arrays c3) cs,hO zI (vS p22 Parts3 c21) cs10,hB b1 zTwo]/\m'=[(4,vP b1 0),(5,vP b2 0)]) ?_ ?_
         · have H:=iS aV;refine yG ho04 ?_ ?_
           · intro bJ N;obtain ⟨x6,hy8,N⟩:=zB N;obtain ⟨⟨y14,y15⟩,hy9,N⟩:=zB N;obtain ⟨⟨y17,y18⟩,hy10,N⟩:=zB N;obtain ⟨⟨y20,y21⟩,hy11,N⟩:=zB N;refine wO [.p (vP b2 1) [],.p (vS p5 y.Parts c4) [0],.p (vP ar 0) [],.p (vP ar 0) [],.p (vP ar 0) [],.p (vP b2 1) [],.p (vS p5 y.Parts c4) [0],.x (fun I' v hx=>∃ ad1 p24 c23 p25 c24,v=.pointer (some ad1)/\hx=[]/\(AtO (vS p5 y.Parts c4) (Rp.sz zI) (0:Int).toNat ad1)/\((av.drop ((0:Int).toNat*Rp.sz zI)).take (Rp.sz zI)=(cPart x6 p24 c23 p25 c24))/\(S4 I' p24 x6.Nest c23)/\(S4 I' p25 x6.Body c24)),.x (fun I' v hx=>∃ ad11 p241 c231 p251 c241,v=.pointer (some ad11)/\hx=[]/\(AtO (vS p5 y.Parts c4) (Rp.sz zI) (0:Int).toNat ad11)/\((av.drop ((0:Int).toNat*Rp.sz zI)).take (Rp.sz zI)=(cPart x6 p241 c231 p251 c241))/\(S4 I' p241 x6.Nest c231)/\(S4 I' p251 x6.Body c241)),.x (eS x6.Nest),.x (fun I' v hx=>∃ p26 c25 p27 c26,v=vS p26 y14 c25/\hx=[hB ar (cRd y15 p27 c26)]/\(S4 I' p26 y14 c25)/\(S4 I' p27 y15.b c26)),.x (fun I' v hx=>∃ p28 c27 p29 c28,v=vS p28 y17 c27/\hx=[hB ar (cRd y18 p29 c28)]/\(S4 I' p28 y17 c27)/\(S4 I' p29 y18.b c28)),.x (fun I' v hx=>∃ p30 c29 p31 c30,v=vS p30 y20 c29/\hx=[hB ar (cRd y21 p31 c30)]/\(S4 I' p30 y20 c29)/\(S4 I' p31 y21.b c30))] [[],[(0,false)],[],[],[],[],[(5,false)],[(6,false)],[(7,false)],[(8,false)],[(4,false),(9,false),(16,true)],[(3,false),(10,true)],[(2,false),(11,true)]] [hB b2 (cProg y p4 c3 p5 c4),hO zE (vS p4 y.Arrays c3) cs,hO zI (vS p5 y.Parts c4) av,hB b1 zTwo] [[hB ar (cRd y3 p6 c5)]] [(1,false),(12,true)] (zY [1,2,3,4,0]) ?_ ?_
             · refine O4<|O3<|Ox ?_<|Ox ?_<|Ox ?_<|Ox ?_<|Ox ?_<|Ox ?_<|On
               · intro I1 hf aa;refine yX [53] rfl ?_;have h4:=iM aa h4;refine mA 2 rfl rfl rfl h4 hy8 ?_;intro ad1 bK bk hcc1 ax;obtain ⟨p24,c23,p25,c24,rfl,h44,h45⟩:=wJ ax;exact yL [] iR ⟨_,_,_,_,_,rfl,rfl,bk,hcc1,h44,h45⟩
               · rintro I1 hf aa _ _ ⟨ad1,p24,c23,p25,c24,rfl,rfl,bk,hcc1,h44,h45⟩;exact yX [54] rfl<|pE 9 [(55,.pointer (some ad1))]<|yL [] iR ⟨_,_,_,_,_,rfl,rfl,bk,hcc1,h44,h45⟩
               · rintro I1 hf aa _ _ ⟨ad11,p241,c231,p251,c241,rfl,rfl,hat21,hcc11,h441,h451⟩;exact yX [55] rfl<|zCR 2 0 hat21 hcc11 [vS p241 x6.Nest c231] (vS p241 x6.Nest c231) rfl rfl<|yL [] iR ⟨_,_,rfl,rfl,h441⟩
               · rintro I1 hf aa _ _ ⟨rfl,rfl⟩ _ _ ⟨p2411,c2311,rfl,rfl,h4411⟩ _ _ rfl;refine yX [51,56] rfl ?_;have H:=iS I1;have h7:=h7.mono aa;refine rW (zAr y3 x6.Nest _ hy9 h7 h4411) rfl ?_;rintro I019 aw v2 k2 le15 - ⟨v011,kk4,rfl,rfl,h46,h47⟩ -;have H:=H.trans le15;obtain ⟨p26,c25,rfl⟩:=h46.form;obtain ⟨p27,c26,rfl,h48⟩:=yC h47;exact yL [hB ar (cRd y15 p27 c26)] H ⟨_,_,_,_,rfl,rfl,h46,h48⟩
               · rintro I1 hf aa _ _ ⟨rfl,rfl⟩ _ _ ⟨p26,c25,p27,c26,rfl,rfl,h46,h48⟩;refine yX [50,57] rfl ?_;have H:=iS I1;refine rW (zAr y15 y14 _ hy10 h48 h46) rfl ?_;rintro I020 aw v2 k2 le16 - ⟨v013,kk5,rfl,rfl,h49,h50⟩ -;have H:=H.trans le16;obtain ⟨p28,c27,rfl⟩:=h49.form;obtain ⟨p29,c28,rfl,h51⟩:=yC h50;exact yL [hB ar (cRd y18 p29 c28)] H ⟨_,_,_,_,rfl,rfl,h49,h51⟩
               rintro I1 hf aa _ _ ⟨rfl,rfl⟩ _ _ ⟨p28,c27,p29,c28,rfl,rfl,h49,h51⟩;refine yX [49,58] rfl ?_;have H:=iS I1;refine rW (zAr y18 y17 _ hy11 h51 h49) rfl ?_;rintro I021 aw v2 k2 le17 - ⟨v015,kk6,rfl,rfl,h52,h53⟩ -;have H:=H.trans le17;obtain ⟨p30,c29,rfl⟩:=h52.form;obtain ⟨p31,c30,rfl,h54⟩:=yC h53;exact yL [hB ar (cRd y21 p31 c30)] H ⟨_,_,_,_,rfl,rfl,h52,h54⟩
             rintro I022 le18 _ _ ⟨rfl,rfl⟩ _ _ ⟨p30,c29,p31,c30,rfl,rfl,h52,h54⟩;refine yX [4,5,48,59] rfl ?_;have ⟨h4,H⟩:=m2 le18 h4 H;obtain ⟨x7,hy12,N⟩:=zB N;refine mA 3 rfl rfl rfl h4 hy12 ?_;intro ad2 ccs3 hat3 hcc2 bq;obtain ⟨p32,c31,p33,c32,rfl,h55,h56⟩:=wJ bq;refine yE 15 [] [61] rfl ?_;obtain ⟨l2,hy13,N⟩:=zB N;refine zKu (c:=[vS p30 y20 c29,vS p33 x7.Body c32]) 3 0 hat3 hcc2 h4 hy12 hy13 (uL ⟨_,_,rfl,h52,h56⟩) ?_;intro cs11 h57 hl08;exact zBZ (m':=[(4,vP b1 0),(5,vP b2 0),(59,vS p30 y20 c29)]) ⟨rfl,rfl,rfl,trivial⟩<|zKI (af:=[hB ar (cRd y21 p31 c30),hB b2 [vS p4 y.Arrays c3,vS p5 l2 c4],hO zE (vS p4 y.Arrays c3) cs,hO zI (vS p5 l2 c4) cs11,hB b1 zTwo]) (m':=[(4,vP b1 0),(5,vP b2 0),(59,vS p30 y20 c29)]) (by first | rfl | simp only [vS,hl08,cx,dv,fa,en,eu,ev]) (by first | rfl | simp only [vS,hl08])<|zX rfl<|yU<|zU ⟨_,_,_,_,_,_,_,(zD N).symm,H,h57,h54,rfl,rfl⟩
           intro bJ N;exact zS<|yU<|zU ⟨_,_,_,_,_,_,_,(zD N).symm,H,h4,h7,rfl,rfl⟩
         rintro I018 aw m2 ⟨Parts3,x5,p22,c21,cs10,p23,c22,heq1,le19,h42,h43,rfl,rfl⟩;subst o04;have H:=H.trans le19;exact yU<|zU ⟨_,_,_,_,_,_,_,(zD hMc4).symm,H,h42,h43,rfl,rfl⟩
       intro bC N;refine yH [62] rfl<|zK ?_;obtain ⟨o05,ho05,hMc5⟩:=zB N;refine oW (fun I' af m'=>∃ (Parts4:List zI) (x8:zQ) (p34:Option Addr) (c33:Nat) (cs12:List Value) (p35:Option Addr) (c34:Nat),o05=(Parts4,x8)/\aV.le I'/\(RL I' cs12 Parts4)/\(S4 I' p35 x8.b c34)/\af=[hB ar (cRd x8 p35 c34),hB b2 [vS p4 y.Arrays c3,vS p34 Parts4 c33],hO zE (vS p4 y.Arrays c3) cs,hO zI (vS p34 Parts4 c33) cs12,hB b1 zTwo]/\m'=[(4,vP b1 0),(5,vP b2 0)]) ?_ ?_
       · have H:=iS aV;refine yG ho05 ?_ ?_
         · intro hc5 N;refine yA ?_;refine wZ N [hB ar (cRd y3 p6 c5),hB b2 (cProg y p4 c3 p5 c4),hO zE (vS p4 y.Arrays c3) cs,hO zI (vS p5 y.Parts c4) av,hB b1 zTwo] (fun t76=>[(0,vP ar 0),(4,vP b1 0),(5,vP b2 0),(6,vI (y.Parts.length:Int)),(76,.bool t76)]) (fun o06 ho06=>?_) ?_
           · have H:=iS aV;refine zM<|yE 3 [] [66] rfl<|wL [66] ho06 ?_ ?_
             · intro hc6 N;refine yE 7 [1] [68,70] rfl<|bE N fun x9 hy14 N=>mA 3 rfl rfl rfl h4 hy14 ?_;intro ad3 ccs4 hat4 hcc3 bB;obtain ⟨p36,c35,p37,c36,rfl,h60,h61⟩:=wJ bB;exact yE 9 [] [72] rfl<|zCR 3 1 hat4 hcc3 [vS p37 x9.Body c36] (vS p37 x9.Body c36) rfl rfl<|yK [] [76] rfl<|yU<|zU (ct N H)
             intro hc6 N;exact wR [] [(76,vF)]<|yU<|zU (ct N H)
           intro t76 I024 le20 hMc6;have ⟨h7,h4,H⟩:=m3 le20 h7 h4 H;refine zK ?_;obtain ⟨o07,ho07,hMc7⟩:=zB hMc6;refine oW (fun I' af m'=>∃ (Parts5:List zI) (x10:zQ) (p38:Option Addr) (c37:Nat) (cs13:List Value) (p39:Option Addr) (c38:Nat),o07=(Parts5,x10)/\I024.le I'/\(RL I' cs13 Parts5)/\(S4 I' p39 x10.b c38)/\af=[hB ar (cRd x10 p39 c38),hB b2 [vS p4 y.Arrays c3,vS p38 Parts5 c37],hO zE (vS p4 y.Arrays c3) cs,hO zI (vS p38 Parts5 c37) cs13,hB b1 zTwo]/\m'=[(4,vP b1 0),(5,vP b2 0)]) ?_ ?_
           · have H:=iS I024;refine yG ho07 ?_ ?_
             · intro hc7 N;obtain ⟨x11,hy15,N⟩:=zB N;obtain ⟨x12,hy16,N⟩:=zB N;obtain ⟨⟨y22,y23⟩,hy17,N⟩:=zB N;obtain ⟨⟨y24,y25⟩,hy18,N⟩:=zB N;obtain ⟨⟨y26,y27⟩,hy19,N⟩:=zB N;obtain ⟨l3,hy20,N⟩:=zB N;have hF:False:=hne _ _ _ _ _ (by assumption) (by assumption) (by assumption) hy15 hy16;obtain ⟨p40,c39,cs14,p41,c40,h64,h65⟩:∃ p40 c39 cs14 p41 c40,(RL I024 cs14 l3)/\(S4 I024 p41 y27.b c40):=hF.elim;exact zNn hF (am:=I024) (af:=[hB ar (cRd y27 p41 c40),hB b2 [vS p4 y.Arrays c3,vS p40 l3 c39],hO zE (vS p4 y.Arrays c3) cs,hO zI (vS p40 l3 c39) cs14,hB b1 zTwo]) (m':=[(0,vP ar 0),(4,vP b1 0),(5,vP b2 0),(6,vI (y.Parts.length:Int)),(76,.bool t76)])<|yU<|zU ⟨_,_,_,_,_,_,_,(zD N).symm,H,h64,h65,rfl,rfl⟩
             intro hc7 N;exact zS<|yU<|zU ⟨_,_,_,_,_,_,_,(zD N).symm,H,h4,h7,rfl,rfl⟩
           rintro I025 aw m2 ⟨Parts5,x10,p38,c37,cs13,p39,c38,heq3,le21,h62,h63,rfl,rfl⟩;subst o07;have H:=H.trans le21;exact yU<|zU ⟨_,_,_,_,_,_,_,(zD hMc7).symm,H,h62,h63,rfl,rfl⟩
         intro hc5 N;refine yH [100] rfl<|zK ?_;obtain ⟨o08,ho08,hMc8⟩:=zB N;refine oW (fun I' af m'=>∃ (Parts6:List zI) (p42:Option Addr) (c41:Nat) (cs15:List Value),o08=Parts6/\aV.le I'/\(RL I' cs15 Parts6)/\af=[hB ar (cRd y3 p6 c5),hB b2 [vS p4 y.Arrays c3,vS p42 Parts6 c41],hO zE (vS p4 y.Arrays c3) cs,hO zI (vS p42 Parts6 c41) cs15,hB b1 zTwo]/\m'=[(4,vP b1 0),(5,vP b2 0)]) ?_ ?_
         · have H:=iS aV;refine yG ho08 ?_ ?_
           · intro hc8 N;refine yH [103] rfl<|zK ?_;obtain ⟨o09,ho09,hMc9⟩:=zB N;refine oW (fun I' af m'=>∃ (Parts7:List zI) (p43:Option Addr) (c42:Nat) (cs16:List Value),o09=Parts7/\aV.le I'/\(RL I' cs16 Parts7)/\af=[hB ar (cRd y3 p6 c5),hB b2 [vS p4 y.Arrays c3,vS p43 Parts7 c42],hO zE (vS p4 y.Arrays c3) cs,hO zI (vS p43 Parts7 c42) cs16,hB b1 zTwo]/\m'=[(4,vP b1 0),(5,vP b2 0)]) ?_ ?_
             · have H:=iS aV;refine yG ho09 ?_ ?_
               · intro hc9 N;refine zM<|yE 4 [1] [105,107] rfl<|bE N fun x13 hy21 N=>mA 3 rfl rfl rfl h4 hy21 ?_;intro ad4 ccs5 hat5 hcc4 hrep4;obtain ⟨p44,c43,p45,c44,rfl,h68,h69⟩:=wJ hrep4;refine yE 6 [] [109] rfl ?_;obtain ⟨l4,hy22,N⟩:=zB N;refine zKu (c:=[vS p44 x13.Nest c43,z0]) 3 1 hat5 hcc4 h4 hy21 hy22 (uL ⟨_,_,rfl,h68,(SL.nil _)⟩) ?_;intro cs17 h70 hl09;exact zBZ (m':=[(4,vP b1 0),(5,vP b2 0)]) ⟨rfl,rfl,trivial⟩<|zKI (af:=[hB ar (cRd y3 p6 c5),hB b2 [vS p4 y.Arrays c3,vS p5 l4 c4],hO zE (vS p4 y.Arrays c3) cs,hO zI (vS p5 l4 c4) cs17,hB b1 zTwo]) (m':=[(4,vP b1 0),(5,vP b2 0)]) (by first | rfl | simp only [vS,hl09,cx,dv,fa,en,eu,ev]) (by first | rfl | simp only [vS,hl09])<|zX rfl<|yU<|zU ⟨_,_,_,_,(zD N).symm,H,h70,rfl,rfl⟩
               intro hc9 N;exact zS<|yU<|zU ⟨_,_,_,_,(zD N).symm,H,h4,rfl,rfl⟩
             rintro I027 aw m2 ⟨Parts7,p43,c42,cs16,heq4,le22,h67,rfl,rfl⟩;subst o09;have H:=H.trans le22;exact yU<|zU ⟨_,_,_,_,(zD hMc9).symm,H,h67,rfl,rfl⟩
           intro hc8 N;exact zS<|yU<|zU ⟨_,_,_,_,(zD N).symm,H,h4,rfl,rfl⟩
         rintro I026 aw m2 ⟨Parts6,p42,c41,cs15,heq5,le23,h66,rfl,rfl⟩;subst o08;have ⟨h7,H⟩:=m2 le23 h7 H;exact yU<|zU ⟨_,_,_,_,_,_,_,(zD hMc8).symm,H,h66,h7,rfl,rfl⟩
       rintro I023 aw m2 ⟨Parts4,x8,p34,c33,cs12,p35,c34,heq6,le24,h58,h59,rfl,rfl⟩;subst o05;have H:=H.trans le24;exact yU<|zU ⟨_,_,_,_,_,_,_,(zD hMc5).symm,H,h58,h59,rfl,rfl⟩
     rintro I017 aw m2 ⟨Parts2,x4,p20,c19,cs9,p21,c20,heq7,le25,h40,h41,rfl,rfl⟩;subst o03;have ⟨h3,H⟩:=m2 le25 h3 H;exact yU<|zU ⟨_,_,_,_,_,_,_,_,_,_,_,(zD hMc3).symm,H,h3,h40,h41,rfl,rfl⟩
   rintro bR aw m2 ⟨aq,aR,x1,bh,bd,bv,p14,bj,cs6,p15,c14,heq8,le26,h26,h27,h28,rfl,rfl⟩;subst aN;have H:=H.trans le26;exact yU<|zU ⟨_,_,_,_,_,_,_,_,_,_,_,(zD hMc1).symm,H,h26,h27,h28,rfl,rfl⟩
 rintro bx aw m2 ⟨Arrays,Parts,x,p7,c6,aP,p8,c7,aI,p9,c8,aS,le27,h8,h9,h10,rfl,rfl⟩;subst o0;refine zO<|yW<|tL 1 [1] [(110,vA [vS p7 Arrays c6,vS p8 Parts c7])]<|yY 4 [vS p7 Arrays c6,vS p8 Parts c7] rfl<|zX rfl<|xF<|xB 2 rfl ?_;intro I028 le28 hl010;have h71:=SL.of_frozen hl010 le28 h8;have ⟨h10,h9⟩:=m2 le28 h10 h9;refine xB 2 rfl ?_;intro I029 le29 hl011;have h72:=SL.of_frozen hl011 le29 h9;have ⟨h10,h71⟩:=m2 le29 h10 h71;exact xO aT (resC 2 rfl rfl) (zW [0] rfl (by decide)) ⟨_,_,rfl,rfl,⟨_,rfl,(xY ⟨_,_,rfl,h71,h72⟩)⟩,(yZ ⟨_,rfl,h10⟩)⟩
theorem zFG (p:zC):∀ (i1:Int) (Parts:List zI) (o:List zI),sF p i1 Parts=some o->∀ {B}{I0 I:Imm}{Q}{aq:List zE}{p1 c p2 c1}{b b1 b2}{p4 c3 av p9 c8 bo}{ak:List Raw2}{pN pB:Option Addr}{cN cB:Nat}{nl:List zF}{bl:List zL}{csB:List Value},I0.le I->(RL I av aq)->(S4 I p1 p.Arrays c)->(S4 I p2 p.Parts c1)->(RL I bo ak)->LP I ak Parts (vS pN nl cN) nl (vS pB bl cB) bl->SL I (vS pN nl cN) nl->RL I csB bl->(∀ l a w,¬Q (.goto l) a w)->(∀ a w,¬Q .outgrown a w)->(∀ (I':Imm) (aQ:Option Addr) (c9:Nat) (bv:List Value) (raws1:List Raw2) (pN pB:Option Addr) (cN cB:Nat) (nl:List zF) (bl:List zL) (csB:List Value),I0.le I'->(RL I' bv raws1)->LP I' raws1 o (vS pN nl cN) nl (vS pB bl cB) bl->SL I' (vS pN nl cN) nl->RL I' csB bl->T 84 B Q (.exit 2) I' [hO zL (vS pB bl cB) csB,hO Raw2 (vS aQ raws1 c9) bv,hO zE (vS p4 aq c3) av,hB b2 [vS p4 aq c3,vS aQ raws1 c9],hB b1 zTwo] [(2,vP b1 0),(3,vP b2 0)])->J Tryz.prog 84 B (nav (bodyOf f34) [1,1,1,0,1,0]) Q I [hO zL (vS pB bl cB) csB,hO Raw2 (vS p9 ak c8) bo,hO zE (vS p4 aq c3) av,hB b2 [vS p4 aq c3,vS p9 ak c8],hB b1 zTwo,hB b (cProg p p1 c p2 c1)] [(1,vP b 0),(2,vP b1 0),(3,vP b2 0),(5,vI i1)]:=by
 refine sF.partial_correctness p _ fun aE ih i1 Parts o N B I0 I Q aq p1 c p2 c1 b b1 b2 p4 c3 av p9 c8 bo ak pN pB cN cB nl bl csB H h4 h h1 hRw hLP hN hBd hg ho hx=>yQ hg ho<|yA<|yB<|yK [5] [40] rfl<|zK<|yG N ?_ ?_
 · intro aH N;refine pD 0 rfl ?_;intro immf lef hlf;have kB:=SL.of_frozen hlf lef hBd;have ⟨h4,h,h1,hN,hRw,hLP⟩:=m6 lef h4 h h1 hN hRw hLP;have H:=H.trans lef;have h14:=hLP.done hN kB;rw [<- fR hRw] at h14;have eP:vS p9 ak c8=vS p9 Parts c8:=by simp only [vS,hLP.2.1]
   rw [eP];clear hBd hlf;refine zS<|zZ<|yF<|yB<|yE 3 [4] [44,45] rfl<|bE N fun x2 bu N=>xR rfl rfl h1 bu ?_;intro ad3 ccs4 hat3 bq;obtain ⟨aJ,aM,br,aW,rfl,h16,h17⟩:=wJ bq;refine yE 5 [] [47] rfl<|xH 0 hat3 [vS aJ x2.Nest aM] (vS aJ x2.Nest aM) rfl<|bE N fun y bz N=>xE (zDt x2.Nest _ bz h16) ?_;rintro bD aw v2 k2 aX - ⟨v04,rfl,rfl,h18⟩ -;have ⟨h14,hRw,hLP,hN⟩:=m4 aX h14 hRw hLP hN;replace kB:=kB.mono aX;have ⟨h4,h,h1,H⟩:=m4 aX h4 h h1 H;obtain ⟨bh,bd,rfl⟩:=h18.form;refine yE 8 [] [50] rfl<|xU zTwo ?_;intro b5 hb5;refine yY 0 [vS bh y bd,z0] rfl<|zX rfl<|zZ<|yH [7] rfl<|wI<|qR [(1,vP b 0),(2,vP b1 0),(3,vP b2 0),(5,vI i1),(6,vP b5 0),(7,vI 0)]<|zA6 zL fun h19=>?_;obtain ⟨aN,aC,hMl1⟩:=zB N;refine zCC p i1 0 ([]:List zL) aN aC iR h18 h14 h4 h h1 h19 (fun _ _ _ h=>hg _ _ _ h) (fun _ _ h=>ho _ _ h) ?_;intro bL aZ p15 c14 cs7 heq1 le10 h21;subst aN;have ⟨h18,hRw,hLP,hN⟩:=m4 le10 h18 hRw hLP hN;replace kB:=kB.mono le10;have ⟨h4,h,h1,H⟩:=m4 le10 h4 h h1 H;obtain ⟨l3,hy11,N⟩:=zB hMl1;have hy12:=zFq (l':=ak) (m':=[(⟨vS bh y bd,vS p15 aZ c14⟩:Raw2)]) hy11 hLP.2.1 rfl;have h40:RL bL [vS bh y bd,vS p15 aZ c14] [(⟨vS bh y bd,vS p15 aZ c14⟩:Raw2)]:=⟨[vS bh y bd,vS p15 aZ c14],[],rfl,rfl,⟨rfl,rfl,rfl⟩,rfl⟩;refine zR<|zK<|zM<|tL 3 [4,1] [(78,vS p9 Parts c8),(79,vA [vS bh y bd,vS p15 aZ c14])]<|uV [vS bh y bd,vS p15 aZ c14] Raw2 ?_;intro b7 hb7;refine rF (α:=Raw2) 85 2 3 rfl rfl rfl hRw (.inr ⟨0,rfl⟩) h40 hy12 ?_;intro p29 c28 cs11 h41;exact tX (zY [1,3,4,5,6,7] (af:=[hO zL (vS p15 aZ c14) cs7,hO Raw2 (vS p29 (ak++[(⟨vS bh y bd,vS p15 aZ c14⟩:Raw2)]) c28) cs11,hO zE (vS p4 aq c3) av,hB b2 [vS p4 aq c3,vS p9 Parts c8],hB b1 zTwo,hB b (cProg p p1 c p2 c1)]))<|yE 6 [] [82] rfl<|yY 3 [vS p4 aq c3,vS p29 (ak++[(⟨vS bh y bd,vS p15 aZ c14⟩:Raw2)]) c28] rfl<|zX rfl<|zO<|zK<|zM<|yK [] [5] rfl<|yP<|oT<|ih (W (i1+1)) l3 _ N H h4 h h1 h41 (hLP.push hN kB hy11) h18 h21 hg ho hx
 intro aH N;have:=zD N;simp only [id] at this;subst this;exact wP<|wF (zW [0,1,2,3,4] rfl (by decide))<|yU<|hx _ _ _ _ _ _ _ _ _ _ _ _ H hRw hLP hN hBd
def zFx (r:zC):KT:=fun kk I' af v=>
  ∃ (a0:Option Addr) (c0:Nat) (s0:List Value) (a1:Option Addr) (c1:Nat) (s1:List Value) (ak:List Raw2) (pN pB:Option Addr) (cN cB:Nat) (nl:List zF) (bl:List zL) (csB:List Value),af=[hO zL (vS pB bl cB) csB,hO Raw2 (vS a1 ak c1) s1,hO zE (vS a0 r.Arrays c0) s0]/\v=tupV [vA [vS a0 r.Arrays c0,vS a1 ak c1]]/\RL I' s0 r.Arrays/\RL I' s1 ak/\LP I' ak r.Parts (vS pN nl cN) nl (vS pB bl cB) bl/\SL I' (vS pN nl cN) nl/\RL I' csB bl
theorem zH6:∀ (p:zC) r,rL p=some r->∀ {I:Imm}{p1 c p2 c1},(S4 I p1 p.Arrays c)->(S4 I p2 p.Parts c1)->RT 34 [vA (cProg p p1 c p2 c1)] I [] (zFx r):=by
 intro p r N I p1 c p2 c1 h h1;unfold rL at N;refine yI func34 fun B=>yB<|vJ (cProg p p1 c p2 c1) ?_;intro b hb;refine xU zTwo ?_;intro b1 hb1;refine zX rfl<|yW<|yE 1 [] [8] rfl<|xU zTwo ?_;intro b2 hb2;refine dE 0 zTwo [hB b2 zTwo,hB b1 zTwo,hB b (cProg p p1 c p2 c1)] rfl rfl rfl rfl<|zX rfl<|zZ<|yH [4] rfl<|wI<|qR [(1,vP b 0),(2,vP b1 0),(3,vP b2 0),(4,vI 0)]<|zA6 zE fun h2=>?_;obtain ⟨o0,az,aF⟩:=zB N;refine zCB p 0 ([]:List zE) o0 az iR h h1 h2 nG nO ?_;intro bx aq p4 c3 av heq aK h4;subst o0;have ⟨h,h1⟩:=m2 aK h h1;refine zR<|zZ<|yH [5] rfl<|wI<|qR [(1,vP b 0),(2,vP b1 0),(3,vP b2 0),(5,vI 0)]<|pU (fN (Rp.sz Raw2))<|pU (fN (Rp.sz zL)) ?_;obtain ⟨o02,ho02,hMl2⟩:=zB aF;refine zFG p 0 ([]:List zI) o02 ho02 (ak:=[]) (pN:=none) (pB:=none) (cN:=0) (cB:=0) (nl:=[]) (bl:=[]) iR h4 h h1 RepL.nil LP.nil (SL.nil _) RepL.nil nG nO ?_;intro bO aQ c9 bv raws1 pN pB cN cB nl bl csB le12 hRw hLP hN hBd;have h4:=iM le12 h4;obtain rfl:=zD hMl2;exact zR<|yW<|tL 1 [3] [(83,vA [vS p4 aq c3,vS aQ raws1 c9])]<|yY 4 [vS p4 aq c3,vS aQ raws1 c9] rfl<|zX rfl<|xF<|zJO (resC 4 rfl rfl) (zW [0,1,2] rfl (by decide)) ⟨_,_,_,_,_,_,_,_,_,_,_,_,_,_,rfl,rfl,h4,hRw,hLP,hN,hBd⟩
theorem zNu {ak:List Raw2}{k}{r:Raw2} (h:ak[k]?=some r):ak.set k r=ak:=by
  obtain ⟨hk,e⟩:=ci.1 h;subst e;exact List.set_getElem_self hk
theorem zFy (r0:zQ) (p1:zC) (r:zC×zQ) (N:mB r0 p1=some r) {y:zC}{y3:zQ}{x:zI}{s:zL} (hy:rL p1=some y) (ay:xG r0 60=some (3,y3)) (hx:idx y.Parts (W ((y.Parts.length:Int) - 1))=some x) (hs:idx x.Body 0=some s) :
    ∀ {I:Imm}{ar}{p c p2 c1 p3 c2},(S4 I p r0.b c)->(S4 I p2 p1.Arrays c1)->(S4 I p3 p1.Parts c2)->RT 49 [vP ar 0,vA (cProg p1 p2 c1 p3 c2)] I [hB ar (cRd r0 p c)] (zA7 ar r):=by
 intro I ar p c p2 c1' p3 c2 h h1 h2
 obtain ⟨i0,i1,i2⟩:=rE hx
 obtain ⟨j0,j1,j2⟩:=rE hs
 have hn:(y.Parts.length:Int)>0:=by
   have:=(ci.1 i2).1; omega
 have hb:(x.Body.length:Int)>0:=by
   have:=(ci.1 j2).1; omega
 have e0:((3:Int)==0)=false:=rfl
 have e1:((3:Int)==1)=false:=rfl
 have e2:((3:Int)==2)=false:=rfl
 have e3:((3:Int)==3)=true:=rfl
 unfold mB at N
 simp only [hy,ay,e0,e1,e2,e3,hn,hb,hx,hs,decide_true,if_true,cW,if_false,Option.pure_def,Option.bind_eq_bind,Option.bind_some] at N
 cases hm1:qO y3 s with
 | none=>rw [hm1] at N; cases N
 | some q1 =>
 obtain ⟨y22,y23⟩:=q1
 simp only [hm1,Option.bind_some] at N
 cases hm2:qO y23 y22 with
 | none=>rw [hm2] at N; cases N
 | some q2 =>
 obtain ⟨y24,y25⟩:=q2
 simp only [hm2,Option.bind_some] at N
 cases hm3:qO y25 y24 with
 | none=>rw [hm3] at N; cases N
 | some q3 =>
 obtain ⟨y26,y27⟩:=q3
 simp only [hm3,Option.bind_some,Option.some.injEq] at N
 subst N
 refine yI func49 fun B=>yB<|vJ [vS p2 p1.Arrays c1',vS p3 p1.Parts c2] ?_
 intro b hb
 refine xU zTwo ?_
 intro b1 hb1
 refine zX rfl<|yW<|tL 1 [1] [(7,vA [vS p2 p1.Arrays c1',vS p3 p1.Parts c2])]<|xE (zH6 p1 _ hy h1 h2) ?_
 rintro I0 aw v2 k2 le - ⟨a0,c0,s0,a1,c1,s1,ak,pN,pB,cN,cB,nl,bl,csB,rfl,rfl,h3,hRw,hLP,hN,hBd⟩ -
 have h:=h.mono le
 clear h1 h2
 rw [hLP.len] at hx hn i0 i1 i2
 obtain ⟨rfl,hraw,hset⟩:=hLP.last hx
 simp only at hs hb j0 j1 j2 hm1
 have hset:=hset (vS pN nl cN) nl (vS pB bl cB) (bl.set 0 y26)
 rw [zNu (rE hraw).2.2] at hset
 refine xU zTwo ?_
 intro b2 hb2
 refine yY 0 [vS a0 y.Arrays c0,vS a1 ak c1] rfl<|zX rfl<|yW<|yK [0] [6] rfl<|zZ<|yB<|yE 1 [] [12] rfl<|tX (zY [6,1,2,0,3,4] (af:=[hB ar (cRd r0 p c),hO zL (vS pB bl cB) csB,hO Raw2 (vS a1 ak c1) s1,hB b2 [vS a0 y.Arrays c0,vS a1 ak c1],hO zE (vS a0 y.Arrays c0) s0,hB b1 zTwo]))<|rW (wD r0 60 _ ay h) rfl ?_
 rintro aO aw v2 k2 aa - ⟨v0,kk,rfl,rfl,rfl,h6⟩ -
 obtain ⟨v01,rfl,h7⟩:=zA5 h6
 obtain ⟨p6,c5,rfl⟩:=h7.form
 clear h6 h
 have h3:=iM aa h3
 have hRw:=iM aa hRw
 have hN:=hN.mono aa
 have hBd:=iM aa hBd
 have hset:=hset.mono aa
 refine zX rfl<|wI<|yH [14] rfl<|zK<|zBU rfl<|yH [29] rfl<|zK<|zBU rfl<|yH [43] rfl<|zK<|zBU rfl<|yH [62] rfl<|zK<|zDm rfl<|yB<|yE 3 [] [66] rfl ?_
 rw [decide_eq_true hn]
 refine yE 7 [3] [68,70] rfl<|mA (α:=Raw2) 2 rfl rfl rfl hRw hraw ?_
 intro ad aL al bG aj
 obtain ⟨rfl,o1,o2⟩:=aj
 refine yE 9 [] [72] rfl<|zCR 2 1 al bG [vS pB bl cB] (vS pB bl cB) rfl rfl<|yK [] [76] rfl ?_
 rw [decide_eq_true hb]
 refine zK<|zDm rfl<|qR [(0,vP ar 0),(4,vP b1 0),(5,vP b2 0),(6,vI (ak.length:Int))]<|wO [.p (vP b2 1) [],.p (vS a1 ak c1) [2],.p (vI (ak.length:Int)) [],.p (vI (W ((ak.length:Int) - 1))) [],.x (fun I' v hx'=>∃ ad,v=.pointer (some ad)/\hx'=[]/\AtO (vS a1 ak c1) 2 (W ((ak.length:Int) - 1)).toNat ad),.x (fun I' v hx'=>∃ ad,v=.pointer (some (ad.add 1))/\hx'=[]/\AtO (vS a1 ak c1) 2 (W ((ak.length:Int) - 1)).toNat ad),.x (fun I' v hx'=>v=vS pB bl cB/\hx'=[]),.p (vP ar 0) [],.p (vP ar 0) [],.p (vP ar 0) [],.p (vP b2 1) [],.p (vS a1 ak c1) [2],.p (vI (ak.length:Int)) [],.p (vI (W ((ak.length:Int) - 1))) [],.x (fun I' v hx'=>∃ ad,v=.pointer (some ad)/\hx'=[]/\AtO (vS a1 ak c1) 2 (W ((ak.length:Int) - 1)).toNat ad),.x (fun I' v hx'=>∃ ad,v=.pointer (some (ad.add 1))/\hx'=[]/\AtO (vS a1 ak c1) 2 (W ((ak.length:Int) - 1)).toNat ad),.x (fun I' v hx'=>v=vS pB bl cB/\hx'=[]),.x (fun I' v hx'=>∃ ad,v=.pointer (some ad)/\hx'=[]/\AtO (vS pB bl cB) 9 0 ad),.x (fun I' v hx'=>∃ cs9,v=.agg ⟨cs9⟩/\hx'=[]/\Rp.rep I' cs9 s),.x (fun I' v hx'=>∃ (cs9 kk:List Value),v=.agg ⟨cs9⟩/\hx'=[hB ar kk]/\Rp.rep I' cs9 y22/\Rp.rep I' kk y23),.x (fun I' v hx'=>∃ (cs9 kk:List Value),v=.agg ⟨cs9⟩/\hx'=[hB ar kk]/\Rp.rep I' cs9 y24/\Rp.rep I' kk y25),.x (fun I' v hx'=>∃ (cs9 kk:List Value),v=.agg ⟨cs9⟩/\hx'=[hB ar kk]/\Rp.rep I' cs9 y26/\Rp.rep I' kk y27)] [[],[(0,false)],[],[(2,false)],[(1,false),(3,false)],[(4,false)],[(5,false)],[],[],[],[],[(10,false)],[],[(12,false)],[(11,false),(13,false)],[(14,false)],[(15,false)],[(16,false)],[(17,false)],[(9,false),(18,false),(24,true)],[(8,false),(19,true)],[(7,false),(20,true)]] [hO zL (vS pB bl cB) csB,hO Raw2 (vS a1 ak c1) s1,hB b2 [vS a0 y.Arrays c0,vS a1 ak c1],hO zE (vS a0 y.Arrays c0) s0,hB b1 zTwo] [[hB ar (cRd y3 p6 c5)]] [(6,false),(21,true)] (zY [1,2,3,4,5,0]) ?_ ?_
 · refine O4<|Ox ?_<|Ox ?_<|Ox ?_<|O4<|O3<|Ox ?_<|Ox ?_<|Ox ?_<|Ox ?_<|Ox ?_<|Ox ?_<|Ox ?_<|Ox ?_<|On
   · intro I1 hf aa
     refine wS ?_
     rintro _ _ ⟨rfl,rfl⟩
     refine wS ?_
     rintro _ _ ⟨rfl,rfl⟩
     refine qS<|zAp [(78,vS a1 ak c1),(80,vI (W ((ak.length:Int) - 1)))]<|mA (α:=Raw2) 1 rfl rfl rfl (iM aa hRw) hraw ?_
     intro ad aL al bG aj
     exact yL [] iR ⟨_,rfl,rfl,al⟩
   · intro I1 hf aa
     refine wS ?_
     rintro _ _ ⟨ad,rfl,rfl,al⟩
     exact qS<|zAp [(81,.pointer (some ad))]<|pE 6 [(82,.pointer (some (ad.add 1)))]<|yL [] iR ⟨_,rfl,rfl,al⟩
   · intro I1 hf aa
     refine wS ?_
     rintro _ _ ⟨ad,rfl,rfl,al⟩
     refine qS<|zAp [(82,.pointer (some (ad.add 1)))] ?_
     have aj:=hRw.at (rE hraw).2.2
     obtain ⟨⟨bG,o1,o2⟩,_⟩:=aj
     exact zCR 1 1 al bG [vS pB bl cB] (vS pB bl cB) rfl rfl<|xD iR
   · intro I1 hf aa
     refine wS ?_
     rintro _ _ ⟨rfl,rfl⟩
     refine wS ?_
     rintro _ _ ⟨rfl,rfl⟩
     refine qS<|zAp [(88,vS a1 ak c1),(90,vI (W ((ak.length:Int) - 1)))]<|mA (α:=Raw2) 1 rfl rfl rfl (iM aa hRw) hraw ?_
     intro ad aL al bG aj
     exact yL [] iR ⟨_,rfl,rfl,al⟩
   · intro I1 hf aa
     refine wS ?_
     rintro _ _ ⟨ad,rfl,rfl,al⟩
     exact qS<|zAp [(91,.pointer (some ad))]<|pE 16 [(92,.pointer (some (ad.add 1)))]<|yL [] iR ⟨_,rfl,rfl,al⟩
   · intro I1 hf aa
     refine wS ?_
     rintro _ _ ⟨ad,rfl,rfl,al⟩
     refine qS<|zAp [(92,.pointer (some (ad.add 1)))] ?_
     have aj:=hRw.at (rE hraw).2.2
     obtain ⟨⟨bG,o1,o2⟩,_⟩:=aj
     exact zCR 1 1 al bG [vS pB bl cB] (vS pB bl cB) rfl rfl<|xD iR
   · intro I1 hf aa
     refine wS ?_
     rintro _ _ ⟨rfl,rfl⟩
     refine qS<|zAp [(93,vS pB bl cB)]<|mA (α:=zL) 0 rfl rfl rfl (iM aa hBd) hs ?_
     intro ad aL al bG aj
     exact yL [] iR ⟨_,rfl,rfl,al⟩
   · intro I1 hf aa
     refine wS ?_
     rintro _ _ ⟨ad,rfl,rfl,al⟩
     refine qS<|zAp [(94,.pointer (some ad))] ?_
     obtain ⟨aj,_⟩:=(iM aa hBd).at j2
     generalize bG:(csB.drop (Int.toNat 0*Rp.sz zL)).take (Rp.sz zL)=cc at aj
     obtain ⟨w0,w1,w2,w3,rfl,e10,e11,e12,e13⟩:=kR aj
     obtain ⟨aQ,aM,rfl⟩:=e10.form
     obtain ⟨aJ,aW,rfl⟩:=e11.form
     obtain ⟨br,bd,rfl⟩:=e12.form
     obtain ⟨bh,bj,rfl⟩:=e13.form
     exact zCR 0 0 al bG (cStmt s aQ aM aJ aW br bd bh bj) (vA (cStmt s aQ aM aJ aW br bd bh bj)) rfl rfl<|yL [] iR ⟨_,rfl,rfl,wC ⟨_,_,_,_,rfl,e10,e11,e12,e13⟩⟩
   · intro I1 hf aa
     refine wS ?_
     rintro _ _ ⟨rfl,rfl⟩
     refine wS ?_
     rintro _ _ ⟨cs9,rfl,rfl,h9⟩
     refine wS ?_
     rintro _ _ rfl
     obtain ⟨w0,w1,w2,w3,rfl,e10,e11,e12,e13⟩:=kR h9
     obtain ⟨aQ,aM,rfl⟩:=e10.form
     obtain ⟨aJ,aW,rfl⟩:=e11.form
     obtain ⟨br,bd,rfl⟩:=e12.form
     obtain ⟨bh,bj,rfl⟩:=e13.form
     refine qS<|zAp [(86,vP ar 0),(95,vA (cStmt s aQ aM aJ aW br bd bh bj))]<|rW (zAs y3 s _ hm1 (h7.mono aa) e10 e11 e12 e13) rfl ?_
     rintro aV aw v2 k2 aA - ⟨v0,kk2,rfl,rfl,⟨aP,rfl,h10⟩,h11⟩ -
     exact yL [hB ar kk2] aA ⟨_,_,rfl,rfl,h10,h11⟩
   · intro I1 hf aa
     refine wS ?_
     rintro _ _ ⟨rfl,rfl⟩
     refine wS ?_
     rintro _ _ ⟨cs9,kk,rfl,rfl,h9,hk⟩
     obtain ⟨w0,w1,w2,w3,rfl,e10,e11,e12,e13⟩:=kR h9
     obtain ⟨aQ,aM,rfl⟩:=e10.form
     obtain ⟨aJ,aW,rfl⟩:=e11.form
     obtain ⟨br,bd,rfl⟩:=e12.form
     obtain ⟨bh,bj,rfl⟩:=e13.form
     obtain ⟨w4,rfl,hsl⟩:=zA5 hk
     obtain ⟨p8,c8,rfl⟩:=hsl.form
     refine qS<|zAp [(85,vP ar 0),(96,vA (cStmt y22 aQ aM aJ aW br bd bh bj))]<|rW (zAs y23 y22 _ hm2 (hsl) e10 e11 e12 e13) rfl ?_
     rintro aV aw v2 k2 aA - ⟨v0,kk2,rfl,rfl,⟨aP,rfl,h10⟩,h11⟩ -
     exact yL [hB ar kk2] aA ⟨_,_,rfl,rfl,h10,h11⟩
   intro I1 hf aa
   refine wS ?_
   rintro _ _ ⟨rfl,rfl⟩
   refine wS ?_
   rintro _ _ ⟨cs9,kk,rfl,rfl,h9,hk⟩
   obtain ⟨w0,w1,w2,w3,rfl,e10,e11,e12,e13⟩:=kR h9
   obtain ⟨aQ,aM,rfl⟩:=e10.form
   obtain ⟨aJ,aW,rfl⟩:=e11.form
   obtain ⟨br,bd,rfl⟩:=e12.form
   obtain ⟨bh,bj,rfl⟩:=e13.form
   obtain ⟨w4,rfl,hsl⟩:=zA5 hk
   obtain ⟨p8,c8,rfl⟩:=hsl.form
   refine qS<|zAp [(84,vP ar 0),(97,vA (cStmt y24 aQ aM aJ aW br bd bh bj))]<|rW (zAs y25 y24 _ hm3 (hsl) e10 e11 e12 e13) rfl ?_
   rintro aV aw v2 k2 aA - ⟨v0,kk2,rfl,rfl,⟨aP,rfl,h10⟩,h11⟩ -
   exact yL [hB ar kk2] aA ⟨_,_,rfl,rfl,h10,h11⟩
 intro I5 bf
 refine wS ?_
 rintro _ _ ⟨rfl,rfl⟩
 refine wS ?_
 rintro _ _ ⟨cs9,kk,rfl,rfl,h9,hk⟩
 obtain ⟨w0,w1,w2,w3,rfl,e10,e11,e12,e13⟩:=kR h9
 obtain ⟨aQ,aM,rfl⟩:=e10.form
 obtain ⟨aJ,aW,rfl⟩:=e11.form
 obtain ⟨br,bd,rfl⟩:=e12.form
 obtain ⟨bh,bj,rfl⟩:=e13.form
 have h3:=iM bf h3
 have hRw:=iM bf hRw
 have hN:=hN.mono bf
 have hBd:=iM bf hBd
 have hset:=hset.mono bf
 refine qS<|zAp [(4,vP b1 0),(5,vP b2 0),(83,vS pB bl cB),(98,vA (cStmt y26 aQ aM aJ aW br bd bh bj))]<|mA (α:=zL) 1 rfl rfl rfl hBd hs ?_
 intro ad aL al bG aj
 obtain ⟨w0,w1,w2,w3,rfl,e20,e21,e22,e23⟩:=kR aj
 obtain ⟨p20,c20,rfl⟩:=e20.form
 obtain ⟨p21,c21,rfl⟩:=e21.form
 obtain ⟨p22,c22,rfl⟩:=e22.form
 obtain ⟨p23,c23,rfl⟩:=e23.form
 refine fA (c:=(cStmt y26 aQ aM aJ aW br bd bh bj)) (x':=y26) 1 0 rfl rfl rfl al rfl rfl bG (by kernel_rfl) (by kernel_rfl) (by kernel_rfl) hBd hs (by kernel_rfl) (wC ⟨_,_,_,_,rfl,e10,e11,e12,e13⟩) ?_
 intro cs7 h7' ba
 refine wX (af:=[hB ar kk,hO zL (vS pB bl cB) cs7,hO Raw2 (vS a1 ak c1) s1,hB b2 [vS a0 y.Arrays c0,vS a1 ak c1],hO zE (vS a0 y.Arrays c0) s0,hB b1 zTwo]) rfl<|xX 1 rfl ?_
 intro I6 bt hl6
 have eB:vS pB bl cB=vS pB (bl.set 0 y26) cB:=by simp [vS]
 have kB:SL I6 (vS pB (bl.set 0 y26) cB) (bl.set 0 y26):=by
   rw [<- eB]
   exact SL.of_frozen (l:=bl.set 0 y26) hl6 bt h7'
 rw [eB] at hset
 have hdone:=(hset.mono bt).done (hN.mono bt) kB
 have eS:=fR hRw
 rw [<- eS] at hdone
 have h3:=iM bt h3
 have hk:=Rp.mono bt hk
 have eP:vS a1 ak c1=vS a1 (y.Parts.set (W ((ak.length:Int) - 1)).toNat ⟨nl,bl.set 0 y26⟩) c1:=by simp only [vS,cE,hLP.2.1]
 refine wX (af:=[hB ar kk,hO Raw2 (vS a1 ak c1) s1,hB b2 [vS a0 y.Arrays c0,vS a1 ak c1],hO zE (vS a0 y.Arrays c0) s0,hB b1 zTwo]) rfl<|zX rfl<|zO<|yW<|tL 1 [2] [(110,vA [vS a0 y.Arrays c0,vS a1 ak c1])]<|yY 4 [vS a0 y.Arrays c0,vS a1 ak c1] rfl<|zX rfl<|xF<|xB 1 rfl ?_
 intro I7 le7 hl7
 have k1:SL I7 (vS a1 ak c1) (y.Parts.set (W ((ak.length:Int) - 1)).toNat ⟨nl,bl.set 0 y26⟩):=SL.of_frozen (l:=y.Parts.set (W ((ak.length:Int) - 1)).toNat ⟨nl,bl.set 0 y26⟩) hl7 le7 hdone
 refine xB 2 rfl ?_
 intro I8 le8 hl8
 have k2:=SL.of_frozen hl8 le8 (iM le7 h3)
 rw [hLP.len]
 exact zJO (resC 2 rfl rfl) (zW [0] rfl (by decide)) ⟨_,_,rfl,rfl,⟨_,rfl,(xY ⟨_,_,rfl,k2,k1.mono le8⟩)⟩,Rp.mono le8 (Rp.mono le7 hk)⟩
theorem zGr:∀ r0 p1 r,mB r0 p1=some r->∀ {I:Imm}{ar}{p c p2 c1 p3 c2},(S4 I p r0.b c)->(S4 I p2 p1.Arrays c1)->(S4 I p3 p1.Parts c2)->RT 49 [vP ar 0,vA (cProg p1 p2 c1 p3 c2)] I [hB ar (cRd r0 p c)] (zA7 ar r):=by
 intro r0 p1 r N I ar p c p2 c1 p3 c2 h h1 h2;by_cases hq:∃ y y3 x s,rL p1=some y/\xG r0 60=some (3,y3)/\idx y.Parts (W ((y.Parts.length:Int) - 1))=some x/\idx x.Body 0=some s
 · obtain ⟨y,y3,x,s,e1,e2,e3,e4⟩:=hq;exact zFy r0 p1 r N e1 e2 e3 e4 h h1 h2
 refine zFw r0 p1 r N h h1 h2 ?_;intro y y2 y3 x s e1 e2 e3 e4 e5;obtain rfl:=eq_of_beq e3;exact hq ⟨y,y3,x,s,e1,e2,e4,e5⟩
def zC7 (r:(List Str)):KT:=fun kk I' af v=>
  ∃ v0,af=[]/\v=tupV [v0]/\SL I' v0 r
def mQ (s:Str) (c:UInt8) (out:List Str) (from0:Int) (i:Int):Option (List Str):=do
 if (decide (i<=(s.l.length:Int))) then
  let t25<-(do
    if (i==(s.l.length:Int)) then pure true
    else
     let b1<-sidx s i;pure ((b1.toNat:Int)==(c.toNat:Int))
      : Option Bool)
  let (ap,from01)<-(do
    if t25 then
     let s1<-sslc s from0 i;let bb<-app 16 out ([s1]:List Str);pure (bb,(W (i+1)))
    else
     pure (out,from0)
      : Option (List Str×Int))
  mQ s c ap from01 (W (i+1))
 else pure (id out)
 partial_fixpoint
theorem zFz (s:Str) (c:UInt8):∀ (out:List Str) (from0:Int) (i:Int) (o:List Str),mQ s c out from0 i=some o->∀ {B}{I0 I:Imm}{Q p c1 cs},I0.le I->(RL I cs out)->NG Q->NO Q->(∀ I' ah p1 c2 av,o=ah->I0.le I'->(RL I' av ah)->T 36 B Q (.exit 0) I' [hO Str (vS p1 ah c2) av] [(5,vS p1 ah c2)])->J Tryz.prog 36 B (nav (bodyOf f133) [1,1,1,0,1,0]) Q I [hO Str (vS p out c1) cs] [(0,vT s.l),(1,.int .u8 (c.toNat:Int)),(5,vS p out c1),(6,vI from0),(7,vI i)]:=by
 refine mQ.partial_correctness s c _ fun aE ih out from0 i o N B I0 I Q p c1 cs H h1 hg ho hx=>yQ hg ho<|yA<|yH [12] rfl<|zK<|yG N ?_ ?_
 · intro hc N;refine zS<|zZ<|yF<|yA ?_;refine wZ N [hO Str (vS p out c1) cs] (fun t25=>[(0,vT s.l),(1,.int .u8 (c.toNat:Int)),(5,vS p out c1),(6,vI from0),(7,vI i),(25,.bool t25)]) (fun o0 az=>?_) ?_
   · have H:=iS I;refine zM<|yE 5 [] [19] rfl<|wL [19] az ?_ ?_
     · intro aH N;exact wR [] [(25,vY)]<|yU<|zU (ct N H)
     intro aH N;exact yE 7 [] [20,21] rfl<|bE N fun b1 hy N=>zBm rfl rfl hy<|yK [] [25] rfl<|yU<|zU (ct N H)
   intro t25 I0 le aT;have ⟨h1,H⟩:=m2 le h1 H;refine zK ?_;obtain ⟨aN,aC,hMc1⟩:=zB aT;refine oW (fun I' af m'=>∃ (ap:List Str) (from01:Int) (p2:Option Addr) (c3:Nat) (aP:List Value),aN=(ap,from01)/\I0.le I'/\(RL I' aP ap)/\af=[hO Str (vS p2 ap c3) aP]/\m'=[(0,vT s.l),(1,.int .u8 (c.toNat:Int)),(5,vS p2 ap c3),(6,vI from01),(7,vI i)]) ?_ ?_
   · have H:=iS I0;refine yG aC ?_ ?_
     · intro aY N;refine yB<|yE 4 [] [26,27,28,29] rfl<|bE N fun s1 ay N=>zJM rfl ay<|uV [vT s1.l] Str ?_;intro b2 hb1;have h4:RL I0 [vT s1.l] ([s1]:List Str):=rT [s1];obtain ⟨bb,aG,N⟩:=zB N;exact rF 9 1 1 rfl rfl rfl h1 (.inr ⟨0,rfl⟩) h4 aG fun p3 c4 aI h5=>tX (zY [1] (af:=[hO Str (vS p3 bb c4) aI]))<|yK [] [5] rfl<|zK<|zM<|yK [] [6] rfl<|yU<|zU ⟨_,_,_,_,_,(zD N).symm,H,h5,rfl,rfl⟩
     intro aY N;exact zS<|yU<|zU ⟨_,_,_,_,_,(zD N).symm,H,h1,rfl,rfl⟩
   rintro aO aw m2 ⟨ap,from01,p2,c3,aP,heq1,aa,h3,rfl,rfl⟩;subst aN;have H:=H.trans aa;exact zO<|zK<|zM<|yK [] [7] rfl<|yP<|oT<|ih ap from01 (W (i+1)) _ hMc1 H h3 hg ho hx
 intro hc N;exact wP<|yU<|hx _ _ _ _ _ (zD N).symm H h1
def fB (s:Str) (c:UInt8):Option ((List Str)):=do
 let ah<-mQ s c ([]:List Str) 0 0;pure (id ah)
theorem zB8:∀ s c r,fB s c=some r->∀ {I:Imm} ,RT 133 [vT s.l,.int .u8 (c.toNat:Int)] I [] (zC7  r):=by
 intro s c r N I;unfold fB at N;refine yI func133 fun B=>wT []<|yW<|uV [] Str ?_;intro b hb;have h:RL I [] ([]:List Str):=rfl;refine yK [] [5] rfl<|vW [6] rfl<|zZ<|yH [7] rfl<|wI<|qR [(0,vT s.l),(1,.int .u8 (c.toNat:Int)),(5,vS (some ⟨b,0,none⟩) ([]:List Str) 0),(6,vI 0),(7,vI 0)] ?_;obtain ⟨o02,ho02,aF⟩:=zB N;refine zFz s c ([]:List Str) 0 0 o02 ho02 iR h nG nO ?_;intro aV ah p1 c2 av heq2 aA h2;subst o02;refine zR<|vW [4] rfl<|xF<|xB 0 rfl ?_;intro bx aK hl0;have h6:=SL.of_frozen hl0 aK h2;exact xO aF (resT rfl) zP ⟨_,rfl,rfl,h6⟩
def oE (y:(List Str)) (out:List Str) (i:Int):Option (List Str):=do
 if (decide (i<(y.length:Int))) then
  let x<-idx y i;let ap<-(do
    if (!(x.l==([]:List UInt8))) then
     let x1<-idx y i;let bb<-app 16 out ([x1]:List Str);pure (id bb)
    else
     pure (id out)
      : Option (List Str))
  oE y ap (W (i+1))
 else pure (id out)
 partial_fixpoint
theorem zE6 (y:(List Str)):∀ (out:List Str) (i:Int) (o:List Str),oE y out i=some o->∀ {B}{I0 I:Imm}{Q p c p1 c1 cs},I0.le I->(S4 I p y c)->(RL I cs out)->NG Q->NO Q->(∀ I' ah p2 c2 av,o=ah->I0.le I'->(RL I' av ah)->T 28 B Q (.exit 0) I' [hO Str (vS p2 ah c2) av] [(4,vS p2 ah c2)])->J Tryz.prog 28 B (nav (bodyOf f165) [1,1,1,0,1,0]) Q I [hO Str (vS p1 out c1) cs] [(3,vS p y c),(4,vS p1 out c1),(5,vI i)]:=by
 refine oE.partial_correctness y _ fun aE ih out i o N B I0 I Q p c p1 c1 cs H h h2 hg ho hx=>yQ hg ho<|yA<|yH [12] rfl<|zK<|yG N ?_ ?_
 · intro hc N;refine zS<|zZ<|yF<|yB<|yE 2 [] [15,16] rfl<|bE N fun x ay N=>xR rfl rfl h ay ?_;intro ad aL al aj;obtain rfl:=aj;refine xH 0 al [vT x.l] (vT x.l) rfl<|yK [] [19] rfl<|zK ?_;obtain ⟨o0,az,aT⟩:=zB N;refine oW (fun I' af m'=>∃ (ap:List Str) (p3:Option Addr) (c3:Nat) (aP:List Value),o0=ap/\I.le I'/\(RL I' aP ap)/\af=[hO Str (vS p3 ap c3) aP]/\m'=[(3,vS p y c),(4,vS p3 ap c3),(5,vI i)]) ?_ ?_
   · have H:=iS I;refine yG az ?_ ?_
     · intro aH N;refine zM<|yE 3 [] [20,21,22] rfl<|bE N fun x1 aG N=>xR rfl rfl h aG ?_;intro ad1 bm au ax;obtain rfl:=ax;refine xH 0 au [vT x1.l] (vT x1.l) rfl<|uV [vT x1.l] Str ?_;intro b1 hb1;have h5:RL I [vT x1.l] ([x1]:List Str):=rT [x1];obtain ⟨bb,bc,N⟩:=zB N;exact rF 9 1 1 rfl rfl rfl h2 (.inr ⟨0,rfl⟩) h5 bc fun p4 c4 aI h6=>tX (zY [1] (af:=[hO Str (vS p4 bb c4) aI]))<|yK [] [4] rfl<|yU<|zU ⟨_,_,_,_,(zD N).symm,H,h6,rfl,rfl⟩
     intro aH N;exact zS<|yU<|zU ⟨_,_,_,_,(zD N).symm,H,h2,rfl,rfl⟩
   rintro aO aw m2 ⟨ap,p3,c3,aP,heq,aa,h4,rfl,rfl⟩;subst o0;have ⟨h,H⟩:=m2 aa h H;exact zO<|zK<|zM<|yK [] [5] rfl<|yP<|oT<|ih ap (W (i+1)) _ aT H h h4 hg ho hx
 intro hc N;exact wP<|yU<|hx _ _ _ _ _ (zD N).symm H h2
def gH (s:Str):Option ((List Str)):=do
 let y<-fB s (32:UInt8);let ah<-oE y ([]:List Str) 0;pure (id ah)
theorem zC8:∀ s r,gH s=some r->∀ {I:Imm} ,RT 165 [vT s.l] I [] (zC7  r):=by
 intro s r N I;unfold gH at N;refine yI func165 fun B=>wT []<|yW<|yE 1 [] [6] rfl<|bE N fun y hy N=>xE (zB8 s (32:UInt8) _ hy ) ?_;rintro I0 aw v2 k2 le - ⟨v0,rfl,rfl,h⟩ -;obtain ⟨p,c,rfl⟩:=h.form;refine yK [] [3] rfl<|yW<|uV [] Str ?_;intro b hb;have h1:RL I0 [] ([]:List Str):=rfl;refine yK [] [4] rfl<|zZ<|yH [5] rfl<|wI<|qR [(3,vS p y c),(4,vS (some ⟨b,0,none⟩) ([]:List Str) 0),(5,vI 0)] ?_;obtain ⟨aN,aC,aF⟩:=zB N;refine zE6 y ([]:List Str) 0 aN aC iR h h1 nG nO ?_;intro aV ah p2 c2 av heq1 aA h3;subst aN;refine zR<|vW [2] rfl<|xF<|xB 0 rfl ?_;intro bx aK hl0;have h7:=SL.of_frozen hl0 aK h3;exact xO aF (resT rfl) zP ⟨_,rfl,rfl,h7⟩
def fT (r:Int×Bool):KT:=fun kk I' af v=>
  ∃ v0 v1,af=[]/\v=tupV [v0,v1]/\v0=.int .i64 r.1/\v1=.bool r.2
def mR (s1:Str) (n0:Int) (i:Int):Option (Out Int (Int×Bool)):=do
 if (decide (i<(s1.l.length:Int))) then
  let t54<-(do
    let b2<-sidx s1 i;if (decide ((b2.toNat:Int)<48)) then pure true
    else
     let b3<-sidx s1 i;pure (decide ((b3.toNat:Int)>57))
      : Option Bool)
  if t54 then pure (.ret (0,false))
  else
   let b4<-sidx s1 i;mR s1 (W ((W (n0*10))+(W (IntKind.u8.wrap ((b4.toNat:Int) - 48))))) (W (i+1))
 else pure (.done n0)
 partial_fixpoint
theorem zGA (s1:Str):∀ (n0:Int) (i:Int) (o:Out Int (Int×Bool)),mR s1 n0 i=some o->∀ {B}{I0 I:Imm}{Q}{neg:Bool} ,I0.le I->NG Q->NO Q->(∀ I' n01,o=(.done n01)->I0.le I'->T 67 B Q (.exit 0) I' [] [(4,.bool neg),(5,vI n01)])->(∀ r I' af m',o=(.ret r)->I0.le I'->RS Tryz.prog f187 B (fT  r) I' af m'->T 67 B Q .ret I' af m')->J Tryz.prog 67 B (nav (bodyOf f187) [1,1,1,1,1,0,1,0]) Q I [] [(0,vT s1.l),(4,.bool neg),(5,vI n0),(6,vI i)]:=by
 refine mR.partial_correctness s1 _ fun aE ih n0 i o N B I0 I Q neg H hg ho hx hr=>yQ hg ho<|yA<|yH [42] rfl<|zK<|yG N ?_ ?_
 · intro hc7 N;refine zS<|zZ<|yF<|yA<|yA ?_;refine wZ N [] (fun t54=>[(0,vT s1.l),(4,.bool neg),(5,vI n0),(6,vI i),(54,.bool t54)]) (fun o03 ho03=>?_) ?_
   · have H:=iS I;refine zM<|yE 2 [] [45,46] rfl ?_;obtain ⟨b2,bc,N⟩:=zB ho03;refine zBm rfl rfl bc<|yE 5 [] [49] rfl<|wL [49] N ?_ ?_
     · intro hc8 N;exact wR [] [(54,vY)]<|yU<|zU (ct N H)
     intro hc8 N;exact yE 7 [] [50,51] rfl<|bE N fun b3 bu N=>zBm rfl rfl bu<|yK [] [54] rfl<|yU<|zU (ct N H)
   intro t54 bx aK hMc3;have H:=H.trans aK;refine zK<|yG hMc3 ?_ ?_
   · intro hc9 N;exact yH [2,3] rfl<|xF<|zJ<|zV<|zJ<|zJ<|hr _ _ _ _ (zD N).symm H ⟨_,_,(resU rfl rfl),zP,⟨_,_,rfl,rfl,rfl,rfl⟩⟩
   intro hc9 N;exact zS<|zK<|zM<|yE 4 [] [56,57,58] rfl<|bE N fun b4 bz N=>zBm rfl rfl bz<|yK [] [5] rfl<|zO<|zK<|zM<|yK [] [6] rfl<|yP<|oT<|ih (W ((W (n0*10))+(W (IntKind.u8.wrap ((b4.toNat:Int) - 48))))) (W (i+1)) _ N H  hg ho hx hr
 intro hc7 N;exact wP<|yU<|hx _ _ (zD N).symm H
def dB (s:Str):Option (Int×Bool):=do
 let neg<-(do
   if (decide ((s.l.length:Int)>0)) then
    let b<-sidx s 0;pure ((b.toNat:Int)==45)
   else
    pure false
     : Option Bool)
 let s1<-(do
   if neg then
    let s2<-sslc s 1 (s.l.length:Int);pure (id s2)
   else
    pure (id s)
     : Option Str)
 let t38<-(do
   if ((s1.l.length:Int)==0) then pure true
   else
    if (decide ((s1.l.length:Int)>17)) then pure true
    else
     let b1<-sidx s1 0;if ((b1.toNat:Int)==48) then
      if (decide ((s1.l.length:Int)>1)) then pure true
      else pure (id neg)
     else pure false
     : Option Bool)
 if t38 then pure (0,false)
 else
  match<-mR s1 0 0 with
  | .ret r0=>pure r0
  | .done n01 =>
   let n02<-(do
     if neg then pure (W (0 - n01))
     else
      pure (id n01)
       : Option Int)
   pure (n02,true)
theorem zDv:∀ s r,dB s=some r->∀ {I:Imm} ,RT 187 [vT s.l] I [] (fT  r):=by
 intro s r N I;unfold dB at N;refine yI func187 fun B=>?_;have H:=iS I;refine wT []<|zK<|yA ?_;refine wZ N [] (fun neg=>[(0,vT s.l),(4,.bool neg)]) (fun o0 az=>?_) ?_
 · have H:=iS I;refine zM<|yE 4 [] [10] rfl<|wL [10] az ?_ ?_
   · intro hc N;exact yE 5 [] [11] rfl<|bE N fun b hy N=>zBm rfl rfl hy<|yK [] [4] rfl<|yU<|zU (ct N H)
   intro hc N;exact wR [] [(4,vF)]<|yU<|zU (ct N H)
 intro neg I0 le aT;have H:=H.trans le;refine zZ<|yH [15] rfl<|zK ?_;refine wZ aT [] (fun s1=>[(0,vT s1.l),(4,.bool neg)]) (fun aN aC=>?_) ?_
 · have H:=iS I0;refine yG aC ?_ ?_
   · intro aH N;exact zM<|yE 1 [] [16] rfl<|bE N fun s2 ay N=>zJM rfl ay<|yK [] [0] rfl<|yU<|zU (ct N H)
   intro aH N;exact zS<|yU<|zU (ct N H)
 intro s1 aO aa hMc1;have H:=H.trans aa;refine zZ<|yA ?_;refine wZ hMc1 [] (fun t38=>[(0,vT s1.l),(4,.bool neg),(38,.bool t38)]) (fun o02 ho02=>?_) ?_
 · have H:=iS aO;refine zM<|yE 4 [] [21] rfl<|wL [21] ho02 ?_ ?_
   · intro aY N;exact wR [] [(38,vY)]<|yU<|zU (ct N H)
   intro aY N;refine yE 9 [] [26] rfl<|wL [26] N ?_ ?_
   · intro bC N;exact wR [] [(38,vY)]<|yU<|zU (ct N H)
   intro bC N;refine yE 10 [] [27] rfl<|bE N fun b1 aG N=>zBm rfl rfl aG<|yE 13 [] [30] rfl<|wL [30] N ?_ ?_
   · intro bJ N;refine yE 17 [] [34] rfl<|wL [34] N ?_ ?_
     · intro hc5 N;exact wR [] [(38,vY)]<|yU<|zU (ct N H)
     intro hc5 N;exact yK [] [38] rfl<|yU<|zU (ct N H)
   intro bJ N;exact wR [] [(38,vF)]<|yU<|zU (ct N H)
 intro t38 aV aA hMc2;have H:=H.trans aA;refine zK<|yG hMc2 ?_ ?_
 · intro hc6 N;refine yH [2,3] rfl<|xF<|zJ ?_;exact xO N (resU rfl rfl) zP ⟨_,_,rfl,rfl,rfl,rfl⟩
 intro hc6 N;refine zS<|vW [5] rfl<|zZ<|yH [6] rfl<|wI<|qR [(0,vT s1.l),(4,.bool neg),(5,vI 0),(6,vI 0)] ?_;obtain ⟨o04,ho04,aF⟩:=zB N;refine zGA s1 0 0 o04 ho04 iR  nG nO ?_ ?_
 · intro bD n01 heq4 aX;subst o04;have H:=H.trans aX;refine zR<|zZ<|yH [63] rfl<|zK ?_;refine wZ aF [] (fun n02=>[(5,vI n02)]) (fun o05 ho05=>?_) ?_
   · have H:=iS bD;refine yG ho05 ?_ ?_
     · intro hc10 N;exact zM<|yK [] [5] rfl<|yU<|zU (ct N H)
     intro hc10 N;exact zS<|yU<|zU (ct N H)
   intro n02 bI bf hMc4;refine vW [2,3] rfl<|zK<|xA ?_;exact xO hMc4 (resU rfl rfl) zP ⟨_,_,rfl,rfl,rfl,rfl⟩
 intro r0 I9 hs9 m9 aS le9 aU;subst aS;refine zV<|zJ ?_;obtain rfl:=zD aF;exact fO aU
def zCE (r:zE):KT:=fun kk I' af v=>
  ∃ v0,af=[]/\v=tupV [v0]/\(∃ cs,v0=.agg ⟨cs⟩/\Rp.rep I' cs r)
def pP (w0:(List Str)) (i:Int) (Name:Str) (Dims:List Int):Option ((Str×List Int)):=do
 let t15<-(do
   if (decide (i<(w0.length:Int))) then pure (decide (i<=4))
   else
    pure false
     : Option Bool)
 if t15 then
  if (i==1) then
   let x<-idx w0 1;pP w0 (W (i+1)) x Dims
  else
   let x1<-idx w0 i;let (y1,y2)<-dB x1;let l<-app 8 Dims ([y1]:List Int);pP w0 (W (i+1)) Name l
 else pure (Name,Dims)
 partial_fixpoint
theorem zFH (w0:(List Str)):∀ (i:Int) (Name:Str) (Dims:List Int) (o:(Str×List Int)),pP w0 i Name Dims=some o->∀ {B}{I0 I:Imm}{Q p c}{b b1}{p1 c1 cs},I0.le I->(S4 I p w0 c)->(RL I cs Dims)->NG Q->NO Q->(∀ I' Name1 Dims1 p2 c2 av,o=(Name1,Dims1)->I0.le I'->(RL I' av Dims1)->T 39 B Q (.exit 0) I' [hO Int (vS p2 Dims1 c2) av,hB b1 [vT Name1.l,vS p2 Dims1 c2],hB b [vT ([]),z0]] [(2,vP b 0),(3,vP b1 0)])->J Tryz.prog 39 B (nav (bodyOf f166) [1,1,0,1,0]) Q I [hO Int (vS p1 Dims c1) cs,hB b1 [vT Name.l,vS p1 Dims c1],hB b [vT ([]),z0]] [(0,vS p w0 c),(2,vP b 0),(3,vP b1 0),(4,vI i)]:=by
 refine pP.partial_correctness w0 _ fun aE ih i Name Dims o N B I0 I Q p c b b1 p1 c1 cs H h h2 hg ho hx=>yQ hg ho<|yA<|yA ?_;refine wZ N [hO Int (vS p1 Dims c1) cs,hB b1 [vT Name.l,vS p1 Dims c1],hB b [vT ([]),z0]] (fun t15=>[(0,vS p w0 c),(2,vP b 0),(3,vP b1 0),(4,vI i),(15,.bool t15)]) (fun o0 az=>?_) ?_
 · have H:=iS I;refine zM<|yE 5 [] [12] rfl<|wL [12] az ?_ ?_
   · intro hc N;exact yK [] [15] rfl<|yU<|zU (ct N H)
   intro hc N;exact wR [] [(15,vF)]<|yU<|zU (ct N H)
 intro t15 I0 le aT;have ⟨h,h2,H⟩:=m3 le h h2 H;refine zK<|yG aT ?_ ?_
 · intro aH N;refine zS<|zZ<|yF<|yA<|yH [19] rfl<|zK<|yG N ?_ ?_
   · intro aY N;refine yB<|yE 1 [] [20] rfl<|bE N fun x hy N=>xR rfl rfl h hy ?_;intro ad aL al aj;obtain rfl:=aj;exact xH 0 al [vT x.l] (vT x.l) rfl<|yE 4 [] [23] rfl<|yY 1 [vT x.l,vS p1 Dims c1] rfl<|zX rfl<|zK<|zEu<|gQ<|zR<|zK<|zM<|yK [] [4] rfl<|yP<|oT<|ih (W (i+1)) x Dims _ N H h h2 hg ho hx
   intro aY N;refine zS<|yW<|yE 2 [] [25,26] rfl<|bE N fun x1 ay N=>xR rfl rfl h ay ?_;intro ad1 bm au ax;obtain rfl:=ax;refine xH 0 au [vT x1.l] (vT x1.l) rfl ?_;obtain ⟨⟨y1,y2⟩,aG,N⟩:=zB N;refine xE (zDv x1 _ aG ) ?_;rintro aO aw v2 k2 aa - ⟨v0,v01,rfl,rfl,rfl,rfl⟩ -;have ⟨h,h2,H⟩:=m3 aa h h2 H;refine yK [] [5] rfl<|zK<|zM<|yE 3 [1] [33,34] rfl<|uV [vI y1] Int ?_;intro b2 hb2;have h6:RL aO [vI y1] ([y1]:List Int):=rI [y1];obtain ⟨l,bc,N⟩:=zB N;refine rF 3 1 1 rfl rfl rfl h2 (.inr ⟨0,rfl⟩) h6 bc ?_;intro p3 c3 aP h7;exact tX (zY [1,2,3] (af:=[hO Int (vS p3 l c3) aP,hB b1 [vT Name.l,vS p1 Dims c1],hB b [vT ([]),z0]]))<|yE 6 [] [37] rfl<|yY 1 [vT Name.l,vS p3 l c3] rfl<|zX rfl<|zO<|zK<|zM<|yK [] [4] rfl<|yP<|oT<|ih (W (i+1)) Name l _ N H h h7 hg ho hx
 intro aH N;exact wP<|yU<|hx _ _ _ _ _ _ (zD N).symm H h2
def dS (w0:(List Str)):Option (zE):=do
 let (Name1,Dims1)<-pP w0 1 (⟨[]⟩:Str) ([]:List Int);pure (zE.mk Name1 Dims1)
theorem zH7:∀ w0 r,dS w0=some r->∀ {I:Imm}{p c},(S4 I p w0 c)->RT 166 [vS p w0 c] I [] (zCE  r):=by
 intro w0 r N I p c h;unfold dS at N;refine yI func166 fun B=>yB<|xU [vT ([]),z0] ?_;intro b hb;refine zX rfl<|yW<|yE 1 [] [7] rfl<|xU [vT ([]),z0] ?_;intro b1 hb1;refine yY 0 [vT ([]),z0] rfl<|zX rfl<|zZ<|yH [4] rfl<|wI<|qR [(0,vS p w0 c),(2,vP b 0),(3,vP b1 0),(4,vI 1)]<|zA6 Int fun h1=>?_;obtain ⟨aN,aC,aF⟩:=zB N;refine zFH w0 1 (⟨[]⟩:Str) ([]:List Int) aN aC iR h h1 nG nO ?_;intro aV Name1 Dims1 p2 c2 av heq1 aA h3;subst aN;refine zR<|yW<|tL 1 [1] [(38,vA [vT Name1.l,vS p2 Dims1 c2])]<|yY 2 [vT Name1.l,vS p2 Dims1 c2] rfl<|zX rfl<|xF<|xB 0 rfl ?_;intro bx aK hl0;have h8:=SL.of_frozen hl0 aK h3;exact xO aF (resC 1 rfl rfl) zP ⟨_,rfl,rfl,⟨_,rfl,(uI ⟨_,rfl,h8⟩)⟩⟩
def zA8 (r:Int×Int):KT:=fun kk I' af v=>
  ∃ v0 v1,af=[]/\v=tupV [v0,v1]/\v0=.int .i64 r.1/\v1=.int .i64 r.2
def oF (s:Str) (at0:Int) (end0:Int):Option (Int):=do
 let t31<-(do
   if (decide (end0<(s.l.length:Int))) then
    if (decide (end0<(W (at0+2)))) then
     let b<-sidx s end0;if (decide ((b.toNat:Int)>=48)) then
      let b1<-sidx s end0;pure (decide ((b1.toNat:Int)<=57))
     else pure false
    else pure false
   else
    pure false
     : Option Bool)
 if t31 then oF s at0 (W (end0+1))
 else pure (id end0)
 partial_fixpoint
theorem zE7 (s:Str) (at0:Int):∀ (end0:Int) (o:Int),oF s at0 end0=some o->∀ {B}{I0 I:Imm}{Q}  ,I0.le I->NG Q->NO Q->(∀ I' end01,o=end01->I0.le I'->T 47 B Q (.exit 0) I' [] [(0,vT s.l),(1,vI at0),(6,vI end01)])->J Tryz.prog 47 B (nav (bodyOf f203) [1,1,0,0]) Q I [] [(0,vT s.l),(1,vI at0),(6,vI end0)]:=by
 refine oF.partial_correctness s at0 _ fun aE ih end0 o N B I0 I Q H hg ho hx=>yQ hg ho<|yA<|yA ?_;refine wZ N [] (fun t31=>[(0,vT s.l),(1,vI at0),(6,vI end0),(31,.bool t31)]) (fun o0 az=>?_) ?_
 · have H:=iS I;refine zM<|yE 5 [] [14] rfl<|wL [14] az ?_ ?_
   · intro hc N;refine yE 11 [] [20] rfl<|wL [20] N ?_ ?_
     · intro aH N;refine yE 13 [] [21,22] rfl<|bE N fun b hy N=>zBm rfl rfl hy<|yE 17 [] [26] rfl<|wL [26] N ?_ ?_
       · intro aY N;exact yE 19 [] [27,28] rfl<|bE N fun b1 ay N=>zBm rfl rfl ay<|yK [] [31] rfl<|yU<|zU (ct N H)
       intro aY N;exact wR [] [(31,vF)]<|yU<|zU (ct N H)
     intro aH N;exact wR [] [(31,vF)]<|yU<|zU (ct N H)
   intro hc N;exact wR [] [(31,vF)]<|yU<|zU (ct N H)
 intro t31 I0 le aT;have H:=H.trans le;refine zK<|yG aT ?_ ?_
 · intro bC N;exact zS<|wI<|zM<|yK [] [6] rfl<|zO<|yP<|oT<|ih (W (end0+1)) _ N H  hg ho hx
 intro bC N;exact wP<|yU<|hx _ _ (zD N).symm H
def gI (s:Str) (at0:Int):Option (Int×Int):=do
 let end01<-oF s at0 at0;let s1<-sslc s at0 end01;let (y1,y2)<-dB s1;if (!y2) then pure (1,at0)
 else pure (y1,end01)
theorem zC9:∀ s at0 r,gI s at0=some r->∀ {I:Imm} ,RT 203 [vT s.l,vI at0] I [] (zA8  r):=by
 intro s at0 r N I;unfold gI at N;refine yI func203 fun B=>wT []<|vW [6] rfl<|zZ<|yF<|qR [(0,vT s.l),(1,vI at0),(6,vI at0)] ?_;obtain ⟨aN,aC,aF⟩:=zB N;refine zE7 s at0 at0 aN aC iR  nG nO ?_;intro aO end01 heq1 aa;subst aN;refine zR<|yW<|yE 3 [] [35,36,37] rfl ?_;obtain ⟨s1,aG,N⟩:=zB aF;refine zJM rfl aG ?_;obtain ⟨⟨y1,y2⟩,bc,N⟩:=zB N;refine xE (zDv s1 _ bc ) ?_;rintro aV aw v2 k2 aA - ⟨v0,v01,rfl,rfl,rfl,rfl⟩ -;refine yK [] [7,8] rfl<|zZ<|yH [43] rfl<|zK<|yG N ?_ ?_
 · intro bJ N;refine yH [4,5] rfl<|xF<|zJ ?_;exact xO N (resU rfl rfl) zP ⟨_,_,rfl,rfl,rfl,rfl⟩
 intro bJ N;refine zS<|vW [4,5] rfl<|zK<|xA ?_;exact xO N (resU rfl rfl) zP ⟨_,_,rfl,rfl,rfl,rfl⟩
def xL (r:Int):KT:=fun kk I' af v=>
  ∃ v0,af=[]/\v=tupV [v0]/\v0=.int .i64 r
def zAT (s:Str) (at0:Int):Option (Int):=do
 let t20<-(do
   if (decide (at0>=(s.l.length:Int))) then pure true
   else
    let b<-sidx s at0;if (decide ((b.toNat:Int)<105)) then pure true
    else
     let b1<-sidx s at0;pure (decide ((b1.toNat:Int)>108))
     : Option Bool)
 if t20 then pure (-1)
 else
  let b2<-sidx s at0;pure (W ((W (b2.toNat:Int)) - 105))
theorem zIZ:∀ s at0 r,zAT s at0=some r->∀ {I:Imm} ,RT 216 [vT s.l,vI at0] I [] (xL  r):=by
 intro s at0 r N I;unfold zAT at N;refine yI func216 fun B=>?_;have H:=iS I;refine wT []<|zZ<|yA ?_;refine wZ N [] (fun t20=>[(0,vT s.l),(1,vI at0),(20,.bool t20)]) (fun o0 az=>?_) ?_
 · have H:=iS I;refine zM<|yE 5 [] [9] rfl<|wL [9] az ?_ ?_
   · intro hc N;exact wR [] [(20,vY)]<|yU<|zU (ct N H)
   intro hc N;refine yE 7 [] [10,11] rfl<|bE N fun b hy N=>zBm rfl rfl hy<|yE 11 [] [15] rfl<|wL [15] N ?_ ?_
   · intro aH N;exact wR [] [(20,vY)]<|yU<|zU (ct N H)
   intro aH N;exact yE 13 [] [16,17] rfl<|bE N fun b1 ay N=>zBm rfl rfl ay<|yK [] [20] rfl<|yU<|zU (ct N H)
 intro t20 I0 le aT;refine zK<|yG aT ?_ ?_
 · intro aY N;refine yH [4] rfl<|xF<|zJ ?_;obtain rfl:=zD N;exact vV
 intro aY N;refine zS<|yW<|yE 2 [] [21,22] rfl<|bE N fun b2 aG N=>zBm rfl rfl aG<|yK [] [4] rfl<|zK<|xA ?_;obtain rfl:=zD N;exact vV
def zGB (r:zA×Int):KT:=fun kk I' af v=>
  ∃ v0 v1,af=[]/\v=tupV [v0,v1]/\(∃ cs,v0=.agg ⟨cs⟩/\Rp.rep I' cs r.1)/\v1=.int .i64 r.2
def dU (a0:zA) (s:Str) (at0:Int):Option (zA×Int):=do
 let b2<-sidx s at0;let sign<-(do
   if ((b2.toNat:Int)==45) then pure (-1)
   else
    pure (id 1)
     : Option Int)
 let t27<-(do
   let b3<-sidx s at0;if ((b3.toNat:Int)==45) then pure true
   else
    let b4<-sidx s at0;pure ((b4.toNat:Int)==43)
     : Option Bool)
 let at01<-(do
   if t27 then pure (W (at0+1))
   else
    pure (id at0)
     : Option Int)
 let (y1,y2)<-gI s at01;let t51<-(do
   if (decide (y2>at01)) then
    if (decide (y2<(s.l.length:Int))) then
     let b5<-sidx s y2;pure ((b5.toNat:Int)==42)
    else pure false
   else
    pure false
     : Option Bool)
 let star<-(do
   if t51 then pure (W (y2+1))
   else
    pure (id y2)
     : Option Int)
 let y3<-zAT s star;let l<-app 8 ([]:List Int) a0.Coefs;let t75<-(do
   if (decide (y3>=0)) then
    if (decide (star>y2)) then pure true
    else pure (y2==at01)
   else
    pure false
     : Option Bool)
 if t75 then
  let x<-idx l y3;let x1<-idx l y3;let l1<-pure (l.set y3.toNat (W (x+(W (sign*y1)))));pure ((zA.mk l1 a0.Const),(W (star+1)))
 else
  if (y2==at01) then pure (a0,(-1))
  else pure ((zA.mk l (W (a0.Const+(W (sign*y1))))),y2)
theorem zH8:∀ a0 s at0 r,dU a0 s at0=some r->∀ {I:Imm}{p c},(S4 I p a0.Coefs c)->RT 212 [vA (cAff a0 p c),vT s.l,vI at0] I [] (zGB  r):=by
 intro a0 s at0 r N I p c h;unfold dU at N;refine yI func212 fun B=>?_;have H:=iS I;refine yB<|vJ (cAff a0 p c) ?_;intro b hb;refine xU [z0,vI 0] ?_;intro b1 hb1;refine wR [] []<|vW [8] rfl<|zZ<|yB<|yE 2 [] [14,15] rfl<|bE N fun b2 hy N=>zBm rfl rfl hy<|yK [] [17] rfl<|zK ?_;refine wZ N [hB b1 [z0,vI 0],hB b (cAff a0 p c)] (fun sign=>[(1,vT s.l),(2,vI at0),(3,vP b 0),(6,vP b1 0),(8,vI sign)]) (fun o0 az=>?_) ?_
 · have H:=iS I;refine yG az ?_ ?_
   · intro hc N;exact zM<|yK [] [8] rfl<|yU<|zU (ct N H)
   intro hc N;exact zS<|yU<|zU (ct N H)
 intro sign I0 le aT;have ⟨h,H⟩:=m2 le h H;refine zZ<|yA ?_;refine wZ aT [hB b1 [z0,vI 0],hB b (cAff a0 p c)] (fun t27=>[(1,vT s.l),(2,vI at0),(3,vP b 0),(6,vP b1 0),(8,vI sign),(27,.bool t27)]) (fun aN aC=>?_) ?_
 · have H:=iS I0;refine zM<|yE 2 [] [18,19] rfl ?_;obtain ⟨b3,ay,N⟩:=zB aC;refine zBm rfl rfl ay<|yE 5 [] [22] rfl<|wL [22] N ?_ ?_
   · intro aH N;exact wR [] [(27,vY)]<|yU<|zU (ct N H)
   intro aH N;exact yE 7 [] [23,24] rfl<|bE N fun b4 aG N=>zBm rfl rfl aG<|yK [] [27] rfl<|yU<|zU (ct N H)
 intro t27 aO aa hMc1;have ⟨h,H⟩:=m2 aa h H;refine zK ?_;refine wZ hMc1 [hB b1 [z0,vI 0],hB b (cAff a0 p c)] (fun at01=>[(1,vT s.l),(2,vI at01),(3,vP b 0),(6,vP b1 0),(8,vI sign)]) (fun o02 ho02=>?_) ?_
 · have H:=iS aO;refine yG ho02 ?_ ?_
   · intro aY N;exact zM<|yK [] [2] rfl<|yU<|zU (ct N H)
   intro aY N;exact zS<|yU<|zU (ct N H)
 intro at01 aV aA hMc2;have ⟨h,H⟩:=m2 aA h H;refine yW<|yE 2 [] [31,32] rfl ?_;obtain ⟨⟨y1,y2⟩,bc,N⟩:=zB hMc2;refine xE (zC9 s at01 _ bc ) ?_;rintro bx aw v2 k2 aK - ⟨v0,v01,rfl,rfl,rfl,rfl⟩ -;have ⟨h,H⟩:=m2 aK h H;refine yK [] [9,10] rfl<|vW [11] rfl<|zZ<|yA ?_;refine wZ N [hB b1 [z0,vI 0],hB b (cAff a0 p c)] (fun t51=>[(1,vT s.l),(2,vI at01),(3,vP b 0),(6,vP b1 0),(8,vI sign),(9,vI y1),(10,vI y2),(11,vI y2),(51,.bool t51)]) (fun o03 ho03=>?_) ?_
 · have H:=iS bx;refine zM<|yE 4 [] [40] rfl<|wL [40] ho03 ?_ ?_
   · intro bC N;refine yE 10 [] [46] rfl<|wL [46] N ?_ ?_
     · intro bJ N;exact yE 12 [] [47,48] rfl<|bE N fun b5 bu N=>zBm rfl rfl bu<|yK [] [51] rfl<|yU<|zU (ct N H)
     intro bJ N;exact wR [] [(51,vF)]<|yU<|zU (ct N H)
   intro bC N;exact wR [] [(51,vF)]<|yU<|zU (ct N H)
 intro t51 bD aX hMc3;have ⟨h,H⟩:=m2 aX h H;refine zK ?_;refine wZ hMc3 [hB b1 [z0,vI 0],hB b (cAff a0 p c)] (fun star=>[(1,vT s.l),(2,vI at01),(3,vP b 0),(6,vP b1 0),(8,vI sign),(9,vI y1),(10,vI y2),(11,vI star)]) (fun o04 ho04=>?_) ?_
 · have H:=iS bD;refine yG ho04 ?_ ?_
   · intro hc5 N;exact zM<|yK [] [11] rfl<|yU<|zU (ct N H)
   intro hc5 N;exact zS<|yU<|zU (ct N H)
 intro star bI bf hMc4;have ⟨h,H⟩:=m2 bf h H;refine yW<|yE 2 [] [54,55] rfl ?_;obtain ⟨y3,bz,N⟩:=zB hMc4;refine dP (zIZ s star _ bz ) ?_;intro I06 bt;have ⟨h,H⟩:=m2 bt h H;refine yK [] [12] rfl<|zZ<|bE N fun l hy6 N=>wO [.x (fun I' v hx=>∃ b6,v=vS (some ⟨b6,0,none⟩) ([]:List Int) 0/\hx=[hO Int (vS (some ⟨b6,0,none⟩) ([]:List Int) 0) []]/\(RL I' [] ([]:List Int))),.p (vP b 0) [],.p (vS p a0.Coefs c) [1],.x (fun I' v hx=>∃ p1 c1 cs,v=vS p1 l c1/\hx=[hO Int (vS p1 l c1) cs]/\(RL I' cs l)),.p (vP b 1) [],.p (vI a0.Const) [1],.x (fun I' v hx=>∃ aJ aW av,v=vA [vS aJ l aW,vI a0.Const]/\hx=[hO Int (vS aJ l aW) av]/\(RL I' av l)),.x (fun I' v hx=>∃ b7,v=vP b7 0/\hx=[hB b7 [z0,vI 0]])] [[],[],[(1,false)],[(0,true),(2,false)],[],[(4,false)],[(3,true),(5,false)],[]] [hB b1 [z0,vI 0],hB b (cAff a0 p c)] [] [(6,true),(7,true)] (zY [0,1]) ?_ ?_
 · refine Ox ?_<|O2<|Ox ?_<|O2<|Ox ?_<|Ox ?_<|On
   · intro I1 hf aa;refine I_h []<|uV [] Int ?_;intro b6 hb2;have h4:RL I1 [] ([]:List Int):=rfl;exact yL [hO Int (vS (some ⟨b6,0,none⟩) ([]:List Int) 0) []] iR ⟨_,rfl,rfl,h4⟩
   · rintro I1 hf aa _ _ ⟨b6,rfl,rfl,h4⟩;refine yX [57,59] rfl ?_;have h:=h.mono aa;obtain ⟨aL,k0,k01⟩:=h;have h:SL I1 (vS p a0.Coefs c) a0.Coefs:=⟨_,k0,k01⟩;exact rF 3 1 0 rfl rfl rfl h4 (.inl k0) k01 hy6 fun p1 c1 cs h5=>wX (af:=(hO Int (vS p1 l c1) cs::hB b1 [z0,vI 0]::hB b (cAff a0 p c)::hf)) rfl<|yL [hO Int (vS p1 l c1) cs] iR ⟨_,_,_,rfl,rfl,h5⟩
   · rintro I1 hf aa _ _ ⟨p1,c1,cs,rfl,rfl,h5⟩;exact yX [60,62] rfl<|pE 7 [(63,vA [vS p1 l c1,vI a0.Const])]<|yL [hO Int (vS p1 l c1) cs] iR ⟨_,_,_,rfl,rfl,h5⟩
   intro I1 hf aa;refine I_h []<|xU [z0,vI 0] ?_;intro b7 hb3;exact yL [hB b7 [z0,vI 0]] iR ⟨_,rfl,rfl⟩
 rintro I07 le7 _ _ ⟨aJ,aW,av,rfl,rfl,h51⟩ _ _ ⟨b7,rfl,rfl⟩;refine yX [2,3,6,8,9,10,11,12,13,63] rfl ?_;have ⟨h,H⟩:=m2 le7 h H;refine yY 0 [vS aJ l aW,vI a0.Const] rfl<|zX rfl<|zZ<|yA ?_;refine wZ N [hB b7 [vS aJ l aW,vI a0.Const],hO Int (vS aJ l aW) av,hB b1 [z0,vI 0],hB b (cAff a0 p c)] (fun t75=>[(2,vI at01),(3,vP b 0),(6,vP b1 0),(8,vI sign),(9,vI y1),(10,vI y2),(11,vI star),(12,vI y3),(13,vP b7 0),(75,.bool t75)]) (fun o05 ho05=>?_) ?_
 · have H:=iS I07;refine zM<|yE 3 [] [66] rfl<|wL [66] ho05 ?_ ?_
   · intro hc6 N;refine yE 7 [] [70] rfl<|wL [70] N ?_ ?_
     · intro hc7 N;exact wR [] [(75,vY)]<|yU<|zU (ct N H)
     intro hc7 N;exact yK [] [75] rfl<|yU<|zU (ct N H)
   intro hc6 N;exact wR [] [(75,vF)]<|yU<|zU (ct N H)
 intro t75 I08 le8 hMc5;have ⟨h51,h⟩:=m2 le8 h51 h;refine zK<|yG hMc5 ?_ ?_
 · intro hc8 N;refine yA<|bE N fun x hy7 N=>wO [.p (vP b7 0) [],.p (vS aJ l aW) [0],.p (vI y3) [],.p (vP b7 0) [],.p (vS aJ l aW) [0],.p (vI y3) [],.x (fun I' v hx=>∃ ad,v=.pointer (some ad)/\hx=[]/\(AtO (vS aJ l aW) (Rp.sz Int) y3.toNat ad)/\((av.drop (y3.toNat*Rp.sz Int)).take (Rp.sz Int)=[vI x])),.q (vI x),.p (vI sign) [],.p (vI y1) [],.p (vI (W (sign*y1))) [],.p (vI (W (x+(W (sign*y1))))) []] [[],[(0,false)],[],[],[(3,false)],[],[(4,false),(5,false)],[(6,false)],[],[],[(8,false),(9,false)],[(7,false),(10,false)]] [hB b7 [vS aJ l aW,vI a0.Const],hO Int (vS aJ l aW) av,hB b1 [z0,vI 0],hB b (cAff a0 p c)] [] [(1,false),(2,false),(11,false)] (zY [0,1,2,3]) ?_ ?_
   · refine O4<|O2<|Ox ?_<|Oq ?_<|O4<|On
     · intro I1 hf aa;refine yX [80,81] rfl ?_;have h51:=iM aa h51;refine mA 1 rfl rfl rfl h51 hy7 ?_;intro ad bm al bG aj;obtain rfl:=aj;exact yL [] iR ⟨_,rfl,rfl,al,bG⟩
     rintro I1 hf aa _ _ ⟨ad,rfl,rfl,al,bG⟩;exact yX [82] rfl<|zCR 1 0 al bG [vI x] (vI x) rfl rfl<|xD iR
   intro I09 le9;refine yX [6,11,13,77,78,87] rfl ?_;have h51:=iM le9 h51;obtain ⟨x1,hy8,N⟩:=zB N;refine mA 1 rfl rfl rfl h51 hy8 ?_;intro ad1 bK au hcc1 ax;obtain rfl:=ax;obtain ⟨l1,hy9,N⟩:=zB N;refine fA (c:=[vI (W (x+(W (sign*y1))))]) (x':=(W (x+(W (sign*y1))))) 1 0 rfl rfl rfl au rfl rfl hcc1 (by kernel_rfl) (by kernel_rfl) (by kernel_rfl) h51 hy8 (by kernel_rfl) rfl ?_;rw [show l.set y3.toNat (W (x+(W (sign*y1))))=l1 from zD hy9];intro aP h6 hl0;rw [vE hl0];refine zX rfl<|yW<|tL 3 [0] [(89,vA [vS aJ l1 aW,vI a0.Const]),(91,vI (W (star+1)))]<|yY 2 [vS aJ l1 aW,vI a0.Const] rfl<|yK [] [7] rfl<|xF<|zJ<|xB 1 rfl ?_;intro bL le10 hl01;have h7:=SL.of_frozen hl01 le10 h6;exact xO N (resE 1 rfl rfl rfl) zP ⟨_,_,rfl,rfl,⟨_,rfl,(yJ ⟨_,rfl,h7⟩)⟩,rfl⟩
 intro hc8 N;refine zS<|zZ<|yH [94] rfl<|zK<|yG N ?_ ?_
 · intro hc9 N;refine yB<|tL 1 [3] [(95,vA (cAff a0 p c))]<|yY 2 (cAff a0 p c) rfl<|yK [] [7] rfl<|xF<|zJ ?_;exact xO N (resE 2 rfl rfl rfl) zP ⟨_,_,rfl,rfl,⟨_,rfl,(yJ ⟨_,rfl,h⟩)⟩,rfl⟩
 intro hc9 N;refine zS<|yW<|yE 7 [0] [101,102] rfl<|yY 0 [vS aJ l aW,vI (W (a0.Const+(W (sign*y1))))] rfl<|zX rfl<|yW<|tL 2 [0] [(103,vA [vS aJ l aW,vI (W (a0.Const+(W (sign*y1))))]),(104,vI y2)]<|yY 2 [vS aJ l aW,vI (W (a0.Const+(W (sign*y1))))] rfl<|yK [] [7] rfl<|xF<|xB 1 rfl ?_;intro bR le11 hl02;have h8:=SL.of_frozen hl02 le11 h51;exact xO N (resE 1 rfl rfl rfl) zP ⟨_,_,rfl,rfl,⟨_,rfl,(yJ ⟨_,rfl,h8⟩)⟩,rfl⟩
def zT (r:Bool):KT:=fun kk I' af v=>
  ∃ v0,af=[]/\v=tupV [v0]/\v0=.bool r
def tA (n0:Int) (most:Int):Option (Bool):=do
 let t4<-(do
   if (decide (n0>=(W (0 - most)))) then pure (decide (n0<=most))
   else
    pure false
     : Option Bool)
 pure (id t4)
theorem zAt:∀ n0 most r,tA n0 most=some r->∀ {I:Imm} ,RT 152 [vI n0,vI most] I [] (zT  r):=by
 intro n0 most r N I;unfold tA at N;refine yI func152 fun B=>?_;have H:=iS I;refine wT []<|zK<|yA ?_;refine wZ N [] (fun t4=>[(4,.bool t4)]) (fun o0 az=>?_) ?_
 · have H:=iS I;refine zM<|yE 5 [] [9] rfl<|wL [9] az ?_ ?_
   · intro hc N;exact yK [] [4] rfl<|yU<|zU (ct N H)
   intro hc N;exact wR [] [(4,vF)]<|yU<|zU (ct N H)
 intro t4 I0 le aT;refine zK<|xA ?_;obtain rfl:=zD aT;exact vV
def vM (a0:zA) (i:Int):Option (Out Unit (Bool)):=do
 if (decide (i<(a0.Coefs.length:Int))) then
  let x<-idx a0.Coefs i;let y<-tA x 9;if (!y) then pure (.ret false)
  else vM a0 (W (i+1))
 else pure (.done ())
 partial_fixpoint
theorem zDB (a0:zA):∀ (i:Int) (o:Out Unit (Bool)),vM a0 i=some o->∀ {B}{I0 I:Imm}{Q p c}{b},I0.le I->(S4 I p a0.Coefs c)->NG Q->NO Q->(∀ I',o=(.done ())->I0.le I'->T 27 B Q (.exit 0) I' [hB b (cAff a0 p c)] [(1,vP b 0)])->(∀ r I' af m',o=(.ret r)->I0.le I'->RS Tryz.prog f159 B (zT  r) I' af m'->T 27 B Q .ret I' af m')->J Tryz.prog 27 B (nav (bodyOf f159) [1,0,1,0]) Q I [hB b (cAff a0 p c)] [(1,vP b 0),(3,vI i)]:=by
 refine vM.partial_correctness a0 _ fun aE ih i o N B I0 I Q p c b H h hg ho hx hr=>yQ hg ho<|yA<|yB<|yK [0] [8] rfl<|zK<|yG N ?_ ?_
 · intro hc N;refine zS<|zZ<|yF<|yB<|yE 3 [0] [12,13] rfl<|bE N fun x hy N=>xR rfl rfl h hy ?_;intro ad aL al aj;obtain rfl:=aj;refine xH 0 al [vI x] (vI x) rfl<|bE N fun y ay N=>tH (zAt x 9 _ ay ) ?_;intro I0 le;have ⟨h,H⟩:=m2 le h H;refine yK [] [17] rfl<|zK<|yG N ?_ ?_
   · intro aH N;exact wT [(2,vF)]<|xF<|zV<|zJ<|zJ<|hr _ _ _ _ (zD N).symm H ⟨_,_,(resT rfl),zP,⟨_,rfl,rfl,rfl⟩⟩
   intro aH N;exact zS<|zO<|zK<|zM<|yK [] [3] rfl<|yP<|oT<|ih (W (i+1)) _ N H h hg ho hx hr
 intro hc N;exact wP<|yU<|hx _  (zD N).symm H
def tM (a0:zA):Option (Bool):=do
 match<-vM a0 0 with
 | .ret r0=>pure r0
 | .done _ =>
  let t2<-(do
    if ((a0.Coefs.length:Int)==4) then
     let y1<-tA a0.Const 99;pure (id y1)
    else
     pure false
      : Option Bool)
  pure (id t2)
theorem fM:∀ a0 r,tM a0=some r->∀ {I:Imm}{p c},(S4 I p a0.Coefs c)->RT 159 [vA (cAff a0 p c)] I [] (zT  r):=by
 intro a0 r N I p c h;unfold tM at N;refine yI func159 fun B=>?_;have H:=iS I;refine yB<|vJ (cAff a0 p c) ?_;intro b hb;refine wR [] []<|zZ<|yH [3] rfl<|wI<|qR [(1,vP b 0),(3,vI 0)] ?_;obtain ⟨o0,az,aF⟩:=zB N;refine zDB a0 0 o0 az iR h nG nO ?_ ?_
 · intro aO  heq aa;subst o0;have H:=H.trans aa;refine zR<|zK<|yA ?_;refine wZ aF [] (fun t2=>[(2,.bool t2)]) (fun aN aC=>?_) ?_
   · have H:=iS aO;refine zM<|yE 5 [0] [22] rfl<|wL [22] aC ?_ ?_
     · intro aY N;refine yE 7 [0] [24] rfl<|bE N fun y1 aG N=>tH (zAt a0.Const 99 _ aG ) ?_;intro bx aA;have H:=H.trans aA;exact yK [] [2] rfl<|wF zP<|yU<|zU (ct N H)
     intro aY N;exact wR [] [(2,vF)]<|wF zP<|yU<|zU (ct N H)
   intro t2 aV aK aT;refine zK<|xA ?_;obtain rfl:=zD aT;exact vV
 intro r0 I9 hs9 m9 aS le9 aU;subst aS;refine zV<|zJ ?_;obtain rfl:=zD aF;exact fO aU
def rM (r:Str):KT:=fun kk I' af v=>
  ∃ v0,af=[]/\v=tupV [v0]/\v0=.string ⟨⟨r.l⟩⟩
def mS (n01:Int) (out:Str):Option ((Int×Str)):=do
 if (decide (n01>9)) then
  let s1<-cat (⟨([(u8 (W (48+(n01.tmod 10))))]:List UInt8)⟩:Str) out;mS (W (n01.tdiv 10)) s1
 else pure (n01,out)
 partial_fixpoint
theorem zGC :∀ (n01:Int) (out:Str) (o:(Int×Str)),mS n01 out=some o->∀ {B}{I0 I:Imm}{Q}  ,I0.le I->NG Q->NO Q->(∀ I' n02 ah,o=(n02,ah)->I0.le I'->T 31 B Q (.exit 0) I' [] [(0,vI n02),(3,vT ah.l)])->J Tryz.prog 31 B (nav (bodyOf f169) [1,1,1,1,0,0]) Q I [] [(0,vI n01),(3,vT out.l)]:=by
 refine mS.partial_correctness  _ fun aE ih n01 out o N B I0 I Q H hg ho hx=>yQ hg ho<|yA<|yH [13] rfl<|zK<|yG N ?_ ?_
 · intro aY N;refine zS<|wI<|yB<|yE 3 [] [16] rfl<|zQJ (d:=17) (i:=(W (48+(n01.tmod 10)))) rfl (by kernel_rfl)<|uV [.int .u8 ((u8 (W (48+(n01.tmod 10)))).toNat:Int)] UInt8 ?_;intro b hb;have h1:RL I [.int .u8 ((u8 (W (48+(n01.tmod 10)))).toNat:Int)] ([(u8 (W (48+(n01.tmod 10))))]:List UInt8):=⟨[.int .u8 ((u8 (W (48+(n01.tmod 10)))).toNat:Int)],_,rfl,rfl,rfl,rfl⟩;exact zMZ (l:=([(u8 (W (48+(n01.tmod 10))))]:List UInt8)) rfl rfl rfl rfl (by kernel_rfl) (by kernel_rfl) (.inr ⟨0,rfl⟩) h1<|yE 7 [] [20] rfl<|bE N fun s1 aG N=>fP rfl aG<|yK [] [3] rfl<|zK<|zM<|yK [] [0] rfl<|zO<|yP<|pU zP<|oT<|ih (W (n01.tdiv 10)) s1 _ N H  hg ho hx
 intro aY N;exact wP<|yU<|hx _ _ _ (zD N).symm H
def pW (n0:Int):Option (Str):=do
 if (decide (n0<(-9223372036854775807))) then pure (⟨[45,57,50,50,51,51,55,50,48,51,54,56,53,52,55,55,53,56,48,56]⟩:Str)
 else
  if (decide (n0<0)) then
   let y<-pW (W (0 - n0));let s<-cat (⟨[45]⟩:Str) y;pure (id s)
  else
   let (n02,ah)<-mS n0 (⟨[]⟩:Str);let s2<-cat (⟨([(u8 (W (48+n02)))]:List UInt8)⟩:Str) ah;pure (id s2)
 partial_fixpoint
theorem zAe:∀ n0 r,pW n0=some r->∀ {I:Imm} ,RT 169 [vI n0] I [] (rM  r):=by
 refine pW.partial_correctness _ fun F_spec_l16Dec ih_spec_l16Dec n0 r N I=>yI func169 fun B=>wT []<|zZ<|yH [5] rfl<|zK<|yG N ?_ ?_
 · intro hc N;refine yH [2] rfl<|xF<|zJ ?_;obtain rfl:=zD N;exact vV
 intro hc N;refine zS<|zZ<|yH [7] rfl<|zK<|yG N ?_ ?_
 · intro aH N;refine yB<|yE 2 [] [9] rfl<|bE N fun y hy N=>xE (ih_spec_l16Dec (W (0 - n0)) _ hy ) ?_;rintro I0 aw v2 k2 le - ⟨v0,rfl,rfl,rfl⟩ -;obtain ⟨s,ay,N⟩:=zB N;refine fP rfl ay<|yK [] [2] rfl<|xF<|zJ ?_;obtain rfl:=zD N;exact vV
 intro aH N;refine zS<|vW [3] rfl<|zZ<|yF<|qR [(0,vI n0),(3,vT ([]))] ?_;obtain ⟨o0,az,aF⟩:=zB N;refine zGC n0 (⟨[]⟩:Str) o0 az iR  nG nO ?_;intro aO n02 ah heq aa;subst o0;refine zR<|yW<|yE 2 [] [25] rfl<|zQJ (d:=26) (i:=(W (48+n02))) rfl (by kernel_rfl)<|uV [.int .u8 ((u8 (W (48+n02))).toNat:Int)] UInt8 ?_;intro b1 hb1;have h2:RL aO [.int .u8 ((u8 (W (48+n02))).toNat:Int)] ([(u8 (W (48+n02)))]:List UInt8):=⟨[.int .u8 ((u8 (W (48+n02))).toNat:Int)],_,rfl,rfl,rfl,rfl⟩;refine zMZ (l:=([(u8 (W (48+n02)))]:List UInt8)) rfl rfl rfl rfl (by kernel_rfl) (by kernel_rfl) (.inr ⟨0,rfl⟩) h2<|yE 6 [] [29] rfl ?_;obtain ⟨s2,bc,N⟩:=zB aF;refine fP rfl bc<|yK [] [2] rfl<|zK<|xA ?_;obtain rfl:=zD N;exact vV
def dC (n0:Int) (name:Str):Option (Str):=do
 let (n01,sign)<-(do
   if (decide (n0<0)) then pure ((W (0 - n0)),(⟨[45]⟩:Str))
   else
    pure (n0,(⟨[43]⟩:Str))
     : Option (Int×Str))
 if (name.l==([]:List UInt8)) then
  let y<-pW n01;let s<-cat sign y;pure (id s)
 else
  if (n01==1) then
   let s1<-cat sign name;pure (id s1)
  else
   let y1<-pW n01;let s2<-cat sign y1;let s3<-cat s2 (⟨[42]⟩:Str);let s4<-cat s3 name;pure (id s4)
theorem zDw:∀ n0 name r,dC n0 name=some r->∀ {I:Imm} ,RT 204 [vI n0,vT name.l] I [] (rM  r):=by
 intro n0 name r N I;unfold dC at N;refine yI func204 fun B=>?_;have H:=iS I;refine wT []<|vW [5] rfl<|zZ<|yH [7] rfl<|zK ?_;obtain ⟨o0,az,aT⟩:=zB N;refine oW (fun I' af m'=>∃ (n01:Int) (sign:Str),o0=(n01,sign)/\I.le I'/\af=[]/\m'=[(0,vI n01),(1,vT name.l),(5,vT sign.l)]) ?_ ?_
 · have H:=iS I;refine yG az ?_ ?_
   · intro hc N;exact yH [5] rfl<|zK<|zM<|yK [] [0] rfl<|yU<|zU ⟨_,_,(zD N).symm,H,rfl,rfl⟩
   intro hc N;exact zS<|yU<|zU ⟨_,_,(zD N).symm,H,rfl,rfl⟩
 rintro I0 aw m2 ⟨n01,sign,heq,le,rfl,rfl⟩;subst o0;refine zZ<|yH [11] rfl<|zK<|yG aT ?_ ?_
 · intro aH N;refine yB<|yE 2 [] [12,13] rfl<|bE N fun y hy N=>xE (zAe n01 _ hy ) ?_;rintro aO aw v2 k2 aa - ⟨v0,rfl,rfl,rfl⟩ -;obtain ⟨s,ay,N⟩:=zB N;refine fP rfl ay<|yK [] [4] rfl<|xF<|zJ ?_;obtain rfl:=zD N;exact vV
 intro aH N;refine zS<|zZ<|yH [17] rfl<|zK<|yG N ?_ ?_
 · intro aY N;refine yB<|yE 2 [] [18,19] rfl<|bE N fun s1 aG N=>fP rfl aG<|yK [] [4] rfl<|xF<|zJ ?_;obtain rfl:=zD N;exact vV
 intro aY N;refine zS<|yW<|yE 2 [] [21,22] rfl<|bE N fun y1 bc N=>xE (zAe n01 _ bc ) ?_;rintro aV aw v2 k2 aA - ⟨v01,rfl,rfl,rfl⟩ -;obtain ⟨s2,bu,N⟩:=zB N;refine fP rfl bu<|bE N fun s3 bz N=>fP rfl bz<|yE 6 [] [26] rfl<|bE N fun s4 hy6 N=>fP rfl hy6<|yK [] [4] rfl<|zK<|xA ?_;obtain rfl:=zD N;exact vV
def mT (a0:zA) (out:Str) (i:Int):Option (Str):=do
 if (decide (i<(a0.Coefs.length:Int))) then
  let x<-idx a0.Coefs i;let ap<-(do
    if (x != 0) then
     let x1<-idx a0.Coefs i;let s<-sslc (⟨[105,106,107,108]⟩:Str) i (W (i+1));let y<-dC x1 s;let s1<-cat out y;pure (id s1)
    else
     pure (id out)
      : Option Str)
  mT a0 ap (W (i+1))
 else pure (id out)
 partial_fixpoint
theorem zGD (a0:zA):∀ (out:Str) (i:Int) (o:Str),mT a0 out i=some o->∀ {B}{I0 I:Imm}{Q p c}{b},I0.le I->(S4 I p a0.Coefs c)->NG Q->NO Q->(∀ I' ah,o=ah->I0.le I'->T 46 B Q (.exit 0) I' [hB b (cAff a0 p c)] [(1,vP b 0),(3,vT ah.l)])->J Tryz.prog 46 B (nav (bodyOf f193) [1,1,0,1,0]) Q I [hB b (cAff a0 p c)] [(1,vP b 0),(3,vT out.l),(4,vI i)]:=by
 refine mT.partial_correctness a0 _ fun aE ih out i o N B I0 I Q p c b H h hg ho hx=>yQ hg ho<|yA<|yB<|yK [0] [9] rfl<|zK<|yG N ?_ ?_
 · intro hc N;refine zS<|zZ<|yF<|yB<|yE 3 [0] [13,14] rfl<|bE N fun x hy N=>xR rfl rfl h hy ?_;intro ad aL al aj;obtain rfl:=aj;refine xH 0 al [vI x] (vI x) rfl<|yK [] [17] rfl<|zK ?_;refine wZ N [hB b (cAff a0 p c)] (fun ap=>[(1,vP b 0),(3,vT ap.l),(4,vI i)]) (fun o0 az=>?_) ?_
   · have H:=iS I;refine yG az ?_ ?_
     · intro aH N;obtain ⟨x1,ay,N⟩:=zB N;obtain ⟨s,aG,N⟩:=zB N;obtain ⟨y,bc,N⟩:=zB N;obtain ⟨s1,bu,N⟩:=zB N;refine wO [.p (vT out.l) [],.p (vP b 0) [],.p (vS p a0.Coefs c) [0],.p (vI i) [],.x (fun I' v hx=>∃ ad1,v=.pointer (some ad1)/\hx=[]/\(At I' ad1 [vI x1])),.q (vI x1),.p (vI i) [],.p (vI i) [],.p (vI (W (i+1))) [],.q (vT s.l),.q (vT y.l),.q (vT s1.l)] [[],[],[(1,false)],[],[(2,false),(3,false)],[(4,false)],[],[],[(7,false)],[(6,false),(8,false)],[(5,false),(9,false)],[(0,false),(10,false)]] [hB b (cAff a0 p c)] [] [(11,false)] (zY [0]) ?_ ?_
       · refine O4<|Ox ?_<|Oq ?_<|O3<|Oq ?_<|Oq ?_<|Oq ?_<|On
         · intro I1 hf aa;refine yX [20,21] rfl ?_;have h:=h.mono aa;refine xR rfl rfl h ay ?_;intro ad1 bm au ax;obtain rfl:=ax;exact yL [] iR ⟨_,rfl,rfl,au⟩
         · rintro I1 hf aa _ _ ⟨ad1,rfl,rfl,au⟩;exact yX [22] rfl<|xH 0 au [vI x1] (vI x1) rfl<|xD iR
         · intro I1 hf aa;exact yX [24,26] rfl<|zJM rfl aG<|xD iR
         · intro I1 hf aa;refine yX [23,27] rfl ?_;have H:=iS I1;refine xE (zDw x1 s _ bc ) ?_;rintro aO aw v2 k2 le - ⟨v0,rfl,rfl,rfl⟩ -;have H:=H.trans le;exact xD H
         intro I1 hf aa;exact yX [18,28] rfl<|fP rfl bu<|xD iR
       intro aV aa;refine yX [1,4,29] rfl ?_;have H:=H.trans aa;exact yK [] [3] rfl<|yU<|zU (ct N H)
     intro aH N;exact zS<|yU<|zU (ct N H)
   intro ap I0 aA aT;have ⟨h,H⟩:=m2 aA h H;exact zO<|zK<|zM<|yK [] [4] rfl<|yP<|oT<|ih ap (W (i+1)) _ aT H h hg ho hx
 intro hc N;exact wP<|yU<|hx _ _ (zD N).symm H
def fC (a0:zA):Option (Str):=do
 let ah<-mT a0 (⟨[]⟩:Str) 0;let bb<-(do
   if (a0.Const != 0) then
    let y1<-dC a0.Const (⟨[]⟩:Str);let s2<-cat ah y1;pure (id s2)
   else
    pure (id ah)
     : Option Str)
 if (bb.l==([]:List UInt8)) then pure (⟨[48]⟩:Str)
 else
  let s3<-sslc bb 0 1;if (s3.l==([43]:List UInt8)) then
   let s4<-sslc bb 1 (bb.l.length:Int);pure (id s4)
  else pure (id bb)
theorem zB9:∀ a0 r,fC a0=some r->∀ {I:Imm}{p c},(S4 I p a0.Coefs c)->RT 193 [vA (cAff a0 p c)] I [] (rM  r):=by
 intro a0 r N I p c h;unfold fC at N;refine yI func193 fun B=>?_;have H:=iS I;refine yB<|vJ (cAff a0 p c) ?_;intro b hb;refine wR [] []<|vW [3] rfl<|zZ<|yH [4] rfl<|wI<|qR [(1,vP b 0),(3,vT ([])),(4,vI 0)] ?_;obtain ⟨aN,aC,aF⟩:=zB N;refine zGD a0 (⟨[]⟩:Str) 0 aN aC iR h nG nO ?_;intro bx ah heq1 aK;subst aN;have H:=H.trans aK;refine zR<|zZ<|yB<|yK [0] [32] rfl<|zK ?_;refine wZ aF [] (fun bb=>[(3,vT bb.l)]) (fun o02 ho02=>?_) ?_
 · have H:=iS bx;refine yG ho02 ?_ ?_
   · intro aY N;refine zM<|yE 3 [0] [33,35] rfl<|bE N fun y1 bz N=>xE (zDw a0.Const (⟨[]⟩:Str) _ bz ) ?_;rintro bI aw v2 k2 aX - ⟨v01,rfl,rfl,rfl⟩ -;have H:=H.trans aX;obtain ⟨s2,hy6,N⟩:=zB N;exact fP rfl hy6<|yK [] [3] rfl<|wF zP<|yU<|zU (ct N H)
   intro aY N;exact zS<|wF zP<|yU<|zU (ct N H)
 intro bb bD bf hMc1;refine zZ<|yH [39] rfl<|zK<|yG hMc1 ?_ ?_
 · intro bC N;refine yH [2] rfl<|xF<|zJ ?_;obtain rfl:=zD N;exact vV
 intro bC N;refine zS<|zZ<|yB<|yE 1 [] [40] rfl<|bE N fun s3 hy7 N=>zJM rfl hy7<|yK [] [42] rfl<|zK<|yG N ?_ ?_
 · intro bJ N;refine yB<|yE 1 [] [43] rfl<|bE N fun s4 hy8 N=>zJM rfl hy8<|yK [] [2] rfl<|xF<|zJ ?_;obtain rfl:=zD N;exact vV
 intro bJ N;refine zS<|vW [2] rfl<|zK<|xA ?_;obtain rfl:=zD N;exact vV
def jF (a0:zA):Option (Str):=do
 let y<-tM a0;if (!y) then pure (⟨[]⟩:Str)
 else
  let y1<-fC a0;pure (id y1)
theorem zDx:∀ a0 r,jF a0=some r->∀ {I:Imm}{p c},(S4 I p a0.Coefs c)->RT 213 [vA (cAff a0 p c)] I [] (rM  r):=by
 intro a0 r N I p c h;unfold jF at N;refine yI func213 fun B=>yB<|vJ (cAff a0 p c) ?_;intro b hb;refine wR [] []<|zZ<|yB<|tL 1 [0] [(3,vA (cAff a0 p c))]<|bE N fun y hy N=>tH (fM a0 _ hy h) ?_;intro I0 le;have h:=h.mono le;refine yK [] [5] rfl<|zK<|yG N ?_ ?_
 · intro hc N;refine yH [2] rfl<|xF<|zJ ?_;obtain rfl:=zD N;exact vV
 intro hc N;refine zS<|yW<|tL 1 [0] [(6,vA (cAff a0 p c))]<|bE N fun y1 ay N=>xE (zB9 a0 _ ay h) ?_;rintro aO aw v2 k2 aa - ⟨v01,rfl,rfl,rfl⟩ -;refine yK [] [2] rfl<|zK<|xA ?_;obtain rfl:=zD N;exact vV
def zD8 (r:zA×Bool):KT:=fun kk I' af v=>
  ∃ v0 v1,af=[]/\v=tupV [v0,v1]/\(∃ cs,v0=.agg ⟨cs⟩/\Rp.rep I' cs r.1)/\v1=.bool r.2
def pV (bi:Str) (at0:Int) (x:zA):Option (zA):=do
 let t18<-(do
   if (decide (at0>=0)) then pure (decide (at0<(bi.l.length:Int)))
   else
    pure false
     : Option Bool)
 if t18 then
  let (y2,y3)<-dU x bi at0;pV bi y3 y2
 else pure (id x)
 partial_fixpoint
theorem zDC (bi:Str):∀ (at0:Int) (x:zA) (o:zA),pV bi at0 x=some o->∀ {B}{I0 I:Imm}{Q}  {b b1}{p1 c1},I0.le I->(S4 I p1 x.Coefs c1)->NG Q->NO Q->(∀ I' x1 p2 c2,o=x1->I0.le I'->(S4 I' p2 x1.Coefs c2)->T 32 B Q (.exit 0) I' [hB b1 (cAff x1 p2 c2),hB b [z0,vI 0]] [(0,vT bi.l),(2,vP b 0),(4,vP b1 0)])->J Tryz.prog 32 B (nav (bodyOf f200) [1,1,1,1,0,0]) Q I [hB b1 (cAff x p1 c1),hB b [z0,vI 0]] [(0,vT bi.l),(2,vP b 0),(4,vP b1 0),(5,vI at0)]:=by
 refine pV.partial_correctness bi _ fun aE ih at0 x o N B I0 I Q b b1 p1 c1 H h2 hg ho hx=>yQ hg ho<|yA<|yA ?_;refine wZ N [hB b1 (cAff x p1 c1),hB b [z0,vI 0]] (fun t18=>[(0,vT bi.l),(2,vP b 0),(4,vP b1 0),(5,vI at0),(18,.bool t18)]) (fun o0 az=>?_) ?_
 · have H:=iS I;refine zM<|yE 3 [] [13] rfl<|wL [13] az ?_ ?_
   · intro aH N;exact yK [] [18] rfl<|yU<|zU (ct N H)
   intro aH N;exact wR [] [(18,vF)]<|yU<|zU (ct N H)
 intro t18 aV aA aT;have ⟨h2,H⟩:=m2 aA h2 H;refine zK<|yG aT ?_ ?_
 · intro aY N;refine zS<|wI<|zM<|tL 3 [0] [(20,vA (cAff x p1 c1)),(21,vT bi.l),(22,vI at0)] ?_;obtain ⟨⟨y2,y3⟩,ay,N⟩:=zB N;refine xE (zH8 x bi at0 _ ay h2) ?_;rintro bx aw v2 k2 aK - ⟨v0,v01,rfl,rfl,⟨av,rfl,h4⟩,rfl⟩ -;have H:=H.trans aK;obtain ⟨p3,c3,rfl,h6⟩:=yD h4;exact yE 7 [] [24,25] rfl<|yY 0 (cAff y2 p3 c3) rfl<|yK [] [5] rfl<|zO<|yP<|oT<|ih y3 y2 _ N H h6 hg ho hx
 intro aY N;exact wP<|yU<|hx _ _ _ _ (zD N).symm H h2
def mU (bi:Str):Option (zA×Bool):=do
 let y<-kM;if (decide ((bi.l.length:Int)>40)) then pure ((zA.mk ([]:List Int) 0),false)
 else
  let x1<-pV bi 0 (zA.mk y.Coefs y.Const);let y4<-jF x1;if (!(y4.l==bi.l)) then pure ((zA.mk ([]:List Int) 0),false)
  else pure (x1,true)
theorem zBP:∀ bi r,mU bi=some r->∀ {I:Imm} ,RT 200 [vT bi.l] I [] (zD8  r):=by
 intro bi r N I;unfold mU at N;refine yI func200 fun B=>yB<|xU [z0,vI 0] ?_;intro b hb;refine wR [] []<|yW<|bE N fun y hy N=>xE (fS  _ hy ) ?_;rintro I0 aw v2 k2 le - ⟨p,c,cs,rfl,rfl,h⟩ -;refine xU [z0,vI 0] ?_;intro b1 hb1;refine yY 0 (cAff y p c) rfl<|zX rfl<|zZ<|yH [9] rfl<|zK<|yG N ?_ ?_
 · intro hc N;refine yB<|yE 1 [] [10] rfl<|yY 2 [z0,vI 0] rfl<|wR [] [(3,vF)]<|xF<|zJ ?_;exact xO N (resE 2 rfl rfl rfl) zP ⟨_,_,rfl,rfl,⟨_,rfl,(yJ ⟨_,rfl,(SL.nil _)⟩)⟩,rfl⟩
 intro hc N;refine zS<|vW [5] rfl<|zZ<|yF<|pD 1 rfl ?_;intro aO aa hl0;have h1:=SL.of_frozen hl0 aa h;refine qR [(0,vT bi.l),(2,vP b 0),(4,vP b1 0),(5,vI 0)] ?_;obtain ⟨aN,aC,aF⟩:=zB N;refine zDC bi 0 (zA.mk y.Coefs y.Const) aN aC iR h1 nG nO ?_;intro bD x1 p2 c2 heq1 aX h3;subst aN;refine zR<|zZ<|yB<|tL 1 [0] [(26,vA (cAff x1 p2 c2))] ?_;obtain ⟨y4,aG,N⟩:=zB aF;refine xE (zDx x1 _ aG h3) ?_;rintro bI aw v2 k2 bf - ⟨v03,rfl,rfl,rfl⟩ -;have h3:=h3.mono bf;refine yK [] [29] rfl<|zK<|yG N ?_ ?_
 · intro bC N;refine yB<|yE 1 [] [30] rfl<|yY 1 [z0,vI 0] rfl<|wR [] [(3,vF)]<|xF<|zJ ?_;exact xO N (resE 1 rfl rfl rfl) zP ⟨_,_,rfl,rfl,⟨_,rfl,(yJ ⟨_,rfl,(SL.nil _)⟩)⟩,rfl⟩
 intro bC N;refine zS<|yW<|tL 1 [0] [(31,vA (cAff x1 p2 c2))]<|yY 1 (cAff x1 p2 c2) rfl<|wR [] [(3,vY)]<|zK<|xA ?_;exact xO N (resE 1 rfl rfl rfl) zP ⟨_,_,rfl,rfl,⟨_,rfl,(yJ ⟨_,rfl,h3⟩)⟩,rfl⟩
def dG (r:(List zA)):KT:=fun kk I' af v=>
  ∃ v0,af=[]/\v=tupV [v0]/\SL I' v0 r
def rX (y:(List Str)) (out:List zA) (i:Int):Option (List zA):=do
 let t18<-(do
   if (decide (i<(y.length:Int))) then pure (decide (i<=2))
   else
    pure false
     : Option Bool)
 if t18 then
  let x<-idx y i;let (y2,y3)<-mU x;let ap<-app 32 out ([y2]:List zA);rX y ap (W (i+1))
 else pure (id out)
 partial_fixpoint
theorem zDD (y:(List Str)):∀ (out:List zA) (i:Int) (o:List zA),rX y out i=some o->∀ {B}{I0 I:Imm}{Q p c p1 c1 cs},I0.le I->(S4 I p y c)->(RL I cs out)->NG Q->NO Q->(∀ I' ah p2 c2 av,o=ah->I0.le I'->(RL I' av ah)->T 34 B Q (.exit 0) I' [hO zA (vS p2 ah c2) av] [(3,vS p2 ah c2)])->J Tryz.prog 34 B (nav (bodyOf f188) [1,1,1,0,1,0]) Q I [hO zA (vS p1 out c1) cs] [(3,vS p1 out c1),(4,vS p y c),(5,vI i)]:=by
 refine rX.partial_correctness y _ fun aE ih out i o N B I0 I Q p c p1 c1 cs H h1 h2 hg ho hx=>yQ hg ho<|yA<|yA ?_;refine wZ N [hO zA (vS p1 out c1) cs] (fun t18=>[(3,vS p1 out c1),(4,vS p y c),(5,vI i),(18,.bool t18)]) (fun o0 az=>?_) ?_
 · have H:=iS I;refine zM<|yE 5 [] [15] rfl<|wL [15] az ?_ ?_
   · intro hc N;exact yK [] [18] rfl<|yU<|zU (ct N H)
   intro hc N;exact wR [] [(18,vF)]<|yU<|zU (ct N H)
 intro t18 aO aa aT;have ⟨h2,h1,H⟩:=m3 aa h2 h1 H;refine zK<|yG aT ?_ ?_
 · intro aH N;refine zS<|zZ<|yF<|yB<|yE 2 [] [22,23] rfl<|bE N fun x ay N=>xR rfl rfl h1 ay ?_;intro ad aL al aj;obtain rfl:=aj;refine xH 0 al [vT x.l] (vT x.l) rfl ?_;obtain ⟨⟨y2,y3⟩,aG,N⟩:=zB N;refine xE (zBP x _ aG ) ?_;rintro aV aw v2 k2 aA - ⟨v01,v02,rfl,rfl,⟨aP,rfl,h4⟩,rfl⟩ -;have ⟨h2,h1,H⟩:=m3 aA h2 h1 H;obtain ⟨p3,c3,rfl,h6⟩:=yD h4;refine yE 8 [] [27,28] rfl<|xU [z0,vI 0] ?_;intro b1 hb1;refine yY 0 (cAff y2 p3 c3) rfl<|wR [] []<|zK<|zM<|tL 2 [0] [(29,vS p1 out c1),(30,vA (cAff y2 p3 c3))]<|uV (cAff y2 p3 c3) zA ?_;intro b2 hb2;have h7:RL aV (cAff y2 p3 c3) ([y2]:List zA):=⟨(cAff y2 p3 c3),_,rfl,rfl,(yJ ⟨_,rfl,h6⟩),rfl⟩;obtain ⟨ap,bc,N⟩:=zB N;exact rF 69 2 2 rfl rfl rfl h2 (.inr ⟨0,rfl⟩) h7 bc fun p4 c4 aI h8=>tX (zY [1,2] (af:=[hB b1 (cAff y2 p3 c3),hO zA (vS p4 ap c4) aI]))<|yK [] [3] rfl<|zO<|zK<|zM<|yK [] [5] rfl<|yP<|pU (zW [1] rfl (by decide))<|oT<|ih ap (W (i+1)) _ N H h1 h8 hg ho hx
 intro aH N;exact wP<|yU<|hx _ _ _ _ _ (zD N).symm H h2
def oG (bi:Str):Option ((List zA)):=do
 let y<-fB bi (44:UInt8);let ah<-rX y ([]:List zA) 0;pure (id ah)
theorem zAR:∀ bi r,oG bi=some r->∀ {I:Imm} ,RT 188 [vT bi.l] I [] (dG  r):=by
 intro bi r N I;unfold oG at N;refine yI func188 fun B=>wT []<|yW<|uV [] zA ?_;intro b hb;have h:RL I [] ([]:List zA):=rfl;refine yK [] [3] rfl<|yW<|yE 1 [] [9] rfl<|bE N fun y hy N=>xE (zB8 bi (44:UInt8) _ hy ) ?_;rintro I0 aw v2 k2 le - ⟨v0,rfl,rfl,h1⟩ -;have h:=iM le h;obtain ⟨p,c,rfl⟩:=h1.form;refine yK [] [4] rfl<|zZ<|yH [5] rfl<|wI<|qR [(3,vS (some ⟨b,0,none⟩) ([]:List zA) 0),(4,vS p y c),(5,vI 0)] ?_;obtain ⟨aN,aC,aF⟩:=zB N;refine zDD y ([]:List zA) 0 aN aC iR h1 h nG nO ?_;intro bx ah p2 c2 av heq1 aK h3;subst aN;refine zR<|vW [2] rfl<|xF<|xB 0 rfl ?_;intro bD aX hl0;have h9:=SL.of_frozen hl0 aX h3;exact xO aF (resT rfl) zP ⟨_,rfl,rfl,h9⟩
def zCa (r:zF):KT:=fun kk I' af v=>
  ∃ v0,af=[]/\v=tupV [v0]/\(∃ cs,v0=.agg ⟨cs⟩/\Rp.rep I' cs r)
def zAU (line:Str):Option (zF):=do
 let y<-gH line;if ((y.length:Int) != 3) then pure (zF.mk ([]:List zA) ([]:List zA))
 else
  let x<-idx y 1;let y1<-oG x;let x1<-idx y 2;let y2<-oG x1;pure (zF.mk y1 y2)
theorem zI0:∀ line r,zAU line=some r->∀ {I:Imm} ,RT 167 [vT line.l] I [] (zCa  r):=by
 intro line r N I;unfold zAU at N;refine yI func167 fun B=>?_;have H:=iS I;refine yB<|xU zTwo ?_;intro b hb;refine zX rfl<|yW<|yE 1 [] [4] rfl<|bE N fun y hy N=>xE (zC8 line _ hy ) ?_;rintro I0 aw v2 k2 le - ⟨v0,rfl,rfl,h⟩ -;have H:=H.trans le;obtain ⟨p,c,rfl⟩:=h.form;refine yK [] [3] rfl<|zZ<|yH [8] rfl<|zK<|yG N ?_ ?_
 · intro hc N;refine yB<|yE 1 [] [9] rfl<|dE 0 zTwo [hB b zTwo] rfl rfl rfl rfl<|zX rfl<|xF<|zJ ?_;exact xO N (resC 0 rfl rfl) zP ⟨_,rfl,rfl,⟨_,rfl,(uJ ⟨_,_,rfl,(SL.nil _),(SL.nil _)⟩)⟩⟩
 intro hc N;refine zS<|zK<|yA ?_;obtain ⟨x,ay,N⟩:=zB N;obtain ⟨y1,aG,N⟩:=zB N;obtain ⟨x1,bc,N⟩:=zB N;obtain ⟨y2,bu,N⟩:=zB N;refine wO [.p (vS p y c) [],.x (fun I' v hx=>∃ ad,v=.pointer (some ad)/\hx=[]/\(At I' ad [vT x.l])),.q (vT x.l),.x (eS y1),.p (vS p y c) [],.x (fun I' v hx=>∃ ad1,v=.pointer (some ad1)/\hx=[]/\(At I' ad1 [vT x1.l])),.q (vT x1.l),.x (eS y2),.x (fun I' v hx=>∃ aJ aW p21 c21,v=vA [vS aJ y1 aW,vS p21 y2 c21]/\hx=[]/\(S4 I' aJ y1 aW)/\(S4 I' p21 y2 c21))] [[],[(0,false)],[(1,false)],[(2,false)],[],[(4,false)],[(5,false)],[(6,false)],[(3,false),(7,false)]] [hB b zTwo] [] [(8,false)] (zY [0]) ?_ ?_
 · refine Op<|Ox ?_<|Oq ?_<|Ox ?_<|Op<|Ox ?_<|Oq ?_<|Ox ?_<|Ox ?_<|On
   · intro I1 hf aa;refine yX [10] rfl ?_;have h:=h.mono aa;refine xR rfl rfl h ay ?_;intro ad aL al aj;obtain rfl:=aj;exact yL [] iR ⟨_,rfl,rfl,al⟩
   · rintro I1 hf aa _ _ ⟨ad,rfl,rfl,al⟩;exact yX [11] rfl<|xH 0 al [vT x.l] (vT x.l) rfl<|xD iR
   · intro I1 hf aa;refine yX [12] rfl ?_;have H:=iS I1;refine xE (zAR x _ aG ) ?_;rintro aO aw v2 k2 aa - ⟨v01,rfl,rfl,h1⟩ -;have H:=H.trans aa;obtain ⟨p1,c1,rfl⟩:=h1.form;exact yL [] H ⟨_,_,rfl,rfl,h1⟩
   · intro I1 hf aa;refine yX [14] rfl ?_;have h:=h.mono aa;refine xR rfl rfl h bc ?_;intro ad1 bm au ax;obtain rfl:=ax;exact yL [] iR ⟨_,rfl,rfl,au⟩
   · rintro I1 hf aa _ _ ⟨ad1,rfl,rfl,au⟩;exact yX [15] rfl<|xH 0 au [vT x1.l] (vT x1.l) rfl<|xD iR
   · intro I1 hf aa;refine yX [16] rfl ?_;have H:=iS I1;refine xE (zAR x1 _ bu ) ?_;rintro aV aw v2 k2 aA - ⟨v02,rfl,rfl,h2⟩ -;have H:=H.trans aA;obtain ⟨p2,c2,rfl⟩:=h2.form;exact yL [] H ⟨_,_,rfl,rfl,h2⟩
   rintro I1 hf aa _ _ ⟨p1,c1,rfl,rfl,h1⟩ _ _ ⟨p2,c2,rfl,rfl,h2⟩;exact yX [13,17] rfl<|pE 9 [(18,vA [vS p1 y1 c1,vS p2 y2 c2])]<|yL [] iR ⟨_,_,_,_,rfl,rfl,h1,h2⟩
 rintro bx aK _ _ ⟨aJ,aW,p21,c21,rfl,rfl,h11,h21⟩;refine yX [2,18] rfl ?_;refine yY 0 [vS aJ y1 aW,vS p21 y2 c21] rfl<|zX rfl<|zK<|xA ?_;exact xO N (resC 0 rfl rfl) zP ⟨_,rfl,rfl,⟨_,rfl,(uJ ⟨_,_,rfl,h11,h21⟩)⟩⟩
def oZ (s:Str) (end0:UInt8) (i:Int):Option (Out Unit (Int)):=do
 if (decide (i<(s.l.length:Int))) then
  let b<-sidx s i;if ((b.toNat:Int)==(end0.toNat:Int)) then pure (.ret i)
  else oZ s end0 (W (i+1))
 else pure (.done ())
 partial_fixpoint
theorem zFI (s:Str) (end0:UInt8):∀ (i:Int) (o:Out Unit (Int)),oZ s end0 i=some o->∀ {B}{I0 I:Imm}{Q}  ,I0.le I->NG Q->NO Q->(∀ I',o=(.done ())->I0.le I'->T 21 B Q (.exit 0) I' [] [])->(∀ r I' af m',o=(.ret r)->I0.le I'->RS Tryz.prog f201 B (xL  r) I' af m'->T 21 B Q .ret I' af m')->J Tryz.prog 21 B (nav (bodyOf f201) [1,0,1,0]) Q I [] [(0,vT s.l),(2,.int .u8 (end0.toNat:Int)),(7,vI i)]:=by
 refine oZ.partial_correctness s end0 _ fun aE ih i o N B I0 I Q H hg ho hx hr=>yQ hg ho<|yA<|yH [12] rfl<|zK<|yG N ?_ ?_
 · intro hc N;refine zS<|zZ<|yF<|yB<|yE 2 [] [15,16] rfl<|bE N fun b hy N=>zBm rfl rfl hy<|yK [] [19] rfl<|zK<|yG N ?_ ?_
   · intro aH N;exact yH [6] rfl<|xF<|zV<|zJ<|zJ<|hr _ _ _ _ (zD N).symm H ⟨_,_,(resT rfl),zP,⟨_,rfl,rfl,rfl⟩⟩
   intro aH N;exact zS<|zO<|zK<|zM<|yK [] [7] rfl<|yP<|oT<|ih (W (i+1)) _ N H  hg ho hx hr
 intro hc N;exact wP<|yU<|hx _  (zD N).symm H
def fU (s:Str) (at0:Int) (end0:UInt8):Option (Int):=do
 match<-oZ s end0 at0 with
 | .ret r0=>pure r0
 | .done _ =>
  pure (-1)
theorem zD4:∀ s at0 end0 r,fU s at0 end0=some r->∀ {I:Imm} ,RT 201 [vT s.l,vI at0,.int .u8 (end0.toNat:Int)] I [] (xL  r):=by
 intro s at0 end0 r N I;unfold fU at N;refine yI func201 fun B=>wT []<|zZ<|yH [7] rfl<|wI<|qR [(0,vT s.l),(2,.int .u8 (end0.toNat:Int)),(7,vI at0)] ?_;obtain ⟨o0,az,aF⟩:=zB N;refine zFI s end0 at0 o0 az iR  nG nO ?_ ?_
 · intro I0  heq le;subst o0;refine zR<|vW [6] rfl<|zK<|xA ?_;obtain rfl:=zD aF;exact vV
 intro r0 I9 hs9 m9 aS le9 aU;subst aS;refine zV<|zJ ?_;obtain rfl:=zD aF;exact fO aU
def zCb (r:zG×Int):KT:=fun kk I' af v=>
  ∃ v0 v1,af=[]/\v=tupV [v0,v1]/\(∃ cs,v0=.agg ⟨cs⟩/\Rp.rep I' cs r.1)/\v1=.int .i64 r.2
def oM (s:Str) (at0:Int):Option (zG×Int):=do
 let y<-fU s at0 (93:UInt8);let t20<-(do
   if (decide (y<(W (at0+2)))) then pure true
   else
    let b1<-sidx s (W (at0+1));pure ((b1.toNat:Int) != 91)
     : Option Bool)
 if t20 then pure ((zG.mk (⟨[]⟩:Str) ([]:List zA)),(-1))
 else
  let s1<-sslc s at0 (W (at0+1));let s2<-sslc s (W (at0+2)) y;let y1<-oG s2;pure ((zG.mk s1 y1),(W (y+1)))
theorem zAm:∀ s at0 r,oM s at0=some r->∀ {I:Imm} ,RT 189 [vT s.l,vI at0] I [] (zCb  r):=by
 intro s at0 r N I;unfold oM at N;refine yI func189 fun B=>?_;have H:=iS I;refine yB<|xU [vT ([]),z0] ?_;intro b hb;refine wR [] []<|yW<|yE 2 [] [7,8] rfl<|bE N fun y hy N=>dP (zD4 s at0 (93:UInt8) _ hy ) ?_;intro I0 le;have H:=H.trans le;refine yK [] [6] rfl<|zZ<|yA ?_;refine wZ N [hB b [vT ([]),z0]] (fun t20=>[(0,vT s.l),(1,vI at0),(4,vP b 0),(6,vI y),(20,.bool t20)]) (fun o0 az=>?_) ?_
 · have H:=iS I0;refine zM<|yE 5 [] [14] rfl<|wL [14] az ?_ ?_
   · intro hc N;exact wR [] [(20,vY)]<|yU<|zU (ct N H)
   intro hc N;exact yE 8 [] [15,17] rfl<|bE N fun b1 ay N=>zBm rfl rfl ay<|yK [] [20] rfl<|yU<|zU (ct N H)
 intro t20 aO aa aT;have H:=H.trans aa;refine zK<|yG aT ?_ ?_
 · intro aH N;refine yB<|yE 1 [] [21] rfl<|yY 0 [vT ([]),z0] rfl<|yK [] [5] rfl<|xF<|zJ ?_;exact xO N (resE 0 rfl rfl rfl) zP ⟨_,_,rfl,rfl,⟨_,rfl,(rK ⟨_,rfl,(SL.nil _)⟩)⟩,rfl⟩
 intro aH N;refine zS<|zK<|yA ?_;obtain ⟨s1,aG,N⟩:=zB N;obtain ⟨s2,bc,N⟩:=zB N;obtain ⟨y1,bu,N⟩:=zB N;refine wO [.p (vT s.l) [],.p (vI at0) [],.p (vI at0) [],.p (vI (W (at0+1))) [],.q (vT s1.l),.p (vT s.l) [],.p (vI at0) [],.p (vI (W (at0+2))) [],.p (vI y) [],.q (vT s2.l),.x (eS y1),.x (fun I' v hx=>∃ p1 c1,v=vA [vT s1.l,vS p1 y1 c1]/\hx=[]/\(S4 I' p1 y1 c1)),.p (vI y) [],.p (vI (W (y+1))) [],.x (fun I' v hx=>∃ aJ aW,hx=[hB b [vT s1.l,vS aJ y1 aW]]/\(S4 I' aJ y1 aW))] [[],[],[],[(2,false)],[(0,false),(1,false),(3,false)],[],[],[(6,false)],[],[(5,false),(7,false),(8,false)],[(9,false)],[(4,false),(10,false)],[],[(12,false)],[(11,false),(16,true)]] [] [[hB b [vT ([]),z0]]] [(13,false),(14,true)] (zY [0]) ?_ ?_
 · refine O4<|Oq ?_<|O4<|Oq ?_<|Ox ?_<|Ox ?_<|O2<|Ox ?_<|On
   · intro I1 hf aa;exact yX [22,23,25] rfl<|zJM rfl aG<|xD iR
   · intro I1 hf aa;exact yX [27,29,30] rfl<|zJM rfl bc<|xD iR
   · intro I1 hf aa;refine yX [31] rfl ?_;have H:=iS I1;refine xE (zAR s2 _ bu ) ?_;rintro aV aw v2 k2 aA - ⟨v01,rfl,rfl,h1⟩ -;have H:=H.trans aA;obtain ⟨p,c,rfl⟩:=h1.form;exact yL [] H ⟨_,_,rfl,rfl,h1⟩
   · rintro I1 hf aa _ _ ⟨rfl,rfl⟩ _ _ ⟨p,c,rfl,rfl,h1⟩;exact yX [26,32] rfl<|pE 12 [(33,vA [vT s1.l,vS p y1 c])]<|yL [] iR ⟨_,_,rfl,rfl,h1⟩
   rintro I1 hf aa _ _ ⟨p1,c1,rfl,rfl,h11⟩ _ _ rfl;refine yX [4,33] rfl ?_;have H:=iS I1;exact dE 0 [vT s1.l,vS p1 y1 c1] (hB b [vT s1.l,vS p1 y1 c1]::hf) rfl rfl rfl rfl<|zFl (hx:=[hB b [vT s1.l,vS p1 y1 c1]]) rfl H rfl (zFm (v:=undef)) ⟨_,_,rfl,h11⟩
 rintro bx aK _ _ ⟨rfl,rfl⟩ _ _ ⟨aJ,aW,rfl,h111⟩;refine yX [4,35] rfl ?_;refine yK [] [5] rfl<|zK<|xA ?_;exact xO N (resE 0 rfl rfl rfl) zP ⟨_,_,rfl,rfl,⟨_,rfl,(rK ⟨_,rfl,h111⟩)⟩,rfl⟩
def zAf (r:zH×Int):KT:=fun kk I' af v=>
  ∃ v0 v1,af=[]/\v=tupV [v0,v1]/\(∃ cs,v0=.agg ⟨cs⟩/\Rp.rep I' cs r.1)/\v1=.int .i64 r.2
mutual
def dV (s:Str) (at0:Int) (ai:Int):Option (zH×Int):=do
 let (y1,y2)<-nA (same s) (same at0) (same ai);let t27<-(do
   if (decide (y2<0)) then pure true
   else
    pure (decide (y2>=(s.l.length:Int)))
     : Option Bool)
 if t27 then pure ((zH.mk 0 0 (zA.mk ([]:List Int) 0) (zG.mk (⟨[]⟩:Str) ([]:List zA)) ([]:List zH)),(-1))
 else
  let b2<-sidx s y2;let kind<-(do
    if ((b2.toNat:Int)==45) then pure (id 5)
    else
     let kind1<-(do
       if ((b2.toNat:Int)==42) then pure (id 6)
       else
        pure (id 4)
         : Option Int)
     pure (id kind1)
      : Option Int)
  let (y4,y5)<-nA (same s) (W (y2+1)) (same ai);let t51<-(do
    if (decide (y5<0)) then pure true
    else
     pure (decide (y5>=(s.l.length:Int)))
      : Option Bool)
  if t51 then pure ((zH.mk 0 0 (zA.mk ([]:List Int) 0) (zG.mk (⟨[]⟩:Str) ([]:List zA)) ([]:List zH)),(-1))
  else pure ((zH.mk kind 0 (zA.mk ([]:List Int) 0) (zG.mk (⟨[]⟩:Str) ([]:List zA)) ([y1,y4]:List zH)),(W (y5+1)))
 partial_fixpoint
def nA (s:Str) (at0:Int) (ai:Int):Option (zH×Int):=do
 let t26<-(do
   if (decide (ai<1)) then pure true
   else
    if (decide (at0<0)) then pure true
    else
     pure (decide (at0>=(s.l.length:Int)))
     : Option Bool)
 if t26 then pure ((zH.mk 0 0 (zA.mk ([]:List Int) 0) (zG.mk (⟨[]⟩:Str) ([]:List zA)) ([]:List zH)),(-1))
 else
  let b1<-sidx s at0;if ((b1.toNat:Int)==123) then
   let y<-fU s at0 (125:UInt8);if (decide (y<0)) then pure ((zH.mk 0 0 (zA.mk ([]:List Int) 0) (zG.mk (⟨[]⟩:Str) ([]:List zA)) ([]:List zH)),(-1))
   else
    let s1<-sslc s (W (at0+1)) y;let (y2,y3)<-mU s1;pure ((zH.mk 2 0 y2 (zG.mk (⟨[]⟩:Str) ([]:List zA)) ([]:List zH)),(W (y+1)))
  else
   let t52<-(do
     let b3<-sidx s at0;if (decide ((b3.toNat:Int)>=65)) then
      let b4<-sidx s at0;pure (decide ((b4.toNat:Int)<=68))
     else
      pure false
       : Option Bool)
   if t52 then
    let (y5,y6)<-oM s at0;pure ((zH.mk 3 0 (zA.mk ([]:List Int) 0) y5 ([]:List zH)),y6)
   else
    let b6<-sidx s at0;if ((b6.toNat:Int)==40) then
     let (y8,y9)<-dV (same s) (W (at0+1)) (W (ai - 1));pure (y8,y9)
    else
     let (y11,y12)<-gI s at0;if (y12==at0) then pure ((zH.mk 0 0 (zA.mk ([]:List Int) 0) (zG.mk (⟨[]⟩:Str) ([]:List zA)) ([]:List zH)),(-1))
     else pure ((zH.mk 1 y11 (zA.mk ([]:List Int) 0) (zG.mk (⟨[]⟩:Str) ([]:List zA)) ([]:List zH)),y12)
 partial_fixpoint
end
theorem zGs:(∀ (s:Str) (at0:Int) (ai:Int) r,dV s at0 ai=some r->∀ {I:Imm} ,RT 202 [vT s.l,vI at0,vI ai] I [] (zAf  r))/\(∀ (s:Str) (at0:Int) (ai:Int) r,nA s at0 ai=some r->∀ {I:Imm} ,RT 190 [vT s.l,vI at0,vI ai] I [] (zAf  r)):=by
  refine dV.mutual_partial_correctness _ _ ?_ ?_
  · intro F_spec_l3Parse ih_spec_l3Parse s at0 ai r N I;refine yI func202 fun B=>?_;have H:=iS I;refine yB<|xU zExpr ?_;intro b hb;refine wR [] []<|yW<|yE 3 [] [14,15,16] rfl ?_;obtain ⟨⟨y1,y2⟩,hy,N⟩:=zB N;refine xE (ih_spec_l3Parse s at0 ai _ hy ) ?_;rintro I0 aw v2 k2 le - ⟨v0,v01,rfl,rfl,⟨cs,rfl,h⟩,rfl⟩ -;have H:=H.trans le;obtain ⟨p,c,p1,c1,p2,c2,rfl,h2,h3,h4⟩:=wQ h;refine yE 7 [] [18,19] rfl<|xU zExpr ?_;intro b1 hb1;refine yY 0 (cExpr y1 p c p1 c1 p2 c2) rfl<|yK [] [9] rfl<|zZ<|yA ?_;refine wZ N [hB b1 (cExpr y1 p c p1 c1 p2 c2),hB b zExpr] (fun t27=>[(0,vT s.l),(2,vI ai),(6,vP b 0),(8,vP b1 0),(9,vI y2),(27,.bool t27)]) (fun o0 az=>?_) ?_
    · have H:=iS I0;refine zM<|yE 3 [] [22] rfl<|wL [22] az ?_ ?_
      · intro hc N;exact wR [] [(27,vY)]<|yU<|zU (ct N H)
      intro hc N;exact yK [] [27] rfl<|yU<|zU (ct N H)
    intro t27 aO aa aT;have ⟨h2,h3,h4,H⟩:=m4 aa h2 h3 h4 H;refine zK<|yG aT ?_ ?_
    · intro aH N;refine yB<|yE 1 [] [28] rfl<|dE 1 zExpr [hB b1 (cExpr y1 p c p1 c1 p2 c2),hB b zExpr] rfl rfl rfl rfl<|yK [] [7] rfl<|xF<|zJ ?_;exact xO N (resE 1 rfl rfl rfl) zP ⟨_,_,rfl,rfl,⟨_,rfl,(wB ⟨_,_,_,rfl,(SL.nil _),(SL.nil _),(SL.nil _)⟩)⟩,rfl⟩
    intro aH N;refine zS<|vW [10] rfl<|zZ<|yB<|yE 2 [] [29,30] rfl<|bE N fun b2 ay N=>zBm rfl rfl ay<|zX rfl<|wI<|yH [32] rfl<|zK ?_;refine wZ N [hB b1 (cExpr y1 p c p1 c1 p2 c2),hB b zExpr] (fun kind=>[(0,vT s.l),(2,vI ai),(6,vP b 0),(8,vP b1 0),(9,vI y2),(10,vI kind)]) (fun aN aC=>?_) ?_
    · have H:=iS aO;refine yG aC ?_ ?_
      · intro aY N;exact zM<|yK [] [10] rfl<|yU<|zU (ct N H)
      intro aY N;refine yH [34] rfl<|zK ?_;refine wZ N [hB b1 (cExpr y1 p c p1 c1 p2 c2),hB b zExpr] (fun kind1=>[(0,vT s.l),(2,vI ai),(6,vP b 0),(8,vP b1 0),(9,vI y2),(10,vI kind1)]) (fun o02 ho02=>?_) ?_
      · have H:=iS aO;refine yG ho02 ?_ ?_
        · intro bC N;exact zM<|yK [] [10] rfl<|yU<|zU (ct N H)
        intro bC N;exact zS<|yU<|zU (ct N H)
      intro kind1 bx aA hMc2;have H:=H.trans aA;exact yU<|zU (ct hMc2 H)
    intro kind aV aK hMc1;have ⟨h2,h3,h4,H⟩:=m4 aK h2 h3 h4 H;refine zO<|yW<|yE 4 [] [37,39,40] rfl ?_;obtain ⟨⟨y4,y5⟩,aG,N⟩:=zB hMc1;refine xE (ih_spec_l3Parse s (W (y2+1)) ai _ aG ) ?_;rintro bD aw v2 k2 aX - ⟨v05,v06,rfl,rfl,⟨av,rfl,h5⟩,rfl⟩ -;have ⟨h2,h3,h4,H⟩:=m4 aX h2 h3 h4 H;obtain ⟨p3,c3,p4,c4,p5,c5,rfl,h7,h8,h9⟩:=wQ h5;refine yE 8 [] [42,43] rfl<|xU zExpr ?_;intro b3 hb2;refine yY 0 (cExpr y4 p3 c3 p4 c4 p5 c5) rfl<|yK [] [12] rfl<|zZ<|yA ?_;refine wZ N [hB b3 (cExpr y4 p3 c3 p4 c4 p5 c5),hB b1 (cExpr y1 p c p1 c1 p2 c2),hB b zExpr] (fun t51=>[(6,vP b 0),(8,vP b1 0),(10,vI kind),(11,vP b3 0),(12,vI y5),(51,.bool t51)]) (fun o03 ho03=>?_) ?_
    · have H:=iS bD;refine zM<|yE 3 [] [46] rfl<|wL [46] ho03 ?_ ?_
      · intro bJ N;exact wR [] [(51,vY)]<|yU<|zU (ct N H)
      intro bJ N;exact yK [] [51] rfl<|yU<|zU (ct N H)
    intro t51 bI bf hMc3;have ⟨h7,h8,h9,h2,h3,h4⟩:=m6 bf h7 h8 h9 h2 h3 h4;refine zK<|yG hMc3 ?_ ?_
    · intro hc5 N;refine yB<|yE 1 [] [52] rfl<|dE 2 zExpr [hB b3 (cExpr y4 p3 c3 p4 c4 p5 c5),hB b1 (cExpr y1 p c p1 c1 p2 c2),hB b zExpr] rfl rfl rfl rfl<|yK [] [7] rfl<|xF<|zJ ?_;exact xO N (resE 2 rfl rfl rfl) zP ⟨_,_,rfl,rfl,⟨_,rfl,(wB ⟨_,_,_,rfl,(SL.nil _),(SL.nil _),(SL.nil _)⟩)⟩,rfl⟩
    intro hc5 N;refine zS<|yW<|tL 3 [1,0] [(53,vI kind),(54,vA (cExpr y1 p c p1 c1 p2 c2)),(55,vA (cExpr y4 p3 c3 p4 c4 p5 c5))]<|uV [vI y1.Kind,vI y1.Num,vS p y1.Index.Coefs c,vI y1.Index.Const,vT y1.Read.Array.l,vS p1 y1.Read.Subs c1,vS p2 y1.Kids c2,vI y4.Kind,vI y4.Num,vS p3 y4.Index.Coefs c3,vI y4.Index.Const,vT y4.Read.Array.l,vS p4 y4.Read.Subs c4,vS p5 y4.Kids c5] zH ?_;intro b4 hb3;have h10:RL bI [vI y1.Kind,vI y1.Num,vS p y1.Index.Coefs c,vI y1.Index.Const,vT y1.Read.Array.l,vS p1 y1.Read.Subs c1,vS p2 y1.Kids c2,vI y4.Kind,vI y4.Num,vS p3 y4.Index.Coefs c3,vI y4.Index.Const,vT y4.Read.Array.l,vS p4 y4.Read.Subs c4,vS p5 y4.Kids c5] ([y1,y4]:List zH):=⟨(cExpr y1 p c p1 c1 p2 c2),_,rfl,rfl,(wB ⟨_,_,_,rfl,h2,h3,h4⟩),⟨(cExpr y4 p3 c3 p4 c4 p5 c5),_,rfl,rfl,(wB ⟨_,_,_,rfl,h7,h8,h9⟩),rfl⟩⟩;refine yE 7 [] [57,59] rfl<|yY 3 [vI kind,vI 0,z0,vI 0,vT ([]),z0,vS (some ⟨b4,0,none⟩) ([y1,y4]:List zH) 2] rfl<|yK [] [7] rfl<|xF<|xB 0 rfl ?_;intro I06 bt hl0;have h11:=SL.of_frozen hl0 bt h10;exact xO N (resE 2 rfl rfl rfl) zP ⟨_,_,rfl,rfl,⟨_,rfl,(wB ⟨_,_,_,rfl,(SL.nil _),(SL.nil _),h11⟩)⟩,rfl⟩
  intro F_spec_l3Round ih_spec_l3Round s at0 ai r N I;refine yI func190 fun B=>?_;have H:=iS I;refine yB<|xU zExpr ?_;intro b hb;refine wR [] []<|zZ<|yA ?_;refine wZ N [hB b zExpr] (fun t26=>[(0,vT s.l),(1,vI at0),(2,vI ai),(6,vP b 0),(26,.bool t26)]) (fun o0 az=>?_) ?_
  · have H:=iS I;refine zM<|yE 3 [] [17] rfl<|wL [17] az ?_ ?_
    · intro hc N;exact wR [] [(26,vY)]<|yU<|zU (ct N H)
    intro hc N;refine yE 7 [] [21] rfl<|wL [21] N ?_ ?_
    · intro aH N;exact wR [] [(26,vY)]<|yU<|zU (ct N H)
    intro aH N;exact yK [] [26] rfl<|yU<|zU (ct N H)
  intro t26 I0 le aT;have H:=H.trans le;refine zK<|yG aT ?_ ?_
  · intro aY N;refine yB<|yE 1 [] [27] rfl<|dE 0 zExpr [hB b zExpr] rfl rfl rfl rfl<|yK [] [7] rfl<|xF<|zJ ?_;exact xO N (resE 0 rfl rfl rfl) zP ⟨_,_,rfl,rfl,⟨_,rfl,(wB ⟨_,_,_,rfl,(SL.nil _),(SL.nil _),(SL.nil _)⟩)⟩,rfl⟩
  intro aY N;refine zS<|zZ<|yF<|yB<|yE 2 [] [29,30] rfl<|bE N fun b1 hy N=>zBm rfl rfl hy<|yK [] [28] rfl<|zK<|yG N ?_ ?_
  · intro bC N;refine yB<|yE 2 [] [33,34] rfl<|bE N fun y ay N=>dP (zD4 s at0 (125:UInt8) _ ay ) fun aO aa=>wR [] [(8,vI y)]<|zZ<|wT [(37,.bool (decide (y<0)))]<|zK<|yG N ?_ ?_
    · intro bJ N;refine yB<|yE 1 [] [38] rfl<|dE 0 zExpr [hB b zExpr] rfl rfl rfl rfl<|yK [] [7] rfl<|xF<|zJ<|zV<|zJ ?_;exact xO N (resE 0 rfl rfl rfl) zP ⟨_,_,rfl,rfl,⟨_,rfl,(wB ⟨_,_,_,rfl,(SL.nil _),(SL.nil _),(SL.nil _)⟩)⟩,rfl⟩
    intro bJ N;refine zS<|yW<|yE 4 [] [40,42,43] rfl<|bE N fun s1 aG N=>zJM rfl aG ?_;obtain ⟨⟨y2,y3⟩,bc,N⟩:=zB N;refine xE (zBP s1 _ bc ) ?_;rintro aV aw v2 k2 aA - ⟨v01,v02,rfl,rfl,⟨cs,rfl,h1⟩,rfl⟩ -;obtain ⟨p,c,rfl,h3⟩:=yD h1;refine yE 9 [] [46,47] rfl<|xU [z0,vI 0] ?_;intro b2 hb1;refine yY 0 (cAff y2 p c) rfl<|wR [] []<|yW<|tL 4 [0] [(49,vA [vI 2,vI 0,vS p y2.Coefs c,vI y2.Const,vT ([]),z0,z0]),(51,vI (W (y+1)))]<|yY 1 [vI 2,vI 0,vS p y2.Coefs c,vI y2.Const,vT ([]),z0,z0] rfl<|yK [] [7] rfl<|xF<|zV<|zJ ?_;exact xO N (resE 1 rfl rfl rfl) zP ⟨_,_,rfl,rfl,⟨_,rfl,(wB ⟨_,_,_,rfl,h3,(SL.nil _),(SL.nil _)⟩)⟩,rfl⟩
  intro bC N;refine yA ?_;refine wZ N [hB b zExpr] (fun t52=>[(0,vT s.l),(1,vI at0),(2,vI ai),(6,vP b 0),(52,.bool t52)]) (fun aN aC=>?_) ?_
  · have H:=iS I0;refine zM<|yE 2 [] [53,54] rfl ?_;obtain ⟨b3,bu,N⟩:=zB aC;refine zBm rfl rfl bu<|yE 5 [] [57] rfl<|wL [57] N ?_ ?_
    · intro hc5 N;exact yE 7 [] [58,59] rfl<|bE N fun b4 bz N=>zBm rfl rfl bz<|yK [] [52] rfl<|yU<|zU (ct N H)
    intro hc5 N;exact wR [] [(52,vF)]<|yU<|zU (ct N H)
  intro t52 bx aK hMc1;refine zK<|yG hMc1 ?_ ?_
  · intro hc6 N;refine yB<|yE 2 [] [64,65] rfl ?_;obtain ⟨⟨y5,y6⟩,hy6,N⟩:=zB N;refine xE (zAm s at0 _ hy6 ) ?_;rintro bD aw v2 k2 aX - ⟨v04,v05,rfl,rfl,⟨av,rfl,h4⟩,rfl⟩ -;obtain ⟨p1,c1,rfl,h6⟩:=uK h4;refine yE 6 [] [67,68] rfl<|xU [vT ([]),z0] ?_;intro b5 hb2;refine yY 0 (cAccess y5 p1 c1) rfl<|yK [] [12] rfl<|yW<|tL 3 [0] [(70,vA [vI 3,vI 0,z0,vI 0,vT y5.Array.l,vS p1 y5.Subs c1,z0]),(71,vI y6)]<|yY 1 [vI 3,vI 0,z0,vI 0,vT y5.Array.l,vS p1 y5.Subs c1,z0] rfl<|yK [] [7] rfl<|xF<|zV<|zJ ?_;exact xO N (resE 1 rfl rfl rfl) zP ⟨_,_,rfl,rfl,⟨_,rfl,(wB ⟨_,_,_,rfl,(SL.nil _),h6,(SL.nil _)⟩)⟩,rfl⟩
  intro hc6 N;refine yB<|yE 2 [] [73,74] rfl<|bE N fun b6 hy7 N=>zBm rfl rfl hy7<|yK [] [72] rfl<|zK<|yG N ?_ ?_
  · intro hc7 N;refine yB<|yE 5 [] [77,79,81] rfl ?_;obtain ⟨⟨y8,y9⟩,hy8,N⟩:=zB N;refine xE (ih_spec_l3Round s (W (at0+1)) (W (ai - 1)) _ hy8 ) ?_;rintro bI aw v2 k2 bf - ⟨v07,v08,rfl,rfl,⟨aP,rfl,h7⟩,rfl⟩ -;obtain ⟨p2,c2,p3,c3,p4,c4,rfl,h9,h10,h11⟩:=wQ h7;refine yE 8 [] [83,84] rfl<|yY 0 (cExpr y8 p2 c2 p3 c3 p4 c4) rfl<|yK [] [7] rfl<|xF<|zV<|zJ ?_;exact xO N (resE 0 rfl rfl rfl) zP ⟨_,_,rfl,rfl,⟨_,rfl,(wB ⟨_,_,_,rfl,h9,h10,h11⟩)⟩,rfl⟩
  intro hc7 N;refine zS<|zO<|yW<|yE 2 [] [86,87] rfl ?_;obtain ⟨⟨y11,y12⟩,hy9,N⟩:=zB N;refine xE (zC9 s at0 _ hy9 ) ?_;rintro I06 aw v2 k2 bt - ⟨v012,v013,rfl,rfl,rfl,rfl⟩ -;refine yK [] [13,14] rfl<|zZ<|yH [93] rfl<|zK<|yG N ?_ ?_
  · intro hc8 N;refine yB<|yE 1 [] [94] rfl<|dE 0 zExpr [hB b zExpr] rfl rfl rfl rfl<|yK [] [7] rfl<|xF<|zJ ?_;exact xO N (resE 0 rfl rfl rfl) zP ⟨_,_,rfl,rfl,⟨_,rfl,(wB ⟨_,_,_,rfl,(SL.nil _),(SL.nil _),(SL.nil _)⟩)⟩,rfl⟩
  intro hc8 N;refine zS<|yW<|yE 3 [] [96,97] rfl<|yY 0 [vI 1,vI y11,z0,vI 0,vT ([]),z0,z0] rfl<|yK [] [7] rfl<|zK<|xA ?_;exact xO N (resE 0 rfl rfl rfl) zP ⟨_,_,rfl,rfl,⟨_,rfl,(wB ⟨_,_,_,rfl,(SL.nil _),(SL.nil _),(SL.nil _)⟩)⟩,rfl⟩
theorem zH9:∀ s at0 ai r,nA s at0 ai=some r->∀ {I:Imm} ,RT 190 [vT s.l,vI at0,vI ai] I [] (zAf  r):=zGs.2
def sQ (a0:zA) (n0:Int) (i:Int):Option (Int):=do
 if (decide (i<(a0.Coefs.length:Int))) then
  let x<-idx a0.Coefs i;let n02<-(do
    if (x != 0) then pure (W (i+1))
    else
     pure (id n0)
      : Option Int)
  sQ a0 n02 (W (i+1))
 else pure (id n0)
 partial_fixpoint
theorem zFJ (a0:zA):∀ (n0:Int) (i:Int) (o:Int),sQ a0 n0 i=some o->∀ {B}{I0 I:Imm}{Q p c}{b},I0.le I->(S4 I p a0.Coefs c)->NG Q->NO Q->(∀ I' n01,o=n01->I0.le I'->T 21 B Q (.exit 0) I' [] [(3,vI n01)])->J Tryz.prog 21 B (nav (bodyOf f160) [1,1,0,1,0]) Q I [hB b (cAff a0 p c)] [(1,vP b 0),(3,vI n0),(4,vI i)]:=by
 refine sQ.partial_correctness a0 _ fun aE ih n0 i o N B I0 I Q p c b H h hg ho hx=>yQ hg ho<|yA<|yB<|yK [0] [9] rfl<|zK<|yG N ?_ ?_
 · intro hc N;refine zS<|zZ<|yF<|yB<|yE 3 [0] [13,14] rfl<|bE N fun x hy N=>xR rfl rfl h hy ?_;intro ad aL al aj;obtain rfl:=aj;refine xH 0 al [vI x] (vI x) rfl<|yK [] [17] rfl<|zK ?_;refine wZ N [hB b (cAff a0 p c)] (fun n02=>[(1,vP b 0),(3,vI n02),(4,vI i)]) (fun o0 az=>?_) ?_
   · have H:=iS I;refine yG az ?_ ?_
     · intro aH N;exact zM<|yK [] [3] rfl<|yU<|zU (ct N H)
     intro aH N;exact zS<|yU<|zU (ct N H)
   intro n02 I0 le aT;have ⟨h,H⟩:=m2 le h H;exact zO<|zK<|zM<|yK [] [4] rfl<|yP<|oT<|ih n02 (W (i+1)) _ aT H h hg ho hx
 intro hc N;exact wP<|wF zP<|yU<|hx _ _ (zD N).symm H
def nB (a0:zA):Option (Int):=do
 let n01<-sQ a0 0 0;pure (id n01)
theorem zBI:∀ a0 r,nB a0=some r->∀ {I:Imm}{p c},(S4 I p a0.Coefs c)->RT 160 [vA (cAff a0 p c)] I [] (xL  r):=by
 intro a0 r N I p c h;unfold nB at N;refine yI func160 fun B=>yB<|vJ (cAff a0 p c) ?_;intro b hb;refine wR [] []<|vW [3] rfl<|zZ<|yH [4] rfl<|wI<|qR [(1,vP b 0),(3,vI 0),(4,vI 0)] ?_;obtain ⟨aN,aC,aF⟩:=zB N;refine zFJ a0 0 0 aN aC iR h nG nO ?_;intro aO n01 heq1 aa;subst aN;refine zR<|vW [2] rfl<|zK<|xA ?_;obtain rfl:=zD aF;exact vV
def tN (a0:zG) (depth:Int) (i:Int):Option (Out Unit (Bool)):=do
 if (decide (i<(a0.Subs.length:Int))) then
  let t29<-(do
    let x<-idx a0.Subs i;let y<-tM x;if (!y) then pure true
    else
     let x1<-idx a0.Subs i;let y1<-nB x1;pure (decide (y1>depth))
      : Option Bool)
  if t29 then pure (.ret false)
  else tN a0 depth (W (i+1))
 else pure (.done ())
 partial_fixpoint
theorem zE8 (a0:zG) (depth:Int):∀ (i:Int) (o:Out Unit (Bool)),tN a0 depth i=some o->∀ {B}{I0 I:Imm}{Q p c}{b},I0.le I->(S4 I p a0.Subs c)->NG Q->NO Q->(∀ I',o=(.done ())->I0.le I'->T 56 B Q (.exit 0) I' [hB b (cAccess a0 p c)] [(2,vP b 0)])->(∀ r I' af m',o=(.ret r)->I0.le I'->RS Tryz.prog f127 B (zT  r) I' af m'->T 56 B Q .ret I' af m')->J Tryz.prog 56 B (nav (bodyOf f127) [1,0,1,0]) Q I [hB b (cAccess a0 p c)] [(1,vI depth),(2,vP b 0),(5,vI i)]:=by
 refine tN.partial_correctness a0 depth _ fun aE ih i o N B I0 I Q p c b H h hg ho hx hr=>yQ hg ho<|yA<|yB<|yK [0] [10] rfl<|zK<|yG N ?_ ?_
 · intro hc N;refine zS<|zZ<|yF<|yA ?_;refine wZ N [hB b (cAccess a0 p c)] (fun t29=>[(1,vI depth),(2,vP b 0),(5,vI i),(29,.bool t29)]) (fun o0 az=>?_) ?_
   · have H:=iS I;refine zM<|yE 3 [0] [14,15] rfl ?_;obtain ⟨x,hy,N⟩:=zB az;refine xR rfl rfl h hy ?_;intro ad aL al aj;obtain ⟨p1,c1,rfl,h1⟩:=yD aj;refine xH 0 al (cAff x p1 c1) (vA (cAff x p1 c1)) rfl<|bE N fun y ay N=>tH (fM x _ ay h1) ?_;intro aO le;have ⟨h,H⟩:=m2 le h H;refine yE 8 [] [20] rfl<|wL [20] N ?_ ?_
     · intro aH N;exact wR [] [(29,vY)]<|yU<|zU (ct N H)
     intro aH N;refine yE 11 [0] [22,23] rfl<|bE N fun x1 aG N=>xR rfl rfl h aG ?_;intro ad1 bm au ax;obtain ⟨p2,c2,rfl,h3⟩:=yD ax;refine xH 0 au (cAff x1 p2 c2) (vA (cAff x1 p2 c2)) rfl<|bE N fun y1 bc N=>dP (zBI x1 _ bc h3) ?_;intro aV aa;have H:=H.trans aa;exact yK [] [29] rfl<|yU<|zU (ct N H)
   intro t29 I0 aA aT;have ⟨h,H⟩:=m2 aA h H;refine zK<|yG aT ?_ ?_
   · intro aY N;exact wT [(4,vF)]<|xF<|zV<|zJ<|zJ<|hr _ _ _ _ (zD N).symm H ⟨_,_,(resT rfl),zP,⟨_,rfl,rfl,rfl⟩⟩
   intro aY N;exact zS<|zO<|zK<|zM<|yK [] [5] rfl<|yP<|oT<|ih (W (i+1)) _ N H h hg ho hx hr
 intro hc N;exact wP<|yU<|hx _  (zD N).symm H
def mC (a0:zG) (depth:Int):Option (Bool):=do
 match<-tN a0 depth 0 with
 | .ret r0=>pure r0
 | .done _ =>
  let t4<-(do
    if ((a0.Array.l.length:Int)==1) then
     if (!(Op.bytesLess a0.Array.l ([65]:List UInt8))) then
      if (Op.bytesLess a0.Array.l ([68]:List UInt8)||a0.Array.l==([68]:List UInt8)) then
       if (decide ((a0.Subs.length:Int)>=1)) then pure (decide ((a0.Subs.length:Int)<=2))
       else pure false
      else pure false
     else pure false
    else
     pure false
      : Option Bool)
  pure (id t4)
theorem zCc:∀ a0 depth r,mC a0 depth=some r->∀ {I:Imm}{p c},(S4 I p a0.Subs c)->RT 127 [vA (cAccess a0 p c),vI depth] I [] (zT  r):=by
 intro a0 depth r N I p c h;unfold mC at N;refine yI func127 fun B=>?_;have H:=iS I;refine yB<|vJ (cAccess a0 p c) ?_;intro b hb;refine wR [] []<|zZ<|yH [5] rfl<|wI<|qR [(1,vI depth),(2,vP b 0),(5,vI 0)] ?_;obtain ⟨aN,aC,aF⟩:=zB N;refine zE8 a0 depth 0 aN aC iR h nG nO ?_ ?_
 · intro bx  heq1 aK;subst aN;have H:=H.trans aK;refine zR<|zK<|yA ?_;refine wZ aF [] (fun t4=>[(4,.bool t4)]) (fun o02 ho02=>?_) ?_
   · have H:=iS bx;refine zM<|yE 5 [0] [34] rfl<|wL [34] ho02 ?_ ?_
     · intro bC N;refine yE 10 [0] [39] rfl<|wL [39] N ?_ ?_
       · intro bJ N;refine yE 15 [0] [44] rfl<|wL [44] N ?_ ?_
         · intro hc5 N;refine yE 21 [0] [50] rfl<|wL [50] N ?_ ?_
           · intro hc6 N;exact yK [0] [4] rfl<|wF zP<|yU<|zU (ct N H)
           intro hc6 N;exact wR [] [(4,vF)]<|wF zP<|yU<|zU (ct N H)
         intro hc5 N;exact wR [] [(4,vF)]<|wF zP<|yU<|zU (ct N H)
       intro bJ N;exact wR [] [(4,vF)]<|wF zP<|yU<|zU (ct N H)
     intro bC N;exact wR [] [(4,vF)]<|wF zP<|yU<|zU (ct N H)
   intro t4 bD aX hMc1;refine zK<|xA ?_;obtain rfl:=zD hMc1;exact vV
 intro r0 I9 hs9 m9 aS le9 aU;subst aS;refine zV<|zJ ?_;obtain rfl:=zD aF;exact fO aU
end Go.LN
