/- Helper of the proof (see the last text). -/
import Derived.Test.YtcmjkmdecmabaaaGreatHM4
set_option linter.unusedVariables false
set_option linter.unusedSimpArgs false
namespace Go.LN
open Go.Proofs Go.Proofs.Tryz
set_option maxRecDepth 20000
def zA8(b0:Nat)(r:zC×zQ):KT:=λkk I' ag v=>
 ∃v0 k0,ag=[.blk b0 ⟨k0⟩]/\v=tupV [v0]/\(∃cs,v0=.agg ⟨cs⟩/\Rp.rep I' cs r.1)/\Rp.rep I' k0 r.2
def nU(r0:zQ)(p1:zC):Option (zC×zQ):=do
 let y<-qK p1;let (y2,y3)<-xN r0 60;let (Arrays,Parts,x)<-(do
  if(y2==0) then
   let (y5,y6)<-nT y3 ([(⟨[65]⟩:Str),(⟨[68]⟩:Str),(⟨[69]⟩:Str)]:List Str);let (y8,y9)<-xI y6 ([7,0,3,(-1)]:List Int);let l<-app 40 y.Arrays ([(zD.mk y5 ([y8]:List Int))]:List zD);pure (l,y.Parts,y9)
  else
   let (ai,aS,x1)<-(do
    if(y2==1) then
     let (Arrays2,x2)<-(do
      if(decide ((y.Arrays.length:Int)>0)) then
       let (y11,y12)<-xI y3 ([1,2,7]:List Int);let x3<-idx y.Arrays 0;let l1<-pure (y.Arrays.set (0:Int).toNat (zD.mk x3.Name ([y11]:List Int)));pure (l1,y12)
      else
       pure (y.Arrays,y3)
        : Option (List zD×zQ))
     pure (Arrays2,y.Parts,x2)
    else
     let (Parts2,x4)<-(do
      if(y2==2) then
       let (Parts3,x5)<-(do
        if(decide ((y.Parts.length:Int)>0)) then
         let x6<-idx y.Parts 0;let (y14,y15)<-kX y3 x6.Nest;let (y17,y18)<-kX y15 y14;let (y20,y21)<-kX y18 y17;let x7<-idx y.Parts 0;let l2<-pure (y.Parts.set (0:Int).toNat (zF.mk y20 x7.Body));pure (l2,y21)
        else
         pure (y.Parts,y3)
          : Option (List zF×zQ))
       pure (Parts3,x5)
      else
       let (Parts4,x8)<-(do
        if(y2==3) then
         let t76<-(do
          if(decide ((y.Parts.length:Int)>0)) then
           let x9<-idx y.Parts (W ((y.Parts.length:Int) - 1));pure (decide ((x9.Body.length:Int)>0))
          else
           pure false
            : Option Bool)
         let (Parts5,x10)<-(do
          if t76 then
           let x11<-idx y.Parts (W ((y.Parts.length:Int) - 1));let x12<-idx x11.Body 0;let (y22,y23)<-qL y3 x12;let (y24,y25)<-qL y23 y22;let (y26,y27)<-qL y25 y24;let l3<-pure ((y.Parts).set (W ((y.Parts.length:Int) - 1)).toNat (zF.mk x11.Nest (x11.Body.set 0 y26)));pure (l3,y27)
          else
           pure (y.Parts,y3)
            : Option (List zF×zQ))
         pure (Parts5,x10)
        else
         let Parts6<-(do
          if(y2==4) then
           let Parts7<-(do
            if(decide ((y.Parts.length:Int)>0)) then
             let x13<-idx y.Parts (W ((y.Parts.length:Int) - 1));let l4<-pure (y.Parts.set (W ((y.Parts.length:Int) - 1)).toNat (zF.mk x13.Nest ([]:List zI)));pure (id l4)
            else
             pure y.Parts
              : Option (List zF))
           pure (id Parts7)
          else
           pure y.Parts
            : Option (List zF))
         pure (Parts6,y3)
          : Option (List zF×zQ))
       pure (Parts4,x8)
        : Option (List zF×zQ))
     pure (y.Arrays,Parts2,x4)
      : Option (List zD×List zF×zQ))
   pure (ai,aS,x1)
    : Option (List zD×List zF×zQ))
 pure ((zC.mk Arrays Parts),x)
theorem zFy:∀(r0:zQ) (p1:zC) r,nU r0 p1=some r->∀{I:Imm}{av}{p c p2 c1 p3 c2},(S4 I p r0.b c)->(S4 I p2 p1.Arrays c1)->(S4 I p3 p1.Parts c2)->(∀(y:zC) (y2:Int) (y3:zQ) (x:zF) (s:zI),qK p1=some y->xN r0 60=some (y2,y3)->(y2==3)=true->idx y.Parts (W ((y.Parts.length:Int) - 1))=some x->idx x.Body 0=some s->False)->RT 90 [vP av 0,vA (cProg p1 p2 c1 p3 c2)] I [hB av (cRd r0 p c)] (zA8 av r):=by
 intro r0 p1 r N I av p c p2 c1 p3 c2 h h1 h2 hne;unfold nU at N;refine yM func90 λB=>?_;have H:=iS I;refine yD<|vC (cProg p1 p2 c1 p3 c2) ?_;intro b hb;refine xY zTwo ?_;intro b1 hb1;refine zY rfl<|yY<|uW 1 [1] [(7,vA (cProg p1 p2 c1 p3 c2))]<|bE N λy hy N=>xK (zBh p1 _ hy h1 h2) ?_;rintro I0 ax v2 k2 le - ⟨p4,c3,cs,p5,c4,au,rfl,rfl,h3,h4⟩ -;have ⟨h,H⟩:=m2 le h H;refine xY zTwo ?_;intro b2 hb2;refine xC 0 (cProg y p4 c3 p5 c4) rfl<|zY rfl<|yY<|yQ [0] [6] rfl<|yA<|yD<|yG 1 [] [12] rfl<|tX (zZ [5,0,1,2,3,4] (ag:=[hB av (cRd r0 p c),hB b2 (cProg y p4 c3 p5 c4),hO zD (vS p4 y.Arrays c3) cs,hO zF (vS p5 y.Parts c4) au,hB b1 zTwo,hB b (cProg p1 p2 c1 p3 c2)])) ?_;obtain⟨⟨y2,y3⟩,az,N⟩:=zB N;refine qB (wL r0 60 _ az h) rfl ?_;rintro aP ax v2 k2 aa - ⟨v0,kk,rfl,rfl,rfl,h6⟩ -;have ⟨h3,h4,H⟩:=m3 aa h3 h4 H;obtain⟨p6,c5,rfl,h7⟩:=yJ h6;refine zY rfl<|wN<|yK [14] rfl<|zK<|oO 5 rfl ?_;intro aW aC hl0;have aq:At aW ⟨b,0,none⟩ (cProg p1 p2 c1 p3 c2):=At.of_blk hl0;have ⟨h7,h3,h4,H⟩:=m4 aC h7 h3 h4 H;obtain⟨o0,aA,aX⟩:=zB N;refine nP (λI' ag m'=>∃(Arrays:List zD) (Parts:List zF) (x:zQ) (p7:Option Addr) (c6:Nat) (aR:List Value) (p8:Option Addr) (c7:Nat) (aM:List Value) (p9:Option Addr) (c8:Nat),o0=(Arrays,Parts,x)/\aW.le I'/\(RL I' aR Arrays)/\(RL I' aM Parts)/\(S4 I' p9 x.b c8)/\ag=[hB av (cRd x p9 c8),hB b2 [vS p7 Arrays c6,vS p8 Parts c7],hO zD (vS p7 Arrays c6) aR,hO zF (vS p8 Parts c7) aM,hB b1 zTwo]/\m'=[(4,vP b1 0),(5,vP b2 0)]) ?_ ?_
 ·have H:=iS aW;refine yH aA ?_ ?_
  ·intro hc N;obtain⟨⟨y5,y6⟩,aG,N⟩:=zB N;obtain⟨⟨y8,y9⟩,bh,N⟩:=zB N;obtain⟨l,bu,N⟩:=zB N;refine wP [.p (vP b2 0) [],.p (vS p4 y.Arrays c3) [0],.p (vP av 0) [],.x (λI' v hx=>∃b3,v=vS (some ⟨b3,0,none⟩) ([(⟨[65]⟩:Str),(⟨[68]⟩:Str),(⟨[69]⟩:Str)]:List Str) 3/\hx=[]/\(SL I' (vS (some ⟨b3,0,none⟩) ([(⟨[65]⟩:Str),(⟨[68]⟩:Str),(⟨[69]⟩:Str)]:List Str) 3) ([(⟨[65]⟩:Str),(⟨[68]⟩:Str),(⟨[69]⟩:Str)]:List Str))),.x (λI' v hx=>∃aL c9,v=vT y5.l/\hx=[hB av (cRd y6 aL c9)]/\(S4 I' aL y6.b c9)),.p (vP av 0) [],.x (λI' v hx=>∃b4,v=vS (some ⟨b4,0,none⟩) ([7,0,3,(-1)]:List Int) 4/\hx=[]/\(SL I' (vS (some ⟨b4,0,none⟩) ([7,0,3,(-1)]:List Int) 4) ([7,0,3,(-1)]:List Int))),.x (λI' v hx=>∃aF aO,v=vI y8/\hx=[hB av (cRd y9 aF aO)]/\(S4 I' aF y9.b aO)),.x (λI' v hx=>∃b5,v=vS (some ⟨b5,0,none⟩) ([y8]:List Int) 1/\hx=[]/\(SL I' (vS (some ⟨b5,0,none⟩) ([y8]:List Int) 1) ([y8]:List Int))),.x (λI' v hx=>∃b51,v=vA [vT y5.l,vS (some ⟨b51,0,none⟩) ([y8]:List Int) 1]/\hx=[]/\(SL I' (vS (some ⟨b51,0,none⟩) ([y8]:List Int) 1) ([y8]:List Int))),.x (λI' v hx=>∃b6,v=vS (some ⟨b6,0,none⟩) ([(zD.mk y5 ([y8]:List Int))]:List zD) 1/\hx=[]/\(SL I' (vS (some ⟨b6,0,none⟩) ([(zD.mk y5 ([y8]:List Int))]:List zD) 1) ([(zD.mk y5 ([y8]:List Int))]:List zD))),.x (λI' v hx=>∃bj aQ bt,v=vS bj l aQ/\hx=[hO zD (vS bj l aQ) bt]/\(RL I' bt l))] [[],[(0,false)],[],[],[(2,false),(3,false),(14,true)],[],[],[(5,false),(6,false),(4,true)],[(7,false)],[(4,false),(8,false)],[(9,false)],[(1,false),(10,false),(15,true)]] [hB b2 (cProg y p4 c3 p5 c4),hO zF (vS p5 y.Parts c4) au,hB b1 zTwo] [[hB av (cRd y3 p6 c5)],[hO zD (vS p4 y.Arrays c3) cs]] [(7,true),(11,true)] (zZ [1,3,4,0,2]) ?_ ?_
   ·refine O3<|Ox ?_<|Ox ?_<|Op<|Ox ?_<|Ox ?_<|Ox ?_<|Ox ?_<|Ox ?_<|Ox ?_<|On
    ·intro I1 hf aa;refine I_h [] ?_;have H:=iS I1;refine mH (rT [(⟨[65]⟩:Str),(⟨[68]⟩:Str),(⟨[69]⟩:Str)]) ?_;intro b3 bG aI h12;have H:=H.trans aI;exact yN [] H ⟨_,rfl,rfl,h12⟩
    ·rintro I1 hf aa _ _ ⟨rfl,rfl⟩ _ _ ⟨b3,rfl,rfl,h12⟩ _ _ rfl;refine yW [18,19] rfl ?_;have H:=iS I1;have h7:=h7.mono aa;refine qB (zAJ y3 ([(⟨[65]⟩:Str),(⟨[68]⟩:Str),(⟨[69]⟩:Str)]:List Str) _ aG h7 h12) rfl ?_;rintro bK ax v2 k2 aY - ⟨v02,kk1,rfl,rfl,rfl,h14⟩ -;have H:=H.trans aY;obtain⟨aL,c9,rfl,h15⟩:=yJ h14;exact yN [hB av (cRd y6 aL c9)] H ⟨_,_,rfl,rfl,h15⟩
    ·intro I1 hf aa;refine I_h [] ?_;have H:=iS I1;refine mH (rI [7,0,3,(-1)]) ?_;intro b4 I06 bo h17;have H:=H.trans bo;exact yN [] H ⟨_,rfl,rfl,h17⟩
    ·rintro I1 hf aa _ _ ⟨rfl,rfl⟩ _ _ ⟨b4,rfl,rfl,h17⟩ _ _ ⟨aL,c9,rfl,rfl,h15⟩;refine yW [21,22] rfl ?_;have H:=iS I1;refine qB (xP y6 ([7,0,3,(-1)]:List Int) _ bh h15 h17) rfl ?_;rintro I07 ax v2 k2 bv - ⟨v04,kk2,rfl,rfl,rfl,h19⟩ -;have H:=H.trans bv;obtain⟨aF,aO,rfl,h20⟩:=yJ h19;exact yN [hB av (cRd y9 aF aO)] H ⟨_,_,rfl,rfl,h20⟩
    ·rintro I1 hf aa _ _ ⟨aF,aO,rfl,rfl,h20⟩;refine yW [23] rfl ?_;have H:=iS I1;refine mH (rI [y8]) ?_;intro b5 I08 le7 h22;have H:=H.trans le7;exact yN [] H ⟨_,rfl,rfl,h22⟩
    ·rintro I1 hf aa _ _ ⟨aL,c9,rfl,rfl,h15⟩ _ _ ⟨b5,rfl,rfl,h22⟩;exact yW [20,24] rfl<|oN 10 [(25,vA [vT y5.l,vS (some ⟨b5,0,none⟩) ([y8]:List Int) 1])]<|yN [] iR ⟨_,rfl,rfl,h22⟩
    ·rintro I1 hf aa _ _ ⟨b51,rfl,rfl,h221⟩;refine yW [25] rfl ?_;have H:=iS I1;refine mH (rc (zD.mk y5 ([y8]:List Int)) (uP ⟨_,rfl,h221⟩) rN) ?_;intro b6 I09 le8 h24;have H:=H.trans le8;exact yN [] H ⟨_,rfl,rfl,h24⟩
    rintro I1 hf aa _ _ ⟨rfl,rfl⟩ _ _ ⟨b6,rfl,rfl,h24⟩ _ _ rfl;refine yW [17,26] rfl ?_;have h3:=iM aa h3;obtain⟨aN,k0,k01⟩:=h24;have h24:SL I1 (vS (some ⟨b6,0,none⟩) ([(zD.mk y5 ([y8]:List Int))]:List zD) 1) ([(zD.mk y5 ([y8]:List Int))]:List zD):=⟨_,k0,k01⟩;exact sW 107 2 0 rfl rfl rfl h3 (.inl k0) k01 bu λbj aQ bt h25=>wY (ag:=(hO zD (vS bj l aQ) bt::hB b2 (cProg y p4 c3 p5 c4)::hO zF (vS p5 y.Parts c4) au::hB b1 zTwo::hf)) rfl<|yN [hO zD (vS bj l aQ) bt] iR ⟨_,_,_,rfl,rfl,h25⟩
   rintro bN le9 _ _ ⟨aF,aO,rfl,rfl,h20⟩ _ _ ⟨bj,aQ,bt,rfl,rfl,h25⟩;refine yW [4,5,27] rfl ?_;have ⟨h4,H⟩:=m2 le9 h4 H;exact yG 13 [] [28] rfl<|xC 2 [vS bj l aQ,vS p5 y.Parts c4] rfl<|zY rfl<|wK (zX [1,2,0,3,4] rfl (by decide))<|yZ<|zU ⟨_,_,_,_,_,_,_,_,_,_,_,(zE N).symm,H,h25,h4,h20,rfl,rfl⟩
  intro hc N;refine yK [29] rfl<|zK ?_;obtain⟨aU,aB,hMc1⟩:=zB N;refine nP (λI' ag m'=>∃(ai:List zD) (aS:List zF) (x1:zQ) (bc:Option Addr) (aZ:Nat) (bz:List Value) (p14:Option Addr) (bd:Nat) (cs6:List Value) (p15:Option Addr) (c14:Nat),aU=(ai,aS,x1)/\aW.le I'/\(RL I' bz ai)/\(RL I' cs6 aS)/\(S4 I' p15 x1.b c14)/\ag=[hB av (cRd x1 p15 c14),hB b2 [vS bc ai aZ,vS p14 aS bd],hO zD (vS bc ai aZ) bz,hO zF (vS p14 aS bd) cs6,hB b1 zTwo]/\m'=[(4,vP b1 0),(5,vP b2 0)]) ?_ ?_
  ·have H:=iS aW;refine yH aB ?_ ?_
   ·intro aH N;refine yD<|yQ [1] [34] rfl<|zK ?_;obtain⟨o02,ho02,hMc2⟩:=zB N;refine nP (λI' ag m'=>∃(Arrays2:List zD) (x2:zQ) (p16:Option Addr) (c15:Nat) (cs7:List Value) (p17:Option Addr) (c16:Nat),o02=(Arrays2,x2)/\aW.le I'/\(RL I' cs7 Arrays2)/\(S4 I' p17 x2.b c16)/\ag=[hB av (cRd x2 p17 c16),hB b2 [vS p16 Arrays2 c15,vS p5 y.Parts c4],hO zD (vS p16 Arrays2 c15) cs7,hO zF (vS p5 y.Parts c4) au,hB b1 zTwo]/\m'=[(4,vP b1 0),(5,vP b2 0)]) ?_ ?_
    ·have H:=iS aW;refine yH ho02 ?_ ?_
     ·intro ba N;obtain⟨⟨y11,y12⟩,bC,N⟩:=zB N;refine wP [.p (vP b2 0) [],.p (vS p4 y.Arrays c3) [0],.p (vP av 0) [],.x (λI' v hx=>∃b7,v=vS (some ⟨b7,0,none⟩) ([1,2,7]:List Int) 3/\hx=[]/\(SL I' (vS (some ⟨b7,0,none⟩) ([1,2,7]:List Int) 3) ([1,2,7]:List Int))),.x (λI' v hx=>∃p18 c17,v=vI y11/\hx=[hB av (cRd y12 p18 c17)]/\(S4 I' p18 y12.b c17)),.x (λI' v hx=>∃b8,v=vS (some ⟨b8,0,none⟩) ([y11]:List Int) 1/\hx=[]/\(SL I' (vS (some ⟨b8,0,none⟩) ([y11]:List Int) 1) ([y11]:List Int)))] [[],[(0,false)],[],[],[(2,false),(3,false),(9,true)],[(4,false)]] [hB b2 (cProg y p4 c3 p5 c4),hO zD (vS p4 y.Arrays c3) cs,hO zF (vS p5 y.Parts c4) au,hB b1 zTwo] [[hB av (cRd y3 p6 c5)]] [(1,false),(4,true),(5,false)] (zZ [1,2,3,4,0]) ?_ ?_
      ·refine O3<|Ox ?_<|Ox ?_<|Ox ?_<|On
       ·intro I1 hf aa;refine I_h [] ?_;have H:=iS I1;refine mH (rI [1,2,7]) ?_;intro b7 I013 le10 h32;have H:=H.trans le10;exact yN [] H ⟨_,rfl,rfl,h32⟩
       ·rintro I1 hf aa _ _ ⟨rfl,rfl⟩ _ _ ⟨b7,rfl,rfl,h32⟩ _ _ rfl;refine yW [37,38] rfl ?_;have H:=iS I1;have h7:=h7.mono aa;refine qB (xP y3 ([1,2,7]:List Int) _ bC h7 h32) rfl ?_;rintro I014 ax v2 k2 le11 - ⟨v06,kk3,rfl,rfl,rfl,h34⟩ -;have H:=H.trans le11;obtain⟨p18,c17,rfl,h35⟩:=yJ h34;exact yN [hB av (cRd y12 p18 c17)] H ⟨_,_,rfl,rfl,h35⟩
       rintro I1 hf aa _ _ ⟨p18,c17,rfl,rfl,h35⟩;refine yW [39] rfl ?_;have H:=iS I1;refine mH (rI [y11]) ?_;intro b8 I015 le12 h37;have H:=H.trans le12;exact yN [] H ⟨_,rfl,rfl,h37⟩
      rintro I016 le13 _ _ ⟨rfl,rfl⟩ _ _ ⟨p18,c17,rfl,rfl,h35⟩ _ _ ⟨b8,rfl,rfl,h37⟩;refine yW [4,5,36,40] rfl ?_;have ⟨h3,H⟩:=m2 le13 h3 H;obtain⟨x3,hy6,N⟩:=zB N;refine gJ 2 rfl rfl rfl h3 hy6 ?_;intro ad bq aw bI am;obtain⟨p19,c18,rfl,h38⟩:=wH am;refine yG 8 [] [42] rfl ?_;obtain⟨l1,hy7,N⟩:=zB N;refine zMT (c:=[vT x3.Name.l,vS (some ⟨b8,0,none⟩) ([y11]:List Int) 1]) 2 1 aw bI h3 hy6 hy7 (uP ⟨_,rfl,h37⟩) ?_;intro cs8 h39 hl07;exact zAe (m':=[(4,vP b1 0),(5,vP b2 0),(40,vS (some ⟨b8,0,none⟩) ([y11]:List Int) 1)]) ⟨rfl,rfl,rfl,trivial⟩<|zIP (ag:=[hB av (cRd y12 p18 c17),hB b2 [vS p4 l1 c3,vS p5 y.Parts c4],hO zD (vS p4 l1 c3) cs8,hO zF (vS p5 y.Parts c4) au,hB b1 zTwo]) (m':=[(4,vP b1 0),(5,vP b2 0),(40,vS (some ⟨b8,0,none⟩) ([y11]:List Int) 1)]) (by first|rfl|simp only[vS,hl07,cC,ep,cT,eu,em,eo]) (by first|rfl|simp only[vS,hl07])<|zY rfl<|yZ<|zU ⟨_,_,_,_,_,_,_,(zE N).symm,H,h39,h35,rfl,rfl⟩
     intro ba N;exact zT<|yZ<|zU ⟨_,_,_,_,_,_,_,(zE N).symm,H,h3,h7,rfl,rfl⟩
    rintro bR ax m2 ⟨Arrays2,x2,p16,c15,cs7,p17,c16,heq,le14,h29,h30,rfl,rfl⟩;subst o02;have ⟨h4,H⟩:=m2 le14 h4 H;exact yZ<|zU ⟨_,_,_,_,_,_,_,_,_,_,_,(zE hMc2).symm,H,h29,h4,h30,rfl,rfl⟩
   intro aH N;refine yK [43] rfl<|zK ?_;obtain⟨o03,ho03,hMc3⟩:=zB N;refine nP (λI' ag m'=>∃(Parts2:List zF) (x4:zQ) (p20:Option Addr) (c19:Nat) (cs9:List Value) (p21:Option Addr) (c20:Nat),o03=(Parts2,x4)/\aW.le I'/\(RL I' cs9 Parts2)/\(S4 I' p21 x4.b c20)/\ag=[hB av (cRd x4 p21 c20),hB b2 [vS p4 y.Arrays c3,vS p20 Parts2 c19],hO zD (vS p4 y.Arrays c3) cs,hO zF (vS p20 Parts2 c19) cs9,hB b1 zTwo]/\m'=[(4,vP b1 0),(5,vP b2 0)]) ?_ ?_
   ·have H:=iS aW;refine yH ho03 ?_ ?_
    ·intro bD N;refine yK [46] rfl<|zK ?_;obtain⟨o04,ho04,hMc4⟩:=zB N;refine nP (λI' ag m'=>∃(Parts3:List zF) (x5:zQ) (p22:Option Addr) (c21:Nat) (cs10:List Value) (p23:Option Addr) (c22:Nat),o04=(Parts3,x5)/\aW.le I'/\(RL I' cs10 Parts3)/\(S4 I' p23 x5.b c22)/\ag=[hB av (cRd x5 p23 c22),hB b2 [vS p4 y.Arrays c3,vS p22 Parts3 c21],hO zD (vS p4 y.Arrays c3) cs,hO zF (vS p22 Parts3 c21) cs10,hB b1 zTwo]/\m'=[(4,vP b1 0),(5,vP b2 0)]) ?_ ?_
     ·have H:=iS aW;refine yH ho04 ?_ ?_
      ·intro bJ N;obtain⟨x6,hy8,N⟩:=zB N;obtain⟨⟨y14,y15⟩,hy9,N⟩:=zB N;obtain⟨⟨y17,y18⟩,hy10,N⟩:=zB N;obtain⟨⟨y20,y21⟩,hy11,N⟩:=zB N;refine wP [.p (vP b2 1) [],.p (vS p5 y.Parts c4) [0],.p (vP av 0) [],.p (vP av 0) [],.p (vP av 0) [],.p (vP b2 1) [],.p (vS p5 y.Parts c4) [0],.x (λI' v hx=>∃ad1 p24 c23 p25 c24,v=.pointer (some ad1)/\hx=[]/\(AtO (vS p5 y.Parts c4) (Rp.sz zF) (0:Int).toNat ad1)/\((au.drop ((0:Int).toNat*Rp.sz zF)).take (Rp.sz zF)=(cPart x6 p24 c23 p25 c24))/\(S4 I' p24 x6.Nest c23)/\(S4 I' p25 x6.Body c24)),.x (λI' v hx=>∃ad11 p241 c231 p251 c241,v=.pointer (some ad11)/\hx=[]/\(AtO (vS p5 y.Parts c4) (Rp.sz zF) (0:Int).toNat ad11)/\((au.drop ((0:Int).toNat*Rp.sz zF)).take (Rp.sz zF)=(cPart x6 p241 c231 p251 c241))/\(S4 I' p241 x6.Nest c231)/\(S4 I' p251 x6.Body c241)),.x (eS x6.Nest),.x (λI' v hx=>∃p26 c25 p27 c26,v=vS p26 y14 c25/\hx=[hB av (cRd y15 p27 c26)]/\(S4 I' p26 y14 c25)/\(S4 I' p27 y15.b c26)),.x (λI' v hx=>∃p28 c27 p29 c28,v=vS p28 y17 c27/\hx=[hB av (cRd y18 p29 c28)]/\(S4 I' p28 y17 c27)/\(S4 I' p29 y18.b c28)),.x (λI' v hx=>∃p30 c29 p31 c30,v=vS p30 y20 c29/\hx=[hB av (cRd y21 p31 c30)]/\(S4 I' p30 y20 c29)/\(S4 I' p31 y21.b c30))] [[],[(0,false)],[],[],[],[],[(5,false)],[(6,false)],[(7,false)],[(8,false)],[(4,false),(9,false),(16,true)],[(3,false),(10,true)],[(2,false),(11,true)]] [hB b2 (cProg y p4 c3 p5 c4),hO zD (vS p4 y.Arrays c3) cs,hO zF (vS p5 y.Parts c4) au,hB b1 zTwo] [[hB av (cRd y3 p6 c5)]] [(1,false),(12,true)] (zZ [1,2,3,4,0]) ?_ ?_
       ·refine O4<|O3<|Ox ?_<|Ox ?_<|Ox ?_<|Ox ?_<|Ox ?_<|Ox ?_<|On
        ·intro I1 hf aa;refine yW [53] rfl ?_;have h4:=iM aa h4;refine gJ 2 rfl rfl rfl h4 hy8 ?_;intro ad1 bL bk hcc1 ay;obtain⟨p24,c23,p25,c24,rfl,h44,h45⟩:=wI ay;exact yN [] iR ⟨_,_,_,_,_,rfl,rfl,bk,hcc1,h44,h45⟩
        ·rintro I1 hf aa _ _ ⟨ad1,p24,c23,p25,c24,rfl,rfl,bk,hcc1,h44,h45⟩;exact yW [54] rfl<|oN 9 [(55,.pointer (some ad1))]<|yN [] iR ⟨_,_,_,_,_,rfl,rfl,bk,hcc1,h44,h45⟩
        ·rintro I1 hf aa _ _ ⟨ad11,p241,c231,p251,c241,rfl,rfl,hat21,hcc11,h441,h451⟩;exact yW [55] rfl<|zCU 2 0 hat21 hcc11 [vS p241 x6.Nest c231] (vS p241 x6.Nest c231) rfl rfl<|yN [] iR ⟨_,_,rfl,rfl,h441⟩
        ·rintro I1 hf aa _ _ ⟨rfl,rfl⟩ _ _ ⟨p2411,c2311,rfl,rfl,h4411⟩ _ _ rfl;refine yW [51,56] rfl ?_;have H:=iS I1;have h7:=h7.mono aa;refine qB (zAw y3 x6.Nest _ hy9 h7 h4411) rfl ?_;rintro I019 ax v2 k2 le15 - ⟨v011,kk4,rfl,rfl,h46,h47⟩ -;have H:=H.trans le15;obtain⟨p26,c25,rfl⟩:=h46.form;obtain⟨p27,c26,rfl,h48⟩:=yJ h47;exact yN [hB av (cRd y15 p27 c26)] H ⟨_,_,_,_,rfl,rfl,h46,h48⟩
        ·rintro I1 hf aa _ _ ⟨rfl,rfl⟩ _ _ ⟨p26,c25,p27,c26,rfl,rfl,h46,h48⟩;refine yW [50,57] rfl ?_;have H:=iS I1;refine qB (zAw y15 y14 _ hy10 h48 h46) rfl ?_;rintro I020 ax v2 k2 le16 - ⟨v013,kk5,rfl,rfl,h49,h50⟩ -;have H:=H.trans le16;obtain⟨p28,c27,rfl⟩:=h49.form;obtain⟨p29,c28,rfl,h51⟩:=yJ h50;exact yN [hB av (cRd y18 p29 c28)] H ⟨_,_,_,_,rfl,rfl,h49,h51⟩
        rintro I1 hf aa _ _ ⟨rfl,rfl⟩ _ _ ⟨p28,c27,p29,c28,rfl,rfl,h49,h51⟩;refine yW [49,58] rfl ?_;have H:=iS I1;refine qB (zAw y18 y17 _ hy11 h51 h49) rfl ?_;rintro I021 ax v2 k2 le17 - ⟨v015,kk6,rfl,rfl,h52,h53⟩ -;have H:=H.trans le17;obtain⟨p30,c29,rfl⟩:=h52.form;obtain⟨p31,c30,rfl,h54⟩:=yJ h53;exact yN [hB av (cRd y21 p31 c30)] H ⟨_,_,_,_,rfl,rfl,h52,h54⟩
       rintro I022 le18 _ _ ⟨rfl,rfl⟩ _ _ ⟨p30,c29,p31,c30,rfl,rfl,h52,h54⟩;refine yW [4,5,48,59] rfl ?_;have ⟨h4,H⟩:=m2 le18 h4 H;obtain⟨x7,hy12,N⟩:=zB N;refine gJ 3 rfl rfl rfl h4 hy12 ?_;intro ad2 ccs3 hat3 hcc2 br;obtain⟨p32,c31,p33,c32,rfl,h55,h56⟩:=wI br;refine yG 15 [] [61] rfl ?_;obtain⟨l2,hy13,N⟩:=zB N;refine zMT (c:=[vS p30 y20 c29,vS p33 x7.Body c32]) 3 0 hat3 hcc2 h4 hy12 hy13 (wU ⟨_,_,rfl,h52,h56⟩) ?_;intro cs11 h57 hl08;exact zAe (m':=[(4,vP b1 0),(5,vP b2 0),(59,vS p30 y20 c29)]) ⟨rfl,rfl,rfl,trivial⟩<|zIP (ag:=[hB av (cRd y21 p31 c30),hB b2 [vS p4 y.Arrays c3,vS p5 l2 c4],hO zD (vS p4 y.Arrays c3) cs,hO zF (vS p5 l2 c4) cs11,hB b1 zTwo]) (m':=[(4,vP b1 0),(5,vP b2 0),(59,vS p30 y20 c29)]) (by first|rfl|simp only[vS,hl08,cC,ep,cT,eu,em,eo]) (by first|rfl|simp only[vS,hl08])<|zY rfl<|yZ<|zU ⟨_,_,_,_,_,_,_,(zE N).symm,H,h57,h54,rfl,rfl⟩
      intro bJ N;exact zT<|yZ<|zU ⟨_,_,_,_,_,_,_,(zE N).symm,H,h4,h7,rfl,rfl⟩
     rintro I018 ax m2 ⟨Parts3,x5,p22,c21,cs10,p23,c22,heq1,le19,h42,h43,rfl,rfl⟩;subst o04;have H:=H.trans le19;exact yZ<|zU ⟨_,_,_,_,_,_,_,(zE hMc4).symm,H,h42,h43,rfl,rfl⟩
    intro bD N;refine yK [62] rfl<|zK ?_;obtain⟨o05,ho05,hMc5⟩:=zB N;refine nP (λI' ag m'=>∃(Parts4:List zF) (x8:zQ) (p34:Option Addr) (c33:Nat) (cs12:List Value) (p35:Option Addr) (c34:Nat),o05=(Parts4,x8)/\aW.le I'/\(RL I' cs12 Parts4)/\(S4 I' p35 x8.b c34)/\ag=[hB av (cRd x8 p35 c34),hB b2 [vS p4 y.Arrays c3,vS p34 Parts4 c33],hO zD (vS p4 y.Arrays c3) cs,hO zF (vS p34 Parts4 c33) cs12,hB b1 zTwo]/\m'=[(4,vP b1 0),(5,vP b2 0)]) ?_ ?_
    ·have H:=iS aW;refine yH ho05 ?_ ?_
     ·intro hc5 N;refine yC ?_;refine vQ N [hB av (cRd y3 p6 c5),hB b2 (cProg y p4 c3 p5 c4),hO zD (vS p4 y.Arrays c3) cs,hO zF (vS p5 y.Parts c4) au,hB b1 zTwo] (λt76=>[(0,vP av 0),(4,vP b1 0),(5,vP b2 0),(6,vI (y.Parts.length:Int)),(76,.bool t76)]) (λo06 ho06=>?_) ?_
      ·have H:=iS aW;refine zL<|yG 3 [] [66] rfl<|wR [66] ho06 ?_ ?_
       ·intro hc6 N;refine yG 7 [1] [68,70] rfl<|bE N λx9 hy14 N=>gJ 3 rfl rfl rfl h4 hy14 ?_;intro ad3 ccs4 hat4 hcc3 bB;obtain⟨p36,c35,p37,c36,rfl,h60,h61⟩:=wI bB;exact yG 9 [] [72] rfl<|zCU 3 1 hat4 hcc3 [vS p37 x9.Body c36] (vS p37 x9.Body c36) rfl rfl<|yQ [] [76] rfl<|yZ<|zU (ct N H)
       intro hc6 N;exact wM [] [(76,vF)]<|yZ<|zU (ct N H)
      intro t76 I024 le20 hMc6;have ⟨h7,h4,H⟩:=m3 le20 h7 h4 H;refine zK ?_;obtain⟨o07,ho07,hMc7⟩:=zB hMc6;refine nP (λI' ag m'=>∃(Parts5:List zF) (x10:zQ) (p38:Option Addr) (c37:Nat) (cs13:List Value) (p39:Option Addr) (c38:Nat),o07=(Parts5,x10)/\I024.le I'/\(RL I' cs13 Parts5)/\(S4 I' p39 x10.b c38)/\ag=[hB av (cRd x10 p39 c38),hB b2 [vS p4 y.Arrays c3,vS p38 Parts5 c37],hO zD (vS p4 y.Arrays c3) cs,hO zF (vS p38 Parts5 c37) cs13,hB b1 zTwo]/\m'=[(4,vP b1 0),(5,vP b2 0)]) ?_ ?_
      ·have H:=iS I024;refine yH ho07 ?_ ?_
       ·intro hc7 N;obtain⟨x11,hy15,N⟩:=zB N;obtain⟨x12,hy16,N⟩:=zB N;obtain⟨⟨y22,y23⟩,hy17,N⟩:=zB N;obtain⟨⟨y24,y25⟩,hy18,N⟩:=zB N;obtain⟨⟨y26,y27⟩,hy19,N⟩:=zB N;obtain⟨l3,hy20,N⟩:=zB N;have hF:False:=hne _ _ _ _ _ (by assumption) (by assumption) (by assumption) hy15 hy16;obtain⟨p40,c39,cs14,p41,c40,h64,h65⟩:∃p40 c39 cs14 p41 c40,(RL I024 cs14 l3)/\(S4 I024 p41 y27.b c40):=hF.elim;exact zND hF (ap:=I024) (ag:=[hB av (cRd y27 p41 c40),hB b2 [vS p4 y.Arrays c3,vS p40 l3 c39],hO zD (vS p4 y.Arrays c3) cs,hO zF (vS p40 l3 c39) cs14,hB b1 zTwo]) (m':=[(0,vP av 0),(4,vP b1 0),(5,vP b2 0),(6,vI (y.Parts.length:Int)),(76,.bool t76)])<|yZ<|zU ⟨_,_,_,_,_,_,_,(zE N).symm,H,h64,h65,rfl,rfl⟩
       intro hc7 N;exact zT<|yZ<|zU ⟨_,_,_,_,_,_,_,(zE N).symm,H,h4,h7,rfl,rfl⟩
      rintro I025 ax m2 ⟨Parts5,x10,p38,c37,cs13,p39,c38,heq3,le21,h62,h63,rfl,rfl⟩;subst o07;have H:=H.trans le21;exact yZ<|zU ⟨_,_,_,_,_,_,_,(zE hMc7).symm,H,h62,h63,rfl,rfl⟩
     intro hc5 N;refine yK [100] rfl<|zK ?_;obtain⟨o08,ho08,hMc8⟩:=zB N;refine nP (λI' ag m'=>∃(Parts6:List zF) (p42:Option Addr) (c41:Nat) (cs15:List Value),o08=Parts6/\aW.le I'/\(RL I' cs15 Parts6)/\ag=[hB av (cRd y3 p6 c5),hB b2 [vS p4 y.Arrays c3,vS p42 Parts6 c41],hO zD (vS p4 y.Arrays c3) cs,hO zF (vS p42 Parts6 c41) cs15,hB b1 zTwo]/\m'=[(4,vP b1 0),(5,vP b2 0)]) ?_ ?_
     ·have H:=iS aW;refine yH ho08 ?_ ?_
      ·intro hc8 N;refine yK [103] rfl<|zK ?_;obtain⟨o09,ho09,hMc9⟩:=zB N;refine nP (λI' ag m'=>∃(Parts7:List zF) (p43:Option Addr) (c42:Nat) (cs16:List Value),o09=Parts7/\aW.le I'/\(RL I' cs16 Parts7)/\ag=[hB av (cRd y3 p6 c5),hB b2 [vS p4 y.Arrays c3,vS p43 Parts7 c42],hO zD (vS p4 y.Arrays c3) cs,hO zF (vS p43 Parts7 c42) cs16,hB b1 zTwo]/\m'=[(4,vP b1 0),(5,vP b2 0)]) ?_ ?_
       ·have H:=iS aW;refine yH ho09 ?_ ?_
        ·intro hc9 N;refine zL<|yG 4 [1] [105,107] rfl<|bE N λx13 hy21 N=>gJ 3 rfl rfl rfl h4 hy21 ?_;intro ad4 ccs5 hat5 hcc4 hrep4;obtain⟨p44,c43,p45,c44,rfl,h68,h69⟩:=wI hrep4;refine yG 6 [] [109] rfl ?_;obtain⟨l4,hy22,N⟩:=zB N;refine zMT (c:=[vS p44 x13.Nest c43,z0]) 3 1 hat5 hcc4 h4 hy21 hy22 (wU ⟨_,_,rfl,h68,(SL.nil _)⟩) ?_;intro cs17 h70 hl09;exact zAe (m':=[(4,vP b1 0),(5,vP b2 0)]) ⟨rfl,rfl,trivial⟩<|zIP (ag:=[hB av (cRd y3 p6 c5),hB b2 [vS p4 y.Arrays c3,vS p5 l4 c4],hO zD (vS p4 y.Arrays c3) cs,hO zF (vS p5 l4 c4) cs17,hB b1 zTwo]) (m':=[(4,vP b1 0),(5,vP b2 0)]) (by first|rfl|simp only[vS,hl09,cC,ep,cT,eu,em,eo]) (by first|rfl|simp only[vS,hl09])<|zY rfl<|yZ<|zU ⟨_,_,_,_,(zE N).symm,H,h70,rfl,rfl⟩
        intro hc9 N;exact zT<|yZ<|zU ⟨_,_,_,_,(zE N).symm,H,h4,rfl,rfl⟩
       rintro I027 ax m2 ⟨Parts7,p43,c42,cs16,heq4,le22,h67,rfl,rfl⟩;subst o09;have H:=H.trans le22;exact yZ<|zU ⟨_,_,_,_,(zE hMc9).symm,H,h67,rfl,rfl⟩
      intro hc8 N;exact zT<|yZ<|zU ⟨_,_,_,_,(zE N).symm,H,h4,rfl,rfl⟩
     rintro I026 ax m2 ⟨Parts6,p42,c41,cs15,heq5,le23,h66,rfl,rfl⟩;subst o08;have ⟨h7,H⟩:=m2 le23 h7 H;exact yZ<|zU ⟨_,_,_,_,_,_,_,(zE hMc8).symm,H,h66,h7,rfl,rfl⟩
    rintro I023 ax m2 ⟨Parts4,x8,p34,c33,cs12,p35,c34,heq6,le24,h58,h59,rfl,rfl⟩;subst o05;have H:=H.trans le24;exact yZ<|zU ⟨_,_,_,_,_,_,_,(zE hMc5).symm,H,h58,h59,rfl,rfl⟩
   rintro I017 ax m2 ⟨Parts2,x4,p20,c19,cs9,p21,c20,heq7,le25,h40,h41,rfl,rfl⟩;subst o03;have ⟨h3,H⟩:=m2 le25 h3 H;exact yZ<|zU ⟨_,_,_,_,_,_,_,_,_,_,_,(zE hMc3).symm,H,h3,h40,h41,rfl,rfl⟩
  rintro bS ax m2 ⟨ai,aS,x1,bc,aZ,bz,p14,bd,cs6,p15,c14,heq8,le26,h26,h27,h28,rfl,rfl⟩;subst aU;have H:=H.trans le26;exact yZ<|zU ⟨_,_,_,_,_,_,_,_,_,_,_,(zE hMc1).symm,H,h26,h27,h28,rfl,rfl⟩
 rintro bx ax m2 ⟨Arrays,Parts,x,p7,c6,aR,p8,c7,aM,p9,c8,aT,le27,h8,h9,h10,rfl,rfl⟩;subst o0;refine zN<|yY<|uW 1 [1] [(110,vA [vS p7 Arrays c6,vS p8 Parts c7])]<|xC 4 [vS p7 Arrays c6,vS p8 Parts c7] rfl<|zY rfl<|xH<|xB 2 rfl ?_;intro I028 le28 hl010;have h71:=SL.of_frozen hl010 le28 h8;have ⟨h10,h9⟩:=m2 le28 h10 h9;refine xB 2 rfl ?_;intro I029 le29 hl011;have h72:=SL.of_frozen hl011 le29 h9;have ⟨h10,h71⟩:=m2 le29 h10 h71;exact xX aX (resC 2 rfl rfl) (zX [0] rfl (by decide)) ⟨_,_,rfl,rfl,⟨_,rfl,(xJ ⟨_,_,rfl,h71,h72⟩)⟩,(xF ⟨_,rfl,h10⟩)⟩
theorem zFS(p:zC):∀(i1:Int) (Parts:List zF) (o:List zF),sF p i1 Parts=some o->∀{B}{I0 I:Imm}{Q}{ai:List zD}{p1 c p2 c1}{b b1 b2}{p4 c3 au p9 c8 bt}{al:List Raw2}{pN pB:Option Addr}{cN cB:Nat}{nl:List zG}{bl:List zI}{csB:List Value},I0.le I->(RL I au ai)->(S4 I p1 p.Arrays c)->(S4 I p2 p.Parts c1)->(RL I bt al)->LP I al Parts (vS pN nl cN) nl (vS pB bl cB) bl->SL I (vS pN nl cN) nl->RL I csB bl->(∀l a w,¬Q (.goto l) a w)->(∀a w,¬Q .outgrown a w)->(∀(I':Imm) (aL:Option Addr) (c9:Nat) (bz:List Value) (raws1:List Raw2) (pN pB:Option Addr) (cN cB:Nat) (nl:List zG) (bl:List zI) (csB:List Value),I0.le I'->(RL I' bz raws1)->LP I' raws1 o (vS pN nl cN) nl (vS pB bl cB) bl->SL I' (vS pN nl cN) nl->RL I' csB bl->T 84 B Q (.exit 2) I' [hO zI (vS pB bl cB) csB,hO Raw2 (vS aL raws1 c9) bz,hO zD (vS p4 ai c3) au,hB b2 [vS p4 ai c3,vS aL raws1 c9],hB b1 zTwo] [(2,vP b1 0),(3,vP b2 0)])->J Tryz.prog 84 B (nav (bodyOf f104) [1,1,1,0,1,0]) Q I [hO zI (vS pB bl cB) csB,hO Raw2 (vS p9 al c8) bt,hO zD (vS p4 ai c3) au,hB b2 [vS p4 ai c3,vS p9 al c8],hB b1 zTwo,hB b (cProg p p1 c p2 c1)] [(1,vP b 0),(2,vP b1 0),(3,vP b2 0),(5,vI i1)]:=by
 refine sF.partial_correctness p _ λaJ ih i1 Parts o N B I0 I Q ai p1 c p2 c1 b b1 b2 p4 c3 au p9 c8 bt al pN pB cN cB nl bl csB H h4 h h1 hRw hLP hN hBd hg ho hx=>yX hg ho<|yC<|yD<|yQ [5] [40] rfl<|zK<|yH N ?_ ?_
 ·intro aH N;refine oO 0 rfl ?_;intro immf lef hlf;have kB:=SL.of_frozen hlf lef hBd;have ⟨h4,h,h1,hN,hRw,hLP⟩:=m6 lef h4 h h1 hN hRw hLP;have H:=H.trans lef;have h14:=hLP.done hN kB;rw[<- fO hRw] at h14;have eP:vS p9 al c8=vS p9 Parts c8:=by simp only[vS,hLP.2.1]
  rw[eP];clear hBd hlf;refine zT<|yA<|yL<|yD<|yG 3 [4] [44,45] rfl<|bE N λx2 bu N=>xW rfl rfl h1 bu ?_;intro ad3 ccs4 hat3 br;obtain⟨aF,aO,bj,aQ,rfl,h16,h17⟩:=wI br;refine yG 5 [] [47] rfl<|xM 0 hat3 [vS aF x2.Nest aO] (vS aF x2.Nest aO) rfl<|bE N λy bC N=>xK (zDx x2.Nest _ bC h16) ?_;rintro bG ax v2 k2 aY - ⟨v04,rfl,rfl,h18⟩ -;have ⟨h14,hRw,hLP,hN⟩:=m4 aY h14 hRw hLP hN;replace kB:=kB.mono aY;have ⟨h4,h,h1,H⟩:=m4 aY h4 h h1 H;obtain⟨bc,aZ,rfl⟩:=h18.form;refine yG 8 [] [50] rfl<|xY zTwo ?_;intro b5 hb5;refine xC 0 [vS bc y aZ,z0] rfl<|zY rfl<|yA<|yK [7] rfl<|wN<|qX [(1,vP b 0),(2,vP b1 0),(3,vP b2 0),(5,vI i1),(6,vP b5 0),(7,vI 0)]<|zA6 zI λh19=>?_;obtain⟨aU,aB,hMl1⟩:=zB N;refine zCJ p i1 0 ([]:List zI) aU aB iR h18 h14 h4 h h1 h19 (λ_ _ _ h=>hg _ _ _ h) (λ_ _ h=>ho _ _ h) ?_;intro bN bb p15 c14 cs7 heq1 le10 h21;subst aU;have ⟨h18,hRw,hLP,hN⟩:=m4 le10 h18 hRw hLP hN;replace kB:=kB.mono le10;have ⟨h4,h,h1,H⟩:=m4 le10 h4 h h1 H;obtain⟨l3,hy11,N⟩:=zB hMl1;have hy12:=zHz (l':=al) (m':=[(⟨vS bc y aZ,vS p15 bb c14⟩:Raw2)]) hy11 hLP.2.1 rfl;have h40:RL bN [vS bc y aZ,vS p15 bb c14] [(⟨vS bc y aZ,vS p15 bb c14⟩:Raw2)]:=⟨[vS bc y aZ,vS p15 bb c14],[],rfl,rfl,⟨rfl,rfl,rfl⟩,rfl⟩;refine zS<|zK<|zL<|uW 3 [4,1] [(78,vS p9 Parts c8),(79,vA [vS bc y aZ,vS p15 bb c14])]<|uX [vS bc y aZ,vS p15 bb c14] Raw2 ?_;intro b7 hb7;refine sW (α:=Raw2) 47 2 3 rfl rfl rfl hRw (.inr ⟨0,rfl⟩) h40 hy12 ?_;intro p29 c28 cs11 h41;exact tX (zZ [1,3,4,5,6,7] (ag:=[hO zI (vS p15 bb c14) cs7,hO Raw2 (vS p29 (al++[(⟨vS bc y aZ,vS p15 bb c14⟩:Raw2)]) c28) cs11,hO zD (vS p4 ai c3) au,hB b2 [vS p4 ai c3,vS p9 Parts c8],hB b1 zTwo,hB b (cProg p p1 c p2 c1)]))<|yG 6 [] [82] rfl<|xC 3 [vS p4 ai c3,vS p29 (al++[(⟨vS bc y aZ,vS p15 bb c14⟩:Raw2)]) c28] rfl<|zY rfl<|zN<|zK<|zL<|yQ [] [5] rfl<|yV<|nX<|ih (W (i1+1)) l3 _ N H h4 h h1 h41 (hLP.push hN kB hy11) h18 h21 hg ho hx
 intro aH N;have:=zE N;simp only[id] at this;subst this;exact wW<|wK (zX [0,1,2,3,4] rfl (by decide))<|yZ<|hx _ _ _ _ _ _ _ _ _ _ _ _ H hRw hLP hN hBd
def zFz(r:zC):KT:=λkk I' ag v=>
 ∃(a0:Option Addr) (c0:Nat) (s0:List Value) (a1:Option Addr) (c1:Nat) (s1:List Value) (al:List Raw2) (pN pB:Option Addr) (cN cB:Nat) (nl:List zG) (bl:List zI) (csB:List Value),ag=[hO zI (vS pB bl cB) csB,hO Raw2 (vS a1 al c1) s1,hO zD (vS a0 r.Arrays c0) s0]/\v=tupV [vA [vS a0 r.Arrays c0,vS a1 al c1]]/\RL I' s0 r.Arrays/\RL I' s1 al/\LP I' al r.Parts (vS pN nl cN) nl (vS pB bl cB) bl/\SL I' (vS pN nl cN) nl/\RL I' csB bl
theorem zHc:∀(p:zC) r,qK p=some r->∀{I:Imm}{p1 c p2 c1},(S4 I p1 p.Arrays c)->(S4 I p2 p.Parts c1)->RT 104 [vA (cProg p p1 c p2 c1)] I [] (zFz r):=by
 intro p r N I p1 c p2 c1 h h1;unfold qK at N;refine yM func104 λB=>yD<|vC (cProg p p1 c p2 c1) ?_;intro b hb;refine xY zTwo ?_;intro b1 hb1;refine zY rfl<|yY<|yG 1 [] [8] rfl<|xY zTwo ?_;intro b2 hb2;refine jV 0 zTwo [hB b2 zTwo,hB b1 zTwo,hB b (cProg p p1 c p2 c1)] rfl rfl rfl rfl<|zY rfl<|yA<|yK [4] rfl<|wN<|qX [(1,vP b 0),(2,vP b1 0),(3,vP b2 0),(4,vI 0)]<|zA6 zD λh2=>?_;obtain⟨o0,aA,aE⟩:=zB N;refine zCI p 0 ([]:List zD) o0 aA iR h h1 h2 nG nO ?_;intro bx ai p4 c3 au heq aI h4;subst o0;have ⟨h,h1⟩:=m2 aI h h1;refine zS<|yA<|yK [5] rfl<|wN<|qX [(1,vP b 0),(2,vP b1 0),(3,vP b2 0),(5,vI 0)]<|qZ (fN (Rp.sz Raw2))<|qZ (fN (Rp.sz zI)) ?_;obtain⟨o02,ho02,hMl2⟩:=zB aE;refine zFS p 0 ([]:List zF) o02 ho02 (al:=[]) (pN:=none) (pB:=none) (cN:=0) (cB:=0) (nl:=[]) (bl:=[]) iR h4 h h1 RepL.nil LP.nil (SL.nil _) RepL.nil nG nO ?_;intro bR aL c9 bz raws1 pN pB cN cB nl bl csB le12 hRw hLP hN hBd;have h4:=iM le12 h4;obtain rfl:=zE hMl2;exact zS<|yY<|uW 1 [3] [(83,vA [vS p4 ai c3,vS aL raws1 c9])]<|xC 4 [vS p4 ai c3,vS aL raws1 c9] rfl<|zY rfl<|xH<|zFE (resC 4 rfl rfl) (zX [0,1,2] rfl (by decide)) ⟨_,_,_,_,_,_,_,_,_,_,_,_,_,_,rfl,rfl,h4,hRw,hLP,hN,hBd⟩
theorem zNM{al:List Raw2}{k}{r:Raw2}(h:al[k]?=some r):al.set k r=al:=by
 obtain⟨hk,e⟩:=bZ.1 h;subst e;exact List.set_getElem_self hk
theorem zGA(r0:zQ)(p1:zC)(r:zC×zQ)(N:nU r0 p1=some r){y:zC}{y3:zQ}{x:zF}{s:zI}(hy:qK p1=some y)(az:xN r0 60=some (3,y3))(hx:idx y.Parts (W ((y.Parts.length:Int) - 1))=some x)(hs:idx x.Body 0=some s):
 ∀{I:Imm}{av}{p c p2 c1 p3 c2},(S4 I p r0.b c)->(S4 I p2 p1.Arrays c1)->(S4 I p3 p1.Parts c2)->RT 90 [vP av 0,vA (cProg p1 p2 c1 p3 c2)] I [hB av (cRd r0 p c)] (zA8 av r):=by
 intro I av p c p2 c1' p3 c2 h h1 h2
 obtain⟨i0,i1,i2⟩:=uQ hx
 obtain⟨j0,j1,j2⟩:=uQ hs
 have hn:(y.Parts.length:Int)>0:=by
  have:=(bZ.1 i2).1;omega
 have hb:(x.Body.length:Int)>0:=by
  have:=(bZ.1 j2).1;omega
 have e0:((3:Int)==0)=false:=rfl
 have e1:((3:Int)==1)=false:=rfl
 have e2:((3:Int)==2)=false:=rfl
 have e3:((3:Int)==3)=true:=rfl
 unfold nU at N
 simp only[hy,az,e0,e1,e2,e3,hn,hb,hx,hs,decide_true,if_true,da,if_false,Option.pure_def,Option.bind_eq_bind,Option.bind_some] at N
 cases hm1:qL y3 s with
 | none=>rw[hm1] at N;cases N
 | some q1=>
 obtain⟨y22,y23⟩:=q1
 simp only[hm1,Option.bind_some] at N
 cases hm2:qL y23 y22 with
 | none=>rw[hm2] at N;cases N
 | some q2=>
 obtain⟨y24,y25⟩:=q2
 simp only[hm2,Option.bind_some] at N
 cases hm3:qL y25 y24 with
 | none=>rw[hm3] at N;cases N
 | some q3=>
 obtain⟨y26,y27⟩:=q3
 simp only[hm3,Option.bind_some,Option.some.injEq] at N
 subst N
 refine yM func90 λB=>yD<|vC [vS p2 p1.Arrays c1',vS p3 p1.Parts c2] ?_
 intro b hb
 refine xY zTwo ?_
 intro b1 hb1
 refine zY rfl<|yY<|uW 1 [1] [(7,vA [vS p2 p1.Arrays c1',vS p3 p1.Parts c2])]<|xK (zHc p1 _ hy h1 h2) ?_
 rintro I0 ax v2 k2 le - ⟨a0,c0,s0,a1,c1,s1,al,pN,pB,cN,cB,nl,bl,csB,rfl,rfl,h3,hRw,hLP,hN,hBd⟩ -
 have h:=h.mono le
 clear h1 h2
 rw[hLP.len] at hx hn i0 i1 i2
 obtain⟨rfl,hraw,hset⟩:=hLP.last hx
 simp only at hs hb j0 j1 j2 hm1
 have hset:=hset (vS pN nl cN) nl (vS pB bl cB) (bl.set 0 y26)
 rw[zNM (uQ hraw).2.2] at hset
 refine xY zTwo ?_
 intro b2 hb2
 refine xC 0 [vS a0 y.Arrays c0,vS a1 al c1] rfl<|zY rfl<|yY<|yQ [0] [6] rfl<|yA<|yD<|yG 1 [] [12] rfl<|tX (zZ [6,1,2,0,3,4] (ag:=[hB av (cRd r0 p c),hO zI (vS pB bl cB) csB,hO Raw2 (vS a1 al c1) s1,hB b2 [vS a0 y.Arrays c0,vS a1 al c1],hO zD (vS a0 y.Arrays c0) s0,hB b1 zTwo]))<|qB (wL r0 60 _ az h) rfl ?_
 rintro aP ax v2 k2 aa - ⟨v0,kk,rfl,rfl,rfl,h6⟩ -
 obtain⟨v01,rfl,h7⟩:=zA4 h6
 obtain⟨p6,c5,rfl⟩:=h7.form
 clear h6 h
 have h3:=iM aa h3
 have hRw:=iM aa hRw
 have hN:=hN.mono aa
 have hBd:=iM aa hBd
 have hset:=hset.mono aa
 refine zY rfl<|wN<|yK [14] rfl<|zK<|kE rfl<|yK [29] rfl<|zK<|kE rfl<|yK [43] rfl<|zK<|kE rfl<|yK [62] rfl<|zK<|nN rfl<|yD<|yG 3 [] [66] rfl ?_
 rw[decide_eq_true hn]
 refine yG 7 [3] [68,70] rfl<|gJ (α:=Raw2) 2 rfl rfl rfl hRw hraw ?_
 intro ad aN aq bI am
 obtain⟨rfl,o1,o2⟩:=am
 refine yG 9 [] [72] rfl<|zCU 2 1 aq bI [vS pB bl cB] (vS pB bl cB) rfl rfl<|yQ [] [76] rfl ?_
 rw[decide_eq_true hb]
 refine zK<|nN rfl<|qX [(0,vP av 0),(4,vP b1 0),(5,vP b2 0),(6,vI (al.length:Int))]<|wP [.p (vP b2 1) [],.p (vS a1 al c1) [2],.p (vI (al.length:Int)) [],.p (vI (W ((al.length:Int) - 1))) [],.x (λI' v hx'=>∃ad,v=.pointer (some ad)/\hx'=[]/\AtO (vS a1 al c1) 2 (W ((al.length:Int) - 1)).toNat ad),.x (λI' v hx'=>∃ad,v=.pointer (some (ad.add 1))/\hx'=[]/\AtO (vS a1 al c1) 2 (W ((al.length:Int) - 1)).toNat ad),.x (λI' v hx'=>v=vS pB bl cB/\hx'=[]),.p (vP av 0) [],.p (vP av 0) [],.p (vP av 0) [],.p (vP b2 1) [],.p (vS a1 al c1) [2],.p (vI (al.length:Int)) [],.p (vI (W ((al.length:Int) - 1))) [],.x (λI' v hx'=>∃ad,v=.pointer (some ad)/\hx'=[]/\AtO (vS a1 al c1) 2 (W ((al.length:Int) - 1)).toNat ad),.x (λI' v hx'=>∃ad,v=.pointer (some (ad.add 1))/\hx'=[]/\AtO (vS a1 al c1) 2 (W ((al.length:Int) - 1)).toNat ad),.x (λI' v hx'=>v=vS pB bl cB/\hx'=[]),.x (λI' v hx'=>∃ad,v=.pointer (some ad)/\hx'=[]/\AtO (vS pB bl cB) 9 0 ad),.x (λI' v hx'=>∃cs9,v=.agg ⟨cs9⟩/\hx'=[]/\Rp.rep I' cs9 s),.x (λI' v hx'=>∃(cs9 kk:List Value),v=.agg ⟨cs9⟩/\hx'=[hB av kk]/\Rp.rep I' cs9 y22/\Rp.rep I' kk y23),.x (λI' v hx'=>∃(cs9 kk:List Value),v=.agg ⟨cs9⟩/\hx'=[hB av kk]/\Rp.rep I' cs9 y24/\Rp.rep I' kk y25),.x (λI' v hx'=>∃(cs9 kk:List Value),v=.agg ⟨cs9⟩/\hx'=[hB av kk]/\Rp.rep I' cs9 y26/\Rp.rep I' kk y27)] [[],[(0,false)],[],[(2,false)],[(1,false),(3,false)],[(4,false)],[(5,false)],[],[],[],[],[(10,false)],[],[(12,false)],[(11,false),(13,false)],[(14,false)],[(15,false)],[(16,false)],[(17,false)],[(9,false),(18,false),(24,true)],[(8,false),(19,true)],[(7,false),(20,true)]] [hO zI (vS pB bl cB) csB,hO Raw2 (vS a1 al c1) s1,hB b2 [vS a0 y.Arrays c0,vS a1 al c1],hO zD (vS a0 y.Arrays c0) s0,hB b1 zTwo] [[hB av (cRd y3 p6 c5)]] [(6,false),(21,true)] (zZ [1,2,3,4,5,0]) ?_ ?_
 ·refine O4<|Ox ?_<|Ox ?_<|Ox ?_<|O4<|O3<|Ox ?_<|Ox ?_<|Ox ?_<|Ox ?_<|Ox ?_<|Ox ?_<|Ox ?_<|Ox ?_<|On
  ·intro I1 hf aa
   refine xG ?_
   rintro _ _ ⟨rfl,rfl⟩
   refine xG ?_
   rintro _ _ ⟨rfl,rfl⟩
   refine uB<|zBI [(78,vS a1 al c1),(80,vI (W ((al.length:Int) - 1)))]<|gJ (α:=Raw2) 1 rfl rfl rfl (iM aa hRw) hraw ?_
   intro ad aN aq bI am
   exact yN [] iR ⟨_,rfl,rfl,aq⟩
  ·intro I1 hf aa
   refine xG ?_
   rintro _ _ ⟨ad,rfl,rfl,aq⟩
   exact uB<|zBI [(81,.pointer (some ad))]<|oN 6 [(82,.pointer (some (ad.add 1)))]<|yN [] iR ⟨_,rfl,rfl,aq⟩
  ·intro I1 hf aa
   refine xG ?_
   rintro _ _ ⟨ad,rfl,rfl,aq⟩
   refine uB<|zBI [(82,.pointer (some (ad.add 1)))] ?_
   have am:=hRw.at (uQ hraw).2.2
   obtain⟨⟨bI,o1,o2⟩,_⟩:=am
   exact zCU 1 1 aq bI [vS pB bl cB] (vS pB bl cB) rfl rfl<|xO iR
  ·intro I1 hf aa
   refine xG ?_
   rintro _ _ ⟨rfl,rfl⟩
   refine xG ?_
   rintro _ _ ⟨rfl,rfl⟩
   refine uB<|zBI [(88,vS a1 al c1),(90,vI (W ((al.length:Int) - 1)))]<|gJ (α:=Raw2) 1 rfl rfl rfl (iM aa hRw) hraw ?_
   intro ad aN aq bI am
   exact yN [] iR ⟨_,rfl,rfl,aq⟩
  ·intro I1 hf aa
   refine xG ?_
   rintro _ _ ⟨ad,rfl,rfl,aq⟩
   exact uB<|zBI [(91,.pointer (some ad))]<|oN 16 [(92,.pointer (some (ad.add 1)))]<|yN [] iR ⟨_,rfl,rfl,aq⟩
  ·intro I1 hf aa
   refine xG ?_
   rintro _ _ ⟨ad,rfl,rfl,aq⟩
   refine uB<|zBI [(92,.pointer (some (ad.add 1)))] ?_
   have am:=hRw.at (uQ hraw).2.2
   obtain⟨⟨bI,o1,o2⟩,_⟩:=am
   exact zCU 1 1 aq bI [vS pB bl cB] (vS pB bl cB) rfl rfl<|xO iR
  ·intro I1 hf aa
   refine xG ?_
   rintro _ _ ⟨rfl,rfl⟩
   refine uB<|zBI [(93,vS pB bl cB)]<|gJ (α:=zI) 0 rfl rfl rfl (iM aa hBd) hs ?_
   intro ad aN aq bI am
   exact yN [] iR ⟨_,rfl,rfl,aq⟩
  ·intro I1 hf aa
   refine xG ?_
   rintro _ _ ⟨ad,rfl,rfl,aq⟩
   refine uB<|zBI [(94,.pointer (some ad))] ?_
   obtain⟨am,_⟩:=(iM aa hBd).at j2
   generalize bI:(csB.drop (Int.toNat 0*Rp.sz zI)).take (Rp.sz zI)=cc at am
   obtain⟨w0,w1,w2,w3,rfl,e10,e11,e12,e13⟩:=kJ am
   obtain⟨aL,aO,rfl⟩:=e10.form
   obtain⟨aF,aQ,rfl⟩:=e11.form
   obtain⟨bj,aZ,rfl⟩:=e12.form
   obtain⟨bc,bd,rfl⟩:=e13.form
   exact zCU 0 0 aq bI (cStmt s aL aO aF aQ bj aZ bc bd) (vA (cStmt s aL aO aF aQ bj aZ bc bd)) rfl rfl<|yN [] iR ⟨_,rfl,rfl,wG ⟨_,_,_,_,rfl,e10,e11,e12,e13⟩⟩
  ·intro I1 hf aa
   refine xG ?_
   rintro _ _ ⟨rfl,rfl⟩
   refine xG ?_
   rintro _ _ ⟨cs9,rfl,rfl,h9⟩
   refine xG ?_
   rintro _ _ rfl
   obtain⟨w0,w1,w2,w3,rfl,e10,e11,e12,e13⟩:=kJ h9
   obtain⟨aL,aO,rfl⟩:=e10.form
   obtain⟨aF,aQ,rfl⟩:=e11.form
   obtain⟨bj,aZ,rfl⟩:=e12.form
   obtain⟨bc,bd,rfl⟩:=e13.form
   refine uB<|zBI [(86,vP av 0),(95,vA (cStmt s aL aO aF aQ bj aZ bc bd))]<|qB (zAx y3 s _ hm1 (h7.mono aa) e10 e11 e12 e13) rfl ?_
   rintro aW ax v2 k2 aC - ⟨v0,kk2,rfl,rfl,⟨aR,rfl,h10⟩,h11⟩ -
   exact yN [hB av kk2] aC ⟨_,_,rfl,rfl,h10,h11⟩
  ·intro I1 hf aa
   refine xG ?_
   rintro _ _ ⟨rfl,rfl⟩
   refine xG ?_
   rintro _ _ ⟨cs9,kk,rfl,rfl,h9,hk⟩
   obtain⟨w0,w1,w2,w3,rfl,e10,e11,e12,e13⟩:=kJ h9
   obtain⟨aL,aO,rfl⟩:=e10.form
   obtain⟨aF,aQ,rfl⟩:=e11.form
   obtain⟨bj,aZ,rfl⟩:=e12.form
   obtain⟨bc,bd,rfl⟩:=e13.form
   obtain⟨w4,rfl,hsl⟩:=zA4 hk
   obtain⟨p8,c8,rfl⟩:=hsl.form
   refine uB<|zBI [(85,vP av 0),(96,vA (cStmt y22 aL aO aF aQ bj aZ bc bd))]<|qB (zAx y23 y22 _ hm2 (hsl) e10 e11 e12 e13) rfl ?_
   rintro aW ax v2 k2 aC - ⟨v0,kk2,rfl,rfl,⟨aR,rfl,h10⟩,h11⟩ -
   exact yN [hB av kk2] aC ⟨_,_,rfl,rfl,h10,h11⟩
  intro I1 hf aa
  refine xG ?_
  rintro _ _ ⟨rfl,rfl⟩
  refine xG ?_
  rintro _ _ ⟨cs9,kk,rfl,rfl,h9,hk⟩
  obtain⟨w0,w1,w2,w3,rfl,e10,e11,e12,e13⟩:=kJ h9
  obtain⟨aL,aO,rfl⟩:=e10.form
  obtain⟨aF,aQ,rfl⟩:=e11.form
  obtain⟨bj,aZ,rfl⟩:=e12.form
  obtain⟨bc,bd,rfl⟩:=e13.form
  obtain⟨w4,rfl,hsl⟩:=zA4 hk
  obtain⟨p8,c8,rfl⟩:=hsl.form
  refine uB<|zBI [(84,vP av 0),(97,vA (cStmt y24 aL aO aF aQ bj aZ bc bd))]<|qB (zAx y25 y24 _ hm3 (hsl) e10 e11 e12 e13) rfl ?_
  rintro aW ax v2 k2 aC - ⟨v0,kk2,rfl,rfl,⟨aR,rfl,h10⟩,h11⟩ -
  exact yN [hB av kk2] aC ⟨_,_,rfl,rfl,h10,h11⟩
 intro I5 bo
 refine xG ?_
 rintro _ _ ⟨rfl,rfl⟩
 refine xG ?_
 rintro _ _ ⟨cs9,kk,rfl,rfl,h9,hk⟩
 obtain⟨w0,w1,w2,w3,rfl,e10,e11,e12,e13⟩:=kJ h9
 obtain⟨aL,aO,rfl⟩:=e10.form
 obtain⟨aF,aQ,rfl⟩:=e11.form
 obtain⟨bj,aZ,rfl⟩:=e12.form
 obtain⟨bc,bd,rfl⟩:=e13.form
 have h3:=iM bo h3
 have hRw:=iM bo hRw
 have hN:=hN.mono bo
 have hBd:=iM bo hBd
 have hset:=hset.mono bo
 refine uB<|zBI [(4,vP b1 0),(5,vP b2 0),(83,vS pB bl cB),(98,vA (cStmt y26 aL aO aF aQ bj aZ bc bd))]<|gJ (α:=zI) 1 rfl rfl rfl hBd hs ?_
 intro ad aN aq bI am
 obtain⟨w0,w1,w2,w3,rfl,e20,e21,e22,e23⟩:=kJ am
 obtain⟨p20,c20,rfl⟩:=e20.form
 obtain⟨p21,c21,rfl⟩:=e21.form
 obtain⟨p22,c22,rfl⟩:=e22.form
 obtain⟨p23,c23,rfl⟩:=e23.form
 refine gX (c:=(cStmt y26 aL aO aF aQ bj aZ bc bd)) (x':=y26) 1 0 rfl rfl rfl aq rfl rfl bI (by kernel_rfl) (by kernel_rfl) (by kernel_rfl) hBd hs (by kernel_rfl) (wG ⟨_,_,_,_,rfl,e10,e11,e12,e13⟩) ?_
 intro cs7 h7' bf
 refine wY (ag:=[hB av kk,hO zI (vS pB bl cB) cs7,hO Raw2 (vS a1 al c1) s1,hB b2 [vS a0 y.Arrays c0,vS a1 al c1],hO zD (vS a0 y.Arrays c0) s0,hB b1 zTwo]) rfl<|xV 1 rfl ?_
 intro I6 bv hl6
 have eB:vS pB bl cB=vS pB (bl.set 0 y26) cB:=by simp[vS]
 have kB:SL I6 (vS pB (bl.set 0 y26) cB) (bl.set 0 y26):=by
  rw[<- eB]
  exact SL.of_frozen (l:=bl.set 0 y26) hl6 bv h7'
 rw[eB] at hset
 have hdone:=(hset.mono bv).done (hN.mono bv) kB
 have eS:=fO hRw
 rw[<- eS] at hdone
 have h3:=iM bv h3
 have hk:=Rp.mono bv hk
 have eP:vS a1 al c1=vS a1 (y.Parts.set (W ((al.length:Int) - 1)).toNat ⟨nl,bl.set 0 y26⟩) c1:=by simp only[vS,cP,hLP.2.1]
 refine wY (ag:=[hB av kk,hO Raw2 (vS a1 al c1) s1,hB b2 [vS a0 y.Arrays c0,vS a1 al c1],hO zD (vS a0 y.Arrays c0) s0,hB b1 zTwo]) rfl<|zY rfl<|zN<|yY<|uW 1 [2] [(110,vA [vS a0 y.Arrays c0,vS a1 al c1])]<|xC 4 [vS a0 y.Arrays c0,vS a1 al c1] rfl<|zY rfl<|xH<|xB 1 rfl ?_
 intro I7 le7 hl7
 have k1:SL I7 (vS a1 al c1) (y.Parts.set (W ((al.length:Int) - 1)).toNat ⟨nl,bl.set 0 y26⟩):=SL.of_frozen (l:=y.Parts.set (W ((al.length:Int) - 1)).toNat ⟨nl,bl.set 0 y26⟩) hl7 le7 hdone
 refine xB 2 rfl ?_
 intro I8 le8 hl8
 have k2:=SL.of_frozen hl8 le8 (iM le7 h3)
 rw[hLP.len]
 exact zFE (resC 2 rfl rfl) (zX [0] rfl (by decide)) ⟨_,_,rfl,rfl,⟨_,rfl,(xJ ⟨_,_,rfl,k2,k1.mono le8⟩)⟩,Rp.mono le8 (Rp.mono le7 hk)⟩
theorem zGu:∀r0 p1 r,nU r0 p1=some r->∀{I:Imm}{av}{p c p2 c1 p3 c2},(S4 I p r0.b c)->(S4 I p2 p1.Arrays c1)->(S4 I p3 p1.Parts c2)->RT 90 [vP av 0,vA (cProg p1 p2 c1 p3 c2)] I [hB av (cRd r0 p c)] (zA8 av r):=by
 intro r0 p1 r N I av p c p2 c1 p3 c2 h h1 h2;by_cases hq:∃y y3 x s,qK p1=some y/\xN r0 60=some (3,y3)/\idx y.Parts (W ((y.Parts.length:Int) - 1))=some x/\idx x.Body 0=some s
 ·obtain⟨y,y3,x,s,e1,e2,e3,e4⟩:=hq;exact zGA r0 p1 r N e1 e2 e3 e4 h h1 h2
 refine zFy r0 p1 r N h h1 h2 ?_;intro y y2 y3 x s e1 e2 e3 e4 e5;obtain rfl:=eq_of_beq e3;exact hq ⟨y,y3,x,s,e1,e2,e4,e5⟩
def zCn(r:(List Str)):KT:=λkk I' ag v=>
 ∃v0,ag=[]/\v=tupV [v0]/\SL I' v0 r
def mL(s:Str)(c:UInt8)(out:List Str)(from0:Int)(i:Int):Option (List Str):=do
 if(decide (i<=(s.l.length:Int))) then
  let t25<-(do
   if(i==(s.l.length:Int)) then pure true
   else
    let b1<-sidx s i;pure ((b1.toNat:Int)==(c.toNat:Int))
     : Option Bool)
  let (ar,from01)<-(do
   if t25 then
    let s1<-sslc s from0 i;let bi<-app 16 out ([s1]:List Str);pure (bi,(W (i+1)))
   else
    pure (out,from0)
     : Option (List Str×Int))
  mL s c ar from01 (W (i+1))
 else pure (id out)
 partial_fixpoint
theorem zGB(s:Str)(c:UInt8):∀(out:List Str) (from0:Int) (i:Int) (o:List Str),mL s c out from0 i=some o->∀{B}{I0 I:Imm}{Q p c1 cs},I0.le I->(RL I cs out)->NG Q->NO Q->(∀I' aj p1 c2 au,o=aj->I0.le I'->(RL I' au aj)->T 36 B Q (.exit 0) I' [hO Str (vS p1 aj c2) au] [(5,vS p1 aj c2)])->J Tryz.prog 36 B (nav (bodyOf f174) [1,1,1,0,1,0]) Q I [hO Str (vS p out c1) cs] [(0,vT s.l),(1,.int .u8 (c.toNat:Int)),(5,vS p out c1),(6,vI from0),(7,vI i)]:=by
 refine mL.partial_correctness s c _ λaJ ih out from0 i o N B I0 I Q p c1 cs H h1 hg ho hx=>yX hg ho<|yC<|yK [12] rfl<|zK<|yH N ?_ ?_
 ·intro hc N;refine zT<|yA<|yL<|yC ?_;refine vQ N [hO Str (vS p out c1) cs] (λt25=>[(0,vT s.l),(1,.int .u8 (c.toNat:Int)),(5,vS p out c1),(6,vI from0),(7,vI i),(25,.bool t25)]) (λo0 aA=>?_) ?_
  ·have H:=iS I;refine zL<|yG 5 [] [19] rfl<|wR [19] aA ?_ ?_
   ·intro aH N;exact wM [] [(25,vY)]<|yZ<|zU (ct N H)
   intro aH N;exact yG 7 [] [20,21] rfl<|bE N λb1 hy N=>zBq rfl rfl hy<|yQ [] [25] rfl<|yZ<|zU (ct N H)
  intro t25 I0 le aX;have ⟨h1,H⟩:=m2 le h1 H;refine zK ?_;obtain⟨aU,aB,hMc1⟩:=zB aX;refine nP (λI' ag m'=>∃(ar:List Str) (from01:Int) (p2:Option Addr) (c3:Nat) (aR:List Value),aU=(ar,from01)/\I0.le I'/\(RL I' aR ar)/\ag=[hO Str (vS p2 ar c3) aR]/\m'=[(0,vT s.l),(1,.int .u8 (c.toNat:Int)),(5,vS p2 ar c3),(6,vI from01),(7,vI i)]) ?_ ?_
  ·have H:=iS I0;refine yH aB ?_ ?_
   ·intro ba N;refine yD<|yG 4 [] [26,27,28,29] rfl<|bE N λs1 az N=>zJF rfl az<|uX [vT s1.l] Str ?_;intro b2 hb1;have h4:RL I0 [vT s1.l] ([s1]:List Str):=rT [s1];obtain⟨bi,aG,N⟩:=zB N;exact sW 9 1 1 rfl rfl rfl h1 (.inr ⟨0,rfl⟩) h4 aG λp3 c4 aM h5=>tX (zZ [1] (ag:=[hO Str (vS p3 bi c4) aM]))<|yQ [] [5] rfl<|zK<|zL<|yQ [] [6] rfl<|yZ<|zU ⟨_,_,_,_,_,(zE N).symm,H,h5,rfl,rfl⟩
   intro ba N;exact zT<|yZ<|zU ⟨_,_,_,_,_,(zE N).symm,H,h1,rfl,rfl⟩
  rintro aP ax m2 ⟨ar,from01,p2,c3,aR,heq1,aa,h3,rfl,rfl⟩;subst aU;have H:=H.trans aa;exact zN<|zK<|zL<|yQ [] [7] rfl<|yV<|nX<|ih ar from01 (W (i+1)) _ hMc1 H h3 hg ho hx
 intro hc N;exact wW<|yZ<|hx _ _ _ _ _ (zE N).symm H h1
def fB(s:Str)(c:UInt8):Option ((List Str)):=do
 let aj<-mL s c ([]:List Str) 0 0;pure (id aj)
theorem zBj:∀s c r,fB s c=some r->∀{I:Imm} ,RT 174 [vT s.l,.int .u8 (c.toNat:Int)] I [] (zCn  r):=by
 intro s c r N I;unfold fB at N;refine yM func174 λB=>wZ []<|yY<|uX [] Str ?_;intro b hb;have h:RL I [] ([]:List Str):=rfl;refine yQ [] [5] rfl<|vM [6] rfl<|yA<|yK [7] rfl<|wN<|qX [(0,vT s.l),(1,.int .u8 (c.toNat:Int)),(5,vS (some ⟨b,0,none⟩) ([]:List Str) 0),(6,vI 0),(7,vI 0)] ?_;obtain⟨o02,ho02,aE⟩:=zB N;refine zGB s c ([]:List Str) 0 0 o02 ho02 iR h nG nO ?_;intro aW aj p1 c2 au heq2 aC h2;subst o02;refine zS<|vM [4] rfl<|xH<|xB 0 rfl ?_;intro bx aI hl0;have h6:=SL.of_frozen hl0 aI h2;exact xX aE (resT rfl) zO ⟨_,rfl,rfl,h6⟩
def oC(y:(List Str))(out:List Str)(i:Int):Option (List Str):=do
 if(decide (i<(y.length:Int))) then
  let x<-idx y i;let ar<-(do
   if(!(x.l==([]:List UInt8))) then
    let x1<-idx y i;let bi<-app 16 out ([x1]:List Str);pure (id bi)
   else
    pure (id out)
     : Option (List Str))
  oC y ar (W (i+1))
 else pure (id out)
 partial_fixpoint
theorem zEa(y:(List Str)):∀(out:List Str) (i:Int) (o:List Str),oC y out i=some o->∀{B}{I0 I:Imm}{Q p c p1 c1 cs},I0.le I->(S4 I p y c)->(RL I cs out)->NG Q->NO Q->(∀I' aj p2 c2 au,o=aj->I0.le I'->(RL I' au aj)->T 28 B Q (.exit 0) I' [hO Str (vS p2 aj c2) au] [(4,vS p2 aj c2)])->J Tryz.prog 28 B (nav (bodyOf f210) [1,1,1,0,1,0]) Q I [hO Str (vS p1 out c1) cs] [(3,vS p y c),(4,vS p1 out c1),(5,vI i)]:=by
 refine oC.partial_correctness y _ λaJ ih out i o N B I0 I Q p c p1 c1 cs H h h2 hg ho hx=>yX hg ho<|yC<|yK [12] rfl<|zK<|yH N ?_ ?_
 ·intro hc N;refine zT<|yA<|yL<|yD<|yG 2 [] [15,16] rfl<|bE N λx az N=>xW rfl rfl h az ?_;intro ad aN aq am;obtain rfl:=am;refine xM 0 aq [vT x.l] (vT x.l) rfl<|yQ [] [19] rfl<|zK ?_;obtain⟨o0,aA,aX⟩:=zB N;refine nP (λI' ag m'=>∃(ar:List Str) (p3:Option Addr) (c3:Nat) (aR:List Value),o0=ar/\I.le I'/\(RL I' aR ar)/\ag=[hO Str (vS p3 ar c3) aR]/\m'=[(3,vS p y c),(4,vS p3 ar c3),(5,vI i)]) ?_ ?_
  ·have H:=iS I;refine yH aA ?_ ?_
   ·intro aH N;refine zL<|yG 3 [] [20,21,22] rfl<|bE N λx1 aG N=>xW rfl rfl h aG ?_;intro ad1 bq aw ay;obtain rfl:=ay;refine xM 0 aw [vT x1.l] (vT x1.l) rfl<|uX [vT x1.l] Str ?_;intro b1 hb1;have h5:RL I [vT x1.l] ([x1]:List Str):=rT [x1];obtain⟨bi,bh,N⟩:=zB N;exact sW 9 1 1 rfl rfl rfl h2 (.inr ⟨0,rfl⟩) h5 bh λp4 c4 aM h6=>tX (zZ [1] (ag:=[hO Str (vS p4 bi c4) aM]))<|yQ [] [4] rfl<|yZ<|zU ⟨_,_,_,_,(zE N).symm,H,h6,rfl,rfl⟩
   intro aH N;exact zT<|yZ<|zU ⟨_,_,_,_,(zE N).symm,H,h2,rfl,rfl⟩
  rintro aP ax m2 ⟨ar,p3,c3,aR,heq,aa,h4,rfl,rfl⟩;subst o0;have ⟨h,H⟩:=m2 aa h H;exact zN<|zK<|zL<|yQ [] [5] rfl<|yV<|nX<|ih ar (W (i+1)) _ aX H h h4 hg ho hx
 intro hc N;exact wW<|yZ<|hx _ _ _ _ _ (zE N).symm H h2
def gF(s:Str):Option ((List Str)):=do
 let y<-fB s (32:UInt8);let aj<-oC y ([]:List Str) 0;pure (id aj)
theorem zCo:∀s r,gF s=some r->∀{I:Imm} ,RT 210 [vT s.l] I [] (zCn  r):=by
 intro s r N I;unfold gF at N;refine yM func210 λB=>wZ []<|yY<|yG 1 [] [6] rfl<|bE N λy hy N=>xK (zBj s (32:UInt8) _ hy ) ?_;rintro I0 ax v2 k2 le - ⟨v0,rfl,rfl,h⟩ -;obtain⟨p,c,rfl⟩:=h.form;refine yQ [] [3] rfl<|yY<|uX [] Str ?_;intro b hb;have h1:RL I0 [] ([]:List Str):=rfl;refine yQ [] [4] rfl<|yA<|yK [5] rfl<|wN<|qX [(3,vS p y c),(4,vS (some ⟨b,0,none⟩) ([]:List Str) 0),(5,vI 0)] ?_;obtain⟨aU,aB,aE⟩:=zB N;refine zEa y ([]:List Str) 0 aU aB iR h h1 nG nO ?_;intro aW aj p2 c2 au heq1 aC h3;subst aU;refine zS<|vM [2] rfl<|xH<|xB 0 rfl ?_;intro bx aI hl0;have h7:=SL.of_frozen hl0 aI h3;exact xX aE (resT rfl) zO ⟨_,rfl,rfl,h7⟩
def fW(r:Int×Bool):KT:=λkk I' ag v=>
 ∃v0 v1,ag=[]/\v=tupV [v0,v1]/\v0=.int .i64 r.1/\v1=.bool r.2
def mM(s1:Str)(n0:Int)(i:Int):Option (Out Int (Int×Bool)):=do
 if(decide (i<(s1.l.length:Int))) then
  let t54<-(do
   let b2<-sidx s1 i;if(decide ((b2.toNat:Int)<48)) then pure true
   else
    let b3<-sidx s1 i;pure (decide ((b3.toNat:Int)>57))
     : Option Bool)
  if t54 then pure (.ret (0,false))
  else
   let b4<-sidx s1 i;mM s1 (W ((W (n0*10))+(W (IntKind.u8.wrap ((b4.toNat:Int) - 48))))) (W (i+1))
 else pure (.done n0)
 partial_fixpoint
theorem zGC(s1:Str):∀(n0:Int) (i:Int) (o:Out Int (Int×Bool)),mM s1 n0 i=some o->∀{B}{I0 I:Imm}{Q}{neg:Bool} ,I0.le I->NG Q->NO Q->(∀I' n01,o=(.done n01)->I0.le I'->T 67 B Q (.exit 0) I' [] [(4,.bool neg),(5,vI n01)])->(∀r I' ag m',o=(.ret r)->I0.le I'->RS Tryz.prog f237 B (fW  r) I' ag m'->T 67 B Q .ret I' ag m')->J Tryz.prog 67 B (nav (bodyOf f237) [1,1,1,1,1,0,1,0]) Q I [] [(0,vT s1.l),(4,.bool neg),(5,vI n0),(6,vI i)]:=by
 refine mM.partial_correctness s1 _ λaJ ih n0 i o N B I0 I Q neg H hg ho hx hr=>yX hg ho<|yC<|yK [42] rfl<|zK<|yH N ?_ ?_
 ·intro hc7 N;refine zT<|yA<|yL<|yC<|yC ?_;refine vQ N [] (λt54=>[(0,vT s1.l),(4,.bool neg),(5,vI n0),(6,vI i),(54,.bool t54)]) (λo03 ho03=>?_) ?_
  ·have H:=iS I;refine zL<|yG 2 [] [45,46] rfl ?_;obtain⟨b2,bh,N⟩:=zB ho03;refine zBq rfl rfl bh<|yG 5 [] [49] rfl<|wR [49] N ?_ ?_
   ·intro hc8 N;exact wM [] [(54,vY)]<|yZ<|zU (ct N H)
   intro hc8 N;exact yG 7 [] [50,51] rfl<|bE N λb3 bu N=>zBq rfl rfl bu<|yQ [] [54] rfl<|yZ<|zU (ct N H)
  intro t54 bx aI hMc3;have H:=H.trans aI;refine zK<|yH hMc3 ?_ ?_
  ·intro hc9 N;exact yK [2,3] rfl<|xH<|zJ<|zV<|zJ<|zJ<|hr _ _ _ _ (zE N).symm H ⟨_,_,(resU rfl rfl),zO,⟨_,_,rfl,rfl,rfl,rfl⟩⟩
  intro hc9 N;exact zT<|zK<|zL<|yG 4 [] [56,57,58] rfl<|bE N λb4 bC N=>zBq rfl rfl bC<|yQ [] [5] rfl<|zN<|zK<|zL<|yQ [] [6] rfl<|yV<|nX<|ih (W ((W (n0*10))+(W (IntKind.u8.wrap ((b4.toNat:Int) - 48))))) (W (i+1)) _ N H  hg ho hx hr
 intro hc7 N;exact wW<|yZ<|hx _ _ (zE N).symm H
def eX(s:Str):Option (Int×Bool):=do
 let neg<-(do
  if(decide ((s.l.length:Int)>0)) then
   let b<-sidx s 0;pure ((b.toNat:Int)==45)
  else
   pure false
    : Option Bool)
 let s1<-(do
  if neg then
   let s2<-sslc s 1 (s.l.length:Int);pure (id s2)
  else
   pure (id s)
    : Option Str)
 let t38<-(do
  if((s1.l.length:Int)==0) then pure true
  else
   if(decide ((s1.l.length:Int)>17)) then pure true
   else
    let b1<-sidx s1 0;if((b1.toNat:Int)==48) then
     if(decide ((s1.l.length:Int)>1)) then pure true
     else pure (id neg)
    else pure false
    : Option Bool)
 if t38 then pure (0,false)
 else
  match<-mM s1 0 0 with
  | .ret r0=>pure r0
  | .done n01=>
   let n02<-(do
    if neg then pure (W (0 - n01))
    else
     pure (id n01)
      : Option Int)
   pure (n02,true)
theorem zDz:∀s r,eX s=some r->∀{I:Imm} ,RT 237 [vT s.l] I [] (fW  r):=by
 intro s r N I;unfold eX at N;refine yM func237 λB=>?_;have H:=iS I;refine wZ []<|zK<|yC ?_;refine vQ N [] (λneg=>[(0,vT s.l),(4,.bool neg)]) (λo0 aA=>?_) ?_
 ·have H:=iS I;refine zL<|yG 4 [] [10] rfl<|wR [10] aA ?_ ?_
  ·intro hc N;exact yG 5 [] [11] rfl<|bE N λb hy N=>zBq rfl rfl hy<|yQ [] [4] rfl<|yZ<|zU (ct N H)
  intro hc N;exact wM [] [(4,vF)]<|yZ<|zU (ct N H)
 intro neg I0 le aX;have H:=H.trans le;refine yA<|yK [15] rfl<|zK ?_;refine vQ aX [] (λs1=>[(0,vT s1.l),(4,.bool neg)]) (λaU aB=>?_) ?_
 ·have H:=iS I0;refine yH aB ?_ ?_
  ·intro aH N;exact zL<|yG 1 [] [16] rfl<|bE N λs2 az N=>zJF rfl az<|yQ [] [0] rfl<|yZ<|zU (ct N H)
  intro aH N;exact zT<|yZ<|zU (ct N H)
 intro s1 aP aa hMc1;have H:=H.trans aa;refine yA<|yC ?_;refine vQ hMc1 [] (λt38=>[(0,vT s1.l),(4,.bool neg),(38,.bool t38)]) (λo02 ho02=>?_) ?_
 ·have H:=iS aP;refine zL<|yG 4 [] [21] rfl<|wR [21] ho02 ?_ ?_
  ·intro ba N;exact wM [] [(38,vY)]<|yZ<|zU (ct N H)
  intro ba N;refine yG 9 [] [26] rfl<|wR [26] N ?_ ?_
  ·intro bD N;exact wM [] [(38,vY)]<|yZ<|zU (ct N H)
  intro bD N;refine yG 10 [] [27] rfl<|bE N λb1 aG N=>zBq rfl rfl aG<|yG 13 [] [30] rfl<|wR [30] N ?_ ?_
  ·intro bJ N;refine yG 17 [] [34] rfl<|wR [34] N ?_ ?_
   ·intro hc5 N;exact wM [] [(38,vY)]<|yZ<|zU (ct N H)
   intro hc5 N;exact yQ [] [38] rfl<|yZ<|zU (ct N H)
  intro bJ N;exact wM [] [(38,vF)]<|yZ<|zU (ct N H)
 intro t38 aW aC hMc2;have H:=H.trans aC;refine zK<|yH hMc2 ?_ ?_
 ·intro hc6 N;refine yK [2,3] rfl<|xH<|zJ ?_;exact xX N (resU rfl rfl) zO ⟨_,_,rfl,rfl,rfl,rfl⟩
 intro hc6 N;refine zT<|vM [5] rfl<|yA<|yK [6] rfl<|wN<|qX [(0,vT s1.l),(4,.bool neg),(5,vI 0),(6,vI 0)] ?_;obtain⟨o04,ho04,aE⟩:=zB N;refine zGC s1 0 0 o04 ho04 iR  nG nO ?_ ?_
 ·intro bG n01 heq4 aY;subst o04;have H:=H.trans aY;refine zS<|yA<|yK [63] rfl<|zK ?_;refine vQ aE [] (λn02=>[(5,vI n02)]) (λo05 ho05=>?_) ?_
  ·have H:=iS bG;refine yH ho05 ?_ ?_
   ·intro hc10 N;exact zL<|yQ [] [5] rfl<|yZ<|zU (ct N H)
   intro hc10 N;exact zT<|yZ<|zU (ct N H)
  intro n02 bK bo hMc4;refine vM [2,3] rfl<|zK<|xD ?_;exact xX hMc4 (resU rfl rfl) zO ⟨_,_,rfl,rfl,rfl,rfl⟩
 intro r0 I9 hs9 m9 aT le9 aV;subst aT;refine zV<|zJ ?_;obtain rfl:=zE aE;exact jW aV
def zCK(r:zD):KT:=λkk I' ag v=>
 ∃v0,ag=[]/\v=tupV [v0]/\(∃cs,v0=.agg ⟨cs⟩/\Rp.rep I' cs r)
def pM(w0:(List Str))(i:Int)(Name:Str)(Dims:List Int):Option ((Str×List Int)):=do
 let t15<-(do
  if(decide (i<(w0.length:Int))) then pure (decide (i<=4))
  else
   pure false
    : Option Bool)
 if t15 then
  if(i==1) then
   let x<-idx w0 1;pM w0 (W (i+1)) x Dims
  else
   let x1<-idx w0 i;let (y1,y2)<-eX x1;let l<-app 8 Dims ([y1]:List Int);pM w0 (W (i+1)) Name l
 else pure (Name,Dims)
 partial_fixpoint
theorem zFT(w0:(List Str)):∀(i:Int) (Name:Str) (Dims:List Int) (o:(Str×List Int)),pM w0 i Name Dims=some o->∀{B}{I0 I:Imm}{Q p c}{b b1}{p1 c1 cs},I0.le I->(S4 I p w0 c)->(RL I cs Dims)->NG Q->NO Q->(∀I' Name1 Dims1 p2 c2 au,o=(Name1,Dims1)->I0.le I'->(RL I' au Dims1)->T 39 B Q (.exit 0) I' [hO Int (vS p2 Dims1 c2) au,hB b1 [vT Name1.l,vS p2 Dims1 c2],hB b [vT ([]),z0]] [(2,vP b 0),(3,vP b1 0)])->J Tryz.prog 39 B (nav (bodyOf f211) [1,1,0,1,0]) Q I [hO Int (vS p1 Dims c1) cs,hB b1 [vT Name.l,vS p1 Dims c1],hB b [vT ([]),z0]] [(0,vS p w0 c),(2,vP b 0),(3,vP b1 0),(4,vI i)]:=by
 refine pM.partial_correctness w0 _ λaJ ih i Name Dims o N B I0 I Q p c b b1 p1 c1 cs H h h2 hg ho hx=>yX hg ho<|yC<|yC ?_;refine vQ N [hO Int (vS p1 Dims c1) cs,hB b1 [vT Name.l,vS p1 Dims c1],hB b [vT ([]),z0]] (λt15=>[(0,vS p w0 c),(2,vP b 0),(3,vP b1 0),(4,vI i),(15,.bool t15)]) (λo0 aA=>?_) ?_
 ·have H:=iS I;refine zL<|yG 5 [] [12] rfl<|wR [12] aA ?_ ?_
  ·intro hc N;exact yQ [] [15] rfl<|yZ<|zU (ct N H)
  intro hc N;exact wM [] [(15,vF)]<|yZ<|zU (ct N H)
 intro t15 I0 le aX;have ⟨h,h2,H⟩:=m3 le h h2 H;refine zK<|yH aX ?_ ?_
 ·intro aH N;refine zT<|yA<|yL<|yC<|yK [19] rfl<|zK<|yH N ?_ ?_
  ·intro ba N;refine yD<|yG 1 [] [20] rfl<|bE N λx hy N=>xW rfl rfl h hy ?_;intro ad aN aq am;obtain rfl:=am;exact xM 0 aq [vT x.l] (vT x.l) rfl<|yG 4 [] [23] rfl<|xC 1 [vT x.l,vS p1 Dims c1] rfl<|zY rfl<|zK<|zIH<|dG<|zS<|zK<|zL<|yQ [] [4] rfl<|yV<|nX<|ih (W (i+1)) x Dims _ N H h h2 hg ho hx
  intro ba N;refine zT<|yY<|yG 2 [] [25,26] rfl<|bE N λx1 az N=>xW rfl rfl h az ?_;intro ad1 bq aw ay;obtain rfl:=ay;refine xM 0 aw [vT x1.l] (vT x1.l) rfl ?_;obtain⟨⟨y1,y2⟩,aG,N⟩:=zB N;refine xK (zDz x1 _ aG ) ?_;rintro aP ax v2 k2 aa - ⟨v0,v01,rfl,rfl,rfl,rfl⟩ -;have ⟨h,h2,H⟩:=m3 aa h h2 H;refine yQ [] [5] rfl<|zK<|zL<|yG 3 [1] [33,34] rfl<|uX [vI y1] Int ?_;intro b2 hb2;have h6:RL aP [vI y1] ([y1]:List Int):=rI [y1];obtain⟨l,bh,N⟩:=zB N;refine sW 3 1 1 rfl rfl rfl h2 (.inr ⟨0,rfl⟩) h6 bh ?_;intro p3 c3 aR h7;exact tX (zZ [1,2,3] (ag:=[hO Int (vS p3 l c3) aR,hB b1 [vT Name.l,vS p1 Dims c1],hB b [vT ([]),z0]]))<|yG 6 [] [37] rfl<|xC 1 [vT Name.l,vS p3 l c3] rfl<|zY rfl<|zN<|zK<|zL<|yQ [] [4] rfl<|yV<|nX<|ih (W (i+1)) Name l _ N H h h7 hg ho hx
 intro aH N;exact wW<|yZ<|hx _ _ _ _ _ _ (zE N).symm H h2
def dV(w0:(List Str)):Option (zD):=do
 let (Name1,Dims1)<-pM w0 1 (⟨[]⟩:Str) ([]:List Int);pure (zD.mk Name1 Dims1)
theorem zHd:∀w0 r,dV w0=some r->∀{I:Imm}{p c},(S4 I p w0 c)->RT 211 [vS p w0 c] I [] (zCK  r):=by
 intro w0 r N I p c h;unfold dV at N;refine yM func211 λB=>yD<|xY [vT ([]),z0] ?_;intro b hb;refine zY rfl<|yY<|yG 1 [] [7] rfl<|xY [vT ([]),z0] ?_;intro b1 hb1;refine xC 0 [vT ([]),z0] rfl<|zY rfl<|yA<|yK [4] rfl<|wN<|qX [(0,vS p w0 c),(2,vP b 0),(3,vP b1 0),(4,vI 1)]<|zA6 Int λh1=>?_;obtain⟨aU,aB,aE⟩:=zB N;refine zFT w0 1 (⟨[]⟩:Str) ([]:List Int) aU aB iR h h1 nG nO ?_;intro aW Name1 Dims1 p2 c2 au heq1 aC h3;subst aU;refine zS<|yY<|uW 1 [1] [(38,vA [vT Name1.l,vS p2 Dims1 c2])]<|xC 2 [vT Name1.l,vS p2 Dims1 c2] rfl<|zY rfl<|xH<|xB 0 rfl ?_;intro bx aI hl0;have h8:=SL.of_frozen hl0 aI h3;exact xX aE (resC 1 rfl rfl) zO ⟨_,rfl,rfl,⟨_,rfl,(uP ⟨_,rfl,h8⟩)⟩⟩
def oD(s:Str)(at0:Int)(end0:Int):Option (Int):=do
 let t31<-(do
  if(decide (end0<(s.l.length:Int))) then
   if(decide (end0<(W (at0+2)))) then
    let b<-sidx s end0;if(decide ((b.toNat:Int)>=48)) then
     let b1<-sidx s end0;pure (decide ((b1.toNat:Int)<=57))
    else pure false
   else pure false
  else
   pure false
    : Option Bool)
 if t31 then oD s at0 (W (end0+1))
 else pure (id end0)
 partial_fixpoint
theorem zEb(s:Str)(at0:Int):∀(end0:Int) (o:Int),oD s at0 end0=some o->∀{B}{I0 I:Imm}{Q}  ,I0.le I->NG Q->NO Q->(∀I' end01,o=end01->I0.le I'->T 47 B Q (.exit 0) I' [] [(0,vT s.l),(1,vI at0),(6,vI end01)])->J Tryz.prog 47 B (nav (bodyOf f262) [1,1,0,0]) Q I [] [(0,vT s.l),(1,vI at0),(6,vI end0)]:=by
 refine oD.partial_correctness s at0 _ λaJ ih end0 o N B I0 I Q H hg ho hx=>yX hg ho<|yC<|yC ?_;refine vQ N [] (λt31=>[(0,vT s.l),(1,vI at0),(6,vI end0),(31,.bool t31)]) (λo0 aA=>?_) ?_
 ·have H:=iS I;refine zL<|yG 5 [] [14] rfl<|wR [14] aA ?_ ?_
  ·intro hc N;refine yG 11 [] [20] rfl<|wR [20] N ?_ ?_
   ·intro aH N;refine yG 13 [] [21,22] rfl<|bE N λb hy N=>zBq rfl rfl hy<|yG 17 [] [26] rfl<|wR [26] N ?_ ?_
    ·intro ba N;exact yG 19 [] [27,28] rfl<|bE N λb1 az N=>zBq rfl rfl az<|yQ [] [31] rfl<|yZ<|zU (ct N H)
    intro ba N;exact wM [] [(31,vF)]<|yZ<|zU (ct N H)
   intro aH N;exact wM [] [(31,vF)]<|yZ<|zU (ct N H)
  intro hc N;exact wM [] [(31,vF)]<|yZ<|zU (ct N H)
 intro t31 I0 le aX;have H:=H.trans le;refine zK<|yH aX ?_ ?_
 ·intro bD N;exact zT<|wN<|zL<|yQ [] [6] rfl<|zN<|yV<|nX<|ih (W (end0+1)) _ N H  hg ho hx
 intro bD N;exact wW<|yZ<|hx _ _ (zE N).symm H
def gG(s:Str)(at0:Int):Option (Int×Int):=do
 let end01<-oD s at0 at0;let s1<-sslc s at0 end01;let (y1,y2)<-eX s1;if(!y2) then pure (1,at0)
 else pure (y1,end01)
theorem zCp:∀s at0 r,gG s at0=some r->∀{I:Imm} ,RT 262 [vT s.l,vI at0] I [] (zAO  r):=by
 intro s at0 r N I;unfold gG at N;refine yM func262 λB=>wZ []<|vM [6] rfl<|yA<|yL<|qX [(0,vT s.l),(1,vI at0),(6,vI at0)] ?_;obtain⟨aU,aB,aE⟩:=zB N;refine zEb s at0 at0 aU aB iR  nG nO ?_;intro aP end01 heq1 aa;subst aU;refine zS<|yY<|yG 3 [] [35,36,37] rfl ?_;obtain⟨s1,aG,N⟩:=zB aE;refine zJF rfl aG ?_;obtain⟨⟨y1,y2⟩,bh,N⟩:=zB N;refine xK (zDz s1 _ bh ) ?_;rintro aW ax v2 k2 aC - ⟨v0,v01,rfl,rfl,rfl,rfl⟩ -;refine yQ [] [7,8] rfl<|yA<|yK [43] rfl<|zK<|yH N ?_ ?_
 ·intro bJ N;refine yK [4,5] rfl<|xH<|zJ ?_;exact xX N (resU rfl rfl) zO ⟨_,_,rfl,rfl,rfl,rfl⟩
 intro bJ N;refine zT<|vM [4,5] rfl<|zK<|xD ?_;exact xX N (resU rfl rfl) zO ⟨_,_,rfl,rfl,rfl,rfl⟩
def zAS(s:Str)(at0:Int):Option (Int):=do
 let t20<-(do
  if(decide (at0>=(s.l.length:Int))) then pure true
  else
   let b<-sidx s at0;if(decide ((b.toNat:Int)<105)) then pure true
   else
    let b1<-sidx s at0;pure (decide ((b1.toNat:Int)>108))
    : Option Bool)
 if t20 then pure (-1)
 else
  let b2<-sidx s at0;pure (W ((W (b2.toNat:Int)) - 105))
theorem zI3:∀s at0 r,zAS s at0=some r->∀{I:Imm} ,RT 272 [vT s.l,vI at0] I [] (yP  r):=by
 intro s at0 r N I;unfold zAS at N;refine yM func272 λB=>?_;have H:=iS I;refine wZ []<|yA<|yC ?_;refine vQ N [] (λt20=>[(0,vT s.l),(1,vI at0),(20,.bool t20)]) (λo0 aA=>?_) ?_
 ·have H:=iS I;refine zL<|yG 5 [] [9] rfl<|wR [9] aA ?_ ?_
  ·intro hc N;exact wM [] [(20,vY)]<|yZ<|zU (ct N H)
  intro hc N;refine yG 7 [] [10,11] rfl<|bE N λb hy N=>zBq rfl rfl hy<|yG 11 [] [15] rfl<|wR [15] N ?_ ?_
  ·intro aH N;exact wM [] [(20,vY)]<|yZ<|zU (ct N H)
  intro aH N;exact yG 13 [] [16,17] rfl<|bE N λb1 az N=>zBq rfl rfl az<|yQ [] [20] rfl<|yZ<|zU (ct N H)
 intro t20 I0 le aX;refine zK<|yH aX ?_ ?_
 ·intro ba N;refine yK [4] rfl<|xH<|zJ ?_;obtain rfl:=zE N;exact vH
 intro ba N;refine zT<|yY<|yG 2 [] [21,22] rfl<|bE N λb2 aG N=>zBq rfl rfl aG<|yQ [] [4] rfl<|zK<|xD ?_;obtain rfl:=zE N;exact vH
def zGD(r:zA×Int):KT:=λkk I' ag v=>
 ∃v0 v1,ag=[]/\v=tupV [v0,v1]/\(∃cs,v0=.agg ⟨cs⟩/\Rp.rep I' cs r.1)/\v1=.int .i64 r.2
def dW(a0:zA)(s:Str)(at0:Int):Option (zA×Int):=do
 let b2<-sidx s at0;let sign<-(do
  if((b2.toNat:Int)==45) then pure (-1)
  else
   pure (id 1)
    : Option Int)
 let t27<-(do
  let b3<-sidx s at0;if((b3.toNat:Int)==45) then pure true
  else
   let b4<-sidx s at0;pure ((b4.toNat:Int)==43)
    : Option Bool)
 let at01<-(do
  if t27 then pure (W (at0+1))
  else
   pure (id at0)
    : Option Int)
 let (y1,y2)<-gG s at01;let t51<-(do
  if(decide (y2>at01)) then
   if(decide (y2<(s.l.length:Int))) then
    let b5<-sidx s y2;pure ((b5.toNat:Int)==42)
   else pure false
  else
   pure false
    : Option Bool)
 let star<-(do
  if t51 then pure (W (y2+1))
  else
   pure (id y2)
    : Option Int)
 let y3<-zAS s star;let l<-app 8 ([]:List Int) a0.Coefs;let t75<-(do
  if(decide (y3>=0)) then
   if(decide (star>y2)) then pure true
   else pure (y2==at01)
  else
   pure false
    : Option Bool)
 if t75 then
  let x<-idx l y3;let x1<-idx l y3;let l1<-pure (l.set y3.toNat (W (x+(W (sign*y1)))));pure ((zA.mk l1 a0.Const),(W (star+1)))
 else
  if(y2==at01) then pure (a0,(-1))
  else pure ((zA.mk l (W (a0.Const+(W (sign*y1))))),y2)
theorem zHe:∀a0 s at0 r,dW a0 s at0=some r->∀{I:Imm}{p c},(S4 I p a0.Coefs c)->RT 270 [vA (cAff a0 p c),vT s.l,vI at0] I [] (zGD  r):=by
 intro a0 s at0 r N I p c h;unfold dW at N;refine yM func270 λB=>?_;have H:=iS I;refine yD<|vC (cAff a0 p c) ?_;intro b hb;refine xY [z0,vI 0] ?_;intro b1 hb1;refine wM [] []<|vM [8] rfl<|yA<|yD<|yG 2 [] [14,15] rfl<|bE N λb2 hy N=>zBq rfl rfl hy<|yQ [] [17] rfl<|zK ?_;refine vQ N [hB b1 [z0,vI 0],hB b (cAff a0 p c)] (λsign=>[(1,vT s.l),(2,vI at0),(3,vP b 0),(6,vP b1 0),(8,vI sign)]) (λo0 aA=>?_) ?_
 ·have H:=iS I;refine yH aA ?_ ?_
  ·intro hc N;exact zL<|yQ [] [8] rfl<|yZ<|zU (ct N H)
  intro hc N;exact zT<|yZ<|zU (ct N H)
 intro sign I0 le aX;have ⟨h,H⟩:=m2 le h H;refine yA<|yC ?_;refine vQ aX [hB b1 [z0,vI 0],hB b (cAff a0 p c)] (λt27=>[(1,vT s.l),(2,vI at0),(3,vP b 0),(6,vP b1 0),(8,vI sign),(27,.bool t27)]) (λaU aB=>?_) ?_
 ·have H:=iS I0;refine zL<|yG 2 [] [18,19] rfl ?_;obtain⟨b3,az,N⟩:=zB aB;refine zBq rfl rfl az<|yG 5 [] [22] rfl<|wR [22] N ?_ ?_
  ·intro aH N;exact wM [] [(27,vY)]<|yZ<|zU (ct N H)
  intro aH N;exact yG 7 [] [23,24] rfl<|bE N λb4 aG N=>zBq rfl rfl aG<|yQ [] [27] rfl<|yZ<|zU (ct N H)
 intro t27 aP aa hMc1;have ⟨h,H⟩:=m2 aa h H;refine zK ?_;refine vQ hMc1 [hB b1 [z0,vI 0],hB b (cAff a0 p c)] (λat01=>[(1,vT s.l),(2,vI at01),(3,vP b 0),(6,vP b1 0),(8,vI sign)]) (λo02 ho02=>?_) ?_
 ·have H:=iS aP;refine yH ho02 ?_ ?_
  ·intro ba N;exact zL<|yQ [] [2] rfl<|yZ<|zU (ct N H)
  intro ba N;exact zT<|yZ<|zU (ct N H)
 intro at01 aW aC hMc2;have ⟨h,H⟩:=m2 aC h H;refine yY<|yG 2 [] [31,32] rfl ?_;obtain⟨⟨y1,y2⟩,bh,N⟩:=zB hMc2;refine xK (zCp s at01 _ bh ) ?_;rintro bx ax v2 k2 aI - ⟨v0,v01,rfl,rfl,rfl,rfl⟩ -;have ⟨h,H⟩:=m2 aI h H;refine yQ [] [9,10] rfl<|vM [11] rfl<|yA<|yC ?_;refine vQ N [hB b1 [z0,vI 0],hB b (cAff a0 p c)] (λt51=>[(1,vT s.l),(2,vI at01),(3,vP b 0),(6,vP b1 0),(8,vI sign),(9,vI y1),(10,vI y2),(11,vI y2),(51,.bool t51)]) (λo03 ho03=>?_) ?_
 ·have H:=iS bx;refine zL<|yG 4 [] [40] rfl<|wR [40] ho03 ?_ ?_
  ·intro bD N;refine yG 10 [] [46] rfl<|wR [46] N ?_ ?_
   ·intro bJ N;exact yG 12 [] [47,48] rfl<|bE N λb5 bu N=>zBq rfl rfl bu<|yQ [] [51] rfl<|yZ<|zU (ct N H)
   intro bJ N;exact wM [] [(51,vF)]<|yZ<|zU (ct N H)
  intro bD N;exact wM [] [(51,vF)]<|yZ<|zU (ct N H)
 intro t51 bG aY hMc3;have ⟨h,H⟩:=m2 aY h H;refine zK ?_;refine vQ hMc3 [hB b1 [z0,vI 0],hB b (cAff a0 p c)] (λstar=>[(1,vT s.l),(2,vI at01),(3,vP b 0),(6,vP b1 0),(8,vI sign),(9,vI y1),(10,vI y2),(11,vI star)]) (λo04 ho04=>?_) ?_
 ·have H:=iS bG;refine yH ho04 ?_ ?_
  ·intro hc5 N;exact zL<|yQ [] [11] rfl<|yZ<|zU (ct N H)
  intro hc5 N;exact zT<|yZ<|zU (ct N H)
 intro star bK bo hMc4;have ⟨h,H⟩:=m2 bo h H;refine yY<|yG 2 [] [54,55] rfl ?_;obtain⟨y3,bC,N⟩:=zB hMc4;refine dC (zI3 s star _ bC ) ?_;intro I06 bv;have ⟨h,H⟩:=m2 bv h H;refine yQ [] [12] rfl<|yA<|bE N λl hy6 N=>wP [.x (λI' v hx=>∃b6,v=vS (some ⟨b6,0,none⟩) ([]:List Int) 0/\hx=[hO Int (vS (some ⟨b6,0,none⟩) ([]:List Int) 0) []]/\(RL I' [] ([]:List Int))),.p (vP b 0) [],.p (vS p a0.Coefs c) [1],.x (λI' v hx=>∃p1 c1 cs,v=vS p1 l c1/\hx=[hO Int (vS p1 l c1) cs]/\(RL I' cs l)),.p (vP b 1) [],.p (vI a0.Const) [1],.x (λI' v hx=>∃aF aQ au,v=vA [vS aF l aQ,vI a0.Const]/\hx=[hO Int (vS aF l aQ) au]/\(RL I' au l)),.x (λI' v hx=>∃b7,v=vP b7 0/\hx=[hB b7 [z0,vI 0]])] [[],[],[(1,false)],[(0,true),(2,false)],[],[(4,false)],[(3,true),(5,false)],[]] [hB b1 [z0,vI 0],hB b (cAff a0 p c)] [] [(6,true),(7,true)] (zZ [0,1]) ?_ ?_
 ·refine Ox ?_<|O2<|Ox ?_<|O2<|Ox ?_<|Ox ?_<|On
  ·intro I1 hf aa;refine I_h []<|uX [] Int ?_;intro b6 hb2;have h4:RL I1 [] ([]:List Int):=rfl;exact yN [hO Int (vS (some ⟨b6,0,none⟩) ([]:List Int) 0) []] iR ⟨_,rfl,rfl,h4⟩
  ·rintro I1 hf aa _ _ ⟨b6,rfl,rfl,h4⟩;refine yW [57,59] rfl ?_;have h:=h.mono aa;obtain⟨aN,k0,k01⟩:=h;have h:SL I1 (vS p a0.Coefs c) a0.Coefs:=⟨_,k0,k01⟩;exact sW 3 1 0 rfl rfl rfl h4 (.inl k0) k01 hy6 λp1 c1 cs h5=>wY (ag:=(hO Int (vS p1 l c1) cs::hB b1 [z0,vI 0]::hB b (cAff a0 p c)::hf)) rfl<|yN [hO Int (vS p1 l c1) cs] iR ⟨_,_,_,rfl,rfl,h5⟩
  ·rintro I1 hf aa _ _ ⟨p1,c1,cs,rfl,rfl,h5⟩;exact yW [60,62] rfl<|oN 7 [(63,vA [vS p1 l c1,vI a0.Const])]<|yN [hO Int (vS p1 l c1) cs] iR ⟨_,_,_,rfl,rfl,h5⟩
  intro I1 hf aa;refine I_h []<|xY [z0,vI 0] ?_;intro b7 hb3;exact yN [hB b7 [z0,vI 0]] iR ⟨_,rfl,rfl⟩
 rintro I07 le7 _ _ ⟨aF,aQ,au,rfl,rfl,h51⟩ _ _ ⟨b7,rfl,rfl⟩;refine yW [2,3,6,8,9,10,11,12,13,63] rfl ?_;have ⟨h,H⟩:=m2 le7 h H;refine xC 0 [vS aF l aQ,vI a0.Const] rfl<|zY rfl<|yA<|yC ?_;refine vQ N [hB b7 [vS aF l aQ,vI a0.Const],hO Int (vS aF l aQ) au,hB b1 [z0,vI 0],hB b (cAff a0 p c)] (λt75=>[(2,vI at01),(3,vP b 0),(6,vP b1 0),(8,vI sign),(9,vI y1),(10,vI y2),(11,vI star),(12,vI y3),(13,vP b7 0),(75,.bool t75)]) (λo05 ho05=>?_) ?_
 ·have H:=iS I07;refine zL<|yG 3 [] [66] rfl<|wR [66] ho05 ?_ ?_
  ·intro hc6 N;refine yG 7 [] [70] rfl<|wR [70] N ?_ ?_
   ·intro hc7 N;exact wM [] [(75,vY)]<|yZ<|zU (ct N H)
   intro hc7 N;exact yQ [] [75] rfl<|yZ<|zU (ct N H)
  intro hc6 N;exact wM [] [(75,vF)]<|yZ<|zU (ct N H)
 intro t75 I08 le8 hMc5;have ⟨h51,h⟩:=m2 le8 h51 h;refine zK<|yH hMc5 ?_ ?_
 ·intro hc8 N;refine yC<|bE N λx hy7 N=>wP [.p (vP b7 0) [],.p (vS aF l aQ) [0],.p (vI y3) [],.p (vP b7 0) [],.p (vS aF l aQ) [0],.p (vI y3) [],.x (λI' v hx=>∃ad,v=.pointer (some ad)/\hx=[]/\(AtO (vS aF l aQ) (Rp.sz Int) y3.toNat ad)/\((au.drop (y3.toNat*Rp.sz Int)).take (Rp.sz Int)=[vI x])),.q (vI x),.p (vI sign) [],.p (vI y1) [],.p (vI (W (sign*y1))) [],.p (vI (W (x+(W (sign*y1))))) []] [[],[(0,false)],[],[],[(3,false)],[],[(4,false),(5,false)],[(6,false)],[],[],[(8,false),(9,false)],[(7,false),(10,false)]] [hB b7 [vS aF l aQ,vI a0.Const],hO Int (vS aF l aQ) au,hB b1 [z0,vI 0],hB b (cAff a0 p c)] [] [(1,false),(2,false),(11,false)] (zZ [0,1,2,3]) ?_ ?_
  ·refine O4<|O2<|Ox ?_<|Oq ?_<|O4<|On
   ·intro I1 hf aa;refine yW [80,81] rfl ?_;have h51:=iM aa h51;refine gJ 1 rfl rfl rfl h51 hy7 ?_;intro ad bq aq bI am;obtain rfl:=am;exact yN [] iR ⟨_,rfl,rfl,aq,bI⟩
   rintro I1 hf aa _ _ ⟨ad,rfl,rfl,aq,bI⟩;exact yW [82] rfl<|zCU 1 0 aq bI [vI x] (vI x) rfl rfl<|xO iR
  intro I09 le9;refine yW [6,11,13,77,78,87] rfl ?_;have h51:=iM le9 h51;obtain⟨x1,hy8,N⟩:=zB N;refine gJ 1 rfl rfl rfl h51 hy8 ?_;intro ad1 bL aw hcc1 ay;obtain rfl:=ay;obtain⟨l1,hy9,N⟩:=zB N;refine gX (c:=[vI (W (x+(W (sign*y1))))]) (x':=(W (x+(W (sign*y1))))) 1 0 rfl rfl rfl aw rfl rfl hcc1 (by kernel_rfl) (by kernel_rfl) (by kernel_rfl) h51 hy8 (by kernel_rfl) rfl ?_;rw[show l.set y3.toNat (W (x+(W (sign*y1))))=l1 from zE hy9];intro aR h6 hl0;rw[vE hl0];refine zY rfl<|yY<|uW 3 [0] [(89,vA [vS aF l1 aQ,vI a0.Const]),(91,vI (W (star+1)))]<|xC 2 [vS aF l1 aQ,vI a0.Const] rfl<|yQ [] [7] rfl<|xH<|zJ<|xB 1 rfl ?_;intro bN le10 hl01;have h7:=SL.of_frozen hl01 le10 h6;exact xX N (resE 1 rfl rfl rfl) zO ⟨_,_,rfl,rfl,⟨_,rfl,(yO ⟨_,rfl,h7⟩)⟩,rfl⟩
 intro hc8 N;refine zT<|yA<|yK [94] rfl<|zK<|yH N ?_ ?_
 ·intro hc9 N;refine yD<|uW 1 [3] [(95,vA (cAff a0 p c))]<|xC 2 (cAff a0 p c) rfl<|yQ [] [7] rfl<|xH<|zJ ?_;exact xX N (resE 2 rfl rfl rfl) zO ⟨_,_,rfl,rfl,⟨_,rfl,(yO ⟨_,rfl,h⟩)⟩,rfl⟩
 intro hc9 N;refine zT<|yY<|yG 7 [0] [101,102] rfl<|xC 0 [vS aF l aQ,vI (W (a0.Const+(W (sign*y1))))] rfl<|zY rfl<|yY<|uW 2 [0] [(103,vA [vS aF l aQ,vI (W (a0.Const+(W (sign*y1))))]),(104,vI y2)]<|xC 2 [vS aF l aQ,vI (W (a0.Const+(W (sign*y1))))] rfl<|yQ [] [7] rfl<|xH<|xB 1 rfl ?_;intro bS le11 hl02;have h8:=SL.of_frozen hl02 le11 h51;exact xX N (resE 1 rfl rfl rfl) zO ⟨_,_,rfl,rfl,⟨_,rfl,(yO ⟨_,rfl,h8⟩)⟩,rfl⟩
def tF(n0:Int)(most:Int):Option (Bool):=do
 let t4<-(do
  if(decide (n0>=(W (0 - most)))) then pure (decide (n0<=most))
  else
   pure false
    : Option Bool)
 pure (id t4)
theorem zAy:∀n0 most r,tF n0 most=some r->∀{I:Imm} ,RT 191 [vI n0,vI most] I [] (zW  r):=by
 intro n0 most r N I;unfold tF at N;refine yM func191 λB=>?_;have H:=iS I;refine wZ []<|zK<|yC ?_;refine vQ N [] (λt4=>[(4,.bool t4)]) (λo0 aA=>?_) ?_
 ·have H:=iS I;refine zL<|yG 5 [] [9] rfl<|wR [9] aA ?_ ?_
  ·intro hc N;exact yQ [] [4] rfl<|yZ<|zU (ct N H)
  intro hc N;exact wM [] [(4,vF)]<|yZ<|zU (ct N H)
 intro t4 I0 le aX;refine zK<|xD ?_;obtain rfl:=zE aX;exact vH
def vW(a0:zA)(i:Int):Option (Out Unit (Bool)):=do
 if(decide (i<(a0.Coefs.length:Int))) then
  let x<-idx a0.Coefs i;let y<-tF x 9;if(!y) then pure (.ret false)
  else vW a0 (W (i+1))
 else pure (.done ())
 partial_fixpoint
theorem zDL(a0:zA):∀(i:Int) (o:Out Unit (Bool)),vW a0 i=some o->∀{B}{I0 I:Imm}{Q p c}{b},I0.le I->(S4 I p a0.Coefs c)->NG Q->NO Q->(∀I',o=(.done ())->I0.le I'->T 27 B Q (.exit 0) I' [hB b (cAff a0 p c)] [(1,vP b 0)])->(∀r I' ag m',o=(.ret r)->I0.le I'->RS Tryz.prog f225 B (zW  r) I' ag m'->T 27 B Q .ret I' ag m')->J Tryz.prog 27 B (nav (bodyOf f225) [1,0,1,0]) Q I [hB b (cAff a0 p c)] [(1,vP b 0),(3,vI i)]:=by
 refine vW.partial_correctness a0 _ λaJ ih i o N B I0 I Q p c b H h hg ho hx hr=>yX hg ho<|yC<|yD<|yQ [0] [8] rfl<|zK<|yH N ?_ ?_
 ·intro hc N;refine zT<|yA<|yL<|yD<|yG 3 [0] [12,13] rfl<|bE N λx hy N=>xW rfl rfl h hy ?_;intro ad aN aq am;obtain rfl:=am;refine xM 0 aq [vI x] (vI x) rfl<|bE N λy az N=>tA (zAy x 9 _ az ) ?_;intro I0 le;have ⟨h,H⟩:=m2 le h H;refine yQ [] [17] rfl<|zK<|yH N ?_ ?_
  ·intro aH N;exact wZ [(2,vF)]<|xH<|zV<|zJ<|zJ<|hr _ _ _ _ (zE N).symm H ⟨_,_,(resT rfl),zO,⟨_,rfl,rfl,rfl⟩⟩
  intro aH N;exact zT<|zN<|zK<|zL<|yQ [] [3] rfl<|yV<|nX<|ih (W (i+1)) _ N H h hg ho hx hr
 intro hc N;exact wW<|yZ<|hx _  (zE N).symm H
def tR(a0:zA):Option (Bool):=do
 match<-vW a0 0 with
 | .ret r0=>pure r0
 | .done _=>
  let t2<-(do
   if((a0.Coefs.length:Int)==4) then
    let y1<-tF a0.Const 99;pure (id y1)
   else
    pure false
     : Option Bool)
  pure (id t2)
theorem fK:∀a0 r,tR a0=some r->∀{I:Imm}{p c},(S4 I p a0.Coefs c)->RT 225 [vA (cAff a0 p c)] I [] (zW  r):=by
 intro a0 r N I p c h;unfold tR at N;refine yM func225 λB=>?_;have H:=iS I;refine yD<|vC (cAff a0 p c) ?_;intro b hb;refine wM [] []<|yA<|yK [3] rfl<|wN<|qX [(1,vP b 0),(3,vI 0)] ?_;obtain⟨o0,aA,aE⟩:=zB N;refine zDL a0 0 o0 aA iR h nG nO ?_ ?_
 ·intro aP  heq aa;subst o0;have H:=H.trans aa;refine zS<|zK<|yC ?_;refine vQ aE [] (λt2=>[(2,.bool t2)]) (λaU aB=>?_) ?_
  ·have H:=iS aP;refine zL<|yG 5 [0] [22] rfl<|wR [22] aB ?_ ?_
   ·intro ba N;refine yG 7 [0] [24] rfl<|bE N λy1 aG N=>tA (zAy a0.Const 99 _ aG ) ?_;intro bx aC;have H:=H.trans aC;exact yQ [] [2] rfl<|wK zO<|yZ<|zU (ct N H)
   intro ba N;exact wM [] [(2,vF)]<|wK zO<|yZ<|zU (ct N H)
  intro t2 aW aI aX;refine zK<|xD ?_;obtain rfl:=zE aX;exact vH
 intro r0 I9 hs9 m9 aT le9 aV;subst aT;refine zV<|zJ ?_;obtain rfl:=zE aE;exact jW aV
def rJ(r:Str):KT:=λkk I' ag v=>
 ∃v0,ag=[]/\v=tupV [v0]/\v0=.string ⟨⟨r.l⟩⟩
def mN(n01:Int)(out:Str):Option ((Int×Str)):=do
 if(decide (n01>9)) then
  let s1<-cat (⟨([(u8 (W (48+(n01.tmod 10))))]:List UInt8)⟩:Str) out;mN (W (n01.tdiv 10)) s1
 else pure (n01,out)
 partial_fixpoint
theorem zGE :∀(n01:Int) (out:Str) (o:(Int×Str)),mN n01 out=some o->∀{B}{I0 I:Imm}{Q}  ,I0.le I->NG Q->NO Q->(∀I' n02 aj,o=(n02,aj)->I0.le I'->T 31 B Q (.exit 0) I' [] [(0,vI n02),(3,vT aj.l)])->J Tryz.prog 31 B (nav (bodyOf f214) [1,1,1,1,0,0]) Q I [] [(0,vI n01),(3,vT out.l)]:=by
 refine mN.partial_correctness  _ λaJ ih n01 out o N B I0 I Q H hg ho hx=>yX hg ho<|yC<|yK [13] rfl<|zK<|yH N ?_ ?_
 ·intro ba N;refine zT<|wN<|yD<|yG 3 [] [16] rfl<|zPe (d:=17) (i:=(W (48+(n01.tmod 10)))) rfl (by kernel_rfl)<|uX [.int .u8 ((u8 (W (48+(n01.tmod 10)))).toNat:Int)] UInt8 ?_;intro b hb;have h1:RL I [.int .u8 ((u8 (W (48+(n01.tmod 10)))).toNat:Int)] ([(u8 (W (48+(n01.tmod 10))))]:List UInt8):=⟨[.int .u8 ((u8 (W (48+(n01.tmod 10)))).toNat:Int)],_,rfl,rfl,rfl,rfl⟩;exact zLn (l:=([(u8 (W (48+(n01.tmod 10))))]:List UInt8)) rfl rfl rfl rfl (by kernel_rfl) (by kernel_rfl) (.inr ⟨0,rfl⟩) h1<|yG 7 [] [20] rfl<|bE N λs1 aG N=>fY rfl aG<|yQ [] [3] rfl<|zK<|zL<|yQ [] [0] rfl<|zN<|yV<|qZ zO<|nX<|ih (W (n01.tdiv 10)) s1 _ N H  hg ho hx
 intro ba N;exact wW<|yZ<|hx _ _ _ (zE N).symm H
def pR(n0:Int):Option (Str):=do
 if(decide (n0<(-9223372036854775807))) then pure (⟨[45,57,50,50,51,51,55,50,48,51,54,56,53,52,55,55,53,56,48,56]⟩:Str)
 else
  if(decide (n0<0)) then
   let y<-pR (W (0 - n0));let s<-cat (⟨[45]⟩:Str) y;pure (id s)
  else
   let (n02,aj)<-mN n0 (⟨[]⟩:Str);let s2<-cat (⟨([(u8 (W (48+n02)))]:List UInt8)⟩:Str) aj;pure (id s2)
 partial_fixpoint
theorem zAl:∀n0 r,pR n0=some r->∀{I:Imm} ,RT 214 [vI n0] I [] (rJ  r):=by
 refine pR.partial_correctness _ λF_spec_l16Dec ih_spec_l16Dec n0 r N I=>yM func214 λB=>wZ []<|yA<|yK [5] rfl<|zK<|yH N ?_ ?_
 ·intro hc N;refine yK [2] rfl<|xH<|zJ ?_;obtain rfl:=zE N;exact vH
 intro hc N;refine zT<|yA<|yK [7] rfl<|zK<|yH N ?_ ?_
 ·intro aH N;refine yD<|yG 2 [] [9] rfl<|bE N λy hy N=>xK (ih_spec_l16Dec (W (0 - n0)) _ hy ) ?_;rintro I0 ax v2 k2 le - ⟨v0,rfl,rfl,rfl⟩ -;obtain⟨s,az,N⟩:=zB N;refine fY rfl az<|yQ [] [2] rfl<|xH<|zJ ?_;obtain rfl:=zE N;exact vH
 intro aH N;refine zT<|vM [3] rfl<|yA<|yL<|qX [(0,vI n0),(3,vT ([]))] ?_;obtain⟨o0,aA,aE⟩:=zB N;refine zGE n0 (⟨[]⟩:Str) o0 aA iR  nG nO ?_;intro aP n02 aj heq aa;subst o0;refine zS<|yY<|yG 2 [] [25] rfl<|zPe (d:=26) (i:=(W (48+n02))) rfl (by kernel_rfl)<|uX [.int .u8 ((u8 (W (48+n02))).toNat:Int)] UInt8 ?_;intro b1 hb1;have h2:RL aP [.int .u8 ((u8 (W (48+n02))).toNat:Int)] ([(u8 (W (48+n02)))]:List UInt8):=⟨[.int .u8 ((u8 (W (48+n02))).toNat:Int)],_,rfl,rfl,rfl,rfl⟩;refine zLn (l:=([(u8 (W (48+n02)))]:List UInt8)) rfl rfl rfl rfl (by kernel_rfl) (by kernel_rfl) (.inr ⟨0,rfl⟩) h2<|yG 6 [] [29] rfl ?_;obtain⟨s2,bh,N⟩:=zB aE;refine fY rfl bh<|yQ [] [2] rfl<|zK<|xD ?_;obtain rfl:=zE N;exact vH
def eY(n0:Int)(name:Str):Option (Str):=do
 let (n01,sign)<-(do
  if(decide (n0<0)) then pure ((W (0 - n0)),(⟨[45]⟩:Str))
  else
   pure (n0,(⟨[43]⟩:Str))
    : Option (Int×Str))
 if(name.l==([]:List UInt8)) then
  let y<-pR n01;let s<-cat sign y;pure (id s)
 else
  if(n01==1) then
   let s1<-cat sign name;pure (id s1)
  else
   let y1<-pR n01;let s2<-cat sign y1;let s3<-cat s2 (⟨[42]⟩:Str);let s4<-cat s3 name;pure (id s4)
theorem zEA:∀n0 name r,eY n0 name=some r->∀{I:Imm} ,RT 263 [vI n0,vT name.l] I [] (rJ  r):=by
 intro n0 name r N I;unfold eY at N;refine yM func263 λB=>?_;have H:=iS I;refine wZ []<|vM [5] rfl<|yA<|yK [7] rfl<|zK ?_;obtain⟨o0,aA,aX⟩:=zB N;refine nP (λI' ag m'=>∃(n01:Int) (sign:Str),o0=(n01,sign)/\I.le I'/\ag=[]/\m'=[(0,vI n01),(1,vT name.l),(5,vT sign.l)]) ?_ ?_
 ·have H:=iS I;refine yH aA ?_ ?_
  ·intro hc N;exact yK [5] rfl<|zK<|zL<|yQ [] [0] rfl<|yZ<|zU ⟨_,_,(zE N).symm,H,rfl,rfl⟩
  intro hc N;exact zT<|yZ<|zU ⟨_,_,(zE N).symm,H,rfl,rfl⟩
 rintro I0 ax m2 ⟨n01,sign,heq,le,rfl,rfl⟩;subst o0;refine yA<|yK [11] rfl<|zK<|yH aX ?_ ?_
 ·intro aH N;refine yD<|yG 2 [] [12,13] rfl<|bE N λy hy N=>xK (zAl n01 _ hy ) ?_;rintro aP ax v2 k2 aa - ⟨v0,rfl,rfl,rfl⟩ -;obtain⟨s,az,N⟩:=zB N;refine fY rfl az<|yQ [] [4] rfl<|xH<|zJ ?_;obtain rfl:=zE N;exact vH
 intro aH N;refine zT<|yA<|yK [17] rfl<|zK<|yH N ?_ ?_
 ·intro ba N;refine yD<|yG 2 [] [18,19] rfl<|bE N λs1 aG N=>fY rfl aG<|yQ [] [4] rfl<|xH<|zJ ?_;obtain rfl:=zE N;exact vH
 intro ba N;refine zT<|yY<|yG 2 [] [21,22] rfl<|bE N λy1 bh N=>xK (zAl n01 _ bh ) ?_;rintro aW ax v2 k2 aC - ⟨v01,rfl,rfl,rfl⟩ -;obtain⟨s2,bu,N⟩:=zB N;refine fY rfl bu<|bE N λs3 bC N=>fY rfl bC<|yG 6 [] [26] rfl<|bE N λs4 hy6 N=>fY rfl hy6<|yQ [] [4] rfl<|zK<|xD ?_;obtain rfl:=zE N;exact vH
def mO(a0:zA)(out:Str)(i:Int):Option (Str):=do
 if(decide (i<(a0.Coefs.length:Int))) then
  let x<-idx a0.Coefs i;let ar<-(do
   if(x != 0) then
    let x1<-idx a0.Coefs i;let s<-sslc (⟨[105,106,107,108]⟩:Str) i (W (i+1));let y<-eY x1 s;let s1<-cat out y;pure (id s1)
   else
    pure (id out)
     : Option Str)
  mO a0 ar (W (i+1))
 else pure (id out)
 partial_fixpoint
theorem zGF(a0:zA):∀(out:Str) (i:Int) (o:Str),mO a0 out i=some o->∀{B}{I0 I:Imm}{Q p c}{b},I0.le I->(S4 I p a0.Coefs c)->NG Q->NO Q->(∀I' aj,o=aj->I0.le I'->T 46 B Q (.exit 0) I' [hB b (cAff a0 p c)] [(1,vP b 0),(3,vT aj.l)])->J Tryz.prog 46 B (nav (bodyOf f243) [1,1,0,1,0]) Q I [hB b (cAff a0 p c)] [(1,vP b 0),(3,vT out.l),(4,vI i)]:=by
 refine mO.partial_correctness a0 _ λaJ ih out i o N B I0 I Q p c b H h hg ho hx=>yX hg ho<|yC<|yD<|yQ [0] [9] rfl<|zK<|yH N ?_ ?_
 ·intro hc N;refine zT<|yA<|yL<|yD<|yG 3 [0] [13,14] rfl<|bE N λx hy N=>xW rfl rfl h hy ?_;intro ad aN aq am;obtain rfl:=am;refine xM 0 aq [vI x] (vI x) rfl<|yQ [] [17] rfl<|zK ?_;refine vQ N [hB b (cAff a0 p c)] (λar=>[(1,vP b 0),(3,vT ar.l),(4,vI i)]) (λo0 aA=>?_) ?_
  ·have H:=iS I;refine yH aA ?_ ?_
   ·intro aH N;obtain⟨x1,az,N⟩:=zB N;obtain⟨s,aG,N⟩:=zB N;obtain⟨y,bh,N⟩:=zB N;obtain⟨s1,bu,N⟩:=zB N;refine wP [.p (vT out.l) [],.p (vP b 0) [],.p (vS p a0.Coefs c) [0],.p (vI i) [],.x (λI' v hx=>∃ad1,v=.pointer (some ad1)/\hx=[]/\(At I' ad1 [vI x1])),.q (vI x1),.p (vI i) [],.p (vI i) [],.p (vI (W (i+1))) [],.q (vT s.l),.q (vT y.l),.q (vT s1.l)] [[],[],[(1,false)],[],[(2,false),(3,false)],[(4,false)],[],[],[(7,false)],[(6,false),(8,false)],[(5,false),(9,false)],[(0,false),(10,false)]] [hB b (cAff a0 p c)] [] [(11,false)] (zZ [0]) ?_ ?_
    ·refine O4<|Ox ?_<|Oq ?_<|O3<|Oq ?_<|Oq ?_<|Oq ?_<|On
     ·intro I1 hf aa;refine yW [20,21] rfl ?_;have h:=h.mono aa;refine xW rfl rfl h az ?_;intro ad1 bq aw ay;obtain rfl:=ay;exact yN [] iR ⟨_,rfl,rfl,aw⟩
     ·rintro I1 hf aa _ _ ⟨ad1,rfl,rfl,aw⟩;exact yW [22] rfl<|xM 0 aw [vI x1] (vI x1) rfl<|xO iR
     ·intro I1 hf aa;exact yW [24,26] rfl<|zJF rfl aG<|xO iR
     ·intro I1 hf aa;refine yW [23,27] rfl ?_;have H:=iS I1;refine xK (zEA x1 s _ bh ) ?_;rintro aP ax v2 k2 le - ⟨v0,rfl,rfl,rfl⟩ -;have H:=H.trans le;exact xO H
     intro I1 hf aa;exact yW [18,28] rfl<|fY rfl bu<|xO iR
    intro aW aa;refine yW [1,4,29] rfl ?_;have H:=H.trans aa;exact yQ [] [3] rfl<|yZ<|zU (ct N H)
   intro aH N;exact zT<|yZ<|zU (ct N H)
  intro ar I0 aC aX;have ⟨h,H⟩:=m2 aC h H;exact zN<|zK<|zL<|yQ [] [4] rfl<|yV<|nX<|ih ar (W (i+1)) _ aX H h hg ho hx
 intro hc N;exact wW<|yZ<|hx _ _ (zE N).symm H
def fC(a0:zA):Option (Str):=do
 let aj<-mO a0 (⟨[]⟩:Str) 0;let bi<-(do
  if(a0.Const != 0) then
   let y1<-eY a0.Const (⟨[]⟩:Str);let s2<-cat aj y1;pure (id s2)
  else
   pure (id aj)
    : Option Str)
 if(bi.l==([]:List UInt8)) then pure (⟨[48]⟩:Str)
 else
  let s3<-sslc bi 0 1;if(s3.l==([43]:List UInt8)) then
   let s4<-sslc bi 1 (bi.l.length:Int);pure (id s4)
  else pure (id bi)
theorem zBk:∀a0 r,fC a0=some r->∀{I:Imm}{p c},(S4 I p a0.Coefs c)->RT 243 [vA (cAff a0 p c)] I [] (rJ  r):=by
 intro a0 r N I p c h;unfold fC at N;refine yM func243 λB=>?_;have H:=iS I;refine yD<|vC (cAff a0 p c) ?_;intro b hb;refine wM [] []<|vM [3] rfl<|yA<|yK [4] rfl<|wN<|qX [(1,vP b 0),(3,vT ([])),(4,vI 0)] ?_;obtain⟨aU,aB,aE⟩:=zB N;refine zGF a0 (⟨[]⟩:Str) 0 aU aB iR h nG nO ?_;intro bx aj heq1 aI;subst aU;have H:=H.trans aI;refine zS<|yA<|yD<|yQ [0] [32] rfl<|zK ?_;refine vQ aE [] (λbi=>[(3,vT bi.l)]) (λo02 ho02=>?_) ?_
 ·have H:=iS bx;refine yH ho02 ?_ ?_
  ·intro ba N;refine zL<|yG 3 [0] [33,35] rfl<|bE N λy1 bC N=>xK (zEA a0.Const (⟨[]⟩:Str) _ bC ) ?_;rintro bK ax v2 k2 aY - ⟨v01,rfl,rfl,rfl⟩ -;have H:=H.trans aY;obtain⟨s2,hy6,N⟩:=zB N;exact fY rfl hy6<|yQ [] [3] rfl<|wK zO<|yZ<|zU (ct N H)
  intro ba N;exact zT<|wK zO<|yZ<|zU (ct N H)
 intro bi bG bo hMc1;refine yA<|yK [39] rfl<|zK<|yH hMc1 ?_ ?_
 ·intro bD N;refine yK [2] rfl<|xH<|zJ ?_;obtain rfl:=zE N;exact vH
 intro bD N;refine zT<|yA<|yD<|yG 1 [] [40] rfl<|bE N λs3 hy7 N=>zJF rfl hy7<|yQ [] [42] rfl<|zK<|yH N ?_ ?_
 ·intro bJ N;refine yD<|yG 1 [] [43] rfl<|bE N λs4 hy8 N=>zJF rfl hy8<|yQ [] [2] rfl<|xH<|zJ ?_;obtain rfl:=zE N;exact vH
 intro bJ N;refine zT<|vM [2] rfl<|zK<|xD ?_;obtain rfl:=zE N;exact vH
def jD(a0:zA):Option (Str):=do
 let y<-tR a0;if(!y) then pure (⟨[]⟩:Str)
 else
  let y1<-fC a0;pure (id y1)
theorem zEB:∀a0 r,jD a0=some r->∀{I:Imm}{p c},(S4 I p a0.Coefs c)->RT 271 [vA (cAff a0 p c)] I [] (rJ  r):=by
 intro a0 r N I p c h;unfold jD at N;refine yM func271 λB=>yD<|vC (cAff a0 p c) ?_;intro b hb;refine wM [] []<|yA<|yD<|uW 1 [0] [(3,vA (cAff a0 p c))]<|bE N λy hy N=>tA (fK a0 _ hy h) ?_;intro I0 le;have h:=h.mono le;refine yQ [] [5] rfl<|zK<|yH N ?_ ?_
 ·intro hc N;refine yK [2] rfl<|xH<|zJ ?_;obtain rfl:=zE N;exact vH
 intro hc N;refine zT<|yY<|uW 1 [0] [(6,vA (cAff a0 p c))]<|bE N λy1 az N=>xK (zBk a0 _ az h) ?_;rintro aP ax v2 k2 aa - ⟨v01,rfl,rfl,rfl⟩ -;refine yQ [] [2] rfl<|zK<|xD ?_;obtain rfl:=zE N;exact vH
def zDb(r:zA×Bool):KT:=λkk I' ag v=>
 ∃v0 v1,ag=[]/\v=tupV [v0,v1]/\(∃cs,v0=.agg ⟨cs⟩/\Rp.rep I' cs r.1)/\v1=.bool r.2
def pO(bm:Str)(at0:Int)(x:zA):Option (zA):=do
 let t18<-(do
  if(decide (at0>=0)) then pure (decide (at0<(bm.l.length:Int)))
  else
   pure false
    : Option Bool)
 if t18 then
  let (y2,y3)<-dW x bm at0;pO bm y3 y2
 else pure (id x)
 partial_fixpoint
theorem zDM(bm:Str):∀(at0:Int) (x:zA) (o:zA),pO bm at0 x=some o->∀{B}{I0 I:Imm}{Q}  {b b1}{p1 c1},I0.le I->(S4 I p1 x.Coefs c1)->NG Q->NO Q->(∀I' x1 p2 c2,o=x1->I0.le I'->(S4 I' p2 x1.Coefs c2)->T 32 B Q (.exit 0) I' [hB b1 (cAff x1 p2 c2),hB b [z0,vI 0]] [(0,vT bm.l),(2,vP b 0),(4,vP b1 0)])->J Tryz.prog 32 B (nav (bodyOf f259) [1,1,1,1,0,0]) Q I [hB b1 (cAff x p1 c1),hB b [z0,vI 0]] [(0,vT bm.l),(2,vP b 0),(4,vP b1 0),(5,vI at0)]:=by
 refine pO.partial_correctness bm _ λaJ ih at0 x o N B I0 I Q b b1 p1 c1 H h2 hg ho hx=>yX hg ho<|yC<|yC ?_;refine vQ N [hB b1 (cAff x p1 c1),hB b [z0,vI 0]] (λt18=>[(0,vT bm.l),(2,vP b 0),(4,vP b1 0),(5,vI at0),(18,.bool t18)]) (λo0 aA=>?_) ?_
 ·have H:=iS I;refine zL<|yG 3 [] [13] rfl<|wR [13] aA ?_ ?_
  ·intro aH N;exact yQ [] [18] rfl<|yZ<|zU (ct N H)
  intro aH N;exact wM [] [(18,vF)]<|yZ<|zU (ct N H)
 intro t18 aW aC aX;have ⟨h2,H⟩:=m2 aC h2 H;refine zK<|yH aX ?_ ?_
 ·intro ba N;refine zT<|wN<|zL<|uW 3 [0] [(20,vA (cAff x p1 c1)),(21,vT bm.l),(22,vI at0)] ?_;obtain⟨⟨y2,y3⟩,az,N⟩:=zB N;refine xK (zHe x bm at0 _ az h2) ?_;rintro bx ax v2 k2 aI - ⟨v0,v01,rfl,rfl,⟨au,rfl,h4⟩,rfl⟩ -;have H:=H.trans aI;obtain⟨p3,c3,rfl,h6⟩:=yI h4;exact yG 7 [] [24,25] rfl<|xC 0 (cAff y2 p3 c3) rfl<|yQ [] [5] rfl<|zN<|yV<|nX<|ih y3 y2 _ N H h6 hg ho hx
 intro ba N;exact wW<|yZ<|hx _ _ _ _ (zE N).symm H h2
def mP(bm:Str):Option (zA×Bool):=do
 let y<-kG;if(decide ((bm.l.length:Int)>40)) then pure ((zA.mk ([]:List Int) 0),false)
 else
  let x1<-pO bm 0 (zA.mk y.Coefs y.Const);let y4<-jD x1;if(!(y4.l==bm.l)) then pure ((zA.mk ([]:List Int) 0),false)
  else pure (x1,true)
theorem zB1:∀bm r,mP bm=some r->∀{I:Imm} ,RT 259 [vT bm.l] I [] (zDb  r):=by
 intro bm r N I;unfold mP at N;refine yM func259 λB=>yD<|xY [z0,vI 0] ?_;intro b hb;refine wM [] []<|yY<|bE N λy hy N=>xK (fV  _ hy ) ?_;rintro I0 ax v2 k2 le - ⟨p,c,cs,rfl,rfl,h⟩ -;refine xY [z0,vI 0] ?_;intro b1 hb1;refine xC 0 (cAff y p c) rfl<|zY rfl<|yA<|yK [9] rfl<|zK<|yH N ?_ ?_
 ·intro hc N;refine yD<|yG 1 [] [10] rfl<|xC 2 [z0,vI 0] rfl<|wM [] [(3,vF)]<|xH<|zJ ?_;exact xX N (resE 2 rfl rfl rfl) zO ⟨_,_,rfl,rfl,⟨_,rfl,(yO ⟨_,rfl,(SL.nil _)⟩)⟩,rfl⟩
 intro hc N;refine zT<|vM [5] rfl<|yA<|yL<|oO 1 rfl ?_;intro aP aa hl0;have h1:=SL.of_frozen hl0 aa h;refine qX [(0,vT bm.l),(2,vP b 0),(4,vP b1 0),(5,vI 0)] ?_;obtain⟨aU,aB,aE⟩:=zB N;refine zDM bm 0 (zA.mk y.Coefs y.Const) aU aB iR h1 nG nO ?_;intro bG x1 p2 c2 heq1 aY h3;subst aU;refine zS<|yA<|yD<|uW 1 [0] [(26,vA (cAff x1 p2 c2))] ?_;obtain⟨y4,aG,N⟩:=zB aE;refine xK (zEB x1 _ aG h3) ?_;rintro bK ax v2 k2 bo - ⟨v03,rfl,rfl,rfl⟩ -;have h3:=h3.mono bo;refine yQ [] [29] rfl<|zK<|yH N ?_ ?_
 ·intro bD N;refine yD<|yG 1 [] [30] rfl<|xC 1 [z0,vI 0] rfl<|wM [] [(3,vF)]<|xH<|zJ ?_;exact xX N (resE 1 rfl rfl rfl) zO ⟨_,_,rfl,rfl,⟨_,rfl,(yO ⟨_,rfl,(SL.nil _)⟩)⟩,rfl⟩
 intro bD N;refine zT<|yY<|uW 1 [0] [(31,vA (cAff x1 p2 c2))]<|xC 1 (cAff x1 p2 c2) rfl<|wM [] [(3,vY)]<|zK<|xD ?_;exact xX N (resE 1 rfl rfl rfl) zO ⟨_,_,rfl,rfl,⟨_,rfl,(yO ⟨_,rfl,h3⟩)⟩,rfl⟩
def rY(y:(List Str))(out:List zA)(i:Int):Option (List zA):=do
 let t18<-(do
  if(decide (i<(y.length:Int))) then pure (decide (i<=2))
  else
   pure false
    : Option Bool)
 if t18 then
  let x<-idx y i;let (y2,y3)<-mP x;let ar<-app 32 out ([y2]:List zA);rY y ar (W (i+1))
 else pure (id out)
 partial_fixpoint
theorem zDN(y:(List Str)):∀(out:List zA) (i:Int) (o:List zA),rY y out i=some o->∀{B}{I0 I:Imm}{Q p c p1 c1 cs},I0.le I->(S4 I p y c)->(RL I cs out)->NG Q->NO Q->(∀I' aj p2 c2 au,o=aj->I0.le I'->(RL I' au aj)->T 34 B Q (.exit 0) I' [hO zA (vS p2 aj c2) au] [(3,vS p2 aj c2)])->J Tryz.prog 34 B (nav (bodyOf f238) [1,1,1,0,1,0]) Q I [hO zA (vS p1 out c1) cs] [(3,vS p1 out c1),(4,vS p y c),(5,vI i)]:=by
 refine rY.partial_correctness y _ λaJ ih out i o N B I0 I Q p c p1 c1 cs H h1 h2 hg ho hx=>yX hg ho<|yC<|yC ?_;refine vQ N [hO zA (vS p1 out c1) cs] (λt18=>[(3,vS p1 out c1),(4,vS p y c),(5,vI i),(18,.bool t18)]) (λo0 aA=>?_) ?_
 ·have H:=iS I;refine zL<|yG 5 [] [15] rfl<|wR [15] aA ?_ ?_
  ·intro hc N;exact yQ [] [18] rfl<|yZ<|zU (ct N H)
  intro hc N;exact wM [] [(18,vF)]<|yZ<|zU (ct N H)
 intro t18 aP aa aX;have ⟨h2,h1,H⟩:=m3 aa h2 h1 H;refine zK<|yH aX ?_ ?_
 ·intro aH N;refine zT<|yA<|yL<|yD<|yG 2 [] [22,23] rfl<|bE N λx az N=>xW rfl rfl h1 az ?_;intro ad aN aq am;obtain rfl:=am;refine xM 0 aq [vT x.l] (vT x.l) rfl ?_;obtain⟨⟨y2,y3⟩,aG,N⟩:=zB N;refine xK (zB1 x _ aG ) ?_;rintro aW ax v2 k2 aC - ⟨v01,v02,rfl,rfl,⟨aR,rfl,h4⟩,rfl⟩ -;have ⟨h2,h1,H⟩:=m3 aC h2 h1 H;obtain⟨p3,c3,rfl,h6⟩:=yI h4;refine yG 8 [] [27,28] rfl<|xY [z0,vI 0] ?_;intro b1 hb1;refine xC 0 (cAff y2 p3 c3) rfl<|wM [] []<|zK<|zL<|uW 2 [0] [(29,vS p1 out c1),(30,vA (cAff y2 p3 c3))]<|uX (cAff y2 p3 c3) zA ?_;intro b2 hb2;have h7:RL aW (cAff y2 p3 c3) ([y2]:List zA):=⟨(cAff y2 p3 c3),_,rfl,rfl,(yO ⟨_,rfl,h6⟩),rfl⟩;obtain⟨ar,bh,N⟩:=zB N;exact sW 95 2 2 rfl rfl rfl h2 (.inr ⟨0,rfl⟩) h7 bh λp4 c4 aM h8=>tX (zZ [1,2] (ag:=[hB b1 (cAff y2 p3 c3),hO zA (vS p4 ar c4) aM]))<|yQ [] [3] rfl<|zN<|zK<|zL<|yQ [] [5] rfl<|yV<|qZ (zX [1] rfl (by decide))<|nX<|ih ar (W (i+1)) _ N H h1 h8 hg ho hx
 intro aH N;exact wW<|yZ<|hx _ _ _ _ _ (zE N).symm H h2
def oE(bm:Str):Option ((List zA)):=do
 let y<-fB bm (44:UInt8);let aj<-rY y ([]:List zA) 0;pure (id aj)
theorem zAP:∀bm r,oE bm=some r->∀{I:Imm} ,RT 238 [vT bm.l] I [] (dM  r):=by
 intro bm r N I;unfold oE at N;refine yM func238 λB=>wZ []<|yY<|uX [] zA ?_;intro b hb;have h:RL I [] ([]:List zA):=rfl;refine yQ [] [3] rfl<|yY<|yG 1 [] [9] rfl<|bE N λy hy N=>xK (zBj bm (44:UInt8) _ hy ) ?_;rintro I0 ax v2 k2 le - ⟨v0,rfl,rfl,h1⟩ -;have h:=iM le h;obtain⟨p,c,rfl⟩:=h1.form;refine yQ [] [4] rfl<|yA<|yK [5] rfl<|wN<|qX [(3,vS (some ⟨b,0,none⟩) ([]:List zA) 0),(4,vS p y c),(5,vI 0)] ?_;obtain⟨aU,aB,aE⟩:=zB N;refine zDN y ([]:List zA) 0 aU aB iR h1 h nG nO ?_;intro bx aj p2 c2 au heq1 aI h3;subst aU;refine zS<|vM [2] rfl<|xH<|xB 0 rfl ?_;intro bG aY hl0;have h9:=SL.of_frozen hl0 aY h3;exact xX aE (resT rfl) zO ⟨_,rfl,rfl,h9⟩
def zCq(r:zG):KT:=λkk I' ag v=>
 ∃v0,ag=[]/\v=tupV [v0]/\(∃cs,v0=.agg ⟨cs⟩/\Rp.rep I' cs r)
def zAT(line:Str):Option (zG):=do
 let y<-gF line;if((y.length:Int) != 3) then pure (zG.mk ([]:List zA) ([]:List zA))
 else
  let x<-idx y 1;let y1<-oE x;let x1<-idx y 2;let y2<-oE x1;pure (zG.mk y1 y2)
theorem zI4:∀line r,zAT line=some r->∀{I:Imm} ,RT 212 [vT line.l] I [] (zCq  r):=by
 intro line r N I;unfold zAT at N;refine yM func212 λB=>?_;have H:=iS I;refine yD<|xY zTwo ?_;intro b hb;refine zY rfl<|yY<|yG 1 [] [4] rfl<|bE N λy hy N=>xK (zCo line _ hy ) ?_;rintro I0 ax v2 k2 le - ⟨v0,rfl,rfl,h⟩ -;have H:=H.trans le;obtain⟨p,c,rfl⟩:=h.form;refine yQ [] [3] rfl<|yA<|yK [8] rfl<|zK<|yH N ?_ ?_
 ·intro hc N;refine yD<|yG 1 [] [9] rfl<|jV 0 zTwo [hB b zTwo] rfl rfl rfl rfl<|zY rfl<|xH<|zJ ?_;exact xX N (resC 0 rfl rfl) zO ⟨_,rfl,rfl,⟨_,rfl,(uR ⟨_,_,rfl,(SL.nil _),(SL.nil _)⟩)⟩⟩
 intro hc N;refine zT<|zK<|yC ?_;obtain⟨x,az,N⟩:=zB N;obtain⟨y1,aG,N⟩:=zB N;obtain⟨x1,bh,N⟩:=zB N;obtain⟨y2,bu,N⟩:=zB N;refine wP [.p (vS p y c) [],.x (λI' v hx=>∃ad,v=.pointer (some ad)/\hx=[]/\(At I' ad [vT x.l])),.q (vT x.l),.x (eS y1),.p (vS p y c) [],.x (λI' v hx=>∃ad1,v=.pointer (some ad1)/\hx=[]/\(At I' ad1 [vT x1.l])),.q (vT x1.l),.x (eS y2),.x (λI' v hx=>∃aF aQ p21 c21,v=vA [vS aF y1 aQ,vS p21 y2 c21]/\hx=[]/\(S4 I' aF y1 aQ)/\(S4 I' p21 y2 c21))] [[],[(0,false)],[(1,false)],[(2,false)],[],[(4,false)],[(5,false)],[(6,false)],[(3,false),(7,false)]] [hB b zTwo] [] [(8,false)] (zZ [0]) ?_ ?_
 ·refine Op<|Ox ?_<|Oq ?_<|Ox ?_<|Op<|Ox ?_<|Oq ?_<|Ox ?_<|Ox ?_<|On
  ·intro I1 hf aa;refine yW [10] rfl ?_;have h:=h.mono aa;refine xW rfl rfl h az ?_;intro ad aN aq am;obtain rfl:=am;exact yN [] iR ⟨_,rfl,rfl,aq⟩
  ·rintro I1 hf aa _ _ ⟨ad,rfl,rfl,aq⟩;exact yW [11] rfl<|xM 0 aq [vT x.l] (vT x.l) rfl<|xO iR
  ·intro I1 hf aa;refine yW [12] rfl ?_;have H:=iS I1;refine xK (zAP x _ aG ) ?_;rintro aP ax v2 k2 aa - ⟨v01,rfl,rfl,h1⟩ -;have H:=H.trans aa;obtain⟨p1,c1,rfl⟩:=h1.form;exact yN [] H ⟨_,_,rfl,rfl,h1⟩
  ·intro I1 hf aa;refine yW [14] rfl ?_;have h:=h.mono aa;refine xW rfl rfl h bh ?_;intro ad1 bq aw ay;obtain rfl:=ay;exact yN [] iR ⟨_,rfl,rfl,aw⟩
  ·rintro I1 hf aa _ _ ⟨ad1,rfl,rfl,aw⟩;exact yW [15] rfl<|xM 0 aw [vT x1.l] (vT x1.l) rfl<|xO iR
  ·intro I1 hf aa;refine yW [16] rfl ?_;have H:=iS I1;refine xK (zAP x1 _ bu ) ?_;rintro aW ax v2 k2 aC - ⟨v02,rfl,rfl,h2⟩ -;have H:=H.trans aC;obtain⟨p2,c2,rfl⟩:=h2.form;exact yN [] H ⟨_,_,rfl,rfl,h2⟩
  rintro I1 hf aa _ _ ⟨p1,c1,rfl,rfl,h1⟩ _ _ ⟨p2,c2,rfl,rfl,h2⟩;exact yW [13,17] rfl<|oN 9 [(18,vA [vS p1 y1 c1,vS p2 y2 c2])]<|yN [] iR ⟨_,_,_,_,rfl,rfl,h1,h2⟩
 rintro bx aI _ _ ⟨aF,aQ,p21,c21,rfl,rfl,h11,h21⟩;refine yW [2,18] rfl ?_;refine xC 0 [vS aF y1 aQ,vS p21 y2 c21] rfl<|zY rfl<|zK<|xD ?_;exact xX N (resC 0 rfl rfl) zO ⟨_,rfl,rfl,⟨_,rfl,(uR ⟨_,_,rfl,h11,h21⟩)⟩⟩
def nA(s:Str)(end0:UInt8)(i:Int):Option (Out Unit (Int)):=do
 if(decide (i<(s.l.length:Int))) then
  let b<-sidx s i;if((b.toNat:Int)==(end0.toNat:Int)) then pure (.ret i)
  else nA s end0 (W (i+1))
 else pure (.done ())
 partial_fixpoint
theorem zFU(s:Str)(end0:UInt8):∀(i:Int) (o:Out Unit (Int)),nA s end0 i=some o->∀{B}{I0 I:Imm}{Q}  ,I0.le I->NG Q->NO Q->(∀I',o=(.done ())->I0.le I'->T 21 B Q (.exit 0) I' [] [])->(∀r I' ag m',o=(.ret r)->I0.le I'->RS Tryz.prog f260 B (yP  r) I' ag m'->T 21 B Q .ret I' ag m')->J Tryz.prog 21 B (nav (bodyOf f260) [1,0,1,0]) Q I [] [(0,vT s.l),(2,.int .u8 (end0.toNat:Int)),(7,vI i)]:=by
 refine nA.partial_correctness s end0 _ λaJ ih i o N B I0 I Q H hg ho hx hr=>yX hg ho<|yC<|yK [12] rfl<|zK<|yH N ?_ ?_
 ·intro hc N;refine zT<|yA<|yL<|yD<|yG 2 [] [15,16] rfl<|bE N λb hy N=>zBq rfl rfl hy<|yQ [] [19] rfl<|zK<|yH N ?_ ?_
  ·intro aH N;exact yK [6] rfl<|xH<|zV<|zJ<|zJ<|hr _ _ _ _ (zE N).symm H ⟨_,_,(resT rfl),zO,⟨_,rfl,rfl,rfl⟩⟩
  intro aH N;exact zT<|zN<|zK<|zL<|yQ [] [7] rfl<|yV<|nX<|ih (W (i+1)) _ N H  hg ho hx hr
 intro hc N;exact wW<|yZ<|hx _  (zE N).symm H
def fX(s:Str)(at0:Int)(end0:UInt8):Option (Int):=do
 match<-nA s end0 at0 with
 | .ret r0=>pure r0
 | .done _=>
  pure (-1)
theorem zD2:∀s at0 end0 r,fX s at0 end0=some r->∀{I:Imm} ,RT 260 [vT s.l,vI at0,.int .u8 (end0.toNat:Int)] I [] (yP  r):=by
 intro s at0 end0 r N I;unfold fX at N;refine yM func260 λB=>wZ []<|yA<|yK [7] rfl<|wN<|qX [(0,vT s.l),(2,.int .u8 (end0.toNat:Int)),(7,vI at0)] ?_;obtain⟨o0,aA,aE⟩:=zB N;refine zFU s end0 at0 o0 aA iR  nG nO ?_ ?_
 ·intro I0  heq le;subst o0;refine zS<|vM [6] rfl<|zK<|xD ?_;obtain rfl:=zE aE;exact vH
 intro r0 I9 hs9 m9 aT le9 aV;subst aT;refine zV<|zJ ?_;obtain rfl:=zE aE;exact jW aV
def zCr(r:zM×Int):KT:=λkk I' ag v=>
 ∃v0 v1,ag=[]/\v=tupV [v0,v1]/\(∃cs,v0=.agg ⟨cs⟩/\Rp.rep I' cs r.1)/\v1=.int .i64 r.2
def oK(s:Str)(at0:Int):Option (zM×Int):=do
 let y<-fX s at0 (93:UInt8);let t20<-(do
  if(decide (y<(W (at0+2)))) then pure true
  else
   let b1<-sidx s (W (at0+1));pure ((b1.toNat:Int) != 91)
    : Option Bool)
 if t20 then pure ((zM.mk (⟨[]⟩:Str) ([]:List zA)),(-1))
 else
  let s1<-sslc s at0 (W (at0+1));let s2<-sslc s (W (at0+2)) y;let y1<-oE s2;pure ((zM.mk s1 y1),(W (y+1)))
theorem zAu:∀s at0 r,oK s at0=some r->∀{I:Imm} ,RT 239 [vT s.l,vI at0] I [] (zCr  r):=by
 intro s at0 r N I;unfold oK at N;refine yM func239 λB=>?_;have H:=iS I;refine yD<|xY [vT ([]),z0] ?_;intro b hb;refine wM [] []<|yY<|yG 2 [] [7,8] rfl<|bE N λy hy N=>dC (zD2 s at0 (93:UInt8) _ hy ) ?_;intro I0 le;have H:=H.trans le;refine yQ [] [6] rfl<|yA<|yC ?_;refine vQ N [hB b [vT ([]),z0]] (λt20=>[(0,vT s.l),(1,vI at0),(4,vP b 0),(6,vI y),(20,.bool t20)]) (λo0 aA=>?_) ?_
 ·have H:=iS I0;refine zL<|yG 5 [] [14] rfl<|wR [14] aA ?_ ?_
  ·intro hc N;exact wM [] [(20,vY)]<|yZ<|zU (ct N H)
  intro hc N;exact yG 8 [] [15,17] rfl<|bE N λb1 az N=>zBq rfl rfl az<|yQ [] [20] rfl<|yZ<|zU (ct N H)
 intro t20 aP aa aX;have H:=H.trans aa;refine zK<|yH aX ?_ ?_
 ·intro aH N;refine yD<|yG 1 [] [21] rfl<|xC 0 [vT ([]),z0] rfl<|yQ [] [5] rfl<|xH<|zJ ?_;exact xX N (resE 0 rfl rfl rfl) zO ⟨_,_,rfl,rfl,⟨_,rfl,(oG ⟨_,rfl,(SL.nil _)⟩)⟩,rfl⟩
 intro aH N;refine zT<|zK<|yC ?_;obtain⟨s1,aG,N⟩:=zB N;obtain⟨s2,bh,N⟩:=zB N;obtain⟨y1,bu,N⟩:=zB N;refine wP [.p (vT s.l) [],.p (vI at0) [],.p (vI at0) [],.p (vI (W (at0+1))) [],.q (vT s1.l),.p (vT s.l) [],.p (vI at0) [],.p (vI (W (at0+2))) [],.p (vI y) [],.q (vT s2.l),.x (eS y1),.x (λI' v hx=>∃p1 c1,v=vA [vT s1.l,vS p1 y1 c1]/\hx=[]/\(S4 I' p1 y1 c1)),.p (vI y) [],.p (vI (W (y+1))) [],.x (λI' v hx=>∃aF aQ,hx=[hB b [vT s1.l,vS aF y1 aQ]]/\(S4 I' aF y1 aQ))] [[],[],[],[(2,false)],[(0,false),(1,false),(3,false)],[],[],[(6,false)],[],[(5,false),(7,false),(8,false)],[(9,false)],[(4,false),(10,false)],[],[(12,false)],[(11,false),(16,true)]] [] [[hB b [vT ([]),z0]]] [(13,false),(14,true)] (zZ [0]) ?_ ?_
 ·refine O4<|Oq ?_<|O4<|Oq ?_<|Ox ?_<|Ox ?_<|O2<|Ox ?_<|On
  ·intro I1 hf aa;exact yW [22,23,25] rfl<|zJF rfl aG<|xO iR
  ·intro I1 hf aa;exact yW [27,29,30] rfl<|zJF rfl bh<|xO iR
  ·intro I1 hf aa;refine yW [31] rfl ?_;have H:=iS I1;refine xK (zAP s2 _ bu ) ?_;rintro aW ax v2 k2 aC - ⟨v01,rfl,rfl,h1⟩ -;have H:=H.trans aC;obtain⟨p,c,rfl⟩:=h1.form;exact yN [] H ⟨_,_,rfl,rfl,h1⟩
  ·rintro I1 hf aa _ _ ⟨rfl,rfl⟩ _ _ ⟨p,c,rfl,rfl,h1⟩;exact yW [26,32] rfl<|oN 12 [(33,vA [vT s1.l,vS p y1 c])]<|yN [] iR ⟨_,_,rfl,rfl,h1⟩
  rintro I1 hf aa _ _ ⟨p1,c1,rfl,rfl,h11⟩ _ _ rfl;refine yW [4,33] rfl ?_;have H:=iS I1;exact jV 0 [vT s1.l,vS p1 y1 c1] (hB b [vT s1.l,vS p1 y1 c1]::hf) rfl rfl rfl rfl<|zAb (hx:=[hB b [vT s1.l,vS p1 y1 c1]]) rfl H rfl (zFk (v:=undef)) ⟨_,_,rfl,h11⟩
 rintro bx aI _ _ ⟨rfl,rfl⟩ _ _ ⟨aF,aQ,rfl,h111⟩;refine yW [4,35] rfl ?_;refine yQ [] [5] rfl<|zK<|xD ?_;exact xX N (resE 0 rfl rfl rfl) zO ⟨_,_,rfl,rfl,⟨_,rfl,(oG ⟨_,rfl,h111⟩)⟩,rfl⟩
def zAm(r:zH×Int):KT:=λkk I' ag v=>
 ∃v0 v1,ag=[]/\v=tupV [v0,v1]/\(∃cs,v0=.agg ⟨cs⟩/\Rp.rep I' cs r.1)/\v1=.int .i64 r.2
mutual
def dX(s:Str)(at0:Int)(ak:Int):Option (zH×Int):=do
 let (y1,y2)<-nB (same s) (same at0) (same ak);let t27<-(do
  if(decide (y2<0)) then pure true
  else
   pure (decide (y2>=(s.l.length:Int)))
    : Option Bool)
 if t27 then pure ((zH.mk 0 0 (zA.mk ([]:List Int) 0) (zM.mk (⟨[]⟩:Str) ([]:List zA)) ([]:List zH)),(-1))
 else
  let b2<-sidx s y2;let kind<-(do
   if((b2.toNat:Int)==45) then pure (id 5)
   else
    let kind1<-(do
     if((b2.toNat:Int)==42) then pure (id 6)
     else
      pure (id 4)
       : Option Int)
    pure (id kind1)
     : Option Int)
  let (y4,y5)<-nB (same s) (W (y2+1)) (same ak);let t51<-(do
   if(decide (y5<0)) then pure true
   else
    pure (decide (y5>=(s.l.length:Int)))
     : Option Bool)
  if t51 then pure ((zH.mk 0 0 (zA.mk ([]:List Int) 0) (zM.mk (⟨[]⟩:Str) ([]:List zA)) ([]:List zH)),(-1))
  else pure ((zH.mk kind 0 (zA.mk ([]:List Int) 0) (zM.mk (⟨[]⟩:Str) ([]:List zA)) ([y1,y4]:List zH)),(W (y5+1)))
 partial_fixpoint
def nB(s:Str)(at0:Int)(ak:Int):Option (zH×Int):=do
 let t26<-(do
  if(decide (ak<1)) then pure true
  else
   if(decide (at0<0)) then pure true
   else
    pure (decide (at0>=(s.l.length:Int)))
    : Option Bool)
 if t26 then pure ((zH.mk 0 0 (zA.mk ([]:List Int) 0) (zM.mk (⟨[]⟩:Str) ([]:List zA)) ([]:List zH)),(-1))
 else
  let b1<-sidx s at0;if((b1.toNat:Int)==123) then
   let y<-fX s at0 (125:UInt8);if(decide (y<0)) then pure ((zH.mk 0 0 (zA.mk ([]:List Int) 0) (zM.mk (⟨[]⟩:Str) ([]:List zA)) ([]:List zH)),(-1))
   else
    let s1<-sslc s (W (at0+1)) y;let (y2,y3)<-mP s1;pure ((zH.mk 2 0 y2 (zM.mk (⟨[]⟩:Str) ([]:List zA)) ([]:List zH)),(W (y+1)))
  else
   let t52<-(do
    let b3<-sidx s at0;if(decide ((b3.toNat:Int)>=65)) then
     let b4<-sidx s at0;pure (decide ((b4.toNat:Int)<=68))
    else
     pure false
      : Option Bool)
   if t52 then
    let (y5,y6)<-oK s at0;pure ((zH.mk 3 0 (zA.mk ([]:List Int) 0) y5 ([]:List zH)),y6)
   else
    let b6<-sidx s at0;if((b6.toNat:Int)==40) then
     let (y8,y9)<-dX (same s) (W (at0+1)) (W (ak - 1));pure (y8,y9)
    else
     let (y11,y12)<-gG s at0;if(y12==at0) then pure ((zH.mk 0 0 (zA.mk ([]:List Int) 0) (zM.mk (⟨[]⟩:Str) ([]:List zA)) ([]:List zH)),(-1))
     else pure ((zH.mk 1 y11 (zA.mk ([]:List Int) 0) (zM.mk (⟨[]⟩:Str) ([]:List zA)) ([]:List zH)),y12)
 partial_fixpoint
end
theorem zGv:(∀(s:Str) (at0:Int) (ak:Int) r,dX s at0 ak=some r->∀{I:Imm} ,RT 261 [vT s.l,vI at0,vI ak] I [] (zAm  r))/\(∀(s:Str) (at0:Int) (ak:Int) r,nB s at0 ak=some r->∀{I:Imm} ,RT 240 [vT s.l,vI at0,vI ak] I [] (zAm  r)):=by
 refine dX.mutual_partial_correctness _ _ ?_ ?_
 ·intro F_spec_l3Parse ih_spec_l3Parse s at0 ak r N I;refine yM func261 λB=>?_;have H:=iS I;refine yD<|xY zExpr ?_;intro b hb;refine wM [] []<|yY<|yG 3 [] [14,15,16] rfl ?_;obtain⟨⟨y1,y2⟩,hy,N⟩:=zB N;refine xK (ih_spec_l3Parse s at0 ak _ hy ) ?_;rintro I0 ax v2 k2 le - ⟨v0,v01,rfl,rfl,⟨cs,rfl,h⟩,rfl⟩ -;have H:=H.trans le;obtain⟨p,c,p1,c1,p2,c2,rfl,h2,h3,h4⟩:=wT h;refine yG 7 [] [18,19] rfl<|xY zExpr ?_;intro b1 hb1;refine xC 0 (cExpr y1 p c p1 c1 p2 c2) rfl<|yQ [] [9] rfl<|yA<|yC ?_;refine vQ N [hB b1 (cExpr y1 p c p1 c1 p2 c2),hB b zExpr] (λt27=>[(0,vT s.l),(2,vI ak),(6,vP b 0),(8,vP b1 0),(9,vI y2),(27,.bool t27)]) (λo0 aA=>?_) ?_
  ·have H:=iS I0;refine zL<|yG 3 [] [22] rfl<|wR [22] aA ?_ ?_
   ·intro hc N;exact wM [] [(27,vY)]<|yZ<|zU (ct N H)
   intro hc N;exact yQ [] [27] rfl<|yZ<|zU (ct N H)
  intro t27 aP aa aX;have ⟨h2,h3,h4,H⟩:=m4 aa h2 h3 h4 H;refine zK<|yH aX ?_ ?_
  ·intro aH N;refine yD<|yG 1 [] [28] rfl<|jV 1 zExpr [hB b1 (cExpr y1 p c p1 c1 p2 c2),hB b zExpr] rfl rfl rfl rfl<|yQ [] [7] rfl<|xH<|zJ ?_;exact xX N (resE 1 rfl rfl rfl) zO ⟨_,_,rfl,rfl,⟨_,rfl,(wF ⟨_,_,_,rfl,(SL.nil _),(SL.nil _),(SL.nil _)⟩)⟩,rfl⟩
  intro aH N;refine zT<|vM [10] rfl<|yA<|yD<|yG 2 [] [29,30] rfl<|bE N λb2 az N=>zBq rfl rfl az<|zY rfl<|wN<|yK [32] rfl<|zK ?_;refine vQ N [hB b1 (cExpr y1 p c p1 c1 p2 c2),hB b zExpr] (λkind=>[(0,vT s.l),(2,vI ak),(6,vP b 0),(8,vP b1 0),(9,vI y2),(10,vI kind)]) (λaU aB=>?_) ?_
  ·have H:=iS aP;refine yH aB ?_ ?_
   ·intro ba N;exact zL<|yQ [] [10] rfl<|yZ<|zU (ct N H)
   intro ba N;refine yK [34] rfl<|zK ?_;refine vQ N [hB b1 (cExpr y1 p c p1 c1 p2 c2),hB b zExpr] (λkind1=>[(0,vT s.l),(2,vI ak),(6,vP b 0),(8,vP b1 0),(9,vI y2),(10,vI kind1)]) (λo02 ho02=>?_) ?_
   ·have H:=iS aP;refine yH ho02 ?_ ?_
    ·intro bD N;exact zL<|yQ [] [10] rfl<|yZ<|zU (ct N H)
    intro bD N;exact zT<|yZ<|zU (ct N H)
   intro kind1 bx aC hMc2;have H:=H.trans aC;exact yZ<|zU (ct hMc2 H)
  intro kind aW aI hMc1;have ⟨h2,h3,h4,H⟩:=m4 aI h2 h3 h4 H;refine zN<|yY<|yG 4 [] [37,39,40] rfl ?_;obtain⟨⟨y4,y5⟩,aG,N⟩:=zB hMc1;refine xK (ih_spec_l3Parse s (W (y2+1)) ak _ aG ) ?_;rintro bG ax v2 k2 aY - ⟨v05,v06,rfl,rfl,⟨au,rfl,h5⟩,rfl⟩ -;have ⟨h2,h3,h4,H⟩:=m4 aY h2 h3 h4 H;obtain⟨p3,c3,p4,c4,p5,c5,rfl,h7,h8,h9⟩:=wT h5;refine yG 8 [] [42,43] rfl<|xY zExpr ?_;intro b3 hb2;refine xC 0 (cExpr y4 p3 c3 p4 c4 p5 c5) rfl<|yQ [] [12] rfl<|yA<|yC ?_;refine vQ N [hB b3 (cExpr y4 p3 c3 p4 c4 p5 c5),hB b1 (cExpr y1 p c p1 c1 p2 c2),hB b zExpr] (λt51=>[(6,vP b 0),(8,vP b1 0),(10,vI kind),(11,vP b3 0),(12,vI y5),(51,.bool t51)]) (λo03 ho03=>?_) ?_
  ·have H:=iS bG;refine zL<|yG 3 [] [46] rfl<|wR [46] ho03 ?_ ?_
   ·intro bJ N;exact wM [] [(51,vY)]<|yZ<|zU (ct N H)
   intro bJ N;exact yQ [] [51] rfl<|yZ<|zU (ct N H)
  intro t51 bK bo hMc3;have ⟨h7,h8,h9,h2,h3,h4⟩:=m6 bo h7 h8 h9 h2 h3 h4;refine zK<|yH hMc3 ?_ ?_
  ·intro hc5 N;refine yD<|yG 1 [] [52] rfl<|jV 2 zExpr [hB b3 (cExpr y4 p3 c3 p4 c4 p5 c5),hB b1 (cExpr y1 p c p1 c1 p2 c2),hB b zExpr] rfl rfl rfl rfl<|yQ [] [7] rfl<|xH<|zJ ?_;exact xX N (resE 2 rfl rfl rfl) zO ⟨_,_,rfl,rfl,⟨_,rfl,(wF ⟨_,_,_,rfl,(SL.nil _),(SL.nil _),(SL.nil _)⟩)⟩,rfl⟩
  intro hc5 N;refine zT<|yY<|uW 3 [1,0] [(53,vI kind),(54,vA (cExpr y1 p c p1 c1 p2 c2)),(55,vA (cExpr y4 p3 c3 p4 c4 p5 c5))]<|uX [vI y1.Kind,vI y1.Num,vS p y1.Index.Coefs c,vI y1.Index.Const,vT y1.Read.Array.l,vS p1 y1.Read.Subs c1,vS p2 y1.Kids c2,vI y4.Kind,vI y4.Num,vS p3 y4.Index.Coefs c3,vI y4.Index.Const,vT y4.Read.Array.l,vS p4 y4.Read.Subs c4,vS p5 y4.Kids c5] zH ?_;intro b4 hb3;have h10:RL bK [vI y1.Kind,vI y1.Num,vS p y1.Index.Coefs c,vI y1.Index.Const,vT y1.Read.Array.l,vS p1 y1.Read.Subs c1,vS p2 y1.Kids c2,vI y4.Kind,vI y4.Num,vS p3 y4.Index.Coefs c3,vI y4.Index.Const,vT y4.Read.Array.l,vS p4 y4.Read.Subs c4,vS p5 y4.Kids c5] ([y1,y4]:List zH):=⟨(cExpr y1 p c p1 c1 p2 c2),_,rfl,rfl,(wF ⟨_,_,_,rfl,h2,h3,h4⟩),⟨(cExpr y4 p3 c3 p4 c4 p5 c5),_,rfl,rfl,(wF ⟨_,_,_,rfl,h7,h8,h9⟩),rfl⟩⟩;refine yG 7 [] [57,59] rfl<|xC 3 [vI kind,vI 0,z0,vI 0,vT ([]),z0,vS (some ⟨b4,0,none⟩) ([y1,y4]:List zH) 2] rfl<|yQ [] [7] rfl<|xH<|xB 0 rfl ?_;intro I06 bv hl0;have h11:=SL.of_frozen hl0 bv h10;exact xX N (resE 2 rfl rfl rfl) zO ⟨_,_,rfl,rfl,⟨_,rfl,(wF ⟨_,_,_,rfl,(SL.nil _),(SL.nil _),h11⟩)⟩,rfl⟩
 intro F_spec_l3Round ih_spec_l3Round s at0 ak r N I;refine yM func240 λB=>?_;have H:=iS I;refine yD<|xY zExpr ?_;intro b hb;refine wM [] []<|yA<|yC ?_;refine vQ N [hB b zExpr] (λt26=>[(0,vT s.l),(1,vI at0),(2,vI ak),(6,vP b 0),(26,.bool t26)]) (λo0 aA=>?_) ?_
 ·have H:=iS I;refine zL<|yG 3 [] [17] rfl<|wR [17] aA ?_ ?_
  ·intro hc N;exact wM [] [(26,vY)]<|yZ<|zU (ct N H)
  intro hc N;refine yG 7 [] [21] rfl<|wR [21] N ?_ ?_
  ·intro aH N;exact wM [] [(26,vY)]<|yZ<|zU (ct N H)
  intro aH N;exact yQ [] [26] rfl<|yZ<|zU (ct N H)
 intro t26 I0 le aX;have H:=H.trans le;refine zK<|yH aX ?_ ?_
 ·intro ba N;refine yD<|yG 1 [] [27] rfl<|jV 0 zExpr [hB b zExpr] rfl rfl rfl rfl<|yQ [] [7] rfl<|xH<|zJ ?_;exact xX N (resE 0 rfl rfl rfl) zO ⟨_,_,rfl,rfl,⟨_,rfl,(wF ⟨_,_,_,rfl,(SL.nil _),(SL.nil _),(SL.nil _)⟩)⟩,rfl⟩
 intro ba N;refine zT<|yA<|yL<|yD<|yG 2 [] [29,30] rfl<|bE N λb1 hy N=>zBq rfl rfl hy<|yQ [] [28] rfl<|zK<|yH N ?_ ?_
 ·intro bD N;refine yD<|yG 2 [] [33,34] rfl<|bE N λy az N=>dC (zD2 s at0 (125:UInt8) _ az ) λaP aa=>wM [] [(8,vI y)]<|yA<|wZ [(37,.bool (decide (y<0)))]<|zK<|yH N ?_ ?_
  ·intro bJ N;refine yD<|yG 1 [] [38] rfl<|jV 0 zExpr [hB b zExpr] rfl rfl rfl rfl<|yQ [] [7] rfl<|xH<|zJ<|zV<|zJ ?_;exact xX N (resE 0 rfl rfl rfl) zO ⟨_,_,rfl,rfl,⟨_,rfl,(wF ⟨_,_,_,rfl,(SL.nil _),(SL.nil _),(SL.nil _)⟩)⟩,rfl⟩
  intro bJ N;refine zT<|yY<|yG 4 [] [40,42,43] rfl<|bE N λs1 aG N=>zJF rfl aG ?_;obtain⟨⟨y2,y3⟩,bh,N⟩:=zB N;refine xK (zB1 s1 _ bh ) ?_;rintro aW ax v2 k2 aC - ⟨v01,v02,rfl,rfl,⟨cs,rfl,h1⟩,rfl⟩ -;obtain⟨p,c,rfl,h3⟩:=yI h1;refine yG 9 [] [46,47] rfl<|xY [z0,vI 0] ?_;intro b2 hb1;refine xC 0 (cAff y2 p c) rfl<|wM [] []<|yY<|uW 4 [0] [(49,vA [vI 2,vI 0,vS p y2.Coefs c,vI y2.Const,vT ([]),z0,z0]),(51,vI (W (y+1)))]<|xC 1 [vI 2,vI 0,vS p y2.Coefs c,vI y2.Const,vT ([]),z0,z0] rfl<|yQ [] [7] rfl<|xH<|zV<|zJ ?_;exact xX N (resE 1 rfl rfl rfl) zO ⟨_,_,rfl,rfl,⟨_,rfl,(wF ⟨_,_,_,rfl,h3,(SL.nil _),(SL.nil _)⟩)⟩,rfl⟩
 intro bD N;refine yC ?_;refine vQ N [hB b zExpr] (λt52=>[(0,vT s.l),(1,vI at0),(2,vI ak),(6,vP b 0),(52,.bool t52)]) (λaU aB=>?_) ?_
 ·have H:=iS I0;refine zL<|yG 2 [] [53,54] rfl ?_;obtain⟨b3,bu,N⟩:=zB aB;refine zBq rfl rfl bu<|yG 5 [] [57] rfl<|wR [57] N ?_ ?_
  ·intro hc5 N;exact yG 7 [] [58,59] rfl<|bE N λb4 bC N=>zBq rfl rfl bC<|yQ [] [52] rfl<|yZ<|zU (ct N H)
  intro hc5 N;exact wM [] [(52,vF)]<|yZ<|zU (ct N H)
 intro t52 bx aI hMc1;refine zK<|yH hMc1 ?_ ?_
 ·intro hc6 N;refine yD<|yG 2 [] [64,65] rfl ?_;obtain⟨⟨y5,y6⟩,hy6,N⟩:=zB N;refine xK (zAu s at0 _ hy6 ) ?_;rintro bG ax v2 k2 aY - ⟨v04,v05,rfl,rfl,⟨au,rfl,h4⟩,rfl⟩ -;obtain⟨p1,c1,rfl,h6⟩:=rF h4;refine yG 6 [] [67,68] rfl<|xY [vT ([]),z0] ?_;intro b5 hb2;refine xC 0 (cAccess y5 p1 c1) rfl<|yQ [] [12] rfl<|yY<|uW 3 [0] [(70,vA [vI 3,vI 0,z0,vI 0,vT y5.Array.l,vS p1 y5.Subs c1,z0]),(71,vI y6)]<|xC 1 [vI 3,vI 0,z0,vI 0,vT y5.Array.l,vS p1 y5.Subs c1,z0] rfl<|yQ [] [7] rfl<|xH<|zV<|zJ ?_;exact xX N (resE 1 rfl rfl rfl) zO ⟨_,_,rfl,rfl,⟨_,rfl,(wF ⟨_,_,_,rfl,(SL.nil _),h6,(SL.nil _)⟩)⟩,rfl⟩
 intro hc6 N;refine yD<|yG 2 [] [73,74] rfl<|bE N λb6 hy7 N=>zBq rfl rfl hy7<|yQ [] [72] rfl<|zK<|yH N ?_ ?_
 ·intro hc7 N;refine yD<|yG 5 [] [77,79,81] rfl ?_;obtain⟨⟨y8,y9⟩,hy8,N⟩:=zB N;refine xK (ih_spec_l3Round s (W (at0+1)) (W (ak - 1)) _ hy8 ) ?_;rintro bK ax v2 k2 bo - ⟨v07,v08,rfl,rfl,⟨aR,rfl,h7⟩,rfl⟩ -;obtain⟨p2,c2,p3,c3,p4,c4,rfl,h9,h10,h11⟩:=wT h7;refine yG 8 [] [83,84] rfl<|xC 0 (cExpr y8 p2 c2 p3 c3 p4 c4) rfl<|yQ [] [7] rfl<|xH<|zV<|zJ ?_;exact xX N (resE 0 rfl rfl rfl) zO ⟨_,_,rfl,rfl,⟨_,rfl,(wF ⟨_,_,_,rfl,h9,h10,h11⟩)⟩,rfl⟩
 intro hc7 N;refine zT<|zN<|yY<|yG 2 [] [86,87] rfl ?_;obtain⟨⟨y11,y12⟩,hy9,N⟩:=zB N;refine xK (zCp s at0 _ hy9 ) ?_;rintro I06 ax v2 k2 bv - ⟨v012,v013,rfl,rfl,rfl,rfl⟩ -;refine yQ [] [13,14] rfl<|yA<|yK [93] rfl<|zK<|yH N ?_ ?_
 ·intro hc8 N;refine yD<|yG 1 [] [94] rfl<|jV 0 zExpr [hB b zExpr] rfl rfl rfl rfl<|yQ [] [7] rfl<|xH<|zJ ?_;exact xX N (resE 0 rfl rfl rfl) zO ⟨_,_,rfl,rfl,⟨_,rfl,(wF ⟨_,_,_,rfl,(SL.nil _),(SL.nil _),(SL.nil _)⟩)⟩,rfl⟩
 intro hc8 N;refine zT<|yY<|yG 3 [] [96,97] rfl<|xC 0 [vI 1,vI y11,z0,vI 0,vT ([]),z0,z0] rfl<|yQ [] [7] rfl<|zK<|xD ?_;exact xX N (resE 0 rfl rfl rfl) zO ⟨_,_,rfl,rfl,⟨_,rfl,(wF ⟨_,_,_,rfl,(SL.nil _),(SL.nil _),(SL.nil _)⟩)⟩,rfl⟩
theorem zHf:∀s at0 ak r,nB s at0 ak=some r->∀{I:Imm} ,RT 240 [vT s.l,vI at0,vI ak] I [] (zAm  r):=zGv.2
def sR(a0:zA)(n0:Int)(i:Int):Option (Int):=do
 if(decide (i<(a0.Coefs.length:Int))) then
  let x<-idx a0.Coefs i;let n02<-(do
   if(x != 0) then pure (W (i+1))
   else
    pure (id n0)
     : Option Int)
  sR a0 n02 (W (i+1))
 else pure (id n0)
 partial_fixpoint
theorem zFV(a0:zA):∀(n0:Int) (i:Int) (o:Int),sR a0 n0 i=some o->∀{B}{I0 I:Imm}{Q p c}{b},I0.le I->(S4 I p a0.Coefs c)->NG Q->NO Q->(∀I' n01,o=n01->I0.le I'->T 21 B Q (.exit 0) I' [] [(3,vI n01)])->J Tryz.prog 21 B (nav (bodyOf f226) [1,1,0,1,0]) Q I [hB b (cAff a0 p c)] [(1,vP b 0),(3,vI n0),(4,vI i)]:=by
 refine sR.partial_correctness a0 _ λaJ ih n0 i o N B I0 I Q p c b H h hg ho hx=>yX hg ho<|yC<|yD<|yQ [0] [9] rfl<|zK<|yH N ?_ ?_
 ·intro hc N;refine zT<|yA<|yL<|yD<|yG 3 [0] [13,14] rfl<|bE N λx hy N=>xW rfl rfl h hy ?_;intro ad aN aq am;obtain rfl:=am;refine xM 0 aq [vI x] (vI x) rfl<|yQ [] [17] rfl<|zK ?_;refine vQ N [hB b (cAff a0 p c)] (λn02=>[(1,vP b 0),(3,vI n02),(4,vI i)]) (λo0 aA=>?_) ?_
  ·have H:=iS I;refine yH aA ?_ ?_
   ·intro aH N;exact zL<|yQ [] [3] rfl<|yZ<|zU (ct N H)
   intro aH N;exact zT<|yZ<|zU (ct N H)
  intro n02 I0 le aX;have ⟨h,H⟩:=m2 le h H;exact zN<|zK<|zL<|yQ [] [4] rfl<|yV<|nX<|ih n02 (W (i+1)) _ aX H h hg ho hx
 intro hc N;exact wW<|wK zO<|yZ<|hx _ _ (zE N).symm H
def nC(a0:zA):Option (Int):=do
 let n01<-sR a0 0 0;pure (id n01)
theorem zBV:∀a0 r,nC a0=some r->∀{I:Imm}{p c},(S4 I p a0.Coefs c)->RT 226 [vA (cAff a0 p c)] I [] (yP  r):=by
 intro a0 r N I p c h;unfold nC at N;refine yM func226 λB=>yD<|vC (cAff a0 p c) ?_;intro b hb;refine wM [] []<|vM [3] rfl<|yA<|yK [4] rfl<|wN<|qX [(1,vP b 0),(3,vI 0),(4,vI 0)] ?_;obtain⟨aU,aB,aE⟩:=zB N;refine zFV a0 0 0 aU aB iR h nG nO ?_;intro aP n01 heq1 aa;subst aU;refine zS<|vM [2] rfl<|zK<|xD ?_;obtain rfl:=zE aE;exact vH
def tS(a0:zM)(ae:Int)(i:Int):Option (Out Unit (Bool)):=do
 if(decide (i<(a0.Subs.length:Int))) then
  let t29<-(do
   let x<-idx a0.Subs i;let y<-tR x;if(!y) then pure true
   else
    let x1<-idx a0.Subs i;let y1<-nC x1;pure (decide (y1>ae))
     : Option Bool)
  if t29 then pure (.ret false)
  else tS a0 ae (W (i+1))
 else pure (.done ())
 partial_fixpoint
theorem zEc(a0:zM)(ae:Int):∀(i:Int) (o:Out Unit (Bool)),tS a0 ae i=some o->∀{B}{I0 I:Imm}{Q p c}{b},I0.le I->(S4 I p a0.Subs c)->NG Q->NO Q->(∀I',o=(.done ())->I0.le I'->T 56 B Q (.exit 0) I' [hB b (cAccess a0 p c)] [(2,vP b 0)])->(∀r I' ag m',o=(.ret r)->I0.le I'->RS Tryz.prog f186 B (zW  r) I' ag m'->T 56 B Q .ret I' ag m')->J Tryz.prog 56 B (nav (bodyOf f186) [1,0,1,0]) Q I [hB b (cAccess a0 p c)] [(1,vI ae),(2,vP b 0),(5,vI i)]:=by
 refine tS.partial_correctness a0 ae _ λaJ ih i o N B I0 I Q p c b H h hg ho hx hr=>yX hg ho<|yC<|yD<|yQ [0] [10] rfl<|zK<|yH N ?_ ?_
 ·intro hc N;refine zT<|yA<|yL<|yC ?_;refine vQ N [hB b (cAccess a0 p c)] (λt29=>[(1,vI ae),(2,vP b 0),(5,vI i),(29,.bool t29)]) (λo0 aA=>?_) ?_
  ·have H:=iS I;refine zL<|yG 3 [0] [14,15] rfl ?_;obtain⟨x,hy,N⟩:=zB aA;refine xW rfl rfl h hy ?_;intro ad aN aq am;obtain⟨p1,c1,rfl,h1⟩:=yI am;refine xM 0 aq (cAff x p1 c1) (vA (cAff x p1 c1)) rfl<|bE N λy az N=>tA (fK x _ az h1) ?_;intro aP le;have ⟨h,H⟩:=m2 le h H;refine yG 8 [] [20] rfl<|wR [20] N ?_ ?_
   ·intro aH N;exact wM [] [(29,vY)]<|yZ<|zU (ct N H)
   intro aH N;refine yG 11 [0] [22,23] rfl<|bE N λx1 aG N=>xW rfl rfl h aG ?_;intro ad1 bq aw ay;obtain⟨p2,c2,rfl,h3⟩:=yI ay;refine xM 0 aw (cAff x1 p2 c2) (vA (cAff x1 p2 c2)) rfl<|bE N λy1 bh N=>dC (zBV x1 _ bh h3) ?_;intro aW aa;have H:=H.trans aa;exact yQ [] [29] rfl<|yZ<|zU (ct N H)
  intro t29 I0 aC aX;have ⟨h,H⟩:=m2 aC h H;refine zK<|yH aX ?_ ?_
  ·intro ba N;exact wZ [(4,vF)]<|xH<|zV<|zJ<|zJ<|hr _ _ _ _ (zE N).symm H ⟨_,_,(resT rfl),zO,⟨_,rfl,rfl,rfl⟩⟩
  intro ba N;exact zT<|zN<|zK<|zL<|yQ [] [5] rfl<|yV<|nX<|ih (W (i+1)) _ N H h hg ho hx hr
 intro hc N;exact wW<|yZ<|hx _  (zE N).symm H
def nV(a0:zM)(ae:Int):Option (Bool):=do
 match<-tS a0 ae 0 with
 | .ret r0=>pure r0
 | .done _=>
  let t4<-(do
   if((a0.Array.l.length:Int)==1) then
    if(!(Op.bytesLess a0.Array.l ([65]:List UInt8))) then
     if(Op.bytesLess a0.Array.l ([68]:List UInt8)||a0.Array.l==([68]:List UInt8)) then
      if(decide ((a0.Subs.length:Int)>=1)) then pure (decide ((a0.Subs.length:Int)<=2))
      else pure false
     else pure false
    else pure false
   else
    pure false
     : Option Bool)
  pure (id t4)
theorem zCs:∀a0 ae r,nV a0 ae=some r->∀{I:Imm}{p c},(S4 I p a0.Subs c)->RT 186 [vA (cAccess a0 p c),vI ae] I [] (zW  r):=by
 intro a0 ae r N I p c h;unfold nV at N;refine yM func186 λB=>?_;have H:=iS I;refine yD<|vC (cAccess a0 p c) ?_;intro b hb;refine wM [] []<|yA<|yK [5] rfl<|wN<|qX [(1,vI ae),(2,vP b 0),(5,vI 0)] ?_;obtain⟨aU,aB,aE⟩:=zB N;refine zEc a0 ae 0 aU aB iR h nG nO ?_ ?_
 ·intro bx  heq1 aI;subst aU;have H:=H.trans aI;refine zS<|zK<|yC ?_;refine vQ aE [] (λt4=>[(4,.bool t4)]) (λo02 ho02=>?_) ?_
  ·have H:=iS bx;refine zL<|yG 5 [0] [34] rfl<|wR [34] ho02 ?_ ?_
   ·intro bD N;refine yG 10 [0] [39] rfl<|wR [39] N ?_ ?_
    ·intro bJ N;refine yG 15 [0] [44] rfl<|wR [44] N ?_ ?_
     ·intro hc5 N;refine yG 21 [0] [50] rfl<|wR [50] N ?_ ?_
      ·intro hc6 N;exact yQ [0] [4] rfl<|wK zO<|yZ<|zU (ct N H)
      intro hc6 N;exact wM [] [(4,vF)]<|wK zO<|yZ<|zU (ct N H)
     intro hc5 N;exact wM [] [(4,vF)]<|wK zO<|yZ<|zU (ct N H)
    intro bJ N;exact wM [] [(4,vF)]<|wK zO<|yZ<|zU (ct N H)
   intro bD N;exact wM [] [(4,vF)]<|wK zO<|yZ<|zU (ct N H)
  intro t4 bG aY hMc1;refine zK<|xD ?_;obtain rfl:=zE hMc1;exact vH
 intro r0 I9 hs9 m9 aT le9 aV;subst aT;refine zV<|zJ ?_;obtain rfl:=zE aE;exact jW aV
end Go.LN
