/- Helper of the proof (see the last text). -/
import Derived.Test.YtndncjnhabjnbaaGreatHM1
set_option linter.unusedVariables false
set_option linter.unusedSimpArgs false
namespace Go.LN
open Go.Proofs Go.Proofs.Tryz
set_option maxRecDepth 20000
def fJ(b0:Nat)(r:zD×zL):KT:=λkk I' ah v=>
 ∃v0 k0,ah=[.blk b0 ⟨k0⟩]/\v=tupV [v0]/\(∃cs,v0=.agg ⟨cs⟩/\Rp.rep I' cs r.1)/\Rp.rep I' k0 r.2
def qV(r0:zL)(p1:zD):Option (zD×zL):=do
 let y<-qB p1
 let (y2,y3)<-yW r0 60
 let (Arrays,Parts,x)<-(do
  if(y2==0) then
   let (y5,y6)<-oR y3 ([(⟨[65]⟩:Str),(⟨[68]⟩:Str),(⟨[69]⟩:Str)]:List Str)
   let (y8,y9)<-yV y6 ([7,0,3,(-1)]:List Int)
   let l<-app 40 y.Arrays ([(zG.mk y5 ([y8]:List Int))]:List zG)
   pure (l,y.Parts,y9)
  else
   let (av,aX,x1)<-(do
    if(y2==1) then
     let (Arrays2,x2)<-(do
      if(decide ((y.Arrays.length:Int)>0)) then
       let (y11,y12)<-yV y3 ([1,2,7]:List Int)
       let x3<-idx y.Arrays 0
       let l1<-pure (y.Arrays.set (0:Int).toNat (zG.mk x3.Name ([y11]:List Int)))
       pure (l1,y12)
      else
       pure (y.Arrays,y3)
        : Option (List zG×zL))
     pure (Arrays2,y.Parts,x2)
    else
     let (Parts2,x4)<-(do
      if(y2==2) then
       let (Parts3,x5)<-(do
        if(decide ((y.Parts.length:Int)>0)) then
         let x6<-idx y.Parts 0
         let (y14,y15)<-oT y3 x6.Nest
         let (y17,y18)<-oT y15 y14
         let (y20,y21)<-oT y18 y17
         let x7<-idx y.Parts 0
         let l2<-pure (y.Parts.set (0:Int).toNat (zN.mk y20 x7.Body))
         pure (l2,y21)
        else
         pure (y.Parts,y3)
          : Option (List zN×zL))
       pure (Parts3,x5)
      else
       let (Parts4,x8)<-(do
        if(y2==3) then
         let t76<-(do
          if(decide ((y.Parts.length:Int)>0)) then
           let x9<-idx y.Parts (W ((y.Parts.length:Int) - 1))
           pure (decide ((x9.Body.length:Int)>0))
          else
           pure false
            : Option Bool)
         let (Parts5,x10)<-(do
          if t76 then
           let x11<-idx y.Parts (W ((y.Parts.length:Int) - 1))
           let x12<-idx x11.Body 0
           let (y22,y23)<-sG y3 x12
           let (y24,y25)<-sG y23 y22
           let (y26,y27)<-sG y25 y24
           let l3<-pure ((y.Parts).set (W ((y.Parts.length:Int) - 1)).toNat (zN.mk x11.Nest (x11.Body.set 0 y26)))
           pure (l3,y27)
          else
           pure (y.Parts,y3)
            : Option (List zN×zL))
         pure (Parts5,x10)
        else
         let Parts6<-(do
          if(y2==4) then
           let Parts7<-(do
            if(decide ((y.Parts.length:Int)>0)) then
             let x13<-idx y.Parts (W ((y.Parts.length:Int) - 1))
             let l4<-pure (y.Parts.set (W ((y.Parts.length:Int) - 1)).toNat (zN.mk x13.Nest ([]:List zQ)))
             pure (id l4)
            else
             pure y.Parts
              : Option (List zN))
           pure (id Parts7)
          else
           pure y.Parts
            : Option (List zN))
         pure (Parts6,y3)
          : Option (List zN×zL))
       pure (Parts4,x8)
        : Option (List zN×zL))
     pure (y.Arrays,Parts2,x4)
      : Option (List zG×List zN×zL))
   pure (av,aX,x1)
    : Option (List zG×List zN×zL))
 pure ((zD.mk Arrays Parts),x)
theorem zDV:∀(r0:zL) (p1:zD) r,qV r0 p1=some r->∀{I:Imm}{aq:Nat}{p c p2 c1 p3 c2},(S4 I p r0.b c)->(S4 I p2 p1.Arrays c1)->(S4 I p3 p1.Parts c2)->(∀(y:zD) (y2:Int) (y3:zL) (x:zN) (s:zQ),qB p1=some y->yW r0 60=some (y2,y3)->(y2==3)=true->idx y.Parts (W ((y.Parts.length:Int) - 1))=some x->idx x.Body 0=some s->False)->RT 40 [vP aq 0,vA (cProg p1 p2 c1 p3 c2)] I [hB aq (cRd r0 p c)] (fJ aq r):=by
 intro r0 p1 r N I aq p c p2 c1 p3 c2 h h1 h2 hne;unfold qV at N;refine yJ func40 λB=>?_;have H:=iS I;refine yE<|uH (cProg p1 p2 c1 p3 c2) ?_;intro b hb;refine uB zTwo ?_;intro b1 hb1;refine yC rfl<|xA<|qA 1 [1] [(7,vA (cProg p1 p2 c1 p3 c2))]<|bE N λy hy N=>xO (zFs p1 _ hy h1 h2) ?_;rintro I0 ax v2 k2 le - ⟨p4,c3,cs,p5,c4,aC,rfl,rfl,h3,h4⟩ -;have ⟨h,H⟩:=m2 le h H;refine uB zTwo ?_;intro b2 hb2;refine xP 0 (cProg y p4 c3 p5 c4) rfl<|yC rfl<|xA<|yI [0] [6] rfl<|zZ<|yE<|yF 1 [] [12] rfl<|qE (zX [5,0,1,2,3,4] (ah:=[hB aq (cRd r0 p c),hB b2 (cProg y p4 c3 p5 c4),hO zG (vS p4 y.Arrays c3) cs,hO zN (vS p5 y.Parts c4) aC,hB b1 zTwo,hB b (cProg p1 p2 c1 p3 c2)])) ?_;obtain⟨⟨y2,y3⟩,ay,N⟩:=zB N;refine rC (xR r0 60 _ ay h) rfl ?_;rintro aU ax v2 k2 af - ⟨v0,kk,rfl,rfl,rfl,h6⟩ -;have ⟨h3,h4,H⟩:=m3 af h3 h4 H;obtain⟨p6,c5,rfl,h7⟩:=yB h6;refine yC rfl<|wC<|yG [14] rfl<|zJ<|nO 5 rfl ?_;intro aQ aE hl0;have ap:At aQ ⟨b,0,none⟩ (cProg p1 p2 c1 p3 c2):=At.of_blk hl0;have ⟨h7,h3,h4,H⟩:=m4 aE h7 h3 h4 H;obtain⟨o0,aB,aN⟩:=zB N;refine pZ (λI' ah m'=>∃(Arrays:List zG) (Parts:List zN) (x:zL) (p7:Option Addr) (c6:Nat) (aO:List Value) (p8:Option Addr) (c7:Nat) (aT:List Value) (p9:Option Addr) (c8:Nat),o0=(Arrays,Parts,x)/\aQ.le I'/\(RL I' aO Arrays)/\(RL I' aT Parts)/\(S4 I' p9 x.b c8)/\ah=[hB aq (cRd x p9 c8),hB b2 [vS p7 Arrays c6,vS p8 Parts c7],hO zG (vS p7 Arrays c6) aO,hO zN (vS p8 Parts c7) aT,hB b1 zTwo]/\m'=[(4,vP b1 0),(5,vP b2 0)]) ?_ ?_
 ·have H:=iS aQ;refine yD aB ?_ ?_
  ·intro hc N;obtain⟨⟨y5,y6⟩,aJ,N⟩:=zB N;obtain⟨⟨y8,y9⟩,bb,N⟩:=zB N;obtain⟨l,bt,N⟩:=zB N;refine wX [.p (vP b2 0) [],.p (vS p4 y.Arrays c3) [0],.p (vP aq 0) [],.x (λI' v hx=>∃b3,v=vS (some ⟨b3,0,none⟩) ([(⟨[65]⟩:Str),(⟨[68]⟩:Str),(⟨[69]⟩:Str)]:List Str) 3/\hx=[]/\(SL I' (vS (some ⟨b3,0,none⟩) ([(⟨[65]⟩:Str),(⟨[68]⟩:Str),(⟨[69]⟩:Str)]:List Str) 3) ([(⟨[65]⟩:Str),(⟨[68]⟩:Str),(⟨[69]⟩:Str)]:List Str))),.x (λI' v hx=>∃aZ c9,v=vT y5.l/\hx=[hB aq (cRd y6 aZ c9)]/\(S4 I' aZ y6.b c9)),.p (vP aq 0) [],.x (λI' v hx=>∃b4,v=vS (some ⟨b4,0,none⟩) ([7,0,3,(-1)]:List Int) 4/\hx=[]/\(SL I' (vS (some ⟨b4,0,none⟩) ([7,0,3,(-1)]:List Int) 4) ([7,0,3,(-1)]:List Int))),.x (λI' v hx=>∃aV bh,v=vI y8/\hx=[hB aq (cRd y9 aV bh)]/\(S4 I' aV y9.b bh)),.x (λI' v hx=>∃b5,v=vS (some ⟨b5,0,none⟩) ([y8]:List Int) 1/\hx=[]/\(SL I' (vS (some ⟨b5,0,none⟩) ([y8]:List Int) 1) ([y8]:List Int))),.x (λI' v hx=>∃b51,v=vA [vT y5.l,vS (some ⟨b51,0,none⟩) ([y8]:List Int) 1]/\hx=[]/\(SL I' (vS (some ⟨b51,0,none⟩) ([y8]:List Int) 1) ([y8]:List Int))),.x (λI' v hx=>∃b6,v=vS (some ⟨b6,0,none⟩) ([(zG.mk y5 ([y8]:List Int))]:List zG) 1/\hx=[]/\(SL I' (vS (some ⟨b6,0,none⟩) ([(zG.mk y5 ([y8]:List Int))]:List zG) 1) ([(zG.mk y5 ([y8]:List Int))]:List zG))),.x (λI' v hx=>∃bB bj br,v=vS bB l bj/\hx=[hO zG (vS bB l bj) br]/\(RL I' br l))] [[],[(0,false)],[],[],[(2,false),(3,false),(14,true)],[],[],[(5,false),(6,false),(4,true)],[(7,false)],[(4,false),(8,false)],[(9,false)],[(1,false),(10,false),(15,true)]] [hB b2 (cProg y p4 c3 p5 c4),hO zN (vS p5 y.Parts c4) aC,hB b1 zTwo] [[hB aq (cRd y3 p6 c5)],[hO zG (vS p4 y.Arrays c3) cs]] [(7,true),(11,true)] (zX [1,3,4,0,2]) ?_ ?_
   ·refine Op<|Op<|Op<|Ox ?_<|Ox ?_<|Op<|Ox ?_<|Ox ?_<|Ox ?_<|Ox ?_<|Ox ?_<|Ox ?_<|On
    ·intro I1 hf af;refine dE [] ?_;have H:=iS I1;refine nV (rT [(⟨[65]⟩:Str),(⟨[68]⟩:Str),(⟨[69]⟩:Str)]) ?_;intro b3 bK aK h12;have H:=H.trans aK;exact yK [] H ⟨_,rfl,rfl,h12⟩
    ·rintro I1 hf af _ _ ⟨rfl,rfl⟩ _ _ ⟨b3,rfl,rfl,h12⟩ _ _ rfl;refine yP [18,19] rfl ?_;have H:=iS I1;have h7:=h7.mono af;refine rC (fY y3 ([(⟨[65]⟩:Str),(⟨[68]⟩:Str),(⟨[69]⟩:Str)]:List Str) _ aJ h7 h12) rfl ?_;rintro bO ax v2 k2 bi - ⟨v02,kk1,rfl,rfl,rfl,h14⟩ -;have H:=H.trans bi;obtain⟨aZ,c9,rfl,h15⟩:=yB h14;exact yK [hB aq (cRd y6 aZ c9)] H ⟨_,_,rfl,rfl,h15⟩
    ·intro I1 hf af;refine dE [] ?_;have H:=iS I1;refine nV (rI [7,0,3,(-1)]) ?_;intro b4 I06 bw h17;have H:=H.trans bw;exact yK [] H ⟨_,rfl,rfl,h17⟩
    ·rintro I1 hf af _ _ ⟨rfl,rfl⟩ _ _ ⟨b4,rfl,rfl,h17⟩ _ _ ⟨aZ,c9,rfl,rfl,h15⟩;refine yP [21,22] rfl ?_;have H:=iS I1;refine rC (xJ y6 ([7,0,3,(-1)]:List Int) _ bb h15 h17) rfl ?_;rintro I07 ax v2 k2 bD - ⟨v04,kk2,rfl,rfl,rfl,h19⟩ -;have H:=H.trans bD;obtain⟨aV,bh,rfl,h20⟩:=yB h19;exact yK [hB aq (cRd y9 aV bh)] H ⟨_,_,rfl,rfl,h20⟩
    ·rintro I1 hf af _ _ ⟨aV,bh,rfl,rfl,h20⟩;refine yP [23] rfl ?_;have H:=iS I1;refine nV (rI [y8]) ?_;intro b5 I08 le7 h22;have H:=H.trans le7;exact yK [] H ⟨_,rfl,rfl,h22⟩
    ·rintro I1 hf af _ _ ⟨aZ,c9,rfl,rfl,h15⟩ _ _ ⟨b5,rfl,rfl,h22⟩;exact yP [20,24] rfl<|rS 10 [(25,vA [vT y5.l,vS (some ⟨b5,0,none⟩) ([y8]:List Int) 1])]<|yK [] iR ⟨_,rfl,rfl,h22⟩
    ·rintro I1 hf af _ _ ⟨b51,rfl,rfl,h221⟩;refine yP [25] rfl ?_;have H:=iS I1;refine nV (rc (zG.mk y5 ([y8]:List Int)) (oQ ⟨_,rfl,h221⟩) rN) ?_;intro b6 I09 le8 h24;have H:=H.trans le8;exact yK [] H ⟨_,rfl,rfl,h24⟩
    rintro I1 hf af _ _ ⟨rfl,rfl⟩ _ _ ⟨b6,rfl,rfl,h24⟩ _ _ rfl;refine yP [17,26] rfl ?_;have h3:=iM af h3;obtain⟨aL,k0,k01⟩:=h24;have h24:SL I1 (vS (some ⟨b6,0,none⟩) ([(zG.mk y5 ([y8]:List Int))]:List zG) 1) ([(zG.mk y5 ([y8]:List Int))]:List zG):=⟨_,k0,k01⟩;exact pC 111 2 0 rfl rfl rfl h3 (.inl k0) k01 bt λbB bj br h25=>uW (ah:=(hO zG (vS bB l bj) br::hB b2 (cProg y p4 c3 p5 c4)::hO zN (vS p5 y.Parts c4) aC::hB b1 zTwo::hf)) rfl<|yK [hO zG (vS bB l bj) br] iR ⟨_,_,_,rfl,rfl,h25⟩
   rintro bR le9 _ _ ⟨aV,bh,rfl,rfl,h20⟩ _ _ ⟨bB,bj,br,rfl,rfl,h25⟩;refine yP [4,5,27] rfl ?_;have ⟨h4,H⟩:=m2 le9 h4 H;exact yF 13 [] [28] rfl<|xP 2 [vS bB l bj,vS p5 y.Parts c4] rfl<|yC rfl<|xV (zW [1,2,0,3,4] rfl (by decide))<|yN<|zT ⟨_,_,_,_,_,_,_,_,_,_,_,(zC N).symm,H,h25,h4,h20,rfl,rfl⟩
  intro hc N;refine yG [29] rfl<|zJ ?_;obtain⟨aM,aA,hMc1⟩:=zB N;refine pZ (λI' ah m'=>∃(av:List zG) (aX:List zN) (x1:zL) (bm:Option Addr) (bo:Nat) (bC:List Value) (p14:Option Addr) (bu:Nat) (cs6:List Value) (p15:Option Addr) (c14:Nat),aM=(av,aX,x1)/\aQ.le I'/\(RL I' bC av)/\(RL I' cs6 aX)/\(S4 I' p15 x1.b c14)/\ah=[hB aq (cRd x1 p15 c14),hB b2 [vS bm av bo,vS p14 aX bu],hO zG (vS bm av bo) bC,hO zN (vS p14 aX bu) cs6,hB b1 zTwo]/\m'=[(4,vP b1 0),(5,vP b2 0)]) ?_ ?_
  ·have H:=iS aQ;refine yD aA ?_ ?_
   ·intro aF N;refine yE<|yI [1] [34] rfl<|zJ ?_;obtain⟨o02,ho02,hMc2⟩:=zB N;refine pZ (λI' ah m'=>∃(Arrays2:List zG) (x2:zL) (p16:Option Addr) (c15:Nat) (cs7:List Value) (p17:Option Addr) (c16:Nat),o02=(Arrays2,x2)/\aQ.le I'/\(RL I' cs7 Arrays2)/\(S4 I' p17 x2.b c16)/\ah=[hB aq (cRd x2 p17 c16),hB b2 [vS p16 Arrays2 c15,vS p5 y.Parts c4],hO zG (vS p16 Arrays2 c15) cs7,hO zN (vS p5 y.Parts c4) aC,hB b1 zTwo]/\m'=[(4,vP b1 0),(5,vP b2 0)]) ?_ ?_
    ·have H:=iS aQ;refine yD ho02 ?_ ?_
     ·intro bd N;obtain⟨⟨y11,y12⟩,bH,N⟩:=zB N;refine wX [.p (vP b2 0) [],.p (vS p4 y.Arrays c3) [0],.p (vP aq 0) [],.x (λI' v hx=>∃b7,v=vS (some ⟨b7,0,none⟩) ([1,2,7]:List Int) 3/\hx=[]/\(SL I' (vS (some ⟨b7,0,none⟩) ([1,2,7]:List Int) 3) ([1,2,7]:List Int))),.x (λI' v hx=>∃p18 c17,v=vI y11/\hx=[hB aq (cRd y12 p18 c17)]/\(S4 I' p18 y12.b c17)),.x (λI' v hx=>∃b8,v=vS (some ⟨b8,0,none⟩) ([y11]:List Int) 1/\hx=[]/\(SL I' (vS (some ⟨b8,0,none⟩) ([y11]:List Int) 1) ([y11]:List Int)))] [[],[(0,false)],[],[],[(2,false),(3,false),(9,true)],[(4,false)]] [hB b2 (cProg y p4 c3 p5 c4),hO zG (vS p4 y.Arrays c3) cs,hO zN (vS p5 y.Parts c4) aC,hB b1 zTwo] [[hB aq (cRd y3 p6 c5)]] [(1,false),(4,true),(5,false)] (zX [1,2,3,4,0]) ?_ ?_
      ·refine Op<|Op<|Op<|Ox ?_<|Ox ?_<|Ox ?_<|On
       ·intro I1 hf af;refine dE [] ?_;have H:=iS I1;refine nV (rI [1,2,7]) ?_;intro b7 I013 le10 h32;have H:=H.trans le10;exact yK [] H ⟨_,rfl,rfl,h32⟩
       ·rintro I1 hf af _ _ ⟨rfl,rfl⟩ _ _ ⟨b7,rfl,rfl,h32⟩ _ _ rfl;refine yP [37,38] rfl ?_;have H:=iS I1;have h7:=h7.mono af;refine rC (xJ y3 ([1,2,7]:List Int) _ bH h7 h32) rfl ?_;rintro I014 ax v2 k2 le11 - ⟨v06,kk3,rfl,rfl,rfl,h34⟩ -;have H:=H.trans le11;obtain⟨p18,c17,rfl,h35⟩:=yB h34;exact yK [hB aq (cRd y12 p18 c17)] H ⟨_,_,rfl,rfl,h35⟩
       rintro I1 hf af _ _ ⟨p18,c17,rfl,rfl,h35⟩;refine yP [39] rfl ?_;have H:=iS I1;refine nV (rI [y11]) ?_;intro b8 I015 le12 h37;have H:=H.trans le12;exact yK [] H ⟨_,rfl,rfl,h37⟩
      rintro I016 le13 _ _ ⟨rfl,rfl⟩ _ _ ⟨p18,c17,rfl,rfl,h35⟩ _ _ ⟨b8,rfl,rfl,h37⟩;refine yP [4,5,36,40] rfl ?_;have ⟨h3,H⟩:=m2 le13 h3 H;obtain⟨x3,hy6,N⟩:=zB N;refine nA 2 rfl rfl rfl h3 hy6 ?_;intro ad bv ar bG al;obtain⟨p19,c18,rfl,h38⟩:=vU al;refine yF 8 [] [42] rfl ?_;obtain⟨l1,hy7,N⟩:=zB N;refine tW (c:=[vT x3.Name.l,vS (some ⟨b8,0,none⟩) ([y11]:List Int) 1]) (x':=(zG.mk x3.Name ([y11]:List Int))) 2 1 rfl rfl rfl ar rfl rfl bG (by kernel_rfl) (by kernel_rfl) (by kernel_rfl) h3 hy6 (by kernel_rfl) (oQ ⟨_,rfl,h37⟩) ?_;rw[show y.Arrays.set (0:Int).toNat (zG.mk x3.Name ([y11]:List Int))=l1 from zC hy7];intro cs8 h39 hl07;exact oZ (m':=[(4,vP b1 0),(5,vP b2 0),(40,vS (some ⟨b8,0,none⟩) ([y11]:List Int) 1)]) ⟨rfl,rfl,rfl,trivial⟩<|fX (ah:=[hB aq (cRd y12 p18 c17),hB b2 [vS p4 l1 c3,vS p5 y.Parts c4],hO zG (vS p4 l1 c3) cs8,hO zN (vS p5 y.Parts c4) aC,hB b1 zTwo]) (m':=[(4,vP b1 0),(5,vP b2 0),(40,vS (some ⟨b8,0,none⟩) ([y11]:List Int) 1)]) (by first|rfl|simp only[vS,hl07,cr,cU,cW,cQ,cH,cI]) (by first|rfl|simp only[vS,hl07])<|yC rfl<|yN<|zT ⟨_,_,_,_,_,_,_,(zC N).symm,H,h39,h35,rfl,rfl⟩
     intro bd N;exact zU<|yN<|zT ⟨_,_,_,_,_,_,_,(zC N).symm,H,h3,h7,rfl,rfl⟩
    rintro bU ax m2 ⟨Arrays2,x2,p16,c15,cs7,p17,c16,heq,le14,h29,h30,rfl,rfl⟩;subst o02;have ⟨h4,H⟩:=m2 le14 h4 H;exact yN<|zT ⟨_,_,_,_,_,_,_,_,_,_,_,(zC hMc2).symm,H,h29,h4,h30,rfl,rfl⟩
   intro aF N;refine yG [43] rfl<|zJ ?_;obtain⟨o03,ho03,hMc3⟩:=zB N;refine pZ (λI' ah m'=>∃(Parts2:List zN) (x4:zL) (p20:Option Addr) (c19:Nat) (cs9:List Value) (p21:Option Addr) (c20:Nat),o03=(Parts2,x4)/\aQ.le I'/\(RL I' cs9 Parts2)/\(S4 I' p21 x4.b c20)/\ah=[hB aq (cRd x4 p21 c20),hB b2 [vS p4 y.Arrays c3,vS p20 Parts2 c19],hO zG (vS p4 y.Arrays c3) cs,hO zN (vS p20 Parts2 c19) cs9,hB b1 zTwo]/\m'=[(4,vP b1 0),(5,vP b2 0)]) ?_ ?_
   ·have H:=iS aQ;refine yD ho03 ?_ ?_
    ·intro bI N;refine yG [46] rfl<|zJ ?_;obtain⟨o04,ho04,hMc4⟩:=zB N;refine pZ (λI' ah m'=>∃(Parts3:List zN) (x5:zL) (p22:Option Addr) (c21:Nat) (cs10:List Value) (p23:Option Addr) (c22:Nat),o04=(Parts3,x5)/\aQ.le I'/\(RL I' cs10 Parts3)/\(S4 I' p23 x5.b c22)/\ah=[hB aq (cRd x5 p23 c22),hB b2 [vS p4 y.Arrays c3,vS p22 Parts3 c21],hO zG (vS p4 y.Arrays c3) cs,hO zN (vS p22 Parts3 c21) cs10,hB b1 zTwo]/\m'=[(4,vP b1 0),(5,vP b2 0)]) ?_ ?_
     ·have H:=iS aQ;refine yD ho04 ?_ ?_
      ·intro bN N;obtain⟨x6,hy8,N⟩:=zB N;obtain⟨⟨y14,y15⟩,hy9,N⟩:=zB N;obtain⟨⟨y17,y18⟩,hy10,N⟩:=zB N;obtain⟨⟨y20,y21⟩,hy11,N⟩:=zB N;refine wX [.p (vP b2 1) [],.p (vS p5 y.Parts c4) [0],.p (vP aq 0) [],.p (vP aq 0) [],.p (vP aq 0) [],.p (vP b2 1) [],.p (vS p5 y.Parts c4) [0],.x (λI' v hx=>∃ad1 p24 c23 p25 c24,v=.pointer (some ad1)/\hx=[]/\(AtO (vS p5 y.Parts c4) (Rp.sz zN) (0:Int).toNat ad1)/\((aC.drop ((0:Int).toNat*Rp.sz zN)).take (Rp.sz zN)=(cPart x6 p24 c23 p25 c24))/\(S4 I' p24 x6.Nest c23)/\(S4 I' p25 x6.Body c24)),.x (λI' v hx=>∃ad11 p241 c231 p251 c241,v=.pointer (some ad11)/\hx=[]/\(AtO (vS p5 y.Parts c4) (Rp.sz zN) (0:Int).toNat ad11)/\((aC.drop ((0:Int).toNat*Rp.sz zN)).take (Rp.sz zN)=(cPart x6 p241 c231 p251 c241))/\(S4 I' p241 x6.Nest c231)/\(S4 I' p251 x6.Body c241)),.x (eS x6.Nest),.x (λI' v hx=>∃p26 c25 p27 c26,v=vS p26 y14 c25/\hx=[hB aq (cRd y15 p27 c26)]/\(S4 I' p26 y14 c25)/\(S4 I' p27 y15.b c26)),.x (λI' v hx=>∃p28 c27 p29 c28,v=vS p28 y17 c27/\hx=[hB aq (cRd y18 p29 c28)]/\(S4 I' p28 y17 c27)/\(S4 I' p29 y18.b c28)),.x (λI' v hx=>∃p30 c29 p31 c30,v=vS p30 y20 c29/\hx=[hB aq (cRd y21 p31 c30)]/\(S4 I' p30 y20 c29)/\(S4 I' p31 y21.b c30))] [[],[(0,false)],[],[],[],[],[(5,false)],[(6,false)],[(7,false)],[(8,false)],[(4,false),(9,false),(16,true)],[(3,false),(10,true)],[(2,false),(11,true)]] [hB b2 (cProg y p4 c3 p5 c4),hO zG (vS p4 y.Arrays c3) cs,hO zN (vS p5 y.Parts c4) aC,hB b1 zTwo] [[hB aq (cRd y3 p6 c5)]] [(1,false),(12,true)] (zX [1,2,3,4,0]) ?_ ?_
       ·refine Op<|Op<|Op<|Op<|Op<|Op<|Op<|Ox ?_<|Ox ?_<|Ox ?_<|Ox ?_<|Ox ?_<|Ox ?_<|On
        ·intro I1 hf af;refine yP [53] rfl ?_;have h4:=iM af h4;refine nA 2 rfl rfl rfl h4 hy8 ?_;intro ad1 bM aP hcc1 az;obtain⟨p24,c23,p25,c24,rfl,h44,h45⟩:=tB az;exact yK [] iR ⟨_,_,_,_,_,rfl,rfl,aP,hcc1,h44,h45⟩
        ·rintro I1 hf af _ _ ⟨ad1,p24,c23,p25,c24,rfl,rfl,aP,hcc1,h44,h45⟩;exact yP [54] rfl<|rS 9 [(55,.pointer (some ad1))]<|yK [] iR ⟨_,_,_,_,_,rfl,rfl,aP,hcc1,h44,h45⟩
        ·rintro I1 hf af _ _ ⟨ad11,p241,c231,p251,c241,rfl,rfl,hat21,hcc11,h441,h451⟩;exact yP [55] rfl<|zCJ 2 0 hat21 hcc11 [vS p241 x6.Nest c231] (vS p241 x6.Nest c231) rfl rfl<|yK [] iR ⟨_,_,rfl,rfl,h441⟩
        ·rintro I1 hf af _ _ ⟨rfl,rfl⟩ _ _ ⟨p2411,c2311,rfl,rfl,h4411⟩ _ _ rfl;refine yP [51,56] rfl ?_;have H:=iS I1;have h7:=h7.mono af;refine rC (fZ y3 x6.Nest _ hy9 h7 h4411) rfl ?_;rintro I019 ax v2 k2 le15 - ⟨v011,kk4,rfl,rfl,h46,h47⟩ -;have H:=H.trans le15;obtain⟨p26,c25,rfl⟩:=h46.form;obtain⟨p27,c26,rfl,h48⟩:=yB h47;exact yK [hB aq (cRd y15 p27 c26)] H ⟨_,_,_,_,rfl,rfl,h46,h48⟩
        ·rintro I1 hf af _ _ ⟨rfl,rfl⟩ _ _ ⟨p26,c25,p27,c26,rfl,rfl,h46,h48⟩;refine yP [50,57] rfl ?_;have H:=iS I1;refine rC (fZ y15 y14 _ hy10 h48 h46) rfl ?_;rintro I020 ax v2 k2 le16 - ⟨v013,kk5,rfl,rfl,h49,h50⟩ -;have H:=H.trans le16;obtain⟨p28,c27,rfl⟩:=h49.form;obtain⟨p29,c28,rfl,h51⟩:=yB h50;exact yK [hB aq (cRd y18 p29 c28)] H ⟨_,_,_,_,rfl,rfl,h49,h51⟩
        rintro I1 hf af _ _ ⟨rfl,rfl⟩ _ _ ⟨p28,c27,p29,c28,rfl,rfl,h49,h51⟩;refine yP [49,58] rfl ?_;have H:=iS I1;refine rC (fZ y18 y17 _ hy11 h51 h49) rfl ?_;rintro I021 ax v2 k2 le17 - ⟨v015,kk6,rfl,rfl,h52,h53⟩ -;have H:=H.trans le17;obtain⟨p30,c29,rfl⟩:=h52.form;obtain⟨p31,c30,rfl,h54⟩:=yB h53;exact yK [hB aq (cRd y21 p31 c30)] H ⟨_,_,_,_,rfl,rfl,h52,h54⟩
       rintro I022 le18 _ _ ⟨rfl,rfl⟩ _ _ ⟨p30,c29,p31,c30,rfl,rfl,h52,h54⟩;refine yP [4,5,48,59] rfl ?_;have ⟨h4,H⟩:=m2 le18 h4 H;obtain⟨x7,hy12,N⟩:=zB N;refine nA 3 rfl rfl rfl h4 hy12 ?_;intro ad2 ccs3 hat3 hcc2 aW;obtain⟨p32,c31,p33,c32,rfl,h55,h56⟩:=tB aW;refine yF 15 [] [61] rfl ?_;obtain⟨l2,hy13,N⟩:=zB N;refine tW (c:=[vS p30 y20 c29,vS p33 x7.Body c32]) (x':=(zN.mk y20 x7.Body)) 3 0 rfl rfl rfl hat3 rfl rfl hcc2 (by kernel_rfl) (by kernel_rfl) (by kernel_rfl) h4 hy12 (by kernel_rfl) (rB ⟨_,_,rfl,h52,h56⟩) ?_;rw[show y.Parts.set (0:Int).toNat (zN.mk y20 x7.Body)=l2 from zC hy13];intro cs11 h57 hl08;exact oZ (m':=[(4,vP b1 0),(5,vP b2 0),(59,vS p30 y20 c29)]) ⟨rfl,rfl,rfl,trivial⟩<|fX (ah:=[hB aq (cRd y21 p31 c30),hB b2 [vS p4 y.Arrays c3,vS p5 l2 c4],hO zG (vS p4 y.Arrays c3) cs,hO zN (vS p5 l2 c4) cs11,hB b1 zTwo]) (m':=[(4,vP b1 0),(5,vP b2 0),(59,vS p30 y20 c29)]) (by first|rfl|simp only[vS,hl08,cr,cU,cW,cQ,cH,cI]) (by first|rfl|simp only[vS,hl08])<|yC rfl<|yN<|zT ⟨_,_,_,_,_,_,_,(zC N).symm,H,h57,h54,rfl,rfl⟩
      intro bN N;exact zU<|yN<|zT ⟨_,_,_,_,_,_,_,(zC N).symm,H,h4,h7,rfl,rfl⟩
     rintro I018 ax m2 ⟨Parts3,x5,p22,c21,cs10,p23,c22,heq1,le19,h42,h43,rfl,rfl⟩;subst o04;have H:=H.trans le19;exact yN<|zT ⟨_,_,_,_,_,_,_,(zC hMc4).symm,H,h42,h43,rfl,rfl⟩
    intro bI N;refine yG [62] rfl<|zJ ?_;obtain⟨o05,ho05,hMc5⟩:=zB N;refine pZ (λI' ah m'=>∃(Parts4:List zN) (x8:zL) (p34:Option Addr) (c33:Nat) (cs12:List Value) (p35:Option Addr) (c34:Nat),o05=(Parts4,x8)/\aQ.le I'/\(RL I' cs12 Parts4)/\(S4 I' p35 x8.b c34)/\ah=[hB aq (cRd x8 p35 c34),hB b2 [vS p4 y.Arrays c3,vS p34 Parts4 c33],hO zG (vS p4 y.Arrays c3) cs,hO zN (vS p34 Parts4 c33) cs12,hB b1 zTwo]/\m'=[(4,vP b1 0),(5,vP b2 0)]) ?_ ?_
    ·have H:=iS aQ;refine yD ho05 ?_ ?_
     ·intro hc5 N;refine yA ?_;refine wE N [hB aq (cRd y3 p6 c5),hB b2 (cProg y p4 c3 p5 c4),hO zG (vS p4 y.Arrays c3) cs,hO zN (vS p5 y.Parts c4) aC,hB b1 zTwo] (λt76=>[(0,vP aq 0),(4,vP b1 0),(5,vP b2 0),(6,vI (y.Parts.length:Int)),(76,.bool t76)]) (λo06 ho06=>?_) ?_
      ·have H:=iS aQ;refine zK<|yF 3 [] [66] rfl<|xW [66] ho06 ?_ ?_
       ·intro hc6 N;refine yF 7 [1] [68,70] rfl<|bE N λx9 hy14 N=>nA 3 rfl rfl rfl h4 hy14 ?_;intro ad3 ccs4 hat4 hcc3 bq;obtain⟨p36,c35,p37,c36,rfl,h60,h61⟩:=tB bq;exact yF 9 [] [72] rfl<|zCJ 3 1 hat4 hcc3 [vS p37 x9.Body c36] (vS p37 x9.Body c36) rfl rfl<|yI [] [76] rfl<|yN<|zT (ct N H)
       intro hc6 N;exact wG [] [(76,vF)]<|yN<|zT (ct N H)
      intro t76 I024 le20 hMc6;have ⟨h7,h4,H⟩:=m3 le20 h7 h4 H;refine zJ ?_;obtain⟨o07,ho07,hMc7⟩:=zB hMc6;refine pZ (λI' ah m'=>∃(Parts5:List zN) (x10:zL) (p38:Option Addr) (c37:Nat) (cs13:List Value) (p39:Option Addr) (c38:Nat),o07=(Parts5,x10)/\I024.le I'/\(RL I' cs13 Parts5)/\(S4 I' p39 x10.b c38)/\ah=[hB aq (cRd x10 p39 c38),hB b2 [vS p4 y.Arrays c3,vS p38 Parts5 c37],hO zG (vS p4 y.Arrays c3) cs,hO zN (vS p38 Parts5 c37) cs13,hB b1 zTwo]/\m'=[(4,vP b1 0),(5,vP b2 0)]) ?_ ?_
      ·have H:=iS I024;refine yD ho07 ?_ ?_
       ·intro hc7 N;obtain⟨x11,hy15,N⟩:=zB N;obtain⟨x12,hy16,N⟩:=zB N;obtain⟨⟨y22,y23⟩,hy17,N⟩:=zB N;obtain⟨⟨y24,y25⟩,hy18,N⟩:=zB N;obtain⟨⟨y26,y27⟩,hy19,N⟩:=zB N;obtain⟨l3,hy20,N⟩:=zB N;have hF:False:=hne _ _ _ _ _ (by assumption) (by assumption) (by assumption) hy15 hy16;obtain⟨p40,c39,cs14,p41,c40,h64,h65⟩:∃p40 c39 cs14 p41 c40,(RL I024 cs14 l3)/\(S4 I024 p41 y27.b c40):=hF.elim;exact zLO hF (ak:=I024) (ah:=[hB aq (cRd y27 p41 c40),hB b2 [vS p4 y.Arrays c3,vS p40 l3 c39],hO zG (vS p4 y.Arrays c3) cs,hO zN (vS p40 l3 c39) cs14,hB b1 zTwo]) (m':=[(0,vP aq 0),(4,vP b1 0),(5,vP b2 0),(6,vI (y.Parts.length:Int)),(76,.bool t76)])<|yN<|zT ⟨_,_,_,_,_,_,_,(zC N).symm,H,h64,h65,rfl,rfl⟩
       intro hc7 N;exact zU<|yN<|zT ⟨_,_,_,_,_,_,_,(zC N).symm,H,h4,h7,rfl,rfl⟩
      rintro I025 ax m2 ⟨Parts5,x10,p38,c37,cs13,p39,c38,heq3,le21,h62,h63,rfl,rfl⟩;subst o07;have H:=H.trans le21;exact yN<|zT ⟨_,_,_,_,_,_,_,(zC hMc7).symm,H,h62,h63,rfl,rfl⟩
     intro hc5 N;refine yG [100] rfl<|zJ ?_;obtain⟨o08,ho08,hMc8⟩:=zB N;refine pZ (λI' ah m'=>∃(Parts6:List zN) (p42:Option Addr) (c41:Nat) (cs15:List Value),o08=Parts6/\aQ.le I'/\(RL I' cs15 Parts6)/\ah=[hB aq (cRd y3 p6 c5),hB b2 [vS p4 y.Arrays c3,vS p42 Parts6 c41],hO zG (vS p4 y.Arrays c3) cs,hO zN (vS p42 Parts6 c41) cs15,hB b1 zTwo]/\m'=[(4,vP b1 0),(5,vP b2 0)]) ?_ ?_
     ·have H:=iS aQ;refine yD ho08 ?_ ?_
      ·intro hc8 N;refine yG [103] rfl<|zJ ?_;obtain⟨o09,ho09,hMc9⟩:=zB N;refine pZ (λI' ah m'=>∃(Parts7:List zN) (p43:Option Addr) (c42:Nat) (cs16:List Value),o09=Parts7/\aQ.le I'/\(RL I' cs16 Parts7)/\ah=[hB aq (cRd y3 p6 c5),hB b2 [vS p4 y.Arrays c3,vS p43 Parts7 c42],hO zG (vS p4 y.Arrays c3) cs,hO zN (vS p43 Parts7 c42) cs16,hB b1 zTwo]/\m'=[(4,vP b1 0),(5,vP b2 0)]) ?_ ?_
       ·have H:=iS aQ;refine yD ho09 ?_ ?_
        ·intro hc9 N;refine zK<|yF 4 [1] [105,107] rfl<|bE N λx13 hy21 N=>nA 3 rfl rfl rfl h4 hy21 ?_;intro ad4 ccs5 hat5 hcc4 hrep4;obtain⟨p44,c43,p45,c44,rfl,h68,h69⟩:=tB hrep4;refine yF 6 [] [109] rfl ?_;obtain⟨l4,hy22,N⟩:=zB N;refine tW (c:=[vS p44 x13.Nest c43,z0]) (x':=(zN.mk x13.Nest ([]:List zQ))) 3 1 rfl rfl rfl hat5 rfl rfl hcc4 (by kernel_rfl) (by kernel_rfl) (by kernel_rfl) h4 hy21 (by kernel_rfl) (rB ⟨_,_,rfl,h68,(SL.nil _)⟩) ?_;rw[show y.Parts.set (W ((y.Parts.length:Int) - 1)).toNat (zN.mk x13.Nest ([]:List zQ))=l4 from zC hy22];intro cs17 h70 hl09;exact oZ (m':=[(4,vP b1 0),(5,vP b2 0)]) ⟨rfl,rfl,trivial⟩<|fX (ah:=[hB aq (cRd y3 p6 c5),hB b2 [vS p4 y.Arrays c3,vS p5 l4 c4],hO zG (vS p4 y.Arrays c3) cs,hO zN (vS p5 l4 c4) cs17,hB b1 zTwo]) (m':=[(4,vP b1 0),(5,vP b2 0)]) (by first|rfl|simp only[vS,hl09,cr,cU,cW,cQ,cH,cI]) (by first|rfl|simp only[vS,hl09])<|yC rfl<|yN<|zT ⟨_,_,_,_,(zC N).symm,H,h70,rfl,rfl⟩
        intro hc9 N;exact zU<|yN<|zT ⟨_,_,_,_,(zC N).symm,H,h4,rfl,rfl⟩
       rintro I027 ax m2 ⟨Parts7,p43,c42,cs16,heq4,le22,h67,rfl,rfl⟩;subst o09;have H:=H.trans le22;exact yN<|zT ⟨_,_,_,_,(zC hMc9).symm,H,h67,rfl,rfl⟩
      intro hc8 N;exact zU<|yN<|zT ⟨_,_,_,_,(zC N).symm,H,h4,rfl,rfl⟩
     rintro I026 ax m2 ⟨Parts6,p42,c41,cs15,heq5,le23,h66,rfl,rfl⟩;subst o08;have ⟨h7,H⟩:=m2 le23 h7 H;exact yN<|zT ⟨_,_,_,_,_,_,_,(zC hMc8).symm,H,h66,h7,rfl,rfl⟩
    rintro I023 ax m2 ⟨Parts4,x8,p34,c33,cs12,p35,c34,heq6,le24,h58,h59,rfl,rfl⟩;subst o05;have H:=H.trans le24;exact yN<|zT ⟨_,_,_,_,_,_,_,(zC hMc5).symm,H,h58,h59,rfl,rfl⟩
   rintro I017 ax m2 ⟨Parts2,x4,p20,c19,cs9,p21,c20,heq7,le25,h40,h41,rfl,rfl⟩;subst o03;have ⟨h3,H⟩:=m2 le25 h3 H;exact yN<|zT ⟨_,_,_,_,_,_,_,_,_,_,_,(zC hMc3).symm,H,h3,h40,h41,rfl,rfl⟩
  rintro bV ax m2 ⟨av,aX,x1,bm,bo,bC,p14,bu,cs6,p15,c14,heq8,le26,h26,h27,h28,rfl,rfl⟩;subst aM;have H:=H.trans le26;exact yN<|zT ⟨_,_,_,_,_,_,_,_,_,_,_,(zC hMc1).symm,H,h26,h27,h28,rfl,rfl⟩
 rintro bz ax m2 ⟨Arrays,Parts,x,p7,c6,aO,p8,c7,aT,p9,c8,aR,le27,h8,h9,h10,rfl,rfl⟩;subst o0;refine zP<|xA<|qA 1 [1] [(110,vA [vS p7 Arrays c6,vS p8 Parts c7])]<|xP 4 [vS p7 Arrays c6,vS p8 Parts c7] rfl<|yC rfl<|xF<|xB 2 rfl ?_;intro I028 le28 hl010;have h71:=SL.of_frozen hl010 le28 h8;have ⟨h10,h9⟩:=m2 le28 h10 h9;refine xB 2 rfl ?_;intro I029 le29 hl011;have h72:=SL.of_frozen hl011 le29 h9;have ⟨h10,h71⟩:=m2 le29 h10 h71;obtain rfl:=zC aN;exact xC ⟨_,_,(.cell 2 rfl rfl (by kernel_rfl) ResV.nil),(zW [0] rfl (by decide)),⟨_,_,rfl,rfl,⟨_,rfl,(oK ⟨_,_,rfl,h71,h72⟩)⟩,(yU ⟨_,rfl,h10⟩)⟩⟩
theorem zCk(p:zD):∀(i1:Int) (Parts:List zN) (o:List zN),uJ p i1 Parts=some o->∀{B}{I0 I:Imm}{Q}{av:List zG}{p1 c p2 c1}{b:Nat}{b1:Nat}{b2:Nat}{p4 c3 aC p9 c8 br}{au:List Raw2}{pN pB:Option Addr}{cN cB:Nat}{nl:List zE}{bl:List zQ}{csB:List Value},I0.le I->(RL I aC av)->(S4 I p1 p.Arrays c)->(S4 I p2 p.Parts c1)->(RL I br au)->LP I au Parts (vS pN nl cN) nl (vS pB bl cB) bl->SL I (vS pN nl cN) nl->RL I csB bl->(∀l a w,¬Q (.goto l) a w)->(∀a w,¬Q .outgrown a w)->(∀(I':Imm) (aZ:Option Addr) (c9:Nat) (bC:List Value) (raws1:List Raw2) (pN pB:Option Addr) (cN cB:Nat) (nl:List zE) (bl:List zQ) (csB:List Value),I0.le I'->(RL I' bC raws1)->LP I' raws1 o (vS pN nl cN) nl (vS pB bl cB) bl->SL I' (vS pN nl cN) nl->RL I' csB bl->T 84 B Q (.exit 2) I' [hO zQ (vS pB bl cB) csB,hO Raw2 (vS aZ raws1 c9) bC,hO zG (vS p4 av c3) aC,hB b2 [vS p4 av c3,vS aZ raws1 c9],hB b1 zTwo] [(2,vP b1 0),(3,vP b2 0)])->J Tryz.prog 84 B (nav (bodyOf f71) [1,1,1,0,1,0]) Q I [hO zQ (vS pB bl cB) csB,hO Raw2 (vS p9 au c8) br,hO zG (vS p4 av c3) aC,hB b2 [vS p4 av c3,vS p9 au c8],hB b1 zTwo,hB b (cProg p p1 c p2 c1)] [(1,vP b 0),(2,vP b1 0),(3,vP b2 0),(5,vI i1)]:=by
 refine uJ.partial_correctness p _ λaI ih i1 Parts o N B I0 I Q av p1 c p2 c1 b b1 b2 p4 c3 aC p9 c8 br au pN pB cN cB nl bl csB H h4 h h1 hRw hLP hN hBd hg ho hx=>yR hg ho<|yA<|yE<|yI [5] [40] rfl<|zJ<|yD N ?_ ?_
 ·intro aF N;refine nO 0 rfl ?_;intro immf lef hlf;have kB:=SL.of_frozen hlf lef hBd;have ⟨h4,h,h1,hN,hRw,hLP⟩:=m6 lef h4 h h1 hN hRw hLP;have H:=H.trans lef;have h14:=hLP.done hN kB;rw[<- jI hRw] at h14;have eP:vS p9 au c8=vS p9 Parts c8:=by simp only[vS,hLP.2.1]
  rw[eP];clear hBd hlf;refine zU<|zZ<|yH<|yE<|yF 3 [4] [44,45] rfl<|bE N λx2 bt N=>xN rfl rfl h1 bt ?_;intro ad3 ccs4 hat3 aW;obtain⟨aV,bh,bB,bj,rfl,h16,h17⟩:=tB aW;refine yF 5 [] [47] rfl<|xE 0 hat3 [vS aV x2.Nest bh] (vS aV x2.Nest bh) rfl<|bE N λy bH N=>xO (zBd x2.Nest _ bH h16) ?_;rintro bK ax v2 k2 bi - ⟨v04,rfl,rfl,h18⟩ -;have ⟨h14,hRw,hLP,hN⟩:=m4 bi h14 hRw hLP hN;replace kB:=kB.mono bi;have ⟨h4,h,h1,H⟩:=m4 bi h4 h h1 H;obtain⟨bm,bo,rfl⟩:=h18.form;refine yF 8 [] [50] rfl<|uB zTwo ?_;intro b5 hb5;refine xP 0 [vS bm y bo,z0] rfl<|yC rfl<|zZ<|yG [7] rfl<|wC<|oA [(1,vP b 0),(2,vP b1 0),(3,vP b2 0),(5,vI i1),(6,vP b5 0),(7,vI 0)]<|dW zQ λh19=>?_;obtain⟨aM,aA,hMl1⟩:=zB N;refine zAU p i1 0 ([]:List zQ) aM aA iR h18 h14 h4 h h1 h19 (λ_ _ _ h=>hg _ _ _ h) (λ_ _ h=>ho _ _ h) ?_;intro bR bk p15 c14 cs7 heq1 le10 h21;subst aM;have ⟨h18,hRw,hLP,hN⟩:=m4 le10 h18 hRw hLP hN;replace kB:=kB.mono le10;have ⟨h4,h,h1,H⟩:=m4 le10 h4 h h1 H;obtain⟨l3,hy11,N⟩:=zB hMl1;have hy12:=zJn (l':=au) (m':=[(⟨vS bm y bo,vS p15 bk c14⟩:Raw2)]) hy11 hLP.2.1 rfl;have h40:RL bR [vS bm y bo,vS p15 bk c14] [(⟨vS bm y bo,vS p15 bk c14⟩:Raw2)]:=⟨[vS bm y bo,vS p15 bk c14],[],rfl,rfl,⟨rfl,rfl,rfl⟩,rfl⟩;refine zR<|zJ<|zK<|qA 3 [4,1] [(78,vS p9 Parts c8),(79,vA [vS bm y bo,vS p15 bk c14])]<|tU [vS bm y bo,vS p15 bk c14] Raw2 ?_;intro b7 hb7;refine pC (α:=Raw2) 70 2 3 rfl rfl rfl hRw (.inr ⟨0,rfl⟩) h40 hy12 ?_;intro p29 c28 cs11 h41;exact qE (zX [1,3,4,5,6,7] (ah:=[hO zQ (vS p15 bk c14) cs7,hO Raw2 (vS p29 (au++[(⟨vS bm y bo,vS p15 bk c14⟩:Raw2)]) c28) cs11,hO zG (vS p4 av c3) aC,hB b2 [vS p4 av c3,vS p9 Parts c8],hB b1 zTwo,hB b (cProg p p1 c p2 c1)]))<|yF 6 [] [82] rfl<|xP 3 [vS p4 av c3,vS p29 (au++[(⟨vS bm y bo,vS p15 bk c14⟩:Raw2)]) c28] rfl<|yC rfl<|zP<|zJ<|zK<|yI [] [5] rfl<|yS<|nU<|ih (W (i1+1)) l3 _ N H h4 h h1 h41 (hLP.push hN kB hy11) h18 h21 hg ho hx
 intro aF N;have:=zC N;simp only[id] at this;subst this;exact wZ<|xV (zW [0,1,2,3,4] rfl (by decide))<|yN<|hx _ _ _ _ _ _ _ _ _ _ _ _ H hRw hLP hN hBd
def zDW(r:zD):KT:=λkk I' ah v=>
 ∃(a0:Option Addr) (c0:Nat) (s0:List Value) (a1:Option Addr) (c1:Nat) (s1:List Value) (au:List Raw2) (pN pB:Option Addr) (cN cB:Nat) (nl:List zE) (bl:List zQ) (csB:List Value),ah=[hO zQ (vS pB bl cB) csB,hO Raw2 (vS a1 au c1) s1,hO zG (vS a0 r.Arrays c0) s0]/\v=tupV [vA [vS a0 r.Arrays c0,vS a1 au c1]]/\RL I' s0 r.Arrays/\RL I' s1 au/\LP I' au r.Parts (vS pN nl cN) nl (vS pB bl cB) bl/\SL I' (vS pN nl cN) nl/\RL I' csB bl
theorem zEz:∀(p:zD) r,qB p=some r->∀{I:Imm}{p1 c p2 c1},(S4 I p1 p.Arrays c)->(S4 I p2 p.Parts c1)->RT 71 [vA (cProg p p1 c p2 c1)] I [] (zDW r):=by
 intro p r N I p1 c p2 c1 h h1;unfold qB at N;refine yJ func71 λB=>yE<|uH (cProg p p1 c p2 c1) ?_;intro b hb;refine uB zTwo ?_;intro b1 hb1;refine yC rfl<|xA<|yF 1 [] [8] rfl<|uB zTwo ?_;intro b2 hb2;refine zEs 0 zTwo [hB b2 zTwo,hB b1 zTwo,hB b (cProg p p1 c p2 c1)] rfl rfl rfl rfl<|yC rfl<|zZ<|yG [4] rfl<|wC<|oA [(1,vP b 0),(2,vP b1 0),(3,vP b2 0),(4,vI 0)]<|dW zG λh2=>?_;obtain⟨o0,aB,aH⟩:=zB N;refine zAT p 0 ([]:List zG) o0 aB iR h h1 h2 (λ_ _ _ h=>h) (λ_ _ h=>h) ?_;intro bz av p4 c3 aC heq aK h4;subst o0;have ⟨h,h1⟩:=m2 aK h h1;refine zR<|zZ<|yG [5] rfl<|wC<|oA [(1,vP b 0),(2,vP b1 0),(3,vP b2 0),(5,vI 0)]<|jU (zB7 (Rp.sz Raw2))<|jU (zB7 (Rp.sz zQ)) ?_;obtain⟨o02,ho02,hMl2⟩:=zB aH;refine zCk p 0 ([]:List zN) o02 ho02 (au:=[]) (pN:=none) (pB:=none) (cN:=0) (cB:=0) (nl:=[]) (bl:=[]) iR h4 h h1 RepL.nil LP.nil (SL.nil _) RepL.nil (λ_ _ _ h=>h) (λ_ _ h=>h) ?_;intro bU aZ c9 bC raws1 pN pB cN cB nl bl csB le12 hRw hLP hN hBd;have h4:=iM le12 h4;obtain rfl:=zC hMl2;exact zR<|xA<|qA 1 [3] [(83,vA [vS p4 av c3,vS aZ raws1 c9])]<|xP 4 [vS p4 av c3,vS aZ raws1 c9] rfl<|yC rfl<|xF<|xC ⟨_,_,(.cell 4 rfl rfl (by kernel_rfl) ResV.nil),(zW [0,1,2] rfl (by decide)),⟨_,_,_,_,_,_,_,_,_,_,_,_,_,_,rfl,rfl,h4,hRw,hLP,hN,hBd⟩⟩
theorem zL0{au:List Raw2}{k:Nat}{r:Raw2}(h:au[k]?=some r):au.set k r=au:=by
 obtain⟨hk,e⟩:=ck.1 h;subst e;exact List.set_getElem_self hk
theorem zDX(r0:zL)(p1:zD)(r:zD×zL)(N:qV r0 p1=some r){y:zD}{y3:zL}{x:zN}{s:zQ}(hy:qB p1=some y)(ay:yW r0 60=some (3,y3))(hx:idx y.Parts (W ((y.Parts.length:Int) - 1))=some x)(hs:idx x.Body 0=some s):
 ∀{I:Imm}{aq:Nat}{p c p2 c1 p3 c2},(S4 I p r0.b c)->(S4 I p2 p1.Arrays c1)->(S4 I p3 p1.Parts c2)->RT 40 [vP aq 0,vA (cProg p1 p2 c1 p3 c2)] I [hB aq (cRd r0 p c)] (fJ aq r):=by
 intro I aq p c p2 c1' p3 c2 h h1 h2
 obtain⟨i0,i1,i2⟩:=uX hx
 obtain⟨j0,j1,j2⟩:=uX hs
 have hn:(y.Parts.length:Int)>0:=by
  have:=(ck.1 i2).1;omega
 have hb:(x.Body.length:Int)>0:=by
  have:=(ck.1 j2).1;omega
 have e0:((3:Int)==0)=false:=rfl
 have e1:((3:Int)==1)=false:=rfl
 have e2:((3:Int)==2)=false:=rfl
 have e3:((3:Int)==3)=true:=rfl
 unfold qV at N
 simp only[hy,ay,e0,e1,e2,e3,hn,hb,hx,hs,decide_true,if_true,cX,if_false,Option.pure_def,Option.bind_eq_bind,Option.bind_some] at N
 cases hm1:sG y3 s with
 | none=>rw[hm1] at N;cases N
 | some q1=>
 obtain⟨y22,y23⟩:=q1
 simp only[hm1,Option.bind_some] at N
 cases hm2:sG y23 y22 with
 | none=>rw[hm2] at N;cases N
 | some q2=>
 obtain⟨y24,y25⟩:=q2
 simp only[hm2,Option.bind_some] at N
 cases hm3:sG y25 y24 with
 | none=>rw[hm3] at N;cases N
 | some q3=>
 obtain⟨y26,y27⟩:=q3
 simp only[hm3,Option.bind_some,Option.some.injEq] at N
 subst N
 refine yJ func40 λB=>yE<|uH [vS p2 p1.Arrays c1',vS p3 p1.Parts c2] ?_
 intro b hb
 refine uB zTwo ?_
 intro b1 hb1
 refine yC rfl<|xA<|qA 1 [1] [(7,vA [vS p2 p1.Arrays c1',vS p3 p1.Parts c2])]<|xO (zEz p1 _ hy h1 h2) ?_
 rintro I0 ax v2 k2 le - ⟨a0,c0,s0,a1,c1,s1,au,pN,pB,cN,cB,nl,bl,csB,rfl,rfl,h3,hRw,hLP,hN,hBd⟩ -
 have h:=h.mono le
 clear h1 h2
 rw[hLP.len] at hx hn i0 i1 i2
 obtain⟨rfl,hraw,hset⟩:=hLP.last hx
 simp only at hs hb j0 j1 j2 hm1
 have hset:=hset (vS pN nl cN) nl (vS pB bl cB) (bl.set 0 y26)
 rw[zL0 (uX hraw).2.2] at hset
 refine uB zTwo ?_
 intro b2 hb2
 refine xP 0 [vS a0 y.Arrays c0,vS a1 au c1] rfl<|yC rfl<|xA<|yI [0] [6] rfl<|zZ<|yE<|yF 1 [] [12] rfl<|qE (zX [6,1,2,0,3,4] (ah:=[hB aq (cRd r0 p c),hO zQ (vS pB bl cB) csB,hO Raw2 (vS a1 au c1) s1,hB b2 [vS a0 y.Arrays c0,vS a1 au c1],hO zG (vS a0 y.Arrays c0) s0,hB b1 zTwo]))<|rC (xR r0 60 _ ay h) rfl ?_
 rintro aU ax v2 k2 af - ⟨v0,kk,rfl,rfl,rfl,h6⟩ -
 obtain⟨v01,rfl,h7⟩:=fH h6
 obtain⟨p6,c5,rfl⟩:=h7.form
 clear h6 h
 have h3:=iM af h3
 have hRw:=iM af hRw
 have hN:=hN.mono af
 have hBd:=iM af hBd
 have hset:=hset.mono af
 refine yC rfl<|wC<|yG [14] rfl<|zJ<|dJ rfl<|yG [29] rfl<|zJ<|dJ rfl<|yG [43] rfl<|zJ<|dJ rfl<|yG [62] rfl<|zJ<|zB6 rfl<|yE<|yF 3 [] [66] rfl ?_
 rw[decide_eq_true hn]
 refine yF 7 [3] [68,70] rfl<|nA (α:=Raw2) 2 rfl rfl rfl hRw hraw ?_
 intro ad aL ap bG al
 obtain⟨rfl,o1,o2⟩:=al
 refine yF 9 [] [72] rfl<|zCJ 2 1 ap bG [vS pB bl cB] (vS pB bl cB) rfl rfl<|yI [] [76] rfl ?_
 rw[decide_eq_true hb]
 refine zJ<|zB6 rfl<|oA [(0,vP aq 0),(4,vP b1 0),(5,vP b2 0),(6,vI (au.length:Int))]<|wX [.p (vP b2 1) [],.p (vS a1 au c1) [2],.p (vI (au.length:Int)) [],.p (vI (W ((au.length:Int) - 1))) [],.x (λI' v hx'=>∃ad,v=.pointer (some ad)/\hx'=[]/\AtO (vS a1 au c1) 2 (W ((au.length:Int) - 1)).toNat ad),.x (λI' v hx'=>∃ad,v=.pointer (some (ad.add 1))/\hx'=[]/\AtO (vS a1 au c1) 2 (W ((au.length:Int) - 1)).toNat ad),.x (λI' v hx'=>v=vS pB bl cB/\hx'=[]),.p (vP aq 0) [],.p (vP aq 0) [],.p (vP aq 0) [],.p (vP b2 1) [],.p (vS a1 au c1) [2],.p (vI (au.length:Int)) [],.p (vI (W ((au.length:Int) - 1))) [],.x (λI' v hx'=>∃ad,v=.pointer (some ad)/\hx'=[]/\AtO (vS a1 au c1) 2 (W ((au.length:Int) - 1)).toNat ad),.x (λI' v hx'=>∃ad,v=.pointer (some (ad.add 1))/\hx'=[]/\AtO (vS a1 au c1) 2 (W ((au.length:Int) - 1)).toNat ad),.x (λI' v hx'=>v=vS pB bl cB/\hx'=[]),.x (λI' v hx'=>∃ad,v=.pointer (some ad)/\hx'=[]/\AtO (vS pB bl cB) 9 0 ad),.x (λI' v hx'=>∃cs9,v=.agg ⟨cs9⟩/\hx'=[]/\Rp.rep I' cs9 s),.x (λI' v hx'=>∃(cs9 kk:List Value),v=.agg ⟨cs9⟩/\hx'=[hB aq kk]/\Rp.rep I' cs9 y22/\Rp.rep I' kk y23),.x (λI' v hx'=>∃(cs9 kk:List Value),v=.agg ⟨cs9⟩/\hx'=[hB aq kk]/\Rp.rep I' cs9 y24/\Rp.rep I' kk y25),.x (λI' v hx'=>∃(cs9 kk:List Value),v=.agg ⟨cs9⟩/\hx'=[hB aq kk]/\Rp.rep I' cs9 y26/\Rp.rep I' kk y27)] [[],[(0,false)],[],[(2,false)],[(1,false),(3,false)],[(4,false)],[(5,false)],[],[],[],[],[(10,false)],[],[(12,false)],[(11,false),(13,false)],[(14,false)],[(15,false)],[(16,false)],[(17,false)],[(9,false),(18,false),(24,true)],[(8,false),(19,true)],[(7,false),(20,true)]] [hO zQ (vS pB bl cB) csB,hO Raw2 (vS a1 au c1) s1,hB b2 [vS a0 y.Arrays c0,vS a1 au c1],hO zG (vS a0 y.Arrays c0) s0,hB b1 zTwo] [[hB aq (cRd y3 p6 c5)]] [(6,false),(21,true)] (zX [1,2,3,4,5,0]) ?_ ?_
 ·refine Op<|Op<|Op<|Op<|Ox ?_<|Ox ?_<|Ox ?_<|Op<|Op<|Op<|Op<|Op<|Op<|Op<|Ox ?_<|Ox ?_<|Ox ?_<|Ox ?_<|Ox ?_<|Ox ?_<|Ox ?_<|Ox ?_<|On
  ·intro I1 hf af
   refine tV ?_
   rintro _ _ ⟨rfl,rfl⟩
   refine tV ?_
   rintro _ _ ⟨rfl,rfl⟩
   refine kA<|zCK [(78,vS a1 au c1),(80,vI (W ((au.length:Int) - 1)))]<|nA (α:=Raw2) 1 rfl rfl rfl (iM af hRw) hraw ?_
   intro ad aL ap bG al
   exact yK [] iR ⟨_,rfl,rfl,ap⟩
  ·intro I1 hf af
   refine tV ?_
   rintro _ _ ⟨ad,rfl,rfl,ap⟩
   exact kA<|zCK [(81,.pointer (some ad))]<|rS 6 [(82,.pointer (some (ad.add 1)))]<|yK [] iR ⟨_,rfl,rfl,ap⟩
  ·intro I1 hf af
   refine tV ?_
   rintro _ _ ⟨ad,rfl,rfl,ap⟩
   refine kA<|zCK [(82,.pointer (some (ad.add 1)))] ?_
   have al:=hRw.at (uX hraw).2.2
   obtain⟨⟨bG,o1,o2⟩,_⟩:=al
   exact zCJ 1 1 ap bG [vS pB bl cB] (vS pB bl cB) rfl rfl<|yT iR
  ·intro I1 hf af
   refine tV ?_
   rintro _ _ ⟨rfl,rfl⟩
   refine tV ?_
   rintro _ _ ⟨rfl,rfl⟩
   refine kA<|zCK [(88,vS a1 au c1),(90,vI (W ((au.length:Int) - 1)))]<|nA (α:=Raw2) 1 rfl rfl rfl (iM af hRw) hraw ?_
   intro ad aL ap bG al
   exact yK [] iR ⟨_,rfl,rfl,ap⟩
  ·intro I1 hf af
   refine tV ?_
   rintro _ _ ⟨ad,rfl,rfl,ap⟩
   exact kA<|zCK [(91,.pointer (some ad))]<|rS 16 [(92,.pointer (some (ad.add 1)))]<|yK [] iR ⟨_,rfl,rfl,ap⟩
  ·intro I1 hf af
   refine tV ?_
   rintro _ _ ⟨ad,rfl,rfl,ap⟩
   refine kA<|zCK [(92,.pointer (some (ad.add 1)))] ?_
   have al:=hRw.at (uX hraw).2.2
   obtain⟨⟨bG,o1,o2⟩,_⟩:=al
   exact zCJ 1 1 ap bG [vS pB bl cB] (vS pB bl cB) rfl rfl<|yT iR
  ·intro I1 hf af
   refine tV ?_
   rintro _ _ ⟨rfl,rfl⟩
   refine kA<|zCK [(93,vS pB bl cB)]<|nA (α:=zQ) 0 rfl rfl rfl (iM af hBd) hs ?_
   intro ad aL ap bG al
   exact yK [] iR ⟨_,rfl,rfl,ap⟩
  ·intro I1 hf af
   refine tV ?_
   rintro _ _ ⟨ad,rfl,rfl,ap⟩
   refine kA<|zCK [(94,.pointer (some ad))] ?_
   obtain⟨al,_⟩:=(iM af hBd).at j2
   generalize bG:(csB.drop (Int.toNat 0*Rp.sz zQ)).take (Rp.sz zQ)=cc at al
   obtain⟨w0,w1,w2,w3,rfl,e10,e11,e12,e13⟩:=nR al
   obtain⟨aZ,bh,rfl⟩:=e10.form
   obtain⟨aV,bj,rfl⟩:=e11.form
   obtain⟨bB,bo,rfl⟩:=e12.form
   obtain⟨bm,bu,rfl⟩:=e13.form
   exact zCJ 0 0 ap bG (cStmt s aZ bh aV bj bB bo bm bu) (vA (cStmt s aZ bh aV bj bB bo bm bu)) rfl rfl<|yK [] iR ⟨_,rfl,rfl,wY ⟨_,_,_,_,rfl,e10,e11,e12,e13⟩⟩
  ·intro I1 hf af
   refine tV ?_
   rintro _ _ ⟨rfl,rfl⟩
   refine tV ?_
   rintro _ _ ⟨cs9,rfl,rfl,h9⟩
   refine tV ?_
   rintro _ _ rfl
   obtain⟨w0,w1,w2,w3,rfl,e10,e11,e12,e13⟩:=nR h9
   obtain⟨aZ,bh,rfl⟩:=e10.form
   obtain⟨aV,bj,rfl⟩:=e11.form
   obtain⟨bB,bo,rfl⟩:=e12.form
   obtain⟨bm,bu,rfl⟩:=e13.form
   refine kA<|zCK [(86,vP aq 0),(95,vA (cStmt s aZ bh aV bj bB bo bm bu))]<|rC (eA y3 s _ hm1 (h7.mono af) e10 e11 e12 e13) rfl ?_
   rintro aQ ax v2 k2 aE - ⟨v0,kk2,rfl,rfl,⟨aO,rfl,h10⟩,h11⟩ -
   exact yK [hB aq kk2] aE ⟨_,_,rfl,rfl,h10,h11⟩
  ·intro I1 hf af
   refine tV ?_
   rintro _ _ ⟨rfl,rfl⟩
   refine tV ?_
   rintro _ _ ⟨cs9,kk,rfl,rfl,h9,hk⟩
   obtain⟨w0,w1,w2,w3,rfl,e10,e11,e12,e13⟩:=nR h9
   obtain⟨aZ,bh,rfl⟩:=e10.form
   obtain⟨aV,bj,rfl⟩:=e11.form
   obtain⟨bB,bo,rfl⟩:=e12.form
   obtain⟨bm,bu,rfl⟩:=e13.form
   obtain⟨w4,rfl,hsl⟩:=fH hk
   obtain⟨p8,c8,rfl⟩:=hsl.form
   refine kA<|zCK [(85,vP aq 0),(96,vA (cStmt y22 aZ bh aV bj bB bo bm bu))]<|rC (eA y23 y22 _ hm2 (hsl) e10 e11 e12 e13) rfl ?_
   rintro aQ ax v2 k2 aE - ⟨v0,kk2,rfl,rfl,⟨aO,rfl,h10⟩,h11⟩ -
   exact yK [hB aq kk2] aE ⟨_,_,rfl,rfl,h10,h11⟩
  intro I1 hf af
  refine tV ?_
  rintro _ _ ⟨rfl,rfl⟩
  refine tV ?_
  rintro _ _ ⟨cs9,kk,rfl,rfl,h9,hk⟩
  obtain⟨w0,w1,w2,w3,rfl,e10,e11,e12,e13⟩:=nR h9
  obtain⟨aZ,bh,rfl⟩:=e10.form
  obtain⟨aV,bj,rfl⟩:=e11.form
  obtain⟨bB,bo,rfl⟩:=e12.form
  obtain⟨bm,bu,rfl⟩:=e13.form
  obtain⟨w4,rfl,hsl⟩:=fH hk
  obtain⟨p8,c8,rfl⟩:=hsl.form
  refine kA<|zCK [(84,vP aq 0),(97,vA (cStmt y24 aZ bh aV bj bB bo bm bu))]<|rC (eA y25 y24 _ hm3 (hsl) e10 e11 e12 e13) rfl ?_
  rintro aQ ax v2 k2 aE - ⟨v0,kk2,rfl,rfl,⟨aO,rfl,h10⟩,h11⟩ -
  exact yK [hB aq kk2] aE ⟨_,_,rfl,rfl,h10,h11⟩
 intro I5 bw
 refine tV ?_
 rintro _ _ ⟨rfl,rfl⟩
 refine tV ?_
 rintro _ _ ⟨cs9,kk,rfl,rfl,h9,hk⟩
 obtain⟨w0,w1,w2,w3,rfl,e10,e11,e12,e13⟩:=nR h9
 obtain⟨aZ,bh,rfl⟩:=e10.form
 obtain⟨aV,bj,rfl⟩:=e11.form
 obtain⟨bB,bo,rfl⟩:=e12.form
 obtain⟨bm,bu,rfl⟩:=e13.form
 have h3:=iM bw h3
 have hRw:=iM bw hRw
 have hN:=hN.mono bw
 have hBd:=iM bw hBd
 have hset:=hset.mono bw
 refine kA<|zCK [(4,vP b1 0),(5,vP b2 0),(83,vS pB bl cB),(98,vA (cStmt y26 aZ bh aV bj bB bo bm bu))]<|nA (α:=zQ) 1 rfl rfl rfl hBd hs ?_
 intro ad aL ap bG al
 obtain⟨w0,w1,w2,w3,rfl,e20,e21,e22,e23⟩:=nR al
 obtain⟨p20,c20,rfl⟩:=e20.form
 obtain⟨p21,c21,rfl⟩:=e21.form
 obtain⟨p22,c22,rfl⟩:=e22.form
 obtain⟨p23,c23,rfl⟩:=e23.form
 refine tW (c:=(cStmt y26 aZ bh aV bj bB bo bm bu)) (x':=y26) 1 0 rfl rfl rfl ap rfl rfl bG (by kernel_rfl) (by kernel_rfl) (by kernel_rfl) hBd hs (by kernel_rfl) (wY ⟨_,_,_,_,rfl,e10,e11,e12,e13⟩) ?_
 intro cs7 h7' aG
 refine uW (ah:=[hB aq kk,hO zQ (vS pB bl cB) cs7,hO Raw2 (vS a1 au c1) s1,hB b2 [vS a0 y.Arrays c0,vS a1 au c1],hO zG (vS a0 y.Arrays c0) s0,hB b1 zTwo]) rfl<|xM 1 rfl ?_
 intro I6 bD hl6
 have eB:vS pB bl cB=vS pB (bl.set 0 y26) cB:=by simp[vS]
 have kB:SL I6 (vS pB (bl.set 0 y26) cB) (bl.set 0 y26):=by
  rw[<- eB]
  exact SL.of_frozen (l:=bl.set 0 y26) hl6 bD h7'
 rw[eB] at hset
 have hdone:=(hset.mono bD).done (hN.mono bD) kB
 have eS:=jI hRw
 rw[<- eS] at hdone
 have h3:=iM bD h3
 have hk:=Rp.mono bD hk
 have eP:vS a1 au c1=vS a1 (y.Parts.set (W ((au.length:Int) - 1)).toNat ⟨nl,bl.set 0 y26⟩) c1:=by simp only[vS,cL,hLP.2.1]
 refine uW (ah:=[hB aq kk,hO Raw2 (vS a1 au c1) s1,hB b2 [vS a0 y.Arrays c0,vS a1 au c1],hO zG (vS a0 y.Arrays c0) s0,hB b1 zTwo]) rfl<|yC rfl<|zP<|xA<|qA 1 [2] [(110,vA [vS a0 y.Arrays c0,vS a1 au c1])]<|xP 4 [vS a0 y.Arrays c0,vS a1 au c1] rfl<|yC rfl<|xF<|xB 1 rfl ?_
 intro I7 le7 hl7
 have k1:SL I7 (vS a1 au c1) (y.Parts.set (W ((au.length:Int) - 1)).toNat ⟨nl,bl.set 0 y26⟩):=SL.of_frozen (l:=y.Parts.set (W ((au.length:Int) - 1)).toNat ⟨nl,bl.set 0 y26⟩) hl7 le7 hdone
 refine xB 2 rfl ?_
 intro I8 le8 hl8
 have k2:=SL.of_frozen hl8 le8 (iM le7 h3)
 rw[hLP.len]
 exact xC ⟨_,_,(.cell 2 rfl rfl (by kernel_rfl) ResV.nil),(zW [0] rfl (by decide)),⟨_,_,rfl,rfl,⟨_,rfl,(oK ⟨_,_,rfl,k2,k1.mono le8⟩)⟩,Rp.mono le8 (Rp.mono le7 hk)⟩⟩
theorem zET:∀r0 p1 r,qV r0 p1=some r->∀{I:Imm}{aq:Nat}{p c p2 c1 p3 c2},(S4 I p r0.b c)->(S4 I p2 p1.Arrays c1)->(S4 I p3 p1.Parts c2)->RT 40 [vP aq 0,vA (cProg p1 p2 c1 p3 c2)] I [hB aq (cRd r0 p c)] (fJ aq r):=by
 intro r0 p1 r N I aq p c p2 c1 p3 c2 h h1 h2;by_cases hq:∃y y3 x s,qB p1=some y/\yW r0 60=some (3,y3)/\idx y.Parts (W ((y.Parts.length:Int) - 1))=some x/\idx x.Body 0=some s
 ·obtain⟨y,y3,x,s,e1,e2,e3,e4⟩:=hq;exact zDX r0 p1 r N e1 e2 e3 e4 h h1 h2
 refine zDV r0 p1 r N h h1 h2 ?_;intro y y2 y3 x s e1 e2 e3 e4 e5;obtain rfl:=eq_of_beq e3;exact hq ⟨y,y3,x,s,e1,e2,e4,e5⟩
def zS(r:Bool):KT:=λkk I' ah v=>
 ∃v0,ah=[]/\v=tupV [v0]/\v0=.bool r
def vC(x:zG)(k0:Int):Option (Out Unit (Bool)):=do
 if(decide (k0<(x.Dims.length:Int))) then
  let t77<-(do
   let x2<-idx x.Dims k0
   if(decide (x2<1)) then
    pure true
   else
    let x3<-idx x.Dims k0
    pure (decide (x3>6))
     : Option Bool)
  if t77 then
   pure (.ret false)
  else
   vC x (W (k0+1))
 else
  pure (.done ())
 partial_fixpoint
theorem zCO(x:zG):∀(k0:Int) (o:Out Unit (Bool)),vC x k0=some o->∀{B}{I0 I:Imm}{Q}{list:(List zG)}{i:Int}{p c p1 c1}{b:Nat},I0.le I->(S4 I p list c)->(S4 I p1 x.Dims c1)->NG Q->NO Q->(∀(I':Imm) ,o=(.done ())->I0.le I'->T 81 B Q (.exit 2) I' [] [(0,vS p list c),(3,vI i)])->(∀r I' ah m',o=(.ret r)->I0.le I'->RS Tryz.prog f80 B (zS  r) I' ah m'->T 81 B Q .ret I' ah m')->J Tryz.prog 81 B (nav (bodyOf f80) [1,0,1,0,0,1,0,0,1,1,1,0]) Q I [hB b (cArr x p1 c1)] [(0,vS p list c),(3,vI i),(4,vP b 0),(5,vI k0)]:=by
 refine vC.partial_correctness x _ λaI ih k0 o N B I0 I Q list i p c p1 c1 b H h h1 hg ho hx hr=>yR hg ho<|yA<|yE<|yI [0] [61] rfl<|zJ<|yD N ?_ ?_
 ·intro hc9 N;refine zU<|zZ<|yH<|yA ?_;refine wE N [hB b (cArr x p1 c1)] (λt77=>[(0,vS p list c),(3,vI i),(4,vP b 0),(5,vI k0),(77,.bool t77)]) (λaM aA=>?_) ?_
  ·have H:=iS I;refine zK<|yF 3 [0] [65,66] rfl ?_;obtain⟨x2,aJ,N⟩:=zB aA;refine xN rfl rfl h1 aJ ?_;intro ad2 bM aP aW;obtain rfl:=aW;refine xE 0 aP [vI x2] (vI x2) rfl<|yF 7 [] [70] rfl<|xW [70] N ?_ ?_
   ·intro hc10 N;exact wG [] [(77,vY)]<|yN<|zT (ct N H)
   intro hc10 N;refine yF 10 [0] [72,73] rfl<|bE N λx3 bb N=>xN rfl rfl h1 bb ?_;intro ad3 ccs3 hat3 bq;obtain rfl:=bq;exact xE 0 hat3 [vI x3] (vI x3) rfl<|yI [] [77] rfl<|yN<|zT (ct N H)
  intro t77 aU af hMc1;have ⟨h,h1,H⟩:=m3 af h h1 H;refine zJ<|yD hMc1 ?_ ?_
  ·intro hc11 N;exact vK [(2,vF)]<|xF<|zV<|zH<|zH<|hr _ _ _ _ (zC N).symm H ⟨_,_,(.tmp rfl ResV.nil),zO,⟨_,rfl,rfl,rfl⟩⟩
  intro hc11 N;exact zU<|zP<|zJ<|zK<|yI [] [5] rfl<|yS<|nU<|ih (W (k0+1)) _ N H h h1 hg ho hx hr
 intro hc9 N;exact wZ<|xV zO<|yN<|hx _  (zC N).symm H
def vW(list:(List zG))(i:Int):Option (Out Unit (Bool)):=do
 if(decide (i<(list.length:Int))) then
  let x<-idx list i
  let t56<-(do
   if((x.Name.l.length:Int) != 1) then
    pure true
   else
    if(Op.bytesLess x.Name.l ([65]:List UInt8)) then
     pure true
    else
     if(!(Op.bytesLess x.Name.l ([68]:List UInt8)||x.Name.l==([68]:List UInt8))) then
      pure true
     else
      if(decide (i>0)) then
       let x1<-idx list (W (i - 1))
       if(!(Op.bytesLess x1.Name.l x.Name.l)) then
        pure true
       else
        if(decide ((x.Dims.length:Int)<1)) then
         pure true
        else
         pure (decide ((x.Dims.length:Int)>2))
      else
       if(decide ((x.Dims.length:Int)<1)) then
        pure true
       else
        pure (decide ((x.Dims.length:Int)>2))
     : Option Bool)
  if t56 then
   pure (.ret false)
  else
   match<-vC x 0 with
   | .ret r0=>pure (.ret r0)
   | .done _=>
    vW list (W (i+1))
 else
  pure (.done ())
 partial_fixpoint
theorem zCP(list:(List zG)):∀(i:Int) (o:Out Unit (Bool)),vW list i=some o->∀{B}{I0 I:Imm}{Q p c},I0.le I->(S4 I p list c)->NG Q->NO Q->(∀(I':Imm) ,o=(.done ())->I0.le I'->T 81 B Q (.exit 0) I' [] [(0,vS p list c)])->(∀r I' ah m',o=(.ret r)->I0.le I'->RS Tryz.prog f80 B (zS  r) I' ah m'->T 81 B Q .ret I' ah m')->J Tryz.prog 81 B (nav (bodyOf f80) [1,0,1,0]) Q I [] [(0,vS p list c),(3,vI i)]:=by
 refine vW.partial_correctness list _ λaI ih i o N B I0 I Q p c H h hg ho hx hr=>yR hg ho<|yA<|yG [9] rfl<|zJ<|yD N ?_ ?_
 ·intro hc N;refine zU<|zZ<|yH<|yE<|yF 2 [] [12,13] rfl<|bE N λx hy N=>xN rfl rfl h hy ?_;intro ad aL ap al;obtain⟨p1,c1,rfl,h1⟩:=vU al;refine xE 0 ap (cArr x p1 c1) (vA (cArr x p1 c1)) rfl<|uB [vT ([]),z0] ?_;intro b hb;refine xP 0 (cArr x p1 c1) rfl<|yC rfl<|zZ<|yA ?_;refine wE N [hB b (cArr x p1 c1)] (λt56=>[(0,vS p list c),(3,vI i),(4,vP b 0),(56,.bool t56)]) (λo0 aB=>?_) ?_
  ·have H:=iS I;refine nP (by kernel_rfl) (by kernel_rfl)<|gN 5 [0] [20] rfl<|zFl [20] aB ?_ ?_
   ·intro aF N;exact zJR [] [(56,vY)]<|yN<|zT (ct N H)
   intro aF N;refine gN 10 [0] [25] rfl<|zFl [25] N ?_ ?_
   ·intro bd N;exact zJR [] [(56,vY)]<|yN<|zT (ct N H)
   intro bd N;refine gN 15 [0] [30] rfl<|zFl [30] N ?_ ?_
   ·intro bI N;exact zJR [] [(56,vY)]<|yN<|zT (ct N H)
   intro bI N;refine gN 18 [] [33] rfl<|zFl [33] N ?_ ?_
   ·intro bN N;refine gN 21 [] [34,36] rfl<|bE N λx1 ay N=>gT rfl rfl h ay ?_;intro ad1 bv ar az;obtain⟨p2,c2,rfl,h2⟩:=vU az;refine gN 23 [] [38] rfl<|kF 0 ar [vT x1.Name.l] (vT x1.Name.l) rfl<|gN 30 [0] [45] rfl<|zFl [45] N ?_ ?_
    ·intro hc5 N;exact zJR [] [(56,vY)]<|yN<|zT (ct N H)
    intro hc5 N;refine gN 36 [0] [51] rfl<|zFl [51] N ?_ ?_
    ·intro hc6 N;exact zJR [] [(56,vY)]<|yN<|zT (ct N H)
    intro hc6 N;exact zEw [0] [56] rfl<|yN<|zT (ct N H)
   intro bN N;refine gN 36 [0] [51] rfl<|zFl [51] N ?_ ?_
   ·intro hc7 N;exact zJR [] [(56,vY)]<|yN<|zT (ct N H)
   intro hc7 N;exact zEw [0] [56] rfl<|yN<|zT (ct N H)
  intro t56 I0 le aN;have ⟨h,h1,H⟩:=m3 le h h1 H;refine zJ<|yD aN ?_ ?_
  ·intro hc8 N;exact vK [(2,vF)]<|xF<|zH<|zV<|zH<|zH<|hr _ _ _ _ (zC N).symm H ⟨_,_,(.tmp rfl ResV.nil),zO,⟨_,rfl,rfl,rfl⟩⟩
  intro hc8 N;refine zU<|wW [5] rfl<|wC<|oA [(0,vS p list c),(3,vI i),(4,vP b 0),(5,vI 0)] ?_;obtain⟨o02,ho02,aH⟩:=zB N;refine zCO x 0 o02 ho02 iR h h1 (λ_ _ _ h=>hg _ _ _ h) (λ_ _ h=>ho _ _ h) ?_ ?_
  ·intro aQ  heq2 aE;subst o02;have ⟨h,H⟩:=m2 aE h H;exact zR<|zP<|zJ<|zK<|yI [] [3] rfl<|yS<|nU<|ih (W (i+1)) _ aH H h hg ho hx hr
  intro r0 I9 hs9 m9 aR le9 aS;subst aR;exact zV<|zV<|zH<|zH<|hr _ _ _ _ (zC aH).symm (H.trans le9) aS
 intro hc N;exact wZ<|yN<|hx _  (zC N).symm H
def oU(list:(List zG)):Option (Bool):=do
 match<-vW list 0 with
 | .ret r0=>pure r0
 | .done _=>
  pure (decide ((list.length:Int)<=4))
theorem zEU:∀list r,oU list=some r->∀{I:Imm}{p c},(S4 I p list c)->RT 80 [vS p list c] I [] (zS  r):=by
 intro list r N I p c h;unfold oU at N;refine yJ func80 λB=>vK []<|zZ<|yG [3] rfl<|wC<|oA [(0,vS p list c),(3,vI 0)] ?_;obtain⟨o03,ho03,hMl1⟩:=zB N;refine zCP list 0 o03 ho03 iR h (λ_ _ _ h=>h) (λ_ _ h=>h) ?_ ?_
 ·intro bz  heq3 aK;subst o03;refine zR<|wW [2] rfl<|zJ<|yZ ?_;obtain rfl:=zC hMl1;exact wV
 intro r0 I9 hs9 m9 aR le9 aS;subst aR;refine zV<|zH ?_;obtain rfl:=zC hMl1;exact xC aS
def yQ(r:Int):KT:=λkk I' ah v=>
 ∃v0,ah=[]/\v=tupV [v0]/\v0=.int .i64 r
def tH(a0:zA)(ag:(List Int))(n0:Int)(i:Int):Option (Int):=do
 let t19<-(do
  if(decide (i<(ag.length:Int))) then
   pure (decide (i<(a0.Coefs.length:Int)))
  else
   pure false
    : Option Bool)
 if t19 then
  let x<-idx a0.Coefs i
  let x1<-idx ag i
  tH a0 ag (W (n0+(W (x*x1)))) (W (i+1))
 else
  pure (id n0)
 partial_fixpoint
theorem zDY(a0:zA)(ag:(List Int)):∀(n0:Int) (i:Int) (o:Int),tH a0 ag n0 i=some o->∀{B}{I0 I:Imm}{Q p c p1 c1}{b:Nat},I0.le I->(S4 I p1 ag c1)->(S4 I p a0.Coefs c)->NG Q->NO Q->(∀(I':Imm) (n01:Int),o=n01->I0.le I'->T 35 B Q (.exit 0) I' [] [(5,vI n01)])->J Tryz.prog 35 B (nav (bodyOf f175) [1,1,0,1,0]) Q I [hB b (cAff a0 p c)] [(1,vS p1 ag c1),(2,vP b 0),(5,vI n0),(6,vI i)]:=by
 refine tH.partial_correctness a0 ag _ λaI ih n0 i o N B I0 I Q p c p1 c1 b H h1 h hg ho hx=>yR hg ho<|yA<|yA ?_;refine wE N [hB b (cAff a0 p c)] (λt19=>[(1,vS p1 ag c1),(2,vP b 0),(5,vI n0),(6,vI i),(19,.bool t19)]) (λo0 aB=>?_) ?_
 ·have H:=iS I;refine zK<|yF 5 [] [13] rfl<|xW [13] aB ?_ ?_
  ·intro hc N;exact yI [0] [19] rfl<|yN<|zT (ct N H)
  intro hc N;exact wG [] [(19,vF)]<|yN<|zT (ct N H)
 intro t19 I0 le aN;have ⟨h1,h,H⟩:=m3 le h1 h H;refine zJ<|yD aN ?_ ?_
 ·intro aF N;refine zU<|zZ<|yH<|nP (by kernel_rfl) (by kernel_rfl)<|gN 4 [0] [22,24,25] rfl<|bE N λx hy N=>gT rfl rfl h hy ?_;intro ad aL ap al;obtain rfl:=al;refine kF 0 ap [vI x] (vI x) rfl<|gN 8 [] [28,29] rfl<|bE N λx1 ay N=>gT rfl rfl h1 ay ?_;intro ad1 bv ar az;obtain rfl:=az;exact kF 0 ar [vI x1] (vI x1) rfl<|zEw [] [5] rfl<|zP<|zJ<|zK<|yI [] [6] rfl<|yS<|nU<|ih (W (n0+(W (x*x1)))) (W (i+1)) _ N H h1 h hg ho hx
 intro aF N;exact wZ<|xV zO<|yN<|hx _ _ (zC N).symm H
def rD(a0:zA)(ag:(List Int)):Option (Int):=do
 let n01<-tH a0 ag a0.Const 0
 pure (id n01)
theorem jY:∀a0 ag r,rD a0 ag=some r->∀{I:Imm}{p c p1 c1},(S4 I p a0.Coefs c)->(S4 I p1 ag c1)->RT 175 [vA (cAff a0 p c),vS p1 ag c1] I [] (yQ  r):=by
 intro a0 ag r N I p c p1 c1 h h1;unfold rD at N;refine yJ func175 λB=>yE<|uH (cAff a0 p c) ?_;intro b hb;refine wG [] []<|xA<|yI [0] [5] rfl<|zZ<|yG [6] rfl<|wC<|oA [(1,vS p1 ag c1),(2,vP b 0),(5,vI a0.Const),(6,vI 0)] ?_;obtain⟨aM,aA,aH⟩:=zB N;refine zDY a0 ag a0.Const 0 aM aA iR h1 h (λ_ _ _ h=>h) (λ_ _ h=>h) ?_;intro aU n01 heq1 af;subst aM;refine zR<|wW [4] rfl<|zJ<|yZ ?_;obtain rfl:=zC aH;exact wV
def fN(r:Int×Int):KT:=λkk I' ah v=>
 ∃v0 v1,ah=[]/\v=tupV [v0,v1]/\v0=.int .i64 r.1/\v1=.int .i64 r.2
def uP(loop:zE)(p2:(List Int))(lo:Int)(i:Int):Option (Int):=do
 if(decide (i<(loop.Lo.length:Int))) then
  let x2<-idx loop.Lo i
  let y2<-rD x2 p2
  let lo2<-(do
   if(decide (y2>lo)) then
    pure (id y2)
   else
    pure (id lo)
     : Option Int)
  uP loop p2 lo2 (W (i+1))
 else
  pure (id lo)
 partial_fixpoint
theorem zCl(loop:zE)(p2:(List Int)):∀(lo:Int) (i:Int) (o:Int),uP loop p2 lo i=some o->∀{B}{I0 I:Imm}{Q}{y1:Int}{p c p1 c1 p3 c2}{b:Nat},I0.le I->(S4 I p3 p2 c2)->(S4 I p loop.Lo c)->(S4 I p1 loop.Hi c1)->NG Q->NO Q->(∀(I':Imm) (lo1:Int),o=lo1->I0.le I'->T 62 B Q (.exit 0) I' [hB b (cLoop loop p c p1 c1)] [(1,vS p3 p2 c2),(2,vP b 0),(6,vI lo1),(7,vI y1)])->J Tryz.prog 62 B (nav (bodyOf f143) [1,1,1,0,1,0]) Q I [hB b (cLoop loop p c p1 c1)] [(1,vS p3 p2 c2),(2,vP b 0),(6,vI lo),(7,vI y1),(8,vI i)]:=by
 refine uP.partial_correctness loop p2 _ λaI ih lo i o N B I0 I Q y1 p c p1 c1 p3 c2 b H h2 h h1 hg ho hx=>yR hg ho<|yA<|yE<|yI [0] [28] rfl<|zJ<|yD N ?_ ?_
 ·intro hc N;refine zU<|zZ<|yH<|yE<|yF 3 [0] [32,33] rfl<|bE N λx2 bt N=>xN rfl rfl h bt ?_;intro ad2 bM aP aW;obtain⟨p6,c5,rfl,h7⟩:=yO aW;refine xE 0 aP (cAff x2 p6 c5) (vA (cAff x2 p6 c5)) rfl<|yF 6 [] [36] rfl<|bE N λy2 bH N=>jE (jY x2 p2 _ bH h7 h2) ?_;intro aQ aE;have ⟨h2,h,h1,H⟩:=m4 aE h2 h h1 H;refine yI [] [9] rfl<|wW [40] rfl<|zJ ?_;refine wE N [hB b (cLoop loop p c p1 c1)] (λlo2=>[(1,vS p3 p2 c2),(2,vP b 0),(6,vI lo2),(7,vI y1),(8,vI i)]) (λo0 aB=>?_) ?_
  ·have H:=iS aQ;refine yD aB ?_ ?_
   ·intro aF N;exact zK<|yI [] [6] rfl<|yN<|zT (ct N H)
   intro aF N;exact zU<|yN<|zT (ct N H)
  intro lo2 bz aK aN;have ⟨h2,h,h1,H⟩:=m4 aK h2 h h1 H;exact zP<|zJ<|zK<|yI [] [8] rfl<|yS<|nU<|ih lo2 (W (i+1)) _ aN H h2 h h1 hg ho hx
 intro hc N;exact wZ<|yN<|hx _ _ (zC N).symm H
def uQ(loop:zE)(p2:(List Int))(hi:Int)(i1:Int):Option (Int):=do
 if(decide (i1<(loop.Hi.length:Int))) then
  let x3<-idx loop.Hi i1
  let y3<-rD x3 p2
  let hi2<-(do
   if(decide (y3<hi)) then
    pure (id y3)
   else
    pure (id hi)
     : Option Int)
  uQ loop p2 hi2 (W (i1+1))
 else
  pure (id hi)
 partial_fixpoint
theorem zCm(loop:zE)(p2:(List Int)):∀(hi:Int) (i1:Int) (o:Int),uQ loop p2 hi i1=some o->∀{B}{I0 I:Imm}{Q}{lo1:Int}{p c p1 c1 p3 c2}{b:Nat},I0.le I->(S4 I p3 p2 c2)->(S4 I p loop.Lo c)->(S4 I p1 loop.Hi c1)->NG Q->NO Q->(∀(I':Imm) (hi1:Int),o=hi1->I0.le I'->T 62 B Q (.exit 2) I' [] [(6,vI lo1),(7,vI hi1)])->J Tryz.prog 62 B (nav (bodyOf f143) [1,1,1,1,0,1,0]) Q I [hB b (cLoop loop p c p1 c1)] [(1,vS p3 p2 c2),(2,vP b 0),(6,vI lo1),(7,vI hi),(10,vI i1)]:=by
 refine uQ.partial_correctness loop p2 _ λaI ih hi i1 o N B I0 I Q lo1 p c p1 c1 p3 c2 b H h2 h h1 hg ho hx=>yR hg ho<|yA<|yE<|yI [0] [46] rfl<|zJ<|yD N ?_ ?_
 ·intro bd N;refine zU<|zZ<|yH<|yE<|yF 3 [0] [50,51] rfl<|bE N λx3 hy6 N=>xN rfl rfl h1 hy6 ?_;intro ad3 ccs3 hat3 bq;obtain⟨p7,c6,rfl,h9⟩:=yO bq;refine xE 0 hat3 (cAff x3 p7 c6) (vA (cAff x3 p7 c6)) rfl<|yF 6 [] [54] rfl<|bE N λy3 hy7 N=>jE (jY x3 p2 _ hy7 h9 h2) ?_;intro bO bw;have ⟨h2,h,h1,H⟩:=m4 bw h2 h h1 H;refine yI [] [11] rfl<|wW [58] rfl<|zJ ?_;refine wE N [hB b (cLoop loop p c p1 c1)] (λhi2=>[(1,vS p3 p2 c2),(2,vP b 0),(6,vI lo1),(7,vI hi2),(10,vI i1)]) (λo02 ho02=>?_) ?_
  ·have H:=iS bO;refine yD ho02 ?_ ?_
   ·intro bI N;exact zK<|yI [] [7] rfl<|yN<|zT (ct N H)
   intro bI N;exact zU<|yN<|zT (ct N H)
  intro hi2 I06 bD hMc1;have ⟨h2,h,h1,H⟩:=m4 bD h2 h h1 H;exact zP<|zJ<|zK<|yI [] [10] rfl<|yS<|nU<|ih hi2 (W (i1+1)) _ hMc1 H h2 h h1 hg ho hx
 intro bd N;exact wZ<|xV zO<|yN<|hx _ _ (zC N).symm H
def oI(loop:zE)(p2:(List Int)):Option (Int×Int):=do
 let x<-idx loop.Lo 0
 let y<-rD x p2
 let x1<-idx loop.Hi 0
 let y1<-rD x1 p2
 let lo1<-uP loop p2 y 1
 let hi1<-uQ loop p2 y1 1
 pure (lo1,hi1)
theorem zBS:∀loop p2 r,oI loop p2=some r->∀{I:Imm}{p c p1 c1 p3 c2},(S4 I p loop.Lo c)->(S4 I p1 loop.Hi c1)->(S4 I p3 p2 c2)->RT 143 [vA (cLoop loop p c p1 c1),vS p3 p2 c2] I [] (fN  r):=by
 intro loop p2 r N I p c p1 c1 p3 c2 h h1 h2;unfold oI at N;refine yJ func143 λB=>yE<|uH (cLoop loop p c p1 c1) ?_;intro b hb;refine wG [] []<|xA<|yF 2 [0] [13] rfl<|bE N λx hy N=>xN rfl rfl h hy ?_;intro ad aL ap al;obtain⟨p4,c3,rfl,h3⟩:=yO al;refine xE 0 ap (cAff x p4 c3) (vA (cAff x p4 c3)) rfl<|yF 5 [] [16] rfl<|bE N λy ay N=>jE (jY x p2 _ ay h3 h2) ?_;intro I0 le;have ⟨h2,h,h1⟩:=m3 le h2 h h1;refine yI [] [6] rfl<|xA<|yF 2 [0] [19] rfl<|bE N λx1 aJ N=>xN rfl rfl h1 aJ ?_;intro ad1 bv ar az;obtain⟨p5,c4,rfl,h5⟩:=yO az;refine xE 0 ar (cAff x1 p5 c4) (vA (cAff x1 p5 c4)) rfl<|yF 5 [] [22] rfl<|bE N λy1 bb N=>jE (jY x1 p2 _ bb h5 h2) ?_;intro aU af;have ⟨h2,h,h1⟩:=m3 af h2 h h1;refine yI [] [7] rfl<|zZ<|yG [8] rfl<|wC<|oA [(1,vS p3 p2 c2),(2,vP b 0),(6,vI y),(7,vI y1),(8,vI 1)] ?_;obtain⟨aM,aA,aH⟩:=zB N;refine zCl loop p2 y 1 aM aA iR h2 h h1 (λ_ _ _ h=>h) (λ_ _ h=>h) ?_;intro bK lo1 heq1 bi;subst aM;have ⟨h2,h,h1⟩:=m3 bi h2 h h1;refine zR<|zZ<|yG [10] rfl<|wC<|oA [(1,vS p3 p2 c2),(2,vP b 0),(6,vI lo1),(7,vI y1),(10,vI 1)] ?_;obtain⟨o03,ho03,hMl1⟩:=zB aH;refine zCm loop p2 y1 1 o03 ho03 iR h2 h h1 (λ_ _ _ h=>h) (λ_ _ h=>h) ?_;intro I07 hi1 heq3 le7;subst o03;refine zR<|wW [4,5] rfl<|zJ<|yZ ?_;obtain rfl:=zC hMl1;exact xC ⟨_,_,(.tmp rfl (.tmp rfl ResV.nil)),zO,⟨_,_,rfl,rfl,rfl,rfl⟩⟩
def dZ(r:(List (List Int))):KT:=λkk I' ah v=>
 ∃a0 c0 s0,ah=[.osl (.slice a0 r.length c0) (Rp.sz (List Int)) s0]/\v=tupV [(.slice a0 r.length c0)]/\RepL (Rp.rep I') (Rp.sz (List Int)) s0 r
mutual
def vH(out:(List (List Int)))(nest:(List zE))(p2:(List Int)):Option ((List (List Int))):=do
 if((p2.length:Int)==(nest.length:Int)) then
  let l<-app 8 ([]:List Int) p2
  let t6<-app 24 out ([l]:List (List Int))
  pure (id t6)
 else
  let x<-idx nest (p2.length:Int)
  let (y1,y2)<-oI x p2
  let am<-tC (same nest) (same p2) (same y2) (same out) (same y1)
  pure (id am)
 partial_fixpoint
def tC(nest:(List zE))(p2:(List Int))(y2:Int)(aj:List (List Int))(v04:Int):Option (List (List Int)):=do
 let t39<-(do
  if(decide (v04<y2)) then
   pure (decide ((aj.length:Int)<=120))
  else
   pure false
    : Option Bool)
 if t39 then
  let l1<-app 8 ([]:List Int) p2
  let l2<-app 8 l1 ([v04]:List Int)
  let y3<-vH (same aj) (same nest) (same l2)
  tC (same nest) (same p2) (same y2) (same y3) (W (v04+1))
 else
  pure (id aj)
 partial_fixpoint
end
theorem zDZ:(∀(out:(List (List Int))) (nest:(List zE)) (p2:(List Int)) r,vH out nest p2=some r->∀{I:Imm}{p c cs p1 c1 p3 c2},(RL I cs out)->(S4 I p1 nest c1)->(S4 I p3 p2 c2)->RT 106 [vS p out c,vS p1 nest c1,vS p3 p2 c2] I [hO (List Int) (vS p out c) cs] (dZ  r))/\(∀(nest:(List zE)) (p2:(List Int)) (y2:Int) (aj:List (List Int)) (v04:Int) o,tC nest p2 y2 aj v04=some o->∀{B}{I0 I:Imm}{Q p1 c1 p3 c2 p8 c7 aT},I0.le I->(S4 I p1 nest c1)->(S4 I p3 p2 c2)->(RL I aT aj)->NG Q->NO Q->(∀(I':Imm) (am:List (List Int)) (p9:Option Addr) (c8:Nat) (br:List Value),o=am->I0.le I'->(RL I' br am)->T 52 B Q (.exit 0) I' [hO (List Int) (vS p9 am c8) br] [(0,vS p9 am c8)])->J Tryz.prog 52 B (nav (bodyOf f106) [1,1,1,0,1,0]) Q I [hO (List Int) (vS p8 aj c7) aT] [(0,vS p8 aj c7),(1,vS p1 nest c1),(2,vS p3 p2 c2),(8,vI y2),(9,vI v04)]):=by
 refine vH.mutual_partial_correctness _ _ ?_ ?_
 ·intro F_spec_l2Points_l1 ih_spec_l2Points_l1 out nest p2 r N I p c cs p1 c1 p3 c2 h h1 h2;refine yJ func106 λB=>vK []<|zZ<|yG [14] rfl<|zJ<|yD N ?_ ?_
  ·intro hc N;refine yE<|yF 1 [] [15] rfl<|tU [] Int ?_;intro b hb;have h3:RL I [] ([]:List Int):=rfl;refine yF 3 [] [17] rfl ?_;obtain⟨aL,k0,k01⟩:=h2;have h2:SL I (vS p3 p2 c2) p2:=⟨_,k0,k01⟩;obtain⟨l,hy,N⟩:=zB N;refine pC 3 1 0 rfl rfl rfl h3 (.inl k0) k01 hy λp4 c3 aC h4=>qE (zX [0,1] (ah:=[hO Int (vS p4 l c3) aC,hO (List Int) (vS p out c) cs]))<|xM 0 rfl ?_;intro I0 le hl0;have h5:=SL.of_frozen hl0 le h4;have h:=iM le h;refine tU [vS p4 l c3] (List Int) ?_;intro b1 hb1;have h6:RL I0 [vS p4 l c3] ([l]:List (List Int)):=⟨[vS p4 l c3],_,rfl,rfl,⟨_,rfl,h5⟩,rfl⟩;obtain⟨t6,ay,N⟩:=zB N;refine pC 28 1 1 rfl rfl rfl h (.inr ⟨0,rfl⟩) h6 ay λp5 c4 aO h7=>qE (zX [1] (ah:=[hO (List Int) (vS p5 t6 c4) aO]))<|yI [] [6] rfl<|xF<|zH ?_;obtain rfl:=zC N;exact xC ⟨_,_,(.tmp rfl ResV.nil),(zW [0] rfl (by decide)),⟨_,_,_,rfl,rfl,h7⟩⟩
  intro hc N;refine zU<|xA<|yF 3 [] [22,24] rfl<|bE N λx aJ N=>xN rfl rfl h1 aJ ?_;intro ad bv ap al;obtain⟨p6,c5,p7,c6,rfl,h8,h9⟩:=rG al;refine xE 0 ap (cLoop x p6 c5 p7 c6) (vA (cLoop x p6 c5 p7 c6)) rfl<|yF 6 [] [27] rfl ?_;obtain⟨⟨y1,y2⟩,bb,N⟩:=zB N;refine xO (zBS x p2 _ bb h8 h9 h2) ?_;rintro aU ax v2 k2 af - ⟨v02,v03,rfl,rfl,rfl,rfl⟩ -;have ⟨h,h1,h2⟩:=m3 af h h1 h2;refine yI [] [7,8] rfl<|zZ<|yG [9] rfl<|wC<|oA [(0,vS p out c),(1,vS p1 nest c1),(2,vS p3 p2 c2),(8,vI y2),(9,vI y1)] ?_;obtain⟨aM,aA,aH⟩:=zB N;refine ih_spec_l2Points_l1 nest p2 y2 out y1 aM aA iR h1 h2 h (λ_ _ _ h=>h) (λ_ _ h=>h) ?_;intro bO am p9 c8 br heq1 bw h13;subst aM;refine zR<|wW [6] rfl<|zJ<|yZ ?_;obtain rfl:=zC aH;exact xC ⟨_,_,(.tmp rfl ResV.nil),(zW [0] rfl (by decide)),⟨_,_,_,rfl,rfl,h13⟩⟩
 intro F_spec_l2Points F_spec_l2Points_l1 ih_spec_l2Points ih_spec_l2Points_l1 nest p2 y2 aj v04 o N B I0 I Q p1 c1 p3 c2 p8 c7 aT H h1 h2 h12 hg ho hx;refine yR hg ho<|yA<|yA ?_;refine wE N [hO (List Int) (vS p8 aj c7) aT] (λt39=>[(0,vS p8 aj c7),(1,vS p1 nest c1),(2,vS p3 p2 c2),(8,vI y2),(9,vI v04),(39,.bool t39)]) (λo0 aB=>?_) ?_
 ·have H:=iS I;refine zK<|yF 4 [] [35] rfl<|xW [35] aB ?_ ?_
  ·intro aF N;exact yI [] [39] rfl<|yN<|zT (ct N H)
  intro aF N;exact wG [] [(39,vF)]<|yN<|zT (ct N H)
 intro t39 aQ aE aN;have ⟨h12,h1,h2,H⟩:=m4 aE h12 h1 h2 H;refine zJ<|yD aN ?_ ?_
 ·intro bd N;refine zU<|zZ<|yH<|zK<|yF 2 [] [42,43] rfl<|tU [] Int ?_;intro b2 hb2;have h14:RL aQ [] ([]:List Int):=rfl;refine yF 4 [] [45] rfl ?_;obtain⟨bM,k02,k03⟩:=h2;have h2:SL aQ (vS p3 p2 c2) p2:=⟨_,k02,k03⟩;obtain⟨l1,bt,N⟩:=zB N;refine pC 3 1 0 rfl rfl rfl h14 (.inl k02) k03 bt λaZ c9 bC h15=>qE (zX [0,1] (ah:=[hO Int (vS aZ l1 c9) bC,hO (List Int) (vS p8 aj c7) aT]))<|yF 6 [] [47] rfl<|tU [vI v04] Int ?_;intro b3 hb3;have h16:RL aQ [vI v04] ([v04]:List Int):=rI [v04];obtain⟨l2,bH,N⟩:=zB N;refine pC 3 1 1 rfl rfl rfl h15 (.inr ⟨0,rfl⟩) h16 bH λaV bh cs6 h17=>qE (zX [1,2] (ah:=[hO Int (vS aV l2 bh) cs6,hO (List Int) (vS p8 aj c7) aT]))<|xM 0 rfl ?_;intro bz aK hl01;have h18:=SL.of_frozen hl01 aK h17;have ⟨h1,h2,h12,H⟩:=m4 aK h1 h2 h12 H;obtain⟨y3,hy6,N⟩:=zB N;refine rC (ih_spec_l2Points aj nest l2 _ hy6 h12 h1 h18) rfl ?_;rintro bK ax v2 k2 bi - ⟨bB,bj,cs7,rfl,rfl,h19⟩ -;have ⟨h1,h2,H⟩:=m3 bi h1 h2 H;exact yI [] [0] rfl<|zP<|zJ<|zK<|yI [] [9] rfl<|yS<|nU<|ih_spec_l2Points_l1 nest p2 y2 y3 (W (v04+1)) _ N H h1 h2 h19 hg ho hx
 intro bd N;exact wZ<|yN<|hx _ _ _ _ _ (zC N).symm H h12
theorem zAf:∀out nest p2 r,vH out nest p2=some r->∀{I:Imm}{p c cs p1 c1 p3 c2},(RL I cs out)->(S4 I p1 nest c1)->(S4 I p3 p2 c2)->RT 106 [vS p out c,vS p1 nest c1,vS p3 p2 c2] I [hO (List Int) (vS p out c) cs] (dZ  r):=zDZ.1
def vJ(n0:Int)(most:Int):Option (Bool):=do
 let t4<-(do
  if(decide (n0>=(W (0 - most)))) then
   pure (decide (n0<=most))
  else
   pure false
    : Option Bool)
 pure (id t4)
theorem eC:∀n0 most r,vJ n0 most=some r->∀{I:Imm} ,RT 160 [vI n0,vI most] I [] (zS  r):=by
 intro n0 most r N I;unfold vJ at N;refine yJ func160 λB=>?_;have H:=iS I;refine vK []<|zJ<|yA ?_;refine wE N [] (λt4=>[(4,.bool t4)]) (λo0 aB=>?_) ?_
 ·have H:=iS I;refine zK<|yF 5 [] [9] rfl<|xW [9] aB ?_ ?_
  ·intro hc N;exact yI [] [4] rfl<|yN<|zT (ct N H)
  intro hc N;exact wG [] [(4,vF)]<|yN<|zT (ct N H)
 intro t4 I0 le aN;refine zJ<|yZ ?_;obtain rfl:=zC aN;exact wV
def wH(a0:zA)(i:Int):Option (Out Unit (Bool)):=do
 if(decide (i<(a0.Coefs.length:Int))) then
  let x<-idx a0.Coefs i
  let y<-vJ x 9
  if(!y) then
   pure (.ret false)
  else
   wH a0 (W (i+1))
 else
  pure (.done ())
 partial_fixpoint
theorem zBB(a0:zA):∀(i:Int) (o:Out Unit (Bool)),wH a0 i=some o->∀{B}{I0 I:Imm}{Q p c}{b:Nat},I0.le I->(S4 I p a0.Coefs c)->NG Q->NO Q->(∀(I':Imm) ,o=(.done ())->I0.le I'->T 27 B Q (.exit 0) I' [hB b (cAff a0 p c)] [(1,vP b 0)])->(∀r I' ah m',o=(.ret r)->I0.le I'->RS Tryz.prog f185 B (zS  r) I' ah m'->T 27 B Q .ret I' ah m')->J Tryz.prog 27 B (nav (bodyOf f185) [1,0,1,0]) Q I [hB b (cAff a0 p c)] [(1,vP b 0),(3,vI i)]:=by
 refine wH.partial_correctness a0 _ λaI ih i o N B I0 I Q p c b H h hg ho hx hr=>yR hg ho<|yA<|yE<|yI [0] [8] rfl<|zJ<|yD N ?_ ?_
 ·intro hc N;refine zU<|zZ<|yH<|yE<|yF 3 [0] [12,13] rfl<|bE N λx hy N=>xN rfl rfl h hy ?_;intro ad aL ap al;obtain rfl:=al;refine xE 0 ap [vI x] (vI x) rfl<|bE N λy ay N=>vV (eC x 9 _ ay ) ?_;intro I0 le;have ⟨h,H⟩:=m2 le h H;refine yI [] [17] rfl<|zJ<|yD N ?_ ?_
  ·intro aF N;exact vK [(2,vF)]<|xF<|zV<|zH<|zH<|hr _ _ _ _ (zC N).symm H ⟨_,_,(.tmp rfl ResV.nil),zO,⟨_,rfl,rfl,rfl⟩⟩
  intro aF N;exact zU<|zP<|zJ<|zK<|yI [] [3] rfl<|yS<|nU<|ih (W (i+1)) _ N H h hg ho hx hr
 intro hc N;exact wZ<|yN<|hx _  (zC N).symm H
def vX(a0:zA):Option (Bool):=do
 match<-wH a0 0 with
 | .ret r0=>pure r0
 | .done _=>
  let t2<-(do
   if((a0.Coefs.length:Int)==4) then
    let y1<-vJ a0.Const 99
    pure (id y1)
   else
    pure false
     : Option Bool)
  pure (id t2)
theorem kC:∀a0 r,vX a0=some r->∀{I:Imm}{p c},(S4 I p a0.Coefs c)->RT 185 [vA (cAff a0 p c)] I [] (zS  r):=by
 intro a0 r N I p c h;unfold vX at N;refine yJ func185 λB=>?_;have H:=iS I;refine yE<|uH (cAff a0 p c) ?_;intro b hb;refine wG [] []<|zZ<|yG [3] rfl<|wC<|oA [(1,vP b 0),(3,vI 0)] ?_;obtain⟨o0,aB,aH⟩:=zB N;refine zBB a0 0 o0 aB iR h (λ_ _ _ h=>h) (λ_ _ h=>h) ?_ ?_
 ·intro aU  heq af;subst o0;have H:=H.trans af;refine zR<|zJ<|yA ?_;refine wE aH [] (λt2=>[(2,.bool t2)]) (λaM aA=>?_) ?_
  ·have H:=iS aU;refine zK<|yF 5 [0] [22] rfl<|xW [22] aA ?_ ?_
   ·intro bd N;refine yF 7 [0] [24] rfl<|bE N λy1 aJ N=>vV (eC a0.Const 99 _ aJ ) ?_;intro bz aE;have H:=H.trans aE;exact yI [] [2] rfl<|xV zO<|yN<|zT (ct N H)
   intro bd N;exact wG [] [(2,vF)]<|xV zO<|yN<|zT (ct N H)
  intro t2 aQ aK aN;refine zJ<|yZ ?_;obtain rfl:=zC aN;exact wV
 intro r0 I9 hs9 m9 aR le9 aS;subst aR;refine zV<|zH ?_;obtain rfl:=zC aH;exact xC aS
def uR(a0:zA)(n0:Int)(i:Int):Option (Int):=do
 if(decide (i<(a0.Coefs.length:Int))) then
  let x<-idx a0.Coefs i
  let n02<-(do
   if(x != 0) then
    pure (W (i+1))
   else
    pure (id n0)
     : Option Int)
  uR a0 n02 (W (i+1))
 else
  pure (id n0)
 partial_fixpoint
theorem zCn(a0:zA):∀(n0:Int) (i:Int) (o:Int),uR a0 n0 i=some o->∀{B}{I0 I:Imm}{Q p c}{b:Nat},I0.le I->(S4 I p a0.Coefs c)->NG Q->NO Q->(∀(I':Imm) (n01:Int),o=n01->I0.le I'->T 21 B Q (.exit 0) I' [] [(3,vI n01)])->J Tryz.prog 21 B (nav (bodyOf f186) [1,1,0,1,0]) Q I [hB b (cAff a0 p c)] [(1,vP b 0),(3,vI n0),(4,vI i)]:=by
 refine uR.partial_correctness a0 _ λaI ih n0 i o N B I0 I Q p c b H h hg ho hx=>yR hg ho<|yA<|yE<|yI [0] [9] rfl<|zJ<|yD N ?_ ?_
 ·intro hc N;refine zU<|zZ<|yH<|yE<|yF 3 [0] [13,14] rfl<|bE N λx hy N=>xN rfl rfl h hy ?_;intro ad aL ap al;obtain rfl:=al;refine xE 0 ap [vI x] (vI x) rfl<|yI [] [17] rfl<|zJ ?_;refine wE N [hB b (cAff a0 p c)] (λn02=>[(1,vP b 0),(3,vI n02),(4,vI i)]) (λo0 aB=>?_) ?_
  ·have H:=iS I;refine yD aB ?_ ?_
   ·intro aF N;exact zK<|yI [] [3] rfl<|yN<|zT (ct N H)
   intro aF N;exact zU<|yN<|zT (ct N H)
  intro n02 I0 le aN;have ⟨h,H⟩:=m2 le h H;exact zP<|zJ<|zK<|yI [] [4] rfl<|yS<|nU<|ih n02 (W (i+1)) _ aN H h hg ho hx
 intro hc N;exact wZ<|xV zO<|yN<|hx _ _ (zC N).symm H
def qH(a0:zA):Option (Int):=do
 let n01<-uR a0 0 0
 pure (id n01)
theorem eX:∀a0 r,qH a0=some r->∀{I:Imm}{p c},(S4 I p a0.Coefs c)->RT 186 [vA (cAff a0 p c)] I [] (yQ  r):=by
 intro a0 r N I p c h;unfold qH at N;refine yJ func186 λB=>yE<|uH (cAff a0 p c) ?_;intro b hb;refine wG [] []<|wW [3] rfl<|zZ<|yG [4] rfl<|wC<|oA [(1,vP b 0),(3,vI 0),(4,vI 0)] ?_;obtain⟨aM,aA,aH⟩:=zB N;refine zCn a0 0 0 aM aA iR h (λ_ _ _ h=>h) (λ_ _ h=>h) ?_;intro aU n01 heq1 af;subst aM;refine zR<|wW [2] rfl<|zJ<|yZ ?_;obtain rfl:=zC aH;exact wV
def tI(list:(List zA))(aa:Int)(i:Int):Option (Out Unit (Bool)):=do
 if(decide (i<(list.length:Int))) then
  let t26<-(do
   let x<-idx list i
   let y<-vX x
   if(!y) then
    pure true
   else
    let x1<-idx list i
    let y1<-qH x1
    pure (decide (y1>aa))
     : Option Bool)
  if t26 then
   pure (.ret false)
  else
   tI list aa (W (i+1))
 else
  pure (.done ())
 partial_fixpoint
theorem zD0(list:(List zA))(aa:Int):∀(i:Int) (o:Out Unit (Bool)),tI list aa i=some o->∀{B}{I0 I:Imm}{Q p c},I0.le I->(S4 I p list c)->NG Q->NO Q->(∀(I':Imm) ,o=(.done ())->I0.le I'->T 35 B Q (.exit 0) I' [] [(0,vS p list c)])->(∀r I' ah m',o=(.ret r)->I0.le I'->RS Tryz.prog f184 B (zS  r) I' ah m'->T 35 B Q .ret I' ah m')->J Tryz.prog 35 B (nav (bodyOf f184) [1,0,1,0]) Q I [] [(0,vS p list c),(1,vI aa),(5,vI i)]:=by
 refine tI.partial_correctness list aa _ λaI ih i o N B I0 I Q p c H h hg ho hx hr=>yR hg ho<|yA<|yG [9] rfl<|zJ<|yD N ?_ ?_
 ·intro hc N;refine zU<|zZ<|yH<|yA ?_;refine wE N [] (λt26=>[(0,vS p list c),(1,vI aa),(5,vI i),(26,.bool t26)]) (λo0 aB=>?_) ?_
  ·have H:=iS I;refine zK<|yF 2 [] [12,13] rfl ?_;obtain⟨x,hy,N⟩:=zB aB;refine xN rfl rfl h hy ?_;intro ad aL ap al;obtain⟨p1,c1,rfl,h1⟩:=yO al;refine xE 0 ap (cAff x p1 c1) (vA (cAff x p1 c1)) rfl<|bE N λy ay N=>vV (kC x _ ay h1) ?_;intro aU le;have ⟨h,H⟩:=m2 le h H;refine yF 7 [] [18] rfl<|xW [18] N ?_ ?_
   ·intro aF N;exact wG [] [(26,vY)]<|yN<|zT (ct N H)
   intro aF N;refine yF 9 [] [19,20] rfl<|bE N λx1 aJ N=>xN rfl rfl h aJ ?_;intro ad1 bv ar az;obtain⟨p2,c2,rfl,h3⟩:=yO az;refine xE 0 ar (cAff x1 p2 c2) (vA (cAff x1 p2 c2)) rfl<|bE N λy1 bb N=>jE (eX x1 _ bb h3) ?_;intro aQ af;have H:=H.trans af;exact yI [] [26] rfl<|yN<|zT (ct N H)
  intro t26 I0 aE aN;have ⟨h,H⟩:=m2 aE h H;refine zJ<|yD aN ?_ ?_
  ·intro bd N;exact vK [(4,vF)]<|xF<|zV<|zH<|zH<|hr _ _ _ _ (zC N).symm H ⟨_,_,(.tmp rfl ResV.nil),zO,⟨_,rfl,rfl,rfl⟩⟩
  intro bd N;exact zU<|zP<|zJ<|zK<|yI [] [5] rfl<|yS<|nU<|ih (W (i+1)) _ N H h hg ho hx hr
 intro hc N;exact wZ<|yN<|hx _  (zC N).symm H
def nI(list:(List zA))(aa:Int):Option (Bool):=do
 match<-tI list aa 0 with
 | .ret r0=>pure r0
 | .done _=>
  let t4<-(do
   if(decide ((list.length:Int)>=1)) then
    pure (decide ((list.length:Int)<=2))
   else
    pure false
     : Option Bool)
  pure (id t4)
theorem zBf:∀list aa r,nI list aa=some r->∀{I:Imm}{p c},(S4 I p list c)->RT 184 [vS p list c,vI aa] I [] (zS  r):=by
 intro list aa r N I p c h;unfold nI at N;refine yJ func184 λB=>?_;have H:=iS I;refine vK []<|zZ<|yG [5] rfl<|wC<|oA [(0,vS p list c),(1,vI aa),(5,vI 0)] ?_;obtain⟨aM,aA,aH⟩:=zB N;refine zD0 list aa 0 aM aA iR h (λ_ _ _ h=>h) (λ_ _ h=>h) ?_ ?_
 ·intro bz  heq1 aK;subst aM;have H:=H.trans aK;refine zR<|zJ<|yA ?_;refine wE aH [] (λt4=>[(4,.bool t4)]) (λo02 ho02=>?_) ?_
  ·have H:=iS bz;refine zK<|yF 4 [] [30] rfl<|xW [30] ho02 ?_ ?_
   ·intro bI N;exact yI [] [4] rfl<|yN<|zT (ct N H)
   intro bI N;exact wG [] [(4,vF)]<|yN<|zT (ct N H)
  intro t4 bK bi hMc1;refine zJ<|yZ ?_;obtain rfl:=zC hMc1;exact wV
 intro r0 I9 hs9 m9 aR le9 aS;subst aR;refine zV<|zH ?_;obtain rfl:=zC aH;exact xC aS
def wN(nest:(List zE))(i:Int):Option (Out Unit (Bool)):=do
 let t12<-(do
  if(decide (i<(nest.length:Int))) then
   pure (decide ((nest.length:Int)<=4))
  else
   pure false
    : Option Bool)
 if t12 then
  let t32<-(do
   let x<-idx nest i
   let y<-nI x.Lo i
   if(!y) then
    pure true
   else
    let x1<-idx nest i
    let y1<-nI x1.Hi i
    pure (!y1)
     : Option Bool)
  if t32 then
   pure (.ret false)
  else
   wN nest (W (i+1))
 else
  pure (.done ())
 partial_fixpoint
theorem zBg(nest:(List zE)):∀(i:Int) (o:Out Unit (Bool)),wN nest i=some o->∀{B}{I0 I:Imm}{Q p c},I0.le I->(S4 I p nest c)->NG Q->NO Q->(∀(I':Imm) ,o=(.done ())->I0.le I'->T 36 B Q (.exit 0) I' [] [(0,vS p nest c)])->(∀r I' ah m',o=(.ret r)->I0.le I'->RS Tryz.prog f153 B (zS  r) I' ah m'->T 36 B Q .ret I' ah m')->J Tryz.prog 36 B (nav (bodyOf f153) [1,0,1,0]) Q I [] [(0,vS p nest c),(3,vI i)]:=by
 refine wN.partial_correctness nest _ λaI ih i o N B I0 I Q p c H h hg ho hx hr=>yR hg ho<|yA<|yA ?_;refine wE N [] (λt12=>[(0,vS p nest c),(3,vI i),(12,.bool t12)]) (λo0 aB=>?_) ?_
 ·have H:=iS I;refine zK<|yF 5 [] [8] rfl<|xW [8] aB ?_ ?_
  ·intro hc N;exact yI [] [12] rfl<|yN<|zT (ct N H)
  intro hc N;exact wG [] [(12,vF)]<|yN<|zT (ct N H)
 intro t12 I0 le aN;have ⟨h,H⟩:=m2 le h H;refine zJ<|yD aN ?_ ?_
 ·intro aF N;refine zU<|zZ<|yH<|yA ?_;refine wE N [] (λt32=>[(0,vS p nest c),(3,vI i),(32,.bool t32)]) (λaM aA=>?_) ?_
  ·have H:=iS I0;refine zK<|yF 2 [] [15,16] rfl ?_;obtain⟨x,hy,N⟩:=zB aA;refine xN rfl rfl h hy ?_;intro ad aL ap al;obtain⟨p1,c1,p2,c2,rfl,h1,h2⟩:=rG al;refine yF 4 [] [18] rfl<|xE 0 ap [vS p1 x.Lo c1] (vS p1 x.Lo c1) rfl<|yF 6 [] [20] rfl<|bE N λy ay N=>vV (zBf x.Lo i _ ay h1) ?_;intro aQ af;have ⟨h,H⟩:=m2 af h H;refine yF 9 [] [23] rfl<|xW [23] N ?_ ?_
   ·intro bd N;exact wG [] [(32,vY)]<|yN<|zT (ct N H)
   intro bd N;refine yF 11 [] [24,25] rfl<|bE N λx1 aJ N=>xN rfl rfl h aJ ?_;intro ad1 bv ar az;obtain⟨p3,c3,p4,c4,rfl,h4,h5⟩:=rG az;refine yF 13 [] [27] rfl<|xE 1 ar [vS p4 x1.Hi c4] (vS p4 x1.Hi c4) rfl<|yF 15 [] [29] rfl<|bE N λy1 bb N=>vV (zBf x1.Hi i _ bb h5) ?_;intro bz aE;have H:=H.trans aE;exact yI [] [32] rfl<|yN<|zT (ct N H)
  intro t32 aU aK hMc1;have ⟨h,H⟩:=m2 aK h H;refine zJ<|yD hMc1 ?_ ?_
  ·intro bI N;exact vK [(2,vF)]<|xF<|zV<|zH<|zH<|hr _ _ _ _ (zC N).symm H ⟨_,_,(.tmp rfl ResV.nil),zO,⟨_,rfl,rfl,rfl⟩⟩
  intro bI N;exact zU<|zP<|zJ<|zK<|yI [] [3] rfl<|yS<|nU<|ih (W (i+1)) _ N H h hg ho hx hr
 intro aF N;exact wZ<|yN<|hx _  (zC N).symm H
def pF(nest:(List zE)):Option (Bool):=do
 match<-wN nest 0 with
 | .ret r0=>pure r0
 | .done _=>
  pure (decide ((nest.length:Int)<=4))
theorem zD1:∀nest r,pF nest=some r->∀{I:Imm}{p c},(S4 I p nest c)->RT 153 [vS p nest c] I [] (zS  r):=by
 intro nest r N I p c h;unfold pF at N;refine yJ func153 λB=>vK []<|zZ<|yG [3] rfl<|wC<|oA [(0,vS p nest c),(3,vI 0)] ?_;obtain⟨o02,ho02,aH⟩:=zB N;refine zBg nest 0 o02 ho02 iR h (λ_ _ _ h=>h) (λ_ _ h=>h) ?_ ?_
 ·intro bK  heq2 bi;subst o02;refine zR<|wW [2] rfl<|zJ<|yZ ?_;obtain rfl:=zC aH;exact wV
 intro r0 I9 hs9 m9 aR le9 aS;subst aR;refine zV<|zH ?_;obtain rfl:=zC aH;exact xC aS
mutual
def sH(nest:(List zE))(p1:(List Int))(most:Int):Option (Int):=do
 if((p1.length:Int)==(nest.length:Int)) then
  pure (id 1)
 else
  let x<-idx nest (p1.length:Int)
  let (y1,y2)<-oI x p1
  let n01<-sN (same nest) (same p1) (same most) (same y2) (same 1) (same y1)
  pure (id n01)
 partial_fixpoint
def sN(nest:(List zE))(p1:(List Int))(most:Int)(y2:Int)(n0:Int)(v04:Int):Option (Int):=do
 let t35<-(do
  if(decide (v04<y2)) then
   pure (decide (n0<=most))
  else
   pure false
    : Option Bool)
 if t35 then
  let l<-app 8 ([]:List Int) p1
  let l1<-app 8 l ([v04]:List Int)
  let y3<-sH (same nest) (same l1) (W (most - n0))
  sN (same nest) (same p1) (same most) (same y2) (W (n0+y3)) (W (v04+1))
 else
  pure (id n0)
 partial_fixpoint
end
theorem zFA:(∀(nest:(List zE)) (p1:(List Int)) (most:Int) r,sH nest p1 most=some r->∀{I:Imm}{p c p2 c1},(S4 I p nest c)->(S4 I p2 p1 c1)->RT 154 [vS p nest c,vS p2 p1 c1,vI most] I [] (yQ  r))/\(∀(nest:(List zE)) (p1:(List Int)) (most:Int) (y2:Int) (n0:Int) (v04:Int) o,sN nest p1 most y2 n0 v04=some o->∀{B}{I0 I:Imm}{Q p c p2 c1},I0.le I->(S4 I p nest c)->(S4 I p2 p1 c1)->NG Q->NO Q->(∀(I':Imm) (n01:Int),o=n01->I0.le I'->T 52 B Q (.exit 0) I' [] [(7,vI n01)])->J Tryz.prog 52 B (nav (bodyOf f154) [1,1,1,1,0,1,0]) Q I [] [(0,vS p nest c),(1,vS p2 p1 c1),(2,vI most),(7,vI n0),(9,vI y2),(10,vI v04)]):=by
 refine sH.mutual_partial_correctness _ _ ?_ ?_
 ·intro F_spec_l2Work_l1 ih_spec_l2Work_l1 nest p1 most r N I p c p2 c1 h h1;refine yJ func154 λB=>vK []<|wW [7] rfl<|zZ<|yG [15] rfl<|zJ<|yD N ?_ ?_
  ·intro hc N;refine yG [6] rfl<|xF<|zH ?_;obtain rfl:=zC N;exact wV
  intro hc N;refine zU<|xA<|yF 3 [] [18,20] rfl<|bE N λx hy N=>xN rfl rfl h hy ?_;intro ad aL ap al;obtain⟨p3,c2,p4,c3,rfl,h2,h3⟩:=rG al;refine xE 0 ap (cLoop x p3 c2 p4 c3) (vA (cLoop x p3 c2 p4 c3)) rfl<|yF 6 [] [23] rfl ?_;obtain⟨⟨y1,y2⟩,ay,N⟩:=zB N;refine xO (zBS x p1 _ ay h2 h3 h1) ?_;rintro I0 ax v2 k2 le - ⟨v02,v03,rfl,rfl,rfl,rfl⟩ -;have ⟨h,h1⟩:=m2 le h h1;refine yI [] [8,9] rfl<|zZ<|yG [10] rfl<|wC<|oA [(0,vS p nest c),(1,vS p2 p1 c1),(2,vI most),(7,vI 1),(9,vI y2),(10,vI y1)] ?_;obtain⟨aM,aA,aH⟩:=zB N;refine ih_spec_l2Work_l1 nest p1 most y2 1 y1 aM aA iR h h1 (λ_ _ _ h=>h) (λ_ _ h=>h) ?_;intro bK n01 heq1 bi;subst aM;refine zR<|wW [6] rfl<|zJ<|yZ ?_;obtain rfl:=zC aH;exact wV
 intro F_spec_l2Work F_spec_l2Work_l1 ih_spec_l2Work ih_spec_l2Work_l1 nest p1 most y2 n0 v04 o N B I0 I Q p c p2 c1 H h h1 hg ho hx;refine yR hg ho<|yA<|yA ?_;refine wE N [] (λt35=>[(0,vS p nest c),(1,vS p2 p1 c1),(2,vI most),(7,vI n0),(9,vI y2),(10,vI v04),(35,.bool t35)]) (λo0 aB=>?_) ?_
 ·have H:=iS I;refine zK<|yF 4 [] [31] rfl<|xW [31] aB ?_ ?_
  ·intro aF N;exact yI [] [35] rfl<|yN<|zT (ct N H)
  intro aF N;exact wG [] [(35,vF)]<|yN<|zT (ct N H)
 intro t35 aU af aN;have ⟨h,h1,H⟩:=m3 af h h1 H;refine zJ<|yD aN ?_ ?_
 ·intro bd N;refine zU<|zZ<|yH<|zK<|yF 2 [] [38,39] rfl<|tU [] Int ?_;intro b hb;have h6:RL aU [] ([]:List Int):=rfl;refine yF 4 [] [41] rfl ?_;obtain⟨bv,k0,k01⟩:=h1;have h1:SL aU (vS p2 p1 c1) p1:=⟨_,k0,k01⟩;obtain⟨l,aJ,N⟩:=zB N;refine pC 3 1 0 rfl rfl rfl h6 (.inl k0) k01 aJ λp5 c4 cs h7=>qE (zX [0] (ah:=[hO Int (vS p5 l c4) cs]))<|yF 6 [] [43] rfl<|tU [vI v04] Int ?_;intro b1 hb1;have h8:RL aU [vI v04] ([v04]:List Int):=rI [v04];obtain⟨l1,bb,N⟩:=zB N;refine pC 3 1 1 rfl rfl rfl h7 (.inr ⟨0,rfl⟩) h8 bb λp6 c5 aC h9=>qE (zX [1] (ah:=[hO Int (vS p6 l1 c5) aC]))<|yF 11 [] [48] rfl<|xM 0 rfl ?_;intro aQ aE hl0;have h10:=SL.of_frozen hl0 aE h9;have ⟨h,h1,H⟩:=m3 aE h h1 H;obtain⟨y3,bt,N⟩:=zB N;refine xO (ih_spec_l2Work nest l1 (W (most - n0)) _ bt h h10) ?_;rintro bz ax v2 k2 aK - ⟨v05,rfl,rfl,rfl⟩ -;have ⟨h,h1,H⟩:=m3 aK h h1 H;exact yI [] [7] rfl<|zP<|zJ<|zK<|yI [] [10] rfl<|yS<|nU<|ih_spec_l2Work_l1 nest p1 most y2 (W (n0+y3)) (W (v04+1)) _ N H h h1 hg ho hx
 intro bd N;exact wZ<|yN<|hx _ _ (zC N).symm H
theorem zFt:∀nest p1 most r,sH nest p1 most=some r->∀{I:Imm}{p c p2 c1},(S4 I p nest c)->(S4 I p2 p1 c1)->RT 154 [vS p nest c,vS p2 p1 c1,vI most] I [] (yQ  r):=zFA.1
def eQ(r:(List (List Int))×Bool):KT:=λkk I' ah v=>
 ∃v0 v1,ah=[]/\v=tupV [v0,v1]/\SL I' v0 r.1/\v1=.bool r.2
def qI(nest:(List zE)):Option ((List (List Int))×Bool):=do
 let t12<-(do
  let y<-pF nest
  if(!y) then
   pure true
  else
   let y1<-sH nest ([]:List Int) 1200
   pure (decide (y1>1200))
    : Option Bool)
 if t12 then
  pure (([]:List (List Int)),false)
 else
  let y2<-vH ([]:List (List Int)) nest ([]:List Int)
  if(decide ((y2.length:Int)>120)) then
   pure (([]:List (List Int)),false)
  else
   pure (y2,true)
theorem zCo:∀nest r,qI nest=some r->∀{I:Imm}{p c},(S4 I p nest c)->RT 117 [vS p nest c] I [] (eQ  r):=by
 intro nest r N I p c h;unfold qI at N;refine yJ func117 λB=>?_;have H:=iS I;refine vK []<|zZ<|yA ?_;refine wE N [] (λt12=>[(0,vS p nest c),(12,.bool t12)]) (λo0 aB=>?_) ?_
 ·have H:=iS I;refine zK<|yF 1 [] [5] rfl ?_;obtain⟨y,hy,N⟩:=zB aB;refine vV (zD1 nest _ hy h) ?_;intro aU le;have ⟨h,H⟩:=m2 le h H;refine yF 4 [] [8] rfl<|xW [8] N ?_ ?_
  ·intro hc N;exact wG [] [(12,vY)]<|yN<|zT (ct N H)
  intro hc N;refine yF 5 [] [9] rfl<|bE N λy1 ay N=>jE (zFt nest ([]:List Int) 1200 _ ay h (SL.nil _)) ?_;intro aQ af;have H:=H.trans af;exact yI [] [12] rfl<|yN<|zT (ct N H)
 intro t12 I0 aE aN;have h:=h.mono aE;refine zJ<|yD aN ?_ ?_
 ·intro aF N;refine yE<|tU [] (List Int) ?_;intro b hb;have h3:RL I0 [] ([]:List (List Int)):=rfl;refine yI [] [2,3] rfl<|xF<|zH<|xB 0 rfl ?_;intro bz aK hl0;have h4:=SL.of_frozen hl0 aK h3;obtain rfl:=zC N;exact xC ⟨_,_,(.tmp rfl (.tmp rfl ResV.nil)),zO,⟨_,_,rfl,rfl,h4,rfl⟩⟩
 intro aF N;refine zU<|xA<|tU [] (List Int) ?_;intro b1 hb1;have h5:RL I0 [] ([]:List (List Int)):=rfl;refine yF 2 [] [15] rfl<|bE N λy2 aJ N=>rC (zAf ([]:List (List Int)) nest ([]:List Int) _ aJ h5 h (SL.nil _)) rfl ?_;rintro bK ax v2 k2 bi - ⟨p1,c1,cs,rfl,rfl,h6⟩ -;refine yI [] [4] rfl<|zZ<|yG [19] rfl<|zJ<|yD N ?_ ?_
 ·intro bd N;refine yE<|tU [] (List Int) ?_;intro b2 hb2;have h7:RL bK [] ([]:List (List Int)):=rfl;refine yI [] [2,3] rfl<|xF<|zH<|xB 0 rfl ?_;intro bO bw hl01;have h8:=SL.of_frozen hl01 bw h7;obtain rfl:=zC N;exact xC ⟨_,_,(.tmp rfl (.tmp rfl ResV.nil)),zO,⟨_,_,rfl,rfl,h8,rfl⟩⟩
 intro bd N;refine zU<|wW [2,3] rfl<|xF<|xB 0 rfl ?_;intro I06 bD hl02;have h9:=SL.of_frozen hl02 bD h6;obtain rfl:=zC N;exact xC ⟨_,_,(.tmp rfl (.tmp rfl ResV.nil)),zO,⟨_,_,rfl,rfl,h9,rfl⟩⟩
def vZ(a0:zI)(aa:Int)(i:Int):Option (Out Unit (Bool)):=do
 if(decide (i<(a0.Subs.length:Int))) then
  let t29<-(do
   let x<-idx a0.Subs i
   let y<-vX x
   if(!y) then
    pure true
   else
    let x1<-idx a0.Subs i
    let y1<-qH x1
    pure (decide (y1>aa))
     : Option Bool)
  if t29 then
   pure (.ret false)
  else
   vZ a0 aa (W (i+1))
 else
  pure (.done ())
 partial_fixpoint
theorem zCQ(a0:zI)(aa:Int):∀(i:Int) (o:Out Unit (Bool)),vZ a0 aa i=some o->∀{B}{I0 I:Imm}{Q p c}{b:Nat},I0.le I->(S4 I p a0.Subs c)->NG Q->NO Q->(∀(I':Imm) ,o=(.done ())->I0.le I'->T 56 B Q (.exit 0) I' [hB b (cAccess a0 p c)] [(2,vP b 0)])->(∀r I' ah m',o=(.ret r)->I0.le I'->RS Tryz.prog f155 B (zS  r) I' ah m'->T 56 B Q .ret I' ah m')->J Tryz.prog 56 B (nav (bodyOf f155) [1,0,1,0]) Q I [hB b (cAccess a0 p c)] [(1,vI aa),(2,vP b 0),(5,vI i)]:=by
 refine vZ.partial_correctness a0 aa _ λaI ih i o N B I0 I Q p c b H h hg ho hx hr=>yR hg ho<|yA<|yE<|yI [0] [10] rfl<|zJ<|yD N ?_ ?_
 ·intro hc N;refine zU<|zZ<|yH<|yA ?_;refine wE N [hB b (cAccess a0 p c)] (λt29=>[(1,vI aa),(2,vP b 0),(5,vI i),(29,.bool t29)]) (λo0 aB=>?_) ?_
  ·have H:=iS I;refine zK<|yF 3 [0] [14,15] rfl ?_;obtain⟨x,hy,N⟩:=zB aB;refine xN rfl rfl h hy ?_;intro ad aL ap al;obtain⟨p1,c1,rfl,h1⟩:=yO al;refine xE 0 ap (cAff x p1 c1) (vA (cAff x p1 c1)) rfl<|bE N λy ay N=>vV (kC x _ ay h1) ?_;intro aU le;have ⟨h,H⟩:=m2 le h H;refine yF 8 [] [20] rfl<|xW [20] N ?_ ?_
   ·intro aF N;exact wG [] [(29,vY)]<|yN<|zT (ct N H)
   intro aF N;refine yF 11 [0] [22,23] rfl<|bE N λx1 aJ N=>xN rfl rfl h aJ ?_;intro ad1 bv ar az;obtain⟨p2,c2,rfl,h3⟩:=yO az;refine xE 0 ar (cAff x1 p2 c2) (vA (cAff x1 p2 c2)) rfl<|bE N λy1 bb N=>jE (eX x1 _ bb h3) ?_;intro aQ af;have H:=H.trans af;exact yI [] [29] rfl<|yN<|zT (ct N H)
  intro t29 I0 aE aN;have ⟨h,H⟩:=m2 aE h H;refine zJ<|yD aN ?_ ?_
  ·intro bd N;exact vK [(4,vF)]<|xF<|zV<|zH<|zH<|hr _ _ _ _ (zC N).symm H ⟨_,_,(.tmp rfl ResV.nil),zO,⟨_,rfl,rfl,rfl⟩⟩
  intro bd N;exact zU<|zP<|zJ<|zK<|yI [] [5] rfl<|yS<|nU<|ih (W (i+1)) _ N H h hg ho hx hr
 intro hc N;exact wZ<|yN<|hx _  (zC N).symm H
def qW(a0:zI)(aa:Int):Option (Bool):=do
 match<-vZ a0 aa 0 with
 | .ret r0=>pure r0
 | .done _=>
  let t4<-(do
   if((a0.Array.l.length:Int)==1) then
    if(!(Op.bytesLess a0.Array.l ([65]:List UInt8))) then
     if(Op.bytesLess a0.Array.l ([68]:List UInt8)||a0.Array.l==([68]:List UInt8)) then
      if(decide ((a0.Subs.length:Int)>=1)) then
       pure (decide ((a0.Subs.length:Int)<=2))
      else
       pure false
     else
      pure false
    else
     pure false
   else
    pure false
     : Option Bool)
  pure (id t4)
theorem zAg:∀a0 aa r,qW a0 aa=some r->∀{I:Imm}{p c},(S4 I p a0.Subs c)->RT 155 [vA (cAccess a0 p c),vI aa] I [] (zS  r):=by
 intro a0 aa r N I p c h;unfold qW at N;refine yJ func155 λB=>?_;have H:=iS I;refine yE<|uH (cAccess a0 p c) ?_;intro b hb;refine wG [] []<|zZ<|yG [5] rfl<|wC<|oA [(1,vI aa),(2,vP b 0),(5,vI 0)] ?_;obtain⟨aM,aA,aH⟩:=zB N;refine zCQ a0 aa 0 aM aA iR h (λ_ _ _ h=>h) (λ_ _ h=>h) ?_ ?_
 ·intro bz  heq1 aK;subst aM;have H:=H.trans aK;refine zR<|zJ<|yA ?_;refine wE aH [] (λt4=>[(4,.bool t4)]) (λo02 ho02=>?_) ?_
  ·have H:=iS bz;refine zK<|yF 5 [0] [34] rfl<|xW [34] ho02 ?_ ?_
   ·intro bI N;refine yF 10 [0] [39] rfl<|xW [39] N ?_ ?_
    ·intro bN N;refine yF 15 [0] [44] rfl<|xW [44] N ?_ ?_
     ·intro hc5 N;refine yF 21 [0] [50] rfl<|xW [50] N ?_ ?_
      ·intro hc6 N;exact yI [0] [4] rfl<|xV zO<|yN<|zT (ct N H)
      intro hc6 N;exact wG [] [(4,vF)]<|xV zO<|yN<|zT (ct N H)
     intro hc5 N;exact wG [] [(4,vF)]<|xV zO<|yN<|zT (ct N H)
    intro bN N;exact wG [] [(4,vF)]<|xV zO<|yN<|zT (ct N H)
   intro bI N;exact wG [] [(4,vF)]<|xV zO<|yN<|zT (ct N H)
  intro t4 bK bi hMc1;refine zJ<|yZ ?_;obtain rfl:=zC hMc1;exact wV
 intro r0 I9 hs9 m9 aR le9 aS;subst aR;refine zV<|zH ?_;obtain rfl:=zC aH;exact xC aS
def mR(kind:Int):Option (Int):=do
 let t4<-(do
  if(kind==1) then
   pure (kind==1)
  else
   let t41<-(do
    if(kind==2) then
     pure (kind==2)
    else
     pure (kind==3)
      : Option Bool)
   pure (id t41)
    : Option Bool)
 if t4 then
  pure (id 0)
 else
  let t8<-(do
   if(kind==4) then
    pure (kind==4)
   else
    let t81<-(do
     if(kind==5) then
      pure (kind==5)
     else
      pure (kind==6)
       : Option Bool)
    pure (id t81)
     : Option Bool)
  if t8 then
   pure (id 2)
  else
   pure (-1)
theorem zBh:∀kind r,mR kind=some r->∀{I:Imm} ,RT 187 [vI kind] I [] (yQ  r):=by
 intro kind r N I;unfold mR at N;refine yJ func187 λB=>?_;have H:=iS I;refine vK []<|zZ<|yG [3] rfl<|wC<|yA<|yG [4] rfl<|zJ ?_;refine wE N [] (λt4=>[(3,vI kind),(4,.bool t4)]) (λo0 aB=>?_) ?_
 ·have H:=iS I;refine yD aB ?_ ?_
  ·intro hc N;exact zU<|yN<|zT (ct N H)
  intro hc N;refine yG [4] rfl<|zJ ?_;refine wE N [] (λt41=>[(3,vI kind),(4,.bool t41)]) (λaM aA=>?_) ?_
  ·have H:=iS I;refine yD aA ?_ ?_
   ·intro aF N;exact zU<|yN<|zT (ct N H)
   intro aF N;exact zK<|yI [] [4] rfl<|yN<|zT (ct N H)
  intro t41 aU le hMc1;have H:=H.trans le;exact yN<|zT (ct hMc1 H)
 intro t4 I0 af aN;have H:=H.trans af;refine zJ<|yD aN ?_ ?_
 ·intro bd N;refine yG [2] rfl<|xF<|zV<|zH ?_;obtain rfl:=zC N;exact wV
 intro bd N;refine yA<|yG [8] rfl<|zJ ?_;refine wE N [] (λt8=>[(8,.bool t8)]) (λo02 ho02=>?_) ?_
 ·have H:=iS I0;refine yD ho02 ?_ ?_
  ·intro bI N;exact zU<|yN<|zT (ct N H)
  intro bI N;refine yG [8] rfl<|zJ ?_;refine wE N [] (λt81=>[(8,.bool t81)]) (λo03 ho03=>?_) ?_
  ·have H:=iS I0;refine yD ho03 ?_ ?_
   ·intro bN N;exact zU<|yN<|zT (ct N H)
   intro bN N;exact zK<|yI [] [8] rfl<|yN<|zT (ct N H)
  intro t81 bz aE hMc3;have H:=H.trans aE;exact yN<|zT (ct hMc3 H)
 intro t8 aQ aK hMc2;refine zJ<|yD hMc2 ?_ ?_
 ·intro hc5 N;refine yG [2] rfl<|xF<|zV<|zH ?_;obtain rfl:=zC N;exact wV
 intro hc5 N;refine zU<|zP<|wW [2] rfl<|zJ<|yZ ?_;obtain rfl:=zC N;exact wV
def qJ(a0:zI):Option (Bool):=do
 let t2<-(do
  if(a0.Array.l==([]:List UInt8)) then
   pure ((a0.Subs.length:Int)==0)
  else
   pure false
    : Option Bool)
 pure (id t2)
theorem eY:∀a0 r,qJ a0=some r->∀{I:Imm}{p c},(S4 I p a0.Subs c)->RT 197 [vA (cAccess a0 p c)] I [] (zS  r):=by
 intro a0 r N I p c h;unfold qJ at N;refine yJ func197 λB=>?_;have H:=iS I;refine yE<|uH (cAccess a0 p c) ?_;intro b hb;refine wG [] []<|zJ<|yA ?_;refine wE N [] (λt2=>[(2,.bool t2)]) (λo0 aB=>?_) ?_
 ·have H:=iS I;refine zK<|yF 4 [0] [6] rfl<|xW [6] aB ?_ ?_
  ·intro hc N;exact yI [0] [2] rfl<|xV zO<|yN<|zT (ct N H)
  intro hc N;exact wG [] [(2,vF)]<|xV zO<|yN<|zT (ct N H)
 intro t2 I0 le aN;refine zJ<|yZ ?_;obtain rfl:=zC aN;exact wV
def oF(a0:zA):Option (Bool):=do
 let t2<-(do
  if((a0.Coefs.length:Int)==0) then
   pure (a0.Const==0)
  else
   pure false
    : Option Bool)
 pure (id t2)
theorem zAA:∀a0 r,oF a0=some r->∀{I:Imm}{p c},(S4 I p a0.Coefs c)->RT 198 [vA (cAff a0 p c)] I [] (zS  r):=by
 intro a0 r N I p c h;unfold oF at N;refine yJ func198 λB=>?_;have H:=iS I;refine yE<|uH (cAff a0 p c) ?_;intro b hb;refine wG [] []<|zJ<|yA ?_;refine wE N [] (λt2=>[(2,.bool t2)]) (λo0 aB=>?_) ?_
 ·have H:=iS I;refine zK<|yF 5 [0] [7] rfl<|xW [7] aB ?_ ?_
  ·intro hc N;exact yI [0] [2] rfl<|xV zO<|yN<|zT (ct N H)
  intro hc N;exact wG [] [(2,vF)]<|xV zO<|yN<|zT (ct N H)
 intro t2 I0 le aN;refine zJ<|yZ ?_;obtain rfl:=zC aN;exact wV
def kX(e0:zF)(aa:Int):Option (Bool):=do
 if(e0.Kind==2) then
  let t4<-(do
   if(e0.Num==0) then
    let y<-qJ e0.Read
    if y then
     let y1<-vX e0.Index
     if y1 then
      let y2<-qH e0.Index
      pure (decide (y2<=aa))
     else
      pure false
    else
     pure false
   else
    pure false
     : Option Bool)
  pure (id t4)
 else
  if(e0.Kind==3) then
   let t41<-(do
    if(e0.Num==0) then
     let y3<-oF e0.Index
     if y3 then
      let y4<-qW e0.Read aa
      pure (id y4)
     else
      pure false
    else
     pure false
      : Option Bool)
   pure (id t41)
  else
   if(e0.Kind==1) then
    let t42<-(do
     if(decide (e0.Num>=0)) then
      if(decide (e0.Num<=99)) then
       let y5<-oF e0.Index
       if y5 then
        let y6<-qJ e0.Read
        pure (id y6)
       else
        pure false
      else
       pure false
     else
      pure false
       : Option Bool)
    pure (id t42)
   else
    let t43<-(do
     if(e0.Num==0) then
      let y7<-oF e0.Index
      if y7 then
       let y8<-qJ e0.Read
       pure (id y8)
      else
       pure false
     else
      pure false
       : Option Bool)
    pure (id t43)
theorem zGh:∀e0 aa r,kX e0 aa=some r->∀{I:Imm}{p c p1 c1 p2 c2},(S4 I p e0.Index.Coefs c)->(S4 I p1 e0.Read.Subs c1)->(S4 I p2 e0.Kids c2)->RT 188 [vA (cExpr e0 p c p1 c1 p2 c2),vI aa] I [] (zS  r):=by
 intro e0 aa r N I p c p1 c1 p2 c2 h h1 h2;unfold kX at N;refine yJ func188 λB=>?_;have H:=iS I;refine yE<|uH (cExpr e0 p c p1 c1 p2 c2) ?_;intro b hb;refine wG [] []<|zZ<|yE<|yI [0] [7] rfl<|zJ<|yD N ?_ ?_
 ·intro hc N;refine yA ?_;refine wE N [] (λt4=>[(4,.bool t4)]) (λo0 aB=>?_) ?_
  ·have H:=iS I;refine zK<|yF 4 [0] [11] rfl<|xW [11] aB ?_ ?_
   ·intro aF N;refine qA 6 [0] [(13,vA (cAccess e0.Read p1 c1))]<|bE N λy hy N=>vV (eY e0.Read _ hy h1) ?_;intro aU le;have ⟨h,H⟩:=m2 le h H;refine yF 9 [] [16] rfl<|xW [16] N ?_ ?_
    ·intro bd N;refine qA 11 [0] [(18,vA (cAff e0.Index p c))]<|bE N λy1 ay N=>vV (kC e0.Index _ ay h) ?_;intro aQ af;have ⟨h,H⟩:=m2 af h H;refine yF 14 [] [21] rfl<|xW [21] N ?_ ?_
     ·intro bI N;refine qA 16 [0] [(23,vA (cAff e0.Index p c))]<|bE N λy2 aJ N=>jE (eX e0.Index _ aJ h) ?_;intro bz aE;have H:=H.trans aE;exact yI [] [4] rfl<|xV zO<|yN<|zT (ct N H)
     intro bI N;exact wG [] [(4,vF)]<|xV zO<|yN<|zT (ct N H)
    intro bd N;exact wG [] [(4,vF)]<|xV zO<|yN<|zT (ct N H)
   intro aF N;exact wG [] [(4,vF)]<|xV zO<|yN<|zT (ct N H)
  intro t4 I0 aK aN;refine xF<|zH ?_;obtain rfl:=zC aN;exact wV
 intro hc N;refine zU<|zZ<|yE<|yI [0] [30] rfl<|zJ<|yD N ?_ ?_
 ·intro bN N;refine yA ?_;refine wE N [] (λt41=>[(4,.bool t41)]) (λaM aA=>?_) ?_
  ·have H:=iS I;refine zK<|yF 4 [0] [34] rfl<|xW [34] aA ?_ ?_
   ·intro hc5 N;refine qA 6 [0] [(36,vA (cAff e0.Index p c))]<|bE N λy3 bb N=>vV (zAA e0.Index _ bb h) ?_;intro bO bi;have ⟨h1,H⟩:=m2 bi h1 H;refine yF 9 [] [39] rfl<|xW [39] N ?_ ?_
    ·intro hc6 N;refine qA 12 [0] [(41,vA (cAccess e0.Read p1 c1)),(42,vI aa)]<|bE N λy4 bt N=>vV (zAg e0.Read aa _ bt h1) ?_;intro I06 bw;have H:=H.trans bw;exact yI [] [4] rfl<|xV zO<|yN<|zT (ct N H)
    intro hc6 N;exact wG [] [(4,vF)]<|xV zO<|yN<|zT (ct N H)
   intro hc5 N;exact wG [] [(4,vF)]<|xV zO<|yN<|zT (ct N H)
  intro t41 bK bD hMc1;refine xF<|zH ?_;obtain rfl:=zC hMc1;exact wV
 intro bN N;refine zU<|zZ<|yE<|yI [0] [47] rfl<|zJ<|yD N ?_ ?_
 ·intro hc7 N;refine yA ?_;refine wE N [] (λt42=>[(4,.bool t42)]) (λo02 ho02=>?_) ?_
  ·have H:=iS I;refine zK<|yF 4 [0] [51] rfl<|xW [51] ho02 ?_ ?_
   ·intro hc8 N;refine yF 9 [0] [56] rfl<|xW [56] N ?_ ?_
    ·intro hc9 N;refine qA 11 [0] [(58,vA (cAff e0.Index p c))]<|bE N λy5 bH N=>vV (zAA e0.Index _ bH h) ?_;intro I08 le7;have ⟨h1,H⟩:=m2 le7 h1 H;refine yF 14 [] [61] rfl<|xW [61] N ?_ ?_
     ·intro hc10 N;refine qA 16 [0] [(63,vA (cAccess e0.Read p1 c1))]<|bE N λy6 hy6 N=>vV (eY e0.Read _ hy6 h1) ?_;intro I09 le8;have H:=H.trans le8;exact yI [] [4] rfl<|xV zO<|yN<|zT (ct N H)
     intro hc10 N;exact wG [] [(4,vF)]<|xV zO<|yN<|zT (ct N H)
    intro hc9 N;exact wG [] [(4,vF)]<|xV zO<|yN<|zT (ct N H)
   intro hc8 N;exact wG [] [(4,vF)]<|xV zO<|yN<|zT (ct N H)
  intro t42 I07 le9 hMc2;refine xF<|zH ?_;obtain rfl:=zC hMc2;exact wV
 intro hc7 N;refine zU<|zJ<|yA ?_;refine wE N [] (λt43=>[(4,.bool t43)]) (λo03 ho03=>?_) ?_
 ·have H:=iS I;refine zK<|yF 4 [0] [69] rfl<|xW [69] ho03 ?_ ?_
  ·intro hc11 N;refine qA 6 [0] [(71,vA (cAff e0.Index p c))]<|bE N λy7 hy7 N=>vV (zAA e0.Index _ hy7 h) ?_;intro bV le10;have ⟨h1,H⟩:=m2 le10 h1 H;refine yF 9 [] [74] rfl<|xW [74] N ?_ ?_
   ·intro hc12 N;refine qA 11 [0] [(76,vA (cAccess e0.Read p1 c1))]<|bE N λy8 hy8 N=>vV (eY e0.Read _ hy8 h1) ?_;intro bU le11;have H:=H.trans le11;exact yI [] [4] rfl<|xV zO<|yN<|zT (ct N H)
   intro hc12 N;exact wG [] [(4,vF)]<|xV zO<|yN<|zT (ct N H)
  intro hc11 N;exact wG [] [(4,vF)]<|xV zO<|yN<|zT (ct N H)
 intro t43 bR le12 hMc3;refine zJ<|yZ ?_;obtain rfl:=zC hMc3;exact wV
mutual
def tG(e0:zF)(aa:Int)(ai:Int):Option (Bool):=do
 let t24<-(do
  if(decide (ai<1)) then
   pure true
  else
   let y<-mR e0.Kind
   if(y != (e0.Kids.length:Int)) then
    pure true
   else
    let y1<-kX e0 aa
    pure (!y1)
    : Option Bool)
 if t24 then
  pure false
 else
  match<-vM (same e0) (same aa) (same ai) (same 0) with
  | .ret r0=>pure r0
  | .done _=>
   pure true
 partial_fixpoint
def vM(e0:zF)(aa:Int)(ai:Int)(i:Int):Option (Out Unit (Bool)):=do
 if(decide (i<(e0.Kids.length:Int))) then
  let x<-idx e0.Kids i
  let y2<-tG (same x) (same aa) (W (ai - 1))
  if(!y2) then
   pure (.ret false)
  else
   vM (same e0) (same aa) (same ai) (W (i+1))
 else
  pure (.done ())
 partial_fixpoint
end
theorem zEV:(∀(e0:zF) (aa:Int) (ai:Int) r,tG e0 aa ai=some r->∀{I:Imm}{p c p1 c1 p2 c2},(S4 I p e0.Index.Coefs c)->(S4 I p1 e0.Read.Subs c1)->(S4 I p2 e0.Kids c2)->RT 156 [vA (cExpr e0 p c p1 c1 p2 c2),vI aa,vI ai] I [] (zS  r))/\(∀(e0:zF) (aa:Int) (ai:Int) (i:Int) o,vM e0 aa ai i=some o->∀{B}{I0 I:Imm}{Q p c p1 c1 p2 c2}{b:Nat},I0.le I->(S4 I p e0.Index.Coefs c)->(S4 I p1 e0.Read.Subs c1)->(S4 I p2 e0.Kids c2)->NG Q->NO Q->(∀(I':Imm) ,o=(.done ())->I0.le I'->T 42 B Q (.exit 0) I' [] [])->(∀r I' ah m',o=(.ret r)->I0.le I'->RS Tryz.prog f156 B (zS  r) I' ah m'->T 42 B Q .ret I' ah m')->J Tryz.prog 42 B (nav (bodyOf f156) [1,1,0,1,0]) Q I [hB b (cExpr e0 p c p1 c1 p2 c2)] [(1,vI aa),(2,vI ai),(3,vP b 0),(7,vI i)]):=by
 refine tG.mutual_partial_correctness _ _ ?_ ?_
 ·intro F_spec_l3Shape_l1 ih_spec_l3Shape_l1 e0 aa ai r N I p c p1 c1 p2 c2 h h1 h2;refine yJ func156 λB=>?_;have H:=iS I;refine yE<|uH (cExpr e0 p c p1 c1 p2 c2) ?_;intro b hb;refine wG [] []<|zZ<|yA ?_;refine wE N [hB b (cExpr e0 p c p1 c1 p2 c2)] (λt24=>[(1,vI aa),(2,vI ai),(3,vP b 0),(24,.bool t24)]) (λo0 aB=>?_) ?_
  ·have H:=iS I;cases hc:(decide (ai<1)) with
   | true=>
    have hM0:=rF hc aB;refine wX [.p (vI ai) [],.q vY,.q vY,.p undef [],.p undef [],.p undef [],.p undef [],.p undef [],.p undef [],.p undef [],.p vY [],.p vY [],.p undef [],.p undef [],.p undef [],.p undef [],.p vY []] [[],[(0,false)],[(1,false)],[(2,false)],[(2,false),(3,false)],[(2,false),(4,false)],[(2,false)],[(2,false),(6,false)],[(2,false),(7,false)],[(2,false),(5,false),(8,false)],[(2,false),(9,false)],[(10,false)],[(11,false)],[(11,false)],[(11,false),(12,false),(13,false)],[(11,false),(14,false)],[(11,false),(15,false)]] [hB b (cExpr e0 p c p1 c1 p2 c2)] [] [(16,false)] (zX [0]) ?_ ?_
    ·refine Op<|Oq ?_<|Oq ?_<|Op<|Op<|Op<|Op<|Op<|Op<|Op<|Op<|Op<|Op<|Op<|Op<|Op<|Op<|On
     ·intro I1 hf af;refine yP [8] rfl<|rS 2 [(9,.bool (decide (ai<1)))] ?_;rw[hc];exact yT iR
     intro I1 hf af;exact dE [(9,vY)]<|rS 3 [(10,vY)]<|yT iR
    intro aU le;refine yP [1,2,3,24] rfl ?_;have H:=H.trans le;exact yC rfl<|yN<|zT (ct hM0 H)
   | false=>
    have hM01:=sF hc aB;obtain⟨y,hy,N⟩:=zB hM01;cases aF:(y != (e0.Kids.length:Int)) with
    | true=>
     have hM02:=rF aF N;refine wX [.p (vI ai) [],.q vF,.q vF,.p (vP b 0) [],.p (vI e0.Kind) [0],.q (vI y),.p (vP b 6) [],.p (vS p2 e0.Kids c2) [0],.p (vI (e0.Kids.length:Int)) [],.q vY,.q vY,.q vY,.p undef [],.p undef [],.p undef [],.p undef [],.p vY []] [[],[(0,false)],[(1,false)],[(2,false)],[(2,false),(3,false)],[(2,false),(4,false)],[(2,false)],[(2,false),(6,false)],[(2,false),(7,false)],[(2,false),(5,false),(8,false)],[(2,false),(9,false)],[(10,false)],[(11,false)],[(11,false)],[(11,false),(12,false),(13,false)],[(11,false),(14,false)],[(11,false),(15,false)]] [hB b (cExpr e0 p c p1 c1 p2 c2)] [] [(16,false)] (zX [0]) ?_ ?_
     ·refine Op<|Oq ?_<|Oq ?_<|Op<|Op<|Oq ?_<|Op<|Op<|Op<|Oq ?_<|Oq ?_<|Oq ?_<|Op<|Op<|Op<|Op<|Op<|On
      ·intro I1 hf af;refine yP [8] rfl<|rS 2 [(9,.bool (decide (ai<1)))] ?_;rw[hc];exact yT iR
      ·intro I1 hf af;exact dE [(9,vF)]<|rS 3 [(10,vF)]<|yT iR
      ·intro I1 hf af;refine yP [10,12] rfl ?_;have H:=iS I1;refine jE (zBh e0.Kind _ hy ) ?_;intro aQ af;have H:=H.trans af;exact yT H
      ·intro I1 hf af;refine yP [10,13,16] rfl<|rS 10 [(17,.bool (y != (e0.Kids.length:Int)))] ?_;rw[aF];exact yT iR
      ·intro I1 hf af;exact yP [10,17] rfl<|rS 11 [(18,vY)]<|yT iR
      intro I1 hf af;exact dE [(18,vY)]<|rS 12 [(19,vY)]<|yT iR
     intro bz aE;refine yP [1,2,3,24] rfl ?_;have H:=H.trans aE;exact yC rfl<|yN<|zT (ct hM02 H)
    | false=>
     have hM03:=sF aF N;obtain⟨y1,ay,N⟩:=zB hM03;refine wX [.p (vI ai) [],.q vF,.q vF,.p (vP b 0) [],.p (vI e0.Kind) [0],.q (vI y),.p (vP b 6) [],.p (vS p2 e0.Kids c2) [0],.p (vI (e0.Kids.length:Int)) [],.q vF,.q vF,.q vF,.p (vA (cExpr e0 p c p1 c1 p2 c2)) [0],.p (vI aa) [],.q (.bool y1),.p (.bool (!y1)) [],.p (.bool (!y1)) []] [[],[(0,false)],[(1,false)],[(2,false)],[(2,false),(3,false)],[(2,false),(4,false)],[(2,false)],[(2,false),(6,false)],[(2,false),(7,false)],[(2,false),(5,false),(8,false)],[(2,false),(9,false)],[(10,false)],[(11,false)],[(11,false)],[(11,false),(12,false),(13,false)],[(11,false),(14,false)],[(11,false),(15,false)]] [hB b (cExpr e0 p c p1 c1 p2 c2)] [] [(16,false)] (zX [0]) ?_ ?_
     ·refine Op<|Oq ?_<|Oq ?_<|Op<|Op<|Oq ?_<|Op<|Op<|Op<|Oq ?_<|Oq ?_<|Oq ?_<|Op<|Op<|Oq ?_<|Op<|Op<|On
      ·intro I1 hf af;refine yP [8] rfl<|rS 2 [(9,.bool (decide (ai<1)))] ?_;rw[hc];exact yT iR
      ·intro I1 hf af;exact dE [(9,vF)]<|rS 3 [(10,vF)]<|yT iR
      ·intro I1 hf af;refine yP [10,12] rfl ?_;have H:=iS I1;refine jE (zBh e0.Kind _ hy ) ?_;intro aQ af;have H:=H.trans af;exact yT H
      ·intro I1 hf af;refine yP [10,13,16] rfl<|rS 10 [(17,.bool (y != (e0.Kids.length:Int)))] ?_;rw[aF];exact yT iR
      ·intro I1 hf af;exact yP [10,17] rfl<|rS 11 [(18,vF)]<|yT iR
      ·intro I1 hf af;exact dE [(18,vF)]<|rS 12 [(19,vF)]<|yT iR
      intro I1 hf af;refine yP [19,20,21] rfl ?_;have H:=iS I1;have ⟨h,h1,h2⟩:=m3 af h h1 h2;refine vV (zGh e0 aa _ ay h h1 h2) ?_;intro bK aK;have H:=H.trans aK;exact yT H
     intro bO bi;refine yP [1,2,3,24] rfl ?_;have H:=H.trans bi;exact yC rfl<|yN<|zT (ct N H)
  intro t24 I0 bw aN;have ⟨h,h1,h2⟩:=m3 bw h h1 h2;refine zJ<|yD aN ?_ ?_
  ·intro bd N;refine vK [(6,vF)]<|xF<|zH ?_;obtain rfl:=zC N;exact wV
  intro bd N;refine zU<|zZ<|yG [7] rfl<|wC<|oA [(1,vI aa),(2,vI ai),(3,vP b 0),(7,vI 0)] ?_;obtain⟨aM,aA,aH⟩:=zB N;refine ih_spec_l3Shape_l1 e0 aa ai 0 aM aA iR h h1 h2 (λ_ _ _ h=>h) (λ_ _ h=>h) ?_ ?_
  ·intro I07  heq1 le7;subst aM;refine zR<|zHd [(6,vY)]<|zJ<|yZ ?_;obtain rfl:=zC aH;exact wV
  intro r0 I9 hs9 m9 aR le9 aS;subst aR;refine zV<|zH ?_;obtain rfl:=zC aH;exact xC aS
 intro F_spec_l3Shape F_spec_l3Shape_l1 ih_spec_l3Shape ih_spec_l3Shape_l1 e0 aa ai i o N B I0 I Q p c p1 c1 p2 c2 b H h h1 h2 hg ho hx hr;refine yR hg ho<|yA<|yE<|yI [0] [29] rfl<|zJ<|yD N ?_ ?_
 ·intro bI N;refine zU<|zZ<|yH<|yE<|yF 3 [0] [33,34] rfl<|bE N λx aJ N=>xN rfl rfl h2 aJ ?_;intro ad aL ap al;obtain⟨p3,c3,p4,c4,p5,c5,rfl,h5,h6,h7⟩:=tA al;refine xE 0 ap (cExpr x p3 c3 p4 c4 p5 c5) (vA (cExpr x p3 c3 p4 c4 p5 c5)) rfl<|yF 8 [] [37,39] rfl<|bE N λy2 bb N=>xO (ih_spec_l3Shape x aa (W (ai - 1)) _ bb h5 h6 h7) ?_;rintro I06 ax v2 k2 bD - ⟨v05,rfl,rfl,rfl⟩ -;have ⟨h,h1,h2,H⟩:=m4 bD h h1 h2 H;refine yI [] [41] rfl<|zJ<|yD N ?_ ?_
  ·intro bN N;exact vK [(6,vF)]<|xF<|zV<|zH<|zH<|hr _ _ _ _ (zC N).symm H ⟨_,_,(.tmp rfl ResV.nil),zO,⟨_,rfl,rfl,rfl⟩⟩
  intro bN N;exact zU<|zP<|zJ<|zK<|yI [] [7] rfl<|yS<|nU<|ih_spec_l3Shape_l1 e0 aa ai (W (i+1)) _ N H h h1 h2 hg ho hx hr
 intro bI N;exact wZ<|xV zO<|yN<|hx _  (zC N).symm H
theorem zFB:∀e0 aa ai r,tG e0 aa ai=some r->∀{I:Imm}{p c p1 c1 p2 c2},(S4 I p e0.Index.Coefs c)->(S4 I p1 e0.Read.Subs c1)->(S4 I p2 e0.Kids c2)->RT 156 [vA (cExpr e0 p c p1 c1 p2 c2),vI aa,vI ai] I [] (zS  r):=zEV.1
mutual
def tY(e0:zF)(ai:Int):Option (Int):=do
 let n01<-vO (same e0) (same ai) (same 1) (same 0)
 pure (id n01)
 partial_fixpoint
def vO(e0:zF)(ai:Int)(n0:Int)(i:Int):Option (Int):=do
 let t15<-(do
  if(decide (i<(e0.Kids.length:Int))) then
   pure (decide (ai>0))
  else
   pure false
    : Option Bool)
 if t15 then
  let x<-idx e0.Kids i
  let y<-tY (same x) (W (ai - 1))
  vO (same e0) (same ai) (W (n0+y)) (W (i+1))
 else
  pure (id n0)
 partial_fixpoint
end
theorem zEW:(∀(e0:zF) (ai:Int) r,tY e0 ai=some r->∀{I:Imm}{p c p1 c1 p2 c2},(S4 I p e0.Index.Coefs c)->(S4 I p1 e0.Read.Subs c1)->(S4 I p2 e0.Kids c2)->RT 157 [vA (cExpr e0 p c p1 c1 p2 c2),vI ai] I [] (yQ  r))/\(∀(e0:zF) (ai:Int) (n0:Int) (i:Int) o,vO e0 ai n0 i=some o->∀{B}{I0 I:Imm}{Q p c p1 c1 p2 c2}{b:Nat},I0.le I->(S4 I p e0.Index.Coefs c)->(S4 I p1 e0.Read.Subs c1)->(S4 I p2 e0.Kids c2)->NG Q->NO Q->(∀(I':Imm) (n01:Int),o=n01->I0.le I'->T 29 B Q (.exit 0) I' [] [(5,vI n01)])->J Tryz.prog 29 B (nav (bodyOf f157) [1,1,0,1,0]) Q I [hB b (cExpr e0 p c p1 c1 p2 c2)] [(1,vI ai),(2,vP b 0),(5,vI n0),(6,vI i)]):=by
 refine tY.mutual_partial_correctness _ _ ?_ ?_
 ·intro F_spec_l3Count_l1 ih_spec_l3Count_l1 e0 ai r N I p c p1 c1 p2 c2 h h1 h2;refine yJ func157 λB=>yE<|uH (cExpr e0 p c p1 c1 p2 c2) ?_;intro b hb;refine wG [] []<|wW [5] rfl<|zZ<|yG [6] rfl<|wC<|oA [(1,vI ai),(2,vP b 0),(5,vI 1),(6,vI 0)] ?_;obtain⟨aM,aA,aH⟩:=zB N;refine ih_spec_l3Count_l1 e0 ai 1 0 aM aA iR h h1 h2 (λ_ _ _ h=>h) (λ_ _ h=>h) ?_;intro aQ n01 heq1 aE;subst aM;refine zR<|wW [4] rfl<|zJ<|yZ ?_;obtain rfl:=zC aH;exact wV
 intro F_spec_l3Count F_spec_l3Count_l1 ih_spec_l3Count ih_spec_l3Count_l1 e0 ai n0 i o N B I0 I Q p c p1 c1 p2 c2 b H h h1 h2 hg ho hx;refine yR hg ho<|yA<|yA ?_;refine wE N [hB b (cExpr e0 p c p1 c1 p2 c2)] (λt15=>[(1,vI ai),(2,vP b 0),(5,vI n0),(6,vI i),(15,.bool t15)]) (λo0 aB=>?_) ?_
 ·have H:=iS I;refine zK<|yF 6 [0] [12] rfl<|xW [12] aB ?_ ?_
  ·intro hc N;exact yI [] [15] rfl<|yN<|zT (ct N H)
  intro hc N;exact wG [] [(15,vF)]<|yN<|zT (ct N H)
 intro t15 I0 le aN;have ⟨h,h1,h2,H⟩:=m4 le h h1 h2 H;refine zJ<|yD aN ?_ ?_
 ·intro aF N;refine zU<|zZ<|yH<|zK<|yF 4 [0] [18,20,21] rfl<|bE N λx hy N=>xN rfl rfl h2 hy ?_;intro ad aL ap al;obtain⟨p3,c3,p4,c4,p5,c5,rfl,h3,h4,h5⟩:=tA al;refine xE 0 ap (cExpr x p3 c3 p4 c4 p5 c5) (vA (cExpr x p3 c3 p4 c4 p5 c5)) rfl<|yF 8 [] [25] rfl<|bE N λy ay N=>xO (ih_spec_l3Count x (W (ai - 1)) _ ay h3 h4 h5) ?_;rintro aU ax v2 k2 af - ⟨v03,rfl,rfl,rfl⟩ -;have ⟨h,h1,h2,H⟩:=m4 af h h1 h2 H;exact yI [] [5] rfl<|zP<|zJ<|zK<|yI [] [6] rfl<|yS<|nU<|ih_spec_l3Count_l1 e0 ai (W (n0+y)) (W (i+1)) _ N H h h1 h2 hg ho hx
 intro aF N;exact wZ<|xV zO<|yN<|hx _ _ (zC N).symm H
theorem zFC:∀e0 ai r,tY e0 ai=some r->∀{I:Imm}{p c p1 c1 p2 c2},(S4 I p e0.Index.Coefs c)->(S4 I p1 e0.Read.Subs c1)->(S4 I p2 e0.Kids c2)->RT 157 [vA (cExpr e0 p c p1 c1 p2 c2),vI ai] I [] (yQ  r):=zEW.1
def sO(s:zQ)(aa:Int):Option (Bool):=do
 let t24<-(do
  if(decide (aa<0)) then
   pure true
  else
   if(decide (aa>4)) then
    pure true
   else
    let y<-qW s.Write aa
    if(!y) then
     pure true
    else
     let y1<-tG s.Value aa 5
     pure (!y1)
    : Option Bool)
 if t24 then
  pure false
 else
  let y2<-tY s.Value 5
  pure (decide (y2<=12))
theorem fO:∀s aa r,sO s aa=some r->∀{I:Imm}{p c p1 c1 p2 c2 p3 c3},(S4 I p s.Write.Subs c)->(S4 I p1 s.Value.Index.Coefs c1)->(S4 I p2 s.Value.Read.Subs c2)->(S4 I p3 s.Value.Kids c3)->RT 118 [vA (cStmt s p c p1 c1 p2 c2 p3 c3),vI aa] I [] (zS  r):=by
 intro s aa r N I p c p1 c1 p2 c2 p3 c3 h h1 h2 h3;unfold sO at N;refine yJ func118 λB=>?_;have H:=iS I;refine yE<|uH (cStmt s p c p1 c1 p2 c2 p3 c3) ?_;intro b hb;refine wG [] []<|zZ<|yA ?_;refine wE N [hB b (cStmt s p c p1 c1 p2 c2 p3 c3)] (λt24=>[(2,vP b 0),(24,.bool t24)]) (λo0 aB=>?_) ?_
 ·have H:=iS I;refine zK<|yF 3 [] [7] rfl<|xW [7] aB ?_ ?_
  ·intro hc N;exact wG [] [(24,vY)]<|yN<|zT (ct N H)
  intro hc N;refine yF 7 [] [11] rfl<|xW [11] N ?_ ?_
  ·intro aF N;exact wG [] [(24,vY)]<|yN<|zT (ct N H)
  intro aF N;refine qA 10 [0] [(13,vA (cAccess s.Write p c)),(14,vI aa)]<|bE N λy hy N=>vV (zAg s.Write aa _ hy h) ?_;intro aU le;have ⟨h1,h2,h3,H⟩:=m4 le h1 h2 h3 H;refine yF 14 [] [18] rfl<|xW [18] N ?_ ?_
  ·intro bd N;exact wG [] [(24,vY)]<|yN<|zT (ct N H)
  intro bd N;refine qA 17 [0] [(20,vA (cExpr s.Value p1 c1 p2 c2 p3 c3)),(21,vI aa)]<|bE N λy1 ay N=>vV (zFB s.Value aa 5 _ ay h1 h2 h3) ?_;intro aQ af;have H:=H.trans af;exact yI [] [24] rfl<|yN<|zT (ct N H)
 intro t24 I0 aE aN;have ⟨h1,h2,h3⟩:=m3 aE h1 h2 h3;refine zJ<|yD aN ?_ ?_
 ·intro bI N;refine vK [(4,vF)]<|xF<|zH ?_;obtain rfl:=zC N;exact wV
 intro bI N;refine zU<|xA<|qA 2 [0] [(26,vA (cExpr s.Value p1 c1 p2 c2 p3 c3))]<|bE N λy2 aJ N=>jE (zFC s.Value 5 _ aJ h1 h2 h3) λbz aK=>wG [] [(4,.bool (decide (y2<=12)))]<|zJ<|yZ ?_;obtain rfl:=zC N;exact wV
def zAV(r:(List zI)):KT:=λkk I' ah v=>
 ∃a0 c0 s0,ah=[.osl (.slice a0 r.length c0) (Rp.sz zI) s0]/\v=tupV [(.slice a0 r.length c0)]/\RepL (Rp.rep I') (Rp.sz zI) s0 r
mutual
def tZ(out:(List zI))(e0:zF):Option ((List zI)):=do
 let aj<-(do
  if(e0.Kind==3) then
   let y<-uD e0.Read
   let am<-app 40 out ([y]:List zI)
   pure (id am)
  else
   pure (id out)
    : Option (List zI))
 let bf<-wF (same e0) (same aj) (same 0)
 pure (id bf)
 partial_fixpoint
def wF(e0:zF)(aD:List zI)(i:Int):Option (List zI):=do
 if(decide (i<(e0.Kids.length:Int))) then
  let x<-idx e0.Kids i
  let y1<-tZ (same aD) (same x)
  wF (same e0) (same y1) (W (i+1))
 else
  pure (id aD)
 partial_fixpoint
end
theorem zEX:(∀(out:(List zI)) (e0:zF) r,tZ out e0=some r->∀{I:Imm}{p c cs p1 c1 p2 c2 p3 c3},(RL I cs out)->(S4 I p1 e0.Index.Coefs c1)->(S4 I p2 e0.Read.Subs c2)->(S4 I p3 e0.Kids c3)->RT 158 [vS p out c,vA (cExpr e0 p1 c1 p2 c2 p3 c3)] I [hO zI (vS p out c) cs] (zAV  r))/\(∀(e0:zF) (aD:List zI) (i:Int) o,wF e0 aD i=some o->∀{B}{I0 I:Imm}{Q p1 c1 p2 c2 p3 c3}{b:Nat}{p7 c7 br},I0.le I->(S4 I p1 e0.Index.Coefs c1)->(S4 I p2 e0.Read.Subs c2)->(S4 I p3 e0.Kids c3)->(RL I br aD)->NG Q->NO Q->(∀(I':Imm) (bf:List zI) (p8:Option Addr) (c8:Nat) (bC:List Value),o=bf->I0.le I'->(RL I' bC bf)->T 30 B Q (.exit 0) I' [hO zI (vS p8 bf c8) bC] [(0,vS p8 bf c8)])->J Tryz.prog 30 B (nav (bodyOf f158) [1,1,0,1,0]) Q I [hB b (cExpr e0 p1 c1 p2 c2 p3 c3),hO zI (vS p7 aD c7) br] [(0,vS p7 aD c7),(3,vP b 0),(5,vI i)]):=by
 refine tZ.mutual_partial_correctness _ _ ?_ ?_
 ·intro F_spec_l3Reads_l1 ih_spec_l3Reads_l1 out e0 r N I p c cs p1 c1 p2 c2 p3 c3 h h1 h2 h3;refine yJ func158 λB=>?_;have H:=iS I;refine yE<|uH (cExpr e0 p1 c1 p2 c2 p3 c3) ?_;intro b hb;refine wG [] []<|zZ<|yE<|yI [0] [8] rfl<|zJ ?_;obtain⟨o0,aB,aN⟩:=zB N;refine pZ (λI' ah m'=>∃(aj:List zI) (p4:Option Addr) (c4:Nat) (aC:List Value),o0=aj/\I.le I'/\(RL I' aC aj)/\ah=[hB b (cExpr e0 p1 c1 p2 c2 p3 c3),hO zI (vS p4 aj c4) aC]/\m'=[(0,vS p4 aj c4),(3,vP b 0)]) ?_ ?_
  ·have H:=iS I;refine yD aB ?_ ?_
   ·intro hc N;refine zK<|qA 3 [0] [(9,vS p out c),(11,vA (cAccess e0.Read p2 c2))]<|bE N λy hy N=>xO (jX e0.Read _ hy h2) ?_;rintro aU ax v2 k2 le - ⟨p5,c5,aO,rfl,rfl,h5⟩ -;have ⟨h,H⟩:=m2 le h H;refine xM 0 rfl ?_;intro aQ af hl0;have h6:=SL.of_frozen hl0 af h5;have ⟨h,H⟩:=m2 af h H;refine tU (cAccess y p5 c5) zI ?_;intro b1 hb1;have h7:RL aQ (cAccess y p5 c5) ([y]:List zI):=⟨(cAccess y p5 c5),_,rfl,rfl,(nK ⟨_,rfl,h6⟩),rfl⟩;obtain⟨am,ay,N⟩:=zB N;exact pC 76 2 2 rfl rfl rfl h (.inr ⟨0,rfl⟩) h7 ay λp6 c6 aT h8=>qE (zX [1,2] (ah:=[hB b (cExpr e0 p1 c1 p2 c2 p3 c3),hO zI (vS p6 am c6) aT]))<|yI [] [0] rfl<|yN<|zT ⟨_,_,_,_,(zC N).symm,H,h8,rfl,rfl⟩
   intro hc N;exact zU<|yN<|zT ⟨_,_,_,_,(zC N).symm,H,h,rfl,rfl⟩
  rintro I0 ax m2 ⟨aj,p4,c4,aC,heq,aE,h4,rfl,rfl⟩;subst o0;have ⟨h1,h2,h3⟩:=m3 aE h1 h2 h3;refine zZ<|yG [5] rfl<|wC<|oA [(0,vS p4 aj c4),(3,vP b 0),(5,vI 0)] ?_;obtain⟨aM,aA,aH⟩:=zB aN;refine ih_spec_l3Reads_l1 e0 aj 0 aM aA iR h1 h2 h3 h4 (λ_ _ _ h=>h) (λ_ _ h=>h) ?_;intro bK bf p8 c8 bC heq1 bi h10;subst aM;refine zR<|wW [4] rfl<|zJ<|yZ ?_;obtain rfl:=zC aH;exact xC ⟨_,_,(.tmp rfl ResV.nil),(zW [0] rfl (by decide)),⟨_,_,_,rfl,rfl,h10⟩⟩
 intro F_spec_l3Reads F_spec_l3Reads_l1 ih_spec_l3Reads ih_spec_l3Reads_l1 e0 aD i o N B I0 I Q p1 c1 p2 c2 p3 c3 b p7 c7 br H h1 h2 h3 h9 hg ho hx;refine yR hg ho<|yA<|yE<|yI [0] [19] rfl<|zJ<|yD N ?_ ?_
 ·intro aF N;refine zU<|zZ<|yH<|zK<|yF 4 [0] [22,24,25] rfl<|bE N λx aJ N=>xN rfl rfl h3 aJ ?_;intro ad aL ap al;obtain⟨p9,c9,aZ,bh,aV,bj,rfl,h11,h12,h13⟩:=tA al;refine xE 0 ap (cExpr x p9 c9 aZ bh aV bj) (vA (cExpr x p9 c9 aZ bh aV bj)) rfl<|qE (zX [1,0] (ah:=[hO zI (vS p7 aD c7) br,hB b (cExpr e0 p1 c1 p2 c2 p3 c3)]))<|bE N λy1 bb N=>rC (ih_spec_l3Reads aD x _ bb h9 h11 h12 h13) rfl ?_;rintro bz ax v2 k2 aK - ⟨bB,bo,cs6,rfl,rfl,h14⟩ -;have ⟨h1,h2,h3,H⟩:=m4 aK h1 h2 h3 H;exact yI [] [0] rfl<|zP<|zJ<|zK<|yI [] [5] rfl<|yS<|jU (zW [1,0] rfl (by decide))<|nU<|ih_spec_l3Reads_l1 e0 y1 (W (i+1)) _ N H h1 h2 h3 h14 hg ho hx
 intro aF N;exact wZ<|xV (zW [1] rfl (by decide))<|yN<|hx _ _ _ _ _ (zC N).symm H h9
theorem zFD:∀out e0 r,tZ out e0=some r->∀{I:Imm}{p c cs p1 c1 p2 c2 p3 c3},(RL I cs out)->(S4 I p1 e0.Index.Coefs c1)->(S4 I p2 e0.Read.Subs c2)->(S4 I p3 e0.Kids c3)->RT 158 [vS p out c,vA (cExpr e0 p1 c1 p2 c2 p3 c3)] I [hO zI (vS p out c) cs] (zAV  r):=zEX.1
def tJ(a0:zG)(n0:Int)(i:Int):Option (Int):=do
 if(decide (i<(a0.Dims.length:Int))) then
  let x<-idx a0.Dims i
  tJ a0 (W (n0*x)) (W (i+1))
 else
  pure (id n0)
 partial_fixpoint
theorem zD2(a0:zG):∀(n0:Int) (i:Int) (o:Int),tJ a0 n0 i=some o->∀{B}{I0 I:Imm}{Q p c}{b:Nat},I0.le I->(S4 I p a0.Dims c)->NG Q->NO Q->(∀(I':Imm) (n01:Int),o=n01->I0.le I'->T 20 B Q (.exit 0) I' [] [(3,vI n01)])->J Tryz.prog 20 B (nav (bodyOf f189) [1,1,0,1,0]) Q I [hB b (cArr a0 p c)] [(1,vP b 0),(3,vI n0),(4,vI i)]:=by
 refine tJ.partial_correctness a0 _ λaI ih n0 i o N B I0 I Q p c b H h hg ho hx=>yR hg ho<|yA<|yE<|yI [0] [9] rfl<|zJ<|yD N ?_ ?_
 ·intro hc N;refine zU<|zZ<|yH<|zK<|yF 4 [0] [12,14,15] rfl<|bE N λx hy N=>xN rfl rfl h hy ?_;intro ad aL ap al;obtain rfl:=al;exact xE 0 ap [vI x] (vI x) rfl<|yI [] [3] rfl<|zP<|zJ<|zK<|yI [] [4] rfl<|yS<|nU<|ih (W (n0*x)) (W (i+1)) _ N H h hg ho hx
 intro hc N;exact wZ<|xV zO<|yN<|hx _ _ (zC N).symm H
def mS(a0:zG):Option (Int):=do
 let n01<-tJ a0 1 0
 pure (id n01)
theorem zFu:∀a0 r,mS a0=some r->∀{I:Imm}{p c},(S4 I p a0.Dims c)->RT 189 [vA (cArr a0 p c)] I [] (yQ  r):=by
 intro a0 r N I p c h;unfold mS at N;refine yJ func189 λB=>yE<|uH (cArr a0 p c) ?_;intro b hb;refine wG [] []<|wW [3] rfl<|zZ<|yG [4] rfl<|wC<|oA [(1,vP b 0),(3,vI 1),(4,vI 0)] ?_;obtain⟨o0,aB,aH⟩:=zB N;refine zD2 a0 1 0 o0 aB iR h (λ_ _ _ h=>h) (λ_ _ h=>h) ?_;intro I0 n01 heq le;subst o0;refine zR<|wW [2] rfl<|zJ<|yZ ?_;obtain rfl:=zC aH;exact wV
end Go.LN
