/- Helper of the proof (see the last text). -/
import Derived.Test.YtcmjkmdecmabaaaGreatHM1
set_option linter.unusedVariables false
set_option linter.unusedSimpArgs false
namespace Go.LN
open Go.Proofs Go.Proofs.Tryz
set_option maxRecDepth 20000
def dK (b0:Nat) (r:zD×zN):KT:=fun kk I' ah v=>
  ∃ v0 k0,ah=[.blk b0 ⟨k0⟩]/\v=tupV [v0]/\(∃ cs,v0=.agg ⟨cs⟩/\Rp.rep I' cs r.1)/\Rp.rep I' k0 r.2
def oJ (r0:zN) (p1:zD):Option (zD×zN):=do
 let y<-pP p1
 let (y2,y3)<-xA r0 60
 let (Arrays,Parts,x)<-(do
   if (y2==0) then
    let (y5,y6)<-oI y3 ([(⟨[65]⟩:Str),(⟨[68]⟩:Str),(⟨[69]⟩:Str)]:List Str)
    let (y8,y9)<-yV y6 ([7,0,3,(-1)]:List Int)
    let l<-app 40 y.Arrays ([(zF.mk y5 ([y8]:List Int))]:List zF)
    pure (l,y.Parts,y9)
   else
    let (aC,br,x1)<-(do
      if (y2==1) then
       let (Arrays2,x2)<-(do
         if (decide ((y.Arrays.length:Int)>0)) then
          let (y11,y12)<-yV y3 ([1,2,7]:List Int)
          let x3<-idx y.Arrays 0
          let l1<-pure (y.Arrays.set (0:Int).toNat (zF.mk x3.Name ([y11]:List Int)))
          pure (l1,y12)
         else
          pure (y.Arrays,y3)
           : Option (List zF×zN))
       pure (Arrays2,y.Parts,x2)
      else
       let (Parts2,x4)<-(do
         if (y2==2) then
          let (Parts3,x5)<-(do
            if (decide ((y.Parts.length:Int)>0)) then
             let x6<-idx y.Parts 0
             let (y14,y15)<-mI y3 x6.Nest
             let (y17,y18)<-mI y15 y14
             let (y20,y21)<-mI y18 y17
             let x7<-idx y.Parts 0
             let l2<-pure (y.Parts.set (0:Int).toNat (zO.mk y20 x7.Body))
             pure (l2,y21)
            else
             pure (y.Parts,y3)
              : Option (List zO×zN))
          pure (Parts3,x5)
         else
          let (Parts4,x8)<-(do
            if (y2==3) then
             let t76<-(do
               if (decide ((y.Parts.length:Int)>0)) then
                let x9<-idx y.Parts (W ((y.Parts.length:Int) - 1))
                pure (decide ((x9.Body.length:Int)>0))
               else
                pure false
                 : Option Bool)
             let (Parts5,x10)<-(do
               if t76 then
                let x11<-idx y.Parts (W ((y.Parts.length:Int) - 1))
                let x12<-idx x11.Body 0
                let (y22,y23)<-rC y3 x12
                let (y24,y25)<-rC y23 y22
                let (y26,y27)<-rC y25 y24
                let l3<-pure ((y.Parts).set (W ((y.Parts.length:Int) - 1)).toNat (zO.mk x11.Nest (x11.Body.set 0 y26)))
                pure (l3,y27)
               else
                pure (y.Parts,y3)
                 : Option (List zO×zN))
             pure (Parts5,x10)
            else
             let Parts6<-(do
               if (y2==4) then
                let Parts7<-(do
                  if (decide ((y.Parts.length:Int)>0)) then
                   let x13<-idx y.Parts (W ((y.Parts.length:Int) - 1))
                   let l4<-pure (y.Parts.set (W ((y.Parts.length:Int) - 1)).toNat (zO.mk x13.Nest ([]:List zP)))
                   pure (id l4)
                  else
                   pure y.Parts
                    : Option (List zO))
                pure (id Parts7)
               else
                pure y.Parts
                 : Option (List zO))
             pure (Parts6,y3)
              : Option (List zO×zN))
          pure (Parts4,x8)
           : Option (List zO×zN))
       pure (y.Arrays,Parts2,x4)
        : Option (List zF×List zO×zN))
    pure (aC,br,x1)
     : Option (List zF×List zO×zN))
 pure ((zD.mk Arrays Parts),x)
theorem zFB:∀ (r0:zN) (p1:zD) r,oJ r0 p1=some r->∀ {I:Imm}{aw:Nat}{p c p2 c1 p3 c2},(S4 I p r0.b c)->(S4 I p2 p1.Arrays c1)->(S4 I p3 p1.Parts c2)->(∀ (y:zD) (y2:Int) (y3:zN) (x:zO) (s:zP),pP p1=some y->xA r0 60=some (y2,y3)->(y2==3)=true->idx y.Parts (W ((y.Parts.length:Int) - 1))=some x->idx x.Body 0=some s->False)->RT 90 [vP aw 0,vA (cProg p1 p2 c1 p3 c2)] I [hB aw (cRd r0 p c)] (dK aw r):=by
 intro r0 p1 r N I aw p c p2 c1 p3 c2 h h1 h2 hne;unfold oJ at N;refine yJ func90 fun B=>?_;have H:=iS I;refine yE<|tO (cProg p1 p2 c1 p3 c2) ?_;intro b hb;refine wS zTwo ?_;intro b1 hb1;refine yD rfl<|yX<|rQ 1 [1] [(7,vA (cProg p1 p2 c1 p3 c2))]<|bE N fun y hy N=>xL (zHh p1 _ hy h1 h2) ?_;rintro I0 ay v2 k2 le - ⟨p4,c3,cs,p5,c4,az,rfl,rfl,h3,h4⟩ -;have ⟨h,H⟩:=m2 le h H;refine wS zTwo ?_;intro b2 hb2;refine xJ 0 (cProg y p4 c3 p5 c4) rfl<|yD rfl<|yX<|yH [0] [6] rfl<|zX<|yE<|yB 1 [] [12] rfl<|tZ (zY [5,0,1,2,3,4] (ah:=[hB aw (cRd r0 p c),hB b2 (cProg y p4 c3 p5 c4),hO zF (vS p4 y.Arrays c3) cs,hO zO (vS p5 y.Parts c4) az,hB b1 zTwo,hB b (cProg p1 p2 c1 p3 c2)])) ?_;obtain ⟨⟨y2,y3⟩,aB,N⟩:=zB N;refine sJ (xR r0 60 _ aB h) rfl ?_;rintro aW ay v2 k2 af - ⟨v0,kk,rfl,rfl,rfl,h6⟩ -;have ⟨h3,h4,H⟩:=m3 af h3 h4 H;obtain ⟨p6,c5,rfl,h7⟩:=yA h6;refine yD rfl<|xX<|yF [14] rfl<|zG<|pH 5 rfl ?_;intro ba aF hl0;have ar:At ba ⟨b,0,none⟩ (cProg p1 p2 c1 p3 c2):=At.of_blk hl0;have ⟨h7,h3,h4,H⟩:=m4 aF h7 h3 h4 H;obtain ⟨o0,aD,aU⟩:=zB N;refine qF (fun I' ah m'=>∃ (Arrays:List zF) (Parts:List zO) (x:zN) (p7:Option Addr) (c6:Nat) (aS:List Value) (p8:Option Addr) (c7:Nat) (aT:List Value) (p9:Option Addr) (c8:Nat),o0=(Arrays,Parts,x)/\ba.le I'/\(RL I' aS Arrays)/\(RL I' aT Parts)/\(S4 I' p9 x.b c8)/\ah=[hB aw (cRd x p9 c8),hB b2 [vS p7 Arrays c6,vS p8 Parts c7],hO zF (vS p7 Arrays c6) aS,hO zO (vS p8 Parts c7) aT,hB b1 zTwo]/\m'=[(4,vP b1 0),(5,vP b2 0)]) ?_ ?_
 · have H:=iS ba;refine yC aD ?_ ?_
   · intro hc N;obtain ⟨⟨y5,y6⟩,aN,N⟩:=zB N;obtain ⟨⟨y8,y9⟩,bm,N⟩:=zB N;obtain ⟨l,bw,N⟩:=zB N;refine wQ [.p (vP b2 0) [],.p (vS p4 y.Arrays c3) [0],.p (vP aw 0) [],.x (fun I' v hx=>∃ b3,v=vS (some ⟨b3,0,none⟩) ([(⟨[65]⟩:Str),(⟨[68]⟩:Str),(⟨[69]⟩:Str)]:List Str) 3/\hx=[]/\(SL I' (vS (some ⟨b3,0,none⟩) ([(⟨[65]⟩:Str),(⟨[68]⟩:Str),(⟨[69]⟩:Str)]:List Str) 3) ([(⟨[65]⟩:Str),(⟨[68]⟩:Str),(⟨[69]⟩:Str)]:List Str))),.x (fun I' v hx=>∃ bi c9,v=vT y5.l/\hx=[hB aw (cRd y6 bi c9)]/\(S4 I' bi y6.b c9)),.p (vP aw 0) [],.x (fun I' v hx=>∃ b4,v=vS (some ⟨b4,0,none⟩) ([7,0,3,(-1)]:List Int) 4/\hx=[]/\(SL I' (vS (some ⟨b4,0,none⟩) ([7,0,3,(-1)]:List Int) 4) ([7,0,3,(-1)]:List Int))),.x (fun I' v hx=>∃ aR bh,v=vI y8/\hx=[hB aw (cRd y9 aR bh)]/\(S4 I' aR y9.b bh)),.x (fun I' v hx=>∃ b5,v=vS (some ⟨b5,0,none⟩) ([y8]:List Int) 1/\hx=[]/\(SL I' (vS (some ⟨b5,0,none⟩) ([y8]:List Int) 1) ([y8]:List Int))),.x (fun I' v hx=>∃ b51,v=vA [vT y5.l,vS (some ⟨b51,0,none⟩) ([y8]:List Int) 1]/\hx=[]/\(SL I' (vS (some ⟨b51,0,none⟩) ([y8]:List Int) 1) ([y8]:List Int))),.x (fun I' v hx=>∃ b6,v=vS (some ⟨b6,0,none⟩) ([(zF.mk y5 ([y8]:List Int))]:List zF) 1/\hx=[]/\(SL I' (vS (some ⟨b6,0,none⟩) ([(zF.mk y5 ([y8]:List Int))]:List zF) 1) ([(zF.mk y5 ([y8]:List Int))]:List zF))),.x (fun I' v hx=>∃ bD bc bt,v=vS bD l bc/\hx=[hO zF (vS bD l bc) bt]/\(RL I' bt l))] [[],[(0,false)],[],[],[(2,false),(3,false),(14,true)],[],[],[(5,false),(6,false),(4,true)],[(7,false)],[(4,false),(8,false)],[(9,false)],[(1,false),(10,false),(15,true)]] [hB b2 (cProg y p4 c3 p5 c4),hO zO (vS p5 y.Parts c4) az,hB b1 zTwo] [[hB aw (cRd y3 p6 c5)],[hO zF (vS p4 y.Arrays c3) cs]] [(7,true),(11,true)] (zY [1,3,4,0,2]) ?_ ?_
     · refine Op<|Op<|Op<|Ox ?_<|Ox ?_<|Op<|Ox ?_<|Ox ?_<|Ox ?_<|Ox ?_<|Ox ?_<|Ox ?_<|On
       · intro I1 hf af;refine I_h [] ?_;have H:=iS I1;refine mN (rT [(⟨[65]⟩:Str),(⟨[68]⟩:Str),(⟨[69]⟩:Str)]) ?_;intro b3 bL aK h12;have H:=H.trans aK;exact yN [] H ⟨_,rfl,rfl,h12⟩
       · rintro I1 hf af _ _ ⟨rfl,rfl⟩ _ _ ⟨b3,rfl,rfl,h12⟩ _ _ rfl;refine yT [18,19] rfl ?_;have H:=iS I1;have h7:=h7.mono af;refine sJ (eF y3 ([(⟨[65]⟩:Str),(⟨[68]⟩:Str),(⟨[69]⟩:Str)]:List Str) _ aN h7 h12) rfl ?_;rintro bR ay v2 k2 bk - ⟨v02,kk1,rfl,rfl,rfl,h14⟩ -;have H:=H.trans bk;obtain ⟨bi,c9,rfl,h15⟩:=yA h14;exact yN [hB aw (cRd y6 bi c9)] H ⟨_,_,rfl,rfl,h15⟩
       · intro I1 hf af;refine I_h [] ?_;have H:=iS I1;refine mN (rI [7,0,3,(-1)]) ?_;intro b4 I06 bz h17;have H:=H.trans bz;exact yN [] H ⟨_,rfl,rfl,h17⟩
       · rintro I1 hf af _ _ ⟨rfl,rfl⟩ _ _ ⟨b4,rfl,rfl,h17⟩ _ _ ⟨bi,c9,rfl,rfl,h15⟩;refine yT [21,22] rfl ?_;have H:=iS I1;refine sJ (xE y6 ([7,0,3,(-1)]:List Int) _ bm h15 h17) rfl ?_;rintro I07 ay v2 k2 bC - ⟨v04,kk2,rfl,rfl,rfl,h19⟩ -;have H:=H.trans bC;obtain ⟨aR,bh,rfl,h20⟩:=yA h19;exact yN [hB aw (cRd y9 aR bh)] H ⟨_,_,rfl,rfl,h20⟩
       · rintro I1 hf af _ _ ⟨aR,bh,rfl,rfl,h20⟩;refine yT [23] rfl ?_;have H:=iS I1;refine mN (rI [y8]) ?_;intro b5 I08 le7 h22;have H:=H.trans le7;exact yN [] H ⟨_,rfl,rfl,h22⟩
       · rintro I1 hf af _ _ ⟨bi,c9,rfl,rfl,h15⟩ _ _ ⟨b5,rfl,rfl,h22⟩;exact yT [20,24] rfl<|mE 10 [(25,vA [vT y5.l,vS (some ⟨b5,0,none⟩) ([y8]:List Int) 1])]<|yN [] iR ⟨_,rfl,rfl,h22⟩
       · rintro I1 hf af _ _ ⟨b51,rfl,rfl,h221⟩;refine yT [25] rfl ?_;have H:=iS I1;refine mN (rc (zF.mk y5 ([y8]:List Int)) (qU ⟨_,rfl,h221⟩) rN) ?_;intro b6 I09 le8 h24;have H:=H.trans le8;exact yN [] H ⟨_,rfl,rfl,h24⟩
       rintro I1 hf af _ _ ⟨rfl,rfl⟩ _ _ ⟨b6,rfl,rfl,h24⟩ _ _ rfl;refine yT [17,26] rfl ?_;have h3:=iM af h3;obtain ⟨aQ,k0,k01⟩:=h24;have h24:SL I1 (vS (some ⟨b6,0,none⟩) ([(zF.mk y5 ([y8]:List Int))]:List zF) 1) ([(zF.mk y5 ([y8]:List Int))]:List zF):=⟨_,k0,k01⟩;exact sU 107 2 0 rfl rfl rfl h3 (.inl k0) k01 bw fun bD bc bt h25=>wN (ah:=(hO zF (vS bD l bc) bt::hB b2 (cProg y p4 c3 p5 c4)::hO zO (vS p5 y.Parts c4) az::hB b1 zTwo::hf)) rfl<|yN [hO zF (vS bD l bc) bt] iR ⟨_,_,_,rfl,rfl,h25⟩
     rintro bS le9 _ _ ⟨aR,bh,rfl,rfl,h20⟩ _ _ ⟨bD,bc,bt,rfl,rfl,h25⟩;refine yT [4,5,27] rfl ?_;have ⟨h4,H⟩:=m2 le9 h4 H;exact yB 13 [] [28] rfl<|xJ 2 [vS bD l bc,vS p5 y.Parts c4] rfl<|yD rfl<|xQ (zW [1,2,0,3,4] rfl (by decide))<|yL<|zU ⟨_,_,_,_,_,_,_,_,_,_,_,(zC N).symm,H,h25,h4,h20,rfl,rfl⟩
   intro hc N;refine yF [29] rfl<|zG ?_;obtain ⟨aP,aA,hMc1⟩:=zB N;refine qF (fun I' ah m'=>∃ (aC:List zF) (br:List zO) (x1:zN) (bq:Option Addr) (bo:Nat) (bJ:List Value) (p14:Option Addr) (bB:Nat) (cs6:List Value) (p15:Option Addr) (c14:Nat),aP=(aC,br,x1)/\ba.le I'/\(RL I' bJ aC)/\(RL I' cs6 br)/\(S4 I' p15 x1.b c14)/\ah=[hB aw (cRd x1 p15 c14),hB b2 [vS bq aC bo,vS p14 br bB],hO zF (vS bq aC bo) bJ,hO zO (vS p14 br bB) cs6,hB b1 zTwo]/\m'=[(4,vP b1 0),(5,vP b2 0)]) ?_ ?_
   · have H:=iS ba;refine yC aA ?_ ?_
     · intro aI N;refine yE<|yH [1] [34] rfl<|zG ?_;obtain ⟨o02,ho02,hMc2⟩:=zB N;refine qF (fun I' ah m'=>∃ (Arrays2:List zF) (x2:zN) (p16:Option Addr) (c15:Nat) (cs7:List Value) (p17:Option Addr) (c16:Nat),o02=(Arrays2,x2)/\ba.le I'/\(RL I' cs7 Arrays2)/\(S4 I' p17 x2.b c16)/\ah=[hB aw (cRd x2 p17 c16),hB b2 [vS p16 Arrays2 c15,vS p5 y.Parts c4],hO zF (vS p16 Arrays2 c15) cs7,hO zO (vS p5 y.Parts c4) az,hB b1 zTwo]/\m'=[(4,vP b1 0),(5,vP b2 0)]) ?_ ?_
       · have H:=iS ba;refine yC ho02 ?_ ?_
         · intro aX N;obtain ⟨⟨y11,y12⟩,bI,N⟩:=zB N;refine wQ [.p (vP b2 0) [],.p (vS p4 y.Arrays c3) [0],.p (vP aw 0) [],.x (fun I' v hx=>∃ b7,v=vS (some ⟨b7,0,none⟩) ([1,2,7]:List Int) 3/\hx=[]/\(SL I' (vS (some ⟨b7,0,none⟩) ([1,2,7]:List Int) 3) ([1,2,7]:List Int))),.x (fun I' v hx=>∃ p18 c17,v=vI y11/\hx=[hB aw (cRd y12 p18 c17)]/\(S4 I' p18 y12.b c17)),.x (fun I' v hx=>∃ b8,v=vS (some ⟨b8,0,none⟩) ([y11]:List Int) 1/\hx=[]/\(SL I' (vS (some ⟨b8,0,none⟩) ([y11]:List Int) 1) ([y11]:List Int)))] [[],[(0,false)],[],[],[(2,false),(3,false),(9,true)],[(4,false)]] [hB b2 (cProg y p4 c3 p5 c4),hO zF (vS p4 y.Arrays c3) cs,hO zO (vS p5 y.Parts c4) az,hB b1 zTwo] [[hB aw (cRd y3 p6 c5)]] [(1,false),(4,true),(5,false)] (zY [1,2,3,4,0]) ?_ ?_
           · refine Op<|Op<|Op<|Ox ?_<|Ox ?_<|Ox ?_<|On
             · intro I1 hf af;refine I_h [] ?_;have H:=iS I1;refine mN (rI [1,2,7]) ?_;intro b7 I013 le10 h32;have H:=H.trans le10;exact yN [] H ⟨_,rfl,rfl,h32⟩
             · rintro I1 hf af _ _ ⟨rfl,rfl⟩ _ _ ⟨b7,rfl,rfl,h32⟩ _ _ rfl;refine yT [37,38] rfl ?_;have H:=iS I1;have h7:=h7.mono af;refine sJ (xE y3 ([1,2,7]:List Int) _ bI h7 h32) rfl ?_;rintro I014 ay v2 k2 le11 - ⟨v06,kk3,rfl,rfl,rfl,h34⟩ -;have H:=H.trans le11;obtain ⟨p18,c17,rfl,h35⟩:=yA h34;exact yN [hB aw (cRd y12 p18 c17)] H ⟨_,_,rfl,rfl,h35⟩
             rintro I1 hf af _ _ ⟨p18,c17,rfl,rfl,h35⟩;refine yT [39] rfl ?_;have H:=iS I1;refine mN (rI [y11]) ?_;intro b8 I015 le12 h37;have H:=H.trans le12;exact yN [] H ⟨_,rfl,rfl,h37⟩
           rintro I016 le13 _ _ ⟨rfl,rfl⟩ _ _ ⟨p18,c17,rfl,rfl,h35⟩ _ _ ⟨b8,rfl,rfl,h37⟩;refine yT [4,5,36,40] rfl ?_;have ⟨h3,H⟩:=m2 le13 h3 H;obtain ⟨x3,hy6,N⟩:=zB N;refine pQ 2 rfl rfl rfl h3 hy6 ?_;intro ad bv av bM ap;obtain ⟨p19,c18,rfl,h38⟩:=wU ap;refine yB 8 [] [42] rfl ?_;obtain ⟨l1,hy7,N⟩:=zB N;refine tR (c:=[vT x3.Name.l,vS (some ⟨b8,0,none⟩) ([y11]:List Int) 1]) (x':=(zF.mk x3.Name ([y11]:List Int))) 2 1 rfl rfl rfl av rfl rfl bM (by kernel_rfl) (by kernel_rfl) (by kernel_rfl) h3 hy6 (by kernel_rfl) (qU ⟨_,rfl,h37⟩) ?_;rw [show y.Arrays.set (0:Int).toNat (zF.mk x3.Name ([y11]:List Int))=l1 from zC hy7];intro cs8 h39 hl07;exact kD (m':=[(4,vP b1 0),(5,vP b2 0),(40,vS (some ⟨b8,0,none⟩) ([y11]:List Int) 1)]) ⟨rfl,rfl,rfl,trivial⟩<|zA1 (ah:=[hB aw (cRd y12 p18 c17),hB b2 [vS p4 l1 c3,vS p5 y.Parts c4],hO zF (vS p4 l1 c3) cs8,hO zO (vS p5 y.Parts c4) az,hB b1 zTwo]) (m':=[(4,vP b1 0),(5,vP b2 0),(40,vS (some ⟨b8,0,none⟩) ([y11]:List Int) 1)]) (by first | rfl | simp only [vS,hl07,cv,dj,dq,dh,cX,cY]) (by first | rfl | simp only [vS,hl07])<|yD rfl<|yL<|zU ⟨_,_,_,_,_,_,_,(zC N).symm,H,h39,h35,rfl,rfl⟩
         intro aX N;exact zS<|yL<|zU ⟨_,_,_,_,_,_,_,(zC N).symm,H,h3,h7,rfl,rfl⟩
       rintro bX ay m2 ⟨Arrays2,x2,p16,c15,cs7,p17,c16,heq,le14,h29,h30,rfl,rfl⟩;subst o02;have ⟨h4,H⟩:=m2 le14 h4 H;exact yL<|zU ⟨_,_,_,_,_,_,_,_,_,_,_,(zC hMc2).symm,H,h29,h4,h30,rfl,rfl⟩
     intro aI N;refine yF [43] rfl<|zG ?_;obtain ⟨o03,ho03,hMc3⟩:=zB N;refine qF (fun I' ah m'=>∃ (Parts2:List zO) (x4:zN) (p20:Option Addr) (c19:Nat) (cs9:List Value) (p21:Option Addr) (c20:Nat),o03=(Parts2,x4)/\ba.le I'/\(RL I' cs9 Parts2)/\(S4 I' p21 x4.b c20)/\ah=[hB aw (cRd x4 p21 c20),hB b2 [vS p4 y.Arrays c3,vS p20 Parts2 c19],hO zF (vS p4 y.Arrays c3) cs,hO zO (vS p20 Parts2 c19) cs9,hB b1 zTwo]/\m'=[(4,vP b1 0),(5,vP b2 0)]) ?_ ?_
     · have H:=iS ba;refine yC ho03 ?_ ?_
       · intro bK N;refine yF [46] rfl<|zG ?_;obtain ⟨o04,ho04,hMc4⟩:=zB N;refine qF (fun I' ah m'=>∃ (Parts3:List zO) (x5:zN) (p22:Option Addr) (c21:Nat) (cs10:List Value) (p23:Option Addr) (c22:Nat),o04=(Parts3,x5)/\ba.le I'/\(RL I' cs10 Parts3)/\(S4 I' p23 x5.b c22)/\ah=[hB aw (cRd x5 p23 c22),hB b2 [vS p4 y.Arrays c3,vS p22 Parts3 c21],hO zF (vS p4 y.Arrays c3) cs,hO zO (vS p22 Parts3 c21) cs10,hB b1 zTwo]/\m'=[(4,vP b1 0),(5,vP b2 0)]) ?_ ?_
         · have H:=iS ba;refine yC ho04 ?_ ?_
           · intro bO N;obtain ⟨x6,hy8,N⟩:=zB N;obtain ⟨⟨y14,y15⟩,hy9,N⟩:=zB N;obtain ⟨⟨y17,y18⟩,hy10,N⟩:=zB N;obtain ⟨⟨y20,y21⟩,hy11,N⟩:=zB N;refine wQ [.p (vP b2 1) [],.p (vS p5 y.Parts c4) [0],.p (vP aw 0) [],.p (vP aw 0) [],.p (vP aw 0) [],.p (vP b2 1) [],.p (vS p5 y.Parts c4) [0],.x (fun I' v hx=>∃ ad1 p24 c23 p25 c24,v=.pointer (some ad1)/\hx=[]/\(AtO (vS p5 y.Parts c4) (Rp.sz zO) (0:Int).toNat ad1)/\((az.drop ((0:Int).toNat*Rp.sz zO)).take (Rp.sz zO)=(cPart x6 p24 c23 p25 c24))/\(S4 I' p24 x6.Nest c23)/\(S4 I' p25 x6.Body c24)),.x (fun I' v hx=>∃ ad11 p241 c231 p251 c241,v=.pointer (some ad11)/\hx=[]/\(AtO (vS p5 y.Parts c4) (Rp.sz zO) (0:Int).toNat ad11)/\((az.drop ((0:Int).toNat*Rp.sz zO)).take (Rp.sz zO)=(cPart x6 p241 c231 p251 c241))/\(S4 I' p241 x6.Nest c231)/\(S4 I' p251 x6.Body c241)),.x (eS x6.Nest),.x (fun I' v hx=>∃ p26 c25 p27 c26,v=vS p26 y14 c25/\hx=[hB aw (cRd y15 p27 c26)]/\(S4 I' p26 y14 c25)/\(S4 I' p27 y15.b c26)),.x (fun I' v hx=>∃ p28 c27 p29 c28,v=vS p28 y17 c27/\hx=[hB aw (cRd y18 p29 c28)]/\(S4 I' p28 y17 c27)/\(S4 I' p29 y18.b c28)),.x (fun I' v hx=>∃ p30 c29 p31 c30,v=vS p30 y20 c29/\hx=[hB aw (cRd y21 p31 c30)]/\(S4 I' p30 y20 c29)/\(S4 I' p31 y21.b c30))] [[],[(0,false)],[],[],[],[],[(5,false)],[(6,false)],[(7,false)],[(8,false)],[(4,false),(9,false),(16,true)],[(3,false),(10,true)],[(2,false),(11,true)]] [hB b2 (cProg y p4 c3 p5 c4),hO zF (vS p4 y.Arrays c3) cs,hO zO (vS p5 y.Parts c4) az,hB b1 zTwo] [[hB aw (cRd y3 p6 c5)]] [(1,false),(12,true)] (zY [1,2,3,4,0]) ?_ ?_
             · refine Op<|Op<|Op<|Op<|Op<|Op<|Op<|Ox ?_<|Ox ?_<|Ox ?_<|Ox ?_<|Ox ?_<|Ox ?_<|On
               · intro I1 hf af;refine yT [53] rfl ?_;have h4:=iM af h4;refine pQ 2 rfl rfl rfl h4 hy8 ?_;intro ad1 bP aY hcc1 ax;obtain ⟨p24,c23,p25,c24,rfl,h44,h45⟩:=wR ax;exact yN [] iR ⟨_,_,_,_,_,rfl,rfl,aY,hcc1,h44,h45⟩
               · rintro I1 hf af _ _ ⟨ad1,p24,c23,p25,c24,rfl,rfl,aY,hcc1,h44,h45⟩;exact yT [54] rfl<|mE 9 [(55,.pointer (some ad1))]<|yN [] iR ⟨_,_,_,_,_,rfl,rfl,aY,hcc1,h44,h45⟩
               · rintro I1 hf af _ _ ⟨ad11,p241,c231,p251,c241,rfl,rfl,hat21,hcc11,h441,h451⟩;exact yT [55] rfl<|zAH 2 0 hat21 hcc11 [vS p241 x6.Nest c231] (vS p241 x6.Nest c231) rfl rfl<|yN [] iR ⟨_,_,rfl,rfl,h441⟩
               · rintro I1 hf af _ _ ⟨rfl,rfl⟩ _ _ ⟨p2411,c2311,rfl,rfl,h4411⟩ _ _ rfl;refine yT [51,56] rfl ?_;have H:=iS I1;have h7:=h7.mono af;refine sJ (zAJ y3 x6.Nest _ hy9 h7 h4411) rfl ?_;rintro I019 ay v2 k2 le15 - ⟨v011,kk4,rfl,rfl,h46,h47⟩ -;have H:=H.trans le15;obtain ⟨p26,c25,rfl⟩:=h46.form;obtain ⟨p27,c26,rfl,h48⟩:=yA h47;exact yN [hB aw (cRd y15 p27 c26)] H ⟨_,_,_,_,rfl,rfl,h46,h48⟩
               · rintro I1 hf af _ _ ⟨rfl,rfl⟩ _ _ ⟨p26,c25,p27,c26,rfl,rfl,h46,h48⟩;refine yT [50,57] rfl ?_;have H:=iS I1;refine sJ (zAJ y15 y14 _ hy10 h48 h46) rfl ?_;rintro I020 ay v2 k2 le16 - ⟨v013,kk5,rfl,rfl,h49,h50⟩ -;have H:=H.trans le16;obtain ⟨p28,c27,rfl⟩:=h49.form;obtain ⟨p29,c28,rfl,h51⟩:=yA h50;exact yN [hB aw (cRd y18 p29 c28)] H ⟨_,_,_,_,rfl,rfl,h49,h51⟩
               rintro I1 hf af _ _ ⟨rfl,rfl⟩ _ _ ⟨p28,c27,p29,c28,rfl,rfl,h49,h51⟩;refine yT [49,58] rfl ?_;have H:=iS I1;refine sJ (zAJ y18 y17 _ hy11 h51 h49) rfl ?_;rintro I021 ay v2 k2 le17 - ⟨v015,kk6,rfl,rfl,h52,h53⟩ -;have H:=H.trans le17;obtain ⟨p30,c29,rfl⟩:=h52.form;obtain ⟨p31,c30,rfl,h54⟩:=yA h53;exact yN [hB aw (cRd y21 p31 c30)] H ⟨_,_,_,_,rfl,rfl,h52,h54⟩
             rintro I022 le18 _ _ ⟨rfl,rfl⟩ _ _ ⟨p30,c29,p31,c30,rfl,rfl,h52,h54⟩;refine yT [4,5,48,59] rfl ?_;have ⟨h4,H⟩:=m2 le18 h4 H;obtain ⟨x7,hy12,N⟩:=zB N;refine pQ 3 rfl rfl rfl h4 hy12 ?_;intro ad2 ccs3 hat3 hcc2 bd;obtain ⟨p32,c31,p33,c32,rfl,h55,h56⟩:=wR bd;refine yB 15 [] [61] rfl ?_;obtain ⟨l2,hy13,N⟩:=zB N;refine tR (c:=[vS p30 y20 c29,vS p33 x7.Body c32]) (x':=(zO.mk y20 x7.Body)) 3 0 rfl rfl rfl hat3 rfl rfl hcc2 (by kernel_rfl) (by kernel_rfl) (by kernel_rfl) h4 hy12 (by kernel_rfl) (qN ⟨_,_,rfl,h52,h56⟩) ?_;rw [show y.Parts.set (0:Int).toNat (zO.mk y20 x7.Body)=l2 from zC hy13];intro cs11 h57 hl08;exact kD (m':=[(4,vP b1 0),(5,vP b2 0),(59,vS p30 y20 c29)]) ⟨rfl,rfl,rfl,trivial⟩<|zA1 (ah:=[hB aw (cRd y21 p31 c30),hB b2 [vS p4 y.Arrays c3,vS p5 l2 c4],hO zF (vS p4 y.Arrays c3) cs,hO zO (vS p5 l2 c4) cs11,hB b1 zTwo]) (m':=[(4,vP b1 0),(5,vP b2 0),(59,vS p30 y20 c29)]) (by first | rfl | simp only [vS,hl08,cv,dj,dq,dh,cX,cY]) (by first | rfl | simp only [vS,hl08])<|yD rfl<|yL<|zU ⟨_,_,_,_,_,_,_,(zC N).symm,H,h57,h54,rfl,rfl⟩
           intro bO N;exact zS<|yL<|zU ⟨_,_,_,_,_,_,_,(zC N).symm,H,h4,h7,rfl,rfl⟩
         rintro I018 ay m2 ⟨Parts3,x5,p22,c21,cs10,p23,c22,heq1,le19,h42,h43,rfl,rfl⟩;subst o04;have H:=H.trans le19;exact yL<|zU ⟨_,_,_,_,_,_,_,(zC hMc4).symm,H,h42,h43,rfl,rfl⟩
       intro bK N;refine yF [62] rfl<|zG ?_;obtain ⟨o05,ho05,hMc5⟩:=zB N;refine qF (fun I' ah m'=>∃ (Parts4:List zO) (x8:zN) (p34:Option Addr) (c33:Nat) (cs12:List Value) (p35:Option Addr) (c34:Nat),o05=(Parts4,x8)/\ba.le I'/\(RL I' cs12 Parts4)/\(S4 I' p35 x8.b c34)/\ah=[hB aw (cRd x8 p35 c34),hB b2 [vS p4 y.Arrays c3,vS p34 Parts4 c33],hO zF (vS p4 y.Arrays c3) cs,hO zO (vS p34 Parts4 c33) cs12,hB b1 zTwo]/\m'=[(4,vP b1 0),(5,vP b2 0)]) ?_ ?_
       · have H:=iS ba;refine yC ho05 ?_ ?_
         · intro hc5 N;refine zZ ?_;refine wO N [hB aw (cRd y3 p6 c5),hB b2 (cProg y p4 c3 p5 c4),hO zF (vS p4 y.Arrays c3) cs,hO zO (vS p5 y.Parts c4) az,hB b1 zTwo] (fun t76=>[(0,vP aw 0),(4,vP b1 0),(5,vP b2 0),(6,vI (y.Parts.length:Int)),(76,.bool t76)]) (fun o06 ho06=>?_) ?_
           · have H:=iS ba;refine zJ<|yB 3 [] [66] rfl<|xV [66] ho06 ?_ ?_
             · intro hc6 N;refine yB 7 [1] [68,70] rfl<|bE N fun x9 hy14 N=>pQ 3 rfl rfl rfl h4 hy14 ?_;intro ad3 ccs4 hat4 hcc3 bG;obtain ⟨p36,c35,p37,c36,rfl,h60,h61⟩:=wR bG;exact yB 9 [] [72] rfl<|zAH 3 1 hat4 hcc3 [vS p37 x9.Body c36] (vS p37 x9.Body c36) rfl rfl<|yH [] [76] rfl<|yL<|zU (ct N H)
             intro hc6 N;exact wG [] [(76,vF)]<|yL<|zU (ct N H)
           intro t76 I024 le20 hMc6;have ⟨h7,h4,H⟩:=m3 le20 h7 h4 H;refine zG ?_;obtain ⟨o07,ho07,hMc7⟩:=zB hMc6;refine qF (fun I' ah m'=>∃ (Parts5:List zO) (x10:zN) (p38:Option Addr) (c37:Nat) (cs13:List Value) (p39:Option Addr) (c38:Nat),o07=(Parts5,x10)/\I024.le I'/\(RL I' cs13 Parts5)/\(S4 I' p39 x10.b c38)/\ah=[hB aw (cRd x10 p39 c38),hB b2 [vS p4 y.Arrays c3,vS p38 Parts5 c37],hO zF (vS p4 y.Arrays c3) cs,hO zO (vS p38 Parts5 c37) cs13,hB b1 zTwo]/\m'=[(4,vP b1 0),(5,vP b2 0)]) ?_ ?_
           · have H:=iS I024;refine yC ho07 ?_ ?_
             · intro hc7 N;obtain ⟨x11,hy15,N⟩:=zB N;obtain ⟨x12,hy16,N⟩:=zB N;obtain ⟨⟨y22,y23⟩,hy17,N⟩:=zB N;obtain ⟨⟨y24,y25⟩,hy18,N⟩:=zB N;obtain ⟨⟨y26,y27⟩,hy19,N⟩:=zB N;obtain ⟨l3,hy20,N⟩:=zB N;have hF:False:=hne _ _ _ _ _ (by assumption) (by assumption) (by assumption) hy15 hy16;obtain ⟨p40,c39,cs14,p41,c40,h64,h65⟩:∃ p40 c39 cs14 p41 c40,(RL I024 cs14 l3)/\(S4 I024 p41 y27.b c40):=hF.elim;exact zNU hF (aq:=I024) (ah:=[hB aw (cRd y27 p41 c40),hB b2 [vS p4 y.Arrays c3,vS p40 l3 c39],hO zF (vS p4 y.Arrays c3) cs,hO zO (vS p40 l3 c39) cs14,hB b1 zTwo]) (m':=[(0,vP aw 0),(4,vP b1 0),(5,vP b2 0),(6,vI (y.Parts.length:Int)),(76,.bool t76)])<|yL<|zU ⟨_,_,_,_,_,_,_,(zC N).symm,H,h64,h65,rfl,rfl⟩
             intro hc7 N;exact zS<|yL<|zU ⟨_,_,_,_,_,_,_,(zC N).symm,H,h4,h7,rfl,rfl⟩
           rintro I025 ay m2 ⟨Parts5,x10,p38,c37,cs13,p39,c38,heq3,le21,h62,h63,rfl,rfl⟩;subst o07;have H:=H.trans le21;exact yL<|zU ⟨_,_,_,_,_,_,_,(zC hMc7).symm,H,h62,h63,rfl,rfl⟩
         intro hc5 N;refine yF [100] rfl<|zG ?_;obtain ⟨o08,ho08,hMc8⟩:=zB N;refine qF (fun I' ah m'=>∃ (Parts6:List zO) (p42:Option Addr) (c41:Nat) (cs15:List Value),o08=Parts6/\ba.le I'/\(RL I' cs15 Parts6)/\ah=[hB aw (cRd y3 p6 c5),hB b2 [vS p4 y.Arrays c3,vS p42 Parts6 c41],hO zF (vS p4 y.Arrays c3) cs,hO zO (vS p42 Parts6 c41) cs15,hB b1 zTwo]/\m'=[(4,vP b1 0),(5,vP b2 0)]) ?_ ?_
         · have H:=iS ba;refine yC ho08 ?_ ?_
           · intro hc8 N;refine yF [103] rfl<|zG ?_;obtain ⟨o09,ho09,hMc9⟩:=zB N;refine qF (fun I' ah m'=>∃ (Parts7:List zO) (p43:Option Addr) (c42:Nat) (cs16:List Value),o09=Parts7/\ba.le I'/\(RL I' cs16 Parts7)/\ah=[hB aw (cRd y3 p6 c5),hB b2 [vS p4 y.Arrays c3,vS p43 Parts7 c42],hO zF (vS p4 y.Arrays c3) cs,hO zO (vS p43 Parts7 c42) cs16,hB b1 zTwo]/\m'=[(4,vP b1 0),(5,vP b2 0)]) ?_ ?_
             · have H:=iS ba;refine yC ho09 ?_ ?_
               · intro hc9 N;refine zJ<|yB 4 [1] [105,107] rfl<|bE N fun x13 hy21 N=>pQ 3 rfl rfl rfl h4 hy21 ?_;intro ad4 ccs5 hat5 hcc4 hrep4;obtain ⟨p44,c43,p45,c44,rfl,h68,h69⟩:=wR hrep4;refine yB 6 [] [109] rfl ?_;obtain ⟨l4,hy22,N⟩:=zB N;refine tR (c:=[vS p44 x13.Nest c43,z0]) (x':=(zO.mk x13.Nest ([]:List zP))) 3 1 rfl rfl rfl hat5 rfl rfl hcc4 (by kernel_rfl) (by kernel_rfl) (by kernel_rfl) h4 hy21 (by kernel_rfl) (qN ⟨_,_,rfl,h68,(SL.nil _)⟩) ?_;rw [show y.Parts.set (W ((y.Parts.length:Int) - 1)).toNat (zO.mk x13.Nest ([]:List zP))=l4 from zC hy22];intro cs17 h70 hl09;exact kD (m':=[(4,vP b1 0),(5,vP b2 0)]) ⟨rfl,rfl,trivial⟩<|zA1 (ah:=[hB aw (cRd y3 p6 c5),hB b2 [vS p4 y.Arrays c3,vS p5 l4 c4],hO zF (vS p4 y.Arrays c3) cs,hO zO (vS p5 l4 c4) cs17,hB b1 zTwo]) (m':=[(4,vP b1 0),(5,vP b2 0)]) (by first | rfl | simp only [vS,hl09,cv,dj,dq,dh,cX,cY]) (by first | rfl | simp only [vS,hl09])<|yD rfl<|yL<|zU ⟨_,_,_,_,(zC N).symm,H,h70,rfl,rfl⟩
               intro hc9 N;exact zS<|yL<|zU ⟨_,_,_,_,(zC N).symm,H,h4,rfl,rfl⟩
             rintro I027 ay m2 ⟨Parts7,p43,c42,cs16,heq4,le22,h67,rfl,rfl⟩;subst o09;have H:=H.trans le22;exact yL<|zU ⟨_,_,_,_,(zC hMc9).symm,H,h67,rfl,rfl⟩
           intro hc8 N;exact zS<|yL<|zU ⟨_,_,_,_,(zC N).symm,H,h4,rfl,rfl⟩
         rintro I026 ay m2 ⟨Parts6,p42,c41,cs15,heq5,le23,h66,rfl,rfl⟩;subst o08;have ⟨h7,H⟩:=m2 le23 h7 H;exact yL<|zU ⟨_,_,_,_,_,_,_,(zC hMc8).symm,H,h66,h7,rfl,rfl⟩
       rintro I023 ay m2 ⟨Parts4,x8,p34,c33,cs12,p35,c34,heq6,le24,h58,h59,rfl,rfl⟩;subst o05;have H:=H.trans le24;exact yL<|zU ⟨_,_,_,_,_,_,_,(zC hMc5).symm,H,h58,h59,rfl,rfl⟩
     rintro I017 ay m2 ⟨Parts2,x4,p20,c19,cs9,p21,c20,heq7,le25,h40,h41,rfl,rfl⟩;subst o03;have ⟨h3,H⟩:=m2 le25 h3 H;exact yL<|zU ⟨_,_,_,_,_,_,_,_,_,_,_,(zC hMc3).symm,H,h3,h40,h41,rfl,rfl⟩
   rintro bY ay m2 ⟨aC,br,x1,bq,bo,bJ,p14,bB,cs6,p15,c14,heq8,le26,h26,h27,h28,rfl,rfl⟩;subst aP;have H:=H.trans le26;exact yL<|zU ⟨_,_,_,_,_,_,_,_,_,_,_,(zC hMc1).symm,H,h26,h27,h28,rfl,rfl⟩
 rintro bH ay m2 ⟨Arrays,Parts,x,p7,c6,aS,p8,c7,aT,p9,c8,aZ,le27,h8,h9,h10,rfl,rfl⟩;subst o0;refine zM<|yX<|rQ 1 [1] [(110,vA [vS p7 Arrays c6,vS p8 Parts c7])]<|xJ 4 [vS p7 Arrays c6,vS p8 Parts c7] rfl<|yD rfl<|xD<|yU 2 rfl ?_;intro I028 le28 hl010;have h71:=SL.of_frozen hl010 le28 h8;have ⟨h10,h9⟩:=m2 le28 h10 h9;refine yU 2 rfl ?_;intro I029 le29 hl011;have h72:=SL.of_frozen hl011 le29 h9;have ⟨h10,h71⟩:=m2 le29 h10 h71;obtain rfl:=zC aU;exact yZ ⟨_,_,(.cell 2 rfl rfl (by kernel_rfl) ResV.nil),(zW [0] rfl (by decide)),⟨_,_,rfl,rfl,⟨_,rfl,(vR ⟨_,_,rfl,h71,h72⟩)⟩,(yR ⟨_,rfl,h10⟩)⟩⟩
theorem zES (p:zD):∀ (i1:Int) (Parts:List zO) (o:List zO),uW p i1 Parts=some o->∀ {B}{I0 I:Imm}{Q}{aC:List zF}{p1 c p2 c1}{b:Nat}{b1:Nat}{b2:Nat}{p4 c3 az p9 c8 bt}{am:List Raw2}{pN pB:Option Addr}{cN cB:Nat}{nl:List zE}{bl:List zP}{csB:List Value},I0.le I->(RL I az aC)->(S4 I p1 p.Arrays c)->(S4 I p2 p.Parts c1)->(RL I bt am)->LP I am Parts (vS pN nl cN) nl (vS pB bl cB) bl->SL I (vS pN nl cN) nl->RL I csB bl->(∀ l a w,¬Q (.goto l) a w)->(∀ a w,¬Q .outgrown a w)->(∀ (I':Imm) (bi:Option Addr) (c9:Nat) (bJ:List Value) (raws1:List Raw2) (pN pB:Option Addr) (cN cB:Nat) (nl:List zE) (bl:List zP) (csB:List Value),I0.le I'->(RL I' bJ raws1)->LP I' raws1 o (vS pN nl cN) nl (vS pB bl cB) bl->SL I' (vS pN nl cN) nl->RL I' csB bl->T 84 B Q (.exit 2) I' [hO zP (vS pB bl cB) csB,hO Raw2 (vS bi raws1 c9) bJ,hO zF (vS p4 aC c3) az,hB b2 [vS p4 aC c3,vS bi raws1 c9],hB b1 zTwo] [(2,vP b1 0),(3,vP b2 0)])->J Tryz.prog 84 B (nav (bodyOf f104) [1,1,1,0,1,0]) Q I [hO zP (vS pB bl cB) csB,hO Raw2 (vS p9 am c8) bt,hO zF (vS p4 aC c3) az,hB b2 [vS p4 aC c3,vS p9 am c8],hB b1 zTwo,hB b (cProg p p1 c p2 c1)] [(1,vP b 0),(2,vP b1 0),(3,vP b2 0),(5,vI i1)]:=by
 refine uW.partial_correctness p _ fun aJ ih i1 Parts o N B I0 I Q aC p1 c p2 c1 b b1 b2 p4 c3 az p9 c8 bt am pN pB cN cB nl bl csB H h4 h h1 hRw hLP hN hBd hg ho hx=>yM hg ho<|zZ<|yE<|yH [5] [40] rfl<|zG<|yC N ?_ ?_
 · intro aI N;refine pH 0 rfl ?_;intro immf lef hlf;have kB:=SL.of_frozen hlf lef hBd;have ⟨h4,h,h1,hN,hRw,hLP⟩:=m6 lef h4 h h1 hN hRw hLP;have H:=H.trans lef;have h14:=hLP.done hN kB;rw [<- jR hRw] at h14;have eP:vS p9 am c8=vS p9 Parts c8:=by simp only [vS,hLP.2.1]
   rw [eP];clear hBd hlf;refine zS<|zX<|yG<|yE<|yB 3 [4] [44,45] rfl<|bE N fun x2 bw N=>xK rfl rfl h1 bw ?_;intro ad3 ccs4 hat3 bd;obtain ⟨aR,bh,bD,bc,rfl,h16,h17⟩:=wR bd;refine yB 5 [] [47] rfl<|xB 0 hat3 [vS aR x2.Nest bh] (vS aR x2.Nest bh) rfl<|bE N fun y bI N=>xL (zCy x2.Nest _ bI h16) ?_;rintro bL ay v2 k2 bk - ⟨v04,rfl,rfl,h18⟩ -;have ⟨h14,hRw,hLP,hN⟩:=m4 bk h14 hRw hLP hN;replace kB:=kB.mono bk;have ⟨h4,h,h1,H⟩:=m4 bk h4 h h1 H;obtain ⟨bq,bo,rfl⟩:=h18.form;refine yB 8 [] [50] rfl<|wS zTwo ?_;intro b5 hb5;refine xJ 0 [vS bq y bo,z0] rfl<|yD rfl<|zX<|yF [7] rfl<|xX<|rU [(1,vP b 0),(2,vP b1 0),(3,vP b2 0),(5,vI i1),(6,vP b5 0),(7,vI 0)]<|zAI zP fun h19=>?_;obtain ⟨aP,aA,hMl1⟩:=zB N;refine zBS p i1 0 ([]:List zP) aP aA iR h18 h14 h4 h h1 h19 (fun _ _ _ h=>hg _ _ _ h) (fun _ _ h=>ho _ _ h) ?_;intro bS bx p15 c14 cs7 heq1 le10 h21;subst aP;have ⟨h18,hRw,hLP,hN⟩:=m4 le10 h18 hRw hLP hN;replace kB:=kB.mono le10;have ⟨h4,h,h1,H⟩:=m4 le10 h4 h h1 H;obtain ⟨l3,hy11,N⟩:=zB hMl1;have hy12:=zJ4 (l':=am) (m':=[(⟨vS bq y bo,vS p15 bx c14⟩:Raw2)]) hy11 hLP.2.1 rfl;have h40:RL bS [vS bq y bo,vS p15 bx c14] [(⟨vS bq y bo,vS p15 bx c14⟩:Raw2)]:=⟨[vS bq y bo,vS p15 bx c14],[],rfl,rfl,⟨rfl,rfl,rfl⟩,rfl⟩;refine zR<|zG<|zJ<|rQ 3 [4,1] [(78,vS p9 Parts c8),(79,vA [vS bq y bo,vS p15 bx c14])]<|uK [vS bq y bo,vS p15 bx c14] Raw2 ?_;intro b7 hb7;refine sU (α:=Raw2) 47 2 3 rfl rfl rfl hRw (.inr ⟨0,rfl⟩) h40 hy12 ?_;intro p29 c28 cs11 h41;exact tZ (zY [1,3,4,5,6,7] (ah:=[hO zP (vS p15 bx c14) cs7,hO Raw2 (vS p29 (am++[(⟨vS bq y bo,vS p15 bx c14⟩:Raw2)]) c28) cs11,hO zF (vS p4 aC c3) az,hB b2 [vS p4 aC c3,vS p9 Parts c8],hB b1 zTwo,hB b (cProg p p1 c p2 c1)]))<|yB 6 [] [82] rfl<|xJ 3 [vS p4 aC c3,vS p29 (am++[(⟨vS bq y bo,vS p15 bx c14⟩:Raw2)]) c28] rfl<|yD rfl<|zM<|zG<|zJ<|yH [] [5] rfl<|yK<|oY<|ih (W (i1+1)) l3 _ N H h4 h h1 h41 (hLP.push hN kB hy11) h18 h21 hg ho hx
 intro aI N;have:=zC N;simp only [id] at this;subst this;exact wJ<|xQ (zW [0,1,2,3,4] rfl (by decide))<|yL<|hx _ _ _ _ _ _ _ _ _ _ _ _ H hRw hLP hN hBd
def zFC (r:zD):KT:=fun kk I' ah v=>
  ∃ (a0:Option Addr) (c0:Nat) (s0:List Value) (a1:Option Addr) (c1:Nat) (s1:List Value) (am:List Raw2) (pN pB:Option Addr) (cN cB:Nat) (nl:List zE) (bl:List zP) (csB:List Value),ah=[hO zP (vS pB bl cB) csB,hO Raw2 (vS a1 am c1) s1,hO zF (vS a0 r.Arrays c0) s0]/\v=tupV [vA [vS a0 r.Arrays c0,vS a1 am c1]]/\RL I' s0 r.Arrays/\RL I' s1 am/\LP I' am r.Parts (vS pN nl cN) nl (vS pB bl cB) bl/\SL I' (vS pN nl cN) nl/\RL I' csB bl
theorem zGr:∀ (p:zD) r,pP p=some r->∀ {I:Imm}{p1 c p2 c1},(S4 I p1 p.Arrays c)->(S4 I p2 p.Parts c1)->RT 104 [vA (cProg p p1 c p2 c1)] I [] (zFC r):=by
 intro p r N I p1 c p2 c1 h h1;unfold pP at N;refine yJ func104 fun B=>yE<|tO (cProg p p1 c p2 c1) ?_;intro b hb;refine wS zTwo ?_;intro b1 hb1;refine yD rfl<|yX<|yB 1 [] [8] rfl<|wS zTwo ?_;intro b2 hb2;refine zB5 0 zTwo [hB b2 zTwo,hB b1 zTwo,hB b (cProg p p1 c p2 c1)] rfl rfl rfl rfl<|yD rfl<|zX<|yF [4] rfl<|xX<|rU [(1,vP b 0),(2,vP b1 0),(3,vP b2 0),(4,vI 0)]<|zAI zF fun h2=>?_;obtain ⟨o0,aD,aM⟩:=zB N;refine zBR p 0 ([]:List zF) o0 aD iR h h1 h2 (fun _ _ _ h=>h) (fun _ _ h=>h) ?_;intro bH aC p4 c3 az heq aK h4;subst o0;have ⟨h,h1⟩:=m2 aK h h1;refine zR<|zX<|yF [5] rfl<|xX<|rU [(1,vP b 0),(2,vP b1 0),(3,vP b2 0),(5,vI 0)]<|kE (nX (Rp.sz Raw2))<|kE (nX (Rp.sz zP)) ?_;obtain ⟨o02,ho02,hMl2⟩:=zB aM;refine zES p 0 ([]:List zO) o02 ho02 (am:=[]) (pN:=none) (pB:=none) (cN:=0) (cB:=0) (nl:=[]) (bl:=[]) iR h4 h h1 RepL.nil LP.nil (SL.nil _) RepL.nil (fun _ _ _ h=>h) (fun _ _ h=>h) ?_;intro bX bi c9 bJ raws1 pN pB cN cB nl bl csB le12 hRw hLP hN hBd;have h4:=iM le12 h4;obtain rfl:=zC hMl2;exact zR<|yX<|rQ 1 [3] [(83,vA [vS p4 aC c3,vS bi raws1 c9])]<|xJ 4 [vS p4 aC c3,vS bi raws1 c9] rfl<|yD rfl<|xD<|yZ ⟨_,_,(.cell 4 rfl rfl (by kernel_rfl) ResV.nil),(zW [0,1,2] rfl (by decide)),⟨_,_,_,_,_,_,_,_,_,_,_,_,_,_,rfl,rfl,h4,hRw,hLP,hN,hBd⟩⟩
theorem zN5 {am:List Raw2}{k:Nat}{r:Raw2} (h:am[k]?=some r):am.set k r=am:=by
  obtain ⟨hk,e⟩:=cm.1 h;subst e;exact gj hk
theorem zFD (r0:zN) (p1:zD) (r:zD×zN) (N:oJ r0 p1=some r) {y:zD}{y3:zN}{x:zO}{s:zP} (hy:pP p1=some y) (aB:xA r0 60=some (3,y3)) (hx:idx y.Parts (W ((y.Parts.length:Int) - 1))=some x) (hs:idx x.Body 0=some s) :
    ∀ {I:Imm}{aw:Nat}{p c p2 c1 p3 c2},(S4 I p r0.b c)->(S4 I p2 p1.Arrays c1)->(S4 I p3 p1.Parts c2)->RT 90 [vP aw 0,vA (cProg p1 p2 c1 p3 c2)] I [hB aw (cRd r0 p c)] (dK aw r):=by
 intro I aw p c p2 c1' p3 c2 h h1 h2
 obtain ⟨i0,i1,i2⟩:=vU hx
 obtain ⟨j0,j1,j2⟩:=vU hs
 have hn:(y.Parts.length:Int)>0:=by
   have:=(cm.1 i2).1; omega
 have hb:(x.Body.length:Int)>0:=by
   have:=(cm.1 j2).1; omega
 have e0:((3:Int)==0)=false:=rfl
 have e1:((3:Int)==1)=false:=rfl
 have e2:((3:Int)==2)=false:=rfl
 have e3:((3:Int)==3)=true:=rfl
 unfold oJ at N
 simp only [hy,aB,e0,e1,e2,e3,hn,hb,hx,hs,decide_true,if_true,cJ,if_false,Option.pure_def,Option.bind_eq_bind,Option.bind_some] at N
 cases hm1:rC y3 s with
 | none=>rw [hm1] at N; cases N
 | some q1 =>
 obtain ⟨y22,y23⟩:=q1
 simp only [hm1,Option.bind_some] at N
 cases hm2:rC y23 y22 with
 | none=>rw [hm2] at N; cases N
 | some q2 =>
 obtain ⟨y24,y25⟩:=q2
 simp only [hm2,Option.bind_some] at N
 cases hm3:rC y25 y24 with
 | none=>rw [hm3] at N; cases N
 | some q3 =>
 obtain ⟨y26,y27⟩:=q3
 simp only [hm3,Option.bind_some,Option.some.injEq] at N
 subst N
 refine yJ func90 fun B=>yE<|tO [vS p2 p1.Arrays c1',vS p3 p1.Parts c2] ?_
 intro b hb
 refine wS zTwo ?_
 intro b1 hb1
 refine yD rfl<|yX<|rQ 1 [1] [(7,vA [vS p2 p1.Arrays c1',vS p3 p1.Parts c2])]<|xL (zGr p1 _ hy h1 h2) ?_
 rintro I0 ay v2 k2 le - ⟨a0,c0,s0,a1,c1,s1,am,pN,pB,cN,cB,nl,bl,csB,rfl,rfl,h3,hRw,hLP,hN,hBd⟩ -
 have h:=h.mono le
 clear h1 h2
 rw [hLP.len] at hx hn i0 i1 i2
 obtain ⟨rfl,hraw,hset⟩:=hLP.last hx
 simp only at hs hb j0 j1 j2 hm1
 have hset:=hset (vS pN nl cN) nl (vS pB bl cB) (bl.set 0 y26)
 rw [zN5 (vU hraw).2.2] at hset
 refine wS zTwo ?_
 intro b2 hb2
 refine xJ 0 [vS a0 y.Arrays c0,vS a1 am c1] rfl<|yD rfl<|yX<|yH [0] [6] rfl<|zX<|yE<|yB 1 [] [12] rfl<|tZ (zY [6,1,2,0,3,4] (ah:=[hB aw (cRd r0 p c),hO zP (vS pB bl cB) csB,hO Raw2 (vS a1 am c1) s1,hB b2 [vS a0 y.Arrays c0,vS a1 am c1],hO zF (vS a0 y.Arrays c0) s0,hB b1 zTwo]))<|sJ (xR r0 60 _ aB h) rfl ?_
 rintro aW ay v2 k2 af - ⟨v0,kk,rfl,rfl,rfl,h6⟩ -
 obtain ⟨v01,rfl,h7⟩:=dJ h6
 obtain ⟨p6,c5,rfl⟩:=h7.form
 clear h6 h
 have h3:=iM af h3
 have hRw:=iM af hRw
 have hN:=hN.mono af
 have hBd:=iM af hBd
 have hset:=hset.mono af
 refine yD rfl<|xX<|yF [14] rfl<|zG<|eE rfl<|yF [29] rfl<|zG<|eE rfl<|yF [43] rfl<|zG<|eE rfl<|yF [62] rfl<|zG<|zAT rfl<|yE<|yB 3 [] [66] rfl ?_
 rw [decide_eq_true hn]
 refine yB 7 [3] [68,70] rfl<|pQ (α:=Raw2) 2 rfl rfl rfl hRw hraw ?_
 intro ad aQ ar bM ap
 obtain ⟨rfl,o1,o2⟩:=ap
 refine yB 9 [] [72] rfl<|zAH 2 1 ar bM [vS pB bl cB] (vS pB bl cB) rfl rfl<|yH [] [76] rfl ?_
 rw [decide_eq_true hb]
 refine zG<|zAT rfl<|rU [(0,vP aw 0),(4,vP b1 0),(5,vP b2 0),(6,vI (am.length:Int))]<|wQ [.p (vP b2 1) [],.p (vS a1 am c1) [2],.p (vI (am.length:Int)) [],.p (vI (W ((am.length:Int) - 1))) [],.x (fun I' v hx'=>∃ ad,v=.pointer (some ad)/\hx'=[]/\AtO (vS a1 am c1) 2 (W ((am.length:Int) - 1)).toNat ad),.x (fun I' v hx'=>∃ ad,v=.pointer (some (ad.add 1))/\hx'=[]/\AtO (vS a1 am c1) 2 (W ((am.length:Int) - 1)).toNat ad),.x (fun I' v hx'=>v=vS pB bl cB/\hx'=[]),.p (vP aw 0) [],.p (vP aw 0) [],.p (vP aw 0) [],.p (vP b2 1) [],.p (vS a1 am c1) [2],.p (vI (am.length:Int)) [],.p (vI (W ((am.length:Int) - 1))) [],.x (fun I' v hx'=>∃ ad,v=.pointer (some ad)/\hx'=[]/\AtO (vS a1 am c1) 2 (W ((am.length:Int) - 1)).toNat ad),.x (fun I' v hx'=>∃ ad,v=.pointer (some (ad.add 1))/\hx'=[]/\AtO (vS a1 am c1) 2 (W ((am.length:Int) - 1)).toNat ad),.x (fun I' v hx'=>v=vS pB bl cB/\hx'=[]),.x (fun I' v hx'=>∃ ad,v=.pointer (some ad)/\hx'=[]/\AtO (vS pB bl cB) 9 0 ad),.x (fun I' v hx'=>∃ cs9,v=.agg ⟨cs9⟩/\hx'=[]/\Rp.rep I' cs9 s),.x (fun I' v hx'=>∃ (cs9 kk:List Value),v=.agg ⟨cs9⟩/\hx'=[hB aw kk]/\Rp.rep I' cs9 y22/\Rp.rep I' kk y23),.x (fun I' v hx'=>∃ (cs9 kk:List Value),v=.agg ⟨cs9⟩/\hx'=[hB aw kk]/\Rp.rep I' cs9 y24/\Rp.rep I' kk y25),.x (fun I' v hx'=>∃ (cs9 kk:List Value),v=.agg ⟨cs9⟩/\hx'=[hB aw kk]/\Rp.rep I' cs9 y26/\Rp.rep I' kk y27)] [[],[(0,false)],[],[(2,false)],[(1,false),(3,false)],[(4,false)],[(5,false)],[],[],[],[],[(10,false)],[],[(12,false)],[(11,false),(13,false)],[(14,false)],[(15,false)],[(16,false)],[(17,false)],[(9,false),(18,false),(24,true)],[(8,false),(19,true)],[(7,false),(20,true)]] [hO zP (vS pB bl cB) csB,hO Raw2 (vS a1 am c1) s1,hB b2 [vS a0 y.Arrays c0,vS a1 am c1],hO zF (vS a0 y.Arrays c0) s0,hB b1 zTwo] [[hB aw (cRd y3 p6 c5)]] [(6,false),(21,true)] (zY [1,2,3,4,5,0]) ?_ ?_
 · refine Op<|Op<|Op<|Op<|Ox ?_<|Ox ?_<|Ox ?_<|Op<|Op<|Op<|Op<|Op<|Op<|Op<|Ox ?_<|Ox ?_<|Ox ?_<|Ox ?_<|Ox ?_<|Ox ?_<|Ox ?_<|Ox ?_<|On
   · intro I1 hf af
     refine wE ?_
     rintro _ _ ⟨rfl,rfl⟩
     refine wE ?_
     rintro _ _ ⟨rfl,rfl⟩
     refine oQ<|zBF [(78,vS a1 am c1),(80,vI (W ((am.length:Int) - 1)))]<|pQ (α:=Raw2) 1 rfl rfl rfl (iM af hRw) hraw ?_
     intro ad aQ ar bM ap
     exact yN [] iR ⟨_,rfl,rfl,ar⟩
   · intro I1 hf af
     refine wE ?_
     rintro _ _ ⟨ad,rfl,rfl,ar⟩
     exact oQ<|zBF [(81,.pointer (some ad))]<|mE 6 [(82,.pointer (some (ad.add 1)))]<|yN [] iR ⟨_,rfl,rfl,ar⟩
   · intro I1 hf af
     refine wE ?_
     rintro _ _ ⟨ad,rfl,rfl,ar⟩
     refine oQ<|zBF [(82,.pointer (some (ad.add 1)))] ?_
     have ap:=hRw.at (vU hraw).2.2
     obtain ⟨⟨bM,o1,o2⟩,_⟩:=ap
     exact zAH 1 1 ar bM [vS pB bl cB] (vS pB bl cB) rfl rfl<|xC iR
   · intro I1 hf af
     refine wE ?_
     rintro _ _ ⟨rfl,rfl⟩
     refine wE ?_
     rintro _ _ ⟨rfl,rfl⟩
     refine oQ<|zBF [(88,vS a1 am c1),(90,vI (W ((am.length:Int) - 1)))]<|pQ (α:=Raw2) 1 rfl rfl rfl (iM af hRw) hraw ?_
     intro ad aQ ar bM ap
     exact yN [] iR ⟨_,rfl,rfl,ar⟩
   · intro I1 hf af
     refine wE ?_
     rintro _ _ ⟨ad,rfl,rfl,ar⟩
     exact oQ<|zBF [(91,.pointer (some ad))]<|mE 16 [(92,.pointer (some (ad.add 1)))]<|yN [] iR ⟨_,rfl,rfl,ar⟩
   · intro I1 hf af
     refine wE ?_
     rintro _ _ ⟨ad,rfl,rfl,ar⟩
     refine oQ<|zBF [(92,.pointer (some (ad.add 1)))] ?_
     have ap:=hRw.at (vU hraw).2.2
     obtain ⟨⟨bM,o1,o2⟩,_⟩:=ap
     exact zAH 1 1 ar bM [vS pB bl cB] (vS pB bl cB) rfl rfl<|xC iR
   · intro I1 hf af
     refine wE ?_
     rintro _ _ ⟨rfl,rfl⟩
     refine oQ<|zBF [(93,vS pB bl cB)]<|pQ (α:=zP) 0 rfl rfl rfl (iM af hBd) hs ?_
     intro ad aQ ar bM ap
     exact yN [] iR ⟨_,rfl,rfl,ar⟩
   · intro I1 hf af
     refine wE ?_
     rintro _ _ ⟨ad,rfl,rfl,ar⟩
     refine oQ<|zBF [(94,.pointer (some ad))] ?_
     obtain ⟨ap,_⟩:=(iM af hBd).at j2
     generalize bM:(csB.drop (Int.toNat 0*Rp.sz zP)).take (Rp.sz zP)=cc at ap
     obtain ⟨w0,w1,w2,w3,rfl,e10,e11,e12,e13⟩:=mA ap
     obtain ⟨bi,bh,rfl⟩:=e10.form
     obtain ⟨aR,bc,rfl⟩:=e11.form
     obtain ⟨bD,bo,rfl⟩:=e12.form
     obtain ⟨bq,bB,rfl⟩:=e13.form
     exact zAH 0 0 ar bM (cStmt s bi bh aR bc bD bo bq bB) (vA (cStmt s bi bh aR bc bD bo bq bB)) rfl rfl<|yN [] iR ⟨_,rfl,rfl,vC ⟨_,_,_,_,rfl,e10,e11,e12,e13⟩⟩
   · intro I1 hf af
     refine wE ?_
     rintro _ _ ⟨rfl,rfl⟩
     refine wE ?_
     rintro _ _ ⟨cs9,rfl,rfl,h9⟩
     refine wE ?_
     rintro _ _ rfl
     obtain ⟨w0,w1,w2,w3,rfl,e10,e11,e12,e13⟩:=mA h9
     obtain ⟨bi,bh,rfl⟩:=e10.form
     obtain ⟨aR,bc,rfl⟩:=e11.form
     obtain ⟨bD,bo,rfl⟩:=e12.form
     obtain ⟨bq,bB,rfl⟩:=e13.form
     refine oQ<|zBF [(86,vP aw 0),(95,vA (cStmt s bi bh aR bc bD bo bq bB))]<|sJ (zAK y3 s _ hm1 (h7.mono af) e10 e11 e12 e13) rfl ?_
     rintro ba ay v2 k2 aF - ⟨v0,kk2,rfl,rfl,⟨aS,rfl,h10⟩,h11⟩ -
     exact yN [hB aw kk2] aF ⟨_,_,rfl,rfl,h10,h11⟩
   · intro I1 hf af
     refine wE ?_
     rintro _ _ ⟨rfl,rfl⟩
     refine wE ?_
     rintro _ _ ⟨cs9,kk,rfl,rfl,h9,hk⟩
     obtain ⟨w0,w1,w2,w3,rfl,e10,e11,e12,e13⟩:=mA h9
     obtain ⟨bi,bh,rfl⟩:=e10.form
     obtain ⟨aR,bc,rfl⟩:=e11.form
     obtain ⟨bD,bo,rfl⟩:=e12.form
     obtain ⟨bq,bB,rfl⟩:=e13.form
     obtain ⟨w4,rfl,hsl⟩:=dJ hk
     obtain ⟨p8,c8,rfl⟩:=hsl.form
     refine oQ<|zBF [(85,vP aw 0),(96,vA (cStmt y22 bi bh aR bc bD bo bq bB))]<|sJ (zAK y23 y22 _ hm2 (hsl) e10 e11 e12 e13) rfl ?_
     rintro ba ay v2 k2 aF - ⟨v0,kk2,rfl,rfl,⟨aS,rfl,h10⟩,h11⟩ -
     exact yN [hB aw kk2] aF ⟨_,_,rfl,rfl,h10,h11⟩
   intro I1 hf af
   refine wE ?_
   rintro _ _ ⟨rfl,rfl⟩
   refine wE ?_
   rintro _ _ ⟨cs9,kk,rfl,rfl,h9,hk⟩
   obtain ⟨w0,w1,w2,w3,rfl,e10,e11,e12,e13⟩:=mA h9
   obtain ⟨bi,bh,rfl⟩:=e10.form
   obtain ⟨aR,bc,rfl⟩:=e11.form
   obtain ⟨bD,bo,rfl⟩:=e12.form
   obtain ⟨bq,bB,rfl⟩:=e13.form
   obtain ⟨w4,rfl,hsl⟩:=dJ hk
   obtain ⟨p8,c8,rfl⟩:=hsl.form
   refine oQ<|zBF [(84,vP aw 0),(97,vA (cStmt y24 bi bh aR bc bD bo bq bB))]<|sJ (zAK y25 y24 _ hm3 (hsl) e10 e11 e12 e13) rfl ?_
   rintro ba ay v2 k2 aF - ⟨v0,kk2,rfl,rfl,⟨aS,rfl,h10⟩,h11⟩ -
   exact yN [hB aw kk2] aF ⟨_,_,rfl,rfl,h10,h11⟩
 intro I5 bz
 refine wE ?_
 rintro _ _ ⟨rfl,rfl⟩
 refine wE ?_
 rintro _ _ ⟨cs9,kk,rfl,rfl,h9,hk⟩
 obtain ⟨w0,w1,w2,w3,rfl,e10,e11,e12,e13⟩:=mA h9
 obtain ⟨bi,bh,rfl⟩:=e10.form
 obtain ⟨aR,bc,rfl⟩:=e11.form
 obtain ⟨bD,bo,rfl⟩:=e12.form
 obtain ⟨bq,bB,rfl⟩:=e13.form
 have h3:=iM bz h3
 have hRw:=iM bz hRw
 have hN:=hN.mono bz
 have hBd:=iM bz hBd
 have hset:=hset.mono bz
 refine oQ<|zBF [(4,vP b1 0),(5,vP b2 0),(83,vS pB bl cB),(98,vA (cStmt y26 bi bh aR bc bD bo bq bB))]<|pQ (α:=zP) 1 rfl rfl rfl hBd hs ?_
 intro ad aQ ar bM ap
 obtain ⟨w0,w1,w2,w3,rfl,e20,e21,e22,e23⟩:=mA ap
 obtain ⟨p20,c20,rfl⟩:=e20.form
 obtain ⟨p21,c21,rfl⟩:=e21.form
 obtain ⟨p22,c22,rfl⟩:=e22.form
 obtain ⟨p23,c23,rfl⟩:=e23.form
 refine tR (c:=(cStmt y26 bi bh aR bc bD bo bq bB)) (x':=y26) 1 0 rfl rfl rfl ar rfl rfl bM (by kernel_rfl) (by kernel_rfl) (by kernel_rfl) hBd hs (by kernel_rfl) (vC ⟨_,_,_,_,rfl,e10,e11,e12,e13⟩) ?_
 intro cs7 h7' aV
 refine wN (ah:=[hB aw kk,hO zP (vS pB bl cB) cs7,hO Raw2 (vS a1 am c1) s1,hB b2 [vS a0 y.Arrays c0,vS a1 am c1],hO zF (vS a0 y.Arrays c0) s0,hB b1 zTwo]) rfl<|xH 1 rfl ?_
 intro I6 bC hl6
 have eB:vS pB bl cB=vS pB (bl.set 0 y26) cB:=by simp [vS]
 have kB:SL I6 (vS pB (bl.set 0 y26) cB) (bl.set 0 y26):=by
   rw [<- eB]
   exact SL.of_frozen (l:=bl.set 0 y26) hl6 bC h7'
 rw [eB] at hset
 have hdone:=(hset.mono bC).done (hN.mono bC) kB
 have eS:=jR hRw
 rw [<- eS] at hdone
 have h3:=iM bC h3
 have hk:=Rp.mono bC hk
 have eP:vS a1 am c1=vS a1 (y.Parts.set (W ((am.length:Int) - 1)).toNat ⟨nl,bl.set 0 y26⟩) c1:=by simp only [vS,cM,hLP.2.1]
 refine wN (ah:=[hB aw kk,hO Raw2 (vS a1 am c1) s1,hB b2 [vS a0 y.Arrays c0,vS a1 am c1],hO zF (vS a0 y.Arrays c0) s0,hB b1 zTwo]) rfl<|yD rfl<|zM<|yX<|rQ 1 [2] [(110,vA [vS a0 y.Arrays c0,vS a1 am c1])]<|xJ 4 [vS a0 y.Arrays c0,vS a1 am c1] rfl<|yD rfl<|xD<|yU 1 rfl ?_
 intro I7 le7 hl7
 have k1:SL I7 (vS a1 am c1) (y.Parts.set (W ((am.length:Int) - 1)).toNat ⟨nl,bl.set 0 y26⟩):=SL.of_frozen (l:=y.Parts.set (W ((am.length:Int) - 1)).toNat ⟨nl,bl.set 0 y26⟩) hl7 le7 hdone
 refine yU 2 rfl ?_
 intro I8 le8 hl8
 have k2:=SL.of_frozen hl8 le8 (iM le7 h3)
 rw [hLP.len]
 exact yZ ⟨_,_,(.cell 2 rfl rfl (by kernel_rfl) ResV.nil),(zW [0] rfl (by decide)),⟨_,_,rfl,rfl,⟨_,rfl,(vR ⟨_,_,rfl,k2,k1.mono le8⟩)⟩,Rp.mono le8 (Rp.mono le7 hk)⟩⟩
theorem zGI:∀ r0 p1 r,oJ r0 p1=some r->∀ {I:Imm}{aw:Nat}{p c p2 c1 p3 c2},(S4 I p r0.b c)->(S4 I p2 p1.Arrays c1)->(S4 I p3 p1.Parts c2)->RT 90 [vP aw 0,vA (cProg p1 p2 c1 p3 c2)] I [hB aw (cRd r0 p c)] (dK aw r):=by
 intro r0 p1 r N I aw p c p2 c1 p3 c2 h h1 h2;by_cases hq:∃ y y3 x s,pP p1=some y/\xA r0 60=some (3,y3)/\idx y.Parts (W ((y.Parts.length:Int) - 1))=some x/\idx x.Body 0=some s
 · obtain ⟨y,y3,x,s,e1,e2,e3,e4⟩:=hq;exact zFD r0 p1 r N e1 e2 e3 e4 h h1 h2
 refine zFB r0 p1 r N h h1 h2 ?_;intro y y2 y3 x s e1 e2 e3 e4 e5;obtain rfl:=eq_of_beq e3;exact hq ⟨y,y3,x,s,e1,e2,e4,e5⟩
def zBn (r:(List Str)):KT:=fun kk I' ah v=>
  ∃ v0,ah=[]/\v=tupV [v0]/\SL I' v0 r
def oZ (s:Str) (c:UInt8) (out:List Str) (from0:Int) (i:Int):Option (List Str):=do
 if (decide (i<=(s.l.length:Int))) then
  let t25<-(do
    if (i==(s.l.length:Int)) then
     pure true
    else
     let b1<-sidx s i
     pure ((b1.toNat:Int)==(c.toNat:Int))
      : Option Bool)
  let (au,from01)<-(do
    if t25 then
     let s1<-sslc s from0 i
     let aH<-app 16 out ([s1]:List Str)
     pure (aH,(W (i+1)))
    else
     pure (out,from0)
      : Option (List Str×Int))
  oZ s c au from01 (W (i+1))
 else
  pure (id out)
 partial_fixpoint
theorem zFE (s:Str) (c:UInt8):∀ (out:List Str) (from0:Int) (i:Int) (o:List Str),oZ s c out from0 i=some o->∀ {B}{I0 I:Imm}{Q p c1 cs},I0.le I->(RL I cs out)->NG Q->NO Q->(∀ (I':Imm) (al:List Str) (p1:Option Addr) (c2:Nat) (az:List Value),o=al->I0.le I'->(RL I' az al)->T 36 B Q (.exit 0) I' [hO Str (vS p1 al c2) az] [(5,vS p1 al c2)])->J Tryz.prog 36 B (nav (bodyOf f174) [1,1,1,0,1,0]) Q I [hO Str (vS p out c1) cs] [(0,vT s.l),(1,.int .u8 (c.toNat:Int)),(5,vS p out c1),(6,vI from0),(7,vI i)]:=by
 refine oZ.partial_correctness s c _ fun aJ ih out from0 i o N B I0 I Q p c1 cs H h1 hg ho hx=>yM hg ho<|zZ<|yF [12] rfl<|zG<|yC N ?_ ?_
 · intro hc N;refine zS<|zX<|yG<|zZ ?_;refine wO N [hO Str (vS p out c1) cs] (fun t25=>[(0,vT s.l),(1,.int .u8 (c.toNat:Int)),(5,vS p out c1),(6,vI from0),(7,vI i),(25,.bool t25)]) (fun o0 aD=>?_) ?_
   · have H:=iS I;refine zJ<|yB 5 [] [19] rfl<|xV [19] aD ?_ ?_
     · intro aI N;exact wG [] [(25,vY)]<|yL<|zU (ct N H)
     intro aI N;exact yB 7 [] [20,21] rfl<|bE N fun b1 hy N=>zBE rfl rfl hy<|yH [] [25] rfl<|yL<|zU (ct N H)
   intro t25 I0 le aU;have ⟨h1,H⟩:=m2 le h1 H;refine zG ?_;obtain ⟨aP,aA,hMc1⟩:=zB aU;refine qF (fun I' ah m'=>∃ (au:List Str) (from01:Int) (p2:Option Addr) (c3:Nat) (aS:List Value),aP=(au,from01)/\I0.le I'/\(RL I' aS au)/\ah=[hO Str (vS p2 au c3) aS]/\m'=[(0,vT s.l),(1,.int .u8 (c.toNat:Int)),(5,vS p2 au c3),(6,vI from01),(7,vI i)]) ?_ ?_
   · have H:=iS I0;refine yC aA ?_ ?_
     · intro aX N;refine yE<|yB 4 [] [26,27,28,29] rfl<|bE N fun s1 aB N=>zI8 rfl aB<|uK [vT s1.l] Str ?_;intro b2 hb1;have h4:RL I0 [vT s1.l] ([s1]:List Str):=rT [s1];obtain ⟨aH,aN,N⟩:=zB N;exact sU 9 1 1 rfl rfl rfl h1 (.inr ⟨0,rfl⟩) h4 aN fun p3 c4 aT h5=>tZ (zY [1] (ah:=[hO Str (vS p3 aH c4) aT]))<|yH [] [5] rfl<|zG<|zJ<|yH [] [6] rfl<|yL<|zU ⟨_,_,_,_,_,(zC N).symm,H,h5,rfl,rfl⟩
     intro aX N;exact zS<|yL<|zU ⟨_,_,_,_,_,(zC N).symm,H,h1,rfl,rfl⟩
   rintro aW ay m2 ⟨au,from01,p2,c3,aS,heq1,af,h3,rfl,rfl⟩;subst aP;have H:=H.trans af;exact zM<|zG<|zJ<|yH [] [7] rfl<|yK<|oY<|ih au from01 (W (i+1)) _ hMc1 H h3 hg ho hx
 intro hc N;exact wJ<|yL<|hx _ _ _ _ _ (zC N).symm H h1
def jG (s:Str) (c:UInt8):Option ((List Str)):=do
 let al<-oZ s c ([]:List Str) 0 0
 pure (id al)
theorem zAr:∀ s c r,jG s c=some r->∀ {I:Imm} ,RT 174 [vT s.l,.int .u8 (c.toNat:Int)] I [] (zBn  r):=by
 intro s c r N I;unfold jG at N;refine yJ func174 fun B=>wP []<|yX<|uK [] Str ?_;intro b hb;have h:RL I [] ([]:List Str):=rfl;refine yH [] [5] rfl<|wM [6] rfl<|zX<|yF [7] rfl<|xX<|rU [(0,vT s.l),(1,.int .u8 (c.toNat:Int)),(5,vS (some ⟨b,0,none⟩) ([]:List Str) 0),(6,vI 0),(7,vI 0)] ?_;obtain ⟨o02,ho02,aM⟩:=zB N;refine zFE s c ([]:List Str) 0 0 o02 ho02 iR h (fun _ _ _ h=>h) (fun _ _ h=>h) ?_;intro ba al p1 c2 az heq2 aF h2;subst o02;refine zR<|wM [4] rfl<|xD<|yU 0 rfl ?_;intro bH aK hl0;have h6:=SL.of_frozen hl0 aK h2;obtain rfl:=zC aM;exact yZ ⟨_,_,(.tmp rfl ResV.nil),zQ,⟨_,rfl,rfl,h6⟩⟩
def qZ (y:(List Str)) (out:List Str) (i:Int):Option (List Str):=do
 if (decide (i<(y.length:Int))) then
  let x<-idx y i
  let au<-(do
    if (!(x.l==([]:List UInt8))) then
     let x1<-idx y i
     let aH<-app 16 out ([x1]:List Str)
     pure (id aH)
    else
     pure (id out)
      : Option (List Str))
  qZ y au (W (i+1))
 else
  pure (id out)
 partial_fixpoint
theorem zDk (y:(List Str)):∀ (out:List Str) (i:Int) (o:List Str),qZ y out i=some o->∀ {B}{I0 I:Imm}{Q p c p1 c1 cs},I0.le I->(S4 I p y c)->(RL I cs out)->NG Q->NO Q->(∀ (I':Imm) (al:List Str) (p2:Option Addr) (c2:Nat) (az:List Value),o=al->I0.le I'->(RL I' az al)->T 28 B Q (.exit 0) I' [hO Str (vS p2 al c2) az] [(4,vS p2 al c2)])->J Tryz.prog 28 B (nav (bodyOf f210) [1,1,1,0,1,0]) Q I [hO Str (vS p1 out c1) cs] [(3,vS p y c),(4,vS p1 out c1),(5,vI i)]:=by
 refine qZ.partial_correctness y _ fun aJ ih out i o N B I0 I Q p c p1 c1 cs H h h2 hg ho hx=>yM hg ho<|zZ<|yF [12] rfl<|zG<|yC N ?_ ?_
 · intro hc N;refine zS<|zX<|yG<|yE<|yB 2 [] [15,16] rfl<|bE N fun x aB N=>xK rfl rfl h aB ?_;intro ad aQ ar ap;obtain rfl:=ap;refine xB 0 ar [vT x.l] (vT x.l) rfl<|yH [] [19] rfl<|zG ?_;obtain ⟨o0,aD,aU⟩:=zB N;refine qF (fun I' ah m'=>∃ (au:List Str) (p3:Option Addr) (c3:Nat) (aS:List Value),o0=au/\I.le I'/\(RL I' aS au)/\ah=[hO Str (vS p3 au c3) aS]/\m'=[(3,vS p y c),(4,vS p3 au c3),(5,vI i)]) ?_ ?_
   · have H:=iS I;refine yC aD ?_ ?_
     · intro aI N;refine zJ<|yB 3 [] [20,21,22] rfl<|bE N fun x1 aN N=>xK rfl rfl h aN ?_;intro ad1 bv av ax;obtain rfl:=ax;refine xB 0 av [vT x1.l] (vT x1.l) rfl<|uK [vT x1.l] Str ?_;intro b1 hb1;have h5:RL I [vT x1.l] ([x1]:List Str):=rT [x1];obtain ⟨aH,bm,N⟩:=zB N;exact sU 9 1 1 rfl rfl rfl h2 (.inr ⟨0,rfl⟩) h5 bm fun p4 c4 aT h6=>tZ (zY [1] (ah:=[hO Str (vS p4 aH c4) aT]))<|yH [] [4] rfl<|yL<|zU ⟨_,_,_,_,(zC N).symm,H,h6,rfl,rfl⟩
     intro aI N;exact zS<|yL<|zU ⟨_,_,_,_,(zC N).symm,H,h2,rfl,rfl⟩
   rintro aW ay m2 ⟨au,p3,c3,aS,heq,af,h4,rfl,rfl⟩;subst o0;have ⟨h,H⟩:=m2 af h H;exact zM<|zG<|zJ<|yH [] [5] rfl<|yK<|oY<|ih au (W (i+1)) _ aU H h h4 hg ho hx
 intro hc N;exact wJ<|yL<|hx _ _ _ _ _ (zC N).symm H h2
def kR (s:Str):Option ((List Str)):=do
 let y<-jG s (32:UInt8)
 let al<-qZ y ([]:List Str) 0
 pure (id al)
theorem zBo:∀ s r,kR s=some r->∀ {I:Imm} ,RT 210 [vT s.l] I [] (zBn  r):=by
 intro s r N I;unfold kR at N;refine yJ func210 fun B=>wP []<|yX<|yB 1 [] [6] rfl<|bE N fun y hy N=>xL (zAr s (32:UInt8) _ hy ) ?_;rintro I0 ay v2 k2 le - ⟨v0,rfl,rfl,h⟩ -;obtain ⟨p,c,rfl⟩:=h.form;refine yH [] [3] rfl<|yX<|uK [] Str ?_;intro b hb;have h1:RL I0 [] ([]:List Str):=rfl;refine yH [] [4] rfl<|zX<|yF [5] rfl<|xX<|rU [(3,vS p y c),(4,vS (some ⟨b,0,none⟩) ([]:List Str) 0),(5,vI 0)] ?_;obtain ⟨aP,aA,aM⟩:=zB N;refine zDk y ([]:List Str) 0 aP aA iR h h1 (fun _ _ _ h=>h) (fun _ _ h=>h) ?_;intro ba al p2 c2 az heq1 aF h3;subst aP;refine zR<|wM [2] rfl<|xD<|yU 0 rfl ?_;intro bH aK hl0;have h7:=SL.of_frozen hl0 aK h3;obtain rfl:=zC aM;exact yZ ⟨_,_,(.tmp rfl ResV.nil),zQ,⟨_,rfl,rfl,h7⟩⟩
def jT (r:Int×Bool):KT:=fun kk I' ah v=>
  ∃ v0 v1,ah=[]/\v=tupV [v0,v1]/\v0=.int .i64 r.1/\v1=.bool r.2
def nA (s1:Str) (n0:Int) (i:Int):Option (Out Int (Int×Bool)):=do
 if (decide (i<(s1.l.length:Int))) then
  let t54<-(do
    let b2<-sidx s1 i
    if (decide ((b2.toNat:Int)<48)) then
     pure true
    else
     let b3<-sidx s1 i
     pure (decide ((b3.toNat:Int)>57))
      : Option Bool)
  if t54 then
   pure (.ret (0,false))
  else
   let b4<-sidx s1 i
   nA s1 (W ((W (n0*10))+(W (IntKind.u8.wrap ((b4.toNat:Int) - 48))))) (W (i+1))
 else
  pure (.done n0)
 partial_fixpoint
theorem zFF (s1:Str):∀ (n0:Int) (i:Int) (o:Out Int (Int×Bool)),nA s1 n0 i=some o->∀ {B}{I0 I:Imm}{Q}{neg:Bool} ,I0.le I->NG Q->NO Q->(∀ (I':Imm) (n01:Int),o=(.done n01)->I0.le I'->T 67 B Q (.exit 0) I' [] [(4,.bool neg),(5,vI n01)])->(∀ r I' ah m',o=(.ret r)->I0.le I'->RS Tryz.prog f237 B (jT  r) I' ah m'->T 67 B Q .ret I' ah m')->J Tryz.prog 67 B (nav (bodyOf f237) [1,1,1,1,1,0,1,0]) Q I [] [(0,vT s1.l),(4,.bool neg),(5,vI n0),(6,vI i)]:=by
 refine nA.partial_correctness s1 _ fun aJ ih n0 i o N B I0 I Q neg H hg ho hx hr=>yM hg ho<|zZ<|yF [42] rfl<|zG<|yC N ?_ ?_
 · intro hc7 N;refine zS<|zX<|yG<|zZ<|zZ ?_;refine wO N [] (fun t54=>[(0,vT s1.l),(4,.bool neg),(5,vI n0),(6,vI i),(54,.bool t54)]) (fun o03 ho03=>?_) ?_
   · have H:=iS I;refine zJ<|yB 2 [] [45,46] rfl ?_;obtain ⟨b2,bm,N⟩:=zB ho03;refine zBE rfl rfl bm<|yB 5 [] [49] rfl<|xV [49] N ?_ ?_
     · intro hc8 N;exact wG [] [(54,vY)]<|yL<|zU (ct N H)
     intro hc8 N;exact yB 7 [] [50,51] rfl<|bE N fun b3 bw N=>zBE rfl rfl bw<|yH [] [54] rfl<|yL<|zU (ct N H)
   intro t54 bH aK hMc3;have H:=H.trans aK;refine zG<|yC hMc3 ?_ ?_
   · intro hc9 N;exact yF [2,3] rfl<|xD<|zH<|zV<|zH<|zH<|hr _ _ _ _ (zC N).symm H ⟨_,_,(.tmp rfl (.tmp rfl ResV.nil)),zQ,⟨_,_,rfl,rfl,rfl,rfl⟩⟩
   intro hc9 N;exact zS<|zG<|zJ<|yB 4 [] [56,57,58] rfl<|bE N fun b4 bI N=>zBE rfl rfl bI<|yH [] [5] rfl<|zM<|zG<|zJ<|yH [] [6] rfl<|yK<|oY<|ih (W ((W (n0*10))+(W (IntKind.u8.wrap ((b4.toNat:Int) - 48))))) (W (i+1)) _ N H  hg ho hx hr
 intro hc7 N;exact wJ<|yL<|hx _ _ (zC N).symm H
def fA (s:Str):Option (Int×Bool):=do
 let neg<-(do
   if (decide ((s.l.length:Int)>0)) then
    let b<-sidx s 0
    pure ((b.toNat:Int)==45)
   else
    pure false
     : Option Bool)
 let s1<-(do
   if neg then
    let s2<-sslc s 1 (s.l.length:Int)
    pure (id s2)
   else
    pure (id s)
     : Option Str)
 let t38<-(do
   if ((s1.l.length:Int)==0) then
    pure true
   else
    if (decide ((s1.l.length:Int)>17)) then
     pure true
    else
     let b1<-sidx s1 0
     if ((b1.toNat:Int)==48) then
      if (decide ((s1.l.length:Int)>1)) then
       pure true
      else
       pure (id neg)
     else
      pure false
     : Option Bool)
 if t38 then
  pure (0,false)
 else
  match<-nA s1 0 0 with
  | .ret r0=>pure r0
  | .done n01 =>
   let n02<-(do
     if neg then
      pure (W (0 - n01))
     else
      pure (id n01)
       : Option Int)
   pure (n02,true)
theorem zDA:∀ s r,fA s=some r->∀ {I:Imm} ,RT 237 [vT s.l] I [] (jT  r):=by
 intro s r N I;unfold fA at N;refine yJ func237 fun B=>?_;have H:=iS I;refine wP []<|zG<|zZ ?_;refine wO N [] (fun neg=>[(0,vT s.l),(4,.bool neg)]) (fun o0 aD=>?_) ?_
 · have H:=iS I;refine zJ<|yB 4 [] [10] rfl<|xV [10] aD ?_ ?_
   · intro hc N;exact yB 5 [] [11] rfl<|bE N fun b hy N=>zBE rfl rfl hy<|yH [] [4] rfl<|yL<|zU (ct N H)
   intro hc N;exact wG [] [(4,vF)]<|yL<|zU (ct N H)
 intro neg I0 le aU;have H:=H.trans le;refine zX<|yF [15] rfl<|zG ?_;refine wO aU [] (fun s1=>[(0,vT s1.l),(4,.bool neg)]) (fun aP aA=>?_) ?_
 · have H:=iS I0;refine yC aA ?_ ?_
   · intro aI N;exact zJ<|yB 1 [] [16] rfl<|bE N fun s2 aB N=>zI8 rfl aB<|yH [] [0] rfl<|yL<|zU (ct N H)
   intro aI N;exact zS<|yL<|zU (ct N H)
 intro s1 aW af hMc1;have H:=H.trans af;refine zX<|zZ ?_;refine wO hMc1 [] (fun t38=>[(0,vT s1.l),(4,.bool neg),(38,.bool t38)]) (fun o02 ho02=>?_) ?_
 · have H:=iS aW;refine zJ<|yB 4 [] [21] rfl<|xV [21] ho02 ?_ ?_
   · intro aX N;exact wG [] [(38,vY)]<|yL<|zU (ct N H)
   intro aX N;refine yB 9 [] [26] rfl<|xV [26] N ?_ ?_
   · intro bK N;exact wG [] [(38,vY)]<|yL<|zU (ct N H)
   intro bK N;refine yB 10 [] [27] rfl<|bE N fun b1 aN N=>zBE rfl rfl aN<|yB 13 [] [30] rfl<|xV [30] N ?_ ?_
   · intro bO N;refine yB 17 [] [34] rfl<|xV [34] N ?_ ?_
     · intro hc5 N;exact wG [] [(38,vY)]<|yL<|zU (ct N H)
     intro hc5 N;exact yH [] [38] rfl<|yL<|zU (ct N H)
   intro bO N;exact wG [] [(38,vF)]<|yL<|zU (ct N H)
 intro t38 ba aF hMc2;have H:=H.trans aF;refine zG<|yC hMc2 ?_ ?_
 · intro hc6 N;refine yF [2,3] rfl<|xD<|zH ?_;obtain rfl:=zC N;exact yZ ⟨_,_,(.tmp rfl (.tmp rfl ResV.nil)),zQ,⟨_,_,rfl,rfl,rfl,rfl⟩⟩
 intro hc6 N;refine zS<|wM [5] rfl<|zX<|yF [6] rfl<|xX<|rU [(0,vT s1.l),(4,.bool neg),(5,vI 0),(6,vI 0)] ?_;obtain ⟨o04,ho04,aM⟩:=zB N;refine zFF s1 0 0 o04 ho04 iR  (fun _ _ _ h=>h) (fun _ _ h=>h) ?_ ?_
 · intro bL n01 heq4 bk;subst o04;have H:=H.trans bk;refine zR<|zX<|yF [63] rfl<|zG ?_;refine wO aM [] (fun n02=>[(5,vI n02)]) (fun o05 ho05=>?_) ?_
   · have H:=iS bL;refine yC ho05 ?_ ?_
     · intro hc10 N;exact zJ<|yH [] [5] rfl<|yL<|zU (ct N H)
     intro hc10 N;exact zS<|yL<|zU (ct N H)
   intro n02 bR bz hMc4;refine wM [2,3] rfl<|zG<|yW ?_;obtain rfl:=zC hMc4;exact yZ ⟨_,_,(.tmp rfl (.tmp rfl ResV.nil)),zQ,⟨_,_,rfl,rfl,rfl,rfl⟩⟩
 intro r0 I9 hs9 m9 aZ le9 bb;subst aZ;refine zV<|zH ?_;obtain rfl:=zC aM;exact yZ bb
def zFG (r:zF):KT:=fun kk I' ah v=>
  ∃ v0,ah=[]/\v=tupV [v0]/\(∃ cs,v0=.agg ⟨cs⟩/\Rp.rep I' cs r)
def qG (w0:(List Str)) (i:Int) (Name:Str) (Dims:List Int):Option ((Str×List Int)):=do
 let t15<-(do
   if (decide (i<(w0.length:Int))) then
    pure (decide (i<=4))
   else
    pure false
     : Option Bool)
 if t15 then
  if (i==1) then
   let x<-idx w0 1
   qG w0 (W (i+1)) x Dims
  else
   let x1<-idx w0 i
   let (y1,y2)<-fA x1
   let l<-app 8 Dims ([y1]:List Int)
   qG w0 (W (i+1)) Name l
 else
  pure (Name,Dims)
 partial_fixpoint
theorem zET (w0:(List Str)):∀ (i:Int) (Name:Str) (Dims:List Int) (o:(Str×List Int)),qG w0 i Name Dims=some o->∀ {B}{I0 I:Imm}{Q p c}{b:Nat}{b1:Nat}{p1 c1 cs},I0.le I->(S4 I p w0 c)->(RL I cs Dims)->NG Q->NO Q->(∀ (I':Imm) (Name1:Str) (Dims1:List Int) (p2:Option Addr) (c2:Nat) (az:List Value),o=(Name1,Dims1)->I0.le I'->(RL I' az Dims1)->T 39 B Q (.exit 0) I' [hO Int (vS p2 Dims1 c2) az,hB b1 [vT Name1.l,vS p2 Dims1 c2],hB b [vT ([]),z0]] [(2,vP b 0),(3,vP b1 0)])->J Tryz.prog 39 B (nav (bodyOf f211) [1,1,0,1,0]) Q I [hO Int (vS p1 Dims c1) cs,hB b1 [vT Name.l,vS p1 Dims c1],hB b [vT ([]),z0]] [(0,vS p w0 c),(2,vP b 0),(3,vP b1 0),(4,vI i)]:=by
 refine qG.partial_correctness w0 _ fun aJ ih i Name Dims o N B I0 I Q p c b b1 p1 c1 cs H h h2 hg ho hx=>yM hg ho<|zZ<|zZ ?_;refine wO N [hO Int (vS p1 Dims c1) cs,hB b1 [vT Name.l,vS p1 Dims c1],hB b [vT ([]),z0]] (fun t15=>[(0,vS p w0 c),(2,vP b 0),(3,vP b1 0),(4,vI i),(15,.bool t15)]) (fun o0 aD=>?_) ?_
 · have H:=iS I;refine zJ<|yB 5 [] [12] rfl<|xV [12] aD ?_ ?_
   · intro hc N;exact yH [] [15] rfl<|yL<|zU (ct N H)
   intro hc N;exact wG [] [(15,vF)]<|yL<|zU (ct N H)
 intro t15 I0 le aU;have ⟨h,h2,H⟩:=m3 le h h2 H;refine zG<|yC aU ?_ ?_
 · intro aI N;refine zS<|zX<|yG<|zZ<|yF [19] rfl<|zG<|yC N ?_ ?_
   · intro aX N;refine yE<|yB 1 [] [20] rfl<|bE N fun x hy N=>xK rfl rfl h hy ?_;intro ad aQ ar ap;obtain rfl:=ap;exact xB 0 ar [vT x.l] (vT x.l) rfl<|yB 4 [] [23] rfl<|xJ 1 [vT x.l,vS p1 Dims c1] rfl<|yD rfl<|zG<|zEG<|kX<|zR<|zG<|zJ<|yH [] [4] rfl<|yK<|oY<|ih (W (i+1)) x Dims _ N H h h2 hg ho hx
   intro aX N;refine zS<|yX<|yB 2 [] [25,26] rfl<|bE N fun x1 aB N=>xK rfl rfl h aB ?_;intro ad1 bv av ax;obtain rfl:=ax;refine xB 0 av [vT x1.l] (vT x1.l) rfl ?_;obtain ⟨⟨y1,y2⟩,aN,N⟩:=zB N;refine xL (zDA x1 _ aN ) ?_;rintro aW ay v2 k2 af - ⟨v0,v01,rfl,rfl,rfl,rfl⟩ -;have ⟨h,h2,H⟩:=m3 af h h2 H;refine yH [] [5] rfl<|zG<|zJ<|yB 3 [1] [33,34] rfl<|uK [vI y1] Int ?_;intro b2 hb2;have h6:RL aW [vI y1] ([y1]:List Int):=rI [y1];obtain ⟨l,bm,N⟩:=zB N;refine sU 3 1 1 rfl rfl rfl h2 (.inr ⟨0,rfl⟩) h6 bm ?_;intro p3 c3 aS h7;exact tZ (zY [1,2,3] (ah:=[hO Int (vS p3 l c3) aS,hB b1 [vT Name.l,vS p1 Dims c1],hB b [vT ([]),z0]]))<|yB 6 [] [37] rfl<|xJ 1 [vT Name.l,vS p3 l c3] rfl<|yD rfl<|zM<|zG<|zJ<|yH [] [4] rfl<|yK<|oY<|ih (W (i+1)) Name l _ N H h h7 hg ho hx
 intro aI N;exact wJ<|yL<|hx _ _ _ _ _ _ (zC N).symm H h2
def fR (w0:(List Str)):Option (zF):=do
 let (Name1,Dims1)<-qG w0 1 (⟨[]⟩:Str) ([]:List Int)
 pure (zF.mk Name1 Dims1)
theorem zGs:∀ w0 r,fR w0=some r->∀ {I:Imm}{p c},(S4 I p w0 c)->RT 211 [vS p w0 c] I [] (zFG  r):=by
 intro w0 r N I p c h;unfold fR at N;refine yJ func211 fun B=>yE<|wS [vT ([]),z0] ?_;intro b hb;refine yD rfl<|yX<|yB 1 [] [7] rfl<|wS [vT ([]),z0] ?_;intro b1 hb1;refine xJ 0 [vT ([]),z0] rfl<|yD rfl<|zX<|yF [4] rfl<|xX<|rU [(0,vS p w0 c),(2,vP b 0),(3,vP b1 0),(4,vI 1)]<|zAI Int fun h1=>?_;obtain ⟨aP,aA,aM⟩:=zB N;refine zET w0 1 (⟨[]⟩:Str) ([]:List Int) aP aA iR h h1 (fun _ _ _ h=>h) (fun _ _ h=>h) ?_;intro ba Name1 Dims1 p2 c2 az heq1 aF h3;subst aP;refine zR<|yX<|rQ 1 [1] [(38,vA [vT Name1.l,vS p2 Dims1 c2])]<|xJ 2 [vT Name1.l,vS p2 Dims1 c2] rfl<|yD rfl<|xD<|yU 0 rfl ?_;intro bH aK hl0;have h8:=SL.of_frozen hl0 aK h3;obtain rfl:=zC aM;exact yZ ⟨_,_,(.cell 1 rfl rfl (by kernel_rfl) ResV.nil),zQ,⟨_,rfl,rfl,⟨_,rfl,(qU ⟨_,rfl,h8⟩)⟩⟩⟩
def dL (r:Int×Int):KT:=fun kk I' ah v=>
  ∃ v0 v1,ah=[]/\v=tupV [v0,v1]/\v0=.int .i64 r.1/\v1=.int .i64 r.2
def pA (s:Str) (at0:Int) (end0:Int):Option (Int):=do
 let t31<-(do
   if (decide (end0<(s.l.length:Int))) then
    if (decide (end0<(W (at0+2)))) then
     let b<-sidx s end0
     if (decide ((b.toNat:Int)>=48)) then
      let b1<-sidx s end0
      pure (decide ((b1.toNat:Int)<=57))
     else
      pure false
    else
     pure false
   else
    pure false
     : Option Bool)
 if t31 then
  pA s at0 (W (end0+1))
 else
  pure (id end0)
 partial_fixpoint
theorem zDl (s:Str) (at0:Int):∀ (end0:Int) (o:Int),pA s at0 end0=some o->∀ {B}{I0 I:Imm}{Q}  ,I0.le I->NG Q->NO Q->(∀ (I':Imm) (end01:Int),o=end01->I0.le I'->T 47 B Q (.exit 0) I' [] [(0,vT s.l),(1,vI at0),(6,vI end01)])->J Tryz.prog 47 B (nav (bodyOf f262) [1,1,0,0]) Q I [] [(0,vT s.l),(1,vI at0),(6,vI end0)]:=by
 refine pA.partial_correctness s at0 _ fun aJ ih end0 o N B I0 I Q H hg ho hx=>yM hg ho<|zZ<|zZ ?_;refine wO N [] (fun t31=>[(0,vT s.l),(1,vI at0),(6,vI end0),(31,.bool t31)]) (fun o0 aD=>?_) ?_
 · have H:=iS I;refine zJ<|yB 5 [] [14] rfl<|xV [14] aD ?_ ?_
   · intro hc N;refine yB 11 [] [20] rfl<|xV [20] N ?_ ?_
     · intro aI N;refine yB 13 [] [21,22] rfl<|bE N fun b hy N=>zBE rfl rfl hy<|yB 17 [] [26] rfl<|xV [26] N ?_ ?_
       · intro aX N;exact yB 19 [] [27,28] rfl<|bE N fun b1 aB N=>zBE rfl rfl aB<|yH [] [31] rfl<|yL<|zU (ct N H)
       intro aX N;exact wG [] [(31,vF)]<|yL<|zU (ct N H)
     intro aI N;exact wG [] [(31,vF)]<|yL<|zU (ct N H)
   intro hc N;exact wG [] [(31,vF)]<|yL<|zU (ct N H)
 intro t31 I0 le aU;have H:=H.trans le;refine zG<|yC aU ?_ ?_
 · intro bK N;exact zS<|xX<|zJ<|yH [] [6] rfl<|zM<|yK<|oY<|ih (W (end0+1)) _ N H  hg ho hx
 intro bK N;exact wJ<|yL<|hx _ _ (zC N).symm H
def kS (s:Str) (at0:Int):Option (Int×Int):=do
 let end01<-pA s at0 at0
 let s1<-sslc s at0 end01
 let (y1,y2)<-fA s1
 if (!y2) then
  pure (1,at0)
 else
  pure (y1,end01)
theorem zBp:∀ s at0 r,kS s at0=some r->∀ {I:Imm} ,RT 262 [vT s.l,vI at0] I [] (dL  r):=by
 intro s at0 r N I;unfold kS at N;refine yJ func262 fun B=>wP []<|wM [6] rfl<|zX<|yG<|rU [(0,vT s.l),(1,vI at0),(6,vI at0)] ?_;obtain ⟨aP,aA,aM⟩:=zB N;refine zDl s at0 at0 aP aA iR  (fun _ _ _ h=>h) (fun _ _ h=>h) ?_;intro aW end01 heq1 af;subst aP;refine zR<|yX<|yB 3 [] [35,36,37] rfl ?_;obtain ⟨s1,aN,N⟩:=zB aM;refine zI8 rfl aN ?_;obtain ⟨⟨y1,y2⟩,bm,N⟩:=zB N;refine xL (zDA s1 _ bm ) ?_;rintro ba ay v2 k2 aF - ⟨v0,v01,rfl,rfl,rfl,rfl⟩ -;refine yH [] [7,8] rfl<|zX<|yF [43] rfl<|zG<|yC N ?_ ?_
 · intro bO N;refine yF [4,5] rfl<|xD<|zH ?_;obtain rfl:=zC N;exact yZ ⟨_,_,(.tmp rfl (.tmp rfl ResV.nil)),zQ,⟨_,_,rfl,rfl,rfl,rfl⟩⟩
 intro bO N;refine zS<|wM [4,5] rfl<|zG<|yW ?_;obtain rfl:=zC N;exact yZ ⟨_,_,(.tmp rfl (.tmp rfl ResV.nil)),zQ,⟨_,_,rfl,rfl,rfl,rfl⟩⟩
def yS (r:Int):KT:=fun kk I' ah v=>
  ∃ v0,ah=[]/\v=tupV [v0]/\v0=.int .i64 r
def eN (s:Str) (at0:Int):Option (Int):=do
 let t20<-(do
   if (decide (at0>=(s.l.length:Int))) then
    pure true
   else
    let b<-sidx s at0
    if (decide ((b.toNat:Int)<105)) then
     pure true
    else
     let b1<-sidx s at0
     pure (decide ((b1.toNat:Int)>108))
     : Option Bool)
 if t20 then
  pure (-1)
 else
  let b2<-sidx s at0
  pure (W ((W (b2.toNat:Int)) - 105))
theorem zHi:∀ s at0 r,eN s at0=some r->∀ {I:Imm} ,RT 272 [vT s.l,vI at0] I [] (yS  r):=by
 intro s at0 r N I;unfold eN at N;refine yJ func272 fun B=>?_;have H:=iS I;refine wP []<|zX<|zZ ?_;refine wO N [] (fun t20=>[(0,vT s.l),(1,vI at0),(20,.bool t20)]) (fun o0 aD=>?_) ?_
 · have H:=iS I;refine zJ<|yB 5 [] [9] rfl<|xV [9] aD ?_ ?_
   · intro hc N;exact wG [] [(20,vY)]<|yL<|zU (ct N H)
   intro hc N;refine yB 7 [] [10,11] rfl<|bE N fun b hy N=>zBE rfl rfl hy<|yB 11 [] [15] rfl<|xV [15] N ?_ ?_
   · intro aI N;exact wG [] [(20,vY)]<|yL<|zU (ct N H)
   intro aI N;exact yB 13 [] [16,17] rfl<|bE N fun b1 aB N=>zBE rfl rfl aB<|yH [] [20] rfl<|yL<|zU (ct N H)
 intro t20 I0 le aU;refine zG<|yC aU ?_ ?_
 · intro aX N;refine yF [4] rfl<|xD<|zH ?_;obtain rfl:=zC N;exact wI
 intro aX N;refine zS<|yX<|yB 2 [] [21,22] rfl<|bE N fun b2 aN N=>zBE rfl rfl aN<|yH [] [4] rfl<|zG<|yW ?_;obtain rfl:=zC N;exact wI
def zFH (r:zA×Int):KT:=fun kk I' ah v=>
  ∃ v0 v1,ah=[]/\v=tupV [v0,v1]/\(∃ cs,v0=.agg ⟨cs⟩/\Rp.rep I' cs r.1)/\v1=.int .i64 r.2
def fS (a0:zA) (s:Str) (at0:Int):Option (zA×Int):=do
 let b2<-sidx s at0
 let sign<-(do
   if ((b2.toNat:Int)==45) then
    pure (-1)
   else
    pure (id 1)
     : Option Int)
 let t27<-(do
   let b3<-sidx s at0
   if ((b3.toNat:Int)==45) then
    pure true
   else
    let b4<-sidx s at0
    pure ((b4.toNat:Int)==43)
     : Option Bool)
 let at01<-(do
   if t27 then
    pure (W (at0+1))
   else
    pure (id at0)
     : Option Int)
 let (y1,y2)<-kS s at01
 let t51<-(do
   if (decide (y2>at01)) then
    if (decide (y2<(s.l.length:Int))) then
     let b5<-sidx s y2
     pure ((b5.toNat:Int)==42)
    else
     pure false
   else
    pure false
     : Option Bool)
 let star<-(do
   if t51 then
    pure (W (y2+1))
   else
    pure (id y2)
     : Option Int)
 let y3<-eN s star
 let l<-app 8 ([]:List Int) a0.Coefs
 let t75<-(do
   if (decide (y3>=0)) then
    if (decide (star>y2)) then
     pure true
    else
     pure (y2==at01)
   else
    pure false
     : Option Bool)
 if t75 then
  let x<-idx l y3
  let x1<-idx l y3
  let l1<-pure (l.set y3.toNat (W (x+(W (sign*y1)))))
  pure ((zA.mk l1 a0.Const),(W (star+1)))
 else
  if (y2==at01) then
   pure (a0,(-1))
  else
   pure ((zA.mk l (W (a0.Const+(W (sign*y1))))),y2)
theorem zGt:∀ a0 s at0 r,fS a0 s at0=some r->∀ {I:Imm}{p c},(S4 I p a0.Coefs c)->RT 270 [vA (cAff a0 p c),vT s.l,vI at0] I [] (zFH  r):=by
 intro a0 s at0 r N I p c h;unfold fS at N;refine yJ func270 fun B=>?_;have H:=iS I;refine yE<|tO (cAff a0 p c) ?_;intro b hb;refine wS [z0,vI 0] ?_;intro b1 hb1;refine wG [] []<|wM [8] rfl<|zX<|yE<|yB 2 [] [14,15] rfl<|bE N fun b2 hy N=>zBE rfl rfl hy<|yH [] [17] rfl<|zG ?_;refine wO N [hB b1 [z0,vI 0],hB b (cAff a0 p c)] (fun sign=>[(1,vT s.l),(2,vI at0),(3,vP b 0),(6,vP b1 0),(8,vI sign)]) (fun o0 aD=>?_) ?_
 · have H:=iS I;refine yC aD ?_ ?_
   · intro hc N;exact zJ<|yH [] [8] rfl<|yL<|zU (ct N H)
   intro hc N;exact zS<|yL<|zU (ct N H)
 intro sign I0 le aU;have ⟨h,H⟩:=m2 le h H;refine zX<|zZ ?_;refine wO aU [hB b1 [z0,vI 0],hB b (cAff a0 p c)] (fun t27=>[(1,vT s.l),(2,vI at0),(3,vP b 0),(6,vP b1 0),(8,vI sign),(27,.bool t27)]) (fun aP aA=>?_) ?_
 · have H:=iS I0;refine zJ<|yB 2 [] [18,19] rfl ?_;obtain ⟨b3,aB,N⟩:=zB aA;refine zBE rfl rfl aB<|yB 5 [] [22] rfl<|xV [22] N ?_ ?_
   · intro aI N;exact wG [] [(27,vY)]<|yL<|zU (ct N H)
   intro aI N;exact yB 7 [] [23,24] rfl<|bE N fun b4 aN N=>zBE rfl rfl aN<|yH [] [27] rfl<|yL<|zU (ct N H)
 intro t27 aW af hMc1;have ⟨h,H⟩:=m2 af h H;refine zG ?_;refine wO hMc1 [hB b1 [z0,vI 0],hB b (cAff a0 p c)] (fun at01=>[(1,vT s.l),(2,vI at01),(3,vP b 0),(6,vP b1 0),(8,vI sign)]) (fun o02 ho02=>?_) ?_
 · have H:=iS aW;refine yC ho02 ?_ ?_
   · intro aX N;exact zJ<|yH [] [2] rfl<|yL<|zU (ct N H)
   intro aX N;exact zS<|yL<|zU (ct N H)
 intro at01 ba aF hMc2;have ⟨h,H⟩:=m2 aF h H;refine yX<|yB 2 [] [31,32] rfl ?_;obtain ⟨⟨y1,y2⟩,bm,N⟩:=zB hMc2;refine xL (zBp s at01 _ bm ) ?_;rintro bH ay v2 k2 aK - ⟨v0,v01,rfl,rfl,rfl,rfl⟩ -;have ⟨h,H⟩:=m2 aK h H;refine yH [] [9,10] rfl<|wM [11] rfl<|zX<|zZ ?_;refine wO N [hB b1 [z0,vI 0],hB b (cAff a0 p c)] (fun t51=>[(1,vT s.l),(2,vI at01),(3,vP b 0),(6,vP b1 0),(8,vI sign),(9,vI y1),(10,vI y2),(11,vI y2),(51,.bool t51)]) (fun o03 ho03=>?_) ?_
 · have H:=iS bH;refine zJ<|yB 4 [] [40] rfl<|xV [40] ho03 ?_ ?_
   · intro bK N;refine yB 10 [] [46] rfl<|xV [46] N ?_ ?_
     · intro bO N;exact yB 12 [] [47,48] rfl<|bE N fun b5 bw N=>zBE rfl rfl bw<|yH [] [51] rfl<|yL<|zU (ct N H)
     intro bO N;exact wG [] [(51,vF)]<|yL<|zU (ct N H)
   intro bK N;exact wG [] [(51,vF)]<|yL<|zU (ct N H)
 intro t51 bL bk hMc3;have ⟨h,H⟩:=m2 bk h H;refine zG ?_;refine wO hMc3 [hB b1 [z0,vI 0],hB b (cAff a0 p c)] (fun star=>[(1,vT s.l),(2,vI at01),(3,vP b 0),(6,vP b1 0),(8,vI sign),(9,vI y1),(10,vI y2),(11,vI star)]) (fun o04 ho04=>?_) ?_
 · have H:=iS bL;refine yC ho04 ?_ ?_
   · intro hc5 N;exact zJ<|yH [] [11] rfl<|yL<|zU (ct N H)
   intro hc5 N;exact zS<|yL<|zU (ct N H)
 intro star bR bz hMc4;have ⟨h,H⟩:=m2 bz h H;refine yX<|yB 2 [] [54,55] rfl ?_;obtain ⟨y3,bI,N⟩:=zB hMc4;refine fK (zHi s star _ bI ) ?_;intro I06 bC;have ⟨h,H⟩:=m2 bC h H;refine yH [] [12] rfl<|zX<|bE N fun l hy6 N=>wQ [.x (fun I' v hx=>∃ b6,v=vS (some ⟨b6,0,none⟩) ([]:List Int) 0/\hx=[hO Int (vS (some ⟨b6,0,none⟩) ([]:List Int) 0) []]/\(RL I' [] ([]:List Int))),.p (vP b 0) [],.p (vS p a0.Coefs c) [1],.x (fun I' v hx=>∃ p1 c1 cs,v=vS p1 l c1/\hx=[hO Int (vS p1 l c1) cs]/\(RL I' cs l)),.p (vP b 1) [],.p (vI a0.Const) [1],.x (fun I' v hx=>∃ aR bc az,v=vA [vS aR l bc,vI a0.Const]/\hx=[hO Int (vS aR l bc) az]/\(RL I' az l)),.x (fun I' v hx=>∃ b7,v=vP b7 0/\hx=[hB b7 [z0,vI 0]])] [[],[],[(1,false)],[(0,true),(2,false)],[],[(4,false)],[(3,true),(5,false)],[]] [hB b1 [z0,vI 0],hB b (cAff a0 p c)] [] [(6,true),(7,true)] (zY [0,1]) ?_ ?_
 · refine Ox ?_<|Op<|Op<|Ox ?_<|Op<|Op<|Ox ?_<|Ox ?_<|On
   · intro I1 hf af;refine I_h []<|uK [] Int ?_;intro b6 hb2;have h4:RL I1 [] ([]:List Int):=rfl;exact yN [hO Int (vS (some ⟨b6,0,none⟩) ([]:List Int) 0) []] iR ⟨_,rfl,rfl,h4⟩
   · rintro I1 hf af _ _ ⟨b6,rfl,rfl,h4⟩;refine yT [57,59] rfl ?_;have h:=h.mono af;obtain ⟨aQ,k0,k01⟩:=h;have h:SL I1 (vS p a0.Coefs c) a0.Coefs:=⟨_,k0,k01⟩;exact sU 3 1 0 rfl rfl rfl h4 (.inl k0) k01 hy6 fun p1 c1 cs h5=>wN (ah:=(hO Int (vS p1 l c1) cs::hB b1 [z0,vI 0]::hB b (cAff a0 p c)::hf)) rfl<|yN [hO Int (vS p1 l c1) cs] iR ⟨_,_,_,rfl,rfl,h5⟩
   · rintro I1 hf af _ _ ⟨p1,c1,cs,rfl,rfl,h5⟩;exact yT [60,62] rfl<|mE 7 [(63,vA [vS p1 l c1,vI a0.Const])]<|yN [hO Int (vS p1 l c1) cs] iR ⟨_,_,_,rfl,rfl,h5⟩
   intro I1 hf af;refine I_h []<|wS [z0,vI 0] ?_;intro b7 hb3;exact yN [hB b7 [z0,vI 0]] iR ⟨_,rfl,rfl⟩
 rintro I07 le7 _ _ ⟨aR,bc,az,rfl,rfl,h51⟩ _ _ ⟨b7,rfl,rfl⟩;refine yT [2,3,6,8,9,10,11,12,13,63] rfl ?_;have ⟨h,H⟩:=m2 le7 h H;refine xJ 0 [vS aR l bc,vI a0.Const] rfl<|yD rfl<|zX<|zZ ?_;refine wO N [hB b7 [vS aR l bc,vI a0.Const],hO Int (vS aR l bc) az,hB b1 [z0,vI 0],hB b (cAff a0 p c)] (fun t75=>[(2,vI at01),(3,vP b 0),(6,vP b1 0),(8,vI sign),(9,vI y1),(10,vI y2),(11,vI star),(12,vI y3),(13,vP b7 0),(75,.bool t75)]) (fun o05 ho05=>?_) ?_
 · have H:=iS I07;refine zJ<|yB 3 [] [66] rfl<|xV [66] ho05 ?_ ?_
   · intro hc6 N;refine yB 7 [] [70] rfl<|xV [70] N ?_ ?_
     · intro hc7 N;exact wG [] [(75,vY)]<|yL<|zU (ct N H)
     intro hc7 N;exact yH [] [75] rfl<|yL<|zU (ct N H)
   intro hc6 N;exact wG [] [(75,vF)]<|yL<|zU (ct N H)
 intro t75 I08 le8 hMc5;have ⟨h51,h⟩:=m2 le8 h51 h;refine zG<|yC hMc5 ?_ ?_
 · intro hc8 N;refine zZ<|bE N fun x hy7 N=>wQ [.p (vP b7 0) [],.p (vS aR l bc) [0],.p (vI y3) [],.p (vP b7 0) [],.p (vS aR l bc) [0],.p (vI y3) [],.x (fun I' v hx=>∃ ad,v=.pointer (some ad)/\hx=[]/\(AtO (vS aR l bc) (Rp.sz Int) y3.toNat ad)/\((az.drop (y3.toNat*Rp.sz Int)).take (Rp.sz Int)=[vI x])),.q (vI x),.p (vI sign) [],.p (vI y1) [],.p (vI (W (sign*y1))) [],.p (vI (W (x+(W (sign*y1))))) []] [[],[(0,false)],[],[],[(3,false)],[],[(4,false),(5,false)],[(6,false)],[],[],[(8,false),(9,false)],[(7,false),(10,false)]] [hB b7 [vS aR l bc,vI a0.Const],hO Int (vS aR l bc) az,hB b1 [z0,vI 0],hB b (cAff a0 p c)] [] [(1,false),(2,false),(11,false)] (zY [0,1,2,3]) ?_ ?_
   · refine Op<|Op<|Op<|Op<|Op<|Op<|Ox ?_<|Oq ?_<|Op<|Op<|Op<|Op<|On
     · intro I1 hf af;refine yT [80,81] rfl ?_;have h51:=iM af h51;refine pQ 1 rfl rfl rfl h51 hy7 ?_;intro ad bv ar bM ap;obtain rfl:=ap;exact yN [] iR ⟨_,rfl,rfl,ar,bM⟩
     rintro I1 hf af _ _ ⟨ad,rfl,rfl,ar,bM⟩;exact yT [82] rfl<|zAH 1 0 ar bM [vI x] (vI x) rfl rfl<|xC iR
   intro I09 le9;refine yT [6,11,13,77,78,87] rfl ?_;have h51:=iM le9 h51;obtain ⟨x1,hy8,N⟩:=zB N;refine pQ 1 rfl rfl rfl h51 hy8 ?_;intro ad1 bP av hcc1 ax;obtain rfl:=ax;obtain ⟨l1,hy9,N⟩:=zB N;refine tR (c:=[vI (W (x+(W (sign*y1))))]) (x':=(W (x+(W (sign*y1))))) 1 0 rfl rfl rfl av rfl rfl hcc1 (by kernel_rfl) (by kernel_rfl) (by kernel_rfl) h51 hy8 (by kernel_rfl) rfl ?_;rw [show l.set y3.toNat (W (x+(W (sign*y1))))=l1 from zC hy9];intro aS h6 hl0;refine kD (m':=[(6,vP b1 0),(11,vI star),(13,vP b7 0),(77,vS aR l bc),(78,vI y3),(87,vI (W (x+(W (sign*y1)))))]) ⟨rfl,rfl,rfl,rfl,rfl,rfl,trivial⟩<|zA1 (ah:=[hB b7 [vS aR l1 bc,vI a0.Const],hO Int (vS aR l1 bc) aS,hB b1 [z0,vI 0],hB b (cAff a0 p c)]) (m':=[(6,vP b1 0),(11,vI star),(13,vP b7 0),(77,vS aR l1 bc),(78,vI y3),(87,vI (W (x+(W (sign*y1)))))]) (by first | rfl | simp only [vS,hl0,cv,dj,dq,dh,cX,cY]) (by first | rfl | simp only [vS,hl0])<|yD rfl<|yX<|rQ 3 [0] [(89,vA [vS aR l1 bc,vI a0.Const]),(91,vI (W (star+1)))]<|xJ 2 [vS aR l1 bc,vI a0.Const] rfl<|yH [] [7] rfl<|xD<|zH<|yU 1 rfl ?_;intro bS le10 hl01;have h7:=SL.of_frozen hl01 le10 h6;obtain rfl:=zC N;exact yZ ⟨_,_,(.cell 1 rfl rfl (by kernel_rfl) (.tmp rfl ResV.nil)),zQ,⟨_,_,rfl,rfl,⟨_,rfl,(yO ⟨_,rfl,h7⟩)⟩,rfl⟩⟩
 intro hc8 N;refine zS<|zX<|yF [94] rfl<|zG<|yC N ?_ ?_
 · intro hc9 N;refine yE<|rQ 1 [3] [(95,vA (cAff a0 p c))]<|xJ 2 (cAff a0 p c) rfl<|yH [] [7] rfl<|xD<|zH ?_;obtain rfl:=zC N;exact yZ ⟨_,_,(.cell 2 rfl rfl (by kernel_rfl) (.tmp rfl ResV.nil)),zQ,⟨_,_,rfl,rfl,⟨_,rfl,(yO ⟨_,rfl,h⟩)⟩,rfl⟩⟩
 intro hc9 N;refine zS<|yX<|yB 7 [0] [101,102] rfl<|xJ 0 [vS aR l bc,vI (W (a0.Const+(W (sign*y1))))] rfl<|yD rfl<|yX<|rQ 2 [0] [(103,vA [vS aR l bc,vI (W (a0.Const+(W (sign*y1))))]),(104,vI y2)]<|xJ 2 [vS aR l bc,vI (W (a0.Const+(W (sign*y1))))] rfl<|yH [] [7] rfl<|xD<|yU 1 rfl ?_;intro bY le11 hl02;have h8:=SL.of_frozen hl02 le11 h51;obtain rfl:=zC N;exact yZ ⟨_,_,(.cell 1 rfl rfl (by kernel_rfl) (.tmp rfl ResV.nil)),zQ,⟨_,_,rfl,rfl,⟨_,rfl,(yO ⟨_,rfl,h8⟩)⟩,rfl⟩⟩
def zT (r:Bool):KT:=fun kk I' ah v=>
  ∃ v0,ah=[]/\v=tupV [v0]/\v0=.bool r
def uC (n0:Int) (most:Int):Option (Bool):=do
 let t4<-(do
   if (decide (n0>=(W (0 - most)))) then
    pure (decide (n0<=most))
   else
    pure false
     : Option Bool)
 pure (id t4)
theorem zAL:∀ n0 most r,uC n0 most=some r->∀ {I:Imm} ,RT 191 [vI n0,vI most] I [] (zT  r):=by
 intro n0 most r N I;unfold uC at N;refine yJ func191 fun B=>?_;have H:=iS I;refine wP []<|zG<|zZ ?_;refine wO N [] (fun t4=>[(4,.bool t4)]) (fun o0 aD=>?_) ?_
 · have H:=iS I;refine zJ<|yB 5 [] [9] rfl<|xV [9] aD ?_ ?_
   · intro hc N;exact yH [] [4] rfl<|yL<|zU (ct N H)
   intro hc N;exact wG [] [(4,vF)]<|yL<|zU (ct N H)
 intro t4 I0 le aU;refine zG<|yW ?_;obtain rfl:=zC aU;exact wI
def wV (a0:zA) (i:Int):Option (Out Unit (Bool)):=do
 if (decide (i<(a0.Coefs.length:Int))) then
  let x<-idx a0.Coefs i
  let y<-uC x 9
  if (!y) then
   pure (.ret false)
  else
   wV a0 (W (i+1))
 else
  pure (.done ())
 partial_fixpoint
theorem zCP (a0:zA):∀ (i:Int) (o:Out Unit (Bool)),wV a0 i=some o->∀ {B}{I0 I:Imm}{Q p c}{b:Nat},I0.le I->(S4 I p a0.Coefs c)->NG Q->NO Q->(∀ (I':Imm) ,o=(.done ())->I0.le I'->T 27 B Q (.exit 0) I' [hB b (cAff a0 p c)] [(1,vP b 0)])->(∀ r I' ah m',o=(.ret r)->I0.le I'->RS Tryz.prog f225 B (zT  r) I' ah m'->T 27 B Q .ret I' ah m')->J Tryz.prog 27 B (nav (bodyOf f225) [1,0,1,0]) Q I [hB b (cAff a0 p c)] [(1,vP b 0),(3,vI i)]:=by
 refine wV.partial_correctness a0 _ fun aJ ih i o N B I0 I Q p c b H h hg ho hx hr=>yM hg ho<|zZ<|yE<|yH [0] [8] rfl<|zG<|yC N ?_ ?_
 · intro hc N;refine zS<|zX<|yG<|yE<|yB 3 [0] [12,13] rfl<|bE N fun x hy N=>xK rfl rfl h hy ?_;intro ad aQ ar ap;obtain rfl:=ap;refine xB 0 ar [vI x] (vI x) rfl<|bE N fun y aB N=>vQ (zAL x 9 _ aB ) ?_;intro I0 le;have ⟨h,H⟩:=m2 le h H;refine yH [] [17] rfl<|zG<|yC N ?_ ?_
   · intro aI N;exact wP [(2,vF)]<|xD<|zV<|zH<|zH<|hr _ _ _ _ (zC N).symm H ⟨_,_,(.tmp rfl ResV.nil),zQ,⟨_,rfl,rfl,rfl⟩⟩
   intro aI N;exact zS<|zM<|zG<|zJ<|yH [] [3] rfl<|yK<|oY<|ih (W (i+1)) _ N H h hg ho hx hr
 intro hc N;exact wJ<|yL<|hx _  (zC N).symm H
def uL (a0:zA):Option (Bool):=do
 match<-wV a0 0 with
 | .ret r0=>pure r0
 | .done _ =>
  let t2<-(do
    if ((a0.Coefs.length:Int)==4) then
     let y1<-uC a0.Const 99
     pure (id y1)
    else
     pure false
      : Option Bool)
  pure (id t2)
theorem jP:∀ a0 r,uL a0=some r->∀ {I:Imm}{p c},(S4 I p a0.Coefs c)->RT 225 [vA (cAff a0 p c)] I [] (zT  r):=by
 intro a0 r N I p c h;unfold uL at N;refine yJ func225 fun B=>?_;have H:=iS I;refine yE<|tO (cAff a0 p c) ?_;intro b hb;refine wG [] []<|zX<|yF [3] rfl<|xX<|rU [(1,vP b 0),(3,vI 0)] ?_;obtain ⟨o0,aD,aM⟩:=zB N;refine zCP a0 0 o0 aD iR h (fun _ _ _ h=>h) (fun _ _ h=>h) ?_ ?_
 · intro aW  heq af;subst o0;have H:=H.trans af;refine zR<|zG<|zZ ?_;refine wO aM [] (fun t2=>[(2,.bool t2)]) (fun aP aA=>?_) ?_
   · have H:=iS aW;refine zJ<|yB 5 [0] [22] rfl<|xV [22] aA ?_ ?_
     · intro aX N;refine yB 7 [0] [24] rfl<|bE N fun y1 aN N=>vQ (zAL a0.Const 99 _ aN ) ?_;intro bH aF;have H:=H.trans aF;exact yH [] [2] rfl<|xQ zQ<|yL<|zU (ct N H)
     intro aX N;exact wG [] [(2,vF)]<|xQ zQ<|yL<|zU (ct N H)
   intro t2 ba aK aU;refine zG<|yW ?_;obtain rfl:=zC aU;exact wI
 intro r0 I9 hs9 m9 aZ le9 bb;subst aZ;refine zV<|zH ?_;obtain rfl:=zC aM;exact yZ bb
def sA (r:Str):KT:=fun kk I' ah v=>
  ∃ v0,ah=[]/\v=tupV [v0]/\v0=.string ⟨⟨r.l⟩⟩
def nB (n01:Int) (out:Str):Option ((Int×Str)):=do
 if (decide (n01>9)) then
  let s1<-cat (⟨([(u8 (W (48+(n01.tmod 10))))]:List UInt8)⟩:Str) out
  nB (W (n01.tdiv 10)) s1
 else
  pure (n01,out)
 partial_fixpoint
theorem zFI :∀ (n01:Int) (out:Str) (o:(Int×Str)),nB n01 out=some o->∀ {B}{I0 I:Imm}{Q}  ,I0.le I->NG Q->NO Q->(∀ (I':Imm) (n02:Int) (al:Str),o=(n02,al)->I0.le I'->T 31 B Q (.exit 0) I' [] [(0,vI n02),(3,vT al.l)])->J Tryz.prog 31 B (nav (bodyOf f214) [1,1,1,1,0,0]) Q I [] [(0,vI n01),(3,vT out.l)]:=by
 refine nB.partial_correctness  _ fun aJ ih n01 out o N B I0 I Q H hg ho hx=>yM hg ho<|zZ<|yF [13] rfl<|zG<|yC N ?_ ?_
 · intro aX N;refine zS<|xX<|yE<|yB 3 [] [16] rfl<|zQJ (d:=17) (i:=(W (48+(n01.tmod 10)))) rfl (by kernel_rfl)<|uK [.int .u8 ((u8 (W (48+(n01.tmod 10)))).toNat:Int)] UInt8 ?_;intro b hb;have h1:RL I [.int .u8 ((u8 (W (48+(n01.tmod 10)))).toNat:Int)] ([(u8 (W (48+(n01.tmod 10))))]:List UInt8):=⟨[.int .u8 ((u8 (W (48+(n01.tmod 10)))).toNat:Int)],_,rfl,rfl,rfl,rfl⟩;exact zLu (l:=([(u8 (W (48+(n01.tmod 10))))]:List UInt8)) rfl rfl rfl rfl (by kernel_rfl) (by kernel_rfl) (.inr ⟨0,rfl⟩) h1<|yB 7 [] [20] rfl<|bE N fun s1 aN N=>gH rfl aN<|yH [] [3] rfl<|zG<|zJ<|yH [] [0] rfl<|zM<|yK<|kE zQ<|oY<|ih (W (n01.tdiv 10)) s1 _ N H  hg ho hx
 intro aX N;exact wJ<|yL<|hx _ _ _ (zC N).symm H
def qP (n0:Int):Option (Str):=do
 if (decide (n0<(-9223372036854775807))) then
  pure (⟨[45,57,50,50,51,51,55,50,48,51,54,56,53,52,55,55,53,56,48,56]⟩:Str)
 else
  if (decide (n0<0)) then
   let y<-qP (W (0 - n0))
   let s<-cat (⟨[45]⟩:Str) y
   pure (id s)
  else
   let (n02,al)<-nB n0 (⟨[]⟩:Str)
   let s2<-cat (⟨([(u8 (W (48+n02)))]:List UInt8)⟩:Str) al
   pure (id s2)
 partial_fixpoint
theorem dV:∀ n0 r,qP n0=some r->∀ {I:Imm} ,RT 214 [vI n0] I [] (sA  r):=by
 refine qP.partial_correctness _ fun F_spec_l16Dec ih_spec_l16Dec n0 r N I=>yJ func214 fun B=>wP []<|zX<|yF [5] rfl<|zG<|yC N ?_ ?_
 · intro hc N;refine yF [2] rfl<|xD<|zH ?_;obtain rfl:=zC N;exact wI
 intro hc N;refine zS<|zX<|yF [7] rfl<|zG<|yC N ?_ ?_
 · intro aI N;refine yE<|yB 2 [] [9] rfl<|bE N fun y hy N=>xL (ih_spec_l16Dec (W (0 - n0)) _ hy ) ?_;rintro I0 ay v2 k2 le - ⟨v0,rfl,rfl,rfl⟩ -;obtain ⟨s,aB,N⟩:=zB N;refine gH rfl aB<|yH [] [2] rfl<|xD<|zH ?_;obtain rfl:=zC N;exact wI
 intro aI N;refine zS<|wM [3] rfl<|zX<|yG<|rU [(0,vI n0),(3,vT ([]))] ?_;obtain ⟨o0,aD,aM⟩:=zB N;refine zFI n0 (⟨[]⟩:Str) o0 aD iR  (fun _ _ _ h=>h) (fun _ _ h=>h) ?_;intro aW n02 al heq af;subst o0;refine zR<|yX<|yB 2 [] [25] rfl<|zQJ (d:=26) (i:=(W (48+n02))) rfl (by kernel_rfl)<|uK [.int .u8 ((u8 (W (48+n02))).toNat:Int)] UInt8 ?_;intro b1 hb1;have h2:RL aW [.int .u8 ((u8 (W (48+n02))).toNat:Int)] ([(u8 (W (48+n02)))]:List UInt8):=⟨[.int .u8 ((u8 (W (48+n02))).toNat:Int)],_,rfl,rfl,rfl,rfl⟩;refine zLu (l:=([(u8 (W (48+n02)))]:List UInt8)) rfl rfl rfl rfl (by kernel_rfl) (by kernel_rfl) (.inr ⟨0,rfl⟩) h2<|yB 6 [] [29] rfl ?_;obtain ⟨s2,bm,N⟩:=zB aM;refine gH rfl bm<|yH [] [2] rfl<|zG<|yW ?_;obtain rfl:=zC N;exact wI
def fB (n0:Int) (name:Str):Option (Str):=do
 let (n01,sign)<-(do
   if (decide (n0<0)) then
    pure ((W (0 - n0)),(⟨[45]⟩:Str))
   else
    pure (n0,(⟨[43]⟩:Str))
     : Option (Int×Str))
 if (name.l==([]:List UInt8)) then
  let y<-qP n01
  let s<-cat sign y
  pure (id s)
 else
  if (n01==1) then
   let s1<-cat sign name
   pure (id s1)
  else
   let y1<-qP n01
   let s2<-cat sign y1
   let s3<-cat s2 (⟨[42]⟩:Str)
   let s4<-cat s3 name
   pure (id s4)
theorem zDB:∀ n0 name r,fB n0 name=some r->∀ {I:Imm} ,RT 263 [vI n0,vT name.l] I [] (sA  r):=by
 intro n0 name r N I;unfold fB at N;refine yJ func263 fun B=>?_;have H:=iS I;refine wP []<|wM [5] rfl<|zX<|yF [7] rfl<|zG ?_;obtain ⟨o0,aD,aU⟩:=zB N;refine qF (fun I' ah m'=>∃ (n01:Int) (sign:Str),o0=(n01,sign)/\I.le I'/\ah=[]/\m'=[(0,vI n01),(1,vT name.l),(5,vT sign.l)]) ?_ ?_
 · have H:=iS I;refine yC aD ?_ ?_
   · intro hc N;exact yF [5] rfl<|zG<|zJ<|yH [] [0] rfl<|yL<|zU ⟨_,_,(zC N).symm,H,rfl,rfl⟩
   intro hc N;exact zS<|yL<|zU ⟨_,_,(zC N).symm,H,rfl,rfl⟩
 rintro I0 ay m2 ⟨n01,sign,heq,le,rfl,rfl⟩;subst o0;refine zX<|yF [11] rfl<|zG<|yC aU ?_ ?_
 · intro aI N;refine yE<|yB 2 [] [12,13] rfl<|bE N fun y hy N=>xL (dV n01 _ hy ) ?_;rintro aW ay v2 k2 af - ⟨v0,rfl,rfl,rfl⟩ -;obtain ⟨s,aB,N⟩:=zB N;refine gH rfl aB<|yH [] [4] rfl<|xD<|zH ?_;obtain rfl:=zC N;exact wI
 intro aI N;refine zS<|zX<|yF [17] rfl<|zG<|yC N ?_ ?_
 · intro aX N;refine yE<|yB 2 [] [18,19] rfl<|bE N fun s1 aN N=>gH rfl aN<|yH [] [4] rfl<|xD<|zH ?_;obtain rfl:=zC N;exact wI
 intro aX N;refine zS<|yX<|yB 2 [] [21,22] rfl<|bE N fun y1 bm N=>xL (dV n01 _ bm ) ?_;rintro ba ay v2 k2 aF - ⟨v01,rfl,rfl,rfl⟩ -;obtain ⟨s2,bw,N⟩:=zB N;refine gH rfl bw<|bE N fun s3 bI N=>gH rfl bI<|yB 6 [] [26] rfl<|bE N fun s4 hy6 N=>gH rfl hy6<|yH [] [4] rfl<|zG<|yW ?_;obtain rfl:=zC N;exact wI
def nC (a0:zA) (out:Str) (i:Int):Option (Str):=do
 if (decide (i<(a0.Coefs.length:Int))) then
  let x<-idx a0.Coefs i
  let au<-(do
    if (x != 0) then
     let x1<-idx a0.Coefs i
     let s<-sslc (⟨[105,106,107,108]⟩:Str) i (W (i+1))
     let y<-fB x1 s
     let s1<-cat out y
     pure (id s1)
    else
     pure (id out)
      : Option Str)
  nC a0 au (W (i+1))
 else
  pure (id out)
 partial_fixpoint
theorem zFJ (a0:zA):∀ (out:Str) (i:Int) (o:Str),nC a0 out i=some o->∀ {B}{I0 I:Imm}{Q p c}{b:Nat},I0.le I->(S4 I p a0.Coefs c)->NG Q->NO Q->(∀ (I':Imm) (al:Str),o=al->I0.le I'->T 46 B Q (.exit 0) I' [hB b (cAff a0 p c)] [(1,vP b 0),(3,vT al.l)])->J Tryz.prog 46 B (nav (bodyOf f243) [1,1,0,1,0]) Q I [hB b (cAff a0 p c)] [(1,vP b 0),(3,vT out.l),(4,vI i)]:=by
 refine nC.partial_correctness a0 _ fun aJ ih out i o N B I0 I Q p c b H h hg ho hx=>yM hg ho<|zZ<|yE<|yH [0] [9] rfl<|zG<|yC N ?_ ?_
 · intro hc N;refine zS<|zX<|yG<|yE<|yB 3 [0] [13,14] rfl<|bE N fun x hy N=>xK rfl rfl h hy ?_;intro ad aQ ar ap;obtain rfl:=ap;refine xB 0 ar [vI x] (vI x) rfl<|yH [] [17] rfl<|zG ?_;refine wO N [hB b (cAff a0 p c)] (fun au=>[(1,vP b 0),(3,vT au.l),(4,vI i)]) (fun o0 aD=>?_) ?_
   · have H:=iS I;refine yC aD ?_ ?_
     · intro aI N;obtain ⟨x1,aB,N⟩:=zB N;obtain ⟨s,aN,N⟩:=zB N;obtain ⟨y,bm,N⟩:=zB N;obtain ⟨s1,bw,N⟩:=zB N;refine wQ [.p (vT out.l) [],.p (vP b 0) [],.p (vS p a0.Coefs c) [0],.p (vI i) [],.x (fun I' v hx=>∃ ad1,v=.pointer (some ad1)/\hx=[]/\(At I' ad1 [vI x1])),.q (vI x1),.p (vI i) [],.p (vI i) [],.p (vI (W (i+1))) [],.q (vT s.l),.q (vT y.l),.q (vT s1.l)] [[],[],[(1,false)],[],[(2,false),(3,false)],[(4,false)],[],[],[(7,false)],[(6,false),(8,false)],[(5,false),(9,false)],[(0,false),(10,false)]] [hB b (cAff a0 p c)] [] [(11,false)] (zY [0]) ?_ ?_
       · refine Op<|Op<|Op<|Op<|Ox ?_<|Oq ?_<|Op<|Op<|Op<|Oq ?_<|Oq ?_<|Oq ?_<|On
         · intro I1 hf af;refine yT [20,21] rfl ?_;have h:=h.mono af;refine xK rfl rfl h aB ?_;intro ad1 bv av ax;obtain rfl:=ax;exact yN [] iR ⟨_,rfl,rfl,av⟩
         · rintro I1 hf af _ _ ⟨ad1,rfl,rfl,av⟩;exact yT [22] rfl<|xB 0 av [vI x1] (vI x1) rfl<|xC iR
         · intro I1 hf af;exact yT [24,26] rfl<|zI8 rfl aN<|xC iR
         · intro I1 hf af;refine yT [23,27] rfl ?_;have H:=iS I1;refine xL (zDB x1 s _ bm ) ?_;rintro aW ay v2 k2 le - ⟨v0,rfl,rfl,rfl⟩ -;have H:=H.trans le;exact xC H
         intro I1 hf af;exact yT [18,28] rfl<|gH rfl bw<|xC iR
       intro ba af;refine yT [1,4,29] rfl ?_;have H:=H.trans af;exact yH [] [3] rfl<|yL<|zU (ct N H)
     intro aI N;exact zS<|yL<|zU (ct N H)
   intro au I0 aF aU;have ⟨h,H⟩:=m2 aF h H;exact zM<|zG<|zJ<|yH [] [4] rfl<|yK<|oY<|ih au (W (i+1)) _ aU H h hg ho hx
 intro hc N;exact wJ<|yL<|hx _ _ (zC N).symm H
def jH (a0:zA):Option (Str):=do
 let al<-nC a0 (⟨[]⟩:Str) 0
 let aH<-(do
   if (a0.Const != 0) then
    let y1<-fB a0.Const (⟨[]⟩:Str)
    let s2<-cat al y1
    pure (id s2)
   else
    pure (id al)
     : Option Str)
 if (aH.l==([]:List UInt8)) then
  pure (⟨[48]⟩:Str)
 else
  let s3<-sslc aH 0 1
  if (s3.l==([43]:List UInt8)) then
   let s4<-sslc aH 1 (aH.l.length:Int)
   pure (id s4)
  else
   pure (id aH)
theorem zAs:∀ a0 r,jH a0=some r->∀ {I:Imm}{p c},(S4 I p a0.Coefs c)->RT 243 [vA (cAff a0 p c)] I [] (sA  r):=by
 intro a0 r N I p c h;unfold jH at N;refine yJ func243 fun B=>?_;have H:=iS I;refine yE<|tO (cAff a0 p c) ?_;intro b hb;refine wG [] []<|wM [3] rfl<|zX<|yF [4] rfl<|xX<|rU [(1,vP b 0),(3,vT ([])),(4,vI 0)] ?_;obtain ⟨aP,aA,aM⟩:=zB N;refine zFJ a0 (⟨[]⟩:Str) 0 aP aA iR h (fun _ _ _ h=>h) (fun _ _ h=>h) ?_;intro bH al heq1 aK;subst aP;have H:=H.trans aK;refine zR<|zX<|yE<|yH [0] [32] rfl<|zG ?_;refine wO aM [] (fun aH=>[(3,vT aH.l)]) (fun o02 ho02=>?_) ?_
 · have H:=iS bH;refine yC ho02 ?_ ?_
   · intro aX N;refine zJ<|yB 3 [0] [33,35] rfl<|bE N fun y1 bI N=>xL (zDB a0.Const (⟨[]⟩:Str) _ bI ) ?_;rintro bR ay v2 k2 bk - ⟨v01,rfl,rfl,rfl⟩ -;have H:=H.trans bk;obtain ⟨s2,hy6,N⟩:=zB N;exact gH rfl hy6<|yH [] [3] rfl<|xQ zQ<|yL<|zU (ct N H)
   intro aX N;exact zS<|xQ zQ<|yL<|zU (ct N H)
 intro aH bL bz hMc1;refine zX<|yF [39] rfl<|zG<|yC hMc1 ?_ ?_
 · intro bK N;refine yF [2] rfl<|xD<|zH ?_;obtain rfl:=zC N;exact wI
 intro bK N;refine zS<|zX<|yE<|yB 1 [] [40] rfl<|bE N fun s3 hy7 N=>zI8 rfl hy7<|yH [] [42] rfl<|zG<|yC N ?_ ?_
 · intro bO N;refine yE<|yB 1 [] [43] rfl<|bE N fun s4 hy8 N=>zI8 rfl hy8<|yH [] [2] rfl<|xD<|zH ?_;obtain rfl:=zC N;exact wI
 intro bO N;refine zS<|wM [2] rfl<|zG<|yW ?_;obtain rfl:=zC N;exact wI
def mO (a0:zA):Option (Str):=do
 let y<-uL a0
 if (!y) then
  pure (⟨[]⟩:Str)
 else
  let y1<-jH a0
  pure (id y1)
theorem zDC:∀ a0 r,mO a0=some r->∀ {I:Imm}{p c},(S4 I p a0.Coefs c)->RT 271 [vA (cAff a0 p c)] I [] (sA  r):=by
 intro a0 r N I p c h;unfold mO at N;refine yJ func271 fun B=>yE<|tO (cAff a0 p c) ?_;intro b hb;refine wG [] []<|zX<|yE<|rQ 1 [0] [(3,vA (cAff a0 p c))]<|bE N fun y hy N=>vQ (jP a0 _ hy h) ?_;intro I0 le;have h:=h.mono le;refine yH [] [5] rfl<|zG<|yC N ?_ ?_
 · intro hc N;refine yF [2] rfl<|xD<|zH ?_;obtain rfl:=zC N;exact wI
 intro hc N;refine zS<|yX<|rQ 1 [0] [(6,vA (cAff a0 p c))]<|bE N fun y1 aB N=>xL (zAs a0 _ aB h) ?_;rintro aW ay v2 k2 af - ⟨v01,rfl,rfl,rfl⟩ -;refine yH [] [2] rfl<|zG<|yW ?_;obtain rfl:=zC N;exact wI
def zCj (r:zA×Bool):KT:=fun kk I' ah v=>
  ∃ v0 v1,ah=[]/\v=tupV [v0,v1]/\(∃ cs,v0=.agg ⟨cs⟩/\Rp.rep I' cs r.1)/\v1=.bool r.2
def qL (bu:Str) (at0:Int) (x:zA):Option (zA):=do
 let t18<-(do
   if (decide (at0>=0)) then
    pure (decide (at0<(bu.l.length:Int)))
   else
    pure false
     : Option Bool)
 if t18 then
  let (y2,y3)<-fS x bu at0
  qL bu y3 y2
 else
  pure (id x)
 partial_fixpoint
theorem zCQ (bu:Str):∀ (at0:Int) (x:zA) (o:zA),qL bu at0 x=some o->∀ {B}{I0 I:Imm}{Q}  {b:Nat}{b1:Nat}{p1 c1},I0.le I->(S4 I p1 x.Coefs c1)->NG Q->NO Q->(∀ (I':Imm) (x1:zA) (p2:Option Addr) (c2:Nat),o=x1->I0.le I'->(S4 I' p2 x1.Coefs c2)->T 32 B Q (.exit 0) I' [hB b1 (cAff x1 p2 c2),hB b [z0,vI 0]] [(0,vT bu.l),(2,vP b 0),(4,vP b1 0)])->J Tryz.prog 32 B (nav (bodyOf f259) [1,1,1,1,0,0]) Q I [hB b1 (cAff x p1 c1),hB b [z0,vI 0]] [(0,vT bu.l),(2,vP b 0),(4,vP b1 0),(5,vI at0)]:=by
 refine qL.partial_correctness bu _ fun aJ ih at0 x o N B I0 I Q b b1 p1 c1 H h2 hg ho hx=>yM hg ho<|zZ<|zZ ?_;refine wO N [hB b1 (cAff x p1 c1),hB b [z0,vI 0]] (fun t18=>[(0,vT bu.l),(2,vP b 0),(4,vP b1 0),(5,vI at0),(18,.bool t18)]) (fun o0 aD=>?_) ?_
 · have H:=iS I;refine zJ<|yB 3 [] [13] rfl<|xV [13] aD ?_ ?_
   · intro aI N;exact yH [] [18] rfl<|yL<|zU (ct N H)
   intro aI N;exact wG [] [(18,vF)]<|yL<|zU (ct N H)
 intro t18 ba aF aU;have ⟨h2,H⟩:=m2 aF h2 H;refine zG<|yC aU ?_ ?_
 · intro aX N;refine zS<|xX<|zJ<|rQ 3 [0] [(20,vA (cAff x p1 c1)),(21,vT bu.l),(22,vI at0)] ?_;obtain ⟨⟨y2,y3⟩,aB,N⟩:=zB N;refine xL (zGt x bu at0 _ aB h2) ?_;rintro bH ay v2 k2 aK - ⟨v0,v01,rfl,rfl,⟨az,rfl,h4⟩,rfl⟩ -;have H:=H.trans aK;obtain ⟨p3,c3,rfl,h6⟩:=yQ h4;exact yB 7 [] [24,25] rfl<|xJ 0 (cAff y2 p3 c3) rfl<|yH [] [5] rfl<|zM<|yK<|oY<|ih y3 y2 _ N H h6 hg ho hx
 intro aX N;exact wJ<|yL<|hx _ _ _ _ (zC N).symm H h2
def nD (bu:Str):Option (zA×Bool):=do
 let y<-nT
 if (decide ((bu.l.length:Int)>40)) then
  pure ((zA.mk ([]:List Int) 0),false)
 else
  let x1<-qL bu 0 (zA.mk y.Coefs y.Const)
  let y4<-mO x1
  if (!(y4.l==bu.l)) then
   pure ((zA.mk ([]:List Int) 0),false)
  else
   pure (x1,true)
theorem zAe:∀ bu r,nD bu=some r->∀ {I:Imm} ,RT 259 [vT bu.l] I [] (zCj  r):=by
 intro bu r N I;unfold nD at N;refine yJ func259 fun B=>yE<|wS [z0,vI 0] ?_;intro b hb;refine wG [] []<|yX<|bE N fun y hy N=>xL (jS  _ hy ) ?_;rintro I0 ay v2 k2 le - ⟨p,c,cs,rfl,rfl,h⟩ -;refine wS [z0,vI 0] ?_;intro b1 hb1;refine xJ 0 (cAff y p c) rfl<|yD rfl<|zX<|yF [9] rfl<|zG<|yC N ?_ ?_
 · intro hc N;refine yE<|yB 1 [] [10] rfl<|xJ 2 [z0,vI 0] rfl<|wG [] [(3,vF)]<|xD<|zH ?_;obtain rfl:=zC N;exact yZ ⟨_,_,(.cell 2 rfl rfl (by kernel_rfl) (.tmp rfl ResV.nil)),zQ,⟨_,_,rfl,rfl,⟨_,rfl,(yO ⟨_,rfl,(SL.nil _)⟩)⟩,rfl⟩⟩
 intro hc N;refine zS<|wM [5] rfl<|zX<|yG<|pH 1 rfl ?_;intro aW af hl0;have h1:=SL.of_frozen hl0 af h;refine rU [(0,vT bu.l),(2,vP b 0),(4,vP b1 0),(5,vI 0)] ?_;obtain ⟨aP,aA,aM⟩:=zB N;refine zCQ bu 0 (zA.mk y.Coefs y.Const) aP aA iR h1 (fun _ _ _ h=>h) (fun _ _ h=>h) ?_;intro bL x1 p2 c2 heq1 bk h3;subst aP;refine zR<|zX<|yE<|rQ 1 [0] [(26,vA (cAff x1 p2 c2))] ?_;obtain ⟨y4,aN,N⟩:=zB aM;refine xL (zDC x1 _ aN h3) ?_;rintro bR ay v2 k2 bz - ⟨v03,rfl,rfl,rfl⟩ -;have h3:=h3.mono bz;refine yH [] [29] rfl<|zG<|yC N ?_ ?_
 · intro bK N;refine yE<|yB 1 [] [30] rfl<|xJ 1 [z0,vI 0] rfl<|wG [] [(3,vF)]<|xD<|zH ?_;obtain rfl:=zC N;exact yZ ⟨_,_,(.cell 1 rfl rfl (by kernel_rfl) (.tmp rfl ResV.nil)),zQ,⟨_,_,rfl,rfl,⟨_,rfl,(yO ⟨_,rfl,(SL.nil _)⟩)⟩,rfl⟩⟩
 intro bK N;refine zS<|yX<|rQ 1 [0] [(31,vA (cAff x1 p2 c2))]<|xJ 1 (cAff x1 p2 c2) rfl<|wG [] [(3,vY)]<|zG<|yW ?_;obtain rfl:=zC N;exact yZ ⟨_,_,(.cell 1 rfl rfl (by kernel_rfl) (.tmp rfl ResV.nil)),zQ,⟨_,_,rfl,rfl,⟨_,rfl,(yO ⟨_,rfl,h3⟩)⟩,rfl⟩⟩
def zCk (r:(List zA)):KT:=fun kk I' ah v=>
  ∃ v0,ah=[]/\v=tupV [v0]/\SL I' v0 r
def sK (y:(List Str)) (out:List zA) (i:Int):Option (List zA):=do
 let t18<-(do
   if (decide (i<(y.length:Int))) then
    pure (decide (i<=2))
   else
    pure false
     : Option Bool)
 if t18 then
  let x<-idx y i
  let (y2,y3)<-nD x
  let au<-app 32 out ([y2]:List zA)
  sK y au (W (i+1))
 else
  pure (id out)
 partial_fixpoint
theorem zCR (y:(List Str)):∀ (out:List zA) (i:Int) (o:List zA),sK y out i=some o->∀ {B}{I0 I:Imm}{Q p c p1 c1 cs},I0.le I->(S4 I p y c)->(RL I cs out)->NG Q->NO Q->(∀ (I':Imm) (al:List zA) (p2:Option Addr) (c2:Nat) (az:List Value),o=al->I0.le I'->(RL I' az al)->T 34 B Q (.exit 0) I' [hO zA (vS p2 al c2) az] [(3,vS p2 al c2)])->J Tryz.prog 34 B (nav (bodyOf f238) [1,1,1,0,1,0]) Q I [hO zA (vS p1 out c1) cs] [(3,vS p1 out c1),(4,vS p y c),(5,vI i)]:=by
 refine sK.partial_correctness y _ fun aJ ih out i o N B I0 I Q p c p1 c1 cs H h1 h2 hg ho hx=>yM hg ho<|zZ<|zZ ?_;refine wO N [hO zA (vS p1 out c1) cs] (fun t18=>[(3,vS p1 out c1),(4,vS p y c),(5,vI i),(18,.bool t18)]) (fun o0 aD=>?_) ?_
 · have H:=iS I;refine zJ<|yB 5 [] [15] rfl<|xV [15] aD ?_ ?_
   · intro hc N;exact yH [] [18] rfl<|yL<|zU (ct N H)
   intro hc N;exact wG [] [(18,vF)]<|yL<|zU (ct N H)
 intro t18 aW af aU;have ⟨h2,h1,H⟩:=m3 af h2 h1 H;refine zG<|yC aU ?_ ?_
 · intro aI N;refine zS<|zX<|yG<|yE<|yB 2 [] [22,23] rfl<|bE N fun x aB N=>xK rfl rfl h1 aB ?_;intro ad aQ ar ap;obtain rfl:=ap;refine xB 0 ar [vT x.l] (vT x.l) rfl ?_;obtain ⟨⟨y2,y3⟩,aN,N⟩:=zB N;refine xL (zAe x _ aN ) ?_;rintro ba ay v2 k2 aF - ⟨v01,v02,rfl,rfl,⟨aS,rfl,h4⟩,rfl⟩ -;have ⟨h2,h1,H⟩:=m3 aF h2 h1 H;obtain ⟨p3,c3,rfl,h6⟩:=yQ h4;refine yB 8 [] [27,28] rfl<|wS [z0,vI 0] ?_;intro b1 hb1;refine xJ 0 (cAff y2 p3 c3) rfl<|wG [] []<|zG<|zJ<|rQ 2 [0] [(29,vS p1 out c1),(30,vA (cAff y2 p3 c3))]<|uK (cAff y2 p3 c3) zA ?_;intro b2 hb2;have h7:RL ba (cAff y2 p3 c3) ([y2]:List zA):=⟨(cAff y2 p3 c3),_,rfl,rfl,(yO ⟨_,rfl,h6⟩),rfl⟩;obtain ⟨au,bm,N⟩:=zB N;exact sU 95 2 2 rfl rfl rfl h2 (.inr ⟨0,rfl⟩) h7 bm fun p4 c4 aT h8=>tZ (zY [1,2] (ah:=[hB b1 (cAff y2 p3 c3),hO zA (vS p4 au c4) aT]))<|yH [] [3] rfl<|zM<|zG<|zJ<|yH [] [5] rfl<|yK<|kE (zW [1] rfl (by decide))<|oY<|ih au (W (i+1)) _ N H h1 h8 hg ho hx
 intro aI N;exact wJ<|yL<|hx _ _ _ _ _ (zC N).symm H h2
def pC (bu:Str):Option ((List zA)):=do
 let y<-jG bu (44:UInt8)
 let al<-sK y ([]:List zA) 0
 pure (id al)
theorem eK:∀ bu r,pC bu=some r->∀ {I:Imm} ,RT 238 [vT bu.l] I [] (zCk  r):=by
 intro bu r N I;unfold pC at N;refine yJ func238 fun B=>wP []<|yX<|uK [] zA ?_;intro b hb;have h:RL I [] ([]:List zA):=rfl;refine yH [] [3] rfl<|yX<|yB 1 [] [9] rfl<|bE N fun y hy N=>xL (zAr bu (44:UInt8) _ hy ) ?_;rintro I0 ay v2 k2 le - ⟨v0,rfl,rfl,h1⟩ -;have h:=iM le h;obtain ⟨p,c,rfl⟩:=h1.form;refine yH [] [4] rfl<|zX<|yF [5] rfl<|xX<|rU [(3,vS (some ⟨b,0,none⟩) ([]:List zA) 0),(4,vS p y c),(5,vI 0)] ?_;obtain ⟨aP,aA,aM⟩:=zB N;refine zCR y ([]:List zA) 0 aP aA iR h1 h (fun _ _ _ h=>h) (fun _ _ h=>h) ?_;intro bH al p2 c2 az heq1 aK h3;subst aP;refine zR<|wM [2] rfl<|xD<|yU 0 rfl ?_;intro bL bk hl0;have h9:=SL.of_frozen hl0 bk h3;obtain rfl:=zC aM;exact yZ ⟨_,_,(.tmp rfl ResV.nil),zQ,⟨_,rfl,rfl,h9⟩⟩
def zGJ (r:zE):KT:=fun kk I' ah v=>
  ∃ v0,ah=[]/\v=tupV [v0]/\(∃ cs,v0=.agg ⟨cs⟩/\Rp.rep I' cs r)
def eQ (line:Str):Option (zE):=do
 let y<-kR line
 if ((y.length:Int) != 3) then
  pure (zE.mk ([]:List zA) ([]:List zA))
 else
  let x<-idx y 1
  let y1<-pC x
  let x1<-idx y 2
  let y2<-pC x1
  pure (zE.mk y1 y2)
theorem zHj:∀ line r,eQ line=some r->∀ {I:Imm} ,RT 212 [vT line.l] I [] (zGJ  r):=by
 intro line r N I;unfold eQ at N;refine yJ func212 fun B=>?_;have H:=iS I;refine yE<|wS zTwo ?_;intro b hb;refine yD rfl<|yX<|yB 1 [] [4] rfl<|bE N fun y hy N=>xL (zBo line _ hy ) ?_;rintro I0 ay v2 k2 le - ⟨v0,rfl,rfl,h⟩ -;have H:=H.trans le;obtain ⟨p,c,rfl⟩:=h.form;refine yH [] [3] rfl<|zX<|yF [8] rfl<|zG<|yC N ?_ ?_
 · intro hc N;refine yE<|yB 1 [] [9] rfl<|zB5 0 zTwo [hB b zTwo] rfl rfl rfl rfl<|yD rfl<|xD<|zH ?_;obtain rfl:=zC N;exact yZ ⟨_,_,(.cell 0 rfl rfl (by kernel_rfl) ResV.nil),zQ,⟨_,rfl,rfl,⟨_,rfl,(qM ⟨_,_,rfl,(SL.nil _),(SL.nil _)⟩)⟩⟩⟩
 intro hc N;refine zS<|zG<|zZ ?_;obtain ⟨x,aB,N⟩:=zB N;obtain ⟨y1,aN,N⟩:=zB N;obtain ⟨x1,bm,N⟩:=zB N;obtain ⟨y2,bw,N⟩:=zB N;refine wQ [.p (vS p y c) [],.x (fun I' v hx=>∃ ad,v=.pointer (some ad)/\hx=[]/\(At I' ad [vT x.l])),.q (vT x.l),.x (eS y1),.p (vS p y c) [],.x (fun I' v hx=>∃ ad1,v=.pointer (some ad1)/\hx=[]/\(At I' ad1 [vT x1.l])),.q (vT x1.l),.x (eS y2),.x (fun I' v hx=>∃ aR bc p21 c21,v=vA [vS aR y1 bc,vS p21 y2 c21]/\hx=[]/\(S4 I' aR y1 bc)/\(S4 I' p21 y2 c21))] [[],[(0,false)],[(1,false)],[(2,false)],[],[(4,false)],[(5,false)],[(6,false)],[(3,false),(7,false)]] [hB b zTwo] [] [(8,false)] (zY [0]) ?_ ?_
 · refine Op<|Ox ?_<|Oq ?_<|Ox ?_<|Op<|Ox ?_<|Oq ?_<|Ox ?_<|Ox ?_<|On
   · intro I1 hf af;refine yT [10] rfl ?_;have h:=h.mono af;refine xK rfl rfl h aB ?_;intro ad aQ ar ap;obtain rfl:=ap;exact yN [] iR ⟨_,rfl,rfl,ar⟩
   · rintro I1 hf af _ _ ⟨ad,rfl,rfl,ar⟩;exact yT [11] rfl<|xB 0 ar [vT x.l] (vT x.l) rfl<|xC iR
   · intro I1 hf af;refine yT [12] rfl ?_;have H:=iS I1;refine xL (eK x _ aN ) ?_;rintro aW ay v2 k2 af - ⟨v01,rfl,rfl,h1⟩ -;have H:=H.trans af;obtain ⟨p1,c1,rfl⟩:=h1.form;exact yN [] H ⟨_,_,rfl,rfl,h1⟩
   · intro I1 hf af;refine yT [14] rfl ?_;have h:=h.mono af;refine xK rfl rfl h bm ?_;intro ad1 bv av ax;obtain rfl:=ax;exact yN [] iR ⟨_,rfl,rfl,av⟩
   · rintro I1 hf af _ _ ⟨ad1,rfl,rfl,av⟩;exact yT [15] rfl<|xB 0 av [vT x1.l] (vT x1.l) rfl<|xC iR
   · intro I1 hf af;refine yT [16] rfl ?_;have H:=iS I1;refine xL (eK x1 _ bw ) ?_;rintro ba ay v2 k2 aF - ⟨v02,rfl,rfl,h2⟩ -;have H:=H.trans aF;obtain ⟨p2,c2,rfl⟩:=h2.form;exact yN [] H ⟨_,_,rfl,rfl,h2⟩
   rintro I1 hf af _ _ ⟨p1,c1,rfl,rfl,h1⟩ _ _ ⟨p2,c2,rfl,rfl,h2⟩;exact yT [13,17] rfl<|mE 9 [(18,vA [vS p1 y1 c1,vS p2 y2 c2])]<|yN [] iR ⟨_,_,_,_,rfl,rfl,h1,h2⟩
 rintro bH aK _ _ ⟨aR,bc,p21,c21,rfl,rfl,h11,h21⟩;refine yT [2,18] rfl ?_;refine xJ 0 [vS aR y1 bc,vS p21 y2 c21] rfl<|yD rfl<|zG<|yW ?_;obtain rfl:=zC N;exact yZ ⟨_,_,(.cell 0 rfl rfl (by kernel_rfl) ResV.nil),zQ,⟨_,rfl,rfl,⟨_,rfl,(qM ⟨_,_,rfl,h11,h21⟩)⟩⟩⟩
def pT (s:Str) (end0:UInt8) (i:Int):Option (Out Unit (Int)):=do
 if (decide (i<(s.l.length:Int))) then
  let b<-sidx s i
  if ((b.toNat:Int)==(end0.toNat:Int)) then
   pure (.ret i)
  else
   pT s end0 (W (i+1))
 else
  pure (.done ())
 partial_fixpoint
theorem zEU (s:Str) (end0:UInt8):∀ (i:Int) (o:Out Unit (Int)),pT s end0 i=some o->∀ {B}{I0 I:Imm}{Q}  ,I0.le I->NG Q->NO Q->(∀ (I':Imm) ,o=(.done ())->I0.le I'->T 21 B Q (.exit 0) I' [] [])->(∀ r I' ah m',o=(.ret r)->I0.le I'->RS Tryz.prog f260 B (yS  r) I' ah m'->T 21 B Q .ret I' ah m')->J Tryz.prog 21 B (nav (bodyOf f260) [1,0,1,0]) Q I [] [(0,vT s.l),(2,.int .u8 (end0.toNat:Int)),(7,vI i)]:=by
 refine pT.partial_correctness s end0 _ fun aJ ih i o N B I0 I Q H hg ho hx hr=>yM hg ho<|zZ<|yF [12] rfl<|zG<|yC N ?_ ?_
 · intro hc N;refine zS<|zX<|yG<|yE<|yB 2 [] [15,16] rfl<|bE N fun b hy N=>zBE rfl rfl hy<|yH [] [19] rfl<|zG<|yC N ?_ ?_
   · intro aI N;exact yF [6] rfl<|xD<|zV<|zH<|zH<|hr _ _ _ _ (zC N).symm H ⟨_,_,(.tmp rfl ResV.nil),zQ,⟨_,rfl,rfl,rfl⟩⟩
   intro aI N;exact zS<|zM<|zG<|zJ<|yH [] [7] rfl<|yK<|oY<|ih (W (i+1)) _ N H  hg ho hx hr
 intro hc N;exact wJ<|yL<|hx _  (zC N).symm H
def jU (s:Str) (at0:Int) (end0:UInt8):Option (Int):=do
 match<-pT s end0 at0 with
 | .ret r0=>pure r0
 | .done _ =>
  pure (-1)
theorem zCd:∀ s at0 end0 r,jU s at0 end0=some r->∀ {I:Imm} ,RT 260 [vT s.l,vI at0,.int .u8 (end0.toNat:Int)] I [] (yS  r):=by
 intro s at0 end0 r N I;unfold jU at N;refine yJ func260 fun B=>wP []<|zX<|yF [7] rfl<|xX<|rU [(0,vT s.l),(2,.int .u8 (end0.toNat:Int)),(7,vI at0)] ?_;obtain ⟨o0,aD,aM⟩:=zB N;refine zEU s end0 at0 o0 aD iR  (fun _ _ _ h=>h) (fun _ _ h=>h) ?_ ?_
 · intro I0  heq le;subst o0;refine zR<|wM [6] rfl<|zG<|yW ?_;obtain rfl:=zC aM;exact wI
 intro r0 I9 hs9 m9 aZ le9 bb;subst aZ;refine zV<|zH ?_;obtain rfl:=zC aM;exact yZ bb
def zBq (r:zL×Int):KT:=fun kk I' ah v=>
  ∃ v0 v1,ah=[]/\v=tupV [v0,v1]/\(∃ cs,v0=.agg ⟨cs⟩/\Rp.rep I' cs r.1)/\v1=.int .i64 r.2
def pI (s:Str) (at0:Int):Option (zL×Int):=do
 let y<-jU s at0 (93:UInt8)
 let t20<-(do
   if (decide (y<(W (at0+2)))) then
    pure true
   else
    let b1<-sidx s (W (at0+1))
    pure ((b1.toNat:Int) != 91)
     : Option Bool)
 if t20 then
  pure ((zL.mk (⟨[]⟩:Str) ([]:List zA)),(-1))
 else
  let s1<-sslc s at0 (W (at0+1))
  let s2<-sslc s (W (at0+2)) y
  let y1<-pC s2
  pure ((zL.mk s1 y1),(W (y+1)))
theorem zAF:∀ s at0 r,pI s at0=some r->∀ {I:Imm} ,RT 239 [vT s.l,vI at0] I [] (zBq  r):=by
 intro s at0 r N I;unfold pI at N;refine yJ func239 fun B=>?_;have H:=iS I;refine yE<|wS [vT ([]),z0] ?_;intro b hb;refine wG [] []<|yX<|yB 2 [] [7,8] rfl<|bE N fun y hy N=>fK (zCd s at0 (93:UInt8) _ hy ) ?_;intro I0 le;have H:=H.trans le;refine yH [] [6] rfl<|zX<|zZ ?_;refine wO N [hB b [vT ([]),z0]] (fun t20=>[(0,vT s.l),(1,vI at0),(4,vP b 0),(6,vI y),(20,.bool t20)]) (fun o0 aD=>?_) ?_
 · have H:=iS I0;refine zJ<|yB 5 [] [14] rfl<|xV [14] aD ?_ ?_
   · intro hc N;exact wG [] [(20,vY)]<|yL<|zU (ct N H)
   intro hc N;exact yB 8 [] [15,17] rfl<|bE N fun b1 aB N=>zBE rfl rfl aB<|yH [] [20] rfl<|yL<|zU (ct N H)
 intro t20 aW af aU;have H:=H.trans af;refine zG<|yC aU ?_ ?_
 · intro aI N;refine yE<|yB 1 [] [21] rfl<|xJ 0 [vT ([]),z0] rfl<|yH [] [5] rfl<|xD<|zH ?_;obtain rfl:=zC N;exact yZ ⟨_,_,(.cell 0 rfl rfl (by kernel_rfl) (.tmp rfl ResV.nil)),zQ,⟨_,_,rfl,rfl,⟨_,rfl,(mY ⟨_,rfl,(SL.nil _)⟩)⟩,rfl⟩⟩
 intro aI N;refine zS<|zG<|zZ ?_;obtain ⟨s1,aN,N⟩:=zB N;obtain ⟨s2,bm,N⟩:=zB N;obtain ⟨y1,bw,N⟩:=zB N;refine wQ [.p (vT s.l) [],.p (vI at0) [],.p (vI at0) [],.p (vI (W (at0+1))) [],.q (vT s1.l),.p (vT s.l) [],.p (vI at0) [],.p (vI (W (at0+2))) [],.p (vI y) [],.q (vT s2.l),.x (eS y1),.x (fun I' v hx=>∃ p1 c1,v=vA [vT s1.l,vS p1 y1 c1]/\hx=[]/\(S4 I' p1 y1 c1)),.p (vI y) [],.p (vI (W (y+1))) [],.x (fun I' v hx=>∃ aR bc,hx=[hB b [vT s1.l,vS aR y1 bc]]/\(S4 I' aR y1 bc))] [[],[],[],[(2,false)],[(0,false),(1,false),(3,false)],[],[],[(6,false)],[],[(5,false),(7,false),(8,false)],[(9,false)],[(4,false),(10,false)],[],[(12,false)],[(11,false),(16,true)]] [] [[hB b [vT ([]),z0]]] [(13,false),(14,true)] (zY [0]) ?_ ?_
 · refine Op<|Op<|Op<|Op<|Oq ?_<|Op<|Op<|Op<|Op<|Oq ?_<|Ox ?_<|Ox ?_<|Op<|Op<|Ox ?_<|On
   · intro I1 hf af;exact yT [22,23,25] rfl<|zI8 rfl aN<|xC iR
   · intro I1 hf af;exact yT [27,29,30] rfl<|zI8 rfl bm<|xC iR
   · intro I1 hf af;refine yT [31] rfl ?_;have H:=iS I1;refine xL (eK s2 _ bw ) ?_;rintro ba ay v2 k2 aF - ⟨v01,rfl,rfl,h1⟩ -;have H:=H.trans aF;obtain ⟨p,c,rfl⟩:=h1.form;exact yN [] H ⟨_,_,rfl,rfl,h1⟩
   · rintro I1 hf af _ _ ⟨rfl,rfl⟩ _ _ ⟨p,c,rfl,rfl,h1⟩;exact yT [26,32] rfl<|mE 12 [(33,vA [vT s1.l,vS p y1 c])]<|yN [] iR ⟨_,_,rfl,rfl,h1⟩
   rintro I1 hf af _ _ ⟨p1,c1,rfl,rfl,h11⟩ _ _ rfl;refine yT [4,33] rfl ?_;have H:=iS I1;exact zB5 0 [vT s1.l,vS p1 y1 c1] (hB b [vT s1.l,vS p1 y1 c1]::hf) rfl rfl rfl rfl<|zGi (hx:=[hB b [vT s1.l,vS p1 y1 c1]]) rfl H rfl (zH8 (v:=undef)) ⟨_,_,rfl,h11⟩
 rintro bH aK _ _ ⟨rfl,rfl⟩ _ _ ⟨aR,bc,rfl,h111⟩;refine yT [4,35] rfl ?_;refine yH [] [5] rfl<|zG<|yW ?_;obtain rfl:=zC N;exact yZ ⟨_,_,(.cell 0 rfl rfl (by kernel_rfl) (.tmp rfl ResV.nil)),zQ,⟨_,_,rfl,rfl,⟨_,rfl,(mY ⟨_,rfl,h111⟩)⟩,rfl⟩⟩
def dW (r:zI×Int):KT:=fun kk I' ah v=>
  ∃ v0 v1,ah=[]/\v=tupV [v0,v1]/\(∃ cs,v0=.agg ⟨cs⟩/\Rp.rep I' cs r.1)/\v1=.int .i64 r.2
mutual
def fT (s:Str) (at0:Int) (aj:Int):Option (zI×Int):=do
 let (y1,y2)<-pU (same s) (same at0) (same aj)
 let t27<-(do
   if (decide (y2<0)) then
    pure true
   else
    pure (decide (y2>=(s.l.length:Int)))
     : Option Bool)
 if t27 then
  pure ((zI.mk 0 0 (zA.mk ([]:List Int) 0) (zL.mk (⟨[]⟩:Str) ([]:List zA)) ([]:List zI)),(-1))
 else
  let b2<-sidx s y2
  let kind<-(do
    if ((b2.toNat:Int)==45) then
     pure (id 5)
    else
     let kind1<-(do
       if ((b2.toNat:Int)==42) then
        pure (id 6)
       else
        pure (id 4)
         : Option Int)
     pure (id kind1)
      : Option Int)
  let (y4,y5)<-pU (same s) (W (y2+1)) (same aj)
  let t51<-(do
    if (decide (y5<0)) then
     pure true
    else
     pure (decide (y5>=(s.l.length:Int)))
      : Option Bool)
  if t51 then
   pure ((zI.mk 0 0 (zA.mk ([]:List Int) 0) (zL.mk (⟨[]⟩:Str) ([]:List zA)) ([]:List zI)),(-1))
  else
   pure ((zI.mk kind 0 (zA.mk ([]:List Int) 0) (zL.mk (⟨[]⟩:Str) ([]:List zA)) ([y1,y4]:List zI)),(W (y5+1)))
 partial_fixpoint
def pU (s:Str) (at0:Int) (aj:Int):Option (zI×Int):=do
 let t26<-(do
   if (decide (aj<1)) then
    pure true
   else
    if (decide (at0<0)) then
     pure true
    else
     pure (decide (at0>=(s.l.length:Int)))
     : Option Bool)
 if t26 then
  pure ((zI.mk 0 0 (zA.mk ([]:List Int) 0) (zL.mk (⟨[]⟩:Str) ([]:List zA)) ([]:List zI)),(-1))
 else
  let b1<-sidx s at0
  if ((b1.toNat:Int)==123) then
   let y<-jU s at0 (125:UInt8)
   if (decide (y<0)) then
    pure ((zI.mk 0 0 (zA.mk ([]:List Int) 0) (zL.mk (⟨[]⟩:Str) ([]:List zA)) ([]:List zI)),(-1))
   else
    let s1<-sslc s (W (at0+1)) y
    let (y2,y3)<-nD s1
    pure ((zI.mk 2 0 y2 (zL.mk (⟨[]⟩:Str) ([]:List zA)) ([]:List zI)),(W (y+1)))
  else
   let t52<-(do
     let b3<-sidx s at0
     if (decide ((b3.toNat:Int)>=65)) then
      let b4<-sidx s at0
      pure (decide ((b4.toNat:Int)<=68))
     else
      pure false
       : Option Bool)
   if t52 then
    let (y5,y6)<-pI s at0
    pure ((zI.mk 3 0 (zA.mk ([]:List Int) 0) y5 ([]:List zI)),y6)
   else
    let b6<-sidx s at0
    if ((b6.toNat:Int)==40) then
     let (y8,y9)<-fT (same s) (W (at0+1)) (W (aj - 1))
     pure (y8,y9)
    else
     let (y11,y12)<-kS s at0
     if (y12==at0) then
      pure ((zI.mk 0 0 (zA.mk ([]:List Int) 0) (zL.mk (⟨[]⟩:Str) ([]:List zA)) ([]:List zI)),(-1))
     else
      pure ((zI.mk 1 y11 (zA.mk ([]:List Int) 0) (zL.mk (⟨[]⟩:Str) ([]:List zA)) ([]:List zI)),y12)
 partial_fixpoint
end
theorem zGK:(∀ (s:Str) (at0:Int) (aj:Int) r,fT s at0 aj=some r->∀ {I:Imm} ,RT 261 [vT s.l,vI at0,vI aj] I [] (dW  r))/\(∀ (s:Str) (at0:Int) (aj:Int) r,pU s at0 aj=some r->∀ {I:Imm} ,RT 240 [vT s.l,vI at0,vI aj] I [] (dW  r)):=by
  refine fT.mutual_partial_correctness _ _ ?_ ?_
  · intro F_spec_l3Parse ih_spec_l3Parse s at0 aj r N I;refine yJ func261 fun B=>?_;have H:=iS I;refine yE<|wS zExpr ?_;intro b hb;refine wG [] []<|yX<|yB 3 [] [14,15,16] rfl ?_;obtain ⟨⟨y1,y2⟩,hy,N⟩:=zB N;refine xL (ih_spec_l3Parse s at0 aj _ hy ) ?_;rintro I0 ay v2 k2 le - ⟨v0,v01,rfl,rfl,⟨cs,rfl,h⟩,rfl⟩ -;have H:=H.trans le;obtain ⟨p,c,p1,c1,p2,c2,rfl,h2,h3,h4⟩:=tS h;refine yB 7 [] [18,19] rfl<|wS zExpr ?_;intro b1 hb1;refine xJ 0 (cExpr y1 p c p1 c1 p2 c2) rfl<|yH [] [9] rfl<|zX<|zZ ?_;refine wO N [hB b1 (cExpr y1 p c p1 c1 p2 c2),hB b zExpr] (fun t27=>[(0,vT s.l),(2,vI aj),(6,vP b 0),(8,vP b1 0),(9,vI y2),(27,.bool t27)]) (fun o0 aD=>?_) ?_
    · have H:=iS I0;refine zJ<|yB 3 [] [22] rfl<|xV [22] aD ?_ ?_
      · intro hc N;exact wG [] [(27,vY)]<|yL<|zU (ct N H)
      intro hc N;exact yH [] [27] rfl<|yL<|zU (ct N H)
    intro t27 aW af aU;have ⟨h2,h3,h4,H⟩:=m4 af h2 h3 h4 H;refine zG<|yC aU ?_ ?_
    · intro aI N;refine yE<|yB 1 [] [28] rfl<|zB5 1 zExpr [hB b1 (cExpr y1 p c p1 c1 p2 c2),hB b zExpr] rfl rfl rfl rfl<|yH [] [7] rfl<|xD<|zH ?_;obtain rfl:=zC N;exact yZ ⟨_,_,(.cell 1 rfl rfl (by kernel_rfl) (.tmp rfl ResV.nil)),zQ,⟨_,_,rfl,rfl,⟨_,rfl,(wC ⟨_,_,_,rfl,(SL.nil _),(SL.nil _),(SL.nil _)⟩)⟩,rfl⟩⟩
    intro aI N;refine zS<|wM [10] rfl<|zX<|yE<|yB 2 [] [29,30] rfl<|bE N fun b2 aB N=>zBE rfl rfl aB<|yD rfl<|xX<|yF [32] rfl<|zG ?_;refine wO N [hB b1 (cExpr y1 p c p1 c1 p2 c2),hB b zExpr] (fun kind=>[(0,vT s.l),(2,vI aj),(6,vP b 0),(8,vP b1 0),(9,vI y2),(10,vI kind)]) (fun aP aA=>?_) ?_
    · have H:=iS aW;refine yC aA ?_ ?_
      · intro aX N;exact zJ<|yH [] [10] rfl<|yL<|zU (ct N H)
      intro aX N;refine yF [34] rfl<|zG ?_;refine wO N [hB b1 (cExpr y1 p c p1 c1 p2 c2),hB b zExpr] (fun kind1=>[(0,vT s.l),(2,vI aj),(6,vP b 0),(8,vP b1 0),(9,vI y2),(10,vI kind1)]) (fun o02 ho02=>?_) ?_
      · have H:=iS aW;refine yC ho02 ?_ ?_
        · intro bK N;exact zJ<|yH [] [10] rfl<|yL<|zU (ct N H)
        intro bK N;exact zS<|yL<|zU (ct N H)
      intro kind1 bH aF hMc2;have H:=H.trans aF;exact yL<|zU (ct hMc2 H)
    intro kind ba aK hMc1;have ⟨h2,h3,h4,H⟩:=m4 aK h2 h3 h4 H;refine zM<|yX<|yB 4 [] [37,39,40] rfl ?_;obtain ⟨⟨y4,y5⟩,aN,N⟩:=zB hMc1;refine xL (ih_spec_l3Parse s (W (y2+1)) aj _ aN ) ?_;rintro bL ay v2 k2 bk - ⟨v05,v06,rfl,rfl,⟨az,rfl,h5⟩,rfl⟩ -;have ⟨h2,h3,h4,H⟩:=m4 bk h2 h3 h4 H;obtain ⟨p3,c3,p4,c4,p5,c5,rfl,h7,h8,h9⟩:=tS h5;refine yB 8 [] [42,43] rfl<|wS zExpr ?_;intro b3 hb2;refine xJ 0 (cExpr y4 p3 c3 p4 c4 p5 c5) rfl<|yH [] [12] rfl<|zX<|zZ ?_;refine wO N [hB b3 (cExpr y4 p3 c3 p4 c4 p5 c5),hB b1 (cExpr y1 p c p1 c1 p2 c2),hB b zExpr] (fun t51=>[(6,vP b 0),(8,vP b1 0),(10,vI kind),(11,vP b3 0),(12,vI y5),(51,.bool t51)]) (fun o03 ho03=>?_) ?_
    · have H:=iS bL;refine zJ<|yB 3 [] [46] rfl<|xV [46] ho03 ?_ ?_
      · intro bO N;exact wG [] [(51,vY)]<|yL<|zU (ct N H)
      intro bO N;exact yH [] [51] rfl<|yL<|zU (ct N H)
    intro t51 bR bz hMc3;have ⟨h7,h8,h9,h2,h3,h4⟩:=m6 bz h7 h8 h9 h2 h3 h4;refine zG<|yC hMc3 ?_ ?_
    · intro hc5 N;refine yE<|yB 1 [] [52] rfl<|zB5 2 zExpr [hB b3 (cExpr y4 p3 c3 p4 c4 p5 c5),hB b1 (cExpr y1 p c p1 c1 p2 c2),hB b zExpr] rfl rfl rfl rfl<|yH [] [7] rfl<|xD<|zH ?_;obtain rfl:=zC N;exact yZ ⟨_,_,(.cell 2 rfl rfl (by kernel_rfl) (.tmp rfl ResV.nil)),zQ,⟨_,_,rfl,rfl,⟨_,rfl,(wC ⟨_,_,_,rfl,(SL.nil _),(SL.nil _),(SL.nil _)⟩)⟩,rfl⟩⟩
    intro hc5 N;refine zS<|yX<|rQ 3 [1,0] [(53,vI kind),(54,vA (cExpr y1 p c p1 c1 p2 c2)),(55,vA (cExpr y4 p3 c3 p4 c4 p5 c5))]<|uK [vI y1.Kind,vI y1.Num,vS p y1.Index.Coefs c,vI y1.Index.Const,vT y1.Read.Array.l,vS p1 y1.Read.Subs c1,vS p2 y1.Kids c2,vI y4.Kind,vI y4.Num,vS p3 y4.Index.Coefs c3,vI y4.Index.Const,vT y4.Read.Array.l,vS p4 y4.Read.Subs c4,vS p5 y4.Kids c5] zI ?_;intro b4 hb3;have h10:RL bR [vI y1.Kind,vI y1.Num,vS p y1.Index.Coefs c,vI y1.Index.Const,vT y1.Read.Array.l,vS p1 y1.Read.Subs c1,vS p2 y1.Kids c2,vI y4.Kind,vI y4.Num,vS p3 y4.Index.Coefs c3,vI y4.Index.Const,vT y4.Read.Array.l,vS p4 y4.Read.Subs c4,vS p5 y4.Kids c5] ([y1,y4]:List zI):=⟨(cExpr y1 p c p1 c1 p2 c2),_,rfl,rfl,(wC ⟨_,_,_,rfl,h2,h3,h4⟩),⟨(cExpr y4 p3 c3 p4 c4 p5 c5),_,rfl,rfl,(wC ⟨_,_,_,rfl,h7,h8,h9⟩),rfl⟩⟩;refine yB 7 [] [57,59] rfl<|xJ 3 [vI kind,vI 0,z0,vI 0,vT ([]),z0,vS (some ⟨b4,0,none⟩) ([y1,y4]:List zI) 2] rfl<|yH [] [7] rfl<|xD<|yU 0 rfl ?_;intro I06 bC hl0;have h11:=SL.of_frozen hl0 bC h10;obtain rfl:=zC N;exact yZ ⟨_,_,(.cell 2 rfl rfl (by kernel_rfl) (.tmp rfl ResV.nil)),zQ,⟨_,_,rfl,rfl,⟨_,rfl,(wC ⟨_,_,_,rfl,(SL.nil _),(SL.nil _),h11⟩)⟩,rfl⟩⟩
  intro F_spec_l3Round ih_spec_l3Round s at0 aj r N I;refine yJ func240 fun B=>?_;have H:=iS I;refine yE<|wS zExpr ?_;intro b hb;refine wG [] []<|zX<|zZ ?_;refine wO N [hB b zExpr] (fun t26=>[(0,vT s.l),(1,vI at0),(2,vI aj),(6,vP b 0),(26,.bool t26)]) (fun o0 aD=>?_) ?_
  · have H:=iS I;refine zJ<|yB 3 [] [17] rfl<|xV [17] aD ?_ ?_
    · intro hc N;exact wG [] [(26,vY)]<|yL<|zU (ct N H)
    intro hc N;refine yB 7 [] [21] rfl<|xV [21] N ?_ ?_
    · intro aI N;exact wG [] [(26,vY)]<|yL<|zU (ct N H)
    intro aI N;exact yH [] [26] rfl<|yL<|zU (ct N H)
  intro t26 I0 le aU;have H:=H.trans le;refine zG<|yC aU ?_ ?_
  · intro aX N;refine yE<|yB 1 [] [27] rfl<|zB5 0 zExpr [hB b zExpr] rfl rfl rfl rfl<|yH [] [7] rfl<|xD<|zH ?_;obtain rfl:=zC N;exact yZ ⟨_,_,(.cell 0 rfl rfl (by kernel_rfl) (.tmp rfl ResV.nil)),zQ,⟨_,_,rfl,rfl,⟨_,rfl,(wC ⟨_,_,_,rfl,(SL.nil _),(SL.nil _),(SL.nil _)⟩)⟩,rfl⟩⟩
  intro aX N;refine zS<|zX<|yG<|yE<|yB 2 [] [29,30] rfl<|bE N fun b1 hy N=>zBE rfl rfl hy<|yH [] [28] rfl<|zG<|yC N ?_ ?_
  · intro bK N;refine yE<|yB 2 [] [33,34] rfl<|bE N fun y aB N=>fK (zCd s at0 (125:UInt8) _ aB ) fun aW af=>wG [] [(8,vI y)]<|zX<|wP [(37,.bool (decide (y<0)))]<|zG<|yC N ?_ ?_
    · intro bO N;refine yE<|yB 1 [] [38] rfl<|zB5 0 zExpr [hB b zExpr] rfl rfl rfl rfl<|yH [] [7] rfl<|xD<|zH<|zV<|zH ?_;obtain rfl:=zC N;exact yZ ⟨_,_,(.cell 0 rfl rfl (by kernel_rfl) (.tmp rfl ResV.nil)),zQ,⟨_,_,rfl,rfl,⟨_,rfl,(wC ⟨_,_,_,rfl,(SL.nil _),(SL.nil _),(SL.nil _)⟩)⟩,rfl⟩⟩
    intro bO N;refine zS<|yX<|yB 4 [] [40,42,43] rfl<|bE N fun s1 aN N=>zI8 rfl aN ?_;obtain ⟨⟨y2,y3⟩,bm,N⟩:=zB N;refine xL (zAe s1 _ bm ) ?_;rintro ba ay v2 k2 aF - ⟨v01,v02,rfl,rfl,⟨cs,rfl,h1⟩,rfl⟩ -;obtain ⟨p,c,rfl,h3⟩:=yQ h1;refine yB 9 [] [46,47] rfl<|wS [z0,vI 0] ?_;intro b2 hb1;refine xJ 0 (cAff y2 p c) rfl<|wG [] []<|yX<|rQ 4 [0] [(49,vA [vI 2,vI 0,vS p y2.Coefs c,vI y2.Const,vT ([]),z0,z0]),(51,vI (W (y+1)))]<|xJ 1 [vI 2,vI 0,vS p y2.Coefs c,vI y2.Const,vT ([]),z0,z0] rfl<|yH [] [7] rfl<|xD<|zV<|zH ?_;obtain rfl:=zC N;exact yZ ⟨_,_,(.cell 1 rfl rfl (by kernel_rfl) (.tmp rfl ResV.nil)),zQ,⟨_,_,rfl,rfl,⟨_,rfl,(wC ⟨_,_,_,rfl,h3,(SL.nil _),(SL.nil _)⟩)⟩,rfl⟩⟩
  intro bK N;refine zZ ?_;refine wO N [hB b zExpr] (fun t52=>[(0,vT s.l),(1,vI at0),(2,vI aj),(6,vP b 0),(52,.bool t52)]) (fun aP aA=>?_) ?_
  · have H:=iS I0;refine zJ<|yB 2 [] [53,54] rfl ?_;obtain ⟨b3,bw,N⟩:=zB aA;refine zBE rfl rfl bw<|yB 5 [] [57] rfl<|xV [57] N ?_ ?_
    · intro hc5 N;exact yB 7 [] [58,59] rfl<|bE N fun b4 bI N=>zBE rfl rfl bI<|yH [] [52] rfl<|yL<|zU (ct N H)
    intro hc5 N;exact wG [] [(52,vF)]<|yL<|zU (ct N H)
  intro t52 bH aK hMc1;refine zG<|yC hMc1 ?_ ?_
  · intro hc6 N;refine yE<|yB 2 [] [64,65] rfl ?_;obtain ⟨⟨y5,y6⟩,hy6,N⟩:=zB N;refine xL (zAF s at0 _ hy6 ) ?_;rintro bL ay v2 k2 bk - ⟨v04,v05,rfl,rfl,⟨az,rfl,h4⟩,rfl⟩ -;obtain ⟨p1,c1,rfl,h6⟩:=nY h4;refine yB 6 [] [67,68] rfl<|wS [vT ([]),z0] ?_;intro b5 hb2;refine xJ 0 (cAccess y5 p1 c1) rfl<|yH [] [12] rfl<|yX<|rQ 3 [0] [(70,vA [vI 3,vI 0,z0,vI 0,vT y5.Array.l,vS p1 y5.Subs c1,z0]),(71,vI y6)]<|xJ 1 [vI 3,vI 0,z0,vI 0,vT y5.Array.l,vS p1 y5.Subs c1,z0] rfl<|yH [] [7] rfl<|xD<|zV<|zH ?_;obtain rfl:=zC N;exact yZ ⟨_,_,(.cell 1 rfl rfl (by kernel_rfl) (.tmp rfl ResV.nil)),zQ,⟨_,_,rfl,rfl,⟨_,rfl,(wC ⟨_,_,_,rfl,(SL.nil _),h6,(SL.nil _)⟩)⟩,rfl⟩⟩
  intro hc6 N;refine yE<|yB 2 [] [73,74] rfl<|bE N fun b6 hy7 N=>zBE rfl rfl hy7<|yH [] [72] rfl<|zG<|yC N ?_ ?_
  · intro hc7 N;refine yE<|yB 5 [] [77,79,81] rfl ?_;obtain ⟨⟨y8,y9⟩,hy8,N⟩:=zB N;refine xL (ih_spec_l3Round s (W (at0+1)) (W (aj - 1)) _ hy8 ) ?_;rintro bR ay v2 k2 bz - ⟨v07,v08,rfl,rfl,⟨aS,rfl,h7⟩,rfl⟩ -;obtain ⟨p2,c2,p3,c3,p4,c4,rfl,h9,h10,h11⟩:=tS h7;refine yB 8 [] [83,84] rfl<|xJ 0 (cExpr y8 p2 c2 p3 c3 p4 c4) rfl<|yH [] [7] rfl<|xD<|zV<|zH ?_;obtain rfl:=zC N;exact yZ ⟨_,_,(.cell 0 rfl rfl (by kernel_rfl) (.tmp rfl ResV.nil)),zQ,⟨_,_,rfl,rfl,⟨_,rfl,(wC ⟨_,_,_,rfl,h9,h10,h11⟩)⟩,rfl⟩⟩
  intro hc7 N;refine zS<|zM<|yX<|yB 2 [] [86,87] rfl ?_;obtain ⟨⟨y11,y12⟩,hy9,N⟩:=zB N;refine xL (zBp s at0 _ hy9 ) ?_;rintro I06 ay v2 k2 bC - ⟨v012,v013,rfl,rfl,rfl,rfl⟩ -;refine yH [] [13,14] rfl<|zX<|yF [93] rfl<|zG<|yC N ?_ ?_
  · intro hc8 N;refine yE<|yB 1 [] [94] rfl<|zB5 0 zExpr [hB b zExpr] rfl rfl rfl rfl<|yH [] [7] rfl<|xD<|zH ?_;obtain rfl:=zC N;exact yZ ⟨_,_,(.cell 0 rfl rfl (by kernel_rfl) (.tmp rfl ResV.nil)),zQ,⟨_,_,rfl,rfl,⟨_,rfl,(wC ⟨_,_,_,rfl,(SL.nil _),(SL.nil _),(SL.nil _)⟩)⟩,rfl⟩⟩
  intro hc8 N;refine zS<|yX<|yB 3 [] [96,97] rfl<|xJ 0 [vI 1,vI y11,z0,vI 0,vT ([]),z0,z0] rfl<|yH [] [7] rfl<|zG<|yW ?_;obtain rfl:=zC N;exact yZ ⟨_,_,(.cell 0 rfl rfl (by kernel_rfl) (.tmp rfl ResV.nil)),zQ,⟨_,_,rfl,rfl,⟨_,rfl,(wC ⟨_,_,_,rfl,(SL.nil _),(SL.nil _),(SL.nil _)⟩)⟩,rfl⟩⟩
theorem zGu:∀ s at0 aj r,pU s at0 aj=some r->∀ {I:Imm} ,RT 240 [vT s.l,vI at0,vI aj] I [] (dW  r):=zGK.2
def tI (a0:zA) (n0:Int) (i:Int):Option (Int):=do
 if (decide (i<(a0.Coefs.length:Int))) then
  let x<-idx a0.Coefs i
  let n02<-(do
    if (x != 0) then
     pure (W (i+1))
    else
     pure (id n0)
      : Option Int)
  tI a0 n02 (W (i+1))
 else
  pure (id n0)
 partial_fixpoint
theorem zEV (a0:zA):∀ (n0:Int) (i:Int) (o:Int),tI a0 n0 i=some o->∀ {B}{I0 I:Imm}{Q p c}{b:Nat},I0.le I->(S4 I p a0.Coefs c)->NG Q->NO Q->(∀ (I':Imm) (n01:Int),o=n01->I0.le I'->T 21 B Q (.exit 0) I' [] [(3,vI n01)])->J Tryz.prog 21 B (nav (bodyOf f226) [1,1,0,1,0]) Q I [hB b (cAff a0 p c)] [(1,vP b 0),(3,vI n0),(4,vI i)]:=by
 refine tI.partial_correctness a0 _ fun aJ ih n0 i o N B I0 I Q p c b H h hg ho hx=>yM hg ho<|zZ<|yE<|yH [0] [9] rfl<|zG<|yC N ?_ ?_
 · intro hc N;refine zS<|zX<|yG<|yE<|yB 3 [0] [13,14] rfl<|bE N fun x hy N=>xK rfl rfl h hy ?_;intro ad aQ ar ap;obtain rfl:=ap;refine xB 0 ar [vI x] (vI x) rfl<|yH [] [17] rfl<|zG ?_;refine wO N [hB b (cAff a0 p c)] (fun n02=>[(1,vP b 0),(3,vI n02),(4,vI i)]) (fun o0 aD=>?_) ?_
   · have H:=iS I;refine yC aD ?_ ?_
     · intro aI N;exact zJ<|yH [] [3] rfl<|yL<|zU (ct N H)
     intro aI N;exact zS<|yL<|zU (ct N H)
   intro n02 I0 le aU;have ⟨h,H⟩:=m2 le h H;exact zM<|zG<|zJ<|yH [] [4] rfl<|yK<|oY<|ih n02 (W (i+1)) _ aU H h hg ho hx
 intro hc N;exact wJ<|xQ zQ<|yL<|hx _ _ (zC N).symm H
def pV (a0:zA):Option (Int):=do
 let n01<-tI a0 0 0
 pure (id n01)
theorem zA2:∀ a0 r,pV a0=some r->∀ {I:Imm}{p c},(S4 I p a0.Coefs c)->RT 226 [vA (cAff a0 p c)] I [] (yS  r):=by
 intro a0 r N I p c h;unfold pV at N;refine yJ func226 fun B=>yE<|tO (cAff a0 p c) ?_;intro b hb;refine wG [] []<|wM [3] rfl<|zX<|yF [4] rfl<|xX<|rU [(1,vP b 0),(3,vI 0),(4,vI 0)] ?_;obtain ⟨aP,aA,aM⟩:=zB N;refine zEV a0 0 0 aP aA iR h (fun _ _ _ h=>h) (fun _ _ h=>h) ?_;intro aW n01 heq1 af;subst aP;refine zR<|wM [2] rfl<|zG<|yW ?_;obtain rfl:=zC aM;exact wI
def uM (a0:zL) (aa:Int) (i:Int):Option (Out Unit (Bool)):=do
 if (decide (i<(a0.Subs.length:Int))) then
  let t29<-(do
    let x<-idx a0.Subs i
    let y<-uL x
    if (!y) then
     pure true
    else
     let x1<-idx a0.Subs i
     let y1<-pV x1
     pure (decide (y1>aa))
      : Option Bool)
  if t29 then
   pure (.ret false)
  else
   uM a0 aa (W (i+1))
 else
  pure (.done ())
 partial_fixpoint
theorem zDm (a0:zL) (aa:Int):∀ (i:Int) (o:Out Unit (Bool)),uM a0 aa i=some o->∀ {B}{I0 I:Imm}{Q p c}{b:Nat},I0.le I->(S4 I p a0.Subs c)->NG Q->NO Q->(∀ (I':Imm) ,o=(.done ())->I0.le I'->T 56 B Q (.exit 0) I' [hB b (cAccess a0 p c)] [(2,vP b 0)])->(∀ r I' ah m',o=(.ret r)->I0.le I'->RS Tryz.prog f186 B (zT  r) I' ah m'->T 56 B Q .ret I' ah m')->J Tryz.prog 56 B (nav (bodyOf f186) [1,0,1,0]) Q I [hB b (cAccess a0 p c)] [(1,vI aa),(2,vP b 0),(5,vI i)]:=by
 refine uM.partial_correctness a0 aa _ fun aJ ih i o N B I0 I Q p c b H h hg ho hx hr=>yM hg ho<|zZ<|yE<|yH [0] [10] rfl<|zG<|yC N ?_ ?_
 · intro hc N;refine zS<|zX<|yG<|zZ ?_;refine wO N [hB b (cAccess a0 p c)] (fun t29=>[(1,vI aa),(2,vP b 0),(5,vI i),(29,.bool t29)]) (fun o0 aD=>?_) ?_
   · have H:=iS I;refine zJ<|yB 3 [0] [14,15] rfl ?_;obtain ⟨x,hy,N⟩:=zB aD;refine xK rfl rfl h hy ?_;intro ad aQ ar ap;obtain ⟨p1,c1,rfl,h1⟩:=yQ ap;refine xB 0 ar (cAff x p1 c1) (vA (cAff x p1 c1)) rfl<|bE N fun y aB N=>vQ (jP x _ aB h1) ?_;intro aW le;have ⟨h,H⟩:=m2 le h H;refine yB 8 [] [20] rfl<|xV [20] N ?_ ?_
     · intro aI N;exact wG [] [(29,vY)]<|yL<|zU (ct N H)
     intro aI N;refine yB 11 [0] [22,23] rfl<|bE N fun x1 aN N=>xK rfl rfl h aN ?_;intro ad1 bv av ax;obtain ⟨p2,c2,rfl,h3⟩:=yQ ax;refine xB 0 av (cAff x1 p2 c2) (vA (cAff x1 p2 c2)) rfl<|bE N fun y1 bm N=>fK (zA2 x1 _ bm h3) ?_;intro ba af;have H:=H.trans af;exact yH [] [29] rfl<|yL<|zU (ct N H)
   intro t29 I0 aF aU;have ⟨h,H⟩:=m2 aF h H;refine zG<|yC aU ?_ ?_
   · intro aX N;exact wP [(4,vF)]<|xD<|zV<|zH<|zH<|hr _ _ _ _ (zC N).symm H ⟨_,_,(.tmp rfl ResV.nil),zQ,⟨_,rfl,rfl,rfl⟩⟩
   intro aX N;exact zS<|zM<|zG<|zJ<|yH [] [5] rfl<|yK<|oY<|ih (W (i+1)) _ N H h hg ho hx hr
 intro hc N;exact wJ<|yL<|hx _  (zC N).symm H
def oK (a0:zL) (aa:Int):Option (Bool):=do
 match<-uM a0 aa 0 with
 | .ret r0=>pure r0
 | .done _ =>
  let t4<-(do
    if ((a0.Array.l.length:Int)==1) then
     if (!(Op.bytesLess a0.Array.l ([65]:List UInt8))) then
      if (Op.bytesLess a0.Array.l ([68]:List UInt8)||a0.Array.l==([68]:List UInt8)) then
       if (decide ((a0.Subs.length:Int)>=1)) then
        pure (decide ((a0.Subs.length:Int)<=2))
       else
        pure false
      else
       pure false
     else
      pure false
    else
     pure false
      : Option Bool)
  pure (id t4)
theorem zBr:∀ a0 aa r,oK a0 aa=some r->∀ {I:Imm}{p c},(S4 I p a0.Subs c)->RT 186 [vA (cAccess a0 p c),vI aa] I [] (zT  r):=by
 intro a0 aa r N I p c h;unfold oK at N;refine yJ func186 fun B=>?_;have H:=iS I;refine yE<|tO (cAccess a0 p c) ?_;intro b hb;refine wG [] []<|zX<|yF [5] rfl<|xX<|rU [(1,vI aa),(2,vP b 0),(5,vI 0)] ?_;obtain ⟨aP,aA,aM⟩:=zB N;refine zDm a0 aa 0 aP aA iR h (fun _ _ _ h=>h) (fun _ _ h=>h) ?_ ?_
 · intro bH  heq1 aK;subst aP;have H:=H.trans aK;refine zR<|zG<|zZ ?_;refine wO aM [] (fun t4=>[(4,.bool t4)]) (fun o02 ho02=>?_) ?_
   · have H:=iS bH;refine zJ<|yB 5 [0] [34] rfl<|xV [34] ho02 ?_ ?_
     · intro bK N;refine yB 10 [0] [39] rfl<|xV [39] N ?_ ?_
       · intro bO N;refine yB 15 [0] [44] rfl<|xV [44] N ?_ ?_
         · intro hc5 N;refine yB 21 [0] [50] rfl<|xV [50] N ?_ ?_
           · intro hc6 N;exact yH [0] [4] rfl<|xQ zQ<|yL<|zU (ct N H)
           intro hc6 N;exact wG [] [(4,vF)]<|xQ zQ<|yL<|zU (ct N H)
         intro hc5 N;exact wG [] [(4,vF)]<|xQ zQ<|yL<|zU (ct N H)
       intro bO N;exact wG [] [(4,vF)]<|xQ zQ<|yL<|zU (ct N H)
     intro bK N;exact wG [] [(4,vF)]<|xQ zQ<|yL<|zU (ct N H)
   intro t4 bL bk hMc1;refine zG<|yW ?_;obtain rfl:=zC hMc1;exact wI
 intro r0 I9 hs9 m9 aZ le9 bb;subst aZ;refine zV<|zH ?_;obtain rfl:=zC aM;exact yZ bb
end Go.LN
