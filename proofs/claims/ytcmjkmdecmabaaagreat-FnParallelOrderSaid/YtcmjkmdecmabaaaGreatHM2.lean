/- Helper of the proof (see the last text). -/
import Derived.Test.YtcmjkmdecmabaaaGreatHM1
set_option linter.unusedVariables false
set_option linter.unusedSimpArgs false
namespace Go.LN
open Go.Proofs Go.Proofs.Tryz
set_option maxRecDepth 20000
def dQ (b0:Nat) (r:zD×zM):KT:=fun kk I' ah v=>
  ∃ v0 k0,ah=[.blk b0 ⟨k0⟩]/\v=tupV [v0]/\(∃ cs,v0=.agg ⟨cs⟩/\Rp.rep I' cs r.1)/\Rp.rep I' k0 r.2
def oJ (r0:zM) (p1:zD):Option (zD×zM):=do
 let y<-pP p1
 let (y2,y3)<-xC r0 60
 let (Arrays,Parts,x)<-(do
   if (y2==0) then
    let (y5,y6)<-oI y3 ([(⟨[65]⟩:Str),(⟨[68]⟩:Str),(⟨[69]⟩:Str)]:List Str)
    let (y8,y9)<-yT y6 ([7,0,3,(-1)]:List Int)
    let l<-app 40 y.Arrays ([(zF.mk y5 ([y8]:List Int))]:List zF)
    pure (l,y.Parts,y9)
   else
    let (aC,bm,x1)<-(do
      if (y2==1) then
       let (Arrays2,x2)<-(do
         if (decide ((y.Arrays.length:Int)>0)) then
          let (y11,y12)<-yT y3 ([1,2,7]:List Int)
          let x3<-idx y.Arrays 0
          let l1<-pure (y.Arrays.set (0:Int).toNat (zF.mk x3.Name ([y11]:List Int)))
          pure (l1,y12)
         else
          pure (y.Arrays,y3)
           : Option (List zF×zM))
       pure (Arrays2,y.Parts,x2)
      else
       let (Parts2,x4)<-(do
         if (y2==2) then
          let (Parts3,x5)<-(do
            if (decide ((y.Parts.length:Int)>0)) then
             let x6<-idx y.Parts 0
             let (y14,y15)<-mK y3 x6.Nest
             let (y17,y18)<-mK y15 y14
             let (y20,y21)<-mK y18 y17
             let x7<-idx y.Parts 0
             let l2<-pure (y.Parts.set (0:Int).toNat (zO.mk y20 x7.Body))
             pure (l2,y21)
            else
             pure (y.Parts,y3)
              : Option (List zO×zM))
          pure (Parts3,x5)
         else
          let (Parts4,x8)<-(do
            if (y2==3) then
             let t76<-(do
               if (decide ((y.Parts.length:Int)>0)) then
                let x9<-idx y.Parts (W ((y.Parts.length:Int) - 1))
                pure (decide ((x9.Body.length:Int)>0))
               else
                pure false
                 : Option Bool)
             let (Parts5,x10)<-(do
               if t76 then
                let x11<-idx y.Parts (W ((y.Parts.length:Int) - 1))
                let x12<-idx x11.Body 0
                let (y22,y23)<-rF y3 x12
                let (y24,y25)<-rF y23 y22
                let (y26,y27)<-rF y25 y24
                let l3<-pure ((y.Parts).set (W ((y.Parts.length:Int) - 1)).toNat (zO.mk x11.Nest (x11.Body.set 0 y26)))
                pure (l3,y27)
               else
                pure (y.Parts,y3)
                 : Option (List zO×zM))
             pure (Parts5,x10)
            else
             let Parts6<-(do
               if (y2==4) then
                let Parts7<-(do
                  if (decide ((y.Parts.length:Int)>0)) then
                   let x13<-idx y.Parts (W ((y.Parts.length:Int) - 1))
                   let l4<-pure (y.Parts.set (W ((y.Parts.length:Int) - 1)).toNat (zO.mk x13.Nest ([]:List zP)))
                   pure (id l4)
                  else
                   pure y.Parts
                    : Option (List zO))
                pure (id Parts7)
               else
                pure y.Parts
                 : Option (List zO))
             pure (Parts6,y3)
              : Option (List zO×zM))
          pure (Parts4,x8)
           : Option (List zO×zM))
       pure (y.Arrays,Parts2,x4)
        : Option (List zF×List zO×zM))
    pure (aC,bm,x1)
     : Option (List zF×List zO×zM))
 pure ((zD.mk Arrays Parts),x)
theorem zFH:∀ (r0:zM) (p1:zD) r,oJ r0 p1=some r->∀ {I:Imm}{aw:Nat}{p c p2 c1 p3 c2},(S4 I p r0.b c)->(S4 I p2 p1.Arrays c1)->(S4 I p3 p1.Parts c2)->(∀ (y:zD) (y2:Int) (y3:zM) (x:zO) (s:zP),pP p1=some y->xC r0 60=some (y2,y3)->(y2==3)=true->idx y.Parts (W ((y.Parts.length:Int) - 1))=some x->idx x.Body 0=some s->False)->RT 90 [vP aw 0,vA (cProg p1 p2 c1 p3 c2)] I [hB aw (cRd r0 p c)] (dQ aw r):=by
 intro r0 p1 r N I aw p c p2 c1 p3 c2 h h1 h2 hne;unfold oJ at N;refine yK func90 fun B=>?_;have H:=iS I;refine yF<|tT (cProg p1 p2 c1 p3 c2) ?_;intro b hb;refine wS zTwo ?_;intro b1 hb1;refine yD rfl<|yV<|rH 1 [1] [(7,vA (cProg p1 p2 c1 p3 c2))]<|bE N fun y hy N=>xM (zHk p1 _ hy h1 h2) ?_;rintro I0 ay v2 k2 le - ⟨p4,c3,cs,p5,c4,az,rfl,rfl,h3,h4⟩ -;have ⟨h,H⟩:=m2 le h H;refine wS zTwo ?_;intro b2 hb2;refine xJ 0 (cProg y p4 c3 p5 c4) rfl<|yD rfl<|yV<|yI [0] [6] rfl<|zZ<|yF<|yC 1 [] [12] rfl<|sE (zY [5,0,1,2,3,4] (ah:=[hB aw (cRd r0 p c),hB b2 (cProg y p4 c3 p5 c4),hO zF (vS p4 y.Arrays c3) cs,hO zO (vS p5 y.Parts c4) az,hB b1 zTwo,hB b (cProg p1 p2 c1 p3 c2)])) ?_;obtain ⟨⟨y2,y3⟩,aA,N⟩:=zB N;refine tY (xS r0 60 _ aA h) rfl ?_;rintro aW ay v2 k2 ae - ⟨v0,kk,rfl,rfl,rfl,h6⟩ -;have ⟨h3,h4,H⟩:=m3 ae h3 h4 H;obtain ⟨p6,c5,rfl,h7⟩:=yA h6;refine yD rfl<|xY<|yG [14] rfl<|zH<|qK 5 rfl ?_;intro aX aF hl0;have aq:At aX ⟨b,0,none⟩ (cProg p1 p2 c1 p3 c2):=At.of_blk hl0;have ⟨h7,h3,h4,H⟩:=m4 aF h7 h3 h4 H;obtain ⟨o0,aD,aV⟩:=zB N;refine qV (fun I' ah m'=>∃ (Arrays:List zF) (Parts:List zO) (x:zM) (p7:Option Addr) (c6:Nat) (aR:List Value) (p8:Option Addr) (c7:Nat) (aS:List Value) (p9:Option Addr) (c8:Nat),o0=(Arrays,Parts,x)/\aX.le I'/\(RL I' aR Arrays)/\(RL I' aS Parts)/\(S4 I' p9 x.b c8)/\ah=[hB aw (cRd x p9 c8),hB b2 [vS p7 Arrays c6,vS p8 Parts c7],hO zF (vS p7 Arrays c6) aR,hO zO (vS p8 Parts c7) aS,hB b1 zTwo]/\m'=[(4,vP b1 0),(5,vP b2 0)]) ?_ ?_
 · have H:=iS aX;refine yE aD ?_ ?_
   · intro hc N;obtain ⟨⟨y5,y6⟩,aK,N⟩:=zB N;obtain ⟨⟨y8,y9⟩,bi,N⟩:=zB N;obtain ⟨l,bu,N⟩:=zB N;refine wT [.p (vP b2 0) [],.p (vS p4 y.Arrays c3) [0],.p (vP aw 0) [],.x (fun I' v hx=>∃ b3,v=vS (some ⟨b3,0,none⟩) ([(⟨[65]⟩:Str),(⟨[68]⟩:Str),(⟨[69]⟩:Str)]:List Str) 3/\hx=[]/\(SL I' (vS (some ⟨b3,0,none⟩) ([(⟨[65]⟩:Str),(⟨[68]⟩:Str),(⟨[69]⟩:Str)]:List Str) 3) ([(⟨[65]⟩:Str),(⟨[68]⟩:Str),(⟨[69]⟩:Str)]:List Str))),.x (fun I' v hx=>∃ bc c9,v=vT y5.l/\hx=[hB aw (cRd y6 bc c9)]/\(S4 I' bc y6.b c9)),.p (vP aw 0) [],.x (fun I' v hx=>∃ b4,v=vS (some ⟨b4,0,none⟩) ([7,0,3,(-1)]:List Int) 4/\hx=[]/\(SL I' (vS (some ⟨b4,0,none⟩) ([7,0,3,(-1)]:List Int) 4) ([7,0,3,(-1)]:List Int))),.x (fun I' v hx=>∃ aT bj,v=vI y8/\hx=[hB aw (cRd y9 aT bj)]/\(S4 I' aT y9.b bj)),.x (fun I' v hx=>∃ b5,v=vS (some ⟨b5,0,none⟩) ([y8]:List Int) 1/\hx=[]/\(SL I' (vS (some ⟨b5,0,none⟩) ([y8]:List Int) 1) ([y8]:List Int))),.x (fun I' v hx=>∃ b51,v=vA [vT y5.l,vS (some ⟨b51,0,none⟩) ([y8]:List Int) 1]/\hx=[]/\(SL I' (vS (some ⟨b51,0,none⟩) ([y8]:List Int) 1) ([y8]:List Int))),.x (fun I' v hx=>∃ b6,v=vS (some ⟨b6,0,none⟩) ([(zF.mk y5 ([y8]:List Int))]:List zF) 1/\hx=[]/\(SL I' (vS (some ⟨b6,0,none⟩) ([(zF.mk y5 ([y8]:List Int))]:List zF) 1) ([(zF.mk y5 ([y8]:List Int))]:List zF))),.x (fun I' v hx=>∃ bD bf bB,v=vS bD l bf/\hx=[hO zF (vS bD l bf) bB]/\(RL I' bB l))] [[],[(0,false)],[],[],[(2,false),(3,false),(14,true)],[],[],[(5,false),(6,false),(4,true)],[(7,false)],[(4,false),(8,false)],[(9,false)],[(1,false),(10,false),(15,true)]] [hB b2 (cProg y p4 c3 p5 c4),hO zO (vS p5 y.Parts c4) az,hB b1 zTwo] [[hB aw (cRd y3 p6 c5)],[hO zF (vS p4 y.Arrays c3) cs]] [(7,true),(11,true)] (zY [1,3,4,0,2]) ?_ ?_
     · refine Op<|Op<|Op<|Ox ?_<|Ox ?_<|Op<|Ox ?_<|Ox ?_<|Ox ?_<|Ox ?_<|Ox ?_<|Ox ?_<|On
       · intro I1 hf ae;refine I_h [] ?_;have H:=iS I1;refine mG (rT [(⟨[65]⟩:Str),(⟨[68]⟩:Str),(⟨[69]⟩:Str)]) ?_;intro b3 bL aJ h12;have H:=H.trans aJ;exact yL [] H ⟨_,rfl,rfl,h12⟩
       · rintro I1 hf ae _ _ ⟨rfl,rfl⟩ _ _ ⟨b3,rfl,rfl,h12⟩ _ _ rfl;refine yW [18,19] rfl ?_;have H:=iS I1;have h7:=h7.mono ae;refine tY (eK y3 ([(⟨[65]⟩:Str),(⟨[68]⟩:Str),(⟨[69]⟩:Str)]:List Str) _ aK h7 h12) rfl ?_;rintro bR ay v2 k2 bd - ⟨v02,kk1,rfl,rfl,rfl,h14⟩ -;have H:=H.trans bd;obtain ⟨bc,c9,rfl,h15⟩:=yA h14;exact yL [hB aw (cRd y6 bc c9)] H ⟨_,_,rfl,rfl,h15⟩
       · intro I1 hf ae;refine I_h [] ?_;have H:=iS I1;refine mG (rI [7,0,3,(-1)]) ?_;intro b4 I06 bw h17;have H:=H.trans bw;exact yL [] H ⟨_,rfl,rfl,h17⟩
       · rintro I1 hf ae _ _ ⟨rfl,rfl⟩ _ _ ⟨b4,rfl,rfl,h17⟩ _ _ ⟨bc,c9,rfl,rfl,h15⟩;refine yW [21,22] rfl ?_;have H:=iS I1;refine tY (yZ y6 ([7,0,3,(-1)]:List Int) _ bi h15 h17) rfl ?_;rintro I07 ay v2 k2 bC - ⟨v04,kk2,rfl,rfl,rfl,h19⟩ -;have H:=H.trans bC;obtain ⟨aT,bj,rfl,h20⟩:=yA h19;exact yL [hB aw (cRd y9 aT bj)] H ⟨_,_,rfl,rfl,h20⟩
       · rintro I1 hf ae _ _ ⟨aT,bj,rfl,rfl,h20⟩;refine yW [23] rfl ?_;have H:=iS I1;refine mG (rI [y8]) ?_;intro b5 I08 le7 h22;have H:=H.trans le7;exact yL [] H ⟨_,rfl,rfl,h22⟩
       · rintro I1 hf ae _ _ ⟨bc,c9,rfl,rfl,h15⟩ _ _ ⟨b5,rfl,rfl,h22⟩;exact yW [20,24] rfl<|mF 10 [(25,vA [vT y5.l,vS (some ⟨b5,0,none⟩) ([y8]:List Int) 1])]<|yL [] iR ⟨_,rfl,rfl,h22⟩
       · rintro I1 hf ae _ _ ⟨b51,rfl,rfl,h221⟩;refine yW [25] rfl ?_;have H:=iS I1;refine mG (rc (zF.mk y5 ([y8]:List Int)) (qU ⟨_,rfl,h221⟩) rN) ?_;intro b6 I09 le8 h24;have H:=H.trans le8;exact yL [] H ⟨_,rfl,rfl,h24⟩
       rintro I1 hf ae _ _ ⟨rfl,rfl⟩ _ _ ⟨b6,rfl,rfl,h24⟩ _ _ rfl;refine yW [17,26] rfl ?_;have h3:=iM ae h3;obtain ⟨aP,k0,k01⟩:=h24;have h24:SL I1 (vS (some ⟨b6,0,none⟩) ([(zF.mk y5 ([y8]:List Int))]:List zF) 1) ([(zF.mk y5 ([y8]:List Int))]:List zF):=⟨_,k0,k01⟩;exact sO 107 2 0 rfl rfl rfl h3 (.inl k0) k01 bu fun bD bf bB h25=>wK (ah:=(hO zF (vS bD l bf) bB::hB b2 (cProg y p4 c3 p5 c4)::hO zO (vS p5 y.Parts c4) az::hB b1 zTwo::hf)) rfl<|yL [hO zF (vS bD l bf) bB] iR ⟨_,_,_,rfl,rfl,h25⟩
     rintro bS le9 _ _ ⟨aT,bj,rfl,rfl,h20⟩ _ _ ⟨bD,bf,bB,rfl,rfl,h25⟩;refine yW [4,5,27] rfl ?_;have ⟨h4,H⟩:=m2 le9 h4 H;exact yC 13 [] [28] rfl<|xJ 2 [vS bD l bf,vS p5 y.Parts c4] rfl<|yD rfl<|xR (zX [1,2,0,3,4] rfl (by decide))<|yN<|zV ⟨_,_,_,_,_,_,_,_,_,_,_,(zC N).symm,H,h25,h4,h20,rfl,rfl⟩
   intro hc N;refine yG [29] rfl<|zH ?_;obtain ⟨aQ,aB,hMc1⟩:=zB N;refine qV (fun I' ah m'=>∃ (aC:List zF) (bm:List zO) (x1:zM) (bt:Option Addr) (br:Nat) (bI:List Value) (p14:Option Addr) (bz:Nat) (cs6:List Value) (p15:Option Addr) (c14:Nat),aQ=(aC,bm,x1)/\aX.le I'/\(RL I' bI aC)/\(RL I' cs6 bm)/\(S4 I' p15 x1.b c14)/\ah=[hB aw (cRd x1 p15 c14),hB b2 [vS bt aC br,vS p14 bm bz],hO zF (vS bt aC br) bI,hO zO (vS p14 bm bz) cs6,hB b1 zTwo]/\m'=[(4,vP b1 0),(5,vP b2 0)]) ?_ ?_
   · have H:=iS aX;refine yE aB ?_ ?_
     · intro aH N;refine yF<|yI [1] [34] rfl<|zH ?_;obtain ⟨o02,ho02,hMc2⟩:=zB N;refine qV (fun I' ah m'=>∃ (Arrays2:List zF) (x2:zM) (p16:Option Addr) (c15:Nat) (cs7:List Value) (p17:Option Addr) (c16:Nat),o02=(Arrays2,x2)/\aX.le I'/\(RL I' cs7 Arrays2)/\(S4 I' p17 x2.b c16)/\ah=[hB aw (cRd x2 p17 c16),hB b2 [vS p16 Arrays2 c15,vS p5 y.Parts c4],hO zF (vS p16 Arrays2 c15) cs7,hO zO (vS p5 y.Parts c4) az,hB b1 zTwo]/\m'=[(4,vP b1 0),(5,vP b2 0)]) ?_ ?_
       · have H:=iS aX;refine yE ho02 ?_ ?_
         · intro aZ N;obtain ⟨⟨y11,y12⟩,bJ,N⟩:=zB N;refine wT [.p (vP b2 0) [],.p (vS p4 y.Arrays c3) [0],.p (vP aw 0) [],.x (fun I' v hx=>∃ b7,v=vS (some ⟨b7,0,none⟩) ([1,2,7]:List Int) 3/\hx=[]/\(SL I' (vS (some ⟨b7,0,none⟩) ([1,2,7]:List Int) 3) ([1,2,7]:List Int))),.x (fun I' v hx=>∃ p18 c17,v=vI y11/\hx=[hB aw (cRd y12 p18 c17)]/\(S4 I' p18 y12.b c17)),.x (fun I' v hx=>∃ b8,v=vS (some ⟨b8,0,none⟩) ([y11]:List Int) 1/\hx=[]/\(SL I' (vS (some ⟨b8,0,none⟩) ([y11]:List Int) 1) ([y11]:List Int)))] [[],[(0,false)],[],[],[(2,false),(3,false),(9,true)],[(4,false)]] [hB b2 (cProg y p4 c3 p5 c4),hO zF (vS p4 y.Arrays c3) cs,hO zO (vS p5 y.Parts c4) az,hB b1 zTwo] [[hB aw (cRd y3 p6 c5)]] [(1,false),(4,true),(5,false)] (zY [1,2,3,4,0]) ?_ ?_
           · refine Op<|Op<|Op<|Ox ?_<|Ox ?_<|Ox ?_<|On
             · intro I1 hf ae;refine I_h [] ?_;have H:=iS I1;refine mG (rI [1,2,7]) ?_;intro b7 I013 le10 h32;have H:=H.trans le10;exact yL [] H ⟨_,rfl,rfl,h32⟩
             · rintro I1 hf ae _ _ ⟨rfl,rfl⟩ _ _ ⟨b7,rfl,rfl,h32⟩ _ _ rfl;refine yW [37,38] rfl ?_;have H:=iS I1;have h7:=h7.mono ae;refine tY (yZ y3 ([1,2,7]:List Int) _ bJ h7 h32) rfl ?_;rintro I014 ay v2 k2 le11 - ⟨v06,kk3,rfl,rfl,rfl,h34⟩ -;have H:=H.trans le11;obtain ⟨p18,c17,rfl,h35⟩:=yA h34;exact yL [hB aw (cRd y12 p18 c17)] H ⟨_,_,rfl,rfl,h35⟩
             rintro I1 hf ae _ _ ⟨p18,c17,rfl,rfl,h35⟩;refine yW [39] rfl ?_;have H:=iS I1;refine mG (rI [y11]) ?_;intro b8 I015 le12 h37;have H:=H.trans le12;exact yL [] H ⟨_,rfl,rfl,h37⟩
           rintro I016 le13 _ _ ⟨rfl,rfl⟩ _ _ ⟨p18,c17,rfl,rfl,h35⟩ _ _ ⟨b8,rfl,rfl,h37⟩;refine yW [4,5,36,40] rfl ?_;have ⟨h3,H⟩:=m2 le13 h3 H;obtain ⟨x3,hy6,N⟩:=zB N;refine oH 2 rfl rfl rfl h3 hy6 ?_;intro ad bv av bM am;obtain ⟨p19,c18,rfl,h38⟩:=wW am;refine yC 8 [] [42] rfl ?_;obtain ⟨l1,hy7,N⟩:=zB N;refine tW (c:=[vT x3.Name.l,vS (some ⟨b8,0,none⟩) ([y11]:List Int) 1]) (x':=(zF.mk x3.Name ([y11]:List Int))) 2 1 rfl rfl rfl av rfl rfl bM (by kernel_rfl) (by kernel_rfl) (by kernel_rfl) h3 hy6 (by kernel_rfl) (qU ⟨_,rfl,h37⟩) ?_;rw [show y.Arrays.set (0:Int).toNat (zF.mk x3.Name ([y11]:List Int))=l1 from zC hy7];intro cs8 h39 hl07;exact kH (m':=[(4,vP b1 0),(5,vP b2 0),(40,vS (some ⟨b8,0,none⟩) ([y11]:List Int) 1)]) ⟨rfl,rfl,rfl,trivial⟩<|zA5 (ah:=[hB aw (cRd y12 p18 c17),hB b2 [vS p4 l1 c3,vS p5 y.Parts c4],hO zF (vS p4 l1 c3) cs8,hO zO (vS p5 y.Parts c4) az,hB b1 zTwo]) (m':=[(4,vP b1 0),(5,vP b2 0),(40,vS (some ⟨b8,0,none⟩) ([y11]:List Int) 1)]) (by first | rfl | simp only [vS,hl07,cu,dj,dq,dg,cY,cZ]) (by first | rfl | simp only [vS,hl07])<|yD rfl<|yN<|zV ⟨_,_,_,_,_,_,_,(zC N).symm,H,h39,h35,rfl,rfl⟩
         intro aZ N;exact zT<|yN<|zV ⟨_,_,_,_,_,_,_,(zC N).symm,H,h3,h7,rfl,rfl⟩
       rintro bX ay m2 ⟨Arrays2,x2,p16,c15,cs7,p17,c16,heq,le14,h29,h30,rfl,rfl⟩;subst o02;have ⟨h4,H⟩:=m2 le14 h4 H;exact yN<|zV ⟨_,_,_,_,_,_,_,_,_,_,_,(zC hMc2).symm,H,h29,h4,h30,rfl,rfl⟩
     intro aH N;refine yG [43] rfl<|zH ?_;obtain ⟨o03,ho03,hMc3⟩:=zB N;refine qV (fun I' ah m'=>∃ (Parts2:List zO) (x4:zM) (p20:Option Addr) (c19:Nat) (cs9:List Value) (p21:Option Addr) (c20:Nat),o03=(Parts2,x4)/\aX.le I'/\(RL I' cs9 Parts2)/\(S4 I' p21 x4.b c20)/\ah=[hB aw (cRd x4 p21 c20),hB b2 [vS p4 y.Arrays c3,vS p20 Parts2 c19],hO zF (vS p4 y.Arrays c3) cs,hO zO (vS p20 Parts2 c19) cs9,hB b1 zTwo]/\m'=[(4,vP b1 0),(5,vP b2 0)]) ?_ ?_
     · have H:=iS aX;refine yE ho03 ?_ ?_
       · intro bK N;refine yG [46] rfl<|zH ?_;obtain ⟨o04,ho04,hMc4⟩:=zB N;refine qV (fun I' ah m'=>∃ (Parts3:List zO) (x5:zM) (p22:Option Addr) (c21:Nat) (cs10:List Value) (p23:Option Addr) (c22:Nat),o04=(Parts3,x5)/\aX.le I'/\(RL I' cs10 Parts3)/\(S4 I' p23 x5.b c22)/\ah=[hB aw (cRd x5 p23 c22),hB b2 [vS p4 y.Arrays c3,vS p22 Parts3 c21],hO zF (vS p4 y.Arrays c3) cs,hO zO (vS p22 Parts3 c21) cs10,hB b1 zTwo]/\m'=[(4,vP b1 0),(5,vP b2 0)]) ?_ ?_
         · have H:=iS aX;refine yE ho04 ?_ ?_
           · intro bO N;obtain ⟨x6,hy8,N⟩:=zB N;obtain ⟨⟨y14,y15⟩,hy9,N⟩:=zB N;obtain ⟨⟨y17,y18⟩,hy10,N⟩:=zB N;obtain ⟨⟨y20,y21⟩,hy11,N⟩:=zB N;refine wT [.p (vP b2 1) [],.p (vS p5 y.Parts c4) [0],.p (vP aw 0) [],.p (vP aw 0) [],.p (vP aw 0) [],.p (vP b2 1) [],.p (vS p5 y.Parts c4) [0],.x (fun I' v hx=>∃ ad1 p24 c23 p25 c24,v=.pointer (some ad1)/\hx=[]/\(AtO (vS p5 y.Parts c4) (Rp.sz zO) (0:Int).toNat ad1)/\((az.drop ((0:Int).toNat*Rp.sz zO)).take (Rp.sz zO)=(cPart x6 p24 c23 p25 c24))/\(S4 I' p24 x6.Nest c23)/\(S4 I' p25 x6.Body c24)),.x (fun I' v hx=>∃ ad11 p241 c231 p251 c241,v=.pointer (some ad11)/\hx=[]/\(AtO (vS p5 y.Parts c4) (Rp.sz zO) (0:Int).toNat ad11)/\((az.drop ((0:Int).toNat*Rp.sz zO)).take (Rp.sz zO)=(cPart x6 p241 c231 p251 c241))/\(S4 I' p241 x6.Nest c231)/\(S4 I' p251 x6.Body c241)),.x (eS x6.Nest),.x (fun I' v hx=>∃ p26 c25 p27 c26,v=vS p26 y14 c25/\hx=[hB aw (cRd y15 p27 c26)]/\(S4 I' p26 y14 c25)/\(S4 I' p27 y15.b c26)),.x (fun I' v hx=>∃ p28 c27 p29 c28,v=vS p28 y17 c27/\hx=[hB aw (cRd y18 p29 c28)]/\(S4 I' p28 y17 c27)/\(S4 I' p29 y18.b c28)),.x (fun I' v hx=>∃ p30 c29 p31 c30,v=vS p30 y20 c29/\hx=[hB aw (cRd y21 p31 c30)]/\(S4 I' p30 y20 c29)/\(S4 I' p31 y21.b c30))] [[],[(0,false)],[],[],[],[],[(5,false)],[(6,false)],[(7,false)],[(8,false)],[(4,false),(9,false),(16,true)],[(3,false),(10,true)],[(2,false),(11,true)]] [hB b2 (cProg y p4 c3 p5 c4),hO zF (vS p4 y.Arrays c3) cs,hO zO (vS p5 y.Parts c4) az,hB b1 zTwo] [[hB aw (cRd y3 p6 c5)]] [(1,false),(12,true)] (zY [1,2,3,4,0]) ?_ ?_
             · refine Op<|Op<|Op<|Op<|Op<|Op<|Op<|Ox ?_<|Ox ?_<|Ox ?_<|Ox ?_<|Ox ?_<|Ox ?_<|On
               · intro I1 hf ae;refine yW [53] rfl ?_;have h4:=iM ae h4;refine oH 2 rfl rfl rfl h4 hy8 ?_;intro ad1 bP bb hcc1 ax;obtain ⟨p24,c23,p25,c24,rfl,h44,h45⟩:=wU ax;exact yL [] iR ⟨_,_,_,_,_,rfl,rfl,bb,hcc1,h44,h45⟩
               · rintro I1 hf ae _ _ ⟨ad1,p24,c23,p25,c24,rfl,rfl,bb,hcc1,h44,h45⟩;exact yW [54] rfl<|mF 9 [(55,.pointer (some ad1))]<|yL [] iR ⟨_,_,_,_,_,rfl,rfl,bb,hcc1,h44,h45⟩
               · rintro I1 hf ae _ _ ⟨ad11,p241,c231,p251,c241,rfl,rfl,hat21,hcc11,h441,h451⟩;exact yW [55] rfl<|zAX 2 0 hat21 hcc11 [vS p241 x6.Nest c231] (vS p241 x6.Nest c231) rfl rfl<|yL [] iR ⟨_,_,rfl,rfl,h441⟩
               · rintro I1 hf ae _ _ ⟨rfl,rfl⟩ _ _ ⟨p2411,c2311,rfl,rfl,h4411⟩ _ _ rfl;refine yW [51,56] rfl ?_;have H:=iS I1;have h7:=h7.mono ae;refine tY (zAN y3 x6.Nest _ hy9 h7 h4411) rfl ?_;rintro I019 ay v2 k2 le15 - ⟨v011,kk4,rfl,rfl,h46,h47⟩ -;have H:=H.trans le15;obtain ⟨p26,c25,rfl⟩:=h46.form;obtain ⟨p27,c26,rfl,h48⟩:=yA h47;exact yL [hB aw (cRd y15 p27 c26)] H ⟨_,_,_,_,rfl,rfl,h46,h48⟩
               · rintro I1 hf ae _ _ ⟨rfl,rfl⟩ _ _ ⟨p26,c25,p27,c26,rfl,rfl,h46,h48⟩;refine yW [50,57] rfl ?_;have H:=iS I1;refine tY (zAN y15 y14 _ hy10 h48 h46) rfl ?_;rintro I020 ay v2 k2 le16 - ⟨v013,kk5,rfl,rfl,h49,h50⟩ -;have H:=H.trans le16;obtain ⟨p28,c27,rfl⟩:=h49.form;obtain ⟨p29,c28,rfl,h51⟩:=yA h50;exact yL [hB aw (cRd y18 p29 c28)] H ⟨_,_,_,_,rfl,rfl,h49,h51⟩
               rintro I1 hf ae _ _ ⟨rfl,rfl⟩ _ _ ⟨p28,c27,p29,c28,rfl,rfl,h49,h51⟩;refine yW [49,58] rfl ?_;have H:=iS I1;refine tY (zAN y18 y17 _ hy11 h51 h49) rfl ?_;rintro I021 ay v2 k2 le17 - ⟨v015,kk6,rfl,rfl,h52,h53⟩ -;have H:=H.trans le17;obtain ⟨p30,c29,rfl⟩:=h52.form;obtain ⟨p31,c30,rfl,h54⟩:=yA h53;exact yL [hB aw (cRd y21 p31 c30)] H ⟨_,_,_,_,rfl,rfl,h52,h54⟩
             rintro I022 le18 _ _ ⟨rfl,rfl⟩ _ _ ⟨p30,c29,p31,c30,rfl,rfl,h52,h54⟩;refine yW [4,5,48,59] rfl ?_;have ⟨h4,H⟩:=m2 le18 h4 H;obtain ⟨x7,hy12,N⟩:=zB N;refine oH 3 rfl rfl rfl h4 hy12 ?_;intro ad2 ccs3 hat3 hcc2 bk;obtain ⟨p32,c31,p33,c32,rfl,h55,h56⟩:=wU bk;refine yC 15 [] [61] rfl ?_;obtain ⟨l2,hy13,N⟩:=zB N;refine tW (c:=[vS p30 y20 c29,vS p33 x7.Body c32]) (x':=(zO.mk y20 x7.Body)) 3 0 rfl rfl rfl hat3 rfl rfl hcc2 (by kernel_rfl) (by kernel_rfl) (by kernel_rfl) h4 hy12 (by kernel_rfl) (qM ⟨_,_,rfl,h52,h56⟩) ?_;rw [show y.Parts.set (0:Int).toNat (zO.mk y20 x7.Body)=l2 from zC hy13];intro cs11 h57 hl08;exact kH (m':=[(4,vP b1 0),(5,vP b2 0),(59,vS p30 y20 c29)]) ⟨rfl,rfl,rfl,trivial⟩<|zA5 (ah:=[hB aw (cRd y21 p31 c30),hB b2 [vS p4 y.Arrays c3,vS p5 l2 c4],hO zF (vS p4 y.Arrays c3) cs,hO zO (vS p5 l2 c4) cs11,hB b1 zTwo]) (m':=[(4,vP b1 0),(5,vP b2 0),(59,vS p30 y20 c29)]) (by first | rfl | simp only [vS,hl08,cu,dj,dq,dg,cY,cZ]) (by first | rfl | simp only [vS,hl08])<|yD rfl<|yN<|zV ⟨_,_,_,_,_,_,_,(zC N).symm,H,h57,h54,rfl,rfl⟩
           intro bO N;exact zT<|yN<|zV ⟨_,_,_,_,_,_,_,(zC N).symm,H,h4,h7,rfl,rfl⟩
         rintro I018 ay m2 ⟨Parts3,x5,p22,c21,cs10,p23,c22,heq1,le19,h42,h43,rfl,rfl⟩;subst o04;have H:=H.trans le19;exact yN<|zV ⟨_,_,_,_,_,_,_,(zC hMc4).symm,H,h42,h43,rfl,rfl⟩
       intro bK N;refine yG [62] rfl<|zH ?_;obtain ⟨o05,ho05,hMc5⟩:=zB N;refine qV (fun I' ah m'=>∃ (Parts4:List zO) (x8:zM) (p34:Option Addr) (c33:Nat) (cs12:List Value) (p35:Option Addr) (c34:Nat),o05=(Parts4,x8)/\aX.le I'/\(RL I' cs12 Parts4)/\(S4 I' p35 x8.b c34)/\ah=[hB aw (cRd x8 p35 c34),hB b2 [vS p4 y.Arrays c3,vS p34 Parts4 c33],hO zF (vS p4 y.Arrays c3) cs,hO zO (vS p34 Parts4 c33) cs12,hB b1 zTwo]/\m'=[(4,vP b1 0),(5,vP b2 0)]) ?_ ?_
       · have H:=iS aX;refine yE ho05 ?_ ?_
         · intro hc5 N;refine yB ?_;refine wR N [hB aw (cRd y3 p6 c5),hB b2 (cProg y p4 c3 p5 c4),hO zF (vS p4 y.Arrays c3) cs,hO zO (vS p5 y.Parts c4) az,hB b1 zTwo] (fun t76=>[(0,vP aw 0),(4,vP b1 0),(5,vP b2 0),(6,vI (y.Parts.length:Int)),(76,.bool t76)]) (fun o06 ho06=>?_) ?_
           · have H:=iS aX;refine zJ<|yC 3 [] [66] rfl<|xW [66] ho06 ?_ ?_
             · intro hc6 N;refine yC 7 [1] [68,70] rfl<|bE N fun x9 hy14 N=>oH 3 rfl rfl rfl h4 hy14 ?_;intro ad3 ccs4 hat4 hcc3 bH;obtain ⟨p36,c35,p37,c36,rfl,h60,h61⟩:=wU bH;exact yC 9 [] [72] rfl<|zAX 3 1 hat4 hcc3 [vS p37 x9.Body c36] (vS p37 x9.Body c36) rfl rfl<|yI [] [76] rfl<|yN<|zV (ct N H)
             intro hc6 N;exact wI [] [(76,vF)]<|yN<|zV (ct N H)
           intro t76 I024 le20 hMc6;have ⟨h7,h4,H⟩:=m3 le20 h7 h4 H;refine zH ?_;obtain ⟨o07,ho07,hMc7⟩:=zB hMc6;refine qV (fun I' ah m'=>∃ (Parts5:List zO) (x10:zM) (p38:Option Addr) (c37:Nat) (cs13:List Value) (p39:Option Addr) (c38:Nat),o07=(Parts5,x10)/\I024.le I'/\(RL I' cs13 Parts5)/\(S4 I' p39 x10.b c38)/\ah=[hB aw (cRd x10 p39 c38),hB b2 [vS p4 y.Arrays c3,vS p38 Parts5 c37],hO zF (vS p4 y.Arrays c3) cs,hO zO (vS p38 Parts5 c37) cs13,hB b1 zTwo]/\m'=[(4,vP b1 0),(5,vP b2 0)]) ?_ ?_
           · have H:=iS I024;refine yE ho07 ?_ ?_
             · intro hc7 N;obtain ⟨x11,hy15,N⟩:=zB N;obtain ⟨x12,hy16,N⟩:=zB N;obtain ⟨⟨y22,y23⟩,hy17,N⟩:=zB N;obtain ⟨⟨y24,y25⟩,hy18,N⟩:=zB N;obtain ⟨⟨y26,y27⟩,hy19,N⟩:=zB N;obtain ⟨l3,hy20,N⟩:=zB N;have hF:False:=hne _ _ _ _ _ (by assumption) (by assumption) (by assumption) hy15 hy16;obtain ⟨p40,c39,cs14,p41,c40,h64,h65⟩:∃ p40 c39 cs14 p41 c40,(RL I024 cs14 l3)/\(S4 I024 p41 y27.b c40):=hF.elim;exact zN1 hF (ar:=I024) (ah:=[hB aw (cRd y27 p41 c40),hB b2 [vS p4 y.Arrays c3,vS p40 l3 c39],hO zF (vS p4 y.Arrays c3) cs,hO zO (vS p40 l3 c39) cs14,hB b1 zTwo]) (m':=[(0,vP aw 0),(4,vP b1 0),(5,vP b2 0),(6,vI (y.Parts.length:Int)),(76,.bool t76)])<|yN<|zV ⟨_,_,_,_,_,_,_,(zC N).symm,H,h64,h65,rfl,rfl⟩
             intro hc7 N;exact zT<|yN<|zV ⟨_,_,_,_,_,_,_,(zC N).symm,H,h4,h7,rfl,rfl⟩
           rintro I025 ay m2 ⟨Parts5,x10,p38,c37,cs13,p39,c38,heq3,le21,h62,h63,rfl,rfl⟩;subst o07;have H:=H.trans le21;exact yN<|zV ⟨_,_,_,_,_,_,_,(zC hMc7).symm,H,h62,h63,rfl,rfl⟩
         intro hc5 N;refine yG [100] rfl<|zH ?_;obtain ⟨o08,ho08,hMc8⟩:=zB N;refine qV (fun I' ah m'=>∃ (Parts6:List zO) (p42:Option Addr) (c41:Nat) (cs15:List Value),o08=Parts6/\aX.le I'/\(RL I' cs15 Parts6)/\ah=[hB aw (cRd y3 p6 c5),hB b2 [vS p4 y.Arrays c3,vS p42 Parts6 c41],hO zF (vS p4 y.Arrays c3) cs,hO zO (vS p42 Parts6 c41) cs15,hB b1 zTwo]/\m'=[(4,vP b1 0),(5,vP b2 0)]) ?_ ?_
         · have H:=iS aX;refine yE ho08 ?_ ?_
           · intro hc8 N;refine yG [103] rfl<|zH ?_;obtain ⟨o09,ho09,hMc9⟩:=zB N;refine qV (fun I' ah m'=>∃ (Parts7:List zO) (p43:Option Addr) (c42:Nat) (cs16:List Value),o09=Parts7/\aX.le I'/\(RL I' cs16 Parts7)/\ah=[hB aw (cRd y3 p6 c5),hB b2 [vS p4 y.Arrays c3,vS p43 Parts7 c42],hO zF (vS p4 y.Arrays c3) cs,hO zO (vS p43 Parts7 c42) cs16,hB b1 zTwo]/\m'=[(4,vP b1 0),(5,vP b2 0)]) ?_ ?_
             · have H:=iS aX;refine yE ho09 ?_ ?_
               · intro hc9 N;refine zJ<|yC 4 [1] [105,107] rfl<|bE N fun x13 hy21 N=>oH 3 rfl rfl rfl h4 hy21 ?_;intro ad4 ccs5 hat5 hcc4 hrep4;obtain ⟨p44,c43,p45,c44,rfl,h68,h69⟩:=wU hrep4;refine yC 6 [] [109] rfl ?_;obtain ⟨l4,hy22,N⟩:=zB N;refine tW (c:=[vS p44 x13.Nest c43,z0]) (x':=(zO.mk x13.Nest ([]:List zP))) 3 1 rfl rfl rfl hat5 rfl rfl hcc4 (by kernel_rfl) (by kernel_rfl) (by kernel_rfl) h4 hy21 (by kernel_rfl) (qM ⟨_,_,rfl,h68,(SL.nil _)⟩) ?_;rw [show y.Parts.set (W ((y.Parts.length:Int) - 1)).toNat (zO.mk x13.Nest ([]:List zP))=l4 from zC hy22];intro cs17 h70 hl09;exact kH (m':=[(4,vP b1 0),(5,vP b2 0)]) ⟨rfl,rfl,trivial⟩<|zA5 (ah:=[hB aw (cRd y3 p6 c5),hB b2 [vS p4 y.Arrays c3,vS p5 l4 c4],hO zF (vS p4 y.Arrays c3) cs,hO zO (vS p5 l4 c4) cs17,hB b1 zTwo]) (m':=[(4,vP b1 0),(5,vP b2 0)]) (by first | rfl | simp only [vS,hl09,cu,dj,dq,dg,cY,cZ]) (by first | rfl | simp only [vS,hl09])<|yD rfl<|yN<|zV ⟨_,_,_,_,(zC N).symm,H,h70,rfl,rfl⟩
               intro hc9 N;exact zT<|yN<|zV ⟨_,_,_,_,(zC N).symm,H,h4,rfl,rfl⟩
             rintro I027 ay m2 ⟨Parts7,p43,c42,cs16,heq4,le22,h67,rfl,rfl⟩;subst o09;have H:=H.trans le22;exact yN<|zV ⟨_,_,_,_,(zC hMc9).symm,H,h67,rfl,rfl⟩
           intro hc8 N;exact zT<|yN<|zV ⟨_,_,_,_,(zC N).symm,H,h4,rfl,rfl⟩
         rintro I026 ay m2 ⟨Parts6,p42,c41,cs15,heq5,le23,h66,rfl,rfl⟩;subst o08;have ⟨h7,H⟩:=m2 le23 h7 H;exact yN<|zV ⟨_,_,_,_,_,_,_,(zC hMc8).symm,H,h66,h7,rfl,rfl⟩
       rintro I023 ay m2 ⟨Parts4,x8,p34,c33,cs12,p35,c34,heq6,le24,h58,h59,rfl,rfl⟩;subst o05;have H:=H.trans le24;exact yN<|zV ⟨_,_,_,_,_,_,_,(zC hMc5).symm,H,h58,h59,rfl,rfl⟩
     rintro I017 ay m2 ⟨Parts2,x4,p20,c19,cs9,p21,c20,heq7,le25,h40,h41,rfl,rfl⟩;subst o03;have ⟨h3,H⟩:=m2 le25 h3 H;exact yN<|zV ⟨_,_,_,_,_,_,_,_,_,_,_,(zC hMc3).symm,H,h3,h40,h41,rfl,rfl⟩
   rintro bY ay m2 ⟨aC,bm,x1,bt,br,bI,p14,bz,cs6,p15,c14,heq8,le26,h26,h27,h28,rfl,rfl⟩;subst aQ;have H:=H.trans le26;exact yN<|zV ⟨_,_,_,_,_,_,_,_,_,_,_,(zC hMc1).symm,H,h26,h27,h28,rfl,rfl⟩
 rintro bG ay m2 ⟨Arrays,Parts,x,p7,c6,aR,p8,c7,aS,p9,c8,aY,le27,h8,h9,h10,rfl,rfl⟩;subst o0;refine zN<|yV<|rH 1 [1] [(110,vA [vS p7 Arrays c6,vS p8 Parts c7])]<|xJ 4 [vS p7 Arrays c6,vS p8 Parts c7] rfl<|yD rfl<|xD<|yX 2 rfl ?_;intro I028 le28 hl010;have h71:=SL.of_frozen hl010 le28 h8;have ⟨h10,h9⟩:=m2 le28 h10 h9;refine yX 2 rfl ?_;intro I029 le29 hl011;have h72:=SL.of_frozen hl011 le29 h9;have ⟨h10,h71⟩:=m2 le29 h10 h71;obtain rfl:=zC aV;exact xA ⟨_,_,(.cell 2 rfl rfl (by kernel_rfl) ResV.nil),(zX [0] rfl (by decide)),⟨_,_,rfl,rfl,⟨_,rfl,(vV ⟨_,_,rfl,h71,h72⟩)⟩,(yU ⟨_,rfl,h10⟩)⟩⟩
theorem zEY (p:zD):∀ (i1:Int) (Parts:List zO) (o:List zO),tA p i1 Parts=some o->∀ {B}{I0 I:Imm}{Q}{aC:List zF}{p1 c p2 c1}{b:Nat}{b1:Nat}{b2:Nat}{p4 c3 az p9 c8 bB}{ap:List Raw2}{pN pB:Option Addr}{cN cB:Nat}{nl:List zE}{bl:List zP}{csB:List Value},I0.le I->(RL I az aC)->(S4 I p1 p.Arrays c)->(S4 I p2 p.Parts c1)->(RL I bB ap)->LP I ap Parts (vS pN nl cN) nl (vS pB bl cB) bl->SL I (vS pN nl cN) nl->RL I csB bl->(∀ l a w,¬Q (.goto l) a w)->(∀ a w,¬Q .outgrown a w)->(∀ (I':Imm) (bc:Option Addr) (c9:Nat) (bI:List Value) (raws1:List Raw2) (pN pB:Option Addr) (cN cB:Nat) (nl:List zE) (bl:List zP) (csB:List Value),I0.le I'->(RL I' bI raws1)->LP I' raws1 o (vS pN nl cN) nl (vS pB bl cB) bl->SL I' (vS pN nl cN) nl->RL I' csB bl->T 84 B Q (.exit 2) I' [hO zP (vS pB bl cB) csB,hO Raw2 (vS bc raws1 c9) bI,hO zF (vS p4 aC c3) az,hB b2 [vS p4 aC c3,vS bc raws1 c9],hB b1 zTwo] [(2,vP b1 0),(3,vP b2 0)])->J Tryz.prog 84 B (nav (bodyOf f104) [1,1,1,0,1,0]) Q I [hO zP (vS pB bl cB) csB,hO Raw2 (vS p9 ap c8) bB,hO zF (vS p4 aC c3) az,hB b2 [vS p4 aC c3,vS p9 ap c8],hB b1 zTwo,hB b (cProg p p1 c p2 c1)] [(1,vP b 0),(2,vP b1 0),(3,vP b2 0),(5,vI i1)]:=by
 refine tA.partial_correctness p _ fun aI ih i1 Parts o N B I0 I Q aC p1 c p2 c1 b b1 b2 p4 c3 az p9 c8 bB ap pN pB cN cB nl bl csB H h4 h h1 hRw hLP hN hBd hg ho hx=>yO hg ho<|yB<|yF<|yI [5] [40] rfl<|zH<|yE N ?_ ?_
 · intro aH N;refine qK 0 rfl ?_;intro immf lef hlf;have kB:=SL.of_frozen hlf lef hBd;have ⟨h4,h,h1,hN,hRw,hLP⟩:=m6 lef h4 h h1 hN hRw hLP;have H:=H.trans lef;have h14:=hLP.done hN kB;rw [<- jW hRw] at h14;have eP:vS p9 ap c8=vS p9 Parts c8:=by simp only [vS,hLP.2.1]
   rw [eP];clear hBd hlf;refine zT<|zZ<|yH<|yF<|yC 3 [4] [44,45] rfl<|bE N fun x2 bu N=>xL rfl rfl h1 bu ?_;intro ad3 ccs4 hat3 bk;obtain ⟨aT,bj,bD,bf,rfl,h16,h17⟩:=wU bk;refine yC 5 [] [47] rfl<|xE 0 hat3 [vS aT x2.Nest bj] (vS aT x2.Nest bj) rfl<|bE N fun y bJ N=>xM (zDH x2.Nest _ bJ h16) ?_;rintro bL ay v2 k2 bd - ⟨v04,rfl,rfl,h18⟩ -;have ⟨h14,hRw,hLP,hN⟩:=m4 bd h14 hRw hLP hN;replace kB:=kB.mono bd;have ⟨h4,h,h1,H⟩:=m4 bd h4 h h1 H;obtain ⟨bt,br,rfl⟩:=h18.form;refine yC 8 [] [50] rfl<|wS zTwo ?_;intro b5 hb5;refine xJ 0 [vS bt y br,z0] rfl<|yD rfl<|zZ<|yG [7] rfl<|xY<|qI [(1,vP b 0),(2,vP b1 0),(3,vP b2 0),(5,vI i1),(6,vP b5 0),(7,vI 0)]<|zAM zP fun h19=>?_;obtain ⟨aQ,aB,hMl1⟩:=zB N;refine zB1 p i1 0 ([]:List zP) aQ aB iR h18 h14 h4 h h1 h19 (fun _ _ _ h=>hg _ _ _ h) (fun _ _ h=>ho _ _ h) ?_;intro bS bx p15 c14 cs7 heq1 le10 h21;subst aQ;have ⟨h18,hRw,hLP,hN⟩:=m4 le10 h18 hRw hLP hN;replace kB:=kB.mono le10;have ⟨h4,h,h1,H⟩:=m4 le10 h4 h h1 H;obtain ⟨l3,hy11,N⟩:=zB hMl1;have hy12:=zJa (l':=ap) (m':=[(⟨vS bt y br,vS p15 bx c14⟩:Raw2)]) hy11 hLP.2.1 rfl;have h40:RL bS [vS bt y br,vS p15 bx c14] [(⟨vS bt y br,vS p15 bx c14⟩:Raw2)]:=⟨[vS bt y br,vS p15 bx c14],[],rfl,rfl,⟨rfl,rfl,rfl⟩,rfl⟩;refine zS<|zH<|zJ<|rH 3 [4,1] [(78,vS p9 Parts c8),(79,vA [vS bt y br,vS p15 bx c14])]<|uO [vS bt y br,vS p15 bx c14] Raw2 ?_;intro b7 hb7;refine sO (α:=Raw2) 47 2 3 rfl rfl rfl hRw (.inr ⟨0,rfl⟩) h40 hy12 ?_;intro p29 c28 cs11 h41;exact sE (zY [1,3,4,5,6,7] (ah:=[hO zP (vS p15 bx c14) cs7,hO Raw2 (vS p29 (ap++[(⟨vS bt y br,vS p15 bx c14⟩:Raw2)]) c28) cs11,hO zF (vS p4 aC c3) az,hB b2 [vS p4 aC c3,vS p9 Parts c8],hB b1 zTwo,hB b (cProg p p1 c p2 c1)]))<|yC 6 [] [82] rfl<|xJ 3 [vS p4 aC c3,vS p29 (ap++[(⟨vS bt y br,vS p15 bx c14⟩:Raw2)]) c28] rfl<|yD rfl<|zN<|zH<|zJ<|yI [] [5] rfl<|yM<|nT<|ih (W (i1+1)) l3 _ N H h4 h h1 h41 (hLP.push hN kB hy11) h18 h21 hg ho hx
 intro aH N;have:=zC N;simp only [id] at this;subst this;exact wL<|xR (zX [0,1,2,3,4] rfl (by decide))<|yN<|hx _ _ _ _ _ _ _ _ _ _ _ _ H hRw hLP hN hBd
def zFI (r:zD):KT:=fun kk I' ah v=>
  ∃ (a0:Option Addr) (c0:Nat) (s0:List Value) (a1:Option Addr) (c1:Nat) (s1:List Value) (ap:List Raw2) (pN pB:Option Addr) (cN cB:Nat) (nl:List zE) (bl:List zP) (csB:List Value),ah=[hO zP (vS pB bl cB) csB,hO Raw2 (vS a1 ap c1) s1,hO zF (vS a0 r.Arrays c0) s0]/\v=tupV [vA [vS a0 r.Arrays c0,vS a1 ap c1]]/\RL I' s0 r.Arrays/\RL I' s1 ap/\LP I' ap r.Parts (vS pN nl cN) nl (vS pB bl cB) bl/\SL I' (vS pN nl cN) nl/\RL I' csB bl
theorem zGu:∀ (p:zD) r,pP p=some r->∀ {I:Imm}{p1 c p2 c1},(S4 I p1 p.Arrays c)->(S4 I p2 p.Parts c1)->RT 104 [vA (cProg p p1 c p2 c1)] I [] (zFI r):=by
 intro p r N I p1 c p2 c1 h h1;unfold pP at N;refine yK func104 fun B=>yF<|tT (cProg p p1 c p2 c1) ?_;intro b hb;refine wS zTwo ?_;intro b1 hb1;refine yD rfl<|yV<|yC 1 [] [8] rfl<|wS zTwo ?_;intro b2 hb2;refine zBd 0 zTwo [hB b2 zTwo,hB b1 zTwo,hB b (cProg p p1 c p2 c1)] rfl rfl rfl rfl<|yD rfl<|zZ<|yG [4] rfl<|xY<|qI [(1,vP b 0),(2,vP b1 0),(3,vP b2 0),(4,vI 0)]<|zAM zF fun h2=>?_;obtain ⟨o0,aD,aM⟩:=zB N;refine zB0 p 0 ([]:List zF) o0 aD iR h h1 h2 (fun _ _ _ h=>h) (fun _ _ h=>h) ?_;intro bG aC p4 c3 az heq aJ h4;subst o0;have ⟨h,h1⟩:=m2 aJ h h1;refine zS<|zZ<|yG [5] rfl<|xY<|qI [(1,vP b 0),(2,vP b1 0),(3,vP b2 0),(5,vI 0)]<|kC (oT (Rp.sz Raw2))<|kC (oT (Rp.sz zP)) ?_;obtain ⟨o02,ho02,hMl2⟩:=zB aM;refine zEY p 0 ([]:List zO) o02 ho02 (ap:=[]) (pN:=none) (pB:=none) (cN:=0) (cB:=0) (nl:=[]) (bl:=[]) iR h4 h h1 RepL.nil LP.nil (SL.nil _) RepL.nil (fun _ _ _ h=>h) (fun _ _ h=>h) ?_;intro bX bc c9 bI raws1 pN pB cN cB nl bl csB le12 hRw hLP hN hBd;have h4:=iM le12 h4;obtain rfl:=zC hMl2;exact zS<|yV<|rH 1 [3] [(83,vA [vS p4 aC c3,vS bc raws1 c9])]<|xJ 4 [vS p4 aC c3,vS bc raws1 c9] rfl<|yD rfl<|xD<|xA ⟨_,_,(.cell 4 rfl rfl (by kernel_rfl) ResV.nil),(zX [0,1,2] rfl (by decide)),⟨_,_,_,_,_,_,_,_,_,_,_,_,_,_,rfl,rfl,h4,hRw,hLP,hN,hBd⟩⟩
theorem zNc {ap:List Raw2}{k:Nat}{r:Raw2} (h:ap[k]?=some r):ap.set k r=ap:=by
  obtain ⟨hk,e⟩:=ck.1 h;subst e;exact gv hk
theorem zFJ (r0:zM) (p1:zD) (r:zD×zM) (N:oJ r0 p1=some r) {y:zD}{y3:zM}{x:zO}{s:zP} (hy:pP p1=some y) (aA:xC r0 60=some (3,y3)) (hx:idx y.Parts (W ((y.Parts.length:Int) - 1))=some x) (hs:idx x.Body 0=some s) :
    ∀ {I:Imm}{aw:Nat}{p c p2 c1 p3 c2},(S4 I p r0.b c)->(S4 I p2 p1.Arrays c1)->(S4 I p3 p1.Parts c2)->RT 90 [vP aw 0,vA (cProg p1 p2 c1 p3 c2)] I [hB aw (cRd r0 p c)] (dQ aw r):=by
 intro I aw p c p2 c1' p3 c2 h h1 h2
 obtain ⟨i0,i1,i2⟩:=vW hx
 obtain ⟨j0,j1,j2⟩:=vW hs
 have hn:(y.Parts.length:Int)>0:=by
   have:=(ck.1 i2).1; omega
 have hb:(x.Body.length:Int)>0:=by
   have:=(ck.1 j2).1; omega
 have e0:((3:Int)==0)=false:=rfl
 have e1:((3:Int)==1)=false:=rfl
 have e2:((3:Int)==2)=false:=rfl
 have e3:((3:Int)==3)=true:=rfl
 unfold oJ at N
 simp only [hy,aA,e0,e1,e2,e3,hn,hb,hx,hs,decide_true,if_true,cI,if_false,Option.pure_def,Option.bind_eq_bind,Option.bind_some] at N
 cases hm1:rF y3 s with
 | none=>rw [hm1] at N; cases N
 | some q1 =>
 obtain ⟨y22,y23⟩:=q1
 simp only [hm1,Option.bind_some] at N
 cases hm2:rF y23 y22 with
 | none=>rw [hm2] at N; cases N
 | some q2 =>
 obtain ⟨y24,y25⟩:=q2
 simp only [hm2,Option.bind_some] at N
 cases hm3:rF y25 y24 with
 | none=>rw [hm3] at N; cases N
 | some q3 =>
 obtain ⟨y26,y27⟩:=q3
 simp only [hm3,Option.bind_some,Option.some.injEq] at N
 subst N
 refine yK func90 fun B=>yF<|tT [vS p2 p1.Arrays c1',vS p3 p1.Parts c2] ?_
 intro b hb
 refine wS zTwo ?_
 intro b1 hb1
 refine yD rfl<|yV<|rH 1 [1] [(7,vA [vS p2 p1.Arrays c1',vS p3 p1.Parts c2])]<|xM (zGu p1 _ hy h1 h2) ?_
 rintro I0 ay v2 k2 le - ⟨a0,c0,s0,a1,c1,s1,ap,pN,pB,cN,cB,nl,bl,csB,rfl,rfl,h3,hRw,hLP,hN,hBd⟩ -
 have h:=h.mono le
 clear h1 h2
 rw [hLP.len] at hx hn i0 i1 i2
 obtain ⟨rfl,hraw,hset⟩:=hLP.last hx
 simp only at hs hb j0 j1 j2 hm1
 have hset:=hset (vS pN nl cN) nl (vS pB bl cB) (bl.set 0 y26)
 rw [zNc (vW hraw).2.2] at hset
 refine wS zTwo ?_
 intro b2 hb2
 refine xJ 0 [vS a0 y.Arrays c0,vS a1 ap c1] rfl<|yD rfl<|yV<|yI [0] [6] rfl<|zZ<|yF<|yC 1 [] [12] rfl<|sE (zY [6,1,2,0,3,4] (ah:=[hB aw (cRd r0 p c),hO zP (vS pB bl cB) csB,hO Raw2 (vS a1 ap c1) s1,hB b2 [vS a0 y.Arrays c0,vS a1 ap c1],hO zF (vS a0 y.Arrays c0) s0,hB b1 zTwo]))<|tY (xS r0 60 _ aA h) rfl ?_
 rintro aW ay v2 k2 ae - ⟨v0,kk,rfl,rfl,rfl,h6⟩ -
 obtain ⟨v01,rfl,h7⟩:=dP h6
 obtain ⟨p6,c5,rfl⟩:=h7.form
 clear h6 h
 have h3:=iM ae h3
 have hRw:=iM ae hRw
 have hN:=hN.mono ae
 have hBd:=iM ae hBd
 have hset:=hset.mono ae
 refine yD rfl<|xY<|yG [14] rfl<|zH<|gQ rfl<|yG [29] rfl<|zH<|gQ rfl<|yG [43] rfl<|zH<|gQ rfl<|yG [62] rfl<|zH<|dU rfl<|yF<|yC 3 [] [66] rfl ?_
 rw [decide_eq_true hn]
 refine yC 7 [3] [68,70] rfl<|oH (α:=Raw2) 2 rfl rfl rfl hRw hraw ?_
 intro ad aP aq bM am
 obtain ⟨rfl,o1,o2⟩:=am
 refine yC 9 [] [72] rfl<|zAX 2 1 aq bM [vS pB bl cB] (vS pB bl cB) rfl rfl<|yI [] [76] rfl ?_
 rw [decide_eq_true hb]
 refine zH<|dU rfl<|qI [(0,vP aw 0),(4,vP b1 0),(5,vP b2 0),(6,vI (ap.length:Int))]<|wT [.p (vP b2 1) [],.p (vS a1 ap c1) [2],.p (vI (ap.length:Int)) [],.p (vI (W ((ap.length:Int) - 1))) [],.x (fun I' v hx'=>∃ ad,v=.pointer (some ad)/\hx'=[]/\AtO (vS a1 ap c1) 2 (W ((ap.length:Int) - 1)).toNat ad),.x (fun I' v hx'=>∃ ad,v=.pointer (some (ad.add 1))/\hx'=[]/\AtO (vS a1 ap c1) 2 (W ((ap.length:Int) - 1)).toNat ad),.x (fun I' v hx'=>v=vS pB bl cB/\hx'=[]),.p (vP aw 0) [],.p (vP aw 0) [],.p (vP aw 0) [],.p (vP b2 1) [],.p (vS a1 ap c1) [2],.p (vI (ap.length:Int)) [],.p (vI (W ((ap.length:Int) - 1))) [],.x (fun I' v hx'=>∃ ad,v=.pointer (some ad)/\hx'=[]/\AtO (vS a1 ap c1) 2 (W ((ap.length:Int) - 1)).toNat ad),.x (fun I' v hx'=>∃ ad,v=.pointer (some (ad.add 1))/\hx'=[]/\AtO (vS a1 ap c1) 2 (W ((ap.length:Int) - 1)).toNat ad),.x (fun I' v hx'=>v=vS pB bl cB/\hx'=[]),.x (fun I' v hx'=>∃ ad,v=.pointer (some ad)/\hx'=[]/\AtO (vS pB bl cB) 9 0 ad),.x (fun I' v hx'=>∃ cs9,v=.agg ⟨cs9⟩/\hx'=[]/\Rp.rep I' cs9 s),.x (fun I' v hx'=>∃ (cs9 kk:List Value),v=.agg ⟨cs9⟩/\hx'=[hB aw kk]/\Rp.rep I' cs9 y22/\Rp.rep I' kk y23),.x (fun I' v hx'=>∃ (cs9 kk:List Value),v=.agg ⟨cs9⟩/\hx'=[hB aw kk]/\Rp.rep I' cs9 y24/\Rp.rep I' kk y25),.x (fun I' v hx'=>∃ (cs9 kk:List Value),v=.agg ⟨cs9⟩/\hx'=[hB aw kk]/\Rp.rep I' cs9 y26/\Rp.rep I' kk y27)] [[],[(0,false)],[],[(2,false)],[(1,false),(3,false)],[(4,false)],[(5,false)],[],[],[],[],[(10,false)],[],[(12,false)],[(11,false),(13,false)],[(14,false)],[(15,false)],[(16,false)],[(17,false)],[(9,false),(18,false),(24,true)],[(8,false),(19,true)],[(7,false),(20,true)]] [hO zP (vS pB bl cB) csB,hO Raw2 (vS a1 ap c1) s1,hB b2 [vS a0 y.Arrays c0,vS a1 ap c1],hO zF (vS a0 y.Arrays c0) s0,hB b1 zTwo] [[hB aw (cRd y3 p6 c5)]] [(6,false),(21,true)] (zY [1,2,3,4,5,0]) ?_ ?_
 · refine Op<|Op<|Op<|Op<|Ox ?_<|Ox ?_<|Ox ?_<|Op<|Op<|Op<|Op<|Op<|Op<|Op<|Ox ?_<|Ox ?_<|Ox ?_<|Ox ?_<|Ox ?_<|Ox ?_<|Ox ?_<|Ox ?_<|On
   · intro I1 hf ae
     refine wG ?_
     rintro _ _ ⟨rfl,rfl⟩
     refine wG ?_
     rintro _ _ ⟨rfl,rfl⟩
     refine oQ<|zBM [(78,vS a1 ap c1),(80,vI (W ((ap.length:Int) - 1)))]<|oH (α:=Raw2) 1 rfl rfl rfl (iM ae hRw) hraw ?_
     intro ad aP aq bM am
     exact yL [] iR ⟨_,rfl,rfl,aq⟩
   · intro I1 hf ae
     refine wG ?_
     rintro _ _ ⟨ad,rfl,rfl,aq⟩
     exact oQ<|zBM [(81,.pointer (some ad))]<|mF 6 [(82,.pointer (some (ad.add 1)))]<|yL [] iR ⟨_,rfl,rfl,aq⟩
   · intro I1 hf ae
     refine wG ?_
     rintro _ _ ⟨ad,rfl,rfl,aq⟩
     refine oQ<|zBM [(82,.pointer (some (ad.add 1)))] ?_
     have am:=hRw.at (vW hraw).2.2
     obtain ⟨⟨bM,o1,o2⟩,_⟩:=am
     exact zAX 1 1 aq bM [vS pB bl cB] (vS pB bl cB) rfl rfl<|xF iR
   · intro I1 hf ae
     refine wG ?_
     rintro _ _ ⟨rfl,rfl⟩
     refine wG ?_
     rintro _ _ ⟨rfl,rfl⟩
     refine oQ<|zBM [(88,vS a1 ap c1),(90,vI (W ((ap.length:Int) - 1)))]<|oH (α:=Raw2) 1 rfl rfl rfl (iM ae hRw) hraw ?_
     intro ad aP aq bM am
     exact yL [] iR ⟨_,rfl,rfl,aq⟩
   · intro I1 hf ae
     refine wG ?_
     rintro _ _ ⟨ad,rfl,rfl,aq⟩
     exact oQ<|zBM [(91,.pointer (some ad))]<|mF 16 [(92,.pointer (some (ad.add 1)))]<|yL [] iR ⟨_,rfl,rfl,aq⟩
   · intro I1 hf ae
     refine wG ?_
     rintro _ _ ⟨ad,rfl,rfl,aq⟩
     refine oQ<|zBM [(92,.pointer (some (ad.add 1)))] ?_
     have am:=hRw.at (vW hraw).2.2
     obtain ⟨⟨bM,o1,o2⟩,_⟩:=am
     exact zAX 1 1 aq bM [vS pB bl cB] (vS pB bl cB) rfl rfl<|xF iR
   · intro I1 hf ae
     refine wG ?_
     rintro _ _ ⟨rfl,rfl⟩
     refine oQ<|zBM [(93,vS pB bl cB)]<|oH (α:=zP) 0 rfl rfl rfl (iM ae hBd) hs ?_
     intro ad aP aq bM am
     exact yL [] iR ⟨_,rfl,rfl,aq⟩
   · intro I1 hf ae
     refine wG ?_
     rintro _ _ ⟨ad,rfl,rfl,aq⟩
     refine oQ<|zBM [(94,.pointer (some ad))] ?_
     obtain ⟨am,_⟩:=(iM ae hBd).at j2
     generalize bM:(csB.drop (Int.toNat 0*Rp.sz zP)).take (Rp.sz zP)=cc at am
     obtain ⟨w0,w1,w2,w3,rfl,e10,e11,e12,e13⟩:=mA am
     obtain ⟨bc,bj,rfl⟩:=e10.form
     obtain ⟨aT,bf,rfl⟩:=e11.form
     obtain ⟨bD,br,rfl⟩:=e12.form
     obtain ⟨bt,bz,rfl⟩:=e13.form
     exact zAX 0 0 aq bM (cStmt s bc bj aT bf bD br bt bz) (vA (cStmt s bc bj aT bf bD br bt bz)) rfl rfl<|yL [] iR ⟨_,rfl,rfl,vD ⟨_,_,_,_,rfl,e10,e11,e12,e13⟩⟩
   · intro I1 hf ae
     refine wG ?_
     rintro _ _ ⟨rfl,rfl⟩
     refine wG ?_
     rintro _ _ ⟨cs9,rfl,rfl,h9⟩
     refine wG ?_
     rintro _ _ rfl
     obtain ⟨w0,w1,w2,w3,rfl,e10,e11,e12,e13⟩:=mA h9
     obtain ⟨bc,bj,rfl⟩:=e10.form
     obtain ⟨aT,bf,rfl⟩:=e11.form
     obtain ⟨bD,br,rfl⟩:=e12.form
     obtain ⟨bt,bz,rfl⟩:=e13.form
     refine oQ<|zBM [(86,vP aw 0),(95,vA (cStmt s bc bj aT bf bD br bt bz))]<|tY (zAO y3 s _ hm1 (h7.mono ae) e10 e11 e12 e13) rfl ?_
     rintro aX ay v2 k2 aF - ⟨v0,kk2,rfl,rfl,⟨aR,rfl,h10⟩,h11⟩ -
     exact yL [hB aw kk2] aF ⟨_,_,rfl,rfl,h10,h11⟩
   · intro I1 hf ae
     refine wG ?_
     rintro _ _ ⟨rfl,rfl⟩
     refine wG ?_
     rintro _ _ ⟨cs9,kk,rfl,rfl,h9,hk⟩
     obtain ⟨w0,w1,w2,w3,rfl,e10,e11,e12,e13⟩:=mA h9
     obtain ⟨bc,bj,rfl⟩:=e10.form
     obtain ⟨aT,bf,rfl⟩:=e11.form
     obtain ⟨bD,br,rfl⟩:=e12.form
     obtain ⟨bt,bz,rfl⟩:=e13.form
     obtain ⟨w4,rfl,hsl⟩:=dP hk
     obtain ⟨p8,c8,rfl⟩:=hsl.form
     refine oQ<|zBM [(85,vP aw 0),(96,vA (cStmt y22 bc bj aT bf bD br bt bz))]<|tY (zAO y23 y22 _ hm2 (hsl) e10 e11 e12 e13) rfl ?_
     rintro aX ay v2 k2 aF - ⟨v0,kk2,rfl,rfl,⟨aR,rfl,h10⟩,h11⟩ -
     exact yL [hB aw kk2] aF ⟨_,_,rfl,rfl,h10,h11⟩
   intro I1 hf ae
   refine wG ?_
   rintro _ _ ⟨rfl,rfl⟩
   refine wG ?_
   rintro _ _ ⟨cs9,kk,rfl,rfl,h9,hk⟩
   obtain ⟨w0,w1,w2,w3,rfl,e10,e11,e12,e13⟩:=mA h9
   obtain ⟨bc,bj,rfl⟩:=e10.form
   obtain ⟨aT,bf,rfl⟩:=e11.form
   obtain ⟨bD,br,rfl⟩:=e12.form
   obtain ⟨bt,bz,rfl⟩:=e13.form
   obtain ⟨w4,rfl,hsl⟩:=dP hk
   obtain ⟨p8,c8,rfl⟩:=hsl.form
   refine oQ<|zBM [(84,vP aw 0),(97,vA (cStmt y24 bc bj aT bf bD br bt bz))]<|tY (zAO y25 y24 _ hm3 (hsl) e10 e11 e12 e13) rfl ?_
   rintro aX ay v2 k2 aF - ⟨v0,kk2,rfl,rfl,⟨aR,rfl,h10⟩,h11⟩ -
   exact yL [hB aw kk2] aF ⟨_,_,rfl,rfl,h10,h11⟩
 intro I5 bw
 refine wG ?_
 rintro _ _ ⟨rfl,rfl⟩
 refine wG ?_
 rintro _ _ ⟨cs9,kk,rfl,rfl,h9,hk⟩
 obtain ⟨w0,w1,w2,w3,rfl,e10,e11,e12,e13⟩:=mA h9
 obtain ⟨bc,bj,rfl⟩:=e10.form
 obtain ⟨aT,bf,rfl⟩:=e11.form
 obtain ⟨bD,br,rfl⟩:=e12.form
 obtain ⟨bt,bz,rfl⟩:=e13.form
 have h3:=iM bw h3
 have hRw:=iM bw hRw
 have hN:=hN.mono bw
 have hBd:=iM bw hBd
 have hset:=hset.mono bw
 refine oQ<|zBM [(4,vP b1 0),(5,vP b2 0),(83,vS pB bl cB),(98,vA (cStmt y26 bc bj aT bf bD br bt bz))]<|oH (α:=zP) 1 rfl rfl rfl hBd hs ?_
 intro ad aP aq bM am
 obtain ⟨w0,w1,w2,w3,rfl,e20,e21,e22,e23⟩:=mA am
 obtain ⟨p20,c20,rfl⟩:=e20.form
 obtain ⟨p21,c21,rfl⟩:=e21.form
 obtain ⟨p22,c22,rfl⟩:=e22.form
 obtain ⟨p23,c23,rfl⟩:=e23.form
 refine tW (c:=(cStmt y26 bc bj aT bf bD br bt bz)) (x':=y26) 1 0 rfl rfl rfl aq rfl rfl bM (by kernel_rfl) (by kernel_rfl) (by kernel_rfl) hBd hs (by kernel_rfl) (vD ⟨_,_,_,_,rfl,e10,e11,e12,e13⟩) ?_
 intro cs7 h7' aU
 refine wK (ah:=[hB aw kk,hO zP (vS pB bl cB) cs7,hO Raw2 (vS a1 ap c1) s1,hB b2 [vS a0 y.Arrays c0,vS a1 ap c1],hO zF (vS a0 y.Arrays c0) s0,hB b1 zTwo]) rfl<|xI 1 rfl ?_
 intro I6 bC hl6
 have eB:vS pB bl cB=vS pB (bl.set 0 y26) cB:=by simp [vS]
 have kB:SL I6 (vS pB (bl.set 0 y26) cB) (bl.set 0 y26):=by
   rw [<- eB]
   exact SL.of_frozen (l:=bl.set 0 y26) hl6 bC h7'
 rw [eB] at hset
 have hdone:=(hset.mono bC).done (hN.mono bC) kB
 have eS:=jW hRw
 rw [<- eS] at hdone
 have h3:=iM bC h3
 have hk:=Rp.mono bC hk
 have eP:vS a1 ap c1=vS a1 (y.Parts.set (W ((ap.length:Int) - 1)).toNat ⟨nl,bl.set 0 y26⟩) c1:=by simp only [vS,cK,hLP.2.1]
 refine wK (ah:=[hB aw kk,hO Raw2 (vS a1 ap c1) s1,hB b2 [vS a0 y.Arrays c0,vS a1 ap c1],hO zF (vS a0 y.Arrays c0) s0,hB b1 zTwo]) rfl<|yD rfl<|zN<|yV<|rH 1 [2] [(110,vA [vS a0 y.Arrays c0,vS a1 ap c1])]<|xJ 4 [vS a0 y.Arrays c0,vS a1 ap c1] rfl<|yD rfl<|xD<|yX 1 rfl ?_
 intro I7 le7 hl7
 have k1:SL I7 (vS a1 ap c1) (y.Parts.set (W ((ap.length:Int) - 1)).toNat ⟨nl,bl.set 0 y26⟩):=SL.of_frozen (l:=y.Parts.set (W ((ap.length:Int) - 1)).toNat ⟨nl,bl.set 0 y26⟩) hl7 le7 hdone
 refine yX 2 rfl ?_
 intro I8 le8 hl8
 have k2:=SL.of_frozen hl8 le8 (iM le7 h3)
 rw [hLP.len]
 exact xA ⟨_,_,(.cell 2 rfl rfl (by kernel_rfl) ResV.nil),(zX [0] rfl (by decide)),⟨_,_,rfl,rfl,⟨_,rfl,(vV ⟨_,_,rfl,k2,k1.mono le8⟩)⟩,Rp.mono le8 (Rp.mono le7 hk)⟩⟩
theorem zGK:∀ r0 p1 r,oJ r0 p1=some r->∀ {I:Imm}{aw:Nat}{p c p2 c1 p3 c2},(S4 I p r0.b c)->(S4 I p2 p1.Arrays c1)->(S4 I p3 p1.Parts c2)->RT 90 [vP aw 0,vA (cProg p1 p2 c1 p3 c2)] I [hB aw (cRd r0 p c)] (dQ aw r):=by
 intro r0 p1 r N I aw p c p2 c1 p3 c2 h h1 h2;by_cases hq:∃ y y3 x s,pP p1=some y/\xC r0 60=some (3,y3)/\idx y.Parts (W ((y.Parts.length:Int) - 1))=some x/\idx x.Body 0=some s
 · obtain ⟨y,y3,x,s,e1,e2,e3,e4⟩:=hq;exact zFJ r0 p1 r N e1 e2 e3 e4 h h1 h2
 refine zFH r0 p1 r N h h1 h2 ?_;intro y y2 y3 x s e1 e2 e3 e4 e5;obtain rfl:=eq_of_beq e3;exact hq ⟨y,y3,x,s,e1,e2,e4,e5⟩
def zBx (r:(List Str)):KT:=fun kk I' ah v=>
  ∃ v0,ah=[]/\v=tupV [v0]/\SL I' v0 r
def oZ (s:Str) (c:UInt8) (out:List Str) (from0:Int) (i:Int):Option (List Str):=do
 if (decide (i<=(s.l.length:Int))) then
  let t25<-(do
    if (i==(s.l.length:Int)) then
     pure true
    else
     let b1<-sidx s i
     pure ((b1.toNat:Int)==(c.toNat:Int))
      : Option Bool)
  let (au,from01)<-(do
    if t25 then
     let s1<-sslc s from0 i
     let aN<-app 16 out ([s1]:List Str)
     pure (aN,(W (i+1)))
    else
     pure (out,from0)
      : Option (List Str×Int))
  oZ s c au from01 (W (i+1))
 else
  pure (id out)
 partial_fixpoint
theorem zFK (s:Str) (c:UInt8):∀ (out:List Str) (from0:Int) (i:Int) (o:List Str),oZ s c out from0 i=some o->∀ {B}{I0 I:Imm}{Q p c1 cs},I0.le I->(RL I cs out)->NG Q->NO Q->(∀ (I':Imm) (aj:List Str) (p1:Option Addr) (c2:Nat) (az:List Value),o=aj->I0.le I'->(RL I' az aj)->T 36 B Q (.exit 0) I' [hO Str (vS p1 aj c2) az] [(5,vS p1 aj c2)])->J Tryz.prog 36 B (nav (bodyOf f174) [1,1,1,0,1,0]) Q I [hO Str (vS p out c1) cs] [(0,vT s.l),(1,.int .u8 (c.toNat:Int)),(5,vS p out c1),(6,vI from0),(7,vI i)]:=by
 refine oZ.partial_correctness s c _ fun aI ih out from0 i o N B I0 I Q p c1 cs H h1 hg ho hx=>yO hg ho<|yB<|yG [12] rfl<|zH<|yE N ?_ ?_
 · intro hc N;refine zT<|zZ<|yH<|yB ?_;refine wR N [hO Str (vS p out c1) cs] (fun t25=>[(0,vT s.l),(1,.int .u8 (c.toNat:Int)),(5,vS p out c1),(6,vI from0),(7,vI i),(25,.bool t25)]) (fun o0 aD=>?_) ?_
   · have H:=iS I;refine zJ<|yC 5 [] [19] rfl<|xW [19] aD ?_ ?_
     · intro aH N;exact wI [] [(25,vY)]<|yN<|zV (ct N H)
     intro aH N;exact yC 7 [] [20,21] rfl<|bE N fun b1 hy N=>zBL rfl rfl hy<|yI [] [25] rfl<|yN<|zV (ct N H)
   intro t25 I0 le aV;have ⟨h1,H⟩:=m2 le h1 H;refine zH ?_;obtain ⟨aQ,aB,hMc1⟩:=zB aV;refine qV (fun I' ah m'=>∃ (au:List Str) (from01:Int) (p2:Option Addr) (c3:Nat) (aR:List Value),aQ=(au,from01)/\I0.le I'/\(RL I' aR au)/\ah=[hO Str (vS p2 au c3) aR]/\m'=[(0,vT s.l),(1,.int .u8 (c.toNat:Int)),(5,vS p2 au c3),(6,vI from01),(7,vI i)]) ?_ ?_
   · have H:=iS I0;refine yE aB ?_ ?_
     · intro aZ N;refine yF<|yC 4 [] [26,27,28,29] rfl<|bE N fun s1 aA N=>zIe rfl aA<|uO [vT s1.l] Str ?_;intro b2 hb1;have h4:RL I0 [vT s1.l] ([s1]:List Str):=rT [s1];obtain ⟨aN,aK,N⟩:=zB N;exact sO 9 1 1 rfl rfl rfl h1 (.inr ⟨0,rfl⟩) h4 aK fun p3 c4 aS h5=>sE (zY [1] (ah:=[hO Str (vS p3 aN c4) aS]))<|yI [] [5] rfl<|zH<|zJ<|yI [] [6] rfl<|yN<|zV ⟨_,_,_,_,_,(zC N).symm,H,h5,rfl,rfl⟩
     intro aZ N;exact zT<|yN<|zV ⟨_,_,_,_,_,(zC N).symm,H,h1,rfl,rfl⟩
   rintro aW ay m2 ⟨au,from01,p2,c3,aR,heq1,ae,h3,rfl,rfl⟩;subst aQ;have H:=H.trans ae;exact zN<|zH<|zJ<|yI [] [7] rfl<|yM<|nT<|ih au from01 (W (i+1)) _ hMc1 H h3 hg ho hx
 intro hc N;exact wL<|yN<|hx _ _ _ _ _ (zC N).symm H h1
def jK (s:Str) (c:UInt8):Option ((List Str)):=do
 let aj<-oZ s c ([]:List Str) 0 0
 pure (id aj)
theorem zAx:∀ s c r,jK s c=some r->∀ {I:Imm} ,RT 174 [vT s.l,.int .u8 (c.toNat:Int)] I [] (zBx  r):=by
 intro s c r N I;unfold jK at N;refine yK func174 fun B=>wQ []<|yV<|uO [] Str ?_;intro b hb;have h:RL I [] ([]:List Str):=rfl;refine yI [] [5] rfl<|wP [6] rfl<|zZ<|yG [7] rfl<|xY<|qI [(0,vT s.l),(1,.int .u8 (c.toNat:Int)),(5,vS (some ⟨b,0,none⟩) ([]:List Str) 0),(6,vI 0),(7,vI 0)] ?_;obtain ⟨o02,ho02,aM⟩:=zB N;refine zFK s c ([]:List Str) 0 0 o02 ho02 iR h (fun _ _ _ h=>h) (fun _ _ h=>h) ?_;intro aX aj p1 c2 az heq2 aF h2;subst o02;refine zS<|wP [4] rfl<|xD<|yX 0 rfl ?_;intro bG aJ hl0;have h6:=SL.of_frozen hl0 aJ h2;obtain rfl:=zC aM;exact xA ⟨_,_,(.tmp rfl ResV.nil),zQ,⟨_,rfl,rfl,h6⟩⟩
def pA (y:(List Str)) (out:List Str) (i:Int):Option (List Str):=do
 if (decide (i<(y.length:Int))) then
  let x<-idx y i
  let au<-(do
    if (!(x.l==([]:List UInt8))) then
     let x1<-idx y i
     let aN<-app 16 out ([x1]:List Str)
     pure (id aN)
    else
     pure (id out)
      : Option (List Str))
  pA y au (W (i+1))
 else
  pure (id out)
 partial_fixpoint
theorem zDr (y:(List Str)):∀ (out:List Str) (i:Int) (o:List Str),pA y out i=some o->∀ {B}{I0 I:Imm}{Q p c p1 c1 cs},I0.le I->(S4 I p y c)->(RL I cs out)->NG Q->NO Q->(∀ (I':Imm) (aj:List Str) (p2:Option Addr) (c2:Nat) (az:List Value),o=aj->I0.le I'->(RL I' az aj)->T 28 B Q (.exit 0) I' [hO Str (vS p2 aj c2) az] [(4,vS p2 aj c2)])->J Tryz.prog 28 B (nav (bodyOf f210) [1,1,1,0,1,0]) Q I [hO Str (vS p1 out c1) cs] [(3,vS p y c),(4,vS p1 out c1),(5,vI i)]:=by
 refine pA.partial_correctness y _ fun aI ih out i o N B I0 I Q p c p1 c1 cs H h h2 hg ho hx=>yO hg ho<|yB<|yG [12] rfl<|zH<|yE N ?_ ?_
 · intro hc N;refine zT<|zZ<|yH<|yF<|yC 2 [] [15,16] rfl<|bE N fun x aA N=>xL rfl rfl h aA ?_;intro ad aP aq am;obtain rfl:=am;refine xE 0 aq [vT x.l] (vT x.l) rfl<|yI [] [19] rfl<|zH ?_;obtain ⟨o0,aD,aV⟩:=zB N;refine qV (fun I' ah m'=>∃ (au:List Str) (p3:Option Addr) (c3:Nat) (aR:List Value),o0=au/\I.le I'/\(RL I' aR au)/\ah=[hO Str (vS p3 au c3) aR]/\m'=[(3,vS p y c),(4,vS p3 au c3),(5,vI i)]) ?_ ?_
   · have H:=iS I;refine yE aD ?_ ?_
     · intro aH N;refine zJ<|yC 3 [] [20,21,22] rfl<|bE N fun x1 aK N=>xL rfl rfl h aK ?_;intro ad1 bv av ax;obtain rfl:=ax;refine xE 0 av [vT x1.l] (vT x1.l) rfl<|uO [vT x1.l] Str ?_;intro b1 hb1;have h5:RL I [vT x1.l] ([x1]:List Str):=rT [x1];obtain ⟨aN,bi,N⟩:=zB N;exact sO 9 1 1 rfl rfl rfl h2 (.inr ⟨0,rfl⟩) h5 bi fun p4 c4 aS h6=>sE (zY [1] (ah:=[hO Str (vS p4 aN c4) aS]))<|yI [] [4] rfl<|yN<|zV ⟨_,_,_,_,(zC N).symm,H,h6,rfl,rfl⟩
     intro aH N;exact zT<|yN<|zV ⟨_,_,_,_,(zC N).symm,H,h2,rfl,rfl⟩
   rintro aW ay m2 ⟨au,p3,c3,aR,heq,ae,h4,rfl,rfl⟩;subst o0;have ⟨h,H⟩:=m2 ae h H;exact zN<|zH<|zJ<|yI [] [5] rfl<|yM<|nT<|ih au (W (i+1)) _ aV H h h4 hg ho hx
 intro hc N;exact wL<|yN<|hx _ _ _ _ _ (zC N).symm H h2
def kT (s:Str):Option ((List Str)):=do
 let y<-jK s (32:UInt8)
 let aj<-pA y ([]:List Str) 0
 pure (id aj)
theorem zBy:∀ s r,kT s=some r->∀ {I:Imm} ,RT 210 [vT s.l] I [] (zBx  r):=by
 intro s r N I;unfold kT at N;refine yK func210 fun B=>wQ []<|yV<|yC 1 [] [6] rfl<|bE N fun y hy N=>xM (zAx s (32:UInt8) _ hy ) ?_;rintro I0 ay v2 k2 le - ⟨v0,rfl,rfl,h⟩ -;obtain ⟨p,c,rfl⟩:=h.form;refine yI [] [3] rfl<|yV<|uO [] Str ?_;intro b hb;have h1:RL I0 [] ([]:List Str):=rfl;refine yI [] [4] rfl<|zZ<|yG [5] rfl<|xY<|qI [(3,vS p y c),(4,vS (some ⟨b,0,none⟩) ([]:List Str) 0),(5,vI 0)] ?_;obtain ⟨aQ,aB,aM⟩:=zB N;refine zDr y ([]:List Str) 0 aQ aB iR h h1 (fun _ _ _ h=>h) (fun _ _ h=>h) ?_;intro aX aj p2 c2 az heq1 aF h3;subst aQ;refine zS<|wP [2] rfl<|xD<|yX 0 rfl ?_;intro bG aJ hl0;have h7:=SL.of_frozen hl0 aJ h3;obtain rfl:=zC aM;exact xA ⟨_,_,(.tmp rfl ResV.nil),zQ,⟨_,rfl,rfl,h7⟩⟩
def jY (r:Int×Bool):KT:=fun kk I' ah v=>
  ∃ v0 v1,ah=[]/\v=tupV [v0,v1]/\v0=.int .i64 r.1/\v1=.bool r.2
def nA (s1:Str) (n0:Int) (i:Int):Option (Out Int (Int×Bool)):=do
 if (decide (i<(s1.l.length:Int))) then
  let t54<-(do
    let b2<-sidx s1 i
    if (decide ((b2.toNat:Int)<48)) then
     pure true
    else
     let b3<-sidx s1 i
     pure (decide ((b3.toNat:Int)>57))
      : Option Bool)
  if t54 then
   pure (.ret (0,false))
  else
   let b4<-sidx s1 i
   nA s1 (W ((W (n0*10))+(W (IntKind.u8.wrap ((b4.toNat:Int) - 48))))) (W (i+1))
 else
  pure (.done n0)
 partial_fixpoint
theorem zFL (s1:Str):∀ (n0:Int) (i:Int) (o:Out Int (Int×Bool)),nA s1 n0 i=some o->∀ {B}{I0 I:Imm}{Q}{neg:Bool} ,I0.le I->NG Q->NO Q->(∀ (I':Imm) (n01:Int),o=(.done n01)->I0.le I'->T 67 B Q (.exit 0) I' [] [(4,.bool neg),(5,vI n01)])->(∀ r I' ah m',o=(.ret r)->I0.le I'->RS Tryz.prog f237 B (jY  r) I' ah m'->T 67 B Q .ret I' ah m')->J Tryz.prog 67 B (nav (bodyOf f237) [1,1,1,1,1,0,1,0]) Q I [] [(0,vT s1.l),(4,.bool neg),(5,vI n0),(6,vI i)]:=by
 refine nA.partial_correctness s1 _ fun aI ih n0 i o N B I0 I Q neg H hg ho hx hr=>yO hg ho<|yB<|yG [42] rfl<|zH<|yE N ?_ ?_
 · intro hc7 N;refine zT<|zZ<|yH<|yB<|yB ?_;refine wR N [] (fun t54=>[(0,vT s1.l),(4,.bool neg),(5,vI n0),(6,vI i),(54,.bool t54)]) (fun o03 ho03=>?_) ?_
   · have H:=iS I;refine zJ<|yC 2 [] [45,46] rfl ?_;obtain ⟨b2,bi,N⟩:=zB ho03;refine zBL rfl rfl bi<|yC 5 [] [49] rfl<|xW [49] N ?_ ?_
     · intro hc8 N;exact wI [] [(54,vY)]<|yN<|zV (ct N H)
     intro hc8 N;exact yC 7 [] [50,51] rfl<|bE N fun b3 bu N=>zBL rfl rfl bu<|yI [] [54] rfl<|yN<|zV (ct N H)
   intro t54 bG aJ hMc3;have H:=H.trans aJ;refine zH<|yE hMc3 ?_ ?_
   · intro hc9 N;exact yG [2,3] rfl<|xD<|zG<|zW<|zG<|zG<|hr _ _ _ _ (zC N).symm H ⟨_,_,(.tmp rfl (.tmp rfl ResV.nil)),zQ,⟨_,_,rfl,rfl,rfl,rfl⟩⟩
   intro hc9 N;exact zT<|zH<|zJ<|yC 4 [] [56,57,58] rfl<|bE N fun b4 bJ N=>zBL rfl rfl bJ<|yI [] [5] rfl<|zN<|zH<|zJ<|yI [] [6] rfl<|yM<|nT<|ih (W ((W (n0*10))+(W (IntKind.u8.wrap ((b4.toNat:Int) - 48))))) (W (i+1)) _ N H  hg ho hx hr
 intro hc7 N;exact wL<|yN<|hx _ _ (zC N).symm H
def fE (s:Str):Option (Int×Bool):=do
 let neg<-(do
   if (decide ((s.l.length:Int)>0)) then
    let b<-sidx s 0
    pure ((b.toNat:Int)==45)
   else
    pure false
     : Option Bool)
 let s1<-(do
   if neg then
    let s2<-sslc s 1 (s.l.length:Int)
    pure (id s2)
   else
    pure (id s)
     : Option Str)
 let t38<-(do
   if ((s1.l.length:Int)==0) then
    pure true
   else
    if (decide ((s1.l.length:Int)>17)) then
     pure true
    else
     let b1<-sidx s1 0
     if ((b1.toNat:Int)==48) then
      if (decide ((s1.l.length:Int)>1)) then
       pure true
      else
       pure (id neg)
     else
      pure false
     : Option Bool)
 if t38 then
  pure (0,false)
 else
  match<-nA s1 0 0 with
  | .ret r0=>pure r0
  | .done n01 =>
   let n02<-(do
     if neg then
      pure (W (0 - n01))
     else
      pure (id n01)
       : Option Int)
   pure (n02,true)
theorem zDJ:∀ s r,fE s=some r->∀ {I:Imm} ,RT 237 [vT s.l] I [] (jY  r):=by
 intro s r N I;unfold fE at N;refine yK func237 fun B=>?_;have H:=iS I;refine wQ []<|zH<|yB ?_;refine wR N [] (fun neg=>[(0,vT s.l),(4,.bool neg)]) (fun o0 aD=>?_) ?_
 · have H:=iS I;refine zJ<|yC 4 [] [10] rfl<|xW [10] aD ?_ ?_
   · intro hc N;exact yC 5 [] [11] rfl<|bE N fun b hy N=>zBL rfl rfl hy<|yI [] [4] rfl<|yN<|zV (ct N H)
   intro hc N;exact wI [] [(4,vF)]<|yN<|zV (ct N H)
 intro neg I0 le aV;have H:=H.trans le;refine zZ<|yG [15] rfl<|zH ?_;refine wR aV [] (fun s1=>[(0,vT s1.l),(4,.bool neg)]) (fun aQ aB=>?_) ?_
 · have H:=iS I0;refine yE aB ?_ ?_
   · intro aH N;exact zJ<|yC 1 [] [16] rfl<|bE N fun s2 aA N=>zIe rfl aA<|yI [] [0] rfl<|yN<|zV (ct N H)
   intro aH N;exact zT<|yN<|zV (ct N H)
 intro s1 aW ae hMc1;have H:=H.trans ae;refine zZ<|yB ?_;refine wR hMc1 [] (fun t38=>[(0,vT s1.l),(4,.bool neg),(38,.bool t38)]) (fun o02 ho02=>?_) ?_
 · have H:=iS aW;refine zJ<|yC 4 [] [21] rfl<|xW [21] ho02 ?_ ?_
   · intro aZ N;exact wI [] [(38,vY)]<|yN<|zV (ct N H)
   intro aZ N;refine yC 9 [] [26] rfl<|xW [26] N ?_ ?_
   · intro bK N;exact wI [] [(38,vY)]<|yN<|zV (ct N H)
   intro bK N;refine yC 10 [] [27] rfl<|bE N fun b1 aK N=>zBL rfl rfl aK<|yC 13 [] [30] rfl<|xW [30] N ?_ ?_
   · intro bO N;refine yC 17 [] [34] rfl<|xW [34] N ?_ ?_
     · intro hc5 N;exact wI [] [(38,vY)]<|yN<|zV (ct N H)
     intro hc5 N;exact yI [] [38] rfl<|yN<|zV (ct N H)
   intro bO N;exact wI [] [(38,vF)]<|yN<|zV (ct N H)
 intro t38 aX aF hMc2;have H:=H.trans aF;refine zH<|yE hMc2 ?_ ?_
 · intro hc6 N;refine yG [2,3] rfl<|xD<|zG ?_;obtain rfl:=zC N;exact xA ⟨_,_,(.tmp rfl (.tmp rfl ResV.nil)),zQ,⟨_,_,rfl,rfl,rfl,rfl⟩⟩
 intro hc6 N;refine zT<|wP [5] rfl<|zZ<|yG [6] rfl<|xY<|qI [(0,vT s1.l),(4,.bool neg),(5,vI 0),(6,vI 0)] ?_;obtain ⟨o04,ho04,aM⟩:=zB N;refine zFL s1 0 0 o04 ho04 iR  (fun _ _ _ h=>h) (fun _ _ h=>h) ?_ ?_
 · intro bL n01 heq4 bd;subst o04;have H:=H.trans bd;refine zS<|zZ<|yG [63] rfl<|zH ?_;refine wR aM [] (fun n02=>[(5,vI n02)]) (fun o05 ho05=>?_) ?_
   · have H:=iS bL;refine yE ho05 ?_ ?_
     · intro hc10 N;exact zJ<|yI [] [5] rfl<|yN<|zV (ct N H)
     intro hc10 N;exact zT<|yN<|zV (ct N H)
   intro n02 bR bw hMc4;refine wP [2,3] rfl<|zH<|yY ?_;obtain rfl:=zC hMc4;exact xA ⟨_,_,(.tmp rfl (.tmp rfl ResV.nil)),zQ,⟨_,_,rfl,rfl,rfl,rfl⟩⟩
 intro r0 I9 hs9 m9 aY le9 ba;subst aY;refine zW<|zG ?_;obtain rfl:=zC aM;exact xA ba
def zFM (r:zF):KT:=fun kk I' ah v=>
  ∃ v0,ah=[]/\v=tupV [v0]/\(∃ cs,v0=.agg ⟨cs⟩/\Rp.rep I' cs r)
def qD (w0:(List Str)) (i:Int) (Name:Str) (Dims:List Int):Option ((Str×List Int)):=do
 let t15<-(do
   if (decide (i<(w0.length:Int))) then
    pure (decide (i<=4))
   else
    pure false
     : Option Bool)
 if t15 then
  if (i==1) then
   let x<-idx w0 1
   qD w0 (W (i+1)) x Dims
  else
   let x1<-idx w0 i
   let (y1,y2)<-fE x1
   let l<-app 8 Dims ([y1]:List Int)
   qD w0 (W (i+1)) Name l
 else
  pure (Name,Dims)
 partial_fixpoint
theorem zEZ (w0:(List Str)):∀ (i:Int) (Name:Str) (Dims:List Int) (o:(Str×List Int)),qD w0 i Name Dims=some o->∀ {B}{I0 I:Imm}{Q p c}{b:Nat}{b1:Nat}{p1 c1 cs},I0.le I->(S4 I p w0 c)->(RL I cs Dims)->NG Q->NO Q->(∀ (I':Imm) (Name1:Str) (Dims1:List Int) (p2:Option Addr) (c2:Nat) (az:List Value),o=(Name1,Dims1)->I0.le I'->(RL I' az Dims1)->T 39 B Q (.exit 0) I' [hO Int (vS p2 Dims1 c2) az,hB b1 [vT Name1.l,vS p2 Dims1 c2],hB b [vT ([]),z0]] [(2,vP b 0),(3,vP b1 0)])->J Tryz.prog 39 B (nav (bodyOf f211) [1,1,0,1,0]) Q I [hO Int (vS p1 Dims c1) cs,hB b1 [vT Name.l,vS p1 Dims c1],hB b [vT ([]),z0]] [(0,vS p w0 c),(2,vP b 0),(3,vP b1 0),(4,vI i)]:=by
 refine qD.partial_correctness w0 _ fun aI ih i Name Dims o N B I0 I Q p c b b1 p1 c1 cs H h h2 hg ho hx=>yO hg ho<|yB<|yB ?_;refine wR N [hO Int (vS p1 Dims c1) cs,hB b1 [vT Name.l,vS p1 Dims c1],hB b [vT ([]),z0]] (fun t15=>[(0,vS p w0 c),(2,vP b 0),(3,vP b1 0),(4,vI i),(15,.bool t15)]) (fun o0 aD=>?_) ?_
 · have H:=iS I;refine zJ<|yC 5 [] [12] rfl<|xW [12] aD ?_ ?_
   · intro hc N;exact yI [] [15] rfl<|yN<|zV (ct N H)
   intro hc N;exact wI [] [(15,vF)]<|yN<|zV (ct N H)
 intro t15 I0 le aV;have ⟨h,h2,H⟩:=m3 le h h2 H;refine zH<|yE aV ?_ ?_
 · intro aH N;refine zT<|zZ<|yH<|yB<|yG [19] rfl<|zH<|yE N ?_ ?_
   · intro aZ N;refine yF<|yC 1 [] [20] rfl<|bE N fun x hy N=>xL rfl rfl h hy ?_;intro ad aP aq am;obtain rfl:=am;exact xE 0 aq [vT x.l] (vT x.l) rfl<|yC 4 [] [23] rfl<|xJ 1 [vT x.l,vS p1 Dims c1] rfl<|yD rfl<|zH<|zEM<|jA<|zS<|zH<|zJ<|yI [] [4] rfl<|yM<|nT<|ih (W (i+1)) x Dims _ N H h h2 hg ho hx
   intro aZ N;refine zT<|yV<|yC 2 [] [25,26] rfl<|bE N fun x1 aA N=>xL rfl rfl h aA ?_;intro ad1 bv av ax;obtain rfl:=ax;refine xE 0 av [vT x1.l] (vT x1.l) rfl ?_;obtain ⟨⟨y1,y2⟩,aK,N⟩:=zB N;refine xM (zDJ x1 _ aK ) ?_;rintro aW ay v2 k2 ae - ⟨v0,v01,rfl,rfl,rfl,rfl⟩ -;have ⟨h,h2,H⟩:=m3 ae h h2 H;refine yI [] [5] rfl<|zH<|zJ<|yC 3 [1] [33,34] rfl<|uO [vI y1] Int ?_;intro b2 hb2;have h6:RL aW [vI y1] ([y1]:List Int):=rI [y1];obtain ⟨l,bi,N⟩:=zB N;refine sO 3 1 1 rfl rfl rfl h2 (.inr ⟨0,rfl⟩) h6 bi ?_;intro p3 c3 aR h7;exact sE (zY [1,2,3] (ah:=[hO Int (vS p3 l c3) aR,hB b1 [vT Name.l,vS p1 Dims c1],hB b [vT ([]),z0]]))<|yC 6 [] [37] rfl<|xJ 1 [vT Name.l,vS p3 l c3] rfl<|yD rfl<|zN<|zH<|zJ<|yI [] [4] rfl<|yM<|nT<|ih (W (i+1)) Name l _ N H h h7 hg ho hx
 intro aH N;exact wL<|yN<|hx _ _ _ _ _ _ (zC N).symm H h2
def fW (w0:(List Str)):Option (zF):=do
 let (Name1,Dims1)<-qD w0 1 (⟨[]⟩:Str) ([]:List Int)
 pure (zF.mk Name1 Dims1)
theorem zGv:∀ w0 r,fW w0=some r->∀ {I:Imm}{p c},(S4 I p w0 c)->RT 211 [vS p w0 c] I [] (zFM  r):=by
 intro w0 r N I p c h;unfold fW at N;refine yK func211 fun B=>yF<|wS [vT ([]),z0] ?_;intro b hb;refine yD rfl<|yV<|yC 1 [] [7] rfl<|wS [vT ([]),z0] ?_;intro b1 hb1;refine xJ 0 [vT ([]),z0] rfl<|yD rfl<|zZ<|yG [4] rfl<|xY<|qI [(0,vS p w0 c),(2,vP b 0),(3,vP b1 0),(4,vI 1)]<|zAM Int fun h1=>?_;obtain ⟨aQ,aB,aM⟩:=zB N;refine zEZ w0 1 (⟨[]⟩:Str) ([]:List Int) aQ aB iR h h1 (fun _ _ _ h=>h) (fun _ _ h=>h) ?_;intro aX Name1 Dims1 p2 c2 az heq1 aF h3;subst aQ;refine zS<|yV<|rH 1 [1] [(38,vA [vT Name1.l,vS p2 Dims1 c2])]<|xJ 2 [vT Name1.l,vS p2 Dims1 c2] rfl<|yD rfl<|xD<|yX 0 rfl ?_;intro bG aJ hl0;have h8:=SL.of_frozen hl0 aJ h3;obtain rfl:=zC aM;exact xA ⟨_,_,(.cell 1 rfl rfl (by kernel_rfl) ResV.nil),zQ,⟨_,rfl,rfl,⟨_,rfl,(qU ⟨_,rfl,h8⟩)⟩⟩⟩
def dR (r:Int×Int):KT:=fun kk I' ah v=>
  ∃ v0 v1,ah=[]/\v=tupV [v0,v1]/\v0=.int .i64 r.1/\v1=.int .i64 r.2
def pC (s:Str) (at0:Int) (end0:Int):Option (Int):=do
 let t31<-(do
   if (decide (end0<(s.l.length:Int))) then
    if (decide (end0<(W (at0+2)))) then
     let b<-sidx s end0
     if (decide ((b.toNat:Int)>=48)) then
      let b1<-sidx s end0
      pure (decide ((b1.toNat:Int)<=57))
     else
      pure false
    else
     pure false
   else
    pure false
     : Option Bool)
 if t31 then
  pC s at0 (W (end0+1))
 else
  pure (id end0)
 partial_fixpoint
theorem zDs (s:Str) (at0:Int):∀ (end0:Int) (o:Int),pC s at0 end0=some o->∀ {B}{I0 I:Imm}{Q}  ,I0.le I->NG Q->NO Q->(∀ (I':Imm) (end01:Int),o=end01->I0.le I'->T 47 B Q (.exit 0) I' [] [(0,vT s.l),(1,vI at0),(6,vI end01)])->J Tryz.prog 47 B (nav (bodyOf f262) [1,1,0,0]) Q I [] [(0,vT s.l),(1,vI at0),(6,vI end0)]:=by
 refine pC.partial_correctness s at0 _ fun aI ih end0 o N B I0 I Q H hg ho hx=>yO hg ho<|yB<|yB ?_;refine wR N [] (fun t31=>[(0,vT s.l),(1,vI at0),(6,vI end0),(31,.bool t31)]) (fun o0 aD=>?_) ?_
 · have H:=iS I;refine zJ<|yC 5 [] [14] rfl<|xW [14] aD ?_ ?_
   · intro hc N;refine yC 11 [] [20] rfl<|xW [20] N ?_ ?_
     · intro aH N;refine yC 13 [] [21,22] rfl<|bE N fun b hy N=>zBL rfl rfl hy<|yC 17 [] [26] rfl<|xW [26] N ?_ ?_
       · intro aZ N;exact yC 19 [] [27,28] rfl<|bE N fun b1 aA N=>zBL rfl rfl aA<|yI [] [31] rfl<|yN<|zV (ct N H)
       intro aZ N;exact wI [] [(31,vF)]<|yN<|zV (ct N H)
     intro aH N;exact wI [] [(31,vF)]<|yN<|zV (ct N H)
   intro hc N;exact wI [] [(31,vF)]<|yN<|zV (ct N H)
 intro t31 I0 le aV;have H:=H.trans le;refine zH<|yE aV ?_ ?_
 · intro bK N;exact zT<|xY<|zJ<|yI [] [6] rfl<|zN<|yM<|nT<|ih (W (end0+1)) _ N H  hg ho hx
 intro bK N;exact wL<|yN<|hx _ _ (zC N).symm H
def kU (s:Str) (at0:Int):Option (Int×Int):=do
 let end01<-pC s at0 at0
 let s1<-sslc s at0 end01
 let (y1,y2)<-fE s1
 if (!y2) then
  pure (1,at0)
 else
  pure (y1,end01)
theorem zBz:∀ s at0 r,kU s at0=some r->∀ {I:Imm} ,RT 262 [vT s.l,vI at0] I [] (dR  r):=by
 intro s at0 r N I;unfold kU at N;refine yK func262 fun B=>wQ []<|wP [6] rfl<|zZ<|yH<|qI [(0,vT s.l),(1,vI at0),(6,vI at0)] ?_;obtain ⟨aQ,aB,aM⟩:=zB N;refine zDs s at0 at0 aQ aB iR  (fun _ _ _ h=>h) (fun _ _ h=>h) ?_;intro aW end01 heq1 ae;subst aQ;refine zS<|yV<|yC 3 [] [35,36,37] rfl ?_;obtain ⟨s1,aK,N⟩:=zB aM;refine zIe rfl aK ?_;obtain ⟨⟨y1,y2⟩,bi,N⟩:=zB N;refine xM (zDJ s1 _ bi ) ?_;rintro aX ay v2 k2 aF - ⟨v0,v01,rfl,rfl,rfl,rfl⟩ -;refine yI [] [7,8] rfl<|zZ<|yG [43] rfl<|zH<|yE N ?_ ?_
 · intro bO N;refine yG [4,5] rfl<|xD<|zG ?_;obtain rfl:=zC N;exact xA ⟨_,_,(.tmp rfl (.tmp rfl ResV.nil)),zQ,⟨_,_,rfl,rfl,rfl,rfl⟩⟩
 intro bO N;refine zT<|wP [4,5] rfl<|zH<|yY ?_;obtain rfl:=zC N;exact xA ⟨_,_,(.tmp rfl (.tmp rfl ResV.nil)),zQ,⟨_,_,rfl,rfl,rfl,rfl⟩⟩
def yQ (r:Int):KT:=fun kk I' ah v=>
  ∃ v0,ah=[]/\v=tupV [v0]/\v0=.int .i64 r
def eX (s:Str) (at0:Int):Option (Int):=do
 let t20<-(do
   if (decide (at0>=(s.l.length:Int))) then
    pure true
   else
    let b<-sidx s at0
    if (decide ((b.toNat:Int)<105)) then
     pure true
    else
     let b1<-sidx s at0
     pure (decide ((b1.toNat:Int)>108))
     : Option Bool)
 if t20 then
  pure (-1)
 else
  let b2<-sidx s at0
  pure (W ((W (b2.toNat:Int)) - 105))
theorem zHl:∀ s at0 r,eX s at0=some r->∀ {I:Imm} ,RT 272 [vT s.l,vI at0] I [] (yQ  r):=by
 intro s at0 r N I;unfold eX at N;refine yK func272 fun B=>?_;have H:=iS I;refine wQ []<|zZ<|yB ?_;refine wR N [] (fun t20=>[(0,vT s.l),(1,vI at0),(20,.bool t20)]) (fun o0 aD=>?_) ?_
 · have H:=iS I;refine zJ<|yC 5 [] [9] rfl<|xW [9] aD ?_ ?_
   · intro hc N;exact wI [] [(20,vY)]<|yN<|zV (ct N H)
   intro hc N;refine yC 7 [] [10,11] rfl<|bE N fun b hy N=>zBL rfl rfl hy<|yC 11 [] [15] rfl<|xW [15] N ?_ ?_
   · intro aH N;exact wI [] [(20,vY)]<|yN<|zV (ct N H)
   intro aH N;exact yC 13 [] [16,17] rfl<|bE N fun b1 aA N=>zBL rfl rfl aA<|yI [] [20] rfl<|yN<|zV (ct N H)
 intro t20 I0 le aV;refine zH<|yE aV ?_ ?_
 · intro aZ N;refine yG [4] rfl<|xD<|zG ?_;obtain rfl:=zC N;exact wF
 intro aZ N;refine zT<|yV<|yC 2 [] [21,22] rfl<|bE N fun b2 aK N=>zBL rfl rfl aK<|yI [] [4] rfl<|zH<|yY ?_;obtain rfl:=zC N;exact wF
def zFN (r:zA×Int):KT:=fun kk I' ah v=>
  ∃ v0 v1,ah=[]/\v=tupV [v0,v1]/\(∃ cs,v0=.agg ⟨cs⟩/\Rp.rep I' cs r.1)/\v1=.int .i64 r.2
def fX (a0:zA) (s:Str) (at0:Int):Option (zA×Int):=do
 let b2<-sidx s at0
 let sign<-(do
   if ((b2.toNat:Int)==45) then
    pure (-1)
   else
    pure (id 1)
     : Option Int)
 let t27<-(do
   let b3<-sidx s at0
   if ((b3.toNat:Int)==45) then
    pure true
   else
    let b4<-sidx s at0
    pure ((b4.toNat:Int)==43)
     : Option Bool)
 let at01<-(do
   if t27 then
    pure (W (at0+1))
   else
    pure (id at0)
     : Option Int)
 let (y1,y2)<-kU s at01
 let t51<-(do
   if (decide (y2>at01)) then
    if (decide (y2<(s.l.length:Int))) then
     let b5<-sidx s y2
     pure ((b5.toNat:Int)==42)
    else
     pure false
   else
    pure false
     : Option Bool)
 let star<-(do
   if t51 then
    pure (W (y2+1))
   else
    pure (id y2)
     : Option Int)
 let y3<-eX s star
 let l<-app 8 ([]:List Int) a0.Coefs
 let t75<-(do
   if (decide (y3>=0)) then
    if (decide (star>y2)) then
     pure true
    else
     pure (y2==at01)
   else
    pure false
     : Option Bool)
 if t75 then
  let x<-idx l y3
  let x1<-idx l y3
  let l1<-pure (l.set y3.toNat (W (x+(W (sign*y1)))))
  pure ((zA.mk l1 a0.Const),(W (star+1)))
 else
  if (y2==at01) then
   pure (a0,(-1))
  else
   pure ((zA.mk l (W (a0.Const+(W (sign*y1))))),y2)
theorem zGw:∀ a0 s at0 r,fX a0 s at0=some r->∀ {I:Imm}{p c},(S4 I p a0.Coefs c)->RT 270 [vA (cAff a0 p c),vT s.l,vI at0] I [] (zFN  r):=by
 intro a0 s at0 r N I p c h;unfold fX at N;refine yK func270 fun B=>?_;have H:=iS I;refine yF<|tT (cAff a0 p c) ?_;intro b hb;refine wS [z0,vI 0] ?_;intro b1 hb1;refine wI [] []<|wP [8] rfl<|zZ<|yF<|yC 2 [] [14,15] rfl<|bE N fun b2 hy N=>zBL rfl rfl hy<|yI [] [17] rfl<|zH ?_;refine wR N [hB b1 [z0,vI 0],hB b (cAff a0 p c)] (fun sign=>[(1,vT s.l),(2,vI at0),(3,vP b 0),(6,vP b1 0),(8,vI sign)]) (fun o0 aD=>?_) ?_
 · have H:=iS I;refine yE aD ?_ ?_
   · intro hc N;exact zJ<|yI [] [8] rfl<|yN<|zV (ct N H)
   intro hc N;exact zT<|yN<|zV (ct N H)
 intro sign I0 le aV;have ⟨h,H⟩:=m2 le h H;refine zZ<|yB ?_;refine wR aV [hB b1 [z0,vI 0],hB b (cAff a0 p c)] (fun t27=>[(1,vT s.l),(2,vI at0),(3,vP b 0),(6,vP b1 0),(8,vI sign),(27,.bool t27)]) (fun aQ aB=>?_) ?_
 · have H:=iS I0;refine zJ<|yC 2 [] [18,19] rfl ?_;obtain ⟨b3,aA,N⟩:=zB aB;refine zBL rfl rfl aA<|yC 5 [] [22] rfl<|xW [22] N ?_ ?_
   · intro aH N;exact wI [] [(27,vY)]<|yN<|zV (ct N H)
   intro aH N;exact yC 7 [] [23,24] rfl<|bE N fun b4 aK N=>zBL rfl rfl aK<|yI [] [27] rfl<|yN<|zV (ct N H)
 intro t27 aW ae hMc1;have ⟨h,H⟩:=m2 ae h H;refine zH ?_;refine wR hMc1 [hB b1 [z0,vI 0],hB b (cAff a0 p c)] (fun at01=>[(1,vT s.l),(2,vI at01),(3,vP b 0),(6,vP b1 0),(8,vI sign)]) (fun o02 ho02=>?_) ?_
 · have H:=iS aW;refine yE ho02 ?_ ?_
   · intro aZ N;exact zJ<|yI [] [2] rfl<|yN<|zV (ct N H)
   intro aZ N;exact zT<|yN<|zV (ct N H)
 intro at01 aX aF hMc2;have ⟨h,H⟩:=m2 aF h H;refine yV<|yC 2 [] [31,32] rfl ?_;obtain ⟨⟨y1,y2⟩,bi,N⟩:=zB hMc2;refine xM (zBz s at01 _ bi ) ?_;rintro bG ay v2 k2 aJ - ⟨v0,v01,rfl,rfl,rfl,rfl⟩ -;have ⟨h,H⟩:=m2 aJ h H;refine yI [] [9,10] rfl<|wP [11] rfl<|zZ<|yB ?_;refine wR N [hB b1 [z0,vI 0],hB b (cAff a0 p c)] (fun t51=>[(1,vT s.l),(2,vI at01),(3,vP b 0),(6,vP b1 0),(8,vI sign),(9,vI y1),(10,vI y2),(11,vI y2),(51,.bool t51)]) (fun o03 ho03=>?_) ?_
 · have H:=iS bG;refine zJ<|yC 4 [] [40] rfl<|xW [40] ho03 ?_ ?_
   · intro bK N;refine yC 10 [] [46] rfl<|xW [46] N ?_ ?_
     · intro bO N;exact yC 12 [] [47,48] rfl<|bE N fun b5 bu N=>zBL rfl rfl bu<|yI [] [51] rfl<|yN<|zV (ct N H)
     intro bO N;exact wI [] [(51,vF)]<|yN<|zV (ct N H)
   intro bK N;exact wI [] [(51,vF)]<|yN<|zV (ct N H)
 intro t51 bL bd hMc3;have ⟨h,H⟩:=m2 bd h H;refine zH ?_;refine wR hMc3 [hB b1 [z0,vI 0],hB b (cAff a0 p c)] (fun star=>[(1,vT s.l),(2,vI at01),(3,vP b 0),(6,vP b1 0),(8,vI sign),(9,vI y1),(10,vI y2),(11,vI star)]) (fun o04 ho04=>?_) ?_
 · have H:=iS bL;refine yE ho04 ?_ ?_
   · intro hc5 N;exact zJ<|yI [] [11] rfl<|yN<|zV (ct N H)
   intro hc5 N;exact zT<|yN<|zV (ct N H)
 intro star bR bw hMc4;have ⟨h,H⟩:=m2 bw h H;refine yV<|yC 2 [] [54,55] rfl ?_;obtain ⟨y3,bJ,N⟩:=zB hMc4;refine fB (zHl s star _ bJ ) ?_;intro I06 bC;have ⟨h,H⟩:=m2 bC h H;refine yI [] [12] rfl<|zZ<|bE N fun l hy6 N=>wT [.x (fun I' v hx=>∃ b6,v=vS (some ⟨b6,0,none⟩) ([]:List Int) 0/\hx=[hO Int (vS (some ⟨b6,0,none⟩) ([]:List Int) 0) []]/\(RL I' [] ([]:List Int))),.p (vP b 0) [],.p (vS p a0.Coefs c) [1],.x (fun I' v hx=>∃ p1 c1 cs,v=vS p1 l c1/\hx=[hO Int (vS p1 l c1) cs]/\(RL I' cs l)),.p (vP b 1) [],.p (vI a0.Const) [1],.x (fun I' v hx=>∃ aT bf az,v=vA [vS aT l bf,vI a0.Const]/\hx=[hO Int (vS aT l bf) az]/\(RL I' az l)),.x (fun I' v hx=>∃ b7,v=vP b7 0/\hx=[hB b7 [z0,vI 0]])] [[],[],[(1,false)],[(0,true),(2,false)],[],[(4,false)],[(3,true),(5,false)],[]] [hB b1 [z0,vI 0],hB b (cAff a0 p c)] [] [(6,true),(7,true)] (zY [0,1]) ?_ ?_
 · refine Ox ?_<|Op<|Op<|Ox ?_<|Op<|Op<|Ox ?_<|Ox ?_<|On
   · intro I1 hf ae;refine I_h []<|uO [] Int ?_;intro b6 hb2;have h4:RL I1 [] ([]:List Int):=rfl;exact yL [hO Int (vS (some ⟨b6,0,none⟩) ([]:List Int) 0) []] iR ⟨_,rfl,rfl,h4⟩
   · rintro I1 hf ae _ _ ⟨b6,rfl,rfl,h4⟩;refine yW [57,59] rfl ?_;have h:=h.mono ae;obtain ⟨aP,k0,k01⟩:=h;have h:SL I1 (vS p a0.Coefs c) a0.Coefs:=⟨_,k0,k01⟩;exact sO 3 1 0 rfl rfl rfl h4 (.inl k0) k01 hy6 fun p1 c1 cs h5=>wK (ah:=(hO Int (vS p1 l c1) cs::hB b1 [z0,vI 0]::hB b (cAff a0 p c)::hf)) rfl<|yL [hO Int (vS p1 l c1) cs] iR ⟨_,_,_,rfl,rfl,h5⟩
   · rintro I1 hf ae _ _ ⟨p1,c1,cs,rfl,rfl,h5⟩;exact yW [60,62] rfl<|mF 7 [(63,vA [vS p1 l c1,vI a0.Const])]<|yL [hO Int (vS p1 l c1) cs] iR ⟨_,_,_,rfl,rfl,h5⟩
   intro I1 hf ae;refine I_h []<|wS [z0,vI 0] ?_;intro b7 hb3;exact yL [hB b7 [z0,vI 0]] iR ⟨_,rfl,rfl⟩
 rintro I07 le7 _ _ ⟨aT,bf,az,rfl,rfl,h51⟩ _ _ ⟨b7,rfl,rfl⟩;refine yW [2,3,6,8,9,10,11,12,13,63] rfl ?_;have ⟨h,H⟩:=m2 le7 h H;refine xJ 0 [vS aT l bf,vI a0.Const] rfl<|yD rfl<|zZ<|yB ?_;refine wR N [hB b7 [vS aT l bf,vI a0.Const],hO Int (vS aT l bf) az,hB b1 [z0,vI 0],hB b (cAff a0 p c)] (fun t75=>[(2,vI at01),(3,vP b 0),(6,vP b1 0),(8,vI sign),(9,vI y1),(10,vI y2),(11,vI star),(12,vI y3),(13,vP b7 0),(75,.bool t75)]) (fun o05 ho05=>?_) ?_
 · have H:=iS I07;refine zJ<|yC 3 [] [66] rfl<|xW [66] ho05 ?_ ?_
   · intro hc6 N;refine yC 7 [] [70] rfl<|xW [70] N ?_ ?_
     · intro hc7 N;exact wI [] [(75,vY)]<|yN<|zV (ct N H)
     intro hc7 N;exact yI [] [75] rfl<|yN<|zV (ct N H)
   intro hc6 N;exact wI [] [(75,vF)]<|yN<|zV (ct N H)
 intro t75 I08 le8 hMc5;have ⟨h51,h⟩:=m2 le8 h51 h;refine zH<|yE hMc5 ?_ ?_
 · intro hc8 N;refine yB<|bE N fun x hy7 N=>wT [.p (vP b7 0) [],.p (vS aT l bf) [0],.p (vI y3) [],.p (vP b7 0) [],.p (vS aT l bf) [0],.p (vI y3) [],.x (fun I' v hx=>∃ ad,v=.pointer (some ad)/\hx=[]/\(AtO (vS aT l bf) (Rp.sz Int) y3.toNat ad)/\((az.drop (y3.toNat*Rp.sz Int)).take (Rp.sz Int)=[vI x])),.q (vI x),.p (vI sign) [],.p (vI y1) [],.p (vI (W (sign*y1))) [],.p (vI (W (x+(W (sign*y1))))) []] [[],[(0,false)],[],[],[(3,false)],[],[(4,false),(5,false)],[(6,false)],[],[],[(8,false),(9,false)],[(7,false),(10,false)]] [hB b7 [vS aT l bf,vI a0.Const],hO Int (vS aT l bf) az,hB b1 [z0,vI 0],hB b (cAff a0 p c)] [] [(1,false),(2,false),(11,false)] (zY [0,1,2,3]) ?_ ?_
   · refine Op<|Op<|Op<|Op<|Op<|Op<|Ox ?_<|Oq ?_<|Op<|Op<|Op<|Op<|On
     · intro I1 hf ae;refine yW [80,81] rfl ?_;have h51:=iM ae h51;refine oH 1 rfl rfl rfl h51 hy7 ?_;intro ad bv aq bM am;obtain rfl:=am;exact yL [] iR ⟨_,rfl,rfl,aq,bM⟩
     rintro I1 hf ae _ _ ⟨ad,rfl,rfl,aq,bM⟩;exact yW [82] rfl<|zAX 1 0 aq bM [vI x] (vI x) rfl rfl<|xF iR
   intro I09 le9;refine yW [6,11,13,77,78,87] rfl ?_;have h51:=iM le9 h51;obtain ⟨x1,hy8,N⟩:=zB N;refine oH 1 rfl rfl rfl h51 hy8 ?_;intro ad1 bP av hcc1 ax;obtain rfl:=ax;obtain ⟨l1,hy9,N⟩:=zB N;refine tW (c:=[vI (W (x+(W (sign*y1))))]) (x':=(W (x+(W (sign*y1))))) 1 0 rfl rfl rfl av rfl rfl hcc1 (by kernel_rfl) (by kernel_rfl) (by kernel_rfl) h51 hy8 (by kernel_rfl) rfl ?_;rw [show l.set y3.toNat (W (x+(W (sign*y1))))=l1 from zC hy9];intro aR h6 hl0;refine kH (m':=[(6,vP b1 0),(11,vI star),(13,vP b7 0),(77,vS aT l bf),(78,vI y3),(87,vI (W (x+(W (sign*y1)))))]) ⟨rfl,rfl,rfl,rfl,rfl,rfl,trivial⟩<|zA5 (ah:=[hB b7 [vS aT l1 bf,vI a0.Const],hO Int (vS aT l1 bf) aR,hB b1 [z0,vI 0],hB b (cAff a0 p c)]) (m':=[(6,vP b1 0),(11,vI star),(13,vP b7 0),(77,vS aT l1 bf),(78,vI y3),(87,vI (W (x+(W (sign*y1)))))]) (by first | rfl | simp only [vS,hl0,cu,dj,dq,dg,cY,cZ]) (by first | rfl | simp only [vS,hl0])<|yD rfl<|yV<|rH 3 [0] [(89,vA [vS aT l1 bf,vI a0.Const]),(91,vI (W (star+1)))]<|xJ 2 [vS aT l1 bf,vI a0.Const] rfl<|yI [] [7] rfl<|xD<|zG<|yX 1 rfl ?_;intro bS le10 hl01;have h7:=SL.of_frozen hl01 le10 h6;obtain rfl:=zC N;exact xA ⟨_,_,(.cell 1 rfl rfl (by kernel_rfl) (.tmp rfl ResV.nil)),zQ,⟨_,_,rfl,rfl,⟨_,rfl,(yP ⟨_,rfl,h7⟩)⟩,rfl⟩⟩
 intro hc8 N;refine zT<|zZ<|yG [94] rfl<|zH<|yE N ?_ ?_
 · intro hc9 N;refine yF<|rH 1 [3] [(95,vA (cAff a0 p c))]<|xJ 2 (cAff a0 p c) rfl<|yI [] [7] rfl<|xD<|zG ?_;obtain rfl:=zC N;exact xA ⟨_,_,(.cell 2 rfl rfl (by kernel_rfl) (.tmp rfl ResV.nil)),zQ,⟨_,_,rfl,rfl,⟨_,rfl,(yP ⟨_,rfl,h⟩)⟩,rfl⟩⟩
 intro hc9 N;refine zT<|yV<|yC 7 [0] [101,102] rfl<|xJ 0 [vS aT l bf,vI (W (a0.Const+(W (sign*y1))))] rfl<|yD rfl<|yV<|rH 2 [0] [(103,vA [vS aT l bf,vI (W (a0.Const+(W (sign*y1))))]),(104,vI y2)]<|xJ 2 [vS aT l bf,vI (W (a0.Const+(W (sign*y1))))] rfl<|yI [] [7] rfl<|xD<|yX 1 rfl ?_;intro bY le11 hl02;have h8:=SL.of_frozen hl02 le11 h51;obtain rfl:=zC N;exact xA ⟨_,_,(.cell 1 rfl rfl (by kernel_rfl) (.tmp rfl ResV.nil)),zQ,⟨_,_,rfl,rfl,⟨_,rfl,(yP ⟨_,rfl,h8⟩)⟩,rfl⟩⟩
def zU (r:Bool):KT:=fun kk I' ah v=>
  ∃ v0,ah=[]/\v=tupV [v0]/\v0=.bool r
def uG (n0:Int) (most:Int):Option (Bool):=do
 let t4<-(do
   if (decide (n0>=(W (0 - most)))) then
    pure (decide (n0<=most))
   else
    pure false
     : Option Bool)
 pure (id t4)
theorem zAP:∀ n0 most r,uG n0 most=some r->∀ {I:Imm} ,RT 191 [vI n0,vI most] I [] (zU  r):=by
 intro n0 most r N I;unfold uG at N;refine yK func191 fun B=>?_;have H:=iS I;refine wQ []<|zH<|yB ?_;refine wR N [] (fun t4=>[(4,.bool t4)]) (fun o0 aD=>?_) ?_
 · have H:=iS I;refine zJ<|yC 5 [] [9] rfl<|xW [9] aD ?_ ?_
   · intro hc N;exact yI [] [4] rfl<|yN<|zV (ct N H)
   intro hc N;exact wI [] [(4,vF)]<|yN<|zV (ct N H)
 intro t4 I0 le aV;refine zH<|yY ?_;obtain rfl:=zC aV;exact wF
def wX (a0:zA) (i:Int):Option (Out Unit (Bool)):=do
 if (decide (i<(a0.Coefs.length:Int))) then
  let x<-idx a0.Coefs i
  let y<-uG x 9
  if (!y) then
   pure (.ret false)
  else
   wX a0 (W (i+1))
 else
  pure (.done ())
 partial_fixpoint
theorem zCY (a0:zA):∀ (i:Int) (o:Out Unit (Bool)),wX a0 i=some o->∀ {B}{I0 I:Imm}{Q p c}{b:Nat},I0.le I->(S4 I p a0.Coefs c)->NG Q->NO Q->(∀ (I':Imm) ,o=(.done ())->I0.le I'->T 27 B Q (.exit 0) I' [hB b (cAff a0 p c)] [(1,vP b 0)])->(∀ r I' ah m',o=(.ret r)->I0.le I'->RS Tryz.prog f225 B (zU  r) I' ah m'->T 27 B Q .ret I' ah m')->J Tryz.prog 27 B (nav (bodyOf f225) [1,0,1,0]) Q I [hB b (cAff a0 p c)] [(1,vP b 0),(3,vI i)]:=by
 refine wX.partial_correctness a0 _ fun aI ih i o N B I0 I Q p c b H h hg ho hx hr=>yO hg ho<|yB<|yF<|yI [0] [8] rfl<|zH<|yE N ?_ ?_
 · intro hc N;refine zT<|zZ<|yH<|yF<|yC 3 [0] [12,13] rfl<|bE N fun x hy N=>xL rfl rfl h hy ?_;intro ad aP aq am;obtain rfl:=am;refine xE 0 aq [vI x] (vI x) rfl<|bE N fun y aA N=>vU (zAP x 9 _ aA ) ?_;intro I0 le;have ⟨h,H⟩:=m2 le h H;refine yI [] [17] rfl<|zH<|yE N ?_ ?_
   · intro aH N;exact wQ [(2,vF)]<|xD<|zW<|zG<|zG<|hr _ _ _ _ (zC N).symm H ⟨_,_,(.tmp rfl ResV.nil),zQ,⟨_,rfl,rfl,rfl⟩⟩
   intro aH N;exact zT<|zN<|zH<|zJ<|yI [] [3] rfl<|yM<|nT<|ih (W (i+1)) _ N H h hg ho hx hr
 intro hc N;exact wL<|yN<|hx _  (zC N).symm H
def uP (a0:zA):Option (Bool):=do
 match<-wX a0 0 with
 | .ret r0=>pure r0
 | .done _ =>
  let t2<-(do
    if ((a0.Coefs.length:Int)==4) then
     let y1<-uG a0.Const 99
     pure (id y1)
    else
     pure false
      : Option Bool)
  pure (id t2)
theorem jT:∀ a0 r,uP a0=some r->∀ {I:Imm}{p c},(S4 I p a0.Coefs c)->RT 225 [vA (cAff a0 p c)] I [] (zU  r):=by
 intro a0 r N I p c h;unfold uP at N;refine yK func225 fun B=>?_;have H:=iS I;refine yF<|tT (cAff a0 p c) ?_;intro b hb;refine wI [] []<|zZ<|yG [3] rfl<|xY<|qI [(1,vP b 0),(3,vI 0)] ?_;obtain ⟨o0,aD,aM⟩:=zB N;refine zCY a0 0 o0 aD iR h (fun _ _ _ h=>h) (fun _ _ h=>h) ?_ ?_
 · intro aW  heq ae;subst o0;have H:=H.trans ae;refine zS<|zH<|yB ?_;refine wR aM [] (fun t2=>[(2,.bool t2)]) (fun aQ aB=>?_) ?_
   · have H:=iS aW;refine zJ<|yC 5 [0] [22] rfl<|xW [22] aB ?_ ?_
     · intro aZ N;refine yC 7 [0] [24] rfl<|bE N fun y1 aK N=>vU (zAP a0.Const 99 _ aK ) ?_;intro bG aF;have H:=H.trans aF;exact yI [] [2] rfl<|xR zQ<|yN<|zV (ct N H)
     intro aZ N;exact wI [] [(2,vF)]<|xR zQ<|yN<|zV (ct N H)
   intro t2 aX aJ aV;refine zH<|yY ?_;obtain rfl:=zC aV;exact wF
 intro r0 I9 hs9 m9 aY le9 ba;subst aY;refine zW<|zG ?_;obtain rfl:=zC aM;exact xA ba
def sG (r:Str):KT:=fun kk I' ah v=>
  ∃ v0,ah=[]/\v=tupV [v0]/\v0=.string ⟨⟨r.l⟩⟩
def nB (n01:Int) (out:Str):Option ((Int×Str)):=do
 if (decide (n01>9)) then
  let s1<-cat (⟨([(u8 (W (48+(n01.tmod 10))))]:List UInt8)⟩:Str) out
  nB (W (n01.tdiv 10)) s1
 else
  pure (n01,out)
 partial_fixpoint
theorem zFO :∀ (n01:Int) (out:Str) (o:(Int×Str)),nB n01 out=some o->∀ {B}{I0 I:Imm}{Q}  ,I0.le I->NG Q->NO Q->(∀ (I':Imm) (n02:Int) (aj:Str),o=(n02,aj)->I0.le I'->T 31 B Q (.exit 0) I' [] [(0,vI n02),(3,vT aj.l)])->J Tryz.prog 31 B (nav (bodyOf f214) [1,1,1,1,0,0]) Q I [] [(0,vI n01),(3,vT out.l)]:=by
 refine nB.partial_correctness  _ fun aI ih n01 out o N B I0 I Q H hg ho hx=>yO hg ho<|yB<|yG [13] rfl<|zH<|yE N ?_ ?_
 · intro aZ N;refine zT<|xY<|yF<|yC 3 [] [16] rfl<|zQO (d:=17) (i:=(W (48+(n01.tmod 10)))) rfl (by kernel_rfl)<|uO [.int .u8 ((u8 (W (48+(n01.tmod 10)))).toNat:Int)] UInt8 ?_;intro b hb;have h1:RL I [.int .u8 ((u8 (W (48+(n01.tmod 10)))).toNat:Int)] ([(u8 (W (48+(n01.tmod 10))))]:List UInt8):=⟨[.int .u8 ((u8 (W (48+(n01.tmod 10)))).toNat:Int)],_,rfl,rfl,rfl,rfl⟩;exact zMB (l:=([(u8 (W (48+(n01.tmod 10))))]:List UInt8)) rfl rfl rfl rfl (by kernel_rfl) (by kernel_rfl) (.inr ⟨0,rfl⟩) h1<|yC 7 [] [20] rfl<|bE N fun s1 aK N=>gK rfl aK<|yI [] [3] rfl<|zH<|zJ<|yI [] [0] rfl<|zN<|yM<|kC zQ<|nT<|ih (W (n01.tdiv 10)) s1 _ N H  hg ho hx
 intro aZ N;exact wL<|yN<|hx _ _ _ (zC N).symm H
def qN (n0:Int):Option (Str):=do
 if (decide (n0<(-9223372036854775807))) then
  pure (⟨[45,57,50,50,51,51,55,50,48,51,54,56,53,52,55,55,53,56,48,56]⟩:Str)
 else
  if (decide (n0<0)) then
   let y<-qN (W (0 - n0))
   let s<-cat (⟨[45]⟩:Str) y
   pure (id s)
  else
   let (n02,aj)<-nB n0 (⟨[]⟩:Str)
   let s2<-cat (⟨([(u8 (W (48+n02)))]:List UInt8)⟩:Str) aj
   pure (id s2)
 partial_fixpoint
theorem dZ:∀ n0 r,qN n0=some r->∀ {I:Imm} ,RT 214 [vI n0] I [] (sG  r):=by
 refine qN.partial_correctness _ fun F_spec_l16Dec ih_spec_l16Dec n0 r N I=>yK func214 fun B=>wQ []<|zZ<|yG [5] rfl<|zH<|yE N ?_ ?_
 · intro hc N;refine yG [2] rfl<|xD<|zG ?_;obtain rfl:=zC N;exact wF
 intro hc N;refine zT<|zZ<|yG [7] rfl<|zH<|yE N ?_ ?_
 · intro aH N;refine yF<|yC 2 [] [9] rfl<|bE N fun y hy N=>xM (ih_spec_l16Dec (W (0 - n0)) _ hy ) ?_;rintro I0 ay v2 k2 le - ⟨v0,rfl,rfl,rfl⟩ -;obtain ⟨s,aA,N⟩:=zB N;refine gK rfl aA<|yI [] [2] rfl<|xD<|zG ?_;obtain rfl:=zC N;exact wF
 intro aH N;refine zT<|wP [3] rfl<|zZ<|yH<|qI [(0,vI n0),(3,vT ([]))] ?_;obtain ⟨o0,aD,aM⟩:=zB N;refine zFO n0 (⟨[]⟩:Str) o0 aD iR  (fun _ _ _ h=>h) (fun _ _ h=>h) ?_;intro aW n02 aj heq ae;subst o0;refine zS<|yV<|yC 2 [] [25] rfl<|zQO (d:=26) (i:=(W (48+n02))) rfl (by kernel_rfl)<|uO [.int .u8 ((u8 (W (48+n02))).toNat:Int)] UInt8 ?_;intro b1 hb1;have h2:RL aW [.int .u8 ((u8 (W (48+n02))).toNat:Int)] ([(u8 (W (48+n02)))]:List UInt8):=⟨[.int .u8 ((u8 (W (48+n02))).toNat:Int)],_,rfl,rfl,rfl,rfl⟩;refine zMB (l:=([(u8 (W (48+n02)))]:List UInt8)) rfl rfl rfl rfl (by kernel_rfl) (by kernel_rfl) (.inr ⟨0,rfl⟩) h2<|yC 6 [] [29] rfl ?_;obtain ⟨s2,bi,N⟩:=zB aM;refine gK rfl bi<|yI [] [2] rfl<|zH<|yY ?_;obtain rfl:=zC N;exact wF
def fF (n0:Int) (name:Str):Option (Str):=do
 let (n01,sign)<-(do
   if (decide (n0<0)) then
    pure ((W (0 - n0)),(⟨[45]⟩:Str))
   else
    pure (n0,(⟨[43]⟩:Str))
     : Option (Int×Str))
 if (name.l==([]:List UInt8)) then
  let y<-qN n01
  let s<-cat sign y
  pure (id s)
 else
  if (n01==1) then
   let s1<-cat sign name
   pure (id s1)
  else
   let y1<-qN n01
   let s2<-cat sign y1
   let s3<-cat s2 (⟨[42]⟩:Str)
   let s4<-cat s3 name
   pure (id s4)
theorem zDK:∀ n0 name r,fF n0 name=some r->∀ {I:Imm} ,RT 263 [vI n0,vT name.l] I [] (sG  r):=by
 intro n0 name r N I;unfold fF at N;refine yK func263 fun B=>?_;have H:=iS I;refine wQ []<|wP [5] rfl<|zZ<|yG [7] rfl<|zH ?_;obtain ⟨o0,aD,aV⟩:=zB N;refine qV (fun I' ah m'=>∃ (n01:Int) (sign:Str),o0=(n01,sign)/\I.le I'/\ah=[]/\m'=[(0,vI n01),(1,vT name.l),(5,vT sign.l)]) ?_ ?_
 · have H:=iS I;refine yE aD ?_ ?_
   · intro hc N;exact yG [5] rfl<|zH<|zJ<|yI [] [0] rfl<|yN<|zV ⟨_,_,(zC N).symm,H,rfl,rfl⟩
   intro hc N;exact zT<|yN<|zV ⟨_,_,(zC N).symm,H,rfl,rfl⟩
 rintro I0 ay m2 ⟨n01,sign,heq,le,rfl,rfl⟩;subst o0;refine zZ<|yG [11] rfl<|zH<|yE aV ?_ ?_
 · intro aH N;refine yF<|yC 2 [] [12,13] rfl<|bE N fun y hy N=>xM (dZ n01 _ hy ) ?_;rintro aW ay v2 k2 ae - ⟨v0,rfl,rfl,rfl⟩ -;obtain ⟨s,aA,N⟩:=zB N;refine gK rfl aA<|yI [] [4] rfl<|xD<|zG ?_;obtain rfl:=zC N;exact wF
 intro aH N;refine zT<|zZ<|yG [17] rfl<|zH<|yE N ?_ ?_
 · intro aZ N;refine yF<|yC 2 [] [18,19] rfl<|bE N fun s1 aK N=>gK rfl aK<|yI [] [4] rfl<|xD<|zG ?_;obtain rfl:=zC N;exact wF
 intro aZ N;refine zT<|yV<|yC 2 [] [21,22] rfl<|bE N fun y1 bi N=>xM (dZ n01 _ bi ) ?_;rintro aX ay v2 k2 aF - ⟨v01,rfl,rfl,rfl⟩ -;obtain ⟨s2,bu,N⟩:=zB N;refine gK rfl bu<|bE N fun s3 bJ N=>gK rfl bJ<|yC 6 [] [26] rfl<|bE N fun s4 hy6 N=>gK rfl hy6<|yI [] [4] rfl<|zH<|yY ?_;obtain rfl:=zC N;exact wF
def nC (a0:zA) (out:Str) (i:Int):Option (Str):=do
 if (decide (i<(a0.Coefs.length:Int))) then
  let x<-idx a0.Coefs i
  let au<-(do
    if (x != 0) then
     let x1<-idx a0.Coefs i
     let s<-sslc (⟨[105,106,107,108]⟩:Str) i (W (i+1))
     let y<-fF x1 s
     let s1<-cat out y
     pure (id s1)
    else
     pure (id out)
      : Option Str)
  nC a0 au (W (i+1))
 else
  pure (id out)
 partial_fixpoint
theorem zFP (a0:zA):∀ (out:Str) (i:Int) (o:Str),nC a0 out i=some o->∀ {B}{I0 I:Imm}{Q p c}{b:Nat},I0.le I->(S4 I p a0.Coefs c)->NG Q->NO Q->(∀ (I':Imm) (aj:Str),o=aj->I0.le I'->T 46 B Q (.exit 0) I' [hB b (cAff a0 p c)] [(1,vP b 0),(3,vT aj.l)])->J Tryz.prog 46 B (nav (bodyOf f243) [1,1,0,1,0]) Q I [hB b (cAff a0 p c)] [(1,vP b 0),(3,vT out.l),(4,vI i)]:=by
 refine nC.partial_correctness a0 _ fun aI ih out i o N B I0 I Q p c b H h hg ho hx=>yO hg ho<|yB<|yF<|yI [0] [9] rfl<|zH<|yE N ?_ ?_
 · intro hc N;refine zT<|zZ<|yH<|yF<|yC 3 [0] [13,14] rfl<|bE N fun x hy N=>xL rfl rfl h hy ?_;intro ad aP aq am;obtain rfl:=am;refine xE 0 aq [vI x] (vI x) rfl<|yI [] [17] rfl<|zH ?_;refine wR N [hB b (cAff a0 p c)] (fun au=>[(1,vP b 0),(3,vT au.l),(4,vI i)]) (fun o0 aD=>?_) ?_
   · have H:=iS I;refine yE aD ?_ ?_
     · intro aH N;obtain ⟨x1,aA,N⟩:=zB N;obtain ⟨s,aK,N⟩:=zB N;obtain ⟨y,bi,N⟩:=zB N;obtain ⟨s1,bu,N⟩:=zB N;refine wT [.p (vT out.l) [],.p (vP b 0) [],.p (vS p a0.Coefs c) [0],.p (vI i) [],.x (fun I' v hx=>∃ ad1,v=.pointer (some ad1)/\hx=[]/\(At I' ad1 [vI x1])),.q (vI x1),.p (vI i) [],.p (vI i) [],.p (vI (W (i+1))) [],.q (vT s.l),.q (vT y.l),.q (vT s1.l)] [[],[],[(1,false)],[],[(2,false),(3,false)],[(4,false)],[],[],[(7,false)],[(6,false),(8,false)],[(5,false),(9,false)],[(0,false),(10,false)]] [hB b (cAff a0 p c)] [] [(11,false)] (zY [0]) ?_ ?_
       · refine Op<|Op<|Op<|Op<|Ox ?_<|Oq ?_<|Op<|Op<|Op<|Oq ?_<|Oq ?_<|Oq ?_<|On
         · intro I1 hf ae;refine yW [20,21] rfl ?_;have h:=h.mono ae;refine xL rfl rfl h aA ?_;intro ad1 bv av ax;obtain rfl:=ax;exact yL [] iR ⟨_,rfl,rfl,av⟩
         · rintro I1 hf ae _ _ ⟨ad1,rfl,rfl,av⟩;exact yW [22] rfl<|xE 0 av [vI x1] (vI x1) rfl<|xF iR
         · intro I1 hf ae;exact yW [24,26] rfl<|zIe rfl aK<|xF iR
         · intro I1 hf ae;refine yW [23,27] rfl ?_;have H:=iS I1;refine xM (zDK x1 s _ bi ) ?_;rintro aW ay v2 k2 le - ⟨v0,rfl,rfl,rfl⟩ -;have H:=H.trans le;exact xF H
         intro I1 hf ae;exact yW [18,28] rfl<|gK rfl bu<|xF iR
       intro aX ae;refine yW [1,4,29] rfl ?_;have H:=H.trans ae;exact yI [] [3] rfl<|yN<|zV (ct N H)
     intro aH N;exact zT<|yN<|zV (ct N H)
   intro au I0 aF aV;have ⟨h,H⟩:=m2 aF h H;exact zN<|zH<|zJ<|yI [] [4] rfl<|yM<|nT<|ih au (W (i+1)) _ aV H h hg ho hx
 intro hc N;exact wL<|yN<|hx _ _ (zC N).symm H
def jL (a0:zA):Option (Str):=do
 let aj<-nC a0 (⟨[]⟩:Str) 0
 let aN<-(do
   if (a0.Const != 0) then
    let y1<-fF a0.Const (⟨[]⟩:Str)
    let s2<-cat aj y1
    pure (id s2)
   else
    pure (id aj)
     : Option Str)
 if (aN.l==([]:List UInt8)) then
  pure (⟨[48]⟩:Str)
 else
  let s3<-sslc aN 0 1
  if (s3.l==([43]:List UInt8)) then
   let s4<-sslc aN 1 (aN.l.length:Int)
   pure (id s4)
  else
   pure (id aN)
theorem zAy:∀ a0 r,jL a0=some r->∀ {I:Imm}{p c},(S4 I p a0.Coefs c)->RT 243 [vA (cAff a0 p c)] I [] (sG  r):=by
 intro a0 r N I p c h;unfold jL at N;refine yK func243 fun B=>?_;have H:=iS I;refine yF<|tT (cAff a0 p c) ?_;intro b hb;refine wI [] []<|wP [3] rfl<|zZ<|yG [4] rfl<|xY<|qI [(1,vP b 0),(3,vT ([])),(4,vI 0)] ?_;obtain ⟨aQ,aB,aM⟩:=zB N;refine zFP a0 (⟨[]⟩:Str) 0 aQ aB iR h (fun _ _ _ h=>h) (fun _ _ h=>h) ?_;intro bG aj heq1 aJ;subst aQ;have H:=H.trans aJ;refine zS<|zZ<|yF<|yI [0] [32] rfl<|zH ?_;refine wR aM [] (fun aN=>[(3,vT aN.l)]) (fun o02 ho02=>?_) ?_
 · have H:=iS bG;refine yE ho02 ?_ ?_
   · intro aZ N;refine zJ<|yC 3 [0] [33,35] rfl<|bE N fun y1 bJ N=>xM (zDK a0.Const (⟨[]⟩:Str) _ bJ ) ?_;rintro bR ay v2 k2 bd - ⟨v01,rfl,rfl,rfl⟩ -;have H:=H.trans bd;obtain ⟨s2,hy6,N⟩:=zB N;exact gK rfl hy6<|yI [] [3] rfl<|xR zQ<|yN<|zV (ct N H)
   intro aZ N;exact zT<|xR zQ<|yN<|zV (ct N H)
 intro aN bL bw hMc1;refine zZ<|yG [39] rfl<|zH<|yE hMc1 ?_ ?_
 · intro bK N;refine yG [2] rfl<|xD<|zG ?_;obtain rfl:=zC N;exact wF
 intro bK N;refine zT<|zZ<|yF<|yC 1 [] [40] rfl<|bE N fun s3 hy7 N=>zIe rfl hy7<|yI [] [42] rfl<|zH<|yE N ?_ ?_
 · intro bO N;refine yF<|yC 1 [] [43] rfl<|bE N fun s4 hy8 N=>zIe rfl hy8<|yI [] [2] rfl<|xD<|zG ?_;obtain rfl:=zC N;exact wF
 intro bO N;refine zT<|wP [2] rfl<|zH<|yY ?_;obtain rfl:=zC N;exact wF
def mP (a0:zA):Option (Str):=do
 let y<-uP a0
 if (!y) then
  pure (⟨[]⟩:Str)
 else
  let y1<-jL a0
  pure (id y1)
theorem zDL:∀ a0 r,mP a0=some r->∀ {I:Imm}{p c},(S4 I p a0.Coefs c)->RT 271 [vA (cAff a0 p c)] I [] (sG  r):=by
 intro a0 r N I p c h;unfold mP at N;refine yK func271 fun B=>yF<|tT (cAff a0 p c) ?_;intro b hb;refine wI [] []<|zZ<|yF<|rH 1 [0] [(3,vA (cAff a0 p c))]<|bE N fun y hy N=>vU (jT a0 _ hy h) ?_;intro I0 le;have h:=h.mono le;refine yI [] [5] rfl<|zH<|yE N ?_ ?_
 · intro hc N;refine yG [2] rfl<|xD<|zG ?_;obtain rfl:=zC N;exact wF
 intro hc N;refine zT<|yV<|rH 1 [0] [(6,vA (cAff a0 p c))]<|bE N fun y1 aA N=>xM (zAy a0 _ aA h) ?_;rintro aW ay v2 k2 ae - ⟨v01,rfl,rfl,rfl⟩ -;refine yI [] [2] rfl<|zH<|yY ?_;obtain rfl:=zC N;exact wF
def zCq (r:zA×Bool):KT:=fun kk I' ah v=>
  ∃ v0 v1,ah=[]/\v=tupV [v0,v1]/\(∃ cs,v0=.agg ⟨cs⟩/\Rp.rep I' cs r.1)/\v1=.bool r.2
def qJ (bq:Str) (at0:Int) (x:zA):Option (zA):=do
 let t18<-(do
   if (decide (at0>=0)) then
    pure (decide (at0<(bq.l.length:Int)))
   else
    pure false
     : Option Bool)
 if t18 then
  let (y2,y3)<-fX x bq at0
  qJ bq y3 y2
 else
  pure (id x)
 partial_fixpoint
theorem zCZ (bq:Str):∀ (at0:Int) (x:zA) (o:zA),qJ bq at0 x=some o->∀ {B}{I0 I:Imm}{Q}  {b:Nat}{b1:Nat}{p1 c1},I0.le I->(S4 I p1 x.Coefs c1)->NG Q->NO Q->(∀ (I':Imm) (x1:zA) (p2:Option Addr) (c2:Nat),o=x1->I0.le I'->(S4 I' p2 x1.Coefs c2)->T 32 B Q (.exit 0) I' [hB b1 (cAff x1 p2 c2),hB b [z0,vI 0]] [(0,vT bq.l),(2,vP b 0),(4,vP b1 0)])->J Tryz.prog 32 B (nav (bodyOf f259) [1,1,1,1,0,0]) Q I [hB b1 (cAff x p1 c1),hB b [z0,vI 0]] [(0,vT bq.l),(2,vP b 0),(4,vP b1 0),(5,vI at0)]:=by
 refine qJ.partial_correctness bq _ fun aI ih at0 x o N B I0 I Q b b1 p1 c1 H h2 hg ho hx=>yO hg ho<|yB<|yB ?_;refine wR N [hB b1 (cAff x p1 c1),hB b [z0,vI 0]] (fun t18=>[(0,vT bq.l),(2,vP b 0),(4,vP b1 0),(5,vI at0),(18,.bool t18)]) (fun o0 aD=>?_) ?_
 · have H:=iS I;refine zJ<|yC 3 [] [13] rfl<|xW [13] aD ?_ ?_
   · intro aH N;exact yI [] [18] rfl<|yN<|zV (ct N H)
   intro aH N;exact wI [] [(18,vF)]<|yN<|zV (ct N H)
 intro t18 aX aF aV;have ⟨h2,H⟩:=m2 aF h2 H;refine zH<|yE aV ?_ ?_
 · intro aZ N;refine zT<|xY<|zJ<|rH 3 [0] [(20,vA (cAff x p1 c1)),(21,vT bq.l),(22,vI at0)] ?_;obtain ⟨⟨y2,y3⟩,aA,N⟩:=zB N;refine xM (zGw x bq at0 _ aA h2) ?_;rintro bG ay v2 k2 aJ - ⟨v0,v01,rfl,rfl,⟨az,rfl,h4⟩,rfl⟩ -;have H:=H.trans aJ;obtain ⟨p3,c3,rfl,h6⟩:=yS h4;exact yC 7 [] [24,25] rfl<|xJ 0 (cAff y2 p3 c3) rfl<|yI [] [5] rfl<|zN<|yM<|nT<|ih y3 y2 _ N H h6 hg ho hx
 intro aZ N;exact wL<|yN<|hx _ _ _ _ (zC N).symm H h2
def nD (bq:Str):Option (zA×Bool):=do
 let y<-nU
 if (decide ((bq.l.length:Int)>40)) then
  pure ((zA.mk ([]:List Int) 0),false)
 else
  let x1<-qJ bq 0 (zA.mk y.Coefs y.Const)
  let y4<-mP x1
  if (!(y4.l==bq.l)) then
   pure ((zA.mk ([]:List Int) 0),false)
  else
   pure (x1,true)
theorem zAj:∀ bq r,nD bq=some r->∀ {I:Imm} ,RT 259 [vT bq.l] I [] (zCq  r):=by
 intro bq r N I;unfold nD at N;refine yK func259 fun B=>yF<|wS [z0,vI 0] ?_;intro b hb;refine wI [] []<|yV<|bE N fun y hy N=>xM (jX  _ hy ) ?_;rintro I0 ay v2 k2 le - ⟨p,c,cs,rfl,rfl,h⟩ -;refine wS [z0,vI 0] ?_;intro b1 hb1;refine xJ 0 (cAff y p c) rfl<|yD rfl<|zZ<|yG [9] rfl<|zH<|yE N ?_ ?_
 · intro hc N;refine yF<|yC 1 [] [10] rfl<|xJ 2 [z0,vI 0] rfl<|wI [] [(3,vF)]<|xD<|zG ?_;obtain rfl:=zC N;exact xA ⟨_,_,(.cell 2 rfl rfl (by kernel_rfl) (.tmp rfl ResV.nil)),zQ,⟨_,_,rfl,rfl,⟨_,rfl,(yP ⟨_,rfl,(SL.nil _)⟩)⟩,rfl⟩⟩
 intro hc N;refine zT<|wP [5] rfl<|zZ<|yH<|qK 1 rfl ?_;intro aW ae hl0;have h1:=SL.of_frozen hl0 ae h;refine qI [(0,vT bq.l),(2,vP b 0),(4,vP b1 0),(5,vI 0)] ?_;obtain ⟨aQ,aB,aM⟩:=zB N;refine zCZ bq 0 (zA.mk y.Coefs y.Const) aQ aB iR h1 (fun _ _ _ h=>h) (fun _ _ h=>h) ?_;intro bL x1 p2 c2 heq1 bd h3;subst aQ;refine zS<|zZ<|yF<|rH 1 [0] [(26,vA (cAff x1 p2 c2))] ?_;obtain ⟨y4,aK,N⟩:=zB aM;refine xM (zDL x1 _ aK h3) ?_;rintro bR ay v2 k2 bw - ⟨v03,rfl,rfl,rfl⟩ -;have h3:=h3.mono bw;refine yI [] [29] rfl<|zH<|yE N ?_ ?_
 · intro bK N;refine yF<|yC 1 [] [30] rfl<|xJ 1 [z0,vI 0] rfl<|wI [] [(3,vF)]<|xD<|zG ?_;obtain rfl:=zC N;exact xA ⟨_,_,(.cell 1 rfl rfl (by kernel_rfl) (.tmp rfl ResV.nil)),zQ,⟨_,_,rfl,rfl,⟨_,rfl,(yP ⟨_,rfl,(SL.nil _)⟩)⟩,rfl⟩⟩
 intro bK N;refine zT<|yV<|rH 1 [0] [(31,vA (cAff x1 p2 c2))]<|xJ 1 (cAff x1 p2 c2) rfl<|wI [] [(3,vY)]<|zH<|yY ?_;obtain rfl:=zC N;exact xA ⟨_,_,(.cell 1 rfl rfl (by kernel_rfl) (.tmp rfl ResV.nil)),zQ,⟨_,_,rfl,rfl,⟨_,rfl,(yP ⟨_,rfl,h3⟩)⟩,rfl⟩⟩
def zCr (r:(List zA)):KT:=fun kk I' ah v=>
  ∃ v0,ah=[]/\v=tupV [v0]/\SL I' v0 r
def sQ (y:(List Str)) (out:List zA) (i:Int):Option (List zA):=do
 let t18<-(do
   if (decide (i<(y.length:Int))) then
    pure (decide (i<=2))
   else
    pure false
     : Option Bool)
 if t18 then
  let x<-idx y i
  let (y2,y3)<-nD x
  let au<-app 32 out ([y2]:List zA)
  sQ y au (W (i+1))
 else
  pure (id out)
 partial_fixpoint
theorem zC0 (y:(List Str)):∀ (out:List zA) (i:Int) (o:List zA),sQ y out i=some o->∀ {B}{I0 I:Imm}{Q p c p1 c1 cs},I0.le I->(S4 I p y c)->(RL I cs out)->NG Q->NO Q->(∀ (I':Imm) (aj:List zA) (p2:Option Addr) (c2:Nat) (az:List Value),o=aj->I0.le I'->(RL I' az aj)->T 34 B Q (.exit 0) I' [hO zA (vS p2 aj c2) az] [(3,vS p2 aj c2)])->J Tryz.prog 34 B (nav (bodyOf f238) [1,1,1,0,1,0]) Q I [hO zA (vS p1 out c1) cs] [(3,vS p1 out c1),(4,vS p y c),(5,vI i)]:=by
 refine sQ.partial_correctness y _ fun aI ih out i o N B I0 I Q p c p1 c1 cs H h1 h2 hg ho hx=>yO hg ho<|yB<|yB ?_;refine wR N [hO zA (vS p1 out c1) cs] (fun t18=>[(3,vS p1 out c1),(4,vS p y c),(5,vI i),(18,.bool t18)]) (fun o0 aD=>?_) ?_
 · have H:=iS I;refine zJ<|yC 5 [] [15] rfl<|xW [15] aD ?_ ?_
   · intro hc N;exact yI [] [18] rfl<|yN<|zV (ct N H)
   intro hc N;exact wI [] [(18,vF)]<|yN<|zV (ct N H)
 intro t18 aW ae aV;have ⟨h2,h1,H⟩:=m3 ae h2 h1 H;refine zH<|yE aV ?_ ?_
 · intro aH N;refine zT<|zZ<|yH<|yF<|yC 2 [] [22,23] rfl<|bE N fun x aA N=>xL rfl rfl h1 aA ?_;intro ad aP aq am;obtain rfl:=am;refine xE 0 aq [vT x.l] (vT x.l) rfl ?_;obtain ⟨⟨y2,y3⟩,aK,N⟩:=zB N;refine xM (zAj x _ aK ) ?_;rintro aX ay v2 k2 aF - ⟨v01,v02,rfl,rfl,⟨aR,rfl,h4⟩,rfl⟩ -;have ⟨h2,h1,H⟩:=m3 aF h2 h1 H;obtain ⟨p3,c3,rfl,h6⟩:=yS h4;refine yC 8 [] [27,28] rfl<|wS [z0,vI 0] ?_;intro b1 hb1;refine xJ 0 (cAff y2 p3 c3) rfl<|wI [] []<|zH<|zJ<|rH 2 [0] [(29,vS p1 out c1),(30,vA (cAff y2 p3 c3))]<|uO (cAff y2 p3 c3) zA ?_;intro b2 hb2;have h7:RL aX (cAff y2 p3 c3) ([y2]:List zA):=⟨(cAff y2 p3 c3),_,rfl,rfl,(yP ⟨_,rfl,h6⟩),rfl⟩;obtain ⟨au,bi,N⟩:=zB N;exact sO 95 2 2 rfl rfl rfl h2 (.inr ⟨0,rfl⟩) h7 bi fun p4 c4 aS h8=>sE (zY [1,2] (ah:=[hB b1 (cAff y2 p3 c3),hO zA (vS p4 au c4) aS]))<|yI [] [3] rfl<|zN<|zH<|zJ<|yI [] [5] rfl<|yM<|kC (zX [1] rfl (by decide))<|nT<|ih au (W (i+1)) _ N H h1 h8 hg ho hx
 intro aH N;exact wL<|yN<|hx _ _ _ _ _ (zC N).symm H h2
def pD (bq:Str):Option ((List zA)):=do
 let y<-jK bq (44:UInt8)
 let aj<-sQ y ([]:List zA) 0
 pure (id aj)
theorem eT:∀ bq r,pD bq=some r->∀ {I:Imm} ,RT 238 [vT bq.l] I [] (zCr  r):=by
 intro bq r N I;unfold pD at N;refine yK func238 fun B=>wQ []<|yV<|uO [] zA ?_;intro b hb;have h:RL I [] ([]:List zA):=rfl;refine yI [] [3] rfl<|yV<|yC 1 [] [9] rfl<|bE N fun y hy N=>xM (zAx bq (44:UInt8) _ hy ) ?_;rintro I0 ay v2 k2 le - ⟨v0,rfl,rfl,h1⟩ -;have h:=iM le h;obtain ⟨p,c,rfl⟩:=h1.form;refine yI [] [4] rfl<|zZ<|yG [5] rfl<|xY<|qI [(3,vS (some ⟨b,0,none⟩) ([]:List zA) 0),(4,vS p y c),(5,vI 0)] ?_;obtain ⟨aQ,aB,aM⟩:=zB N;refine zC0 y ([]:List zA) 0 aQ aB iR h1 h (fun _ _ _ h=>h) (fun _ _ h=>h) ?_;intro bG aj p2 c2 az heq1 aJ h3;subst aQ;refine zS<|wP [2] rfl<|xD<|yX 0 rfl ?_;intro bL bd hl0;have h9:=SL.of_frozen hl0 bd h3;obtain rfl:=zC aM;exact xA ⟨_,_,(.tmp rfl ResV.nil),zQ,⟨_,rfl,rfl,h9⟩⟩
def zGL (r:zE):KT:=fun kk I' ah v=>
  ∃ v0,ah=[]/\v=tupV [v0]/\(∃ cs,v0=.agg ⟨cs⟩/\Rp.rep I' cs r)
def eY (line:Str):Option (zE):=do
 let y<-kT line
 if ((y.length:Int) != 3) then
  pure (zE.mk ([]:List zA) ([]:List zA))
 else
  let x<-idx y 1
  let y1<-pD x
  let x1<-idx y 2
  let y2<-pD x1
  pure (zE.mk y1 y2)
theorem zHm:∀ line r,eY line=some r->∀ {I:Imm} ,RT 212 [vT line.l] I [] (zGL  r):=by
 intro line r N I;unfold eY at N;refine yK func212 fun B=>?_;have H:=iS I;refine yF<|wS zTwo ?_;intro b hb;refine yD rfl<|yV<|yC 1 [] [4] rfl<|bE N fun y hy N=>xM (zBy line _ hy ) ?_;rintro I0 ay v2 k2 le - ⟨v0,rfl,rfl,h⟩ -;have H:=H.trans le;obtain ⟨p,c,rfl⟩:=h.form;refine yI [] [3] rfl<|zZ<|yG [8] rfl<|zH<|yE N ?_ ?_
 · intro hc N;refine yF<|yC 1 [] [9] rfl<|zBd 0 zTwo [hB b zTwo] rfl rfl rfl rfl<|yD rfl<|xD<|zG ?_;obtain rfl:=zC N;exact xA ⟨_,_,(.cell 0 rfl rfl (by kernel_rfl) ResV.nil),zQ,⟨_,rfl,rfl,⟨_,rfl,(qL ⟨_,_,rfl,(SL.nil _),(SL.nil _)⟩)⟩⟩⟩
 intro hc N;refine zT<|zH<|yB ?_;obtain ⟨x,aA,N⟩:=zB N;obtain ⟨y1,aK,N⟩:=zB N;obtain ⟨x1,bi,N⟩:=zB N;obtain ⟨y2,bu,N⟩:=zB N;refine wT [.p (vS p y c) [],.x (fun I' v hx=>∃ ad,v=.pointer (some ad)/\hx=[]/\(At I' ad [vT x.l])),.q (vT x.l),.x (eS y1),.p (vS p y c) [],.x (fun I' v hx=>∃ ad1,v=.pointer (some ad1)/\hx=[]/\(At I' ad1 [vT x1.l])),.q (vT x1.l),.x (eS y2),.x (fun I' v hx=>∃ aT bf p21 c21,v=vA [vS aT y1 bf,vS p21 y2 c21]/\hx=[]/\(S4 I' aT y1 bf)/\(S4 I' p21 y2 c21))] [[],[(0,false)],[(1,false)],[(2,false)],[],[(4,false)],[(5,false)],[(6,false)],[(3,false),(7,false)]] [hB b zTwo] [] [(8,false)] (zY [0]) ?_ ?_
 · refine Op<|Ox ?_<|Oq ?_<|Ox ?_<|Op<|Ox ?_<|Oq ?_<|Ox ?_<|Ox ?_<|On
   · intro I1 hf ae;refine yW [10] rfl ?_;have h:=h.mono ae;refine xL rfl rfl h aA ?_;intro ad aP aq am;obtain rfl:=am;exact yL [] iR ⟨_,rfl,rfl,aq⟩
   · rintro I1 hf ae _ _ ⟨ad,rfl,rfl,aq⟩;exact yW [11] rfl<|xE 0 aq [vT x.l] (vT x.l) rfl<|xF iR
   · intro I1 hf ae;refine yW [12] rfl ?_;have H:=iS I1;refine xM (eT x _ aK ) ?_;rintro aW ay v2 k2 ae - ⟨v01,rfl,rfl,h1⟩ -;have H:=H.trans ae;obtain ⟨p1,c1,rfl⟩:=h1.form;exact yL [] H ⟨_,_,rfl,rfl,h1⟩
   · intro I1 hf ae;refine yW [14] rfl ?_;have h:=h.mono ae;refine xL rfl rfl h bi ?_;intro ad1 bv av ax;obtain rfl:=ax;exact yL [] iR ⟨_,rfl,rfl,av⟩
   · rintro I1 hf ae _ _ ⟨ad1,rfl,rfl,av⟩;exact yW [15] rfl<|xE 0 av [vT x1.l] (vT x1.l) rfl<|xF iR
   · intro I1 hf ae;refine yW [16] rfl ?_;have H:=iS I1;refine xM (eT x1 _ bu ) ?_;rintro aX ay v2 k2 aF - ⟨v02,rfl,rfl,h2⟩ -;have H:=H.trans aF;obtain ⟨p2,c2,rfl⟩:=h2.form;exact yL [] H ⟨_,_,rfl,rfl,h2⟩
   rintro I1 hf ae _ _ ⟨p1,c1,rfl,rfl,h1⟩ _ _ ⟨p2,c2,rfl,rfl,h2⟩;exact yW [13,17] rfl<|mF 9 [(18,vA [vS p1 y1 c1,vS p2 y2 c2])]<|yL [] iR ⟨_,_,_,_,rfl,rfl,h1,h2⟩
 rintro bG aJ _ _ ⟨aT,bf,p21,c21,rfl,rfl,h11,h21⟩;refine yW [2,18] rfl ?_;refine xJ 0 [vS aT y1 bf,vS p21 y2 c21] rfl<|yD rfl<|zH<|yY ?_;obtain rfl:=zC N;exact xA ⟨_,_,(.cell 0 rfl rfl (by kernel_rfl) ResV.nil),zQ,⟨_,rfl,rfl,⟨_,rfl,(qL ⟨_,_,rfl,h11,h21⟩)⟩⟩⟩
def pS (s:Str) (end0:UInt8) (i:Int):Option (Out Unit (Int)):=do
 if (decide (i<(s.l.length:Int))) then
  let b<-sidx s i
  if ((b.toNat:Int)==(end0.toNat:Int)) then
   pure (.ret i)
  else
   pS s end0 (W (i+1))
 else
  pure (.done ())
 partial_fixpoint
theorem zE0 (s:Str) (end0:UInt8):∀ (i:Int) (o:Out Unit (Int)),pS s end0 i=some o->∀ {B}{I0 I:Imm}{Q}  ,I0.le I->NG Q->NO Q->(∀ (I':Imm) ,o=(.done ())->I0.le I'->T 21 B Q (.exit 0) I' [] [])->(∀ r I' ah m',o=(.ret r)->I0.le I'->RS Tryz.prog f260 B (yQ  r) I' ah m'->T 21 B Q .ret I' ah m')->J Tryz.prog 21 B (nav (bodyOf f260) [1,0,1,0]) Q I [] [(0,vT s.l),(2,.int .u8 (end0.toNat:Int)),(7,vI i)]:=by
 refine pS.partial_correctness s end0 _ fun aI ih i o N B I0 I Q H hg ho hx hr=>yO hg ho<|yB<|yG [12] rfl<|zH<|yE N ?_ ?_
 · intro hc N;refine zT<|zZ<|yH<|yF<|yC 2 [] [15,16] rfl<|bE N fun b hy N=>zBL rfl rfl hy<|yI [] [19] rfl<|zH<|yE N ?_ ?_
   · intro aH N;exact yG [6] rfl<|xD<|zW<|zG<|zG<|hr _ _ _ _ (zC N).symm H ⟨_,_,(.tmp rfl ResV.nil),zQ,⟨_,rfl,rfl,rfl⟩⟩
   intro aH N;exact zT<|zN<|zH<|zJ<|yI [] [7] rfl<|yM<|nT<|ih (W (i+1)) _ N H  hg ho hx hr
 intro hc N;exact wL<|yN<|hx _  (zC N).symm H
def jZ (s:Str) (at0:Int) (end0:UInt8):Option (Int):=do
 match<-pS s end0 at0 with
 | .ret r0=>pure r0
 | .done _ =>
  pure (-1)
theorem zCk:∀ s at0 end0 r,jZ s at0 end0=some r->∀ {I:Imm} ,RT 260 [vT s.l,vI at0,.int .u8 (end0.toNat:Int)] I [] (yQ  r):=by
 intro s at0 end0 r N I;unfold jZ at N;refine yK func260 fun B=>wQ []<|zZ<|yG [7] rfl<|xY<|qI [(0,vT s.l),(2,.int .u8 (end0.toNat:Int)),(7,vI at0)] ?_;obtain ⟨o0,aD,aM⟩:=zB N;refine zE0 s end0 at0 o0 aD iR  (fun _ _ _ h=>h) (fun _ _ h=>h) ?_ ?_
 · intro I0  heq le;subst o0;refine zS<|wP [6] rfl<|zH<|yY ?_;obtain rfl:=zC aM;exact wF
 intro r0 I9 hs9 m9 aY le9 ba;subst aY;refine zW<|zG ?_;obtain rfl:=zC aM;exact xA ba
def zCA (r:zL×Int):KT:=fun kk I' ah v=>
  ∃ v0 v1,ah=[]/\v=tupV [v0,v1]/\(∃ cs,v0=.agg ⟨cs⟩/\Rp.rep I' cs r.1)/\v1=.int .i64 r.2
def pI (s:Str) (at0:Int):Option (zL×Int):=do
 let y<-jZ s at0 (93:UInt8)
 let t20<-(do
   if (decide (y<(W (at0+2)))) then
    pure true
   else
    let b1<-sidx s (W (at0+1))
    pure ((b1.toNat:Int) != 91)
     : Option Bool)
 if t20 then
  pure ((zL.mk (⟨[]⟩:Str) ([]:List zA)),(-1))
 else
  let s1<-sslc s at0 (W (at0+1))
  let s2<-sslc s (W (at0+2)) y
  let y1<-pD s2
  pure ((zL.mk s1 y1),(W (y+1)))
theorem zAK:∀ s at0 r,pI s at0=some r->∀ {I:Imm} ,RT 239 [vT s.l,vI at0] I [] (zCA  r):=by
 intro s at0 r N I;unfold pI at N;refine yK func239 fun B=>?_;have H:=iS I;refine yF<|wS [vT ([]),z0] ?_;intro b hb;refine wI [] []<|yV<|yC 2 [] [7,8] rfl<|bE N fun y hy N=>fB (zCk s at0 (93:UInt8) _ hy ) ?_;intro I0 le;have H:=H.trans le;refine yI [] [6] rfl<|zZ<|yB ?_;refine wR N [hB b [vT ([]),z0]] (fun t20=>[(0,vT s.l),(1,vI at0),(4,vP b 0),(6,vI y),(20,.bool t20)]) (fun o0 aD=>?_) ?_
 · have H:=iS I0;refine zJ<|yC 5 [] [14] rfl<|xW [14] aD ?_ ?_
   · intro hc N;exact wI [] [(20,vY)]<|yN<|zV (ct N H)
   intro hc N;exact yC 8 [] [15,17] rfl<|bE N fun b1 aA N=>zBL rfl rfl aA<|yI [] [20] rfl<|yN<|zV (ct N H)
 intro t20 aW ae aV;have H:=H.trans ae;refine zH<|yE aV ?_ ?_
 · intro aH N;refine yF<|yC 1 [] [21] rfl<|xJ 0 [vT ([]),z0] rfl<|yI [] [5] rfl<|xD<|zG ?_;obtain rfl:=zC N;exact xA ⟨_,_,(.cell 0 rfl rfl (by kernel_rfl) (.tmp rfl ResV.nil)),zQ,⟨_,_,rfl,rfl,⟨_,rfl,(kD ⟨_,rfl,(SL.nil _)⟩)⟩,rfl⟩⟩
 intro aH N;refine zT<|zH<|yB ?_;obtain ⟨s1,aK,N⟩:=zB N;obtain ⟨s2,bi,N⟩:=zB N;obtain ⟨y1,bu,N⟩:=zB N;refine wT [.p (vT s.l) [],.p (vI at0) [],.p (vI at0) [],.p (vI (W (at0+1))) [],.q (vT s1.l),.p (vT s.l) [],.p (vI at0) [],.p (vI (W (at0+2))) [],.p (vI y) [],.q (vT s2.l),.x (eS y1),.x (fun I' v hx=>∃ p1 c1,v=vA [vT s1.l,vS p1 y1 c1]/\hx=[]/\(S4 I' p1 y1 c1)),.p (vI y) [],.p (vI (W (y+1))) [],.x (fun I' v hx=>∃ aT bf,hx=[hB b [vT s1.l,vS aT y1 bf]]/\(S4 I' aT y1 bf))] [[],[],[],[(2,false)],[(0,false),(1,false),(3,false)],[],[],[(6,false)],[],[(5,false),(7,false),(8,false)],[(9,false)],[(4,false),(10,false)],[],[(12,false)],[(11,false),(16,true)]] [] [[hB b [vT ([]),z0]]] [(13,false),(14,true)] (zY [0]) ?_ ?_
 · refine Op<|Op<|Op<|Op<|Oq ?_<|Op<|Op<|Op<|Op<|Oq ?_<|Ox ?_<|Ox ?_<|Op<|Op<|Ox ?_<|On
   · intro I1 hf ae;exact yW [22,23,25] rfl<|zIe rfl aK<|xF iR
   · intro I1 hf ae;exact yW [27,29,30] rfl<|zIe rfl bi<|xF iR
   · intro I1 hf ae;refine yW [31] rfl ?_;have H:=iS I1;refine xM (eT s2 _ bu ) ?_;rintro aX ay v2 k2 aF - ⟨v01,rfl,rfl,h1⟩ -;have H:=H.trans aF;obtain ⟨p,c,rfl⟩:=h1.form;exact yL [] H ⟨_,_,rfl,rfl,h1⟩
   · rintro I1 hf ae _ _ ⟨rfl,rfl⟩ _ _ ⟨p,c,rfl,rfl,h1⟩;exact yW [26,32] rfl<|mF 12 [(33,vA [vT s1.l,vS p y1 c])]<|yL [] iR ⟨_,_,rfl,rfl,h1⟩
   rintro I1 hf ae _ _ ⟨p1,c1,rfl,rfl,h11⟩ _ _ rfl;refine yW [4,33] rfl ?_;have H:=iS I1;exact zBd 0 [vT s1.l,vS p1 y1 c1] (hB b [vT s1.l,vS p1 y1 c1]::hf) rfl rfl rfl rfl<|zGl (hx:=[hB b [vT s1.l,vS p1 y1 c1]]) rfl H rfl (zHb (v:=undef)) ⟨_,_,rfl,h11⟩
 rintro bG aJ _ _ ⟨rfl,rfl⟩ _ _ ⟨aT,bf,rfl,h111⟩;refine yW [4,35] rfl ?_;refine yI [] [5] rfl<|zH<|yY ?_;obtain rfl:=zC N;exact xA ⟨_,_,(.cell 0 rfl rfl (by kernel_rfl) (.tmp rfl ResV.nil)),zQ,⟨_,_,rfl,rfl,⟨_,rfl,(kD ⟨_,rfl,h111⟩)⟩,rfl⟩⟩
def zAA (r:zI×Int):KT:=fun kk I' ah v=>
  ∃ v0 v1,ah=[]/\v=tupV [v0,v1]/\(∃ cs,v0=.agg ⟨cs⟩/\Rp.rep I' cs r.1)/\v1=.int .i64 r.2
mutual
def fY (s:Str) (at0:Int) (al:Int):Option (zI×Int):=do
 let (y1,y2)<-pT (same s) (same at0) (same al)
 let t27<-(do
   if (decide (y2<0)) then
    pure true
   else
    pure (decide (y2>=(s.l.length:Int)))
     : Option Bool)
 if t27 then
  pure ((zI.mk 0 0 (zA.mk ([]:List Int) 0) (zL.mk (⟨[]⟩:Str) ([]:List zA)) ([]:List zI)),(-1))
 else
  let b2<-sidx s y2
  let kind<-(do
    if ((b2.toNat:Int)==45) then
     pure (id 5)
    else
     let kind1<-(do
       if ((b2.toNat:Int)==42) then
        pure (id 6)
       else
        pure (id 4)
         : Option Int)
     pure (id kind1)
      : Option Int)
  let (y4,y5)<-pT (same s) (W (y2+1)) (same al)
  let t51<-(do
    if (decide (y5<0)) then
     pure true
    else
     pure (decide (y5>=(s.l.length:Int)))
      : Option Bool)
  if t51 then
   pure ((zI.mk 0 0 (zA.mk ([]:List Int) 0) (zL.mk (⟨[]⟩:Str) ([]:List zA)) ([]:List zI)),(-1))
  else
   pure ((zI.mk kind 0 (zA.mk ([]:List Int) 0) (zL.mk (⟨[]⟩:Str) ([]:List zA)) ([y1,y4]:List zI)),(W (y5+1)))
 partial_fixpoint
def pT (s:Str) (at0:Int) (al:Int):Option (zI×Int):=do
 let t26<-(do
   if (decide (al<1)) then
    pure true
   else
    if (decide (at0<0)) then
     pure true
    else
     pure (decide (at0>=(s.l.length:Int)))
     : Option Bool)
 if t26 then
  pure ((zI.mk 0 0 (zA.mk ([]:List Int) 0) (zL.mk (⟨[]⟩:Str) ([]:List zA)) ([]:List zI)),(-1))
 else
  let b1<-sidx s at0
  if ((b1.toNat:Int)==123) then
   let y<-jZ s at0 (125:UInt8)
   if (decide (y<0)) then
    pure ((zI.mk 0 0 (zA.mk ([]:List Int) 0) (zL.mk (⟨[]⟩:Str) ([]:List zA)) ([]:List zI)),(-1))
   else
    let s1<-sslc s (W (at0+1)) y
    let (y2,y3)<-nD s1
    pure ((zI.mk 2 0 y2 (zL.mk (⟨[]⟩:Str) ([]:List zA)) ([]:List zI)),(W (y+1)))
  else
   let t52<-(do
     let b3<-sidx s at0
     if (decide ((b3.toNat:Int)>=65)) then
      let b4<-sidx s at0
      pure (decide ((b4.toNat:Int)<=68))
     else
      pure false
       : Option Bool)
   if t52 then
    let (y5,y6)<-pI s at0
    pure ((zI.mk 3 0 (zA.mk ([]:List Int) 0) y5 ([]:List zI)),y6)
   else
    let b6<-sidx s at0
    if ((b6.toNat:Int)==40) then
     let (y8,y9)<-fY (same s) (W (at0+1)) (W (al - 1))
     pure (y8,y9)
    else
     let (y11,y12)<-kU s at0
     if (y12==at0) then
      pure ((zI.mk 0 0 (zA.mk ([]:List Int) 0) (zL.mk (⟨[]⟩:Str) ([]:List zA)) ([]:List zI)),(-1))
     else
      pure ((zI.mk 1 y11 (zA.mk ([]:List Int) 0) (zL.mk (⟨[]⟩:Str) ([]:List zA)) ([]:List zI)),y12)
 partial_fixpoint
end
theorem zGM:(∀ (s:Str) (at0:Int) (al:Int) r,fY s at0 al=some r->∀ {I:Imm} ,RT 261 [vT s.l,vI at0,vI al] I [] (zAA  r))/\(∀ (s:Str) (at0:Int) (al:Int) r,pT s at0 al=some r->∀ {I:Imm} ,RT 240 [vT s.l,vI at0,vI al] I [] (zAA  r)):=by
  refine fY.mutual_partial_correctness _ _ ?_ ?_
  · intro F_spec_l3Parse ih_spec_l3Parse s at0 al r N I;refine yK func261 fun B=>?_;have H:=iS I;refine yF<|wS zExpr ?_;intro b hb;refine wI [] []<|yV<|yC 3 [] [14,15,16] rfl ?_;obtain ⟨⟨y1,y2⟩,hy,N⟩:=zB N;refine xM (ih_spec_l3Parse s at0 al _ hy ) ?_;rintro I0 ay v2 k2 le - ⟨v0,v01,rfl,rfl,⟨cs,rfl,h⟩,rfl⟩ -;have H:=H.trans le;obtain ⟨p,c,p1,c1,p2,c2,rfl,h2,h3,h4⟩:=tX h;refine yC 7 [] [18,19] rfl<|wS zExpr ?_;intro b1 hb1;refine xJ 0 (cExpr y1 p c p1 c1 p2 c2) rfl<|yI [] [9] rfl<|zZ<|yB ?_;refine wR N [hB b1 (cExpr y1 p c p1 c1 p2 c2),hB b zExpr] (fun t27=>[(0,vT s.l),(2,vI al),(6,vP b 0),(8,vP b1 0),(9,vI y2),(27,.bool t27)]) (fun o0 aD=>?_) ?_
    · have H:=iS I0;refine zJ<|yC 3 [] [22] rfl<|xW [22] aD ?_ ?_
      · intro hc N;exact wI [] [(27,vY)]<|yN<|zV (ct N H)
      intro hc N;exact yI [] [27] rfl<|yN<|zV (ct N H)
    intro t27 aW ae aV;have ⟨h2,h3,h4,H⟩:=m4 ae h2 h3 h4 H;refine zH<|yE aV ?_ ?_
    · intro aH N;refine yF<|yC 1 [] [28] rfl<|zBd 1 zExpr [hB b1 (cExpr y1 p c p1 c1 p2 c2),hB b zExpr] rfl rfl rfl rfl<|yI [] [7] rfl<|xD<|zG ?_;obtain rfl:=zC N;exact xA ⟨_,_,(.cell 1 rfl rfl (by kernel_rfl) (.tmp rfl ResV.nil)),zQ,⟨_,_,rfl,rfl,⟨_,rfl,(wD ⟨_,_,_,rfl,(SL.nil _),(SL.nil _),(SL.nil _)⟩)⟩,rfl⟩⟩
    intro aH N;refine zT<|wP [10] rfl<|zZ<|yF<|yC 2 [] [29,30] rfl<|bE N fun b2 aA N=>zBL rfl rfl aA<|yD rfl<|xY<|yG [32] rfl<|zH ?_;refine wR N [hB b1 (cExpr y1 p c p1 c1 p2 c2),hB b zExpr] (fun kind=>[(0,vT s.l),(2,vI al),(6,vP b 0),(8,vP b1 0),(9,vI y2),(10,vI kind)]) (fun aQ aB=>?_) ?_
    · have H:=iS aW;refine yE aB ?_ ?_
      · intro aZ N;exact zJ<|yI [] [10] rfl<|yN<|zV (ct N H)
      intro aZ N;refine yG [34] rfl<|zH ?_;refine wR N [hB b1 (cExpr y1 p c p1 c1 p2 c2),hB b zExpr] (fun kind1=>[(0,vT s.l),(2,vI al),(6,vP b 0),(8,vP b1 0),(9,vI y2),(10,vI kind1)]) (fun o02 ho02=>?_) ?_
      · have H:=iS aW;refine yE ho02 ?_ ?_
        · intro bK N;exact zJ<|yI [] [10] rfl<|yN<|zV (ct N H)
        intro bK N;exact zT<|yN<|zV (ct N H)
      intro kind1 bG aF hMc2;have H:=H.trans aF;exact yN<|zV (ct hMc2 H)
    intro kind aX aJ hMc1;have ⟨h2,h3,h4,H⟩:=m4 aJ h2 h3 h4 H;refine zN<|yV<|yC 4 [] [37,39,40] rfl ?_;obtain ⟨⟨y4,y5⟩,aK,N⟩:=zB hMc1;refine xM (ih_spec_l3Parse s (W (y2+1)) al _ aK ) ?_;rintro bL ay v2 k2 bd - ⟨v05,v06,rfl,rfl,⟨az,rfl,h5⟩,rfl⟩ -;have ⟨h2,h3,h4,H⟩:=m4 bd h2 h3 h4 H;obtain ⟨p3,c3,p4,c4,p5,c5,rfl,h7,h8,h9⟩:=tX h5;refine yC 8 [] [42,43] rfl<|wS zExpr ?_;intro b3 hb2;refine xJ 0 (cExpr y4 p3 c3 p4 c4 p5 c5) rfl<|yI [] [12] rfl<|zZ<|yB ?_;refine wR N [hB b3 (cExpr y4 p3 c3 p4 c4 p5 c5),hB b1 (cExpr y1 p c p1 c1 p2 c2),hB b zExpr] (fun t51=>[(6,vP b 0),(8,vP b1 0),(10,vI kind),(11,vP b3 0),(12,vI y5),(51,.bool t51)]) (fun o03 ho03=>?_) ?_
    · have H:=iS bL;refine zJ<|yC 3 [] [46] rfl<|xW [46] ho03 ?_ ?_
      · intro bO N;exact wI [] [(51,vY)]<|yN<|zV (ct N H)
      intro bO N;exact yI [] [51] rfl<|yN<|zV (ct N H)
    intro t51 bR bw hMc3;have ⟨h7,h8,h9,h2,h3,h4⟩:=m6 bw h7 h8 h9 h2 h3 h4;refine zH<|yE hMc3 ?_ ?_
    · intro hc5 N;refine yF<|yC 1 [] [52] rfl<|zBd 2 zExpr [hB b3 (cExpr y4 p3 c3 p4 c4 p5 c5),hB b1 (cExpr y1 p c p1 c1 p2 c2),hB b zExpr] rfl rfl rfl rfl<|yI [] [7] rfl<|xD<|zG ?_;obtain rfl:=zC N;exact xA ⟨_,_,(.cell 2 rfl rfl (by kernel_rfl) (.tmp rfl ResV.nil)),zQ,⟨_,_,rfl,rfl,⟨_,rfl,(wD ⟨_,_,_,rfl,(SL.nil _),(SL.nil _),(SL.nil _)⟩)⟩,rfl⟩⟩
    intro hc5 N;refine zT<|yV<|rH 3 [1,0] [(53,vI kind),(54,vA (cExpr y1 p c p1 c1 p2 c2)),(55,vA (cExpr y4 p3 c3 p4 c4 p5 c5))]<|uO [vI y1.Kind,vI y1.Num,vS p y1.Index.Coefs c,vI y1.Index.Const,vT y1.Read.Array.l,vS p1 y1.Read.Subs c1,vS p2 y1.Kids c2,vI y4.Kind,vI y4.Num,vS p3 y4.Index.Coefs c3,vI y4.Index.Const,vT y4.Read.Array.l,vS p4 y4.Read.Subs c4,vS p5 y4.Kids c5] zI ?_;intro b4 hb3;have h10:RL bR [vI y1.Kind,vI y1.Num,vS p y1.Index.Coefs c,vI y1.Index.Const,vT y1.Read.Array.l,vS p1 y1.Read.Subs c1,vS p2 y1.Kids c2,vI y4.Kind,vI y4.Num,vS p3 y4.Index.Coefs c3,vI y4.Index.Const,vT y4.Read.Array.l,vS p4 y4.Read.Subs c4,vS p5 y4.Kids c5] ([y1,y4]:List zI):=⟨(cExpr y1 p c p1 c1 p2 c2),_,rfl,rfl,(wD ⟨_,_,_,rfl,h2,h3,h4⟩),⟨(cExpr y4 p3 c3 p4 c4 p5 c5),_,rfl,rfl,(wD ⟨_,_,_,rfl,h7,h8,h9⟩),rfl⟩⟩;refine yC 7 [] [57,59] rfl<|xJ 3 [vI kind,vI 0,z0,vI 0,vT ([]),z0,vS (some ⟨b4,0,none⟩) ([y1,y4]:List zI) 2] rfl<|yI [] [7] rfl<|xD<|yX 0 rfl ?_;intro I06 bC hl0;have h11:=SL.of_frozen hl0 bC h10;obtain rfl:=zC N;exact xA ⟨_,_,(.cell 2 rfl rfl (by kernel_rfl) (.tmp rfl ResV.nil)),zQ,⟨_,_,rfl,rfl,⟨_,rfl,(wD ⟨_,_,_,rfl,(SL.nil _),(SL.nil _),h11⟩)⟩,rfl⟩⟩
  intro F_spec_l3Round ih_spec_l3Round s at0 al r N I;refine yK func240 fun B=>?_;have H:=iS I;refine yF<|wS zExpr ?_;intro b hb;refine wI [] []<|zZ<|yB ?_;refine wR N [hB b zExpr] (fun t26=>[(0,vT s.l),(1,vI at0),(2,vI al),(6,vP b 0),(26,.bool t26)]) (fun o0 aD=>?_) ?_
  · have H:=iS I;refine zJ<|yC 3 [] [17] rfl<|xW [17] aD ?_ ?_
    · intro hc N;exact wI [] [(26,vY)]<|yN<|zV (ct N H)
    intro hc N;refine yC 7 [] [21] rfl<|xW [21] N ?_ ?_
    · intro aH N;exact wI [] [(26,vY)]<|yN<|zV (ct N H)
    intro aH N;exact yI [] [26] rfl<|yN<|zV (ct N H)
  intro t26 I0 le aV;have H:=H.trans le;refine zH<|yE aV ?_ ?_
  · intro aZ N;refine yF<|yC 1 [] [27] rfl<|zBd 0 zExpr [hB b zExpr] rfl rfl rfl rfl<|yI [] [7] rfl<|xD<|zG ?_;obtain rfl:=zC N;exact xA ⟨_,_,(.cell 0 rfl rfl (by kernel_rfl) (.tmp rfl ResV.nil)),zQ,⟨_,_,rfl,rfl,⟨_,rfl,(wD ⟨_,_,_,rfl,(SL.nil _),(SL.nil _),(SL.nil _)⟩)⟩,rfl⟩⟩
  intro aZ N;refine zT<|zZ<|yH<|yF<|yC 2 [] [29,30] rfl<|bE N fun b1 hy N=>zBL rfl rfl hy<|yI [] [28] rfl<|zH<|yE N ?_ ?_
  · intro bK N;refine yF<|yC 2 [] [33,34] rfl<|bE N fun y aA N=>fB (zCk s at0 (125:UInt8) _ aA ) fun aW ae=>wI [] [(8,vI y)]<|zZ<|wQ [(37,.bool (decide (y<0)))]<|zH<|yE N ?_ ?_
    · intro bO N;refine yF<|yC 1 [] [38] rfl<|zBd 0 zExpr [hB b zExpr] rfl rfl rfl rfl<|yI [] [7] rfl<|xD<|zG<|zW<|zG ?_;obtain rfl:=zC N;exact xA ⟨_,_,(.cell 0 rfl rfl (by kernel_rfl) (.tmp rfl ResV.nil)),zQ,⟨_,_,rfl,rfl,⟨_,rfl,(wD ⟨_,_,_,rfl,(SL.nil _),(SL.nil _),(SL.nil _)⟩)⟩,rfl⟩⟩
    intro bO N;refine zT<|yV<|yC 4 [] [40,42,43] rfl<|bE N fun s1 aK N=>zIe rfl aK ?_;obtain ⟨⟨y2,y3⟩,bi,N⟩:=zB N;refine xM (zAj s1 _ bi ) ?_;rintro aX ay v2 k2 aF - ⟨v01,v02,rfl,rfl,⟨cs,rfl,h1⟩,rfl⟩ -;obtain ⟨p,c,rfl,h3⟩:=yS h1;refine yC 9 [] [46,47] rfl<|wS [z0,vI 0] ?_;intro b2 hb1;refine xJ 0 (cAff y2 p c) rfl<|wI [] []<|yV<|rH 4 [0] [(49,vA [vI 2,vI 0,vS p y2.Coefs c,vI y2.Const,vT ([]),z0,z0]),(51,vI (W (y+1)))]<|xJ 1 [vI 2,vI 0,vS p y2.Coefs c,vI y2.Const,vT ([]),z0,z0] rfl<|yI [] [7] rfl<|xD<|zW<|zG ?_;obtain rfl:=zC N;exact xA ⟨_,_,(.cell 1 rfl rfl (by kernel_rfl) (.tmp rfl ResV.nil)),zQ,⟨_,_,rfl,rfl,⟨_,rfl,(wD ⟨_,_,_,rfl,h3,(SL.nil _),(SL.nil _)⟩)⟩,rfl⟩⟩
  intro bK N;refine yB ?_;refine wR N [hB b zExpr] (fun t52=>[(0,vT s.l),(1,vI at0),(2,vI al),(6,vP b 0),(52,.bool t52)]) (fun aQ aB=>?_) ?_
  · have H:=iS I0;refine zJ<|yC 2 [] [53,54] rfl ?_;obtain ⟨b3,bu,N⟩:=zB aB;refine zBL rfl rfl bu<|yC 5 [] [57] rfl<|xW [57] N ?_ ?_
    · intro hc5 N;exact yC 7 [] [58,59] rfl<|bE N fun b4 bJ N=>zBL rfl rfl bJ<|yI [] [52] rfl<|yN<|zV (ct N H)
    intro hc5 N;exact wI [] [(52,vF)]<|yN<|zV (ct N H)
  intro t52 bG aJ hMc1;refine zH<|yE hMc1 ?_ ?_
  · intro hc6 N;refine yF<|yC 2 [] [64,65] rfl ?_;obtain ⟨⟨y5,y6⟩,hy6,N⟩:=zB N;refine xM (zAK s at0 _ hy6 ) ?_;rintro bL ay v2 k2 bd - ⟨v04,v05,rfl,rfl,⟨az,rfl,h4⟩,rfl⟩ -;obtain ⟨p1,c1,rfl,h6⟩:=nY h4;refine yC 6 [] [67,68] rfl<|wS [vT ([]),z0] ?_;intro b5 hb2;refine xJ 0 (cAccess y5 p1 c1) rfl<|yI [] [12] rfl<|yV<|rH 3 [0] [(70,vA [vI 3,vI 0,z0,vI 0,vT y5.Array.l,vS p1 y5.Subs c1,z0]),(71,vI y6)]<|xJ 1 [vI 3,vI 0,z0,vI 0,vT y5.Array.l,vS p1 y5.Subs c1,z0] rfl<|yI [] [7] rfl<|xD<|zW<|zG ?_;obtain rfl:=zC N;exact xA ⟨_,_,(.cell 1 rfl rfl (by kernel_rfl) (.tmp rfl ResV.nil)),zQ,⟨_,_,rfl,rfl,⟨_,rfl,(wD ⟨_,_,_,rfl,(SL.nil _),h6,(SL.nil _)⟩)⟩,rfl⟩⟩
  intro hc6 N;refine yF<|yC 2 [] [73,74] rfl<|bE N fun b6 hy7 N=>zBL rfl rfl hy7<|yI [] [72] rfl<|zH<|yE N ?_ ?_
  · intro hc7 N;refine yF<|yC 5 [] [77,79,81] rfl ?_;obtain ⟨⟨y8,y9⟩,hy8,N⟩:=zB N;refine xM (ih_spec_l3Round s (W (at0+1)) (W (al - 1)) _ hy8 ) ?_;rintro bR ay v2 k2 bw - ⟨v07,v08,rfl,rfl,⟨aR,rfl,h7⟩,rfl⟩ -;obtain ⟨p2,c2,p3,c3,p4,c4,rfl,h9,h10,h11⟩:=tX h7;refine yC 8 [] [83,84] rfl<|xJ 0 (cExpr y8 p2 c2 p3 c3 p4 c4) rfl<|yI [] [7] rfl<|xD<|zW<|zG ?_;obtain rfl:=zC N;exact xA ⟨_,_,(.cell 0 rfl rfl (by kernel_rfl) (.tmp rfl ResV.nil)),zQ,⟨_,_,rfl,rfl,⟨_,rfl,(wD ⟨_,_,_,rfl,h9,h10,h11⟩)⟩,rfl⟩⟩
  intro hc7 N;refine zT<|zN<|yV<|yC 2 [] [86,87] rfl ?_;obtain ⟨⟨y11,y12⟩,hy9,N⟩:=zB N;refine xM (zBz s at0 _ hy9 ) ?_;rintro I06 ay v2 k2 bC - ⟨v012,v013,rfl,rfl,rfl,rfl⟩ -;refine yI [] [13,14] rfl<|zZ<|yG [93] rfl<|zH<|yE N ?_ ?_
  · intro hc8 N;refine yF<|yC 1 [] [94] rfl<|zBd 0 zExpr [hB b zExpr] rfl rfl rfl rfl<|yI [] [7] rfl<|xD<|zG ?_;obtain rfl:=zC N;exact xA ⟨_,_,(.cell 0 rfl rfl (by kernel_rfl) (.tmp rfl ResV.nil)),zQ,⟨_,_,rfl,rfl,⟨_,rfl,(wD ⟨_,_,_,rfl,(SL.nil _),(SL.nil _),(SL.nil _)⟩)⟩,rfl⟩⟩
  intro hc8 N;refine zT<|yV<|yC 3 [] [96,97] rfl<|xJ 0 [vI 1,vI y11,z0,vI 0,vT ([]),z0,z0] rfl<|yI [] [7] rfl<|zH<|yY ?_;obtain rfl:=zC N;exact xA ⟨_,_,(.cell 0 rfl rfl (by kernel_rfl) (.tmp rfl ResV.nil)),zQ,⟨_,_,rfl,rfl,⟨_,rfl,(wD ⟨_,_,_,rfl,(SL.nil _),(SL.nil _),(SL.nil _)⟩)⟩,rfl⟩⟩
theorem zGx:∀ s at0 al r,pT s at0 al=some r->∀ {I:Imm} ,RT 240 [vT s.l,vI at0,vI al] I [] (zAA  r):=zGM.2
def tN (a0:zA) (n0:Int) (i:Int):Option (Int):=do
 if (decide (i<(a0.Coefs.length:Int))) then
  let x<-idx a0.Coefs i
  let n02<-(do
    if (x != 0) then
     pure (W (i+1))
    else
     pure (id n0)
      : Option Int)
  tN a0 n02 (W (i+1))
 else
  pure (id n0)
 partial_fixpoint
theorem zE1 (a0:zA):∀ (n0:Int) (i:Int) (o:Int),tN a0 n0 i=some o->∀ {B}{I0 I:Imm}{Q p c}{b:Nat},I0.le I->(S4 I p a0.Coefs c)->NG Q->NO Q->(∀ (I':Imm) (n01:Int),o=n01->I0.le I'->T 21 B Q (.exit 0) I' [] [(3,vI n01)])->J Tryz.prog 21 B (nav (bodyOf f226) [1,1,0,1,0]) Q I [hB b (cAff a0 p c)] [(1,vP b 0),(3,vI n0),(4,vI i)]:=by
 refine tN.partial_correctness a0 _ fun aI ih n0 i o N B I0 I Q p c b H h hg ho hx=>yO hg ho<|yB<|yF<|yI [0] [9] rfl<|zH<|yE N ?_ ?_
 · intro hc N;refine zT<|zZ<|yH<|yF<|yC 3 [0] [13,14] rfl<|bE N fun x hy N=>xL rfl rfl h hy ?_;intro ad aP aq am;obtain rfl:=am;refine xE 0 aq [vI x] (vI x) rfl<|yI [] [17] rfl<|zH ?_;refine wR N [hB b (cAff a0 p c)] (fun n02=>[(1,vP b 0),(3,vI n02),(4,vI i)]) (fun o0 aD=>?_) ?_
   · have H:=iS I;refine yE aD ?_ ?_
     · intro aH N;exact zJ<|yI [] [3] rfl<|yN<|zV (ct N H)
     intro aH N;exact zT<|yN<|zV (ct N H)
   intro n02 I0 le aV;have ⟨h,H⟩:=m2 le h H;exact zN<|zH<|zJ<|yI [] [4] rfl<|yM<|nT<|ih n02 (W (i+1)) _ aV H h hg ho hx
 intro hc N;exact wL<|xR zQ<|yN<|hx _ _ (zC N).symm H
def pU (a0:zA):Option (Int):=do
 let n01<-tN a0 0 0
 pure (id n01)
theorem zA6:∀ a0 r,pU a0=some r->∀ {I:Imm}{p c},(S4 I p a0.Coefs c)->RT 226 [vA (cAff a0 p c)] I [] (yQ  r):=by
 intro a0 r N I p c h;unfold pU at N;refine yK func226 fun B=>yF<|tT (cAff a0 p c) ?_;intro b hb;refine wI [] []<|wP [3] rfl<|zZ<|yG [4] rfl<|xY<|qI [(1,vP b 0),(3,vI 0),(4,vI 0)] ?_;obtain ⟨aQ,aB,aM⟩:=zB N;refine zE1 a0 0 0 aQ aB iR h (fun _ _ _ h=>h) (fun _ _ h=>h) ?_;intro aW n01 heq1 ae;subst aQ;refine zS<|wP [2] rfl<|zH<|yY ?_;obtain rfl:=zC aM;exact wF
def uQ (a0:zL) (aa:Int) (i:Int):Option (Out Unit (Bool)):=do
 if (decide (i<(a0.Subs.length:Int))) then
  let t29<-(do
    let x<-idx a0.Subs i
    let y<-uP x
    if (!y) then
     pure true
    else
     let x1<-idx a0.Subs i
     let y1<-pU x1
     pure (decide (y1>aa))
      : Option Bool)
  if t29 then
   pure (.ret false)
  else
   uQ a0 aa (W (i+1))
 else
  pure (.done ())
 partial_fixpoint
theorem zDt (a0:zL) (aa:Int):∀ (i:Int) (o:Out Unit (Bool)),uQ a0 aa i=some o->∀ {B}{I0 I:Imm}{Q p c}{b:Nat},I0.le I->(S4 I p a0.Subs c)->NG Q->NO Q->(∀ (I':Imm) ,o=(.done ())->I0.le I'->T 56 B Q (.exit 0) I' [hB b (cAccess a0 p c)] [(2,vP b 0)])->(∀ r I' ah m',o=(.ret r)->I0.le I'->RS Tryz.prog f186 B (zU  r) I' ah m'->T 56 B Q .ret I' ah m')->J Tryz.prog 56 B (nav (bodyOf f186) [1,0,1,0]) Q I [hB b (cAccess a0 p c)] [(1,vI aa),(2,vP b 0),(5,vI i)]:=by
 refine uQ.partial_correctness a0 aa _ fun aI ih i o N B I0 I Q p c b H h hg ho hx hr=>yO hg ho<|yB<|yF<|yI [0] [10] rfl<|zH<|yE N ?_ ?_
 · intro hc N;refine zT<|zZ<|yH<|yB ?_;refine wR N [hB b (cAccess a0 p c)] (fun t29=>[(1,vI aa),(2,vP b 0),(5,vI i),(29,.bool t29)]) (fun o0 aD=>?_) ?_
   · have H:=iS I;refine zJ<|yC 3 [0] [14,15] rfl ?_;obtain ⟨x,hy,N⟩:=zB aD;refine xL rfl rfl h hy ?_;intro ad aP aq am;obtain ⟨p1,c1,rfl,h1⟩:=yS am;refine xE 0 aq (cAff x p1 c1) (vA (cAff x p1 c1)) rfl<|bE N fun y aA N=>vU (jT x _ aA h1) ?_;intro aW le;have ⟨h,H⟩:=m2 le h H;refine yC 8 [] [20] rfl<|xW [20] N ?_ ?_
     · intro aH N;exact wI [] [(29,vY)]<|yN<|zV (ct N H)
     intro aH N;refine yC 11 [0] [22,23] rfl<|bE N fun x1 aK N=>xL rfl rfl h aK ?_;intro ad1 bv av ax;obtain ⟨p2,c2,rfl,h3⟩:=yS ax;refine xE 0 av (cAff x1 p2 c2) (vA (cAff x1 p2 c2)) rfl<|bE N fun y1 bi N=>fB (zA6 x1 _ bi h3) ?_;intro aX ae;have H:=H.trans ae;exact yI [] [29] rfl<|yN<|zV (ct N H)
   intro t29 I0 aF aV;have ⟨h,H⟩:=m2 aF h H;refine zH<|yE aV ?_ ?_
   · intro aZ N;exact wQ [(4,vF)]<|xD<|zW<|zG<|zG<|hr _ _ _ _ (zC N).symm H ⟨_,_,(.tmp rfl ResV.nil),zQ,⟨_,rfl,rfl,rfl⟩⟩
   intro aZ N;exact zT<|zN<|zH<|zJ<|yI [] [5] rfl<|yM<|nT<|ih (W (i+1)) _ N H h hg ho hx hr
 intro hc N;exact wL<|yN<|hx _  (zC N).symm H
def oK (a0:zL) (aa:Int):Option (Bool):=do
 match<-uQ a0 aa 0 with
 | .ret r0=>pure r0
 | .done _ =>
  let t4<-(do
    if ((a0.Array.l.length:Int)==1) then
     if (!(Op.bytesLess a0.Array.l ([65]:List UInt8))) then
      if (Op.bytesLess a0.Array.l ([68]:List UInt8)||a0.Array.l==([68]:List UInt8)) then
       if (decide ((a0.Subs.length:Int)>=1)) then
        pure (decide ((a0.Subs.length:Int)<=2))
       else
        pure false
      else
       pure false
     else
      pure false
    else
     pure false
      : Option Bool)
  pure (id t4)
theorem zCB:∀ a0 aa r,oK a0 aa=some r->∀ {I:Imm}{p c},(S4 I p a0.Subs c)->RT 186 [vA (cAccess a0 p c),vI aa] I [] (zU  r):=by
 intro a0 aa r N I p c h;unfold oK at N;refine yK func186 fun B=>?_;have H:=iS I;refine yF<|tT (cAccess a0 p c) ?_;intro b hb;refine wI [] []<|zZ<|yG [5] rfl<|xY<|qI [(1,vI aa),(2,vP b 0),(5,vI 0)] ?_;obtain ⟨aQ,aB,aM⟩:=zB N;refine zDt a0 aa 0 aQ aB iR h (fun _ _ _ h=>h) (fun _ _ h=>h) ?_ ?_
 · intro bG  heq1 aJ;subst aQ;have H:=H.trans aJ;refine zS<|zH<|yB ?_;refine wR aM [] (fun t4=>[(4,.bool t4)]) (fun o02 ho02=>?_) ?_
   · have H:=iS bG;refine zJ<|yC 5 [0] [34] rfl<|xW [34] ho02 ?_ ?_
     · intro bK N;refine yC 10 [0] [39] rfl<|xW [39] N ?_ ?_
       · intro bO N;refine yC 15 [0] [44] rfl<|xW [44] N ?_ ?_
         · intro hc5 N;refine yC 21 [0] [50] rfl<|xW [50] N ?_ ?_
           · intro hc6 N;exact yI [0] [4] rfl<|xR zQ<|yN<|zV (ct N H)
           intro hc6 N;exact wI [] [(4,vF)]<|xR zQ<|yN<|zV (ct N H)
         intro hc5 N;exact wI [] [(4,vF)]<|xR zQ<|yN<|zV (ct N H)
       intro bO N;exact wI [] [(4,vF)]<|xR zQ<|yN<|zV (ct N H)
     intro bK N;exact wI [] [(4,vF)]<|xR zQ<|yN<|zV (ct N H)
   intro t4 bL bd hMc1;refine zH<|yY ?_;obtain rfl:=zC hMc1;exact wF
 intro r0 I9 hs9 m9 aY le9 ba;subst aY;refine zW<|zG ?_;obtain rfl:=zC aM;exact xA ba
end Go.LN
