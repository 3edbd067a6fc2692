/- Helper of the proof (see the last text). -/
import Derived.Test.YtcmjkmdecmabaaaGreatHM1
set_option linter.unusedVariables false
set_option linter.unusedSimpArgs false
namespace Go.LN
open Go.Proofs Go.Proofs.Tryz
set_option maxRecDepth 20000
def fL (b0:Nat) (r:zD×zK):KT:=fun kk I' ah v=>
  ∃ v0 k0,ah=[.blk b0 ⟨k0⟩]/\v=tupV [v0]/\(∃ cs,v0=.agg ⟨cs⟩/\Rp.rep I' cs r.1)/\Rp.rep I' k0 r.2
def pI (r0:zK) (p1:zD):Option (zD×zK):=do
 let y<-qQ p1
 let (y2,y3)<-yX r0 60
 let (Arrays,Parts,x)<-(do
   if (y2==0) then
    let (y5,y6)<-pH y3 ([(⟨[65]⟩:Str),(⟨[68]⟩:Str),(⟨[69]⟩:Str)]:List Str)
    let (y8,y9)<-yN y6 ([7,0,3,(-1)]:List Int)
    let l<-app 40 y.Arrays ([(zF.mk y5 ([y8]:List Int))]:List zF)
    pure (l,y.Parts,y9)
   else
    let (av,bb,x1)<-(do
      if (y2==1) then
       let (Arrays2,x2)<-(do
         if (decide ((y.Arrays.length:Int)>0)) then
          let (y11,y12)<-yN y3 ([1,2,7]:List Int)
          let x3<-idx y.Arrays 0
          let l1<-pure (y.Arrays.set (0:Int).toNat (zF.mk x3.Name ([y11]:List Int)))
          pure (l1,y12)
         else
          pure (y.Arrays,y3)
           : Option (List zF×zK))
       pure (Arrays2,y.Parts,x2)
      else
       let (Parts2,x4)<-(do
         if (y2==2) then
          let (Parts3,x5)<-(do
            if (decide ((y.Parts.length:Int)>0)) then
             let x6<-idx y.Parts 0
             let (y14,y15)<-nD y3 x6.Nest
             let (y17,y18)<-nD y15 y14
             let (y20,y21)<-nD y18 y17
             let x7<-idx y.Parts 0
             let l2<-pure (y.Parts.set (0:Int).toNat (zN.mk y20 x7.Body))
             pure (l2,y21)
            else
             pure (y.Parts,y3)
              : Option (List zN×zK))
          pure (Parts3,x5)
         else
          let (Parts4,x8)<-(do
            if (y2==3) then
             let t76<-(do
               if (decide ((y.Parts.length:Int)>0)) then
                let x9<-idx y.Parts (W ((y.Parts.length:Int) - 1))
                pure (decide ((x9.Body.length:Int)>0))
               else
                pure false
                 : Option Bool)
             let (Parts5,x10)<-(do
               if t76 then
                let x11<-idx y.Parts (W ((y.Parts.length:Int) - 1))
                let x12<-idx x11.Body 0
                let (y22,y23)<-sJ y3 x12
                let (y24,y25)<-sJ y23 y22
                let (y26,y27)<-sJ y25 y24
                let l3<-pure ((y.Parts).set (W ((y.Parts.length:Int) - 1)).toNat (zN.mk x11.Nest (x11.Body.set 0 y26)))
                pure (l3,y27)
               else
                pure (y.Parts,y3)
                 : Option (List zN×zK))
             pure (Parts5,x10)
            else
             let Parts6<-(do
               if (y2==4) then
                let Parts7<-(do
                  if (decide ((y.Parts.length:Int)>0)) then
                   let x13<-idx y.Parts (W ((y.Parts.length:Int) - 1))
                   let l4<-pure (y.Parts.set (W ((y.Parts.length:Int) - 1)).toNat (zN.mk x13.Nest ([]:List zO)))
                   pure (id l4)
                  else
                   pure y.Parts
                    : Option (List zN))
                pure (id Parts7)
               else
                pure y.Parts
                 : Option (List zN))
             pure (Parts6,y3)
              : Option (List zN×zK))
          pure (Parts4,x8)
           : Option (List zN×zK))
       pure (y.Arrays,Parts2,x4)
        : Option (List zF×List zN×zK))
    pure (av,bb,x1)
     : Option (List zF×List zN×zK))
 pure ((zD.mk Arrays Parts),x)
theorem zDn:∀ (r0:zK) (p1:zD) r,pI r0 p1=some r->∀ {I:Imm}{ar:Nat}{p c p2 c1 p3 c2},(S4 I p r0.b c)->(S4 I p2 p1.Arrays c1)->(S4 I p3 p1.Parts c2)->(∀ (y:zD) (y2:Int) (y3:zK) (x:zN) (s:zO),qQ p1=some y->yX r0 60=some (y2,y3)->(y2==3)=true->idx y.Parts (W ((y.Parts.length:Int) - 1))=some x->idx x.Body 0=some s->False)->RT 90 [vP ar 0,vA (cProg p1 p2 c1 p3 c2)] I [hB ar (cRd r0 p c)] (fL ar r):=by
 intro r0 p1 r N I ar p c p2 c1 p3 c2 h h1 h2 hne;unfold pI at N;refine yJ func90 fun B=>?_;have H:=iS I;refine yE<|tW (cProg p1 p2 c1 p3 c2) ?_;intro b hb;refine wL zTwo ?_;intro b1 hb1;refine yD rfl<|yV<|rY 1 [1] [(7,vA (cProg p1 p2 c1 p3 c2))]<|bE N fun y hy N=>xM (zGU p1 _ hy h1 h2) ?_;rintro I0 aw v2 k2 le - ⟨p4,c3,cs,p5,c4,ay,rfl,rfl,h3,h4⟩ -;have ⟨h,H⟩:=m2 le h H;refine wL zTwo ?_;intro b2 hb2;refine xH 0 (cProg y p4 c3 p5 c4) rfl<|yD rfl<|yV<|yI [0] [6] rfl<|yA<|yE<|yC 1 [] [12] rfl<|tO (zY [5,0,1,2,3,4] (ah:=[hB ar (cRd r0 p c),hB b2 (cProg y p4 c3 p5 c4),hO zF (vS p4 y.Arrays c3) cs,hO zN (vS p5 y.Parts c4) ay,hB b1 zTwo,hB b (cProg p1 p2 c1 p3 c2)])) ?_;obtain ⟨⟨y2,y3⟩,aA,N⟩:=zB N;refine tM (xN r0 60 _ aA h) rfl ?_;rintro aT aw v2 k2 af - ⟨v0,kk,rfl,rfl,rfl,h6⟩ -;have ⟨h3,h4,H⟩:=m3 af h3 h4 H;obtain ⟨p6,c5,rfl,h7⟩:=zZ h6;refine yD rfl<|xX<|yG [14] rfl<|zI<|rL 5 rfl ?_;intro aU aC hl0;have aq:At aU ⟨b,0,none⟩ (cProg p1 p2 c1 p3 c2):=At.of_blk hl0;have ⟨h7,h3,h4,H⟩:=m4 aC h7 h3 h4 H;obtain ⟨o0,aB,aS⟩:=zB N;refine qR (fun I' ah m'=>∃ (Arrays:List zF) (Parts:List zN) (x:zK) (p7:Option Addr) (c6:Nat) (aQ:List Value) (p8:Option Addr) (c7:Nat) (aR:List Value) (p9:Option Addr) (c8:Nat),o0=(Arrays,Parts,x)/\aU.le I'/\(RL I' aQ Arrays)/\(RL I' aR Parts)/\(S4 I' p9 x.b c8)/\ah=[hB ar (cRd x p9 c8),hB b2 [vS p7 Arrays c6,vS p8 Parts c7],hO zF (vS p7 Arrays c6) aQ,hO zN (vS p8 Parts c7) aR,hB b1 zTwo]/\m'=[(4,vP b1 0),(5,vP b2 0)]) ?_ ?_
 · have H:=iS aU;refine yF aB ?_ ?_
   · intro hc N;obtain ⟨⟨y5,y6⟩,aJ,N⟩:=zB N;obtain ⟨⟨y8,y9⟩,bf,N⟩:=zB N;obtain ⟨l,bw,N⟩:=zB N;refine vC [.p (vP b2 0) [],.p (vS p4 y.Arrays c3) [0],.p (vP ar 0) [],.x (fun I' v hx=>∃ b3,v=vS (some ⟨b3,0,none⟩) ([(⟨[65]⟩:Str),(⟨[68]⟩:Str),(⟨[69]⟩:Str)]:List Str) 3/\hx=[]/\(SL I' (vS (some ⟨b3,0,none⟩) ([(⟨[65]⟩:Str),(⟨[68]⟩:Str),(⟨[69]⟩:Str)]:List Str) 3) ([(⟨[65]⟩:Str),(⟨[68]⟩:Str),(⟨[69]⟩:Str)]:List Str))),.x (fun I' v hx=>∃ aV c9,v=vT y5.l/\hx=[hB ar (cRd y6 aV c9)]/\(S4 I' aV y6.b c9)),.p (vP ar 0) [],.x (fun I' v hx=>∃ b4,v=vS (some ⟨b4,0,none⟩) ([7,0,3,(-1)]:List Int) 4/\hx=[]/\(SL I' (vS (some ⟨b4,0,none⟩) ([7,0,3,(-1)]:List Int) 4) ([7,0,3,(-1)]:List Int))),.x (fun I' v hx=>∃ aN bc,v=vI y8/\hx=[hB ar (cRd y9 aN bc)]/\(S4 I' aN y9.b bc)),.x (fun I' v hx=>∃ b5,v=vS (some ⟨b5,0,none⟩) ([y8]:List Int) 1/\hx=[]/\(SL I' (vS (some ⟨b5,0,none⟩) ([y8]:List Int) 1) ([y8]:List Int))),.x (fun I' v hx=>∃ b51,v=vA [vT y5.l,vS (some ⟨b51,0,none⟩) ([y8]:List Int) 1]/\hx=[]/\(SL I' (vS (some ⟨b51,0,none⟩) ([y8]:List Int) 1) ([y8]:List Int))),.x (fun I' v hx=>∃ b6,v=vS (some ⟨b6,0,none⟩) ([(zF.mk y5 ([y8]:List Int))]:List zF) 1/\hx=[]/\(SL I' (vS (some ⟨b6,0,none⟩) ([(zF.mk y5 ([y8]:List Int))]:List zF) 1) ([(zF.mk y5 ([y8]:List Int))]:List zF))),.x (fun I' v hx=>∃ bB aZ bz,v=vS bB l aZ/\hx=[hO zF (vS bB l aZ) bz]/\(RL I' bz l))] [[],[(0,false)],[],[],[(2,false),(3,false),(14,true)],[],[],[(5,false),(6,false),(4,true)],[(7,false)],[(4,false),(8,false)],[(9,false)],[(1,false),(10,false),(15,true)]] [hB b2 (cProg y p4 c3 p5 c4),hO zN (vS p5 y.Parts c4) ay,hB b1 zTwo] [[hB ar (cRd y3 p6 c5)],[hO zF (vS p4 y.Arrays c3) cs]] [(7,true),(11,true)] (zY [1,3,4,0,2]) ?_ ?_
     · refine Op<|Op<|Op<|Ox ?_<|Ox ?_<|Op<|Ox ?_<|Ox ?_<|Ox ?_<|Ox ?_<|Ox ?_<|Ox ?_<|On
       · intro I1 hf af;refine dC [] ?_;have H:=iS I1;refine nC (rT [(⟨[65]⟩:Str),(⟨[68]⟩:Str),(⟨[69]⟩:Str)]) ?_;intro b3 bJ aD h12;have H:=H.trans aD;exact yQ [] H ⟨_,rfl,rfl,h12⟩
       · rintro I1 hf af _ _ ⟨rfl,rfl⟩ _ _ ⟨b3,rfl,rfl,h12⟩ _ _ rfl;refine yW [18,19] rfl ?_;have H:=iS I1;have h7:=h7.mono af;refine tM (gO y3 ([(⟨[65]⟩:Str),(⟨[68]⟩:Str),(⟨[69]⟩:Str)]:List Str) _ aJ h7 h12) rfl ?_;rintro bN aw v2 k2 aW - ⟨v02,kk1,rfl,rfl,rfl,h14⟩ -;have H:=H.trans aW;obtain ⟨aV,c9,rfl,h15⟩:=zZ h14;exact yQ [hB ar (cRd y6 aV c9)] H ⟨_,_,rfl,rfl,h15⟩
       · intro I1 hf af;refine dC [] ?_;have H:=iS I1;refine nC (rI [7,0,3,(-1)]) ?_;intro b4 I06 bt h17;have H:=H.trans bt;exact yQ [] H ⟨_,rfl,rfl,h17⟩
       · rintro I1 hf af _ _ ⟨rfl,rfl⟩ _ _ ⟨b4,rfl,rfl,h17⟩ _ _ ⟨aV,c9,rfl,rfl,h15⟩;refine yW [21,22] rfl ?_;have H:=iS I1;refine tM (yT y6 ([7,0,3,(-1)]:List Int) _ bf h15 h17) rfl ?_;rintro I07 aw v2 k2 bv - ⟨v04,kk2,rfl,rfl,rfl,h19⟩ -;have H:=H.trans bv;obtain ⟨aN,bc,rfl,h20⟩:=zZ h19;exact yQ [hB ar (cRd y9 aN bc)] H ⟨_,_,rfl,rfl,h20⟩
       · rintro I1 hf af _ _ ⟨aN,bc,rfl,rfl,h20⟩;refine yW [23] rfl ?_;have H:=iS I1;refine nC (rI [y8]) ?_;intro b5 I08 le7 h22;have H:=H.trans le7;exact yQ [] H ⟨_,rfl,rfl,h22⟩
       · rintro I1 hf af _ _ ⟨aV,c9,rfl,rfl,h15⟩ _ _ ⟨b5,rfl,rfl,h22⟩;exact yW [20,24] rfl<|oY 10 [(25,vA [vT y5.l,vS (some ⟨b5,0,none⟩) ([y8]:List Int) 1])]<|yQ [] iR ⟨_,rfl,rfl,h22⟩
       · rintro I1 hf af _ _ ⟨b51,rfl,rfl,h221⟩;refine yW [25] rfl ?_;have H:=iS I1;refine nC (rc (zF.mk y5 ([y8]:List Int)) (rX ⟨_,rfl,h221⟩) rN) ?_;intro b6 I09 le8 h24;have H:=H.trans le8;exact yQ [] H ⟨_,rfl,rfl,h24⟩
       rintro I1 hf af _ _ ⟨rfl,rfl⟩ _ _ ⟨b6,rfl,rfl,h24⟩ _ _ rfl;refine yW [17,26] rfl ?_;have h3:=iM af h3;obtain ⟨aK,k0,k01⟩:=h24;have h24:SL I1 (vS (some ⟨b6,0,none⟩) ([(zF.mk y5 ([y8]:List Int))]:List zF) 1) ([(zF.mk y5 ([y8]:List Int))]:List zF):=⟨_,k0,k01⟩;exact sC 107 2 0 rfl rfl rfl h3 (.inl k0) k01 bw fun bB aZ bz h25=>wE (ah:=(hO zF (vS bB l aZ) bz::hB b2 (cProg y p4 c3 p5 c4)::hO zN (vS p5 y.Parts c4) ay::hB b1 zTwo::hf)) rfl<|yQ [hO zF (vS bB l aZ) bz] iR ⟨_,_,_,rfl,rfl,h25⟩
     rintro bP le9 _ _ ⟨aN,bc,rfl,rfl,h20⟩ _ _ ⟨bB,aZ,bz,rfl,rfl,h25⟩;refine yW [4,5,27] rfl ?_;have ⟨h4,H⟩:=m2 le9 h4 H;exact yC 13 [] [28] rfl<|xH 2 [vS bB l aZ,vS p5 y.Parts c4] rfl<|yD rfl<|xQ (zX [1,2,0,3,4] rfl (by decide))<|yL<|zU ⟨_,_,_,_,_,_,_,_,_,_,_,(zC N).symm,H,h25,h4,h20,rfl,rfl⟩
   intro hc N;refine yG [29] rfl<|zI ?_;obtain ⟨aM,az,hMc1⟩:=zB N;refine qR (fun I' ah m'=>∃ (av:List zF) (bb:List zN) (x1:zK) (bj:Option Addr) (bk:Nat) (bD:List Value) (p14:Option Addr) (bo:Nat) (cs6:List Value) (p15:Option Addr) (c14:Nat),aM=(av,bb,x1)/\aU.le I'/\(RL I' bD av)/\(RL I' cs6 bb)/\(S4 I' p15 x1.b c14)/\ah=[hB ar (cRd x1 p15 c14),hB b2 [vS bj av bk,vS p14 bb bo],hO zF (vS bj av bk) bD,hO zN (vS p14 bb bo) cs6,hB b1 zTwo]/\m'=[(4,vP b1 0),(5,vP b2 0)]) ?_ ?_
   · have H:=iS aU;refine yF az ?_ ?_
     · intro aE N;refine yE<|yI [1] [34] rfl<|zI ?_;obtain ⟨o02,ho02,hMc2⟩:=zB N;refine qR (fun I' ah m'=>∃ (Arrays2:List zF) (x2:zK) (p16:Option Addr) (c15:Nat) (cs7:List Value) (p17:Option Addr) (c16:Nat),o02=(Arrays2,x2)/\aU.le I'/\(RL I' cs7 Arrays2)/\(S4 I' p17 x2.b c16)/\ah=[hB ar (cRd x2 p17 c16),hB b2 [vS p16 Arrays2 c15,vS p5 y.Parts c4],hO zF (vS p16 Arrays2 c15) cs7,hO zN (vS p5 y.Parts c4) ay,hB b1 zTwo]/\m'=[(4,vP b1 0),(5,vP b2 0)]) ?_ ?_
       · have H:=iS aU;refine yF ho02 ?_ ?_
         · intro aY N;obtain ⟨⟨y11,y12⟩,bH,N⟩:=zB N;refine vC [.p (vP b2 0) [],.p (vS p4 y.Arrays c3) [0],.p (vP ar 0) [],.x (fun I' v hx=>∃ b7,v=vS (some ⟨b7,0,none⟩) ([1,2,7]:List Int) 3/\hx=[]/\(SL I' (vS (some ⟨b7,0,none⟩) ([1,2,7]:List Int) 3) ([1,2,7]:List Int))),.x (fun I' v hx=>∃ p18 c17,v=vI y11/\hx=[hB ar (cRd y12 p18 c17)]/\(S4 I' p18 y12.b c17)),.x (fun I' v hx=>∃ b8,v=vS (some ⟨b8,0,none⟩) ([y11]:List Int) 1/\hx=[]/\(SL I' (vS (some ⟨b8,0,none⟩) ([y11]:List Int) 1) ([y11]:List Int)))] [[],[(0,false)],[],[],[(2,false),(3,false),(9,true)],[(4,false)]] [hB b2 (cProg y p4 c3 p5 c4),hO zF (vS p4 y.Arrays c3) cs,hO zN (vS p5 y.Parts c4) ay,hB b1 zTwo] [[hB ar (cRd y3 p6 c5)]] [(1,false),(4,true),(5,false)] (zY [1,2,3,4,0]) ?_ ?_
           · refine Op<|Op<|Op<|Ox ?_<|Ox ?_<|Ox ?_<|On
             · intro I1 hf af;refine dC [] ?_;have H:=iS I1;refine nC (rI [1,2,7]) ?_;intro b7 I013 le10 h32;have H:=H.trans le10;exact yQ [] H ⟨_,rfl,rfl,h32⟩
             · rintro I1 hf af _ _ ⟨rfl,rfl⟩ _ _ ⟨b7,rfl,rfl,h32⟩ _ _ rfl;refine yW [37,38] rfl ?_;have H:=iS I1;have h7:=h7.mono af;refine tM (yT y3 ([1,2,7]:List Int) _ bH h7 h32) rfl ?_;rintro I014 aw v2 k2 le11 - ⟨v06,kk3,rfl,rfl,rfl,h34⟩ -;have H:=H.trans le11;obtain ⟨p18,c17,rfl,h35⟩:=zZ h34;exact yQ [hB ar (cRd y12 p18 c17)] H ⟨_,_,rfl,rfl,h35⟩
             rintro I1 hf af _ _ ⟨p18,c17,rfl,rfl,h35⟩;refine yW [39] rfl ?_;have H:=iS I1;refine nC (rI [y11]) ?_;intro b8 I015 le12 h37;have H:=H.trans le12;exact yQ [] H ⟨_,rfl,rfl,h37⟩
           rintro I016 le13 _ _ ⟨rfl,rfl⟩ _ _ ⟨p18,c17,rfl,rfl,h35⟩ _ _ ⟨b8,rfl,rfl,h37⟩;refine yW [4,5,36,40] rfl ?_;have ⟨h3,H⟩:=m2 le13 h3 H;obtain ⟨x3,hy6,N⟩:=zB N;refine nY 2 rfl rfl rfl h3 hy6 ?_;intro ad bx au bL al;obtain ⟨p19,c18,rfl,h38⟩:=wG al;refine yC 8 [] [42] rfl ?_;obtain ⟨l1,hy7,N⟩:=zB N;refine qB (c:=[vT x3.Name.l,vS (some ⟨b8,0,none⟩) ([y11]:List Int) 1]) (x':=(zF.mk x3.Name ([y11]:List Int))) 2 1 rfl rfl rfl au rfl rfl bL (by kernel_rfl) (by kernel_rfl) (by kernel_rfl) h3 hy6 (by kernel_rfl) (rX ⟨_,rfl,h37⟩) ?_;rw [show y.Arrays.set (0:Int).toNat (zF.mk x3.Name ([y11]:List Int))=l1 from zC hy7];intro cs8 h39 hl07;exact fT (m':=[(4,vP b1 0),(5,vP b2 0),(40,vS (some ⟨b8,0,none⟩) ([y11]:List Int) 1)]) ⟨rfl,rfl,rfl,trivial⟩<|zEf (ah:=[hB ar (cRd y12 p18 c17),hB b2 [vS p4 l1 c3,vS p5 y.Parts c4],hO zF (vS p4 l1 c3) cs8,hO zN (vS p5 y.Parts c4) ay,hB b1 zTwo]) (m':=[(4,vP b1 0),(5,vP b2 0),(40,vS (some ⟨b8,0,none⟩) ([y11]:List Int) 1)]) (by first | rfl | simp only [vS,hl07,cv,d6,ep,d8,dy,dz]) (by first | rfl | simp only [vS,hl07])<|yD rfl<|yL<|zU ⟨_,_,_,_,_,_,_,(zC N).symm,H,h39,h35,rfl,rfl⟩
         intro aY N;exact zT<|yL<|zU ⟨_,_,_,_,_,_,_,(zC N).symm,H,h3,h7,rfl,rfl⟩
       rintro bW aw m2 ⟨Arrays2,x2,p16,c15,cs7,p17,c16,heq,le14,h29,h30,rfl,rfl⟩;subst o02;have ⟨h4,H⟩:=m2 le14 h4 H;exact yL<|zU ⟨_,_,_,_,_,_,_,_,_,_,_,(zC hMc2).symm,H,h29,h4,h30,rfl,rfl⟩
     intro aE N;refine yG [43] rfl<|zI ?_;obtain ⟨o03,ho03,hMc3⟩:=zB N;refine qR (fun I' ah m'=>∃ (Parts2:List zN) (x4:zK) (p20:Option Addr) (c19:Nat) (cs9:List Value) (p21:Option Addr) (c20:Nat),o03=(Parts2,x4)/\aU.le I'/\(RL I' cs9 Parts2)/\(S4 I' p21 x4.b c20)/\ah=[hB ar (cRd x4 p21 c20),hB b2 [vS p4 y.Arrays c3,vS p20 Parts2 c19],hO zF (vS p4 y.Arrays c3) cs,hO zN (vS p20 Parts2 c19) cs9,hB b1 zTwo]/\m'=[(4,vP b1 0),(5,vP b2 0)]) ?_ ?_
     · have H:=iS aU;refine yF ho03 ?_ ?_
       · intro bG N;refine yG [46] rfl<|zI ?_;obtain ⟨o04,ho04,hMc4⟩:=zB N;refine qR (fun I' ah m'=>∃ (Parts3:List zN) (x5:zK) (p22:Option Addr) (c21:Nat) (cs10:List Value) (p23:Option Addr) (c22:Nat),o04=(Parts3,x5)/\aU.le I'/\(RL I' cs10 Parts3)/\(S4 I' p23 x5.b c22)/\ah=[hB ar (cRd x5 p23 c22),hB b2 [vS p4 y.Arrays c3,vS p22 Parts3 c21],hO zF (vS p4 y.Arrays c3) cs,hO zN (vS p22 Parts3 c21) cs10,hB b1 zTwo]/\m'=[(4,vP b1 0),(5,vP b2 0)]) ?_ ?_
         · have H:=iS aU;refine yF ho04 ?_ ?_
           · intro bM N;obtain ⟨x6,hy8,N⟩:=zB N;obtain ⟨⟨y14,y15⟩,hy9,N⟩:=zB N;obtain ⟨⟨y17,y18⟩,hy10,N⟩:=zB N;obtain ⟨⟨y20,y21⟩,hy11,N⟩:=zB N;refine vC [.p (vP b2 1) [],.p (vS p5 y.Parts c4) [0],.p (vP ar 0) [],.p (vP ar 0) [],.p (vP ar 0) [],.p (vP b2 1) [],.p (vS p5 y.Parts c4) [0],.x (fun I' v hx=>∃ ad1 p24 c23 p25 c24,v=.pointer (some ad1)/\hx=[]/\(AtO (vS p5 y.Parts c4) (Rp.sz zN) (0:Int).toNat ad1)/\((ay.drop ((0:Int).toNat*Rp.sz zN)).take (Rp.sz zN)=(cPart x6 p24 c23 p25 c24))/\(S4 I' p24 x6.Nest c23)/\(S4 I' p25 x6.Body c24)),.x (fun I' v hx=>∃ ad11 p241 c231 p251 c241,v=.pointer (some ad11)/\hx=[]/\(AtO (vS p5 y.Parts c4) (Rp.sz zN) (0:Int).toNat ad11)/\((ay.drop ((0:Int).toNat*Rp.sz zN)).take (Rp.sz zN)=(cPart x6 p241 c231 p251 c241))/\(S4 I' p241 x6.Nest c231)/\(S4 I' p251 x6.Body c241)),.x (eS x6.Nest),.x (fun I' v hx=>∃ p26 c25 p27 c26,v=vS p26 y14 c25/\hx=[hB ar (cRd y15 p27 c26)]/\(S4 I' p26 y14 c25)/\(S4 I' p27 y15.b c26)),.x (fun I' v hx=>∃ p28 c27 p29 c28,v=vS p28 y17 c27/\hx=[hB ar (cRd y18 p29 c28)]/\(S4 I' p28 y17 c27)/\(S4 I' p29 y18.b c28)),.x (fun I' v hx=>∃ p30 c29 p31 c30,v=vS p30 y20 c29/\hx=[hB ar (cRd y21 p31 c30)]/\(S4 I' p30 y20 c29)/\(S4 I' p31 y21.b c30))] [[],[(0,false)],[],[],[],[],[(5,false)],[(6,false)],[(7,false)],[(8,false)],[(4,false),(9,false),(16,true)],[(3,false),(10,true)],[(2,false),(11,true)]] [hB b2 (cProg y p4 c3 p5 c4),hO zF (vS p4 y.Arrays c3) cs,hO zN (vS p5 y.Parts c4) ay,hB b1 zTwo] [[hB ar (cRd y3 p6 c5)]] [(1,false),(12,true)] (zY [1,2,3,4,0]) ?_ ?_
             · refine Op<|Op<|Op<|Op<|Op<|Op<|Op<|Ox ?_<|Ox ?_<|Ox ?_<|Ox ?_<|Ox ?_<|Ox ?_<|On
               · intro I1 hf af;refine yW [53] rfl ?_;have h4:=iM af h4;refine nY 2 rfl rfl rfl h4 hy8 ?_;intro ad1 bO br hcc1 ax;obtain ⟨p24,c23,p25,c24,rfl,h44,h45⟩:=wQ ax;exact yQ [] iR ⟨_,_,_,_,_,rfl,rfl,br,hcc1,h44,h45⟩
               · rintro I1 hf af _ _ ⟨ad1,p24,c23,p25,c24,rfl,rfl,br,hcc1,h44,h45⟩;exact yW [54] rfl<|oY 9 [(55,.pointer (some ad1))]<|yQ [] iR ⟨_,_,_,_,_,rfl,rfl,br,hcc1,h44,h45⟩
               · rintro I1 hf af _ _ ⟨ad11,p241,c231,p251,c241,rfl,rfl,hat21,hcc11,h441,h451⟩;exact yW [55] rfl<|zAn 2 0 hat21 hcc11 [vS p241 x6.Nest c231] (vS p241 x6.Nest c231) rfl rfl<|yQ [] iR ⟨_,_,rfl,rfl,h441⟩
               · rintro I1 hf af _ _ ⟨rfl,rfl⟩ _ _ ⟨p2411,c2311,rfl,rfl,h4411⟩ _ _ rfl;refine yW [51,56] rfl ?_;have H:=iS I1;have h7:=h7.mono af;refine tM (eI y3 x6.Nest _ hy9 h7 h4411) rfl ?_;rintro I019 aw v2 k2 le15 - ⟨v011,kk4,rfl,rfl,h46,h47⟩ -;have H:=H.trans le15;obtain ⟨p26,c25,rfl⟩:=h46.form;obtain ⟨p27,c26,rfl,h48⟩:=zZ h47;exact yQ [hB ar (cRd y15 p27 c26)] H ⟨_,_,_,_,rfl,rfl,h46,h48⟩
               · rintro I1 hf af _ _ ⟨rfl,rfl⟩ _ _ ⟨p26,c25,p27,c26,rfl,rfl,h46,h48⟩;refine yW [50,57] rfl ?_;have H:=iS I1;refine tM (eI y15 y14 _ hy10 h48 h46) rfl ?_;rintro I020 aw v2 k2 le16 - ⟨v013,kk5,rfl,rfl,h49,h50⟩ -;have H:=H.trans le16;obtain ⟨p28,c27,rfl⟩:=h49.form;obtain ⟨p29,c28,rfl,h51⟩:=zZ h50;exact yQ [hB ar (cRd y18 p29 c28)] H ⟨_,_,_,_,rfl,rfl,h49,h51⟩
               rintro I1 hf af _ _ ⟨rfl,rfl⟩ _ _ ⟨p28,c27,p29,c28,rfl,rfl,h49,h51⟩;refine yW [49,58] rfl ?_;have H:=iS I1;refine tM (eI y18 y17 _ hy11 h51 h49) rfl ?_;rintro I021 aw v2 k2 le17 - ⟨v015,kk6,rfl,rfl,h52,h53⟩ -;have H:=H.trans le17;obtain ⟨p30,c29,rfl⟩:=h52.form;obtain ⟨p31,c30,rfl,h54⟩:=zZ h53;exact yQ [hB ar (cRd y21 p31 c30)] H ⟨_,_,_,_,rfl,rfl,h52,h54⟩
             rintro I022 le18 _ _ ⟨rfl,rfl⟩ _ _ ⟨p30,c29,p31,c30,rfl,rfl,h52,h54⟩;refine yW [4,5,48,59] rfl ?_;have ⟨h4,H⟩:=m2 le18 h4 H;obtain ⟨x7,hy12,N⟩:=zB N;refine nY 3 rfl rfl rfl h4 hy12 ?_;intro ad2 ccs3 hat3 hcc2 bq;obtain ⟨p32,c31,p33,c32,rfl,h55,h56⟩:=wQ bq;refine yC 15 [] [61] rfl ?_;obtain ⟨l2,hy13,N⟩:=zB N;refine qB (c:=[vS p30 y20 c29,vS p33 x7.Body c32]) (x':=(zN.mk y20 x7.Body)) 3 0 rfl rfl rfl hat3 rfl rfl hcc2 (by kernel_rfl) (by kernel_rfl) (by kernel_rfl) h4 hy12 (by kernel_rfl) (rO ⟨_,_,rfl,h52,h56⟩) ?_;rw [show y.Parts.set (0:Int).toNat (zN.mk y20 x7.Body)=l2 from zC hy13];intro cs11 h57 hl08;exact fT (m':=[(4,vP b1 0),(5,vP b2 0),(59,vS p30 y20 c29)]) ⟨rfl,rfl,rfl,trivial⟩<|zEf (ah:=[hB ar (cRd y21 p31 c30),hB b2 [vS p4 y.Arrays c3,vS p5 l2 c4],hO zF (vS p4 y.Arrays c3) cs,hO zN (vS p5 l2 c4) cs11,hB b1 zTwo]) (m':=[(4,vP b1 0),(5,vP b2 0),(59,vS p30 y20 c29)]) (by first | rfl | simp only [vS,hl08,cv,d6,ep,d8,dy,dz]) (by first | rfl | simp only [vS,hl08])<|yD rfl<|yL<|zU ⟨_,_,_,_,_,_,_,(zC N).symm,H,h57,h54,rfl,rfl⟩
           intro bM N;exact zT<|yL<|zU ⟨_,_,_,_,_,_,_,(zC N).symm,H,h4,h7,rfl,rfl⟩
         rintro I018 aw m2 ⟨Parts3,x5,p22,c21,cs10,p23,c22,heq1,le19,h42,h43,rfl,rfl⟩;subst o04;have H:=H.trans le19;exact yL<|zU ⟨_,_,_,_,_,_,_,(zC hMc4).symm,H,h42,h43,rfl,rfl⟩
       intro bG N;refine yG [62] rfl<|zI ?_;obtain ⟨o05,ho05,hMc5⟩:=zB N;refine qR (fun I' ah m'=>∃ (Parts4:List zN) (x8:zK) (p34:Option Addr) (c33:Nat) (cs12:List Value) (p35:Option Addr) (c34:Nat),o05=(Parts4,x8)/\aU.le I'/\(RL I' cs12 Parts4)/\(S4 I' p35 x8.b c34)/\ah=[hB ar (cRd x8 p35 c34),hB b2 [vS p4 y.Arrays c3,vS p34 Parts4 c33],hO zF (vS p4 y.Arrays c3) cs,hO zN (vS p34 Parts4 c33) cs12,hB b1 zTwo]/\m'=[(4,vP b1 0),(5,vP b2 0)]) ?_ ?_
       · have H:=iS aU;refine yF ho05 ?_ ?_
         · intro hc5 N;refine yB ?_;refine wS N [hB ar (cRd y3 p6 c5),hB b2 (cProg y p4 c3 p5 c4),hO zF (vS p4 y.Arrays c3) cs,hO zN (vS p5 y.Parts c4) ay,hB b1 zTwo] (fun t76=>[(0,vP ar 0),(4,vP b1 0),(5,vP b2 0),(6,vI (y.Parts.length:Int)),(76,.bool t76)]) (fun o06 ho06=>?_) ?_
           · have H:=iS aU;refine zM<|yC 3 [] [66] rfl<|xS [66] ho06 ?_ ?_
             · intro hc6 N;refine yC 7 [1] [68,70] rfl<|bE N fun x9 hy14 N=>nY 3 rfl rfl rfl h4 hy14 ?_;intro ad3 ccs4 hat4 hcc3 bI;obtain ⟨p36,c35,p37,c36,rfl,h60,h61⟩:=wQ bI;exact yC 9 [] [72] rfl<|zAn 3 1 hat4 hcc3 [vS p37 x9.Body c36] (vS p37 x9.Body c36) rfl rfl<|yI [] [76] rfl<|yL<|zU (ct N H)
             intro hc6 N;exact wB [] [(76,vF)]<|yL<|zU (ct N H)
           intro t76 I024 le20 hMc6;have ⟨h7,h4,H⟩:=m3 le20 h7 h4 H;refine zI ?_;obtain ⟨o07,ho07,hMc7⟩:=zB hMc6;refine qR (fun I' ah m'=>∃ (Parts5:List zN) (x10:zK) (p38:Option Addr) (c37:Nat) (cs13:List Value) (p39:Option Addr) (c38:Nat),o07=(Parts5,x10)/\I024.le I'/\(RL I' cs13 Parts5)/\(S4 I' p39 x10.b c38)/\ah=[hB ar (cRd x10 p39 c38),hB b2 [vS p4 y.Arrays c3,vS p38 Parts5 c37],hO zF (vS p4 y.Arrays c3) cs,hO zN (vS p38 Parts5 c37) cs13,hB b1 zTwo]/\m'=[(4,vP b1 0),(5,vP b2 0)]) ?_ ?_
           · have H:=iS I024;refine yF ho07 ?_ ?_
             · intro hc7 N;obtain ⟨x11,hy15,N⟩:=zB N;obtain ⟨x12,hy16,N⟩:=zB N;obtain ⟨⟨y22,y23⟩,hy17,N⟩:=zB N;obtain ⟨⟨y24,y25⟩,hy18,N⟩:=zB N;obtain ⟨⟨y26,y27⟩,hy19,N⟩:=zB N;obtain ⟨l3,hy20,N⟩:=zB N;have hF:False:=hne _ _ _ _ _ (by assumption) (by assumption) (by assumption) hy15 hy16;obtain ⟨p40,c39,cs14,p41,c40,h64,h65⟩:∃ p40 c39 cs14 p41 c40,(RL I024 cs14 l3)/\(S4 I024 p41 y27.b c40):=hF.elim;exact zLS hF (am:=I024) (ah:=[hB ar (cRd y27 p41 c40),hB b2 [vS p4 y.Arrays c3,vS p40 l3 c39],hO zF (vS p4 y.Arrays c3) cs,hO zN (vS p40 l3 c39) cs14,hB b1 zTwo]) (m':=[(0,vP ar 0),(4,vP b1 0),(5,vP b2 0),(6,vI (y.Parts.length:Int)),(76,.bool t76)])<|yL<|zU ⟨_,_,_,_,_,_,_,(zC N).symm,H,h64,h65,rfl,rfl⟩
             intro hc7 N;exact zT<|yL<|zU ⟨_,_,_,_,_,_,_,(zC N).symm,H,h4,h7,rfl,rfl⟩
           rintro I025 aw m2 ⟨Parts5,x10,p38,c37,cs13,p39,c38,heq3,le21,h62,h63,rfl,rfl⟩;subst o07;have H:=H.trans le21;exact yL<|zU ⟨_,_,_,_,_,_,_,(zC hMc7).symm,H,h62,h63,rfl,rfl⟩
         intro hc5 N;refine yG [100] rfl<|zI ?_;obtain ⟨o08,ho08,hMc8⟩:=zB N;refine qR (fun I' ah m'=>∃ (Parts6:List zN) (p42:Option Addr) (c41:Nat) (cs15:List Value),o08=Parts6/\aU.le I'/\(RL I' cs15 Parts6)/\ah=[hB ar (cRd y3 p6 c5),hB b2 [vS p4 y.Arrays c3,vS p42 Parts6 c41],hO zF (vS p4 y.Arrays c3) cs,hO zN (vS p42 Parts6 c41) cs15,hB b1 zTwo]/\m'=[(4,vP b1 0),(5,vP b2 0)]) ?_ ?_
         · have H:=iS aU;refine yF ho08 ?_ ?_
           · intro hc8 N;refine yG [103] rfl<|zI ?_;obtain ⟨o09,ho09,hMc9⟩:=zB N;refine qR (fun I' ah m'=>∃ (Parts7:List zN) (p43:Option Addr) (c42:Nat) (cs16:List Value),o09=Parts7/\aU.le I'/\(RL I' cs16 Parts7)/\ah=[hB ar (cRd y3 p6 c5),hB b2 [vS p4 y.Arrays c3,vS p43 Parts7 c42],hO zF (vS p4 y.Arrays c3) cs,hO zN (vS p43 Parts7 c42) cs16,hB b1 zTwo]/\m'=[(4,vP b1 0),(5,vP b2 0)]) ?_ ?_
             · have H:=iS aU;refine yF ho09 ?_ ?_
               · intro hc9 N;refine zM<|yC 4 [1] [105,107] rfl<|bE N fun x13 hy21 N=>nY 3 rfl rfl rfl h4 hy21 ?_;intro ad4 ccs5 hat5 hcc4 hrep4;obtain ⟨p44,c43,p45,c44,rfl,h68,h69⟩:=wQ hrep4;refine yC 6 [] [109] rfl ?_;obtain ⟨l4,hy22,N⟩:=zB N;refine qB (c:=[vS p44 x13.Nest c43,z0]) (x':=(zN.mk x13.Nest ([]:List zO))) 3 1 rfl rfl rfl hat5 rfl rfl hcc4 (by kernel_rfl) (by kernel_rfl) (by kernel_rfl) h4 hy21 (by kernel_rfl) (rO ⟨_,_,rfl,h68,(SL.nil _)⟩) ?_;rw [show y.Parts.set (W ((y.Parts.length:Int) - 1)).toNat (zN.mk x13.Nest ([]:List zO))=l4 from zC hy22];intro cs17 h70 hl09;exact fT (m':=[(4,vP b1 0),(5,vP b2 0)]) ⟨rfl,rfl,trivial⟩<|zEf (ah:=[hB ar (cRd y3 p6 c5),hB b2 [vS p4 y.Arrays c3,vS p5 l4 c4],hO zF (vS p4 y.Arrays c3) cs,hO zN (vS p5 l4 c4) cs17,hB b1 zTwo]) (m':=[(4,vP b1 0),(5,vP b2 0)]) (by first | rfl | simp only [vS,hl09,cv,d6,ep,d8,dy,dz]) (by first | rfl | simp only [vS,hl09])<|yD rfl<|yL<|zU ⟨_,_,_,_,(zC N).symm,H,h70,rfl,rfl⟩
               intro hc9 N;exact zT<|yL<|zU ⟨_,_,_,_,(zC N).symm,H,h4,rfl,rfl⟩
             rintro I027 aw m2 ⟨Parts7,p43,c42,cs16,heq4,le22,h67,rfl,rfl⟩;subst o09;have H:=H.trans le22;exact yL<|zU ⟨_,_,_,_,(zC hMc9).symm,H,h67,rfl,rfl⟩
           intro hc8 N;exact zT<|yL<|zU ⟨_,_,_,_,(zC N).symm,H,h4,rfl,rfl⟩
         rintro I026 aw m2 ⟨Parts6,p42,c41,cs15,heq5,le23,h66,rfl,rfl⟩;subst o08;have ⟨h7,H⟩:=m2 le23 h7 H;exact yL<|zU ⟨_,_,_,_,_,_,_,(zC hMc8).symm,H,h66,h7,rfl,rfl⟩
       rintro I023 aw m2 ⟨Parts4,x8,p34,c33,cs12,p35,c34,heq6,le24,h58,h59,rfl,rfl⟩;subst o05;have H:=H.trans le24;exact yL<|zU ⟨_,_,_,_,_,_,_,(zC hMc5).symm,H,h58,h59,rfl,rfl⟩
     rintro I017 aw m2 ⟨Parts2,x4,p20,c19,cs9,p21,c20,heq7,le25,h40,h41,rfl,rfl⟩;subst o03;have ⟨h3,H⟩:=m2 le25 h3 H;exact yL<|zU ⟨_,_,_,_,_,_,_,_,_,_,_,(zC hMc3).symm,H,h3,h40,h41,rfl,rfl⟩
   rintro bV aw m2 ⟨av,bb,x1,bj,bk,bD,p14,bo,cs6,p15,c14,heq8,le26,h26,h27,h28,rfl,rfl⟩;subst aM;have H:=H.trans le26;exact yL<|zU ⟨_,_,_,_,_,_,_,_,_,_,_,(zC hMc1).symm,H,h26,h27,h28,rfl,rfl⟩
 rintro bC aw m2 ⟨Arrays,Parts,x,p7,c6,aQ,p8,c7,aR,p9,c8,aX,le27,h8,h9,h10,rfl,rfl⟩;subst o0;refine zP<|yV<|rY 1 [1] [(110,vA [vS p7 Arrays c6,vS p8 Parts c7])]<|xH 4 [vS p7 Arrays c6,vS p8 Parts c7] rfl<|yD rfl<|xC<|yU 2 rfl ?_;intro I028 le28 hl010;have h71:=SL.of_frozen hl010 le28 h8;have ⟨h10,h9⟩:=m2 le28 h10 h9;refine yU 2 rfl ?_;intro I029 le29 hl011;have h72:=SL.of_frozen hl011 le29 h9;have ⟨h10,h71⟩:=m2 le29 h10 h71;obtain rfl:=zC aS;exact xA ⟨_,_,(.cell 2 rfl rfl (by kernel_rfl) ResV.nil),(zX [0] rfl (by decide)),⟨_,_,rfl,rfl,⟨_,rfl,(vD ⟨_,_,rfl,h71,h72⟩)⟩,(yO ⟨_,rfl,h10⟩)⟩⟩
theorem zDJ (p:zD):∀ (i1:Int) (Parts:List zN) (o:List zN),uO p i1 Parts=some o->∀ {B}{I0 I:Imm}{Q}{av:List zF}{p1 c p2 c1}{b:Nat}{b1:Nat}{b2:Nat}{p4 c3 ay p9 c8 bz}{ak:List Raw2}{pN pB:Option Addr}{cN cB:Nat}{nl:List zE}{bl:List zO}{csB:List Value},I0.le I->(RL I ay av)->(S4 I p1 p.Arrays c)->(S4 I p2 p.Parts c1)->(RL I bz ak)->LP I ak Parts (vS pN nl cN) nl (vS pB bl cB) bl->SL I (vS pN nl cN) nl->RL I csB bl->(∀ l a w,¬Q (.goto l) a w)->(∀ a w,¬Q .outgrown a w)->(∀ (I':Imm) (aV:Option Addr) (c9:Nat) (bD:List Value) (raws1:List Raw2) (pN pB:Option Addr) (cN cB:Nat) (nl:List zE) (bl:List zO) (csB:List Value),I0.le I'->(RL I' bD raws1)->LP I' raws1 o (vS pN nl cN) nl (vS pB bl cB) bl->SL I' (vS pN nl cN) nl->RL I' csB bl->T 84 B Q (.exit 2) I' [hO zO (vS pB bl cB) csB,hO Raw2 (vS aV raws1 c9) bD,hO zF (vS p4 av c3) ay,hB b2 [vS p4 av c3,vS aV raws1 c9],hB b1 zTwo] [(2,vP b1 0),(3,vP b2 0)])->J Tryz.prog 84 B (nav (bodyOf f104) [1,1,1,0,1,0]) Q I [hO zO (vS pB bl cB) csB,hO Raw2 (vS p9 ak c8) bz,hO zF (vS p4 av c3) ay,hB b2 [vS p4 av c3,vS p9 ak c8],hB b1 zTwo,hB b (cProg p p1 c p2 c1)] [(1,vP b 0),(2,vP b1 0),(3,vP b2 0),(5,vI i1)]:=by
 refine uO.partial_correctness p _ fun aH ih i1 Parts o N B I0 I Q av p1 c p2 c1 b b1 b2 p4 c3 ay p9 c8 bz ak pN pB cN cB nl bl csB H h4 h h1 hRw hLP hN hBd hg ho hx=>yR hg ho<|yB<|yE<|yI [5] [40] rfl<|zI<|yF N ?_ ?_
 · intro aE N;refine rL 0 rfl ?_;intro immf lef hlf;have kB:=SL.of_frozen hlf lef hBd;have ⟨h4,h,h1,hN,hRw,hLP⟩:=m6 lef h4 h h1 hN hRw hLP;have H:=H.trans lef;have h14:=hLP.done hN kB;rw [<- kI hRw] at h14;have eP:vS p9 ak c8=vS p9 Parts c8:=by simp only [vS,hLP.2.1]
   rw [eP];clear hBd hlf;refine zT<|yA<|yH<|yE<|yC 3 [4] [44,45] rfl<|bE N fun x2 bw N=>xO rfl rfl h1 bw ?_;intro ad3 ccs4 hat3 bq;obtain ⟨aN,bc,bB,aZ,rfl,h16,h17⟩:=wQ bq;refine yC 5 [] [47] rfl<|xJ 0 hat3 [vS aN x2.Nest bc] (vS aN x2.Nest bc) rfl<|bE N fun y bH N=>xM (zBw x2.Nest _ bH h16) ?_;rintro bJ aw v2 k2 aW - ⟨v04,rfl,rfl,h18⟩ -;have ⟨h14,hRw,hLP,hN⟩:=m4 aW h14 hRw hLP hN;replace kB:=kB.mono aW;have ⟨h4,h,h1,H⟩:=m4 aW h4 h h1 H;obtain ⟨bj,bk,rfl⟩:=h18.form;refine yC 8 [] [50] rfl<|wL zTwo ?_;intro b5 hb5;refine xH 0 [vS bj y bk,z0] rfl<|yD rfl<|yA<|yG [7] rfl<|xX<|qP [(1,vP b 0),(2,vP b1 0),(3,vP b2 0),(5,vI i1),(6,vP b5 0),(7,vI 0)]<|dR zO fun h19=>?_;obtain ⟨aM,az,hMl1⟩:=zB N;refine zA2 p i1 0 ([]:List zO) aM az iR h18 h14 h4 h h1 h19 (fun _ _ _ h=>hg _ _ _ h) (fun _ _ h=>ho _ _ h) ?_;intro bP bm p15 c14 cs7 heq1 le10 h21;subst aM;have ⟨h18,hRw,hLP,hN⟩:=m4 le10 h18 hRw hLP hN;replace kB:=kB.mono le10;have ⟨h4,h,h1,H⟩:=m4 le10 h4 h h1 H;obtain ⟨l3,hy11,N⟩:=zB hMl1;have hy12:=zIA (l':=ak) (m':=[(⟨vS bj y bk,vS p15 bm c14⟩:Raw2)]) hy11 hLP.2.1 rfl;have h40:RL bP [vS bj y bk,vS p15 bm c14] [(⟨vS bj y bk,vS p15 bm c14⟩:Raw2)]:=⟨[vS bj y bk,vS p15 bm c14],[],rfl,rfl,⟨rfl,rfl,rfl⟩,rfl⟩;refine zS<|zI<|zM<|rY 3 [4,1] [(78,vS p9 Parts c8),(79,vA [vS bj y bk,vS p15 bm c14])]<|uD [vS bj y bk,vS p15 bm c14] Raw2 ?_;intro b7 hb7;refine sC (α:=Raw2) 47 2 3 rfl rfl rfl hRw (.inr ⟨0,rfl⟩) h40 hy12 ?_;intro p29 c28 cs11 h41;exact tO (zY [1,3,4,5,6,7] (ah:=[hO zO (vS p15 bm c14) cs7,hO Raw2 (vS p29 (ak++[(⟨vS bj y bk,vS p15 bm c14⟩:Raw2)]) c28) cs11,hO zF (vS p4 av c3) ay,hB b2 [vS p4 av c3,vS p9 Parts c8],hB b1 zTwo,hB b (cProg p p1 c p2 c1)]))<|yC 6 [] [82] rfl<|xH 3 [vS p4 av c3,vS p29 (ak++[(⟨vS bj y bk,vS p15 bm c14⟩:Raw2)]) c28] rfl<|yD rfl<|zP<|zI<|zM<|yI [] [5] rfl<|yP<|nN<|ih (W (i1+1)) l3 _ N H h4 h h1 h41 (hLP.push hN kB hy11) h18 h21 hg ho hx
 intro aE N;have:=zC N;simp only [id] at this;subst this;exact wR<|xQ (zX [0,1,2,3,4] rfl (by decide))<|yL<|hx _ _ _ _ _ _ _ _ _ _ _ _ H hRw hLP hN hBd
def zDo (r:zD):KT:=fun kk I' ah v=>
  ∃ (a0:Option Addr) (c0:Nat) (s0:List Value) (a1:Option Addr) (c1:Nat) (s1:List Value) (ak:List Raw2) (pN pB:Option Addr) (cN cB:Nat) (nl:List zE) (bl:List zO) (csB:List Value),ah=[hO zO (vS pB bl cB) csB,hO Raw2 (vS a1 ak c1) s1,hO zF (vS a0 r.Arrays c0) s0]/\v=tupV [vA [vS a0 r.Arrays c0,vS a1 ak c1]]/\RL I' s0 r.Arrays/\RL I' s1 ak/\LP I' ak r.Parts (vS pN nl cN) nl (vS pB bl cB) bl/\SL I' (vS pN nl cN) nl/\RL I' csB bl
theorem zF6:∀ (p:zD) r,qQ p=some r->∀ {I:Imm}{p1 c p2 c1},(S4 I p1 p.Arrays c)->(S4 I p2 p.Parts c1)->RT 104 [vA (cProg p p1 c p2 c1)] I [] (zDo r):=by
 intro p r N I p1 c p2 c1 h h1;unfold qQ at N;refine yJ func104 fun B=>yE<|tW (cProg p p1 c p2 c1) ?_;intro b hb;refine wL zTwo ?_;intro b1 hb1;refine yD rfl<|yV<|yC 1 [] [8] rfl<|wL zTwo ?_;intro b2 hb2;refine zAo 0 zTwo [hB b2 zTwo,hB b1 zTwo,hB b (cProg p p1 c p2 c1)] rfl rfl rfl rfl<|yD rfl<|yA<|yG [4] rfl<|xX<|qP [(1,vP b 0),(2,vP b1 0),(3,vP b2 0),(4,vI 0)]<|dR zF fun h2=>?_;obtain ⟨o0,aB,aI⟩:=zB N;refine zA1 p 0 ([]:List zF) o0 aB iR h h1 h2 (fun _ _ _ h=>h) (fun _ _ h=>h) ?_;intro bC av p4 c3 ay heq aD h4;subst o0;have ⟨h,h1⟩:=m2 aD h h1;refine zS<|yA<|yG [5] rfl<|xX<|qP [(1,vP b 0),(2,vP b1 0),(3,vP b2 0),(5,vI 0)]<|nX (pP (Rp.sz Raw2))<|nX (pP (Rp.sz zO)) ?_;obtain ⟨o02,ho02,hMl2⟩:=zB aI;refine zDJ p 0 ([]:List zN) o02 ho02 (ak:=[]) (pN:=none) (pB:=none) (cN:=0) (cB:=0) (nl:=[]) (bl:=[]) iR h4 h h1 RepL.nil LP.nil (SL.nil _) RepL.nil (fun _ _ _ h=>h) (fun _ _ h=>h) ?_;intro bW aV c9 bD raws1 pN pB cN cB nl bl csB le12 hRw hLP hN hBd;have h4:=iM le12 h4;obtain rfl:=zC hMl2;exact zS<|yV<|rY 1 [3] [(83,vA [vS p4 av c3,vS aV raws1 c9])]<|xH 4 [vS p4 av c3,vS aV raws1 c9] rfl<|yD rfl<|xC<|xA ⟨_,_,(.cell 4 rfl rfl (by kernel_rfl) ResV.nil),(zX [0,1,2] rfl (by decide)),⟨_,_,_,_,_,_,_,_,_,_,_,_,_,_,rfl,rfl,h4,hRw,hLP,hN,hBd⟩⟩
theorem zLZ {ak:List Raw2}{k:Nat}{r:Raw2} (h:ak[k]?=some r):ak.set k r=ak:=by
  obtain ⟨hk,e⟩:=cj.1 h;subst e;exact List.set_getElem_self hk
theorem zDp (r0:zK) (p1:zD) (r:zD×zK) (N:pI r0 p1=some r) {y:zD}{y3:zK}{x:zN}{s:zO} (hy:qQ p1=some y) (aA:yX r0 60=some (3,y3)) (hx:idx y.Parts (W ((y.Parts.length:Int) - 1))=some x) (hs:idx x.Body 0=some s) :
    ∀ {I:Imm}{ar:Nat}{p c p2 c1 p3 c2},(S4 I p r0.b c)->(S4 I p2 p1.Arrays c1)->(S4 I p3 p1.Parts c2)->RT 90 [vP ar 0,vA (cProg p1 p2 c1 p3 c2)] I [hB ar (cRd r0 p c)] (fL ar r):=by
 intro I ar p c p2 c1' p3 c2 h h1 h2
 obtain ⟨i0,i1,i2⟩:=vW hx
 obtain ⟨j0,j1,j2⟩:=vW hs
 have hn:(y.Parts.length:Int)>0:=by
   have:=(cj.1 i2).1; omega
 have hb:(x.Body.length:Int)>0:=by
   have:=(cj.1 j2).1; omega
 have e0:((3:Int)==0)=false:=rfl
 have e1:((3:Int)==1)=false:=rfl
 have e2:((3:Int)==2)=false:=rfl
 have e3:((3:Int)==3)=true:=rfl
 unfold pI at N
 simp only [hy,aA,e0,e1,e2,e3,hn,hb,hx,hs,decide_true,if_true,cU,if_false,Option.pure_def,Option.bind_eq_bind,Option.bind_some] at N
 cases hm1:sJ y3 s with
 | none=>rw [hm1] at N; cases N
 | some q1 =>
 obtain ⟨y22,y23⟩:=q1
 simp only [hm1,Option.bind_some] at N
 cases hm2:sJ y23 y22 with
 | none=>rw [hm2] at N; cases N
 | some q2 =>
 obtain ⟨y24,y25⟩:=q2
 simp only [hm2,Option.bind_some] at N
 cases hm3:sJ y25 y24 with
 | none=>rw [hm3] at N; cases N
 | some q3 =>
 obtain ⟨y26,y27⟩:=q3
 simp only [hm3,Option.bind_some,Option.some.injEq] at N
 subst N
 refine yJ func90 fun B=>yE<|tW [vS p2 p1.Arrays c1',vS p3 p1.Parts c2] ?_
 intro b hb
 refine wL zTwo ?_
 intro b1 hb1
 refine yD rfl<|yV<|rY 1 [1] [(7,vA [vS p2 p1.Arrays c1',vS p3 p1.Parts c2])]<|xM (zF6 p1 _ hy h1 h2) ?_
 rintro I0 aw v2 k2 le - ⟨a0,c0,s0,a1,c1,s1,ak,pN,pB,cN,cB,nl,bl,csB,rfl,rfl,h3,hRw,hLP,hN,hBd⟩ -
 have h:=h.mono le
 clear h1 h2
 rw [hLP.len] at hx hn i0 i1 i2
 obtain ⟨rfl,hraw,hset⟩:=hLP.last hx
 simp only at hs hb j0 j1 j2 hm1
 have hset:=hset (vS pN nl cN) nl (vS pB bl cB) (bl.set 0 y26)
 rw [zLZ (vW hraw).2.2] at hset
 refine wL zTwo ?_
 intro b2 hb2
 refine xH 0 [vS a0 y.Arrays c0,vS a1 ak c1] rfl<|yD rfl<|yV<|yI [0] [6] rfl<|yA<|yE<|yC 1 [] [12] rfl<|tO (zY [6,1,2,0,3,4] (ah:=[hB ar (cRd r0 p c),hO zO (vS pB bl cB) csB,hO Raw2 (vS a1 ak c1) s1,hB b2 [vS a0 y.Arrays c0,vS a1 ak c1],hO zF (vS a0 y.Arrays c0) s0,hB b1 zTwo]))<|tM (xN r0 60 _ aA h) rfl ?_
 rintro aT aw v2 k2 af - ⟨v0,kk,rfl,rfl,rfl,h6⟩ -
 obtain ⟨v01,rfl,h7⟩:=fK h6
 obtain ⟨p6,c5,rfl⟩:=h7.form
 clear h6 h
 have h3:=iM af h3
 have hRw:=iM af hRw
 have hN:=hN.mono af
 have hBd:=iM af hBd
 have hset:=hset.mono af
 refine yD rfl<|xX<|yG [14] rfl<|zI<|jD rfl<|yG [29] rfl<|zI<|jD rfl<|yG [43] rfl<|zI<|jD rfl<|yG [62] rfl<|zI<|fO rfl<|yE<|yC 3 [] [66] rfl ?_
 rw [decide_eq_true hn]
 refine yC 7 [3] [68,70] rfl<|nY (α:=Raw2) 2 rfl rfl rfl hRw hraw ?_
 intro ad aK aq bL al
 obtain ⟨rfl,o1,o2⟩:=al
 refine yC 9 [] [72] rfl<|zAn 2 1 aq bL [vS pB bl cB] (vS pB bl cB) rfl rfl<|yI [] [76] rfl ?_
 rw [decide_eq_true hb]
 refine zI<|fO rfl<|qP [(0,vP ar 0),(4,vP b1 0),(5,vP b2 0),(6,vI (ak.length:Int))]<|vC [.p (vP b2 1) [],.p (vS a1 ak c1) [2],.p (vI (ak.length:Int)) [],.p (vI (W ((ak.length:Int) - 1))) [],.x (fun I' v hx'=>∃ ad,v=.pointer (some ad)/\hx'=[]/\AtO (vS a1 ak c1) 2 (W ((ak.length:Int) - 1)).toNat ad),.x (fun I' v hx'=>∃ ad,v=.pointer (some (ad.add 1))/\hx'=[]/\AtO (vS a1 ak c1) 2 (W ((ak.length:Int) - 1)).toNat ad),.x (fun I' v hx'=>v=vS pB bl cB/\hx'=[]),.p (vP ar 0) [],.p (vP ar 0) [],.p (vP ar 0) [],.p (vP b2 1) [],.p (vS a1 ak c1) [2],.p (vI (ak.length:Int)) [],.p (vI (W ((ak.length:Int) - 1))) [],.x (fun I' v hx'=>∃ ad,v=.pointer (some ad)/\hx'=[]/\AtO (vS a1 ak c1) 2 (W ((ak.length:Int) - 1)).toNat ad),.x (fun I' v hx'=>∃ ad,v=.pointer (some (ad.add 1))/\hx'=[]/\AtO (vS a1 ak c1) 2 (W ((ak.length:Int) - 1)).toNat ad),.x (fun I' v hx'=>v=vS pB bl cB/\hx'=[]),.x (fun I' v hx'=>∃ ad,v=.pointer (some ad)/\hx'=[]/\AtO (vS pB bl cB) 9 0 ad),.x (fun I' v hx'=>∃ cs9,v=.agg ⟨cs9⟩/\hx'=[]/\Rp.rep I' cs9 s),.x (fun I' v hx'=>∃ (cs9 kk:List Value),v=.agg ⟨cs9⟩/\hx'=[hB ar kk]/\Rp.rep I' cs9 y22/\Rp.rep I' kk y23),.x (fun I' v hx'=>∃ (cs9 kk:List Value),v=.agg ⟨cs9⟩/\hx'=[hB ar kk]/\Rp.rep I' cs9 y24/\Rp.rep I' kk y25),.x (fun I' v hx'=>∃ (cs9 kk:List Value),v=.agg ⟨cs9⟩/\hx'=[hB ar kk]/\Rp.rep I' cs9 y26/\Rp.rep I' kk y27)] [[],[(0,false)],[],[(2,false)],[(1,false),(3,false)],[(4,false)],[(5,false)],[],[],[],[],[(10,false)],[],[(12,false)],[(11,false),(13,false)],[(14,false)],[(15,false)],[(16,false)],[(17,false)],[(9,false),(18,false),(24,true)],[(8,false),(19,true)],[(7,false),(20,true)]] [hO zO (vS pB bl cB) csB,hO Raw2 (vS a1 ak c1) s1,hB b2 [vS a0 y.Arrays c0,vS a1 ak c1],hO zF (vS a0 y.Arrays c0) s0,hB b1 zTwo] [[hB ar (cRd y3 p6 c5)]] [(6,false),(21,true)] (zY [1,2,3,4,5,0]) ?_ ?_
 · refine Op<|Op<|Op<|Op<|Ox ?_<|Ox ?_<|Ox ?_<|Op<|Op<|Op<|Op<|Op<|Op<|Op<|Ox ?_<|Ox ?_<|Ox ?_<|Ox ?_<|Ox ?_<|Ox ?_<|Ox ?_<|Ox ?_<|On
   · intro I1 hf af
     refine xU ?_
     rintro _ _ ⟨rfl,rfl⟩
     refine xU ?_
     rintro _ _ ⟨rfl,rfl⟩
     refine pM<|zAP [(78,vS a1 ak c1),(80,vI (W ((ak.length:Int) - 1)))]<|nY (α:=Raw2) 1 rfl rfl rfl (iM af hRw) hraw ?_
     intro ad aK aq bL al
     exact yQ [] iR ⟨_,rfl,rfl,aq⟩
   · intro I1 hf af
     refine xU ?_
     rintro _ _ ⟨ad,rfl,rfl,aq⟩
     exact pM<|zAP [(81,.pointer (some ad))]<|oY 6 [(82,.pointer (some (ad.add 1)))]<|yQ [] iR ⟨_,rfl,rfl,aq⟩
   · intro I1 hf af
     refine xU ?_
     rintro _ _ ⟨ad,rfl,rfl,aq⟩
     refine pM<|zAP [(82,.pointer (some (ad.add 1)))] ?_
     have al:=hRw.at (vW hraw).2.2
     obtain ⟨⟨bL,o1,o2⟩,_⟩:=al
     exact zAn 1 1 aq bL [vS pB bl cB] (vS pB bl cB) rfl rfl<|xE iR
   · intro I1 hf af
     refine xU ?_
     rintro _ _ ⟨rfl,rfl⟩
     refine xU ?_
     rintro _ _ ⟨rfl,rfl⟩
     refine pM<|zAP [(88,vS a1 ak c1),(90,vI (W ((ak.length:Int) - 1)))]<|nY (α:=Raw2) 1 rfl rfl rfl (iM af hRw) hraw ?_
     intro ad aK aq bL al
     exact yQ [] iR ⟨_,rfl,rfl,aq⟩
   · intro I1 hf af
     refine xU ?_
     rintro _ _ ⟨ad,rfl,rfl,aq⟩
     exact pM<|zAP [(91,.pointer (some ad))]<|oY 16 [(92,.pointer (some (ad.add 1)))]<|yQ [] iR ⟨_,rfl,rfl,aq⟩
   · intro I1 hf af
     refine xU ?_
     rintro _ _ ⟨ad,rfl,rfl,aq⟩
     refine pM<|zAP [(92,.pointer (some (ad.add 1)))] ?_
     have al:=hRw.at (vW hraw).2.2
     obtain ⟨⟨bL,o1,o2⟩,_⟩:=al
     exact zAn 1 1 aq bL [vS pB bl cB] (vS pB bl cB) rfl rfl<|xE iR
   · intro I1 hf af
     refine xU ?_
     rintro _ _ ⟨rfl,rfl⟩
     refine pM<|zAP [(93,vS pB bl cB)]<|nY (α:=zO) 0 rfl rfl rfl (iM af hBd) hs ?_
     intro ad aK aq bL al
     exact yQ [] iR ⟨_,rfl,rfl,aq⟩
   · intro I1 hf af
     refine xU ?_
     rintro _ _ ⟨ad,rfl,rfl,aq⟩
     refine pM<|zAP [(94,.pointer (some ad))] ?_
     obtain ⟨al,_⟩:=(iM af hBd).at j2
     generalize bL:(csB.drop (Int.toNat 0*Rp.sz zO)).take (Rp.sz zO)=cc at al
     obtain ⟨w0,w1,w2,w3,rfl,e10,e11,e12,e13⟩:=oU al
     obtain ⟨aV,bc,rfl⟩:=e10.form
     obtain ⟨aN,aZ,rfl⟩:=e11.form
     obtain ⟨bB,bk,rfl⟩:=e12.form
     obtain ⟨bj,bo,rfl⟩:=e13.form
     exact zAn 0 0 aq bL (cStmt s aV bc aN aZ bB bk bj bo) (vA (cStmt s aV bc aN aZ bB bk bj bo)) rfl rfl<|yQ [] iR ⟨_,rfl,rfl,wM ⟨_,_,_,_,rfl,e10,e11,e12,e13⟩⟩
   · intro I1 hf af
     refine xU ?_
     rintro _ _ ⟨rfl,rfl⟩
     refine xU ?_
     rintro _ _ ⟨cs9,rfl,rfl,h9⟩
     refine xU ?_
     rintro _ _ rfl
     obtain ⟨w0,w1,w2,w3,rfl,e10,e11,e12,e13⟩:=oU h9
     obtain ⟨aV,bc,rfl⟩:=e10.form
     obtain ⟨aN,aZ,rfl⟩:=e11.form
     obtain ⟨bB,bk,rfl⟩:=e12.form
     obtain ⟨bj,bo,rfl⟩:=e13.form
     refine pM<|zAP [(86,vP ar 0),(95,vA (cStmt s aV bc aN aZ bB bk bj bo))]<|tM (eJ y3 s _ hm1 (h7.mono af) e10 e11 e12 e13) rfl ?_
     rintro aU aw v2 k2 aC - ⟨v0,kk2,rfl,rfl,⟨aQ,rfl,h10⟩,h11⟩ -
     exact yQ [hB ar kk2] aC ⟨_,_,rfl,rfl,h10,h11⟩
   · intro I1 hf af
     refine xU ?_
     rintro _ _ ⟨rfl,rfl⟩
     refine xU ?_
     rintro _ _ ⟨cs9,kk,rfl,rfl,h9,hk⟩
     obtain ⟨w0,w1,w2,w3,rfl,e10,e11,e12,e13⟩:=oU h9
     obtain ⟨aV,bc,rfl⟩:=e10.form
     obtain ⟨aN,aZ,rfl⟩:=e11.form
     obtain ⟨bB,bk,rfl⟩:=e12.form
     obtain ⟨bj,bo,rfl⟩:=e13.form
     obtain ⟨w4,rfl,hsl⟩:=fK hk
     obtain ⟨p8,c8,rfl⟩:=hsl.form
     refine pM<|zAP [(85,vP ar 0),(96,vA (cStmt y22 aV bc aN aZ bB bk bj bo))]<|tM (eJ y23 y22 _ hm2 (hsl) e10 e11 e12 e13) rfl ?_
     rintro aU aw v2 k2 aC - ⟨v0,kk2,rfl,rfl,⟨aQ,rfl,h10⟩,h11⟩ -
     exact yQ [hB ar kk2] aC ⟨_,_,rfl,rfl,h10,h11⟩
   intro I1 hf af
   refine xU ?_
   rintro _ _ ⟨rfl,rfl⟩
   refine xU ?_
   rintro _ _ ⟨cs9,kk,rfl,rfl,h9,hk⟩
   obtain ⟨w0,w1,w2,w3,rfl,e10,e11,e12,e13⟩:=oU h9
   obtain ⟨aV,bc,rfl⟩:=e10.form
   obtain ⟨aN,aZ,rfl⟩:=e11.form
   obtain ⟨bB,bk,rfl⟩:=e12.form
   obtain ⟨bj,bo,rfl⟩:=e13.form
   obtain ⟨w4,rfl,hsl⟩:=fK hk
   obtain ⟨p8,c8,rfl⟩:=hsl.form
   refine pM<|zAP [(84,vP ar 0),(97,vA (cStmt y24 aV bc aN aZ bB bk bj bo))]<|tM (eJ y25 y24 _ hm3 (hsl) e10 e11 e12 e13) rfl ?_
   rintro aU aw v2 k2 aC - ⟨v0,kk2,rfl,rfl,⟨aQ,rfl,h10⟩,h11⟩ -
   exact yQ [hB ar kk2] aC ⟨_,_,rfl,rfl,h10,h11⟩
 intro I5 bt
 refine xU ?_
 rintro _ _ ⟨rfl,rfl⟩
 refine xU ?_
 rintro _ _ ⟨cs9,kk,rfl,rfl,h9,hk⟩
 obtain ⟨w0,w1,w2,w3,rfl,e10,e11,e12,e13⟩:=oU h9
 obtain ⟨aV,bc,rfl⟩:=e10.form
 obtain ⟨aN,aZ,rfl⟩:=e11.form
 obtain ⟨bB,bk,rfl⟩:=e12.form
 obtain ⟨bj,bo,rfl⟩:=e13.form
 have h3:=iM bt h3
 have hRw:=iM bt hRw
 have hN:=hN.mono bt
 have hBd:=iM bt hBd
 have hset:=hset.mono bt
 refine pM<|zAP [(4,vP b1 0),(5,vP b2 0),(83,vS pB bl cB),(98,vA (cStmt y26 aV bc aN aZ bB bk bj bo))]<|nY (α:=zO) 1 rfl rfl rfl hBd hs ?_
 intro ad aK aq bL al
 obtain ⟨w0,w1,w2,w3,rfl,e20,e21,e22,e23⟩:=oU al
 obtain ⟨p20,c20,rfl⟩:=e20.form
 obtain ⟨p21,c21,rfl⟩:=e21.form
 obtain ⟨p22,c22,rfl⟩:=e22.form
 obtain ⟨p23,c23,rfl⟩:=e23.form
 refine qB (c:=(cStmt y26 aV bc aN aZ bB bk bj bo)) (x':=y26) 1 0 rfl rfl rfl aq rfl rfl bL (by kernel_rfl) (by kernel_rfl) (by kernel_rfl) hBd hs (by kernel_rfl) (wM ⟨_,_,_,_,rfl,e10,e11,e12,e13⟩) ?_
 intro cs7 h7' bh
 refine wE (ah:=[hB ar kk,hO zO (vS pB bl cB) cs7,hO Raw2 (vS a1 ak c1) s1,hB b2 [vS a0 y.Arrays c0,vS a1 ak c1],hO zF (vS a0 y.Arrays c0) s0,hB b1 zTwo]) rfl<|xF 1 rfl ?_
 intro I6 bv hl6
 have eB:vS pB bl cB=vS pB (bl.set 0 y26) cB:=by simp [vS]
 have kB:SL I6 (vS pB (bl.set 0 y26) cB) (bl.set 0 y26):=by
   rw [<- eB]
   exact SL.of_frozen (l:=bl.set 0 y26) hl6 bv h7'
 rw [eB] at hset
 have hdone:=(hset.mono bv).done (hN.mono bv) kB
 have eS:=kI hRw
 rw [<- eS] at hdone
 have h3:=iM bv h3
 have hk:=Rp.mono bv hk
 have eP:vS a1 ak c1=vS a1 (y.Parts.set (W ((ak.length:Int) - 1)).toNat ⟨nl,bl.set 0 y26⟩) c1:=by simp only [vS,cR,hLP.2.1]
 refine wE (ah:=[hB ar kk,hO Raw2 (vS a1 ak c1) s1,hB b2 [vS a0 y.Arrays c0,vS a1 ak c1],hO zF (vS a0 y.Arrays c0) s0,hB b1 zTwo]) rfl<|yD rfl<|zP<|yV<|rY 1 [2] [(110,vA [vS a0 y.Arrays c0,vS a1 ak c1])]<|xH 4 [vS a0 y.Arrays c0,vS a1 ak c1] rfl<|yD rfl<|xC<|yU 1 rfl ?_
 intro I7 le7 hl7
 have k1:SL I7 (vS a1 ak c1) (y.Parts.set (W ((ak.length:Int) - 1)).toNat ⟨nl,bl.set 0 y26⟩):=SL.of_frozen (l:=y.Parts.set (W ((ak.length:Int) - 1)).toNat ⟨nl,bl.set 0 y26⟩) hl7 le7 hdone
 refine yU 2 rfl ?_
 intro I8 le8 hl8
 have k2:=SL.of_frozen hl8 le8 (iM le7 h3)
 rw [hLP.len]
 exact xA ⟨_,_,(.cell 2 rfl rfl (by kernel_rfl) ResV.nil),(zX [0] rfl (by decide)),⟨_,_,rfl,rfl,⟨_,rfl,(vD ⟨_,_,rfl,k2,k1.mono le8⟩)⟩,Rp.mono le8 (Rp.mono le7 hk)⟩⟩
theorem zEr:∀ r0 p1 r,pI r0 p1=some r->∀ {I:Imm}{ar:Nat}{p c p2 c1 p3 c2},(S4 I p r0.b c)->(S4 I p2 p1.Arrays c1)->(S4 I p3 p1.Parts c2)->RT 90 [vP ar 0,vA (cProg p1 p2 c1 p3 c2)] I [hB ar (cRd r0 p c)] (fL ar r):=by
 intro r0 p1 r N I ar p c p2 c1 p3 c2 h h1 h2;by_cases hq:∃ y y3 x s,qQ p1=some y/\yX r0 60=some (3,y3)/\idx y.Parts (W ((y.Parts.length:Int) - 1))=some x/\idx x.Body 0=some s
 · obtain ⟨y,y3,x,s,e1,e2,e3,e4⟩:=hq;exact zDp r0 p1 r N e1 e2 e3 e4 h h1 h2
 refine zDn r0 p1 r N h h1 h2 ?_;intro y y2 y3 x s e1 e2 e3 e4 e5;obtain rfl:=eq_of_beq e3;exact hq ⟨y,y3,x,s,e1,e2,e4,e5⟩
def zAt (r:(List Str)):KT:=fun kk I' ah v=>
  ∃ v0,ah=[]/\v=tupV [v0]/\SL I' v0 r
def pU (s:Str) (c:UInt8) (out:List Str) (from0:Int) (i:Int):Option (List Str):=do
 if (decide (i<=(s.l.length:Int))) then
  let t25<-(do
    if (i==(s.l.length:Int)) then
     pure true
    else
     let b1<-sidx s i
     pure ((b1.toNat:Int)==(c.toNat:Int))
      : Option Bool)
  let (ap,from01)<-(do
    if t25 then
     let s1<-sslc s from0 i
     let aP<-app 16 out ([s1]:List Str)
     pure (aP,(W (i+1)))
    else
     pure (out,from0)
      : Option (List Str×Int))
  pU s c ap from01 (W (i+1))
 else
  pure (id out)
 partial_fixpoint
theorem zDq (s:Str) (c:UInt8):∀ (out:List Str) (from0:Int) (i:Int) (o:List Str),pU s c out from0 i=some o->∀ {B}{I0 I:Imm}{Q p c1 cs},I0.le I->(RL I cs out)->NG Q->NO Q->(∀ (I':Imm) (aj:List Str) (p1:Option Addr) (c2:Nat) (ay:List Value),o=aj->I0.le I'->(RL I' ay aj)->T 36 B Q (.exit 0) I' [hO Str (vS p1 aj c2) ay] [(5,vS p1 aj c2)])->J Tryz.prog 36 B (nav (bodyOf f174) [1,1,1,0,1,0]) Q I [hO Str (vS p out c1) cs] [(0,vT s.l),(1,.int .u8 (c.toNat:Int)),(5,vS p out c1),(6,vI from0),(7,vI i)]:=by
 refine pU.partial_correctness s c _ fun aH ih out from0 i o N B I0 I Q p c1 cs H h1 hg ho hx=>yR hg ho<|yB<|yG [12] rfl<|zI<|yF N ?_ ?_
 · intro hc N;refine zT<|yA<|yH<|yB ?_;refine wS N [hO Str (vS p out c1) cs] (fun t25=>[(0,vT s.l),(1,.int .u8 (c.toNat:Int)),(5,vS p out c1),(6,vI from0),(7,vI i),(25,.bool t25)]) (fun o0 aB=>?_) ?_
   · have H:=iS I;refine zM<|yC 5 [] [19] rfl<|xS [19] aB ?_ ?_
     · intro aE N;exact wB [] [(25,vY)]<|yL<|zU (ct N H)
     intro aE N;exact yC 7 [] [20,21] rfl<|bE N fun b1 hy N=>zAO rfl rfl hy<|yI [] [25] rfl<|yL<|zU (ct N H)
   intro t25 I0 le aS;have ⟨h1,H⟩:=m2 le h1 H;refine zI ?_;obtain ⟨aM,az,hMc1⟩:=zB aS;refine qR (fun I' ah m'=>∃ (ap:List Str) (from01:Int) (p2:Option Addr) (c3:Nat) (aQ:List Value),aM=(ap,from01)/\I0.le I'/\(RL I' aQ ap)/\ah=[hO Str (vS p2 ap c3) aQ]/\m'=[(0,vT s.l),(1,.int .u8 (c.toNat:Int)),(5,vS p2 ap c3),(6,vI from01),(7,vI i)]) ?_ ?_
   · have H:=iS I0;refine yF az ?_ ?_
     · intro aY N;refine yE<|yC 4 [] [26,27,28,29] rfl<|bE N fun s1 aA N=>zHK rfl aA<|uD [vT s1.l] Str ?_;intro b2 hb1;have h4:RL I0 [vT s1.l] ([s1]:List Str):=rT [s1];obtain ⟨aP,aJ,N⟩:=zB N;exact sC 9 1 1 rfl rfl rfl h1 (.inr ⟨0,rfl⟩) h4 aJ fun p3 c4 aR h5=>tO (zY [1] (ah:=[hO Str (vS p3 aP c4) aR]))<|yI [] [5] rfl<|zI<|zM<|yI [] [6] rfl<|yL<|zU ⟨_,_,_,_,_,(zC N).symm,H,h5,rfl,rfl⟩
     intro aY N;exact zT<|yL<|zU ⟨_,_,_,_,_,(zC N).symm,H,h1,rfl,rfl⟩
   rintro aT aw m2 ⟨ap,from01,p2,c3,aQ,heq1,af,h3,rfl,rfl⟩;subst aM;have H:=H.trans af;exact zP<|zI<|zM<|yI [] [7] rfl<|yP<|nN<|ih ap from01 (W (i+1)) _ hMc1 H h3 hg ho hx
 intro hc N;exact wR<|yL<|hx _ _ _ _ _ (zC N).symm H h1
def mT (s:Str) (c:UInt8):Option ((List Str)):=do
 let aj<-pU s c ([]:List Str) 0 0
 pure (id aj)
theorem zAD:∀ s c r,mT s c=some r->∀ {I:Imm} ,RT 174 [vT s.l,.int .u8 (c.toNat:Int)] I [] (zAt  r):=by
 intro s c r N I;unfold mT at N;refine yJ func174 fun B=>vR []<|yV<|uD [] Str ?_;intro b hb;have h:RL I [] ([]:List Str):=rfl;refine yI [] [5] rfl<|vK [6] rfl<|yA<|yG [7] rfl<|xX<|qP [(0,vT s.l),(1,.int .u8 (c.toNat:Int)),(5,vS (some ⟨b,0,none⟩) ([]:List Str) 0),(6,vI 0),(7,vI 0)] ?_;obtain ⟨o02,ho02,aI⟩:=zB N;refine zDq s c ([]:List Str) 0 0 o02 ho02 iR h (fun _ _ _ h=>h) (fun _ _ h=>h) ?_;intro aU aj p1 c2 ay heq2 aC h2;subst o02;refine zS<|vK [4] rfl<|xC<|yU 0 rfl ?_;intro bC aD hl0;have h6:=SL.of_frozen hl0 aD h2;obtain rfl:=zC aI;exact xA ⟨_,_,(.tmp rfl ResV.nil),zQ,⟨_,rfl,rfl,h6⟩⟩
def qD (y:(List Str)) (out:List Str) (i:Int):Option (List Str):=do
 if (decide (i<(y.length:Int))) then
  let x<-idx y i
  let ap<-(do
    if (!(x.l==([]:List UInt8))) then
     let x1<-idx y i
     let aP<-app 16 out ([x1]:List Str)
     pure (id aP)
    else
     pure (id out)
      : Option (List Str))
  qD y ap (W (i+1))
 else
  pure (id out)
 partial_fixpoint
theorem zCg (y:(List Str)):∀ (out:List Str) (i:Int) (o:List Str),qD y out i=some o->∀ {B}{I0 I:Imm}{Q p c p1 c1 cs},I0.le I->(S4 I p y c)->(RL I cs out)->NG Q->NO Q->(∀ (I':Imm) (aj:List Str) (p2:Option Addr) (c2:Nat) (ay:List Value),o=aj->I0.le I'->(RL I' ay aj)->T 28 B Q (.exit 0) I' [hO Str (vS p2 aj c2) ay] [(4,vS p2 aj c2)])->J Tryz.prog 28 B (nav (bodyOf f210) [1,1,1,0,1,0]) Q I [hO Str (vS p1 out c1) cs] [(3,vS p y c),(4,vS p1 out c1),(5,vI i)]:=by
 refine qD.partial_correctness y _ fun aH ih out i o N B I0 I Q p c p1 c1 cs H h h2 hg ho hx=>yR hg ho<|yB<|yG [12] rfl<|zI<|yF N ?_ ?_
 · intro hc N;refine zT<|yA<|yH<|yE<|yC 2 [] [15,16] rfl<|bE N fun x aA N=>xO rfl rfl h aA ?_;intro ad aK aq al;obtain rfl:=al;refine xJ 0 aq [vT x.l] (vT x.l) rfl<|yI [] [19] rfl<|zI ?_;obtain ⟨o0,aB,aS⟩:=zB N;refine qR (fun I' ah m'=>∃ (ap:List Str) (p3:Option Addr) (c3:Nat) (aQ:List Value),o0=ap/\I.le I'/\(RL I' aQ ap)/\ah=[hO Str (vS p3 ap c3) aQ]/\m'=[(3,vS p y c),(4,vS p3 ap c3),(5,vI i)]) ?_ ?_
   · have H:=iS I;refine yF aB ?_ ?_
     · intro aE N;refine zM<|yC 3 [] [20,21,22] rfl<|bE N fun x1 aJ N=>xO rfl rfl h aJ ?_;intro ad1 bx au ax;obtain rfl:=ax;refine xJ 0 au [vT x1.l] (vT x1.l) rfl<|uD [vT x1.l] Str ?_;intro b1 hb1;have h5:RL I [vT x1.l] ([x1]:List Str):=rT [x1];obtain ⟨aP,bf,N⟩:=zB N;exact sC 9 1 1 rfl rfl rfl h2 (.inr ⟨0,rfl⟩) h5 bf fun p4 c4 aR h6=>tO (zY [1] (ah:=[hO Str (vS p4 aP c4) aR]))<|yI [] [4] rfl<|yL<|zU ⟨_,_,_,_,(zC N).symm,H,h6,rfl,rfl⟩
     intro aE N;exact zT<|yL<|zU ⟨_,_,_,_,(zC N).symm,H,h2,rfl,rfl⟩
   rintro aT aw m2 ⟨ap,p3,c3,aQ,heq,af,h4,rfl,rfl⟩;subst o0;have ⟨h,H⟩:=m2 af h H;exact zP<|zI<|zM<|yI [] [5] rfl<|yP<|nN<|ih ap (W (i+1)) _ aS H h h4 hg ho hx
 intro hc N;exact wR<|yL<|hx _ _ _ _ _ (zC N).symm H h2
def mE (s:Str):Option ((List Str)):=do
 let y<-mT s (32:UInt8)
 let aj<-qD y ([]:List Str) 0
 pure (id aj)
theorem zAu:∀ s r,mE s=some r->∀ {I:Imm} ,RT 210 [vT s.l] I [] (zAt  r):=by
 intro s r N I;unfold mE at N;refine yJ func210 fun B=>vR []<|yV<|yC 1 [] [6] rfl<|bE N fun y hy N=>xM (zAD s (32:UInt8) _ hy ) ?_;rintro I0 aw v2 k2 le - ⟨v0,rfl,rfl,h⟩ -;obtain ⟨p,c,rfl⟩:=h.form;refine yI [] [3] rfl<|yV<|uD [] Str ?_;intro b hb;have h1:RL I0 [] ([]:List Str):=rfl;refine yI [] [4] rfl<|yA<|yG [5] rfl<|xX<|qP [(3,vS p y c),(4,vS (some ⟨b,0,none⟩) ([]:List Str) 0),(5,vI 0)] ?_;obtain ⟨aM,az,aI⟩:=zB N;refine zCg y ([]:List Str) 0 aM az iR h h1 (fun _ _ _ h=>h) (fun _ _ h=>h) ?_;intro aU aj p2 c2 ay heq1 aC h3;subst aM;refine zS<|vK [2] rfl<|xC<|yU 0 rfl ?_;intro bC aD hl0;have h7:=SL.of_frozen hl0 aD h3;obtain rfl:=zC aI;exact xA ⟨_,_,(.tmp rfl ResV.nil),zQ,⟨_,rfl,rfl,h7⟩⟩
def kK (r:Int×Bool):KT:=fun kk I' ah v=>
  ∃ v0 v1,ah=[]/\v=tupV [v0,v1]/\v0=.int .i64 r.1/\v1=.bool r.2
def pV (s1:Str) (n0:Int) (i:Int):Option (Out Int (Int×Bool)):=do
 if (decide (i<(s1.l.length:Int))) then
  let t54<-(do
    let b2<-sidx s1 i
    if (decide ((b2.toNat:Int)<48)) then
     pure true
    else
     let b3<-sidx s1 i
     pure (decide ((b3.toNat:Int)>57))
      : Option Bool)
  if t54 then
   pure (.ret (0,false))
  else
   let b4<-sidx s1 i
   pV s1 (W ((W (n0*10))+(W (IntKind.u8.wrap ((b4.toNat:Int) - 48))))) (W (i+1))
 else
  pure (.done n0)
 partial_fixpoint
theorem zDr (s1:Str):∀ (n0:Int) (i:Int) (o:Out Int (Int×Bool)),pV s1 n0 i=some o->∀ {B}{I0 I:Imm}{Q}{neg:Bool} ,I0.le I->NG Q->NO Q->(∀ (I':Imm) (n01:Int),o=(.done n01)->I0.le I'->T 67 B Q (.exit 0) I' [] [(4,.bool neg),(5,vI n01)])->(∀ r I' ah m',o=(.ret r)->I0.le I'->RS Tryz.prog f237 B (kK  r) I' ah m'->T 67 B Q .ret I' ah m')->J Tryz.prog 67 B (nav (bodyOf f237) [1,1,1,1,1,0,1,0]) Q I [] [(0,vT s1.l),(4,.bool neg),(5,vI n0),(6,vI i)]:=by
 refine pV.partial_correctness s1 _ fun aH ih n0 i o N B I0 I Q neg H hg ho hx hr=>yR hg ho<|yB<|yG [42] rfl<|zI<|yF N ?_ ?_
 · intro hc7 N;refine zT<|yA<|yH<|yB<|yB ?_;refine wS N [] (fun t54=>[(0,vT s1.l),(4,.bool neg),(5,vI n0),(6,vI i),(54,.bool t54)]) (fun o03 ho03=>?_) ?_
   · have H:=iS I;refine zM<|yC 2 [] [45,46] rfl ?_;obtain ⟨b2,bf,N⟩:=zB ho03;refine zAO rfl rfl bf<|yC 5 [] [49] rfl<|xS [49] N ?_ ?_
     · intro hc8 N;exact wB [] [(54,vY)]<|yL<|zU (ct N H)
     intro hc8 N;exact yC 7 [] [50,51] rfl<|bE N fun b3 bw N=>zAO rfl rfl bw<|yI [] [54] rfl<|yL<|zU (ct N H)
   intro t54 bC aD hMc3;have H:=H.trans aD;refine zI<|yF hMc3 ?_ ?_
   · intro hc9 N;exact yG [2,3] rfl<|xC<|zH<|zW<|zH<|zH<|hr _ _ _ _ (zC N).symm H ⟨_,_,(.tmp rfl (.tmp rfl ResV.nil)),zQ,⟨_,_,rfl,rfl,rfl,rfl⟩⟩
   intro hc9 N;exact zT<|zI<|zM<|yC 4 [] [56,57,58] rfl<|bE N fun b4 bH N=>zAO rfl rfl bH<|yI [] [5] rfl<|zP<|zI<|zM<|yI [] [6] rfl<|yP<|nN<|ih (W ((W (n0*10))+(W (IntKind.u8.wrap ((b4.toNat:Int) - 48))))) (W (i+1)) _ N H  hg ho hx hr
 intro hc7 N;exact wR<|yL<|hx _ _ (zC N).symm H
def jP (s:Str):Option (Int×Bool):=do
 let neg<-(do
   if (decide ((s.l.length:Int)>0)) then
    let b<-sidx s 0
    pure ((b.toNat:Int)==45)
   else
    pure false
     : Option Bool)
 let s1<-(do
   if neg then
    let s2<-sslc s 1 (s.l.length:Int)
    pure (id s2)
   else
    pure (id s)
     : Option Str)
 let t38<-(do
   if ((s1.l.length:Int)==0) then
    pure true
   else
    if (decide ((s1.l.length:Int)>17)) then
     pure true
    else
     let b1<-sidx s1 0
     if ((b1.toNat:Int)==48) then
      if (decide ((s1.l.length:Int)>1)) then
       pure true
      else
       pure (id neg)
     else
      pure false
     : Option Bool)
 if t38 then
  pure (0,false)
 else
  match<-pV s1 0 0 with
  | .ret r0=>pure r0
  | .done n01 =>
   let n02<-(do
     if neg then
      pure (W (0 - n01))
     else
      pure (id n01)
       : Option Int)
   pure (n02,true)
theorem zBy:∀ s r,jP s=some r->∀ {I:Imm} ,RT 237 [vT s.l] I [] (kK  r):=by
 intro s r N I;unfold jP at N;refine yJ func237 fun B=>?_;have H:=iS I;refine vR []<|zI<|yB ?_;refine wS N [] (fun neg=>[(0,vT s.l),(4,.bool neg)]) (fun o0 aB=>?_) ?_
 · have H:=iS I;refine zM<|yC 4 [] [10] rfl<|xS [10] aB ?_ ?_
   · intro hc N;exact yC 5 [] [11] rfl<|bE N fun b hy N=>zAO rfl rfl hy<|yI [] [4] rfl<|yL<|zU (ct N H)
   intro hc N;exact wB [] [(4,vF)]<|yL<|zU (ct N H)
 intro neg I0 le aS;have H:=H.trans le;refine yA<|yG [15] rfl<|zI ?_;refine wS aS [] (fun s1=>[(0,vT s1.l),(4,.bool neg)]) (fun aM az=>?_) ?_
 · have H:=iS I0;refine yF az ?_ ?_
   · intro aE N;exact zM<|yC 1 [] [16] rfl<|bE N fun s2 aA N=>zHK rfl aA<|yI [] [0] rfl<|yL<|zU (ct N H)
   intro aE N;exact zT<|yL<|zU (ct N H)
 intro s1 aT af hMc1;have H:=H.trans af;refine yA<|yB ?_;refine wS hMc1 [] (fun t38=>[(0,vT s1.l),(4,.bool neg),(38,.bool t38)]) (fun o02 ho02=>?_) ?_
 · have H:=iS aT;refine zM<|yC 4 [] [21] rfl<|xS [21] ho02 ?_ ?_
   · intro aY N;exact wB [] [(38,vY)]<|yL<|zU (ct N H)
   intro aY N;refine yC 9 [] [26] rfl<|xS [26] N ?_ ?_
   · intro bG N;exact wB [] [(38,vY)]<|yL<|zU (ct N H)
   intro bG N;refine yC 10 [] [27] rfl<|bE N fun b1 aJ N=>zAO rfl rfl aJ<|yC 13 [] [30] rfl<|xS [30] N ?_ ?_
   · intro bM N;refine yC 17 [] [34] rfl<|xS [34] N ?_ ?_
     · intro hc5 N;exact wB [] [(38,vY)]<|yL<|zU (ct N H)
     intro hc5 N;exact yI [] [38] rfl<|yL<|zU (ct N H)
   intro bM N;exact wB [] [(38,vF)]<|yL<|zU (ct N H)
 intro t38 aU aC hMc2;have H:=H.trans aC;refine zI<|yF hMc2 ?_ ?_
 · intro hc6 N;refine yG [2,3] rfl<|xC<|zH ?_;obtain rfl:=zC N;exact xA ⟨_,_,(.tmp rfl (.tmp rfl ResV.nil)),zQ,⟨_,_,rfl,rfl,rfl,rfl⟩⟩
 intro hc6 N;refine zT<|vK [5] rfl<|yA<|yG [6] rfl<|xX<|qP [(0,vT s1.l),(4,.bool neg),(5,vI 0),(6,vI 0)] ?_;obtain ⟨o04,ho04,aI⟩:=zB N;refine zDr s1 0 0 o04 ho04 iR  (fun _ _ _ h=>h) (fun _ _ h=>h) ?_ ?_
 · intro bJ n01 heq4 aW;subst o04;have H:=H.trans aW;refine zS<|yA<|yG [63] rfl<|zI ?_;refine wS aI [] (fun n02=>[(5,vI n02)]) (fun o05 ho05=>?_) ?_
   · have H:=iS bJ;refine yF ho05 ?_ ?_
     · intro hc10 N;exact zM<|yI [] [5] rfl<|yL<|zU (ct N H)
     intro hc10 N;exact zT<|yL<|zU (ct N H)
   intro n02 bN bt hMc4;refine vK [2,3] rfl<|zI<|xB ?_;obtain rfl:=zC hMc4;exact xA ⟨_,_,(.tmp rfl (.tmp rfl ResV.nil)),zQ,⟨_,_,rfl,rfl,rfl,rfl⟩⟩
 intro r0 I9 hs9 m9 aX le9 ba;subst aX;refine zW<|zH ?_;obtain rfl:=zC aI;exact xA ba
def zDs (r:zF):KT:=fun kk I' ah v=>
  ∃ v0,ah=[]/\v=tupV [v0]/\(∃ cs,v0=.agg ⟨cs⟩/\Rp.rep I' cs r)
def rD (w0:(List Str)) (i:Int) (Name:Str) (Dims:List Int):Option ((Str×List Int)):=do
 let t15<-(do
   if (decide (i<(w0.length:Int))) then
    pure (decide (i<=4))
   else
    pure false
     : Option Bool)
 if t15 then
  if (i==1) then
   let x<-idx w0 1
   rD w0 (W (i+1)) x Dims
  else
   let x1<-idx w0 i
   let (y1,y2)<-jP x1
   let l<-app 8 Dims ([y1]:List Int)
   rD w0 (W (i+1)) Name l
 else
  pure (Name,Dims)
 partial_fixpoint
theorem zDK (w0:(List Str)):∀ (i:Int) (Name:Str) (Dims:List Int) (o:(Str×List Int)),rD w0 i Name Dims=some o->∀ {B}{I0 I:Imm}{Q p c}{b:Nat}{b1:Nat}{p1 c1 cs},I0.le I->(S4 I p w0 c)->(RL I cs Dims)->NG Q->NO Q->(∀ (I':Imm) (Name1:Str) (Dims1:List Int) (p2:Option Addr) (c2:Nat) (ay:List Value),o=(Name1,Dims1)->I0.le I'->(RL I' ay Dims1)->T 39 B Q (.exit 0) I' [hO Int (vS p2 Dims1 c2) ay,hB b1 [vT Name1.l,vS p2 Dims1 c2],hB b [vT ([]),z0]] [(2,vP b 0),(3,vP b1 0)])->J Tryz.prog 39 B (nav (bodyOf f211) [1,1,0,1,0]) Q I [hO Int (vS p1 Dims c1) cs,hB b1 [vT Name.l,vS p1 Dims c1],hB b [vT ([]),z0]] [(0,vS p w0 c),(2,vP b 0),(3,vP b1 0),(4,vI i)]:=by
 refine rD.partial_correctness w0 _ fun aH ih i Name Dims o N B I0 I Q p c b b1 p1 c1 cs H h h2 hg ho hx=>yR hg ho<|yB<|yB ?_;refine wS N [hO Int (vS p1 Dims c1) cs,hB b1 [vT Name.l,vS p1 Dims c1],hB b [vT ([]),z0]] (fun t15=>[(0,vS p w0 c),(2,vP b 0),(3,vP b1 0),(4,vI i),(15,.bool t15)]) (fun o0 aB=>?_) ?_
 · have H:=iS I;refine zM<|yC 5 [] [12] rfl<|xS [12] aB ?_ ?_
   · intro hc N;exact yI [] [15] rfl<|yL<|zU (ct N H)
   intro hc N;exact wB [] [(15,vF)]<|yL<|zU (ct N H)
 intro t15 I0 le aS;have ⟨h,h2,H⟩:=m3 le h h2 H;refine zI<|yF aS ?_ ?_
 · intro aE N;refine zT<|yA<|yH<|yB<|yG [19] rfl<|zI<|yF N ?_ ?_
   · intro aY N;refine yE<|yC 1 [] [20] rfl<|bE N fun x hy N=>xO rfl rfl h hy ?_;intro ad aK aq al;obtain rfl:=al;exact xJ 0 aq [vT x.l] (vT x.l) rfl<|yC 4 [] [23] rfl<|xH 1 [vT x.l,vS p1 Dims c1] rfl<|yD rfl<|zI<|zEb<|jB<|zS<|zI<|zM<|yI [] [4] rfl<|yP<|nN<|ih (W (i+1)) x Dims _ N H h h2 hg ho hx
   intro aY N;refine zT<|yV<|yC 2 [] [25,26] rfl<|bE N fun x1 aA N=>xO rfl rfl h aA ?_;intro ad1 bx au ax;obtain rfl:=ax;refine xJ 0 au [vT x1.l] (vT x1.l) rfl ?_;obtain ⟨⟨y1,y2⟩,aJ,N⟩:=zB N;refine xM (zBy x1 _ aJ ) ?_;rintro aT aw v2 k2 af - ⟨v0,v01,rfl,rfl,rfl,rfl⟩ -;have ⟨h,h2,H⟩:=m3 af h h2 H;refine yI [] [5] rfl<|zI<|zM<|yC 3 [1] [33,34] rfl<|uD [vI y1] Int ?_;intro b2 hb2;have h6:RL aT [vI y1] ([y1]:List Int):=rI [y1];obtain ⟨l,bf,N⟩:=zB N;refine sC 3 1 1 rfl rfl rfl h2 (.inr ⟨0,rfl⟩) h6 bf ?_;intro p3 c3 aQ h7;exact tO (zY [1,2,3] (ah:=[hO Int (vS p3 l c3) aQ,hB b1 [vT Name.l,vS p1 Dims c1],hB b [vT ([]),z0]]))<|yC 6 [] [37] rfl<|xH 1 [vT Name.l,vS p3 l c3] rfl<|yD rfl<|zP<|zI<|zM<|yI [] [4] rfl<|yP<|nN<|ih (W (i+1)) Name l _ N H h h7 hg ho hx
 intro aE N;exact wR<|yL<|hx _ _ _ _ _ _ (zC N).symm H h2
def gD (w0:(List Str)):Option (zF):=do
 let (Name1,Dims1)<-rD w0 1 (⟨[]⟩:Str) ([]:List Int)
 pure (zF.mk Name1 Dims1)
theorem zF7:∀ w0 r,gD w0=some r->∀ {I:Imm}{p c},(S4 I p w0 c)->RT 211 [vS p w0 c] I [] (zDs  r):=by
 intro w0 r N I p c h;unfold gD at N;refine yJ func211 fun B=>yE<|wL [vT ([]),z0] ?_;intro b hb;refine yD rfl<|yV<|yC 1 [] [7] rfl<|wL [vT ([]),z0] ?_;intro b1 hb1;refine xH 0 [vT ([]),z0] rfl<|yD rfl<|yA<|yG [4] rfl<|xX<|qP [(0,vS p w0 c),(2,vP b 0),(3,vP b1 0),(4,vI 1)]<|dR Int fun h1=>?_;obtain ⟨aM,az,aI⟩:=zB N;refine zDK w0 1 (⟨[]⟩:Str) ([]:List Int) aM az iR h h1 (fun _ _ _ h=>h) (fun _ _ h=>h) ?_;intro aU Name1 Dims1 p2 c2 ay heq1 aC h3;subst aM;refine zS<|yV<|rY 1 [1] [(38,vA [vT Name1.l,vS p2 Dims1 c2])]<|xH 2 [vT Name1.l,vS p2 Dims1 c2] rfl<|yD rfl<|xC<|yU 0 rfl ?_;intro bC aD hl0;have h8:=SL.of_frozen hl0 aD h3;obtain rfl:=zC aI;exact xA ⟨_,_,(.cell 1 rfl rfl (by kernel_rfl) ResV.nil),zQ,⟨_,rfl,rfl,⟨_,rfl,(rX ⟨_,rfl,h8⟩)⟩⟩⟩
def fM (r:Int×Int):KT:=fun kk I' ah v=>
  ∃ v0 v1,ah=[]/\v=tupV [v0,v1]/\v0=.int .i64 r.1/\v1=.int .i64 r.2
def qE (s:Str) (at0:Int) (end0:Int):Option (Int):=do
 let t31<-(do
   if (decide (end0<(s.l.length:Int))) then
    if (decide (end0<(W (at0+2)))) then
     let b<-sidx s end0
     if (decide ((b.toNat:Int)>=48)) then
      let b1<-sidx s end0
      pure (decide ((b1.toNat:Int)<=57))
     else
      pure false
    else
     pure false
   else
    pure false
     : Option Bool)
 if t31 then
  qE s at0 (W (end0+1))
 else
  pure (id end0)
 partial_fixpoint
theorem zCh (s:Str) (at0:Int):∀ (end0:Int) (o:Int),qE s at0 end0=some o->∀ {B}{I0 I:Imm}{Q}  ,I0.le I->NG Q->NO Q->(∀ (I':Imm) (end01:Int),o=end01->I0.le I'->T 47 B Q (.exit 0) I' [] [(0,vT s.l),(1,vI at0),(6,vI end01)])->J Tryz.prog 47 B (nav (bodyOf f262) [1,1,0,0]) Q I [] [(0,vT s.l),(1,vI at0),(6,vI end0)]:=by
 refine qE.partial_correctness s at0 _ fun aH ih end0 o N B I0 I Q H hg ho hx=>yR hg ho<|yB<|yB ?_;refine wS N [] (fun t31=>[(0,vT s.l),(1,vI at0),(6,vI end0),(31,.bool t31)]) (fun o0 aB=>?_) ?_
 · have H:=iS I;refine zM<|yC 5 [] [14] rfl<|xS [14] aB ?_ ?_
   · intro hc N;refine yC 11 [] [20] rfl<|xS [20] N ?_ ?_
     · intro aE N;refine yC 13 [] [21,22] rfl<|bE N fun b hy N=>zAO rfl rfl hy<|yC 17 [] [26] rfl<|xS [26] N ?_ ?_
       · intro aY N;exact yC 19 [] [27,28] rfl<|bE N fun b1 aA N=>zAO rfl rfl aA<|yI [] [31] rfl<|yL<|zU (ct N H)
       intro aY N;exact wB [] [(31,vF)]<|yL<|zU (ct N H)
     intro aE N;exact wB [] [(31,vF)]<|yL<|zU (ct N H)
   intro hc N;exact wB [] [(31,vF)]<|yL<|zU (ct N H)
 intro t31 I0 le aS;have H:=H.trans le;refine zI<|yF aS ?_ ?_
 · intro bG N;exact zT<|xX<|zM<|yI [] [6] rfl<|zP<|yP<|nN<|ih (W (end0+1)) _ N H  hg ho hx
 intro bG N;exact wR<|yL<|hx _ _ (zC N).symm H
def mF (s:Str) (at0:Int):Option (Int×Int):=do
 let end01<-qE s at0 at0
 let s1<-sslc s at0 end01
 let (y1,y2)<-jP s1
 if (!y2) then
  pure (1,at0)
 else
  pure (y1,end01)
theorem zAv:∀ s at0 r,mF s at0=some r->∀ {I:Imm} ,RT 262 [vT s.l,vI at0] I [] (fM  r):=by
 intro s at0 r N I;unfold mF at N;refine yJ func262 fun B=>vR []<|vK [6] rfl<|yA<|yH<|qP [(0,vT s.l),(1,vI at0),(6,vI at0)] ?_;obtain ⟨aM,az,aI⟩:=zB N;refine zCh s at0 at0 aM az iR  (fun _ _ _ h=>h) (fun _ _ h=>h) ?_;intro aT end01 heq1 af;subst aM;refine zS<|yV<|yC 3 [] [35,36,37] rfl ?_;obtain ⟨s1,aJ,N⟩:=zB aI;refine zHK rfl aJ ?_;obtain ⟨⟨y1,y2⟩,bf,N⟩:=zB N;refine xM (zBy s1 _ bf ) ?_;rintro aU aw v2 k2 aC - ⟨v0,v01,rfl,rfl,rfl,rfl⟩ -;refine yI [] [7,8] rfl<|yA<|yG [43] rfl<|zI<|yF N ?_ ?_
 · intro bM N;refine yG [4,5] rfl<|xC<|zH ?_;obtain rfl:=zC N;exact xA ⟨_,_,(.tmp rfl (.tmp rfl ResV.nil)),zQ,⟨_,_,rfl,rfl,rfl,rfl⟩⟩
 intro bM N;refine zT<|vK [4,5] rfl<|zI<|xB ?_;obtain rfl:=zC N;exact xA ⟨_,_,(.tmp rfl (.tmp rfl ResV.nil)),zQ,⟨_,_,rfl,rfl,rfl,rfl⟩⟩
def xD (r:Int):KT:=fun kk I' ah v=>
  ∃ v0,ah=[]/\v=tupV [v0]/\v0=.int .i64 r
def gV (s:Str) (at0:Int):Option (Int):=do
 let t20<-(do
   if (decide (at0>=(s.l.length:Int))) then
    pure true
   else
    let b<-sidx s at0
    if (decide ((b.toNat:Int)<105)) then
     pure true
    else
     let b1<-sidx s at0
     pure (decide ((b1.toNat:Int)>108))
     : Option Bool)
 if t20 then
  pure (-1)
 else
  let b2<-sidx s at0
  pure (W ((W (b2.toNat:Int)) - 105))
theorem zGV:∀ s at0 r,gV s at0=some r->∀ {I:Imm} ,RT 272 [vT s.l,vI at0] I [] (xD  r):=by
 intro s at0 r N I;unfold gV at N;refine yJ func272 fun B=>?_;have H:=iS I;refine vR []<|yA<|yB ?_;refine wS N [] (fun t20=>[(0,vT s.l),(1,vI at0),(20,.bool t20)]) (fun o0 aB=>?_) ?_
 · have H:=iS I;refine zM<|yC 5 [] [9] rfl<|xS [9] aB ?_ ?_
   · intro hc N;exact wB [] [(20,vY)]<|yL<|zU (ct N H)
   intro hc N;refine yC 7 [] [10,11] rfl<|bE N fun b hy N=>zAO rfl rfl hy<|yC 11 [] [15] rfl<|xS [15] N ?_ ?_
   · intro aE N;exact wB [] [(20,vY)]<|yL<|zU (ct N H)
   intro aE N;exact yC 13 [] [16,17] rfl<|bE N fun b1 aA N=>zAO rfl rfl aA<|yI [] [20] rfl<|yL<|zU (ct N H)
 intro t20 I0 le aS;refine zI<|yF aS ?_ ?_
 · intro aY N;refine yG [4] rfl<|xC<|zH ?_;obtain rfl:=zC N;exact vE
 intro aY N;refine zT<|yV<|yC 2 [] [21,22] rfl<|bE N fun b2 aJ N=>zAO rfl rfl aJ<|yI [] [4] rfl<|zI<|xB ?_;obtain rfl:=zC N;exact vE
def zDt (r:zA×Int):KT:=fun kk I' ah v=>
  ∃ v0 v1,ah=[]/\v=tupV [v0,v1]/\(∃ cs,v0=.agg ⟨cs⟩/\Rp.rep I' cs r.1)/\v1=.int .i64 r.2
def gE (a0:zA) (s:Str) (at0:Int):Option (zA×Int):=do
 let b2<-sidx s at0
 let sign<-(do
   if ((b2.toNat:Int)==45) then
    pure (-1)
   else
    pure (id 1)
     : Option Int)
 let t27<-(do
   let b3<-sidx s at0
   if ((b3.toNat:Int)==45) then
    pure true
   else
    let b4<-sidx s at0
    pure ((b4.toNat:Int)==43)
     : Option Bool)
 let at01<-(do
   if t27 then
    pure (W (at0+1))
   else
    pure (id at0)
     : Option Int)
 let (y1,y2)<-mF s at01
 let t51<-(do
   if (decide (y2>at01)) then
    if (decide (y2<(s.l.length:Int))) then
     let b5<-sidx s y2
     pure ((b5.toNat:Int)==42)
    else
     pure false
   else
    pure false
     : Option Bool)
 let star<-(do
   if t51 then
    pure (W (y2+1))
   else
    pure (id y2)
     : Option Int)
 let y3<-gV s star
 let l<-app 8 ([]:List Int) a0.Coefs
 let t75<-(do
   if (decide (y3>=0)) then
    if (decide (star>y2)) then
     pure true
    else
     pure (y2==at01)
   else
    pure false
     : Option Bool)
 if t75 then
  let x<-idx l y3
  let x1<-idx l y3
  let l1<-pure (l.set y3.toNat (W (x+(W (sign*y1)))))
  pure ((zA.mk l1 a0.Const),(W (star+1)))
 else
  if (y2==at01) then
   pure (a0,(-1))
  else
   pure ((zA.mk l (W (a0.Const+(W (sign*y1))))),y2)
theorem zF8:∀ a0 s at0 r,gE a0 s at0=some r->∀ {I:Imm}{p c},(S4 I p a0.Coefs c)->RT 270 [vA (cAff a0 p c),vT s.l,vI at0] I [] (zDt  r):=by
 intro a0 s at0 r N I p c h;unfold gE at N;refine yJ func270 fun B=>?_;have H:=iS I;refine yE<|tW (cAff a0 p c) ?_;intro b hb;refine wL [z0,vI 0] ?_;intro b1 hb1;refine wB [] []<|vK [8] rfl<|yA<|yE<|yC 2 [] [14,15] rfl<|bE N fun b2 hy N=>zAO rfl rfl hy<|yI [] [17] rfl<|zI ?_;refine wS N [hB b1 [z0,vI 0],hB b (cAff a0 p c)] (fun sign=>[(1,vT s.l),(2,vI at0),(3,vP b 0),(6,vP b1 0),(8,vI sign)]) (fun o0 aB=>?_) ?_
 · have H:=iS I;refine yF aB ?_ ?_
   · intro hc N;exact zM<|yI [] [8] rfl<|yL<|zU (ct N H)
   intro hc N;exact zT<|yL<|zU (ct N H)
 intro sign I0 le aS;have ⟨h,H⟩:=m2 le h H;refine yA<|yB ?_;refine wS aS [hB b1 [z0,vI 0],hB b (cAff a0 p c)] (fun t27=>[(1,vT s.l),(2,vI at0),(3,vP b 0),(6,vP b1 0),(8,vI sign),(27,.bool t27)]) (fun aM az=>?_) ?_
 · have H:=iS I0;refine zM<|yC 2 [] [18,19] rfl ?_;obtain ⟨b3,aA,N⟩:=zB az;refine zAO rfl rfl aA<|yC 5 [] [22] rfl<|xS [22] N ?_ ?_
   · intro aE N;exact wB [] [(27,vY)]<|yL<|zU (ct N H)
   intro aE N;exact yC 7 [] [23,24] rfl<|bE N fun b4 aJ N=>zAO rfl rfl aJ<|yI [] [27] rfl<|yL<|zU (ct N H)
 intro t27 aT af hMc1;have ⟨h,H⟩:=m2 af h H;refine zI ?_;refine wS hMc1 [hB b1 [z0,vI 0],hB b (cAff a0 p c)] (fun at01=>[(1,vT s.l),(2,vI at01),(3,vP b 0),(6,vP b1 0),(8,vI sign)]) (fun o02 ho02=>?_) ?_
 · have H:=iS aT;refine yF ho02 ?_ ?_
   · intro aY N;exact zM<|yI [] [2] rfl<|yL<|zU (ct N H)
   intro aY N;exact zT<|yL<|zU (ct N H)
 intro at01 aU aC hMc2;have ⟨h,H⟩:=m2 aC h H;refine yV<|yC 2 [] [31,32] rfl ?_;obtain ⟨⟨y1,y2⟩,bf,N⟩:=zB hMc2;refine xM (zAv s at01 _ bf ) ?_;rintro bC aw v2 k2 aD - ⟨v0,v01,rfl,rfl,rfl,rfl⟩ -;have ⟨h,H⟩:=m2 aD h H;refine yI [] [9,10] rfl<|vK [11] rfl<|yA<|yB ?_;refine wS N [hB b1 [z0,vI 0],hB b (cAff a0 p c)] (fun t51=>[(1,vT s.l),(2,vI at01),(3,vP b 0),(6,vP b1 0),(8,vI sign),(9,vI y1),(10,vI y2),(11,vI y2),(51,.bool t51)]) (fun o03 ho03=>?_) ?_
 · have H:=iS bC;refine zM<|yC 4 [] [40] rfl<|xS [40] ho03 ?_ ?_
   · intro bG N;refine yC 10 [] [46] rfl<|xS [46] N ?_ ?_
     · intro bM N;exact yC 12 [] [47,48] rfl<|bE N fun b5 bw N=>zAO rfl rfl bw<|yI [] [51] rfl<|yL<|zU (ct N H)
     intro bM N;exact wB [] [(51,vF)]<|yL<|zU (ct N H)
   intro bG N;exact wB [] [(51,vF)]<|yL<|zU (ct N H)
 intro t51 bJ aW hMc3;have ⟨h,H⟩:=m2 aW h H;refine zI ?_;refine wS hMc3 [hB b1 [z0,vI 0],hB b (cAff a0 p c)] (fun star=>[(1,vT s.l),(2,vI at01),(3,vP b 0),(6,vP b1 0),(8,vI sign),(9,vI y1),(10,vI y2),(11,vI star)]) (fun o04 ho04=>?_) ?_
 · have H:=iS bJ;refine yF ho04 ?_ ?_
   · intro hc5 N;exact zM<|yI [] [11] rfl<|yL<|zU (ct N H)
   intro hc5 N;exact zT<|yL<|zU (ct N H)
 intro star bN bt hMc4;have ⟨h,H⟩:=m2 bt h H;refine yV<|yC 2 [] [54,55] rfl ?_;obtain ⟨y3,bH,N⟩:=zB hMc4;refine gR (zGV s star _ bH ) ?_;intro I06 bv;have ⟨h,H⟩:=m2 bv h H;refine yI [] [12] rfl<|yA<|bE N fun l hy6 N=>vC [.x (fun I' v hx=>∃ b6,v=vS (some ⟨b6,0,none⟩) ([]:List Int) 0/\hx=[hO Int (vS (some ⟨b6,0,none⟩) ([]:List Int) 0) []]/\(RL I' [] ([]:List Int))),.p (vP b 0) [],.p (vS p a0.Coefs c) [1],.x (fun I' v hx=>∃ p1 c1 cs,v=vS p1 l c1/\hx=[hO Int (vS p1 l c1) cs]/\(RL I' cs l)),.p (vP b 1) [],.p (vI a0.Const) [1],.x (fun I' v hx=>∃ aN aZ ay,v=vA [vS aN l aZ,vI a0.Const]/\hx=[hO Int (vS aN l aZ) ay]/\(RL I' ay l)),.x (fun I' v hx=>∃ b7,v=vP b7 0/\hx=[hB b7 [z0,vI 0]])] [[],[],[(1,false)],[(0,true),(2,false)],[],[(4,false)],[(3,true),(5,false)],[]] [hB b1 [z0,vI 0],hB b (cAff a0 p c)] [] [(6,true),(7,true)] (zY [0,1]) ?_ ?_
 · refine Ox ?_<|Op<|Op<|Ox ?_<|Op<|Op<|Ox ?_<|Ox ?_<|On
   · intro I1 hf af;refine dC []<|uD [] Int ?_;intro b6 hb2;have h4:RL I1 [] ([]:List Int):=rfl;exact yQ [hO Int (vS (some ⟨b6,0,none⟩) ([]:List Int) 0) []] iR ⟨_,rfl,rfl,h4⟩
   · rintro I1 hf af _ _ ⟨b6,rfl,rfl,h4⟩;refine yW [57,59] rfl ?_;have h:=h.mono af;obtain ⟨aK,k0,k01⟩:=h;have h:SL I1 (vS p a0.Coefs c) a0.Coefs:=⟨_,k0,k01⟩;exact sC 3 1 0 rfl rfl rfl h4 (.inl k0) k01 hy6 fun p1 c1 cs h5=>wE (ah:=(hO Int (vS p1 l c1) cs::hB b1 [z0,vI 0]::hB b (cAff a0 p c)::hf)) rfl<|yQ [hO Int (vS p1 l c1) cs] iR ⟨_,_,_,rfl,rfl,h5⟩
   · rintro I1 hf af _ _ ⟨p1,c1,cs,rfl,rfl,h5⟩;exact yW [60,62] rfl<|oY 7 [(63,vA [vS p1 l c1,vI a0.Const])]<|yQ [hO Int (vS p1 l c1) cs] iR ⟨_,_,_,rfl,rfl,h5⟩
   intro I1 hf af;refine dC []<|wL [z0,vI 0] ?_;intro b7 hb3;exact yQ [hB b7 [z0,vI 0]] iR ⟨_,rfl,rfl⟩
 rintro I07 le7 _ _ ⟨aN,aZ,ay,rfl,rfl,h51⟩ _ _ ⟨b7,rfl,rfl⟩;refine yW [2,3,6,8,9,10,11,12,13,63] rfl ?_;have ⟨h,H⟩:=m2 le7 h H;refine xH 0 [vS aN l aZ,vI a0.Const] rfl<|yD rfl<|yA<|yB ?_;refine wS N [hB b7 [vS aN l aZ,vI a0.Const],hO Int (vS aN l aZ) ay,hB b1 [z0,vI 0],hB b (cAff a0 p c)] (fun t75=>[(2,vI at01),(3,vP b 0),(6,vP b1 0),(8,vI sign),(9,vI y1),(10,vI y2),(11,vI star),(12,vI y3),(13,vP b7 0),(75,.bool t75)]) (fun o05 ho05=>?_) ?_
 · have H:=iS I07;refine zM<|yC 3 [] [66] rfl<|xS [66] ho05 ?_ ?_
   · intro hc6 N;refine yC 7 [] [70] rfl<|xS [70] N ?_ ?_
     · intro hc7 N;exact wB [] [(75,vY)]<|yL<|zU (ct N H)
     intro hc7 N;exact yI [] [75] rfl<|yL<|zU (ct N H)
   intro hc6 N;exact wB [] [(75,vF)]<|yL<|zU (ct N H)
 intro t75 I08 le8 hMc5;have ⟨h51,h⟩:=m2 le8 h51 h;refine zI<|yF hMc5 ?_ ?_
 · intro hc8 N;refine yB<|bE N fun x hy7 N=>vC [.p (vP b7 0) [],.p (vS aN l aZ) [0],.p (vI y3) [],.p (vP b7 0) [],.p (vS aN l aZ) [0],.p (vI y3) [],.x (fun I' v hx=>∃ ad,v=.pointer (some ad)/\hx=[]/\(AtO (vS aN l aZ) (Rp.sz Int) y3.toNat ad)/\((ay.drop (y3.toNat*Rp.sz Int)).take (Rp.sz Int)=[vI x])),.q (vI x),.p (vI sign) [],.p (vI y1) [],.p (vI (W (sign*y1))) [],.p (vI (W (x+(W (sign*y1))))) []] [[],[(0,false)],[],[],[(3,false)],[],[(4,false),(5,false)],[(6,false)],[],[],[(8,false),(9,false)],[(7,false),(10,false)]] [hB b7 [vS aN l aZ,vI a0.Const],hO Int (vS aN l aZ) ay,hB b1 [z0,vI 0],hB b (cAff a0 p c)] [] [(1,false),(2,false),(11,false)] (zY [0,1,2,3]) ?_ ?_
   · refine Op<|Op<|Op<|Op<|Op<|Op<|Ox ?_<|Oq ?_<|Op<|Op<|Op<|Op<|On
     · intro I1 hf af;refine yW [80,81] rfl ?_;have h51:=iM af h51;refine nY 1 rfl rfl rfl h51 hy7 ?_;intro ad bx aq bL al;obtain rfl:=al;exact yQ [] iR ⟨_,rfl,rfl,aq,bL⟩
     rintro I1 hf af _ _ ⟨ad,rfl,rfl,aq,bL⟩;exact yW [82] rfl<|zAn 1 0 aq bL [vI x] (vI x) rfl rfl<|xE iR
   intro I09 le9;refine yW [6,11,13,77,78,87] rfl ?_;have h51:=iM le9 h51;obtain ⟨x1,hy8,N⟩:=zB N;refine nY 1 rfl rfl rfl h51 hy8 ?_;intro ad1 bO au hcc1 ax;obtain rfl:=ax;obtain ⟨l1,hy9,N⟩:=zB N;refine qB (c:=[vI (W (x+(W (sign*y1))))]) (x':=(W (x+(W (sign*y1))))) 1 0 rfl rfl rfl au rfl rfl hcc1 (by kernel_rfl) (by kernel_rfl) (by kernel_rfl) h51 hy8 (by kernel_rfl) rfl ?_;rw [show l.set y3.toNat (W (x+(W (sign*y1))))=l1 from zC hy9];intro aQ h6 hl0;refine fT (m':=[(6,vP b1 0),(11,vI star),(13,vP b7 0),(77,vS aN l aZ),(78,vI y3),(87,vI (W (x+(W (sign*y1)))))]) ⟨rfl,rfl,rfl,rfl,rfl,rfl,trivial⟩<|zEf (ah:=[hB b7 [vS aN l1 aZ,vI a0.Const],hO Int (vS aN l1 aZ) aQ,hB b1 [z0,vI 0],hB b (cAff a0 p c)]) (m':=[(6,vP b1 0),(11,vI star),(13,vP b7 0),(77,vS aN l1 aZ),(78,vI y3),(87,vI (W (x+(W (sign*y1)))))]) (by first | rfl | simp only [vS,hl0,cv,d6,ep,d8,dy,dz]) (by first | rfl | simp only [vS,hl0])<|yD rfl<|yV<|rY 3 [0] [(89,vA [vS aN l1 aZ,vI a0.Const]),(91,vI (W (star+1)))]<|xH 2 [vS aN l1 aZ,vI a0.Const] rfl<|yI [] [7] rfl<|xC<|zH<|yU 1 rfl ?_;intro bP le10 hl01;have h7:=SL.of_frozen hl01 le10 h6;obtain rfl:=zC N;exact xA ⟨_,_,(.cell 1 rfl rfl (by kernel_rfl) (.tmp rfl ResV.nil)),zQ,⟨_,_,rfl,rfl,⟨_,rfl,(yK ⟨_,rfl,h7⟩)⟩,rfl⟩⟩
 intro hc8 N;refine zT<|yA<|yG [94] rfl<|zI<|yF N ?_ ?_
 · intro hc9 N;refine yE<|rY 1 [3] [(95,vA (cAff a0 p c))]<|xH 2 (cAff a0 p c) rfl<|yI [] [7] rfl<|xC<|zH ?_;obtain rfl:=zC N;exact xA ⟨_,_,(.cell 2 rfl rfl (by kernel_rfl) (.tmp rfl ResV.nil)),zQ,⟨_,_,rfl,rfl,⟨_,rfl,(yK ⟨_,rfl,h⟩)⟩,rfl⟩⟩
 intro hc9 N;refine zT<|yV<|yC 7 [0] [101,102] rfl<|xH 0 [vS aN l aZ,vI (W (a0.Const+(W (sign*y1))))] rfl<|yD rfl<|yV<|rY 2 [0] [(103,vA [vS aN l aZ,vI (W (a0.Const+(W (sign*y1))))]),(104,vI y2)]<|xH 2 [vS aN l aZ,vI (W (a0.Const+(W (sign*y1))))] rfl<|yI [] [7] rfl<|xC<|yU 1 rfl ?_;intro bV le11 hl02;have h8:=SL.of_frozen hl02 le11 h51;obtain rfl:=zC N;exact xA ⟨_,_,(.cell 1 rfl rfl (by kernel_rfl) (.tmp rfl ResV.nil)),zQ,⟨_,_,rfl,rfl,⟨_,rfl,(yK ⟨_,rfl,h8⟩)⟩,rfl⟩⟩
def zV (r:Bool):KT:=fun kk I' ah v=>
  ∃ v0,ah=[]/\v=tupV [v0]/\v0=.bool r
def vU (n0:Int) (most:Int):Option (Bool):=do
 let t4<-(do
   if (decide (n0>=(W (0 - most)))) then
    pure (decide (n0<=most))
   else
    pure false
     : Option Bool)
 pure (id t4)
theorem eK:∀ n0 most r,vU n0 most=some r->∀ {I:Imm} ,RT 191 [vI n0,vI most] I [] (zV  r):=by
 intro n0 most r N I;unfold vU at N;refine yJ func191 fun B=>?_;have H:=iS I;refine vR []<|zI<|yB ?_;refine wS N [] (fun t4=>[(4,.bool t4)]) (fun o0 aB=>?_) ?_
 · have H:=iS I;refine zM<|yC 5 [] [9] rfl<|xS [9] aB ?_ ?_
   · intro hc N;exact yI [] [4] rfl<|yL<|zU (ct N H)
   intro hc N;exact wB [] [(4,vF)]<|yL<|zU (ct N H)
 intro t4 I0 le aS;refine zI<|xB ?_;obtain rfl:=zC aS;exact vE
def wH (a0:zA) (i:Int):Option (Out Unit (Bool)):=do
 if (decide (i<(a0.Coefs.length:Int))) then
  let x<-idx a0.Coefs i
  let y<-vU x 9
  if (!y) then
   pure (.ret false)
  else
   wH a0 (W (i+1))
 else
  pure (.done ())
 partial_fixpoint
theorem zBT (a0:zA):∀ (i:Int) (o:Out Unit (Bool)),wH a0 i=some o->∀ {B}{I0 I:Imm}{Q p c}{b:Nat},I0.le I->(S4 I p a0.Coefs c)->NG Q->NO Q->(∀ (I':Imm) ,o=(.done ())->I0.le I'->T 27 B Q (.exit 0) I' [hB b (cAff a0 p c)] [(1,vP b 0)])->(∀ r I' ah m',o=(.ret r)->I0.le I'->RS Tryz.prog f225 B (zV  r) I' ah m'->T 27 B Q .ret I' ah m')->J Tryz.prog 27 B (nav (bodyOf f225) [1,0,1,0]) Q I [hB b (cAff a0 p c)] [(1,vP b 0),(3,vI i)]:=by
 refine wH.partial_correctness a0 _ fun aH ih i o N B I0 I Q p c b H h hg ho hx hr=>yR hg ho<|yB<|yE<|yI [0] [8] rfl<|zI<|yF N ?_ ?_
 · intro hc N;refine zT<|yA<|yH<|yE<|yC 3 [0] [12,13] rfl<|bE N fun x hy N=>xO rfl rfl h hy ?_;intro ad aK aq al;obtain rfl:=al;refine xJ 0 aq [vI x] (vI x) rfl<|bE N fun y aA N=>uM (eK x 9 _ aA ) ?_;intro I0 le;have ⟨h,H⟩:=m2 le h H;refine yI [] [17] rfl<|zI<|yF N ?_ ?_
   · intro aE N;exact vR [(2,vF)]<|xC<|zW<|zH<|zH<|hr _ _ _ _ (zC N).symm H ⟨_,_,(.tmp rfl ResV.nil),zQ,⟨_,rfl,rfl,rfl⟩⟩
   intro aE N;exact zT<|zP<|zI<|zM<|yI [] [3] rfl<|yP<|nN<|ih (W (i+1)) _ N H h hg ho hx hr
 intro hc N;exact wR<|yL<|hx _  (zC N).symm H
def uE (a0:zA):Option (Bool):=do
 match<-wH a0 0 with
 | .ret r0=>pure r0
 | .done _ =>
  let t2<-(do
    if ((a0.Coefs.length:Int)==4) then
     let y1<-vU a0.Const 99
     pure (id y1)
    else
     pure false
      : Option Bool)
  pure (id t2)
theorem kE:∀ a0 r,uE a0=some r->∀ {I:Imm}{p c},(S4 I p a0.Coefs c)->RT 225 [vA (cAff a0 p c)] I [] (zV  r):=by
 intro a0 r N I p c h;unfold uE at N;refine yJ func225 fun B=>?_;have H:=iS I;refine yE<|tW (cAff a0 p c) ?_;intro b hb;refine wB [] []<|yA<|yG [3] rfl<|xX<|qP [(1,vP b 0),(3,vI 0)] ?_;obtain ⟨o0,aB,aI⟩:=zB N;refine zBT a0 0 o0 aB iR h (fun _ _ _ h=>h) (fun _ _ h=>h) ?_ ?_
 · intro aT  heq af;subst o0;have H:=H.trans af;refine zS<|zI<|yB ?_;refine wS aI [] (fun t2=>[(2,.bool t2)]) (fun aM az=>?_) ?_
   · have H:=iS aT;refine zM<|yC 5 [0] [22] rfl<|xS [22] az ?_ ?_
     · intro aY N;refine yC 7 [0] [24] rfl<|bE N fun y1 aJ N=>uM (eK a0.Const 99 _ aJ ) ?_;intro bC aC;have H:=H.trans aC;exact yI [] [2] rfl<|xQ zQ<|yL<|zU (ct N H)
     intro aY N;exact wB [] [(2,vF)]<|xQ zQ<|yL<|zU (ct N H)
   intro t2 aU aD aS;refine zI<|xB ?_;obtain rfl:=zC aS;exact vE
 intro r0 I9 hs9 m9 aX le9 ba;subst aX;refine zW<|zH ?_;obtain rfl:=zC aI;exact xA ba
def tP (r:Str):KT:=fun kk I' ah v=>
  ∃ v0,ah=[]/\v=tupV [v0]/\v0=.string ⟨⟨r.l⟩⟩
def pW (n01:Int) (out:Str):Option ((Int×Str)):=do
 if (decide (n01>9)) then
  let s1<-cat (⟨([(u8 (W (48+(n01.tmod 10))))]:List UInt8)⟩:Str) out
  pW (W (n01.tdiv 10)) s1
 else
  pure (n01,out)
 partial_fixpoint
theorem zDu :∀ (n01:Int) (out:Str) (o:(Int×Str)),pW n01 out=some o->∀ {B}{I0 I:Imm}{Q}  ,I0.le I->NG Q->NO Q->(∀ (I':Imm) (n02:Int) (aj:Str),o=(n02,aj)->I0.le I'->T 31 B Q (.exit 0) I' [] [(0,vI n02),(3,vT aj.l)])->J Tryz.prog 31 B (nav (bodyOf f214) [1,1,1,1,0,0]) Q I [] [(0,vI n01),(3,vT out.l)]:=by
 refine pW.partial_correctness  _ fun aH ih n01 out o N B I0 I Q H hg ho hx=>yR hg ho<|yB<|yG [13] rfl<|zI<|yF N ?_ ?_
 · intro aY N;refine zT<|xX<|yE<|yC 3 [] [16] rfl<|zN5 (d:=17) (i:=(W (48+(n01.tmod 10)))) rfl (by kernel_rfl)<|uD [.int .u8 ((u8 (W (48+(n01.tmod 10)))).toNat:Int)] UInt8 ?_;intro b hb;have h1:RL I [.int .u8 ((u8 (W (48+(n01.tmod 10)))).toNat:Int)] ([(u8 (W (48+(n01.tmod 10))))]:List UInt8):=⟨[.int .u8 ((u8 (W (48+(n01.tmod 10)))).toNat:Int)],_,rfl,rfl,rfl,rfl⟩;exact zKJ (l:=([(u8 (W (48+(n01.tmod 10))))]:List UInt8)) rfl rfl rfl rfl (by kernel_rfl) (by kernel_rfl) (.inr ⟨0,rfl⟩) h1<|yC 7 [] [20] rfl<|bE N fun s1 aJ N=>kY rfl aJ<|yI [] [3] rfl<|zI<|zM<|yI [] [0] rfl<|zP<|yP<|nX zQ<|nN<|ih (W (n01.tdiv 10)) s1 _ N H  hg ho hx
 intro aY N;exact wR<|yL<|hx _ _ _ (zC N).symm H
def rP (n0:Int):Option (Str):=do
 if (decide (n0<(-9223372036854775807))) then
  pure (⟨[45,57,50,50,51,51,55,50,48,51,54,56,53,52,55,55,53,56,48,56]⟩:Str)
 else
  if (decide (n0<0)) then
   let y<-rP (W (0 - n0))
   let s<-cat (⟨[45]⟩:Str) y
   pure (id s)
  else
   let (n02,aj)<-pW n0 (⟨[]⟩:Str)
   let s2<-cat (⟨([(u8 (W (48+n02)))]:List UInt8)⟩:Str) aj
   pure (id s2)
 partial_fixpoint
theorem fU:∀ n0 r,rP n0=some r->∀ {I:Imm} ,RT 214 [vI n0] I [] (tP  r):=by
 refine rP.partial_correctness _ fun F_spec_l16Dec ih_spec_l16Dec n0 r N I=>yJ func214 fun B=>vR []<|yA<|yG [5] rfl<|zI<|yF N ?_ ?_
 · intro hc N;refine yG [2] rfl<|xC<|zH ?_;obtain rfl:=zC N;exact vE
 intro hc N;refine zT<|yA<|yG [7] rfl<|zI<|yF N ?_ ?_
 · intro aE N;refine yE<|yC 2 [] [9] rfl<|bE N fun y hy N=>xM (ih_spec_l16Dec (W (0 - n0)) _ hy ) ?_;rintro I0 aw v2 k2 le - ⟨v0,rfl,rfl,rfl⟩ -;obtain ⟨s,aA,N⟩:=zB N;refine kY rfl aA<|yI [] [2] rfl<|xC<|zH ?_;obtain rfl:=zC N;exact vE
 intro aE N;refine zT<|vK [3] rfl<|yA<|yH<|qP [(0,vI n0),(3,vT ([]))] ?_;obtain ⟨o0,aB,aI⟩:=zB N;refine zDu n0 (⟨[]⟩:Str) o0 aB iR  (fun _ _ _ h=>h) (fun _ _ h=>h) ?_;intro aT n02 aj heq af;subst o0;refine zS<|yV<|yC 2 [] [25] rfl<|zN5 (d:=26) (i:=(W (48+n02))) rfl (by kernel_rfl)<|uD [.int .u8 ((u8 (W (48+n02))).toNat:Int)] UInt8 ?_;intro b1 hb1;have h2:RL aT [.int .u8 ((u8 (W (48+n02))).toNat:Int)] ([(u8 (W (48+n02)))]:List UInt8):=⟨[.int .u8 ((u8 (W (48+n02))).toNat:Int)],_,rfl,rfl,rfl,rfl⟩;refine zKJ (l:=([(u8 (W (48+n02)))]:List UInt8)) rfl rfl rfl rfl (by kernel_rfl) (by kernel_rfl) (.inr ⟨0,rfl⟩) h2<|yC 6 [] [29] rfl ?_;obtain ⟨s2,bf,N⟩:=zB aI;refine kY rfl bf<|yI [] [2] rfl<|zI<|xB ?_;obtain rfl:=zC N;exact vE
def jQ (n0:Int) (name:Str):Option (Str):=do
 let (n01,sign)<-(do
   if (decide (n0<0)) then
    pure ((W (0 - n0)),(⟨[45]⟩:Str))
   else
    pure (n0,(⟨[43]⟩:Str))
     : Option (Int×Str))
 if (name.l==([]:List UInt8)) then
  let y<-rP n01
  let s<-cat sign y
  pure (id s)
 else
  if (n01==1) then
   let s1<-cat sign name
   pure (id s1)
  else
   let y1<-rP n01
   let s2<-cat sign y1
   let s3<-cat s2 (⟨[42]⟩:Str)
   let s4<-cat s3 name
   pure (id s4)
theorem zBz:∀ n0 name r,jQ n0 name=some r->∀ {I:Imm} ,RT 263 [vI n0,vT name.l] I [] (tP  r):=by
 intro n0 name r N I;unfold jQ at N;refine yJ func263 fun B=>?_;have H:=iS I;refine vR []<|vK [5] rfl<|yA<|yG [7] rfl<|zI ?_;obtain ⟨o0,aB,aS⟩:=zB N;refine qR (fun I' ah m'=>∃ (n01:Int) (sign:Str),o0=(n01,sign)/\I.le I'/\ah=[]/\m'=[(0,vI n01),(1,vT name.l),(5,vT sign.l)]) ?_ ?_
 · have H:=iS I;refine yF aB ?_ ?_
   · intro hc N;exact yG [5] rfl<|zI<|zM<|yI [] [0] rfl<|yL<|zU ⟨_,_,(zC N).symm,H,rfl,rfl⟩
   intro hc N;exact zT<|yL<|zU ⟨_,_,(zC N).symm,H,rfl,rfl⟩
 rintro I0 aw m2 ⟨n01,sign,heq,le,rfl,rfl⟩;subst o0;refine yA<|yG [11] rfl<|zI<|yF aS ?_ ?_
 · intro aE N;refine yE<|yC 2 [] [12,13] rfl<|bE N fun y hy N=>xM (fU n01 _ hy ) ?_;rintro aT aw v2 k2 af - ⟨v0,rfl,rfl,rfl⟩ -;obtain ⟨s,aA,N⟩:=zB N;refine kY rfl aA<|yI [] [4] rfl<|xC<|zH ?_;obtain rfl:=zC N;exact vE
 intro aE N;refine zT<|yA<|yG [17] rfl<|zI<|yF N ?_ ?_
 · intro aY N;refine yE<|yC 2 [] [18,19] rfl<|bE N fun s1 aJ N=>kY rfl aJ<|yI [] [4] rfl<|xC<|zH ?_;obtain rfl:=zC N;exact vE
 intro aY N;refine zT<|yV<|yC 2 [] [21,22] rfl<|bE N fun y1 bf N=>xM (fU n01 _ bf ) ?_;rintro aU aw v2 k2 aC - ⟨v01,rfl,rfl,rfl⟩ -;obtain ⟨s2,bw,N⟩:=zB N;refine kY rfl bw<|bE N fun s3 bH N=>kY rfl bH<|yC 6 [] [26] rfl<|bE N fun s4 hy6 N=>kY rfl hy6<|yI [] [4] rfl<|zI<|xB ?_;obtain rfl:=zC N;exact vE
def pX (a0:zA) (out:Str) (i:Int):Option (Str):=do
 if (decide (i<(a0.Coefs.length:Int))) then
  let x<-idx a0.Coefs i
  let ap<-(do
    if (x != 0) then
     let x1<-idx a0.Coefs i
     let s<-sslc (⟨[105,106,107,108]⟩:Str) i (W (i+1))
     let y<-jQ x1 s
     let s1<-cat out y
     pure (id s1)
    else
     pure (id out)
      : Option Str)
  pX a0 ap (W (i+1))
 else
  pure (id out)
 partial_fixpoint
theorem zDv (a0:zA):∀ (out:Str) (i:Int) (o:Str),pX a0 out i=some o->∀ {B}{I0 I:Imm}{Q p c}{b:Nat},I0.le I->(S4 I p a0.Coefs c)->NG Q->NO Q->(∀ (I':Imm) (aj:Str),o=aj->I0.le I'->T 46 B Q (.exit 0) I' [hB b (cAff a0 p c)] [(1,vP b 0),(3,vT aj.l)])->J Tryz.prog 46 B (nav (bodyOf f243) [1,1,0,1,0]) Q I [hB b (cAff a0 p c)] [(1,vP b 0),(3,vT out.l),(4,vI i)]:=by
 refine pX.partial_correctness a0 _ fun aH ih out i o N B I0 I Q p c b H h hg ho hx=>yR hg ho<|yB<|yE<|yI [0] [9] rfl<|zI<|yF N ?_ ?_
 · intro hc N;refine zT<|yA<|yH<|yE<|yC 3 [0] [13,14] rfl<|bE N fun x hy N=>xO rfl rfl h hy ?_;intro ad aK aq al;obtain rfl:=al;refine xJ 0 aq [vI x] (vI x) rfl<|yI [] [17] rfl<|zI ?_;refine wS N [hB b (cAff a0 p c)] (fun ap=>[(1,vP b 0),(3,vT ap.l),(4,vI i)]) (fun o0 aB=>?_) ?_
   · have H:=iS I;refine yF aB ?_ ?_
     · intro aE N;obtain ⟨x1,aA,N⟩:=zB N;obtain ⟨s,aJ,N⟩:=zB N;obtain ⟨y,bf,N⟩:=zB N;obtain ⟨s1,bw,N⟩:=zB N;refine vC [.p (vT out.l) [],.p (vP b 0) [],.p (vS p a0.Coefs c) [0],.p (vI i) [],.x (fun I' v hx=>∃ ad1,v=.pointer (some ad1)/\hx=[]/\(At I' ad1 [vI x1])),.q (vI x1),.p (vI i) [],.p (vI i) [],.p (vI (W (i+1))) [],.q (vT s.l),.q (vT y.l),.q (vT s1.l)] [[],[],[(1,false)],[],[(2,false),(3,false)],[(4,false)],[],[],[(7,false)],[(6,false),(8,false)],[(5,false),(9,false)],[(0,false),(10,false)]] [hB b (cAff a0 p c)] [] [(11,false)] (zY [0]) ?_ ?_
       · refine Op<|Op<|Op<|Op<|Ox ?_<|Oq ?_<|Op<|Op<|Op<|Oq ?_<|Oq ?_<|Oq ?_<|On
         · intro I1 hf af;refine yW [20,21] rfl ?_;have h:=h.mono af;refine xO rfl rfl h aA ?_;intro ad1 bx au ax;obtain rfl:=ax;exact yQ [] iR ⟨_,rfl,rfl,au⟩
         · rintro I1 hf af _ _ ⟨ad1,rfl,rfl,au⟩;exact yW [22] rfl<|xJ 0 au [vI x1] (vI x1) rfl<|xE iR
         · intro I1 hf af;exact yW [24,26] rfl<|zHK rfl aJ<|xE iR
         · intro I1 hf af;refine yW [23,27] rfl ?_;have H:=iS I1;refine xM (zBz x1 s _ bf ) ?_;rintro aT aw v2 k2 le - ⟨v0,rfl,rfl,rfl⟩ -;have H:=H.trans le;exact xE H
         intro I1 hf af;exact yW [18,28] rfl<|kY rfl bw<|xE iR
       intro aU af;refine yW [1,4,29] rfl ?_;have H:=H.trans af;exact yI [] [3] rfl<|yL<|zU (ct N H)
     intro aE N;exact zT<|yL<|zU (ct N H)
   intro ap I0 aC aS;have ⟨h,H⟩:=m2 aC h H;exact zP<|zI<|zM<|yI [] [4] rfl<|yP<|nN<|ih ap (W (i+1)) _ aS H h hg ho hx
 intro hc N;exact wR<|yL<|hx _ _ (zC N).symm H
def mU (a0:zA):Option (Str):=do
 let aj<-pX a0 (⟨[]⟩:Str) 0
 let aP<-(do
   if (a0.Const != 0) then
    let y1<-jQ a0.Const (⟨[]⟩:Str)
    let s2<-cat aj y1
    pure (id s2)
   else
    pure (id aj)
     : Option Str)
 if (aP.l==([]:List UInt8)) then
  pure (⟨[48]⟩:Str)
 else
  let s3<-sslc aP 0 1
  if (s3.l==([43]:List UInt8)) then
   let s4<-sslc aP 1 (aP.l.length:Int)
   pure (id s4)
  else
   pure (id aP)
theorem zAE:∀ a0 r,mU a0=some r->∀ {I:Imm}{p c},(S4 I p a0.Coefs c)->RT 243 [vA (cAff a0 p c)] I [] (tP  r):=by
 intro a0 r N I p c h;unfold mU at N;refine yJ func243 fun B=>?_;have H:=iS I;refine yE<|tW (cAff a0 p c) ?_;intro b hb;refine wB [] []<|vK [3] rfl<|yA<|yG [4] rfl<|xX<|qP [(1,vP b 0),(3,vT ([])),(4,vI 0)] ?_;obtain ⟨aM,az,aI⟩:=zB N;refine zDv a0 (⟨[]⟩:Str) 0 aM az iR h (fun _ _ _ h=>h) (fun _ _ h=>h) ?_;intro bC aj heq1 aD;subst aM;have H:=H.trans aD;refine zS<|yA<|yE<|yI [0] [32] rfl<|zI ?_;refine wS aI [] (fun aP=>[(3,vT aP.l)]) (fun o02 ho02=>?_) ?_
 · have H:=iS bC;refine yF ho02 ?_ ?_
   · intro aY N;refine zM<|yC 3 [0] [33,35] rfl<|bE N fun y1 bH N=>xM (zBz a0.Const (⟨[]⟩:Str) _ bH ) ?_;rintro bN aw v2 k2 aW - ⟨v01,rfl,rfl,rfl⟩ -;have H:=H.trans aW;obtain ⟨s2,hy6,N⟩:=zB N;exact kY rfl hy6<|yI [] [3] rfl<|xQ zQ<|yL<|zU (ct N H)
   intro aY N;exact zT<|xQ zQ<|yL<|zU (ct N H)
 intro aP bJ bt hMc1;refine yA<|yG [39] rfl<|zI<|yF hMc1 ?_ ?_
 · intro bG N;refine yG [2] rfl<|xC<|zH ?_;obtain rfl:=zC N;exact vE
 intro bG N;refine zT<|yA<|yE<|yC 1 [] [40] rfl<|bE N fun s3 hy7 N=>zHK rfl hy7<|yI [] [42] rfl<|zI<|yF N ?_ ?_
 · intro bM N;refine yE<|yC 1 [] [43] rfl<|bE N fun s4 hy8 N=>zHK rfl hy8<|yI [] [2] rfl<|xC<|zH ?_;obtain rfl:=zC N;exact vE
 intro bM N;refine zT<|vK [2] rfl<|zI<|xB ?_;obtain rfl:=zC N;exact vE
def nJ (a0:zA):Option (Str):=do
 let y<-uE a0
 if (!y) then
  pure (⟨[]⟩:Str)
 else
  let y1<-mU a0
  pure (id y1)
theorem zCA:∀ a0 r,nJ a0=some r->∀ {I:Imm}{p c},(S4 I p a0.Coefs c)->RT 271 [vA (cAff a0 p c)] I [] (tP  r):=by
 intro a0 r N I p c h;unfold nJ at N;refine yJ func271 fun B=>yE<|tW (cAff a0 p c) ?_;intro b hb;refine wB [] []<|yA<|yE<|rY 1 [0] [(3,vA (cAff a0 p c))]<|bE N fun y hy N=>uM (kE a0 _ hy h) ?_;intro I0 le;have h:=h.mono le;refine yI [] [5] rfl<|zI<|yF N ?_ ?_
 · intro hc N;refine yG [2] rfl<|xC<|zH ?_;obtain rfl:=zC N;exact vE
 intro hc N;refine zT<|yV<|rY 1 [0] [(6,vA (cAff a0 p c))]<|bE N fun y1 aA N=>xM (zAE a0 _ aA h) ?_;rintro aT aw v2 k2 af - ⟨v01,rfl,rfl,rfl⟩ -;refine yI [] [2] rfl<|zI<|xB ?_;obtain rfl:=zC N;exact vE
def zBg (r:zA×Bool):KT:=fun kk I' ah v=>
  ∃ v0 v1,ah=[]/\v=tupV [v0,v1]/\(∃ cs,v0=.agg ⟨cs⟩/\Rp.rep I' cs r.1)/\v1=.bool r.2
def rK (bi:Str) (at0:Int) (x:zA):Option (zA):=do
 let t18<-(do
   if (decide (at0>=0)) then
    pure (decide (at0<(bi.l.length:Int)))
   else
    pure false
     : Option Bool)
 if t18 then
  let (y2,y3)<-gE x bi at0
  rK bi y3 y2
 else
  pure (id x)
 partial_fixpoint
theorem zBU (bi:Str):∀ (at0:Int) (x:zA) (o:zA),rK bi at0 x=some o->∀ {B}{I0 I:Imm}{Q}  {b:Nat}{b1:Nat}{p1 c1},I0.le I->(S4 I p1 x.Coefs c1)->NG Q->NO Q->(∀ (I':Imm) (x1:zA) (p2:Option Addr) (c2:Nat),o=x1->I0.le I'->(S4 I' p2 x1.Coefs c2)->T 32 B Q (.exit 0) I' [hB b1 (cAff x1 p2 c2),hB b [z0,vI 0]] [(0,vT bi.l),(2,vP b 0),(4,vP b1 0)])->J Tryz.prog 32 B (nav (bodyOf f259) [1,1,1,1,0,0]) Q I [hB b1 (cAff x p1 c1),hB b [z0,vI 0]] [(0,vT bi.l),(2,vP b 0),(4,vP b1 0),(5,vI at0)]:=by
 refine rK.partial_correctness bi _ fun aH ih at0 x o N B I0 I Q b b1 p1 c1 H h2 hg ho hx=>yR hg ho<|yB<|yB ?_;refine wS N [hB b1 (cAff x p1 c1),hB b [z0,vI 0]] (fun t18=>[(0,vT bi.l),(2,vP b 0),(4,vP b1 0),(5,vI at0),(18,.bool t18)]) (fun o0 aB=>?_) ?_
 · have H:=iS I;refine zM<|yC 3 [] [13] rfl<|xS [13] aB ?_ ?_
   · intro aE N;exact yI [] [18] rfl<|yL<|zU (ct N H)
   intro aE N;exact wB [] [(18,vF)]<|yL<|zU (ct N H)
 intro t18 aU aC aS;have ⟨h2,H⟩:=m2 aC h2 H;refine zI<|yF aS ?_ ?_
 · intro aY N;refine zT<|xX<|zM<|rY 3 [0] [(20,vA (cAff x p1 c1)),(21,vT bi.l),(22,vI at0)] ?_;obtain ⟨⟨y2,y3⟩,aA,N⟩:=zB N;refine xM (zF8 x bi at0 _ aA h2) ?_;rintro bC aw v2 k2 aD - ⟨v0,v01,rfl,rfl,⟨ay,rfl,h4⟩,rfl⟩ -;have H:=H.trans aD;obtain ⟨p3,c3,rfl,h6⟩:=yM h4;exact yC 7 [] [24,25] rfl<|xH 0 (cAff y2 p3 c3) rfl<|yI [] [5] rfl<|zP<|yP<|nN<|ih y3 y2 _ N H h6 hg ho hx
 intro aY N;exact wR<|yL<|hx _ _ _ _ (zC N).symm H h2
def pY (bi:Str):Option (zA×Bool):=do
 let y<-oO
 if (decide ((bi.l.length:Int)>40)) then
  pure ((zA.mk ([]:List Int) 0),false)
 else
  let x1<-rK bi 0 (zA.mk y.Coefs y.Const)
  let y4<-nJ x1
  if (!(y4.l==bi.l)) then
   pure ((zA.mk ([]:List Int) 0),false)
  else
   pure (x1,true)
theorem dQ:∀ bi r,pY bi=some r->∀ {I:Imm} ,RT 259 [vT bi.l] I [] (zBg  r):=by
 intro bi r N I;unfold pY at N;refine yJ func259 fun B=>yE<|wL [z0,vI 0] ?_;intro b hb;refine wB [] []<|yV<|bE N fun y hy N=>xM (kJ  _ hy ) ?_;rintro I0 aw v2 k2 le - ⟨p,c,cs,rfl,rfl,h⟩ -;refine wL [z0,vI 0] ?_;intro b1 hb1;refine xH 0 (cAff y p c) rfl<|yD rfl<|yA<|yG [9] rfl<|zI<|yF N ?_ ?_
 · intro hc N;refine yE<|yC 1 [] [10] rfl<|xH 2 [z0,vI 0] rfl<|wB [] [(3,vF)]<|xC<|zH ?_;obtain rfl:=zC N;exact xA ⟨_,_,(.cell 2 rfl rfl (by kernel_rfl) (.tmp rfl ResV.nil)),zQ,⟨_,_,rfl,rfl,⟨_,rfl,(yK ⟨_,rfl,(SL.nil _)⟩)⟩,rfl⟩⟩
 intro hc N;refine zT<|vK [5] rfl<|yA<|yH<|rL 1 rfl ?_;intro aT af hl0;have h1:=SL.of_frozen hl0 af h;refine qP [(0,vT bi.l),(2,vP b 0),(4,vP b1 0),(5,vI 0)] ?_;obtain ⟨aM,az,aI⟩:=zB N;refine zBU bi 0 (zA.mk y.Coefs y.Const) aM az iR h1 (fun _ _ _ h=>h) (fun _ _ h=>h) ?_;intro bJ x1 p2 c2 heq1 aW h3;subst aM;refine zS<|yA<|yE<|rY 1 [0] [(26,vA (cAff x1 p2 c2))] ?_;obtain ⟨y4,aJ,N⟩:=zB aI;refine xM (zCA x1 _ aJ h3) ?_;rintro bN aw v2 k2 bt - ⟨v03,rfl,rfl,rfl⟩ -;have h3:=h3.mono bt;refine yI [] [29] rfl<|zI<|yF N ?_ ?_
 · intro bG N;refine yE<|yC 1 [] [30] rfl<|xH 1 [z0,vI 0] rfl<|wB [] [(3,vF)]<|xC<|zH ?_;obtain rfl:=zC N;exact xA ⟨_,_,(.cell 1 rfl rfl (by kernel_rfl) (.tmp rfl ResV.nil)),zQ,⟨_,_,rfl,rfl,⟨_,rfl,(yK ⟨_,rfl,(SL.nil _)⟩)⟩,rfl⟩⟩
 intro bG N;refine zT<|yV<|rY 1 [0] [(31,vA (cAff x1 p2 c2))]<|xH 1 (cAff x1 p2 c2) rfl<|wB [] [(3,vY)]<|zI<|xB ?_;obtain rfl:=zC N;exact xA ⟨_,_,(.cell 1 rfl rfl (by kernel_rfl) (.tmp rfl ResV.nil)),zQ,⟨_,_,rfl,rfl,⟨_,rfl,(yK ⟨_,rfl,h3⟩)⟩,rfl⟩⟩
def zBh (r:(List zA)):KT:=fun kk I' ah v=>
  ∃ v0,ah=[]/\v=tupV [v0]/\SL I' v0 r
def tX (y:(List Str)) (out:List zA) (i:Int):Option (List zA):=do
 let t18<-(do
   if (decide (i<(y.length:Int))) then
    pure (decide (i<=2))
   else
    pure false
     : Option Bool)
 if t18 then
  let x<-idx y i
  let (y2,y3)<-pY x
  let ap<-app 32 out ([y2]:List zA)
  tX y ap (W (i+1))
 else
  pure (id out)
 partial_fixpoint
theorem zBV (y:(List Str)):∀ (out:List zA) (i:Int) (o:List zA),tX y out i=some o->∀ {B}{I0 I:Imm}{Q p c p1 c1 cs},I0.le I->(S4 I p y c)->(RL I cs out)->NG Q->NO Q->(∀ (I':Imm) (aj:List zA) (p2:Option Addr) (c2:Nat) (ay:List Value),o=aj->I0.le I'->(RL I' ay aj)->T 34 B Q (.exit 0) I' [hO zA (vS p2 aj c2) ay] [(3,vS p2 aj c2)])->J Tryz.prog 34 B (nav (bodyOf f238) [1,1,1,0,1,0]) Q I [hO zA (vS p1 out c1) cs] [(3,vS p1 out c1),(4,vS p y c),(5,vI i)]:=by
 refine tX.partial_correctness y _ fun aH ih out i o N B I0 I Q p c p1 c1 cs H h1 h2 hg ho hx=>yR hg ho<|yB<|yB ?_;refine wS N [hO zA (vS p1 out c1) cs] (fun t18=>[(3,vS p1 out c1),(4,vS p y c),(5,vI i),(18,.bool t18)]) (fun o0 aB=>?_) ?_
 · have H:=iS I;refine zM<|yC 5 [] [15] rfl<|xS [15] aB ?_ ?_
   · intro hc N;exact yI [] [18] rfl<|yL<|zU (ct N H)
   intro hc N;exact wB [] [(18,vF)]<|yL<|zU (ct N H)
 intro t18 aT af aS;have ⟨h2,h1,H⟩:=m3 af h2 h1 H;refine zI<|yF aS ?_ ?_
 · intro aE N;refine zT<|yA<|yH<|yE<|yC 2 [] [22,23] rfl<|bE N fun x aA N=>xO rfl rfl h1 aA ?_;intro ad aK aq al;obtain rfl:=al;refine xJ 0 aq [vT x.l] (vT x.l) rfl ?_;obtain ⟨⟨y2,y3⟩,aJ,N⟩:=zB N;refine xM (dQ x _ aJ ) ?_;rintro aU aw v2 k2 aC - ⟨v01,v02,rfl,rfl,⟨aQ,rfl,h4⟩,rfl⟩ -;have ⟨h2,h1,H⟩:=m3 aC h2 h1 H;obtain ⟨p3,c3,rfl,h6⟩:=yM h4;refine yC 8 [] [27,28] rfl<|wL [z0,vI 0] ?_;intro b1 hb1;refine xH 0 (cAff y2 p3 c3) rfl<|wB [] []<|zI<|zM<|rY 2 [0] [(29,vS p1 out c1),(30,vA (cAff y2 p3 c3))]<|uD (cAff y2 p3 c3) zA ?_;intro b2 hb2;have h7:RL aU (cAff y2 p3 c3) ([y2]:List zA):=⟨(cAff y2 p3 c3),_,rfl,rfl,(yK ⟨_,rfl,h6⟩),rfl⟩;obtain ⟨ap,bf,N⟩:=zB N;exact sC 95 2 2 rfl rfl rfl h2 (.inr ⟨0,rfl⟩) h7 bf fun p4 c4 aR h8=>tO (zY [1,2] (ah:=[hB b1 (cAff y2 p3 c3),hO zA (vS p4 ap c4) aR]))<|yI [] [3] rfl<|zP<|zI<|zM<|yI [] [5] rfl<|yP<|nX (zX [1] rfl (by decide))<|nN<|ih ap (W (i+1)) _ N H h1 h8 hg ho hx
 intro aE N;exact wR<|yL<|hx _ _ _ _ _ (zC N).symm H h2
def qF (bi:Str):Option ((List zA)):=do
 let y<-mT bi (44:UInt8)
 let aj<-tX y ([]:List zA) 0
 pure (id aj)
theorem gS:∀ bi r,qF bi=some r->∀ {I:Imm} ,RT 238 [vT bi.l] I [] (zBh  r):=by
 intro bi r N I;unfold qF at N;refine yJ func238 fun B=>vR []<|yV<|uD [] zA ?_;intro b hb;have h:RL I [] ([]:List zA):=rfl;refine yI [] [3] rfl<|yV<|yC 1 [] [9] rfl<|bE N fun y hy N=>xM (zAD bi (44:UInt8) _ hy ) ?_;rintro I0 aw v2 k2 le - ⟨v0,rfl,rfl,h1⟩ -;have h:=iM le h;obtain ⟨p,c,rfl⟩:=h1.form;refine yI [] [4] rfl<|yA<|yG [5] rfl<|xX<|qP [(3,vS (some ⟨b,0,none⟩) ([]:List zA) 0),(4,vS p y c),(5,vI 0)] ?_;obtain ⟨aM,az,aI⟩:=zB N;refine zBV y ([]:List zA) 0 aM az iR h1 h (fun _ _ _ h=>h) (fun _ _ h=>h) ?_;intro bC aj p2 c2 ay heq1 aD h3;subst aM;refine zS<|vK [2] rfl<|xC<|yU 0 rfl ?_;intro bJ aW hl0;have h9:=SL.of_frozen hl0 aW h3;obtain rfl:=zC aI;exact xA ⟨_,_,(.tmp rfl ResV.nil),zQ,⟨_,rfl,rfl,h9⟩⟩
def zEs (r:zE):KT:=fun kk I' ah v=>
  ∃ v0,ah=[]/\v=tupV [v0]/\(∃ cs,v0=.agg ⟨cs⟩/\Rp.rep I' cs r)
def gW (line:Str):Option (zE):=do
 let y<-mE line
 if ((y.length:Int) != 3) then
  pure (zE.mk ([]:List zA) ([]:List zA))
 else
  let x<-idx y 1
  let y1<-qF x
  let x1<-idx y 2
  let y2<-qF x1
  pure (zE.mk y1 y2)
theorem zGW:∀ line r,gW line=some r->∀ {I:Imm} ,RT 212 [vT line.l] I [] (zEs  r):=by
 intro line r N I;unfold gW at N;refine yJ func212 fun B=>?_;have H:=iS I;refine yE<|wL zTwo ?_;intro b hb;refine yD rfl<|yV<|yC 1 [] [4] rfl<|bE N fun y hy N=>xM (zAu line _ hy ) ?_;rintro I0 aw v2 k2 le - ⟨v0,rfl,rfl,h⟩ -;have H:=H.trans le;obtain ⟨p,c,rfl⟩:=h.form;refine yI [] [3] rfl<|yA<|yG [8] rfl<|zI<|yF N ?_ ?_
 · intro hc N;refine yE<|yC 1 [] [9] rfl<|zAo 0 zTwo [hB b zTwo] rfl rfl rfl rfl<|yD rfl<|xC<|zH ?_;obtain rfl:=zC N;exact xA ⟨_,_,(.cell 0 rfl rfl (by kernel_rfl) ResV.nil),zQ,⟨_,rfl,rfl,⟨_,rfl,(rM ⟨_,_,rfl,(SL.nil _),(SL.nil _)⟩)⟩⟩⟩
 intro hc N;refine zT<|zI<|yB ?_;obtain ⟨x,aA,N⟩:=zB N;obtain ⟨y1,aJ,N⟩:=zB N;obtain ⟨x1,bf,N⟩:=zB N;obtain ⟨y2,bw,N⟩:=zB N;refine vC [.p (vS p y c) [],.x (fun I' v hx=>∃ ad,v=.pointer (some ad)/\hx=[]/\(At I' ad [vT x.l])),.q (vT x.l),.x (eS y1),.p (vS p y c) [],.x (fun I' v hx=>∃ ad1,v=.pointer (some ad1)/\hx=[]/\(At I' ad1 [vT x1.l])),.q (vT x1.l),.x (eS y2),.x (fun I' v hx=>∃ aN aZ p21 c21,v=vA [vS aN y1 aZ,vS p21 y2 c21]/\hx=[]/\(S4 I' aN y1 aZ)/\(S4 I' p21 y2 c21))] [[],[(0,false)],[(1,false)],[(2,false)],[],[(4,false)],[(5,false)],[(6,false)],[(3,false),(7,false)]] [hB b zTwo] [] [(8,false)] (zY [0]) ?_ ?_
 · refine Op<|Ox ?_<|Oq ?_<|Ox ?_<|Op<|Ox ?_<|Oq ?_<|Ox ?_<|Ox ?_<|On
   · intro I1 hf af;refine yW [10] rfl ?_;have h:=h.mono af;refine xO rfl rfl h aA ?_;intro ad aK aq al;obtain rfl:=al;exact yQ [] iR ⟨_,rfl,rfl,aq⟩
   · rintro I1 hf af _ _ ⟨ad,rfl,rfl,aq⟩;exact yW [11] rfl<|xJ 0 aq [vT x.l] (vT x.l) rfl<|xE iR
   · intro I1 hf af;refine yW [12] rfl ?_;have H:=iS I1;refine xM (gS x _ aJ ) ?_;rintro aT aw v2 k2 af - ⟨v01,rfl,rfl,h1⟩ -;have H:=H.trans af;obtain ⟨p1,c1,rfl⟩:=h1.form;exact yQ [] H ⟨_,_,rfl,rfl,h1⟩
   · intro I1 hf af;refine yW [14] rfl ?_;have h:=h.mono af;refine xO rfl rfl h bf ?_;intro ad1 bx au ax;obtain rfl:=ax;exact yQ [] iR ⟨_,rfl,rfl,au⟩
   · rintro I1 hf af _ _ ⟨ad1,rfl,rfl,au⟩;exact yW [15] rfl<|xJ 0 au [vT x1.l] (vT x1.l) rfl<|xE iR
   · intro I1 hf af;refine yW [16] rfl ?_;have H:=iS I1;refine xM (gS x1 _ bw ) ?_;rintro aU aw v2 k2 aC - ⟨v02,rfl,rfl,h2⟩ -;have H:=H.trans aC;obtain ⟨p2,c2,rfl⟩:=h2.form;exact yQ [] H ⟨_,_,rfl,rfl,h2⟩
   rintro I1 hf af _ _ ⟨p1,c1,rfl,rfl,h1⟩ _ _ ⟨p2,c2,rfl,rfl,h2⟩;exact yW [13,17] rfl<|oY 9 [(18,vA [vS p1 y1 c1,vS p2 y2 c2])]<|yQ [] iR ⟨_,_,_,_,rfl,rfl,h1,h2⟩
 rintro bC aD _ _ ⟨aN,aZ,p21,c21,rfl,rfl,h11,h21⟩;refine yW [2,18] rfl ?_;refine xH 0 [vS aN y1 aZ,vS p21 y2 c21] rfl<|yD rfl<|zI<|xB ?_;obtain rfl:=zC N;exact xA ⟨_,_,(.cell 0 rfl rfl (by kernel_rfl) ResV.nil),zQ,⟨_,rfl,rfl,⟨_,rfl,(rM ⟨_,_,rfl,h11,h21⟩)⟩⟩⟩
def qU (s:Str) (end0:UInt8) (i:Int):Option (Out Unit (Int)):=do
 if (decide (i<(s.l.length:Int))) then
  let b<-sidx s i
  if ((b.toNat:Int)==(end0.toNat:Int)) then
   pure (.ret i)
  else
   qU s end0 (W (i+1))
 else
  pure (.done ())
 partial_fixpoint
theorem zDL (s:Str) (end0:UInt8):∀ (i:Int) (o:Out Unit (Int)),qU s end0 i=some o->∀ {B}{I0 I:Imm}{Q}  ,I0.le I->NG Q->NO Q->(∀ (I':Imm) ,o=(.done ())->I0.le I'->T 21 B Q (.exit 0) I' [] [])->(∀ r I' ah m',o=(.ret r)->I0.le I'->RS Tryz.prog f260 B (xD  r) I' ah m'->T 21 B Q .ret I' ah m')->J Tryz.prog 21 B (nav (bodyOf f260) [1,0,1,0]) Q I [] [(0,vT s.l),(2,.int .u8 (end0.toNat:Int)),(7,vI i)]:=by
 refine qU.partial_correctness s end0 _ fun aH ih i o N B I0 I Q H hg ho hx hr=>yR hg ho<|yB<|yG [12] rfl<|zI<|yF N ?_ ?_
 · intro hc N;refine zT<|yA<|yH<|yE<|yC 2 [] [15,16] rfl<|bE N fun b hy N=>zAO rfl rfl hy<|yI [] [19] rfl<|zI<|yF N ?_ ?_
   · intro aE N;exact yG [6] rfl<|xC<|zW<|zH<|zH<|hr _ _ _ _ (zC N).symm H ⟨_,_,(.tmp rfl ResV.nil),zQ,⟨_,rfl,rfl,rfl⟩⟩
   intro aE N;exact zT<|zP<|zI<|zM<|yI [] [7] rfl<|yP<|nN<|ih (W (i+1)) _ N H  hg ho hx hr
 intro hc N;exact wR<|yL<|hx _  (zC N).symm H
def kM (s:Str) (at0:Int) (end0:UInt8):Option (Int):=do
 match<-qU s end0 at0 with
 | .ret r0=>pure r0
 | .done _ =>
  pure (-1)
theorem zBb:∀ s at0 end0 r,kM s at0 end0=some r->∀ {I:Imm} ,RT 260 [vT s.l,vI at0,.int .u8 (end0.toNat:Int)] I [] (xD  r):=by
 intro s at0 end0 r N I;unfold kM at N;refine yJ func260 fun B=>vR []<|yA<|yG [7] rfl<|xX<|qP [(0,vT s.l),(2,.int .u8 (end0.toNat:Int)),(7,vI at0)] ?_;obtain ⟨o0,aB,aI⟩:=zB N;refine zDL s end0 at0 o0 aB iR  (fun _ _ _ h=>h) (fun _ _ h=>h) ?_ ?_
 · intro I0  heq le;subst o0;refine zS<|vK [6] rfl<|zI<|xB ?_;obtain rfl:=zC aI;exact vE
 intro r0 I9 hs9 m9 aX le9 ba;subst aX;refine zW<|zH ?_;obtain rfl:=zC aI;exact xA ba
def zAw (r:zJ×Int):KT:=fun kk I' ah v=>
  ∃ v0 v1,ah=[]/\v=tupV [v0,v1]/\(∃ cs,v0=.agg ⟨cs⟩/\Rp.rep I' cs r.1)/\v1=.int .i64 r.2
def qJ (s:Str) (at0:Int):Option (zJ×Int):=do
 let y<-kM s at0 (93:UInt8)
 let t20<-(do
   if (decide (y<(W (at0+2)))) then
    pure true
   else
    let b1<-sidx s (W (at0+1))
    pure ((b1.toNat:Int) != 91)
     : Option Bool)
 if t20 then
  pure ((zJ.mk (⟨[]⟩:Str) ([]:List zA)),(-1))
 else
  let s1<-sslc s at0 (W (at0+1))
  let s2<-sslc s (W (at0+2)) y
  let y1<-qF s2
  pure ((zJ.mk s1 y1),(W (y+1)))
theorem eF:∀ s at0 r,qJ s at0=some r->∀ {I:Imm} ,RT 239 [vT s.l,vI at0] I [] (zAw  r):=by
 intro s at0 r N I;unfold qJ at N;refine yJ func239 fun B=>?_;have H:=iS I;refine yE<|wL [vT ([]),z0] ?_;intro b hb;refine wB [] []<|yV<|yC 2 [] [7,8] rfl<|bE N fun y hy N=>gR (zBb s at0 (93:UInt8) _ hy ) ?_;intro I0 le;have H:=H.trans le;refine yI [] [6] rfl<|yA<|yB ?_;refine wS N [hB b [vT ([]),z0]] (fun t20=>[(0,vT s.l),(1,vI at0),(4,vP b 0),(6,vI y),(20,.bool t20)]) (fun o0 aB=>?_) ?_
 · have H:=iS I0;refine zM<|yC 5 [] [14] rfl<|xS [14] aB ?_ ?_
   · intro hc N;exact wB [] [(20,vY)]<|yL<|zU (ct N H)
   intro hc N;exact yC 8 [] [15,17] rfl<|bE N fun b1 aA N=>zAO rfl rfl aA<|yI [] [20] rfl<|yL<|zU (ct N H)
 intro t20 aT af aS;have H:=H.trans af;refine zI<|yF aS ?_ ?_
 · intro aE N;refine yE<|yC 1 [] [21] rfl<|xH 0 [vT ([]),z0] rfl<|yI [] [5] rfl<|xC<|zH ?_;obtain rfl:=zC N;exact xA ⟨_,_,(.cell 0 rfl rfl (by kernel_rfl) (.tmp rfl ResV.nil)),zQ,⟨_,_,rfl,rfl,⟨_,rfl,(nT ⟨_,rfl,(SL.nil _)⟩)⟩,rfl⟩⟩
 intro aE N;refine zT<|zI<|yB ?_;obtain ⟨s1,aJ,N⟩:=zB N;obtain ⟨s2,bf,N⟩:=zB N;obtain ⟨y1,bw,N⟩:=zB N;refine vC [.p (vT s.l) [],.p (vI at0) [],.p (vI at0) [],.p (vI (W (at0+1))) [],.q (vT s1.l),.p (vT s.l) [],.p (vI at0) [],.p (vI (W (at0+2))) [],.p (vI y) [],.q (vT s2.l),.x (eS y1),.x (fun I' v hx=>∃ p1 c1,v=vA [vT s1.l,vS p1 y1 c1]/\hx=[]/\(S4 I' p1 y1 c1)),.p (vI y) [],.p (vI (W (y+1))) [],.x (fun I' v hx=>∃ aN aZ,hx=[hB b [vT s1.l,vS aN y1 aZ]]/\(S4 I' aN y1 aZ))] [[],[],[],[(2,false)],[(0,false),(1,false),(3,false)],[],[],[(6,false)],[],[(5,false),(7,false),(8,false)],[(9,false)],[(4,false),(10,false)],[],[(12,false)],[(11,false),(16,true)]] [] [[hB b [vT ([]),z0]]] [(13,false),(14,true)] (zY [0]) ?_ ?_
 · refine Op<|Op<|Op<|Op<|Oq ?_<|Op<|Op<|Op<|Op<|Oq ?_<|Ox ?_<|Ox ?_<|Op<|Op<|Ox ?_<|On
   · intro I1 hf af;exact yW [22,23,25] rfl<|zHK rfl aJ<|xE iR
   · intro I1 hf af;exact yW [27,29,30] rfl<|zHK rfl bf<|xE iR
   · intro I1 hf af;refine yW [31] rfl ?_;have H:=iS I1;refine xM (gS s2 _ bw ) ?_;rintro aU aw v2 k2 aC - ⟨v01,rfl,rfl,h1⟩ -;have H:=H.trans aC;obtain ⟨p,c,rfl⟩:=h1.form;exact yQ [] H ⟨_,_,rfl,rfl,h1⟩
   · rintro I1 hf af _ _ ⟨rfl,rfl⟩ _ _ ⟨p,c,rfl,rfl,h1⟩;exact yW [26,32] rfl<|oY 12 [(33,vA [vT s1.l,vS p y1 c])]<|yQ [] iR ⟨_,_,rfl,rfl,h1⟩
   rintro I1 hf af _ _ ⟨p1,c1,rfl,rfl,h11⟩ _ _ rfl;refine yW [4,33] rfl ?_;have H:=iS I1;exact zAo 0 [vT s1.l,vS p1 y1 c1] (hB b [vT s1.l,vS p1 y1 c1]::hf) rfl rfl rfl rfl<|zFX (hx:=[hB b [vT s1.l,vS p1 y1 c1]]) rfl H rfl (zGJ (v:=undef)) ⟨_,_,rfl,h11⟩
 rintro bC aD _ _ ⟨rfl,rfl⟩ _ _ ⟨aN,aZ,rfl,h111⟩;refine yW [4,35] rfl ?_;refine yI [] [5] rfl<|zI<|xB ?_;obtain rfl:=zC N;exact xA ⟨_,_,(.cell 0 rfl rfl (by kernel_rfl) (.tmp rfl ResV.nil)),zQ,⟨_,_,rfl,rfl,⟨_,rfl,(nT ⟨_,rfl,h111⟩)⟩,rfl⟩⟩
def fV (r:zG×Int):KT:=fun kk I' ah v=>
  ∃ v0 v1,ah=[]/\v=tupV [v0,v1]/\(∃ cs,v0=.agg ⟨cs⟩/\Rp.rep I' cs r.1)/\v1=.int .i64 r.2
mutual
def gF (s:Str) (at0:Int) (ai:Int):Option (zG×Int):=do
 let (y1,y2)<-qV (same s) (same at0) (same ai)
 let t27<-(do
   if (decide (y2<0)) then
    pure true
   else
    pure (decide (y2>=(s.l.length:Int)))
     : Option Bool)
 if t27 then
  pure ((zG.mk 0 0 (zA.mk ([]:List Int) 0) (zJ.mk (⟨[]⟩:Str) ([]:List zA)) ([]:List zG)),(-1))
 else
  let b2<-sidx s y2
  let kind<-(do
    if ((b2.toNat:Int)==45) then
     pure (id 5)
    else
     let kind1<-(do
       if ((b2.toNat:Int)==42) then
        pure (id 6)
       else
        pure (id 4)
         : Option Int)
     pure (id kind1)
      : Option Int)
  let (y4,y5)<-qV (same s) (W (y2+1)) (same ai)
  let t51<-(do
    if (decide (y5<0)) then
     pure true
    else
     pure (decide (y5>=(s.l.length:Int)))
      : Option Bool)
  if t51 then
   pure ((zG.mk 0 0 (zA.mk ([]:List Int) 0) (zJ.mk (⟨[]⟩:Str) ([]:List zA)) ([]:List zG)),(-1))
  else
   pure ((zG.mk kind 0 (zA.mk ([]:List Int) 0) (zJ.mk (⟨[]⟩:Str) ([]:List zA)) ([y1,y4]:List zG)),(W (y5+1)))
 partial_fixpoint
def qV (s:Str) (at0:Int) (ai:Int):Option (zG×Int):=do
 let t26<-(do
   if (decide (ai<1)) then
    pure true
   else
    if (decide (at0<0)) then
     pure true
    else
     pure (decide (at0>=(s.l.length:Int)))
     : Option Bool)
 if t26 then
  pure ((zG.mk 0 0 (zA.mk ([]:List Int) 0) (zJ.mk (⟨[]⟩:Str) ([]:List zA)) ([]:List zG)),(-1))
 else
  let b1<-sidx s at0
  if ((b1.toNat:Int)==123) then
   let y<-kM s at0 (125:UInt8)
   if (decide (y<0)) then
    pure ((zG.mk 0 0 (zA.mk ([]:List Int) 0) (zJ.mk (⟨[]⟩:Str) ([]:List zA)) ([]:List zG)),(-1))
   else
    let s1<-sslc s (W (at0+1)) y
    let (y2,y3)<-pY s1
    pure ((zG.mk 2 0 y2 (zJ.mk (⟨[]⟩:Str) ([]:List zA)) ([]:List zG)),(W (y+1)))
  else
   let t52<-(do
     let b3<-sidx s at0
     if (decide ((b3.toNat:Int)>=65)) then
      let b4<-sidx s at0
      pure (decide ((b4.toNat:Int)<=68))
     else
      pure false
       : Option Bool)
   if t52 then
    let (y5,y6)<-qJ s at0
    pure ((zG.mk 3 0 (zA.mk ([]:List Int) 0) y5 ([]:List zG)),y6)
   else
    let b6<-sidx s at0
    if ((b6.toNat:Int)==40) then
     let (y8,y9)<-gF (same s) (W (at0+1)) (W (ai - 1))
     pure (y8,y9)
    else
     let (y11,y12)<-mF s at0
     if (y12==at0) then
      pure ((zG.mk 0 0 (zA.mk ([]:List Int) 0) (zJ.mk (⟨[]⟩:Str) ([]:List zA)) ([]:List zG)),(-1))
     else
      pure ((zG.mk 1 y11 (zA.mk ([]:List Int) 0) (zJ.mk (⟨[]⟩:Str) ([]:List zA)) ([]:List zG)),y12)
 partial_fixpoint
end
theorem zEt:(∀ (s:Str) (at0:Int) (ai:Int) r,gF s at0 ai=some r->∀ {I:Imm} ,RT 261 [vT s.l,vI at0,vI ai] I [] (fV  r))/\(∀ (s:Str) (at0:Int) (ai:Int) r,qV s at0 ai=some r->∀ {I:Imm} ,RT 240 [vT s.l,vI at0,vI ai] I [] (fV  r)):=by
  refine gF.mutual_partial_correctness _ _ ?_ ?_
  · intro F_spec_l3Parse ih_spec_l3Parse s at0 ai r N I;refine yJ func261 fun B=>?_;have H:=iS I;refine yE<|wL zExpr ?_;intro b hb;refine wB [] []<|yV<|yC 3 [] [14,15,16] rfl ?_;obtain ⟨⟨y1,y2⟩,hy,N⟩:=zB N;refine xM (ih_spec_l3Parse s at0 ai _ hy ) ?_;rintro I0 aw v2 k2 le - ⟨v0,v01,rfl,rfl,⟨cs,rfl,h⟩,rfl⟩ -;have H:=H.trans le;obtain ⟨p,c,p1,c1,p2,c2,rfl,h2,h3,h4⟩:=tH h;refine yC 7 [] [18,19] rfl<|wL zExpr ?_;intro b1 hb1;refine xH 0 (cExpr y1 p c p1 c1 p2 c2) rfl<|yI [] [9] rfl<|yA<|yB ?_;refine wS N [hB b1 (cExpr y1 p c p1 c1 p2 c2),hB b zExpr] (fun t27=>[(0,vT s.l),(2,vI ai),(6,vP b 0),(8,vP b1 0),(9,vI y2),(27,.bool t27)]) (fun o0 aB=>?_) ?_
    · have H:=iS I0;refine zM<|yC 3 [] [22] rfl<|xS [22] aB ?_ ?_
      · intro hc N;exact wB [] [(27,vY)]<|yL<|zU (ct N H)
      intro hc N;exact yI [] [27] rfl<|yL<|zU (ct N H)
    intro t27 aT af aS;have ⟨h2,h3,h4,H⟩:=m4 af h2 h3 h4 H;refine zI<|yF aS ?_ ?_
    · intro aE N;refine yE<|yC 1 [] [28] rfl<|zAo 1 zExpr [hB b1 (cExpr y1 p c p1 c1 p2 c2),hB b zExpr] rfl rfl rfl rfl<|yI [] [7] rfl<|xC<|zH ?_;obtain rfl:=zC N;exact xA ⟨_,_,(.cell 1 rfl rfl (by kernel_rfl) (.tmp rfl ResV.nil)),zQ,⟨_,_,rfl,rfl,⟨_,rfl,(xT ⟨_,_,_,rfl,(SL.nil _),(SL.nil _),(SL.nil _)⟩)⟩,rfl⟩⟩
    intro aE N;refine zT<|vK [10] rfl<|yA<|yE<|yC 2 [] [29,30] rfl<|bE N fun b2 aA N=>zAO rfl rfl aA<|yD rfl<|xX<|yG [32] rfl<|zI ?_;refine wS N [hB b1 (cExpr y1 p c p1 c1 p2 c2),hB b zExpr] (fun kind=>[(0,vT s.l),(2,vI ai),(6,vP b 0),(8,vP b1 0),(9,vI y2),(10,vI kind)]) (fun aM az=>?_) ?_
    · have H:=iS aT;refine yF az ?_ ?_
      · intro aY N;exact zM<|yI [] [10] rfl<|yL<|zU (ct N H)
      intro aY N;refine yG [34] rfl<|zI ?_;refine wS N [hB b1 (cExpr y1 p c p1 c1 p2 c2),hB b zExpr] (fun kind1=>[(0,vT s.l),(2,vI ai),(6,vP b 0),(8,vP b1 0),(9,vI y2),(10,vI kind1)]) (fun o02 ho02=>?_) ?_
      · have H:=iS aT;refine yF ho02 ?_ ?_
        · intro bG N;exact zM<|yI [] [10] rfl<|yL<|zU (ct N H)
        intro bG N;exact zT<|yL<|zU (ct N H)
      intro kind1 bC aC hMc2;have H:=H.trans aC;exact yL<|zU (ct hMc2 H)
    intro kind aU aD hMc1;have ⟨h2,h3,h4,H⟩:=m4 aD h2 h3 h4 H;refine zP<|yV<|yC 4 [] [37,39,40] rfl ?_;obtain ⟨⟨y4,y5⟩,aJ,N⟩:=zB hMc1;refine xM (ih_spec_l3Parse s (W (y2+1)) ai _ aJ ) ?_;rintro bJ aw v2 k2 aW - ⟨v05,v06,rfl,rfl,⟨ay,rfl,h5⟩,rfl⟩ -;have ⟨h2,h3,h4,H⟩:=m4 aW h2 h3 h4 H;obtain ⟨p3,c3,p4,c4,p5,c5,rfl,h7,h8,h9⟩:=tH h5;refine yC 8 [] [42,43] rfl<|wL zExpr ?_;intro b3 hb2;refine xH 0 (cExpr y4 p3 c3 p4 c4 p5 c5) rfl<|yI [] [12] rfl<|yA<|yB ?_;refine wS N [hB b3 (cExpr y4 p3 c3 p4 c4 p5 c5),hB b1 (cExpr y1 p c p1 c1 p2 c2),hB b zExpr] (fun t51=>[(6,vP b 0),(8,vP b1 0),(10,vI kind),(11,vP b3 0),(12,vI y5),(51,.bool t51)]) (fun o03 ho03=>?_) ?_
    · have H:=iS bJ;refine zM<|yC 3 [] [46] rfl<|xS [46] ho03 ?_ ?_
      · intro bM N;exact wB [] [(51,vY)]<|yL<|zU (ct N H)
      intro bM N;exact yI [] [51] rfl<|yL<|zU (ct N H)
    intro t51 bN bt hMc3;have ⟨h7,h8,h9,h2,h3,h4⟩:=m6 bt h7 h8 h9 h2 h3 h4;refine zI<|yF hMc3 ?_ ?_
    · intro hc5 N;refine yE<|yC 1 [] [52] rfl<|zAo 2 zExpr [hB b3 (cExpr y4 p3 c3 p4 c4 p5 c5),hB b1 (cExpr y1 p c p1 c1 p2 c2),hB b zExpr] rfl rfl rfl rfl<|yI [] [7] rfl<|xC<|zH ?_;obtain rfl:=zC N;exact xA ⟨_,_,(.cell 2 rfl rfl (by kernel_rfl) (.tmp rfl ResV.nil)),zQ,⟨_,_,rfl,rfl,⟨_,rfl,(xT ⟨_,_,_,rfl,(SL.nil _),(SL.nil _),(SL.nil _)⟩)⟩,rfl⟩⟩
    intro hc5 N;refine zT<|yV<|rY 3 [1,0] [(53,vI kind),(54,vA (cExpr y1 p c p1 c1 p2 c2)),(55,vA (cExpr y4 p3 c3 p4 c4 p5 c5))]<|uD [vI y1.Kind,vI y1.Num,vS p y1.Index.Coefs c,vI y1.Index.Const,vT y1.Read.Array.l,vS p1 y1.Read.Subs c1,vS p2 y1.Kids c2,vI y4.Kind,vI y4.Num,vS p3 y4.Index.Coefs c3,vI y4.Index.Const,vT y4.Read.Array.l,vS p4 y4.Read.Subs c4,vS p5 y4.Kids c5] zG ?_;intro b4 hb3;have h10:RL bN [vI y1.Kind,vI y1.Num,vS p y1.Index.Coefs c,vI y1.Index.Const,vT y1.Read.Array.l,vS p1 y1.Read.Subs c1,vS p2 y1.Kids c2,vI y4.Kind,vI y4.Num,vS p3 y4.Index.Coefs c3,vI y4.Index.Const,vT y4.Read.Array.l,vS p4 y4.Read.Subs c4,vS p5 y4.Kids c5] ([y1,y4]:List zG):=⟨(cExpr y1 p c p1 c1 p2 c2),_,rfl,rfl,(xT ⟨_,_,_,rfl,h2,h3,h4⟩),⟨(cExpr y4 p3 c3 p4 c4 p5 c5),_,rfl,rfl,(xT ⟨_,_,_,rfl,h7,h8,h9⟩),rfl⟩⟩;refine yC 7 [] [57,59] rfl<|xH 3 [vI kind,vI 0,z0,vI 0,vT ([]),z0,vS (some ⟨b4,0,none⟩) ([y1,y4]:List zG) 2] rfl<|yI [] [7] rfl<|xC<|yU 0 rfl ?_;intro I06 bv hl0;have h11:=SL.of_frozen hl0 bv h10;obtain rfl:=zC N;exact xA ⟨_,_,(.cell 2 rfl rfl (by kernel_rfl) (.tmp rfl ResV.nil)),zQ,⟨_,_,rfl,rfl,⟨_,rfl,(xT ⟨_,_,_,rfl,(SL.nil _),(SL.nil _),h11⟩)⟩,rfl⟩⟩
  intro F_spec_l3Round ih_spec_l3Round s at0 ai r N I;refine yJ func240 fun B=>?_;have H:=iS I;refine yE<|wL zExpr ?_;intro b hb;refine wB [] []<|yA<|yB ?_;refine wS N [hB b zExpr] (fun t26=>[(0,vT s.l),(1,vI at0),(2,vI ai),(6,vP b 0),(26,.bool t26)]) (fun o0 aB=>?_) ?_
  · have H:=iS I;refine zM<|yC 3 [] [17] rfl<|xS [17] aB ?_ ?_
    · intro hc N;exact wB [] [(26,vY)]<|yL<|zU (ct N H)
    intro hc N;refine yC 7 [] [21] rfl<|xS [21] N ?_ ?_
    · intro aE N;exact wB [] [(26,vY)]<|yL<|zU (ct N H)
    intro aE N;exact yI [] [26] rfl<|yL<|zU (ct N H)
  intro t26 I0 le aS;have H:=H.trans le;refine zI<|yF aS ?_ ?_
  · intro aY N;refine yE<|yC 1 [] [27] rfl<|zAo 0 zExpr [hB b zExpr] rfl rfl rfl rfl<|yI [] [7] rfl<|xC<|zH ?_;obtain rfl:=zC N;exact xA ⟨_,_,(.cell 0 rfl rfl (by kernel_rfl) (.tmp rfl ResV.nil)),zQ,⟨_,_,rfl,rfl,⟨_,rfl,(xT ⟨_,_,_,rfl,(SL.nil _),(SL.nil _),(SL.nil _)⟩)⟩,rfl⟩⟩
  intro aY N;refine zT<|yA<|yH<|yE<|yC 2 [] [29,30] rfl<|bE N fun b1 hy N=>zAO rfl rfl hy<|yI [] [28] rfl<|zI<|yF N ?_ ?_
  · intro bG N;refine yE<|yC 2 [] [33,34] rfl<|bE N fun y aA N=>gR (zBb s at0 (125:UInt8) _ aA ) fun aT af=>wB [] [(8,vI y)]<|yA<|vR [(37,.bool (decide (y<0)))]<|zI<|yF N ?_ ?_
    · intro bM N;refine yE<|yC 1 [] [38] rfl<|zAo 0 zExpr [hB b zExpr] rfl rfl rfl rfl<|yI [] [7] rfl<|xC<|zH<|zW<|zH ?_;obtain rfl:=zC N;exact xA ⟨_,_,(.cell 0 rfl rfl (by kernel_rfl) (.tmp rfl ResV.nil)),zQ,⟨_,_,rfl,rfl,⟨_,rfl,(xT ⟨_,_,_,rfl,(SL.nil _),(SL.nil _),(SL.nil _)⟩)⟩,rfl⟩⟩
    intro bM N;refine zT<|yV<|yC 4 [] [40,42,43] rfl<|bE N fun s1 aJ N=>zHK rfl aJ ?_;obtain ⟨⟨y2,y3⟩,bf,N⟩:=zB N;refine xM (dQ s1 _ bf ) ?_;rintro aU aw v2 k2 aC - ⟨v01,v02,rfl,rfl,⟨cs,rfl,h1⟩,rfl⟩ -;obtain ⟨p,c,rfl,h3⟩:=yM h1;refine yC 9 [] [46,47] rfl<|wL [z0,vI 0] ?_;intro b2 hb1;refine xH 0 (cAff y2 p c) rfl<|wB [] []<|yV<|rY 4 [0] [(49,vA [vI 2,vI 0,vS p y2.Coefs c,vI y2.Const,vT ([]),z0,z0]),(51,vI (W (y+1)))]<|xH 1 [vI 2,vI 0,vS p y2.Coefs c,vI y2.Const,vT ([]),z0,z0] rfl<|yI [] [7] rfl<|xC<|zW<|zH ?_;obtain rfl:=zC N;exact xA ⟨_,_,(.cell 1 rfl rfl (by kernel_rfl) (.tmp rfl ResV.nil)),zQ,⟨_,_,rfl,rfl,⟨_,rfl,(xT ⟨_,_,_,rfl,h3,(SL.nil _),(SL.nil _)⟩)⟩,rfl⟩⟩
  intro bG N;refine yB ?_;refine wS N [hB b zExpr] (fun t52=>[(0,vT s.l),(1,vI at0),(2,vI ai),(6,vP b 0),(52,.bool t52)]) (fun aM az=>?_) ?_
  · have H:=iS I0;refine zM<|yC 2 [] [53,54] rfl ?_;obtain ⟨b3,bw,N⟩:=zB az;refine zAO rfl rfl bw<|yC 5 [] [57] rfl<|xS [57] N ?_ ?_
    · intro hc5 N;exact yC 7 [] [58,59] rfl<|bE N fun b4 bH N=>zAO rfl rfl bH<|yI [] [52] rfl<|yL<|zU (ct N H)
    intro hc5 N;exact wB [] [(52,vF)]<|yL<|zU (ct N H)
  intro t52 bC aD hMc1;refine zI<|yF hMc1 ?_ ?_
  · intro hc6 N;refine yE<|yC 2 [] [64,65] rfl ?_;obtain ⟨⟨y5,y6⟩,hy6,N⟩:=zB N;refine xM (eF s at0 _ hy6 ) ?_;rintro bJ aw v2 k2 aW - ⟨v04,v05,rfl,rfl,⟨ay,rfl,h4⟩,rfl⟩ -;obtain ⟨p1,c1,rfl,h6⟩:=oT h4;refine yC 6 [] [67,68] rfl<|wL [vT ([]),z0] ?_;intro b5 hb2;refine xH 0 (cAccess y5 p1 c1) rfl<|yI [] [12] rfl<|yV<|rY 3 [0] [(70,vA [vI 3,vI 0,z0,vI 0,vT y5.Array.l,vS p1 y5.Subs c1,z0]),(71,vI y6)]<|xH 1 [vI 3,vI 0,z0,vI 0,vT y5.Array.l,vS p1 y5.Subs c1,z0] rfl<|yI [] [7] rfl<|xC<|zW<|zH ?_;obtain rfl:=zC N;exact xA ⟨_,_,(.cell 1 rfl rfl (by kernel_rfl) (.tmp rfl ResV.nil)),zQ,⟨_,_,rfl,rfl,⟨_,rfl,(xT ⟨_,_,_,rfl,(SL.nil _),h6,(SL.nil _)⟩)⟩,rfl⟩⟩
  intro hc6 N;refine yE<|yC 2 [] [73,74] rfl<|bE N fun b6 hy7 N=>zAO rfl rfl hy7<|yI [] [72] rfl<|zI<|yF N ?_ ?_
  · intro hc7 N;refine yE<|yC 5 [] [77,79,81] rfl ?_;obtain ⟨⟨y8,y9⟩,hy8,N⟩:=zB N;refine xM (ih_spec_l3Round s (W (at0+1)) (W (ai - 1)) _ hy8 ) ?_;rintro bN aw v2 k2 bt - ⟨v07,v08,rfl,rfl,⟨aQ,rfl,h7⟩,rfl⟩ -;obtain ⟨p2,c2,p3,c3,p4,c4,rfl,h9,h10,h11⟩:=tH h7;refine yC 8 [] [83,84] rfl<|xH 0 (cExpr y8 p2 c2 p3 c3 p4 c4) rfl<|yI [] [7] rfl<|xC<|zW<|zH ?_;obtain rfl:=zC N;exact xA ⟨_,_,(.cell 0 rfl rfl (by kernel_rfl) (.tmp rfl ResV.nil)),zQ,⟨_,_,rfl,rfl,⟨_,rfl,(xT ⟨_,_,_,rfl,h9,h10,h11⟩)⟩,rfl⟩⟩
  intro hc7 N;refine zT<|zP<|yV<|yC 2 [] [86,87] rfl ?_;obtain ⟨⟨y11,y12⟩,hy9,N⟩:=zB N;refine xM (zAv s at0 _ hy9 ) ?_;rintro I06 aw v2 k2 bv - ⟨v012,v013,rfl,rfl,rfl,rfl⟩ -;refine yI [] [13,14] rfl<|yA<|yG [93] rfl<|zI<|yF N ?_ ?_
  · intro hc8 N;refine yE<|yC 1 [] [94] rfl<|zAo 0 zExpr [hB b zExpr] rfl rfl rfl rfl<|yI [] [7] rfl<|xC<|zH ?_;obtain rfl:=zC N;exact xA ⟨_,_,(.cell 0 rfl rfl (by kernel_rfl) (.tmp rfl ResV.nil)),zQ,⟨_,_,rfl,rfl,⟨_,rfl,(xT ⟨_,_,_,rfl,(SL.nil _),(SL.nil _),(SL.nil _)⟩)⟩,rfl⟩⟩
  intro hc8 N;refine zT<|yV<|yC 3 [] [96,97] rfl<|xH 0 [vI 1,vI y11,z0,vI 0,vT ([]),z0,z0] rfl<|yI [] [7] rfl<|zI<|xB ?_;obtain rfl:=zC N;exact xA ⟨_,_,(.cell 0 rfl rfl (by kernel_rfl) (.tmp rfl ResV.nil)),zQ,⟨_,_,rfl,rfl,⟨_,rfl,(xT ⟨_,_,_,rfl,(SL.nil _),(SL.nil _),(SL.nil _)⟩)⟩,rfl⟩⟩
theorem zF9:∀ s at0 ai r,qV s at0 ai=some r->∀ {I:Imm} ,RT 240 [vT s.l,vI at0,vI ai] I [] (fV  r):=zEt.2
def tA (a0:zA) (n0:Int) (i:Int):Option (Int):=do
 if (decide (i<(a0.Coefs.length:Int))) then
  let x<-idx a0.Coefs i
  let n02<-(do
    if (x != 0) then
     pure (W (i+1))
    else
     pure (id n0)
      : Option Int)
  tA a0 n02 (W (i+1))
 else
  pure (id n0)
 partial_fixpoint
theorem zDM (a0:zA):∀ (n0:Int) (i:Int) (o:Int),tA a0 n0 i=some o->∀ {B}{I0 I:Imm}{Q p c}{b:Nat},I0.le I->(S4 I p a0.Coefs c)->NG Q->NO Q->(∀ (I':Imm) (n01:Int),o=n01->I0.le I'->T 21 B Q (.exit 0) I' [] [(3,vI n01)])->J Tryz.prog 21 B (nav (bodyOf f226) [1,1,0,1,0]) Q I [hB b (cAff a0 p c)] [(1,vP b 0),(3,vI n0),(4,vI i)]:=by
 refine tA.partial_correctness a0 _ fun aH ih n0 i o N B I0 I Q p c b H h hg ho hx=>yR hg ho<|yB<|yE<|yI [0] [9] rfl<|zI<|yF N ?_ ?_
 · intro hc N;refine zT<|yA<|yH<|yE<|yC 3 [0] [13,14] rfl<|bE N fun x hy N=>xO rfl rfl h hy ?_;intro ad aK aq al;obtain rfl:=al;refine xJ 0 aq [vI x] (vI x) rfl<|yI [] [17] rfl<|zI ?_;refine wS N [hB b (cAff a0 p c)] (fun n02=>[(1,vP b 0),(3,vI n02),(4,vI i)]) (fun o0 aB=>?_) ?_
   · have H:=iS I;refine yF aB ?_ ?_
     · intro aE N;exact zM<|yI [] [3] rfl<|yL<|zU (ct N H)
     intro aE N;exact zT<|yL<|zU (ct N H)
   intro n02 I0 le aS;have ⟨h,H⟩:=m2 le h H;exact zP<|zI<|zM<|yI [] [4] rfl<|yP<|nN<|ih n02 (W (i+1)) _ aS H h hg ho hx
 intro hc N;exact wR<|xQ zQ<|yL<|hx _ _ (zC N).symm H
def qW (a0:zA):Option (Int):=do
 let n01<-tA a0 0 0
 pure (id n01)
theorem dD:∀ a0 r,qW a0=some r->∀ {I:Imm}{p c},(S4 I p a0.Coefs c)->RT 226 [vA (cAff a0 p c)] I [] (xD  r):=by
 intro a0 r N I p c h;unfold qW at N;refine yJ func226 fun B=>yE<|tW (cAff a0 p c) ?_;intro b hb;refine wB [] []<|vK [3] rfl<|yA<|yG [4] rfl<|xX<|qP [(1,vP b 0),(3,vI 0),(4,vI 0)] ?_;obtain ⟨aM,az,aI⟩:=zB N;refine zDM a0 0 0 aM az iR h (fun _ _ _ h=>h) (fun _ _ h=>h) ?_;intro aT n01 heq1 af;subst aM;refine zS<|vK [2] rfl<|zI<|xB ?_;obtain rfl:=zC aI;exact vE
def uF (a0:zJ) (aa:Int) (i:Int):Option (Out Unit (Bool)):=do
 if (decide (i<(a0.Subs.length:Int))) then
  let t29<-(do
    let x<-idx a0.Subs i
    let y<-uE x
    if (!y) then
     pure true
    else
     let x1<-idx a0.Subs i
     let y1<-qW x1
     pure (decide (y1>aa))
      : Option Bool)
  if t29 then
   pure (.ret false)
  else
   uF a0 aa (W (i+1))
 else
  pure (.done ())
 partial_fixpoint
theorem zCi (a0:zJ) (aa:Int):∀ (i:Int) (o:Out Unit (Bool)),uF a0 aa i=some o->∀ {B}{I0 I:Imm}{Q p c}{b:Nat},I0.le I->(S4 I p a0.Subs c)->NG Q->NO Q->(∀ (I':Imm) ,o=(.done ())->I0.le I'->T 56 B Q (.exit 0) I' [hB b (cAccess a0 p c)] [(2,vP b 0)])->(∀ r I' ah m',o=(.ret r)->I0.le I'->RS Tryz.prog f186 B (zV  r) I' ah m'->T 56 B Q .ret I' ah m')->J Tryz.prog 56 B (nav (bodyOf f186) [1,0,1,0]) Q I [hB b (cAccess a0 p c)] [(1,vI aa),(2,vP b 0),(5,vI i)]:=by
 refine uF.partial_correctness a0 aa _ fun aH ih i o N B I0 I Q p c b H h hg ho hx hr=>yR hg ho<|yB<|yE<|yI [0] [10] rfl<|zI<|yF N ?_ ?_
 · intro hc N;refine zT<|yA<|yH<|yB ?_;refine wS N [hB b (cAccess a0 p c)] (fun t29=>[(1,vI aa),(2,vP b 0),(5,vI i),(29,.bool t29)]) (fun o0 aB=>?_) ?_
   · have H:=iS I;refine zM<|yC 3 [0] [14,15] rfl ?_;obtain ⟨x,hy,N⟩:=zB aB;refine xO rfl rfl h hy ?_;intro ad aK aq al;obtain ⟨p1,c1,rfl,h1⟩:=yM al;refine xJ 0 aq (cAff x p1 c1) (vA (cAff x p1 c1)) rfl<|bE N fun y aA N=>uM (kE x _ aA h1) ?_;intro aT le;have ⟨h,H⟩:=m2 le h H;refine yC 8 [] [20] rfl<|xS [20] N ?_ ?_
     · intro aE N;exact wB [] [(29,vY)]<|yL<|zU (ct N H)
     intro aE N;refine yC 11 [0] [22,23] rfl<|bE N fun x1 aJ N=>xO rfl rfl h aJ ?_;intro ad1 bx au ax;obtain ⟨p2,c2,rfl,h3⟩:=yM ax;refine xJ 0 au (cAff x1 p2 c2) (vA (cAff x1 p2 c2)) rfl<|bE N fun y1 bf N=>gR (dD x1 _ bf h3) ?_;intro aU af;have H:=H.trans af;exact yI [] [29] rfl<|yL<|zU (ct N H)
   intro t29 I0 aC aS;have ⟨h,H⟩:=m2 aC h H;refine zI<|yF aS ?_ ?_
   · intro aY N;exact vR [(4,vF)]<|xC<|zW<|zH<|zH<|hr _ _ _ _ (zC N).symm H ⟨_,_,(.tmp rfl ResV.nil),zQ,⟨_,rfl,rfl,rfl⟩⟩
   intro aY N;exact zT<|zP<|zI<|zM<|yI [] [5] rfl<|yP<|nN<|ih (W (i+1)) _ N H h hg ho hx hr
 intro hc N;exact wR<|yL<|hx _  (zC N).symm H
def pJ (a0:zJ) (aa:Int):Option (Bool):=do
 match<-uF a0 aa 0 with
 | .ret r0=>pure r0
 | .done _ =>
  let t4<-(do
    if ((a0.Array.l.length:Int)==1) then
     if (!(Op.bytesLess a0.Array.l ([65]:List UInt8))) then
      if (Op.bytesLess a0.Array.l ([68]:List UInt8)||a0.Array.l==([68]:List UInt8)) then
       if (decide ((a0.Subs.length:Int)>=1)) then
        pure (decide ((a0.Subs.length:Int)<=2))
       else
        pure false
      else
       pure false
     else
      pure false
    else
     pure false
      : Option Bool)
  pure (id t4)
theorem zAx:∀ a0 aa r,pJ a0 aa=some r->∀ {I:Imm}{p c},(S4 I p a0.Subs c)->RT 186 [vA (cAccess a0 p c),vI aa] I [] (zV  r):=by
 intro a0 aa r N I p c h;unfold pJ at N;refine yJ func186 fun B=>?_;have H:=iS I;refine yE<|tW (cAccess a0 p c) ?_;intro b hb;refine wB [] []<|yA<|yG [5] rfl<|xX<|qP [(1,vI aa),(2,vP b 0),(5,vI 0)] ?_;obtain ⟨aM,az,aI⟩:=zB N;refine zCi a0 aa 0 aM az iR h (fun _ _ _ h=>h) (fun _ _ h=>h) ?_ ?_
 · intro bC  heq1 aD;subst aM;have H:=H.trans aD;refine zS<|zI<|yB ?_;refine wS aI [] (fun t4=>[(4,.bool t4)]) (fun o02 ho02=>?_) ?_
   · have H:=iS bC;refine zM<|yC 5 [0] [34] rfl<|xS [34] ho02 ?_ ?_
     · intro bG N;refine yC 10 [0] [39] rfl<|xS [39] N ?_ ?_
       · intro bM N;refine yC 15 [0] [44] rfl<|xS [44] N ?_ ?_
         · intro hc5 N;refine yC 21 [0] [50] rfl<|xS [50] N ?_ ?_
           · intro hc6 N;exact yI [0] [4] rfl<|xQ zQ<|yL<|zU (ct N H)
           intro hc6 N;exact wB [] [(4,vF)]<|xQ zQ<|yL<|zU (ct N H)
         intro hc5 N;exact wB [] [(4,vF)]<|xQ zQ<|yL<|zU (ct N H)
       intro bM N;exact wB [] [(4,vF)]<|xQ zQ<|yL<|zU (ct N H)
     intro bG N;exact wB [] [(4,vF)]<|xQ zQ<|yL<|zU (ct N H)
   intro t4 bJ aW hMc1;refine zI<|xB ?_;obtain rfl:=zC hMc1;exact vE
 intro r0 I9 hs9 m9 aX le9 ba;subst aX;refine zW<|zH ?_;obtain rfl:=zC aI;exact xA ba
end Go.LN
