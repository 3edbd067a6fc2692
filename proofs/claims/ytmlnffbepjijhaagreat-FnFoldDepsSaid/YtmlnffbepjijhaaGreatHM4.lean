/- Helper of the proof (see the last text). -/
import Derived.Test.YtmlnffbepjijhaaGreatHM3
set_option linter.unusedVariables false
set_option linter.unusedSimpArgs false
namespace Go.LN
open Go.Proofs Go.Proofs.Tryz
set_option maxRecDepth 20000
def zA8 (b0:Nat) (r:zH×zO):KT:=fun kk I' ah v=>
  ∃ v0 k0,ah=[.blk b0 ⟨k0⟩]/\v=tupV [v0]/\(∃ cs,v0=.agg ⟨cs⟩/\Rp.rep I' cs r.1)/\Rp.rep I' k0 r.2
def nX (r0:zO) (p1:zH):Option (zH×zO):=do
 let y<-sM p1;let (y2,y3)<-xG r0 60;let (Arrays,Parts,x)<-(do
   if (y2==0) then
    let (y5,y6)<-nW y3 ([(⟨[65]⟩:Str),(⟨[68]⟩:Str),(⟨[69]⟩:Str)]:List Str);let (y8,y9)<-xE y6 ([7,0,3,(-1)]:List Int);let l<-app 40 y.Arrays ([(zD.mk y5 ([y8]:List Int))]:List zD);pure (l,y.Parts,y9)
   else
    let (ai,bh,x1)<-(do
      if (y2==1) then
       let (Arrays2,x2)<-(do
         if (decide ((y.Arrays.length:Int)>0)) then
          let (y11,y12)<-xE y3 ([1,2,7]:List Int);let x3<-idx y.Arrays 0;let l1<-pure (y.Arrays.set (0:Int).toNat (zD.mk x3.Name ([y11]:List Int)));pure (l1,y12)
         else
          pure (y.Arrays,y3)
           : Option (List zD×zO))
       pure (Arrays2,y.Parts,x2)
      else
       let (Parts2,x4)<-(do
         if (y2==2) then
          let (Parts3,x5)<-(do
            if (decide ((y.Parts.length:Int)>0)) then
             let x6<-idx y.Parts 0;let (y14,y15)<-kW y3 x6.Nest;let (y17,y18)<-kW y15 y14;let (y20,y21)<-kW y18 y17;let x7<-idx y.Parts 0;let l2<-pure (y.Parts.set (0:Int).toNat (zL.mk y20 x7.Body));pure (l2,y21)
            else
             pure (y.Parts,y3)
              : Option (List zL×zO))
          pure (Parts3,x5)
         else
          let (Parts4,x8)<-(do
            if (y2==3) then
             let t76<-(do
               if (decide ((y.Parts.length:Int)>0)) then
                let x9<-idx y.Parts (W ((y.Parts.length:Int) - 1));pure (decide ((x9.Body.length:Int)>0))
               else
                pure false
                 : Option Bool)
             let (Parts5,x10)<-(do
               if t76 then
                let x11<-idx y.Parts (W ((y.Parts.length:Int) - 1));let x12<-idx x11.Body 0;let (y22,y23)<-qL y3 x12;let (y24,y25)<-qL y23 y22;let (y26,y27)<-qL y25 y24;let l3<-pure ((y.Parts).set (W ((y.Parts.length:Int) - 1)).toNat (zL.mk x11.Nest (x11.Body.set 0 y26)));pure (l3,y27)
               else
                pure (y.Parts,y3)
                 : Option (List zL×zO))
             pure (Parts5,x10)
            else
             let Parts6<-(do
               if (y2==4) then
                let Parts7<-(do
                  if (decide ((y.Parts.length:Int)>0)) then
                   let x13<-idx y.Parts (W ((y.Parts.length:Int) - 1));let l4<-pure (y.Parts.set (W ((y.Parts.length:Int) - 1)).toNat (zL.mk x13.Nest ([]:List zG)));pure (id l4)
                  else
                   pure y.Parts
                    : Option (List zL))
                pure (id Parts7)
               else
                pure y.Parts
                 : Option (List zL))
             pure (Parts6,y3)
              : Option (List zL×zO))
          pure (Parts4,x8)
           : Option (List zL×zO))
       pure (y.Arrays,Parts2,x4)
        : Option (List zD×List zL×zO))
    pure (ai,bh,x1)
     : Option (List zD×List zL×zO))
 pure ((zH.mk Arrays Parts),x)
theorem zFo:∀ (r0:zO) (p1:zH) r,nX r0 p1=some r->∀ {I:Imm}{ar}{p c p2 c1 p3 c2},(S4 I p r0.b c)->(S4 I p2 p1.Arrays c1)->(S4 I p3 p1.Parts c2)->(∀ (y:zH) (y2:Int) (y3:zO) (x:zL) (s:zG),sM p1=some y->xG r0 60=some (y2,y3)->(y2==3)=true->idx y.Parts (W ((y.Parts.length:Int) - 1))=some x->idx x.Body 0=some s->False)->RT 49 [vP ar 0,vA (cProg p1 p2 c1 p3 c2)] I [hB ar (cRd r0 p c)] (zA8 ar r):=by
 intro r0 p1 r N I ar p c p2 c1 p3 c2 h h1 h2 hne;unfold nX at N;refine yJ func49 fun B=>?_;have H:=iS I;refine yA<|vD (cProg p1 p2 c1 p3 c2) ?_;intro b hb;refine xU zTwo ?_;intro b1 hb1;refine zU rfl<|yT<|vU 1 [1] [(7,vA (cProg p1 p2 c1 p3 c2))]<|bE N fun y hy N=>xJ (zIK p1 _ hy h1 h2) ?_;rintro I0 av v2 k2 le - ⟨p4,c3,cs,p5,c4,aw,rfl,rfl,h3,h4⟩ -;have ⟨h,H⟩:=m2 le h H;refine xU zTwo ?_;intro b2 hb2;refine yS 0 (cProg y p4 c3 p5 c4) rfl<|zU rfl<|yT<|yL [0] [6] rfl<|zZ<|yA<|yD 1 [] [12] rfl<|tU (zY [5,0,1,2,3,4] (ah:=[hB ar (cRd r0 p c),hB b2 (cProg y p4 c3 p5 c4),hO zD (vS p4 y.Arrays c3) cs,hO zL (vS p5 y.Parts c4) aw,hB b1 zTwo,hB b (cProg p1 p2 c1 p3 c2)])) ?_;obtain ⟨⟨y2,y3⟩,ax,N⟩:=zB N;refine rC (xZ r0 60 _ ax h) rfl ?_;rintro aR av v2 k2 ae - ⟨v0,kk,rfl,rfl,rfl,h6⟩ -;have ⟨h3,h4,H⟩:=m3 ae h3 h4 H;obtain ⟨p6,c5,rfl,h7⟩:=yB h6;refine zU rfl<|wQ<|yI [14] rfl<|zK<|oJ 5 rfl ?_;intro aV aB hl0;have ap:At aV ⟨b,0,none⟩ (cProg p1 p2 c1 p3 c2):=At.of_blk hl0;have ⟨h7,h3,h4,H⟩:=m4 aB h7 h3 h4 H;obtain ⟨o0,az,aT⟩:=zB N;refine nT (fun I' ah m'=>∃ (Arrays:List zD) (Parts:List zL) (x:zO) (p7:Option Addr) (c6:Nat) (aU:List Value) (p8:Option Addr) (c7:Nat) (aO:List Value) (p9:Option Addr) (c8:Nat),o0=(Arrays,Parts,x)/\aV.le I'/\(RL I' aU Arrays)/\(RL I' aO Parts)/\(S4 I' p9 x.b c8)/\ah=[hB ar (cRd x p9 c8),hB b2 [vS p7 Arrays c6,vS p8 Parts c7],hO zD (vS p7 Arrays c6) aU,hO zL (vS p8 Parts c7) aO,hB b1 zTwo]/\m'=[(4,vP b1 0),(5,vP b2 0)]) ?_ ?_
 · have H:=iS aV;refine yE az ?_ ?_
   · intro hc N;obtain ⟨⟨y5,y6⟩,aE,N⟩:=zB N;obtain ⟨⟨y8,y9⟩,bj,N⟩:=zB N;obtain ⟨l,bt,N⟩:=zB N;refine wV [.p (vP b2 0) [],.p (vS p4 y.Arrays c3) [0],.p (vP ar 0) [],.x (fun I' v hx=>∃ b3,v=vS (some ⟨b3,0,none⟩) ([(⟨[65]⟩:Str),(⟨[68]⟩:Str),(⟨[69]⟩:Str)]:List Str) 3/\hx=[]/\(SL I' (vS (some ⟨b3,0,none⟩) ([(⟨[65]⟩:Str),(⟨[68]⟩:Str),(⟨[69]⟩:Str)]:List Str) 3) ([(⟨[65]⟩:Str),(⟨[68]⟩:Str),(⟨[69]⟩:Str)]:List Str))),.x (fun I' v hx=>∃ aM c9,v=vT y5.l/\hx=[hB ar (cRd y6 aM c9)]/\(S4 I' aM y6.b c9)),.p (vP ar 0) [],.x (fun I' v hx=>∃ b4,v=vS (some ⟨b4,0,none⟩) ([7,0,3,(-1)]:List Int) 4/\hx=[]/\(SL I' (vS (some ⟨b4,0,none⟩) ([7,0,3,(-1)]:List Int) 4) ([7,0,3,(-1)]:List Int))),.x (fun I' v hx=>∃ aI aP,v=vI y8/\hx=[hB ar (cRd y9 aI aP)]/\(S4 I' aI y9.b aP)),.x (fun I' v hx=>∃ b5,v=vS (some ⟨b5,0,none⟩) ([y8]:List Int) 1/\hx=[]/\(SL I' (vS (some ⟨b5,0,none⟩) ([y8]:List Int) 1) ([y8]:List Int))),.x (fun I' v hx=>∃ b51,v=vA [vT y5.l,vS (some ⟨b51,0,none⟩) ([y8]:List Int) 1]/\hx=[]/\(SL I' (vS (some ⟨b51,0,none⟩) ([y8]:List Int) 1) ([y8]:List Int))),.x (fun I' v hx=>∃ b6,v=vS (some ⟨b6,0,none⟩) ([(zD.mk y5 ([y8]:List Int))]:List zD) 1/\hx=[]/\(SL I' (vS (some ⟨b6,0,none⟩) ([(zD.mk y5 ([y8]:List Int))]:List zD) 1) ([(zD.mk y5 ([y8]:List Int))]:List zD))),.x (fun I' v hx=>∃ bm aQ bw,v=vS bm l aQ/\hx=[hO zD (vS bm l aQ) bw]/\(RL I' bw l))] [[],[(0,false)],[],[],[(2,false),(3,false),(14,true)],[],[],[(5,false),(6,false),(4,true)],[(7,false)],[(4,false),(8,false)],[(9,false)],[(1,false),(10,false),(15,true)]] [hB b2 (cProg y p4 c3 p5 c4),hO zL (vS p5 y.Parts c4) aw,hB b1 zTwo] [[hB ar (cRd y3 p6 c5)],[hO zD (vS p4 y.Arrays c3) cs]] [(7,true),(11,true)] (zY [1,3,4,0,2]) ?_ ?_
     · refine O3<|Ox ?_<|Ox ?_<|Op<|Ox ?_<|Ox ?_<|Ox ?_<|Ox ?_<|Ox ?_<|Ox ?_<|On
       · intro I1 hf ae;refine I_h [] ?_;have H:=iS I1;refine mE (rT [(⟨[65]⟩:Str),(⟨[68]⟩:Str),(⟨[69]⟩:Str)]) ?_;intro b3 bH aF h12;have H:=H.trans aF;exact yM [] H ⟨_,rfl,rfl,h12⟩
       · rintro I1 hf ae _ _ ⟨rfl,rfl⟩ _ _ ⟨b3,rfl,rfl,h12⟩ _ _ rfl;refine xD [18,19] rfl ?_;have H:=iS I1;have h7:=h7.mono ae;refine rC (zAN y3 ([(⟨[65]⟩:Str),(⟨[68]⟩:Str),(⟨[69]⟩:Str)]:List Str) _ aE h7 h12) rfl ?_;rintro bO av v2 k2 aX - ⟨v02,kk1,rfl,rfl,rfl,h14⟩ -;have H:=H.trans aX;obtain ⟨aM,c9,rfl,h15⟩:=yB h14;exact yM [hB ar (cRd y6 aM c9)] H ⟨_,_,rfl,rfl,h15⟩
       · intro I1 hf ae;refine I_h [] ?_;have H:=iS I1;refine mE (rI [7,0,3,(-1)]) ?_;intro b4 I06 bi h17;have H:=H.trans bi;exact yM [] H ⟨_,rfl,rfl,h17⟩
       · rintro I1 hf ae _ _ ⟨rfl,rfl⟩ _ _ ⟨b4,rfl,rfl,h17⟩ _ _ ⟨aM,c9,rfl,rfl,h15⟩;refine xD [21,22] rfl ?_;have H:=iS I1;refine rC (xQ y6 ([7,0,3,(-1)]:List Int) _ bj h15 h17) rfl ?_;rintro I07 av v2 k2 bB - ⟨v04,kk2,rfl,rfl,rfl,h19⟩ -;have H:=H.trans bB;obtain ⟨aI,aP,rfl,h20⟩:=yB h19;exact yM [hB ar (cRd y9 aI aP)] H ⟨_,_,rfl,rfl,h20⟩
       · rintro I1 hf ae _ _ ⟨aI,aP,rfl,rfl,h20⟩;refine xD [23] rfl ?_;have H:=iS I1;refine mE (rI [y8]) ?_;intro b5 I08 le7 h22;have H:=H.trans le7;exact yM [] H ⟨_,rfl,rfl,h22⟩
       · rintro I1 hf ae _ _ ⟨aM,c9,rfl,rfl,h15⟩ _ _ ⟨b5,rfl,rfl,h22⟩;exact xD [20,24] rfl<|mD 10 [(25,vA [vT y5.l,vS (some ⟨b5,0,none⟩) ([y8]:List Int) 1])]<|yM [] iR ⟨_,rfl,rfl,h22⟩
       · rintro I1 hf ae _ _ ⟨b51,rfl,rfl,h221⟩;refine xD [25] rfl ?_;have H:=iS I1;refine mE (rc (zD.mk y5 ([y8]:List Int)) (uL ⟨_,rfl,h221⟩) rN) ?_;intro b6 I09 le8 h24;have H:=H.trans le8;exact yM [] H ⟨_,rfl,rfl,h24⟩
       rintro I1 hf ae _ _ ⟨rfl,rfl⟩ _ _ ⟨b6,rfl,rfl,h24⟩ _ _ rfl;refine xD [17,26] rfl ?_;have h3:=iM ae h3;obtain ⟨aK,k0,k01⟩:=h24;have h24:SL I1 (vS (some ⟨b6,0,none⟩) ([(zD.mk y5 ([y8]:List Int))]:List zD) 1) ([(zD.mk y5 ([y8]:List Int))]:List zD):=⟨_,k0,k01⟩;exact qA 60 2 0 rfl rfl rfl h3 (.inl k0) k01 bt fun bm aQ bw h25=>vQ (ah:=(hO zD (vS bm l aQ) bw::hB b2 (cProg y p4 c3 p5 c4)::hO zL (vS p5 y.Parts c4) aw::hB b1 zTwo::hf)) rfl<|yM [hO zD (vS bm l aQ) bw] iR ⟨_,_,_,rfl,rfl,h25⟩
     rintro bL le9 _ _ ⟨aI,aP,rfl,rfl,h20⟩ _ _ ⟨bm,aQ,bw,rfl,rfl,h25⟩;refine xD [4,5,27] rfl ?_;have ⟨h4,H⟩:=m2 le9 h4 H;exact yD 13 [] [28] rfl<|yS 2 [vS bm l aQ,vS p5 y.Parts c4] rfl<|zU rfl<|wH (zW [1,2,0,3,4] rfl (by decide))<|yQ<|zT ⟨_,_,_,_,_,_,_,_,_,_,_,(zE N).symm,H,h25,h4,h20,rfl,rfl⟩
   intro hc N;refine yI [29] rfl<|zK ?_;obtain ⟨aL,aC,hMc1⟩:=zB N;refine nT (fun I' ah m'=>∃ (ai:List zD) (bh:List zL) (x1:zO) (aS:Option Addr) (aW:Nat) (bC:List Value) (p14:Option Addr) (bc:Nat) (cs6:List Value) (p15:Option Addr) (c14:Nat),aL=(ai,bh,x1)/\aV.le I'/\(RL I' bC ai)/\(RL I' cs6 bh)/\(S4 I' p15 x1.b c14)/\ah=[hB ar (cRd x1 p15 c14),hB b2 [vS aS ai aW,vS p14 bh bc],hO zD (vS aS ai aW) bC,hO zL (vS p14 bh bc) cs6,hB b1 zTwo]/\m'=[(4,vP b1 0),(5,vP b2 0)]) ?_ ?_
   · have H:=iS aV;refine yE aC ?_ ?_
     · intro aH N;refine yA<|yL [1] [34] rfl<|zK ?_;obtain ⟨o02,ho02,hMc2⟩:=zB N;refine nT (fun I' ah m'=>∃ (Arrays2:List zD) (x2:zO) (p16:Option Addr) (c15:Nat) (cs7:List Value) (p17:Option Addr) (c16:Nat),o02=(Arrays2,x2)/\aV.le I'/\(RL I' cs7 Arrays2)/\(S4 I' p17 x2.b c16)/\ah=[hB ar (cRd x2 p17 c16),hB b2 [vS p16 Arrays2 c15,vS p5 y.Parts c4],hO zD (vS p16 Arrays2 c15) cs7,hO zL (vS p5 y.Parts c4) aw,hB b1 zTwo]/\m'=[(4,vP b1 0),(5,vP b2 0)]) ?_ ?_
       · have H:=iS aV;refine yE ho02 ?_ ?_
         · intro bf N;obtain ⟨⟨y11,y12⟩,bD,N⟩:=zB N;refine wV [.p (vP b2 0) [],.p (vS p4 y.Arrays c3) [0],.p (vP ar 0) [],.x (fun I' v hx=>∃ b7,v=vS (some ⟨b7,0,none⟩) ([1,2,7]:List Int) 3/\hx=[]/\(SL I' (vS (some ⟨b7,0,none⟩) ([1,2,7]:List Int) 3) ([1,2,7]:List Int))),.x (fun I' v hx=>∃ p18 c17,v=vI y11/\hx=[hB ar (cRd y12 p18 c17)]/\(S4 I' p18 y12.b c17)),.x (fun I' v hx=>∃ b8,v=vS (some ⟨b8,0,none⟩) ([y11]:List Int) 1/\hx=[]/\(SL I' (vS (some ⟨b8,0,none⟩) ([y11]:List Int) 1) ([y11]:List Int)))] [[],[(0,false)],[],[],[(2,false),(3,false),(9,true)],[(4,false)]] [hB b2 (cProg y p4 c3 p5 c4),hO zD (vS p4 y.Arrays c3) cs,hO zL (vS p5 y.Parts c4) aw,hB b1 zTwo] [[hB ar (cRd y3 p6 c5)]] [(1,false),(4,true),(5,false)] (zY [1,2,3,4,0]) ?_ ?_
           · refine O3<|Ox ?_<|Ox ?_<|Ox ?_<|On
             · intro I1 hf ae;refine I_h [] ?_;have H:=iS I1;refine mE (rI [1,2,7]) ?_;intro b7 I013 le10 h32;have H:=H.trans le10;exact yM [] H ⟨_,rfl,rfl,h32⟩
             · rintro I1 hf ae _ _ ⟨rfl,rfl⟩ _ _ ⟨b7,rfl,rfl,h32⟩ _ _ rfl;refine xD [37,38] rfl ?_;have H:=iS I1;have h7:=h7.mono ae;refine rC (xQ y3 ([1,2,7]:List Int) _ bD h7 h32) rfl ?_;rintro I014 av v2 k2 le11 - ⟨v06,kk3,rfl,rfl,rfl,h34⟩ -;have H:=H.trans le11;obtain ⟨p18,c17,rfl,h35⟩:=yB h34;exact yM [hB ar (cRd y12 p18 c17)] H ⟨_,_,rfl,rfl,h35⟩
             rintro I1 hf ae _ _ ⟨p18,c17,rfl,rfl,h35⟩;refine xD [39] rfl ?_;have H:=iS I1;refine mE (rI [y11]) ?_;intro b8 I015 le12 h37;have H:=H.trans le12;exact yM [] H ⟨_,rfl,rfl,h37⟩
           rintro I016 le13 _ _ ⟨rfl,rfl⟩ _ _ ⟨p18,c17,rfl,rfl,h35⟩ _ _ ⟨b8,rfl,rfl,h37⟩;refine xD [4,5,36,40] rfl ?_;have ⟨h3,H⟩:=m2 le13 h3 H;obtain ⟨x3,hy6,N⟩:=zB N;refine jH 2 rfl rfl rfl h3 hy6 ?_;intro ad bo ay bJ al;obtain ⟨p19,c18,rfl,h38⟩:=wK al;refine yD 8 [] [42] rfl ?_;obtain ⟨l1,hy7,N⟩:=zB N;refine zMq (c:=[vT x3.Name.l,vS (some ⟨b8,0,none⟩) ([y11]:List Int) 1]) 2 1 ay bJ h3 hy6 hy7 (uL ⟨_,rfl,h37⟩) ?_;intro cs8 h39 hl07;exact zB0 (m':=[(4,vP b1 0),(5,vP b2 0),(40,vS (some ⟨b8,0,none⟩) ([y11]:List Int) 1)]) ⟨rfl,rfl,rfl,trivial⟩<|zJi (ah:=[hB ar (cRd y12 p18 c17),hB b2 [vS p4 l1 c3,vS p5 y.Parts c4],hO zD (vS p4 l1 c3) cs8,hO zL (vS p5 y.Parts c4) aw,hB b1 zTwo]) (m':=[(4,vP b1 0),(5,vP b2 0),(40,vS (some ⟨b8,0,none⟩) ([y11]:List Int) 1)]) (by first | rfl | simp only [vS,hl07,cP,ei,em,en,eu,ev]) (by first | rfl | simp only [vS,hl07])<|zU rfl<|yQ<|zT ⟨_,_,_,_,_,_,_,(zE N).symm,H,h39,h35,rfl,rfl⟩
         intro bf N;exact zS<|yQ<|zT ⟨_,_,_,_,_,_,_,(zE N).symm,H,h3,h7,rfl,rfl⟩
       rintro bS av m2 ⟨Arrays2,x2,p16,c15,cs7,p17,c16,heq,le14,h29,h30,rfl,rfl⟩;subst o02;have ⟨h4,H⟩:=m2 le14 h4 H;exact yQ<|zT ⟨_,_,_,_,_,_,_,_,_,_,_,(zE hMc2).symm,H,h29,h4,h30,rfl,rfl⟩
     intro aH N;refine yI [43] rfl<|zK ?_;obtain ⟨o03,ho03,hMc3⟩:=zB N;refine nT (fun I' ah m'=>∃ (Parts2:List zL) (x4:zO) (p20:Option Addr) (c19:Nat) (cs9:List Value) (p21:Option Addr) (c20:Nat),o03=(Parts2,x4)/\aV.le I'/\(RL I' cs9 Parts2)/\(S4 I' p21 x4.b c20)/\ah=[hB ar (cRd x4 p21 c20),hB b2 [vS p4 y.Arrays c3,vS p20 Parts2 c19],hO zD (vS p4 y.Arrays c3) cs,hO zL (vS p20 Parts2 c19) cs9,hB b1 zTwo]/\m'=[(4,vP b1 0),(5,vP b2 0)]) ?_ ?_
     · have H:=iS aV;refine yE ho03 ?_ ?_
       · intro bG N;refine yI [46] rfl<|zK ?_;obtain ⟨o04,ho04,hMc4⟩:=zB N;refine nT (fun I' ah m'=>∃ (Parts3:List zL) (x5:zO) (p22:Option Addr) (c21:Nat) (cs10:List Value) (p23:Option Addr) (c22:Nat),o04=(Parts3,x5)/\aV.le I'/\(RL I' cs10 Parts3)/\(S4 I' p23 x5.b c22)/\ah=[hB ar (cRd x5 p23 c22),hB b2 [vS p4 y.Arrays c3,vS p22 Parts3 c21],hO zD (vS p4 y.Arrays c3) cs,hO zL (vS p22 Parts3 c21) cs10,hB b1 zTwo]/\m'=[(4,vP b1 0),(5,vP b2 0)]) ?_ ?_
         · have H:=iS aV;refine yE ho04 ?_ ?_
           · intro bN N;obtain ⟨x6,hy8,N⟩:=zB N;obtain ⟨⟨y14,y15⟩,hy9,N⟩:=zB N;obtain ⟨⟨y17,y18⟩,hy10,N⟩:=zB N;obtain ⟨⟨y20,y21⟩,hy11,N⟩:=zB N;refine wV [.p (vP b2 1) [],.p (vS p5 y.Parts c4) [0],.p (vP ar 0) [],.p (vP ar 0) [],.p (vP ar 0) [],.p (vP b2 1) [],.p (vS p5 y.Parts c4) [0],.x (fun I' v hx=>∃ ad1 p24 c23 p25 c24,v=.pointer (some ad1)/\hx=[]/\(AtO (vS p5 y.Parts c4) (Rp.sz zL) (0:Int).toNat ad1)/\((aw.drop ((0:Int).toNat*Rp.sz zL)).take (Rp.sz zL)=(cPart x6 p24 c23 p25 c24))/\(S4 I' p24 x6.Nest c23)/\(S4 I' p25 x6.Body c24)),.x (fun I' v hx=>∃ ad11 p241 c231 p251 c241,v=.pointer (some ad11)/\hx=[]/\(AtO (vS p5 y.Parts c4) (Rp.sz zL) (0:Int).toNat ad11)/\((aw.drop ((0:Int).toNat*Rp.sz zL)).take (Rp.sz zL)=(cPart x6 p241 c231 p251 c241))/\(S4 I' p241 x6.Nest c231)/\(S4 I' p251 x6.Body c241)),.x (eS x6.Nest),.x (fun I' v hx=>∃ p26 c25 p27 c26,v=vS p26 y14 c25/\hx=[hB ar (cRd y15 p27 c26)]/\(S4 I' p26 y14 c25)/\(S4 I' p27 y15.b c26)),.x (fun I' v hx=>∃ p28 c27 p29 c28,v=vS p28 y17 c27/\hx=[hB ar (cRd y18 p29 c28)]/\(S4 I' p28 y17 c27)/\(S4 I' p29 y18.b c28)),.x (fun I' v hx=>∃ p30 c29 p31 c30,v=vS p30 y20 c29/\hx=[hB ar (cRd y21 p31 c30)]/\(S4 I' p30 y20 c29)/\(S4 I' p31 y21.b c30))] [[],[(0,false)],[],[],[],[],[(5,false)],[(6,false)],[(7,false)],[(8,false)],[(4,false),(9,false),(16,true)],[(3,false),(10,true)],[(2,false),(11,true)]] [hB b2 (cProg y p4 c3 p5 c4),hO zD (vS p4 y.Arrays c3) cs,hO zL (vS p5 y.Parts c4) aw,hB b1 zTwo] [[hB ar (cRd y3 p6 c5)]] [(1,false),(12,true)] (zY [1,2,3,4,0]) ?_ ?_
             · refine O4<|O3<|Ox ?_<|Ox ?_<|Ox ?_<|Ox ?_<|Ox ?_<|Ox ?_<|On
               · intro I1 hf ae;refine xD [53] rfl ?_;have h4:=iM ae h4;refine jH 2 rfl rfl rfl h4 hy8 ?_;intro ad1 bR bq hcc1 aA;obtain ⟨p24,c23,p25,c24,rfl,h44,h45⟩:=wX aA;exact yM [] iR ⟨_,_,_,_,_,rfl,rfl,bq,hcc1,h44,h45⟩
               · rintro I1 hf ae _ _ ⟨ad1,p24,c23,p25,c24,rfl,rfl,bq,hcc1,h44,h45⟩;exact xD [54] rfl<|mD 9 [(55,.pointer (some ad1))]<|yM [] iR ⟨_,_,_,_,_,rfl,rfl,bq,hcc1,h44,h45⟩
               · rintro I1 hf ae _ _ ⟨ad11,p241,c231,p251,c241,rfl,rfl,hat21,hcc11,h441,h451⟩;exact xD [55] rfl<|zEV 2 0 hat21 hcc11 [vS p241 x6.Nest c231] (vS p241 x6.Nest c231) rfl rfl<|yM [] iR ⟨_,_,rfl,rfl,h441⟩
               · rintro I1 hf ae _ _ ⟨rfl,rfl⟩ _ _ ⟨p2411,c2311,rfl,rfl,h4411⟩ _ _ rfl;refine xD [51,56] rfl ?_;have H:=iS I1;have h7:=h7.mono ae;refine rC (zAv y3 x6.Nest _ hy9 h7 h4411) rfl ?_;rintro I019 av v2 k2 le15 - ⟨v011,kk4,rfl,rfl,h46,h47⟩ -;have H:=H.trans le15;obtain ⟨p26,c25,rfl⟩:=h46.form;obtain ⟨p27,c26,rfl,h48⟩:=yB h47;exact yM [hB ar (cRd y15 p27 c26)] H ⟨_,_,_,_,rfl,rfl,h46,h48⟩
               · rintro I1 hf ae _ _ ⟨rfl,rfl⟩ _ _ ⟨p26,c25,p27,c26,rfl,rfl,h46,h48⟩;refine xD [50,57] rfl ?_;have H:=iS I1;refine rC (zAv y15 y14 _ hy10 h48 h46) rfl ?_;rintro I020 av v2 k2 le16 - ⟨v013,kk5,rfl,rfl,h49,h50⟩ -;have H:=H.trans le16;obtain ⟨p28,c27,rfl⟩:=h49.form;obtain ⟨p29,c28,rfl,h51⟩:=yB h50;exact yM [hB ar (cRd y18 p29 c28)] H ⟨_,_,_,_,rfl,rfl,h49,h51⟩
               rintro I1 hf ae _ _ ⟨rfl,rfl⟩ _ _ ⟨p28,c27,p29,c28,rfl,rfl,h49,h51⟩;refine xD [49,58] rfl ?_;have H:=iS I1;refine rC (zAv y18 y17 _ hy11 h51 h49) rfl ?_;rintro I021 av v2 k2 le17 - ⟨v015,kk6,rfl,rfl,h52,h53⟩ -;have H:=H.trans le17;obtain ⟨p30,c29,rfl⟩:=h52.form;obtain ⟨p31,c30,rfl,h54⟩:=yB h53;exact yM [hB ar (cRd y21 p31 c30)] H ⟨_,_,_,_,rfl,rfl,h52,h54⟩
             rintro I022 le18 _ _ ⟨rfl,rfl⟩ _ _ ⟨p30,c29,p31,c30,rfl,rfl,h52,h54⟩;refine xD [4,5,48,59] rfl ?_;have ⟨h4,H⟩:=m2 le18 h4 H;obtain ⟨x7,hy12,N⟩:=zB N;refine jH 3 rfl rfl rfl h4 hy12 ?_;intro ad2 ccs3 hat3 hcc2 bu;obtain ⟨p32,c31,p33,c32,rfl,h55,h56⟩:=wX bu;refine yD 15 [] [61] rfl ?_;obtain ⟨l2,hy13,N⟩:=zB N;refine zMq (c:=[vS p30 y20 c29,vS p33 x7.Body c32]) 3 0 hat3 hcc2 h4 hy12 hy13 (uY ⟨_,_,rfl,h52,h56⟩) ?_;intro cs11 h57 hl08;exact zB0 (m':=[(4,vP b1 0),(5,vP b2 0),(59,vS p30 y20 c29)]) ⟨rfl,rfl,rfl,trivial⟩<|zJi (ah:=[hB ar (cRd y21 p31 c30),hB b2 [vS p4 y.Arrays c3,vS p5 l2 c4],hO zD (vS p4 y.Arrays c3) cs,hO zL (vS p5 l2 c4) cs11,hB b1 zTwo]) (m':=[(4,vP b1 0),(5,vP b2 0),(59,vS p30 y20 c29)]) (by first | rfl | simp only [vS,hl08,cP,ei,em,en,eu,ev]) (by first | rfl | simp only [vS,hl08])<|zU rfl<|yQ<|zT ⟨_,_,_,_,_,_,_,(zE N).symm,H,h57,h54,rfl,rfl⟩
           intro bN N;exact zS<|yQ<|zT ⟨_,_,_,_,_,_,_,(zE N).symm,H,h4,h7,rfl,rfl⟩
         rintro I018 av m2 ⟨Parts3,x5,p22,c21,cs10,p23,c22,heq1,le19,h42,h43,rfl,rfl⟩;subst o04;have H:=H.trans le19;exact yQ<|zT ⟨_,_,_,_,_,_,_,(zE hMc4).symm,H,h42,h43,rfl,rfl⟩
       intro bG N;refine yI [62] rfl<|zK ?_;obtain ⟨o05,ho05,hMc5⟩:=zB N;refine nT (fun I' ah m'=>∃ (Parts4:List zL) (x8:zO) (p34:Option Addr) (c33:Nat) (cs12:List Value) (p35:Option Addr) (c34:Nat),o05=(Parts4,x8)/\aV.le I'/\(RL I' cs12 Parts4)/\(S4 I' p35 x8.b c34)/\ah=[hB ar (cRd x8 p35 c34),hB b2 [vS p4 y.Arrays c3,vS p34 Parts4 c33],hO zD (vS p4 y.Arrays c3) cs,hO zL (vS p34 Parts4 c33) cs12,hB b1 zTwo]/\m'=[(4,vP b1 0),(5,vP b2 0)]) ?_ ?_
       · have H:=iS aV;refine yE ho05 ?_ ?_
         · intro hc5 N;refine yC ?_;refine wU N [hB ar (cRd y3 p6 c5),hB b2 (cProg y p4 c3 p5 c4),hO zD (vS p4 y.Arrays c3) cs,hO zL (vS p5 y.Parts c4) aw,hB b1 zTwo] (fun t76=>[(0,vP ar 0),(4,vP b1 0),(5,vP b2 0),(6,vI (y.Parts.length:Int)),(76,.bool t76)]) (fun o06 ho06=>?_) ?_
           · have H:=iS aV;refine zM<|yD 3 [] [66] rfl<|wD [66] ho06 ?_ ?_
             · intro hc6 N;refine yD 7 [1] [68,70] rfl<|bE N fun x9 hy14 N=>jH 3 rfl rfl rfl h4 hy14 ?_;intro ad3 ccs4 hat4 hcc3 bI;obtain ⟨p36,c35,p37,c36,rfl,h60,h61⟩:=wX bI;exact yD 9 [] [72] rfl<|zEV 3 1 hat4 hcc3 [vS p37 x9.Body c36] (vS p37 x9.Body c36) rfl rfl<|yL [] [76] rfl<|yQ<|zT (ct N H)
             intro hc6 N;exact wT [] [(76,vF)]<|yQ<|zT (ct N H)
           intro t76 I024 le20 hMc6;have ⟨h7,h4,H⟩:=m3 le20 h7 h4 H;refine zK ?_;obtain ⟨o07,ho07,hMc7⟩:=zB hMc6;refine nT (fun I' ah m'=>∃ (Parts5:List zL) (x10:zO) (p38:Option Addr) (c37:Nat) (cs13:List Value) (p39:Option Addr) (c38:Nat),o07=(Parts5,x10)/\I024.le I'/\(RL I' cs13 Parts5)/\(S4 I' p39 x10.b c38)/\ah=[hB ar (cRd x10 p39 c38),hB b2 [vS p4 y.Arrays c3,vS p38 Parts5 c37],hO zD (vS p4 y.Arrays c3) cs,hO zL (vS p38 Parts5 c37) cs13,hB b1 zTwo]/\m'=[(4,vP b1 0),(5,vP b2 0)]) ?_ ?_
           · have H:=iS I024;refine yE ho07 ?_ ?_
             · intro hc7 N;obtain ⟨x11,hy15,N⟩:=zB N;obtain ⟨x12,hy16,N⟩:=zB N;obtain ⟨⟨y22,y23⟩,hy17,N⟩:=zB N;obtain ⟨⟨y24,y25⟩,hy18,N⟩:=zB N;obtain ⟨⟨y26,y27⟩,hy19,N⟩:=zB N;obtain ⟨l3,hy20,N⟩:=zB N;have hF:False:=hne _ _ _ _ _ (by assumption) (by assumption) (by assumption) hy15 hy16;obtain ⟨p40,c39,cs14,p41,c40,h64,h65⟩:∃ p40 c39 cs14 p41 c40,(RL I024 cs14 l3)/\(S4 I024 p41 y27.b c40):=hF.elim;exact zMr hF (aq:=I024) (ah:=[hB ar (cRd y27 p41 c40),hB b2 [vS p4 y.Arrays c3,vS p40 l3 c39],hO zD (vS p4 y.Arrays c3) cs,hO zL (vS p40 l3 c39) cs14,hB b1 zTwo]) (m':=[(0,vP ar 0),(4,vP b1 0),(5,vP b2 0),(6,vI (y.Parts.length:Int)),(76,.bool t76)])<|yQ<|zT ⟨_,_,_,_,_,_,_,(zE N).symm,H,h64,h65,rfl,rfl⟩
             intro hc7 N;exact zS<|yQ<|zT ⟨_,_,_,_,_,_,_,(zE N).symm,H,h4,h7,rfl,rfl⟩
           rintro I025 av m2 ⟨Parts5,x10,p38,c37,cs13,p39,c38,heq3,le21,h62,h63,rfl,rfl⟩;subst o07;have H:=H.trans le21;exact yQ<|zT ⟨_,_,_,_,_,_,_,(zE hMc7).symm,H,h62,h63,rfl,rfl⟩
         intro hc5 N;refine yI [100] rfl<|zK ?_;obtain ⟨o08,ho08,hMc8⟩:=zB N;refine nT (fun I' ah m'=>∃ (Parts6:List zL) (p42:Option Addr) (c41:Nat) (cs15:List Value),o08=Parts6/\aV.le I'/\(RL I' cs15 Parts6)/\ah=[hB ar (cRd y3 p6 c5),hB b2 [vS p4 y.Arrays c3,vS p42 Parts6 c41],hO zD (vS p4 y.Arrays c3) cs,hO zL (vS p42 Parts6 c41) cs15,hB b1 zTwo]/\m'=[(4,vP b1 0),(5,vP b2 0)]) ?_ ?_
         · have H:=iS aV;refine yE ho08 ?_ ?_
           · intro hc8 N;refine yI [103] rfl<|zK ?_;obtain ⟨o09,ho09,hMc9⟩:=zB N;refine nT (fun I' ah m'=>∃ (Parts7:List zL) (p43:Option Addr) (c42:Nat) (cs16:List Value),o09=Parts7/\aV.le I'/\(RL I' cs16 Parts7)/\ah=[hB ar (cRd y3 p6 c5),hB b2 [vS p4 y.Arrays c3,vS p43 Parts7 c42],hO zD (vS p4 y.Arrays c3) cs,hO zL (vS p43 Parts7 c42) cs16,hB b1 zTwo]/\m'=[(4,vP b1 0),(5,vP b2 0)]) ?_ ?_
             · have H:=iS aV;refine yE ho09 ?_ ?_
               · intro hc9 N;refine zM<|yD 4 [1] [105,107] rfl<|bE N fun x13 hy21 N=>jH 3 rfl rfl rfl h4 hy21 ?_;intro ad4 ccs5 hat5 hcc4 hrep4;obtain ⟨p44,c43,p45,c44,rfl,h68,h69⟩:=wX hrep4;refine yD 6 [] [109] rfl ?_;obtain ⟨l4,hy22,N⟩:=zB N;refine zMq (c:=[vS p44 x13.Nest c43,z0]) 3 1 hat5 hcc4 h4 hy21 hy22 (uY ⟨_,_,rfl,h68,(SL.nil _)⟩) ?_;intro cs17 h70 hl09;exact zB0 (m':=[(4,vP b1 0),(5,vP b2 0)]) ⟨rfl,rfl,trivial⟩<|zJi (ah:=[hB ar (cRd y3 p6 c5),hB b2 [vS p4 y.Arrays c3,vS p5 l4 c4],hO zD (vS p4 y.Arrays c3) cs,hO zL (vS p5 l4 c4) cs17,hB b1 zTwo]) (m':=[(4,vP b1 0),(5,vP b2 0)]) (by first | rfl | simp only [vS,hl09,cP,ei,em,en,eu,ev]) (by first | rfl | simp only [vS,hl09])<|zU rfl<|yQ<|zT ⟨_,_,_,_,(zE N).symm,H,h70,rfl,rfl⟩
               intro hc9 N;exact zS<|yQ<|zT ⟨_,_,_,_,(zE N).symm,H,h4,rfl,rfl⟩
             rintro I027 av m2 ⟨Parts7,p43,c42,cs16,heq4,le22,h67,rfl,rfl⟩;subst o09;have H:=H.trans le22;exact yQ<|zT ⟨_,_,_,_,(zE hMc9).symm,H,h67,rfl,rfl⟩
           intro hc8 N;exact zS<|yQ<|zT ⟨_,_,_,_,(zE N).symm,H,h4,rfl,rfl⟩
         rintro I026 av m2 ⟨Parts6,p42,c41,cs15,heq5,le23,h66,rfl,rfl⟩;subst o08;have ⟨h7,H⟩:=m2 le23 h7 H;exact yQ<|zT ⟨_,_,_,_,_,_,_,(zE hMc8).symm,H,h66,h7,rfl,rfl⟩
       rintro I023 av m2 ⟨Parts4,x8,p34,c33,cs12,p35,c34,heq6,le24,h58,h59,rfl,rfl⟩;subst o05;have H:=H.trans le24;exact yQ<|zT ⟨_,_,_,_,_,_,_,(zE hMc5).symm,H,h58,h59,rfl,rfl⟩
     rintro I017 av m2 ⟨Parts2,x4,p20,c19,cs9,p21,c20,heq7,le25,h40,h41,rfl,rfl⟩;subst o03;have ⟨h3,H⟩:=m2 le25 h3 H;exact yQ<|zT ⟨_,_,_,_,_,_,_,_,_,_,_,(zE hMc3).symm,H,h3,h40,h41,rfl,rfl⟩
   rintro bW av m2 ⟨ai,bh,x1,aS,aW,bC,p14,bc,cs6,p15,c14,heq8,le26,h26,h27,h28,rfl,rfl⟩;subst aL;have H:=H.trans le26;exact yQ<|zT ⟨_,_,_,_,_,_,_,_,_,_,_,(zE hMc1).symm,H,h26,h27,h28,rfl,rfl⟩
 rintro bv av m2 ⟨Arrays,Parts,x,p7,c6,aU,p8,c7,aO,p9,c8,aY,le27,h8,h9,h10,rfl,rfl⟩;subst o0;refine zP<|yT<|vU 1 [1] [(110,vA [vS p7 Arrays c6,vS p8 Parts c7])]<|yS 4 [vS p7 Arrays c6,vS p8 Parts c7] rfl<|zU rfl<|xL<|xA 2 rfl ?_;intro I028 le28 hl010;have h71:=SL.of_frozen hl010 le28 h8;have ⟨h10,h9⟩:=m2 le28 h10 h9;refine xA 2 rfl ?_;intro I029 le29 hl011;have h72:=SL.of_frozen hl011 le29 h9;have ⟨h10,h71⟩:=m2 le29 h10 h71;exact xO aT (resC 2 rfl rfl) (zW [0] rfl (by decide)) ⟨_,_,rfl,rfl,⟨_,rfl,(wO ⟨_,_,rfl,h71,h72⟩)⟩,(yY ⟨_,rfl,h10⟩)⟩
theorem zFG (p:zH):∀ (i1:Int) (Parts:List zL) (o:List zL),uK p i1 Parts=some o->∀ {B}{I0 I:Imm}{Q}{ai:List zD}{p1 c p2 c1}{b b1 b2}{p4 c3 aw p9 c8 bw}{aj:List Raw2}{pN pB:Option Addr}{cN cB:Nat}{nl:List zF}{bl:List zG}{csB:List Value},I0.le I->(RL I aw ai)->(S4 I p1 p.Arrays c)->(S4 I p2 p.Parts c1)->(RL I bw aj)->LP I aj Parts (vS pN nl cN) nl (vS pB bl cB) bl->SL I (vS pN nl cN) nl->RL I csB bl->(∀ l a w,¬Q (.goto l) a w)->(∀ a w,¬Q .outgrown a w)->(∀ (I':Imm) (aM:Option Addr) (c9:Nat) (bC:List Value) (raws1:List Raw2) (pN pB:Option Addr) (cN cB:Nat) (nl:List zF) (bl:List zG) (csB:List Value),I0.le I'->(RL I' bC raws1)->LP I' raws1 o (vS pN nl cN) nl (vS pB bl cB) bl->SL I' (vS pN nl cN) nl->RL I' csB bl->T 84 B Q (.exit 2) I' [hO zG (vS pB bl cB) csB,hO Raw2 (vS aM raws1 c9) bC,hO zD (vS p4 ai c3) aw,hB b2 [vS p4 ai c3,vS aM raws1 c9],hB b1 zTwo] [(2,vP b1 0),(3,vP b2 0)])->J Tryz.prog 84 B (nav (bodyOf f34) [1,1,1,0,1,0]) Q I [hO zG (vS pB bl cB) csB,hO Raw2 (vS p9 aj c8) bw,hO zD (vS p4 ai c3) aw,hB b2 [vS p4 ai c3,vS p9 aj c8],hB b1 zTwo,hB b (cProg p p1 c p2 c1)] [(1,vP b 0),(2,vP b1 0),(3,vP b2 0),(5,vI i1)]:=by
 refine uK.partial_correctness p _ fun aJ ih i1 Parts o N B I0 I Q ai p1 c p2 c1 b b1 b2 p4 c3 aw p9 c8 bw aj pN pB cN cB nl bl csB H h4 h h1 hRw hLP hN hBd hg ho hx=>yZ hg ho<|yC<|yA<|yL [5] [40] rfl<|zK<|yE N ?_ ?_
 · intro aH N;refine oJ 0 rfl ?_;intro immf lef hlf;have kB:=SL.of_frozen hlf lef hBd;have ⟨h4,h,h1,hN,hRw,hLP⟩:=m6 lef h4 h h1 hN hRw hLP;have H:=H.trans lef;have h14:=hLP.done hN kB;rw [<- gI hRw] at h14;have eP:vS p9 aj c8=vS p9 Parts c8:=by simp only [vS,hLP.2.1]
   rw [eP];clear hBd hlf;refine zS<|zZ<|yH<|yA<|yD 3 [4] [44,45] rfl<|bE N fun x2 bt N=>wA rfl rfl h1 bt ?_;intro ad3 ccs4 hat3 bu;obtain ⟨aI,aP,bm,aQ,rfl,h16,h17⟩:=wX bu;refine yD 5 [] [47] rfl<|xP 0 hat3 [vS aI x2.Nest aP] (vS aI x2.Nest aP) rfl<|bE N fun y bD N=>xJ (zBb x2.Nest _ bD h16) ?_;rintro bH av v2 k2 aX - ⟨v04,rfl,rfl,h18⟩ -;have ⟨h14,hRw,hLP,hN⟩:=m4 aX h14 hRw hLP hN;replace kB:=kB.mono aX;have ⟨h4,h,h1,H⟩:=m4 aX h4 h h1 H;obtain ⟨aS,aW,rfl⟩:=h18.form;refine yD 8 [] [50] rfl<|xU zTwo ?_;intro b5 hb5;refine yS 0 [vS aS y aW,z0] rfl<|zU rfl<|zZ<|yI [7] rfl<|wQ<|pM [(1,vP b 0),(2,vP b1 0),(3,vP b2 0),(5,vI i1),(6,vP b5 0),(7,vI 0)]<|zAP zG fun h19=>?_;obtain ⟨aL,aC,hMl1⟩:=zB N;refine zAi p i1 0 ([]:List zG) aL aC iR h18 h14 h4 h h1 h19 (fun _ _ _ h=>hg _ _ _ h) (fun _ _ h=>ho _ _ h) ?_;intro bL bb p15 c14 cs7 heq1 le10 h21;subst aL;have ⟨h18,hRw,hLP,hN⟩:=m4 le10 h18 hRw hLP hN;replace kB:=kB.mono le10;have ⟨h4,h,h1,H⟩:=m4 le10 h4 h h1 H;obtain ⟨l3,hy11,N⟩:=zB hMl1;have hy12:=zFd (l':=aj) (m':=[(⟨vS aS y aW,vS p15 bb c14⟩:Raw2)]) hy11 hLP.2.1 rfl;have h40:RL bL [vS aS y aW,vS p15 bb c14] [(⟨vS aS y aW,vS p15 bb c14⟩:Raw2)]:=⟨[vS aS y aW,vS p15 bb c14],[],rfl,rfl,⟨rfl,rfl,rfl⟩,rfl⟩;refine zR<|zK<|zM<|vU 3 [4,1] [(78,vS p9 Parts c8),(79,vA [vS aS y aW,vS p15 bb c14])]<|tK [vS aS y aW,vS p15 bb c14] Raw2 ?_;intro b7 hb7;refine qA (α:=Raw2) 85 2 3 rfl rfl rfl hRw (.inr ⟨0,rfl⟩) h40 hy12 ?_;intro p29 c28 cs11 h41;exact tU (zY [1,3,4,5,6,7] (ah:=[hO zG (vS p15 bb c14) cs7,hO Raw2 (vS p29 (aj++[(⟨vS aS y aW,vS p15 bb c14⟩:Raw2)]) c28) cs11,hO zD (vS p4 ai c3) aw,hB b2 [vS p4 ai c3,vS p9 Parts c8],hB b1 zTwo,hB b (cProg p p1 c p2 c1)]))<|yD 6 [] [82] rfl<|yS 3 [vS p4 ai c3,vS p29 (aj++[(⟨vS aS y aW,vS p15 bb c14⟩:Raw2)]) c28] rfl<|zU rfl<|zP<|zK<|zM<|yL [] [5] rfl<|yX<|mC<|ih (W (i1+1)) l3 _ N H h4 h h1 h41 (hLP.push hN kB hy11) h18 h21 hg ho hx
 intro aH N;have:=zE N;simp only [id] at this;subst this;exact vC<|wH (zW [0,1,2,3,4] rfl (by decide))<|yQ<|hx _ _ _ _ _ _ _ _ _ _ _ _ H hRw hLP hN hBd
def zFp (r:zH):KT:=fun kk I' ah v=>
  ∃ (a0:Option Addr) (c0:Nat) (s0:List Value) (a1:Option Addr) (c1:Nat) (s1:List Value) (aj:List Raw2) (pN pB:Option Addr) (cN cB:Nat) (nl:List zF) (bl:List zG) (csB:List Value),ah=[hO zG (vS pB bl cB) csB,hO Raw2 (vS a1 aj c1) s1,hO zD (vS a0 r.Arrays c0) s0]/\v=tupV [vA [vS a0 r.Arrays c0,vS a1 aj c1]]/\RL I' s0 r.Arrays/\RL I' s1 aj/\LP I' aj r.Parts (vS pN nl cN) nl (vS pB bl cB) bl/\SL I' (vS pN nl cN) nl/\RL I' csB bl
theorem zHU:∀ (p:zH) r,sM p=some r->∀ {I:Imm}{p1 c p2 c1},(S4 I p1 p.Arrays c)->(S4 I p2 p.Parts c1)->RT 34 [vA (cProg p p1 c p2 c1)] I [] (zFp r):=by
 intro p r N I p1 c p2 c1 h h1;unfold sM at N;refine yJ func34 fun B=>yA<|vD (cProg p p1 c p2 c1) ?_;intro b hb;refine xU zTwo ?_;intro b1 hb1;refine zU rfl<|yT<|yD 1 [] [8] rfl<|xU zTwo ?_;intro b2 hb2;refine eK 0 zTwo [hB b2 zTwo,hB b1 zTwo,hB b (cProg p p1 c p2 c1)] rfl rfl rfl rfl<|zU rfl<|zZ<|yI [4] rfl<|wQ<|pM [(1,vP b 0),(2,vP b1 0),(3,vP b2 0),(4,vI 0)]<|zAP zD fun h2=>?_;obtain ⟨o0,az,aG⟩:=zB N;refine zAh p 0 ([]:List zD) o0 az iR h h1 h2 nG nO ?_;intro bv ai p4 c3 aw heq aF h4;subst o0;have ⟨h,h1⟩:=m2 aF h h1;refine zR<|zZ<|yI [5] rfl<|wQ<|pM [(1,vP b 0),(2,vP b1 0),(3,vP b2 0),(5,vI 0)]<|qY (fS (Rp.sz Raw2))<|qY (fS (Rp.sz zG)) ?_;obtain ⟨o02,ho02,hMl2⟩:=zB aG;refine zFG p 0 ([]:List zL) o02 ho02 (aj:=[]) (pN:=none) (pB:=none) (cN:=0) (cB:=0) (nl:=[]) (bl:=[]) iR h4 h h1 RepL.nil LP.nil (SL.nil _) RepL.nil nG nO ?_;intro bS aM c9 bC raws1 pN pB cN cB nl bl csB le12 hRw hLP hN hBd;have h4:=iM le12 h4;obtain rfl:=zE hMl2;exact zR<|yT<|vU 1 [3] [(83,vA [vS p4 ai c3,vS aM raws1 c9])]<|yS 4 [vS p4 ai c3,vS aM raws1 c9] rfl<|zU rfl<|xL<|zHO (resC 4 rfl rfl) (zW [0,1,2] rfl (by decide)) ⟨_,_,_,_,_,_,_,_,_,_,_,_,_,_,rfl,rfl,h4,hRw,hLP,hN,hBd⟩
theorem zMw {aj:List Raw2}{k}{r:Raw2} (h:aj[k]?=some r):aj.set k r=aj:=by
  obtain ⟨hk,e⟩:=ci.1 h;subst e;exact List.set_getElem_self hk
theorem zFq (r0:zO) (p1:zH) (r:zH×zO) (N:nX r0 p1=some r) {y:zH}{y3:zO}{x:zL}{s:zG} (hy:sM p1=some y) (ax:xG r0 60=some (3,y3)) (hx:idx y.Parts (W ((y.Parts.length:Int) - 1))=some x) (hs:idx x.Body 0=some s) :
    ∀ {I:Imm}{ar}{p c p2 c1 p3 c2},(S4 I p r0.b c)->(S4 I p2 p1.Arrays c1)->(S4 I p3 p1.Parts c2)->RT 49 [vP ar 0,vA (cProg p1 p2 c1 p3 c2)] I [hB ar (cRd r0 p c)] (zA8 ar r):=by
 intro I ar p c p2 c1' p3 c2 h h1 h2
 obtain ⟨i0,i1,i2⟩:=sS hx
 obtain ⟨j0,j1,j2⟩:=sS hs
 have hn:(y.Parts.length:Int)>0:=by
   have:=(ci.1 i2).1; omega
 have hb:(x.Body.length:Int)>0:=by
   have:=(ci.1 j2).1; omega
 have e0:((3:Int)==0)=false:=rfl
 have e1:((3:Int)==1)=false:=rfl
 have e2:((3:Int)==2)=false:=rfl
 have e3:((3:Int)==3)=true:=rfl
 unfold nX at N
 simp only [hy,ax,e0,e1,e2,e3,hn,hb,hx,hs,decide_true,if_true,db,if_false,Option.pure_def,Option.bind_eq_bind,Option.bind_some] at N
 cases hm1:qL y3 s with
 | none=>rw [hm1] at N; cases N
 | some q1 =>
 obtain ⟨y22,y23⟩:=q1
 simp only [hm1,Option.bind_some] at N
 cases hm2:qL y23 y22 with
 | none=>rw [hm2] at N; cases N
 | some q2 =>
 obtain ⟨y24,y25⟩:=q2
 simp only [hm2,Option.bind_some] at N
 cases hm3:qL y25 y24 with
 | none=>rw [hm3] at N; cases N
 | some q3 =>
 obtain ⟨y26,y27⟩:=q3
 simp only [hm3,Option.bind_some,Option.some.injEq] at N
 subst N
 refine yJ func49 fun B=>yA<|vD [vS p2 p1.Arrays c1',vS p3 p1.Parts c2] ?_
 intro b hb
 refine xU zTwo ?_
 intro b1 hb1
 refine zU rfl<|yT<|vU 1 [1] [(7,vA [vS p2 p1.Arrays c1',vS p3 p1.Parts c2])]<|xJ (zHU p1 _ hy h1 h2) ?_
 rintro I0 av v2 k2 le - ⟨a0,c0,s0,a1,c1,s1,aj,pN,pB,cN,cB,nl,bl,csB,rfl,rfl,h3,hRw,hLP,hN,hBd⟩ -
 have h:=h.mono le
 clear h1 h2
 rw [hLP.len] at hx hn i0 i1 i2
 obtain ⟨rfl,hraw,hset⟩:=hLP.last hx
 simp only at hs hb j0 j1 j2 hm1
 have hset:=hset (vS pN nl cN) nl (vS pB bl cB) (bl.set 0 y26)
 rw [zMw (sS hraw).2.2] at hset
 refine xU zTwo ?_
 intro b2 hb2
 refine yS 0 [vS a0 y.Arrays c0,vS a1 aj c1] rfl<|zU rfl<|yT<|yL [0] [6] rfl<|zZ<|yA<|yD 1 [] [12] rfl<|tU (zY [6,1,2,0,3,4] (ah:=[hB ar (cRd r0 p c),hO zG (vS pB bl cB) csB,hO Raw2 (vS a1 aj c1) s1,hB b2 [vS a0 y.Arrays c0,vS a1 aj c1],hO zD (vS a0 y.Arrays c0) s0,hB b1 zTwo]))<|rC (xZ r0 60 _ ax h) rfl ?_
 rintro aR av v2 k2 ae - ⟨v0,kk,rfl,rfl,rfl,h6⟩ -
 obtain ⟨v01,rfl,h7⟩:=zA5 h6
 obtain ⟨p6,c5,rfl⟩:=h7.form
 clear h6 h
 have h3:=iM ae h3
 have hRw:=iM ae hRw
 have hN:=hN.mono ae
 have hBd:=iM ae hBd
 have hset:=hset.mono ae
 refine zU rfl<|wQ<|yI [14] rfl<|zK<|zBV rfl<|yI [29] rfl<|zK<|zBV rfl<|yI [43] rfl<|zK<|zBV rfl<|yI [62] rfl<|zK<|zDb rfl<|yA<|yD 3 [] [66] rfl ?_
 rw [decide_eq_true hn]
 refine yD 7 [3] [68,70] rfl<|jH (α:=Raw2) 2 rfl rfl rfl hRw hraw ?_
 intro ad aK ap bJ al
 obtain ⟨rfl,o1,o2⟩:=al
 refine yD 9 [] [72] rfl<|zEV 2 1 ap bJ [vS pB bl cB] (vS pB bl cB) rfl rfl<|yL [] [76] rfl ?_
 rw [decide_eq_true hb]
 refine zK<|zDb rfl<|pM [(0,vP ar 0),(4,vP b1 0),(5,vP b2 0),(6,vI (aj.length:Int))]<|wV [.p (vP b2 1) [],.p (vS a1 aj c1) [2],.p (vI (aj.length:Int)) [],.p (vI (W ((aj.length:Int) - 1))) [],.x (fun I' v hx'=>∃ ad,v=.pointer (some ad)/\hx'=[]/\AtO (vS a1 aj c1) 2 (W ((aj.length:Int) - 1)).toNat ad),.x (fun I' v hx'=>∃ ad,v=.pointer (some (ad.add 1))/\hx'=[]/\AtO (vS a1 aj c1) 2 (W ((aj.length:Int) - 1)).toNat ad),.x (fun I' v hx'=>v=vS pB bl cB/\hx'=[]),.p (vP ar 0) [],.p (vP ar 0) [],.p (vP ar 0) [],.p (vP b2 1) [],.p (vS a1 aj c1) [2],.p (vI (aj.length:Int)) [],.p (vI (W ((aj.length:Int) - 1))) [],.x (fun I' v hx'=>∃ ad,v=.pointer (some ad)/\hx'=[]/\AtO (vS a1 aj c1) 2 (W ((aj.length:Int) - 1)).toNat ad),.x (fun I' v hx'=>∃ ad,v=.pointer (some (ad.add 1))/\hx'=[]/\AtO (vS a1 aj c1) 2 (W ((aj.length:Int) - 1)).toNat ad),.x (fun I' v hx'=>v=vS pB bl cB/\hx'=[]),.x (fun I' v hx'=>∃ ad,v=.pointer (some ad)/\hx'=[]/\AtO (vS pB bl cB) 9 0 ad),.x (fun I' v hx'=>∃ cs9,v=.agg ⟨cs9⟩/\hx'=[]/\Rp.rep I' cs9 s),.x (fun I' v hx'=>∃ (cs9 kk:List Value),v=.agg ⟨cs9⟩/\hx'=[hB ar kk]/\Rp.rep I' cs9 y22/\Rp.rep I' kk y23),.x (fun I' v hx'=>∃ (cs9 kk:List Value),v=.agg ⟨cs9⟩/\hx'=[hB ar kk]/\Rp.rep I' cs9 y24/\Rp.rep I' kk y25),.x (fun I' v hx'=>∃ (cs9 kk:List Value),v=.agg ⟨cs9⟩/\hx'=[hB ar kk]/\Rp.rep I' cs9 y26/\Rp.rep I' kk y27)] [[],[(0,false)],[],[(2,false)],[(1,false),(3,false)],[(4,false)],[(5,false)],[],[],[],[],[(10,false)],[],[(12,false)],[(11,false),(13,false)],[(14,false)],[(15,false)],[(16,false)],[(17,false)],[(9,false),(18,false),(24,true)],[(8,false),(19,true)],[(7,false),(20,true)]] [hO zG (vS pB bl cB) csB,hO Raw2 (vS a1 aj c1) s1,hB b2 [vS a0 y.Arrays c0,vS a1 aj c1],hO zD (vS a0 y.Arrays c0) s0,hB b1 zTwo] [[hB ar (cRd y3 p6 c5)]] [(6,false),(21,true)] (zY [1,2,3,4,5,0]) ?_ ?_
 · refine O4<|Ox ?_<|Ox ?_<|Ox ?_<|O4<|O3<|Ox ?_<|Ox ?_<|Ox ?_<|Ox ?_<|Ox ?_<|Ox ?_<|Ox ?_<|Ox ?_<|On
   · intro I1 hf ae
     refine wY ?_
     rintro _ _ ⟨rfl,rfl⟩
     refine wY ?_
     rintro _ _ ⟨rfl,rfl⟩
     refine qC<|zAo [(78,vS a1 aj c1),(80,vI (W ((aj.length:Int) - 1)))]<|jH (α:=Raw2) 1 rfl rfl rfl (iM ae hRw) hraw ?_
     intro ad aK ap bJ al
     exact yM [] iR ⟨_,rfl,rfl,ap⟩
   · intro I1 hf ae
     refine wY ?_
     rintro _ _ ⟨ad,rfl,rfl,ap⟩
     exact qC<|zAo [(81,.pointer (some ad))]<|mD 6 [(82,.pointer (some (ad.add 1)))]<|yM [] iR ⟨_,rfl,rfl,ap⟩
   · intro I1 hf ae
     refine wY ?_
     rintro _ _ ⟨ad,rfl,rfl,ap⟩
     refine qC<|zAo [(82,.pointer (some (ad.add 1)))] ?_
     have al:=hRw.at (sS hraw).2.2
     obtain ⟨⟨bJ,o1,o2⟩,_⟩:=al
     exact zEV 1 1 ap bJ [vS pB bl cB] (vS pB bl cB) rfl rfl<|xY iR
   · intro I1 hf ae
     refine wY ?_
     rintro _ _ ⟨rfl,rfl⟩
     refine wY ?_
     rintro _ _ ⟨rfl,rfl⟩
     refine qC<|zAo [(88,vS a1 aj c1),(90,vI (W ((aj.length:Int) - 1)))]<|jH (α:=Raw2) 1 rfl rfl rfl (iM ae hRw) hraw ?_
     intro ad aK ap bJ al
     exact yM [] iR ⟨_,rfl,rfl,ap⟩
   · intro I1 hf ae
     refine wY ?_
     rintro _ _ ⟨ad,rfl,rfl,ap⟩
     exact qC<|zAo [(91,.pointer (some ad))]<|mD 16 [(92,.pointer (some (ad.add 1)))]<|yM [] iR ⟨_,rfl,rfl,ap⟩
   · intro I1 hf ae
     refine wY ?_
     rintro _ _ ⟨ad,rfl,rfl,ap⟩
     refine qC<|zAo [(92,.pointer (some (ad.add 1)))] ?_
     have al:=hRw.at (sS hraw).2.2
     obtain ⟨⟨bJ,o1,o2⟩,_⟩:=al
     exact zEV 1 1 ap bJ [vS pB bl cB] (vS pB bl cB) rfl rfl<|xY iR
   · intro I1 hf ae
     refine wY ?_
     rintro _ _ ⟨rfl,rfl⟩
     refine qC<|zAo [(93,vS pB bl cB)]<|jH (α:=zG) 0 rfl rfl rfl (iM ae hBd) hs ?_
     intro ad aK ap bJ al
     exact yM [] iR ⟨_,rfl,rfl,ap⟩
   · intro I1 hf ae
     refine wY ?_
     rintro _ _ ⟨ad,rfl,rfl,ap⟩
     refine qC<|zAo [(94,.pointer (some ad))] ?_
     obtain ⟨al,_⟩:=(iM ae hBd).at j2
     generalize bJ:(csB.drop (Int.toNat 0*Rp.sz zG)).take (Rp.sz zG)=cc at al
     obtain ⟨w0,w1,w2,w3,rfl,e10,e11,e12,e13⟩:=kJ al
     obtain ⟨aM,aP,rfl⟩:=e10.form
     obtain ⟨aI,aQ,rfl⟩:=e11.form
     obtain ⟨bm,aW,rfl⟩:=e12.form
     obtain ⟨aS,bc,rfl⟩:=e13.form
     exact zEV 0 0 ap bJ (cStmt s aM aP aI aQ bm aW aS bc) (vA (cStmt s aM aP aI aQ bm aW aS bc)) rfl rfl<|yM [] iR ⟨_,rfl,rfl,xV ⟨_,_,_,_,rfl,e10,e11,e12,e13⟩⟩
   · intro I1 hf ae
     refine wY ?_
     rintro _ _ ⟨rfl,rfl⟩
     refine wY ?_
     rintro _ _ ⟨cs9,rfl,rfl,h9⟩
     refine wY ?_
     rintro _ _ rfl
     obtain ⟨w0,w1,w2,w3,rfl,e10,e11,e12,e13⟩:=kJ h9
     obtain ⟨aM,aP,rfl⟩:=e10.form
     obtain ⟨aI,aQ,rfl⟩:=e11.form
     obtain ⟨bm,aW,rfl⟩:=e12.form
     obtain ⟨aS,bc,rfl⟩:=e13.form
     refine qC<|zAo [(86,vP ar 0),(95,vA (cStmt s aM aP aI aQ bm aW aS bc))]<|rC (zAw y3 s _ hm1 (h7.mono ae) e10 e11 e12 e13) rfl ?_
     rintro aV av v2 k2 aB - ⟨v0,kk2,rfl,rfl,⟨aU,rfl,h10⟩,h11⟩ -
     exact yM [hB ar kk2] aB ⟨_,_,rfl,rfl,h10,h11⟩
   · intro I1 hf ae
     refine wY ?_
     rintro _ _ ⟨rfl,rfl⟩
     refine wY ?_
     rintro _ _ ⟨cs9,kk,rfl,rfl,h9,hk⟩
     obtain ⟨w0,w1,w2,w3,rfl,e10,e11,e12,e13⟩:=kJ h9
     obtain ⟨aM,aP,rfl⟩:=e10.form
     obtain ⟨aI,aQ,rfl⟩:=e11.form
     obtain ⟨bm,aW,rfl⟩:=e12.form
     obtain ⟨aS,bc,rfl⟩:=e13.form
     obtain ⟨w4,rfl,hsl⟩:=zA5 hk
     obtain ⟨p8,c8,rfl⟩:=hsl.form
     refine qC<|zAo [(85,vP ar 0),(96,vA (cStmt y22 aM aP aI aQ bm aW aS bc))]<|rC (zAw y23 y22 _ hm2 (hsl) e10 e11 e12 e13) rfl ?_
     rintro aV av v2 k2 aB - ⟨v0,kk2,rfl,rfl,⟨aU,rfl,h10⟩,h11⟩ -
     exact yM [hB ar kk2] aB ⟨_,_,rfl,rfl,h10,h11⟩
   intro I1 hf ae
   refine wY ?_
   rintro _ _ ⟨rfl,rfl⟩
   refine wY ?_
   rintro _ _ ⟨cs9,kk,rfl,rfl,h9,hk⟩
   obtain ⟨w0,w1,w2,w3,rfl,e10,e11,e12,e13⟩:=kJ h9
   obtain ⟨aM,aP,rfl⟩:=e10.form
   obtain ⟨aI,aQ,rfl⟩:=e11.form
   obtain ⟨bm,aW,rfl⟩:=e12.form
   obtain ⟨aS,bc,rfl⟩:=e13.form
   obtain ⟨w4,rfl,hsl⟩:=zA5 hk
   obtain ⟨p8,c8,rfl⟩:=hsl.form
   refine qC<|zAo [(84,vP ar 0),(97,vA (cStmt y24 aM aP aI aQ bm aW aS bc))]<|rC (zAw y25 y24 _ hm3 (hsl) e10 e11 e12 e13) rfl ?_
   rintro aV av v2 k2 aB - ⟨v0,kk2,rfl,rfl,⟨aU,rfl,h10⟩,h11⟩ -
   exact yM [hB ar kk2] aB ⟨_,_,rfl,rfl,h10,h11⟩
 intro I5 bi
 refine wY ?_
 rintro _ _ ⟨rfl,rfl⟩
 refine wY ?_
 rintro _ _ ⟨cs9,kk,rfl,rfl,h9,hk⟩
 obtain ⟨w0,w1,w2,w3,rfl,e10,e11,e12,e13⟩:=kJ h9
 obtain ⟨aM,aP,rfl⟩:=e10.form
 obtain ⟨aI,aQ,rfl⟩:=e11.form
 obtain ⟨bm,aW,rfl⟩:=e12.form
 obtain ⟨aS,bc,rfl⟩:=e13.form
 have h3:=iM bi h3
 have hRw:=iM bi hRw
 have hN:=hN.mono bi
 have hBd:=iM bi hBd
 have hset:=hset.mono bi
 refine qC<|zAo [(4,vP b1 0),(5,vP b2 0),(83,vS pB bl cB),(98,vA (cStmt y26 aM aP aI aQ bm aW aS bc))]<|jH (α:=zG) 1 rfl rfl rfl hBd hs ?_
 intro ad aK ap bJ al
 obtain ⟨w0,w1,w2,w3,rfl,e20,e21,e22,e23⟩:=kJ al
 obtain ⟨p20,c20,rfl⟩:=e20.form
 obtain ⟨p21,c21,rfl⟩:=e21.form
 obtain ⟨p22,c22,rfl⟩:=e22.form
 obtain ⟨p23,c23,rfl⟩:=e23.form
 refine kS (c:=(cStmt y26 aM aP aI aQ bm aW aS bc)) (x':=y26) 1 0 rfl rfl rfl ap rfl rfl bJ (by kernel_rfl) (by kernel_rfl) (by kernel_rfl) hBd hs (by kernel_rfl) (xV ⟨_,_,_,_,rfl,e10,e11,e12,e13⟩) ?_
 intro cs7 h7' br
 refine vQ (ah:=[hB ar kk,hO zG (vS pB bl cB) cs7,hO Raw2 (vS a1 aj c1) s1,hB b2 [vS a0 y.Arrays c0,vS a1 aj c1],hO zD (vS a0 y.Arrays c0) s0,hB b1 zTwo]) rfl<|wC 1 rfl ?_
 intro I6 bB hl6
 have eB:vS pB bl cB=vS pB (bl.set 0 y26) cB:=by simp [vS]
 have kB:SL I6 (vS pB (bl.set 0 y26) cB) (bl.set 0 y26):=by
   rw [<- eB]
   exact SL.of_frozen (l:=bl.set 0 y26) hl6 bB h7'
 rw [eB] at hset
 have hdone:=(hset.mono bB).done (hN.mono bB) kB
 have eS:=gI hRw
 rw [<- eS] at hdone
 have h3:=iM bB h3
 have hk:=Rp.mono bB hk
 have eP:vS a1 aj c1=vS a1 (y.Parts.set (W ((aj.length:Int) - 1)).toNat ⟨nl,bl.set 0 y26⟩) c1:=by simp only [vS,cR,hLP.2.1]
 refine vQ (ah:=[hB ar kk,hO Raw2 (vS a1 aj c1) s1,hB b2 [vS a0 y.Arrays c0,vS a1 aj c1],hO zD (vS a0 y.Arrays c0) s0,hB b1 zTwo]) rfl<|zU rfl<|zP<|yT<|vU 1 [2] [(110,vA [vS a0 y.Arrays c0,vS a1 aj c1])]<|yS 4 [vS a0 y.Arrays c0,vS a1 aj c1] rfl<|zU rfl<|xL<|xA 1 rfl ?_
 intro I7 le7 hl7
 have k1:SL I7 (vS a1 aj c1) (y.Parts.set (W ((aj.length:Int) - 1)).toNat ⟨nl,bl.set 0 y26⟩):=SL.of_frozen (l:=y.Parts.set (W ((aj.length:Int) - 1)).toNat ⟨nl,bl.set 0 y26⟩) hl7 le7 hdone
 refine xA 2 rfl ?_
 intro I8 le8 hl8
 have k2:=SL.of_frozen hl8 le8 (iM le7 h3)
 rw [hLP.len]
 exact zHO (resC 2 rfl rfl) (zW [0] rfl (by decide)) ⟨_,_,rfl,rfl,⟨_,rfl,(wO ⟨_,_,rfl,k2,k1.mono le8⟩)⟩,Rp.mono le8 (Rp.mono le7 hk)⟩
theorem zGk:∀ r0 p1 r,nX r0 p1=some r->∀ {I:Imm}{ar}{p c p2 c1 p3 c2},(S4 I p r0.b c)->(S4 I p2 p1.Arrays c1)->(S4 I p3 p1.Parts c2)->RT 49 [vP ar 0,vA (cProg p1 p2 c1 p3 c2)] I [hB ar (cRd r0 p c)] (zA8 ar r):=by
 intro r0 p1 r N I ar p c p2 c1 p3 c2 h h1 h2;by_cases hq:∃ y y3 x s,sM p1=some y/\xG r0 60=some (3,y3)/\idx y.Parts (W ((y.Parts.length:Int) - 1))=some x/\idx x.Body 0=some s
 · obtain ⟨y,y3,x,s,e1,e2,e3,e4⟩:=hq;exact zFq r0 p1 r N e1 e2 e3 e4 h h1 h2
 refine zFo r0 p1 r N h h1 h2 ?_;intro y y2 y3 x s e1 e2 e3 e4 e5;obtain rfl:=eq_of_beq e3;exact hq ⟨y,y3,x,s,e1,e2,e4,e5⟩
def uO (x:zD) (k0:Int):Option (Out Unit (Bool)):=do
 if (decide (k0<(x.Dims.length:Int))) then
  let t77<-(do
    let x2<-idx x.Dims k0;if (decide (x2<1)) then pure true
    else
     let x3<-idx x.Dims k0;pure (decide (x3>6))
      : Option Bool)
  if t77 then pure (.ret false)
  else uO x (W (k0+1))
 else pure (.done ())
 partial_fixpoint
theorem zE3 (x:zD):∀ (k0:Int) (o:Out Unit (Bool)),uO x k0=some o->∀ {B}{I0 I:Imm}{Q}{list:(List zD)}{i:Int}{p c p1 c1}{b},I0.le I->(S4 I p list c)->(S4 I p1 x.Dims c1)->NG Q->NO Q->(∀ I',o=(.done ())->I0.le I'->T 81 B Q (.exit 2) I' [] [(0,vS p list c),(3,vI i)])->(∀ r I' ah m',o=(.ret r)->I0.le I'->RS Tryz.prog f68 B (zQ  r) I' ah m'->T 81 B Q .ret I' ah m')->J Tryz.prog 81 B (nav (bodyOf f68) [1,0,1,0,0,1,0,0,1,1,1,0]) Q I [hB b (cArr x p1 c1)] [(0,vS p list c),(3,vI i),(4,vP b 0),(5,vI k0)]:=by
 refine uO.partial_correctness x _ fun aJ ih k0 o N B I0 I Q list i p c p1 c1 b H h h1 hg ho hx hr=>yZ hg ho<|yC<|yA<|yL [0] [61] rfl<|zK<|yE N ?_ ?_
 · intro hc9 N;refine zS<|zZ<|yH<|yC ?_;refine wU N [hB b (cArr x p1 c1)] (fun t77=>[(0,vS p list c),(3,vI i),(4,vP b 0),(5,vI k0),(77,.bool t77)]) (fun aL aC=>?_) ?_
   · have H:=iS I;refine zM<|yD 3 [0] [65,66] rfl ?_;obtain ⟨x2,aE,N⟩:=zB aC;refine wA rfl rfl h1 aE ?_;intro ad2 bR bq bu;obtain rfl:=bu;refine xP 0 bq [vI x2] (vI x2) rfl<|yD 7 [] [70] rfl<|wD [70] N ?_ ?_
     · intro hc10 N;exact wT [] [(77,vY)]<|yQ<|zT (ct N H)
     intro hc10 N;refine yD 10 [0] [72,73] rfl<|bE N fun x3 bj N=>wA rfl rfl h1 bj ?_;intro ad3 ccs3 hat3 bI;obtain rfl:=bI;exact xP 0 hat3 [vI x3] (vI x3) rfl<|yL [] [77] rfl<|yQ<|zT (ct N H)
   intro t77 aR ae hMc1;have ⟨h,h1,H⟩:=m3 ae h h1 H;refine zK<|yE hMc1 ?_ ?_
   · intro hc11 N;exact vK [(2,vF)]<|xL<|zV<|zI<|zI<|hr _ _ _ _ (zE N).symm H ⟨_,_,(resT rfl),zN,⟨_,rfl,rfl,rfl⟩⟩
   intro hc11 N;exact zS<|zP<|zK<|zM<|yL [] [5] rfl<|yX<|mC<|ih (W (k0+1)) _ N H h h1 hg ho hx hr
 intro hc9 N;exact vC<|wH zN<|yQ<|hx _  (zE N).symm H
def tM (list:(List zD)) (i:Int):Option (Out Unit (Bool)):=do
 if (decide (i<(list.length:Int))) then
  let x<-idx list i;let t56<-(do
    if ((x.Name.l.length:Int) != 1) then pure true
    else
     if (Op.bytesLess x.Name.l ([65]:List UInt8)) then pure true
     else
      if (!(Op.bytesLess x.Name.l ([68]:List UInt8)||x.Name.l==([68]:List UInt8))) then pure true
      else
       if (decide (i>0)) then
        let x1<-idx list (W (i - 1));if (!(Op.bytesLess x1.Name.l x.Name.l)) then pure true
        else
         if (decide ((x.Dims.length:Int)<1)) then pure true
         else pure (decide ((x.Dims.length:Int)>2))
       else
        if (decide ((x.Dims.length:Int)<1)) then pure true
        else pure (decide ((x.Dims.length:Int)>2))
      : Option Bool)
  if t56 then pure (.ret false)
  else
   match<-uO x 0 with
   | .ret r0=>pure (.ret r0)
   | .done _ =>
    tM list (W (i+1))
 else pure (.done ())
 partial_fixpoint
theorem zE4 (list:(List zD)):∀ (i:Int) (o:Out Unit (Bool)),tM list i=some o->∀ {B}{I0 I:Imm}{Q p c},I0.le I->(S4 I p list c)->NG Q->NO Q->(∀ I',o=(.done ())->I0.le I'->T 81 B Q (.exit 0) I' [] [(0,vS p list c)])->(∀ r I' ah m',o=(.ret r)->I0.le I'->RS Tryz.prog f68 B (zQ  r) I' ah m'->T 81 B Q .ret I' ah m')->J Tryz.prog 81 B (nav (bodyOf f68) [1,0,1,0]) Q I [] [(0,vS p list c),(3,vI i)]:=by
 refine tM.partial_correctness list _ fun aJ ih i o N B I0 I Q p c H h hg ho hx hr=>yZ hg ho<|yC<|yI [9] rfl<|zK<|yE N ?_ ?_
 · intro hc N;refine zS<|zZ<|yH<|yA<|yD 2 [] [12,13] rfl<|bE N fun x hy N=>wA rfl rfl h hy ?_;intro ad aK ap al;obtain ⟨p1,c1,rfl,h1⟩:=wK al;refine xP 0 ap (cArr x p1 c1) (vA (cArr x p1 c1)) rfl<|xU [vT ([]),z0] ?_;intro b hb;refine yS 0 (cArr x p1 c1) rfl<|zU rfl<|zZ<|yC ?_;refine wU N [hB b (cArr x p1 c1)] (fun t56=>[(0,vS p list c),(3,vI i),(4,vP b 0),(56,.bool t56)]) (fun o0 az=>?_) ?_
   · have H:=iS I;refine dV (by kernel_rfl) (by kernel_rfl)<|zAp 5 [0] [20] rfl<|zIE [20] az ?_ ?_
     · intro aH N;exact zLN [] [(56,vY)]<|yQ<|zT (ct N H)
     intro aH N;refine zAp 10 [0] [25] rfl<|zIE [25] N ?_ ?_
     · intro bf N;exact zLN [] [(56,vY)]<|yQ<|zT (ct N H)
     intro bf N;refine zAp 15 [0] [30] rfl<|zIE [30] N ?_ ?_
     · intro bG N;exact zLN [] [(56,vY)]<|yQ<|zT (ct N H)
     intro bG N;refine zAp 18 [] [33] rfl<|zIE [33] N ?_ ?_
     · intro bN N;refine zAp 21 [] [34,36] rfl<|bE N fun x1 ax N=>zCY rfl rfl h ax ?_;intro ad1 bo ay aA;obtain ⟨p2,c2,rfl,h2⟩:=wK aA;refine zAp 23 [] [38] rfl<|zB3 0 ay [vT x1.Name.l] (vT x1.Name.l) rfl<|zAp 30 [0] [45] rfl<|zIE [45] N ?_ ?_
       · intro hc5 N;exact zLN [] [(56,vY)]<|yQ<|zT (ct N H)
       intro hc5 N;refine zAp 36 [0] [51] rfl<|zIE [51] N ?_ ?_
       · intro hc6 N;exact zLN [] [(56,vY)]<|yQ<|zT (ct N H)
       intro hc6 N;exact zJk [0] [56] rfl<|yQ<|zT (ct N H)
     intro bN N;refine zAp 36 [0] [51] rfl<|zIE [51] N ?_ ?_
     · intro hc7 N;exact zLN [] [(56,vY)]<|yQ<|zT (ct N H)
     intro hc7 N;exact zJk [0] [56] rfl<|yQ<|zT (ct N H)
   intro t56 I0 le aT;have ⟨h,h1,H⟩:=m3 le h h1 H;refine zK<|yE aT ?_ ?_
   · intro hc8 N;exact vK [(2,vF)]<|xL<|zI<|zV<|zI<|zI<|hr _ _ _ _ (zE N).symm H ⟨_,_,(resT rfl),zN,⟨_,rfl,rfl,rfl⟩⟩
   intro hc8 N;refine zS<|uJ [5] rfl<|wQ<|pM [(0,vS p list c),(3,vI i),(4,vP b 0),(5,vI 0)] ?_;obtain ⟨o02,ho02,aG⟩:=zB N;refine zE3 x 0 o02 ho02 iR h h1 (fun _ _ _ h=>hg _ _ _ h) (fun _ _ h=>ho _ _ h) ?_ ?_
   · intro aV  heq2 aB;subst o02;have ⟨h,H⟩:=m2 aB h H;exact zR<|zP<|zK<|zM<|yL [] [3] rfl<|yX<|mC<|ih (W (i+1)) _ aG H h hg ho hx hr
   intro r0 I9 hs9 m9 aY le9 aZ;subst aY;exact zV<|zV<|zI<|zI<|hr _ _ _ _ (zE aG).symm (H.trans le9) aZ
 intro hc N;exact vC<|yQ<|hx _  (zE N).symm H
def kX (list:(List zD)):Option (Bool):=do
 match<-tM list 0 with
 | .ret r0=>pure r0
 | .done _ =>
  pure (decide ((list.length:Int)<=4))
theorem zGl:∀ list r,kX list=some r->∀ {I:Imm}{p c},(S4 I p list c)->RT 68 [vS p list c] I [] (zQ  r):=by
 intro list r N I p c h;unfold kX at N;refine yJ func68 fun B=>vK []<|zZ<|yI [3] rfl<|wQ<|pM [(0,vS p list c),(3,vI 0)] ?_;obtain ⟨o03,ho03,hMl1⟩:=zB N;refine zE4 list 0 o03 ho03 iR h nG nO ?_ ?_
 · intro bv  heq3 aF;subst o03;refine zR<|uJ [2] rfl<|zK<|xF ?_;obtain rfl:=zE hMl1;exact vZ
 intro r0 I9 hs9 m9 aY le9 aZ;subst aY;refine zV<|zI ?_;obtain rfl:=zE hMl1;exact dB aZ
def uX (n0:Int) (most:Int):Option (Bool):=do
 let t4<-(do
   if (decide (n0>=(W (0 - most)))) then pure (decide (n0<=most))
   else
    pure false
     : Option Bool)
 pure (id t4)
theorem zAx:∀ n0 most r,uX n0 most=some r->∀ {I:Imm} ,RT 152 [vI n0,vI most] I [] (zQ  r):=by
 intro n0 most r N I;unfold uX at N;refine yJ func152 fun B=>?_;have H:=iS I;refine vK []<|zK<|yC ?_;refine wU N [] (fun t4=>[(4,.bool t4)]) (fun o0 az=>?_) ?_
 · have H:=iS I;refine zM<|yD 5 [] [9] rfl<|wD [9] az ?_ ?_
   · intro hc N;exact yL [] [4] rfl<|yQ<|zT (ct N H)
   intro hc N;exact wT [] [(4,vF)]<|yQ<|zT (ct N H)
 intro t4 I0 le aT;refine zK<|xF ?_;obtain rfl:=zE aT;exact vZ
def vW (a0:zA) (i:Int):Option (Out Unit (Bool)):=do
 if (decide (i<(a0.Coefs.length:Int))) then
  let x<-idx a0.Coefs i;let y<-uX x 9;if (!y) then pure (.ret false)
  else vW a0 (W (i+1))
 else pure (.done ())
 partial_fixpoint
theorem zCz (a0:zA):∀ (i:Int) (o:Out Unit (Bool)),vW a0 i=some o->∀ {B}{I0 I:Imm}{Q p c}{b},I0.le I->(S4 I p a0.Coefs c)->NG Q->NO Q->(∀ I',o=(.done ())->I0.le I'->T 27 B Q (.exit 0) I' [hB b (cAff a0 p c)] [(1,vP b 0)])->(∀ r I' ah m',o=(.ret r)->I0.le I'->RS Tryz.prog f159 B (zQ  r) I' ah m'->T 27 B Q .ret I' ah m')->J Tryz.prog 27 B (nav (bodyOf f159) [1,0,1,0]) Q I [hB b (cAff a0 p c)] [(1,vP b 0),(3,vI i)]:=by
 refine vW.partial_correctness a0 _ fun aJ ih i o N B I0 I Q p c b H h hg ho hx hr=>yZ hg ho<|yC<|yA<|yL [0] [8] rfl<|zK<|yE N ?_ ?_
 · intro hc N;refine zS<|zZ<|yH<|yA<|yD 3 [0] [12,13] rfl<|bE N fun x hy N=>wA rfl rfl h hy ?_;intro ad aK ap al;obtain rfl:=al;refine xP 0 ap [vI x] (vI x) rfl<|bE N fun y ax N=>vR (zAx x 9 _ ax ) ?_;intro I0 le;have ⟨h,H⟩:=m2 le h H;refine yL [] [17] rfl<|zK<|yE N ?_ ?_
   · intro aH N;exact vK [(2,vF)]<|xL<|zV<|zI<|zI<|hr _ _ _ _ (zE N).symm H ⟨_,_,(resT rfl),zN,⟨_,rfl,rfl,rfl⟩⟩
   intro aH N;exact zS<|zP<|zK<|zM<|yL [] [3] rfl<|yX<|mC<|ih (W (i+1)) _ N H h hg ho hx hr
 intro hc N;exact vC<|yQ<|hx _  (zE N).symm H
def tN (a0:zA):Option (Bool):=do
 match<-vW a0 0 with
 | .ret r0=>pure r0
 | .done _ =>
  let t2<-(do
    if ((a0.Coefs.length:Int)==4) then
     let y1<-uX a0.Const 99;pure (id y1)
    else
     pure false
      : Option Bool)
  pure (id t2)
theorem fR:∀ a0 r,tN a0=some r->∀ {I:Imm}{p c},(S4 I p a0.Coefs c)->RT 159 [vA (cAff a0 p c)] I [] (zQ  r):=by
 intro a0 r N I p c h;unfold tN at N;refine yJ func159 fun B=>?_;have H:=iS I;refine yA<|vD (cAff a0 p c) ?_;intro b hb;refine wT [] []<|zZ<|yI [3] rfl<|wQ<|pM [(1,vP b 0),(3,vI 0)] ?_;obtain ⟨o0,az,aG⟩:=zB N;refine zCz a0 0 o0 az iR h nG nO ?_ ?_
 · intro aR  heq ae;subst o0;have H:=H.trans ae;refine zR<|zK<|yC ?_;refine wU aG [] (fun t2=>[(2,.bool t2)]) (fun aL aC=>?_) ?_
   · have H:=iS aR;refine zM<|yD 5 [0] [22] rfl<|wD [22] aC ?_ ?_
     · intro bf N;refine yD 7 [0] [24] rfl<|bE N fun y1 aE N=>vR (zAx a0.Const 99 _ aE ) ?_;intro bv aB;have H:=H.trans aB;exact yL [] [2] rfl<|wH zN<|yQ<|zT (ct N H)
     intro bf N;exact wT [] [(2,vF)]<|wH zN<|yQ<|zT (ct N H)
   intro t2 aV aF aT;refine zK<|xF ?_;obtain rfl:=zE aT;exact vZ
 intro r0 I9 hs9 m9 aY le9 aZ;subst aY;refine zV<|zI ?_;obtain rfl:=zE aG;exact dB aZ
def sN (a0:zA) (n0:Int) (i:Int):Option (Int):=do
 if (decide (i<(a0.Coefs.length:Int))) then
  let x<-idx a0.Coefs i;let n02<-(do
    if (x != 0) then pure (W (i+1))
    else
     pure (id n0)
      : Option Int)
  sN a0 n02 (W (i+1))
 else pure (id n0)
 partial_fixpoint
theorem zFH (a0:zA):∀ (n0:Int) (i:Int) (o:Int),sN a0 n0 i=some o->∀ {B}{I0 I:Imm}{Q p c}{b},I0.le I->(S4 I p a0.Coefs c)->NG Q->NO Q->(∀ I' n01,o=n01->I0.le I'->T 21 B Q (.exit 0) I' [] [(3,vI n01)])->J Tryz.prog 21 B (nav (bodyOf f160) [1,1,0,1,0]) Q I [hB b (cAff a0 p c)] [(1,vP b 0),(3,vI n0),(4,vI i)]:=by
 refine sN.partial_correctness a0 _ fun aJ ih n0 i o N B I0 I Q p c b H h hg ho hx=>yZ hg ho<|yC<|yA<|yL [0] [9] rfl<|zK<|yE N ?_ ?_
 · intro hc N;refine zS<|zZ<|yH<|yA<|yD 3 [0] [13,14] rfl<|bE N fun x hy N=>wA rfl rfl h hy ?_;intro ad aK ap al;obtain rfl:=al;refine xP 0 ap [vI x] (vI x) rfl<|yL [] [17] rfl<|zK ?_;refine wU N [hB b (cAff a0 p c)] (fun n02=>[(1,vP b 0),(3,vI n02),(4,vI i)]) (fun o0 az=>?_) ?_
   · have H:=iS I;refine yE az ?_ ?_
     · intro aH N;exact zM<|yL [] [3] rfl<|yQ<|zT (ct N H)
     intro aH N;exact zS<|yQ<|zT (ct N H)
   intro n02 I0 le aT;have ⟨h,H⟩:=m2 le h H;exact zP<|zK<|zM<|yL [] [4] rfl<|yX<|mC<|ih n02 (W (i+1)) _ aT H h hg ho hx
 intro hc N;exact vC<|wH zN<|yQ<|hx _ _ (zE N).symm H
def pR (a0:zA):Option (Int):=do
 let n01<-sN a0 0 0;pure (id n01)
theorem zA6:∀ a0 r,pR a0=some r->∀ {I:Imm}{p c},(S4 I p a0.Coefs c)->RT 160 [vA (cAff a0 p c)] I [] (yR  r):=by
 intro a0 r N I p c h;unfold pR at N;refine yJ func160 fun B=>yA<|vD (cAff a0 p c) ?_;intro b hb;refine wT [] []<|uJ [3] rfl<|zZ<|yI [4] rfl<|wQ<|pM [(1,vP b 0),(3,vI 0),(4,vI 0)] ?_;obtain ⟨aL,aC,aG⟩:=zB N;refine zFH a0 0 0 aL aC iR h nG nO ?_;intro aR n01 heq1 ae;subst aL;refine zR<|uJ [2] rfl<|zK<|xF ?_;obtain rfl:=zE aG;exact vZ
def tO (a0:zJ) (aa:Int) (i:Int):Option (Out Unit (Bool)):=do
 if (decide (i<(a0.Subs.length:Int))) then
  let t29<-(do
    let x<-idx a0.Subs i;let y<-tN x;if (!y) then pure true
    else
     let x1<-idx a0.Subs i;let y1<-pR x1;pure (decide (y1>aa))
      : Option Bool)
  if t29 then pure (.ret false)
  else tO a0 aa (W (i+1))
 else pure (.done ())
 partial_fixpoint
theorem zE5 (a0:zJ) (aa:Int):∀ (i:Int) (o:Out Unit (Bool)),tO a0 aa i=some o->∀ {B}{I0 I:Imm}{Q p c}{b},I0.le I->(S4 I p a0.Subs c)->NG Q->NO Q->(∀ I',o=(.done ())->I0.le I'->T 56 B Q (.exit 0) I' [hB b (cAccess a0 p c)] [(2,vP b 0)])->(∀ r I' ah m',o=(.ret r)->I0.le I'->RS Tryz.prog f127 B (zQ  r) I' ah m'->T 56 B Q .ret I' ah m')->J Tryz.prog 56 B (nav (bodyOf f127) [1,0,1,0]) Q I [hB b (cAccess a0 p c)] [(1,vI aa),(2,vP b 0),(5,vI i)]:=by
 refine tO.partial_correctness a0 aa _ fun aJ ih i o N B I0 I Q p c b H h hg ho hx hr=>yZ hg ho<|yC<|yA<|yL [0] [10] rfl<|zK<|yE N ?_ ?_
 · intro hc N;refine zS<|zZ<|yH<|yC ?_;refine wU N [hB b (cAccess a0 p c)] (fun t29=>[(1,vI aa),(2,vP b 0),(5,vI i),(29,.bool t29)]) (fun o0 az=>?_) ?_
   · have H:=iS I;refine zM<|yD 3 [0] [14,15] rfl ?_;obtain ⟨x,hy,N⟩:=zB az;refine wA rfl rfl h hy ?_;intro ad aK ap al;obtain ⟨p1,c1,rfl,h1⟩:=yG al;refine xP 0 ap (cAff x p1 c1) (vA (cAff x p1 c1)) rfl<|bE N fun y ax N=>vR (fR x _ ax h1) ?_;intro aR le;have ⟨h,H⟩:=m2 le h H;refine yD 8 [] [20] rfl<|wD [20] N ?_ ?_
     · intro aH N;exact wT [] [(29,vY)]<|yQ<|zT (ct N H)
     intro aH N;refine yD 11 [0] [22,23] rfl<|bE N fun x1 aE N=>wA rfl rfl h aE ?_;intro ad1 bo ay aA;obtain ⟨p2,c2,rfl,h3⟩:=yG aA;refine xP 0 ay (cAff x1 p2 c2) (vA (cAff x1 p2 c2)) rfl<|bE N fun y1 bj N=>dL (zA6 x1 _ bj h3) ?_;intro aV ae;have H:=H.trans ae;exact yL [] [29] rfl<|yQ<|zT (ct N H)
   intro t29 I0 aB aT;have ⟨h,H⟩:=m2 aB h H;refine zK<|yE aT ?_ ?_
   · intro bf N;exact vK [(4,vF)]<|xL<|zV<|zI<|zI<|hr _ _ _ _ (zE N).symm H ⟨_,_,(resT rfl),zN,⟨_,rfl,rfl,rfl⟩⟩
   intro bf N;exact zS<|zP<|zK<|zM<|yL [] [5] rfl<|yX<|mC<|ih (W (i+1)) _ N H h hg ho hx hr
 intro hc N;exact vC<|yQ<|hx _  (zE N).symm H
def nY (a0:zJ) (aa:Int):Option (Bool):=do
 match<-tO a0 aa 0 with
 | .ret r0=>pure r0
 | .done _ =>
  let t4<-(do
    if ((a0.Array.l.length:Int)==1) then
     if (!(Op.bytesLess a0.Array.l ([65]:List UInt8))) then
      if (Op.bytesLess a0.Array.l ([68]:List UInt8)||a0.Array.l==([68]:List UInt8)) then
       if (decide ((a0.Subs.length:Int)>=1)) then pure (decide ((a0.Subs.length:Int)<=2))
       else pure false
      else pure false
     else pure false
    else
     pure false
      : Option Bool)
  pure (id t4)
theorem zCb:∀ a0 aa r,nY a0 aa=some r->∀ {I:Imm}{p c},(S4 I p a0.Subs c)->RT 127 [vA (cAccess a0 p c),vI aa] I [] (zQ  r):=by
 intro a0 aa r N I p c h;unfold nY at N;refine yJ func127 fun B=>?_;have H:=iS I;refine yA<|vD (cAccess a0 p c) ?_;intro b hb;refine wT [] []<|zZ<|yI [5] rfl<|wQ<|pM [(1,vI aa),(2,vP b 0),(5,vI 0)] ?_;obtain ⟨aL,aC,aG⟩:=zB N;refine zE5 a0 aa 0 aL aC iR h nG nO ?_ ?_
 · intro bv  heq1 aF;subst aL;have H:=H.trans aF;refine zR<|zK<|yC ?_;refine wU aG [] (fun t4=>[(4,.bool t4)]) (fun o02 ho02=>?_) ?_
   · have H:=iS bv;refine zM<|yD 5 [0] [34] rfl<|wD [34] ho02 ?_ ?_
     · intro bG N;refine yD 10 [0] [39] rfl<|wD [39] N ?_ ?_
       · intro bN N;refine yD 15 [0] [44] rfl<|wD [44] N ?_ ?_
         · intro hc5 N;refine yD 21 [0] [50] rfl<|wD [50] N ?_ ?_
           · intro hc6 N;exact yL [0] [4] rfl<|wH zN<|yQ<|zT (ct N H)
           intro hc6 N;exact wT [] [(4,vF)]<|wH zN<|yQ<|zT (ct N H)
         intro hc5 N;exact wT [] [(4,vF)]<|wH zN<|yQ<|zT (ct N H)
       intro bN N;exact wT [] [(4,vF)]<|wH zN<|yQ<|zT (ct N H)
     intro bG N;exact wT [] [(4,vF)]<|wH zN<|yQ<|zT (ct N H)
   intro t4 bH aX hMc1;refine zK<|xF ?_;obtain rfl:=zE hMc1;exact vZ
 intro r0 I9 hs9 m9 aY le9 aZ;subst aY;refine zV<|zI ?_;obtain rfl:=zE aG;exact dB aZ
def fJ (kind:Int):Option (Int):=do
 let t4<-(do
   if (kind==1) then pure (kind==1)
   else
    let t41<-(do
      if (kind==2) then pure (kind==2)
      else
       pure (kind==3)
        : Option Bool)
    pure (id t41)
     : Option Bool)
 if t4 then pure (id 0)
 else
  let t8<-(do
    if (kind==4) then pure (kind==4)
    else
     let t81<-(do
       if (kind==5) then pure (kind==5)
       else
        pure (kind==6)
         : Option Bool)
     pure (id t81)
      : Option Bool)
  if t8 then pure (id 2)
  else pure (-1)
theorem zDn:∀ kind r,fJ kind=some r->∀ {I:Imm} ,RT 161 [vI kind] I [] (yR  r):=by
 intro kind r N I;unfold fJ at N;refine yJ func161 fun B=>?_;have H:=iS I;refine vK []<|zZ<|yI [3] rfl<|wQ<|yC<|yI [4] rfl<|zK ?_;refine wU N [] (fun t4=>[(3,vI kind),(4,.bool t4)]) (fun o0 az=>?_) ?_
 · have H:=iS I;refine yE az ?_ ?_
   · intro hc N;exact zS<|yQ<|zT (ct N H)
   intro hc N;refine yI [4] rfl<|zK ?_;refine wU N [] (fun t41=>[(3,vI kind),(4,.bool t41)]) (fun aL aC=>?_) ?_
   · have H:=iS I;refine yE aC ?_ ?_
     · intro aH N;exact zS<|yQ<|zT (ct N H)
     intro aH N;exact zM<|yL [] [4] rfl<|yQ<|zT (ct N H)
   intro t41 aR le hMc1;have H:=H.trans le;exact yQ<|zT (ct hMc1 H)
 intro t4 I0 ae aT;have H:=H.trans ae;refine zK<|yE aT ?_ ?_
 · intro bf N;refine yI [2] rfl<|xL<|zV<|zI ?_;obtain rfl:=zE N;exact vZ
 intro bf N;refine yC<|yI [8] rfl<|zK ?_;refine wU N [] (fun t8=>[(8,.bool t8)]) (fun o02 ho02=>?_) ?_
 · have H:=iS I0;refine yE ho02 ?_ ?_
   · intro bG N;exact zS<|yQ<|zT (ct N H)
   intro bG N;refine yI [8] rfl<|zK ?_;refine wU N [] (fun t81=>[(8,.bool t81)]) (fun o03 ho03=>?_) ?_
   · have H:=iS I0;refine yE ho03 ?_ ?_
     · intro bN N;exact zS<|yQ<|zT (ct N H)
     intro bN N;exact zM<|yL [] [8] rfl<|yQ<|zT (ct N H)
   intro t81 bv aB hMc3;have H:=H.trans aB;exact yQ<|zT (ct hMc3 H)
 intro t8 aV aF hMc2;refine zK<|yE hMc2 ?_ ?_
 · intro hc5 N;refine yI [2] rfl<|xL<|zV<|zI ?_;obtain rfl:=zE N;exact vZ
 intro hc5 N;refine zS<|zP<|uJ [2] rfl<|zK<|xF ?_;obtain rfl:=zE N;exact vZ
def nC (a0:zJ):Option (Bool):=do
 let t2<-(do
   if (a0.Array.l==([]:List UInt8)) then pure ((a0.Subs.length:Int)==0)
   else
    pure false
     : Option Bool)
 pure (id t2)
theorem zBO:∀ a0 r,nC a0=some r->∀ {I:Imm}{p c},(S4 I p a0.Subs c)->RT 185 [vA (cAccess a0 p c)] I [] (zQ  r):=by
 intro a0 r N I p c h;unfold nC at N;refine yJ func185 fun B=>?_;have H:=iS I;refine yA<|vD (cAccess a0 p c) ?_;intro b hb;refine wT [] []<|zK<|yC ?_;refine wU N [] (fun t2=>[(2,.bool t2)]) (fun o0 az=>?_) ?_
 · have H:=iS I;refine zM<|yD 4 [0] [6] rfl<|wD [6] az ?_ ?_
   · intro hc N;exact yL [0] [2] rfl<|wH zN<|yQ<|zT (ct N H)
   intro hc N;exact wT [] [(2,vF)]<|wH zN<|yQ<|zT (ct N H)
 intro t2 I0 le aT;refine zK<|xF ?_;obtain rfl:=zE aT;exact vZ
def kF (a0:zA):Option (Bool):=do
 let t2<-(do
   if ((a0.Coefs.length:Int)==0) then pure (a0.Const==0)
   else
    pure false
     : Option Bool)
 pure (id t2)
theorem zBd:∀ a0 r,kF a0=some r->∀ {I:Imm}{p c},(S4 I p a0.Coefs c)->RT 186 [vA (cAff a0 p c)] I [] (zQ  r):=by
 intro a0 r N I p c h;unfold kF at N;refine yJ func186 fun B=>?_;have H:=iS I;refine yA<|vD (cAff a0 p c) ?_;intro b hb;refine wT [] []<|zK<|yC ?_;refine wU N [] (fun t2=>[(2,.bool t2)]) (fun o0 az=>?_) ?_
 · have H:=iS I;refine zM<|yD 5 [0] [7] rfl<|wD [7] az ?_ ?_
   · intro hc N;exact yL [0] [2] rfl<|wH zN<|yQ<|zT (ct N H)
   intro hc N;exact wT [] [(2,vF)]<|wH zN<|yQ<|zT (ct N H)
 intro t2 I0 le aT;refine zK<|xF ?_;obtain rfl:=zE aT;exact vZ
def eX (e0:zC) (aa:Int):Option (Bool):=do
 if (e0.Kind==2) then
  let t4<-(do
    if (e0.Num==0) then
     let y<-nC e0.Read;if y then
      let y1<-tN e0.Index;if y1 then
       let y2<-pR e0.Index;pure (decide (y2<=aa))
      else pure false
     else pure false
    else
     pure false
      : Option Bool)
  pure (id t4)
 else
  if (e0.Kind==3) then
   let t41<-(do
     if (e0.Num==0) then
      let y3<-kF e0.Index;if y3 then
       let y4<-nY e0.Read aa;pure (id y4)
      else pure false
     else
      pure false
       : Option Bool)
   pure (id t41)
  else
   if (e0.Kind==1) then
    let t42<-(do
      if (decide (e0.Num>=0)) then
       if (decide (e0.Num<=99)) then
        let y5<-kF e0.Index;if y5 then
         let y6<-nC e0.Read;pure (id y6)
        else pure false
       else pure false
      else
       pure false
        : Option Bool)
    pure (id t42)
   else
    let t43<-(do
      if (e0.Num==0) then
       let y7<-kF e0.Index;if y7 then
        let y8<-nC e0.Read;pure (id y8)
       else pure false
      else
       pure false
        : Option Bool)
    pure (id t43)
theorem zIs:∀ e0 aa r,eX e0 aa=some r->∀ {I:Imm}{p c p1 c1 p2 c2},(S4 I p e0.Index.Coefs c)->(S4 I p1 e0.Read.Subs c1)->(S4 I p2 e0.Kids c2)->RT 162 [vA (cExpr e0 p c p1 c1 p2 c2),vI aa] I [] (zQ  r):=by
 intro e0 aa r N I p c p1 c1 p2 c2 h h1 h2;unfold eX at N;refine yJ func162 fun B=>?_;have H:=iS I;refine yA<|vD (cExpr e0 p c p1 c1 p2 c2) ?_;intro b hb;refine wT [] []<|zZ<|yA<|yL [0] [7] rfl<|zK<|yE N ?_ ?_
 · intro hc N;refine yC ?_;refine wU N [] (fun t4=>[(4,.bool t4)]) (fun o0 az=>?_) ?_
   · have H:=iS I;refine zM<|yD 4 [0] [11] rfl<|wD [11] az ?_ ?_
     · intro aH N;refine vU 6 [0] [(13,vA (cAccess e0.Read p1 c1))]<|bE N fun y hy N=>vR (zBO e0.Read _ hy h1) ?_;intro aR le;have ⟨h,H⟩:=m2 le h H;refine yD 9 [] [16] rfl<|wD [16] N ?_ ?_
       · intro bf N;refine vU 11 [0] [(18,vA (cAff e0.Index p c))]<|bE N fun y1 ax N=>vR (fR e0.Index _ ax h) ?_;intro aV ae;have ⟨h,H⟩:=m2 ae h H;refine yD 14 [] [21] rfl<|wD [21] N ?_ ?_
         · intro bG N;refine vU 16 [0] [(23,vA (cAff e0.Index p c))]<|bE N fun y2 aE N=>dL (zA6 e0.Index _ aE h) ?_;intro bv aB;have H:=H.trans aB;exact yL [] [4] rfl<|wH zN<|yQ<|zT (ct N H)
         intro bG N;exact wT [] [(4,vF)]<|wH zN<|yQ<|zT (ct N H)
       intro bf N;exact wT [] [(4,vF)]<|wH zN<|yQ<|zT (ct N H)
     intro aH N;exact wT [] [(4,vF)]<|wH zN<|yQ<|zT (ct N H)
   intro t4 I0 aF aT;refine xL<|zI ?_;obtain rfl:=zE aT;exact vZ
 intro hc N;refine zS<|zZ<|yA<|yL [0] [30] rfl<|zK<|yE N ?_ ?_
 · intro bN N;refine yC ?_;refine wU N [] (fun t41=>[(4,.bool t41)]) (fun aL aC=>?_) ?_
   · have H:=iS I;refine zM<|yD 4 [0] [34] rfl<|wD [34] aC ?_ ?_
     · intro hc5 N;refine vU 6 [0] [(36,vA (cAff e0.Index p c))]<|bE N fun y3 bj N=>vR (zBd e0.Index _ bj h) ?_;intro bO aX;have ⟨h1,H⟩:=m2 aX h1 H;refine yD 9 [] [39] rfl<|wD [39] N ?_ ?_
       · intro hc6 N;refine vU 12 [0] [(41,vA (cAccess e0.Read p1 c1)),(42,vI aa)]<|bE N fun y4 bt N=>vR (zCb e0.Read aa _ bt h1) ?_;intro I06 bi;have H:=H.trans bi;exact yL [] [4] rfl<|wH zN<|yQ<|zT (ct N H)
       intro hc6 N;exact wT [] [(4,vF)]<|wH zN<|yQ<|zT (ct N H)
     intro hc5 N;exact wT [] [(4,vF)]<|wH zN<|yQ<|zT (ct N H)
   intro t41 bH bB hMc1;refine xL<|zI ?_;obtain rfl:=zE hMc1;exact vZ
 intro bN N;refine zS<|zZ<|yA<|yL [0] [47] rfl<|zK<|yE N ?_ ?_
 · intro hc7 N;refine yC ?_;refine wU N [] (fun t42=>[(4,.bool t42)]) (fun o02 ho02=>?_) ?_
   · have H:=iS I;refine zM<|yD 4 [0] [51] rfl<|wD [51] ho02 ?_ ?_
     · intro hc8 N;refine yD 9 [0] [56] rfl<|wD [56] N ?_ ?_
       · intro hc9 N;refine vU 11 [0] [(58,vA (cAff e0.Index p c))]<|bE N fun y5 bD N=>vR (zBd e0.Index _ bD h) ?_;intro I08 le7;have ⟨h1,H⟩:=m2 le7 h1 H;refine yD 14 [] [61] rfl<|wD [61] N ?_ ?_
         · intro hc10 N;refine vU 16 [0] [(63,vA (cAccess e0.Read p1 c1))]<|bE N fun y6 hy6 N=>vR (zBO e0.Read _ hy6 h1) ?_;intro I09 le8;have H:=H.trans le8;exact yL [] [4] rfl<|wH zN<|yQ<|zT (ct N H)
         intro hc10 N;exact wT [] [(4,vF)]<|wH zN<|yQ<|zT (ct N H)
       intro hc9 N;exact wT [] [(4,vF)]<|wH zN<|yQ<|zT (ct N H)
     intro hc8 N;exact wT [] [(4,vF)]<|wH zN<|yQ<|zT (ct N H)
   intro t42 I07 le9 hMc2;refine xL<|zI ?_;obtain rfl:=zE hMc2;exact vZ
 intro hc7 N;refine zS<|zK<|yC ?_;refine wU N [] (fun t43=>[(4,.bool t43)]) (fun o03 ho03=>?_) ?_
 · have H:=iS I;refine zM<|yD 4 [0] [69] rfl<|wD [69] ho03 ?_ ?_
   · intro hc11 N;refine vU 6 [0] [(71,vA (cAff e0.Index p c))]<|bE N fun y7 hy7 N=>vR (zBd e0.Index _ hy7 h) ?_;intro bW le10;have ⟨h1,H⟩:=m2 le10 h1 H;refine yD 9 [] [74] rfl<|wD [74] N ?_ ?_
     · intro hc12 N;refine vU 11 [0] [(76,vA (cAccess e0.Read p1 c1))]<|bE N fun y8 hy8 N=>vR (zBO e0.Read _ hy8 h1) ?_;intro bS le11;have H:=H.trans le11;exact yL [] [4] rfl<|wH zN<|yQ<|zT (ct N H)
     intro hc12 N;exact wT [] [(4,vF)]<|wH zN<|yQ<|zT (ct N H)
   intro hc11 N;exact wT [] [(4,vF)]<|wH zN<|yQ<|zT (ct N H)
 intro t43 bL le12 hMc3;refine zK<|xF ?_;obtain rfl:=zE hMc3;exact vZ
mutual
def rD (e0:zC) (aa:Int) (ak:Int):Option (Bool):=do
 let t24<-(do
   if (decide (ak<1)) then pure true
   else
    let y<-fJ e0.Kind;if (y != (e0.Kids.length:Int)) then pure true
    else
     let y1<-eX e0 aa;pure (!y1)
     : Option Bool)
 if t24 then pure false
 else
  match<-tC (same e0) (same aa) (same ak) (same 0) with
  | .ret r0=>pure r0
  | .done _ =>
   pure true
 partial_fixpoint
def tC (e0:zC) (aa:Int) (ak:Int) (i:Int):Option (Out Unit (Bool)):=do
 if (decide (i<(e0.Kids.length:Int))) then
  let x<-idx e0.Kids i;let y2<-rD (same x) (same aa) (W (ak - 1));if (!y2) then pure (.ret false)
  else tC (same e0) (same aa) (same ak) (W (i+1))
 else pure (.done ())
 partial_fixpoint
end
theorem zGm:(∀ (e0:zC) (aa:Int) (ak:Int) r,rD e0 aa ak=some r->∀ {I:Imm}{p c p1 c1 p2 c2},(S4 I p e0.Index.Coefs c)->(S4 I p1 e0.Read.Subs c1)->(S4 I p2 e0.Kids c2)->RT 128 [vA (cExpr e0 p c p1 c1 p2 c2),vI aa,vI ak] I [] (zQ  r))/\(∀ (e0:zC) (aa:Int) (ak:Int) (i:Int) o,tC e0 aa ak i=some o->∀ {B}{I0 I:Imm}{Q p c p1 c1 p2 c2}{b},I0.le I->(S4 I p e0.Index.Coefs c)->(S4 I p1 e0.Read.Subs c1)->(S4 I p2 e0.Kids c2)->NG Q->NO Q->(∀ I',o=(.done ())->I0.le I'->T 42 B Q (.exit 0) I' [] [])->(∀ r I' ah m',o=(.ret r)->I0.le I'->RS Tryz.prog f128 B (zQ  r) I' ah m'->T 42 B Q .ret I' ah m')->J Tryz.prog 42 B (nav (bodyOf f128) [1,1,0,1,0]) Q I [hB b (cExpr e0 p c p1 c1 p2 c2)] [(1,vI aa),(2,vI ak),(3,vP b 0),(7,vI i)]):=by
  refine rD.mutual_partial_correctness _ _ ?_ ?_
  · intro F_spec_l3Shape_l1 ih_spec_l3Shape_l1 e0 aa ak r N I p c p1 c1 p2 c2 h h1 h2;refine yJ func128 fun B=>?_;have H:=iS I;refine yA<|vD (cExpr e0 p c p1 c1 p2 c2) ?_;intro b hb;refine wT [] []<|zZ<|yC ?_;refine wU N [hB b (cExpr e0 p c p1 c1 p2 c2)] (fun t24=>[(1,vI aa),(2,vI ak),(3,vP b 0),(24,.bool t24)]) (fun o0 az=>?_) ?_
    · have H:=iS I;cases hc:(decide (ak<1)) with
      | true =>
       have hM0:=qN hc az;refine wV [.p (vI ak) [],.q vY,.q vY,.p undef [],.p undef [],.p undef [],.p undef [],.p undef [],.p undef [],.p undef [],.p vY [],.p vY [],.p undef [],.p undef [],.p undef [],.p undef [],.p vY []] [[],[(0,false)],[(1,false)],[(2,false)],[(2,false),(3,false)],[(2,false),(4,false)],[(2,false)],[(2,false),(6,false)],[(2,false),(7,false)],[(2,false),(5,false),(8,false)],[(2,false),(9,false)],[(10,false)],[(11,false)],[(11,false)],[(11,false),(12,false),(13,false)],[(11,false),(14,false)],[(11,false),(15,false)]] [hB b (cExpr e0 p c p1 c1 p2 c2)] [] [(16,false)] (zY [0]) ?_ ?_
       · refine Op<|Oq ?_<|Oq ?_<|O4<|O4<|O4<|O2<|On
         · intro I1 hf ae;refine xD [8] rfl<|mD 2 [(9,.bool (decide (ak<1)))] ?_;rw [hc];exact xY iR
         intro I1 hf ae;exact I_h [(9,vY)]<|mD 3 [(10,vY)]<|xY iR
       intro aR le;refine xD [1,2,3,24] rfl ?_;have H:=H.trans le;exact zU rfl<|yQ<|zT (ct hM0 H)
      | false =>
       have hM01:=rE hc az;obtain ⟨y,hy,N⟩:=zB hM01;cases aH:(y != (e0.Kids.length:Int)) with
       | true =>
        have hM02:=qN aH N;refine wV [.p (vI ak) [],.q vF,.q vF,.p (vP b 0) [],.p (vI e0.Kind) [0],.q (vI y),.p (vP b 6) [],.p (vS p2 e0.Kids c2) [0],.p (vI (e0.Kids.length:Int)) [],.q vY,.q vY,.q vY,.p undef [],.p undef [],.p undef [],.p undef [],.p vY []] [[],[(0,false)],[(1,false)],[(2,false)],[(2,false),(3,false)],[(2,false),(4,false)],[(2,false)],[(2,false),(6,false)],[(2,false),(7,false)],[(2,false),(5,false),(8,false)],[(2,false),(9,false)],[(10,false)],[(11,false)],[(11,false)],[(11,false),(12,false),(13,false)],[(11,false),(14,false)],[(11,false),(15,false)]] [hB b (cExpr e0 p c p1 c1 p2 c2)] [] [(16,false)] (zY [0]) ?_ ?_
        · refine Op<|Oq ?_<|Oq ?_<|O2<|Oq ?_<|O3<|Oq ?_<|Oq ?_<|Oq ?_<|O4<|Op<|On
          · intro I1 hf ae;refine xD [8] rfl<|mD 2 [(9,.bool (decide (ak<1)))] ?_;rw [hc];exact xY iR
          · intro I1 hf ae;exact I_h [(9,vF)]<|mD 3 [(10,vF)]<|xY iR
          · intro I1 hf ae;refine xD [10,12] rfl ?_;have H:=iS I1;refine dL (zDn e0.Kind _ hy ) ?_;intro aV ae;have H:=H.trans ae;exact xY H
          · intro I1 hf ae;refine xD [10,13,16] rfl<|mD 10 [(17,.bool (y != (e0.Kids.length:Int)))] ?_;rw [aH];exact xY iR
          · intro I1 hf ae;exact xD [10,17] rfl<|mD 11 [(18,vY)]<|xY iR
          intro I1 hf ae;exact I_h [(18,vY)]<|mD 12 [(19,vY)]<|xY iR
        intro bv aB;refine xD [1,2,3,24] rfl ?_;have H:=H.trans aB;exact zU rfl<|yQ<|zT (ct hM02 H)
       | false =>
        have hM03:=rE aH N;obtain ⟨y1,ax,N⟩:=zB hM03;refine wV [.p (vI ak) [],.q vF,.q vF,.p (vP b 0) [],.p (vI e0.Kind) [0],.q (vI y),.p (vP b 6) [],.p (vS p2 e0.Kids c2) [0],.p (vI (e0.Kids.length:Int)) [],.q vF,.q vF,.q vF,.p (vA (cExpr e0 p c p1 c1 p2 c2)) [0],.p (vI aa) [],.q (.bool y1),.p (.bool (!y1)) [],.p (.bool (!y1)) []] [[],[(0,false)],[(1,false)],[(2,false)],[(2,false),(3,false)],[(2,false),(4,false)],[(2,false)],[(2,false),(6,false)],[(2,false),(7,false)],[(2,false),(5,false),(8,false)],[(2,false),(9,false)],[(10,false)],[(11,false)],[(11,false)],[(11,false),(12,false),(13,false)],[(11,false),(14,false)],[(11,false),(15,false)]] [hB b (cExpr e0 p c p1 c1 p2 c2)] [] [(16,false)] (zY [0]) ?_ ?_
        · refine Op<|Oq ?_<|Oq ?_<|O2<|Oq ?_<|O3<|Oq ?_<|Oq ?_<|Oq ?_<|O2<|Oq ?_<|O2<|On
          · intro I1 hf ae;refine xD [8] rfl<|mD 2 [(9,.bool (decide (ak<1)))] ?_;rw [hc];exact xY iR
          · intro I1 hf ae;exact I_h [(9,vF)]<|mD 3 [(10,vF)]<|xY iR
          · intro I1 hf ae;refine xD [10,12] rfl ?_;have H:=iS I1;refine dL (zDn e0.Kind _ hy ) ?_;intro aV ae;have H:=H.trans ae;exact xY H
          · intro I1 hf ae;refine xD [10,13,16] rfl<|mD 10 [(17,.bool (y != (e0.Kids.length:Int)))] ?_;rw [aH];exact xY iR
          · intro I1 hf ae;exact xD [10,17] rfl<|mD 11 [(18,vF)]<|xY iR
          · intro I1 hf ae;exact I_h [(18,vF)]<|mD 12 [(19,vF)]<|xY iR
          intro I1 hf ae;refine xD [19,20,21] rfl ?_;have H:=iS I1;have ⟨h,h1,h2⟩:=m3 ae h h1 h2;refine vR (zIs e0 aa _ ax h h1 h2) ?_;intro bH aF;have H:=H.trans aF;exact xY H
        intro bO aX;refine xD [1,2,3,24] rfl ?_;have H:=H.trans aX;exact zU rfl<|yQ<|zT (ct N H)
    intro t24 I0 bi aT;have ⟨h,h1,h2⟩:=m3 bi h h1 h2;refine zK<|yE aT ?_ ?_
    · intro bf N;refine vK [(6,vF)]<|xL<|zI ?_;obtain rfl:=zE N;exact vZ
    intro bf N;refine zS<|zZ<|yI [7] rfl<|wQ<|pM [(1,vI aa),(2,vI ak),(3,vP b 0),(7,vI 0)] ?_;obtain ⟨aL,aC,aG⟩:=zB N;refine ih_spec_l3Shape_l1 e0 aa ak 0 aL aC iR h h1 h2 nG nO ?_ ?_
    · intro I07  heq1 le7;subst aL;refine zR<|zEt [(6,vY)]<|zK<|xF ?_;obtain rfl:=zE aG;exact vZ
    intro r0 I9 hs9 m9 aY le9 aZ;subst aY;refine zV<|zI ?_;obtain rfl:=zE aG;exact dB aZ
  intro F_spec_l3Shape F_spec_l3Shape_l1 ih_spec_l3Shape ih_spec_l3Shape_l1 e0 aa ak i o N B I0 I Q p c p1 c1 p2 c2 b H h h1 h2 hg ho hx hr;refine yZ hg ho<|yC<|yA<|yL [0] [29] rfl<|zK<|yE N ?_ ?_
  · intro bG N;refine zS<|zZ<|yH<|yA<|yD 3 [0] [33,34] rfl<|bE N fun x aE N=>wA rfl rfl h2 aE ?_;intro ad aK ap al;obtain ⟨p3,c3,p4,c4,p5,c5,rfl,h5,h6,h7⟩:=xB al;refine xP 0 ap (cExpr x p3 c3 p4 c4 p5 c5) (vA (cExpr x p3 c3 p4 c4 p5 c5)) rfl<|yD 8 [] [37,39] rfl<|bE N fun y2 bj N=>xJ (ih_spec_l3Shape x aa (W (ak - 1)) _ bj h5 h6 h7) ?_;rintro I06 av v2 k2 bB - ⟨v05,rfl,rfl,rfl⟩ -;have ⟨h,h1,h2,H⟩:=m4 bB h h1 h2 H;refine yL [] [41] rfl<|zK<|yE N ?_ ?_
    · intro bN N;exact vK [(6,vF)]<|xL<|zV<|zI<|zI<|hr _ _ _ _ (zE N).symm H ⟨_,_,(resT rfl),zN,⟨_,rfl,rfl,rfl⟩⟩
    intro bN N;exact zS<|zP<|zK<|zM<|yL [] [7] rfl<|yX<|mC<|ih_spec_l3Shape_l1 e0 aa ak (W (i+1)) _ N H h h1 h2 hg ho hx hr
  intro bG N;exact vC<|wH zN<|yQ<|hx _  (zE N).symm H
theorem zHV:∀ e0 aa ak r,rD e0 aa ak=some r->∀ {I:Imm}{p c p1 c1 p2 c2},(S4 I p e0.Index.Coefs c)->(S4 I p1 e0.Read.Subs c1)->(S4 I p2 e0.Kids c2)->RT 128 [vA (cExpr e0 p c p1 c1 p2 c2),vI aa,vI ak] I [] (zQ  r):=zGm.1
mutual
def qG (e0:zC) (ak:Int):Option (Int):=do
 let n01<-tD (same e0) (same ak) (same 1) (same 0);pure (id n01)
 partial_fixpoint
def tD (e0:zC) (ak:Int) (n0:Int) (i:Int):Option (Int):=do
 let t15<-(do
   if (decide (i<(e0.Kids.length:Int))) then pure (decide (ak>0))
   else
    pure false
     : Option Bool)
 if t15 then
  let x<-idx e0.Kids i;let y<-qG (same x) (W (ak - 1));tD (same e0) (same ak) (W (n0+y)) (W (i+1))
 else pure (id n0)
 partial_fixpoint
end
theorem zGn:(∀ (e0:zC) (ak:Int) r,qG e0 ak=some r->∀ {I:Imm}{p c p1 c1 p2 c2},(S4 I p e0.Index.Coefs c)->(S4 I p1 e0.Read.Subs c1)->(S4 I p2 e0.Kids c2)->RT 129 [vA (cExpr e0 p c p1 c1 p2 c2),vI ak] I [] (yR  r))/\(∀ (e0:zC) (ak:Int) (n0:Int) (i:Int) o,tD e0 ak n0 i=some o->∀ {B}{I0 I:Imm}{Q p c p1 c1 p2 c2}{b},I0.le I->(S4 I p e0.Index.Coefs c)->(S4 I p1 e0.Read.Subs c1)->(S4 I p2 e0.Kids c2)->NG Q->NO Q->(∀ I' n01,o=n01->I0.le I'->T 29 B Q (.exit 0) I' [] [(5,vI n01)])->J Tryz.prog 29 B (nav (bodyOf f129) [1,1,0,1,0]) Q I [hB b (cExpr e0 p c p1 c1 p2 c2)] [(1,vI ak),(2,vP b 0),(5,vI n0),(6,vI i)]):=by
  refine qG.mutual_partial_correctness _ _ ?_ ?_
  · intro F_spec_l3Count_l1 ih_spec_l3Count_l1 e0 ak r N I p c p1 c1 p2 c2 h h1 h2;refine yJ func129 fun B=>yA<|vD (cExpr e0 p c p1 c1 p2 c2) ?_;intro b hb;refine wT [] []<|uJ [5] rfl<|zZ<|yI [6] rfl<|wQ<|pM [(1,vI ak),(2,vP b 0),(5,vI 1),(6,vI 0)] ?_;obtain ⟨aL,aC,aG⟩:=zB N;refine ih_spec_l3Count_l1 e0 ak 1 0 aL aC iR h h1 h2 nG nO ?_;intro aV n01 heq1 aB;subst aL;refine zR<|uJ [4] rfl<|zK<|xF ?_;obtain rfl:=zE aG;exact vZ
  intro F_spec_l3Count F_spec_l3Count_l1 ih_spec_l3Count ih_spec_l3Count_l1 e0 ak n0 i o N B I0 I Q p c p1 c1 p2 c2 b H h h1 h2 hg ho hx;refine yZ hg ho<|yC<|yC ?_;refine wU N [hB b (cExpr e0 p c p1 c1 p2 c2)] (fun t15=>[(1,vI ak),(2,vP b 0),(5,vI n0),(6,vI i),(15,.bool t15)]) (fun o0 az=>?_) ?_
  · have H:=iS I;refine zM<|yD 6 [0] [12] rfl<|wD [12] az ?_ ?_
    · intro hc N;exact yL [] [15] rfl<|yQ<|zT (ct N H)
    intro hc N;exact wT [] [(15,vF)]<|yQ<|zT (ct N H)
  intro t15 I0 le aT;have ⟨h,h1,h2,H⟩:=m4 le h h1 h2 H;refine zK<|yE aT ?_ ?_
  · intro aH N;refine zS<|zZ<|yH<|zM<|yD 4 [0] [18,20,21] rfl<|bE N fun x hy N=>wA rfl rfl h2 hy ?_;intro ad aK ap al;obtain ⟨p3,c3,p4,c4,p5,c5,rfl,h3,h4,h5⟩:=xB al;refine xP 0 ap (cExpr x p3 c3 p4 c4 p5 c5) (vA (cExpr x p3 c3 p4 c4 p5 c5)) rfl<|yD 8 [] [25] rfl<|bE N fun y ax N=>xJ (ih_spec_l3Count x (W (ak - 1)) _ ax h3 h4 h5) ?_;rintro aR av v2 k2 ae - ⟨v03,rfl,rfl,rfl⟩ -;have ⟨h,h1,h2,H⟩:=m4 ae h h1 h2 H;exact yL [] [5] rfl<|zP<|zK<|zM<|yL [] [6] rfl<|yX<|mC<|ih_spec_l3Count_l1 e0 ak (W (n0+y)) (W (i+1)) _ N H h h1 h2 hg ho hx
  intro aH N;exact vC<|wH zN<|yQ<|hx _ _ (zE N).symm H
theorem zHW:∀ e0 ak r,qG e0 ak=some r->∀ {I:Imm}{p c p1 c1 p2 c2},(S4 I p e0.Index.Coefs c)->(S4 I p1 e0.Read.Subs c1)->(S4 I p2 e0.Kids c2)->RT 129 [vA (cExpr e0 p c p1 c1 p2 c2),vI ak] I [] (yR  r):=zGn.1
def rF (s:zG) (aa:Int):Option (Bool):=do
 let t24<-(do
   if (decide (aa<0)) then pure true
   else
    if (decide (aa>4)) then pure true
    else
     let y<-nY s.Write aa;if (!y) then pure true
     else
      let y1<-rD s.Value aa 5;pure (!y1)
     : Option Bool)
 if t24 then pure false
 else
  let y2<-qG s.Value 5;pure (decide (y2<=12))
theorem dP:∀ s aa r,rF s aa=some r->∀ {I:Imm}{p c p1 c1 p2 c2 p3 c3},(S4 I p s.Write.Subs c)->(S4 I p1 s.Value.Index.Coefs c1)->(S4 I p2 s.Value.Read.Subs c2)->(S4 I p3 s.Value.Kids c3)->RT 89 [vA (cStmt s p c p1 c1 p2 c2 p3 c3),vI aa] I [] (zQ  r):=by
 intro s aa r N I p c p1 c1 p2 c2 p3 c3 h h1 h2 h3;unfold rF at N;refine yJ func89 fun B=>?_;have H:=iS I;refine yA<|vD (cStmt s p c p1 c1 p2 c2 p3 c3) ?_;intro b hb;refine wT [] []<|zZ<|yC ?_;refine wU N [hB b (cStmt s p c p1 c1 p2 c2 p3 c3)] (fun t24=>[(2,vP b 0),(24,.bool t24)]) (fun o0 az=>?_) ?_
 · have H:=iS I;refine zM<|yD 3 [] [7] rfl<|wD [7] az ?_ ?_
   · intro hc N;exact wT [] [(24,vY)]<|yQ<|zT (ct N H)
   intro hc N;refine yD 7 [] [11] rfl<|wD [11] N ?_ ?_
   · intro aH N;exact wT [] [(24,vY)]<|yQ<|zT (ct N H)
   intro aH N;refine vU 10 [0] [(13,vA (cAccess s.Write p c)),(14,vI aa)]<|bE N fun y hy N=>vR (zCb s.Write aa _ hy h) ?_;intro aR le;have ⟨h1,h2,h3,H⟩:=m4 le h1 h2 h3 H;refine yD 14 [] [18] rfl<|wD [18] N ?_ ?_
   · intro bf N;exact wT [] [(24,vY)]<|yQ<|zT (ct N H)
   intro bf N;refine vU 17 [0] [(20,vA (cExpr s.Value p1 c1 p2 c2 p3 c3)),(21,vI aa)]<|bE N fun y1 ax N=>vR (zHV s.Value aa 5 _ ax h1 h2 h3) ?_;intro aV ae;have H:=H.trans ae;exact yL [] [24] rfl<|yQ<|zT (ct N H)
 intro t24 I0 aB aT;have ⟨h1,h2,h3⟩:=m3 aB h1 h2 h3;refine zK<|yE aT ?_ ?_
 · intro bG N;refine vK [(4,vF)]<|xL<|zI ?_;obtain rfl:=zE N;exact vZ
 intro bG N;refine zS<|yT<|vU 2 [0] [(26,vA (cExpr s.Value p1 c1 p2 c2 p3 c3))]<|bE N fun y2 aE N=>dL (zHW s.Value 5 _ aE h1 h2 h3) fun bv aF=>wT [] [(4,.bool (decide (y2<=12)))]<|zK<|xF ?_;obtain rfl:=zE N;exact vZ
def rG (a0:zA) (ag:(List Int)) (n0:Int) (i:Int):Option (Int):=do
 let t19<-(do
   if (decide (i<(ag.length:Int))) then pure (decide (i<(a0.Coefs.length:Int)))
   else
    pure false
     : Option Bool)
 if t19 then
  let x<-idx a0.Coefs i;let x1<-idx ag i;rG a0 ag (W (n0+(W (x*x1)))) (W (i+1))
 else pure (id n0)
 partial_fixpoint
theorem zFr (a0:zA) (ag:(List Int)):∀ (n0:Int) (i:Int) (o:Int),rG a0 ag n0 i=some o->∀ {B}{I0 I:Imm}{Q p c p1 c1}{b},I0.le I->(S4 I p1 ag c1)->(S4 I p a0.Coefs c)->NG Q->NO Q->(∀ I' n01,o=n01->I0.le I'->T 35 B Q (.exit 0) I' [] [(5,vI n01)])->J Tryz.prog 35 B (nav (bodyOf f74) [1,1,0,1,0]) Q I [hB b (cAff a0 p c)] [(1,vS p1 ag c1),(2,vP b 0),(5,vI n0),(6,vI i)]:=by
 refine rG.partial_correctness a0 ag _ fun aJ ih n0 i o N B I0 I Q p c p1 c1 b H h1 h hg ho hx=>yZ hg ho<|yC<|yC ?_;refine wU N [hB b (cAff a0 p c)] (fun t19=>[(1,vS p1 ag c1),(2,vP b 0),(5,vI n0),(6,vI i),(19,.bool t19)]) (fun o0 az=>?_) ?_
 · have H:=iS I;refine zM<|yD 5 [] [13] rfl<|wD [13] az ?_ ?_
   · intro hc N;exact yL [0] [19] rfl<|yQ<|zT (ct N H)
   intro hc N;exact wT [] [(19,vF)]<|yQ<|zT (ct N H)
 intro t19 I0 le aT;have ⟨h1,h,H⟩:=m3 le h1 h H;refine zK<|yE aT ?_ ?_
 · intro aH N;refine zS<|zZ<|yH<|dV (by kernel_rfl) (by kernel_rfl)<|zAp 4 [0] [22,24,25] rfl<|bE N fun x hy N=>zCY rfl rfl h hy ?_;intro ad aK ap al;obtain rfl:=al;refine zB3 0 ap [vI x] (vI x) rfl<|zAp 8 [] [28,29] rfl<|bE N fun x1 ax N=>zCY rfl rfl h1 ax ?_;intro ad1 bo ay aA;obtain rfl:=aA;exact zB3 0 ay [vI x1] (vI x1) rfl<|zJk [] [5] rfl<|zP<|zK<|zM<|yL [] [6] rfl<|yX<|mC<|ih (W (n0+(W (x*x1)))) (W (i+1)) _ N H h1 h hg ho hx
 intro aH N;exact vC<|wH zN<|yQ<|hx _ _ (zE N).symm H
def pS (a0:zA) (ag:(List Int)):Option (Int):=do
 let n01<-rG a0 ag a0.Const 0;pure (id n01)
theorem zAB:∀ a0 ag r,pS a0 ag=some r->∀ {I:Imm}{p c p1 c1},(S4 I p a0.Coefs c)->(S4 I p1 ag c1)->RT 74 [vA (cAff a0 p c),vS p1 ag c1] I [] (yR  r):=by
 intro a0 ag r N I p c p1 c1 h h1;unfold pS at N;refine yJ func74 fun B=>yA<|vD (cAff a0 p c) ?_;intro b hb;refine wT [] []<|yT<|yL [0] [5] rfl<|zZ<|yI [6] rfl<|wQ<|pM [(1,vS p1 ag c1),(2,vP b 0),(5,vI a0.Const),(6,vI 0)] ?_;obtain ⟨aL,aC,aG⟩:=zB N;refine zFr a0 ag a0.Const 0 aL aC iR h1 h nG nO ?_;intro aR n01 heq1 ae;subst aL;refine zR<|uJ [4] rfl<|zK<|xF ?_;obtain rfl:=zE aG;exact vZ
def sO (loop:zF) (p2:(List Int)) (lo:Int) (i:Int):Option (Int):=do
 if (decide (i<(loop.Lo.length:Int))) then
  let x2<-idx loop.Lo i;let y2<-pS x2 p2;let lo2<-(do
    if (decide (y2>lo)) then pure (id y2)
    else
     pure (id lo)
      : Option Int)
  sO loop p2 lo2 (W (i+1))
 else pure (id lo)
 partial_fixpoint
theorem zFI (loop:zF) (p2:(List Int)):∀ (lo:Int) (i:Int) (o:Int),sO loop p2 lo i=some o->∀ {B}{I0 I:Imm}{Q}{y1:Int}{p c p1 c1 p3 c2}{b},I0.le I->(S4 I p3 p2 c2)->(S4 I p loop.Lo c)->(S4 I p1 loop.Hi c1)->NG Q->NO Q->(∀ I' lo1,o=lo1->I0.le I'->T 62 B Q (.exit 0) I' [hB b (cLoop loop p c p1 c1)] [(1,vS p3 p2 c2),(2,vP b 0),(6,vI lo1),(7,vI y1)])->J Tryz.prog 62 B (nav (bodyOf f153) [1,1,1,0,1,0]) Q I [hB b (cLoop loop p c p1 c1)] [(1,vS p3 p2 c2),(2,vP b 0),(6,vI lo),(7,vI y1),(8,vI i)]:=by
 refine sO.partial_correctness loop p2 _ fun aJ ih lo i o N B I0 I Q y1 p c p1 c1 p3 c2 b H h2 h h1 hg ho hx=>yZ hg ho<|yC<|yA<|yL [0] [28] rfl<|zK<|yE N ?_ ?_
 · intro hc N;refine zS<|zZ<|yH<|yA<|yD 3 [0] [32,33] rfl<|bE N fun x2 bt N=>wA rfl rfl h bt ?_;intro ad2 bR bq bu;obtain ⟨p6,c5,rfl,h7⟩:=yG bu;refine xP 0 bq (cAff x2 p6 c5) (vA (cAff x2 p6 c5)) rfl<|yD 6 [] [36] rfl<|bE N fun y2 bD N=>dL (zAB x2 p2 _ bD h7 h2) ?_;intro aV aB;have ⟨h2,h,h1,H⟩:=m4 aB h2 h h1 H;refine yL [] [9] rfl<|uJ [40] rfl<|zK ?_;refine wU N [hB b (cLoop loop p c p1 c1)] (fun lo2=>[(1,vS p3 p2 c2),(2,vP b 0),(6,vI lo2),(7,vI y1),(8,vI i)]) (fun o0 az=>?_) ?_
   · have H:=iS aV;refine yE az ?_ ?_
     · intro aH N;exact zM<|yL [] [6] rfl<|yQ<|zT (ct N H)
     intro aH N;exact zS<|yQ<|zT (ct N H)
   intro lo2 bv aF aT;have ⟨h2,h,h1,H⟩:=m4 aF h2 h h1 H;exact zP<|zK<|zM<|yL [] [8] rfl<|yX<|mC<|ih lo2 (W (i+1)) _ aT H h2 h h1 hg ho hx
 intro hc N;exact vC<|yQ<|hx _ _ (zE N).symm H
def sP (loop:zF) (p2:(List Int)) (hi:Int) (i1:Int):Option (Int):=do
 if (decide (i1<(loop.Hi.length:Int))) then
  let x3<-idx loop.Hi i1;let y3<-pS x3 p2;let hi2<-(do
    if (decide (y3<hi)) then pure (id y3)
    else
     pure (id hi)
      : Option Int)
  sP loop p2 hi2 (W (i1+1))
 else pure (id hi)
 partial_fixpoint
theorem zFJ (loop:zF) (p2:(List Int)):∀ (hi:Int) (i1:Int) (o:Int),sP loop p2 hi i1=some o->∀ {B}{I0 I:Imm}{Q}{lo1:Int}{p c p1 c1 p3 c2}{b},I0.le I->(S4 I p3 p2 c2)->(S4 I p loop.Lo c)->(S4 I p1 loop.Hi c1)->NG Q->NO Q->(∀ I' hi1,o=hi1->I0.le I'->T 62 B Q (.exit 2) I' [] [(6,vI lo1),(7,vI hi1)])->J Tryz.prog 62 B (nav (bodyOf f153) [1,1,1,1,0,1,0]) Q I [hB b (cLoop loop p c p1 c1)] [(1,vS p3 p2 c2),(2,vP b 0),(6,vI lo1),(7,vI hi),(10,vI i1)]:=by
 refine sP.partial_correctness loop p2 _ fun aJ ih hi i1 o N B I0 I Q lo1 p c p1 c1 p3 c2 b H h2 h h1 hg ho hx=>yZ hg ho<|yC<|yA<|yL [0] [46] rfl<|zK<|yE N ?_ ?_
 · intro bf N;refine zS<|zZ<|yH<|yA<|yD 3 [0] [50,51] rfl<|bE N fun x3 hy6 N=>wA rfl rfl h1 hy6 ?_;intro ad3 ccs3 hat3 bI;obtain ⟨p7,c6,rfl,h9⟩:=yG bI;refine xP 0 hat3 (cAff x3 p7 c6) (vA (cAff x3 p7 c6)) rfl<|yD 6 [] [54] rfl<|bE N fun y3 hy7 N=>dL (zAB x3 p2 _ hy7 h9 h2) ?_;intro bO bi;have ⟨h2,h,h1,H⟩:=m4 bi h2 h h1 H;refine yL [] [11] rfl<|uJ [58] rfl<|zK ?_;refine wU N [hB b (cLoop loop p c p1 c1)] (fun hi2=>[(1,vS p3 p2 c2),(2,vP b 0),(6,vI lo1),(7,vI hi2),(10,vI i1)]) (fun o02 ho02=>?_) ?_
   · have H:=iS bO;refine yE ho02 ?_ ?_
     · intro bG N;exact zM<|yL [] [7] rfl<|yQ<|zT (ct N H)
     intro bG N;exact zS<|yQ<|zT (ct N H)
   intro hi2 I06 bB hMc1;have ⟨h2,h,h1,H⟩:=m4 bB h2 h h1 H;exact zP<|zK<|zM<|yL [] [10] rfl<|yX<|mC<|ih hi2 (W (i1+1)) _ hMc1 H h2 h h1 hg ho hx
 intro bf N;exact vC<|wH zN<|yQ<|hx _ _ (zE N).symm H
def kL (loop:zF) (p2:(List Int)):Option (Int×Int):=do
 let x<-idx loop.Lo 0;let y<-pS x p2;let x1<-idx loop.Hi 0;let y1<-pS x1 p2;let lo1<-sO loop p2 y 1;let hi1<-sP loop p2 y1 1;pure (lo1,hi1)
theorem zDU:∀ loop p2 r,kL loop p2=some r->∀ {I:Imm}{p c p1 c1 p3 c2},(S4 I p loop.Lo c)->(S4 I p1 loop.Hi c1)->(S4 I p3 p2 c2)->RT 153 [vA (cLoop loop p c p1 c1),vS p3 p2 c2] I [] (zAQ  r):=by
 intro loop p2 r N I p c p1 c1 p3 c2 h h1 h2;unfold kL at N;refine yJ func153 fun B=>yA<|vD (cLoop loop p c p1 c1) ?_;intro b hb;refine wT [] []<|yT<|yD 2 [0] [13] rfl<|bE N fun x hy N=>wA rfl rfl h hy ?_;intro ad aK ap al;obtain ⟨p4,c3,rfl,h3⟩:=yG al;refine xP 0 ap (cAff x p4 c3) (vA (cAff x p4 c3)) rfl<|yD 5 [] [16] rfl<|bE N fun y ax N=>dL (zAB x p2 _ ax h3 h2) ?_;intro I0 le;have ⟨h2,h,h1⟩:=m3 le h2 h h1;refine yL [] [6] rfl<|yT<|yD 2 [0] [19] rfl<|bE N fun x1 aE N=>wA rfl rfl h1 aE ?_;intro ad1 bo ay aA;obtain ⟨p5,c4,rfl,h5⟩:=yG aA;refine xP 0 ay (cAff x1 p5 c4) (vA (cAff x1 p5 c4)) rfl<|yD 5 [] [22] rfl<|bE N fun y1 bj N=>dL (zAB x1 p2 _ bj h5 h2) ?_;intro aR ae;have ⟨h2,h,h1⟩:=m3 ae h2 h h1;refine yL [] [7] rfl<|zZ<|yI [8] rfl<|wQ<|pM [(1,vS p3 p2 c2),(2,vP b 0),(6,vI y),(7,vI y1),(8,vI 1)] ?_;obtain ⟨aL,aC,aG⟩:=zB N;refine zFI loop p2 y 1 aL aC iR h2 h h1 nG nO ?_;intro bH lo1 heq1 aX;subst aL;have ⟨h2,h,h1⟩:=m3 aX h2 h h1;refine zR<|zZ<|yI [10] rfl<|wQ<|pM [(1,vS p3 p2 c2),(2,vP b 0),(6,vI lo1),(7,vI y1),(10,vI 1)] ?_;obtain ⟨o03,ho03,hMl1⟩:=zB aG;refine zFJ loop p2 y1 1 o03 ho03 iR h2 h h1 nG nO ?_;intro I07 hi1 heq3 le7;subst o03;refine zR<|uJ [4,5] rfl<|zK<|xF ?_;exact xO hMl1 (resU rfl rfl) zN ⟨_,_,rfl,rfl,rfl,rfl⟩
def zBe (r:(List (List Int))):KT:=fun kk I' ah v=>
  ∃ a0 c0 s0,ah=[.osl (.slice a0 r.length c0) (Rp.sz (List Int)) s0]/\v=tupV [(.slice a0 r.length c0)]/\RepL (Rp.rep I') (Rp.sz (List Int)) s0 r
mutual
def tX (out:(List (List Int))) (nest:(List zF)) (p2:(List Int)):Option ((List (List Int))):=do
 if ((p2.length:Int)==(nest.length:Int)) then
  let l<-app 8 ([]:List Int) p2;let t6<-app 24 out ([l]:List (List Int));pure (id t6)
 else
  let x<-idx nest (p2.length:Int);let (y1,y2)<-kL x p2;let au<-rA (same nest) (same p2) (same y2) (same out) (same y1);pure (id au)
 partial_fixpoint
def rA (nest:(List zF)) (p2:(List Int)) (y2:Int) (am:List (List Int)) (v04:Int):Option (List (List Int)):=do
 let t39<-(do
   if (decide (v04<y2)) then pure (decide ((am.length:Int)<=120))
   else
    pure false
     : Option Bool)
 if t39 then
  let l1<-app 8 ([]:List Int) p2;let l2<-app 8 l1 ([v04]:List Int);let y3<-tX (same am) (same nest) (same l2);rA (same nest) (same p2) (same y2) (same y3) (W (v04+1))
 else pure (id am)
 partial_fixpoint
end
theorem zFs:(∀ (out:(List (List Int))) (nest:(List zF)) (p2:(List Int)) r,tX out nest p2=some r->∀ {I:Imm}{p c cs p1 c1 p3 c2},(RL I cs out)->(S4 I p1 nest c1)->(S4 I p3 p2 c2)->RT 113 [vS p out c,vS p1 nest c1,vS p3 p2 c2] I [hO (List Int) (vS p out c) cs] (zBe  r))/\(∀ (nest:(List zF)) (p2:(List Int)) (y2:Int) (am:List (List Int)) (v04:Int) o,rA nest p2 y2 am v04=some o->∀ {B}{I0 I:Imm}{Q p1 c1 p3 c2 p8 c7 aO},I0.le I->(S4 I p1 nest c1)->(S4 I p3 p2 c2)->(RL I aO am)->NG Q->NO Q->(∀ I' au p9 c8 bw,o=au->I0.le I'->(RL I' bw au)->T 52 B Q (.exit 0) I' [hO (List Int) (vS p9 au c8) bw] [(0,vS p9 au c8)])->J Tryz.prog 52 B (nav (bodyOf f113) [1,1,1,0,1,0]) Q I [hO (List Int) (vS p8 am c7) aO] [(0,vS p8 am c7),(1,vS p1 nest c1),(2,vS p3 p2 c2),(8,vI y2),(9,vI v04)]):=by
  refine tX.mutual_partial_correctness _ _ ?_ ?_
  · intro F_spec_l2Points_l1 ih_spec_l2Points_l1 out nest p2 r N I p c cs p1 c1 p3 c2 h h1 h2;refine yJ func113 fun B=>vK []<|zZ<|yI [14] rfl<|zK<|yE N ?_ ?_
    · intro hc N;refine yA<|yD 1 [] [15] rfl<|tK [] Int ?_;intro b hb;have h3:RL I [] ([]:List Int):=rfl;refine yD 3 [] [17] rfl ?_;obtain ⟨aK,k0,k01⟩:=h2;have h2:SL I (vS p3 p2 c2) p2:=⟨_,k0,k01⟩;obtain ⟨l,hy,N⟩:=zB N;refine qA 3 1 0 rfl rfl rfl h3 (.inl k0) k01 hy fun p4 c3 aw h4=>tU (zY [0,1] (ah:=[hO Int (vS p4 l c3) aw,hO (List Int) (vS p out c) cs]))<|wC 0 rfl ?_;intro I0 le hl0;have h5:=SL.of_frozen hl0 le h4;have h:=iM le h;refine tK [vS p4 l c3] (List Int) ?_;intro b1 hb1;have h6:RL I0 [vS p4 l c3] ([l]:List (List Int)):=⟨[vS p4 l c3],_,rfl,rfl,⟨_,rfl,h5⟩,rfl⟩;obtain ⟨t6,ax,N⟩:=zB N;refine qA 39 1 1 rfl rfl rfl h (.inr ⟨0,rfl⟩) h6 ax fun p5 c4 aU h7=>tU (zY [1] (ah:=[hO (List Int) (vS p5 t6 c4) aU]))<|yL [] [6] rfl<|xL<|zI ?_;exact xO N (resT rfl) (zW [0] rfl (by decide)) ⟨_,_,_,rfl,rfl,h7⟩
    intro hc N;refine zS<|yT<|yD 3 [] [22,24] rfl<|bE N fun x aE N=>wA rfl rfl h1 aE ?_;intro ad bo ap al;obtain ⟨p6,c5,p7,c6,rfl,h8,h9⟩:=vJ al;refine xP 0 ap (cLoop x p6 c5 p7 c6) (vA (cLoop x p6 c5 p7 c6)) rfl<|yD 6 [] [27] rfl ?_;obtain ⟨⟨y1,y2⟩,bj,N⟩:=zB N;refine xJ (zDU x p2 _ bj h8 h9 h2) ?_;rintro aR av v2 k2 ae - ⟨v02,v03,rfl,rfl,rfl,rfl⟩ -;have ⟨h,h1,h2⟩:=m3 ae h h1 h2;refine yL [] [7,8] rfl<|zZ<|yI [9] rfl<|wQ<|pM [(0,vS p out c),(1,vS p1 nest c1),(2,vS p3 p2 c2),(8,vI y2),(9,vI y1)] ?_;obtain ⟨aL,aC,aG⟩:=zB N;refine ih_spec_l2Points_l1 nest p2 y2 out y1 aL aC iR h1 h2 h nG nO ?_;intro bO au p9 c8 bw heq1 bi h13;subst aL;refine zR<|uJ [6] rfl<|zK<|xF ?_;exact xO aG (resT rfl) (zW [0] rfl (by decide)) ⟨_,_,_,rfl,rfl,h13⟩
  intro F_spec_l2Points F_spec_l2Points_l1 ih_spec_l2Points ih_spec_l2Points_l1 nest p2 y2 am v04 o N B I0 I Q p1 c1 p3 c2 p8 c7 aO H h1 h2 h12 hg ho hx;refine yZ hg ho<|yC<|yC ?_;refine wU N [hO (List Int) (vS p8 am c7) aO] (fun t39=>[(0,vS p8 am c7),(1,vS p1 nest c1),(2,vS p3 p2 c2),(8,vI y2),(9,vI v04),(39,.bool t39)]) (fun o0 az=>?_) ?_
  · have H:=iS I;refine zM<|yD 4 [] [35] rfl<|wD [35] az ?_ ?_
    · intro aH N;exact yL [] [39] rfl<|yQ<|zT (ct N H)
    intro aH N;exact wT [] [(39,vF)]<|yQ<|zT (ct N H)
  intro t39 aV aB aT;have ⟨h12,h1,h2,H⟩:=m4 aB h12 h1 h2 H;refine zK<|yE aT ?_ ?_
  · intro bf N;refine zS<|zZ<|yH<|zM<|yD 2 [] [42,43] rfl<|tK [] Int ?_;intro b2 hb2;have h14:RL aV [] ([]:List Int):=rfl;refine yD 4 [] [45] rfl ?_;obtain ⟨bR,k02,k03⟩:=h2;have h2:SL aV (vS p3 p2 c2) p2:=⟨_,k02,k03⟩;obtain ⟨l1,bt,N⟩:=zB N;refine qA 3 1 0 rfl rfl rfl h14 (.inl k02) k03 bt fun aM c9 bC h15=>tU (zY [0,1] (ah:=[hO Int (vS aM l1 c9) bC,hO (List Int) (vS p8 am c7) aO]))<|yD 6 [] [47] rfl<|tK [vI v04] Int ?_;intro b3 hb3;have h16:RL aV [vI v04] ([v04]:List Int):=rI [v04];obtain ⟨l2,bD,N⟩:=zB N;refine qA 3 1 1 rfl rfl rfl h15 (.inr ⟨0,rfl⟩) h16 bD fun aI aP cs6 h17=>tU (zY [1,2] (ah:=[hO Int (vS aI l2 aP) cs6,hO (List Int) (vS p8 am c7) aO]))<|wC 0 rfl ?_;intro bv aF hl01;have h18:=SL.of_frozen hl01 aF h17;have ⟨h1,h2,h12,H⟩:=m4 aF h1 h2 h12 H;obtain ⟨y3,hy6,N⟩:=zB N;refine rC (ih_spec_l2Points am nest l2 _ hy6 h12 h1 h18) rfl ?_;rintro bH av v2 k2 aX - ⟨bm,aQ,cs7,rfl,rfl,h19⟩ -;have ⟨h1,h2,H⟩:=m3 aX h1 h2 H;exact yL [] [0] rfl<|zP<|zK<|zM<|yL [] [9] rfl<|yX<|mC<|ih_spec_l2Points_l1 nest p2 y2 y3 (W (v04+1)) _ N H h1 h2 h19 hg ho hx
  intro bf N;exact vC<|yQ<|hx _ _ _ _ _ (zE N).symm H h12
theorem zGo:∀ out nest p2 r,tX out nest p2=some r->∀ {I:Imm}{p c cs p1 c1 p3 c2},(RL I cs out)->(S4 I p1 nest c1)->(S4 I p3 p2 c2)->RT 113 [vS p out c,vS p1 nest c1,vS p3 p2 c2] I [hO (List Int) (vS p out c) cs] (zBe  r):=zFs.1
def rH (list:(List zA)) (aa:Int) (i:Int):Option (Out Unit (Bool)):=do
 if (decide (i<(list.length:Int))) then
  let t26<-(do
    let x<-idx list i;let y<-tN x;if (!y) then pure true
    else
     let x1<-idx list i;let y1<-pR x1;pure (decide (y1>aa))
      : Option Bool)
  if t26 then pure (.ret false)
  else rH list aa (W (i+1))
 else pure (.done ())
 partial_fixpoint
theorem zFt (list:(List zA)) (aa:Int):∀ (i:Int) (o:Out Unit (Bool)),rH list aa i=some o->∀ {B}{I0 I:Imm}{Q p c},I0.le I->(S4 I p list c)->NG Q->NO Q->(∀ I',o=(.done ())->I0.le I'->T 35 B Q (.exit 0) I' [] [(0,vS p list c)])->(∀ r I' ah m',o=(.ret r)->I0.le I'->RS Tryz.prog f180 B (zQ  r) I' ah m'->T 35 B Q .ret I' ah m')->J Tryz.prog 35 B (nav (bodyOf f180) [1,0,1,0]) Q I [] [(0,vS p list c),(1,vI aa),(5,vI i)]:=by
 refine rH.partial_correctness list aa _ fun aJ ih i o N B I0 I Q p c H h hg ho hx hr=>yZ hg ho<|yC<|yI [9] rfl<|zK<|yE N ?_ ?_
 · intro hc N;refine zS<|zZ<|yH<|yC ?_;refine wU N [] (fun t26=>[(0,vS p list c),(1,vI aa),(5,vI i),(26,.bool t26)]) (fun o0 az=>?_) ?_
   · have H:=iS I;refine zM<|yD 2 [] [12,13] rfl ?_;obtain ⟨x,hy,N⟩:=zB az;refine wA rfl rfl h hy ?_;intro ad aK ap al;obtain ⟨p1,c1,rfl,h1⟩:=yG al;refine xP 0 ap (cAff x p1 c1) (vA (cAff x p1 c1)) rfl<|bE N fun y ax N=>vR (fR x _ ax h1) ?_;intro aR le;have ⟨h,H⟩:=m2 le h H;refine yD 7 [] [18] rfl<|wD [18] N ?_ ?_
     · intro aH N;exact wT [] [(26,vY)]<|yQ<|zT (ct N H)
     intro aH N;refine yD 9 [] [19,20] rfl<|bE N fun x1 aE N=>wA rfl rfl h aE ?_;intro ad1 bo ay aA;obtain ⟨p2,c2,rfl,h3⟩:=yG aA;refine xP 0 ay (cAff x1 p2 c2) (vA (cAff x1 p2 c2)) rfl<|bE N fun y1 bj N=>dL (zA6 x1 _ bj h3) ?_;intro aV ae;have H:=H.trans ae;exact yL [] [26] rfl<|yQ<|zT (ct N H)
   intro t26 I0 aB aT;have ⟨h,H⟩:=m2 aB h H;refine zK<|yE aT ?_ ?_
   · intro bf N;exact vK [(4,vF)]<|xL<|zV<|zI<|zI<|hr _ _ _ _ (zE N).symm H ⟨_,_,(resT rfl),zN,⟨_,rfl,rfl,rfl⟩⟩
   intro bf N;exact zS<|zP<|zK<|zM<|yL [] [5] rfl<|yX<|mC<|ih (W (i+1)) _ N H h hg ho hx hr
 intro hc N;exact vC<|yQ<|hx _  (zE N).symm H
def jK (list:(List zA)) (aa:Int):Option (Bool):=do
 match<-rH list aa 0 with
 | .ret r0=>pure r0
 | .done _ =>
  let t4<-(do
    if (decide ((list.length:Int)>=1)) then pure (decide ((list.length:Int)<=2))
    else
     pure false
      : Option Bool)
  pure (id t4)
theorem zDo:∀ list aa r,jK list aa=some r->∀ {I:Imm}{p c},(S4 I p list c)->RT 180 [vS p list c,vI aa] I [] (zQ  r):=by
 intro list aa r N I p c h;unfold jK at N;refine yJ func180 fun B=>?_;have H:=iS I;refine vK []<|zZ<|yI [5] rfl<|wQ<|pM [(0,vS p list c),(1,vI aa),(5,vI 0)] ?_;obtain ⟨aL,aC,aG⟩:=zB N;refine zFt list aa 0 aL aC iR h nG nO ?_ ?_
 · intro bv  heq1 aF;subst aL;have H:=H.trans aF;refine zR<|zK<|yC ?_;refine wU aG [] (fun t4=>[(4,.bool t4)]) (fun o02 ho02=>?_) ?_
   · have H:=iS bv;refine zM<|yD 4 [] [30] rfl<|wD [30] ho02 ?_ ?_
     · intro bG N;exact yL [] [4] rfl<|yQ<|zT (ct N H)
     intro bG N;exact wT [] [(4,vF)]<|yQ<|zT (ct N H)
   intro t4 bH aX hMc1;refine zK<|xF ?_;obtain rfl:=zE hMc1;exact vZ
 intro r0 I9 hs9 m9 aY le9 aZ;subst aY;refine zV<|zI ?_;obtain rfl:=zE aG;exact dB aZ
def uB (nest:(List zF)) (i:Int):Option (Out Unit (Bool)):=do
 let t12<-(do
   if (decide (i<(nest.length:Int))) then pure (decide ((nest.length:Int)<=4))
   else
    pure false
     : Option Bool)
 if t12 then
  let t32<-(do
    let x<-idx nest i;let y<-jK x.Lo i;if (!y) then pure true
    else
     let x1<-idx nest i;let y1<-jK x1.Hi i;pure (!y1)
      : Option Bool)
  if t32 then pure (.ret false)
  else uB nest (W (i+1))
 else pure (.done ())
 partial_fixpoint
theorem zDp (nest:(List zF)):∀ (i:Int) (o:Out Unit (Bool)),uB nest i=some o->∀ {B}{I0 I:Imm}{Q p c},I0.le I->(S4 I p nest c)->NG Q->NO Q->(∀ I',o=(.done ())->I0.le I'->T 36 B Q (.exit 0) I' [] [(0,vS p nest c)])->(∀ r I' ah m',o=(.ret r)->I0.le I'->RS Tryz.prog f149 B (zQ  r) I' ah m'->T 36 B Q .ret I' ah m')->J Tryz.prog 36 B (nav (bodyOf f149) [1,0,1,0]) Q I [] [(0,vS p nest c),(3,vI i)]:=by
 refine uB.partial_correctness nest _ fun aJ ih i o N B I0 I Q p c H h hg ho hx hr=>yZ hg ho<|yC<|yC ?_;refine wU N [] (fun t12=>[(0,vS p nest c),(3,vI i),(12,.bool t12)]) (fun o0 az=>?_) ?_
 · have H:=iS I;refine zM<|yD 5 [] [8] rfl<|wD [8] az ?_ ?_
   · intro hc N;exact yL [] [12] rfl<|yQ<|zT (ct N H)
   intro hc N;exact wT [] [(12,vF)]<|yQ<|zT (ct N H)
 intro t12 I0 le aT;have ⟨h,H⟩:=m2 le h H;refine zK<|yE aT ?_ ?_
 · intro aH N;refine zS<|zZ<|yH<|yC ?_;refine wU N [] (fun t32=>[(0,vS p nest c),(3,vI i),(32,.bool t32)]) (fun aL aC=>?_) ?_
   · have H:=iS I0;refine zM<|yD 2 [] [15,16] rfl ?_;obtain ⟨x,hy,N⟩:=zB aC;refine wA rfl rfl h hy ?_;intro ad aK ap al;obtain ⟨p1,c1,p2,c2,rfl,h1,h2⟩:=vJ al;refine yD 4 [] [18] rfl<|xP 0 ap [vS p1 x.Lo c1] (vS p1 x.Lo c1) rfl<|yD 6 [] [20] rfl<|bE N fun y ax N=>vR (zDo x.Lo i _ ax h1) ?_;intro aV ae;have ⟨h,H⟩:=m2 ae h H;refine yD 9 [] [23] rfl<|wD [23] N ?_ ?_
     · intro bf N;exact wT [] [(32,vY)]<|yQ<|zT (ct N H)
     intro bf N;refine yD 11 [] [24,25] rfl<|bE N fun x1 aE N=>wA rfl rfl h aE ?_;intro ad1 bo ay aA;obtain ⟨p3,c3,p4,c4,rfl,h4,h5⟩:=vJ aA;refine yD 13 [] [27] rfl<|xP 1 ay [vS p4 x1.Hi c4] (vS p4 x1.Hi c4) rfl<|yD 15 [] [29] rfl<|bE N fun y1 bj N=>vR (zDo x1.Hi i _ bj h5) ?_;intro bv aB;have H:=H.trans aB;exact yL [] [32] rfl<|yQ<|zT (ct N H)
   intro t32 aR aF hMc1;have ⟨h,H⟩:=m2 aF h H;refine zK<|yE hMc1 ?_ ?_
   · intro bG N;exact vK [(2,vF)]<|xL<|zV<|zI<|zI<|hr _ _ _ _ (zE N).symm H ⟨_,_,(resT rfl),zN,⟨_,rfl,rfl,rfl⟩⟩
   intro bG N;exact zS<|zP<|zK<|zM<|yL [] [3] rfl<|yX<|mC<|ih (W (i+1)) _ N H h hg ho hx hr
 intro aH N;exact vC<|yQ<|hx _  (zE N).symm H
def mN (nest:(List zF)):Option (Bool):=do
 match<-uB nest 0 with
 | .ret r0=>pure r0
 | .done _ =>
  pure (decide ((nest.length:Int)<=4))
theorem zFu:∀ nest r,mN nest=some r->∀ {I:Imm}{p c},(S4 I p nest c)->RT 149 [vS p nest c] I [] (zQ  r):=by
 intro nest r N I p c h;unfold mN at N;refine yJ func149 fun B=>vK []<|zZ<|yI [3] rfl<|wQ<|pM [(0,vS p nest c),(3,vI 0)] ?_;obtain ⟨o02,ho02,aG⟩:=zB N;refine zDp nest 0 o02 ho02 iR h nG nO ?_ ?_
 · intro bH  heq2 aX;subst o02;refine zR<|uJ [2] rfl<|zK<|xF ?_;obtain rfl:=zE aG;exact vZ
 intro r0 I9 hs9 m9 aY le9 aZ;subst aY;refine zV<|zI ?_;obtain rfl:=zE aG;exact dB aZ
mutual
def qM (nest:(List zF)) (p1:(List Int)) (most:Int):Option (Int):=do
 if ((p1.length:Int)==(nest.length:Int)) then pure (id 1)
 else
  let x<-idx nest (p1.length:Int);let (y1,y2)<-kL x p1;let n01<-qW (same nest) (same p1) (same most) (same y2) (same 1) (same y1);pure (id n01)
 partial_fixpoint
def qW (nest:(List zF)) (p1:(List Int)) (most:Int) (y2:Int) (n0:Int) (v04:Int):Option (Int):=do
 let t35<-(do
   if (decide (v04<y2)) then pure (decide (n0<=most))
   else
    pure false
     : Option Bool)
 if t35 then
  let l<-app 8 ([]:List Int) p1;let l1<-app 8 l ([v04]:List Int);let y3<-qM (same nest) (same l1) (W (most - n0));qW (same nest) (same p1) (same most) (same y2) (W (n0+y3)) (W (v04+1))
 else pure (id n0)
 partial_fixpoint
end
theorem zHX:(∀ (nest:(List zF)) (p1:(List Int)) (most:Int) r,qM nest p1 most=some r->∀ {I:Imm}{p c p2 c1},(S4 I p nest c)->(S4 I p2 p1 c1)->RT 150 [vS p nest c,vS p2 p1 c1,vI most] I [] (yR  r))/\(∀ (nest:(List zF)) (p1:(List Int)) (most:Int) (y2:Int) (n0:Int) (v04:Int) o,qW nest p1 most y2 n0 v04=some o->∀ {B}{I0 I:Imm}{Q p c p2 c1},I0.le I->(S4 I p nest c)->(S4 I p2 p1 c1)->NG Q->NO Q->(∀ I' n01,o=n01->I0.le I'->T 52 B Q (.exit 0) I' [] [(7,vI n01)])->J Tryz.prog 52 B (nav (bodyOf f150) [1,1,1,1,0,1,0]) Q I [] [(0,vS p nest c),(1,vS p2 p1 c1),(2,vI most),(7,vI n0),(9,vI y2),(10,vI v04)]):=by
  refine qM.mutual_partial_correctness _ _ ?_ ?_
  · intro F_spec_l2Work_l1 ih_spec_l2Work_l1 nest p1 most r N I p c p2 c1 h h1;refine yJ func150 fun B=>vK []<|uJ [7] rfl<|zZ<|yI [15] rfl<|zK<|yE N ?_ ?_
    · intro hc N;refine yI [6] rfl<|xL<|zI ?_;obtain rfl:=zE N;exact vZ
    intro hc N;refine zS<|yT<|yD 3 [] [18,20] rfl<|bE N fun x hy N=>wA rfl rfl h hy ?_;intro ad aK ap al;obtain ⟨p3,c2,p4,c3,rfl,h2,h3⟩:=vJ al;refine xP 0 ap (cLoop x p3 c2 p4 c3) (vA (cLoop x p3 c2 p4 c3)) rfl<|yD 6 [] [23] rfl ?_;obtain ⟨⟨y1,y2⟩,ax,N⟩:=zB N;refine xJ (zDU x p1 _ ax h2 h3 h1) ?_;rintro I0 av v2 k2 le - ⟨v02,v03,rfl,rfl,rfl,rfl⟩ -;have ⟨h,h1⟩:=m2 le h h1;refine yL [] [8,9] rfl<|zZ<|yI [10] rfl<|wQ<|pM [(0,vS p nest c),(1,vS p2 p1 c1),(2,vI most),(7,vI 1),(9,vI y2),(10,vI y1)] ?_;obtain ⟨aL,aC,aG⟩:=zB N;refine ih_spec_l2Work_l1 nest p1 most y2 1 y1 aL aC iR h h1 nG nO ?_;intro bH n01 heq1 aX;subst aL;refine zR<|uJ [6] rfl<|zK<|xF ?_;obtain rfl:=zE aG;exact vZ
  intro F_spec_l2Work F_spec_l2Work_l1 ih_spec_l2Work ih_spec_l2Work_l1 nest p1 most y2 n0 v04 o N B I0 I Q p c p2 c1 H h h1 hg ho hx;refine yZ hg ho<|yC<|yC ?_;refine wU N [] (fun t35=>[(0,vS p nest c),(1,vS p2 p1 c1),(2,vI most),(7,vI n0),(9,vI y2),(10,vI v04),(35,.bool t35)]) (fun o0 az=>?_) ?_
  · have H:=iS I;refine zM<|yD 4 [] [31] rfl<|wD [31] az ?_ ?_
    · intro aH N;exact yL [] [35] rfl<|yQ<|zT (ct N H)
    intro aH N;exact wT [] [(35,vF)]<|yQ<|zT (ct N H)
  intro t35 aR ae aT;have ⟨h,h1,H⟩:=m3 ae h h1 H;refine zK<|yE aT ?_ ?_
  · intro bf N;refine zS<|zZ<|yH<|zM<|yD 2 [] [38,39] rfl<|tK [] Int ?_;intro b hb;have h6:RL aR [] ([]:List Int):=rfl;refine yD 4 [] [41] rfl ?_;obtain ⟨bo,k0,k01⟩:=h1;have h1:SL aR (vS p2 p1 c1) p1:=⟨_,k0,k01⟩;obtain ⟨l,aE,N⟩:=zB N;refine qA 3 1 0 rfl rfl rfl h6 (.inl k0) k01 aE fun p5 c4 cs h7=>tU (zY [0] (ah:=[hO Int (vS p5 l c4) cs]))<|yD 6 [] [43] rfl<|tK [vI v04] Int ?_;intro b1 hb1;have h8:RL aR [vI v04] ([v04]:List Int):=rI [v04];obtain ⟨l1,bj,N⟩:=zB N;refine qA 3 1 1 rfl rfl rfl h7 (.inr ⟨0,rfl⟩) h8 bj fun p6 c5 aw h9=>tU (zY [1] (ah:=[hO Int (vS p6 l1 c5) aw]))<|yD 11 [] [48] rfl<|wC 0 rfl ?_;intro aV aB hl0;have h10:=SL.of_frozen hl0 aB h9;have ⟨h,h1,H⟩:=m3 aB h h1 H;obtain ⟨y3,bt,N⟩:=zB N;refine xJ (ih_spec_l2Work nest l1 (W (most - n0)) _ bt h h10) ?_;rintro bv av v2 k2 aF - ⟨v05,rfl,rfl,rfl⟩ -;have ⟨h,h1,H⟩:=m3 aF h h1 H;exact yL [] [7] rfl<|zP<|zK<|zM<|yL [] [10] rfl<|yX<|mC<|ih_spec_l2Work_l1 nest p1 most y2 (W (n0+y3)) (W (v04+1)) _ N H h h1 hg ho hx
  intro bf N;exact vC<|yQ<|hx _ _ (zE N).symm H
theorem zIL:∀ nest p1 most r,qM nest p1 most=some r->∀ {I:Imm}{p c p2 c1},(S4 I p nest c)->(S4 I p2 p1 c1)->RT 150 [vS p nest c,vS p2 p1 c1,vI most] I [] (yR  r):=zHX.1
def nD (nest:(List zF)):Option ((List (List Int))×Bool):=do
 let t12<-(do
   let y<-mN nest;if (!y) then pure true
   else
    let y1<-qM nest ([]:List Int) 1200;pure (decide (y1>1200))
     : Option Bool)
 if t12 then pure (([]:List (List Int)),false)
 else
  let y2<-tX ([]:List (List Int)) nest ([]:List Int);if (decide ((y2.length:Int)>120)) then pure (([]:List (List Int)),false)
  else pure (y2,true)
theorem zFK:∀ nest r,nD nest=some r->∀ {I:Imm}{p c},(S4 I p nest c)->RT 109 [vS p nest c] I [] (zBG  r):=by
 intro nest r N I p c h;unfold nD at N;refine yJ func109 fun B=>?_;have H:=iS I;refine vK []<|zZ<|yC ?_;refine wU N [] (fun t12=>[(0,vS p nest c),(12,.bool t12)]) (fun o0 az=>?_) ?_
 · have H:=iS I;refine zM<|yD 1 [] [5] rfl ?_;obtain ⟨y,hy,N⟩:=zB az;refine vR (zFu nest _ hy h) ?_;intro aR le;have ⟨h,H⟩:=m2 le h H;refine yD 4 [] [8] rfl<|wD [8] N ?_ ?_
   · intro hc N;exact wT [] [(12,vY)]<|yQ<|zT (ct N H)
   intro hc N;refine yD 5 [] [9] rfl<|bE N fun y1 ax N=>dL (zIL nest ([]:List Int) 1200 _ ax h (SL.nil _)) ?_;intro aV ae;have H:=H.trans ae;exact yL [] [12] rfl<|yQ<|zT (ct N H)
 intro t12 I0 aB aT;have h:=h.mono aB;refine zK<|yE aT ?_ ?_
 · intro aH N;refine yA<|tK [] (List Int) ?_;intro b hb;have h3:RL I0 [] ([]:List (List Int)):=rfl;refine yL [] [2,3] rfl<|xL<|zI<|xA 0 rfl ?_;intro bv aF hl0;have h4:=SL.of_frozen hl0 aF h3;exact xO N (resU rfl rfl) zN ⟨_,_,rfl,rfl,h4,rfl⟩
 intro aH N;refine zS<|yT<|tK [] (List Int) ?_;intro b1 hb1;have h5:RL I0 [] ([]:List (List Int)):=rfl;refine yD 2 [] [15] rfl<|bE N fun y2 aE N=>rC (zGo ([]:List (List Int)) nest ([]:List Int) _ aE h5 h (SL.nil _)) rfl ?_;rintro bH av v2 k2 aX - ⟨p1,c1,cs,rfl,rfl,h6⟩ -;refine yL [] [4] rfl<|zZ<|yI [19] rfl<|zK<|yE N ?_ ?_
 · intro bf N;refine yA<|tK [] (List Int) ?_;intro b2 hb2;have h7:RL bH [] ([]:List (List Int)):=rfl;refine yL [] [2,3] rfl<|xL<|zI<|xA 0 rfl ?_;intro bO bi hl01;have h8:=SL.of_frozen hl01 bi h7;exact xO N (resU rfl rfl) zN ⟨_,_,rfl,rfl,h8,rfl⟩
 intro bf N;refine zS<|uJ [2,3] rfl<|xL<|xA 0 rfl ?_;intro I06 bB hl02;have h9:=SL.of_frozen hl02 bB h6;exact xO N (resU rfl rfl) zN ⟨_,_,rfl,rfl,h9,rfl⟩
def zCA (r:(List zJ)):KT:=fun kk I' ah v=>
  ∃ a0 c0 s0,ah=[.osl (.slice a0 r.length c0) (Rp.sz zJ) s0]/\v=tupV [(.slice a0 r.length c0)]/\RepL (Rp.rep I') (Rp.sz zJ) s0 r
mutual
def qH (out:(List zJ)) (e0:zC):Option ((List zJ)):=do
 let am<-(do
   if (e0.Kind==3) then
    let y<-uA e0.Read;let au<-app 40 out ([y]:List zJ);pure (id au)
   else
    pure (id out)
     : Option (List zJ))
 let bM<-vV (same e0) (same am) (same 0);pure (id bM)
 partial_fixpoint
def vV (e0:zC) (bx:List zJ) (i:Int):Option (List zJ):=do
 if (decide (i<(e0.Kids.length:Int))) then
  let x<-idx e0.Kids i;let y1<-qH (same bx) (same x);vV (same e0) (same y1) (W (i+1))
 else pure (id bx)
 partial_fixpoint
end
theorem zGp:(∀ (out:(List zJ)) (e0:zC) r,qH out e0=some r->∀ {I:Imm}{p c cs p1 c1 p2 c2 p3 c3},(RL I cs out)->(S4 I p1 e0.Index.Coefs c1)->(S4 I p2 e0.Read.Subs c2)->(S4 I p3 e0.Kids c3)->RT 73 [vS p out c,vA (cExpr e0 p1 c1 p2 c2 p3 c3)] I [hO zJ (vS p out c) cs] (zCA  r))/\(∀ (e0:zC) (bx:List zJ) (i:Int) o,vV e0 bx i=some o->∀ {B}{I0 I:Imm}{Q p1 c1 p2 c2 p3 c3}{b}{p7 c7 bw},I0.le I->(S4 I p1 e0.Index.Coefs c1)->(S4 I p2 e0.Read.Subs c2)->(S4 I p3 e0.Kids c3)->(RL I bw bx)->NG Q->NO Q->(∀ I' bM p8 c8 bC,o=bM->I0.le I'->(RL I' bC bM)->T 30 B Q (.exit 0) I' [hO zJ (vS p8 bM c8) bC] [(0,vS p8 bM c8)])->J Tryz.prog 30 B (nav (bodyOf f73) [1,1,0,1,0]) Q I [hB b (cExpr e0 p1 c1 p2 c2 p3 c3),hO zJ (vS p7 bx c7) bw] [(0,vS p7 bx c7),(3,vP b 0),(5,vI i)]):=by
  refine qH.mutual_partial_correctness _ _ ?_ ?_
  · intro F_spec_l3Reads_l1 ih_spec_l3Reads_l1 out e0 r N I p c cs p1 c1 p2 c2 p3 c3 h h1 h2 h3;refine yJ func73 fun B=>?_;have H:=iS I;refine yA<|vD (cExpr e0 p1 c1 p2 c2 p3 c3) ?_;intro b hb;refine wT [] []<|zZ<|yA<|yL [0] [8] rfl<|zK ?_;obtain ⟨o0,az,aT⟩:=zB N;refine nT (fun I' ah m'=>∃ (am:List zJ) (p4:Option Addr) (c4:Nat) (aw:List Value),o0=am/\I.le I'/\(RL I' aw am)/\ah=[hB b (cExpr e0 p1 c1 p2 c2 p3 c3),hO zJ (vS p4 am c4) aw]/\m'=[(0,vS p4 am c4),(3,vP b 0)]) ?_ ?_
    · have H:=iS I;refine yE az ?_ ?_
      · intro hc N;refine zM<|vU 3 [0] [(9,vS p out c),(11,vA (cAccess e0.Read p2 c2))]<|bE N fun y hy N=>xJ (kK e0.Read _ hy h2) ?_;rintro aR av v2 k2 le - ⟨p5,c5,aU,rfl,rfl,h5⟩ -;have ⟨h,H⟩:=m2 le h H;refine wC 0 rfl ?_;intro aV ae hl0;have h6:=SL.of_frozen hl0 ae h5;have ⟨h,H⟩:=m2 ae h H;refine tK (cAccess y p5 c5) zJ ?_;intro b1 hb1;have h7:RL aV (cAccess y p5 c5) ([y]:List zJ):=⟨(cAccess y p5 c5),_,rfl,rfl,(oK ⟨_,rfl,h6⟩),rfl⟩;obtain ⟨au,ax,N⟩:=zB N;exact qA 67 2 2 rfl rfl rfl h (.inr ⟨0,rfl⟩) h7 ax fun p6 c6 aO h8=>tU (zY [1,2] (ah:=[hB b (cExpr e0 p1 c1 p2 c2 p3 c3),hO zJ (vS p6 au c6) aO]))<|yL [] [0] rfl<|yQ<|zT ⟨_,_,_,_,(zE N).symm,H,h8,rfl,rfl⟩
      intro hc N;exact zS<|yQ<|zT ⟨_,_,_,_,(zE N).symm,H,h,rfl,rfl⟩
    rintro I0 av m2 ⟨am,p4,c4,aw,heq,aB,h4,rfl,rfl⟩;subst o0;have ⟨h1,h2,h3⟩:=m3 aB h1 h2 h3;refine zZ<|yI [5] rfl<|wQ<|pM [(0,vS p4 am c4),(3,vP b 0),(5,vI 0)] ?_;obtain ⟨aL,aC,aG⟩:=zB aT;refine ih_spec_l3Reads_l1 e0 am 0 aL aC iR h1 h2 h3 h4 nG nO ?_;intro bH bM p8 c8 bC heq1 aX h10;subst aL;refine zR<|uJ [4] rfl<|zK<|xF ?_;exact xO aG (resT rfl) (zW [0] rfl (by decide)) ⟨_,_,_,rfl,rfl,h10⟩
  intro F_spec_l3Reads F_spec_l3Reads_l1 ih_spec_l3Reads ih_spec_l3Reads_l1 e0 bx i o N B I0 I Q p1 c1 p2 c2 p3 c3 b p7 c7 bw H h1 h2 h3 h9 hg ho hx;refine yZ hg ho<|yC<|yA<|yL [0] [19] rfl<|zK<|yE N ?_ ?_
  · intro aH N;refine zS<|zZ<|yH<|zM<|yD 4 [0] [22,24,25] rfl<|bE N fun x aE N=>wA rfl rfl h3 aE ?_;intro ad aK ap al;obtain ⟨p9,c9,aM,aP,aI,aQ,rfl,h11,h12,h13⟩:=xB al;refine xP 0 ap (cExpr x p9 c9 aM aP aI aQ) (vA (cExpr x p9 c9 aM aP aI aQ)) rfl<|tU (zY [1,0] (ah:=[hO zJ (vS p7 bx c7) bw,hB b (cExpr e0 p1 c1 p2 c2 p3 c3)]))<|bE N fun y1 bj N=>rC (ih_spec_l3Reads bx x _ bj h9 h11 h12 h13) rfl ?_;rintro bv av v2 k2 aF - ⟨bm,aW,cs6,rfl,rfl,h14⟩ -;have ⟨h1,h2,h3,H⟩:=m4 aF h1 h2 h3 H;exact yL [] [0] rfl<|zP<|zK<|zM<|yL [] [5] rfl<|yX<|qY (zW [1,0] rfl (by decide))<|mC<|ih_spec_l3Reads_l1 e0 y1 (W (i+1)) _ N H h1 h2 h3 h14 hg ho hx
  intro aH N;exact vC<|wH (zW [1] rfl (by decide))<|yQ<|hx _ _ _ _ _ (zE N).symm H h9
theorem zHY:∀ out e0 r,qH out e0=some r->∀ {I:Imm}{p c cs p1 c1 p2 c2 p3 c3},(RL I cs out)->(S4 I p1 e0.Index.Coefs c1)->(S4 I p2 e0.Read.Subs c2)->(S4 I p3 e0.Kids c3)->RT 73 [vS p out c,vA (cExpr e0 p1 c1 p2 c2 p3 c3)] I [hO zJ (vS p out c) cs] (zCA  r):=zGp.1
def rJ (a0:zD) (n0:Int) (i:Int):Option (Int):=do
 if (decide (i<(a0.Dims.length:Int))) then
  let x<-idx a0.Dims i;rJ a0 (W (n0*x)) (W (i+1))
 else pure (id n0)
 partial_fixpoint
theorem zFv (a0:zD):∀ (n0:Int) (i:Int) (o:Int),rJ a0 n0 i=some o->∀ {B}{I0 I:Imm}{Q p c}{b},I0.le I->(S4 I p a0.Dims c)->NG Q->NO Q->(∀ I' n01,o=n01->I0.le I'->T 20 B Q (.exit 0) I' [] [(3,vI n01)])->J Tryz.prog 20 B (nav (bodyOf f181) [1,1,0,1,0]) Q I [hB b (cArr a0 p c)] [(1,vP b 0),(3,vI n0),(4,vI i)]:=by
 refine rJ.partial_correctness a0 _ fun aJ ih n0 i o N B I0 I Q p c b H h hg ho hx=>yZ hg ho<|yC<|yA<|yL [0] [9] rfl<|zK<|yE N ?_ ?_
 · intro hc N;refine zS<|zZ<|yH<|zM<|yD 4 [0] [12,14,15] rfl<|bE N fun x hy N=>wA rfl rfl h hy ?_;intro ad aK ap al;obtain rfl:=al;exact xP 0 ap [vI x] (vI x) rfl<|yL [] [3] rfl<|zP<|zK<|zM<|yL [] [4] rfl<|yX<|mC<|ih (W (n0*x)) (W (i+1)) _ N H h hg ho hx
 intro hc N;exact vC<|wH zN<|yQ<|hx _ _ (zE N).symm H
def fK (a0:zD):Option (Int):=do
 let n01<-rJ a0 1 0;pure (id n01)
theorem zIM:∀ a0 r,fK a0=some r->∀ {I:Imm}{p c},(S4 I p a0.Dims c)->RT 181 [vA (cArr a0 p c)] I [] (yR  r):=by
 intro a0 r N I p c h;unfold fK at N;refine yJ func181 fun B=>yA<|vD (cArr a0 p c) ?_;intro b hb;refine wT [] []<|uJ [3] rfl<|zZ<|yI [4] rfl<|wQ<|pM [(1,vP b 0),(3,vI 1),(4,vI 0)] ?_;obtain ⟨o0,az,aG⟩:=zB N;refine zFv a0 1 0 o0 az iR h nG nO ?_;intro I0 n01 heq le;subst o0;refine zR<|uJ [2] rfl<|zK<|xF ?_;obtain rfl:=zE aG;exact vZ
end Go.LN
