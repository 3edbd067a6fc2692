/- Helper of the proof (see the last text). -/
import Derived.Test.YtmlnffbepjijhaaGreatHM8
set_option linter.unusedVariables false
set_option linter.unusedSimpArgs false
namespace Go.LN
open Go.Proofs
set_option maxRecDepth 20000
def gD (code:(List UInt8)) (more:(List UInt8)):Option (Bool):=do
 let t24<-(do
   if (decide ((code.length:Int)>1048576)) then pure true
   else
    pure (decide ((more.length:Int)>1048576))
     : Option Bool)
 if t24 then pure true
 else
  let (y1,y2)<-nI code;let (y4,y5)<-jY y1 y2;let (y7,y8)<-jZ y1 y2;let y9<-oQ y1;let t61<-(do
    if (!(y5==y8)) then pure true
    else
     let y10<-qM y4 y7;if (!y10) then pure true
     else
      if (!y5) then pure true
      else pure ((y9.length:Int)==0)
      : Option Bool)
  if t61 then
   let t4<-(do
     if (y5==y8) then
      let y11<-qM y4 y7;pure (id y11)
     else
      pure false
       : Option Bool)
   pure (id t4)
  else
   let q<-rem (more.length:Int) (y9.length:Int);let (y13,y14)<-kH y1 q;let (y16,y17)<-kH y4 q;let t41<-(do
     if y14 then
      if y17 then
       let y18<-zA3 y13 y16;if y18 then
        let y19<-kK y1;let y20<-kK y4;let y21<-zA4 y19 y20;pure (id y21)
       else pure false
      else pure false
     else
      pure false
       : Option Bool)
   pure (id t41)
theorem zKO:∀ code more r,gD code more=some r->∀ {I:Imm}{p c p1 c1},(S4 I p code c)->(S4 I p1 more c1)->RT 5 [vS p code c,vS p1 more c1] I [] (zT  r):=by
 intro code more r N I p c p1 c1 h h1;unfold gD at N;refine yI Tryz.func5 fun B=>?_;have H:=iS I;refine wT []<|zZ<|yA ?_;refine wZ N [] (fun t24=>[(0,vS p code c),(1,vS p1 more c1),(24,.bool t24)]) (fun o0 az=>?_) ?_
 · have H:=iS I;refine zM<|yE 4 [] [20] rfl<|wL [20] az ?_ ?_
   · intro hc N;exact wR [] [(24,vY)]<|yU<|zU (ct N H)
   intro hc N;exact yK [] [24] rfl<|yU<|zU (ct N H)
 intro t24 I0 le aT;have ⟨h,H⟩:=m2 le h H;refine zK<|yG aT ?_ ?_
 · intro aH N;refine wT [(4,vY)]<|xF<|zJ ?_;obtain rfl:=zD N;exact vV
 intro aH N;refine zS<|yW<|yE 1 [] [26] rfl ?_;obtain ⟨⟨y1,y2⟩,hy,N⟩:=zB N;refine xE (zCi code _ hy h) ?_;rintro aO aw v2 k2 aa - ⟨v0,v01,rfl,rfl,⟨cs,rfl,h2⟩,rfl⟩ -;have H:=H.trans aa;obtain ⟨p2,c2,p3,c3,rfl,h4,h5⟩:=rG h2;refine yE 5 [] [28,29] rfl<|xU zTwo ?_;intro b hb;refine yY 0 (cProg y1 p2 c2 p3 c3) rfl<|yK [] [6] rfl<|yW<|tL 2 [0] [(31,vA (cProg y1 p2 c2 p3 c3)),(32,vT y2.l)] ?_;obtain ⟨⟨y4,y5⟩,ay,N⟩:=zB N;refine xE (zEe y1 y2 _ ay h4 h5) ?_;rintro aV aw v2 k2 aA - ⟨v04,v05,rfl,rfl,⟨av,rfl,h6⟩,rfl⟩ -;have ⟨h4,h5,H⟩:=m3 aA h4 h5 H;obtain ⟨p4,c4,p5,c5,rfl,h8,h9⟩:=rG h6;refine yE 6 [] [34,35] rfl<|xU zTwo ?_;intro b1 hb1;refine yY 0 (cProg y4 p4 c4 p5 c5) rfl<|yK [] [8] rfl<|yW<|tL 2 [1] [(37,vA (cProg y1 p2 c2 p3 c3)),(38,vT y2.l)] ?_;obtain ⟨⟨y7,y8⟩,aG,N⟩:=zB N;refine xE (zEh y1 y2 _ aG h4 h5) ?_;rintro bx aw v2 k2 aK - ⟨v08,v09,rfl,rfl,⟨aP,rfl,h10⟩,rfl⟩ -;have ⟨h8,h9,h4,h5,H⟩:=m5 aK h8 h9 h4 h5 H;obtain ⟨p6,c6,p7,c7,rfl,h12,h13⟩:=rG h10;refine yE 6 [] [40,41] rfl<|xU zTwo ?_;intro b2 hb2;refine yY 0 (cProg y7 p6 c6 p7 c7) rfl<|yK [] [10] rfl<|yW<|tL 1 [2] [(42,vA (cProg y1 p2 c2 p3 c3))]<|bE N fun y9 bc N=>xE (zC1 y1 _ bc h4 h5) ?_;rintro bD aw v2 k2 aX - ⟨v012,rfl,rfl,h14⟩ -;have ⟨h12,h13,h8,h9,h4,h5⟩:=m6 aX h12 h13 h8 h9 h4 h5;have H:=H.trans aX;obtain ⟨p8,c8,rfl⟩:=h14.form;refine yK [] [11] rfl<|zZ<|yA ?_;refine wZ N [hB b2 (cProg y7 p6 c6 p7 c7),hB b1 (cProg y4 p4 c4 p5 c5),hB b (cProg y1 p2 c2 p3 c3)] (fun t61=>[(1,vS p1 more c1),(5,vP b 0),(7,vP b1 0),(8,.bool y5),(9,vP b2 0),(10,.bool y8),(11,vI (y9.length:Int)),(61,.bool t61)]) (fun aN aC=>?_) ?_
 · have H:=iS bD;refine zM<|yE 4 [] [48] rfl<|wL [48] aC ?_ ?_
   · intro aY N;exact wR [] [(61,vY)]<|yU<|zU (ct N H)
   intro aY N;refine tL 6 [1,0] [(49,vA (cProg y4 p4 c4 p5 c5)),(50,vA (cProg y7 p6 c6 p7 c7))]<|bE N fun y10 bu N=>tH (zBR y4 y7 _ bu h8 h9 h12 h13) ?_;intro I06 bf;have H:=H.trans bf;refine yE 10 [] [54] rfl<|wL [54] N ?_ ?_
   · intro bC N;exact wR [] [(61,vY)]<|yU<|zU (ct N H)
   intro bC N;refine yE 14 [] [58] rfl<|wL [58] N ?_ ?_
   · intro bJ N;exact wR [] [(61,vY)]<|yU<|zU (ct N H)
   intro bJ N;exact yK [] [61] rfl<|yU<|zU (ct N H)
 intro t61 bI bt hMc1;have ⟨h12,h13,h8,h9,h4,h5⟩:=m6 bt h12 h13 h8 h9 h4 h5;have H:=H.trans bt;refine zK<|yG hMc1 ?_ ?_
 · intro hc5 N;refine yA ?_;refine wZ N [] (fun t4=>[(4,.bool t4)]) (fun o02 ho02=>?_) ?_
   · have H:=iS bI;refine zM<|yE 4 [] [65] rfl<|wL [65] ho02 ?_ ?_
     · intro hc6 N;refine tL 6 [1,0] [(66,vA (cProg y4 p4 c4 p5 c5)),(67,vA (cProg y7 p6 c6 p7 c7))]<|bE N fun y11 bz N=>tH (zBR y4 y7 _ bz h8 h9 h12 h13) ?_;intro I08 le7;have H:=H.trans le7;exact yK [] [4] rfl<|wF zP<|yU<|zU (ct N H)
     intro hc6 N;exact wR [] [(4,vF)]<|wF zP<|yU<|zU (ct N H)
   intro t4 I07 le8 hMc2;refine xF<|zJ ?_;obtain rfl:=zD hMc2;exact vV
 intro hc5 N;refine zS<|yW<|yE 3 [] [71,72] rfl<|bE N fun q hy6 N=>zPh rfl hy6<|yK [] [12] rfl<|yW<|tL 2 [2] [(75,vA (cProg y1 p2 c2 p3 c3)),(76,vI q)] ?_;obtain ⟨⟨y13,y14⟩,hy7,N⟩:=zB N;refine xE (zBS y1 q _ hy7 h4 h5) ?_;rintro I09 aw v2 k2 le9 - ⟨v015,v016,rfl,rfl,h17,rfl⟩ -;have ⟨h8,h9,h4,h5,H⟩:=m5 le9 h8 h9 h4 h5 H;obtain ⟨p9,c9,rfl⟩:=h17.form;refine yK [] [13,14] rfl<|yW<|tL 2 [1] [(81,vA (cProg y4 p4 c4 p5 c5)),(82,vI q)] ?_;obtain ⟨⟨y16,y17⟩,hy8,N⟩:=zB N;refine xE (zBS y4 q _ hy8 h8 h9) ?_;rintro bL aw v2 k2 le10 - ⟨v017,v018,rfl,rfl,h19,rfl⟩ -;have ⟨h17,h8,h9,h4,h5,H⟩:=m6 le10 h17 h8 h9 h4 h5 H;obtain ⟨aQ,aM,rfl⟩:=h19.form;refine yK [] [15,16] rfl<|zK<|yA ?_;refine wZ N [] (fun t41=>[(4,.bool t41)]) (fun o03 ho03=>?_) ?_
 · have H:=iS bL;cases hc7:y14 with
   | true =>
    have hM0:=tY hc7 ho03;cases hc8:y17 with
    | true =>
     have hM01:=tY hc8 hM0;obtain ⟨y18,hy9,N⟩:=zB hM01;cases hc9:y18 with
     | true =>
      have hM02:=tY hc9 N;obtain ⟨y19,hy10,N⟩:=zB hM02;obtain ⟨y20,hy11,N⟩:=zB N;obtain ⟨y21,hy12,N⟩:=zB N;refine wO [.q vY,.q vY,.q vY,.q vY,.q vY,.p (vS p9 y13 c9) [],.p (vS aQ y16 aM) [],.q vY,.q vY,.q vY,.p (vA (cProg y1 p2 c2 p3 c3)) [2],.x (eS y19),.p (vA (cProg y4 p4 c4 p5 c5)) [1],.x (eS y20),.q (.bool y21),.p (.bool y21) []] [[],[(0,false)],[(1,false)],[(1,false),(2,false)],[(3,false)],[(4,false)],[(4,false)],[(4,false),(5,false),(6,false)],[(4,false),(7,false)],[(8,false)],[(9,false)],[(9,false),(10,false)],[(9,false)],[(9,false),(12,false)],[(9,false),(11,false),(13,false)],[(9,false),(14,false)]] [hB b2 (cProg y7 p6 c6 p7 c7),hB b1 (cProg y4 p4 c4 p5 c5),hB b (cProg y1 p2 c2 p3 c3)] [] [(15,false)] (zY [0,1,2]) ?_ ?_
      · refine Oq ?_<|Oq ?_<|Oq ?_<|Oq ?_<|Oq ?_<|O2<|Oq ?_<|Oq ?_<|Oq ?_<|Op<|Ox ?_<|Op<|Ox ?_<|Oq ?_<|Op<|On
        · intro I1 hf aa;exact I_h [(14,vY)]<|pE 1 [(86,vY)]<|xD iR
        · intro I1 hf aa;exact I_h [(86,vY)]<|pE 2 [(87,vY)]<|xD iR
        · intro I1 hf aa;exact yX [16,87] rfl<|pE 3 [(88,vY)]<|xD iR
        · intro I1 hf aa;exact yX [87,88] rfl<|pE 4 [(89,vY)]<|xD iR
        · intro I1 hf aa;exact I_h [(89,vY)]<|pE 5 [(90,vY)]<|xD iR
        · intro I1 hf aa;refine yX [90,91,92] rfl ?_;have H:=iS I1;have ⟨h17,h19⟩:=m2 aa h17 h19;refine tH (zEL y13 y16 _ hy9 h17 h19) ?_;intro bO le11;have H:=H.trans le11;rw [hc9];exact xD H
        · intro I1 hf aa;exact yX [90,93] rfl<|pE 9 [(94,vY)]<|xD iR
        · intro I1 hf aa;exact I_h [(94,vY)]<|pE 10 [(95,vY)]<|xD iR
        · intro I1 hf aa;refine yX [95,96] rfl ?_;have H:=iS I1;have ⟨h4,h5⟩:=m2 aa h4 h5;refine xE (zBT y1 _ hy10 h4 h5) ?_;rintro I013 aw v2 k2 le12 - ⟨v020,rfl,rfl,h22⟩ -;have H:=H.trans le12;obtain ⟨aJ,aW,rfl⟩:=h22.form;exact yL [] H ⟨_,_,rfl,rfl,h22⟩
        · intro I1 hf aa;refine yX [95,98] rfl ?_;have H:=iS I1;have ⟨h8,h9⟩:=m2 aa h8 h9;refine xE (zBT y4 _ hy11 h8 h9) ?_;rintro I014 aw v2 k2 le13 - ⟨v021,rfl,rfl,h23⟩ -;have H:=H.trans le13;obtain ⟨br,bd,rfl⟩:=h23.form;exact yL [] H ⟨_,_,rfl,rfl,h23⟩
        rintro I1 hf aa _ _ ⟨rfl,rfl⟩ _ _ ⟨aJ,aW,rfl,rfl,h22⟩ _ _ ⟨br,bd,rfl,rfl,h23⟩;refine yX [95,97,99] rfl ?_;have H:=iS I1;refine tH (zId y19 y20 _ hy12 h22 h23) ?_;intro I015 le14;have H:=H.trans le14;exact xD H
      intro I016 le15;refine yX [101] rfl ?_;have H:=H.trans le15;exact yK [] [4] rfl<|wF zP<|yU<|zU (ct N H)
     | false =>
      have hM03:=uU hc9 N;refine wO [.q vY,.q vY,.q vY,.q vY,.q vY,.p (vS p9 y13 c9) [],.p (vS aQ y16 aM) [],.q vF,.q vF,.q vF,.p undef [],.p undef [],.p undef [],.p undef [],.p undef [],.p vF []] [[],[(0,false)],[(1,false)],[(1,false),(2,false)],[(3,false)],[(4,false)],[(4,false)],[(4,false),(5,false),(6,false)],[(4,false),(7,false)],[(8,false)],[(9,false)],[(9,false),(10,false)],[(9,false)],[(9,false),(12,false)],[(9,false),(11,false),(13,false)],[(9,false),(14,false)]] [hB b2 (cProg y7 p6 c6 p7 c7),hB b1 (cProg y4 p4 c4 p5 c5),hB b (cProg y1 p2 c2 p3 c3)] [] [(15,false)] (zY [0,1,2]) ?_ ?_
      · refine Oq ?_<|Oq ?_<|Oq ?_<|Oq ?_<|Oq ?_<|O2<|Oq ?_<|Oq ?_<|Oq ?_<|O4<|O2<|On
        · intro I1 hf aa;exact I_h [(14,vY)]<|pE 1 [(86,vY)]<|xD iR
        · intro I1 hf aa;exact I_h [(86,vY)]<|pE 2 [(87,vY)]<|xD iR
        · intro I1 hf aa;exact yX [16,87] rfl<|pE 3 [(88,vY)]<|xD iR
        · intro I1 hf aa;exact yX [87,88] rfl<|pE 4 [(89,vY)]<|xD iR
        · intro I1 hf aa;exact I_h [(89,vY)]<|pE 5 [(90,vY)]<|xD iR
        · intro I1 hf aa;refine yX [90,91,92] rfl ?_;have H:=iS I1;have ⟨h17,h19⟩:=m2 aa h17 h19;refine tH (zEL y13 y16 _ hy9 h17 h19) ?_;intro bO le11;have H:=H.trans le11;rw [hc9];exact xD H
        · intro I1 hf aa;exact yX [90,93] rfl<|pE 9 [(94,vF)]<|xD iR
        intro I1 hf aa;exact I_h [(94,vF)]<|pE 10 [(95,vF)]<|xD iR
      intro I017 le16;refine I_h [(101,vF)] ?_;have H:=H.trans le16;exact wR [] [(4,vF)]<|wF zP<|yU<|zU (ct hM03 H)
    | false =>
     have hM04:=uU hc8 hM0;refine wO [.q vY,.q vY,.q vF,.q vF,.q vF,.p undef [],.p undef [],.p undef [],.p vF [],.p vF [],.p undef [],.p undef [],.p undef [],.p undef [],.p undef [],.p vF []] [[],[(0,false)],[(1,false)],[(1,false),(2,false)],[(3,false)],[(4,false)],[(4,false)],[(4,false),(5,false),(6,false)],[(4,false),(7,false)],[(8,false)],[(9,false)],[(9,false),(10,false)],[(9,false)],[(9,false),(12,false)],[(9,false),(11,false),(13,false)],[(9,false),(14,false)]] [hB b2 (cProg y7 p6 c6 p7 c7),hB b1 (cProg y4 p4 c4 p5 c5),hB b (cProg y1 p2 c2 p3 c3)] [] [(15,false)] (zY [0,1,2]) ?_ ?_
     · refine Oq ?_<|Oq ?_<|Oq ?_<|Oq ?_<|Oq ?_<|O4<|O4<|O3<|On
       · intro I1 hf aa;exact I_h [(14,vY)]<|pE 1 [(86,vY)]<|xD iR
       · intro I1 hf aa;exact I_h [(86,vY)]<|pE 2 [(87,vY)]<|xD iR
       · intro I1 hf aa;exact yX [16,87] rfl<|pE 3 [(88,vF)]<|xD iR
       · intro I1 hf aa;exact yX [87,88] rfl<|pE 4 [(89,vF)]<|xD iR
       intro I1 hf aa;exact I_h [(89,vF)]<|pE 5 [(90,vF)]<|xD iR
     intro I018 le17;refine I_h [(101,vF)] ?_;have H:=H.trans le17;exact wR [] [(4,vF)]<|wF zP<|yU<|zU (ct hM04 H)
   | false =>
    have hM05:=uU hc7 ho03;refine wO [.q vF,.q vF,.p undef [],.p vF [],.p vF [],.p undef [],.p undef [],.p undef [],.p vF [],.p vF [],.p undef [],.p undef [],.p undef [],.p undef [],.p undef [],.p vF []] [[],[(0,false)],[(1,false)],[(1,false),(2,false)],[(3,false)],[(4,false)],[(4,false)],[(4,false),(5,false),(6,false)],[(4,false),(7,false)],[(8,false)],[(9,false)],[(9,false),(10,false)],[(9,false)],[(9,false),(12,false)],[(9,false),(11,false),(13,false)],[(9,false),(14,false)]] [hB b2 (cProg y7 p6 c6 p7 c7),hB b1 (cProg y4 p4 c4 p5 c5),hB b (cProg y1 p2 c2 p3 c3)] [] [(15,false)] (zY [0,1,2]) ?_ ?_
    · refine Oq ?_<|Oq ?_<|O4<|O4<|O4<|O2<|On
      · intro I1 hf aa;exact I_h [(14,vF)]<|pE 1 [(86,vF)]<|xD iR
      intro I1 hf aa;exact I_h [(86,vF)]<|pE 2 [(87,vF)]<|xD iR
    intro I019 le18;refine I_h [(101,vF)] ?_;have H:=H.trans le18;exact wR [] [(4,vF)]<|wF zP<|yU<|zU (ct hM05 H)
 intro t41 bR le19 hMc3;refine zK<|xA ?_;obtain rfl:=zD hMc3;exact vV
end Go.LN
