/- Helper of the proof (see the last text). -/
import Derived.Test.YtknadcjnkbdpdaaGreatLnA
import Derived.Test.YtknadcjnkbdpdaaGreatLnI
import Derived.Test.YtknadcjnkbdpdaaGreatLnP
import Derived.Test.YtknadcjnkbdpdaaGreatTryzShelf
import Derived.Test.YtknadcjnkbdpdaaGreatHM1
import Derived.Test.YtknadcjnkbdpdaaGreatHM2
import Derived.Test.YtknadcjnkbdpdaaGreatHM3
import Derived.Test.YtknadcjnkbdpdaaGreatHM4
import Derived.Test.YtknadcjnkbdpdaaGreatHM5
import Derived.Test.YtknadcjnkbdpdaaGreatHM6
import Derived.Test.YtknadcjnkbdpdaaGreatHM7
import Derived.Test.YtknadcjnkbdpdaaGreatHM8
import Derived.Test.YtknadcjnkbdpdaaGreatQT
import Derived.Test.YtknadcjnkbdpdaaGreatQZ
import Derived.Test.YtknadcjnkbdpdaaGreatVB1
import Derived.Test.YtknadcjnkbdpdaaGreatVB8
import Derived.Test.YtknadcjnkbdpdaaGreatLnR
set_option linter.unusedVariables false
set_option linter.unusedSimpArgs false
namespace Go.LN
structure zLL where
  From:Int
  To:Int
  Kinds:Int
instance:Rp zLL where
  sz:=3
  pos:=by decide
  rep i cs s:=cs=[.int .i64 s.From,.int .i64 s.To,.int .i64 s.Kinds]
  len h:=by obtain rfl:=h; rfl
  mono _ h:=h
  one h:=by obtain rfl:=h; simp [zAP]
theorem zLq {i:Imm}{cs:List Value}{s:zLL} (h:Rp.rep i cs s):cs=[.int .i64 s.From,.int .i64 s.To,.int .i64 s.Kinds]:=h
theorem zMB {i:Imm}{cs:List Value}{s:zLL} (h:cs=[.int .i64 s.From,.int .i64 s.To,.int .i64 s.Kinds]):Rp.rep i cs s:=h
instance:Vr zLL:=⟨fun i v a=>∃ cs,v=.agg ⟨cs⟩∧Rp.rep i cs a,fun hl ⟨cs,e,h⟩=>⟨cs,e,Rp.mono hl h⟩⟩
end Go.LN
namespace Go.LN
open Go.Proofs
set_option maxRecDepth 20000
def zLa (r:zH×Int×Int):KT:=fun kk I' hs' v=>
  ∃ v0 v1 v2,hs'=[]∧v=tupV [v0,v1,v2]∧(∃ cs,v0=.agg ⟨cs⟩∧Rp.rep I' cs r.1)∧v1=.int .i64 r.2.1∧v2=.int .i64 r.2.2
def zLT (code:(List UInt8)):Option (zH×Int×Int):=do
 let y←jR code
 let (y2,y3,y4)←zBM y
 let (y6,y7)←yX y4 ([1,0,2,1,(-1),4]:List Int)
 pure (y2,y3,y6)
theorem zLd:∀ code r,zLT code=some r→∀ {I:Imm}{p c},(S4 I p code c)→RT 24 [vS p code c] I [] (zLa  r):=by
 intro code r N I p c h;unfold zLT at N;refine zX (fn:=Tryz.f24) (c:=(bodyOf Tryz.f24)) Tryz.func24 rfl rfl ?_;rintro B - -;have H:=iS I;refine yK<|wU zTwo ?_;intro b hb;refine yB [] []<|xD<|yC 1 [] [(8,vS p code c)]<|bE N fun y hy N=>xS (zIb code _ hy h) ?_;rintro I0 hs2 v2 k2 le - ⟨b1,p1,c1,rfl,rfl,h1⟩ -;have H:=H.trans le;refine yB [] [(5,vP b1 0)]<|xD<|yC 1 [] [(11,vP b1 0)] ?_;obtain ⟨⟨y2,y3,y4⟩,hy1,N⟩:=zB N;refine tS [hB b1 (cRd y p1 c1)] [hB b zTwo] (zIc y _ hy1 h1) ?_;rintro I01 hs2 v2 k2 le1 - ⟨v0,v01,kk,rfl,rfl,⟨cs,rfl,h2⟩,rfl,h4⟩ -;have H:=H.trans le1;obtain ⟨p2,c2,p3,c3,rfl,h5,h6⟩:=oZ h2;obtain ⟨p4,c4,rfl,h7⟩:=yE h4;refine yC 5 [] [(13,vA (cProg y2 p2 c2 p3 c3)),(14,vI y3)]<|wU zTwo ?_;intro b2 hb1;refine xB 0 (cProg y2 p2 c2 p3 c3) [hB b2 (cProg y2 p2 c2 p3 c3),hB b1 (cRd y4 p4 c4),hB b zTwo] rfl rfl rfl rfl<|yB [] [(7,vI y3)]<|zL<|yI ?_;obtain ⟨⟨y6,y7⟩,hy2,N⟩:=zB N;refine vC [.p (vA (cProg y2 p2 c2 p3 c3)) [0],.p (vI y3) [],.p (vP b1 0) [],.x (fun I' v hx=>∃ b3,v=vS (some ⟨b3,0,none⟩) ([1,0,2,1,(-1),4]:List Int) 6∧hx=[]∧(SL I' (vS (some ⟨b3,0,none⟩) ([1,0,2,1,(-1),4]:List Int) 6) ([1,0,2,1,(-1),4]:List Int))),.x (fun I' v hx=>∃ p5 c5,v=vI y6∧hx=[hB b1 (cRd y7 p5 c5)]∧(S4 I' p5 y7.b c5)),.x (fun I' v hx=>hx=[hB b (cProg y2 p2 c2 p3 c3)]),.p (vI y3) []] [[],[],[],[],[(2,false),(3,false),(8,true)],[(0,false),(9,true)],[(1,false)]] [hB b2 (cProg y2 p2 c2 p3 c3)] [[hB b1 (cRd y4 p4 c4)],[hB b zTwo]] [(4,true),(5,true),(6,false)] (yD [0,1,2]) ?_ ?_
 · refine Op<|Op<|Op<|Ox ?_<|Ox ?_<|Ox ?_<|Op<|On
   · intro I1 hf le1;refine yR [] ?_;have H:=iS I1;refine xU [vI 1,vI 0,vI 2,vI 1,vI (-1),vI 4] Int ?_;intro b3 hb2;have h8:RL I1 [vI 1,vI 0,vI 2,vI 1,vI (-1),vI 4] ([1,0,2,1,(-1),4]:List Int):=⟨[vI 1],_,rfl,rfl,rfl,⟨[vI 0],_,rfl,rfl,rfl,⟨[vI 2],_,rfl,rfl,rfl,⟨[vI 1],_,rfl,rfl,rfl,⟨[vI (-1)],_,rfl,rfl,rfl,⟨[vI 4],_,rfl,rfl,rfl,rfl⟩⟩⟩⟩⟩⟩;refine yJ 0 rfl ?_;intro I02 le2 hl0;have h9:=SL.of_frozen hl0 le2 h8;have H:=H.trans le2;exact yP [] H ⟨_,rfl,rfl,h9⟩
   · intro I1 hf le1;refine zF ?_;rintro _ _ ⟨rfl,rfl⟩;refine zF ?_;rintro _ _ ⟨b3,rfl,rfl,h9⟩;refine zF ?_;rintro _ _ rfl;refine yR [(17,vP b1 0),(18,vS (some ⟨b3,0,none⟩) ([1,0,2,1,(-1),4]:List Int) 6)] ?_;have H:=iS I1;have h7:=h7.mono le1;refine tS [hB b1 (cRd y4 p4 c4)] (hB b2 (cProg y2 p2 c2 p3 c3)::hf) (xH y4 ([1,0,2,1,(-1),4]:List Int) _ hy2 h7 h9) ?_;rintro I03 hs2 v2 k2 le3 - ⟨v05,kk1,rfl,rfl,rfl,h11⟩ -;have H:=H.trans le3;obtain ⟨p5,c5,rfl,h12⟩:=yE h11;exact yP [hB b1 (cRd y7 p5 c5)] H ⟨_,_,rfl,rfl,h12⟩
   intro I1 hf le1;refine zF ?_;rintro _ _ ⟨rfl,rfl⟩;refine zF ?_;rintro _ _ rfl;refine yR [(2,vP b 0),(15,vA (cProg y2 p2 c2 p3 c3))] ?_;have H:=iS I1;exact xB 0 (cProg y2 p2 c2 p3 c3) (hB b (cProg y2 p2 c2 p3 c3)::hB b2 (cProg y2 p2 c2 p3 c3)::hf) rfl rfl rfl rfl<|zDu (hx:=[hB b (cProg y2 p2 c2 p3 c3)]) rfl H rfl (zEi (v:=undef)) rfl
 intro I04 le4;refine zF ?_;rintro _ _ ⟨p5,c5,rfl,rfl,h12⟩;refine zF ?_;rintro _ _ rfl;refine yR [(2,vP b 0),(3,vI y3),(19,vI y6)] ?_;have h5:=h5.mono le4;have h6:=h6.mono le4;refine yB [] [(4,vI y6)]<|zL<|xG ?_;obtain rfl:=zC N;exact xF ⟨_,_,(.cell 0 rfl rfl (by kernel_rfl) (.tmp rfl (.tmp rfl ResV.nil))),zT,⟨_,_,_,rfl,rfl,⟨_,rfl,(wV ⟨_,_,rfl,h5,h6⟩)⟩,rfl,rfl⟩⟩
def zLN (y6:(List Bool)) (y7:(List Bool)) (y9:(List Bool)) (y10:(List Bool)) (t52:Int):Option (Out Unit (Bool)):=do
 if (decide (t52 < (y6.length:Int))) then
  let t82←(do
    let x←idx y7 t52
    if x then
     let x1←idx y9 t52
     if x1 then
      pure true
     else
      let x2←idx y10 t52
      if x2 then
       pure true
      else
       let x3←idx y10 t52
       if x3 then
        let x4←idx y6 t52
        pure (id x4)
       else
        pure false
    else
     let x5←idx y10 t52
     if x5 then
      let x6←idx y6 t52
      pure (id x6)
     else
      pure false
      : Option Bool)
  if t82 then
   pure (.ret false)
  else
   zLN y6 y7 y9 y10 (W (t52 + 1))
 else
  pure (.done ())
 partial_fixpoint
theorem zLf (y6:(List Bool)) (y7:(List Bool)) (y9:(List Bool)) (y10:(List Bool)):∀ (t52:Int) (o:Out Unit (Bool)),zLN y6 y7 y9 y10 t52=some o→∀ {B}{I0 I:Imm}{Q p8 c7 p9 c8 p10 c9 p11 c10},I0.le I→(S4 I p8 y6 c7)→(S4 I p9 y7 c8)→(S4 I p10 y9 c9)→(S4 I p11 y10 c10)→NG Q→NO Q→(∀ (I':Imm) ,o=(.done ())→I0.le I'→T 84 B Q (.exit 0) I' [] [])→(∀ r I' hs' m',o=(.ret r)→I0.le I'→RS Tryz.prog Tryz.f25 B (zY  r) I' hs' m'→T 84 B Q .ret I' hs' m')→J Tryz.prog 84 B (nav (bodyOf Tryz.f25) [1,1,1,1,1,0,1,0]) Q I [] [(9,vS p8 y6 c7),(10,vS p9 y7 c8),(11,vS p10 y9 c9),(12,vS p11 y10 c10),(51,vI (y6.length:Int)),(52,vI t52)]:=by
 refine zLN.partial_correctness y6 y7 y9 y10 _ fun self ih t52 o N B I0 I Q p8 c7 p9 c8 p10 c9 p11 c10 H h11 h12 h13 h14 hg ho hx hr=>yW hg ho<|yF [(53,.bool (decide (t52 < (y6.length:Int))))]<|yG<|yL N ?_ ?_
 · intro hc4 N;refine zV<|yG<|yM<|yF [(13,vI t52)]<|zL<|yI ?_;obtain ⟨o01,ho01,hMc1⟩:=zB N;refine yU (fun I' hs' m'=>∃ (t82:Bool),o01=t82∧I.le I'∧hs'=[]∧m'=[(9,vS p8 y6 c7),(10,vS p9 y7 c8),(11,vS p10 y9 c9),(12,vS p11 y10 c10),(51,vI (y6.length:Int)),(52,vI t52),(82,.bool t82)]) ?_ ?_
   · have H:=iS I;refine zP<|yC 2 [] [(55,vS p9 y7 c8),(56,vI t52)] ?_;obtain ⟨x,hy6,N⟩:=zB ho01;refine xR rfl rfl h12 hy6 ?_;intro ad1 ccs1 hat1 hrep1;obtain rfl:=hrep1;refine xN 0 hat1 [.bool x] (.bool x) rfl<|yC 5 [] [(59,.bool x)] ?_;cases hc5:x with
     | true =>
      have hM06:=zS hc5 N
      try rw [hc5]
      refine yC 7 [] [(60,vS p10 y9 c9),(61,vI t52)] ?_;obtain ⟨x1,hy7,N⟩:=zB hM06;refine xR rfl rfl h13 hy7 ?_;intro ad2 ccs2 hat2 hrep2;obtain rfl:=hrep2;refine xN 0 hat2 [.bool x1] (.bool x1) rfl<|yC 10 [] [(64,.bool x1)] ?_;cases hc6:x1 with
      | true =>
       have hM07:=zS hc6 N
       try rw [hc6]
       exact yB [] [(82,vY)]<|yS [(9,vS p8 y6 c7),(10,vS p9 y7 c8),(11,vS p10 y9 c9),(12,vS p11 y10 c10),(51,vI (y6.length:Int)),(52,vI t52),(82,vY)]<|zW (ct hM07 H)
      | false =>
       have hM08:=zQ hc6 N
       try rw [hc6]
       refine yC 12 [] [(65,vS p11 y10 c10),(66,vI t52)] ?_;obtain ⟨x2,hy8,N⟩:=zB hM08;refine xR rfl rfl h14 hy8 ?_;intro ad3 ccs3 hat3 hrep3;obtain rfl:=hrep3;refine xN 0 hat3 [.bool x2] (.bool x2) rfl<|yC 17 [] [(71,.bool x2)] ?_;cases hc7:x2 with
       | true =>
        have hM09:=zS hc7 N
        try rw [hc7]
        exact yB [] [(82,vY)]<|yS [(9,vS p8 y6 c7),(10,vS p9 y7 c8),(11,vS p10 y9 c9),(12,vS p11 y10 c10),(51,vI (y6.length:Int)),(52,vI t52),(82,vY)]<|zW (ct hM09 H)
       | false =>
        have hM010:=zQ hc7 N
        try rw [hc7]
        refine yC 19 [] [(72,vS p11 y10 c10),(73,vI t52)] ?_;obtain ⟨x3,hy9,N⟩:=zB hM010;refine xR rfl rfl h14 hy9 ?_;intro ad4 ccs4 hat4 hrep4;obtain rfl:=hrep4;refine xN 0 hat4 [.bool x3] (.bool x3) rfl<|yC 22 [] [(76,.bool x3)] ?_;cases hc8:x3 with
        | true =>
         have hM011:=zS hc8 N
         try rw [hc8]
         refine yC 24 [] [(77,vS p8 y6 c7),(78,vI t52)] ?_;obtain ⟨x4,hy10,N⟩:=zB hM011;refine xR rfl rfl h11 hy10 ?_;intro ad5 ccs5 hat5 hrep5;obtain rfl:=hrep5;exact xN 0 hat5 [.bool x4] (.bool x4) rfl<|yB [] [(82,.bool x4)]<|yS [(9,vS p8 y6 c7),(10,vS p9 y7 c8),(11,vS p10 y9 c9),(12,vS p11 y10 c10),(51,vI (y6.length:Int)),(52,vI t52),(82,.bool x4)]<|zW (ct N H)
        | false =>
         have hM012:=zQ hc8 N
         try rw [hc8]
         exact yB [] [(82,vF)]<|yS [(9,vS p8 y6 c7),(10,vS p9 y7 c8),(11,vS p10 y9 c9),(12,vS p11 y10 c10),(51,vI (y6.length:Int)),(52,vI t52),(82,vF)]<|zW (ct hM012 H)
     | false =>
      have hM013:=zQ hc5 N
      try rw [hc5]
      refine yC 19 [] [(71,vF),(72,vS p11 y10 c10),(73,vI t52)] ?_;obtain ⟨x5,hy11,N⟩:=zB hM013;refine xR rfl rfl h14 hy11 ?_;intro ad6 ccs6 hat6 hrep6;obtain rfl:=hrep6;refine xN 0 hat6 [.bool x5] (.bool x5) rfl<|yC 22 [] [(76,.bool x5)] ?_;cases hc9:x5 with
      | true =>
       have hM014:=zS hc9 N
       try rw [hc9]
       refine yC 24 [] [(77,vS p8 y6 c7),(78,vI t52)] ?_;obtain ⟨x6,hy12,N⟩:=zB hM014;refine xR rfl rfl h11 hy12 ?_;intro ad7 ccs7 hat7 hrep7;obtain rfl:=hrep7;exact xN 0 hat7 [.bool x6] (.bool x6) rfl<|yB [] [(82,.bool x6)]<|yS [(9,vS p8 y6 c7),(10,vS p9 y7 c8),(11,vS p10 y9 c9),(12,vS p11 y10 c10),(51,vI (y6.length:Int)),(52,vI t52),(82,.bool x6)]<|zW (ct N H)
      | false =>
       have hM015:=zQ hc9 N
       try rw [hc9]
       exact yB [] [(82,vF)]<|yS [(9,vS p8 y6 c7),(10,vS p9 y7 c8),(11,vS p10 y9 c9),(12,vS p11 y10 c10),(51,vI (y6.length:Int)),(52,vI t52),(82,vF)]<|zW (ct hM015 H)
   rintro I06 hs2 m2 ⟨t82,heq1,le6,rfl,rfl⟩;subst o01;have h11:=h11.mono le6;have h12:=h12.mono le6;have h13:=h13.mono le6;have h14:=h14.mono le6;have H:=H.trans le6;refine zL<|yL hMc1 ?_ ?_
   · intro hc10 N;exact yF [(6,vF)]<|xP<|yA<|zN<|zN<|hr _ _ _ _ (zC N).symm H ⟨_,_,(.tmp rfl ResV.nil),zT,⟨_,rfl,rfl,rfl⟩⟩
   intro hc10 N;exact zV<|zR<|zL<|zP<|yB [] [(52,vI (W (t52 + 1)))]<|yT<|wN [(9,vS p8 y6 c7),(10,vS p9 y7 c8),(11,vS p10 y9 c9),(12,vS p11 y10 c10),(51,vI (y6.length:Int)),(52,vI (W (t52 + 1)))]<|ih (W (t52 + 1)) _ N H h11 h12 h13 h14 hg ho hx hr
 intro hc4 N;exact vD<|yS []<|hx _  (zC N).symm H
def zLP (p:zH) (a0:Int) (b:Int):Option (Bool):=do
 let (y1,y2)←fL p
 let t37←(do
   if (!y2) then
    pure true
   else
    let y3←gE p a0
    if (!y3) then
     pure true
    else
     let y4←gE p b
     if (!y4) then
      pure true
     else
      pure (a0 == b)
     : Option Bool)
 if t37 then
  pure false
 else
  let t←y1
  let (y6,y7)←gF t a0
  let (y9,y10)←gF t b
  match←zLN y6 y7 y9 y10 0 with
  | .ret r0=>pure r0
  | .done _ =>
   pure true
theorem zL2:∀ p a0 b r,zLP p a0 b=some r→∀ {I:Imm}{p1 c p2 c1},(S4 I p1 p.Arrays c)→(S4 I p2 p.Parts c1)→RT 25 [vA (cProg p p1 c p2 c1),vI a0,vI b] I [] (zY  r):=by
 intro p a0 b r N I p1 c p2 c1 h h1;unfold zLP at N;refine zX (fn:=Tryz.f25) (c:=(bodyOf Tryz.f25)) Tryz.func25 rfl rfl ?_;rintro B - -;have H:=iS I;refine yK<|tO (cProg p p1 c p2 c1) ?_;intro b1 hb;refine yB [] []<|xD<|yC 1 [0] [(15,vA (cProg p p1 c p2 c1))] ?_;obtain ⟨⟨y1,y2⟩,hy,N⟩:=zB N;refine xS (zJ3 p _ hy h h1) ?_;rintro I0 hs2 v2 k2 le - ⟨v0,v01,rfl,rfl,h2,rfl⟩ -;have h:=h.mono le;have h1:=h1.mono le;have H:=H.trans le;refine yB [] [(7,v0),(8,.bool y2)]<|yG<|yI ?_;obtain ⟨o0,ho0,hMc⟩:=zB N;refine yU (fun I' hs' m'=>∃ (t37:Bool),o0=t37∧I0.le I'∧hs'=[]∧m'=[(1,vI a0),(2,vI b),(7,v0),(37,.bool t37)]) ?_ ?_
 · have H:=iS I0;refine zP<|yC 3 [] [(21,.bool (!y2))] ?_;cases hc:(!y2) with
   | true =>
    have hM0:=zS hc ho0
    try rw [hc]
    exact yB [] [(37,vY)]<|wC zT<|yS [(1,vI a0),(2,vI b),(7,v0),(37,vY)]<|zW (ct hM0 H)
   | false =>
    have hM01:=zQ hc ho0
    try rw [hc]
    refine yC 5 [0] [(22,vA (cProg p p1 c p2 c1)),(23,vI a0)] ?_;obtain ⟨y3,hy1,N⟩:=zB hM01;refine tQ (zG0 p a0 _ hy1 h h1) ?_;intro I02 le1;have h:=h.mono le1;have h1:=h1.mono le1;have H:=H.trans le1;refine yC 9 [] [(27,.bool (!y3))] ?_;cases hc1:(!y3) with
    | true =>
     have hM02:=zS hc1 N
     try rw [hc1]
     exact yB [] [(37,vY)]<|wC zT<|yS [(1,vI a0),(2,vI b),(7,v0),(37,vY)]<|zW (ct hM02 H)
    | false =>
     have hM03:=zQ hc1 N
     try rw [hc1]
     refine yC 11 [0] [(28,vA (cProg p p1 c p2 c1)),(29,vI b)] ?_;obtain ⟨y4,hy2,N⟩:=zB hM03;refine tQ (zG0 p b _ hy2 h h1) ?_;intro I03 le2;have H:=H.trans le2;refine yC 15 [] [(33,.bool (!y4))] ?_;cases hc2:(!y4) with
     | true =>
      have hM04:=zS hc2 N
      try rw [hc2]
      exact yB [] [(37,vY)]<|wC zT<|yS [(1,vI a0),(2,vI b),(7,v0),(37,vY)]<|zW (ct hM04 H)
     | false =>
      have hM05:=zQ hc2 N
      try rw [hc2]
      exact yB [] [(37,.bool (a0 == b))]<|wC zT<|yS [(1,vI a0),(2,vI b),(7,v0),(37,.bool (a0 == b))]<|zW (ct hM05 H)
 rintro I01 hs2 m2 ⟨t37,heq,le3,rfl,rfl⟩;subst o0;have h2:=h2.mono le3;refine zL<|yL hMc ?_ ?_
 · intro hc3 N;refine yF [(6,vF)]<|xP<|zN ?_;obtain rfl:=zC N;exact uM
 intro hc3 N;refine zV<|xD<|yC 2 [] [(39,v0),(40,vI a0)] ?_;obtain ⟨t,hy3,N⟩:=zB N;obtain ⟨ad,ccs,rfl,hat,hrep⟩:=zLH h2 hy3;obtain ⟨p3,c2,p4,c3,p5,c4,p6,c5,p7,c6,rfl,h6,h7,h8,h9,h10⟩:=zJB hrep;obtain ⟨⟨y6,y7⟩,hy4,N⟩:=zB N;refine xS (zG1 t a0 _ hy4 h6 h7 h8 h9 h10 hat) ?_;rintro I04 hs2 v2 k2 le4 - ⟨v09,v010,rfl,rfl,h11,h12⟩ -;have h6:=h6.mono le4;have h7:=h7.mono le4;have h8:=h8.mono le4;have h9:=h9.mono le4;have h10:=h10.mono le4;have hat:=hat.mono le4;obtain ⟨p8,c7,rfl⟩:=h11.form;obtain ⟨p9,c8,rfl⟩:=h12.form;refine yB [] [(9,vS p8 y6 c7),(10,vS p9 y7 c8)]<|xD<|yC 2 [] [(45,.pointer (some ad)),(46,vI b)] ?_;obtain ⟨⟨y9,y10⟩,hy5,N⟩:=zB N;refine xS (zG1 t b _ hy5 h6 h7 h8 h9 h10 hat) ?_;rintro I05 hs2 v2 k2 le5 - ⟨v011,v012,rfl,rfl,h13,h14⟩ -;have h11:=h11.mono le5;have h12:=h12.mono le5;obtain ⟨p10,c9,rfl⟩:=h13.form;obtain ⟨p11,c10,rfl⟩:=h14.form;refine yB [] [(11,vS p10 y9 c9),(12,vS p11 y10 c10)]<|yG<|yF [(51,vI (y6.length:Int)),(52,vI 0)]<|wD<|wN [(9,vS p8 y6 c7),(10,vS p9 y7 c8),(11,vS p10 y9 c9),(12,vS p11 y10 c10),(51,vI (y6.length:Int)),(52,vI 0)] ?_;obtain ⟨o02,ho02,hMl⟩:=zB N;refine zLf y6 y7 y9 y10 0 o02 ho02 iR h11 h12 h13 h14 (fun _ _ _ h=>h) (fun _ _ h=>h) ?_ ?_
 · intro I07  heq2 le7;subst o02;refine zU<|wW [(6,vY)]<|zL<|xG ?_;obtain rfl:=zC hMl;exact uM
 intro r0 I9 hs9 m9 heq9 le9 hrs9;subst heq9;refine yA<|zN ?_;obtain rfl:=zC hMl;exact xF hrs9
def zLY (list:(List Int)) (n0:Int) (i:Int):Option (Out Unit (Bool)):=do
 if (decide (i < (list.length:Int))) then
  let x←idx list i
  if (x == n0) then
   pure (.ret true)
  else
   zLY list n0 (W (i + 1))
 else
  pure (.done ())
 partial_fixpoint
theorem zLs (list:(List Int)) (n0:Int):∀ (i:Int) (o:Out Unit (Bool)),zLY list n0 i=some o→∀ {B}{I0 I:Imm}{Q p c},I0.le I→(S4 I p list c)→NG Q→NO Q→(∀ (I':Imm) ,o=(.done ())→I0.le I'→T 18 B Q (.exit 0) I' [] [])→(∀ r I' hs' m',o=(.ret r)→I0.le I'→RS Tryz.prog Tryz.f130 B (zY  r) I' hs' m'→T 18 B Q .ret I' hs' m')→J Tryz.prog 18 B (nav (bodyOf Tryz.f130) [1,0,1,0]) Q I [] [(0,vS p list c),(1,vI n0),(5,vI i)]:=by
 refine zLY.partial_correctness list n0 _ fun self ih i o N B I0 I Q p c H h hg ho hx hr=>yW hg ho<|yI<|yF [(9,.bool (decide (i < (list.length:Int))))]<|zL<|yL N ?_ ?_
 · intro hc N;refine zV<|yG<|yM<|yK<|yC 2 [] [(12,vS p list c),(13,vI i)]<|bE N fun x hy N=>xR rfl rfl h hy ?_;intro ad ccs hat hrep;obtain rfl:=hrep;refine xN 0 hat [vI x] (vI x) rfl<|yB [] [(17,.bool (x == n0))]<|zL<|yL N ?_ ?_
   · intro hc1 N;exact yF [(4,vY)]<|xP<|yA<|zN<|zN<|hr _ _ _ _ (zC N).symm H ⟨_,_,(.tmp rfl ResV.nil),zT,⟨_,rfl,rfl,rfl⟩⟩
   intro hc1 N;exact zV<|zR<|zL<|zP<|yB [] [(5,vI (W (i + 1)))]<|yT<|wN [(0,vS p list c),(1,vI n0),(5,vI (W (i + 1)))]<|ih (W (i + 1)) _ N H h hg ho hx hr
 intro hc N;exact vD<|yS []<|hx _  (zC N).symm H
def zL8 (list:(List Int)) (n0:Int):Option (Bool):=do
 match←zLY list n0 0 with
 | .ret r0=>pure r0
 | .done _ =>
  pure false
theorem zMC:∀ list n0 r,zL8 list n0=some r→∀ {I:Imm}{p c},(S4 I p list c)→RT 130 [vS p list c,vI n0] I [] (zY  r):=by
 intro list n0 r N I p c h;unfold zL8 at N;refine zX (fn:=Tryz.f130) (c:=(bodyOf Tryz.f130)) Tryz.func130 rfl rfl ?_;rintro B - -;refine yF []<|yG<|yF [(5,vI 0)]<|wD<|wN [(0,vS p list c),(1,vI n0),(5,vI 0)] ?_;obtain ⟨o0,ho0,hMl⟩:=zB N;refine zLs list n0 0 o0 ho0 iR h (fun _ _ _ h=>h) (fun _ _ h=>h) ?_ ?_
 · intro I0  heq le;subst o0;refine zU<|wW [(4,vF)]<|zL<|xG ?_;obtain rfl:=zC hMl;exact uM
 intro r0 I9 hs9 m9 heq9 le9 hrs9;subst heq9;refine yA<|zN ?_;obtain rfl:=zC hMl;exact xF hrs9
def zLW (a0:(List Int)) (b:(List Int)) (i:Int):Option (Out Unit (Bool)):=do
 if (decide (i < (a0.length:Int))) then
  let x←idx a0 i
  let y←zL8 b x
  if y then
   pure (.ret true)
  else
   zLW a0 b (W (i + 1))
 else
  pure (.done ())
 partial_fixpoint
theorem zLr (a0:(List Int)) (b:(List Int)):∀ (i:Int) (o:Out Unit (Bool)),zLW a0 b i=some o→∀ {B}{I0 I:Imm}{Q p c p1 c1},I0.le I→(S4 I p a0 c)→(S4 I p1 b c1)→NG Q→NO Q→(∀ (I':Imm) ,o=(.done ())→I0.le I'→T 18 B Q (.exit 0) I' [] [])→(∀ r I' hs' m',o=(.ret r)→I0.le I'→RS Tryz.prog Tryz.f77 B (zY  r) I' hs' m'→T 18 B Q .ret I' hs' m')→J Tryz.prog 18 B (nav (bodyOf Tryz.f77) [1,0,1,0]) Q I [] [(0,vS p a0 c),(1,vS p1 b c1),(5,vI i)]:=by
 refine zLW.partial_correctness a0 b _ fun self ih i o N B I0 I Q p c p1 c1 H h h1 hg ho hx hr=>yW hg ho<|yI<|yF [(9,.bool (decide (i < (a0.length:Int))))]<|zL<|yL N ?_ ?_
 · intro hc N;refine zV<|yG<|yM<|yK<|yC 3 [] [(12,vS p1 b c1),(13,vS p a0 c),(14,vI i)]<|bE N fun x hy N=>xR rfl rfl h hy ?_;intro ad ccs hat hrep;obtain rfl:=hrep;refine xN 0 hat [vI x] (vI x) rfl<|bE N fun y hy1 N=>tQ (zMC b x _ hy1 h1) ?_;intro I0 le;have h:=h.mono le;have h1:=h1.mono le;have H:=H.trans le;refine yH rfl<|zL<|yL N ?_ ?_
   · intro hc1 N;exact yF [(4,vY)]<|xP<|yA<|zN<|zN<|hr _ _ _ _ (zC N).symm H ⟨_,_,(.tmp rfl ResV.nil),zT,⟨_,rfl,rfl,rfl⟩⟩
   intro hc1 N;exact zV<|zR<|zL<|zP<|yB [] [(5,vI (W (i + 1)))]<|yT<|wN [(0,vS p a0 c),(1,vS p1 b c1),(5,vI (W (i + 1)))]<|ih (W (i + 1)) _ N H h h1 hg ho hx hr
 intro hc N;exact vD<|yS []<|hx _  (zC N).symm H
def zL0 (a0:(List Int)) (b:(List Int)):Option (Bool):=do
 match←zLW a0 b 0 with
 | .ret r0=>pure r0
 | .done _ =>
  pure false
theorem zLe:∀ a0 b r,zL0 a0 b=some r→∀ {I:Imm}{p c p1 c1},(S4 I p a0 c)→(S4 I p1 b c1)→RT 77 [vS p a0 c,vS p1 b c1] I [] (zY  r):=by
 intro a0 b r N I p c p1 c1 h h1;unfold zL0 at N;refine zX (fn:=Tryz.f77) (c:=(bodyOf Tryz.f77)) Tryz.func77 rfl rfl ?_;rintro B - -;refine yF []<|yG<|yF [(5,vI 0)]<|wD<|wN [(0,vS p a0 c),(1,vS p1 b c1),(5,vI 0)] ?_;obtain ⟨o0,ho0,hMl⟩:=zB N;refine zLr a0 b 0 o0 ho0 iR h h1 (fun _ _ _ h=>h) (fun _ _ h=>h) ?_ ?_
 · intro I01  heq le1;subst o0;refine zU<|wW [(4,vF)]<|zL<|xG ?_;obtain rfl:=zC hMl;exact uM
 intro r0 I9 hs9 m9 heq9 le9 hrs9;subst heq9;refine yA<|zN ?_;obtain rfl:=zC hMl;exact xF hrs9
def zLU (p:zH) (a0:Int) (b:Int):Option (Bool):=do
 let t38←(do
   let y←tH p
   if (!y) then
    pure true
   else
    if (decide (a0 < 0)) then
     pure true
    else
     if (decide (b < 0)) then
      pure true
     else
      if (decide (a0 ≥ (p.Parts.length:Int))) then
       pure true
      else
       if (decide (b ≥ (p.Parts.length:Int))) then
        pure true
       else
        pure (a0 == b)
     : Option Bool)
 if t38 then
  pure false
 else
  let y1←zAc p a0 true
  let y2←zAc p b true
  let t6←(do
    let y3←zL0 y1 y2
    if (!y3) then
     let y4←zAc p b false
     let y5←zL0 y1 y4
     if (!y5) then
      let y6←zAc p a0 false
      let y7←zL0 y2 y6
      pure (!y7)
     else
      pure false
    else
     pure false
      : Option Bool)
  pure (id t6)
theorem zL7:∀ p a0 b r,zLU p a0 b=some r→∀ {I:Imm}{p1 c p2 c1},(S4 I p1 p.Arrays c)→(S4 I p2 p.Parts c1)→RT 26 [vA (cProg p p1 c p2 c1),vI a0,vI b] I [] (zY  r):=by
 intro p a0 b r N I p1 c p2 c1 h h1;unfold zLU at N;refine zX (fn:=Tryz.f26) (c:=(bodyOf Tryz.f26)) Tryz.func26 rfl rfl ?_;rintro B - -;have H:=iS I;refine yK<|tO (cProg p p1 c p2 c1) ?_;intro b1 hb;refine yB [] []<|yG<|yI ?_;obtain ⟨o0,ho0,hMc⟩:=zB N;refine yU (fun I' hs' m'=>∃ (t38:Bool),o0=t38∧I.le I'∧hs'=[hB b1 (cProg p p1 c p2 c1)]∧m'=[(1,vI a0),(2,vI b),(3,vP b1 0),(38,.bool t38)]) ?_ ?_
 · have H:=iS I;refine zP<|yC 1 [0] [(9,vA (cProg p p1 c p2 c1))] ?_;obtain ⟨y,hy,N⟩:=zB ho0;refine tQ (gV p _ hy h h1) ?_;intro I01 le;have H:=H.trans le;refine yC 4 [] [(12,.bool (!y))] ?_;cases hc:(!y) with
   | true =>
    have hM0:=zS hc N
    try rw [hc]
    exact yB [] [(38,vY)]<|yS [(1,vI a0),(2,vI b),(3,vP b1 0),(38,vY)]<|zW (ct hM0 H)
   | false =>
    have hM01:=zQ hc N
    try rw [hc]
    refine yC 8 [] [(16,.bool (decide (a0 < 0)))] ?_;cases hc1:(decide (a0 < 0)) with
    | true =>
     have hM02:=zS hc1 hM01
     try rw [hc1]
     exact yB [] [(38,vY)]<|yS [(1,vI a0),(2,vI b),(3,vP b1 0),(38,vY)]<|zW (ct hM02 H)
    | false =>
     have hM03:=zQ hc1 hM01
     try rw [hc1]
     refine yC 12 [] [(20,.bool (decide (b < 0)))] ?_;cases hc2:(decide (b < 0)) with
     | true =>
      have hM04:=zS hc2 hM03
      try rw [hc2]
      exact yB [] [(38,vY)]<|yS [(1,vI a0),(2,vI b),(3,vP b1 0),(38,vY)]<|zW (ct hM04 H)
     | false =>
      have hM05:=zQ hc2 hM03
      try rw [hc2]
      refine yC 19 [0] [(27,.bool (decide (a0 ≥ (p.Parts.length:Int))))] ?_;cases hc3:(decide (a0 ≥ (p.Parts.length:Int))) with
      | true =>
       have hM06:=zS hc3 hM05
       try rw [hc3]
       exact yB [] [(38,vY)]<|yS [(1,vI a0),(2,vI b),(3,vP b1 0),(38,vY)]<|zW (ct hM06 H)
      | false =>
       have hM07:=zQ hc3 hM05
       try rw [hc3]
       refine yC 26 [0] [(34,.bool (decide (b ≥ (p.Parts.length:Int))))] ?_;cases hc4:(decide (b ≥ (p.Parts.length:Int))) with
       | true =>
        have hM08:=zS hc4 hM07
        try rw [hc4]
        exact yB [] [(38,vY)]<|yS [(1,vI a0),(2,vI b),(3,vP b1 0),(38,vY)]<|zW (ct hM08 H)
       | false =>
        have hM09:=zQ hc4 hM07
        try rw [hc4]
        exact yB [] [(38,.bool (a0 == b))]<|yS [(1,vI a0),(2,vI b),(3,vP b1 0),(38,.bool (a0 == b))]<|zW (ct hM09 H)
 rintro I0 hs2 m2 ⟨t38,heq,le1,rfl,rfl⟩;subst o0;have h:=h.mono le1;have h1:=h1.mono le1;have H:=H.trans le1;refine zL<|yL hMc ?_ ?_
 · intro hc5 N;refine yF [(6,vF)]<|xP<|zN ?_;obtain rfl:=zC N;exact uM
 intro hc5 N;refine zV<|xD<|yC 2 [0] [(39,vA (cProg p p1 c p2 c1)),(40,vI a0)]<|bE N fun y1 hy1 N=>xS (zIV p a0 true _ hy1 h h1) ?_;rintro I02 hs2 v2 k2 le2 - ⟨v01,rfl,rfl,h3⟩ -;have h:=h.mono le2;have h1:=h1.mono le2;have H:=H.trans le2;obtain ⟨p3,c2,rfl⟩:=h3.form;refine yB [] [(7,vS p3 y1 c2)]<|xD<|yC 2 [0] [(42,vA (cProg p p1 c p2 c1)),(43,vI b)]<|bE N fun y2 hy2 N=>xS (zIV p b true _ hy2 h h1) ?_;rintro I03 hs2 v2 k2 le3 - ⟨v02,rfl,rfl,h4⟩ -;have h3:=h3.mono le3;have h:=h.mono le3;have h1:=h1.mono le3;have H:=H.trans le3;obtain ⟨p4,c3,rfl⟩:=h4.form;refine yB [] [(8,vS p4 y2 c3)]<|zL<|yI ?_;obtain ⟨o01,ho01,hMc1⟩:=zB N;refine yU (fun I' hs' m'=>∃ (t6:Bool),o01=t6∧I03.le I'∧hs'=[]∧m'=[(6,.bool t6)]) ?_ ?_
 · have H:=iS I03;refine zP<|yC 2 [] [(45,vS p3 y1 c2),(46,vS p4 y2 c3)] ?_;obtain ⟨y3,hy3,N⟩:=zB ho01;refine tQ (zLe y1 y2 _ hy3 h3 h4) ?_;intro I05 le4;have h3:=h3.mono le4;have h4:=h4.mono le4;have h:=h.mono le4;have h1:=h1.mono le4;have H:=H.trans le4;refine yC 5 [] [(49,.bool (!y3))] ?_;cases hc6:(!y3) with
   | true =>
    have hM010:=zS hc6 N
    try rw [hc6]
    refine yC 8 [0] [(50,vS p3 y1 c2),(51,vA (cProg p p1 c p2 c1)),(52,vI b)] ?_;obtain ⟨y4,hy4,N⟩:=zB hM010;refine xS (zIV p b false _ hy4 h h1) ?_;rintro I06 hs2 v2 k2 le5 - ⟨v04,rfl,rfl,h6⟩ -;have h4:=h4.mono le5;have h3:=h3.mono le5;have h:=h.mono le5;have h1:=h1.mono le5;have H:=H.trans le5;obtain ⟨p5,c4,rfl⟩:=h6.form;obtain ⟨y5,hy5,N⟩:=zB N;refine tQ (zLe y1 y4 _ hy5 h3 h6) ?_;intro I07 le6;have h4:=h4.mono le6;have h:=h.mono le6;have h1:=h1.mono le6;have H:=H.trans le6;refine yC 13 [] [(57,.bool (!y5))] ?_;cases hc7:(!y5) with
    | true =>
     have hM011:=zS hc7 N
     try rw [hc7]
     refine yC 16 [0] [(58,vS p4 y2 c3),(59,vA (cProg p p1 c p2 c1)),(60,vI a0)] ?_;obtain ⟨y6,hy6,N⟩:=zB hM011;refine xS (zIV p a0 false _ hy6 h h1) ?_;rintro I08 hs2 v2 k2 le7 - ⟨v06,rfl,rfl,h8⟩ -;have h4:=h4.mono le7;have H:=H.trans le7;obtain ⟨p6,c5,rfl⟩:=h8.form;obtain ⟨y7,hy7,N⟩:=zB N;refine tQ (zLe y2 y6 _ hy7 h4 h8) ?_;intro I09 le8;have H:=H.trans le8;exact yB [] [(6,.bool (!y7))]<|wC zT<|yS [(6,.bool (!y7))]<|zW (ct N H)
    | false =>
     have hM012:=zQ hc7 N
     try rw [hc7]
     exact yB [] [(6,vF)]<|wC zT<|yS [(6,vF)]<|zW (ct hM012 H)
   | false =>
    have hM013:=zQ hc6 N
    try rw [hc6]
    exact yB [] [(6,vF)]<|wC zT<|yS [(6,vF)]<|zW (ct hM013 H)
 rintro I04 hs2 m2 ⟨t6,heq1,le9,rfl,rfl⟩;subst o01;refine zL<|xG ?_;obtain rfl:=zC hMc1;exact uM
def zLO (s:(List Int)) (v0:Int) (t8:Int):Option (Out Unit (Int)):=do
 if (decide (t8 < (s.length:Int))) then
  let x←idx s t8
  if (v0 == x) then
   pure (.ret t8)
  else
   zLO s v0 (W (t8 + 1))
 else
  pure (.done ())
 partial_fixpoint
theorem zLg (s:(List Int)) (v0:Int):∀ (t8:Int) (o:Out Unit (Int)),zLO s v0 t8=some o→∀ {B}{I0 I:Imm}{Q p c},I0.le I→(S4 I p s c)→NG Q→NO Q→(∀ (I':Imm) ,o=(.done ())→I0.le I'→T 19 B Q (.exit 0) I' [] [])→(∀ r I' hs' m',o=(.ret r)→I0.le I'→RS Tryz.prog Tryz.f195 B (xE  r) I' hs' m'→T 19 B Q .ret I' hs' m')→J Tryz.prog 19 B (nav (bodyOf Tryz.f195) [1,0,1,0]) Q I [] [(0,vS p s c),(1,vI v0),(7,vI (s.length:Int)),(8,vI t8)]:=by
 refine zLO.partial_correctness s v0 _ fun self ih t8 o N B I0 I Q p c H h hg ho hx hr=>yW hg ho<|yF [(9,.bool (decide (t8 < (s.length:Int))))]<|yG<|yL N ?_ ?_
 · intro hc N;refine zV<|yG<|yM<|yF [(5,vI t8)]<|xD<|yC 3 [] [(11,vI v0),(12,vS p s c),(13,vI t8)]<|bE N fun x hy N=>xR rfl rfl h hy ?_;intro ad ccs hat hrep;obtain rfl:=hrep;refine xN 0 hat [vI x] (vI x) rfl<|yB [] [(16,.bool (v0 == x))]<|zL<|yL N ?_ ?_
   · intro hc1 N;exact yF [(4,vI t8)]<|xP<|yA<|zN<|zN<|hr _ _ _ _ (zC N).symm H ⟨_,_,(.tmp rfl ResV.nil),zT,⟨_,rfl,rfl,rfl⟩⟩
   intro hc1 N;exact zV<|zR<|zL<|zP<|yB [] [(8,vI (W (t8 + 1)))]<|yT<|wN [(0,vS p s c),(1,vI v0),(7,vI (s.length:Int)),(8,vI (W (t8 + 1)))]<|ih (W (t8 + 1)) _ N H h hg ho hx hr
 intro hc N;exact vD<|yS []<|hx _  (zC N).symm H
def zLZ (s:(List Int)) (v0:Int):Option (Int):=do
 match←zLO s v0 0 with
 | .ret r0=>pure r0
 | .done _ =>
  pure (-1)
theorem zLi:∀ s v0 r,zLZ s v0=some r→∀ {I:Imm}{p c},(S4 I p s c)→RT 195 [vS p s c,vI v0] I [] (xE  r):=by
 intro s v0 r N I p c h;unfold zLZ at N;refine zX (fn:=Tryz.f195) (c:=(bodyOf Tryz.f195)) Tryz.func195 rfl rfl ?_;rintro B - -;refine yF []<|yG<|yF [(7,vI (s.length:Int)),(8,vI 0)]<|wD<|wN [(0,vS p s c),(1,vI v0),(7,vI (s.length:Int)),(8,vI 0)] ?_;obtain ⟨o0,ho0,hMl⟩:=zB N;refine zLg s v0 0 o0 ho0 iR h (fun _ _ _ h=>h) (fun _ _ h=>h) ?_ ?_
 · intro I0  heq le;subst o0;refine zU<|wW [(4,vI (-1))]<|zL<|xG ?_;obtain rfl:=zC hMl;exact uM
 intro r0 I9 hs9 m9 heq9 le9 hrs9;subst heq9;refine yA<|zN ?_;obtain rfl:=zC hMl;exact xF hrs9
def zLQ (s:(List Int)) (v0:Int):Option (Bool):=do
 let y←zLZ s v0
 pure (decide (y ≥ 0))
theorem zL6:∀ s v0 r,zLQ s v0=some r→∀ {I:Imm}{p c},(S4 I p s c)→RT 169 [vS p s c,vI v0] I [] (zY  r):=by
 intro s v0 r N I p c h;unfold zLQ at N;refine zX (fn:=Tryz.f169) (c:=(bodyOf Tryz.f169)) Tryz.func169 rfl rfl ?_;rintro B - -;refine yF []<|xD<|yC 2 [] [(5,vS p s c),(6,vI v0)]<|bE N fun y hy N=>kI (zLi s v0 _ hy h) fun I0 le=>yB [] [(4,.bool (decide (y ≥ 0)))]<|zL<|xG ?_;obtain rfl:=zC N;exact uM
def zLX (t:rN) (from0:Int) (to0:Int):Option (Int):=do
 let x←idx t.reads to0
 let x1←idx t.writes from0
 let y←zLQ x x1
 let kinds←(do
   if y then
    pure (W (0 + 1))
   else
    pure (id 0)
     : Option Int)
 let x2←idx t.reads from0
 let x3←idx t.writes to0
 let y1←zLQ x2 x3
 let kinds1←(do
   if y1 then
    pure (W (kinds + 2))
   else
    pure (id kinds)
     : Option Int)
 let x4←idx t.writes from0
 let x5←idx t.writes to0
 let kinds2←(do
   if (x4 == x5) then
    pure (W (kinds1 + 4))
   else
    pure (id kinds1)
     : Option Int)
 pure (id kinds2)
theorem zLj:∀ t from0 to0 r,zLX t from0 to0=some r→∀ {I:Imm}{ad:Addr}{p c p1 c1 p2 c2 p3 c3 p4 c4},(S4 I p t.Program.Arrays c)→(S4 I p1 t.Program.Parts c1)→(S4 I p2 t.list c2)→(S4 I p3 t.reads c3)→(S4 I p4 t.writes c4)→(At I ad [vS p t.Program.Arrays c,vS p1 t.Program.Parts c1,vS p2 t.list c2,vS p3 t.reads c3,vS p4 t.writes c4])→RT 131 [.pointer (some ad),vI from0,vI to0] I [] (xE  r):=by
 intro t from0 to0 r N I ad p c p1 c1 p2 c2 p3 c3 p4 c4 h h1 h2 h3 h4 hat;unfold zLX at N;refine zX (fn:=Tryz.f131) (c:=(bodyOf Tryz.f131)) Tryz.func131 rfl rfl ?_;rintro B - -;have H:=iS I;refine yF []<|wW [(7,vI 0)]<|yG<|yI ?_;obtain ⟨x,hy,N⟩:=zB N;obtain ⟨x1,hy1,N⟩:=zB N;obtain ⟨y,hy2,N⟩:=zB N;refine vC [.p (.pointer (some ad)) [],.p (.pointer (some ad)) [],.p (.pointer (some (ad.add 3))) [],.q (vS p3 t.reads c3),.p (vI to0) [],.x (fun I' v hx=>∃ ad1 p5 c5,v=.pointer (some ad1)∧hx=[]∧(At I' ad1 [vS p5 x c5])∧(S4 I' p5 x c5)),.x (fun I' v hx=>∃ p51 c51,v=vS p51 x c51∧hx=[]∧(S4 I' p51 x c51)),.p (.pointer (some ad)) [],.p (.pointer (some ad)) [],.p (.pointer (some (ad.add 4))) [],.q (vS p4 t.writes c4),.p (vI from0) [],.x (fun I' v hx=>∃ ad2,v=.pointer (some ad2)∧hx=[]∧(At I' ad2 [vI x1])),.q (vI x1),.q (.bool y)] [[],[(0,false)],[(1,false)],[(2,false)],[],[(3,false),(4,false)],[(5,false)],[],[(7,false)],[(8,false)],[(9,false)],[],[(10,false),(11,false)],[(12,false)],[(6,false),(13,false)]] [] [] [(14,false)] zT ?_ ?_
 · refine Op<|Op<|Op<|Oq ?_<|Op<|Ox ?_<|Ox ?_<|Op<|Op<|Op<|Oq ?_<|Op<|Ox ?_<|Oq ?_<|Oq ?_<|On
   · intro I1 hf le1;refine yR [(10,.pointer (some (ad.add 3)))] ?_;have hat:=hat.mono le1;exact xN 3 hat [vS p3 t.reads c3] (vS p3 t.reads c3) rfl<|xI iR
   · intro I1 hf le1;refine yR [(11,vS p3 t.reads c3),(12,vI to0)] ?_;have h3:=h3.mono le1;refine xR rfl rfl h3 hy ?_;intro ad1 ccs hat1 hrep;obtain ⟨v0,rfl,h5⟩:=hrep;obtain ⟨p5,c5,rfl⟩:=h5.form;exact yP [] iR ⟨_,_,_,rfl,rfl,hat1,h5⟩
   · intro I1 hf le1;refine zF ?_;rintro _ _ ⟨ad1,p5,c5,rfl,rfl,hat1,h5⟩;exact yR [(13,.pointer (some ad1))]<|xN 0 hat1 [vS p5 x c5] (vS p5 x c5) rfl<|yP [] iR ⟨_,_,rfl,rfl,h5⟩
   · intro I1 hf le1;refine yR [(17,.pointer (some (ad.add 4)))] ?_;have hat:=hat.mono le1;exact xN 4 hat [vS p4 t.writes c4] (vS p4 t.writes c4) rfl<|xI iR
   · intro I1 hf le1;refine yR [(18,vS p4 t.writes c4),(19,vI from0)] ?_;have h4:=h4.mono le1;refine xR rfl rfl h4 hy1 ?_;intro ad2 ccs1 hat2 hrep1;obtain rfl:=hrep1;exact yP [] iR ⟨_,rfl,rfl,hat2⟩
   · intro I1 hf le1;refine zF ?_;rintro _ _ ⟨ad2,rfl,rfl,hat2⟩;exact yR [(20,.pointer (some ad2))]<|xN 0 hat2 [vI x1] (vI x1) rfl<|xI iR
   intro I1 hf le1;refine zF ?_;rintro _ _ ⟨p51,c51,rfl,rfl,h51⟩;refine yR [(14,vS p51 x c51),(21,vI x1)] ?_;have H:=iS I1;refine tQ (zL6 x x1 _ hy2 h51) ?_;intro I0 le;have H:=H.trans le;exact xI H
 intro I01 le1;refine yR [(0,.pointer (some ad)),(1,vI from0),(2,vI to0),(7,vI 0),(22,.bool y)] ?_;have h3:=h3.mono le1;have h4:=h4.mono le1;have hat:=hat.mono le1;have H:=H.trans le1;refine yH rfl<|zL ?_;obtain ⟨o0,ho0,hMc⟩:=zB N;refine yU (fun I' hs' m'=>∃ (kinds:Int),o0=kinds∧I01.le I'∧hs'=[]∧m'=[(0,.pointer (some ad)),(1,vI from0),(2,vI to0),(7,vI kinds)]) ?_ ?_
 · have H:=iS I01;refine yL ho0 ?_ ?_
   · intro hc N;exact zP<|yB [] [(7,vI (W (0 + 1)))]<|yS [(0,.pointer (some ad)),(1,vI from0),(2,vI to0),(7,vI (W (0 + 1)))]<|zW (ct N H)
   intro hc N;exact zV<|yS [(0,.pointer (some ad)),(1,vI from0),(2,vI to0),(7,vI 0)]<|zW (ct N H)
 rintro I02 hs2 m2 ⟨kinds,heq,le2,rfl,rfl⟩;subst o0;have h3:=h3.mono le2;have h4:=h4.mono le2;have hat:=hat.mono le2;have H:=H.trans le2;refine yG<|yI ?_;obtain ⟨x2,hy3,N⟩:=zB hMc;obtain ⟨x3,hy4,N⟩:=zB N;obtain ⟨y1,hy5,N⟩:=zB N;refine vC [.p (.pointer (some ad)) [],.p (.pointer (some ad)) [],.p (.pointer (some (ad.add 3))) [],.q (vS p3 t.reads c3),.p (vI from0) [],.x (fun I' v hx=>∃ ad3 p6 c6,v=.pointer (some ad3)∧hx=[]∧(At I' ad3 [vS p6 x2 c6])∧(S4 I' p6 x2 c6)),.x (fun I' v hx=>∃ p61 c61,v=vS p61 x2 c61∧hx=[]∧(S4 I' p61 x2 c61)),.p (.pointer (some ad)) [],.p (.pointer (some ad)) [],.p (.pointer (some (ad.add 4))) [],.q (vS p4 t.writes c4),.p (vI to0) [],.x (fun I' v hx=>∃ ad4,v=.pointer (some ad4)∧hx=[]∧(At I' ad4 [vI x3])),.q (vI x3),.q (.bool y1)] [[],[(0,false)],[(1,false)],[(2,false)],[],[(3,false),(4,false)],[(5,false)],[],[(7,false)],[(8,false)],[(9,false)],[],[(10,false),(11,false)],[(12,false)],[(6,false),(13,false)]] [] [] [(14,false)] zT ?_ ?_
 · refine Op<|Op<|Op<|Oq ?_<|Op<|Ox ?_<|Ox ?_<|Op<|Op<|Op<|Oq ?_<|Op<|Ox ?_<|Oq ?_<|Oq ?_<|On
   · intro I1 hf le1;refine yR [(27,.pointer (some (ad.add 3)))] ?_;have hat:=hat.mono le1;exact xN 3 hat [vS p3 t.reads c3] (vS p3 t.reads c3) rfl<|xI iR
   · intro I1 hf le1;refine yR [(28,vS p3 t.reads c3),(29,vI from0)] ?_;have h3:=h3.mono le1;refine xR rfl rfl h3 hy3 ?_;intro ad3 ccs2 hat3 hrep2;obtain ⟨v02,rfl,h7⟩:=hrep2;obtain ⟨p6,c6,rfl⟩:=h7.form;exact yP [] iR ⟨_,_,_,rfl,rfl,hat3,h7⟩
   · intro I1 hf le1;refine zF ?_;rintro _ _ ⟨ad3,p6,c6,rfl,rfl,hat3,h7⟩;exact yR [(30,.pointer (some ad3))]<|xN 0 hat3 [vS p6 x2 c6] (vS p6 x2 c6) rfl<|yP [] iR ⟨_,_,rfl,rfl,h7⟩
   · intro I1 hf le1;refine yR [(34,.pointer (some (ad.add 4)))] ?_;have hat:=hat.mono le1;exact xN 4 hat [vS p4 t.writes c4] (vS p4 t.writes c4) rfl<|xI iR
   · intro I1 hf le1;refine yR [(35,vS p4 t.writes c4),(36,vI to0)] ?_;have h4:=h4.mono le1;refine xR rfl rfl h4 hy4 ?_;intro ad4 ccs3 hat4 hrep3;obtain rfl:=hrep3;exact yP [] iR ⟨_,rfl,rfl,hat4⟩
   · intro I1 hf le1;refine zF ?_;rintro _ _ ⟨ad4,rfl,rfl,hat4⟩;exact yR [(37,.pointer (some ad4))]<|xN 0 hat4 [vI x3] (vI x3) rfl<|xI iR
   intro I1 hf le1;refine zF ?_;rintro _ _ ⟨p61,c61,rfl,rfl,h71⟩;refine yR [(31,vS p61 x2 c61),(38,vI x3)] ?_;have H:=iS I1;refine tQ (zL6 x2 x3 _ hy5 h71) ?_;intro I03 le3;have H:=H.trans le3;exact xI H
 intro I04 le4;refine yR [(0,.pointer (some ad)),(1,vI from0),(2,vI to0),(7,vI kinds),(39,.bool y1)] ?_;have h4:=h4.mono le4;have hat:=hat.mono le4;have H:=H.trans le4;refine yH rfl<|zL ?_;obtain ⟨o01,ho01,hMc1⟩:=zB N;refine yU (fun I' hs' m'=>∃ (kinds1:Int),o01=kinds1∧I04.le I'∧hs'=[]∧m'=[(0,.pointer (some ad)),(1,vI from0),(2,vI to0),(7,vI kinds1)]) ?_ ?_
 · have H:=iS I04;refine yL ho01 ?_ ?_
   · intro hc1 N;exact zP<|yB [] [(7,vI (W (kinds + 2)))]<|yS [(0,.pointer (some ad)),(1,vI from0),(2,vI to0),(7,vI (W (kinds + 2)))]<|zW (ct N H)
   intro hc1 N;exact zV<|yS [(0,.pointer (some ad)),(1,vI from0),(2,vI to0),(7,vI kinds)]<|zW (ct N H)
 rintro I05 hs2 m2 ⟨kinds1,heq1,le5,rfl,rfl⟩;subst o01;have h4:=h4.mono le5;have hat:=hat.mono le5;have H:=H.trans le5;refine yG<|yI<|fP (by kernel_rfl) (by kernel_rfl)<|zAd 3 [] [(44,.pointer (some (ad.add 4)))]<|zEm 4 hat [vS p4 t.writes c4] (vS p4 t.writes c4) rfl<|zAd 5 [] [(46,vI from0)] ?_;obtain ⟨x4,hy6,N⟩:=zB hMc1;refine zEn rfl rfl h4 hy6 ?_;intro ad5 ccs4 hat5 hrep4;obtain rfl:=hrep4;refine zEm 0 hat5 [vI x4] (vI x4) rfl<|zAd 10 [] [(51,.pointer (some (ad.add 4)))]<|zEm 4 hat [vS p4 t.writes c4] (vS p4 t.writes c4) rfl<|zAd 12 [] [(53,vI to0)]<|bE N fun x5 hy7 N=>zEn rfl rfl h4 hy7 ?_;intro ad6 ccs5 hat6 hrep5;obtain rfl:=hrep5;refine zEm 0 hat6 [vI x5] (vI x5) rfl<|zEA [] [(56,.bool (x4 == x5))]<|zL ?_;obtain ⟨o02,ho02,hMc2⟩:=zB N;refine yU (fun I' hs' m'=>∃ (kinds2:Int),o02=kinds2∧I05.le I'∧hs'=[]∧m'=[(7,vI kinds2)]) ?_ ?_
 · have H:=iS I05;refine yL ho02 ?_ ?_
   · intro hc2 N;exact zP<|yB [] [(7,vI (W (kinds1 + 4)))]<|yS [(7,vI (W (kinds1 + 4)))]<|zW (ct N H)
   intro hc2 N;exact zV<|yS [(7,vI kinds1)]<|zW (ct N H)
 rintro I06 hs2 m2 ⟨kinds2,heq2,le6,rfl,rfl⟩;subst o02;refine wW [(6,vI kinds2)]<|zL<|xG ?_;obtain rfl:=zC hMc2;exact uM
end Go.LN
namespace Go.LN
open Go.Proofs
set_option maxRecDepth 20000
def zL9 (r:(List zLL)):KT:=fun kk I' hs' v=>
  ∃ v0,hs'=[]∧v=tupV [v0]∧SL I' v0 r
def zLR (t:rN) (t12:Int) (out2:List zLL) (to0:Int):Option (List zLL):=do
 if (decide (to0 < (t.list.length:Int))) then
  let y←zLX t t12 to0
  let out4←(do
    if (decide (y > 0)) then
     let out5←app 24 out2 ([(zLL.mk t12 to0 y)]:List zLL)
     pure (id out5)
    else
     pure (id out2)
      : Option (List zLL))
  zLR t t12 out4 (W (to0 + 1))
 else
  pure (id out2)
 partial_fixpoint
theorem zLk (t:rN) (t12:Int):∀ (out2:List zLL) (to0:Int) (o:List zLL),zLR t t12 out2 to0=some o→∀ {B}{I0 I:Imm}{Q}  {ad:Addr}{p c p1 c1 p2 c2 p3 c3 p4 c4 p7 c7 cs2},I0.le I→(S4 I p t.Program.Arrays c)→(S4 I p1 t.Program.Parts c1)→(S4 I p2 t.list c2)→(S4 I p3 t.reads c3)→(S4 I p4 t.writes c4)→(At I ad [vS p t.Program.Arrays c,vS p1 t.Program.Parts c1,vS p2 t.list c2,vS p3 t.reads c3,vS p4 t.writes c4])→(RL I cs2 out2)→NG Q→NO Q→(∀ (I':Imm) (out3:List zLL) (p8:Option Addr) (c8:Nat) (cs3:List Value),o=out3→I0.le I'→(RL I' cs3 out3)→T 41 B Q (.exit 2) I' [hO zLL (vS p8 out3 c8) cs3] [(0,.pointer (some ad)),(3,vS p8 out3 c8),(11,vI (t.list.length:Int)),(12,vI t12)])→J Tryz.prog 41 B (nav (bodyOf Tryz.f78) [1,1,0,1,0,0,1,1,0,0,1,1,0]) Q I [hO zLL (vS p7 out2 c7) cs2] [(0,.pointer (some ad)),(3,vS p7 out2 c7),(4,vI t12),(5,vI to0),(11,vI (t.list.length:Int)),(12,vI t12)]:=by
 refine zLR.partial_correctness t t12 _ fun self ih out2 to0 o N B I0 I Q ad p c p1 c1 p2 c2 p3 c3 p4 c4 p7 c7 cs2 H h h1 h2 h3 h4 hat h8 hg ho hx=>yW hg ho<|yI<|yK<|yC 4 [] [(17,vI to0),(20,.pointer (some (ad.add 2)))]<|xN 2 hat [vS p2 t.list c2] (vS p2 t.list c2) rfl<|yB [] [(23,.bool (decide (to0 < (t.list.length:Int))))]<|zL<|yL N ?_ ?_
 · intro hc1 N;refine zV<|yG<|yM<|yK<|yC 3 [] [(26,.pointer (some ad)),(27,vI t12),(28,vI to0)]<|bE N fun y hy N=>kI (zLj t t12 to0 _ hy h h1 h2 h3 h4 hat) ?_;intro I0 le;have h:=h.mono le;have h1:=h1.mono le;have h2:=h2.mono le;have h3:=h3.mono le;have h4:=h4.mono le;have hat:=hat.mono le;have h8:=iM le h8;have H:=H.trans le;refine yB [] [(6,vI y)]<|wW [(31,.bool (decide (y > 0)))]<|zL ?_;obtain ⟨o0,ho0,hMc⟩:=zB N;refine yU (fun I' hs' m'=>∃ (out4:List zLL) (p9:Option Addr) (c9:Nat) (cs4:List Value),o0=out4∧I0.le I'∧(RL I' cs4 out4)∧hs'=[hO zLL (vS p9 out4 c9) cs4]∧m'=[(0,.pointer (some ad)),(3,vS p9 out4 c9),(4,vI t12),(5,vI to0),(11,vI (t.list.length:Int)),(12,vI t12)]) ?_ ?_
   · have H:=iS I0;refine yL ho0 ?_ ?_
     · intro hc2 N;refine zP<|yC 5 [] [(32,vS p7 out2 c7),(36,vA [vI t12,vI to0,vI y])]<|xU [vI t12,vI to0,vI y] zLL ?_;intro b hb;have h12:RL I0 [vI t12,vI to0,vI y] ([(zLL.mk t12 to0 y)]:List zLL):=⟨[vI t12,vI to0,vI y],_,rfl,rfl,(zMB rfl),rfl⟩;obtain ⟨out5,hy1,N⟩:=zB N;exact qI 73 3 1 rfl rfl rfl h8 (.inr ⟨0,rfl⟩) h12 hy1 fun p10 c10 cs5 h13=>sU (yD [1] (hs':=[hO zLL (vS p10 out5 c10) cs5]))<|yB [] [(3,vS p10 out5 c10)]<|yS [(0,.pointer (some ad)),(3,vS p10 out5 c10),(4,vI t12),(5,vI to0),(11,vI (t.list.length:Int)),(12,vI t12)]<|zW ⟨_,_,_,_,(zC N).symm,H,h13,rfl,rfl⟩
     intro hc2 N;exact zV<|yS [(0,.pointer (some ad)),(3,vS p7 out2 c7),(4,vI t12),(5,vI to0),(11,vI (t.list.length:Int)),(12,vI t12)]<|zW ⟨_,_,_,_,(zC N).symm,H,h8,rfl,rfl⟩
   rintro I01 hs2 m2 ⟨out4,p9,c9,cs4,heq,le1,h11,rfl,rfl⟩;subst o0;have h:=h.mono le1;have h1:=h1.mono le1;have h2:=h2.mono le1;have h3:=h3.mono le1;have h4:=h4.mono le1;have hat:=hat.mono le1;have H:=H.trans le1;exact zR<|zL<|zP<|yB [] [(5,vI (W (to0 + 1)))]<|yT<|wN [(0,.pointer (some ad)),(3,vS p9 out4 c9),(4,vI t12),(5,vI (W (to0 + 1))),(11,vI (t.list.length:Int)),(12,vI t12)]<|ih out4 (W (to0 + 1)) _ hMc H h h1 h2 h3 h4 hat h11 hg ho hx
 intro hc1 N;exact vD<|yS [(0,.pointer (some ad)),(3,vS p7 out2 c7),(11,vI (t.list.length:Int)),(12,vI t12)]<|hx _ _ _ _ _ (zC N).symm H h8
def zLS (t:rN) (out:List zLL) (t12:Int):Option (List zLL):=do
 if (decide (t12 < (t.list.length:Int))) then
  let out3←zLR t t12 out (W (t12 + 1))
  zLS t out3 (W (t12 + 1))
 else
  pure (id out)
 partial_fixpoint
theorem zLl (t:rN):∀ (out:List zLL) (t12:Int) (o:List zLL),zLS t out t12=some o→∀ {B}{I0 I:Imm}{Q}  {ad:Addr}{p c p1 c1 p2 c2 p3 c3 p4 c4 p5 c5 cs},I0.le I→(S4 I p t.Program.Arrays c)→(S4 I p1 t.Program.Parts c1)→(S4 I p2 t.list c2)→(S4 I p3 t.reads c3)→(S4 I p4 t.writes c4)→(At I ad [vS p t.Program.Arrays c,vS p1 t.Program.Parts c1,vS p2 t.list c2,vS p3 t.reads c3,vS p4 t.writes c4])→(RL I cs out)→NG Q→NO Q→(∀ (I':Imm) (out1:List zLL) (p6:Option Addr) (c6:Nat) (cs1:List Value),o=out1→I0.le I'→(RL I' cs1 out1)→T 41 B Q (.exit 0) I' [hO zLL (vS p6 out1 c6) cs1] [(3,vS p6 out1 c6)])→J Tryz.prog 41 B (nav (bodyOf Tryz.f78) [1,1,0,1,0]) Q I [hO zLL (vS p5 out c5) cs] [(0,.pointer (some ad)),(3,vS p5 out c5),(11,vI (t.list.length:Int)),(12,vI t12)]:=by
 refine zLS.partial_correctness t _ fun self ih out t12 o N B I0 I Q ad p c p1 c1 p2 c2 p3 c3 p4 c4 p5 c5 cs H h h1 h2 h3 h4 hat h6 hg ho hx=>yW hg ho<|yF [(13,.bool (decide (t12 < (t.list.length:Int))))]<|yG<|yL N ?_ ?_
 · intro hc N;refine zV<|yG<|yM<|yF [(4,vI t12)]<|wW [(5,vI (W (t12 + 1)))]<|wD<|wN [(0,.pointer (some ad)),(3,vS p5 out c5),(4,vI t12),(5,vI (W (t12 + 1))),(11,vI (t.list.length:Int)),(12,vI t12)] ?_;obtain ⟨o01,ho01,hMl⟩:=zB N;refine zLk t t12 out (W (t12 + 1)) o01 ho01 iR h h1 h2 h3 h4 hat h6 (fun _ _ _ h=>hg _ _ _ h) (fun _ _ h=>ho _ _ h) ?_;intro I02 out3 p8 c8 cs3 heq1 le2 h9;subst o01;have h:=h.mono le2;have h1:=h1.mono le2;have h2:=h2.mono le2;have h3:=h3.mono le2;have h4:=h4.mono le2;have hat:=hat.mono le2;have H:=H.trans le2;exact zU<|zR<|zL<|zP<|yB [] [(12,vI (W (t12 + 1)))]<|yT<|wN [(0,.pointer (some ad)),(3,vS p8 out3 c8),(11,vI (t.list.length:Int)),(12,vI (W (t12 + 1)))]<|ih out3 (W (t12 + 1)) _ hMl H h h1 h2 h3 h4 hat h9 hg ho hx
 intro hc N;exact vD<|yS [(3,vS p5 out c5)]<|hx _ _ _ _ _ (zC N).symm H h6
def zL4 (t:rN):Option ((List zLL)):=do
 let out1←zLS t ([]:List zLL) 0
 pure (id out1)
theorem zLo:∀ t r,zL4 t=some r→∀ {I:Imm}{ad:Addr}{p c p1 c1 p2 c2 p3 c3 p4 c4},(S4 I p t.Program.Arrays c)→(S4 I p1 t.Program.Parts c1)→(S4 I p2 t.list c2)→(S4 I p3 t.reads c3)→(S4 I p4 t.writes c4)→(At I ad [vS p t.Program.Arrays c,vS p1 t.Program.Parts c1,vS p2 t.list c2,vS p3 t.reads c3,vS p4 t.writes c4])→RT 78 [.pointer (some ad)] I [] (zL9  r):=by
 intro t r N I ad p c p1 c1 p2 c2 p3 c3 p4 c4 h h1 h2 h3 h4 hat;unfold zL4 at N;refine zX (fn:=Tryz.f78) (c:=(bodyOf Tryz.f78)) Tryz.func78 rfl rfl ?_;rintro B - -;refine yF []<|wW [(3,z0)]<|yG<|yK<|yC 3 [] [(9,.pointer (some (ad.add 2)))]<|xN 2 hat [vS p2 t.list c2] (vS p2 t.list c2) rfl<|yB [] [(11,vI (t.list.length:Int)),(12,vI 0)]<|wD<|wN [(0,.pointer (some ad)),(3,z0),(11,vI (t.list.length:Int)),(12,vI 0)]<|rM (wT (Rp.sz zLL)) ?_;have h5:RL I [] ([]:List zLL):=RepL.nil;obtain ⟨o02,ho02,hMl1⟩:=zB N;refine zLl t ([]:List zLL) 0 o02 ho02 iR h h1 h2 h3 h4 hat h5 (fun _ _ _ h=>h) (fun _ _ h=>h) ?_;intro I03 out1 p6 c6 cs1 heq2 le3 h7;subst o02;refine zU<|wW [(2,vS p6 out1 c6)]<|xP<|xA 0 rfl ?_;intro I04 le4 hl0;have h14:=SL.of_frozen hl0 le4 h7;obtain rfl:=zC hMl1;exact xF ⟨_,_,(.tmp rfl ResV.nil),zT,⟨_,rfl,rfl,h14⟩⟩
def zL1 (p:zH):Option ((List zLL)):=do
 let (y1,y2)←fL p
 if (!y2) then
  pure ([]:List zLL)
 else
  let t←y1
  let y3←zL4 t
  pure (id y3)
theorem zLp:∀ p r,zL1 p=some r→∀ {I:Imm}{p1 c p2 c1},(S4 I p1 p.Arrays c)→(S4 I p2 p.Parts c1)→RT 27 [vA (cProg p p1 c p2 c1)] I [] (zL9  r):=by
 intro p r N I p1 c p2 c1 h h1;unfold zL1 at N;refine zX (fn:=Tryz.f27) (c:=(bodyOf Tryz.f27)) Tryz.func27 rfl rfl ?_;rintro B - -;refine yK<|tO (cProg p p1 c p2 c1) ?_;intro b hb;refine yB [] []<|xD<|yC 1 [0] [(6,vA (cProg p p1 c p2 c1))] ?_;obtain ⟨⟨y1,y2⟩,hy,N⟩:=zB N;refine xS (zJ3 p _ hy h h1) ?_;rintro I0 hs2 v2 k2 le - ⟨v0,v01,rfl,rfl,h2,rfl⟩ -;refine yB [] [(3,v0),(4,.bool y2)]<|yG<|yF [(11,.bool (!y2))]<|zL<|yL N ?_ ?_
 · intro hc N;refine yF [(2,z0)]<|xP<|zN ?_;obtain rfl:=zC N;exact xF ⟨_,_,(.tmp rfl ResV.nil),zT,⟨_,rfl,rfl,(SL.nil _)⟩⟩
 intro hc N;refine zV<|xD<|yC 1 [] [(12,v0)] ?_;obtain ⟨t,hy1,N⟩:=zB N;obtain ⟨ad,ccs,rfl,hat,hrep⟩:=zLH h2 hy1;obtain ⟨p3,c2,p4,c3,p5,c4,p6,c5,p7,c6,rfl,h4,h5,h6,h7,h8⟩:=zJB hrep;obtain ⟨y3,hy2,N⟩:=zB N;refine xS (zLo t _ hy2 h4 h5 h6 h7 h8 hat) ?_;rintro I01 hs2 v2 k2 le1 - ⟨v07,rfl,rfl,h9⟩ -;obtain ⟨p8,c7,rfl⟩:=h9.form;refine yB [] [(2,vS p8 y3 c7)]<|zL<|xG ?_;obtain rfl:=zC N;exact xF ⟨_,_,(.tmp rfl ResV.nil),zT,⟨_,rfl,rfl,h9⟩⟩
def zLM (y2:Int) (y3:Int) (y9:(List zO)) (y10:(List zLL)) (i:Int):Option (Out Unit (Bool)):=do
 if (decide (i < (y10.length:Int))) then
  let x←idx y10 i
  let x1←idx y9 x.From
  let x2←idx y10 i
  let x3←idx y9 x2.To
  let t102←(do
    if (x1.Part == y2) then
     if (x3.Part == y3) then
      pure true
     else
      if (x1.Part == y3) then
       pure (x3.Part == y2)
      else
       pure false
    else
     if (x1.Part == y3) then
      pure (x3.Part == y2)
     else
      pure false
      : Option Bool)
  if t102 then
   pure (.ret false)
  else
   zLM y2 y3 y9 y10 (W (i + 1))
 else
  pure (.done ())
 partial_fixpoint
theorem zLc (y2:Int) (y3:Int) (y9:(List zO)) (y10:(List zLL)):∀ (i:Int) (o:Out Unit (Bool)),zLM y2 y3 y9 y10 i=some o→∀ {B}{I0 I:Imm}{Q p3 c3 p4 c4},I0.le I→(S4 I p3 y9 c3)→(S4 I p4 y10 c4)→NG Q→NO Q→(∀ (I':Imm) ,o=(.done ())→I0.le I'→T 106 B Q (.exit 0) I' [] [(4,vI y2),(5,vI y3)])→(∀ r I' hs' m',o=(.ret r)→I0.le I'→RS Tryz.prog Tryz.f7 B (zY  r) I' hs' m'→T 106 B Q .ret I' hs' m')→J Tryz.prog 106 B (nav (bodyOf Tryz.f7) [1,1,1,1,1,1,1,0,1,0]) Q I [] [(4,vI y2),(5,vI y3),(7,vS p3 y9 c3),(8,vS p4 y10 c4),(9,vI i)]:=by
 refine zLM.partial_correctness y2 y3 y9 y10 _ fun self ih i o N B I0 I Q p3 c3 p4 c4 H h11 h12 hg ho hx hr=>yW hg ho<|yI<|yF [(64,.bool (decide (i < (y10.length:Int))))]<|zL<|yL N ?_ ?_
 · intro hc5 N;refine zV<|yG<|yM<|yK<|yC 3 [] [(67,vS p3 y9 c3),(68,vS p4 y10 c4),(69,vI i)]<|bE N fun x hy8 N=>xR rfl rfl h12 hy8 ?_;intro ad ccs hat hrep;obtain rfl:=zLq hrep;refine yC 5 [] [(71,.pointer (some ad))]<|xN 0 hat [vI x.From] (vI x.From) rfl<|bE N fun x1 hy9 N=>xR rfl rfl h11 hy9 ?_;intro ad1 ccs1 hat1 hrep1;obtain ⟨p5,c5,rfl,h13⟩:=oQ hrep1;refine yC 8 [] [(74,.pointer (some ad1))]<|xN 0 hat1 [vI x1.Part] (vI x1.Part) rfl<|yB [] [(10,vI x1.Part)]<|xD<|yC 3 [] [(76,vS p3 y9 c3),(77,vS p4 y10 c4),(78,vI i)]<|bE N fun x2 hy10 N=>xR rfl rfl h12 hy10 ?_;intro ad2 ccs2 hat2 hrep2;obtain rfl:=zLq hrep2;refine yC 5 [] [(80,.pointer (some (ad2.add 1)))]<|xN 1 hat2 [vI x2.To] (vI x2.To) rfl<|bE N fun x3 hy11 N=>xR rfl rfl h11 hy11 ?_;intro ad3 ccs3 hat3 hrep3;obtain ⟨p6,c6,rfl,h14⟩:=oQ hrep3;refine yC 8 [] [(83,.pointer (some ad3))]<|xN 0 hat3 [vI x3.Part] (vI x3.Part) rfl<|yB [] [(11,vI x3.Part)]<|zL<|yI ?_;obtain ⟨o02,ho02,hMc2⟩:=zB N;refine yU (fun I' hs' m'=>∃ (t102:Bool),o02=t102∧I.le I'∧hs'=[]∧m'=[(4,vI y2),(5,vI y3),(7,vS p3 y9 c3),(8,vS p4 y10 c4),(9,vI i),(102,.bool t102)]) ?_ ?_
   · have H:=iS I;refine zP<|yC 4 [] [(88,.bool (x1.Part == y2))] ?_;cases hc6:(x1.Part == y2) with
     | true =>
      have hM06:=zS hc6 ho02
      try rw [hc6]
      refine yC 9 [] [(93,.bool (x3.Part == y3))] ?_;cases hc7:(x3.Part == y3) with
      | true =>
       have hM07:=zS hc7 hM06
       try rw [hc7]
       exact yB [] [(102,vY)]<|yS [(4,vI y2),(5,vI y3),(7,vS p3 y9 c3),(8,vS p4 y10 c4),(9,vI i),(102,vY)]<|zW (ct hM07 H)
      | false =>
       have hM08:=zQ hc7 hM06
       try rw [hc7]
       refine yC 13 [] [(97,.bool (x1.Part == y3))] ?_;cases hc8:(x1.Part == y3) with
       | true =>
        have hM09:=zS hc8 hM08
        try rw [hc8]
        exact yB [] [(102,.bool (x3.Part == y2))]<|yS [(4,vI y2),(5,vI y3),(7,vS p3 y9 c3),(8,vS p4 y10 c4),(9,vI i),(102,.bool (x3.Part == y2))]<|zW (ct hM09 H)
       | false =>
        have hM010:=zQ hc8 hM08
        try rw [hc8]
        exact yB [] [(102,vF)]<|yS [(4,vI y2),(5,vI y3),(7,vS p3 y9 c3),(8,vS p4 y10 c4),(9,vI i),(102,vF)]<|zW (ct hM010 H)
     | false =>
      have hM011:=zQ hc6 ho02
      try rw [hc6]
      refine yC 13 [] [(93,vF),(97,.bool (x1.Part == y3))] ?_;cases hc9:(x1.Part == y3) with
      | true =>
       have hM012:=zS hc9 hM011
       try rw [hc9]
       exact yB [] [(102,.bool (x3.Part == y2))]<|yS [(4,vI y2),(5,vI y3),(7,vS p3 y9 c3),(8,vS p4 y10 c4),(9,vI i),(102,.bool (x3.Part == y2))]<|zW (ct hM012 H)
      | false =>
       have hM013:=zQ hc9 hM011
       try rw [hc9]
       exact yB [] [(102,vF)]<|yS [(4,vI y2),(5,vI y3),(7,vS p3 y9 c3),(8,vS p4 y10 c4),(9,vI i),(102,vF)]<|zW (ct hM013 H)
   rintro I010 hs2 m2 ⟨t102,heq2,le10,rfl,rfl⟩;subst o02;have h11:=h11.mono le10;have h12:=h12.mono le10;have H:=H.trans le10;refine zL<|yL hMc2 ?_ ?_
   · intro hc10 N;exact yF [(2,vF)]<|xP<|yA<|zN<|zN<|hr _ _ _ _ (zC N).symm H ⟨_,_,(.tmp rfl ResV.nil),zT,⟨_,rfl,rfl,rfl⟩⟩
   intro hc10 N;exact zV<|zR<|zL<|zP<|yB [] [(9,vI (W (i + 1)))]<|yT<|wN [(4,vI y2),(5,vI y3),(7,vS p3 y9 c3),(8,vS p4 y10 c4),(9,vI (W (i + 1)))]<|ih (W (i + 1)) _ N H h11 h12 hg ho hx hr
 intro hc5 N;exact vD<|yS [(4,vI y2),(5,vI y3)]<|hx _  (zC N).symm H
def zLV (code:(List UInt8)):Option (Bool):=do
 if (decide ((code.length:Int) > 1048576)) then
  pure true
 else
  let (y1,y2,y3)←zLT code
  let y4←zLP y1 y2 y3
  let t42←(do
    let y5←zLU y1 y2 y3
    if (!(y4 == y5)) then
     pure true
    else
     let y6←zLP y1 y3 y2
     if (!(y4 == y6)) then
      pure true
     else
      pure (!y4)
      : Option Bool)
  if t42 then
   let t2←(do
     let y7←zLU y1 y2 y3
     if (y4 == y7) then
      let y8←zLP y1 y3 y2
      pure (y4 == y8)
     else
      pure false
       : Option Bool)
   pure (id t2)
  else
   let y9←pW y1
   let y10←zL1 y1
   match←zLM y2 y3 y9 y10 0 with
   | .ret r0=>pure r0
   | .done _ =>
    pure (y2 != y3)
theorem zLh:∀ code r,zLV code=some r→∀ {I:Imm}{p c},(S4 I p code c)→RT 7 [vS p code c] I [] (zY  r):=by
 intro code r N I p c h;unfold zLV at N;refine zX (fn:=Tryz.f7) (c:=(bodyOf Tryz.f7)) Tryz.func7 rfl rfl ?_;rintro B - -;have H:=iS I;refine yF []<|yG<|yF [(14,.bool (decide ((code.length:Int) > 1048576)))]<|zL<|yL N ?_ ?_
 · intro hc N;refine yF [(2,vY)]<|xP<|zN ?_;obtain rfl:=zC N;exact uM
 intro hc N;refine zV<|xD<|yC 1 [] [(16,vS p code c)] ?_;obtain ⟨⟨y1,y2,y3⟩,hy,N⟩:=zB N;refine xS (zLd code _ hy h) ?_;rintro I0 hs2 v2 k2 le - ⟨v0,v01,v02,rfl,rfl,⟨cs,rfl,h1⟩,rfl,rfl⟩ -;have H:=H.trans le;obtain ⟨p1,c1,p2,c2,rfl,h4,h5⟩:=oZ h1;refine yC 6 [] [(18,vA (cProg y1 p1 c1 p2 c2)),(19,vI y2),(20,vI y3)]<|wU zTwo ?_;intro b hb;refine xB 0 (cProg y1 p1 c1 p2 c2) [hB b (cProg y1 p1 c1 p2 c2)] rfl rfl rfl rfl<|yB [] [(4,vI y2),(5,vI y3)]<|xD<|yC 3 [0] [(21,vA (cProg y1 p1 c1 p2 c2)),(22,vI y2),(23,vI y3)]<|bE N fun y4 hy1 N=>tQ (zL2 y1 y2 y3 _ hy1 h4 h5) ?_;intro I01 le1;have h4:=h4.mono le1;have h5:=h5.mono le1;have H:=H.trans le1;refine yB [] [(6,.bool y4)]<|yG<|yI ?_;obtain ⟨o0,ho0,hMc⟩:=zB N;refine yU (fun I' hs' m'=>∃ (t42:Bool),o0=t42∧I01.le I'∧hs'=[hB b (cProg y1 p1 c1 p2 c2)]∧m'=[(3,vP b 0),(4,vI y2),(5,vI y3),(6,.bool y4),(42,.bool t42)]) ?_ ?_
 · have H:=iS I01;refine zP<|yC 4 [0] [(25,.bool y4),(26,vA (cProg y1 p1 c1 p2 c2)),(27,vI y2),(28,vI y3)] ?_;obtain ⟨y5,hy2,N⟩:=zB ho0;refine tQ (zL7 y1 y2 y3 _ hy2 h4 h5) ?_;intro I03 le2;have h4:=h4.mono le2;have h5:=h5.mono le2;have H:=H.trans le2;refine yC 7 [] [(31,.bool (!(y4 == y5)))] ?_;cases hc1:(!(y4 == y5)) with
   | true =>
    have hM0:=zS hc1 N
    try rw [hc1]
    exact yB [] [(42,vY)]<|yS [(3,vP b 0),(4,vI y2),(5,vI y3),(6,.bool y4),(42,vY)]<|zW (ct hM0 H)
   | false =>
    have hM01:=zQ hc1 N
    try rw [hc1]
    refine yC 11 [0] [(32,.bool y4),(33,vA (cProg y1 p1 c1 p2 c2)),(34,vI y3),(35,vI y2)] ?_;obtain ⟨y6,hy3,N⟩:=zB hM01;refine tQ (zL2 y1 y3 y2 _ hy3 h4 h5) ?_;intro I04 le3;have H:=H.trans le3;refine yC 15 [] [(39,.bool (!(y4 == y6)))] ?_;cases hc2:(!(y4 == y6)) with
    | true =>
     have hM02:=zS hc2 N
     try rw [hc2]
     exact yB [] [(42,vY)]<|yS [(3,vP b 0),(4,vI y2),(5,vI y3),(6,.bool y4),(42,vY)]<|zW (ct hM02 H)
    | false =>
     have hM03:=zQ hc2 N
     try rw [hc2]
     exact yB [] [(42,.bool (!y4))]<|yS [(3,vP b 0),(4,vI y2),(5,vI y3),(6,.bool y4),(42,.bool (!y4))]<|zW (ct hM03 H)
 rintro I02 hs2 m2 ⟨t42,heq,le4,rfl,rfl⟩;subst o0;have h4:=h4.mono le4;have h5:=h5.mono le4;have H:=H.trans le4;refine zL<|yL hMc ?_ ?_
 · intro hc3 N;refine yI ?_;obtain ⟨o01,ho01,hMc1⟩:=zB N;refine yU (fun I' hs' m'=>∃ (t2:Bool),o01=t2∧I02.le I'∧hs'=[]∧m'=[(2,.bool t2)]) ?_ ?_
   · have H:=iS I02;refine zP<|yC 4 [0] [(43,.bool y4),(44,vA (cProg y1 p1 c1 p2 c2)),(45,vI y2),(46,vI y3)] ?_;obtain ⟨y7,hy4,N⟩:=zB ho01;refine tQ (zL7 y1 y2 y3 _ hy4 h4 h5) ?_;intro I06 le5;have h4:=h4.mono le5;have h5:=h5.mono le5;have H:=H.trans le5;refine yC 7 [] [(49,.bool (y4 == y7))] ?_;cases hc4:(y4 == y7) with
     | true =>
      have hM04:=zS hc4 N
      try rw [hc4]
      refine yC 11 [0] [(50,.bool y4),(51,vA (cProg y1 p1 c1 p2 c2)),(52,vI y3),(53,vI y2)] ?_;obtain ⟨y8,hy5,N⟩:=zB hM04;refine tQ (zL2 y1 y3 y2 _ hy5 h4 h5) ?_;intro I07 le6;have H:=H.trans le6;exact yB [] [(2,.bool (y4 == y8))]<|wC zT<|yS [(2,.bool (y4 == y8))]<|zW (ct N H)
     | false =>
      have hM05:=zQ hc4 N
      try rw [hc4]
      exact yB [] [(2,vF)]<|wC zT<|yS [(2,vF)]<|zW (ct hM05 H)
   rintro I05 hs2 m2 ⟨t2,heq1,le7,rfl,rfl⟩;subst o01;refine xP<|zN ?_;obtain rfl:=zC hMc1;exact uM
 intro hc3 N;refine zV<|xD<|yC 1 [0] [(57,vA (cProg y1 p1 c1 p2 c2))]<|bE N fun y9 hy6 N=>xS (zFb y1 _ hy6 h4 h5) ?_;rintro I08 hs2 v2 k2 le8 - ⟨v010,rfl,rfl,h11⟩ -;have h4:=h4.mono le8;have h5:=h5.mono le8;obtain ⟨p3,c3,rfl⟩:=h11.form;refine yB [] [(7,vS p3 y9 c3)]<|xD<|yC 1 [0] [(59,vA (cProg y1 p1 c1 p2 c2))]<|bE N fun y10 hy7 N=>xS (zLp y1 _ hy7 h4 h5) ?_;rintro I09 hs2 v2 k2 le9 - ⟨v011,rfl,rfl,h12⟩ -;have h11:=h11.mono le9;obtain ⟨p4,c4,rfl⟩:=h12.form;refine yB [] [(8,vS p4 y10 c4)]<|yG<|yF [(9,vI 0)]<|wD<|rM (yD [] (hs':=[]))<|wN [(4,vI y2),(5,vI y3),(7,vS p3 y9 c3),(8,vS p4 y10 c4),(9,vI 0)] ?_;obtain ⟨o03,ho03,hMl⟩:=zB N;refine zLc y2 y3 y9 y10 0 o03 ho03 iR h11 h12 (fun _ _ _ h=>h) (fun _ _ h=>h) ?_ ?_
 · intro I011  heq3 le11;subst o03;refine zU<|wW [(2,.bool (y2 != y3))]<|zL<|xG ?_;obtain rfl:=zC hMl;exact uM
 intro r0 I9 hs9 m9 heq9 le9 hrs9;subst heq9;refine yA<|zN ?_;obtain rfl:=zC hMl;exact xF hrs9
end Go.LN
namespace Go.LN
theorem zMV (x:Int) (l:List Int) (n:Int):hasB (x::l) n=(x == n || hasB l n):=by unfold hasB; rw [List.any_cons]
def kindF (r1:List Int) (w1:Int) (r2:List Int) (w2:Int):Int:=(if hasB r2 w1 then 1 else 0) + (if hasB r1 w2 then 2 else 0) + (if w1 == w2 then 4 else 0)
theorem zMW (r1:List Int) (w1:Int) (r2:List Int) (w2:Int):0 ≤ kindF r1 w1 r2 w2∧kindF r1 w1 r2 w2 ≤ 7:=by
  unfold kindF;cases hasB r2 w1 <;> cases hasB r1 w2 <;> cases (w1 == w2) <;> simp
end Go.LN
namespace Go.LN
theorem specHas (l:List Int) (n:Int) (hl:l.length ≤ 1048576):zL8 l n=some (hasB l n):=by
  unfold zL8;have h:=zLG (R:=Bool) (r0:=true) (n:=l.length) (f:=zLY l n) (P:=fun i=>l.getD i 0 == n) (fun i hi=>by
      rw [zLY];have h1:((i:Int) < (l.length:Int)):=by omega
      have hg:l.getD i 0=l[i]:=by simp [hi]
      simp only [h1,dT,if_true,xC hi,oB,oS,oP,hg];rw [tP (by omega)]) (by rw [zLY]; simp)
  rw [zKq l (fun x=>x == n) 0] at h;rw [h];unfold hasB;cases l.any fun x=>x == n <;> rfl
theorem zM6 (l:List Int) (v:Int) (hl:l.length ≤ 1048576):∀ (j i:Nat),i + j=l.length→∃ x,zLO l v (i:Int)=some x∧((hasB (l.drop i) v=true∧∃ k:Nat,x=.ret (k:Int))∨(hasB (l.drop i) v=false∧x=.done ())):=by
  intro j
  induction j with
  | zero =>
    intro i hi;rw [zLO];have:¬((i:Int) < (l.length:Int)):=by omega
    refine ⟨_,by simp only [this,dF,bF,if_false,oP],.inr ⟨?_,rfl⟩⟩;rw [dN.2 (by omega)]; rfl
  | succ j ih =>
    intro i hi;rw [zLO];have hlt:i < l.length:=by omega
    have hc:((i:Int) < (l.length:Int)):=by omega
    rw [gC hlt,zMV];by_cases e:v=l[i]
    · refine ⟨_,by simp only [hc,dT,if_true,xC hlt,oB,oS,oP,e,bQ],.inl ⟨?_,i,rfl⟩⟩;rw [e,bQ,Bool.true_or]
    · have e1:(v == l[i])=false:=by simpa using e
      have e2:(l[i] == v)=false:=by simpa using fun h=>e h.symm
      obtain ⟨x,hx,hr⟩:=ih (i + 1) (by omega);refine ⟨x,?_,by rw [e2,Bool.false_or]; exact hr⟩;simp only [hc,dT,if_true,xC hlt,oB,oS,oP,e1,bF,if_false];rw [tP (by omega),hx]
theorem containsV (l:List Int) (v:Int) (hl:l.length ≤ 1048576):zLQ l v=some (hasB l v):=by
  unfold zLQ zLZ;obtain ⟨x,hx,hr⟩:=zM6 l v hl l.length 0 (Nat.zero_add _);rw [nZ] at hx;rw [List.drop_zero] at hr;rw [hx];rcases hr with ⟨h,k,rfl⟩ | ⟨h,rfl⟩
  · have:((k:Int) ≥ 0):=by omega
    simp [h,this]
  · rw [h]; rfl
def zIns (P:zH) (a:Nat):zO:=(progI P).getD a ⟨0,0,[]⟩
theorem zMJ {P:zH}{a:Nat} (h:a < (progI P).length):zIns P a=(progI P)[a]:=by simp [zIns,h]
theorem zMD {P:zH}{a:Nat} (h:a < (progI P).length):zIns P a ∈ progI P:=by rw [zMJ h]; exact gM h
theorem zML {P:zH}{a:Nat} (h:a < (progI P).length):idx ((progI P).map (rdI P)) (a:Int)=some (rdI P (zIns P a)):=by rw [xC (by rw [lM]; exact h),zMJ h]; simp
theorem zME {P:zH}{a:Nat} (h:a < (progI P).length):idx ((progI P).map (wrI P)) (a:Int)=some (wrI P (zIns P a)):=by rw [xC (by rw [lM]; exact h),zMJ h]; simp
def kindI (P:zH) (a b:Nat):Int:=kindF (rdI P (zIns P a)) (wrI P (zIns P a)) (rdI P (zIns P b)) (wrI P (zIns P b))
theorem betweenV {P:zH} (hi:∀ z ∈ progI P,InP P z) {a b:Nat} (ha:a < (progI P).length) (hb:b < (progI P).length):zLX (trcP P) (a:Int) (b:Int)=some (kindI P a b):=by
  have l1:=zLI (hi _ (zMD ha));have l2:=zLI (hi _ (zMD hb));unfold zLX kindI kindF;simp only [trcP,zML ha,zML hb,zME ha,zME hb,containsV _ _ (show (rdI P (zIns P a)).length ≤ 1048576 by omega),containsV _ _ (show (rdI P (zIns P b)).length ≤ 1048576 by omega),oB,oS,oP,id];by_cases e:wrI P (zIns P a)=wrI P (zIns P b)
  · have e1:(wrI P (zIns P a) == wrI P (zIns P b))=true:=by simpa using e
    simp only [e1,if_true];cases hasB (rdI P (zIns P b)) (wrI P (zIns P a)) <;> cases hasB (rdI P (zIns P a)) (wrI P (zIns P b)) <;> rfl
  · have e1:(wrI P (zIns P a) == wrI P (zIns P b))=false:=by simpa using e
    simp only [e1,bF,if_false];cases hasB (rdI P (zIns P b)) (wrI P (zIns P a)) <;> cases hasB (rdI P (zIns P a)) (wrI P (zIns P b)) <;> rfl
end Go.LN
namespace Go.LN
def dep1 (P:zH) (i q:Nat):List zLL:=if kindI P i q == 0 then [] else [⟨(i:Int),(q:Int),kindI P i q⟩]
def depR (P:zH) (i k j:Nat):List zLL:=(List.range' k j).flatMap fun q=>dep1 P i q
def depA (P:zH) (i j:Nat):List zLL:=(List.range' i j).flatMap fun q=>depR P q (q + 1) ((progI P).length - (q + 1))
theorem zMF (P:zH) (i k j:Nat):depR P i k (j + 1)=dep1 P i k ++ depR P i (k + 1) j:=by unfold depR; rw [List.range'_succ,List.flatMap_cons]
theorem zMG (P:zH) (i j:Nat):depA P i (j + 1)=depR P i (i + 1) ((progI P).length - (i + 1)) ++ depA P (i + 1) j:=by unfold depA; rw [List.range'_succ,List.flatMap_cons]
theorem zMZ (P:zH) (i q:Nat):(dep1 P i q).length ≤ 1:=by unfold dep1; split <;> simp
theorem zLw (P:zH) (i:Nat):∀ (j k:Nat),(depR P i k j).length ≤ j
  | 0,k=>by simp [depR]
  | j + 1,k=>by
    have h1:=zMZ P i k
    have h2:=zLw P i j (k + 1)
    rw [zMF,lA]; omega
theorem zMM (P:zH):∀ (j i:Nat),(depA P i j).length ≤ j * (progI P).length
  | 0,i=>by simp [depA]
  | j + 1,i=>by
    have h1:=zLw P i ((progI P).length - (i + 1)) (i + 1)
    have h2:=zMM P j (i + 1)
    rw [zMG,lA,Nat.add_mul,Nat.one_mul]; omega
theorem zMX (P:zH) (a b:Nat):0 ≤ kindI P a b∧kindI P a b ≤ 7:=zMW _ _ _ _
theorem zM7 {P:zH} (hi:∀ z ∈ progI P,InP P z) (hlen:(progI P).length ≤ 120) (i:Nat) (hin:i < (progI P).length):∀ (j k:Nat) (o:List zLL),k + j=(progI P).length→o.length + j ≤ 1000000→zLR (trcP P) (i:Int) o (k:Int)=some (o ++ depR P i k j):=by
  intro j
  induction j with
  | zero =>
    intro k o hk ho;rw [zLR];have:¬((k:Int) < ((trcP P).list.length:Int)):=by show ¬((k:Int) < ((progI P).length:Int)); omega
    simp only [this,dF,bF,if_false,oP,id];simp [depR]
  | succ j ih =>
    intro k o hk ho;rw [zLR,zMF];have hlt:k < (progI P).length:=by omega
    have hc:((k:Int) < ((trcP P).list.length:Int)):=by show ((k:Int) < ((progI P).length:Int)); omega
    have hr:=zMX P i k;simp only [hc,dT,if_true,betweenV hi hin hlt,oB,oS,oP,id,oI (show (o.length + [zLL.mk (i:Int) (k:Int) (kindI P i k)].length) * 24 ≤ 140737488355328 by simp; omega)];rw [tP (by omega)];unfold dep1;by_cases h0:kindI P i k=0
    · have e1:¬(kindI P i k > 0):=by omega
      have e2:(kindI P i k == 0)=true:=by simpa using h0
      simp only [e1,e2,dF,bF,if_false,if_true,oS,List.nil_append];exact ih (k + 1) o (by omega) (by omega)
    · have e1:kindI P i k > 0:=by omega
      have e2:¬((kindI P i k == 0)=true):=by simpa using h0
      simp only [e1,dT,if_true,oS];rw [if_neg e2,ih (k + 1) _ (by omega) (by rw [lA]; simp; omega),List.append_assoc]
theorem zM8 {P:zH} (hi:∀ z ∈ progI P,InP P z) (hlen:(progI P).length ≤ 120):∀ (j i:Nat) (o:List zLL),i + j=(progI P).length→o.length ≤ 120 * i→zLS (trcP P) o (i:Int)=some (o ++ depA P i j):=by
  intro j
  induction j with
  | zero =>
    intro i o hij ho;rw [zLS];have:¬((i:Int) < ((trcP P).list.length:Int)):=by show ¬((i:Int) < ((progI P).length:Int)); omega
    simp only [this,dF,bF,if_false,oP,id];simp [depA]
  | succ j ih =>
    intro i o hij ho;rw [zLS,zMG];have hlt:i < (progI P).length:=by omega
    have hc:((i:Int) < ((trcP P).list.length:Int)):=by show ((i:Int) < ((progI P).length:Int)); omega
    have hl:=zLw P i ((progI P).length - (i + 1)) (i + 1);have h2:=zM7 hi hlen i hlt ((progI P).length - (i + 1)) (i + 1) o (by omega) (by omega);simp only [hc,dT,if_true,tP (show i < 9223372036854775807 by omega),h2,oB,oS];rw [ih (i + 1) _ (by omega) (by rw [lA]; omega),List.append_assoc]
def dpF (P:zH):List zLL:=if validP P then depA P 0 (progI P).length else []
theorem implDeps (P:zH) (hb:BG P):zL1 P=some (dpF P):=by
  unfold zL1 dpF;rw [implTrace P hb];cases hv:validP P with
  | false=>rfl
  | true =>
    have hlen:=(zBX hv).2.2.2;have hi:∀ z ∈ progI P,InP P z:=fun z hz=>zJ0 hb hv hz;have hl:=zM8 hi hlen _ 0 [] (Nat.zero_add _) (by simp);rw [nZ,List.nil_append] at hl;simp only [if_true,oB,oS,bT,bF,if_false,zL4,hl,oP,id]
theorem zM9 {P:zH}:(dpF P).length ≤ 14400:=by
  unfold dpF;split
  · rename_i hv;have hlen:=(zBX hv).2.2.2;have:=zMM P (progI P).length 0;have h2:(progI P).length * (progI P).length ≤ 120 * 120:=Nat.mul_le_mul hlen hlen;omega
  · simp
end Go.LN
namespace Go.LN
def setA:List Bool→List Int→List Bool
  | f,[]=>f
  | f,c::cs=>setA (f.set c.toNat true) cs
theorem zL5:∀ (cs:List Int) (f:List Bool),(setA f cs).length=f.length
  | [],f=>rfl
  | c::cs,f=>by rw [setA,zL5 cs,List.length_set]
theorem zLx:∀ (cs ds:List Int) (f:List Bool),setA f (cs ++ ds)=setA (setA f cs) ds
  | [],ds,f=>rfl
  | c::cs,ds,f=>by rw [List.cons_append,setA,zLx cs ds,setA]
theorem zM0 {f:List Bool}{i k:Nat}{b:Bool} (hi:i < f.length):(f.set i b).getD k false=if i=k then b else f.getD k false:=by
  rw [List.getD_eq_getElem?_getD,List.getElem?_set];by_cases h:i=k
  · subst h; simp [hi]
  · simp [h]
theorem zLy {k:Nat}:∀ (cs:List Int) (f:List Bool),(∀ c ∈ cs,0 ≤ c∧c < (f.length:Int))→((setA f cs).getD k false=true ↔ f.getD k false=true∨(k:Int) ∈ cs)
  | [],f,_=>by simp [setA]
  | c::cs,f,h=>by
    have hc:=h c (List.mem_cons_self ..)
    rw [setA,zLy cs _ (fun d hd=>by rw [List.length_set]; exact h d (List.mem_cons_of_mem _ hd)),zM0 (by omega),List.mem_cons]
    by_cases e:c.toNat=k
    · have:(k:Int)=c:=by omega
      simp [e,this]
    · have:¬((k:Int)=c):=by omega
      simp [e,this]
def repF (n:Nat):List Bool:=List.replicate n false
theorem zM1 (n k:Nat):(repF n).getD k false=false:=by
  unfold repF;rw [List.getD_eq_getElem?_getD,List.getElem?_replicate];split <;> rfl
def choF:List Bool→Nat→List Int
  | [],_=>[]
  | b::l,i=>(if b then [(i:Int)] else []) ++ choF l (i + 1)
theorem zLu {c:Int}:∀ {l:List Bool}{i:Nat},c ∈ choF l i ↔ ∃ k:Nat,c=((i + k:Nat):Int)∧l.getD k false=true
  | [],i=>by simp [choF]
  | b::l,i=>by
    rw [choF,List.mem_append,zLu (l:=l)]
    constructor
    · rintro (h | ⟨k,h1,h2⟩)
      · cases b with
        | false=>simp at h
        | true=>exact ⟨0,by simpa using h,rfl⟩
      · exact ⟨k + 1,by rw [h1]; omega,by simpa using h2⟩
    · rintro ⟨k,h1,h2⟩
      cases k with
      | zero =>
        have hb:b=true:=by simpa using h2
        left; rw [hb]; simpa using h1
      | succ k=>exact .inr ⟨k,by rw [h1]; omega,by simpa using h2⟩
theorem zLz:∀ (l:List Bool) (i:Nat),(choF l i).length ≤ l.length
  | [],_=>Nat.le_refl _
  | b::l,i=>by
    have:=zLz l (i + 1)
    rw [choF,lA,List.length_cons]
    cases b <;> simp <;> omega
theorem specCho (l:List Bool) (hl:l.length ≤ 1000000):gK l=some (choF l 0):=by
  have key:∀ (j i:Nat) (o:List Int),i + j=l.length→o.length ≤ i→nY l o (i:Int)=some (o ++ choF (l.drop i) i):=by
    intro j
    induction j with
    | zero =>
      intro i o hi ho;rw [nY];have:¬((i:Int) < (l.length:Int)):=by omega
      simp only [this,dF,bF,if_false,oP,id];rw [dN.2 (by omega),choF,List.append_nil]
    | succ j ih =>
      intro i o hi ho;rw [nY];have hlt:i < l.length:=by omega
      have hc:((i:Int) < (l.length:Int)):=by omega
      rw [gC hlt,choF];simp only [hc,dT,if_true,xC hlt,oB,oS,oP,id,oI (show (o.length + [(i:Int)].length) * 8 ≤ 140737488355328 by simp; omega)];rw [tP (by omega)];cases l[i] with
      | false =>
        simp only [bF,if_false,oS];rw [ih (i + 1) o (by omega) (by omega),List.nil_append]
      | true =>
        simp only [if_true,oS];rw [ih (i + 1) _ (by omega) (by rw [lA]; simp; omega),List.append_assoc]
  have:=key _ 0 [] (Nat.zero_add _) (Nat.le_refl _);rw [nZ,List.drop_zero,List.nil_append] at this;unfold gK;rw [this]; rfl
def nCel (P:zH):Nat:=(totL P.Arrays 0).toNat
theorem zLm {P:zH} (hv:validP P=true):totL P.Arrays 0=(nCel P:Int)∧nCel P ≤ 144:=by
  obtain ⟨t1,t2,t3⟩:=zI5 hv;unfold nCel;omega
theorem zMe (n:Nat) (h:n ≤ 1000000):mkrow 1 (n:Int) (false:Bool)=some (repF n):=zLK n h
theorem zLv {f:List Bool}{c:Int} (h0:0 ≤ c) (h1:c < (f.length:Int)):∃ b,idx f c=some b:=by
  obtain ⟨k,rfl⟩:∃ k:Nat,c=(k:Int):=⟨c.toNat,by omega⟩;exact ⟨_,xC (by omega)⟩
theorem zL3 (n:Nat):(repF n).length=n:=List.length_replicate ..
theorem zMf (x:List Int) (hx:x.length ≤ 1048576):∀ (j i:Nat) (f:List Bool),i + j=x.length→(∀ c ∈ x,0 ≤ c∧c < (f.length:Int))→pL x f (i:Int)=some (setA f (x.drop i)):=by
  intro j
  induction j with
  | zero =>
    intro i f hi hf;rw [pL];have:¬((i:Int) < (x.length:Int)):=by omega
    simp only [this,dF,bF,if_false,oP,id];rw [dN.2 (by omega),setA]
  | succ j ih =>
    intro i f hi hf;rw [pL];have hlt:i < x.length:=by omega
    have hc:((i:Int) < (x.length:Int)):=by omega
    obtain ⟨w1,w2⟩:=hf _ (gM hlt);obtain ⟨b,hbx⟩:=zLv (f:=f) w1 w2;simp only [hc,dT,if_true,xC hlt,hbx,oB,oS,oP];rw [tP (by omega),ih (i + 1) _ (by omega) (by rw [List.length_set]; exact hf),gC hlt,setA]
def ofPart (P:zH) (part:Int) (l:List zO):List zO:=l.filter fun z=>z.Part == part
theorem zMR {P:zH} (hb:BG P) (hv:validP P=true) (part:Int):∀ (j i:Nat) (f g:List Bool),i + j=(progI P).length→f.length=nCel P→g.length=nCel P→rB (trcP P) part f g (i:Int)=some (setA f ((ofPart P part ((progI P).drop i)).flatMap (rdI P)),setA g ((ofPart P part ((progI P).drop i)).map (wrI P))):=by
  have hlen:=(zBX hv).2.2.2;have hn:=zLm hv;intro j
  induction j with
  | zero =>
    intro i f g hi hf hg;rw [rB];have:¬((i:Int) < ((trcP P).list.length:Int)):=by show ¬((i:Int) < ((progI P).length:Int)); omega
    simp only [this,dF,bF,if_false,oP,id];rw [dN.2 (by omega)];rfl
  | succ j ih =>
    intro i f g hi hf hg;rw [rB];have hlt:i < (progI P).length:=by omega
    have hc:((i:Int) < ((progI P).length:Int)):=by omega
    have hz:=zJ0 hb hv (gM hlt);have hrl:=zLI hz;obtain ⟨r1,w1,w2⟩:=zLJ hv hz;obtain ⟨b,hbx⟩:=zLv (f:=g) w1 (by omega);have hr:idx ((progI P).map (rdI P)) (i:Int)=some (rdI P (progI P)[i]):=by rw [xC (by rw [lM]; exact hlt)]; simp
    have hw:idx ((progI P).map (wrI P)) (i:Int)=some (wrI P (progI P)[i]):=by rw [xC (by rw [lM]; exact hlt)]; simp
    have h2:=zMf (rdI P (progI P)[i]) (by omega) _ 0 f (Nat.zero_add _) (fun c hc=>by have:=r1 c hc; omega);rw [nZ,List.drop_zero] at h2;have hn1:=ih (i + 1) f g (by omega) hf hg;have hn2:=ih (i + 1) (setA f (rdI P (progI P)[i])) (g.set (wrI P (progI P)[i]).toNat true) (by omega) (by rw [zL5]; exact hf) (by rw [List.length_set]; exact hg);rw [show trcP P=⟨P,progI P,(progI P).map (rdI P),(progI P).map (wrI P)⟩ from rfl] at hn1 hn2 ⊢;rw [gC hlt];simp only [hc,dT,if_true,xC hlt,hr,hw,hbx,h2,oB,oS,oP];rw [tP (by omega)];by_cases e:(progI P)[i].Part=part
    · have e1:((progI P)[i].Part != part)=false:=by simpa using e
      have e2:((progI P)[i].Part == part)=true:=by simpa using e
      simp only [e1,bF,if_false];rw [hn2];unfold ofPart;rw [List.filter_cons_of_pos (p:=fun z:zO=>z.Part == part) e2,List.flatMap_cons,List.map_cons,zLx,setA]
    · have e1:((progI P)[i].Part != part)=true:=by simpa using e
      have e2:¬(((progI P)[i].Part == part)=true):=by simpa using e
      simp only [e1,if_true];rw [hn1];unfold ofPart;rw [List.filter_cons_of_neg (p:=fun z:zO=>z.Part == part) e2]
def inR (P:zH) (part:Int):Prop:=validP P=true∧0 ≤ part∧part < (P.Parts.length:Int)
instance (P:zH) (part:Int):Decidable (inR P part):=inferInstanceAs (Decidable (_∧_))
def pwF (P:zH) (part:Int):List Int:=if inR P part then choF (setA (repF (nCel P)) ((ofPart P part (progI P)).map (wrI P))) 0 else []
def prF (P:zH) (part:Int):List Int:=if inR P part then choF (setA (repF (nCel P)) ((ofPart P part (progI P)).flatMap (rdI P))) 0 else []
theorem cellsOfV {P:zH} (hb:BG P) (hv:validP P=true) (part:Int):gF (trcP P) part=some (setA (repF (nCel P)) ((ofPart P part (progI P)).flatMap (rdI P)),setA (repF (nCel P)) ((ofPart P part (progI P)).map (wrI P))):=by
  have hn:=zLm hv;have hl:=zMR hb hv part _ 0 (repF (nCel P)) (repF (nCel P)) (Nat.zero_add _) (zL3 _) (zL3 _);rw [nZ,List.drop_zero] at hl;unfold gF;simp only [show (trcP P).Program=P from rfl,implCells P hb.1,hn.1,zMe _ (show nCel P ≤ 1000000 by omega),hl,oB,oS,oP]
theorem isPartV {P:zH} (hb:BG P) (part:Int):gE P part=some (decide (0 ≤ part) && decide (part ≤ (P.Parts.length:Int) - 1)):=by
  have:=hb.2.1;unfold gE;simp only [nF,tR (x:=(P.Parts.length:Int) - 1) (by omega) (by omega),oB,oS,oP,id]
theorem zMH {n:Nat}{cs:List Int}{c:Int} (h:∀ c ∈ cs,0 ≤ c∧c < (n:Int)):c ∈ choF (setA (repF n) cs) 0 ↔ c ∈ cs:=by
  rw [zLu];have h':∀ c ∈ cs,0 ≤ c∧c < ((repF n).length:Int):=by rw [zL3]; exact h
  constructor
  · rintro ⟨k,h1,h2⟩;rw [Nat.zero_add] at h1;rw [zLy cs _ h',zM1] at h2;rw [h1];rcases h2 with h2 | h2
    · cases h2
    · exact h2
  · intro hc;have:=h c hc;refine ⟨c.toNat,by omega,?_⟩;rw [zLy cs _ h'];exact .inr (by rw [show ((c.toNat:Nat):Int)=c by omega]; exact hc)
theorem zLb {P:zH}{part:Int}{z:zO}:z ∈ ofPart P part (progI P) ↔ z ∈ progI P∧z.Part=part:=by
  unfold ofPart;rw [List.mem_filter];simp
theorem zM2 {P:zH} (hb:BG P) {part:Int} (h:inR P part) {c:Int}:c ∈ pwF P part ↔ ∃ z ∈ progI P,z.Part=part∧wrI P z=c:=by
  have hn:=zLm h.1;unfold pwF;rw [if_pos h,zMH,List.mem_map]
  · constructor
    · rintro ⟨z,hz,e⟩;obtain ⟨h1,h2⟩:=zLb.1 hz;exact ⟨z,h1,h2,e⟩
    · rintro ⟨z,h1,h2,e⟩;exact ⟨z,zLb.2 ⟨h1,h2⟩,e⟩
  · intro c hc;obtain ⟨z,hz,rfl⟩:=List.mem_map.1 hc;have:=(zLJ h.1 (zJ0 hb h.1 (zLb.1 hz).1)).2;omega
theorem zM3 {P:zH} (hb:BG P) {part:Int} (h:inR P part) {c:Int}:c ∈ prF P part ↔ ∃ z ∈ progI P,z.Part=part∧c ∈ rdI P z:=by
  have hn:=zLm h.1;unfold prF;rw [if_pos h,zMH,List.mem_flatMap]
  · constructor
    · rintro ⟨z,hz,e⟩;obtain ⟨h1,h2⟩:=zLb.1 hz;exact ⟨z,h1,h2,e⟩
    · rintro ⟨z,h1,h2,e⟩;exact ⟨z,zLb.2 ⟨h1,h2⟩,e⟩
  · intro c hc;obtain ⟨z,hz,hc⟩:=List.mem_flatMap.1 hc;have:=(zLJ h.1 (zJ0 hb h.1 (zLb.1 hz).1)).1 c hc;omega
theorem zMa (P:zH) (part:Int):(pwF P part).length ≤ 1000:=by
  unfold pwF;split
  · rename_i h;have hn:=zLm h.1;have:=zLz (setA (repF (nCel P)) ((ofPart P part (progI P)).map (wrI P))) 0;rw [zL5,zL3] at this;omega
  · simp
theorem zMb (P:zH) (part:Int):(prF P part).length ≤ 1000:=by
  unfold prF;split
  · rename_i h;have hn:=zLm h.1;have:=zLz (setA (repF (nCel P)) ((ofPart P part (progI P)).flatMap (rdI P))) 0;rw [zL5,zL3] at this;omega
  · simp
end Go.LN
namespace Go.LN
end Go.LN
namespace Go.LN
theorem zMS {P:zH}{i:Nat} (h:i < (progI P).length):idx ((progI P).map (useI P)) (i:Int)=some ⟨rdI P (progI P)[i],wrI P (progI P)[i]⟩:=by
  rw [xC (by rw [lM]; exact h)];simp [useI]
theorem zMg {P:zH}{i:Nat} (hi:i < (progI P).length) (hl:(rdI P (progI P)[i]).length ≤ 1000):∀ (j k:Nat) (f:List Bool),k + j=(rdI P (progI P)[i]).length→(∀ c ∈ rdI P (progI P)[i],0 ≤ c∧c < (f.length:Int))→mX ((progI P).map (useI P)) (i:Int) f (k:Int)=some (setA f ((rdI P (progI P)[i]).drop k)):=by
  intro j
  induction j with
  | zero =>
    intro k f hk hf;rw [mX];have:¬((k:Int) < ((rdI P (progI P)[i]).length:Int)):=by omega
    simp only [zMS hi,this,dF,bF,if_false,oB,oS,oP,id];rw [dN.2 (by omega)]; rfl
  | succ j ih =>
    intro k f hk hf;rw [mX];have hlt:k < (rdI P (progI P)[i]).length:=by omega
    have hc:((k:Int) < ((rdI P (progI P)[i]).length:Int)):=by omega
    have hr:=hf _ (gM hlt);obtain ⟨b,hbx⟩:=zLv (f:=f) hr.1 hr.2;simp only [zMS hi,hc,dT,if_true,xC hlt,hbx,oB,oS,oP];rw [tP (by omega),ih (k + 1) _ (by omega) (fun c hc=>by rw [List.length_set]; exact hf c hc),gC hlt,setA]
theorem zMh {P:zH} (hb:BG P) (hv:validP P=true) (part:Int) (w:Bool):∀ (j i:Nat) (f:List Bool),i + j=(progI P).length→f.length=nCel P→pG part w (progI P) ((progI P).map (useI P)) f (i:Int)=some (setA f (if w then (ofPart P part ((progI P).drop i)).map (wrI P) else (ofPart P part ((progI P).drop i)).flatMap (rdI P))):=by
  have hlen:=(zBX hv).2.2.2;have hn:=zLm hv;intro j
  induction j with
  | zero =>
    intro i f hi hf;rw [pG];have:¬((i:Int) < ((progI P).length:Int)):=by omega
    simp only [this,dF,bF,if_false,oP,id];rw [dN.2 (by omega)];cases w <;> rfl
  | succ j ih =>
    intro i f hi hf;rw [pG];have hlt:i < (progI P).length:=by omega
    have hc:((i:Int) < ((progI P).length:Int)):=by omega
    have hz:=zJ0 hb hv (gM hlt);have hrl:=zLI hz;obtain ⟨r1,w1,w2⟩:=zLJ hv hz;obtain ⟨b,hbx⟩:=zLv (f:=f) w1 (by omega);have h2:=zMg hlt (by omega) _ 0 f (Nat.zero_add _) (fun c hc=>by have:=r1 c hc; omega);rw [nZ,List.drop_zero] at h2;rw [gC hlt];simp only [hc,dT,if_true,xC hlt,oB,oS,oP];rw [tP (by omega)];by_cases e:(progI P)[i].Part=part
    · have e1:((progI P)[i].Part != part)=false:=by simpa using e
      have e2:((progI P)[i].Part == part)=true:=by simpa using e
      have eo:ofPart P part ((progI P)[i]::(progI P).drop (i + 1))=(progI P)[i]::ofPart P part ((progI P).drop (i + 1)):=List.filter_cons_of_pos (p:=fun z:zO=>z.Part == part) e2;rw [eo];simp only [e1,bF,if_false];cases w with
      | true =>
        simp only [if_true,zMS hlt,hbx,oS];have:=ih (i + 1) (f.set (wrI P (progI P)[i]).toNat true) (by omega) (by rw [List.length_set]; exact hf);rw [if_pos rfl] at this;rw [this,List.map_cons,setA]
      | false =>
        simp only [bF,if_false,h2,oS];have:=ih (i + 1) (setA f (rdI P (progI P)[i])) (by omega) (by rw [zL5]; exact hf);rw [if_neg (by decide)] at this;rw [this,List.flatMap_cons,zLx]
    · have e1:((progI P)[i].Part != part)=true:=by simpa using e
      have e2:¬(((progI P)[i].Part == part)=true):=by simpa using e
      have eo:ofPart P part ((progI P)[i]::(progI P).drop (i + 1))=ofPart P part ((progI P).drop (i + 1)):=List.filter_cons_of_neg (p:=fun z:zO=>z.Part == part) e2;rw [eo];simp only [e1,if_true];exact ih (i + 1) f (by omega) hf
theorem zMN:∀ (n i:Nat),choF (repF n) i=[]
  | 0,i=>rfl
  | n + 1,i=>by
    have e:repF (n + 1)=false::repF n:=rfl
    rw [e,choF,zMN n]; rfl
theorem zMO {P:zH} (hb:BG P) {part:Int} (hv:validP P=true) (h:¬inR P part):ofPart P part (progI P)=[]:=by
  unfold ofPart;rw [List.filter_eq_nil_iff];intro z hz e;have hp:=(zJ0 hb hv hz).part;have:z.Part=part:=by simpa using e
  exact h ⟨hv,by omega,by omega⟩
theorem spec11 (P:zH) (hb:BG P) (hv:validP P=true) (part:Int) (w:Bool):zAc P part w=some (if w then pwF P part else prF P part):=by
  have hn:=zLm hv;have h1:=zMh hb hv part w _ 0 (repF (nCel P)) (Nat.zero_add _) (zL3 _);rw [nZ,List.drop_zero] at h1;unfold zAc;simp only [specTotal P hb.1,hn.1,zMe _ (show nCel P ≤ 1000000 by omega),specInsts P hv,specUses P hb hv,h1,oB,oS,oP,id];rw [specCho _ (by rw [zL5,zL3]; omega)];unfold pwF prF;by_cases h:inR P part
  · rw [if_pos h,if_pos h];cases w <;> rfl
  · rw [if_neg h,if_neg h,zMO hb hv h];cases w <;> exact congrArg some (zMN _ _)
instance zMP (r:zM):Tot (eC r) (0 ≤ r.p∧r.p ≤ 30000000) (fun φ=>∀ a s,SG 1000 a→r.p ≤ s.p→s.p ≤ r.p + 4000000→φ (a,s)):=⟨by
  rintro ⟨h0,h1⟩ φ hk
  unfold eC
  refine Ok.call (fM r _) ⟨by decide,h0,by omega⟩ fun y s g1 g2=>?_
  have hy:y.l.length ≤ 1000:=by
    revert g1 y
    decide
  refine Ok.cat (by simp; omega) fun t _ ht=>?_
  simp only [List.length_cons,List.length_nil] at ht
  refine Ok.call (zDp t) (by omega) fun p b hp=>?_
  refine Ok.bind (φ:=fun o=>r.p ≤ o.2.p∧o.2.p ≤ r.p + 2) ?_ ?_
  · exact Ok.ite (fun _=>Ok.call (jL s 2) ⟨by omega,by omega⟩ fun y u k1 k2 k3=>Ok.pure ⟨by dsimp only; omega,by dsimp only; omega⟩) fun _=>Ok.pure ⟨by dsimp only; omega,by dsimp only; omega⟩
  rintro ⟨z,u⟩ ⟨g3,g4⟩
  dsimp only at g3 g4 ⊢
  refine Ok.ite (fun _=>Ok.pure (hk _ _ hp g3 (by omega))) fun _=>Ok.call (zKn u) ⟨by omega,by omega⟩ fun a v g5 g6 g7=>Ok.pure (hk _ v g5 (by omega) (by omega))⟩
theorem args11 (r:zM) (h0:r.p=0):Ok (zBM r) (fun y=>BG y.1∧0 ≤ y.2.2.p∧y.2.2.p ≤ 800000000):=by
  unfold zBM;refine Ok.call (zMP r) ⟨by omega,by omega⟩ fun a s g1 g2 g3=>?_;refine Ok.bind (mut4 s a g1.dp (by omega) (by omega)) fun p hp=>?_;obtain ⟨P,t⟩:=p;have k0:0 ≤ t.p:=hp.2.1;have k1:t.p ≤ 700001000:=hp.2.2;exact Ok.call (uT t _) ⟨by decide,k0,by omega,by decide⟩ fun y s2 _ _ k5=>Ok.pure ⟨hp.1.1,by dsimp only; omega,by dsimp only; omega⟩
end Go.LN
namespace Go.LN
def mt (x y:List Int):Bool:=x.any (hasB y)
theorem zLt {x y:List Int}:mt x y=true ↔ ∃ c,c ∈ x∧c ∈ y:=by
  unfold mt;rw [List.any_eq_true];constructor
  · rintro ⟨c,h1,h2⟩; exact ⟨c,h1,zLF.1 h2⟩
  · rintro ⟨c,h1,h2⟩; exact ⟨c,h1,zLF.2 h2⟩
theorem zMc (x y:List Int):mt x y=mt y x:=by
  rw [Bool.eq_iff_iff,zLt,zLt];constructor <;> (rintro ⟨c,h1,h2⟩; exact ⟨c,h2,h1⟩)
theorem meetV (a b:List Int) (ha:a.length ≤ 1048576) (hb:b.length ≤ 1048576):zL0 a b=some (mt a b):=by
  unfold zL0;have h:=zLG (R:=Bool) (r0:=true) (n:=a.length) (f:=zLW a b) (P:=fun i=>hasB b (a.getD i 0)) (fun i hi=>by
      rw [zLW];have h1:((i:Int) < (a.length:Int)):=by omega
      have hg:a.getD i 0=a[i]:=by simp [hi]
      simp only [h1,dT,if_true,xC hi,specHas b _ hb,oB,oS,oP,hg];rw [tP (by omega)]) (by rw [zLW]; simp)
  rw [zKq a (fun x=>hasB b x) 0] at h;rw [h];unfold mt;cases a.any (hasB b) <;> rfl
def cfB (ra wa rb wb:List Bool) (k:Nat):Bool:=(wa.getD k false && (rb.getD k false || wb.getD k false)) || (wb.getD k false && ra.getD k false)
theorem zMi {n:Nat}{ra wa rb wb:List Bool} (h1:ra.length=n) (h2:wa.length=n) (h3:rb.length=n) (h4:wb.length=n) (hn:n ≤ 1000000):zLN ra wa rb wb 0=some (if (List.range n).all (fun k=>!cfB ra wa rb wb k) then .done () else .ret false) :=
  jZ (n:=n) (f:=zLN ra wa rb wb) (P:=fun k=>!cfB ra wa rb wb k) (fun i hi=>by
    rw [zLN]
    have c:((i:Int) < (ra.length:Int)):=by omega
    have g1:ra.getD i false=ra[i]'(by omega):=by simp [show i < ra.length by omega]
    have g2:wa.getD i false=wa[i]'(by omega):=by simp [show i < wa.length by omega]
    have g3:rb.getD i false=rb[i]'(by omega):=by simp [show i < rb.length by omega]
    have g4:wb.getD i false=wb[i]'(by omega):=by simp [show i < wb.length by omega]
    unfold cfB
    rw [g1,g2,g3,g4]
    simp only [c,dT,if_true,xC (show i < ra.length by omega),xC (show i < wa.length by omega),xC (show i < rb.length by omega),xC (show i < wb.length by omega),oB,oS,oP,id]
    rw [tP (by omega)]
    cases wa[i]'(by omega) <;> cases rb[i]'(by omega) <;> cases wb[i]'(by omega) <;> cases ra[i]'(by omega) <;> rfl) (by
    rw [zLN]
    have c:¬((n:Int) < (ra.length:Int)):=by omega
    simp only [c,dF,bF,if_false,oP])
theorem zMA {l:List Bool}{k:Nat}:((k:Nat):Int) ∈ choF l 0 ↔ l.getD k false=true:=by
  rw [zLu];constructor
  · rintro ⟨m,h1,h2⟩;rw [show k=m by omega]; exact h2
  · intro h; exact ⟨k,by omega,h⟩
theorem zMK {l:List Bool}{k:Nat} (h:l.getD k false=true):k < l.length:=by
  rcases Nat.lt_or_ge k l.length with h1 | h1
  · exact h1
  · rw [List.getD_eq_getElem?_getD,List.getElem?_eq_none h1] at h; cases h
theorem zMj {x y:List Bool}:mt (choF x 0) (choF y 0)=true ↔ ∃ k:Nat,x.getD k false=true∧y.getD k false=true:=by
  rw [zLt];constructor
  · rintro ⟨c,h1,h2⟩;obtain ⟨k,rfl,h3⟩:=zLu.1 h1;rw [Nat.zero_add] at h2;exact ⟨k,h3,zMA.1 h2⟩
  · rintro ⟨k,h1,h2⟩;exact ⟨(k:Int),zMA.2 h1,zMA.2 h2⟩
theorem zMk {n:Nat}{ra wa rb wb:List Bool} (h2:wa.length=n) (h4:wb.length=n):(List.range n).all (fun k=>!cfB ra wa rb wb k)=(!mt (choF wa 0) (choF wb 0) && (!mt (choF wa 0) (choF rb 0) && !mt (choF wb 0) (choF ra 0))):=by
  rw [Bool.eq_iff_iff,List.all_eq_true];simp only [bA,Bool.not_eq_true',Bool.eq_false_iff,ne_eq,zMj];constructor
  · intro h;refine ⟨?_,?_,?_⟩
    · rintro ⟨k,a1,a2⟩;have:=h k (List.mem_range.2 (by have:=zMK a1; omega));unfold cfB at this;rw [a1,a2] at this;simp at this
    · rintro ⟨k,a1,a2⟩;have:=h k (List.mem_range.2 (by have:=zMK a1; omega));unfold cfB at this;rw [a1,a2] at this;simp at this
    · rintro ⟨k,a1,a2⟩;have:=h k (List.mem_range.2 (by have:=zMK a1; omega));unfold cfB at this;rw [a1,a2] at this;simp at this
  · rintro ⟨a1,a2,a3⟩ k _ hc;unfold cfB at hc;cases e1:wa.getD k false with
    | true =>
      cases e2:rb.getD k false with
      | true=>exact a2 ⟨k,e1,e2⟩
      | false =>
        cases e3:wb.getD k false with
        | true=>exact a1 ⟨k,e1,e3⟩
        | false=>rw [e1,e2,e3] at hc; cases hc
    | false =>
      cases e3:wb.getD k false with
      | true =>
        cases e4:ra.getD k false with
        | true=>exact a3 ⟨k,e3,e4⟩
        | false=>rw [e1,e3,e4] at hc; simp at hc
      | false=>rw [e1,e3] at hc; simp at hc
def indF (P:zH) (a b:Int):Bool:=(decide (inR P a) && (decide (inR P b) && !(a == b))) && (!mt (pwF P a) (pwF P b) && (!mt (pwF P a) (prF P b) && !mt (pwF P b) (prF P a)))
theorem zMI (P:zH) (a b:Int):indF P a b=indF P b a:=by
  unfold indF;rw [zMc (pwF P a) (pwF P b),show (a == b)=(b == a) by rw [Bool.eq_iff_iff,beq_iff_eq,beq_iff_eq]; exact ⟨Eq.symm,Eq.symm⟩];cases decide (inR P a) <;> cases decide (inR P b) <;> cases (b == a) <;> cases mt (pwF P b) (pwF P a) <;> cases mt (pwF P a) (prF P b) <;> cases mt (pwF P b) (prF P a) <;> rfl
theorem implInd (P:zH) (hb:BG P) (a b:Int):zLP P a b=some (indF P a b):=by
  unfold zLP;rw [implTrace P hb];cases hv:validP P with
  | false =>
    have:¬inR P a:=fun h=>by have h1:=h.1; rw [hv] at h1; cases h1
    unfold indF;simp [this]
  | true =>
    have hn:=zLm hv;have hpl:=hb.2.1;have ra:∀ c:Int,(decide (0 ≤ c) && decide (c ≤ (P.Parts.length:Int) - 1))=decide (inR P c):=fun c=>by
      rw [Bool.eq_iff_iff,bA,decide_eq_true_eq,decide_eq_true_eq,decide_eq_true_eq];constructor
      · rintro ⟨h1,h2⟩; exact ⟨hv,h1,by omega⟩
      · rintro ⟨_,h1,h2⟩; exact ⟨h1,by omega⟩
    simp only [if_true,isPartV hb,ra,bT,bF,if_false,oB,oS,oP];unfold indF;by_cases h1:inR P a
    · by_cases h2:inR P b
      · by_cases h3:a=b
        · simp [h1,h2,h3]
        · have e3:(a == b)=false:=by simpa using h3
          have l:=zMi (n:=nCel P) (ra:=setA (repF (nCel P)) ((ofPart P a (progI P)).flatMap (rdI P))) (wa:=setA (repF (nCel P)) ((ofPart P a (progI P)).map (wrI P))) (rb:=setA (repF (nCel P)) ((ofPart P b (progI P)).flatMap (rdI P))) (wb:=setA (repF (nCel P)) ((ofPart P b (progI P)).map (wrI P))) (by rw [zL5,zL3]) (by rw [zL5,zL3]) (by rw [zL5,zL3]) (by rw [zL5,zL3]) (by omega);rw [zMk (by rw [zL5,zL3]) (by rw [zL5,zL3])] at l;have w1:pwF P a=choF (setA (repF (nCel P)) ((ofPart P a (progI P)).map (wrI P))) 0:=by unfold pwF; rw [if_pos h1]
          have w2:pwF P b=choF (setA (repF (nCel P)) ((ofPart P b (progI P)).map (wrI P))) 0:=by unfold pwF; rw [if_pos h2]
          have w3:prF P a=choF (setA (repF (nCel P)) ((ofPart P a (progI P)).flatMap (rdI P))) 0:=by unfold prF; rw [if_pos h1]
          have w4:prF P b=choF (setA (repF (nCel P)) ((ofPart P b (progI P)).flatMap (rdI P))) 0:=by unfold prF; rw [if_pos h2]
          rw [← w1,← w2,← w3,← w4] at l;simp only [h1,h2,e3,dT,bT,Bool.not_false,bF,if_false,Bool.and_self,Bool.true_and,cellsOfV hb hv,l,oS];cases (!mt (pwF P a) (pwF P b) && (!mt (pwF P a) (prF P b) && !mt (pwF P b) (prF P a))) <;> rfl
      · simp [h1,h2]
    · simp [h1]
theorem specInd (P:zH) (hb:BG P) (a b:Int):zLU P a b=some (indF P a b):=by
  unfold zLU;rw [specValidP P hb];cases hv:validP P with
  | false =>
    have:¬inR P a:=fun h=>by have h1:=h.1; rw [hv] at h1; cases h1
    unfold indF;simp [this]
  | true =>
    have lw:∀ c,(pwF P c).length ≤ 1048576:=fun c=>by have:=zMa P c; omega
    have lr:∀ c,(prF P c).length ≤ 1048576:=fun c=>by have:=zMb P c; omega
    have s1:∀ c,zAc P c true=some (pwF P c):=fun c=>spec11 P hb hv c true;have s2:∀ c,zAc P c false=some (prF P c):=fun c=>spec11 P hb hv c false;simp only [bT,bF,if_false,s1,s2,meetV _ _ (lw a) (lw b),meetV _ _ (lw a) (lr b),meetV _ _ (lw b) (lr a),oB,oS,oP,id];unfold indF;by_cases h1:inR P a
    · have a1:¬(a < 0):=by have:=h1.2.1; omega
      have a2:¬(a ≥ (P.Parts.length:Int)):=by have:=h1.2.2; omega
      by_cases h2:inR P b
      · have b1:¬(b < 0):=by have:=h2.2.1; omega
        have b2:¬(b ≥ (P.Parts.length:Int)):=by have:=h2.2.2; omega
        simp only [a1,a2,b1,b2,h1,h2,dT,dF,bF,if_false,Bool.true_and];cases (a == b) <;> cases mt (pwF P a) (pwF P b) <;> cases mt (pwF P a) (prF P b) <;> cases mt (pwF P b) (prF P a) <;> rfl
      · have b3:b < 0∨b ≥ (P.Parts.length:Int):=by
          rcases Int.lt_or_le b 0 with h | h
          · exact .inl h
          · rcases Int.lt_or_le b (P.Parts.length:Int) with h' | h'
            · exact absurd ⟨hv,h,h'⟩ h2
            · exact .inr h'
        simp only [a1,a2,h2,dF,bF,if_false,Bool.false_and,Bool.and_false];rcases b3 with b3 | b3
        · simp [b3]
        · by_cases b4:b < 0
          · simp [b4]
          · simp [b3,b4]
    · have a3:a < 0∨a ≥ (P.Parts.length:Int):=by
        rcases Int.lt_or_le a 0 with h | h
        · exact .inl h
        · rcases Int.lt_or_le a (P.Parts.length:Int) with h' | h'
          · exact absurd ⟨hv,h,h'⟩ h1
          · exact .inr h'
      simp only [h1,dF,Bool.false_and];rcases a3 with a3 | a3
      · simp [a3]
      · by_cases a4:a < 0
        · simp [a4]
        · by_cases b4:b < 0
          · simp [a4,b4]
          · simp [a3,a4,b4]
theorem drawPI (code:List UInt8):Ok (zLT code) (fun y=>BG y.1):=by
  unfold zLT;refine Ok.call (zKW code) trivial fun s hs=>Ok.bind (args11 s hs) fun p hp=>?_;obtain ⟨P,part,t⟩:=p;have k0:0 ≤ t.p:=hp.2.1;have k1:t.p ≤ 800000000:=hp.2.2;exact Ok.call (uT t _) ⟨by decide,k0,by omega,by decide⟩ fun y s2 _ _ _=>Ok.pure hp.1
theorem zMY {P:zH}{i k:Nat} (h:kindI P i k ≠ 0):wrI P (zIns P i) ∈ rdI P (zIns P k)∨wrI P (zIns P k) ∈ rdI P (zIns P i)∨wrI P (zIns P i)=wrI P (zIns P k):=by
  by_cases h1:hasB (rdI P (zIns P k)) (wrI P (zIns P i))=true
  · exact .inl (zLF.1 h1)
  · by_cases h2:hasB (rdI P (zIns P i)) (wrI P (zIns P k))=true
    · exact .inr (.inl (zLF.1 h2))
    · by_cases h3:wrI P (zIns P i)=wrI P (zIns P k)
      · exact .inr (.inr h3)
      · have e3:¬((wrI P (zIns P i) == wrI P (zIns P k))=true):=by simpa using h3
        exact absurd (by unfold kindI kindF; rw [if_neg h1,if_neg h2,if_neg e3]; rfl) h
theorem zMU {P:zH} (hb:BG P) {a b:Int} (hi:indF P a b=true) {i k:Nat} (h1:i < (progI P).length) (h2:k < (progI P).length) (hk:kindI P i k ≠ 0) (pa:(zIns P i).Part=a) (pb:(zIns P k).Part=b):False:=by
  simp only [indF,bA,decide_eq_true_eq,Bool.not_eq_true'] at hi;obtain ⟨⟨ra,rb,_⟩,m1,m2,m3⟩:=hi;have wa:wrI P (zIns P i) ∈ pwF P a:=(zM2 hb ra).2 ⟨_,zMD h1,pa,rfl⟩;have wb:wrI P (zIns P k) ∈ pwF P b:=(zM2 hb rb).2 ⟨_,zMD h2,pb,rfl⟩;rcases zMY hk with h | h | h
  · rw [zLt.2 ⟨_,wa,(zM3 hb rb).2 ⟨_,zMD h2,pb,h⟩⟩] at m2; cases m2
  · rw [zLt.2 ⟨_,wb,(zM3 hb ra).2 ⟨_,zMD h1,pa,h⟩⟩] at m3; cases m3
  · rw [zLt.2 ⟨_,wa,by rw [h]; exact wb⟩] at m1; cases m1
theorem zMQ {P:zH}{i:Nat} (h:i < (progI P).length):idx (progI P) (i:Int)=some (zIns P i):=by rw [xC h,zMJ h]
theorem zMd {P:zH} (hb:BG P) (hv:validP P=true) {a b:Int} (hi:indF P a b=true):zLM a b (progI P) (dpF P) 0=some (.done ()):=by
  have hl:=zM9 (P:=P);have e3:dpF P=depA P 0 (progI P).length:=by unfold dpF; rw [hv]; rfl
  have hi2:indF P b a=true:=by rw [zMI]; exact hi
  have h:=jZ (n:=(dpF P).length) (f:=zLM a b (progI P) (dpF P)) (P:=fun _=>true) (fun q hq=>by
      rw [zLM];have h1:((q:Int) < ((dpF P).length:Int)):=by omega
      have hm:(dpF P)[q] ∈ depA P 0 (progI P).length:=by rw [← e3]; exact gM hq
      unfold depA at hm;obtain ⟨i,hi0,hm⟩:=List.mem_flatMap.1 hm;unfold depR at hm;obtain ⟨k,hk,hm⟩:=List.mem_flatMap.1 hm;have hi0:=List.mem_range'_1.1 hi0;have hk:=List.mem_range'_1.1 hk;unfold dep1 at hm;by_cases h0:(kindI P i k == 0)=true
      · rw [if_pos h0] at hm; cases hm
      · rw [if_neg h0] at hm;have hd:=List.mem_singleton.1 hm;have hk0:kindI P i k ≠ 0:=by simpa using h0
        have hin:i < (progI P).length:=by omega
        have hkn:k < (progI P).length:=by omega
        simp only [h1,dT,if_true,xC hq,hd,zMQ hin,zMQ hkn,oB,oS,oP];rw [tP (by omega)];have n1:¬((zIns P i).Part=a∧(zIns P k).Part=b):=fun h=>zMU hb hi hin hkn hk0 h.1 h.2;have n2:¬((zIns P i).Part=b∧(zIns P k).Part=a):=fun h=>zMU hb hi2 hin hkn hk0 h.1 h.2;by_cases x1:(zIns P i).Part=a
        · have x2:¬((zIns P k).Part=b):=fun h=>n1 ⟨x1,h⟩;by_cases x3:(zIns P i).Part=b
          · have x4:¬((zIns P k).Part=a):=fun h=>n2 ⟨x3,h⟩;have y1:((zIns P i).Part == a)=true:=by simpa using x1
            have y2:((zIns P k).Part == b)=false:=by simpa using x2
            have y3:((zIns P i).Part == b)=true:=by simpa using x3
            have y4:((zIns P k).Part == a)=false:=by simpa using x4
            simp only [y1,y2,y3,y4,if_true,bF,if_false,oS]
          · have y1:((zIns P i).Part == a)=true:=by simpa using x1
            have y2:((zIns P k).Part == b)=false:=by simpa using x2
            have y3:((zIns P i).Part == b)=false:=by simpa using x3
            simp only [y1,y2,y3,if_true,bF,if_false,oS]
        · have y1:((zIns P i).Part == a)=false:=by simpa using x1
          by_cases x3:(zIns P i).Part=b
          · have x4:¬((zIns P k).Part=a):=fun h=>n2 ⟨x3,h⟩;have y3:((zIns P i).Part == b)=true:=by simpa using x3
            have y4:((zIns P k).Part == a)=false:=by simpa using x4
            simp only [y1,y3,y4,if_true,bF,if_false,oS]
          · have y3:((zIns P i).Part == b)=false:=by simpa using x3
            simp only [y1,y3,bF,if_false,oS]) (by
      rw [zLM];simp)
  rw [h];have:((List.range (dpF P).length).all fun _=>true)=true:=by simp
  simp [this]
theorem zLn (code:List UInt8):∃ r,zLV code=some r∧r=true:=by
  obtain ⟨⟨P,a,b⟩,hy,hb⟩:=drawPI code;dsimp only at hb;unfold zLV;refine ⟨true,?_,rfl⟩;by_cases h1:(code.length:Int) > 1048576
  · simp [h1]
  · simp only [h1,dF,bF,if_false,hy,implInd P hb a b,specInd P hb a b,implInd P hb b a,zMI P b a,bQ,bT,implInstP P hb,implDeps P hb,oP,oB,oS,id];cases hi:indF P a b with
    | false=>rfl
    | true =>
      have h:=hi;simp only [indF,bA,decide_eq_true_eq,Bool.not_eq_true'] at h;have hv:=h.1.1.1;have hne:=h.1.2.2;have e:(a != b)=true:=by unfold bne; rw [hne]; rfl
      simp only [hv,if_true,bT,bF,if_false,zMd hb hv hi,oS,e]
end Go.LN
