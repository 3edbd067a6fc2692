/- Helper of the proof (see the last text). -/
import Derived.Test.YtpacccdphbhfbaaGreatHM6
set_option linter.unusedVariables false
set_option linter.unusedSimpArgs false
namespace Go.LN
open Go.Proofs
set_option maxRecDepth 20000
def mK (code:(List UInt8)):Option (Bool):=do
 if (decide ((code.length:Int) > 1048576)) then
  pure true
 else
  let (y1,y2,y3)←sR code
  let (y5,y6)←tR y1 y2 y3
  let (y8,y9)←pV y1 y2 y3
  let t49←(do
    if (!(y6 == y9)) then
     pure true
    else
     if (y5 != y8) then
      pure true
     else
      pure (!y6)
      : Option Bool)
  if t49 then
   let t2←(do
     if (y6 == y9) then
      pure (y5 == y8)
     else
      pure false
       : Option Bool)
   pure (id t2)
  else
   let x←idx y1.Parts y3.Part
   let x1←idx x.Body y3.Stmt
   let (y11,y12)←mV x1 y3.Point
   if (!y12) then
    pure true
   else
    let (y14,y15)←tR (zK.mk y1.Arrays ([(zL.mk ([]:List zE) ([y11]:List zN))]:List zL)) y2 (zM.mk 0 0 ([]:List Int))
    let t21←(do
      if y15 then
       pure (y14 == y5)
      else
       pure false
        : Option Bool)
    pure (id t21)
theorem zGm:∀ code r,mK code=some r→∀ {I:Imm}{p c},(S4 I p code c)→RT 5 [vS p code c] I [] (zS  r):=by
 intro code r N I p c h;unfold mK at N;refine yJ Tryz.func5 fun B=>?_;have H:=iS I;refine vU []<|yA<|yH [17] rfl<|zJ<|yE N ?_ ?_
 · intro hc N;refine vU [(2,vY)]<|xB<|zI ?_;obtain rfl:=zC N;exact xZ
 intro hc N;refine zT<|xE<|yD 1 [] [19] rfl ?_;obtain ⟨⟨y1,y2,y3⟩,hy,N⟩:=zB N;refine xP (eV code _ hy h) ?_;rintro I0 hs2 v2 k2 le - ⟨v0,v01,v02,rfl,rfl,⟨cs,rfl,h1⟩,h2,⟨cs1,rfl,h3⟩⟩ -;have H:=H.trans le;obtain ⟨p1,c1,p2,c2,rfl,h4,h5⟩:=fL h1;obtain ⟨p3,c3,rfl⟩:=h2.form;obtain ⟨p4,c4,rfl,h6⟩:=gS h3;refine yD 6 [] [21,22,23] rfl<|wU zTwo ?_;intro b hb;refine wU [vI 0,vI 0,z0] ?_;intro b1 hb1;refine xI 1 (cProg y1 p1 c1 p2 c2) rfl<|yD 10 [] [4] rfl<|xI 0 (cInst y3 p4 c4) rfl<|yC rfl<|xE<|sU 3 [1,0] [(25,vA (cProg y1 p1 c1 p2 c2)),(26,vS p3 y2 c3),(27,vA (cInst y3 p4 c4))] ?_;obtain ⟨⟨y5,y6⟩,hy1,N⟩:=zB N;refine xP (gR y1 y2 y3 _ hy1 h4 h5 h2 h6) ?_;rintro I01 hs2 v2 k2 le1 - ⟨v06,v07,rfl,rfl,rfl,rfl⟩ -;have ⟨h2,h6,h4,h5,H⟩:=m5 le1 h2 h6 h4 h5 H;refine yI [] [6,7] rfl<|xE<|sU 3 [1,0] [(32,vA (cProg y1 p1 c1 p2 c2)),(33,vS p3 y2 c3),(34,vA (cInst y3 p4 c4))] ?_;obtain ⟨⟨y8,y9⟩,hy2,N⟩:=zB N;refine xP (zAt y1 y2 y3 _ hy2 h4 h5 h2 h6) ?_;rintro I02 hs2 v2 k2 le2 - ⟨v08,v09,rfl,rfl,rfl,rfl⟩ -;have ⟨h2,h6,h4,h5,H⟩:=m5 le2 h2 h6 h4 h5 H;refine yI [] [8,9] rfl<|yA<|zZ ?_;refine wD N [hB b1 (cInst y3 p4 c4),hB b (cProg y1 p1 c1 p2 c2)] (fun t49=>[(3,vP b 0),(4,vS p3 y2 c3),(5,vP b1 0),(6,vI y5),(7,.bool y6),(8,vI y8),(9,.bool y9),(49,.bool t49)]) (fun o0 ho0=>?_) ?_
 · have H:=iS I02;refine zO<|yD 4 [] [41] rfl<|xQ [41] ho0 ?_ ?_
   · intro hc1 N;exact xY [] [(49,vY)]<|yQ<|zR (ct N H)
   intro hc1 N;refine yD 9 [] [46] rfl<|xQ [46] N ?_ ?_
   · intro hc2 N;exact xY [] [(49,vY)]<|yQ<|zR (ct N H)
   intro hc2 N;exact yI [] [49] rfl<|yQ<|zR (ct N H)
 intro t49 I03 le3 hMc;have ⟨h2,h6,h4,h5,H⟩:=m5 le3 h2 h6 h4 h5 H;refine zJ<|yE hMc ?_ ?_
 · intro hc3 N;refine zZ ?_;refine wD N [] (fun t2=>[(2,.bool t2)]) (fun o01 ho01=>?_) ?_
   · have H:=iS I03;refine zO<|yD 4 [] [53] rfl<|xQ [53] ho01 ?_ ?_
     · intro hc4 N;exact yI [] [2] rfl<|xV zP<|yQ<|zR (ct N H)
     intro hc4 N;exact xY [] [(2,vF)]<|xV zP<|yQ<|zR (ct N H)
   intro t2 I04 le4 hMc1;refine xB<|zI ?_;obtain rfl:=zC hMc1;exact xZ
 intro hc3 N;refine zT<|zJ<|zZ ?_;obtain ⟨x,hy3,N⟩:=zB N;obtain ⟨x1,hy4,N⟩:=zB N;obtain ⟨⟨y11,y12⟩,hy5,N⟩:=zB N;refine wS [.p (vP b 1) [],.p (vS p2 y1.Parts c2) [1],.p (vP b1 0) [],.p (vI y3.Part) [0],.x (ePPart x),.x (eQPart 1 x),.x (eS x.Body),.p (vP b1 1) [],.p (vI y3.Stmt) [0],.x (ePStmt x1),.x (eVStmt x1),.p (vP b1 2) [],.p (vS p4 y3.Point c4) [0],.x (fun I' v hx=>∃ p11 c11 p12 c12 p13 c13 p14 c14,v=.tuple ⟨[vA (cStmt y11 p11 c11 p12 c12 p13 c13 p14 c14),.bool y12]⟩∧hx=[]∧(S4 I' p11 y11.Write.Subs c11)∧(S4 I' p12 y11.Value.Index.Coefs c12)∧(S4 I' p13 y11.Value.Read.Subs c13)∧(S4 I' p14 y11.Value.Kids c14)),.x (fun I' v hx=>∃ p111 c111 p121 c121 p131 c131 p141 c141,v=.tuple ⟨[vA (cStmt y11 p111 c111 p121 c121 p131 c131 p141 c141),.bool y12]⟩∧hx=[]∧(S4 I' p111 y11.Write.Subs c111)∧(S4 I' p121 y11.Value.Index.Coefs c121)∧(S4 I' p131 y11.Value.Read.Subs c131)∧(S4 I' p141 y11.Value.Kids c141)),.x (eVStmt y11),.q (.bool y12),.x (fun I' v hx=>∃ b2,v=vP b2 0∧hx=[hB b2 [vT ([]),z0,vI 0,vI 0,z0,vI 0,vT ([]),z0,z0]]),.x (fun I' v hx=>∃ b21 p11111 c11111 p12111 c12111 p13111 c13111 p14111 c14111,v=vP b21 0∧hx=[hB b21 (cStmt y11 p11111 c11111 p12111 c12111 p13111 c13111 p14111 c14111)]∧(S4 I' p11111 y11.Write.Subs c11111)∧(S4 I' p12111 y11.Value.Index.Coefs c12111)∧(S4 I' p13111 y11.Value.Read.Subs c13111)∧(S4 I' p14111 y11.Value.Kids c14111))] [[],[(0,false)],[],[(2,false)],[(1,false),(3,false)],[(4,false)],[(5,false)],[],[(7,false)],[(6,false),(8,false)],[(9,false)],[],[(11,false)],[(10,false),(12,false)],[(13,false)],[(14,false)],[(14,false)],[],[(15,false),(17,true)]] [hB b1 (cInst y3 p4 c4),hB b (cProg y1 p1 c1 p2 c2)] [] [(16,false),(18,true)] (zY [0,1]) ?_ ?_
 · refine Op<|Op<|Op<|Op<|Ox ?_<|Ox ?_<|Ox ?_<|Op<|Op<|Ox ?_<|Ox ?_<|Op<|Op<|Ox ?_<|Ox ?_<|Ox ?_<|Oq ?_<|Ox ?_<|Ox ?_<|On
   · intro I1 hf le1;refine yS [60,62] rfl ?_;have h5:=h5.mono le1;refine xS rfl rfl h5 hy3 ?_;intro ad ccs hat hrep;obtain ⟨p5,c5,p6,c6,rfl,h11,h12⟩:=wE hrep;exact yN [] iR ⟨_,_,_,_,_,rfl,rfl,hat,h11,h12⟩
   · rintro I1 hf le1 _ _ ⟨ad,p5,c5,p6,c6,rfl,rfl,hat,h11,h12⟩;exact yS [63] rfl<|qQ 6 [(64,.pointer (some (ad.add 1)))]<|yN [] iR ⟨_,_,_,_,_,rfl,rfl,hat,h11,h12⟩
   · rintro I1 hf le1 _ _ ⟨ad1,p51,c51,p61,c61,rfl,rfl,hat1,h111,h121⟩;exact yS [64] rfl<|xL 1 hat1 [vS p61 x.Body c61] (vS p61 x.Body c61) rfl<|yN [] iR ⟨_,_,rfl,rfl,h121⟩
   · rintro I1 hf le1 _ _ ⟨p611,c611,rfl,rfl,h1211⟩;refine yS [65,67] rfl<|xS rfl rfl h1211 hy4 ?_;intro ad2 ccs1 hat2 hrep1;obtain ⟨p7,c7,p8,c8,p9,c9,p10,c10,rfl,h13,h14,h15,h16⟩:=tH hrep1;exact yN [] iR ⟨_,_,_,_,_,_,_,_,_,rfl,rfl,hat2,h13,h14,h15,h16⟩
   · rintro I1 hf le1 _ _ ⟨ad2,p7,c7,p8,c8,p9,c9,p10,c10,rfl,rfl,hat2,h13,h14,h15,h16⟩;exact yS [68] rfl<|xL 0 hat2 (cStmt x1 p7 c7 p8 c8 p9 c9 p10 c10) (vA (cStmt x1 p7 c7 p8 c8 p9 c9 p10 c10)) rfl<|yN [] iR ⟨_,_,_,_,_,_,_,_,rfl,rfl,h13,h14,h15,h16⟩
   · rintro I1 hf le1 _ _ ⟨p71,c71,p81,c81,p91,c91,p101,c101,rfl,rfl,h131,h141,h151,h161⟩;refine yS [69,71] rfl ?_;have H:=iS I1;have h6:=h6.mono le1;refine xP (zDD x1 y3.Point _ hy5 h131 h141 h151 h161 h6) ?_;rintro I05 hs2 v2 k2 le5 - ⟨v016,v017,rfl,rfl,⟨cs2,rfl,h17⟩,rfl⟩ -;have H:=H.trans le5;obtain ⟨p11,c11,p12,c12,p13,c13,p14,c14,rfl,h19,h20,h21,h22⟩:=tH h17;exact yN [] H ⟨_,_,_,_,_,_,_,_,rfl,rfl,h19,h20,h21,h22⟩
   · rintro I1 hf le1 _ _ ⟨p11,c11,p12,c12,p13,c13,p14,c14,rfl,rfl,h19,h20,h21,h22⟩;exact yS [72] rfl<|qQ 15 [(58,.tuple ⟨[vA (cStmt y11 p11 c11 p12 c12 p13 c13 p14 c14),.bool y12]⟩)]<|yN [] iR ⟨_,_,_,_,_,_,_,_,rfl,rfl,h19,h20,h21,h22⟩
   · rintro I1 hf le1 _ _ ⟨p111,c111,p121,c121,p131,c131,p141,c141,rfl,rfl,h191,h201,h211,h221⟩;exact yS [58] rfl<|qQ 16 [(73,vA (cStmt y11 p111 c111 p121 c121 p131 c131 p141 c141))]<|yN [] iR ⟨_,_,_,_,_,_,_,_,rfl,rfl,h191,h201,h211,h221⟩
   · rintro I1 hf le1 _ _ ⟨p111,c111,p121,c121,p131,c131,p141,c141,rfl,rfl,h191,h201,h211,h221⟩;exact yS [58] rfl<|qQ 17 [(74,.bool y12)]<|xF iR
   · intro I1 hf le1;refine fC []<|wU [vT ([]),z0,vI 0,vI 0,z0,vI 0,vT ([]),z0,z0] ?_;intro b2 hb2;exact yN [hB b2 [vT ([]),z0,vI 0,vI 0,z0,vI 0,vT ([]),z0,z0]] iR ⟨_,rfl,rfl⟩
   rintro I1 hf le1 _ _ ⟨p1111,c1111,p1211,c1211,p1311,c1311,p1411,c1411,rfl,rfl,h1911,h2011,h2111,h2211⟩ _ _ ⟨b2,rfl,rfl⟩;exact yS [10,73] rfl<|zDR 0 (cStmt y11 p1111 c1111 p1211 c1211 p1311 c1311 p1411 c1411) (hB b2 (cStmt y11 p1111 c1111 p1211 c1211 p1311 c1311 p1411 c1411)::hB b1 (cInst y3 p4 c4)::hB b (cProg y1 p1 c1 p2 c2)::hf) rfl rfl rfl rfl<|yN [hB b2 (cStmt y11 p1111 c1111 p1211 c1211 p1311 c1311 p1411 c1411)] iR ⟨_,_,_,_,_,_,_,_,_,rfl,rfl,h1911,h2011,h2111,h2211⟩
 rintro I06 le6 _ _ ⟨rfl,rfl⟩ _ _ ⟨b21,p11111,c11111,p12111,c12111,p13111,c13111,p14111,c14111,rfl,rfl,h19111,h20111,h21111,h22111⟩;refine yS [3,4,6,10,74] rfl ?_;have ⟨h2,h4,H⟩:=m3 le6 h2 h4 H;refine yI [] [11] rfl<|yA<|yH [76] rfl<|zJ<|yE N ?_ ?_
 · intro hc5 N;refine vU [(2,vY)]<|xB<|zI ?_;obtain rfl:=zC N;exact xZ
 intro hc5 N;refine zT<|xE<|sU 3 [2,0] [(78,vS p1 y1.Arrays c1),(79,vA (cStmt y11 p11111 c11111 p12111 c12111 p13111 c13111 p14111 c14111))]<|tJ (cStmt y11 p11111 c11111 p12111 c12111 p13111 c13111 p14111 c14111) zN ?_;intro b3 hb3;have h23:RL I06 (cStmt y11 p11111 c11111 p12111 c12111 p13111 c13111 p14111 c14111) ([y11]:List zN):=⟨(cStmt y11 p11111 c11111 p12111 c12111 p13111 c13111 p14111 c14111),_,rfl,rfl,(xR ⟨_,_,_,_,rfl,h19111,h20111,h21111,h22111⟩),rfl⟩;refine yD 5 [] [81] rfl<|xK 0 rfl ?_;intro I07 le7 hl0;have h24:=SL.of_frozen hl0 le7 h23;have ⟨h2,h4,H⟩:=m3 le7 h2 h4 H;refine tJ [z0,vS (some ⟨b3,0,none⟩) ([y11]:List zN) 1] zL ?_;intro b4 hb4;have h25:RL I07 [z0,vS (some ⟨b3,0,none⟩) ([y11]:List zN) 1] ([(zL.mk ([]:List zE) ([y11]:List zN))]:List zL):=⟨[z0,vS (some ⟨b3,0,none⟩) ([y11]:List zN) 1],_,rfl,rfl,(sQ ⟨_,_,rfl,(SL.nil _),h24⟩),rfl⟩;refine yD 7 [] [83] rfl<|wU zTwo ?_;intro b5 hb5;refine xI 0 [vS p1 y1.Arrays c1,vS (some ⟨b4,0,none⟩) ([(zL.mk ([]:List zE) ([y11]:List zN))]:List zL) 1] rfl<|yC rfl<|xE<|sU 3 [0] [(85,vA [vS p1 y1.Arrays c1,vS (some ⟨b4,0,none⟩) ([(zL.mk ([]:List zE) ([y11]:List zN))]:List zL) 1]),(86,vS p3 y2 c3),(87,vA [vI 0,vI 0,z0])]<|xK 1 rfl ?_;intro I08 le8 hl01;have h26:=SL.of_frozen hl01 le8 h25;have ⟨h4,h2,H⟩:=m3 le8 h4 h2 H;obtain ⟨⟨y14,y15⟩,hy6,N⟩:=zB N;refine xP (gR (zK.mk y1.Arrays ([(zL.mk ([]:List zE) ([y11]:List zN))]:List zL)) y2 (zM.mk 0 0 ([]:List Int)) _ hy6 h4 h26 h2 (SL.nil _)) ?_;rintro I09 hs2 v2 k2 le9 - ⟨v022,v023,rfl,rfl,rfl,rfl⟩ -;have H:=H.trans le9;refine yI [] [13,14] rfl<|zJ<|zZ ?_;refine wD N [] (fun t21=>[(2,.bool t21)]) (fun o02 ho02=>?_) ?_
 · have H:=iS I09;refine zO<|yD 2 [] [92] rfl<|xQ [92] ho02 ?_ ?_
   · intro hc6 N;exact yI [] [2] rfl<|xV zP<|yQ<|zR (ct N H)
   intro hc6 N;exact xY [] [(2,vF)]<|xV zP<|yQ<|zR (ct N H)
 intro t21 I010 le10 hMc2;refine zJ<|yX ?_;obtain rfl:=zC hMc2;exact xZ
instance zLE {cs}{arr:List zF}{cs1}{raws:List Raw2}{parts:List zL}{vN:Value}{nl:List zE}{vB:Value}{bl:List zN}{csN csB:List Value}:MonoI (fun i=>L4 i cs arr cs1 raws parts vN nl vB bl csN csB):=⟨fun _ _ hl h=>h.mono hl⟩
end Go.LN
