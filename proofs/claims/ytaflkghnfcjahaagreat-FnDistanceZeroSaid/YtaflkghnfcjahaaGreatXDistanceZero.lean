/- Helper of the proof (see the last text). -/
import Derived.Test.YtaflkghnfcjahaaGreatLnA
import Derived.Test.YtaflkghnfcjahaaGreatLnI
import Derived.Test.YtaflkghnfcjahaaGreatLnO
import Derived.Test.YtaflkghnfcjahaaGreatTryzShelf
import Derived.Test.YtaflkghnfcjahaaGreatHM1
import Derived.Test.YtaflkghnfcjahaaGreatHM2
import Derived.Test.YtaflkghnfcjahaaGreatHM3
import Derived.Test.YtaflkghnfcjahaaGreatHM4
import Derived.Test.YtaflkghnfcjahaaGreatHM5
import Derived.Test.YtaflkghnfcjahaaGreatHM6
import Derived.Test.YtaflkghnfcjahaaGreatHM7
import Derived.Test.YtaflkghnfcjahaaGreatQT
import Derived.Test.YtaflkghnfcjahaaGreatQZ
import Derived.Test.YtaflkghnfcjahaaGreatVB1
import Derived.Test.YtaflkghnfcjahaaGreatVB8
import Derived.Test.YtaflkghnfcjahaaGreatVL3
import Derived.Test.YtaflkghnfcjahaaGreatLnR
set_option linter.unusedVariables false
set_option linter.unusedSimpArgs false
namespace Go.LN
open Go.Proofs
set_option maxRecDepth 20000
def zMi (y1:zE) (y2:Int) (y3:(List (List Int))) (i:Int):Option (Out Unit (Bool)):=do
 if (decide (i < (y3.length:Int))) then
  let t70←(do
    let x1←idx y3 i
    let y8←kZ x1
    if (decide (y8 < 0)) then
     pure true
    else
     let x2←idx y3 i
     let x3←idx y1.Parts y2
     pure ((x2.length:Int) != (x3.Nest.length:Int))
      : Option Bool)
  if t70 then
   pure (.ret false)
  else
   zMi y1 y2 y3 (W (i + 1))
 else
  pure (.done ())
 partial_fixpoint
theorem zNA (y1:zE) (y2:Int) (y3:(List (List Int))):∀ (i:Int) (o:Out Unit (Bool)),zMi y1 y2 y3 i=some o→∀ {B}{I0 I:Imm}{Q p1 c1 p2 c2}{b:Nat}{p3 c3},I0.le I→(S4 I p3 y3 c3)→(S4 I p1 y1.Arrays c1)→(S4 I p2 y1.Parts c2)→NG Q→NO Q→(∀ (I':Imm) ,o=(.done ())→I0.le I'→T 71 B Q (.exit 0) I' [] [])→(∀ r I' hs' m',o=(.ret r)→I0.le I'→RS Tryz.prog Tryz.f8 B (zT  r) I' hs' m'→T 71 B Q .ret I' hs' m')→J Tryz.prog 71 B (nav (bodyOf Tryz.f8) [1,1,1,1,1,0,1,0]) Q I [hB b (cProg y1 p1 c1 p2 c2)] [(3,vP b 0),(4,vI y2),(5,vS p3 y3 c3),(6,vI i)]:=by
 refine zMi.partial_correctness y1 y2 y3 _ fun self ih i o N B I0 I Q p1 c1 p2 c2 b p3 c3 H h5 h3 h4 hg ho hx hr=>yR hg ho<|zZ<|yD [47] rfl<|zI<|yB N ?_ ?_
 · intro hc4 N;refine zS<|zX<|yG<|zZ ?_;refine wP N [hB b (cProg y1 p1 c1 p2 c2)] (fun t70=>[(3,vP b 0),(4,vI y2),(5,vS p3 y3 c3),(6,vI i),(70,.bool t70)]) (fun o01 ho01=>?_) ?_
   · have H:=iS I;obtain ⟨x1,hy7,N⟩:=zC ho01;obtain ⟨y8,hy8,N⟩:=zC N;cases hc5:(decide (y8 < 0)) with
     | true =>
      have hM0:=oX hc5 N;refine wX [.p (vS p3 y3 c3) [],.p (vI i) [],.x (fun I' v hx=>∃ ad1 p8 c8,v=.pointer (some ad1)∧hx=[]∧(At I' ad1 [vS p8 x1 c8])∧(S4 I' p8 x1 c8)),.x (eS x1),.q (vI y8),.q vY,.q vY,.p undef [],.p undef [],.p undef [],.p undef [],.p undef [],.p undef [],.p undef [],.p undef [],.p undef [],.p undef [],.p undef [],.p undef [],.p undef [],.p vY []] [[],[],[(0,false),(1,false)],[(2,false)],[(3,false)],[(4,false)],[(5,false)],[(6,false)],[(6,false)],[(6,false),(7,false),(8,false)],[(6,false),(9,false)],[(6,false),(10,false)],[(6,false)],[(6,false),(12,false)],[(6,false)],[(6,false),(13,false),(14,false)],[(6,false),(15,false)],[(6,false),(16,false)],[(6,false),(17,false)],[(6,false),(11,false),(18,false)],[(6,false),(19,false)]] [hB b (cProg y1 p1 c1 p2 c2)] [] [(20,false)] (zY [0]) ?_ ?_
      · refine Op<|Op<|Ox ?_<|Ox ?_<|Oq ?_<|Oq ?_<|Oq ?_<|Op<|Op<|Op<|Op<|Op<|Op<|Op<|Op<|Op<|Op<|Op<|Op<|Op<|Op<|On
        · intro I1 hf le1;refine yS [50,51] rfl ?_;have h5:=h5.mono le1;refine xS rfl rfl h5 hy7 ?_;intro ad1 ccs1 hat1 hrep1;obtain ⟨v011,rfl,h12⟩:=hrep1;obtain ⟨p8,c8,rfl⟩:=h12.form;exact yK [] iR ⟨_,_,_,rfl,rfl,hat1,h12⟩
        · rintro I1 hf le1 _ _ ⟨ad1,p8,c8,rfl,rfl,hat1,h12⟩;exact yS [52] rfl<|xL 0 hat1 [vS p8 x1 c8] (vS p8 x1 c8) rfl<|yK [] iR ⟨_,_,rfl,rfl,h12⟩
        · rintro I1 hf le1 _ _ ⟨p81,c81,rfl,rfl,h121⟩;refine yS [53] rfl ?_;have H:=iS I1;refine jD (zIm x1 _ hy8 h121) ?_;intro I08 le7;have H:=H.trans le7;exact xF H
        · intro I1 hf le1;refine yS [54] rfl<|oH 6 [(55,.bool (decide (y8 < 0)))] ?_;rw [hc5];exact xF iR
        intro I1 hf le1;exact eU [(55,vY)]<|oH 7 [(56,vY)]<|xF iR
      intro I09 le8;refine yS [3,4,5,6,70] rfl ?_;have H:=H.trans le8;exact yE rfl<|yO<|zV (ct hM0 H)
     | false =>
      have hM01:=pW hc5 N;obtain ⟨x2,hy9,N⟩:=zC hM01;obtain ⟨x3,hy10,N⟩:=zC N;refine wX [.p (vS p3 y3 c3) [],.p (vI i) [],.x (fun I' v hx=>∃ ad1 p8 c8,v=.pointer (some ad1)∧hx=[]∧(At I' ad1 [vS p8 x1 c8])∧(S4 I' p8 x1 c8)),.x (eS x1),.q (vI y8),.q vF,.q vF,.p (vS p3 y3 c3) [],.p (vI i) [],.x (fun I' v hx=>∃ ad2 p9 c9,v=.pointer (some ad2)∧hx=[]∧(At I' ad2 [vS p9 x2 c9])∧(S4 I' p9 x2 c9)),.x (eS x2),.q (vI (x2.length:Int)),.p (vP b 1) [],.p (vS p2 y1.Parts c2) [0],.p (vI y2) [],.x (ePPart x3),.x (ePPart x3),.x (eS x3.Nest),.q (vI (x3.Nest.length:Int)),.p (.bool ((x2.length:Int) != (x3.Nest.length:Int))) [],.p (.bool ((x2.length:Int) != (x3.Nest.length:Int))) []] [[],[],[(0,false),(1,false)],[(2,false)],[(3,false)],[(4,false)],[(5,false)],[(6,false)],[(6,false)],[(6,false),(7,false),(8,false)],[(6,false),(9,false)],[(6,false),(10,false)],[(6,false)],[(6,false),(12,false)],[(6,false)],[(6,false),(13,false),(14,false)],[(6,false),(15,false)],[(6,false),(16,false)],[(6,false),(17,false)],[(6,false),(11,false),(18,false)],[(6,false),(19,false)]] [hB b (cProg y1 p1 c1 p2 c2)] [] [(20,false)] (zY [0]) ?_ ?_
      · refine Op<|Op<|Ox ?_<|Ox ?_<|Oq ?_<|Oq ?_<|Oq ?_<|Op<|Op<|Ox ?_<|Ox ?_<|Oq ?_<|Op<|Op<|Op<|Ox ?_<|Ox ?_<|Ox ?_<|Oq ?_<|Op<|Op<|On
        · intro I1 hf le1;refine yS [50,51] rfl ?_;have h5:=h5.mono le1;refine xS rfl rfl h5 hy7 ?_;intro ad1 ccs1 hat1 hrep1;obtain ⟨v011,rfl,h12⟩:=hrep1;obtain ⟨p8,c8,rfl⟩:=h12.form;exact yK [] iR ⟨_,_,_,rfl,rfl,hat1,h12⟩
        · rintro I1 hf le1 _ _ ⟨ad1,p8,c8,rfl,rfl,hat1,h12⟩;exact yS [52] rfl<|xL 0 hat1 [vS p8 x1 c8] (vS p8 x1 c8) rfl<|yK [] iR ⟨_,_,rfl,rfl,h12⟩
        · rintro I1 hf le1 _ _ ⟨p81,c81,rfl,rfl,h121⟩;refine yS [53] rfl ?_;have H:=iS I1;refine jD (zIm x1 _ hy8 h121) ?_;intro I08 le7;have H:=H.trans le7;exact xF H
        · intro I1 hf le1;refine yS [54] rfl<|oH 6 [(55,.bool (decide (y8 < 0)))] ?_;rw [hc5];exact xF iR
        · intro I1 hf le1;exact eU [(55,vF)]<|oH 7 [(56,vF)]<|xF iR
        · intro I1 hf le1;refine yS [56,57,58] rfl ?_;have h5:=h5.mono le1;refine xS rfl rfl h5 hy9 ?_;intro ad2 ccs2 hat2 hrep2;obtain ⟨v013,rfl,h14⟩:=hrep2;obtain ⟨p9,c9,rfl⟩:=h14.form;exact yK [] iR ⟨_,_,_,rfl,rfl,hat2,h14⟩
        · rintro I1 hf le1 _ _ ⟨rfl,rfl⟩ _ _ ⟨ad2,p9,c9,rfl,rfl,hat2,h14⟩;exact yS [56,59] rfl<|xL 0 hat2 [vS p9 x2 c9] (vS p9 x2 c9) rfl<|yK [] iR ⟨_,_,rfl,rfl,h14⟩
        · rintro I1 hf le1 _ _ ⟨rfl,rfl⟩ _ _ ⟨p91,c91,rfl,rfl,h141⟩;exact yS [56,60] rfl<|oH 12 [(61,vI (x2.length:Int))]<|xF iR
        · intro I1 hf le1;refine yS [56,63,64] rfl ?_;have h4:=h4.mono le1;refine xS rfl rfl h4 hy10 ?_;intro ad3 ccs3 hat3 hrep3;obtain ⟨p10,c10,p11,c11,rfl,h15,h16⟩:=tD hrep3;exact yK [] iR ⟨_,_,_,_,_,rfl,rfl,hat3,h15,h16⟩
        · rintro I1 hf le1 _ _ ⟨rfl,rfl⟩ _ _ ⟨ad3,p10,c10,p11,c11,rfl,rfl,hat3,h15,h16⟩;exact yS [56,65] rfl<|oH 17 [(66,.pointer (some ad3))]<|yK [] iR ⟨_,_,_,_,_,rfl,rfl,hat3,h15,h16⟩
        · rintro I1 hf le1 _ _ ⟨rfl,rfl⟩ _ _ ⟨ad31,p101,c101,p111,c111,rfl,rfl,hat31,h151,h161⟩;exact yS [56,66] rfl<|xL 0 hat31 [vS p101 x3.Nest c101] (vS p101 x3.Nest c101) rfl<|yK [] iR ⟨_,_,rfl,rfl,h151⟩
        rintro I1 hf le1 _ _ ⟨rfl,rfl⟩ _ _ ⟨p1011,c1011,rfl,rfl,h1511⟩;exact yS [56,67] rfl<|oH 19 [(68,vI (x3.Nest.length:Int))]<|xF iR
      intro I010 le9;refine yS [3,4,5,6,70] rfl ?_;have H:=H.trans le9;exact yE rfl<|yO<|zV (ct N H)
   intro t70 I07 le10 hMc1;have ⟨h5,h3,h4,H⟩:=m4 le10 h5 h3 h4 H;refine zI<|yB hMc1 ?_ ?_
   · intro hc6 N;exact wV [(2,vF)]<|xB<|zU<|zF<|zF<|hr _ _ _ _ (zB N).symm H ⟨_,_,(.tmp rfl ResV.nil),zP,⟨_,rfl,rfl,rfl⟩⟩
   intro hc6 N;exact zS<|zO<|zI<|zL<|yJ [] [6] rfl<|yQ<|nO<|ih (W (i + 1)) _ N H h5 h3 h4 hg ho hx hr
 intro hc4 N;exact wY<|wA zP<|yO<|hx _  (zB N).symm H
def zMz (code:(List UInt8)):Option (Bool):=do
 if (decide ((code.length:Int) > 1048576)) then
  pure true
 else
  let (y1,y2)←mC code
  let y3←jU y1 y2
  let t38←(do
    let y4←jW y1 y2
    let y5←fG y3 y4
    if (!y5) then
     pure true
    else
     if ((y3.length:Int) == 0) then
      pure true
     else
      let x←idx y1.Parts y2
      pure ((x.Body.length:Int) != 1)
      : Option Bool)
  if t38 then
   let y6←jW y1 y2
   let y7←fG y3 y6
   pure (id y7)
  else
   match←zMi y1 y2 y3 0 with
   | .ret r0=>pure r0
   | .done _ =>
    pure true
theorem zNB:∀ code r,zMz code=some r→∀ {I:Imm}{p c},(S4 I p code c)→RT 8 [vS p code c] I [] (zT  r):=by
 intro code r N I p c h;unfold zMz at N;refine yL Tryz.func8 fun B=>?_;have H:=iS I;refine wV []<|zX<|yD [9] rfl<|zI<|yB N ?_ ?_
 · intro hc N;refine wV [(2,vY)]<|xB<|zF ?_;obtain rfl:=zB N;exact wL
 intro hc N;refine zS<|xG<|yH 1 [] [11] rfl ?_;obtain ⟨⟨y1,y2⟩,hy,N⟩:=zC N;refine xV (zHb code _ hy h) ?_;rintro I0 hs2 v2 k2 le - ⟨v0,v01,rfl,rfl,⟨cs,rfl,h1⟩,rfl⟩ -;have H:=H.trans le;obtain ⟨p1,c1,p2,c2,rfl,h3,h4⟩:=zBH h1;refine yH 5 [] [13,14] rfl<|uF zTwo ?_;intro b hb;refine xQ 0 (cProg y1 p1 c1 p2 c2) rfl<|yJ [] [4] rfl<|xG<|oD 2 [0] [(15,vA (cProg y1 p1 c1 p2 c2)),(16,vI y2)]<|bE N fun y3 hy1 N=>xV (zJN y1 y2 _ hy1 h3 h4) ?_;rintro I01 hs2 v2 k2 le1 - ⟨v04,rfl,rfl,h5⟩ -;have ⟨h3,h4,H⟩:=m3 le1 h3 h4 H;obtain ⟨p3,c3,rfl⟩:=h5.form;refine yJ [] [5] rfl<|zX<|zZ ?_;refine wP N [hB b (cProg y1 p1 c1 p2 c2)] (fun t38=>[(3,vP b 0),(4,vI y2),(5,vS p3 y3 c3),(38,.bool t38)]) (fun o0 ho0=>?_) ?_
 · have H:=iS I01;refine zL<|oD 3 [0] [(18,vS p3 y3 c3),(19,vA (cProg y1 p1 c1 p2 c2)),(20,vI y2)] ?_;obtain ⟨y4,hy2,N⟩:=zC ho0;refine xV (zJO y1 y2 _ hy2 h3 h4) ?_;rintro I03 hs2 v2 k2 le2 - ⟨v05,rfl,rfl,h6⟩ -;have ⟨h5,h4,H⟩:=m3 le2 h5 h4 H;obtain ⟨p4,c4,rfl⟩:=h6.form;obtain ⟨y5,hy3,N⟩:=zC N;refine uH (zJz y3 y4 _ hy3 h5 h6) ?_;intro I04 le3;have ⟨h4,H⟩:=m2 le3 h4 H;refine yH 7 [] [24] rfl<|xZ [24] N ?_ ?_
   · intro hc1 N;exact vG [] [(38,vY)]<|yO<|zV (ct N H)
   intro hc1 N;refine yH 12 [] [29] rfl<|xZ [29] N ?_ ?_
   · intro hc2 N;exact vG [] [(38,vY)]<|yO<|zV (ct N H)
   intro hc2 N;refine yH 15 [0] [31,32] rfl<|bE N fun x hy4 N=>xS rfl rfl h4 hy4 ?_;intro ad ccs hat hrep;obtain ⟨p5,c5,p6,c6,rfl,h8,h9⟩:=tD hrep;exact yH 17 [] [34] rfl<|xL 1 hat [vS p6 x.Body c6] (vS p6 x.Body c6) rfl<|yJ [] [38] rfl<|yO<|zV (ct N H)
 intro t38 I02 le4 hMc;have ⟨h5,h3,h4⟩:=m3 le4 h5 h3 h4;refine zI<|yB hMc ?_ ?_
 · intro hc3 N;refine yF<|oD 3 [0] [(39,vS p3 y3 c3),(40,vA (cProg y1 p1 c1 p2 c2)),(41,vI y2)]<|bE N fun y6 hy5 N=>xV (zJO y1 y2 _ hy5 h3 h4) ?_;rintro I05 hs2 v2 k2 le5 - ⟨v09,rfl,rfl,h10⟩ -;have h5:=h5.mono le5;obtain ⟨p7,c7,rfl⟩:=h10.form;obtain ⟨y7,hy6,N⟩:=zC N;refine uH (zJz y3 y6 _ hy6 h5 h10) fun I06 le6=>vG [] [(2,.bool y7)]<|xB<|zF ?_;obtain rfl:=zB N;exact wL
 intro hc3 N;refine zS<|zX<|yD [6] rfl<|wB<|qW [(3,vP b 0),(4,vI y2),(5,vS p3 y3 c3),(6,vI 0)] ?_;obtain ⟨o02,ho02,hMl⟩:=zC N;refine zNA y1 y2 y3 0 o02 ho02 iR h5 h3 h4 (fun _ _ _ h=>h) (fun _ _ h=>h) ?_ ?_
 · intro I011  heq2 le11;subst o02;refine zR<|zDB [(2,vY)]<|zI<|yZ ?_;obtain rfl:=zB hMl;exact wL
 intro r0 I9 hs9 m9 heq9 le9 hrs9;subst heq9;refine zU<|zF ?_;obtain rfl:=zB hMl;exact xC hrs9
end Go.LN
namespace Go.LN
theorem zNG {P:zE} (hb:BG P) {part:Int} (hB:(gP P part.toNat).Body.length=1):∀ (j q:Nat),q + j=(dsF P part).length→zMi P part (dsF P part) (q:Int)=some (.done ()):=by
  have hl:=zMy (P:=P) part;intro j
  induction j with
  | zero =>
    intro q hq;rw [zMi];have:¬((q:Int) < ((dsF P part).length:Int)):=by omega
    simp only [this,dF,bF,if_false,oP]
  | succ j ih =>
    intro q hq;have h1:q < (dsF P part).length:=by omega
    have hc:((q:Int) < ((dsF P part).length:Int)):=by omega
    obtain ⟨a1,_,_,b1,b2,b3,b4⟩:=zMu hb (gM h1);have hi:idx P.Parts part=some (gP P part.toNat):=by
      rw [show part=((part.toNat:Nat):Int) by omega,yI b2,iN];simp [gP,b2]
    rw [zMi];simp only [hc,dT,if_true,yI h1,carryV (show (dsF P part)[q].length ≤ 1000000 by omega),hi,oB,oS,oP];rw [wF (by omega),ih (q + 1) (by omega)];cases hn:nzF (dsF P part)[q] with
    | none=>exact absurd hn (b4 hB)
    | some y =>
      have:¬((y.1:Int) < 0):=by omega
      simp only [this,dF,bF,if_false,oS,b3,bne_self_eq_false]
theorem zNC (code:List UInt8):∃ r,zMz code=some r∧r=true:=by
  obtain ⟨y,hy,hb⟩:=drawDist code;obtain ⟨P,part⟩:=y;unfold zMz;refine ⟨true,?_,rfl⟩;by_cases h1:(code.length:Int) > 1048576
  · simp [h1]
  · have hl:=zMy (P:=P) part;have hr:=zMa (l:=dsF P part) (by omega) fun x hx=>by have:=(zMu hb hx).1; omega
    simp only [h1,dF,bF,if_false,hy,implDist P hb part,specDist P hb part,hr,bT,oP,oB,oS];by_cases h0:((dsF P part).length:Int)=0
    · simp [h0]
    · have hne:0 < (dsF P part).length:=by omega
      obtain ⟨_,_,_,b1,b2,_⟩:=zMu hb (gM hne);have hi:idx P.Parts part=some (gP P part.toNat):=by
        rw [show part=((part.toNat:Nat):Int) by omega,yI b2,iN];simp [gP,b2]
      have h0':(((dsF P part).length:Int) == 0)=false:=by simpa using h0
      simp only [h0',bF,if_false,hi,oS];by_cases hB:(gP P part.toNat).Body.length=1
      · have hw:=zNG hb (part:=part) hB _ 0 (Nat.zero_add _);rw [nZ] at hw;have:(((gP P part.toNat).Body.length:Int) != 1)=false:=by simp [hB]
        simp only [this,bF,if_false,hw,oS]
      · have:(((gP P part.toNat).Body.length:Int) != 1)=true:=by simp; omega
        simp only [this,if_true,oS,id]
end Go.LN
