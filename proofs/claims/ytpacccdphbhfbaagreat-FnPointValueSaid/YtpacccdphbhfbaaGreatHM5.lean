/- Helper of the proof (see the last text). -/
import Derived.Test.YtpacccdphbhfbaaGreatHM4
set_option linter.unusedVariables false
set_option linter.unusedSimpArgs false
namespace Go.LN
open Go.Proofs
set_option maxRecDepth 20000
def gI (hsF:List HA) (r:Bool):KT:=fun kk I' hs' v=>
  ∃ v0,hsF=hs'∧v=tupV [v0]∧v0=.bool r
def yU (s:(List Int)) (f0:(Int→Option Bool)):Option (Bool):=do
 let y←qG s f0
 pure (decide (y ≥ 0))
theorem wV:∀ s f0 r,yU s f0=some r→∀ {I:Imm}{p c}{fv:Value}{hsF:List HA},(S4 I p s c)→(FV1 Tryz.prog I hsF fv f0)→RT 71 [vS p s c,fv] I hsF (gI hsF r):=by
 intro s f0 r N I p c fv hsF h h1;unfold yU at N;refine yJ Tryz.func71 fun B=>vU []<|xE<|yD 2 [] [5,6] rfl<|bE N fun y hy N=>zDM (hs1:=hsF) (rest:=[]) rfl rfl rfl rfl (by kernel_rfl) rfl (List.append_nil _).symm (fY s f0 _ hy h h1) ?_;rintro I0 hs2 v2 k2 le - ⟨v0,rfl,rfl,rfl⟩ -;refine uR (hs':=hsF) (List.append_nil _) ?_;refine yI [] [4] rfl<|zJ<|yX ?_;obtain rfl:=zC N;exact xC ⟨_,_,(.tmp rfl ResV.nil),(fun _ h=>h),⟨_,rfl,rfl,rfl⟩⟩
def kE (s:Str) (substr:Str):Option Bool:=match substr.l with | [c]=>some (decide (0 ≤ Lib.indexByte s.l c)) | _=>none
theorem zBc:∀ (s substr:Str) r,kE s substr=some r→∀ {I:Imm},RT 197 [vT s.l,vT substr.l] I [] (zS r):=by
 intro s substr r N I;unfold kE at N;split at N
 · rename_i c hc;cases N
   rw [hc];exact zIZ (fun w g=>(Tryz.strings_Contains_one ⟨⟨s.l⟩⟩ c w).mono fun e w' ⟨h1,h2⟩=>⟨h1,h2 ▸ RowKit.Below.refl _ _,Nat.le_of_eq (by rw [h2])⟩) fun k=>⟨_,rfl,rfl,rfl⟩
 cases N
def mQ (s:Str):Option (Bool):=do
 let t2←(do
   if ((s.l.length:Int) == 1) then
    let y←kE (⟨[65,66,67,68]⟩:Str) s
    pure (id y)
   else
    pure false
     : Option Bool)
 pure (id t2)
theorem oF:∀ s r,mQ s=some r→∀ {I:Imm} ,RT 150 [vT s.l] I [] (zS  r):=by
 intro s r N I;unfold mQ at N;refine yJ Tryz.func150 fun B=>?_;have H:=iS I;refine vU []<|zJ<|zZ ?_;refine wD N [] (fun t2=>[(2,.bool t2)]) (fun o0 ho0=>?_) ?_
 · have H:=iS I;refine zO<|yD 4 [] [6] rfl<|xQ [6] ho0 ?_ ?_
   · intro hc N;refine yD 5 [] [7] rfl<|bE N fun y hy N=>wZ (zBc (⟨[65,66,67,68]⟩:Str) s _ hy ) ?_;intro I01 le;have H:=H.trans le;exact yI [] [2] rfl<|yQ<|zR (ct N H)
   intro hc N;exact xY [] [(2,vF)]<|yQ<|zR (ct N H)
 intro t2 I0 le1 hMc;refine zJ<|yX ?_;obtain rfl:=zC hMc;exact xZ
def uO (n0:Int):Option (Bool):=do
 let y←xT n0 1 6
 pure (!y)
theorem eO:∀ n0 r,uO n0=some r→∀ {I:Imm} ,RT 151 [vI n0] I [] (zS  r):=by
 intro n0 r N I;unfold uO at N;refine yJ Tryz.func151 fun B=>vU []<|xE<|yD 1 [] [3] rfl<|bE N fun y hy N=>wZ (xN n0 1 6 _ hy ) fun I0 le=>xY [] [(2,.bool (!y))]<|zJ<|yX ?_;obtain rfl:=zC N;exact xZ
def rB (list:(List zF)) (t7:Int):Option (Out Unit (Bool)):=do
 if (decide (t7 < (list.length:Int))) then
  let x←idx list t7
  let t42←(do
    let y←mQ x.Name
    if (!y) then
     pure true
    else
     if (decide (t7 > 0)) then
      let x1←idx list (W (t7 - 1))
      if (!(Op.bytesLess x1.Name.l x.Name.l)) then
       pure true
      else
       let y1←xT (x.Dims.length:Int) 1 2
       if (!y1) then
        pure true
       else
        let y2←yU x.Dims uO
        pure (id y2)
     else
      let y3←xT (x.Dims.length:Int) 1 2
      if (!y3) then
       pure true
      else
       let y4←yU x.Dims uO
       pure (id y4)
      : Option Bool)
  if t42 then
   pure (.ret false)
  else
   rB list (W (t7 + 1))
 else
  pure (.done ())
 partial_fixpoint
theorem zBd (list:(List zF)):∀ (t7:Int) (o:Out Unit (Bool)),rB list t7=some o→∀ {B}{I0 I:Imm}{Q p c},I0.le I→(S4 I p list c)→NG Q→NO Q→(∀ (I':Imm) ,o=(.done ())→I0.le I'→T 47 B Q (.exit 0) I' [] [(0,vS p list c)])→(∀ r I' hs' m',o=(.ret r)→I0.le I'→RS Tryz.prog Tryz.f88 B (zS  r) I' hs' m'→T 47 B Q .ret I' hs' m')→J Tryz.prog 47 B (nav (bodyOf Tryz.f88) [1,0,1,0]) Q I [] [(0,vS p list c),(5,vS p list c),(6,vI (list.length:Int)),(7,vI t7)]:=by
 refine rB.partial_correctness list _ fun self ih t7 o N B I0 I Q p c H h hg ho hx hr=>yY hg ho<|yH [8] rfl<|yA<|yE N ?_ ?_
 · intro hc N;refine zT<|yA<|yL<|yB<|yD 1 [] [9] rfl<|bE N fun x hy N=>xS rfl rfl h hy ?_;intro ad ccs hat hrep;obtain ⟨p1,c1,rfl,h1⟩:=wT hrep;refine xL 0 hat (cArr x p1 c1) (vA (cArr x p1 c1)) rfl<|wU [vT ([]),z0] ?_;intro b hb;refine yD 5 [] [3] rfl<|xI 0 (cArr x p1 c1) rfl<|yC rfl<|zJ<|zZ ?_;refine wD N [] (fun t42=>[(0,vS p list c),(5,vS p list c),(6,vI (list.length:Int)),(7,vI t7),(42,.bool t42)]) (fun o0 ho0=>?_) ?_
   · have H:=iS I;obtain ⟨y,hy1,N⟩:=zB ho0;cases hc1:(!y) with
     | true =>
      have hM0:=rQ hc1 N;refine wS [.p (vP b 0) [],.p (vT x.Name.l) [0],.q (.bool y),.q vY,.q vY,.p undef [],.p undef [],.p undef [],.p undef [],.p undef [],.p undef [],.p undef [],.p undef [],.p undef [],.p undef [],.p undef [],.p undef [],.p undef [],.p vY [],.p vY [],.p undef [],.p undef [],.p undef [],.p undef [],.p undef [],.p vY [],.p vY [],.p undef [],.p undef [],.p undef [],.p vY []] [[],[(0,false)],[(1,false)],[(2,false)],[(3,false)],[(4,false)],[(4,false),(5,false)],[(4,false),(6,false)],[(7,false)],[(7,false)],[(7,false),(9,false)],[(7,false),(8,false),(10,false)],[(7,false),(11,false)],[(7,false),(12,false)],[(7,false)],[(7,false),(14,false)],[(7,false),(13,false),(15,false)],[(4,false),(7,false),(16,false)],[(4,false),(17,false)],[(18,false)],[(19,false)],[(19,false),(20,false)],[(19,false),(21,false)],[(19,false),(22,false)],[(19,false),(23,false)],[(19,false),(24,false)],[(25,false)],[(26,false)],[(26,false),(27,false)],[(26,false),(28,false)],[(26,false),(29,false)]] [hB b (cArr x p1 c1)] [] [(30,false)] (zY [0]) ?_ ?_
      · refine Op<|Op<|Oq ?_<|Oq ?_<|Oq ?_<|Op<|Op<|Op<|Op<|Op<|Op<|Op<|Op<|Op<|Op<|Op<|Op<|Op<|Op<|Op<|Op<|Op<|Op<|Op<|Op<|Op<|Op<|Op<|Op<|Op<|Op<|On
        · intro I1 hf le1;refine yS [13] rfl ?_;have H:=iS I1;refine wZ (oF x.Name _ hy1 ) ?_;intro I01 le;have H:=H.trans le;exact xF H
        · intro I1 hf le1;refine yS [14] rfl<|qQ 4 [(15,.bool (!y))] ?_;rw [hc1];exact xF iR
        intro I1 hf le1;exact fC [(15,vY)]<|qQ 5 [(16,vY)]<|xF iR
      intro I02 le1;refine yS [0,5,6,7,42] rfl ?_;have H:=H.trans le1;exact yC rfl<|xV zP<|yQ<|zR (ct hM0 H)
     | false =>
      have hM01:=sP hc1 N;cases hc2:(decide (t7 > 0)) with
      | true =>
       have hM02:=rQ hc2 hM01;obtain ⟨x1,hy2,N⟩:=zB hM02;cases hc3:(!(Op.bytesLess x1.Name.l x.Name.l)) with
       | true =>
        have hM03:=rQ hc3 N;refine wS [.p (vP b 0) [],.p (vT x.Name.l) [0],.q (.bool y),.q vF,.q vF,.p (vI t7) [],.q vY,.q vY,.p (vS p list c) [],.p (vI t7) [],.p (vI (W (t7 - 1))) [],.x (ePArr x1),.x (ePArr x1),.q (vT x1.Name.l),.p (vP b 0) [],.p (vT x.Name.l) [0],.q vY,.q vY,.q vY,.q vY,.p undef [],.p undef [],.p undef [],.p undef [],.p undef [],.p vY [],.p vY [],.p undef [],.p undef [],.p undef [],.p vY []] [[],[(0,false)],[(1,false)],[(2,false)],[(3,false)],[(4,false)],[(4,false),(5,false)],[(4,false),(6,false)],[(7,false)],[(7,false)],[(7,false),(9,false)],[(7,false),(8,false),(10,false)],[(7,false),(11,false)],[(7,false),(12,false)],[(7,false)],[(7,false),(14,false)],[(7,false),(13,false),(15,false)],[(4,false),(7,false),(16,false)],[(4,false),(17,false)],[(18,false)],[(19,false)],[(19,false),(20,false)],[(19,false),(21,false)],[(19,false),(22,false)],[(19,false),(23,false)],[(19,false),(24,false)],[(25,false)],[(26,false)],[(26,false),(27,false)],[(26,false),(28,false)],[(26,false),(29,false)]] [hB b (cArr x p1 c1)] [] [(30,false)] (zY [0]) ?_ ?_
        · refine Op<|Op<|Oq ?_<|Oq ?_<|Oq ?_<|Op<|Oq ?_<|Oq ?_<|Op<|Op<|Op<|Ox ?_<|Ox ?_<|Oq ?_<|Op<|Op<|Oq ?_<|Oq ?_<|Oq ?_<|Oq ?_<|Op<|Op<|Op<|Op<|Op<|Op<|Op<|Op<|Op<|Op<|Op<|On
          · intro I1 hf le1;refine yS [13] rfl ?_;have H:=iS I1;refine wZ (oF x.Name _ hy1 ) ?_;intro I01 le;have H:=H.trans le;exact xF H
          · intro I1 hf le1;refine yS [14] rfl<|qQ 4 [(15,.bool (!y))] ?_;rw [hc1];exact xF iR
          · intro I1 hf le1;exact fC [(15,vF)]<|qQ 5 [(16,vF)]<|xF iR
          · intro I1 hf le1;refine yS [16,17] rfl<|qQ 7 [(18,.bool (decide (t7 > 0)))] ?_;rw [hc2];exact xF iR
          · intro I1 hf le1;exact yS [16,18] rfl<|qQ 8 [(19,vY)]<|xF iR
          · intro I1 hf le1;refine yS [19,20,22] rfl ?_;have h:=h.mono le1;refine xS rfl rfl h hy2 ?_;intro ad1 ccs1 hat1 hrep1;obtain ⟨p2,c2,rfl,h3⟩:=wT hrep1;exact yN [] iR ⟨_,_,_,rfl,rfl,hat1,h3⟩
          · rintro I1 hf le1 _ _ ⟨rfl,rfl⟩ _ _ ⟨ad1,p2,c2,rfl,rfl,hat1,h3⟩;exact yS [19,23] rfl<|qQ 13 [(24,.pointer (some ad1))]<|yN [] iR ⟨_,_,_,rfl,rfl,hat1,h3⟩
          · rintro I1 hf le1 _ _ ⟨rfl,rfl⟩ _ _ ⟨ad11,p21,c21,rfl,rfl,hat11,h31⟩;exact yS [19,24] rfl<|xL 0 hat11 [vT x1.Name.l] (vT x1.Name.l) rfl<|xF iR
          · intro I1 hf le1;refine yS [19,25,27] rfl<|qQ 17 [(28,.bool (!(Op.bytesLess x1.Name.l x.Name.l)))] ?_;rw [hc3];exact xF iR
          · intro I1 hf le1;exact yS [16,19,28] rfl<|qQ 18 [(29,vY)]<|xF iR
          · intro I1 hf le1;exact yS [16,29] rfl<|qQ 19 [(30,vY)]<|xF iR
          intro I1 hf le1;exact fC [(30,vY)]<|qQ 20 [(31,vY)]<|xF iR
        intro I03 le2;refine yS [0,5,6,7,42] rfl ?_;have H:=H.trans le2;exact yC rfl<|xV zP<|yQ<|zR (ct hM03 H)
       | false =>
        have hM04:=sP hc3 N;obtain ⟨y1,hy3,N⟩:=zB hM04;cases hc4:(!y1) with
        | true =>
         have hM05:=rQ hc4 N;refine wS [.p (vP b 0) [],.p (vT x.Name.l) [0],.q (.bool y),.q vF,.q vF,.p (vI t7) [],.q vY,.q vY,.p (vS p list c) [],.p (vI t7) [],.p (vI (W (t7 - 1))) [],.x (ePArr x1),.x (ePArr x1),.q (vT x1.Name.l),.p (vP b 0) [],.p (vT x.Name.l) [0],.q vF,.q vF,.q vF,.q vF,.p (vP b 1) [],.p (vS p1 x.Dims c1) [0],.p (vI (x.Dims.length:Int)) [],.q (.bool y1),.q vY,.q vY,.q vY,.p undef [],.p undef [],.p undef [],.p vY []] [[],[(0,false)],[(1,false)],[(2,false)],[(3,false)],[(4,false)],[(4,false),(5,false)],[(4,false),(6,false)],[(7,false)],[(7,false)],[(7,false),(9,false)],[(7,false),(8,false),(10,false)],[(7,false),(11,false)],[(7,false),(12,false)],[(7,false)],[(7,false),(14,false)],[(7,false),(13,false),(15,false)],[(4,false),(7,false),(16,false)],[(4,false),(17,false)],[(18,false)],[(19,false)],[(19,false),(20,false)],[(19,false),(21,false)],[(19,false),(22,false)],[(19,false),(23,false)],[(19,false),(24,false)],[(25,false)],[(26,false)],[(26,false),(27,false)],[(26,false),(28,false)],[(26,false),(29,false)]] [hB b (cArr x p1 c1)] [] [(30,false)] (zY [0]) ?_ ?_
         · refine Op<|Op<|Oq ?_<|Oq ?_<|Oq ?_<|Op<|Oq ?_<|Oq ?_<|Op<|Op<|Op<|Ox ?_<|Ox ?_<|Oq ?_<|Op<|Op<|Oq ?_<|Oq ?_<|Oq ?_<|Oq ?_<|Op<|Op<|Op<|Oq ?_<|Oq ?_<|Oq ?_<|Oq ?_<|Op<|Op<|Op<|Op<|On
           · intro I1 hf le1;refine yS [13] rfl ?_;have H:=iS I1;refine wZ (oF x.Name _ hy1 ) ?_;intro I01 le;have H:=H.trans le;exact xF H
           · intro I1 hf le1;refine yS [14] rfl<|qQ 4 [(15,.bool (!y))] ?_;rw [hc1];exact xF iR
           · intro I1 hf le1;exact fC [(15,vF)]<|qQ 5 [(16,vF)]<|xF iR
           · intro I1 hf le1;refine yS [16,17] rfl<|qQ 7 [(18,.bool (decide (t7 > 0)))] ?_;rw [hc2];exact xF iR
           · intro I1 hf le1;exact yS [16,18] rfl<|qQ 8 [(19,vY)]<|xF iR
           · intro I1 hf le1;refine yS [19,20,22] rfl ?_;have h:=h.mono le1;refine xS rfl rfl h hy2 ?_;intro ad1 ccs1 hat1 hrep1;obtain ⟨p2,c2,rfl,h3⟩:=wT hrep1;exact yN [] iR ⟨_,_,_,rfl,rfl,hat1,h3⟩
           · rintro I1 hf le1 _ _ ⟨rfl,rfl⟩ _ _ ⟨ad1,p2,c2,rfl,rfl,hat1,h3⟩;exact yS [19,23] rfl<|qQ 13 [(24,.pointer (some ad1))]<|yN [] iR ⟨_,_,_,rfl,rfl,hat1,h3⟩
           · rintro I1 hf le1 _ _ ⟨rfl,rfl⟩ _ _ ⟨ad11,p21,c21,rfl,rfl,hat11,h31⟩;exact yS [19,24] rfl<|xL 0 hat11 [vT x1.Name.l] (vT x1.Name.l) rfl<|xF iR
           · intro I1 hf le1;refine yS [19,25,27] rfl<|qQ 17 [(28,.bool (!(Op.bytesLess x1.Name.l x.Name.l)))] ?_;rw [hc3];exact xF iR
           · intro I1 hf le1;exact yS [16,19,28] rfl<|qQ 18 [(29,vF)]<|xF iR
           · intro I1 hf le1;exact yS [16,29] rfl<|qQ 19 [(30,vF)]<|xF iR
           · intro I1 hf le1;exact fC [(30,vF)]<|qQ 20 [(31,vF)]<|xF iR
           · intro I1 hf le1;refine yS [31,34] rfl ?_;have H:=iS I1;refine wZ (xN (x.Dims.length:Int) 1 2 _ hy3 ) ?_;intro I04 le3;have H:=H.trans le3;exact xF H
           · intro I1 hf le1;refine yS [31,35] rfl<|qQ 25 [(36,.bool (!y1))] ?_;rw [hc4];exact xF iR
           · intro I1 hf le1;exact yS [31,36] rfl<|qQ 26 [(37,vY)]<|xF iR
           intro I1 hf le1;exact fC [(37,vY)]<|qQ 27 [(38,vY)]<|xF iR
         intro I05 le4;refine yS [0,5,6,7,42] rfl ?_;have H:=H.trans le4;exact yC rfl<|xV zP<|yQ<|zR (ct hM05 H)
        | false =>
         have hM06:=sP hc4 N;obtain ⟨y2,hy4,N⟩:=zB hM06;refine wS [.p (vP b 0) [],.p (vT x.Name.l) [0],.q (.bool y),.q vF,.q vF,.p (vI t7) [],.q vY,.q vY,.p (vS p list c) [],.p (vI t7) [],.p (vI (W (t7 - 1))) [],.x (ePArr x1),.x (ePArr x1),.q (vT x1.Name.l),.p (vP b 0) [],.p (vT x.Name.l) [0],.q vF,.q vF,.q vF,.q vF,.p (vP b 1) [],.p (vS p1 x.Dims c1) [0],.p (vI (x.Dims.length:Int)) [],.q (.bool y1),.q vF,.q vF,.q vF,.p (vP b 1) [],.p (vS p1 x.Dims c1) [0],.q (.bool y2),.p (.bool y2) []] [[],[(0,false)],[(1,false)],[(2,false)],[(3,false)],[(4,false)],[(4,false),(5,false)],[(4,false),(6,false)],[(7,false)],[(7,false)],[(7,false),(9,false)],[(7,false),(8,false),(10,false)],[(7,false),(11,false)],[(7,false),(12,false)],[(7,false)],[(7,false),(14,false)],[(7,false),(13,false),(15,false)],[(4,false),(7,false),(16,false)],[(4,false),(17,false)],[(18,false)],[(19,false)],[(19,false),(20,false)],[(19,false),(21,false)],[(19,false),(22,false)],[(19,false),(23,false)],[(19,false),(24,false)],[(25,false)],[(26,false)],[(26,false),(27,false)],[(26,false),(28,false)],[(26,false),(29,false)]] [hB b (cArr x p1 c1)] [] [(30,false)] (zY [0]) ?_ ?_
         · refine Op<|Op<|Oq ?_<|Oq ?_<|Oq ?_<|Op<|Oq ?_<|Oq ?_<|Op<|Op<|Op<|Ox ?_<|Ox ?_<|Oq ?_<|Op<|Op<|Oq ?_<|Oq ?_<|Oq ?_<|Oq ?_<|Op<|Op<|Op<|Oq ?_<|Oq ?_<|Oq ?_<|Oq ?_<|Op<|Op<|Oq ?_<|Op<|On
           · intro I1 hf le1;refine yS [13] rfl ?_;have H:=iS I1;refine wZ (oF x.Name _ hy1 ) ?_;intro I01 le;have H:=H.trans le;exact xF H
           · intro I1 hf le1;refine yS [14] rfl<|qQ 4 [(15,.bool (!y))] ?_;rw [hc1];exact xF iR
           · intro I1 hf le1;exact fC [(15,vF)]<|qQ 5 [(16,vF)]<|xF iR
           · intro I1 hf le1;refine yS [16,17] rfl<|qQ 7 [(18,.bool (decide (t7 > 0)))] ?_;rw [hc2];exact xF iR
           · intro I1 hf le1;exact yS [16,18] rfl<|qQ 8 [(19,vY)]<|xF iR
           · intro I1 hf le1;refine yS [19,20,22] rfl ?_;have h:=h.mono le1;refine xS rfl rfl h hy2 ?_;intro ad1 ccs1 hat1 hrep1;obtain ⟨p2,c2,rfl,h3⟩:=wT hrep1;exact yN [] iR ⟨_,_,_,rfl,rfl,hat1,h3⟩
           · rintro I1 hf le1 _ _ ⟨rfl,rfl⟩ _ _ ⟨ad1,p2,c2,rfl,rfl,hat1,h3⟩;exact yS [19,23] rfl<|qQ 13 [(24,.pointer (some ad1))]<|yN [] iR ⟨_,_,_,rfl,rfl,hat1,h3⟩
           · rintro I1 hf le1 _ _ ⟨rfl,rfl⟩ _ _ ⟨ad11,p21,c21,rfl,rfl,hat11,h31⟩;exact yS [19,24] rfl<|xL 0 hat11 [vT x1.Name.l] (vT x1.Name.l) rfl<|xF iR
           · intro I1 hf le1;refine yS [19,25,27] rfl<|qQ 17 [(28,.bool (!(Op.bytesLess x1.Name.l x.Name.l)))] ?_;rw [hc3];exact xF iR
           · intro I1 hf le1;exact yS [16,19,28] rfl<|qQ 18 [(29,vF)]<|xF iR
           · intro I1 hf le1;exact yS [16,29] rfl<|qQ 19 [(30,vF)]<|xF iR
           · intro I1 hf le1;exact fC [(30,vF)]<|qQ 20 [(31,vF)]<|xF iR
           · intro I1 hf le1;refine yS [31,34] rfl ?_;have H:=iS I1;refine wZ (xN (x.Dims.length:Int) 1 2 _ hy3 ) ?_;intro I04 le3;have H:=H.trans le3;exact xF H
           · intro I1 hf le1;refine yS [31,35] rfl<|qQ 25 [(36,.bool (!y1))] ?_;rw [hc4];exact xF iR
           · intro I1 hf le1;exact yS [31,36] rfl<|qQ 26 [(37,vF)]<|xF iR
           · intro I1 hf le1;exact fC [(37,vF)]<|qQ 27 [(38,vF)]<|xF iR
           intro I1 hf le1;refine yS [38,40] rfl ?_;have H:=iS I1;have ⟨h,h1⟩:=m2 le1 h h1;have hf0:FV1 Tryz.prog I1 [] (.func (.func 151) ⟨[]⟩ ⟨[]⟩) uO:=by
             refine FV1.intro ?_;intro I1 le1 x0 r u0 hF k0;obtain rfl:=k0;exact (eO x0 r hF ).mono (by rintro k i hs u ⟨v0,rfl,rfl,h⟩; exact ⟨rfl,h⟩)
           refine xP (wV x.Dims uO _ hy4 h1 hf0) ?_;rintro I06 hs2 v2 k2 le5 - ⟨v04,rfl,rfl,rfl⟩ -;have H:=H.trans le5;exact xF H
         intro I07 le6;refine yS [0,5,6,7,42] rfl ?_;have H:=H.trans le6;exact yC rfl<|xV zP<|yQ<|zR (ct N H)
      | false =>
       have hM07:=sP hc2 hM01;obtain ⟨y3,hy5,N⟩:=zB hM07;cases hc5:(!y3) with
       | true =>
        have hM08:=rQ hc5 N;refine wS [.p (vP b 0) [],.p (vT x.Name.l) [0],.q (.bool y),.q vF,.q vF,.p (vI t7) [],.q vF,.q vF,.p undef [],.p undef [],.p undef [],.p undef [],.p undef [],.p undef [],.p undef [],.p undef [],.p undef [],.p vF [],.p vF [],.p vF [],.p (vP b 1) [],.p (vS p1 x.Dims c1) [0],.p (vI (x.Dims.length:Int)) [],.q (.bool y3),.q vY,.q vY,.q vY,.p undef [],.p undef [],.p undef [],.p vY []] [[],[(0,false)],[(1,false)],[(2,false)],[(3,false)],[(4,false)],[(4,false),(5,false)],[(4,false),(6,false)],[(7,false)],[(7,false)],[(7,false),(9,false)],[(7,false),(8,false),(10,false)],[(7,false),(11,false)],[(7,false),(12,false)],[(7,false)],[(7,false),(14,false)],[(7,false),(13,false),(15,false)],[(4,false),(7,false),(16,false)],[(4,false),(17,false)],[(18,false)],[(19,false)],[(19,false),(20,false)],[(19,false),(21,false)],[(19,false),(22,false)],[(19,false),(23,false)],[(19,false),(24,false)],[(25,false)],[(26,false)],[(26,false),(27,false)],[(26,false),(28,false)],[(26,false),(29,false)]] [hB b (cArr x p1 c1)] [] [(30,false)] (zY [0]) ?_ ?_
        · refine Op<|Op<|Oq ?_<|Oq ?_<|Oq ?_<|Op<|Oq ?_<|Oq ?_<|Op<|Op<|Op<|Op<|Op<|Op<|Op<|Op<|Op<|Op<|Op<|Op<|Op<|Op<|Op<|Oq ?_<|Oq ?_<|Oq ?_<|Oq ?_<|Op<|Op<|Op<|Op<|On
          · intro I1 hf le1;refine yS [13] rfl ?_;have H:=iS I1;refine wZ (oF x.Name _ hy1 ) ?_;intro I01 le;have H:=H.trans le;exact xF H
          · intro I1 hf le1;refine yS [14] rfl<|qQ 4 [(15,.bool (!y))] ?_;rw [hc1];exact xF iR
          · intro I1 hf le1;exact fC [(15,vF)]<|qQ 5 [(16,vF)]<|xF iR
          · intro I1 hf le1;refine yS [16,17] rfl<|qQ 7 [(18,.bool (decide (t7 > 0)))] ?_;rw [hc2];exact xF iR
          · intro I1 hf le1;exact yS [16,18] rfl<|qQ 8 [(19,vF)]<|xF iR
          · intro I1 hf le1;refine yS [31,34] rfl ?_;have H:=iS I1;refine wZ (xN (x.Dims.length:Int) 1 2 _ hy5 ) ?_;intro I08 le7;have H:=H.trans le7;exact xF H
          · intro I1 hf le1;refine yS [31,35] rfl<|qQ 25 [(36,.bool (!y3))] ?_;rw [hc5];exact xF iR
          · intro I1 hf le1;exact yS [31,36] rfl<|qQ 26 [(37,vY)]<|xF iR
          intro I1 hf le1;exact fC [(37,vY)]<|qQ 27 [(38,vY)]<|xF iR
        intro I09 le8;refine yS [0,5,6,7,42] rfl ?_;have H:=H.trans le8;exact yC rfl<|xV zP<|yQ<|zR (ct hM08 H)
       | false =>
        have hM09:=sP hc5 N;obtain ⟨y4,hy6,N⟩:=zB hM09;refine wS [.p (vP b 0) [],.p (vT x.Name.l) [0],.q (.bool y),.q vF,.q vF,.p (vI t7) [],.q vF,.q vF,.p undef [],.p undef [],.p undef [],.p undef [],.p undef [],.p undef [],.p undef [],.p undef [],.p undef [],.p vF [],.p vF [],.p vF [],.p (vP b 1) [],.p (vS p1 x.Dims c1) [0],.p (vI (x.Dims.length:Int)) [],.q (.bool y3),.q vF,.q vF,.q vF,.p (vP b 1) [],.p (vS p1 x.Dims c1) [0],.q (.bool y4),.p (.bool y4) []] [[],[(0,false)],[(1,false)],[(2,false)],[(3,false)],[(4,false)],[(4,false),(5,false)],[(4,false),(6,false)],[(7,false)],[(7,false)],[(7,false),(9,false)],[(7,false),(8,false),(10,false)],[(7,false),(11,false)],[(7,false),(12,false)],[(7,false)],[(7,false),(14,false)],[(7,false),(13,false),(15,false)],[(4,false),(7,false),(16,false)],[(4,false),(17,false)],[(18,false)],[(19,false)],[(19,false),(20,false)],[(19,false),(21,false)],[(19,false),(22,false)],[(19,false),(23,false)],[(19,false),(24,false)],[(25,false)],[(26,false)],[(26,false),(27,false)],[(26,false),(28,false)],[(26,false),(29,false)]] [hB b (cArr x p1 c1)] [] [(30,false)] (zY [0]) ?_ ?_
        · refine Op<|Op<|Oq ?_<|Oq ?_<|Oq ?_<|Op<|Oq ?_<|Oq ?_<|Op<|Op<|Op<|Op<|Op<|Op<|Op<|Op<|Op<|Op<|Op<|Op<|Op<|Op<|Op<|Oq ?_<|Oq ?_<|Oq ?_<|Oq ?_<|Op<|Op<|Oq ?_<|Op<|On
          · intro I1 hf le1;refine yS [13] rfl ?_;have H:=iS I1;refine wZ (oF x.Name _ hy1 ) ?_;intro I01 le;have H:=H.trans le;exact xF H
          · intro I1 hf le1;refine yS [14] rfl<|qQ 4 [(15,.bool (!y))] ?_;rw [hc1];exact xF iR
          · intro I1 hf le1;exact fC [(15,vF)]<|qQ 5 [(16,vF)]<|xF iR
          · intro I1 hf le1;refine yS [16,17] rfl<|qQ 7 [(18,.bool (decide (t7 > 0)))] ?_;rw [hc2];exact xF iR
          · intro I1 hf le1;exact yS [16,18] rfl<|qQ 8 [(19,vF)]<|xF iR
          · intro I1 hf le1;refine yS [31,34] rfl ?_;have H:=iS I1;refine wZ (xN (x.Dims.length:Int) 1 2 _ hy5 ) ?_;intro I08 le7;have H:=H.trans le7;exact xF H
          · intro I1 hf le1;refine yS [31,35] rfl<|qQ 25 [(36,.bool (!y3))] ?_;rw [hc5];exact xF iR
          · intro I1 hf le1;exact yS [31,36] rfl<|qQ 26 [(37,vF)]<|xF iR
          · intro I1 hf le1;exact fC [(37,vF)]<|qQ 27 [(38,vF)]<|xF iR
          intro I1 hf le1;refine yS [38,40] rfl ?_;have H:=iS I1;have ⟨h,h1⟩:=m2 le1 h h1;have hf01:FV1 Tryz.prog I1 [] (.func (.func 151) ⟨[]⟩ ⟨[]⟩) uO:=by
            refine FV1.intro ?_;intro I1 le1 x0 r u0 hF k0;obtain rfl:=k0;exact (eO x0 r hF ).mono (by rintro k i hs u ⟨v0,rfl,rfl,h⟩; exact ⟨rfl,h⟩)
          refine xP (wV x.Dims uO _ hy6 h1 hf01) ?_;rintro I010 hs2 v2 k2 le9 - ⟨v06,rfl,rfl,rfl⟩ -;have H:=H.trans le9;exact xF H
        intro I011 le10;refine yS [0,5,6,7,42] rfl ?_;have H:=H.trans le10;exact yC rfl<|xV zP<|yQ<|zR (ct N H)
   intro t42 I0 le11 hMc;have ⟨h,H⟩:=m2 le11 h H;refine zJ<|yE hMc ?_ ?_
   · intro hc6 N;exact vU [(2,vF)]<|xB<|zU<|zI<|zI<|hr _ _ _ _ (zC N).symm H ⟨_,_,(.tmp rfl ResV.nil),zP,⟨_,rfl,rfl,rfl⟩⟩
   intro hc6 N;exact zT<|zQ<|zJ<|zO<|yI [] [7] rfl<|yZ<|mW<|ih (W (t7 + 1)) _ N H h hg ho hx hr
 intro hc N;exact uA<|yQ<|hx _  (zC N).symm H
def kK (list:(List zF)):Option (Bool):=do
 match←rB list 0 with
 | .ret r0=>pure r0
 | .done _ =>
  pure (decide ((list.length:Int) ≤ 4))
theorem zDf:∀ list r,kK list=some r→∀ {I:Imm}{p c},(S4 I p list c)→RT 88 [vS p list c] I [] (zS  r):=by
 intro list r N I p c h;unfold kK at N;refine yJ Tryz.func88 fun B=>vU []<|yA<|yH [5,6,7] rfl<|wK<|oM [(0,vS p list c),(5,vS p list c),(6,vI (list.length:Int)),(7,vI 0)] ?_;obtain ⟨o01,ho01,hMl⟩:=zB N;refine zBd list 0 o01 ho01 iR h (fun _ _ _ h=>h) (fun _ _ h=>h) ?_ ?_
 · intro I012  heq1 le12;subst o01;refine zV<|vV [2] rfl<|zJ<|yX ?_;obtain rfl:=zC hMl;exact xZ
 intro r0 I9 hs9 m9 heq9 le9 hrs9;subst heq9;refine zU<|zI ?_;obtain rfl:=zC hMl;exact xC hrs9
def sV (hsF:List HA) (r:Int):KT:=fun kk I' hs' v=>
  ∃ v0,hsF=hs'∧v=tupV [v0]∧v0=.int .i64 r
def yV (s:(List zA)) (f0:(zA→Option Bool)) (t8:Int):Option (Out Unit (Int)):=do
 if (decide (t8 < (s.length:Int))) then
  let x←idx s t8
  let y←f0 x
  if y then
   pure (.ret t8)
  else
   yV s f0 (W (t8 + 1))
 else
  pure (.done ())
 partial_fixpoint
theorem mE (s:(List zA)) (f0:(zA→Option Bool)):∀ (t8:Int) (o:Out Unit (Int)),yV s f0 t8=some o→∀ {B}{I0 I:Imm}{Q p c}{fv:Value}{hsF:List HA},I0.le I→(S4 I p s c)→(FV1 Tryz.prog I hsF fv f0)→NG Q→NO Q→(∀ (I':Imm) ,o=(.done ())→I0.le I'→T 19 B Q (.exit 0) I' hsF [])→(∀ r I' hs' m',o=(.ret r)→I0.le I'→RS Tryz.prog Tryz.f218 B (sV hsF r) I' hs' m'→T 19 B Q .ret I' hs' m')→J Tryz.prog 19 B (nav (bodyOf Tryz.f218) [1,0,1,0]) Q I hsF [(0,vS p s c),(1,fv),(7,vI (s.length:Int)),(8,vI t8)]:=by
 refine yV.partial_correctness s f0 _ fun self ih t8 o N B I0 I Q p c fv hsF H h h1 hg ho hx hr=>yY hg ho<|yH [9] rfl<|yA<|yE N ?_ ?_
 · intro hc N;refine zT<|yA<|yL<|yH [5] rfl<|xE<|yD 3 [] [11,12,13] rfl<|bE N fun x hy N=>xS rfl rfl h hy ?_;intro ad ccs hat hrep;obtain ⟨p1,c1,rfl,h2⟩:=yG hrep;refine xL 0 hat (cAff x p1 c1) (vA (cAff x p1 c1)) rfl<|bE N fun y hy1 N=>zGl rfl rfl h1 hy1 ⟨_,rfl,(yF ⟨_,rfl,h2⟩)⟩ (List.append_nil _).symm ?_;rintro I0 v01 le rfl;refine uR (hs':=hsF) (List.append_nil _) ?_;have ⟨h,h1,H⟩:=m3 le h h1 H;refine yC rfl<|zJ<|yE N ?_ ?_
   · intro hc1 N;exact yH [4] rfl<|xB<|zU<|zI<|zI<|hr _ _ _ _ (zC N).symm H ⟨_,_,(.tmp rfl ResV.nil),(fun _ h=>h),⟨_,rfl,rfl,rfl⟩⟩
   intro hc1 N;exact zT<|zQ<|zJ<|zO<|yI [] [8] rfl<|yZ<|mW<|ih (W (t8 + 1)) _ N H h h1 hg ho hx hr
 intro hc N;exact uA<|yQ<|hx _  (zC N).symm H
def wN (s:(List zA)) (f0:(zA→Option Bool)):Option (Int):=do
 match←yV s f0 0 with
 | .ret r0=>pure r0
 | .done _ =>
  pure (-1)
theorem mX:∀ s f0 r,wN s f0=some r→∀ {I:Imm}{p c}{fv:Value}{hsF:List HA},(S4 I p s c)→(FV1 Tryz.prog I hsF fv f0)→RT 218 [vS p s c,fv] I hsF (sV hsF r):=by
 intro s f0 r N I p c fv hsF h h1;unfold wN at N;refine yJ Tryz.func218 fun B=>vU []<|yA<|yH [7,8] rfl<|wK<|oM [(0,vS p s c),(1,fv),(7,vI (s.length:Int)),(8,vI 0)] ?_;obtain ⟨o0,ho0,hMl⟩:=zB N;refine mE s f0 0 o0 ho0 iR h h1 (fun _ _ _ h=>h) (fun _ _ h=>h) ?_ ?_
 · intro I01  heq le1;subst o0;refine zV<|vV [4] rfl<|zJ<|yX ?_;obtain rfl:=zC hMl;exact xC ⟨_,_,(.tmp rfl ResV.nil),(fun _ h=>h),⟨_,rfl,rfl,rfl⟩⟩
 intro r0 I9 hs9 m9 heq9 le9 hrs9;subst heq9;refine zU<|zI ?_;obtain rfl:=zC hMl;exact xC hrs9
def nI (hsF:List HA) (r:Bool):KT:=fun kk I' hs' v=>
  ∃ v0,hsF=hs'∧v=tupV [v0]∧v0=.bool r
def xG (s:(List zA)) (f0:(zA→Option Bool)):Option (Bool):=do
 let y←wN s f0
 pure (decide (y ≥ 0))
theorem sS:∀ s f0 r,xG s f0=some r→∀ {I:Imm}{p c}{fv:Value}{hsF:List HA},(S4 I p s c)→(FV1 Tryz.prog I hsF fv f0)→RT 180 [vS p s c,fv] I hsF (nI hsF r):=by
 intro s f0 r N I p c fv hsF h h1;unfold xG at N;refine yJ Tryz.func180 fun B=>vU []<|xE<|yD 2 [] [5,6] rfl<|bE N fun y hy N=>zDM (hs1:=hsF) (rest:=[]) rfl rfl rfl rfl (by kernel_rfl) rfl (List.append_nil _).symm (mX s f0 _ hy h h1) ?_;rintro I0 hs2 v2 k2 le - ⟨v0,rfl,rfl,rfl⟩ -;refine uR (hs':=hsF) (List.append_nil _) ?_;refine yI [] [4] rfl<|zJ<|yX ?_;obtain rfl:=zC N;exact xC ⟨_,_,(.tmp rfl ResV.nil),(fun _ h=>h),⟨_,rfl,rfl,rfl⟩⟩
def mR (n0:Int):Option (Bool):=do
 let y←xT n0 (-99) 99
 pure (id y)
theorem zAg:∀ n0 r,mR n0=some r→∀ {I:Imm} ,RT 73 [vI n0] I [] (zS  r):=by
 intro n0 r N I;unfold mR at N;refine yJ Tryz.func73 fun B=>vU []<|xE<|yD 1 [] [3] rfl<|bE N fun y hy N=>wZ (xN n0 (-99) 99 _ hy ) fun I0 le=>xY [] [(2,.bool y)]<|zJ<|yX ?_;obtain rfl:=zC N;exact xZ
def tN (c:Int):Option (Bool):=do
 let y←xT c (-9) 9
 pure (!y)
theorem zAn:∀ c r,tN c=some r→∀ {I:Imm} ,RT 110 [vI c] I [] (zS  r):=by
 intro c r N I;unfold tN at N;refine yJ Tryz.func110 fun B=>vU []<|xE<|yD 1 [] [3] rfl<|bE N fun y hy N=>wZ (xN c (-9) 9 _ hy ) fun I0 le=>xY [] [(2,.bool (!y))]<|zJ<|yX ?_;obtain rfl:=zC N;exact xZ
def rC (a0:zA):Option (Bool):=do
 let t2←(do
   if ((a0.Coefs.length:Int) == 4) then
    let y←mR a0.Const
    if y then
     let y1←yU a0.Coefs tN
     pure (!y1)
    else
     pure false
   else
    pure false
     : Option Bool)
 pure (id t2)
theorem oJ:∀ a0 r,rC a0=some r→∀ {I:Imm}{p c},(S4 I p a0.Coefs c)→RT 51 [vA (cAff a0 p c)] I [] (zS  r):=by
 intro a0 r N I p c h;unfold rC at N;refine yJ Tryz.func51 fun B=>?_;have H:=iS I;refine yB<|vM (cAff a0 p c) ?_;intro b hb;refine xY [] []<|zJ<|zZ ?_;refine wD N [] (fun t2=>[(2,.bool t2)]) (fun o0 ho0=>?_) ?_
 · have H:=iS I;refine zO<|yD 5 [0] [7] rfl<|xQ [7] ho0 ?_ ?_
   · intro hc N;refine yD 7 [0] [9] rfl<|bE N fun y hy N=>wZ (zAg a0.Const _ hy ) ?_;intro I01 le;have ⟨h,H⟩:=m2 le h H;refine yD 10 [] [12] rfl<|xQ [12] N ?_ ?_
     · intro hc1 N;refine yD 12 [0] [14] rfl ?_;have hf0:FV1 Tryz.prog I01 [] (.func (.func 110) ⟨[]⟩ ⟨[]⟩) tN:=by
         refine FV1.intro ?_;intro I1 le1 x0 r u0 hF k0;obtain rfl:=k0;exact (zAn x0 r hF ).mono (by rintro k i hs u ⟨v0,rfl,rfl,h⟩; exact ⟨rfl,h⟩)
       obtain ⟨y1,hy1,N⟩:=zB N;refine xP (wV a0.Coefs tN _ hy1 h hf0) ?_;rintro I02 hs2 v2 k2 le1 - ⟨v01,rfl,rfl,rfl⟩ -;have H:=H.trans le1;exact yI [] [2] rfl<|xV zP<|yQ<|zR (ct N H)
     intro hc1 N;exact xY [] [(2,vF)]<|xV zP<|yQ<|zR (ct N H)
   intro hc N;exact xY [] [(2,vF)]<|xV zP<|yQ<|zR (ct N H)
 intro t2 I0 le2 hMc;refine zJ<|yX ?_;obtain rfl:=zC hMc;exact xZ
def uT (a0:zA) (n0:Int):Option (Int):=do
 let t17←(do
   if (decide (n0 > 0)) then
    let x←idx a0.Coefs (W (n0 - 1))
    pure (x == 0)
   else
    pure false
     : Option Bool)
 if t17 then
  uT a0 (W (n0 - 1))
 else
  pure (id n0)
 partial_fixpoint
theorem zAP (a0:zA):∀ (n0:Int) (o:Int),uT a0 n0=some o→∀ {B}{I0 I:Imm}{Q p c}{b:Nat},I0.le I→(S4 I p a0.Coefs c)→NG Q→NO Q→(∀ (I':Imm) (n01:Int),o=n01→I0.le I'→T 21 B Q (.exit 0) I' [] [(3,vI n01)])→J Tryz.prog 21 B (nav (bodyOf Tryz.f182) [1,1,0,0]) Q I [hB b (cAff a0 p c)] [(1,vP b 0),(3,vI n0)]:=by
 refine uT.partial_correctness a0 _ fun self ih n0 o N B I0 I Q p c b H h hg ho hx=>yY hg ho<|zZ<|zZ ?_;refine wD N [hB b (cAff a0 p c)] (fun t17=>[(1,vP b 0),(3,vI n0),(17,.bool t17)]) (fun o0 ho0=>?_) ?_
 · have H:=iS I;refine zO<|yD 3 [] [9] rfl<|xQ [9] ho0 ?_ ?_
   · intro hc N;refine yD 7 [0] [11,13] rfl<|bE N fun x hy N=>xS rfl rfl h hy ?_;intro ad ccs hat hrep;obtain rfl:=hrep;exact xL 0 hat [vI x] (vI x) rfl<|yI [] [17] rfl<|yQ<|zR (ct N H)
   intro hc N;exact xY [] [(17,vF)]<|yQ<|zR (ct N H)
 intro t17 I0 le hMc;have ⟨h,H⟩:=m2 le h H;refine zJ<|yE hMc ?_ ?_
 · intro hc1 N;exact zT<|wK<|zO<|yI [] [3] rfl<|zQ<|yZ<|mW<|ih (W (n0 - 1)) _ N H h hg ho hx
 intro hc1 N;exact uA<|xV zP<|yQ<|hx _ _ (zC N).symm H
def sG (a0:zA):Option (Int):=do
 let n01←uT a0 (a0.Coefs.length:Int)
 pure (id n01)
theorem jA:∀ a0 r,sG a0=some r→∀ {I:Imm}{p c},(S4 I p a0.Coefs c)→RT 182 [vA (cAff a0 p c)] I [] (yP  r):=by
 intro a0 r N I p c h;unfold sG at N;refine yJ Tryz.func182 fun B=>yB<|vM (cAff a0 p c) ?_;intro b hb;refine xY [] []<|xE<|yI [0] [3] rfl<|yA<|yL<|oM [(1,vP b 0),(3,vI (a0.Coefs.length:Int))] ?_;obtain ⟨o01,ho01,hMl⟩:=zB N;refine zAP a0 (a0.Coefs.length:Int) o01 ho01 iR h (fun _ _ _ h=>h) (fun _ _ h=>h) ?_;intro I01 n01 heq1 le1;subst o01;refine zV<|vV [2] rfl<|zJ<|yX ?_;obtain rfl:=zC hMl;exact xZ
def sM (a0:zA) (x:Int):Option (Bool):=do
 let t3←(do
   let y←rC a0
   if (!y) then
    pure true
   else
    let y1←sG a0
    pure (decide (y1 > x))
     : Option Bool)
 pure (id t3)
theorem zCO:∀ a0 x r,sM a0 x=some r→∀ {I:Imm}{p c}{ad:Addr},(S4 I p a0.Coefs c)→(At I ad [vI x])→RT 234 [vA (cAff a0 p c),.pointer (some ad)] I [] (zS  r):=by
 intro a0 x r N I p c ad h hat;unfold sM at N;refine yJ Tryz.func234 fun B=>?_;have H:=iS I;refine yB<|vM (cAff a0 p c) ?_;intro b hb;refine xY [] []<|zJ<|zZ ?_;refine wD N [] (fun t3=>[(3,.bool t3)]) (fun o0 ho0=>?_) ?_
 · have H:=iS I;obtain ⟨y,hy,N⟩:=zB ho0;cases hc:(!y) with
   | true =>
    have hM0:=rQ hc N;refine wS [.p (vA (cAff a0 p c)) [0],.q (.bool y),.q vY,.q vY,.p undef [],.p undef [],.p undef [],.p undef [],.p vY []] [[],[(0,false)],[(1,false)],[(2,false)],[(3,false)],[(3,false),(4,false)],[(3,false)],[(3,false),(5,false),(6,false)],[(3,false),(7,false)]] [hB b (cAff a0 p c)] [] [(8,false)] (zY [0]) ?_ ?_
    · refine Op<|Oq ?_<|Oq ?_<|Oq ?_<|Op<|Op<|Op<|Op<|Op<|On
      · intro I1 hf le1;refine yS [4] rfl ?_;have H:=iS I1;have h:=h.mono le1;refine wZ (oJ a0 _ hy h) ?_;intro I01 le;have H:=H.trans le;exact xF H
      · intro I1 hf le1;refine yS [5] rfl<|qQ 3 [(6,.bool (!y))] ?_;rw [hc];exact xF iR
      intro I1 hf le1;exact fC [(6,vY)]<|qQ 4 [(7,vY)]<|xF iR
    intro I02 le1;refine fC [(12,vY)] ?_;have H:=H.trans le1;exact xY [] [(3,vY)]<|xV zP<|yQ<|zR (ct hM0 H)
   | false =>
    have hM01:=sP hc N;obtain ⟨y1,hy1,N⟩:=zB hM01;refine wS [.p (vA (cAff a0 p c)) [0],.q (.bool y),.q vF,.q vF,.p (vA (cAff a0 p c)) [0],.q (vI y1),.q (vI x),.p (.bool (decide (y1 > x))) [],.p (.bool (decide (y1 > x))) []] [[],[(0,false)],[(1,false)],[(2,false)],[(3,false)],[(3,false),(4,false)],[(3,false)],[(3,false),(5,false),(6,false)],[(3,false),(7,false)]] [hB b (cAff a0 p c)] [] [(8,false)] (zY [0]) ?_ ?_
    · refine Op<|Oq ?_<|Oq ?_<|Oq ?_<|Op<|Oq ?_<|Oq ?_<|Op<|Op<|On
      · intro I1 hf le1;refine yS [4] rfl ?_;have H:=iS I1;have h:=h.mono le1;refine wZ (oJ a0 _ hy h) ?_;intro I01 le;have H:=H.trans le;exact xF H
      · intro I1 hf le1;refine yS [5] rfl<|qQ 3 [(6,.bool (!y))] ?_;rw [hc];exact xF iR
      · intro I1 hf le1;exact fC [(6,vF)]<|qQ 4 [(7,vF)]<|xF iR
      · intro I1 hf le1;refine yS [7,8] rfl ?_;have H:=iS I1;have h:=h.mono le1;refine oH (jA a0 _ hy1 h) ?_;intro I03 le2;have H:=H.trans le2;exact xF H
      intro I1 hf le1;refine yS [1,7] rfl ?_;have hat:=hat.mono le1;exact xL 0 hat [vI x] (vI x) rfl<|xF iR
    intro I04 le3;refine yS [12] rfl ?_;have H:=H.trans le3;exact yI [] [3] rfl<|xV zP<|yQ<|zR (ct N H)
 intro t3 I0 le4 hMc;refine zJ<|yX ?_;obtain rfl:=zC hMc;exact xZ
def nM (list:(List zA)) (depth:Int):Option (Bool):=do
 let t4←(do
   let y←xT (list.length:Int) 1 2
   if y then
    let y1←xG list (fun x0=>sM x0 depth)
    pure (!y1)
   else
    pure false
     : Option Bool)
 pure (id t4)
theorem zAQ:∀ list depth r,nM list depth=some r→∀ {I:Imm}{p c},(S4 I p list c)→RT 198 [vS p list c,vI depth] I [] (zS  r):=by
 intro list depth r N I p c h;unfold nM at N;refine yJ Tryz.func198 fun B=>?_;have H:=iS I;refine yB<|vM [vI depth] ?_;intro b hb;refine xK 0 rfl ?_;intro I0 le hl0;have hat:At I0 ⟨b,0,none⟩ [vI depth]:=At.of_blk hl0;have ⟨h,H⟩:=m2 le h H;refine xY [] []<|zJ<|zZ ?_;refine wD N [] (fun t4=>[(4,.bool t4)]) (fun o0 ho0=>?_) ?_
 · have H:=iS I0;refine zO<|yD 2 [] [6] rfl ?_;obtain ⟨y,hy,N⟩:=zB ho0;refine wZ (xN (list.length:Int) 1 2 _ hy ) ?_;intro I02 le1;have ⟨h,hat,H⟩:=m3 le1 h hat H;refine yD 4 [] [8] rfl<|xQ [8] N ?_ ?_
   · intro hc N;refine yD 6 [] [9,10] rfl ?_;have hf0:FV1 Tryz.prog I02 [] (.func (.func 234) ⟨[]⟩ ⟨[vP b 0]⟩) (fun x0=>sM x0 depth):=by
       refine FV1.intro ?_;intro I1 le1 x0 r u0 hF k0;obtain ⟨_,rfl,k0⟩:=k0;obtain ⟨p1,c1,rfl,h2⟩:=yG k0;exact (zCO x0 depth r hF h2 (hat.mono le1)).mono (by rintro k i hs u ⟨v0,rfl,rfl,h⟩; exact ⟨rfl,h⟩)
     obtain ⟨y1,hy1,N⟩:=zB N;refine xP (sS list (fun x0=>sM x0 depth) _ hy1 h hf0) ?_;rintro I03 hs2 v2 k2 le2 - ⟨v02,rfl,rfl,rfl⟩ -;have H:=H.trans le2;exact yI [] [4] rfl<|yQ<|zR (ct N H)
   intro hc N;exact xY [] [(4,vF)]<|yQ<|zR (ct N H)
 intro t4 I01 le3 hMc;refine zJ<|yX ?_;obtain rfl:=zC hMc;exact xZ
def sH (nest:(List zE)) (t7:Int):Option (Out Unit (Bool)):=do
 if (decide (t7 < (nest.length:Int))) then
  let x←idx nest t7
  let t23←(do
    let y←nM x.Lo t7
    if (!y) then
     pure true
    else
     let y1←nM x.Hi t7
     pure (!y1)
      : Option Bool)
  if t23 then
   pure (.ret false)
  else
   sH nest (W (t7 + 1))
 else
  pure (.done ())
 partial_fixpoint
theorem zBL (nest:(List zE)):∀ (t7:Int) (o:Out Unit (Bool)),sH nest t7=some o→∀ {B}{I0 I:Imm}{Q p c},I0.le I→(S4 I p nest c)→NG Q→NO Q→(∀ (I':Imm) ,o=(.done ())→I0.le I'→T 28 B Q (.exit 0) I' [] [(0,vS p nest c)])→(∀ r I' hs' m',o=(.ret r)→I0.le I'→RS Tryz.prog Tryz.f152 B (zS  r) I' hs' m'→T 28 B Q .ret I' hs' m')→J Tryz.prog 28 B (nav (bodyOf Tryz.f152) [1,0,1,0]) Q I [] [(0,vS p nest c),(5,vS p nest c),(6,vI (nest.length:Int)),(7,vI t7)]:=by
 refine sH.partial_correctness nest _ fun self ih t7 o N B I0 I Q p c H h hg ho hx hr=>yY hg ho<|yH [8] rfl<|yA<|yE N ?_ ?_
 · intro hc N;refine zT<|yA<|yL<|yB<|yD 1 [] [9] rfl<|bE N fun x hy N=>xS rfl rfl h hy ?_;intro ad ccs hat hrep;obtain ⟨p1,c1,p2,c2,rfl,h1,h2⟩:=tG hrep;refine xL 0 hat (cLoop x p1 c1 p2 c2) (vA (cLoop x p1 c1 p2 c2)) rfl<|wU zTwo ?_;intro b hb;refine yD 5 [] [3] rfl<|xI 0 (cLoop x p1 c1 p2 c2) rfl<|yC rfl<|zJ<|zZ ?_;refine wD N [] (fun t23=>[(0,vS p nest c),(5,vS p nest c),(6,vI (nest.length:Int)),(7,vI t7),(23,.bool t23)]) (fun o0 ho0=>?_) ?_
   · have H:=iS I;refine zO<|yD 3 [0] [13,14] rfl ?_;obtain ⟨y,hy1,N⟩:=zB ho0;refine wZ (zAQ x.Lo t7 _ hy1 h1) ?_;intro I01 le;have ⟨h2,H⟩:=m2 le h2 H;refine yD 6 [] [17] rfl<|xQ [17] N ?_ ?_
     · intro hc1 N;exact xY [] [(23,vY)]<|xV zP<|yQ<|zR (ct N H)
     intro hc1 N;refine yD 9 [0] [19,20] rfl<|bE N fun y1 hy2 N=>wZ (zAQ x.Hi t7 _ hy2 h2) ?_;intro I02 le1;have H:=H.trans le1;exact yI [] [23] rfl<|xV zP<|yQ<|zR (ct N H)
   intro t23 I0 le2 hMc;have ⟨h,H⟩:=m2 le2 h H;refine zJ<|yE hMc ?_ ?_
   · intro hc2 N;exact vU [(2,vF)]<|xB<|zU<|zI<|zI<|hr _ _ _ _ (zC N).symm H ⟨_,_,(.tmp rfl ResV.nil),zP,⟨_,rfl,rfl,rfl⟩⟩
   intro hc2 N;exact zT<|zQ<|zJ<|zO<|yI [] [7] rfl<|yZ<|mW<|ih (W (t7 + 1)) _ N H h hg ho hx hr
 intro hc N;exact uA<|yQ<|hx _  (zC N).symm H
def oV (nest:(List zE)):Option (Bool):=do
 match←sH nest 0 with
 | .ret r0=>pure r0
 | .done _ =>
  pure (decide ((nest.length:Int) ≤ 4))
theorem dO:∀ nest r,oV nest=some r→∀ {I:Imm}{p c},(S4 I p nest c)→RT 152 [vS p nest c] I [] (zS  r):=by
 intro nest r N I p c h;unfold oV at N;refine yJ Tryz.func152 fun B=>vU []<|yA<|yH [5,6,7] rfl<|wK<|oM [(0,vS p nest c),(5,vS p nest c),(6,vI (nest.length:Int)),(7,vI 0)] ?_;obtain ⟨o01,ho01,hMl⟩:=zB N;refine zBL nest 0 o01 ho01 iR h (fun _ _ _ h=>h) (fun _ _ h=>h) ?_ ?_
 · intro I03  heq1 le3;subst o01;refine zV<|vV [2] rfl<|zJ<|yX ?_;obtain rfl:=zC hMl;exact xZ
 intro r0 I9 hs9 m9 heq9 le9 hrs9;subst heq9;refine zU<|zI ?_;obtain rfl:=zC hMl;exact xC hrs9
def eW (r:List Int):KT:=fun kk I' hs' v=>
  ∃ a0 c0 s0,hs'=[.osl (.slice a0 r.length c0) (Rp.sz Int) s0]∧v=tupV [(.slice a0 r.length c0)]∧RepL (Rp.rep I') (Rp.sz Int) s0 r
def sC (s:List Int):Option (List Int):=app 8 ([]:List Int) s
theorem mS:∀ s r,sC s=some r→∀ {I:Imm}{p c},SL I (vS p s c) s→RT 94 [vS p s c] I [] (eW r):=by
 intro s r N I p c h;unfold sC at N;obtain ⟨ccs,k0,k01⟩:=h;refine yJ Tryz.func94 fun B=>?_;cases p with
 | none =>
  have hs:s=[]:=by
    rcases k0 with ⟨hv,rfl⟩ | ⟨b0,off,len,cap,cc,hv,k2⟩
    · cases s with
      | nil=>rfl
      | cons _ _=>simp at hv
    simp at hv
  subst hs;obtain ⟨_,rfl⟩:=zAD N;refine yH [0,2] rfl<|yA<|yB<|yD 1 [] [3] rfl<|zLB true rfl rfl ?_ rfl;exact xY [] [(4,vY)]<|zJ<|zAv rfl<|vU [(2,z0)]<|xB<|zI<|xV (zAx (Rp.sz Int))<|xC ⟨_,_,(.tmp rfl ResV.nil),(zX [0] rfl (by decide)),⟨none,0,[],rfl,rfl,rfl⟩⟩
 | some ad =>
  refine yH [0,2] rfl<|yA<|yB<|yD 1 [] [3] rfl<|zLB false rfl rfl ?_ rfl;refine yI [] [0,4] rfl<|zJ<|fW rfl<|zT<|xE<|tJ [] Int ?_;intro b2 hb2;have h1:RL I [] ([]:List Int):=rfl;exact yD 2 [] [6] rfl<|pP 3 1 0 rfl rfl rfl h1 (.inl k0) k01 N fun p1 c1 cs h2=>yI [] [2] rfl<|xB<|xC ⟨_,_,(.tmp rfl ResV.nil),(zX [0] rfl (by decide)),⟨_,_,_,rfl,rfl,h2⟩⟩
def tE (a0:zA) (point:(List Int)) (sum:Int) (t12:Int):Option (Int):=do
 if (decide (t12 < (point.length:Int))) then
  let x←idx point t12
  let x1←idx a0.Coefs t12
  tE a0 point (W (sum + (W (x1 * x)))) (W (t12 + 1))
 else
  pure (id sum)
 partial_fixpoint
theorem zA5 (a0:zA) (point:(List Int)):∀ (sum:Int) (t12:Int) (o:Int),tE a0 point sum t12=some o→∀ {B}{I0 I:Imm}{Q p c p1 c1}{b:Nat},I0.le I→(S4 I p1 point c1)→(S4 I p a0.Coefs c)→NG Q→NO Q→(∀ (I':Imm) (sum1:Int),o=sum1→I0.le I'→T 28 B Q (.exit 0) I' [] [(5,vI sum1)])→J Tryz.prog 28 B (nav (bodyOf Tryz.f76) [1,1,0,1,0]) Q I [hB b (cAff a0 p c)] [(2,vP b 0),(5,vI sum),(10,vS p1 point c1),(11,vI (point.length:Int)),(12,vI t12)]:=by
 refine tE.partial_correctness a0 point _ fun self ih sum t12 o N B I0 I Q p c p1 c1 b H h1 h hg ho hx=>yY hg ho<|yH [13] rfl<|yA<|yE N ?_ ?_
 · intro hc N;refine zT<|yA<|yL<|yB<|yD 1 [] [14] rfl<|bE N fun x hy N=>xS rfl rfl h1 hy ?_;intro ad ccs hat hrep;obtain rfl:=hrep;refine xL 0 hat [vI x] (vI x) rfl<|yI [] [6,7] rfl<|zJ<|zO<|yD 4 [0] [17,19,20] rfl<|bE N fun x1 hy1 N=>xS rfl rfl h hy1 ?_;intro ad1 ccs1 hat1 hrep1;obtain rfl:=hrep1;exact xL 0 hat1 [vI x1] (vI x1) rfl<|yI [] [5] rfl<|zQ<|zJ<|zO<|yI [] [12] rfl<|yZ<|mW<|ih (W (sum + (W (x1 * x)))) (W (t12 + 1)) _ N H h1 h hg ho hx
 intro hc N;exact uA<|xV zP<|yQ<|hx _ _ (zC N).symm H
def wX (a0:zA) (point:(List Int)):Option (Int):=do
 let sum1←tE a0 point a0.Const 0
 pure (id sum1)
theorem sI:∀ a0 point r,wX a0 point=some r→∀ {I:Imm}{p c p1 c1},(S4 I p a0.Coefs c)→(S4 I p1 point c1)→RT 76 [vA (cAff a0 p c),vS p1 point c1] I [] (yP  r):=by
 intro a0 point r N I p c p1 c1 h h1;unfold wX at N;refine yJ Tryz.func76 fun B=>yB<|vM (cAff a0 p c) ?_;intro b hb;refine xY [] []<|xE<|yI [0] [5] rfl<|yA<|yH [10,11,12] rfl<|wK<|oM [(2,vP b 0),(5,vI a0.Const),(10,vS p1 point c1),(11,vI (point.length:Int)),(12,vI 0)] ?_;obtain ⟨o0,ho0,hMl⟩:=zB N;refine zA5 a0 point a0.Const 0 o0 ho0 iR h1 h (fun _ _ _ h=>h) (fun _ _ h=>h) ?_;intro I0 sum1 heq le;subst o0;refine zV<|vV [4] rfl<|zJ<|yX ?_;obtain rfl:=zC hMl;exact xZ
def sJ (l:zE) (point:(List Int)) (lo:Int) (t27:Int):Option (Int):=do
 if (decide (t27 < (l.Lo.length:Int))) then
  let x2←idx l.Lo t27
  let y2←wX x2 point
  sJ l point (if y2 > lo then y2 else lo) (W (t27 + 1))
 else
  pure (id lo)
 partial_fixpoint
theorem zBM (l:zE) (point:(List Int)):∀ (lo:Int) (t27:Int) (o:Int),sJ l point lo t27=some o→∀ {B}{I0 I:Imm}{Q}{y1:Int}{p c p1 c1 p2 c2}{b:Nat},I0.le I→(S4 I p2 point c2)→(S4 I p l.Lo c)→(S4 I p1 l.Hi c1)→NG Q→NO Q→(∀ (I':Imm) (lo1:Int),o=lo1→I0.le I'→T 52 B Q (.exit 0) I' [hB b (cLoop l p c p1 c1)] [(1,vS p2 point c2),(2,vP b 0),(6,vI lo1),(7,vI y1)])→J Tryz.prog 52 B (nav (bodyOf Tryz.f175) [1,1,0,1,0]) Q I [hB b (cLoop l p c p1 c1)] [(1,vS p2 point c2),(2,vP b 0),(6,vI lo),(7,vI y1),(25,vS p l.Lo c),(26,vI (l.Lo.length:Int)),(27,vI t27)]:=by
 refine sJ.partial_correctness l point _ fun self ih lo t27 o N B I0 I Q y1 p c p1 c1 p2 c2 b H h2 h h1 hg ho hx=>yY hg ho<|yH [28] rfl<|yA<|yE N ?_ ?_
 · intro hc N;refine zT<|yA<|yL<|yB<|bE N fun x2 hy4 N=>xS rfl rfl h hy4 ?_;intro ad2 ccs2 hat2 hrep2;obtain ⟨p5,c5,rfl,h7⟩:=yG hrep2;refine xL 0 hat2 (cAff x2 p5 c5) (vA (cAff x2 p5 c5)) rfl<|wU [z0,vI 0] ?_;intro b1 hb1;refine xI 0 (cAff x2 p5 c5) rfl<|yC rfl<|zJ<|zO<|sU 3 [0] [(31,vI lo),(32,vA (cAff x2 p5 c5)),(33,vS p2 point c2)]<|bE N fun y2 hy5 N=>oH (sI x2 point _ hy5 h7 h2) ?_;intro I03 le3;have ⟨h2,h,h1,H⟩:=m4 le3 h2 h h1 H;exact yI [] [6] rfl<|zQ<|zJ<|zO<|yI [] [27] rfl<|yZ<|kP (zX [1] rfl (by decide))<|mW<|ih (if y2 > lo then y2 else lo) (W (t27 + 1)) _ N H h2 h h1 hg ho hx
 intro hc N;exact uA<|yQ<|hx _ _ (zC N).symm H
def sK (l:zE) (point:(List Int)) (hi:Int) (t40:Int):Option (Int):=do
 if (decide (t40 < (l.Hi.length:Int))) then
  let x3←idx l.Hi t40
  let y3←wX x3 point
  sK l point (if y3 < hi then y3 else hi) (W (t40 + 1))
 else
  pure (id hi)
 partial_fixpoint
theorem zBN (l:zE) (point:(List Int)):∀ (hi:Int) (t40:Int) (o:Int),sK l point hi t40=some o→∀ {B}{I0 I:Imm}{Q}{lo1:Int}{p1 c1 p2 c2},I0.le I→(S4 I p2 point c2)→(S4 I p1 l.Hi c1)→NG Q→NO Q→(∀ (I':Imm) (hi1:Int),o=hi1→I0.le I'→T 52 B Q (.exit 2) I' [] [(6,vI lo1),(7,vI hi1)])→J Tryz.prog 52 B (nav (bodyOf Tryz.f175) [1,1,1,0,1,0]) Q I [] [(1,vS p2 point c2),(6,vI lo1),(7,vI hi),(38,vS p1 l.Hi c1),(39,vI (l.Hi.length:Int)),(40,vI t40)]:=by
 refine sK.partial_correctness l point _ fun self ih hi t40 o N B I0 I Q lo1 p1 c1 p2 c2 H h2 h1 hg ho hx=>yY hg ho<|yH [41] rfl<|yA<|yE N ?_ ?_
 · intro hc1 N;refine zT<|yA<|yL<|yB<|bE N fun x3 hy6 N=>xS rfl rfl h1 hy6 ?_;intro ad3 ccs3 hat3 hrep3;obtain ⟨p6,c6,rfl,h9⟩:=yG hrep3;refine xL 0 hat3 (cAff x3 p6 c6) (vA (cAff x3 p6 c6)) rfl<|wU [z0,vI 0] ?_;intro b2 hb2;refine xI 0 (cAff x3 p6 c6) rfl<|yC rfl<|zJ<|zO<|sU 3 [0] [(44,vI hi),(45,vA (cAff x3 p6 c6)),(46,vS p2 point c2)]<|bE N fun y3 hy7 N=>oH (sI x3 point _ hy7 h9 h2) ?_;intro I05 le5;have ⟨h2,h1,H⟩:=m3 le5 h2 h1 H;exact yI [] [7] rfl<|zQ<|zJ<|zO<|yI [] [40] rfl<|yZ<|kP zP<|mW<|ih (if y3 < hi then y3 else hi) (W (t40 + 1)) _ N H h2 h1 hg ho hx
 intro hc1 N;exact uA<|yQ<|hx _ _ (zC N).symm H
def oW (l:zE) (point:(List Int)):Option (Int×Int):=do
 let x←idx l.Lo 0
 let y←wX x point
 let x1←idx l.Hi 0
 let y1←wX x1 point
 let lo1←sJ l point y 0
 let hi1←sK l point y1 0
 pure (lo1,hi1)
theorem dP:∀ l point r,oW l point=some r→∀ {I:Imm}{p c p1 c1 p2 c2},(S4 I p l.Lo c)→(S4 I p1 l.Hi c1)→(S4 I p2 point c2)→RT 175 [vA (cLoop l p c p1 c1),vS p2 point c2] I [] (gE  r):=by
 intro l point r N I p c p1 c1 p2 c2 h h1 h2;unfold oW at N;refine yJ Tryz.func175 fun B=>?_;have H:=iS I;refine yB<|vM (cLoop l p c p1 c1) ?_;intro b hb;refine xY [] []<|zJ<|zZ ?_;obtain ⟨x,hy,N⟩:=zB N;obtain ⟨y,hy1,N⟩:=zB N;obtain ⟨x1,hy2,N⟩:=zB N;obtain ⟨y1,hy3,N⟩:=zB N;refine wS [.p (vP b 0) [],.p (vS p l.Lo c) [0],.x (ePAff x),.x (eVAff x),.p (vS p2 point c2) [],.q (vI y),.p (vP b 1) [],.p (vS p1 l.Hi c1) [0],.x (ePAff x1),.x (eVAff x1),.p (vS p2 point c2) [],.q (vI y1),.p (vI y) []] [[],[(0,false)],[(1,false)],[(2,false)],[],[(3,false),(4,false)],[],[(6,false)],[(7,false)],[(8,false)],[],[(9,false),(10,false)],[(5,false)]] [hB b (cLoop l p c p1 c1)] [] [(11,false),(12,false)] (zY [0]) ?_ ?_
 · refine Op<|Op<|Ox ?_<|Ox ?_<|Op<|Oq ?_<|Op<|Op<|Ox ?_<|Ox ?_<|Op<|Oq ?_<|Op<|On
   · intro I1 hf le1;refine yS [13] rfl ?_;have h:=h.mono le1;refine xS rfl rfl h hy ?_;intro ad ccs hat hrep;obtain ⟨p3,c3,rfl,h3⟩:=yG hrep;exact yN [] iR ⟨_,_,_,rfl,rfl,hat,h3⟩
   · rintro I1 hf le1 _ _ ⟨ad,p3,c3,rfl,rfl,hat,h3⟩;exact yS [14] rfl<|xL 0 hat (cAff x p3 c3) (vA (cAff x p3 c3)) rfl<|yN [] iR ⟨_,_,rfl,rfl,h3⟩
   · rintro I1 hf le1 _ _ ⟨p31,c31,rfl,rfl,h31⟩;refine yS [15,16] rfl ?_;have H:=iS I1;have h2:=h2.mono le1;refine oH (sI x point _ hy1 h31 h2) ?_;intro I0 le;have H:=H.trans le;exact xF H
   · intro I1 hf le1;refine yS [19] rfl ?_;have h1:=h1.mono le1;refine xS rfl rfl h1 hy2 ?_;intro ad1 ccs1 hat1 hrep1;obtain ⟨p4,c4,rfl,h5⟩:=yG hrep1;exact yN [] iR ⟨_,_,_,rfl,rfl,hat1,h5⟩
   · rintro I1 hf le1 _ _ ⟨ad1,p4,c4,rfl,rfl,hat1,h5⟩;exact yS [20] rfl<|xL 0 hat1 (cAff x1 p4 c4) (vA (cAff x1 p4 c4)) rfl<|yN [] iR ⟨_,_,rfl,rfl,h5⟩
   rintro I1 hf le1 _ _ ⟨p41,c41,rfl,rfl,h51⟩;refine yS [21,22] rfl ?_;have H:=iS I1;have h2:=h2.mono le1;refine oH (sI x1 point _ hy3 h51 h2) ?_;intro I01 le1;have H:=H.trans le1;exact xF H
 intro I02 le2;refine yS [1,2,6,23] rfl ?_;have ⟨h2,h,h1⟩:=m3 le2 h2 h h1;refine yI [] [7] rfl<|yA<|yB<|yI [0] [25,26,27] rfl<|wK<|oM [(1,vS p2 point c2),(2,vP b 0),(6,vI y),(7,vI y1),(25,vS p l.Lo c),(26,vI (l.Lo.length:Int)),(27,vI 0)] ?_;obtain ⟨o0,ho0,hMl⟩:=zB N;refine zBM l point y 0 o0 ho0 iR h2 h h1 (fun _ _ _ h=>h) (fun _ _ h=>h) ?_;intro I04 lo1 heq le4;subst o0;have ⟨h2,h,h1⟩:=m3 le4 h2 h h1;refine zV<|yA<|yB<|yI [0] [38,39,40] rfl<|wK<|kP (zY [] (hs':=[]))<|oM [(1,vS p2 point c2),(6,vI lo1),(7,vI y1),(38,vS p1 l.Hi c1),(39,vI (l.Hi.length:Int)),(40,vI 0)] ?_;obtain ⟨o01,ho01,hMl1⟩:=zB hMl;refine zBN l point y1 0 o01 ho01 iR h2 h1 (fun _ _ _ h=>h) (fun _ _ h=>h) ?_;intro I06 hi1 heq1 le6;subst o01;refine zV<|vV [4,5] rfl<|zJ<|yX ?_;obtain rfl:=zC hMl1;exact xC ⟨_,_,(.tmp rfl (.tmp rfl ResV.nil)),zP,⟨_,_,rfl,rfl,rfl,rfl⟩⟩
def kF (b0:Nat) (r:Bool×tI):KT:=fun kk I' hs' v=>
  ∃ v0 x0_0 y0_0 x0_2 y0_2 z0_2,hs'=[.blk b0 ⟨[.slice x0_0 r.2.nest.length y0_0,.int .i64 r.2.steps,.slice x0_2 r.2.out.length y0_2]⟩,.osl (.slice x0_2 r.2.out.length y0_2) (Rp.sz (List Int)) z0_2]∧v=tupV [v0]∧v0=.bool r.1∧SL I' (.slice x0_0 r.2.nest.length y0_0) r.2.nest∧RepL (Rp.rep I') (Rp.sz (List Int)) z0_2 r.2.out
mutual
def tA (w0:tI) (point:(List Int)):Option (Bool×tI):=do
 if ((point.length:Int) == (w0.nest.length:Int)) then
  let y←sC point
  let l←app 24 w0.out ([y]:List (List Int))
  pure ((decide ((l.length:Int) ≤ 120)),(tI.mk w0.nest w0.steps l))
 else
  let x←idx w0.nest (point.length:Int)
  let (y2,y3)←oW x point
  match←sD (same point) (same y3) (same y2) w0.nest w0.steps w0.out with
  | .ret r0=>pure r0
  | .done (nest1,steps1,out1) =>
   pure (true,(tI.mk nest1 steps1 out1))
 partial_fixpoint
def sD (point:(List Int)) (y3:Int) (n0:Int) (nest:List zE) (steps:Int) (out:List (List Int)):Option (Out (List zE×Int×List (List Int)) (Bool×tI)):=do
 if (decide (n0 < y3)) then
  let (t74,nest2,steps2,out2)←(do
    if (decide ((W ((W (steps + 1)) + 1)) > 1200)) then
     pure (true,nest,(W (steps + 1)),out)
    else
     let y4←sC point
     let l1←app 8 y4 ([n0]:List Int)
     let (y6,y7)←tA (tI.mk nest (W (steps + 1)) out) (same l1)
     pure ((!y6),y7.nest,y7.steps,y7.out)
      : Option (Bool×List zE×Int×List (List Int)))
  if t74 then
   pure (.ret (false,(tI.mk nest2 steps2 out2)))
  else
   sD (same point) (same y3) (W (n0 + 1)) (same nest2) (same steps2) (same out2)
 else
  pure (.done (nest,steps,out))
 partial_fixpoint
end
theorem zAo:(∀ (w0:tI) (point:(List Int)) r,tA w0 point=some r→∀ {I:Imm}{r0:Nat}{p c p1 c1 cs p2 c2},(S4 I p w0.nest c)→(RL I cs w0.out)→(S4 I p2 point c2)→RT 153 [vP r0 0,vS p2 point c2] I [hB r0 [vS p w0.nest c,vI w0.steps,vS p1 w0.out c1],hO (List Int) (vS p1 w0.out c1) cs] (kF r0 r))∧(∀ (point:(List Int)) (y3:Int) (n0:Int) (nest:List zE) (steps:Int) (out:List (List Int)) o,sD point y3 n0 nest steps out=some o→∀ {B}{I0 I:Imm}{Q}  {r0:Nat}{p2 c2 p7 c7 p8 c8 cs3},I0.le I→(S4 I p2 point c2)→(S4 I p7 nest c7)→(RL I cs3 out)→NG Q→NO Q→(∀ (I':Imm) (nest1:List zE) (steps1:Int) (out1:List (List Int)) (p9:Option Addr) (c9:Nat) (p10:Option Addr) (c10:Nat) (cs4:List Value),o=(.done (nest1,steps1,out1))→I0.le I'→(S4 I' p9 nest1 c9)→(RL I' cs4 out1)→T 75 B Q (.exit 0) I' [hB r0 [vS p9 nest1 c9,vI steps1,vS p10 out1 c10],hO (List Int) (vS p10 out1 c10) cs4] [])→(∀ r I' hs' m',o=(.ret r)→I0.le I'→RS Tryz.prog Tryz.f153 B (kF r0 r) I' hs' m'→T 75 B Q .ret I' hs' m')→J Tryz.prog 75 B (nav (bodyOf Tryz.f153) [1,1,1,0,1,0]) Q I [hB r0 [vS p7 nest c7,vI steps,vS p8 out c8],hO (List Int) (vS p8 out c8) cs3] [(0,vP r0 0),(1,vS p2 point c2),(6,vI y3),(7,vI n0)]):=by
  refine tA.mutual_partial_correctness _ _ ?_ ?_
  · intro F_impl_walking_walk_l1 ih_impl_walking_walk_l1 w0 point r N I r0 p c p1 c1 cs p2 c2 h h1 h2;refine yJ Tryz.func153 fun B=>?_;have H:=iS I;refine vU []<|yA<|yB<|yI [0] [15] rfl<|zJ<|yE N ?_ ?_
    · intro hc N;refine zZ ?_;obtain ⟨y,hy,N⟩:=zB N;obtain ⟨l,hy1,N⟩:=zB N;refine wS [.p (vP r0 0) [],.p (vP r0 0) [],.p (vP r0 0) [],.p (vP r0 2) [],.p (vS p1 w0.out c1) [0],.p (vS p2 point c2) [],.x (fun I' v hx=>∃ p3 c3 cs1,v=vS p3 y c3∧hx=[hO Int (vS p3 y c3) cs1]∧(RL I' cs1 y)),.x (fun I' v hx=>∃ b,v=vS (some ⟨b,0,none⟩) ([y]:List (List Int)) 1∧hx=[]∧(SL I' (vS (some ⟨b,0,none⟩) ([y]:List (List Int)) 1) ([y]:List (List Int)))),.x (fun I' v hx=>∃ p4 c4 cs2,v=vS p4 l c4∧hx=[hO (List Int) (vS p4 l c4) cs2]∧(RL I' cs2 l))] [[],[],[(1,false)],[(2,false)],[(3,false)],[],[(5,false)],[(6,true)],[(4,false),(7,false),(12,true)]] [hB r0 [vS p w0.nest c,vI w0.steps,vS p1 w0.out c1]] [[hO (List Int) (vS p1 w0.out c1) cs]] [(0,false),(8,true)] (zY [0,1]) ?_ ?_
      · refine Op<|Op<|Op<|Op<|Op<|Op<|Ox ?_<|Ox ?_<|Ox ?_<|On
        · intro I1 hf le1;refine yS [21] rfl ?_;have H:=iS I1;have h2:=h2.mono le1;refine xP (mS point _ hy h2) ?_;rintro I0 hs2 v2 k2 le - ⟨p3,c3,cs1,rfl,rfl,h3⟩ -;have H:=H.trans le;exact yN [hO Int (vS p3 y c3) cs1] H ⟨_,_,_,rfl,rfl,h3⟩
        · rintro I1 hf le1 _ _ ⟨p3,c3,cs1,rfl,rfl,h3⟩;refine yS [22] rfl ?_;have H:=iS I1;refine xK 0 rfl ?_;intro I01 le1 hl0;have h4:=SL.of_frozen hl0 le1 h3;have H:=H.trans le1;refine pW (rc y ⟨_,rfl,h4⟩ rN) ?_;intro b I02 le2 h6;have H:=H.trans le2;exact yN [] H ⟨_,rfl,rfl,h6⟩
        rintro I1 hf le1 _ _ ⟨rfl,rfl⟩ _ _ ⟨b,rfl,rfl,h6⟩ _ _ rfl;refine yS [20,23] rfl ?_;have h1:=iM le1 h1;obtain ⟨ccs,k0,k01⟩:=h6;have h6:SL I1 (vS (some ⟨b,0,none⟩) ([y]:List (List Int)) 1) ([y]:List (List Int)):=⟨_,k0,k01⟩;exact pP 29 1 0 rfl rfl rfl h1 (.inl k0) k01 hy1 fun p4 c4 cs2 h7=>uR (hs':=(hO (List Int) (vS p4 l c4) cs2::hB r0 [vS p w0.nest c,vI w0.steps,vS p1 w0.out c1]::hf)) rfl<|yN [hO (List Int) (vS p4 l c4) cs2] iR ⟨_,_,_,rfl,rfl,h7⟩
      rintro I03 le3 _ _ ⟨rfl,rfl⟩ _ _ ⟨p4,c4,cs2,rfl,rfl,h7⟩;refine yS [0,16,24] rfl ?_;have h:=h.mono le3;refine yD 11 [] [26] rfl<|xI 1 [vS p w0.nest c,vI w0.steps,vS p4 l c4] rfl<|yC rfl<|xE<|yI [1] [4] rfl<|xB<|zI ?_;obtain rfl:=zC N;exact xC ⟨_,_,(.tmp rfl ResV.nil),(zX [1,0] rfl (by decide)),⟨_,_,_,_,_,_,rfl,rfl,rfl,h,h7⟩⟩
    intro hc N;refine zT<|xE<|yD 6 [0] [37,39] rfl<|bE N fun x hy2 N=>xS rfl rfl h hy2 ?_;intro ad ccs1 hat hrep;obtain ⟨p5,c5,p6,c6,rfl,h8,h9⟩:=tG hrep;refine xL 0 hat (cLoop x p5 c5 p6 c6) (vA (cLoop x p5 c5 p6 c6)) rfl<|yD 9 [] [42] rfl ?_;obtain ⟨⟨y2,y3⟩,hy3,N⟩:=zB N;refine xP (dP x point _ hy3 h8 h9 h2) ?_;rintro I04 hs2 v2 k2 le4 - ⟨v02,v03,rfl,rfl,rfl,rfl⟩ -;have ⟨h2,h,h1⟩:=m3 le4 h2 h h1;refine yI [] [5,6] rfl<|yA<|yH [7] rfl<|wK<|oM [(0,vP r0 0),(1,vS p2 point c2),(6,vI y3),(7,vI y2)] ?_;obtain ⟨o01,ho01,hMl⟩:=zB N;refine ih_impl_walking_walk_l1 point y3 y2 w0.nest w0.steps w0.out o01 ho01 iR h2 h h1 (fun _ _ _ h=>h) (fun _ _ h=>h) ?_ ?_
    · intro I09 nest1 steps1 out1 p9 c9 p10 c10 cs4 heq1 le9 h14 h15;subst o01;refine zV<|zIX [(4,vY)]<|zJ<|yX ?_;obtain rfl:=zC hMl;exact xC ⟨_,_,(.tmp rfl ResV.nil),(zX [0,1] rfl (by decide)),⟨_,_,_,_,_,_,rfl,rfl,rfl,h14,h15⟩⟩
    intro r0 I9 hs9 m9 heq9 le9 hrs9;subst heq9;refine zU<|zI ?_;obtain rfl:=zC hMl;exact xC hrs9
  intro F_impl_walking_walk F_impl_walking_walk_l1 ih_impl_walking_walk ih_impl_walking_walk_l1 point y3 n0 nest steps out o N B I0 I Q r0 p2 c2 p7 c7 p8 c8 cs3 H h2 h12 h13 hg ho hx hr;refine yY hg ho<|zZ<|yH [49] rfl<|zJ<|yE N ?_ ?_
  · intro hc1 N;refine zT<|yA<|yL<|yB<|yD 7 [0] [56,58] rfl<|xI 0 [vS p7 nest c7,vI (W (steps + 1)),vS p8 out c8] rfl<|yC rfl<|zJ<|zZ ?_;obtain ⟨o0,ho0,hMc⟩:=zB N;refine pM (fun I' hs' m'=>∃ (t74:Bool) (nest2:List zE) (steps2:Int) (out2:List (List Int)) (p11:Option Addr) (c11:Nat) (p12:Option Addr) (c12:Nat) (cs5:List Value),o0=(t74,nest2,steps2,out2)∧I.le I'∧(S4 I' p11 nest2 c11)∧(RL I' cs5 out2)∧hs'=[hB r0 [vS p11 nest2 c11,vI steps2,vS p12 out2 c12],hO (List Int) (vS p12 out2 c12) cs5]∧m'=[(0,vP r0 0),(1,vS p2 point c2),(6,vI y3),(7,vI n0),(74,.bool t74)]) ?_ ?_
    · have H:=iS I;refine zO<|yD 7 [0] [65] rfl<|xQ [65] ho0 ?_ ?_
      · intro hc2 N;exact xY [] [(74,vY)]<|yQ<|zR ⟨_,_,_,_,_,_,_,_,_,(zC N).symm,H,h12,h13,rfl,rfl⟩
      intro hc2 N;refine yD 9 [] [66,67] rfl<|bE N fun y4 hy4 N=>xP (mS point _ hy4 h2) ?_;rintro I06 hs2 v2 k2 le5 - ⟨p13,c13,cs6,rfl,rfl,h18⟩ -;have ⟨h12,h13,H⟩:=m3 le5 h12 h13 H;refine yD 11 [] [69] rfl<|tJ [vI n0] Int ?_;intro b1 hb1;have h19:RL I06 [vI n0] ([n0]:List Int):=rI [n0];obtain ⟨l1,hy5,N⟩:=zB N;refine pP 3 1 1 rfl rfl rfl h18 (.inr ⟨0,rfl⟩) h19 hy5 fun p14 c14 cs7 h20=>sX (zY [1,2,3] (hs':=[hO Int (vS p14 l1 c14) cs7,hB r0 [vS p7 nest c7,vI (W (steps + 1)),vS p8 out c8],hO (List Int) (vS p8 out c8) cs3]))<|xK 0 rfl ?_;intro I07 le6 hl02;have h21:=SL.of_frozen hl02 le6 h20;have ⟨h12,h13,H⟩:=m3 le6 h12 h13 H;obtain ⟨⟨y6,y7⟩,hy6,N⟩:=zB N;refine uQ (ih_impl_walking_walk (tI.mk nest (W (steps + 1)) out) l1 _ hy6 h12 h13 h21) rfl ?_;rintro I08 hs2 v2 k2 le7 - ⟨v04,p15,c15,p16,c16,cs8,rfl,rfl,rfl,h23,h24⟩ -;have H:=H.trans le7;exact yI [] [74] rfl<|yQ<|zR ⟨_,_,_,_,_,_,_,_,_,(zC N).symm,H,h23,h24,rfl,rfl⟩
    rintro I05 hs2 m2 ⟨t74,nest2,steps2,out2,p11,c11,p12,c12,cs5,heq,le8,h16,h17,rfl,rfl⟩;subst o0;have ⟨h2,H⟩:=m2 le8 h2 H;refine zJ<|yE hMc ?_ ?_
    · intro hc3 N;exact vU [(4,vF)]<|xB<|zU<|zI<|zI<|hr _ _ _ _ (zC N).symm H ⟨_,_,(.tmp rfl ResV.nil),(zX [0,1] rfl (by decide)),⟨_,_,_,_,_,_,rfl,rfl,rfl,h16,h17⟩⟩
    intro hc3 N;exact zT<|zQ<|zJ<|zO<|yI [] [7] rfl<|yZ<|mW<|ih_impl_walking_walk_l1 point y3 (W (n0 + 1)) nest2 steps2 out2 _ N H h2 h16 h17 hg ho hx hr
  intro hc1 N;exact uA<|yQ<|hx _ _ _ _ _ _ _ _ _ (zC N).symm H h12 h13
theorem zBO:∀ w0 point r,tA w0 point=some r→∀ {I:Imm}{r0:Nat}{p c p1 c1 cs p2 c2},(S4 I p w0.nest c)→(RL I cs w0.out)→(S4 I p2 point c2)→RT 153 [vP r0 0,vS p2 point c2] I [hB r0 [vS p w0.nest c,vI w0.steps,vS p1 w0.out c1],hO (List Int) (vS p1 w0.out c1) cs] (kF r0 r):=zAo.1
def nV (nest:(List zE)):Option ((List (List Int))×Bool):=do
 let y←oV nest
 if (!y) then
  pure (([]:List (List Int)),false)
 else
  let (y2,y3)←tA (tI.mk nest 0 ([]:List (List Int))) ([]:List Int)
  if (!y2) then
   pure (([]:List (List Int)),false)
  else
   pure (y3.out,true)
theorem zCP:∀ nest r,nV nest=some r→∀ {I:Imm}{p c},(S4 I p nest c)→RT 89 [vS p nest c] I [] (fG  r):=by
 intro nest r N I p c h;unfold nV at N;refine yJ Tryz.func89 fun B=>vU []<|yA<|yB<|yD 1 [] [5] rfl<|bE N fun y hy N=>wZ (dO nest _ hy h) ?_;intro I0 le;have h:=h.mono le;refine yI [] [7] rfl<|zJ<|yE N ?_ ?_
 · intro hc N;refine yH [2,3] rfl<|xB<|zI ?_;obtain rfl:=zC N;exact xC ⟨_,_,(.tmp rfl (.tmp rfl ResV.nil)),zP,⟨_,_,rfl,rfl,(SL.nil _),rfl⟩⟩
 intro hc N;refine zT<|xE<|yD 2 [] [9] rfl<|vM [vS p nest c,vI 0,z0] ?_;intro b hb;refine yI [] [4] rfl<|yA<|yB<|yD 1 [] [11] rfl<|zLL (List Int) fun h2=>?_;refine sX (zY [1,0] (hs':=[hB b [vS p nest c,vI 0,vS none ([]:List (List Int)) 0],hO (List Int) (vS none ([]:List (List Int)) 0) []])) ?_;obtain ⟨⟨y2,y3⟩,hy1,N⟩:=zB N;refine uQ (zBO (tI.mk nest 0 ([]:List (List Int))) ([]:List Int) _ hy1 h h2 (SL.nil _)) rfl ?_;rintro I01 hs2 v2 k2 le1 - ⟨v01,p1,c1,p2,c2,cs,rfl,rfl,rfl,h4,h5⟩ -;refine yI [] [13] rfl<|zJ<|yE N ?_ ?_
 · intro hc1 N;refine yH [2,3] rfl<|xB<|zI ?_;obtain rfl:=zC N;exact xC ⟨_,_,(.tmp rfl (.tmp rfl ResV.nil)),zP,⟨_,_,rfl,rfl,(SL.nil _),rfl⟩⟩
 intro hc1 N;refine zT<|xE<|yI [0] [2,3] rfl<|xB<|xJ 1 rfl ?_;intro I02 le2 hl0;have h6:=SL.of_frozen hl0 le2 h5;obtain rfl:=zC N;exact xC ⟨_,_,(.tmp rfl (.tmp rfl ResV.nil)),zP,⟨_,_,rfl,rfl,h6,rfl⟩⟩
def qO (hsF:List HA) (r:Int):KT:=fun kk I' hs' v=>
  ∃ v0,hsF=hs'∧v=tupV [v0]∧v0=.int .i64 r
def xD (s:(List zN)) (f0:(zN→Option Bool)) (t8:Int):Option (Out Unit (Int)):=do
 if (decide (t8 < (s.length:Int))) then
  let x←idx s t8
  let y←f0 x
  if y then
   pure (.ret t8)
  else
   xD s f0 (W (t8 + 1))
 else
  pure (.done ())
 partial_fixpoint
theorem kG (s:(List zN)) (f0:(zN→Option Bool)):∀ (t8:Int) (o:Out Unit (Int)),xD s f0 t8=some o→∀ {B}{I0 I:Imm}{Q p c}{fv:Value}{hsF:List HA},I0.le I→(S4 I p s c)→(FV1 Tryz.prog I hsF fv f0)→NG Q→NO Q→(∀ (I':Imm) ,o=(.done ())→I0.le I'→T 19 B Q (.exit 0) I' hsF [])→(∀ r I' hs' m',o=(.ret r)→I0.le I'→RS Tryz.prog Tryz.f154 B (qO hsF r) I' hs' m'→T 19 B Q .ret I' hs' m')→J Tryz.prog 19 B (nav (bodyOf Tryz.f154) [1,0,1,0]) Q I hsF [(0,vS p s c),(1,fv),(7,vI (s.length:Int)),(8,vI t8)]:=by
 refine xD.partial_correctness s f0 _ fun self ih t8 o N B I0 I Q p c fv hsF H h h1 hg ho hx hr=>yY hg ho<|yH [9] rfl<|yA<|yE N ?_ ?_
 · intro hc N;refine zT<|yA<|yL<|yH [5] rfl<|xE<|yD 3 [] [11,12,13] rfl<|bE N fun x hy N=>xS rfl rfl h hy ?_;intro ad ccs hat hrep;obtain ⟨p1,c1,p2,c2,p3,c3,p4,c4,rfl,h2,h3,h4,h5⟩:=tH hrep;refine xL 0 hat (cStmt x p1 c1 p2 c2 p3 c3 p4 c4) (vA (cStmt x p1 c1 p2 c2 p3 c3 p4 c4)) rfl<|bE N fun y hy1 N=>zGl rfl rfl h1 hy1 ⟨_,rfl,(xR ⟨_,_,_,_,rfl,h2,h3,h4,h5⟩)⟩ (List.append_nil _).symm ?_;rintro I0 v04 le rfl;refine uR (hs':=hsF) (List.append_nil _) ?_;have ⟨h,h1,H⟩:=m3 le h h1 H;refine yC rfl<|zJ<|yE N ?_ ?_
   · intro hc1 N;exact yH [4] rfl<|xB<|zU<|zI<|zI<|hr _ _ _ _ (zC N).symm H ⟨_,_,(.tmp rfl ResV.nil),(fun _ h=>h),⟨_,rfl,rfl,rfl⟩⟩
   intro hc1 N;exact zT<|zQ<|zJ<|zO<|yI [] [8] rfl<|yZ<|mW<|ih (W (t8 + 1)) _ N H h h1 hg ho hx hr
 intro hc N;exact uA<|yQ<|hx _  (zC N).symm H
def vK (s:(List zN)) (f0:(zN→Option Bool)):Option (Int):=do
 match←xD s f0 0 with
 | .ret r0=>pure r0
 | .done _ =>
  pure (-1)
theorem kS:∀ s f0 r,vK s f0=some r→∀ {I:Imm}{p c}{fv:Value}{hsF:List HA},(S4 I p s c)→(FV1 Tryz.prog I hsF fv f0)→RT 154 [vS p s c,fv] I hsF (qO hsF r):=by
 intro s f0 r N I p c fv hsF h h1;unfold vK at N;refine yJ Tryz.func154 fun B=>vU []<|yA<|yH [7,8] rfl<|wK<|oM [(0,vS p s c),(1,fv),(7,vI (s.length:Int)),(8,vI 0)] ?_;obtain ⟨o0,ho0,hMl⟩:=zB N;refine kG s f0 0 o0 ho0 iR h h1 (fun _ _ _ h=>h) (fun _ _ h=>h) ?_ ?_
 · intro I01  heq le1;subst o0;refine zV<|vV [4] rfl<|zJ<|yX ?_;obtain rfl:=zC hMl;exact xC ⟨_,_,(.tmp rfl ResV.nil),(fun _ h=>h),⟨_,rfl,rfl,rfl⟩⟩
 intro r0 I9 hs9 m9 heq9 le9 hrs9;subst heq9;refine zU<|zI ?_;obtain rfl:=zC hMl;exact xC hrs9
def mT (hsF:List HA) (r:Bool):KT:=fun kk I' hs' v=>
  ∃ v0,hsF=hs'∧v=tupV [v0]∧v0=.bool r
def xW (s:(List zN)) (f0:(zN→Option Bool)):Option (Bool):=do
 let y←vK s f0
 pure (decide (y ≥ 0))
theorem kH:∀ s f0 r,xW s f0=some r→∀ {I:Imm}{p c}{fv:Value}{hsF:List HA},(S4 I p s c)→(FV1 Tryz.prog I hsF fv f0)→RT 90 [vS p s c,fv] I hsF (mT hsF r):=by
 intro s f0 r N I p c fv hsF h h1;unfold xW at N;refine yJ Tryz.func90 fun B=>vU []<|xE<|yD 2 [] [5,6] rfl<|bE N fun y hy N=>zDM (hs1:=hsF) (rest:=[]) rfl rfl rfl rfl (by kernel_rfl) rfl (List.append_nil _).symm (kS s f0 _ hy h h1) ?_;rintro I0 hs2 v2 k2 le - ⟨v0,rfl,rfl,rfl⟩ -;refine uR (hs':=hsF) (List.append_nil _) ?_;refine yI [] [4] rfl<|zJ<|yX ?_;obtain rfl:=zC N;exact xC ⟨_,_,(.tmp rfl ResV.nil),(fun _ h=>h),⟨_,rfl,rfl,rfl⟩⟩
def qH (s:zA) (x:Int):Option (Bool):=do
 let t3←(do
   let y←rC s
   if (!y) then
    pure true
   else
    let y1←sG s
    pure (decide (y1 > x))
     : Option Bool)
 pure (id t3)
theorem zCQ:∀ s x r,qH s x=some r→∀ {I:Imm}{p c}{ad:Addr},(S4 I p s.Coefs c)→(At I ad [vI x])→RT 181 [vA (cAff s p c),.pointer (some ad)] I [] (zS  r):=by
 intro s x r N I p c ad h hat;unfold qH at N;refine yJ Tryz.func181 fun B=>?_;have H:=iS I;refine yB<|vM (cAff s p c) ?_;intro b hb;refine xY [] []<|zJ<|zZ ?_;refine wD N [] (fun t3=>[(3,.bool t3)]) (fun o0 ho0=>?_) ?_
 · have H:=iS I;obtain ⟨y,hy,N⟩:=zB ho0;cases hc:(!y) with
   | true =>
    have hM0:=rQ hc N;refine wS [.p (vA (cAff s p c)) [0],.q (.bool y),.q vY,.q vY,.p undef [],.p undef [],.p undef [],.p undef [],.p vY []] [[],[(0,false)],[(1,false)],[(2,false)],[(3,false)],[(3,false),(4,false)],[(3,false)],[(3,false),(5,false),(6,false)],[(3,false),(7,false)]] [hB b (cAff s p c)] [] [(8,false)] (zY [0]) ?_ ?_
    · refine Op<|Oq ?_<|Oq ?_<|Oq ?_<|Op<|Op<|Op<|Op<|Op<|On
      · intro I1 hf le1;refine yS [4] rfl ?_;have H:=iS I1;have h:=h.mono le1;refine wZ (oJ s _ hy h) ?_;intro I01 le;have H:=H.trans le;exact xF H
      · intro I1 hf le1;refine yS [5] rfl<|qQ 3 [(6,.bool (!y))] ?_;rw [hc];exact xF iR
      intro I1 hf le1;exact fC [(6,vY)]<|qQ 4 [(7,vY)]<|xF iR
    intro I02 le1;refine fC [(12,vY)] ?_;have H:=H.trans le1;exact xY [] [(3,vY)]<|xV zP<|yQ<|zR (ct hM0 H)
   | false =>
    have hM01:=sP hc N;obtain ⟨y1,hy1,N⟩:=zB hM01;refine wS [.p (vA (cAff s p c)) [0],.q (.bool y),.q vF,.q vF,.p (vA (cAff s p c)) [0],.q (vI y1),.q (vI x),.p (.bool (decide (y1 > x))) [],.p (.bool (decide (y1 > x))) []] [[],[(0,false)],[(1,false)],[(2,false)],[(3,false)],[(3,false),(4,false)],[(3,false)],[(3,false),(5,false),(6,false)],[(3,false),(7,false)]] [hB b (cAff s p c)] [] [(8,false)] (zY [0]) ?_ ?_
    · refine Op<|Oq ?_<|Oq ?_<|Oq ?_<|Op<|Oq ?_<|Oq ?_<|Op<|Op<|On
      · intro I1 hf le1;refine yS [4] rfl ?_;have H:=iS I1;have h:=h.mono le1;refine wZ (oJ s _ hy h) ?_;intro I01 le;have H:=H.trans le;exact xF H
      · intro I1 hf le1;refine yS [5] rfl<|qQ 3 [(6,.bool (!y))] ?_;rw [hc];exact xF iR
      · intro I1 hf le1;exact fC [(6,vF)]<|qQ 4 [(7,vF)]<|xF iR
      · intro I1 hf le1;refine yS [7,8] rfl ?_;have H:=iS I1;have h:=h.mono le1;refine oH (jA s _ hy1 h) ?_;intro I03 le2;have H:=H.trans le2;exact xF H
      intro I1 hf le1;refine yS [1,7] rfl ?_;have hat:=hat.mono le1;exact xL 0 hat [vI x] (vI x) rfl<|xF iR
    intro I04 le3;refine yS [12] rfl ?_;have H:=H.trans le3;exact yI [] [3] rfl<|xV zP<|yQ<|zR (ct N H)
 intro t3 I0 le4 hMc;refine zJ<|yX ?_;obtain rfl:=zC hMc;exact xZ
def nN (a0:zG) (depth:Int):Option (Bool):=do
 let t4←(do
   let y←mQ a0.Array
   if y then
    let y1←xT (a0.Subs.length:Int) 1 2
    if y1 then
     let y2←xG a0.Subs (fun x0=>qH x0 depth)
     pure (!y2)
    else
     pure false
   else
    pure false
     : Option Bool)
 pure (id t4)
theorem zAR:∀ a0 depth r,nN a0 depth=some r→∀ {I:Imm}{p c},(S4 I p a0.Subs c)→RT 134 [vA (cAccess a0 p c),vI depth] I [] (zS  r):=by
 intro a0 depth r N I p c h;unfold nN at N;refine yJ Tryz.func134 fun B=>?_;have H:=iS I;refine yB<|vM (cAccess a0 p c) ?_;intro b hb;refine vM [vI depth] ?_;intro b1 hb1;refine xK 0 rfl ?_;intro I0 le hl0;have hat:At I0 ⟨b1,0,none⟩ [vI depth]:=At.of_blk hl0;have ⟨h,H⟩:=m2 le h H;refine xY [] []<|zJ<|zZ ?_;refine wD N [] (fun t4=>[(4,.bool t4)]) (fun o0 ho0=>?_) ?_
 · have H:=iS I0;refine zO<|yD 2 [0] [6] rfl ?_;obtain ⟨y,hy,N⟩:=zB ho0;refine wZ (oF a0.Array _ hy ) ?_;intro I02 le1;have ⟨hat,h,H⟩:=m3 le1 hat h H;refine yD 4 [] [8] rfl<|xQ [8] N ?_ ?_
   · intro hc N;refine yD 7 [0] [11] rfl<|bE N fun y1 hy1 N=>wZ (xN (a0.Subs.length:Int) 1 2 _ hy1 ) ?_;intro I03 le2;have ⟨hat,h,H⟩:=m3 le2 hat h H;refine yD 10 [] [14] rfl<|xQ [14] N ?_ ?_
     · intro hc1 N;refine yD 13 [0] [16,17] rfl ?_;have hf0:FV1 Tryz.prog I03 [] (.func (.func 181) ⟨[]⟩ ⟨[vP b1 0]⟩) (fun x0=>qH x0 depth):=by
         refine FV1.intro ?_;intro I1 le1 x0 r u0 hF k0;obtain ⟨_,rfl,k0⟩:=k0;obtain ⟨p1,c1,rfl,h3⟩:=yG k0;exact (zCQ x0 depth r hF h3 (hat.mono le1)).mono (by rintro k i hs u ⟨v0,rfl,rfl,h⟩; exact ⟨rfl,h⟩)
       obtain ⟨y2,hy2,N⟩:=zB N;refine xP (sS a0.Subs (fun x0=>qH x0 depth) _ hy2 h hf0) ?_;rintro I04 hs2 v2 k2 le3 - ⟨v03,rfl,rfl,rfl⟩ -;have H:=H.trans le3;exact yI [] [4] rfl<|xV zP<|yQ<|zR (ct N H)
     intro hc1 N;exact xY [] [(4,vF)]<|xV zP<|yQ<|zR (ct N H)
   intro hc N;exact xY [] [(4,vF)]<|xV zP<|yQ<|zR (ct N H)
 intro t4 I01 le4 hMc;refine zJ<|yX ?_;obtain rfl:=zC hMc;exact xZ
def nO (a0:zA):Option (Bool):=do
 let t2←(do
   if ((a0.Coefs.length:Int) == 0) then
    pure (a0.Const == 0)
   else
    pure false
     : Option Bool)
 pure (id t2)
theorem zAS:∀ a0 r,nO a0=some r→∀ {I:Imm}{p c},(S4 I p a0.Coefs c)→RT 183 [vA (cAff a0 p c)] I [] (zS  r):=by
 intro a0 r N I p c h;unfold nO at N;refine yJ Tryz.func183 fun B=>?_;have H:=iS I;refine yB<|vM (cAff a0 p c) ?_;intro b hb;refine xY [] []<|zJ<|zZ ?_;refine wD N [] (fun t2=>[(2,.bool t2)]) (fun o0 ho0=>?_) ?_
 · have H:=iS I;refine zO<|yD 5 [0] [7] rfl<|xQ [7] ho0 ?_ ?_
   · intro hc N;exact yI [0] [2] rfl<|xV zP<|yQ<|zR (ct N H)
   intro hc N;exact xY [] [(2,vF)]<|xV zP<|yQ<|zR (ct N H)
 intro t2 I0 le hMc;refine zJ<|yX ?_;obtain rfl:=zC hMc;exact xZ
def qP (a0:zG):Option (Bool):=do
 let t2←(do
   if (a0.Array.l == ([]:List UInt8)) then
    pure ((a0.Subs.length:Int) == 0)
   else
    pure false
     : Option Bool)
 pure (id t2)
theorem jH:∀ a0 r,qP a0=some r→∀ {I:Imm}{p c},(S4 I p a0.Subs c)→RT 184 [vA (cAccess a0 p c)] I [] (zS  r):=by
 intro a0 r N I p c h;unfold qP at N;refine yJ Tryz.func184 fun B=>?_;have H:=iS I;refine yB<|vM (cAccess a0 p c) ?_;intro b hb;refine xY [] []<|zJ<|zZ ?_;refine wD N [] (fun t2=>[(2,.bool t2)]) (fun o0 ho0=>?_) ?_
 · have H:=iS I;refine zO<|yD 4 [0] [6] rfl<|xQ [6] ho0 ?_ ?_
   · intro hc N;exact yI [0] [2] rfl<|xV zP<|yQ<|zR (ct N H)
   intro hc N;exact xY [] [(2,vF)]<|xV zP<|yQ<|zR (ct N H)
 intro t2 I0 le hMc;refine zJ<|yX ?_;obtain rfl:=zC hMc;exact xZ
def fI (kind:Int):Option (Bool):=do
 let y←xT kind 4 6
 pure (id y)
theorem zGN:∀ kind r,fI kind=some r→∀ {I:Imm} ,RT 185 [vI kind] I [] (zS  r):=by
 intro kind r N I;unfold fI at N;refine yJ Tryz.func185 fun B=>vU []<|xE<|yD 1 [] [3] rfl<|bE N fun y hy N=>wZ (xN kind 4 6 _ hy ) fun I0 le=>xY [] [(2,.bool y)]<|zJ<|yX ?_;obtain rfl:=zC N;exact xZ
def zCR (b0:Nat) (r:Bool×Int):KT:=fun kk I' hs' v=>
  ∃ v0 k0,hs'=[.blk b0 ⟨k0⟩]∧v=tupV [v0]∧v0=.bool r.1∧Rp.rep I' k0 r.2
def vZ (e0:zD) (depth:Int) (deep:Int) (count:Int):Option (Bool×Int):=do
 let t21←(do
   if (decide ((W (count + 1)) > 12)) then
    pure true
   else
    pure (decide (deep > 5))
     : Option Bool)
 if t21 then
  pure (false,(W (count + 1)))
 else
  let t51←(do
    if (e0.Kind != 1) then
     if (e0.Num != 0) then
      pure true
     else
      if (e0.Kind != 2) then
       let y←nO e0.Index
       if (!y) then
        pure true
       else
        if (e0.Kind != 3) then
         let y1←qP e0.Read
         pure (!y1)
        else
         pure false
      else
       if (e0.Kind != 3) then
        let y2←qP e0.Read
        pure (!y2)
       else
        pure false
    else
     if (e0.Kind != 2) then
      let y3←nO e0.Index
      if (!y3) then
       pure true
      else
       if (e0.Kind != 3) then
        let y4←qP e0.Read
        pure (!y4)
       else
        pure false
     else
      if (e0.Kind != 3) then
       let y5←qP e0.Read
       pure (!y5)
      else
       pure false
      : Option Bool)
  if t51 then
   pure (false,(W (count + 1)))
  else
   if (e0.Kind == 1) then
    let t8←(do
      let y6←xT e0.Num 0 99
      if y6 then
       pure ((e0.Kids.length:Int) == 0)
      else
       pure false
        : Option Bool)
    pure (t8,(W (count + 1)))
   else
    if (e0.Kind == 2) then
     let t81←(do
       let y7←rC e0.Index
       if y7 then
        let y8←sG e0.Index
        if (decide (y8 ≤ depth)) then
         pure ((e0.Kids.length:Int) == 0)
        else
         pure false
       else
        pure false
         : Option Bool)
     pure (t81,(W (count + 1)))
    else
     if (e0.Kind == 3) then
      let t82←(do
        let y9←nN e0.Read depth
        if y9 then
         pure ((e0.Kids.length:Int) == 0)
        else
         pure false
          : Option Bool)
      pure (t82,(W (count + 1)))
     else
      let t99←(do
        let y10←fI e0.Kind
        if (!y10) then
         pure true
        else
         pure ((e0.Kids.length:Int) != 2)
          : Option Bool)
      if t99 then
       pure (false,(W (count + 1)))
      else
       let (t83,x)←(do
         let x1←idx e0.Kids 0
         let (y12,y13)←vZ (same x1) (same depth) (W (deep + 1)) (W (count + 1))
         if y12 then
          let x2←idx e0.Kids 1
          let (y15,y16)←vZ (same x2) (same depth) (W (deep + 1)) (same y13)
          pure (y15,y16)
         else
          pure (false,y13)
           : Option (Bool×Int))
       pure (t83,x)
 partial_fixpoint
theorem zDg:∀ e0 depth deep count r,vZ e0 depth deep count=some r→∀ {I:Imm}{p c p1 c1 p2 c2}{r0:Nat},(S4 I p e0.Index.Coefs c)→(S4 I p1 e0.Read.Subs c1)→(S4 I p2 e0.Kids c2)→RT 135 [vA (cExpr e0 p c p1 c1 p2 c2),vI depth,vI deep,vP r0 0] I [hB r0 [vI count]] (zCR r0 r):=by
 refine vZ.partial_correctness _ fun F_impl_exprScan ih_impl_exprScan e0 depth deep count r N I p c p1 c1 p2 c2 r0 h h1 h2=>yJ Tryz.func135 fun B=>?_;have H:=iS I;refine yB<|vM (cExpr e0 p c p1 c1 p2 c2) ?_;intro b hb;refine xY [] []<|xE<|yD 5 [1] [12,13] rfl<|xI 1 [vI (W (count + 1))] rfl<|yC rfl<|yA<|zZ ?_;refine wD N [hB b (cExpr e0 p c p1 c1 p2 c2),hB r0 [vI (W (count + 1))]] (fun t21=>[(1,vI depth),(2,vI deep),(3,vP r0 0),(4,vP b 0),(21,.bool t21)]) (fun o0 ho0=>?_) ?_
 · have H:=iS I;refine zO<|yD 5 [1] [18] rfl<|xQ [18] ho0 ?_ ?_
   · intro hc N;exact xY [] [(21,vY)]<|yQ<|zR (ct N H)
   intro hc N;exact yI [] [21] rfl<|yQ<|zR (ct N H)
 intro t21 I0 le hMc;have ⟨h,h1,h2,H⟩:=m4 le h h1 h2 H;refine zJ<|yE hMc ?_ ?_
 · intro hc1 N;refine vU [(8,vF)]<|xB<|zI ?_;obtain rfl:=zC N;exact xC ⟨_,_,(.tmp rfl ResV.nil),(zX [1] rfl (by decide)),⟨_,_,rfl,rfl,rfl,rfl⟩⟩
 intro hc1 N;refine zT<|yA<|zZ ?_;refine wD N [hB b (cExpr e0 p c p1 c1 p2 c2),hB r0 [vI (W (count + 1))]] (fun t51=>[(1,vI depth),(2,vI deep),(3,vP r0 0),(4,vP b 0),(51,.bool t51)]) (fun o01 ho01=>?_) ?_
 · have H:=iS I0;refine zO<|yD 4 [0] [25] rfl<|xQ [25] ho01 ?_ ?_
   · intro hc2 N;refine yD 9 [0] [30] rfl<|xQ [30] N ?_ ?_
     · intro hc3 N;exact xY [] [(51,vY)]<|yQ<|zR (ct N H)
     intro hc3 N;refine yD 13 [0] [34] rfl<|xQ [34] N ?_ ?_
     · intro hc4 N;refine sU 15 [0] [(36,vA (cAff e0.Index p c))]<|bE N fun y hy N=>wZ (zAS e0.Index _ hy h) ?_;intro I02 le1;have ⟨h1,H⟩:=m2 le1 h1 H;refine yD 20 [] [41] rfl<|xQ [41] N ?_ ?_
       · intro hc5 N;exact xY [] [(51,vY)]<|yQ<|zR (ct N H)
       intro hc5 N;refine yD 24 [0] [45] rfl<|xQ [45] N ?_ ?_
       · intro hc6 N;refine sU 26 [0] [(47,vA (cAccess e0.Read p1 c1))]<|bE N fun y1 hy1 N=>wZ (jH e0.Read _ hy1 h1) ?_;intro I03 le2;have H:=H.trans le2;exact yI [] [51] rfl<|yQ<|zR (ct N H)
       intro hc6 N;exact xY [] [(51,vF)]<|yQ<|zR (ct N H)
     intro hc4 N;refine yD 24 [0] [41,45] rfl<|xQ [45] N ?_ ?_
     · intro hc7 N;refine sU 26 [0] [(47,vA (cAccess e0.Read p1 c1))]<|bE N fun y2 hy2 N=>wZ (jH e0.Read _ hy2 h1) ?_;intro I04 le3;have H:=H.trans le3;exact yI [] [51] rfl<|yQ<|zR (ct N H)
     intro hc7 N;exact xY [] [(51,vF)]<|yQ<|zR (ct N H)
   intro hc2 N;refine yD 13 [0] [30,34] rfl<|xQ [34] N ?_ ?_
   · intro hc8 N;refine sU 15 [0] [(36,vA (cAff e0.Index p c))]<|bE N fun y3 hy3 N=>wZ (zAS e0.Index _ hy3 h) ?_;intro I05 le4;have ⟨h1,H⟩:=m2 le4 h1 H;refine yD 20 [] [41] rfl<|xQ [41] N ?_ ?_
     · intro hc9 N;exact xY [] [(51,vY)]<|yQ<|zR (ct N H)
     intro hc9 N;refine yD 24 [0] [45] rfl<|xQ [45] N ?_ ?_
     · intro hc10 N;refine sU 26 [0] [(47,vA (cAccess e0.Read p1 c1))]<|bE N fun y4 hy4 N=>wZ (jH e0.Read _ hy4 h1) ?_;intro I06 le5;have H:=H.trans le5;exact yI [] [51] rfl<|yQ<|zR (ct N H)
     intro hc10 N;exact xY [] [(51,vF)]<|yQ<|zR (ct N H)
   intro hc8 N;refine yD 24 [0] [41,45] rfl<|xQ [45] N ?_ ?_
   · intro hc11 N;refine sU 26 [0] [(47,vA (cAccess e0.Read p1 c1))]<|bE N fun y5 hy5 N=>wZ (jH e0.Read _ hy5 h1) ?_;intro I07 le6;have H:=H.trans le6;exact yI [] [51] rfl<|yQ<|zR (ct N H)
   intro hc11 N;exact xY [] [(51,vF)]<|yQ<|zR (ct N H)
 intro t51 I01 le7 hMc1;have ⟨h,h1,h2,H⟩:=m4 le7 h h1 h2 H;refine zJ<|yE hMc1 ?_ ?_
 · intro hc12 N;refine vU [(8,vF)]<|xB<|zI ?_;obtain rfl:=zC N;exact xC ⟨_,_,(.tmp rfl ResV.nil),(zX [1] rfl (by decide)),⟨_,_,rfl,rfl,rfl,rfl⟩⟩
 intro hc12 N;refine zT<|yA<|yL<|yB<|yI [0] [52] rfl<|zJ<|yE N ?_ ?_
 · intro hc13 N;refine zZ ?_;refine wD N [hB r0 [vI (W (count + 1))]] (fun t8=>[(8,.bool t8)]) (fun o02 ho02=>?_) ?_
   · have H:=iS I01;refine zO<|yD 2 [0] [57] rfl ?_;obtain ⟨y6,hy6,N⟩:=zB ho02;refine wZ (xN e0.Num 0 99 _ hy6 ) ?_;intro I09 le8;have H:=H.trans le8;refine yD 4 [] [59] rfl<|xQ [59] N ?_ ?_
     · intro hc14 N;exact yI [0] [8] rfl<|xV (zX [1] rfl (by decide))<|yQ<|zR (ct N H)
     intro hc14 N;exact xY [] [(8,vF)]<|xV (zX [1] rfl (by decide))<|yQ<|zR (ct N H)
   intro t8 I08 le9 hMc2;refine xB<|zU<|zI ?_;obtain rfl:=zC hMc2;exact xC ⟨_,_,(.tmp rfl ResV.nil),(zX [0] rfl (by decide)),⟨_,_,rfl,rfl,rfl,rfl⟩⟩
 intro hc13 N;refine yB<|yI [0] [65] rfl<|zJ<|yE N ?_ ?_
 · intro hc15 N;refine zZ ?_;refine wD N [hB r0 [vI (W (count + 1))]] (fun t81=>[(8,.bool t81)]) (fun o03 ho03=>?_) ?_
   · have H:=iS I01;refine zO<|sU 2 [0] [(70,vA (cAff e0.Index p c))] ?_;obtain ⟨y7,hy7,N⟩:=zB ho03;refine wZ (oJ e0.Index _ hy7 h) ?_;intro I011 le10;have ⟨h,H⟩:=m2 le10 h H;refine yD 4 [] [72] rfl<|xQ [72] N ?_ ?_
     · intro hc16 N;refine sU 6 [0] [(74,vA (cAff e0.Index p c))]<|bE N fun y8 hy8 N=>oH (jA e0.Index _ hy8 h) ?_;intro I012 le11;have H:=H.trans le11;refine yD 11 [] [79] rfl<|xQ [79] N ?_ ?_
       · intro hc17 N;exact yI [0] [8] rfl<|xV (zX [1] rfl (by decide))<|yQ<|zR (ct N H)
       intro hc17 N;exact xY [] [(8,vF)]<|xV (zX [1] rfl (by decide))<|yQ<|zR (ct N H)
     intro hc16 N;exact xY [] [(8,vF)]<|xV (zX [1] rfl (by decide))<|yQ<|zR (ct N H)
   intro t81 I010 le12 hMc3;refine xB<|zU<|zI ?_;obtain rfl:=zC hMc3;exact xC ⟨_,_,(.tmp rfl ResV.nil),(zX [0] rfl (by decide)),⟨_,_,rfl,rfl,rfl,rfl⟩⟩
 intro hc15 N;refine yB<|yI [0] [85] rfl<|zJ<|yE N ?_ ?_
 · intro hc18 N;refine zZ ?_;refine wD N [hB r0 [vI (W (count + 1))]] (fun t82=>[(8,.bool t82)]) (fun o04 ho04=>?_) ?_
   · have H:=iS I01;refine zO<|sU 3 [0] [(90,vA (cAccess e0.Read p1 c1)),(91,vI depth)] ?_;obtain ⟨y9,hy9,N⟩:=zB ho04;refine wZ (zAR e0.Read depth _ hy9 h1) ?_;intro I014 le13;have H:=H.trans le13;refine yD 5 [] [93] rfl<|xQ [93] N ?_ ?_
     · intro hc19 N;exact yI [0] [8] rfl<|xV (zX [1] rfl (by decide))<|yQ<|zR (ct N H)
     intro hc19 N;exact xY [] [(8,vF)]<|xV (zX [1] rfl (by decide))<|yQ<|zR (ct N H)
   intro t82 I013 le14 hMc4;refine xB<|zU<|zI ?_;obtain rfl:=zC hMc4;exact xC ⟨_,_,(.tmp rfl ResV.nil),(zX [0] rfl (by decide)),⟨_,_,rfl,rfl,rfl,rfl⟩⟩
 intro hc18 N;refine zZ ?_;refine wD N [hB b (cExpr e0 p c p1 c1 p2 c2),hB r0 [vI (W (count + 1))]] (fun t99=>[(1,vI depth),(2,vI deep),(3,vP r0 0),(4,vP b 0),(99,.bool t99)]) (fun o05 ho05=>?_) ?_
 · have H:=iS I01;refine zO<|yD 2 [0] [101] rfl ?_;obtain ⟨y10,hy10,N⟩:=zB ho05;refine wZ (zGN e0.Kind _ hy10 ) ?_;intro I016 le15;have H:=H.trans le15;refine yD 5 [] [104] rfl<|xQ [104] N ?_ ?_
   · intro hc20 N;exact xY [] [(99,vY)]<|yQ<|zR (ct N H)
   intro hc20 N;exact yI [0] [99] rfl<|yQ<|zR (ct N H)
 intro t99 I015 le16 hMc5;have ⟨h2,H⟩:=m2 le16 h2 H;refine zJ<|yE hMc5 ?_ ?_
 · intro hc21 N;refine vU [(8,vF)]<|xB<|zU<|zI ?_;obtain rfl:=zC N;exact xC ⟨_,_,(.tmp rfl ResV.nil),(zX [1] rfl (by decide)),⟨_,_,rfl,rfl,rfl,rfl⟩⟩
 intro hc21 N;refine zT<|zQ<|zJ<|zZ ?_;obtain ⟨o06,ho06,hMc6⟩:=zB N;refine pM (fun I' hs' m'=>∃ (t83:Bool) (x:Int),o06=(t83,x)∧I015.le I'∧hs'=[hB r0 [vI x]]∧m'=[(8,.bool t83)]) ?_ ?_
 · have H:=iS I015;refine zO<|yD 2 [0] [111] rfl ?_;obtain ⟨x1,hy11,N⟩:=zB ho06;refine xS rfl rfl h2 hy11 ?_;intro ad ccs hat hrep;obtain ⟨p3,c3,p4,c4,p5,c5,rfl,h14,h15,h16⟩:=xX hrep;refine xL 0 hat (cExpr x1 p3 c3 p4 c4 p5 c5) (vA (cExpr x1 p3 c3 p4 c4 p5 c5)) rfl<|yD 8 [] [114,116,117] rfl<|sX (zY [1,0] (hs':=[hB r0 [vI (W (count + 1))],hB b (cExpr e0 p c p1 c1 p2 c2)])) ?_;obtain ⟨⟨y12,y13⟩,hy12,N⟩:=zB N;refine uQ (ih_impl_exprScan x1 depth (W (deep + 1)) (W (count + 1)) _ hy12 h14 h15 h16) rfl ?_;rintro I018 hs2 v2 k2 le17 - ⟨v014,kk,rfl,rfl,rfl,h18⟩ -;have ⟨h2,H⟩:=m2 le17 h2 H;obtain rfl:=h18;refine yD 10 [] [119] rfl<|xQ [119] N ?_ ?_
   · intro hc22 N;refine yD 12 [1] [121] rfl<|bE N fun x2 hy13 N=>xS rfl rfl h2 hy13 ?_;intro ad1 ccs1 hat1 hrep1;obtain ⟨p6,c6,p7,c7,p8,c8,rfl,h19,h20,h21⟩:=xX hrep1;refine xL 0 hat1 (cExpr x2 p6 c6 p7 c7 p8 c8) (vA (cExpr x2 p6 c6 p7 c7 p8 c8)) rfl<|yD 18 [] [124,126,127] rfl ?_;obtain ⟨⟨y15,y16⟩,hy14,N⟩:=zB N;refine uQ (ih_impl_exprScan x2 depth (W (deep + 1)) y13 _ hy14 h19 h20 h21) rfl ?_;rintro I019 hs2 v2 k2 le18 - ⟨v018,kk1,rfl,rfl,rfl,h23⟩ -;have H:=H.trans le18;obtain rfl:=h23;exact yI [] [8] rfl<|xV (zX [0] rfl (by decide))<|yQ<|zR ⟨_,_,(zC N).symm,H,rfl,rfl⟩
   intro hc22 N;exact xY [] [(8,vF)]<|xV (zX [0] rfl (by decide))<|yQ<|zR ⟨_,_,(zC N).symm,H,rfl,rfl⟩
 rintro I017 hs2 m2 ⟨t83,x,heq6,le19,rfl,rfl⟩;subst o06;refine zJ<|yX ?_;obtain rfl:=zC hMc6;exact xC ⟨_,_,(.tmp rfl ResV.nil),(zX [0] rfl (by decide)),⟨_,_,rfl,rfl,rfl,rfl⟩⟩
def pJ (s:zN) (depth:Int):Option (Bool):=do
 let t4←(do
   let y←xT depth 0 4
   if y then
    let y1←nN s.Write depth
    if y1 then
     let (y3,y4)←vZ s.Value depth 1 0
     pure (id y3)
    else
     pure false
   else
    pure false
     : Option Bool)
 pure (id t4)
theorem gJ:∀ s depth r,pJ s depth=some r→∀ {I:Imm}{p c p1 c1 p2 c2 p3 c3},(S4 I p s.Write.Subs c)→(S4 I p1 s.Value.Index.Coefs c1)→(S4 I p2 s.Value.Read.Subs c2)→(S4 I p3 s.Value.Kids c3)→RT 70 [vA (cStmt s p c p1 c1 p2 c2 p3 c3),vI depth] I [] (zS  r):=by
 intro s depth r N I p c p1 c1 p2 c2 p3 c3 h h1 h2 h3;unfold pJ at N;refine yJ Tryz.func70 fun B=>?_;have H:=iS I;refine yB<|vM (cStmt s p c p1 c1 p2 c2 p3 c3) ?_;intro b hb;refine xY [] []<|xE<|wU [vI 0] ?_;intro b1 hb1;refine xI 0 [vI 0] rfl<|yC rfl<|zJ<|zZ ?_;refine wD N [] (fun t4=>[(4,.bool t4)]) (fun o0 ho0=>?_) ?_
 · have H:=iS I;refine zO<|yD 1 [] [6] rfl ?_;obtain ⟨y,hy,N⟩:=zB ho0;refine wZ (xN depth 0 4 _ hy ) ?_;intro I01 le;have ⟨h,h1,h2,h3,H⟩:=m5 le h h1 h2 h3 H;refine yD 3 [] [8] rfl<|xQ [8] N ?_ ?_
   · intro hc N;refine sU 6 [1] [(10,vA (cAccess s.Write p c)),(11,vI depth)]<|bE N fun y1 hy1 N=>wZ (zAR s.Write depth _ hy1 h) ?_;intro I02 le1;have ⟨h1,h2,h3,H⟩:=m4 le1 h1 h2 h3 H;refine yD 9 [] [14] rfl<|xQ [14] N ?_ ?_
     · intro hc1 N;refine sU 12 [1] [(16,vA (cExpr s.Value p1 c1 p2 c2 p3 c3)),(17,vI depth)] ?_;obtain ⟨⟨y3,y4⟩,hy2,N⟩:=zB N;refine uQ (zDg s.Value depth 1 0 _ hy2 h1 h2 h3) rfl ?_;rintro I03 hs2 v2 k2 le2 - ⟨v02,kk,rfl,rfl,rfl,h7⟩ -;have H:=H.trans le2;obtain rfl:=h7;exact yI [] [4] rfl<|xV zP<|yQ<|zR (ct N H)
     intro hc1 N;exact xY [] [(4,vF)]<|xV zP<|yQ<|zR (ct N H)
   intro hc N;exact xY [] [(4,vF)]<|xV zP<|yQ<|zR (ct N H)
 intro t4 I0 le3 hMc;refine zJ<|yX ?_;obtain rfl:=zC hMc;exact xZ
def wY (s:zN) (x:zL):Option (Bool):=do
 let y←pJ s (x.Nest.length:Int)
 pure (!y)
theorem fZ:∀ s x r,wY s x=some r→∀ {I:Imm}{p c p1 c1 p2 c2 p3 c3}{ad:Addr}{p4 c4 p5 c5},(S4 I p s.Write.Subs c)→(S4 I p1 s.Value.Index.Coefs c1)→(S4 I p2 s.Value.Read.Subs c2)→(S4 I p3 s.Value.Kids c3)→(S4 I p4 x.Nest c4)→(S4 I p5 x.Body c5)→(At I ad (cPart x p4 c4 p5 c5))→RT 91 [vA (cStmt s p c p1 c1 p2 c2 p3 c3),.pointer (some ad)] I [] (zS  r):=by
 intro s x r N I p c p1 c1 p2 c2 p3 c3 ad p4 c4 p5 c5 h h1 h2 h3 h4 h5 hat;unfold wY at N;refine yJ Tryz.func91 fun B=>yB<|vM (cStmt s p c p1 c1 p2 c2 p3 c3) ?_;intro b hb;refine xY [] []<|xE<|sU 2 [0] [(4,vA (cStmt s p c p1 c1 p2 c2 p3 c3)),(5,.pointer (some ad))]<|xL 0 hat [vS p4 x.Nest c4] (vS p4 x.Nest c4) rfl<|yD 4 [] [7] rfl<|bE N fun y hy N=>wZ (gJ s (x.Nest.length:Int) _ hy h h1 h2 h3) fun I0 le=>xY [] [(3,.bool (!y))]<|zJ<|yX ?_;obtain rfl:=zC N;exact xZ
def pK (n0:Int):Option (Bool):=do
 let y←xT n0 (-9999) 9999
 pure (!y)
theorem zDC:∀ n0 r,pK n0=some r→∀ {I:Imm} ,RT 155 [vI n0] I [] (zS  r):=by
 intro n0 r N I;unfold pK at N;refine yJ Tryz.func155 fun B=>vU []<|xE<|yD 1 [] [3] rfl<|bE N fun y hy N=>wZ (xN n0 (-9999) 9999 _ hy ) fun I0 le=>xY [] [(2,.bool (!y))]<|zJ<|yX ?_;obtain rfl:=zC N;exact xZ
def mU (point:(List Int)):Option (Bool):=do
 let t2←(do
   if (decide ((point.length:Int) ≤ 4)) then
    let y←yU point pK
    pure (!y)
   else
    pure false
     : Option Bool)
 pure (id t2)
theorem zAh:∀ point r,mU point=some r→∀ {I:Imm}{p c},(S4 I p point c)→RT 92 [vS p point c] I [] (zS  r):=by
 intro point r N I p c h;unfold mU at N;refine yJ Tryz.func92 fun B=>?_;have H:=iS I;refine vU []<|zJ<|zZ ?_;refine wD N [] (fun t2=>[(2,.bool t2)]) (fun o0 ho0=>?_) ?_
 · have H:=iS I;refine zO<|yD 4 [] [6] rfl<|xQ [6] ho0 ?_ ?_
   · intro hc N;refine yD 5 [] [7] rfl ?_;have hf0:FV1 Tryz.prog I [] (.func (.func 155) ⟨[]⟩ ⟨[]⟩) pK:=by
       refine FV1.intro ?_;intro I1 le1 x0 r u0 hF k0;obtain rfl:=k0;exact (zDC x0 r hF ).mono (by rintro k i hs u ⟨v0,rfl,rfl,h⟩; exact ⟨rfl,h⟩)
     obtain ⟨y,hy,N⟩:=zB N;refine xP (wV point pK _ hy h hf0) ?_;rintro I01 hs2 v2 k2 le - ⟨v0,rfl,rfl,rfl⟩ -;have H:=H.trans le;exact yI [] [2] rfl<|yQ<|zR (ct N H)
   intro hc N;exact xY [] [(2,vF)]<|yQ<|zR (ct N H)
 intro t2 I0 le1 hMc;refine zJ<|yX ?_;obtain rfl:=zC hMc;exact xZ
def zAi (r:(List zG)):KT:=fun kk I' hs' v=>
  ∃ v0,hs'=[]∧v=tupV [v0]∧SL I' v0 r
mutual
def kI (e0:zD):Option ((List zG)):=do
 if (e0.Kind == 3) then
  pure ([e0.Read]:List zG)
 else
  let out1←oG (same e0) ([]:List zG) (same 0)
  pure (id out1)
 partial_fixpoint
def oG (e0:zD) (out:List zG) (t15:Int):Option (List zG):=do
 if (decide (t15 < (e0.Kids.length:Int))) then
  let x←idx e0.Kids t15
  let y←kI (same x)
  let out2←app 40 out y
  oG (same e0) (same out2) (W (t15 + 1))
 else
  pure (id out)
 partial_fixpoint
end
theorem zEx:(∀ (e0:zD) r,kI e0=some r→∀ {I:Imm}{p c p1 c1 p2 c2},(S4 I p e0.Index.Coefs c)→(S4 I p1 e0.Read.Subs c1)→(S4 I p2 e0.Kids c2)→RT 49 [vA (cExpr e0 p c p1 c1 p2 c2)] I [] (zAi  r))∧(∀ (e0:zD) (out:List zG) (t15:Int) o,oG e0 out t15=some o→∀ {B}{I0 I:Imm}{Q p2 c2 p3 c3 cs},I0.le I→(S4 I p2 e0.Kids c2)→(RL I cs out)→NG Q→NO Q→(∀ (I':Imm) (out1:List zG) (p4:Option Addr) (c4:Nat) (cs1:List Value),o=out1→I0.le I'→(RL I' cs1 out1)→T 25 B Q (.exit 0) I' [hO zG (vS p4 out1 c4) cs1] [(3,vS p4 out1 c4)])→J Tryz.prog 25 B (nav (bodyOf Tryz.f49) [1,1,1,0,1,0]) Q I [hO zG (vS p3 out c3) cs] [(3,vS p3 out c3),(13,vS p2 e0.Kids c2),(14,vI (e0.Kids.length:Int)),(15,vI t15)]):=by
  refine kI.mutual_partial_correctness _ _ ?_ ?_
  · intro F_impl_reads_l1 ih_impl_reads_l1 e0 r N I p c p1 c1 p2 c2 h h1 h2;refine yJ Tryz.func49 fun B=>yB<|vM (cExpr e0 p c p1 c1 p2 c2) ?_;intro b hb;refine xY [] []<|yA<|yB<|yI [0] [8] rfl<|zJ<|yE N ?_ ?_
    · intro hc N;refine yB<|sU 2 [0] [(10,vA (cAccess e0.Read p1 c1))]<|tJ (cAccess e0.Read p1 c1) zG ?_;intro b1 hb1;have h3:RL I (cAccess e0.Read p1 c1) ([e0.Read]:List zG):=⟨(cAccess e0.Read p1 c1),_,rfl,rfl,(qT ⟨_,rfl,h1⟩),rfl⟩;refine yI [] [2] rfl<|xB<|zI<|xJ 0 rfl ?_;intro I0 le hl0;have h4:=SL.of_frozen hl0 le h3;obtain rfl:=zC N;exact xC ⟨_,_,(.tmp rfl ResV.nil),zP,⟨_,rfl,rfl,h4⟩⟩
    intro hc N;refine zT<|zIX [(3,z0)]<|yA<|yB<|yI [0] [13,14,15] rfl<|wK<|kP (zY [] (hs':=[]))<|oM [(3,z0),(13,vS p2 e0.Kids c2),(14,vI (e0.Kids.length:Int)),(15,vI 0)]<|zAE zG fun h5=>?_;obtain ⟨o0,ho0,hMl⟩:=zB N;refine ih_impl_reads_l1 e0 ([]:List zG) 0 o0 ho0 iR h2 h5 (fun _ _ _ h=>h) (fun _ _ h=>h) ?_;intro I02 out1 p4 c4 cs1 heq le2 h7;subst o0;refine zV<|vV [2] rfl<|xB<|xJ 0 rfl ?_;intro I03 le3 hl01;have h13:=SL.of_frozen hl01 le3 h7;obtain rfl:=zC hMl;exact xC ⟨_,_,(.tmp rfl ResV.nil),zP,⟨_,rfl,rfl,h13⟩⟩
  intro F_impl_reads F_impl_reads_l1 ih_impl_reads ih_impl_reads_l1 e0 out t15 o N B I0 I Q p2 c2 p3 c3 cs H h2 h6 hg ho hx;refine yY hg ho<|yH [16] rfl<|yA<|yE N ?_ ?_
  · intro hc1 N;refine zT<|yA<|yL<|yB<|bE N fun x hy N=>xS rfl rfl h2 hy ?_;intro ad ccs hat hrep;obtain ⟨p5,c5,p6,c6,p7,c7,rfl,h8,h9,h10⟩:=xX hrep;refine xL 0 hat (cExpr x p5 c5 p6 c6 p7 c7) (vA (cExpr x p5 c5 p6 c6 p7 c7)) rfl<|wU zExpr ?_;intro b2 hb2;refine xI 0 (cExpr x p5 c5 p6 c6 p7 c7) rfl<|yC rfl<|zJ<|zO<|sU 2 [0] [(19,vS p3 out c3),(20,vA (cExpr x p5 c5 p6 c6 p7 c7))]<|bE N fun y hy1 N=>xP (ih_impl_reads x _ hy1 h8 h9 h10) ?_;rintro I01 hs2 v2 k2 le1 - ⟨v03,rfl,rfl,h11⟩ -;have ⟨h2,h6,H⟩:=m3 le1 h2 h6 H;obtain ⟨p8,c8,rfl⟩:=h11.form;obtain ⟨ccs1,k0,k01⟩:=h11;have h11:SL I01 (vS p8 y c8) y:=⟨_,k0,k01⟩;obtain ⟨out2,hy2,N⟩:=zB N;exact pP 41 2 1 rfl rfl rfl h6 (.inl k0) k01 hy2 fun p9 c9 cs2 h12=>sX (zY [0,1] (hs':=[hB b2 (cExpr x p5 c5 p6 c6 p7 c7),hO zG (vS p9 out2 c9) cs2]))<|yI [] [3] rfl<|zQ<|zJ<|zO<|yI [] [15] rfl<|yZ<|kP (zX [1] rfl (by decide))<|mW<|ih_impl_reads_l1 e0 out2 (W (t15 + 1)) _ N H h2 h12 hg ho hx
  intro hc1 N;exact uA<|yQ<|hx _ _ _ _ _ (zC N).symm H h6
theorem zF0:∀ e0 r,kI e0=some r→∀ {I:Imm}{p c p1 c1 p2 c2},(S4 I p e0.Index.Coefs c)→(S4 I p1 e0.Read.Subs c1)→(S4 I p2 e0.Kids c2)→RT 49 [vA (cExpr e0 p c p1 c1 p2 c2)] I [] (zAi  r):=zEx.1
def sW (hsF:List HA) (r:Int):KT:=fun kk I' hs' v=>
  ∃ v0,hsF=hs'∧v=tupV [v0]∧v0=.int .i64 r
def yW (s:(List zG)) (f0:(zG→Option Bool)) (t8:Int):Option (Out Unit (Int)):=do
 if (decide (t8 < (s.length:Int))) then
  let x←idx s t8
  let y←f0 x
  if y then
   pure (.ret t8)
  else
   yW s f0 (W (t8 + 1))
 else
  pure (.done ())
 partial_fixpoint
theorem mF (s:(List zG)) (f0:(zG→Option Bool)):∀ (t8:Int) (o:Out Unit (Int)),yW s f0 t8=some o→∀ {B}{I0 I:Imm}{Q p c}{fv:Value}{hsF:List HA},I0.le I→(S4 I p s c)→(FV1 Tryz.prog I hsF fv f0)→NG Q→NO Q→(∀ (I':Imm) ,o=(.done ())→I0.le I'→T 19 B Q (.exit 0) I' hsF [])→(∀ r I' hs' m',o=(.ret r)→I0.le I'→RS Tryz.prog Tryz.f162 B (sW hsF r) I' hs' m'→T 19 B Q .ret I' hs' m')→J Tryz.prog 19 B (nav (bodyOf Tryz.f162) [1,0,1,0]) Q I hsF [(0,vS p s c),(1,fv),(7,vI (s.length:Int)),(8,vI t8)]:=by
 refine yW.partial_correctness s f0 _ fun self ih t8 o N B I0 I Q p c fv hsF H h h1 hg ho hx hr=>yY hg ho<|yH [9] rfl<|yA<|yE N ?_ ?_
 · intro hc N;refine zT<|yA<|yL<|yH [5] rfl<|xE<|yD 3 [] [11,12,13] rfl<|bE N fun x hy N=>xS rfl rfl h hy ?_;intro ad ccs hat hrep;obtain ⟨p1,c1,rfl,h2⟩:=rS hrep;refine xL 0 hat (cAccess x p1 c1) (vA (cAccess x p1 c1)) rfl<|bE N fun y hy1 N=>zGl rfl rfl h1 hy1 ⟨_,rfl,(qT ⟨_,rfl,h2⟩)⟩ (List.append_nil _).symm ?_;rintro I0 v01 le rfl;refine uR (hs':=hsF) (List.append_nil _) ?_;have ⟨h,h1,H⟩:=m3 le h h1 H;refine yC rfl<|zJ<|yE N ?_ ?_
   · intro hc1 N;exact yH [4] rfl<|xB<|zU<|zI<|zI<|hr _ _ _ _ (zC N).symm H ⟨_,_,(.tmp rfl ResV.nil),(fun _ h=>h),⟨_,rfl,rfl,rfl⟩⟩
   intro hc1 N;exact zT<|zQ<|zJ<|zO<|yI [] [8] rfl<|yZ<|mW<|ih (W (t8 + 1)) _ N H h h1 hg ho hx hr
 intro hc N;exact uA<|yQ<|hx _  (zC N).symm H
def wO (s:(List zG)) (f0:(zG→Option Bool)):Option (Int):=do
 match←yW s f0 0 with
 | .ret r0=>pure r0
 | .done _ =>
  pure (-1)
theorem mY:∀ s f0 r,wO s f0=some r→∀ {I:Imm}{p c}{fv:Value}{hsF:List HA},(S4 I p s c)→(FV1 Tryz.prog I hsF fv f0)→RT 162 [vS p s c,fv] I hsF (sW hsF r):=by
 intro s f0 r N I p c fv hsF h h1;unfold wO at N;refine yJ Tryz.func162 fun B=>vU []<|yA<|yH [7,8] rfl<|wK<|oM [(0,vS p s c),(1,fv),(7,vI (s.length:Int)),(8,vI 0)] ?_;obtain ⟨o0,ho0,hMl⟩:=zB N;refine mF s f0 0 o0 ho0 iR h h1 (fun _ _ _ h=>h) (fun _ _ h=>h) ?_ ?_
 · intro I01  heq le1;subst o0;refine zV<|vV [4] rfl<|zJ<|yX ?_;obtain rfl:=zC hMl;exact xC ⟨_,_,(.tmp rfl ResV.nil),(fun _ h=>h),⟨_,rfl,rfl,rfl⟩⟩
 intro r0 I9 hs9 m9 heq9 le9 hrs9;subst heq9;refine zU<|zI ?_;obtain rfl:=zC hMl;exact xC hrs9
def nJ (hsF:List HA) (r:Bool):KT:=fun kk I' hs' v=>
  ∃ v0,hsF=hs'∧v=tupV [v0]∧v0=.bool r
def xO (s:(List zG)) (f0:(zG→Option Bool)):Option (Bool):=do
 let y←wO s f0
 pure (decide (y ≥ 0))
theorem mG:∀ s f0 r,xO s f0=some r→∀ {I:Imm}{p c}{fv:Value}{hsF:List HA},(S4 I p s c)→(FV1 Tryz.prog I hsF fv f0)→RT 102 [vS p s c,fv] I hsF (nJ hsF r):=by
 intro s f0 r N I p c fv hsF h h1;unfold xO at N;refine yJ Tryz.func102 fun B=>vU []<|xE<|yD 2 [] [5,6] rfl<|bE N fun y hy N=>zDM (hs1:=hsF) (rest:=[]) rfl rfl rfl rfl (by kernel_rfl) rfl (List.append_nil _).symm (mY s f0 _ hy h h1) ?_;rintro I0 hs2 v2 k2 le - ⟨v0,rfl,rfl,rfl⟩ -;refine uR (hs':=hsF) (List.append_nil _) ?_;refine yI [] [4] rfl<|zJ<|yX ?_;obtain rfl:=zC N;exact xC ⟨_,_,(.tmp rfl ResV.nil),(fun _ h=>h),⟨_,rfl,rfl,rfl⟩⟩
def tO (a0:zF) (n0:Int) (t9:Int):Option (Int):=do
 if (decide (t9 < (a0.Dims.length:Int))) then
  let x←idx a0.Dims t9
  tO a0 (W (n0 * x)) (W (t9 + 1))
 else
  pure (id n0)
 partial_fixpoint
theorem zAp (a0:zF):∀ (n0:Int) (t9:Int) (o:Int),tO a0 n0 t9=some o→∀ {B}{I0 I:Imm}{Q p c},I0.le I→(S4 I p a0.Dims c)→NG Q→NO Q→(∀ (I':Imm) (n01:Int),o=n01→I0.le I'→T 18 B Q (.exit 0) I' [] [(3,vI n01)])→J Tryz.prog 18 B (nav (bodyOf Tryz.f174) [1,1,0,1,0]) Q I [] [(3,vI n0),(7,vS p a0.Dims c),(8,vI (a0.Dims.length:Int)),(9,vI t9)]:=by
 refine tO.partial_correctness a0 _ fun self ih n0 t9 o N B I0 I Q p c H h hg ho hx=>yY hg ho<|yH [10] rfl<|yA<|yE N ?_ ?_
 · intro hc N;refine zT<|yA<|yL<|yB<|bE N fun x hy N=>xS rfl rfl h hy ?_;intro ad ccs hat hrep;obtain rfl:=hrep;exact xL 0 hat [vI x] (vI x) rfl<|yI [] [5] rfl<|zJ<|zO<|yI [] [3] rfl<|zQ<|zJ<|zO<|yI [] [9] rfl<|yZ<|mW<|ih (W (n0 * x)) (W (t9 + 1)) _ N H h hg ho hx
 intro hc N;exact uA<|yQ<|hx _ _ (zC N).symm H
def pY (a0:zF):Option (Int):=do
 let n01←tO a0 1 0
 pure (id n01)
theorem eQ:∀ a0 r,pY a0=some r→∀ {I:Imm}{p c},(S4 I p a0.Dims c)→RT 174 [vA (cArr a0 p c)] I [] (yP  r):=by
 intro a0 r N I p c h;unfold pY at N;refine yJ Tryz.func174 fun B=>yB<|vM (cArr a0 p c) ?_;intro b hb;refine xY [] []<|vV [3] rfl<|yA<|yB<|yI [0] [7,8,9] rfl<|wK<|kP (zY [] (hs':=[]))<|oM [(3,vI 1),(7,vS p a0.Dims c),(8,vI (a0.Dims.length:Int)),(9,vI 0)] ?_;obtain ⟨o0,ho0,hMl⟩:=zB N;refine zAp a0 1 0 o0 ho0 iR h (fun _ _ _ h=>h) (fun _ _ h=>h) ?_;intro I0 n01 heq le;subst o0;refine zV<|vV [2] rfl<|zJ<|yX ?_;obtain rfl:=zC hMl;exact xZ
def uU (a0:zG) (point:(List Int)) (x:zF) (at0:Int) (t40:Int):Option (Out Int (Int)):=do
 if (decide (t40 < (a0.Subs.length:Int))) then
  let x1←idx a0.Subs t40
  let y1←wX x1 point
  let x2←idx x.Dims t40
  let y2←xT y1 0 (W (x2 - 1))
  if (!y2) then
   pure (.ret (-1))
  else
   let x3←idx x.Dims t40
   uU a0 point x (W ((W (at0 * x3)) + y1)) (W (t40 + 1))
 else
  pure (.done at0)
 partial_fixpoint
theorem zAT (a0:zG) (point:(List Int)) (x:zF):∀ (at0:Int) (t40:Int) (o:Out Int (Int)),uU a0 point x at0 t40=some o→∀ {B}{I0 I:Imm}{Q}{first:Int}{p3 c2 p4 c3 p5 c4}{b2:Nat},I0.le I→(S4 I p4 point c3)→(S4 I p3 a0.Subs c2)→(S4 I p5 x.Dims c4)→NG Q→NO Q→(∀ (I':Imm) (at01:Int),o=(.done at01)→I0.le I'→T 71 B Q (.exit 2) I' [] [(7,vI first),(10,vI at01)])→(∀ r I' hs' m',o=(.ret r)→I0.le I'→RS Tryz.prog Tryz.f128 B (yP  r) I' hs' m'→T 71 B Q .ret I' hs' m')→J Tryz.prog 71 B (nav (bodyOf Tryz.f128) [1,1,0,1,0,0,1,1,0,0,1,1,1,1,0,1,0]) Q I [hB b2 (cArr x p5 c4)] [(2,vS p4 point c3),(7,vI first),(9,vP b2 0),(10,vI at0),(38,vS p3 a0.Subs c2),(39,vI (a0.Subs.length:Int)),(40,vI t40)]:=by
 refine uU.partial_correctness a0 point x _ fun self ih at0 t40 o N B I0 I Q first p3 c2 p4 c3 p5 c4 b2 H h3 h2 h4 hg ho hx hr=>yY hg ho<|yH [41] rfl<|yA<|yE N ?_ ?_
 · intro hc3 N;refine zT<|yA<|yL<|yB<|yD 1 [] [42] rfl<|bE N fun x1 hy2 N=>xS rfl rfl h2 hy2 ?_;intro ad1 ccs1 hat1 hrep1;obtain ⟨p6,c5,rfl,h6⟩:=yG hrep1;refine xL 0 hat1 (cAff x1 p6 c5) (vA (cAff x1 p6 c5)) rfl<|wU [z0,vI 0] ?_;intro b3 hb3;refine yD 5 [] [11] rfl<|xI 0 (cAff x1 p6 c5) rfl<|yC rfl<|xE<|sU 2 [0] [(45,vA (cAff x1 p6 c5)),(46,vS p4 point c3)]<|bE N fun y1 hy3 N=>oH (sI x1 point _ hy3 h6 h3) ?_;intro I01 le1;have ⟨h3,h2,h4,H⟩:=m4 le1 h3 h2 h4 H;refine yI [] [13] rfl<|yA<|yB<|yD 4 [1] [48,50,51] rfl<|bE N fun x2 hy4 N=>xS rfl rfl h4 hy4 ?_;intro ad2 ccs2 hat2 hrep2;obtain rfl:=hrep2;refine xL 0 hat2 [vI x2] (vI x2) rfl<|yD 7 [] [54] rfl<|bE N fun y2 hy5 N=>wZ (xN y1 0 (W (x2 - 1)) _ hy5 ) ?_;intro I02 le2;have ⟨h3,h2,h4,H⟩:=m4 le2 h3 h2 h4 H;refine yI [] [56] rfl<|zJ<|yE N ?_ ?_
   · intro hc4 N;exact yH [6] rfl<|xB<|zI<|zU<|zI<|zI<|hr _ _ _ _ (zC N).symm H ⟨_,_,(.tmp rfl ResV.nil),zP,⟨_,rfl,rfl,rfl⟩⟩
   intro hc4 N;refine zT<|zJ<|zO<|yD 4 [1] [57,59,60] rfl<|bE N fun x3 hy6 N=>xS rfl rfl h4 hy6 ?_;intro ad3 ccs3 hat3 hrep3;obtain rfl:=hrep3;exact xL 0 hat3 [vI x3] (vI x3) rfl<|yI [] [10] rfl<|zQ<|zJ<|zO<|yI [] [40] rfl<|yZ<|kP (zX [1] rfl (by decide))<|mW<|ih (W ((W (at0 * x3)) + y1)) (W (t40 + 1)) _ N H h3 h2 h4 hg ho hx hr
 intro hc3 N;exact uA<|xV zP<|yQ<|hx _ _ (zC N).symm H
def vL (p:zK) (a0:zG) (point:(List Int)) (first:Int) (t17:Int):Option (Out Unit (Int)):=do
 if (decide (t17 < (p.Arrays.length:Int))) then
  let x←idx p.Arrays t17
  if (!(x.Name.l == a0.Array.l)) then
   let y←pY x
   vL p a0 point (W (first + y)) (W (t17 + 1))
  else
   if ((a0.Subs.length:Int) != (x.Dims.length:Int)) then
    pure (.ret (-1))
   else
    match←uU a0 point x 0 0 with
    | .ret r0=>pure (.ret r0)
    | .done at01 =>
     pure (.ret (W (first + at01)))
 else
  pure (.done ())
 partial_fixpoint
theorem zAU (p:zK) (a0:zG) (point:(List Int)):∀ (first:Int) (t17:Int) (o:Out Unit (Int)),vL p a0 point first t17=some o→∀ {B}{I0 I:Imm}{Q p1 c p3 c2 p4 c3}{b1:Nat},I0.le I→(S4 I p4 point c3)→(S4 I p1 p.Arrays c)→(S4 I p3 a0.Subs c2)→NG Q→NO Q→(∀ (I':Imm) ,o=(.done ())→I0.le I'→T 71 B Q (.exit 0) I' [] [])→(∀ r I' hs' m',o=(.ret r)→I0.le I'→RS Tryz.prog Tryz.f128 B (yP  r) I' hs' m'→T 71 B Q .ret I' hs' m')→J Tryz.prog 71 B (nav (bodyOf Tryz.f128) [1,1,0,1,0]) Q I [hB b1 (cAccess a0 p3 c2)] [(2,vS p4 point c3),(4,vP b1 0),(7,vI first),(15,vS p1 p.Arrays c),(16,vI (p.Arrays.length:Int)),(17,vI t17)]:=by
 refine vL.partial_correctness p a0 point _ fun self ih first t17 o N B I0 I Q p1 c p3 c2 p4 c3 b1 H h3 h h2 hg ho hx hr=>yY hg ho<|yH [18] rfl<|yA<|yE N ?_ ?_
 · intro hc N;refine zT<|yA<|yL<|yB<|bE N fun x hy N=>xS rfl rfl h hy ?_;intro ad ccs hat hrep;obtain ⟨p5,c4,rfl,h4⟩:=wT hrep;refine xL 0 hat (cArr x p5 c4) (vA (cArr x p5 c4)) rfl<|wU [vT ([]),z0] ?_;intro b2 hb2;refine xI 0 (cArr x p5 c4) rfl<|yC rfl<|yA<|yB<|yI [0,1] [25] rfl<|zJ<|yE N ?_ ?_
   · intro hc1 N;refine yB<|sU 2 [0] [(26,vI first),(27,vA (cArr x p5 c4))]<|bE N fun y hy1 N=>oH (eQ x _ hy1 h4) ?_;intro I0 le;have ⟨h3,h,h2,H⟩:=m4 le h3 h h2 H;exact yI [] [7] rfl<|zJ<|zGE<|jY<|zV<|zJ<|zO<|yI [] [17] rfl<|yZ<|kP (zX [1] rfl (by decide))<|mW<|ih (W (first + y)) (W (t17 + 1)) _ N H h3 h h2 hg ho hx hr
   intro hc1 N;refine zT<|yA<|yB<|yI [1,0] [36] rfl<|zJ<|yE N ?_ ?_
   · intro hc2 N;exact yH [6] rfl<|xB<|zI<|zU<|zI<|zI<|hr _ _ _ _ (zC N).symm H ⟨_,_,(.tmp rfl ResV.nil),zP,⟨_,rfl,rfl,rfl⟩⟩
   intro hc2 N;refine zT<|vV [10] rfl<|yA<|yB<|yI [1] [38,39,40] rfl<|wK<|kP (zY [0] (hs':=[hB b2 (cArr x p5 c4)]))<|oM [(2,vS p4 point c3),(7,vI first),(9,vP b2 0),(10,vI 0),(38,vS p3 a0.Subs c2),(39,vI (a0.Subs.length:Int)),(40,vI 0)] ?_;obtain ⟨o0,ho0,hMl⟩:=zB N;refine zAT a0 point x 0 0 o0 ho0 iR h3 h2 h4 (fun _ _ _ h=>hg _ _ _ h) (fun _ _ h=>ho _ _ h) ?_ ?_
   · intro I03 at01 heq le3;subst o0;have H:=H.trans le3;exact zV<|vV [6] rfl<|xB<|zU<|zI<|zI<|hr _ _ _ _ (zC hMl).symm H ⟨_,_,(.tmp rfl ResV.nil),zP,⟨_,rfl,rfl,rfl⟩⟩
   intro r0 I9 hs9 m9 heq9 le9 hrs9;subst heq9;exact zU<|zI<|zU<|zI<|zI<|hr _ _ _ _ (zC hMl).symm (H.trans le9) hrs9
 intro hc N;exact uA<|xV zP<|yQ<|hx _  (zC N).symm H
def tB (p:zK) (a0:zG) (point:(List Int)):Option (Int):=do
 match←vL p a0 point 0 0 with
 | .ret r0=>pure r0
 | .done _ =>
  pure (-1)
theorem jB:∀ p a0 point r,tB p a0 point=some r→∀ {I:Imm}{p1 c p2 c1 p3 c2 p4 c3},(S4 I p1 p.Arrays c)→(S4 I p2 p.Parts c1)→(S4 I p3 a0.Subs c2)→(S4 I p4 point c3)→RT 128 [vA (cProg p p1 c p2 c1),vA (cAccess a0 p3 c2),vS p4 point c3] I [] (yP  r):=by
 intro p a0 point r N I p1 c p2 c1 p3 c2 p4 c3 h h1 h2 h3;unfold tB at N;refine yJ Tryz.func128 fun B=>yB<|vM (cProg p p1 c p2 c1) ?_;intro b hb;refine vM (cAccess a0 p3 c2) ?_;intro b1 hb1;refine xY [] []<|vV [7] rfl<|yA<|yB<|yI [1] [15,16,17] rfl<|wK<|kP (zY [0] (hs':=[hB b1 (cAccess a0 p3 c2)]))<|oM [(2,vS p4 point c3),(4,vP b1 0),(7,vI 0),(15,vS p1 p.Arrays c),(16,vI (p.Arrays.length:Int)),(17,vI 0)] ?_;obtain ⟨o01,ho01,hMl1⟩:=zB N;refine zAU p a0 point 0 0 o01 ho01 iR h3 h h2 (fun _ _ _ h=>h) (fun _ _ h=>h) ?_ ?_
 · intro I04  heq1 le4;subst o01;refine zV<|vV [6] rfl<|zJ<|yX ?_;obtain rfl:=zC hMl1;exact xZ
 intro r0 I9 hs9 m9 heq9 le9 hrs9;subst heq9;refine zU<|zI ?_;obtain rfl:=zC hMl1;exact xC hrs9
def uH (a0:zG) (x:zK) (x1:(List Int)):Option (Bool):=do
 let y←tB x a0 x1
 pure (decide (y < 0))
theorem dZ:∀ a0 x x1 r,uH a0 x x1=some r→∀ {I:Imm}{p c}{ad:Addr}{p1 c1 p2 c2}{ad1:Addr}{p3 c3},(S4 I p a0.Subs c)→(S4 I p1 x.Arrays c1)→(S4 I p2 x.Parts c2)→(At I ad (cProg x p1 c1 p2 c2))→(S4 I p3 x1 c3)→(At I ad1 [vS p3 x1 c3])→RT 156 [vA (cAccess a0 p c),.pointer (some ad),.pointer (some ad1)] I [] (zS  r):=by
 intro a0 x x1 r N I p c ad p1 c1 p2 c2 ad1 p3 c3 h h1 h2 hat h3 hat1;unfold uH at N;refine yJ Tryz.func156 fun B=>yB<|vM (cAccess a0 p c) ?_;intro b hb;refine xY [] []<|xE<|xL 0 hat (cProg x p1 c1 p2 c2) (vA (cProg x p1 c1 p2 c2)) rfl<|sU 2 [0] [(6,vA (cAccess a0 p c))]<|xL 0 hat1 [vS p3 x1 c3] (vS p3 x1 c3) rfl<|bE N fun y hy N=>oH (jB x a0 x1 _ hy h1 h2 h h3) fun I0 le=>xY [] [(4,.bool (decide (y < 0)))]<|zJ<|yX ?_;obtain rfl:=zC N;exact xZ
def qR (p:zK) (s:zN) (point:(List Int)):Option (Bool):=do
 let t6←(do
   let y←tB p s.Write point
   if (decide (y ≥ 0)) then
    let y1←kI s.Value
    let y2←xO y1 (fun x0=>uH x0 p point)
    pure (!y2)
   else
    pure false
     : Option Bool)
 pure (id t6)
theorem zA6:∀ p s point r,qR p s point=some r→∀ {I:Imm}{p1 c p2 c1 p3 c2 p4 c3 p5 c4 p6 c5 p7 c6},(S4 I p1 p.Arrays c)→(S4 I p2 p.Parts c1)→(S4 I p3 s.Write.Subs c2)→(S4 I p4 s.Value.Index.Coefs c3)→(S4 I p5 s.Value.Read.Subs c4)→(S4 I p6 s.Value.Kids c5)→(S4 I p7 point c6)→RT 93 [vA (cProg p p1 c p2 c1),vA (cStmt s p3 c2 p4 c3 p5 c4 p6 c5),vS p7 point c6] I [] (zS  r):=by
 intro p s point r N I p1 c p2 c1 p3 c2 p4 c3 p5 c4 p6 c5 p7 c6 h h1 h2 h3 h4 h5 h6;unfold qR at N;refine yJ Tryz.func93 fun B=>?_;have H:=iS I;refine yB<|vM (cProg p p1 c p2 c1) ?_;intro b hb;refine xK 0 rfl ?_;intro I0 le hl0;have hat:At I0 ⟨b,0,none⟩ (cProg p p1 c p2 c1):=At.of_blk hl0;have ⟨h,h1,h2,h3,h4,h5⟩:=m6 le h h1 h2 h3 h4 h5;have ⟨h6,H⟩:=m2 le h6 H;refine vM (cStmt s p3 c2 p4 c3 p5 c4 p6 c5) ?_;intro b1 hb1;refine vM [vS p7 point c6] ?_;intro b2 hb2;refine xK 0 rfl ?_;intro I01 le1 hl01;have hat1:At I01 ⟨b2,0,none⟩ [vS p7 point c6]:=At.of_blk hl01;have ⟨h,h1,h2,h3,h4,h5⟩:=m6 le1 h h1 h2 h3 h4 h5;have ⟨h6,hat,H⟩:=m3 le1 h6 hat H;refine xY [] []<|zJ<|zZ ?_;refine wD N [] (fun t6=>[(6,.bool t6)]) (fun o0 ho0=>?_) ?_
 · have H:=iS I01;refine zO<|xL 0 hat (cProg p p1 c p2 c1) (vA (cProg p p1 c p2 c1)) rfl<|sU 3 [0] [(9,vA (cAccess s.Write p3 c2))]<|xL 0 hat1 [vS p7 point c6] (vS p7 point c6) rfl ?_;obtain ⟨y,hy,N⟩:=zB ho0;refine oH (jB p s.Write point _ hy h h1 h2 h6) ?_;intro I03 le2;have ⟨h,h1,hat,h6,hat1,h3⟩:=m6 le2 h h1 hat h6 hat1 h3;have ⟨h4,h5,H⟩:=m3 le2 h4 h5 H;refine yD 7 [] [13] rfl<|xQ [13] N ?_ ?_
   · intro hc N;refine sU 9 [0] [(15,vA (cExpr s.Value p4 c3 p5 c4 p6 c5))]<|bE N fun y1 hy1 N=>xP (zF0 s.Value _ hy1 h3 h4 h5) ?_;rintro I04 hs2 v2 k2 le3 - ⟨v01,rfl,rfl,h8⟩ -;have ⟨h,h1,hat,h6,hat1,H⟩:=m6 le3 h h1 hat h6 hat1 H;obtain ⟨p8,c7,rfl⟩:=h8.form;refine yD 11 [] [17] rfl ?_;have hf0:FV1 Tryz.prog I04 [] (.func (.func 156) ⟨[]⟩ ⟨[vP b 0,vP b2 0]⟩) (fun x0=>uH x0 p point):=by
       refine FV1.intro ?_;intro I1 le1 x0 r u0 hF k0;obtain ⟨_,rfl,k0⟩:=k0;obtain ⟨p9,c8,rfl,h9⟩:=rS k0;exact (dZ x0 p point r hF h9 (h.mono le1) (h1.mono le1) (hat.mono le1) (h6.mono le1) (hat1.mono le1)).mono (by rintro k i hs u ⟨v0,rfl,rfl,h⟩; exact ⟨rfl,h⟩)
     obtain ⟨y2,hy2,N⟩:=zB N;refine xP (mG y1 (fun x0=>uH x0 p point) _ hy2 h8 hf0) ?_;rintro I05 hs2 v2 k2 le4 - ⟨v03,rfl,rfl,rfl⟩ -;have H:=H.trans le4;exact yI [] [6] rfl<|xV zP<|yQ<|zR (ct N H)
   intro hc N;exact xY [] [(6,vF)]<|xV zP<|yQ<|zR (ct N H)
 intro t6 I02 le5 hMc;refine zJ<|yX ?_;obtain rfl:=zC hMc;exact xZ
end Go.LN
