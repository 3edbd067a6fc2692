/- Helper of the proof (see the last text). -/
import Derived.Test.YtmlnffbepjijhaaGreatHM6
set_option linter.unusedVariables false
set_option linter.unusedSimpArgs false
namespace Go.LN
open Go.Proofs
set_option maxRecDepth 20000
instance {i j:Imm}{v:Value}{raws:List Raw2}{A:List zD}{k:Int}{w:Value}:Mo (ArW i v raws A k w) i j (ArW j v raws A k w):=⟨fun h x=>x.mono h⟩
def eK (r:zF×Bool):KT:=fun kk I' hs' v=>
  ∃ v0 v1,hs'=[]/\v=tupV [v0,v1]/\(∃ cs,v0=.agg ⟨cs⟩/\Rp.rep I' cs r.1)/\v1=.bool r.2
def uU (x:zD) (dims:List Int) (t45:Int):Option (List Int):=do
 if (decide (t45<(x.Dims.length:Int))) then
  let x1<-idx dims t45
  let l<-pure (dims.set t45.toNat 1)
  uU x l (W (t45+1))
 else
  pure (id dims)
 partial_fixpoint
theorem zC9 (x:zD):∀ (dims:List Int) (t45:Int) (o:List Int),uU x dims t45=some o->∀ {B}{I0 I:Imm}{Q}{p:zF}{name:Str}{y1:(List zN)}{y3:Int}{y4:zF}{xs:List ND}{p1 c p2 c1}{b:Nat}{b1:Nat}{b2:Nat}{p3 c2}{pa:Option Addr}{ca:Nat}{pp:Option Addr}{cp:Nat}{b3:Nat}{pd:Option Addr}{cd:Nat}{cs},I0.le I->(At I ⟨b1,0,none⟩ [vT name.l])->(S4 I p3 y1 c2)->(ArW I (vS pa (xs.map ND.raw) ca) (xs.map ND.raw) y4.Arrays y3 (vS pd x.Dims cd))->(S4 I pp y4.Parts cp)->(S4 I p1 p.Arrays c)->(S4 I p2 p.Parts c1)->(RL I cs dims)->NG Q->NO Q->(∀ (I':Imm) (dims1:List Int) (cs1:List Value),o=dims1->I0.le I'->(RL I' cs1 dims1)->T 102 B Q (.exit 0) I' [hO Int (vS pd dims1 cd) cs1,hB b3 [vS pa (xs.map ND.raw) ca,vS pp y4.Parts cp],hB b2 zTwo,hB b (cProg p p1 c p2 c1)] [(2,vP b 0),(3,vP b1 0),(4,vP b2 0),(6,vS p3 y1 c2),(9,vP b3 0),(10,vS pd dims1 cd)])->J Tryz.prog 102 B (nav (bodyOf Tryz.f8) [1,1,1,1,1,1,0,1,0]) Q I [hO Int (vS pd dims cd) cs,hB b3 [vS pa (xs.map ND.raw) ca,vS pp y4.Parts cp],hB b2 zTwo,hB b (cProg p p1 c p2 c1)] [(2,vP b 0),(3,vP b1 0),(4,vP b2 0),(6,vS p3 y1 c2),(9,vP b3 0),(10,vS pd dims cd),(44,vI (x.Dims.length:Int)),(45,vI t45)]:=by
 refine uU.partial_correctness x _ fun self ih dims t45 o N B I0 I Q p name y1 y3 y4 xs p1 c p2 c1 b b1 b2 p3 c2 pa ca pp cp b3 pd cd cs H hat h2 hAr hP h h1 h7 hg ho hx=>yU hg ho<|yH [46] rfl<|zZ<|yG N ?_ ?_
 · intro hc2 N;refine zS<|zZ<|yF<|yH [11] rfl<|zK<|zM<|yE 2 [] [48,49] rfl<|bE N fun x1 hy5 N=>nU 0 rfl rfl rfl h7 hy5 ?_;intro ad ccs hat1 hcc hrep;obtain rfl:=hrep;obtain ⟨l,hy6,N⟩:=zB N;refine qE (c:=[vI 1]) (x':=1) 0 0 rfl rfl rfl hat1 rfl rfl hcc (by kernel_rfl) (by kernel_rfl) (by kernel_rfl) h7 hy5 (by kernel_rfl) rfl ?_;rw [show dims.set t45.toNat 1=l from zC hy6];intro cs2 h9 hl02;exact fY (m':=[(2,vP b 0),(3,vP b1 0),(4,vP b2 0),(6,vS p3 y1 c2),(9,vP b3 0),(10,vS pd dims cd),(44,vI (x.Dims.length:Int)),(45,vI t45),(48,vS pd dims cd),(49,vI t45)]) ⟨rfl,rfl,rfl,rfl,rfl,rfl,rfl,rfl,rfl,rfl,trivial⟩<|zCX (hs':=[hO Int (vS pd l cd) cs2,hB b3 [vS pa (xs.map ND.raw) ca,vS pp y4.Parts cp],hB b2 zTwo,hB b (cProg p p1 c p2 c1)]) (m':=[(2,vP b 0),(3,vP b1 0),(4,vP b2 0),(6,vS p3 y1 c2),(9,vP b3 0),(10,vS pd l cd),(44,vI (x.Dims.length:Int)),(45,vI t45),(48,vS pd l cd),(49,vI t45)]) (by first | rfl | simp only [vS,hl02,List.nil_append,List.cons_append,List.set_cons_zero,List.set_cons_succ,List.eraseIdx_cons_zero,List.eraseIdx_cons_succ]) (by first | rfl | simp only [vS,hl02])<|zX rfl<|zO<|zK<|zM<|yM [] [45] rfl<|yT<|nT<|ih l (W (t45+1)) _ N H hat h2 hAr hP h h1 h9 hg ho hx
 intro hc2 N;exact wW<|yW<|hx _ _ _ (zC N).symm H h7
def uV (x2:zN) (x3:zG) (dims6:List Int) (t80:Int):Option (List Int):=do
 if (decide (t80<(x3.Subs.length:Int))) then
  let x4<-idx x3.Subs t80
  let x5<-idx dims6 t80
  let y7<-tR x4 x2.Point
  let x6<-idx dims6 t80
  let l2<-pure (dims6.set t80.toNat (if (W (y7+1))>x5 then (W (y7+1)) else x5))
  uV x2 x3 l2 (W (t80+1))
 else
  pure (id dims6)
 partial_fixpoint
theorem zCa (x2:zN) (x3:zG):∀ (dims6:List Int) (t80:Int) (o:List Int),uV x2 x3 dims6 t80=some o->∀ {B}{I0 I:Imm}{Q}{p:zF}{name:Str}{y1:(List zN)}{y3:Int}{y4:zF}{xs:List ND}{x:zD}{t54:Int}{l1:List zG}{t69:Int}{p1 c p2 c1}{b:Nat}{b1:Nat}{b2:Nat}{p3 c2}{pa:Option Addr}{ca:Nat}{pp:Option Addr}{cp:Nat}{b3:Nat}{pd:Option Addr}{cd:Nat}{p5 c4}{b4:Nat}{p11 c10 cs7 p12 c11 cs10},I0.le I->(At I ⟨b1,0,none⟩ [vT name.l])->(S4 I p3 y1 c2)->(RL I cs7 l1)->(S4 I p12 x3.Subs c11)->(S4 I p5 x2.Point c4)->(ArW I (vS pa (xs.map ND.raw) ca) (xs.map ND.raw) y4.Arrays y3 (vS pd x.Dims cd))->(S4 I pp y4.Parts cp)->(S4 I p1 p.Arrays c)->(S4 I p2 p.Parts c1)->(RL I cs10 dims6)->NG Q->NO Q->(∀ (I':Imm) (dims7:List Int) (cs11:List Value),o=dims7->I0.le I'->(RL I' cs11 dims7)->T 102 B Q (.exit 6) I' [hO zG (vS p11 l1 c10) cs7,hB b4 (cInst x2 p5 c4),hO Int (vS pd dims7 cd) cs11,hB b3 [vS pa (xs.map ND.raw) ca,vS pp y4.Parts cp],hB b2 zTwo,hB b (cProg p p1 c p2 c1)] [(2,vP b 0),(3,vP b1 0),(4,vP b2 0),(9,vP b3 0),(10,vS pd dims7 cd),(13,vP b4 0),(52,vS p3 y1 c2),(53,vI (y1.length:Int)),(54,vI t54),(67,vS p11 l1 c10),(68,vI (l1.length:Int)),(69,vI t69)])->J Tryz.prog 102 B (nav (bodyOf Tryz.f8) [1,1,1,1,1,1,1,0,1,0,0,1,1,0,0,1,1,1,0,0,1,1,0,0,1,1,1,0]) Q I [hO zG (vS p11 l1 c10) cs7,hB b4 (cInst x2 p5 c4),hO Int (vS pd dims6 cd) cs10,hB b3 [vS pa (xs.map ND.raw) ca,vS pp y4.Parts cp],hB b2 zTwo,hB b (cProg p p1 c p2 c1)] [(2,vP b 0),(3,vP b1 0),(4,vP b2 0),(9,vP b3 0),(10,vS pd dims6 cd),(13,vP b4 0),(52,vS p3 y1 c2),(53,vI (y1.length:Int)),(54,vI t54),(67,vS p11 l1 c10),(68,vI (l1.length:Int)),(69,vI t69),(78,vS p12 x3.Subs c11),(79,vI (x3.Subs.length:Int)),(80,vI t80)]:=by
 refine uV.partial_correctness x2 x3 _ fun self ih dims6 t80 o N B I0 I Q p name y1 y3 y4 xs x t54 l1 t69 p1 c p2 c1 b b1 b2 p3 c2 pa ca pp cp b3 pd cd p5 c4 b4 p11 c10 cs7 p12 c11 cs10 H hat h2 h21 h24 h12 hAr hP h h1 h25 hg ho hx=>yU hg ho<|yH [81] rfl<|zZ<|yG N ?_ ?_
 · intro hc6 N;refine zS<|zZ<|yF<|yC<|yE 1 [] [82] rfl<|bE N fun x4 hy12 N=>xT rfl rfl h24 hy12 ?_;intro ad3 ccs4 hat4 hrep3;obtain ⟨p13,c12,rfl,h27⟩:=yB hrep3;refine xO 0 hat4 (cAff x4 p13 c12) (vA (cAff x4 p13 c12)) rfl<|xU [z0,vI 0] ?_;intro b8 hb8;refine yE 5 [] [17] rfl<|yZ 0 (cAff x4 p13 c12) rfl<|zX rfl<|zK ?_;obtain ⟨x5,hy13,N⟩:=zB N;obtain ⟨y7,hy14,N⟩:=zB N;refine wP [.p (vS pd dims6 cd) [],.p (vI t80) [],.p (vS pd dims6 cd) [],.p (vI t80) [],.x (fun I' v hx=>∃ ad4,v=.pointer (some ad4)/\hx=[]/\(AtO (vS pd dims6 cd) (Rp.sz Int) t80.toNat ad4)/\((cs10.drop (t80.toNat*Rp.sz Int)).take (Rp.sz Int)=[vI x5])),.q (vI x5),.p (vA (cAff x4 p13 c12)) [0],.p (vP b4 2) [],.p (vS p5 x2.Point c4) [2],.q (vI y7),.p (vI (W (y7+1))) [],.p (vI (if (W (y7+1))>x5 then (W (y7+1)) else x5)) []] [[],[],[],[],[(2,false),(3,false)],[(4,false)],[],[],[(7,false)],[(6,false),(8,false)],[(9,false)],[(5,false),(10,false)]] [hB b8 (cAff x4 p13 c12),hO zG (vS p11 l1 c10) cs7,hB b4 (cInst x2 p5 c4),hO Int (vS pd dims6 cd) cs10,hB b3 [vS pa (xs.map ND.raw) ca,vS pp y4.Parts cp],hB b2 zTwo,hB b (cProg p p1 c p2 c1)] [] [(0,false),(1,false),(11,false)] (zY [0,1,2,3,4,5,6]) ?_ ?_
   · refine Op<|Op<|Op<|Op<|Ox ?_<|Oq ?_<|Op<|Op<|Op<|Oq ?_<|Op<|Op<|On
     · intro I1 hf le1;refine yV [87,88] rfl ?_;have h25:=iM le1 h25;refine nU 3 rfl rfl rfl h25 hy13 ?_;intro ad4 ccs5 hat5 hcc2 hrep4;obtain rfl:=hrep4;exact yL [] iR ⟨_,rfl,rfl,hat5,hcc2⟩
     · rintro I1 hf le1 _ _ ⟨ad4,rfl,rfl,hat5,hcc2⟩;exact yV [89] rfl<|zBu 3 0 hat5 hcc2 [vI x5] (vI x5) rfl rfl<|xB iR
     intro I1 hf le1;refine yV [91,93] rfl ?_;have H:=iS I1;have ⟨h27,h12⟩:=m2 le1 h27 h12;refine fB (nI x4 x2.Point _ hy14 h27 h12) ?_;intro I012 le13;have H:=H.trans le13;exact xB H
   intro I013 le14;refine yV [2,3,4,9,10,13,52,53,54,67,68,69,78,79,80,85,86,96] rfl ?_;have ⟨hat,h25,h2,h21,h24,h12⟩:=m6 le14 hat h25 h2 h21 h24 h12;have ⟨hAr,hP,h,h1,H⟩:=m5 le14 hAr hP h h1 H;obtain ⟨x6,hy15,N⟩:=zB N;refine nU 3 rfl rfl rfl h25 hy15 ?_;intro ad5 ccs6 hat6 hcc3 hrep5;obtain rfl:=hrep5;obtain ⟨l2,hy16,N⟩:=zB N;refine qE (c:=[vI (if (W (y7+1))>x5 then (W (y7+1)) else x5)]) (x':=(if (W (y7+1))>x5 then (W (y7+1)) else x5)) 3 0 rfl rfl rfl hat6 rfl rfl hcc3 (by kernel_rfl) (by kernel_rfl) (by kernel_rfl) h25 hy15 (by kernel_rfl) rfl ?_;rw [show dims6.set t80.toNat (if (W (y7+1))>x5 then (W (y7+1)) else x5)=l2 from zC hy16];intro cs12 h29 hl04;exact fY (m':=[(2,vP b 0),(3,vP b1 0),(4,vP b2 0),(9,vP b3 0),(10,vS pd dims6 cd),(13,vP b4 0),(52,vS p3 y1 c2),(53,vI (y1.length:Int)),(54,vI t54),(67,vS p11 l1 c10),(68,vI (l1.length:Int)),(69,vI t69),(78,vS p12 x3.Subs c11),(79,vI (x3.Subs.length:Int)),(80,vI t80),(85,vS pd dims6 cd),(86,vI t80),(96,vI (if (W (y7+1))>x5 then (W (y7+1)) else x5))]) ⟨rfl,rfl,rfl,rfl,rfl,rfl,rfl,rfl,rfl,rfl,rfl,rfl,rfl,rfl,rfl,rfl,rfl,rfl,trivial⟩<|zCX (hs':=[hB b8 (cAff x4 p13 c12),hO zG (vS p11 l1 c10) cs7,hB b4 (cInst x2 p5 c4),hO Int (vS pd l2 cd) cs12,hB b3 [vS pa (xs.map ND.raw) ca,vS pp y4.Parts cp],hB b2 zTwo,hB b (cProg p p1 c p2 c1)]) (m':=[(2,vP b 0),(3,vP b1 0),(4,vP b2 0),(9,vP b3 0),(10,vS pd l2 cd),(13,vP b4 0),(52,vS p3 y1 c2),(53,vI (y1.length:Int)),(54,vI t54),(67,vS p11 l1 c10),(68,vI (l1.length:Int)),(69,vI t69),(78,vS p12 x3.Subs c11),(79,vI (x3.Subs.length:Int)),(80,vI t80),(85,vS pd l2 cd),(86,vI t80),(96,vI (if (W (y7+1))>x5 then (W (y7+1)) else x5))]) (by first | rfl | simp only [vS,hl04,List.nil_append,List.cons_append,List.set_cons_zero,List.set_cons_succ,List.eraseIdx_cons_zero,List.eraseIdx_cons_succ]) (by first | rfl | simp only [vS,hl04])<|zX rfl<|zO<|zK<|zM<|yM [] [80] rfl<|yT<|pL (zW [1,2,3,4,5,6] rfl (by decide))<|nT<|ih l2 (W (t80+1)) _ N H hat h2 h21 h24 h12 hAr hP h h1 h29 hg ho hx
 intro hc6 N;exact wW<|yW<|hx _ _ _ (zC N).symm H h25
def vW (name:Str) (x2:zN) (l1:List zG) (dims4:List Int) (t69:Int):Option (List Int):=do
 if (decide (t69<(l1.length:Int))) then
  let x3<-idx l1 t69
  if (!(x3.Array.l==name.l)) then
   vW name x2 l1 dims4 (W (t69+1))
  else
   let dims7<-uV x2 x3 dims4 0
   vW name x2 l1 dims7 (W (t69+1))
 else
  pure (id dims4)
 partial_fixpoint
theorem zCb (name:Str) (x2:zN) (l1:List zG):∀ (dims4:List Int) (t69:Int) (o:List Int),vW name x2 l1 dims4 t69=some o->∀ {B}{I0 I:Imm}{Q}{p:zF}{y1:(List zN)}{y3:Int}{y4:zF}{xs:List ND}{x:zD}{t54:Int}{p1 c p2 c1}{b:Nat}{b1:Nat}{b2:Nat}{p3 c2}{pa:Option Addr}{ca:Nat}{pp:Option Addr}{cp:Nat}{b3:Nat}{pd:Option Addr}{cd:Nat}{p5 c4}{b4:Nat}{p11 c10 cs7 cs8},I0.le I->(At I ⟨b1,0,none⟩ [vT name.l])->(S4 I p3 y1 c2)->(RL I cs7 l1)->(S4 I p5 x2.Point c4)->(ArW I (vS pa (xs.map ND.raw) ca) (xs.map ND.raw) y4.Arrays y3 (vS pd x.Dims cd))->(S4 I pp y4.Parts cp)->(S4 I p1 p.Arrays c)->(S4 I p2 p.Parts c1)->(RL I cs8 dims4)->NG Q->NO Q->(∀ (I':Imm) (dims5:List Int) (cs9:List Value),o=dims5->I0.le I'->(RL I' cs9 dims5)->T 102 B Q (.exit 4) I' [hO Int (vS pd dims5 cd) cs9,hB b3 [vS pa (xs.map ND.raw) ca,vS pp y4.Parts cp],hB b2 zTwo,hB b (cProg p p1 c p2 c1)] [(2,vP b 0),(3,vP b1 0),(4,vP b2 0),(9,vP b3 0),(10,vS pd dims5 cd),(52,vS p3 y1 c2),(53,vI (y1.length:Int)),(54,vI t54)])->J Tryz.prog 102 B (nav (bodyOf Tryz.f8) [1,1,1,1,1,1,1,0,1,0,0,1,1,0,0,1,1,1,0]) Q I [hO zG (vS p11 l1 c10) cs7,hB b4 (cInst x2 p5 c4),hO Int (vS pd dims4 cd) cs8,hB b3 [vS pa (xs.map ND.raw) ca,vS pp y4.Parts cp],hB b2 zTwo,hB b (cProg p p1 c p2 c1)] [(2,vP b 0),(3,vP b1 0),(4,vP b2 0),(9,vP b3 0),(10,vS pd dims4 cd),(13,vP b4 0),(52,vS p3 y1 c2),(53,vI (y1.length:Int)),(54,vI t54),(67,vS p11 l1 c10),(68,vI (l1.length:Int)),(69,vI t69)]:=by
 refine vW.partial_correctness name x2 l1 _ fun self ih dims4 t69 o N B I0 I Q p y1 y3 y4 xs x t54 p1 c p2 c1 b b1 b2 p3 c2 pa ca pp cp b3 pd cd p5 c4 b4 p11 c10 cs7 cs8 H hat h2 h21 h12 hAr hP h h1 h22 hg ho hx=>yU hg ho<|yH [70] rfl<|zZ<|yG N ?_ ?_
 · intro hc4 N;refine zS<|zZ<|yF<|yC<|bE N fun x3 hy11 N=>nU 0 rfl rfl rfl h21 hy11 ?_;intro ad2 ccs3 hat3 hcc1 hrep2;obtain ⟨p12,c11,rfl,h24⟩:=tD hrep2;refine zBu 0 0 hat3 hcc1 (cAccess x3 p12 c11) (vA (cAccess x3 p12 c11)) rfl rfl<|xU [vT ([]),z0] ?_;intro b7 hb7;refine yZ 0 (cAccess x3 p12 c11) rfl<|zX rfl<|zZ<|yC<|yE 2 [0] [74] rfl<|xO 0 hat [vT name.l] (vT name.l) rfl<|yM [] [76] rfl<|zK<|yG N ?_ ?_
   · intro hc5 N;exact zEO<|jY<|zR<|zK<|zM<|yM [] [69] rfl<|yT<|pL (zW [1,2,3,4,5,6] rfl (by decide))<|nT<|ih dims4 (W (t69+1)) _ N H hat h2 h21 h12 hAr hP h h1 h22 hg ho hx
   intro hc5 N;refine zS<|yX<|yM [0] [78,79,80] rfl<|wK<|pL (zY [1,2,3,4,5,6] (hs':=[hO zG (vS p11 l1 c10) cs7,hB b4 (cInst x2 p5 c4),hO Int (vS pd dims4 cd) cs8,hB b3 [vS pa (xs.map ND.raw) ca,vS pp y4.Parts cp],hB b2 zTwo,hB b (cProg p p1 c p2 c1)]))<|pM [(2,vP b 0),(3,vP b1 0),(4,vP b2 0),(9,vP b3 0),(10,vS pd dims4 cd),(13,vP b4 0),(52,vS p3 y1 c2),(53,vI (y1.length:Int)),(54,vI t54),(67,vS p11 l1 c10),(68,vI (l1.length:Int)),(69,vI t69),(78,vS p12 x3.Subs c11),(79,vI (x3.Subs.length:Int)),(80,vI 0)] ?_;obtain ⟨o02,ho02,hMl1⟩:=zB N;refine zCa x2 x3 dims4 0 o02 ho02 iR hat h2 h21 h24 h12 hAr hP h h1 h22 (fun _ _ _ h=>hg _ _ _ h) (fun _ _ h=>ho _ _ h) ?_;intro I014 dims7 cs11 heq2 le15 h26;subst o02;have ⟨hat,h2,h21,h12,hAr,hP⟩:=m6 le15 hat h2 h21 h12 hAr hP;have ⟨h,h1,H⟩:=m3 le15 h h1 H;exact zR<|zO<|zK<|zM<|yM [] [69] rfl<|yT<|nT<|ih dims7 (W (t69+1)) _ hMl1 H hat h2 h21 h12 hAr hP h h1 h26 hg ho hx
 intro hc4 N;exact wW<|wG (zW [2,3,4,5] rfl (by decide))<|yW<|hx _ _ _ (zC N).symm H h22
def uW (p:zF) (name:Str) (y1:(List zN)) (dims2:List Int) (t54:Int):Option (List Int):=do
 if (decide (t54<(y1.length:Int))) then
  let x2<-idx y1 t54
  let y5<-kV p x2
  let y6<-gB y5.Value
  let l1<-app 40 y6 ([y5.Write]:List zG)
  let dims5<-vW name x2 l1 dims2 0
  uW p name y1 dims5 (W (t54+1))
 else
  pure (id dims2)
 partial_fixpoint
theorem zCc (p:zF) (name:Str) (y1:(List zN)):∀ (dims2:List Int) (t54:Int) (o:List Int),uW p name y1 dims2 t54=some o->∀ {B}{I0 I:Imm}{Q}{y3:Int}{y4:zF}{xs:List ND}{x:zD}{p1 c p2 c1}{b:Nat}{b1:Nat}{b2:Nat}{p3 c2}{pa:Option Addr}{ca:Nat}{pp:Option Addr}{cp:Nat}{b3:Nat}{pd:Option Addr}{cd:Nat}{cs3},I0.le I->(At I ⟨b1,0,none⟩ [vT name.l])->(S4 I p3 y1 c2)->(ArW I (vS pa (xs.map ND.raw) ca) (xs.map ND.raw) y4.Arrays y3 (vS pd x.Dims cd))->(S4 I pp y4.Parts cp)->(S4 I p1 p.Arrays c)->(S4 I p2 p.Parts c1)->(RL I cs3 dims2)->NG Q->NO Q->(∀ (I':Imm) (dims3:List Int) (cs4:List Value),o=dims3->I0.le I'->(RL I' cs4 dims3)->T 102 B Q (.exit 2) I' [hO Int (vS pd dims3 cd) cs4,hB b3 [vS pa (xs.map ND.raw) ca,vS pp y4.Parts cp],hB b2 zTwo] [(4,vP b2 0),(9,vP b3 0),(10,vS pd dims3 cd)])->J Tryz.prog 102 B (nav (bodyOf Tryz.f8) [1,1,1,1,1,1,1,0,1,0]) Q I [hO Int (vS pd dims2 cd) cs3,hB b3 [vS pa (xs.map ND.raw) ca,vS pp y4.Parts cp],hB b2 zTwo,hB b (cProg p p1 c p2 c1)] [(2,vP b 0),(3,vP b1 0),(4,vP b2 0),(9,vP b3 0),(10,vS pd dims2 cd),(52,vS p3 y1 c2),(53,vI (y1.length:Int)),(54,vI t54)]:=by
 refine uW.partial_correctness p name y1 _ fun self ih dims2 t54 o N B I0 I Q y3 y4 xs x p1 c p2 c1 b b1 b2 p3 c2 pa ca pp cp b3 pd cd cs3 H hat h2 hAr hP h h1 h10 hg ho hx=>yU hg ho<|yH [55] rfl<|zZ<|yG N ?_ ?_
 · intro hc3 N;refine zS<|zZ<|yF<|yC<|bE N fun x2 hy7 N=>xT rfl rfl h2 hy7 ?_;intro ad1 ccs1 hat2 hrep1;obtain ⟨p5,c4,rfl,h12⟩:=dR hrep1;refine xO 0 hat2 (cInst x2 p5 c4) (vA (cInst x2 p5 c4)) rfl<|xU [vI 0,vI 0,z0] ?_;intro b4 hb4;refine yZ 0 (cInst x2 p5 c4) rfl<|zX rfl<|yX<|tZ 2 [4,0] [(58,vA (cProg p p1 c p2 c1)),(59,vA (cInst x2 p5 c4))]<|bE N fun y5 hy8 N=>xH (zD6 p x2 _ hy8 h h1 h12) ?_;rintro I08 hs2 v2 k2 le9 - ⟨v05,rfl,rfl,⟨cs5,rfl,h13⟩⟩ -;have ⟨hat,h10,h2,h12,hAr,hP⟩:=m6 le9 hat h10 h2 h12 hAr hP;have ⟨h,h1,H⟩:=m3 le9 h h1 H;obtain ⟨p6,c5,p7,c6,p8,c7,p9,c8,rfl,h14,h15,h16,h17⟩:=vC h13;refine xU [vT ([]),z0,vI 0,vI 0,z0,vI 0,vT ([]),z0,z0] ?_;intro b5 hb5;refine yZ 0 (cStmt y5 p6 c5 p7 c6 p8 c7 p9 c8) rfl<|zX rfl<|zK<|yD ?_;obtain ⟨y6,hy9,N⟩:=zB N;obtain ⟨l1,hy10,N⟩:=zB N;refine wP [.p (vP b5 2) [],.p (vA (cExpr y5.Value p7 c6 p8 c7 p9 c8)) [0],.x (fun I' v hx=>∃ p10 c9 cs6,v=vS p10 y6 c9/\hx=[hO zG (vS p10 y6 c9) cs6]/\(RL I' cs6 y6)),.p (vP b5 0) [],.p (vA (cAccess y5.Write p6 c5)) [0],.x (fun I' v hx=>∃ b6,v=vS (some ⟨b6,0,none⟩) ([y5.Write]:List zG) 1/\hx=[]/\(SL I' (vS (some ⟨b6,0,none⟩) ([y5.Write]:List zG) 1) ([y5.Write]:List zG))),.x (fun I' v hx=>∃ p11 c10 cs7,v=vS p11 l1 c10/\hx=[hO zG (vS p11 l1 c10) cs7]/\(RL I' cs7 l1)),.q (vI (l1.length:Int)),.p (vI 0) []] [[],[(0,false)],[(1,false)],[],[(3,false)],[(4,false)],[(2,true),(5,false)],[(6,false)],[]] [hB b5 (cStmt y5 p6 c5 p7 c6 p8 c7 p9 c8),hB b4 (cInst x2 p5 c4),hO Int (vS pd dims2 cd) cs3,hB b3 [vS pa (xs.map ND.raw) ca,vS pp y4.Parts cp],hB b2 zTwo,hB b (cProg p p1 c p2 c1)] [] [(6,true),(7,false),(8,false)] (zY [0,1,2,3,4,5]) ?_ ?_
   · refine Op<|Op<|Ox ?_<|Op<|Op<|Ox ?_<|Ox ?_<|Oq ?_<|Op<|On
     · intro I1 hf le1;refine yV [62] rfl ?_;have H:=iS I1;have ⟨h15,h16,h17⟩:=m3 le1 h15 h16 h17;refine xH (zEL y5.Value _ hy9 h15 h16 h17) ?_;rintro I09 hs2 v2 k2 le10 - ⟨p10,c9,cs6,rfl,rfl,h18⟩ -;have H:=H.trans le10;exact yL [hO zG (vS p10 y6 c9) cs6] H ⟨_,_,_,rfl,rfl,h18⟩
     · intro I1 hf le1;refine yV [65] rfl ?_;have H:=iS I1;have h14:=h14.mono le1;refine mU (rc y5.Write (rJ ⟨_,rfl,h14⟩) rN) ?_;intro b6 I010 le11 h20;have H:=H.trans le11;exact yL [] H ⟨_,rfl,rfl,h20⟩
     · rintro I1 hf le1 _ _ ⟨p10,c9,cs6,rfl,rfl,h18⟩ _ _ ⟨b6,rfl,rfl,h20⟩;refine yV [63,66] rfl ?_;obtain ⟨ccs2,k0,k01⟩:=h20;have h20:SL I1 (vS (some ⟨b6,0,none⟩) ([y5.Write]:List zG) 1) ([y5.Write]:List zG):=⟨_,k0,k01⟩;exact qD 67 2 0 rfl rfl rfl h18 (.inl k0) k01 hy10 fun p11 c10 cs7 h21=>vH (hs':=(hO zG (vS p11 l1 c10) cs7::hB b5 (cStmt y5 p6 c5 p7 c6 p8 c7 p9 c8)::hB b4 (cInst x2 p5 c4)::hO Int (vS pd dims2 cd) cs3::hB b3 [vS pa (xs.map ND.raw) ca,vS pp y4.Parts cp]::hB b2 zTwo::hB b (cProg p p1 c p2 c1)::hf)) rfl<|yL [hO zG (vS p11 l1 c10) cs7] iR ⟨_,_,_,rfl,rfl,h21⟩
     rintro I1 hf le1 _ _ ⟨p11,c10,cs7,rfl,rfl,h21⟩;exact yV [67] rfl<|qA 8 [(68,vI (l1.length:Int))]<|xB iR
   rintro I011 le12 _ _ ⟨p11,c10,cs7,rfl,rfl,h21⟩;refine yV [2,3,4,9,10,13,52,53,54,67,68,69] rfl ?_;have ⟨hat,h10,h2,h12,hAr,hP⟩:=m6 le12 hat h10 h2 h12 hAr hP;have ⟨h,h1,H⟩:=m3 le12 h h1 H;refine zX rfl<|wK<|pL (zY [0,2,3,4,5,6] (hs':=[hO zG (vS p11 l1 c10) cs7,hB b4 (cInst x2 p5 c4),hO Int (vS pd dims2 cd) cs3,hB b3 [vS pa (xs.map ND.raw) ca,vS pp y4.Parts cp],hB b2 zTwo,hB b (cProg p p1 c p2 c1)]))<|pM [(2,vP b 0),(3,vP b1 0),(4,vP b2 0),(9,vP b3 0),(10,vS pd dims2 cd),(13,vP b4 0),(52,vS p3 y1 c2),(53,vI (y1.length:Int)),(54,vI t54),(67,vS p11 l1 c10),(68,vI (l1.length:Int)),(69,vI 0)] ?_;obtain ⟨o03,ho03,hMl2⟩:=zB N;refine zCb name x2 l1 dims2 0 o03 ho03 iR hat h2 h21 h12 hAr hP h h1 h10 (fun _ _ _ h=>hg _ _ _ h) (fun _ _ h=>ho _ _ h) ?_;intro I015 dims5 cs9 heq3 le16 h23;subst o03;have ⟨hat,h2,hAr,hP,h,h1⟩:=m6 le16 hat h2 hAr hP h h1;have H:=H.trans le16;exact zR<|zO<|zK<|zM<|yM [] [54] rfl<|yT<|nT<|ih dims5 (W (t54+1)) _ hMl2 H hat h2 hAr hP h h1 h23 hg ho hx
 intro hc3 N;exact wW<|wG (zW [0,1,2] rfl (by decide))<|yW<|hx _ _ _ (zC N).symm H h10
def mS (p:zF) (name:Str):Option (zF×Bool):=do
 let (y1,y2)<-tS p
 let y3<-wX p.Arrays (fun x0=>sX x0 name)
 let t33<-(do
   if (!y2) then
    pure true
   else
    pure (decide (y3<0))
     : Option Bool)
 if t33 then
  pure ((zF.mk ([]:List zD) ([]:List zI)),false)
 else
  let y4<-jI p
  let x<-idx y4.Arrays y3
  let dims1<-uU x x.Dims 0
  let dims3<-uW p name y1 dims1 0
  pure ((zF.mk (y4.Arrays.set y3.toNat (zD.mk x.Name dims3)) y4.Parts),true)
theorem zIO {x:zD}{d:List Int}{t:Int}{o:List Int} (h:uU x d t=some o):o.length=d.length:=by
 refine uU.partial_correctness x (fun d t o=>o.length=d.length) ?_ d t o h;intro self ih d t o N;split at N
 · obtain ⟨x1,h1,N⟩:=zB N;obtain ⟨l,h2,N⟩:=zB N;have h2:=zC h2;subst h2;rw [ih _ _ _ N,List.length_set]
 have:=zC N;simp only [id] at this;subst this; rfl
theorem zIP {x2:zN}{x3:zG}{d:List Int}{t:Int}{o:List Int} (h:uV x2 x3 d t=some o):o.length=d.length:=by
 refine uV.partial_correctness x2 x3 (fun d t o=>o.length=d.length) ?_ d t o h;intro self ih d t o N;split at N
 · obtain ⟨x1,h1,N⟩:=zB N;obtain ⟨x4,h2,N⟩:=zB N;obtain ⟨x5,h3,N⟩:=zB N;obtain ⟨x6,h4,N⟩:=zB N;obtain ⟨l,h5,N⟩:=zB N;have h5:=zC h5;subst h5;rw [ih _ _ _ N,List.length_set]
 have:=zC N;simp only [id] at this;subst this; rfl
theorem zIQ {name:Str}{x2:zN}{l1:List zG}{d:List Int}{t:Int}{o:List Int} (h:vW name x2 l1 d t=some o):o.length=d.length:=by
 refine vW.partial_correctness name x2 l1 (fun d t o=>o.length=d.length) ?_ d t o h;intro self ih d t o N;split at N
 · obtain ⟨x1,h1,N⟩:=zB N;split at N
   · exact ih _ _ _ N
   obtain ⟨d2,h2,N⟩:=zB N;rw [ih _ _ _ N,zIP h2]
 have:=zC N;simp only [id] at this;subst this; rfl
theorem zIR {p:zF}{name:Str}{y:List zN}{d:List Int}{t:Int}{o:List Int} (h:uW p name y d t=some o):o.length=d.length:=by
 refine uW.partial_correctness p name y (fun d t o=>o.length=d.length) ?_ d t o h;intro self ih d t o N;split at N
 · obtain ⟨x1,h1,N⟩:=zB N;obtain ⟨x2,h2,N⟩:=zB N;obtain ⟨x3,h3,N⟩:=zB N;obtain ⟨x4,h4,N⟩:=zB N;obtain ⟨x5,h5,N⟩:=zB N;rw [ih _ _ _ N,zIQ h5]
 have:=zC N;simp only [id] at this;subst this; rfl
theorem zAv:∀ p name r,mS p name=some r->∀ {I:Imm}{p1 c p2 c1},(S4 I p1 p.Arrays c)->(S4 I p2 p.Parts c1)->RT 8 [vA (cProg p p1 c p2 c1),vT name.l] I [] (eK  r):=by
 intro p name r N I p1 c p2 c1 h h1;unfold mS at N;refine yJ Tryz.func8 fun B=>?_;have H:=iS I;refine yC<|vK (cProg p p1 c p2 c1) ?_;intro b hb;refine vK [vT name.l] ?_;intro b1 hb1;refine xX 0 rfl ?_;intro I0 le hl0;have hat:At I0 ⟨b1,0,none⟩ [vT name.l]:=At.of_blk hl0;have ⟨h,h1,H⟩:=m3 le h h1 H;refine xU zTwo ?_;intro b2 hb2;refine wU [] []<|yX<|tZ 1 [1] [(20,vA (cProg p p1 c p2 c1))] ?_;obtain ⟨⟨y1,y2⟩,hy,N⟩:=zB N;refine xH (jP p _ hy h h1) ?_;rintro I01 hs2 v2 k2 le1 - ⟨v0,v01,rfl,rfl,h2,rfl⟩ -;have ⟨hat,h,h1,H⟩:=m4 le1 hat h h1 H;obtain ⟨p3,c2,rfl⟩:=h2.form;refine yM [] [6,7] rfl<|yX<|yE 3 [1] [25,26] rfl ?_;have hf0:FV1 Tryz.prog I01 [] (.func (.func 27) ⟨[]⟩ ⟨[vP b1 0]⟩) (fun x0=>sX x0 name):=by
   refine FV1.intro ?_;intro I1 le1 x0 r u0 hF k0;obtain ⟨_,rfl,k0⟩:=k0;obtain ⟨p4,c3,rfl,h4⟩:=xL k0;exact (zCz x0 name r hF h4 (hat.mono le1)).mono (by rintro k i hs u ⟨v0,rfl,rfl,h⟩; exact ⟨rfl,h⟩)
 obtain ⟨y3,hy1,N⟩:=zB N;refine xH (eA p.Arrays (fun x0=>sX x0 name) _ hy1 h hf0) ?_;rintro I02 hs2 v2 k2 le2 - ⟨v03,rfl,rfl,rfl⟩ -;have ⟨hat,h2,h,h1,H⟩:=m5 le2 hat h2 h h1 H;refine yM [] [8] rfl<|zZ<|yD ?_;refine uB N [hB b2 zTwo,hB b (cProg p p1 c p2 c1)] (fun t33=>[(2,vP b 0),(3,vP b1 0),(4,vP b2 0),(6,vS p3 y1 c2),(8,vI y3),(33,.bool t33)]) (fun o0 ho0=>?_) ?_
 · have H:=iS I02;refine zM<|yE 3 [] [30] rfl<|wO [30] ho0 ?_ ?_
   · intro hc N;exact wU [] [(33,vY)]<|yW<|zU (ct N H)
   intro hc N;exact yM [] [33] rfl<|yW<|zU (ct N H)
 intro t33 I03 le3 hMc;have ⟨hat,h2,h,h1⟩:=m4 le3 hat h2 h h1;refine zK<|yG hMc ?_ ?_
 · intro hc1 N;refine yC<|yE 1 [] [34] rfl<|eQ 0 zTwo [hB b2 zTwo,hB b (cProg p p1 c p2 c1)] rfl rfl rfl rfl<|wU [] [(5,vF)]<|xI<|zL ?_;obtain rfl:=zC N;exact xC ⟨_,_,(.cell 0 rfl rfl (by kernel_rfl) (.tmp rfl ResV.nil)),zQ,⟨_,_,rfl,rfl,⟨_,rfl,(xY ⟨_,_,rfl,(SL.nil _),(SL.nil _)⟩)⟩,rfl⟩⟩
 intro hc1 N;refine zS<|zZ<|bE N fun y4 hy2 N=>zM<|tZ 1 [1] [(35,vA (cProg p p1 c p2 c1))]<|xH (zD5 p _ hy2 h h1) ?_;rintro I04 hs2 v2 k2 le4 - ⟨xs,pa,ca,csa,pp,cp,rfl,rfl,hA,hok,hRw,hP⟩ -;have ⟨hat,h2,h,h1⟩:=m4 le4 hat h2 h h1;refine zM5 ([hO Raw2 (vS pa (xs.map ND.raw) ca) csa,hB b2 zTwo,hB b (cProg p p1 c p2 c1)]++NDs xs) (List.Perm.cons _ List.perm_append_comm)<|xU zTwo ?_;intro b3 hb3;refine eQ 0 [vS pa (xs.map ND.raw) ca,vS pp y4.Parts cp] (hB b3 [vS pa (xs.map ND.raw) ca,vS pp y4.Parts cp]::hO Raw2 (vS pa (xs.map ND.raw) ca) csa::hB b2 zTwo::hB b (cProg p p1 c p2 c1)::NDs xs) rfl rfl rfl rfl<|zX rfl<|zK<|yD ?_;obtain ⟨x,hy3,N⟩:=zB N;have hy4:=hy3;rw [hA] at hy4;obtain ⟨⟨nm0,pd,dd0,cd,csd⟩,hz,hxz⟩:=zDn hy4;obtain rfl:nm0=x.Name:=by rw [hxz]; rfl
 obtain rfl:dd0=x.Dims:=by rw [hxz]; rfl
 refine zDM (NDs xs++[hB b3 [vS pa (xs.map ND.raw) ca,vS pp y4.Parts cp],hO Raw2 (vS pa (xs.map ND.raw) ca) csa,hB b2 zTwo,hB b (cProg p p1 c p2 c1)]) (List.perm_append_comm (l₂:=[hB b3 [vS pa (xs.map ND.raw) ca,vS pp y4.Parts cp],hO Raw2 (vS pa (xs.map ND.raw) ca) csa,hB b2 zTwo,hB b (cProg p p1 c p2 c1)]))<|zLN hz hok ?_;intro I05 le5 hfz;have h6:RL I05 csd x.Dims:=(hok _ (List.mem_of_getElem? (rE hz).2.2)).mono le5;refine qX 2 rfl ?_;intro I06 le6 hl01;have hAr:ArW I06 (vS pa (xs.map ND.raw) ca) (xs.map ND.raw) y4.Arrays y3 (vS pd x.Dims cd):=⟨SL.of_frozen hl01 le6 (iM le5 hRw),by rw [hA]; exact RW.of hz fun j y hj hy=>(hfz j y hj hy).mono le6⟩;have le7:=le5.trans le6;have hat:=hat.mono le7;have h2:=h2.mono le7;have hP:=hP.mono le7;have h:=h.mono le7;have h1:=h1.mono le7;have h6:=iM le6 h6;refine zM<|yE 3 [1] [38,39] rfl<|xT rfl rfl hAr.1 (hAr.2.at hy3) ?_;intro ad0 ccs0 hat0 hrep0;obtain ⟨rfl,_⟩:=hrep0;refine yE 5 [] [41] rfl<|xO 1 hat0 [(vS pd x.Dims cd)] (vS pd x.Dims cd) rfl<|yM [] [10] rfl<|zZ<|yH [44,45] rfl<|wK<|pM [(2,vP b 0),(3,vP b1 0),(4,vP b2 0),(6,vS p3 y1 c2),(9,vP b3 0),(10,vS pd x.Dims cd),(44,vI (x.Dims.length:Int)),(45,vI 0)] ?_;obtain ⟨o01,ho01,hMl⟩:=zB N;refine zC9 x x.Dims 0 o01 ho01 iR hat h2 hAr hP h h1 h6 (fun _ _ _ h=>h) (fun _ _ h=>h) ?_;intro I07 dims1 cs1 heq1 le8 h8;subst o01;have ⟨hat,h2,hAr,hP,h,h1⟩:=m6 le8 hat h2 hAr hP h h1;refine zR<|zZ<|yH [52,53,54] rfl<|wK<|pM [(2,vP b 0),(3,vP b1 0),(4,vP b2 0),(9,vP b3 0),(10,vS pd dims1 cd),(52,vS p3 y1 c2),(53,vI (y1.length:Int)),(54,vI 0)] ?_;obtain ⟨o04,ho04,hMl3⟩:=zB hMl;refine zCc p name y1 dims1 0 o04 ho04 iR hat h2 hAr hP h h1 h8 (fun _ _ _ h=>h) (fun _ _ h=>h) ?_;intro I016 dims3 cs4 heq4 le17 h11;subst o04;have ⟨hAr,hP⟩:=m2 le17 hAr hP;refine zR<|zZ<|qX 0 rfl ?_;intro I017 le18 hl05;have h30:=SL.of_frozen hl05 le18 h11;have ⟨hAr,hP⟩:=m2 le18 hAr hP;have hlen:dims3.length=x.Dims.length:=(zIR ho04).trans (zIO ho01);have hw:(vS pd x.Dims cd)=vS pd dims3 cd:=by simp only [vS,hlen]
 have h31:SL I017 (vS pa (y4.Arrays.set y3.toNat (zD.mk x.Name dims3)) ca) (y4.Arrays.set y3.toNat (zD.mk x.Name dims3)):=hAr.done hy3 (by rw [hw]; exact h30);have eP:vS pa (xs.map ND.raw) ca=vS pa (y4.Arrays.set y3.toNat (zD.mk x.Name dims3)) ca:=by simp only [vS,List.length_set,hAr.2.1]
 rw [eP];refine zM<|tZ 1 [0] [(101,vA [vS pa (y4.Arrays.set y3.toNat (zD.mk x.Name dims3)) ca,vS pp y4.Parts cp])]<|yZ 1 [vS pa (y4.Arrays.set y3.toNat (zD.mk x.Name dims3)) ca,vS pp y4.Parts cp] rfl<|wU [] [(5,vY)]<|zK<|xD ?_;obtain rfl:=zC hMl3;exact xC ⟨_,_,(.cell 1 rfl rfl (by kernel_rfl) (.tmp rfl ResV.nil)),zQ,⟨_,_,rfl,rfl,⟨_,rfl,(xY ⟨_,_,rfl,h31,hP⟩)⟩,rfl⟩⟩
def jJ (x:zD):Option (zD):=do
 let l<-app 8 ([]:List Int) x.Dims
 pure (zD.mk x.Name l)
theorem zEB:∀ x r,jJ x=some r->∀ {I:Imm}{p c},(S4 I p x.Dims c)->RT 107 [vA (cArr x p c)] I [] (zB7  r):=by
 intro x r N I p c h;unfold jJ at N;refine yJ Tryz.func107 fun B=>yC<|vK (cArr x p c) ?_;intro b hb;refine xU [vT ([]),z0] ?_;intro b1 hb1;refine zX rfl<|yX<|tK [] Int ?_;intro b2 hb2;have h1:RL I [] ([]:List Int):=rfl;refine yE 3 [2] [5] rfl ?_;obtain ⟨ccs,k0,k01⟩:=h;have h:SL I (vS p x.Dims c) x.Dims:=⟨_,k0,k01⟩;obtain ⟨l,hy,N⟩:=zB N;refine qD 3 1 0 rfl rfl rfl h1 (.inl k0) k01 hy ?_;intro p1 c1 cs h2;refine sW (zY [0,1,2] (hs':=[hO Int (vS p1 l c1) cs,hB b1 [vT ([]),z0],hB b (cArr x p c)]))<|yE 5 [] [7] rfl<|yZ 2 [vT x.Name.l,vS p1 l c1] rfl<|zX rfl<|yX<|tZ 1 [2] [(8,vA [vT x.Name.l,vS p1 l c1])]<|yZ 1 [vT x.Name.l,vS p1 l c1] rfl<|zX rfl<|xI<|xE 0 rfl ?_;intro I0 le hl0;have h3:=SL.of_frozen hl0 le h2;obtain rfl:=zC N;exact xC ⟨_,_,(.cell 0 rfl rfl (by kernel_rfl) ResV.nil),zQ,⟨_,rfl,rfl,⟨_,rfl,(uO ⟨_,rfl,h3⟩)⟩⟩⟩
def wN (list:(List zD)) (out:List zD) (t9:Int):Option (List zD):=do
 if (decide (t9<(list.length:Int))) then
  let x<-idx list t9
  let y<-jJ x
  let out2<-app 40 out ([y]:List zD)
  wN list out2 (W (t9+1))
 else
  pure (id out)
 partial_fixpoint
theorem zBO (list:(List zD)):∀ (out:List zD) (t9:Int) (o:List zD),wN list out t9=some o->∀ {B}{I0 I:Imm}{Q p c p1 c1 cs},I0.le I->(S4 I p list c)->(RL I cs out)->NG Q->NO Q->(∀ (I':Imm) (out1:List zD) (p2:Option Addr) (c2:Nat) (cs1:List Value),o=out1->I0.le I'->(RL I' cs1 out1)->T 20 B Q (.exit 0) I' [hO zD (vS p2 out1 c2) cs1] [(3,vS p2 out1 c2)])->J Tryz.prog 20 B (nav (bodyOf Tryz.f66) [1,1,0,1,0]) Q I [hO zD (vS p1 out c1) cs] [(3,vS p1 out c1),(7,vS p list c),(8,vI (list.length:Int)),(9,vI t9)]:=by
 refine wN.partial_correctness list _ fun self ih out t9 o N B I0 I Q p c p1 c1 cs H h h2 hg ho hx=>yU hg ho<|yH [10] rfl<|zZ<|yG N ?_ ?_
 · intro hc N;refine zS<|zZ<|yF<|yC<|bE N fun x hy N=>xT rfl rfl h hy ?_;intro ad ccs hat hrep;obtain ⟨p3,c3,rfl,h4⟩:=xL hrep;refine xO 0 hat (cArr x p3 c3) (vA (cArr x p3 c3)) rfl<|xU [vT ([]),z0] ?_;intro b1 hb1;refine yZ 0 (cArr x p3 c3) rfl<|zX rfl<|zK<|zM<|tZ 2 [0] [(13,vS p1 out c1),(14,vA (cArr x p3 c3))]<|bE N fun y hy1 N=>xH (zEB x _ hy1 h4) ?_;rintro I0 hs2 v2 k2 le - ⟨v01,rfl,rfl,⟨cs2,rfl,h5⟩⟩ -;have ⟨h,h2,H⟩:=m3 le h h2 H;obtain ⟨p4,c4,rfl,h6⟩:=xL h5;refine tK (cArr y p4 c4) zD ?_;intro b2 hb2;have h7:RL I0 (cArr y p4 c4) ([y]:List zD):=⟨(cArr y p4 c4),_,rfl,rfl,(uO ⟨_,rfl,h6⟩),rfl⟩;obtain ⟨out2,hy2,N⟩:=zB N;exact qD 60 2 2 rfl rfl rfl h2 (.inr ⟨0,rfl⟩) h7 hy2 fun p5 c5 cs3 h8=>sW (zY [1,2] (hs':=[hB b1 (cArr x p3 c3),hO zD (vS p5 out2 c5) cs3]))<|yM [] [3] rfl<|zO<|zK<|zM<|yM [] [9] rfl<|yT<|pL (zW [1] rfl (by decide))<|nT<|ih out2 (W (t9+1)) _ N H h h8 hg ho hx
 intro hc N;exact wW<|yW<|hx _ _ _ _ _ (zC N).symm H h2
def kX (list:(List zD)):Option ((List zD)):=do
 let out1<-wN list ([]:List zD) 0
 pure (id out1)
theorem zCT:∀ list r,kX list=some r->∀ {I:Imm}{p c},(S4 I p list c)->RT 66 [vS p list c] I [] (zCJ  r):=by
 intro list r N I p c h;unfold kX at N;refine yJ Tryz.func66 fun B=>vM []<|yX<|tK [] zD ?_;intro b hb;have h1:RL I [] ([]:List zD):=rfl;refine yM [] [3] rfl<|zZ<|yH [7,8,9] rfl<|wK<|pM [(3,vS (some ⟨b,0,none⟩) ([]:List zD) 0),(7,vS p list c),(8,vI (list.length:Int)),(9,vI 0)] ?_;obtain ⟨o0,ho0,hMl⟩:=zB N;refine zBO list ([]:List zD) 0 o0 ho0 iR h h1 (fun _ _ _ h=>h) (fun _ _ h=>h) ?_;intro I01 out1 p2 c2 cs1 heq le1 h3;subst o0;refine zR<|uN [2] rfl<|xI<|xE 0 rfl ?_;intro I02 le2 hl0;have h9:=SL.of_frozen hl0 le2 h3;obtain rfl:=zC hMl;exact xC ⟨_,_,(.tmp rfl ResV.nil),zQ,⟨_,rfl,rfl,h9⟩⟩
def nK (x:zA):Option (zA):=do
 let l<-app 8 ([]:List Int) x.Coefs
 pure (zA.mk l x.Const)
theorem zAi:∀ x r,nK x=some r->∀ {I:Imm}{p c},(S4 I p x.Coefs c)->RT 209 [vA (cAff x p c)] I [] (oN  r):=by
 intro x r N I p c h;unfold nK at N;refine yJ Tryz.func209 fun B=>yC<|vK (cAff x p c) ?_;intro b hb;refine xU [z0,vI 0] ?_;intro b1 hb1;refine zX rfl<|yX<|tK [] Int ?_;intro b2 hb2;have h1:RL I [] ([]:List Int):=rfl;refine yE 3 [2] [5] rfl ?_;obtain ⟨ccs,k0,k01⟩:=h;have h:SL I (vS p x.Coefs c) x.Coefs:=⟨_,k0,k01⟩;obtain ⟨l,hy,N⟩:=zB N;refine qD 3 1 0 rfl rfl rfl h1 (.inl k0) k01 hy ?_;intro p1 c1 cs h2;refine sW (zY [0,1,2] (hs':=[hO Int (vS p1 l c1) cs,hB b1 [z0,vI 0],hB b (cAff x p c)]))<|yE 5 [] [7] rfl<|yZ 2 [vS p1 l c1,vI x.Const] rfl<|zX rfl<|yX<|tZ 1 [2] [(8,vA [vS p1 l c1,vI x.Const])]<|yZ 1 [vS p1 l c1,vI x.Const] rfl<|zX rfl<|xI<|xE 0 rfl ?_;intro I0 le hl0;have h3:=SL.of_frozen hl0 le h2;obtain rfl:=zC N;exact xC ⟨_,_,(.cell 0 rfl rfl (by kernel_rfl) ResV.nil),zQ,⟨_,rfl,rfl,⟨_,rfl,(yI ⟨_,rfl,h3⟩)⟩⟩⟩
def wJ (list:(List zA)) (out:List zA) (t9:Int):Option (List zA):=do
 if (decide (t9<(list.length:Int))) then
  let x<-idx list t9
  let y<-nK x
  let out2<-app 32 out ([y]:List zA)
  wJ list out2 (W (t9+1))
 else
  pure (id out)
 partial_fixpoint
theorem zAz (list:(List zA)):∀ (out:List zA) (t9:Int) (o:List zA),wJ list out t9=some o->∀ {B}{I0 I:Imm}{Q p c p1 c1 cs},I0.le I->(S4 I p list c)->(RL I cs out)->NG Q->NO Q->(∀ (I':Imm) (out1:List zA) (p2:Option Addr) (c2:Nat) (cs1:List Value),o=out1->I0.le I'->(RL I' cs1 out1)->T 20 B Q (.exit 0) I' [hO zA (vS p2 out1 c2) cs1] [(3,vS p2 out1 c2)])->J Tryz.prog 20 B (nav (bodyOf Tryz.f195) [1,1,0,1,0]) Q I [hO zA (vS p1 out c1) cs] [(3,vS p1 out c1),(7,vS p list c),(8,vI (list.length:Int)),(9,vI t9)]:=by
 refine wJ.partial_correctness list _ fun self ih out t9 o N B I0 I Q p c p1 c1 cs H h h2 hg ho hx=>yU hg ho<|yH [10] rfl<|zZ<|yG N ?_ ?_
 · intro hc N;refine zS<|zZ<|yF<|yC<|bE N fun x hy N=>xT rfl rfl h hy ?_;intro ad ccs hat hrep;obtain ⟨p3,c3,rfl,h4⟩:=yB hrep;refine xO 0 hat (cAff x p3 c3) (vA (cAff x p3 c3)) rfl<|xU [z0,vI 0] ?_;intro b1 hb1;refine yZ 0 (cAff x p3 c3) rfl<|zX rfl<|zK<|zM<|tZ 2 [0] [(13,vS p1 out c1),(14,vA (cAff x p3 c3))]<|bE N fun y hy1 N=>xH (zAi x _ hy1 h4) ?_;rintro I0 hs2 v2 k2 le - ⟨v01,rfl,rfl,⟨cs2,rfl,h5⟩⟩ -;have ⟨h,h2,H⟩:=m3 le h h2 H;obtain ⟨p4,c4,rfl,h6⟩:=yB h5;refine tK (cAff y p4 c4) zA ?_;intro b2 hb2;have h7:RL I0 (cAff y p4 c4) ([y]:List zA):=⟨(cAff y p4 c4),_,rfl,rfl,(yI ⟨_,rfl,h6⟩),rfl⟩;obtain ⟨out2,hy2,N⟩:=zB N;exact qD 69 2 2 rfl rfl rfl h2 (.inr ⟨0,rfl⟩) h7 hy2 fun p5 c5 cs3 h8=>sW (zY [1,2] (hs':=[hB b1 (cAff x p3 c3),hO zA (vS p5 out2 c5) cs3]))<|yM [] [3] rfl<|zO<|zK<|zM<|yM [] [9] rfl<|yT<|pL (zW [1] rfl (by decide))<|nT<|ih out2 (W (t9+1)) _ N H h h8 hg ho hx
 intro hc N;exact wW<|yW<|hx _ _ _ _ _ (zC N).symm H h2
def sM (list:(List zA)):Option ((List zA)):=do
 let out1<-wJ list ([]:List zA) 0
 pure (id out1)
theorem gV:∀ list r,sM list=some r->∀ {I:Imm}{p c},(S4 I p list c)->RT 195 [vS p list c] I [] (eJ  r):=by
 intro list r N I p c h;unfold sM at N;refine yJ Tryz.func195 fun B=>vM []<|yX<|tK [] zA ?_;intro b hb;have h1:RL I [] ([]:List zA):=rfl;refine yM [] [3] rfl<|zZ<|yH [7,8,9] rfl<|wK<|pM [(3,vS (some ⟨b,0,none⟩) ([]:List zA) 0),(7,vS p list c),(8,vI (list.length:Int)),(9,vI 0)] ?_;obtain ⟨o0,ho0,hMl⟩:=zB N;refine zAz list ([]:List zA) 0 o0 ho0 iR h h1 (fun _ _ _ h=>h) (fun _ _ h=>h) ?_;intro I01 out1 p2 c2 cs1 heq le1 h3;subst o0;refine zR<|uN [2] rfl<|xI<|xE 0 rfl ?_;intro I02 le2 hl0;have h9:=SL.of_frozen hl0 le2 h3;obtain rfl:=zC hMl;exact xC ⟨_,_,(.tmp rfl ResV.nil),zQ,⟨_,rfl,rfl,h9⟩⟩
def gD (x:zE):Option (zE):=do
 let y<-sM x.Lo
 let y1<-sM x.Hi
 pure (zE.mk y y1)
theorem zEg:∀ x r,gD x=some r->∀ {I:Imm}{p c p1 c1},(S4 I p x.Lo c)->(S4 I p1 x.Hi c1)->RT 178 [vA (cLoop x p c p1 c1)] I [] (zCD  r):=by
 intro x r N I p c p1 c1 h h1;unfold gD at N;refine yJ Tryz.func178 fun B=>yC<|vK (cLoop x p c p1 c1) ?_;intro b hb;refine xU zTwo ?_;intro b1 hb1;refine zX rfl<|yX<|yE 2 [1] [4] rfl<|bE N fun y hy N=>xH (gV x.Lo _ hy h) ?_;rintro I0 hs2 v2 k2 le - ⟨v0,rfl,rfl,h2⟩ -;have h1:=h1.mono le;obtain ⟨p2,c2,rfl⟩:=h2.form;refine yE 4 [] [6] rfl<|yZ 1 [vS p2 y c2,vS p1 x.Hi c1] rfl<|zX rfl<|yX<|yE 2 [1] [8] rfl<|bE N fun y1 hy1 N=>xH (gV x.Hi _ hy1 h1) ?_;rintro I01 hs2 v2 k2 le1 - ⟨v01,rfl,rfl,h3⟩ -;have h2:=h2.mono le1;obtain ⟨p3,c3,rfl⟩:=h3.form;refine yE 4 [] [10] rfl<|yZ 1 [vS p2 y c2,vS p3 y1 c3] rfl<|zX rfl<|yX<|tZ 1 [1] [(11,vA [vS p2 y c2,vS p3 y1 c3])]<|yZ 0 [vS p2 y c2,vS p3 y1 c3] rfl<|zX rfl<|zK<|xD ?_;obtain rfl:=zC N;exact xC ⟨_,_,(.cell 0 rfl rfl (by kernel_rfl) ResV.nil),zQ,⟨_,rfl,rfl,⟨_,rfl,(uP ⟨_,_,rfl,h2,h3⟩)⟩⟩⟩
def wQ (list:(List zE)) (out:List zE) (t9:Int):Option (List zE):=do
 if (decide (t9<(list.length:Int))) then
  let x<-idx list t9
  let y<-gD x
  let out2<-app 48 out ([y]:List zE)
  wQ list out2 (W (t9+1))
 else
  pure (id out)
 partial_fixpoint
theorem zBV (list:(List zE)):∀ (out:List zE) (t9:Int) (o:List zE),wQ list out t9=some o->∀ {B}{I0 I:Imm}{Q p c p1 c1 cs},I0.le I->(S4 I p list c)->(RL I cs out)->NG Q->NO Q->(∀ (I':Imm) (out1:List zE) (p2:Option Addr) (c2:Nat) (cs1:List Value),o=out1->I0.le I'->(RL I' cs1 out1)->T 20 B Q (.exit 0) I' [hO zE (vS p2 out1 c2) cs1] [(3,vS p2 out1 c2)])->J Tryz.prog 20 B (nav (bodyOf Tryz.f147) [1,1,0,1,0]) Q I [hO zE (vS p1 out c1) cs] [(3,vS p1 out c1),(7,vS p list c),(8,vI (list.length:Int)),(9,vI t9)]:=by
 refine wQ.partial_correctness list _ fun self ih out t9 o N B I0 I Q p c p1 c1 cs H h h2 hg ho hx=>yU hg ho<|yH [10] rfl<|zZ<|yG N ?_ ?_
 · intro hc N;refine zS<|zZ<|yF<|yC<|bE N fun x hy N=>xT rfl rfl h hy ?_;intro ad ccs hat hrep;obtain ⟨p3,c3,p4,c4,rfl,h4,h5⟩:=wZ hrep;refine xO 0 hat (cLoop x p3 c3 p4 c4) (vA (cLoop x p3 c3 p4 c4)) rfl<|xU zTwo ?_;intro b1 hb1;refine yZ 0 (cLoop x p3 c3 p4 c4) rfl<|zX rfl<|zK<|zM<|tZ 2 [0] [(13,vS p1 out c1),(14,vA (cLoop x p3 c3 p4 c4))]<|bE N fun y hy1 N=>xH (zEg x _ hy1 h4 h5) ?_;rintro I0 hs2 v2 k2 le - ⟨v02,rfl,rfl,⟨cs2,rfl,h6⟩⟩ -;have ⟨h,h2,H⟩:=m3 le h h2 H;obtain ⟨p5,c5,p6,c6,rfl,h7,h8⟩:=wZ h6;refine tK (cLoop y p5 c5 p6 c6) zE ?_;intro b2 hb2;have h9:RL I0 (cLoop y p5 c5 p6 c6) ([y]:List zE):=⟨(cLoop y p5 c5 p6 c6),_,rfl,rfl,(uP ⟨_,_,rfl,h7,h8⟩),rfl⟩;obtain ⟨out2,hy2,N⟩:=zB N;exact qD 130 2 2 rfl rfl rfl h2 (.inr ⟨0,rfl⟩) h9 hy2 fun p7 c7 cs3 h10=>sW (zY [1,2] (hs':=[hB b1 (cLoop x p3 c3 p4 c4),hO zE (vS p7 out2 c7) cs3]))<|yM [] [3] rfl<|zO<|zK<|zM<|yM [] [9] rfl<|yT<|pL (zW [1] rfl (by decide))<|nT<|ih out2 (W (t9+1)) _ N H h h10 hg ho hx
 intro hc N;exact wW<|yW<|hx _ _ _ _ _ (zC N).symm H h2
def nW (list:(List zE)):Option ((List zE)):=do
 let out1<-wQ list ([]:List zE) 0
 pure (id out1)
theorem zCd:∀ list r,nW list=some r->∀ {I:Imm}{p c},(S4 I p list c)->RT 147 [vS p list c] I [] (zA2  r):=by
 intro list r N I p c h;unfold nW at N;refine yJ Tryz.func147 fun B=>vM []<|yX<|tK [] zE ?_;intro b hb;have h1:RL I [] ([]:List zE):=rfl;refine yM [] [3] rfl<|zZ<|yH [7,8,9] rfl<|wK<|pM [(3,vS (some ⟨b,0,none⟩) ([]:List zE) 0),(7,vS p list c),(8,vI (list.length:Int)),(9,vI 0)] ?_;obtain ⟨o0,ho0,hMl⟩:=zB N;refine zBV list ([]:List zE) 0 o0 ho0 iR h h1 (fun _ _ _ h=>h) (fun _ _ h=>h) ?_;intro I01 out1 p2 c2 cs1 heq le1 h3;subst o0;refine zR<|uN [2] rfl<|xI<|xE 0 rfl ?_;intro I02 le2 hl0;have h11:=SL.of_frozen hl0 le2 h3;obtain rfl:=zC hMl;exact xC ⟨_,_,(.tmp rfl ResV.nil),zQ,⟨_,rfl,rfl,h11⟩⟩
def nL (x:zG):Option (zG):=do
 let y<-sM x.Subs
 pure (zG.mk x.Array y)
theorem zAj:∀ x r,nL x=some r->∀ {I:Imm}{p c},(S4 I p x.Subs c)->RT 196 [vA (cAccess x p c)] I [] (zAu  r):=by
 intro x r N I p c h;unfold nL at N;refine yJ Tryz.func196 fun B=>yC<|vK (cAccess x p c) ?_;intro b hb;refine xU [vT ([]),z0] ?_;intro b1 hb1;refine zX rfl<|yX<|yE 2 [1] [4] rfl<|bE N fun y hy N=>xH (gV x.Subs _ hy h) ?_;rintro I0 hs2 v2 k2 le - ⟨v0,rfl,rfl,h1⟩ -;obtain ⟨p1,c1,rfl⟩:=h1.form;refine yE 4 [] [6] rfl<|yZ 1 [vT x.Array.l,vS p1 y c1] rfl<|zX rfl<|yX<|tZ 1 [1] [(7,vA [vT x.Array.l,vS p1 y c1])]<|yZ 0 [vT x.Array.l,vS p1 y c1] rfl<|zX rfl<|zK<|xD ?_;obtain rfl:=zC N;exact xC ⟨_,_,(.cell 0 rfl rfl (by kernel_rfl) ResV.nil),zQ,⟨_,rfl,rfl,⟨_,rfl,(rJ ⟨_,rfl,h1⟩)⟩⟩⟩
def zBo (r:(List zH)):KT:=fun kk I' hs' v=>
  ∃ v0,hs'=[]/\v=tupV [v0]/\SL I' v0 r
mutual
def nX (list:(List zH)):Option ((List zH)):=do
 let out1<-vG (same list) ([]:List zH) (same 0)
 pure (id out1)
 partial_fixpoint
def vG (list:(List zH)) (out:List zH) (t9:Int):Option (List zH):=do
 if (decide (t9<(list.length:Int))) then
  let x<-idx list t9
  let y<-kI (same x)
  let out2<-app 112 out ([y]:List zH)
  vG (same list) (same out2) (W (t9+1))
 else
  pure (id out)
 partial_fixpoint
def kI (x:zH):Option (zH):=do
 let y<-nK x.Index
 let y1<-nL x.Read
 let y2<-nX x.Kids
 pure (zH.mk x.Kind x.Num y y1 y2)
 partial_fixpoint
end
theorem zCU:(∀ (list:(List zH)) r,nX list=some r->∀ {I:Imm}{p c},(S4 I p list c)->RT 210 [vS p list c] I [] (zBo  r))/\(∀ (list:(List zH)) (out:List zH) (t9:Int) o,vG list out t9=some o->∀ {B}{I0 I:Imm}{Q p c p1 c1 cs},I0.le I->(S4 I p list c)->(RL I cs out)->NG Q->NO Q->(∀ (I':Imm) (out1:List zH) (p2:Option Addr) (c2:Nat) (cs1:List Value),o=out1->I0.le I'->(RL I' cs1 out1)->T 20 B Q (.exit 0) I' [hO zH (vS p2 out1 c2) cs1] [(3,vS p2 out1 c2)])->J Tryz.prog 20 B (nav (bodyOf Tryz.f210) [1,1,0,1,0]) Q I [hO zH (vS p1 out c1) cs] [(3,vS p1 out c1),(7,vS p list c),(8,vI (list.length:Int)),(9,vI t9)])/\(∀ (x:zH) r,kI x=some r->∀ {I:Imm}{p c p1 c1 p2 c2},(S4 I p x.Index.Coefs c)->(S4 I p1 x.Read.Subs c1)->(S4 I p2 x.Kids c2)->RT 197 [vA (cExpr x p c p1 c1 p2 c2)] I [] (eN  r)):=by
  refine nX.mutual_partial_correctness _ _ _ ?_ ?_ ?_
  · intro F_spec_l16OwnListExpr_l1 ih_spec_l16OwnListExpr_l1 list r N I p c h;refine yJ Tryz.func210 fun B=>vM []<|yX<|tK [] zH ?_;intro b hb;have h1:RL I [] ([]:List zH):=rfl;refine yM [] [3] rfl<|zZ<|yH [7,8,9] rfl<|wK<|pM [(3,vS (some ⟨b,0,none⟩) ([]:List zH) 0),(7,vS p list c),(8,vI (list.length:Int)),(9,vI 0)] ?_;obtain ⟨o0,ho0,hMl⟩:=zB N;refine ih_spec_l16OwnListExpr_l1 list ([]:List zH) 0 o0 ho0 iR h h1 (fun _ _ _ h=>h) (fun _ _ h=>h) ?_;intro I01 out1 p2 c2 cs1 heq le1 h3;subst o0;refine zR<|uN [2] rfl<|xI<|xE 0 rfl ?_;intro I02 le2 hl0;have h13:=SL.of_frozen hl0 le2 h3;obtain rfl:=zC hMl;exact xC ⟨_,_,(.tmp rfl ResV.nil),zQ,⟨_,rfl,rfl,h13⟩⟩
  · intro F_spec_l16OwnListExpr_l1 F_spec_l16OwnExpr ih_spec_l16OwnListExpr_l1 ih_spec_l16OwnExpr list out t9 o N B I0 I Q p c p1 c1 cs H h h2 hg ho hx;refine yU hg ho<|yH [10] rfl<|zZ<|yG N ?_ ?_
    · intro hc N;refine zS<|zZ<|yF<|yC<|bE N fun x hy N=>xT rfl rfl h hy ?_;intro ad ccs hat hrep;obtain ⟨p3,c3,p4,c4,p5,c5,rfl,h4,h5,h6⟩:=wT hrep;refine xO 0 hat (cExpr x p3 c3 p4 c4 p5 c5) (vA (cExpr x p3 c3 p4 c4 p5 c5)) rfl<|xU zExpr ?_;intro b1 hb1;refine yZ 0 (cExpr x p3 c3 p4 c4 p5 c5) rfl<|zX rfl<|zK<|zM<|tZ 2 [0] [(13,vS p1 out c1),(14,vA (cExpr x p3 c3 p4 c4 p5 c5))]<|bE N fun y hy1 N=>xH (ih_spec_l16OwnExpr x _ hy1 h4 h5 h6) ?_;rintro I0 hs2 v2 k2 le - ⟨v03,rfl,rfl,⟨cs2,rfl,h7⟩⟩ -;have ⟨h,h2,H⟩:=m3 le h h2 H;obtain ⟨p6,c6,p7,c7,p8,c8,rfl,h8,h9,h10⟩:=wT h7;refine tK (cExpr y p6 c6 p7 c7 p8 c8) zH ?_;intro b2 hb2;have h11:RL I0 (cExpr y p6 c6 p7 c7 p8 c8) ([y]:List zH):=⟨(cExpr y p6 c6 p7 c7 p8 c8),_,rfl,rfl,(wB ⟨_,_,_,rfl,h8,h9,h10⟩),rfl⟩;obtain ⟨out2,hy2,N⟩:=zB N;exact qD 72 7 2 rfl rfl rfl h2 (.inr ⟨0,rfl⟩) h11 hy2 fun p9 c9 cs3 h12=>sW (zY [1,2] (hs':=[hB b1 (cExpr x p3 c3 p4 c4 p5 c5),hO zH (vS p9 out2 c9) cs3]))<|yM [] [3] rfl<|zO<|zK<|zM<|yM [] [9] rfl<|yT<|pL (zW [1] rfl (by decide))<|nT<|ih_spec_l16OwnListExpr_l1 list out2 (W (t9+1)) _ N H h h12 hg ho hx
    intro hc N;exact wW<|yW<|hx _ _ _ _ _ (zC N).symm H h2
  intro F_spec_l16OwnListExpr ih_spec_l16OwnListExpr x r N I p c p1 c1 p2 c2 h h1 h2;refine yJ Tryz.func197 fun B=>yC<|vK (cExpr x p c p1 c1 p2 c2) ?_;intro b hb;refine xU zExpr ?_;intro b1 hb1;refine zX rfl<|yX<|tZ 2 [1] [(4,vA (cAff x.Index p c))]<|bE N fun y hy N=>xH (zAi x.Index _ hy h) ?_;rintro I0 hs2 v2 k2 le - ⟨v0,rfl,rfl,⟨cs,rfl,h3⟩⟩ -;have ⟨h1,h2⟩:=m2 le h1 h2;obtain ⟨p3,c3,rfl,h4⟩:=yB h3;refine yE 4 [] [6] rfl<|yZ 1 [vI x.Kind,vI x.Num,vS p3 y.Coefs c3,vI y.Const,vT x.Read.Array.l,vS p1 x.Read.Subs c1,vS p2 x.Kids c2] rfl<|zX rfl<|yX<|tZ 2 [1] [(8,vA (cAccess x.Read p1 c1))]<|bE N fun y1 hy1 N=>xH (zAj x.Read _ hy1 h1) ?_;rintro I01 hs2 v2 k2 le1 - ⟨v02,rfl,rfl,⟨cs1,rfl,h5⟩⟩ -;have ⟨h4,h2⟩:=m2 le1 h4 h2;obtain ⟨p4,c4,rfl,h6⟩:=tD h5;refine yE 4 [] [10] rfl<|yZ 1 [vI x.Kind,vI x.Num,vS p3 y.Coefs c3,vI y.Const,vT y1.Array.l,vS p4 y1.Subs c4,vS p2 x.Kids c2] rfl<|zX rfl<|yX<|yE 2 [1] [12] rfl<|bE N fun y2 hy2 N=>xH (ih_spec_l16OwnListExpr x.Kids _ hy2 h2) ?_;rintro I02 hs2 v2 k2 le2 - ⟨v04,rfl,rfl,h7⟩ -;have ⟨h4,h6⟩:=m2 le2 h4 h6;obtain ⟨p5,c5,rfl⟩:=h7.form;refine yE 4 [] [14] rfl<|yZ 1 [vI x.Kind,vI x.Num,vS p3 y.Coefs c3,vI y.Const,vT y1.Array.l,vS p4 y1.Subs c4,vS p5 y2 c5] rfl<|zX rfl<|yX<|tZ 1 [1] [(15,vA [vI x.Kind,vI x.Num,vS p3 y.Coefs c3,vI y.Const,vT y1.Array.l,vS p4 y1.Subs c4,vS p5 y2 c5])]<|yZ 0 [vI x.Kind,vI x.Num,vS p3 y.Coefs c3,vI y.Const,vT y1.Array.l,vS p4 y1.Subs c4,vS p5 y2 c5] rfl<|zX rfl<|zK<|xD ?_;obtain rfl:=zC N;exact xC ⟨_,_,(.cell 0 rfl rfl (by kernel_rfl) ResV.nil),zQ,⟨_,rfl,rfl,⟨_,rfl,(wB ⟨_,_,_,rfl,h4,h6,h7⟩)⟩⟩⟩
theorem zEh:∀ x r,kI x=some r->∀ {I:Imm}{p c p1 c1 p2 c2},(S4 I p x.Index.Coefs c)->(S4 I p1 x.Read.Subs c1)->(S4 I p2 x.Kids c2)->RT 197 [vA (cExpr x p c p1 c1 p2 c2)] I [] (eN  r):=zCU.2.2
def gE (x:zJ):Option (zJ):=do
 let y<-nL x.Write
 let y1<-kI x.Value
 pure (zJ.mk y y1)
theorem zEi:∀ x r,gE x=some r->∀ {I:Imm}{p c p1 c1 p2 c2 p3 c3},(S4 I p x.Write.Subs c)->(S4 I p1 x.Value.Index.Coefs c1)->(S4 I p2 x.Value.Read.Subs c2)->(S4 I p3 x.Value.Kids c3)->RT 179 [vA (cStmt x p c p1 c1 p2 c2 p3 c3)] I [] (eO  r):=by
 intro x r N I p c p1 c1 p2 c2 p3 c3 h h1 h2 h3;unfold gE at N;refine yJ Tryz.func179 fun B=>yC<|vK (cStmt x p c p1 c1 p2 c2 p3 c3) ?_;intro b hb;refine xU [vT ([]),z0,vI 0,vI 0,z0,vI 0,vT ([]),z0,z0] ?_;intro b1 hb1;refine zX rfl<|yX<|tZ 2 [1] [(4,vA (cAccess x.Write p c))]<|bE N fun y hy N=>xH (zAj x.Write _ hy h) ?_;rintro I0 hs2 v2 k2 le - ⟨v0,rfl,rfl,⟨cs,rfl,h4⟩⟩ -;have ⟨h1,h2,h3⟩:=m3 le h1 h2 h3;obtain ⟨p4,c4,rfl,h5⟩:=tD h4;refine yE 4 [] [6] rfl<|yZ 1 [vT y.Array.l,vS p4 y.Subs c4,vI x.Value.Kind,vI x.Value.Num,vS p1 x.Value.Index.Coefs c1,vI x.Value.Index.Const,vT x.Value.Read.Array.l,vS p2 x.Value.Read.Subs c2,vS p3 x.Value.Kids c3] rfl<|zX rfl<|yX<|tZ 2 [1] [(8,vA (cExpr x.Value p1 c1 p2 c2 p3 c3))]<|bE N fun y1 hy1 N=>xH (zEh x.Value _ hy1 h1 h2 h3) ?_;rintro I01 hs2 v2 k2 le1 - ⟨v02,rfl,rfl,⟨cs1,rfl,h6⟩⟩ -;have h5:=h5.mono le1;obtain ⟨p5,c5,p6,c6,p7,c7,rfl,h7,h8,h9⟩:=wT h6;refine yE 4 [] [10] rfl<|yZ 1 [vT y.Array.l,vS p4 y.Subs c4,vI y1.Kind,vI y1.Num,vS p5 y1.Index.Coefs c5,vI y1.Index.Const,vT y1.Read.Array.l,vS p6 y1.Read.Subs c6,vS p7 y1.Kids c7] rfl<|zX rfl<|yX<|tZ 1 [1] [(11,vA [vT y.Array.l,vS p4 y.Subs c4,vI y1.Kind,vI y1.Num,vS p5 y1.Index.Coefs c5,vI y1.Index.Const,vT y1.Read.Array.l,vS p6 y1.Read.Subs c6,vS p7 y1.Kids c7])]<|yZ 0 [vT y.Array.l,vS p4 y.Subs c4,vI y1.Kind,vI y1.Num,vS p5 y1.Index.Coefs c5,vI y1.Index.Const,vT y1.Read.Array.l,vS p6 y1.Read.Subs c6,vS p7 y1.Kids c7] rfl<|zX rfl<|zK<|xD ?_;obtain rfl:=zC N;exact xC ⟨_,_,(.cell 0 rfl rfl (by kernel_rfl) ResV.nil),zQ,⟨_,rfl,rfl,⟨_,rfl,(wC ⟨_,_,_,_,rfl,h5,h7,h8,h9⟩)⟩⟩⟩
def zBp (r:(List zJ)):KT:=fun kk I' hs' v=>
  ∃ v0,hs'=[]/\v=tupV [v0]/\SL I' v0 r
def wR (list:(List zJ)) (out:List zJ) (t9:Int):Option (List zJ):=do
 if (decide (t9<(list.length:Int))) then
  let x<-idx list t9
  let y<-gE x
  let out2<-app 152 out ([y]:List zJ)
  wR list out2 (W (t9+1))
 else
  pure (id out)
 partial_fixpoint
theorem zBW (list:(List zJ)):∀ (out:List zJ) (t9:Int) (o:List zJ),wR list out t9=some o->∀ {B}{I0 I:Imm}{Q p c p1 c1 cs},I0.le I->(S4 I p list c)->(RL I cs out)->NG Q->NO Q->(∀ (I':Imm) (out1:List zJ) (p2:Option Addr) (c2:Nat) (cs1:List Value),o=out1->I0.le I'->(RL I' cs1 out1)->T 20 B Q (.exit 0) I' [hO zJ (vS p2 out1 c2) cs1] [(3,vS p2 out1 c2)])->J Tryz.prog 20 B (nav (bodyOf Tryz.f148) [1,1,0,1,0]) Q I [hO zJ (vS p1 out c1) cs] [(3,vS p1 out c1),(7,vS p list c),(8,vI (list.length:Int)),(9,vI t9)]:=by
 refine wR.partial_correctness list _ fun self ih out t9 o N B I0 I Q p c p1 c1 cs H h h2 hg ho hx=>yU hg ho<|yH [10] rfl<|zZ<|yG N ?_ ?_
 · intro hc N;refine zS<|zZ<|yF<|yC<|bE N fun x hy N=>xT rfl rfl h hy ?_;intro ad ccs hat hrep;obtain ⟨p3,c3,p4,c4,p5,c5,p6,c6,rfl,h4,h5,h6,h7⟩:=vC hrep;refine xO 0 hat (cStmt x p3 c3 p4 c4 p5 c5 p6 c6) (vA (cStmt x p3 c3 p4 c4 p5 c5 p6 c6)) rfl<|xU [vT ([]),z0,vI 0,vI 0,z0,vI 0,vT ([]),z0,z0] ?_;intro b1 hb1;refine yZ 0 (cStmt x p3 c3 p4 c4 p5 c5 p6 c6) rfl<|zX rfl<|zK<|zM<|tZ 2 [0] [(13,vS p1 out c1),(14,vA (cStmt x p3 c3 p4 c4 p5 c5 p6 c6))]<|bE N fun y hy1 N=>xH (zEi x _ hy1 h4 h5 h6 h7) ?_;rintro I0 hs2 v2 k2 le - ⟨v04,rfl,rfl,⟨cs2,rfl,h8⟩⟩ -;have ⟨h,h2,H⟩:=m3 le h h2 H;obtain ⟨p7,c7,p8,c8,p9,c9,p10,c10,rfl,h9,h10,h11,h12⟩:=vC h8;refine tK (cStmt y p7 c7 p8 c8 p9 c9 p10 c10) zJ ?_;intro b2 hb2;have h13:RL I0 (cStmt y p7 c7 p8 c8 p9 c9 p10 c10) ([y]:List zJ):=⟨(cStmt y p7 c7 p8 c8 p9 c9 p10 c10),_,rfl,rfl,(wC ⟨_,_,_,_,rfl,h9,h10,h11,h12⟩),rfl⟩;obtain ⟨out2,hy2,N⟩:=zB N;exact qD 74 9 2 rfl rfl rfl h2 (.inr ⟨0,rfl⟩) h13 hy2 fun p11 c11 cs3 h14=>sW (zY [1,2] (hs':=[hB b1 (cStmt x p3 c3 p4 c4 p5 c5 p6 c6),hO zJ (vS p11 out2 c11) cs3]))<|yM [] [3] rfl<|zO<|zK<|zM<|yM [] [9] rfl<|yT<|pL (zW [1] rfl (by decide))<|nT<|ih out2 (W (t9+1)) _ N H h h14 hg ho hx
 intro hc N;exact wW<|yW<|hx _ _ _ _ _ (zC N).symm H h2
def jL (list:(List zJ)):Option ((List zJ)):=do
 let out1<-wR list ([]:List zJ) 0
 pure (id out1)
theorem zCe:∀ list r,jL list=some r->∀ {I:Imm}{p c},(S4 I p list c)->RT 148 [vS p list c] I [] (zBp  r):=by
 intro list r N I p c h;unfold jL at N;refine yJ Tryz.func148 fun B=>vM []<|yX<|tK [] zJ ?_;intro b hb;have h1:RL I [] ([]:List zJ):=rfl;refine yM [] [3] rfl<|zZ<|yH [7,8,9] rfl<|wK<|pM [(3,vS (some ⟨b,0,none⟩) ([]:List zJ) 0),(7,vS p list c),(8,vI (list.length:Int)),(9,vI 0)] ?_;obtain ⟨o0,ho0,hMl⟩:=zB N;refine zBW list ([]:List zJ) 0 o0 ho0 iR h h1 (fun _ _ _ h=>h) (fun _ _ h=>h) ?_;intro I01 out1 p2 c2 cs1 heq le1 h3;subst o0;refine zR<|uN [2] rfl<|xI<|xE 0 rfl ?_;intro I02 le2 hl0;have h15:=SL.of_frozen hl0 le2 h3;obtain rfl:=zC hMl;exact xC ⟨_,_,(.tmp rfl ResV.nil),zQ,⟨_,rfl,rfl,h15⟩⟩
def gF (x:zI):Option (zI):=do
 let y<-nW x.Nest
 let y1<-jL x.Body
 pure (zI.mk y y1)
theorem zEj:∀ x r,gF x=some r->∀ {I:Imm}{p c p1 c1},(S4 I p x.Nest c)->(S4 I p1 x.Body c1)->RT 108 [vA (cPart x p c p1 c1)] I [] (zBf  r):=by
 intro x r N I p c p1 c1 h h1;unfold gF at N;refine yJ Tryz.func108 fun B=>yC<|vK (cPart x p c p1 c1) ?_;intro b hb;refine xU zTwo ?_;intro b1 hb1;refine zX rfl<|yX<|yE 2 [1] [4] rfl<|bE N fun y hy N=>xH (zCd x.Nest _ hy h) ?_;rintro I0 hs2 v2 k2 le - ⟨v0,rfl,rfl,h2⟩ -;have h1:=h1.mono le;obtain ⟨p2,c2,rfl⟩:=h2.form;refine yE 4 [] [6] rfl<|yZ 1 [vS p2 y c2,vS p1 x.Body c1] rfl<|zX rfl<|yX<|yE 2 [1] [8] rfl<|bE N fun y1 hy1 N=>xH (zCe x.Body _ hy1 h1) ?_;rintro I01 hs2 v2 k2 le1 - ⟨v01,rfl,rfl,h3⟩ -;have h2:=h2.mono le1;obtain ⟨p3,c3,rfl⟩:=h3.form;refine yE 4 [] [10] rfl<|yZ 1 [vS p2 y c2,vS p3 y1 c3] rfl<|zX rfl<|yX<|tZ 1 [1] [(11,vA [vS p2 y c2,vS p3 y1 c3])]<|yZ 0 [vS p2 y c2,vS p3 y1 c3] rfl<|zX rfl<|zK<|xD ?_;obtain rfl:=zC N;exact xC ⟨_,_,(.cell 0 rfl rfl (by kernel_rfl) ResV.nil),zQ,⟨_,rfl,rfl,⟨_,rfl,(uQ ⟨_,_,rfl,h2,h3⟩)⟩⟩⟩
def zBq (r:(List zI)):KT:=fun kk I' hs' v=>
  ∃ v0,hs'=[]/\v=tupV [v0]/\SL I' v0 r
def wS (list:(List zI)) (out:List zI) (t9:Int):Option (List zI):=do
 if (decide (t9<(list.length:Int))) then
  let x<-idx list t9
  let y<-gF x
  let out2<-app 48 out ([y]:List zI)
  wS list out2 (W (t9+1))
 else
  pure (id out)
 partial_fixpoint
theorem zBX (list:(List zI)):∀ (out:List zI) (t9:Int) (o:List zI),wS list out t9=some o->∀ {B}{I0 I:Imm}{Q p c p1 c1 cs},I0.le I->(S4 I p list c)->(RL I cs out)->NG Q->NO Q->(∀ (I':Imm) (out1:List zI) (p2:Option Addr) (c2:Nat) (cs1:List Value),o=out1->I0.le I'->(RL I' cs1 out1)->T 20 B Q (.exit 0) I' [hO zI (vS p2 out1 c2) cs1] [(3,vS p2 out1 c2)])->J Tryz.prog 20 B (nav (bodyOf Tryz.f67) [1,1,0,1,0]) Q I [hO zI (vS p1 out c1) cs] [(3,vS p1 out c1),(7,vS p list c),(8,vI (list.length:Int)),(9,vI t9)]:=by
 refine wS.partial_correctness list _ fun self ih out t9 o N B I0 I Q p c p1 c1 cs H h h2 hg ho hx=>yU hg ho<|yH [10] rfl<|zZ<|yG N ?_ ?_
 · intro hc N;refine zS<|zZ<|yF<|yC<|bE N fun x hy N=>xT rfl rfl h hy ?_;intro ad ccs hat hrep;obtain ⟨p3,c3,p4,c4,rfl,h4,h5⟩:=wH hrep;refine xO 0 hat (cPart x p3 c3 p4 c4) (vA (cPart x p3 c3 p4 c4)) rfl<|xU zTwo ?_;intro b1 hb1;refine yZ 0 (cPart x p3 c3 p4 c4) rfl<|zX rfl<|zK<|zM<|tZ 2 [0] [(13,vS p1 out c1),(14,vA (cPart x p3 c3 p4 c4))]<|bE N fun y hy1 N=>xH (zEj x _ hy1 h4 h5) ?_;rintro I0 hs2 v2 k2 le - ⟨v02,rfl,rfl,⟨cs2,rfl,h6⟩⟩ -;have ⟨h,h2,H⟩:=m3 le h h2 H;obtain ⟨p5,c5,p6,c6,rfl,h7,h8⟩:=wH h6;refine tK (cPart y p5 c5 p6 c6) zI ?_;intro b2 hb2;have h9:RL I0 (cPart y p5 c5 p6 c6) ([y]:List zI):=⟨(cPart y p5 c5 p6 c6),_,rfl,rfl,(uQ ⟨_,_,rfl,h7,h8⟩),rfl⟩;obtain ⟨out2,hy2,N⟩:=zB N;exact qD 85 2 2 rfl rfl rfl h2 (.inr ⟨0,rfl⟩) h9 hy2 fun p7 c7 cs3 h10=>sW (zY [1,2] (hs':=[hB b1 (cPart x p3 c3 p4 c4),hO zI (vS p7 out2 c7) cs3]))<|yM [] [3] rfl<|zO<|zK<|zM<|yM [] [9] rfl<|yT<|pL (zW [1] rfl (by decide))<|nT<|ih out2 (W (t9+1)) _ N H h h10 hg ho hx
 intro hc N;exact wW<|yW<|hx _ _ _ _ _ (zC N).symm H h2
def jM (list:(List zI)):Option ((List zI)):=do
 let out1<-wS list ([]:List zI) 0
 pure (id out1)
theorem zCf:∀ list r,jM list=some r->∀ {I:Imm}{p c},(S4 I p list c)->RT 67 [vS p list c] I [] (zBq  r):=by
 intro list r N I p c h;unfold jM at N;refine yJ Tryz.func67 fun B=>vM []<|yX<|tK [] zI ?_;intro b hb;have h1:RL I [] ([]:List zI):=rfl;refine yM [] [3] rfl<|zZ<|yH [7,8,9] rfl<|wK<|pM [(3,vS (some ⟨b,0,none⟩) ([]:List zI) 0),(7,vS p list c),(8,vI (list.length:Int)),(9,vI 0)] ?_;obtain ⟨o0,ho0,hMl⟩:=zB N;refine zBX list ([]:List zI) 0 o0 ho0 iR h h1 (fun _ _ _ h=>h) (fun _ _ h=>h) ?_;intro I01 out1 p2 c2 cs1 heq le1 h3;subst o0;refine zR<|uN [2] rfl<|xI<|xE 0 rfl ?_;intro I02 le2 hl0;have h11:=SL.of_frozen hl0 le2 h3;obtain rfl:=zC hMl;exact xC ⟨_,_,(.tmp rfl ResV.nil),zQ,⟨_,rfl,rfl,h11⟩⟩
def kD (x:zF):Option (zF):=do
 let y<-kX x.Arrays
 let y1<-jM x.Parts
 pure (zF.mk y y1)
theorem zDC:∀ x r,kD x=some r->∀ {I:Imm}{p c p1 c1},(S4 I p x.Arrays c)->(S4 I p1 x.Parts c1)->RT 32 [vA (cProg x p c p1 c1)] I [] (zDB  r):=by
 intro x r N I p c p1 c1 h h1;unfold kD at N;refine yJ Tryz.func32 fun B=>yC<|vK (cProg x p c p1 c1) ?_;intro b hb;refine xU zTwo ?_;intro b1 hb1;refine zX rfl<|yX<|yE 2 [1] [4] rfl<|bE N fun y hy N=>xH (zCT x.Arrays _ hy h) ?_;rintro I0 hs2 v2 k2 le - ⟨v0,rfl,rfl,h2⟩ -;have h1:=h1.mono le;obtain ⟨p2,c2,rfl⟩:=h2.form;refine yE 4 [] [6] rfl<|yZ 1 [vS p2 y c2,vS p1 x.Parts c1] rfl<|zX rfl<|yX<|yE 2 [1] [8] rfl<|bE N fun y1 hy1 N=>xH (zCf x.Parts _ hy1 h1) ?_;rintro I01 hs2 v2 k2 le1 - ⟨v01,rfl,rfl,h3⟩ -;have h2:=h2.mono le1;obtain ⟨p3,c3,rfl⟩:=h3.form;refine yE 4 [] [10] rfl<|yZ 1 [vS p2 y c2,vS p3 y1 c3] rfl<|zX rfl<|yX<|tZ 1 [1] [(11,vA [vS p2 y c2,vS p3 y1 c3])]<|yZ 0 [vS p2 y c2,vS p3 y1 c3] rfl<|zX rfl<|zK<|xD ?_;obtain rfl:=zC N;exact xC ⟨_,_,(.cell 0 rfl rfl (by kernel_rfl) ResV.nil),zQ,⟨_,rfl,rfl,⟨_,rfl,(xY ⟨_,_,rfl,h2,h3⟩)⟩⟩⟩
def zA0 (r:(List zN)):KT:=fun kk I' hs' v=>
  ∃ v0,hs'=[]/\v=tupV [v0]/\SL I' v0 r
def vX (p:zF) (i:Int) (y:(List (List Int))) (k0:Int) (out4:List zN) (s:Int):Option (List zN):=do
 let x1<-idx p.Parts i
 if (decide (s<(x1.Body.length:Int))) then
  let x2<-idx y k0
  let l<-app 8 ([]:List Int) x2
  let out6<-app 40 out4 ([(zN.mk i s l)]:List zN)
  vX p i y k0 out6 (W (s+1))
 else
  pure (id out4)
 partial_fixpoint
theorem zCg (p:zF) (i:Int) (y:(List (List Int))) (k0:Int):∀ (out4:List zN) (s:Int) (o:List zN),vX p i y k0 out4 s=some o->∀ {B}{I0 I:Imm}{Q p1 c p2 c1}{b:Nat}{p7 c6 cs2 p10 c9 cs5},I0.le I->(RL I cs2 y)->(S4 I p1 p.Arrays c)->(S4 I p2 p.Parts c1)->(RL I cs5 out4)->NG Q->NO Q->(∀ (I':Imm) (out5:List zN) (p11:Option Addr) (c10:Nat) (cs6:List Value),o=out5->I0.le I'->(RL I' cs6 out5)->T 54 B Q (.exit 4) I' [hO (List Int) (vS p7 y c6) cs2,hO zN (vS p11 out5 c10) cs6,hB b (cProg p p1 c p2 c1)] [(1,vP b 0),(3,vS p11 out5 c10),(4,vI i),(5,vS p7 y c6),(6,vI k0)])->J Tryz.prog 54 B (nav (bodyOf Tryz.f72) [1,1,0,1,0,0,1,0,0,1,1,0,0,1,0,0,1,0]) Q I [hO (List Int) (vS p7 y c6) cs2,hO zN (vS p10 out4 c9) cs5,hB b (cProg p p1 c p2 c1)] [(1,vP b 0),(3,vS p10 out4 c9),(4,vI i),(5,vS p7 y c6),(6,vI k0),(7,vI s)]:=by
 refine vX.partial_correctness p i y k0 _ fun self ih out4 s o N B I0 I Q p1 c p2 c1 b p7 c6 cs2 p10 c9 cs5 H h8 h h1 h11 hg ho hx=>yU hg ho<|yD<|yC<|yE 4 [2] [30,32,33] rfl<|bE N fun x1 hy2 N=>xT rfl rfl h1 hy2 ?_;intro ad1 ccs1 hat1 hrep1;obtain ⟨p12,c11,p13,c12,rfl,h13,h14⟩:=wH hrep1;refine yE 6 [] [35] rfl<|xO 1 hat1 [vS p13 x1.Body c12] (vS p13 x1.Body c12) rfl<|yM [] [38] rfl<|zK<|yG N ?_ ?_
 · intro hc2 N;refine zS<|zZ<|yF<|zM<|yE 3 [] [41,42,43] rfl<|tK [] Int ?_;intro b3 hb3;have h15:RL I [] ([]:List Int):=rfl;refine yE 6 [] [45,46] rfl<|bE N fun x2 hy3 N=>nU 1 rfl rfl rfl h8 hy3 ?_;intro ad2 ccs2 hat2 hcc hrep2;obtain ⟨v04,rfl,h16⟩:=hrep2;obtain ⟨p14,c13,rfl⟩:=h16.form;refine zBu 1 0 hat2 hcc [vS p14 x2 c13] (vS p14 x2 c13) rfl rfl ?_;obtain ⟨ccs3,k01,k02⟩:=h16;have h16:SL I (vS p14 x2 c13) x2:=⟨_,k01,k02⟩;obtain ⟨l,hy4,N⟩:=zB N;refine qD 3 1 0 rfl rfl rfl h15 (.inl k01) k02 hy4 fun p15 c14 cs7 h17=>sW (zY [0,1,2,3] (hs':=[hO Int (vS p15 l c14) cs7,hO (List Int) (vS p7 y c6) cs2,hO zN (vS p10 out4 c9) cs5,hB b (cProg p p1 c p2 c1)]))<|yE 10 [] [50] rfl<|xX 0 rfl ?_;intro I01 le1 hl0;have h18:=SL.of_frozen hl0 le1 h17;have ⟨h8,h11,h,h1,H⟩:=m5 le1 h8 h11 h h1 H;refine tK [vI i,vI s,vS p15 l c14] zN ?_;intro b4 hb4;have h19:RL I01 [vI i,vI s,vS p15 l c14] ([(zN.mk i s l)]:List zN):=⟨[vI i,vI s,vS p15 l c14],_,rfl,rfl,(zBD ⟨_,rfl,h18⟩),rfl⟩;obtain ⟨out6,hy5,N⟩:=zB N;exact qD 64 3 2 rfl rfl rfl h11 (.inr ⟨0,rfl⟩) h19 hy5 fun p16 c15 cs8 h20=>sW (zY [1,2,3] (hs':=[hO (List Int) (vS p7 y c6) cs2,hO zN (vS p16 out6 c15) cs8,hB b (cProg p p1 c p2 c1)]))<|yM [] [3] rfl<|zO<|zK<|zM<|yM [] [7] rfl<|yT<|nT<|ih out6 (W (s+1)) _ N H h8 h h1 h20 hg ho hx
 intro hc2 N;exact wW<|yW<|hx _ _ _ _ _ (zC N).symm H h11
def vZ (p:zF) (i:Int) (y:(List (List Int))) (out2:List zN) (k0:Int):Option (List zN):=do
 if (decide (k0<(y.length:Int))) then
  let out5<-vX p i y k0 out2 0
  vZ p i y out5 (W (k0+1))
 else
  pure (id out2)
 partial_fixpoint
theorem zCh (p:zF) (i:Int) (y:(List (List Int))):∀ (out2:List zN) (k0:Int) (o:List zN),vZ p i y out2 k0=some o->∀ {B}{I0 I:Imm}{Q p1 c p2 c1}{b:Nat}{p7 c6 cs2 p8 c7 cs3},I0.le I->(RL I cs2 y)->(S4 I p1 p.Arrays c)->(S4 I p2 p.Parts c1)->(RL I cs3 out2)->NG Q->NO Q->(∀ (I':Imm) (out3:List zN) (p9:Option Addr) (c8:Nat) (cs4:List Value),o=out3->I0.le I'->(RL I' cs4 out3)->T 54 B Q (.exit 2) I' [hO zN (vS p9 out3 c8) cs4,hB b (cProg p p1 c p2 c1)] [(1,vP b 0),(3,vS p9 out3 c8),(4,vI i)])->J Tryz.prog 54 B (nav (bodyOf Tryz.f72) [1,1,0,1,0,0,1,0,0,1,1,0]) Q I [hO (List Int) (vS p7 y c6) cs2,hO zN (vS p8 out2 c7) cs3,hB b (cProg p p1 c p2 c1)] [(1,vP b 0),(3,vS p8 out2 c7),(4,vI i),(5,vS p7 y c6),(6,vI k0)]:=by
 refine vZ.partial_correctness p i y _ fun self ih out2 k0 o N B I0 I Q p1 c p2 c1 b p7 c6 cs2 p8 c7 cs3 H h8 h h1 h9 hg ho hx=>yU hg ho<|yD<|yH [27] rfl<|zK<|yG N ?_ ?_
 · intro hc1 N;refine zS<|zZ<|yF<|yH [7] rfl<|wK<|pM [(1,vP b 0),(3,vS p8 out2 c7),(4,vI i),(5,vS p7 y c6),(6,vI k0),(7,vI 0)] ?_;obtain ⟨o0,ho0,hMl⟩:=zB N;refine zCg p i y k0 out2 0 o0 ho0 iR h8 h h1 h9 (fun _ _ _ h=>hg _ _ _ h) (fun _ _ h=>ho _ _ h) ?_;intro I02 out5 p11 c10 cs6 heq le2 h12;subst o0;have ⟨h8,h,h1,H⟩:=m4 le2 h8 h h1 H;exact zR<|zO<|zK<|zM<|yM [] [6] rfl<|yT<|nT<|ih out5 (W (k0+1)) _ hMl H h8 h h1 h12 hg ho hx
 intro hc1 N;exact wW<|wG (zW [1,2] rfl (by decide))<|yW<|hx _ _ _ _ _ (zC N).symm H h9
def uA (p:zF) (out:List zN) (i:Int):Option (List zN):=do
 if (decide (i<(p.Parts.length:Int))) then
  let x<-idx p.Parts i
  let y<-tB ([]:List (List Int)) x.Nest ([]:List Int)
  let out3<-vZ p i y out 0
  uA p out3 (W (i+1))
 else
  pure (id out)
 partial_fixpoint
theorem zCi (p:zF):∀ (out:List zN) (i:Int) (o:List zN),uA p out i=some o->∀ {B}{I0 I:Imm}{Q p1 c p2 c1}{b:Nat}{p3 c2 cs},I0.le I->(S4 I p1 p.Arrays c)->(S4 I p2 p.Parts c1)->(RL I cs out)->NG Q->NO Q->(∀ (I':Imm) (out1:List zN) (p4:Option Addr) (c3:Nat) (cs1:List Value),o=out1->I0.le I'->(RL I' cs1 out1)->T 54 B Q (.exit 0) I' [hO zN (vS p4 out1 c3) cs1] [(3,vS p4 out1 c3)])->J Tryz.prog 54 B (nav (bodyOf Tryz.f72) [1,1,0,1,0]) Q I [hO zN (vS p3 out c2) cs,hB b (cProg p p1 c p2 c1)] [(1,vP b 0),(3,vS p3 out c2),(4,vI i)]:=by
 refine uA.partial_correctness p _ fun self ih out i o N B I0 I Q p1 c p2 c1 b p3 c2 cs H h h1 h3 hg ho hx=>yU hg ho<|yD<|yC<|yM [1] [13] rfl<|zK<|yG N ?_ ?_
 · intro hc N;refine zS<|zZ<|yF<|yC<|tK [] (List Int) ?_;intro b2 hb2;have h5:RL I [] ([]:List (List Int)):=rfl;refine yE 4 [2] [18,19] rfl<|bE N fun x hy N=>xT rfl rfl h1 hy ?_;intro ad ccs hat hrep;obtain ⟨p5,c4,p6,c5,rfl,h6,h7⟩:=wH hrep;refine yE 6 [] [21] rfl<|xO 0 hat [vS p5 x.Nest c4] (vS p5 x.Nest c4) rfl<|bE N fun y hy1 N=>rS (zCG ([]:List (List Int)) x.Nest ([]:List Int) _ hy1 h5 h6 (SL.nil _)) rfl ?_;rintro I0 hs2 v2 k2 le - ⟨p7,c6,cs2,rfl,rfl,h8⟩ -;have ⟨h3,h,h1,H⟩:=m4 le h3 h h1 H;refine yM [] [5] rfl<|uN [6] rfl<|wK<|pM [(1,vP b 0),(3,vS p3 out c2),(4,vI i),(5,vS p7 y c6),(6,vI 0)] ?_;obtain ⟨o01,ho01,hMl1⟩:=zB N;refine zCh p i y out 0 o01 ho01 iR h8 h h1 h3 (fun _ _ _ h=>hg _ _ _ h) (fun _ _ h=>ho _ _ h) ?_;intro I03 out3 p9 c8 cs4 heq1 le3 h10;subst o01;have ⟨h,h1,H⟩:=m3 le3 h h1 H;exact zR<|zO<|zK<|zM<|yM [] [4] rfl<|yT<|nT<|ih out3 (W (i+1)) _ hMl1 H h h1 h10 hg ho hx
 intro hc N;exact wW<|wG (zW [0] rfl (by decide))<|yW<|hx _ _ _ _ _ (zC N).symm H h3
def oE (p:zF):Option ((List zN)):=do
 let out1<-uA p ([]:List zN) 0
 pure (id out1)
theorem zEC:∀ p r,oE p=some r->∀ {I:Imm}{p1 c p2 c1},(S4 I p1 p.Arrays c)->(S4 I p2 p.Parts c1)->RT 72 [vA (cProg p p1 c p2 c1)] I [] (zA0  r):=by
 intro p r N I p1 c p2 c1 h h1;unfold oE at N;refine yJ Tryz.func72 fun B=>yC<|vK (cProg p p1 c p2 c1) ?_;intro b hb;refine wU [] []<|yX<|tK [] zN ?_;intro b1 hb1;have h2:RL I [] ([]:List zN):=rfl;refine yM [] [3] rfl<|zZ<|yH [4] rfl<|wK<|pM [(1,vP b 0),(3,vS (some ⟨b1,0,none⟩) ([]:List zN) 0),(4,vI 0)] ?_;obtain ⟨o02,ho02,hMl2⟩:=zB N;refine zCi p ([]:List zN) 0 o02 ho02 iR h h1 h2 (fun _ _ _ h=>h) (fun _ _ h=>h) ?_;intro I04 out1 p4 c3 cs1 heq2 le4 h4;subst o02;refine zR<|uN [2] rfl<|xI<|xE 0 rfl ?_;intro I05 le5 hl01;have h21:=SL.of_frozen hl01 le5 h4;obtain rfl:=zC hMl2;exact xC ⟨_,_,(.tmp rfl ResV.nil),zQ,⟨_,rfl,rfl,h21⟩⟩
def zFg (r:(List Int)):KT:=fun kk I' hs' v=>
  ∃ v0,hs'=[]/\v=tupV [v0]/\SL I' v0 r
def rZ (name:Str) (dims:Int) (y:(List zN)) (i:Int) (all:List zG) (k02:Int) (out5:List Int) (d0:Int):Option (List Int):=do
 let t67<-(do
   if (decide (d0<dims)) then
    let x4<-idx all k02
    pure (x4.Array.l==name.l)
   else
    pure false
     : Option Bool)
 if t67 then
  let x5<-idx all k02
  let x6<-idx x5.Subs d0
  let x7<-idx y i
  let y2<-qM x6 x7.Point
  let x8<-idx out5 d0
  let out7<-(do
    if (decide (y2>x8)) then
     let x9<-idx out5 d0
     let l<-pure (out5.set d0.toNat y2)
     pure (id l)
    else
     pure (id out5)
      : Option (List Int))
  rZ name dims y i all k02 out7 (W (d0+1))
 else
  pure (id out5)
 partial_fixpoint
theorem zEk (name:Str) (dims:Int) (y:(List zN)) (i:Int) (all:List zG) (k02:Int):∀ (out5:List Int) (d0:Int) (o:List Int),rZ name dims y i all k02 out5 d0=some o->∀ {B}{I0 I:Imm}{Q}{p:zF}{p1 c p2 c1}{b:Nat}{p3 c2 p15 c14 cs4 p18 c17 cs7},I0.le I->(S4 I p3 y c2)->(RL I cs4 all)->(S4 I p1 p.Arrays c)->(S4 I p2 p.Parts c1)->(RL I cs7 out5)->NG Q->NO Q->(∀ (I':Imm) (out6:List Int) (p19:Option Addr) (c18:Nat) (cs8:List Value),o=out6->I0.le I'->(RL I' cs8 out6)->T 95 B Q (.exit 4) I' [hO zG (vS p15 all c14) cs4,hO Int (vS p19 out6 c18) cs8,hB b (cProg p p1 c p2 c1)] [(1,vT name.l),(2,vI dims),(3,vP b 0),(7,vS p19 out6 c18),(8,vS p3 y c2),(9,vI i),(11,vS p15 all c14),(12,vI k02)])->J Tryz.prog 95 B (nav (bodyOf Tryz.f35) [1,1,1,0,1,0,0,1,0,0,1,1,1,0,0,1,0,0,1,0]) Q I [hO zG (vS p15 all c14) cs4,hO Int (vS p18 out5 c17) cs7,hB b (cProg p p1 c p2 c1)] [(1,vT name.l),(2,vI dims),(3,vP b 0),(7,vS p18 out5 c17),(8,vS p3 y c2),(9,vI i),(11,vS p15 all c14),(12,vI k02),(13,vI d0)]:=by
 refine rZ.partial_correctness name dims y i all k02 _ fun self ih out5 d0 o N B I0 I Q p p1 c p2 c1 b p3 c2 p15 c14 cs4 p18 c17 cs7 H h3 h18 h h1 h21 hg ho hx=>yU hg ho<|yD<|yD ?_;refine uB N [hO zG (vS p15 all c14) cs4,hO Int (vS p18 out5 c17) cs7,hB b (cProg p p1 c p2 c1)] (fun t67=>[(1,vT name.l),(2,vI dims),(3,vP b 0),(7,vS p18 out5 c17),(8,vS p3 y c2),(9,vI i),(11,vS p15 all c14),(12,vI k02),(13,vI d0),(67,.bool t67)]) (fun o0 ho0=>?_) ?_
 · have H:=iS I;refine zM<|yE 4 [] [59] rfl<|wO [59] ho0 ?_ ?_
   · intro hc2 N;refine yE 6 [] [60,61] rfl<|bE N fun x4 hy8 N=>nU 0 rfl rfl rfl h18 hy8 ?_;intro ad5 ccs5 hat5 hcc hrep4;obtain ⟨p20,c19,rfl,h23⟩:=tD hrep4;exact yE 8 [] [63] rfl<|zBu 0 0 hat5 hcc [vT x4.Array.l] (vT x4.Array.l) rfl rfl<|yM [] [67] rfl<|yW<|zU (ct N H)
   intro hc2 N;exact wU [] [(67,vF)]<|yW<|zU (ct N H)
 intro t67 I05 le5 hMc;have ⟨h21,h3,h18,h,h1,H⟩:=m6 le5 h21 h3 h18 h h1 H;refine zK<|yG hMc ?_ ?_
 · intro hc3 N;refine zS<|zZ<|yF<|yD ?_;obtain ⟨x5,hy9,N⟩:=zB N;obtain ⟨x6,hy10,N⟩:=zB N;obtain ⟨x7,hy11,N⟩:=zB N;obtain ⟨y2,hy12,N⟩:=zB N;refine wP [.p (vS p15 all c14) [],.p (vI k02) [],.x (fun I' v hx=>∃ ad6 p21 c20,v=.pointer (some ad6)/\hx=[]/\(AtO (vS p15 all c14) (Rp.sz zG) k02.toNat ad6)/\((cs4.drop (k02.toNat*Rp.sz zG)).take (Rp.sz zG)=(cAccess x5 p21 c20))/\(S4 I' p21 x5.Subs c20)),.x (fun I' v hx=>∃ ad61 p211 c201,v=.pointer (some (ad61.add 1))/\hx=[]/\(AtO (vS p15 all c14) (Rp.sz zG) k02.toNat ad61)/\((cs4.drop (k02.toNat*Rp.sz zG)).take (Rp.sz zG)=(cAccess x5 p211 c201))/\(S4 I' p211 x5.Subs c201)),.x (eS x5.Subs),.p (vI d0) [],.x (ePAff x6),.x (eVAff x6),.p (vS p3 y c2) [],.p (vI i) [],.x (ePInst x7),.x (eQInst 2 x7),.x (eS x7.Point),.q (vI y2)] [[],[],[(0,false),(1,false)],[(2,false)],[(3,false)],[],[(4,false),(5,false)],[(6,false)],[],[],[(8,false),(9,false)],[(10,false)],[(11,false)],[(7,false),(12,false)]] [hO zG (vS p15 all c14) cs4,hO Int (vS p18 out5 c17) cs7,hB b (cProg p p1 c p2 c1)] [] [(13,false)] (zY [0,1,2]) ?_ ?_
   · refine Op<|Op<|Ox ?_<|Ox ?_<|Ox ?_<|Op<|Ox ?_<|Ox ?_<|Op<|Op<|Ox ?_<|Ox ?_<|Ox ?_<|Oq ?_<|On
     · intro I1 hf le1;refine yV [70,71] rfl ?_;have h18:=iM le1 h18;refine nU 0 rfl rfl rfl h18 hy9 ?_;intro ad6 ccs6 hat6 hcc1 hrep5;obtain ⟨p21,c20,rfl,h24⟩:=tD hrep5;exact yL [] iR ⟨_,_,_,rfl,rfl,hat6,hcc1,h24⟩
     · rintro I1 hf le1 _ _ ⟨ad6,p21,c20,rfl,rfl,hat6,hcc1,h24⟩;exact yV [72] rfl<|qA 4 [(73,.pointer (some (ad6.add 1)))]<|yL [] iR ⟨_,_,_,rfl,rfl,hat6,hcc1,h24⟩
     · rintro I1 hf le1 _ _ ⟨ad61,p211,c201,rfl,rfl,hat61,hcc11,h241⟩;exact yV [73] rfl<|zBu 0 1 hat61 hcc11 [vS p211 x5.Subs c201] (vS p211 x5.Subs c201) rfl rfl<|yL [] iR ⟨_,_,rfl,rfl,h241⟩
     · rintro I1 hf le1 _ _ ⟨p2111,c2011,rfl,rfl,h2411⟩;refine yV [74,75] rfl<|xT rfl rfl h2411 hy10 ?_;intro ad7 ccs7 hat7 hrep6;obtain ⟨p22,c21,rfl,h25⟩:=yB hrep6;exact yL [] iR ⟨_,_,_,rfl,rfl,hat7,h25⟩
     · rintro I1 hf le1 _ _ ⟨ad7,p22,c21,rfl,rfl,hat7,h25⟩;exact yV [76] rfl<|xO 0 hat7 (cAff x6 p22 c21) (vA (cAff x6 p22 c21)) rfl<|yL [] iR ⟨_,_,rfl,rfl,h25⟩
     · intro I1 hf le1;refine yV [78,79] rfl ?_;have h3:=h3.mono le1;refine xT rfl rfl h3 hy11 ?_;intro ad8 ccs8 hat8 hrep7;obtain ⟨p23,c22,rfl,h26⟩:=dR hrep7;exact yL [] iR ⟨_,_,_,rfl,rfl,hat8,h26⟩
     · rintro I1 hf le1 _ _ ⟨ad8,p23,c22,rfl,rfl,hat8,h26⟩;exact yV [80] rfl<|qA 12 [(81,.pointer (some (ad8.add 2)))]<|yL [] iR ⟨_,_,_,rfl,rfl,hat8,h26⟩
     · rintro I1 hf le1 _ _ ⟨ad81,p231,c221,rfl,rfl,hat81,h261⟩;exact yV [81] rfl<|xO 2 hat81 [vS p231 x7.Point c221] (vS p231 x7.Point c221) rfl<|yL [] iR ⟨_,_,rfl,rfl,h261⟩
     rintro I1 hf le1 _ _ ⟨p221,c211,rfl,rfl,h251⟩ _ _ ⟨p2311,c2211,rfl,rfl,h2611⟩;refine yV [77,82] rfl ?_;have H:=iS I1;refine fB (fG x6 x7.Point _ hy12 h251 h2611) ?_;intro I06 le6;have H:=H.trans le6;exact xB H
   intro I07 le7;refine yV [1,2,3,7,8,9,11,12,13,83] rfl ?_;have ⟨h21,h3,h18,h,h1,H⟩:=m6 le7 h21 h3 h18 h h1 H;refine yM [] [14] rfl<|yX<|yE 3 [] [84,85,86] rfl<|bE N fun x8 hy13 N=>nU 1 rfl rfl rfl h21 hy13 ?_;intro ad9 ccs9 hat9 hcc2 hrep8;obtain rfl:=hrep8;refine zBu 1 0 hat9 hcc2 [vI x8] (vI x8) rfl rfl<|yM [] [89] rfl<|zK ?_;obtain ⟨o01,ho01,hMc1⟩:=zB N;refine nN (fun I' hs' m'=>∃ (out7:List Int) (p24:Option Addr) (c23:Nat) (cs9:List Value),o01=out7/\I07.le I'/\(RL I' cs9 out7)/\hs'=[hO zG (vS p15 all c14) cs4,hO Int (vS p24 out7 c23) cs9,hB b (cProg p p1 c p2 c1)]/\m'=[(1,vT name.l),(2,vI dims),(3,vP b 0),(7,vS p24 out7 c23),(8,vS p3 y c2),(9,vI i),(11,vS p15 all c14),(12,vI k02),(13,vI d0)]) ?_ ?_
   · have H:=iS I07;refine yG ho01 ?_ ?_
     · intro hc4 N;refine zM<|yE 3 [] [90,91,92] rfl<|bE N fun x9 hy14 N=>nU 1 rfl rfl rfl h21 hy14 ?_;intro ad10 ccs10 hat10 hcc3 hrep9;obtain rfl:=hrep9;obtain ⟨l,hy15,N⟩:=zB N;refine qE (c:=[vI y2]) (x':=y2) 1 0 rfl rfl rfl hat10 rfl rfl hcc3 (by kernel_rfl) (by kernel_rfl) (by kernel_rfl) h21 hy14 (by kernel_rfl) rfl ?_;rw [show out5.set d0.toNat y2=l from zC hy15];intro cs10 h29 hl01;exact fY (m':=[(1,vT name.l),(2,vI dims),(3,vP b 0),(7,vS p18 out5 c17),(8,vS p3 y c2),(9,vI i),(11,vS p15 all c14),(12,vI k02),(13,vI d0),(90,vS p18 out5 c17),(91,vI d0),(92,vI y2)]) ⟨rfl,rfl,rfl,rfl,rfl,rfl,rfl,rfl,rfl,rfl,rfl,rfl,trivial⟩<|zCX (hs':=[hO zG (vS p15 all c14) cs4,hO Int (vS p18 l c17) cs10,hB b (cProg p p1 c p2 c1)]) (m':=[(1,vT name.l),(2,vI dims),(3,vP b 0),(7,vS p18 l c17),(8,vS p3 y c2),(9,vI i),(11,vS p15 all c14),(12,vI k02),(13,vI d0),(90,vS p18 l c17),(91,vI d0),(92,vI y2)]) (by first | rfl | simp only [vS,hl01,List.nil_append,List.cons_append,List.set_cons_zero,List.set_cons_succ,List.eraseIdx_cons_zero,List.eraseIdx_cons_succ]) (by first | rfl | simp only [vS,hl01])<|zX rfl<|yW<|zU ⟨_,_,_,_,(zC N).symm,H,h29,rfl,rfl⟩
     intro hc4 N;exact zS<|yW<|zU ⟨_,_,_,_,(zC N).symm,H,h21,rfl,rfl⟩
   rintro I08 hs2 m2 ⟨out7,p24,c23,cs9,heq1,le8,h28,rfl,rfl⟩;subst o01;have ⟨h3,h18,h,h1,H⟩:=m5 le8 h3 h18 h h1 H;exact zO<|zK<|zM<|yM [] [13] rfl<|yT<|nT<|ih out7 (W (d0+1)) _ hMc1 H h3 h18 h h1 h28 hg ho hx
 intro hc3 N;exact wW<|yW<|hx _ _ _ _ _ (zC N).symm H h21
def nC (name:Str) (dims:Int) (y:(List zN)) (i:Int) (all:List zG) (out3:List Int) (k02:Int):Option (List Int):=do
 if (decide (k02<(all.length:Int))) then
  let out6<-rZ name dims y i all k02 out3 0
  nC name dims y i all out6 (W (k02+1))
 else
  pure (id out3)
 partial_fixpoint
theorem zEl (name:Str) (dims:Int) (y:(List zN)) (i:Int) (all:List zG):∀ (out3:List Int) (k02:Int) (o:List Int),nC name dims y i all out3 k02=some o->∀ {B}{I0 I:Imm}{Q}{p:zF}{p1 c p2 c1}{b:Nat}{p3 c2 p15 c14 cs4 p16 c15 cs5},I0.le I->(S4 I p3 y c2)->(RL I cs4 all)->(S4 I p1 p.Arrays c)->(S4 I p2 p.Parts c1)->(RL I cs5 out3)->NG Q->NO Q->(∀ (I':Imm) (out4:List Int) (p17:Option Addr) (c16:Nat) (cs6:List Value),o=out4->I0.le I'->(RL I' cs6 out4)->T 95 B Q (.exit 2) I' [hO Int (vS p17 out4 c16) cs6,hB b (cProg p p1 c p2 c1)] [(1,vT name.l),(2,vI dims),(3,vP b 0),(7,vS p17 out4 c16),(8,vS p3 y c2),(9,vI i)])->J Tryz.prog 95 B (nav (bodyOf Tryz.f35) [1,1,1,0,1,0,0,1,0,0,1,1,1,0]) Q I [hO zG (vS p15 all c14) cs4,hO Int (vS p16 out3 c15) cs5,hB b (cProg p p1 c p2 c1)] [(1,vT name.l),(2,vI dims),(3,vP b 0),(7,vS p16 out3 c15),(8,vS p3 y c2),(9,vI i),(11,vS p15 all c14),(12,vI k02)]:=by
 refine nC.partial_correctness name dims y i all _ fun self ih out3 k02 o N B I0 I Q p p1 c p2 c1 b p3 c2 p15 c14 cs4 p16 c15 cs5 H h3 h18 h h1 h19 hg ho hx=>yU hg ho<|yD<|yH [53] rfl<|zK<|yG N ?_ ?_
 · intro hc1 N;refine zS<|zZ<|yF<|yH [13] rfl<|wK<|pM [(1,vT name.l),(2,vI dims),(3,vP b 0),(7,vS p16 out3 c15),(8,vS p3 y c2),(9,vI i),(11,vS p15 all c14),(12,vI k02),(13,vI 0)] ?_;obtain ⟨o02,ho02,hMl⟩:=zB N;refine zEk name dims y i all k02 out3 0 o02 ho02 iR h3 h18 h h1 h19 (fun _ _ _ h=>hg _ _ _ h) (fun _ _ h=>ho _ _ h) ?_;intro I09 out6 p19 c18 cs8 heq2 le9 h22;subst o02;have ⟨h3,h18,h,h1,H⟩:=m5 le9 h3 h18 h h1 H;exact zR<|zO<|zK<|zM<|yM [] [12] rfl<|yT<|nT<|ih out6 (W (k02+1)) _ hMl H h3 h18 h h1 h22 hg ho hx
 intro hc1 N;exact wW<|wG (zW [1,2] rfl (by decide))<|yW<|hx _ _ _ _ _ (zC N).symm H h19
def nD (p:zF) (name:Str) (dims:Int) (y:(List zN)) (out1:List Int) (i:Int):Option (List Int):=do
 if (decide (i<(y.length:Int))) then
  let x<-idx y i
  let x1<-idx p.Parts x.Part
  let x2<-idx y i
  let x3<-idx x1.Body x2.Stmt
  let y1<-rH ([]:List zG) x3.Value
  let all<-app 40 y1 ([x3.Write]:List zG)
  let out4<-nC name dims y i all out1 0
  nD p name dims y out4 (W (i+1))
 else
  pure (id out1)
 partial_fixpoint
theorem zEm (p:zF) (name:Str) (dims:Int) (y:(List zN)):∀ (out1:List Int) (i:Int) (o:List Int),nD p name dims y out1 i=some o->∀ {B}{I0 I:Imm}{Q p1 c p2 c1}{b:Nat}{p3 c2 p4 c3 cs1},I0.le I->(S4 I p3 y c2)->(S4 I p1 p.Arrays c)->(S4 I p2 p.Parts c1)->(RL I cs1 out1)->NG Q->NO Q->(∀ (I':Imm) (out2:List Int) (p5:Option Addr) (c4:Nat) (cs2:List Value),o=out2->I0.le I'->(RL I' cs2 out2)->T 95 B Q (.exit 0) I' [hO Int (vS p5 out2 c4) cs2] [(7,vS p5 out2 c4)])->J Tryz.prog 95 B (nav (bodyOf Tryz.f35) [1,1,1,0,1,0]) Q I [hO Int (vS p4 out1 c3) cs1,hB b (cProg p p1 c p2 c1)] [(1,vT name.l),(2,vI dims),(3,vP b 0),(7,vS p4 out1 c3),(8,vS p3 y c2),(9,vI i)]:=by
 refine nD.partial_correctness p name dims y _ fun self ih out1 i o N B I0 I Q p1 c p2 c1 b p3 c2 p4 c3 cs1 H h3 h h1 h4 hg ho hx=>yU hg ho<|yD<|yH [22] rfl<|zK<|yG N ?_ ?_
 · intro hc N;refine zS<|zZ<|yF<|yD ?_;obtain ⟨x,hy2,N⟩:=zB N;obtain ⟨x1,hy3,N⟩:=zB N;obtain ⟨x2,hy4,N⟩:=zB N;obtain ⟨x3,hy5,N⟩:=zB N;refine wP [.p (vP b 1) [],.p (vS p2 p.Parts c1) [1],.p (vS p3 y c2) [],.p (vI i) [],.x (ePInst x),.x (ePInst x),.q (vI x.Part),.x (ePPart x1),.x (eQPart 1 x1),.x (eS x1.Body),.p (vS p3 y c2) [],.p (vI i) [],.x (ePInst x2),.x (eQInst 1 x2),.q (vI x2.Stmt),.x (ePStmt x3),.x (eVStmt x3),.x (fun I' v hx=>∃ b2,v=vP b2 0/\hx=[hB b2 [vT ([]),z0,vI 0,vI 0,z0,vI 0,vT ([]),z0,z0]])] [[],[(0,false)],[],[],[(2,false),(3,false)],[(4,false)],[(5,false)],[(1,false),(6,false)],[(7,false)],[(8,false)],[],[],[(10,false),(11,false)],[(12,false)],[(13,false)],[(9,false),(14,false)],[(15,false)],[]] [hO Int (vS p4 out1 c3) cs1,hB b (cProg p p1 c p2 c1)] [] [(16,false),(17,true)] (zY [0,1]) ?_ ?_
   · refine Op<|Op<|Op<|Op<|Ox ?_<|Ox ?_<|Oq ?_<|Ox ?_<|Ox ?_<|Ox ?_<|Op<|Op<|Ox ?_<|Ox ?_<|Oq ?_<|Ox ?_<|Ox ?_<|Ox ?_<|On
     · intro I1 hf le1;refine yV [27,28] rfl ?_;have h3:=h3.mono le1;refine xT rfl rfl h3 hy2 ?_;intro ad ccs hat hrep;obtain ⟨p6,c5,rfl,h6⟩:=dR hrep;exact yL [] iR ⟨_,_,_,rfl,rfl,hat,h6⟩
     · rintro I1 hf le1 _ _ ⟨ad,p6,c5,rfl,rfl,hat,h6⟩;exact yV [29] rfl<|qA 6 [(30,.pointer (some ad))]<|yL [] iR ⟨_,_,_,rfl,rfl,hat,h6⟩
     · rintro I1 hf le1 _ _ ⟨ad1,p61,c51,rfl,rfl,hat1,h61⟩;exact yV [30] rfl<|xO 0 hat1 [vI x.Part] (vI x.Part) rfl<|xB iR
     · intro I1 hf le1;refine yV [26,31] rfl ?_;have h1:=h1.mono le1;refine xT rfl rfl h1 hy3 ?_;intro ad2 ccs1 hat2 hrep1;obtain ⟨p7,c6,p8,c7,rfl,h7,h8⟩:=wH hrep1;exact yL [] iR ⟨_,_,_,_,_,rfl,rfl,hat2,h7,h8⟩
     · rintro I1 hf le1 _ _ ⟨ad2,p7,c6,p8,c7,rfl,rfl,hat2,h7,h8⟩;exact yV [32] rfl<|qA 9 [(33,.pointer (some (ad2.add 1)))]<|yL [] iR ⟨_,_,_,_,_,rfl,rfl,hat2,h7,h8⟩
     · rintro I1 hf le1 _ _ ⟨ad21,p71,c61,p81,c71,rfl,rfl,hat21,h71,h81⟩;exact yV [33] rfl<|xO 1 hat21 [vS p81 x1.Body c71] (vS p81 x1.Body c71) rfl<|yL [] iR ⟨_,_,rfl,rfl,h81⟩
     · intro I1 hf le1;refine yV [35,36] rfl ?_;have h3:=h3.mono le1;refine xT rfl rfl h3 hy4 ?_;intro ad3 ccs2 hat3 hrep2;obtain ⟨p9,c8,rfl,h9⟩:=dR hrep2;exact yL [] iR ⟨_,_,_,rfl,rfl,hat3,h9⟩
     · rintro I1 hf le1 _ _ ⟨ad3,p9,c8,rfl,rfl,hat3,h9⟩;exact yV [37] rfl<|qA 14 [(38,.pointer (some (ad3.add 1)))]<|yL [] iR ⟨_,_,_,rfl,rfl,hat3,h9⟩
     · rintro I1 hf le1 _ _ ⟨ad31,p91,c81,rfl,rfl,hat31,h91⟩;exact yV [38] rfl<|xO 1 hat31 [vI x2.Stmt] (vI x2.Stmt) rfl<|xB iR
     · rintro I1 hf le1 _ _ ⟨p811,c711,rfl,rfl,h811⟩;refine yV [34,39] rfl<|xT rfl rfl h811 hy5 ?_;intro ad4 ccs3 hat4 hrep3;obtain ⟨p10,c9,p11,c10,p12,c11,p13,c12,rfl,h10,h11,h12,h13⟩:=vC hrep3;exact yL [] iR ⟨_,_,_,_,_,_,_,_,_,rfl,rfl,hat4,h10,h11,h12,h13⟩
     · rintro I1 hf le1 _ _ ⟨ad4,p10,c9,p11,c10,p12,c11,p13,c12,rfl,rfl,hat4,h10,h11,h12,h13⟩;exact yV [40] rfl<|xO 0 hat4 (cStmt x3 p10 c9 p11 c10 p12 c11 p13 c12) (vA (cStmt x3 p10 c9 p11 c10 p12 c11 p13 c12)) rfl<|yL [] iR ⟨_,_,_,_,_,_,_,_,rfl,rfl,h10,h11,h12,h13⟩
     intro I1 hf le1;refine dS []<|xU [vT ([]),z0,vI 0,vI 0,z0,vI 0,vT ([]),z0,z0] ?_;intro b2 hb1;exact yL [hB b2 [vT ([]),z0,vI 0,vI 0,z0,vI 0,vT ([]),z0,z0]] iR ⟨_,rfl,rfl⟩
   rintro I01 le1 _ _ ⟨p101,c91,p111,c101,p121,c111,p131,c121,rfl,rfl,h101,h111,h121,h131⟩ _ _ ⟨b2,rfl,rfl⟩;refine yV [1,2,3,7,8,9,10,41] rfl ?_;have ⟨h4,h3,h,h1,H⟩:=m5 le1 h4 h3 h h1 H;refine yZ 0 (cStmt x3 p101 c91 p111 c101 p121 c111 p131 c121) rfl<|zX rfl<|zK<|yD ?_;obtain ⟨y1,hy6,N⟩:=zB N;obtain ⟨all,hy7,N⟩:=zB N;refine wP [.x (fun I' v hx=>∃ b3,v=vS (some ⟨b3,0,none⟩) ([]:List zG) 0/\hx=[hO zG (vS (some ⟨b3,0,none⟩) ([]:List zG) 0) []]/\(RL I' [] ([]:List zG))),.p (vP b2 2) [],.p (vA (cExpr x3.Value p111 c101 p121 c111 p131 c121)) [0],.x (fun I' v hx=>∃ p14 c13 cs3,v=vS p14 y1 c13/\hx=[hO zG (vS p14 y1 c13) cs3]/\(RL I' cs3 y1)),.p (vP b2 0) [],.p (vA (cAccess x3.Write p101 c91)) [0],.x (fun I' v hx=>∃ b4,v=vS (some ⟨b4,0,none⟩) ([x3.Write]:List zG) 1/\hx=[]/\(SL I' (vS (some ⟨b4,0,none⟩) ([x3.Write]:List zG) 1) ([x3.Write]:List zG))),.x (fun I' v hx=>∃ p15 c14 cs4,v=vS p15 all c14/\hx=[hO zG (vS p15 all c14) cs4]/\(RL I' cs4 all))] [[],[],[(1,false)],[(0,true),(2,false)],[],[(4,false)],[(5,false)],[(3,true),(6,false)]] [hB b2 (cStmt x3 p101 c91 p111 c101 p121 c111 p131 c121),hO Int (vS p4 out1 c3) cs1,hB b (cProg p p1 c p2 c1)] [] [(7,true)] (zY [0,1,2]) ?_ ?_
   · refine Ox ?_<|Op<|Op<|Ox ?_<|Op<|Op<|Ox ?_<|Ox ?_<|On
     · intro I1 hf le1;refine dS []<|tK [] zG ?_;intro b3 hb2;have h14:RL I1 [] ([]:List zG):=rfl;exact yL [hO zG (vS (some ⟨b3,0,none⟩) ([]:List zG) 0) []] iR ⟨_,rfl,rfl,h14⟩
     · rintro I1 hf le1 _ _ ⟨b3,rfl,rfl,h14⟩;refine yV [42,44] rfl ?_;have H:=iS I1;have ⟨h111,h121,h131⟩:=m3 le1 h111 h121 h131;refine rS (zCs ([]:List zG) x3.Value _ hy6 h14 h111 h121 h131) rfl ?_;rintro I02 hs2 v2 k2 le2 - ⟨p14,c13,cs3,rfl,rfl,h15⟩ -;have H:=H.trans le2;exact yL [hO zG (vS p14 y1 c13) cs3] H ⟨_,_,_,rfl,rfl,h15⟩
     · intro I1 hf le1;refine yV [47] rfl ?_;have H:=iS I1;have h101:=h101.mono le1;refine mU (rc x3.Write (rJ ⟨_,rfl,h101⟩) rN) ?_;intro b4 I03 le3 h17;have H:=H.trans le3;exact yL [] H ⟨_,rfl,rfl,h17⟩
     rintro I1 hf le1 _ _ ⟨p14,c13,cs3,rfl,rfl,h15⟩ _ _ ⟨b4,rfl,rfl,h17⟩;refine yV [45,48] rfl ?_;obtain ⟨ccs4,k0,k01⟩:=h17;have h17:SL I1 (vS (some ⟨b4,0,none⟩) ([x3.Write]:List zG) 1) ([x3.Write]:List zG):=⟨_,k0,k01⟩;exact qD 67 2 0 rfl rfl rfl h15 (.inl k0) k01 hy7 fun p15 c14 cs4 h18=>vH (hs':=(hO zG (vS p15 all c14) cs4::hB b2 (cStmt x3 p101 c91 p111 c101 p121 c111 p131 c121)::hO Int (vS p4 out1 c3) cs1::hB b (cProg p p1 c p2 c1)::hf)) rfl<|yL [hO zG (vS p15 all c14) cs4] iR ⟨_,_,_,rfl,rfl,h18⟩
   rintro I04 le4 _ _ ⟨p15,c14,cs4,rfl,rfl,h18⟩;refine yV [1,2,3,7,8,9,49] rfl ?_;have ⟨h4,h3,h,h1,H⟩:=m5 le4 h4 h3 h h1 H;refine yM [] [11] rfl<|uN [12] rfl<|wK<|pL (zY [0,2,3] (hs':=[hO zG (vS p15 all c14) cs4,hO Int (vS p4 out1 c3) cs1,hB b (cProg p p1 c p2 c1)]))<|pM [(1,vT name.l),(2,vI dims),(3,vP b 0),(7,vS p4 out1 c3),(8,vS p3 y c2),(9,vI i),(11,vS p15 all c14),(12,vI 0)] ?_;obtain ⟨o03,ho03,hMl1⟩:=zB N;refine zEl name dims y i all out1 0 o03 ho03 iR h3 h18 h h1 h4 (fun _ _ _ h=>hg _ _ _ h) (fun _ _ h=>ho _ _ h) ?_;intro I010 out4 p17 c16 cs6 heq3 le10 h20;subst o03;have ⟨h3,h,h1,H⟩:=m4 le10 h3 h h1 H;exact zR<|zO<|zK<|zM<|yM [] [9] rfl<|yT<|nT<|ih out4 (W (i+1)) _ hMl1 H h3 h h1 h20 hg ho hx
 intro hc N;exact wW<|wG (zW [0] rfl (by decide))<|yW<|hx _ _ _ _ _ (zC N).symm H h4
def dM (p:zF) (name:Str) (dims:Int):Option ((List Int)):=do
 let out<-mkrow 8 dims (0:Int)
 let y<-oE p
 let out2<-nD p name dims y out 0
 pure (id out2)
theorem zGw:∀ p name dims r,dM p name dims=some r->∀ {I:Imm}{p1 c p2 c1},(S4 I p1 p.Arrays c)->(S4 I p2 p.Parts c1)->RT 35 [vA (cProg p p1 c p2 c1),vT name.l,vI dims] I [] (zFg  r):=by
 intro p name dims r N I p1 c p2 c1 h h1;unfold dM at N;refine yJ Tryz.func35 fun B=>yC<|vK (cProg p p1 c p2 c1) ?_;intro b hb;refine wU [] []<|yX<|yE 1 [] [15] rfl<|bE N fun out hy N=>zOn 8 [vI 0] rfl hy rfl fun b1 cs h2=>yM [] [7] rfl<|yX<|tZ 1 [1] [(17,vA (cProg p p1 c p2 c1))]<|bE N fun y hy1 N=>xH (zEC p _ hy1 h h1) ?_;rintro I0 hs2 v2 k2 le - ⟨v0,rfl,rfl,h3⟩ -;have ⟨h2,h,h1⟩:=m3 le h2 h h1;obtain ⟨p3,c2,rfl⟩:=h3.form;refine yM [] [8] rfl<|zZ<|yH [9] rfl<|wK<|pM [(1,vT name.l),(2,vI dims),(3,vP b 0),(7,vS (some ⟨b1,0,none⟩) out out.length),(8,vS p3 y c2),(9,vI 0)] ?_;obtain ⟨o04,ho04,hMl2⟩:=zB N;refine zEm p name dims y out 0 o04 ho04 iR h3 h h1 h2 (fun _ _ _ h=>h) (fun _ _ h=>h) ?_;intro I011 out2 p5 c4 cs2 heq4 le11 h5;subst o04;refine zR<|uN [6] rfl<|xI<|xE 0 rfl ?_;intro I012 le12 hl02;have h30:=SL.of_frozen hl02 le12 h5;obtain rfl:=zC hMl2;exact xC ⟨_,_,(.tmp rfl ResV.nil),zQ,⟨_,rfl,rfl,h30⟩⟩
def rW (most:List Int) (d:Int) (dims:List Int):Option (List Int):=do
 if (decide (d<(most.length:Int))) then
  let v<-idx most d
  let _x<-idx dims d
  rW most (W (d+1)) (dims.set d.toNat (W (v+1)))
 else
  pure (id dims)
 partial_fixpoint
theorem zCj (most:List Int):∀ (d:Int) (dims:List Int) (o:List Int),rW most d dims=some o->∀ {B}{I0 I:Imm}{Q}{A:List zD}{raws:List Raw2}{i:Int}{x:zD}{w:Value}{P2:List zI}{pa:Option Addr}{ca:Nat}{pp:Option Addr}{cp:Nat}{pm:Option Addr}{cm:Nat}{csd:List Value}{b4 b6:Nat},I0.le I->ArW I (vS pa raws ca) raws A i w->idx A i=some x->SL I (vS pp P2 cp) P2->SL I (vS pm most cm) most->RL I csd dims->NG Q->NO Q->(∀ (I':Imm) (csd':List Value),o.length=dims.length->I0.le I'->ArW I' (vS pa raws ca) raws A i w->SL I' (vS pp P2 cp) P2->RL I' csd' o->T 64 B Q (.exit 2) I' [hO Int w csd',hB b6 [vS pa raws ca,vS pp P2 cp],hB b4 zTwo] [(4,vP b4 0),(6,vP b6 0)])->J Tryz.prog 64 B (nav (bodyOf Tryz.f9) [1,1,1,1,0,1,0,0,1,0,0,1,1,0,1,0]) Q I [hO Int w csd,hB b6 [vS pa raws ca,vS pp P2 cp],hB b4 zTwo] [(4,vP b4 0),(6,vP b6 0),(7,vI i),(8,vS pm most cm),(9,vI d)]:=by
 refine rW.partial_correctness most _ fun self ih d dims o N B I0 I Q A raws i x w P2 pa ca pp cp pm cm csd b4 b6 H hAr hx hP hm hd hg ho hk=>yU hg ho<|yD<|yH [46] rfl<|zK<|yG N ?_ ?_
 · intro hc N;obtain ⟨v0,hy,N⟩:=zB N;obtain ⟨x0,hy0,N⟩:=zB N;have hxr:=hAr.2.at hx;refine zS<|zZ<|yF<|wP [.p (vP b6 0) [],.p (vS pa raws ca) [1],.p (vI i) [],.x (fun I' v hx=>∃ ad,v=.pointer (some ad)/\hx=[]/\At I' ad [vT x.Name.l,w]),.x (fun I' v hx=>∃ ad,v=.pointer (some (ad.add 1))/\hx=[]/\At I' ad [vT x.Name.l,w]),.q w,.p (vI d) [],.p (vS pm most cm) [],.p (vI d) [],.x (fun I' v hx=>∃ ad,v=.pointer (some ad)/\hx=[]/\At I' ad [vI v0]),.q (vI v0),.q (vI (W (v0+1)))] [[],[(0,false)],[],[(1,false),(2,false)],[(3,false)],[(4,false)],[],[],[],[(7,false),(8,false)],[(9,false)],[(10,false)]] [hO Int w csd,hB b6 [vS pa raws ca,vS pp P2 cp],hB b4 zTwo] [] [(5,false),(6,false),(11,false)] (zY [0,1,2]) ?_ ?_
   · refine Op<|Op<|Op<|Ox ?_<|Ox ?_<|Oq ?_<|Op<|Op<|Op<|Ox ?_<|Oq ?_<|Oq ?_<|On
     · intro I1 hf le1;refine yV [50,51] rfl<|xT rfl rfl (hAr.1.mono le1) hxr ?_;intro ad ccs hat hrep;obtain ⟨rfl,_⟩:=hrep;exact yL [] iR ⟨_,rfl,rfl,hat⟩
     · rintro I1 hf le1 _ _ ⟨ad,rfl,rfl,hat⟩;exact pT<|zAl [(52,.pointer (some ad))]<|qA 5 [(53,.pointer (some (ad.add 1)))]<|yL [] iR ⟨_,rfl,rfl,hat⟩
     · rintro I1 hf le1 _ _ ⟨ad,rfl,rfl,hat⟩;exact pT<|zAl [(53,.pointer (some (ad.add 1)))]<|xO 1 hat [w] w rfl<|xB iR
     · intro I1 hf le1;refine yV [56,57] rfl<|xT rfl rfl (hm.mono le1) hy ?_;intro ad ccs hat hrep;obtain rfl:=hrep;exact yL [] iR ⟨_,rfl,rfl,hat⟩
     · rintro I1 hf le1 _ _ ⟨ad,rfl,rfl,hat⟩;exact pT<|zAl [(58,.pointer (some ad))]<|xO 0 hat [vI v0] (vI v0) rfl<|xB iR
     rintro I1 hf le1 _ _ ⟨rfl,rfl⟩;exact pT<|zAl [(59,vI v0)]<|qA 12 [(60,vI (W (v0+1)))]<|xB iR
   intro I2 le2;refine yV [4,6,7,8,9,54,55,60] rfl ?_;have hd2:RL I2 csd dims:=iM le2 hd;refine nU (α:=Int) 0 rfl rfl rfl hd2 hy0 ?_;intro ad ccs hat hcc hrep;obtain rfl:=hrep;exact qE (c:=[vI (W (v0+1))]) (x':=(W (v0+1))) 0 0 rfl rfl rfl hat rfl rfl hcc (by kernel_rfl) (by kernel_rfl) (by kernel_rfl) hd2 hy0 (by kernel_rfl) rfl fun csd' hd' hl'=>zX rfl<|zO<|zK<|zM<|yM [] [9] rfl<|yT<|nT<|ih (W (d+1)) _ _ N (H.trans le2) (hAr.mono le2) hx (hP.mono le2) (hm.mono le2) hd' hg ho (fun I' cs' h1=>hk I' cs' (h1.trans hl'))
 intro hc N;have:=zC N;simp only [id] at this;subst this;exact wW<|T_w [(4,vP b4 0),(6,vP b6 0)]<|hk _ _ rfl H hAr hP hd
def rX (p:zF) (name:Str) (A:List zD) (P2:List zI) (i:Int):Option (Out Unit (zF×Bool)):=do
 if (decide (i<(A.length:Int))) then
  let x<-idx A i
  if (!(x.Name.l==name.l)) then
   rX p name A P2 (W (i+1))
  else
   let y<-dM p name (x.Dims.length:Int)
   let z<-rW y 0 x.Dims
   pure (.ret (⟨A.set i.toNat ⟨x.Name,z⟩,P2⟩,true))
 else
  pure (.done ())
 partial_fixpoint
theorem zCk (p:zF) (name:Str) (A:List zD) (P2:List zI):∀ (i:Int) (o:Out Unit (zF×Bool)),rX p name A P2 i=some o->∀ {B}{I0 I:Imm}{Q}{xs:List ND}{p1 c p2 c1}{pa:Option Addr}{ca:Nat}{csa:List Value}{pp:Option Addr}{cp:Nat}{b2 b4 b6:Nat},I0.le I->A=xs.map ND.a->(∀ x∈xs,x.ok I)->RL I csa (xs.map ND.raw)->SL I (vS p1 p.Arrays c) p.Arrays->SL I (vS p2 p.Parts c1) p.Parts->SL I (vS pp P2 cp) P2->NG Q->NO Q->(∀ (I':Imm),o=.done ()->I0.le I'->T 64 B Q (.exit 0) I' [hB b4 zTwo] [(4,vP b4 0)])->(∀ r I' hs' m',o=.ret r->I0.le I'->RS Tryz.prog Tryz.f9 B (eK r) I' hs' m'->T 64 B Q .ret I' hs' m')->J Tryz.prog 64 B (nav (bodyOf Tryz.f9) [1,1,1,1,0,1,0]) Q I (hO Raw2 (vS pa (xs.map ND.raw) ca) csa::hB b6 [vS pa (xs.map ND.raw) ca,vS pp P2 cp]::hB b4 zTwo::hB b2 (cProg p p1 c p2 c1)::NDs xs) [(1,vT name.l),(2,vP b2 0),(4,vP b4 0),(6,vP b6 0),(7,vI i)]:=by
 refine rX.partial_correctness p name A P2 _ ?_;intro self ih i o N B I0 I Q xs p1 c p2 c1 pa ca csa pp cp b2 b4 b6 H hA hxs hRw h h1 hP hg ho hx hr;have hlen:((xs.map ND.raw).length:Int)=(A.length:Int):=by rw [hA]; simp
 refine yU hg ho<|yD<|yC<|yM [1] [22] rfl ?_;rw [hlen];refine zK<|yG N ?_ ?_
 · intro hc N;obtain ⟨x0,hy,N⟩:=zB N;have hy0:=hy;rw [hA] at hy0;obtain ⟨x,hx',rfl⟩:=zDn hy0;have hxr:=zBE (f:=ND.raw) hx';refine zS<|zZ<|yF<|yD<|yC<|yE 3 [1] [26,27] rfl<|nU (α:=Raw2) 0 rfl rfl rfl hRw hxr ?_;intro ad ccs hat hcc hrep;obtain ⟨rfl,o1,o2⟩:=hrep;refine yE 5 [] [29] rfl<|zBu 0 0 hat hcc [vT x.nm.l] (vT x.nm.l) rfl rfl<|yM [] [32] rfl<|zK<|yG N ?_ ?_
   · intro hc1 N;exact zEO<|jY<|zR<|zK<|zM<|yM [] [7] rfl<|yT<|nT<|ih (W (i+1)) _ N H hA hxs hRw h h1 hP hg ho hx hr
   intro hc1 N;obtain ⟨y,hy2,N⟩:=zB N;obtain ⟨z,hy3,N⟩:=zB N;refine zS<|zZ<|zDM (NDs xs++[hO Raw2 (vS pa (xs.map ND.raw) ca) csa,hB b6 [vS pa (xs.map ND.raw) ca,vS pp P2 cp],hB b4 zTwo,hB b2 (cProg p p1 c p2 c1)]) (List.perm_append_comm (l₂:=[hO Raw2 (vS pa (xs.map ND.raw) ca) csa,hB b6 [vS pa (xs.map ND.raw) ca,vS pp P2 cp],hB b4 zTwo,hB b2 (cProg p p1 c p2 c1)]))<|zLN hx' hxs ?_;intro I3 le3 hfz;have hD:RL I3 x.cs x.d:=(hxs x (List.mem_of_getElem? (rE hx').2.2)).mono le3;refine qX 1 rfl ?_;intro I4 le4 hl4;have hR:SL I4 (vS pa (xs.map ND.raw) ca) (xs.map ND.raw):=SL.of_frozen hl4 le4 (iM le3 hRw);have hAr:ArW I4 (vS pa (xs.map ND.raw) ca) (xs.map ND.raw) A i x.v:=⟨hR,by rw [hA]; exact RW.of hx' fun j y hj hy=>(hfz j y hj hy).mono le4⟩;have le5:=le3.trans le4;have hD:RL I4 x.cs x.d:=iM le4 hD;have ⟨h,h1,hP,H⟩:=m4 le5 h h1 hP H;have hxr2:=hAr.2.at hy;refine pM [(1,vT name.l),(2,vP b2 0),(4,vP b4 0),(6,vP b6 0),(7,vI i)]<|wP [.p (vA (cProg p p1 c p2 c1)) [3],.p (vT name.l) [],.p (vP b6 0) [],.p (vS pa (xs.map ND.raw) ca) [1],.p (vI i) [],.x (fun I' v hx=>∃ ad,v=.pointer (some ad)/\hx=[]/\At I' ad [vT x.nm.l,x.v]),.x (fun I' v hx=>∃ ad,v=.pointer (some (ad.add 1))/\hx=[]/\At I' ad [vT x.nm.l,x.v]),.q x.v,.q (vI (x.d.length:Int)),.x (fun I' v hx=>∃ pm cm,v=vS pm y cm/\hx=[]/\SL I' (vS pm y cm) y)] [[],[],[],[(2,false)],[],[(3,false),(4,false)],[(5,false)],[(6,false)],[(7,false)],[(0,false),(1,false),(8,false)]] [hO Int x.v x.cs,hB b6 [vS pa (xs.map ND.raw) ca,vS pp P2 cp],hB b4 zTwo,hB b2 (cProg p p1 c p2 c1)] [] [(9,false)] (zY [0,1,2,3]) ?_ ?_
   · refine Op<|Op<|Op<|Op<|Op<|Ox ?_<|Ox ?_<|Oq ?_<|Oq ?_<|Ox ?_<|On
     · intro I1 hf le1;refine yV [36,37] rfl<|xT rfl rfl (hR.mono le1) hxr2 ?_;intro ad ccs hat hrep;obtain ⟨rfl,_⟩:=hrep;exact yL [] iR ⟨_,rfl,rfl,hat⟩
     · rintro I1 hf le1 _ _ ⟨ad,rfl,rfl,hat⟩;exact pT<|zAl [(38,.pointer (some ad))]<|qA 7 [(39,.pointer (some (ad.add 1)))]<|yL [] iR ⟨_,rfl,rfl,hat⟩
     · rintro I1 hf le1 _ _ ⟨ad,rfl,rfl,hat⟩;exact pT<|zAl [(39,.pointer (some (ad.add 1)))]<|xO 1 hat [x.v] x.v rfl<|xB iR
     · rintro I1 hf le1 _ _ ⟨rfl,rfl⟩;exact pT<|zAl [(40,x.v)]<|qA 9 [(41,vI (x.d.length:Int))]<|xB iR
     intro I1 hf le1;refine yV [33,34,41] rfl<|xH (zGw p name (x.d.length:Int) _ hy2 (h.mono le1) (h1.mono le1)) ?_;rintro I02 hs2 v2 k2 le2 - ⟨v0,rfl,rfl,hm0⟩ -;obtain ⟨pm,cm,rfl⟩:=hm0.form;exact yL [] le2 ⟨_,_,rfl,rfl,hm0⟩
   rintro I5 le6 _ _ ⟨pm,cm,rfl,rfl,hm0⟩;refine yV [1,2,4,6,7,42] rfl<|yM [] [8] rfl<|zZ<|yH [9] rfl<|wK<|pL (zY [0,1,2] (hs':=[hO Int x.v x.cs,hB b6 [vS pa (xs.map ND.raw) ca,vS pp P2 cp],hB b4 zTwo]))<|pM [(4,vP b4 0),(6,vP b6 0),(7,vI i),(8,vS pm y cm),(9,vI 0)]<|zCj y 0 x.d z hy3 iR (hAr.mono le6) hy (hP.mono le6) hm0 (iM le6 hD) (fun _ _ _ h=>hg _ _ _ h) (fun _ _ h=>ho _ _ h) fun I6 csd' hlz le7 hAr6 hP6 hD6=>zR<|zZ<|qX 0 rfl ?_;intro I7 le8 hl7;have hev:x.v=vS x.p z x.c:=by simp only [ND.v,vS,hlz]
   have hz:SL I7 x.v z:=SL.of_frozen hl7 le8 hD6;have hS:=(hAr6.mono le8).done hy hz;have hP7:=hP6.mono le8;have eP:vS pa (xs.map ND.raw) ca=vS pa (A.set i.toNat ⟨x.nm,z⟩) ca:=by simp only [vS,List.length_set,List.length_map,hA]
   have hS':SL I7 (vS pa (xs.map ND.raw) ca) (A.set i.toNat ⟨x.nm,z⟩):=by rw [eP]; exact hS
   refine zM<|tZ 1 [0] [(62,vA [vS pa (xs.map ND.raw) ca,vS pp P2 cp])]<|yZ 1 [vS pa (xs.map ND.raw) ca,vS pp P2 cp] rfl<|wU [] [(5,vY)]<|xI<|zV<|zL<|zL<|hr _ _ _ _ (zC N).symm (((H.trans le6).trans le7).trans le8) ⟨_,_,(.cell 1 rfl rfl (by kernel_rfl) (.tmp rfl ResV.nil)),zQ,⟨_,_,rfl,rfl,⟨_,rfl,xY ⟨_,_,rfl,hS',hP7⟩⟩,rfl⟩⟩
 intro hc N;exact wW<|wG (zY [2] (hs':=[hB b4 zTwo]))<|yW<|hx _ (zC N).symm H
def jK (p:zF) (name:Str):Option (zF×Bool):=do
 let y<-kD p
 let y1<-tV y
 if (!y1) then
  pure ((zF.mk ([]:List zD) ([]:List zI)),false)
 else
  let y2<-rK y
  match<-rX y name y2.Arrays y2.Parts 0 with
  | .ret r0=>pure r0
  | .done _ =>
   pure ((zF.mk ([]:List zD) ([]:List zI)),false)
theorem zED:∀ p name r,jK p name=some r->∀ {I:Imm}{p1 c p2 c1},(S4 I p1 p.Arrays c)->(S4 I p2 p.Parts c1)->RT 9 [vA (cProg p p1 c p2 c1),vT name.l] I [] (eK  r):=by
 intro p name r N I p1 c p2 c1 h h1;unfold jK at N;refine yJ Tryz.func9 fun B=>yC<|vK (cProg p p1 c p2 c1) ?_;intro b hb;refine xU zTwo ?_;intro b1 hb1;refine wU [] []<|yX<|tZ 1 [1] [(10,vA (cProg p p1 c p2 c1))]<|bE N fun y hy N=>xH (zDC p _ hy h h1) ?_;rintro I0 hs2 v2 k2 le - ⟨v0,rfl,rfl,⟨cs,rfl,h2⟩⟩ -;have h:=h.mono le;obtain ⟨p3,c2,p4,c3,rfl,h3,h4⟩:=tW h2;refine yZ 1 (cProg y p3 c2 p4 c3) rfl<|zX rfl<|zZ<|yC<|tZ 1 [1] [(12,vA (cProg y p3 c2 p4 c3))]<|bE N fun y1 hy1 N=>uZ (dB y _ hy1 h3 h4) ?_;intro I01 le1;have ⟨h3,h4⟩:=m2 le1 h3 h4;refine yM [] [14] rfl<|zK<|yG N ?_ ?_
 · intro hc N;refine yC<|yE 1 [] [15] rfl<|eQ 0 zTwo [hB b1 zTwo,hB b (cProg y p3 c2 p4 c3)] rfl rfl rfl rfl<|wU [] [(5,vF)]<|xI<|zL ?_;obtain rfl:=zC N;exact xC ⟨_,_,(.cell 0 rfl rfl (by kernel_rfl) (.tmp rfl ResV.nil)),zQ,⟨_,_,rfl,rfl,⟨_,rfl,(xY ⟨_,_,rfl,(SL.nil _),(SL.nil _)⟩)⟩,rfl⟩⟩
 intro hc N;refine zS<|zZ<|bE N fun y2 hy2 N=>zM<|tZ 1 [1] [(16,vA (cProg y p3 c2 p4 c3))]<|xH (zGa y _ hy2 h3 h4) ?_;rintro I02 hs2 v2 k2 le2 - ⟨xs,pa,ca,csa,pp,cp,rfl,rfl,hA,hok,hRw,hP⟩ -;have ⟨h3,h4⟩:=m2 le2 h3 h4;refine zM5 ([hO Raw2 (vS pa (xs.map ND.raw) ca) csa,hB b1 zTwo,hB b (cProg y p3 c2 p4 c3)]++NDs xs) (List.Perm.cons _ List.perm_append_comm)<|xU zTwo ?_;intro b2 hb2;refine eQ 0 [vS pa (xs.map ND.raw) ca,vS pp y2.Parts cp] (hB b2 [vS pa (xs.map ND.raw) ca,vS pp y2.Parts cp]::hO Raw2 (vS pa (xs.map ND.raw) ca) csa::hB b1 zTwo::hB b (cProg y p3 c2 p4 c3)::NDs xs) rfl rfl rfl rfl<|zX rfl<|zZ<|yH [7] rfl<|wK<|zDM (hO Raw2 (vS pa (xs.map ND.raw) ca) csa::hB b2 [vS pa (xs.map ND.raw) ca,vS pp y2.Parts cp]::hB b1 zTwo::hB b (cProg y p3 c2 p4 c3)::NDs xs) (List.Perm.swap _ _ _)<|pM [(1,vT name.l),(2,vP b 0),(4,vP b1 0),(6,vP b2 0),(7,vI 0)] ?_;obtain ⟨o0,ho0,hMl⟩:=zB N;refine zCk y name y2.Arrays y2.Parts 0 o0 ho0 iR hA hok hRw h3 h4 hP (fun _ _ _ h=>h) (fun _ _ h=>h) ?_ ?_
 · intro I03 heq le3;subst heq;refine zR<|yX<|yE 1 [] [63] rfl<|eQ 0 zTwo [hB b1 zTwo] rfl rfl rfl rfl<|wU [] [(5,vF)]<|zK<|xD ?_;obtain rfl:=zC hMl;exact xC ⟨_,_,(.cell 0 rfl rfl (by kernel_rfl) (.tmp rfl ResV.nil)),zQ,⟨_,_,rfl,rfl,⟨_,rfl,(xY ⟨_,_,rfl,(SL.nil _),(SL.nil _)⟩)⟩,rfl⟩⟩
 intro r0 I9 hs9 m9 heq9 le9 hrs9;subst heq9;refine zV<|zL ?_;obtain rfl:=zC hMl;exact xC hrs9
def uY (s1:(List Int)) (s2:(List Int)) (t13:Int):Option (Out Unit (Bool)):=do
 if (decide (t13<(s1.length:Int))) then
  let x<-idx s1 t13
  let x1<-idx s2 t13
  if (x != x1) then
   pure (.ret false)
  else
   uY s1 s2 (W (t13+1))
 else
  pure (.done ())
 partial_fixpoint
theorem zBP (s1:(List Int)) (s2:(List Int)):∀ (t13:Int) (o:Out Unit (Bool)),uY s1 s2 t13=some o->∀ {B}{I0 I:Imm}{Q p c p1 c1},I0.le I->(S4 I p s1 c)->(S4 I p1 s2 c1)->NG Q->NO Q->(∀ (I':Imm) ,o=(.done ())->I0.le I'->T 26 B Q (.exit 0) I' [] [])->(∀ r I' hs' m',o=(.ret r)->I0.le I'->RS Tryz.prog Tryz.f37 B (zT  r) I' hs' m'->T 26 B Q .ret I' hs' m')->J Tryz.prog 26 B (nav (bodyOf Tryz.f37) [1,1,0,1,0]) Q I [] [(0,vS p s1 c),(1,vS p1 s2 c1),(12,vI (s1.length:Int)),(13,vI t13)]:=by
 refine uY.partial_correctness s1 s2 _ fun self ih t13 o N B I0 I Q p c p1 c1 H h h1 hg ho hx hr=>yU hg ho<|yH [14] rfl<|zZ<|yG N ?_ ?_
 · intro hc1 N;refine zS<|zZ<|yF<|yH [5] rfl<|zZ<|zA1 (by kernel_rfl) (by kernel_rfl)<|zBv 2 [] [16,17] rfl<|bE N fun x hy N=>zFE rfl rfl h hy ?_;intro ad ccs hat hrep;obtain rfl:=hrep;refine zFD 0 hat [vI x] (vI x) rfl<|zBv 6 [] [20,21] rfl<|bE N fun x1 hy1 N=>zFE rfl rfl h1 hy1 ?_;intro ad1 ccs1 hat1 hrep1;obtain rfl:=hrep1;refine zFD 0 hat1 [vI x1] (vI x1) rfl<|zKi [] [24] rfl<|zK<|yG N ?_ ?_
   · intro hc2 N;exact vM [(4,vF)]<|xI<|zV<|zL<|zL<|hr _ _ _ _ (zC N).symm H ⟨_,_,(.tmp rfl ResV.nil),zQ,⟨_,rfl,rfl,rfl⟩⟩
   intro hc2 N;exact zS<|zO<|zK<|zM<|yM [] [13] rfl<|yT<|nT<|ih (W (t13+1)) _ N H h h1 hg ho hx hr
 intro hc1 N;exact wW<|yW<|hx _  (zC N).symm H
def qW (s1:(List Int)) (s2:(List Int)):Option (Bool):=do
 if ((s1.length:Int) != (s2.length:Int)) then
  pure false
 else
  match<-uY s1 s2 0 with
  | .ret r0=>pure r0
  | .done _ =>
   pure true
theorem zAQ:∀ s1 s2 r,qW s1 s2=some r->∀ {I:Imm}{p c p1 c1},(S4 I p s1 c)->(S4 I p1 s2 c1)->RT 37 [vS p s1 c,vS p1 s2 c1] I [] (zT  r):=by
 intro s1 s2 r N I p c p1 c1 h h1;unfold qW at N;refine yJ Tryz.func37 fun B=>vM []<|zZ<|yH [10] rfl<|zK<|yG N ?_ ?_
 · intro hc N;refine vM [(4,vF)]<|xI<|zL ?_;obtain rfl:=zC N;exact uE
 intro hc N;refine zS<|zZ<|yH [12,13] rfl<|wK<|pM [(0,vS p s1 c),(1,vS p1 s2 c1),(12,vI (s1.length:Int)),(13,vI 0)] ?_;obtain ⟨o0,ho0,hMl⟩:=zB N;refine zBP s1 s2 0 o0 ho0 iR h h1 (fun _ _ _ h=>h) (fun _ _ h=>h) ?_ ?_
 · intro I0  heq le;subst o0;refine zR<|zFy [(4,vY)]<|zK<|xD ?_;obtain rfl:=zC hMl;exact uE
 intro r0 I9 hs9 m9 heq9 le9 hrs9;subst heq9;refine zV<|zL ?_;obtain rfl:=zC hMl;exact xC hrs9
def sY (x:zD) (y:zD):Option (Bool):=do
 let t4<-(do
   if (x.Name.l==y.Name.l) then
    let y1<-qW x.Dims y.Dims
    pure (id y1)
   else
    pure false
     : Option Bool)
 pure (id t4)
theorem zDD:∀ x y r,sY x y=some r->∀ {I:Imm}{p c p1 c1},(S4 I p x.Dims c)->(S4 I p1 y.Dims c1)->RT 36 [vA (cArr x p c),vA (cArr y p1 c1)] I [] (zT  r):=by
 intro x y r N I p c p1 c1 h h1;unfold sY at N;refine yJ Tryz.func36 fun B=>?_;have H:=iS I;refine yC<|vK (cArr x p c) ?_;intro b hb;refine vK (cArr y p1 c1) ?_;intro b1 hb1;refine wU [] []<|zK<|yD ?_;refine uB N [] (fun t4=>[(4,.bool t4)]) (fun o0 ho0=>?_) ?_
 · have H:=iS I;refine zM<|yE 6 [1,0] [10] rfl<|wO [10] ho0 ?_ ?_
   · intro hc N;refine yE 10 [1,0] [12,14] rfl<|bE N fun y1 hy N=>uZ (zAQ x.Dims y.Dims _ hy h h1) ?_;intro I01 le;have H:=H.trans le;exact yM [] [4] rfl<|wG zQ<|yW<|zU (ct N H)
   intro hc N;exact wU [] [(4,vF)]<|wG zQ<|yW<|zU (ct N H)
 intro t4 I0 le1 hMc;refine zK<|xD ?_;obtain rfl:=zC hMc;exact uE
def tL (hsF:List HA) (r:Bool):KT:=fun kk I' hs' v=>
  ∃ v0,hsF=hs'/\v=tupV [v0]/\v0=.bool r
def yQ (s1:(List zE)) (s2:(List zE)) (eq:(zE->zE->Option Bool)) (t17:Int):Option (Out Unit (Bool)):=do
 if (decide (t17<(s1.length:Int))) then
  let x<-idx s1 t17
  let x1<-idx s2 t17
  let y<-eq x x1
  if (!y) then
   pure (.ret false)
  else
   yQ s1 s2 eq (W (t17+1))
 else
  pure (.done ())
 partial_fixpoint
theorem nE (s1:(List zE)) (s2:(List zE)) (eq:(zE->zE->Option Bool)):∀ (t17:Int) (o:Out Unit (Bool)),yQ s1 s2 eq t17=some o->∀ {B}{I0 I:Imm}{Q p c p1 c1}{fv:Value}{hsF:List HA},I0.le I->(S4 I p1 s2 c1)->(FV2 Tryz.prog I hsF fv eq)->(S4 I p s1 c)->NG Q->NO Q->(∀ (I':Imm) ,o=(.done ())->I0.le I'->T 32 B Q (.exit 0) I' hsF [])->(∀ r I' hs' m',o=(.ret r)->I0.le I'->RS Tryz.prog Tryz.f75 B (tL hsF r) I' hs' m'->T 32 B Q .ret I' hs' m')->J Tryz.prog 32 B (nav (bodyOf Tryz.f75) [1,1,0,1,0]) Q I hsF [(1,vS p1 s2 c1),(2,fv),(15,vS p s1 c),(16,vI (s1.length:Int)),(17,vI t17)]:=by
 refine yQ.partial_correctness s1 s2 eq _ fun self ih t17 o N B I0 I Q p c p1 c1 fv hsF H h1 h2 h hg ho hx hr=>yU hg ho<|yH [18] rfl<|zZ<|yG N ?_ ?_
 · intro hc1 N;refine zS<|zZ<|yF<|yC<|yE 1 [] [19] rfl<|bE N fun x hy N=>xT rfl rfl h hy ?_;intro ad ccs hat hrep;obtain ⟨p2,c2,p3,c3,rfl,h3,h4⟩:=wZ hrep;refine xO 0 hat (cLoop x p2 c2 p3 c3) (vA (cLoop x p2 c2 p3 c3)) rfl<|xU zTwo ?_;intro b hb;refine yE 5 [] [7] rfl<|eQ 0 (cLoop x p2 c2 p3 c3) (hB b (cLoop x p2 c2 p3 c3)::hsF) rfl rfl rfl rfl<|zX rfl<|yX<|yE 2 [] [22,23] rfl<|bE N fun x1 hy1 N=>xT rfl rfl h1 hy1 ?_;intro ad1 ccs1 hat1 hrep1;obtain ⟨p4,c4,p5,c5,rfl,h5,h6⟩:=wZ hrep1;refine xO 0 hat1 (cLoop x1 p4 c4 p5 c5) (vA (cLoop x1 p4 c4 p5 c5)) rfl<|xU zTwo ?_;intro b1 hb1;refine eQ 0 (cLoop x1 p4 c4 p5 c5) (hB b1 (cLoop x1 p4 c4 p5 c5)::hB b (cLoop x p2 c2 p3 c3)::hsF) rfl rfl rfl rfl<|zX rfl<|yX<|tZ 3 [1,0] [(26,fv),(27,vA (cLoop x p2 c2 p3 c3)),(28,vA (cLoop x1 p4 c4 p5 c5))]<|bE N fun y hy2 N=>sW (hs':=hsF++[hB b1 (cLoop x1 p4 c4 p5 c5),hB b (cLoop x p2 c2 p3 c3)]) (eE [hB b1 (cLoop x1 p4 c4 p5 c5),hB b (cLoop x p2 c2 p3 c3)] hsF)<|zJh rfl rfl rfl h2 hy2 ⟨_,rfl,(uP ⟨_,_,rfl,h3,h4⟩)⟩ ⟨_,rfl,(uP ⟨_,_,rfl,h5,h6⟩)⟩ rfl ?_;rintro I0 v04 le rfl;refine sW (hs':=(hB b1 (cLoop x1 p4 c4 p5 c5)::hB b (cLoop x p2 c2 p3 c3)::hsF)) (eE hsF [hB b1 (cLoop x1 p4 c4 p5 c5),hB b (cLoop x p2 c2 p3 c3)]) ?_;have ⟨h1,h2,h,H⟩:=m4 le h1 h2 h H;refine yM [] [30] rfl<|zK<|yG N ?_ ?_
   · intro hc2 N;exact vM [(6,vF)]<|xI<|zV<|zL<|zL<|hr _ _ _ _ (zC N).symm H ⟨_,_,(.tmp rfl ResV.nil),(kM [hB b1 (cLoop x1 p4 c4 p5 c5),hB b (cLoop x p2 c2 p3 c3)] hsF [] rfl (by decide)),⟨_,rfl,rfl,rfl⟩⟩
   intro hc2 N;exact zS<|zO<|zK<|zM<|yM [] [17] rfl<|yT<|pL (kM [hB b1 (cLoop x1 p4 c4 p5 c5),hB b (cLoop x p2 c2 p3 c3)] hsF [] rfl (by decide))<|nT<|ih (W (t17+1)) _ N H h1 h2 h hg ho hx hr
 intro hc1 N;exact wW<|yW<|hx _  (zC N).symm H
def wE (s1:(List zE)) (s2:(List zE)) (eq:(zE->zE->Option Bool)):Option (Bool):=do
 if ((s1.length:Int) != (s2.length:Int)) then
  pure false
 else
  match<-yQ s1 s2 eq 0 with
  | .ret r0=>pure r0
  | .done _ =>
   pure true
theorem nY:∀ s1 s2 eq r,wE s1 s2 eq=some r->∀ {I:Imm}{p c p1 c1}{fv:Value}{hsF:List HA},(S4 I p s1 c)->(S4 I p1 s2 c1)->(FV2 Tryz.prog I hsF fv eq)->RT 75 [vS p s1 c,vS p1 s2 c1,fv] I hsF (tL hsF r):=by
 intro s1 s2 eq r N I p c p1 c1 fv hsF h h1 h2;unfold wE at N;refine yJ Tryz.func75 fun B=>vM []<|zZ<|yH [14] rfl<|zK<|yG N ?_ ?_
 · intro hc N;refine vM [(6,vF)]<|xI<|zL ?_;obtain rfl:=zC N;exact xC ⟨_,_,(.tmp rfl ResV.nil),(fun _ h=>h),⟨_,rfl,rfl,rfl⟩⟩
 intro hc N;refine zS<|zZ<|yH [15,16,17] rfl<|wK<|pM [(1,vS p1 s2 c1),(2,fv),(15,vS p s1 c),(16,vI (s1.length:Int)),(17,vI 0)] ?_;obtain ⟨o0,ho0,hMl⟩:=zB N;refine nE s1 s2 eq 0 o0 ho0 iR h1 h2 h (fun _ _ _ h=>h) (fun _ _ h=>h) ?_ ?_
 · intro I01  heq le1;subst o0;refine zR<|zFy [(6,vY)]<|zK<|xD ?_;obtain rfl:=zC hMl;exact xC ⟨_,_,(.tmp rfl ResV.nil),(fun _ h=>h),⟨_,rfl,rfl,rfl⟩⟩
 intro r0 I9 hs9 m9 heq9 le9 hrs9;subst heq9;refine zV<|zL ?_;obtain rfl:=zC hMl;exact xC hrs9
def uF (hsF:List HA) (r:Bool):KT:=fun kk I' hs' v=>
  ∃ v0,hsF=hs'/\v=tupV [v0]/\v0=.bool r
def yK (s1:(List zA)) (s2:(List zA)) (eq:(zA->zA->Option Bool)) (t17:Int):Option (Out Unit (Bool)):=do
 if (decide (t17<(s1.length:Int))) then
  let x<-idx s1 t17
  let x1<-idx s2 t17
  let y<-eq x x1
  if (!y) then
   pure (.ret false)
  else
   yK s1 s2 eq (W (t17+1))
 else
  pure (.done ())
 partial_fixpoint
theorem pG (s1:(List zA)) (s2:(List zA)) (eq:(zA->zA->Option Bool)):∀ (t17:Int) (o:Out Unit (Bool)),yK s1 s2 eq t17=some o->∀ {B}{I0 I:Imm}{Q p c p1 c1}{fv:Value}{hsF:List HA},I0.le I->(S4 I p1 s2 c1)->(FV2 Tryz.prog I hsF fv eq)->(S4 I p s1 c)->NG Q->NO Q->(∀ (I':Imm) ,o=(.done ())->I0.le I'->T 32 B Q (.exit 0) I' hsF [])->(∀ r I' hs' m',o=(.ret r)->I0.le I'->RS Tryz.prog Tryz.f77 B (uF hsF r) I' hs' m'->T 32 B Q .ret I' hs' m')->J Tryz.prog 32 B (nav (bodyOf Tryz.f77) [1,1,0,1,0]) Q I hsF [(1,vS p1 s2 c1),(2,fv),(15,vS p s1 c),(16,vI (s1.length:Int)),(17,vI t17)]:=by
 refine yK.partial_correctness s1 s2 eq _ fun self ih t17 o N B I0 I Q p c p1 c1 fv hsF H h1 h2 h hg ho hx hr=>yU hg ho<|yH [18] rfl<|zZ<|yG N ?_ ?_
 · intro hc1 N;refine zS<|zZ<|yF<|yC<|yE 1 [] [19] rfl<|bE N fun x hy N=>xT rfl rfl h hy ?_;intro ad ccs hat hrep;obtain ⟨p2,c2,rfl,h3⟩:=yB hrep;refine xO 0 hat (cAff x p2 c2) (vA (cAff x p2 c2)) rfl<|xU [z0,vI 0] ?_;intro b hb;refine yE 5 [] [7] rfl<|eQ 0 (cAff x p2 c2) (hB b (cAff x p2 c2)::hsF) rfl rfl rfl rfl<|zX rfl<|yX<|yE 2 [] [22,23] rfl<|bE N fun x1 hy1 N=>xT rfl rfl h1 hy1 ?_;intro ad1 ccs1 hat1 hrep1;obtain ⟨p3,c3,rfl,h4⟩:=yB hrep1;refine xO 0 hat1 (cAff x1 p3 c3) (vA (cAff x1 p3 c3)) rfl<|xU [z0,vI 0] ?_;intro b1 hb1;refine eQ 0 (cAff x1 p3 c3) (hB b1 (cAff x1 p3 c3)::hB b (cAff x p2 c2)::hsF) rfl rfl rfl rfl<|zX rfl<|yX<|tZ 3 [1,0] [(26,fv),(27,vA (cAff x p2 c2)),(28,vA (cAff x1 p3 c3))]<|bE N fun y hy2 N=>sW (hs':=hsF++[hB b1 (cAff x1 p3 c3),hB b (cAff x p2 c2)]) (eE [hB b1 (cAff x1 p3 c3),hB b (cAff x p2 c2)] hsF)<|zJh rfl rfl rfl h2 hy2 ⟨_,rfl,(yI ⟨_,rfl,h3⟩)⟩ ⟨_,rfl,(yI ⟨_,rfl,h4⟩)⟩ rfl ?_;rintro I0 v02 le rfl;refine sW (hs':=(hB b1 (cAff x1 p3 c3)::hB b (cAff x p2 c2)::hsF)) (eE hsF [hB b1 (cAff x1 p3 c3),hB b (cAff x p2 c2)]) ?_;have ⟨h1,h2,h,H⟩:=m4 le h1 h2 h H;refine yM [] [30] rfl<|zK<|yG N ?_ ?_
   · intro hc2 N;exact vM [(6,vF)]<|xI<|zV<|zL<|zL<|hr _ _ _ _ (zC N).symm H ⟨_,_,(.tmp rfl ResV.nil),(kM [hB b1 (cAff x1 p3 c3),hB b (cAff x p2 c2)] hsF [] rfl (by decide)),⟨_,rfl,rfl,rfl⟩⟩
   intro hc2 N;exact zS<|zO<|zK<|zM<|yM [] [17] rfl<|yT<|pL (kM [hB b1 (cAff x1 p3 c3),hB b (cAff x p2 c2)] hsF [] rfl (by decide))<|nT<|ih (W (t17+1)) _ N H h1 h2 h hg ho hx hr
 intro hc1 N;exact wW<|yW<|hx _  (zC N).symm H
def yN (s1:(List zA)) (s2:(List zA)) (eq:(zA->zA->Option Bool)):Option (Bool):=do
 if ((s1.length:Int) != (s2.length:Int)) then
  pure false
 else
  match<-yK s1 s2 eq 0 with
  | .ret r0=>pure r0
  | .done _ =>
   pure true
theorem wL:∀ s1 s2 eq r,yN s1 s2 eq=some r->∀ {I:Imm}{p c p1 c1}{fv:Value}{hsF:List HA},(S4 I p s1 c)->(S4 I p1 s2 c1)->(FV2 Tryz.prog I hsF fv eq)->RT 77 [vS p s1 c,vS p1 s2 c1,fv] I hsF (uF hsF r):=by
 intro s1 s2 eq r N I p c p1 c1 fv hsF h h1 h2;unfold yN at N;refine yJ Tryz.func77 fun B=>vM []<|zZ<|yH [14] rfl<|zK<|yG N ?_ ?_
 · intro hc N;refine vM [(6,vF)]<|xI<|zL ?_;obtain rfl:=zC N;exact xC ⟨_,_,(.tmp rfl ResV.nil),(fun _ h=>h),⟨_,rfl,rfl,rfl⟩⟩
 intro hc N;refine zS<|zZ<|yH [15,16,17] rfl<|wK<|pM [(1,vS p1 s2 c1),(2,fv),(15,vS p s1 c),(16,vI (s1.length:Int)),(17,vI 0)] ?_;obtain ⟨o0,ho0,hMl⟩:=zB N;refine pG s1 s2 eq 0 o0 ho0 iR h1 h2 h (fun _ _ _ h=>h) (fun _ _ h=>h) ?_ ?_
 · intro I01  heq le1;subst o0;refine zR<|zFy [(6,vY)]<|zK<|xD ?_;obtain rfl:=zC hMl;exact xC ⟨_,_,(.tmp rfl ResV.nil),(fun _ h=>h),⟨_,rfl,rfl,rfl⟩⟩
 intro r0 I9 hs9 m9 heq9 le9 hrs9;subst heq9;refine zV<|zL ?_;obtain rfl:=zC hMl;exact xC hrs9
def wI (a0:zA) (b:zA):Option (Bool):=do
 let t4<-(do
   let y<-qW a0.Coefs b.Coefs
   if y then
    pure (a0.Const==b.Const)
   else
    pure false
     : Option Bool)
 pure (id t4)
theorem fX:∀ a0 b r,wI a0 b=some r->∀ {I:Imm}{p c p1 c1},(S4 I p a0.Coefs c)->(S4 I p1 b.Coefs c1)->RT 78 [vA (cAff a0 p c),vA (cAff b p1 c1)] I [] (zT  r):=by
 intro a0 b r N I p c p1 c1 h h1;unfold wI at N;refine yJ Tryz.func78 fun B=>?_;have H:=iS I;refine yC<|vK (cAff a0 p c) ?_;intro b1 hb;refine vK (cAff b p1 c1) ?_;intro b2 hb1;refine wU [] []<|zK<|yD ?_;refine uB N [] (fun t4=>[(4,.bool t4)]) (fun o0 ho0=>?_) ?_
 · have H:=iS I;refine zM<|yE 4 [1,0] [6,8] rfl ?_;obtain ⟨y,hy,N⟩:=zB ho0;refine uZ (zAQ a0.Coefs b.Coefs _ hy h h1) ?_;intro I01 le;have H:=H.trans le;refine yE 6 [] [10] rfl<|wO [10] N ?_ ?_
   · intro hc N;exact yM [1,0] [4] rfl<|wG zQ<|yW<|zU (ct N H)
   intro hc N;exact wU [] [(4,vF)]<|wG zQ<|yW<|zU (ct N H)
 intro t4 I0 le1 hMc;refine zK<|xD ?_;obtain rfl:=zC hMc;exact uE
def pK (x:zE) (y:zE):Option (Bool):=do
 let t4<-(do
   let y1<-yN x.Lo y.Lo wI
   if y1 then
    let y2<-yN x.Hi y.Hi wI
    pure (id y2)
   else
    pure false
     : Option Bool)
 pure (id t4)
theorem zEn:∀ x y r,pK x y=some r->∀ {I:Imm}{p c p1 c1 p2 c2 p3 c3},(S4 I p x.Lo c)->(S4 I p1 x.Hi c1)->(S4 I p2 y.Lo c2)->(S4 I p3 y.Hi c3)->RT 76 [vA (cLoop x p c p1 c1),vA (cLoop y p2 c2 p3 c3)] I [] (zT  r):=by
 intro x y r N I p c p1 c1 p2 c2 p3 c3 h h1 h2 h3;unfold pK at N;refine yJ Tryz.func76 fun B=>?_;have H:=iS I;refine yC<|vK (cLoop x p c p1 c1) ?_;intro b hb;refine vK (cLoop y p2 c2 p3 c3) ?_;intro b1 hb1;refine wU [] []<|zK<|yD ?_;refine uB N [] (fun t4=>[(4,.bool t4)]) (fun o0 ho0=>?_) ?_
 · have H:=iS I;refine zM<|yE 4 [1,0] [6,8] rfl ?_;have hf0:FV2 Tryz.prog I [] (.func (.func 78) ⟨[]⟩ ⟨[]⟩) wI:=by
     refine FV2.intro ?_;intro I1 le1 x0 x1 r u0 u1 hF k0 k1;obtain ⟨_,rfl,k0⟩:=k0;obtain ⟨p4,c4,rfl,h4⟩:=yB k0;obtain ⟨_,rfl,k1⟩:=k1;obtain ⟨p5,c5,rfl,h5⟩:=yB k1;exact (fX x0 x1 r hF h4 h5).mono (by rintro k i hs u ⟨v0,rfl,rfl,h⟩; exact ⟨rfl,h⟩)
   obtain ⟨y1,hy,N⟩:=zB ho0;refine xH (wL x.Lo y.Lo wI _ hy h h2 hf0) ?_;rintro I01 hs2 v2 k2 le - ⟨v02,rfl,rfl,rfl⟩ -;have ⟨h3,h,h1,H⟩:=m4 le h3 h h1 H;refine yE 6 [] [10] rfl<|wO [10] N ?_ ?_
   · intro hc N;refine yE 10 [1,0] [12,14] rfl ?_;have hf01:FV2 Tryz.prog I01 [] (.func (.func 78) ⟨[]⟩ ⟨[]⟩) wI:=by
       refine FV2.intro ?_;intro I1 le1 x0 x1 r u0 u1 hF k0 k1;obtain ⟨_,rfl,k0⟩:=k0;obtain ⟨p6,c6,rfl,h7⟩:=yB k0;obtain ⟨_,rfl,k1⟩:=k1;obtain ⟨p7,c7,rfl,h8⟩:=yB k1;exact (fX x0 x1 r hF h7 h8).mono (by rintro k i hs u ⟨v0,rfl,rfl,h⟩; exact ⟨rfl,h⟩)
     obtain ⟨y2,hy1,N⟩:=zB N;refine xH (wL x.Hi y.Hi wI _ hy1 h1 h3 hf01) ?_;rintro I02 hs2 v2 k2 le1 - ⟨v05,rfl,rfl,rfl⟩ -;have H:=H.trans le1;exact yM [] [4] rfl<|wG zQ<|yW<|zU (ct N H)
   intro hc N;exact wU [] [(4,vF)]<|wG zQ<|yW<|zU (ct N H)
 intro t4 I0 le2 hMc;refine zK<|xD ?_;obtain rfl:=zC hMc;exact uE
def eC (a0:(List zE)) (b:(List zE)):Option (Bool):=do
 let y<-wE a0 b pK
 pure (id y)
theorem zGU:∀ a0 b r,eC a0 b=some r->∀ {I:Imm}{p c p1 c1},(S4 I p a0 c)->(S4 I p1 b c1)->RT 39 [vS p a0 c,vS p1 b c1] I [] (zT  r):=by
 intro a0 b r N I p c p1 c1 h h1;unfold eC at N;refine yJ Tryz.func39 fun B=>vM []<|yX<|yE 2 [] [5,6] rfl ?_;have hf0:FV2 Tryz.prog I [] (.func (.func 76) ⟨[]⟩ ⟨[]⟩) pK:=by
   refine FV2.intro ?_;intro I1 le1 x0 x1 r u0 u1 hF k0 k1;obtain ⟨_,rfl,k0⟩:=k0;obtain ⟨p2,c2,p3,c3,rfl,h2,h3⟩:=wZ k0;obtain ⟨_,rfl,k1⟩:=k1;obtain ⟨p4,c4,p5,c5,rfl,h4,h5⟩:=wZ k1;exact (zEn x0 x1 r hF h2 h3 h4 h5).mono (by rintro k i hs u ⟨v0,rfl,rfl,h⟩; exact ⟨rfl,h⟩)
 obtain ⟨y,hy,N⟩:=zB N;refine xH (nY a0 b pK _ hy h h1 hf0) ?_;rintro I0 hs2 v2 k2 le - ⟨v04,rfl,rfl,rfl⟩ -;refine yM [] [4] rfl<|zK<|xD ?_;obtain rfl:=zC N;exact uE
def tM (hsF:List HA) (r:Bool):KT:=fun kk I' hs' v=>
  ∃ v0,hsF=hs'/\v=tupV [v0]/\v0=.bool r
def yR (s1:(List zJ)) (s2:(List zJ)) (eq:(zJ->zJ->Option Bool)) (t17:Int):Option (Out Unit (Bool)):=do
 if (decide (t17<(s1.length:Int))) then
  let x<-idx s1 t17
  let x1<-idx s2 t17
  let y<-eq x x1
  if (!y) then
   pure (.ret false)
  else
   yR s1 s2 eq (W (t17+1))
 else
  pure (.done ())
 partial_fixpoint
theorem nF (s1:(List zJ)) (s2:(List zJ)) (eq:(zJ->zJ->Option Bool)):∀ (t17:Int) (o:Out Unit (Bool)),yR s1 s2 eq t17=some o->∀ {B}{I0 I:Imm}{Q p c p1 c1}{fv:Value}{hsF:List HA},I0.le I->(S4 I p1 s2 c1)->(FV2 Tryz.prog I hsF fv eq)->(S4 I p s1 c)->NG Q->NO Q->(∀ (I':Imm) ,o=(.done ())->I0.le I'->T 32 B Q (.exit 0) I' hsF [])->(∀ r I' hs' m',o=(.ret r)->I0.le I'->RS Tryz.prog Tryz.f40 B (tM hsF r) I' hs' m'->T 32 B Q .ret I' hs' m')->J Tryz.prog 32 B (nav (bodyOf Tryz.f40) [1,1,0,1,0]) Q I hsF [(1,vS p1 s2 c1),(2,fv),(15,vS p s1 c),(16,vI (s1.length:Int)),(17,vI t17)]:=by
 refine yR.partial_correctness s1 s2 eq _ fun self ih t17 o N B I0 I Q p c p1 c1 fv hsF H h1 h2 h hg ho hx hr=>yU hg ho<|yH [18] rfl<|zZ<|yG N ?_ ?_
 · intro hc1 N;refine zS<|zZ<|yF<|yC<|yE 1 [] [19] rfl<|bE N fun x hy N=>xT rfl rfl h hy ?_;intro ad ccs hat hrep;obtain ⟨p2,c2,p3,c3,p4,c4,p5,c5,rfl,h3,h4,h5,h6⟩:=vC hrep;refine xO 0 hat (cStmt x p2 c2 p3 c3 p4 c4 p5 c5) (vA (cStmt x p2 c2 p3 c3 p4 c4 p5 c5)) rfl<|xU [vT ([]),z0,vI 0,vI 0,z0,vI 0,vT ([]),z0,z0] ?_;intro b hb;refine yE 5 [] [7] rfl<|eQ 0 (cStmt x p2 c2 p3 c3 p4 c4 p5 c5) (hB b (cStmt x p2 c2 p3 c3 p4 c4 p5 c5)::hsF) rfl rfl rfl rfl<|zX rfl<|yX<|yE 2 [] [22,23] rfl<|bE N fun x1 hy1 N=>xT rfl rfl h1 hy1 ?_;intro ad1 ccs1 hat1 hrep1;obtain ⟨p6,c6,p7,c7,p8,c8,p9,c9,rfl,h7,h8,h9,h10⟩:=vC hrep1;refine xO 0 hat1 (cStmt x1 p6 c6 p7 c7 p8 c8 p9 c9) (vA (cStmt x1 p6 c6 p7 c7 p8 c8 p9 c9)) rfl<|xU [vT ([]),z0,vI 0,vI 0,z0,vI 0,vT ([]),z0,z0] ?_;intro b1 hb1;refine eQ 0 (cStmt x1 p6 c6 p7 c7 p8 c8 p9 c9) (hB b1 (cStmt x1 p6 c6 p7 c7 p8 c8 p9 c9)::hB b (cStmt x p2 c2 p3 c3 p4 c4 p5 c5)::hsF) rfl rfl rfl rfl<|zX rfl<|yX<|tZ 3 [1,0] [(26,fv),(27,vA (cStmt x p2 c2 p3 c3 p4 c4 p5 c5)),(28,vA (cStmt x1 p6 c6 p7 c7 p8 c8 p9 c9))]<|bE N fun y hy2 N=>sW (hs':=hsF++[hB b1 (cStmt x1 p6 c6 p7 c7 p8 c8 p9 c9),hB b (cStmt x p2 c2 p3 c3 p4 c4 p5 c5)]) (eE [hB b1 (cStmt x1 p6 c6 p7 c7 p8 c8 p9 c9),hB b (cStmt x p2 c2 p3 c3 p4 c4 p5 c5)] hsF)<|zJh rfl rfl rfl h2 hy2 ⟨_,rfl,(wC ⟨_,_,_,_,rfl,h3,h4,h5,h6⟩)⟩ ⟨_,rfl,(wC ⟨_,_,_,_,rfl,h7,h8,h9,h10⟩)⟩ rfl ?_;rintro I0 v08 le rfl;refine sW (hs':=(hB b1 (cStmt x1 p6 c6 p7 c7 p8 c8 p9 c9)::hB b (cStmt x p2 c2 p3 c3 p4 c4 p5 c5)::hsF)) (eE hsF [hB b1 (cStmt x1 p6 c6 p7 c7 p8 c8 p9 c9),hB b (cStmt x p2 c2 p3 c3 p4 c4 p5 c5)]) ?_;have ⟨h1,h2,h,H⟩:=m4 le h1 h2 h H;refine yM [] [30] rfl<|zK<|yG N ?_ ?_
   · intro hc2 N;exact vM [(6,vF)]<|xI<|zV<|zL<|zL<|hr _ _ _ _ (zC N).symm H ⟨_,_,(.tmp rfl ResV.nil),(kM [hB b1 (cStmt x1 p6 c6 p7 c7 p8 c8 p9 c9),hB b (cStmt x p2 c2 p3 c3 p4 c4 p5 c5)] hsF [] rfl (by decide)),⟨_,rfl,rfl,rfl⟩⟩
   intro hc2 N;exact zS<|zO<|zK<|zM<|yM [] [17] rfl<|yT<|pL (kM [hB b1 (cStmt x1 p6 c6 p7 c7 p8 c8 p9 c9),hB b (cStmt x p2 c2 p3 c3 p4 c4 p5 c5)] hsF [] rfl (by decide))<|nT<|ih (W (t17+1)) _ N H h1 h2 h hg ho hx hr
 intro hc1 N;exact wW<|yW<|hx _  (zC N).symm H
def xM (s1:(List zJ)) (s2:(List zJ)) (eq:(zJ->zJ->Option Bool)):Option (Bool):=do
 if ((s1.length:Int) != (s2.length:Int)) then
  pure false
 else
  match<-yR s1 s2 eq 0 with
  | .ret r0=>pure r0
  | .done _ =>
   pure true
theorem mA:∀ s1 s2 eq r,xM s1 s2 eq=some r->∀ {I:Imm}{p c p1 c1}{fv:Value}{hsF:List HA},(S4 I p s1 c)->(S4 I p1 s2 c1)->(FV2 Tryz.prog I hsF fv eq)->RT 40 [vS p s1 c,vS p1 s2 c1,fv] I hsF (tM hsF r):=by
 intro s1 s2 eq r N I p c p1 c1 fv hsF h h1 h2;unfold xM at N;refine yJ Tryz.func40 fun B=>vM []<|zZ<|yH [14] rfl<|zK<|yG N ?_ ?_
 · intro hc N;refine vM [(6,vF)]<|xI<|zL ?_;obtain rfl:=zC N;exact xC ⟨_,_,(.tmp rfl ResV.nil),(fun _ h=>h),⟨_,rfl,rfl,rfl⟩⟩
 intro hc N;refine zS<|zZ<|yH [15,16,17] rfl<|wK<|pM [(1,vS p1 s2 c1),(2,fv),(15,vS p s1 c),(16,vI (s1.length:Int)),(17,vI 0)] ?_;obtain ⟨o0,ho0,hMl⟩:=zB N;refine nF s1 s2 eq 0 o0 ho0 iR h1 h2 h (fun _ _ _ h=>h) (fun _ _ h=>h) ?_ ?_
 · intro I01  heq le1;subst o0;refine zR<|zFy [(6,vY)]<|zK<|xD ?_;obtain rfl:=zC hMl;exact xC ⟨_,_,(.tmp rfl ResV.nil),(fun _ h=>h),⟨_,rfl,rfl,rfl⟩⟩
 intro r0 I9 hs9 m9 heq9 le9 hrs9;subst heq9;refine zV<|zL ?_;obtain rfl:=zC hMl;exact xC hrs9
def kJ (a0:zG) (b:zG):Option (Bool):=do
 let t4<-(do
   if (a0.Array.l==b.Array.l) then
    let y<-yN a0.Subs b.Subs wI
    pure (id y)
   else
    pure false
     : Option Bool)
 pure (id t4)
theorem zBQ:∀ a0 b r,kJ a0 b=some r->∀ {I:Imm}{p c p1 c1},(S4 I p a0.Subs c)->(S4 I p1 b.Subs c1)->RT 79 [vA (cAccess a0 p c),vA (cAccess b p1 c1)] I [] (zT  r):=by
 intro a0 b r N I p c p1 c1 h h1;unfold kJ at N;refine yJ Tryz.func79 fun B=>?_;have H:=iS I;refine yC<|vK (cAccess a0 p c) ?_;intro b1 hb;refine vK (cAccess b p1 c1) ?_;intro b2 hb1;refine wU [] []<|zK<|yD ?_;refine uB N [] (fun t4=>[(4,.bool t4)]) (fun o0 ho0=>?_) ?_
 · have H:=iS I;refine zM<|yE 6 [1,0] [10] rfl<|wO [10] ho0 ?_ ?_
   · intro hc N;refine yE 10 [1,0] [12,14] rfl ?_;have hf0:FV2 Tryz.prog I [] (.func (.func 78) ⟨[]⟩ ⟨[]⟩) wI:=by
       refine FV2.intro ?_;intro I1 le1 x0 x1 r u0 u1 hF k0 k1;obtain ⟨_,rfl,k0⟩:=k0;obtain ⟨p2,c2,rfl,h2⟩:=yB k0;obtain ⟨_,rfl,k1⟩:=k1;obtain ⟨p3,c3,rfl,h3⟩:=yB k1;exact (fX x0 x1 r hF h2 h3).mono (by rintro k i hs u ⟨v0,rfl,rfl,h⟩; exact ⟨rfl,h⟩)
     obtain ⟨y,hy,N⟩:=zB N;refine xH (wL a0.Subs b.Subs wI _ hy h h1 hf0) ?_;rintro I01 hs2 v2 k2 le - ⟨v02,rfl,rfl,rfl⟩ -;have H:=H.trans le;exact yM [] [4] rfl<|wG zQ<|yW<|zU (ct N H)
   intro hc N;exact wU [] [(4,vF)]<|wG zQ<|yW<|zU (ct N H)
 intro t4 I0 le1 hMc;refine zK<|xD ?_;obtain rfl:=zC hMc;exact uE
end Go.LN
