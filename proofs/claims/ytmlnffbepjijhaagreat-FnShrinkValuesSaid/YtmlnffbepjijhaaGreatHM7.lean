/- Helper of the proof (see the last text). -/
import Derived.Test.YtmlnffbepjijhaaGreatHM6
set_option linter.unusedVariables false
set_option linter.unusedSimpArgs false
namespace Go.LN
open Go.Proofs Go.Proofs.Tryz
set_option maxRecDepth 20000
instance {i j:Imm}{v:Value}{ak:List Raw2}{A:List zE}{k:Int}{w:Value}:Mo (ArW i v ak A k w) i j (ArW j v ak A k w):=⟨fun h x=>x.mono h⟩
def dH (r:zC×Bool):KT:=fun kk I' af v=>
  ∃ v0 v1,af=[]/\v=tupV [v0,v1]/\(∃ cs,v0=.agg ⟨cs⟩/\Rp.rep I' cs r.1)/\v1=.bool r.2
def uP (x:zE) (dims:List Int) (t45:Int):Option (List Int):=do
 if (decide (t45<(x.Dims.length:Int))) then
  let x1<-idx dims t45;let l<-pure (dims.set t45.toNat 1);uP x l (W (t45+1))
 else pure (id dims)
 partial_fixpoint
theorem zDJ (x:zE):∀ (dims:List Int) (t45:Int) (o:List Int),uP x dims t45=some o->∀ {B}{I0 I:Imm}{Q}{p:zC}{name:Str}{y1:(List zN)}{y3:Int}{y4:zC}{xs:List ND}{p1 c p2 c1}{b b1 b2}{p3 c2}{pa ca pp cp b3 pd cd}{cs},I0.le I->(At I ⟨b1,0,none⟩ [vT name.l])->(S4 I p3 y1 c2)->(ArW I (vS pa (xs.map ND.raw) ca) (xs.map ND.raw) y4.Arrays y3 (vS pd x.Dims cd))->(S4 I pp y4.Parts cp)->(S4 I p1 p.Arrays c)->(S4 I p2 p.Parts c1)->(RL I cs dims)->NG Q->NO Q->(∀ I' bU av,o=bU->I0.le I'->(RL I' av bU)->T 102 B Q (.exit 0) I' [hO Int (vS pd bU cd) av,hB b3 [vS pa (xs.map ND.raw) ca,vS pp y4.Parts cp],hB b2 zTwo,hB b (cProg p p1 c p2 c1)] [(2,vP b 0),(3,vP b1 0),(4,vP b2 0),(6,vS p3 y1 c2),(9,vP b3 0),(10,vS pd bU cd)])->J Tryz.prog 102 B (nav (bodyOf f8) [1,1,1,1,1,1,0,1,0]) Q I [hO Int (vS pd dims cd) cs,hB b3 [vS pa (xs.map ND.raw) ca,vS pp y4.Parts cp],hB b2 zTwo,hB b (cProg p p1 c p2 c1)] [(2,vP b 0),(3,vP b1 0),(4,vP b2 0),(6,vS p3 y1 c2),(9,vP b3 0),(10,vS pd dims cd),(44,vI (x.Dims.length:Int)),(45,vI t45)]:=by
 refine uP.partial_correctness x _ fun aE ih dims t45 o N B I0 I Q p name y1 y3 y4 xs p1 c p2 c1 b b1 b2 p3 c2 pa ca pp cp b3 pd cd cs H al h2 hAr hP h h1 h7 hg ho hx=>yQ hg ho<|yH [46] rfl<|zZ<|yG N ?_ ?_
 · intro aY N;refine zS<|zZ<|yF<|yH [11] rfl<|zK<|zM<|yE 2 [] [48,49] rfl<|bE N fun x1 bz N=>mA 0 rfl rfl rfl h7 bz ?_;intro ad aL au bG aj;obtain rfl:=aj;obtain ⟨l,hy6,N⟩:=zB N;refine zKu 0 0 au bG h7 bz hy6 rfl ?_;intro aP h9 hl02;rw [vE hl02];exact zX rfl<|zO<|zK<|zM<|yK [] [45] rfl<|yP<|oT<|ih l (W (t45+1)) _ N H al h2 hAr hP h h1 h9 hg ho hx
 intro aY N;exact wP<|yU<|hx _ _ _ (zD N).symm H h7
def uQ (x2:zN) (x3:zG) (dims6:List Int) (t80:Int):Option (List Int):=do
 if (decide (t80<(x3.Subs.length:Int))) then
  let x4<-idx x3.Subs t80;let x5<-idx dims6 t80;let y7<-tP x4 x2.Point;let x6<-idx dims6 t80;let l2<-pure (dims6.set t80.toNat (if (W (y7+1))>x5 then (W (y7+1)) else x5));uQ x2 x3 l2 (W (t80+1))
 else pure (id dims6)
 partial_fixpoint
theorem zDK (x2:zN) (x3:zG):∀ (dims6:List Int) (t80:Int) (o:List Int),uQ x2 x3 dims6 t80=some o->∀ {B}{I0 I:Imm}{Q}{p:zC}{name:Str}{y1:(List zN)}{y3:Int}{y4:zC}{xs:List ND}{x:zE}{t54:Int}{l1:List zG}{t69:Int}{p1 c p2 c1}{b b1 b2}{p3 c2}{pa ca pp cp b3 pd cd}{p5 c4}{b4}{aJ aM cs7 br aW cs10},I0.le I->(At I ⟨b1,0,none⟩ [vT name.l])->(S4 I p3 y1 c2)->(RL I cs7 l1)->(S4 I br x3.Subs aW)->(S4 I p5 x2.Point c4)->(ArW I (vS pa (xs.map ND.raw) ca) (xs.map ND.raw) y4.Arrays y3 (vS pd x.Dims cd))->(S4 I pp y4.Parts cp)->(S4 I p1 p.Arrays c)->(S4 I p2 p.Parts c1)->(RL I cs10 dims6)->NG Q->NO Q->(∀ I' dims7 cs11,o=dims7->I0.le I'->(RL I' cs11 dims7)->T 102 B Q (.exit 6) I' [hO zG (vS aJ l1 aM) cs7,hB b4 (cInst x2 p5 c4),hO Int (vS pd dims7 cd) cs11,hB b3 [vS pa (xs.map ND.raw) ca,vS pp y4.Parts cp],hB b2 zTwo,hB b (cProg p p1 c p2 c1)] [(2,vP b 0),(3,vP b1 0),(4,vP b2 0),(9,vP b3 0),(10,vS pd dims7 cd),(13,vP b4 0),(52,vS p3 y1 c2),(53,vI (y1.length:Int)),(54,vI t54),(67,vS aJ l1 aM),(68,vI (l1.length:Int)),(69,vI t69)])->J Tryz.prog 102 B (nav (bodyOf f8) [1,1,1,1,1,1,1,0,1,0,0,1,1,0,0,1,1,1,0,0,1,1,0,0,1,1,1,0]) Q I [hO zG (vS aJ l1 aM) cs7,hB b4 (cInst x2 p5 c4),hO Int (vS pd dims6 cd) cs10,hB b3 [vS pa (xs.map ND.raw) ca,vS pp y4.Parts cp],hB b2 zTwo,hB b (cProg p p1 c p2 c1)] [(2,vP b 0),(3,vP b1 0),(4,vP b2 0),(9,vP b3 0),(10,vS pd dims6 cd),(13,vP b4 0),(52,vS p3 y1 c2),(53,vI (y1.length:Int)),(54,vI t54),(67,vS aJ l1 aM),(68,vI (l1.length:Int)),(69,vI t69),(78,vS br x3.Subs aW),(79,vI (x3.Subs.length:Int)),(80,vI t80)]:=by
 refine uQ.partial_correctness x2 x3 _ fun aE ih dims6 t80 o N B I0 I Q p name y1 y3 y4 xs x t54 l1 t69 p1 c p2 c1 b b1 b2 p3 c2 pa ca pp cp b3 pd cd p5 c4 b4 aJ aM cs7 br aW cs10 H al h2 h21 h24 h12 hAr hP h h1 h25 hg ho hx=>yQ hg ho<|yH [81] rfl<|zZ<|yG N ?_ ?_
 · intro hc6 N;refine zS<|zZ<|yF<|yB<|yE 1 [] [82] rfl<|bE N fun x4 hy12 N=>xR rfl rfl h24 hy12 ?_;intro ad3 ccs4 hat4 bB;obtain ⟨bh,bd,rfl,h27⟩:=yD bB;refine xH 0 hat4 (cAff x4 bh bd) (vA (cAff x4 bh bd)) rfl<|xU [z0,vI 0] ?_;intro b8 hb8;refine yE 5 [] [17] rfl<|yY 0 (cAff x4 bh bd) rfl<|zX rfl<|zK ?_;obtain ⟨x5,hy13,N⟩:=zB N;obtain ⟨y7,hy14,N⟩:=zB N;refine wO [.p (vS pd dims6 cd) [],.p (vI t80) [],.p (vS pd dims6 cd) [],.p (vI t80) [],.x (fun I' v hx=>∃ ad4,v=.pointer (some ad4)/\hx=[]/\(AtO (vS pd dims6 cd) (Rp.sz Int) t80.toNat ad4)/\((cs10.drop (t80.toNat*Rp.sz Int)).take (Rp.sz Int)=[vI x5])),.q (vI x5),.p (vA (cAff x4 bh bd)) [0],.p (vP b4 2) [],.p (vS p5 x2.Point c4) [2],.q (vI y7),.p (vI (W (y7+1))) [],.p (vI (if (W (y7+1))>x5 then (W (y7+1)) else x5)) []] [[],[],[],[],[(2,false),(3,false)],[(4,false)],[],[],[(7,false)],[(6,false),(8,false)],[(9,false)],[(5,false),(10,false)]] [hB b8 (cAff x4 bh bd),hO zG (vS aJ l1 aM) cs7,hB b4 (cInst x2 p5 c4),hO Int (vS pd dims6 cd) cs10,hB b3 [vS pa (xs.map ND.raw) ca,vS pp y4.Parts cp],hB b2 zTwo,hB b (cProg p p1 c p2 c1)] [] [(0,false),(1,false),(11,false)] (zY [0,1,2,3,4,5,6]) ?_ ?_
   · refine O4<|Ox ?_<|Oq ?_<|O3<|Oq ?_<|O2<|On
     · intro I1 hf aa;refine yX [87,88] rfl ?_;have h25:=iM aa h25;refine mA 3 rfl rfl rfl h25 hy13 ?_;intro ad4 ccs5 hat5 hcc2 hrep4;obtain rfl:=hrep4;exact yL [] iR ⟨_,rfl,rfl,hat5,hcc2⟩
     · rintro I1 hf aa _ _ ⟨ad4,rfl,rfl,hat5,hcc2⟩;exact yX [89] rfl<|zCR 3 0 hat5 hcc2 [vI x5] (vI x5) rfl rfl<|xD iR
     intro I1 hf aa;refine yX [91,93] rfl ?_;have H:=iS I1;have ⟨h27,h12⟩:=m2 aa h27 h12;refine dP (nW x4 x2.Point _ hy14 h27 h12) ?_;intro bO le13;have H:=H.trans le13;exact xD H
   intro I013 le14;refine yX [2,3,4,9,10,13,52,53,54,67,68,69,78,79,80,85,86,96] rfl ?_;have ⟨al,h25,h2,h21,h24,h12⟩:=m6 le14 al h25 h2 h21 h24 h12;have ⟨hAr,hP,h,h1,H⟩:=m5 le14 hAr hP h h1 H;obtain ⟨x6,hy15,N⟩:=zB N;refine mA 3 rfl rfl rfl h25 hy15 ?_;intro ad5 ccs6 hat6 hcc3 hrep5;obtain rfl:=hrep5;obtain ⟨l2,hy16,N⟩:=zB N;refine zKu 3 0 hat6 hcc3 h25 hy15 hy16 rfl ?_;intro cs12 h29 hl04;rw [vE hl04];exact zX rfl<|zO<|zK<|zM<|yK [] [80] rfl<|yP<|pU (zW [1,2,3,4,5,6] rfl (by decide))<|oT<|ih l2 (W (t80+1)) _ N H al h2 h21 h24 h12 hAr hP h h1 h29 hg ho hx
 intro hc6 N;exact wP<|yU<|hx _ _ _ (zD N).symm H h25
def vO (name:Str) (x2:zN) (l1:List zG) (dims4:List Int) (t69:Int):Option (List Int):=do
 if (decide (t69<(l1.length:Int))) then
  let x3<-idx l1 t69;if (!(x3.Array.l==name.l)) then vO name x2 l1 dims4 (W (t69+1))
  else
   let dims7<-uQ x2 x3 dims4 0;vO name x2 l1 dims7 (W (t69+1))
 else pure (id dims4)
 partial_fixpoint
theorem zDL (name:Str) (x2:zN) (l1:List zG):∀ (dims4:List Int) (t69:Int) (o:List Int),vO name x2 l1 dims4 t69=some o->∀ {B}{I0 I:Imm}{Q}{p:zC}{y1:(List zN)}{y3:Int}{y4:zC}{xs:List ND}{x:zE}{t54:Int}{p1 c p2 c1}{b b1 b2}{p3 c2}{pa ca pp cp b3 pd cd}{p5 c4}{b4}{aJ aM cs7 cs8},I0.le I->(At I ⟨b1,0,none⟩ [vT name.l])->(S4 I p3 y1 c2)->(RL I cs7 l1)->(S4 I p5 x2.Point c4)->(ArW I (vS pa (xs.map ND.raw) ca) (xs.map ND.raw) y4.Arrays y3 (vS pd x.Dims cd))->(S4 I pp y4.Parts cp)->(S4 I p1 p.Arrays c)->(S4 I p2 p.Parts c1)->(RL I cs8 dims4)->NG Q->NO Q->(∀ I' dims5 cs9,o=dims5->I0.le I'->(RL I' cs9 dims5)->T 102 B Q (.exit 4) I' [hO Int (vS pd dims5 cd) cs9,hB b3 [vS pa (xs.map ND.raw) ca,vS pp y4.Parts cp],hB b2 zTwo,hB b (cProg p p1 c p2 c1)] [(2,vP b 0),(3,vP b1 0),(4,vP b2 0),(9,vP b3 0),(10,vS pd dims5 cd),(52,vS p3 y1 c2),(53,vI (y1.length:Int)),(54,vI t54)])->J Tryz.prog 102 B (nav (bodyOf f8) [1,1,1,1,1,1,1,0,1,0,0,1,1,0,0,1,1,1,0]) Q I [hO zG (vS aJ l1 aM) cs7,hB b4 (cInst x2 p5 c4),hO Int (vS pd dims4 cd) cs8,hB b3 [vS pa (xs.map ND.raw) ca,vS pp y4.Parts cp],hB b2 zTwo,hB b (cProg p p1 c p2 c1)] [(2,vP b 0),(3,vP b1 0),(4,vP b2 0),(9,vP b3 0),(10,vS pd dims4 cd),(13,vP b4 0),(52,vS p3 y1 c2),(53,vI (y1.length:Int)),(54,vI t54),(67,vS aJ l1 aM),(68,vI (l1.length:Int)),(69,vI t69)]:=by
 refine vO.partial_correctness name x2 l1 _ fun aE ih dims4 t69 o N B I0 I Q p y1 y3 y4 xs x t54 p1 c p2 c1 b b1 b2 p3 c2 pa ca pp cp b3 pd cd p5 c4 b4 aJ aM cs7 cs8 H al h2 h21 h12 hAr hP h h1 h22 hg ho hx=>yQ hg ho<|yH [70] rfl<|zZ<|yG N ?_ ?_
 · intro bJ N;refine zS<|zZ<|yF<|yB<|bE N fun x3 hy11 N=>mA 0 rfl rfl rfl h21 hy11 ?_;intro ad2 ccs3 hat3 hcc1 bq;obtain ⟨br,aW,rfl,h24⟩:=uK bq;refine zCR 0 0 hat3 hcc1 (cAccess x3 br aW) (vA (cAccess x3 br aW)) rfl rfl<|xU [vT ([]),z0] ?_;intro b7 hb7;refine yY 0 (cAccess x3 br aW) rfl<|zX rfl<|zZ<|yB<|yE 2 [0] [74] rfl<|xH 0 al [vT name.l] (vT name.l) rfl<|yK [] [76] rfl<|zK<|yG N ?_ ?_
   · intro hc5 N;exact zEu<|gQ<|zR<|zK<|zM<|yK [] [69] rfl<|yP<|pU (zW [1,2,3,4,5,6] rfl (by decide))<|oT<|ih dims4 (W (t69+1)) _ N H al h2 h21 h12 hAr hP h h1 h22 hg ho hx
   intro hc5 N;refine zS<|yW<|yK [0] [78,79,80] rfl<|wI<|pU (zY [1,2,3,4,5,6] (af:=[hO zG (vS aJ l1 aM) cs7,hB b4 (cInst x2 p5 c4),hO Int (vS pd dims4 cd) cs8,hB b3 [vS pa (xs.map ND.raw) ca,vS pp y4.Parts cp],hB b2 zTwo,hB b (cProg p p1 c p2 c1)]))<|qR [(2,vP b 0),(3,vP b1 0),(4,vP b2 0),(9,vP b3 0),(10,vS pd dims4 cd),(13,vP b4 0),(52,vS p3 y1 c2),(53,vI (y1.length:Int)),(54,vI t54),(67,vS aJ l1 aM),(68,vI (l1.length:Int)),(69,vI t69),(78,vS br x3.Subs aW),(79,vI (x3.Subs.length:Int)),(80,vI 0)] ?_;obtain ⟨o02,ho02,hMl1⟩:=zB N;refine zDK x2 x3 dims4 0 o02 ho02 iR al h2 h21 h24 h12 hAr hP h h1 h22 (fun _ _ _ h=>hg _ _ _ h) (fun _ _ h=>ho _ _ h) ?_;intro I014 dims7 cs11 heq2 le15 h26;subst o02;have ⟨al,h2,h21,h12,hAr,hP⟩:=m6 le15 al h2 h21 h12 hAr hP;have ⟨h,h1,H⟩:=m3 le15 h h1 H;exact zR<|zO<|zK<|zM<|yK [] [69] rfl<|yP<|oT<|ih dims7 (W (t69+1)) _ hMl1 H al h2 h21 h12 hAr hP h h1 h26 hg ho hx
 intro bJ N;exact wP<|wF (zW [2,3,4,5] rfl (by decide))<|yU<|hx _ _ _ (zD N).symm H h22
def uR (p:zC) (name:Str) (y1:(List zN)) (dims2:List Int) (t54:Int):Option (List Int):=do
 if (decide (t54<(y1.length:Int))) then
  let x2<-idx y1 t54;let y5<-pM p x2;let y6<-jI y5.Value;let l1<-app 40 y6 ([y5.Write]:List zG);let dims5<-vO name x2 l1 dims2 0;uR p name y1 dims5 (W (t54+1))
 else pure (id dims2)
 partial_fixpoint
theorem zDM (p:zC) (name:Str) (y1:(List zN)):∀ (dims2:List Int) (t54:Int) (o:List Int),uR p name y1 dims2 t54=some o->∀ {B}{I0 I:Imm}{Q}{y3:Int}{y4:zC}{xs:List ND}{x:zE}{p1 c p2 c1}{b b1 b2}{p3 c2}{pa ca pp cp b3 pd cd}{aI},I0.le I->(At I ⟨b1,0,none⟩ [vT name.l])->(S4 I p3 y1 c2)->(ArW I (vS pa (xs.map ND.raw) ca) (xs.map ND.raw) y4.Arrays y3 (vS pd x.Dims cd))->(S4 I pp y4.Parts cp)->(S4 I p1 p.Arrays c)->(S4 I p2 p.Parts c1)->(RL I aI dims2)->NG Q->NO Q->(∀ I' dims3 bo,o=dims3->I0.le I'->(RL I' bo dims3)->T 102 B Q (.exit 2) I' [hO Int (vS pd dims3 cd) bo,hB b3 [vS pa (xs.map ND.raw) ca,vS pp y4.Parts cp],hB b2 zTwo] [(4,vP b2 0),(9,vP b3 0),(10,vS pd dims3 cd)])->J Tryz.prog 102 B (nav (bodyOf f8) [1,1,1,1,1,1,1,0,1,0]) Q I [hO Int (vS pd dims2 cd) aI,hB b3 [vS pa (xs.map ND.raw) ca,vS pp y4.Parts cp],hB b2 zTwo,hB b (cProg p p1 c p2 c1)] [(2,vP b 0),(3,vP b1 0),(4,vP b2 0),(9,vP b3 0),(10,vS pd dims2 cd),(52,vS p3 y1 c2),(53,vI (y1.length:Int)),(54,vI t54)]:=by
 refine uR.partial_correctness p name y1 _ fun aE ih dims2 t54 o N B I0 I Q y3 y4 xs x p1 c p2 c1 b b1 b2 p3 c2 pa ca pp cp b3 pd cd aI H al h2 hAr hP h h1 h10 hg ho hx=>yQ hg ho<|yH [55] rfl<|zZ<|yG N ?_ ?_
 · intro bC N;refine zS<|zZ<|yF<|yB<|bE N fun x2 hy7 N=>xR rfl rfl h2 hy7 ?_;intro ad1 bm bk ax;obtain ⟨p5,c4,rfl,h12⟩:=fQ ax;refine xH 0 bk (cInst x2 p5 c4) (vA (cInst x2 p5 c4)) rfl<|xU [vI 0,vI 0,z0] ?_;intro b4 hb4;refine yY 0 (cInst x2 p5 c4) rfl<|zX rfl<|yW<|tL 2 [4,0] [(58,vA (cProg p p1 c p2 c1)),(59,vA (cInst x2 p5 c4))]<|bE N fun y5 hy8 N=>xE (zBF p x2 _ hy8 h h1 h12) ?_;rintro I08 aw v2 k2 le9 - ⟨v05,rfl,rfl,⟨bv,rfl,h13⟩⟩ -;have ⟨al,h10,h2,h12,hAr,hP⟩:=m6 le9 al h10 h2 h12 hAr hP;have ⟨h,h1,H⟩:=m3 le9 h h1 H;obtain ⟨p6,c5,p7,c6,p8,c7,p9,c8,rfl,h14,h15,h16,h17⟩:=wV h13;refine xU [vT ([]),z0,vI 0,vI 0,z0,vI 0,vT ([]),z0,z0] ?_;intro b5 hb5;refine yY 0 (cStmt y5 p6 c5 p7 c6 p8 c7 p9 c8) rfl<|zX rfl<|zK<|yA ?_;obtain ⟨y6,hy9,N⟩:=zB N;obtain ⟨l1,hy10,N⟩:=zB N;refine wO [.p (vP b5 2) [],.p (vA (cExpr y5.Value p7 c6 p8 c7 p9 c8)) [0],.x (fun I' v hx=>∃ aQ c9 cs6,v=vS aQ y6 c9/\hx=[hO zG (vS aQ y6 c9) cs6]/\(RL I' cs6 y6)),.p (vP b5 0) [],.p (vA (cAccess y5.Write p6 c5)) [0],.x (fun I' v hx=>∃ b6,v=vS (some ⟨b6,0,none⟩) ([y5.Write]:List zG) 1/\hx=[]/\(SL I' (vS (some ⟨b6,0,none⟩) ([y5.Write]:List zG) 1) ([y5.Write]:List zG))),.x (fun I' v hx=>∃ aJ aM cs7,v=vS aJ l1 aM/\hx=[hO zG (vS aJ l1 aM) cs7]/\(RL I' cs7 l1)),.q (vI (l1.length:Int)),.p (vI 0) []] [[],[(0,false)],[(1,false)],[],[(3,false)],[(4,false)],[(2,true),(5,false)],[(6,false)],[]] [hB b5 (cStmt y5 p6 c5 p7 c6 p8 c7 p9 c8),hB b4 (cInst x2 p5 c4),hO Int (vS pd dims2 cd) aI,hB b3 [vS pa (xs.map ND.raw) ca,vS pp y4.Parts cp],hB b2 zTwo,hB b (cProg p p1 c p2 c1)] [] [(6,true),(7,false),(8,false)] (zY [0,1,2,3,4,5]) ?_ ?_
   · refine O2<|Ox ?_<|O2<|Ox ?_<|Ox ?_<|Oq ?_<|Op<|On
     · intro I1 hf aa;refine yX [62] rfl ?_;have H:=iS I1;have ⟨h15,h16,h17⟩:=m3 aa h15 h16 h17;refine xE (zCW y5.Value _ hy9 h15 h16 h17) ?_;rintro I09 aw v2 k2 le10 - ⟨aQ,c9,cs6,rfl,rfl,h18⟩ -;have H:=H.trans le10;exact yL [hO zG (vS aQ y6 c9) cs6] H ⟨_,_,_,rfl,rfl,h18⟩
     · intro I1 hf aa;refine yX [65] rfl ?_;have H:=iS I1;have h14:=h14.mono aa;refine mG (rc y5.Write (rK ⟨_,rfl,h14⟩) rN) ?_;intro b6 bL le11 h20;have H:=H.trans le11;exact yL [] H ⟨_,rfl,rfl,h20⟩
     · rintro I1 hf aa _ _ ⟨aQ,c9,cs6,rfl,rfl,h18⟩ _ _ ⟨b6,rfl,rfl,h20⟩;refine yX [63,66] rfl ?_;obtain ⟨bK,k0,k01⟩:=h20;have h20:SL I1 (vS (some ⟨b6,0,none⟩) ([y5.Write]:List zG) 1) ([y5.Write]:List zG):=⟨_,k0,k01⟩;exact rF 67 2 0 rfl rfl rfl h18 (.inl k0) k01 hy10 fun aJ aM cs7 h21=>wX (af:=(hO zG (vS aJ l1 aM) cs7::hB b5 (cStmt y5 p6 c5 p7 c6 p8 c7 p9 c8)::hB b4 (cInst x2 p5 c4)::hO Int (vS pd dims2 cd) aI::hB b3 [vS pa (xs.map ND.raw) ca,vS pp y4.Parts cp]::hB b2 zTwo::hB b (cProg p p1 c p2 c1)::hf)) rfl<|yL [hO zG (vS aJ l1 aM) cs7] iR ⟨_,_,_,rfl,rfl,h21⟩
     rintro I1 hf aa _ _ ⟨aJ,aM,cs7,rfl,rfl,h21⟩;exact yX [67] rfl<|pE 8 [(68,vI (l1.length:Int))]<|xD iR
   rintro bR le12 _ _ ⟨aJ,aM,cs7,rfl,rfl,h21⟩;refine yX [2,3,4,9,10,13,52,53,54,67,68,69] rfl ?_;have ⟨al,h10,h2,h12,hAr,hP⟩:=m6 le12 al h10 h2 h12 hAr hP;have ⟨h,h1,H⟩:=m3 le12 h h1 H;refine zX rfl<|wI<|pU (zY [0,2,3,4,5,6] (af:=[hO zG (vS aJ l1 aM) cs7,hB b4 (cInst x2 p5 c4),hO Int (vS pd dims2 cd) aI,hB b3 [vS pa (xs.map ND.raw) ca,vS pp y4.Parts cp],hB b2 zTwo,hB b (cProg p p1 c p2 c1)]))<|qR [(2,vP b 0),(3,vP b1 0),(4,vP b2 0),(9,vP b3 0),(10,vS pd dims2 cd),(13,vP b4 0),(52,vS p3 y1 c2),(53,vI (y1.length:Int)),(54,vI t54),(67,vS aJ l1 aM),(68,vI (l1.length:Int)),(69,vI 0)] ?_;obtain ⟨o03,ho03,hMl2⟩:=zB N;refine zDL name x2 l1 dims2 0 o03 ho03 iR al h2 h21 h12 hAr hP h h1 h10 (fun _ _ _ h=>hg _ _ _ h) (fun _ _ h=>ho _ _ h) ?_;intro I015 dims5 cs9 heq3 le16 h23;subst o03;have ⟨al,h2,hAr,hP,h,h1⟩:=m6 le16 al h2 hAr hP h h1;have H:=H.trans le16;exact zR<|zO<|zK<|zM<|yK [] [54] rfl<|yP<|oT<|ih dims5 (W (t54+1)) _ hMl2 H al h2 hAr hP h h1 h23 hg ho hx
 intro bC N;exact wP<|wF (zW [0,1,2] rfl (by decide))<|yU<|hx _ _ _ (zD N).symm H h10
def jY (p:zC) (name:Str):Option (zC×Bool):=do
 let (y1,y2)<-tQ p;let y3<-wW p.Arrays (fun x0=>sW x0 name);let t33<-(do
   if (!y2) then pure true
   else
    pure (decide (y3<0))
     : Option Bool)
 if t33 then pure ((zC.mk ([]:List zE) ([]:List zI)),false)
 else
  let y4<-jX p;let x<-idx y4.Arrays y3;let bU<-uP x x.Dims 0;let dims3<-uR p name y1 bU 0;pure ((zC.mk (y4.Arrays.set y3.toNat (zE.mk x.Name dims3)) y4.Parts),true)
theorem zJQ {x:zE}{d:List Int}{t:Int}{o:List Int} (h:uP x d t=some o):o.length=d.length:=by
 refine uP.partial_correctness x (fun d t o=>o.length=d.length) ?_ d t o h;intro aE ih d t o N;split at N
 · obtain ⟨x1,h1,N⟩:=zB N;obtain ⟨l,h2,N⟩:=zB N;have h2:=zD h2;subst h2;rw [ih _ _ _ N,cE]
 have:=zD N;simp only [id] at this;subst this; rfl
theorem zJR {x2:zN}{x3:zG}{d:List Int}{t:Int}{o:List Int} (h:uQ x2 x3 d t=some o):o.length=d.length:=by
 refine uQ.partial_correctness x2 x3 (fun d t o=>o.length=d.length) ?_ d t o h;intro aE ih d t o N;split at N
 · obtain ⟨x1,h1,N⟩:=zB N;obtain ⟨x4,h2,N⟩:=zB N;obtain ⟨x5,h3,N⟩:=zB N;obtain ⟨x6,h4,N⟩:=zB N;obtain ⟨l,h5,N⟩:=zB N;have h5:=zD h5;subst h5;rw [ih _ _ _ N,cE]
 have:=zD N;simp only [id] at this;subst this; rfl
theorem zJS {name:Str}{x2:zN}{l1:List zG}{d:List Int}{t:Int}{o:List Int} (h:vO name x2 l1 d t=some o):o.length=d.length:=by
 refine vO.partial_correctness name x2 l1 (fun d t o=>o.length=d.length) ?_ d t o h;intro aE ih d t o N;split at N
 · obtain ⟨x1,h1,N⟩:=zB N;split at N
   · exact ih _ _ _ N
   obtain ⟨d2,h2,N⟩:=zB N;rw [ih _ _ _ N,zJR h2]
 have:=zD N;simp only [id] at this;subst this; rfl
theorem zJT {p:zC}{name:Str}{y:List zN}{d:List Int}{t:Int}{o:List Int} (h:uR p name y d t=some o):o.length=d.length:=by
 refine uR.partial_correctness p name y (fun d t o=>o.length=d.length) ?_ d t o h;intro aE ih d t o N;split at N
 · obtain ⟨x1,h1,N⟩:=zB N;obtain ⟨x2,h2,N⟩:=zB N;obtain ⟨x3,h3,N⟩:=zB N;obtain ⟨x4,h4,N⟩:=zB N;obtain ⟨x5,h5,N⟩:=zB N;rw [ih _ _ _ N,zJS h5]
 have:=zD N;simp only [id] at this;subst this; rfl
theorem zEe:∀ p name r,jY p name=some r->∀ {I:Imm}{p1 c p2 c1},(S4 I p1 p.Arrays c)->(S4 I p2 p.Parts c1)->RT 8 [vA (cProg p p1 c p2 c1),vT name.l] I [] (dH  r):=by
 intro p name r N I p1 c p2 c1 h h1;unfold jY at N;refine yI func8 fun B=>?_;have H:=iS I;refine yB<|vJ (cProg p p1 c p2 c1) ?_;intro b hb;refine vJ [vT name.l] ?_;intro b1 hb1;refine xX 0 rfl ?_;intro I0 le hl0;have al:At I0 ⟨b1,0,none⟩ [vT name.l]:=At.of_blk hl0;have ⟨h,h1,H⟩:=m3 le h h1 H;refine xU zTwo ?_;intro b2 hb2;refine wR [] []<|yW<|tL 1 [1] [(20,vA (cProg p p1 c p2 c1))] ?_;obtain ⟨⟨y1,y2⟩,hy,N⟩:=zB N;refine xE (gG p _ hy h h1) ?_;rintro aO aw v2 k2 aa - ⟨v0,v01,rfl,rfl,h2,rfl⟩ -;have ⟨al,h,h1,H⟩:=m4 aa al h h1 H;obtain ⟨p3,c2,rfl⟩:=h2.form;refine yK [] [6,7] rfl<|yW<|yE 3 [1] [25,26] rfl ?_;have hf0:FV1 Tryz.prog aO [] (.func (.func 27) ⟨[]⟩ ⟨[vP b1 0]⟩) (fun x0=>sW x0 name):=by
   refine FV1.intro ?_;intro I1 aa x0 r u0 hF k0;obtain ⟨_,rfl,k0⟩:=k0;obtain ⟨p4,c3,rfl,h4⟩:=xP k0;exact (zDe x0 name r hF h4 (al.mono aa)).mono (by rintro k i hs u ⟨v0,rfl,rfl,h⟩; exact ⟨rfl,h⟩)
 obtain ⟨y3,ay,N⟩:=zB N;refine xE (eX p.Arrays (fun x0=>sW x0 name) _ ay h hf0) ?_;rintro aV aw v2 k2 aA - ⟨v03,rfl,rfl,rfl⟩ -;have ⟨al,h2,h,h1,H⟩:=m5 aA al h2 h h1 H;refine yK [] [8] rfl<|zZ<|yA ?_;refine wZ N [hB b2 zTwo,hB b (cProg p p1 c p2 c1)] (fun t33=>[(2,vP b 0),(3,vP b1 0),(4,vP b2 0),(6,vS p3 y1 c2),(8,vI y3),(33,.bool t33)]) (fun o0 az=>?_) ?_
 · have H:=iS aV;refine zM<|yE 3 [] [30] rfl<|wL [30] az ?_ ?_
   · intro hc N;exact wR [] [(33,vY)]<|yU<|zU (ct N H)
   intro hc N;exact yK [] [33] rfl<|yU<|zU (ct N H)
 intro t33 bx aK aT;have ⟨al,h2,h,h1⟩:=m4 aK al h2 h h1;refine zK<|yG aT ?_ ?_
 · intro aH N;refine yB<|yE 1 [] [34] rfl<|dE 0 zTwo [hB b2 zTwo,hB b (cProg p p1 c p2 c1)] rfl rfl rfl rfl<|wR [] [(5,vF)]<|xF<|zJ ?_;exact xO N (resE 0 rfl rfl rfl) zP ⟨_,_,rfl,rfl,⟨_,rfl,(xY ⟨_,_,rfl,(SL.nil _),(SL.nil _)⟩)⟩,rfl⟩
 intro aH N;refine zS<|zZ<|bE N fun y4 aG N=>zM<|tL 1 [1] [(35,vA (cProg p p1 c p2 c1))]<|xE (zEK p _ aG h h1) ?_;rintro bD aw v2 k2 aX - ⟨xs,pa,ca,csa,pp,cp,rfl,rfl,hA,hok,hRw,hP⟩ -;have ⟨al,h2,h,h1⟩:=m4 aX al h2 h h1;refine zNr ([hO Raw2 (vS pa (xs.map ND.raw) ca) csa,hB b2 zTwo,hB b (cProg p p1 c p2 c1)]++NDs xs) (List.Perm.cons _ cL)<|xU zTwo ?_;intro b3 hb3;refine dE 0 [vS pa (xs.map ND.raw) ca,vS pp y4.Parts cp] (hB b3 [vS pa (xs.map ND.raw) ca,vS pp y4.Parts cp]::hO Raw2 (vS pa (xs.map ND.raw) ca) csa::hB b2 zTwo::hB b (cProg p p1 c p2 c1)::NDs xs) rfl rfl rfl rfl<|zX rfl<|zK<|yA ?_;obtain ⟨x,bc,N⟩:=zB N;have bu:=bc;rw [hA] at bu;obtain ⟨⟨nm0,pd,dd0,cd,csd⟩,hz,hxz⟩:=zE1 bu;obtain rfl:nm0=x.Name:=by rw [hxz]; rfl
 obtain rfl:dd0=x.Dims:=by rw [hxz]; rfl
 refine zDr (NDs xs++[hB b3 [vS pa (xs.map ND.raw) ca,vS pp y4.Parts cp],hO Raw2 (vS pa (xs.map ND.raw) ca) csa,hB b2 zTwo,hB b (cProg p p1 c p2 c1)]) (cL (l₂:=[hB b3 [vS pa (xs.map ND.raw) ca,vS pp y4.Parts cp],hO Raw2 (vS pa (xs.map ND.raw) ca) csa,hB b2 zTwo,hB b (cProg p p1 c p2 c1)]))<|zM4 hz hok ?_;intro bI bf hfz;have h6:RL bI csd x.Dims:=(hok _ (cI (rE hz).2.2)).mono bf;refine pD 2 rfl ?_;intro I06 bt hl01;have hAr:ArW I06 (vS pa (xs.map ND.raw) ca) (xs.map ND.raw) y4.Arrays y3 (vS pd x.Dims cd):=⟨SL.of_frozen hl01 bt (iM bf hRw),by rw [hA]; exact RW.of hz fun j y hj hy=>(hfz j y hj hy).mono bt⟩;have le7:=bf.trans bt;have al:=al.mono le7;have h2:=h2.mono le7;have hP:=hP.mono le7;have h:=h.mono le7;have h1:=h1.mono le7;have h6:=iM bt h6;refine zM<|yE 3 [1] [38,39] rfl<|xR rfl rfl hAr.1 (hAr.2.at bc) ?_;intro ad0 ccs0 hat0 hrep0;obtain ⟨rfl,_⟩:=hrep0;refine yE 5 [] [41] rfl<|xH 1 hat0 [(vS pd x.Dims cd)] (vS pd x.Dims cd) rfl<|yK [] [10] rfl<|zZ<|yH [44,45] rfl<|wI<|qR [(2,vP b 0),(3,vP b1 0),(4,vP b2 0),(6,vS p3 y1 c2),(9,vP b3 0),(10,vS pd x.Dims cd),(44,vI (x.Dims.length:Int)),(45,vI 0)] ?_;obtain ⟨aN,aC,aF⟩:=zB N;refine zDJ x x.Dims 0 aN aC iR al h2 hAr hP h h1 h6 nG nO ?_;intro I07 bU av heq1 le8 h8;subst aN;have ⟨al,h2,hAr,hP,h,h1⟩:=m6 le8 al h2 hAr hP h h1;refine zR<|zZ<|yH [52,53,54] rfl<|wI<|qR [(2,vP b 0),(3,vP b1 0),(4,vP b2 0),(9,vP b3 0),(10,vS pd bU cd),(52,vS p3 y1 c2),(53,vI (y1.length:Int)),(54,vI 0)] ?_;obtain ⟨o04,ho04,hMl3⟩:=zB aF;refine zDM p name y1 bU 0 o04 ho04 iR al h2 hAr hP h h1 h8 nG nO ?_;intro I016 dims3 bo heq4 le17 h11;subst o04;have ⟨hAr,hP⟩:=m2 le17 hAr hP;refine zR<|zZ<|pD 0 rfl ?_;intro I017 le18 hl05;have h30:=SL.of_frozen hl05 le18 h11;have ⟨hAr,hP⟩:=m2 le18 hAr hP;have ba:dims3.length=x.Dims.length:=(zJT ho04).trans (zJQ aC);have hw:(vS pd x.Dims cd)=vS pd dims3 cd:=by simp only [vS,ba]
 have h31:SL I017 (vS pa (y4.Arrays.set y3.toNat (zE.mk x.Name dims3)) ca) (y4.Arrays.set y3.toNat (zE.mk x.Name dims3)):=hAr.done bc (by rw [hw]; exact h30);have eP:vS pa (xs.map ND.raw) ca=vS pa (y4.Arrays.set y3.toNat (zE.mk x.Name dims3)) ca:=by simp only [vS,cE,hAr.2.1]
 rw [eP];refine zM<|tL 1 [0] [(101,vA [vS pa (y4.Arrays.set y3.toNat (zE.mk x.Name dims3)) ca,vS pp y4.Parts cp])]<|yY 1 [vS pa (y4.Arrays.set y3.toNat (zE.mk x.Name dims3)) ca,vS pp y4.Parts cp] rfl<|wR [] [(5,vY)]<|zK<|xA ?_;exact xO hMl3 (resE 1 rfl rfl rfl) zP ⟨_,_,rfl,rfl,⟨_,rfl,(xY ⟨_,_,rfl,h31,hP⟩)⟩,rfl⟩
def eT (x:zE):Option (zE):=do
 let l<-app 8 ([]:List Int) x.Dims;pure (zE.mk x.Name l)
theorem zEf:∀ x r,eT x=some r->∀ {I:Imm}{p c},(S4 I p x.Dims c)->RT 107 [vA (cArr x p c)] I [] (zCE  r):=by
 intro x r N I p c h;unfold eT at N;refine yI func107 fun B=>yB<|vJ (cArr x p c) ?_;intro b hb;refine xU [vT ([]),z0] ?_;intro b1 hb1;refine zX rfl<|yW<|uV [] Int ?_;intro b2 hb2;have h1:RL I [] ([]:List Int):=rfl;refine yE 3 [2] [5] rfl ?_;obtain ⟨aL,k0,k01⟩:=h;have h:SL I (vS p x.Dims c) x.Dims:=⟨_,k0,k01⟩;obtain ⟨l,hy,N⟩:=zB N;refine rF 3 1 0 rfl rfl rfl h1 (.inl k0) k01 hy ?_;intro p1 c1 cs h2;refine tX (zY [0,1,2] (af:=[hO Int (vS p1 l c1) cs,hB b1 [vT ([]),z0],hB b (cArr x p c)]))<|yE 5 [] [7] rfl<|yY 2 [vT x.Name.l,vS p1 l c1] rfl<|zX rfl<|yW<|tL 1 [2] [(8,vA [vT x.Name.l,vS p1 l c1])]<|yY 1 [vT x.Name.l,vS p1 l c1] rfl<|zX rfl<|xF<|xB 0 rfl ?_;intro I0 le hl0;have h3:=SL.of_frozen hl0 le h2;exact xO N (resC 0 rfl rfl) zP ⟨_,rfl,rfl,⟨_,rfl,(uI ⟨_,rfl,h3⟩)⟩⟩
def uW (list:(List zE)) (out:List zE) (t9:Int):Option (List zE):=do
 if (decide (t9<(list.length:Int))) then
  let x<-idx list t9;let y<-eT x;let ap<-app 40 out ([y]:List zE);uW list ap (W (t9+1))
 else pure (id out)
 partial_fixpoint
theorem zBf (list:(List zE)):∀ (out:List zE) (t9:Int) (o:List zE),uW list out t9=some o->∀ {B}{I0 I:Imm}{Q p c p1 c1 cs},I0.le I->(S4 I p list c)->(RL I cs out)->NG Q->NO Q->(∀ I' ah p2 c2 av,o=ah->I0.le I'->(RL I' av ah)->T 20 B Q (.exit 0) I' [hO zE (vS p2 ah c2) av] [(3,vS p2 ah c2)])->J Tryz.prog 20 B (nav (bodyOf f66) [1,1,0,1,0]) Q I [hO zE (vS p1 out c1) cs] [(3,vS p1 out c1),(7,vS p list c),(8,vI (list.length:Int)),(9,vI t9)]:=by
 refine uW.partial_correctness list _ fun aE ih out t9 o N B I0 I Q p c p1 c1 cs H h h2 hg ho hx=>yQ hg ho<|yH [10] rfl<|zZ<|yG N ?_ ?_
 · intro hc N;refine zS<|zZ<|yF<|yB<|bE N fun x hy N=>xR rfl rfl h hy ?_;intro ad aL al aj;obtain ⟨p3,c3,rfl,h4⟩:=xP aj;refine xH 0 al (cArr x p3 c3) (vA (cArr x p3 c3)) rfl<|xU [vT ([]),z0] ?_;intro b1 hb1;refine yY 0 (cArr x p3 c3) rfl<|zX rfl<|zK<|zM<|tL 2 [0] [(13,vS p1 out c1),(14,vA (cArr x p3 c3))]<|bE N fun y ay N=>xE (zEf x _ ay h4) ?_;rintro I0 aw v2 k2 le - ⟨v01,rfl,rfl,⟨aP,rfl,h5⟩⟩ -;have ⟨h,h2,H⟩:=m3 le h h2 H;obtain ⟨p4,c4,rfl,h6⟩:=xP h5;refine uV (cArr y p4 c4) zE ?_;intro b2 hb2;have h7:RL I0 (cArr y p4 c4) ([y]:List zE):=⟨(cArr y p4 c4),_,rfl,rfl,(uI ⟨_,rfl,h6⟩),rfl⟩;obtain ⟨ap,aG,N⟩:=zB N;exact rF 60 2 2 rfl rfl rfl h2 (.inr ⟨0,rfl⟩) h7 aG fun p5 c5 aI h8=>tX (zY [1,2] (af:=[hB b1 (cArr x p3 c3),hO zE (vS p5 ap c5) aI]))<|yK [] [3] rfl<|zO<|zK<|zM<|yK [] [9] rfl<|yP<|pU (zW [1] rfl (by decide))<|oT<|ih ap (W (t9+1)) _ N H h h8 hg ho hx
 intro hc N;exact wP<|yU<|hx _ _ _ _ _ (zD N).symm H h2
def jJ (list:(List zE)):Option ((List zE)):=do
 let ah<-uW list ([]:List zE) 0;pure (id ah)
theorem zCq:∀ list r,jJ list=some r->∀ {I:Imm}{p c},(S4 I p list c)->RT 66 [vS p list c] I [] (zCg  r):=by
 intro list r N I p c h;unfold jJ at N;refine yI func66 fun B=>wT []<|yW<|uV [] zE ?_;intro b hb;have h1:RL I [] ([]:List zE):=rfl;refine yK [] [3] rfl<|zZ<|yH [7,8,9] rfl<|wI<|qR [(3,vS (some ⟨b,0,none⟩) ([]:List zE) 0),(7,vS p list c),(8,vI (list.length:Int)),(9,vI 0)] ?_;obtain ⟨o0,az,aF⟩:=zB N;refine zBf list ([]:List zE) 0 o0 az iR h h1 nG nO ?_;intro aO ah p2 c2 av heq aa h3;subst o0;refine zR<|vW [2] rfl<|xF<|xB 0 rfl ?_;intro aV aA hl0;have h9:=SL.of_frozen hl0 aA h3;exact xO aF (resT rfl) zP ⟨_,rfl,rfl,h9⟩
def nX (x:zA):Option (zA):=do
 let l<-app 8 ([]:List Int) x.Coefs;pure (zA.mk l x.Const)
theorem zBG:∀ x r,nX x=some r->∀ {I:Imm}{p c},(S4 I p x.Coefs c)->RT 209 [vA (cAff x p c)] I [] (oX  r):=by
 intro x r N I p c h;unfold nX at N;refine yI func209 fun B=>yB<|vJ (cAff x p c) ?_;intro b hb;refine xU [z0,vI 0] ?_;intro b1 hb1;refine zX rfl<|yW<|uV [] Int ?_;intro b2 hb2;have h1:RL I [] ([]:List Int):=rfl;refine yE 3 [2] [5] rfl ?_;obtain ⟨aL,k0,k01⟩:=h;have h:SL I (vS p x.Coefs c) x.Coefs:=⟨_,k0,k01⟩;obtain ⟨l,hy,N⟩:=zB N;refine rF 3 1 0 rfl rfl rfl h1 (.inl k0) k01 hy ?_;intro p1 c1 cs h2;refine tX (zY [0,1,2] (af:=[hO Int (vS p1 l c1) cs,hB b1 [z0,vI 0],hB b (cAff x p c)]))<|yE 5 [] [7] rfl<|yY 2 [vS p1 l c1,vI x.Const] rfl<|zX rfl<|yW<|tL 1 [2] [(8,vA [vS p1 l c1,vI x.Const])]<|yY 1 [vS p1 l c1,vI x.Const] rfl<|zX rfl<|xF<|xB 0 rfl ?_;intro I0 le hl0;have h3:=SL.of_frozen hl0 le h2;exact xO N (resC 0 rfl rfl) zP ⟨_,rfl,rfl,⟨_,rfl,(yJ ⟨_,rfl,h3⟩)⟩⟩
def uO (list:(List zA)) (out:List zA) (t9:Int):Option (List zA):=do
 if (decide (t9<(list.length:Int))) then
  let x<-idx list t9;let y<-nX x;let ap<-app 32 out ([y]:List zA);uO list ap (W (t9+1))
 else pure (id out)
 partial_fixpoint
theorem zBX (list:(List zA)):∀ (out:List zA) (t9:Int) (o:List zA),uO list out t9=some o->∀ {B}{I0 I:Imm}{Q p c p1 c1 cs},I0.le I->(S4 I p list c)->(RL I cs out)->NG Q->NO Q->(∀ I' ah p2 c2 av,o=ah->I0.le I'->(RL I' av ah)->T 20 B Q (.exit 0) I' [hO zA (vS p2 ah c2) av] [(3,vS p2 ah c2)])->J Tryz.prog 20 B (nav (bodyOf f195) [1,1,0,1,0]) Q I [hO zA (vS p1 out c1) cs] [(3,vS p1 out c1),(7,vS p list c),(8,vI (list.length:Int)),(9,vI t9)]:=by
 refine uO.partial_correctness list _ fun aE ih out t9 o N B I0 I Q p c p1 c1 cs H h h2 hg ho hx=>yQ hg ho<|yH [10] rfl<|zZ<|yG N ?_ ?_
 · intro hc N;refine zS<|zZ<|yF<|yB<|bE N fun x hy N=>xR rfl rfl h hy ?_;intro ad aL al aj;obtain ⟨p3,c3,rfl,h4⟩:=yD aj;refine xH 0 al (cAff x p3 c3) (vA (cAff x p3 c3)) rfl<|xU [z0,vI 0] ?_;intro b1 hb1;refine yY 0 (cAff x p3 c3) rfl<|zX rfl<|zK<|zM<|tL 2 [0] [(13,vS p1 out c1),(14,vA (cAff x p3 c3))]<|bE N fun y ay N=>xE (zBG x _ ay h4) ?_;rintro I0 aw v2 k2 le - ⟨v01,rfl,rfl,⟨aP,rfl,h5⟩⟩ -;have ⟨h,h2,H⟩:=m3 le h h2 H;obtain ⟨p4,c4,rfl,h6⟩:=yD h5;refine uV (cAff y p4 c4) zA ?_;intro b2 hb2;have h7:RL I0 (cAff y p4 c4) ([y]:List zA):=⟨(cAff y p4 c4),_,rfl,rfl,(yJ ⟨_,rfl,h6⟩),rfl⟩;obtain ⟨ap,aG,N⟩:=zB N;exact rF 69 2 2 rfl rfl rfl h2 (.inr ⟨0,rfl⟩) h7 aG fun p5 c5 aI h8=>tX (zY [1,2] (af:=[hB b1 (cAff x p3 c3),hO zA (vS p5 ap c5) aI]))<|yK [] [3] rfl<|zO<|zK<|zM<|yK [] [9] rfl<|yP<|pU (zW [1] rfl (by decide))<|oT<|ih ap (W (t9+1)) _ N H h h8 hg ho hx
 intro hc N;exact wP<|yU<|hx _ _ _ _ _ (zD N).symm H h2
def sP (list:(List zA)):Option ((List zA)):=do
 let ah<-uO list ([]:List zA) 0;pure (id ah)
theorem fK:∀ list r,sP list=some r->∀ {I:Imm}{p c},(S4 I p list c)->RT 195 [vS p list c] I [] (dG  r):=by
 intro list r N I p c h;unfold sP at N;refine yI func195 fun B=>wT []<|yW<|uV [] zA ?_;intro b hb;have h1:RL I [] ([]:List zA):=rfl;refine yK [] [3] rfl<|zZ<|yH [7,8,9] rfl<|wI<|qR [(3,vS (some ⟨b,0,none⟩) ([]:List zA) 0),(7,vS p list c),(8,vI (list.length:Int)),(9,vI 0)] ?_;obtain ⟨o0,az,aF⟩:=zB N;refine zBX list ([]:List zA) 0 o0 az iR h h1 nG nO ?_;intro aO ah p2 c2 av heq aa h3;subst o0;refine zR<|vW [2] rfl<|xF<|xB 0 rfl ?_;intro aV aA hl0;have h9:=SL.of_frozen hl0 aA h3;exact xO aF (resT rfl) zP ⟨_,rfl,rfl,h9⟩
def dL (x:zF):Option (zF):=do
 let y<-sP x.Lo;let y1<-sP x.Hi;pure (zF.mk y y1)
theorem zFY:∀ x r,dL x=some r->∀ {I:Imm}{p c p1 c1},(S4 I p x.Lo c)->(S4 I p1 x.Hi c1)->RT 178 [vA (cLoop x p c p1 c1)] I [] (zCa  r):=by
 intro x r N I p c p1 c1 h h1;unfold dL at N;refine yI func178 fun B=>yB<|vJ (cLoop x p c p1 c1) ?_;intro b hb;refine xU zTwo ?_;intro b1 hb1;refine zX rfl<|yW<|yE 2 [1] [4] rfl<|bE N fun y hy N=>xE (fK x.Lo _ hy h) ?_;rintro I0 aw v2 k2 le - ⟨v0,rfl,rfl,h2⟩ -;have h1:=h1.mono le;obtain ⟨p2,c2,rfl⟩:=h2.form;refine yE 4 [] [6] rfl<|yY 1 [vS p2 y c2,vS p1 x.Hi c1] rfl<|zX rfl<|yW<|yE 2 [1] [8] rfl<|bE N fun y1 ay N=>xE (fK x.Hi _ ay h1) ?_;rintro aO aw v2 k2 aa - ⟨v01,rfl,rfl,h3⟩ -;have h2:=h2.mono aa;obtain ⟨p3,c3,rfl⟩:=h3.form;refine yE 4 [] [10] rfl<|yY 1 [vS p2 y c2,vS p3 y1 c3] rfl<|zX rfl<|yW<|tL 1 [1] [(11,vA [vS p2 y c2,vS p3 y1 c3])]<|yY 0 [vS p2 y c2,vS p3 y1 c3] rfl<|zX rfl<|zK<|xA ?_;exact xO N (resC 0 rfl rfl) zP ⟨_,rfl,rfl,⟨_,rfl,(uJ ⟨_,_,rfl,h2,h3⟩)⟩⟩
def tR (list:(List zF)) (out:List zF) (t9:Int):Option (List zF):=do
 if (decide (t9<(list.length:Int))) then
  let x<-idx list t9;let y<-dL x;let ap<-app 48 out ([y]:List zF);tR list ap (W (t9+1))
 else pure (id out)
 partial_fixpoint
theorem zBp (list:(List zF)):∀ (out:List zF) (t9:Int) (o:List zF),tR list out t9=some o->∀ {B}{I0 I:Imm}{Q p c p1 c1 cs},I0.le I->(S4 I p list c)->(RL I cs out)->NG Q->NO Q->(∀ I' ah p2 c2 av,o=ah->I0.le I'->(RL I' av ah)->T 20 B Q (.exit 0) I' [hO zF (vS p2 ah c2) av] [(3,vS p2 ah c2)])->J Tryz.prog 20 B (nav (bodyOf f147) [1,1,0,1,0]) Q I [hO zF (vS p1 out c1) cs] [(3,vS p1 out c1),(7,vS p list c),(8,vI (list.length:Int)),(9,vI t9)]:=by
 refine tR.partial_correctness list _ fun aE ih out t9 o N B I0 I Q p c p1 c1 cs H h h2 hg ho hx=>yQ hg ho<|yH [10] rfl<|zZ<|yG N ?_ ?_
 · intro hc N;refine zS<|zZ<|yF<|yB<|bE N fun x hy N=>xR rfl rfl h hy ?_;intro ad aL al aj;obtain ⟨p3,c3,p4,c4,rfl,h4,h5⟩:=wY aj;refine xH 0 al (cLoop x p3 c3 p4 c4) (vA (cLoop x p3 c3 p4 c4)) rfl<|xU zTwo ?_;intro b1 hb1;refine yY 0 (cLoop x p3 c3 p4 c4) rfl<|zX rfl<|zK<|zM<|tL 2 [0] [(13,vS p1 out c1),(14,vA (cLoop x p3 c3 p4 c4))]<|bE N fun y ay N=>xE (zFY x _ ay h4 h5) ?_;rintro I0 aw v2 k2 le - ⟨v02,rfl,rfl,⟨aP,rfl,h6⟩⟩ -;have ⟨h,h2,H⟩:=m3 le h h2 H;obtain ⟨p5,c5,p6,c6,rfl,h7,h8⟩:=wY h6;refine uV (cLoop y p5 c5 p6 c6) zF ?_;intro b2 hb2;have h9:RL I0 (cLoop y p5 c5 p6 c6) ([y]:List zF):=⟨(cLoop y p5 c5 p6 c6),_,rfl,rfl,(uJ ⟨_,_,rfl,h7,h8⟩),rfl⟩;obtain ⟨ap,aG,N⟩:=zB N;exact rF 130 2 2 rfl rfl rfl h2 (.inr ⟨0,rfl⟩) h9 aG fun p7 c7 aI h10=>tX (zY [1,2] (af:=[hB b1 (cLoop x p3 c3 p4 c4),hO zF (vS p7 ap c7) aI]))<|yK [] [3] rfl<|zO<|zK<|zM<|yK [] [9] rfl<|yP<|pU (zW [1] rfl (by decide))<|oT<|ih ap (W (t9+1)) _ N H h h10 hg ho hx
 intro hc N;exact wP<|yU<|hx _ _ _ _ _ (zD N).symm H h2
def mI (list:(List zF)):Option ((List zF)):=do
 let ah<-tR list ([]:List zF) 0;pure (id ah)
theorem zDN:∀ list r,mI list=some r->∀ {I:Imm}{p c},(S4 I p list c)->RT 147 [vS p list c] I [] (zAq  r):=by
 intro list r N I p c h;unfold mI at N;refine yI func147 fun B=>wT []<|yW<|uV [] zF ?_;intro b hb;have h1:RL I [] ([]:List zF):=rfl;refine yK [] [3] rfl<|zZ<|yH [7,8,9] rfl<|wI<|qR [(3,vS (some ⟨b,0,none⟩) ([]:List zF) 0),(7,vS p list c),(8,vI (list.length:Int)),(9,vI 0)] ?_;obtain ⟨o0,az,aF⟩:=zB N;refine zBp list ([]:List zF) 0 o0 az iR h h1 nG nO ?_;intro aO ah p2 c2 av heq aa h3;subst o0;refine zR<|vW [2] rfl<|xF<|xB 0 rfl ?_;intro aV aA hl0;have h11:=SL.of_frozen hl0 aA h3;exact xO aF (resT rfl) zP ⟨_,rfl,rfl,h11⟩
def nY (x:zG):Option (zG):=do
 let y<-sP x.Subs;pure (zG.mk x.Array y)
theorem zBH:∀ x r,nY x=some r->∀ {I:Imm}{p c},(S4 I p x.Subs c)->RT 196 [vA (cAccess x p c)] I [] (zBQ  r):=by
 intro x r N I p c h;unfold nY at N;refine yI func196 fun B=>yB<|vJ (cAccess x p c) ?_;intro b hb;refine xU [vT ([]),z0] ?_;intro b1 hb1;refine zX rfl<|yW<|yE 2 [1] [4] rfl<|bE N fun y hy N=>xE (fK x.Subs _ hy h) ?_;rintro I0 aw v2 k2 le - ⟨v0,rfl,rfl,h1⟩ -;obtain ⟨p1,c1,rfl⟩:=h1.form;refine yE 4 [] [6] rfl<|yY 1 [vT x.Array.l,vS p1 y c1] rfl<|zX rfl<|yW<|tL 1 [1] [(7,vA [vT x.Array.l,vS p1 y c1])]<|yY 0 [vT x.Array.l,vS p1 y c1] rfl<|zX rfl<|zK<|xA ?_;exact xO N (resC 0 rfl rfl) zP ⟨_,rfl,rfl,⟨_,rfl,(rK ⟨_,rfl,h1⟩)⟩⟩
def zCY (r:(List zH)):KT:=fun kk I' af v=>
  ∃ v0,af=[]/\v=tupV [v0]/\SL I' v0 r
mutual
def mJ (list:(List zH)):Option ((List zH)):=do
 let ah<-rR (same list) ([]:List zH) (same 0);pure (id ah)
 partial_fixpoint
def rR (list:(List zH)) (out:List zH) (t9:Int):Option (List zH):=do
 if (decide (t9<(list.length:Int))) then
  let x<-idx list t9;let y<-nN (same x);let ap<-app 112 out ([y]:List zH);rR (same list) (same ap) (W (t9+1))
 else pure (id out)
 partial_fixpoint
def nN (x:zH):Option (zH):=do
 let y<-nX x.Index;let y1<-nY x.Read;let y2<-mJ x.Kids;pure (zH.mk x.Kind x.Num y y1 y2)
 partial_fixpoint
end
theorem zCr:(∀ (list:(List zH)) r,mJ list=some r->∀ {I:Imm}{p c},(S4 I p list c)->RT 210 [vS p list c] I [] (zCY  r))/\(∀ (list:(List zH)) (out:List zH) (t9:Int) o,rR list out t9=some o->∀ {B}{I0 I:Imm}{Q p c p1 c1 cs},I0.le I->(S4 I p list c)->(RL I cs out)->NG Q->NO Q->(∀ I' ah p2 c2 av,o=ah->I0.le I'->(RL I' av ah)->T 20 B Q (.exit 0) I' [hO zH (vS p2 ah c2) av] [(3,vS p2 ah c2)])->J Tryz.prog 20 B (nav (bodyOf f210) [1,1,0,1,0]) Q I [hO zH (vS p1 out c1) cs] [(3,vS p1 out c1),(7,vS p list c),(8,vI (list.length:Int)),(9,vI t9)])/\(∀ (x:zH) r,nN x=some r->∀ {I:Imm}{p c p1 c1 p2 c2},(S4 I p x.Index.Coefs c)->(S4 I p1 x.Read.Subs c1)->(S4 I p2 x.Kids c2)->RT 197 [vA (cExpr x p c p1 c1 p2 c2)] I [] (dJ  r)):=by
  refine mJ.mutual_partial_correctness _ _ _ ?_ ?_ ?_
  · intro F_spec_l16OwnListExpr_l1 ih_spec_l16OwnListExpr_l1 list r N I p c h;refine yI func210 fun B=>wT []<|yW<|uV [] zH ?_;intro b hb;have h1:RL I [] ([]:List zH):=rfl;refine yK [] [3] rfl<|zZ<|yH [7,8,9] rfl<|wI<|qR [(3,vS (some ⟨b,0,none⟩) ([]:List zH) 0),(7,vS p list c),(8,vI (list.length:Int)),(9,vI 0)] ?_;obtain ⟨o0,az,aF⟩:=zB N;refine ih_spec_l16OwnListExpr_l1 list ([]:List zH) 0 o0 az iR h h1 nG nO ?_;intro aO ah p2 c2 av heq aa h3;subst o0;refine zR<|vW [2] rfl<|xF<|xB 0 rfl ?_;intro aV aA hl0;have h13:=SL.of_frozen hl0 aA h3;exact xO aF (resT rfl) zP ⟨_,rfl,rfl,h13⟩
  · intro F_spec_l16OwnListExpr_l1 F_spec_l16OwnExpr ih_spec_l16OwnListExpr_l1 ih_spec_l16OwnExpr list out t9 o N B I0 I Q p c p1 c1 cs H h h2 hg ho hx;refine yQ hg ho<|yH [10] rfl<|zZ<|yG N ?_ ?_
    · intro hc N;refine zS<|zZ<|yF<|yB<|bE N fun x hy N=>xR rfl rfl h hy ?_;intro ad aL al aj;obtain ⟨p3,c3,p4,c4,p5,c5,rfl,h4,h5,h6⟩:=wQ aj;refine xH 0 al (cExpr x p3 c3 p4 c4 p5 c5) (vA (cExpr x p3 c3 p4 c4 p5 c5)) rfl<|xU zExpr ?_;intro b1 hb1;refine yY 0 (cExpr x p3 c3 p4 c4 p5 c5) rfl<|zX rfl<|zK<|zM<|tL 2 [0] [(13,vS p1 out c1),(14,vA (cExpr x p3 c3 p4 c4 p5 c5))]<|bE N fun y ay N=>xE (ih_spec_l16OwnExpr x _ ay h4 h5 h6) ?_;rintro I0 aw v2 k2 le - ⟨v03,rfl,rfl,⟨aP,rfl,h7⟩⟩ -;have ⟨h,h2,H⟩:=m3 le h h2 H;obtain ⟨p6,c6,p7,c7,p8,c8,rfl,h8,h9,h10⟩:=wQ h7;refine uV (cExpr y p6 c6 p7 c7 p8 c8) zH ?_;intro b2 hb2;have h11:RL I0 (cExpr y p6 c6 p7 c7 p8 c8) ([y]:List zH):=⟨(cExpr y p6 c6 p7 c7 p8 c8),_,rfl,rfl,(wB ⟨_,_,_,rfl,h8,h9,h10⟩),rfl⟩;obtain ⟨ap,aG,N⟩:=zB N;exact rF 72 7 2 rfl rfl rfl h2 (.inr ⟨0,rfl⟩) h11 aG fun p9 c9 aI h12=>tX (zY [1,2] (af:=[hB b1 (cExpr x p3 c3 p4 c4 p5 c5),hO zH (vS p9 ap c9) aI]))<|yK [] [3] rfl<|zO<|zK<|zM<|yK [] [9] rfl<|yP<|pU (zW [1] rfl (by decide))<|oT<|ih_spec_l16OwnListExpr_l1 list ap (W (t9+1)) _ N H h h12 hg ho hx
    intro hc N;exact wP<|yU<|hx _ _ _ _ _ (zD N).symm H h2
  intro F_spec_l16OwnListExpr ih_spec_l16OwnListExpr x r N I p c p1 c1 p2 c2 h h1 h2;refine yI func197 fun B=>yB<|vJ (cExpr x p c p1 c1 p2 c2) ?_;intro b hb;refine xU zExpr ?_;intro b1 hb1;refine zX rfl<|yW<|tL 2 [1] [(4,vA (cAff x.Index p c))]<|bE N fun y hy N=>xE (zBG x.Index _ hy h) ?_;rintro I0 aw v2 k2 le - ⟨v0,rfl,rfl,⟨cs,rfl,h3⟩⟩ -;have ⟨h1,h2⟩:=m2 le h1 h2;obtain ⟨p3,c3,rfl,h4⟩:=yD h3;refine yE 4 [] [6] rfl<|yY 1 [vI x.Kind,vI x.Num,vS p3 y.Coefs c3,vI y.Const,vT x.Read.Array.l,vS p1 x.Read.Subs c1,vS p2 x.Kids c2] rfl<|zX rfl<|yW<|tL 2 [1] [(8,vA (cAccess x.Read p1 c1))]<|bE N fun y1 ay N=>xE (zBH x.Read _ ay h1) ?_;rintro aO aw v2 k2 aa - ⟨v02,rfl,rfl,⟨av,rfl,h5⟩⟩ -;have ⟨h4,h2⟩:=m2 aa h4 h2;obtain ⟨p4,c4,rfl,h6⟩:=uK h5;refine yE 4 [] [10] rfl<|yY 1 [vI x.Kind,vI x.Num,vS p3 y.Coefs c3,vI y.Const,vT y1.Array.l,vS p4 y1.Subs c4,vS p2 x.Kids c2] rfl<|zX rfl<|yW<|yE 2 [1] [12] rfl<|bE N fun y2 aG N=>xE (ih_spec_l16OwnListExpr x.Kids _ aG h2) ?_;rintro aV aw v2 k2 aA - ⟨v04,rfl,rfl,h7⟩ -;have ⟨h4,h6⟩:=m2 aA h4 h6;obtain ⟨p5,c5,rfl⟩:=h7.form;refine yE 4 [] [14] rfl<|yY 1 [vI x.Kind,vI x.Num,vS p3 y.Coefs c3,vI y.Const,vT y1.Array.l,vS p4 y1.Subs c4,vS p5 y2 c5] rfl<|zX rfl<|yW<|tL 1 [1] [(15,vA [vI x.Kind,vI x.Num,vS p3 y.Coefs c3,vI y.Const,vT y1.Array.l,vS p4 y1.Subs c4,vS p5 y2 c5])]<|yY 0 [vI x.Kind,vI x.Num,vS p3 y.Coefs c3,vI y.Const,vT y1.Array.l,vS p4 y1.Subs c4,vS p5 y2 c5] rfl<|zX rfl<|zK<|xA ?_;exact xO N (resC 0 rfl rfl) zP ⟨_,rfl,rfl,⟨_,rfl,(wB ⟨_,_,_,rfl,h4,h6,h7⟩)⟩⟩
theorem zFZ:∀ x r,nN x=some r->∀ {I:Imm}{p c p1 c1 p2 c2},(S4 I p x.Index.Coefs c)->(S4 I p1 x.Read.Subs c1)->(S4 I p2 x.Kids c2)->RT 197 [vA (cExpr x p c p1 c1 p2 c2)] I [] (dJ  r):=zCr.2.2
def gV (x:zL):Option (zL):=do
 let y<-nY x.Write;let y1<-nN x.Value;pure (zL.mk y y1)
theorem zF0:∀ x r,gV x=some r->∀ {I:Imm}{p c p1 c1 p2 c2 p3 c3},(S4 I p x.Write.Subs c)->(S4 I p1 x.Value.Index.Coefs c1)->(S4 I p2 x.Value.Read.Subs c2)->(S4 I p3 x.Value.Kids c3)->RT 179 [vA (cStmt x p c p1 c1 p2 c2 p3 c3)] I [] (dK  r):=by
 intro x r N I p c p1 c1 p2 c2 p3 c3 h h1 h2 h3;unfold gV at N;refine yI func179 fun B=>yB<|vJ (cStmt x p c p1 c1 p2 c2 p3 c3) ?_;intro b hb;refine xU [vT ([]),z0,vI 0,vI 0,z0,vI 0,vT ([]),z0,z0] ?_;intro b1 hb1;refine zX rfl<|yW<|tL 2 [1] [(4,vA (cAccess x.Write p c))]<|bE N fun y hy N=>xE (zBH x.Write _ hy h) ?_;rintro I0 aw v2 k2 le - ⟨v0,rfl,rfl,⟨cs,rfl,h4⟩⟩ -;have ⟨h1,h2,h3⟩:=m3 le h1 h2 h3;obtain ⟨p4,c4,rfl,h5⟩:=uK h4;refine yE 4 [] [6] rfl<|yY 1 [vT y.Array.l,vS p4 y.Subs c4,vI x.Value.Kind,vI x.Value.Num,vS p1 x.Value.Index.Coefs c1,vI x.Value.Index.Const,vT x.Value.Read.Array.l,vS p2 x.Value.Read.Subs c2,vS p3 x.Value.Kids c3] rfl<|zX rfl<|yW<|tL 2 [1] [(8,vA (cExpr x.Value p1 c1 p2 c2 p3 c3))]<|bE N fun y1 ay N=>xE (zFZ x.Value _ ay h1 h2 h3) ?_;rintro aO aw v2 k2 aa - ⟨v02,rfl,rfl,⟨av,rfl,h6⟩⟩ -;have h5:=h5.mono aa;obtain ⟨p5,c5,p6,c6,p7,c7,rfl,h7,h8,h9⟩:=wQ h6;refine yE 4 [] [10] rfl<|yY 1 [vT y.Array.l,vS p4 y.Subs c4,vI y1.Kind,vI y1.Num,vS p5 y1.Index.Coefs c5,vI y1.Index.Const,vT y1.Read.Array.l,vS p6 y1.Read.Subs c6,vS p7 y1.Kids c7] rfl<|zX rfl<|yW<|tL 1 [1] [(11,vA [vT y.Array.l,vS p4 y.Subs c4,vI y1.Kind,vI y1.Num,vS p5 y1.Index.Coefs c5,vI y1.Index.Const,vT y1.Read.Array.l,vS p6 y1.Read.Subs c6,vS p7 y1.Kids c7])]<|yY 0 [vT y.Array.l,vS p4 y.Subs c4,vI y1.Kind,vI y1.Num,vS p5 y1.Index.Coefs c5,vI y1.Index.Const,vT y1.Read.Array.l,vS p6 y1.Read.Subs c6,vS p7 y1.Kids c7] rfl<|zX rfl<|zK<|xA ?_;exact xO N (resC 0 rfl rfl) zP ⟨_,rfl,rfl,⟨_,rfl,(wC ⟨_,_,_,_,rfl,h5,h7,h8,h9⟩)⟩⟩
def zCZ (r:(List zL)):KT:=fun kk I' af v=>
  ∃ v0,af=[]/\v=tupV [v0]/\SL I' v0 r
def tS (list:(List zL)) (out:List zL) (t9:Int):Option (List zL):=do
 if (decide (t9<(list.length:Int))) then
  let x<-idx list t9;let y<-gV x;let ap<-app 152 out ([y]:List zL);tS list ap (W (t9+1))
 else pure (id out)
 partial_fixpoint
theorem zBq (list:(List zL)):∀ (out:List zL) (t9:Int) (o:List zL),tS list out t9=some o->∀ {B}{I0 I:Imm}{Q p c p1 c1 cs},I0.le I->(S4 I p list c)->(RL I cs out)->NG Q->NO Q->(∀ I' ah p2 c2 av,o=ah->I0.le I'->(RL I' av ah)->T 20 B Q (.exit 0) I' [hO zL (vS p2 ah c2) av] [(3,vS p2 ah c2)])->J Tryz.prog 20 B (nav (bodyOf f148) [1,1,0,1,0]) Q I [hO zL (vS p1 out c1) cs] [(3,vS p1 out c1),(7,vS p list c),(8,vI (list.length:Int)),(9,vI t9)]:=by
 refine tS.partial_correctness list _ fun aE ih out t9 o N B I0 I Q p c p1 c1 cs H h h2 hg ho hx=>yQ hg ho<|yH [10] rfl<|zZ<|yG N ?_ ?_
 · intro hc N;refine zS<|zZ<|yF<|yB<|bE N fun x hy N=>xR rfl rfl h hy ?_;intro ad aL al aj;obtain ⟨p3,c3,p4,c4,p5,c5,p6,c6,rfl,h4,h5,h6,h7⟩:=wV aj;refine xH 0 al (cStmt x p3 c3 p4 c4 p5 c5 p6 c6) (vA (cStmt x p3 c3 p4 c4 p5 c5 p6 c6)) rfl<|xU [vT ([]),z0,vI 0,vI 0,z0,vI 0,vT ([]),z0,z0] ?_;intro b1 hb1;refine yY 0 (cStmt x p3 c3 p4 c4 p5 c5 p6 c6) rfl<|zX rfl<|zK<|zM<|tL 2 [0] [(13,vS p1 out c1),(14,vA (cStmt x p3 c3 p4 c4 p5 c5 p6 c6))]<|bE N fun y ay N=>xE (zF0 x _ ay h4 h5 h6 h7) ?_;rintro I0 aw v2 k2 le - ⟨v04,rfl,rfl,⟨aP,rfl,h8⟩⟩ -;have ⟨h,h2,H⟩:=m3 le h h2 H;obtain ⟨p7,c7,p8,c8,p9,c9,aQ,aM,rfl,h9,h10,h11,h12⟩:=wV h8;refine uV (cStmt y p7 c7 p8 c8 p9 c9 aQ aM) zL ?_;intro b2 hb2;have h13:RL I0 (cStmt y p7 c7 p8 c8 p9 c9 aQ aM) ([y]:List zL):=⟨(cStmt y p7 c7 p8 c8 p9 c9 aQ aM),_,rfl,rfl,(wC ⟨_,_,_,_,rfl,h9,h10,h11,h12⟩),rfl⟩;obtain ⟨ap,aG,N⟩:=zB N;exact rF 74 9 2 rfl rfl rfl h2 (.inr ⟨0,rfl⟩) h13 aG fun aJ aW aI h14=>tX (zY [1,2] (af:=[hB b1 (cStmt x p3 c3 p4 c4 p5 c5 p6 c6),hO zL (vS aJ ap aW) aI]))<|yK [] [3] rfl<|zO<|zK<|zM<|yK [] [9] rfl<|yP<|pU (zW [1] rfl (by decide))<|oT<|ih ap (W (t9+1)) _ N H h h14 hg ho hx
 intro hc N;exact wP<|yU<|hx _ _ _ _ _ (zD N).symm H h2
def gA (list:(List zL)):Option ((List zL)):=do
 let ah<-tS list ([]:List zL) 0;pure (id ah)
theorem zDO:∀ list r,gA list=some r->∀ {I:Imm}{p c},(S4 I p list c)->RT 148 [vS p list c] I [] (zCZ  r):=by
 intro list r N I p c h;unfold gA at N;refine yI func148 fun B=>wT []<|yW<|uV [] zL ?_;intro b hb;have h1:RL I [] ([]:List zL):=rfl;refine yK [] [3] rfl<|zZ<|yH [7,8,9] rfl<|wI<|qR [(3,vS (some ⟨b,0,none⟩) ([]:List zL) 0),(7,vS p list c),(8,vI (list.length:Int)),(9,vI 0)] ?_;obtain ⟨o0,az,aF⟩:=zB N;refine zBq list ([]:List zL) 0 o0 az iR h h1 nG nO ?_;intro aO ah p2 c2 av heq aa h3;subst o0;refine zR<|vW [2] rfl<|xF<|xB 0 rfl ?_;intro aV aA hl0;have h15:=SL.of_frozen hl0 aA h3;exact xO aF (resT rfl) zP ⟨_,rfl,rfl,h15⟩
def gW (x:zI):Option (zI):=do
 let y<-mI x.Nest;let y1<-gA x.Body;pure (zI.mk y y1)
theorem zF1:∀ x r,gW x=some r->∀ {I:Imm}{p c p1 c1},(S4 I p x.Nest c)->(S4 I p1 x.Body c1)->RT 108 [vA (cPart x p c p1 c1)] I [] (zCM  r):=by
 intro x r N I p c p1 c1 h h1;unfold gW at N;refine yI func108 fun B=>yB<|vJ (cPart x p c p1 c1) ?_;intro b hb;refine xU zTwo ?_;intro b1 hb1;refine zX rfl<|yW<|yE 2 [1] [4] rfl<|bE N fun y hy N=>xE (zDN x.Nest _ hy h) ?_;rintro I0 aw v2 k2 le - ⟨v0,rfl,rfl,h2⟩ -;have h1:=h1.mono le;obtain ⟨p2,c2,rfl⟩:=h2.form;refine yE 4 [] [6] rfl<|yY 1 [vS p2 y c2,vS p1 x.Body c1] rfl<|zX rfl<|yW<|yE 2 [1] [8] rfl<|bE N fun y1 ay N=>xE (zDO x.Body _ ay h1) ?_;rintro aO aw v2 k2 aa - ⟨v01,rfl,rfl,h3⟩ -;have h2:=h2.mono aa;obtain ⟨p3,c3,rfl⟩:=h3.form;refine yE 4 [] [10] rfl<|yY 1 [vS p2 y c2,vS p3 y1 c3] rfl<|zX rfl<|yW<|tL 1 [1] [(11,vA [vS p2 y c2,vS p3 y1 c3])]<|yY 0 [vS p2 y c2,vS p3 y1 c3] rfl<|zX rfl<|zK<|xA ?_;exact xO N (resC 0 rfl rfl) zP ⟨_,rfl,rfl,⟨_,rfl,(uL ⟨_,_,rfl,h2,h3⟩)⟩⟩
def zC0 (r:(List zI)):KT:=fun kk I' af v=>
  ∃ v0,af=[]/\v=tupV [v0]/\SL I' v0 r
def tT (list:(List zI)) (out:List zI) (t9:Int):Option (List zI):=do
 if (decide (t9<(list.length:Int))) then
  let x<-idx list t9;let y<-gW x;let ap<-app 48 out ([y]:List zI);tT list ap (W (t9+1))
 else pure (id out)
 partial_fixpoint
theorem zBr (list:(List zI)):∀ (out:List zI) (t9:Int) (o:List zI),tT list out t9=some o->∀ {B}{I0 I:Imm}{Q p c p1 c1 cs},I0.le I->(S4 I p list c)->(RL I cs out)->NG Q->NO Q->(∀ I' ah p2 c2 av,o=ah->I0.le I'->(RL I' av ah)->T 20 B Q (.exit 0) I' [hO zI (vS p2 ah c2) av] [(3,vS p2 ah c2)])->J Tryz.prog 20 B (nav (bodyOf f67) [1,1,0,1,0]) Q I [hO zI (vS p1 out c1) cs] [(3,vS p1 out c1),(7,vS p list c),(8,vI (list.length:Int)),(9,vI t9)]:=by
 refine tT.partial_correctness list _ fun aE ih out t9 o N B I0 I Q p c p1 c1 cs H h h2 hg ho hx=>yQ hg ho<|yH [10] rfl<|zZ<|yG N ?_ ?_
 · intro hc N;refine zS<|zZ<|yF<|yB<|bE N fun x hy N=>xR rfl rfl h hy ?_;intro ad aL al aj;obtain ⟨p3,c3,p4,c4,rfl,h4,h5⟩:=wJ aj;refine xH 0 al (cPart x p3 c3 p4 c4) (vA (cPart x p3 c3 p4 c4)) rfl<|xU zTwo ?_;intro b1 hb1;refine yY 0 (cPart x p3 c3 p4 c4) rfl<|zX rfl<|zK<|zM<|tL 2 [0] [(13,vS p1 out c1),(14,vA (cPart x p3 c3 p4 c4))]<|bE N fun y ay N=>xE (zF1 x _ ay h4 h5) ?_;rintro I0 aw v2 k2 le - ⟨v02,rfl,rfl,⟨aP,rfl,h6⟩⟩ -;have ⟨h,h2,H⟩:=m3 le h h2 H;obtain ⟨p5,c5,p6,c6,rfl,h7,h8⟩:=wJ h6;refine uV (cPart y p5 c5 p6 c6) zI ?_;intro b2 hb2;have h9:RL I0 (cPart y p5 c5 p6 c6) ([y]:List zI):=⟨(cPart y p5 c5 p6 c6),_,rfl,rfl,(uL ⟨_,_,rfl,h7,h8⟩),rfl⟩;obtain ⟨ap,aG,N⟩:=zB N;exact rF 85 2 2 rfl rfl rfl h2 (.inr ⟨0,rfl⟩) h9 aG fun p7 c7 aI h10=>tX (zY [1,2] (af:=[hB b1 (cPart x p3 c3 p4 c4),hO zI (vS p7 ap c7) aI]))<|yK [] [3] rfl<|zO<|zK<|zM<|yK [] [9] rfl<|yP<|pU (zW [1] rfl (by decide))<|oT<|ih ap (W (t9+1)) _ N H h h10 hg ho hx
 intro hc N;exact wP<|yU<|hx _ _ _ _ _ (zD N).symm H h2
def gB (list:(List zI)):Option ((List zI)):=do
 let ah<-tT list ([]:List zI) 0;pure (id ah)
theorem zDP:∀ list r,gB list=some r->∀ {I:Imm}{p c},(S4 I p list c)->RT 67 [vS p list c] I [] (zC0  r):=by
 intro list r N I p c h;unfold gB at N;refine yI func67 fun B=>wT []<|yW<|uV [] zI ?_;intro b hb;have h1:RL I [] ([]:List zI):=rfl;refine yK [] [3] rfl<|zZ<|yH [7,8,9] rfl<|wI<|qR [(3,vS (some ⟨b,0,none⟩) ([]:List zI) 0),(7,vS p list c),(8,vI (list.length:Int)),(9,vI 0)] ?_;obtain ⟨o0,az,aF⟩:=zB N;refine zBr list ([]:List zI) 0 o0 az iR h h1 nG nO ?_;intro aO ah p2 c2 av heq aa h3;subst o0;refine zR<|vW [2] rfl<|xF<|xB 0 rfl ?_;intro aV aA hl0;have h11:=SL.of_frozen hl0 aA h3;exact xO aF (resT rfl) zP ⟨_,rfl,rfl,h11⟩
def kU (x:zC):Option (zC):=do
 let y<-jJ x.Arrays;let y1<-gB x.Parts;pure (zC.mk y y1)
theorem zDh:∀ x r,kU x=some r->∀ {I:Imm}{p c p1 c1},(S4 I p x.Arrays c)->(S4 I p1 x.Parts c1)->RT 32 [vA (cProg x p c p1 c1)] I [] (zDg  r):=by
 intro x r N I p c p1 c1 h h1;unfold kU at N;refine yI func32 fun B=>yB<|vJ (cProg x p c p1 c1) ?_;intro b hb;refine xU zTwo ?_;intro b1 hb1;refine zX rfl<|yW<|yE 2 [1] [4] rfl<|bE N fun y hy N=>xE (zCq x.Arrays _ hy h) ?_;rintro I0 aw v2 k2 le - ⟨v0,rfl,rfl,h2⟩ -;have h1:=h1.mono le;obtain ⟨p2,c2,rfl⟩:=h2.form;refine yE 4 [] [6] rfl<|yY 1 [vS p2 y c2,vS p1 x.Parts c1] rfl<|zX rfl<|yW<|yE 2 [1] [8] rfl<|bE N fun y1 ay N=>xE (zDP x.Parts _ ay h1) ?_;rintro aO aw v2 k2 aa - ⟨v01,rfl,rfl,h3⟩ -;have h2:=h2.mono aa;obtain ⟨p3,c3,rfl⟩:=h3.form;refine yE 4 [] [10] rfl<|yY 1 [vS p2 y c2,vS p3 y1 c3] rfl<|zX rfl<|yW<|tL 1 [1] [(11,vA [vS p2 y c2,vS p3 y1 c3])]<|yY 0 [vS p2 y c2,vS p3 y1 c3] rfl<|zX rfl<|zK<|xA ?_;exact xO N (resC 0 rfl rfl) zP ⟨_,rfl,rfl,⟨_,rfl,(xY ⟨_,_,rfl,h2,h3⟩)⟩⟩
def zAn (r:(List zN)):KT:=fun kk I' af v=>
  ∃ v0,af=[]/\v=tupV [v0]/\SL I' v0 r
def vQ (p:zC) (i:Int) (y:(List (List Int))) (k0:Int) (bw:List zN) (s:Int):Option (List zN):=do
 let x1<-idx p.Parts i;if (decide (s<(x1.Body.length:Int))) then
  let x2<-idx y k0;let l<-app 8 ([]:List Int) x2;let out6<-app 40 bw ([(zN.mk i s l)]:List zN);vQ p i y k0 out6 (W (s+1))
 else pure (id bw)
 partial_fixpoint
theorem zDQ (p:zC) (i:Int) (y:(List (List Int))) (k0:Int):∀ (bw:List zN) (s:Int) (o:List zN),vQ p i y k0 bw s=some o->∀ {B}{I0 I:Imm}{Q p1 c p2 c1}{b}{p7 c6 aP aQ c9 bv},I0.le I->(RL I aP y)->(S4 I p1 p.Arrays c)->(S4 I p2 p.Parts c1)->(RL I bv bw)->NG Q->NO Q->(∀ I' out5 aJ aM cs6,o=out5->I0.le I'->(RL I' cs6 out5)->T 54 B Q (.exit 4) I' [hO (List Int) (vS p7 y c6) aP,hO zN (vS aJ out5 aM) cs6,hB b (cProg p p1 c p2 c1)] [(1,vP b 0),(3,vS aJ out5 aM),(4,vI i),(5,vS p7 y c6),(6,vI k0)])->J Tryz.prog 54 B (nav (bodyOf f72) [1,1,0,1,0,0,1,0,0,1,1,0,0,1,0,0,1,0]) Q I [hO (List Int) (vS p7 y c6) aP,hO zN (vS aQ bw c9) bv,hB b (cProg p p1 c p2 c1)] [(1,vP b 0),(3,vS aQ bw c9),(4,vI i),(5,vS p7 y c6),(6,vI k0),(7,vI s)]:=by
 refine vQ.partial_correctness p i y k0 _ fun aE ih bw s o N B I0 I Q p1 c p2 c1 b p7 c6 aP aQ c9 bv H h8 h h1 h11 hg ho hx=>yQ hg ho<|yA<|yB<|yE 4 [2] [30,32,33] rfl<|bE N fun x1 aG N=>xR rfl rfl h1 aG ?_;intro ad1 bm au ax;obtain ⟨br,aW,bh,bd,rfl,h13,h14⟩:=wJ ax;refine yE 6 [] [35] rfl<|xH 1 au [vS bh x1.Body bd] (vS bh x1.Body bd) rfl<|yK [] [38] rfl<|zK<|yG N ?_ ?_
 · intro aY N;refine zS<|zZ<|yF<|zM<|yE 3 [] [41,42,43] rfl<|uV [] Int ?_;intro b3 hb3;have h15:RL I [] ([]:List Int):=rfl;refine yE 6 [] [45,46] rfl<|bE N fun x2 bc N=>mA 1 rfl rfl rfl h8 bc ?_;intro ad2 bK bk bG bq;obtain ⟨v04,rfl,h16⟩:=bq;obtain ⟨p14,bj,rfl⟩:=h16.form;refine zCR 1 0 bk bG [vS p14 x2 bj] (vS p14 x2 bj) rfl rfl ?_;obtain ⟨ccs3,k01,k02⟩:=h16;have h16:SL I (vS p14 x2 bj) x2:=⟨_,k01,k02⟩;obtain ⟨l,bu,N⟩:=zB N;refine rF 3 1 0 rfl rfl rfl h15 (.inl k01) k02 bu fun p15 c14 cs7 h17=>tX (zY [0,1,2,3] (af:=[hO Int (vS p15 l c14) cs7,hO (List Int) (vS p7 y c6) aP,hO zN (vS aQ bw c9) bv,hB b (cProg p p1 c p2 c1)]))<|yE 10 [] [50] rfl<|xX 0 rfl ?_;intro aO aa hl0;have h18:=SL.of_frozen hl0 aa h17;have ⟨h8,h11,h,h1,H⟩:=m5 aa h8 h11 h h1 H;refine uV [vI i,vI s,vS p15 l c14] zN ?_;intro b4 hb4;have h19:RL aO [vI i,vI s,vS p15 l c14] ([(zN.mk i s l)]:List zN):=⟨[vI i,vI s,vS p15 l c14],_,rfl,rfl,(zB4 ⟨_,rfl,h18⟩),rfl⟩;obtain ⟨out6,bz,N⟩:=zB N;exact rF 64 3 2 rfl rfl rfl h11 (.inr ⟨0,rfl⟩) h19 bz fun p16 c15 cs8 h20=>tX (zY [1,2,3] (af:=[hO (List Int) (vS p7 y c6) aP,hO zN (vS p16 out6 c15) cs8,hB b (cProg p p1 c p2 c1)]))<|yK [] [3] rfl<|zO<|zK<|zM<|yK [] [7] rfl<|yP<|oT<|ih out6 (W (s+1)) _ N H h8 h h1 h20 hg ho hx
 intro aY N;exact wP<|yU<|hx _ _ _ _ _ (zD N).symm H h11
def vR (p:zC) (i:Int) (y:(List (List Int))) (ap:List zN) (k0:Int):Option (List zN):=do
 if (decide (k0<(y.length:Int))) then
  let out5<-vQ p i y k0 ap 0;vR p i y out5 (W (k0+1))
 else pure (id ap)
 partial_fixpoint
theorem zDR (p:zC) (i:Int) (y:(List (List Int))):∀ (ap:List zN) (k0:Int) (o:List zN),vR p i y ap k0=some o->∀ {B}{I0 I:Imm}{Q p1 c p2 c1}{b}{p7 c6 aP p8 c7 aI},I0.le I->(RL I aP y)->(S4 I p1 p.Arrays c)->(S4 I p2 p.Parts c1)->(RL I aI ap)->NG Q->NO Q->(∀ I' bb p9 c8 bo,o=bb->I0.le I'->(RL I' bo bb)->T 54 B Q (.exit 2) I' [hO zN (vS p9 bb c8) bo,hB b (cProg p p1 c p2 c1)] [(1,vP b 0),(3,vS p9 bb c8),(4,vI i)])->J Tryz.prog 54 B (nav (bodyOf f72) [1,1,0,1,0,0,1,0,0,1,1,0]) Q I [hO (List Int) (vS p7 y c6) aP,hO zN (vS p8 ap c7) aI,hB b (cProg p p1 c p2 c1)] [(1,vP b 0),(3,vS p8 ap c7),(4,vI i),(5,vS p7 y c6),(6,vI k0)]:=by
 refine vR.partial_correctness p i y _ fun aE ih ap k0 o N B I0 I Q p1 c p2 c1 b p7 c6 aP p8 c7 aI H h8 h h1 h9 hg ho hx=>yQ hg ho<|yA<|yH [27] rfl<|zK<|yG N ?_ ?_
 · intro aH N;refine zS<|zZ<|yF<|yH [7] rfl<|wI<|qR [(1,vP b 0),(3,vS p8 ap c7),(4,vI i),(5,vS p7 y c6),(6,vI k0),(7,vI 0)] ?_;obtain ⟨o0,az,aF⟩:=zB N;refine zDQ p i y k0 ap 0 o0 az iR h8 h h1 h9 (fun _ _ _ h=>hg _ _ _ h) (fun _ _ h=>ho _ _ h) ?_;intro aV out5 aJ aM cs6 heq aA h12;subst o0;have ⟨h8,h,h1,H⟩:=m4 aA h8 h h1 H;exact zR<|zO<|zK<|zM<|yK [] [6] rfl<|yP<|oT<|ih out5 (W (k0+1)) _ aF H h8 h h1 h12 hg ho hx
 intro aH N;exact wP<|wF (zW [1,2] rfl (by decide))<|yU<|hx _ _ _ _ _ (zD N).symm H h9
def vU (p:zC) (out:List zN) (i:Int):Option (List zN):=do
 if (decide (i<(p.Parts.length:Int))) then
  let x<-idx p.Parts i;let y<-tB ([]:List (List Int)) x.Nest ([]:List Int);let bb<-vR p i y out 0;vU p bb (W (i+1))
 else pure (id out)
 partial_fixpoint
theorem zDS (p:zC):∀ (out:List zN) (i:Int) (o:List zN),vU p out i=some o->∀ {B}{I0 I:Imm}{Q p1 c p2 c1}{b}{p3 c2 cs},I0.le I->(S4 I p1 p.Arrays c)->(S4 I p2 p.Parts c1)->(RL I cs out)->NG Q->NO Q->(∀ I' ah p4 c3 av,o=ah->I0.le I'->(RL I' av ah)->T 54 B Q (.exit 0) I' [hO zN (vS p4 ah c3) av] [(3,vS p4 ah c3)])->J Tryz.prog 54 B (nav (bodyOf f72) [1,1,0,1,0]) Q I [hO zN (vS p3 out c2) cs,hB b (cProg p p1 c p2 c1)] [(1,vP b 0),(3,vS p3 out c2),(4,vI i)]:=by
 refine vU.partial_correctness p _ fun aE ih out i o N B I0 I Q p1 c p2 c1 b p3 c2 cs H h h1 h3 hg ho hx=>yQ hg ho<|yA<|yB<|yK [1] [13] rfl<|zK<|yG N ?_ ?_
 · intro hc N;refine zS<|zZ<|yF<|yB<|uV [] (List Int) ?_;intro b2 hb2;have h5:RL I [] ([]:List (List Int)):=rfl;refine yE 4 [2] [18,19] rfl<|bE N fun x hy N=>xR rfl rfl h1 hy ?_;intro ad aL al aj;obtain ⟨p5,c4,p6,c5,rfl,h6,h7⟩:=wJ aj;refine yE 6 [] [21] rfl<|xH 0 al [vS p5 x.Nest c4] (vS p5 x.Nest c4) rfl<|bE N fun y ay N=>rW (zCd ([]:List (List Int)) x.Nest ([]:List Int) _ ay h5 h6 (SL.nil _)) rfl ?_;rintro I0 aw v2 k2 le - ⟨p7,c6,aP,rfl,rfl,h8⟩ -;have ⟨h3,h,h1,H⟩:=m4 le h3 h h1 H;refine yK [] [5] rfl<|vW [6] rfl<|wI<|qR [(1,vP b 0),(3,vS p3 out c2),(4,vI i),(5,vS p7 y c6),(6,vI 0)] ?_;obtain ⟨aN,aC,hMl1⟩:=zB N;refine zDR p i y out 0 aN aC iR h8 h h1 h3 (fun _ _ _ h=>hg _ _ _ h) (fun _ _ h=>ho _ _ h) ?_;intro bx bb p9 c8 bo heq1 aK h10;subst aN;have ⟨h,h1,H⟩:=m3 aK h h1 H;exact zR<|zO<|zK<|zM<|yK [] [4] rfl<|yP<|oT<|ih bb (W (i+1)) _ hMl1 H h h1 h10 hg ho hx
 intro hc N;exact wP<|wF (zW [0] rfl (by decide))<|yU<|hx _ _ _ _ _ (zD N).symm H h3
def oJ (p:zC):Option ((List zN)):=do
 let ah<-vU p ([]:List zN) 0;pure (id ah)
theorem zEg:∀ p r,oJ p=some r->∀ {I:Imm}{p1 c p2 c1},(S4 I p1 p.Arrays c)->(S4 I p2 p.Parts c1)->RT 72 [vA (cProg p p1 c p2 c1)] I [] (zAn  r):=by
 intro p r N I p1 c p2 c1 h h1;unfold oJ at N;refine yI func72 fun B=>yB<|vJ (cProg p p1 c p2 c1) ?_;intro b hb;refine wR [] []<|yW<|uV [] zN ?_;intro b1 hb1;have h2:RL I [] ([]:List zN):=rfl;refine yK [] [3] rfl<|zZ<|yH [4] rfl<|wI<|qR [(1,vP b 0),(3,vS (some ⟨b1,0,none⟩) ([]:List zN) 0),(4,vI 0)] ?_;obtain ⟨o02,ho02,hMl2⟩:=zB N;refine zDS p ([]:List zN) 0 o02 ho02 iR h h1 h2 nG nO ?_;intro bD ah p4 c3 av heq2 aX h4;subst o02;refine zR<|vW [2] rfl<|xF<|xB 0 rfl ?_;intro bI bf hl01;have h21:=SL.of_frozen hl01 bf h4;exact xO hMl2 (resT rfl) zP ⟨_,rfl,rfl,h21⟩
def zCN (r:(List Int)):KT:=fun kk I' af v=>
  ∃ v0,af=[]/\v=tupV [v0]/\SL I' v0 r
def qG (name:Str) (dims:Int) (y:(List zN)) (i:Int) (all:List zG) (k02:Int) (out5:List Int) (d0:Int):Option (List Int):=do
 let t67<-(do
   if (decide (d0<dims)) then
    let x4<-idx all k02;pure (x4.Array.l==name.l)
   else
    pure false
     : Option Bool)
 if t67 then
  let x5<-idx all k02;let x6<-idx x5.Subs d0;let x7<-idx y i;let y2<-qP x6 x7.Point;let x8<-idx out5 d0;let out7<-(do
    if (decide (y2>x8)) then
     let x9<-idx out5 d0;let l<-pure (out5.set d0.toNat y2);pure (id l)
    else
     pure (id out5)
      : Option (List Int))
  qG name dims y i all k02 out7 (W (d0+1))
 else pure (id out5)
 partial_fixpoint
theorem zF2 (name:Str) (dims:Int) (y:(List zN)) (i:Int) (all:List zG) (k02:Int):∀ (out5:List Int) (d0:Int) (o:List Int),qG name dims y i all k02 out5 d0=some o->∀ {B}{I0 I:Imm}{Q}{p:zC}{p1 c p2 c1}{b}{p3 c2 p15 c14 bo p18 c17 cs7},I0.le I->(S4 I p3 y c2)->(RL I bo all)->(S4 I p1 p.Arrays c)->(S4 I p2 p.Parts c1)->(RL I cs7 out5)->NG Q->NO Q->(∀ I' out6 p19 c18 cs8,o=out6->I0.le I'->(RL I' cs8 out6)->T 95 B Q (.exit 4) I' [hO zG (vS p15 all c14) bo,hO Int (vS p19 out6 c18) cs8,hB b (cProg p p1 c p2 c1)] [(1,vT name.l),(2,vI dims),(3,vP b 0),(7,vS p19 out6 c18),(8,vS p3 y c2),(9,vI i),(11,vS p15 all c14),(12,vI k02)])->J Tryz.prog 95 B (nav (bodyOf f35) [1,1,1,0,1,0,0,1,0,0,1,1,1,0,0,1,0,0,1,0]) Q I [hO zG (vS p15 all c14) bo,hO Int (vS p18 out5 c17) cs7,hB b (cProg p p1 c p2 c1)] [(1,vT name.l),(2,vI dims),(3,vP b 0),(7,vS p18 out5 c17),(8,vS p3 y c2),(9,vI i),(11,vS p15 all c14),(12,vI k02),(13,vI d0)]:=by
 refine qG.partial_correctness name dims y i all k02 _ fun aE ih out5 d0 o N B I0 I Q p p1 c p2 c1 b p3 c2 p15 c14 bo p18 c17 cs7 H h3 h18 h h1 h21 hg ho hx=>yQ hg ho<|yA<|yA ?_;refine wZ N [hO zG (vS p15 all c14) bo,hO Int (vS p18 out5 c17) cs7,hB b (cProg p p1 c p2 c1)] (fun t67=>[(1,vT name.l),(2,vI dims),(3,vP b 0),(7,vS p18 out5 c17),(8,vS p3 y c2),(9,vI i),(11,vS p15 all c14),(12,vI k02),(13,vI d0),(67,.bool t67)]) (fun o0 az=>?_) ?_
 · have H:=iS I;refine zM<|yE 4 [] [59] rfl<|wL [59] az ?_ ?_
   · intro aY N;refine yE 6 [] [60,61] rfl<|bE N fun x4 hy8 N=>mA 0 rfl rfl rfl h18 hy8 ?_;intro ad5 ccs5 hat5 bG hrep4;obtain ⟨p20,c19,rfl,h23⟩:=uK hrep4;exact yE 8 [] [63] rfl<|zCR 0 0 hat5 bG [vT x4.Array.l] (vT x4.Array.l) rfl rfl<|yK [] [67] rfl<|yU<|zU (ct N H)
   intro aY N;exact wR [] [(67,vF)]<|yU<|zU (ct N H)
 intro t67 bI bf aT;have ⟨h21,h3,h18,h,h1,H⟩:=m6 bf h21 h3 h18 h h1 H;refine zK<|yG aT ?_ ?_
 · intro bC N;refine zS<|zZ<|yF<|yA ?_;obtain ⟨x5,hy9,N⟩:=zB N;obtain ⟨x6,hy10,N⟩:=zB N;obtain ⟨x7,hy11,N⟩:=zB N;obtain ⟨y2,hy12,N⟩:=zB N;refine wO [.p (vS p15 all c14) [],.p (vI k02) [],.x (fun I' v hx=>∃ ad6 p21 c20,v=.pointer (some ad6)/\hx=[]/\(AtO (vS p15 all c14) (Rp.sz zG) k02.toNat ad6)/\((bo.drop (k02.toNat*Rp.sz zG)).take (Rp.sz zG)=(cAccess x5 p21 c20))/\(S4 I' p21 x5.Subs c20)),.x (fun I' v hx=>∃ ad61 p211 c201,v=.pointer (some (ad61.add 1))/\hx=[]/\(AtO (vS p15 all c14) (Rp.sz zG) k02.toNat ad61)/\((bo.drop (k02.toNat*Rp.sz zG)).take (Rp.sz zG)=(cAccess x5 p211 c201))/\(S4 I' p211 x5.Subs c201)),.x (eS x5.Subs),.p (vI d0) [],.x (ePAff x6),.x (eVAff x6),.p (vS p3 y c2) [],.p (vI i) [],.x (ePInst x7),.x (eQInst 2 x7),.x (eS x7.Point),.q (vI y2)] [[],[],[(0,false),(1,false)],[(2,false)],[(3,false)],[],[(4,false),(5,false)],[(6,false)],[],[],[(8,false),(9,false)],[(10,false)],[(11,false)],[(7,false),(12,false)]] [hO zG (vS p15 all c14) bo,hO Int (vS p18 out5 c17) cs7,hB b (cProg p p1 c p2 c1)] [] [(13,false)] (zY [0,1,2]) ?_ ?_
   · refine O2<|Ox ?_<|Ox ?_<|Ox ?_<|Op<|Ox ?_<|Ox ?_<|O2<|Ox ?_<|Ox ?_<|Ox ?_<|Oq ?_<|On
     · intro I1 hf aa;refine yX [70,71] rfl ?_;have h18:=iM aa h18;refine mA 0 rfl rfl rfl h18 hy9 ?_;intro ad6 ccs6 hat6 hcc1 hrep5;obtain ⟨p21,c20,rfl,h24⟩:=uK hrep5;exact yL [] iR ⟨_,_,_,rfl,rfl,hat6,hcc1,h24⟩
     · rintro I1 hf aa _ _ ⟨ad6,p21,c20,rfl,rfl,hat6,hcc1,h24⟩;exact yX [72] rfl<|pE 4 [(73,.pointer (some (ad6.add 1)))]<|yL [] iR ⟨_,_,_,rfl,rfl,hat6,hcc1,h24⟩
     · rintro I1 hf aa _ _ ⟨ad61,p211,c201,rfl,rfl,hat61,hcc11,h241⟩;exact yX [73] rfl<|zCR 0 1 hat61 hcc11 [vS p211 x5.Subs c201] (vS p211 x5.Subs c201) rfl rfl<|yL [] iR ⟨_,_,rfl,rfl,h241⟩
     · rintro I1 hf aa _ _ ⟨p2111,c2011,rfl,rfl,h2411⟩;refine yX [74,75] rfl<|xR rfl rfl h2411 hy10 ?_;intro ad7 ccs7 hat7 hrep6;obtain ⟨p22,c21,rfl,h25⟩:=yD hrep6;exact yL [] iR ⟨_,_,_,rfl,rfl,hat7,h25⟩
     · rintro I1 hf aa _ _ ⟨ad7,p22,c21,rfl,rfl,hat7,h25⟩;exact yX [76] rfl<|xH 0 hat7 (cAff x6 p22 c21) (vA (cAff x6 p22 c21)) rfl<|yL [] iR ⟨_,_,rfl,rfl,h25⟩
     · intro I1 hf aa;refine yX [78,79] rfl ?_;have h3:=h3.mono aa;refine xR rfl rfl h3 hy11 ?_;intro ad8 ccs8 hat8 hrep7;obtain ⟨p23,c22,rfl,h26⟩:=fQ hrep7;exact yL [] iR ⟨_,_,_,rfl,rfl,hat8,h26⟩
     · rintro I1 hf aa _ _ ⟨ad8,p23,c22,rfl,rfl,hat8,h26⟩;exact yX [80] rfl<|pE 12 [(81,.pointer (some (ad8.add 2)))]<|yL [] iR ⟨_,_,_,rfl,rfl,hat8,h26⟩
     · rintro I1 hf aa _ _ ⟨ad81,p231,c221,rfl,rfl,hat81,h261⟩;exact yX [81] rfl<|xH 2 hat81 [vS p231 x7.Point c221] (vS p231 x7.Point c221) rfl<|yL [] iR ⟨_,_,rfl,rfl,h261⟩
     rintro I1 hf aa _ _ ⟨p221,c211,rfl,rfl,h251⟩ _ _ ⟨p2311,c2211,rfl,rfl,h2611⟩;refine yX [77,82] rfl ?_;have H:=iS I1;refine dP (fV x6 x7.Point _ hy12 h251 h2611) ?_;intro I06 bt;have H:=H.trans bt;exact xD H
   intro I07 le7;refine yX [1,2,3,7,8,9,11,12,13,83] rfl ?_;have ⟨h21,h3,h18,h,h1,H⟩:=m6 le7 h21 h3 h18 h h1 H;refine yK [] [14] rfl<|yW<|yE 3 [] [84,85,86] rfl<|bE N fun x8 hy13 N=>mA 1 rfl rfl rfl h21 hy13 ?_;intro ad9 ccs9 hat9 hcc2 hrep8;obtain rfl:=hrep8;refine zCR 1 0 hat9 hcc2 [vI x8] (vI x8) rfl rfl<|yK [] [89] rfl<|zK ?_;obtain ⟨aN,aC,hMc1⟩:=zB N;refine oW (fun I' af m'=>∃ (out7:List Int) (p24:Option Addr) (c23:Nat) (cs9:List Value),aN=out7/\I07.le I'/\(RL I' cs9 out7)/\af=[hO zG (vS p15 all c14) bo,hO Int (vS p24 out7 c23) cs9,hB b (cProg p p1 c p2 c1)]/\m'=[(1,vT name.l),(2,vI dims),(3,vP b 0),(7,vS p24 out7 c23),(8,vS p3 y c2),(9,vI i),(11,vS p15 all c14),(12,vI k02),(13,vI d0)]) ?_ ?_
   · have H:=iS I07;refine yG aC ?_ ?_
     · intro bJ N;refine zM<|yE 3 [] [90,91,92] rfl<|bE N fun x9 hy14 N=>mA 1 rfl rfl rfl h21 hy14 ?_;intro ad10 ccs10 hat10 hcc3 hrep9;obtain rfl:=hrep9;obtain ⟨l,hy15,N⟩:=zB N;refine zKu 1 0 hat10 hcc3 h21 hy14 hy15 rfl ?_;intro cs10 h29 hl01;rw [vE hl01];exact zX rfl<|yU<|zU ⟨_,_,_,_,(zD N).symm,H,h29,rfl,rfl⟩
     intro bJ N;exact zS<|yU<|zU ⟨_,_,_,_,(zD N).symm,H,h21,rfl,rfl⟩
   rintro I08 aw m2 ⟨out7,p24,c23,cs9,heq1,le8,h28,rfl,rfl⟩;subst aN;have ⟨h3,h18,h,h1,H⟩:=m5 le8 h3 h18 h h1 H;exact zO<|zK<|zM<|yK [] [13] rfl<|yP<|oT<|ih out7 (W (d0+1)) _ hMc1 H h3 h18 h h1 h28 hg ho hx
 intro bC N;exact wP<|yU<|hx _ _ _ _ _ (zD N).symm H h21
def nP (name:Str) (dims:Int) (y:(List zN)) (i:Int) (all:List zG) (bb:List Int) (k02:Int):Option (List Int):=do
 if (decide (k02<(all.length:Int))) then
  let out6<-qG name dims y i all k02 bb 0;nP name dims y i all out6 (W (k02+1))
 else pure (id bb)
 partial_fixpoint
theorem zF3 (name:Str) (dims:Int) (y:(List zN)) (i:Int) (all:List zG):∀ (bb:List Int) (k02:Int) (o:List Int),nP name dims y i all bb k02=some o->∀ {B}{I0 I:Imm}{Q}{p:zC}{p1 c p2 c1}{b}{p3 c2 p15 c14 bo p16 c15 bv},I0.le I->(S4 I p3 y c2)->(RL I bo all)->(S4 I p1 p.Arrays c)->(S4 I p2 p.Parts c1)->(RL I bv bb)->NG Q->NO Q->(∀ I' bw p17 c16 cs6,o=bw->I0.le I'->(RL I' cs6 bw)->T 95 B Q (.exit 2) I' [hO Int (vS p17 bw c16) cs6,hB b (cProg p p1 c p2 c1)] [(1,vT name.l),(2,vI dims),(3,vP b 0),(7,vS p17 bw c16),(8,vS p3 y c2),(9,vI i)])->J Tryz.prog 95 B (nav (bodyOf f35) [1,1,1,0,1,0,0,1,0,0,1,1,1,0]) Q I [hO zG (vS p15 all c14) bo,hO Int (vS p16 bb c15) bv,hB b (cProg p p1 c p2 c1)] [(1,vT name.l),(2,vI dims),(3,vP b 0),(7,vS p16 bb c15),(8,vS p3 y c2),(9,vI i),(11,vS p15 all c14),(12,vI k02)]:=by
 refine nP.partial_correctness name dims y i all _ fun aE ih bb k02 o N B I0 I Q p p1 c p2 c1 b p3 c2 p15 c14 bo p16 c15 bv H h3 h18 h h1 h19 hg ho hx=>yQ hg ho<|yA<|yH [53] rfl<|zK<|yG N ?_ ?_
 · intro aH N;refine zS<|zZ<|yF<|yH [13] rfl<|wI<|qR [(1,vT name.l),(2,vI dims),(3,vP b 0),(7,vS p16 bb c15),(8,vS p3 y c2),(9,vI i),(11,vS p15 all c14),(12,vI k02),(13,vI 0)] ?_;obtain ⟨o02,ho02,aF⟩:=zB N;refine zF2 name dims y i all k02 bb 0 o02 ho02 iR h3 h18 h h1 h19 (fun _ _ _ h=>hg _ _ _ h) (fun _ _ h=>ho _ _ h) ?_;intro I09 out6 p19 c18 cs8 heq2 le9 h22;subst o02;have ⟨h3,h18,h,h1,H⟩:=m5 le9 h3 h18 h h1 H;exact zR<|zO<|zK<|zM<|yK [] [12] rfl<|yP<|oT<|ih out6 (W (k02+1)) _ aF H h3 h18 h h1 h22 hg ho hx
 intro aH N;exact wP<|wF (zW [1,2] rfl (by decide))<|yU<|hx _ _ _ _ _ (zD N).symm H h19
def nQ (p:zC) (name:Str) (dims:Int) (y:(List zN)) (ah:List Int) (i:Int):Option (List Int):=do
 if (decide (i<(y.length:Int))) then
  let x<-idx y i;let x1<-idx p.Parts x.Part;let x2<-idx y i;let x3<-idx x1.Body x2.Stmt;let y1<-rJ ([]:List zG) x3.Value;let all<-app 40 y1 ([x3.Write]:List zG);let bw<-nP name dims y i all ah 0;nQ p name dims y bw (W (i+1))
 else pure (id ah)
 partial_fixpoint
theorem zF4 (p:zC) (name:Str) (dims:Int) (y:(List zN)):∀ (ah:List Int) (i:Int) (o:List Int),nQ p name dims y ah i=some o->∀ {B}{I0 I:Imm}{Q p1 c p2 c1}{b}{p3 c2 p4 c3 av},I0.le I->(S4 I p3 y c2)->(S4 I p1 p.Arrays c)->(S4 I p2 p.Parts c1)->(RL I av ah)->NG Q->NO Q->(∀ I' ap p5 c4 aP,o=ap->I0.le I'->(RL I' aP ap)->T 95 B Q (.exit 0) I' [hO Int (vS p5 ap c4) aP] [(7,vS p5 ap c4)])->J Tryz.prog 95 B (nav (bodyOf f35) [1,1,1,0,1,0]) Q I [hO Int (vS p4 ah c3) av,hB b (cProg p p1 c p2 c1)] [(1,vT name.l),(2,vI dims),(3,vP b 0),(7,vS p4 ah c3),(8,vS p3 y c2),(9,vI i)]:=by
 refine nQ.partial_correctness p name dims y _ fun aE ih ah i o N B I0 I Q p1 c p2 c1 b p3 c2 p4 c3 av H h3 h h1 h4 hg ho hx=>yQ hg ho<|yA<|yH [22] rfl<|zK<|yG N ?_ ?_
 · intro hc N;refine zS<|zZ<|yF<|yA ?_;obtain ⟨x,aG,N⟩:=zB N;obtain ⟨x1,bc,N⟩:=zB N;obtain ⟨x2,bu,N⟩:=zB N;obtain ⟨x3,bz,N⟩:=zB N;refine wO [.p (vP b 1) [],.p (vS p2 p.Parts c1) [1],.p (vS p3 y c2) [],.p (vI i) [],.x (ePInst x),.x (ePInst x),.q (vI x.Part),.x (ePPart x1),.x (eQPart 1 x1),.x (eS x1.Body),.p (vS p3 y c2) [],.p (vI i) [],.x (ePInst x2),.x (eQInst 1 x2),.q (vI x2.Stmt),.x (ePStmt x3),.x (eVStmt x3),.x (fun I' v hx=>∃ b2,v=vP b2 0/\hx=[hB b2 [vT ([]),z0,vI 0,vI 0,z0,vI 0,vT ([]),z0,z0]])] [[],[(0,false)],[],[],[(2,false),(3,false)],[(4,false)],[(5,false)],[(1,false),(6,false)],[(7,false)],[(8,false)],[],[],[(10,false),(11,false)],[(12,false)],[(13,false)],[(9,false),(14,false)],[(15,false)],[]] [hO Int (vS p4 ah c3) av,hB b (cProg p p1 c p2 c1)] [] [(16,false),(17,true)] (zY [0,1]) ?_ ?_
   · refine O4<|Ox ?_<|Ox ?_<|Oq ?_<|Ox ?_<|Ox ?_<|Ox ?_<|O2<|Ox ?_<|Ox ?_<|Oq ?_<|Ox ?_<|Ox ?_<|Ox ?_<|On
     · intro I1 hf aa;refine yX [27,28] rfl ?_;have h3:=h3.mono aa;refine xR rfl rfl h3 aG ?_;intro ad aL al aj;obtain ⟨p6,c5,rfl,h6⟩:=fQ aj;exact yL [] iR ⟨_,_,_,rfl,rfl,al,h6⟩
     · rintro I1 hf aa _ _ ⟨ad,p6,c5,rfl,rfl,al,h6⟩;exact yX [29] rfl<|pE 6 [(30,.pointer (some ad))]<|yL [] iR ⟨_,_,_,rfl,rfl,al,h6⟩
     · rintro I1 hf aa _ _ ⟨ad1,p61,c51,rfl,rfl,au,h61⟩;exact yX [30] rfl<|xH 0 au [vI x.Part] (vI x.Part) rfl<|xD iR
     · intro I1 hf aa;refine yX [26,31] rfl ?_;have h1:=h1.mono aa;refine xR rfl rfl h1 bc ?_;intro ad2 bm bk ax;obtain ⟨p7,c6,p8,c7,rfl,h7,h8⟩:=wJ ax;exact yL [] iR ⟨_,_,_,_,_,rfl,rfl,bk,h7,h8⟩
     · rintro I1 hf aa _ _ ⟨ad2,p7,c6,p8,c7,rfl,rfl,bk,h7,h8⟩;exact yX [32] rfl<|pE 9 [(33,.pointer (some (ad2.add 1)))]<|yL [] iR ⟨_,_,_,_,_,rfl,rfl,bk,h7,h8⟩
     · rintro I1 hf aa _ _ ⟨ad21,p71,c61,p81,c71,rfl,rfl,hat21,h71,h81⟩;exact yX [33] rfl<|xH 1 hat21 [vS p81 x1.Body c71] (vS p81 x1.Body c71) rfl<|yL [] iR ⟨_,_,rfl,rfl,h81⟩
     · intro I1 hf aa;refine yX [35,36] rfl ?_;have h3:=h3.mono aa;refine xR rfl rfl h3 bu ?_;intro ad3 bK hat3 bq;obtain ⟨p9,c8,rfl,h9⟩:=fQ bq;exact yL [] iR ⟨_,_,_,rfl,rfl,hat3,h9⟩
     · rintro I1 hf aa _ _ ⟨ad3,p9,c8,rfl,rfl,hat3,h9⟩;exact yX [37] rfl<|pE 14 [(38,.pointer (some (ad3.add 1)))]<|yL [] iR ⟨_,_,_,rfl,rfl,hat3,h9⟩
     · rintro I1 hf aa _ _ ⟨ad31,p91,c81,rfl,rfl,hat31,h91⟩;exact yX [38] rfl<|xH 1 hat31 [vI x2.Stmt] (vI x2.Stmt) rfl<|xD iR
     · rintro I1 hf aa _ _ ⟨p811,c711,rfl,rfl,h811⟩;refine yX [34,39] rfl<|xR rfl rfl h811 bz ?_;intro ad4 ccs3 hat4 bB;obtain ⟨aQ,c9,aJ,aM,br,aW,bh,bd,rfl,h10,h11,h12,h13⟩:=wV bB;exact yL [] iR ⟨_,_,_,_,_,_,_,_,_,rfl,rfl,hat4,h10,h11,h12,h13⟩
     · rintro I1 hf aa _ _ ⟨ad4,aQ,c9,aJ,aM,br,aW,bh,bd,rfl,rfl,hat4,h10,h11,h12,h13⟩;exact yX [40] rfl<|xH 0 hat4 (cStmt x3 aQ c9 aJ aM br aW bh bd) (vA (cStmt x3 aQ c9 aJ aM br aW bh bd)) rfl<|yL [] iR ⟨_,_,_,_,_,_,_,_,rfl,rfl,h10,h11,h12,h13⟩
     intro I1 hf aa;refine I_h []<|xU [vT ([]),z0,vI 0,vI 0,z0,vI 0,vT ([]),z0,z0] ?_;intro b2 hb1;exact yL [hB b2 [vT ([]),z0,vI 0,vI 0,z0,vI 0,vT ([]),z0,z0]] iR ⟨_,rfl,rfl⟩
   rintro aO aa _ _ ⟨p101,c91,p111,c101,p121,c111,p131,c121,rfl,rfl,h101,h111,h121,h131⟩ _ _ ⟨b2,rfl,rfl⟩;refine yX [1,2,3,7,8,9,10,41] rfl ?_;have ⟨h4,h3,h,h1,H⟩:=m5 aa h4 h3 h h1 H;refine yY 0 (cStmt x3 p101 c91 p111 c101 p121 c111 p131 c121) rfl<|zX rfl<|zK<|yA ?_;obtain ⟨y1,hy6,N⟩:=zB N;obtain ⟨all,hy7,N⟩:=zB N;refine wO [.x (fun I' v hx=>∃ b3,v=vS (some ⟨b3,0,none⟩) ([]:List zG) 0/\hx=[hO zG (vS (some ⟨b3,0,none⟩) ([]:List zG) 0) []]/\(RL I' [] ([]:List zG))),.p (vP b2 2) [],.p (vA (cExpr x3.Value p111 c101 p121 c111 p131 c121)) [0],.x (fun I' v hx=>∃ p14 bj aI,v=vS p14 y1 bj/\hx=[hO zG (vS p14 y1 bj) aI]/\(RL I' aI y1)),.p (vP b2 0) [],.p (vA (cAccess x3.Write p101 c91)) [0],.x (fun I' v hx=>∃ b4,v=vS (some ⟨b4,0,none⟩) ([x3.Write]:List zG) 1/\hx=[]/\(SL I' (vS (some ⟨b4,0,none⟩) ([x3.Write]:List zG) 1) ([x3.Write]:List zG))),.x (fun I' v hx=>∃ p15 c14 bo,v=vS p15 all c14/\hx=[hO zG (vS p15 all c14) bo]/\(RL I' bo all))] [[],[],[(1,false)],[(0,true),(2,false)],[],[(4,false)],[(5,false)],[(3,true),(6,false)]] [hB b2 (cStmt x3 p101 c91 p111 c101 p121 c111 p131 c121),hO Int (vS p4 ah c3) av,hB b (cProg p p1 c p2 c1)] [] [(7,true)] (zY [0,1,2]) ?_ ?_
   · refine Ox ?_<|O2<|Ox ?_<|O2<|Ox ?_<|Ox ?_<|On
     · intro I1 hf aa;refine I_h []<|uV [] zG ?_;intro b3 hb2;have h14:RL I1 [] ([]:List zG):=rfl;exact yL [hO zG (vS (some ⟨b3,0,none⟩) ([]:List zG) 0) []] iR ⟨_,rfl,rfl,h14⟩
     · rintro I1 hf aa _ _ ⟨b3,rfl,rfl,h14⟩;refine yX [42,44] rfl ?_;have H:=iS I1;have ⟨h111,h121,h131⟩:=m3 aa h111 h121 h131;refine rW (zD6 ([]:List zG) x3.Value _ hy6 h14 h111 h121 h131) rfl ?_;rintro aV aw v2 k2 aA - ⟨p14,bj,aI,rfl,rfl,h15⟩ -;have H:=H.trans aA;exact yL [hO zG (vS p14 y1 bj) aI] H ⟨_,_,_,rfl,rfl,h15⟩
     · intro I1 hf aa;refine yX [47] rfl ?_;have H:=iS I1;have h101:=h101.mono aa;refine mG (rc x3.Write (rK ⟨_,rfl,h101⟩) rN) ?_;intro b4 bx aK h17;have H:=H.trans aK;exact yL [] H ⟨_,rfl,rfl,h17⟩
     rintro I1 hf aa _ _ ⟨p14,bj,aI,rfl,rfl,h15⟩ _ _ ⟨b4,rfl,rfl,h17⟩;refine yX [45,48] rfl ?_;obtain ⟨ccs4,k0,k01⟩:=h17;have h17:SL I1 (vS (some ⟨b4,0,none⟩) ([x3.Write]:List zG) 1) ([x3.Write]:List zG):=⟨_,k0,k01⟩;exact rF 67 2 0 rfl rfl rfl h15 (.inl k0) k01 hy7 fun p15 c14 bo h18=>wX (af:=(hO zG (vS p15 all c14) bo::hB b2 (cStmt x3 p101 c91 p111 c101 p121 c111 p131 c121)::hO Int (vS p4 ah c3) av::hB b (cProg p p1 c p2 c1)::hf)) rfl<|yL [hO zG (vS p15 all c14) bo] iR ⟨_,_,_,rfl,rfl,h18⟩
   rintro bD aX _ _ ⟨p15,c14,bo,rfl,rfl,h18⟩;refine yX [1,2,3,7,8,9,49] rfl ?_;have ⟨h4,h3,h,h1,H⟩:=m5 aX h4 h3 h h1 H;refine yK [] [11] rfl<|vW [12] rfl<|wI<|pU (zY [0,2,3] (af:=[hO zG (vS p15 all c14) bo,hO Int (vS p4 ah c3) av,hB b (cProg p p1 c p2 c1)]))<|qR [(1,vT name.l),(2,vI dims),(3,vP b 0),(7,vS p4 ah c3),(8,vS p3 y c2),(9,vI i),(11,vS p15 all c14),(12,vI 0)] ?_;obtain ⟨o03,ho03,hMl1⟩:=zB N;refine zF3 name dims y i all ah 0 o03 ho03 iR h3 h18 h h1 h4 (fun _ _ _ h=>hg _ _ _ h) (fun _ _ h=>ho _ _ h) ?_;intro bL bw p17 c16 cs6 heq3 le10 h20;subst o03;have ⟨h3,h,h1,H⟩:=m4 le10 h3 h h1 H;exact zR<|zO<|zK<|zM<|yK [] [9] rfl<|yP<|oT<|ih bw (W (i+1)) _ hMl1 H h3 h h1 h20 hg ho hx
 intro hc N;exact wP<|wF (zW [0] rfl (by decide))<|yU<|hx _ _ _ _ _ (zD N).symm H h4
def zAH (p:zC) (name:Str) (dims:Int):Option ((List Int)):=do
 let out<-mkrow 8 dims (0:Int);let y<-oJ p;let ap<-nQ p name dims y out 0;pure (id ap)
theorem zHq:∀ p name dims r,zAH p name dims=some r->∀ {I:Imm}{p1 c p2 c1},(S4 I p1 p.Arrays c)->(S4 I p2 p.Parts c1)->RT 35 [vA (cProg p p1 c p2 c1),vT name.l,vI dims] I [] (zCN  r):=by
 intro p name dims r N I p1 c p2 c1 h h1;unfold zAH at N;refine yI func35 fun B=>yB<|vJ (cProg p p1 c p2 c1) ?_;intro b hb;refine wR [] []<|yW<|yE 1 [] [15] rfl<|bE N fun out hy N=>zQU 8 [vI 0] rfl hy rfl fun b1 cs h2=>yK [] [7] rfl<|yW<|tL 1 [1] [(17,vA (cProg p p1 c p2 c1))]<|bE N fun y ay N=>xE (zEg p _ ay h h1) ?_;rintro I0 aw v2 k2 le - ⟨v0,rfl,rfl,h3⟩ -;have ⟨h2,h,h1⟩:=m3 le h2 h h1;obtain ⟨p3,c2,rfl⟩:=h3.form;refine yK [] [8] rfl<|zZ<|yH [9] rfl<|wI<|qR [(1,vT name.l),(2,vI dims),(3,vP b 0),(7,vS (some ⟨b1,0,none⟩) out out.length),(8,vS p3 y c2),(9,vI 0)] ?_;obtain ⟨o04,ho04,hMl2⟩:=zB N;refine zF4 p name dims y out 0 o04 ho04 iR h3 h h1 h2 nG nO ?_;intro bR ap p5 c4 aP heq4 le11 h5;subst o04;refine zR<|vW [6] rfl<|xF<|xB 0 rfl ?_;intro bO le12 hl02;have h30:=SL.of_frozen hl02 le12 h5;exact xO hMl2 (resT rfl) zP ⟨_,rfl,rfl,h30⟩
def qB (most:List Int) (d:Int) (dims:List Int):Option (List Int):=do
 if (decide (d<(most.length:Int))) then
  let v<-idx most d;let _x<-idx dims d;qB most (W (d+1)) (dims.set d.toNat (W (v+1)))
 else pure (id dims)
 partial_fixpoint
theorem zDT (most:List Int):∀ (d:Int) (dims:List Int) (o:List Int),qB most d dims=some o->∀ {B}{I0 I:Imm}{Q}{A:List zE}{ak:List Raw2}{i:Int}{x:zE}{w:Value}{P2:List zI}{pa ca pp cp pm cm}{csd:List Value}{b4 b6:Nat},I0.le I->ArW I (vS pa ak ca) ak A i w->idx A i=some x->SL I (vS pp P2 cp) P2->SL I (vS pm most cm) most->RL I csd dims->NG Q->NO Q->(∀ (I':Imm) (csd':List Value),o.length=dims.length->I0.le I'->ArW I' (vS pa ak ca) ak A i w->SL I' (vS pp P2 cp) P2->RL I' csd' o->T 64 B Q (.exit 2) I' [hO Int w csd',hB b6 [vS pa ak ca,vS pp P2 cp],hB b4 zTwo] [(4,vP b4 0),(6,vP b6 0)])->J Tryz.prog 64 B (nav (bodyOf f9) [1,1,1,1,0,1,0,0,1,0,0,1,1,0,1,0]) Q I [hO Int w csd,hB b6 [vS pa ak ca,vS pp P2 cp],hB b4 zTwo] [(4,vP b4 0),(6,vP b6 0),(7,vI i),(8,vS pm most cm),(9,vI d)]:=by
 refine qB.partial_correctness most _ fun aE ih d dims o N B I0 I Q A ak i x w P2 pa ca pp cp pm cm csd b4 b6 H hAr hx hP hm hd hg ho hk=>yQ hg ho<|yA<|yH [46] rfl<|zK<|yG N ?_ ?_
 · intro hc N;obtain ⟨v0,hy,N⟩:=zB N;obtain ⟨x0,hy0,N⟩:=zB N;have hxr:=hAr.2.at hx;refine zS<|zZ<|yF<|wO [.p (vP b6 0) [],.p (vS pa ak ca) [1],.p (vI i) [],.x (fun I' v hx=>∃ ad,v=.pointer (some ad)/\hx=[]/\At I' ad [vT x.Name.l,w]),.x (fun I' v hx=>∃ ad,v=.pointer (some (ad.add 1))/\hx=[]/\At I' ad [vT x.Name.l,w]),.q w,.p (vI d) [],.p (vS pm most cm) [],.p (vI d) [],.x (fun I' v hx=>∃ ad,v=.pointer (some ad)/\hx=[]/\At I' ad [vI v0]),.q (vI v0),.q (vI (W (v0+1)))] [[],[(0,false)],[],[(1,false),(2,false)],[(3,false)],[(4,false)],[],[],[],[(7,false),(8,false)],[(9,false)],[(10,false)]] [hO Int w csd,hB b6 [vS pa ak ca,vS pp P2 cp],hB b4 zTwo] [] [(5,false),(6,false),(11,false)] (zY [0,1,2]) ?_ ?_
   · refine O3<|Ox ?_<|Ox ?_<|Oq ?_<|O3<|Ox ?_<|Oq ?_<|Oq ?_<|On
     · intro I1 hf aa;refine yX [50,51] rfl<|xR rfl rfl (hAr.1.mono aa) hxr ?_;intro ad aL al aj;obtain ⟨rfl,_⟩:=aj;exact yL [] iR ⟨_,rfl,rfl,al⟩
     · rintro I1 hf aa _ _ ⟨ad,rfl,rfl,al⟩;exact qS<|zAp [(52,.pointer (some ad))]<|pE 5 [(53,.pointer (some (ad.add 1)))]<|yL [] iR ⟨_,rfl,rfl,al⟩
     · rintro I1 hf aa _ _ ⟨ad,rfl,rfl,al⟩;exact qS<|zAp [(53,.pointer (some (ad.add 1)))]<|xH 1 al [w] w rfl<|xD iR
     · intro I1 hf aa;refine yX [56,57] rfl<|xR rfl rfl (hm.mono aa) hy ?_;intro ad aL al aj;obtain rfl:=aj;exact yL [] iR ⟨_,rfl,rfl,al⟩
     · rintro I1 hf aa _ _ ⟨ad,rfl,rfl,al⟩;exact qS<|zAp [(58,.pointer (some ad))]<|xH 0 al [vI v0] (vI v0) rfl<|xD iR
     rintro I1 hf aa _ _ ⟨rfl,rfl⟩;exact qS<|zAp [(59,vI v0)]<|pE 12 [(60,vI (W (v0+1)))]<|xD iR
   intro I2 aA;refine yX [4,6,7,8,9,54,55,60] rfl ?_;have hd2:RL I2 csd dims:=iM aA hd;refine mA (α:=Int) 0 rfl rfl rfl hd2 hy0 ?_;intro ad aL al bG aj;obtain rfl:=aj;exact fA (c:=[vI (W (v0+1))]) (x':=(W (v0+1))) 0 0 rfl rfl rfl al rfl rfl bG (by kernel_rfl) (by kernel_rfl) (by kernel_rfl) hd2 hy0 (by kernel_rfl) rfl fun csd' hd' hl'=>zX rfl<|zO<|zK<|zM<|yK [] [9] rfl<|yP<|oT<|ih (W (d+1)) _ _ N (H.trans aA) (hAr.mono aA) hx (hP.mono aA) (hm.mono aA) hd' hg ho (fun I' cs' h1=>hk I' cs' (h1.trans hl'))
 intro hc N;have:=zD N;simp only [id] at this;subst this;exact wP<|T_w [(4,vP b4 0),(6,vP b6 0)]<|hk _ _ rfl H hAr hP hd
def qC (p:zC) (name:Str) (A:List zE) (P2:List zI) (i:Int):Option (Out Unit (zC×Bool)):=do
 if (decide (i<(A.length:Int))) then
  let x<-idx A i;if (!(x.Name.l==name.l)) then qC p name A P2 (W (i+1))
  else
   let y<-zAH p name (x.Dims.length:Int);let z<-qB y 0 x.Dims;pure (.ret (⟨A.set i.toNat ⟨x.Name,z⟩,P2⟩,true))
 else pure (.done ())
 partial_fixpoint
theorem zDU (p:zC) (name:Str) (A:List zE) (P2:List zI):∀ (i:Int) (o:Out Unit (zC×Bool)),qC p name A P2 i=some o->∀ {B}{I0 I:Imm}{Q}{xs:List ND}{p1 c p2 c1}{pa ca}{csa:List Value}{pp cp}{b2 b4 b6:Nat},I0.le I->A=xs.map ND.a->(∀ x∈xs,x.ok I)->RL I csa (xs.map ND.raw)->SL I (vS p1 p.Arrays c) p.Arrays->SL I (vS p2 p.Parts c1) p.Parts->SL I (vS pp P2 cp) P2->NG Q->NO Q->(∀ I',o=.done ()->I0.le I'->T 64 B Q (.exit 0) I' [hB b4 zTwo] [(4,vP b4 0)])->(∀ r I' af m',o=.ret r->I0.le I'->RS Tryz.prog f9 B (dH r) I' af m'->T 64 B Q .ret I' af m')->J Tryz.prog 64 B (nav (bodyOf f9) [1,1,1,1,0,1,0]) Q I (hO Raw2 (vS pa (xs.map ND.raw) ca) csa::hB b6 [vS pa (xs.map ND.raw) ca,vS pp P2 cp]::hB b4 zTwo::hB b2 (cProg p p1 c p2 c1)::NDs xs) [(1,vT name.l),(2,vP b2 0),(4,vP b4 0),(6,vP b6 0),(7,vI i)]:=by
 refine qC.partial_correctness p name A P2 _ ?_;intro aE ih i o N B I0 I Q xs p1 c p2 c1 pa ca csa pp cp b2 b4 b6 H hA bP hRw h h1 hP hg ho hx hr;have ba:((xs.map ND.raw).length:Int)=(A.length:Int):=by rw [hA]; simp
 refine yQ hg ho<|yA<|yB<|yK [1] [22] rfl ?_;rw [ba];refine zK<|yG N ?_ ?_
 · intro hc N;obtain ⟨x0,hy,N⟩:=zB N;have hy0:=hy;rw [hA] at hy0;obtain ⟨x,hx',rfl⟩:=zE1 hy0;have hxr:=zB6 (f:=ND.raw) hx';refine zS<|zZ<|yF<|yA<|yB<|yE 3 [1] [26,27] rfl<|mA (α:=Raw2) 0 rfl rfl rfl hRw hxr ?_;intro ad aL al bG aj;obtain ⟨rfl,o1,o2⟩:=aj;refine yE 5 [] [29] rfl<|zCR 0 0 al bG [vT x.nm.l] (vT x.nm.l) rfl rfl<|yK [] [32] rfl<|zK<|yG N ?_ ?_
   · intro aH N;exact zEu<|gQ<|zR<|zK<|zM<|yK [] [7] rfl<|yP<|oT<|ih (W (i+1)) _ N H hA bP hRw h h1 hP hg ho hx hr
   intro aH N;obtain ⟨y,aG,N⟩:=zB N;obtain ⟨z,bc,N⟩:=zB N;refine zS<|zZ<|zDr (NDs xs++[hO Raw2 (vS pa (xs.map ND.raw) ca) csa,hB b6 [vS pa (xs.map ND.raw) ca,vS pp P2 cp],hB b4 zTwo,hB b2 (cProg p p1 c p2 c1)]) (cL (l₂:=[hO Raw2 (vS pa (xs.map ND.raw) ca) csa,hB b6 [vS pa (xs.map ND.raw) ca,vS pp P2 cp],hB b4 zTwo,hB b2 (cProg p p1 c p2 c1)]))<|zM4 hx' bP ?_;intro I3 aK hfz;have hD:RL I3 x.cs x.d:=(bP x (cI (rE hx').2.2)).mono aK;refine pD 1 rfl ?_;intro I4 aX hl4;have hR:SL I4 (vS pa (xs.map ND.raw) ca) (xs.map ND.raw):=SL.of_frozen hl4 aX (iM aK hRw);have hAr:ArW I4 (vS pa (xs.map ND.raw) ca) (xs.map ND.raw) A i x.v:=⟨hR,by rw [hA]; exact RW.of hx' fun j y hj hy=>(hfz j y hj hy).mono aX⟩;have bf:=aK.trans aX;have hD:RL I4 x.cs x.d:=iM aX hD;have ⟨h,h1,hP,H⟩:=m4 bf h h1 hP H;have hxr2:=hAr.2.at hy;refine qR [(1,vT name.l),(2,vP b2 0),(4,vP b4 0),(6,vP b6 0),(7,vI i)]<|wO [.p (vA (cProg p p1 c p2 c1)) [3],.p (vT name.l) [],.p (vP b6 0) [],.p (vS pa (xs.map ND.raw) ca) [1],.p (vI i) [],.x (fun I' v hx=>∃ ad,v=.pointer (some ad)/\hx=[]/\At I' ad [vT x.nm.l,x.v]),.x (fun I' v hx=>∃ ad,v=.pointer (some (ad.add 1))/\hx=[]/\At I' ad [vT x.nm.l,x.v]),.q x.v,.q (vI (x.d.length:Int)),.x (fun I' v hx=>∃ pm cm,v=vS pm y cm/\hx=[]/\SL I' (vS pm y cm) y)] [[],[],[],[(2,false)],[],[(3,false),(4,false)],[(5,false)],[(6,false)],[(7,false)],[(0,false),(1,false),(8,false)]] [hO Int x.v x.cs,hB b6 [vS pa (xs.map ND.raw) ca,vS pp P2 cp],hB b4 zTwo,hB b2 (cProg p p1 c p2 c1)] [] [(9,false)] (zY [0,1,2,3]) ?_ ?_
   · refine O4<|Op<|Ox ?_<|Ox ?_<|Oq ?_<|Oq ?_<|Ox ?_<|On
     · intro I1 hf aa;refine yX [36,37] rfl<|xR rfl rfl (hR.mono aa) hxr2 ?_;intro ad aL al aj;obtain ⟨rfl,_⟩:=aj;exact yL [] iR ⟨_,rfl,rfl,al⟩
     · rintro I1 hf aa _ _ ⟨ad,rfl,rfl,al⟩;exact qS<|zAp [(38,.pointer (some ad))]<|pE 7 [(39,.pointer (some (ad.add 1)))]<|yL [] iR ⟨_,rfl,rfl,al⟩
     · rintro I1 hf aa _ _ ⟨ad,rfl,rfl,al⟩;exact qS<|zAp [(39,.pointer (some (ad.add 1)))]<|xH 1 al [x.v] x.v rfl<|xD iR
     · rintro I1 hf aa _ _ ⟨rfl,rfl⟩;exact qS<|zAp [(40,x.v)]<|pE 9 [(41,vI (x.d.length:Int))]<|xD iR
     intro I1 hf aa;refine yX [33,34,41] rfl<|xE (zHq p name (x.d.length:Int) _ aG (h.mono aa) (h1.mono aa)) ?_;rintro aV aw v2 k2 aA - ⟨v0,rfl,rfl,hm0⟩ -;obtain ⟨pm,cm,rfl⟩:=hm0.form;exact yL [] aA ⟨_,_,rfl,rfl,hm0⟩
   rintro I5 bt _ _ ⟨pm,cm,rfl,rfl,hm0⟩;refine yX [1,2,4,6,7,42] rfl<|yK [] [8] rfl<|zZ<|yH [9] rfl<|wI<|pU (zY [0,1,2] (af:=[hO Int x.v x.cs,hB b6 [vS pa (xs.map ND.raw) ca,vS pp P2 cp],hB b4 zTwo]))<|qR [(4,vP b4 0),(6,vP b6 0),(7,vI i),(8,vS pm y cm),(9,vI 0)]<|zDT y 0 x.d z bc iR (hAr.mono bt) hy (hP.mono bt) hm0 (iM bt hD) (fun _ _ _ h=>hg _ _ _ h) (fun _ _ h=>ho _ _ h) fun I6 csd' hlz le7 hAr6 hP6 hD6=>zR<|zZ<|pD 0 rfl ?_;intro I7 le8 hl7;have hev:x.v=vS x.p z x.c:=by simp only [ND.v,vS,hlz]
   have hz:SL I7 x.v z:=SL.of_frozen hl7 le8 hD6;have hS:=(hAr6.mono le8).done hy hz;have hP7:=hP6.mono le8;have eP:vS pa (xs.map ND.raw) ca=vS pa (A.set i.toNat ⟨x.nm,z⟩) ca:=by simp only [vS,cE,de,hA]
   have hS':SL I7 (vS pa (xs.map ND.raw) ca) (A.set i.toNat ⟨x.nm,z⟩):=by rw [eP]; exact hS
   refine zM<|tL 1 [0] [(62,vA [vS pa (xs.map ND.raw) ca,vS pp P2 cp])]<|yY 1 [vS pa (xs.map ND.raw) ca,vS pp P2 cp] rfl<|wR [] [(5,vY)]<|xF<|zV<|zJ<|zJ<|hr _ _ _ _ (zD N).symm (((H.trans bt).trans le7).trans le8) ⟨_,_,(resE 1 rfl rfl rfl),zP,⟨_,_,rfl,rfl,⟨_,rfl,xY ⟨_,_,rfl,hS',hP7⟩⟩,rfl⟩⟩
 intro hc N;exact wP<|wF (zY [2] (af:=[hB b4 zTwo]))<|yU<|hx _ (zD N).symm H
def jZ (p:zC) (name:Str):Option (zC×Bool):=do
 let y<-kU p;let y1<-sA y;if (!y1) then pure ((zC.mk ([]:List zE) ([]:List zI)),false)
 else
  let y2<-rL y
  match<-qC y name y2.Arrays y2.Parts 0 with
  | .ret r0=>pure r0
  | .done _ =>
   pure ((zC.mk ([]:List zE) ([]:List zI)),false)
theorem zEh:∀ p name r,jZ p name=some r->∀ {I:Imm}{p1 c p2 c1},(S4 I p1 p.Arrays c)->(S4 I p2 p.Parts c1)->RT 9 [vA (cProg p p1 c p2 c1),vT name.l] I [] (dH  r):=by
 intro p name r N I p1 c p2 c1 h h1;unfold jZ at N;refine yI func9 fun B=>yB<|vJ (cProg p p1 c p2 c1) ?_;intro b hb;refine xU zTwo ?_;intro b1 hb1;refine wR [] []<|yW<|tL 1 [1] [(10,vA (cProg p p1 c p2 c1))]<|bE N fun y hy N=>xE (zDh p _ hy h h1) ?_;rintro I0 aw v2 k2 le - ⟨v0,rfl,rfl,⟨cs,rfl,h2⟩⟩ -;have h:=h.mono le;obtain ⟨p3,c2,p4,c3,rfl,h3,h4⟩:=rG h2;refine yY 1 (cProg y p3 c2 p4 c3) rfl<|zX rfl<|zZ<|yB<|tL 1 [1] [(12,vA (cProg y p3 c2 p4 c3))]<|bE N fun y1 ay N=>tH (dX y _ ay h3 h4) ?_;intro aO aa;have ⟨h3,h4⟩:=m2 aa h3 h4;refine yK [] [14] rfl<|zK<|yG N ?_ ?_
 · intro hc N;refine yB<|yE 1 [] [15] rfl<|dE 0 zTwo [hB b1 zTwo,hB b (cProg y p3 c2 p4 c3)] rfl rfl rfl rfl<|wR [] [(5,vF)]<|xF<|zJ ?_;exact xO N (resE 0 rfl rfl rfl) zP ⟨_,_,rfl,rfl,⟨_,rfl,(xY ⟨_,_,rfl,(SL.nil _),(SL.nil _)⟩)⟩,rfl⟩
 intro hc N;refine zS<|zZ<|bE N fun y2 aG N=>zM<|tL 1 [1] [(16,vA (cProg y p3 c2 p4 c3))]<|xE (zH4 y _ aG h3 h4) ?_;rintro aV aw v2 k2 aA - ⟨xs,pa,ca,csa,pp,cp,rfl,rfl,hA,hok,hRw,hP⟩ -;have ⟨h3,h4⟩:=m2 aA h3 h4;refine zNr ([hO Raw2 (vS pa (xs.map ND.raw) ca) csa,hB b1 zTwo,hB b (cProg y p3 c2 p4 c3)]++NDs xs) (List.Perm.cons _ cL)<|xU zTwo ?_;intro b2 hb2;refine dE 0 [vS pa (xs.map ND.raw) ca,vS pp y2.Parts cp] (hB b2 [vS pa (xs.map ND.raw) ca,vS pp y2.Parts cp]::hO Raw2 (vS pa (xs.map ND.raw) ca) csa::hB b1 zTwo::hB b (cProg y p3 c2 p4 c3)::NDs xs) rfl rfl rfl rfl<|zX rfl<|zZ<|yH [7] rfl<|wI<|zDr (hO Raw2 (vS pa (xs.map ND.raw) ca) csa::hB b2 [vS pa (xs.map ND.raw) ca,vS pp y2.Parts cp]::hB b1 zTwo::hB b (cProg y p3 c2 p4 c3)::NDs xs) (List.Perm.swap _ _ _)<|qR [(1,vT name.l),(2,vP b 0),(4,vP b1 0),(6,vP b2 0),(7,vI 0)] ?_;obtain ⟨o0,az,aF⟩:=zB N;refine zDU y name y2.Arrays y2.Parts 0 o0 az iR hA hok hRw h3 h4 hP nG nO ?_ ?_
 · intro bx heq aK;subst heq;refine zR<|yW<|yE 1 [] [63] rfl<|dE 0 zTwo [hB b1 zTwo] rfl rfl rfl rfl<|wR [] [(5,vF)]<|zK<|xA ?_;exact xO aF (resE 0 rfl rfl rfl) zP ⟨_,_,rfl,rfl,⟨_,rfl,(xY ⟨_,_,rfl,(SL.nil _),(SL.nil _)⟩)⟩,rfl⟩
 intro r0 I9 hs9 m9 aS le9 aU;subst aS;refine zV<|zJ ?_;obtain rfl:=zD aF;exact fO aU
def uX (s1:(List Int)) (s2:(List Int)) (t13:Int):Option (Out Unit (Bool)):=do
 if (decide (t13<(s1.length:Int))) then
  let x<-idx s1 t13;let x1<-idx s2 t13;if (x != x1) then pure (.ret false)
  else uX s1 s2 (W (t13+1))
 else pure (.done ())
 partial_fixpoint
theorem zBg (s1:(List Int)) (s2:(List Int)):∀ (t13:Int) (o:Out Unit (Bool)),uX s1 s2 t13=some o->∀ {B}{I0 I:Imm}{Q p c p1 c1},I0.le I->(S4 I p s1 c)->(S4 I p1 s2 c1)->NG Q->NO Q->(∀ I',o=(.done ())->I0.le I'->T 26 B Q (.exit 0) I' [] [])->(∀ r I' af m',o=(.ret r)->I0.le I'->RS Tryz.prog f37 B (zT  r) I' af m'->T 26 B Q .ret I' af m')->J Tryz.prog 26 B (nav (bodyOf f37) [1,1,0,1,0]) Q I [] [(0,vS p s1 c),(1,vS p1 s2 c1),(12,vI (s1.length:Int)),(13,vI t13)]:=by
 refine uX.partial_correctness s1 s2 _ fun aE ih t13 o N B I0 I Q p c p1 c1 H h h1 hg ho hx hr=>yQ hg ho<|yH [14] rfl<|zZ<|yG N ?_ ?_
 · intro aH N;refine zS<|zZ<|yF<|yH [5] rfl<|zZ<|eI (by kernel_rfl) (by kernel_rfl)<|zAl 2 [] [16,17] rfl<|bE N fun x hy N=>zB3 rfl rfl h hy ?_;intro ad aL al aj;obtain rfl:=aj;refine zAz 0 al [vI x] (vI x) rfl<|zAl 6 [] [20,21] rfl<|bE N fun x1 ay N=>zB3 rfl rfl h1 ay ?_;intro ad1 bm au ax;obtain rfl:=ax;refine zAz 0 au [vI x1] (vI x1) rfl<|zKK [] [24] rfl<|zK<|yG N ?_ ?_
   · intro aY N;exact wT [(4,vF)]<|xF<|zV<|zJ<|zJ<|hr _ _ _ _ (zD N).symm H ⟨_,_,(resT rfl),zP,⟨_,rfl,rfl,rfl⟩⟩
   intro aY N;exact zS<|zO<|zK<|zM<|yK [] [13] rfl<|yP<|oT<|ih (W (t13+1)) _ N H h h1 hg ho hx hr
 intro aH N;exact wP<|yU<|hx _  (zD N).symm H
def pC (s1:(List Int)) (s2:(List Int)):Option (Bool):=do
 if ((s1.length:Int) != (s2.length:Int)) then pure false
 else
  match<-uX s1 s2 0 with
  | .ret r0=>pure r0
  | .done _ =>
   pure true
theorem zAc:∀ s1 s2 r,pC s1 s2=some r->∀ {I:Imm}{p c p1 c1},(S4 I p s1 c)->(S4 I p1 s2 c1)->RT 37 [vS p s1 c,vS p1 s2 c1] I [] (zT  r):=by
 intro s1 s2 r N I p c p1 c1 h h1;unfold pC at N;refine yI func37 fun B=>wT []<|zZ<|yH [10] rfl<|zK<|yG N ?_ ?_
 · intro hc N;refine wT [(4,vF)]<|xF<|zJ ?_;obtain rfl:=zD N;exact vV
 intro hc N;refine zS<|zZ<|yH [12,13] rfl<|wI<|qR [(0,vS p s1 c),(1,vS p1 s2 c1),(12,vI (s1.length:Int)),(13,vI 0)] ?_;obtain ⟨o0,az,aF⟩:=zB N;refine zBg s1 s2 0 o0 az iR h h1 nG nO ?_ ?_
 · intro I0  heq le;subst o0;refine zR<|zD7 [(4,vY)]<|zK<|xA ?_;obtain rfl:=zD aF;exact vV
 intro r0 I9 hs9 m9 aS le9 aU;subst aS;refine zV<|zJ ?_;obtain rfl:=zD aF;exact fO aU
def sX (x:zE) (y:zE):Option (Bool):=do
 let t4<-(do
   if (x.Name.l==y.Name.l) then
    let y1<-pC x.Dims y.Dims;pure (id y1)
   else
    pure false
     : Option Bool)
 pure (id t4)
theorem zDi:∀ x y r,sX x y=some r->∀ {I:Imm}{p c p1 c1},(S4 I p x.Dims c)->(S4 I p1 y.Dims c1)->RT 36 [vA (cArr x p c),vA (cArr y p1 c1)] I [] (zT  r):=by
 intro x y r N I p c p1 c1 h h1;unfold sX at N;refine yI func36 fun B=>?_;have H:=iS I;refine yB<|vJ (cArr x p c) ?_;intro b hb;refine vJ (cArr y p1 c1) ?_;intro b1 hb1;refine wR [] []<|zK<|yA ?_;refine wZ N [] (fun t4=>[(4,.bool t4)]) (fun o0 az=>?_) ?_
 · have H:=iS I;refine zM<|yE 6 [1,0] [10] rfl<|wL [10] az ?_ ?_
   · intro hc N;refine yE 10 [1,0] [12,14] rfl<|bE N fun y1 hy N=>tH (zAc x.Dims y.Dims _ hy h h1) ?_;intro aO le;have H:=H.trans le;exact yK [] [4] rfl<|wF zP<|yU<|zU (ct N H)
   intro hc N;exact wR [] [(4,vF)]<|wF zP<|yU<|zU (ct N H)
 intro t4 I0 aa aT;refine zK<|xA ?_;obtain rfl:=zD aT;exact vV
def tI (aB:List HA) (r:Bool):KT:=fun kk I' af v=>
  ∃ v0,aB=af/\v=tupV [v0]/\v0=.bool r
def yR (s1:(List zF)) (s2:(List zF)) (eq:(zF->zF->Option Bool)) (t17:Int):Option (Out Unit (Bool)):=do
 if (decide (t17<(s1.length:Int))) then
  let x<-idx s1 t17;let x1<-idx s2 t17;let y<-eq x x1;if (!y) then pure (.ret false)
  else yR s1 s2 eq (W (t17+1))
 else pure (.done ())
 partial_fixpoint
theorem nR (s1:(List zF)) (s2:(List zF)) (eq:(zF->zF->Option Bool)):∀ (t17:Int) (o:Out Unit (Bool)),yR s1 s2 eq t17=some o->∀ {B}{I0 I:Imm}{Q p c p1 c1}{fv:Value}{aB:List HA},I0.le I->(S4 I p1 s2 c1)->(FV2 Tryz.prog I aB fv eq)->(S4 I p s1 c)->NG Q->NO Q->(∀ I',o=(.done ())->I0.le I'->T 32 B Q (.exit 0) I' aB [])->(∀ r I' af m',o=(.ret r)->I0.le I'->RS Tryz.prog f75 B (tI aB r) I' af m'->T 32 B Q .ret I' af m')->J Tryz.prog 32 B (nav (bodyOf f75) [1,1,0,1,0]) Q I aB [(1,vS p1 s2 c1),(2,fv),(15,vS p s1 c),(16,vI (s1.length:Int)),(17,vI t17)]:=by
 refine yR.partial_correctness s1 s2 eq _ fun aE ih t17 o N B I0 I Q p c p1 c1 fv aB H h1 h2 h hg ho hx hr=>yQ hg ho<|yH [18] rfl<|zZ<|yG N ?_ ?_
 · intro aH N;refine zS<|zZ<|yF<|yB<|yE 1 [] [19] rfl<|bE N fun x hy N=>xR rfl rfl h hy ?_;intro ad aL al aj;obtain ⟨p2,c2,p3,c3,rfl,h3,h4⟩:=wY aj;refine xH 0 al (cLoop x p2 c2 p3 c3) (vA (cLoop x p2 c2 p3 c3)) rfl<|xU zTwo ?_;intro b hb;refine yE 5 [] [7] rfl<|dE 0 (cLoop x p2 c2 p3 c3) (hB b (cLoop x p2 c2 p3 c3)::aB) rfl rfl rfl rfl<|zX rfl<|yW<|yE 2 [] [22,23] rfl<|bE N fun x1 ay N=>xR rfl rfl h1 ay ?_;intro ad1 bm au ax;obtain ⟨p4,c4,p5,c5,rfl,h5,h6⟩:=wY ax;refine xH 0 au (cLoop x1 p4 c4 p5 c5) (vA (cLoop x1 p4 c4 p5 c5)) rfl<|xU zTwo ?_;intro b1 hb1;refine dE 0 (cLoop x1 p4 c4 p5 c5) (hB b1 (cLoop x1 p4 c4 p5 c5)::hB b (cLoop x p2 c2 p3 c3)::aB) rfl rfl rfl rfl<|zX rfl<|yW<|tL 3 [1,0] [(26,fv),(27,vA (cLoop x p2 c2 p3 c3)),(28,vA (cLoop x1 p4 c4 p5 c5))]<|bE N fun y aG N=>tX (af:=aB++[hB b1 (cLoop x1 p4 c4 p5 c5),hB b (cLoop x p2 c2 p3 c3)]) (eZ [hB b1 (cLoop x1 p4 c4 p5 c5),hB b (cLoop x p2 c2 p3 c3)] aB)<|zKt rfl rfl rfl h2 aG ⟨_,rfl,(uJ ⟨_,_,rfl,h3,h4⟩)⟩ ⟨_,rfl,(uJ ⟨_,_,rfl,h5,h6⟩)⟩ rfl ?_;rintro I0 v04 le rfl;refine tX (af:=(hB b1 (cLoop x1 p4 c4 p5 c5)::hB b (cLoop x p2 c2 p3 c3)::aB)) (eZ aB [hB b1 (cLoop x1 p4 c4 p5 c5),hB b (cLoop x p2 c2 p3 c3)]) ?_;have ⟨h1,h2,h,H⟩:=m4 le h1 h2 h H;refine yK [] [30] rfl<|zK<|yG N ?_ ?_
   · intro aY N;exact wT [(6,vF)]<|xF<|zV<|zJ<|zJ<|hr _ _ _ _ (zD N).symm H ⟨_,_,(resT rfl),(kY [hB b1 (cLoop x1 p4 c4 p5 c5),hB b (cLoop x p2 c2 p3 c3)] aB [] rfl (by decide)),⟨_,rfl,rfl,rfl⟩⟩
   intro aY N;exact zS<|zO<|zK<|zM<|yK [] [17] rfl<|yP<|pU (kY [hB b1 (cLoop x1 p4 c4 p5 c5),hB b (cLoop x p2 c2 p3 c3)] aB [] rfl (by decide))<|oT<|ih (W (t17+1)) _ N H h1 h2 h hg ho hx hr
 intro aH N;exact wP<|yU<|hx _  (zD N).symm H
def wG (s1:(List zF)) (s2:(List zF)) (eq:(zF->zF->Option Bool)):Option (Bool):=do
 if ((s1.length:Int) != (s2.length:Int)) then pure false
 else
  match<-yR s1 s2 eq 0 with
  | .ret r0=>pure r0
  | .done _ =>
   pure true
theorem mK:∀ s1 s2 eq r,wG s1 s2 eq=some r->∀ {I:Imm}{p c p1 c1}{fv:Value}{aB:List HA},(S4 I p s1 c)->(S4 I p1 s2 c1)->(FV2 Tryz.prog I aB fv eq)->RT 75 [vS p s1 c,vS p1 s2 c1,fv] I aB (tI aB r):=by
 intro s1 s2 eq r N I p c p1 c1 fv aB h h1 h2;unfold wG at N;refine yI func75 fun B=>wT []<|zZ<|yH [14] rfl<|zK<|yG N ?_ ?_
 · intro hc N;refine wT [(6,vF)]<|xF<|zJ ?_;exact xO N (resT rfl) (fun _ h=>h) ⟨_,rfl,rfl,rfl⟩
 intro hc N;refine zS<|zZ<|yH [15,16,17] rfl<|wI<|qR [(1,vS p1 s2 c1),(2,fv),(15,vS p s1 c),(16,vI (s1.length:Int)),(17,vI 0)] ?_;obtain ⟨o0,az,aF⟩:=zB N;refine nR s1 s2 eq 0 o0 az iR h1 h2 h nG nO ?_ ?_
 · intro aO  heq aa;subst o0;refine zR<|zD7 [(6,vY)]<|zK<|xA ?_;exact xO aF (resT rfl) (fun _ h=>h) ⟨_,rfl,rfl,rfl⟩
 intro r0 I9 hs9 m9 aS le9 aU;subst aS;refine zV<|zJ ?_;obtain rfl:=zD aF;exact fO aU
def uB (aB:List HA) (r:Bool):KT:=fun kk I' af v=>
  ∃ v0,aB=af/\v=tupV [v0]/\v0=.bool r
def yM (s1:(List zA)) (s2:(List zA)) (eq:(zA->zA->Option Bool)) (t17:Int):Option (Out Unit (Bool)):=do
 if (decide (t17<(s1.length:Int))) then
  let x<-idx s1 t17;let x1<-idx s2 t17;let y<-eq x x1;if (!y) then pure (.ret false)
  else yM s1 s2 eq (W (t17+1))
 else pure (.done ())
 partial_fixpoint
theorem pO (s1:(List zA)) (s2:(List zA)) (eq:(zA->zA->Option Bool)):∀ (t17:Int) (o:Out Unit (Bool)),yM s1 s2 eq t17=some o->∀ {B}{I0 I:Imm}{Q p c p1 c1}{fv:Value}{aB:List HA},I0.le I->(S4 I p1 s2 c1)->(FV2 Tryz.prog I aB fv eq)->(S4 I p s1 c)->NG Q->NO Q->(∀ I',o=(.done ())->I0.le I'->T 32 B Q (.exit 0) I' aB [])->(∀ r I' af m',o=(.ret r)->I0.le I'->RS Tryz.prog f77 B (uB aB r) I' af m'->T 32 B Q .ret I' af m')->J Tryz.prog 32 B (nav (bodyOf f77) [1,1,0,1,0]) Q I aB [(1,vS p1 s2 c1),(2,fv),(15,vS p s1 c),(16,vI (s1.length:Int)),(17,vI t17)]:=by
 refine yM.partial_correctness s1 s2 eq _ fun aE ih t17 o N B I0 I Q p c p1 c1 fv aB H h1 h2 h hg ho hx hr=>yQ hg ho<|yH [18] rfl<|zZ<|yG N ?_ ?_
 · intro aH N;refine zS<|zZ<|yF<|yB<|yE 1 [] [19] rfl<|bE N fun x hy N=>xR rfl rfl h hy ?_;intro ad aL al aj;obtain ⟨p2,c2,rfl,h3⟩:=yD aj;refine xH 0 al (cAff x p2 c2) (vA (cAff x p2 c2)) rfl<|xU [z0,vI 0] ?_;intro b hb;refine yE 5 [] [7] rfl<|dE 0 (cAff x p2 c2) (hB b (cAff x p2 c2)::aB) rfl rfl rfl rfl<|zX rfl<|yW<|yE 2 [] [22,23] rfl<|bE N fun x1 ay N=>xR rfl rfl h1 ay ?_;intro ad1 bm au ax;obtain ⟨p3,c3,rfl,h4⟩:=yD ax;refine xH 0 au (cAff x1 p3 c3) (vA (cAff x1 p3 c3)) rfl<|xU [z0,vI 0] ?_;intro b1 hb1;refine dE 0 (cAff x1 p3 c3) (hB b1 (cAff x1 p3 c3)::hB b (cAff x p2 c2)::aB) rfl rfl rfl rfl<|zX rfl<|yW<|tL 3 [1,0] [(26,fv),(27,vA (cAff x p2 c2)),(28,vA (cAff x1 p3 c3))]<|bE N fun y aG N=>tX (af:=aB++[hB b1 (cAff x1 p3 c3),hB b (cAff x p2 c2)]) (eZ [hB b1 (cAff x1 p3 c3),hB b (cAff x p2 c2)] aB)<|zKt rfl rfl rfl h2 aG ⟨_,rfl,(yJ ⟨_,rfl,h3⟩)⟩ ⟨_,rfl,(yJ ⟨_,rfl,h4⟩)⟩ rfl ?_;rintro I0 v02 le rfl;refine tX (af:=(hB b1 (cAff x1 p3 c3)::hB b (cAff x p2 c2)::aB)) (eZ aB [hB b1 (cAff x1 p3 c3),hB b (cAff x p2 c2)]) ?_;have ⟨h1,h2,h,H⟩:=m4 le h1 h2 h H;refine yK [] [30] rfl<|zK<|yG N ?_ ?_
   · intro aY N;exact wT [(6,vF)]<|xF<|zV<|zJ<|zJ<|hr _ _ _ _ (zD N).symm H ⟨_,_,(resT rfl),(kY [hB b1 (cAff x1 p3 c3),hB b (cAff x p2 c2)] aB [] rfl (by decide)),⟨_,rfl,rfl,rfl⟩⟩
   intro aY N;exact zS<|zO<|zK<|zM<|yK [] [17] rfl<|yP<|pU (kY [hB b1 (cAff x1 p3 c3),hB b (cAff x p2 c2)] aB [] rfl (by decide))<|oT<|ih (W (t17+1)) _ N H h1 h2 h hg ho hx hr
 intro aH N;exact wP<|yU<|hx _  (zD N).symm H
def yN (s1:(List zA)) (s2:(List zA)) (eq:(zA->zA->Option Bool)):Option (Bool):=do
 if ((s1.length:Int) != (s2.length:Int)) then pure false
 else
  match<-yM s1 s2 eq 0 with
  | .ret r0=>pure r0
  | .done _ =>
   pure true
theorem wM:∀ s1 s2 eq r,yN s1 s2 eq=some r->∀ {I:Imm}{p c p1 c1}{fv:Value}{aB:List HA},(S4 I p s1 c)->(S4 I p1 s2 c1)->(FV2 Tryz.prog I aB fv eq)->RT 77 [vS p s1 c,vS p1 s2 c1,fv] I aB (uB aB r):=by
 intro s1 s2 eq r N I p c p1 c1 fv aB h h1 h2;unfold yN at N;refine yI func77 fun B=>wT []<|zZ<|yH [14] rfl<|zK<|yG N ?_ ?_
 · intro hc N;refine wT [(6,vF)]<|xF<|zJ ?_;exact xO N (resT rfl) (fun _ h=>h) ⟨_,rfl,rfl,rfl⟩
 intro hc N;refine zS<|zZ<|yH [15,16,17] rfl<|wI<|qR [(1,vS p1 s2 c1),(2,fv),(15,vS p s1 c),(16,vI (s1.length:Int)),(17,vI 0)] ?_;obtain ⟨o0,az,aF⟩:=zB N;refine pO s1 s2 eq 0 o0 az iR h1 h2 h nG nO ?_ ?_
 · intro aO  heq aa;subst o0;refine zR<|zD7 [(6,vY)]<|zK<|xA ?_;exact xO aF (resT rfl) (fun _ h=>h) ⟨_,rfl,rfl,rfl⟩
 intro r0 I9 hs9 m9 aS le9 aU;subst aS;refine zV<|zJ ?_;obtain rfl:=zD aF;exact fO aU
def wK (a0:zA) (b:zA):Option (Bool):=do
 let t4<-(do
   let y<-pC a0.Coefs b.Coefs;if y then pure (a0.Const==b.Const)
   else
    pure false
     : Option Bool)
 pure (id t4)
theorem eU:∀ a0 b r,wK a0 b=some r->∀ {I:Imm}{p c p1 c1},(S4 I p a0.Coefs c)->(S4 I p1 b.Coefs c1)->RT 78 [vA (cAff a0 p c),vA (cAff b p1 c1)] I [] (zT  r):=by
 intro a0 b r N I p c p1 c1 h h1;unfold wK at N;refine yI func78 fun B=>?_;have H:=iS I;refine yB<|vJ (cAff a0 p c) ?_;intro b1 hb;refine vJ (cAff b p1 c1) ?_;intro b2 hb1;refine wR [] []<|zK<|yA ?_;refine wZ N [] (fun t4=>[(4,.bool t4)]) (fun o0 az=>?_) ?_
 · have H:=iS I;refine zM<|yE 4 [1,0] [6,8] rfl ?_;obtain ⟨y,hy,N⟩:=zB az;refine tH (zAc a0.Coefs b.Coefs _ hy h h1) ?_;intro aO le;have H:=H.trans le;refine yE 6 [] [10] rfl<|wL [10] N ?_ ?_
   · intro hc N;exact yK [1,0] [4] rfl<|wF zP<|yU<|zU (ct N H)
   intro hc N;exact wR [] [(4,vF)]<|wF zP<|yU<|zU (ct N H)
 intro t4 I0 aa aT;refine zK<|xA ?_;obtain rfl:=zD aT;exact vV
def pT (x:zF) (y:zF):Option (Bool):=do
 let t4<-(do
   let y1<-yN x.Lo y.Lo wK;if y1 then
    let y2<-yN x.Hi y.Hi wK;pure (id y2)
   else
    pure false
     : Option Bool)
 pure (id t4)
theorem zF5:∀ x y r,pT x y=some r->∀ {I:Imm}{p c p1 c1 p2 c2 p3 c3},(S4 I p x.Lo c)->(S4 I p1 x.Hi c1)->(S4 I p2 y.Lo c2)->(S4 I p3 y.Hi c3)->RT 76 [vA (cLoop x p c p1 c1),vA (cLoop y p2 c2 p3 c3)] I [] (zT  r):=by
 intro x y r N I p c p1 c1 p2 c2 p3 c3 h h1 h2 h3;unfold pT at N;refine yI func76 fun B=>?_;have H:=iS I;refine yB<|vJ (cLoop x p c p1 c1) ?_;intro b hb;refine vJ (cLoop y p2 c2 p3 c3) ?_;intro b1 hb1;refine wR [] []<|zK<|yA ?_;refine wZ N [] (fun t4=>[(4,.bool t4)]) (fun o0 az=>?_) ?_
 · have H:=iS I;refine zM<|yE 4 [1,0] [6,8] rfl ?_;have hf0:FV2 Tryz.prog I [] (.func (.func 78) ⟨[]⟩ ⟨[]⟩) wK:=by
     refine FV2.intro ?_;intro I1 aa x0 x1 r u0 u1 hF k0 k1;obtain ⟨_,rfl,k0⟩:=k0;obtain ⟨p4,c4,rfl,h4⟩:=yD k0;obtain ⟨_,rfl,k1⟩:=k1;obtain ⟨p5,c5,rfl,h5⟩:=yD k1;exact (eU x0 x1 r hF h4 h5).mono (by rintro k i hs u ⟨v0,rfl,rfl,h⟩; exact ⟨rfl,h⟩)
   obtain ⟨y1,hy,N⟩:=zB az;refine xE (wM x.Lo y.Lo wK _ hy h h2 hf0) ?_;rintro aO aw v2 k2 le - ⟨v02,rfl,rfl,rfl⟩ -;have ⟨h3,h,h1,H⟩:=m4 le h3 h h1 H;refine yE 6 [] [10] rfl<|wL [10] N ?_ ?_
   · intro hc N;refine yE 10 [1,0] [12,14] rfl ?_;have hf01:FV2 Tryz.prog aO [] (.func (.func 78) ⟨[]⟩ ⟨[]⟩) wK:=by
       refine FV2.intro ?_;intro I1 aa x0 x1 r u0 u1 hF k0 k1;obtain ⟨_,rfl,k0⟩:=k0;obtain ⟨p6,c6,rfl,h7⟩:=yD k0;obtain ⟨_,rfl,k1⟩:=k1;obtain ⟨p7,c7,rfl,h8⟩:=yD k1;exact (eU x0 x1 r hF h7 h8).mono (by rintro k i hs u ⟨v0,rfl,rfl,h⟩; exact ⟨rfl,h⟩)
     obtain ⟨y2,ay,N⟩:=zB N;refine xE (wM x.Hi y.Hi wK _ ay h1 h3 hf01) ?_;rintro aV aw v2 k2 aa - ⟨v05,rfl,rfl,rfl⟩ -;have H:=H.trans aa;exact yK [] [4] rfl<|wF zP<|yU<|zU (ct N H)
   intro hc N;exact wR [] [(4,vF)]<|wF zP<|yU<|zU (ct N H)
 intro t4 I0 aA aT;refine zK<|xA ?_;obtain rfl:=zD aT;exact vV
def eY (a0:(List zF)) (b:(List zF)):Option (Bool):=do
 let y<-wG a0 b pT;pure (id y)
theorem zHJ:∀ a0 b r,eY a0 b=some r->∀ {I:Imm}{p c p1 c1},(S4 I p a0 c)->(S4 I p1 b c1)->RT 39 [vS p a0 c,vS p1 b c1] I [] (zT  r):=by
 intro a0 b r N I p c p1 c1 h h1;unfold eY at N;refine yI func39 fun B=>wT []<|yW<|yE 2 [] [5,6] rfl ?_;have hf0:FV2 Tryz.prog I [] (.func (.func 76) ⟨[]⟩ ⟨[]⟩) pT:=by
   refine FV2.intro ?_;intro I1 aa x0 x1 r u0 u1 hF k0 k1;obtain ⟨_,rfl,k0⟩:=k0;obtain ⟨p2,c2,p3,c3,rfl,h2,h3⟩:=wY k0;obtain ⟨_,rfl,k1⟩:=k1;obtain ⟨p4,c4,p5,c5,rfl,h4,h5⟩:=wY k1;exact (zF5 x0 x1 r hF h2 h3 h4 h5).mono (by rintro k i hs u ⟨v0,rfl,rfl,h⟩; exact ⟨rfl,h⟩)
 obtain ⟨y,hy,N⟩:=zB N;refine xE (mK a0 b pT _ hy h h1 hf0) ?_;rintro I0 aw v2 k2 le - ⟨v04,rfl,rfl,rfl⟩ -;refine yK [] [4] rfl<|zK<|xA ?_;obtain rfl:=zD N;exact vV
def tJ (aB:List HA) (r:Bool):KT:=fun kk I' af v=>
  ∃ v0,aB=af/\v=tupV [v0]/\v0=.bool r
def yS (s1:(List zL)) (s2:(List zL)) (eq:(zL->zL->Option Bool)) (t17:Int):Option (Out Unit (Bool)):=do
 if (decide (t17<(s1.length:Int))) then
  let x<-idx s1 t17;let x1<-idx s2 t17;let y<-eq x x1;if (!y) then pure (.ret false)
  else yS s1 s2 eq (W (t17+1))
 else pure (.done ())
 partial_fixpoint
theorem nS (s1:(List zL)) (s2:(List zL)) (eq:(zL->zL->Option Bool)):∀ (t17:Int) (o:Out Unit (Bool)),yS s1 s2 eq t17=some o->∀ {B}{I0 I:Imm}{Q p c p1 c1}{fv:Value}{aB:List HA},I0.le I->(S4 I p1 s2 c1)->(FV2 Tryz.prog I aB fv eq)->(S4 I p s1 c)->NG Q->NO Q->(∀ I',o=(.done ())->I0.le I'->T 32 B Q (.exit 0) I' aB [])->(∀ r I' af m',o=(.ret r)->I0.le I'->RS Tryz.prog f40 B (tJ aB r) I' af m'->T 32 B Q .ret I' af m')->J Tryz.prog 32 B (nav (bodyOf f40) [1,1,0,1,0]) Q I aB [(1,vS p1 s2 c1),(2,fv),(15,vS p s1 c),(16,vI (s1.length:Int)),(17,vI t17)]:=by
 refine yS.partial_correctness s1 s2 eq _ fun aE ih t17 o N B I0 I Q p c p1 c1 fv aB H h1 h2 h hg ho hx hr=>yQ hg ho<|yH [18] rfl<|zZ<|yG N ?_ ?_
 · intro aH N;refine zS<|zZ<|yF<|yB<|yE 1 [] [19] rfl<|bE N fun x hy N=>xR rfl rfl h hy ?_;intro ad aL al aj;obtain ⟨p2,c2,p3,c3,p4,c4,p5,c5,rfl,h3,h4,h5,h6⟩:=wV aj;refine xH 0 al (cStmt x p2 c2 p3 c3 p4 c4 p5 c5) (vA (cStmt x p2 c2 p3 c3 p4 c4 p5 c5)) rfl<|xU [vT ([]),z0,vI 0,vI 0,z0,vI 0,vT ([]),z0,z0] ?_;intro b hb;refine yE 5 [] [7] rfl<|dE 0 (cStmt x p2 c2 p3 c3 p4 c4 p5 c5) (hB b (cStmt x p2 c2 p3 c3 p4 c4 p5 c5)::aB) rfl rfl rfl rfl<|zX rfl<|yW<|yE 2 [] [22,23] rfl<|bE N fun x1 ay N=>xR rfl rfl h1 ay ?_;intro ad1 bm au ax;obtain ⟨p6,c6,p7,c7,p8,c8,p9,c9,rfl,h7,h8,h9,h10⟩:=wV ax;refine xH 0 au (cStmt x1 p6 c6 p7 c7 p8 c8 p9 c9) (vA (cStmt x1 p6 c6 p7 c7 p8 c8 p9 c9)) rfl<|xU [vT ([]),z0,vI 0,vI 0,z0,vI 0,vT ([]),z0,z0] ?_;intro b1 hb1;refine dE 0 (cStmt x1 p6 c6 p7 c7 p8 c8 p9 c9) (hB b1 (cStmt x1 p6 c6 p7 c7 p8 c8 p9 c9)::hB b (cStmt x p2 c2 p3 c3 p4 c4 p5 c5)::aB) rfl rfl rfl rfl<|zX rfl<|yW<|tL 3 [1,0] [(26,fv),(27,vA (cStmt x p2 c2 p3 c3 p4 c4 p5 c5)),(28,vA (cStmt x1 p6 c6 p7 c7 p8 c8 p9 c9))]<|bE N fun y aG N=>tX (af:=aB++[hB b1 (cStmt x1 p6 c6 p7 c7 p8 c8 p9 c9),hB b (cStmt x p2 c2 p3 c3 p4 c4 p5 c5)]) (eZ [hB b1 (cStmt x1 p6 c6 p7 c7 p8 c8 p9 c9),hB b (cStmt x p2 c2 p3 c3 p4 c4 p5 c5)] aB)<|zKt rfl rfl rfl h2 aG ⟨_,rfl,(wC ⟨_,_,_,_,rfl,h3,h4,h5,h6⟩)⟩ ⟨_,rfl,(wC ⟨_,_,_,_,rfl,h7,h8,h9,h10⟩)⟩ rfl ?_;rintro I0 v08 le rfl;refine tX (af:=(hB b1 (cStmt x1 p6 c6 p7 c7 p8 c8 p9 c9)::hB b (cStmt x p2 c2 p3 c3 p4 c4 p5 c5)::aB)) (eZ aB [hB b1 (cStmt x1 p6 c6 p7 c7 p8 c8 p9 c9),hB b (cStmt x p2 c2 p3 c3 p4 c4 p5 c5)]) ?_;have ⟨h1,h2,h,H⟩:=m4 le h1 h2 h H;refine yK [] [30] rfl<|zK<|yG N ?_ ?_
   · intro aY N;exact wT [(6,vF)]<|xF<|zV<|zJ<|zJ<|hr _ _ _ _ (zD N).symm H ⟨_,_,(resT rfl),(kY [hB b1 (cStmt x1 p6 c6 p7 c7 p8 c8 p9 c9),hB b (cStmt x p2 c2 p3 c3 p4 c4 p5 c5)] aB [] rfl (by decide)),⟨_,rfl,rfl,rfl⟩⟩
   intro aY N;exact zS<|zO<|zK<|zM<|yK [] [17] rfl<|yP<|pU (kY [hB b1 (cStmt x1 p6 c6 p7 c7 p8 c8 p9 c9),hB b (cStmt x p2 c2 p3 c3 p4 c4 p5 c5)] aB [] rfl (by decide))<|oT<|ih (W (t17+1)) _ N H h1 h2 h hg ho hx hr
 intro aH N;exact wP<|yU<|hx _  (zD N).symm H
def xM (s1:(List zL)) (s2:(List zL)) (eq:(zL->zL->Option Bool)):Option (Bool):=do
 if ((s1.length:Int) != (s2.length:Int)) then pure false
 else
  match<-yS s1 s2 eq 0 with
  | .ret r0=>pure r0
  | .done _ =>
   pure true
theorem mL:∀ s1 s2 eq r,xM s1 s2 eq=some r->∀ {I:Imm}{p c p1 c1}{fv:Value}{aB:List HA},(S4 I p s1 c)->(S4 I p1 s2 c1)->(FV2 Tryz.prog I aB fv eq)->RT 40 [vS p s1 c,vS p1 s2 c1,fv] I aB (tJ aB r):=by
 intro s1 s2 eq r N I p c p1 c1 fv aB h h1 h2;unfold xM at N;refine yI func40 fun B=>wT []<|zZ<|yH [14] rfl<|zK<|yG N ?_ ?_
 · intro hc N;refine wT [(6,vF)]<|xF<|zJ ?_;exact xO N (resT rfl) (fun _ h=>h) ⟨_,rfl,rfl,rfl⟩
 intro hc N;refine zS<|zZ<|yH [15,16,17] rfl<|wI<|qR [(1,vS p1 s2 c1),(2,fv),(15,vS p s1 c),(16,vI (s1.length:Int)),(17,vI 0)] ?_;obtain ⟨o0,az,aF⟩:=zB N;refine nS s1 s2 eq 0 o0 az iR h1 h2 h nG nO ?_ ?_
 · intro aO  heq aa;subst o0;refine zR<|zD7 [(6,vY)]<|zK<|xA ?_;exact xO aF (resT rfl) (fun _ h=>h) ⟨_,rfl,rfl,rfl⟩
 intro r0 I9 hs9 m9 aS le9 aU;subst aS;refine zV<|zJ ?_;obtain rfl:=zD aF;exact fO aU
def kW (a0:zG) (b:zG):Option (Bool):=do
 let t4<-(do
   if (a0.Array.l==b.Array.l) then
    let y<-yN a0.Subs b.Subs wK;pure (id y)
   else
    pure false
     : Option Bool)
 pure (id t4)
theorem zBh:∀ a0 b r,kW a0 b=some r->∀ {I:Imm}{p c p1 c1},(S4 I p a0.Subs c)->(S4 I p1 b.Subs c1)->RT 79 [vA (cAccess a0 p c),vA (cAccess b p1 c1)] I [] (zT  r):=by
 intro a0 b r N I p c p1 c1 h h1;unfold kW at N;refine yI func79 fun B=>?_;have H:=iS I;refine yB<|vJ (cAccess a0 p c) ?_;intro b1 hb;refine vJ (cAccess b p1 c1) ?_;intro b2 hb1;refine wR [] []<|zK<|yA ?_;refine wZ N [] (fun t4=>[(4,.bool t4)]) (fun o0 az=>?_) ?_
 · have H:=iS I;refine zM<|yE 6 [1,0] [10] rfl<|wL [10] az ?_ ?_
   · intro hc N;refine yE 10 [1,0] [12,14] rfl ?_;have hf0:FV2 Tryz.prog I [] (.func (.func 78) ⟨[]⟩ ⟨[]⟩) wK:=by
       refine FV2.intro ?_;intro I1 aa x0 x1 r u0 u1 hF k0 k1;obtain ⟨_,rfl,k0⟩:=k0;obtain ⟨p2,c2,rfl,h2⟩:=yD k0;obtain ⟨_,rfl,k1⟩:=k1;obtain ⟨p3,c3,rfl,h3⟩:=yD k1;exact (eU x0 x1 r hF h2 h3).mono (by rintro k i hs u ⟨v0,rfl,rfl,h⟩; exact ⟨rfl,h⟩)
     obtain ⟨y,hy,N⟩:=zB N;refine xE (wM a0.Subs b.Subs wK _ hy h h1 hf0) ?_;rintro aO aw v2 k2 le - ⟨v02,rfl,rfl,rfl⟩ -;have H:=H.trans le;exact yK [] [4] rfl<|wF zP<|yU<|zU (ct N H)
   intro hc N;exact wR [] [(4,vF)]<|wF zP<|yU<|zU (ct N H)
 intro t4 I0 aa aT;refine zK<|xA ?_;obtain rfl:=zD aT;exact vV
end Go.LN
