/- Helper of the proof (see the last text). -/
import Derived.Test.YtcmjkmdecmabaaaGreatHM2
set_option linter.unusedVariables false
set_option linter.unusedSimpArgs false
namespace Go.LN
open Go.Proofs Go.Proofs.Tryz
set_option maxRecDepth 20000
def vJ(part:Int)(stmts:Int)(t:tH)(y5:(List yR))(x1:zC)(t47:Int):Option (Out zC (zC×Bool)):=do
 if(decide (t47<(y5.length:Int))) then
  let x3<-idx y5 t47;let x4<-idx t.list x3.From;let x5<-idx t.list x3.To;let t88<-(do
   if(x4.Part==part) then
    if(x5.Part==part) then
     if(decide (x5.Stmt<stmts)) then pure (decide (x4.Stmt>=stmts))
     else pure false
    else pure false
   else
    pure false
     : Option Bool)
  if t88 then pure (.ret ((zC.mk ([]:List zD) ([]:List zF)),false))
  else vJ part stmts t y5 x1 (W (t47+1))
 else pure (.done x1)
 partial_fixpoint
theorem zBt(part:Int)(stmts:Int)(t:tH)(y5:(List yR))(x1:zC):∀(t47:Int) (o:Out zC (zC×Bool)),vJ part stmts t y5 x1 t47=some o->∀{B}{I0 I:Imm}{Q}{y:zC}{x:zF}{b1 pn pq pa pp cn cq ca cp}{csp:List Value}{ad:Addr}{b3}{ad1:Addr}{p3 c2 p4 c3 p5 c4 p6 c5 p7 c6 p8 c7 p9 c8 aL c9},I0.le I->(S4 I pn x.Nest cn)->(S4 I pq x.Body cq)->(S4 I p3 t.Program.Arrays c2)->(S4 I p4 t.Program.Parts c3)->(S4 I p5 t.list c4)->(S4 I p6 t.reads c5)->(S4 I p7 t.writes c6)->(At I ad1 [vS p3 t.Program.Arrays c2,vS p4 t.Program.Parts c3,vS p5 t.list c4,vS p6 t.reads c5,vS p7 t.writes c6])->(S4 I p8 y5 c7)->(S4 I pa y.Arrays ca)->(RL I csp y.Parts)->(S4 I p9 x1.Arrays c8)->(S4 I aL x1.Parts c9)->NG Q->NO Q->(∀I' x2 aF aO bj aQ,o=(.done x2)->I0.le I'->(S4 I' aF x2.Arrays aO)->(S4 I' bj x2.Parts aQ)->T 125 B Q (.exit 0) I' [hB b3 (cProg y pa ca pp cp),hO zF (vS pp y.Parts cp) csp,hB b1 (cProg x2 aF aO bj aQ)] [(1,vI part),(2,vI stmts),(6,vP b1 0),(8,vP b3 0),(9,.pointer (some ad))])->(∀r I' ag m',o=(.ret r)->I0.le I'->RS Tryz.prog f17 B (mK  r) I' ag m'->T 125 B Q .ret I' ag m')->J Tryz.prog 125 B (nav (bodyOf f17) [1,1,1,1,0,1,0]) Q I [hB b3 (cProg y pa ca pp cp),hO zF (vS pp y.Parts cp) csp,hB b1 (cProg x1 p9 c8 aL c9)] [(1,vI part),(2,vI stmts),(6,vP b1 0),(8,vP b3 0),(9,.pointer (some ad)),(11,.pointer (some ad1)),(45,vS p8 y5 c7),(46,vI (y5.length:Int)),(47,vI t47)]:=by
 refine vJ.partial_correctness part stmts t y5 x1 _ λaJ ih t47 o N B I0 I Q y x b1 pn pq pa pp cn cq ca cp csp ad b3 ad1 p3 c2 p4 c3 p5 c4 p6 c5 p7 c6 p8 c7 p9 c8 aL c9 H h10 h11 h16 h17 h18 h19 h20 aq h21 h2 h12 h22 h23 hg ho hx hr=>yX hg ho<|yK [48] rfl<|yA<|yH N ?_ ?_
 ·intro aH N;refine zT<|yA<|yL<|yD<|bE N λx3 bC N=>xW rfl rfl h21 bC ?_;intro ad2 bq aw ay;obtain rfl:=zEp ay;refine xM 0 aw [vI x3.From,vI x3.To,vI x3.Kinds] (vA [vI x3.From,vI x3.To,vI x3.Kinds]) rfl<|xY [vI 0,vI 0,vI 0] ?_;intro b4 hb3;refine xC 0 [vI x3.From,vI x3.To,vI x3.Kinds] rfl<|zY rfl<|zK<|yC ?_;obtain⟨x4,hy6,N⟩:=zB N;obtain⟨x5,hy7,N⟩:=zB N;refine wP [.p (.pointer (some ad1)) [],.p (.pointer (some ad1)) [],.p (.pointer (some (ad1.add 2))) [],.q (vS p5 t.list c4),.p (vP b4 0) [],.p (vI x3.From) [0],.x (ePInst x4),.x (eVInst x4),.p (.pointer (some ad1)) [],.p (.pointer (some ad1)) [],.p (.pointer (some (ad1.add 2))) [],.q (vS p5 t.list c4),.p (vP b4 1) [],.p (vI x3.To) [0],.x (ePInst x5),.x (eVInst x5),.x (λI' v hx=>∃b5,v=vP b5 0/\hx=[hB b5 [vI 0,vI 0,z0]]),.x (λI' v hx=>∃b6,v=vP b6 0/\hx=[hB b6 [vI 0,vI 0,z0]]),.x (λI' v hx=>∃b51 p1311 c1211,v=vP b51 0/\hx=[hB b51 (cInst x4 p1311 c1211)]/\(S4 I' p1311 x4.Point c1211))] [[],[(0,false)],[(1,false)],[(2,false)],[],[(4,false)],[(3,false),(5,false)],[(6,false)],[],[(8,false)],[(9,false)],[(10,false)],[],[(12,false)],[(11,false),(13,false)],[(14,false)],[],[],[(7,false),(16,true)]] [hB b4 [vI x3.From,vI x3.To,vI x3.Kinds],hB b3 (cProg y pa ca pp cp),hO zF (vS pp y.Parts cp) csp,hB b1 (cProg x1 p9 c8 aL c9)] [] [(15,false),(17,true),(18,true)] (zZ [0,1,2,3]) ?_ ?_
  ·refine O3<|Oq ?_<|O2<|Ox ?_<|Ox ?_<|O3<|Oq ?_<|O2<|Ox ?_<|Ox ?_<|Ox ?_<|Ox ?_<|Ox ?_<|On
   ·intro I1 hf aa;refine yW [53] rfl ?_;have aq:=aq.mono aa;exact xM 2 aq [vS p5 t.list c4] (vS p5 t.list c4) rfl<|xO iR
   ·intro I1 hf aa;refine yW [54,56] rfl ?_;have h18:=h18.mono aa;refine xW rfl rfl h18 hy6 ?_;intro ad3 bL bk br;obtain⟨bc,aZ,rfl,h26⟩:=oH br;exact yN [] iR ⟨_,_,_,rfl,rfl,bk,h26⟩
   ·rintro I1 hf aa _ _ ⟨ad3,bc,aZ,rfl,rfl,bk,h26⟩;exact yW [57] rfl<|xM 0 bk (cInst x4 bc aZ) (vA (cInst x4 bc aZ)) rfl<|yN [] iR ⟨_,_,rfl,rfl,h26⟩
   ·intro I1 hf aa;refine yW [61] rfl ?_;have aq:=aq.mono aa;exact xM 2 aq [vS p5 t.list c4] (vS p5 t.list c4) rfl<|xO iR
   ·intro I1 hf aa;refine yW [62,64] rfl ?_;have h18:=h18.mono aa;refine xW rfl rfl h18 hy7 ?_;intro ad4 ccs3 hat3 bB;obtain⟨p14,bd,rfl,h27⟩:=oH bB;exact yN [] iR ⟨_,_,_,rfl,rfl,hat3,h27⟩
   ·rintro I1 hf aa _ _ ⟨ad4,p14,bd,rfl,rfl,hat3,h27⟩;exact yW [65] rfl<|xM 0 hat3 (cInst x5 p14 bd) (vA (cInst x5 p14 bd)) rfl<|yN [] iR ⟨_,_,rfl,rfl,h27⟩
   ·intro I1 hf aa;refine I_h []<|xY [vI 0,vI 0,z0] ?_;intro b5 hb4;exact yN [hB b5 [vI 0,vI 0,z0]] iR ⟨_,rfl,rfl⟩
   ·intro I1 hf aa;refine I_h []<|xY [vI 0,vI 0,z0] ?_;intro b6 hb5;exact yN [hB b6 [vI 0,vI 0,z0]] iR ⟨_,rfl,rfl⟩
   rintro I1 hf aa _ _ ⟨p131,c121,rfl,rfl,h261⟩ _ _ ⟨b5,rfl,rfl⟩;exact yW [15,58] rfl<|jV 0 (cInst x4 p131 c121) (hB b5 (cInst x4 p131 c121)::hB b4 [vI x3.From,vI x3.To,vI x3.Kinds]::hB b3 (cProg y pa ca pp cp)::hO zF (vS pp y.Parts cp) csp::hB b1 (cProg x1 p9 c8 aL c9)::hf) rfl rfl rfl rfl<|yN [hB b5 (cInst x4 p131 c121)] iR ⟨_,_,_,rfl,rfl,h261⟩
  rintro I06 bv _ _ ⟨p141,c131,rfl,rfl,h271⟩ _ _ ⟨b6,rfl,rfl⟩ _ _ ⟨b51,p1311,c1211,rfl,rfl,h2611⟩;refine yW [1,2,6,8,9,11,15,16,45,46,47,66] rfl ?_;have ⟨h10,h11,h16,h17,h18,h19⟩:=m6 bv h10 h11 h16 h17 h18 h19;have ⟨h20,aq,h21,h2,h12,h22⟩:=m6 bv h20 aq h21 h2 h12 h22;have ⟨h23,H⟩:=m2 bv h23 H;refine xC 1 (cInst x5 p141 c131) rfl<|zY rfl<|zK<|yC ?_;refine vQ N [hB b3 (cProg y pa ca pp cp),hO zF (vS pp y.Parts cp) csp,hB b1 (cProg x1 p9 c8 aL c9)] (λt88=>[(1,vI part),(2,vI stmts),(6,vP b1 0),(8,vP b3 0),(9,.pointer (some ad)),(11,.pointer (some ad1)),(45,vS p8 y5 c7),(46,vI (y5.length:Int)),(47,vI t47),(88,.bool t88)]) (λaU aB=>?_) ?_
  ·have H:=iS I06;refine zL<|yG 5 [0] [71] rfl<|wR [71] aB ?_ ?_
   ·intro ba N;refine yG 11 [1] [77] rfl<|wR [77] N ?_ ?_
    ·intro bD N;refine yG 17 [1] [83] rfl<|wR [83] N ?_ ?_
     ·intro bJ N;exact yQ [0] [88] rfl<|wK (zX [3,4,5] rfl (by decide))<|yZ<|zU (ct N H)
     intro bJ N;exact wM [] [(88,vF)]<|wK (zX [3,4,5] rfl (by decide))<|yZ<|zU (ct N H)
    intro bD N;exact wM [] [(88,vF)]<|wK (zX [3,4,5] rfl (by decide))<|yZ<|zU (ct N H)
   intro ba N;exact wM [] [(88,vF)]<|wK (zX [3,4,5] rfl (by decide))<|yZ<|zU (ct N H)
  intro t88 I07 le7 hMc1;have ⟨h10,h11,h16,h17,h18,h19⟩:=m6 le7 h10 h11 h16 h17 h18 h19;have ⟨h20,aq,h21,h2,h12,h22⟩:=m6 le7 h20 aq h21 h2 h12 h22;have ⟨h23,H⟩:=m2 le7 h23 H;refine zK<|yH hMc1 ?_ ?_
  ·intro hc5 N;exact yD<|yG 1 [] [89] rfl<|jV 2 zTwo [hB b3 (cProg y pa ca pp cp),hO zF (vS pp y.Parts cp) csp,hB b1 zTwo] rfl rfl rfl rfl<|wM [] [(7,vF)]<|xH<|zV<|zJ<|zJ<|hr _ _ _ _ (zE N).symm H ⟨_,_,(resE 2 rfl rfl rfl),zO,⟨_,_,rfl,rfl,⟨_,rfl,(xJ ⟨_,_,rfl,(SL.nil _),(SL.nil _)⟩)⟩,rfl⟩⟩
  intro hc5 N;exact zT<|zN<|zK<|zL<|yQ [] [47] rfl<|yV<|nX<|ih (W (t47+1)) _ N H h10 h11 h16 h17 h18 h19 h20 aq h21 h2 h12 h22 h23 hg ho hx hr
 intro aH N;exact wW<|yZ<|hx _ _ _ _ _ _ (zE N).symm H h22 h23
def jS(p:zC)(part:Int)(stmts:Int):Option (zC×Bool):=do
 match<-zAG p part with
 | none=>
  pure ((zC.mk [] []),false)
 | some y=>
  let x<-idx y.Parts part;let t37<-(do
   let y1<-wX stmts 1 (W ((x.Body.length:Int) - 1));pure (!y1)
    : Option Bool)
  if t37 then pure ((zC.mk ([]:List zD) ([]:List zF)),false)
  else
   let (y3,y4)<-zAF p;let t<-y3;let y5<-mJ t
   match<-vJ part stmts t y5 (zC.mk ([]:List zD) ([]:List zF)) 0 with
   | .ret r0=>pure r0
   | .done x2=>
    let y6<-fU x.Nest;let l<-slc x.Body stmts (x.Body.length:Int);let y7<-uT l;let l1<-slc x.Body 0 stmts;let l2<-pure (y.Parts.set part.toNat (zF.mk x.Nest l1));let y8<-uM l2 (W (part+1)) ([(zF.mk y6 y7)]:List zF);let (y10,y11)<-gD (zC.mk y.Arrays y8);pure (y10,y11)
theorem zJw:∀p part stmts r,jS p part stmts=some r->∀{I:Imm}{p1 c p2 c1},(S4 I p1 p.Arrays c)->(S4 I p2 p.Parts c1)->RT 17 [vA (cProg p p1 c p2 c1),vI part,vI stmts] I [] (mK  r):=by
 intro p part stmts r N I p1 c p2 c1 h h1;unfold jS at N;refine yM func17 λB=>?_;have H:=iS I;refine yD<|vC (cProg p p1 c p2 c1) ?_;intro b hb;refine xY zTwo ?_;intro b1 hb1;refine wM [] []<|yY<|uW 2 [1] [(19,vA (cProg p p1 c p2 c1)),(20,vI part)]<|bE N λoy hy N=>xK (zEu p part _ hy h h1) ?_;rintro I0 ax v2 k2 le - hpost -;have ⟨h,h1,H⟩:=m3 le h h1 H;cases oy with
 | none=>
  obtain⟨rfl,rfl⟩:=hpost;refine yG 7 [] [22,23,24] rfl<|xY zTwo ?_;intro b2 hb0;refine jV 0 zTwo (hB b2 zTwo::[hB b1 zTwo,hB b (cProg p p1 c p2 c1)]) rfl rfl rfl rfl<|yQ [] [9,10] rfl<|yA<|wZ [(37,vY)]<|zK<|nN rfl<|qZ (zX [1] rfl (by decide))<|qX [(6,vP b1 0)]<|yD<|yG 1 [] [38] rfl<|jV 0 zTwo [hB b1 zTwo] rfl rfl rfl rfl<|wM [] [(7,vF)]<|xH<|zJ ?_;exact xX N (resE 0 rfl rfl rfl) zO ⟨_,_,rfl,rfl,⟨_,rfl,(xJ ⟨_,_,rfl,(SL.nil _),(SL.nil _)⟩)⟩,rfl⟩
 | some y=>
  obtain⟨pks,x,pn,cn,pq,cq,csq,pa,ca,pp,cp,csp,ad,rfl,rfl,h2,h3,h4,h5,h6,h7,h8,h9,h10⟩:=hpost;have hx1:idx y.Parts part=some x:=by rw[<- h4];exact zA7 h5
  obtain⟨x9,hx9,N⟩:=zB N;obtain rfl:x=x9:=Option.some.inj (hx1.symm.trans hx9);refine xV 1 rfl ?_;intro aP aa hl0;have h11:SL aP (vS pq x.Body cq) x.Body:=SL.of_frozen hl0 aa h9;have h12:RL aP csp y.Parts:=zLv h5 h6 h11 (iM aa h3) h4;have hl01:pks.length=y.Parts.length:=by rw[<- h4,cS]
  rw[show vS pp pks cp=vS pp y.Parts cp by simp only[vS,hl01]] at h7;refine wY (ag:=hO zF (vS pp y.Parts cp) csp::[hB b1 zTwo,hB b (cProg p p1 c p2 c1)]) (by rw[<- zI1 (α:=PK) (β:=zF) rfl hl01];rfl) ?_;rw[show vS pp pks cp=vS pp y.Parts cp by simp only[vS,hl01]];have ⟨h,h1,H,h2,h10⟩:=m5 aa h h1 H h2 h10;refine yG 7 [] [22,23,24] rfl<|xY zTwo ?_;intro b3 hb2;refine xC 0 (cProg y pa ca pp cp) rfl<|yQ [] [9,10] rfl<|yA<|yC ?_;refine vQ N [hB b3 (cProg y pa ca pp cp),hO zF (vS pp y.Parts cp) csp,hB b1 zTwo,hB b (cProg p p1 c p2 c1)] (λt37=>[(1,vI part),(2,vI stmts),(3,vP b 0),(6,vP b1 0),(8,vP b3 0),(9,.pointer (some ad)),(37,.bool t37)]) (λo0 aA=>?_) ?_
  ·have H:=iS aP;refine zL<|yG 7 [] [27,28,31] rfl<|zCU 1 1 h7 h8 [vS pq x.Body cq] (vS pq x.Body cq) rfl rfl<|yG 10 [] [34] rfl ?_;obtain⟨y1,az,N⟩:=zB aA;refine tA (vR stmts 1 (W ((x.Body.length:Int) - 1)) _ az ) ?_;intro bx aC;have H:=H.trans aC;exact yQ [] [37] rfl<|yZ<|zU (ct N H)
  intro t37 aW aI aX;have ⟨h10,h11,h2,h12,h,h1⟩:=m6 aI h10 h11 h2 h12 h h1;have H:=H.trans aI;refine zK<|yH aX ?_ ?_
  ·intro hc N;refine yD<|yG 1 [] [38] rfl<|jV 2 zTwo [hB b3 (cProg y pa ca pp cp),hO zF (vS pp y.Parts cp) csp,hB b1 zTwo,hB b (cProg p p1 c p2 c1)] rfl rfl rfl rfl<|wM [] [(7,vF)]<|xH<|zJ ?_;exact xX N (resE 2 rfl rfl rfl) zO ⟨_,_,rfl,rfl,⟨_,rfl,(xJ ⟨_,_,rfl,(SL.nil _),(SL.nil _)⟩)⟩,rfl⟩
  intro hc N;refine zT<|yY<|uW 1 [3] [(40,vA (cProg p p1 c p2 c1))] ?_;obtain⟨⟨y3,y4⟩,aG,N⟩:=zB N;refine xK (zEt p _ aG h h1) ?_;rintro bG ax v2 k2 aY - ⟨v01,v02,rfl,rfl,h14,rfl⟩ -;have ⟨h10,h11,h2,h12,h,H⟩:=m6 aY h10 h11 h2 h12 h H;refine wM [] [(11,v01)]<|yA<|yD<|uW 1 [] [(44,v01)] ?_;obtain⟨t,bh,N⟩:=zB N;obtain⟨ad1,aN,rfl,aq,am⟩:=zLp h14 bh;obtain⟨p3,c2,p4,c3,p5,c4,p6,c5,p7,c6,rfl,h16,h17,h18,h19,h20⟩:=zDn am;obtain⟨y5,bu,N⟩:=zB N;refine xK (zB0 t _ bu h16 h17 h18 h19 h20 aq) ?_;rintro bK ax v2 k2 bo - ⟨v08,rfl,rfl,h21⟩ -;have ⟨h10,h11,h16,h17,h18,h19⟩:=m6 bo h10 h11 h16 h17 h18 h19;have ⟨h20,aq,h2,h12,h,H⟩:=m6 bo h20 aq h2 h12 h H;obtain⟨p8,c7,rfl⟩:=h21.form;refine yQ [] [46,47] rfl<|wN<|qZ (zZ [0,1,2] (ag:=[hB b3 (cProg y pa ca pp cp),hO zF (vS pp y.Parts cp) csp,hB b1 zTwo]))<|qX [(1,vI part),(2,vI stmts),(6,vP b1 0),(8,vP b3 0),(9,.pointer (some ad)),(11,.pointer (some ad1)),(45,vS p8 y5 c7),(46,vI (y5.length:Int)),(47,vI 0)] ?_;obtain⟨o02,ho02,aE⟩:=zB N;refine zBt part stmts t y5 (zC.mk ([]:List zD) ([]:List zF)) 0 o02 ho02 iR h10 h11 h16 h17 h18 h19 h20 aq h21 h2 h12 (SL.nil _) (SL.nil _) nG nO ?_ ?_
  ·intro I08 x2 aF aO bj aQ heq2 le8 h24 h25;subst o02;have ⟨h10,h11,h2,h12,H⟩:=m5 le8 h10 h11 h2 h12 H;refine zS<|zK<|yC ?_;obtain⟨y6,hy8,N⟩:=zB aE;obtain⟨l,hy9,N⟩:=zB N;obtain⟨y7,hy10,N⟩:=zB N;refine wP [.p (.pointer (some ad)) [],.p (.pointer (some ad)) [],.p (.pointer (some ad)) [],.q (vS pn x.Nest cn),.x (eS y6),.p (.pointer (some ad)) [],.p (.pointer (some ad)) [],.p (.pointer (some (ad.add 1))) [],.q (vS pq x.Body cq),.p (vI stmts) [],.x (eS l),.x (λI' v hx=>∃p17 c16 cs,v=vS p17 y7 c16/\hx=[hO zI (vS p17 y7 c16) cs]/\(RL I' cs y7)),.x (λI' v hx=>∃p151 c141 p171 c161 au,v=vA [vS p151 y6 c141,vS p171 y7 c161]/\hx=[hO zI (vS p171 y7 c161) au]/\(S4 I' p151 y6 c141)/\(RL I' au y7)),.x (λI' v hx=>∃b7,v=vP b7 0/\hx=[hB b7 zTwo])] [[],[(0,false)],[(1,false)],[(2,false)],[(3,false)],[],[(5,false)],[(6,false)],[(7,false)],[],[(8,false),(9,false)],[(10,false)],[(4,false),(11,true)],[]] [hB b3 (cProg y pa ca pp cp),hO zF (vS pp y.Parts cp) csp,hB b1 (cProg x2 aF aO bj aQ)] [] [(12,true),(13,true)] (zZ [0,1,2]) ?_ ?_
   ·refine O3<|Oq ?_<|Ox ?_<|O3<|Oq ?_<|Op<|Ox ?_<|Ox ?_<|Ox ?_<|Ox ?_<|On
    ·intro I1 hf aa;refine yW [93] rfl ?_;exact zCU 1 0 h7 h8 [vS pn x.Nest cn] (vS pn x.Nest cn) rfl rfl<|xO iR
    ·intro I1 hf aa;refine yW [94] rfl ?_;have H:=iS I1;have h10:=h10.mono aa;refine xK (zD0 x.Nest _ hy8 h10) ?_;rintro I09 ax v2 k2 le9 - ⟨v011,rfl,rfl,h28⟩ -;have H:=H.trans le9;obtain⟨p15,c14,rfl⟩:=h28.form;exact yN [] H ⟨_,_,rfl,rfl,h28⟩
    ·intro I1 hf aa;refine yW [98] rfl ?_;exact zCU 1 1 h7 h8 [vS pq x.Body cq] (vS pq x.Body cq) rfl rfl<|xO iR
    ·intro I1 hf aa;refine yW [99,100] rfl ?_;have h11:=h11.mono aa;refine zMS rfl h11 hy9 ?_;intro v012 h29;obtain⟨p16,c15,rfl⟩:=h29.form;exact yN [] iR ⟨_,_,rfl,rfl,h29⟩
    ·rintro I1 hf aa _ _ ⟨p16,c15,rfl,rfl,h29⟩;refine yW [101] rfl ?_;have H:=iS I1;refine xK (zAQ l _ hy10 h29) ?_;rintro bN ax v2 k2 le10 - ⟨p17,c16,cs,rfl,rfl,h30⟩ -;have H:=H.trans le10;exact yN [hO zI (vS p17 y7 c16) cs] H ⟨_,_,_,rfl,rfl,h30⟩
    ·rintro I1 hf aa _ _ ⟨p15,c14,rfl,rfl,h28⟩ _ _ ⟨p17,c16,cs,rfl,rfl,h30⟩;exact yW [95,102] rfl<|oN 13 [(103,vA [vS p15 y6 c14,vS p17 y7 c16])]<|yN [hO zI (vS p17 y7 c16) cs] iR ⟨_,_,_,_,_,rfl,rfl,h28,h30⟩
    intro I1 hf aa;refine I_h []<|xY zTwo ?_;intro b7 hb6;exact yN [hB b7 zTwo] iR ⟨_,rfl,rfl⟩
   rintro bS le11 _ _ ⟨p151,c141,p171,c161,au,rfl,rfl,h281,h301⟩ _ _ ⟨b7,rfl,rfl⟩;refine yW [1,2,6,8,9,17,103] rfl ?_;have ⟨h10,h11,h2,h12⟩:=m4 le11 h10 h11 h2 h12;refine xC 0 [vS p151 y6 c141,vS p171 y7 c161] rfl<|zY rfl<|yY<|yG 4 [] [104,107] rfl<|zCU 3 1 h7 h8 [vS pq x.Body cq] (vS pq x.Body cq) rfl rfl<|yG 6 [] [109] rfl<|bE N λl1 hy11 N=>zMS rfl h11 hy11 ?_;intro v013 h31;obtain⟨p18,c17,rfl⟩:=h31.form;refine yG 9 [] [112] rfl ?_;obtain⟨l2,hy12,N⟩:=zB N;refine zMT (c:=[vS pn x.Nest cn,vS p18 l1 c17]) 3 1 h7 h8 h12 hx1 hy12 (wU ⟨_,_,rfl,h10,h31⟩) ?_;intro aR h32 hl02;refine zAe (m':=[(1,vI part),(6,vP b1 0),(8,vP b3 0),(17,vP b7 0),(110,vS p18 l1 c17)]) ⟨rfl,rfl,rfl,rfl,rfl,trivial⟩<|zIP (ag:=[hB b7 [vS p151 y6 c141,vS p171 y7 c161],hO zI (vS p171 y7 c161) au,hB b3 [vS pa y.Arrays ca,vS pp l2 cp],hO zF (vS pp l2 cp) aR,hB b1 (cProg x2 aF aO bj aQ)]) (m':=[(1,vI part),(6,vP b1 0),(8,vP b3 0),(17,vP b7 0),(110,vS p18 l1 c17)]) (by first|rfl|simp only[vS,hl02,List.append_eq,cProg,cC,ep,cT,eu,em,eo]) (by first|rfl|simp only[vS,hl02])<|zY rfl<|yY<|uW 5 [2,0] [(114,vS pp l2 cp),(116,vI (W (part+1))),(117,vA [vS p151 y6 c141,vS p171 y7 c161])]<|xV 1 rfl ?_;intro bR le12 hl03;have h33:=SL.of_frozen hl03 le12 h301;have ⟨h32,h281,h2⟩:=m3 le12 h32 h281 h2;refine uX [vS p151 y6 c141,vS p171 y7 c161] zF ?_;intro b8 hb7;have h34:RL bR [vS p151 y6 c141,vS p171 y7 c161] ([(zF.mk y6 y7)]:List zF):=⟨[vS p151 y6 c141,vS p171 y7 c161],_,rfl,rfl,(wU ⟨_,_,rfl,h281,h33⟩),rfl⟩;refine tX (zZ [3,0,1,2,4] (ag:=[hO zF (vS pp l2 cp) aR,hO zF (vS (some ⟨b8,0,none⟩) ([(zF.mk y6 y7)]:List zF) 1) [vS p151 y6 c141,vS p171 y7 c161],hB b7 [vS p151 y6 c141,vS p171 y7 c161],hB b3 [vS pa y.Arrays ca,vS pp l2 cp],hB b1 (cProg x2 aF aO bj aQ)]))<|bE N λy8 hy13 N=>qB (zAM l2 (W (part+1)) ([(zF.mk y6 y7)]:List zF) _ hy13 h32 h34) rfl ?_;rintro I013 ax v2 k2 le13 - ⟨p19,c18,aM,rfl,rfl,h35⟩ -;have h2:=h2.mono le13;refine yG 8 [] [120] rfl<|xC 2 [vS pa y.Arrays ca,vS p19 y8 c18] rfl<|zY rfl<|yY<|uW 1 [2] [(121,vA [vS pa y.Arrays ca,vS p19 y8 c18])]<|xV 0 rfl ?_;intro I014 le14 hl04;have h36:=SL.of_frozen hl04 le14 h35;have h2:=h2.mono le14;obtain⟨⟨y10,y11⟩,hy14,N⟩:=zB N;refine xK (zCh (zC.mk y.Arrays y8) _ hy14 h2 h36) ?_;rintro I015 ax v2 k2 le15 - ⟨v014,v015,rfl,rfl,⟨bt,rfl,h37⟩,rfl⟩ -;obtain⟨p20,c19,p21,c20,rfl,h39,h40⟩:=kT h37;refine yG 4 [] [123,124] rfl<|xC 2 (cProg y10 p20 c19 p21 c20) rfl<|yQ [] [7] rfl<|zK<|xD ?_;exact xX N (resE 2 rfl rfl rfl) zO ⟨_,_,rfl,rfl,⟨_,rfl,(xJ ⟨_,_,rfl,h39,h40⟩)⟩,rfl⟩
  intro r0 I9 hs9 m9 aT le9 aV;subst aT;refine zV<|zJ ?_;obtain rfl:=zE aE;exact jW aV
def tD(s1:(List Int))(s2:(List Int))(t13:Int):Option (Out Unit (Bool)):=do
 if(decide (t13<(s1.length:Int))) then
  let x<-idx s1 t13;let x1<-idx s2 t13;if(x != x1) then pure (.ret false)
  else tD s1 s2 (W (t13+1))
 else pure (.done ())
 partial_fixpoint
theorem zBf(s1:(List Int))(s2:(List Int)):∀(t13:Int) (o:Out Unit (Bool)),tD s1 s2 t13=some o->∀{B}{I0 I:Imm}{Q p c p1 c1},I0.le I->(S4 I p s1 c)->(S4 I p1 s2 c1)->NG Q->NO Q->(∀I',o=(.done ())->I0.le I'->T 26 B Q (.exit 0) I' [] [])->(∀r I' ag m',o=(.ret r)->I0.le I'->RS Tryz.prog f61 B (zW  r) I' ag m'->T 26 B Q .ret I' ag m')->J Tryz.prog 26 B (nav (bodyOf f61) [1,1,0,1,0]) Q I [] [(0,vS p s1 c),(1,vS p1 s2 c1),(12,vI (s1.length:Int)),(13,vI t13)]:=by
 refine tD.partial_correctness s1 s2 _ λaJ ih t13 o N B I0 I Q p c p1 c1 H h h1 hg ho hx hr=>yX hg ho<|yK [14] rfl<|yA<|yH N ?_ ?_
 ·intro aH N;refine zT<|yA<|yL<|yK [5] rfl<|yA<|zA5 (by kernel_rfl) (by kernel_rfl)<|zB2 2 [] [16,17] rfl<|bE N λx hy N=>zDk rfl rfl h hy ?_;intro ad aN aq am;obtain rfl:=am;refine zC5 0 aq [vI x] (vI x) rfl<|zB2 6 [] [20,21] rfl<|bE N λx1 az N=>zDk rfl rfl h1 az ?_;intro ad1 bq aw ay;obtain rfl:=ay;refine zC5 0 aw [vI x1] (vI x1) rfl<|zK5 [] [24] rfl<|zK<|yH N ?_ ?_
  ·intro ba N;exact wZ [(4,vF)]<|xH<|zV<|zJ<|zJ<|hr _ _ _ _ (zE N).symm H ⟨_,_,(resT rfl),zO,⟨_,rfl,rfl,rfl⟩⟩
  intro ba N;exact zT<|zN<|zK<|zL<|yQ [] [13] rfl<|yV<|nX<|ih (W (t13+1)) _ N H h h1 hg ho hx hr
 intro aH N;exact wW<|yZ<|hx _  (zE N).symm H
def qP(s1:(List Int))(s2:(List Int)):Option (Bool):=do
 if((s1.length:Int) != (s2.length:Int)) then pure false
 else
  match<-tD s1 s2 0 with
  | .ret r0=>pure r0
  | .done _=>
   pure true
theorem zAc:∀s1 s2 r,qP s1 s2=some r->∀{I:Imm}{p c p1 c1},(S4 I p s1 c)->(S4 I p1 s2 c1)->RT 61 [vS p s1 c,vS p1 s2 c1] I [] (zW  r):=by
 intro s1 s2 r N I p c p1 c1 h h1;unfold qP at N;refine yM func61 λB=>wZ []<|yA<|yK [10] rfl<|zK<|yH N ?_ ?_
 ·intro hc N;refine wZ [(4,vF)]<|xH<|zJ ?_;obtain rfl:=zE N;exact vH
 intro hc N;refine zT<|yA<|yK [12,13] rfl<|wN<|qX [(0,vS p s1 c),(1,vS p1 s2 c1),(12,vI (s1.length:Int)),(13,vI 0)] ?_;obtain⟨o0,aA,aE⟩:=zB N;refine zBf s1 s2 0 o0 aA iR h h1 nG nO ?_ ?_
 ·intro I0  heq le;subst o0;refine zS<|zE3 [(4,vY)]<|zK<|xD ?_;obtain rfl:=zE aE;exact vH
 intro r0 I9 hs9 m9 aT le9 aV;subst aT;refine zV<|zJ ?_;obtain rfl:=zE aE;exact jW aV
def sX(x:zD)(y:zD):Option (Bool):=do
 let t4<-(do
  if(x.Name.l==y.Name.l) then
   let y1<-qP x.Dims y.Dims;pure (id y1)
  else
   pure false
    : Option Bool)
 pure (id t4)
theorem zD9:∀x y r,sX x y=some r->∀{I:Imm}{p c p1 c1},(S4 I p x.Dims c)->(S4 I p1 y.Dims c1)->RT 60 [vA (cArr x p c),vA (cArr y p1 c1)] I [] (zW  r):=by
 intro x y r N I p c p1 c1 h h1;unfold sX at N;refine yM func60 λB=>?_;have H:=iS I;refine yD<|vC (cArr x p c) ?_;intro b hb;refine vC (cArr y p1 c1) ?_;intro b1 hb1;refine wM [] []<|zK<|yC ?_;refine vQ N [] (λt4=>[(4,.bool t4)]) (λo0 aA=>?_) ?_
 ·have H:=iS I;refine zL<|yG 6 [1,0] [10] rfl<|wR [10] aA ?_ ?_
  ·intro hc N;refine yG 10 [1,0] [12,14] rfl<|bE N λy1 hy N=>tA (zAc x.Dims y.Dims _ hy h h1) ?_;intro aP le;have H:=H.trans le;exact yQ [] [4] rfl<|wK zO<|yZ<|zU (ct N H)
  intro hc N;exact wM [] [(4,vF)]<|wK zO<|yZ<|zU (ct N H)
 intro t4 I0 aa aX;refine zK<|xD ?_;obtain rfl:=zE aX;exact vH
def tO(aD:List HA)(r:Bool):KT:=λkk I' ag v=>
 ∃v0,aD=ag/\v=tupV [v0]/\v0=.bool r
def yE(s1:(List zG))(s2:(List zG))(eq:(zG->zG->Option Bool))(t17:Int):Option (Out Unit (Bool)):=do
 if(decide (t17<(s1.length:Int))) then
  let x<-idx s1 t17;let x1<-idx s2 t17;let y<-eq x x1;if(!y) then pure (.ret false)
  else yE s1 s2 eq (W (t17+1))
 else pure (.done ())
 partial_fixpoint
theorem oW(s1:(List zG))(s2:(List zG))(eq:(zG->zG->Option Bool)):∀(t17:Int) (o:Out Unit (Bool)),yE s1 s2 eq t17=some o->∀{B}{I0 I:Imm}{Q p c p1 c1}{fv:Value}{aD:List HA},I0.le I->(S4 I p1 s2 c1)->(FV2 Tryz.prog I aD fv eq)->(S4 I p s1 c)->NG Q->NO Q->(∀I',o=(.done ())->I0.le I'->T 32 B Q (.exit 0) I' aD [])->(∀r I' ag m',o=(.ret r)->I0.le I'->RS Tryz.prog f105 B (tO aD r) I' ag m'->T 32 B Q .ret I' ag m')->J Tryz.prog 32 B (nav (bodyOf f105) [1,1,0,1,0]) Q I aD [(1,vS p1 s2 c1),(2,fv),(15,vS p s1 c),(16,vI (s1.length:Int)),(17,vI t17)]:=by
 refine yE.partial_correctness s1 s2 eq _ λaJ ih t17 o N B I0 I Q p c p1 c1 fv aD H h1 h2 h hg ho hx hr=>yX hg ho<|yK [18] rfl<|yA<|yH N ?_ ?_
 ·intro aH N;refine zT<|yA<|yL<|yD<|yG 1 [] [19] rfl<|bE N λx hy N=>xW rfl rfl h hy ?_;intro ad aN aq am;obtain⟨p2,c2,p3,c3,rfl,h3,h4⟩:=vD am;refine xM 0 aq (cLoop x p2 c2 p3 c3) (vA (cLoop x p2 c2 p3 c3)) rfl<|xY zTwo ?_;intro b hb;refine yG 5 [] [7] rfl<|jV 0 (cLoop x p2 c2 p3 c3) (hB b (cLoop x p2 c2 p3 c3)::aD) rfl rfl rfl rfl<|zY rfl<|yY<|yG 2 [] [22,23] rfl<|bE N λx1 az N=>xW rfl rfl h1 az ?_;intro ad1 bq aw ay;obtain⟨p4,c4,p5,c5,rfl,h5,h6⟩:=vD ay;refine xM 0 aw (cLoop x1 p4 c4 p5 c5) (vA (cLoop x1 p4 c4 p5 c5)) rfl<|xY zTwo ?_;intro b1 hb1;refine jV 0 (cLoop x1 p4 c4 p5 c5) (hB b1 (cLoop x1 p4 c4 p5 c5)::hB b (cLoop x p2 c2 p3 c3)::aD) rfl rfl rfl rfl<|zY rfl<|yY<|uW 3 [1,0] [(26,fv),(27,vA (cLoop x p2 c2 p3 c3)),(28,vA (cLoop x1 p4 c4 p5 c5))]<|bE N λy aG N=>tX (ag:=aD++[hB b1 (cLoop x1 p4 c4 p5 c5),hB b (cLoop x p2 c2 p3 c3)]) (eU [hB b1 (cLoop x1 p4 c4 p5 c5),hB b (cLoop x p2 c2 p3 c3)] aD)<|zK4 rfl rfl rfl h2 aG ⟨_,rfl,(uR ⟨_,_,rfl,h3,h4⟩)⟩ ⟨_,rfl,(uR ⟨_,_,rfl,h5,h6⟩)⟩ rfl ?_;rintro I0 v04 le rfl;refine tX (ag:=(hB b1 (cLoop x1 p4 c4 p5 c5)::hB b (cLoop x p2 c2 p3 c3)::aD)) (eU aD [hB b1 (cLoop x1 p4 c4 p5 c5),hB b (cLoop x p2 c2 p3 c3)]) ?_;have ⟨h1,h2,h,H⟩:=m4 le h1 h2 h H;refine yQ [] [30] rfl<|zK<|yH N ?_ ?_
  ·intro ba N;exact wZ [(6,vF)]<|xH<|zV<|zJ<|zJ<|hr _ _ _ _ (zE N).symm H ⟨_,_,(resT rfl),(kS [hB b1 (cLoop x1 p4 c4 p5 c5),hB b (cLoop x p2 c2 p3 c3)] aD [] rfl (by decide)),⟨_,rfl,rfl,rfl⟩⟩
  intro ba N;exact zT<|zN<|zK<|zL<|yQ [] [17] rfl<|yV<|qZ (kS [hB b1 (cLoop x1 p4 c4 p5 c5),hB b (cLoop x p2 c2 p3 c3)] aD [] rfl (by decide))<|nX<|ih (W (t17+1)) _ N H h1 h2 h hg ho hx hr
 intro aH N;exact wW<|yZ<|hx _  (zE N).symm H
def xS(s1:(List zG))(s2:(List zG))(eq:(zG->zG->Option Bool)):Option (Bool):=do
 if((s1.length:Int) != (s2.length:Int)) then pure false
 else
  match<-yE s1 s2 eq 0 with
  | .ret r0=>pure r0
  | .done _=>
   pure true
theorem mC:∀s1 s2 eq r,xS s1 s2 eq=some r->∀{I:Imm}{p c p1 c1}{fv:Value}{aD:List HA},(S4 I p s1 c)->(S4 I p1 s2 c1)->(FV2 Tryz.prog I aD fv eq)->RT 105 [vS p s1 c,vS p1 s2 c1,fv] I aD (tO aD r):=by
 intro s1 s2 eq r N I p c p1 c1 fv aD h h1 h2;unfold xS at N;refine yM func105 λB=>wZ []<|yA<|yK [14] rfl<|zK<|yH N ?_ ?_
 ·intro hc N;refine wZ [(6,vF)]<|xH<|zJ ?_;exact xX N (resT rfl) (λ_ h=>h) ⟨_,rfl,rfl,rfl⟩
 intro hc N;refine zT<|yA<|yK [15,16,17] rfl<|wN<|qX [(1,vS p1 s2 c1),(2,fv),(15,vS p s1 c),(16,vI (s1.length:Int)),(17,vI 0)] ?_;obtain⟨o0,aA,aE⟩:=zB N;refine oW s1 s2 eq 0 o0 aA iR h1 h2 h nG nO ?_ ?_
 ·intro aP  heq aa;subst o0;refine zS<|zE3 [(6,vY)]<|zK<|xD ?_;exact xX aE (resT rfl) (λ_ h=>h) ⟨_,rfl,rfl,rfl⟩
 intro r0 I9 hs9 m9 aT le9 aV;subst aT;refine zV<|zJ ?_;obtain rfl:=zE aE;exact jW aV
def uE(aD:List HA)(r:Bool):KT:=λkk I' ag v=>
 ∃v0,aD=ag/\v=tupV [v0]/\v0=.bool r
def yB(s1:(List zA))(s2:(List zA))(eq:(zA->zA->Option Bool))(t17:Int):Option (Out Unit (Bool)):=do
 if(decide (t17<(s1.length:Int))) then
  let x<-idx s1 t17;let x1<-idx s2 t17;let y<-eq x x1;if(!y) then pure (.ret false)
  else yB s1 s2 eq (W (t17+1))
 else pure (.done ())
 partial_fixpoint
theorem pG(s1:(List zA))(s2:(List zA))(eq:(zA->zA->Option Bool)):∀(t17:Int) (o:Out Unit (Bool)),yB s1 s2 eq t17=some o->∀{B}{I0 I:Imm}{Q p c p1 c1}{fv:Value}{aD:List HA},I0.le I->(S4 I p1 s2 c1)->(FV2 Tryz.prog I aD fv eq)->(S4 I p s1 c)->NG Q->NO Q->(∀I',o=(.done ())->I0.le I'->T 32 B Q (.exit 0) I' aD [])->(∀r I' ag m',o=(.ret r)->I0.le I'->RS Tryz.prog f107 B (uE aD r) I' ag m'->T 32 B Q .ret I' ag m')->J Tryz.prog 32 B (nav (bodyOf f107) [1,1,0,1,0]) Q I aD [(1,vS p1 s2 c1),(2,fv),(15,vS p s1 c),(16,vI (s1.length:Int)),(17,vI t17)]:=by
 refine yB.partial_correctness s1 s2 eq _ λaJ ih t17 o N B I0 I Q p c p1 c1 fv aD H h1 h2 h hg ho hx hr=>yX hg ho<|yK [18] rfl<|yA<|yH N ?_ ?_
 ·intro aH N;refine zT<|yA<|yL<|yD<|yG 1 [] [19] rfl<|bE N λx hy N=>xW rfl rfl h hy ?_;intro ad aN aq am;obtain⟨p2,c2,rfl,h3⟩:=yI am;refine xM 0 aq (cAff x p2 c2) (vA (cAff x p2 c2)) rfl<|xY [z0,vI 0] ?_;intro b hb;refine yG 5 [] [7] rfl<|jV 0 (cAff x p2 c2) (hB b (cAff x p2 c2)::aD) rfl rfl rfl rfl<|zY rfl<|yY<|yG 2 [] [22,23] rfl<|bE N λx1 az N=>xW rfl rfl h1 az ?_;intro ad1 bq aw ay;obtain⟨p3,c3,rfl,h4⟩:=yI ay;refine xM 0 aw (cAff x1 p3 c3) (vA (cAff x1 p3 c3)) rfl<|xY [z0,vI 0] ?_;intro b1 hb1;refine jV 0 (cAff x1 p3 c3) (hB b1 (cAff x1 p3 c3)::hB b (cAff x p2 c2)::aD) rfl rfl rfl rfl<|zY rfl<|yY<|uW 3 [1,0] [(26,fv),(27,vA (cAff x p2 c2)),(28,vA (cAff x1 p3 c3))]<|bE N λy aG N=>tX (ag:=aD++[hB b1 (cAff x1 p3 c3),hB b (cAff x p2 c2)]) (eU [hB b1 (cAff x1 p3 c3),hB b (cAff x p2 c2)] aD)<|zK4 rfl rfl rfl h2 aG ⟨_,rfl,(yO ⟨_,rfl,h3⟩)⟩ ⟨_,rfl,(yO ⟨_,rfl,h4⟩)⟩ rfl ?_;rintro I0 v02 le rfl;refine tX (ag:=(hB b1 (cAff x1 p3 c3)::hB b (cAff x p2 c2)::aD)) (eU aD [hB b1 (cAff x1 p3 c3),hB b (cAff x p2 c2)]) ?_;have ⟨h1,h2,h,H⟩:=m4 le h1 h2 h H;refine yQ [] [30] rfl<|zK<|yH N ?_ ?_
  ·intro ba N;exact wZ [(6,vF)]<|xH<|zV<|zJ<|zJ<|hr _ _ _ _ (zE N).symm H ⟨_,_,(resT rfl),(kS [hB b1 (cAff x1 p3 c3),hB b (cAff x p2 c2)] aD [] rfl (by decide)),⟨_,rfl,rfl,rfl⟩⟩
  intro ba N;exact zT<|zN<|zK<|zL<|yQ [] [17] rfl<|yV<|qZ (kS [hB b1 (cAff x1 p3 c3),hB b (cAff x p2 c2)] aD [] rfl (by decide))<|nX<|ih (W (t17+1)) _ N H h1 h2 h hg ho hx hr
 intro aH N;exact wW<|yZ<|hx _  (zE N).symm H
def yF(s1:(List zA))(s2:(List zA))(eq:(zA->zA->Option Bool)):Option (Bool):=do
 if((s1.length:Int) != (s2.length:Int)) then pure false
 else
  match<-yB s1 s2 eq 0 with
  | .ret r0=>pure r0
  | .done _=>
   pure true
theorem wO:∀s1 s2 eq r,yF s1 s2 eq=some r->∀{I:Imm}{p c p1 c1}{fv:Value}{aD:List HA},(S4 I p s1 c)->(S4 I p1 s2 c1)->(FV2 Tryz.prog I aD fv eq)->RT 107 [vS p s1 c,vS p1 s2 c1,fv] I aD (uE aD r):=by
 intro s1 s2 eq r N I p c p1 c1 fv aD h h1 h2;unfold yF at N;refine yM func107 λB=>wZ []<|yA<|yK [14] rfl<|zK<|yH N ?_ ?_
 ·intro hc N;refine wZ [(6,vF)]<|xH<|zJ ?_;exact xX N (resT rfl) (λ_ h=>h) ⟨_,rfl,rfl,rfl⟩
 intro hc N;refine zT<|yA<|yK [15,16,17] rfl<|wN<|qX [(1,vS p1 s2 c1),(2,fv),(15,vS p s1 c),(16,vI (s1.length:Int)),(17,vI 0)] ?_;obtain⟨o0,aA,aE⟩:=zB N;refine pG s1 s2 eq 0 o0 aA iR h1 h2 h nG nO ?_ ?_
 ·intro aP  heq aa;subst o0;refine zS<|zE3 [(6,vY)]<|zK<|xD ?_;exact xX aE (resT rfl) (λ_ h=>h) ⟨_,rfl,rfl,rfl⟩
 intro r0 I9 hs9 m9 aT le9 aV;subst aT;refine zV<|zJ ?_;obtain rfl:=zE aE;exact jW aV
def wB(a0:zA)(b:zA):Option (Bool):=do
 let t4<-(do
  let y<-qP a0.Coefs b.Coefs;if y then pure (a0.Const==b.Const)
  else
   pure false
    : Option Bool)
 pure (id t4)
theorem eJ:∀a0 b r,wB a0 b=some r->∀{I:Imm}{p c p1 c1},(S4 I p a0.Coefs c)->(S4 I p1 b.Coefs c1)->RT 108 [vA (cAff a0 p c),vA (cAff b p1 c1)] I [] (zW  r):=by
 intro a0 b r N I p c p1 c1 h h1;unfold wB at N;refine yM func108 λB=>?_;have H:=iS I;refine yD<|vC (cAff a0 p c) ?_;intro b1 hb;refine vC (cAff b p1 c1) ?_;intro b2 hb1;refine wM [] []<|zK<|yC ?_;refine vQ N [] (λt4=>[(4,.bool t4)]) (λo0 aA=>?_) ?_
 ·have H:=iS I;refine zL<|yG 4 [1,0] [6,8] rfl ?_;obtain⟨y,hy,N⟩:=zB aA;refine tA (zAc a0.Coefs b.Coefs _ hy h h1) ?_;intro aP le;have H:=H.trans le;refine yG 6 [] [10] rfl<|wR [10] N ?_ ?_
  ·intro hc N;exact yQ [1,0] [4] rfl<|wK zO<|yZ<|zU (ct N H)
  intro hc N;exact wM [] [(4,vF)]<|wK zO<|yZ<|zU (ct N H)
 intro t4 I0 aa aX;refine zK<|xD ?_;obtain rfl:=zE aX;exact vH
def tK(x:zG)(y:zG):Option (Bool):=do
 let t4<-(do
  let y1<-yF x.Lo y.Lo wB;if y1 then
   let y2<-yF x.Hi y.Hi wB;pure (id y2)
  else
   pure false
    : Option Bool)
 pure (id t4)
theorem zFM:∀x y r,tK x y=some r->∀{I:Imm}{p c p1 c1 p2 c2 p3 c3},(S4 I p x.Lo c)->(S4 I p1 x.Hi c1)->(S4 I p2 y.Lo c2)->(S4 I p3 y.Hi c3)->RT 106 [vA (cLoop x p c p1 c1),vA (cLoop y p2 c2 p3 c3)] I [] (zW  r):=by
 intro x y r N I p c p1 c1 p2 c2 p3 c3 h h1 h2 h3;unfold tK at N;refine yM func106 λB=>?_;have H:=iS I;refine yD<|vC (cLoop x p c p1 c1) ?_;intro b hb;refine vC (cLoop y p2 c2 p3 c3) ?_;intro b1 hb1;refine wM [] []<|zK<|yC ?_;refine vQ N [] (λt4=>[(4,.bool t4)]) (λo0 aA=>?_) ?_
 ·have H:=iS I;refine zL<|yG 4 [1,0] [6,8] rfl ?_;have hf0:FV2 Tryz.prog I [] (.func (.func 108) ⟨[]⟩ ⟨[]⟩) wB:=by
   refine FV2.intro ?_;intro I1 aa x0 x1 r u0 u1 hF k0 k1;obtain⟨_,rfl,k0⟩:=k0;obtain⟨p4,c4,rfl,h4⟩:=yI k0;obtain⟨_,rfl,k1⟩:=k1;obtain⟨p5,c5,rfl,h5⟩:=yI k1;exact(eJ x0 x1 r hF h4 h5).mono (by rintro k i hs u ⟨v0,rfl,rfl,h⟩;exact⟨rfl,h⟩)
  obtain⟨y1,hy,N⟩:=zB aA;refine xK (wO x.Lo y.Lo wB _ hy h h2 hf0) ?_;rintro aP ax v2 k2 le - ⟨v02,rfl,rfl,rfl⟩ -;have ⟨h3,h,h1,H⟩:=m4 le h3 h h1 H;refine yG 6 [] [10] rfl<|wR [10] N ?_ ?_
  ·intro hc N;refine yG 10 [1,0] [12,14] rfl ?_;have hf01:FV2 Tryz.prog aP [] (.func (.func 108) ⟨[]⟩ ⟨[]⟩) wB:=by
    refine FV2.intro ?_;intro I1 aa x0 x1 r u0 u1 hF k0 k1;obtain⟨_,rfl,k0⟩:=k0;obtain⟨p6,c6,rfl,h7⟩:=yI k0;obtain⟨_,rfl,k1⟩:=k1;obtain⟨p7,c7,rfl,h8⟩:=yI k1;exact(eJ x0 x1 r hF h7 h8).mono (by rintro k i hs u ⟨v0,rfl,rfl,h⟩;exact⟨rfl,h⟩)
   obtain⟨y2,az,N⟩:=zB N;refine xK (wO x.Hi y.Hi wB _ az h1 h3 hf01) ?_;rintro aW ax v2 k2 aa - ⟨v05,rfl,rfl,rfl⟩ -;have H:=H.trans aa;exact yQ [] [4] rfl<|wK zO<|yZ<|zU (ct N H)
  intro hc N;exact wM [] [(4,vF)]<|wK zO<|yZ<|zU (ct N H)
 intro t4 I0 aC aX;refine zK<|xD ?_;obtain rfl:=zE aX;exact vH
def nS(a0:(List zG))(b:(List zG)):Option (Bool):=do
 let y<-xS a0 b tK;pure (id y)
theorem zCi:∀a0 b r,nS a0 b=some r->∀{I:Imm}{p c p1 c1},(S4 I p a0 c)->(S4 I p1 b c1)->RT 63 [vS p a0 c,vS p1 b c1] I [] (zW  r):=by
 intro a0 b r N I p c p1 c1 h h1;unfold nS at N;refine yM func63 λB=>wZ []<|yY<|yG 2 [] [5,6] rfl ?_;have hf0:FV2 Tryz.prog I [] (.func (.func 106) ⟨[]⟩ ⟨[]⟩) tK:=by
  refine FV2.intro ?_;intro I1 aa x0 x1 r u0 u1 hF k0 k1;obtain⟨_,rfl,k0⟩:=k0;obtain⟨p2,c2,p3,c3,rfl,h2,h3⟩:=vD k0;obtain⟨_,rfl,k1⟩:=k1;obtain⟨p4,c4,p5,c5,rfl,h4,h5⟩:=vD k1;exact(zFM x0 x1 r hF h2 h3 h4 h5).mono (by rintro k i hs u ⟨v0,rfl,rfl,h⟩;exact⟨rfl,h⟩)
 obtain⟨y,hy,N⟩:=zB N;refine xK (mC a0 b tK _ hy h h1 hf0) ?_;rintro I0 ax v2 k2 le - ⟨v04,rfl,rfl,rfl⟩ -;refine yQ [] [4] rfl<|zK<|xD ?_;obtain rfl:=zE N;exact vH
def tP(aD:List HA)(r:Bool):KT:=λkk I' ag v=>
 ∃v0,aD=ag/\v=tupV [v0]/\v0=.bool r
def yT(s1:(List zI))(s2:(List zI))(eq:(zI->zI->Option Bool))(t17:Int):Option (Out Unit (Bool)):=do
 if(decide (t17<(s1.length:Int))) then
  let x<-idx s1 t17;let x1<-idx s2 t17;let y<-eq x x1;if(!y) then pure (.ret false)
  else yT s1 s2 eq (W (t17+1))
 else pure (.done ())
 partial_fixpoint
theorem oX(s1:(List zI))(s2:(List zI))(eq:(zI->zI->Option Bool)):∀(t17:Int) (o:Out Unit (Bool)),yT s1 s2 eq t17=some o->∀{B}{I0 I:Imm}{Q p c p1 c1}{fv:Value}{aD:List HA},I0.le I->(S4 I p1 s2 c1)->(FV2 Tryz.prog I aD fv eq)->(S4 I p s1 c)->NG Q->NO Q->(∀I',o=(.done ())->I0.le I'->T 32 B Q (.exit 0) I' aD [])->(∀r I' ag m',o=(.ret r)->I0.le I'->RS Tryz.prog f64 B (tP aD r) I' ag m'->T 32 B Q .ret I' ag m')->J Tryz.prog 32 B (nav (bodyOf f64) [1,1,0,1,0]) Q I aD [(1,vS p1 s2 c1),(2,fv),(15,vS p s1 c),(16,vI (s1.length:Int)),(17,vI t17)]:=by
 refine yT.partial_correctness s1 s2 eq _ λaJ ih t17 o N B I0 I Q p c p1 c1 fv aD H h1 h2 h hg ho hx hr=>yX hg ho<|yK [18] rfl<|yA<|yH N ?_ ?_
 ·intro aH N;refine zT<|yA<|yL<|yD<|yG 1 [] [19] rfl<|bE N λx hy N=>xW rfl rfl h hy ?_;intro ad aN aq am;obtain⟨p2,c2,p3,c3,p4,c4,p5,c5,rfl,h3,h4,h5,h6⟩:=vG am;refine xM 0 aq (cStmt x p2 c2 p3 c3 p4 c4 p5 c5) (vA (cStmt x p2 c2 p3 c3 p4 c4 p5 c5)) rfl<|xY [vT ([]),z0,vI 0,vI 0,z0,vI 0,vT ([]),z0,z0] ?_;intro b hb;refine yG 5 [] [7] rfl<|jV 0 (cStmt x p2 c2 p3 c3 p4 c4 p5 c5) (hB b (cStmt x p2 c2 p3 c3 p4 c4 p5 c5)::aD) rfl rfl rfl rfl<|zY rfl<|yY<|yG 2 [] [22,23] rfl<|bE N λx1 az N=>xW rfl rfl h1 az ?_;intro ad1 bq aw ay;obtain⟨p6,c6,p7,c7,p8,c8,p9,c9,rfl,h7,h8,h9,h10⟩:=vG ay;refine xM 0 aw (cStmt x1 p6 c6 p7 c7 p8 c8 p9 c9) (vA (cStmt x1 p6 c6 p7 c7 p8 c8 p9 c9)) rfl<|xY [vT ([]),z0,vI 0,vI 0,z0,vI 0,vT ([]),z0,z0] ?_;intro b1 hb1;refine jV 0 (cStmt x1 p6 c6 p7 c7 p8 c8 p9 c9) (hB b1 (cStmt x1 p6 c6 p7 c7 p8 c8 p9 c9)::hB b (cStmt x p2 c2 p3 c3 p4 c4 p5 c5)::aD) rfl rfl rfl rfl<|zY rfl<|yY<|uW 3 [1,0] [(26,fv),(27,vA (cStmt x p2 c2 p3 c3 p4 c4 p5 c5)),(28,vA (cStmt x1 p6 c6 p7 c7 p8 c8 p9 c9))]<|bE N λy aG N=>tX (ag:=aD++[hB b1 (cStmt x1 p6 c6 p7 c7 p8 c8 p9 c9),hB b (cStmt x p2 c2 p3 c3 p4 c4 p5 c5)]) (eU [hB b1 (cStmt x1 p6 c6 p7 c7 p8 c8 p9 c9),hB b (cStmt x p2 c2 p3 c3 p4 c4 p5 c5)] aD)<|zK4 rfl rfl rfl h2 aG ⟨_,rfl,(wG ⟨_,_,_,_,rfl,h3,h4,h5,h6⟩)⟩ ⟨_,rfl,(wG ⟨_,_,_,_,rfl,h7,h8,h9,h10⟩)⟩ rfl ?_;rintro I0 v08 le rfl;refine tX (ag:=(hB b1 (cStmt x1 p6 c6 p7 c7 p8 c8 p9 c9)::hB b (cStmt x p2 c2 p3 c3 p4 c4 p5 c5)::aD)) (eU aD [hB b1 (cStmt x1 p6 c6 p7 c7 p8 c8 p9 c9),hB b (cStmt x p2 c2 p3 c3 p4 c4 p5 c5)]) ?_;have ⟨h1,h2,h,H⟩:=m4 le h1 h2 h H;refine yQ [] [30] rfl<|zK<|yH N ?_ ?_
  ·intro ba N;exact wZ [(6,vF)]<|xH<|zV<|zJ<|zJ<|hr _ _ _ _ (zE N).symm H ⟨_,_,(resT rfl),(kS [hB b1 (cStmt x1 p6 c6 p7 c7 p8 c8 p9 c9),hB b (cStmt x p2 c2 p3 c3 p4 c4 p5 c5)] aD [] rfl (by decide)),⟨_,rfl,rfl,rfl⟩⟩
  intro ba N;exact zT<|zN<|zK<|zL<|yQ [] [17] rfl<|yV<|qZ (kS [hB b1 (cStmt x1 p6 c6 p7 c7 p8 c8 p9 c9),hB b (cStmt x p2 c2 p3 c3 p4 c4 p5 c5)] aD [] rfl (by decide))<|nX<|ih (W (t17+1)) _ N H h1 h2 h hg ho hx hr
 intro aH N;exact wW<|yZ<|hx _  (zE N).symm H
def xT(s1:(List zI))(s2:(List zI))(eq:(zI->zI->Option Bool)):Option (Bool):=do
 if((s1.length:Int) != (s2.length:Int)) then pure false
 else
  match<-yT s1 s2 eq 0 with
  | .ret r0=>pure r0
  | .done _=>
   pure true
theorem mD:∀s1 s2 eq r,xT s1 s2 eq=some r->∀{I:Imm}{p c p1 c1}{fv:Value}{aD:List HA},(S4 I p s1 c)->(S4 I p1 s2 c1)->(FV2 Tryz.prog I aD fv eq)->RT 64 [vS p s1 c,vS p1 s2 c1,fv] I aD (tP aD r):=by
 intro s1 s2 eq r N I p c p1 c1 fv aD h h1 h2;unfold xT at N;refine yM func64 λB=>wZ []<|yA<|yK [14] rfl<|zK<|yH N ?_ ?_
 ·intro hc N;refine wZ [(6,vF)]<|xH<|zJ ?_;exact xX N (resT rfl) (λ_ h=>h) ⟨_,rfl,rfl,rfl⟩
 intro hc N;refine zT<|yA<|yK [15,16,17] rfl<|wN<|qX [(1,vS p1 s2 c1),(2,fv),(15,vS p s1 c),(16,vI (s1.length:Int)),(17,vI 0)] ?_;obtain⟨o0,aA,aE⟩:=zB N;refine oX s1 s2 eq 0 o0 aA iR h1 h2 h nG nO ?_ ?_
 ·intro aP  heq aa;subst o0;refine zS<|zE3 [(6,vY)]<|zK<|xD ?_;exact xX aE (resT rfl) (λ_ h=>h) ⟨_,rfl,rfl,rfl⟩
 intro r0 I9 hs9 m9 aT le9 aV;subst aT;refine zV<|zJ ?_;obtain rfl:=zE aE;exact jW aV
def kO(a0:zM)(b:zM):Option (Bool):=do
 let t4<-(do
  if(a0.Array.l==b.Array.l) then
   let y<-yF a0.Subs b.Subs wB;pure (id y)
  else
   pure false
    : Option Bool)
 pure (id t4)
theorem zBg:∀a0 b r,kO a0 b=some r->∀{I:Imm}{p c p1 c1},(S4 I p a0.Subs c)->(S4 I p1 b.Subs c1)->RT 109 [vA (cAccess a0 p c),vA (cAccess b p1 c1)] I [] (zW  r):=by
 intro a0 b r N I p c p1 c1 h h1;unfold kO at N;refine yM func109 λB=>?_;have H:=iS I;refine yD<|vC (cAccess a0 p c) ?_;intro b1 hb;refine vC (cAccess b p1 c1) ?_;intro b2 hb1;refine wM [] []<|zK<|yC ?_;refine vQ N [] (λt4=>[(4,.bool t4)]) (λo0 aA=>?_) ?_
 ·have H:=iS I;refine zL<|yG 6 [1,0] [10] rfl<|wR [10] aA ?_ ?_
  ·intro hc N;refine yG 10 [1,0] [12,14] rfl ?_;have hf0:FV2 Tryz.prog I [] (.func (.func 108) ⟨[]⟩ ⟨[]⟩) wB:=by
    refine FV2.intro ?_;intro I1 aa x0 x1 r u0 u1 hF k0 k1;obtain⟨_,rfl,k0⟩:=k0;obtain⟨p2,c2,rfl,h2⟩:=yI k0;obtain⟨_,rfl,k1⟩:=k1;obtain⟨p3,c3,rfl,h3⟩:=yI k1;exact(eJ x0 x1 r hF h2 h3).mono (by rintro k i hs u ⟨v0,rfl,rfl,h⟩;exact⟨rfl,h⟩)
   obtain⟨y,hy,N⟩:=zB N;refine xK (wO a0.Subs b.Subs wB _ hy h h1 hf0) ?_;rintro aP ax v2 k2 le - ⟨v02,rfl,rfl,rfl⟩ -;have H:=H.trans le;exact yQ [] [4] rfl<|wK zO<|yZ<|zU (ct N H)
  intro hc N;exact wM [] [(4,vF)]<|wK zO<|yZ<|zU (ct N H)
 intro t4 I0 aa aX;refine zK<|xD ?_;obtain rfl:=zE aX;exact vH
mutual
def xU(s1:(List zH))(s2:(List zH)):Option (Bool):=do
 if((s1.length:Int) != (s2.length:Int)) then pure false
 else
  match<-xE (same s1) (same s2) (same 0) with
  | .ret r0=>pure r0
  | .done _=>
   pure true
 partial_fixpoint
def xE(s1:(List zH))(s2:(List zH))(t17:Int):Option (Out Unit (Bool)):=do
 if(decide (t17<(s1.length:Int))) then
  let x<-idx s1 t17;let x1<-idx s2 t17;let y<-gE (same x) (same x1);if(!y) then pure (.ret false)
  else xE (same s1) (same s2) (W (t17+1))
 else pure (.done ())
 partial_fixpoint
def gE(a0:zH)(b:zH):Option (Bool):=do
 let t4<-(do
  if(a0.Kind==b.Kind) then
   if(a0.Num==b.Num) then
    let y<-wB a0.Index b.Index;if y then
     let y1<-kO a0.Read b.Read;if y1 then
      let y2<-xU a0.Kids b.Kids;pure (id y2)
     else pure false
    else pure false
   else pure false
  else
   pure false
    : Option Bool)
 pure (id t4)
 partial_fixpoint
end
theorem nW:(∀(s1:(List zH)) (s2:(List zH)) r,xU s1 s2=some r->∀{I:Imm}{p c p1 c1},(S4 I p s1 c)->(S4 I p1 s2 c1)->RT 152 [vS p s1 c,vS p1 s2 c1,.func (.func 110) ⟨[]⟩ ⟨[]⟩] I [] (zW  r))/\(∀(s1:(List zH)) (s2:(List zH)) (t17:Int) o,xE s1 s2 t17=some o->∀{B}{I0 I:Imm}{Q p c p1 c1},I0.le I->(S4 I p1 s2 c1)->(S4 I p s1 c)->NG Q->NO Q->(∀I',o=(.done ())->I0.le I'->T 32 B Q (.exit 0) I' [] [])->(∀r I' ag m',o=(.ret r)->I0.le I'->RS Tryz.prog f152 B (zW  r) I' ag m'->T 32 B Q .ret I' ag m')->J Tryz.prog 32 B (nav (bodyOf f152) [1,1,0,1,0]) Q I [] [(1,vS p1 s2 c1),(2,.func (.func 110) ⟨[]⟩ ⟨[]⟩),(15,vS p s1 c),(16,vI (s1.length:Int)),(17,vI t17)])/\(∀(a0:zH) (b:zH) r,gE a0 b=some r->∀{I:Imm}{p c p1 c1 p2 c2 p3 c3 p4 c4 p5 c5},(S4 I p a0.Index.Coefs c)->(S4 I p1 a0.Read.Subs c1)->(S4 I p2 a0.Kids c2)->(S4 I p3 b.Index.Coefs c3)->(S4 I p4 b.Read.Subs c4)->(S4 I p5 b.Kids c5)->RT 110 [vA (cExpr a0 p c p1 c1 p2 c2),vA (cExpr b p3 c3 p4 c4 p5 c5)] I [] (zW  r)):=by
 refine xU.mutual_partial_correctness _ _ _ ?_ ?_ ?_
 ·intro F_slices_EqualFunc_impl_Expr_impl_Expr_impl_Expr_impl_Expr_l1 ih_slices_EqualFunc_impl_Expr_impl_Expr_impl_Expr_impl_Expr_l1 s1 s2 r N I p c p1 c1 h h1;refine yM func152 λB=>wZ []<|yA<|yK [14] rfl<|zK<|yH N ?_ ?_
  ·intro hc N;refine wZ [(6,vF)]<|xH<|zJ ?_;obtain rfl:=zE N;exact vH
  intro hc N;refine zT<|yA<|yK [15,16,17] rfl<|wN<|qX [(1,vS p1 s2 c1),(2,.func (.func 110) ⟨[]⟩ ⟨[]⟩),(15,vS p s1 c),(16,vI (s1.length:Int)),(17,vI 0)] ?_;obtain⟨o0,aA,aE⟩:=zB N;refine ih_slices_EqualFunc_impl_Expr_impl_Expr_impl_Expr_impl_Expr_l1 s1 s2 0 o0 aA iR h1 h nG nO ?_ ?_
  ·intro aP  heq aa;subst o0;refine zS<|zE3 [(6,vY)]<|zK<|xD ?_;obtain rfl:=zE aE;exact vH
  intro r0 I9 hs9 m9 aT le9 aV;subst aT;refine zV<|zJ ?_;obtain rfl:=zE aE;exact jW aV
 ·intro F_slices_EqualFunc_impl_Expr_impl_Expr_impl_Expr_impl_Expr_l1 F_impl_exprSame ih_slices_EqualFunc_impl_Expr_impl_Expr_impl_Expr_impl_Expr_l1 ih_impl_exprSame s1 s2 t17 o N B I0 I Q p c p1 c1 H h1 h hg ho hx hr;refine yX hg ho<|yK [18] rfl<|yA<|yH N ?_ ?_
  ·intro aH N;refine zT<|yA<|yL<|yD<|yG 1 [] [19] rfl<|bE N λx hy N=>xW rfl rfl h hy ?_;intro ad aN aq am;obtain⟨p2,c2,p3,c3,p4,c4,rfl,h2,h3,h4⟩:=wT am;refine xM 0 aq (cExpr x p2 c2 p3 c3 p4 c4) (vA (cExpr x p2 c2 p3 c3 p4 c4)) rfl<|xY zExpr ?_;intro b hb;refine yG 5 [] [7] rfl<|xC 0 (cExpr x p2 c2 p3 c3 p4 c4) rfl<|zY rfl<|yY<|yG 2 [] [22,23] rfl<|bE N λx1 az N=>xW rfl rfl h1 az ?_;intro ad1 bq aw ay;obtain⟨p5,c5,p6,c6,p7,c7,rfl,h5,h6,h7⟩:=wT ay;refine xM 0 aw (cExpr x1 p5 c5 p6 c6 p7 c7) (vA (cExpr x1 p5 c5 p6 c6 p7 c7)) rfl<|xY zExpr ?_;intro b1 hb1;refine xC 0 (cExpr x1 p5 c5 p6 c6 p7 c7) rfl<|zY rfl<|yY<|uW 3 [1,0] [(26,.func (.func 110) ⟨[]⟩ ⟨[]⟩),(27,vA (cExpr x p2 c2 p3 c3 p4 c4)),(28,vA (cExpr x1 p5 c5 p6 c6 p7 c7))]<|bE N λy aG N=>xK (ih_impl_exprSame x x1 _ aG h2 h3 h4 h5 h6 h7) ?_;rintro I0 ax v2 k2 le - ⟨v06,rfl,rfl,rfl⟩ -;have ⟨h1,h,H⟩:=m3 le h1 h H;refine yQ [] [30] rfl<|zK<|yH N ?_ ?_
   ·intro ba N;exact wZ [(6,vF)]<|xH<|zV<|zJ<|zJ<|hr _ _ _ _ (zE N).symm H ⟨_,_,(resT rfl),zO,⟨_,rfl,rfl,rfl⟩⟩
   intro ba N;exact zT<|zN<|zK<|zL<|yQ [] [17] rfl<|yV<|qZ zO<|qX [(1,vS p1 s2 c1),(2,.func (.func 110) ⟨[]⟩ ⟨[]⟩),(15,vS p s1 c),(16,vI (s1.length:Int)),(17,vI (W (t17+1)))]<|ih_slices_EqualFunc_impl_Expr_impl_Expr_impl_Expr_impl_Expr_l1 s1 s2 (W (t17+1)) _ N H h1 h hg ho hx hr
  intro aH N;exact wW<|yZ<|hx _  (zE N).symm H
 intro F_slices_EqualFunc_impl_Expr_impl_Expr_impl_Expr_impl_Expr ih_slices_EqualFunc_impl_Expr_impl_Expr_impl_Expr_impl_Expr a0 b r N I p c p1 c1 p2 c2 p3 c3 p4 c4 p5 c5 h h1 h2 h3 h4 h5;refine yM func110 λB=>?_;have H:=iS I;refine yD<|vC (cExpr a0 p c p1 c1 p2 c2) ?_;intro b1 hb;refine vC (cExpr b p3 c3 p4 c4 p5 c5) ?_;intro b2 hb1;refine wM [] []<|zK<|yC ?_;refine vQ N [] (λt4=>[(4,.bool t4)]) (λo0 aA=>?_) ?_
 ·have H:=iS I;refine zL<|yG 6 [1,0] [10] rfl<|wR [10] aA ?_ ?_
  ·intro hc N;refine yG 13 [1,0] [17] rfl<|wR [17] N ?_ ?_
   ·intro aH N;refine uW 17 [1,0] [(19,vA (cAff a0.Index p c)),(21,vA (cAff b.Index p3 c3))]<|bE N λy hy N=>tA (eJ a0.Index b.Index _ hy h h3) ?_;intro aP le;have ⟨h4,h5,h1,h2,H⟩:=m5 le h4 h5 h1 h2 H;refine yG 20 [] [24] rfl<|wR [24] N ?_ ?_
    ·intro ba N;refine uW 24 [1,0] [(26,vA (cAccess a0.Read p1 c1)),(28,vA (cAccess b.Read p4 c4))]<|bE N λy1 az N=>tA (zBg a0.Read b.Read _ az h1 h4) ?_;intro aW aa;have ⟨h5,h2,H⟩:=m3 aa h5 h2 H;refine yG 27 [] [31] rfl<|wR [31] N ?_ ?_
     ·intro bD N;refine yG 31 [1,0] [33,35] rfl<|bE N λy2 aG N=>xK (ih_slices_EqualFunc_impl_Expr_impl_Expr_impl_Expr_impl_Expr a0.Kids b.Kids _ aG h2 h5) ?_;rintro bx ax v2 k2 aC - ⟨v02,rfl,rfl,rfl⟩ -;have H:=H.trans aC;exact yQ [] [4] rfl<|wK zO<|yZ<|zU (ct N H)
     intro bD N;exact wM [] [(4,vF)]<|wK zO<|yZ<|zU (ct N H)
    intro ba N;exact wM [] [(4,vF)]<|wK zO<|yZ<|zU (ct N H)
   intro aH N;exact wM [] [(4,vF)]<|wK zO<|yZ<|zU (ct N H)
  intro hc N;exact wM [] [(4,vF)]<|wK zO<|yZ<|zU (ct N H)
 intro t4 I0 aI aX;refine zK<|xD ?_;obtain rfl:=zE aX;exact vH
theorem zGq:∀a0 b r,gE a0 b=some r->∀{I:Imm}{p c p1 c1 p2 c2 p3 c3 p4 c4 p5 c5},(S4 I p a0.Index.Coefs c)->(S4 I p1 a0.Read.Subs c1)->(S4 I p2 a0.Kids c2)->(S4 I p3 b.Index.Coefs c3)->(S4 I p4 b.Read.Subs c4)->(S4 I p5 b.Kids c5)->RT 110 [vA (cExpr a0 p c p1 c1 p2 c2),vA (cExpr b p3 c3 p4 c4 p5 c5)] I [] (zW  r):=nW.2.2
def pU(a0:zI)(b:zI):Option (Bool):=do
 let t4<-(do
  let y<-kO a0.Write b.Write;if y then
   let y1<-gE a0.Value b.Value;pure (id y1)
  else
   pure false
    : Option Bool)
 pure (id t4)
theorem zGr:∀a0 b r,pU a0 b=some r->∀{I:Imm}{p c p1 c1 p2 c2 p3 c3 p4 c4 p5 c5 p6 c6 p7 c7},(S4 I p a0.Write.Subs c)->(S4 I p1 a0.Value.Index.Coefs c1)->(S4 I p2 a0.Value.Read.Subs c2)->(S4 I p3 a0.Value.Kids c3)->(S4 I p4 b.Write.Subs c4)->(S4 I p5 b.Value.Index.Coefs c5)->(S4 I p6 b.Value.Read.Subs c6)->(S4 I p7 b.Value.Kids c7)->RT 65 [vA (cStmt a0 p c p1 c1 p2 c2 p3 c3),vA (cStmt b p4 c4 p5 c5 p6 c6 p7 c7)] I [] (zW  r):=by
 intro a0 b r N I p c p1 c1 p2 c2 p3 c3 p4 c4 p5 c5 p6 c6 p7 c7 h h1 h2 h3 h4 h5 h6 h7;unfold pU at N;refine yM func65 λB=>?_;have H:=iS I;refine yD<|vC (cStmt a0 p c p1 c1 p2 c2 p3 c3) ?_;intro b1 hb;refine vC (cStmt b p4 c4 p5 c5 p6 c6 p7 c7) ?_;intro b2 hb1;refine wM [] []<|zK<|yC ?_;refine vQ N [] (λt4=>[(4,.bool t4)]) (λo0 aA=>?_) ?_
 ·have H:=iS I;refine zL<|uW 4 [1,0] [(6,vA (cAccess a0.Write p c)),(8,vA (cAccess b.Write p4 c4))] ?_;obtain⟨y,hy,N⟩:=zB aA;refine tA (zBg a0.Write b.Write _ hy h h4) ?_;intro aP le;have ⟨h5,h6,h7,h1,h2,h3⟩:=m6 le h5 h6 h7 h1 h2 h3;have H:=H.trans le;refine yG 6 [] [10] rfl<|wR [10] N ?_ ?_
  ·intro hc N;refine uW 10 [1,0] [(12,vA (cExpr a0.Value p1 c1 p2 c2 p3 c3)),(14,vA (cExpr b.Value p5 c5 p6 c6 p7 c7))]<|bE N λy1 az N=>tA (zGq a0.Value b.Value _ az h1 h2 h3 h5 h6 h7) ?_;intro aW aa;have H:=H.trans aa;exact yQ [] [4] rfl<|wK zO<|yZ<|zU (ct N H)
  intro hc N;exact wM [] [(4,vF)]<|wK zO<|yZ<|zU (ct N H)
 intro t4 I0 aC aX;refine zK<|xD ?_;obtain rfl:=zE aX;exact vH
def sY(x:zF)(y:zF):Option (Bool):=do
 let t4<-(do
  let y1<-nS x.Nest y.Nest;if y1 then
   let y2<-xT x.Body y.Body pU;pure (id y2)
  else
   pure false
    : Option Bool)
 pure (id t4)
theorem zDa:∀x y r,sY x y=some r->∀{I:Imm}{p c p1 c1 p2 c2 p3 c3},(S4 I p x.Nest c)->(S4 I p1 x.Body c1)->(S4 I p2 y.Nest c2)->(S4 I p3 y.Body c3)->RT 62 [vA (cPart x p c p1 c1),vA (cPart y p2 c2 p3 c3)] I [] (zW  r):=by
 intro x y r N I p c p1 c1 p2 c2 p3 c3 h h1 h2 h3;unfold sY at N;refine yM func62 λB=>?_;have H:=iS I;refine yD<|vC (cPart x p c p1 c1) ?_;intro b hb;refine vC (cPart y p2 c2 p3 c3) ?_;intro b1 hb1;refine wM [] []<|zK<|yC ?_;refine vQ N [] (λt4=>[(4,.bool t4)]) (λo0 aA=>?_) ?_
 ·have H:=iS I;refine zL<|yG 4 [1,0] [6,8] rfl ?_;obtain⟨y1,hy,N⟩:=zB aA;refine tA (zCi x.Nest y.Nest _ hy h h2) ?_;intro aP le;have ⟨h3,h,h1,H⟩:=m4 le h3 h h1 H;refine yG 6 [] [10] rfl<|wR [10] N ?_ ?_
  ·intro hc N;refine yG 10 [1,0] [12,14] rfl ?_;have hf0:FV2 Tryz.prog aP [] (.func (.func 65) ⟨[]⟩ ⟨[]⟩) pU:=by
    refine FV2.intro ?_;intro I1 aa x0 x1 r u0 u1 hF k0 k1;obtain⟨_,rfl,k0⟩:=k0;obtain⟨p4,c4,p5,c5,p6,c6,p7,c7,rfl,h5,h6,h7,h8⟩:=vG k0;obtain⟨_,rfl,k1⟩:=k1;obtain⟨p8,c8,p9,c9,aL,aO,aF,aQ,rfl,h9,h10,h11,h12⟩:=vG k1;exact(zGr x0 x1 r hF h5 h6 h7 h8 h9 h10 h11 h12).mono (by rintro k i hs u ⟨v0,rfl,rfl,h⟩;exact⟨rfl,h⟩)
   obtain⟨y2,az,N⟩:=zB N;refine xK (mD x.Body y.Body pU _ az h1 h3 hf0) ?_;rintro aW ax v2 k2 aa - ⟨v09,rfl,rfl,rfl⟩ -;have H:=H.trans aa;exact yQ [] [4] rfl<|wK zO<|yZ<|zU (ct N H)
  intro hc N;exact wM [] [(4,vF)]<|wK zO<|yZ<|zU (ct N H)
 intro t4 I0 aC aX;refine zK<|xD ?_;obtain rfl:=zE aX;exact vH
def uZ(aD:List HA)(r:Bool):KT:=λkk I' ag v=>
 ∃v0,aD=ag/\v=tupV [v0]/\v0=.bool r
def yS(s1:(List zD))(s2:(List zD))(eq:(zD->zD->Option Bool))(t17:Int):Option (Out Unit (Bool)):=do
 if(decide (t17<(s1.length:Int))) then
  let x<-idx s1 t17;let x1<-idx s2 t17;let y<-eq x x1;if(!y) then pure (.ret false)
  else yS s1 s2 eq (W (t17+1))
 else pure (.done ())
 partial_fixpoint
theorem pZ(s1:(List zD))(s2:(List zD))(eq:(zD->zD->Option Bool)):∀(t17:Int) (o:Out Unit (Bool)),yS s1 s2 eq t17=some o->∀{B}{I0 I:Imm}{Q p c p1 c1}{fv:Value}{aD:List HA},I0.le I->(S4 I p1 s2 c1)->(FV2 Tryz.prog I aD fv eq)->(S4 I p s1 c)->NG Q->NO Q->(∀I',o=(.done ())->I0.le I'->T 32 B Q (.exit 0) I' aD [])->(∀r I' ag m',o=(.ret r)->I0.le I'->RS Tryz.prog f66 B (uZ aD r) I' ag m'->T 32 B Q .ret I' ag m')->J Tryz.prog 32 B (nav (bodyOf f66) [1,1,0,1,0]) Q I aD [(1,vS p1 s2 c1),(2,fv),(15,vS p s1 c),(16,vI (s1.length:Int)),(17,vI t17)]:=by
 refine yS.partial_correctness s1 s2 eq _ λaJ ih t17 o N B I0 I Q p c p1 c1 fv aD H h1 h2 h hg ho hx hr=>yX hg ho<|yK [18] rfl<|yA<|yH N ?_ ?_
 ·intro aH N;refine zT<|yA<|yL<|yD<|yG 1 [] [19] rfl<|bE N λx hy N=>xW rfl rfl h hy ?_;intro ad aN aq am;obtain⟨p2,c2,rfl,h3⟩:=wH am;refine xM 0 aq (cArr x p2 c2) (vA (cArr x p2 c2)) rfl<|xY [vT ([]),z0] ?_;intro b hb;refine yG 5 [] [7] rfl<|jV 0 (cArr x p2 c2) (hB b (cArr x p2 c2)::aD) rfl rfl rfl rfl<|zY rfl<|yY<|yG 2 [] [22,23] rfl<|bE N λx1 az N=>xW rfl rfl h1 az ?_;intro ad1 bq aw ay;obtain⟨p3,c3,rfl,h4⟩:=wH ay;refine xM 0 aw (cArr x1 p3 c3) (vA (cArr x1 p3 c3)) rfl<|xY [vT ([]),z0] ?_;intro b1 hb1;refine jV 0 (cArr x1 p3 c3) (hB b1 (cArr x1 p3 c3)::hB b (cArr x p2 c2)::aD) rfl rfl rfl rfl<|zY rfl<|yY<|uW 3 [1,0] [(26,fv),(27,vA (cArr x p2 c2)),(28,vA (cArr x1 p3 c3))]<|bE N λy aG N=>tX (ag:=aD++[hB b1 (cArr x1 p3 c3),hB b (cArr x p2 c2)]) (eU [hB b1 (cArr x1 p3 c3),hB b (cArr x p2 c2)] aD)<|zK4 rfl rfl rfl h2 aG ⟨_,rfl,(uP ⟨_,rfl,h3⟩)⟩ ⟨_,rfl,(uP ⟨_,rfl,h4⟩)⟩ rfl ?_;rintro I0 v02 le rfl;refine tX (ag:=(hB b1 (cArr x1 p3 c3)::hB b (cArr x p2 c2)::aD)) (eU aD [hB b1 (cArr x1 p3 c3),hB b (cArr x p2 c2)]) ?_;have ⟨h1,h2,h,H⟩:=m4 le h1 h2 h H;refine yQ [] [30] rfl<|zK<|yH N ?_ ?_
  ·intro ba N;exact wZ [(6,vF)]<|xH<|zV<|zJ<|zJ<|hr _ _ _ _ (zE N).symm H ⟨_,_,(resT rfl),(kS [hB b1 (cArr x1 p3 c3),hB b (cArr x p2 c2)] aD [] rfl (by decide)),⟨_,rfl,rfl,rfl⟩⟩
  intro ba N;exact zT<|zN<|zK<|zL<|yQ [] [17] rfl<|yV<|qZ (kS [hB b1 (cArr x1 p3 c3),hB b (cArr x p2 c2)] aD [] rfl (by decide))<|nX<|ih (W (t17+1)) _ N H h1 h2 h hg ho hx hr
 intro aH N;exact wW<|yZ<|hx _  (zE N).symm H
def wC(s1:(List zD))(s2:(List zD))(eq:(zD->zD->Option Bool)):Option (Bool):=do
 if((s1.length:Int) != (s2.length:Int)) then pure false
 else
  match<-yS s1 s2 eq 0 with
  | .ret r0=>pure r0
  | .done _=>
   pure true
theorem oM:∀s1 s2 eq r,wC s1 s2 eq=some r->∀{I:Imm}{p c p1 c1}{fv:Value}{aD:List HA},(S4 I p s1 c)->(S4 I p1 s2 c1)->(FV2 Tryz.prog I aD fv eq)->RT 66 [vS p s1 c,vS p1 s2 c1,fv] I aD (uZ aD r):=by
 intro s1 s2 eq r N I p c p1 c1 fv aD h h1 h2;unfold wC at N;refine yM func66 λB=>wZ []<|yA<|yK [14] rfl<|zK<|yH N ?_ ?_
 ·intro hc N;refine wZ [(6,vF)]<|xH<|zJ ?_;exact xX N (resT rfl) (λ_ h=>h) ⟨_,rfl,rfl,rfl⟩
 intro hc N;refine zT<|yA<|yK [15,16,17] rfl<|wN<|qX [(1,vS p1 s2 c1),(2,fv),(15,vS p s1 c),(16,vI (s1.length:Int)),(17,vI 0)] ?_;obtain⟨o0,aA,aE⟩:=zB N;refine pZ s1 s2 eq 0 o0 aA iR h1 h2 h nG nO ?_ ?_
 ·intro aP  heq aa;subst o0;refine zS<|zE3 [(6,vY)]<|zK<|xD ?_;exact xX aE (resT rfl) (λ_ h=>h) ⟨_,rfl,rfl,rfl⟩
 intro r0 I9 hs9 m9 aT le9 aV;subst aT;refine zV<|zJ ?_;obtain rfl:=zE aE;exact jW aV
def tQ(aD:List HA)(r:Bool):KT:=λkk I' ag v=>
 ∃v0,aD=ag/\v=tupV [v0]/\v0=.bool r
def yU(s1:(List zF))(s2:(List zF))(eq:(zF->zF->Option Bool))(t17:Int):Option (Out Unit (Bool)):=do
 if(decide (t17<(s1.length:Int))) then
  let x<-idx s1 t17;let x1<-idx s2 t17;let y<-eq x x1;if(!y) then pure (.ret false)
  else yU s1 s2 eq (W (t17+1))
 else pure (.done ())
 partial_fixpoint
theorem oY(s1:(List zF))(s2:(List zF))(eq:(zF->zF->Option Bool)):∀(t17:Int) (o:Out Unit (Bool)),yU s1 s2 eq t17=some o->∀{B}{I0 I:Imm}{Q p c p1 c1}{fv:Value}{aD:List HA},I0.le I->(S4 I p1 s2 c1)->(FV2 Tryz.prog I aD fv eq)->(S4 I p s1 c)->NG Q->NO Q->(∀I',o=(.done ())->I0.le I'->T 32 B Q (.exit 0) I' aD [])->(∀r I' ag m',o=(.ret r)->I0.le I'->RS Tryz.prog f67 B (tQ aD r) I' ag m'->T 32 B Q .ret I' ag m')->J Tryz.prog 32 B (nav (bodyOf f67) [1,1,0,1,0]) Q I aD [(1,vS p1 s2 c1),(2,fv),(15,vS p s1 c),(16,vI (s1.length:Int)),(17,vI t17)]:=by
 refine yU.partial_correctness s1 s2 eq _ λaJ ih t17 o N B I0 I Q p c p1 c1 fv aD H h1 h2 h hg ho hx hr=>yX hg ho<|yK [18] rfl<|yA<|yH N ?_ ?_
 ·intro aH N;refine zT<|yA<|yL<|yD<|yG 1 [] [19] rfl<|bE N λx hy N=>xW rfl rfl h hy ?_;intro ad aN aq am;obtain⟨p2,c2,p3,c3,rfl,h3,h4⟩:=wI am;refine xM 0 aq (cPart x p2 c2 p3 c3) (vA (cPart x p2 c2 p3 c3)) rfl<|xY zTwo ?_;intro b hb;refine yG 5 [] [7] rfl<|jV 0 (cPart x p2 c2 p3 c3) (hB b (cPart x p2 c2 p3 c3)::aD) rfl rfl rfl rfl<|zY rfl<|yY<|yG 2 [] [22,23] rfl<|bE N λx1 az N=>xW rfl rfl h1 az ?_;intro ad1 bq aw ay;obtain⟨p4,c4,p5,c5,rfl,h5,h6⟩:=wI ay;refine xM 0 aw (cPart x1 p4 c4 p5 c5) (vA (cPart x1 p4 c4 p5 c5)) rfl<|xY zTwo ?_;intro b1 hb1;refine jV 0 (cPart x1 p4 c4 p5 c5) (hB b1 (cPart x1 p4 c4 p5 c5)::hB b (cPart x p2 c2 p3 c3)::aD) rfl rfl rfl rfl<|zY rfl<|yY<|uW 3 [1,0] [(26,fv),(27,vA (cPart x p2 c2 p3 c3)),(28,vA (cPart x1 p4 c4 p5 c5))]<|bE N λy aG N=>tX (ag:=aD++[hB b1 (cPart x1 p4 c4 p5 c5),hB b (cPart x p2 c2 p3 c3)]) (eU [hB b1 (cPart x1 p4 c4 p5 c5),hB b (cPart x p2 c2 p3 c3)] aD)<|zK4 rfl rfl rfl h2 aG ⟨_,rfl,(wU ⟨_,_,rfl,h3,h4⟩)⟩ ⟨_,rfl,(wU ⟨_,_,rfl,h5,h6⟩)⟩ rfl ?_;rintro I0 v04 le rfl;refine tX (ag:=(hB b1 (cPart x1 p4 c4 p5 c5)::hB b (cPart x p2 c2 p3 c3)::aD)) (eU aD [hB b1 (cPart x1 p4 c4 p5 c5),hB b (cPart x p2 c2 p3 c3)]) ?_;have ⟨h1,h2,h,H⟩:=m4 le h1 h2 h H;refine yQ [] [30] rfl<|zK<|yH N ?_ ?_
  ·intro ba N;exact wZ [(6,vF)]<|xH<|zV<|zJ<|zJ<|hr _ _ _ _ (zE N).symm H ⟨_,_,(resT rfl),(kS [hB b1 (cPart x1 p4 c4 p5 c5),hB b (cPart x p2 c2 p3 c3)] aD [] rfl (by decide)),⟨_,rfl,rfl,rfl⟩⟩
  intro ba N;exact zT<|zN<|zK<|zL<|yQ [] [17] rfl<|yV<|qZ (kS [hB b1 (cPart x1 p4 c4 p5 c5),hB b (cPart x p2 c2 p3 c3)] aD [] rfl (by decide))<|nX<|ih (W (t17+1)) _ N H h1 h2 h hg ho hx hr
 intro aH N;exact wW<|yZ<|hx _  (zE N).symm H
def wJ(s1:(List zF))(s2:(List zF))(eq:(zF->zF->Option Bool)):Option (Bool):=do
 if((s1.length:Int) != (s2.length:Int)) then pure false
 else
  match<-yU s1 s2 eq 0 with
  | .ret r0=>pure r0
  | .done _=>
   pure true
theorem mE:∀s1 s2 eq r,wJ s1 s2 eq=some r->∀{I:Imm}{p c p1 c1}{fv:Value}{aD:List HA},(S4 I p s1 c)->(S4 I p1 s2 c1)->(FV2 Tryz.prog I aD fv eq)->RT 67 [vS p s1 c,vS p1 s2 c1,fv] I aD (tQ aD r):=by
 intro s1 s2 eq r N I p c p1 c1 fv aD h h1 h2;unfold wJ at N;refine yM func67 λB=>wZ []<|yA<|yK [14] rfl<|zK<|yH N ?_ ?_
 ·intro hc N;refine wZ [(6,vF)]<|xH<|zJ ?_;exact xX N (resT rfl) (λ_ h=>h) ⟨_,rfl,rfl,rfl⟩
 intro hc N;refine zT<|yA<|yK [15,16,17] rfl<|wN<|qX [(1,vS p1 s2 c1),(2,fv),(15,vS p s1 c),(16,vI (s1.length:Int)),(17,vI 0)] ?_;obtain⟨o0,aA,aE⟩:=zB N;refine oY s1 s2 eq 0 o0 aA iR h1 h2 h nG nO ?_ ?_
 ·intro aP  heq aa;subst o0;refine zS<|zE3 [(6,vY)]<|zK<|xD ?_;exact xX aE (resT rfl) (λ_ h=>h) ⟨_,rfl,rfl,rfl⟩
 intro r0 I9 hs9 m9 aT le9 aV;subst aT;refine zV<|zJ ?_;obtain rfl:=zE aE;exact jW aV
def eK(a0:zC)(b:zC):Option (Bool):=do
 let t4<-(do
  let y<-wC a0.Arrays b.Arrays sX;if y then
   let y1<-wJ a0.Parts b.Parts sY;pure (id y1)
  else
   pure false
    : Option Bool)
 pure (id t4)
theorem zLM:∀a0 b r,eK a0 b=some r->∀{I:Imm}{p c p1 c1 p2 c2 p3 c3},(S4 I p a0.Arrays c)->(S4 I p1 a0.Parts c1)->(S4 I p2 b.Arrays c2)->(S4 I p3 b.Parts c3)->RT 19 [vA (cProg a0 p c p1 c1),vA (cProg b p2 c2 p3 c3)] I [] (zW  r):=by
 intro a0 b r N I p c p1 c1 p2 c2 p3 c3 h h1 h2 h3;unfold eK at N;refine yM func19 λB=>?_;have H:=iS I;refine yD<|vC (cProg a0 p c p1 c1) ?_;intro b1 hb;refine vC (cProg b p2 c2 p3 c3) ?_;intro b2 hb1;refine wM [] []<|vM [5] rfl<|vM [6] rfl<|zK<|yC ?_;refine vQ N [] (λt4=>[(4,.bool t4)]) (λo0 aA=>?_) ?_
 ·have H:=iS I;refine zL<|yG 5 [1,0] [8,10,11] rfl ?_;have hf0:FV2 Tryz.prog I [] (.func (.func 60) ⟨[]⟩ ⟨[]⟩) sX:=by
   refine FV2.intro ?_;intro I1 aa x0 x1 r u0 u1 hF k0 k1;obtain⟨_,rfl,k0⟩:=k0;obtain⟨p4,c4,rfl,h4⟩:=wH k0;obtain⟨_,rfl,k1⟩:=k1;obtain⟨p5,c5,rfl,h5⟩:=wH k1;exact(zD9 x0 x1 r hF h4 h5).mono (by rintro k i hs u ⟨v0,rfl,rfl,h⟩;exact⟨rfl,h⟩)
  obtain⟨y,hy,N⟩:=zB aA;refine xK (oM a0.Arrays b.Arrays sX _ hy h h2 hf0) ?_;rintro aP ax v2 k2 le - ⟨v02,rfl,rfl,rfl⟩ -;have ⟨h3,h,h1,H⟩:=m4 le h3 h h1 H;refine yG 7 [] [13] rfl<|wR [13] N ?_ ?_
  ·intro hc N;refine yG 12 [1,0] [15,17,18] rfl ?_;have hf01:FV2 Tryz.prog aP [] (.func (.func 62) ⟨[]⟩ ⟨[]⟩) sY:=by
    refine FV2.intro ?_;intro I1 aa x0 x1 r u0 u1 hF k0 k1;obtain⟨_,rfl,k0⟩:=k0;obtain⟨p6,c6,p7,c7,rfl,h7,h8⟩:=wI k0;obtain⟨_,rfl,k1⟩:=k1;obtain⟨p8,c8,p9,c9,rfl,h9,h10⟩:=wI k1;exact(zDa x0 x1 r hF h7 h8 h9 h10).mono (by rintro k i hs u ⟨v0,rfl,rfl,h⟩;exact⟨rfl,h⟩)
   obtain⟨y1,az,N⟩:=zB N;refine xK (mE a0.Parts b.Parts sY _ az h1 h3 hf01) ?_;rintro aW ax v2 k2 aa - ⟨v07,rfl,rfl,rfl⟩ -;have H:=H.trans aa;exact yQ [] [4] rfl<|wK zO<|yZ<|zU (ct N H)
  intro hc N;exact wM [] [(4,vF)]<|wK zO<|yZ<|zU (ct N H)
 intro t4 I0 aC aX;refine zK<|xD ?_;obtain rfl:=zE aX;exact vH
def M.cmp_isNaN_int(x:Int):Option (Bool):=do
 pure (x != x)
theorem zCj:∀x r,M.cmp_isNaN_int x=some r->∀{I:Imm} ,RT 194 [vI x] I [] (zW  r):=by
 intro x r N I;unfold M.cmp_isNaN_int at N;refine yM func194 λB=>wZ []<|vM [2] rfl<|zK<|xD ?_;obtain rfl:=zE N;exact vH
def M.cmp_Compare_int(x:Int)(y:Int):Option (Int):=do
 let y1<-M.cmp_isNaN_int x;let y2<-M.cmp_isNaN_int y;if y1 then
  if y2 then pure (id 0)
  else pure (-1)
 else
  if y2 then pure (id 1)
  else
   if(decide (x<y)) then pure (-1)
   else
    if(decide (x>y)) then pure (id 1)
    else pure (id 0)
theorem zFN:∀x y r,M.cmp_Compare_int x y=some r->∀{I:Imm} ,RT 153 [vI x,vI y] I [] (yP  r):=by
 intro x y r N I;unfold M.cmp_Compare_int at N;refine yM func153 λB=>wZ []<|yY<|yG 1 [] [7] rfl<|bE N λy1 hy N=>tA (zCj x _ hy ) λI0 le=>wM [] [(5,.bool y1)]<|yY<|uW 1 [] [(9,vI y)]<|bE N λy2 az N=>tA (zCj y _ az ) λaP aa=>wM [] [(6,.bool y2)]<|yA<|wZ [(11,.bool y1)]<|zK<|yH N ?_ ?_
 ·intro hc N;refine yC<|yK [12] rfl<|zK<|yH N ?_ ?_
  ·intro aH N;refine yK [4] rfl<|xH<|zJ<|zJ ?_;obtain rfl:=zE N;exact vH
  intro aH N;refine zT<|vM [4] rfl<|xH<|zJ ?_;obtain rfl:=zE N;exact vH
 intro hc N;refine zT<|yA<|yK [13] rfl<|zK<|yH N ?_ ?_
 ·intro ba N;refine yK [4] rfl<|xH<|zJ ?_;obtain rfl:=zE N;exact vH
 intro ba N;refine zT<|yA<|yK [16] rfl<|zK<|yH N ?_ ?_
 ·intro bD N;refine yK [4] rfl<|xH<|zJ ?_;obtain rfl:=zE N;exact vH
 intro bD N;refine zT<|yA<|yK [19] rfl<|zK<|yH N ?_ ?_
 ·intro bJ N;refine yK [4] rfl<|xH<|zJ ?_;obtain rfl:=zE N;exact vH
 intro bJ N;refine zT<|vM [4] rfl<|zK<|xD ?_;obtain rfl:=zE N;exact vH
def wS(s1:(List Int))(s2:(List Int))(t11:Int):Option (Out Unit (Int)):=do
 if(decide (t11<(s1.length:Int))) then
  let x<-idx s1 t11;if(decide (t11>=(s2.length:Int))) then pure (.ret 1)
  else
   let x1<-idx s2 t11;let y<-M.cmp_Compare_int x x1;if(y != 0) then pure (.ret y)
   else wS s1 s2 (W (t11+1))
 else pure (.done ())
 partial_fixpoint
theorem zBU(s1:(List Int))(s2:(List Int)):∀(t11:Int) (o:Out Unit (Int)),wS s1 s2 t11=some o->∀{B}{I0 I:Imm}{Q p c p1 c1},I0.le I->(S4 I p s1 c)->(S4 I p1 s2 c1)->NG Q->NO Q->(∀I',o=(.done ())->I0.le I'->T 36 B Q (.exit 0) I' [] [(0,vS p s1 c),(1,vS p1 s2 c1)])->(∀r I' ag m',o=(.ret r)->I0.le I'->RS Tryz.prog f111 B (yP  r) I' ag m'->T 36 B Q .ret I' ag m')->J Tryz.prog 36 B (nav (bodyOf f111) [1,0,1,0]) Q I [] [(0,vS p s1 c),(1,vS p1 s2 c1),(9,vS p s1 c),(10,vI (s1.length:Int)),(11,vI t11)]:=by
 refine wS.partial_correctness s1 s2 _ λaJ ih t11 o N B I0 I Q p c p1 c1 H h h1 hg ho hx hr=>yX hg ho<|yK [12] rfl<|yA<|yH N ?_ ?_
 ·intro hc N;refine zT<|yA<|yL<|yD<|yG 1 [] [13] rfl<|bE N λx hy N=>xW rfl rfl h hy ?_;intro ad aN aq am;obtain rfl:=am;refine xM 0 aq [vI x] (vI x) rfl<|yQ [] [5,6] rfl<|yA<|yK [19] rfl<|zK<|yH N ?_ ?_
  ·intro aH N;exact yK [4] rfl<|xH<|zJ<|zV<|zJ<|zJ<|hr _ _ _ _ (zE N).symm H ⟨_,_,(resT rfl),zO,⟨_,rfl,rfl,rfl⟩⟩
  intro aH N;refine zT<|yY<|yG 2 [] [20,21] rfl<|bE N λx1 az N=>xW rfl rfl h1 az ?_;intro ad1 bq aw ay;obtain rfl:=ay;refine xM 0 aw [vI x1] (vI x1) rfl<|yQ [] [7] rfl<|yY<|yG 2 [] [24,25] rfl<|bE N λy aG N=>dC (zFN x x1 _ aG ) ?_;intro I0 le;have ⟨h,h1,H⟩:=m3 le h h1 H;refine yQ [] [8] rfl<|vM [28] rfl<|zK<|yH N ?_ ?_
  ·intro ba N;exact yK [4] rfl<|xH<|zV<|zJ<|zJ<|hr _ _ _ _ (zE N).symm H ⟨_,_,(resT rfl),zO,⟨_,rfl,rfl,rfl⟩⟩
  intro ba N;exact zT<|zN<|zK<|zL<|yQ [] [11] rfl<|yV<|nX<|ih (W (t11+1)) _ N H h h1 hg ho hx hr
 intro hc N;exact wW<|yZ<|hx _  (zE N).symm H
def pQ(s1:(List Int))(s2:(List Int)):Option (Int):=do
 match<-wS s1 s2 0 with
 | .ret r0=>pure r0
 | .done _=>
  if(decide ((s1.length:Int)<(s2.length:Int))) then pure (-1)
  else pure (id 0)
theorem zBu:∀s1 s2 r,pQ s1 s2=some r->∀{I:Imm}{p c p1 c1},(S4 I p s1 c)->(S4 I p1 s2 c1)->RT 111 [vS p s1 c,vS p1 s2 c1] I [] (yP  r):=by
 intro s1 s2 r N I p c p1 c1 h h1;unfold pQ at N;refine yM func111 λB=>wZ []<|yA<|yK [9,10,11] rfl<|wN<|qX [(0,vS p s1 c),(1,vS p1 s2 c1),(9,vS p s1 c),(10,vI (s1.length:Int)),(11,vI 0)] ?_;obtain⟨o0,aA,aE⟩:=zB N;refine zBU s1 s2 0 o0 aA iR h h1 nG nO ?_ ?_
 ·intro aP  heq aa;subst o0;refine zS<|yA<|yK [35] rfl<|zK<|yH aE ?_ ?_
  ·intro bD N;refine yK [4] rfl<|xH<|zJ ?_;obtain rfl:=zE N;exact vH
  intro bD N;refine zT<|vM [4] rfl<|zK<|xD ?_;obtain rfl:=zE N;exact vH
 intro r0 I9 hs9 m9 aT le9 aV;subst aT;refine zV<|zJ ?_;obtain rfl:=zE aE;exact jW aV
def dS(p:(List Int))(q:(List Int)):Option (Bool):=do
 let y<-pQ p q;pure (decide (y<0))
theorem zHa:∀p q r,dS p q=some r->∀{I:Imm}{p1 c p2 c1},(S4 I p1 p c)->(S4 I p2 q c1)->RT 68 [vS p1 p c,vS p2 q c1] I [] (zW  r):=by
 intro p q r N I p1 c p2 c1 h h1;unfold dS at N;refine yM func68 λB=>wZ []<|yY<|yG 2 [] [5,6] rfl<|bE N λy hy N=>dC (zBu p q _ hy h h1) λI0 le=>wM [] [(4,.bool (decide (y<0)))]<|zK<|xD ?_;obtain rfl:=zE N;exact vH
def tY(part:Int)(t:tH)(y5:(List yR))(x2:zC)(t56:Int):Option (Out zC (zC×Bool)):=do
 if(decide (t56<(y5.length:Int))) then
  let x4<-idx y5 t56;let x5<-idx t.list x4.From;let x6<-idx t.list x4.To;let t93<-(do
   if(x5.Part==part) then
    if(x6.Part==(W (part+1))) then
     let y6<-dS x6.Point x5.Point;pure (id y6)
    else pure false
   else
    pure false
     : Option Bool)
  if t93 then pure (.ret ((zC.mk ([]:List zD) ([]:List zF)),false))
  else tY part t y5 x2 (W (t56+1))
 else pure (.done x2)
 partial_fixpoint
theorem zDv(part:Int)(t:tH)(y5:(List yR))(x2:zC):∀(t56:Int) (o:Out zC (zC×Bool)),tY part t y5 x2 t56=some o->∀{B}{I0 I:Imm}{Q}{y:zC}{x:zF}{pks:List PK}{b1 pn pq pa pp cn cq ca cp}{csq:List Value}{csp:List Value}{ad:Addr}{b3}{ad1:Addr}{p3 c2 p4 c3 p5 c4 p6 c5 p7 c6 p8 c7 p9 c8 aL c9},I0.le I->(S4 I pn x.Nest cn)->(RL I csq x.Body)->(S4 I p3 t.Program.Arrays c2)->(S4 I p4 t.Program.Parts c3)->(S4 I p5 t.list c4)->(S4 I p6 t.reads c5)->(S4 I p7 t.writes c6)->(At I ad1 [vS p3 t.Program.Arrays c2,vS p4 t.Program.Parts c3,vS p5 t.list c4,vS p6 t.reads c5,vS p7 t.writes c6])->(S4 I p8 y5 c7)->(S4 I pa y.Arrays ca)->(RL I csp pks)->(S4 I p9 x2.Arrays c8)->(S4 I aL x2.Parts c9)->NG Q->NO Q->(∀I' x3 aF aO bj aQ,o=(.done x3)->I0.le I'->(S4 I' aF x3.Arrays aO)->(S4 I' bj x3.Parts aQ)->T 123 B Q (.exit 0) I' [hB b3 [vS pa y.Arrays ca,vS pp pks cp],hO PK (vS pp pks cp) csp,hO zI (vS pq x.Body cq) csq,hB b1 (cProg x3 aF aO bj aQ)] [(1,vI part),(4,vP b1 0),(6,vP b3 0),(7,.pointer (some ad))])->(∀r I' ag m',o=(.ret r)->I0.le I'->RS Tryz.prog f20 B (mK  r) I' ag m'->T 123 B Q .ret I' ag m')->J Tryz.prog 123 B (nav (bodyOf f20) [1,1,1,1,0,1,0]) Q I [hB b3 [vS pa y.Arrays ca,vS pp pks cp],hO PK (vS pp pks cp) csp,hO zI (vS pq x.Body cq) csq,hB b1 (cProg x2 p9 c8 aL c9)] [(1,vI part),(4,vP b1 0),(6,vP b3 0),(7,.pointer (some ad)),(9,.pointer (some ad1)),(54,vS p8 y5 c7),(55,vI (y5.length:Int)),(56,vI t56)]:=by
 refine tY.partial_correctness part t y5 x2 _ λaJ ih t56 o N B I0 I Q y x pks b1 pn pq pa pp cn cq ca cp csq csp ad b3 ad1 p3 c2 p4 c3 p5 c4 p6 c5 p7 c6 p8 c7 p9 c8 aL c9 H h10 h9 h13 h14 h15 h16 h17 aq h18 h2 h3 h19 h20 hg ho hx hr=>yX hg ho<|yK [57] rfl<|yA<|yH N ?_ ?_
 ·intro ba N;refine zT<|yA<|yL<|yD<|bE N λx4 hy6 N=>xW rfl rfl h18 hy6 ?_;intro ad2 bq aw ay;obtain rfl:=zEp ay;refine xM 0 aw [vI x4.From,vI x4.To,vI x4.Kinds] (vA [vI x4.From,vI x4.To,vI x4.Kinds]) rfl<|xY [vI 0,vI 0,vI 0] ?_;intro b4 hb3;refine xC 0 [vI x4.From,vI x4.To,vI x4.Kinds] rfl<|zY rfl<|zK<|yC ?_;obtain⟨x5,hy7,N⟩:=zB N;obtain⟨x6,hy8,N⟩:=zB N;refine wP [.p (.pointer (some ad1)) [],.p (.pointer (some ad1)) [],.p (.pointer (some (ad1.add 2))) [],.q (vS p5 t.list c4),.p (vP b4 0) [],.p (vI x4.From) [0],.x (ePInst x5),.x (eVInst x5),.p (.pointer (some ad1)) [],.p (.pointer (some ad1)) [],.p (.pointer (some (ad1.add 2))) [],.q (vS p5 t.list c4),.p (vP b4 1) [],.p (vI x4.To) [0],.x (ePInst x6),.x (eVInst x6),.x (λI' v hx=>∃b5,v=vP b5 0/\hx=[hB b5 [vI 0,vI 0,z0]]),.x (λI' v hx=>∃b6,v=vP b6 0/\hx=[hB b6 [vI 0,vI 0,z0]]),.x (λI' v hx=>∃b51 p1311 c1211,v=vP b51 0/\hx=[hB b51 (cInst x5 p1311 c1211)]/\(S4 I' p1311 x5.Point c1211))] [[],[(0,false)],[(1,false)],[(2,false)],[],[(4,false)],[(3,false),(5,false)],[(6,false)],[],[(8,false)],[(9,false)],[(10,false)],[],[(12,false)],[(11,false),(13,false)],[(14,false)],[],[],[(7,false),(16,true)]] [hB b4 [vI x4.From,vI x4.To,vI x4.Kinds],hB b3 [vS pa y.Arrays ca,vS pp pks cp],hO PK (vS pp pks cp) csp,hO zI (vS pq x.Body cq) csq,hB b1 (cProg x2 p9 c8 aL c9)] [] [(15,false),(17,true),(18,true)] (zZ [0,1,2,3,4]) ?_ ?_
  ·refine O3<|Oq ?_<|O2<|Ox ?_<|Ox ?_<|O3<|Oq ?_<|O2<|Ox ?_<|Ox ?_<|Ox ?_<|Ox ?_<|Ox ?_<|On
   ·intro I1 hf aa;refine yW [62] rfl ?_;have aq:=aq.mono aa;exact xM 2 aq [vS p5 t.list c4] (vS p5 t.list c4) rfl<|xO iR
   ·intro I1 hf aa;refine yW [63,65] rfl ?_;have h15:=h15.mono aa;refine xW rfl rfl h15 hy7 ?_;intro ad3 bL bk br;obtain⟨bc,aZ,rfl,h23⟩:=oH br;exact yN [] iR ⟨_,_,_,rfl,rfl,bk,h23⟩
   ·rintro I1 hf aa _ _ ⟨ad3,bc,aZ,rfl,rfl,bk,h23⟩;exact yW [66] rfl<|xM 0 bk (cInst x5 bc aZ) (vA (cInst x5 bc aZ)) rfl<|yN [] iR ⟨_,_,rfl,rfl,h23⟩
   ·intro I1 hf aa;refine yW [70] rfl ?_;have aq:=aq.mono aa;exact xM 2 aq [vS p5 t.list c4] (vS p5 t.list c4) rfl<|xO iR
   ·intro I1 hf aa;refine yW [71,73] rfl ?_;have h15:=h15.mono aa;refine xW rfl rfl h15 hy8 ?_;intro ad4 ccs3 hat3 bB;obtain⟨p14,bd,rfl,h24⟩:=oH bB;exact yN [] iR ⟨_,_,_,rfl,rfl,hat3,h24⟩
   ·rintro I1 hf aa _ _ ⟨ad4,p14,bd,rfl,rfl,hat3,h24⟩;exact yW [74] rfl<|xM 0 hat3 (cInst x6 p14 bd) (vA (cInst x6 p14 bd)) rfl<|yN [] iR ⟨_,_,rfl,rfl,h24⟩
   ·intro I1 hf aa;refine I_h []<|xY [vI 0,vI 0,z0] ?_;intro b5 hb4;exact yN [hB b5 [vI 0,vI 0,z0]] iR ⟨_,rfl,rfl⟩
   ·intro I1 hf aa;refine I_h []<|xY [vI 0,vI 0,z0] ?_;intro b6 hb5;exact yN [hB b6 [vI 0,vI 0,z0]] iR ⟨_,rfl,rfl⟩
   rintro I1 hf aa _ _ ⟨p131,c121,rfl,rfl,h231⟩ _ _ ⟨b5,rfl,rfl⟩;exact yW [13,67] rfl<|jV 0 (cInst x5 p131 c121) (hB b5 (cInst x5 p131 c121)::hB b4 [vI x4.From,vI x4.To,vI x4.Kinds]::hB b3 [vS pa y.Arrays ca,vS pp pks cp]::hO PK (vS pp pks cp) csp::hO zI (vS pq x.Body cq) csq::hB b1 (cProg x2 p9 c8 aL c9)::hf) rfl rfl rfl rfl<|yN [hB b5 (cInst x5 p131 c121)] iR ⟨_,_,_,rfl,rfl,h231⟩
  rintro bK aI _ _ ⟨p141,c131,rfl,rfl,h241⟩ _ _ ⟨b6,rfl,rfl⟩ _ _ ⟨b51,p1311,c1211,rfl,rfl,h2311⟩;refine yW [1,4,6,7,9,13,14,54,55,56,75] rfl ?_;have ⟨h10,h9,h13,h14,h15,h16⟩:=m6 aI h10 h9 h13 h14 h15 h16;have ⟨h17,aq,h18,h2,h3,h19⟩:=m6 aI h17 aq h18 h2 h3 h19;have ⟨h20,H⟩:=m2 aI h20 H;refine xC 1 (cInst x6 p141 c131) rfl<|zY rfl<|zK<|yC ?_;refine vQ N [hB b3 [vS pa y.Arrays ca,vS pp pks cp],hO PK (vS pp pks cp) csp,hO zI (vS pq x.Body cq) csq,hB b1 (cProg x2 p9 c8 aL c9)] (λt93=>[(1,vI part),(4,vP b1 0),(6,vP b3 0),(7,.pointer (some ad)),(9,.pointer (some ad1)),(54,vS p8 y5 c7),(55,vI (y5.length:Int)),(56,vI t56),(93,.bool t93)]) (λo0 aA=>?_) ?_
  ·have H:=iS bK;refine zL<|yG 5 [0] [80] rfl<|wR [80] aA ?_ ?_
   ·intro bD N;refine yG 12 [1] [87] rfl<|wR [87] N ?_ ?_
    ·intro bJ N;refine yG 16 [1,0] [89,91] rfl<|bE N λy6 hy9 N=>tA (zHa x6.Point x5.Point _ hy9 h241 h2311) ?_;intro I07 aY;have H:=H.trans aY;exact yQ [] [93] rfl<|wK (zX [3,4,5,6] rfl (by decide))<|yZ<|zU (ct N H)
    intro bJ N;exact wM [] [(93,vF)]<|wK (zX [3,4,5,6] rfl (by decide))<|yZ<|zU (ct N H)
   intro bD N;exact wM [] [(93,vF)]<|wK (zX [3,4,5,6] rfl (by decide))<|yZ<|zU (ct N H)
  intro t93 I06 bo aX;have ⟨h10,h9,h13,h14,h15,h16⟩:=m6 bo h10 h9 h13 h14 h15 h16;have ⟨h17,aq,h18,h2,h3,h19⟩:=m6 bo h17 aq h18 h2 h3 h19;have ⟨h20,H⟩:=m2 bo h20 H;refine zK<|yH aX ?_ ?_
  ·intro hc5 N;exact yD<|yG 1 [] [94] rfl<|jV 3 zTwo [hB b3 [vS pa y.Arrays ca,vS pp pks cp],hO PK (vS pp pks cp) csp,hO zI (vS pq x.Body cq) csq,hB b1 zTwo] rfl rfl rfl rfl<|wM [] [(5,vF)]<|xH<|zV<|zJ<|zJ<|hr _ _ _ _ (zE N).symm H ⟨_,_,(resE 3 rfl rfl rfl),zO,⟨_,_,rfl,rfl,⟨_,rfl,(xJ ⟨_,_,rfl,(SL.nil _),(SL.nil _)⟩)⟩,rfl⟩⟩
  intro hc5 N;exact zT<|zN<|zK<|zL<|yQ [] [56] rfl<|yV<|nX<|ih (W (t56+1)) _ N H h10 h9 h13 h14 h15 h16 h17 aq h18 h2 h3 h19 h20 hg ho hx hr
 intro ba N;exact wW<|yZ<|hx _ _ _ _ _ _ (zE N).symm H h19 h20
def zAI(p:zC)(part:Int):Option (zC×Bool):=do
 match<-zAG p part with
 | none=>
  pure ((zC.mk [] []),false)
 | some y=>
  let x<-idx y.Parts part;if decide (W (part+1)>=(p.Parts.length:Int)) then pure ((zC.mk ([]:List zD) ([]:List zF)),false)
  else
   let x1<-idx p.Parts (W (part+1));let y1<-nS x.Nest x1.Nest;if(!y1) then pure ((zC.mk ([]:List zD) ([]:List zF)),false)
   else
    let (y3,y4)<-zAF p;let t<-y3;let y5<-mJ t
    match<-tY part t y5 (zC.mk ([]:List zD) ([]:List zF)) 0 with
    | .ret r0=>pure r0
    | .done x3=>
     let x7<-idx y.Parts (W (part+1));let l<-app 152 x.Body x7.Body;let l1<-pure (y.Parts.set part.toNat (zF.mk x.Nest l));let y7<-uN (y.Parts.set part.toNat (zF.mk x.Nest l)) (W (part+1)) (W (part+2));let (y9,y10)<-gD (zC.mk y.Arrays y7);pure (y9,y10)
theorem zLw:∀p part r,zAI p part=some r->∀{I:Imm}{p1 c p2 c1},(S4 I p1 p.Arrays c)->(S4 I p2 p.Parts c1)->RT 20 [vA (cProg p p1 c p2 c1),vI part] I [] (mK  r):=by
 intro p part r N I p1 c p2 c1 h h1;unfold zAI at N;refine yM func20 λB=>yD<|vC (cProg p p1 c p2 c1) ?_;intro b hb;refine xY zTwo ?_;intro b1 hb1;refine wM [] []<|yY<|uW 2 [1] [(16,vA (cProg p p1 c p2 c1)),(17,vI part)]<|bE N λoy hy N=>xK (zEu p part _ hy h h1) ?_;rintro I0 ax v2 k2 le - hpost -;have ⟨h,h1⟩:=m2 le h h1;cases oy with
 | none=>
  obtain⟨rfl,rfl⟩:=hpost;refine yG 7 [] [19,20,21] rfl<|xY zTwo ?_;intro b2 hb0;refine jV 0 zTwo (hB b2 zTwo::[hB b1 zTwo,hB b (cProg p p1 c p2 c1)]) rfl rfl rfl rfl<|yQ [] [7,8] rfl<|yA<|yC<|qZ (zX [1] rfl (by decide))<|qX [(4,vP b1 0),(8,vF)]<|wP [.p vF [],.p vY [],.p vY [],.p undef [],.p undef [],.p undef [],.p undef [],.p undef [],.p undef [],.p vY [],.p vY [],.p undef [],.p undef [],.p undef [],.p undef [],.p undef [],.p undef [],.p undef [],.p undef [],.p undef [],.p undef [],.p undef [],.p undef [],.p undef [],.p vY []] [[],[(0,false)],[(1,false)],[(2,false)],[(2,false)],[(2,false)],[(2,false)],[(2,false)],[(2,false)],[(2,false),(8,false)],[(9,false)],[(10,false)],[(10,false)],[(10,false)],[(10,false)],[(10,false)],[(10,false)],[(10,false)],[(10,false)],[(10,false)],[(10,false)],[(10,false)],[(10,false)],[(10,false)],[(10,false),(23,false)]] [hB b1 zTwo] [] [(24,false)] (λ_ gd=>gd) (O4<|O4<|O4<|O4<|O4<|O4<|Op<|On) ?_;intro I9 le9Z;refine yW [4,46] rfl<|wM [] []<|zK<|nN rfl<|yD<|yG 1 [] [47] rfl<|jV 0 zTwo [hB b1 zTwo] rfl rfl rfl rfl<|wM [] [(5,vF)]<|xH<|zJ ?_;exact xX N (resE 0 rfl rfl rfl) zO ⟨_,_,rfl,rfl,⟨_,rfl,(xJ ⟨_,_,rfl,(SL.nil _),(SL.nil _)⟩)⟩,rfl⟩
 | some y=>
  obtain⟨pks,x,pn,cn,pq,cq,csq,pa,ca,pp,cp,csp,ad,rfl,rfl,h2,h3,h4,h5,h6,h7,h8,h9,h10⟩:=hpost;have hx1:idx y.Parts part=some x:=by rw[<- h4];exact zA7 h5
  obtain⟨x9,hx9,N⟩:=zB N;obtain rfl:x=x9:=Option.some.inj (hx1.symm.trans hx9);refine yG 7 [] [19,20,21] rfl<|xY zTwo ?_;intro b3 hb2;refine xC 0 [vS pa y.Arrays ca,vS pp pks cp] rfl<|yQ [] [7,8] rfl<|yA<|yC ?_;cases hc:decide (W (part+1)>=(p.Parts.length:Int)) with
  | true=>
   have hM0:=rZ hc N;refine wP [.p vY [],.p vF [],.p vF [],.p (vI part) [],.p (vI (W (part+1))) [],.p (vP b 1) [],.p (vS p2 p.Parts c1) [4],.p (vI (p.Parts.length:Int)) [],.q vY,.p vY [],.p vY [],.p undef [],.p undef [],.p undef [],.p undef [],.p undef [],.p undef [],.p undef [],.p undef [],.p undef [],.p undef [],.p undef [],.p undef [],.p undef [],.p vY []] [[],[(0,false)],[(1,false)],[(2,false)],[(2,false),(3,false)],[(2,false)],[(2,false),(5,false)],[(2,false),(6,false)],[(2,false),(4,false),(7,false)],[(2,false),(8,false)],[(9,false)],[(10,false)],[(10,false)],[(10,false)],[(10,false)],[(10,false)],[(10,false)],[(10,false)],[(10,false)],[(10,false)],[(10,false)],[(10,false)],[(10,false)],[(10,false)],[(10,false),(23,false)]] [hB b3 [vS pa y.Arrays ca,vS pp pks cp],hO PK (vS pp pks cp) csp,hO zI (vS pq x.Body cq) csq,hB b1 zTwo,hB b (cProg p p1 c p2 c1)] [] [(24,false)] (λ_ gd=>gd) ?_ ?_
   ·refine O4<|O4<|Oq ?_<|O4<|O4<|O4<|O4<|On;intro I1 hf aa;refine yW [24,26,29] rfl<|oN 9 [(30,.bool (decide (W (part+1)>=(p.Parts.length:Int))))] ?_;rw[hc];exact xO iR
   intro aP le9Z;refine yW [1,2,4,6,7,46] rfl ?_;refine wM [] []<|zK<|nN rfl<|yD<|yG 1 [] [47] rfl<|jV 3 zTwo [hB b3 [vS pa y.Arrays ca,vS pp pks cp],hO PK (vS pp pks cp) csp,hO zI (vS pq x.Body cq) csq,hB b1 zTwo,hB b (cProg p p1 c p2 c1)] rfl rfl rfl rfl<|wM [] [(5,vF)]<|xH<|zJ ?_;exact xX hM0 (resE 3 rfl rfl rfl) zO ⟨_,_,rfl,rfl,⟨_,rfl,(xJ ⟨_,_,rfl,(SL.nil _),(SL.nil _)⟩)⟩,rfl⟩
  | false=>
   have hM01:=sP hc N;obtain⟨x1,az,N⟩:=zB hM01;obtain⟨y1,aG,N⟩:=zB N;refine wP [.p vY [],.p vF [],.p vF [],.p (vI part) [],.p (vI (W (part+1))) [],.p (vP b 1) [],.p (vS p2 p.Parts c1) [4],.p (vI (p.Parts.length:Int)) [],.q vF,.p vF [],.p vF [],.p (.pointer (some ad)) [],.p (.pointer (some ad)) [],.p (.pointer (some ad)) [],.q (vS pn x.Nest cn),.p (vP b 1) [],.p (vS p2 p.Parts c1) [4],.p (vI part) [],.p (vI (W (part+1))) [],.x (λI' v hx=>∃ad3 pz cz pw cw,v=.pointer (some ad3)/\hx=[]/\(At I' ad3 (cPart x1 pz cz pw cw))/\(S4 I' pz x1.Nest cz)),.x (λI' v hx=>∃ad3 pz cz pw cw,v=.pointer (some ad3)/\hx=[]/\(At I' ad3 (cPart x1 pz cz pw cw))/\(S4 I' pz x1.Nest cz)),.x (eS x1.Nest),.q (.bool y1),.p (.bool (!y1)) [],.p (.bool (!y1)) []] [[],[(0,false)],[(1,false)],[(2,false)],[(2,false),(3,false)],[(2,false)],[(2,false),(5,false)],[(2,false),(6,false)],[(2,false),(4,false),(7,false)],[(2,false),(8,false)],[(9,false)],[(10,false)],[(10,false),(11,false)],[(10,false),(12,false)],[(10,false),(13,false)],[(10,false)],[(10,false),(15,false)],[(10,false)],[(10,false),(17,false)],[(10,false),(16,false),(18,false)],[(10,false),(19,false)],[(10,false),(20,false)],[(10,false),(14,false),(21,false)],[(10,false),(22,false)],[(10,false),(23,false)]] [hB b3 [vS pa y.Arrays ca,vS pp pks cp],hO PK (vS pp pks cp) csp,hO zI (vS pq x.Body cq) csq,hB b1 zTwo,hB b (cProg p p1 c p2 c1)] [] [(24,false)] (λ_ gd=>gd) ?_ ?_
   ·refine O4<|O4<|Oq ?_<|O4<|Op<|Oq ?_<|O4<|Ox ?_<|Ox ?_<|Ox ?_<|Oq ?_<|O2<|On
    ·intro I1 hf aa;refine yW [24,26,29] rfl<|oN 9 [(30,.bool (decide (W (part+1)>=(p.Parts.length:Int))))] ?_;rw[hc];exact xO iR
    ·rintro I1 hf aa _ _ ⟨rfl,rfl⟩ _ _ ⟨rfl,rfl⟩;exact uB<|zBI [(32,vF),(35,.pointer (some ad))]<|zCU 1 0 h7 h8 [vS pn x.Nest cn] (vS pn x.Nest cn) rfl rfl<|xO iR
    ·intro I1 hf aa;refine yW [32,38,40] rfl<|xW rfl rfl (h1.mono aa) az ?_;intro ad3 ccs3 hat3 bB;obtain⟨pz,cz,pw,cw,rfl,k4,k5⟩:=wI bB;exact yN [] iR ⟨_,_,_,_,_,rfl,rfl,hat3,k4⟩
    ·rintro I1 hf aa _ _ ⟨rfl,rfl⟩ _ _ ⟨ad3,pz,cz,pw,cw,rfl,rfl,hat3,k4⟩;exact uB<|zBI [(32,vF),(41,.pointer (some ad3))]<|oN 21 [(42,.pointer (some ad3))]<|yN [] iR ⟨_,_,_,_,_,rfl,rfl,hat3,k4⟩
    ·rintro I1 hf aa _ _ ⟨rfl,rfl⟩ _ _ ⟨ad3,pz,cz,pw,cw,rfl,rfl,hat3,k4⟩;exact uB<|zBI [(32,vF),(42,.pointer (some ad3))]<|xM 0 hat3 [vS pz x1.Nest cz] (vS pz x1.Nest cz) rfl<|yN [] iR ⟨_,_,rfl,rfl,k4⟩
    rintro I1 hf aa _ _ ⟨rfl,rfl⟩ _ _ ⟨rfl,rfl⟩ _ _ ⟨pz,cz,rfl,rfl,k4⟩;refine yW [32,36,43] rfl<|xK (zCi x.Nest x1.Nest _ aG (h10.mono aa) k4) ?_;rintro bx ax v2 k2 aI - ⟨v04,rfl,rfl,rfl⟩ -;exact xO aI
   intro aW le9Z;refine yW [1,2,4,6,7,46] rfl ?_;have ⟨h10,h9,h2,h3,h,h1⟩:=m6 le9Z h10 h9 h2 h3 h h1;refine wM [] []<|zK<|yH N ?_ ?_
   ·intro aH N;refine yD<|yG 1 [] [47] rfl<|jV 3 zTwo [hB b3 [vS pa y.Arrays ca,vS pp pks cp],hO PK (vS pp pks cp) csp,hO zI (vS pq x.Body cq) csq,hB b1 zTwo,hB b (cProg p p1 c p2 c1)] rfl rfl rfl rfl<|wM [] [(5,vF)]<|xH<|zJ ?_;exact xX N (resE 3 rfl rfl rfl) zO ⟨_,_,rfl,rfl,⟨_,rfl,(xJ ⟨_,_,rfl,(SL.nil _),(SL.nil _)⟩)⟩,rfl⟩
   intro aH N;refine zT<|yY<|uW 1 [4] [(49,vA (cProg p p1 c p2 c1))] ?_;obtain⟨⟨y3,y4⟩,bh,N⟩:=zB N;refine xK (zEt p _ bh h h1) ?_;rintro bx ax v2 k2 aa - ⟨v0,v01,rfl,rfl,h11,rfl⟩ -;have ⟨h10,h9,h2,h3,h⟩:=m5 aa h10 h9 h2 h3 h;refine wM [] [(9,v0)]<|yA<|yD<|uW 1 [] [(53,v0)] ?_;obtain⟨t,bu,N⟩:=zB N;obtain⟨ad1,aN,rfl,aq,am⟩:=zLp h11 bu;obtain⟨p3,c2,p4,c3,p5,c4,p6,c5,p7,c6,rfl,h13,h14,h15,h16,h17⟩:=zDn am;obtain⟨y5,bC,N⟩:=zB N;refine xK (zB0 t _ bC h13 h14 h15 h16 h17 aq) ?_;rintro bG ax v2 k2 aC - ⟨v07,rfl,rfl,h18⟩ -;have ⟨h10,h9,h13,h14,h15,h16⟩:=m6 aC h10 h9 h13 h14 h15 h16;have ⟨h17,aq,h2,h3,h⟩:=m5 aC h17 aq h2 h3 h;obtain⟨p8,c7,rfl⟩:=h18.form;refine yQ [] [55,56] rfl<|wN<|qZ (zZ [0,1,2,3] (ag:=[hB b3 [vS pa y.Arrays ca,vS pp pks cp],hO PK (vS pp pks cp) csp,hO zI (vS pq x.Body cq) csq,hB b1 zTwo]))<|qX [(1,vI part),(4,vP b1 0),(6,vP b3 0),(7,.pointer (some ad)),(9,.pointer (some ad1)),(54,vS p8 y5 c7),(55,vI (y5.length:Int)),(56,vI 0)] ?_;obtain⟨aU,aB,aE⟩:=zB N;refine zDv part t y5 (zC.mk ([]:List zD) ([]:List zF)) 0 aU aB iR h10 h9 h13 h14 h15 h16 h17 aq h18 h2 h3 (SL.nil _) (SL.nil _) nG nO ?_ ?_
   ·intro I08 x3 aF aO bj aQ heq1 bv h21 h22;subst aU;have ⟨h10,h9,h2,h3⟩:=m4 bv h10 h9 h2 h3;refine zS<|zK<|yC ?_;obtain⟨x7,hy10,N⟩:=zB aE;obtain⟨l,hy11,N⟩:=zB N;obtain⟨l1,hy12,N⟩:=zB N;obtain rfl:=zE hy12;refine zJu (λw gd=>zI0 gd (j:=1) rfl) ?_;rintro⟨klcZ,kMZ,-⟩;obtain⟨zkZ,kzZ,kdZ⟩:=zPL h4 hy10;obtain⟨i0Z,i1Z,i2⟩:=uQ h5;obtain⟨j0Z,j1Z,j2Z⟩:=uQ kzZ;have kWZ:W (part+1)=part+1:=rE (by omega) (by omega);have koZ:zkZ.o=false:=h6 _ _ j2Z (by omega);have krepZ:=(h3.at j2Z).1;obtain⟨kcZ,-,-,kBZ⟩:=krepZ;replace kBZ:=kBZ koZ;rw[kdZ] at kBZ;obtain⟨prZ,crZ,krZ⟩:=kBZ.form;rw[krZ] at kBZ kcZ;replace kcZ:(csp.drop ((W (part+1)).toNat*2)).take 2=[zkZ.r.a,vS prZ x7.Body crZ]:=kcZ;refine wP [.p (.pointer (some ad)) [],.p (.pointer (some ad)) [],.p (.pointer (some ad)) [],.p (.pointer (some (ad.add 1))) [],.q (vS pq x.Body cq),.p (vP b3 1) [],.p (vS pp pks cp) [0],.p (vI part) [],.p (vI (W (part+1))) [],.x (λI' v hx=>∃ad2,v=.pointer (some ad2)/\hx=[]/\AtO (vS pp pks cp) 2 (W (part+1)).toNat ad2),.x (λI' v hx=>∃ad2,v=.pointer (some (ad2.add 1))/\hx=[]/\AtO (vS pp pks cp) 2 (W (part+1)).toNat ad2),.q (vS prZ x7.Body crZ),.x (λI' v hx=>∃a9Z c9Z cs9Z,v=vS a9Z l c9Z/\hx=[hO zI (vS a9Z l c9Z) cs9Z]/\(RL I' cs9Z l))] [[],[],[(1,false)],[(2,false)],[(3,false)],[],[(5,false)],[],[(7,false)],[(6,false),(8,false)],[(9,false)],[(10,false)],[(4,false),(11,false),(16,true)]] [hB b3 [vS pa y.Arrays ca,vS pp pks cp],hO PK (vS pp pks cp) csp,hB b1 (cProg x3 aF aO bj aQ)] [[hO zI (vS pq x.Body cq) csq]] [(0,false),(12,true)] (zZ [0,1,3,2]) ?_ ?_
    ·refine O4<|Oq ?_<|O4<|Ox ?_<|Ox ?_<|Oq ?_<|Ox ?_<|On
     ·rintro I1 hf aa _ _ ⟨rfl,rfl⟩;exact uB<|zBI [(99,.pointer (some (ad.add 1)))]<|zCU 1 1 h7 h8 [vS pq x.Body cq] (vS pq x.Body cq) rfl rfl<|xO iR
     ·intro I1 hf aa;exact yW [102,104] rfl<|gJ (α:=PK) 1 rfl rfl rfl (iM aa h3) kzZ λad2 bL bk _ _=>yN [] iR ⟨_,rfl,rfl,bk⟩
     ·rintro I1 hf aa _ _ ⟨ad2,rfl,rfl,bk⟩;exact uB<|zBI [(105,.pointer (some ad2))]<|oN 11 [(106,.pointer (some (ad2.add 1)))]<|yN [] iR ⟨_,rfl,rfl,bk⟩
     ·rintro I1 hf aa _ _ ⟨ad2,rfl,rfl,bk⟩;exact uB<|zBI [(106,.pointer (some (ad2.add 1)))]<|zCU 1 1 bk kcZ [vS prZ x7.Body crZ] (vS prZ x7.Body crZ) rfl rfl<|xO iR
     rintro I1 hf aa _ _ ⟨rfl,rfl⟩ _ _ ⟨rfl,rfl⟩ _ _ rfl;refine yW [100,107] rfl ?_;obtain⟨ccs9,k02,k03⟩:=kBZ.mono aa;exact sW (α:=zI) 100 9 0 rfl rfl rfl (iM aa h9) (.inl k02) k03 hy11 λa9Z c9Z cs9Z h9Z=>wY (ag:=(hO zI (vS a9Z l c9Z) cs9Z::hB b3 [vS pa y.Arrays ca,vS pp pks cp]::hO PK (vS pp pks cp) csp::hB b1 (cProg x3 aF aO bj aQ)::hf)) rfl<|yN [hO zI (vS a9Z l c9Z) cs9Z] iR ⟨_,_,_,rfl,rfl,h9Z⟩
    rintro I09 le9Z _ _ ⟨rfl,rfl⟩ _ _ ⟨a9Z,c9Z,cs9Z,rfl,rfl,h9Z⟩;refine yW [1,4,6,96,108] rfl ?_;have ⟨h2,h3,h10⟩:=m3 le9Z h2 h3 h10;refine yG 15 [] [110] rfl<|gX (α:=PK) (c:=[vS pn x.Nest cn,vS a9Z l c9Z]) (x':=⟨⟨vS pn x.Nest cn,vS a9Z l c9Z⟩,⟨x.Nest,l⟩,true⟩) 2 1 rfl rfl rfl h7 rfl rfl h8 (by kernel_rfl) (by kernel_rfl) (by kernel_rfl) h3 h5 rfl ⟨rfl,⟨rfl,rfl⟩,h10,λe=>by cases e⟩ λcs10Z h10Z l10Z=>zY rfl<|xB 0 rfl ?_;intro bN le10Z hl10Z;have h11Z:SL bN (vS a9Z l c9Z) l:=SL.of_frozen hl10Z le10Z h9Z;obtain⟨q1Z,q2Z,q3Z⟩:=zPK (z:=(⟨⟨vS pn x.Nest cn,vS a9Z l c9Z⟩,⟨x.Nest,l⟩,true⟩:PK)) h5 h6 h4;have h26:RL bN cs10Z (y.Parts.set part.toNat (zF.mk x.Nest l)):=zLv q1Z q2Z h11Z (iM le10Z h10Z) q3Z;have l11Z:pks.length=(y.Parts.set part.toNat (zF.mk x.Nest l)).length:=by rw[cP,<- h4,cS]
    have e11Z:vS pp pks cp=vS pp (y.Parts.set part.toNat (zF.mk x.Nest l)) cp:=by simp only[vS,l11Z]
    have h2:=h2.mono le10Z;refine wK (ag:=[hB b3 [vS pa y.Arrays ca,vS pp (y.Parts.set part.toNat (zF.mk x.Nest l)) cp],hO zF (vS pp (y.Parts.set part.toNat (zF.mk x.Nest l)) cp) cs10Z,hB b1 (cProg x3 aF aO bj aQ)]) (λw gd=>by rw[<- e11Z];exact gd)<|yY<|yG 6 [0] [112,114,116] rfl<|tX (zZ [1,0,2] (ag:=[hO zF (vS pp (y.Parts.set part.toNat (zF.mk x.Nest l)) cp) cs10Z,hB b3 [vS pa y.Arrays ca,vS pp (y.Parts.set part.toNat (zF.mk x.Nest l)) cp],hB b1 (cProg x3 aF aO bj aQ)])) ?_;obtain⟨y7,hy13,N⟩:=zB N;refine qB (zAN (y.Parts.set part.toNat (zF.mk x.Nest l)) (W (part+1)) (W (part+2)) _ hy13 h26) rfl ?_;rintro bS ax v2 k2 le7 - ⟨p15,c14,cs,rfl,rfl,h27⟩ -;have h2:=h2.mono le7;refine yG 8 [] [118] rfl<|xC 1 [vS pa y.Arrays ca,vS p15 y7 c14] rfl<|zY rfl<|yY<|uW 1 [1] [(119,vA [vS pa y.Arrays ca,vS p15 y7 c14])]<|xV 0 rfl ?_;intro bR le8 hl0;have h28:=SL.of_frozen hl0 le8 h27;have h2:=h2.mono le8;obtain⟨⟨y9,y10⟩,hy14,N⟩:=zB N;refine xK (zCh (zC.mk y.Arrays y7) _ hy14 h2 h28) ?_;rintro I013 ax v2 k2 le9 - ⟨v011,v012,rfl,rfl,⟨au,rfl,h29⟩,rfl⟩ -;obtain⟨p16,c15,p17,c16,rfl,h31,h32⟩:=kT h29;refine yG 4 [] [121,122] rfl<|xC 1 (cProg y9 p16 c15 p17 c16) rfl<|yQ [] [5] rfl<|zK<|xD ?_;exact xX N (resE 1 rfl rfl rfl) zO ⟨_,_,rfl,rfl,⟨_,rfl,(xJ ⟨_,_,rfl,h31,h32⟩)⟩,rfl⟩
   intro r0 I9 hs9 m9 aT le9 aV;subst aT;refine zV<|zJ ?_;obtain rfl:=zE aE;exact jW aV
def zFu(r:zQ):KT:=λkk I' ag v=>
 ∃b_0 a0_0 c0_0,ag=[.blk b_0 ⟨[.slice a0_0 r.b.length c0_0,.int .i64 r.p]⟩]/\v=tupV [(.pointer (some ⟨b_0,0,none⟩))]/\SL I' (.slice a0_0 r.b.length c0_0) r.b
def zAk(code:(List UInt8)):Option (zQ):=do
 let code1<-(do
  if(decide ((code.length:Int)>2000)) then
   let l<-slc code 0 2000;pure (id l)
  else
   pure (id code)
    : Option (List UInt8))
 pure (zQ.mk code1 0)
theorem zMf:∀code r,zAk code=some r->∀{I:Imm}{p c},(S4 I p code c)->RT 27 [vS p code c] I [] (zFu  r):=by
 intro code r N I p c h;unfold zAk at N;refine yM func27 λB=>?_;have H:=iS I;refine wZ []<|yA<|yK [5] rfl<|zK ?_;obtain⟨o0,aA,aX⟩:=zB N;refine nP (λI' ag m'=>∃(code1:List UInt8) (p1:Option Addr) (c1:Nat),o0=code1/\I.le I'/\(S4 I' p1 code1 c1)/\ag=[]/\m'=[(0,vS p1 code1 c1)]) ?_ ?_
 ·have H:=iS I;refine yH aA ?_ ?_
  ·intro hc N;refine zL<|yG 1 [] [6] rfl<|bE N λl hy N=>zMS rfl h hy ?_;intro v0 h2;obtain⟨p2,c2,rfl⟩:=h2.form;exact yQ [] [0] rfl<|yZ<|zU ⟨_,_,_,(zE N).symm,H,h2,rfl,rfl⟩
  intro hc N;exact zT<|yZ<|zU ⟨_,_,_,(zE N).symm,H,h,rfl,rfl⟩
 rintro I0 ax m2 ⟨code1,p1,c1,heq,le,h1,rfl,rfl⟩;subst o0;refine yY<|yG 2 [] [9] rfl<|vC [vS p1 code1 c1,vI 0] ?_;intro b hb;refine yQ [] [2] rfl<|zK<|xD ?_;exact xX aX (resT rfl) (zX [0] rfl (by decide)) ⟨_,_,_,rfl,rfl,h1⟩
def zDw(b0:Nat)(r:Int×zQ):KT:=λkk I' ag v=>
 ∃v0 k0,ag=[.blk b0 ⟨k0⟩]/\v=tupV [v0]/\v0=.int .i64 r.1/\Rp.rep I' k0 r.2
def xN(r0:zQ)(n0:Int):Option (Int×zQ):=do
 let t24<-(do
  if(decide (n0<1)) then pure true
  else
   pure ((r0.b.length:Int)==0)
    : Option Bool)
 if t24 then pure (0,(zQ.mk r0.b (W (r0.p+1))))
 else
  if(decide ((W ((W (r0.p+1)) - 1))<(r0.b.length:Int))) then
   let x<-idx r0.b (W ((W (r0.p+1)) - 1));let q<-rem (W (x.toNat:Int)) n0;pure (q,(zQ.mk r0.b (W (r0.p+1))))
  else
   let q1<-rem (W ((W (r0.p+1)) - 1)) (r0.b.length:Int);let x1<-idx r0.b q1;let q2<-rem (W ((W ((W ((W (r0.p+1)) - 1))*7))+3)) (r0.b.length:Int);let x2<-idx r0.b q2;let q3<-quo (W ((W (r0.p+1)) - 1)) (r0.b.length:Int);let q4<-rem (W (BitVec.ofInt IntKind.i64.bits (W ((W ((W ((W ((W (x1.toNat:Int))*131))+(W ((W (x2.toNat:Int))*1117))))+(W ((W ((W (r0.p+1)) - 1))*29))))+(W (q3*53)))) ^^^ BitVec.ofInt IntKind.i64.bits (W ((W ((W ((W ((W ((W (x1.toNat:Int))*131))+(W ((W (x2.toNat:Int))*1117))))+(W ((W ((W (r0.p+1)) - 1))*29))))+(W (q3*53)))).tdiv 64))).toNat) n0;pure (q4,(zQ.mk r0.b (W (r0.p+1))))
theorem wL:∀r0 n0 r,xN r0 n0=some r->∀{I:Imm}{av}{p c},(S4 I p r0.b c)->RT 73 [vP av 0,vI n0] I [hB av (cRd r0 p c)] (zDw av r):=by
 intro r0 n0 r N I av p c h;unfold xN at N;refine yM func73 λB=>?_;have H:=iS I;refine wZ []<|yY<|yG 8 [0] [12,14] rfl<|xC 0 [vS p r0.b c,vI (W (r0.p+1))] rfl<|zY rfl<|yA<|yC ?_;refine vQ N [hB av [vS p r0.b c,vI (W (r0.p+1))]] (λt24=>[(0,vP av 0),(1,vI n0),(24,.bool t24)]) (λo0 aA=>?_) ?_
 ·have H:=iS I;refine zL<|yG 3 [] [17] rfl<|wR [17] aA ?_ ?_
  ·intro hc N;exact wM [] [(24,vY)]<|yZ<|zU (ct N H)
  intro hc N;exact yQ [0] [24] rfl<|yZ<|zU (ct N H)
 intro t24 I0 le aX;have h:=h.mono le;refine zK<|yH aX ?_ ?_
 ·intro aH N;refine yK [4] rfl<|xH<|zJ ?_;exact xX N (resT rfl) (zX [0] rfl (by decide)) ⟨_,_,rfl,rfl,rfl,(xF ⟨_,rfl,h⟩)⟩
 intro aH N;refine zT<|yY<|yQ [0] [5] rfl<|yA<|yD<|yQ [0] [36] rfl<|zK<|yH N ?_ ?_
 ·intro ba N;refine yD<|yG 5 [0] [40,41] rfl<|bE N λx hy N=>xW rfl rfl h hy ?_;intro ad aN aq am;obtain rfl:=am;refine xM 0 aq [.int .u8 (x.toNat:Int)] (.int .u8 (x.toNat:Int)) rfl<|yG 9 [] [44,45] rfl<|bE N λq az N=>zPh rfl az<|yQ [] [4] rfl<|xH<|zJ ?_;exact xX N (resT rfl) (zX [0] rfl (by decide)) ⟨_,_,rfl,rfl,rfl,(xF ⟨_,rfl,h⟩)⟩
 intro ba N;refine zT<|yA<|zA5 (by kernel_rfl) (by kernel_rfl)<|zB2 10 [0,0] [50,51,56] rfl<|bE N λq1 aG N=>zOe rfl aG<|bE N λx1 bh N=>zDk rfl rfl h bh ?_;intro ad1 bq aw ay;obtain rfl:=ay;refine zC5 0 aw [.int .u8 (x1.toNat:Int)] (.int .u8 (x1.toNat:Int)) rfl<|zB2 27 [0,0] [61,65,68,73] rfl<|bE N λq2 bu N=>zOe rfl bu<|bE N λx2 bC N=>zDk rfl rfl h bC ?_;intro ad2 bL bk br;obtain rfl:=br;refine zC5 0 bk [.int .u8 (x2.toNat:Int)] (.int .u8 (x2.toNat:Int)) rfl<|zB2 42 [0] [82,83,88] rfl<|bE N λq3 hy6 N=>zPg rfl hy6<|zK5 [] [6] rfl<|vM [6] rfl<|yY<|yG 2 [] [96,97] rfl<|bE N λq4 hy7 N=>zPh rfl hy7<|yQ [] [4] rfl<|zK<|xD ?_;exact xX N (resT rfl) (zX [0] rfl (by decide)) ⟨_,_,rfl,rfl,rfl,(xF ⟨_,rfl,h⟩)⟩
def zE7(b0:Nat)(r:Int×zQ):KT:=λkk I' ag v=>
 ∃v0 k0,ag=[.blk b0 ⟨k0⟩]/\v=tupV [v0]/\v0=.int .i64 r.1/\Rp.rep I' k0 r.2
def xI(r0:zQ)(list:(List Int)):Option (Int×zQ):=do
 let (y1,y2)<-xN r0 (list.length:Int);let x<-idx list y1;pure (x,y2)
theorem xP:∀r0 list r,xI r0 list=some r->∀{I:Imm}{av}{p c p1 c1},(S4 I p r0.b c)->(S4 I p1 list c1)->RT 29 [vP av 0,vS p1 list c1] I [hB av (cRd r0 p c)] (zE7 av r):=by
 intro r0 list r N I av p c p1 c1 h h1;unfold xI at N;refine yM func29 λB=>wZ []<|yY<|yG 4 [] [5,6,8] rfl ?_;obtain⟨⟨y1,y2⟩,hy,N⟩:=zB N;refine qB (wL r0 (list.length:Int) _ hy h) rfl ?_;rintro I0 ax v2 k2 le - ⟨v0,kk,rfl,rfl,rfl,h3⟩ -;have h1:=h1.mono le;obtain⟨p2,c2,rfl,h4⟩:=yJ h3;obtain⟨x,az,N⟩:=zB N;refine xW rfl rfl h1 az ?_;intro ad aN aq am;obtain rfl:=am;refine xM 0 aq [vI x] (vI x) rfl<|yQ [] [4] rfl<|zK<|xD ?_;exact xX N (resT rfl) (zX [0] rfl (by decide)) ⟨_,_,rfl,rfl,rfl,(xF ⟨_,rfl,h4⟩)⟩
def qQ(nest:(List zG))(i:Int)(k0:Int)(Lo:List zA):Option (List zA):=do
 let x<-idx nest i;if(decide (k0<(x.Lo.length:Int))) then
  let x1<-idx nest i;let x2<-idx x1.Lo k0;let l<-app 8 ([]:List Int) x2.Coefs;let l1<-app 32 Lo ([(zA.mk l x2.Const)]:List zA);qQ nest i (W (k0+1)) l1
 else pure (id Lo)
 partial_fixpoint
theorem zCG(nest:(List zG))(i:Int):∀(k0:Int) (Lo:List zA) (o:List zA),qQ nest i k0 Lo=some o->∀{B}{I0 I:Imm}{Q}{τ:Type} [Rp τ] {out:List τ}{p c p1 c1 cs}{b1}{p3 c3 aR},I0.le I->(S4 I p nest c)->(RL I cs out)->(RL I aR Lo)->NG Q->NO Q->(∀I' Lo1 p4 c4 aM,o=Lo1->I0.le I'->(RL I' aM Lo1)->T 83 B Q (.exit 2) I' [hO zA (vS p4 Lo1 c4) aM,hB b1 [vS p4 Lo1 c4,z0],hO τ (vS p1 out c1) cs] [(0,vS p nest c),(3,vS p1 out c1),(4,vI i),(5,vP b1 0)])->J Tryz.prog 83 B (nav (bodyOf f150) [1,1,0,1,0,0,1,0,0,1,0,1,0]) Q I [hO zA (vS p3 Lo c3) aR,hB b1 [vS p3 Lo c3,z0],hO τ (vS p1 out c1) cs] [(0,vS p nest c),(3,vS p1 out c1),(4,vI i),(5,vP b1 0),(6,vI k0)]:=by
 refine qQ.partial_correctness nest i _ λaJ ih k0 Lo o N B I0 I Q τ _ out p c p1 c1 cs b1 p3 c3 aR H h h2 h5 hg ho hx=>yX hg ho<|yC<|yD<|yG 3 [] [18,19,20] rfl<|bE N λx hy N=>xW rfl rfl h hy ?_;intro ad aN aq am;obtain⟨p5,c5,p6,c6,rfl,h7,h8⟩:=vD am;refine yG 5 [] [22] rfl<|xM 0 aq [vS p5 x.Lo c5] (vS p5 x.Lo c5) rfl<|yQ [] [25] rfl<|zK<|yH N ?_ ?_
 ·intro aH N;refine zT<|yA<|yL<|yD<|yG 2 [] [28,29] rfl<|bE N λx1 az N=>xW rfl rfl h az ?_;intro ad1 bq aw ay;obtain⟨p7,c7,p8,c8,rfl,h9,h10⟩:=vD ay;refine yG 4 [] [31] rfl<|xM 0 aw [vS p7 x1.Lo c7] (vS p7 x1.Lo c7) rfl<|yG 6 [] [33] rfl<|bE N λx2 aG N=>xW rfl rfl h9 aG ?_;intro ad2 bL bk br;obtain⟨p9,c9,rfl,h11⟩:=yI br;refine xM 0 bk (cAff x2 p9 c9) (vA (cAff x2 p9 c9)) rfl<|xY [z0,vI 0] ?_;intro b2 hb2;refine xC 0 (cAff x2 p9 c9) rfl<|zY rfl<|zK ?_;obtain⟨l,bh,N⟩:=zB N;obtain⟨l1,bu,N⟩:=zB N;refine wP [.p (vP b1 0) [],.p (vS p3 Lo c3) [1],.x (λI' v hx=>∃b3,v=vS (some ⟨b3,0,none⟩) ([]:List Int) 0/\hx=[hO Int (vS (some ⟨b3,0,none⟩) ([]:List Int) 0) []]/\(RL I' [] ([]:List Int))),.p (vP b2 0) [],.p (vS p9 x2.Coefs c9) [0],.x (λI' v hx=>∃aL aO bt,v=vS aL l aO/\hx=[hO Int (vS aL l aO) bt]/\(RL I' bt l)),.p (vP b2 1) [],.p (vI x2.Const) [0],.x (λI' v hx=>∃p101 c101 cs41,v=vA [vS p101 l c101,vI x2.Const]/\hx=[hO Int (vS p101 l c101) cs41]/\(RL I' cs41 l)),.x (λI' v hx=>∃b4,v=vS (some ⟨b4,0,none⟩) ([(zA.mk l x2.Const)]:List zA) 1/\hx=[]/\(SL I' (vS (some ⟨b4,0,none⟩) ([(zA.mk l x2.Const)]:List zA) 1) ([(zA.mk l x2.Const)]:List zA))),.x (λI' v hx=>∃aF aQ bz,v=vS aF l1 aQ/\hx=[hO zA (vS aF l1 aQ) bz]/\(RL I' bz l1))] [[],[(0,false)],[],[],[(3,false)],[(2,true),(4,false)],[],[(6,false)],[(5,true),(7,false)],[(8,true)],[(1,false),(9,false),(13,true)]] [hB b2 (cAff x2 p9 c9),hB b1 [vS p3 Lo c3,z0],hO τ (vS p1 out c1) cs] [[hO zA (vS p3 Lo c3) aR]] [(10,true)] (zZ [0,2,3,1]) ?_ ?_
  ·refine O2<|Ox ?_<|O2<|Ox ?_<|O2<|Ox ?_<|Ox ?_<|Ox ?_<|On
   ·intro I1 hf aa;refine I_h []<|uX [] Int ?_;intro b3 hb3;have h12:RL I1 [] ([]:List Int):=rfl;exact yN [hO Int (vS (some ⟨b3,0,none⟩) ([]:List Int) 0) []] iR ⟨_,rfl,rfl,h12⟩
   ·rintro I1 hf aa _ _ ⟨b3,rfl,rfl,h12⟩;refine yW [38,40] rfl ?_;have h11:=h11.mono aa;obtain⟨ccs3,k01,k02⟩:=h11;have h11:SL I1 (vS p9 x2.Coefs c9) x2.Coefs:=⟨_,k01,k02⟩;exact sW 3 1 0 rfl rfl rfl h12 (.inl k01) k02 bh λaL aO bt h13=>wY (ag:=(hO Int (vS aL l aO) bt::hB b2 (cAff x2 p9 c9)::hB b1 [vS p3 Lo c3,z0]::hO τ (vS p1 out c1) cs::hf)) rfl<|yN [hO Int (vS aL l aO) bt] iR ⟨_,_,_,rfl,rfl,h13⟩
   ·rintro I1 hf aa _ _ ⟨aL,aO,bt,rfl,rfl,h13⟩;exact yW [41,43] rfl<|oN 9 [(44,vA [vS aL l aO,vI x2.Const])]<|yN [hO Int (vS aL l aO) bt] iR ⟨_,_,_,rfl,rfl,h13⟩
   ·rintro I1 hf aa _ _ ⟨p101,c101,cs41,rfl,rfl,h131⟩;refine yW [44] rfl ?_;have H:=iS I1;refine xV 0 rfl ?_;intro I0 le hl0;have h14:=SL.of_frozen hl0 le h131;have H:=H.trans le;refine mH (rc (zA.mk l x2.Const) (yO ⟨_,rfl,h14⟩) rN) ?_;intro b4 aP aa h16;have H:=H.trans aa;exact yN [] H ⟨_,rfl,rfl,h16⟩
   rintro I1 hf aa _ _ ⟨rfl,rfl⟩ _ _ ⟨b4,rfl,rfl,h16⟩ _ _ rfl;refine yW [37,45] rfl ?_;have h5:=iM aa h5;obtain⟨ccs4,k03,k04⟩:=h16;have h16:SL I1 (vS (some ⟨b4,0,none⟩) ([(zA.mk l x2.Const)]:List zA) 1) ([(zA.mk l x2.Const)]:List zA):=⟨_,k03,k04⟩;exact sW 95 2 0 rfl rfl rfl h5 (.inl k03) k04 bu λaF aQ bz h17=>wY (ag:=(hO zA (vS aF l1 aQ) bz::hB b2 (cAff x2 p9 c9)::hB b1 [vS p3 Lo c3,z0]::hO τ (vS p1 out c1) cs::hf)) rfl<|yN [hO zA (vS aF l1 aQ) bz] iR ⟨_,_,_,rfl,rfl,h17⟩
  rintro aW aC _ _ ⟨aF,aQ,bz,rfl,rfl,h17⟩;refine yW [0,3,4,5,6,46] rfl ?_;have ⟨h,h2,H⟩:=m3 aC h h2 H;exact yG 12 [] [47] rfl<|xC 2 [vS aF l1 aQ,z0] rfl<|zY rfl<|zN<|zK<|zL<|yQ [] [6] rfl<|yV<|qZ (zX [0,2,3] rfl (by decide))<|nX<|ih (W (k0+1)) l1 _ N H h h2 h17 hg ho hx
 intro aH N;exact wW<|yZ<|hx _ _ _ _ _ (zE N).symm H h5
def qR(nest:(List zG))(i:Int)(k05:Int)(Hi:List zA):Option (List zA):=do
 let x3<-idx nest i;if(decide (k05<(x3.Hi.length:Int))) then
  let x4<-idx nest i;let x5<-idx x4.Hi k05;let l2<-app 8 ([]:List Int) x5.Coefs;let l3<-app 32 Hi ([(zA.mk l2 x5.Const)]:List zA);qR nest i (W (k05+1)) l3
 else pure (id Hi)
 partial_fixpoint
theorem zCH(nest:(List zG))(i:Int):∀(k05:Int) (Hi:List zA) (o:List zA),qR nest i k05 Hi=some o->∀{B}{I0 I:Imm}{Q}{τ:Type} [Rp τ] {out:List τ}{Lo1:List zA}{p c p1 c1 cs}{b1}{p4 c4 aM bj aZ cs6},I0.le I->(S4 I p nest c)->(RL I cs out)->(RL I aM Lo1)->(RL I cs6 Hi)->NG Q->NO Q->(∀I' Hi1 bc bd cs7,o=Hi1->I0.le I'->(RL I' cs7 Hi1)->T 83 B Q (.exit 4) I' [hO zA (vS bc Hi1 bd) cs7,hO zA (vS p4 Lo1 c4) aM,hB b1 [vS p4 Lo1 c4,vS bc Hi1 bd],hO τ (vS p1 out c1) cs] [(0,vS p nest c),(3,vS p1 out c1),(4,vI i),(5,vP b1 0)])->J Tryz.prog 83 B (nav (bodyOf f150) [1,1,0,1,0,0,1,0,0,1,1,0,1,0]) Q I [hO zA (vS bj Hi aZ) cs6,hO zA (vS p4 Lo1 c4) aM,hB b1 [vS p4 Lo1 c4,vS bj Hi aZ],hO τ (vS p1 out c1) cs] [(0,vS p nest c),(3,vS p1 out c1),(4,vI i),(5,vP b1 0),(8,vI k05)]:=by
 refine qR.partial_correctness nest i _ λaJ ih k05 Hi o N B I0 I Q τ _ out Lo1 p c p1 c1 cs b1 p4 c4 aM bj aZ cs6 H h h2 h6 h19 hg ho hx=>yX hg ho<|yC<|yD<|yG 3 [] [48,49,50] rfl<|bE N λx3 bC N=>xW rfl rfl h bC ?_;intro ad3 ccs5 hat3 bB;obtain⟨p14,c14,p15,c15,rfl,h21,h22⟩:=vD bB;refine yG 5 [] [52] rfl<|xM 1 hat3 [vS p15 x3.Hi c15] (vS p15 x3.Hi c15) rfl<|yQ [] [55] rfl<|zK<|yH N ?_ ?_
 ·intro ba N;refine zT<|yA<|yL<|yD<|yG 2 [] [58,59] rfl<|bE N λx4 hy6 N=>xW rfl rfl h hy6 ?_;intro ad4 ccs6 hat4 hrep4;obtain⟨p16,c16,p17,c17,rfl,h23,h24⟩:=vD hrep4;refine yG 4 [] [61] rfl<|xM 1 hat4 [vS p17 x4.Hi c17] (vS p17 x4.Hi c17) rfl<|yG 6 [] [63] rfl<|bE N λx5 hy7 N=>xW rfl rfl h24 hy7 ?_;intro ad5 ccs7 hat5 hrep5;obtain⟨p18,c18,rfl,h25⟩:=yI hrep5;refine xM 0 hat5 (cAff x5 p18 c18) (vA (cAff x5 p18 c18)) rfl<|xY [z0,vI 0] ?_;intro b5 hb5;refine xC 0 (cAff x5 p18 c18) rfl<|zY rfl<|zK ?_;obtain⟨l2,hy8,N⟩:=zB N;obtain⟨l3,hy9,N⟩:=zB N;refine wP [.p (vP b1 1) [],.p (vS bj Hi aZ) [2],.x (λI' v hx=>∃b6,v=vS (some ⟨b6,0,none⟩) ([]:List Int) 0/\hx=[hO Int (vS (some ⟨b6,0,none⟩) ([]:List Int) 0) []]/\(RL I' [] ([]:List Int))),.p (vP b5 0) [],.p (vS p18 x5.Coefs c18) [0],.x (λI' v hx=>∃p19 c19 cs8,v=vS p19 l2 c19/\hx=[hO Int (vS p19 l2 c19) cs8]/\(RL I' cs8 l2)),.p (vP b5 1) [],.p (vI x5.Const) [0],.x (λI' v hx=>∃p191 c191 cs81,v=vA [vS p191 l2 c191,vI x5.Const]/\hx=[hO Int (vS p191 l2 c191) cs81]/\(RL I' cs81 l2)),.x (λI' v hx=>∃b7,v=vS (some ⟨b7,0,none⟩) ([(zA.mk l2 x5.Const)]:List zA) 1/\hx=[]/\(SL I' (vS (some ⟨b7,0,none⟩) ([(zA.mk l2 x5.Const)]:List zA) 1) ([(zA.mk l2 x5.Const)]:List zA))),.x (λI' v hx=>∃p20 c20 cs9,v=vS p20 l3 c20/\hx=[hO zA (vS p20 l3 c20) cs9]/\(RL I' cs9 l3))] [[],[(0,false)],[],[],[(3,false)],[(2,true),(4,false)],[],[(6,false)],[(5,true),(7,false)],[(8,true)],[(1,false),(9,false),(13,true)]] [hB b5 (cAff x5 p18 c18),hO zA (vS p4 Lo1 c4) aM,hB b1 [vS p4 Lo1 c4,vS bj Hi aZ],hO τ (vS p1 out c1) cs] [[hO zA (vS bj Hi aZ) cs6]] [(10,true)] (zZ [0,2,3,4,1]) ?_ ?_
  ·refine O2<|Ox ?_<|O2<|Ox ?_<|O2<|Ox ?_<|Ox ?_<|Ox ?_<|On
   ·intro I1 hf aa;refine I_h []<|uX [] Int ?_;intro b6 hb6;have h26:RL I1 [] ([]:List Int):=rfl;exact yN [hO Int (vS (some ⟨b6,0,none⟩) ([]:List Int) 0) []] iR ⟨_,rfl,rfl,h26⟩
   ·rintro I1 hf aa _ _ ⟨b6,rfl,rfl,h26⟩;refine yW [68,70] rfl ?_;have h25:=h25.mono aa;obtain⟨ccs8,k06,k07⟩:=h25;have h25:SL I1 (vS p18 x5.Coefs c18) x5.Coefs:=⟨_,k06,k07⟩;exact sW 3 1 0 rfl rfl rfl h26 (.inl k06) k07 hy8 λp19 c19 cs8 h27=>wY (ag:=(hO Int (vS p19 l2 c19) cs8::hB b5 (cAff x5 p18 c18)::hO zA (vS p4 Lo1 c4) aM::hB b1 [vS p4 Lo1 c4,vS bj Hi aZ]::hO τ (vS p1 out c1) cs::hf)) rfl<|yN [hO Int (vS p19 l2 c19) cs8] iR ⟨_,_,_,rfl,rfl,h27⟩
   ·rintro I1 hf aa _ _ ⟨p19,c19,cs8,rfl,rfl,h27⟩;exact yW [71,73] rfl<|oN 9 [(74,vA [vS p19 l2 c19,vI x5.Const])]<|yN [hO Int (vS p19 l2 c19) cs8] iR ⟨_,_,_,rfl,rfl,h27⟩
   ·rintro I1 hf aa _ _ ⟨p191,c191,cs81,rfl,rfl,h271⟩;refine yW [74] rfl ?_;have H:=iS I1;refine xV 0 rfl ?_;intro bG aY hl02;have h28:=SL.of_frozen hl02 aY h271;have H:=H.trans aY;refine mH (rc (zA.mk l2 x5.Const) (yO ⟨_,rfl,h28⟩) rN) ?_;intro b7 bK bo h30;have H:=H.trans bo;exact yN [] H ⟨_,rfl,rfl,h30⟩
   rintro I1 hf aa _ _ ⟨rfl,rfl⟩ _ _ ⟨b7,rfl,rfl,h30⟩ _ _ rfl;refine yW [67,75] rfl ?_;have h19:=iM aa h19;obtain⟨ccs9,k08,k09⟩:=h30;have h30:SL I1 (vS (some ⟨b7,0,none⟩) ([(zA.mk l2 x5.Const)]:List zA) 1) ([(zA.mk l2 x5.Const)]:List zA):=⟨_,k08,k09⟩;exact sW 95 2 0 rfl rfl rfl h19 (.inl k08) k09 hy9 λp20 c20 cs9 h31=>wY (ag:=(hO zA (vS p20 l3 c20) cs9::hB b5 (cAff x5 p18 c18)::hO zA (vS p4 Lo1 c4) aM::hB b1 [vS p4 Lo1 c4,vS bj Hi aZ]::hO τ (vS p1 out c1) cs::hf)) rfl<|yN [hO zA (vS p20 l3 c20) cs9] iR ⟨_,_,_,rfl,rfl,h31⟩
  rintro I06 bv _ _ ⟨p20,c20,cs9,rfl,rfl,h31⟩;refine yW [0,3,4,5,8,76] rfl ?_;have ⟨h,h2,h6,H⟩:=m4 bv h h2 h6 H;exact yG 12 [] [77] rfl<|xC 3 [vS p4 Lo1 c4,vS p20 l3 c20] rfl<|zY rfl<|zN<|zK<|zL<|yQ [] [8] rfl<|yV<|qZ (zX [0,2,3,4] rfl (by decide))<|nX<|ih (W (k05+1)) l3 _ N H h h2 h6 h31 hg ho hx
 intro ba N;exact wW<|yZ<|hx _ _ _ _ _ (zE N).symm H h19
def sE(nest:(List zG))(out:List zG)(i:Int):Option (List zG):=do
 if(decide (i<(nest.length:Int))) then
  let Lo1<-qQ nest i 0 ([]:List zA);let Hi1<-qR nest i 0 ([]:List zA);let ar<-app 48 out ([(zG.mk Lo1 Hi1)]:List zG);sE nest ar (W (i+1))
 else pure (id out)
 partial_fixpoint
theorem zFv(nest:(List zG)):∀(out:List zG) (i:Int) (o:List zG),sE nest out i=some o->∀{B}{I0 I:Imm}{Q p c p1 c1 cs},I0.le I->(S4 I p nest c)->(RL I cs out)->NG Q->NO Q->(∀I' aj p2 c2 au,o=aj->I0.le I'->(RL I' au aj)->T 83 B Q (.exit 0) I' [hO zG (vS p2 aj c2) au] [(3,vS p2 aj c2)])->J Tryz.prog 83 B (nav (bodyOf f150) [1,1,0,1,0]) Q I [hO zG (vS p1 out c1) cs] [(0,vS p nest c),(3,vS p1 out c1),(4,vI i)]:=by
 refine sE.partial_correctness nest _ λaJ ih out i o N B I0 I Q p c p1 c1 cs H h h2 hg ho hx=>yX hg ho<|yC<|yK [14] rfl<|zK<|yH N ?_ ?_
 ·intro hc N;refine zT<|yA<|yL<|yD<|yG 1 [] [17] rfl<|xY zTwo ?_;intro b1 hb1;refine jV 0 zTwo [hB b1 zTwo,hO zG (vS p1 out c1) cs] rfl rfl rfl rfl<|zY rfl<|yA<|yK [6] rfl<|wN<|qX [(0,vS p nest c),(3,vS p1 out c1),(4,vI i),(5,vP b1 0),(6,vI 0)]<|zA6 zA λh4=>?_;obtain⟨o0,aA,aE⟩:=zB N;refine zCG nest i 0 ([]:List zA) o0 aA iR h h2 h4 (λ_ _ _ h=>hg _ _ _ h) (λ_ _ h=>ho _ _ h) ?_;intro bx Lo1 p4 c4 aM heq aI h6;subst o0;have ⟨h,h2,H⟩:=m3 aI h h2 H;refine zS<|yA<|yK [8] rfl<|wN<|qX [(0,vS p nest c),(3,vS p1 out c1),(4,vI i),(5,vP b1 0),(8,vI 0)]<|zA6 zA λh18=>?_;obtain⟨aU,aB,hMl1⟩:=zB aE;refine zCH nest i 0 ([]:List zA) aU aB iR h h2 h6 h18 (λ_ _ _ h=>hg _ _ _ h) (λ_ _ h=>ho _ _ h) ?_;intro I07 Hi1 bc bd cs7 heq1 le7 h20;subst aU;have ⟨h,h2,h6,H⟩:=m4 le7 h h2 h6 H;refine zS<|zK<|zL<|uW 2 [2] [(78,vS p1 out c1),(79,vA [vS p4 Lo1 c4,vS bc Hi1 bd])]<|xV 1 rfl ?_;intro I08 le8 hl04;have h32:=SL.of_frozen hl04 le8 h6;have ⟨h,h2,h20,H⟩:=m4 le8 h h2 h20 H;refine xV 0 rfl ?_;intro I09 le9 hl05;have h33:=SL.of_frozen hl05 le9 h20;have ⟨h,h2,h32,H⟩:=m4 le9 h h2 h32 H;refine uX [vS p4 Lo1 c4,vS bc Hi1 bd] zG ?_;intro b8 hb8;have h34:RL I09 [vS p4 Lo1 c4,vS bc Hi1 bd] ([(zG.mk Lo1 Hi1)]:List zG):=⟨[vS p4 Lo1 c4,vS bc Hi1 bd],_,rfl,rfl,(uR ⟨_,_,rfl,h32,h33⟩),rfl⟩;obtain⟨ar,hy10,N⟩:=zB hMl1;exact sW 141 2 2 rfl rfl rfl h2 (.inr ⟨0,rfl⟩) h34 hy10 λp21 c21 cs10 h35=>tX (zZ [1,2] (ag:=[hB b1 [vS p4 Lo1 c4,vS bc Hi1 bd],hO zG (vS p21 ar c21) cs10]))<|yQ [] [3] rfl<|zN<|zK<|zL<|yQ [] [4] rfl<|yV<|qZ (zX [1] rfl (by decide))<|nX<|ih ar (W (i+1)) _ N H h h35 hg ho hx
 intro hc N;exact wW<|yZ<|hx _ _ _ _ _ (zE N).symm H h2
def jK(nest:(List zG)):Option ((List zG)):=do
 let aj<-sE nest ([]:List zG) 0;pure (id aj)
theorem zDx:∀nest r,jK nest=some r->∀{I:Imm}{p c},(S4 I p nest c)->RT 150 [vS p nest c] I [] (zAi  r):=by
 intro nest r N I p c h;unfold jK at N;refine yM func150 λB=>wZ []<|yY<|uX [] zG ?_;intro b hb;have h1:RL I [] ([]:List zG):=rfl;refine yQ [] [3] rfl<|yA<|yK [4] rfl<|wN<|qX [(0,vS p nest c),(3,vS (some ⟨b,0,none⟩) ([]:List zG) 0),(4,vI 0)] ?_;obtain⟨o02,ho02,hMl2⟩:=zB N;refine zFv nest ([]:List zG) 0 o02 ho02 iR h h1 nG nO ?_;intro bN aj p2 c2 au heq2 le10 h3;subst o02;refine zS<|vM [2] rfl<|xH<|xB 0 rfl ?_;intro bS le11 hl06;have h36:=SL.of_frozen hl06 le11 h3;exact xX hMl2 (resT rfl) zO ⟨_,rfl,rfl,h36⟩
def rS(a0:zA):Option (zA):=do
 if((a0.Coefs.length:Int)==0) then pure (zA.mk ([]:List Int) a0.Const)
 else
  let l<-app 8 ([]:List Int) a0.Coefs;pure (zA.mk l a0.Const)
theorem zBM:∀a0 r,rS a0=some r->∀{I:Imm}{p c},(S4 I p a0.Coefs c)->RT 230 [vA (cAff a0 p c)] I [] (jC  r):=by
 intro a0 r N I p c h;unfold rS at N;refine yM func230 λB=>yD<|vC (cAff a0 p c) ?_;intro b hb;refine xY [z0,vI 0] ?_;intro b1 hb1;refine zY rfl<|yA<|yD<|yQ [1] [6] rfl<|zK<|yH N ?_ ?_
 ·intro hc N;refine yD<|uW 3 [1] [(9,vA [z0,vI a0.Const])]<|xC 0 [z0,vI a0.Const] rfl<|zY rfl<|xH<|zJ ?_;exact xX N (resC 0 rfl rfl) zO ⟨_,rfl,rfl,⟨_,rfl,(yO ⟨_,rfl,(SL.nil _)⟩)⟩⟩
 intro hc N;refine zT<|yA<|bE N λl hy N=>wP [.x (λI' v hx=>∃b2,v=vS (some ⟨b2,0,none⟩) ([]:List Int) 0/\hx=[hO Int (vS (some ⟨b2,0,none⟩) ([]:List Int) 0) []]/\(RL I' [] ([]:List Int))),.p (vP b 0) [],.p (vS p a0.Coefs c) [1],.x (λI' v hx=>∃p1 c1 cs,v=vS p1 l c1/\hx=[hO Int (vS p1 l c1) cs]/\(RL I' cs l)),.p (vP b 1) [],.p (vI a0.Const) [1],.x (λI' v hx=>∃aF aQ au,v=vA [vS aF l aQ,vI a0.Const]/\hx=[hO Int (vS aF l aQ) au]/\(RL I' au l))] [[],[],[(1,false)],[(0,true),(2,false)],[],[(4,false)],[(3,true),(5,false)]] [hB b1 [z0,vI 0],hB b (cAff a0 p c)] [] [(6,true)] (zZ [0,1]) ?_ ?_
 ·refine Ox ?_<|O2<|Ox ?_<|O2<|Ox ?_<|On
  ·intro I1 hf aa;refine I_h []<|uX [] Int ?_;intro b2 hb2;have h1:RL I1 [] ([]:List Int):=rfl;exact yN [hO Int (vS (some ⟨b2,0,none⟩) ([]:List Int) 0) []] iR ⟨_,rfl,rfl,h1⟩
  ·rintro I1 hf aa _ _ ⟨b2,rfl,rfl,h1⟩;refine yW [10,12] rfl ?_;have h:=h.mono aa;obtain⟨aN,k0,k01⟩:=h;have h:SL I1 (vS p a0.Coefs c) a0.Coefs:=⟨_,k0,k01⟩;exact sW 3 1 0 rfl rfl rfl h1 (.inl k0) k01 hy λp1 c1 cs h2=>wY (ag:=(hO Int (vS p1 l c1) cs::hB b1 [z0,vI 0]::hB b (cAff a0 p c)::hf)) rfl<|yN [hO Int (vS p1 l c1) cs] iR ⟨_,_,_,rfl,rfl,h2⟩
  rintro I1 hf aa _ _ ⟨p1,c1,cs,rfl,rfl,h2⟩;exact yW [13,15] rfl<|oN 7 [(16,vA [vS p1 l c1,vI a0.Const])]<|yN [hO Int (vS p1 l c1) cs] iR ⟨_,_,_,rfl,rfl,h2⟩
 rintro I0 le _ _ ⟨aF,aQ,au,rfl,rfl,h21⟩;refine yW [2,16] rfl ?_;refine xC 1 [vS aF l aQ,vI a0.Const] rfl<|zY rfl<|xH<|xB 0 rfl ?_;intro aP aa hl0;have h3:=SL.of_frozen hl0 aa h21;exact xX N (resC 0 rfl rfl) zO ⟨_,rfl,rfl,⟨_,rfl,(yO ⟨_,rfl,h3⟩)⟩⟩
def zDK(r:zM):KT:=λkk I' ag v=>
 ∃a0_1 c0_1 s0_1,ag=[.osl (.slice a0_1 r.Subs.length c0_1) (Rp.sz zA) s0_1]/\v=tupV [(.agg ⟨[.string ⟨⟨r.Array.l⟩⟩,.slice a0_1 r.Subs.length c0_1]⟩)]/\RepL (Rp.rep I') (Rp.sz zA) s0_1 r.Subs
def vK(a0:zM)(i:Int)(Subs:List zA):Option (List zA):=do
 if(decide (i<(a0.Subs.length:Int))) then
  let x<-idx a0.Subs i;let y<-rS x;let l<-app 32 Subs ([y]:List zA);vK a0 (W (i+1)) l
 else pure (id Subs)
 partial_fixpoint
theorem zCk(a0:zM):∀(i:Int) (Subs:List zA) (o:List zA),vK a0 i Subs=some o->∀{B}{I0 I:Imm}{Q p c}{b b1 b2}{p1 c1 cs},I0.le I->(S4 I p a0.Subs c)->(RL I cs Subs)->NG Q->NO Q->(∀I' Subs1 p2 c2 au,o=Subs1->I0.le I'->(RL I' au Subs1)->T 27 B Q (.exit 0) I' [hO zA (vS p2 Subs1 c2) au,hB b2 [vT a0.Array.l,vS p2 Subs1 c2],hB b1 [vT ([]),z0]] [(2,vP b1 0),(3,vP b2 0)])->J Tryz.prog 27 B (nav (bodyOf f192) [1,1,0,1,0]) Q I [hO zA (vS p1 Subs c1) cs,hB b2 [vT a0.Array.l,vS p1 Subs c1],hB b1 [vT ([]),z0],hB b (cAccess a0 p c)] [(1,vP b 0),(2,vP b1 0),(3,vP b2 0),(4,vI i)]:=by
 refine vK.partial_correctness a0 _ λaJ ih i Subs o N B I0 I Q p c b b1 b2 p1 c1 cs H h h2 hg ho hx=>yX hg ho<|yC<|yD<|yQ [3] [12] rfl<|zK<|yH N ?_ ?_
 ·intro hc N;refine zT<|yA<|yL ?_;obtain⟨x,hy,N⟩:=zB N;obtain⟨y,az,N⟩:=zB N;obtain⟨l,aG,N⟩:=zB N;refine wP [.p (vP b2 1) [],.p (vS p1 Subs c1) [0],.p (vP b 1) [],.p (vS p a0.Subs c) [2],.p (vI i) [],.x (ePAff x),.x (eVAff x),.x (eVAff y),.x (λI' v hx=>∃b3,v=vS (some ⟨b3,0,none⟩) ([y]:List zA) 1/\hx=[]/\(SL I' (vS (some ⟨b3,0,none⟩) ([y]:List zA) 1) ([y]:List zA))),.x (λI' v hx=>∃p5 c5 aM,v=vS p5 l c5/\hx=[hO zA (vS p5 l c5) aM]/\(RL I' aM l))] [[],[(0,false)],[],[(2,false)],[],[(3,false),(4,false)],[(5,false)],[(6,false)],[(7,false)],[(1,false),(8,false),(12,true)]] [hB b2 [vT a0.Array.l,vS p1 Subs c1],hB b1 [vT ([]),z0],hB b (cAccess a0 p c)] [[hO zA (vS p1 Subs c1) cs]] [(9,true)] (zZ [1,2,3,0]) ?_ ?_
  ·refine O4<|Op<|Ox ?_<|Ox ?_<|Ox ?_<|Ox ?_<|Ox ?_<|On
   ·intro I1 hf aa;refine yW [18,19] rfl ?_;have h:=h.mono aa;refine xW rfl rfl h hy ?_;intro ad aN aq am;obtain⟨p3,c3,rfl,h4⟩:=yI am;exact yN [] iR ⟨_,_,_,rfl,rfl,aq,h4⟩
   ·rintro I1 hf aa _ _ ⟨ad,p3,c3,rfl,rfl,aq,h4⟩;exact yW [20] rfl<|xM 0 aq (cAff x p3 c3) (vA (cAff x p3 c3)) rfl<|yN [] iR ⟨_,_,rfl,rfl,h4⟩
   ·rintro I1 hf aa _ _ ⟨p31,c31,rfl,rfl,h41⟩;refine yW [21] rfl ?_;have H:=iS I1;refine xK (zBM x _ az h41) ?_;rintro I0 ax v2 k2 le - ⟨v01,rfl,rfl,⟨aR,rfl,h5⟩⟩ -;have H:=H.trans le;obtain⟨p4,c4,rfl,h6⟩:=yI h5;exact yN [] H ⟨_,_,rfl,rfl,h6⟩
   ·rintro I1 hf aa _ _ ⟨p4,c4,rfl,rfl,h6⟩;refine yW [22] rfl ?_;have H:=iS I1;refine mH (rc y (yO ⟨_,rfl,h6⟩) rN) ?_;intro b3 aP aa h8;have H:=H.trans aa;exact yN [] H ⟨_,rfl,rfl,h8⟩
   rintro I1 hf aa _ _ ⟨rfl,rfl⟩ _ _ ⟨b3,rfl,rfl,h8⟩ _ _ rfl;refine yW [16,23] rfl ?_;have h2:=iM aa h2;obtain⟨bq,k0,k01⟩:=h8;have h8:SL I1 (vS (some ⟨b3,0,none⟩) ([y]:List zA) 1) ([y]:List zA):=⟨_,k0,k01⟩;exact sW 95 2 0 rfl rfl rfl h2 (.inl k0) k01 aG λp5 c5 aM h9=>wY (ag:=(hO zA (vS p5 l c5) aM::hB b2 [vT a0.Array.l,vS p1 Subs c1]::hB b1 [vT ([]),z0]::hB b (cAccess a0 p c)::hf)) rfl<|yN [hO zA (vS p5 l c5) aM] iR ⟨_,_,_,rfl,rfl,h9⟩
  rintro aW aC _ _ ⟨p5,c5,aM,rfl,rfl,h9⟩;refine yW [1,2,3,4,24] rfl ?_;have ⟨h,H⟩:=m2 aC h H;exact yG 11 [] [25] rfl<|xC 1 [vT a0.Array.l,vS p5 l c5] rfl<|zY rfl<|zN<|zK<|zL<|yQ [] [4] rfl<|yV<|nX<|ih (W (i+1)) l _ N H h h9 hg ho hx
 intro hc N;exact wW<|wK (zX [0,1,2] rfl (by decide))<|yZ<|hx _ _ _ _ _ (zE N).symm H h2
def tZ(a0:zM):Option (zM):=do
 let Subs1<-vK a0 0 ([]:List zA);pure (zM.mk a0.Array Subs1)
theorem dU:∀a0 r,tZ a0=some r->∀{I:Imm}{p c},(S4 I p a0.Subs c)->RT 192 [vA (cAccess a0 p c)] I [] (zDK  r):=by
 intro a0 r N I p c h;unfold tZ at N;refine yM func192 λB=>yD<|vC (cAccess a0 p c) ?_;intro b hb;refine xY [vT ([]),z0] ?_;intro b1 hb1;refine zY rfl<|yY<|uW 3 [1] [(7,vA [vT a0.Array.l,z0])]<|xY [vT ([]),z0] ?_;intro b2 hb2;refine xC 0 [vT a0.Array.l,z0] rfl<|zY rfl<|yA<|yK [4] rfl<|wN<|qX [(1,vP b 0),(2,vP b1 0),(3,vP b2 0),(4,vI 0)]<|zA6 zA λh1=>?_;obtain⟨o0,aA,aE⟩:=zB N;refine zCk a0 0 ([]:List zA) o0 aA iR h h1 nG nO ?_;intro bx Subs1 p2 c2 au heq aI h3;subst o0;refine zS<|yY<|uW 1 [1] [(26,vA [vT a0.Array.l,vS p2 Subs1 c2])]<|xC 2 [vT a0.Array.l,vS p2 Subs1 c2] rfl<|zY rfl<|zK<|xD ?_;exact xX aE (resC 2 rfl rfl) (zX [0] rfl (by decide)) ⟨_,_,_,rfl,rfl,h3⟩
end Go.LN
