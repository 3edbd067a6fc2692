/- Helper of the proof (see the last text). -/
import Derived.Test.YtmlnffbepjijhaaGreatHM8
set_option linter.unusedVariables false
set_option linter.unusedSimpArgs false
namespace Go.LN
open Go.Proofs Go.Proofs.Tryz
set_option maxRecDepth 20000
mutual
def gA (e0:zC):Option (zC):=do
 let y<-tV e0.Index;let y1<-uA e0.Read;let Kids1<-tF (same e0) (same 0) ([]:List zC);let y3<-jZ (zC.mk e0.Kind e0.Num y (zJ.mk y1.Array y1.Subs) Kids1);pure (id y3)
 partial_fixpoint
def tF (e0:zC) (i:Int) (Kids:List zC):Option (List zC):=do
 if (decide (i<(e0.Kids.length:Int))) then
  let x<-idx e0.Kids i;let y2<-gA (same x);let l<-app 112 Kids ([y2]:List zC);tF (same e0) (W (i+1)) (same l)
 else pure (id Kids)
 partial_fixpoint
end
theorem zHC:(∀ (e0:zC) r,gA e0=some r->∀ {I:Imm}{p c p1 c1 p2 c2},(S4 I p e0.Index.Coefs c)->(S4 I p1 e0.Read.Subs c1)->(S4 I p2 e0.Kids c2)->RT 91 [vA (cExpr e0 p c p1 c1 p2 c2)] I [] (sJ  r))/\(∀ (e0:zC) (i:Int) (Kids:List zC) o,tF e0 i Kids=some o->∀ {B}{I0 I:Imm}{Q}{y:zA}{y1:zJ}{p c p1 c1 p2 c2}{b b1}{p31 c31 p41 c41 cs11}{b2}{p5 c5 aU},I0.le I->(S4 I p31 y.Coefs c31)->(RL I cs11 y1.Subs)->(S4 I p e0.Index.Coefs c)->(S4 I p1 e0.Read.Subs c1)->(S4 I p2 e0.Kids c2)->(RL I aU Kids)->NG Q->NO Q->(∀ I' Kids1 p6 c6 aO,o=Kids1->I0.le I'->(RL I' aO Kids1)->T 36 B Q (.exit 0) I' [hO zC (vS p6 Kids1 c6) aO,hB b2 [vI e0.Kind,vI e0.Num,vS p31 y.Coefs c31,vI y.Const,vT y1.Array.l,vS p41 y1.Subs c41,vS p6 Kids1 c6],hO zA (vS p41 y1.Subs c41) cs11,hB b1 zExpr] [(2,vP b1 0),(3,vP b2 0)])->J Tryz.prog 36 B (nav (bodyOf f91) [1,1,0,1,0]) Q I [hO zC (vS p5 Kids c5) aU,hB b2 [vI e0.Kind,vI e0.Num,vS p31 y.Coefs c31,vI y.Const,vT y1.Array.l,vS p41 y1.Subs c41,vS p5 Kids c5],hO zA (vS p41 y1.Subs c41) cs11,hB b1 zExpr,hB b (cExpr e0 p c p1 c1 p2 c2)] [(1,vP b 0),(2,vP b1 0),(3,vP b2 0),(4,vI i)]):=by
  refine gA.mutual_partial_correctness _ _ ?_ ?_
  · intro F_spec_l13Fold_l1 ih_spec_l13Fold_l1 e0 r N I p c p1 c1 p2 c2 h h1 h2;refine yJ func91 fun B=>?_;have H:=iS I;refine yA<|vD (cExpr e0 p c p1 c1 p2 c2) ?_;intro b hb;refine xU zExpr ?_;intro b1 hb1;refine zU rfl<|zK<|yC ?_;obtain ⟨y,hy,N⟩:=zB N;obtain ⟨y1,ax,N⟩:=zB N;refine wV [.p (vP b 0) [],.p (vI e0.Kind) [1],.p (vP b 1) [],.p (vI e0.Num) [1],.p (vP b 2) [],.p (vA (cAff e0.Index p c)) [1],.x (eVAff y),.p (vP b 4) [],.p (vA (cAccess e0.Read p1 c1)) [1],.x (fun I' v hx=>∃ p4 c4 aw,v=vA (cAccess y1 p4 c4)/\hx=[hO zA (vS p4 y1.Subs c4) aw]/\(RL I' aw y1.Subs)),.x (fun I' v hx=>∃ p31 c31 p41 c41 cs11,v=vA [vI e0.Kind,vI e0.Num,vS p31 y.Coefs c31,vI y.Const,vT y1.Array.l,vS p41 y1.Subs c41,z0]/\hx=[hO zA (vS p41 y1.Subs c41) cs11]/\(S4 I' p31 y.Coefs c31)/\(RL I' cs11 y1.Subs)),.x (fun I' v hx=>∃ b2,v=vP b2 0/\hx=[hB b2 zExpr])] [[],[(0,false)],[],[(2,false)],[],[(4,false)],[(5,false)],[],[(7,false)],[(8,false)],[(1,false),(3,false),(6,false),(9,true)],[]] [hB b1 zExpr,hB b (cExpr e0 p c p1 c1 p2 c2)] [] [(10,true),(11,true)] (zY [0,1]) ?_ ?_
    · refine O4<|O2<|Ox ?_<|O2<|Ox ?_<|Ox ?_<|Ox ?_<|On
      · intro I1 hf ae;refine xD [10] rfl ?_;have H:=iS I1;have h:=h.mono ae;refine xJ (zAA e0.Index _ hy h) ?_;rintro I0 av v2 k2 le - ⟨v0,rfl,rfl,⟨cs,rfl,h3⟩⟩ -;have H:=H.trans le;obtain ⟨p3,c3,rfl,h4⟩:=yG h3;exact yM [] H ⟨_,_,rfl,rfl,h4⟩
      · intro I1 hf ae;refine xD [13] rfl ?_;have H:=iS I1;have h1:=h1.mono ae;refine xJ (kK e0.Read _ ax h1) ?_;rintro aR av v2 k2 ae - ⟨p4,c4,aw,rfl,rfl,h5⟩ -;have H:=H.trans ae;exact yM [hO zA (vS p4 y1.Subs c4) aw] H ⟨_,_,_,rfl,rfl,h5⟩
      · rintro I1 hf ae _ _ ⟨rfl,rfl⟩ _ _ ⟨rfl,rfl⟩ _ _ ⟨p3,c3,rfl,rfl,h4⟩ _ _ ⟨p4,c4,aw,rfl,rfl,h5⟩;exact xD [6,8,11,14] rfl<|mD 11 [(15,vA [vI e0.Kind,vI e0.Num,vS p3 y.Coefs c3,vI y.Const,vT y1.Array.l,vS p4 y1.Subs c4,z0])]<|yM [hO zA (vS p4 y1.Subs c4) aw] iR ⟨_,_,_,_,_,rfl,rfl,h4,h5⟩
      intro I1 hf ae;refine I_h []<|xU zExpr ?_;intro b2 hb2;exact yM [hB b2 zExpr] iR ⟨_,rfl,rfl⟩
    rintro aV aB _ _ ⟨p31,c31,p41,c41,cs11,rfl,rfl,h41,h51⟩ _ _ ⟨b2,rfl,rfl⟩;refine xD [1,2,3,15] rfl ?_;have ⟨h,h1,h2⟩:=m3 aB h h1 h2;refine yS 0 [vI e0.Kind,vI e0.Num,vS p31 y.Coefs c31,vI y.Const,vT y1.Array.l,vS p41 y1.Subs c41,z0] rfl<|zU rfl<|zZ<|yI [4] rfl<|wQ<|pM [(1,vP b 0),(2,vP b1 0),(3,vP b2 0),(4,vI 0)]<|zAP zC fun h6=>?_;obtain ⟨o0,az,aG⟩:=zB N;refine ih_spec_l13Fold_l1 e0 0 ([]:List zC) o0 az iR h41 h51 h h1 h2 h6 nG nO ?_;intro I06 Kids1 p6 c6 aO heq bB h8;subst o0;have ⟨h41,h51⟩:=m2 bB h41 h51;refine zR<|yT<|vU 1 [1] [(34,vA [vI e0.Kind,vI e0.Num,vS p31 y.Coefs c31,vI y.Const,vT y1.Array.l,vS p41 y1.Subs c41,vS p6 Kids1 c6])]<|wC 2 rfl ?_;intro I07 le7 hl01;have h19:=SL.of_frozen hl01 le7 h51;have ⟨h41,h8⟩:=m2 le7 h41 h8;refine wC 0 rfl ?_;intro I08 le8 hl02;have h20:=SL.of_frozen hl02 le8 h8;have ⟨h41,h19⟩:=m2 le8 h41 h19;obtain ⟨y3,bD,N⟩:=zB aG;refine xJ (zHa (zC.mk e0.Kind e0.Num y (zJ.mk y1.Array y1.Subs) Kids1) _ bD h41 h19 h20) ?_;rintro I09 av v2 k2 le9 - ⟨v09,rfl,rfl,⟨cs6,rfl,h21⟩⟩ -;obtain ⟨p14,c14,p15,c15,p16,c16,rfl,h22,h23,h24⟩:=xB h21;refine yS 1 (cExpr y3 p14 c14 p15 c15 p16 c16) rfl<|zU rfl<|zK<|xF ?_;exact xO N (resC 1 rfl rfl) zN ⟨_,rfl,rfl,⟨_,rfl,(yF ⟨_,_,_,rfl,h22,h23,h24⟩)⟩⟩
  intro F_spec_l13Fold F_spec_l13Fold_l1 ih_spec_l13Fold ih_spec_l13Fold_l1 e0 i Kids o N B I0 I Q y y1 p c p1 c1 p2 c2 b b1 p31 c31 p41 c41 cs11 b2 p5 c5 aU H h41 h51 h h1 h2 h7 hg ho hx;refine yZ hg ho<|yC<|yA<|yL [4] [20] rfl<|zK<|yE N ?_ ?_
  · intro hc N;refine zS<|zZ<|yH ?_;obtain ⟨x,aE,N⟩:=zB N;obtain ⟨y2,bj,N⟩:=zB N;obtain ⟨l,bt,N⟩:=zB N;refine wV [.p (vP b2 6) [],.p (vS p5 Kids c5) [0],.p (vP b 6) [],.p (vS p2 e0.Kids c2) [3],.p (vI i) [],.x (ePExpr x),.x (eVExpr x),.x (eVExpr y2),.x (fun I' v hx=>∃ b3,v=vS (some ⟨b3,0,none⟩) ([y2]:List zC) 1/\hx=[]/\(SL I' (vS (some ⟨b3,0,none⟩) ([y2]:List zC) 1) ([y2]:List zC))),.x (fun I' v hx=>∃ aS bc bC,v=vS aS l bc/\hx=[hO zC (vS aS l bc) bC]/\(RL I' bC l))] [[],[(0,false)],[],[(2,false)],[],[(3,false),(4,false)],[(5,false)],[(6,false)],[(7,false)],[(1,false),(8,false),(12,true)]] [hB b2 [vI e0.Kind,vI e0.Num,vS p31 y.Coefs c31,vI y.Const,vT y1.Array.l,vS p41 y1.Subs c41,vS p5 Kids c5],hO zA (vS p41 y1.Subs c41) cs11,hB b1 zExpr,hB b (cExpr e0 p c p1 c1 p2 c2)] [[hO zC (vS p5 Kids c5) aU]] [(9,true)] (zY [1,2,3,4,0]) ?_ ?_
    · refine O4<|Op<|Ox ?_<|Ox ?_<|Ox ?_<|Ox ?_<|Ox ?_<|On
      · intro I1 hf ae;refine xD [26,27] rfl ?_;have h2:=h2.mono ae;refine wA rfl rfl h2 aE ?_;intro ad aK ap al;obtain ⟨p7,c7,p8,c8,p9,c9,rfl,h9,h10,h11⟩:=xB al;exact yM [] iR ⟨_,_,_,_,_,_,_,rfl,rfl,ap,h9,h10,h11⟩
      · rintro I1 hf ae _ _ ⟨ad,p7,c7,p8,c8,p9,c9,rfl,rfl,ap,h9,h10,h11⟩;exact xD [28] rfl<|xP 0 ap (cExpr x p7 c7 p8 c8 p9 c9) (vA (cExpr x p7 c7 p8 c8 p9 c9)) rfl<|yM [] iR ⟨_,_,_,_,_,_,rfl,rfl,h9,h10,h11⟩
      · rintro I1 hf ae _ _ ⟨p71,c71,p81,c81,p91,c91,rfl,rfl,h91,h101,h111⟩;refine xD [29] rfl ?_;have H:=iS I1;refine xJ (ih_spec_l13Fold x _ bj h91 h101 h111) ?_;rintro bv av v2 k2 aF - ⟨v05,rfl,rfl,⟨bw,rfl,h12⟩⟩ -;have H:=H.trans aF;obtain ⟨aM,aP,aI,aQ,bm,aW,rfl,h13,h14,h15⟩:=xB h12;exact yM [] H ⟨_,_,_,_,_,_,rfl,rfl,h13,h14,h15⟩
      · rintro I1 hf ae _ _ ⟨aM,aP,aI,aQ,bm,aW,rfl,rfl,h13,h14,h15⟩;refine xD [30] rfl ?_;have H:=iS I1;refine mE (rc y2 (yF ⟨_,_,_,rfl,h13,h14,h15⟩) rN) ?_;intro b3 bH aX h17;have H:=H.trans aX;exact yM [] H ⟨_,rfl,rfl,h17⟩
      rintro I1 hf ae _ _ ⟨rfl,rfl⟩ _ _ ⟨b3,rfl,rfl,h17⟩ _ _ rfl;refine xD [24,31] rfl ?_;have h7:=iM ae h7;obtain ⟨bo,k0,k01⟩:=h17;have h17:SL I1 (vS (some ⟨b3,0,none⟩) ([y2]:List zC) 1) ([y2]:List zC):=⟨_,k0,k01⟩;exact qA 72 7 0 rfl rfl rfl h7 (.inl k0) k01 bt fun aS bc bC h18=>vQ (ah:=(hO zC (vS aS l bc) bC::hB b2 [vI e0.Kind,vI e0.Num,vS p31 y.Coefs c31,vI y.Const,vT y1.Array.l,vS p41 y1.Subs c41,vS p5 Kids c5]::hO zA (vS p41 y1.Subs c41) cs11::hB b1 zExpr::hB b (cExpr e0 p c p1 c1 p2 c2)::hf)) rfl<|yM [hO zC (vS aS l bc) bC] iR ⟨_,_,_,rfl,rfl,h18⟩
    rintro bO bi _ _ ⟨aS,bc,bC,rfl,rfl,h18⟩;refine xD [1,2,3,4,32] rfl ?_;have ⟨h41,h51,h,h1,h2,H⟩:=m6 bi h41 h51 h h1 h2 H;exact yD 11 [] [33] rfl<|yS 1 [vI e0.Kind,vI e0.Num,vS p31 y.Coefs c31,vI y.Const,vT y1.Array.l,vS p41 y1.Subs c41,vS aS l bc] rfl<|zU rfl<|zP<|zK<|zM<|yL [] [4] rfl<|yX<|mC<|ih_spec_l13Fold_l1 e0 (W (i+1)) l _ N H h41 h51 h h1 h2 h18 hg ho hx
  intro hc N;exact vC<|wH (zW [0,1,2,3] rfl (by decide))<|yQ<|hx _ _ _ _ _ (zE N).symm H h7
theorem zHb:∀ e0 r,gA e0=some r->∀ {I:Imm}{p c p1 c1 p2 c2},(S4 I p e0.Index.Coefs c)->(S4 I p1 e0.Read.Subs c1)->(S4 I p2 e0.Kids c2)->RT 91 [vA (cExpr e0 p c p1 c1 p2 c2)] I [] (sJ  r):=zHC.1
def gR (s:zG):Option (zG×Bool):=do
 let y<-rF s 4;if (!y) then pure ((zG.mk (zJ.mk (⟨[]⟩:Str) ([]:List zA)) (zC.mk 0 0 (zA.mk ([]:List Int) 0) (zJ.mk (⟨[]⟩:Str) ([]:List zA)) ([]:List zC))),false)
 else
  let y1<-uA s.Write;let y2<-gA s.Value;pure ((zG.mk (zJ.mk y1.Array y1.Subs) y2),true)
theorem zHD:∀ s r,gR s=some r->∀ {I:Imm}{p c p1 c1 p2 c2 p3 c3},(S4 I p s.Write.Subs c)->(S4 I p1 s.Value.Index.Coefs c1)->(S4 I p2 s.Value.Read.Subs c2)->(S4 I p3 s.Value.Kids c3)->RT 52 [vA (cStmt s p c p1 c1 p2 c2 p3 c3)] I [] (zBT  r):=by
 intro s r N I p c p1 c1 p2 c2 p3 c3 h h1 h2 h3;unfold gR at N;refine yJ func52 fun B=>?_;have H:=iS I;refine yA<|vD (cStmt s p c p1 c1 p2 c2 p3 c3) ?_;intro b hb;refine xU [vT ([]),z0,vI 0,vI 0,z0,vI 0,vT ([]),z0,z0] ?_;intro b1 hb1;refine wT [] []<|zZ<|yA<|vU 1 [1] [(4,vA (cStmt s p c p1 c1 p2 c2 p3 c3))]<|bE N fun y hy N=>vR (dP s 4 _ hy h h1 h2 h3) ?_;intro I0 le;have ⟨h,h1,h2,h3,H⟩:=m5 le h h1 h2 h3 H;refine yL [] [6] rfl<|zK<|yE N ?_ ?_
 · intro hc N;refine yA<|yD 1 [] [7] rfl<|yS 0 [vT ([]),z0,vI 0,vI 0,z0,vI 0,vT ([]),z0,z0] rfl<|wT [] [(3,vF)]<|xL<|zI ?_;exact xO N (resE 0 rfl rfl rfl) zN ⟨_,_,rfl,rfl,⟨_,rfl,(xV ⟨_,_,_,_,rfl,(SL.nil _),(SL.nil _),(SL.nil _),(SL.nil _)⟩)⟩,rfl⟩
 intro hc N;refine zS<|zK<|yC ?_;obtain ⟨y1,ax,N⟩:=zB N;obtain ⟨y2,aE,N⟩:=zB N;refine wV [.p (vP b 0) [],.p (vA (cAccess s.Write p c)) [1],.x (fun I' v hx=>∃ p4 c4 cs,v=vA (cAccess y1 p4 c4)/\hx=[hO zA (vS p4 y1.Subs c4) cs]/\(RL I' cs y1.Subs)),.p (vP b 2) [],.p (vA (cExpr s.Value p1 c1 p2 c2 p3 c3)) [1],.x (eVExpr y2),.x (fun I' v hx=>∃ p41 c41 p51 c51 p61 c61 p71 c71 aU,v=vA [vT y1.Array.l,vS p41 y1.Subs c41,vI y2.Kind,vI y2.Num,vS p51 y2.Index.Coefs c51,vI y2.Index.Const,vT y2.Read.Array.l,vS p61 y2.Read.Subs c61,vS p71 y2.Kids c71]/\hx=[hO zA (vS p41 y1.Subs c41) aU]/\(RL I' aU y1.Subs)/\(S4 I' p51 y2.Index.Coefs c51)/\(S4 I' p61 y2.Read.Subs c61)/\(S4 I' p71 y2.Kids c71))] [[],[(0,false)],[(1,false)],[],[(3,false)],[(4,false)],[(2,true),(5,false)]] [hB b1 [vT ([]),z0,vI 0,vI 0,z0,vI 0,vT ([]),z0,z0],hB b (cStmt s p c p1 c1 p2 c2 p3 c3)] [] [(6,true)] (zY [0,1]) ?_ ?_
 · refine O2<|Ox ?_<|O2<|Ox ?_<|Ox ?_<|On
   · intro I1 hf ae;refine xD [9] rfl ?_;have H:=iS I1;have h:=h.mono ae;refine xJ (kK s.Write _ ax h) ?_;rintro aR av v2 k2 ae - ⟨p4,c4,cs,rfl,rfl,h5⟩ -;have H:=H.trans ae;exact yM [hO zA (vS p4 y1.Subs c4) cs] H ⟨_,_,_,rfl,rfl,h5⟩
   · intro I1 hf ae;refine xD [12] rfl ?_;have H:=iS I1;have ⟨h1,h2,h3⟩:=m3 ae h1 h2 h3;refine xJ (zHb s.Value _ aE h1 h2 h3) ?_;rintro aV av v2 k2 aB - ⟨v01,rfl,rfl,⟨aw,rfl,h6⟩⟩ -;have H:=H.trans aB;obtain ⟨p5,c5,p6,c6,p7,c7,rfl,h7,h8,h9⟩:=xB h6;exact yM [] H ⟨_,_,_,_,_,_,rfl,rfl,h7,h8,h9⟩
   rintro I1 hf ae _ _ ⟨p4,c4,cs,rfl,rfl,h5⟩ _ _ ⟨p5,c5,p6,c6,p7,c7,rfl,rfl,h7,h8,h9⟩;exact xD [10,13] rfl<|mD 7 [(14,vA [vT y1.Array.l,vS p4 y1.Subs c4,vI y2.Kind,vI y2.Num,vS p5 y2.Index.Coefs c5,vI y2.Index.Const,vT y2.Read.Array.l,vS p6 y2.Read.Subs c6,vS p7 y2.Kids c7])]<|yM [hO zA (vS p4 y1.Subs c4) cs] iR ⟨_,_,_,_,_,_,_,_,_,rfl,rfl,h5,h7,h8,h9⟩
 rintro bv aF _ _ ⟨p41,c41,p51,c51,p61,c61,p71,c71,aU,rfl,rfl,h51,h71,h81,h91⟩;refine xD [2,14] rfl ?_;refine yS 1 [vT y1.Array.l,vS p41 y1.Subs c41,vI y2.Kind,vI y2.Num,vS p51 y2.Index.Coefs c51,vI y2.Index.Const,vT y2.Read.Array.l,vS p61 y2.Read.Subs c61,vS p71 y2.Kids c71] rfl<|wT [] [(3,vY)]<|xL<|xA 0 rfl ?_;intro bH aX hl0;have h10:=SL.of_frozen hl0 aX h51;have ⟨h71,h81,h91⟩:=m3 aX h71 h81 h91;exact xO N (resE 0 rfl rfl rfl) zN ⟨_,_,rfl,rfl,⟨_,rfl,(xV ⟨_,_,_,_,rfl,h10,h71,h81,h91⟩)⟩,rfl⟩
def tT (n:Int) (body:List zG) (k:Int):Option (List zG):=do
 if (decide (k<n)) then
  let s<-idx body k;let y<-gR s;tT n (body.set k.toNat y.1) (W (k+1))
 else pure (id body)
 partial_fixpoint
theorem zDK (d:List zG):∀ (body:List zG) (k:Int) (o:List zG),tT (d.length:Int) body k=some o->∀ {B}{I0 I:Imm}{Q}{aj:List Raw2}{A:List zD}{pa ca pp cp}{i:Int}{vN:Value}{pw cw}{csb:List Value}{b2 b4:Nat},I0.le I->SL I (vS pp aj cp) aj->idx aj i=some ⟨vN,vS pw d cw⟩->RL I csb body->NG Q->NO Q->(∀ (I':Imm) (csb':List Value),o.length=body.length->I0.le I'->RL I' csb' o->T 58 B Q (.exit 2) I' [hO zG (vS pw d cw) csb',hB b4 [vS pa A ca,vS pp aj cp]] [(2,vP b2 0),(4,vP b4 0),(5,vI i)])->J Tryz.prog 58 B (nav (bodyOf f20) [1,1,1,1,0,1,0,0,1,0,0,1,0]) Q I [hO zG (vS pw d cw) csb,hB b4 [vS pa A ca,vS pp aj cp]] [(2,vP b2 0),(4,vP b4 0),(5,vI i),(6,vI k)]:=by
 refine tT.partial_correctness _ _ fun aJ ih body k o N B I0 I Q aj A pa ca pp cp i vN pw cw csb b2 b4 H hS hxr hR hg ho hx=>yZ hg ho<|yC<|yA<|yD 4 [1] [24,26,27] rfl<|wA rfl rfl hS hxr ?_;intro ad aK ap al;obtain ⟨rfl,_⟩:=al;refine yD 6 [] [29] rfl<|xP 1 ap [vS pw d cw] (vS pw d cw) rfl<|yL [] [32] rfl<|zK<|yE N ?_ ?_
 · intro hc N;obtain ⟨s,hy,N⟩:=zB N;obtain ⟨⟨y,yb⟩,ax,N⟩:=zB N;refine zS<|zZ<|yH<|yA<|yD 3 [1] [37,38] rfl<|wA rfl rfl hS hxr ?_;intro ad0 ccs0 hat0 hrep0;obtain ⟨rfl,_⟩:=hrep0;refine yD 5 [] [40] rfl<|xP 1 hat0 [vS pw d cw] (vS pw d cw) rfl<|yD 7 [] [42] rfl<|jH (α:=zG) 0 rfl rfl rfl hR hy ?_;intro ad1 bo ay hcc1 aA;obtain ⟨p0,c0,p1,c1,p2,c2,p3,c3,rfl,g0,g1,g2,g3⟩:=wI aA;refine zEV 0 0 ay hcc1 (cStmt s p0 c0 p1 c1 p2 c2 p3 c3) (vA (cStmt s p0 c0 p1 c1 p2 c2 p3 c3)) rfl rfl<|xJ (zHD s _ ax g0 g1 g2 g3) ?_;rintro I1 av v2 k2 ae - ⟨v0,v1,rfl,rfl,⟨aU,rfl,hr⟩,rfl⟩ -;have hr:Rp.rep I1 aU y:=hr;have hr0:=hr;obtain ⟨p4,c4,p5,c5,p6,c6,p7,c7,rfl,-,-,-,-⟩:=wI hr;refine yD 13 [] [46,47] rfl<|xU [vT ([]),z0,vI 0,vI 0,z0,vI 0,vT ([]),z0,z0] ?_;intro b7 hb7;refine yS 0 (cStmt y p4 c4 p5 c5 p6 c6 p7 c7) rfl<|wT [] []<|zK ?_;have hS:=hS.mono ae;have hR:RL I1 csb body:=iM ae hR;refine wV [.p (vP b4 1) [],.p (vS pp aj cp) [2],.p (vI i) [],.x (fun I' v hx=>∃ ad,v=.pointer (some ad)/\hx=[]/\At I' ad [vN,vS pw d cw]),.x (fun I' v hx=>∃ ad,v=.pointer (some (ad.add 1))/\hx=[]/\At I' ad [vN,vS pw d cw]),.q (vS pw d cw),.p (vI k) [],.p (vA (cStmt y p4 c4 p5 c5 p6 c6 p7 c7)) [0]] [[],[(0,false)],[],[(1,false),(2,false)],[(3,false)],[(4,false)],[],[]] [hB b7 (cStmt y p4 c4 p5 c5 p6 c6 p7 c7),hO zG (vS pw d cw) csb,hB b4 [vS pa A ca,vS pp aj cp]] [] [(5,false),(6,false),(7,false)] (zY [0,1,2]) ?_ ?_
   · refine O3<|Ox ?_<|Ox ?_<|Oq ?_<|O2<|On
     · intro I1 hf ae;refine xD [49,50] rfl<|wA rfl rfl (hS.mono ae) hxr ?_;intro ad aK ap al;obtain ⟨rfl,_⟩:=al;exact yM [] iR ⟨_,rfl,rfl,ap⟩
     · rintro I1 hf ae _ _ ⟨ad,rfl,rfl,ap⟩;exact qC<|zAo [(51,.pointer (some ad))]<|mD 5 [(52,.pointer (some (ad.add 1)))]<|yM [] iR ⟨_,rfl,rfl,ap⟩
     rintro I1 hf ae _ _ ⟨ad,rfl,rfl,ap⟩;exact qC<|zAo [(52,.pointer (some (ad.add 1)))]<|xP 1 ap [vS pw d cw] (vS pw d cw) rfl<|xY iR
   intro I2 aB;refine xD [2,4,5,6,53,54,55] rfl ?_;have cd:RL I2 csb body:=iM aB hR;refine jH (α:=zG) 1 rfl rfl rfl cd hy ?_;intro ad aK ap bJ al;obtain ⟨q0,e0,q1,e1,q2,e2,q3,e3,rfl,-,-,-,-⟩:=wI al;exact kS (c:=(cStmt y p4 c4 p5 c5 p6 c6 p7 c7)) (x':=y) 1 0 rfl rfl rfl ap rfl rfl bJ (by kernel_rfl) (by kernel_rfl) (by kernel_rfl) cd hy rfl (Rp.mono aB hr0) fun csb' hR' hl'=>zU rfl<|zP<|zK<|zM<|yL [] [6] rfl<|yX<|qY (zY [1,2] (ah:=[hO zG (vS pw d cw) csb',hB b4 [vS pa A ca,vS pp aj cp]]))<|mC<|ih _ (W (k+1)) _ N ((H.trans ae).trans aB) (hS.mono aB) hxr hR' hg ho (fun I' cs' h1=>hx I' cs' (h1.trans hl'))
 intro hc N;have:=zE N;simp only [id] at this;subst this;exact vC<|yQ<|hx _ _ rfl H hR
def rY (n:Int) (parts:List zL) (i:Int):Option (List zL):=do
 if (decide (i<n)) then
  let x<-idx parts i;let b<-tT (x.Body.length:Int) x.Body 0;rY n (parts.set i.toNat ⟨x.Nest,b⟩) (W (i+1))
 else pure (id parts)
 partial_fixpoint
theorem zDL (aj:List Raw2):∀ (parts:List zL) (i:Int) (o:List zL),rY (aj.length:Int) parts i=some o->∀ {B}{I0 I:Imm}{Q}{xs:List NB}{hs0:List HA}{A:List zD}{pa ca pp cp}{b2 b4:Nat},I0.le I->aj=xs.map NB.raw->SL I (vS pp aj cp) aj->parts=xs.map NB.a->(∀ x∈xs,x.ok I)->NG Q->NO Q->(∀ (I':Imm) (xs':List NB),I0.le I'->aj=xs'.map NB.raw->SL I' (vS pp aj cp) aj->o=xs'.map NB.a->(∀ x∈xs',x.ok I')->T 58 B Q (.exit 0) I' (hB b4 [vS pa A ca,vS pp aj cp]::(NBs xs'++hs0)) [(2,vP b2 0),(4,vP b4 0)])->J Tryz.prog 58 B (nav (bodyOf f20) [1,1,1,1,0,1,0]) Q I (hB b4 [vS pa A ca,vS pp aj cp]::(NBs xs++hs0)) [(2,vP b2 0),(4,vP b4 0),(5,vI i)]:=by
 refine rY.partial_correctness _ _ fun aJ ih parts i o N B I0 I Q xs hs0 A pa ca pp cp b2 b4 H hraw hS hA bP hg ho hx=>yZ hg ho<|yC<|yA<|yL [0] [21] rfl<|zK<|yE N ?_ ?_
 · intro hc N;obtain ⟨x0,hy,N⟩:=zB N;obtain ⟨bd,ax,N⟩:=zB N;have hy0:=hy;rw [hA] at hy0;obtain ⟨x,hx',rfl⟩:=zCs hy0;have hxr:idx aj i=some x.raw:=by rw [hraw]; exact zA7 (f:=NB.raw) hx'
   obtain ⟨hi0,hi1,hix⟩:=sS hx';refine zS<|zZ<|yH<|zCN ([x.ha,hB b4 [vS pa A ca,vS pp aj cp]]++(NBs (xs.eraseIdx i.toNat)++hs0)) ((List.Perm.swap _ _ _).trans (List.Perm.cons _ ((zET hix).symm.append_right hs0)))<|zLP (hs:=[x.ha,hB b4 [vS pa A ca,vS pp aj cp]]) (L:=NBs (xs.eraseIdx i.toNat)++hs0) .normal (fun I' ah m'=>∃ csb',bd.length=x.d.length/\ah=[hO zG x.v csb',hB b4 [vS pa A ca,vS pp aj cp]]/\m'=[(2,vP b2 0),(4,vP b4 0),(5,vI i)]/\RL I' csb' bd) (fun B0=>?_) ?_
   · have hfz:=bP x (cz hix);exact yI [6] rfl<|wQ<|pM [(2,vP b2 0),(4,vP b4 0),(5,vI i),(6,vI 0)]<|zDK x.d x.d 0 bd ax iR hS hxr hfz.2 (fun _ _ _ h=>by cases h.1) (fun _ _ h=>by cases h.1) fun I3 csb3 hl3 aF hR3=>zR<|zLQ ⟨csb3,hl3,rfl,rfl,hR3⟩
   rintro I5 hs5 m5 ⟨csb5,hl5,rfl,rfl,hR5⟩ bi;have hfz:=(bP x (cz hix)).mono bi;have hev:vS x.p bd x.c=x.v:=by simp only [NB.v,vS,hl5]
   have hzr:(⟨x.vN,x.nl,x.p,bd,x.c,csb5⟩:NB).raw=x.raw:=by simp only [NB.raw]; exact congrArg (Raw2.mk x.vN) hev
   have hp:=zIH (z:=⟨x.vN,x.nl,x.p,bd,x.c,csb5⟩) hix;have hzh:(⟨x.vN,x.nl,x.p,bd,x.c,csb5⟩:NB).ha=hO zG x.v csb5:=by simp only [NB.ha]; exact congrArg (fun v=>hO zG v csb5) hev
   rw [hzh] at hp;refine zEu (hB b4 [vS pa A ca,vS pp aj cp]::(NBs (xs.set i.toNat ⟨x.vN,x.nl,x.p,bd,x.c,csb5⟩)++hs0)) ((List.Perm.cons _ (hp.append_right hs0)).trans (List.Perm.swap _ _ _))<|zP<|zK<|zM<|yL [] [5] rfl<|yX<|mC<|ih _ (W (i+1)) _ N (xs:=xs.set i.toNat ⟨x.vN,x.nl,x.p,bd,x.c,csb5⟩) (H.trans bi) (by rw [zJn hix hzr]; exact hraw) (hS.mono bi) (by rw [hA,List.map_set]; rfl) (zLS (z:=⟨x.vN,x.nl,x.p,bd,x.c,csb5⟩) (fun y hy=>(bP y hy).mono bi) ⟨hfz.1,hR5⟩ _) hg ho hx
 intro hc N;have:=zE N;simp only [id] at this;subst this;exact vC<|yQ<|hx _ _ H hraw hS hA bP
def gB (p:zH):Option (zH×Bool):=do
 let y<-kO p;let y1<-uR y;if (!y1) then pure ((zH.mk ([]:List zD) ([]:List zL)),false)
 else
  let y2<-sM y;let o0<-rY (y2.Parts.length:Int) y2.Parts 0;pure ((zH.mk y2.Arrays o0),true)
theorem zEa:∀ p r,gB p=some r->∀ {I:Imm}{p1 c p2 c1},(S4 I p1 p.Arrays c)->(S4 I p2 p.Parts c1)->RT 20 [vA (cProg p p1 c p2 c1)] I [] (zAs  r):=by
 intro p r N I p1 c p2 c1 h h1;unfold gB at N;refine yJ func20 fun B=>yA<|vD (cProg p p1 c p2 c1) ?_;intro b hb;refine xU zTwo ?_;intro b1 hb1;refine wT [] []<|yT<|vU 1 [1] [(9,vA (cProg p p1 c p2 c1))]<|bE N fun y hy N=>xJ (zD8 p _ hy h h1) ?_;rintro I0 av v2 k2 le - ⟨v0,rfl,rfl,⟨cs,rfl,h2⟩⟩ -;have h:=h.mono le;obtain ⟨p3,c2,p4,c3,rfl,h3,h4⟩:=pV h2;refine yS 1 (cProg y p3 c2 p4 c3) rfl<|zU rfl<|zZ<|yA<|vU 1 [1] [(11,vA (cProg y p3 c2 p4 c3))]<|bE N fun y1 ax N=>vR (gY y _ ax h3 h4) ?_;intro aR ae;have ⟨h3,h4⟩:=m2 ae h3 h4;refine yL [] [13] rfl<|zK<|yE N ?_ ?_
 · intro hc N;refine yA<|yD 1 [] [14] rfl<|eK 0 zTwo [hB b1 zTwo,hB b (cProg y p3 c2 p4 c3)] rfl rfl rfl rfl<|wT [] [(3,vF)]<|xL<|zI ?_;exact xO N (resE 0 rfl rfl rfl) zN ⟨_,_,rfl,rfl,⟨_,rfl,(wO ⟨_,_,rfl,(SL.nil _),(SL.nil _)⟩)⟩,rfl⟩
 intro hc N;refine zS<|zZ<|bE N fun y2 aE N=>zM<|vU 1 [1] [(15,vA (cProg y p3 c2 p4 c3))]<|xJ (zDT y _ aE h3 h4) ?_;rintro aV av v2 k2 aB - ⟨xs,pa,ca,pp,cp,rfl,rfl,hA,hPt,hok,hRw⟩ -;refine zLR ([hB b1 zTwo,hB b (cProg y p3 c2 p4 c3)]++NBs xs) cG<|xU zTwo ?_;intro b2 hb2;refine eK 0 [vS pa y2.Arrays ca,vS pp (xs.map NB.raw) cp] (hB b2 [vS pa y2.Arrays ca,vS pp (xs.map NB.raw) cp]::hB b1 zTwo::hB b (cProg y p3 c2 p4 c3)::NBs xs) rfl rfl rfl rfl<|zU rfl<|zZ<|yI [5] rfl<|wQ<|zCN (hB b2 [vS pa y2.Arrays ca,vS pp (xs.map NB.raw) cp]::(NBs xs++[hB b1 zTwo,hB b (cProg y p3 c2 p4 c3)])) (List.Perm.cons _ cG)<|pM [(2,vP b1 0),(4,vP b2 0),(5,vI 0)] ?_;obtain ⟨o0,az,aG⟩:=zB N;rw [show ((y2.Parts.length:Nat):Int)=((xs.map NB.raw).length:Int) by rw [hPt,cI,cI]] at az;refine zDL (xs.map NB.raw) y2.Parts 0 o0 az (xs:=xs) (hs0:=[hB b1 zTwo,hB b (cProg y p3 c2 p4 c3)]) iR rfl hRw hPt hok nG nO ?_;intro bv xs1 aF hr0 hS hA1 hok1;have hA:=hA.mono aF;refine zEu (NBs xs1++hB b2 [vS pa y2.Arrays ca,vS pp (xs.map NB.raw) cp]::[hB b1 zTwo,hB b (cProg y p3 c2 p4 c3)]) List.perm_middle<|zCt xs1 hok1 ?_;intro bH aX hf0;have hA:=hA.mono aX;have h6:SL bH (vS pp o0 cp) o0:=by rw [hA1]; exact zII (by rw [<- hr0]; exact hS.mono aX) hf0
 have eP:vS pp (xs.map NB.raw) cp=vS pp o0 cp:=by rw [hr0,hA1]; simp only [vS,cI]
 rw [eP];refine zR<|yT<|vU 1 [0] [(57,vA [vS pa y2.Arrays ca,vS pp o0 cp])]<|yS 1 [vS pa y2.Arrays ca,vS pp o0 cp] rfl<|wT [] [(3,vY)]<|zK<|xF ?_;exact xO aG (resE 1 rfl rfl rfl) zN ⟨_,_,rfl,rfl,⟨_,rfl,(wO ⟨_,_,rfl,hA,h6⟩)⟩,rfl⟩
def fD (p:zH) (from0:Int) (to0:Int):Option (Int):=do
 let (y1,y2)<-zAM p;let t42<-(do
   if (!y2) then pure true
   else
    let t<-y1;let y3<-wW from0 0 (W ((t.list.length:Int) - 1));if (!y3) then pure true
    else
     let y4<-wW to0 0 (W ((t.list.length:Int) - 1));if (!y4) then pure true
     else pure (decide (from0>=to0))
     : Option Bool)
 if t42 then pure (id 0)
 else
  let t1<-y1;let y5<-pO t1 from0 to0;pure (id y5)
theorem zFY:∀ p from0 to0 r,fD p from0 to0=some r->∀ {I:Imm}{p1 c p2 c1},(S4 I p1 p.Arrays c)->(S4 I p2 p.Parts c1)->RT 21 [vA (cProg p p1 c p2 c1),vI from0,vI to0] I [] (yR  r):=by
 intro p from0 to0 r N I p1 c p2 c1 h h1;unfold fD at N;refine yJ func21 fun B=>?_;have H:=iS I;refine yA<|vD (cProg p p1 c p2 c1) ?_;intro b hb;refine wT [] []<|yT<|vU 1 [0] [(10,vA (cProg p p1 c p2 c1))] ?_;obtain ⟨⟨y1,y2⟩,hy,N⟩:=zB N;refine xJ (zEj p _ hy h h1) ?_;rintro I0 av v2 k2 le - ⟨v0,v01,rfl,rfl,h2,rfl⟩ -;have H:=H.trans le;refine yL [] [7,8] rfl<|zZ<|yC ?_;refine wU N [] (fun t42=>[(1,vI from0),(2,vI to0),(7,v0),(42,.bool t42)]) (fun o0 az=>?_) ?_
 · have H:=iS I0;refine zM<|yD 3 [] [16] rfl<|wD [16] az ?_ ?_
   · intro hc N;exact wT [] [(42,vY)]<|wH zN<|yQ<|zT (ct N H)
   intro hc N;refine yD 5 [] [17,18] rfl ?_;obtain ⟨t,ax,N⟩:=zB N;obtain ⟨ad,aK,rfl,ap,al⟩:=zJj h2 ax;obtain ⟨p3,c2,p4,c3,p5,c4,p6,c5,p7,c6,rfl,h4,h5,h6,h7,h8⟩:=zB4 al;refine yD 7 [] [20] rfl<|xP 2 ap [vS p5 t.list c4] (vS p5 t.list c4) rfl<|yD 10 [] [23] rfl<|bE N fun y3 aE N=>vR (vG from0 0 (W ((t.list.length:Int) - 1)) _ aE ) ?_;intro aV ae;have ⟨ap,H⟩:=m2 ae ap H;refine yD 14 [] [27] rfl<|wD [27] N ?_ ?_
   · intro aH N;exact wT [] [(42,vY)]<|wH zN<|yQ<|zT (ct N H)
   intro aH N;refine yD 18 [] [28,31] rfl<|xP 2 ap [vS p5 t.list c4] (vS p5 t.list c4) rfl<|yD 21 [] [34] rfl<|bE N fun y4 bj N=>vR (vG to0 0 (W ((t.list.length:Int) - 1)) _ bj ) ?_;intro bv aB;have H:=H.trans aB;refine yD 25 [] [38] rfl<|wD [38] N ?_ ?_
   · intro bf N;exact wT [] [(42,vY)]<|wH zN<|yQ<|zT (ct N H)
   intro bf N;exact yL [] [42] rfl<|wH zN<|yQ<|zT (ct N H)
 intro t42 aR aF aT;have h2:=h2.mono aF;refine zK<|yE aT ?_ ?_
 · intro bG N;refine yI [6] rfl<|xL<|zI ?_;obtain rfl:=zE N;exact vZ
 intro bG N;refine zS<|yT<|yD 3 [] [43,44,45] rfl ?_;obtain ⟨t1,bt,N⟩:=zB N;obtain ⟨ad1,bo,rfl,ay,aA⟩:=zJj h2 bt;obtain ⟨p8,c7,p9,c8,aM,c9,aI,aP,bm,aQ,rfl,h11,h12,h13,h14,h15⟩:=zB4 aA;obtain ⟨y5,bD,N⟩:=zB N;refine dL (zAg t1 from0 to0 _ bD h11 h12 h13 h14 h15 ay) fun bH aX=>wT [] [(6,vI y5)]<|zK<|xF ?_;obtain rfl:=zE N;exact vZ
def sV (y:zH) (y9:(List wL)) (i:Int):Option (Out Unit (Bool)):=do
 if (decide (i<(y9.length:Int))) then
  let x<-idx y9 i;let x1<-idx y9 i;let y10<-fD y x.From x1.To;let x2<-idx y9 i;let x3<-idx y9 i;if ((W (BitVec.ofInt IntKind.i64.bits y10 &&& BitVec.ofInt IntKind.i64.bits x2.Kinds).toNat) != x3.Kinds) then pure (.ret false)
  else sV y y9 (W (i+1))
 else pure (.done ())
 partial_fixpoint
theorem zD9 (y:zH) (y9:(List wL)):∀ (i:Int) (o:Out Unit (Bool)),sV y y9 i=some o->∀ {B}{I0 I:Imm}{Q}{y2:zH}{p1 c1 p2 c2}{b}{p3 c3 p4 c4}{b1}{p7 c7},I0.le I->(S4 I p7 y9 c7)->(S4 I p3 y2.Arrays c3)->(S4 I p4 y2.Parts c4)->(S4 I p1 y.Arrays c1)->(S4 I p2 y.Parts c2)->NG Q->NO Q->(∀ I',o=(.done ())->I0.le I'->T 87 B Q (.exit 0) I' [hB b1 (cProg y2 p3 c3 p4 c4),hB b (cProg y p1 c1 p2 c2)] [(3,vP b 0),(4,vP b1 0)])->(∀ r I' ah m',o=(.ret r)->I0.le I'->RS Tryz.prog f6 B (zQ  r) I' ah m'->T 87 B Q .ret I' ah m')->J Tryz.prog 87 B (nav (bodyOf f6) [1,1,1,1,1,1,1,0,1,0]) Q I [hB b1 (cProg y2 p3 c3 p4 c4),hB b (cProg y p1 c1 p2 c2)] [(3,vP b 0),(4,vP b1 0),(8,vS p7 y9 c7),(9,vI i)]:=by
 refine sV.partial_correctness y y9 _ fun aJ ih i o N B I0 I Q y2 p1 c1 p2 c2 b p3 c3 p4 c4 b1 p7 c7 H h14 h6 h7 h2 h3 hg ho hx hr=>yZ hg ho<|yC<|yI [52] rfl<|zK<|yE N ?_ ?_
 · intro hc5 N;refine zS<|zZ<|yH<|yC ?_;obtain ⟨x,hy6,N⟩:=zB N;obtain ⟨x1,hy7,N⟩:=zB N;obtain ⟨y10,hy8,N⟩:=zB N;refine wV [.p (vA (cProg y p1 c1 p2 c2)) [1],.p (vS p7 y9 c7) [],.p (vI i) [],.x (fun I' v hx=>∃ ad,v=.pointer (some ad)/\hx=[]/\(At I' ad [vI x.From,vI x.To,vI x.Kinds])),.x (fun I' v hx=>∃ ad1,v=.pointer (some ad1)/\hx=[]/\(At I' ad1 [vI x.From,vI x.To,vI x.Kinds])),.q (vI x.From),.p (vS p7 y9 c7) [],.p (vI i) [],.x (fun I' v hx=>∃ ad2,v=.pointer (some ad2)/\hx=[]/\(At I' ad2 [vI x1.From,vI x1.To,vI x1.Kinds])),.x (fun I' v hx=>∃ ad21,v=.pointer (some (ad21.add 1))/\hx=[]/\(At I' ad21 [vI x1.From,vI x1.To,vI x1.Kinds])),.q (vI x1.To),.q (vI y10)] [[],[],[],[(1,false),(2,false)],[(3,false)],[(4,false)],[],[],[(6,false),(7,false)],[(8,false)],[(9,false)],[(0,false),(5,false),(10,false)]] [hB b1 (cProg y2 p3 c3 p4 c4),hB b (cProg y p1 c1 p2 c2)] [] [(11,false)] (zY [0,1]) ?_ ?_
   · refine O3<|Ox ?_<|Ox ?_<|Oq ?_<|O2<|Ox ?_<|Ox ?_<|Oq ?_<|Oq ?_<|On
     · intro I1 hf ae;refine xD [56,57] rfl ?_;have h14:=h14.mono ae;refine wA rfl rfl h14 hy6 ?_;intro ad aK ap al;obtain rfl:=zBC al;exact yM [] iR ⟨_,rfl,rfl,ap⟩
     · rintro I1 hf ae _ _ ⟨ad,rfl,rfl,ap⟩;exact xD [58] rfl<|mD 5 [(59,.pointer (some ad))]<|yM [] iR ⟨_,rfl,rfl,ap⟩
     · rintro I1 hf ae _ _ ⟨ad1,rfl,rfl,ay⟩;exact xD [59] rfl<|xP 0 ay [vI x.From] (vI x.From) rfl<|xY iR
     · intro I1 hf ae;refine xD [61,62] rfl ?_;have h14:=h14.mono ae;refine wA rfl rfl h14 hy7 ?_;intro ad2 bo bq aA;obtain rfl:=zBC aA;exact yM [] iR ⟨_,rfl,rfl,bq⟩
     · rintro I1 hf ae _ _ ⟨ad2,rfl,rfl,bq⟩;exact xD [63] rfl<|mD 10 [(64,.pointer (some (ad2.add 1)))]<|yM [] iR ⟨_,rfl,rfl,bq⟩
     · rintro I1 hf ae _ _ ⟨ad21,rfl,rfl,hat21⟩;exact xD [64] rfl<|xP 1 hat21 [vI x1.To] (vI x1.To) rfl<|xY iR
     intro I1 hf ae;refine xD [55,60,65] rfl ?_;have H:=iS I1;have ⟨h2,h3⟩:=m2 ae h2 h3;refine dL (zFY y x.From x1.To _ hy8 h2 h3) ?_;intro I08 le8;have H:=H.trans le8;exact xY H
   intro I09 le9;refine xD [3,4,8,9,66] rfl ?_;have ⟨h14,h6,h7,h2,h3,H⟩:=m6 le9 h14 h6 h7 h2 h3 H;refine yL [] [10] rfl<|zZ<|dV (by kernel_rfl) (by kernel_rfl)<|zAp 3 [] [67,68,69] rfl<|bE N fun x2 hy9 N=>zCY rfl rfl h14 hy9 ?_;intro ad3 bR hat3 bu;obtain rfl:=zBC bu;refine zAp 5 [] [71] rfl<|zB3 2 hat3 [vI x2.Kinds] (vI x2.Kinds) rfl<|zAp 9 [] [73,74,75] rfl<|bE N fun x3 hy10 N=>zCY rfl rfl h14 hy10 ?_;intro ad4 ccs3 hat4 bI;obtain rfl:=zBC bI;refine zAp 11 [] [77] rfl<|zB3 2 hat4 [vI x3.Kinds] (vI x3.Kinds) rfl<|zJk [] [79] rfl<|zK<|yE N ?_ ?_
   · intro hc6 N;exact vK [(2,vF)]<|xL<|zV<|zI<|zI<|hr _ _ _ _ (zE N).symm H ⟨_,_,(resT rfl),zN,⟨_,rfl,rfl,rfl⟩⟩
   intro hc6 N;exact zS<|zP<|zK<|zM<|yL [] [9] rfl<|yX<|mC<|ih (W (i+1)) _ N H h14 h6 h7 h2 h3 hg ho hx hr
 intro hc5 N;exact vC<|yQ<|hx _  (zE N).symm H
def dR (code:(List UInt8)):Option (Bool):=do
 if (decide ((code.length:Int)>1048576)) then pure true
 else
  let y<-nK code;let (y2,y3)<-jY y;let (y5,y6)<-gB y;let t38<-(do
    if (!(y3==y6)) then pure true
    else
     let y7<-oC y2 y5;if (!y7) then pure true
     else
      pure (!y3)
      : Option Bool)
  if t38 then
   let t2<-(do
     if (y3==y6) then
      let y8<-oC y2 y5;pure (id y8)
     else
      pure false
       : Option Bool)
   pure (id t2)
  else
   let y9<-jT y2
   match<-sV y y9 0 with
   | .ret r0=>pure r0
   | .done _ =>
    let y11<-qB y2;let y12<-qB y;pure ((y11.length:Int)==(y12.length:Int))
theorem zLT:∀ code r,dR code=some r->∀ {I:Imm}{p c},(S4 I p code c)->RT 6 [vS p code c] I [] (zQ  r):=by
 intro code r N I p c h;unfold dR at N;refine yJ func6 fun B=>?_;have H:=iS I;refine vK []<|zZ<|yI [13] rfl<|zK<|yE N ?_ ?_
 · intro hc N;refine vK [(2,vY)]<|xL<|zI ?_;obtain rfl:=zE N;exact vZ
 intro hc N;refine zS<|yT<|yD 1 [] [14] rfl<|bE N fun y hy N=>xJ (zCl code _ hy h) ?_;rintro I0 av v2 k2 le - ⟨v0,rfl,rfl,⟨cs,rfl,h1⟩⟩ -;have H:=H.trans le;obtain ⟨p1,c1,p2,c2,rfl,h2,h3⟩:=pV h1;refine xU zTwo ?_;intro b hb;refine yS 0 (cProg y p1 c1 p2 c2) rfl<|zU rfl<|yT<|vU 1 [0] [(17,vA (cProg y p1 c1 p2 c2))] ?_;obtain ⟨⟨y2,y3⟩,ax,N⟩:=zB N;refine xJ (zE8 y _ ax h2 h3) ?_;rintro aR av v2 k2 ae - ⟨v03,v04,rfl,rfl,⟨aw,rfl,h4⟩,rfl⟩ -;have ⟨h2,h3,H⟩:=m3 ae h2 h3 H;obtain ⟨p3,c3,p4,c4,rfl,h6,h7⟩:=pV h4;refine yD 5 [] [19,20] rfl<|xU zTwo ?_;intro b1 hb1;refine yS 0 (cProg y2 p3 c3 p4 c4) rfl<|yL [] [5] rfl<|yT<|vU 1 [1] [(22,vA (cProg y p1 c1 p2 c2))] ?_;obtain ⟨⟨y5,y6⟩,aE,N⟩:=zB N;refine xJ (zEa y _ aE h2 h3) ?_;rintro aV av v2 k2 aB - ⟨v07,v08,rfl,rfl,⟨aU,rfl,h8⟩,rfl⟩ -;have ⟨h6,h7,h2,h3,H⟩:=m5 aB h6 h7 h2 h3 H;obtain ⟨p5,c5,p6,c6,rfl,h10,h11⟩:=pV h8;refine yD 5 [] [24,25] rfl<|xU zTwo ?_;intro b2 hb2;refine yS 0 (cProg y5 p5 c5 p6 c6) rfl<|yL [] [7] rfl<|zZ<|yC ?_;refine wU N [hB b2 (cProg y5 p5 c5 p6 c6),hB b1 (cProg y2 p3 c3 p4 c4),hB b (cProg y p1 c1 p2 c2)] (fun t38=>[(3,vP b 0),(4,vP b1 0),(5,.bool y3),(6,vP b2 0),(7,.bool y6),(38,.bool t38)]) (fun o0 az=>?_) ?_
 · have H:=iS aV;refine zM<|yD 4 [] [29] rfl<|wD [29] az ?_ ?_
   · intro aH N;exact wT [] [(38,vY)]<|yQ<|zT (ct N H)
   intro aH N;refine vU 6 [1,0] [(30,vA (cProg y2 p3 c3 p4 c4)),(31,vA (cProg y5 p5 c5 p6 c6))]<|bE N fun y7 bj N=>vR (zBR y2 y5 _ bj h6 h7 h10 h11) ?_;intro bH aF;have H:=H.trans aF;refine yD 10 [] [35] rfl<|wD [35] N ?_ ?_
   · intro bf N;exact wT [] [(38,vY)]<|yQ<|zT (ct N H)
   intro bf N;exact yL [] [38] rfl<|yQ<|zT (ct N H)
 intro t38 bv aX aT;have ⟨h10,h11,h6,h7,h2,h3⟩:=m6 aX h10 h11 h6 h7 h2 h3;have H:=H.trans aX;refine zK<|yE aT ?_ ?_
 · intro bG N;refine yC ?_;refine wU N [] (fun t2=>[(2,.bool t2)]) (fun aL aC=>?_) ?_
   · have H:=iS bv;refine zM<|yD 4 [] [42] rfl<|wD [42] aC ?_ ?_
     · intro bN N;refine vU 6 [1,0] [(43,vA (cProg y2 p3 c3 p4 c4)),(44,vA (cProg y5 p5 c5 p6 c6))]<|bE N fun y8 bt N=>vR (zBR y2 y5 _ bt h6 h7 h10 h11) ?_;intro I06 bi;have H:=H.trans bi;exact yL [] [2] rfl<|wH zN<|yQ<|zT (ct N H)
     intro bN N;exact wT [] [(2,vF)]<|wH zN<|yQ<|zT (ct N H)
   intro t2 bO bB hMc1;refine xL<|zI ?_;obtain rfl:=zE hMc1;exact vZ
 intro bG N;refine zS<|yT<|vU 1 [1] [(47,vA (cProg y2 p3 c3 p4 c4))]<|bE N fun y9 bD N=>xJ (zEZ y2 _ bD h6 h7) ?_;rintro I07 av v2 k2 le7 - ⟨v013,rfl,rfl,h14⟩ -;have ⟨h6,h7,h2,h3,H⟩:=m5 le7 h6 h7 h2 h3 H;obtain ⟨p7,c7,rfl⟩:=h14.form;refine yL [] [8] rfl<|zZ<|yI [9] rfl<|wQ<|qY (zY [1,2] (ah:=[hB b1 (cProg y2 p3 c3 p4 c4),hB b (cProg y p1 c1 p2 c2)]))<|pM [(3,vP b 0),(4,vP b1 0),(8,vS p7 y9 c7),(9,vI 0)] ?_;obtain ⟨o02,ho02,aG⟩:=zB N;refine zD9 y y9 0 o02 ho02 iR h14 h6 h7 h2 h3 nG nO ?_ ?_
 · intro bL  heq2 le10;subst o02;have ⟨h6,h7,h2,h3,H⟩:=m5 le10 h6 h7 h2 h3 H;refine zR<|zK<|yC ?_;obtain ⟨y11,hy11,N⟩:=zB aG;obtain ⟨y12,hy12,N⟩:=zB N;refine wV [.p (vA (cProg y2 p3 c3 p4 c4)) [0],.x (eS y11),.q (vI (y11.length:Int)),.p (vA (cProg y p1 c1 p2 c2)) [1],.x (eS y12),.q (vI (y12.length:Int)),.p (.bool ((y11.length:Int)==(y12.length:Int))) []] [[],[(0,false)],[(1,false)],[],[(3,false)],[(4,false)],[(2,false),(5,false)]] [hB b1 (cProg y2 p3 c3 p4 c4),hB b (cProg y p1 c1 p2 c2)] [] [(6,false)] (zY [0,1]) ?_ ?_
   · refine Op<|Ox ?_<|Oq ?_<|Op<|Ox ?_<|Oq ?_<|Op<|On
     · intro I1 hf ae;refine xD [80] rfl ?_;have H:=iS I1;have ⟨h6,h7⟩:=m2 ae h6 h7;refine xJ (zAS y2 _ hy11 h6 h7) ?_;rintro bW av v2 k2 le11 - ⟨v015,rfl,rfl,h16⟩ -;have H:=H.trans le11;obtain ⟨p8,c8,rfl⟩:=h16.form;exact yM [] H ⟨_,_,rfl,rfl,h16⟩
     · rintro I1 hf ae _ _ ⟨p8,c8,rfl,rfl,h16⟩;exact xD [81] rfl<|mD 3 [(82,vI (y11.length:Int))]<|xY iR
     · intro I1 hf ae;refine xD [83] rfl ?_;have H:=iS I1;have ⟨h2,h3⟩:=m2 ae h2 h3;refine xJ (zAS y _ hy12 h2 h3) ?_;rintro bS av v2 k2 le12 - ⟨v016,rfl,rfl,h17⟩ -;have H:=H.trans le12;obtain ⟨p9,c9,rfl⟩:=h17.form;exact yM [] H ⟨_,_,rfl,rfl,h17⟩
     rintro I1 hf ae _ _ ⟨p9,c9,rfl,rfl,h17⟩;exact xD [84] rfl<|mD 6 [(85,vI (y12.length:Int))]<|xY iR
   intro I013 le13;refine xD [86] rfl ?_;refine yL [] [2] rfl<|zK<|xF ?_;obtain rfl:=zE N;exact vZ
 intro r0 I9 hs9 m9 aY le9 aZ;subst aY;refine zV<|zI ?_;obtain rfl:=zE aG;exact dB aZ
end Go.LN
