/- Helper of the proof (see the last text). -/
import Derived.Test.YtpacccdphbhfbaaGreatHM5
set_option linter.unusedVariables false
set_option linter.unusedSimpArgs false
namespace Go.LN
open Go.Proofs
set_option maxRecDepth 20000
def nA (r:zK):KT:=fun kk I' hs' v=>
  ∃ v0,hs'=[]∧v=tupV [v0]∧(∃ cs,v0=.agg ⟨cs⟩∧Rp.rep I' cs r)
def zAU (r:zF):KT:=fun kk I' hs' v=>
  ∃ v0,hs'=[]∧v=tupV [v0]∧(∃ cs,v0=.agg ⟨cs⟩∧Rp.rep I' cs r)
def tO (a0:zF) (change:(zA→Option zA)) (t14:Int) (Subs:List zA):Option (List zA):=do
 if (decide (t14 < (a0.Subs.length:Int))) then
  let x←idx a0.Subs t14
  let y←change x
  let l←app 32 Subs ([y]:List zA)
  tO a0 change (W (t14 + 1)) l
 else
  pure (id Subs)
 partial_fixpoint
theorem zAA (a0:zF) (change:(zA→Option zA)):∀ (t14:Int) (Subs:List zA) (o:List zA),tO a0 change t14 Subs=some o→∀ {B}{I0 I:Imm}{Q p c}{fv:Value}{b1:Nat}{b2:Nat}{p1 c1 cs},I0.le I→(FV1 Tryz.prog I [] fv change)→(S4 I p a0.Subs c)→(RL I cs Subs)→NG Q→NO Q→(∀ (I':Imm) (Subs1:List zA) (p2:Option Addr) (c2:Nat) (cs1:List Value),o=Subs1→I0.le I'→(RL I' cs1 Subs1)→T 28 B Q (.exit 0) I' [hO zA (vS p2 Subs1 c2) cs1,hB b2 [vT a0.Array.l,vS p2 Subs1 c2],hB b1 [vT ([]),z0]] [(4,vP b1 0),(5,vP b2 0)])→J Tryz.prog 28 B (nav (bodyOf Tryz.f111) [1,1,0,1,0]) Q I [hO zA (vS p1 Subs c1) cs,hB b2 [vT a0.Array.l,vS p1 Subs c1],hB b1 [vT ([]),z0]] [(1,fv),(4,vP b1 0),(5,vP b2 0),(12,vS p a0.Subs c),(13,vI (a0.Subs.length:Int)),(14,vI t14)]:=by
 refine tO.partial_correctness a0 change _ fun self ih t14 Subs o N B I0 I Q p c fv b1 b2 p1 c1 cs H h1 h h3 hg ho hx=>xH hg ho<|yO [15] rfl<|yE<|yH N ?_ ?_
 · intro hc N;refine zT<|yE<|yN<|yG<|bE N fun x hy N=>wF rfl rfl h hy ?_;intro ad ccs hat hrep;obtain ⟨p3,c3,rfl,h5⟩:=yD hrep;refine xT 0 hat (cAff x p3 c3) (vA (cAff x p3 c3)) rfl<|wK [z0,vI 0] ?_;intro b3 hb3;refine yZ 0 (cAff x p3 c3) rfl<|zZ rfl<|zI ?_;obtain ⟨y,hy1,N⟩:=zC N;obtain ⟨l,hy2,N⟩:=zC N;refine wZ [.p (vP b2 1) [],.p (vS p1 Subs c1) [1],.p fv [],.p (vA (cAff x p3 c3)) [0],.x (eVAff y),.x (fun I' v hx=>∃ b4,v=vS (some ⟨b4,0,none⟩) ([y]:List zA) 1∧hx=[]∧(SL I' (vS (some ⟨b4,0,none⟩) ([y]:List zA) 1) ([y]:List zA))),.x (fun I' v hx=>∃ p5 c5 cs3,v=vS p5 l c5∧hx=[hO zA (vS p5 l c5) cs3]∧(RL I' cs3 l))] [[],[(0,false)],[],[],[(2,false),(3,false)],[(4,false)],[(1,false),(5,false),(9,true)]] [hB b3 (cAff x p3 c3),hB b2 [vT a0.Array.l,vS p1 Subs c1],hB b1 [vT ([]),z0]] [[hO zA (vS p1 Subs c1) cs]] [(6,true)] (yB [0,2,3,1]) ?_ ?_
   · refine Op<|Op<|Op<|Op<|Ox ?_<|Ox ?_<|Ox ?_<|On
     · intro I1 hf le1;refine yY [20,21] rfl ?_;have H:=iS I1;have ⟨h1,h5⟩:=m2 le1 h1 h5;refine zI2 rfl rfl h1 hy1 ⟨_,rfl,(yC ⟨_,rfl,h5⟩)⟩  ?_;rintro I0 v01 le ⟨cs2,rfl,h6⟩;have H:=H.trans le;obtain ⟨p4,c4,rfl,h7⟩:=yD h6;exact yW [] H ⟨_,_,rfl,rfl,h7⟩
     · rintro I1 hf le1 _ _ ⟨p4,c4,rfl,rfl,h7⟩;refine yY [22] rfl ?_;have H:=iS I1;refine nM (rc y (yC ⟨_,rfl,h7⟩) rN) ?_;intro b4 I01 le1 h9;have H:=H.trans le1;exact yW [] H ⟨_,rfl,rfl,h9⟩
     rintro I1 hf le1 _ _ ⟨rfl,rfl⟩ _ _ ⟨b4,rfl,rfl,h9⟩ _ _ rfl;refine yY [19,23] rfl ?_;have h3:=iM le1 h3;obtain ⟨ccs1,k0,k01⟩:=h9;have h9:SL I1 (vS (some ⟨b4,0,none⟩) ([y]:List zA) 1) ([y]:List zA):=⟨_,k0,k01⟩;exact nO 43 2 0 rfl rfl rfl h3 (.inl k0) k01 hy2 fun p5 c5 cs3 h10=>qI (hs':=(hO zA (vS p5 l c5) cs3::hB b3 (cAff x p3 c3)::hB b2 [vT a0.Array.l,vS p1 Subs c1]::hB b1 [vT ([]),z0]::hf)) rfl<|yW [hO zA (vS p5 l c5) cs3] iR ⟨_,_,_,rfl,rfl,h10⟩
   rintro I02 le2 _ _ ⟨p5,c5,cs3,rfl,rfl,h10⟩;refine yY [1,4,5,12,13,14,24] rfl ?_;have ⟨h1,h,H⟩:=m3 le2 h1 h H;exact yF 8 [] [25] rfl<|yZ 2 [vT a0.Array.l,vS p5 l c5] rfl<|zZ rfl<|zQ<|zI<|zM<|yL [] [14] rfl<|xF<|gA (zX [0,2,3] rfl (by decide))<|mJ<|ih (W (t14 + 1)) l _ N H h1 h h10 hg ho hx
 intro hc N;exact tS<|yM<|hx _ _ _ _ _ (zB N).symm H h3
def qO (a0:zF) (change:(zA→Option zA)):Option (zF):=do
 let Subs1←tO a0 change 0 ([]:List zA)
 pure (zF.mk a0.Array Subs1)
theorem fC:∀ a0 change r,qO a0 change=some r→∀ {I:Imm}{p c}{fv:Value},(S4 I p a0.Subs c)→(FV1 Tryz.prog I [] fv change)→RT 111 [vA (cAccess a0 p c),fv] I [] (zAU  r):=by
 intro a0 change r N I p c fv h h1;unfold qO at N;refine yI Tryz.func111 fun B=>yG<|uG (cAccess a0 p c) ?_;intro b hb;refine wK [vT ([]),z0] ?_;intro b1 hb1;refine zZ rfl<|yX<|sH 3 [1] [(10,vA [vT a0.Array.l,z0])]<|wK [vT ([]),z0] ?_;intro b2 hb2;refine yZ 0 [vT a0.Array.l,z0] rfl<|zZ rfl<|yE<|yG<|yL [2] [12,13,14] rfl<|uV<|gA (yB [0,1] (hs':=[hB b2 [vT a0.Array.l,z0],hB b1 [vT ([]),z0]]))<|mH [(1,fv),(4,vP b1 0),(5,vP b2 0),(12,vS p a0.Subs c),(13,vI (a0.Subs.length:Int)),(14,vI 0)]<|zDQ zA fun h2=>?_;obtain ⟨o0,ho0,hMl⟩:=zC N;refine zAA a0 change 0 ([]:List zA) o0 ho0 iR h1 h h2 (fun _ _ _ h=>h) (fun _ _ h=>h) ?_;intro I03 Subs1 p2 c2 cs1 heq le3 h4;subst o0;refine zU<|yX<|sH 1 [1] [(27,vA [vT a0.Array.l,vS p2 Subs1 c2])]<|yZ 2 [vT a0.Array.l,vS p2 Subs1 c2] rfl<|zZ rfl<|xE<|xN 0 rfl ?_;intro I04 le4 hl01;have h11:=SL.of_frozen hl01 le4 h4;obtain rfl:=zB hMl;exact xB ⟨_,_,(.cell 1 rfl rfl (by kernel_rfl) ResV.nil),zL,⟨_,rfl,rfl,⟨_,rfl,(rD ⟨_,rfl,h11⟩)⟩⟩⟩
def fD (r:zD):KT:=fun kk I' hs' v=>
  ∃ v0,hs'=[]∧v=tupV [v0]∧(∃ cs,v0=.agg ⟨cs⟩∧Rp.rep I' cs r)
mutual
def qW (e0:zD) (change:(zA→Option zA)):Option (zD):=do
 let (IndexCoefs,IndexConst,ReadArray,ReadSubs)←(do
   if (e0.Kind == 2) then
    let y←change e0.Index
    pure (y.Coefs,y.Const,(⟨[]⟩:Str),([]:List zA))
   else
    let (ReadArray1,ReadSubs1)←(do
      if (e0.Kind == 3) then
       let y1←qO e0.Read change
       pure (y1.Array,y1.Subs)
      else
       pure ((⟨[]⟩:Str),([]:List zA))
        : Option (Str×List zA))
    pure (([]:List Int),0,ReadArray1,ReadSubs1)
     : Option (List Int×Int×Str×List zA))
 let Kids1←tQ (same e0) (same change) (same 0) ([]:List zD)
 pure (zD.mk e0.Kind e0.Num (zA.mk IndexCoefs IndexConst) (zF.mk ReadArray ReadSubs) Kids1)
 partial_fixpoint
def tQ (e0:zD) (change:(zA→Option zA)) (t32:Int) (Kids:List zD):Option (List zD):=do
 if (decide (t32 < (e0.Kids.length:Int))) then
  let x←idx e0.Kids t32
  let y2←qW (same x) (same change)
  let l←app 112 Kids ([y2]:List zD)
  tQ (same e0) (same change) (W (t32 + 1)) (same l)
 else
  pure (id Kids)
 partial_fixpoint
end
theorem zCJ:(∀ (e0:zD) (change:(zA→Option zA)) r,qW e0 change=some r→∀ {I:Imm}{p c p1 c1 p2 c2}{fv:Value},(S4 I p e0.Index.Coefs c)→(S4 I p1 e0.Read.Subs c1)→(S4 I p2 e0.Kids c2)→(FV1 Tryz.prog I [] fv change)→RT 112 [vA (cExpr e0 p c p1 c1 p2 c2),fv] I [] (fD  r))∧(∀ (e0:zD) (change:(zA→Option zA)) (t32:Int) (Kids:List zD) o,tQ e0 change t32 Kids=some o→∀ {B}{I0 I:Imm}{Q}{IndexCoefs:List Int}{IndexConst:Int}{ReadArray:Str}{ReadSubs:List zA}{p2 c2}{fv:Value}{b1:Nat}{b2:Nat}{p3 c3 p4 c4 p8 c8 cs2},I0.le I→(FV1 Tryz.prog I [] fv change)→(S4 I p2 e0.Kids c2)→(S4 I p3 IndexCoefs c3)→(S4 I p4 ReadSubs c4)→(RL I cs2 Kids)→NG Q→NO Q→(∀ (I':Imm) (Kids1:List zD) (p9:Option Addr) (c9:Nat) (cs3:List Value),o=Kids1→I0.le I'→(RL I' cs3 Kids1)→T 46 B Q (.exit 1) I' [hO zD (vS p9 Kids1 c9) cs3,hB b2 [vI e0.Kind,vI e0.Num,vS p3 IndexCoefs c3,vI IndexConst,vT ReadArray.l,vS p4 ReadSubs c4,vS p9 Kids1 c9],hB b1 zExpr] [(4,vP b1 0),(5,vP b2 0)])→J Tryz.prog 46 B (nav (bodyOf Tryz.f112) [1,1,1,0,1,0]) Q I [hO zD (vS p8 Kids c8) cs2,hB b2 [vI e0.Kind,vI e0.Num,vS p3 IndexCoefs c3,vI IndexConst,vT ReadArray.l,vS p4 ReadSubs c4,vS p8 Kids c8],hB b1 zExpr] [(1,fv),(4,vP b1 0),(5,vP b2 0),(30,vS p2 e0.Kids c2),(31,vI (e0.Kids.length:Int)),(32,vI t32)]):=by
  refine qW.mutual_partial_correctness _ _ ?_ ?_
  · intro F_impl_exprMap_l1 ih_impl_exprMap_l1 e0 change r N I p c p1 c1 p2 c2 fv h h1 h2 h3;refine yI Tryz.func112 fun B=>?_;have H:=iS I;refine yG<|uG (cExpr e0 p c p1 c1 p2 c2) ?_;intro b hb;refine wK zExpr ?_;intro b1 hb1;refine zZ rfl<|yX<|sH 5 [1,1] [(12,vA [vI e0.Kind,vI e0.Num,z0,vI 0,vT ([]),z0,z0])]<|wK zExpr ?_;intro b2 hb2;refine yZ 0 [vI e0.Kind,vI e0.Num,z0,vI 0,vT ([]),z0,z0] rfl<|zZ rfl<|yE<|yG<|yL [2] [14] rfl<|uV<|yO [15] rfl<|zI ?_;obtain ⟨o0,ho0,hMc⟩:=zC N;refine oH (fun I' hs' m'=>∃ (IndexCoefs:List Int) (IndexConst:Int) (ReadArray:Str) (ReadSubs:List zA) (p3:Option Addr) (c3:Nat) (p4:Option Addr) (c4:Nat),o0=(IndexCoefs,IndexConst,ReadArray,ReadSubs)∧I.le I'∧(S4 I' p3 IndexCoefs c3)∧(S4 I' p4 ReadSubs c4)∧hs'=[hB b2 [vI e0.Kind,vI e0.Num,vS p3 IndexCoefs c3,vI IndexConst,vT ReadArray.l,vS p4 ReadSubs c4,z0],hB b1 zExpr,hB b (cExpr e0 p c p1 c1 p2 c2)]∧m'=[(1,fv),(2,vP b 0),(4,vP b1 0),(5,vP b2 0)]) ?_ ?_
    · have H:=iS I;refine yH ho0 ?_ ?_
      · intro hc N;refine zM<|sH 3 [2] [(17,fv),(19,vA (cAff e0.Index p c))]<|bE N fun y hy N=>zI2 rfl rfl h3 hy ⟨_,rfl,(yC ⟨_,rfl,h⟩)⟩  ?_;rintro I01 v0 le ⟨cs,rfl,h6⟩;have H:=H.trans le;obtain ⟨p5,c5,rfl,h7⟩:=yD h6;exact yF 5 [] [21] rfl<|yZ 0 [vI e0.Kind,vI e0.Num,vS p5 y.Coefs c5,vI y.Const,vT ([]),z0,z0] rfl<|zZ rfl<|yM<|zR ⟨_,_,_,_,_,_,_,_,(zB N).symm,H,h7,(SL.nil _),rfl,rfl⟩
      intro hc N;refine yO [22] rfl<|zI ?_;obtain ⟨o01,ho01,hMc1⟩:=zC N;refine oH (fun I' hs' m'=>∃ (ReadArray1:Str) (ReadSubs1:List zA) (p6:Option Addr) (c6:Nat),o01=(ReadArray1,ReadSubs1)∧I.le I'∧(S4 I' p6 ReadSubs1 c6)∧hs'=[hB b2 [vI e0.Kind,vI e0.Num,z0,vI 0,vT ReadArray1.l,vS p6 ReadSubs1 c6,z0],hB b1 zExpr,hB b (cExpr e0 p c p1 c1 p2 c2)]∧m'=[(1,fv),(2,vP b 0),(4,vP b1 0),(5,vP b2 0)]) ?_ ?_
      · have H:=iS I;refine yH ho01 ?_ ?_
        · intro hc1 N;refine zM<|sH 3 [2] [(25,vA (cAccess e0.Read p1 c1)),(26,fv)]<|bE N fun y1 hy1 N=>xM (fC e0.Read change _ hy1 h1 h3) ?_;rintro I03 hs2 v2 k2 le1 - ⟨v02,rfl,rfl,⟨cs1,rfl,h9⟩⟩ -;have H:=H.trans le1;obtain ⟨p7,c7,rfl,h10⟩:=uE h9;exact yF 5 [] [28] rfl<|yZ 0 [vI e0.Kind,vI e0.Num,z0,vI 0,vT y1.Array.l,vS p7 y1.Subs c7,z0] rfl<|zZ rfl<|yM<|zR ⟨_,_,_,_,(zB N).symm,H,h10,rfl,rfl⟩
        intro hc1 N;exact zT<|yM<|zR ⟨_,_,_,_,(zB N).symm,H,(SL.nil _),rfl,rfl⟩
      rintro I02 hs2 m2 ⟨ReadArray1,ReadSubs1,p6,c6,heq,le2,h8,rfl,rfl⟩;subst o01;have H:=H.trans le2;exact yM<|zR ⟨_,_,_,_,_,_,_,_,(zB hMc1).symm,H,(SL.nil _),h8,rfl,rfl⟩
    rintro I0 hs2 m2 ⟨IndexCoefs,IndexConst,ReadArray,ReadSubs,p3,c3,p4,c4,heq1,le3,h4,h5,rfl,rfl⟩;subst o0;have ⟨h3,h,h2⟩:=m3 le3 h3 h h2;refine zQ<|yE<|yG<|yL [2] [30,31,32] rfl<|uV<|gA (yB [0,1] (hs':=[hB b2 [vI e0.Kind,vI e0.Num,vS p3 IndexCoefs c3,vI IndexConst,vT ReadArray.l,vS p4 ReadSubs c4,z0],hB b1 zExpr]))<|mH [(1,fv),(4,vP b1 0),(5,vP b2 0),(30,vS p2 e0.Kids c2),(31,vI (e0.Kids.length:Int)),(32,vI 0)]<|zDQ zD fun h11=>?_;obtain ⟨o02,ho02,hMl⟩:=zC hMc;refine ih_impl_exprMap_l1 e0 change 0 ([]:List zD) o02 ho02 iR h3 h2 h4 h5 h11 (fun _ _ _ h=>h) (fun _ _ h=>h) ?_;intro I07 Kids1 p9 c9 cs3 heq2 le7 h13;subst o02;have ⟨h4,h5⟩:=m2 le7 h4 h5;refine zU<|yX<|sH 1 [1] [(45,vA [vI e0.Kind,vI e0.Num,vS p3 IndexCoefs c3,vI IndexConst,vT ReadArray.l,vS p4 ReadSubs c4,vS p9 Kids1 c9])]<|yZ 2 [vI e0.Kind,vI e0.Num,vS p3 IndexCoefs c3,vI IndexConst,vT ReadArray.l,vS p4 ReadSubs c4,vS p9 Kids1 c9] rfl<|zZ rfl<|xE<|xN 0 rfl ?_;intro I08 le8 hl01;have h24:=SL.of_frozen hl01 le8 h13;have ⟨h4,h5⟩:=m2 le8 h4 h5;obtain rfl:=zB hMl;exact xB ⟨_,_,(.cell 1 rfl rfl (by kernel_rfl) ResV.nil),zL,⟨_,rfl,rfl,⟨_,rfl,(xI ⟨_,_,_,rfl,h4,h5,h24⟩)⟩⟩⟩
  intro F_impl_exprMap F_impl_exprMap_l1 ih_impl_exprMap ih_impl_exprMap_l1 e0 change t32 Kids o N B I0 I Q IndexCoefs IndexConst ReadArray ReadSubs p2 c2 fv b1 b2 p3 c3 p4 c4 p8 c8 cs2 H h3 h2 h4 h5 h12 hg ho hx;refine xH hg ho<|yO [33] rfl<|yE<|yH N ?_ ?_
  · intro hc2 N;refine zT<|yE<|yN<|yG<|bE N fun x hy2 N=>wF rfl rfl h2 hy2 ?_;intro ad ccs hat hrep;obtain ⟨p10,c10,p11,c11,p12,c12,rfl,h14,h15,h16⟩:=yV hrep;refine xT 0 hat (cExpr x p10 c10 p11 c11 p12 c12) (vA (cExpr x p10 c10 p11 c11 p12 c12)) rfl<|wK zExpr ?_;intro b3 hb3;refine yZ 0 (cExpr x p10 c10 p11 c11 p12 c12) rfl<|zZ rfl<|zI ?_;obtain ⟨y2,hy3,N⟩:=zC N;obtain ⟨l,hy4,N⟩:=zC N;refine wZ [.p (vP b2 6) [],.p (vS p8 Kids c8) [1],.p (vA (cExpr x p10 c10 p11 c11 p12 c12)) [0],.p fv [],.x (eVExpr y2),.x (fun I' v hx=>∃ b4,v=vS (some ⟨b4,0,none⟩) ([y2]:List zD) 1∧hx=[]∧(SL I' (vS (some ⟨b4,0,none⟩) ([y2]:List zD) 1) ([y2]:List zD))),.x (fun I' v hx=>∃ p16 c16 cs5,v=vS p16 l c16∧hx=[hO zD (vS p16 l c16) cs5]∧(RL I' cs5 l))] [[],[(0,false)],[],[],[(2,false),(3,false)],[(4,false)],[(1,false),(5,false),(9,true)]] [hB b3 (cExpr x p10 c10 p11 c11 p12 c12),hB b2 [vI e0.Kind,vI e0.Num,vS p3 IndexCoefs c3,vI IndexConst,vT ReadArray.l,vS p4 ReadSubs c4,vS p8 Kids c8],hB b1 zExpr] [[hO zD (vS p8 Kids c8) cs2]] [(6,true)] (yB [0,2,3,1]) ?_ ?_
    · refine Op<|Op<|Op<|Op<|Ox ?_<|Ox ?_<|Ox ?_<|On
      · intro I1 hf le1;refine yY [38,39] rfl ?_;have H:=iS I1;have ⟨h3,h14,h15,h16⟩:=m4 le1 h3 h14 h15 h16;refine xM (ih_impl_exprMap x change _ hy3 h14 h15 h16 h3) ?_;rintro I04 hs2 v2 k2 le4 - ⟨v07,rfl,rfl,⟨cs4,rfl,h17⟩⟩ -;have H:=H.trans le4;obtain ⟨p13,c13,p14,c14,p15,c15,rfl,h18,h19,h20⟩:=yV h17;exact yW [] H ⟨_,_,_,_,_,_,rfl,rfl,h18,h19,h20⟩
      · rintro I1 hf le1 _ _ ⟨p13,c13,p14,c14,p15,c15,rfl,rfl,h18,h19,h20⟩;refine yY [40] rfl ?_;have H:=iS I1;refine nM (rc y2 (xI ⟨_,_,_,rfl,h18,h19,h20⟩) rN) ?_;intro b4 I05 le5 h22;have H:=H.trans le5;exact yW [] H ⟨_,rfl,rfl,h22⟩
      rintro I1 hf le1 _ _ ⟨rfl,rfl⟩ _ _ ⟨b4,rfl,rfl,h22⟩ _ _ rfl;refine yY [37,41] rfl ?_;have h12:=iM le1 h12;obtain ⟨ccs1,k0,k01⟩:=h22;have h22:SL I1 (vS (some ⟨b4,0,none⟩) ([y2]:List zD) 1) ([y2]:List zD):=⟨_,k0,k01⟩;exact nO 46 7 0 rfl rfl rfl h12 (.inl k0) k01 hy4 fun p16 c16 cs5 h23=>qI (hs':=(hO zD (vS p16 l c16) cs5::hB b3 (cExpr x p10 c10 p11 c11 p12 c12)::hB b2 [vI e0.Kind,vI e0.Num,vS p3 IndexCoefs c3,vI IndexConst,vT ReadArray.l,vS p4 ReadSubs c4,vS p8 Kids c8]::hB b1 zExpr::hf)) rfl<|yW [hO zD (vS p16 l c16) cs5] iR ⟨_,_,_,rfl,rfl,h23⟩
    rintro I06 le6 _ _ ⟨p16,c16,cs5,rfl,rfl,h23⟩;refine yY [1,4,5,30,31,32,42] rfl ?_;have ⟨h3,h2,h4,h5,H⟩:=m5 le6 h3 h2 h4 h5 H;exact yF 8 [] [43] rfl<|yZ 2 [vI e0.Kind,vI e0.Num,vS p3 IndexCoefs c3,vI IndexConst,vT ReadArray.l,vS p4 ReadSubs c4,vS p16 l c16] rfl<|zZ rfl<|zQ<|zI<|zM<|yL [] [32] rfl<|xF<|gA (zX [0,2,3] rfl (by decide))<|mJ<|ih_impl_exprMap_l1 e0 change (W (t32 + 1)) l _ N H h3 h2 h4 h5 h23 hg ho hx
  intro hc2 N;exact tS<|yM<|hx _ _ _ _ _ (zB N).symm H h12
theorem zCf:∀ e0 change r,qW e0 change=some r→∀ {I:Imm}{p c p1 c1 p2 c2}{fv:Value},(S4 I p e0.Index.Coefs c)→(S4 I p1 e0.Read.Subs c1)→(S4 I p2 e0.Kids c2)→(FV1 Tryz.prog I [] fv change)→RT 112 [vA (cExpr e0 p c p1 c1 p2 c2),fv] I [] (fD  r):=zCJ.1
def oO (s:zK) (change:(zA→Option zA)):Option (zK):=do
 let y←qO s.Write change
 let y1←qW s.Value change
 pure (zK.mk y y1)
theorem eU:∀ s change r,oO s change=some r→∀ {I:Imm}{p c p1 c1 p2 c2 p3 c3}{fv:Value},(S4 I p s.Write.Subs c)→(S4 I p1 s.Value.Index.Coefs c1)→(S4 I p2 s.Value.Read.Subs c2)→(S4 I p3 s.Value.Kids c3)→(FV1 Tryz.prog I [] fv change)→RT 53 [vA (cStmt s p c p1 c1 p2 c2 p3 c3),fv] I [] (nA  r):=by
 intro s change r N I p c p1 c1 p2 c2 p3 c3 fv h h1 h2 h3 h4;unfold oO at N;refine yI Tryz.func53 fun B=>?_;have H:=iS I;refine yG<|uG (cStmt s p c p1 c1 p2 c2 p3 c3) ?_;intro b hb;refine wK [vT ([]),z0,vI 0,vI 0,z0,vI 0,vT ([]),z0,z0] ?_;intro b1 hb1;refine zZ rfl<|zI<|yA ?_;obtain ⟨y,hy,N⟩:=zC N;obtain ⟨y1,hy1,N⟩:=zC N;refine wZ [.p (vP b 0) [],.p (vA (cAccess s.Write p c)) [1],.p fv [],.x (eVAccess y),.p (vP b 2) [],.p (vA (cExpr s.Value p1 c1 p2 c2 p3 c3)) [1],.p fv [],.x (eVExpr y1),.x (fun I' v hx=>∃ p41 c41 p51 c51 p61 c61 p71 c71,v=vA [vT y.Array.l,vS p41 y.Subs c41,vI y1.Kind,vI y1.Num,vS p51 y1.Index.Coefs c51,vI y1.Index.Const,vT y1.Read.Array.l,vS p61 y1.Read.Subs c61,vS p71 y1.Kids c71]∧hx=[]∧(S4 I' p41 y.Subs c41)∧(S4 I' p51 y1.Index.Coefs c51)∧(S4 I' p61 y1.Read.Subs c61)∧(S4 I' p71 y1.Kids c71))] [[],[(0,false)],[],[(1,false),(2,false)],[],[(4,false)],[],[(5,false),(6,false)],[(3,false),(7,false)]] [hB b1 [vT ([]),z0,vI 0,vI 0,z0,vI 0,vT ([]),z0,z0],hB b (cStmt s p c p1 c1 p2 c2 p3 c3)] [] [(8,false)] (yB [0,1]) ?_ ?_
 · refine Op<|Op<|Op<|Ox ?_<|Op<|Op<|Op<|Ox ?_<|Ox ?_<|On
   · intro I1 hf le1;refine yY [6,7] rfl ?_;have H:=iS I1;have ⟨h4,h⟩:=m2 le1 h4 h;refine xM (fC s.Write change _ hy h h4) ?_;rintro I0 hs2 v2 k2 le - ⟨v0,rfl,rfl,⟨cs,rfl,h5⟩⟩ -;have H:=H.trans le;obtain ⟨p4,c4,rfl,h6⟩:=uE h5;exact yW [] H ⟨_,_,rfl,rfl,h6⟩
   · intro I1 hf le1;refine yY [10,11] rfl ?_;have H:=iS I1;have ⟨h4,h1,h2,h3⟩:=m4 le1 h4 h1 h2 h3;refine xM (zCf s.Value change _ hy1 h1 h2 h3 h4) ?_;rintro I01 hs2 v2 k2 le1 - ⟨v02,rfl,rfl,⟨cs1,rfl,h7⟩⟩ -;have H:=H.trans le1;obtain ⟨p5,c5,p6,c6,p7,c7,rfl,h8,h9,h10⟩:=yV h7;exact yW [] H ⟨_,_,_,_,_,_,rfl,rfl,h8,h9,h10⟩
   rintro I1 hf le1 _ _ ⟨p4,c4,rfl,rfl,h6⟩ _ _ ⟨p5,c5,p6,c6,p7,c7,rfl,rfl,h8,h9,h10⟩;exact yY [8,12] rfl<|qE 9 [(13,vA [vT y.Array.l,vS p4 y.Subs c4,vI y1.Kind,vI y1.Num,vS p5 y1.Index.Coefs c5,vI y1.Index.Const,vT y1.Read.Array.l,vS p6 y1.Read.Subs c6,vS p7 y1.Kids c7])]<|yW [] iR ⟨_,_,_,_,_,_,_,_,rfl,rfl,h6,h8,h9,h10⟩
 rintro I02 le2 _ _ ⟨p41,c41,p51,c51,p61,c61,p71,c71,rfl,rfl,h61,h81,h91,h101⟩;refine yY [4,13] rfl ?_;refine yZ 0 [vT y.Array.l,vS p41 y.Subs c41,vI y1.Kind,vI y1.Num,vS p51 y1.Index.Coefs c51,vI y1.Index.Const,vT y1.Read.Array.l,vS p61 y1.Read.Subs c61,vS p71 y1.Kids c71] rfl<|zZ rfl<|zI<|yS ?_;obtain rfl:=zB N;exact xB ⟨_,_,(.cell 0 rfl rfl (by kernel_rfl) ResV.nil),zL,⟨_,rfl,rfl,⟨_,rfl,(xU ⟨_,_,_,_,rfl,h61,h81,h91,h101⟩)⟩⟩⟩
end Go.LN
