/- Helper of the proof (see the last text). -/
import Derived.Test.YtpacccdphbhfbaaGreatHM6
set_option linter.unusedVariables false
set_option linter.unusedSimpArgs false
namespace Go.LN
open Go.Proofs
set_option maxRecDepth 20000
def sG (y:(List Str)) (out:List Str) (i:Int):Option (List Str):=do
 if (decide (i < (y.length:Int))) then
  let x←idx y i
  let out2←(do
    if (!(x.l == ([]:List UInt8))) then
     let x1←idx y i
     let out3←app 16 out ([x1]:List Str)
     pure (id out3)
    else
     pure (id out)
      : Option (List Str))
  sG y out2 (W (i + 1))
 else
  pure (id out)
 partial_fixpoint
theorem zAV (y:(List Str)):∀ (out:List Str) (i:Int) (o:List Str),sG y out i=some o→∀ {B}{I0 I:Imm}{Q p c p1 c1 cs},I0.le I→(S4 I p y c)→(RL I cs out)→NG Q→NO Q→(∀ (I':Imm) (out1:List Str) (p2:Option Addr) (c2:Nat) (cs1:List Value),o=out1→I0.le I'→(RL I' cs1 out1)→T 28 B Q (.exit 0) I' [hO Str (vS p2 out1 c2) cs1] [(4,vS p2 out1 c2)])→J Tryz.prog 28 B (nav (bodyOf Tryz.f199) [1,1,1,0,1,0]) Q I [hO Str (vS p1 out c1) cs] [(3,vS p y c),(4,vS p1 out c1),(5,vI i)]:=by
 refine sG.partial_correctness y _ fun self ih out i o N B I0 I Q p c p1 c1 cs H h h2 hg ho hx=>xH hg ho<|yA<|yO [12] rfl<|zI<|yH N ?_ ?_
 · intro hc N;refine zT<|yE<|yN<|yG<|yF 2 [] [15,16] rfl<|bE N fun x hy1 N=>wF rfl rfl h hy1 ?_;intro ad ccs hat hrep;obtain rfl:=hrep;refine xT 0 hat [vT x.l] (vT x.l) rfl<|yL [] [19] rfl<|zI ?_;obtain ⟨o0,ho0,hMc⟩:=zC N;refine oH (fun I' hs' m'=>∃ (out2:List Str) (p3:Option Addr) (c3:Nat) (cs2:List Value),o0=out2∧I.le I'∧(RL I' cs2 out2)∧hs'=[hO Str (vS p3 out2 c3) cs2]∧m'=[(3,vS p y c),(4,vS p3 out2 c3),(5,vI i)]) ?_ ?_
   · have H:=iS I;refine yH ho0 ?_ ?_
     · intro hc1 N;refine zM<|yF 3 [] [20,21,22] rfl<|bE N fun x1 hy2 N=>wF rfl rfl h hy2 ?_;intro ad1 ccs1 hat1 hrep1;obtain rfl:=hrep1;refine xT 0 hat1 [vT x1.l] (vT x1.l) rfl<|qB [vT x1.l] Str ?_;intro b1 hb1;have h5:RL I [vT x1.l] ([x1]:List Str):=rT [x1];obtain ⟨out3,hy3,N⟩:=zC N;exact nO 9 1 1 rfl rfl rfl h2 (.inr ⟨0,rfl⟩) h5 hy3 fun p4 c4 cs3 h6=>qH (yB [1] (hs':=[hO Str (vS p4 out3 c4) cs3]))<|yL [] [4] rfl<|yM<|zR ⟨_,_,_,_,(zB N).symm,H,h6,rfl,rfl⟩
     intro hc1 N;exact zT<|yM<|zR ⟨_,_,_,_,(zB N).symm,H,h2,rfl,rfl⟩
   rintro I01 hs2 m2 ⟨out2,p3,c3,cs2,heq,le1,h4,rfl,rfl⟩;subst o0;have ⟨h,H⟩:=m2 le1 h H;exact zQ<|zI<|zM<|yL [] [5] rfl<|xF<|mJ<|ih out2 (W (i + 1)) _ hMc H h h4 hg ho hx
 intro hc N;exact tS<|yM<|hx _ _ _ _ _ (zB N).symm H h2
def pE (s:Str):Option ((List Str)):=do
 let y←pT s (32:UInt8)
 let out1←sG y ([]:List Str) 0
 pure (id out1)
theorem eC:∀ s r,pE s=some r→∀ {I:Imm} ,RT 199 [vT s.l] I [] (fU  r):=by
 intro s r N I;unfold pE at N;refine yI Tryz.func199 fun B=>uA []<|yX<|yF 1 [] [6] rfl<|bE N fun y hy N=>xM (gG s (32:UInt8) _ hy ) ?_;rintro I0 hs2 v2 k2 le - ⟨v0,rfl,rfl,h⟩ -;obtain ⟨p,c,rfl⟩:=h.form;refine yL [] [3] rfl<|yX<|qB [] Str ?_;intro b hb;have h1:RL I0 [] ([]:List Str):=rfl;refine yL [] [4] rfl<|yE<|yO [5] rfl<|uV<|mH [(3,vS p y c),(4,vS (some ⟨b,0,none⟩) ([]:List Str) 0),(5,vI 0)] ?_;obtain ⟨o01,ho01,hMl⟩:=zC N;refine zAV y ([]:List Str) 0 o01 ho01 iR h h1 (fun _ _ _ h=>h) (fun _ _ h=>h) ?_;intro I02 out1 p2 c2 cs1 heq1 le2 h3;subst o01;refine zU<|sI [2] rfl<|xE<|xN 0 rfl ?_;intro I03 le3 hl0;have h7:=SL.of_frozen hl0 le3 h3;obtain rfl:=zB hMl;exact xB ⟨_,_,(.tmp rfl ResV.nil),zL,⟨_,rfl,rfl,h7⟩⟩
def zB4 (r:zN):KT:=fun kk I' hs' v=>
  ∃ v0,hs'=[]∧v=tupV [v0]∧(∃ cs,v0=.agg ⟨cs⟩∧Rp.rep I' cs r)
def tR (w0:(List Str)) (i:Int) (Name:Str) (Dims:List Int):Option ((Str×List Int)):=do
 let t15←(do
   if (decide (i < (w0.length:Int))) then
    pure (decide (i ≤ 4))
   else
    pure false
     : Option Bool)
 if t15 then
  if (i == 1) then
   let x←idx w0 1
   tR w0 (W (i + 1)) x Dims
  else
   let x1←idx w0 i
   let (y1,y2)←nH x1
   let l←app 8 Dims ([y1]:List Int)
   tR w0 (W (i + 1)) Name l
 else
  pure (Name,Dims)
 partial_fixpoint
theorem zAo (w0:(List Str)):∀ (i:Int) (Name:Str) (Dims:List Int) (o:(Str×List Int)),tR w0 i Name Dims=some o→∀ {B}{I0 I:Imm}{Q p c}{b:Nat}{b1:Nat}{p1 c1 cs},I0.le I→(S4 I p w0 c)→(RL I cs Dims)→NG Q→NO Q→(∀ (I':Imm) (Name1:Str) (Dims1:List Int) (p2:Option Addr) (c2:Nat) (cs1:List Value),o=(Name1,Dims1)→I0.le I'→(RL I' cs1 Dims1)→T 39 B Q (.exit 0) I' [hO Int (vS p2 Dims1 c2) cs1,hB b1 [vT Name1.l,vS p2 Dims1 c2],hB b [vT ([]),z0]] [(2,vP b 0),(3,vP b1 0)])→J Tryz.prog 39 B (nav (bodyOf Tryz.f200) [1,1,0,1,0]) Q I [hO Int (vS p1 Dims c1) cs,hB b1 [vT Name.l,vS p1 Dims c1],hB b [vT ([]),z0]] [(0,vS p w0 c),(2,vP b 0),(3,vP b1 0),(4,vI i)]:=by
 refine tR.partial_correctness w0 _ fun self ih i Name Dims o N B I0 I Q p c b b1 p1 c1 cs H h h2 hg ho hx=>xH hg ho<|yA<|yA ?_;refine wI N [hO Int (vS p1 Dims c1) cs,hB b1 [vT Name.l,vS p1 Dims c1],hB b [vT ([]),z0]] (fun t15=>[(0,vS p w0 c),(2,vP b 0),(3,vP b1 0),(4,vI i),(15,.bool t15)]) (fun o0 ho0=>?_) ?_
 · have H:=iS I;refine zM<|yF 5 [] [12] rfl<|xP [12] ho0 ?_ ?_
   · intro hc N;exact yL [] [15] rfl<|yM<|zR (ct N H)
   intro hc N;exact wC [] [(15,vF)]<|yM<|zR (ct N H)
 intro t15 I0 le hMc;have ⟨h,h2,H⟩:=m3 le h h2 H;refine zI<|yH hMc ?_ ?_
 · intro hc1 N;refine zT<|yE<|yN<|yA<|yO [19] rfl<|zI<|yH N ?_ ?_
   · intro hc2 N;refine yG<|yF 1 [] [20] rfl<|bE N fun x hy N=>wF rfl rfl h hy ?_;intro ad ccs hat hrep;obtain rfl:=hrep;exact xT 0 hat [vT x.l] (vT x.l) rfl<|yF 4 [] [23] rfl<|yZ 1 [vT x.l,vS p1 Dims c1] rfl<|zZ rfl<|zI<|zEe<|mZ<|zU<|zI<|zM<|yL [] [4] rfl<|xF<|mJ<|ih (W (i + 1)) x Dims _ N H h h2 hg ho hx
   intro hc2 N;refine zT<|yX<|yF 2 [] [25,26] rfl<|bE N fun x1 hy1 N=>wF rfl rfl h hy1 ?_;intro ad1 ccs1 hat1 hrep1;obtain rfl:=hrep1;refine xT 0 hat1 [vT x1.l] (vT x1.l) rfl ?_;obtain ⟨⟨y1,y2⟩,hy2,N⟩:=zC N;refine xM (dW x1 _ hy2 ) ?_;rintro I01 hs2 v2 k2 le1 - ⟨v0,v01,rfl,rfl,rfl,rfl⟩ -;have ⟨h,h2,H⟩:=m3 le1 h h2 H;refine yL [] [5] rfl<|zI<|zM<|yF 3 [1] [33,34] rfl<|qB [vI y1] Int ?_;intro b2 hb2;have h6:RL I01 [vI y1] ([y1]:List Int):=rI [y1];obtain ⟨l,hy3,N⟩:=zC N;refine nO 3 1 1 rfl rfl rfl h2 (.inr ⟨0,rfl⟩) h6 hy3 ?_;intro p3 c3 cs2 h7;exact qH (yB [1,2,3] (hs':=[hO Int (vS p3 l c3) cs2,hB b1 [vT Name.l,vS p1 Dims c1],hB b [vT ([]),z0]]))<|yF 6 [] [37] rfl<|yZ 1 [vT Name.l,vS p3 l c3] rfl<|zZ rfl<|zQ<|zI<|zM<|yL [] [4] rfl<|xF<|mJ<|ih (W (i + 1)) Name l _ N H h h7 hg ho hx
 intro hc1 N;exact tS<|yM<|hx _ _ _ _ _ _ (zB N).symm H h2
def nX (w0:(List Str)):Option (zN):=do
 let (Name1,Dims1)←tR w0 1 (⟨[]⟩:Str) ([]:List Int)
 pure (zN.mk Name1 Dims1)
theorem zCg:∀ w0 r,nX w0=some r→∀ {I:Imm}{p c},(S4 I p w0 c)→RT 200 [vS p w0 c] I [] (zB4  r):=by
 intro w0 r N I p c h;unfold nX at N;refine yI Tryz.func200 fun B=>yG<|wK [vT ([]),z0] ?_;intro b hb;refine zZ rfl<|yX<|yF 1 [] [7] rfl<|wK [vT ([]),z0] ?_;intro b1 hb1;refine yZ 0 [vT ([]),z0] rfl<|zZ rfl<|yE<|yO [4] rfl<|uV<|mH [(0,vS p w0 c),(2,vP b 0),(3,vP b1 0),(4,vI 1)]<|zDQ Int fun h1=>?_;obtain ⟨o01,ho01,hMl⟩:=zC N;refine zAo w0 1 (⟨[]⟩:Str) ([]:List Int) o01 ho01 iR h h1 (fun _ _ _ h=>h) (fun _ _ h=>h) ?_;intro I02 Name1 Dims1 p2 c2 cs1 heq1 le2 h3;subst o01;refine zU<|yX<|sH 1 [1] [(38,vA [vT Name1.l,vS p2 Dims1 c2])]<|yZ 2 [vT Name1.l,vS p2 Dims1 c2] rfl<|zZ rfl<|xE<|xN 0 rfl ?_;intro I03 le3 hl0;have h8:=SL.of_frozen hl0 le3 h3;obtain rfl:=zB hMl;exact xB ⟨_,_,(.cell 1 rfl rfl (by kernel_rfl) ResV.nil),zL,⟨_,rfl,rfl,⟨_,rfl,(nC ⟨_,rfl,h8⟩)⟩⟩⟩
def zCK (r:zG):KT:=fun kk I' hs' v=>
  ∃ v0,hs'=[]∧v=tupV [v0]∧(∃ cs,v0=.agg ⟨cs⟩∧Rp.rep I' cs r)
def mQ (line:Str):Option (zG):=do
 let y←pE line
 if ((y.length:Int) != 3) then
  pure (zG.mk ([]:List zA) ([]:List zA))
 else
  let x←idx y 1
  let y1←sF x
  let x1←idx y 2
  let y2←sF x1
  pure (zG.mk y1 y2)
theorem zD2:∀ line r,mQ line=some r→∀ {I:Imm} ,RT 201 [vT line.l] I [] (zCK  r):=by
 intro line r N I;unfold mQ at N;refine yI Tryz.func201 fun B=>?_;have H:=iS I;refine yG<|wK zTwo ?_;intro b hb;refine zZ rfl<|yX<|yF 1 [] [4] rfl<|bE N fun y hy N=>xM (eC line _ hy ) ?_;rintro I0 hs2 v2 k2 le - ⟨v0,rfl,rfl,h⟩ -;have H:=H.trans le;obtain ⟨p,c,rfl⟩:=h.form;refine yL [] [3] rfl<|yE<|yO [8] rfl<|zI<|yH N ?_ ?_
 · intro hc N;refine yG<|yF 1 [] [9] rfl<|zBD 0 zTwo [hB b zTwo] rfl rfl rfl rfl<|zZ rfl<|xE<|zH ?_;obtain rfl:=zB N;exact xB ⟨_,_,(.cell 0 rfl rfl (by kernel_rfl) ResV.nil),zL,⟨_,rfl,rfl,⟨_,rfl,(qS ⟨_,_,rfl,(SL.nil _),(SL.nil _)⟩)⟩⟩⟩
 intro hc N;refine zT<|zI<|yA ?_;obtain ⟨x,hy1,N⟩:=zC N;obtain ⟨y1,hy2,N⟩:=zC N;obtain ⟨x1,hy3,N⟩:=zC N;obtain ⟨y2,hy4,N⟩:=zC N;refine wZ [.p (vS p y c) [],.x (fun I' v hx=>∃ ad,v=.pointer (some ad)∧hx=[]∧(At I' ad [vT x.l])),.q (vT x.l),.x (eS y1),.p (vS p y c) [],.x (fun I' v hx=>∃ ad1,v=.pointer (some ad1)∧hx=[]∧(At I' ad1 [vT x1.l])),.q (vT x1.l),.x (eS y2),.x (fun I' v hx=>∃ p11 c11 p21 c21,v=vA [vS p11 y1 c11,vS p21 y2 c21]∧hx=[]∧(S4 I' p11 y1 c11)∧(S4 I' p21 y2 c21))] [[],[(0,false)],[(1,false)],[(2,false)],[],[(4,false)],[(5,false)],[(6,false)],[(3,false),(7,false)]] [hB b zTwo] [] [(8,false)] (yB [0]) ?_ ?_
 · refine Op<|Ox ?_<|Oq ?_<|Ox ?_<|Op<|Ox ?_<|Oq ?_<|Ox ?_<|Ox ?_<|On
   · intro I1 hf le1;refine yY [10] rfl ?_;have h:=h.mono le1;refine wF rfl rfl h hy1 ?_;intro ad ccs hat hrep;obtain rfl:=hrep;exact yW [] iR ⟨_,rfl,rfl,hat⟩
   · rintro I1 hf le1 _ _ ⟨ad,rfl,rfl,hat⟩;exact yY [11] rfl<|xT 0 hat [vT x.l] (vT x.l) rfl<|xC iR
   · intro I1 hf le1;refine yY [12] rfl ?_;have H:=iS I1;refine xM (mI x _ hy2 ) ?_;rintro I01 hs2 v2 k2 le1 - ⟨v01,rfl,rfl,h1⟩ -;have H:=H.trans le1;obtain ⟨p1,c1,rfl⟩:=h1.form;exact yW [] H ⟨_,_,rfl,rfl,h1⟩
   · intro I1 hf le1;refine yY [14] rfl ?_;have h:=h.mono le1;refine wF rfl rfl h hy3 ?_;intro ad1 ccs1 hat1 hrep1;obtain rfl:=hrep1;exact yW [] iR ⟨_,rfl,rfl,hat1⟩
   · rintro I1 hf le1 _ _ ⟨ad1,rfl,rfl,hat1⟩;exact yY [15] rfl<|xT 0 hat1 [vT x1.l] (vT x1.l) rfl<|xC iR
   · intro I1 hf le1;refine yY [16] rfl ?_;have H:=iS I1;refine xM (mI x1 _ hy4 ) ?_;rintro I02 hs2 v2 k2 le2 - ⟨v02,rfl,rfl,h2⟩ -;have H:=H.trans le2;obtain ⟨p2,c2,rfl⟩:=h2.form;exact yW [] H ⟨_,_,rfl,rfl,h2⟩
   rintro I1 hf le1 _ _ ⟨p1,c1,rfl,rfl,h1⟩ _ _ ⟨p2,c2,rfl,rfl,h2⟩;exact yY [13,17] rfl<|qE 9 [(18,vA [vS p1 y1 c1,vS p2 y2 c2])]<|yW [] iR ⟨_,_,_,_,rfl,rfl,h1,h2⟩
 rintro I03 le3 _ _ ⟨p11,c11,p21,c21,rfl,rfl,h11,h21⟩;refine yY [2,18] rfl ?_;refine yZ 0 [vS p11 y1 c11,vS p21 y2 c21] rfl<|zZ rfl<|zI<|yS ?_;obtain rfl:=zB N;exact xB ⟨_,_,(.cell 0 rfl rfl (by kernel_rfl) ResV.nil),zL,⟨_,rfl,rfl,⟨_,rfl,(qS ⟨_,_,rfl,h11,h21⟩)⟩⟩⟩
def zCL (r:zO):KT:=fun kk I' hs' v=>
  ∃ (a0:Option Addr) (c0:Nat) (s0:List Value) (a1:Option Addr) (c1:Nat) (s1:List Value) (raws:List Raw2) (vN vB:Value) (nl:List zG) (bl:List zK) (csN csB:List Value),
    hs'=[hO zN (vS a0 r.Arrays c0) s0,hO Raw2 (vS a1 raws c1) s1,hO zG vN csN,hO zK vB csB]∧v=tupV [vA [vS a0 r.Arrays c0,vS a1 raws c1]]∧L4 I' s0 r.Arrays s1 raws r.Parts vN nl vB bl csN csB
def mR (p:zO) (line:Str):Option (zO):=do
 let y←pE line
 let t17←(do
   if (decide ((y.length:Int) > 0)) then
    let x←idx y 0
    pure (x.l == ([97,114,114,97,121]:List UInt8))
   else
    pure false
     : Option Bool)
 if t17 then
  let y1←nX y
  let l←app 40 p.Arrays ([y1]:List zN)
  pure (zO.mk l p.Parts)
 else
  if (line.l == ([112,97,114,116]:List UInt8)) then
   let l1←app 48 p.Parts ([(zS.mk ([]:List zG) ([]:List zK))]:List zS)
   pure (zO.mk p.Arrays l1)
  else
   let t43←(do
     if (decide ((W ((p.Parts.length:Int) - 1)) ≥ 0)) then
      if (decide ((y.length:Int) > 0)) then
       let x1←idx y 0
       pure (x1.l == ([102,111,114]:List UInt8))
      else
       pure false
     else
      pure false
       : Option Bool)
   if t43 then
    let x2←idx p.Parts (W ((p.Parts.length:Int) - 1))
    let y2←mQ line
    let l2←app 48 x2.Nest ([y2]:List zG)
    pure (zO.mk p.Arrays (p.Parts.set (W ((p.Parts.length:Int) - 1)).toNat (zS.mk l2 x2.Body)))
   else
    if (decide ((W ((p.Parts.length:Int) - 1)) ≥ 0)) then
     let x4←idx p.Parts (W ((p.Parts.length:Int) - 1))
     let (y4,y5)←qN line
     let l3←app 152 x4.Body ([y4]:List zK)
     pure (zO.mk p.Arrays (p.Parts.set (W ((p.Parts.length:Int) - 1)).toNat (zS.mk x4.Nest l3)))
    else
     pure (id p)
theorem zD3:∀ p line r,mR p line=some r→∀ {I:Imm}{p1 c cs p2 c1 cs1}{raws:List Raw2}{vN vB:Value}{nl:List zG}{bl:List zK}{csN csB:List Value},
    L4 I cs p.Arrays cs1 raws p.Parts vN nl vB bl csN csB→RT 158 [vA [vS p1 p.Arrays c,vS p2 raws c1],vT line.l] I [hO zN (vS p1 p.Arrays c) cs,hO Raw2 (vS p2 raws c1) cs1,hO zG vN csN,hO zK vB csB] (zCL r):=by
 intro p line r N I p1 c cs p2 c1 cs1 raws vN vB nl bl csN csB hQ
 unfold mR at N
 simp only [hQ.lp.len] at N
 refine yI Tryz.func158 fun B=>yG<|uG [vS p1 p.Arrays c,vS p2 raws c1] ?_
 intro b hb
 refine wK zTwo ?_
 intro b1 hb1
 refine zZ rfl<|yX<|yF 1 [] [11] rfl ?_
 obtain ⟨y,hy,N⟩:=zC N
 refine xM (eC line _ hy ) ?_
 rintro I0 hs2 v2 k2 le - ⟨v0,rfl,rfl,h2⟩ -
 have hQ:=hQ.mono le
 obtain ⟨p3,c2,rfl⟩:=h2.form
 refine yL [] [5] rfl<|yX<|yL [1] [6] rfl<|yE<|yN<|yA ?_
 obtain ⟨o0,ho0,N⟩:=zC N
 refine oH (K1 o0 I0 [hB b1 zTwo,hB b [vS p1 p.Arrays c,vS p2 raws c1],hO zN (vS p1 p.Arrays c) cs,hO Raw2 (vS p2 raws c1) cs1,hO zG vN csN,hO zK vB csB] fun t17=>[(1,vT line.l),(2,vP b 0),(4,vP b1 0),(5,vS p3 y c2),(6,vI (W ((raws.length:Int) - 1))),(17,.bool t17)]) ?_ ?_
 · refine zM<|yF 4 [] [21] rfl ?_
   cases hc:(decide ((y.length:Int) > 0)) with
   | true =>
    have hM0:=vC hc ho0
    refine yF 5 [] [22] rfl ?_
    obtain ⟨x,hy1,N⟩:=zC hM0
    refine wF rfl rfl h2 hy1 ?_
    intro ad ccs hat hrep
    obtain rfl:=hrep
    exact xT 0 hat [vT x.l] (vT x.l) rfl<|yL [] [17] rfl<|yM<|zR ⟨_,(zB N).symm,Imm.le.refl _,rfl,rfl⟩
   | false =>
    have hM01:=wP hc ho0
    exact wC [] [(17,vF)]<|yM<|zR ⟨_,(zB hM01).symm,Imm.le.refl _,rfl,rfl⟩
 rintro I01 hs2 m2 ⟨t17,heq,le1,rfl,rfl⟩
 subst o0
 have h2:=h2.mono le1
 have hQ:=hQ.mono le1
 refine zI<|yH N ?_ ?_
 · intro hc1 N
   obtain ⟨y1,hy2,N⟩:=zC N
   obtain ⟨l,hy3,N⟩:=zC N
   refine wZ [.p (vP b 0) [],.p (vS p1 p.Arrays c) [1],.p (vS p3 y c2) [],.x (eVArr y1),.x (fun I' v hx=>∃ b2,v=vS (some ⟨b2,0,none⟩) ([y1]:List zN) 1∧hx=[]∧(SL I' (vS (some ⟨b2,0,none⟩) ([y1]:List zN) 1) ([y1]:List zN))),.x (fun I' v hx=>∃ p5 c4 cs3,v=vS p5 l c4∧hx=[hO zN (vS p5 l c4) cs3]∧(RL I' cs3 l))] [[],[(0,false)],[],[(2,false)],[(3,false)],[(1,false),(4,false),(8,true)]] [hB b1 zTwo,hB b [vS p1 p.Arrays c,vS p2 raws c1],hO Raw2 (vS p2 raws c1) cs1,hO zG vN csN,hO zK vB csB] [[hO zN (vS p1 p.Arrays c) cs]] [(5,true)] (yB [0,1,3,4,5,2]) ?_ ?_
   · refine Op<|Op<|Op<|Ox ?_<|Ox ?_<|Ox ?_<|On
     · intro I1 hf le1
       refine yY [29] rfl<|xM (zCg y _ hy2 (h2.mono le1)) ?_
       rintro I02 hs2 v2 k2 le2 - ⟨v01,rfl,rfl,⟨cs2,rfl,h3⟩⟩ -
       obtain ⟨v02,rfl,h4⟩:=eQ h3
       obtain ⟨p4,c3,rfl⟩:=h4.form
       exact yW [] le2 ⟨_,_,rfl,rfl,h4⟩
     · intro I1 hf le1
       refine qR ?_
       rintro _ _ ⟨p4,c3,rfl,rfl,h4⟩
       refine yY [30] rfl<|qB (cArr y1 p4 c3) zN ?_
       intro b2 hb2
       have h5:RL I1 (cArr y1 p4 c3) ([y1]:List zN):=⟨(cArr y1 p4 c3),_,rfl,rfl,(nC ⟨_,rfl,h4⟩),rfl⟩
       refine vZ 0 rfl ?_
       intro I03 le3 hl0
       exact yW [] le3 ⟨_,rfl,rfl,SL.of_frozen hl0 le3 h5⟩
     intro I1 hf le1
     refine qR ?_
     rintro _ _ ⟨rfl,rfl⟩
     refine qR ?_
     rintro _ _ ⟨b2,rfl,rfl,h6⟩
     refine qR ?_
     rintro _ _ rfl
     refine yY [28,31] rfl ?_
     obtain ⟨ccs1,k0,k01⟩:=h6
     refine nO 147 2 0 rfl rfl rfl (hQ.mono le1).arr (.inl k0) k01 hy3 ?_
     intro p5 c4 cs3 h7
     exact qI (hs':=(hO zN (vS p5 l c4) cs3::(hB b1 zTwo::hB b [vS p1 p.Arrays c,vS p2 raws c1]::hO Raw2 (vS p2 raws c1) cs1::hO zG vN csN::hO zK vB csB::hf))) rfl<|yW [hO zN (vS p5 l c4) cs3] iR ⟨_,_,_,rfl,rfl,h7⟩
   intro I04 le4
   refine qR ?_
   rintro _ _ ⟨p5,c4,cs3,rfl,rfl,h7⟩
   refine yY [2,4,32] rfl ?_
   have hQ:=hQ.mono le4
   refine yF 7 [] [33] rfl<|yZ 2 [vS p5 l c4,vS p2 raws c1] rfl<|zZ rfl<|zQ<|yX<|sH 1 [2] [(98,vA [vS p5 l c4,vS p2 raws c1])]<|yZ 1 [vS p5 l c4,vS p2 raws c1] rfl<|zZ rfl<|zI<|yS ?_
   obtain rfl:=zB N
   exact xB ⟨_,_,(.cell 1 rfl rfl (by kernel_rfl) ResV.nil),(zX [0,3,4,5] rfl (by decide)),⟨_,_,_,_,_,_,_,_,_,_,_,_,_,rfl,rfl,⟨h7,hQ.raw,hQ.lp,hQ.n,hQ.b⟩⟩⟩
 intro hc1 N
 refine yO [34] rfl<|zI<|yH N ?_ ?_
 · intro hc2 N
   refine mK 4 rfl ?_
   intro I05 le5 hl5
   have kN:=SL.of_frozen hl5 le5 hQ.n
   have hQ:=hQ.mono le5
   refine mK 4 rfl ?_
   intro I06 le6 hl6
   have kB:=SL.of_frozen hl6 le6 hQ.b
   replace kN:=kN.mono le6
   have hQ:=hQ.mono le6
   obtain ⟨l1,hy4,N⟩:=zC N
   have hy5:=zIK (l':=raws) (m':=[(⟨z0,z0⟩:Raw2)]) hy4 hQ.lp.2.1 rfl
   have hLP:=hQ.lp.part kN kB hy4
   refine zM<|qI (hs':=[hB b1 zTwo,hB b [vS p1 p.Arrays c,vS p2 raws c1],hO zN (vS p1 p.Arrays c) cs,hO Raw2 (vS p2 raws c1) cs1]) rfl<|sH 3 [1] [(38,vS p2 raws c1),(39,vA zTwo)]<|qB zTwo Raw2 ?_
   intro b3 hb3
   have h8:RL I06 zTwo [(⟨z0,z0⟩:Raw2)]:=⟨zTwo,[],rfl,rfl,⟨rfl,rfl,rfl⟩,rfl⟩
   refine nO 36 2 4 rfl rfl rfl hQ.raw (.inr ⟨0,rfl⟩) h8 hy5 ?_
   intro p6 c5 cs4 h9
   refine qH (yB [1,2,3,4] (hs':=[hB b1 zTwo,hB b [vS p1 p.Arrays c,vS p2 raws c1],hO zN (vS p1 p.Arrays c) cs,hO Raw2 (vS p6 (raws ++ [(⟨z0,z0⟩:Raw2)]) c5) cs4]))<|yF 6 [] [42] rfl<|yZ 1 [vS p1 p.Arrays c,vS p6 (raws ++ [(⟨z0,z0⟩:Raw2)]) c5] rfl<|zZ rfl<|zQ<|yX<|sH 1 [1] [(98,vA [vS p1 p.Arrays c,vS p6 (raws ++ [(⟨z0,z0⟩:Raw2)]) c5])]<|yZ 0 [vS p1 p.Arrays c,vS p6 (raws ++ [(⟨z0,z0⟩:Raw2)]) c5] rfl<|zZ rfl<|xE<|xQ (jE (Rp.sz zK))<|xQ (jE (Rp.sz zG)) ?_
   obtain rfl:=zB N
   exact xB ⟨_,_,(.cell 2 rfl rfl (by kernel_rfl) ResV.nil),(zX [4,5,0,1] rfl (by decide)),⟨_,_,_,_,_,_,_,_,_,_,_,_,_,rfl,rfl,⟨hQ.arr,h9,hLP,RepL.nil,RepL.nil⟩⟩⟩
 intro hc2 N
 refine yA ?_
 obtain ⟨o01,ho01,N⟩:=zC N
 refine oH (K1 o01 I01 [hB b1 zTwo,hB b [vS p1 p.Arrays c,vS p2 raws c1],hO zN (vS p1 p.Arrays c) cs,hO Raw2 (vS p2 raws c1) cs1,hO zG vN csN,hO zK vB csB] fun t43=>[(1,vT line.l),(2,vP b 0),(4,vP b1 0),(6,vI (W ((raws.length:Int) - 1))),(43,.bool t43)]) ?_ ?_
 · refine zM<|yF 3 [] [46] rfl ?_
   cases hc3:(decide ((W ((raws.length:Int) - 1)) ≥ 0)) with
   | true =>
    have hM02:=vC hc3 ho01
    refine yF 8 [] [51] rfl ?_
    cases hc4:(decide ((y.length:Int) > 0)) with
    | true =>
     have hM03:=vC hc4 hM02
     refine yF 9 [] [52] rfl ?_
     obtain ⟨x1,hy5,N⟩:=zC hM03
     refine wF rfl rfl h2 hy5 ?_
     intro ad1 ccs2 hat1 hrep1
     obtain rfl:=hrep1
     exact xT 0 hat1 [vT x1.l] (vT x1.l) rfl<|yL [] [43] rfl<|yM<|zR ⟨_,(zB N).symm,Imm.le.refl _,rfl,rfl⟩
    | false =>
     have hM04:=wP hc4 hM02
     exact wC [] [(43,vF)]<|yM<|zR ⟨_,(zB hM04).symm,Imm.le.refl _,rfl,rfl⟩
   | false =>
    have hM05:=wP hc3 ho01
    exact wC [] [(43,vF)]<|yM<|zR ⟨_,(zB hM05).symm,Imm.le.refl _,rfl,rfl⟩
 rintro I05 hs2 m2 ⟨t43,heq1,le5,rfl,rfl⟩
 subst o01
 have hQ:=hQ.mono le5
 refine zI<|yH N ?_ ?_
 · intro hc5 N
   refine yG<|yF 3 [1] [58,59] rfl ?_
   obtain ⟨x2,hy6,N⟩:=zC N
   obtain ⟨rfl,hyr,hset⟩:=hQ.lp.last hy6
   refine fP 3 rfl rfl rfl hQ.raw hyr ?_
   intro ad2 ccs3 hat2 hcc hrep2
   obtain ⟨rfl,o1,o2⟩:=hrep2
   refine zGf 3 0 hat2 hcc [vN,vB] (vA [vN,vB]) rfl rfl<|wK zTwo ?_
   intro b4 hb4
   refine zI3 0 [vN,vB] (hB b4 [vN,vB]::[hB b1 zTwo,hB b [vS p1 p.Arrays c,vS p2 raws c1],hO zN (vS p1 p.Arrays c) cs,hO Raw2 (vS p2 raws c1) cs1,hO zG vN csN,hO zK vB csB]) rfl rfl rfl rfl (by simp [Value.cells,o1,o2])<|zZ rfl<|zI<|yA ?_
   obtain ⟨y2,hy7,N⟩:=zC N
   obtain ⟨l2,hy8,N⟩:=zC N
   refine wZ [.p (vP b4 0) [],.p vN [0],.p (vT line.l) [],.x (eVLoop y2),.x (fun I' v hx=>∃ b5,v=vS (some ⟨b5,0,none⟩) ([y2]:List zG) 1∧hx=[]∧(SL I' (vS (some ⟨b5,0,none⟩) ([y2]:List zG) 1) ([y2]:List zG))),.x (fun I' v hx=>∃ p11 c10 cs3,v=vS p11 l2 c10∧hx=[hO zG (vS p11 l2 c10) cs3]∧(RL I' cs3 l2))] [[],[(0,false)],[],[(2,false)],[(3,false)],[(1,false),(4,false),(8,true)]] [hB b4 [vN,vB],hB b1 zTwo,hB b [vS p1 p.Arrays c,vS p2 raws c1],hO zN (vS p1 p.Arrays c) cs,hO Raw2 (vS p2 raws c1) cs1,hO zK vB csB] [[hO zG vN csN]] [(5,true)] (yB [0,1,2,3,4,6,5]) ?_ ?_
   · refine Op<|Op<|Op<|Ox ?_<|Ox ?_<|Ox ?_<|On
     · intro I1 hf le1
       refine yY [64] rfl<|xM (zD2 line _ hy7 ) ?_
       rintro I06 hs2 v2 k2 le6 - ⟨v05,rfl,rfl,⟨cs5,rfl,h12⟩⟩ -
       obtain ⟨v06,v07,rfl,h13,h14⟩:=dK h12
       obtain ⟨p9,c8,rfl⟩:=h13.form
       obtain ⟨p10,c9,rfl⟩:=h14.form
       exact yW [] le6 ⟨_,_,_,_,rfl,rfl,h13,h14⟩
     · intro I1 hf le1
       refine qR ?_
       rintro _ _ ⟨p9,c8,p10,c9,rfl,rfl,h13,h14⟩
       refine yY [65] rfl<|qB (cLoop y2 p9 c8 p10 c9) zG ?_
       intro b5 hb5
       have h15:RL I1 (cLoop y2 p9 c8 p10 c9) ([y2]:List zG):=⟨(cLoop y2 p9 c8 p10 c9),_,rfl,rfl,(qS ⟨_,_,rfl,h13,h14⟩),rfl⟩
       refine vZ 0 rfl ?_
       intro I07 le7 hl01
       exact yW [] le7 ⟨_,rfl,rfl,SL.of_frozen hl01 le7 h15⟩
     intro I1 hf le1
     refine qR ?_
     rintro u _ ⟨hu,rfl⟩
     have hu:=hu.symm
     subst hu
     refine qR ?_
     rintro _ _ ⟨b5,rfl,rfl,h16⟩
     refine qR ?_
     rintro _ _ rfl
     refine yY [63,66] rfl ?_
     obtain ⟨ccs4,k0,k01⟩:=h16
     refine nO 187 2 0 rfl rfl rfl (hQ.mono le1).n (.inl k0) k01 hy8 ?_
     intro p11 c10 cs3 h17
     exact qI (hs':=(hO zG (vS p11 l2 c10) cs3::(hB b4 [vN,vB]::hB b1 zTwo::hB b [vS p1 p.Arrays c,vS p2 raws c1]::hO zN (vS p1 p.Arrays c) cs::hO Raw2 (vS p2 raws c1) cs1::hO zK vB csB::hf))) rfl<|yW [hO zG (vS p11 l2 c10) cs3] iR ⟨_,_,_,rfl,rfl,h17⟩
   intro I08 le8
   refine qR ?_
   rintro _ _ ⟨p11,c10,cs3,rfl,rfl,h17⟩
   refine yY [2,4,6,7,67] rfl ?_
   have hQ:=hQ.mono le8
   refine yF 7 [] [68] rfl<|yZ 1 [vS p11 l2 c10,vB] rfl<|zZ rfl<|zI<|zM<|sH 4 [3,1] [(70,vS p2 raws c1),(71,vI (W ((raws.length:Int) - 1))),(72,vA [vS p11 l2 c10,vB])]<|fP 5 rfl rfl rfl hQ.raw hyr ?_
   intro ad3 ccs5 hat3 hcc1 hrep3
   obtain ⟨rfl,-⟩:=hrep3
   refine mV (α:=Raw2) (c:=[vS p11 l2 c10,vB]) (x':=⟨vS p11 l2 c10,vB⟩) 5 0 rfl rfl rfl hat3 rfl rfl hcc1 (by kernel_rfl) (by kernel_rfl) (by simp [Value.cells,o2]; rfl) hQ.raw hyr (by kernel_rfl) ⟨rfl,rfl,o2⟩ ?_
   intro cs6 h19 hl02
   refine qI (hs':=[hO zG (vS p11 l2 c10) cs3,hB b4 [vS p11 l2 c10,vB],hB b1 zTwo,hB b [vS p1 p.Arrays c,vS p2 raws c1],hO zN (vS p1 p.Arrays c) cs,hO Raw2 (vS p2 raws c1) cs6,hO zK vB csB]) rfl<|zZ rfl<|zQ<|yX<|sH 1 [3] [(98,vA [vS p1 p.Arrays c,vS p2 raws c1])]<|yZ 2 [vS p1 p.Arrays c,vS p2 raws c1] rfl<|zZ rfl<|zI<|yS ?_
   obtain rfl:=zB N
   exact xB ⟨[vA [vS p1 p.Arrays c,vS p2 raws c1]],_,(.cell 2 rfl rfl (by kernel_rfl) ResV.nil),(zX [4,5,0,6] rfl (by decide)),⟨p1,c,cs,p2,c1,cs6,raws.set (W ((raws.length:Int) - 1)).toNat ⟨vS p11 l2 c10,vB⟩,vS p11 l2 c10,vB,l2,bl,cs3,csB,(by simp only [vS,hl02]),(by simp only [vS,hl02]),⟨hQ.arr,h19,(hset _ _ _ _).mono le8,h17,hQ.b⟩⟩⟩
 intro hc5 N
 refine yO [74] rfl<|zI<|yH N ?_ ?_
 · intro hc6 N
   refine yG<|yF 3 [1] [78,79] rfl ?_
   obtain ⟨x4,hy10,N⟩:=zC N
   obtain ⟨rfl,hyr,hset⟩:=hQ.lp.last hy10
   refine fP 3 rfl rfl rfl hQ.raw hyr ?_
   intro ad4 ccs5 hat4 hcc2 hrep4
   obtain ⟨rfl,o1,o2⟩:=hrep4
   refine zGf 3 0 hat4 hcc2 [vN,vB] (vA [vN,vB]) rfl rfl<|wK zTwo ?_
   intro b6 hb6
   refine zI3 0 [vN,vB] (hB b6 [vN,vB]::[hB b1 zTwo,hB b [vS p1 p.Arrays c,vS p2 raws c1],hO zN (vS p1 p.Arrays c) cs,hO Raw2 (vS p2 raws c1) cs1,hO zG vN csN,hO zK vB csB]) rfl rfl rfl rfl (by simp [Value.cells,o1,o2])<|zZ rfl<|yX<|sH 1 [] [(83,vT line.l)] ?_
   obtain ⟨⟨y4,y5⟩,hy11,N⟩:=zC N
   refine xM (gZ line _ hy11 ) ?_
   rintro I09 hs2 v2 k2 le9 - ⟨v012,v013,rfl,rfl,⟨cs7,rfl,h22⟩,rfl⟩ -
   have hQ:=hQ.mono le9
   obtain ⟨v014,v015,v016,v017,rfl,h24,h25,h26,h27⟩:=dL h22
   obtain ⟨p15,c14,rfl⟩:=h24.form
   obtain ⟨p16,c15,rfl⟩:=h25.form
   obtain ⟨p17,c16,rfl⟩:=h26.form
   obtain ⟨p18,c17,rfl⟩:=h27.form
   refine yF 5 [] [85,86] rfl<|wK [vT ([]),z0,vI 0,vI 0,z0,vI 0,vT ([]),z0,z0] ?_
   intro b7 hb7
   refine zBD 0 (cStmt y4 p15 c14 p16 c15 p17 c16 p18 c17) (hB b7 (cStmt y4 p15 c14 p16 c15 p17 c16 p18 c17)::hB b6 [vN,vB]::[hB b1 zTwo,hB b [vS p1 p.Arrays c,vS p2 raws c1],hO zN (vS p1 p.Arrays c) cs,hO Raw2 (vS p2 raws c1) cs1,hO zG vN csN,hO zK vB csB]) rfl rfl rfl rfl<|wC [] []<|yX<|sH 3 [1,0] [(88,vB),(89,vA (cStmt y4 p15 c14 p16 c15 p17 c16 p18 c17))]<|qB (cStmt y4 p15 c14 p16 c15 p17 c16 p18 c17) zK ?_
   intro b8 hb8
   have h28:RL I09 (cStmt y4 p15 c14 p16 c15 p17 c16 p18 c17) ([y4]:List zK):=⟨(cStmt y4 p15 c14 p16 c15 p17 c16 p18 c17),_,rfl,rfl,(xU ⟨_,_,_,_,rfl,h24,h25,h26,h27⟩),rfl⟩
   obtain ⟨l3,hy12,N⟩:=zC N
   refine nO 48 9 8 rfl rfl rfl hQ.b (.inr ⟨0,rfl⟩) h28 hy12 ?_
   intro p19 c18 cs9 h29
   refine qH (yB [2,3,4,5,6,7,8] (hs':=[hB b6 [vN,vB],hB b1 zTwo,hB b [vS p1 p.Arrays c,vS p2 raws c1],hO zN (vS p1 p.Arrays c) cs,hO Raw2 (vS p2 raws c1) cs1,hO zG vN csN,hO zK (vS p19 l3 c18) cs9]))<|yF 6 [] [92] rfl<|yZ 0 [vN,vS p19 l3 c18] rfl<|zZ rfl<|zI<|zM<|sH 4 [2,0] [(94,vS p2 raws c1),(95,vI (W ((raws.length:Int) - 1))),(96,vA [vN,vS p19 l3 c18])]<|fP 4 rfl rfl rfl hQ.raw hyr ?_
   intro ad5 ccs6 hat5 hcc3 hrep5
   obtain ⟨rfl,-⟩:=hrep5
   refine mV (α:=Raw2) (c:=[vN,vS p19 l3 c18]) (x':=⟨vN,vS p19 l3 c18⟩) 4 0 rfl rfl rfl hat5 rfl rfl hcc3 (by kernel_rfl) (by kernel_rfl) (by simp [Value.cells,o1]; rfl) hQ.raw hyr (by kernel_rfl) ⟨rfl,o1,rfl⟩ ?_
   intro cs8 h31 hl03
   refine qI (hs':=[hB b6 [vN,vS p19 l3 c18],hB b1 zTwo,hB b [vS p1 p.Arrays c,vS p2 raws c1],hO zN (vS p1 p.Arrays c) cs,hO Raw2 (vS p2 raws c1) cs8,hO zG vN csN,hO zK (vS p19 l3 c18) cs9]) rfl<|zZ rfl<|zQ<|yX<|sH 1 [2] [(98,vA [vS p1 p.Arrays c,vS p2 raws c1])]<|yZ 1 [vS p1 p.Arrays c,vS p2 raws c1] rfl<|zZ rfl<|zI<|yS ?_
   obtain rfl:=zB N
   exact xB ⟨[vA [vS p1 p.Arrays c,vS p2 raws c1]],_,(.cell 1 rfl rfl (by kernel_rfl) ResV.nil),(zX [3,4,5,6] rfl (by decide)),⟨p1,c,cs,p2,c1,cs8,raws.set (W ((raws.length:Int) - 1)).toNat ⟨vN,vS p19 l3 c18⟩,vN,vS p19 l3 c18,nl,l3,csN,cs9,(by simp only [vS,hl03]),(by simp only [vS,hl03]),⟨hQ.arr,h31,(hset _ _ _ _).mono le9,hQ.n,h29⟩⟩⟩
 intro hc6 N
 refine zT<|zQ<|yX<|sH 1 [1] [(98,vA [vS p1 p.Arrays c,vS p2 raws c1])]<|yZ 0 [vS p1 p.Arrays c,vS p2 raws c1] rfl<|zZ rfl<|zI<|yS ?_
 obtain rfl:=zB N
 exact xB ⟨_,_,(.cell 0 rfl rfl (by kernel_rfl) ResV.nil),(zX [2,3,4,5] rfl (by decide)),⟨_,_,_,_,_,_,_,_,_,_,_,_,_,rfl,rfl,hQ⟩⟩
def rQ (nest:(List zG)) (out:Str) (i:Int):Option (Str):=do
 if (decide (i < (nest.length:Int))) then
  let s←cat out (⟨[102,111,114,32]⟩:Str)
  let x←idx nest i
  let y←sS x.Lo
  let s1←cat s y
  let s2←cat s1 (⟨[32]⟩:Str)
  let x1←idx nest i
  let y1←sS x1.Hi
  let s3←cat s2 y1
  let s4←cat s3 (⟨[10]⟩:Str)
  rQ nest s4 (W (i + 1))
 else
  pure (id out)
 partial_fixpoint
theorem zB5 (nest:(List zG)):∀ (out:Str) (i:Int) (o:Str),rQ nest out i=some o→∀ {B}{I0 I:Imm}{Q p c},I0.le I→(S4 I p nest c)→NG Q→NO Q→(∀ (I':Imm) (out1:Str),o=out1→I0.le I'→T 30 B Q (.exit 0) I' [] [(3,vT out1.l)])→J Tryz.prog 30 B (nav (bodyOf Tryz.f203) [1,1,0,1,0]) Q I [] [(0,vS p nest c),(3,vT out.l),(4,vI i)]:=by
 refine rQ.partial_correctness nest _ fun self ih out i o N B I0 I Q p c H h hg ho hx=>xH hg ho<|yA<|yO [8] rfl<|zI<|yH N ?_ ?_
 · intro hc N;refine zT<|yE<|yN ?_;obtain ⟨s,hy,N⟩:=zC N;obtain ⟨x,hy1,N⟩:=zC N;obtain ⟨y,hy2,N⟩:=zC N;obtain ⟨s1,hy3,N⟩:=zC N;obtain ⟨s2,hy4,N⟩:=zC N;obtain ⟨x1,hy5,N⟩:=zC N;obtain ⟨y1,hy6,N⟩:=zC N;obtain ⟨s3,hy7,N⟩:=zC N;obtain ⟨s4,hy8,N⟩:=zC N;refine wZ [.p (vT out.l) [],.q (vT s.l),.p (vS p nest c) [],.p (vI i) [],.x (ePLoop x),.x (ePLoop x),.x (eS x.Lo),.q (vT y.l),.q (vT s1.l),.q (vT s2.l),.p (vS p nest c) [],.p (vI i) [],.x (ePLoop x1),.x (eQLoop 1 x1),.x (eS x1.Hi),.q (vT y1.l),.q (vT s3.l),.q (vT s4.l)] [[],[(0,false)],[],[],[(2,false),(3,false)],[(4,false)],[(5,false)],[(6,false)],[(1,false),(7,false)],[(8,false)],[],[],[(10,false),(11,false)],[(12,false)],[(13,false)],[(14,false)],[(9,false),(15,false)],[(16,false)]] [] [] [(17,false)] zL ?_ ?_
   · refine Op<|Oq ?_<|Op<|Op<|Ox ?_<|Ox ?_<|Ox ?_<|Oq ?_<|Oq ?_<|Oq ?_<|Op<|Op<|Ox ?_<|Ox ?_<|Ox ?_<|Oq ?_<|Oq ?_<|Oq ?_<|On
     · intro I1 hf le1;exact yY [11] rfl<|oI rfl hy<|xC iR
     · intro I1 hf le1;refine yY [13,14] rfl ?_;have h:=h.mono le1;refine wF rfl rfl h hy1 ?_;intro ad ccs hat hrep;obtain ⟨p1,c1,p2,c2,rfl,h1,h2⟩:=oW hrep;exact yW [] iR ⟨_,_,_,_,_,rfl,rfl,hat,h1,h2⟩
     · rintro I1 hf le1 _ _ ⟨ad,p1,c1,p2,c2,rfl,rfl,hat,h1,h2⟩;exact yY [15] rfl<|qE 6 [(16,.pointer (some ad))]<|yW [] iR ⟨_,_,_,_,_,rfl,rfl,hat,h1,h2⟩
     · rintro I1 hf le1 _ _ ⟨ad1,p11,c11,p21,c21,rfl,rfl,hat1,h11,h21⟩;exact yY [16] rfl<|xT 0 hat1 [vS p11 x.Lo c11] (vS p11 x.Lo c11) rfl<|yW [] iR ⟨_,_,rfl,rfl,h11⟩
     · rintro I1 hf le1 _ _ ⟨p111,c111,rfl,rfl,h111⟩;refine yY [17] rfl ?_;have H:=iS I1;refine xM (mW x.Lo _ hy2 h111) ?_;rintro I0 hs2 v2 k2 le - ⟨v02,rfl,rfl,rfl⟩ -;have H:=H.trans le;exact xC H
     · intro I1 hf le1;exact yY [12,18] rfl<|oI rfl hy3<|xC iR
     · intro I1 hf le1;exact yY [19] rfl<|oI rfl hy4<|xC iR
     · intro I1 hf le1;refine yY [21,22] rfl ?_;have h:=h.mono le1;refine wF rfl rfl h hy5 ?_;intro ad2 ccs1 hat2 hrep1;obtain ⟨p3,c3,p4,c4,rfl,h4,h5⟩:=oW hrep1;exact yW [] iR ⟨_,_,_,_,_,rfl,rfl,hat2,h4,h5⟩
     · rintro I1 hf le1 _ _ ⟨ad2,p3,c3,p4,c4,rfl,rfl,hat2,h4,h5⟩;exact yY [23] rfl<|qE 14 [(24,.pointer (some (ad2.add 1)))]<|yW [] iR ⟨_,_,_,_,_,rfl,rfl,hat2,h4,h5⟩
     · rintro I1 hf le1 _ _ ⟨ad21,p31,c31,p41,c41,rfl,rfl,hat21,h41,h51⟩;exact yY [24] rfl<|xT 1 hat21 [vS p41 x1.Hi c41] (vS p41 x1.Hi c41) rfl<|yW [] iR ⟨_,_,rfl,rfl,h51⟩
     · rintro I1 hf le1 _ _ ⟨p411,c411,rfl,rfl,h511⟩;refine yY [25] rfl ?_;have H:=iS I1;refine xM (mW x1.Hi _ hy6 h511) ?_;rintro I01 hs2 v2 k2 le1 - ⟨v05,rfl,rfl,rfl⟩ -;have H:=H.trans le1;exact xC H
     · intro I1 hf le1;exact yY [20,26] rfl<|oI rfl hy7<|xC iR
     intro I1 hf le1;exact yY [27] rfl<|oI rfl hy8<|xC iR
   intro I02 le2;refine yY [0,4,28] rfl ?_;have ⟨h,H⟩:=m2 le2 h H;exact yL [] [3] rfl<|zQ<|zI<|zM<|yL [] [4] rfl<|xF<|mJ<|ih s4 (W (i + 1)) _ N H h hg ho hx
 intro hc N;exact tS<|yM<|hx _ _ (zB N).symm H
def mS (nest:(List zG)):Option (Str):=do
 let out1←rQ nest (⟨[]⟩:Str) 0
 pure (id out1)
theorem zD4:∀ nest r,mS nest=some r→∀ {I:Imm}{p c},(S4 I p nest c)→RT 203 [vS p nest c] I [] (uL  r):=by
 intro nest r N I p c h;unfold mS at N;refine yI Tryz.func203 fun B=>uA []<|sI [3] rfl<|yE<|yO [4] rfl<|uV<|mH [(0,vS p nest c),(3,vT ([])),(4,vI 0)] ?_;obtain ⟨o0,ho0,hMl⟩:=zC N;refine zB5 nest (⟨[]⟩:Str) 0 o0 ho0 iR h (fun _ _ _ h=>h) (fun _ _ h=>h) ?_;intro I03 out1 heq le3;subst o0;refine zU<|sI [2] rfl<|zI<|yS ?_;obtain rfl:=zB hMl;exact wM
def xX (p:zO) (i:Int) (out2:Str) (k0:Int):Option (Str):=do
 let x1←idx p.Arrays i
 if (decide (k0 < (x1.Dims.length:Int))) then
  let s2←cat out2 (⟨[32]⟩:Str)
  let x2←idx p.Arrays i
  let x3←idx x2.Dims k0
  let y1←uM x3
  let s3←cat s2 y1
  xX p i s3 (W (k0 + 1))
 else
  pure (id out2)
 partial_fixpoint
theorem fI (p:zO) (i:Int):∀ (out2:Str) (k0:Int) (o:Str),xX p i out2 k0=some o→∀ {B}{I0 I:Imm}{Q p1 c p2 c1}{b:Nat},I0.le I→(S4 I p1 p.Arrays c)→(S4 I p2 p.Parts c1)→NG Q→NO Q→(∀ (I':Imm) (out3:Str),o=out3→I0.le I'→T 103 B Q (.exit 2) I' [hB b (cProg p p1 c p2 c1)] [(1,vP b 0),(3,vT out3.l),(4,vI i)])→J Tryz.prog 103 B (nav (bodyOf Tryz.f159) [1,1,1,0,1,0,0,1,0,0,1,0,1,0]) Q I [hB b (cProg p p1 c p2 c1)] [(1,vP b 0),(3,vT out2.l),(4,vI i),(5,vI k0)]:=by
 refine xX.partial_correctness p i _ fun self ih out2 k0 o N B I0 I Q p1 c p2 c1 b H h h1 hg ho hx=>xH hg ho<|yA<|yG<|yF 4 [0] [28,30,31] rfl<|bE N fun x1 hy4 N=>wF rfl rfl h hy4 ?_;intro ad1 ccs1 hat1 hrep1;obtain ⟨p4,c3,rfl,h4⟩:=sK hrep1;refine yF 6 [] [33] rfl<|xT 1 hat1 [vS p4 x1.Dims c3] (vS p4 x1.Dims c3) rfl<|yL [] [36] rfl<|zI<|yH N ?_ ?_
 · intro hc2 N;refine zT<|yE<|yN<|zM<|yF 1 [] [39] rfl<|bE N fun s2 hy5 N=>oI rfl hy5<|yF 5 [0] [42,43] rfl<|bE N fun x2 hy6 N=>wF rfl rfl h hy6 ?_;intro ad2 ccs2 hat2 hrep2;obtain ⟨p5,c4,rfl,h5⟩:=sK hrep2;refine yF 7 [] [45] rfl<|xT 1 hat2 [vS p5 x2.Dims c4] (vS p5 x2.Dims c4) rfl<|yF 9 [] [47] rfl<|bE N fun x3 hy7 N=>wF rfl rfl h5 hy7 ?_;intro ad3 ccs3 hat3 hrep3;obtain rfl:=hrep3;refine xT 0 hat3 [vI x3] (vI x3) rfl<|bE N fun y1 hy8 N=>xM (kG x3 _ hy8 ) ?_;rintro I01 hs2 v2 k2 le1 - ⟨v04,rfl,rfl,rfl⟩ -;have ⟨h,h1,H⟩:=m3 le1 h h1 H;obtain ⟨s3,hy9,N⟩:=zC N;exact oI rfl hy9<|yL [] [3] rfl<|zQ<|zI<|zM<|yL [] [5] rfl<|xF<|mJ<|ih s3 (W (k0 + 1)) _ N H h h1 hg ho hx
 intro hc2 N;exact tS<|yM<|hx _ _ (zB N).symm H
def xY (p:zO) (out:Str) (i:Int):Option (Str):=do
 if (decide (i < (p.Arrays.length:Int))) then
  let s←cat out (⟨[97,114,114,97,121,32]⟩:Str)
  let x←idx p.Arrays i
  let s1←cat s x.Name
  let out3←xX p i s1 0
  let s4←cat out3 (⟨[10]⟩:Str)
  xY p s4 (W (i + 1))
 else
  pure (id out)
 partial_fixpoint
theorem fJ (p:zO):∀ (out:Str) (i:Int) (o:Str),xY p out i=some o→∀ {B}{I0 I:Imm}{Q p1 c p2 c1}{b:Nat},I0.le I→(S4 I p1 p.Arrays c)→(S4 I p2 p.Parts c1)→NG Q→NO Q→(∀ (I':Imm) (out1:Str),o=out1→I0.le I'→T 103 B Q (.exit 0) I' [hB b (cProg p p1 c p2 c1)] [(1,vP b 0),(3,vT out1.l)])→J Tryz.prog 103 B (nav (bodyOf Tryz.f159) [1,1,1,0,1,0]) Q I [hB b (cProg p p1 c p2 c1)] [(1,vP b 0),(3,vT out.l),(4,vI i)]:=by
 refine xY.partial_correctness p _ fun self ih out i o N B I0 I Q p1 c p2 c1 b H h h1 hg ho hx=>xH hg ho<|yA<|yG<|yL [0] [16] rfl<|zI<|yH N ?_ ?_
 · intro hc1 N;refine zT<|yE<|yN<|yG<|yF 1 [] [19] rfl<|bE N fun s hy1 N=>oI rfl hy1<|yF 5 [0] [22,23] rfl<|bE N fun x hy2 N=>wF rfl rfl h hy2 ?_;intro ad ccs hat hrep;obtain ⟨p3,c2,rfl,h3⟩:=sK hrep;refine yF 7 [] [25] rfl<|xT 0 hat [vT x.Name.l] (vT x.Name.l) rfl<|bE N fun s1 hy3 N=>oI rfl hy3<|yL [] [3] rfl<|yE<|yO [5] rfl<|uV<|mH [(1,vP b 0),(3,vT s1.l),(4,vI i),(5,vI 0)] ?_;obtain ⟨o0,ho0,hMl⟩:=zC N;refine fI p i s1 0 o0 ho0 iR h h1 (fun _ _ _ h=>hg _ _ _ h) (fun _ _ h=>ho _ _ h) ?_;intro I02 out3 heq le2;subst o0;have ⟨h,h1,H⟩:=m3 le2 h h1 H;refine zU<|zI<|zM<|yF 1 [] [52] rfl ?_;obtain ⟨s4,hy10,N⟩:=zC hMl;exact oI rfl hy10<|yL [] [3] rfl<|zQ<|zI<|zM<|yL [] [4] rfl<|xF<|mJ<|ih s4 (W (i + 1)) _ N H h h1 hg ho hx
 intro hc1 N;exact tS<|yM<|hx _ _ (zB N).symm H
def vO (p:zO) (i1:Int) (out6:Str) (k01:Int):Option (Str):=do
 let x5←idx p.Parts i1
 if (decide (k01 < (x5.Body.length:Int))) then
  let x6←idx p.Parts i1
  let x7←idx x6.Body k01
  let y3←tM x7.Write
  let s7←cat out6 y3
  let s8←cat s7 (⟨[61]⟩:Str)
  let y4←tX x7.Value
  let s9←cat s8 y4
  let s10←cat s9 (⟨[10]⟩:Str)
  vO p i1 s10 (W (k01 + 1))
 else
  pure (id out6)
 partial_fixpoint
theorem fK (p:zO) (i1:Int):∀ (out6:Str) (k01:Int) (o:Str),vO p i1 out6 k01=some o→∀ {B}{I0 I:Imm}{Q p1 c p2 c1}{b:Nat},I0.le I→(S4 I p1 p.Arrays c)→(S4 I p2 p.Parts c1)→NG Q→NO Q→(∀ (I':Imm) (out7:Str),o=out7→I0.le I'→T 103 B Q (.exit 6) I' [hB b (cProg p p1 c p2 c1)] [(1,vP b 0),(3,vT out7.l),(6,vI i1)])→J Tryz.prog 103 B (nav (bodyOf Tryz.f159) [1,1,1,1,0,1,0,0,1,0,0,1,1,0]) Q I [hB b (cProg p p1 c p2 c1)] [(1,vP b 0),(3,vT out6.l),(6,vI i1),(7,vI k01)]:=by
 refine vO.partial_correctness p i1 _ fun self ih out6 k01 o N B I0 I Q p1 c p2 c1 b H h h1 hg ho hx=>xH hg ho<|yA<|yG<|yF 4 [0] [71,73,74] rfl<|bE N fun x5 hy15 N=>wF rfl rfl h1 hy15 ?_;intro ad5 ccs5 hat5 hrep5;obtain ⟨p8,c7,p9,c8,rfl,h10,h11⟩:=mC hrep5;refine yF 6 [] [76] rfl<|xT 1 hat5 [vS p9 x5.Body c8] (vS p9 x5.Body c8) rfl<|yL [] [79] rfl<|zI<|yH N ?_ ?_
 · intro hc4 N;refine zT<|yE<|yN<|yG<|yF 3 [0] [83,84] rfl<|bE N fun x6 hy16 N=>wF rfl rfl h1 hy16 ?_;intro ad6 ccs6 hat6 hrep6;obtain ⟨p10,c9,p11,c10,rfl,h12,h13⟩:=mC hrep6;refine yF 5 [] [86] rfl<|xT 1 hat6 [vS p11 x6.Body c10] (vS p11 x6.Body c10) rfl<|yF 7 [] [88] rfl<|bE N fun x7 hy17 N=>wF rfl rfl h13 hy17 ?_;intro ad7 ccs7 hat7 hrep7;obtain ⟨p12,c11,p13,c12,p14,c13,p15,c14,rfl,h14,h15,h16,h17⟩:=tZ hrep7;refine xT 0 hat7 (cStmt x7 p12 c11 p13 c12 p14 c13 p15 c14) (vA (cStmt x7 p12 c11 p13 c12 p14 c13 p15 c14)) rfl<|wK [vT ([]),z0,vI 0,vI 0,z0,vI 0,vT ([]),z0,z0] ?_;intro b1 hb1;refine yZ 0 (cStmt x7 p12 c11 p13 c12 p14 c13 p15 c14) rfl<|zZ rfl<|zI ?_;obtain ⟨y3,hy18,N⟩:=zC N;obtain ⟨s7,hy19,N⟩:=zC N;obtain ⟨s8,hy20,N⟩:=zC N;obtain ⟨y4,hy21,N⟩:=zC N;obtain ⟨s9,hy22,N⟩:=zC N;obtain ⟨s10,hy23,N⟩:=zC N;refine wZ [.p (vT out6.l) [],.p (vP b1 0) [],.p (vA (cAccess x7.Write p12 c11)) [0],.q (vT y3.l),.q (vT s7.l),.q (vT s8.l),.p (vP b1 2) [],.p (vA (cExpr x7.Value p13 c12 p14 c13 p15 c14)) [0],.q (vT y4.l),.q (vT s9.l),.q (vT s10.l)] [[],[],[(1,false)],[(2,false)],[(0,false),(3,false)],[(4,false)],[],[(6,false)],[(7,false)],[(5,false),(8,false)],[(9,false)]] [hB b1 (cStmt x7 p12 c11 p13 c12 p14 c13 p15 c14),hB b (cProg p p1 c p2 c1)] [] [(10,false)] (yB [0,1]) ?_ ?_
   · refine Op<|Op<|Op<|Oq ?_<|Oq ?_<|Oq ?_<|Op<|Op<|Oq ?_<|Oq ?_<|Oq ?_<|On
     · intro I1 hf le1;refine yY [93] rfl ?_;have H:=iS I1;have h14:=h14.mono le1;refine xM (nU x7.Write _ hy18 h14) ?_;rintro I05 hs2 v2 k2 le5 - ⟨v016,rfl,rfl,rfl⟩ -;have H:=H.trans le5;exact xC H
     · intro I1 hf le1;exact yY [91,94] rfl<|oI rfl hy19<|xC iR
     · intro I1 hf le1;exact yY [95] rfl<|oI rfl hy20<|xC iR
     · intro I1 hf le1;refine yY [98] rfl ?_;have H:=iS I1;have ⟨h15,h16,h17⟩:=m3 le1 h15 h16 h17;refine xM (dZ x7.Value _ hy21 h15 h16 h17) ?_;rintro I06 hs2 v2 k2 le6 - ⟨v017,rfl,rfl,rfl⟩ -;have H:=H.trans le6;exact xC H
     · intro I1 hf le1;exact yY [96,99] rfl<|oI rfl hy22<|xC iR
     intro I1 hf le1;exact yY [100] rfl<|oI rfl hy23<|xC iR
   intro I07 le7;refine yY [1,6,7,101] rfl ?_;have ⟨h,h1,H⟩:=m3 le7 h h1 H;exact yL [] [3] rfl<|zQ<|zI<|zM<|yL [] [7] rfl<|xF<|gA (zX [1] rfl (by decide))<|mJ<|ih s10 (W (k01 + 1)) _ N H h h1 hg ho hx
 intro hc4 N;exact tS<|yM<|hx _ _ (zB N).symm H
def wO (p:zO) (out4:Str) (i1:Int):Option (Str):=do
 if (decide (i1 < (p.Parts.length:Int))) then
  let s5←cat out4 (⟨[112,97,114,116,10]⟩:Str)
  let x4←idx p.Parts i1
  let y2←mS x4.Nest
  let s6←cat s5 y2
  let out7←vO p i1 s6 0
  wO p out7 (W (i1 + 1))
 else
  pure (id out4)
 partial_fixpoint
theorem fL (p:zO):∀ (out4:Str) (i1:Int) (o:Str),wO p out4 i1=some o→∀ {B}{I0 I:Imm}{Q p1 c p2 c1}{b:Nat},I0.le I→(S4 I p1 p.Arrays c)→(S4 I p2 p.Parts c1)→NG Q→NO Q→(∀ (I':Imm) (out5:Str),o=out5→I0.le I'→T 103 B Q (.exit 4) I' [] [(3,vT out5.l)])→J Tryz.prog 103 B (nav (bodyOf Tryz.f159) [1,1,1,1,0,1,0]) Q I [hB b (cProg p p1 c p2 c1)] [(1,vP b 0),(3,vT out4.l),(6,vI i1)]:=by
 refine wO.partial_correctness p _ fun self ih out4 i1 o N B I0 I Q p1 c p2 c1 b H h h1 hg ho hx=>xH hg ho<|yA<|yG<|yL [0] [58] rfl<|zI<|yH N ?_ ?_
 · intro hc3 N;refine zT<|yE<|yN<|yG<|yF 1 [] [61] rfl<|bE N fun s5 hy11 N=>oI rfl hy11<|yF 5 [0] [64,65] rfl<|bE N fun x4 hy12 N=>wF rfl rfl h1 hy12 ?_;intro ad4 ccs4 hat4 hrep4;obtain ⟨p6,c5,p7,c6,rfl,h7,h8⟩:=mC hrep4;refine yF 7 [] [67] rfl<|xT 0 hat4 [vS p6 x4.Nest c5] (vS p6 x4.Nest c5) rfl<|bE N fun y2 hy13 N=>xM (zD4 x4.Nest _ hy13 h7) ?_;rintro I04 hs2 v2 k2 le4 - ⟨v07,rfl,rfl,rfl⟩ -;have ⟨h,h1,H⟩:=m3 le4 h h1 H;obtain ⟨s6,hy14,N⟩:=zC N;refine oI rfl hy14<|yL [] [3] rfl<|sI [7] rfl<|uV<|mH [(1,vP b 0),(3,vT s6.l),(6,vI i1),(7,vI 0)] ?_;obtain ⟨o02,ho02,hMl2⟩:=zC N;refine fK p i1 s6 0 o02 ho02 iR h h1 (fun _ _ _ h=>hg _ _ _ h) (fun _ _ h=>ho _ _ h) ?_;intro I08 out7 heq2 le8;subst o02;have ⟨h,h1,H⟩:=m3 le8 h h1 H;exact zU<|zQ<|zI<|zM<|yL [] [6] rfl<|xF<|mJ<|ih out7 (W (i1 + 1)) _ hMl2 H h h1 hg ho hx
 intro hc3 N;exact tS<|xQ zL<|yM<|hx _ _ (zB N).symm H
def tB (p:zO):Option (Str):=do
 let y←uQ p
 if (!y) then
  pure (⟨[]⟩:Str)
 else
  let out1←xY p (⟨[112,114,111,103,114,97,109,10]⟩:Str) 0
  let out5←wO p out1 0
  pure (id out5)
theorem eZ:∀ p r,tB p=some r→∀ {I:Imm}{p1 c p2 c1},(S4 I p1 p.Arrays c)→(S4 I p2 p.Parts c1)→RT 159 [vA (cProg p p1 c p2 c1)] I [] (uL  r):=by
 intro p r N I p1 c p2 c1 h h1;unfold tB at N;refine yI Tryz.func159 fun B=>yG<|uG (cProg p p1 c p2 c1) ?_;intro b hb;refine wC [] []<|yE<|yG<|sH 1 [0] [(9,vA (cProg p p1 c p2 c1))]<|bE N fun y hy N=>uB (jH p _ hy h h1) ?_;intro I0 le;have ⟨h,h1⟩:=m2 le h h1;refine yL [] [11] rfl<|zI<|yH N ?_ ?_
 · intro hc N;refine yO [2] rfl<|xE<|zH ?_;obtain rfl:=zB N;exact wM
 intro hc N;refine zT<|sI [3] rfl<|yE<|yO [4] rfl<|uV<|mH [(1,vP b 0),(3,vT ([112,114,111,103,114,97,109,10])),(4,vI 0)] ?_;obtain ⟨o01,ho01,hMl1⟩:=zC N;refine fJ p (⟨[112,114,111,103,114,97,109,10]⟩:Str) 0 o01 ho01 iR h h1 (fun _ _ _ h=>h) (fun _ _ h=>h) ?_;intro I03 out1 heq1 le3;subst o01;have ⟨h,h1⟩:=m2 le3 h h1;refine zU<|yE<|yO [6] rfl<|uV<|mH [(1,vP b 0),(3,vT out1.l),(6,vI 0)] ?_;obtain ⟨o03,ho03,hMl3⟩:=zC hMl1;refine fL p out1 0 o03 ho03 iR h h1 (fun _ _ _ h=>h) (fun _ _ h=>h) ?_;intro I09 out5 heq3 le9;subst o03;refine zU<|sI [2] rfl<|zI<|yS ?_;obtain rfl:=zB hMl3;exact wM
instance zHW {cs}{arr:List zN}{cs1}{raws:List Raw2}{parts:List zS}{vN:Value}{nl:List zG}{vB:Value}{bl:List zK}{csN csB:List Value}:MonoI (fun i=>L4 i cs arr cs1 raws parts vN nl vB bl csN csB):=⟨fun _ _ hl h=>h.mono hl⟩
def eM (r:zO×Bool):KT:=fun kk I' hs' v=>
  ∃ (v0 v1:Value),hs'=[]∧v=tupV [v0,v1]∧(∃ cs,v0=.agg ⟨cs⟩∧Rp.rep I' cs r.1)∧v1=.bool r.2
def tJ (y:List Str) (p:zO) (i:Int):Option zO:=do
 if (decide ((W (i + 1)) < (y.length:Int))) then
  let x←idx y i
  let p1←mR p x
  tJ y p1 (W (i + 1))
 else
  pure p
 partial_fixpoint
theorem eD (y:List Str):∀ (p:zO) (i:Int) (o:zO),tJ y p i=some o→∀ {B}{I0 I:Imm}{Q}{text:Str}{pl:Option Addr}{cl:Nat}{b b1:Nat}{p1 c cs p2 c1 cs1}{raws:List Raw2}{vN vB:Value}{nl:List zG}{bl:List zK}{csN csB:List Value},I0.le I→(S4 I pl y cl)→L4 I cs p.Arrays cs1 raws p.Parts vN nl vB bl csN csB→(∀ l a w,¬Q (.goto l) a w)→(∀ a w,¬Q .outgrown a w) →
   (∀ (I':Imm) (p1:Option Addr) (c:Nat) (cs:List Value) (p2:Option Addr) (c1:Nat) (cs1:List Value) (raws:List Raw2) (vN vB:Value) (nl:List zG) (bl:List zK) (csN csB:List Value),I0.le I'→L4 I' cs o.Arrays cs1 raws o.Parts vN nl vB bl csN csB→T 37 B Q (.exit 0) I' [hO zN (vS p1 o.Arrays c) cs,hO Raw2 (vS p2 raws c1) cs1,hO zG vN csN,hO zK vB csB,hB b1 [vS p1 o.Arrays c,vS p2 raws c1],hB b zTwo] [(0,vT text.l),(2,vP b 0),(5,vP b1 0)]) →
   J Tryz.prog 37 B (nav (bodyOf Tryz.f96) [1,1,1,1,0,1,0]) Q I [hO zN (vS p1 p.Arrays c) cs,hO Raw2 (vS p2 raws c1) cs1,hO zG vN csN,hO zK vB csB,hB b1 [vS p1 p.Arrays c,vS p2 raws c1],hB b zTwo] [(0,vT text.l),(2,vP b 0),(4,vS pl y cl),(5,vP b1 0),(6,vI i)]:=by
 refine tJ.partial_correctness y _ ?_
 intro self ih p i o N B I0 I Q text pl cl b b1 p1 c cs p2 c1 cs1 raws vN vB nl bl csN csB H h hQ hg ho hx
 refine xH hg ho<|yA<|yO [18] rfl<|zI<|yH N ?_ ?_
 · intro hc1 N
   refine zT<|yE<|yN ?_
   obtain ⟨x,hy,N⟩:=zC N
   obtain ⟨q,hy1,N⟩:=zC N
   refine wZ [.p (vA [vS p1 p.Arrays c,vS p2 raws c1]) [0],.p (vS pl y cl) [],.p (vI i) [],.x (fun I' v hx=>∃ ad,v=.pointer (some ad)∧hx=[]∧(At I' ad [vT x.l])),.x (fun I' v hx=>v=vT x.l∧hx=[]),.x (fun I' v hx=>∃ (p1:Option Addr) (c:Nat) (cs:List Value) (p2:Option Addr) (c1:Nat) (cs1:List Value) (raws:List Raw2) (vN vB:Value) (nl:List zG) (bl:List zK) (csN csB:List Value),v=vA [vS p1 q.Arrays c,vS p2 raws c1]∧hx=[hO zN (vS p1 q.Arrays c) cs,hO Raw2 (vS p2 raws c1) cs1,hO zG vN csN,hO zK vB csB]∧L4 I' cs q.Arrays cs1 raws q.Parts vN nl vB bl csN csB)] [[],[],[],[(1,false),(2,false)],[(3,false)],[(0,false),(4,false),(7,true)]] [hB b1 [vS p1 p.Arrays c,vS p2 raws c1],hB b zTwo] [[hO zN (vS p1 p.Arrays c) cs,hO Raw2 (vS p2 raws c1) cs1,hO zG vN csN,hO zK vB csB]] [(5,true)] (yB [4,5,0,1,2,3]) ?_ ?_
   · refine Op<|Op<|Op<|Ox ?_<|Ox ?_<|Ox (hm:=fun v hx=>by repeat' (first | exact zCU | exact zHW | refine @zFM _ _ (fun _=>?_) | refine @zE3 _ _ ?_ ?_)) ?_<|On
     · intro I1 hf le1
       refine yY [22,23] rfl<|wF rfl rfl (h.mono le1) hy ?_
       intro ad ccs hat hrep
       obtain rfl:=hrep
       exact yW [] iR ⟨_,rfl,rfl,hat⟩
     · intro I1 hf le1
       refine qR ?_
       rintro _ _ ⟨ad,rfl,rfl,hat⟩
       exact zGP<|zJT [(24,.pointer (some ad))]<|xT 0 hat [vT x.l] (vT x.l) rfl<|xC iR
     intro I1 hf le1
     refine qR ?_
     rintro _ _ ⟨rfl,rfl⟩
     refine qR ?_
     rintro _ _ ⟨rfl,rfl⟩
     refine qR ?_
     rintro _ _ rfl
     refine yY [21,25] rfl<|rA (zD3 p x _ hy1 (hQ.mono le1)) rfl ?_
     rintro I02 hs2 v2 k2 le2 - ⟨p3,c2,cs2,p4,c3,cs3,raws1,vN1,vB1,nl1,bl1,csN1,csB1,rfl,rfl,hq⟩ -
     exact yW [hO zN (vS p3 q.Arrays c2) cs2,hO Raw2 (vS p4 raws1 c3) cs3,hO zG vN1 csN1,hO zK vB1 csB1] le2 ⟨_,_,_,_,_,_,_,_,_,_,_,_,_,rfl,rfl,hq⟩
   intro I04 le4
   refine qR ?_
   rintro _ _ ⟨p3,c2,cs2,p4,c3,cs3,raws1,vN1,vB1,nl1,bl1,csN1,csB1,rfl,rfl,hq⟩
   exact zGP<|zJT [(0,vT text.l),(2,vP b 0),(4,vS pl y cl),(5,vP b1 0),(6,vI i),(26,vA [vS p3 q.Arrays c2,vS p4 raws1 c3])]<|yZ 4 [vS p3 q.Arrays c2,vS p4 raws1 c3] rfl<|zZ rfl<|zQ<|zI<|zM<|yL [] [6] rfl<|xF<|mJ<|ih _ _ _ N (H.trans le4) (h.mono le4) hq hg ho hx
 intro hc1 N
 obtain rfl:=zB N
 exact tS<|yM<|hx _ _ _ _ _ _ _ _ _ _ _ _ _ _ H hQ
def uR (text:Str):Option (zO×Bool):=do
 let y←pT text (10:UInt8)
 if (decide ((y.length:Int) > 42)) then
  pure ((zO.mk [] []),false)
 else
  let p←tJ y (zO.mk [] []) 1
  let t34←(do
    if (text.l == ([]:List UInt8)) then
     pure true
    else
     let z←tB p
     pure (!(z.l == text.l))
      : Option Bool)
  if t34 then
   pure ((zO.mk [] []),false)
  else
   pure (p,true)
theorem jK:∀ text r,uR text=some r→∀ {I:Imm},RT 96 [vT text.l] I [] (eM r):=by
 intro text r N I;unfold uR at N;refine yI Tryz.func96 fun B=>yG<|wK zTwo ?_;intro b hb;refine wC [] []<|yX<|yF 1 [] [7] rfl<|bE N fun y hy N=>xM (gG text (10:UInt8) _ hy) ?_;rintro I0 hs2 v2 k2 le - ⟨v0,rfl,rfl,h⟩ -;obtain ⟨pl,cl,rfl⟩:=h.form;refine yL [] [4] rfl<|yX<|yF 1 [] [9] rfl<|wK zTwo ?_;intro b1 hb1;refine zBD 0 zTwo [hB b1 zTwo,hB b zTwo] rfl rfl rfl rfl<|zZ rfl<|yE<|yO [12] rfl<|zI<|yH N ?_ ?_
 · intro hc N;refine yG<|sH 1 [0] [(13,vA zTwo)]<|zBD 1 zTwo [hB b1 zTwo,hB b zTwo] rfl rfl rfl rfl<|wC [] [(3,vF)]<|xE<|zH ?_;obtain rfl:=zB N;exact xB ⟨_,_,(.cell 1 rfl rfl (by kernel_rfl) (.tmp rfl ResV.nil)),zL,⟨_,_,rfl,rfl,⟨_,rfl,(uU ⟨_,_,rfl,(SL.nil _),(SL.nil _)⟩)⟩,rfl⟩⟩
 intro hc N;refine zT<|yE<|yO [6] rfl<|uV<|mH [(0,vT text.l),(2,vP b 0),(4,vS pl y cl),(5,vP b1 0),(6,vI 1)]<|gA (jE (Rp.sz zK))<|gA (jE (Rp.sz zG))<|gA (jE (Rp.sz Raw2))<|gA (jE (Rp.sz zN))<|bE N fun p hy1 N=>eD (raws:=[]) (vN:=z0) (vB:=z0) (nl:=[]) (bl:=[]) y (zO.mk [] []) 1 p hy1 iR h ⟨RepL.nil,RepL.nil,⟨by decide,rfl,.inl ⟨rfl,rfl⟩⟩,RepL.nil,RepL.nil⟩ (fun _ _ _ h=>h) (fun _ _ h=>h) fun I1 p1 c cs p2 c1 cs1 raws vN vB nl bl csN csB le1 hQ=>xN 2 rfl ?_;intro I2 le2 hl2;have kN:=SL.of_frozen hl2 le2 hQ.n;have hQ:=hQ.mono le2;refine xN 2 rfl ?_;intro I3 le3 hl3;have kB:=SL.of_frozen hl3 le3 hQ.b;replace kN:=kN.mono le3;have hQ:=hQ.mono le3;refine xN 0 rfl ?_;intro I4 le4 hl4;have kA:=SL.of_frozen hl4 le4 hQ.arr;replace kN:=kN.mono le4;replace kB:=kB.mono le4;have hQ:=hQ.mono le4;refine xN 0 rfl ?_;intro I5 le5 hl5;have kP:SL I5 (vS p2 raws c1) p.Parts:=⟨cs1,hl5,by
   rw [zE5 hQ.raw];exact (hQ.lp.done kN kB).mono fun _ _=>Rp.mono le5⟩
 have e0:vS p2 raws c1=vS p2 p.Parts c1:=by simp only [vS,hQ.lp.2.1]
 rw [e0] at kP ⊢;clear e0 hl5 hl4 hl3 hl2 hQ;replace kA:=kA.mono le5;refine zU<|yE<|yA<|bE N fun t34 ht N=>oH (K1 t34 I5 [hB b1 (cProg p p1 c p2 c1),hB b zTwo] fun o=>[(2,vP b 0),(5,vP b1 0),(34,.bool o)]) ?_ ?_
 · refine zM<|sH 3 [] [(29,.bool (text.l == ([]:List UInt8)))] ?_;cases hc2:(text.l == ([]:List UInt8)) with
   | true =>
    have hM0:=vC hc2 ht;exact wC [] [(34,vY)]<|yM<|zR ⟨_,(zB hM0).symm,Imm.le.refl _,rfl,rfl⟩
   | false =>
    have hM0:=wP hc2 ht;obtain ⟨z,hz,hM0⟩:=zC hM0;refine sH 4 [0] [(30,vA (cProg p p1 c p2 c1))]<|xM (eZ p _ hz kA kP) ?_;rintro I6 hs2 v2 k2 le6 - ⟨v0,rfl,rfl,rfl⟩ -;exact yL [] [34] rfl<|yM<|zR (ct hM0 le6)
 rintro I6 hs2 m2 ⟨o,rfl,le6,rfl,rfl⟩;replace kA:=kA.mono le6;replace kP:=kP.mono le6;refine zI<|yH N ?_ ?_
 · intro hc2 N;refine yG<|yF 1 [] [35] rfl<|zBD 1 zTwo [hB b1 (cProg p p1 c p2 c1),hB b zTwo] rfl rfl rfl rfl<|wC [] [(3,vF)]<|xE<|zH ?_;obtain rfl:=zB N;exact xB ⟨_,_,(.cell 1 rfl rfl (by kernel_rfl) (.tmp rfl ResV.nil)),zL,⟨_,_,rfl,rfl,⟨_,rfl,(uU ⟨_,_,rfl,(SL.nil _),(SL.nil _)⟩)⟩,rfl⟩⟩
 intro hc2 N;refine zT<|yX<|sH 1 [0] [(36,vA (cProg p p1 c p2 c1))]<|yZ 1 (cProg p p1 c p2 c1) rfl<|wC [] [(3,vY)]<|zI<|yS ?_;obtain rfl:=zB N;exact xB ⟨_,_,(.cell 1 rfl rfl (by kernel_rfl) (.tmp rfl ResV.nil)),zL,⟨_,_,rfl,rfl,⟨_,rfl,(uU ⟨_,_,rfl,kA,kP⟩)⟩,rfl⟩⟩
def zCM (b0:Nat) (r:zO×zJ):KT:=fun kk I' hs' v=>
  ∃ v0 k0,hs'=[.blk b0 ⟨k0⟩]∧v=tupV [v0]∧(∃ cs,v0=.agg ⟨cs⟩∧Rp.rep I' cs r.1)∧Rp.rep I' k0 r.2
def oC (r0:zJ):Option (zO×zJ):=do
 let (y1,y2)←sX r0 ([(⟨[112,97,114,116,10,102,111,114,32,48,32,51,10,102,111,114,32,48,32,52,10,66,91,105,44,106,93,61,40,66,91,105,44,106,93,43,123,50,42,105,43,106,125,41,10]⟩:Str),(⟨[112,97,114,116,10,102,111,114,32,48,32,51,10,102,111,114,32,48,32,52,10,66,91,105,44,106,43,49,93,61,40,66,91,105,44,106,93,43,49,41,10]⟩:Str),(⟨[112,97,114,116,10,102,111,114,32,48,32,51,10,102,111,114,32,49,32,52,10,66,91,105,43,49,44,106,45,49,93,61,40,66,91,105,44,106,93,42,50,41,10]⟩:Str),(⟨[112,97,114,116,10,102,111,114,32,48,32,51,10,102,111,114,32,49,32,53,10,66,91,105,43,49,44,106,93,61,40,66,91,105,44,106,45,49,93,43,66,91,105,44,106,93,41,10,65,91,105,93,61,123,106,125,10]⟩:Str),(⟨[112,97,114,116,10,102,111,114,32,48,32,52,10,65,91,105,93,61,40,123,105,125,42,50,41,10,112,97,114,116,10,102,111,114,32,48,32,52,10,65,91,105,43,49,93,61,40,65,91,105,93,43,67,91,48,93,41,10]⟩:Str),(⟨[112,97,114,116,10,102,111,114,32,48,32,53,10,65,91,105,93,61,40,65,91,105,93,43,51,41,10,66,91,48,44,105,93,61,65,91,105,93,10]⟩:Str),(⟨[112,97,114,116,10,102,111,114,32,48,32,51,10,102,111,114,32,48,32,51,10,67,91,105,93,61,40,67,91,105,93,43,66,91,105,44,106,93,41,10,112,97,114,116,10,102,111,114,32,48,32,51,10,102,111,114,32,48,32,51,10,65,91,106,93,61,40,65,91,106,93,45,66,91,106,44,105,93,41,10]⟩:Str),(⟨[112,97,114,116,10,102,111,114,32,48,32,52,10,102,111,114,32,48,32,105,43,49,10,66,91,105,44,106,93,61,40,65,91,106,93,42,67,91,48,93,41,10]⟩:Str)]:List Str)
 let s←cat (⟨[112,114,111,103,114,97,109,10,97,114,114,97,121,32,65,32,54,10,97,114,114,97,121,32,66,32,52,32,53,10,97,114,114,97,121,32,67,32,51,10]⟩:Str) y1
 let (y4,y5)←uR s
 let (t20,x)←(do
   if y5 then
    let (y7,y8)←yU y2 3
    pure ((decide (y7 > 0)),y8)
   else
    pure (false,y2)
     : Option (Bool×zJ))
 if t20 then
  pure (y4,x)
 else
  let (y10,y11)←pW x
  pure (y10,y11)
theorem zD5:∀ r0 r,oC r0=some r→∀ {I:Imm}{r01:Nat}{p c},(S4 I p r0.b c)→RT 97 [vP r01 0] I [hB r01 (cRd r0 p c)] (zCM r01 r):=by
 intro r0 r N I r01 p c h;unfold oC at N;refine yI Tryz.func97 fun B=>?_;have H:=iS I;refine yG<|wK zTwo ?_;intro b hb;refine zZ rfl<|yX<|yF 1 [] [6] rfl<|nM (rT [(⟨[112,97,114,116,10,102,111,114,32,48,32,51,10,102,111,114,32,48,32,52,10,66,91,105,44,106,93,61,40,66,91,105,44,106,93,43,123,50,42,105,43,106,125,41,10]⟩:Str),(⟨[112,97,114,116,10,102,111,114,32,48,32,51,10,102,111,114,32,48,32,52,10,66,91,105,44,106,43,49,93,61,40,66,91,105,44,106,93,43,49,41,10]⟩:Str),(⟨[112,97,114,116,10,102,111,114,32,48,32,51,10,102,111,114,32,49,32,52,10,66,91,105,43,49,44,106,45,49,93,61,40,66,91,105,44,106,93,42,50,41,10]⟩:Str),(⟨[112,97,114,116,10,102,111,114,32,48,32,51,10,102,111,114,32,49,32,53,10,66,91,105,43,49,44,106,93,61,40,66,91,105,44,106,45,49,93,43,66,91,105,44,106,93,41,10,65,91,105,93,61,123,106,125,10]⟩:Str),(⟨[112,97,114,116,10,102,111,114,32,48,32,52,10,65,91,105,93,61,40,123,105,125,42,50,41,10,112,97,114,116,10,102,111,114,32,48,32,52,10,65,91,105,43,49,93,61,40,65,91,105,93,43,67,91,48,93,41,10]⟩:Str),(⟨[112,97,114,116,10,102,111,114,32,48,32,53,10,65,91,105,93,61,40,65,91,105,93,43,51,41,10,66,91,48,44,105,93,61,65,91,105,93,10]⟩:Str),(⟨[112,97,114,116,10,102,111,114,32,48,32,51,10,102,111,114,32,48,32,51,10,67,91,105,93,61,40,67,91,105,93,43,66,91,105,44,106,93,41,10,112,97,114,116,10,102,111,114,32,48,32,51,10,102,111,114,32,48,32,51,10,65,91,106,93,61,40,65,91,106,93,45,66,91,106,44,105,93,41,10]⟩:Str),(⟨[112,97,114,116,10,102,111,114,32,48,32,52,10,102,111,114,32,48,32,105,43,49,10,66,91,105,44,106,93,61,40,65,91,106,93,42,67,91,48,93,41,10]⟩:Str)]) ?_;intro b1 I0 le h2;have ⟨h,H⟩:=m2 le h H;refine qH (yB [1,0] (hs':=[hB r01 (cRd r0 p c),hB b zTwo])) ?_;obtain ⟨⟨y1,y2⟩,hy,N⟩:=zC N;refine rA (mD r0 ([(⟨[112,97,114,116,10,102,111,114,32,48,32,51,10,102,111,114,32,48,32,52,10,66,91,105,44,106,93,61,40,66,91,105,44,106,93,43,123,50,42,105,43,106,125,41,10]⟩:Str),(⟨[112,97,114,116,10,102,111,114,32,48,32,51,10,102,111,114,32,48,32,52,10,66,91,105,44,106,43,49,93,61,40,66,91,105,44,106,93,43,49,41,10]⟩:Str),(⟨[112,97,114,116,10,102,111,114,32,48,32,51,10,102,111,114,32,49,32,52,10,66,91,105,43,49,44,106,45,49,93,61,40,66,91,105,44,106,93,42,50,41,10]⟩:Str),(⟨[112,97,114,116,10,102,111,114,32,48,32,51,10,102,111,114,32,49,32,53,10,66,91,105,43,49,44,106,93,61,40,66,91,105,44,106,45,49,93,43,66,91,105,44,106,93,41,10,65,91,105,93,61,123,106,125,10]⟩:Str),(⟨[112,97,114,116,10,102,111,114,32,48,32,52,10,65,91,105,93,61,40,123,105,125,42,50,41,10,112,97,114,116,10,102,111,114,32,48,32,52,10,65,91,105,43,49,93,61,40,65,91,105,93,43,67,91,48,93,41,10]⟩:Str),(⟨[112,97,114,116,10,102,111,114,32,48,32,53,10,65,91,105,93,61,40,65,91,105,93,43,51,41,10,66,91,48,44,105,93,61,65,91,105,93,10]⟩:Str),(⟨[112,97,114,116,10,102,111,114,32,48,32,51,10,102,111,114,32,48,32,51,10,67,91,105,93,61,40,67,91,105,93,43,66,91,105,44,106,93,41,10,112,97,114,116,10,102,111,114,32,48,32,51,10,102,111,114,32,48,32,51,10,65,91,106,93,61,40,65,91,106,93,45,66,91,106,44,105,93,41,10]⟩:Str),(⟨[112,97,114,116,10,102,111,114,32,48,32,52,10,102,111,114,32,48,32,105,43,49,10,66,91,105,44,106,93,61,40,65,91,106,93,42,67,91,48,93,41,10]⟩:Str)]:List Str) _ hy h h2) rfl ?_;rintro I01 hs2 v2 k2 le1 - ⟨v0,kk,rfl,rfl,rfl,h4⟩ -;have H:=H.trans le1;obtain ⟨p1,c1,rfl,h5⟩:=zY h4;refine yL [] [3] rfl<|yX<|yF 1 [] [10] rfl<|bE N fun s hy1 N=>oI rfl hy1 ?_;obtain ⟨⟨y4,y5⟩,hy2,N⟩:=zC N;refine xM (jK s _ hy2 ) ?_;rintro I02 hs2 v2 k2 le2 - ⟨v02,v03,rfl,rfl,⟨cs,rfl,h6⟩,rfl⟩ -;have ⟨h5,H⟩:=m2 le2 h5 H;obtain ⟨p2,c2,p3,c3,rfl,h8,h9⟩:=nD h6;refine yF 6 [] [13,14] rfl<|wK zTwo ?_;intro b2 hb2;refine yZ 0 (cProg y4 p2 c2 p3 c3) rfl<|yL [] [5] rfl<|yE<|yA ?_;obtain ⟨o0,ho0,hMc⟩:=zC N;refine oH (fun I' hs' m'=>∃ (t20:Bool) (x:zJ) (p4:Option Addr) (c4:Nat),o0=(t20,x)∧I02.le I'∧(S4 I' p4 x.b c4)∧hs'=[hB b2 (cProg y4 p2 c2 p3 c3),hB r01 (cRd x p4 c4),hB b zTwo]∧m'=[(0,vP r01 0),(2,vP b 0),(4,vP b2 0),(20,.bool t20)]) ?_ ?_
 · have H:=iS I02;refine zM<|yF 2 [] [16] rfl<|xP [16] ho0 ?_ ?_
   · intro hc N;refine yF 3 [] [17] rfl<|qH (yB [1,0,2] (hs':=[hB r01 (cRd y2 p1 c1),hB b2 (cProg y4 p2 c2 p3 c3),hB b zTwo])) ?_;obtain ⟨⟨y7,y8⟩,hy3,N⟩:=zC N;refine rA (xL y2 3 _ hy3 h5) rfl ?_;rintro I04 hs2 v2 k2 le3 - ⟨v06,kk1,rfl,rfl,rfl,h12⟩ -;have H:=H.trans le3;obtain ⟨p5,c5,rfl,h13⟩:=zY h12;exact yL [] [20] rfl<|xQ (zX [1,0,2] rfl (by decide))<|yM<|zR ⟨_,_,_,_,(zB N).symm,H,h13,rfl,rfl⟩
   intro hc N;exact wC [] [(20,vF)]<|yM<|zR ⟨_,_,_,_,(zB N).symm,H,h5,rfl,rfl⟩
 rintro I03 hs2 m2 ⟨t20,x,p4,c4,heq,le4,h10,rfl,rfl⟩;subst o0;have ⟨h8,h9⟩:=m2 le4 h8 h9;refine zI<|yH hMc ?_ ?_
 · intro hc1 N;refine yG<|sH 1 [0] [(21,vA (cProg y4 p2 c2 p3 c3))]<|yZ 2 (cProg y4 p2 c2 p3 c3) rfl<|zZ rfl<|xE<|zH ?_;obtain rfl:=zB N;exact xB ⟨_,_,(.cell 2 rfl rfl (by kernel_rfl) ResV.nil),(zX [1] rfl (by decide)),⟨_,_,rfl,rfl,⟨_,rfl,(uU ⟨_,_,rfl,h8,h9⟩)⟩,(yR ⟨_,rfl,h10⟩)⟩⟩
 intro hc1 N;refine zT<|yX<|yF 1 [] [22] rfl<|qH (yB [1,0,2] (hs':=[hB r01 (cRd x p4 c4),hB b2 (cProg y4 p2 c2 p3 c3),hB b zTwo])) ?_;obtain ⟨⟨y10,y11⟩,hy4,N⟩:=zC N;refine rA (zD0 x _ hy4 h10) rfl ?_;rintro I05 hs2 v2 k2 le5 - ⟨v08,kk2,rfl,rfl,⟨cs1,rfl,h14⟩,h15⟩ -;obtain ⟨p6,c6,p7,c7,rfl,h16,h17⟩:=nD h14;obtain ⟨p8,c8,rfl,h18⟩:=zY h15;refine yZ 2 (cProg y10 p6 c6 p7 c7) rfl<|zZ rfl<|zI<|yS ?_;obtain rfl:=zB N;exact xB ⟨_,_,(.cell 2 rfl rfl (by kernel_rfl) ResV.nil),(zX [0] rfl (by decide)),⟨_,_,rfl,rfl,⟨_,rfl,(uU ⟨_,_,rfl,h16,h17⟩)⟩,(yR ⟨_,rfl,h18⟩)⟩⟩
def zB6 (b0:Nat) (r:zO×zJ):KT:=fun kk I' hs' v=>
  ∃ v0 k0,hs'=[.blk b0 ⟨k0⟩]∧v=tupV [v0]∧(∃ cs,v0=.agg ⟨cs⟩∧Rp.rep I' cs r.1)∧Rp.rep I' k0 r.2
def qX (r0:zJ):Option (zO×zJ):=do
 let (y1,y2)←sX r0 ([(⟨[112,97,114,116,10,102,111,114,32,48,32,51,10,102,111,114,32,48,32,52,10,67,91,105,93,61,40,67,91,105,93,43,66,91,105,44,106,93,41,10]⟩:Str),(⟨[112,97,114,116,10,102,111,114,32,48,32,52,10,65,91,48,93,61,40,65,91,48,93,45,123,105,125,41,10,67,91,48,93,61,65,91,48,93,10]⟩:Str),(⟨[112,97,114,116,10,102,111,114,32,48,32,51,10,102,111,114,32,48,32,51,10,65,91,105,43,106,93,61,40,65,91,105,43,106,93,43,123,50,42,105,43,106,125,41,10,112,97,114,116,10,102,111,114,32,48,32,53,10,65,91,105,93,61,40,65,91,105,93,45,67,91,48,93,41,10]⟩:Str),(⟨[112,97,114,116,10,102,111,114,32,48,32,52,10,65,91,49,93,61,40,65,91,49,93,42,123,105,43,50,125,41,10,65,91,50,93,61,40,65,91,50,93,43,65,91,49,93,41,10]⟩:Str)]:List Str)
 let s←cat (⟨[112,114,111,103,114,97,109,10,97,114,114,97,121,32,65,32,54,10,97,114,114,97,121,32,66,32,52,32,53,10,97,114,114,97,121,32,67,32,51,10]⟩:Str) y1
 let (y4,y5)←uR s
 let (t20,x)←(do
   if y5 then
    let (y7,y8)←yU y2 3
    pure ((decide (y7 > 0)),y8)
   else
    pure (false,y2)
     : Option (Bool×zJ))
 if t20 then
  pure (y4,x)
 else
  let (y10,y11)←oC x
  pure (y10,y11)
theorem zCh:∀ r0 r,qX r0=some r→∀ {I:Imm}{r01:Nat}{p c},(S4 I p r0.b c)→RT 42 [vP r01 0] I [hB r01 (cRd r0 p c)] (zB6 r01 r):=by
 intro r0 r N I r01 p c h;unfold qX at N;refine yI Tryz.func42 fun B=>?_;have H:=iS I;refine yG<|wK zTwo ?_;intro b hb;refine zZ rfl<|yX<|yF 1 [] [6] rfl<|nM (rT [(⟨[112,97,114,116,10,102,111,114,32,48,32,51,10,102,111,114,32,48,32,52,10,67,91,105,93,61,40,67,91,105,93,43,66,91,105,44,106,93,41,10]⟩:Str),(⟨[112,97,114,116,10,102,111,114,32,48,32,52,10,65,91,48,93,61,40,65,91,48,93,45,123,105,125,41,10,67,91,48,93,61,65,91,48,93,10]⟩:Str),(⟨[112,97,114,116,10,102,111,114,32,48,32,51,10,102,111,114,32,48,32,51,10,65,91,105,43,106,93,61,40,65,91,105,43,106,93,43,123,50,42,105,43,106,125,41,10,112,97,114,116,10,102,111,114,32,48,32,53,10,65,91,105,93,61,40,65,91,105,93,45,67,91,48,93,41,10]⟩:Str),(⟨[112,97,114,116,10,102,111,114,32,48,32,52,10,65,91,49,93,61,40,65,91,49,93,42,123,105,43,50,125,41,10,65,91,50,93,61,40,65,91,50,93,43,65,91,49,93,41,10]⟩:Str)]) ?_;intro b1 I0 le h2;have ⟨h,H⟩:=m2 le h H;refine qH (yB [1,0] (hs':=[hB r01 (cRd r0 p c),hB b zTwo])) ?_;obtain ⟨⟨y1,y2⟩,hy,N⟩:=zC N;refine rA (mD r0 ([(⟨[112,97,114,116,10,102,111,114,32,48,32,51,10,102,111,114,32,48,32,52,10,67,91,105,93,61,40,67,91,105,93,43,66,91,105,44,106,93,41,10]⟩:Str),(⟨[112,97,114,116,10,102,111,114,32,48,32,52,10,65,91,48,93,61,40,65,91,48,93,45,123,105,125,41,10,67,91,48,93,61,65,91,48,93,10]⟩:Str),(⟨[112,97,114,116,10,102,111,114,32,48,32,51,10,102,111,114,32,48,32,51,10,65,91,105,43,106,93,61,40,65,91,105,43,106,93,43,123,50,42,105,43,106,125,41,10,112,97,114,116,10,102,111,114,32,48,32,53,10,65,91,105,93,61,40,65,91,105,93,45,67,91,48,93,41,10]⟩:Str),(⟨[112,97,114,116,10,102,111,114,32,48,32,52,10,65,91,49,93,61,40,65,91,49,93,42,123,105,43,50,125,41,10,65,91,50,93,61,40,65,91,50,93,43,65,91,49,93,41,10]⟩:Str)]:List Str) _ hy h h2) rfl ?_;rintro I01 hs2 v2 k2 le1 - ⟨v0,kk,rfl,rfl,rfl,h4⟩ -;have H:=H.trans le1;obtain ⟨p1,c1,rfl,h5⟩:=zY h4;refine yL [] [3] rfl<|yX<|yF 1 [] [10] rfl<|bE N fun s hy1 N=>oI rfl hy1 ?_;obtain ⟨⟨y4,y5⟩,hy2,N⟩:=zC N;refine xM (jK s _ hy2 ) ?_;rintro I02 hs2 v2 k2 le2 - ⟨v02,v03,rfl,rfl,⟨cs,rfl,h6⟩,rfl⟩ -;have ⟨h5,H⟩:=m2 le2 h5 H;obtain ⟨p2,c2,p3,c3,rfl,h8,h9⟩:=nD h6;refine yF 6 [] [13,14] rfl<|wK zTwo ?_;intro b2 hb2;refine yZ 0 (cProg y4 p2 c2 p3 c3) rfl<|yL [] [5] rfl<|yE<|yA ?_;obtain ⟨o0,ho0,hMc⟩:=zC N;refine oH (fun I' hs' m'=>∃ (t20:Bool) (x:zJ) (p4:Option Addr) (c4:Nat),o0=(t20,x)∧I02.le I'∧(S4 I' p4 x.b c4)∧hs'=[hB b2 (cProg y4 p2 c2 p3 c3),hB r01 (cRd x p4 c4),hB b zTwo]∧m'=[(0,vP r01 0),(2,vP b 0),(4,vP b2 0),(20,.bool t20)]) ?_ ?_
 · have H:=iS I02;refine zM<|yF 2 [] [16] rfl<|xP [16] ho0 ?_ ?_
   · intro hc N;refine yF 3 [] [17] rfl<|qH (yB [1,0,2] (hs':=[hB r01 (cRd y2 p1 c1),hB b2 (cProg y4 p2 c2 p3 c3),hB b zTwo])) ?_;obtain ⟨⟨y7,y8⟩,hy3,N⟩:=zC N;refine rA (xL y2 3 _ hy3 h5) rfl ?_;rintro I04 hs2 v2 k2 le3 - ⟨v06,kk1,rfl,rfl,rfl,h12⟩ -;have H:=H.trans le3;obtain ⟨p5,c5,rfl,h13⟩:=zY h12;exact yL [] [20] rfl<|xQ (zX [1,0,2] rfl (by decide))<|yM<|zR ⟨_,_,_,_,(zB N).symm,H,h13,rfl,rfl⟩
   intro hc N;exact wC [] [(20,vF)]<|yM<|zR ⟨_,_,_,_,(zB N).symm,H,h5,rfl,rfl⟩
 rintro I03 hs2 m2 ⟨t20,x,p4,c4,heq,le4,h10,rfl,rfl⟩;subst o0;have ⟨h8,h9⟩:=m2 le4 h8 h9;refine zI<|yH hMc ?_ ?_
 · intro hc1 N;refine yG<|sH 1 [0] [(21,vA (cProg y4 p2 c2 p3 c3))]<|yZ 2 (cProg y4 p2 c2 p3 c3) rfl<|zZ rfl<|xE<|zH ?_;obtain rfl:=zB N;exact xB ⟨_,_,(.cell 2 rfl rfl (by kernel_rfl) ResV.nil),(zX [1] rfl (by decide)),⟨_,_,rfl,rfl,⟨_,rfl,(uU ⟨_,_,rfl,h8,h9⟩)⟩,(yR ⟨_,rfl,h10⟩)⟩⟩
 intro hc1 N;refine zT<|yX<|yF 1 [] [22] rfl<|qH (yB [1,0,2] (hs':=[hB r01 (cRd x p4 c4),hB b2 (cProg y4 p2 c2 p3 c3),hB b zTwo])) ?_;obtain ⟨⟨y10,y11⟩,hy4,N⟩:=zC N;refine rA (zD5 x _ hy4 h10) rfl ?_;rintro I05 hs2 v2 k2 le5 - ⟨v08,kk2,rfl,rfl,⟨cs1,rfl,h14⟩,h15⟩ -;obtain ⟨p6,c6,p7,c7,rfl,h16,h17⟩:=nD h14;obtain ⟨p8,c8,rfl,h18⟩:=zY h15;refine yZ 2 (cProg y10 p6 c6 p7 c7) rfl<|zZ rfl<|zI<|yS ?_;obtain rfl:=zB N;exact xB ⟨_,_,(.cell 2 rfl rfl (by kernel_rfl) ResV.nil),(zX [0] rfl (by decide)),⟨_,_,rfl,rfl,⟨_,rfl,(uU ⟨_,_,rfl,h16,h17⟩)⟩,(yR ⟨_,rfl,h18⟩)⟩⟩
def sW (code:(List UInt8)):Option (zK):=do
 let y←nP code
 let (y2,y3)←qX y
 let (y5,y6)←yU y3 (y2.Parts.length:Int)
 let x←idx y2.Parts y5
 let (y8,y9)←yU y6 (x.Body.length:Int)
 let x1←idx x.Body y8
 let (y11,y12)←nE y9 x1
 pure (id y11)
theorem eE:∀ code r,sW code=some r→∀ {I:Imm}{p c},(S4 I p code c)→RT 16 [vS p code c] I [] (nA  r):=by
 intro code r N I p c h;unfold sW at N;refine yI Tryz.func16 fun B=>?_;have H:=iS I;refine yG<|wK [vT ([]),z0,vI 0,vI 0,z0,vI 0,vT ([]),z0,z0] ?_;intro b hb;refine zZ rfl<|yX<|yF 1 [] [6] rfl<|bE N fun y hy N=>xM (zC2 code _ hy h) ?_;rintro I0 hs2 v2 k2 le - ⟨b1,p1,c1,rfl,rfl,h1⟩ -;have H:=H.trans le;refine yL [] [3] rfl<|yX<|yF 1 [] [8] rfl ?_;obtain ⟨⟨y2,y3⟩,hy1,N⟩:=zC N;refine rA (zCh y _ hy1 h1) rfl ?_;rintro I01 hs2 v2 k2 le1 - ⟨v0,kk,rfl,rfl,⟨cs,rfl,h2⟩,h3⟩ -;have H:=H.trans le1;obtain ⟨p2,c2,p3,c3,rfl,h4,h5⟩:=nD h2;obtain ⟨p4,c4,rfl,h6⟩:=zY h3;refine wK zTwo ?_;intro b2 hb1;refine yZ 0 (cProg y2 p2 c2 p3 c3) rfl<|zZ rfl<|zI<|yA ?_;obtain ⟨⟨y5,y6⟩,hy2,N⟩:=zC N;obtain ⟨x,hy3,N⟩:=zC N;refine wZ [.p (vP b2 1) [],.p (vS p3 y2.Parts c3) [0],.p (vP b1 0) [],.p (vP b2 1) [],.p (vS p3 y2.Parts c3) [0],.p (vI (y2.Parts.length:Int)) [],.x (fun I' v hx=>∃ p5 c5,v=vI y5∧hx=[hB b1 (cRd y6 p5 c5)]∧(S4 I' p5 y6.b c5)),.x (ePPart x),.x (eVPart x),.x (fun I' v hx=>∃ b3,v=vP b3 0∧hx=[hB b3 zTwo])] [[],[(0,false)],[],[],[(3,false)],[(4,false)],[(2,false),(5,false),(11,true)],[(1,false),(6,false)],[(7,false)],[]] [hB b2 (cProg y2 p2 c2 p3 c3),hB b [vT ([]),z0,vI 0,vI 0,z0,vI 0,vT ([]),z0,z0]] [[hB b1 (cRd y3 p4 c4)]] [(6,true),(8,false),(9,true)] (yB [0,2,1]) ?_ ?_
 · refine Op<|Op<|Op<|Op<|Op<|Op<|Ox ?_<|Ox ?_<|Ox ?_<|Ox ?_<|On
   · rintro I1 hf le1 _ _ ⟨rfl,rfl⟩ _ _ ⟨rfl,rfl⟩ _ _ rfl;refine yY [12,15] rfl ?_;have H:=iS I1;have h6:=h6.mono le1;refine rA (xL y3 (y2.Parts.length:Int) _ hy2 h6) rfl ?_;rintro I02 hs2 v2 k2 le2 - ⟨v04,kk1,rfl,rfl,rfl,h8⟩ -;have H:=H.trans le2;obtain ⟨p5,c5,rfl,h9⟩:=zY h8;exact yW [hB b1 (cRd y6 p5 c5)] H ⟨_,_,rfl,rfl,h9⟩
   · rintro I1 hf le1 _ _ ⟨rfl,rfl⟩ _ _ ⟨p5,c5,rfl,rfl,h9⟩;refine yY [11,16] rfl ?_;have h5:=h5.mono le1;refine wF rfl rfl h5 hy3 ?_;intro ad ccs hat hrep;obtain ⟨p6,c6,p7,c7,rfl,h10,h11⟩:=mC hrep;exact yW [] iR ⟨_,_,_,_,_,rfl,rfl,hat,h10,h11⟩
   · rintro I1 hf le1 _ _ ⟨ad,p6,c6,p7,c7,rfl,rfl,hat,h10,h11⟩;exact yY [17] rfl<|xT 0 hat (cPart x p6 c6 p7 c7) (vA (cPart x p6 c6 p7 c7)) rfl<|yW [] iR ⟨_,_,_,_,rfl,rfl,h10,h11⟩
   intro I1 hf le1;refine jM []<|wK zTwo ?_;intro b3 hb2;exact yW [hB b3 zTwo] iR ⟨_,rfl,rfl⟩
 rintro I03 le3 _ _ ⟨p5,c5,rfl,rfl,h9⟩ _ _ ⟨p61,c61,p71,c71,rfl,rfl,h101,h111⟩ _ _ ⟨b3,rfl,rfl⟩;refine yY [2,3,5,18] rfl ?_;have H:=H.trans le3;refine yZ 0 (cPart x p61 c61 p71 c71) rfl<|zZ rfl<|zI<|yA ?_;obtain ⟨⟨y8,y9⟩,hy4,N⟩:=zC N;obtain ⟨x1,hy5,N⟩:=zC N;obtain ⟨⟨y11,y12⟩,hy6,N⟩:=zC N;refine wZ [.p (vP b1 0) [],.p (vP b3 1) [],.p (vS p71 x.Body c71) [0],.p (vP b1 0) [],.p (vP b3 1) [],.p (vS p71 x.Body c71) [0],.p (vI (x.Body.length:Int)) [],.x (fun I' v hx=>∃ p8 c8,v=vI y8∧hx=[hB b1 (cRd y9 p8 c8)]∧(S4 I' p8 y9.b c8)),.x (ePStmt x1),.x (eVStmt x1),.x (fun I' v hx=>∃ p13 c13 p14 c14 p15 c15 p16 c16 p17 c17,v=vA (cStmt y11 p13 c13 p14 c14 p15 c15 p16 c16)∧hx=[hB b1 (cRd y12 p17 c17)]∧(S4 I' p13 y11.Write.Subs c13)∧(S4 I' p14 y11.Value.Index.Coefs c14)∧(S4 I' p15 y11.Value.Read.Subs c15)∧(S4 I' p16 y11.Value.Kids c16)∧(S4 I' p17 y12.b c17))] [[],[],[(1,false)],[],[],[(4,false)],[(5,false)],[(3,false),(6,false),(12,true)],[(2,false),(7,false)],[(8,false)],[(0,false),(9,false),(7,true)]] [hB b3 (cPart x p61 c61 p71 c71),hB b2 (cProg y2 p2 c2 p3 c3),hB b [vT ([]),z0,vI 0,vI 0,z0,vI 0,vT ([]),z0,z0]] [[hB b1 (cRd y6 p5 c5)]] [(10,true)] (yB [0,2,3,1]) ?_ ?_
 · refine Op<|Op<|Op<|Op<|Op<|Op<|Op<|Ox ?_<|Ox ?_<|Ox ?_<|Ox ?_<|On
   · rintro I1 hf le1 _ _ ⟨rfl,rfl⟩ _ _ ⟨rfl,rfl⟩ _ _ rfl;refine yY [22,25] rfl ?_;have H:=iS I1;have h9:=h9.mono le1;refine rA (xL y6 (x.Body.length:Int) _ hy4 h9) rfl ?_;rintro I04 hs2 v2 k2 le4 - ⟨v08,kk2,rfl,rfl,rfl,h13⟩ -;have H:=H.trans le4;obtain ⟨p8,c8,rfl,h14⟩:=zY h13;exact yW [hB b1 (cRd y9 p8 c8)] H ⟨_,_,rfl,rfl,h14⟩
   · rintro I1 hf le1 _ _ ⟨rfl,rfl⟩ _ _ ⟨p8,c8,rfl,rfl,h14⟩;refine yY [21,26] rfl ?_;have h111:=h111.mono le1;refine wF rfl rfl h111 hy5 ?_;intro ad1 ccs1 hat1 hrep1;obtain ⟨p9,c9,p10,c10,p11,c11,p12,c12,rfl,h15,h16,h17,h18⟩:=tZ hrep1;exact yW [] iR ⟨_,_,_,_,_,_,_,_,_,rfl,rfl,hat1,h15,h16,h17,h18⟩
   · rintro I1 hf le1 _ _ ⟨ad1,p9,c9,p10,c10,p11,c11,p12,c12,rfl,rfl,hat1,h15,h16,h17,h18⟩;exact yY [27] rfl<|xT 0 hat1 (cStmt x1 p9 c9 p10 c10 p11 c11 p12 c12) (vA (cStmt x1 p9 c9 p10 c10 p11 c11 p12 c12)) rfl<|yW [] iR ⟨_,_,_,_,_,_,_,_,rfl,rfl,h15,h16,h17,h18⟩
   rintro I1 hf le1 _ _ ⟨rfl,rfl⟩ _ _ ⟨p91,c91,p101,c101,p111,c111,p121,c121,rfl,rfl,h151,h161,h171,h181⟩ _ _ ⟨p8,c8,rfl,rfl,h14⟩;refine yY [19,28] rfl ?_;have H:=iS I1;refine rA (zBt y9 x1 _ hy6 h14 h151 h161 h171 h181) rfl ?_;rintro I05 hs2 v2 k2 le5 - ⟨v014,kk3,rfl,rfl,⟨cs1,rfl,h19⟩,h20⟩ -;have H:=H.trans le5;obtain ⟨p13,c13,p14,c14,p15,c15,p16,c16,rfl,h21,h22,h23,h24⟩:=tZ h19;obtain ⟨p17,c17,rfl,h25⟩:=zY h20;exact yW [hB b1 (cRd y12 p17 c17)] H ⟨_,_,_,_,_,_,_,_,_,_,rfl,rfl,h21,h22,h23,h24,h25⟩
 rintro I06 le6 _ _ ⟨p13,c13,p14,c14,p15,c15,p16,c16,p17,c17,rfl,rfl,h21,h22,h23,h24,h25⟩;refine yY [2,29] rfl ?_;refine yZ 3 (cStmt y11 p13 c13 p14 c14 p15 c15 p16 c16) rfl<|zZ rfl<|zI<|yS ?_;obtain rfl:=zB N;exact xB ⟨_,_,(.cell 3 rfl rfl (by kernel_rfl) ResV.nil),zL,⟨_,rfl,rfl,⟨_,rfl,(xU ⟨_,_,_,_,rfl,h21,h22,h23,h24⟩)⟩⟩⟩
def rY (s:zK):Option (Bool):=do
 let y←oN s 4
 pure (id y)
theorem kK:∀ s r,rY s=some r→∀ {I:Imm}{p c p1 c1 p2 c2 p3 c3},(S4 I p s.Write.Subs c)→(S4 I p1 s.Value.Index.Coefs c1)→(S4 I p2 s.Value.Read.Subs c2)→(S4 I p3 s.Value.Kids c3)→RT 45 [vA (cStmt s p c p1 c1 p2 c2 p3 c3)] I [] (zP  r):=by
 intro s r N I p c p1 c1 p2 c2 p3 c3 h h1 h2 h3;unfold rY at N;refine yI Tryz.func45 fun B=>yG<|uG (cStmt s p c p1 c1 p2 c2 p3 c3) ?_;intro b hb;refine wC [] []<|yX<|sH 1 [0] [(3,vA (cStmt s p c p1 c1 p2 c2 p3 c3))]<|bE N fun y hy N=>uB (zB3 s 4 _ hy h h1 h2 h3) fun I0 le=>wC [] [(2,.bool y)]<|zI<|yS ?_;obtain rfl:=zB N;exact wM
def wE (hsF:List HA) (r:Bool):KT:=fun kk I' hs' v=>
  ∃ v0,hsF=hs'∧v=tupV [v0]∧v0=.bool r
def zW (s1:(List zA)) (s2:(List zA)) (eq:(zA→zA→Option Bool)) (t17:Int):Option (Out Unit (Bool)):=do
 if (decide (t17 < (s1.length:Int))) then
  let x←idx s1 t17
  let x1←idx s2 t17
  let y←eq x x1
  if (!y) then
   pure (.ret false)
  else
   zW s1 s2 eq (W (t17 + 1))
 else
  pure (.done ())
 partial_fixpoint
theorem tP (s1:(List zA)) (s2:(List zA)) (eq:(zA→zA→Option Bool)):∀ (t17:Int) (o:Out Unit (Bool)),zW s1 s2 eq t17=some o→∀ {B}{I0 I:Imm}{Q p c p1 c1}{fv:Value}{hsF:List HA},I0.le I→(S4 I p1 s2 c1)→(FV2 Tryz.prog I hsF fv eq)→(S4 I p s1 c)→NG Q→NO Q→(∀ (I':Imm) ,o=(.done ())→I0.le I'→T 32 B Q (.exit 0) I' hsF [])→(∀ r I' hs' m',o=(.ret r)→I0.le I'→RS Tryz.prog Tryz.f114 B (wE hsF r) I' hs' m'→T 32 B Q .ret I' hs' m')→J Tryz.prog 32 B (nav (bodyOf Tryz.f114) [1,1,0,1,0]) Q I hsF [(1,vS p1 s2 c1),(2,fv),(15,vS p s1 c),(16,vI (s1.length:Int)),(17,vI t17)]:=by
 refine zW.partial_correctness s1 s2 eq _ fun self ih t17 o N B I0 I Q p c p1 c1 fv hsF H h1 h2 h hg ho hx hr=>xH hg ho<|yO [18] rfl<|yE<|yH N ?_ ?_
 · intro hc1 N;refine zT<|yE<|yN<|yG<|yF 1 [] [19] rfl<|bE N fun x hy N=>wF rfl rfl h hy ?_;intro ad ccs hat hrep;obtain ⟨p2,c2,rfl,h3⟩:=yD hrep;refine xT 0 hat (cAff x p2 c2) (vA (cAff x p2 c2)) rfl<|wK [z0,vI 0] ?_;intro b hb;refine yF 5 [] [7] rfl<|zBD 0 (cAff x p2 c2) (hB b (cAff x p2 c2)::hsF) rfl rfl rfl rfl<|zZ rfl<|yX<|yF 2 [] [22,23] rfl<|bE N fun x1 hy1 N=>wF rfl rfl h1 hy1 ?_;intro ad1 ccs1 hat1 hrep1;obtain ⟨p3,c3,rfl,h4⟩:=yD hrep1;refine xT 0 hat1 (cAff x1 p3 c3) (vA (cAff x1 p3 c3)) rfl<|wK [z0,vI 0] ?_;intro b1 hb1;refine zBD 0 (cAff x1 p3 c3) (hB b1 (cAff x1 p3 c3)::hB b (cAff x p2 c2)::hsF) rfl rfl rfl rfl<|zZ rfl<|yX<|sH 3 [1,0] [(26,fv),(27,vA (cAff x p2 c2)),(28,vA (cAff x1 p3 c3))]<|bE N fun y hy2 N=>qH (hs':=hsF ++ [hB b1 (cAff x1 p3 c3),hB b (cAff x p2 c2)]) (zE6 [hB b1 (cAff x1 p3 c3),hB b (cAff x p2 c2)] hsF)<|zJS rfl rfl rfl h2 hy2 ⟨_,rfl,(yC ⟨_,rfl,h3⟩)⟩ ⟨_,rfl,(yC ⟨_,rfl,h4⟩)⟩ rfl ?_;rintro I0 v02 le rfl;refine qH (hs':=(hB b1 (cAff x1 p3 c3)::hB b (cAff x p2 c2)::hsF)) (zE6 hsF [hB b1 (cAff x1 p3 c3),hB b (cAff x p2 c2)]) ?_;have ⟨h1,h2,h,H⟩:=m4 le h1 h2 h H;refine yL [] [30] rfl<|zI<|yH N ?_ ?_
   · intro hc2 N;exact uA [(6,vF)]<|xE<|zV<|zH<|zH<|hr _ _ _ _ (zB N).symm H ⟨_,_,(.tmp rfl ResV.nil),(zDH [hB b1 (cAff x1 p3 c3),hB b (cAff x p2 c2)] hsF [] rfl (by decide)),⟨_,rfl,rfl,rfl⟩⟩
   intro hc2 N;exact zT<|zQ<|zI<|zM<|yL [] [17] rfl<|xF<|gA (zDH [hB b1 (cAff x1 p3 c3),hB b (cAff x p2 c2)] hsF [] rfl (by decide))<|mJ<|ih (W (t17 + 1)) _ N H h1 h2 h hg ho hx hr
 intro hc1 N;exact tS<|yM<|hx _  (zB N).symm H
def yK (s1:(List zA)) (s2:(List zA)) (eq:(zA→zA→Option Bool)):Option (Bool):=do
 if ((s1.length:Int) != (s2.length:Int)) then
  pure false
 else
  match←zW s1 s2 eq 0 with
  | .ret r0=>pure r0
  | .done _ =>
   pure true
theorem sB:∀ s1 s2 eq r,yK s1 s2 eq=some r→∀ {I:Imm}{p c p1 c1}{fv:Value}{hsF:List HA},(S4 I p s1 c)→(S4 I p1 s2 c1)→(FV2 Tryz.prog I hsF fv eq)→RT 114 [vS p s1 c,vS p1 s2 c1,fv] I hsF (wE hsF r):=by
 intro s1 s2 eq r N I p c p1 c1 fv hsF h h1 h2;unfold yK at N;refine yI Tryz.func114 fun B=>uA []<|yE<|yO [14] rfl<|zI<|yH N ?_ ?_
 · intro hc N;refine uA [(6,vF)]<|xE<|zH ?_;obtain rfl:=zB N;exact xB ⟨_,_,(.tmp rfl ResV.nil),(fun _ h=>h),⟨_,rfl,rfl,rfl⟩⟩
 intro hc N;refine zT<|yE<|yO [15,16,17] rfl<|uV<|mH [(1,vS p1 s2 c1),(2,fv),(15,vS p s1 c),(16,vI (s1.length:Int)),(17,vI 0)] ?_;obtain ⟨o0,ho0,hMl⟩:=zC N;refine tP s1 s2 eq 0 o0 ho0 iR h1 h2 h (fun _ _ _ h=>h) (fun _ _ h=>h) ?_ ?_
 · intro I01  heq le1;subst o0;refine zU<|zFP [(6,vY)]<|zI<|yS ?_;obtain rfl:=zB hMl;exact xB ⟨_,_,(.tmp rfl ResV.nil),(fun _ h=>h),⟨_,rfl,rfl,rfl⟩⟩
 intro r0 I9 hs9 m9 heq9 le9 hrs9;subst heq9;refine zV<|zH ?_;obtain rfl:=zB hMl;exact xB hrs9
def wQ (s1:(List Int)) (s2:(List Int)) (t13:Int):Option (Out Unit (Bool)):=do
 if (decide (t13 < (s1.length:Int))) then
  let x←idx s1 t13
  let x1←idx s2 t13
  if (x != x1) then
   pure (.ret false)
  else
   wQ s1 s2 (W (t13 + 1))
 else
  pure (.done ())
 partial_fixpoint
theorem gI (s1:(List Int)) (s2:(List Int)):∀ (t13:Int) (o:Out Unit (Bool)),wQ s1 s2 t13=some o→∀ {B}{I0 I:Imm}{Q p c p1 c1},I0.le I→(S4 I p s1 c)→(S4 I p1 s2 c1)→NG Q→NO Q→(∀ (I':Imm) ,o=(.done ())→I0.le I'→T 26 B Q (.exit 0) I' [] [])→(∀ r I' hs' m',o=(.ret r)→I0.le I'→RS Tryz.prog Tryz.f140 B (zP  r) I' hs' m'→T 26 B Q .ret I' hs' m')→J Tryz.prog 26 B (nav (bodyOf Tryz.f140) [1,1,0,1,0]) Q I [] [(0,vS p s1 c),(1,vS p1 s2 c1),(12,vI (s1.length:Int)),(13,vI t13)]:=by
 refine wQ.partial_correctness s1 s2 _ fun self ih t13 o N B I0 I Q p c p1 c1 H h h1 hg ho hx hr=>xH hg ho<|yO [14] rfl<|yE<|yH N ?_ ?_
 · intro hc1 N;refine zT<|yE<|yN<|yO [5] rfl<|yE<|mU (by kernel_rfl) (by kernel_rfl)<|gN 2 [] [16,17] rfl<|bE N fun x hy N=>dJ rfl rfl h hy ?_;intro ad ccs hat hrep;obtain rfl:=hrep;refine dI 0 hat [vI x] (vI x) rfl<|gN 6 [] [20,21] rfl<|bE N fun x1 hy1 N=>dJ rfl rfl h1 hy1 ?_;intro ad1 ccs1 hat1 hrep1;obtain rfl:=hrep1;refine dI 0 hat1 [vI x1] (vI x1) rfl<|zFQ [] [24] rfl<|zI<|yH N ?_ ?_
   · intro hc2 N;exact uA [(4,vF)]<|xE<|zV<|zH<|zH<|hr _ _ _ _ (zB N).symm H ⟨_,_,(.tmp rfl ResV.nil),zL,⟨_,rfl,rfl,rfl⟩⟩
   intro hc2 N;exact zT<|zQ<|zI<|zM<|yL [] [13] rfl<|xF<|mJ<|ih (W (t13 + 1)) _ N H h h1 hg ho hx hr
 intro hc1 N;exact tS<|yM<|hx _  (zB N).symm H
def tK (s1:(List Int)) (s2:(List Int)):Option (Bool):=do
 if ((s1.length:Int) != (s2.length:Int)) then
  pure false
 else
  match←wQ s1 s2 0 with
  | .ret r0=>pure r0
  | .done _ =>
   pure true
theorem eF:∀ s1 s2 r,tK s1 s2=some r→∀ {I:Imm}{p c p1 c1},(S4 I p s1 c)→(S4 I p1 s2 c1)→RT 140 [vS p s1 c,vS p1 s2 c1] I [] (zP  r):=by
 intro s1 s2 r N I p c p1 c1 h h1;unfold tK at N;refine yI Tryz.func140 fun B=>uA []<|yE<|yO [10] rfl<|zI<|yH N ?_ ?_
 · intro hc N;refine uA [(4,vF)]<|xE<|zH ?_;obtain rfl:=zB N;exact wM
 intro hc N;refine zT<|yE<|yO [12,13] rfl<|uV<|mH [(0,vS p s1 c),(1,vS p1 s2 c1),(12,vI (s1.length:Int)),(13,vI 0)] ?_;obtain ⟨o0,ho0,hMl⟩:=zC N;refine gI s1 s2 0 o0 ho0 iR h h1 (fun _ _ _ h=>h) (fun _ _ h=>h) ?_ ?_
 · intro I0  heq le;subst o0;refine zU<|zFP [(4,vY)]<|zI<|yS ?_;obtain rfl:=zB hMl;exact wM
 intro r0 I9 hs9 m9 heq9 le9 hrs9;subst heq9;refine zV<|zH ?_;obtain rfl:=zB hMl;exact xB hrs9
def wJ (a0:zA) (b:zA):Option (Bool):=do
 let t4←(do
   let y←tK a0.Coefs b.Coefs
   if y then
    pure (a0.Const == b.Const)
   else
    pure false
     : Option Bool)
 pure (id t4)
theorem gJ:∀ a0 b r,wJ a0 b=some r→∀ {I:Imm}{p c p1 c1},(S4 I p a0.Coefs c)→(S4 I p1 b.Coefs c1)→RT 115 [vA (cAff a0 p c),vA (cAff b p1 c1)] I [] (zP  r):=by
 intro a0 b r N I p c p1 c1 h h1;unfold wJ at N;refine yI Tryz.func115 fun B=>?_;have H:=iS I;refine yG<|uG (cAff a0 p c) ?_;intro b1 hb;refine uG (cAff b p1 c1) ?_;intro b2 hb1;refine wC [] []<|zI<|yA ?_;refine wI N [] (fun t4=>[(4,.bool t4)]) (fun o0 ho0=>?_) ?_
 · have H:=iS I;refine zM<|yF 4 [1,0] [6,8] rfl ?_;obtain ⟨y,hy,N⟩:=zC ho0;refine uB (eF a0.Coefs b.Coefs _ hy h h1) ?_;intro I01 le;have H:=H.trans le;refine yF 6 [] [10] rfl<|xP [10] N ?_ ?_
   · intro hc N;exact yL [1,0] [4] rfl<|xQ zL<|yM<|zR (ct N H)
   intro hc N;exact wC [] [(4,vF)]<|xQ zL<|yM<|zR (ct N H)
 intro t4 I0 le1 hMc;refine zI<|yS ?_;obtain rfl:=zB hMc;exact wM
def wV (a0:zF) (b:zF):Option (Bool):=do
 let t4←(do
   if (a0.Array.l == b.Array.l) then
    let y←yK a0.Subs b.Subs wJ
    pure (id y)
   else
    pure false
     : Option Bool)
 pure (id t4)
theorem nB:∀ a0 b r,wV a0 b=some r→∀ {I:Imm}{p c p1 c1},(S4 I p a0.Subs c)→(S4 I p1 b.Subs c1)→RT 56 [vA (cAccess a0 p c),vA (cAccess b p1 c1)] I [] (zP  r):=by
 intro a0 b r N I p c p1 c1 h h1;unfold wV at N;refine yI Tryz.func56 fun B=>?_;have H:=iS I;refine yG<|uG (cAccess a0 p c) ?_;intro b1 hb;refine uG (cAccess b p1 c1) ?_;intro b2 hb1;refine wC [] []<|zI<|yA ?_;refine wI N [] (fun t4=>[(4,.bool t4)]) (fun o0 ho0=>?_) ?_
 · have H:=iS I;refine zM<|yF 6 [1,0] [10] rfl<|xP [10] ho0 ?_ ?_
   · intro hc N;refine yF 10 [1,0] [12,14] rfl ?_;have hf0:FV2 Tryz.prog I [] (.func (.func 115) ⟨[]⟩ ⟨[]⟩) wJ:=by
       refine FV2.intro ?_;intro I1 le1 x0 x1 r u0 u1 hF k0 k1;obtain ⟨_,rfl,k0⟩:=k0;obtain ⟨p2,c2,rfl,h2⟩:=yD k0;obtain ⟨_,rfl,k1⟩:=k1;obtain ⟨p3,c3,rfl,h3⟩:=yD k1;exact (gJ x0 x1 r hF h2 h3).mono (by rintro k i hs u ⟨v0,rfl,rfl,h⟩; exact ⟨rfl,h⟩)
     obtain ⟨y,hy,N⟩:=zC N;refine xM (sB a0.Subs b.Subs wJ _ hy h h1 hf0) ?_;rintro I01 hs2 v2 k2 le - ⟨v02,rfl,rfl,rfl⟩ -;have H:=H.trans le;exact yL [] [4] rfl<|xQ zL<|yM<|zR (ct N H)
   intro hc N;exact wC [] [(4,vF)]<|xQ zL<|yM<|zR (ct N H)
 intro t4 I0 le1 hMc;refine zI<|yS ?_;obtain rfl:=zB hMc;exact wM
def qP (a0:zF) (x:zK):Option (Bool):=do
 pure (a0.Array.l == x.Write.Array.l)
theorem zB7:∀ a0 x r,qP a0 x=some r→∀ {I:Imm}{p c}{ad:Addr}{p1 c1 p2 c2 p3 c3 p4 c4},(S4 I p a0.Subs c)→(S4 I p1 x.Write.Subs c1)→(S4 I p2 x.Value.Index.Coefs c2)→(S4 I p3 x.Value.Read.Subs c3)→(S4 I p4 x.Value.Kids c4)→(At I ad (cStmt x p1 c1 p2 c2 p3 c3 p4 c4))→RT 103 [vA (cAccess a0 p c),.pointer (some ad)] I [] (zP  r):=by
 intro a0 x r N I p c ad p1 c1 p2 c2 p3 c3 p4 c4 h h1 h2 h3 h4 hat;unfold qP at N;refine yI Tryz.func103 fun B=>yG<|uG (cAccess a0 p c) ?_;intro b hb;refine wC [] []<|yX<|yF 4 [0] [5,7] rfl<|xT 0 hat [vT x.Write.Array.l] (vT x.Write.Array.l) rfl<|yL [] [3] rfl<|zI<|yS ?_;obtain rfl:=zB N;exact wM
def nY (s:zK):Option (Bool):=do
 let t32←(do
   if (s.Value.Kind != 4) then
    if (s.Value.Kind != 5) then
     pure true
    else
     let x←idx s.Value.Kids 0
     if (x.Kind != 3) then
      pure true
     else
      let x1←idx s.Value.Kids 0
      let y←wV x1.Read s.Write
      pure (!y)
   else
    let x2←idx s.Value.Kids 0
    if (x2.Kind != 3) then
     pure true
    else
     let x3←idx s.Value.Kids 0
     let y1←wV x3.Read s.Write
     pure (!y1)
     : Option Bool)
 if t32 then
  pure false
 else
  let x4←idx s.Value.Kids 1
  let y2←pK x4
  let y3←xK y2 (fun x0=>qP x0 s)
  pure (!y3)
theorem zCi:∀ s r,nY s=some r→∀ {I:Imm}{p c p1 c1 p2 c2 p3 c3},(S4 I p s.Write.Subs c)→(S4 I p1 s.Value.Index.Coefs c1)→(S4 I p2 s.Value.Read.Subs c2)→(S4 I p3 s.Value.Kids c3)→RT 46 [vA (cStmt s p c p1 c1 p2 c2 p3 c3)] I [] (zP  r):=by
 intro s r N I p c p1 c1 p2 c2 p3 c3 h h1 h2 h3;unfold nY at N;refine yI Tryz.func46 fun B=>?_;have H:=iS I;refine yG<|uG (cStmt s p c p1 c1 p2 c2 p3 c3) ?_;intro b hb;refine vZ 0 rfl ?_;intro I0 le hl0;have hat:At I0 ⟨b,0,none⟩ (cStmt s p c p1 c1 p2 c2 p3 c3):=At.of_blk hl0;have ⟨h,h1,h2,h3,H⟩:=m5 le h h1 h2 h3 H;refine wC [] []<|yX<|yF 1 [] [4] rfl<|xT 2 hat (cExpr s.Value p1 c1 p2 c2 p3 c3) (vA (cExpr s.Value p1 c1 p2 c2 p3 c3)) rfl<|wK zExpr ?_;intro b1 hb1;refine yZ 0 (cExpr s.Value p1 c1 p2 c2 p3 c3) rfl<|zZ rfl<|yE<|yA ?_;refine wI N [hB b1 (cExpr s.Value p1 c1 p2 c2 p3 c3)] (fun t32=>[(1,vP b 0),(3,vP b1 0),(32,.bool t32)]) (fun o0 ho0=>?_) ?_
 · have H:=iS I0;cases hc:(s.Value.Kind != 4) with
   | true =>
    have hM0:=vC hc ho0;cases hc1:(s.Value.Kind != 5) with
    | true =>
     have hM01:=vC hc1 hM0;refine wZ [.p (vP b1 0) [],.p (vI s.Value.Kind) [0],.q vY,.q vY,.p (vP b1 0) [],.p (vI s.Value.Kind) [0],.q vY,.q vY,.q vY,.p undef [],.p undef [],.p undef [],.p undef [],.p undef [],.p undef [],.p vY [],.p vY [],.p undef [],.p undef [],.p undef [],.p undef [],.p undef [],.p undef [],.p undef [],.p undef [],.p undef [],.p vY []] [[],[(0,false)],[(1,false)],[(2,false)],[(3,false)],[(3,false),(4,false)],[(3,false),(5,false)],[(3,false),(6,false)],[(7,false)],[(8,false)],[(8,false),(9,false)],[(8,false),(10,false)],[(8,false),(11,false)],[(8,false),(12,false)],[(8,false),(13,false)],[(8,false),(14,false)],[(15,false)],[(16,false)],[(16,false),(17,false)],[(16,false),(18,false)],[(16,false),(19,false)],[(16,false),(20,false)],[(16,false)],[(16,false),(22,false)],[(16,false),(21,false),(23,false)],[(16,false),(24,false)],[(16,false),(25,false)]] [hB b1 (cExpr s.Value p1 c1 p2 c2 p3 c3)] [] [(26,false)] (yB [0]) ?_ ?_
     · refine Op<|Op<|Oq ?_<|Oq ?_<|Op<|Op<|Oq ?_<|Oq ?_<|Oq ?_<|Op<|Op<|Op<|Op<|Op<|Op<|Op<|Op<|Op<|Op<|Op<|Op<|Op<|Op<|Op<|Op<|Op<|Op<|On
       · intro I1 hf le1;refine yY [7] rfl<|qE 3 [(8,.bool (s.Value.Kind != 4))] ?_;rw [hc];exact xC iR
       · intro I1 hf le1;exact jM [(8,vY)]<|qE 4 [(9,vY)]<|xC iR
       · intro I1 hf le1;refine yY [9,11] rfl<|qE 7 [(12,.bool (s.Value.Kind != 5))] ?_;rw [hc1];exact xC iR
       · intro I1 hf le1;exact yY [9,12] rfl<|qE 8 [(13,vY)]<|xC iR
       intro I1 hf le1;exact jM [(13,vY)]<|qE 9 [(14,vY)]<|xC iR
     intro I02 le1;refine yY [1,3,32] rfl ?_;have H:=H.trans le1;exact zZ rfl<|yM<|zR (ct hM01 H)
    | false =>
     have hM02:=wP hc1 hM0;obtain ⟨x,hy,N⟩:=zC hM02;cases hc2:(x.Kind != 3) with
     | true =>
      have hM03:=vC hc2 N;refine wZ [.p (vP b1 0) [],.p (vI s.Value.Kind) [0],.q vY,.q vY,.p (vP b1 0) [],.p (vI s.Value.Kind) [0],.q vF,.q vF,.q vF,.p (vP b1 6) [],.p (vS p3 s.Value.Kids c3) [0],.x (ePExpr x),.x (ePExpr x),.q (vI x.Kind),.q vY,.q vY,.q vY,.p undef [],.p undef [],.p undef [],.p undef [],.p undef [],.p undef [],.p undef [],.p undef [],.p undef [],.p vY []] [[],[(0,false)],[(1,false)],[(2,false)],[(3,false)],[(3,false),(4,false)],[(3,false),(5,false)],[(3,false),(6,false)],[(7,false)],[(8,false)],[(8,false),(9,false)],[(8,false),(10,false)],[(8,false),(11,false)],[(8,false),(12,false)],[(8,false),(13,false)],[(8,false),(14,false)],[(15,false)],[(16,false)],[(16,false),(17,false)],[(16,false),(18,false)],[(16,false),(19,false)],[(16,false),(20,false)],[(16,false)],[(16,false),(22,false)],[(16,false),(21,false),(23,false)],[(16,false),(24,false)],[(16,false),(25,false)]] [hB b1 (cExpr s.Value p1 c1 p2 c2 p3 c3)] [] [(26,false)] (yB [0]) ?_ ?_
      · refine Op<|Op<|Oq ?_<|Oq ?_<|Op<|Op<|Oq ?_<|Oq ?_<|Oq ?_<|Op<|Op<|Ox ?_<|Ox ?_<|Oq ?_<|Oq ?_<|Oq ?_<|Oq ?_<|Op<|Op<|Op<|Op<|Op<|Op<|Op<|Op<|Op<|Op<|On
        · intro I1 hf le1;refine yY [7] rfl<|qE 3 [(8,.bool (s.Value.Kind != 4))] ?_;rw [hc];exact xC iR
        · intro I1 hf le1;exact jM [(8,vY)]<|qE 4 [(9,vY)]<|xC iR
        · intro I1 hf le1;refine yY [9,11] rfl<|qE 7 [(12,.bool (s.Value.Kind != 5))] ?_;rw [hc1];exact xC iR
        · intro I1 hf le1;exact yY [9,12] rfl<|qE 8 [(13,vF)]<|xC iR
        · intro I1 hf le1;exact jM [(13,vF)]<|qE 9 [(14,vF)]<|xC iR
        · intro I1 hf le1;refine yY [14,16] rfl ?_;have h3:=h3.mono le1;refine wF rfl rfl h3 hy ?_;intro ad ccs hat1 hrep;obtain ⟨p4,c4,p5,c5,p6,c6,rfl,h4,h5,h6⟩:=yV hrep;exact yW [] iR ⟨_,_,_,_,_,_,_,rfl,rfl,hat1,h4,h5,h6⟩
        · rintro I1 hf le1 _ _ ⟨rfl,rfl⟩ _ _ ⟨ad,p4,c4,p5,c5,p6,c6,rfl,rfl,hat1,h4,h5,h6⟩;exact yY [14,17] rfl<|qE 13 [(18,.pointer (some ad))]<|yW [] iR ⟨_,_,_,_,_,_,_,rfl,rfl,hat1,h4,h5,h6⟩
        · rintro I1 hf le1 _ _ ⟨rfl,rfl⟩ _ _ ⟨ad1,p41,c41,p51,c51,p61,c61,rfl,rfl,hat11,h41,h51,h61⟩;exact yY [14,18] rfl<|xT 0 hat11 [vI x.Kind] (vI x.Kind) rfl<|xC iR
        · intro I1 hf le1;refine yY [14,19] rfl<|qE 15 [(20,.bool (x.Kind != 3))] ?_;rw [hc2];exact xC iR
        · intro I1 hf le1;exact yY [14,20] rfl<|qE 16 [(21,vY)]<|xC iR
        intro I1 hf le1;exact jM [(21,vY)]<|qE 17 [(22,vY)]<|xC iR
      intro I03 le2;refine yY [1,3,32] rfl ?_;have H:=H.trans le2;exact zZ rfl<|yM<|zR (ct hM03 H)
     | false =>
      have hM04:=wP hc2 N;obtain ⟨x1,hy1,N⟩:=zC hM04;obtain ⟨y,hy2,N⟩:=zC N;refine wZ [.p (vP b1 0) [],.p (vI s.Value.Kind) [0],.q vY,.q vY,.p (vP b1 0) [],.p (vI s.Value.Kind) [0],.q vF,.q vF,.q vF,.p (vP b1 6) [],.p (vS p3 s.Value.Kids c3) [0],.x (ePExpr x),.x (ePExpr x),.q (vI x.Kind),.q vF,.q vF,.q vF,.p (vP b1 6) [],.p (vS p3 s.Value.Kids c3) [0],.x (ePExpr x1),.x (eQExpr 4 x1),.x (eVAccess x1.Read),.p (vP b 0) [],.q (vA (cAccess s.Write p c)),.q (.bool y),.p (.bool (!y)) [],.p (.bool (!y)) []] [[],[(0,false)],[(1,false)],[(2,false)],[(3,false)],[(3,false),(4,false)],[(3,false),(5,false)],[(3,false),(6,false)],[(7,false)],[(8,false)],[(8,false),(9,false)],[(8,false),(10,false)],[(8,false),(11,false)],[(8,false),(12,false)],[(8,false),(13,false)],[(8,false),(14,false)],[(15,false)],[(16,false)],[(16,false),(17,false)],[(16,false),(18,false)],[(16,false),(19,false)],[(16,false),(20,false)],[(16,false)],[(16,false),(22,false)],[(16,false),(21,false),(23,false)],[(16,false),(24,false)],[(16,false),(25,false)]] [hB b1 (cExpr s.Value p1 c1 p2 c2 p3 c3)] [] [(26,false)] (yB [0]) ?_ ?_
      · refine Op<|Op<|Oq ?_<|Oq ?_<|Op<|Op<|Oq ?_<|Oq ?_<|Oq ?_<|Op<|Op<|Ox ?_<|Ox ?_<|Oq ?_<|Oq ?_<|Oq ?_<|Oq ?_<|Op<|Op<|Ox ?_<|Ox ?_<|Ox ?_<|Op<|Oq ?_<|Oq ?_<|Op<|Op<|On
        · intro I1 hf le1;refine yY [7] rfl<|qE 3 [(8,.bool (s.Value.Kind != 4))] ?_;rw [hc];exact xC iR
        · intro I1 hf le1;exact jM [(8,vY)]<|qE 4 [(9,vY)]<|xC iR
        · intro I1 hf le1;refine yY [9,11] rfl<|qE 7 [(12,.bool (s.Value.Kind != 5))] ?_;rw [hc1];exact xC iR
        · intro I1 hf le1;exact yY [9,12] rfl<|qE 8 [(13,vF)]<|xC iR
        · intro I1 hf le1;exact jM [(13,vF)]<|qE 9 [(14,vF)]<|xC iR
        · intro I1 hf le1;refine yY [14,16] rfl ?_;have h3:=h3.mono le1;refine wF rfl rfl h3 hy ?_;intro ad ccs hat1 hrep;obtain ⟨p4,c4,p5,c5,p6,c6,rfl,h4,h5,h6⟩:=yV hrep;exact yW [] iR ⟨_,_,_,_,_,_,_,rfl,rfl,hat1,h4,h5,h6⟩
        · rintro I1 hf le1 _ _ ⟨rfl,rfl⟩ _ _ ⟨ad,p4,c4,p5,c5,p6,c6,rfl,rfl,hat1,h4,h5,h6⟩;exact yY [14,17] rfl<|qE 13 [(18,.pointer (some ad))]<|yW [] iR ⟨_,_,_,_,_,_,_,rfl,rfl,hat1,h4,h5,h6⟩
        · rintro I1 hf le1 _ _ ⟨rfl,rfl⟩ _ _ ⟨ad1,p41,c41,p51,c51,p61,c61,rfl,rfl,hat11,h41,h51,h61⟩;exact yY [14,18] rfl<|xT 0 hat11 [vI x.Kind] (vI x.Kind) rfl<|xC iR
        · intro I1 hf le1;refine yY [14,19] rfl<|qE 15 [(20,.bool (x.Kind != 3))] ?_;rw [hc2];exact xC iR
        · intro I1 hf le1;exact yY [14,20] rfl<|qE 16 [(21,vF)]<|xC iR
        · intro I1 hf le1;exact jM [(21,vF)]<|qE 17 [(22,vF)]<|xC iR
        · intro I1 hf le1;refine yY [22,24] rfl ?_;have h3:=h3.mono le1;refine wF rfl rfl h3 hy1 ?_;intro ad2 ccs1 hat2 hrep1;obtain ⟨p7,c7,p8,c8,p9,c9,rfl,h7,h8,h9⟩:=yV hrep1;exact yW [] iR ⟨_,_,_,_,_,_,_,rfl,rfl,hat2,h7,h8,h9⟩
        · rintro I1 hf le1 _ _ ⟨rfl,rfl⟩ _ _ ⟨ad2,p7,c7,p8,c8,p9,c9,rfl,rfl,hat2,h7,h8,h9⟩;exact yY [22,25] rfl<|qE 21 [(26,.pointer (some (ad2.add 4)))]<|yW [] iR ⟨_,_,_,_,_,_,_,rfl,rfl,hat2,h7,h8,h9⟩
        · rintro I1 hf le1 _ _ ⟨rfl,rfl⟩ _ _ ⟨ad21,p71,c71,p81,c81,p91,c91,rfl,rfl,hat21,h71,h81,h91⟩;exact yY [22,26] rfl<|xT 4 hat21 (cAccess x1.Read p81 c81) (vA (cAccess x1.Read p81 c81)) rfl<|yW [] iR ⟨_,_,rfl,rfl,h81⟩
        · intro I1 hf le1;refine yY [22,28] rfl ?_;have hat:=hat.mono le1;exact xT 0 hat (cAccess s.Write p c) (vA (cAccess s.Write p c)) rfl<|xC iR
        rintro I1 hf le1 _ _ ⟨rfl,rfl⟩ _ _ ⟨p811,c811,rfl,rfl,h811⟩;refine yY [22,27,29] rfl ?_;have H:=iS I1;have h:=h.mono le1;refine uB (nB x1.Read s.Write _ hy2 h811 h) ?_;intro I04 le3;have H:=H.trans le3;exact xC H
      intro I05 le4;refine yY [1,3,32] rfl ?_;have H:=H.trans le4;exact zZ rfl<|yM<|zR (ct N H)
   | false =>
    have hM05:=wP hc ho0;obtain ⟨x2,hy3,N⟩:=zC hM05;cases hc3:(x2.Kind != 3) with
    | true =>
     have hM06:=vC hc3 N;refine wZ [.p (vP b1 0) [],.p (vI s.Value.Kind) [0],.q vF,.q vF,.p undef [],.p undef [],.p undef [],.p vF [],.p vF [],.p (vP b1 6) [],.p (vS p3 s.Value.Kids c3) [0],.x (ePExpr x2),.x (ePExpr x2),.q (vI x2.Kind),.q vY,.q vY,.q vY,.p undef [],.p undef [],.p undef [],.p undef [],.p undef [],.p undef [],.p undef [],.p undef [],.p undef [],.p vY []] [[],[(0,false)],[(1,false)],[(2,false)],[(3,false)],[(3,false),(4,false)],[(3,false),(5,false)],[(3,false),(6,false)],[(7,false)],[(8,false)],[(8,false),(9,false)],[(8,false),(10,false)],[(8,false),(11,false)],[(8,false),(12,false)],[(8,false),(13,false)],[(8,false),(14,false)],[(15,false)],[(16,false)],[(16,false),(17,false)],[(16,false),(18,false)],[(16,false),(19,false)],[(16,false),(20,false)],[(16,false)],[(16,false),(22,false)],[(16,false),(21,false),(23,false)],[(16,false),(24,false)],[(16,false),(25,false)]] [hB b1 (cExpr s.Value p1 c1 p2 c2 p3 c3)] [] [(26,false)] (yB [0]) ?_ ?_
     · refine Op<|Op<|Oq ?_<|Oq ?_<|Op<|Op<|Op<|Op<|Op<|Op<|Op<|Ox ?_<|Ox ?_<|Oq ?_<|Oq ?_<|Oq ?_<|Oq ?_<|Op<|Op<|Op<|Op<|Op<|Op<|Op<|Op<|Op<|Op<|On
       · intro I1 hf le1;refine yY [7] rfl<|qE 3 [(8,.bool (s.Value.Kind != 4))] ?_;rw [hc];exact xC iR
       · intro I1 hf le1;exact jM [(8,vF)]<|qE 4 [(9,vF)]<|xC iR
       · intro I1 hf le1;refine yY [14,16] rfl ?_;have h3:=h3.mono le1;refine wF rfl rfl h3 hy3 ?_;intro ad3 ccs2 hat3 hrep2;obtain ⟨p10,c10,p11,c11,p12,c12,rfl,h11,h12,h13⟩:=yV hrep2;exact yW [] iR ⟨_,_,_,_,_,_,_,rfl,rfl,hat3,h11,h12,h13⟩
       · rintro I1 hf le1 _ _ ⟨rfl,rfl⟩ _ _ ⟨ad3,p10,c10,p11,c11,p12,c12,rfl,rfl,hat3,h11,h12,h13⟩;exact yY [14,17] rfl<|qE 13 [(18,.pointer (some ad3))]<|yW [] iR ⟨_,_,_,_,_,_,_,rfl,rfl,hat3,h11,h12,h13⟩
       · rintro I1 hf le1 _ _ ⟨rfl,rfl⟩ _ _ ⟨ad31,p101,c101,p111,c111,p121,c121,rfl,rfl,hat31,h111,h121,h131⟩;exact yY [14,18] rfl<|xT 0 hat31 [vI x2.Kind] (vI x2.Kind) rfl<|xC iR
       · intro I1 hf le1;refine yY [14,19] rfl<|qE 15 [(20,.bool (x2.Kind != 3))] ?_;rw [hc3];exact xC iR
       · intro I1 hf le1;exact yY [14,20] rfl<|qE 16 [(21,vY)]<|xC iR
       intro I1 hf le1;exact jM [(21,vY)]<|qE 17 [(22,vY)]<|xC iR
     intro I06 le5;refine yY [1,3,32] rfl ?_;have H:=H.trans le5;exact zZ rfl<|yM<|zR (ct hM06 H)
    | false =>
     have hM07:=wP hc3 N;obtain ⟨x3,hy4,N⟩:=zC hM07;obtain ⟨y1,hy5,N⟩:=zC N;refine wZ [.p (vP b1 0) [],.p (vI s.Value.Kind) [0],.q vF,.q vF,.p undef [],.p undef [],.p undef [],.p vF [],.p vF [],.p (vP b1 6) [],.p (vS p3 s.Value.Kids c3) [0],.x (ePExpr x2),.x (ePExpr x2),.q (vI x2.Kind),.q vF,.q vF,.q vF,.p (vP b1 6) [],.p (vS p3 s.Value.Kids c3) [0],.x (ePExpr x3),.x (eQExpr 4 x3),.x (eVAccess x3.Read),.p (vP b 0) [],.q (vA (cAccess s.Write p c)),.q (.bool y1),.p (.bool (!y1)) [],.p (.bool (!y1)) []] [[],[(0,false)],[(1,false)],[(2,false)],[(3,false)],[(3,false),(4,false)],[(3,false),(5,false)],[(3,false),(6,false)],[(7,false)],[(8,false)],[(8,false),(9,false)],[(8,false),(10,false)],[(8,false),(11,false)],[(8,false),(12,false)],[(8,false),(13,false)],[(8,false),(14,false)],[(15,false)],[(16,false)],[(16,false),(17,false)],[(16,false),(18,false)],[(16,false),(19,false)],[(16,false),(20,false)],[(16,false)],[(16,false),(22,false)],[(16,false),(21,false),(23,false)],[(16,false),(24,false)],[(16,false),(25,false)]] [hB b1 (cExpr s.Value p1 c1 p2 c2 p3 c3)] [] [(26,false)] (yB [0]) ?_ ?_
     · refine Op<|Op<|Oq ?_<|Oq ?_<|Op<|Op<|Op<|Op<|Op<|Op<|Op<|Ox ?_<|Ox ?_<|Oq ?_<|Oq ?_<|Oq ?_<|Oq ?_<|Op<|Op<|Ox ?_<|Ox ?_<|Ox ?_<|Op<|Oq ?_<|Oq ?_<|Op<|Op<|On
       · intro I1 hf le1;refine yY [7] rfl<|qE 3 [(8,.bool (s.Value.Kind != 4))] ?_;rw [hc];exact xC iR
       · intro I1 hf le1;exact jM [(8,vF)]<|qE 4 [(9,vF)]<|xC iR
       · intro I1 hf le1;refine yY [14,16] rfl ?_;have h3:=h3.mono le1;refine wF rfl rfl h3 hy3 ?_;intro ad3 ccs2 hat3 hrep2;obtain ⟨p10,c10,p11,c11,p12,c12,rfl,h11,h12,h13⟩:=yV hrep2;exact yW [] iR ⟨_,_,_,_,_,_,_,rfl,rfl,hat3,h11,h12,h13⟩
       · rintro I1 hf le1 _ _ ⟨rfl,rfl⟩ _ _ ⟨ad3,p10,c10,p11,c11,p12,c12,rfl,rfl,hat3,h11,h12,h13⟩;exact yY [14,17] rfl<|qE 13 [(18,.pointer (some ad3))]<|yW [] iR ⟨_,_,_,_,_,_,_,rfl,rfl,hat3,h11,h12,h13⟩
       · rintro I1 hf le1 _ _ ⟨rfl,rfl⟩ _ _ ⟨ad31,p101,c101,p111,c111,p121,c121,rfl,rfl,hat31,h111,h121,h131⟩;exact yY [14,18] rfl<|xT 0 hat31 [vI x2.Kind] (vI x2.Kind) rfl<|xC iR
       · intro I1 hf le1;refine yY [14,19] rfl<|qE 15 [(20,.bool (x2.Kind != 3))] ?_;rw [hc3];exact xC iR
       · intro I1 hf le1;exact yY [14,20] rfl<|qE 16 [(21,vF)]<|xC iR
       · intro I1 hf le1;exact jM [(21,vF)]<|qE 17 [(22,vF)]<|xC iR
       · intro I1 hf le1;refine yY [22,24] rfl ?_;have h3:=h3.mono le1;refine wF rfl rfl h3 hy4 ?_;intro ad4 ccs3 hat4 hrep3;obtain ⟨p13,c13,p14,c14,p15,c15,rfl,h14,h15,h16⟩:=yV hrep3;exact yW [] iR ⟨_,_,_,_,_,_,_,rfl,rfl,hat4,h14,h15,h16⟩
       · rintro I1 hf le1 _ _ ⟨rfl,rfl⟩ _ _ ⟨ad4,p13,c13,p14,c14,p15,c15,rfl,rfl,hat4,h14,h15,h16⟩;exact yY [22,25] rfl<|qE 21 [(26,.pointer (some (ad4.add 4)))]<|yW [] iR ⟨_,_,_,_,_,_,_,rfl,rfl,hat4,h14,h15,h16⟩
       · rintro I1 hf le1 _ _ ⟨rfl,rfl⟩ _ _ ⟨ad41,p131,c131,p141,c141,p151,c151,rfl,rfl,hat41,h141,h151,h161⟩;exact yY [22,26] rfl<|xT 4 hat41 (cAccess x3.Read p141 c141) (vA (cAccess x3.Read p141 c141)) rfl<|yW [] iR ⟨_,_,rfl,rfl,h151⟩
       · intro I1 hf le1;refine yY [22,28] rfl ?_;have hat:=hat.mono le1;exact xT 0 hat (cAccess s.Write p c) (vA (cAccess s.Write p c)) rfl<|xC iR
       rintro I1 hf le1 _ _ ⟨rfl,rfl⟩ _ _ ⟨p1411,c1411,rfl,rfl,h1511⟩;refine yY [22,27,29] rfl ?_;have H:=iS I1;have h:=h.mono le1;refine uB (nB x3.Read s.Write _ hy5 h1511 h) ?_;intro I07 le6;have H:=H.trans le6;exact xC H
     intro I08 le7;refine yY [1,3,32] rfl ?_;have H:=H.trans le7;exact zZ rfl<|yM<|zR (ct N H)
 intro t32 I01 le8 hMc;have ⟨h,h1,h2,h3,hat⟩:=m5 le8 h h1 h2 h3 hat;refine zI<|yH hMc ?_ ?_
 · intro hc4 N;refine uA [(2,vF)]<|xE<|zH ?_;obtain rfl:=zB N;exact wM
 intro hc4 N;refine zT<|yX<|yF 2 [0] [34] rfl<|bE N fun x4 hy6 N=>wF rfl rfl h3 hy6 ?_;intro ad5 ccs4 hat5 hrep4;obtain ⟨p16,c16,p17,c17,p18,c18,rfl,h18,h19,h20⟩:=yV hrep4;refine xT 0 hat5 (cExpr x4 p16 c16 p17 c17 p18 c18) (vA (cExpr x4 p16 c16 p17 c17 p18 c18)) rfl<|bE N fun y2 hy7 N=>xM (zA3 x4 _ hy7 h18 h19 h20) ?_;rintro I09 hs2 v2 k2 le9 - ⟨v017,rfl,rfl,h21⟩ -;have ⟨h,h1,h2,h3,hat⟩:=m5 le9 h h1 h2 h3 hat;obtain ⟨p19,c19,rfl⟩:=h21.form;refine yF 6 [] [38] rfl ?_;have hf0:FV1 Tryz.prog I09 [] (.func (.func 103) ⟨[]⟩ ⟨[vP b 0]⟩) (fun x0=>qP x0 s):=by
   refine FV1.intro ?_;intro I1 le1 x0 r u0 hF k0;obtain ⟨_,rfl,k0⟩:=k0;obtain ⟨p20,c20,rfl,h22⟩:=uE k0;exact (zB7 x0 s r hF h22 (h.mono le1) (h1.mono le1) (h2.mono le1) (h3.mono le1) (hat.mono le1)).mono (by rintro k i hs u ⟨v0,rfl,rfl,h⟩; exact ⟨rfl,h⟩)
 obtain ⟨y3,hy8,N⟩:=zC N;refine xM (oA y2 (fun x0=>qP x0 s) _ hy8 h21 hf0) ?_;rintro I010 hs2 v2 k2 le10 - ⟨v019,rfl,rfl,rfl⟩ -;refine yL [] [2] rfl<|zI<|yS ?_;obtain rfl:=zB N;exact wM
end Go.LN
