/- Helper of the proof (see the last text). -/
import Derived.Test.YtaflkghnfcjahaaGreatHM6
set_option linter.unusedVariables false
set_option linter.unusedSimpArgs false
namespace Go.LN
open Go.Proofs
set_option maxRecDepth 20000
def oH (hsF:List HA) (r:Int):KT:=fun kk I' hs' v=>
  ∃ v0,hsF=hs'∧v=tupV [v0]∧v0=.int .i64 r
def vQ (s:(List zV)) (f0:(zV→Option Bool)) (t8:Int):Option (Out Unit (Int)):=do
 if (decide (t8 < (s.length:Int))) then
  let x←idx s t8
  let y←f0 x
  if y then
   pure (.ret t8)
  else
   vQ s f0 (W (t8 + 1))
 else
  pure (.done ())
 partial_fixpoint
theorem jR (s:(List zV)) (f0:(zV→Option Bool)):∀ (t8:Int) (o:Out Unit (Int)),vQ s f0 t8=some o→∀ {B}{I0 I:Imm}{Q p c}{fv:Value}{hsF:List HA},I0.le I→(S4 I p s c)→(FV1 Tryz.prog I hsF fv f0)→NG Q→NO Q→(∀ (I':Imm) ,o=(.done ())→I0.le I'→T 19 B Q (.exit 0) I' hsF [])→(∀ r I' hs' m',o=(.ret r)→I0.le I'→RS Tryz.prog Tryz.f127 B (oH hsF r) I' hs' m'→T 19 B Q .ret I' hs' m')→J Tryz.prog 19 B (nav (bodyOf Tryz.f127) [1,0,1,0]) Q I hsF [(0,vS p s c),(1,fv),(7,vI (s.length:Int)),(8,vI t8)]:=by
 refine vQ.partial_correctness s f0 _ fun self ih t8 o N B I0 I Q p c fv hsF H h h1 hg ho hx hr=>yT hg ho<|yG [9] rfl<|zZ<|yE N ?_ ?_
 · intro hc N;refine zS<|zZ<|yH<|yG [5] rfl<|yV<|yB 3 [] [11,12,13] rfl<|bE N fun x hy N=>xJ rfl rfl h hy ?_;intro ad ccs hat hrep;obtain rfl:=mQ hrep;refine yX 0 hat [vI x.From,vI x.To,vI x.Kinds] (vA [vI x.From,vI x.To,vI x.Kinds]) rfl<|bE N fun y hy1 N=>zH7 rfl rfl h1 hy1 ⟨_,rfl,(mR rfl)⟩ (List.append_nil _).symm ?_;rintro I0 v0 le rfl;refine vH (hs':=hsF) (List.append_nil _) ?_;have ⟨h,h1,H⟩:=m3 le h h1 H;refine yA rfl<|zI<|yE N ?_ ?_
   · intro hc1 N;exact yG [4] rfl<|xG<|zW<|zH<|zH<|hr _ _ _ _ (zC N).symm H ⟨_,_,(.tmp rfl ResV.nil),(fun _ h=>h),⟨_,rfl,rfl,rfl⟩⟩
   intro hc1 N;exact zS<|zP<|zI<|zK<|yJ [] [8] rfl<|yS<|nG<|ih (W (t8 + 1)) _ N H h h1 hg ho hx hr
 intro hc N;exact wT<|yQ<|hx _  (zC N).symm H
def rG (s:(List zV)) (f0:(zV→Option Bool)):Option (Int):=do
 match←vQ s f0 0 with
 | .ret r0=>pure r0
 | .done _ =>
  pure (-1)
theorem gV:∀ s f0 r,rG s f0=some r→∀ {I:Imm}{p c}{fv:Value}{hsF:List HA},(S4 I p s c)→(FV1 Tryz.prog I hsF fv f0)→RT 127 [vS p s c,fv] I hsF (oH hsF r):=by
 intro s f0 r N I p c fv hsF h h1;unfold rG at N;refine yM Tryz.func127 fun B=>vJ []<|zZ<|yG [7,8] rfl<|xZ<|pJ [(0,vS p s c),(1,fv),(7,vI (s.length:Int)),(8,vI 0)] ?_;obtain ⟨o0,ho0,hMl⟩:=zB N;refine jR s f0 0 o0 ho0 iR h h1 (fun _ _ _ h=>h) (fun _ _ h=>h) ?_ ?_
 · intro I01  heq le1;subst o0;refine zR<|vG [4] rfl<|zI<|yW ?_;obtain rfl:=zC hMl;exact xA ⟨_,_,(.tmp rfl ResV.nil),(fun _ h=>h),⟨_,rfl,rfl,rfl⟩⟩
 intro r0 I9 hs9 m9 heq9 le9 hrs9;subst heq9;refine zW<|zH ?_;obtain rfl:=zC hMl;exact xA hrs9
def jS (hsF:List HA) (r:(List zV)):KT:=fun kk I' hs' v=>
  ∃ v0,hsF=hs'∧v=tupV [v0]∧SL I' v0 r
def vO (del:(zV→Option Bool)) (s1:List zV) (i:Int) (j:Int):Option ((List zV×Int)):=do
 if (decide (j < (s1.length:Int))) then
  let x←idx s1 j
  let y1←del x
  let (s3,i2)←(do
    if (!y1) then
     let x1←idx s1 i
     let l←pure (s1.set i.toNat x)
     pure (l,(W (i + 1)))
    else
     pure (s1,i)
      : Option (List zV×Int))
  vO del s3 i2 (W (j + 1))
 else
  pure (s1,i)
 partial_fixpoint
theorem jL (del:(zV→Option Bool)):∀ (s1:List zV) (i:Int) (j:Int) (o:(List zV×Int)),vO del s1 i j=some o→∀ {B}{I0 I:Imm}{Q}  {fv:Value}{hsF:List HA}{p1 c1 cs1},I0.le I→(FV1 Tryz.prog I hsF fv del)→(RL I cs1 s1)→NG Q→NO Q→(∀ (I':Imm) (s2:List zV) (i1:Int) (p2:Option Addr) (c2:Nat) (cs2:List Value),o=(s2,i1)→I0.le I'→(RL I' cs2 s2)→T 42 B Q (.exit 0) I' (hO zV (vS p2 s2 c2) cs2::hsF) [(0,vS p2 s2 c2),(5,vI i1)])→J Tryz.prog 42 B (nav (bodyOf Tryz.f79) [1,1,1,0,1,0]) Q I (hO zV (vS p1 s1 c1) cs1::hsF) [(0,vS p1 s1 c1),(1,fv),(5,vI i),(6,vI j)]:=by
 refine vO.partial_correctness del _ fun self ih s1 i j o N B I0 I Q fv hsF p1 c1 cs1 H h1 h4 hg ho hx=>yT hg ho<|yC<|yG [19] rfl<|zI<|yE N ?_ ?_
 · intro hc1 N;refine zS<|zZ<|yH<|yF<|yB 2 [] [22,23] rfl<|bE N fun x hy1 N=>mF 0 rfl rfl rfl h4 hy1 ?_;intro ad ccs hat hcc hrep;obtain rfl:=mQ hrep;refine zDC 0 0 hat hcc [vI x.From,vI x.To,vI x.Kinds] (vA [vI x.From,vI x.To,vI x.Kinds]) rfl rfl<|wH [vI 0,vI 0,vI 0] ?_;intro b hb;refine zAf 0 [vI x.From,vI x.To,vI x.Kinds] (hB b [vI x.From,vI x.To,vI x.Kinds]::hO zV (vS p1 s1 c1) cs1::hsF) rfl rfl rfl rfl<|yA rfl<|yV<|fW 2 [0] [(26,fv),(27,vA [vI x.From,vI x.To,vI x.Kinds])]<|bE N fun y1 hy2 N=>sD (hs':=hsF ++ [hB b [vI x.From,vI x.To,vI x.Kinds],hO zV (vS p1 s1 c1) cs1]) (zC9 [hB b [vI x.From,vI x.To,vI x.Kinds],hO zV (vS p1 s1 c1) cs1] hsF)<|zH7 rfl rfl h1 hy2 ⟨_,rfl,(mR rfl)⟩ rfl ?_;rintro I02 v01 le2 rfl;refine sD (hs':=(hB b [vI x.From,vI x.To,vI x.Kinds]::hO zV (vS p1 s1 c1) cs1::hsF)) (zC9 hsF [hB b [vI x.From,vI x.To,vI x.Kinds],hO zV (vS p1 s1 c1) cs1]) ?_;have ⟨h4,h1,H⟩:=m3 le2 h4 h1 H;refine yJ [] [29] rfl<|zI ?_;obtain ⟨o0,ho0,hMc⟩:=zB N;refine qL (fun I' hs' m'=>∃ (s3:List zV) (i2:Int) (p3:Option Addr) (c3:Nat) (cs3:List Value),o0=(s3,i2)∧I02.le I'∧(RL I' cs3 s3)∧hs'=(hO zV (vS p3 s3 c3) cs3::hsF)∧m'=[(0,vS p3 s3 c3),(1,fv),(5,vI i2),(6,vI j)]) ?_ ?_
   · have H:=iS I02;refine yE ho0 ?_ ?_
     · intro hc2 N;refine yF<|fW 3 [0] [(30,vS p1 s1 c1),(31,vI i),(32,vA [vI x.From,vI x.To,vI x.Kinds])]<|bE N fun x1 hy3 N=>mF 1 rfl rfl rfl h4 hy3 ?_;intro ad1 ccs1 hat1 hcc1 hrep1;obtain rfl:=mQ hrep1;obtain ⟨l,hy4,N⟩:=zB N;refine qM (c:=[vI x.From,vI x.To,vI x.Kinds]) (x':=x) 1 0 rfl rfl rfl hat1 rfl rfl hcc1 (by kernel_rfl) (by kernel_rfl) (by kernel_rfl) h4 hy3 (by kernel_rfl) (mR rfl) ?_;rw [show s1.set i.toNat x=l from zC hy4];intro cs4 h8 hl01;exact jW (m':=[(0,vS p1 s1 c1),(1,fv),(5,vI i),(6,vI j),(30,vS p1 s1 c1),(31,vI i),(32,vA [vI x.From,vI x.To,vI x.Kinds])]) ⟨rfl,rfl,rfl,rfl,rfl,rfl,rfl,trivial⟩<|zBz (hs':=(hB b [vI x.From,vI x.To,vI x.Kinds]::hO zV (vS p1 l c1) cs4::hsF)) (m':=[(0,vS p1 l c1),(1,fv),(5,vI i),(6,vI j),(30,vS p1 l c1),(31,vI i),(32,vA [vI x.From,vI x.To,vI x.Kinds])]) (by first | rfl | simp only [vS,hl01,List.nil_append,List.cons_append,List.set_cons_zero,List.set_cons_succ,List.eraseIdx_cons_zero,List.eraseIdx_cons_succ]) (by first | rfl | simp only [vS,hl01])<|yA rfl<|zI<|zK<|yJ [] [5] rfl<|xT (zBO [hB b [vI x.From,vI x.To,vI x.Kinds],hO zV (vS p1 l c1) cs4] hsF [1] rfl (by decide))<|yQ<|zT ⟨_,_,_,_,_,(zC N).symm,H,h8,rfl,rfl⟩
     intro hc2 N;exact zS<|xT (zBO [hB b [vI x.From,vI x.To,vI x.Kinds],hO zV (vS p1 s1 c1) cs1] hsF [1] rfl (by decide))<|yQ<|zT ⟨_,_,_,_,_,(zC N).symm,H,h4,rfl,rfl⟩
   rintro I03 hs2 m2 ⟨s3,i2,p3,c3,cs3,heq,le3,h7,rfl,rfl⟩;subst o0;have ⟨h1,H⟩:=m2 le3 h1 H;exact zP<|zI<|zK<|yJ [] [6] rfl<|yS<|nG<|ih s3 i2 (W (j + 1)) _ hMc H h1 h7 hg ho hx
 intro hc1 N;exact wT<|yQ<|hx _ _ _ _ _ _ (zC N).symm H h4
def sY (s:(List zV)) (del:(zV→Option Bool)):Option ((List zV)):=do
 let y←rG s del
 if (y == (-1)) then
  pure (id s)
 else
  let (s2,i1)←vO del s y (W (y + 1))
  let l1←clrL s2 i1 (zV.mk 0 0 0)
  let l2←slc l1 0 i1
  pure (id l2)
theorem gN:∀ s del r,sY s del=some r→∀ {I:Imm}{p c cs}{fv:Value}{hsF:List HA},(RL I cs s)→(FV1 Tryz.prog I hsF fv del)→RT 79 [vS p s c,fv] I (hO zV (vS p s c) cs::hsF) (jS hsF r):=by
 intro s del r N I p c cs fv hsF h h1;unfold sY at N;refine yM Tryz.func79 fun B=>vJ []<|yV<|yB 2 [] [8,9] rfl<|bE N fun y hy N=>zIL (L:=[hO zV (vS p s c) cs]) (hs1:=hsF) (rest:=[]) rfl rfl rfl rfl (by kernel_rfl) rfl (List.append_nil _).symm (fun i1 le1 hl1=>gV s del _ hy ⟨_,hl1 (hO zV (vS p s c) cs) (by simp),iM le1 h⟩ (h1.mono le1)) ?_;rintro - I0 hs2 v2 k2 le - - - ⟨v0,rfl,rfl,rfl⟩ -;refine vH (hs':=(hO zV (vS p s c) cs::hsF)) (List.append_nil _) ?_;have ⟨h,h1⟩:=m2 le h h1;refine yJ [] [5] rfl<|zZ<|yG [12] rfl<|zI<|yE N ?_ ?_
 · intro hc N;refine yG [4] rfl<|xG<|zH<|yY 0 rfl ?_;intro I01 le1 hl0;have h3:=SL.of_frozen hl0 le1 h;obtain rfl:=zC N;exact xA ⟨_,_,(.tmp rfl ResV.nil),(fun _ h=>h),⟨_,rfl,rfl,h3⟩⟩
 intro hc N;refine zS<|zZ<|yG [6] rfl<|xZ<|pJ [(0,vS p s c),(1,fv),(5,vI y),(6,vI (W (y + 1)))] ?_;obtain ⟨o01,ho01,hMl⟩:=zB N;refine jL del s y (W (y + 1)) o01 ho01 iR h1 h (fun _ _ _ h=>h) (fun _ _ h=>h) ?_;intro I04 s2 i1 p2 c2 cs2 heq1 le4 h5;subst o01;refine zR<|yV<|yB 2 [] [36,37] rfl ?_;obtain ⟨l1,hy5,N⟩:=zB hMl;refine zMe (zV.mk 0 0 0) [vI 0,vI 0,vI 0] 0 rfl rfl rfl rfl h5 hy5 (mR rfl) fun cs5 v02 h9 hl02=>jW (m':=[(0,vS p2 s2 c2),(5,vI i1),(36,vS p2 s2 c2),(37,vI i1)]) ⟨rfl,rfl,rfl,rfl,trivial⟩<|zBz (hs':=(hO zV (vS p2 l1 c2) cs5::hsF)) (m':=[(0,vS p2 l1 c2),(5,vI i1),(36,vS p2 l1 c2),(37,vI i1)]) (by first | rfl | simp only [vS,hl02,List.nil_append,List.cons_append,List.set_cons_zero,List.set_cons_succ,List.eraseIdx_cons_zero,List.eraseIdx_cons_succ]) (by first | rfl | simp only [vS,hl02])<|yA rfl<|yV<|yB 2 [] [39,40] rfl<|bE N fun l2 hy6 N=>zJr 0 rfl rfl rfl rfl rfl (by kernel_rfl) rfl rfl h9 hy6 ?_;rintro p4 c4 cs6 - h10;refine vH (hs':=(hO zV (vS p4 l2 c4) cs6::hsF)) rfl<|yJ [] [4] rfl<|xG<|yY 0 rfl ?_;intro I05 le5 hl03;have h11:=SL.of_frozen hl03 le5 h10;obtain rfl:=zC N;exact xA ⟨_,_,(.tmp rfl ResV.nil),(fun _ h=>h),⟨_,rfl,rfl,h11⟩⟩
def vU (s:(List Int)) (v0:Int) (t8:Int):Option (Out Unit (Int)):=do
 if (decide (t8 < (s.length:Int))) then
  let x←idx s t8
  if (v0 == x) then
   pure (.ret t8)
  else
   vU s v0 (W (t8 + 1))
 else
  pure (.done ())
 partial_fixpoint
theorem zAQ (s:(List Int)) (v0:Int):∀ (t8:Int) (o:Out Unit (Int)),vU s v0 t8=some o→∀ {B}{I0 I:Imm}{Q p c},I0.le I→(S4 I p s c)→NG Q→NO Q→(∀ (I':Imm) ,o=(.done ())→I0.le I'→T 19 B Q (.exit 0) I' [] [])→(∀ r I' hs' m',o=(.ret r)→I0.le I'→RS Tryz.prog Tryz.f172 B (yK  r) I' hs' m'→T 19 B Q .ret I' hs' m')→J Tryz.prog 19 B (nav (bodyOf Tryz.f172) [1,0,1,0]) Q I [] [(0,vS p s c),(1,vI v0),(7,vI (s.length:Int)),(8,vI t8)]:=by
 refine vU.partial_correctness s v0 _ fun self ih t8 o N B I0 I Q p c H h hg ho hx hr=>yT hg ho<|yG [9] rfl<|zZ<|yE N ?_ ?_
 · intro hc N;refine zS<|zZ<|yH<|yG [5] rfl<|yV<|yB 3 [] [11,12,13] rfl<|bE N fun x hy N=>xJ rfl rfl h hy ?_;intro ad ccs hat hrep;obtain rfl:=hrep;refine yX 0 hat [vI x] (vI x) rfl<|yJ [] [16] rfl<|zI<|yE N ?_ ?_
   · intro hc1 N;exact yG [4] rfl<|xG<|zW<|zH<|zH<|hr _ _ _ _ (zC N).symm H ⟨_,_,(.tmp rfl ResV.nil),zQ,⟨_,rfl,rfl,rfl⟩⟩
   intro hc1 N;exact zS<|zP<|zI<|zK<|yJ [] [8] rfl<|yS<|nG<|ih (W (t8 + 1)) _ N H h hg ho hx hr
 intro hc N;exact wT<|yQ<|hx _  (zC N).symm H
def nJ (s:(List Int)) (v0:Int):Option (Int):=do
 match←vU s v0 0 with
 | .ret r0=>pure r0
 | .done _ =>
  pure (-1)
theorem zBL:∀ s v0 r,nJ s v0=some r→∀ {I:Imm}{p c},(S4 I p s c)→RT 172 [vS p s c,vI v0] I [] (yK  r):=by
 intro s v0 r N I p c h;unfold nJ at N;refine yM Tryz.func172 fun B=>vJ []<|zZ<|yG [7,8] rfl<|xZ<|pJ [(0,vS p s c),(1,vI v0),(7,vI (s.length:Int)),(8,vI 0)] ?_;obtain ⟨o0,ho0,hMl⟩:=zB N;refine zAQ s v0 0 o0 ho0 iR h (fun _ _ _ h=>h) (fun _ _ h=>h) ?_ ?_
 · intro I0  heq le;subst o0;refine zR<|vG [4] rfl<|zI<|yW ?_;obtain rfl:=zC hMl;exact wP
 intro r0 I9 hs9 m9 heq9 le9 hrs9;subst heq9;refine zW<|zH ?_;obtain rfl:=zC hMl;exact xA hrs9
def tF (s:(List Int)) (v0:Int):Option (Bool):=do
 let y←nJ s v0
 pure (decide (y ≥ 0))
theorem gO:∀ s v0 r,tF s v0=some r→∀ {I:Imm}{p c},(S4 I p s c)→RT 124 [vS p s c,vI v0] I [] (zU  r):=by
 intro s v0 r N I p c h;unfold tF at N;refine yM Tryz.func124 fun B=>vJ []<|yV<|yB 2 [] [5,6] rfl<|bE N fun y hy N=>gS (zBL s v0 _ hy h) fun I0 le=>yJ [] [4] rfl<|zI<|yW ?_;obtain rfl:=zC N;exact wP
def pM (t:tT) (from0:Int) (to0:Int):Option (Int):=do
 let x←idx t.reads to0
 let x1←idx t.writes from0
 let y←tF x x1
 let kinds←(do
   if y then
    pure (W (0 + 1))
   else
    pure (id 0)
     : Option Int)
 let x2←idx t.reads from0
 let x3←idx t.writes to0
 let y1←tF x2 x3
 let kinds1←(do
   if y1 then
    pure (W (kinds + 2))
   else
    pure (id kinds)
     : Option Int)
 let x4←idx t.writes from0
 let x5←idx t.writes to0
 let kinds2←(do
   if (x4 == x5) then
    pure (W (kinds1 + 4))
   else
    pure (id kinds1)
     : Option Int)
 pure (id kinds2)
theorem zBZ:∀ t from0 to0 r,pM t from0 to0=some r→∀ {I:Imm}{ad:Addr}{p c p1 c1 p2 c2 p3 c3 p4 c4},(S4 I p t.Program.Arrays c)→(S4 I p1 t.Program.Parts c1)→(S4 I p2 t.list c2)→(S4 I p3 t.reads c3)→(S4 I p4 t.writes c4)→(At I ad [vS p t.Program.Arrays c,vS p1 t.Program.Parts c1,vS p2 t.list c2,vS p3 t.reads c3,vS p4 t.writes c4])→RT 77 [.pointer (some ad),vI from0,vI to0] I [] (yK  r):=by
 intro t from0 to0 r N I ad p c p1 c1 p2 c2 p3 c3 p4 c4 h h1 h2 h3 h4 hat;unfold pM at N;refine yM Tryz.func77 fun B=>?_;have H:=iS I;refine vJ []<|vG [7] rfl<|zZ<|yC ?_;obtain ⟨x,hy,N⟩:=zB N;obtain ⟨x1,hy1,N⟩:=zB N;obtain ⟨y,hy2,N⟩:=zB N;refine wA [.p (.pointer (some ad)) [],.p (.pointer (some ad)) [],.p (.pointer (some (ad.add 3))) [],.q (vS p3 t.reads c3),.p (vI to0) [],.x (fun I' v hx=>∃ ad1 p5 c5,v=.pointer (some ad1)∧hx=[]∧(At I' ad1 [vS p5 x c5])∧(S4 I' p5 x c5)),.x (eS x),.p (.pointer (some ad)) [],.p (.pointer (some ad)) [],.p (.pointer (some (ad.add 4))) [],.q (vS p4 t.writes c4),.p (vI from0) [],.x (fun I' v hx=>∃ ad2,v=.pointer (some ad2)∧hx=[]∧(At I' ad2 [vI x1])),.q (vI x1),.q (.bool y)] [[],[(0,false)],[(1,false)],[(2,false)],[],[(3,false),(4,false)],[(5,false)],[],[(7,false)],[(8,false)],[(9,false)],[],[(10,false),(11,false)],[(12,false)],[(6,false),(13,false)]] [] [] [(14,false)] zQ ?_ ?_
 · refine Op<|Op<|Op<|Oq ?_<|Op<|Ox ?_<|Ox ?_<|Op<|Op<|Op<|Oq ?_<|Op<|Ox ?_<|Oq ?_<|Oq ?_<|On
   · intro I1 hf le1;refine yN [10] rfl ?_;have hat:=hat.mono le1;exact yX 3 hat [vS p3 t.reads c3] (vS p3 t.reads c3) rfl<|yP iR
   · intro I1 hf le1;refine yN [11,12] rfl ?_;have h3:=h3.mono le1;refine xJ rfl rfl h3 hy ?_;intro ad1 ccs hat1 hrep;obtain ⟨v0,rfl,h5⟩:=hrep;obtain ⟨p5,c5,rfl⟩:=h5.form;exact yI [] iR ⟨_,_,_,rfl,rfl,hat1,h5⟩
   · rintro I1 hf le1 _ _ ⟨ad1,p5,c5,rfl,rfl,hat1,h5⟩;exact yN [13] rfl<|yX 0 hat1 [vS p5 x c5] (vS p5 x c5) rfl<|yI [] iR ⟨_,_,rfl,rfl,h5⟩
   · intro I1 hf le1;refine yN [17] rfl ?_;have hat:=hat.mono le1;exact yX 4 hat [vS p4 t.writes c4] (vS p4 t.writes c4) rfl<|yP iR
   · intro I1 hf le1;refine yN [18,19] rfl ?_;have h4:=h4.mono le1;refine xJ rfl rfl h4 hy1 ?_;intro ad2 ccs1 hat2 hrep1;obtain rfl:=hrep1;exact yI [] iR ⟨_,rfl,rfl,hat2⟩
   · rintro I1 hf le1 _ _ ⟨ad2,rfl,rfl,hat2⟩;exact yN [20] rfl<|yX 0 hat2 [vI x1] (vI x1) rfl<|yP iR
   rintro I1 hf le1 _ _ ⟨p51,c51,rfl,rfl,h51⟩;refine yN [14,21] rfl ?_;have H:=iS I1;refine vZ (gO x x1 _ hy2 h51) ?_;intro I0 le;have H:=H.trans le;exact yP H
 intro I01 le1;refine yN [0,1,2,7,22] rfl ?_;have ⟨h3,h4,hat,H⟩:=m4 le1 h3 h4 hat H;refine yA rfl<|zI ?_;refine wE N [] (fun kinds=>[(0,.pointer (some ad)),(1,vI from0),(2,vI to0),(7,vI kinds)]) (fun o0 ho0=>?_) ?_
 · have H:=iS I01;refine yE ho0 ?_ ?_
   · intro hc N;exact zK<|yJ [] [7] rfl<|yQ<|zT (ct N H)
   intro hc N;exact zS<|yQ<|zT (ct N H)
 intro kinds I02 le2 hMc;have ⟨h3,h4,hat,H⟩:=m4 le2 h3 h4 hat H;refine zZ<|yC ?_;obtain ⟨x2,hy3,N⟩:=zB hMc;obtain ⟨x3,hy4,N⟩:=zB N;obtain ⟨y1,hy5,N⟩:=zB N;refine wA [.p (.pointer (some ad)) [],.p (.pointer (some ad)) [],.p (.pointer (some (ad.add 3))) [],.q (vS p3 t.reads c3),.p (vI from0) [],.x (fun I' v hx=>∃ ad3 p6 c6,v=.pointer (some ad3)∧hx=[]∧(At I' ad3 [vS p6 x2 c6])∧(S4 I' p6 x2 c6)),.x (eS x2),.p (.pointer (some ad)) [],.p (.pointer (some ad)) [],.p (.pointer (some (ad.add 4))) [],.q (vS p4 t.writes c4),.p (vI to0) [],.x (fun I' v hx=>∃ ad4,v=.pointer (some ad4)∧hx=[]∧(At I' ad4 [vI x3])),.q (vI x3),.q (.bool y1)] [[],[(0,false)],[(1,false)],[(2,false)],[],[(3,false),(4,false)],[(5,false)],[],[(7,false)],[(8,false)],[(9,false)],[],[(10,false),(11,false)],[(12,false)],[(6,false),(13,false)]] [] [] [(14,false)] zQ ?_ ?_
 · refine Op<|Op<|Op<|Oq ?_<|Op<|Ox ?_<|Ox ?_<|Op<|Op<|Op<|Oq ?_<|Op<|Ox ?_<|Oq ?_<|Oq ?_<|On
   · intro I1 hf le1;refine yN [27] rfl ?_;have hat:=hat.mono le1;exact yX 3 hat [vS p3 t.reads c3] (vS p3 t.reads c3) rfl<|yP iR
   · intro I1 hf le1;refine yN [28,29] rfl ?_;have h3:=h3.mono le1;refine xJ rfl rfl h3 hy3 ?_;intro ad3 ccs2 hat3 hrep2;obtain ⟨v02,rfl,h7⟩:=hrep2;obtain ⟨p6,c6,rfl⟩:=h7.form;exact yI [] iR ⟨_,_,_,rfl,rfl,hat3,h7⟩
   · rintro I1 hf le1 _ _ ⟨ad3,p6,c6,rfl,rfl,hat3,h7⟩;exact yN [30] rfl<|yX 0 hat3 [vS p6 x2 c6] (vS p6 x2 c6) rfl<|yI [] iR ⟨_,_,rfl,rfl,h7⟩
   · intro I1 hf le1;refine yN [34] rfl ?_;have hat:=hat.mono le1;exact yX 4 hat [vS p4 t.writes c4] (vS p4 t.writes c4) rfl<|yP iR
   · intro I1 hf le1;refine yN [35,36] rfl ?_;have h4:=h4.mono le1;refine xJ rfl rfl h4 hy4 ?_;intro ad4 ccs3 hat4 hrep3;obtain rfl:=hrep3;exact yI [] iR ⟨_,rfl,rfl,hat4⟩
   · rintro I1 hf le1 _ _ ⟨ad4,rfl,rfl,hat4⟩;exact yN [37] rfl<|yX 0 hat4 [vI x3] (vI x3) rfl<|yP iR
   rintro I1 hf le1 _ _ ⟨p61,c61,rfl,rfl,h71⟩;refine yN [31,38] rfl ?_;have H:=iS I1;refine vZ (gO x2 x3 _ hy5 h71) ?_;intro I03 le3;have H:=H.trans le3;exact yP H
 intro I04 le4;refine yN [0,1,2,7,39] rfl ?_;have ⟨h4,hat,H⟩:=m3 le4 h4 hat H;refine yA rfl<|zI ?_;refine wE N [] (fun kinds1=>[(0,.pointer (some ad)),(1,vI from0),(2,vI to0),(7,vI kinds1)]) (fun o01 ho01=>?_) ?_
 · have H:=iS I04;refine yE ho01 ?_ ?_
   · intro hc1 N;exact zK<|yJ [] [7] rfl<|yQ<|zT (ct N H)
   intro hc1 N;exact zS<|yQ<|zT (ct N H)
 intro kinds1 I05 le5 hMc1;have ⟨h4,hat,H⟩:=m3 le5 h4 hat H;refine zZ<|yC<|kY (by kernel_rfl) (by kernel_rfl)<|fU 3 [] [44] rfl<|eK 4 hat [vS p4 t.writes c4] (vS p4 t.writes c4) rfl<|fU 5 [] [46] rfl ?_;obtain ⟨x4,hy6,N⟩:=zB hMc1;refine dQ rfl rfl h4 hy6 ?_;intro ad5 ccs4 hat5 hrep4;obtain rfl:=hrep4;refine eK 0 hat5 [vI x4] (vI x4) rfl<|fU 10 [] [51] rfl<|eK 4 hat [vS p4 t.writes c4] (vS p4 t.writes c4) rfl<|fU 12 [] [53] rfl<|bE N fun x5 hy7 N=>dQ rfl rfl h4 hy7 ?_;intro ad6 ccs5 hat6 hrep5;obtain rfl:=hrep5;refine eK 0 hat6 [vI x5] (vI x5) rfl<|zGy [] [56] rfl<|zI ?_;refine wE N [] (fun kinds2=>[(7,vI kinds2)]) (fun o02 ho02=>?_) ?_
 · have H:=iS I05;refine yE ho02 ?_ ?_
   · intro hc2 N;exact zK<|yJ [] [7] rfl<|yQ<|zT (ct N H)
   intro hc2 N;exact zS<|yQ<|zT (ct N H)
 intro kinds2 I06 le6 hMc2;refine vG [6] rfl<|zI<|yW ?_;obtain rfl:=zC hMc2;exact wP
def zBp (r:(List zV)):KT:=fun kk I' hs' v=>
  ∃ a0 c0 s0,hs'=[.osl (.slice a0 r.length c0) (Rp.sz zV) s0]∧v=tupV [(.slice a0 r.length c0)]∧RepL (Rp.rep I') (Rp.sz zV) s0 r
def tZ (t:tT) (t12:Int) (out2:List zV) (to0:Int):Option (List zV):=do
 if (decide (to0 < (t.list.length:Int))) then
  let y←pM t t12 to0
  let out4←(do
    if (decide (y > 0)) then
     let out5←app 24 out2 ([(zV.mk t12 to0 y)]:List zV)
     pure (id out5)
    else
     pure (id out2)
      : Option (List zV))
  tZ t t12 out4 (W (to0 + 1))
 else
  pure (id out2)
 partial_fixpoint
theorem zB0 (t:tT) (t12:Int):∀ (out2:List zV) (to0:Int) (o:List zV),tZ t t12 out2 to0=some o→∀ {B}{I0 I:Imm}{Q}  {ad:Addr}{p c p1 c1 p2 c2 p3 c3 p4 c4 p7 c7 cs2},I0.le I→(S4 I p t.Program.Arrays c)→(S4 I p1 t.Program.Parts c1)→(S4 I p2 t.list c2)→(S4 I p3 t.reads c3)→(S4 I p4 t.writes c4)→(At I ad [vS p t.Program.Arrays c,vS p1 t.Program.Parts c1,vS p2 t.list c2,vS p3 t.reads c3,vS p4 t.writes c4])→(RL I cs2 out2)→NG Q→NO Q→(∀ (I':Imm) (out3:List zV) (p8:Option Addr) (c8:Nat) (cs3:List Value),o=out3→I0.le I'→(RL I' cs3 out3)→T 41 B Q (.exit 2) I' [hO zV (vS p8 out3 c8) cs3] [(0,.pointer (some ad)),(3,vS p8 out3 c8),(11,vI (t.list.length:Int)),(12,vI t12)])→J Tryz.prog 41 B (nav (bodyOf Tryz.f80) [1,1,0,1,0,0,1,1,0,0,1,1,0]) Q I [hO zV (vS p7 out2 c7) cs2] [(0,.pointer (some ad)),(3,vS p7 out2 c7),(4,vI t12),(5,vI to0),(11,vI (t.list.length:Int)),(12,vI t12)]:=by
 refine tZ.partial_correctness t t12 _ fun self ih out2 to0 o N B I0 I Q ad p c p1 c1 p2 c2 p3 c3 p4 c4 p7 c7 cs2 H h h1 h2 h3 h4 hat h8 hg ho hx=>yT hg ho<|yC<|yF<|yB 4 [] [17,20] rfl<|yX 2 hat [vS p2 t.list c2] (vS p2 t.list c2) rfl<|yJ [] [23] rfl<|zI<|yE N ?_ ?_
 · intro hc1 N;refine zS<|zZ<|yH<|yF<|yB 3 [] [26,27,28] rfl<|bE N fun y hy N=>gS (zBZ t t12 to0 _ hy h h1 h2 h3 h4 hat) ?_;intro I0 le;have ⟨h,h1,h2,h3,h4,hat⟩:=m6 le h h1 h2 h3 h4 hat;have ⟨h8,H⟩:=m2 le h8 H;refine yJ [] [6] rfl<|vG [31] rfl<|zI ?_;obtain ⟨o0,ho0,hMc⟩:=zB N;refine qL (fun I' hs' m'=>∃ (out4:List zV) (p9:Option Addr) (c9:Nat) (cs4:List Value),o0=out4∧I0.le I'∧(RL I' cs4 out4)∧hs'=[hO zV (vS p9 out4 c9) cs4]∧m'=[(0,.pointer (some ad)),(3,vS p9 out4 c9),(4,vI t12),(5,vI to0),(11,vI (t.list.length:Int)),(12,vI t12)]) ?_ ?_
   · have H:=iS I0;refine yE ho0 ?_ ?_
     · intro hc2 N;refine zK<|yB 5 [] [32,36] rfl<|tH [vI t12,vI to0,vI y] zV ?_;intro b hb;have h12:RL I0 [vI t12,vI to0,vI y] ([(zV.mk t12 to0 y)]:List zV):=⟨[vI t12,vI to0,vI y],_,rfl,rfl,(mR rfl),rfl⟩;obtain ⟨out5,hy1,N⟩:=zB N;exact qI 67 3 1 rfl rfl rfl h8 (.inr ⟨0,rfl⟩) h12 hy1 fun p10 c10 cs5 h13=>sD (zY [1] (hs':=[hO zV (vS p10 out5 c10) cs5]))<|yJ [] [3] rfl<|yQ<|zT ⟨_,_,_,_,(zC N).symm,H,h13,rfl,rfl⟩
     intro hc2 N;exact zS<|yQ<|zT ⟨_,_,_,_,(zC N).symm,H,h8,rfl,rfl⟩
   rintro I01 hs2 m2 ⟨out4,p9,c9,cs4,heq,le1,h11,rfl,rfl⟩;subst o0;have ⟨h,h1,h2,h3,h4,hat⟩:=m6 le1 h h1 h2 h3 h4 hat;have H:=H.trans le1;exact zP<|zI<|zK<|yJ [] [5] rfl<|yS<|nG<|ih out4 (W (to0 + 1)) _ hMc H h h1 h2 h3 h4 hat h11 hg ho hx
 intro hc1 N;exact wT<|yQ<|hx _ _ _ _ _ (zC N).symm H h8
def sA (t:tT) (out:List zV) (t12:Int):Option (List zV):=do
 if (decide (t12 < (t.list.length:Int))) then
  let out3←tZ t t12 out (W (t12 + 1))
  sA t out3 (W (t12 + 1))
 else
  pure (id out)
 partial_fixpoint
theorem zB1 (t:tT):∀ (out:List zV) (t12:Int) (o:List zV),sA t out t12=some o→∀ {B}{I0 I:Imm}{Q}  {ad:Addr}{p c p1 c1 p2 c2 p3 c3 p4 c4 p5 c5 cs},I0.le I→(S4 I p t.Program.Arrays c)→(S4 I p1 t.Program.Parts c1)→(S4 I p2 t.list c2)→(S4 I p3 t.reads c3)→(S4 I p4 t.writes c4)→(At I ad [vS p t.Program.Arrays c,vS p1 t.Program.Parts c1,vS p2 t.list c2,vS p3 t.reads c3,vS p4 t.writes c4])→(RL I cs out)→NG Q→NO Q→(∀ (I':Imm) (out1:List zV) (p6:Option Addr) (c6:Nat) (cs1:List Value),o=out1→I0.le I'→(RL I' cs1 out1)→T 41 B Q (.exit 0) I' [hO zV (vS p6 out1 c6) cs1] [(3,vS p6 out1 c6)])→J Tryz.prog 41 B (nav (bodyOf Tryz.f80) [1,1,0,1,0]) Q I [hO zV (vS p5 out c5) cs] [(0,.pointer (some ad)),(3,vS p5 out c5),(11,vI (t.list.length:Int)),(12,vI t12)]:=by
 refine sA.partial_correctness t _ fun self ih out t12 o N B I0 I Q ad p c p1 c1 p2 c2 p3 c3 p4 c4 p5 c5 cs H h h1 h2 h3 h4 hat h6 hg ho hx=>yT hg ho<|yG [13] rfl<|zZ<|yE N ?_ ?_
 · intro hc N;refine zS<|zZ<|yH<|yG [4] rfl<|vG [5] rfl<|xZ<|pJ [(0,.pointer (some ad)),(3,vS p5 out c5),(4,vI t12),(5,vI (W (t12 + 1))),(11,vI (t.list.length:Int)),(12,vI t12)] ?_;obtain ⟨o01,ho01,hMl⟩:=zB N;refine zB0 t t12 out (W (t12 + 1)) o01 ho01 iR h h1 h2 h3 h4 hat h6 (fun _ _ _ h=>hg _ _ _ h) (fun _ _ h=>ho _ _ h) ?_;intro I02 out3 p8 c8 cs3 heq1 le2 h9;subst o01;have ⟨h,h1,h2,h3,h4,hat⟩:=m6 le2 h h1 h2 h3 h4 hat;have H:=H.trans le2;exact zR<|zP<|zI<|zK<|yJ [] [12] rfl<|yS<|nG<|ih out3 (W (t12 + 1)) _ hMl H h h1 h2 h3 h4 hat h9 hg ho hx
 intro hc N;exact wT<|yQ<|hx _ _ _ _ _ (zC N).symm H h6
def nS (t:tT):Option ((List zV)):=do
 let out1←sA t ([]:List zV) 0
 pure (id out1)
theorem dV:∀ t r,nS t=some r→∀ {I:Imm}{ad:Addr}{p c p1 c1 p2 c2 p3 c3 p4 c4},(S4 I p t.Program.Arrays c)→(S4 I p1 t.Program.Parts c1)→(S4 I p2 t.list c2)→(S4 I p3 t.reads c3)→(S4 I p4 t.writes c4)→(At I ad [vS p t.Program.Arrays c,vS p1 t.Program.Parts c1,vS p2 t.list c2,vS p3 t.reads c3,vS p4 t.writes c4])→RT 80 [.pointer (some ad)] I [] (zBp  r):=by
 intro t r N I ad p c p1 c1 p2 c2 p3 c3 p4 c4 h h1 h2 h3 h4 hat;unfold nS at N;refine yM Tryz.func80 fun B=>vJ []<|zF0 [(3,z0)]<|zZ<|yF<|yB 3 [] [9] rfl<|yX 2 hat [vS p2 t.list c2] (vS p2 t.list c2) rfl<|yJ [] [11,12] rfl<|xZ<|pJ [(0,.pointer (some ad)),(3,z0),(11,vI (t.list.length:Int)),(12,vI 0)]<|zAE zV fun h5=>?_;obtain ⟨o02,ho02,hMl1⟩:=zB N;refine zB1 t ([]:List zV) 0 o02 ho02 iR h h1 h2 h3 h4 hat h5 (fun _ _ _ h=>h) (fun _ _ h=>h) ?_;intro I03 out1 p6 c6 cs1 heq2 le3 h7;subst o02;refine zR<|vG [2] rfl<|zI<|yW ?_;obtain rfl:=zC hMl1;exact xA ⟨_,_,(.tmp rfl ResV.nil),(zX [0] rfl (by decide)),⟨_,_,_,rfl,rfl,h7⟩⟩
def nF (d0:zV) (x:tT):Option (Bool):=do
 let x1←idx x.list d0.From
 let y←pC x.Program x1
 let x2←idx x.list d0.To
 let y1←pC x.Program x2
 let t3←(do
   let y2←fZ y
   if y2 then
    let y3←fZ y1
    if y3 then
     pure (y.Write.Array.l == y1.Write.Array.l)
    else
     pure false
   else
    pure false
     : Option Bool)
 pure (id t3)
theorem zCT:∀ d0 x r,nF d0 x=some r→∀ {I:Imm}{ad:Addr}{ad1:Addr}{p c p1 c1 p2 c2 p3 c3 p4 c4},(S4 I p x.Program.Arrays c)→(S4 I p1 x.Program.Parts c1)→(S4 I p2 x.list c2)→(S4 I p3 x.reads c3)→(S4 I p4 x.writes c4)→(At I ad1 [vS p x.Program.Arrays c,vS p1 x.Program.Parts c1,vS p2 x.list c2,vS p3 x.reads c3,vS p4 x.writes c4])→(At I ad [.pointer (some ad1)])→RT 81 [vA [vI d0.From,vI d0.To,vI d0.Kinds],.pointer (some ad)] I [] (zU  r):=by
 intro d0 x r N I ad ad1 p c p1 c1 p2 c2 p3 c3 p4 c4 h h1 h2 h3 h4 hat hat1;unfold nF at N;refine yM Tryz.func81 fun B=>?_;have H:=iS I;refine yF<|vX [vI d0.From,vI d0.To,vI d0.Kinds] ?_;intro b hb;refine wG [] []<|zI<|yC ?_;obtain ⟨x1,hy,N⟩:=zB N;obtain ⟨y,hy1,N⟩:=zB N;obtain ⟨x2,hy2,N⟩:=zB N;obtain ⟨y1,hy3,N⟩:=zB N;refine wA [.q (.pointer (some ad1)),.p (.pointer (some ad1)) [],.p (.pointer (some ad1)) [],.q (vA (cProg x.Program p c p1 c1)),.q (.pointer (some ad1)),.p (.pointer (some ad1)) [],.p (.pointer (some (ad1.add 2))) [],.q (vS p2 x.list c2),.p (vP b 0) [],.p (vI d0.From) [0],.x (ePInst x1),.x (eVInst x1),.x (eVStmt y),.q (.pointer (some ad1)),.p (.pointer (some ad1)) [],.p (.pointer (some ad1)) [],.q (vA (cProg x.Program p c p1 c1)),.q (.pointer (some ad1)),.p (.pointer (some ad1)) [],.p (.pointer (some (ad1.add 2))) [],.q (vS p2 x.list c2),.p (vP b 1) [],.p (vI d0.To) [0],.x (ePInst x2),.x (eVInst x2),.x (eVStmt y1),.x (fun I' v hx=>∃ b1,v=vP b1 0∧hx=[hB b1 [vT ([]),z0,vI 0,vI 0,z0,vI 0,vT ([]),z0,z0]]),.x (fun I' v hx=>∃ b2,v=vP b2 0∧hx=[hB b2 [vT ([]),z0,vI 0,vI 0,z0,vI 0,vT ([]),z0,z0]]),.x (fun I' v hx=>∃ b11 p61 c61 p71 c71 p81 c81 p91 c91,v=vP b11 0∧hx=[hB b11 (cStmt y p61 c61 p71 c71 p81 c81 p91 c91)]∧(S4 I' p61 y.Write.Subs c61)∧(S4 I' p71 y.Value.Index.Coefs c71)∧(S4 I' p81 y.Value.Read.Subs c81)∧(S4 I' p91 y.Value.Kids c91))] [[],[(0,false)],[(1,false)],[(2,false)],[],[(4,false)],[(5,false)],[(6,false)],[],[(8,false)],[(7,false),(9,false)],[(10,false)],[(3,false),(11,false)],[],[(13,false)],[(14,false)],[(15,false)],[],[(17,false)],[(18,false)],[(19,false)],[],[(21,false)],[(20,false),(22,false)],[(23,false)],[(16,false),(24,false)],[],[],[(12,false),(26,true)]] [hB b [vI d0.From,vI d0.To,vI d0.Kinds]] [] [(25,false),(27,true),(28,true)] (zY [0]) ?_ ?_
 · refine Oq ?_<|Op<|Op<|Oq ?_<|Oq ?_<|Op<|Op<|Oq ?_<|Op<|Op<|Ox ?_<|Ox ?_<|Ox ?_<|Oq ?_<|Op<|Op<|Oq ?_<|Oq ?_<|Op<|Op<|Oq ?_<|Op<|Op<|Ox ?_<|Ox ?_<|Ox ?_<|Ox ?_<|Ox ?_<|Ox ?_<|On
   · intro I1 hf le1;refine yN [1] rfl ?_;have hat1:=hat1.mono le1;exact yX 0 hat1 [.pointer (some ad1)] (.pointer (some ad1)) rfl<|yP iR
   · intro I1 hf le1;refine yN [8] rfl ?_;have hat:=hat.mono le1;exact yX 0 hat (cProg x.Program p c p1 c1) (vA (cProg x.Program p c p1 c1)) rfl<|yP iR
   · intro I1 hf le1;refine yN [1] rfl ?_;have hat1:=hat1.mono le1;exact yX 0 hat1 [.pointer (some ad1)] (.pointer (some ad1)) rfl<|yP iR
   · intro I1 hf le1;refine yN [12] rfl ?_;have hat:=hat.mono le1;exact yX 2 hat [vS p2 x.list c2] (vS p2 x.list c2) rfl<|yP iR
   · intro I1 hf le1;refine yN [13,15] rfl ?_;have h2:=h2.mono le1;refine xJ rfl rfl h2 hy ?_;intro ad2 ccs hat2 hrep;obtain ⟨p5,c5,rfl,h5⟩:=qF hrep;exact yI [] iR ⟨_,_,_,rfl,rfl,hat2,h5⟩
   · rintro I1 hf le1 _ _ ⟨ad2,p5,c5,rfl,rfl,hat2,h5⟩;exact yN [16] rfl<|yX 0 hat2 (cInst x1 p5 c5) (vA (cInst x1 p5 c5)) rfl<|yI [] iR ⟨_,_,rfl,rfl,h5⟩
   · rintro I1 hf le1 _ _ ⟨rfl,rfl⟩ _ _ ⟨p51,c51,rfl,rfl,h51⟩;refine yN [9,17] rfl ?_;have H:=iS I1;have ⟨h,h1⟩:=m2 le1 h h1;refine xQ (gB x.Program x1 _ hy1 h h1 h51) ?_;rintro I0 hs2 v2 k2 le - ⟨v01,rfl,rfl,⟨cs,rfl,h6⟩⟩ -;have H:=H.trans le;obtain ⟨p6,c6,p7,c7,p8,c8,p9,c9,rfl,h7,h8,h9,h10⟩:=tG h6;exact yI [] H ⟨_,_,_,_,_,_,_,_,rfl,rfl,h7,h8,h9,h10⟩
   · intro I1 hf le1;refine yN [1] rfl ?_;have hat1:=hat1.mono le1;exact yX 0 hat1 [.pointer (some ad1)] (.pointer (some ad1)) rfl<|yP iR
   · intro I1 hf le1;refine yN [21] rfl ?_;have hat:=hat.mono le1;exact yX 0 hat (cProg x.Program p c p1 c1) (vA (cProg x.Program p c p1 c1)) rfl<|yP iR
   · intro I1 hf le1;refine yN [1] rfl ?_;have hat1:=hat1.mono le1;exact yX 0 hat1 [.pointer (some ad1)] (.pointer (some ad1)) rfl<|yP iR
   · intro I1 hf le1;refine yN [25] rfl ?_;have hat:=hat.mono le1;exact yX 2 hat [vS p2 x.list c2] (vS p2 x.list c2) rfl<|yP iR
   · intro I1 hf le1;refine yN [26,28] rfl ?_;have h2:=h2.mono le1;refine xJ rfl rfl h2 hy2 ?_;intro ad3 ccs1 hat3 hrep1;obtain ⟨p10,c10,rfl,h11⟩:=qF hrep1;exact yI [] iR ⟨_,_,_,rfl,rfl,hat3,h11⟩
   · rintro I1 hf le1 _ _ ⟨ad3,p10,c10,rfl,rfl,hat3,h11⟩;exact yN [29] rfl<|yX 0 hat3 (cInst x2 p10 c10) (vA (cInst x2 p10 c10)) rfl<|yI [] iR ⟨_,_,rfl,rfl,h11⟩
   · rintro I1 hf le1 _ _ ⟨rfl,rfl⟩ _ _ ⟨p101,c101,rfl,rfl,h111⟩;refine yN [22,30] rfl ?_;have H:=iS I1;have ⟨h,h1⟩:=m2 le1 h h1;refine xQ (gB x.Program x2 _ hy3 h h1 h111) ?_;rintro I01 hs2 v2 k2 le1 - ⟨v07,rfl,rfl,⟨cs1,rfl,h12⟩⟩ -;have H:=H.trans le1;obtain ⟨p11,c11,p12,c12,p13,c13,p14,c14,rfl,h13,h14,h15,h16⟩:=tG h12;exact yI [] H ⟨_,_,_,_,_,_,_,_,rfl,rfl,h13,h14,h15,h16⟩
   · intro I1 hf le1;refine gY []<|wH [vT ([]),z0,vI 0,vI 0,z0,vI 0,vT ([]),z0,z0] ?_;intro b1 hb1;exact yI [hB b1 [vT ([]),z0,vI 0,vI 0,z0,vI 0,vT ([]),z0,z0]] iR ⟨_,rfl,rfl⟩
   · intro I1 hf le1;refine gY []<|wH [vT ([]),z0,vI 0,vI 0,z0,vI 0,vT ([]),z0,z0] ?_;intro b2 hb2;exact yI [hB b2 [vT ([]),z0,vI 0,vI 0,z0,vI 0,vT ([]),z0,z0]] iR ⟨_,rfl,rfl⟩
   rintro I1 hf le1 _ _ ⟨p6,c6,p7,c7,p8,c8,p9,c9,rfl,rfl,h7,h8,h9,h10⟩ _ _ ⟨b1,rfl,rfl⟩;exact yN [4,18] rfl<|zAf 0 (cStmt y p6 c6 p7 c7 p8 c8 p9 c9) (hB b1 (cStmt y p6 c6 p7 c7 p8 c8 p9 c9)::hB b [vI d0.From,vI d0.To,vI d0.Kinds]::hf) rfl rfl rfl rfl<|yI [hB b1 (cStmt y p6 c6 p7 c7 p8 c8 p9 c9)] iR ⟨_,_,_,_,_,_,_,_,_,rfl,rfl,h7,h8,h9,h10⟩
 rintro I02 le2 _ _ ⟨p11,c11,p12,c12,p13,c13,p14,c14,rfl,rfl,h13,h14,h15,h16⟩ _ _ ⟨b2,rfl,rfl⟩ _ _ ⟨b11,p61,c61,p71,c71,p81,c81,p91,c91,rfl,rfl,h71,h81,h91,h101⟩;refine yN [4,5,31] rfl ?_;have H:=H.trans le2;refine xI 1 (cStmt y1 p11 c11 p12 c12 p13 c13 p14 c14) rfl<|yA rfl<|zI<|yC ?_;refine wE N [] (fun t3=>[(3,.bool t3)]) (fun o0 ho0=>?_) ?_
 · have H:=iS I02;refine zK<|fW 1 [0] [(32,vA (cStmt y p61 c61 p71 c71 p81 c81 p91 c91))] ?_;obtain ⟨y2,hy4,N⟩:=zB ho0;refine vZ (zBd y _ hy4 h71 h81 h91 h101) ?_;intro I04 le3;have ⟨h13,h14,h15,h16,H⟩:=m5 le3 h13 h14 h15 h16 H;refine yB 3 [] [34] rfl<|xW [34] N ?_ ?_
   · intro hc N;refine fW 4 [1] [(35,vA (cStmt y1 p11 c11 p12 c12 p13 c13 p14 c14))]<|bE N fun y3 hy5 N=>vZ (zBd y1 _ hy5 h13 h14 h15 h16) ?_;intro I05 le4;have H:=H.trans le4;refine yB 7 [] [38] rfl<|xW [38] N ?_ ?_
     · intro hc1 N;exact yJ [0,1] [3] rfl<|xT zQ<|yQ<|zT (ct N H)
     intro hc1 N;exact wG [] [(3,vF)]<|xT zQ<|yQ<|zT (ct N H)
   intro hc N;exact wG [] [(3,vF)]<|xT zQ<|yQ<|zT (ct N H)
 intro t3 I03 le5 hMc;refine zI<|yW ?_;obtain rfl:=zC hMc;exact wP
def mL (r:(List zV)):KT:=fun kk I' hs' v=>
  ∃ v0,hs'=[]∧v=tupV [v0]∧SL I' v0 r
def zA9 (p:zE):Option ((List zV)):=do
 let (y1,y2)←gU p
 if (!y2) then
  pure ([]:List zV)
 else
  let t←y1
  let y3←nS t
  let y4←sY y3 (fun x0=>nF x0 t)
  pure (id y4)
theorem zJK:∀ p r,zA9 p=some r→∀ {I:Imm}{p1 c p2 c1},(S4 I p1 p.Arrays c)→(S4 I p2 p.Parts c1)→RT 28 [vA (cProg p p1 c p2 c1)] I [] (mL  r):=by
 intro p r N I p1 c p2 c1 h h1;unfold zA9 at N;refine yM Tryz.func28 fun B=>yF<|vX (cProg p p1 c p2 c1) ?_;intro b hb;refine wG [] []<|yV<|fW 1 [0] [(6,vA (cProg p p1 c p2 c1))] ?_;obtain ⟨⟨y1,y2⟩,hy,N⟩:=zB N;refine xQ (zCv p _ hy h h1) ?_;rintro I0 hs2 v2 k2 le - ⟨v0,v01,rfl,rfl,h2,rfl⟩ -;have h:=h.mono le;refine yB 5 [] [8,9] rfl<|wH [.pointer none] ?_;intro b1 hb1;obtain ⟨q,rfl⟩:=zL0 h2;refine xI 0 [(.pointer q)] rfl<|yJ [] [4] rfl<|zZ<|yG [11] rfl<|zI<|yE N ?_ ?_
 · intro hc N;refine vJ [(2,z0)]<|xG<|zH ?_;obtain rfl:=zC N;exact xA ⟨_,_,(.tmp rfl ResV.nil),zQ,⟨_,rfl,rfl,(SL.nil _)⟩⟩
 intro hc N;refine zS<|yV<|yB 1 [0] [12] rfl ?_;obtain ⟨t,hy1,N⟩:=zB N;obtain ⟨ad,ccs,rfl,hat,hrep⟩:=zKe h2 hy1;obtain ⟨p3,c2,p4,c3,p5,c4,p6,c5,p7,c6,rfl,h4,h5,h6,h7,h8⟩:=zCB hrep;obtain ⟨y3,hy2,N⟩:=zB N;refine xQ (dV t _ hy2 h4 h5 h6 h7 h8 hat) ?_;rintro I01 hs2 v2 k2 le1 - ⟨p8,c7,cs,rfl,rfl,h9⟩ -;have ⟨h4,h5,h6,h7,h8,hat⟩:=m6 le1 h4 h5 h6 h7 h8 hat;have h:=h.mono le1;refine yB 3 [] [14] rfl<|xP 1 rfl ?_;intro I02 le2 hl0;have hat1:At I02 ⟨b1,0,none⟩ [.pointer (some ad)]:=At.of_blk hl0;have ⟨h9,h4,h5,h6,h7,h8⟩:=m6 le2 h9 h4 h5 h6 h7 h8;have ⟨hat,h⟩:=m2 le2 hat h;have hf0:FV1 Tryz.prog I02 [] (.func (.func 81) ⟨[]⟩ ⟨[vP b1 0]⟩) (fun x0=>nF x0 t):=by
   refine FV1.intro ?_;intro I1 le1 x0 r u0 hF k0;obtain ⟨_,rfl,k0⟩:=k0;obtain rfl:=mQ k0;exact (zCT x0 t r hF (h4.mono le1) (h5.mono le1) (h6.mono le1) (h7.mono le1) (h8.mono le1) (hat.mono le1) (hat1.mono le1)).mono (by rintro k i hs u ⟨v0,rfl,rfl,h⟩; exact ⟨rfl,h⟩)
 obtain ⟨y4,hy3,N⟩:=zB N;refine sE (gN y3 (fun x0=>nF x0 t) _ hy3 h9 hf0) rfl ?_;rintro I03 hs2 v2 k2 le3 - ⟨v07,rfl,rfl,h10⟩ -;obtain ⟨p9,c8,rfl⟩:=h10.form;refine yJ [] [2] rfl<|zI<|yW ?_;obtain rfl:=zC N;exact xA ⟨_,_,(.tmp rfl ResV.nil),zQ,⟨_,rfl,rfl,h10⟩⟩
def zBq (r:(List zO)):KT:=fun kk I' hs' v=>
  ∃ v0,hs'=[]∧v=tupV [v0]∧SL I' v0 r
def wM (p:zE) (i:Int) (y:(List (List Int))) (k0:Int) (out4:List zO) (s:Int):Option (List zO):=do
 let x1←idx p.Parts i
 if (decide (s < (x1.Body.length:Int))) then
  let x2←idx y k0
  let l←app 8 ([]:List Int) x2
  let out6←app 40 out4 ([(zO.mk i s l)]:List zO)
  wM p i y k0 out6 (W (s + 1))
 else
  pure (id out4)
 partial_fixpoint
theorem zB2 (p:zE) (i:Int) (y:(List (List Int))) (k0:Int):∀ (out4:List zO) (s:Int) (o:List zO),wM p i y k0 out4 s=some o→∀ {B}{I0 I:Imm}{Q p1 c p2 c1}{b:Nat}{p7 c6 cs2 p10 c9 cs5},I0.le I→(RL I cs2 y)→(S4 I p1 p.Arrays c)→(S4 I p2 p.Parts c1)→(RL I cs5 out4)→NG Q→NO Q→(∀ (I':Imm) (out5:List zO) (p11:Option Addr) (c10:Nat) (cs6:List Value),o=out5→I0.le I'→(RL I' cs6 out5)→T 54 B Q (.exit 4) I' [hO (List Int) (vS p7 y c6) cs2,hO zO (vS p11 out5 c10) cs6,hB b (cProg p p1 c p2 c1)] [(1,vP b 0),(3,vS p11 out5 c10),(4,vI i),(5,vS p7 y c6),(6,vI k0)])→J Tryz.prog 54 B (nav (bodyOf Tryz.f65) [1,1,0,1,0,0,1,0,0,1,1,0,0,1,0,0,1,0]) Q I [hO (List Int) (vS p7 y c6) cs2,hO zO (vS p10 out4 c9) cs5,hB b (cProg p p1 c p2 c1)] [(1,vP b 0),(3,vS p10 out4 c9),(4,vI i),(5,vS p7 y c6),(6,vI k0),(7,vI s)]:=by
 refine wM.partial_correctness p i y k0 _ fun self ih out4 s o N B I0 I Q p1 c p2 c1 b p7 c6 cs2 p10 c9 cs5 H h8 h h1 h11 hg ho hx=>yT hg ho<|yC<|yF<|yB 4 [2] [30,32,33] rfl<|bE N fun x1 hy2 N=>xJ rfl rfl h1 hy2 ?_;intro ad1 ccs1 hat1 hrep1;obtain ⟨p12,c11,p13,c12,rfl,h13,h14⟩:=wW hrep1;refine yB 6 [] [35] rfl<|yX 1 hat1 [vS p13 x1.Body c12] (vS p13 x1.Body c12) rfl<|yJ [] [38] rfl<|zI<|yE N ?_ ?_
 · intro hc2 N;refine zS<|zZ<|yH<|zK<|yB 3 [] [41,42,43] rfl<|tH [] Int ?_;intro b3 hb3;have h15:RL I [] ([]:List Int):=rfl;refine yB 6 [] [45,46] rfl<|bE N fun x2 hy3 N=>mF 1 rfl rfl rfl h8 hy3 ?_;intro ad2 ccs2 hat2 hcc hrep2;obtain ⟨v04,rfl,h16⟩:=hrep2;obtain ⟨p14,c13,rfl⟩:=h16.form;refine zDC 1 0 hat2 hcc [vS p14 x2 c13] (vS p14 x2 c13) rfl rfl ?_;obtain ⟨ccs3,k01,k02⟩:=h16;have h16:SL I (vS p14 x2 c13) x2:=⟨_,k01,k02⟩;obtain ⟨l,hy4,N⟩:=zB N;refine qI 3 1 0 rfl rfl rfl h15 (.inl k01) k02 hy4 fun p15 c14 cs7 h17=>sD (zY [0,1,2,3] (hs':=[hO Int (vS p15 l c14) cs7,hO (List Int) (vS p7 y c6) cs2,hO zO (vS p10 out4 c9) cs5,hB b (cProg p p1 c p2 c1)]))<|yB 10 [] [50] rfl<|xP 0 rfl ?_;intro I01 le1 hl0;have h18:=SL.of_frozen hl0 le1 h17;have ⟨h8,h11,h,h1,H⟩:=m5 le1 h8 h11 h h1 H;refine tH [vI i,vI s,vS p15 l c14] zO ?_;intro b4 hb4;have h19:RL I01 [vI i,vI s,vS p15 l c14] ([(zO.mk i s l)]:List zO):=⟨[vI i,vI s,vS p15 l c14],_,rfl,rfl,(zAD ⟨_,rfl,h18⟩),rfl⟩;obtain ⟨out6,hy5,N⟩:=zB N;exact qI 49 3 2 rfl rfl rfl h11 (.inr ⟨0,rfl⟩) h19 hy5 fun p16 c15 cs8 h20=>sD (zY [1,2,3] (hs':=[hO (List Int) (vS p7 y c6) cs2,hO zO (vS p16 out6 c15) cs8,hB b (cProg p p1 c p2 c1)]))<|yJ [] [3] rfl<|zP<|zI<|zK<|yJ [] [7] rfl<|yS<|nG<|ih out6 (W (s + 1)) _ N H h8 h h1 h20 hg ho hx
 intro hc2 N;exact wT<|yQ<|hx _ _ _ _ _ (zC N).symm H h11
def wN (p:zE) (i:Int) (y:(List (List Int))) (out2:List zO) (k0:Int):Option (List zO):=do
 if (decide (k0 < (y.length:Int))) then
  let out5←wM p i y k0 out2 0
  wN p i y out5 (W (k0 + 1))
 else
  pure (id out2)
 partial_fixpoint
theorem zB3 (p:zE) (i:Int) (y:(List (List Int))):∀ (out2:List zO) (k0:Int) (o:List zO),wN p i y out2 k0=some o→∀ {B}{I0 I:Imm}{Q p1 c p2 c1}{b:Nat}{p7 c6 cs2 p8 c7 cs3},I0.le I→(RL I cs2 y)→(S4 I p1 p.Arrays c)→(S4 I p2 p.Parts c1)→(RL I cs3 out2)→NG Q→NO Q→(∀ (I':Imm) (out3:List zO) (p9:Option Addr) (c8:Nat) (cs4:List Value),o=out3→I0.le I'→(RL I' cs4 out3)→T 54 B Q (.exit 2) I' [hO zO (vS p9 out3 c8) cs4,hB b (cProg p p1 c p2 c1)] [(1,vP b 0),(3,vS p9 out3 c8),(4,vI i)])→J Tryz.prog 54 B (nav (bodyOf Tryz.f65) [1,1,0,1,0,0,1,0,0,1,1,0]) Q I [hO (List Int) (vS p7 y c6) cs2,hO zO (vS p8 out2 c7) cs3,hB b (cProg p p1 c p2 c1)] [(1,vP b 0),(3,vS p8 out2 c7),(4,vI i),(5,vS p7 y c6),(6,vI k0)]:=by
 refine wN.partial_correctness p i y _ fun self ih out2 k0 o N B I0 I Q p1 c p2 c1 b p7 c6 cs2 p8 c7 cs3 H h8 h h1 h9 hg ho hx=>yT hg ho<|yC<|yG [27] rfl<|zI<|yE N ?_ ?_
 · intro hc1 N;refine zS<|zZ<|yH<|yG [7] rfl<|xZ<|pJ [(1,vP b 0),(3,vS p8 out2 c7),(4,vI i),(5,vS p7 y c6),(6,vI k0),(7,vI 0)] ?_;obtain ⟨o0,ho0,hMl⟩:=zB N;refine zB2 p i y k0 out2 0 o0 ho0 iR h8 h h1 h9 (fun _ _ _ h=>hg _ _ _ h) (fun _ _ h=>ho _ _ h) ?_;intro I02 out5 p11 c10 cs6 heq le2 h12;subst o0;have ⟨h8,h,h1,H⟩:=m4 le2 h8 h h1 H;exact zR<|zP<|zI<|zK<|yJ [] [6] rfl<|yS<|nG<|ih out5 (W (k0 + 1)) _ hMl H h8 h h1 h12 hg ho hx
 intro hc1 N;exact wT<|xT (zX [1,2] rfl (by decide))<|yQ<|hx _ _ _ _ _ (zC N).symm H h9
def wO (p:zE) (out:List zO) (i:Int):Option (List zO):=do
 if (decide (i < (p.Parts.length:Int))) then
  let x←idx p.Parts i
  let y←vW ([]:List (List Int)) x.Nest ([]:List Int)
  let out3←wN p i y out 0
  wO p out3 (W (i + 1))
 else
  pure (id out)
 partial_fixpoint
theorem zB4 (p:zE):∀ (out:List zO) (i:Int) (o:List zO),wO p out i=some o→∀ {B}{I0 I:Imm}{Q p1 c p2 c1}{b:Nat}{p3 c2 cs},I0.le I→(S4 I p1 p.Arrays c)→(S4 I p2 p.Parts c1)→(RL I cs out)→NG Q→NO Q→(∀ (I':Imm) (out1:List zO) (p4:Option Addr) (c3:Nat) (cs1:List Value),o=out1→I0.le I'→(RL I' cs1 out1)→T 54 B Q (.exit 0) I' [hO zO (vS p4 out1 c3) cs1] [(3,vS p4 out1 c3)])→J Tryz.prog 54 B (nav (bodyOf Tryz.f65) [1,1,0,1,0]) Q I [hO zO (vS p3 out c2) cs,hB b (cProg p p1 c p2 c1)] [(1,vP b 0),(3,vS p3 out c2),(4,vI i)]:=by
 refine wO.partial_correctness p _ fun self ih out i o N B I0 I Q p1 c p2 c1 b p3 c2 cs H h h1 h3 hg ho hx=>yT hg ho<|yC<|yF<|yJ [1] [13] rfl<|zI<|yE N ?_ ?_
 · intro hc N;refine zS<|zZ<|yH<|yF<|tH [] (List Int) ?_;intro b2 hb2;have h5:RL I [] ([]:List (List Int)):=rfl;refine yB 4 [2] [18,19] rfl<|bE N fun x hy N=>xJ rfl rfl h1 hy ?_;intro ad ccs hat hrep;obtain ⟨p5,c4,p6,c5,rfl,h6,h7⟩:=wW hrep;refine yB 6 [] [21] rfl<|yX 0 hat [vS p5 x.Nest c4] (vS p5 x.Nest c4) rfl<|bE N fun y hy1 N=>sE (zBG ([]:List (List Int)) x.Nest ([]:List Int) _ hy1 h5 h6 (SL.nil _)) rfl ?_;rintro I0 hs2 v2 k2 le - ⟨p7,c6,cs2,rfl,rfl,h8⟩ -;have ⟨h3,h,h1,H⟩:=m4 le h3 h h1 H;refine yJ [] [5] rfl<|vG [6] rfl<|xZ<|pJ [(1,vP b 0),(3,vS p3 out c2),(4,vI i),(5,vS p7 y c6),(6,vI 0)] ?_;obtain ⟨o01,ho01,hMl1⟩:=zB N;refine zB3 p i y out 0 o01 ho01 iR h8 h h1 h3 (fun _ _ _ h=>hg _ _ _ h) (fun _ _ h=>ho _ _ h) ?_;intro I03 out3 p9 c8 cs4 heq1 le3 h10;subst o01;have ⟨h,h1,H⟩:=m3 le3 h h1 H;exact zR<|zP<|zI<|zK<|yJ [] [4] rfl<|yS<|nG<|ih out3 (W (i + 1)) _ hMl1 H h h1 h10 hg ho hx
 intro hc N;exact wT<|xT (zX [0] rfl (by decide))<|yQ<|hx _ _ _ _ _ (zC N).symm H h3
def sL (p:zE):Option ((List zO)):=do
 let out1←wO p ([]:List zO) 0
 pure (id out1)
theorem dW:∀ p r,sL p=some r→∀ {I:Imm}{p1 c p2 c1},(S4 I p1 p.Arrays c)→(S4 I p2 p.Parts c1)→RT 65 [vA (cProg p p1 c p2 c1)] I [] (zBq  r):=by
 intro p r N I p1 c p2 c1 h h1;unfold sL at N;refine yM Tryz.func65 fun B=>yF<|vX (cProg p p1 c p2 c1) ?_;intro b hb;refine wG [] []<|yV<|tH [] zO ?_;intro b1 hb1;have h2:RL I [] ([]:List zO):=rfl;refine yJ [] [3] rfl<|zZ<|yG [4] rfl<|xZ<|pJ [(1,vP b 0),(3,vS (some ⟨b1,0,none⟩) ([]:List zO) 0),(4,vI 0)] ?_;obtain ⟨o02,ho02,hMl2⟩:=zB N;refine zB4 p ([]:List zO) 0 o02 ho02 iR h h1 h2 (fun _ _ _ h=>h) (fun _ _ h=>h) ?_;intro I04 out1 p4 c3 cs1 heq2 le4 h4;subst o02;refine zR<|vG [2] rfl<|xG<|yY 0 rfl ?_;intro I05 le5 hl01;have h21:=SL.of_frozen hl01 le5 h4;obtain rfl:=zC hMl2;exact xA ⟨_,_,(.tmp rfl ResV.nil),zQ,⟨_,rfl,rfl,h21⟩⟩
def gW (a0:(List Int)) (b:(List Int)) (i:Int):Option (Out Unit (Bool)):=do
 if (decide (i < (a0.length:Int))) then
  let x←idx a0 i
  let x1←idx b i
  if (x != x1) then
   pure (.ret false)
  else
   gW a0 b (W (i + 1))
 else
  pure (.done ())
 partial_fixpoint
theorem zES (a0:(List Int)) (b:(List Int)):∀ (i:Int) (o:Out Unit (Bool)),gW a0 b i=some o→∀ {B}{I0 I:Imm}{Q p c p1 c1},I0.le I→(S4 I p a0 c)→(S4 I p1 b c1)→NG Q→NO Q→(∀ (I':Imm) ,o=(.done ())→I0.le I'→T 26 B Q (.exit 0) I' [] [])→(∀ r I' hs' m',o=(.ret r)→I0.le I'→RS Tryz.prog Tryz.f120 B (zU  r) I' hs' m'→T 26 B Q .ret I' hs' m')→J Tryz.prog 26 B (nav (bodyOf Tryz.f120) [1,1,0,1,0]) Q I [] [(0,vS p a0 c),(1,vS p1 b c1),(5,vI i)]:=by
 refine gW.partial_correctness a0 b _ fun self ih i o N B I0 I Q p c p1 c1 H h h1 hg ho hx hr=>yT hg ho<|yC<|yG [14] rfl<|zI<|yE N ?_ ?_
 · intro hc1 N;refine zS<|zZ<|yH<|yC<|kY (by kernel_rfl) (by kernel_rfl)<|fU 2 [] [17,18] rfl<|bE N fun x hy N=>dQ rfl rfl h hy ?_;intro ad ccs hat hrep;obtain rfl:=hrep;refine eK 0 hat [vI x] (vI x) rfl<|fU 6 [] [21,22] rfl<|bE N fun x1 hy1 N=>dQ rfl rfl h1 hy1 ?_;intro ad1 ccs1 hat1 hrep1;obtain rfl:=hrep1;refine eK 0 hat1 [vI x1] (vI x1) rfl<|zGy [] [25] rfl<|zI<|yE N ?_ ?_
   · intro hc2 N;exact vJ [(4,vF)]<|xG<|zW<|zH<|zH<|hr _ _ _ _ (zC N).symm H ⟨_,_,(.tmp rfl ResV.nil),zQ,⟨_,rfl,rfl,rfl⟩⟩
   intro hc2 N;exact zS<|zP<|zI<|zK<|yJ [] [5] rfl<|yS<|nG<|ih (W (i + 1)) _ N H h h1 hg ho hx hr
 intro hc1 N;exact wT<|yQ<|hx _  (zC N).symm H
def zAn (a0:(List Int)) (b:(List Int)):Option (Bool):=do
 if ((a0.length:Int) != (b.length:Int)) then
  pure false
 else
  match←gW a0 b 0 with
  | .ret r0=>pure r0
  | .done _ =>
   pure true
theorem zG4:∀ a0 b r,zAn a0 b=some r→∀ {I:Imm}{p c p1 c1},(S4 I p a0 c)→(S4 I p1 b c1)→RT 120 [vS p a0 c,vS p1 b c1] I [] (zU  r):=by
 intro a0 b r N I p c p1 c1 h h1;unfold zAn at N;refine yM Tryz.func120 fun B=>vJ []<|zZ<|yG [10] rfl<|zI<|yE N ?_ ?_
 · intro hc N;refine vJ [(4,vF)]<|xG<|zH ?_;obtain rfl:=zC N;exact wP
 intro hc N;refine zS<|zZ<|yG [5] rfl<|xZ<|pJ [(0,vS p a0 c),(1,vS p1 b c1),(5,vI 0)] ?_;obtain ⟨o0,ho0,hMl⟩:=zB N;refine zES a0 b 0 o0 ho0 iR h h1 (fun _ _ _ h=>h) (fun _ _ h=>h) ?_ ?_
 · intro I0  heq le;subst o0;refine zR<|zF0 [(4,vY)]<|zI<|yW ?_;obtain rfl:=zC hMl;exact wP
 intro r0 I9 hs9 m9 heq9 le9 hrs9;subst heq9;refine zW<|zH ?_;obtain rfl:=zC hMl;exact xA hrs9
def eG (a0:zA) (b:zA):Option (Bool):=do
 let t4←(do
   if (a0.Const == b.Const) then
    let y←zAn a0.Coefs b.Coefs
    pure (id y)
   else
    pure false
     : Option Bool)
 pure (id t4)
theorem zD1:∀ a0 b r,eG a0 b=some r→∀ {I:Imm}{p c p1 c1},(S4 I p a0.Coefs c)→(S4 I p1 b.Coefs c1)→RT 248 [vA (cAff a0 p c),vA (cAff b p1 c1)] I [] (zU  r):=by
 intro a0 b r N I p c p1 c1 h h1;unfold eG at N;refine yM Tryz.func248 fun B=>?_;have H:=iS I;refine yF<|vX (cAff a0 p c) ?_;intro b1 hb;refine vX (cAff b p1 c1) ?_;intro b2 hb1;refine wG [] []<|zI<|yC ?_;refine wE N [] (fun t4=>[(4,.bool t4)]) (fun o0 ho0=>?_) ?_
 · have H:=iS I;refine zK<|yB 6 [1,0] [10] rfl<|xW [10] ho0 ?_ ?_
   · intro hc N;refine yB 10 [1,0] [12,14] rfl<|bE N fun y hy N=>vZ (zG4 a0.Coefs b.Coefs _ hy h h1) ?_;intro I01 le;have H:=H.trans le;exact yJ [] [4] rfl<|xT zQ<|yQ<|zT (ct N H)
   intro hc N;exact wG [] [(4,vF)]<|xT zQ<|yQ<|zT (ct N H)
 intro t4 I0 le1 hMc;refine zI<|yW ?_;obtain rfl:=zC hMc;exact wP
def mM (a0:(List zA)) (b:(List zA)) (i:Int):Option (Out Unit (Bool)):=do
 if (decide (i < (a0.length:Int))) then
  let x←idx a0 i
  let x1←idx b i
  let y←eG x x1
  if (!y) then
   pure (.ret false)
  else
   mM a0 b (W (i + 1))
 else
  pure (.done ())
 partial_fixpoint
theorem zBr (a0:(List zA)) (b:(List zA)):∀ (i:Int) (o:Out Unit (Bool)),mM a0 b i=some o→∀ {B}{I0 I:Imm}{Q p c p1 c1},I0.le I→(S4 I p a0 c)→(S4 I p1 b c1)→NG Q→NO Q→(∀ (I':Imm) ,o=(.done ())→I0.le I'→T 27 B Q (.exit 0) I' [] [])→(∀ r I' hs' m',o=(.ret r)→I0.le I'→RS Tryz.prog Tryz.f213 B (zU  r) I' hs' m'→T 27 B Q .ret I' hs' m')→J Tryz.prog 27 B (nav (bodyOf Tryz.f213) [1,1,0,1,0]) Q I [] [(0,vS p a0 c),(1,vS p1 b c1),(5,vI i)]:=by
 refine mM.partial_correctness a0 b _ fun self ih i o N B I0 I Q p c p1 c1 H h h1 hg ho hx hr=>yT hg ho<|yC<|yG [14] rfl<|zI<|yE N ?_ ?_
 · intro hc1 N;refine zS<|zZ<|yH<|yC ?_;obtain ⟨x,hy,N⟩:=zB N;obtain ⟨x1,hy1,N⟩:=zB N;obtain ⟨y,hy2,N⟩:=zB N;refine wA [.p (vS p a0 c) [],.p (vI i) [],.x (ePAff x),.x (eVAff x),.p (vS p1 b c1) [],.p (vI i) [],.x (ePAff x1),.x (eVAff x1),.q (.bool y),.p (.bool (!y)) []] [[],[],[(0,false),(1,false)],[(2,false)],[],[],[(4,false),(5,false)],[(6,false)],[(3,false),(7,false)],[(8,false)]] [] [] [(9,false)] zQ ?_ ?_
   · refine Op<|Op<|Ox ?_<|Ox ?_<|Op<|Op<|Ox ?_<|Ox ?_<|Oq ?_<|Op<|On
     · intro I1 hf le1;refine yN [17,18] rfl ?_;have h:=h.mono le1;refine xJ rfl rfl h hy ?_;intro ad ccs hat hrep;obtain ⟨p2,c2,rfl,h2⟩:=yL hrep;exact yI [] iR ⟨_,_,_,rfl,rfl,hat,h2⟩
     · rintro I1 hf le1 _ _ ⟨ad,p2,c2,rfl,rfl,hat,h2⟩;exact yN [19] rfl<|yX 0 hat (cAff x p2 c2) (vA (cAff x p2 c2)) rfl<|yI [] iR ⟨_,_,rfl,rfl,h2⟩
     · intro I1 hf le1;refine yN [21,22] rfl ?_;have h1:=h1.mono le1;refine xJ rfl rfl h1 hy1 ?_;intro ad1 ccs1 hat1 hrep1;obtain ⟨p3,c3,rfl,h3⟩:=yL hrep1;exact yI [] iR ⟨_,_,_,rfl,rfl,hat1,h3⟩
     · rintro I1 hf le1 _ _ ⟨ad1,p3,c3,rfl,rfl,hat1,h3⟩;exact yN [23] rfl<|yX 0 hat1 (cAff x1 p3 c3) (vA (cAff x1 p3 c3)) rfl<|yI [] iR ⟨_,_,rfl,rfl,h3⟩
     rintro I1 hf le1 _ _ ⟨p21,c21,rfl,rfl,h21⟩ _ _ ⟨p31,c31,rfl,rfl,h31⟩;refine yN [20,24] rfl ?_;have H:=iS I1;refine vZ (zD1 x x1 _ hy2 h21 h31) ?_;intro I0 le;have H:=H.trans le;exact yP H
   intro I01 le1;refine yN [0,1,5,26] rfl ?_;have ⟨h,h1,H⟩:=m3 le1 h h1 H;refine yA rfl<|zI<|yE N ?_ ?_
   · intro hc2 N;exact vJ [(4,vF)]<|xG<|zW<|zH<|zH<|hr _ _ _ _ (zC N).symm H ⟨_,_,(.tmp rfl ResV.nil),zQ,⟨_,rfl,rfl,rfl⟩⟩
   intro hc2 N;exact zS<|zP<|zI<|zK<|yJ [] [5] rfl<|yS<|nG<|ih (W (i + 1)) _ N H h h1 hg ho hx hr
 intro hc1 N;exact wT<|yQ<|hx _  (zC N).symm H
def eH (a0:(List zA)) (b:(List zA)):Option (Bool):=do
 if ((a0.length:Int) != (b.length:Int)) then
  pure false
 else
  match←mM a0 b 0 with
  | .ret r0=>pure r0
  | .done _ =>
   pure true
theorem zD2:∀ a0 b r,eH a0 b=some r→∀ {I:Imm}{p c p1 c1},(S4 I p a0 c)→(S4 I p1 b c1)→RT 213 [vS p a0 c,vS p1 b c1] I [] (zU  r):=by
 intro a0 b r N I p c p1 c1 h h1;unfold eH at N;refine yM Tryz.func213 fun B=>vJ []<|zZ<|yG [10] rfl<|zI<|yE N ?_ ?_
 · intro hc N;refine vJ [(4,vF)]<|xG<|zH ?_;obtain rfl:=zC N;exact wP
 intro hc N;refine zS<|zZ<|yG [5] rfl<|xZ<|pJ [(0,vS p a0 c),(1,vS p1 b c1),(5,vI 0)] ?_;obtain ⟨o0,ho0,hMl⟩:=zB N;refine zBr a0 b 0 o0 ho0 iR h h1 (fun _ _ _ h=>h) (fun _ _ h=>h) ?_ ?_
 · intro I02  heq le2;subst o0;refine zR<|zF0 [(4,vY)]<|zI<|yW ?_;obtain rfl:=zC hMl;exact wP
 intro r0 I9 hs9 m9 heq9 le9 hrs9;subst heq9;refine zW<|zH ?_;obtain rfl:=zC hMl;exact xA hrs9
def fB (a0:zJ) (b:zJ):Option (Bool):=do
 let t4←(do
   if (a0.Array.l == b.Array.l) then
    let y←eH a0.Subs b.Subs
    pure (id y)
   else
    pure false
     : Option Bool)
 pure (id t4)
theorem dH:∀ a0 b r,fB a0 b=some r→∀ {I:Imm}{p c p1 c1},(S4 I p a0.Subs c)→(S4 I p1 b.Subs c1)→RT 167 [vA (cAccess a0 p c),vA (cAccess b p1 c1)] I [] (zU  r):=by
 intro a0 b r N I p c p1 c1 h h1;unfold fB at N;refine yM Tryz.func167 fun B=>?_;have H:=iS I;refine yF<|vX (cAccess a0 p c) ?_;intro b1 hb;refine vX (cAccess b p1 c1) ?_;intro b2 hb1;refine wG [] []<|zI<|yC ?_;refine wE N [] (fun t4=>[(4,.bool t4)]) (fun o0 ho0=>?_) ?_
 · have H:=iS I;refine zK<|yB 6 [1,0] [10] rfl<|xW [10] ho0 ?_ ?_
   · intro hc N;refine yB 10 [1,0] [12,14] rfl<|bE N fun y hy N=>vZ (zD2 a0.Subs b.Subs _ hy h h1) ?_;intro I01 le;have H:=H.trans le;exact yJ [] [4] rfl<|xT zQ<|yQ<|zT (ct N H)
   intro hc N;exact wG [] [(4,vF)]<|xT zQ<|yQ<|zT (ct N H)
 intro t4 I0 le1 hMc;refine zI<|yW ?_;obtain rfl:=zC hMc;exact wP
mutual
def gQ (e0:zG) (name:Str):Option (Bool):=do
 let t15←(do
   if (e0.Kind == 3) then
    pure (e0.Read.Array.l == name.l)
   else
    pure false
     : Option Bool)
 if t15 then
  pure true
 else
  match←eI (same e0) (same name) (same 0) with
  | .ret r0=>pure r0
  | .done _ =>
   pure false
 partial_fixpoint
def eI (e0:zG) (name:Str) (i:Int):Option (Out Unit (Bool)):=do
 if (decide (i < (e0.Kids.length:Int))) then
  let x←idx e0.Kids i
  let y←gQ (same x) (same name)
  if y then
   pure (.ret true)
  else
   eI (same e0) (same name) (W (i + 1))
 else
  pure (.done ())
 partial_fixpoint
end
theorem zFG:(∀ (e0:zG) (name:Str) r,gQ e0 name=some r→∀ {I:Imm}{p c p1 c1 p2 c2},(S4 I p e0.Index.Coefs c)→(S4 I p1 e0.Read.Subs c1)→(S4 I p2 e0.Kids c2)→RT 168 [vA (cExpr e0 p c p1 c1 p2 c2),vT name.l] I [] (zU  r))∧(∀ (e0:zG) (name:Str) (i:Int) o,eI e0 name i=some o→∀ {B}{I0 I:Imm}{Q p c p1 c1 p2 c2}{b:Nat},I0.le I→(S4 I p e0.Index.Coefs c)→(S4 I p1 e0.Read.Subs c1)→(S4 I p2 e0.Kids c2)→NG Q→NO Q→(∀ (I':Imm) ,o=(.done ())→I0.le I'→T 30 B Q (.exit 0) I' [] [])→(∀ r I' hs' m',o=(.ret r)→I0.le I'→RS Tryz.prog Tryz.f168 B (zU  r) I' hs' m'→T 30 B Q .ret I' hs' m')→J Tryz.prog 30 B (nav (bodyOf Tryz.f168) [1,1,0,1,0]) Q I [hB b (cExpr e0 p c p1 c1 p2 c2)] [(1,vT name.l),(2,vP b 0),(5,vI i)]):=by
  refine gQ.mutual_partial_correctness _ _ ?_ ?_
  · intro F_spec_l12Uses_l1 ih_spec_l12Uses_l1 e0 name r N I p c p1 c1 p2 c2 h h1 h2;refine yM Tryz.func168 fun B=>?_;have H:=iS I;refine yF<|vX (cExpr e0 p c p1 c1 p2 c2) ?_;intro b hb;refine wG [] []<|zZ<|yC ?_;refine wE N [hB b (cExpr e0 p c p1 c1 p2 c2)] (fun t15=>[(1,vT name.l),(2,vP b 0),(15,.bool t15)]) (fun o0 ho0=>?_) ?_
    · have H:=iS I;refine zK<|yB 4 [0] [9] rfl<|xW [9] ho0 ?_ ?_
      · intro hc N;exact yJ [0] [15] rfl<|yQ<|zT (ct N H)
      intro hc N;exact wG [] [(15,vF)]<|yQ<|zT (ct N H)
    intro t15 I0 le hMc;have ⟨h,h1,h2⟩:=m3 le h h1 h2;refine zI<|yE hMc ?_ ?_
    · intro hc1 N;refine vJ [(4,vY)]<|xG<|zH ?_;obtain rfl:=zC N;exact wP
    intro hc1 N;refine zS<|zZ<|yG [5] rfl<|xZ<|pJ [(1,vT name.l),(2,vP b 0),(5,vI 0)] ?_;obtain ⟨o01,ho01,hMl⟩:=zB N;refine ih_spec_l12Uses_l1 e0 name 0 o01 ho01 iR h h1 h2 (fun _ _ _ h=>h) (fun _ _ h=>h) ?_ ?_
    · intro I02  heq1 le2;subst o01;refine zR<|zF0 [(4,vF)]<|zI<|yW ?_;obtain rfl:=zC hMl;exact wP
    intro r0 I9 hs9 m9 heq9 le9 hrs9;subst heq9;refine zW<|zH ?_;obtain rfl:=zC hMl;exact xA hrs9
  intro F_spec_l12Uses F_spec_l12Uses_l1 ih_spec_l12Uses ih_spec_l12Uses_l1 e0 name i o N B I0 I Q p c p1 c1 p2 c2 b H h h1 h2 hg ho hx hr;refine yT hg ho<|yC<|yF<|yJ [0] [20] rfl<|zI<|yE N ?_ ?_
  · intro hc2 N;refine zS<|zZ<|yH<|yF<|yB 3 [0] [24,25] rfl<|bE N fun x hy N=>xJ rfl rfl h2 hy ?_;intro ad ccs hat hrep;obtain ⟨p3,c3,p4,c4,p5,c5,rfl,h3,h4,h5⟩:=xS hrep;refine yX 0 hat (cExpr x p3 c3 p4 c4 p5 c5) (vA (cExpr x p3 c3 p4 c4 p5 c5)) rfl<|yB 6 [] [28] rfl<|bE N fun y hy1 N=>xQ (ih_spec_l12Uses x name _ hy1 h3 h4 h5) ?_;rintro I01 hs2 v2 k2 le1 - ⟨v03,rfl,rfl,rfl⟩ -;have ⟨h,h1,h2,H⟩:=m4 le1 h h1 h2 H;refine yA rfl<|zI<|yE N ?_ ?_
    · intro hc3 N;exact vJ [(4,vY)]<|xG<|zW<|zH<|zH<|hr _ _ _ _ (zC N).symm H ⟨_,_,(.tmp rfl ResV.nil),zQ,⟨_,rfl,rfl,rfl⟩⟩
    intro hc3 N;exact zS<|zP<|zI<|zK<|yJ [] [5] rfl<|yS<|nG<|ih_spec_l12Uses_l1 e0 name (W (i + 1)) _ N H h h1 h2 hg ho hx hr
  intro hc2 N;exact wT<|xT zQ<|yQ<|hx _  (zC N).symm H
theorem zFi:∀ e0 name r,gQ e0 name=some r→∀ {I:Imm}{p c p1 c1 p2 c2},(S4 I p e0.Index.Coefs c)→(S4 I p1 e0.Read.Subs c1)→(S4 I p2 e0.Kids c2)→RT 168 [vA (cExpr e0 p c p1 c1 p2 c2),vT name.l] I [] (zU  r):=zFG.1
def zB5 (s:zN):Option (Bool):=do
 let t14←(do
   if (s.Value.Kind != 4) then
    pure (s.Value.Kind != 5)
   else
    pure false
     : Option Bool)
 if t14 then
  pure false
 else
  let x←idx s.Value.Kids 0
  let t2←(do
    if (x.Kind == 3) then
     let y←fB x.Read s.Write
     if y then
      let x1←idx s.Value.Kids 1
      let y1←gQ x1 s.Write.Array
      pure (!y1)
     else
      pure false
    else
     pure false
      : Option Bool)
  pure (id t2)
theorem zHA:∀ s r,zB5 s=some r→∀ {I:Imm}{p c p1 c1 p2 c2 p3 c3},(S4 I p s.Write.Subs c)→(S4 I p1 s.Value.Index.Coefs c1)→(S4 I p2 s.Value.Read.Subs c2)→(S4 I p3 s.Value.Kids c3)→RT 115 [vA (cStmt s p c p1 c1 p2 c2 p3 c3)] I [] (zU  r):=by
 intro s r N I p c p1 c1 p2 c2 p3 c3 h h1 h2 h3;unfold zB5 at N;refine yM Tryz.func115 fun B=>?_;have H:=iS I;refine yF<|vX (cStmt s p c p1 c1 p2 c2 p3 c3) ?_;intro b hb;refine wG [] []<|yV<|fW 2 [0] [(6,vA (cExpr s.Value p1 c1 p2 c2 p3 c3))]<|wH zExpr ?_;intro b1 hb1;refine xI 0 (cExpr s.Value p1 c1 p2 c2 p3 c3) rfl<|yA rfl<|zZ<|yC ?_;refine wE N [hB b1 (cExpr s.Value p1 c1 p2 c2 p3 c3),hB b (cStmt s p c p1 c1 p2 c2 p3 c3)] (fun t14=>[(1,vP b 0),(3,vP b1 0),(14,.bool t14)]) (fun o0 ho0=>?_) ?_
 · have H:=iS I;refine zK<|yB 4 [0] [10] rfl<|xW [10] ho0 ?_ ?_
   · intro hc N;exact yJ [0] [14] rfl<|yQ<|zT (ct N H)
   intro hc N;exact wG [] [(14,vF)]<|yQ<|zT (ct N H)
 intro t14 I0 le hMc;have ⟨h3,h,H⟩:=m3 le h3 h H;refine zI<|yE hMc ?_ ?_
 · intro hc1 N;refine vJ [(2,vF)]<|xG<|zH ?_;obtain rfl:=zC N;exact wP
 intro hc1 N;refine zS<|yV<|yB 2 [0] [16] rfl<|bE N fun x hy N=>xJ rfl rfl h3 hy ?_;intro ad ccs hat hrep;obtain ⟨p4,c4,p5,c5,p6,c6,rfl,h4,h5,h6⟩:=xS hrep;refine yX 0 hat (cExpr x p4 c4 p5 c5 p6 c6) (vA (cExpr x p4 c4 p5 c5 p6 c6)) rfl<|wH zExpr ?_;intro b2 hb2;refine xI 0 (cExpr x p4 c4 p5 c5 p6 c6) rfl<|yA rfl<|zI<|yC ?_;refine wE N [] (fun t2=>[(2,.bool t2)]) (fun o01 ho01=>?_) ?_
 · have H:=iS I0;cases hc2:(x.Kind == 3) with
   | true =>
    have hM0:=wV hc2 ho01;obtain ⟨y,hy1,N⟩:=zB hM0;cases hc3:y with
    | true =>
     have hM01:=wV hc3 N;obtain ⟨x1,hy2,N⟩:=zB hM01;obtain ⟨y1,hy3,N⟩:=zB N;refine wA [.p (vP b2 0) [],.p (vI x.Kind) [0],.q vY,.q vY,.p (vP b2 4) [],.p (vA (cAccess x.Read p5 c5)) [0],.p (vP b 0) [],.p (vA (cAccess s.Write p c)) [2],.q vY,.q vY,.q vY,.p (vP b1 6) [],.p (vS p3 s.Value.Kids c3) [1],.x (ePExpr x1),.x (eVExpr x1),.p (vP b 0) [],.p (vP b 0) [],.p (vT s.Write.Array.l) [2],.q (.bool y1),.p (.bool (!y1)) [],.p (.bool (!y1)) []] [[],[(0,false)],[(1,false)],[(2,false)],[(3,false)],[(3,false),(4,false)],[(3,false)],[(3,false),(6,false)],[(3,false),(5,false),(7,false)],[(3,false),(8,false)],[(9,false)],[(10,false)],[(10,false),(11,false)],[(10,false),(12,false)],[(10,false),(13,false)],[(10,false)],[(10,false),(15,false)],[(10,false),(16,false)],[(10,false),(14,false),(17,false)],[(10,false),(18,false)],[(10,false),(19,false)]] [hB b2 (cExpr x p4 c4 p5 c5 p6 c6),hB b1 (cExpr s.Value p1 c1 p2 c2 p3 c3),hB b (cStmt s p c p1 c1 p2 c2 p3 c3)] [] [(20,false)] (zY [0,1,2]) ?_ ?_
     · refine Op<|Op<|Oq ?_<|Oq ?_<|Op<|Op<|Op<|Op<|Oq ?_<|Oq ?_<|Oq ?_<|Op<|Op<|Ox ?_<|Ox ?_<|Op<|Op<|Op<|Oq ?_<|Op<|Op<|On
       · intro I1 hf le1;refine yN [20] rfl<|tM 3 [(21,.bool (x.Kind == 3))] ?_;rw [hc2];exact yP iR
       · intro I1 hf le1;exact gY [(21,vY)]<|tM 4 [(22,vY)]<|yP iR
       · intro I1 hf le1;refine yN [22,24,26] rfl ?_;have H:=iS I1;have ⟨h5,h⟩:=m2 le1 h5 h;refine vZ (dH x.Read s.Write _ hy1 h5 h) ?_;intro I02 le1;have H:=H.trans le1;rw [hc3];exact yP H
       · intro I1 hf le1;exact yN [22,27] rfl<|tM 10 [(28,vY)]<|yP iR
       · intro I1 hf le1;exact gY [(28,vY)]<|tM 11 [(29,vY)]<|yP iR
       · intro I1 hf le1;refine yN [29,31] rfl ?_;have h3:=h3.mono le1;refine xJ rfl rfl h3 hy2 ?_;intro ad1 ccs1 hat1 hrep1;obtain ⟨p7,c7,p8,c8,p9,c9,rfl,h8,h9,h10⟩:=xS hrep1;exact yI [] iR ⟨_,_,_,_,_,_,_,rfl,rfl,hat1,h8,h9,h10⟩
       · rintro I1 hf le1 _ _ ⟨rfl,rfl⟩ _ _ ⟨ad1,p7,c7,p8,c8,p9,c9,rfl,rfl,hat1,h8,h9,h10⟩;exact yN [29,32] rfl<|yX 0 hat1 (cExpr x1 p7 c7 p8 c8 p9 c9) (vA (cExpr x1 p7 c7 p8 c8 p9 c9)) rfl<|yI [] iR ⟨_,_,_,_,_,_,rfl,rfl,h8,h9,h10⟩
       rintro I1 hf le1 _ _ ⟨rfl,rfl⟩ _ _ ⟨p71,c71,p81,c81,p91,c91,rfl,rfl,h81,h91,h101⟩;refine yN [29,33,36] rfl ?_;have H:=iS I1;refine vZ (zFi x1 s.Write.Array _ hy3 h81 h91 h101) ?_;intro I03 le2;have H:=H.trans le2;exact yP H
     intro I04 le3;refine yN [39] rfl ?_;have H:=H.trans le3;exact yJ [] [2] rfl<|xT zQ<|yQ<|zT (ct N H)
    | false =>
     have hM02:=wB hc3 N;refine wA [.p (vP b2 0) [],.p (vI x.Kind) [0],.q vY,.q vY,.p (vP b2 4) [],.p (vA (cAccess x.Read p5 c5)) [0],.p (vP b 0) [],.p (vA (cAccess s.Write p c)) [2],.q vF,.q vF,.q vF,.p undef [],.p undef [],.p undef [],.p undef [],.p undef [],.p undef [],.p undef [],.p undef [],.p undef [],.p vF []] [[],[(0,false)],[(1,false)],[(2,false)],[(3,false)],[(3,false),(4,false)],[(3,false)],[(3,false),(6,false)],[(3,false),(5,false),(7,false)],[(3,false),(8,false)],[(9,false)],[(10,false)],[(10,false),(11,false)],[(10,false),(12,false)],[(10,false),(13,false)],[(10,false)],[(10,false),(15,false)],[(10,false),(16,false)],[(10,false),(14,false),(17,false)],[(10,false),(18,false)],[(10,false),(19,false)]] [hB b2 (cExpr x p4 c4 p5 c5 p6 c6),hB b1 (cExpr s.Value p1 c1 p2 c2 p3 c3),hB b (cStmt s p c p1 c1 p2 c2 p3 c3)] [] [(20,false)] (zY [0,1,2]) ?_ ?_
     · refine Op<|Op<|Oq ?_<|Oq ?_<|Op<|Op<|Op<|Op<|Oq ?_<|Oq ?_<|Oq ?_<|Op<|Op<|Op<|Op<|Op<|Op<|Op<|Op<|Op<|Op<|On
       · intro I1 hf le1;refine yN [20] rfl<|tM 3 [(21,.bool (x.Kind == 3))] ?_;rw [hc2];exact yP iR
       · intro I1 hf le1;exact gY [(21,vY)]<|tM 4 [(22,vY)]<|yP iR
       · intro I1 hf le1;refine yN [22,24,26] rfl ?_;have H:=iS I1;have ⟨h5,h⟩:=m2 le1 h5 h;refine vZ (dH x.Read s.Write _ hy1 h5 h) ?_;intro I02 le1;have H:=H.trans le1;rw [hc3];exact yP H
       · intro I1 hf le1;exact yN [22,27] rfl<|tM 10 [(28,vF)]<|yP iR
       intro I1 hf le1;exact gY [(28,vF)]<|tM 11 [(29,vF)]<|yP iR
     intro I05 le4;refine gY [(39,vF)] ?_;have H:=H.trans le4;exact wG [] [(2,vF)]<|xT zQ<|yQ<|zT (ct hM02 H)
   | false =>
    have hM03:=wB hc2 ho01;refine wA [.p (vP b2 0) [],.p (vI x.Kind) [0],.q vF,.q vF,.p undef [],.p undef [],.p undef [],.p undef [],.p undef [],.p vF [],.p vF [],.p undef [],.p undef [],.p undef [],.p undef [],.p undef [],.p undef [],.p undef [],.p undef [],.p undef [],.p vF []] [[],[(0,false)],[(1,false)],[(2,false)],[(3,false)],[(3,false),(4,false)],[(3,false)],[(3,false),(6,false)],[(3,false),(5,false),(7,false)],[(3,false),(8,false)],[(9,false)],[(10,false)],[(10,false),(11,false)],[(10,false),(12,false)],[(10,false),(13,false)],[(10,false)],[(10,false),(15,false)],[(10,false),(16,false)],[(10,false),(14,false),(17,false)],[(10,false),(18,false)],[(10,false),(19,false)]] [hB b2 (cExpr x p4 c4 p5 c5 p6 c6),hB b1 (cExpr s.Value p1 c1 p2 c2 p3 c3),hB b (cStmt s p c p1 c1 p2 c2 p3 c3)] [] [(20,false)] (zY [0,1,2]) ?_ ?_
    · refine Op<|Op<|Oq ?_<|Oq ?_<|Op<|Op<|Op<|Op<|Op<|Op<|Op<|Op<|Op<|Op<|Op<|Op<|Op<|Op<|Op<|Op<|Op<|On
      · intro I1 hf le1;refine yN [20] rfl<|tM 3 [(21,.bool (x.Kind == 3))] ?_;rw [hc2];exact yP iR
      intro I1 hf le1;exact gY [(21,vF)]<|tM 4 [(22,vF)]<|yP iR
    intro I06 le5;refine gY [(39,vF)] ?_;have H:=H.trans le5;exact wG [] [(2,vF)]<|xT zQ<|yQ<|zT (ct hM03 H)
 intro t2 I01 le6 hMc1;refine zI<|yW ?_;obtain rfl:=zC hMc1;exact wP
def jH (p:zE) (y:(List zO)) (out:List Str) (i:Int):Option (List Str):=do
 if (decide (i < (y.length:Int))) then
  let x←idx y i
  let x1←idx p.Parts x.Part
  let x2←idx y i
  let x3←idx x1.Body x2.Stmt
  let y1←zB5 x3
  let name←(do
    if y1 then
     pure x3.Write.Array
    else
     pure (⟨[]⟩:Str)
      : Option Str)
  let out2←app 16 out ([name]:List Str)
  jH p y out2 (W (i + 1))
 else
  pure (id out)
 partial_fixpoint
theorem zCm (p:zE) (y:(List zO)):∀ (out:List Str) (i:Int) (o:List Str),jH p y out i=some o→∀ {B}{I0 I:Imm}{Q p1 c p2 c1}{b:Nat}{p3 c2 p4 c3 cs},I0.le I→(S4 I p3 y c2)→(S4 I p1 p.Arrays c)→(S4 I p2 p.Parts c1)→(RL I cs out)→NG Q→NO Q→(∀ (I':Imm) (out1:List Str) (p5:Option Addr) (c4:Nat) (cs1:List Value),o=out1→I0.le I'→(RL I' cs1 out1)→T 44 B Q (.exit 0) I' [hO Str (vS p5 out1 c4) cs1] [(3,vS p5 out1 c4)])→J Tryz.prog 44 B (nav (bodyOf Tryz.f55) [1,1,1,0,1,0]) Q I [hO Str (vS p4 out c3) cs,hB b (cProg p p1 c p2 c1)] [(1,vP b 0),(3,vS p4 out c3),(4,vS p3 y c2),(5,vI i)]:=by
 refine jH.partial_correctness p y _ fun self ih out i o N B I0 I Q p1 c p2 c1 b p3 c2 p4 c3 cs H h3 h h1 h4 hg ho hx=>yT hg ho<|yC<|yG [14] rfl<|zI<|yE N ?_ ?_
 · intro hc N;refine zS<|zZ<|yH<|yC ?_;obtain ⟨x,hy1,N⟩:=zB N;obtain ⟨x1,hy2,N⟩:=zB N;obtain ⟨x2,hy3,N⟩:=zB N;obtain ⟨x3,hy4,N⟩:=zB N;refine wA [.p (vP b 1) [],.p (vS p2 p.Parts c1) [1],.p (vS p3 y c2) [],.p (vI i) [],.x (ePInst x),.x (ePInst x),.q (vI x.Part),.x (ePPart x1),.x (eQPart 1 x1),.x (eS x1.Body),.p (vS p3 y c2) [],.p (vI i) [],.x (ePInst x2),.x (eQInst 1 x2),.q (vI x2.Stmt),.x (ePStmt x3),.x (eVStmt x3),.x (fun I' v hx=>∃ b2,v=vP b2 0∧hx=[hB b2 [vT ([]),z0,vI 0,vI 0,z0,vI 0,vT ([]),z0,z0]])] [[],[(0,false)],[],[],[(2,false),(3,false)],[(4,false)],[(5,false)],[(1,false),(6,false)],[(7,false)],[(8,false)],[],[],[(10,false),(11,false)],[(12,false)],[(13,false)],[(9,false),(14,false)],[(15,false)],[]] [hO Str (vS p4 out c3) cs,hB b (cProg p p1 c p2 c1)] [] [(16,false),(17,true)] (zY [0,1]) ?_ ?_
   · refine Op<|Op<|Op<|Op<|Ox ?_<|Ox ?_<|Oq ?_<|Ox ?_<|Ox ?_<|Ox ?_<|Op<|Op<|Ox ?_<|Ox ?_<|Oq ?_<|Ox ?_<|Ox ?_<|Ox ?_<|On
     · intro I1 hf le1;refine yN [19,20] rfl ?_;have h3:=h3.mono le1;refine xJ rfl rfl h3 hy1 ?_;intro ad ccs hat hrep;obtain ⟨p6,c5,rfl,h6⟩:=qF hrep;exact yI [] iR ⟨_,_,_,rfl,rfl,hat,h6⟩
     · rintro I1 hf le1 _ _ ⟨ad,p6,c5,rfl,rfl,hat,h6⟩;exact yN [21] rfl<|tM 6 [(22,.pointer (some ad))]<|yI [] iR ⟨_,_,_,rfl,rfl,hat,h6⟩
     · rintro I1 hf le1 _ _ ⟨ad1,p61,c51,rfl,rfl,hat1,h61⟩;exact yN [22] rfl<|yX 0 hat1 [vI x.Part] (vI x.Part) rfl<|yP iR
     · intro I1 hf le1;refine yN [18,23] rfl ?_;have h1:=h1.mono le1;refine xJ rfl rfl h1 hy2 ?_;intro ad2 ccs1 hat2 hrep1;obtain ⟨p7,c6,p8,c7,rfl,h7,h8⟩:=wW hrep1;exact yI [] iR ⟨_,_,_,_,_,rfl,rfl,hat2,h7,h8⟩
     · rintro I1 hf le1 _ _ ⟨ad2,p7,c6,p8,c7,rfl,rfl,hat2,h7,h8⟩;exact yN [24] rfl<|tM 9 [(25,.pointer (some (ad2.add 1)))]<|yI [] iR ⟨_,_,_,_,_,rfl,rfl,hat2,h7,h8⟩
     · rintro I1 hf le1 _ _ ⟨ad21,p71,c61,p81,c71,rfl,rfl,hat21,h71,h81⟩;exact yN [25] rfl<|yX 1 hat21 [vS p81 x1.Body c71] (vS p81 x1.Body c71) rfl<|yI [] iR ⟨_,_,rfl,rfl,h81⟩
     · intro I1 hf le1;refine yN [27,28] rfl ?_;have h3:=h3.mono le1;refine xJ rfl rfl h3 hy3 ?_;intro ad3 ccs2 hat3 hrep2;obtain ⟨p9,c8,rfl,h9⟩:=qF hrep2;exact yI [] iR ⟨_,_,_,rfl,rfl,hat3,h9⟩
     · rintro I1 hf le1 _ _ ⟨ad3,p9,c8,rfl,rfl,hat3,h9⟩;exact yN [29] rfl<|tM 14 [(30,.pointer (some (ad3.add 1)))]<|yI [] iR ⟨_,_,_,rfl,rfl,hat3,h9⟩
     · rintro I1 hf le1 _ _ ⟨ad31,p91,c81,rfl,rfl,hat31,h91⟩;exact yN [30] rfl<|yX 1 hat31 [vI x2.Stmt] (vI x2.Stmt) rfl<|yP iR
     · rintro I1 hf le1 _ _ ⟨p811,c711,rfl,rfl,h811⟩;refine yN [26,31] rfl<|xJ rfl rfl h811 hy4 ?_;intro ad4 ccs3 hat4 hrep3;obtain ⟨p10,c9,p11,c10,p12,c11,p13,c12,rfl,h10,h11,h12,h13⟩:=tG hrep3;exact yI [] iR ⟨_,_,_,_,_,_,_,_,_,rfl,rfl,hat4,h10,h11,h12,h13⟩
     · rintro I1 hf le1 _ _ ⟨ad4,p10,c9,p11,c10,p12,c11,p13,c12,rfl,rfl,hat4,h10,h11,h12,h13⟩;exact yN [32] rfl<|yX 0 hat4 (cStmt x3 p10 c9 p11 c10 p12 c11 p13 c12) (vA (cStmt x3 p10 c9 p11 c10 p12 c11 p13 c12)) rfl<|yI [] iR ⟨_,_,_,_,_,_,_,_,rfl,rfl,h10,h11,h12,h13⟩
     intro I1 hf le1;refine gY []<|wH [vT ([]),z0,vI 0,vI 0,z0,vI 0,vT ([]),z0,z0] ?_;intro b2 hb2;exact yI [hB b2 [vT ([]),z0,vI 0,vI 0,z0,vI 0,vT ([]),z0,z0]] iR ⟨_,rfl,rfl⟩
   rintro I01 le1 _ _ ⟨p101,c91,p111,c101,p121,c111,p131,c121,rfl,rfl,h101,h111,h121,h131⟩ _ _ ⟨b2,rfl,rfl⟩;refine yN [1,3,4,5,6,33] rfl ?_;have ⟨h4,h3,h,h1,H⟩:=m5 le1 h4 h3 h h1 H;refine xI 0 (cStmt x3 p101 c91 p111 c101 p121 c111 p131 c121) rfl<|yA rfl<|vG [7] rfl<|zZ<|yF<|fW 1 [0] [(34,vA (cStmt x3 p101 c91 p111 c101 p121 c111 p131 c121))]<|bE N fun y1 hy5 N=>vZ (zHA x3 _ hy5 h101 h111 h121 h131) ?_;intro I02 le2;have ⟨h4,h3,h,h1,H⟩:=m5 le2 h4 h3 h h1 H;refine yA rfl<|zI ?_;refine wE N [hO Str (vS p4 out c3) cs,hB b (cProg p p1 c p2 c1)] (fun name=>[(1,vP b 0),(3,vS p4 out c3),(4,vS p3 y c2),(5,vI i),(7,vT name.l)]) (fun o0 ho0=>?_) ?_
   · have H:=iS I02;refine yE ho0 ?_ ?_
     · intro hc1 N;exact zK<|yJ [0] [7] rfl<|xT (zX [1,2] rfl (by decide))<|yQ<|zT (ct N H)
     intro hc1 N;exact zS<|xT (zX [1,2] rfl (by decide))<|yQ<|zT (ct N H)
   intro name I03 le3 hMc;have ⟨h4,h3,h,h1,H⟩:=m5 le3 h4 h3 h h1 H;refine zI<|zK<|yB 2 [] [39,40] rfl<|tH [vT name.l] Str ?_;intro b3 hb3;have h15:RL I03 [vT name.l] ([name]:List Str):=rT [name];obtain ⟨out2,hy6,N⟩:=zB hMc;exact qI 9 1 1 rfl rfl rfl h4 (.inr ⟨0,rfl⟩) h15 hy6 fun p14 c13 cs2 h16=>sD (zY [1,2] (hs':=[hO Str (vS p14 out2 c13) cs2,hB b (cProg p p1 c p2 c1)]))<|yJ [] [3] rfl<|zP<|zI<|zK<|yJ [] [5] rfl<|yS<|nG<|ih out2 (W (i + 1)) _ N H h3 h h1 h16 hg ho hx
 intro hc N;exact wT<|xT (zX [0] rfl (by decide))<|yQ<|hx _ _ _ _ _ (zC N).symm H h4
def dP (p:zE):Option ((List Str)):=do
 let y←sL p
 let out1←jH p y ([]:List Str) 0
 pure (id out1)
theorem zFH:∀ p r,dP p=some r→∀ {I:Imm}{p1 c p2 c1},(S4 I p1 p.Arrays c)→(S4 I p2 p.Parts c1)→RT 55 [vA (cProg p p1 c p2 c1)] I [] (eU  r):=by
 intro p r N I p1 c p2 c1 h h1;unfold dP at N;refine yM Tryz.func55 fun B=>yF<|vX (cProg p p1 c p2 c1) ?_;intro b hb;refine wG [] []<|yV<|tH [] Str ?_;intro b1 hb1;have h2:RL I [] ([]:List Str):=rfl;refine yJ [] [3] rfl<|yV<|fW 1 [1] [(9,vA (cProg p p1 c p2 c1))]<|bE N fun y hy N=>xQ (dW p _ hy h h1) ?_;rintro I0 hs2 v2 k2 le - ⟨v0,rfl,rfl,h3⟩ -;have ⟨h2,h,h1⟩:=m3 le h2 h h1;obtain ⟨p3,c2,rfl⟩:=h3.form;refine yJ [] [4] rfl<|zZ<|yG [5] rfl<|xZ<|pJ [(1,vP b 0),(3,vS (some ⟨b1,0,none⟩) ([]:List Str) 0),(4,vS p3 y c2),(5,vI 0)] ?_;obtain ⟨o01,ho01,hMl⟩:=zB N;refine zCm p y ([]:List Str) 0 o01 ho01 iR h3 h h1 h2 (fun _ _ _ h=>h) (fun _ _ h=>h) ?_;intro I04 out1 p5 c4 cs1 heq1 le4 h5;subst o01;refine zR<|vG [2] rfl<|xG<|yY 0 rfl ?_;intro I05 le5 hl0;have h17:=SL.of_frozen hl0 le5 h5;obtain rfl:=zC hMl;exact xA ⟨_,_,(.tmp rfl ResV.nil),zQ,⟨_,rfl,rfl,h17⟩⟩
def zFI (r:(List xK)):KT:=fun kk I' hs' v=>
  ∃ v0,hs'=[]∧v=tupV [v0]∧SL I' v0 r
def tS (p:zE) (y:(List zO)) (out:List xK) (i:Int):Option (List xK):=do
 if (decide (i < (y.length:Int))) then
  let x←idx y i
  let x1←idx p.Parts x.Part
  let x2←idx y i
  let x3←idx x1.Body x2.Stmt
  let x4←idx y i
  let (y2,y3,y4)←oQ p.Arrays x3 x4.Point
  let out2←app 32 out ([(xK.mk y2 y3)]:List xK)
  tS p y out2 (W (i + 1))
 else
  pure (id out)
 partial_fixpoint
theorem zET (p:zE) (y:(List zO)):∀ (out:List xK) (i:Int) (o:List xK),tS p y out i=some o→∀ {B}{I0 I:Imm}{Q p1 c p2 c1}{b:Nat}{p3 c2 p4 c3 cs},I0.le I→(S4 I p3 y c2)→(S4 I p1 p.Arrays c)→(S4 I p2 p.Parts c1)→(RL I cs out)→NG Q→NO Q→(∀ (I':Imm) (out1:List xK) (p5:Option Addr) (c4:Nat) (cs1:List Value),o=out1→I0.le I'→(RL I' cs1 out1)→T 54 B Q (.exit 0) I' [hO xK (vS p5 out1 c4) cs1] [(3,vS p5 out1 c4)])→J Tryz.prog 54 B (nav (bodyOf Tryz.f128) [1,1,1,0,1,0]) Q I [hO xK (vS p4 out c3) cs,hB b (cProg p p1 c p2 c1)] [(1,vP b 0),(3,vS p4 out c3),(4,vS p3 y c2),(5,vI i)]:=by
 refine tS.partial_correctness p y _ fun self ih out i o N B I0 I Q p1 c p2 c1 b p3 c2 p4 c3 cs H h3 h h1 h4 hg ho hx=>yT hg ho<|yC<|yG [15] rfl<|zI<|yE N ?_ ?_
 · intro hc N;refine zS<|zZ<|yH<|yC ?_;obtain ⟨x,hy1,N⟩:=zB N;obtain ⟨x1,hy2,N⟩:=zB N;obtain ⟨x2,hy3,N⟩:=zB N;obtain ⟨x3,hy4,N⟩:=zB N;obtain ⟨x4,hy5,N⟩:=zB N;obtain ⟨⟨y2,y3,y4⟩,hy6,N⟩:=zB N;refine wA [.p (vP b 0) [],.p (vS p1 p.Arrays c) [1],.p (vP b 1) [],.p (vS p2 p.Parts c1) [1],.p (vS p3 y c2) [],.p (vI i) [],.x (ePInst x),.x (ePInst x),.q (vI x.Part),.x (ePPart x1),.x (eQPart 1 x1),.x (eS x1.Body),.p (vS p3 y c2) [],.p (vI i) [],.x (ePInst x2),.x (eQInst 1 x2),.q (vI x2.Stmt),.x (ePStmt x3),.x (eVStmt x3),.p (vS p3 y c2) [],.p (vI i) [],.x (ePInst x4),.x (eQInst 2 x4),.x (eS x4.Point),.x (fun I' v hx=>∃ p15 c14,v=.tuple ⟨[vS p15 y2 c14,vI y3,.bool y4]⟩∧hx=[]∧(S4 I' p15 y2 c14)),.x (fun I' v hx=>∃ p151 c141,v=.tuple ⟨[vS p151 y2 c141,vI y3,.bool y4]⟩∧hx=[]∧(S4 I' p151 y2 c141)),.x (eS y2),.q (vI y3),.q (.bool y4),.x (eS y2),.p (vI y3) []] [[],[(0,false)],[],[(2,false)],[],[],[(4,false),(5,false)],[(6,false)],[(7,false)],[(3,false),(8,false)],[(9,false)],[(10,false)],[],[],[(12,false),(13,false)],[(14,false)],[(15,false)],[(11,false),(16,false)],[(17,false)],[],[],[(19,false),(20,false)],[(21,false)],[(22,false)],[(1,false),(18,false),(23,false)],[(24,false)],[(25,false)],[(25,false)],[(25,false)],[(26,false)],[(27,false)]] [hO xK (vS p4 out c3) cs,hB b (cProg p p1 c p2 c1)] [] [(28,false),(29,false),(30,false)] (zY [0,1]) ?_ ?_
   · refine Op<|Op<|Op<|Op<|Op<|Op<|Ox ?_<|Ox ?_<|Oq ?_<|Ox ?_<|Ox ?_<|Ox ?_<|Op<|Op<|Ox ?_<|Ox ?_<|Oq ?_<|Ox ?_<|Ox ?_<|Op<|Op<|Ox ?_<|Ox ?_<|Ox ?_<|Ox ?_<|Ox ?_<|Ox ?_<|Oq ?_<|Oq ?_<|Ox ?_<|Op<|On
     · intro I1 hf le1;refine yN [23,24] rfl ?_;have h3:=h3.mono le1;refine xJ rfl rfl h3 hy1 ?_;intro ad ccs hat hrep;obtain ⟨p6,c5,rfl,h6⟩:=qF hrep;exact yI [] iR ⟨_,_,_,rfl,rfl,hat,h6⟩
     · rintro I1 hf le1 _ _ ⟨ad,p6,c5,rfl,rfl,hat,h6⟩;exact yN [25] rfl<|tM 8 [(26,.pointer (some ad))]<|yI [] iR ⟨_,_,_,rfl,rfl,hat,h6⟩
     · rintro I1 hf le1 _ _ ⟨ad1,p61,c51,rfl,rfl,hat1,h61⟩;exact yN [26] rfl<|yX 0 hat1 [vI x.Part] (vI x.Part) rfl<|yP iR
     · intro I1 hf le1;refine yN [22,27] rfl ?_;have h1:=h1.mono le1;refine xJ rfl rfl h1 hy2 ?_;intro ad2 ccs1 hat2 hrep1;obtain ⟨p7,c6,p8,c7,rfl,h7,h8⟩:=wW hrep1;exact yI [] iR ⟨_,_,_,_,_,rfl,rfl,hat2,h7,h8⟩
     · rintro I1 hf le1 _ _ ⟨ad2,p7,c6,p8,c7,rfl,rfl,hat2,h7,h8⟩;exact yN [28] rfl<|tM 11 [(29,.pointer (some (ad2.add 1)))]<|yI [] iR ⟨_,_,_,_,_,rfl,rfl,hat2,h7,h8⟩
     · rintro I1 hf le1 _ _ ⟨ad21,p71,c61,p81,c71,rfl,rfl,hat21,h71,h81⟩;exact yN [29] rfl<|yX 1 hat21 [vS p81 x1.Body c71] (vS p81 x1.Body c71) rfl<|yI [] iR ⟨_,_,rfl,rfl,h81⟩
     · intro I1 hf le1;refine yN [31,32] rfl ?_;have h3:=h3.mono le1;refine xJ rfl rfl h3 hy3 ?_;intro ad3 ccs2 hat3 hrep2;obtain ⟨p9,c8,rfl,h9⟩:=qF hrep2;exact yI [] iR ⟨_,_,_,rfl,rfl,hat3,h9⟩
     · rintro I1 hf le1 _ _ ⟨ad3,p9,c8,rfl,rfl,hat3,h9⟩;exact yN [33] rfl<|tM 16 [(34,.pointer (some (ad3.add 1)))]<|yI [] iR ⟨_,_,_,rfl,rfl,hat3,h9⟩
     · rintro I1 hf le1 _ _ ⟨ad31,p91,c81,rfl,rfl,hat31,h91⟩;exact yN [34] rfl<|yX 1 hat31 [vI x2.Stmt] (vI x2.Stmt) rfl<|yP iR
     · rintro I1 hf le1 _ _ ⟨p811,c711,rfl,rfl,h811⟩;refine yN [30,35] rfl<|xJ rfl rfl h811 hy4 ?_;intro ad4 ccs3 hat4 hrep3;obtain ⟨p10,c9,p11,c10,p12,c11,p13,c12,rfl,h10,h11,h12,h13⟩:=tG hrep3;exact yI [] iR ⟨_,_,_,_,_,_,_,_,_,rfl,rfl,hat4,h10,h11,h12,h13⟩
     · rintro I1 hf le1 _ _ ⟨ad4,p10,c9,p11,c10,p12,c11,p13,c12,rfl,rfl,hat4,h10,h11,h12,h13⟩;exact yN [36] rfl<|yX 0 hat4 (cStmt x3 p10 c9 p11 c10 p12 c11 p13 c12) (vA (cStmt x3 p10 c9 p11 c10 p12 c11 p13 c12)) rfl<|yI [] iR ⟨_,_,_,_,_,_,_,_,rfl,rfl,h10,h11,h12,h13⟩
     · intro I1 hf le1;refine yN [38,39] rfl ?_;have h3:=h3.mono le1;refine xJ rfl rfl h3 hy5 ?_;intro ad5 ccs4 hat5 hrep4;obtain ⟨p14,c13,rfl,h14⟩:=qF hrep4;exact yI [] iR ⟨_,_,_,rfl,rfl,hat5,h14⟩
     · rintro I1 hf le1 _ _ ⟨ad5,p14,c13,rfl,rfl,hat5,h14⟩;exact yN [40] rfl<|tM 23 [(41,.pointer (some (ad5.add 2)))]<|yI [] iR ⟨_,_,_,rfl,rfl,hat5,h14⟩
     · rintro I1 hf le1 _ _ ⟨ad51,p141,c131,rfl,rfl,hat51,h141⟩;exact yN [41] rfl<|yX 2 hat51 [vS p141 x4.Point c131] (vS p141 x4.Point c131) rfl<|yI [] iR ⟨_,_,rfl,rfl,h141⟩
     · rintro I1 hf le1 _ _ ⟨rfl,rfl⟩ _ _ ⟨p101,c91,p111,c101,p121,c111,p131,c121,rfl,rfl,h101,h111,h121,h131⟩ _ _ ⟨p1411,c1311,rfl,rfl,h1411⟩;refine yN [20,37,42] rfl ?_;have H:=iS I1;have h:=h.mono le1;refine xQ (zBg p.Arrays x3 x4.Point _ hy6 h h101 h111 h121 h131 h1411) ?_;rintro I01 hs2 v2 k2 le1 - ⟨v010,v011,v012,rfl,rfl,h15,rfl,rfl⟩ -;have H:=H.trans le1;obtain ⟨p15,c14,rfl⟩:=h15.form;exact yI [] H ⟨_,_,rfl,rfl,h15⟩
     · rintro I1 hf le1 _ _ ⟨p15,c14,rfl,rfl,h15⟩;exact yN [43] rfl<|tM 26 [(18,.tuple ⟨[vS p15 y2 c14,vI y3,.bool y4]⟩)]<|yI [] iR ⟨_,_,rfl,rfl,h15⟩
     · rintro I1 hf le1 _ _ ⟨p151,c141,rfl,rfl,h151⟩;exact yN [18] rfl<|tM 27 [(44,vS p151 y2 c141)]<|yI [] iR ⟨_,_,rfl,rfl,h151⟩
     · rintro I1 hf le1 _ _ ⟨p151,c141,rfl,rfl,h151⟩;exact yN [18] rfl<|tM 28 [(45,vI y3)]<|yP iR
     · rintro I1 hf le1 _ _ ⟨p151,c141,rfl,rfl,h151⟩;exact yN [18] rfl<|tM 29 [(46,.bool y4)]<|yP iR
     rintro I1 hf le1 _ _ ⟨p1511,c1411,rfl,rfl,h1511⟩;exact yN [44] rfl<|tM 30 [(6,vS p1511 y2 c1411)]<|yI [] iR ⟨_,_,rfl,rfl,h1511⟩
   rintro I02 le2 _ _ ⟨rfl,rfl⟩ _ _ ⟨p15111,c14111,rfl,rfl,h15111⟩;refine yN [1,3,4,5,6,7,46] rfl ?_;have ⟨h4,h3,h,h1,H⟩:=m5 le2 h4 h3 h h1 H;refine wG [] []<|zI<|zK<|yB 4 [] [47,50] rfl<|tH [vS p15111 y2 c14111,vI y3] xK ?_;intro b2 hb2;have h18:RL I02 [vS p15111 y2 c14111,vI y3] ([(xK.mk y2 y3)]:List xK):=⟨[vS p15111 y2 c14111,vI y3],_,rfl,rfl,(zFZ ⟨_,rfl,h15111⟩),rfl⟩;obtain ⟨out2,hy7,N⟩:=zB N;exact qI 158 2 1 rfl rfl rfl h4 (.inr ⟨0,rfl⟩) h18 hy7 fun p16 c15 cs2 h19=>sD (zY [1,2] (hs':=[hO xK (vS p16 out2 c15) cs2,hB b (cProg p p1 c p2 c1)]))<|yJ [] [3] rfl<|zP<|zI<|zK<|yJ [] [5] rfl<|yS<|nG<|ih out2 (W (i + 1)) _ N H h3 h h1 h19 hg ho hx
 intro hc N;exact wT<|xT (zX [0] rfl (by decide))<|yQ<|hx _ _ _ _ _ (zC N).symm H h4
def kC (p:zE):Option ((List xK)):=do
 let y←sL p
 let out1←tS p y ([]:List xK) 0
 pure (id out1)
theorem zG5:∀ p r,kC p=some r→∀ {I:Imm}{p1 c p2 c1},(S4 I p1 p.Arrays c)→(S4 I p2 p.Parts c1)→RT 128 [vA (cProg p p1 c p2 c1)] I [] (zFI  r):=by
 intro p r N I p1 c p2 c1 h h1;unfold kC at N;refine yM Tryz.func128 fun B=>yF<|vX (cProg p p1 c p2 c1) ?_;intro b hb;refine wG [] []<|yV<|tH [] xK ?_;intro b1 hb1;have h2:RL I [] ([]:List xK):=rfl;refine yJ [] [3] rfl<|yV<|fW 1 [1] [(10,vA (cProg p p1 c p2 c1))]<|bE N fun y hy N=>xQ (dW p _ hy h h1) ?_;rintro I0 hs2 v2 k2 le - ⟨v0,rfl,rfl,h3⟩ -;have ⟨h2,h,h1⟩:=m3 le h2 h h1;obtain ⟨p3,c2,rfl⟩:=h3.form;refine yJ [] [4] rfl<|zZ<|yG [5] rfl<|xZ<|pJ [(1,vP b 0),(3,vS (some ⟨b1,0,none⟩) ([]:List xK) 0),(4,vS p3 y c2),(5,vI 0)] ?_;obtain ⟨o0,ho0,hMl⟩:=zB N;refine zET p y ([]:List xK) 0 o0 ho0 iR h3 h h1 h2 (fun _ _ _ h=>h) (fun _ _ h=>h) ?_;intro I03 out1 p5 c4 cs1 heq le3 h5;subst o0;refine zR<|vG [2] rfl<|xG<|yY 0 rfl ?_;intro I04 le4 hl0;have h20:=SL.of_frozen hl0 le4 h5;obtain rfl:=zC hMl;exact xA ⟨_,_,(.tmp rfl ResV.nil),zQ,⟨_,rfl,rfl,h20⟩⟩
def nB (list:(List Int)) (n0:Int) (i:Int):Option (Out Unit (Bool)):=do
 if (decide (i < (list.length:Int))) then
  let x←idx list i
  if (x == n0) then
   pure (.ret true)
  else
   nB list n0 (W (i + 1))
 else
  pure (.done ())
 partial_fixpoint
theorem zFJ (list:(List Int)) (n0:Int):∀ (i:Int) (o:Out Unit (Bool)),nB list n0 i=some o→∀ {B}{I0 I:Imm}{Q p c},I0.le I→(S4 I p list c)→NG Q→NO Q→(∀ (I':Imm) ,o=(.done ())→I0.le I'→T 18 B Q (.exit 0) I' [] [])→(∀ r I' hs' m',o=(.ret r)→I0.le I'→RS Tryz.prog Tryz.f175 B (zU  r) I' hs' m'→T 18 B Q .ret I' hs' m')→J Tryz.prog 18 B (nav (bodyOf Tryz.f175) [1,0,1,0]) Q I [] [(0,vS p list c),(1,vI n0),(5,vI i)]:=by
 refine nB.partial_correctness list n0 _ fun self ih i o N B I0 I Q p c H h hg ho hx hr=>yT hg ho<|yC<|yG [9] rfl<|zI<|yE N ?_ ?_
 · intro hc N;refine zS<|zZ<|yH<|yF<|yB 2 [] [12,13] rfl<|bE N fun x hy N=>xJ rfl rfl h hy ?_;intro ad ccs hat hrep;obtain rfl:=hrep;refine yX 0 hat [vI x] (vI x) rfl<|yJ [] [17] rfl<|zI<|yE N ?_ ?_
   · intro hc1 N;exact vJ [(4,vY)]<|xG<|zW<|zH<|zH<|hr _ _ _ _ (zC N).symm H ⟨_,_,(.tmp rfl ResV.nil),zQ,⟨_,rfl,rfl,rfl⟩⟩
   intro hc1 N;exact zS<|zP<|zI<|zK<|yJ [] [5] rfl<|yS<|nG<|ih (W (i + 1)) _ N H h hg ho hx hr
 intro hc N;exact wT<|yQ<|hx _  (zC N).symm H
def gX (list:(List Int)) (n0:Int):Option (Bool):=do
 match←nB list n0 0 with
 | .ret r0=>pure r0
 | .done _ =>
  pure false
theorem zCw:∀ list n0 r,gX list n0=some r→∀ {I:Imm}{p c},(S4 I p list c)→RT 175 [vS p list c,vI n0] I [] (zU  r):=by
 intro list n0 r N I p c h;unfold gX at N;refine yM Tryz.func175 fun B=>vJ []<|zZ<|yG [5] rfl<|xZ<|pJ [(0,vS p list c),(1,vI n0),(5,vI 0)] ?_;obtain ⟨o0,ho0,hMl⟩:=zB N;refine zFJ list n0 0 o0 ho0 iR h (fun _ _ _ h=>h) (fun _ _ h=>h) ?_ ?_
 · intro I0  heq le;subst o0;refine zR<|zF0 [(4,vF)]<|zI<|yW ?_;obtain rfl:=zC hMl;exact wP
 intro r0 I9 hs9 m9 heq9 le9 hrs9;subst heq9;refine zW<|zH ?_;obtain rfl:=zC hMl;exact xA hrs9
def gR (a0:xK) (b:xK):Option (Int):=do
 let y←gX b.reads a0.write
 let n0←(do
   if y then
    pure (W (0 + 1))
   else
    pure (id 0)
     : Option Int)
 let y1←gX a0.reads b.write
 let n01←(do
   if y1 then
    pure (W (n0 + 2))
   else
    pure (id n0)
     : Option Int)
 let n02←(do
   if (a0.write == b.write) then
    pure (W (n01 + 4))
   else
    pure (id n01)
     : Option Int)
 pure (id n02)
theorem zFj:∀ a0 b r,gR a0 b=some r→∀ {I:Imm}{p c p1 c1},(S4 I p a0.reads c)→(S4 I p1 b.reads c1)→RT 129 [vA [vS p a0.reads c,vI a0.write],vA [vS p1 b.reads c1,vI b.write]] I [] (yK  r):=by
 intro a0 b r N I p c p1 c1 h h1;unfold gR at N;refine yM Tryz.func129 fun B=>?_;have H:=iS I;refine yF<|vX [vS p a0.reads c,vI a0.write] ?_;intro b1 hb;refine vX [vS p1 b.reads c1,vI b.write] ?_;intro b2 hb1;refine wG [] []<|vG [5] rfl<|zZ<|yF<|yB 4 [0,1] [7,9] rfl<|bE N fun y hy N=>vZ (zCw b.reads a0.write _ hy h1) ?_;intro I0 le;have ⟨h,H⟩:=m2 le h H;refine yA rfl<|zI ?_;refine wE N [hB b2 [vS p1 b.reads c1,vI b.write],hB b1 [vS p a0.reads c,vI a0.write]] (fun n0=>[(2,vP b1 0),(3,vP b2 0),(5,vI n0)]) (fun o0 ho0=>?_) ?_
 · have H:=iS I0;refine yE ho0 ?_ ?_
   · intro hc N;exact zK<|yJ [] [5] rfl<|yQ<|zT (ct N H)
   intro hc N;exact zS<|yQ<|zT (ct N H)
 intro n0 I01 le1 hMc;have ⟨h,H⟩:=m2 le1 h H;refine zZ<|yF<|yB 4 [1,0] [14,16] rfl ?_;obtain ⟨y1,hy1,N⟩:=zB hMc;refine vZ (zCw a0.reads b.write _ hy1 h) ?_;intro I02 le2;have H:=H.trans le2;refine yA rfl<|zI ?_;refine wE N [hB b2 [vS p1 b.reads c1,vI b.write],hB b1 [vS p a0.reads c,vI a0.write]] (fun n01=>[(2,vP b1 0),(3,vP b2 0),(5,vI n01)]) (fun o01 ho01=>?_) ?_
 · have H:=iS I02;refine yE ho01 ?_ ?_
   · intro hc1 N;exact zK<|yJ [] [5] rfl<|yQ<|zT (ct N H)
   intro hc1 N;exact zS<|yQ<|zT (ct N H)
 intro n01 I03 le3 hMc1;have H:=H.trans le3;refine zZ<|yF<|yJ [1,0] [24] rfl<|zI ?_;refine wE hMc1 [] (fun n02=>[(5,vI n02)]) (fun o02 ho02=>?_) ?_
 · have H:=iS I03;refine yE ho02 ?_ ?_
   · intro hc2 N;exact zK<|yJ [] [5] rfl<|xT zQ<|yQ<|zT (ct N H)
   intro hc2 N;exact zS<|xT zQ<|yQ<|zT (ct N H)
 intro n02 I04 le4 hMc2;refine vG [4] rfl<|zI<|yW ?_;obtain rfl:=zC hMc2;exact wP
def oF (y:(List xK)) (i:Int) (out2:List zV) (k0:Int):Option (List zV):=do
 if (decide (k0 < (y.length:Int))) then
  let x←idx y i
  let x1←idx y k0
  let y1←gR x x1
  let out4←(do
    if (y1 != 0) then
     let out5←app 24 out2 ([(zV.mk i k0 y1)]:List zV)
     pure (id out5)
    else
     pure (id out2)
      : Option (List zV))
  oF y i out4 (W (k0 + 1))
 else
  pure (id out2)
 partial_fixpoint
theorem zEU (y:(List xK)) (i:Int):∀ (out2:List zV) (k0:Int) (o:List zV),oF y i out2 k0=some o→∀ {B}{I0 I:Imm}{Q p3 c2 p6 c5 cs2},I0.le I→(S4 I p3 y c2)→(RL I cs2 out2)→NG Q→NO Q→(∀ (I':Imm) (out3:List zV) (p7:Option Addr) (c6:Nat) (cs3:List Value),o=out3→I0.le I'→(RL I' cs3 out3)→T 44 B Q (.exit 2) I' [hO zV (vS p7 out3 c6) cs3] [(3,vS p7 out3 c6),(4,vS p3 y c2),(5,vI i)])→J Tryz.prog 44 B (nav (bodyOf Tryz.f82) [1,1,1,0,1,0,0,1,0,0,1,0]) Q I [hO zV (vS p6 out2 c5) cs2] [(3,vS p6 out2 c5),(4,vS p3 y c2),(5,vI i),(6,vI k0)]:=by
 refine oF.partial_correctness y i _ fun self ih out2 k0 o N B I0 I Q p3 c2 p6 c5 cs2 H h3 h6 hg ho hx=>yT hg ho<|yC<|yG [22] rfl<|zI<|yE N ?_ ?_
 · intro hc1 N;refine zS<|zZ<|yH<|yC ?_;obtain ⟨x,hy1,N⟩:=zB N;obtain ⟨x1,hy2,N⟩:=zB N;obtain ⟨y1,hy3,N⟩:=zB N;refine wA [.p (vS p3 y c2) [],.p (vI i) [],.x (fun I' v hx=>∃ ad p8 c7,v=.pointer (some ad)∧hx=[]∧(At I' ad [vS p8 x.reads c7,vI x.write])∧(S4 I' p8 x.reads c7)),.x (fun I' v hx=>∃ p81 c71,v=vA [vS p81 x.reads c71,vI x.write]∧hx=[]∧(S4 I' p81 x.reads c71)),.p (vS p3 y c2) [],.p (vI k0) [],.x (fun I' v hx=>∃ ad1 p9 c8,v=.pointer (some ad1)∧hx=[]∧(At I' ad1 [vS p9 x1.reads c8,vI x1.write])∧(S4 I' p9 x1.reads c8)),.x (fun I' v hx=>∃ p91 c81,v=vA [vS p91 x1.reads c81,vI x1.write]∧hx=[]∧(S4 I' p91 x1.reads c81)),.q (vI y1)] [[],[],[(0,false),(1,false)],[(2,false)],[],[],[(4,false),(5,false)],[(6,false)],[(3,false),(7,false)]] [hO zV (vS p6 out2 c5) cs2] [] [(8,false)] (zY [0]) ?_ ?_
   · refine Op<|Op<|Ox ?_<|Ox ?_<|Op<|Op<|Ox ?_<|Ox ?_<|Oq ?_<|On
     · intro I1 hf le1;refine yN [25,26] rfl ?_;have h3:=h3.mono le1;refine xJ rfl rfl h3 hy1 ?_;intro ad ccs hat hrep;obtain ⟨p8,c7,rfl,h8⟩:=zCu hrep;exact yI [] iR ⟨_,_,_,rfl,rfl,hat,h8⟩
     · rintro I1 hf le1 _ _ ⟨ad,p8,c7,rfl,rfl,hat,h8⟩;exact yN [27] rfl<|yX 0 hat [vS p8 x.reads c7,vI x.write] (vA [vS p8 x.reads c7,vI x.write]) rfl<|yI [] iR ⟨_,_,rfl,rfl,h8⟩
     · intro I1 hf le1;refine yN [29,30] rfl ?_;have h3:=h3.mono le1;refine xJ rfl rfl h3 hy2 ?_;intro ad1 ccs1 hat1 hrep1;obtain ⟨p9,c8,rfl,h9⟩:=zCu hrep1;exact yI [] iR ⟨_,_,_,rfl,rfl,hat1,h9⟩
     · rintro I1 hf le1 _ _ ⟨ad1,p9,c8,rfl,rfl,hat1,h9⟩;exact yN [31] rfl<|yX 0 hat1 [vS p9 x1.reads c8,vI x1.write] (vA [vS p9 x1.reads c8,vI x1.write]) rfl<|yI [] iR ⟨_,_,rfl,rfl,h9⟩
     rintro I1 hf le1 _ _ ⟨p81,c71,rfl,rfl,h81⟩ _ _ ⟨p91,c81,rfl,rfl,h91⟩;refine yN [28,32] rfl ?_;have H:=iS I1;refine gS (zFj x x1 _ hy3 h81 h91) ?_;intro I01 le1;have H:=H.trans le1;exact yP H
   intro I02 le2;refine yN [3,4,5,6,33] rfl ?_;have ⟨h6,h3,H⟩:=m3 le2 h6 h3 H;refine yJ [] [7] rfl<|vG [35] rfl<|zI ?_;obtain ⟨o0,ho0,hMc⟩:=zB N;refine qL (fun I' hs' m'=>∃ (out4:List zV) (p10:Option Addr) (c9:Nat) (cs4:List Value),o0=out4∧I02.le I'∧(RL I' cs4 out4)∧hs'=[hO zV (vS p10 out4 c9) cs4]∧m'=[(3,vS p10 out4 c9),(4,vS p3 y c2),(5,vI i),(6,vI k0)]) ?_ ?_
   · have H:=iS I02;refine yE ho0 ?_ ?_
     · intro hc2 N;refine zK<|yB 5 [] [36,40] rfl<|tH [vI i,vI k0,vI y1] zV ?_;intro b2 hb2;have h12:RL I02 [vI i,vI k0,vI y1] ([(zV.mk i k0 y1)]:List zV):=⟨[vI i,vI k0,vI y1],_,rfl,rfl,(mR rfl),rfl⟩;obtain ⟨out5,hy4,N⟩:=zB N;exact qI 67 3 1 rfl rfl rfl h6 (.inr ⟨0,rfl⟩) h12 hy4 fun p11 c10 cs5 h13=>sD (zY [1] (hs':=[hO zV (vS p11 out5 c10) cs5]))<|yJ [] [3] rfl<|yQ<|zT ⟨_,_,_,_,(zC N).symm,H,h13,rfl,rfl⟩
     intro hc2 N;exact zS<|yQ<|zT ⟨_,_,_,_,(zC N).symm,H,h6,rfl,rfl⟩
   rintro I03 hs2 m2 ⟨out4,p10,c9,cs4,heq,le3,h11,rfl,rfl⟩;subst o0;have ⟨h3,H⟩:=m2 le3 h3 H;exact zP<|zI<|zK<|yJ [] [6] rfl<|yS<|nG<|ih out4 (W (k0 + 1)) _ hMc H h3 h11 hg ho hx
 intro hc1 N;exact wT<|yQ<|hx _ _ _ _ _ (zC N).symm H h6
def oG (y:(List xK)) (out:List zV) (i:Int):Option (List zV):=do
 if (decide (i < (y.length:Int))) then
  let out3←oF y i out (W (i + 1))
  oG y out3 (W (i + 1))
 else
  pure (id out)
 partial_fixpoint
theorem zEV (y:(List xK)):∀ (out:List zV) (i:Int) (o:List zV),oG y out i=some o→∀ {B}{I0 I:Imm}{Q p3 c2 p4 c3 cs},I0.le I→(S4 I p3 y c2)→(RL I cs out)→NG Q→NO Q→(∀ (I':Imm) (out1:List zV) (p5:Option Addr) (c4:Nat) (cs1:List Value),o=out1→I0.le I'→(RL I' cs1 out1)→T 44 B Q (.exit 0) I' [hO zV (vS p5 out1 c4) cs1] [(3,vS p5 out1 c4)])→J Tryz.prog 44 B (nav (bodyOf Tryz.f82) [1,1,1,0,1,0]) Q I [hO zV (vS p4 out c3) cs] [(3,vS p4 out c3),(4,vS p3 y c2),(5,vI i)]:=by
 refine oG.partial_correctness y _ fun self ih out i o N B I0 I Q p3 c2 p4 c3 cs H h3 h4 hg ho hx=>yT hg ho<|yC<|yG [14] rfl<|zI<|yE N ?_ ?_
 · intro hc N;refine zS<|zZ<|yH<|yG [6] rfl<|xZ<|pJ [(3,vS p4 out c3),(4,vS p3 y c2),(5,vI i),(6,vI (W (i + 1)))] ?_;obtain ⟨o01,ho01,hMl⟩:=zB N;refine zEU y i out (W (i + 1)) o01 ho01 iR h3 h4 (fun _ _ _ h=>hg _ _ _ h) (fun _ _ h=>ho _ _ h) ?_;intro I04 out3 p7 c6 cs3 heq1 le4 h7;subst o01;have ⟨h3,H⟩:=m2 le4 h3 H;exact zR<|zP<|zI<|zK<|yJ [] [5] rfl<|yS<|nG<|ih out3 (W (i + 1)) _ hMl H h3 h7 hg ho hx
 intro hc N;exact wT<|yQ<|hx _ _ _ _ _ (zC N).symm H h4
def fN (p:zE):Option ((List zV)):=do
 let y←kC p
 let out1←oG y ([]:List zV) 0
 pure (id out1)
theorem zG6:∀ p r,fN p=some r→∀ {I:Imm}{p1 c p2 c1},(S4 I p1 p.Arrays c)→(S4 I p2 p.Parts c1)→RT 82 [vA (cProg p p1 c p2 c1)] I [] (mL  r):=by
 intro p r N I p1 c p2 c1 h h1;unfold fN at N;refine yM Tryz.func82 fun B=>yF<|vX (cProg p p1 c p2 c1) ?_;intro b hb;refine wG [] []<|yV<|tH [] zV ?_;intro b1 hb1;have h2:RL I [] ([]:List zV):=rfl;refine yJ [] [3] rfl<|yV<|fW 1 [1] [(9,vA (cProg p p1 c p2 c1))]<|bE N fun y hy N=>xQ (zG5 p _ hy h h1) ?_;rintro I0 hs2 v2 k2 le - ⟨v0,rfl,rfl,h3⟩ -;have ⟨h2,h⟩:=m2 le h2 h;obtain ⟨p3,c2,rfl⟩:=h3.form;refine yJ [] [4] rfl<|zZ<|yG [5] rfl<|xZ<|kX (zY [0] (hs':=[hO zV (vS (some ⟨b1,0,none⟩) ([]:List zV) 0) []]))<|pJ [(3,vS (some ⟨b1,0,none⟩) ([]:List zV) 0),(4,vS p3 y c2),(5,vI 0)] ?_;obtain ⟨o02,ho02,hMl1⟩:=zB N;refine zEV y ([]:List zV) 0 o02 ho02 iR h3 h2 (fun _ _ _ h=>h) (fun _ _ h=>h) ?_;intro I05 out1 p5 c4 cs1 heq2 le5 h5;subst o02;refine zR<|vG [2] rfl<|xG<|yY 0 rfl ?_;intro I06 le6 hl0;have h14:=SL.of_frozen hl0 le6 h5;obtain rfl:=zC hMl1;exact xA ⟨_,_,(.tmp rfl ResV.nil),zQ,⟨_,rfl,rfl,h14⟩⟩
def mN (y1:(List Str)) (y2:(List zV)) (out:List zV) (i:Int):Option (List zV):=do
 if (decide (i < (y2.length:Int))) then
  let x←idx y2 i
  let x1←idx y2 i
  let t49←(do
    let x2←idx y1 x.From
    if (x2.l == ([]:List UInt8)) then
     pure true
    else
     let x3←idx y1 x.From
     let x4←idx y1 x1.To
     pure (!(x3.l == x4.l))
      : Option Bool)
  let out2←(do
    if t49 then
     let x5←idx y2 i
     let out3←app 24 out ([x5]:List zV)
     pure (id out3)
    else
     pure (id out)
      : Option (List zV))
  mN y1 y2 out2 (W (i + 1))
 else
  pure (id out)
 partial_fixpoint
theorem zBs (y1:(List Str)) (y2:(List zV)):∀ (out:List zV) (i:Int) (o:List zV),mN y1 y2 out i=some o→∀ {B}{I0 I:Imm}{Q p3 c2 p4 c3 p5 c4 cs},I0.le I→(S4 I p3 y1 c2)→(S4 I p4 y2 c3)→(RL I cs out)→NG Q→NO Q→(∀ (I':Imm) (out1:List zV) (p6:Option Addr) (c5:Nat) (cs1:List Value),o=out1→I0.le I'→(RL I' cs1 out1)→T 58 B Q (.exit 0) I' [hO zV (vS p6 out1 c5) cs1] [(3,vS p6 out1 c5)])→J Tryz.prog 58 B (nav (bodyOf Tryz.f30) [1,1,1,1,1,0,1,0]) Q I [hO zV (vS p5 out c4) cs] [(3,vS p5 out c4),(4,vS p3 y1 c2),(5,vS p4 y2 c3),(6,vI i)]:=by
 refine mN.partial_correctness y1 y2 _ fun self ih out i o N B I0 I Q p3 c2 p4 c3 p5 c4 cs H h5 h6 h7 hg ho hx=>yT hg ho<|yC<|yG [21] rfl<|zI<|yE N ?_ ?_
 · intro hc1 N;refine zS<|zZ<|yH<|yF<|yB 2 [] [24,25] rfl<|bE N fun x hy3 N=>xJ rfl rfl h6 hy3 ?_;intro ad ccs hat hrep;obtain rfl:=mQ hrep;refine yB 4 [] [27] rfl<|yX 0 hat [vI x.From] (vI x.From) rfl<|yJ [] [7] rfl<|yV<|yB 2 [] [29,30] rfl<|bE N fun x1 hy4 N=>xJ rfl rfl h6 hy4 ?_;intro ad1 ccs1 hat1 hrep1;obtain rfl:=mQ hrep1;refine yB 4 [] [32] rfl<|yX 1 hat1 [vI x1.To] (vI x1.To) rfl<|yJ [] [8] rfl<|zI<|yC ?_;refine wE N [hO zV (vS p5 out c4) cs] (fun t49=>[(3,vS p5 out c4),(4,vS p3 y1 c2),(5,vS p4 y2 c3),(6,vI i),(49,.bool t49)]) (fun o0 ho0=>?_) ?_
   · have H:=iS I;refine kY (by kernel_rfl) (by kernel_rfl)<|fU 2 [] [34,35] rfl ?_;obtain ⟨x2,hy5,N⟩:=zB ho0;refine dQ rfl rfl h5 hy5 ?_;intro ad2 ccs2 hat2 hrep2;obtain rfl:=hrep2;refine eK 0 hat2 [vT x2.l] (vT x2.l) rfl<|fU 6 [] [39] rfl<|zFV [39] N ?_ ?_
     · intro hc2 N;exact zIT [] [(49,vY)]<|yQ<|zT (ct N H)
     intro hc2 N;refine fU 8 [] [40,41] rfl<|bE N fun x3 hy6 N=>dQ rfl rfl h5 hy6 ?_;intro ad3 ccs3 hat3 hrep3;obtain rfl:=hrep3;refine eK 0 hat3 [vT x3.l] (vT x3.l) rfl<|fU 12 [] [44,45] rfl<|bE N fun x4 hy7 N=>dQ rfl rfl h5 hy7 ?_;intro ad4 ccs4 hat4 hrep4;obtain rfl:=hrep4;exact eK 0 hat4 [vT x4.l] (vT x4.l) rfl<|zGy [] [49] rfl<|yQ<|zT (ct N H)
   intro t49 I04 le4 hMc;have ⟨h7,h5,h6,H⟩:=m4 le4 h7 h5 h6 H;refine zI ?_;obtain ⟨o01,ho01,hMc1⟩:=zB hMc;refine qL (fun I' hs' m'=>∃ (out2:List zV) (p7:Option Addr) (c6:Nat) (cs2:List Value),o01=out2∧I04.le I'∧(RL I' cs2 out2)∧hs'=[hO zV (vS p7 out2 c6) cs2]∧m'=[(3,vS p7 out2 c6),(4,vS p3 y1 c2),(5,vS p4 y2 c3),(6,vI i)]) ?_ ?_
   · have H:=iS I04;refine yE ho01 ?_ ?_
     · intro hc3 N;refine zK<|yB 3 [] [50,51,52] rfl<|bE N fun x5 hy8 N=>xJ rfl rfl h6 hy8 ?_;intro ad5 ccs5 hat5 hrep5;obtain rfl:=mQ hrep5;refine yX 0 hat5 [vI x5.From,vI x5.To,vI x5.Kinds] (vA [vI x5.From,vI x5.To,vI x5.Kinds]) rfl<|tH [vI x5.From,vI x5.To,vI x5.Kinds] zV ?_;intro b2 hb2;have h10:RL I04 [vI x5.From,vI x5.To,vI x5.Kinds] ([x5]:List zV):=⟨[vI x5.From,vI x5.To,vI x5.Kinds],_,rfl,rfl,(mR rfl),rfl⟩;obtain ⟨out3,hy9,N⟩:=zB N;exact qI 67 3 1 rfl rfl rfl h7 (.inr ⟨0,rfl⟩) h10 hy9 fun p8 c7 cs3 h11=>sD (zY [1] (hs':=[hO zV (vS p8 out3 c7) cs3]))<|yJ [] [3] rfl<|yQ<|zT ⟨_,_,_,_,(zC N).symm,H,h11,rfl,rfl⟩
     intro hc3 N;exact zS<|yQ<|zT ⟨_,_,_,_,(zC N).symm,H,h7,rfl,rfl⟩
   rintro I05 hs2 m2 ⟨out2,p7,c6,cs2,heq1,le5,h9,rfl,rfl⟩;subst o01;have ⟨h5,h6,H⟩:=m3 le5 h5 h6 H;exact zP<|zI<|zK<|yJ [] [6] rfl<|yS<|nG<|ih out2 (W (i + 1)) _ hMc1 H h5 h6 h9 hg ho hx
 intro hc1 N;exact wT<|yQ<|hx _ _ _ _ _ (zC N).symm H h7
def zAa (p:zE):Option ((List zV)):=do
 let y←uJ p
 if (!y) then
  pure ([]:List zV)
 else
  let y1←dP p
  let y2←fN p
  let out1←mN y1 y2 ([]:List zV) 0
  pure (id out1)
theorem zJL:∀ p r,zAa p=some r→∀ {I:Imm}{p1 c p2 c1},(S4 I p1 p.Arrays c)→(S4 I p2 p.Parts c1)→RT 30 [vA (cProg p p1 c p2 c1)] I [] (mL  r):=by
 intro p r N I p1 c p2 c1 h h1;unfold zAa at N;refine yM Tryz.func30 fun B=>yF<|vX (cProg p p1 c p2 c1) ?_;intro b hb;refine wG [] []<|yV<|tH [] zV ?_;intro b1 hb1;have h2:RL I [] ([]:List zV):=rfl;refine yJ [] [3] rfl<|zZ<|yF<|fW 1 [1] [(10,vA (cProg p p1 c p2 c1))]<|bE N fun y hy N=>vZ (gK p _ hy h h1) ?_;intro I0 le;have ⟨h2,h,h1⟩:=m3 le h2 h h1;refine yJ [] [12] rfl<|zI<|yE N ?_ ?_
 · intro hc N;refine yG [2] rfl<|xG<|zH<|yY 0 rfl ?_;intro I01 le1 hl0;have h4:=SL.of_frozen hl0 le1 h2;obtain rfl:=zC N;exact xA ⟨_,_,(.tmp rfl ResV.nil),zQ,⟨_,rfl,rfl,h4⟩⟩
 intro hc N;refine zS<|yV<|fW 1 [1] [(14,vA (cProg p p1 c p2 c1))]<|bE N fun y1 hy1 N=>xQ (zFH p _ hy1 h h1) ?_;rintro I02 hs2 v2 k2 le2 - ⟨v01,rfl,rfl,h5⟩ -;have ⟨h2,h,h1⟩:=m3 le2 h2 h h1;obtain ⟨p3,c2,rfl⟩:=h5.form;refine yJ [] [4] rfl<|yV<|fW 1 [1] [(16,vA (cProg p p1 c p2 c1))]<|bE N fun y2 hy2 N=>xQ (zG6 p _ hy2 h h1) ?_;rintro I03 hs2 v2 k2 le3 - ⟨v02,rfl,rfl,h6⟩ -;have ⟨h2,h5,h⟩:=m3 le3 h2 h5 h;obtain ⟨p4,c3,rfl⟩:=h6.form;refine yJ [] [5] rfl<|zZ<|yG [6] rfl<|xZ<|kX (zY [0] (hs':=[hO zV (vS (some ⟨b1,0,none⟩) ([]:List zV) 0) []]))<|pJ [(3,vS (some ⟨b1,0,none⟩) ([]:List zV) 0),(4,vS p3 y1 c2),(5,vS p4 y2 c3),(6,vI 0)] ?_;obtain ⟨o02,ho02,hMl⟩:=zB N;refine zBs y1 y2 ([]:List zV) 0 o02 ho02 iR h5 h6 h2 (fun _ _ _ h=>h) (fun _ _ h=>h) ?_;intro I06 out1 p6 c5 cs1 heq2 le6 h8;subst o02;refine zR<|vG [2] rfl<|xG<|yY 0 rfl ?_;intro I07 le7 hl01;have h12:=SL.of_frozen hl01 le7 h8;obtain rfl:=zC hMl;exact xA ⟨_,_,(.tmp rfl ResV.nil),zQ,⟨_,rfl,rfl,h12⟩⟩
def jI (p:zE):Option ((List zV)):=do
 let (y1,y2)←gU p
 if (!y2) then
  pure ([]:List zV)
 else
  let t←y1
  let y3←nS t
  pure (id y3)
theorem zIx:∀ p r,jI p=some r→∀ {I:Imm}{p1 c p2 c1},(S4 I p1 p.Arrays c)→(S4 I p2 p.Parts c1)→RT 31 [vA (cProg p p1 c p2 c1)] I [] (mL  r):=by
 intro p r N I p1 c p2 c1 h h1;unfold jI at N;refine yM Tryz.func31 fun B=>yF<|vX (cProg p p1 c p2 c1) ?_;intro b hb;refine wG [] []<|yV<|fW 1 [0] [(6,vA (cProg p p1 c p2 c1))] ?_;obtain ⟨⟨y1,y2⟩,hy,N⟩:=zB N;refine xQ (zCv p _ hy h h1) ?_;rintro I0 hs2 v2 k2 le - ⟨v0,v01,rfl,rfl,h2,rfl⟩ -;refine yJ [] [3,4] rfl<|zZ<|yG [11] rfl<|zI<|yE N ?_ ?_
 · intro hc N;refine vJ [(2,z0)]<|xG<|zH ?_;obtain rfl:=zC N;exact xA ⟨_,_,(.tmp rfl ResV.nil),zQ,⟨_,rfl,rfl,(SL.nil _)⟩⟩
 intro hc N;refine zS<|yV<|fW 1 [] [(12,v0)] ?_;obtain ⟨t,hy1,N⟩:=zB N;obtain ⟨ad,ccs,rfl,hat,hrep⟩:=zJ6 h2 hy1;obtain ⟨p3,c2,p4,c3,p5,c4,p6,c5,p7,c6,rfl,h4,h5,h6,h7,h8⟩:=zCB hrep;obtain ⟨y3,hy2,N⟩:=zB N;refine xQ (dV t _ hy2 h4 h5 h6 h7 h8 hat) ?_;rintro I01 hs2 v2 k2 le1 - ⟨p8,c7,cs,rfl,rfl,h9⟩ -;refine yJ [] [2] rfl<|xG<|yY 0 rfl ?_;intro I02 le2 hl0;have h10:=SL.of_frozen hl0 le2 h9;obtain rfl:=zC N;exact xA ⟨_,_,(.tmp rfl ResV.nil),zQ,⟨_,rfl,rfl,h10⟩⟩
end Go.LN
