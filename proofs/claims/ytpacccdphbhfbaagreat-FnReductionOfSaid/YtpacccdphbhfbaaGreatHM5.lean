/- Helper of the proof (see the last text). -/
import Derived.Test.YtpacccdphbhfbaaGreatHM4
set_option linter.unusedVariables false
set_option linter.unusedSimpArgs false
namespace Go.LN
open Go.Proofs
set_option maxRecDepth 20000
def kI (hsF:List HA) (r:Bool):KT:=fun kk I' hs' v=>
  ∃ v0,hsF=hs'∧v=tupV [v0]∧v0=.bool r
def wN (s:(List Int)) (f0:(Int→Option Bool)):Option (Bool):=do
 let y←sU s f0
 pure (decide (y ≥ 0))
theorem kV:∀ s f0 r,wN s f0=some r→∀ {I:Imm}{p c}{fv:Value}{hsF:List HA},(S4 I p s c)→(FV1 Tryz.prog I hsF fv f0)→RT 71 [vS p s c,fv] I hsF (kI hsF r):=by
 intro s f0 r N I p c fv hsF h h1;unfold wN at N;refine yI Tryz.func71 fun B=>uA []<|yX<|yF 2 [] [5,6] rfl<|bE N fun y hy N=>zDF (hs1:=hsF) (rest:=[]) rfl rfl rfl rfl (by kernel_rfl) rfl (List.append_nil _).symm (jX s f0 _ hy h h1) ?_;rintro I0 hs2 v2 k2 le - ⟨v0,rfl,rfl,rfl⟩ -;refine qI (hs':=hsF) (List.append_nil _) ?_;refine yL [] [4] rfl<|zI<|yS ?_;obtain rfl:=zB N;exact xB ⟨_,_,(.tmp rfl ResV.nil),(fun _ h=>h),⟨_,rfl,rfl,rfl⟩⟩
def oZ (s:Str) (substr:Str):Option Bool:=match substr.l with | [c]=>some (decide (0 ≤ Lib.indexByte s.l c)) | _=>none
theorem zAT:∀ (s substr:Str) r,oZ s substr=some r→∀ {I:Imm},RT 197 [vT s.l,vT substr.l] I [] (zP r):=by
 intro s substr r N I;unfold oZ at N;split at N
 · rename_i c hc;cases N
   rw [hc];exact zGg (fun w g=>(Tryz.strings_Contains_one ⟨⟨s.l⟩⟩ c w).mono fun e w' ⟨h1,h2⟩=>⟨h1,h2 ▸ RowKit.Below.refl _ _,Nat.le_of_eq (by rw [h2])⟩) fun k=>⟨_,rfl,rfl,rfl⟩
 cases N
def nW (s:Str):Option (Bool):=do
 let t2←(do
   if ((s.l.length:Int) == 1) then
    let y←oZ (⟨[65,66,67,68]⟩:Str) s
    pure (id y)
   else
    pure false
     : Option Bool)
 pure (id t2)
theorem zCd:∀ s r,nW s=some r→∀ {I:Imm} ,RT 150 [vT s.l] I [] (zP  r):=by
 intro s r N I;unfold nW at N;refine yI Tryz.func150 fun B=>?_;have H:=iS I;refine uA []<|zI<|yA ?_;refine wI N [] (fun t2=>[(2,.bool t2)]) (fun o0 ho0=>?_) ?_
 · have H:=iS I;refine zM<|yF 4 [] [6] rfl<|xP [6] ho0 ?_ ?_
   · intro hc N;refine yF 5 [] [7] rfl<|bE N fun y hy N=>uB (zAT (⟨[65,66,67,68]⟩:Str) s _ hy ) ?_;intro I01 le;have H:=H.trans le;exact yL [] [2] rfl<|yM<|zR (ct N H)
   intro hc N;exact wC [] [(2,vF)]<|yM<|zR (ct N H)
 intro t2 I0 le1 hMc;refine zI<|yS ?_;obtain rfl:=zB hMc;exact wM
def sC (hsF:List HA) (r:Int):KT:=fun kk I' hs' v=>
  ∃ v0,hsF=hs'∧v=tupV [v0]∧v0=.int .i64 r
def yP (s:(List zA)) (f0:(zA→Option Bool)) (t8:Int):Option (Out Unit (Int)):=do
 if (decide (t8 < (s.length:Int))) then
  let x←idx s t8
  let y←f0 x
  if y then
   pure (.ret t8)
  else
   yP s f0 (W (t8 + 1))
 else
  pure (.done ())
 partial_fixpoint
theorem pX (s:(List zA)) (f0:(zA→Option Bool)):∀ (t8:Int) (o:Out Unit (Int)),yP s f0 t8=some o→∀ {B}{I0 I:Imm}{Q p c}{fv:Value}{hsF:List HA},I0.le I→(S4 I p s c)→(FV1 Tryz.prog I hsF fv f0)→NG Q→NO Q→(∀ (I':Imm) ,o=(.done ())→I0.le I'→T 19 B Q (.exit 0) I' hsF [])→(∀ r I' hs' m',o=(.ret r)→I0.le I'→RS Tryz.prog Tryz.f218 B (sC hsF r) I' hs' m'→T 19 B Q .ret I' hs' m')→J Tryz.prog 19 B (nav (bodyOf Tryz.f218) [1,0,1,0]) Q I hsF [(0,vS p s c),(1,fv),(7,vI (s.length:Int)),(8,vI t8)]:=by
 refine yP.partial_correctness s f0 _ fun self ih t8 o N B I0 I Q p c fv hsF H h h1 hg ho hx hr=>xH hg ho<|yO [9] rfl<|yE<|yH N ?_ ?_
 · intro hc N;refine zT<|yE<|yN<|yO [5] rfl<|yX<|yF 3 [] [11,12,13] rfl<|bE N fun x hy N=>wF rfl rfl h hy ?_;intro ad ccs hat hrep;obtain ⟨p1,c1,rfl,h2⟩:=yD hrep;refine xT 0 hat (cAff x p1 c1) (vA (cAff x p1 c1)) rfl<|bE N fun y hy1 N=>zGV rfl rfl h1 hy1 ⟨_,rfl,(yC ⟨_,rfl,h2⟩)⟩ (List.append_nil _).symm ?_;rintro I0 v01 le rfl;refine qI (hs':=hsF) (List.append_nil _) ?_;have ⟨h,h1,H⟩:=m3 le h h1 H;refine zZ rfl<|zI<|yH N ?_ ?_
   · intro hc1 N;exact yO [4] rfl<|xE<|zV<|zH<|zH<|hr _ _ _ _ (zB N).symm H ⟨_,_,(.tmp rfl ResV.nil),(fun _ h=>h),⟨_,rfl,rfl,rfl⟩⟩
   intro hc1 N;exact zT<|zQ<|zI<|zM<|yL [] [8] rfl<|xF<|mJ<|ih (W (t8 + 1)) _ N H h h1 hg ho hx hr
 intro hc N;exact tS<|yM<|hx _  (zB N).symm H
def wG (s:(List zA)) (f0:(zA→Option Bool)):Option (Int):=do
 match←yP s f0 0 with
 | .ret r0=>pure r0
 | .done _ =>
  pure (-1)
theorem oT:∀ s f0 r,wG s f0=some r→∀ {I:Imm}{p c}{fv:Value}{hsF:List HA},(S4 I p s c)→(FV1 Tryz.prog I hsF fv f0)→RT 218 [vS p s c,fv] I hsF (sC hsF r):=by
 intro s f0 r N I p c fv hsF h h1;unfold wG at N;refine yI Tryz.func218 fun B=>uA []<|yE<|yO [7,8] rfl<|uV<|mH [(0,vS p s c),(1,fv),(7,vI (s.length:Int)),(8,vI 0)] ?_;obtain ⟨o0,ho0,hMl⟩:=zC N;refine pX s f0 0 o0 ho0 iR h h1 (fun _ _ _ h=>h) (fun _ _ h=>h) ?_ ?_
 · intro I01  heq le1;subst o0;refine zU<|sI [4] rfl<|zI<|yS ?_;obtain rfl:=zB hMl;exact xB ⟨_,_,(.tmp rfl ResV.nil),(fun _ h=>h),⟨_,rfl,rfl,rfl⟩⟩
 intro r0 I9 hs9 m9 heq9 le9 hrs9;subst heq9;refine zV<|zH ?_;obtain rfl:=zB hMl;exact xB hrs9
def qZ (hsF:List HA) (r:Bool):KT:=fun kk I' hs' v=>
  ∃ v0,hsF=hs'∧v=tupV [v0]∧v0=.bool r
def xJ (s:(List zA)) (f0:(zA→Option Bool)):Option (Bool):=do
 let y←wG s f0
 pure (decide (y ≥ 0))
theorem pY:∀ s f0 r,xJ s f0=some r→∀ {I:Imm}{p c}{fv:Value}{hsF:List HA},(S4 I p s c)→(FV1 Tryz.prog I hsF fv f0)→RT 180 [vS p s c,fv] I hsF (qZ hsF r):=by
 intro s f0 r N I p c fv hsF h h1;unfold xJ at N;refine yI Tryz.func180 fun B=>uA []<|yX<|yF 2 [] [5,6] rfl<|bE N fun y hy N=>zDF (hs1:=hsF) (rest:=[]) rfl rfl rfl rfl (by kernel_rfl) rfl (List.append_nil _).symm (oT s f0 _ hy h h1) ?_;rintro I0 hs2 v2 k2 le - ⟨v0,rfl,rfl,rfl⟩ -;refine qI (hs':=hsF) (List.append_nil _) ?_;refine yL [] [4] rfl<|zI<|yS ?_;obtain rfl:=zB N;exact xB ⟨_,_,(.tmp rfl ResV.nil),(fun _ h=>h),⟨_,rfl,rfl,rfl⟩⟩
def kJ (n0:Int):Option (Bool):=do
 let y←tY n0 (-99) 99
 pure (id y)
theorem zCe:∀ n0 r,kJ n0=some r→∀ {I:Imm} ,RT 73 [vI n0] I [] (zP  r):=by
 intro n0 r N I;unfold kJ at N;refine yI Tryz.func73 fun B=>uA []<|yX<|yF 1 [] [3] rfl<|bE N fun y hy N=>uB (qV n0 (-99) 99 _ hy ) fun I0 le=>wC [] [(2,.bool y)]<|zI<|yS ?_;obtain rfl:=zB N;exact wM
def uZ (c:Int):Option (Bool):=do
 let y←tY c (-9) 9
 pure (!y)
theorem eY:∀ c r,uZ c=some r→∀ {I:Imm} ,RT 110 [vI c] I [] (zP  r):=by
 intro c r N I;unfold uZ at N;refine yI Tryz.func110 fun B=>uA []<|yX<|yF 1 [] [3] rfl<|bE N fun y hy N=>uB (qV c (-9) 9 _ hy ) fun I0 le=>wC [] [(2,.bool (!y))]<|zI<|yS ?_;obtain rfl:=zB N;exact wM
def tA (a0:zA):Option (Bool):=do
 let t2←(do
   if ((a0.Coefs.length:Int) == 4) then
    let y←kJ a0.Const
    if y then
     let y1←wN a0.Coefs uZ
     pure (!y1)
    else
     pure false
   else
    pure false
     : Option Bool)
 pure (id t2)
theorem oG:∀ a0 r,tA a0=some r→∀ {I:Imm}{p c},(S4 I p a0.Coefs c)→RT 51 [vA (cAff a0 p c)] I [] (zP  r):=by
 intro a0 r N I p c h;unfold tA at N;refine yI Tryz.func51 fun B=>?_;have H:=iS I;refine yG<|uG (cAff a0 p c) ?_;intro b hb;refine wC [] []<|zI<|yA ?_;refine wI N [] (fun t2=>[(2,.bool t2)]) (fun o0 ho0=>?_) ?_
 · have H:=iS I;refine zM<|yF 5 [0] [7] rfl<|xP [7] ho0 ?_ ?_
   · intro hc N;refine yF 7 [0] [9] rfl<|bE N fun y hy N=>uB (zCe a0.Const _ hy ) ?_;intro I01 le;have ⟨h,H⟩:=m2 le h H;refine yF 10 [] [12] rfl<|xP [12] N ?_ ?_
     · intro hc1 N;refine yF 12 [0] [14] rfl ?_;have hf0:FV1 Tryz.prog I01 [] (.func (.func 110) ⟨[]⟩ ⟨[]⟩) uZ:=by
         refine FV1.intro ?_;intro I1 le1 x0 r u0 hF k0;obtain rfl:=k0;exact (eY x0 r hF ).mono (by rintro k i hs u ⟨v0,rfl,rfl,h⟩; exact ⟨rfl,h⟩)
       obtain ⟨y1,hy1,N⟩:=zC N;refine xM (kV a0.Coefs uZ _ hy1 h hf0) ?_;rintro I02 hs2 v2 k2 le1 - ⟨v01,rfl,rfl,rfl⟩ -;have H:=H.trans le1;exact yL [] [2] rfl<|xQ zL<|yM<|zR (ct N H)
     intro hc1 N;exact wC [] [(2,vF)]<|xQ zL<|yM<|zR (ct N H)
   intro hc N;exact wC [] [(2,vF)]<|xQ zL<|yM<|zR (ct N H)
 intro t2 I0 le2 hMc;refine zI<|yS ?_;obtain rfl:=zB hMc;exact wM
def uD (a0:zA) (n0:Int):Option (Int):=do
 let t17←(do
   if (decide (n0 > 0)) then
    let x←idx a0.Coefs (W (n0 - 1))
    pure (x == 0)
   else
    pure false
     : Option Bool)
 if t17 then
  uD a0 (W (n0 - 1))
 else
  pure (id n0)
 partial_fixpoint
theorem fY (a0:zA):∀ (n0:Int) (o:Int),uD a0 n0=some o→∀ {B}{I0 I:Imm}{Q p c}{b:Nat},I0.le I→(S4 I p a0.Coefs c)→NG Q→NO Q→(∀ (I':Imm) (n01:Int),o=n01→I0.le I'→T 21 B Q (.exit 0) I' [] [(3,vI n01)])→J Tryz.prog 21 B (nav (bodyOf Tryz.f182) [1,1,0,0]) Q I [hB b (cAff a0 p c)] [(1,vP b 0),(3,vI n0)]:=by
 refine uD.partial_correctness a0 _ fun self ih n0 o N B I0 I Q p c b H h hg ho hx=>xH hg ho<|yA<|yA ?_;refine wI N [hB b (cAff a0 p c)] (fun t17=>[(1,vP b 0),(3,vI n0),(17,.bool t17)]) (fun o0 ho0=>?_) ?_
 · have H:=iS I;refine zM<|yF 3 [] [9] rfl<|xP [9] ho0 ?_ ?_
   · intro hc N;refine yF 7 [0] [11,13] rfl<|bE N fun x hy N=>wF rfl rfl h hy ?_;intro ad ccs hat hrep;obtain rfl:=hrep;exact xT 0 hat [vI x] (vI x) rfl<|yL [] [17] rfl<|yM<|zR (ct N H)
   intro hc N;exact wC [] [(17,vF)]<|yM<|zR (ct N H)
 intro t17 I0 le hMc;have ⟨h,H⟩:=m2 le h H;refine zI<|yH hMc ?_ ?_
 · intro hc1 N;exact zT<|uV<|zM<|yL [] [3] rfl<|zQ<|xF<|mJ<|ih (W (n0 - 1)) _ N H h hg ho hx
 intro hc1 N;exact tS<|xQ zL<|yM<|hx _ _ (zB N).symm H
def tN (a0:zA):Option (Int):=do
 let n01←uD a0 (a0.Coefs.length:Int)
 pure (id n01)
theorem jI:∀ a0 r,tN a0=some r→∀ {I:Imm}{p c},(S4 I p a0.Coefs c)→RT 182 [vA (cAff a0 p c)] I [] (xO  r):=by
 intro a0 r N I p c h;unfold tN at N;refine yI Tryz.func182 fun B=>yG<|uG (cAff a0 p c) ?_;intro b hb;refine wC [] []<|yX<|yL [0] [3] rfl<|yE<|yN<|mH [(1,vP b 0),(3,vI (a0.Coefs.length:Int))] ?_;obtain ⟨o01,ho01,hMl⟩:=zC N;refine fY a0 (a0.Coefs.length:Int) o01 ho01 iR h (fun _ _ _ h=>h) (fun _ _ h=>h) ?_;intro I01 n01 heq1 le1;subst o01;refine zU<|sI [2] rfl<|zI<|yS ?_;obtain rfl:=zB hMl;exact wM
def fB (a0:zA) (x:Int):Option (Bool):=do
 let t3←(do
   let y←tA a0
   if (!y) then
    pure true
   else
    let y1←tN a0
    pure (decide (y1 > x))
     : Option Bool)
 pure (id t3)
def gO (r:List Int):KT:=fun kk I' hs' v=>
  ∃ a0 c0 s0,hs'=[.osl (.slice a0 r.length c0) (Rp.sz Int) s0]∧v=tupV [(.slice a0 r.length c0)]∧RepL (Rp.rep I') (Rp.sz Int) s0 r
def qJ (s:List Int):Option (List Int):=app 8 ([]:List Int) s
theorem fZ:∀ s r,qJ s=some r→∀ {I:Imm}{p c},SL I (vS p s c) s→RT 94 [vS p s c] I [] (gO r):=by
 intro s r N I p c h;unfold qJ at N;obtain ⟨ccs,k0,k01⟩:=h;refine yI Tryz.func94 fun B=>?_;cases p with
 | none =>
  have hs:s=[]:=by
    rcases k0 with ⟨hv,rfl⟩ | ⟨b0,off,len,cap,cc,hv,k2⟩
    · cases s with
      | nil=>rfl
      | cons _ _=>simp at hv
    simp at hv
  subst hs;obtain ⟨_,rfl⟩:=dE N;refine yO [0,2] rfl<|yE<|yG<|yF 1 [] [3] rfl<|zJU true rfl rfl ?_ rfl;exact wC [] [(4,vY)]<|zI<|zFB rfl<|uA [(2,z0)]<|xE<|zH<|xQ (jE (Rp.sz Int))<|xB ⟨_,_,(.tmp rfl ResV.nil),(zX [0] rfl (by decide)),⟨none,0,[],rfl,rfl,rfl⟩⟩
 | some ad =>
  refine yO [0,2] rfl<|yE<|yG<|yF 1 [] [3] rfl<|zJU false rfl rfl ?_ rfl;refine yL [] [0,4] rfl<|zI<|zEf rfl<|zT<|yX<|qB [] Int ?_;intro b2 hb2;have h1:RL I [] ([]:List Int):=rfl;exact yF 2 [] [6] rfl<|nO 3 1 0 rfl rfl rfl h1 (.inl k0) k01 N fun p1 c1 cs h2=>yL [] [2] rfl<|xE<|xB ⟨_,_,(.tmp rfl ResV.nil),(zX [0] rfl (by decide)),⟨_,_,_,rfl,rfl,h2⟩⟩
def sV (s:zA) (x:Int):Option (Bool):=do
 let t3←(do
   let y←tA s
   if (!y) then
    pure true
   else
    let y1←tN s
    pure (decide (y1 > x))
     : Option Bool)
 pure (id t3)
theorem zAm:∀ s x r,sV s x=some r→∀ {I:Imm}{p c}{ad:Addr},(S4 I p s.Coefs c)→(At I ad [vI x])→RT 181 [vA (cAff s p c),.pointer (some ad)] I [] (zP  r):=by
 intro s x r N I p c ad h hat;unfold sV at N;refine yI Tryz.func181 fun B=>?_;have H:=iS I;refine yG<|uG (cAff s p c) ?_;intro b hb;refine wC [] []<|zI<|yA ?_;refine wI N [] (fun t3=>[(3,.bool t3)]) (fun o0 ho0=>?_) ?_
 · have H:=iS I;obtain ⟨y,hy,N⟩:=zC ho0;cases hc:(!y) with
   | true =>
    have hM0:=vC hc N;refine wZ [.p (vA (cAff s p c)) [0],.q (.bool y),.q vY,.q vY,.p undef [],.p undef [],.p undef [],.p undef [],.p vY []] [[],[(0,false)],[(1,false)],[(2,false)],[(3,false)],[(3,false),(4,false)],[(3,false)],[(3,false),(5,false),(6,false)],[(3,false),(7,false)]] [hB b (cAff s p c)] [] [(8,false)] (yB [0]) ?_ ?_
    · refine Op<|Oq ?_<|Oq ?_<|Oq ?_<|Op<|Op<|Op<|Op<|Op<|On
      · intro I1 hf le1;refine yY [4] rfl ?_;have H:=iS I1;have h:=h.mono le1;refine uB (oG s _ hy h) ?_;intro I01 le;have H:=H.trans le;exact xC H
      · intro I1 hf le1;refine yY [5] rfl<|qE 3 [(6,.bool (!y))] ?_;rw [hc];exact xC iR
      intro I1 hf le1;exact jM [(6,vY)]<|qE 4 [(7,vY)]<|xC iR
    intro I02 le1;refine jM [(12,vY)] ?_;have H:=H.trans le1;exact wC [] [(3,vY)]<|xQ zL<|yM<|zR (ct hM0 H)
   | false =>
    have hM01:=wP hc N;obtain ⟨y1,hy1,N⟩:=zC hM01;refine wZ [.p (vA (cAff s p c)) [0],.q (.bool y),.q vF,.q vF,.p (vA (cAff s p c)) [0],.q (vI y1),.q (vI x),.p (.bool (decide (y1 > x))) [],.p (.bool (decide (y1 > x))) []] [[],[(0,false)],[(1,false)],[(2,false)],[(3,false)],[(3,false),(4,false)],[(3,false)],[(3,false),(5,false),(6,false)],[(3,false),(7,false)]] [hB b (cAff s p c)] [] [(8,false)] (yB [0]) ?_ ?_
    · refine Op<|Oq ?_<|Oq ?_<|Oq ?_<|Op<|Oq ?_<|Oq ?_<|Op<|Op<|On
      · intro I1 hf le1;refine yY [4] rfl ?_;have H:=iS I1;have h:=h.mono le1;refine uB (oG s _ hy h) ?_;intro I01 le;have H:=H.trans le;exact xC H
      · intro I1 hf le1;refine yY [5] rfl<|qE 3 [(6,.bool (!y))] ?_;rw [hc];exact xC iR
      · intro I1 hf le1;exact jM [(6,vF)]<|qE 4 [(7,vF)]<|xC iR
      · intro I1 hf le1;refine yY [7,8] rfl ?_;have H:=iS I1;have h:=h.mono le1;refine fQ (jI s _ hy1 h) ?_;intro I03 le2;have H:=H.trans le2;exact xC H
      intro I1 hf le1;refine yY [1,7] rfl ?_;have hat:=hat.mono le1;exact xT 0 hat [vI x] (vI x) rfl<|xC iR
    intro I04 le3;refine yY [12] rfl ?_;have H:=H.trans le3;exact yL [] [3] rfl<|xQ zL<|yM<|zR (ct N H)
 intro t3 I0 le4 hMc;refine zI<|yS ?_;obtain rfl:=zB hMc;exact wM
def pC (a0:zF) (depth:Int):Option (Bool):=do
 let t4←(do
   let y←nW a0.Array
   if y then
    let y1←tY (a0.Subs.length:Int) 1 2
    if y1 then
     let y2←xJ a0.Subs (fun x0=>sV x0 depth)
     pure (!y2)
    else
     pure false
   else
    pure false
     : Option Bool)
 pure (id t4)
theorem eA:∀ a0 depth r,pC a0 depth=some r→∀ {I:Imm}{p c},(S4 I p a0.Subs c)→RT 134 [vA (cAccess a0 p c),vI depth] I [] (zP  r):=by
 intro a0 depth r N I p c h;unfold pC at N;refine yI Tryz.func134 fun B=>?_;have H:=iS I;refine yG<|uG (cAccess a0 p c) ?_;intro b hb;refine uG [vI depth] ?_;intro b1 hb1;refine vZ 0 rfl ?_;intro I0 le hl0;have hat:At I0 ⟨b1,0,none⟩ [vI depth]:=At.of_blk hl0;have ⟨h,H⟩:=m2 le h H;refine wC [] []<|zI<|yA ?_;refine wI N [] (fun t4=>[(4,.bool t4)]) (fun o0 ho0=>?_) ?_
 · have H:=iS I0;refine zM<|yF 2 [0] [6] rfl ?_;obtain ⟨y,hy,N⟩:=zC ho0;refine uB (zCd a0.Array _ hy ) ?_;intro I02 le1;have ⟨hat,h,H⟩:=m3 le1 hat h H;refine yF 4 [] [8] rfl<|xP [8] N ?_ ?_
   · intro hc N;refine yF 7 [0] [11] rfl<|bE N fun y1 hy1 N=>uB (qV (a0.Subs.length:Int) 1 2 _ hy1 ) ?_;intro I03 le2;have ⟨hat,h,H⟩:=m3 le2 hat h H;refine yF 10 [] [14] rfl<|xP [14] N ?_ ?_
     · intro hc1 N;refine yF 13 [0] [16,17] rfl ?_;have hf0:FV1 Tryz.prog I03 [] (.func (.func 181) ⟨[]⟩ ⟨[vP b1 0]⟩) (fun x0=>sV x0 depth):=by
         refine FV1.intro ?_;intro I1 le1 x0 r u0 hF k0;obtain ⟨_,rfl,k0⟩:=k0;obtain ⟨p1,c1,rfl,h3⟩:=yD k0;exact (zAm x0 depth r hF h3 (hat.mono le1)).mono (by rintro k i hs u ⟨v0,rfl,rfl,h⟩; exact ⟨rfl,h⟩)
       obtain ⟨y2,hy2,N⟩:=zC N;refine xM (pY a0.Subs (fun x0=>sV x0 depth) _ hy2 h hf0) ?_;rintro I04 hs2 v2 k2 le3 - ⟨v03,rfl,rfl,rfl⟩ -;have H:=H.trans le3;exact yL [] [4] rfl<|xQ zL<|yM<|zR (ct N H)
     intro hc1 N;exact wC [] [(4,vF)]<|xQ zL<|yM<|zR (ct N H)
   intro hc N;exact wC [] [(4,vF)]<|xQ zL<|yM<|zR (ct N H)
 intro t4 I01 le4 hMc;refine zI<|yS ?_;obtain rfl:=zB hMc;exact wM
def pD (a0:zA):Option (Bool):=do
 let t2←(do
   if ((a0.Coefs.length:Int) == 0) then
    pure (a0.Const == 0)
   else
    pure false
     : Option Bool)
 pure (id t2)
theorem eB:∀ a0 r,pD a0=some r→∀ {I:Imm}{p c},(S4 I p a0.Coefs c)→RT 183 [vA (cAff a0 p c)] I [] (zP  r):=by
 intro a0 r N I p c h;unfold pD at N;refine yI Tryz.func183 fun B=>?_;have H:=iS I;refine yG<|uG (cAff a0 p c) ?_;intro b hb;refine wC [] []<|zI<|yA ?_;refine wI N [] (fun t2=>[(2,.bool t2)]) (fun o0 ho0=>?_) ?_
 · have H:=iS I;refine zM<|yF 5 [0] [7] rfl<|xP [7] ho0 ?_ ?_
   · intro hc N;exact yL [0] [2] rfl<|xQ zL<|yM<|zR (ct N H)
   intro hc N;exact wC [] [(2,vF)]<|xQ zL<|yM<|zR (ct N H)
 intro t2 I0 le hMc;refine zI<|yS ?_;obtain rfl:=zB hMc;exact wM
def sZ (a0:zF):Option (Bool):=do
 let t2←(do
   if (a0.Array.l == ([]:List UInt8)) then
    pure ((a0.Subs.length:Int) == 0)
   else
    pure false
     : Option Bool)
 pure (id t2)
theorem mE:∀ a0 r,sZ a0=some r→∀ {I:Imm}{p c},(S4 I p a0.Subs c)→RT 184 [vA (cAccess a0 p c)] I [] (zP  r):=by
 intro a0 r N I p c h;unfold sZ at N;refine yI Tryz.func184 fun B=>?_;have H:=iS I;refine yG<|uG (cAccess a0 p c) ?_;intro b hb;refine wC [] []<|zI<|yA ?_;refine wI N [] (fun t2=>[(2,.bool t2)]) (fun o0 ho0=>?_) ?_
 · have H:=iS I;refine zM<|yF 4 [0] [6] rfl<|xP [6] ho0 ?_ ?_
   · intro hc N;exact yL [0] [2] rfl<|xQ zL<|yM<|zR (ct N H)
   intro hc N;exact wC [] [(2,vF)]<|xQ zL<|yM<|zR (ct N H)
 intro t2 I0 le hMc;refine zI<|yS ?_;obtain rfl:=zB hMc;exact wM
def jJ (kind:Int):Option (Bool):=do
 let y←tY kind 4 6
 pure (id y)
theorem zEn:∀ kind r,jJ kind=some r→∀ {I:Imm} ,RT 185 [vI kind] I [] (zP  r):=by
 intro kind r N I;unfold jJ at N;refine yI Tryz.func185 fun B=>uA []<|yX<|yF 1 [] [3] rfl<|bE N fun y hy N=>uB (qV kind 4 6 _ hy ) fun I0 le=>wC [] [(2,.bool y)]<|zI<|yS ?_;obtain rfl:=zB N;exact wM
def zAn (b0:Nat) (r:Bool×Int):KT:=fun kk I' hs' v=>
  ∃ v0 k0,hs'=[.blk b0 ⟨k0⟩]∧v=tupV [v0]∧v0=.bool r.1∧Rp.rep I' k0 r.2
def vG (e0:zD) (depth:Int) (deep:Int) (count:Int):Option (Bool×Int):=do
 let t21←(do
   if (decide ((W (count + 1)) > 12)) then
    pure true
   else
    pure (decide (deep > 5))
     : Option Bool)
 if t21 then
  pure (false,(W (count + 1)))
 else
  let t51←(do
    if (e0.Kind != 1) then
     if (e0.Num != 0) then
      pure true
     else
      if (e0.Kind != 2) then
       let y←pD e0.Index
       if (!y) then
        pure true
       else
        if (e0.Kind != 3) then
         let y1←sZ e0.Read
         pure (!y1)
        else
         pure false
      else
       if (e0.Kind != 3) then
        let y2←sZ e0.Read
        pure (!y2)
       else
        pure false
    else
     if (e0.Kind != 2) then
      let y3←pD e0.Index
      if (!y3) then
       pure true
      else
       if (e0.Kind != 3) then
        let y4←sZ e0.Read
        pure (!y4)
       else
        pure false
     else
      if (e0.Kind != 3) then
       let y5←sZ e0.Read
       pure (!y5)
      else
       pure false
      : Option Bool)
  if t51 then
   pure (false,(W (count + 1)))
  else
   if (e0.Kind == 1) then
    let t8←(do
      let y6←tY e0.Num 0 99
      if y6 then
       pure ((e0.Kids.length:Int) == 0)
      else
       pure false
        : Option Bool)
    pure (t8,(W (count + 1)))
   else
    if (e0.Kind == 2) then
     let t81←(do
       let y7←tA e0.Index
       if y7 then
        let y8←tN e0.Index
        if (decide (y8 ≤ depth)) then
         pure ((e0.Kids.length:Int) == 0)
        else
         pure false
       else
        pure false
         : Option Bool)
     pure (t81,(W (count + 1)))
    else
     if (e0.Kind == 3) then
      let t82←(do
        let y9←pC e0.Read depth
        if y9 then
         pure ((e0.Kids.length:Int) == 0)
        else
         pure false
          : Option Bool)
      pure (t82,(W (count + 1)))
     else
      let t99←(do
        let y10←jJ e0.Kind
        if (!y10) then
         pure true
        else
         pure ((e0.Kids.length:Int) != 2)
          : Option Bool)
      if t99 then
       pure (false,(W (count + 1)))
      else
       let (t83,x)←(do
         let x1←idx e0.Kids 0
         let (y12,y13)←vG (same x1) (same depth) (W (deep + 1)) (W (count + 1))
         if y12 then
          let x2←idx e0.Kids 1
          let (y15,y16)←vG (same x2) (same depth) (W (deep + 1)) (same y13)
          pure (y15,y16)
         else
          pure (false,y13)
           : Option (Bool×Int))
       pure (t83,x)
 partial_fixpoint
theorem zCI:∀ e0 depth deep count r,vG e0 depth deep count=some r→∀ {I:Imm}{p c p1 c1 p2 c2}{r0:Nat},(S4 I p e0.Index.Coefs c)→(S4 I p1 e0.Read.Subs c1)→(S4 I p2 e0.Kids c2)→RT 135 [vA (cExpr e0 p c p1 c1 p2 c2),vI depth,vI deep,vP r0 0] I [hB r0 [vI count]] (zAn r0 r):=by
 refine vG.partial_correctness _ fun F_impl_exprScan ih_impl_exprScan e0 depth deep count r N I p c p1 c1 p2 c2 r0 h h1 h2=>yI Tryz.func135 fun B=>?_;have H:=iS I;refine yG<|uG (cExpr e0 p c p1 c1 p2 c2) ?_;intro b hb;refine wC [] []<|yX<|yF 5 [1] [12,13] rfl<|yZ 1 [vI (W (count + 1))] rfl<|zZ rfl<|yE<|yA ?_;refine wI N [hB b (cExpr e0 p c p1 c1 p2 c2),hB r0 [vI (W (count + 1))]] (fun t21=>[(1,vI depth),(2,vI deep),(3,vP r0 0),(4,vP b 0),(21,.bool t21)]) (fun o0 ho0=>?_) ?_
 · have H:=iS I;refine zM<|yF 5 [1] [18] rfl<|xP [18] ho0 ?_ ?_
   · intro hc N;exact wC [] [(21,vY)]<|yM<|zR (ct N H)
   intro hc N;exact yL [] [21] rfl<|yM<|zR (ct N H)
 intro t21 I0 le hMc;have ⟨h,h1,h2,H⟩:=m4 le h h1 h2 H;refine zI<|yH hMc ?_ ?_
 · intro hc1 N;refine uA [(8,vF)]<|xE<|zH ?_;obtain rfl:=zB N;exact xB ⟨_,_,(.tmp rfl ResV.nil),(zX [1] rfl (by decide)),⟨_,_,rfl,rfl,rfl,rfl⟩⟩
 intro hc1 N;refine zT<|yE<|yA ?_;refine wI N [hB b (cExpr e0 p c p1 c1 p2 c2),hB r0 [vI (W (count + 1))]] (fun t51=>[(1,vI depth),(2,vI deep),(3,vP r0 0),(4,vP b 0),(51,.bool t51)]) (fun o01 ho01=>?_) ?_
 · have H:=iS I0;refine zM<|yF 4 [0] [25] rfl<|xP [25] ho01 ?_ ?_
   · intro hc2 N;refine yF 9 [0] [30] rfl<|xP [30] N ?_ ?_
     · intro hc3 N;exact wC [] [(51,vY)]<|yM<|zR (ct N H)
     intro hc3 N;refine yF 13 [0] [34] rfl<|xP [34] N ?_ ?_
     · intro hc4 N;refine sH 15 [0] [(36,vA (cAff e0.Index p c))]<|bE N fun y hy N=>uB (eB e0.Index _ hy h) ?_;intro I02 le1;have ⟨h1,H⟩:=m2 le1 h1 H;refine yF 20 [] [41] rfl<|xP [41] N ?_ ?_
       · intro hc5 N;exact wC [] [(51,vY)]<|yM<|zR (ct N H)
       intro hc5 N;refine yF 24 [0] [45] rfl<|xP [45] N ?_ ?_
       · intro hc6 N;refine sH 26 [0] [(47,vA (cAccess e0.Read p1 c1))]<|bE N fun y1 hy1 N=>uB (mE e0.Read _ hy1 h1) ?_;intro I03 le2;have H:=H.trans le2;exact yL [] [51] rfl<|yM<|zR (ct N H)
       intro hc6 N;exact wC [] [(51,vF)]<|yM<|zR (ct N H)
     intro hc4 N;refine yF 24 [0] [41,45] rfl<|xP [45] N ?_ ?_
     · intro hc7 N;refine sH 26 [0] [(47,vA (cAccess e0.Read p1 c1))]<|bE N fun y2 hy2 N=>uB (mE e0.Read _ hy2 h1) ?_;intro I04 le3;have H:=H.trans le3;exact yL [] [51] rfl<|yM<|zR (ct N H)
     intro hc7 N;exact wC [] [(51,vF)]<|yM<|zR (ct N H)
   intro hc2 N;refine yF 13 [0] [30,34] rfl<|xP [34] N ?_ ?_
   · intro hc8 N;refine sH 15 [0] [(36,vA (cAff e0.Index p c))]<|bE N fun y3 hy3 N=>uB (eB e0.Index _ hy3 h) ?_;intro I05 le4;have ⟨h1,H⟩:=m2 le4 h1 H;refine yF 20 [] [41] rfl<|xP [41] N ?_ ?_
     · intro hc9 N;exact wC [] [(51,vY)]<|yM<|zR (ct N H)
     intro hc9 N;refine yF 24 [0] [45] rfl<|xP [45] N ?_ ?_
     · intro hc10 N;refine sH 26 [0] [(47,vA (cAccess e0.Read p1 c1))]<|bE N fun y4 hy4 N=>uB (mE e0.Read _ hy4 h1) ?_;intro I06 le5;have H:=H.trans le5;exact yL [] [51] rfl<|yM<|zR (ct N H)
     intro hc10 N;exact wC [] [(51,vF)]<|yM<|zR (ct N H)
   intro hc8 N;refine yF 24 [0] [41,45] rfl<|xP [45] N ?_ ?_
   · intro hc11 N;refine sH 26 [0] [(47,vA (cAccess e0.Read p1 c1))]<|bE N fun y5 hy5 N=>uB (mE e0.Read _ hy5 h1) ?_;intro I07 le6;have H:=H.trans le6;exact yL [] [51] rfl<|yM<|zR (ct N H)
   intro hc11 N;exact wC [] [(51,vF)]<|yM<|zR (ct N H)
 intro t51 I01 le7 hMc1;have ⟨h,h1,h2,H⟩:=m4 le7 h h1 h2 H;refine zI<|yH hMc1 ?_ ?_
 · intro hc12 N;refine uA [(8,vF)]<|xE<|zH ?_;obtain rfl:=zB N;exact xB ⟨_,_,(.tmp rfl ResV.nil),(zX [1] rfl (by decide)),⟨_,_,rfl,rfl,rfl,rfl⟩⟩
 intro hc12 N;refine zT<|yE<|yN<|yG<|yL [0] [52] rfl<|zI<|yH N ?_ ?_
 · intro hc13 N;refine yA ?_;refine wI N [hB r0 [vI (W (count + 1))]] (fun t8=>[(8,.bool t8)]) (fun o02 ho02=>?_) ?_
   · have H:=iS I01;refine zM<|yF 2 [0] [57] rfl ?_;obtain ⟨y6,hy6,N⟩:=zC ho02;refine uB (qV e0.Num 0 99 _ hy6 ) ?_;intro I09 le8;have H:=H.trans le8;refine yF 4 [] [59] rfl<|xP [59] N ?_ ?_
     · intro hc14 N;exact yL [0] [8] rfl<|xQ (zX [1] rfl (by decide))<|yM<|zR (ct N H)
     intro hc14 N;exact wC [] [(8,vF)]<|xQ (zX [1] rfl (by decide))<|yM<|zR (ct N H)
   intro t8 I08 le9 hMc2;refine xE<|zV<|zH ?_;obtain rfl:=zB hMc2;exact xB ⟨_,_,(.tmp rfl ResV.nil),(zX [0] rfl (by decide)),⟨_,_,rfl,rfl,rfl,rfl⟩⟩
 intro hc13 N;refine yG<|yL [0] [65] rfl<|zI<|yH N ?_ ?_
 · intro hc15 N;refine yA ?_;refine wI N [hB r0 [vI (W (count + 1))]] (fun t81=>[(8,.bool t81)]) (fun o03 ho03=>?_) ?_
   · have H:=iS I01;refine zM<|sH 2 [0] [(70,vA (cAff e0.Index p c))] ?_;obtain ⟨y7,hy7,N⟩:=zC ho03;refine uB (oG e0.Index _ hy7 h) ?_;intro I011 le10;have ⟨h,H⟩:=m2 le10 h H;refine yF 4 [] [72] rfl<|xP [72] N ?_ ?_
     · intro hc16 N;refine sH 6 [0] [(74,vA (cAff e0.Index p c))]<|bE N fun y8 hy8 N=>fQ (jI e0.Index _ hy8 h) ?_;intro I012 le11;have H:=H.trans le11;refine yF 11 [] [79] rfl<|xP [79] N ?_ ?_
       · intro hc17 N;exact yL [0] [8] rfl<|xQ (zX [1] rfl (by decide))<|yM<|zR (ct N H)
       intro hc17 N;exact wC [] [(8,vF)]<|xQ (zX [1] rfl (by decide))<|yM<|zR (ct N H)
     intro hc16 N;exact wC [] [(8,vF)]<|xQ (zX [1] rfl (by decide))<|yM<|zR (ct N H)
   intro t81 I010 le12 hMc3;refine xE<|zV<|zH ?_;obtain rfl:=zB hMc3;exact xB ⟨_,_,(.tmp rfl ResV.nil),(zX [0] rfl (by decide)),⟨_,_,rfl,rfl,rfl,rfl⟩⟩
 intro hc15 N;refine yG<|yL [0] [85] rfl<|zI<|yH N ?_ ?_
 · intro hc18 N;refine yA ?_;refine wI N [hB r0 [vI (W (count + 1))]] (fun t82=>[(8,.bool t82)]) (fun o04 ho04=>?_) ?_
   · have H:=iS I01;refine zM<|sH 3 [0] [(90,vA (cAccess e0.Read p1 c1)),(91,vI depth)] ?_;obtain ⟨y9,hy9,N⟩:=zC ho04;refine uB (eA e0.Read depth _ hy9 h1) ?_;intro I014 le13;have H:=H.trans le13;refine yF 5 [] [93] rfl<|xP [93] N ?_ ?_
     · intro hc19 N;exact yL [0] [8] rfl<|xQ (zX [1] rfl (by decide))<|yM<|zR (ct N H)
     intro hc19 N;exact wC [] [(8,vF)]<|xQ (zX [1] rfl (by decide))<|yM<|zR (ct N H)
   intro t82 I013 le14 hMc4;refine xE<|zV<|zH ?_;obtain rfl:=zB hMc4;exact xB ⟨_,_,(.tmp rfl ResV.nil),(zX [0] rfl (by decide)),⟨_,_,rfl,rfl,rfl,rfl⟩⟩
 intro hc18 N;refine yA ?_;refine wI N [hB b (cExpr e0 p c p1 c1 p2 c2),hB r0 [vI (W (count + 1))]] (fun t99=>[(1,vI depth),(2,vI deep),(3,vP r0 0),(4,vP b 0),(99,.bool t99)]) (fun o05 ho05=>?_) ?_
 · have H:=iS I01;refine zM<|yF 2 [0] [101] rfl ?_;obtain ⟨y10,hy10,N⟩:=zC ho05;refine uB (zEn e0.Kind _ hy10 ) ?_;intro I016 le15;have H:=H.trans le15;refine yF 5 [] [104] rfl<|xP [104] N ?_ ?_
   · intro hc20 N;exact wC [] [(99,vY)]<|yM<|zR (ct N H)
   intro hc20 N;exact yL [0] [99] rfl<|yM<|zR (ct N H)
 intro t99 I015 le16 hMc5;have ⟨h2,H⟩:=m2 le16 h2 H;refine zI<|yH hMc5 ?_ ?_
 · intro hc21 N;refine uA [(8,vF)]<|xE<|zV<|zH ?_;obtain rfl:=zB N;exact xB ⟨_,_,(.tmp rfl ResV.nil),(zX [1] rfl (by decide)),⟨_,_,rfl,rfl,rfl,rfl⟩⟩
 intro hc21 N;refine zT<|zQ<|zI<|yA ?_;obtain ⟨o06,ho06,hMc6⟩:=zC N;refine oH (fun I' hs' m'=>∃ (t83:Bool) (x:Int),o06=(t83,x)∧I015.le I'∧hs'=[hB r0 [vI x]]∧m'=[(8,.bool t83)]) ?_ ?_
 · have H:=iS I015;refine zM<|yF 2 [0] [111] rfl ?_;obtain ⟨x1,hy11,N⟩:=zC ho06;refine wF rfl rfl h2 hy11 ?_;intro ad ccs hat hrep;obtain ⟨p3,c3,p4,c4,p5,c5,rfl,h14,h15,h16⟩:=yV hrep;refine xT 0 hat (cExpr x1 p3 c3 p4 c4 p5 c5) (vA (cExpr x1 p3 c3 p4 c4 p5 c5)) rfl<|yF 8 [] [114,116,117] rfl<|qH (yB [1,0] (hs':=[hB r0 [vI (W (count + 1))],hB b (cExpr e0 p c p1 c1 p2 c2)])) ?_;obtain ⟨⟨y12,y13⟩,hy12,N⟩:=zC N;refine rA (ih_impl_exprScan x1 depth (W (deep + 1)) (W (count + 1)) _ hy12 h14 h15 h16) rfl ?_;rintro I018 hs2 v2 k2 le17 - ⟨v014,kk,rfl,rfl,rfl,h18⟩ -;have ⟨h2,H⟩:=m2 le17 h2 H;obtain rfl:=h18;refine yF 10 [] [119] rfl<|xP [119] N ?_ ?_
   · intro hc22 N;refine yF 12 [1] [121] rfl<|bE N fun x2 hy13 N=>wF rfl rfl h2 hy13 ?_;intro ad1 ccs1 hat1 hrep1;obtain ⟨p6,c6,p7,c7,p8,c8,rfl,h19,h20,h21⟩:=yV hrep1;refine xT 0 hat1 (cExpr x2 p6 c6 p7 c7 p8 c8) (vA (cExpr x2 p6 c6 p7 c7 p8 c8)) rfl<|yF 18 [] [124,126,127] rfl ?_;obtain ⟨⟨y15,y16⟩,hy14,N⟩:=zC N;refine rA (ih_impl_exprScan x2 depth (W (deep + 1)) y13 _ hy14 h19 h20 h21) rfl ?_;rintro I019 hs2 v2 k2 le18 - ⟨v018,kk1,rfl,rfl,rfl,h23⟩ -;have H:=H.trans le18;obtain rfl:=h23;exact yL [] [8] rfl<|xQ (zX [0] rfl (by decide))<|yM<|zR ⟨_,_,(zB N).symm,H,rfl,rfl⟩
   intro hc22 N;exact wC [] [(8,vF)]<|xQ (zX [0] rfl (by decide))<|yM<|zR ⟨_,_,(zB N).symm,H,rfl,rfl⟩
 rintro I017 hs2 m2 ⟨t83,x,heq6,le19,rfl,rfl⟩;subst o06;refine zI<|yS ?_;obtain rfl:=zB hMc6;exact xB ⟨_,_,(.tmp rfl ResV.nil),(zX [0] rfl (by decide)),⟨_,_,rfl,rfl,rfl,rfl⟩⟩
def oN (s:zK) (depth:Int):Option (Bool):=do
 let t4←(do
   let y←tY depth 0 4
   if y then
    let y1←pC s.Write depth
    if y1 then
     let (y3,y4)←vG s.Value depth 1 0
     pure (id y3)
    else
     pure false
   else
    pure false
     : Option Bool)
 pure (id t4)
theorem zB3:∀ s depth r,oN s depth=some r→∀ {I:Imm}{p c p1 c1 p2 c2 p3 c3},(S4 I p s.Write.Subs c)→(S4 I p1 s.Value.Index.Coefs c1)→(S4 I p2 s.Value.Read.Subs c2)→(S4 I p3 s.Value.Kids c3)→RT 70 [vA (cStmt s p c p1 c1 p2 c2 p3 c3),vI depth] I [] (zP  r):=by
 intro s depth r N I p c p1 c1 p2 c2 p3 c3 h h1 h2 h3;unfold oN at N;refine yI Tryz.func70 fun B=>?_;have H:=iS I;refine yG<|uG (cStmt s p c p1 c1 p2 c2 p3 c3) ?_;intro b hb;refine wC [] []<|yX<|wK [vI 0] ?_;intro b1 hb1;refine yZ 0 [vI 0] rfl<|zZ rfl<|zI<|yA ?_;refine wI N [] (fun t4=>[(4,.bool t4)]) (fun o0 ho0=>?_) ?_
 · have H:=iS I;refine zM<|yF 1 [] [6] rfl ?_;obtain ⟨y,hy,N⟩:=zC ho0;refine uB (qV depth 0 4 _ hy ) ?_;intro I01 le;have ⟨h,h1,h2,h3,H⟩:=m5 le h h1 h2 h3 H;refine yF 3 [] [8] rfl<|xP [8] N ?_ ?_
   · intro hc N;refine sH 6 [1] [(10,vA (cAccess s.Write p c)),(11,vI depth)]<|bE N fun y1 hy1 N=>uB (eA s.Write depth _ hy1 h) ?_;intro I02 le1;have ⟨h1,h2,h3,H⟩:=m4 le1 h1 h2 h3 H;refine yF 9 [] [14] rfl<|xP [14] N ?_ ?_
     · intro hc1 N;refine sH 12 [1] [(16,vA (cExpr s.Value p1 c1 p2 c2 p3 c3)),(17,vI depth)] ?_;obtain ⟨⟨y3,y4⟩,hy2,N⟩:=zC N;refine rA (zCI s.Value depth 1 0 _ hy2 h1 h2 h3) rfl ?_;rintro I03 hs2 v2 k2 le2 - ⟨v02,kk,rfl,rfl,rfl,h7⟩ -;have H:=H.trans le2;obtain rfl:=h7;exact yL [] [4] rfl<|xQ zL<|yM<|zR (ct N H)
     intro hc1 N;exact wC [] [(4,vF)]<|xQ zL<|yM<|zR (ct N H)
   intro hc N;exact wC [] [(4,vF)]<|xQ zL<|yM<|zR (ct N H)
 intro t4 I0 le3 hMc;refine zI<|yS ?_;obtain rfl:=zB hMc;exact wM
def jP (r:(List zF)):KT:=fun kk I' hs' v=>
  ∃ v0,hs'=[]∧v=tupV [v0]∧SL I' v0 r
mutual
def pK (e0:zD):Option ((List zF)):=do
 if (e0.Kind == 3) then
  pure ([e0.Read]:List zF)
 else
  let out1←qD (same e0) ([]:List zF) (same 0)
  pure (id out1)
 partial_fixpoint
def qD (e0:zD) (out:List zF) (t15:Int):Option (List zF):=do
 if (decide (t15 < (e0.Kids.length:Int))) then
  let x←idx e0.Kids t15
  let y←pK (same x)
  let out2←app 40 out y
  qD (same e0) (same out2) (W (t15 + 1))
 else
  pure (id out)
 partial_fixpoint
end
theorem zD1:(∀ (e0:zD) r,pK e0=some r→∀ {I:Imm}{p c p1 c1 p2 c2},(S4 I p e0.Index.Coefs c)→(S4 I p1 e0.Read.Subs c1)→(S4 I p2 e0.Kids c2)→RT 49 [vA (cExpr e0 p c p1 c1 p2 c2)] I [] (jP  r))∧(∀ (e0:zD) (out:List zF) (t15:Int) o,qD e0 out t15=some o→∀ {B}{I0 I:Imm}{Q p2 c2 p3 c3 cs},I0.le I→(S4 I p2 e0.Kids c2)→(RL I cs out)→NG Q→NO Q→(∀ (I':Imm) (out1:List zF) (p4:Option Addr) (c4:Nat) (cs1:List Value),o=out1→I0.le I'→(RL I' cs1 out1)→T 25 B Q (.exit 0) I' [hO zF (vS p4 out1 c4) cs1] [(3,vS p4 out1 c4)])→J Tryz.prog 25 B (nav (bodyOf Tryz.f49) [1,1,1,0,1,0]) Q I [hO zF (vS p3 out c3) cs] [(3,vS p3 out c3),(13,vS p2 e0.Kids c2),(14,vI (e0.Kids.length:Int)),(15,vI t15)]):=by
  refine pK.mutual_partial_correctness _ _ ?_ ?_
  · intro F_impl_reads_l1 ih_impl_reads_l1 e0 r N I p c p1 c1 p2 c2 h h1 h2;refine yI Tryz.func49 fun B=>yG<|uG (cExpr e0 p c p1 c1 p2 c2) ?_;intro b hb;refine wC [] []<|yE<|yG<|yL [0] [8] rfl<|zI<|yH N ?_ ?_
    · intro hc N;refine yG<|sH 2 [0] [(10,vA (cAccess e0.Read p1 c1))]<|qB (cAccess e0.Read p1 c1) zF ?_;intro b1 hb1;have h3:RL I (cAccess e0.Read p1 c1) ([e0.Read]:List zF):=⟨(cAccess e0.Read p1 c1),_,rfl,rfl,(rD ⟨_,rfl,h1⟩),rfl⟩;refine yL [] [2] rfl<|xE<|zH<|xN 0 rfl ?_;intro I0 le hl0;have h4:=SL.of_frozen hl0 le h3;obtain rfl:=zB N;exact xB ⟨_,_,(.tmp rfl ResV.nil),zL,⟨_,rfl,rfl,h4⟩⟩
    intro hc N;refine zT<|zFP [(3,z0)]<|yE<|yG<|yL [0] [13,14,15] rfl<|uV<|gA (yB [] (hs':=[]))<|mH [(3,z0),(13,vS p2 e0.Kids c2),(14,vI (e0.Kids.length:Int)),(15,vI 0)]<|zDQ zF fun h5=>?_;obtain ⟨o0,ho0,hMl⟩:=zC N;refine ih_impl_reads_l1 e0 ([]:List zF) 0 o0 ho0 iR h2 h5 (fun _ _ _ h=>h) (fun _ _ h=>h) ?_;intro I02 out1 p4 c4 cs1 heq le2 h7;subst o0;refine zU<|sI [2] rfl<|xE<|xN 0 rfl ?_;intro I03 le3 hl01;have h13:=SL.of_frozen hl01 le3 h7;obtain rfl:=zB hMl;exact xB ⟨_,_,(.tmp rfl ResV.nil),zL,⟨_,rfl,rfl,h13⟩⟩
  intro F_impl_reads F_impl_reads_l1 ih_impl_reads ih_impl_reads_l1 e0 out t15 o N B I0 I Q p2 c2 p3 c3 cs H h2 h6 hg ho hx;refine xH hg ho<|yO [16] rfl<|yE<|yH N ?_ ?_
  · intro hc1 N;refine zT<|yE<|yN<|yG<|bE N fun x hy N=>wF rfl rfl h2 hy ?_;intro ad ccs hat hrep;obtain ⟨p5,c5,p6,c6,p7,c7,rfl,h8,h9,h10⟩:=yV hrep;refine xT 0 hat (cExpr x p5 c5 p6 c6 p7 c7) (vA (cExpr x p5 c5 p6 c6 p7 c7)) rfl<|wK zExpr ?_;intro b2 hb2;refine yZ 0 (cExpr x p5 c5 p6 c6 p7 c7) rfl<|zZ rfl<|zI<|zM<|sH 2 [0] [(19,vS p3 out c3),(20,vA (cExpr x p5 c5 p6 c6 p7 c7))]<|bE N fun y hy1 N=>xM (ih_impl_reads x _ hy1 h8 h9 h10) ?_;rintro I01 hs2 v2 k2 le1 - ⟨v03,rfl,rfl,h11⟩ -;have ⟨h2,h6,H⟩:=m3 le1 h2 h6 H;obtain ⟨p8,c8,rfl⟩:=h11.form;obtain ⟨ccs1,k0,k01⟩:=h11;have h11:SL I01 (vS p8 y c8) y:=⟨_,k0,k01⟩;obtain ⟨out2,hy2,N⟩:=zC N;exact nO 41 2 1 rfl rfl rfl h6 (.inl k0) k01 hy2 fun p9 c9 cs2 h12=>qH (yB [0,1] (hs':=[hB b2 (cExpr x p5 c5 p6 c6 p7 c7),hO zF (vS p9 out2 c9) cs2]))<|yL [] [3] rfl<|zQ<|zI<|zM<|yL [] [15] rfl<|xF<|gA (zX [1] rfl (by decide))<|mJ<|ih_impl_reads_l1 e0 out2 (W (t15 + 1)) _ N H h2 h12 hg ho hx
  intro hc1 N;exact tS<|yM<|hx _ _ _ _ _ (zB N).symm H h6
theorem zA3:∀ e0 r,pK e0=some r→∀ {I:Imm}{p c p1 c1 p2 c2},(S4 I p e0.Index.Coefs c)→(S4 I p1 e0.Read.Subs c1)→(S4 I p2 e0.Kids c2)→RT 49 [vA (cExpr e0 p c p1 c1 p2 c2)] I [] (jP  r):=zD1.1
def sD (hsF:List HA) (r:Int):KT:=fun kk I' hs' v=>
  ∃ v0,hsF=hs'∧v=tupV [v0]∧v0=.int .i64 r
def yQ (s:(List zF)) (f0:(zF→Option Bool)) (t8:Int):Option (Out Unit (Int)):=do
 if (decide (t8 < (s.length:Int))) then
  let x←idx s t8
  let y←f0 x
  if y then
   pure (.ret t8)
  else
   yQ s f0 (W (t8 + 1))
 else
  pure (.done ())
 partial_fixpoint
theorem pZ (s:(List zF)) (f0:(zF→Option Bool)):∀ (t8:Int) (o:Out Unit (Int)),yQ s f0 t8=some o→∀ {B}{I0 I:Imm}{Q p c}{fv:Value}{hsF:List HA},I0.le I→(S4 I p s c)→(FV1 Tryz.prog I hsF fv f0)→NG Q→NO Q→(∀ (I':Imm) ,o=(.done ())→I0.le I'→T 19 B Q (.exit 0) I' hsF [])→(∀ r I' hs' m',o=(.ret r)→I0.le I'→RS Tryz.prog Tryz.f162 B (sD hsF r) I' hs' m'→T 19 B Q .ret I' hs' m')→J Tryz.prog 19 B (nav (bodyOf Tryz.f162) [1,0,1,0]) Q I hsF [(0,vS p s c),(1,fv),(7,vI (s.length:Int)),(8,vI t8)]:=by
 refine yQ.partial_correctness s f0 _ fun self ih t8 o N B I0 I Q p c fv hsF H h h1 hg ho hx hr=>xH hg ho<|yO [9] rfl<|yE<|yH N ?_ ?_
 · intro hc N;refine zT<|yE<|yN<|yO [5] rfl<|yX<|yF 3 [] [11,12,13] rfl<|bE N fun x hy N=>wF rfl rfl h hy ?_;intro ad ccs hat hrep;obtain ⟨p1,c1,rfl,h2⟩:=uE hrep;refine xT 0 hat (cAccess x p1 c1) (vA (cAccess x p1 c1)) rfl<|bE N fun y hy1 N=>zGV rfl rfl h1 hy1 ⟨_,rfl,(rD ⟨_,rfl,h2⟩)⟩ (List.append_nil _).symm ?_;rintro I0 v01 le rfl;refine qI (hs':=hsF) (List.append_nil _) ?_;have ⟨h,h1,H⟩:=m3 le h h1 H;refine zZ rfl<|zI<|yH N ?_ ?_
   · intro hc1 N;exact yO [4] rfl<|xE<|zV<|zH<|zH<|hr _ _ _ _ (zB N).symm H ⟨_,_,(.tmp rfl ResV.nil),(fun _ h=>h),⟨_,rfl,rfl,rfl⟩⟩
   intro hc1 N;exact zT<|zQ<|zI<|zM<|yL [] [8] rfl<|xF<|mJ<|ih (W (t8 + 1)) _ N H h h1 hg ho hx hr
 intro hc N;exact tS<|yM<|hx _  (zB N).symm H
def wH (s:(List zF)) (f0:(zF→Option Bool)):Option (Int):=do
 match←yQ s f0 0 with
 | .ret r0=>pure r0
 | .done _ =>
  pure (-1)
theorem oU:∀ s f0 r,wH s f0=some r→∀ {I:Imm}{p c}{fv:Value}{hsF:List HA},(S4 I p s c)→(FV1 Tryz.prog I hsF fv f0)→RT 162 [vS p s c,fv] I hsF (sD hsF r):=by
 intro s f0 r N I p c fv hsF h h1;unfold wH at N;refine yI Tryz.func162 fun B=>uA []<|yE<|yO [7,8] rfl<|uV<|mH [(0,vS p s c),(1,fv),(7,vI (s.length:Int)),(8,vI 0)] ?_;obtain ⟨o0,ho0,hMl⟩:=zC N;refine pZ s f0 0 o0 ho0 iR h h1 (fun _ _ _ h=>h) (fun _ _ h=>h) ?_ ?_
 · intro I01  heq le1;subst o0;refine zU<|sI [4] rfl<|zI<|yS ?_;obtain rfl:=zB hMl;exact xB ⟨_,_,(.tmp rfl ResV.nil),(fun _ h=>h),⟨_,rfl,rfl,rfl⟩⟩
 intro r0 I9 hs9 m9 heq9 le9 hrs9;subst heq9;refine zV<|zH ?_;obtain rfl:=zB hMl;exact xB hrs9
def pA (hsF:List HA) (r:Bool):KT:=fun kk I' hs' v=>
  ∃ v0,hsF=hs'∧v=tupV [v0]∧v0=.bool r
def xK (s:(List zF)) (f0:(zF→Option Bool)):Option (Bool):=do
 let y←wH s f0
 pure (decide (y ≥ 0))
theorem oA:∀ s f0 r,xK s f0=some r→∀ {I:Imm}{p c}{fv:Value}{hsF:List HA},(S4 I p s c)→(FV1 Tryz.prog I hsF fv f0)→RT 102 [vS p s c,fv] I hsF (pA hsF r):=by
 intro s f0 r N I p c fv hsF h h1;unfold xK at N;refine yI Tryz.func102 fun B=>uA []<|yX<|yF 2 [] [5,6] rfl<|bE N fun y hy N=>zDF (hs1:=hsF) (rest:=[]) rfl rfl rfl rfl (by kernel_rfl) rfl (List.append_nil _).symm (oU s f0 _ hy h h1) ?_;rintro I0 hs2 v2 k2 le - ⟨v0,rfl,rfl,rfl⟩ -;refine qI (hs':=hsF) (List.append_nil _) ?_;refine yL [] [4] rfl<|zI<|yS ?_;obtain rfl:=zB N;exact xB ⟨_,_,(.tmp rfl ResV.nil),(fun _ h=>h),⟨_,rfl,rfl,rfl⟩⟩
end Go.LN
