/- Helper of the proof (see the last text). -/
import Derived.Test.YtaflkghnfcjahaaGreatHM3
set_option linter.unusedVariables false
set_option linter.unusedSimpArgs false
namespace Go.LN
open Go.Proofs
set_option maxRecDepth 20000
def zDw (r:zA×Int):KT:=fun kk I' hs' v=>
  ∃ v0 v1,hs'=[]∧v=tupV [v0,v1]∧(∃ cs,v0=.agg ⟨cs⟩∧Rp.rep I' cs r.1)∧v1=.int .i64 r.2
def gF (a0:zA) (s:Str) (at0:Int):Option (zA×Int):=do
 let b2←sidx s at0
 let sign←(do
   if ((b2.toNat:Int) == 45) then
    pure (-1)
   else
    pure (id 1)
     : Option Int)
 let t27←(do
   let b3←sidx s at0
   if ((b3.toNat:Int) == 45) then
    pure true
   else
    let b4←sidx s at0
    pure ((b4.toNat:Int) == 43)
     : Option Bool)
 let at01←(do
   if t27 then
    pure (W (at0 + 1))
   else
    pure (id at0)
     : Option Int)
 let (y1,y2)←mB s at01
 let t51←(do
   if (decide (y2 > at01)) then
    if (decide (y2 < (s.l.length:Int))) then
     let b5←sidx s y2
     pure ((b5.toNat:Int) == 42)
    else
     pure false
   else
    pure false
     : Option Bool)
 let star←(do
   if t51 then
    pure (W (y2 + 1))
   else
    pure (id y2)
     : Option Int)
 let y3←fD s star
 let l←app 8 ([]:List Int) a0.Coefs
 let t75←(do
   if (decide (y3 ≥ 0)) then
    if (decide (star > y2)) then
     pure true
    else
     pure (y2 == at01)
   else
    pure false
     : Option Bool)
 if t75 then
  let x←idx l y3
  let x1←idx l y3
  let l1←pure (l.set y3.toNat (W (x + (W (sign * y1)))))
  pure ((zA.mk l1 a0.Const),(W (star + 1)))
 else
  if (y2 == at01) then
   pure (a0,(-1))
  else
   pure ((zA.mk l (W (a0.Const + (W (sign * y1))))),y2)
theorem zF6:∀ a0 s at0 r,gF a0 s at0=some r→∀ {I:Imm}{p c},(S4 I p a0.Coefs c)→RT 265 [vA (cAff a0 p c),vT s.l,vI at0] I [] (zDw  r):=by
 intro a0 s at0 r N I p c h;unfold gF at N;refine yM Tryz.func265 fun B=>?_;have H:=iS I;refine yF<|vX (cAff a0 p c) ?_;intro b hb;refine wH [z0,vI 0] ?_;intro b1 hb1;refine wG [] []<|vG [8] rfl<|zZ<|yF<|yB 2 [] [14,15] rfl<|bE N fun b2 hy N=>zAR rfl rfl hy<|yJ [] [17] rfl<|zI ?_;refine wE N [hB b1 [z0,vI 0],hB b (cAff a0 p c)] (fun sign=>[(1,vT s.l),(2,vI at0),(3,vP b 0),(6,vP b1 0),(8,vI sign)]) (fun o0 ho0=>?_) ?_
 · have H:=iS I;refine yE ho0 ?_ ?_
   · intro hc N;exact zK<|yJ [] [8] rfl<|yQ<|zT (ct N H)
   intro hc N;exact zS<|yQ<|zT (ct N H)
 intro sign I0 le hMc;have ⟨h,H⟩:=m2 le h H;refine zZ<|yC ?_;refine wE hMc [hB b1 [z0,vI 0],hB b (cAff a0 p c)] (fun t27=>[(1,vT s.l),(2,vI at0),(3,vP b 0),(6,vP b1 0),(8,vI sign),(27,.bool t27)]) (fun o01 ho01=>?_) ?_
 · have H:=iS I0;refine zK<|yB 2 [] [18,19] rfl ?_;obtain ⟨b3,hy1,N⟩:=zB ho01;refine zAR rfl rfl hy1<|yB 5 [] [22] rfl<|xW [22] N ?_ ?_
   · intro hc1 N;exact wG [] [(27,vY)]<|yQ<|zT (ct N H)
   intro hc1 N;exact yB 7 [] [23,24] rfl<|bE N fun b4 hy2 N=>zAR rfl rfl hy2<|yJ [] [27] rfl<|yQ<|zT (ct N H)
 intro t27 I01 le1 hMc1;have ⟨h,H⟩:=m2 le1 h H;refine zI ?_;refine wE hMc1 [hB b1 [z0,vI 0],hB b (cAff a0 p c)] (fun at01=>[(1,vT s.l),(2,vI at01),(3,vP b 0),(6,vP b1 0),(8,vI sign)]) (fun o02 ho02=>?_) ?_
 · have H:=iS I01;refine yE ho02 ?_ ?_
   · intro hc2 N;exact zK<|yJ [] [2] rfl<|yQ<|zT (ct N H)
   intro hc2 N;exact zS<|yQ<|zT (ct N H)
 intro at01 I02 le2 hMc2;have ⟨h,H⟩:=m2 le2 h H;refine yV<|yB 2 [] [31,32] rfl ?_;obtain ⟨⟨y1,y2⟩,hy3,N⟩:=zB hMc2;refine xQ (zBC s at01 _ hy3 ) ?_;rintro I03 hs2 v2 k2 le3 - ⟨v0,v01,rfl,rfl,rfl,rfl⟩ -;have ⟨h,H⟩:=m2 le3 h H;refine yJ [] [9,10] rfl<|vG [11] rfl<|zZ<|yC ?_;refine wE N [hB b1 [z0,vI 0],hB b (cAff a0 p c)] (fun t51=>[(1,vT s.l),(2,vI at01),(3,vP b 0),(6,vP b1 0),(8,vI sign),(9,vI y1),(10,vI y2),(11,vI y2),(51,.bool t51)]) (fun o03 ho03=>?_) ?_
 · have H:=iS I03;refine zK<|yB 4 [] [40] rfl<|xW [40] ho03 ?_ ?_
   · intro hc3 N;refine yB 10 [] [46] rfl<|xW [46] N ?_ ?_
     · intro hc4 N;exact yB 12 [] [47,48] rfl<|bE N fun b5 hy4 N=>zAR rfl rfl hy4<|yJ [] [51] rfl<|yQ<|zT (ct N H)
     intro hc4 N;exact wG [] [(51,vF)]<|yQ<|zT (ct N H)
   intro hc3 N;exact wG [] [(51,vF)]<|yQ<|zT (ct N H)
 intro t51 I04 le4 hMc3;have ⟨h,H⟩:=m2 le4 h H;refine zI ?_;refine wE hMc3 [hB b1 [z0,vI 0],hB b (cAff a0 p c)] (fun star=>[(1,vT s.l),(2,vI at01),(3,vP b 0),(6,vP b1 0),(8,vI sign),(9,vI y1),(10,vI y2),(11,vI star)]) (fun o04 ho04=>?_) ?_
 · have H:=iS I04;refine yE ho04 ?_ ?_
   · intro hc5 N;exact zK<|yJ [] [11] rfl<|yQ<|zT (ct N H)
   intro hc5 N;exact zS<|yQ<|zT (ct N H)
 intro star I05 le5 hMc4;have ⟨h,H⟩:=m2 le5 h H;refine yV<|yB 2 [] [54,55] rfl ?_;obtain ⟨y3,hy5,N⟩:=zB hMc4;refine gS (zGR s star _ hy5 ) ?_;intro I06 le6;have ⟨h,H⟩:=m2 le6 h H;refine yJ [] [12] rfl<|zZ<|bE N fun l hy6 N=>wA [.x (fun I' v hx=>∃ b6,v=vS (some ⟨b6,0,none⟩) ([]:List Int) 0∧hx=[hO Int (vS (some ⟨b6,0,none⟩) ([]:List Int) 0) []]∧(RL I' [] ([]:List Int))),.p (vP b 0) [],.p (vS p a0.Coefs c) [1],.x (fun I' v hx=>∃ p1 c1 cs,v=vS p1 l c1∧hx=[hO Int (vS p1 l c1) cs]∧(RL I' cs l)),.p (vP b 1) [],.p (vI a0.Const) [1],.x (fun I' v hx=>∃ p11 c11 cs1,v=vA [vS p11 l c11,vI a0.Const]∧hx=[hO Int (vS p11 l c11) cs1]∧(RL I' cs1 l)),.x (fun I' v hx=>∃ b7,v=vP b7 0∧hx=[hB b7 [z0,vI 0]])] [[],[],[(1,false)],[(0,true),(2,false)],[],[(4,false)],[(3,true),(5,false)],[]] [hB b1 [z0,vI 0],hB b (cAff a0 p c)] [] [(6,true),(7,true)] (zY [0,1]) ?_ ?_
 · refine Ox ?_<|Op<|Op<|Ox ?_<|Op<|Op<|Ox ?_<|Ox ?_<|On
   · intro I1 hf le1;refine gY []<|tH [] Int ?_;intro b6 hb2;have h4:RL I1 [] ([]:List Int):=rfl;exact yI [hO Int (vS (some ⟨b6,0,none⟩) ([]:List Int) 0) []] iR ⟨_,rfl,rfl,h4⟩
   · rintro I1 hf le1 _ _ ⟨b6,rfl,rfl,h4⟩;refine yN [57,59] rfl ?_;have h:=h.mono le1;obtain ⟨ccs,k0,k01⟩:=h;have h:SL I1 (vS p a0.Coefs c) a0.Coefs:=⟨_,k0,k01⟩;exact qI 3 1 0 rfl rfl rfl h4 (.inl k0) k01 hy6 fun p1 c1 cs h5=>vH (hs':=(hO Int (vS p1 l c1) cs::hB b1 [z0,vI 0]::hB b (cAff a0 p c)::hf)) rfl<|yI [hO Int (vS p1 l c1) cs] iR ⟨_,_,_,rfl,rfl,h5⟩
   · rintro I1 hf le1 _ _ ⟨p1,c1,cs,rfl,rfl,h5⟩;exact yN [60,62] rfl<|tM 7 [(63,vA [vS p1 l c1,vI a0.Const])]<|yI [hO Int (vS p1 l c1) cs] iR ⟨_,_,_,rfl,rfl,h5⟩
   intro I1 hf le1;refine gY []<|wH [z0,vI 0] ?_;intro b7 hb3;exact yI [hB b7 [z0,vI 0]] iR ⟨_,rfl,rfl⟩
 rintro I07 le7 _ _ ⟨p11,c11,cs1,rfl,rfl,h51⟩ _ _ ⟨b7,rfl,rfl⟩;refine yN [2,3,6,8,9,10,11,12,13,63] rfl ?_;have ⟨h,H⟩:=m2 le7 h H;refine xI 0 [vS p11 l c11,vI a0.Const] rfl<|yA rfl<|zZ<|yC ?_;refine wE N [hB b7 [vS p11 l c11,vI a0.Const],hO Int (vS p11 l c11) cs1,hB b1 [z0,vI 0],hB b (cAff a0 p c)] (fun t75=>[(2,vI at01),(3,vP b 0),(6,vP b1 0),(8,vI sign),(9,vI y1),(10,vI y2),(11,vI star),(12,vI y3),(13,vP b7 0),(75,.bool t75)]) (fun o05 ho05=>?_) ?_
 · have H:=iS I07;refine zK<|yB 3 [] [66] rfl<|xW [66] ho05 ?_ ?_
   · intro hc6 N;refine yB 7 [] [70] rfl<|xW [70] N ?_ ?_
     · intro hc7 N;exact wG [] [(75,vY)]<|yQ<|zT (ct N H)
     intro hc7 N;exact yJ [] [75] rfl<|yQ<|zT (ct N H)
   intro hc6 N;exact wG [] [(75,vF)]<|yQ<|zT (ct N H)
 intro t75 I08 le8 hMc5;have ⟨h51,h⟩:=m2 le8 h51 h;refine zI<|yE hMc5 ?_ ?_
 · intro hc8 N;refine yC<|bE N fun x hy7 N=>wA [.p (vP b7 0) [],.p (vS p11 l c11) [0],.p (vI y3) [],.p (vP b7 0) [],.p (vS p11 l c11) [0],.p (vI y3) [],.x (fun I' v hx=>∃ ad,v=.pointer (some ad)∧hx=[]∧(AtO (vS p11 l c11) (Rp.sz Int) y3.toNat ad)∧((cs1.drop (y3.toNat * Rp.sz Int)).take (Rp.sz Int)=[vI x])),.q (vI x),.p (vI sign) [],.p (vI y1) [],.p (vI (W (sign * y1))) [],.p (vI (W (x + (W (sign * y1))))) []] [[],[(0,false)],[],[],[(3,false)],[],[(4,false),(5,false)],[(6,false)],[],[],[(8,false),(9,false)],[(7,false),(10,false)]] [hB b7 [vS p11 l c11,vI a0.Const],hO Int (vS p11 l c11) cs1,hB b1 [z0,vI 0],hB b (cAff a0 p c)] [] [(1,false),(2,false),(11,false)] (zY [0,1,2,3]) ?_ ?_
   · refine Op<|Op<|Op<|Op<|Op<|Op<|Ox ?_<|Oq ?_<|Op<|Op<|Op<|Op<|On
     · intro I1 hf le1;refine yN [80,81] rfl ?_;have h51:=iM le1 h51;refine mF 1 rfl rfl rfl h51 hy7 ?_;intro ad ccs1 hat hcc hrep;obtain rfl:=hrep;exact yI [] iR ⟨_,rfl,rfl,hat,hcc⟩
     rintro I1 hf le1 _ _ ⟨ad,rfl,rfl,hat,hcc⟩;exact yN [82] rfl<|zDC 1 0 hat hcc [vI x] (vI x) rfl rfl<|yP iR
   intro I09 le9;refine yN [6,11,13,77,78,87] rfl ?_;have h51:=iM le9 h51;obtain ⟨x1,hy8,N⟩:=zB N;refine mF 1 rfl rfl rfl h51 hy8 ?_;intro ad1 ccs2 hat1 hcc1 hrep1;obtain rfl:=hrep1;obtain ⟨l1,hy9,N⟩:=zB N;refine qM (c:=[vI (W (x + (W (sign * y1))))]) (x':=(W (x + (W (sign * y1))))) 1 0 rfl rfl rfl hat1 rfl rfl hcc1 (by kernel_rfl) (by kernel_rfl) (by kernel_rfl) h51 hy8 (by kernel_rfl) rfl ?_;rw [show l.set y3.toNat (W (x + (W (sign * y1))))=l1 from zC hy9];intro cs2 h6 hl0;refine jW (m':=[(6,vP b1 0),(11,vI star),(13,vP b7 0),(77,vS p11 l c11),(78,vI y3),(87,vI (W (x + (W (sign * y1)))))]) ⟨rfl,rfl,rfl,rfl,rfl,rfl,trivial⟩<|zBz (hs':=[hB b7 [vS p11 l1 c11,vI a0.Const],hO Int (vS p11 l1 c11) cs2,hB b1 [z0,vI 0],hB b (cAff a0 p c)]) (m':=[(6,vP b1 0),(11,vI star),(13,vP b7 0),(77,vS p11 l1 c11),(78,vI y3),(87,vI (W (x + (W (sign * y1)))))]) (by first | rfl | simp only [vS,hl0,List.nil_append,List.cons_append,List.set_cons_zero,List.set_cons_succ,List.eraseIdx_cons_zero,List.eraseIdx_cons_succ]) (by first | rfl | simp only [vS,hl0])<|yA rfl<|yV<|yB 3 [0] [89,91] rfl<|xI 2 [vS p11 l1 c11,vI a0.Const] rfl<|yJ [] [7] rfl<|xG<|zH<|yY 1 rfl ?_;intro I010 le10 hl01;have h7:=SL.of_frozen hl01 le10 h6;obtain rfl:=zC N;exact xA ⟨_,_,(.cell 1 rfl rfl (by kernel_rfl) (.tmp rfl ResV.nil)),zQ,⟨_,_,rfl,rfl,⟨_,rfl,(yO ⟨_,rfl,h7⟩)⟩,rfl⟩⟩
 intro hc8 N;refine zS<|zZ<|yG [94] rfl<|zI<|yE N ?_ ?_
 · intro hc9 N;refine yF<|yB 1 [3] [95] rfl<|xI 2 (cAff a0 p c) rfl<|yJ [] [7] rfl<|xG<|zH ?_;obtain rfl:=zC N;exact xA ⟨_,_,(.cell 2 rfl rfl (by kernel_rfl) (.tmp rfl ResV.nil)),zQ,⟨_,_,rfl,rfl,⟨_,rfl,(yO ⟨_,rfl,h⟩)⟩,rfl⟩⟩
 intro hc9 N;refine zS<|yV<|yB 7 [0] [101,102] rfl<|xI 0 [vS p11 l c11,vI (W (a0.Const + (W (sign * y1))))] rfl<|yA rfl<|yV<|yB 2 [0] [103,104] rfl<|xI 2 [vS p11 l c11,vI (W (a0.Const + (W (sign * y1))))] rfl<|yJ [] [7] rfl<|xG<|yY 1 rfl ?_;intro I011 le11 hl02;have h8:=SL.of_frozen hl02 le11 h51;obtain rfl:=zC N;exact xA ⟨_,_,(.cell 1 rfl rfl (by kernel_rfl) (.tmp rfl ResV.nil)),zQ,⟨_,_,rfl,rfl,⟨_,rfl,(yO ⟨_,rfl,h8⟩)⟩,rfl⟩⟩
def tO (r:Str):KT:=fun kk I' hs' v=>
  ∃ v0,hs'=[]∧v=tupV [v0]∧v0=.string ⟨⟨r.l⟩⟩
def pS (n01:Int) (out:Str):Option ((Int×Str)):=do
 if (decide (n01 > 9)) then
  let s1←cat (⟨([(u8 (W (48 + (n01.tmod 10))))]:List UInt8)⟩:Str) out
  pS (W (n01.tdiv 10)) s1
 else
  pure (n01,out)
 partial_fixpoint
theorem zDx :∀ (n01:Int) (out:Str) (o:(Int×Str)),pS n01 out=some o→∀ {B}{I0 I:Imm}{Q}  ,I0.le I→NG Q→NO Q→(∀ (I':Imm) (n02:Int) (out1:Str),o=(n02,out1)→I0.le I'→T 31 B Q (.exit 0) I' [] [(0,vI n02),(3,vT out1.l)])→J Tryz.prog 31 B (nav (bodyOf Tryz.f189) [1,1,1,1,0,0]) Q I [] [(0,vI n01),(3,vT out.l)]:=by
 refine pS.partial_correctness  _ fun self ih n01 out o N B I0 I Q H hg ho hx=>yT hg ho<|yC<|yG [13] rfl<|zI<|yE N ?_ ?_
 · intro hc2 N;refine zS<|xZ<|yF<|yB 3 [] [16] rfl<|zM4 (d:=17) (i:=(W (48 + (n01.tmod 10)))) rfl (by kernel_rfl)<|tH [.int .u8 ((u8 (W (48 + (n01.tmod 10)))).toNat:Int)] UInt8 ?_;intro b hb;have h1:RL I [.int .u8 ((u8 (W (48 + (n01.tmod 10)))).toNat:Int)] ([(u8 (W (48 + (n01.tmod 10))))]:List UInt8):=⟨[.int .u8 ((u8 (W (48 + (n01.tmod 10)))).toNat:Int)],_,rfl,rfl,rfl,rfl⟩;exact zJ4 (l:=([(u8 (W (48 + (n01.tmod 10))))]:List UInt8)) rfl rfl rfl rfl (by kernel_rfl) (by kernel_rfl) (.inr ⟨0,rfl⟩) h1<|yB 7 [] [20] rfl<|bE N fun s1 hy2 N=>kG rfl hy2<|yJ [] [3] rfl<|zI<|zK<|yJ [] [0] rfl<|zP<|yS<|kX zQ<|nG<|ih (W (n01.tdiv 10)) s1 _ N H  hg ho hx
 intro hc2 N;exact wT<|yQ<|hx _ _ _ (zC N).symm H
def rQ (n0:Int):Option (Str):=do
 if (decide (n0 < (-9223372036854775807))) then
  pure (⟨[45,57,50,50,51,51,55,50,48,51,54,56,53,52,55,55,53,56,48,56]⟩:Str)
 else
  if (decide (n0 < 0)) then
   let y←rQ (W (0 - n0))
   let s←cat (⟨[45]⟩:Str) y
   pure (id s)
  else
   let (n02,out1)←pS n0 (⟨[]⟩:Str)
   let s2←cat (⟨([(u8 (W (48 + n02)))]:List UInt8)⟩:Str) out1
   pure (id s2)
 partial_fixpoint
theorem eA:∀ n0 r,rQ n0=some r→∀ {I:Imm} ,RT 189 [vI n0] I [] (tO  r):=by
 refine rQ.partial_correctness _ fun F_spec_l16Dec ih_spec_l16Dec n0 r N I=>yM Tryz.func189 fun B=>vJ []<|zZ<|yG [5] rfl<|zI<|yE N ?_ ?_
 · intro hc N;refine yG [2] rfl<|xG<|zH ?_;obtain rfl:=zC N;exact wP
 intro hc N;refine zS<|zZ<|yG [7] rfl<|zI<|yE N ?_ ?_
 · intro hc1 N;refine yF<|yB 2 [] [9] rfl<|bE N fun y hy N=>xQ (ih_spec_l16Dec (W (0 - n0)) _ hy ) ?_;rintro I0 hs2 v2 k2 le - ⟨v0,rfl,rfl,rfl⟩ -;obtain ⟨s,hy1,N⟩:=zB N;refine kG rfl hy1<|yJ [] [2] rfl<|xG<|zH ?_;obtain rfl:=zC N;exact wP
 intro hc1 N;refine zS<|vG [3] rfl<|zZ<|yH<|pJ [(0,vI n0),(3,vT ([]))] ?_;obtain ⟨o0,ho0,hMl⟩:=zB N;refine zDx n0 (⟨[]⟩:Str) o0 ho0 iR  (fun _ _ _ h=>h) (fun _ _ h=>h) ?_;intro I01 n02 out1 heq le1;subst o0;refine zR<|yV<|yB 2 [] [25] rfl<|zM4 (d:=26) (i:=(W (48 + n02))) rfl (by kernel_rfl)<|tH [.int .u8 ((u8 (W (48 + n02))).toNat:Int)] UInt8 ?_;intro b1 hb1;have h2:RL I01 [.int .u8 ((u8 (W (48 + n02))).toNat:Int)] ([(u8 (W (48 + n02)))]:List UInt8):=⟨[.int .u8 ((u8 (W (48 + n02))).toNat:Int)],_,rfl,rfl,rfl,rfl⟩;refine zJ4 (l:=([(u8 (W (48 + n02)))]:List UInt8)) rfl rfl rfl rfl (by kernel_rfl) (by kernel_rfl) (.inr ⟨0,rfl⟩) h2<|yB 6 [] [29] rfl ?_;obtain ⟨s2,hy3,N⟩:=zB hMl;refine kG rfl hy3<|yJ [] [2] rfl<|zI<|yW ?_;obtain rfl:=zC N;exact wP
def jP (n0:Int) (name:Str):Option (Str):=do
 let (n01,sign)←(do
   if (decide (n0 < 0)) then
    pure ((W (0 - n0)),(⟨[45]⟩:Str))
   else
    pure (n0,(⟨[43]⟩:Str))
     : Option (Int×Str))
 if (name.l == ([]:List UInt8)) then
  let y←rQ n01
  let s←cat sign y
  pure (id s)
 else
  if (n01 == 1) then
   let s1←cat sign name
   pure (id s1)
  else
   let y1←rQ n01
   let s2←cat sign y1
   let s3←cat s2 (⟨[42]⟩:Str)
   let s4←cat s3 name
   pure (id s4)
theorem zCK:∀ n0 name r,jP n0 name=some r→∀ {I:Imm} ,RT 261 [vI n0,vT name.l] I [] (tO  r):=by
 intro n0 name r N I;unfold jP at N;refine yM Tryz.func261 fun B=>?_;have H:=iS I;refine vJ []<|vG [5] rfl<|zZ<|yG [7] rfl<|zI ?_;obtain ⟨o0,ho0,hMc⟩:=zB N;refine qL (fun I' hs' m'=>∃ (n01:Int) (sign:Str),o0=(n01,sign)∧I.le I'∧hs'=[]∧m'=[(0,vI n01),(1,vT name.l),(5,vT sign.l)]) ?_ ?_
 · have H:=iS I;refine yE ho0 ?_ ?_
   · intro hc N;exact yG [5] rfl<|zI<|zK<|yJ [] [0] rfl<|yQ<|zT ⟨_,_,(zC N).symm,H,rfl,rfl⟩
   intro hc N;exact zS<|yQ<|zT ⟨_,_,(zC N).symm,H,rfl,rfl⟩
 rintro I0 hs2 m2 ⟨n01,sign,heq,le,rfl,rfl⟩;subst o0;refine zZ<|yG [11] rfl<|zI<|yE hMc ?_ ?_
 · intro hc1 N;refine yF<|yB 2 [] [12,13] rfl<|bE N fun y hy N=>xQ (eA n01 _ hy ) ?_;rintro I01 hs2 v2 k2 le1 - ⟨v0,rfl,rfl,rfl⟩ -;obtain ⟨s,hy1,N⟩:=zB N;refine kG rfl hy1<|yJ [] [4] rfl<|xG<|zH ?_;obtain rfl:=zC N;exact wP
 intro hc1 N;refine zS<|zZ<|yG [17] rfl<|zI<|yE N ?_ ?_
 · intro hc2 N;refine yF<|yB 2 [] [18,19] rfl<|bE N fun s1 hy2 N=>kG rfl hy2<|yJ [] [4] rfl<|xG<|zH ?_;obtain rfl:=zC N;exact wP
 intro hc2 N;refine zS<|yV<|yB 2 [] [21,22] rfl<|bE N fun y1 hy3 N=>xQ (eA n01 _ hy3 ) ?_;rintro I02 hs2 v2 k2 le2 - ⟨v01,rfl,rfl,rfl⟩ -;obtain ⟨s2,hy4,N⟩:=zB N;refine kG rfl hy4<|bE N fun s3 hy5 N=>kG rfl hy5<|yB 6 [] [26] rfl<|bE N fun s4 hy6 N=>kG rfl hy6<|yJ [] [4] rfl<|zI<|yW ?_;obtain rfl:=zC N;exact wP
def pT (a0:zA) (out:Str) (i:Int):Option (Str):=do
 if (decide (i < (a0.Coefs.length:Int))) then
  let x←idx a0.Coefs i
  let out2←(do
    if (x != 0) then
     let x1←idx a0.Coefs i
     let s←sslc (⟨[105,106,107,108]⟩:Str) i (W (i + 1))
     let y←jP x1 s
     let s1←cat out y
     pure (id s1)
    else
     pure (id out)
      : Option Str)
  pT a0 out2 (W (i + 1))
 else
  pure (id out)
 partial_fixpoint
theorem zDy (a0:zA):∀ (out:Str) (i:Int) (o:Str),pT a0 out i=some o→∀ {B}{I0 I:Imm}{Q p c}{b:Nat},I0.le I→(S4 I p a0.Coefs c)→NG Q→NO Q→(∀ (I':Imm) (out1:Str),o=out1→I0.le I'→T 46 B Q (.exit 0) I' [hB b (cAff a0 p c)] [(1,vP b 0),(3,vT out1.l)])→J Tryz.prog 46 B (nav (bodyOf Tryz.f236) [1,1,0,1,0]) Q I [hB b (cAff a0 p c)] [(1,vP b 0),(3,vT out.l),(4,vI i)]:=by
 refine pT.partial_correctness a0 _ fun self ih out i o N B I0 I Q p c b H h hg ho hx=>yT hg ho<|yC<|yF<|yJ [0] [9] rfl<|zI<|yE N ?_ ?_
 · intro hc N;refine zS<|zZ<|yH<|yF<|yB 3 [0] [13,14] rfl<|bE N fun x hy N=>xJ rfl rfl h hy ?_;intro ad ccs hat hrep;obtain rfl:=hrep;refine yX 0 hat [vI x] (vI x) rfl<|yJ [] [17] rfl<|zI ?_;refine wE N [hB b (cAff a0 p c)] (fun out2=>[(1,vP b 0),(3,vT out2.l),(4,vI i)]) (fun o0 ho0=>?_) ?_
   · have H:=iS I;refine yE ho0 ?_ ?_
     · intro hc1 N;obtain ⟨x1,hy1,N⟩:=zB N;obtain ⟨s,hy2,N⟩:=zB N;obtain ⟨y,hy3,N⟩:=zB N;obtain ⟨s1,hy4,N⟩:=zB N;refine wA [.p (vT out.l) [],.p (vP b 0) [],.p (vS p a0.Coefs c) [0],.p (vI i) [],.x (fun I' v hx=>∃ ad1,v=.pointer (some ad1)∧hx=[]∧(At I' ad1 [vI x1])),.q (vI x1),.p (vI i) [],.p (vI i) [],.p (vI (W (i + 1))) [],.q (vT s.l),.q (vT y.l),.q (vT s1.l)] [[],[],[(1,false)],[],[(2,false),(3,false)],[(4,false)],[],[],[(7,false)],[(6,false),(8,false)],[(5,false),(9,false)],[(0,false),(10,false)]] [hB b (cAff a0 p c)] [] [(11,false)] (zY [0]) ?_ ?_
       · refine Op<|Op<|Op<|Op<|Ox ?_<|Oq ?_<|Op<|Op<|Op<|Oq ?_<|Oq ?_<|Oq ?_<|On
         · intro I1 hf le1;refine yN [20,21] rfl ?_;have h:=h.mono le1;refine xJ rfl rfl h hy1 ?_;intro ad1 ccs1 hat1 hrep1;obtain rfl:=hrep1;exact yI [] iR ⟨_,rfl,rfl,hat1⟩
         · rintro I1 hf le1 _ _ ⟨ad1,rfl,rfl,hat1⟩;exact yN [22] rfl<|yX 0 hat1 [vI x1] (vI x1) rfl<|yP iR
         · intro I1 hf le1;exact yN [24,26] rfl<|zGx rfl hy2<|yP iR
         · intro I1 hf le1;refine yN [23,27] rfl ?_;have H:=iS I1;refine xQ (zCK x1 s _ hy3 ) ?_;rintro I01 hs2 v2 k2 le - ⟨v0,rfl,rfl,rfl⟩ -;have H:=H.trans le;exact yP H
         intro I1 hf le1;exact yN [18,28] rfl<|kG rfl hy4<|yP iR
       intro I02 le1;refine yN [1,4,29] rfl ?_;have H:=H.trans le1;exact yJ [] [3] rfl<|yQ<|zT (ct N H)
     intro hc1 N;exact zS<|yQ<|zT (ct N H)
   intro out2 I0 le2 hMc;have ⟨h,H⟩:=m2 le2 h H;exact zP<|zI<|zK<|yJ [] [4] rfl<|yS<|nG<|ih out2 (W (i + 1)) _ hMc H h hg ho hx
 intro hc N;exact wT<|yQ<|hx _ _ (zC N).symm H
def mV (a0:zA):Option (Str):=do
 let out1←pT a0 (⟨[]⟩:Str) 0
 let out3←(do
   if (a0.Const != 0) then
    let y1←jP a0.Const (⟨[]⟩:Str)
    let s2←cat out1 y1
    pure (id s2)
   else
    pure (id out1)
     : Option Str)
 if (out3.l == ([]:List UInt8)) then
  pure (⟨[48]⟩:Str)
 else
  let s3←sslc out3 0 1
  if (s3.l == ([43]:List UInt8)) then
   let s4←sslc out3 1 (out3.l.length:Int)
   pure (id s4)
  else
   pure (id out3)
theorem zAK:∀ a0 r,mV a0=some r→∀ {I:Imm}{p c},(S4 I p a0.Coefs c)→RT 236 [vA (cAff a0 p c)] I [] (tO  r):=by
 intro a0 r N I p c h;unfold mV at N;refine yM Tryz.func236 fun B=>?_;have H:=iS I;refine yF<|vX (cAff a0 p c) ?_;intro b hb;refine wG [] []<|vG [3] rfl<|zZ<|yG [4] rfl<|xZ<|pJ [(1,vP b 0),(3,vT ([])),(4,vI 0)] ?_;obtain ⟨o01,ho01,hMl⟩:=zB N;refine zDy a0 (⟨[]⟩:Str) 0 o01 ho01 iR h (fun _ _ _ h=>h) (fun _ _ h=>h) ?_;intro I03 out1 heq1 le3;subst o01;have H:=H.trans le3;refine zR<|zZ<|yF<|yJ [0] [32] rfl<|zI ?_;refine wE hMl [] (fun out3=>[(3,vT out3.l)]) (fun o02 ho02=>?_) ?_
 · have H:=iS I03;refine yE ho02 ?_ ?_
   · intro hc2 N;refine zK<|yB 3 [0] [33,35] rfl<|bE N fun y1 hy5 N=>xQ (zCK a0.Const (⟨[]⟩:Str) _ hy5 ) ?_;rintro I05 hs2 v2 k2 le4 - ⟨v01,rfl,rfl,rfl⟩ -;have H:=H.trans le4;obtain ⟨s2,hy6,N⟩:=zB N;exact kG rfl hy6<|yJ [] [3] rfl<|xT zQ<|yQ<|zT (ct N H)
   intro hc2 N;exact zS<|xT zQ<|yQ<|zT (ct N H)
 intro out3 I04 le5 hMc1;refine zZ<|yG [39] rfl<|zI<|yE hMc1 ?_ ?_
 · intro hc3 N;refine yG [2] rfl<|xG<|zH ?_;obtain rfl:=zC N;exact wP
 intro hc3 N;refine zS<|zZ<|yF<|yB 1 [] [40] rfl<|bE N fun s3 hy7 N=>zGx rfl hy7<|yJ [] [42] rfl<|zI<|yE N ?_ ?_
 · intro hc4 N;refine yF<|yB 1 [] [43] rfl<|bE N fun s4 hy8 N=>zGx rfl hy8<|yJ [] [2] rfl<|xG<|zH ?_;obtain rfl:=zC N;exact wP
 intro hc4 N;refine zS<|vG [2] rfl<|zI<|yW ?_;obtain rfl:=zC N;exact wP
def vV (n0:Int) (most:Int):Option (Bool):=do
 let t4←(do
   if (decide (n0 ≥ (W (0 - most)))) then
    pure (decide (n0 ≤ most))
   else
    pure false
     : Option Bool)
 pure (id t4)
theorem eV:∀ n0 most r,vV n0 most=some r→∀ {I:Imm} ,RT 212 [vI n0,vI most] I [] (zU  r):=by
 intro n0 most r N I;unfold vV at N;refine yM Tryz.func212 fun B=>?_;have H:=iS I;refine vJ []<|zI<|yC ?_;refine wE N [] (fun t4=>[(4,.bool t4)]) (fun o0 ho0=>?_) ?_
 · have H:=iS I;refine zK<|yB 5 [] [9] rfl<|xW [9] ho0 ?_ ?_
   · intro hc N;exact yJ [] [4] rfl<|yQ<|zT (ct N H)
   intro hc N;exact wG [] [(4,vF)]<|yQ<|zT (ct N H)
 intro t4 I0 le hMc;refine zI<|yW ?_;obtain rfl:=zC hMc;exact wP
def wL (a0:zA) (i:Int):Option (Out Unit (Bool)):=do
 if (decide (i < (a0.Coefs.length:Int))) then
  let x←idx a0.Coefs i
  let y←vV x 9
  if (!y) then
   pure (.ret false)
  else
   wL a0 (W (i + 1))
 else
  pure (.done ())
 partial_fixpoint
theorem zBV (a0:zA):∀ (i:Int) (o:Out Unit (Bool)),wL a0 i=some o→∀ {B}{I0 I:Imm}{Q p c}{b:Nat},I0.le I→(S4 I p a0.Coefs c)→NG Q→NO Q→(∀ (I':Imm) ,o=(.done ())→I0.le I'→T 27 B Q (.exit 0) I' [hB b (cAff a0 p c)] [(1,vP b 0)])→(∀ r I' hs' m',o=(.ret r)→I0.le I'→RS Tryz.prog Tryz.f243 B (zU  r) I' hs' m'→T 27 B Q .ret I' hs' m')→J Tryz.prog 27 B (nav (bodyOf Tryz.f243) [1,0,1,0]) Q I [hB b (cAff a0 p c)] [(1,vP b 0),(3,vI i)]:=by
 refine wL.partial_correctness a0 _ fun self ih i o N B I0 I Q p c b H h hg ho hx hr=>yT hg ho<|yC<|yF<|yJ [0] [8] rfl<|zI<|yE N ?_ ?_
 · intro hc N;refine zS<|zZ<|yH<|yF<|yB 3 [0] [12,13] rfl<|bE N fun x hy N=>xJ rfl rfl h hy ?_;intro ad ccs hat hrep;obtain rfl:=hrep;refine yX 0 hat [vI x] (vI x) rfl<|bE N fun y hy1 N=>vZ (eV x 9 _ hy1 ) ?_;intro I0 le;have ⟨h,H⟩:=m2 le h H;refine yJ [] [17] rfl<|zI<|yE N ?_ ?_
   · intro hc1 N;exact vJ [(2,vF)]<|xG<|zW<|zH<|zH<|hr _ _ _ _ (zC N).symm H ⟨_,_,(.tmp rfl ResV.nil),zQ,⟨_,rfl,rfl,rfl⟩⟩
   intro hc1 N;exact zS<|zP<|zI<|zK<|yJ [] [3] rfl<|yS<|nG<|ih (W (i + 1)) _ N H h hg ho hx hr
 intro hc N;exact wT<|yQ<|hx _  (zC N).symm H
def uF (a0:zA):Option (Bool):=do
 match←wL a0 0 with
 | .ret r0=>pure r0
 | .done _ =>
  let t2←(do
    if ((a0.Coefs.length:Int) == 4) then
     let y1←vV a0.Const 99
     pure (id y1)
    else
     pure false
      : Option Bool)
  pure (id t2)
theorem kE:∀ a0 r,uF a0=some r→∀ {I:Imm}{p c},(S4 I p a0.Coefs c)→RT 243 [vA (cAff a0 p c)] I [] (zU  r):=by
 intro a0 r N I p c h;unfold uF at N;refine yM Tryz.func243 fun B=>?_;have H:=iS I;refine yF<|vX (cAff a0 p c) ?_;intro b hb;refine wG [] []<|zZ<|yG [3] rfl<|xZ<|pJ [(1,vP b 0),(3,vI 0)] ?_;obtain ⟨o0,ho0,hMl⟩:=zB N;refine zBV a0 0 o0 ho0 iR h (fun _ _ _ h=>h) (fun _ _ h=>h) ?_ ?_
 · intro I01  heq le1;subst o0;have H:=H.trans le1;refine zR<|zI<|yC ?_;refine wE hMl [] (fun t2=>[(2,.bool t2)]) (fun o01 ho01=>?_) ?_
   · have H:=iS I01;refine zK<|yB 5 [0] [22] rfl<|xW [22] ho01 ?_ ?_
     · intro hc2 N;refine yB 7 [0] [24] rfl<|bE N fun y1 hy2 N=>vZ (eV a0.Const 99 _ hy2 ) ?_;intro I03 le2;have H:=H.trans le2;exact yJ [] [2] rfl<|xT zQ<|yQ<|zT (ct N H)
     intro hc2 N;exact wG [] [(2,vF)]<|xT zQ<|yQ<|zT (ct N H)
   intro t2 I02 le3 hMc;refine zI<|yW ?_;obtain rfl:=zC hMc;exact wP
 intro r0 I9 hs9 m9 heq9 le9 hrs9;subst heq9;refine zW<|zH ?_;obtain rfl:=zC hMl;exact xA hrs9
def nE (a0:zA):Option (Str):=do
 let y←uF a0
 if (!y) then
  pure (⟨[]⟩:Str)
 else
  let y1←mV a0
  pure (id y1)
theorem zCL:∀ a0 r,nE a0=some r→∀ {I:Imm}{p c},(S4 I p a0.Coefs c)→RT 266 [vA (cAff a0 p c)] I [] (tO  r):=by
 intro a0 r N I p c h;unfold nE at N;refine yM Tryz.func266 fun B=>yF<|vX (cAff a0 p c) ?_;intro b hb;refine wG [] []<|zZ<|yF<|yB 1 [0] [3] rfl<|bE N fun y hy N=>vZ (kE a0 _ hy h) ?_;intro I0 le;have h:=h.mono le;refine yJ [] [5] rfl<|zI<|yE N ?_ ?_
 · intro hc N;refine yG [2] rfl<|xG<|zH ?_;obtain rfl:=zC N;exact wP
 intro hc N;refine zS<|yV<|yB 1 [0] [6] rfl<|bE N fun y1 hy1 N=>xQ (zAK a0 _ hy1 h) ?_;rintro I01 hs2 v2 k2 le1 - ⟨v01,rfl,rfl,rfl⟩ -;refine yJ [] [2] rfl<|zI<|yW ?_;obtain rfl:=zC N;exact wP
def zBl (r:zA×Bool):KT:=fun kk I' hs' v=>
  ∃ v0 v1,hs'=[]∧v=tupV [v0,v1]∧(∃ cs,v0=.agg ⟨cs⟩∧Rp.rep I' cs r.1)∧v1=.bool r.2
def rK (text:Str) (at0:Int) (x:zA):Option (zA):=do
 let t18←(do
   if (decide (at0 ≥ 0)) then
    pure (decide (at0 < (text.l.length:Int)))
   else
    pure false
     : Option Bool)
 if t18 then
  let (y2,y3)←gF x text at0
  rK text y3 y2
 else
  pure (id x)
 partial_fixpoint
theorem zBW (text:Str):∀ (at0:Int) (x:zA) (o:zA),rK text at0 x=some o→∀ {B}{I0 I:Imm}{Q}  {b:Nat}{b1:Nat}{p1 c1},I0.le I→(S4 I p1 x.Coefs c1)→NG Q→NO Q→(∀ (I':Imm) (x1:zA) (p2:Option Addr) (c2:Nat),o=x1→I0.le I'→(S4 I' p2 x1.Coefs c2)→T 32 B Q (.exit 0) I' [hB b1 (cAff x1 p2 c2),hB b [z0,vI 0]] [(0,vT text.l),(2,vP b 0),(4,vP b1 0)])→J Tryz.prog 32 B (nav (bodyOf Tryz.f253) [1,1,1,1,0,0]) Q I [hB b1 (cAff x p1 c1),hB b [z0,vI 0]] [(0,vT text.l),(2,vP b 0),(4,vP b1 0),(5,vI at0)]:=by
 refine rK.partial_correctness text _ fun self ih at0 x o N B I0 I Q b b1 p1 c1 H h2 hg ho hx=>yT hg ho<|yC<|yC ?_;refine wE N [hB b1 (cAff x p1 c1),hB b [z0,vI 0]] (fun t18=>[(0,vT text.l),(2,vP b 0),(4,vP b1 0),(5,vI at0),(18,.bool t18)]) (fun o0 ho0=>?_) ?_
 · have H:=iS I;refine zK<|yB 3 [] [13] rfl<|xW [13] ho0 ?_ ?_
   · intro hc1 N;exact yJ [] [18] rfl<|yQ<|zT (ct N H)
   intro hc1 N;exact wG [] [(18,vF)]<|yQ<|zT (ct N H)
 intro t18 I02 le2 hMc;have ⟨h2,H⟩:=m2 le2 h2 H;refine zI<|yE hMc ?_ ?_
 · intro hc2 N;refine zS<|xZ<|zK<|yB 3 [0] [20,21,22] rfl ?_;obtain ⟨⟨y2,y3⟩,hy1,N⟩:=zB N;refine xQ (zF6 x text at0 _ hy1 h2) ?_;rintro I03 hs2 v2 k2 le3 - ⟨v0,v01,rfl,rfl,⟨cs1,rfl,h4⟩,rfl⟩ -;have H:=H.trans le3;obtain ⟨p3,c3,rfl,h6⟩:=yL h4;exact yB 7 [] [24,25] rfl<|xI 0 (cAff y2 p3 c3) rfl<|yJ [] [5] rfl<|zP<|yS<|nG<|ih y3 y2 _ N H h6 hg ho hx
 intro hc2 N;exact wT<|yQ<|hx _ _ _ _ (zC N).symm H h2
def pU (text:Str):Option (zA×Bool):=do
 let y←oJ
 if (decide ((text.l.length:Int) > 40)) then
  pure ((zA.mk ([]:List Int) 0),false)
 else
  let x1←rK text 0 (zA.mk y.Coefs y.Const)
  let y4←nE x1
  if (!(y4.l == text.l)) then
   pure ((zA.mk ([]:List Int) 0),false)
  else
   pure (x1,true)
theorem dU:∀ text r,pU text=some r→∀ {I:Imm} ,RT 253 [vT text.l] I [] (zBl  r):=by
 intro text r N I;unfold pU at N;refine yM Tryz.func253 fun B=>yF<|wH [z0,vI 0] ?_;intro b hb;refine wG [] []<|yV<|bE N fun y hy N=>xQ (kR  _ hy ) ?_;rintro I0 hs2 v2 k2 le - ⟨p,c,cs,rfl,rfl,h⟩ -;refine wH [z0,vI 0] ?_;intro b1 hb1;refine xI 0 (cAff y p c) rfl<|yA rfl<|zZ<|yG [9] rfl<|zI<|yE N ?_ ?_
 · intro hc N;refine yF<|yB 1 [] [10] rfl<|xI 2 [z0,vI 0] rfl<|wG [] [(3,vF)]<|xG<|zH ?_;obtain rfl:=zC N;exact xA ⟨_,_,(.cell 2 rfl rfl (by kernel_rfl) (.tmp rfl ResV.nil)),zQ,⟨_,_,rfl,rfl,⟨_,rfl,(yO ⟨_,rfl,(SL.nil _)⟩)⟩,rfl⟩⟩
 intro hc N;refine zS<|vG [5] rfl<|zZ<|yH<|oM 1 rfl ?_;intro I01 le1 hl0;have h1:=SL.of_frozen hl0 le1 h;refine pJ [(0,vT text.l),(2,vP b 0),(4,vP b1 0),(5,vI 0)] ?_;obtain ⟨o01,ho01,hMl⟩:=zB N;refine zBW text 0 (zA.mk y.Coefs y.Const) o01 ho01 iR h1 (fun _ _ _ h=>h) (fun _ _ h=>h) ?_;intro I04 x1 p2 c2 heq1 le4 h3;subst o01;refine zR<|zZ<|yF<|yB 1 [0] [26] rfl ?_;obtain ⟨y4,hy2,N⟩:=zB hMl;refine xQ (zCL x1 _ hy2 h3) ?_;rintro I05 hs2 v2 k2 le5 - ⟨v03,rfl,rfl,rfl⟩ -;have h3:=h3.mono le5;refine yJ [] [29] rfl<|zI<|yE N ?_ ?_
 · intro hc3 N;refine yF<|yB 1 [] [30] rfl<|xI 1 [z0,vI 0] rfl<|wG [] [(3,vF)]<|xG<|zH ?_;obtain rfl:=zC N;exact xA ⟨_,_,(.cell 1 rfl rfl (by kernel_rfl) (.tmp rfl ResV.nil)),zQ,⟨_,_,rfl,rfl,⟨_,rfl,(yO ⟨_,rfl,(SL.nil _)⟩)⟩,rfl⟩⟩
 intro hc3 N;refine zS<|yV<|yB 1 [0] [31] rfl<|xI 1 (cAff x1 p2 c2) rfl<|wG [] [(3,vY)]<|zI<|yW ?_;obtain rfl:=zC N;exact xA ⟨_,_,(.cell 1 rfl rfl (by kernel_rfl) (.tmp rfl ResV.nil)),zQ,⟨_,_,rfl,rfl,⟨_,rfl,(yO ⟨_,rfl,h3⟩)⟩,rfl⟩⟩
def zBm (r:(List zA)):KT:=fun kk I' hs' v=>
  ∃ v0,hs'=[]∧v=tupV [v0]∧SL I' v0 r
def tY (y:(List Str)) (out:List zA) (i:Int):Option (List zA):=do
 let t18←(do
   if (decide (i < (y.length:Int))) then
    pure (decide (i ≤ 2))
   else
    pure false
     : Option Bool)
 if t18 then
  let x←idx y i
  let (y2,y3)←pU x
  let out2←app 32 out ([y2]:List zA)
  tY y out2 (W (i + 1))
 else
  pure (id out)
 partial_fixpoint
theorem zBX (y:(List Str)):∀ (out:List zA) (i:Int) (o:List zA),tY y out i=some o→∀ {B}{I0 I:Imm}{Q p c p1 c1 cs},I0.le I→(S4 I p y c)→(RL I cs out)→NG Q→NO Q→(∀ (I':Imm) (out1:List zA) (p2:Option Addr) (c2:Nat) (cs1:List Value),o=out1→I0.le I'→(RL I' cs1 out1)→T 34 B Q (.exit 0) I' [hO zA (vS p2 out1 c2) cs1] [(3,vS p2 out1 c2)])→J Tryz.prog 34 B (nav (bodyOf Tryz.f234) [1,1,1,0,1,0]) Q I [hO zA (vS p1 out c1) cs] [(3,vS p1 out c1),(4,vS p y c),(5,vI i)]:=by
 refine tY.partial_correctness y _ fun self ih out i o N B I0 I Q p c p1 c1 cs H h1 h2 hg ho hx=>yT hg ho<|yC<|yC ?_;refine wE N [hO zA (vS p1 out c1) cs] (fun t18=>[(3,vS p1 out c1),(4,vS p y c),(5,vI i),(18,.bool t18)]) (fun o0 ho0=>?_) ?_
 · have H:=iS I;refine zK<|yB 5 [] [15] rfl<|xW [15] ho0 ?_ ?_
   · intro hc N;exact yJ [] [18] rfl<|yQ<|zT (ct N H)
   intro hc N;exact wG [] [(18,vF)]<|yQ<|zT (ct N H)
 intro t18 I01 le1 hMc;have ⟨h2,h1,H⟩:=m3 le1 h2 h1 H;refine zI<|yE hMc ?_ ?_
 · intro hc1 N;refine zS<|zZ<|yH<|yF<|yB 2 [] [22,23] rfl<|bE N fun x hy1 N=>xJ rfl rfl h1 hy1 ?_;intro ad ccs hat hrep;obtain rfl:=hrep;refine yX 0 hat [vT x.l] (vT x.l) rfl ?_;obtain ⟨⟨y2,y3⟩,hy2,N⟩:=zB N;refine xQ (dU x _ hy2 ) ?_;rintro I02 hs2 v2 k2 le2 - ⟨v01,v02,rfl,rfl,⟨cs2,rfl,h4⟩,rfl⟩ -;have ⟨h2,h1,H⟩:=m3 le2 h2 h1 H;obtain ⟨p3,c3,rfl,h6⟩:=yL h4;refine yB 8 [] [27,28] rfl<|wH [z0,vI 0] ?_;intro b1 hb1;refine xI 0 (cAff y2 p3 c3) rfl<|wG [] []<|zI<|zK<|yB 2 [0] [29,30] rfl<|tH (cAff y2 p3 c3) zA ?_;intro b2 hb2;have h7:RL I02 (cAff y2 p3 c3) ([y2]:List zA):=⟨(cAff y2 p3 c3),_,rfl,rfl,(yO ⟨_,rfl,h6⟩),rfl⟩;obtain ⟨out2,hy3,N⟩:=zB N;exact qI 38 2 2 rfl rfl rfl h2 (.inr ⟨0,rfl⟩) h7 hy3 fun p4 c4 cs3 h8=>sD (zY [1,2] (hs':=[hB b1 (cAff y2 p3 c3),hO zA (vS p4 out2 c4) cs3]))<|yJ [] [3] rfl<|zP<|zI<|zK<|yJ [] [5] rfl<|yS<|kX (zX [1] rfl (by decide))<|nG<|ih out2 (W (i + 1)) _ N H h1 h8 hg ho hx
 intro hc1 N;exact wT<|yQ<|hx _ _ _ _ _ (zC N).symm H h2
def qD (text:Str):Option ((List zA)):=do
 let y←mU text (44:UInt8)
 let out1←tY y ([]:List zA) 0
 pure (id out1)
theorem fA:∀ text r,qD text=some r→∀ {I:Imm} ,RT 234 [vT text.l] I [] (zBm  r):=by
 intro text r N I;unfold qD at N;refine yM Tryz.func234 fun B=>vJ []<|yV<|tH [] zA ?_;intro b hb;have h:RL I [] ([]:List zA):=rfl;refine yJ [] [3] rfl<|yV<|yB 1 [] [9] rfl<|bE N fun y hy N=>xQ (zAJ text (44:UInt8) _ hy ) ?_;rintro I0 hs2 v2 k2 le - ⟨v0,rfl,rfl,h1⟩ -;have h:=iM le h;obtain ⟨p,c,rfl⟩:=h1.form;refine yJ [] [4] rfl<|zZ<|yG [5] rfl<|xZ<|pJ [(3,vS (some ⟨b,0,none⟩) ([]:List zA) 0),(4,vS p y c),(5,vI 0)] ?_;obtain ⟨o01,ho01,hMl⟩:=zB N;refine zBX y ([]:List zA) 0 o01 ho01 iR h1 h (fun _ _ _ h=>h) (fun _ _ h=>h) ?_;intro I03 out1 p2 c2 cs1 heq1 le3 h3;subst o01;refine zR<|vG [2] rfl<|xG<|yY 0 rfl ?_;intro I04 le4 hl0;have h9:=SL.of_frozen hl0 le4 h3;obtain rfl:=zC hMl;exact xA ⟨_,_,(.tmp rfl ResV.nil),zQ,⟨_,rfl,rfl,h9⟩⟩
def qS (s:Str) (end0:UInt8) (i:Int):Option (Out Unit (Int)):=do
 if (decide (i < (s.l.length:Int))) then
  let b←sidx s i
  if ((b.toNat:Int) == (end0.toNat:Int)) then
   pure (.ret i)
  else
   qS s end0 (W (i + 1))
 else
  pure (.done ())
 partial_fixpoint
theorem zDR (s:Str) (end0:UInt8):∀ (i:Int) (o:Out Unit (Int)),qS s end0 i=some o→∀ {B}{I0 I:Imm}{Q}  ,I0.le I→NG Q→NO Q→(∀ (I':Imm) ,o=(.done ())→I0.le I'→T 21 B Q (.exit 0) I' [] [])→(∀ r I' hs' m',o=(.ret r)→I0.le I'→RS Tryz.prog Tryz.f252 B (yK  r) I' hs' m'→T 21 B Q .ret I' hs' m')→J Tryz.prog 21 B (nav (bodyOf Tryz.f252) [1,0,1,0]) Q I [] [(0,vT s.l),(2,.int .u8 (end0.toNat:Int)),(7,vI i)]:=by
 refine qS.partial_correctness s end0 _ fun self ih i o N B I0 I Q H hg ho hx hr=>yT hg ho<|yC<|yG [12] rfl<|zI<|yE N ?_ ?_
 · intro hc N;refine zS<|zZ<|yH<|yF<|yB 2 [] [15,16] rfl<|bE N fun b hy N=>zAR rfl rfl hy<|yJ [] [19] rfl<|zI<|yE N ?_ ?_
   · intro hc1 N;exact yG [6] rfl<|xG<|zW<|zH<|zH<|hr _ _ _ _ (zC N).symm H ⟨_,_,(.tmp rfl ResV.nil),zQ,⟨_,rfl,rfl,rfl⟩⟩
   intro hc1 N;exact zS<|zP<|zI<|zK<|yJ [] [7] rfl<|yS<|nG<|ih (W (i + 1)) _ N H  hg ho hx hr
 intro hc N;exact wT<|yQ<|hx _  (zC N).symm H
def kT (s:Str) (at0:Int) (end0:UInt8):Option (Int):=do
 match←qS s end0 at0 with
 | .ret r0=>pure r0
 | .done _ =>
  pure (-1)
theorem zBe:∀ s at0 end0 r,kT s at0 end0=some r→∀ {I:Imm} ,RT 252 [vT s.l,vI at0,.int .u8 (end0.toNat:Int)] I [] (yK  r):=by
 intro s at0 end0 r N I;unfold kT at N;refine yM Tryz.func252 fun B=>vJ []<|zZ<|yG [7] rfl<|xZ<|pJ [(0,vT s.l),(2,.int .u8 (end0.toNat:Int)),(7,vI at0)] ?_;obtain ⟨o0,ho0,hMl⟩:=zB N;refine zDR s end0 at0 o0 ho0 iR  (fun _ _ _ h=>h) (fun _ _ h=>h) ?_ ?_
 · intro I0  heq le;subst o0;refine zR<|vG [6] rfl<|zI<|yW ?_;obtain rfl:=zC hMl;exact wP
 intro r0 I9 hs9 m9 heq9 le9 hrs9;subst heq9;refine zW<|zH ?_;obtain rfl:=zC hMl;exact xA hrs9
def zBD (r:zJ×Int):KT:=fun kk I' hs' v=>
  ∃ v0 v1,hs'=[]∧v=tupV [v0,v1]∧(∃ cs,v0=.agg ⟨cs⟩∧Rp.rep I' cs r.1)∧v1=.int .i64 r.2
def qG (s:Str) (at0:Int):Option (zJ×Int):=do
 let y←kT s at0 (93:UInt8)
 let t20←(do
   if (decide (y < (W (at0 + 2)))) then
    pure true
   else
    let b1←sidx s (W (at0 + 1))
    pure ((b1.toNat:Int) != 91)
     : Option Bool)
 if t20 then
  pure ((zJ.mk (⟨[]⟩:Str) ([]:List zA)),(-1))
 else
  let s1←sslc s at0 (W (at0 + 1))
  let s2←sslc s (W (at0 + 2)) y
  let y1←qD s2
  pure ((zJ.mk s1 y1),(W (y + 1)))
theorem eM:∀ s at0 r,qG s at0=some r→∀ {I:Imm} ,RT 219 [vT s.l,vI at0] I [] (zBD  r):=by
 intro s at0 r N I;unfold qG at N;refine yM Tryz.func219 fun B=>?_;have H:=iS I;refine yF<|wH [vT ([]),z0] ?_;intro b hb;refine wG [] []<|yV<|yB 2 [] [7,8] rfl<|bE N fun y hy N=>gS (zBe s at0 (93:UInt8) _ hy ) ?_;intro I0 le;have H:=H.trans le;refine yJ [] [6] rfl<|zZ<|yC ?_;refine wE N [hB b [vT ([]),z0]] (fun t20=>[(0,vT s.l),(1,vI at0),(4,vP b 0),(6,vI y),(20,.bool t20)]) (fun o0 ho0=>?_) ?_
 · have H:=iS I0;refine zK<|yB 5 [] [14] rfl<|xW [14] ho0 ?_ ?_
   · intro hc N;exact wG [] [(20,vY)]<|yQ<|zT (ct N H)
   intro hc N;exact yB 8 [] [15,17] rfl<|bE N fun b1 hy1 N=>zAR rfl rfl hy1<|yJ [] [20] rfl<|yQ<|zT (ct N H)
 intro t20 I01 le1 hMc;have H:=H.trans le1;refine zI<|yE hMc ?_ ?_
 · intro hc1 N;refine yF<|yB 1 [] [21] rfl<|xI 0 [vT ([]),z0] rfl<|yJ [] [5] rfl<|xG<|zH ?_;obtain rfl:=zC N;exact xA ⟨_,_,(.cell 0 rfl rfl (by kernel_rfl) (.tmp rfl ResV.nil)),zQ,⟨_,_,rfl,rfl,⟨_,rfl,(nN ⟨_,rfl,(SL.nil _)⟩)⟩,rfl⟩⟩
 intro hc1 N;refine zS<|zI<|yC ?_;obtain ⟨s1,hy2,N⟩:=zB N;obtain ⟨s2,hy3,N⟩:=zB N;obtain ⟨y1,hy4,N⟩:=zB N;refine wA [.p (vT s.l) [],.p (vI at0) [],.p (vI at0) [],.p (vI (W (at0 + 1))) [],.q (vT s1.l),.p (vT s.l) [],.p (vI at0) [],.p (vI (W (at0 + 2))) [],.p (vI y) [],.q (vT s2.l),.x (eS y1),.x (fun I' v hx=>∃ p1 c1,v=vA [vT s1.l,vS p1 y1 c1]∧hx=[]∧(S4 I' p1 y1 c1)),.p (vI y) [],.p (vI (W (y + 1))) [],.x (fun I' v hx=>∃ p11 c11,hx=[hB b [vT s1.l,vS p11 y1 c11]]∧(S4 I' p11 y1 c11))] [[],[],[],[(2,false)],[(0,false),(1,false),(3,false)],[],[],[(6,false)],[],[(5,false),(7,false),(8,false)],[(9,false)],[(4,false),(10,false)],[],[(12,false)],[(11,false),(16,true)]] [] [[hB b [vT ([]),z0]]] [(13,false),(14,true)] (zY [0]) ?_ ?_
 · refine Op<|Op<|Op<|Op<|Oq ?_<|Op<|Op<|Op<|Op<|Oq ?_<|Ox ?_<|Ox ?_<|Op<|Op<|Ox ?_<|On
   · intro I1 hf le1;exact yN [22,23,25] rfl<|zGx rfl hy2<|yP iR
   · intro I1 hf le1;exact yN [27,29,30] rfl<|zGx rfl hy3<|yP iR
   · intro I1 hf le1;refine yN [31] rfl ?_;have H:=iS I1;refine xQ (fA s2 _ hy4 ) ?_;rintro I02 hs2 v2 k2 le2 - ⟨v01,rfl,rfl,h1⟩ -;have H:=H.trans le2;obtain ⟨p,c,rfl⟩:=h1.form;exact yI [] H ⟨_,_,rfl,rfl,h1⟩
   · rintro I1 hf le1 _ _ ⟨rfl,rfl⟩ _ _ ⟨p,c,rfl,rfl,h1⟩;exact yN [26,32] rfl<|tM 12 [(33,vA [vT s1.l,vS p y1 c])]<|yI [] iR ⟨_,_,rfl,rfl,h1⟩
   rintro I1 hf le1 _ _ ⟨p1,c1,rfl,rfl,h11⟩ _ _ rfl;refine yN [4,33] rfl ?_;have H:=iS I1;exact zAf 0 [vT s1.l,vS p1 y1 c1] (hB b [vT s1.l,vS p1 y1 c1]::hf) rfl rfl rfl rfl<|zGF (hx:=[hB b [vT s1.l,vS p1 y1 c1]]) rfl H rfl (zIR (v:=undef)) ⟨_,_,rfl,h11⟩
 rintro I03 le3 _ _ ⟨rfl,rfl⟩ _ _ ⟨p11,c11,rfl,h111⟩;refine yN [4,35] rfl ?_;refine yJ [] [5] rfl<|zI<|yW ?_;obtain rfl:=zC N;exact xA ⟨_,_,(.cell 0 rfl rfl (by kernel_rfl) (.tmp rfl ResV.nil)),zQ,⟨_,_,rfl,rfl,⟨_,rfl,(nN ⟨_,rfl,h111⟩)⟩,rfl⟩⟩
def eC (r:zG×Int):KT:=fun kk I' hs' v=>
  ∃ v0 v1,hs'=[]∧v=tupV [v0,v1]∧(∃ cs,v0=.agg ⟨cs⟩∧Rp.rep I' cs r.1)∧v1=.int .i64 r.2
mutual
def gG (s:Str) (at0:Int) (levels:Int):Option (zG×Int):=do
 let (y1,y2)←qT (same s) (same at0) (same levels)
 let t27←(do
   if (decide (y2 < 0)) then
    pure true
   else
    pure (decide (y2 ≥ (s.l.length:Int)))
     : Option Bool)
 if t27 then
  pure ((zG.mk 0 0 (zA.mk ([]:List Int) 0) (zJ.mk (⟨[]⟩:Str) ([]:List zA)) ([]:List zG)),(-1))
 else
  let b2←sidx s y2
  let kind←(do
    if ((b2.toNat:Int) == 45) then
     pure (id 5)
    else
     let kind1←(do
       if ((b2.toNat:Int) == 42) then
        pure (id 6)
       else
        pure (id 4)
         : Option Int)
     pure (id kind1)
      : Option Int)
  let (y4,y5)←qT (same s) (W (y2 + 1)) (same levels)
  let t51←(do
    if (decide (y5 < 0)) then
     pure true
    else
     pure (decide (y5 ≥ (s.l.length:Int)))
      : Option Bool)
  if t51 then
   pure ((zG.mk 0 0 (zA.mk ([]:List Int) 0) (zJ.mk (⟨[]⟩:Str) ([]:List zA)) ([]:List zG)),(-1))
  else
   pure ((zG.mk kind 0 (zA.mk ([]:List Int) 0) (zJ.mk (⟨[]⟩:Str) ([]:List zA)) ([y1,y4]:List zG)),(W (y5 + 1)))
 partial_fixpoint
def qT (s:Str) (at0:Int) (levels:Int):Option (zG×Int):=do
 let t26←(do
   if (decide (levels < 1)) then
    pure true
   else
    if (decide (at0 < 0)) then
     pure true
    else
     pure (decide (at0 ≥ (s.l.length:Int)))
     : Option Bool)
 if t26 then
  pure ((zG.mk 0 0 (zA.mk ([]:List Int) 0) (zJ.mk (⟨[]⟩:Str) ([]:List zA)) ([]:List zG)),(-1))
 else
  let b1←sidx s at0
  if ((b1.toNat:Int) == 123) then
   let y←kT s at0 (125:UInt8)
   if (decide (y < 0)) then
    pure ((zG.mk 0 0 (zA.mk ([]:List Int) 0) (zJ.mk (⟨[]⟩:Str) ([]:List zA)) ([]:List zG)),(-1))
   else
    let s1←sslc s (W (at0 + 1)) y
    let (y2,y3)←pU s1
    pure ((zG.mk 2 0 y2 (zJ.mk (⟨[]⟩:Str) ([]:List zA)) ([]:List zG)),(W (y + 1)))
  else
   let t52←(do
     let b3←sidx s at0
     if (decide ((b3.toNat:Int) ≥ 65)) then
      let b4←sidx s at0
      pure (decide ((b4.toNat:Int) ≤ 68))
     else
      pure false
       : Option Bool)
   if t52 then
    let (y5,y6)←qG s at0
    pure ((zG.mk 3 0 (zA.mk ([]:List Int) 0) y5 ([]:List zG)),y6)
   else
    let b6←sidx s at0
    if ((b6.toNat:Int) == 40) then
     let (y8,y9)←gG (same s) (W (at0 + 1)) (W (levels - 1))
     pure (y8,y9)
    else
     let (y11,y12)←mB s at0
     if (y12 == at0) then
      pure ((zG.mk 0 0 (zA.mk ([]:List Int) 0) (zJ.mk (⟨[]⟩:Str) ([]:List zA)) ([]:List zG)),(-1))
     else
      pure ((zG.mk 1 y11 (zA.mk ([]:List Int) 0) (zJ.mk (⟨[]⟩:Str) ([]:List zA)) ([]:List zG)),y12)
 partial_fixpoint
end
theorem zEp:(∀ (s:Str) (at0:Int) (levels:Int) r,gG s at0 levels=some r→∀ {I:Imm} ,RT 254 [vT s.l,vI at0,vI levels] I [] (eC  r))∧(∀ (s:Str) (at0:Int) (levels:Int) r,qT s at0 levels=some r→∀ {I:Imm} ,RT 220 [vT s.l,vI at0,vI levels] I [] (eC  r)):=by
  refine gG.mutual_partial_correctness _ _ ?_ ?_
  · intro F_spec_l3Parse ih_spec_l3Parse s at0 levels r N I;refine yM Tryz.func254 fun B=>?_;have H:=iS I;refine yF<|wH zExpr ?_;intro b hb;refine wG [] []<|yV<|yB 3 [] [14,15,16] rfl ?_;obtain ⟨⟨y1,y2⟩,hy,N⟩:=zB N;refine xQ (ih_spec_l3Parse s at0 levels _ hy ) ?_;rintro I0 hs2 v2 k2 le - ⟨v0,v01,rfl,rfl,⟨cs,rfl,h⟩,rfl⟩ -;have H:=H.trans le;obtain ⟨p,c,p1,c1,p2,c2,rfl,h2,h3,h4⟩:=xS h;refine yB 7 [] [18,19] rfl<|wH zExpr ?_;intro b1 hb1;refine xI 0 (cExpr y1 p c p1 c1 p2 c2) rfl<|yJ [] [9] rfl<|zZ<|yC ?_;refine wE N [hB b1 (cExpr y1 p c p1 c1 p2 c2),hB b zExpr] (fun t27=>[(0,vT s.l),(2,vI levels),(6,vP b 0),(8,vP b1 0),(9,vI y2),(27,.bool t27)]) (fun o0 ho0=>?_) ?_
    · have H:=iS I0;refine zK<|yB 3 [] [22] rfl<|xW [22] ho0 ?_ ?_
      · intro hc N;exact wG [] [(27,vY)]<|yQ<|zT (ct N H)
      intro hc N;exact yJ [] [27] rfl<|yQ<|zT (ct N H)
    intro t27 I01 le1 hMc;have ⟨h2,h3,h4,H⟩:=m4 le1 h2 h3 h4 H;refine zI<|yE hMc ?_ ?_
    · intro hc1 N;refine yF<|yB 1 [] [28] rfl<|zAf 1 zExpr [hB b1 (cExpr y1 p c p1 c1 p2 c2),hB b zExpr] rfl rfl rfl rfl<|yJ [] [7] rfl<|xG<|zH ?_;obtain rfl:=zC N;exact xA ⟨_,_,(.cell 1 rfl rfl (by kernel_rfl) (.tmp rfl ResV.nil)),zQ,⟨_,_,rfl,rfl,⟨_,rfl,(xV ⟨_,_,_,rfl,(SL.nil _),(SL.nil _),(SL.nil _)⟩)⟩,rfl⟩⟩
    intro hc1 N;refine zS<|vG [10] rfl<|zZ<|yF<|yB 2 [] [29,30] rfl<|bE N fun b2 hy1 N=>zAR rfl rfl hy1<|yA rfl<|xZ<|yG [32] rfl<|zI ?_;refine wE N [hB b1 (cExpr y1 p c p1 c1 p2 c2),hB b zExpr] (fun kind=>[(0,vT s.l),(2,vI levels),(6,vP b 0),(8,vP b1 0),(9,vI y2),(10,vI kind)]) (fun o01 ho01=>?_) ?_
    · have H:=iS I01;refine yE ho01 ?_ ?_
      · intro hc2 N;exact zK<|yJ [] [10] rfl<|yQ<|zT (ct N H)
      intro hc2 N;refine yG [34] rfl<|zI ?_;refine wE N [hB b1 (cExpr y1 p c p1 c1 p2 c2),hB b zExpr] (fun kind1=>[(0,vT s.l),(2,vI levels),(6,vP b 0),(8,vP b1 0),(9,vI y2),(10,vI kind1)]) (fun o02 ho02=>?_) ?_
      · have H:=iS I01;refine yE ho02 ?_ ?_
        · intro hc3 N;exact zK<|yJ [] [10] rfl<|yQ<|zT (ct N H)
        intro hc3 N;exact zS<|yQ<|zT (ct N H)
      intro kind1 I03 le2 hMc2;have H:=H.trans le2;exact yQ<|zT (ct hMc2 H)
    intro kind I02 le3 hMc1;have ⟨h2,h3,h4,H⟩:=m4 le3 h2 h3 h4 H;refine zP<|yV<|yB 4 [] [37,39,40] rfl ?_;obtain ⟨⟨y4,y5⟩,hy2,N⟩:=zB hMc1;refine xQ (ih_spec_l3Parse s (W (y2 + 1)) levels _ hy2 ) ?_;rintro I04 hs2 v2 k2 le4 - ⟨v05,v06,rfl,rfl,⟨cs1,rfl,h5⟩,rfl⟩ -;have ⟨h2,h3,h4,H⟩:=m4 le4 h2 h3 h4 H;obtain ⟨p3,c3,p4,c4,p5,c5,rfl,h7,h8,h9⟩:=xS h5;refine yB 8 [] [42,43] rfl<|wH zExpr ?_;intro b3 hb2;refine xI 0 (cExpr y4 p3 c3 p4 c4 p5 c5) rfl<|yJ [] [12] rfl<|zZ<|yC ?_;refine wE N [hB b3 (cExpr y4 p3 c3 p4 c4 p5 c5),hB b1 (cExpr y1 p c p1 c1 p2 c2),hB b zExpr] (fun t51=>[(6,vP b 0),(8,vP b1 0),(10,vI kind),(11,vP b3 0),(12,vI y5),(51,.bool t51)]) (fun o03 ho03=>?_) ?_
    · have H:=iS I04;refine zK<|yB 3 [] [46] rfl<|xW [46] ho03 ?_ ?_
      · intro hc4 N;exact wG [] [(51,vY)]<|yQ<|zT (ct N H)
      intro hc4 N;exact yJ [] [51] rfl<|yQ<|zT (ct N H)
    intro t51 I05 le5 hMc3;have ⟨h7,h8,h9,h2,h3,h4⟩:=m6 le5 h7 h8 h9 h2 h3 h4;refine zI<|yE hMc3 ?_ ?_
    · intro hc5 N;refine yF<|yB 1 [] [52] rfl<|zAf 2 zExpr [hB b3 (cExpr y4 p3 c3 p4 c4 p5 c5),hB b1 (cExpr y1 p c p1 c1 p2 c2),hB b zExpr] rfl rfl rfl rfl<|yJ [] [7] rfl<|xG<|zH ?_;obtain rfl:=zC N;exact xA ⟨_,_,(.cell 2 rfl rfl (by kernel_rfl) (.tmp rfl ResV.nil)),zQ,⟨_,_,rfl,rfl,⟨_,rfl,(xV ⟨_,_,_,rfl,(SL.nil _),(SL.nil _),(SL.nil _)⟩)⟩,rfl⟩⟩
    intro hc5 N;refine zS<|yV<|yB 3 [1,0] [53,54,55] rfl<|tH [vI y1.Kind,vI y1.Num,vS p y1.Index.Coefs c,vI y1.Index.Const,vT y1.Read.Array.l,vS p1 y1.Read.Subs c1,vS p2 y1.Kids c2,vI y4.Kind,vI y4.Num,vS p3 y4.Index.Coefs c3,vI y4.Index.Const,vT y4.Read.Array.l,vS p4 y4.Read.Subs c4,vS p5 y4.Kids c5] zG ?_;intro b4 hb3;have h10:RL I05 [vI y1.Kind,vI y1.Num,vS p y1.Index.Coefs c,vI y1.Index.Const,vT y1.Read.Array.l,vS p1 y1.Read.Subs c1,vS p2 y1.Kids c2,vI y4.Kind,vI y4.Num,vS p3 y4.Index.Coefs c3,vI y4.Index.Const,vT y4.Read.Array.l,vS p4 y4.Read.Subs c4,vS p5 y4.Kids c5] ([y1,y4]:List zG):=⟨(cExpr y1 p c p1 c1 p2 c2),_,rfl,rfl,(xV ⟨_,_,_,rfl,h2,h3,h4⟩),⟨(cExpr y4 p3 c3 p4 c4 p5 c5),_,rfl,rfl,(xV ⟨_,_,_,rfl,h7,h8,h9⟩),rfl⟩⟩;refine yB 7 [] [57,59] rfl<|xI 3 [vI kind,vI 0,z0,vI 0,vT ([]),z0,vS (some ⟨b4,0,none⟩) ([y1,y4]:List zG) 2] rfl<|yJ [] [7] rfl<|xG<|yY 0 rfl ?_;intro I06 le6 hl0;have h11:=SL.of_frozen hl0 le6 h10;obtain rfl:=zC N;exact xA ⟨_,_,(.cell 2 rfl rfl (by kernel_rfl) (.tmp rfl ResV.nil)),zQ,⟨_,_,rfl,rfl,⟨_,rfl,(xV ⟨_,_,_,rfl,(SL.nil _),(SL.nil _),h11⟩)⟩,rfl⟩⟩
  intro F_spec_l3Round ih_spec_l3Round s at0 levels r N I;refine yM Tryz.func220 fun B=>?_;have H:=iS I;refine yF<|wH zExpr ?_;intro b hb;refine wG [] []<|zZ<|yC ?_;refine wE N [hB b zExpr] (fun t26=>[(0,vT s.l),(1,vI at0),(2,vI levels),(6,vP b 0),(26,.bool t26)]) (fun o0 ho0=>?_) ?_
  · have H:=iS I;refine zK<|yB 3 [] [17] rfl<|xW [17] ho0 ?_ ?_
    · intro hc N;exact wG [] [(26,vY)]<|yQ<|zT (ct N H)
    intro hc N;refine yB 7 [] [21] rfl<|xW [21] N ?_ ?_
    · intro hc1 N;exact wG [] [(26,vY)]<|yQ<|zT (ct N H)
    intro hc1 N;exact yJ [] [26] rfl<|yQ<|zT (ct N H)
  intro t26 I0 le hMc;have H:=H.trans le;refine zI<|yE hMc ?_ ?_
  · intro hc2 N;refine yF<|yB 1 [] [27] rfl<|zAf 0 zExpr [hB b zExpr] rfl rfl rfl rfl<|yJ [] [7] rfl<|xG<|zH ?_;obtain rfl:=zC N;exact xA ⟨_,_,(.cell 0 rfl rfl (by kernel_rfl) (.tmp rfl ResV.nil)),zQ,⟨_,_,rfl,rfl,⟨_,rfl,(xV ⟨_,_,_,rfl,(SL.nil _),(SL.nil _),(SL.nil _)⟩)⟩,rfl⟩⟩
  intro hc2 N;refine zS<|zZ<|yH<|yF<|yB 2 [] [29,30] rfl<|bE N fun b1 hy N=>zAR rfl rfl hy<|yJ [] [28] rfl<|zI<|yE N ?_ ?_
  · intro hc3 N;refine yF<|yB 2 [] [33,34] rfl<|bE N fun y hy1 N=>gS (zBe s at0 (125:UInt8) _ hy1 ) fun I01 le1=>yJ [] [8] rfl<|zZ<|yG [37] rfl<|zI<|yE N ?_ ?_
    · intro hc4 N;refine yF<|yB 1 [] [38] rfl<|zAf 0 zExpr [hB b zExpr] rfl rfl rfl rfl<|yJ [] [7] rfl<|xG<|zH<|zW<|zH ?_;obtain rfl:=zC N;exact xA ⟨_,_,(.cell 0 rfl rfl (by kernel_rfl) (.tmp rfl ResV.nil)),zQ,⟨_,_,rfl,rfl,⟨_,rfl,(xV ⟨_,_,_,rfl,(SL.nil _),(SL.nil _),(SL.nil _)⟩)⟩,rfl⟩⟩
    intro hc4 N;refine zS<|yV<|yB 4 [] [40,42,43] rfl<|bE N fun s1 hy2 N=>zGx rfl hy2 ?_;obtain ⟨⟨y2,y3⟩,hy3,N⟩:=zB N;refine xQ (dU s1 _ hy3 ) ?_;rintro I02 hs2 v2 k2 le2 - ⟨v01,v02,rfl,rfl,⟨cs,rfl,h1⟩,rfl⟩ -;obtain ⟨p,c,rfl,h3⟩:=yL h1;refine yB 9 [] [46,47] rfl<|wH [z0,vI 0] ?_;intro b2 hb1;refine xI 0 (cAff y2 p c) rfl<|wG [] []<|yV<|yB 4 [0] [49,51] rfl<|xI 1 [vI 2,vI 0,vS p y2.Coefs c,vI y2.Const,vT ([]),z0,z0] rfl<|yJ [] [7] rfl<|xG<|zW<|zH ?_;obtain rfl:=zC N;exact xA ⟨_,_,(.cell 1 rfl rfl (by kernel_rfl) (.tmp rfl ResV.nil)),zQ,⟨_,_,rfl,rfl,⟨_,rfl,(xV ⟨_,_,_,rfl,h3,(SL.nil _),(SL.nil _)⟩)⟩,rfl⟩⟩
  intro hc3 N;refine yC ?_;refine wE N [hB b zExpr] (fun t52=>[(0,vT s.l),(1,vI at0),(2,vI levels),(6,vP b 0),(52,.bool t52)]) (fun o01 ho01=>?_) ?_
  · have H:=iS I0;refine zK<|yB 2 [] [53,54] rfl ?_;obtain ⟨b3,hy4,N⟩:=zB ho01;refine zAR rfl rfl hy4<|yB 5 [] [57] rfl<|xW [57] N ?_ ?_
    · intro hc5 N;exact yB 7 [] [58,59] rfl<|bE N fun b4 hy5 N=>zAR rfl rfl hy5<|yJ [] [52] rfl<|yQ<|zT (ct N H)
    intro hc5 N;exact wG [] [(52,vF)]<|yQ<|zT (ct N H)
  intro t52 I03 le3 hMc1;refine zI<|yE hMc1 ?_ ?_
  · intro hc6 N;refine yF<|yB 2 [] [64,65] rfl ?_;obtain ⟨⟨y5,y6⟩,hy6,N⟩:=zB N;refine xQ (eM s at0 _ hy6 ) ?_;rintro I04 hs2 v2 k2 le4 - ⟨v04,v05,rfl,rfl,⟨cs1,rfl,h4⟩,rfl⟩ -;obtain ⟨p1,c1,rfl,h6⟩:=qN h4;refine yB 6 [] [67,68] rfl<|wH [vT ([]),z0] ?_;intro b5 hb2;refine xI 0 (cAccess y5 p1 c1) rfl<|yJ [] [12] rfl<|yV<|yB 3 [0] [70,71] rfl<|xI 1 [vI 3,vI 0,z0,vI 0,vT y5.Array.l,vS p1 y5.Subs c1,z0] rfl<|yJ [] [7] rfl<|xG<|zW<|zH ?_;obtain rfl:=zC N;exact xA ⟨_,_,(.cell 1 rfl rfl (by kernel_rfl) (.tmp rfl ResV.nil)),zQ,⟨_,_,rfl,rfl,⟨_,rfl,(xV ⟨_,_,_,rfl,(SL.nil _),h6,(SL.nil _)⟩)⟩,rfl⟩⟩
  intro hc6 N;refine yF<|yB 2 [] [73,74] rfl<|bE N fun b6 hy7 N=>zAR rfl rfl hy7<|yJ [] [72] rfl<|zI<|yE N ?_ ?_
  · intro hc7 N;refine yF<|yB 5 [] [77,79,81] rfl ?_;obtain ⟨⟨y8,y9⟩,hy8,N⟩:=zB N;refine xQ (ih_spec_l3Round s (W (at0 + 1)) (W (levels - 1)) _ hy8 ) ?_;rintro I05 hs2 v2 k2 le5 - ⟨v07,v08,rfl,rfl,⟨cs2,rfl,h7⟩,rfl⟩ -;obtain ⟨p2,c2,p3,c3,p4,c4,rfl,h9,h10,h11⟩:=xS h7;refine yB 8 [] [83,84] rfl<|xI 0 (cExpr y8 p2 c2 p3 c3 p4 c4) rfl<|yJ [] [7] rfl<|xG<|zW<|zH ?_;obtain rfl:=zC N;exact xA ⟨_,_,(.cell 0 rfl rfl (by kernel_rfl) (.tmp rfl ResV.nil)),zQ,⟨_,_,rfl,rfl,⟨_,rfl,(xV ⟨_,_,_,rfl,h9,h10,h11⟩)⟩,rfl⟩⟩
  intro hc7 N;refine zS<|zP<|yV<|yB 2 [] [86,87] rfl ?_;obtain ⟨⟨y11,y12⟩,hy9,N⟩:=zB N;refine xQ (zBC s at0 _ hy9 ) ?_;rintro I06 hs2 v2 k2 le6 - ⟨v012,v013,rfl,rfl,rfl,rfl⟩ -;refine yJ [] [13,14] rfl<|zZ<|yG [93] rfl<|zI<|yE N ?_ ?_
  · intro hc8 N;refine yF<|yB 1 [] [94] rfl<|zAf 0 zExpr [hB b zExpr] rfl rfl rfl rfl<|yJ [] [7] rfl<|xG<|zH ?_;obtain rfl:=zC N;exact xA ⟨_,_,(.cell 0 rfl rfl (by kernel_rfl) (.tmp rfl ResV.nil)),zQ,⟨_,_,rfl,rfl,⟨_,rfl,(xV ⟨_,_,_,rfl,(SL.nil _),(SL.nil _),(SL.nil _)⟩)⟩,rfl⟩⟩
  intro hc8 N;refine zS<|yV<|yB 3 [] [96,97] rfl<|xI 0 [vI 1,vI y11,z0,vI 0,vT ([]),z0,z0] rfl<|yJ [] [7] rfl<|zI<|yW ?_;obtain rfl:=zC N;exact xA ⟨_,_,(.cell 0 rfl rfl (by kernel_rfl) (.tmp rfl ResV.nil)),zQ,⟨_,_,rfl,rfl,⟨_,rfl,(xV ⟨_,_,_,rfl,(SL.nil _),(SL.nil _),(SL.nil _)⟩)⟩,rfl⟩⟩
theorem zF7:∀ s at0 levels r,qT s at0 levels=some r→∀ {I:Imm} ,RT 220 [vT s.l,vI at0,vI levels] I [] (eC  r):=zEp.2
def uY (a0:zA) (n0:Int) (i:Int):Option (Int):=do
 if (decide (i < (a0.Coefs.length:Int))) then
  let x←idx a0.Coefs i
  let n02←(do
    if (x != 0) then
     pure (W (i + 1))
    else
     pure (id n0)
      : Option Int)
  uY a0 n02 (W (i + 1))
 else
  pure (id n0)
 partial_fixpoint
theorem zDS (a0:zA):∀ (n0:Int) (i:Int) (o:Int),uY a0 n0 i=some o→∀ {B}{I0 I:Imm}{Q p c}{b:Nat},I0.le I→(S4 I p a0.Coefs c)→NG Q→NO Q→(∀ (I':Imm) (n01:Int),o=n01→I0.le I'→T 21 B Q (.exit 0) I' [] [(3,vI n01)])→J Tryz.prog 21 B (nav (bodyOf Tryz.f244) [1,1,0,1,0]) Q I [hB b (cAff a0 p c)] [(1,vP b 0),(3,vI n0),(4,vI i)]:=by
 refine uY.partial_correctness a0 _ fun self ih n0 i o N B I0 I Q p c b H h hg ho hx=>yT hg ho<|yC<|yF<|yJ [0] [9] rfl<|zI<|yE N ?_ ?_
 · intro hc N;refine zS<|zZ<|yH<|yF<|yB 3 [0] [13,14] rfl<|bE N fun x hy N=>xJ rfl rfl h hy ?_;intro ad ccs hat hrep;obtain rfl:=hrep;refine yX 0 hat [vI x] (vI x) rfl<|yJ [] [17] rfl<|zI ?_;refine wE N [hB b (cAff a0 p c)] (fun n02=>[(1,vP b 0),(3,vI n02),(4,vI i)]) (fun o0 ho0=>?_) ?_
   · have H:=iS I;refine yE ho0 ?_ ?_
     · intro hc1 N;exact zK<|yJ [] [3] rfl<|yQ<|zT (ct N H)
     intro hc1 N;exact zS<|yQ<|zT (ct N H)
   intro n02 I0 le hMc;have ⟨h,H⟩:=m2 le h H;exact zP<|zI<|zK<|yJ [] [4] rfl<|yS<|nG<|ih n02 (W (i + 1)) _ hMc H h hg ho hx
 intro hc N;exact wT<|xT zQ<|yQ<|hx _ _ (zC N).symm H
def qU (a0:zA):Option (Int):=do
 let n01←uY a0 0 0
 pure (id n01)
theorem dM:∀ a0 r,qU a0=some r→∀ {I:Imm}{p c},(S4 I p a0.Coefs c)→RT 244 [vA (cAff a0 p c)] I [] (yK  r):=by
 intro a0 r N I p c h;unfold qU at N;refine yM Tryz.func244 fun B=>yF<|vX (cAff a0 p c) ?_;intro b hb;refine wG [] []<|vG [3] rfl<|zZ<|yG [4] rfl<|xZ<|pJ [(1,vP b 0),(3,vI 0),(4,vI 0)] ?_;obtain ⟨o01,ho01,hMl⟩:=zB N;refine zDS a0 0 0 o01 ho01 iR h (fun _ _ _ h=>h) (fun _ _ h=>h) ?_;intro I01 n01 heq1 le1;subst o01;refine zR<|vG [2] rfl<|zI<|yW ?_;obtain rfl:=zC hMl;exact wP
def uG (a0:zJ) (depth:Int) (i:Int):Option (Out Unit (Bool)):=do
 if (decide (i < (a0.Subs.length:Int))) then
  let t29←(do
    let x←idx a0.Subs i
    let y←uF x
    if (!y) then
     pure true
    else
     let x1←idx a0.Subs i
     let y1←qU x1
     pure (decide (y1 > depth))
      : Option Bool)
  if t29 then
   pure (.ret false)
  else
   uG a0 depth (W (i + 1))
 else
  pure (.done ())
 partial_fixpoint
theorem zCh (a0:zJ) (depth:Int):∀ (i:Int) (o:Out Unit (Bool)),uG a0 depth i=some o→∀ {B}{I0 I:Imm}{Q p c}{b:Nat},I0.le I→(S4 I p a0.Subs c)→NG Q→NO Q→(∀ (I':Imm) ,o=(.done ())→I0.le I'→T 56 B Q (.exit 0) I' [hB b (cAccess a0 p c)] [(2,vP b 0)])→(∀ r I' hs' m',o=(.ret r)→I0.le I'→RS Tryz.prog Tryz.f207 B (zU  r) I' hs' m'→T 56 B Q .ret I' hs' m')→J Tryz.prog 56 B (nav (bodyOf Tryz.f207) [1,0,1,0]) Q I [hB b (cAccess a0 p c)] [(1,vI depth),(2,vP b 0),(5,vI i)]:=by
 refine uG.partial_correctness a0 depth _ fun self ih i o N B I0 I Q p c b H h hg ho hx hr=>yT hg ho<|yC<|yF<|yJ [0] [10] rfl<|zI<|yE N ?_ ?_
 · intro hc N;refine zS<|zZ<|yH<|yC ?_;refine wE N [hB b (cAccess a0 p c)] (fun t29=>[(1,vI depth),(2,vP b 0),(5,vI i),(29,.bool t29)]) (fun o0 ho0=>?_) ?_
   · have H:=iS I;refine zK<|yB 3 [0] [14,15] rfl ?_;obtain ⟨x,hy,N⟩:=zB ho0;refine xJ rfl rfl h hy ?_;intro ad ccs hat hrep;obtain ⟨p1,c1,rfl,h1⟩:=yL hrep;refine yX 0 hat (cAff x p1 c1) (vA (cAff x p1 c1)) rfl<|bE N fun y hy1 N=>vZ (kE x _ hy1 h1) ?_;intro I01 le;have ⟨h,H⟩:=m2 le h H;refine yB 8 [] [20] rfl<|xW [20] N ?_ ?_
     · intro hc1 N;exact wG [] [(29,vY)]<|yQ<|zT (ct N H)
     intro hc1 N;refine yB 11 [0] [22,23] rfl<|bE N fun x1 hy2 N=>xJ rfl rfl h hy2 ?_;intro ad1 ccs1 hat1 hrep1;obtain ⟨p2,c2,rfl,h3⟩:=yL hrep1;refine yX 0 hat1 (cAff x1 p2 c2) (vA (cAff x1 p2 c2)) rfl<|bE N fun y1 hy3 N=>gS (dM x1 _ hy3 h3) ?_;intro I02 le1;have H:=H.trans le1;exact yJ [] [29] rfl<|yQ<|zT (ct N H)
   intro t29 I0 le2 hMc;have ⟨h,H⟩:=m2 le2 h H;refine zI<|yE hMc ?_ ?_
   · intro hc2 N;exact vJ [(4,vF)]<|xG<|zW<|zH<|zH<|hr _ _ _ _ (zC N).symm H ⟨_,_,(.tmp rfl ResV.nil),zQ,⟨_,rfl,rfl,rfl⟩⟩
   intro hc2 N;exact zS<|zP<|zI<|zK<|yJ [] [5] rfl<|yS<|nG<|ih (W (i + 1)) _ N H h hg ho hx hr
 intro hc N;exact wT<|yQ<|hx _  (zC N).symm H
def pI (a0:zJ) (depth:Int):Option (Bool):=do
 match←uG a0 depth 0 with
 | .ret r0=>pure r0
 | .done _ =>
  let t4←(do
    if ((a0.Array.l.length:Int) == 1) then
     if (!(Op.bytesLess a0.Array.l ([65]:List UInt8))) then
      if (Op.bytesLess a0.Array.l ([68]:List UInt8) || a0.Array.l == ([68]:List UInt8)) then
       if (decide ((a0.Subs.length:Int) ≥ 1)) then
        pure (decide ((a0.Subs.length:Int) ≤ 2))
       else
        pure false
      else
       pure false
     else
      pure false
    else
     pure false
      : Option Bool)
  pure (id t4)
theorem zBE:∀ a0 depth r,pI a0 depth=some r→∀ {I:Imm}{p c},(S4 I p a0.Subs c)→RT 207 [vA (cAccess a0 p c),vI depth] I [] (zU  r):=by
 intro a0 depth r N I p c h;unfold pI at N;refine yM Tryz.func207 fun B=>?_;have H:=iS I;refine yF<|vX (cAccess a0 p c) ?_;intro b hb;refine wG [] []<|zZ<|yG [5] rfl<|xZ<|pJ [(1,vI depth),(2,vP b 0),(5,vI 0)] ?_;obtain ⟨o01,ho01,hMl⟩:=zB N;refine zCh a0 depth 0 o01 ho01 iR h (fun _ _ _ h=>h) (fun _ _ h=>h) ?_ ?_
 · intro I03  heq1 le3;subst o01;have H:=H.trans le3;refine zR<|zI<|yC ?_;refine wE hMl [] (fun t4=>[(4,.bool t4)]) (fun o02 ho02=>?_) ?_
   · have H:=iS I03;refine zK<|yB 5 [0] [34] rfl<|xW [34] ho02 ?_ ?_
     · intro hc3 N;refine yB 10 [0] [39] rfl<|xW [39] N ?_ ?_
       · intro hc4 N;refine yB 15 [0] [44] rfl<|xW [44] N ?_ ?_
         · intro hc5 N;refine yB 21 [0] [50] rfl<|xW [50] N ?_ ?_
           · intro hc6 N;exact yJ [0] [4] rfl<|xT zQ<|yQ<|zT (ct N H)
           intro hc6 N;exact wG [] [(4,vF)]<|xT zQ<|yQ<|zT (ct N H)
         intro hc5 N;exact wG [] [(4,vF)]<|xT zQ<|yQ<|zT (ct N H)
       intro hc4 N;exact wG [] [(4,vF)]<|xT zQ<|yQ<|zT (ct N H)
     intro hc3 N;exact wG [] [(4,vF)]<|xT zQ<|yQ<|zT (ct N H)
   intro t4 I04 le4 hMc1;refine zI<|yW ?_;obtain rfl:=zC hMc1;exact wP
 intro r0 I9 hs9 m9 heq9 le9 hrs9;subst heq9;refine zW<|zH ?_;obtain rfl:=zC hMl;exact xA hrs9
def mW (kind:Int):Option (Int):=do
 let t4←(do
   if (kind == 1) then
    pure (kind == 1)
   else
    let t41←(do
      if (kind == 2) then
       pure (kind == 2)
      else
       pure (kind == 3)
        : Option Bool)
    pure (id t41)
     : Option Bool)
 if t4 then
  pure (id 0)
 else
  let t8←(do
    if (kind == 4) then
     pure (kind == 4)
    else
     let t81←(do
       if (kind == 5) then
        pure (kind == 5)
       else
        pure (kind == 6)
         : Option Bool)
     pure (id t81)
      : Option Bool)
  if t8 then
   pure (id 2)
  else
   pure (-1)
theorem zCM:∀ kind r,mW kind=some r→∀ {I:Imm} ,RT 245 [vI kind] I [] (yK  r):=by
 intro kind r N I;unfold mW at N;refine yM Tryz.func245 fun B=>?_;have H:=iS I;refine vJ []<|zZ<|yG [3] rfl<|xZ<|yC<|yG [4] rfl<|zI ?_;refine wE N [] (fun t4=>[(3,vI kind),(4,.bool t4)]) (fun o0 ho0=>?_) ?_
 · have H:=iS I;refine yE ho0 ?_ ?_
   · intro hc N;exact zS<|yQ<|zT (ct N H)
   intro hc N;refine yG [4] rfl<|zI ?_;refine wE N [] (fun t41=>[(3,vI kind),(4,.bool t41)]) (fun o01 ho01=>?_) ?_
   · have H:=iS I;refine yE ho01 ?_ ?_
     · intro hc1 N;exact zS<|yQ<|zT (ct N H)
     intro hc1 N;exact zK<|yJ [] [4] rfl<|yQ<|zT (ct N H)
   intro t41 I01 le hMc1;have H:=H.trans le;exact yQ<|zT (ct hMc1 H)
 intro t4 I0 le1 hMc;have H:=H.trans le1;refine zI<|yE hMc ?_ ?_
 · intro hc2 N;refine yG [2] rfl<|xG<|zW<|zH ?_;obtain rfl:=zC N;exact wP
 intro hc2 N;refine yC<|yG [8] rfl<|zI ?_;refine wE N [] (fun t8=>[(8,.bool t8)]) (fun o02 ho02=>?_) ?_
 · have H:=iS I0;refine yE ho02 ?_ ?_
   · intro hc3 N;exact zS<|yQ<|zT (ct N H)
   intro hc3 N;refine yG [8] rfl<|zI ?_;refine wE N [] (fun t81=>[(8,.bool t81)]) (fun o03 ho03=>?_) ?_
   · have H:=iS I0;refine yE ho03 ?_ ?_
     · intro hc4 N;exact zS<|yQ<|zT (ct N H)
     intro hc4 N;exact zK<|yJ [] [8] rfl<|yQ<|zT (ct N H)
   intro t81 I03 le2 hMc3;have H:=H.trans le2;exact yQ<|zT (ct hMc3 H)
 intro t8 I02 le3 hMc2;refine zI<|yE hMc2 ?_ ?_
 · intro hc5 N;refine yG [2] rfl<|xG<|zW<|zH ?_;obtain rfl:=zC N;exact wP
 intro hc5 N;refine zS<|zP<|vG [2] rfl<|zI<|yW ?_;obtain rfl:=zC N;exact wP
def qV (a0:zJ):Option (Bool):=do
 let t2←(do
   if (a0.Array.l == ([]:List UInt8)) then
    pure ((a0.Subs.length:Int) == 0)
   else
    pure false
     : Option Bool)
 pure (id t2)
theorem dO:∀ a0 r,qV a0=some r→∀ {I:Imm}{p c},(S4 I p a0.Subs c)→RT 263 [vA (cAccess a0 p c)] I [] (zU  r):=by
 intro a0 r N I p c h;unfold qV at N;refine yM Tryz.func263 fun B=>?_;have H:=iS I;refine yF<|vX (cAccess a0 p c) ?_;intro b hb;refine wG [] []<|zI<|yC ?_;refine wE N [] (fun t2=>[(2,.bool t2)]) (fun o0 ho0=>?_) ?_
 · have H:=iS I;refine zK<|yB 4 [0] [6] rfl<|xW [6] ho0 ?_ ?_
   · intro hc N;exact yJ [0] [2] rfl<|xT zQ<|yQ<|zT (ct N H)
   intro hc N;exact wG [] [(2,vF)]<|xT zQ<|yQ<|zT (ct N H)
 intro t2 I0 le hMc;refine zI<|yW ?_;obtain rfl:=zC hMc;exact wP
def oK (a0:zA):Option (Bool):=do
 let t2←(do
   if ((a0.Coefs.length:Int) == 0) then
    pure (a0.Const == 0)
   else
    pure false
     : Option Bool)
 pure (id t2)
theorem zAL:∀ a0 r,oK a0=some r→∀ {I:Imm}{p c},(S4 I p a0.Coefs c)→RT 264 [vA (cAff a0 p c)] I [] (zU  r):=by
 intro a0 r N I p c h;unfold oK at N;refine yM Tryz.func264 fun B=>?_;have H:=iS I;refine yF<|vX (cAff a0 p c) ?_;intro b hb;refine wG [] []<|zI<|yC ?_;refine wE N [] (fun t2=>[(2,.bool t2)]) (fun o0 ho0=>?_) ?_
 · have H:=iS I;refine zK<|yB 5 [0] [7] rfl<|xW [7] ho0 ?_ ?_
   · intro hc N;exact yJ [0] [2] rfl<|xT zQ<|yQ<|zT (ct N H)
   intro hc N;exact wG [] [(2,vF)]<|xT zQ<|yQ<|zT (ct N H)
 intro t2 I0 le hMc;refine zI<|yW ?_;obtain rfl:=zC hMc;exact wP
def jG (e0:zG) (depth:Int):Option (Bool):=do
 if (e0.Kind == 2) then
  let t4←(do
    if (e0.Num == 0) then
     let y←qV e0.Read
     if y then
      let y1←uF e0.Index
      if y1 then
       let y2←qU e0.Index
       pure (decide (y2 ≤ depth))
      else
       pure false
     else
      pure false
    else
     pure false
      : Option Bool)
  pure (id t4)
 else
  if (e0.Kind == 3) then
   let t41←(do
     if (e0.Num == 0) then
      let y3←oK e0.Index
      if y3 then
       let y4←pI e0.Read depth
       pure (id y4)
      else
       pure false
     else
      pure false
       : Option Bool)
   pure (id t41)
  else
   if (e0.Kind == 1) then
    let t42←(do
      if (decide (e0.Num ≥ 0)) then
       if (decide (e0.Num ≤ 99)) then
        let y5←oK e0.Index
        if y5 then
         let y6←qV e0.Read
         pure (id y6)
        else
         pure false
       else
        pure false
      else
       pure false
        : Option Bool)
    pure (id t42)
   else
    let t43←(do
      if (e0.Num == 0) then
       let y7←oK e0.Index
       if y7 then
        let y8←qV e0.Read
        pure (id y8)
       else
        pure false
      else
       pure false
        : Option Bool)
    pure (id t43)
theorem zGz:∀ e0 depth r,jG e0 depth=some r→∀ {I:Imm}{p c p1 c1 p2 c2},(S4 I p e0.Index.Coefs c)→(S4 I p1 e0.Read.Subs c1)→(S4 I p2 e0.Kids c2)→RT 246 [vA (cExpr e0 p c p1 c1 p2 c2),vI depth] I [] (zU  r):=by
 intro e0 depth r N I p c p1 c1 p2 c2 h h1 h2;unfold jG at N;refine yM Tryz.func246 fun B=>?_;have H:=iS I;refine yF<|vX (cExpr e0 p c p1 c1 p2 c2) ?_;intro b hb;refine wG [] []<|zZ<|yF<|yJ [0] [7] rfl<|zI<|yE N ?_ ?_
 · intro hc N;refine yC ?_;refine wE N [] (fun t4=>[(4,.bool t4)]) (fun o0 ho0=>?_) ?_
   · have H:=iS I;refine zK<|yB 4 [0] [11] rfl<|xW [11] ho0 ?_ ?_
     · intro hc1 N;refine yB 6 [0] [13] rfl<|bE N fun y hy N=>vZ (dO e0.Read _ hy h1) ?_;intro I01 le;have ⟨h,H⟩:=m2 le h H;refine yB 9 [] [16] rfl<|xW [16] N ?_ ?_
       · intro hc2 N;refine yB 11 [0] [18] rfl<|bE N fun y1 hy1 N=>vZ (kE e0.Index _ hy1 h) ?_;intro I02 le1;have ⟨h,H⟩:=m2 le1 h H;refine yB 14 [] [21] rfl<|xW [21] N ?_ ?_
         · intro hc3 N;refine yB 16 [0] [23] rfl<|bE N fun y2 hy2 N=>gS (dM e0.Index _ hy2 h) ?_;intro I03 le2;have H:=H.trans le2;exact yJ [] [4] rfl<|xT zQ<|yQ<|zT (ct N H)
         intro hc3 N;exact wG [] [(4,vF)]<|xT zQ<|yQ<|zT (ct N H)
       intro hc2 N;exact wG [] [(4,vF)]<|xT zQ<|yQ<|zT (ct N H)
     intro hc1 N;exact wG [] [(4,vF)]<|xT zQ<|yQ<|zT (ct N H)
   intro t4 I0 le3 hMc;refine xG<|zH ?_;obtain rfl:=zC hMc;exact wP
 intro hc N;refine zS<|zZ<|yF<|yJ [0] [30] rfl<|zI<|yE N ?_ ?_
 · intro hc4 N;refine yC ?_;refine wE N [] (fun t41=>[(4,.bool t41)]) (fun o01 ho01=>?_) ?_
   · have H:=iS I;refine zK<|yB 4 [0] [34] rfl<|xW [34] ho01 ?_ ?_
     · intro hc5 N;refine yB 6 [0] [36] rfl<|bE N fun y3 hy3 N=>vZ (zAL e0.Index _ hy3 h) ?_;intro I05 le4;have ⟨h1,H⟩:=m2 le4 h1 H;refine yB 9 [] [39] rfl<|xW [39] N ?_ ?_
       · intro hc6 N;refine yB 12 [0] [41,42] rfl<|bE N fun y4 hy4 N=>vZ (zBE e0.Read depth _ hy4 h1) ?_;intro I06 le5;have H:=H.trans le5;exact yJ [] [4] rfl<|xT zQ<|yQ<|zT (ct N H)
       intro hc6 N;exact wG [] [(4,vF)]<|xT zQ<|yQ<|zT (ct N H)
     intro hc5 N;exact wG [] [(4,vF)]<|xT zQ<|yQ<|zT (ct N H)
   intro t41 I04 le6 hMc1;refine xG<|zH ?_;obtain rfl:=zC hMc1;exact wP
 intro hc4 N;refine zS<|zZ<|yF<|yJ [0] [47] rfl<|zI<|yE N ?_ ?_
 · intro hc7 N;refine yC ?_;refine wE N [] (fun t42=>[(4,.bool t42)]) (fun o02 ho02=>?_) ?_
   · have H:=iS I;refine zK<|yB 4 [0] [51] rfl<|xW [51] ho02 ?_ ?_
     · intro hc8 N;refine yB 9 [0] [56] rfl<|xW [56] N ?_ ?_
       · intro hc9 N;refine yB 11 [0] [58] rfl<|bE N fun y5 hy5 N=>vZ (zAL e0.Index _ hy5 h) ?_;intro I08 le7;have ⟨h1,H⟩:=m2 le7 h1 H;refine yB 14 [] [61] rfl<|xW [61] N ?_ ?_
         · intro hc10 N;refine yB 16 [0] [63] rfl<|bE N fun y6 hy6 N=>vZ (dO e0.Read _ hy6 h1) ?_;intro I09 le8;have H:=H.trans le8;exact yJ [] [4] rfl<|xT zQ<|yQ<|zT (ct N H)
         intro hc10 N;exact wG [] [(4,vF)]<|xT zQ<|yQ<|zT (ct N H)
       intro hc9 N;exact wG [] [(4,vF)]<|xT zQ<|yQ<|zT (ct N H)
     intro hc8 N;exact wG [] [(4,vF)]<|xT zQ<|yQ<|zT (ct N H)
   intro t42 I07 le9 hMc2;refine xG<|zH ?_;obtain rfl:=zC hMc2;exact wP
 intro hc7 N;refine zS<|zI<|yC ?_;refine wE N [] (fun t43=>[(4,.bool t43)]) (fun o03 ho03=>?_) ?_
 · have H:=iS I;refine zK<|yB 4 [0] [69] rfl<|xW [69] ho03 ?_ ?_
   · intro hc11 N;refine yB 6 [0] [71] rfl<|bE N fun y7 hy7 N=>vZ (zAL e0.Index _ hy7 h) ?_;intro I011 le10;have ⟨h1,H⟩:=m2 le10 h1 H;refine yB 9 [] [74] rfl<|xW [74] N ?_ ?_
     · intro hc12 N;refine yB 11 [0] [76] rfl<|bE N fun y8 hy8 N=>vZ (dO e0.Read _ hy8 h1) ?_;intro I012 le11;have H:=H.trans le11;exact yJ [] [4] rfl<|xT zQ<|yQ<|zT (ct N H)
     intro hc12 N;exact wG [] [(4,vF)]<|xT zQ<|yQ<|zT (ct N H)
   intro hc11 N;exact wG [] [(4,vF)]<|xT zQ<|yQ<|zT (ct N H)
 intro t43 I010 le12 hMc3;refine zI<|yW ?_;obtain rfl:=zC hMc3;exact wP
mutual
def tN (e0:zG) (depth:Int) (levels:Int):Option (Bool):=do
 let t24←(do
   if (decide (levels < 1)) then
    pure true
   else
    let y←mW e0.Kind
    if (y != (e0.Kids.length:Int)) then
     pure true
    else
     let y1←jG e0 depth
     pure (!y1)
     : Option Bool)
 if t24 then
  pure false
 else
  match←uD (same e0) (same depth) (same levels) (same 0) with
  | .ret r0=>pure r0
  | .done _ =>
   pure true
 partial_fixpoint
def uD (e0:zG) (depth:Int) (levels:Int) (i:Int):Option (Out Unit (Bool)):=do
 if (decide (i < (e0.Kids.length:Int))) then
  let x←idx e0.Kids i
  let y2←tN (same x) (same depth) (W (levels - 1))
  if (!y2) then
   pure (.ret false)
  else
   uD (same e0) (same depth) (same levels) (W (i + 1))
 else
  pure (.done ())
 partial_fixpoint
end
theorem zEq:(∀ (e0:zG) (depth:Int) (levels:Int) r,tN e0 depth levels=some r→∀ {I:Imm}{p c p1 c1 p2 c2},(S4 I p e0.Index.Coefs c)→(S4 I p1 e0.Read.Subs c1)→(S4 I p2 e0.Kids c2)→RT 208 [vA (cExpr e0 p c p1 c1 p2 c2),vI depth,vI levels] I [] (zU  r))∧(∀ (e0:zG) (depth:Int) (levels:Int) (i:Int) o,uD e0 depth levels i=some o→∀ {B}{I0 I:Imm}{Q p c p1 c1 p2 c2}{b:Nat},I0.le I→(S4 I p e0.Index.Coefs c)→(S4 I p1 e0.Read.Subs c1)→(S4 I p2 e0.Kids c2)→NG Q→NO Q→(∀ (I':Imm) ,o=(.done ())→I0.le I'→T 42 B Q (.exit 0) I' [] [])→(∀ r I' hs' m',o=(.ret r)→I0.le I'→RS Tryz.prog Tryz.f208 B (zU  r) I' hs' m'→T 42 B Q .ret I' hs' m')→J Tryz.prog 42 B (nav (bodyOf Tryz.f208) [1,1,0,1,0]) Q I [hB b (cExpr e0 p c p1 c1 p2 c2)] [(1,vI depth),(2,vI levels),(3,vP b 0),(7,vI i)]):=by
  refine tN.mutual_partial_correctness _ _ ?_ ?_
  · intro F_spec_l3Shape_l1 ih_spec_l3Shape_l1 e0 depth levels r N I p c p1 c1 p2 c2 h h1 h2;refine yM Tryz.func208 fun B=>?_;have H:=iS I;refine yF<|vX (cExpr e0 p c p1 c1 p2 c2) ?_;intro b hb;refine wG [] []<|zZ<|yC ?_;refine wE N [hB b (cExpr e0 p c p1 c1 p2 c2)] (fun t24=>[(1,vI depth),(2,vI levels),(3,vP b 0),(24,.bool t24)]) (fun o0 ho0=>?_) ?_
    · have H:=iS I;cases hc:(decide (levels < 1)) with
      | true =>
       have hM0:=wV hc ho0;refine wA [.p (vI levels) [],.q vY,.q vY,.p undef [],.p undef [],.p undef [],.p undef [],.p undef [],.p undef [],.p undef [],.p vY [],.p vY [],.p undef [],.p undef [],.p undef [],.p undef [],.p vY []] [[],[(0,false)],[(1,false)],[(2,false)],[(2,false),(3,false)],[(2,false),(4,false)],[(2,false)],[(2,false),(6,false)],[(2,false),(7,false)],[(2,false),(5,false),(8,false)],[(2,false),(9,false)],[(10,false)],[(11,false)],[(11,false)],[(11,false),(12,false),(13,false)],[(11,false),(14,false)],[(11,false),(15,false)]] [hB b (cExpr e0 p c p1 c1 p2 c2)] [] [(16,false)] (zY [0]) ?_ ?_
       · refine Op<|Oq ?_<|Oq ?_<|Op<|Op<|Op<|Op<|Op<|Op<|Op<|Op<|Op<|Op<|Op<|Op<|Op<|Op<|On
         · intro I1 hf le1;refine yN [8] rfl<|tM 2 [(9,.bool (decide (levels < 1)))] ?_;rw [hc];exact yP iR
         intro I1 hf le1;exact gY [(9,vY)]<|tM 3 [(10,vY)]<|yP iR
       intro I01 le;refine yN [1,2,3,24] rfl ?_;have H:=H.trans le;exact yA rfl<|yQ<|zT (ct hM0 H)
      | false =>
       have hM01:=wB hc ho0;obtain ⟨y,hy,N⟩:=zB hM01;cases hc1:(y != (e0.Kids.length:Int)) with
       | true =>
        have hM02:=wV hc1 N;refine wA [.p (vI levels) [],.q vF,.q vF,.p (vP b 0) [],.p (vI e0.Kind) [0],.q (vI y),.p (vP b 6) [],.p (vS p2 e0.Kids c2) [0],.p (vI (e0.Kids.length:Int)) [],.q vY,.q vY,.q vY,.p undef [],.p undef [],.p undef [],.p undef [],.p vY []] [[],[(0,false)],[(1,false)],[(2,false)],[(2,false),(3,false)],[(2,false),(4,false)],[(2,false)],[(2,false),(6,false)],[(2,false),(7,false)],[(2,false),(5,false),(8,false)],[(2,false),(9,false)],[(10,false)],[(11,false)],[(11,false)],[(11,false),(12,false),(13,false)],[(11,false),(14,false)],[(11,false),(15,false)]] [hB b (cExpr e0 p c p1 c1 p2 c2)] [] [(16,false)] (zY [0]) ?_ ?_
        · refine Op<|Oq ?_<|Oq ?_<|Op<|Op<|Oq ?_<|Op<|Op<|Op<|Oq ?_<|Oq ?_<|Oq ?_<|Op<|Op<|Op<|Op<|Op<|On
          · intro I1 hf le1;refine yN [8] rfl<|tM 2 [(9,.bool (decide (levels < 1)))] ?_;rw [hc];exact yP iR
          · intro I1 hf le1;exact gY [(9,vF)]<|tM 3 [(10,vF)]<|yP iR
          · intro I1 hf le1;refine yN [10,12] rfl ?_;have H:=iS I1;refine gS (zCM e0.Kind _ hy ) ?_;intro I02 le1;have H:=H.trans le1;exact yP H
          · intro I1 hf le1;refine yN [10,13,16] rfl<|tM 10 [(17,.bool (y != (e0.Kids.length:Int)))] ?_;rw [hc1];exact yP iR
          · intro I1 hf le1;exact yN [10,17] rfl<|tM 11 [(18,vY)]<|yP iR
          intro I1 hf le1;exact gY [(18,vY)]<|tM 12 [(19,vY)]<|yP iR
        intro I03 le2;refine yN [1,2,3,24] rfl ?_;have H:=H.trans le2;exact yA rfl<|yQ<|zT (ct hM02 H)
       | false =>
        have hM03:=wB hc1 N;obtain ⟨y1,hy1,N⟩:=zB hM03;refine wA [.p (vI levels) [],.q vF,.q vF,.p (vP b 0) [],.p (vI e0.Kind) [0],.q (vI y),.p (vP b 6) [],.p (vS p2 e0.Kids c2) [0],.p (vI (e0.Kids.length:Int)) [],.q vF,.q vF,.q vF,.p (vA (cExpr e0 p c p1 c1 p2 c2)) [0],.p (vI depth) [],.q (.bool y1),.p (.bool (!y1)) [],.p (.bool (!y1)) []] [[],[(0,false)],[(1,false)],[(2,false)],[(2,false),(3,false)],[(2,false),(4,false)],[(2,false)],[(2,false),(6,false)],[(2,false),(7,false)],[(2,false),(5,false),(8,false)],[(2,false),(9,false)],[(10,false)],[(11,false)],[(11,false)],[(11,false),(12,false),(13,false)],[(11,false),(14,false)],[(11,false),(15,false)]] [hB b (cExpr e0 p c p1 c1 p2 c2)] [] [(16,false)] (zY [0]) ?_ ?_
        · refine Op<|Oq ?_<|Oq ?_<|Op<|Op<|Oq ?_<|Op<|Op<|Op<|Oq ?_<|Oq ?_<|Oq ?_<|Op<|Op<|Oq ?_<|Op<|Op<|On
          · intro I1 hf le1;refine yN [8] rfl<|tM 2 [(9,.bool (decide (levels < 1)))] ?_;rw [hc];exact yP iR
          · intro I1 hf le1;exact gY [(9,vF)]<|tM 3 [(10,vF)]<|yP iR
          · intro I1 hf le1;refine yN [10,12] rfl ?_;have H:=iS I1;refine gS (zCM e0.Kind _ hy ) ?_;intro I02 le1;have H:=H.trans le1;exact yP H
          · intro I1 hf le1;refine yN [10,13,16] rfl<|tM 10 [(17,.bool (y != (e0.Kids.length:Int)))] ?_;rw [hc1];exact yP iR
          · intro I1 hf le1;exact yN [10,17] rfl<|tM 11 [(18,vF)]<|yP iR
          · intro I1 hf le1;exact gY [(18,vF)]<|tM 12 [(19,vF)]<|yP iR
          intro I1 hf le1;refine yN [19,20,21] rfl ?_;have H:=iS I1;have ⟨h,h1,h2⟩:=m3 le1 h h1 h2;refine vZ (zGz e0 depth _ hy1 h h1 h2) ?_;intro I04 le3;have H:=H.trans le3;exact yP H
        intro I05 le4;refine yN [1,2,3,24] rfl ?_;have H:=H.trans le4;exact yA rfl<|yQ<|zT (ct N H)
    intro t24 I0 le5 hMc;have ⟨h,h1,h2⟩:=m3 le5 h h1 h2;refine zI<|yE hMc ?_ ?_
    · intro hc2 N;refine vJ [(6,vF)]<|xG<|zH ?_;obtain rfl:=zC N;exact wP
    intro hc2 N;refine zS<|zZ<|yG [7] rfl<|xZ<|pJ [(1,vI depth),(2,vI levels),(3,vP b 0),(7,vI 0)] ?_;obtain ⟨o01,ho01,hMl⟩:=zB N;refine ih_spec_l3Shape_l1 e0 depth levels 0 o01 ho01 iR h h1 h2 (fun _ _ _ h=>h) (fun _ _ h=>h) ?_ ?_
    · intro I07  heq1 le7;subst o01;refine zR<|zF0 [(6,vY)]<|zI<|yW ?_;obtain rfl:=zC hMl;exact wP
    intro r0 I9 hs9 m9 heq9 le9 hrs9;subst heq9;refine zW<|zH ?_;obtain rfl:=zC hMl;exact xA hrs9
  intro F_spec_l3Shape F_spec_l3Shape_l1 ih_spec_l3Shape ih_spec_l3Shape_l1 e0 depth levels i o N B I0 I Q p c p1 c1 p2 c2 b H h h1 h2 hg ho hx hr;refine yT hg ho<|yC<|yF<|yJ [0] [29] rfl<|zI<|yE N ?_ ?_
  · intro hc3 N;refine zS<|zZ<|yH<|yF<|yB 3 [0] [33,34] rfl<|bE N fun x hy2 N=>xJ rfl rfl h2 hy2 ?_;intro ad ccs hat hrep;obtain ⟨p3,c3,p4,c4,p5,c5,rfl,h5,h6,h7⟩:=xS hrep;refine yX 0 hat (cExpr x p3 c3 p4 c4 p5 c5) (vA (cExpr x p3 c3 p4 c4 p5 c5)) rfl<|yB 8 [] [37,39] rfl<|bE N fun y2 hy3 N=>xQ (ih_spec_l3Shape x depth (W (levels - 1)) _ hy3 h5 h6 h7) ?_;rintro I06 hs2 v2 k2 le6 - ⟨v05,rfl,rfl,rfl⟩ -;have ⟨h,h1,h2,H⟩:=m4 le6 h h1 h2 H;refine yJ [] [41] rfl<|zI<|yE N ?_ ?_
    · intro hc4 N;exact vJ [(6,vF)]<|xG<|zW<|zH<|zH<|hr _ _ _ _ (zC N).symm H ⟨_,_,(.tmp rfl ResV.nil),zQ,⟨_,rfl,rfl,rfl⟩⟩
    intro hc4 N;exact zS<|zP<|zI<|zK<|yJ [] [7] rfl<|yS<|nG<|ih_spec_l3Shape_l1 e0 depth levels (W (i + 1)) _ N H h h1 h2 hg ho hx hr
  intro hc3 N;exact wT<|xT zQ<|yQ<|hx _  (zC N).symm H
theorem zF8:∀ e0 depth levels r,tN e0 depth levels=some r→∀ {I:Imm}{p c p1 c1 p2 c2},(S4 I p e0.Index.Coefs c)→(S4 I p1 e0.Read.Subs c1)→(S4 I p2 e0.Kids c2)→RT 208 [vA (cExpr e0 p c p1 c1 p2 c2),vI depth,vI levels] I [] (zU  r):=zEq.1
mutual
def sI (e0:zG) (levels:Int):Option (Int):=do
 let n01←uE (same e0) (same levels) (same 1) (same 0)
 pure (id n01)
 partial_fixpoint
def uE (e0:zG) (levels:Int) (n0:Int) (i:Int):Option (Int):=do
 let t15←(do
   if (decide (i < (e0.Kids.length:Int))) then
    pure (decide (levels > 0))
   else
    pure false
     : Option Bool)
 if t15 then
  let x←idx e0.Kids i
  let y←sI (same x) (W (levels - 1))
  uE (same e0) (same levels) (W (n0 + y)) (W (i + 1))
 else
  pure (id n0)
 partial_fixpoint
end
theorem zEr:(∀ (e0:zG) (levels:Int) r,sI e0 levels=some r→∀ {I:Imm}{p c p1 c1 p2 c2},(S4 I p e0.Index.Coefs c)→(S4 I p1 e0.Read.Subs c1)→(S4 I p2 e0.Kids c2)→RT 209 [vA (cExpr e0 p c p1 c1 p2 c2),vI levels] I [] (yK  r))∧(∀ (e0:zG) (levels:Int) (n0:Int) (i:Int) o,uE e0 levels n0 i=some o→∀ {B}{I0 I:Imm}{Q p c p1 c1 p2 c2}{b:Nat},I0.le I→(S4 I p e0.Index.Coefs c)→(S4 I p1 e0.Read.Subs c1)→(S4 I p2 e0.Kids c2)→NG Q→NO Q→(∀ (I':Imm) (n01:Int),o=n01→I0.le I'→T 29 B Q (.exit 0) I' [] [(5,vI n01)])→J Tryz.prog 29 B (nav (bodyOf Tryz.f209) [1,1,0,1,0]) Q I [hB b (cExpr e0 p c p1 c1 p2 c2)] [(1,vI levels),(2,vP b 0),(5,vI n0),(6,vI i)]):=by
  refine sI.mutual_partial_correctness _ _ ?_ ?_
  · intro F_spec_l3Count_l1 ih_spec_l3Count_l1 e0 levels r N I p c p1 c1 p2 c2 h h1 h2;refine yM Tryz.func209 fun B=>yF<|vX (cExpr e0 p c p1 c1 p2 c2) ?_;intro b hb;refine wG [] []<|vG [5] rfl<|zZ<|yG [6] rfl<|xZ<|pJ [(1,vI levels),(2,vP b 0),(5,vI 1),(6,vI 0)] ?_;obtain ⟨o01,ho01,hMl⟩:=zB N;refine ih_spec_l3Count_l1 e0 levels 1 0 o01 ho01 iR h h1 h2 (fun _ _ _ h=>h) (fun _ _ h=>h) ?_;intro I02 n01 heq1 le2;subst o01;refine zR<|vG [4] rfl<|zI<|yW ?_;obtain rfl:=zC hMl;exact wP
  intro F_spec_l3Count F_spec_l3Count_l1 ih_spec_l3Count ih_spec_l3Count_l1 e0 levels n0 i o N B I0 I Q p c p1 c1 p2 c2 b H h h1 h2 hg ho hx;refine yT hg ho<|yC<|yC ?_;refine wE N [hB b (cExpr e0 p c p1 c1 p2 c2)] (fun t15=>[(1,vI levels),(2,vP b 0),(5,vI n0),(6,vI i),(15,.bool t15)]) (fun o0 ho0=>?_) ?_
  · have H:=iS I;refine zK<|yB 6 [0] [12] rfl<|xW [12] ho0 ?_ ?_
    · intro hc N;exact yJ [] [15] rfl<|yQ<|zT (ct N H)
    intro hc N;exact wG [] [(15,vF)]<|yQ<|zT (ct N H)
  intro t15 I0 le hMc;have ⟨h,h1,h2,H⟩:=m4 le h h1 h2 H;refine zI<|yE hMc ?_ ?_
  · intro hc1 N;refine zS<|zZ<|yH<|zK<|yB 4 [0] [18,20,21] rfl<|bE N fun x hy N=>xJ rfl rfl h2 hy ?_;intro ad ccs hat hrep;obtain ⟨p3,c3,p4,c4,p5,c5,rfl,h3,h4,h5⟩:=xS hrep;refine yX 0 hat (cExpr x p3 c3 p4 c4 p5 c5) (vA (cExpr x p3 c3 p4 c4 p5 c5)) rfl<|yB 8 [] [25] rfl<|bE N fun y hy1 N=>xQ (ih_spec_l3Count x (W (levels - 1)) _ hy1 h3 h4 h5) ?_;rintro I01 hs2 v2 k2 le1 - ⟨v03,rfl,rfl,rfl⟩ -;have ⟨h,h1,h2,H⟩:=m4 le1 h h1 h2 H;exact yJ [] [5] rfl<|zP<|zI<|zK<|yJ [] [6] rfl<|yS<|nG<|ih_spec_l3Count_l1 e0 levels (W (n0 + y)) (W (i + 1)) _ N H h h1 h2 hg ho hx
  intro hc1 N;exact wT<|xT zQ<|yQ<|hx _ _ (zC N).symm H
theorem zF9:∀ e0 levels r,sI e0 levels=some r→∀ {I:Imm}{p c p1 c1 p2 c2},(S4 I p e0.Index.Coefs c)→(S4 I p1 e0.Read.Subs c1)→(S4 I p2 e0.Kids c2)→RT 209 [vA (cExpr e0 p c p1 c1 p2 c2),vI levels] I [] (yK  r):=zEr.1
def sV (s:zN) (depth:Int):Option (Bool):=do
 let t24←(do
   if (decide (depth < 0)) then
    pure true
   else
    if (decide (depth > 4)) then
     pure true
    else
     let y←pI s.Write depth
     if (!y) then
      pure true
     else
      let y1←tN s.Value depth 5
      pure (!y1)
     : Option Bool)
 if t24 then
  pure false
 else
  let y2←sI s.Value 5
  pure (decide (y2 ≤ 12))
theorem eE:∀ s depth r,sV s depth=some r→∀ {I:Imm}{p c p1 c1 p2 c2 p3 c3},(S4 I p s.Write.Subs c)→(S4 I p1 s.Value.Index.Coefs c1)→(S4 I p2 s.Value.Read.Subs c2)→(S4 I p3 s.Value.Kids c3)→RT 164 [vA (cStmt s p c p1 c1 p2 c2 p3 c3),vI depth] I [] (zU  r):=by
 intro s depth r N I p c p1 c1 p2 c2 p3 c3 h h1 h2 h3;unfold sV at N;refine yM Tryz.func164 fun B=>?_;have H:=iS I;refine yF<|vX (cStmt s p c p1 c1 p2 c2 p3 c3) ?_;intro b hb;refine wG [] []<|zZ<|yC ?_;refine wE N [hB b (cStmt s p c p1 c1 p2 c2 p3 c3)] (fun t24=>[(2,vP b 0),(24,.bool t24)]) (fun o0 ho0=>?_) ?_
 · have H:=iS I;refine zK<|yB 3 [] [7] rfl<|xW [7] ho0 ?_ ?_
   · intro hc N;exact wG [] [(24,vY)]<|yQ<|zT (ct N H)
   intro hc N;refine yB 7 [] [11] rfl<|xW [11] N ?_ ?_
   · intro hc1 N;exact wG [] [(24,vY)]<|yQ<|zT (ct N H)
   intro hc1 N;refine yB 10 [0] [13,14] rfl<|bE N fun y hy N=>vZ (zBE s.Write depth _ hy h) ?_;intro I01 le;have ⟨h1,h2,h3,H⟩:=m4 le h1 h2 h3 H;refine yB 14 [] [18] rfl<|xW [18] N ?_ ?_
   · intro hc2 N;exact wG [] [(24,vY)]<|yQ<|zT (ct N H)
   intro hc2 N;refine yB 17 [0] [20,21] rfl<|bE N fun y1 hy1 N=>vZ (zF8 s.Value depth 5 _ hy1 h1 h2 h3) ?_;intro I02 le1;have H:=H.trans le1;exact yJ [] [24] rfl<|yQ<|zT (ct N H)
 intro t24 I0 le2 hMc;have ⟨h1,h2,h3⟩:=m3 le2 h1 h2 h3;refine zI<|yE hMc ?_ ?_
 · intro hc3 N;refine vJ [(4,vF)]<|xG<|zH ?_;obtain rfl:=zC N;exact wP
 intro hc3 N;refine zS<|yV<|yB 2 [0] [26] rfl<|bE N fun y2 hy2 N=>gS (zF9 s.Value 5 _ hy2 h1 h2 h3) fun I03 le3=>yJ [] [4] rfl<|zI<|yW ?_;obtain rfl:=zC N;exact wP
def sJ (list:(List zA)) (out:Str) (i:Int):Option (Str):=do
 if (decide (i < (list.length:Int))) then
  let out2←(do
    if (decide (i > 0)) then
     let s←cat out (⟨[44]⟩:Str)
     pure (id s)
    else
     pure (id out)
      : Option Str)
  let x←idx list i
  let y←mV x
  let s1←cat out2 y
  sJ list s1 (W (i + 1))
 else
  pure (id out)
 partial_fixpoint
theorem zBn (list:(List zA)):∀ (out:Str) (i:Int) (o:Str),sJ list out i=some o→∀ {B}{I0 I:Imm}{Q p c},I0.le I→(S4 I p list c)→NG Q→NO Q→(∀ (I':Imm) (out1:Str),o=out1→I0.le I'→T 23 B Q (.exit 0) I' [] [(3,vT out1.l)])→J Tryz.prog 23 B (nav (bodyOf Tryz.f235) [1,1,0,1,0]) Q I [] [(0,vS p list c),(3,vT out.l),(4,vI i)]:=by
 refine sJ.partial_correctness list _ fun self ih out i o N B I0 I Q p c H h hg ho hx=>yT hg ho<|yC<|yG [8] rfl<|zI<|yE N ?_ ?_
 · intro hc N;refine zS<|zZ<|yH<|yC<|yG [12] rfl<|zI ?_;refine wE N [] (fun out2=>[(0,vS p list c),(3,vT out2.l),(4,vI i)]) (fun o0 ho0=>?_) ?_
   · have H:=iS I;refine yE ho0 ?_ ?_
     · intro hc1 N;exact zK<|yB 1 [] [13] rfl<|bE N fun s hy N=>kG rfl hy<|yJ [] [3] rfl<|yQ<|zT (ct N H)
     intro hc1 N;exact zS<|yQ<|zT (ct N H)
   intro out2 I0 le hMc;have ⟨h,H⟩:=m2 le h H;refine zI<|zK<|yB 3 [] [15,16,17] rfl ?_;obtain ⟨x,hy1,N⟩:=zB hMc;refine xJ rfl rfl h hy1 ?_;intro ad ccs hat hrep;obtain ⟨p1,c1,rfl,h1⟩:=yL hrep;refine yX 0 hat (cAff x p1 c1) (vA (cAff x p1 c1)) rfl<|bE N fun y hy2 N=>xQ (zAK x _ hy2 h1) ?_;rintro I01 hs2 v2 k2 le1 - ⟨v01,rfl,rfl,rfl⟩ -;have ⟨h,H⟩:=m2 le1 h H;obtain ⟨s1,hy3,N⟩:=zB N;exact kG rfl hy3<|yJ [] [3] rfl<|zP<|zI<|zK<|yJ [] [4] rfl<|yS<|nG<|ih s1 (W (i + 1)) _ N H h hg ho hx
 intro hc N;exact wT<|yQ<|hx _ _ (zC N).symm H
def qW (list:(List zA)):Option (Str):=do
 let out1←sJ list (⟨[]⟩:Str) 0
 pure (id out1)
theorem fR:∀ list r,qW list=some r→∀ {I:Imm}{p c},(S4 I p list c)→RT 235 [vS p list c] I [] (tO  r):=by
 intro list r N I p c h;unfold qW at N;refine yM Tryz.func235 fun B=>vJ []<|vG [3] rfl<|zZ<|yG [4] rfl<|xZ<|pJ [(0,vS p list c),(3,vT ([])),(4,vI 0)] ?_;obtain ⟨o01,ho01,hMl⟩:=zB N;refine zBn list (⟨[]⟩:Str) 0 o01 ho01 iR h (fun _ _ _ h=>h) (fun _ _ h=>h) ?_;intro I02 out1 heq1 le2;subst o01;refine zR<|vG [2] rfl<|zI<|yW ?_;obtain rfl:=zC hMl;exact wP
def rE (a0:zJ):Option (Str):=do
 let s←cat a0.Array (⟨[91]⟩:Str)
 let y←qW a0.Subs
 let s1←cat s y
 let s2←cat s1 (⟨[93]⟩:Str)
 pure (id s2)
theorem gH:∀ a0 r,rE a0=some r→∀ {I:Imm}{p c},(S4 I p a0.Subs c)→RT 191 [vA (cAccess a0 p c)] I [] (tO  r):=by
 intro a0 r N I p c h;unfold rE at N;refine yM Tryz.func191 fun B=>?_;have H:=iS I;refine yF<|vX (cAccess a0 p c) ?_;intro b hb;refine wG [] []<|zI<|yC ?_;obtain ⟨s,hy,N⟩:=zB N;obtain ⟨y,hy1,N⟩:=zB N;obtain ⟨s1,hy2,N⟩:=zB N;obtain ⟨s2,hy3,N⟩:=zB N;refine wA [.p (vP b 0) [],.p (vT a0.Array.l) [0],.q (vT s.l),.p (vP b 1) [],.p (vS p a0.Subs c) [0],.q (vT y.l),.q (vT s1.l),.q (vT s2.l)] [[],[(0,false)],[(1,false)],[],[(3,false)],[(4,false)],[(2,false),(5,false)],[(6,false)]] [hB b (cAccess a0 p c)] [] [(7,false)] (zY [0]) ?_ ?_
 · refine Op<|Op<|Oq ?_<|Op<|Op<|Oq ?_<|Oq ?_<|Oq ?_<|On
   · intro I1 hf le1;exact yN [4] rfl<|kG rfl hy<|yP iR
   · intro I1 hf le1;refine yN [7] rfl ?_;have H:=iS I1;have h:=h.mono le1;refine xQ (fR a0.Subs _ hy1 h) ?_;rintro I0 hs2 v2 k2 le - ⟨v0,rfl,rfl,rfl⟩ -;have H:=H.trans le;exact yP H
   · intro I1 hf le1;exact yN [5,8] rfl<|kG rfl hy2<|yP iR
   intro I1 hf le1;exact yN [9] rfl<|kG rfl hy3<|yP iR
 intro I01 le1;refine yN [10] rfl ?_;refine yJ [] [2] rfl<|zI<|yW ?_;obtain rfl:=zC N;exact wP
def rR (e0:zG):Option (Str):=do
 if (e0.Kind == 1) then
  let y←rQ e0.Num
  pure (id y)
 else
  if (e0.Kind == 2) then
   let y1←mV e0.Index
   let s←cat (⟨[123]⟩:Str) y1
   let s1←cat s (⟨[125]⟩:Str)
   pure (id s1)
  else
   if (e0.Kind == 3) then
    let y2←rE e0.Read
    pure (id y2)
   else
    let x←idx e0.Kids 0
    let y3←rR (same x)
    let s2←cat (⟨[40]⟩:Str) y3
    let s3←sslc (⟨[43,45,42]⟩:Str) (W (e0.Kind - 4)) (W ((W (e0.Kind - 4)) + 1))
    let s4←cat s2 s3
    let x1←idx e0.Kids 1
    let y4←rR (same x1)
    let s5←cat s4 y4
    let s6←cat s5 (⟨[41]⟩:Str)
    pure (id s6)
 partial_fixpoint
theorem zCN:∀ e0 r,rR e0=some r→∀ {I:Imm}{p c p1 c1 p2 c2},(S4 I p e0.Index.Coefs c)→(S4 I p1 e0.Read.Subs c1)→(S4 I p2 e0.Kids c2)→RT 192 [vA (cExpr e0 p c p1 c1 p2 c2)] I [] (tO  r):=by
 refine rR.partial_correctness _ fun F_spec_l3Text ih_spec_l3Text e0 r N I p c p1 c1 p2 c2 h h1 h2=>yM Tryz.func192 fun B=>?_;have H:=iS I;refine yF<|vX (cExpr e0 p c p1 c1 p2 c2) ?_;intro b hb;refine wG [] []<|zZ<|yF<|yJ [0] [4] rfl<|xZ<|yG [5] rfl<|zI<|yE N ?_ ?_
 · intro hc N;refine yF<|yB 2 [0] [8] rfl<|bE N fun y hy N=>xQ (eA e0.Num _ hy ) ?_;rintro I0 hs2 v2 k2 le - ⟨v0,rfl,rfl,rfl⟩ -;refine yJ [] [2] rfl<|xG<|zW<|zH ?_;obtain rfl:=zC N;exact wP
 intro hc N;refine yG [10] rfl<|zI<|yE N ?_ ?_
 · intro hc1 N;refine yF<|yB 2 [0] [13] rfl<|bE N fun y1 hy1 N=>xQ (zAK e0.Index _ hy1 h) ?_;rintro I01 hs2 v2 k2 le1 - ⟨v01,rfl,rfl,rfl⟩ -;obtain ⟨s,hy2,N⟩:=zB N;refine kG rfl hy2<|bE N fun s1 hy3 N=>kG rfl hy3<|yJ [] [2] rfl<|xG<|zW<|zH ?_;obtain rfl:=zC N;exact wP
 intro hc1 N;refine yG [17] rfl<|zI<|yE N ?_ ?_
 · intro hc2 N;refine yF<|yB 2 [0] [20] rfl<|bE N fun y2 hy4 N=>xQ (gH e0.Read _ hy4 h1) ?_;rintro I02 hs2 v2 k2 le2 - ⟨v02,rfl,rfl,rfl⟩ -;refine yJ [] [2] rfl<|xG<|zW<|zH ?_;obtain rfl:=zC N;exact wP
 intro hc2 N;refine zS<|zP<|zI<|yC ?_;obtain ⟨x,hy5,N⟩:=zB N;obtain ⟨y3,hy6,N⟩:=zB N;obtain ⟨s2,hy7,N⟩:=zB N;obtain ⟨s3,hy8,N⟩:=zB N;obtain ⟨s4,hy9,N⟩:=zB N;obtain ⟨x1,hy10,N⟩:=zB N;obtain ⟨y4,hy11,N⟩:=zB N;obtain ⟨s5,hy12,N⟩:=zB N;obtain ⟨s6,hy13,N⟩:=zB N;refine wA [.p (vP b 6) [],.p (vS p2 e0.Kids c2) [0],.x (ePExpr x),.x (eVExpr x),.q (vT y3.l),.q (vT s2.l),.p (vP b 0) [],.p (vI e0.Kind) [0],.p (vI (W (e0.Kind - 4))) [],.p (vP b 0) [],.p (vI e0.Kind) [0],.p (vI (W (e0.Kind - 4))) [],.p (vI (W ((W (e0.Kind - 4)) + 1))) [],.q (vT s3.l),.q (vT s4.l),.p (vP b 6) [],.p (vS p2 e0.Kids c2) [0],.x (ePExpr x1),.x (eVExpr x1),.q (vT y4.l),.q (vT s5.l),.q (vT s6.l)] [[],[(0,false)],[(1,false)],[(2,false)],[(3,false)],[(4,false)],[],[(6,false)],[(7,false)],[],[(9,false)],[(10,false)],[(11,false)],[(8,false),(12,false)],[(5,false),(13,false)],[],[(15,false)],[(16,false)],[(17,false)],[(18,false)],[(14,false),(19,false)],[(20,false)]] [hB b (cExpr e0 p c p1 c1 p2 c2)] [] [(21,false)] (zY [0]) ?_ ?_
 · refine Op<|Op<|Ox ?_<|Ox ?_<|Oq ?_<|Oq ?_<|Op<|Op<|Op<|Op<|Op<|Op<|Op<|Oq ?_<|Oq ?_<|Op<|Op<|Ox ?_<|Ox ?_<|Oq ?_<|Oq ?_<|Oq ?_<|On
   · intro I1 hf le1;refine yN [23] rfl ?_;have h2:=h2.mono le1;refine xJ rfl rfl h2 hy5 ?_;intro ad ccs hat hrep;obtain ⟨p3,c3,p4,c4,p5,c5,rfl,h6,h7,h8⟩:=xS hrep;exact yI [] iR ⟨_,_,_,_,_,_,_,rfl,rfl,hat,h6,h7,h8⟩
   · rintro I1 hf le1 _ _ ⟨ad,p3,c3,p4,c4,p5,c5,rfl,rfl,hat,h6,h7,h8⟩;exact yN [24] rfl<|yX 0 hat (cExpr x p3 c3 p4 c4 p5 c5) (vA (cExpr x p3 c3 p4 c4 p5 c5)) rfl<|yI [] iR ⟨_,_,_,_,_,_,rfl,rfl,h6,h7,h8⟩
   · rintro I1 hf le1 _ _ ⟨p31,c31,p41,c41,p51,c51,rfl,rfl,h61,h71,h81⟩;refine yN [25] rfl ?_;have H:=iS I1;refine xQ (ih_spec_l3Text x _ hy6 h61 h71 h81) ?_;rintro I03 hs2 v2 k2 le3 - ⟨v06,rfl,rfl,rfl⟩ -;have H:=H.trans le3;exact yP H
   · intro I1 hf le1;exact yN [26] rfl<|kG rfl hy7<|yP iR
   · intro I1 hf le1;exact yN [30,34] rfl<|zGx rfl hy8<|yP iR
   · intro I1 hf le1;exact yN [27,35] rfl<|kG rfl hy9<|yP iR
   · intro I1 hf le1;refine yN [38] rfl ?_;have h2:=h2.mono le1;refine xJ rfl rfl h2 hy10 ?_;intro ad1 ccs1 hat1 hrep1;obtain ⟨p6,c6,p7,c7,p8,c8,rfl,h10,h11,h12⟩:=xS hrep1;exact yI [] iR ⟨_,_,_,_,_,_,_,rfl,rfl,hat1,h10,h11,h12⟩
   · rintro I1 hf le1 _ _ ⟨ad1,p6,c6,p7,c7,p8,c8,rfl,rfl,hat1,h10,h11,h12⟩;exact yN [39] rfl<|yX 0 hat1 (cExpr x1 p6 c6 p7 c7 p8 c8) (vA (cExpr x1 p6 c6 p7 c7 p8 c8)) rfl<|yI [] iR ⟨_,_,_,_,_,_,rfl,rfl,h10,h11,h12⟩
   · rintro I1 hf le1 _ _ ⟨p61,c61,p71,c71,p81,c81,rfl,rfl,h101,h111,h121⟩;refine yN [40] rfl ?_;have H:=iS I1;refine xQ (ih_spec_l3Text x1 _ hy11 h101 h111 h121) ?_;rintro I04 hs2 v2 k2 le4 - ⟨v010,rfl,rfl,rfl⟩ -;have H:=H.trans le4;exact yP H
   · intro I1 hf le1;exact yN [36,41] rfl<|kG rfl hy12<|yP iR
   intro I1 hf le1;exact yN [42] rfl<|kG rfl hy13<|yP iR
 intro I05 le5;refine yN [43] rfl ?_;refine yJ [] [2] rfl<|zI<|yW ?_;obtain rfl:=zC N;exact wP
def mK (s:zN):Option (Str):=do
 let y←sV s 4
 if (!y) then
  pure (⟨[]⟩:Str)
 else
  let y1←rE s.Write
  let s1←cat y1 (⟨[61]⟩:Str)
  let y2←rR s.Value
  let s2←cat s1 y2
  pure (id s2)
theorem zDT:∀ s r,mK s=some r→∀ {I:Imm}{p c p1 c1 p2 c2 p3 c3},(S4 I p s.Write.Subs c)→(S4 I p1 s.Value.Index.Coefs c1)→(S4 I p2 s.Value.Read.Subs c2)→(S4 I p3 s.Value.Kids c3)→RT 221 [vA (cStmt s p c p1 c1 p2 c2 p3 c3)] I [] (tO  r):=by
 intro s r N I p c p1 c1 p2 c2 p3 c3 h h1 h2 h3;unfold mK at N;refine yM Tryz.func221 fun B=>?_;have H:=iS I;refine yF<|vX (cStmt s p c p1 c1 p2 c2 p3 c3) ?_;intro b hb;refine wG [] []<|zZ<|yF<|yB 1 [0] [3] rfl<|bE N fun y hy N=>vZ (eE s 4 _ hy h h1 h2 h3) ?_;intro I0 le;have ⟨h,h1,h2,h3,H⟩:=m5 le h h1 h2 h3 H;refine yJ [] [5] rfl<|zI<|yE N ?_ ?_
 · intro hc N;refine yG [2] rfl<|xG<|zH ?_;obtain rfl:=zC N;exact wP
 intro hc N;refine zS<|zI<|yC ?_;obtain ⟨y1,hy1,N⟩:=zB N;obtain ⟨s1,hy2,N⟩:=zB N;obtain ⟨y2,hy3,N⟩:=zB N;obtain ⟨s2,hy4,N⟩:=zB N;refine wA [.p (vP b 0) [],.p (vA (cAccess s.Write p c)) [0],.q (vT y1.l),.q (vT s1.l),.p (vP b 2) [],.p (vA (cExpr s.Value p1 c1 p2 c2 p3 c3)) [0],.q (vT y2.l),.q (vT s2.l)] [[],[(0,false)],[(1,false)],[(2,false)],[],[(4,false)],[(5,false)],[(3,false),(6,false)]] [hB b (cStmt s p c p1 c1 p2 c2 p3 c3)] [] [(7,false)] (zY [0]) ?_ ?_
 · refine Op<|Op<|Oq ?_<|Oq ?_<|Op<|Op<|Oq ?_<|Oq ?_<|On
   · intro I1 hf le1;refine yN [7] rfl ?_;have H:=iS I1;have h:=h.mono le1;refine xQ (gH s.Write _ hy1 h) ?_;rintro I01 hs2 v2 k2 le1 - ⟨v01,rfl,rfl,rfl⟩ -;have H:=H.trans le1;exact yP H
   · intro I1 hf le1;exact yN [8] rfl<|kG rfl hy2<|yP iR
   · intro I1 hf le1;refine yN [11] rfl ?_;have H:=iS I1;have ⟨h1,h2,h3⟩:=m3 le1 h1 h2 h3;refine xQ (zCN s.Value _ hy3 h1 h2 h3) ?_;rintro I02 hs2 v2 k2 le2 - ⟨v02,rfl,rfl,rfl⟩ -;have H:=H.trans le2;exact yP H
   intro I1 hf le1;exact yN [9,12] rfl<|kG rfl hy4<|yP iR
 intro I03 le3;refine yN [13] rfl ?_;refine yJ [] [2] rfl<|zI<|yW ?_;obtain rfl:=zC N;exact wP
def zCi (r:zN×Bool):KT:=fun kk I' hs' v=>
  ∃ v0 v1,hs'=[]∧v=tupV [v0,v1]∧(∃ cs,v0=.agg ⟨cs⟩∧Rp.rep I' cs r.1)∧v1=.bool r.2
def nO (text:Str):Option (zN×Bool):=do
 if (decide ((text.l.length:Int) < 4)) then
  pure ((zN.mk (zJ.mk (⟨[]⟩:Str) ([]:List zA)) (zG.mk 0 0 (zA.mk ([]:List Int) 0) (zJ.mk (⟨[]⟩:Str) ([]:List zA)) ([]:List zG))),false)
 else
  let (y1,y2)←qG text 0
  let t25←(do
    if (decide (y2 < 0)) then
     pure true
    else
     pure (decide (y2 ≥ (text.l.length:Int)))
      : Option Bool)
  if t25 then
   pure ((zN.mk (zJ.mk (⟨[]⟩:Str) ([]:List zA)) (zG.mk 0 0 (zA.mk ([]:List Int) 0) (zJ.mk (⟨[]⟩:Str) ([]:List zA)) ([]:List zG))),false)
  else
   let (y4,y5)←qT text (W (y2 + 1)) 5
   let y6←mK (zN.mk y1 y4)
   if (!(y6.l == text.l)) then
    pure ((zN.mk (zJ.mk (⟨[]⟩:Str) ([]:List zA)) (zG.mk 0 0 (zA.mk ([]:List Int) 0) (zJ.mk (⟨[]⟩:Str) ([]:List zA)) ([]:List zG))),false)
   else
    pure ((zN.mk y1 y4),true)
theorem zA3:∀ text r,nO text=some r→∀ {I:Imm} ,RT 178 [vT text.l] I [] (zCi  r):=by
 intro text r N I;unfold nO at N;refine yM Tryz.func178 fun B=>?_;have H:=iS I;refine yF<|wH [vT ([]),z0,vI 0,vI 0,z0,vI 0,vT ([]),z0,z0] ?_;intro b hb;refine wG [] []<|zZ<|yG [11] rfl<|zI<|yE N ?_ ?_
 · intro hc N;refine yF<|yB 1 [] [12] rfl<|xI 0 [vT ([]),z0,vI 0,vI 0,z0,vI 0,vT ([]),z0,z0] rfl<|wG [] [(3,vF)]<|xG<|zH ?_;obtain rfl:=zC N;exact xA ⟨_,_,(.cell 0 rfl rfl (by kernel_rfl) (.tmp rfl ResV.nil)),zQ,⟨_,_,rfl,rfl,⟨_,rfl,(wQ ⟨_,_,_,_,rfl,(SL.nil _),(SL.nil _),(SL.nil _),(SL.nil _)⟩)⟩,rfl⟩⟩
 intro hc N;refine zS<|yV<|yB 1 [] [14] rfl ?_;obtain ⟨⟨y1,y2⟩,hy,N⟩:=zB N;refine xQ (eM text 0 _ hy ) ?_;rintro I0 hs2 v2 k2 le - ⟨v0,v01,rfl,rfl,⟨cs,rfl,h⟩,rfl⟩ -;have H:=H.trans le;obtain ⟨p,c,rfl,h2⟩:=qN h;refine yB 5 [] [16,17] rfl<|wH [vT ([]),z0] ?_;intro b1 hb1;refine xI 0 (cAccess y1 p c) rfl<|yJ [] [5] rfl<|zZ<|yC ?_;refine wE N [hB b1 (cAccess y1 p c),hB b [vT ([]),z0,vI 0,vI 0,z0,vI 0,vT ([]),z0,z0]] (fun t25=>[(0,vT text.l),(2,vP b 0),(4,vP b1 0),(5,vI y2),(25,.bool t25)]) (fun o0 ho0=>?_) ?_
 · have H:=iS I0;refine zK<|yB 3 [] [20] rfl<|xW [20] ho0 ?_ ?_
   · intro hc1 N;exact wG [] [(25,vY)]<|yQ<|zT (ct N H)
   intro hc1 N;exact yJ [] [25] rfl<|yQ<|zT (ct N H)
 intro t25 I01 le1 hMc;have h2:=h2.mono le1;refine zI<|yE hMc ?_ ?_
 · intro hc2 N;refine yF<|yB 1 [] [26] rfl<|xI 1 [vT ([]),z0,vI 0,vI 0,z0,vI 0,vT ([]),z0,z0] rfl<|wG [] [(3,vF)]<|xG<|zH ?_;obtain rfl:=zC N;exact xA ⟨_,_,(.cell 1 rfl rfl (by kernel_rfl) (.tmp rfl ResV.nil)),zQ,⟨_,_,rfl,rfl,⟨_,rfl,(wQ ⟨_,_,_,_,rfl,(SL.nil _),(SL.nil _),(SL.nil _),(SL.nil _)⟩)⟩,rfl⟩⟩
 intro hc2 N;refine zS<|yV<|yB 3 [] [28,30] rfl ?_;obtain ⟨⟨y4,y5⟩,hy1,N⟩:=zB N;refine xQ (zF7 text (W (y2 + 1)) 5 _ hy1 ) ?_;rintro I02 hs2 v2 k2 le2 - ⟨v03,v04,rfl,rfl,⟨cs1,rfl,h3⟩,rfl⟩ -;have h2:=h2.mono le2;obtain ⟨p1,c1,p2,c2,p3,c3,rfl,h5,h6,h7⟩:=xS h3;refine yB 7 [] [32,33] rfl<|wH zExpr ?_;intro b2 hb2;refine xI 0 (cExpr y4 p1 c1 p2 c2 p3 c3) rfl<|wG [] []<|yV<|yB 3 [1,0] [36] rfl<|wH [vT ([]),z0,vI 0,vI 0,z0,vI 0,vT ([]),z0,z0] ?_;intro b3 hb3;refine xI 0 [vT y1.Array.l,vS p y1.Subs c,vI y4.Kind,vI y4.Num,vS p1 y4.Index.Coefs c1,vI y4.Index.Const,vT y4.Read.Array.l,vS p2 y4.Read.Subs c2,vS p3 y4.Kids c3] rfl<|yA rfl<|zZ<|yF<|yB 1 [0] [37] rfl<|bE N fun y6 hy2 N=>xQ (zDT (zN.mk y1 y4) _ hy2 h2 h5 h6 h7) ?_;rintro I03 hs2 v2 k2 le3 - ⟨v08,rfl,rfl,rfl⟩ -;have ⟨h2,h5,h6,h7⟩:=m4 le3 h2 h5 h6 h7;refine yJ [] [40] rfl<|zI<|yE N ?_ ?_
 · intro hc3 N;refine yF<|yB 1 [] [41] rfl<|xI 3 [vT ([]),z0,vI 0,vI 0,z0,vI 0,vT ([]),z0,z0] rfl<|wG [] [(3,vF)]<|xG<|zH ?_;obtain rfl:=zC N;exact xA ⟨_,_,(.cell 3 rfl rfl (by kernel_rfl) (.tmp rfl ResV.nil)),zQ,⟨_,_,rfl,rfl,⟨_,rfl,(wQ ⟨_,_,_,_,rfl,(SL.nil _),(SL.nil _),(SL.nil _),(SL.nil _)⟩)⟩,rfl⟩⟩
 intro hc3 N;refine zS<|yV<|yB 1 [0] [42] rfl<|xI 3 [vT y1.Array.l,vS p y1.Subs c,vI y4.Kind,vI y4.Num,vS p1 y4.Index.Coefs c1,vI y4.Index.Const,vT y4.Read.Array.l,vS p2 y4.Read.Subs c2,vS p3 y4.Kids c3] rfl<|wG [] [(3,vY)]<|zI<|yW ?_;obtain rfl:=zC N;exact xA ⟨_,_,(.cell 3 rfl rfl (by kernel_rfl) (.tmp rfl ResV.nil)),zQ,⟨_,_,rfl,rfl,⟨_,rfl,(wQ ⟨_,_,_,_,rfl,h2,h5,h6,h7⟩)⟩,rfl⟩⟩
def qE (y:(List Str)) (out:List Str) (i:Int):Option (List Str):=do
 if (decide (i < (y.length:Int))) then
  let x←idx y i
  let out2←(do
    if (!(x.l == ([]:List UInt8))) then
     let x1←idx y i
     let out3←app 16 out ([x1]:List Str)
     pure (id out3)
    else
     pure (id out)
      : Option (List Str))
  qE y out2 (W (i + 1))
 else
  pure (id out)
 partial_fixpoint
theorem zCj (y:(List Str)):∀ (out:List Str) (i:Int) (o:List Str),qE y out i=some o→∀ {B}{I0 I:Imm}{Q p c p1 c1 cs},I0.le I→(S4 I p y c)→(RL I cs out)→NG Q→NO Q→(∀ (I':Imm) (out1:List Str) (p2:Option Addr) (c2:Nat) (cs1:List Value),o=out1→I0.le I'→(RL I' cs1 out1)→T 28 B Q (.exit 0) I' [hO Str (vS p2 out1 c2) cs1] [(4,vS p2 out1 c2)])→J Tryz.prog 28 B (nav (bodyOf Tryz.f186) [1,1,1,0,1,0]) Q I [hO Str (vS p1 out c1) cs] [(3,vS p y c),(4,vS p1 out c1),(5,vI i)]:=by
 refine qE.partial_correctness y _ fun self ih out i o N B I0 I Q p c p1 c1 cs H h h2 hg ho hx=>yT hg ho<|yC<|yG [12] rfl<|zI<|yE N ?_ ?_
 · intro hc N;refine zS<|zZ<|yH<|yF<|yB 2 [] [15,16] rfl<|bE N fun x hy1 N=>xJ rfl rfl h hy1 ?_;intro ad ccs hat hrep;obtain rfl:=hrep;refine yX 0 hat [vT x.l] (vT x.l) rfl<|yJ [] [19] rfl<|zI ?_;obtain ⟨o0,ho0,hMc⟩:=zB N;refine qL (fun I' hs' m'=>∃ (out2:List Str) (p3:Option Addr) (c3:Nat) (cs2:List Value),o0=out2∧I.le I'∧(RL I' cs2 out2)∧hs'=[hO Str (vS p3 out2 c3) cs2]∧m'=[(3,vS p y c),(4,vS p3 out2 c3),(5,vI i)]) ?_ ?_
   · have H:=iS I;refine yE ho0 ?_ ?_
     · intro hc1 N;refine zK<|yB 3 [] [20,21,22] rfl<|bE N fun x1 hy2 N=>xJ rfl rfl h hy2 ?_;intro ad1 ccs1 hat1 hrep1;obtain rfl:=hrep1;refine yX 0 hat1 [vT x1.l] (vT x1.l) rfl<|tH [vT x1.l] Str ?_;intro b1 hb1;have h5:RL I [vT x1.l] ([x1]:List Str):=rT [x1];obtain ⟨out3,hy3,N⟩:=zB N;exact qI 9 1 1 rfl rfl rfl h2 (.inr ⟨0,rfl⟩) h5 hy3 fun p4 c4 cs3 h6=>sD (zY [1] (hs':=[hO Str (vS p4 out3 c4) cs3]))<|yJ [] [4] rfl<|yQ<|zT ⟨_,_,_,_,(zC N).symm,H,h6,rfl,rfl⟩
     intro hc1 N;exact zS<|yQ<|zT ⟨_,_,_,_,(zC N).symm,H,h2,rfl,rfl⟩
   rintro I01 hs2 m2 ⟨out2,p3,c3,cs2,heq,le1,h4,rfl,rfl⟩;subst o0;have ⟨h,H⟩:=m2 le1 h H;exact zP<|zI<|zK<|yJ [] [5] rfl<|yS<|nG<|ih out2 (W (i + 1)) _ hMc H h h4 hg ho hx
 intro hc N;exact wT<|yQ<|hx _ _ _ _ _ (zC N).symm H h2
def mC (s:Str):Option ((List Str)):=do
 let y←mU s (32:UInt8)
 let out1←qE y ([]:List Str) 0
 pure (id out1)
theorem zBF:∀ s r,mC s=some r→∀ {I:Imm} ,RT 186 [vT s.l] I [] (eU  r):=by
 intro s r N I;unfold mC at N;refine yM Tryz.func186 fun B=>vJ []<|yV<|yB 1 [] [6] rfl<|bE N fun y hy N=>xQ (zAJ s (32:UInt8) _ hy ) ?_;rintro I0 hs2 v2 k2 le - ⟨v0,rfl,rfl,h⟩ -;obtain ⟨p,c,rfl⟩:=h.form;refine yJ [] [3] rfl<|yV<|tH [] Str ?_;intro b hb;have h1:RL I0 [] ([]:List Str):=rfl;refine yJ [] [4] rfl<|zZ<|yG [5] rfl<|xZ<|pJ [(3,vS p y c),(4,vS (some ⟨b,0,none⟩) ([]:List Str) 0),(5,vI 0)] ?_;obtain ⟨o01,ho01,hMl⟩:=zB N;refine zCj y ([]:List Str) 0 o01 ho01 iR h h1 (fun _ _ _ h=>h) (fun _ _ h=>h) ?_;intro I02 out1 p2 c2 cs1 heq1 le2 h3;subst o01;refine zR<|vG [2] rfl<|xG<|yY 0 rfl ?_;intro I03 le3 hl0;have h7:=SL.of_frozen hl0 le3 h3;obtain rfl:=zC hMl;exact xA ⟨_,_,(.tmp rfl ResV.nil),zQ,⟨_,rfl,rfl,h7⟩⟩
def zDz (r:zF):KT:=fun kk I' hs' v=>
  ∃ v0,hs'=[]∧v=tupV [v0]∧(∃ cs,v0=.agg ⟨cs⟩∧Rp.rep I' cs r)
def rJ (w0:(List Str)) (i:Int) (Name:Str) (Dims:List Int):Option ((Str×List Int)):=do
 let t15←(do
   if (decide (i < (w0.length:Int))) then
    pure (decide (i ≤ 4))
   else
    pure false
     : Option Bool)
 if t15 then
  if (i == 1) then
   let x←idx w0 1
   rJ w0 (W (i + 1)) x Dims
  else
   let x1←idx w0 i
   let (y1,y2)←jO x1
   let l←app 8 Dims ([y1]:List Int)
   rJ w0 (W (i + 1)) Name l
 else
  pure (Name,Dims)
 partial_fixpoint
theorem zDU (w0:(List Str)):∀ (i:Int) (Name:Str) (Dims:List Int) (o:(Str×List Int)),rJ w0 i Name Dims=some o→∀ {B}{I0 I:Imm}{Q p c}{b:Nat}{b1:Nat}{p1 c1 cs},I0.le I→(S4 I p w0 c)→(RL I cs Dims)→NG Q→NO Q→(∀ (I':Imm) (Name1:Str) (Dims1:List Int) (p2:Option Addr) (c2:Nat) (cs1:List Value),o=(Name1,Dims1)→I0.le I'→(RL I' cs1 Dims1)→T 39 B Q (.exit 0) I' [hO Int (vS p2 Dims1 c2) cs1,hB b1 [vT Name1.l,vS p2 Dims1 c2],hB b [vT ([]),z0]] [(2,vP b 0),(3,vP b1 0)])→J Tryz.prog 39 B (nav (bodyOf Tryz.f187) [1,1,0,1,0]) Q I [hO Int (vS p1 Dims c1) cs,hB b1 [vT Name.l,vS p1 Dims c1],hB b [vT ([]),z0]] [(0,vS p w0 c),(2,vP b 0),(3,vP b1 0),(4,vI i)]:=by
 refine rJ.partial_correctness w0 _ fun self ih i Name Dims o N B I0 I Q p c b b1 p1 c1 cs H h h2 hg ho hx=>yT hg ho<|yC<|yC ?_;refine wE N [hO Int (vS p1 Dims c1) cs,hB b1 [vT Name.l,vS p1 Dims c1],hB b [vT ([]),z0]] (fun t15=>[(0,vS p w0 c),(2,vP b 0),(3,vP b1 0),(4,vI i),(15,.bool t15)]) (fun o0 ho0=>?_) ?_
 · have H:=iS I;refine zK<|yB 5 [] [12] rfl<|xW [12] ho0 ?_ ?_
   · intro hc N;exact yJ [] [15] rfl<|yQ<|zT (ct N H)
   intro hc N;exact wG [] [(15,vF)]<|yQ<|zT (ct N H)
 intro t15 I0 le hMc;have ⟨h,h2,H⟩:=m3 le h h2 H;refine zI<|yE hMc ?_ ?_
 · intro hc1 N;refine zS<|zZ<|yH<|yC<|yG [19] rfl<|zI<|yE N ?_ ?_
   · intro hc2 N;refine yF<|yB 1 [] [20] rfl<|bE N fun x hy N=>xJ rfl rfl h hy ?_;intro ad ccs hat hrep;obtain rfl:=hrep;exact yX 0 hat [vT x.l] (vT x.l) rfl<|yB 4 [] [23] rfl<|xI 1 [vT x.l,vS p1 Dims c1] rfl<|yA rfl<|zI<|zGB<|jV<|zR<|zI<|zK<|yJ [] [4] rfl<|yS<|nG<|ih (W (i + 1)) x Dims _ N H h h2 hg ho hx
   intro hc2 N;refine zS<|yV<|yB 2 [] [25,26] rfl<|bE N fun x1 hy1 N=>xJ rfl rfl h hy1 ?_;intro ad1 ccs1 hat1 hrep1;obtain rfl:=hrep1;refine yX 0 hat1 [vT x1.l] (vT x1.l) rfl ?_;obtain ⟨⟨y1,y2⟩,hy2,N⟩:=zB N;refine xQ (zCJ x1 _ hy2 ) ?_;rintro I01 hs2 v2 k2 le1 - ⟨v0,v01,rfl,rfl,rfl,rfl⟩ -;have ⟨h,h2,H⟩:=m3 le1 h h2 H;refine yJ [] [5] rfl<|zI<|zK<|yB 3 [1] [33,34] rfl<|tH [vI y1] Int ?_;intro b2 hb2;have h6:RL I01 [vI y1] ([y1]:List Int):=rI [y1];obtain ⟨l,hy3,N⟩:=zB N;refine qI 3 1 1 rfl rfl rfl h2 (.inr ⟨0,rfl⟩) h6 hy3 ?_;intro p3 c3 cs2 h7;exact sD (zY [1,2,3] (hs':=[hO Int (vS p3 l c3) cs2,hB b1 [vT Name.l,vS p1 Dims c1],hB b [vT ([]),z0]]))<|yB 6 [] [37] rfl<|xI 1 [vT Name.l,vS p3 l c3] rfl<|yA rfl<|zP<|zI<|zK<|yJ [] [4] rfl<|yS<|nG<|ih (W (i + 1)) Name l _ N H h h7 hg ho hx
 intro hc1 N;exact wT<|yQ<|hx _ _ _ _ _ _ (zC N).symm H h2
def gI (w0:(List Str)):Option (zF):=do
 let (Name1,Dims1)←rJ w0 1 (⟨[]⟩:Str) ([]:List Int)
 pure (zF.mk Name1 Dims1)
theorem zFa:∀ w0 r,gI w0=some r→∀ {I:Imm}{p c},(S4 I p w0 c)→RT 187 [vS p w0 c] I [] (zDz  r):=by
 intro w0 r N I p c h;unfold gI at N;refine yM Tryz.func187 fun B=>yF<|wH [vT ([]),z0] ?_;intro b hb;refine yA rfl<|yV<|yB 1 [] [7] rfl<|wH [vT ([]),z0] ?_;intro b1 hb1;refine xI 0 [vT ([]),z0] rfl<|yA rfl<|zZ<|yG [4] rfl<|xZ<|pJ [(0,vS p w0 c),(2,vP b 0),(3,vP b1 0),(4,vI 1)]<|zAE Int fun h1=>?_;obtain ⟨o01,ho01,hMl⟩:=zB N;refine zDU w0 1 (⟨[]⟩:Str) ([]:List Int) o01 ho01 iR h h1 (fun _ _ _ h=>h) (fun _ _ h=>h) ?_;intro I02 Name1 Dims1 p2 c2 cs1 heq1 le2 h3;subst o01;refine zR<|yV<|yB 1 [1] [38] rfl<|xI 2 [vT Name1.l,vS p2 Dims1 c2] rfl<|yA rfl<|xG<|yY 0 rfl ?_;intro I03 le3 hl0;have h8:=SL.of_frozen hl0 le3 h3;obtain rfl:=zC hMl;exact xA ⟨_,_,(.cell 1 rfl rfl (by kernel_rfl) ResV.nil),zQ,⟨_,rfl,rfl,⟨_,rfl,(pE ⟨_,rfl,h8⟩)⟩⟩⟩
def zEs (r:zD):KT:=fun kk I' hs' v=>
  ∃ v0,hs'=[]∧v=tupV [v0]∧(∃ cs,v0=.agg ⟨cs⟩∧Rp.rep I' cs r)
def fE (line:Str):Option (zD):=do
 let y←mC line
 if ((y.length:Int) != 3) then
  pure (zD.mk ([]:List zA) ([]:List zA))
 else
  let x←idx y 1
  let y1←qD x
  let x1←idx y 2
  let y2←qD x1
  pure (zD.mk y1 y2)
theorem zGS:∀ line r,fE line=some r→∀ {I:Imm} ,RT 188 [vT line.l] I [] (zEs  r):=by
 intro line r N I;unfold fE at N;refine yM Tryz.func188 fun B=>?_;have H:=iS I;refine yF<|wH zTwo ?_;intro b hb;refine yA rfl<|yV<|yB 1 [] [4] rfl<|bE N fun y hy N=>xQ (zBF line _ hy ) ?_;rintro I0 hs2 v2 k2 le - ⟨v0,rfl,rfl,h⟩ -;have H:=H.trans le;obtain ⟨p,c,rfl⟩:=h.form;refine yJ [] [3] rfl<|zZ<|yG [8] rfl<|zI<|yE N ?_ ?_
 · intro hc N;refine yF<|yB 1 [] [9] rfl<|zAf 0 zTwo [hB b zTwo] rfl rfl rfl rfl<|yA rfl<|xG<|zH ?_;obtain rfl:=zC N;exact xA ⟨_,_,(.cell 0 rfl rfl (by kernel_rfl) ResV.nil),zQ,⟨_,rfl,rfl,⟨_,rfl,(rL ⟨_,_,rfl,(SL.nil _),(SL.nil _)⟩)⟩⟩⟩
 intro hc N;refine zS<|zI<|yC ?_;obtain ⟨x,hy1,N⟩:=zB N;obtain ⟨y1,hy2,N⟩:=zB N;obtain ⟨x1,hy3,N⟩:=zB N;obtain ⟨y2,hy4,N⟩:=zB N;refine wA [.p (vS p y c) [],.x (fun I' v hx=>∃ ad,v=.pointer (some ad)∧hx=[]∧(At I' ad [vT x.l])),.q (vT x.l),.x (eS y1),.p (vS p y c) [],.x (fun I' v hx=>∃ ad1,v=.pointer (some ad1)∧hx=[]∧(At I' ad1 [vT x1.l])),.q (vT x1.l),.x (eS y2),.x (fun I' v hx=>∃ p11 c11 p21 c21,v=vA [vS p11 y1 c11,vS p21 y2 c21]∧hx=[]∧(S4 I' p11 y1 c11)∧(S4 I' p21 y2 c21))] [[],[(0,false)],[(1,false)],[(2,false)],[],[(4,false)],[(5,false)],[(6,false)],[(3,false),(7,false)]] [hB b zTwo] [] [(8,false)] (zY [0]) ?_ ?_
 · refine Op<|Ox ?_<|Oq ?_<|Ox ?_<|Op<|Ox ?_<|Oq ?_<|Ox ?_<|Ox ?_<|On
   · intro I1 hf le1;refine yN [10] rfl ?_;have h:=h.mono le1;refine xJ rfl rfl h hy1 ?_;intro ad ccs hat hrep;obtain rfl:=hrep;exact yI [] iR ⟨_,rfl,rfl,hat⟩
   · rintro I1 hf le1 _ _ ⟨ad,rfl,rfl,hat⟩;exact yN [11] rfl<|yX 0 hat [vT x.l] (vT x.l) rfl<|yP iR
   · intro I1 hf le1;refine yN [12] rfl ?_;have H:=iS I1;refine xQ (fA x _ hy2 ) ?_;rintro I01 hs2 v2 k2 le1 - ⟨v01,rfl,rfl,h1⟩ -;have H:=H.trans le1;obtain ⟨p1,c1,rfl⟩:=h1.form;exact yI [] H ⟨_,_,rfl,rfl,h1⟩
   · intro I1 hf le1;refine yN [14] rfl ?_;have h:=h.mono le1;refine xJ rfl rfl h hy3 ?_;intro ad1 ccs1 hat1 hrep1;obtain rfl:=hrep1;exact yI [] iR ⟨_,rfl,rfl,hat1⟩
   · rintro I1 hf le1 _ _ ⟨ad1,rfl,rfl,hat1⟩;exact yN [15] rfl<|yX 0 hat1 [vT x1.l] (vT x1.l) rfl<|yP iR
   · intro I1 hf le1;refine yN [16] rfl ?_;have H:=iS I1;refine xQ (fA x1 _ hy4 ) ?_;rintro I02 hs2 v2 k2 le2 - ⟨v02,rfl,rfl,h2⟩ -;have H:=H.trans le2;obtain ⟨p2,c2,rfl⟩:=h2.form;exact yI [] H ⟨_,_,rfl,rfl,h2⟩
   rintro I1 hf le1 _ _ ⟨p1,c1,rfl,rfl,h1⟩ _ _ ⟨p2,c2,rfl,rfl,h2⟩;exact yN [13,17] rfl<|tM 9 [(18,vA [vS p1 y1 c1,vS p2 y2 c2])]<|yI [] iR ⟨_,_,_,_,rfl,rfl,h1,h2⟩
 rintro I03 le3 _ _ ⟨p11,c11,p21,c21,rfl,rfl,h11,h21⟩;refine yN [2,18] rfl ?_;refine xI 0 [vS p11 y1 c11,vS p21 y2 c21] rfl<|yA rfl<|zI<|yW ?_;obtain rfl:=zC N;exact xA ⟨_,_,(.cell 0 rfl rfl (by kernel_rfl) ResV.nil),zQ,⟨_,rfl,rfl,⟨_,rfl,(rL ⟨_,_,rfl,h11,h21⟩)⟩⟩⟩
end Go.LN
