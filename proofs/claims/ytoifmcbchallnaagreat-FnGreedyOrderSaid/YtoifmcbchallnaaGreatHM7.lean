/- Helper of the proof (see the last text). -/
import Derived.Test.YtoifmcbchallnaaGreatHM6
set_option linter.unusedVariables false
set_option linter.unusedSimpArgs false
namespace Go.LN
open Go.Proofs
set_option maxRecDepth 20000
def jK (p:zJ):Option ((List yG)):=do
 let y←vV p
 if (!y) then
  pure ([]:List yG)
 else
  let y1←nP p
  pure (id y1)
def fC (r:(List Int)):KT:=fun kk I' hs' v=>
  ∃ a0 c0 s0,hs'=[.osl (.slice a0 r.length c0) (Rp.sz Int) s0]∧v=tupV [(.slice a0 r.length c0)]∧RepL (Rp.rep I') (Rp.sz Int) s0 r
def sL (list:(List Bool)) (out:List Int) (i:Int):Option (List Int):=do
 if (decide (i < (list.length:Int))) then
  let x←idx list i
  let out2←(do
    if x then
     let out3←app 8 out ([i]:List Int)
     pure (id out3)
    else
     pure (id out)
      : Option (List Int))
  sL list out2 (W (i + 1))
 else
  pure (id out)
 partial_fixpoint
theorem zAq (list:(List Bool)):∀ (out:List Int) (i:Int) (o:List Int),sL list out i=some o→∀ {B}{I0 I:Imm}{Q p c p1 c1 cs},I0.le I→(S4 I p list c)→(RL I cs out)→NG Q→NO Q→(∀ (I':Imm) (out1:List Int) (p2:Option Addr) (c2:Nat) (cs1:List Value),o=out1→I0.le I'→(RL I' cs1 out1)→T 21 B Q (.exit 0) I' [hO Int (vS p2 out1 c2) cs1] [(3,vS p2 out1 c2)])→J Tryz.prog 21 B (nav (bodyOf Tryz.f92) [1,1,0,1,0]) Q I [hO Int (vS p1 out c1) cs] [(0,vS p list c),(3,vS p1 out c1),(4,vI i)]:=by
 refine sL.partial_correctness list _ fun self ih out i o N B I0 I Q p c p1 c1 cs H h h2 hg ho hx=>yY hg ho<|yK<|yE [(9,.bool (decide (i < (list.length:Int))))]<|zD<|yM N ?_ ?_
 · intro hc N;refine zX<|yI<|zV<|yO<|yH 2 [] [(12,vS p list c),(13,vI i)]<|bE N fun x hy N=>xV rfl rfl h hy ?_;intro ad ccs hat hrep;obtain rfl:=hrep;refine xR 0 hat [.bool x] (.bool x) rfl<|yN rfl<|zD ?_;obtain ⟨o0,ho0,hMc⟩:=zC N;refine yU (fun I' hs' m'=>∃ (out2:List Int) (p3:Option Addr) (c3:Nat) (cs2:List Value),o0=out2∧I.le I'∧(RL I' cs2 out2)∧hs'=[hO Int (vS p3 out2 c3) cs2]∧m'=[(0,vS p list c),(3,vS p3 out2 c3),(4,vI i)]) ?_ ?_
   · have H:=iS I;refine yM ho0 ?_ ?_
     · intro hc1 N;refine zQ<|yH 2 [] [(16,vS p1 out c1),(17,vI i)]<|xX [vI i] Int ?_;intro b1 hb1;have h5:RL I [vI i] ([i]:List Int):=⟨[vI i],_,rfl,rfl,rfl,rfl⟩;obtain ⟨out3,hy1,N⟩:=zC N;exact qF 3 1 1 rfl rfl rfl h2 (.inr ⟨0,rfl⟩) h5 hy1 fun p4 c4 cs3 h6=>rW (zE [1] (hs':=[hO Int (vS p4 out3 c4) cs3]) rfl (by decide))<|yF [] [(3,vS p4 out3 c4)]<|yR [(0,vS p list c),(3,vS p4 out3 c4),(4,vI i)]<|zY ⟨_,_,_,_,(zB N).symm,H,h6,rfl,rfl⟩
     intro hc1 N;exact zX<|yR [(0,vS p list c),(3,vS p1 out c1),(4,vI i)]<|zY ⟨_,_,_,_,(zB N).symm,H,h2,rfl,rfl⟩
   rintro I0 hs2 m2 ⟨out2,p3,c3,cs2,heq,le,h4,rfl,rfl⟩;subst o0;have h:=h.mono le;have H:=H.trans le;exact zT<|zD<|zQ<|yF [] [(4,vI (W (i + 1)))]<|yZ<|wS [(0,vS p list c),(3,vS p3 out2 c3),(4,vI (W (i + 1)))]<|ih out2 (W (i + 1)) _ hMc H h h4 hg ho hx
 intro hc N;exact yX<|zL<|zL<|yR [(3,vS p1 out c1)]<|hx _ _ _ _ _ (zB N).symm H h2
def mD (list:(List Bool)):Option ((List Int)):=do
 let out1←sL list ([]:List Int) 0
 pure (id out1)
theorem zCf:∀ list r,mD list=some r→∀ {I:Imm}{p c},(S4 I p list c)→Ret Tryz.prog 92 [vS p list c] I [] (fC  r):=by
 intro list r N I p c h;unfold mD at N;refine yA (fn:=Tryz.f92) (c:=(bodyOf Tryz.f92)) Tryz.func92 rfl rfl ?_;rintro B - -;refine yE []<|xI<|xX [] Int ?_;intro b hb;have h1:RL I [] ([]:List Int):=rfl;refine yF [] [(3,vS (some ⟨b,0,none⟩) ([]:List Int) 0)]<|yI<|yE [(4,vI 0)]<|zD<|zV<|wS [(0,vS p list c),(3,vS (some ⟨b,0,none⟩) ([]:List Int) 0),(4,vI 0)] ?_;obtain ⟨o01,ho01,hMl⟩:=zC N;refine zAq list ([]:List Int) 0 o01 ho01 iR h h1 (fun _ _ _ h=>h) (fun _ _ h=>h) ?_;intro I01 out1 p2 c2 cs1 heq1 le1 h3;subst o01;refine zW<|wR [(2,vS p2 out1 c2)]<|zD<|yC ?_;obtain rfl:=zB hMl;exact xH ⟨_,_,(.tmp rfl ResV.nil),(zE [0] rfl (by decide)),⟨_,_,_,rfl,rfl,h3⟩⟩
def kA (done:(List Bool)) (ready1:List Bool) (i:Int):Option (List Bool):=do
 if (decide (i < (done.length:Int))) then
  let x←idx done i
  let x1←idx ready1 i
  let l←pure (ready1.set i.toNat (!x))
  kA done l (W (i + 1))
 else
  pure (id ready1)
 partial_fixpoint
theorem zBm (done:(List Bool)):∀ (ready1:List Bool) (i:Int) (o:List Bool),kA done ready1 i=some o→∀ {B}{I0 I:Imm}{Q}{deps:(List yG)}{p c p1 c1 p2 c2 cs1},I0.le I→(S4 I p deps c)→(S4 I p1 done c1)→(RL I cs1 ready1)→NG Q→NO Q→(∀ (I':Imm) (ready2:List Bool) (p3:Option Addr) (c3:Nat) (cs2:List Value),o=ready2→I0.le I'→(RL I' cs2 ready2)→T 49 B Q (.exit 0) I' [hO Bool (vS p3 ready2 c3) cs2] [(0,vS p deps c),(1,vS p1 done c1),(5,vS p3 ready2 c3)])→J Tryz.prog 49 B (nav (bodyOf Tryz.f61) [1,1,0,1,0]) Q I [hO Bool (vS p2 ready1 c2) cs1] [(0,vS p deps c),(1,vS p1 done c1),(5,vS p2 ready1 c2),(6,vI i)]:=by
 refine kA.partial_correctness done _ fun self ih ready1 i o N B I0 I Q deps p c p1 c1 p2 c2 cs1 H h h1 h3 hg ho hx=>yY hg ho<|yK<|yE [(14,.bool (decide (i < (done.length:Int))))]<|zD<|yM N ?_ ?_
 · intro hc N;refine zX<|yI<|zV<|zQ<|yH 4 [] [(17,vS p2 ready1 c2),(18,vI i),(19,vS p1 done c1),(20,vI i)]<|bE N fun x hy1 N=>xV rfl rfl h1 hy1 ?_;intro ad ccs hat hrep;obtain rfl:=hrep;refine xR 0 hat [.bool x] (.bool x) rfl<|yH 7 [] [(23,.bool (!x))]<|bE N fun x1 hy2 N=>oM 0 rfl rfl rfl h3 hy2 ?_;intro ad1 ccs1 hat1 hcc hrep1;obtain rfl:=hrep1;obtain ⟨l,hy3,N⟩:=zC N;refine sF (c:=[.bool (!x)]) (x':=(!x)) 0 0 rfl rfl rfl hat1 rfl rfl hcc (by kernel_rfl) (by kernel_rfl) (by kernel_rfl) h3 hy2 (by kernel_rfl) rfl ?_;rw [show ready1.set i.toNat (!x)=l from zB hy3];intro cs3 h5 hl0;exact oX (m':=[(0,vS p deps c),(1,vS p1 done c1),(5,vS p2 ready1 c2),(6,vI i),(17,vS p2 ready1 c2),(18,vI i),(23,.bool (!x))]) ⟨rfl,rfl,rfl,rfl,rfl,rfl,rfl,trivial⟩<|fL (hs':=[hO Bool (vS p2 l c2) cs3]) (m':=[(0,vS p deps c),(1,vS p1 done c1),(5,vS p2 l c2),(6,vI i),(17,vS p2 l c2),(18,vI i),(23,.bool (!x))]) (by first | rfl | simp only [vS,hl0,List.nil_append,List.cons_append,List.set_cons_zero,List.set_cons_succ,List.eraseIdx_cons_zero,List.eraseIdx_cons_succ]) (by first | rfl | simp only [vS,hl0])<|yN rfl<|zT<|zD<|zQ<|yF [] [(6,vI (W (i + 1)))]<|yZ<|wS [(0,vS p deps c),(1,vS p1 done c1),(5,vS p2 l c2),(6,vI (W (i + 1)))]<|ih l (W (i + 1)) _ N H h h1 h5 hg ho hx
 intro hc N;exact yX<|zL<|zL<|yR [(0,vS p deps c),(1,vS p1 done c1),(5,vS p2 ready1 c2)]<|hx _ _ _ _ _ (zB N).symm H h3
def kC (deps:(List yG)) (done:(List Bool)) (ready3:List Bool) (i1:Int):Option (List Bool):=do
 if (decide (i1 < (deps.length:Int))) then
  let x2←idx deps i1
  let x3←idx done x2.From
  let ready5←(do
    if (!x3) then
     let x4←idx deps i1
     let x5←idx ready3 x4.To
     let l1←pure (ready3.set x4.To.toNat false)
     pure (id l1)
    else
     pure (id ready3)
      : Option (List Bool))
  kC deps done ready5 (W (i1 + 1))
 else
  pure (id ready3)
 partial_fixpoint
theorem zBn (deps:(List yG)) (done:(List Bool)):∀ (ready3:List Bool) (i1:Int) (o:List Bool),kC deps done ready3 i1=some o→∀ {B}{I0 I:Imm}{Q p c p1 c1 p4 c4 cs4},I0.le I→(S4 I p deps c)→(S4 I p1 done c1)→(RL I cs4 ready3)→NG Q→NO Q→(∀ (I':Imm) (ready4:List Bool) (p5:Option Addr) (c5:Nat) (cs5:List Value),o=ready4→I0.le I'→(RL I' cs5 ready4)→T 49 B Q (.exit 2) I' [hO Bool (vS p5 ready4 c5) cs5] [(5,vS p5 ready4 c5)])→J Tryz.prog 49 B (nav (bodyOf Tryz.f61) [1,1,1,0,1,0]) Q I [hO Bool (vS p4 ready3 c4) cs4] [(0,vS p deps c),(1,vS p1 done c1),(5,vS p4 ready3 c4),(7,vI i1)]:=by
 refine kC.partial_correctness deps done _ fun self ih ready3 i1 o N B I0 I Q p c p1 c1 p4 c4 cs4 H h h1 h6 hg ho hx=>yY hg ho<|yK<|yE [(28,.bool (decide (i1 < (deps.length:Int))))]<|zD<|yM N ?_ ?_
 · intro hc1 N;refine zX<|yI<|zV<|yO<|yH 3 [] [(31,vS p1 done c1),(32,vS p deps c),(33,vI i1)]<|bE N fun x2 hy4 N=>xV rfl rfl h hy4 ?_;intro ad2 ccs2 hat2 hrep2;obtain rfl:=gJ hrep2;refine yH 5 [] [(35,.pointer (some ad2))]<|xR 0 hat2 [vI x2.From] (vI x2.From) rfl<|bE N fun x3 hy5 N=>xV rfl rfl h1 hy5 ?_;intro ad3 ccs3 hat3 hrep3;obtain rfl:=hrep3;refine xR 0 hat3 [.bool x3] (.bool x3) rfl<|yF [] [(39,.bool (!x3))]<|zD ?_;obtain ⟨o01,ho01,hMc⟩:=zC N;refine yU (fun I' hs' m'=>∃ (ready5:List Bool) (p6:Option Addr) (c6:Nat) (cs6:List Value),o01=ready5∧I.le I'∧(RL I' cs6 ready5)∧hs'=[hO Bool (vS p6 ready5 c6) cs6]∧m'=[(0,vS p deps c),(1,vS p1 done c1),(5,vS p6 ready5 c6),(7,vI i1)]) ?_ ?_
   · have H:=iS I;refine yM ho01 ?_ ?_
     · intro hc2 N;refine zQ<|yH 3 [] [(40,vS p4 ready3 c4),(41,vS p deps c),(42,vI i1)]<|bE N fun x4 hy6 N=>xV rfl rfl h hy6 ?_;intro ad4 ccs4 hat4 hrep4;obtain rfl:=gJ hrep4;refine yH 5 [] [(44,.pointer (some (ad4.add 1)))]<|xR 1 hat4 [vI x4.To] (vI x4.To) rfl<|bE N fun x5 hy7 N=>oM 0 rfl rfl rfl h6 hy7 ?_;intro ad5 ccs5 hat5 hcc1 hrep5;obtain rfl:=hrep5;obtain ⟨l1,hy8,N⟩:=zC N;refine sF (c:=[vF]) (x':=false) 0 0 rfl rfl rfl hat5 rfl rfl hcc1 (by kernel_rfl) (by kernel_rfl) (by kernel_rfl) h6 hy7 (by kernel_rfl) rfl ?_;rw [show ready3.set x4.To.toNat false=l1 from zB hy8];intro cs7 h9 hl01;exact oX (m':=[(0,vS p deps c),(1,vS p1 done c1),(5,vS p4 ready3 c4),(7,vI i1),(40,vS p4 ready3 c4),(44,.pointer (some (ad4.add 1))),(45,vI x4.To)]) ⟨rfl,rfl,rfl,rfl,rfl,rfl,rfl,trivial⟩<|fL (hs':=[hO Bool (vS p4 l1 c4) cs7]) (m':=[(0,vS p deps c),(1,vS p1 done c1),(5,vS p4 l1 c4),(7,vI i1),(40,vS p4 l1 c4),(44,.pointer (some (ad4.add 1))),(45,vI x4.To)]) (by first | rfl | simp only [vS,hl01,List.nil_append,List.cons_append,List.set_cons_zero,List.set_cons_succ,List.eraseIdx_cons_zero,List.eraseIdx_cons_succ]) (by first | rfl | simp only [vS,hl01])<|yN rfl<|yR [(0,vS p deps c),(1,vS p1 done c1),(5,vS p4 l1 c4),(7,vI i1)]<|zY ⟨_,_,_,_,(zB N).symm,H,h9,rfl,rfl⟩
     intro hc2 N;exact zX<|yR [(0,vS p deps c),(1,vS p1 done c1),(5,vS p4 ready3 c4),(7,vI i1)]<|zY ⟨_,_,_,_,(zB N).symm,H,h6,rfl,rfl⟩
   rintro I01 hs2 m2 ⟨ready5,p6,c6,cs6,heq1,le1,h8,rfl,rfl⟩;subst o01;have h:=h.mono le1;have h1:=h1.mono le1;have H:=H.trans le1;exact zT<|zD<|zQ<|yF [] [(7,vI (W (i1 + 1)))]<|yZ<|wS [(0,vS p deps c),(1,vS p1 done c1),(5,vS p6 ready5 c6),(7,vI (W (i1 + 1)))]<|ih ready5 (W (i1 + 1)) _ hMc H h h1 h8 hg ho hx
 intro hc1 N;exact yX<|zL<|zL<|yR [(5,vS p4 ready3 c4)]<|hx _ _ _ _ _ (zB N).symm H h6
def fZ (deps:(List yG)) (done:(List Bool)):Option ((List Int)):=do
 let ready←mkrow 1 (done.length:Int) (false:Bool)
 let ready2←kA done ready 0
 let ready4←kC deps done ready2 0
 let y←mD ready4
 pure (id y)
theorem zDq:∀ deps done r,fZ deps done=some r→∀ {I:Imm}{p c p1 c1},(S4 I p deps c)→(S4 I p1 done c1)→Ret Tryz.prog 61 [vS p deps c,vS p1 done c1] I [] (fC  r):=by
 intro deps done r N I p c p1 c1 h h1;unfold fZ at N;refine yA (fn:=Tryz.f61) (c:=(bodyOf Tryz.f61)) Tryz.func61 rfl rfl ?_;rintro B - -;refine yE []<|xI<|yH 2 [] [(9,vI (done.length:Int))]<|bE N fun ready hy N=>zJ8 1 [vF] rfl hy rfl fun b cs h2=>yF [] [(5,vS (some ⟨b,0,none⟩) ready ready.length)]<|yI<|yE [(6,vI 0)]<|zD<|zV<|wS [(0,vS p deps c),(1,vS p1 done c1),(5,vS (some ⟨b,0,none⟩) ready ready.length),(6,vI 0)] ?_;obtain ⟨o0,ho0,hMl⟩:=zC N;refine zBm done ready 0 o0 ho0 iR h h1 h2 (fun _ _ _ h=>h) (fun _ _ h=>h) ?_;intro I0 ready2 p3 c3 cs2 heq le h4;subst o0;have h:=h.mono le;have h1:=h1.mono le;refine zW<|yI<|yE [(7,vI 0)]<|zD<|zV<|wS [(0,vS p deps c),(1,vS p1 done c1),(5,vS p3 ready2 c3),(7,vI 0)] ?_;obtain ⟨o02,ho02,hMl1⟩:=zC hMl;refine zBn deps done ready2 0 o02 ho02 iR h h1 h4 (fun _ _ _ h=>h) (fun _ _ h=>h) ?_;intro I02 ready4 p5 c5 cs5 heq2 le2 h7;subst o02;refine zW<|xI<|yH 1 [] [(47,vS p5 ready4 c5)]<|yJ 0 rfl ?_;intro I03 le3 hl02;have h10:=SL.of_frozen hl02 le3 h7;obtain ⟨y,hy9,N⟩:=zC hMl1;refine xW (zCf ready4 _ hy9 h10) ?_;rintro I04 hs2 v2 k2 le4 - ⟨p7,c7,cs8,rfl,rfl,h11⟩ -;refine yF [] [(4,vS p7 y c7)]<|zD<|yC ?_;obtain rfl:=zB N;exact xH ⟨_,_,(.tmp rfl ResV.nil),(zE [0] rfl (by decide)),⟨_,_,_,rfl,rfl,h11⟩⟩
def gX (choices:(List Int)) (n0:Int) (many:Int):Option (Int):=do
 if ((choices.length:Int) == 0) then
  pure (id 0)
 else
  let q←rem n0 (choices.length:Int)
  let x←idx choices q
  let q1←rem x many
  if (decide (q1 < 0)) then
   pure (id 0)
  else
   pure (id q1)
theorem zDV:∀ choices n0 many r,gX choices n0 many=some r→∀ {I:Imm}{p c},(S4 I p choices c)→Ret Tryz.prog 62 [vS p choices c,vI n0,vI many] I [] (yW  r):=by
 intro choices n0 many r N I p c h;unfold gX at N;refine yA (fn:=Tryz.f62) (c:=(bodyOf Tryz.f62)) Tryz.func62 rfl rfl ?_;rintro B - -;refine yE []<|yI<|yE [(10,.bool ((choices.length:Int) == 0))]<|zD<|yM N ?_ ?_
 · intro hc N;refine yE [(6,vI 0)]<|zD<|yC<|zM ?_;obtain rfl:=zB N;exact wY
 intro hc N;refine zX<|xI<|yH 4 [] [(11,vS p choices c),(12,vI n0),(14,vI (choices.length:Int))]<|bE N fun q hy N=>zJ7 rfl hy<|bE N fun x hy1 N=>xV rfl rfl h hy1 ?_;intro ad ccs hat hrep;obtain rfl:=hrep;refine xR 0 hat [vI x] (vI x) rfl<|yH 8 [] [(18,vI many)]<|bE N fun q1 hy2 N=>zJ7 rfl hy2<|yF [] [(7,vI q1)]<|yI<|yE [(21,.bool (decide (q1 < 0)))]<|zD<|yM N ?_ ?_
 · intro hc1 N;refine yE [(6,vI 0)]<|zD<|yC<|zM ?_;obtain rfl:=zB N;exact wY
 intro hc1 N;refine zX<|wR [(6,vI q1)]<|zD<|yC ?_;obtain rfl:=zB N;exact wY
def oL (choices:(List Int)) (y1:(List yG)) (out:List Int) (done1:List Bool) (n0:Int):Option (List Int):=do
 if (decide (n0 < (done1.length:Int))) then
  let y3←fZ y1 done1
  let y4←gX choices n0 (y3.length:Int)
  let x←idx y3 y4
  let x1←idx done1 x
  let l←pure (done1.set x.toNat true)
  let out2←app 8 out ([x]:List Int)
  oL choices y1 out2 l (W (n0 + 1))
 else
  pure (id out)
 partial_fixpoint
theorem zAO (choices:(List Int)) (y1:(List yG)):∀ (out:List Int) (done1:List Bool) (n0:Int) (o:List Int),oL choices y1 out done1 n0=some o→∀ {B}{I0 I:Imm}{Q p3 c2 p4 c3 p6 c5 cs1 p7 c6 cs2},I0.le I→(S4 I p3 choices c2)→(S4 I p4 y1 c3)→(RL I cs1 out)→(RL I cs2 done1)→NG Q→NO Q→(∀ (I':Imm) (out1:List Int) (p8:Option Addr) (c7:Nat) (cs3:List Value),o=out1→I0.le I'→(RL I' cs3 out1)→T 47 B Q (.exit 0) I' [hO Int (vS p8 out1 c7) cs3] [(5,vS p8 out1 c7)])→J Tryz.prog 47 B (nav (bodyOf Tryz.f34) [1,1,1,1,1,0,1,0]) Q I [hO Bool (vS p7 done1 c6) cs2,hO Int (vS p6 out c5) cs1] [(1,vS p3 choices c2),(5,vS p6 out c5),(6,vS p4 y1 c3),(7,vS p7 done1 c6),(8,vI n0)]:=by
 refine oL.partial_correctness choices y1 _ fun self ih out done1 n0 o N B I0 I Q p3 c2 p4 c3 p6 c5 cs1 p7 c6 cs2 H h2 h6 h9 h10 hg ho hx=>yY hg ho<|yK<|yE [(25,.bool (decide (n0 < (done1.length:Int))))]<|zD<|yM N ?_ ?_
 · intro hc1 N;refine zX<|yI<|zV<|yO<|yH 2 [] [(28,vS p4 y1 c3),(29,vS p7 done1 c6)]<|bE N fun y3 hy4 N=>zGW (L:=[hO Bool (vS p7 done1 c6) cs2]) (hs1:=[]) (rest:=[hO Int (vS p6 out c5) cs1]) rfl rfl rfl rfl (by kernel_rfl) rfl rfl (fun i1 le1 hl1=>zDq y1 done1 _ hy4 (h6.mono le1) ⟨_,hl1 (hO Bool (vS p7 done1 c6) cs2) (by simp),iM le1 h10⟩) ?_;rintro I05 I04 hs2 v2 k2 le4 - - - ⟨p9,c8,cs4,rfl,rfl,h12⟩ -;have h12:RL I04 cs4 y3:=h12;have h2:=h2.mono le4;have h9:=iM le4 h9;have h6:=h6.mono le4;have h10:=iM le4 h10;have H:=H.trans le4;refine yF [] [(9,vS p9 y3 c8)]<|xI<|yH 5 [] [(31,vS p9 y3 c8),(32,vS p3 choices c2),(33,vI n0),(35,vI (y3.length:Int))]<|bE N fun y4 hy5 N=>kE (zDV choices n0 (y3.length:Int) _ hy5 h2) ?_;intro I06 le5;have h2:=h2.mono le5;have h9:=iM le5 h9;have h6:=h6.mono le5;have h10:=iM le5 h10;have h12:=iM le5 h12;have H:=H.trans le5;obtain ⟨x,hy6,N⟩:=zC N;refine oM 1 rfl rfl rfl h12 hy6 ?_;intro ad ccs hat hcc hrep;obtain rfl:=hrep;refine zCD 1 0 hat hcc [vI x] (vI x) rfl rfl<|yF [] [(10,vI x)]<|xI<|yH 2 [] [(39,vS p7 done1 c6),(40,vI x)]<|bE N fun x1 hy7 N=>oM 0 rfl rfl rfl h10 hy7 ?_;intro ad1 ccs1 hat1 hcc1 hrep1;obtain rfl:=hrep1;obtain ⟨l,hy8,N⟩:=zC N;refine sF (c:=[vY]) (x':=true) 0 0 rfl rfl rfl hat1 rfl rfl hcc1 (by kernel_rfl) (by kernel_rfl) (by kernel_rfl) h10 hy7 (by kernel_rfl) rfl ?_;rw [show done1.set x.toNat true=l from zB hy8];intro cs5 h14 hl01;refine oX (m':=[(1,vS p3 choices c2),(5,vS p6 out c5),(6,vS p4 y1 c3),(7,vS p7 done1 c6),(8,vI n0),(10,vI x),(39,vS p7 done1 c6),(40,vI x)]) ⟨rfl,rfl,rfl,rfl,rfl,rfl,rfl,rfl,trivial⟩<|fL (hs':=[hO Bool (vS p7 l c6) cs5,hO Int (vS p9 y3 c8) cs4,hO Int (vS p6 out c5) cs1]) (m':=[(1,vS p3 choices c2),(5,vS p6 out c5),(6,vS p4 y1 c3),(7,vS p7 l c6),(8,vI n0),(10,vI x),(39,vS p7 l c6),(40,vI x)]) (by first | rfl | simp only [vS,hl01,List.nil_append,List.cons_append,List.set_cons_zero,List.set_cons_succ,List.eraseIdx_cons_zero,List.eraseIdx_cons_succ]) (by first | rfl | simp only [vS,hl01])<|yN rfl<|zD<|zQ<|yH 2 [] [(42,vS p6 out c5),(43,vI x)]<|xX [vI x] Int ?_;intro b3 hb2;have h15:RL I06 [vI x] ([x]:List Int):=⟨[vI x],_,rfl,rfl,rfl,rfl⟩;obtain ⟨out2,hy9,N⟩:=zC N;exact qF 3 1 3 rfl rfl rfl h9 (.inr ⟨0,rfl⟩) h15 hy9 fun p10 c9 cs6 h16=>rW (zE [1,2,3] (hs':=[hO Bool (vS p7 l c6) cs5,hO Int (vS p9 y3 c8) cs4,hO Int (vS p10 out2 c9) cs6]) rfl (by decide))<|yF [] [(5,vS p10 out2 c9)]<|zT<|zD<|zQ<|yF [] [(8,vI (W (n0 + 1)))]<|yZ<|qE (zE [0,2] rfl (by decide))<|wS [(1,vS p3 choices c2),(5,vS p10 out2 c9),(6,vS p4 y1 c3),(7,vS p7 l c6),(8,vI (W (n0 + 1)))]<|ih out2 l (W (n0 + 1)) _ N H h2 h6 h16 h14 hg ho hx
 intro hc1 N;exact yX<|zL<|zL<|wC (zE [1] rfl (by decide))<|yR [(5,vS p6 out c5)]<|hx _ _ _ _ _ (zB N).symm H h9
def eA (p:zJ) (choices:(List Int)):Option ((List Int)):=do
 let y←vV p
 if (!y) then
  pure ([]:List Int)
 else
  let y1←nP p
  let y2←tT p
  let done←mkrow 1 (y2.length:Int) (false:Bool)
  let out1←oL choices y1 ([]:List Int) done 0
  pure (id out1)
theorem zHF:∀ p choices r,eA p choices=some r→∀ {I:Imm}{p1 c p2 c1 p3 c2},(S4 I p1 p.Arrays c)→(S4 I p2 p.Parts c1)→(S4 I p3 choices c2)→Ret Tryz.prog 34 [vA (cProg p p1 c p2 c1),vS p3 choices c2] I [] (zDS  r):=by
 intro p choices r N I p1 c p2 c1 p3 c2 h h1 h2;unfold eA at N;refine yA (fn:=Tryz.f34) (c:=(bodyOf Tryz.f34)) Tryz.func34 rfl rfl ?_;rintro B - -;refine yO<|tA (cProg p p1 c p2 c1) ?_;intro b hb;refine yF [] []<|xI<|xX [] Int ?_;intro b1 hb1;have h3:RL I [] ([]:List Int):=rfl;refine yF [] [(5,vS (some ⟨b1,0,none⟩) ([]:List Int) 0)]<|yI<|yO<|yH 1 [1] [(12,vA (cProg p p1 c p2 c1))]<|bE N fun y hy N=>uR (gO p _ hy h h1) ?_;intro I0 le;have h2:=h2.mono le;have h3:=iM le h3;have h:=h.mono le;have h1:=h1.mono le;refine yF [] [(14,.bool (!y))]<|zD<|yM N ?_ ?_
 · intro hc N;refine yE [(4,vS (some ⟨b1,0,none⟩) ([]:List Int) 0)]<|zD<|yC<|zM<|xG 0 rfl ?_;intro I01 le1 hl0;have h5:=SL.of_frozen hl0 le1 h3;obtain rfl:=zB N;exact xH ⟨_,_,(.tmp rfl ResV.nil),yD,⟨_,rfl,rfl,h5⟩⟩
 intro hc N;refine zX<|xI<|yH 1 [1] [(16,vA (cProg p p1 c p2 c1))]<|bE N fun y1 hy1 N=>xW (zEg p _ hy1 h h1) ?_;rintro I02 hs2 v2 k2 le2 - ⟨v01,rfl,rfl,h6⟩ -;have h2:=h2.mono le2;have h3:=iM le2 h3;have h:=h.mono le2;have h1:=h1.mono le2;obtain ⟨p4,c3,rfl⟩:=h6.form;refine yF [] [(6,vS p4 y1 c3)]<|xI<|yH 1 [1] [(18,vA (cProg p p1 c p2 c1))]<|bE N fun y2 hy2 N=>xW (fB p _ hy2 h h1) ?_;rintro I03 hs2 v2 k2 le3 - ⟨v02,rfl,rfl,h7⟩ -;have h2:=h2.mono le3;have h3:=iM le3 h3;have h6:=h6.mono le3;have h:=h.mono le3;obtain ⟨p5,c4,rfl⟩:=h7.form;refine yH 3 [] [(20,vI (y2.length:Int))]<|bE N fun done hy3 N=>zJ8 1 [vF] rfl hy3 rfl fun b2 cs h8=>yF [] [(7,vS (some ⟨b2,0,none⟩) done done.length)]<|yI<|yE [(8,vI 0)]<|zD<|zV<|qE (zE [0,1] (hs':=[hO Bool (vS (some ⟨b2,0,none⟩) done done.length) cs,hO Int (vS (some ⟨b1,0,none⟩) ([]:List Int) 0) []]) rfl (by decide))<|wS [(1,vS p3 choices c2),(5,vS (some ⟨b1,0,none⟩) ([]:List Int) 0),(6,vS p4 y1 c3),(7,vS (some ⟨b2,0,none⟩) done done.length),(8,vI 0)] ?_;obtain ⟨o0,ho0,hMl⟩:=zC N;refine zAO choices y1 ([]:List Int) done 0 o0 ho0 iR h2 h6 h3 h8 (fun _ _ _ h=>h) (fun _ _ h=>h) ?_;intro I07 out1 p8 c7 cs3 heq le6 h11;subst o0;refine zW<|wR [(4,vS p8 out1 c7)]<|zD<|yC<|xG 0 rfl ?_;intro I08 le7 hl02;have h17:=SL.of_frozen hl02 le7 h11;obtain rfl:=zB hMl;exact xH ⟨_,_,(.tmp rfl ResV.nil),yD,⟨_,rfl,rfl,h17⟩⟩
def zFK (r:zJ×(List Int)):KT:=fun kk I' hs' v=>
  ∃ v0 v1,hs'=[]∧v=tupV [v0,v1]∧(∃ cs,v0=.agg ⟨cs⟩∧Rp.rep I' cs r.1)∧SL I' v1 r.2
def rU (order:(List Int)) (many:Int) (met1:List Bool) (t12:Int):Option (Out Unit (Bool)):=do
 if (decide (t12 < (order.length:Int))) then
  let x←idx order t12
  let t26←(do
    let y←wB x 0 (W (many - 1))
    if (!y) then
     pure true
    else
     let x1←idx met1 x
     pure (id x1)
      : Option Bool)
  if t26 then
   pure (.ret false)
  else
   let x2←idx met1 x
   let l←pure (met1.set x.toNat true)
   rU order many l (W (t12 + 1))
 else
  pure (.done ())
 partial_fixpoint
theorem zBo (order:(List Int)) (many:Int):∀ (met1:List Bool) (t12:Int) (o:Out Unit (Bool)),rU order many met1 t12=some o→∀ {B}{I0 I:Imm}{Q p c p1 c1 cs1},I0.le I→(S4 I p order c)→(RL I cs1 met1)→NG Q→NO Q→(∀ (I':Imm) ,o=(.done ())→I0.le I'→T 35 B Q (.exit 0) I' [] [(0,vS p order c),(1,vI many)])→(∀ r I' hs' m',o=(.ret r)→I0.le I'→RS Tryz.prog Tryz.f54 B (zZ  r) I' hs' m'→T 35 B Q .ret I' hs' m')→J Tryz.prog 35 B (nav (bodyOf Tryz.f54) [1,1,0,1,0]) Q I [hO Bool (vS p1 met1 c1) cs1] [(0,vS p order c),(1,vI many),(5,vS p1 met1 c1),(10,vS p order c),(11,vI (order.length:Int)),(12,vI t12)]:=by
 refine rU.partial_correctness order many _ fun self ih met1 t12 o N B I0 I Q p c p1 c1 cs1 H h h2 hg ho hx hr=>yY hg ho<|yE [(13,.bool (decide (t12 < (order.length:Int))))]<|yI<|yM N ?_ ?_
 · intro hc N;refine zX<|yI<|zV<|yO<|bE N fun x hy1 N=>xV rfl rfl h hy1 ?_;intro ad ccs hat hrep;obtain rfl:=hrep;refine xR 0 hat [vI x] (vI x) rfl<|yF [] [(7,vI x)]<|yI<|yK ?_;obtain ⟨o0,ho0,hMc⟩:=zC N;refine yU (fun I' hs' m'=>∃ (t26:Bool),o0=t26∧I.le I'∧hs'=[hO Bool (vS p1 met1 c1) cs1]∧m'=[(0,vS p order c),(1,vI many),(5,vS p1 met1 c1),(7,vI x),(10,vS p order c),(11,vI (order.length:Int)),(12,vI t12),(26,.bool t26)]) ?_ ?_
   · have H:=iS I;refine zQ<|yH 3 [] [(16,vI x),(18,vI (W (many - 1)))] ?_;obtain ⟨y,hy2,N⟩:=zC ho0;refine uR (wL x 0 (W (many - 1)) _ hy2 ) ?_;intro I01 le;have h2:=iM le h2;have H:=H.trans le;refine yH 6 [] [(21,.bool (!y))] ?_;cases hc1:(!y) with
     | true =>
      have hM0:=zU hc1 N
      try rw [hc1]
      exact yF [] [(26,vY)]<|yR [(0,vS p order c),(1,vI many),(5,vS p1 met1 c1),(7,vI x),(10,vS p order c),(11,vI (order.length:Int)),(12,vI t12),(26,vY)]<|zY ⟨_,(zB hM0).symm,H,rfl,rfl⟩
     | false =>
      have hM01:=zS hc1 N
      try rw [hc1]
      refine yH 8 [] [(22,vS p1 met1 c1),(23,vI x)] ?_;obtain ⟨x1,hy3,N⟩:=zC hM01;refine oM 0 rfl rfl rfl h2 hy3 ?_;intro ad1 ccs1 hat1 hcc hrep1;obtain rfl:=hrep1;exact zCD 0 0 hat1 hcc [.bool x1] (.bool x1) rfl rfl<|yF [] [(26,.bool x1)]<|yR [(0,vS p order c),(1,vI many),(5,vS p1 met1 c1),(7,vI x),(10,vS p order c),(11,vI (order.length:Int)),(12,vI t12),(26,.bool x1)]<|zY ⟨_,(zB N).symm,H,rfl,rfl⟩
   rintro I0 hs2 m2 ⟨t26,heq,le1,rfl,rfl⟩;subst o0;have h:=h.mono le1;have h2:=iM le1 h2;have H:=H.trans le1;refine zD<|yM hMc ?_ ?_
   · intro hc2 N;exact yE [(4,vF)]<|zD<|yC<|zM<|yB<|zM<|zM<|hr _ _ _ _ (zB N).symm H ⟨_,_,(.tmp rfl ResV.nil),yD,⟨_,rfl,rfl,rfl⟩⟩
   intro hc2 N;refine zX<|zD<|zQ<|yH 2 [] [(27,vS p1 met1 c1),(28,vI x)]<|bE N fun x2 hy4 N=>oM 0 rfl rfl rfl h2 hy4 ?_;intro ad2 ccs2 hat2 hcc1 hrep2;obtain rfl:=hrep2;obtain ⟨l,hy5,N⟩:=zC N;refine sF (c:=[vY]) (x':=true) 0 0 rfl rfl rfl hat2 rfl rfl hcc1 (by kernel_rfl) (by kernel_rfl) (by kernel_rfl) h2 hy4 (by kernel_rfl) rfl ?_;rw [show met1.set x.toNat true=l from zB hy5];intro cs2 h4 hl0;exact oX (m':=[(0,vS p order c),(1,vI many),(5,vS p1 met1 c1),(10,vS p order c),(11,vI (order.length:Int)),(12,vI t12),(27,vS p1 met1 c1),(28,vI x)]) ⟨rfl,rfl,rfl,rfl,rfl,rfl,rfl,rfl,trivial⟩<|fL (hs':=[hO Bool (vS p1 l c1) cs2]) (m':=[(0,vS p order c),(1,vI many),(5,vS p1 l c1),(10,vS p order c),(11,vI (order.length:Int)),(12,vI t12),(27,vS p1 l c1),(28,vI x)]) (by first | rfl | simp only [vS,hl0,List.nil_append,List.cons_append,List.set_cons_zero,List.set_cons_succ,List.eraseIdx_cons_zero,List.eraseIdx_cons_succ]) (by first | rfl | simp only [vS,hl0])<|yN rfl<|zT<|zD<|zQ<|yF [] [(12,vI (W (t12 + 1)))]<|yZ<|wS [(0,vS p order c),(1,vI many),(5,vS p1 l c1),(10,vS p order c),(11,vI (order.length:Int)),(12,vI (W (t12 + 1)))]<|ih l (W (t12 + 1)) _ N H h h4 hg ho hx hr
 intro hc N;exact yX<|zL<|zL<|wC (zE [] rfl (by decide))<|yR [(0,vS p order c),(1,vI many)]<|hx _  (zB N).symm H
def kQ (order:(List Int)) (many:Int):Option (Bool):=do
 let met←mkrow 1 many (false:Bool)
 match←rU order many met 0 with
 | .ret r0=>pure r0
 | .done _ =>
  pure ((order.length:Int) == many)
theorem zDr:∀ order many r,kQ order many=some r→∀ {I:Imm}{p c},(S4 I p order c)→Ret Tryz.prog 54 [vS p order c,vI many] I [] (zZ  r):=by
 intro order many r N I p c h;unfold kQ at N;refine yA (fn:=Tryz.f54) (c:=(bodyOf Tryz.f54)) Tryz.func54 rfl rfl ?_;rintro B - -;refine yE []<|xI<|yH 1 [] [(8,vI many)]<|bE N fun met hy N=>zJ8 1 [vF] rfl hy rfl fun b cs h1=>yF [] [(5,vS (some ⟨b,0,none⟩) met met.length)]<|yI<|yE [(10,vS p order c),(11,vI (order.length:Int)),(12,vI 0)]<|zD<|zV<|wS [(0,vS p order c),(1,vI many),(5,vS (some ⟨b,0,none⟩) met met.length),(10,vS p order c),(11,vI (order.length:Int)),(12,vI 0)] ?_;obtain ⟨o01,ho01,hMl⟩:=zC N;refine zBo order many met 0 o01 ho01 iR h h1 (fun _ _ _ h=>h) (fun _ _ h=>h) ?_ ?_
 · intro I02  heq1 le2;subst o01;refine zW<|wR [(4,.bool ((order.length:Int) == many))]<|zD<|yC ?_;obtain rfl:=zB hMl;exact wY
 intro r0 I9 hs9 m9 heq9 le9 hrs9;subst heq9;refine yB<|zM ?_;obtain rfl:=zB hMl;exact xH hrs9
def nE (p:zJ) (order:(List Int)):Option (Bool):=do
 let (y1,y2)←tE p
 let t4←(do
   if y2 then
    let y3←kQ order (y1.length:Int)
    pure (id y3)
   else
    pure false
     : Option Bool)
 pure (id t4)
theorem zBp:∀ p order r,nE p order=some r→∀ {I:Imm}{p1 c p2 c1 p3 c2},(S4 I p1 p.Arrays c)→(S4 I p2 p.Parts c1)→(S4 I p3 order c2)→Ret Tryz.prog 31 [vA (cProg p p1 c p2 c1),vS p3 order c2] I [] (zZ  r):=by
 intro p order r N I p1 c p2 c1 p3 c2 h h1 h2;unfold nE at N;refine yA (fn:=Tryz.f31) (c:=(bodyOf Tryz.f31)) Tryz.func31 rfl rfl ?_;rintro B - -;have H:=iS I;refine yO<|tA (cProg p p1 c p2 c1) ?_;intro b hb;refine yF [] []<|xI<|yH 1 [0] [(8,vA (cProg p p1 c p2 c1))] ?_;obtain ⟨⟨y1,y2⟩,hy,N⟩:=zC N;refine xW (kX p _ hy h h1) ?_;rintro I0 hs2 v2 k2 le - ⟨v0,v01,rfl,rfl,h3,rfl⟩ -;have h2:=h2.mono le;have H:=H.trans le;obtain ⟨p4,c3,rfl⟩:=h3.form;refine yF [] [(5,vS p4 y1 c3),(6,.bool y2)]<|zD<|yK ?_;obtain ⟨o0,ho0,hMc⟩:=zC N;refine yU (fun I' hs' m'=>∃ (t4:Bool),o0=t4∧I0.le I'∧hs'=[]∧m'=[(4,.bool t4)]) ?_ ?_
 · have H:=iS I0;refine zQ<|yH 2 [] [(13,.bool y2)] ?_;cases hc:y2 with
   | true =>
    have hM0:=zU hc ho0
    try rw [hc]
    refine yH 5 [] [(14,vS p3 order c2),(16,vI (y1.length:Int))] ?_;obtain ⟨y3,hy1,N⟩:=zC hM0;refine uR (zDr order (y1.length:Int) _ hy1 h2) ?_;intro I02 le1;have H:=H.trans le1;exact yF [] [(4,.bool y3)]<|wC (zE [] rfl (by decide))<|yR [(4,.bool y3)]<|zY ⟨_,(zB N).symm,H,rfl,rfl⟩
   | false =>
    have hM01:=zS hc ho0
    try rw [hc]
    exact yF [] [(4,vF)]<|wC (zE [] rfl (by decide))<|yR [(4,vF)]<|zY ⟨_,(zB hM01).symm,H,rfl,rfl⟩
 rintro I01 hs2 m2 ⟨t4,heq,le2,rfl,rfl⟩;subst o0;refine zD<|yC ?_;obtain rfl:=zB hMc;exact wY
def qY (hsF:List HA) (r:Int):KT:=fun kk I' hs' v=>
  ∃ v0,hsF=hs'∧v=tupV [v0]∧v0=.int .i64 r
def xO (s:(List yG)) (f0:(yG→Option Bool)) (t8:Int):Option (Out Unit (Int)):=do
 if (decide (t8 < (s.length:Int))) then
  let x←idx s t8
  let y←f0 x
  if y then
   pure (.ret t8)
  else
   xO s f0 (W (t8 + 1))
 else
  pure (.done ())
 partial_fixpoint
theorem mY (s:(List yG)) (f0:(yG→Option Bool)):∀ (t8:Int) (o:Out Unit (Int)),xO s f0 t8=some o→∀ {B}{I0 I:Imm}{Q p c}{fv:Value}{hsF:List HA},I0.le I→(S4 I p s c)→(FV1 Tryz.prog I hsF fv f0)→NG Q→NO Q→(∀ (I':Imm) ,o=(.done ())→I0.le I'→T 19 B Q (.exit 0) I' hsF [])→(∀ r I' hs' m',o=(.ret r)→I0.le I'→RS Tryz.prog Tryz.f77 B (qY hsF r) I' hs' m'→T 19 B Q .ret I' hs' m')→J Tryz.prog 19 B (nav (bodyOf Tryz.f77) [1,0,1,0]) Q I hsF [(0,vS p s c),(1,fv),(7,vI (s.length:Int)),(8,vI t8)]:=by
 refine xO.partial_correctness s f0 _ fun self ih t8 o N B I0 I Q p c fv hsF H h h1 hg ho hx hr=>yY hg ho<|yE [(9,.bool (decide (t8 < (s.length:Int))))]<|yI<|yM N ?_ ?_
 · intro hc N;refine zX<|yI<|zV<|yE [(5,vI t8)]<|xI<|yH 3 [] [(11,fv),(12,vS p s c),(13,vI t8)]<|bE N fun x hy N=>xV rfl rfl h hy ?_;intro ad ccs hat hrep;obtain rfl:=gJ hrep;refine xR 0 hat [vI x.From,vI x.To,vI x.Kinds] (vA [vI x.From,vI x.To,vI x.Kinds]) rfl<|bE N fun y hy1 N=>zG7 rfl rfl h1 hy1 ⟨_,rfl,(dB rfl)⟩ (List.append_nil _).symm ?_;rintro I0 v0 le rfl;refine uO (hs':=hsF) (List.append_nil _) ?_;have h:=h.mono le;have h1:=h1.mono le;have H:=H.trans le;refine yN rfl<|zD<|yM N ?_ ?_
   · intro hc1 N;exact yE [(4,vI t8)]<|zD<|yC<|yB<|zM<|zM<|hr _ _ _ _ (zB N).symm H ⟨_,_,(.tmp rfl ResV.nil),(fun _ h=>h),⟨_,rfl,rfl,rfl⟩⟩
   intro hc1 N;exact zX<|zT<|zD<|zQ<|yF [] [(8,vI (W (t8 + 1)))]<|yZ<|wS [(0,vS p s c),(1,fv),(7,vI (s.length:Int)),(8,vI (W (t8 + 1)))]<|ih (W (t8 + 1)) _ N H h h1 hg ho hx hr
 intro hc N;exact yX<|zL<|zL<|yR []<|hx _  (zB N).symm H
def vW (s:(List yG)) (f0:(yG→Option Bool)):Option (Int):=do
 match←xO s f0 0 with
 | .ret r0=>pure r0
 | .done _ =>
  pure (-1)
theorem kW:∀ s f0 r,vW s f0=some r→∀ {I:Imm}{p c}{fv:Value}{hsF:List HA},(S4 I p s c)→(FV1 Tryz.prog I hsF fv f0)→Ret Tryz.prog 77 [vS p s c,fv] I hsF (qY hsF r):=by
 intro s f0 r N I p c fv hsF h h1;unfold vW at N;refine yA (fn:=Tryz.f77) (c:=(bodyOf Tryz.f77)) Tryz.func77 rfl rfl ?_;rintro B - -;refine yE []<|yI<|yE [(7,vI (s.length:Int)),(8,vI 0)]<|zD<|zV<|wS [(0,vS p s c),(1,fv),(7,vI (s.length:Int)),(8,vI 0)] ?_;obtain ⟨o0,ho0,hMl⟩:=zC N;refine mY s f0 0 o0 ho0 iR h h1 (fun _ _ _ h=>h) (fun _ _ h=>h) ?_ ?_
 · intro I01  heq le1;subst o0;refine zW<|wR [(4,vI (-1))]<|zD<|yC ?_;obtain rfl:=zB hMl;exact xH ⟨_,_,(.tmp rfl ResV.nil),(fun _ h=>h),⟨_,rfl,rfl,rfl⟩⟩
 intro r0 I9 hs9 m9 heq9 le9 hrs9;subst heq9;refine yB<|zM ?_;obtain rfl:=zB hMl;exact xH hrs9
def qA (d0:yG) (x:(List Int)):Option (Bool):=do
 let x1←idx x d0.To
 let x2←idx x d0.From
 pure (decide (x1 < x2))
theorem zDW:∀ d0 x r,qA d0 x=some r→∀ {I:Imm}{ad:Addr}{p c},(S4 I p x c)→(At I ad [vS p x c])→Ret Tryz.prog 78 [vA [vI d0.From,vI d0.To,vI d0.Kinds],.pointer (some ad)] I [] (zZ  r):=by
 intro d0 x r N I ad p c h hat;unfold qA at N;refine yA (fn:=Tryz.f78) (c:=(bodyOf Tryz.f78)) Tryz.func78 rfl rfl ?_;rintro B - -;refine yO<|tA [vI d0.From,vI d0.To,vI d0.Kinds] ?_;intro b hb;refine yF [] []<|yI<|jI (by kernel_rfl) (by kernel_rfl)<|fM 0 hat [vS p x c] (vS p x c) rfl<|fE 3 [0] [(6,vI d0.To)]<|bE N fun x1 hy N=>zA9 rfl rfl h hy ?_;intro ad1 ccs hat1 hrep;obtain rfl:=hrep;refine fM 0 hat1 [vI x1] (vI x1) rfl<|fM 0 hat [vS p x c] (vS p x c) rfl<|fE 8 [0] [(11,vI d0.From)]<|bE N fun x2 hy1 N=>zA9 rfl rfl h hy1 ?_;intro ad2 ccs1 hat2 hrep1;obtain rfl:=hrep1;refine fM 0 hat2 [vI x2] (vI x2) rfl<|zCB [] [(3,.bool (decide (x1 < x2)))]<|zD<|yC ?_;obtain rfl:=zB N;exact wY
def rB (order:(List Int)) (t13:Int) (x:List Int):Option (List Int):=do
 if (decide (t13 < (order.length:Int))) then
  let x2←idx order t13
  let x3←idx x x2
  let l1←pure (x.set x2.toNat t13)
  rB order (W (t13 + 1)) l1
 else
  pure (id x)
 partial_fixpoint
theorem zCg (order:(List Int)):∀ (t13:Int) (x:List Int) (o:List Int),rB order t13 x=some o→∀ {B}{I0 I:Imm}{Q}{deps:(List yG)}{p c p1 c1}{b1:Nat}{p2 c2 cs1},I0.le I→(S4 I p deps c)→(S4 I p1 order c1)→(RL I cs1 x)→NG Q→NO Q→(∀ (I':Imm) (x1:List Int) (p3:Option Addr) (c3:Nat) (cs2:List Value),o=x1→I0.le I'→(RL I' cs2 x1)→T 26 B Q (.exit 0) I' [hB b1 [vS p3 x1 c3],hO Int (vS p3 x1 c3) cs2] [(0,vS p deps c),(5,vP b1 0)])→J Tryz.prog 26 B (nav (bodyOf Tryz.f49) [1,1,0,1,0]) Q I [hB b1 [vS p2 x c2],hO Int (vS p2 x c2) cs1] [(0,vS p deps c),(5,vP b1 0),(11,vS p1 order c1),(12,vI (order.length:Int)),(13,vI t13)]:=by
 refine rB.partial_correctness order _ fun self ih t13 x o N B I0 I Q deps p c p1 c1 b1 p2 c2 cs1 H h h1 h3 hg ho hx=>yY hg ho<|yE [(14,.bool (decide (t13 < (order.length:Int))))]<|yI<|yM N ?_ ?_
 · intro hc N;refine zX<|yI<|zV<|yO<|yH 1 [] [(15,vI t13)]<|bE N fun x2 hy1 N=>xV rfl rfl h1 hy1 ?_;intro ad ccs hat hrep;obtain rfl:=hrep;refine xR 0 hat [vI x2] (vI x2) rfl<|yF [] [(6,vI t13),(7,vI x2)]<|zD<|zQ<|yH 3 [0] [(18,vS p2 x c2),(19,vI x2),(20,vI t13)]<|bE N fun x3 hy2 N=>oM 1 rfl rfl rfl h3 hy2 ?_;intro ad1 ccs1 hat1 hcc hrep1;obtain rfl:=hrep1;obtain ⟨l1,hy3,N⟩:=zC N;refine sF (c:=[vI t13]) (x':=t13) 1 0 rfl rfl rfl hat1 rfl rfl hcc (by kernel_rfl) (by kernel_rfl) (by kernel_rfl) h3 hy2 (by kernel_rfl) rfl ?_;rw [show x.set x2.toNat t13=l1 from zB hy3];intro cs3 h5 hl0;exact oX (m':=[(0,vS p deps c),(5,vP b1 0),(11,vS p1 order c1),(12,vI (order.length:Int)),(13,vI t13),(18,vS p2 x c2),(19,vI x2),(20,vI t13)]) ⟨rfl,rfl,rfl,rfl,rfl,rfl,rfl,rfl,trivial⟩<|fL (hs':=[hB b1 [vS p2 l1 c2],hO Int (vS p2 l1 c2) cs3]) (m':=[(0,vS p deps c),(5,vP b1 0),(11,vS p1 order c1),(12,vI (order.length:Int)),(13,vI t13),(18,vS p2 l1 c2),(19,vI x2),(20,vI t13)]) (by first | rfl | simp only [vS,hl0,List.nil_append,List.cons_append,List.set_cons_zero,List.set_cons_succ,List.eraseIdx_cons_zero,List.eraseIdx_cons_succ]) (by first | rfl | simp only [vS,hl0])<|yN rfl<|zT<|zD<|zQ<|yF [] [(13,vI (W (t13 + 1)))]<|yZ<|wS [(0,vS p deps c),(5,vP b1 0),(11,vS p1 order c1),(12,vI (order.length:Int)),(13,vI (W (t13 + 1)))]<|ih (W (t13 + 1)) l1 _ N H h h1 h5 hg ho hx
 intro hc N;exact yX<|zL<|zL<|yR [(0,vS p deps c),(5,vP b1 0)]<|hx _ _ _ _ _ (zB N).symm H h3
def mW (deps:(List yG)) (order:(List Int)):Option (Int):=do
 let l←mkrow 8 (order.length:Int) (0:Int)
 let x1←rB order 0 l
 let y←vW deps (fun x0=>qA x0 x1)
 pure (id y)
theorem zEh:∀ deps order r,mW deps order=some r→∀ {I:Imm}{p c p1 c1},(S4 I p deps c)→(S4 I p1 order c1)→Ret Tryz.prog 49 [vS p deps c,vS p1 order c1] I [] (yW  r):=by
 intro deps order r N I p c p1 c1 h h1;unfold mW at N;refine yA (fn:=Tryz.f49) (c:=(bodyOf Tryz.f49)) Tryz.func49 rfl rfl ?_;rintro B - -;refine yE []<|xI<|yH 2 [] [(9,vI (order.length:Int))]<|bE N fun l hy N=>zJ8 8 [vI 0] rfl hy rfl fun b cs h2=>uQ [z0] ?_;intro b1 hb;refine xQ 0 [vS (some ⟨b,0,none⟩) l l.length] [hB b1 [vS (some ⟨b,0,none⟩) l l.length],hO Int (vS (some ⟨b,0,none⟩) l l.length) cs] rfl rfl rfl rfl<|yN rfl<|yI<|yE [(11,vS p1 order c1),(12,vI (order.length:Int)),(13,vI 0)]<|zD<|zV<|wS [(0,vS p deps c),(5,vP b1 0),(11,vS p1 order c1),(12,vI (order.length:Int)),(13,vI 0)] ?_;obtain ⟨o0,ho0,hMl⟩:=zC N;refine zCg order 0 l o0 ho0 iR h h1 h2 (fun _ _ _ h=>h) (fun _ _ h=>h) ?_;intro I0 x1 p3 c3 cs2 heq le h4;subst o0;have h:=h.mono le;refine zW<|xI<|yH 2 [] [(23,vS p deps c),(24,.func (.func 78) ⟨[]⟩ ⟨[vP b1 0]⟩)]<|yJ 1 rfl ?_;intro I01 le1 hl01;have h6:=SL.of_frozen hl01 le1 h4;have h:=h.mono le1;refine yJ 0 rfl ?_;intro I02 le2 hl02;have hat2:At I02 ⟨b1,0,none⟩ [vS p3 x1 c3]:=At.of_blk hl02;have h:=h.mono le2;have h6:=h6.mono le2;have hf0:FV1 Tryz.prog I02 [] (.func (.func 78) ⟨[]⟩ ⟨[vP b1 0]⟩) (fun x0=>qA x0 x1):=by
   refine FV1.intro ?_;intro I1 le1 x0 r u0 hF k0;obtain ⟨_,rfl,k0⟩:=k0;obtain rfl:=gJ k0;exact (zDW x0 x1 r hF (h6.mono le1) (hat2.mono le1)).mono (by rintro k i hs u ⟨v0,rfl,rfl,h⟩; exact ⟨rfl,h⟩)
 obtain ⟨y,hy4,N⟩:=zC hMl;refine xW (kW deps (fun x0=>qA x0 x1) _ hy4 h hf0) ?_;rintro I03 hs2 v2 k2 le3 - ⟨v0,rfl,rfl,rfl⟩ -;refine yF [] [(4,vI y)]<|zD<|yC ?_;obtain rfl:=zB N;exact wY
def fH (p:zJ) (order:(List Int)):Option (Bool):=do
 let t6←(do
   let y←nE p order
   if y then
    let y1←oK p
    let y2←mW y1 order
    pure (decide (y2 < 0))
   else
    pure false
     : Option Bool)
 pure (id t6)
theorem zFL:∀ p order r,fH p order=some r→∀ {I:Imm}{p1 c p2 c1 p3 c2},(S4 I p1 p.Arrays c)→(S4 I p2 p.Parts c1)→(S4 I p3 order c2)→Ret Tryz.prog 53 [vA (cProg p p1 c p2 c1),vS p3 order c2,.func (.func 15) ⟨[]⟩ ⟨[]⟩] I [] (zZ  r):=by
 intro p order r N I p1 c p2 c1 p3 c2 h h1 h2;unfold fH at N;refine yA (fn:=Tryz.f53) (c:=(bodyOf Tryz.f53)) Tryz.func53 rfl rfl ?_;rintro B - -;have H:=iS I;refine yO<|tA (cProg p p1 c p2 c1) ?_;intro b hb;refine yF [] []<|zD<|yK ?_;obtain ⟨o0,ho0,hMc⟩:=zC N;refine yU (fun I' hs' m'=>∃ (t6:Bool),o0=t6∧I.le I'∧hs'=[]∧m'=[(6,.bool t6)]) ?_ ?_
 · have H:=iS I;refine zQ<|yH 2 [0] [(7,vA (cProg p p1 c p2 c1)),(8,vS p3 order c2)] ?_;obtain ⟨y,hy,N⟩:=zC ho0;refine uR (zBp p order _ hy h h1 h2) ?_;intro I01 le;have h2:=h2.mono le;have h:=h.mono le;have h1:=h1.mono le;have H:=H.trans le;refine yH 4 [] [(10,.bool y)] ?_;cases hc:y with
   | true =>
    have hM0:=zU hc N
    try rw [hc]
    refine yH 6 [0] [(11,.func (.func 15) ⟨[]⟩ ⟨[]⟩),(12,vA (cProg p p1 c p2 c1))] ?_;obtain ⟨y1,hy1,N⟩:=zC hM0;refine xW (zBM p _ hy1 h h1) ?_;rintro I02 hs2 v2 k2 le1 - ⟨v01,rfl,rfl,h4⟩ -;have h2:=h2.mono le1;have H:=H.trans le1;obtain ⟨p4,c3,rfl⟩:=h4.form;refine yH 8 [] [(14,vS p3 order c2)]<|bE N fun y2 hy2 N=>kE (zEh y1 order _ hy2 h4 h2) ?_;intro I03 le2;have H:=H.trans le2;exact yF [] [(6,.bool (decide (y2 < 0)))]<|wC (zE [] rfl (by decide))<|yR [(6,.bool (decide (y2 < 0)))]<|zY ⟨_,(zB N).symm,H,rfl,rfl⟩
   | false =>
    have hM01:=zS hc N
    try rw [hc]
    exact yF [] [(6,vF)]<|wC (zE [] rfl (by decide))<|yR [(6,vF)]<|zY ⟨_,(zB hM01).symm,H,rfl,rfl⟩
 rintro I0 hs2 m2 ⟨t6,heq,le3,rfl,rfl⟩;subst o0;refine zD<|yC ?_;obtain rfl:=zB hMc;exact wY
def kD (p:zJ) (order:(List Int)):Option (Bool):=do
 let y←fH p order
 pure (id y)
theorem zHR:∀ p order r,kD p order=some r→∀ {I:Imm}{p1 c p2 c1 p3 c2},(S4 I p1 p.Arrays c)→(S4 I p2 p.Parts c1)→(S4 I p3 order c2)→Ret Tryz.prog 30 [vA (cProg p p1 c p2 c1),vS p3 order c2] I [] (zZ  r):=by
 intro p order r N I p1 c p2 c1 p3 c2 h h1 h2;unfold kD at N;refine yA (fn:=Tryz.f30) (c:=(bodyOf Tryz.f30)) Tryz.func30 rfl rfl ?_;rintro B - -;refine yO<|tA (cProg p p1 c p2 c1) ?_;intro b hb;refine yF [] []<|xI<|yH 2 [0] [(5,vA (cProg p p1 c p2 c1)),(6,vS p3 order c2)]<|bE N fun y hy N=>uR (zFL p order _ hy h h1 h2) fun I0 le=>yF [] [(4,.bool y)]<|zD<|yC ?_;obtain rfl:=zB N;exact wY
end Go.LN
