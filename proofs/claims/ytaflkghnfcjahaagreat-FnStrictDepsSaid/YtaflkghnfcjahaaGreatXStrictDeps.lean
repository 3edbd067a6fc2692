/- Helper of the proof (see the last text). -/
import Derived.Test.YtaflkghnfcjahaaGreatLnA
import Derived.Test.YtaflkghnfcjahaaGreatLnH
import Derived.Test.YtaflkghnfcjahaaGreatLnN
import Derived.Test.YtaflkghnfcjahaaGreatTryzShelf
import Derived.Test.YtaflkghnfcjahaaGreatHM1
import Derived.Test.YtaflkghnfcjahaaGreatHM2
import Derived.Test.YtaflkghnfcjahaaGreatHM3
import Derived.Test.YtaflkghnfcjahaaGreatHM4
import Derived.Test.YtaflkghnfcjahaaGreatHM5
import Derived.Test.YtaflkghnfcjahaaGreatHM6
import Derived.Test.YtaflkghnfcjahaaGreatHM7
import Derived.Test.YtaflkghnfcjahaaGreatHM8
import Derived.Test.YtaflkghnfcjahaaGreatQT
import Derived.Test.YtaflkghnfcjahaaGreatQZ
import Derived.Test.YtaflkghnfcjahaaGreatVB1
import Derived.Test.YtaflkghnfcjahaaGreatVB8
import Derived.Test.YtaflkghnfcjahaaGreatLnR
set_option linter.unusedVariables false
set_option linter.unusedSimpArgs false
namespace Go.LN
section
variable {P:Program}{n:Nat}{B:Base}{Q:Exit→Act→World→Prop}{imm:Imm}{hs:List HA}{m:FM}{ops:List Oper}{pc d:Nat}{ty:TypeId}{pos:String}{after:Array Edge}{g:Option (Nat×Bool)}
theorem zMu {w:World}{t:TypeId}{k:IntKind} (hu:P.underlying t=some (.int k)) {xs:Array Value}{off:Nat}{v:Value} (hx:xs[off]?=some v):(part t xs off).run P w=.ok v w:=by
  simp [part,isAgg,xE hu,hx]
def intF (P:Program) (f:Field) (o:Nat):Bool:=(f.name != "_") && (f.offset == o) && (match P.underlying f.type with | some (.int _)=>true | _=>false)
def int3 (P:Program) (t:TypeId):Bool:=(match P.underlying t with | some (.struct _)=>true | _=>false) && (match (P.fieldsOf t).toList with | [a,b,c]=>intF P a 0 && intF P b 1 && intF P c 2 | _=>false) && !(P.stoodInHeld t) && !(P.eqGuardType P.depth t)
theorem zMx {w:World}{f:Field}{fs:List Field}{o e:Nat}{xs ys:Array Value}{a b:Int} (hf:intF P f o=true) (hx:xs[o]?=some (vI a)) (hy:ys[o]?=some (vI b)):(Op.eqFields (e + 1) xs ys (f::fs)).run P w=if (a == b)=true then (Op.eqFields (e + 1) xs ys fs).run P w else .ok false w:=by
  unfold intF at hf;simp only [Bool.and_eq_true,bne_iff_ne,ne_eq,beq_iff_eq] at hf;obtain ⟨⟨h1,h2⟩,h3⟩:=hf;split at h3
  · rename_i k hu;rw [Op.eqFields];subst h2;simp only [if_pos h1,Sem.run_bind,zMu hu hx,zMu hu hy,Result.andThen_ok,run_equalIn_int w e f.type .i64 k a b hu];cases a == b <;> simp
  · cases h3
theorem zNE {w:World}{t:TypeId}{a b c a' b' c':Int} (ht:int3 P t=true):(Op.equalIn 10000 t (vA [vI a,vI b,vI c]) (vA [vI a',vI b',vI c'])).run P w=.ok (a == a' && (b == b' && c == c')) w:=by
  unfold int3 at ht;simp only [Bool.and_eq_true,Bool.not_eq_true'] at ht;obtain ⟨⟨⟨h1,h2⟩,h3⟩,h4⟩:=ht;have hu:P.underlying t=some (.struct (P.fieldsOf t)):=by
    unfold Program.fieldsOf;split at h1
    · rename_i fs hu; rw [hu]
    · cases h1
  rw [run_equalIn_struct w 9999 t _ _ hu h3];split at h2
  · rename_i f1 f2 f3 he;simp only [Bool.and_eq_true] at h2;rw [he,zMx (a:=a) (b:=a') h2.1.1 rfl rfl,zMx (a:=b) (b:=b') h2.1.2 rfl rfl,zMx (a:=c) (b:=c') h2.2 rfl rfl];cases a == a' <;> cases b == b' <;> cases c == c' <;> simp [Op.eqFields]
  · cases h2
theorem zNU {t t2:TypeId}{x y:Operand}{a b c a' b' c':Int} (hx:val m x=some (vA [vI a,vI b,vI c])) (hy:val m y=some (vA [vI a',vI b',vI c'])) (ht:int3 P t=true):Reads P n B imm hs m (.binOp .neq t x y t2) (.bool (!(a == a' && (b == b' && c == c')))):=fun oo α w he f gd=>by
  have hq:P.eqGuardType P.depth t=false:=by
    unfold int3 at ht;simp only [Bool.and_eq_true,Bool.not_eq_true'] at ht;exact ht.2
  simp only [execOp,he,f.eval hx,f.eval hy,Sem.run_bind];rw [show (eqGuard .neq t x y (vA [vI a,vI b,vI c]) (vA [vI a',vI b',vI c'])).run P w=.ok () w from run_eqGuard_agg w .neq t x y _ _ hq];simp only [Result.andThen_ok];rw [show (binOp .neq t (vA [vI a,vI b,vI c]) (vA [vI a',vI b',vI c'])).run P w=_ from run_neq_struct w t _ _];rw [show (Op.equalIn 10000 t (.agg ⟨[vI a,vI b,vI c]⟩) (.agg ⟨[vI a',vI b',vI c']⟩)).run P w=_ from zNE ht];simp
theorem zNQ {t t2:TypeId}{x y:Operand}{a b c a' b' c':Int} (ho:ops[pc]?=some ⟨some d,.binOp .neq t x y t2,ty,pos,after,g⟩)
    (next:Rq P n B ops Q (pc + 1) imm hs ((d,.bool (!(a == a' && (b == b' && c == c'))))::m)) (hx:val m x=some (vA [vI a,vI b,vI c]):=by kernel_rfl) (hy:val m y=some (vA [vI a',vI b',vI c']):=by kernel_rfl) (hg:guardB ops m g=some true:=by kernel_rfl) (hn:Nat.blt d n=true:=by kernel_rfl) (ht:int3 P t=true:=by kernel_rfl):Rq P n B ops Q pc imm hs m:=zAp ho hg rfl hn (zNU hx hy ht) next
end
end Go.LN
namespace Go.LN
open Go.Proofs
set_option maxRecDepth 20000
def zMr (r:Str×Bool):KT:=fun kk I' hs' v=>
  ∃ v0 v1,hs'=[]∧v=tupV [v0,v1]∧v0=.string ⟨⟨r.1.l⟩⟩∧v1=.bool r.2
def zMm (p:zE) (at0:Int):Option (Str×Bool):=do
 let (y1,y2)←rP p
 let t32←(do
   if (!y2) then
    pure true
   else
    let y3←wK at0 0 (W ((y1.length:Int) - 1))
    if (!y3) then
     pure true
    else
     let x←idx y1 at0
     let y4←pC p x
     let y5←fZ y4
     pure (!y5)
     : Option Bool)
 if t32 then
  pure ((⟨[]⟩:Str),false)
 else
  let x1←idx y1 at0
  let y6←pC p x1
  pure (y6.Write.Array,true)
theorem zMq:∀ p at0 r,zMm p at0=some r→∀ {I:Imm}{p1 c p2 c1},(S4 I p1 p.Arrays c)→(S4 I p2 p.Parts c1)→RT 12 [vA (cProg p p1 c p2 c1),vI at0] I [] (zMr  r):=by
 intro p at0 r N I p1 c p2 c1 h h1;unfold zMm at N;refine yM Tryz.func12 fun B=>?_;have H:=iS I;refine yF<|vX (cProg p p1 c p2 c1) ?_;intro b hb;refine wG [] []<|yV<|yB 1 [0] [9] rfl ?_;obtain ⟨⟨y1,y2⟩,hy,N⟩:=zB N;refine xQ (zAT p _ hy h h1) ?_;rintro I0 hs2 v2 k2 le - ⟨v0,v01,rfl,rfl,h2,rfl⟩ -;have ⟨h,h1,H⟩:=m3 le h h1 H;obtain ⟨p3,c2,rfl⟩:=h2.form;refine yJ [] [6,7] rfl<|zZ<|yC ?_;refine wE N [hB b (cProg p p1 c p2 c1)] (fun t32=>[(1,vI at0),(2,vP b 0),(6,vS p3 y1 c2),(32,.bool t32)]) (fun o0 ho0=>?_) ?_
 · have H:=iS I0;cases hc:(!y2) with
   | true =>
    have hM0:=wV hc ho0;refine wA [.p (.bool y2) [],.q vY,.q vY,.p undef [],.p undef [],.p undef [],.p undef [],.p undef [],.p undef [],.p vY [],.p vY [],.p undef [],.p undef [],.p undef [],.p undef [],.p undef [],.p undef [],.p undef [],.p undef [],.p vY []] [[],[(0,false)],[(1,false)],[(2,false)],[(2,false)],[(2,false),(4,false)],[(2,false),(5,false)],[(2,false),(3,false),(6,false)],[(2,false),(7,false)],[(2,false),(8,false)],[(9,false)],[(10,false)],[(10,false)],[(10,false)],[(10,false),(12,false),(13,false)],[(10,false),(14,false)],[(10,false),(11,false),(15,false)],[(10,false),(16,false)],[(10,false),(17,false)],[(10,false),(18,false)]] [hB b (cProg p p1 c p2 c1)] [] [(19,false)] (zY [0]) ?_ ?_
    · refine Op<|Oq ?_<|Oq ?_<|Op<|Op<|Op<|Op<|Op<|Op<|Op<|Op<|Op<|Op<|Op<|Op<|Op<|Op<|Op<|Op<|Op<|On
      · intro I1 hf le1;refine yN [13] rfl<|tM 2 [(14,.bool (!y2))] ?_;rw [hc];exact yP iR
      intro I1 hf le1;exact gY [(14,vY)]<|tM 3 [(15,vY)]<|yP iR
    intro I02 le1;refine yN [1,2,6,32] rfl ?_;have H:=H.trans le1;exact yA rfl<|yQ<|zT (ct hM0 H)
   | false =>
    have hM01:=wB hc ho0;obtain ⟨y3,hy1,N⟩:=zB hM01;cases hc1:(!y3) with
    | true =>
     have hM02:=wV hc1 N;refine wA [.p (.bool y2) [],.q vF,.q vF,.p (vI at0) [],.p (vS p3 y1 c2) [],.p (vI (y1.length:Int)) [],.p (vI (W ((y1.length:Int) - 1))) [],.q (.bool y3),.q vY,.q vY,.q vY,.p undef [],.p undef [],.p undef [],.p undef [],.p undef [],.p undef [],.p undef [],.p undef [],.p vY []] [[],[(0,false)],[(1,false)],[(2,false)],[(2,false)],[(2,false),(4,false)],[(2,false),(5,false)],[(2,false),(3,false),(6,false)],[(2,false),(7,false)],[(2,false),(8,false)],[(9,false)],[(10,false)],[(10,false)],[(10,false)],[(10,false),(12,false),(13,false)],[(10,false),(14,false)],[(10,false),(11,false),(15,false)],[(10,false),(16,false)],[(10,false),(17,false)],[(10,false),(18,false)]] [hB b (cProg p p1 c p2 c1)] [] [(19,false)] (zY [0]) ?_ ?_
     · refine Op<|Oq ?_<|Oq ?_<|Op<|Op<|Op<|Op<|Oq ?_<|Oq ?_<|Oq ?_<|Oq ?_<|Op<|Op<|Op<|Op<|Op<|Op<|Op<|Op<|Op<|On
       · intro I1 hf le1;refine yN [13] rfl<|tM 2 [(14,.bool (!y2))] ?_;rw [hc];exact yP iR
       · intro I1 hf le1;exact gY [(14,vF)]<|tM 3 [(15,vF)]<|yP iR
       · intro I1 hf le1;refine yN [15,16,19] rfl ?_;have H:=iS I1;refine vZ (vK at0 0 (W ((y1.length:Int) - 1)) _ hy1 ) ?_;intro I03 le2;have H:=H.trans le2;exact yP H
       · intro I1 hf le1;refine yN [15,20] rfl<|tM 9 [(21,.bool (!y3))] ?_;rw [hc1];exact yP iR
       · intro I1 hf le1;exact yN [15,21] rfl<|tM 10 [(22,vY)]<|yP iR
       intro I1 hf le1;exact gY [(22,vY)]<|tM 11 [(23,vY)]<|yP iR
     intro I04 le3;refine yN [1,2,6,32] rfl ?_;have H:=H.trans le3;exact yA rfl<|yQ<|zT (ct hM02 H)
    | false =>
     have hM03:=wB hc1 N;obtain ⟨x,hy2,N⟩:=zB hM03;obtain ⟨y4,hy3,N⟩:=zB N;obtain ⟨y5,hy4,N⟩:=zB N;refine wA [.p (.bool y2) [],.q vF,.q vF,.p (vI at0) [],.p (vS p3 y1 c2) [],.p (vI (y1.length:Int)) [],.p (vI (W ((y1.length:Int) - 1))) [],.q (.bool y3),.q vF,.q vF,.q vF,.p (vA (cProg p p1 c p2 c1)) [0],.p (vS p3 y1 c2) [],.p (vI at0) [],.x (ePInst x),.x (eVInst x),.x (eVStmt y4),.q (.bool y5),.p (.bool (!y5)) [],.p (.bool (!y5)) []] [[],[(0,false)],[(1,false)],[(2,false)],[(2,false)],[(2,false),(4,false)],[(2,false),(5,false)],[(2,false),(3,false),(6,false)],[(2,false),(7,false)],[(2,false),(8,false)],[(9,false)],[(10,false)],[(10,false)],[(10,false)],[(10,false),(12,false),(13,false)],[(10,false),(14,false)],[(10,false),(11,false),(15,false)],[(10,false),(16,false)],[(10,false),(17,false)],[(10,false),(18,false)]] [hB b (cProg p p1 c p2 c1)] [] [(19,false)] (zY [0]) ?_ ?_
     · refine Op<|Oq ?_<|Oq ?_<|Op<|Op<|Op<|Op<|Oq ?_<|Oq ?_<|Oq ?_<|Oq ?_<|Op<|Op<|Op<|Ox ?_<|Ox ?_<|Ox ?_<|Oq ?_<|Op<|Op<|On
       · intro I1 hf le1;refine yN [13] rfl<|tM 2 [(14,.bool (!y2))] ?_;rw [hc];exact yP iR
       · intro I1 hf le1;exact gY [(14,vF)]<|tM 3 [(15,vF)]<|yP iR
       · intro I1 hf le1;refine yN [15,16,19] rfl ?_;have H:=iS I1;refine vZ (vK at0 0 (W ((y1.length:Int) - 1)) _ hy1 ) ?_;intro I03 le2;have H:=H.trans le2;exact yP H
       · intro I1 hf le1;refine yN [15,20] rfl<|tM 9 [(21,.bool (!y3))] ?_;rw [hc1];exact yP iR
       · intro I1 hf le1;exact yN [15,21] rfl<|tM 10 [(22,vF)]<|yP iR
       · intro I1 hf le1;exact gY [(22,vF)]<|tM 11 [(23,vF)]<|yP iR
       · intro I1 hf le1;refine yN [23,25,26] rfl ?_;have h2:=h2.mono le1;refine xJ rfl rfl h2 hy2 ?_;intro ad ccs hat hrep;obtain ⟨p4,c3,rfl,h5⟩:=qF hrep;exact yI [] iR ⟨_,_,_,rfl,rfl,hat,h5⟩
       · rintro I1 hf le1 _ _ ⟨rfl,rfl⟩ _ _ ⟨ad,p4,c3,rfl,rfl,hat,h5⟩;exact yN [23,27] rfl<|yX 0 hat (cInst x p4 c3) (vA (cInst x p4 c3)) rfl<|yI [] iR ⟨_,_,rfl,rfl,h5⟩
       · rintro I1 hf le1 _ _ ⟨rfl,rfl⟩ _ _ ⟨rfl,rfl⟩ _ _ ⟨p41,c31,rfl,rfl,h51⟩;refine yN [23,24,28] rfl ?_;have H:=iS I1;have ⟨h,h1⟩:=m2 le1 h h1;refine xQ (gB p x _ hy3 h h1 h51) ?_;rintro I05 hs2 v2 k2 le4 - ⟨v04,rfl,rfl,⟨cs,rfl,h6⟩⟩ -;have H:=H.trans le4;obtain ⟨p5,c4,p6,c5,p7,c6,p8,c7,rfl,h7,h8,h9,h10⟩:=tG h6;exact yI [] H ⟨_,_,_,_,_,_,_,_,rfl,rfl,h7,h8,h9,h10⟩
       rintro I1 hf le1 _ _ ⟨rfl,rfl⟩ _ _ ⟨p5,c4,p6,c5,p7,c6,p8,c7,rfl,rfl,h7,h8,h9,h10⟩;refine yN [23,29] rfl ?_;have H:=iS I1;refine vZ (zBd y4 _ hy4 h7 h8 h9 h10) ?_;intro I06 le5;have H:=H.trans le5;exact yP H
     intro I07 le6;refine yN [1,2,6,32] rfl ?_;have H:=H.trans le6;exact yA rfl<|yQ<|zT (ct N H)
 intro t32 I01 le7 hMc;have ⟨h2,h,h1,H⟩:=m4 le7 h2 h h1 H;refine zI<|yE hMc ?_ ?_
 · intro hc2 N;refine yG [4,5] rfl<|xG<|zH ?_;obtain rfl:=zC N;exact xA ⟨_,_,(.tmp rfl (.tmp rfl ResV.nil)),zQ,⟨_,_,rfl,rfl,rfl,rfl⟩⟩
 intro hc2 N;refine zS<|zI<|yC ?_;obtain ⟨x1,hy5,N⟩:=zB N;obtain ⟨y6,hy6,N⟩:=zB N;refine wA [.p (vA (cProg p p1 c p2 c1)) [0],.p (vS p3 y1 c2) [],.p (vI at0) [],.x (ePInst x1),.x (eVInst x1),.x (eVStmt y6),.x (eVAccess y6.Write),.q (vT y6.Write.Array.l)] [[],[],[],[(1,false),(2,false)],[(3,false)],[(0,false),(4,false)],[(5,false)],[(6,false)]] [hB b (cProg p p1 c p2 c1)] [] [(7,false)] (zY [0]) ?_ ?_
 · refine Op<|Op<|Op<|Ox ?_<|Ox ?_<|Ox ?_<|Ox ?_<|Oq ?_<|On
   · intro I1 hf le1;refine yN [34,35] rfl ?_;have h2:=h2.mono le1;refine xJ rfl rfl h2 hy5 ?_;intro ad1 ccs1 hat1 hrep1;obtain ⟨p9,c8,rfl,h12⟩:=qF hrep1;exact yI [] iR ⟨_,_,_,rfl,rfl,hat1,h12⟩
   · rintro I1 hf le1 _ _ ⟨ad1,p9,c8,rfl,rfl,hat1,h12⟩;exact yN [36] rfl<|yX 0 hat1 (cInst x1 p9 c8) (vA (cInst x1 p9 c8)) rfl<|yI [] iR ⟨_,_,rfl,rfl,h12⟩
   · rintro I1 hf le1 _ _ ⟨rfl,rfl⟩ _ _ ⟨p91,c81,rfl,rfl,h121⟩;refine yN [33,37] rfl ?_;have H:=iS I1;have ⟨h,h1⟩:=m2 le1 h h1;refine xQ (gB p x1 _ hy6 h h1 h121) ?_;rintro I08 hs2 v2 k2 le8 - ⟨v011,rfl,rfl,⟨cs1,rfl,h13⟩⟩ -;have H:=H.trans le8;obtain ⟨p10,c9,p11,c10,p12,c11,p13,c12,rfl,h14,h15,h16,h17⟩:=tG h13;exact yI [] H ⟨_,_,_,_,_,_,_,_,rfl,rfl,h14,h15,h16,h17⟩
   · rintro I1 hf le1 _ _ ⟨p10,c9,p11,c10,p12,c11,p13,c12,rfl,rfl,h14,h15,h16,h17⟩;exact yN [38] rfl<|tM 7 [(39,vA (cAccess y6.Write p10 c9))]<|yI [] iR ⟨_,_,rfl,rfl,h14⟩
   rintro I1 hf le1 _ _ ⟨p101,c91,rfl,rfl,h141⟩;exact yN [39] rfl<|tM 8 [(40,vT y6.Write.Array.l)]<|yP iR
 intro I09 le9;refine yN [40] rfl ?_;refine yJ [] [4,5] rfl<|zI<|yW ?_;obtain rfl:=zC N;exact xA ⟨_,_,(.tmp rfl (.tmp rfl ResV.nil)),zQ,⟨_,_,rfl,rfl,rfl,rfl⟩⟩
end Go.LN
namespace Go.LN
open Go.Proofs
set_option maxRecDepth 20000
def zMn (a0:(List zV)) (b:(List zV)) (i:Int):Option (Out Unit (Bool)):=do
 if (decide (i < (a0.length:Int))) then
  let x←idx a0 i
  let x1←idx b i
  if (!(x.From == x1.From && (x.To == x1.To && x.Kinds == x1.Kinds))) then
   pure (.ret false)
  else
   zMn a0 b (W (i + 1))
 else
  pure (.done ())
 partial_fixpoint
theorem zMv (a0:(List zV)) (b:(List zV)):∀ (i:Int) (o:Out Unit (Bool)),zMn a0 b i=some o→∀ {B}{I0 I:Imm}{Q p c p1 c1},I0.le I→(S4 I p a0 c)→(S4 I p1 b c1)→NG Q→NO Q→(∀ (I':Imm) ,o=(.done ())→I0.le I'→T 26 B Q (.exit 0) I' [] [])→(∀ r I' hs' m',o=(.ret r)→I0.le I'→RS Tryz.prog Tryz.f29 B (zU  r) I' hs' m'→T 26 B Q .ret I' hs' m')→J Tryz.prog 26 B (nav (bodyOf Tryz.f29) [1,1,0,1,0]) Q I [] [(0,vS p a0 c),(1,vS p1 b c1),(5,vI i)]:=by
 refine zMn.partial_correctness a0 b _ fun self ih i o N B I0 I Q p c p1 c1 H h h1 hg ho hx hr=>yT hg ho<|yC<|yG [14] rfl<|zI<|yE N ?_ ?_
 · intro hc1 N;refine zS<|zZ<|yH<|yC<|kY (by kernel_rfl) (by kernel_rfl)<|fU 2 [] [17,18] rfl<|bE N fun x hy N=>dQ rfl rfl h hy ?_;intro ad ccs hat hrep;obtain rfl:=mQ hrep;refine eK 0 hat [vI x.From,vI x.To,vI x.Kinds] (vA [vI x.From,vI x.To,vI x.Kinds]) rfl<|fU 6 [] [21,22] rfl<|bE N fun x1 hy1 N=>dQ rfl rfl h1 hy1 ?_;intro ad1 ccs1 hat1 hrep1;obtain rfl:=mQ hrep1;refine eK 0 hat1 [vI x1.From,vI x1.To,vI x1.Kinds] (vA [vI x1.From,vI x1.To,vI x1.Kinds]) rfl<|zNQ (a:=x.From) (b:=x.To) (c:=x.Kinds) (a':=x1.From) (b':=x1.To) (c':=x1.Kinds) rfl<|zLx rfl<|zI<|yE N ?_ ?_
   · intro hc2 N;exact vJ [(4,vF)]<|xG<|zW<|zH<|zH<|hr _ _ _ _ (zC N).symm H ⟨_,_,(.tmp rfl ResV.nil),zQ,⟨_,rfl,rfl,rfl⟩⟩
   intro hc2 N;exact zS<|zP<|zI<|zK<|yJ [] [5] rfl<|yS<|nG<|ih (W (i + 1)) _ N H h h1 hg ho hx hr
 intro hc1 N;exact wT<|yQ<|hx _  (zC N).symm H
def zMp (a0:(List zV)) (b:(List zV)):Option (Bool):=do
 if ((a0.length:Int) != (b.length:Int)) then
  pure false
 else
  match←zMn a0 b 0 with
  | .ret r0=>pure r0
  | .done _ =>
   pure true
theorem zMz:∀ a0 b r,zMp a0 b=some r→∀ {I:Imm}{p c p1 c1},(S4 I p a0 c)→(S4 I p1 b c1)→RT 29 [vS p a0 c,vS p1 b c1] I [] (zU  r):=by
 intro a0 b r N I p c p1 c1 h h1;unfold zMp at N;refine yM Tryz.func29 fun B=>vJ []<|zZ<|yG [10] rfl<|zI<|yE N ?_ ?_
 · intro hc N;refine vJ [(4,vF)]<|xG<|zH ?_;obtain rfl:=zC N;exact wP
 intro hc N;refine zS<|zZ<|yG [5] rfl<|xZ<|pJ [(0,vS p a0 c),(1,vS p1 b c1),(5,vI 0)] ?_;obtain ⟨o0,ho0,hMl⟩:=zB N;refine zMv a0 b 0 o0 ho0 iR h h1 (fun _ _ _ h=>h) (fun _ _ h=>h) ?_ ?_
 · intro I0  heq le;subst o0;refine zR<|zF0 [(4,vY)]<|zI<|yW ?_;obtain rfl:=zC hMl;exact wP
 intro r0 I9 hs9 m9 heq9 le9 hrs9;subst heq9;refine zW<|zH ?_;obtain rfl:=zC hMl;exact xA hrs9
def zMl (y:zE) (y1:(List zV)) (y4:(List zV)) (at0:Int) (i:Int):Option (Out Int (Bool)):=do
 if (decide (i < (y4.length:Int))) then
  let x←idx y4 i
  let (y6,y7)←zMm y x.From
  let x1←idx y4 i
  let (y9,y10)←zMm y x1.To
  let t60←(do
    if y7 then
     if y10 then
      pure (y6.l == y9.l)
     else
      pure false
    else
     pure false
      : Option Bool)
  if t60 then
   zMl y y1 y4 at0 (W (i + 1))
  else
   let t75←(do
     if (decide (at0 ≥ (y1.length:Int))) then
      pure true
     else
      let x2←idx y1 at0
      let x3←idx y4 i
      pure (!(x2.From == x3.From && (x2.To == x3.To && x2.Kinds == x3.Kinds)))
       : Option Bool)
   if t75 then
    pure (.ret false)
   else
    zMl y y1 y4 (W (at0 + 1)) (W (i + 1))
 else
  pure (.done at0)
 partial_fixpoint
theorem zMs (y:zE) (y1:(List zV)) (y4:(List zV)):∀ (at0:Int) (i:Int) (o:Out Int (Bool)),zMl y y1 y4 at0 i=some o→∀ {B}{I0 I:Imm}{Q p1 c1 p2 c2}{b:Nat}{p3 c3 p5 c5},I0.le I→(S4 I p3 y1 c3)→(S4 I p5 y4 c5)→(S4 I p1 y.Arrays c1)→(S4 I p2 y.Parts c2)→NG Q→NO Q→(∀ (I':Imm) (at01:Int),o=(.done at01)→I0.le I'→T 82 B Q (.exit 0) I' [] [(4,vS p3 y1 c3),(6,vI at01)])→(∀ r I' hs' m',o=(.ret r)→I0.le I'→RS Tryz.prog Tryz.f6 B (zU  r) I' hs' m'→T 82 B Q .ret I' hs' m')→J Tryz.prog 82 B (nav (bodyOf Tryz.f6) [1,1,1,1,1,1,1,0,1,0]) Q I [hB b (cProg y p1 c1 p2 c2)] [(3,vP b 0),(4,vS p3 y1 c3),(5,vS p5 y4 c5),(6,vI at0),(7,vI i)]:=by
 refine zMl.partial_correctness y y1 y4 _ fun self ih at0 i o N B I0 I Q p1 c1 p2 c2 b p3 c3 p5 c5 H h4 h7 h2 h3 hg ho hx hr=>yT hg ho<|yC<|yG [29] rfl<|zI<|yE N ?_ ?_
 · intro hc2 N;refine zS<|zZ<|yH<|yC ?_;obtain ⟨x,hy5,N⟩:=zB N;obtain ⟨⟨y6,y7⟩,hy6,N⟩:=zB N;refine wA [.p (vA (cProg y p1 c1 p2 c2)) [0],.p (vS p5 y4 c5) [],.p (vI i) [],.x (fun I' v hx=>∃ ad,v=.pointer (some ad)∧hx=[]∧(At I' ad [vI x.From,vI x.To,vI x.Kinds])),.x (fun I' v hx=>∃ ad1,v=.pointer (some ad1)∧hx=[]∧(At I' ad1 [vI x.From,vI x.To,vI x.Kinds])),.q (vI x.From),.q (.tuple ⟨[vT y6.l,.bool y7]⟩),.p (.tuple ⟨[vT y6.l,.bool y7]⟩) [],.p (vT y6.l) [],.p (.bool y7) [],.p (vT y6.l) []] [[],[],[],[(1,false),(2,false)],[(3,false)],[(4,false)],[(0,false),(5,false)],[(6,false)],[(7,false)],[(7,false)],[(8,false)]] [hB b (cProg y p1 c1 p2 c2)] [] [(9,false),(10,false)] (zY [0]) ?_ ?_
   · refine Op<|Op<|Op<|Ox ?_<|Ox ?_<|Oq ?_<|Oq ?_<|Op<|Op<|Op<|Op<|On
     · intro I1 hf le1;refine yN [34,35] rfl ?_;have h7:=h7.mono le1;refine xJ rfl rfl h7 hy5 ?_;intro ad ccs hat hrep;obtain rfl:=mQ hrep;exact yI [] iR ⟨_,rfl,rfl,hat⟩
     · rintro I1 hf le1 _ _ ⟨ad,rfl,rfl,hat⟩;exact yN [36] rfl<|tM 5 [(37,.pointer (some ad))]<|yI [] iR ⟨_,rfl,rfl,hat⟩
     · rintro I1 hf le1 _ _ ⟨ad1,rfl,rfl,hat1⟩;exact yN [37] rfl<|yX 0 hat1 [vI x.From] (vI x.From) rfl<|yP iR
     intro I1 hf le1;refine yN [33,38] rfl ?_;have H:=iS I1;have ⟨h2,h3⟩:=m2 le1 h2 h3;refine xQ (zMq y x.From _ hy6 h2 h3) ?_;rintro I05 hs2 v2 k2 le5 - ⟨v07,v08,rfl,rfl,rfl,rfl⟩ -;have H:=H.trans le5;exact yP H
   intro I06 le6;refine yN [3,4,5,6,7,8,41] rfl ?_;have ⟨h4,h7,h2,h3,H⟩:=m5 le6 h4 h7 h2 h3 H;refine yJ [] [9] rfl<|zI<|yC ?_;obtain ⟨x1,hy7,N⟩:=zB N;obtain ⟨⟨y9,y10⟩,hy8,N⟩:=zB N;refine wA [.p (vA (cProg y p1 c1 p2 c2)) [0],.p (vS p5 y4 c5) [],.p (vI i) [],.x (fun I' v hx=>∃ ad2,v=.pointer (some ad2)∧hx=[]∧(At I' ad2 [vI x1.From,vI x1.To,vI x1.Kinds])),.x (fun I' v hx=>∃ ad21,v=.pointer (some (ad21.add 1))∧hx=[]∧(At I' ad21 [vI x1.From,vI x1.To,vI x1.Kinds])),.q (vI x1.To),.q (.tuple ⟨[vT y9.l,.bool y10]⟩),.p (.tuple ⟨[vT y9.l,.bool y10]⟩) [],.p (vT y9.l) [],.p (.bool y10) [],.p (vT y9.l) []] [[],[],[],[(1,false),(2,false)],[(3,false)],[(4,false)],[(0,false),(5,false)],[(6,false)],[(7,false)],[(7,false)],[(8,false)]] [hB b (cProg y p1 c1 p2 c2)] [] [(9,false),(10,false)] (zY [0]) ?_ ?_
   · refine Op<|Op<|Op<|Ox ?_<|Ox ?_<|Oq ?_<|Oq ?_<|Op<|Op<|Op<|Op<|On
     · intro I1 hf le1;refine yN [44,45] rfl ?_;have h7:=h7.mono le1;refine xJ rfl rfl h7 hy7 ?_;intro ad2 ccs1 hat2 hrep1;obtain rfl:=mQ hrep1;exact yI [] iR ⟨_,rfl,rfl,hat2⟩
     · rintro I1 hf le1 _ _ ⟨ad2,rfl,rfl,hat2⟩;exact yN [46] rfl<|tM 5 [(47,.pointer (some (ad2.add 1)))]<|yI [] iR ⟨_,rfl,rfl,hat2⟩
     · rintro I1 hf le1 _ _ ⟨ad21,rfl,rfl,hat21⟩;exact yN [47] rfl<|yX 1 hat21 [vI x1.To] (vI x1.To) rfl<|yP iR
     intro I1 hf le1;refine yN [43,48] rfl ?_;have H:=iS I1;have ⟨h2,h3⟩:=m2 le1 h2 h3;refine xQ (zMq y x1.To _ hy8 h2 h3) ?_;rintro I07 hs2 v2 k2 le7 - ⟨v09,v010,rfl,rfl,rfl,rfl⟩ -;have H:=H.trans le7;exact yP H
   intro I08 le8;refine yN [3,4,5,6,7,8,9,10,51] rfl ?_;have ⟨h4,h7,h2,h3,H⟩:=m5 le8 h4 h7 h2 h3 H;refine yJ [] [11] rfl<|zZ<|yC ?_;refine wE N [hB b (cProg y p1 c1 p2 c2)] (fun t60=>[(3,vP b 0),(4,vS p3 y1 c3),(5,vS p5 y4 c5),(6,vI at0),(7,vI i),(60,.bool t60)]) (fun o0 ho0=>?_) ?_
   · have H:=iS I08;refine zK<|yB 2 [] [53] rfl<|xW [53] ho0 ?_ ?_
     · intro hc3 N;refine yB 5 [] [56] rfl<|xW [56] N ?_ ?_
       · intro hc4 N;exact yJ [] [60] rfl<|yQ<|zT (ct N H)
       intro hc4 N;exact wG [] [(60,vF)]<|yQ<|zT (ct N H)
     intro hc3 N;exact wG [] [(60,vF)]<|yQ<|zT (ct N H)
   intro t60 I09 le9 hMc;have ⟨h4,h7,h2,h3,H⟩:=m5 le9 h4 h7 h2 h3 H;refine zI<|yE hMc ?_ ?_
   · intro hc5 N;exact zGB<|jV<|zR<|zI<|zK<|yJ [] [7] rfl<|yS<|nG<|ih at0 (W (i + 1)) _ N H h4 h7 h2 h3 hg ho hx hr
   intro hc5 N;refine zS<|zZ<|yC ?_;refine wE N [hB b (cProg y p1 c1 p2 c2)] (fun t75=>[(3,vP b 0),(4,vS p3 y1 c3),(5,vS p5 y4 c5),(6,vI at0),(7,vI i),(75,.bool t75)]) (fun o01 ho01=>?_) ?_
   · have H:=iS I09;refine kY (by kernel_rfl) (by kernel_rfl)<|fU 5 [] [65] rfl<|zFV [65] ho01 ?_ ?_
     · intro hc6 N;exact zIT [] [(75,vY)]<|yQ<|zT (ct N H)
     intro hc6 N;refine fU 7 [] [66,67] rfl<|bE N fun x2 hy9 N=>dQ rfl rfl h4 hy9 ?_;intro ad3 ccs2 hat3 hrep2;obtain rfl:=mQ hrep2;refine eK 0 hat3 [vI x2.From,vI x2.To,vI x2.Kinds] (vA [vI x2.From,vI x2.To,vI x2.Kinds]) rfl<|fU 11 [] [70,71] rfl<|bE N fun x3 hy10 N=>dQ rfl rfl h7 hy10 ?_;intro ad4 ccs3 hat4 hrep3;obtain rfl:=mQ hrep3;exact eK 0 hat4 [vI x3.From,vI x3.To,vI x3.Kinds] (vA [vI x3.From,vI x3.To,vI x3.Kinds]) rfl<|zNQ (a:=x2.From) (b:=x2.To) (c:=x2.Kinds) (a':=x3.From) (b':=x3.To) (c':=x3.Kinds) rfl<|zGy [] [75] rfl<|yQ<|zT (ct N H)
   intro t75 I010 le10 hMc1;have ⟨h4,h7,h2,h3,H⟩:=m5 le10 h4 h7 h2 h3 H;refine zI<|yE hMc1 ?_ ?_
   · intro hc7 N;exact vJ [(2,vF)]<|xG<|zH<|zW<|zH<|zH<|hr _ _ _ _ (zC N).symm H ⟨_,_,(.tmp rfl ResV.nil),zQ,⟨_,rfl,rfl,rfl⟩⟩
   intro hc7 N;exact zS<|zI<|zK<|yJ [] [6] rfl<|zP<|zI<|zK<|yJ [] [7] rfl<|yS<|nG<|ih (W (at0 + 1)) (W (i + 1)) _ N H h4 h7 h2 h3 hg ho hx hr
 intro hc2 N;exact wT<|xT zQ<|yQ<|hx _ _ (zC N).symm H
def zMo (code:(List UInt8)):Option (Bool):=do
 if (decide ((code.length:Int) > 1048576)) then
  pure true
 else
  let y←eN code
  let y1←zA9 y
  let y2←zAa y
  let y3←zMp y1 y2
  if (!y3) then
   pure false
  else
   let y4←jI y
   match←zMl y y1 y4 0 0 with
   | .ret r0=>pure r0
   | .done at01 =>
    pure (at01 == (y1.length:Int))
theorem zMt:∀ code r,zMo code=some r→∀ {I:Imm}{p c},(S4 I p code c)→RT 6 [vS p code c] I [] (zU  r):=by
 intro code r N I p c h;unfold zMo at N;refine yM Tryz.func6 fun B=>vJ []<|zZ<|yG [14] rfl<|zI<|yE N ?_ ?_
 · intro hc N;refine vJ [(2,vY)]<|xG<|zH ?_;obtain rfl:=zC N;exact wP
 intro hc N;refine zS<|yV<|yB 1 [] [15] rfl<|bE N fun y hy N=>xQ (zHq code _ hy h) ?_;rintro I0 hs2 v2 k2 le - ⟨v0,rfl,rfl,⟨cs,rfl,h1⟩⟩ -;obtain ⟨p1,c1,p2,c2,rfl,h2,h3⟩:=nW h1;refine wH zTwo ?_;intro b hb;refine xI 0 (cProg y p1 c1 p2 c2) rfl<|yA rfl<|yV<|fW 1 [0] [(17,vA (cProg y p1 c1 p2 c2))]<|bE N fun y1 hy1 N=>xQ (zJK y _ hy1 h2 h3) ?_;rintro I01 hs2 v2 k2 le1 - ⟨v03,rfl,rfl,h4⟩ -;have ⟨h2,h3⟩:=m2 le1 h2 h3;obtain ⟨p3,c3,rfl⟩:=h4.form;refine yJ [] [4] rfl<|zZ<|yF<|fW 2 [0] [(19,vS p3 y1 c3),(20,vA (cProg y p1 c1 p2 c2))]<|bE N fun y2 hy2 N=>xQ (zJL y _ hy2 h2 h3) ?_;rintro I02 hs2 v2 k2 le2 - ⟨v04,rfl,rfl,h5⟩ -;have ⟨h4,h2,h3⟩:=m3 le2 h4 h2 h3;obtain ⟨p4,c4,rfl⟩:=h5.form;obtain ⟨y3,hy3,N⟩:=zB N;refine vZ (zMz y1 y2 _ hy3 h4 h5) ?_;intro I03 le3;have ⟨h4,h2,h3⟩:=m3 le3 h4 h2 h3;refine yJ [] [23] rfl<|zI<|yE N ?_ ?_
 · intro hc1 N;refine vJ [(2,vF)]<|xG<|zH ?_;obtain rfl:=zC N;exact wP
 intro hc1 N;refine zS<|yV<|fW 1 [0] [(24,vA (cProg y p1 c1 p2 c2))]<|bE N fun y4 hy4 N=>xQ (zIx y _ hy4 h2 h3) ?_;rintro I04 hs2 v2 k2 le4 - ⟨v06,rfl,rfl,h7⟩ -;have ⟨h4,h2,h3⟩:=m3 le4 h4 h2 h3;obtain ⟨p5,c5,rfl⟩:=h7.form;refine yJ [] [5] rfl<|vG [6] rfl<|zZ<|yG [7] rfl<|xZ<|pJ [(3,vP b 0),(4,vS p3 y1 c3),(5,vS p5 y4 c5),(6,vI 0),(7,vI 0)] ?_;obtain ⟨o02,ho02,hMl⟩:=zB N;refine zMs y y1 y4 0 0 o02 ho02 iR h4 h7 h2 h3 (fun _ _ _ h=>h) (fun _ _ h=>h) ?_ ?_
 · intro I011 at01 heq2 le11;subst o02;refine zR<|vG [2] rfl<|zI<|yW ?_;obtain rfl:=zC hMl;exact wP
 intro r0 I9 hs9 m9 heq9 le9 hrs9;subst heq9;refine zW<|zH ?_;obtain rfl:=zC hMl;exact xA hrs9
end Go.LN
namespace Go.LN
theorem zNH (l:List zV) (h:l.length ≤ 1048576):zMp l l=some true:=by
  unfold zMp;have hl:=eJ (n:=l.length) (f:=zMn l l) (P:=fun _=>true) (fun i hi=>by
      rw [zMn];have h1:((i:Int) < (l.length:Int)):=by omega
      simp only [h1,dT,if_true,yZ hi,oB,oS,bQ,Bool.and_self,bT,bF,if_false];rw [tE (by omega)]) (by rw [zMn]; simp)
  rw [hl];have:((List.range l.length).all fun _=>true)=true:=by simp
  simp [this]
end Go.LN
namespace Go.LN
end Go.LN
namespace Go.LN
end Go.LN
namespace Go.LN
theorem AV.bl {a:zJ} (h:AV a):BL a.Subs:=⟨by have:=h.2.1; omega,fun s hs=>by have:=h.2.2 s hs; unfold BA; omega⟩
end Go.LN
namespace Go.LN
end Go.LN
namespace Go.LN
def eqL {α:Type} (q:α→α→Bool):List α→List α→Bool
  | [],[]=>true
  | x::a,y::b=>q x y && eqL q a b
  | _,_=>false
theorem zMy {α:Type}{a b:List α} (hl:a.length=b.length) {q:α→α→Bool}{f:Int→Option (Out Unit Bool)} (step:∀ (i:Nat) (h1:i < a.length) (h2:i < b.length),f (i:Int)=if q a[i] b[i] then f ((i + 1:Nat):Int) else some (.ret false)) (fin:f (a.length:Int)=some (.done ())):f 0=some (if eqL q a b then .done () else .ret false):=by
  have key:∀ (j i:Nat),i + j=a.length→f (i:Int)=some (if eqL q (a.drop i) (b.drop i) then .done () else .ret false):=by
    intro j
    induction j with
    | zero =>
      intro i hi;rw [show i=a.length by omega,fin,dN.2 (Nat.le_refl a.length),dN.2 (show b.length ≤ a.length by omega)]; rfl
    | succ j ih =>
      intro i hi;have h1:i < a.length:=by omega
      have h2:i < b.length:=by omega
      rw [step i h1 h2,ih (i + 1) (by omega),gC h1,gC h2,eqL];cases q a[i] b[i] <;> rfl
  have:=key a.length 0 (Nat.zero_add _);rwa [nZ,List.drop_zero,List.drop_zero] at this
theorem zMw {α:Type}{q:α→α→Bool}:∀ {a b:List α},a.length ≠ b.length→eqL q a b=false
  | [],[],h=>absurd rfl h
  | [],_::_,_=>rfl
  | _::_,[],_=>rfl
  | x::a,y::b,h=>by rw [eqL,zMw (by simpa using h),Bool.and_false]
def eqI (a b:List Int):Bool:=eqL (fun x y=>x == y) a b
theorem implEqI (a b:List Int) (h:a.length ≤ 1048576):jE a b=some (eqI a b):=by
  unfold jE eqI;by_cases hl:a.length=b.length
  · have hf:=zMy (q:=fun x y=>x == y) hl (f:=pK a b) (fun i h1 h2=>by
      rw [pK];have c:((i:Int) < (a.length:Int)):=by omega
      simp only [c,dT,if_true,yZ h1,yZ h2,oB,oS,oP];rw [tE (by omega)];by_cases e:a[i]=b[i]
      · simp [e]
      · simp [e]) (by rw [pK]; simp)
    have e:((a.length:Int) != (b.length:Int))=false:=by simp [hl]
    rw [hf,e];cases eqL (fun x y=>x == y) a b <;> rfl
  · have e:((a.length:Int) != (b.length:Int))=true:=by simp; omega
    rw [e,zMw hl]; rfl
theorem specEqI (a b:List Int) (h:a.length ≤ 1048576):zAn a b=some (eqI a b):=by
  unfold zAn eqI;by_cases hl:a.length=b.length
  · have hf:=zMy (q:=fun x y=>x == y) hl (f:=gW a b) (fun i h1 h2=>by
      rw [gW];have c:((i:Int) < (a.length:Int)):=by omega
      simp only [c,dT,if_true,yZ h1,yZ h2,oB,oS,oP];rw [tE (by omega)];by_cases e:a[i]=b[i]
      · simp [e]
      · simp [e]) (by rw [gW]; simp)
    have e:((a.length:Int) != (b.length:Int))=false:=by simp [hl]
    rw [hf,e];cases eqL (fun x y=>x == y) a b <;> rfl
  · have e:((a.length:Int) != (b.length:Int))=true:=by simp; omega
    rw [e,zMw hl]; rfl
def afB (x y:zA):Bool:=eqI x.Coefs y.Coefs && x.Const == y.Const
theorem implAff (x y:zA) (h:x.Coefs.length ≤ 1048576):mJ x y=some (afB x y):=by
  unfold mJ afB;rw [implEqI _ _ h];cases eqI x.Coefs y.Coefs <;> rfl
theorem specAff (x y:zA) (h:x.Coefs.length ≤ 1048576):eG x y=some (afB x y):=by
  unfold eG afB;rw [specEqI _ _ h];cases eqI x.Coefs y.Coefs <;> cases x.Const == y.Const <;> rfl
def acB (a b:zJ):Bool:=a.Array.l == b.Array.l && eqL afB a.Subs b.Subs
theorem implAcS (a b:zJ) (ha:AV a):jT a b=some (acB a b):=by
  unfold jT acB;cases a.Array.l == b.Array.l with
  | false=>rfl
  | true =>
    have h2:=ha.2.1;unfold xU;by_cases hl:a.Subs.length=b.Subs.length
    · have hf:=zMy (q:=afB) hl (f:=xF a.Subs b.Subs mJ) (fun i h1 h2=>by
        rw [xF];have c:((i:Int) < (a.Subs.length:Int)):=by omega
        have hc:=ha.2.2 _ (gM h1);simp only [c,dT,if_true,yZ h1,yZ h2,implAff _ _ (show a.Subs[i].Coefs.length ≤ 1048576 by omega),oB,oS,oP];rw [tE (by omega)];cases afB a.Subs[i] b.Subs[i] <;> rfl) (by rw [xF]; simp)
      have e:((a.Subs.length:Int) != (b.Subs.length:Int))=false:=by simp [hl]
      rw [hf,e];cases eqL afB a.Subs b.Subs <;> rfl
    · have e:((a.Subs.length:Int) != (b.Subs.length:Int))=true:=by simp; omega
      rw [e,zMw hl]; rfl
theorem specAcS (a b:zJ) (ha:AV a):fB a b=some (acB a b):=by
  unfold fB acB;cases a.Array.l == b.Array.l with
  | false=>rfl
  | true =>
    have h2:=ha.2.1;unfold eH;by_cases hl:a.Subs.length=b.Subs.length
    · have hf:=zMy (q:=afB) hl (f:=mM a.Subs b.Subs) (fun i h1 h2=>by
        rw [mM];have c:((i:Int) < (a.Subs.length:Int)):=by omega
        have hc:=ha.2.2 _ (gM h1);simp only [c,dT,if_true,yZ h1,yZ h2,specAff _ _ (show a.Subs[i].Coefs.length ≤ 1048576 by omega),oB,oS,oP];rw [tE (by omega)];cases afB a.Subs[i] b.Subs[i] <;> rfl) (by rw [mM]; simp)
      have e:((a.Subs.length:Int) != (b.Subs.length:Int))=false:=by simp [hl]
      rw [hf,e];cases eqL afB a.Subs b.Subs <;> rfl
    · have e:((a.Subs.length:Int) != (b.Subs.length:Int))=true:=by simp; omega
      rw [e,zMw hl]; rfl
def usB (n:Nat) (e:zG) (l:List UInt8):Bool:=(readsF n e).any fun a=>a.Array.l == l
theorem specUs {d:Int}:∀ (n:Nat) (e:zG) (nm:Str),shapeB d n e=true→gQ e nm=some (usB n e nm.l)
  | 0,e,nm,h=>by cases h
  | n + 1,e,nm,h=>by
    rw [gQ]
    unfold usB
    rw [readsF]
    obtain ⟨h1,h2⟩:=eY h
    by_cases h3:e.Kind=3
    · have e3:(e.Kind == 3)=true:=by simpa using h3
      have hk:=(zGp h h3).1
      have hl:eI e nm 0=some (.done ()):=by rw [eI]; simp [hk]
      rw [if_pos h3]
      simp only [e3,if_true,same,hl,oB,oS,oP,List.any_cons,List.any_nil,Bool.or_false]
      cases e.Read.Array.l == nm.l <;> rfl
    · have e3:(e.Kind == 3)=false:=by simpa using h3
      rw [if_neg h3]
      simp only [e3,bF,if_false,same,oB,oS,oP]
      rcases h1 with hk | ⟨a,b,hk⟩
      · have hl:eI e nm 0=some (.done ()):=by rw [eI]; simp [hk]
        rw [hl,hk]; rfl
      · have ra:=specUs n a nm (h2 a (by rw [hk]; simp))
        have rb:=specUs n b nm (h2 b (by rw [hk]; simp))
        have l0:((0:Int) < (e.Kids.length:Int)):=by rw [hk]; simp
        have l1:((1:Int) < (e.Kids.length:Int)):=by rw [hk]; simp
        have l2:¬((2:Int) < (e.Kids.length:Int)):=by rw [hk]; simp
        have i0:idx e.Kids 0=some a:=by rw [hk]; rfl
        have i1:idx e.Kids 1=some b:=by rw [hk]; rfl
        have w0:W ((0:Int) + 1)=1:=by rw [rU (by omega) (by omega)]; rfl
        have w1:W ((1:Int) + 1)=2:=by rw [rU (by omega) (by omega)]; rfl
        have f2:eI e nm 2=some (.done ()):=by rw [eI]; simp only [l2,dF,bF,if_false,oP]
        have f1:eI e nm 1=some (if usB n b nm.l then .ret true else .done ()):=by
          rw [eI]
          simp only [l1,dT,if_true,i1,same,rb,w1,f2,oB,oS,oP]
          cases usB n b nm.l <;> rfl
        have f0:eI e nm 0=some (if usB n a nm.l || usB n b nm.l then .ret true else .done ()):=by
          rw [eI]
          simp only [l0,dT,if_true,i0,same,ra,w0,f1,oB,oS,oP]
          cases usB n a nm.l <;> rfl
        have eu:(e.Kids.flatMap (readsF n)).any (fun x=>x.Array.l == nm.l)=(usB n a nm.l || usB n b nm.l):=by
          rw [hk]
          unfold usB
          simp
        rw [f0,eu]
        cases usB n a nm.l <;> cases usB n b nm.l <;> rfl
def redB (s:zN):Bool:=match s.Value.Kids with
  | [x,y]=>(s.Value.Kind == 4 || s.Value.Kind == 5) && (x.Kind == 3 && (acB x.Read s.Write && !usB 4 y s.Write.Array.l))
  | _=>false
theorem implRed (s:zN) {d:Int} (hs:stmtB s d=true):fZ s=some (redB s):=by
  obtain ⟨s1,s2,s3⟩:=zB8 hs;unfold fZ redB;rcases zMY s2 with hk | ⟨hk,x,y,hxy⟩
  · have h4:(s.Value.Kind != 4)=true:=by simp; omega
    have h5:(s.Value.Kind != 5)=true:=by simp; omega
    have hn:s.Value.Kids=[]:=by
      rcases (eY s2).1 with h | ⟨a,b,h⟩
      · exact h
      · have h0:=s2;simp only [shapeB,bA] at h0;have h1:=eq_of_beq h0.1.1;unfold kidsN at h1;rw [if_pos hk,h] at h1;simp at h1
    rw [hn];simp [h4,h5]
  · have h2:=(eY s2).2;rw [hxy] at h2 ⊢;have sx:=h2 x (by simp);have sy:=h2 y (by simp);have i0:idx [x,y] 0=some x:=rfl;have i1:idx [x,y] 1=some y:=rfl;have hr:=implReads 4 y sy (by omega);have hlen:=jJ 4 y sy;have hc:=zHx (f:=fun x0=>kO x0 s) (p:=fun a=>a.Array.l == s.Write.Array.l) (readsF 4 y) (fun a ha=>rfl) (by omega);have hu:(readsF 4 y).any (fun a=>a.Array.l == s.Write.Array.l)=usB 4 y s.Write.Array.l:=rfl;rw [hu] at hc;dsimp only;by_cases k3:x.Kind=3
    · have hx:=AV.of (zGp sx k3).2;have e3:(x.Kind != 3)=false:=by simpa using k3
      have e3':(x.Kind == 3)=true:=by simpa using k3
      by_cases k4:s.Value.Kind=4
      · have e4:(s.Value.Kind != 4)=false:=by simpa using k4
        have e4':(s.Value.Kind == 4)=true:=by simpa using k4
        simp only [e4,e4',e3,e3',bF,if_false,i0,i1,implAcS x.Read s.Write hx,hr,hc,oB,oS,oP,Bool.true_or,Bool.true_and];cases acB x.Read s.Write <;> rfl
      · have e4:(s.Value.Kind != 4)=true:=by simpa using k4
        have e4':(s.Value.Kind == 4)=false:=by simpa using k4
        by_cases k5:s.Value.Kind=5
        · have e5:(s.Value.Kind != 5)=false:=by simpa using k5
          have e5':(s.Value.Kind == 5)=true:=by simpa using k5
          simp only [e4,e4',e5,e5',e3,e3',bF,if_false,if_true,i0,i1,implAcS x.Read s.Write hx,hr,hc,oB,oS,oP,Bool.or_true,Bool.true_and];cases acB x.Read s.Write <;> rfl
        · have e5:(s.Value.Kind != 5)=true:=by simpa using k5
          have e5':(s.Value.Kind == 5)=false:=by simpa using k5
          simp only [e4,e4',e5,e5',if_true,oB,oS,oP,Bool.or_self,Bool.false_and]
    · have e3:(x.Kind != 3)=true:=by simpa using k3
      have e3':(x.Kind == 3)=false:=by simpa using k3
      by_cases k4:s.Value.Kind=4
      · have e4:(s.Value.Kind != 4)=false:=by simpa using k4
        simp only [e4,e3,e3',bF,if_false,if_true,i0,oB,oS,oP,Bool.false_and,Bool.and_false]
      · have e4:(s.Value.Kind != 4)=true:=by simpa using k4
        by_cases k5:s.Value.Kind=5
        · have e5:(s.Value.Kind != 5)=false:=by simpa using k5
          simp only [e4,e5,e3,e3',bF,if_false,if_true,i0,oB,oS,oP,Bool.false_and,Bool.and_false]
        · have e5:(s.Value.Kind != 5)=true:=by simpa using k5
          simp only [e4,e5,e3',if_true,oB,oS,oP,Bool.false_and,Bool.and_false]
theorem specRed (s:zN) {d:Int} (hs:stmtB s d=true):zB5 s=some (redB s):=by
  obtain ⟨s1,s2,s3⟩:=zB8 hs;unfold zB5 redB;rcases zMY s2 with hk | ⟨hk,x,y,hxy⟩
  · have h4:(s.Value.Kind != 4)=true:=by simp; omega
    have h5:(s.Value.Kind != 5)=true:=by simp; omega
    have hn:s.Value.Kids=[]:=by
      rcases (eY s2).1 with h | ⟨a,b,h⟩
      · exact h
      · have h0:=s2;simp only [shapeB,bA] at h0;have h1:=eq_of_beq h0.1.1;unfold kidsN at h1;rw [if_pos hk,h] at h1;simp at h1
    rw [hn];simp [h4,h5]
  · have h2:=(eY s2).2;rw [hxy] at h2 ⊢;have sx:=h2 x (by simp);have sy:=h2 y (by simp);have i0:idx [x,y] 0=some x:=rfl;have i1:idx [x,y] 1=some y:=rfl;have hu:=specUs 4 y s.Write.Array sy;dsimp only;have hT:(if (s.Value.Kind != 4)=true then some (s.Value.Kind != 5) else some false)=some (!(s.Value.Kind == 4 || s.Value.Kind == 5)):=by
      unfold bne;cases s.Value.Kind == 4 <;> rfl
    simp only [oP,oB,hT,oS];cases (s.Value.Kind == 4 || s.Value.Kind == 5) with
    | false=>rfl
    | true =>
      simp only [bT,bF,if_false,i0,i1,oS,Bool.true_and];by_cases k3:x.Kind=3
      · have hx:=AV.of (zGp sx k3).2;have e3':(x.Kind == 3)=true:=by simpa using k3
        simp only [e3',if_true,specAcS x.Read s.Write hx,hu,oS,Bool.true_and];cases acB x.Read s.Write <;> rfl
      · have e3':(x.Kind == 3)=false:=by simpa using k3
        simp only [e3',bF,if_false,Bool.false_and];rfl
def namF (P:zE) (z:zO):Str:=if redB (stI P z) then (stI P z).Write.Array else ⟨[]⟩
theorem zNJ {P:zE} (hb:BG P) (hv:validP P=true):∀ (j i:Nat) (o:List Str),i + j=(progI P).length→o.length=i→jH P (progI P) o (i:Int)=some (o ++ ((progI P).drop i).map (namF P)):=by
  have hlen:=(fT hv).2.2.2;intro j
  induction j with
  | zero =>
    intro i o hi ho;rw [jH];have:¬((i:Int) < ((progI P).length:Int)):=by omega
    simp only [this,dF,bF,if_false,oP,id];rw [dN.2 (by omega)]; simp
  | succ j ih =>
    intro i o hi ho;rw [jH];have hlt:i < (progI P).length:=by omega
    have hc:((i:Int) < ((progI P).length:Int)):=by omega
    have hz:=zIE hb hv (gM hlt);obtain ⟨d,hd⟩:=hz.st;rw [gC hlt,List.map_cons];simp only [hc,dT,if_true,yZ hlt,hz.idxP,hz.idxS,specRed _ hd,oB,oS,oP];have en:(if redB (stI P (progI P)[i])=true then some (stI P (progI P)[i]).Write.Array else some (⟨[]⟩:Str))=some (namF P (progI P)[i]):=by
      unfold namF;cases redB (stI P (progI P)[i]) <;> rfl
    rw [en,tE (by omega)];simp only [oS,oT (show (o.length + [namF P (progI P)[i]].length) * 16 ≤ 140737488355328 by simp; omega)];rw [ih (i + 1) _ (by omega) (by rw [lA]; simp; omega),List.append_assoc]; rfl
def rgF (P:zE) (k:Int):Str×Bool:=if validP P=true∧0 ≤ k∧k < ((progI P).length:Int) then (if redB (stI P (zIns P k.toNat)) then ((stI P (zIns P k.toNat)).Write.Array,true) else (⟨[]⟩,false)) else (⟨[]⟩,false)
theorem implRG (P:zE) (hb:BG P) (k:Int):zMm P k=some (rgF P k):=by
  unfold zMm rgF;rw [implInstances P hb];cases hv:validP P with
  | false =>
    have e0:∀ x y:Str×Bool,(if false=true∧0 ≤ k∧k < ((progI P).length:Int) then x else y)=y:=fun x y=>if_neg fun h=>by cases h.1
    rw [e0];unfold validP at hv;cases hp:progB P with
    | false=>simp
    | true =>
      rw [hp,Bool.true_and] at hv;simp [hv]
  | true =>
    have hlen:=(fT hv).2.2.2;have hp:progB P=true:=by unfold validP at hv; rw [bA] at hv; exact hv.1
    have hW:W (((progI P).length:Int) - 1)=((progI P).length:Int) - 1:=by rw [rU (by omega) (by omega)]
    simp only [hp,if_true,hlen,dT,bT,bF,if_false,mD,hW,true_and,oB,oS,oP];by_cases h:0 ≤ k∧k < ((progI P).length:Int)
    · rw [if_pos h];obtain ⟨m,rfl⟩:∃ m:Nat,k=(m:Int):=⟨k.toNat,by omega⟩;have hm:m < (progI P).length:=by omega
      have hz:=zIE hb hv (gM hm);obtain ⟨d,hd⟩:=hz.st;have e1:(0:Int) ≤ (m:Int):=by omega
      have e2:(m:Int) ≤ ((progI P).length:Int) - 1:=by omega
      unfold pC;simp only [e1,e2,dT,Bool.and_self,bT,bF,if_false,yZ hm,hz.idxP,hz.idxS,implRed _ hd,oB,oS,oP,id,iN,zIF hm];cases redB (stI P (progI P)[m]) <;> rfl
    · rw [if_neg h];have e4:(!(decide (0 ≤ k) && decide (k ≤ ((progI P).length:Int) - 1)))=true:=by simp; omega
      simp only [e4,if_true,oS]
instance zNC (r:zL):Tot (zAO r) (0 ≤ r.p∧r.p ≤ 30000000) (fun φ=>∀ a s,SG 1000 a→r.p ≤ s.p→s.p ≤ r.p + 4000000→φ (a,s)):=⟨by
  rintro ⟨h0,h1⟩ φ hk
  unfold zAO
  refine Ok.call (zAA r _) ⟨by decide,h0,by omega⟩ fun y s g1 g2=>?_
  have hy:y.l.length ≤ 1000:=by
    revert g1 y
    decide
  refine Ok.cat (by simp; omega) fun t _ ht=>?_
  simp only [List.length_cons,List.length_nil] at ht
  refine Ok.call (zFL t) (by omega) fun p b hp=>?_
  refine Ok.bind (φ:=fun o=>r.p ≤ o.2.p∧o.2.p ≤ r.p + 2) ?_ ?_
  · exact Ok.ite (fun _=>Ok.call (fO s 3) ⟨by omega,by omega⟩ fun y u k1 k2 k3=>Ok.pure ⟨by dsimp only; omega,by dsimp only; omega⟩) fun _=>Ok.pure ⟨by dsimp only; omega,by dsimp only; omega⟩
  rintro ⟨z,u⟩ ⟨g3,g4⟩
  dsimp only at g3 g4 ⊢
  refine Ok.ite (fun _=>Ok.pure (hk _ _ hp g3 (by omega))) fun _=>Ok.call (zMT u) ⟨by omega,by omega⟩ fun a v g5 g6 g7=>Ok.pure (hk _ v g5 (by omega) (by omega))⟩
end Go.LN
namespace Go.LN
theorem zNK {s:List zV}{f:zV→Option Bool}{p:zV→Bool} (hf:∀ d ∈ s,f d=some (p d)) (hl:s.length ≤ 1000000):∀ (j q:Nat),q + j=s.length →
    (∃ k:Nat,q ≤ k∧k < s.length∧(∀ h:k < s.length,p s[k]=true)∧(∀ (i:Nat) (h:i < s.length),q ≤ i→i < k→p s[i]=false)∧vQ s f (q:Int)=some (.ret (k:Int))) ∨
    ((∀ (i:Nat) (h:i < s.length),q ≤ i→p s[i]=false)∧vQ s f (q:Int)=some (.done ())):=by
  intro j
  induction j with
  | zero =>
    intro q hq
    refine .inr ⟨fun i h h1=>by omega,?_⟩
    rw [vQ]
    have:¬((q:Int) < (s.length:Int)):=by omega
    simp only [this,dF,bF,if_false,oP]
  | succ j ih =>
    intro q hq
    have hlt:q < s.length:=by omega
    have hc:((q:Int) < (s.length:Int)):=by omega
    have hx:=hf s[q] (gM hlt)
    cases hp:p s[q] with
    | true =>
      refine .inl ⟨q,Nat.le_refl _,hlt,fun _=>hp,fun i h h1 h2=>by omega,?_⟩
      rw [vQ]
      simp only [hc,dT,if_true,yZ hlt,hx,hp,oB,oS,oP]
    | false =>
      have e:vQ s f (q:Int)=vQ s f ((q + 1:Nat):Int):=by
        rw [vQ]
        simp only [hc,dT,if_true,yZ hlt,hx,hp,bF,if_false,oB,oS]
        rw [tE (by omega)]
      rw [e]
      rcases ih (q + 1) (by omega) with ⟨k,h1,h2,h3,h4,h5⟩ | ⟨h1,h2⟩
      · refine .inl ⟨k,by omega,h2,h3,fun i h g1 g2=>?_,h5⟩
        by_cases hi:i=q
        · subst hi; exact hp
        · exact h4 i h (by omega) g2
      · refine .inr ⟨fun i h g1=>?_,h2⟩
        by_cases hi:i=q
        · subst hi; exact hp
        · exact h1 i h (by omega)
theorem zNA {α:Type}{l:List α}{i:Nat}{x:α} (h:i < l.length):(l.set i x).take (i + 1)=l.take i ++ [x]:=by
  rw [List.take_add_one,List.getElem?_set_self h,List.take_set_of_le (Nat.le_refl _)]; rfl
theorem zNT {s:List zV}{f:zV→Option Bool}{p:zV→Bool} (hf:∀ d ∈ s,f d=some (p d)) (hl:s.length ≤ 1000000):∀ (r j:Nat) (s1:List zV) (i:Nat),j + r=s.length→s1.length=s.length→i < j→s1.drop j=s.drop j →
    ∃ (s2:List zV) (i2:Nat),vO f s1 (i:Int) (j:Int)=some (s2,(i2:Int))∧i2 ≤ s2.length∧s2.length=s.length∧s2.take i2=s1.take i ++ (s.drop j).filter fun d=>!p d:=by
  intro r
  induction r with
  | zero =>
    intro j s1 i hj h1 hi hd
    refine ⟨s1,i,?_,by omega,h1,?_⟩
    · rw [vO]
      have:¬((j:Int) < (s1.length:Int)):=by omega
      simp only [this,dF,bF,if_false,oP]
    · rw [dN.2 (show s.length ≤ j by omega)]; simp
  | succ r ih =>
    intro j s1 i hj h1 hi hd
    have hlt:j < s.length:=by omega
    have hlt1:j < s1.length:=by omega
    have hc:((j:Int) < (s1.length:Int)):=by omega
    have e0:s1[j]=s[j]:=by
      have g1:(s1.drop j)[0]?=(s.drop j)[0]?:=by rw [hd]
      rw [List.getElem?_drop,List.getElem?_drop,Nat.add_zero,List.getElem?_eq_getElem hlt1,List.getElem?_eq_getElem hlt] at g1
      exact Option.some.inj g1
    have hd2:s1.drop (j + 1)=s.drop (j + 1):=by
      have:(s1.drop j).drop 1=(s.drop j).drop 1:=by rw [hd]
      rwa [List.drop_drop,List.drop_drop] at this
    have hx:=hf s[j] (gM hlt)
    rw [vO,gC hlt]
    simp only [hc,dT,if_true,yZ hlt1,e0,hx,oB,oS,oP]
    cases hp:p s[j] with
    | false =>
      have hii:i < s1.length:=by omega
      simp only [Bool.not_false,if_true,yZ hii,oS,iN]
      rw [tE (show i < 9223372036854775807 by omega),tE (show j < 9223372036854775807 by omega)]
      obtain ⟨s2,i2,g1,g2,g3,g4⟩:=ih (j + 1) (s1.set i s[j]) (i + 1) (by omega) (by rw [List.length_set]; exact h1) (by omega) (by rw [List.drop_set_of_lt (by omega)]; exact hd2)
      refine ⟨s2,i2,g1,g2,g3,?_⟩
      rw [g4,zNA hii,List.filter_cons,hp]
      simp
    | true =>
      simp only [bT,bF,if_false,oS]
      rw [tE (show j < 9223372036854775807 by omega)]
      obtain ⟨s2,i2,g1,g2,g3,g4⟩:=ih (j + 1) s1 i (by omega) h1 (by omega) hd2
      refine ⟨s2,i2,g1,g2,g3,?_⟩
      rw [g4,List.filter_cons,hp]
      simp
theorem delV {s:List zV}{f:zV→Option Bool}{p:zV→Bool} (hf:∀ d ∈ s,f d=some (p d)) (hl:s.length ≤ 1000000):sY s f=some (s.filter fun d=>!p d):=by
  unfold sY rG;rcases zNK hf hl _ 0 (Nat.zero_add _) with ⟨k,_,h2,h3,h4,h5⟩ | ⟨h1,h2⟩
  · rw [nZ] at h5;have e:((k:Int) == -1)=false:=by simp
    obtain ⟨s2,i2,g1,g2,g3,g4⟩:=zNT hf hl _ (k + 1) s k (Nat.add_sub_cancel' (by omega)) rfl (by omega) rfl;have ec:clrL s2 (i2:Int) (zV.mk 0 0 0)=some (s2.take i2 ++ List.replicate (s2.length - i2) (zV.mk 0 0 0)):=by
      unfold clrL;rw [if_pos ⟨by omega,by omega⟩]; rfl
    have es:slc (s2.take i2 ++ List.replicate (s2.length - i2) (zV.mk 0 0 0)) 0 (i2:Int)=some (s2.take i2):=by
      unfold slc;rw [if_pos ⟨by omega,by omega,by simp; omega⟩,iN,List.take_append_of_le_length (by rw [List.length_take]; omega),List.take_take,Nat.min_self]; rfl
    simp only [h5,oB,oS,oP,e,bF,if_false,id];rw [tE (show k < 9223372036854775807 by omega)];simp only [g1,oS,ec,es];refine congrArg some ?_;rw [g4];have e1:s=s.take k ++ s[k]::s.drop (k + 1):=by rw [← gC h2,List.take_append_drop]
    have e2:(s.take k).filter (fun d=>!p d)=s.take k:=by
      refine List.filter_eq_self.2 fun d hd=>?_;obtain ⟨i,hi,rfl⟩:=List.mem_iff_getElem.1 hd;rw [List.length_take] at hi;rw [List.getElem_take,h4 i (by omega) (by omega) (by omega)]; rfl
    conv=>rhs; rw [e1]
    rw [List.filter_append,List.filter_cons,h3 h2,e2];simp
  · rw [nZ] at h2;simp only [h2,oB,oS,oP,bQ,if_true,id];refine congrArg some (List.filter_eq_self.2 fun d hd=>?_).symm;obtain ⟨i,hi,rfl⟩:=List.mem_iff_getElem.1 hd;rw [h1 i hi (by omega)]; rfl
def kpD (P:zE) (d:zV):Bool:=(namF P (zIns P d.From.toNat)).l == [] || !((namF P (zIns P d.From.toNat)).l == (namF P (zIns P d.To.toNat)).l)
def sdF (P:zE):List zV:=(dpF P).filter (kpD P)
theorem zNR {P:zE}{z:zO} (hz:InP P z):((stI P z).Write.Array.l == [])=false:=by
  obtain ⟨d,hd⟩:=hz.st;have hw:accB (stI P z).Write d=true:=by simp only [stmtB,bA] at hd; exact hd.1.2
  cases hl:(stI P z).Write.Array.l with
  | nil =>
    simp only [accB,bA] at hw;rw [hl] at hw;exact absurd hw.1.1 (by decide)
  | cons x l=>rfl
theorem zND {P:zE}{a b:zO} (ha:InP P a) (hb:InP P b):((namF P a).l == [] || !((namF P a).l == (namF P b).l))=!(redB (stI P a) && (redB (stI P b) && ((stI P a).Write.Array.l == (stI P b).Write.Array.l))):=by
  have h1:=zNR ha;have h2:=zNR hb;unfold namF;cases redB (stI P a) with
  | false=>rfl
  | true =>
    cases redB (stI P b) with
    | false=>simp only [if_true,bF,if_false,h1,Bool.false_or,Bool.false_and,Bool.and_false]
    | true=>simp only [if_true,h1,Bool.false_or,Bool.true_and]
theorem zIxQ {P:zE}{i:Nat} (h:i < (progI P).length):idx (progI P) (i:Int)=some (zIns P i):=by rw [yZ h,zIF h]
theorem predSD {P:zE} (hb:BG P) (hv:validP P=true) {d:zV} (hd:d ∈ dpF P):nF d (trcP P)=some (!kpD P d):=by
  have e:dpF P=depA P 0 (progI P).length:=by unfold dpF; rw [hv]; rfl
  rw [e] at hd;obtain ⟨i,k,rfl,h1,h2,_⟩:=zMh hd;have hi:i < (progI P).length:=by omega
  have ha:=zIE hb hv (zJj hi);have hk:=zIE hb hv (zJj h2);obtain ⟨d1,hd1⟩:=ha.st;obtain ⟨d2,hd2⟩:=hk.st;have eT:(trcP P).list=progI P:=rfl;have eP:(trcP P).Program=P:=rfl;unfold nF pC kpD;simp only [eT,eP,zIxQ hi,zIxQ h2,ha.idxP,ha.idxS,hk.idxP,hk.idxS,implRed _ hd1,implRed _ hd2,oB,oS,oP,id,iN];rw [zND ha hk,Bool.not_not];cases redB (stI P (zIns P i)) <;> cases redB (stI P (zIns P k)) <;> rfl
theorem implSD (P:zE) (hb:BG P):zA9 P=some (sdF P):=by
  unfold zA9 sdF;rw [implTrace P hb];cases hv:validP P with
  | false =>
    have e:dpF P=[]:=by unfold dpF; rw [hv]; rfl
    rw [e]; rfl
  | true =>
    have hdp:=implDeps P hb;unfold jI at hdp;rw [implTrace P hb,hv] at hdp;simp only [if_true,oB,oS,bT,bF,if_false,oP,id] at hdp ⊢;cases hd:nS (trcP P) with
    | none=>rw [hd] at hdp; cases hdp
    | some y =>
      rw [hd] at hdp;have hy:y=dpF P:=Option.some.inj hdp;have hlen:=zMg (P:=P);rw [oS,hy,delV (fun d hd=>predSD hb hv hd) (by omega)];rw [oS];refine congrArg some (List.filter_congr fun d _=>?_);rw [Bool.not_not]
theorem namesV {P:zE} (hb:BG P) (hv:validP P=true):dP P=some ((progI P).map (namF P)):=by
  have h:=zNJ hb hv _ 0 [] (Nat.zero_add _) rfl;rw [nZ,List.drop_zero,List.nil_append] at h;unfold dP;simp only [specInsts P hv,h,oB,oS,oP,id]
theorem zNG {P:zE}{i:Nat} (h:i < (progI P).length):idx ((progI P).map (namF P)) (i:Int)=some (namF P (zIns P i)):=by
  rw [yZ (by rw [lM]; exact h),List.getElem_map,zIF h]
theorem zNI {P:zE}{D:List zV} (hD:∀ d ∈ D,∃ i k:Nat,d.From=(i:Int)∧d.To=(k:Int)∧i < (progI P).length∧k < (progI P).length) (hl:D.length ≤ 1000000):∀ (j q:Nat) (o:List zV),q + j=D.length→o.length ≤ q→mN ((progI P).map (namF P)) D o (q:Int)=some (o ++ (D.drop q).filter (kpD P)):=by
  intro j
  induction j with
  | zero =>
    intro q o hq ho;rw [mN];have:¬((q:Int) < (D.length:Int)):=by omega
    simp only [this,dF,bF,if_false,oP,id];rw [dN.2 (by omega)]; simp
  | succ j ih =>
    intro q o hq ho;have hlt:q < D.length:=by omega
    have hc:((q:Int) < (D.length:Int)):=by omega
    obtain ⟨i,k,e1,e2,h1,h2⟩:=hD D[q] (gM hlt);rw [mN,gC hlt,List.filter_cons];have ek:kpD P D[q]=((namF P (zIns P i)).l == [] || !((namF P (zIns P i)).l == (namF P (zIns P k)).l)):=by unfold kpD; rw [e1,e2,iN,iN]
    rw [ek];simp only [hc,dT,if_true,yZ hlt,e1,e2,zNG h1,zNG h2,oB,oS,oP,id];have et:(if ((namF P (zIns P i)).l == [])=true then some true else some (!((namF P (zIns P i)).l == (namF P (zIns P k)).l)))=some ((namF P (zIns P i)).l == [] || !((namF P (zIns P i)).l == (namF P (zIns P k)).l)):=by
      cases (namF P (zIns P i)).l == [] <;> rfl
    rw [et,oS];cases ((namF P (zIns P i)).l == [] || !((namF P (zIns P i)).l == (namF P (zIns P k)).l)) with
    | true =>
      simp only [if_true,oT (show (o.length + [D[q]].length) * 24 ≤ 140737488355328 by simp; omega),oS];rw [tE (by omega),ih (q + 1) _ (by omega) (by rw [lA]; simp; omega),List.append_assoc]; rfl
    | false =>
      simp only [bF,if_false,oS];rw [tE (by omega),ih (q + 1) _ (by omega) (by omega)]
theorem zNL {P:zE}:∀ d ∈ depA P 0 (progI P).length,∃ i k:Nat,d.From=(i:Int)∧d.To=(k:Int)∧i < (progI P).length∧k < (progI P).length:=by
  intro d hd;obtain ⟨i,k,rfl,h1,h2,_⟩:=zMh hd;exact ⟨i,k,rfl,rfl,by omega,h2⟩
theorem specSD (P:zE) (hb:BG P):zAa P=some (sdF P):=by
  unfold zAa sdF;rw [specValidP P hb];cases hv:validP P with
  | false =>
    have e:dpF P=[]:=by unfold dpF; rw [hv]; rfl
    rw [e]; rfl
  | true =>
    have e:dpF P=depA P 0 (progI P).length:=by unfold dpF; rw [hv]; rfl
    have hlen:=zMg (P:=P);rw [e] at hlen ⊢;have h:=zNI zNL (by omega) _ 0 [] (Nat.zero_add (depA P 0 (progI P).length).length) (Nat.le_refl 0);rw [nZ,List.drop_zero,List.nil_append] at h;simp only [bT,bF,if_false,namesV hb hv,specDeps6 P hb hv,h,oB,oS,oP,id]
theorem drawSD (code:List UInt8):Ok (eN code) BG:=by
  unfold eN;refine Ok.call (zLu code) trivial fun s hs=>Ok.call (zNC s) ⟨by omega,by omega⟩ fun a t g1 g2 g3=>?_;refine Ok.bind (mut4 t a g1.dp (by omega) (by omega)) fun p hp=>?_;obtain ⟨P,r⟩:=p;exact Ok.pure hp.1.1
def grB (P:zE) (d:zV):Bool:=(rgF P d.From).2 && ((rgF P d.To).2 && ((rgF P d.From).1.l == (rgF P d.To).1.l))
theorem zNS {P:zE} (hv:validP P=true) {i:Nat} (h:i < (progI P).length):rgF P (i:Int)=if redB (stI P (zIns P i)) then ((stI P (zIns P i)).Write.Array,true) else (⟨[]⟩,false):=by
  unfold rgF;rw [if_pos ⟨hv,by omega,by omega⟩,iN]
theorem zNV {P:zE} (hb:BG P) (hv:validP P=true) {d:zV} (hd:d ∈ dpF P):grB P d=!kpD P d:=by
  have e:dpF P=depA P 0 (progI P).length:=by unfold dpF; rw [hv]; rfl
  rw [e] at hd;obtain ⟨i,k,rfl,h1,h2,_⟩:=zMh hd;have hi:i < (progI P).length:=by omega
  unfold kpD grB;simp only [iN,zNS hv hi,zNS hv h2];rw [zND (zIE hb hv (zJj hi)) (zIE hb hv (zJj h2)),Bool.not_not];cases redB (stI P (zIns P i)) <;> cases redB (stI P (zIns P k)) <;> rfl
theorem zNO {P:zE} (hb:BG P) {D:List zV} (hD:∀ d ∈ D,grB P d=!kpD P d) (hl:D.length ≤ 1000000):∀ (j q:Nat),q + j=D.length→zMl P (D.filter (kpD P)) D ((((D.take q).filter (kpD P)).length:Nat):Int) (q:Int)=some (.done ((D.filter (kpD P)).length:Int)):=by
  intro j
  induction j with
  | zero =>
    intro q hq;rw [zMl];have:¬((q:Int) < (D.length:Int)):=by omega
    simp only [this,dF,bF,if_false,oP];rw [List.take_of_length_le (by omega)]
  | succ j ih =>
    intro q hq;have hlt:q < D.length:=by omega
    have hc:((q:Int) < (D.length:Int)):=by omega
    have hg:=hD D[q] (gM hlt);have et:D.take (q + 1)=D.take q ++ [D[q]]:=by rw [List.take_add_one,List.getElem?_eq_getElem hlt]; rfl
    have ih:=ih (q + 1) (by omega);rw [et,List.filter_append,lA] at ih;rw [zMl];have eg:(if (rgF P D[q].From).2=true then (if (rgF P D[q].To).2=true then some ((rgF P D[q].From).1.l == (rgF P D[q].To).1.l) else some false) else some false)=some (grB P D[q]):=by
      unfold grB;cases (rgF P D[q].From).2 <;> cases (rgF P D[q].To).2 <;> rfl
    simp only [hc,dT,if_true,yZ hlt,implRG P hb,oB,oS,oP,eg,hg];cases hk:kpD P D[q] with
    | false =>
      rw [show [D[q]].filter (kpD P)=[] by rw [List.filter_cons,hk]; rfl,List.length_nil,Nat.add_zero] at ih;simp only [Bool.not_false,if_true];rw [tE (by omega)];exact ih
    | true =>
      rw [show [D[q]].filter (kpD P)=[D[q]] by rw [List.filter_cons,hk]; rfl,List.length_singleton] at ih;have e1:D.filter (kpD P)=(D.take q).filter (kpD P) ++ D[q]::(D.drop (q + 1)).filter (kpD P):=by
        conv=>lhs; rw [← List.take_append_drop q D]
        rw [List.filter_append,gC hlt,List.filter_cons,hk]; rfl
      have hat:((D.take q).filter (kpD P)).length < (D.filter (kpD P)).length:=by rw [e1,lA,List.length_cons]; omega
      have hle:=List.length_filter_le (kpD P) D;have hge:¬(((((D.take q).filter (kpD P)).length:Nat):Int) ≥ ((D.filter (kpD P)).length:Int)):=by omega
      have hx:(D.filter (kpD P))[((D.take q).filter (kpD P)).length]=D[q]:=by
        have:(D.filter (kpD P))[((D.take q).filter (kpD P)).length]?=some D[q]:=by
          rw [e1,List.getElem?_append_right (Nat.le_refl _),Nat.sub_self]; rfl
        rw [List.getElem?_eq_getElem hat] at this;exact Option.some.inj this
      simp only [bT,bF,if_false,hge,dF,yZ hat,hx,oS,bQ,Bool.and_self];rw [tE (show ((D.take q).filter (kpD P)).length < 9223372036854775807 by omega),tE (show q < 9223372036854775807 by omega)];exact ih
theorem zNP {P:zE}:(sdF P).length ≤ 14400:=Nat.le_trans (List.length_filter_le _ _) zMg
theorem zNB (code:List UInt8):∃ r,zMo code=some r∧r=true:=by
  obtain ⟨y,hy,hb⟩:=drawSD code;unfold zMo;refine ⟨true,?_,rfl⟩;by_cases h1:(code.length:Int) > 1048576
  · simp [h1]
  · have hl:=zNP (P:=y);have hl2:=zMg (P:=y);have hr:=zNH (sdF y) (by omega);have hw:zMl y (sdF y) (dpF y) 0 0=some (.done ((sdF y).length:Int)):=by
      cases hv:validP y with
      | false =>
        have e:dpF y=[]:=by unfold dpF; rw [hv]; rfl
        unfold sdF;rw [e,zMl]; rfl
      | true=>exact zNO hb (fun d hd=>zNV hb hv hd) (by omega) _ 0 (Nat.zero_add _)
    simp only [h1,dF,bF,if_false,hy,implSD y hb,specSD y hb,implDeps y hb,hr,hw,bT,bQ,oP,oB,oS]
end Go.LN
