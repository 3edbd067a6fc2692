/- Helper of the proof (see the last text). -/
import Derived.Test.YtkipogionmkncaaGreatDoorHM6
set_option linter.unusedVariables false
set_option linter.unusedSimpArgs false
namespace Go.LN
open Go.Proofs Go.Proofs.Tryz
set_option maxRecDepth 20000
def eF(r:List Str):KT:=λkk I' ag v=>
 ∃v0,ag=[]/\v=tupV [v0]/\SL I' v0 r
def qH(s:Str)(sep:Str):Option (List Str):=if s.l.length<4294967281/\1<=sep.l.length then some (splitM s sep) else none
theorem zAS:∀(s sep:Str) r,qH s sep=some r->∀{I:Imm},GH Tryz.prog I->RT 37 [vT s.l,vT sep.l] I [] (eF r):=by
 intro s sep r N I hG;unfold qH at N;split at N
 ·rename_i hi;cases N
  obtain ⟨g,hg,hm⟩:=hG.ml;obtain rfl:g=0:=(Option.some.inj ((show Tryz.prog.globalNamed "internal/bytealg.MaxLen"=some 0 by kernel_rfl).symm.trans hg)).symm;exact zFA hi.1 hi.2 hm Tryz.strings_Split fun k I' a c hl h=>⟨_,rfl,rfl,h⟩
 cases N
def dE(r:Int×Bool):KT:=λkk I' ag v=>
 ∃(v0 v1:Value),ag=[]/\v=tupV [v0,v1]/\v0=.int .i64 r.1/\ErrV v1 r.2
def uN(s:Str):Option (Int×Bool):=if s.l.length<=281474976710656 then some (atoiM s) else none
theorem jK:∀s r,uN s=some r->∀{I:Imm},GH Tryz.prog I->RT 90 [vT s.l] I [] (dE r):=by
 intro s r N I hG;unfold uN at N;split at N
 ·rename_i hi;cases N
  obtain ⟨g,hg,h1⟩:=hG.es;obtain rfl:g=1:=(Option.some.inj ((show Tryz.prog.globalNamed "strconv.ErrSyntax"=some 1 by kernel_rfl).symm.trans hg)).symm;obtain ⟨g,hg,h2⟩:=hG.er;obtain rfl:g=2:=(Option.some.inj ((show Tryz.prog.globalNamed "strconv.ErrRange"=some 2 by kernel_rfl).symm.trans hg)).symm;exact zFo hi h1 h2 Tryz.strconv_Atoi_ok Tryz.strconv_Atoi_syntax Tryz.strconv_Atoi_range fun k v h=>⟨_,_,rfl,rfl,rfl,h⟩
 cases N
def rB(s:Str)(substr:Str):Option Int:=if s.l.length<4294967281 then some (Lib.index s.l substr.l) else none
theorem zAT:∀(s substr:Str) r,rB s substr=some r->∀{I:Imm},GH Tryz.prog I->RT 150 [vT s.l,vT substr.l] I [] (yZ r):=by
 intro s substr r N I hG;unfold rB at N;split at N
 ·rename_i hi;cases N
  obtain ⟨g,hg,m,hm⟩:=hG.ml;obtain rfl:g=0:=(Option.some.inj ((show Tryz.prog.globalNamed "internal/bytealg.MaxLen"=some 0 by kernel_rfl).symm.trans hg)).symm;exact oC (fun w g=>(Tryz.strings_Index ⟨⟨s.l⟩⟩ ⟨⟨substr.l⟩⟩ m w hi (g.cell hm)).mono fun e w' ⟨h1,h2⟩=>⟨h1,h2 ▸ RowKit.Below.refl _ _⟩) fun k=>⟨_,rfl,rfl,rfl⟩
 cases N
def pF(n0:Int):Option (zA):=do
 let l<-mkrow 8 4 (0:Int)
 pure (zA.mk l n0)
theorem zAU:∀n0 r,pF n0=some r->∀{I:Imm} ,RT 184 [vI n0] I [] (oF  r):=by
 intro n0 r N I;unfold pF at N;refine yK func184 λB=>yH<|uF [z0,vI 0] ?_;intro b hb;refine zV rfl<|yW<|bE N λl hy N=>zHz 8 [vI 0] rfl hy rfl ?_;intro b1 cs h;refine zX 3 [] [5] rfl<|yT 1 [vS (some ⟨b1,0,none⟩) l l.length,vI n0] rfl<|zV rfl<|zG<|yX ?_;obtain rfl:=zD N;exact xN ⟨_,_,(.cell 1 rfl rfl (by kernel_rfl) ResV.nil),(zN [0] rfl (by decide)),⟨_,_,_,rfl,rfl,h⟩⟩
def sQ(s:Str)(chars:Str):Option Int:=if(s.l.length<4294967281/\chars.l.length<4294967281)/\asc s.l=true/\asc chars.l=true then some (Lib.indexAny s.l chars.l) else none
theorem fH:∀(s chars:Str) r,sQ s chars=some r->∀{I:Imm},RT 185 [vT s.l,vT chars.l] I [] (yZ r):=by
 intro s chars r N I;unfold sQ at N;split at N
 ·rename_i hi;cases N
  exact oC (λw g=>Tryz.strings_IndexAny_laid ⟨⟨s.l⟩⟩ ⟨⟨chars.l⟩⟩ w hi.1.1 hi.1.2 (zEE hi.2.1) (zEE hi.2.2)) λk=>⟨_,rfl,rfl,rfl⟩
 cases N
def sR(s:Str)(cutset:Str):Option Str:=if cutset.l.length<4294967281/\asc cutset.l=true then some ⟨Lib.trimLeftS s.l cutset.l⟩ else none
theorem fI:∀(s cutset:Str) r,sR s cutset=some r->∀{I:Imm},RT 186 [vT s.l,vT cutset.l] I [] (yI r):=by
 intro s cutset r N I;unfold sR at N;split at N
 ·rename_i hi;cases N
  exact oC (λw g=>Tryz.strings_TrimLeft_laid ⟨⟨s.l⟩⟩ ⟨⟨cutset.l⟩⟩ w hi.1 (zEE hi.2)) λk=>⟨_,rfl,rfl,rfl⟩
 cases N
def M.internal_stringslite_HasSuffix(s:Str)(suffix0:Str):Option (Bool):=do
 let t4<-(do
  if(decide ((s.l.length:Int)>=(suffix0.l.length:Int))) then
   let s1<-sslc s (W ((s.l.length:Int) - (suffix0.l.length:Int))) (s.l.length:Int)
   pure (s1.l==suffix0.l)
  else
   pure false
    : Option Bool)
 pure (id t4)
theorem pO:∀s suffix0 r,M.internal_stringslite_HasSuffix s suffix0=some r->∀{I:Imm} ,RT 248 [vT s.l,vT suffix0.l] I [] (zP  r):=by
 intro s suffix0 r N I;unfold M.internal_stringslite_HasSuffix at N;refine yK func248 λB=>?_;have H:=iS I;refine tK []<|zG<|yB ?_;refine wT N [] (λt4=>[(4,.bool t4)]) (λo0 ar=>?_) ?_
 ·have H:=iS I;refine zI<|zX 6 [] [10] rfl<|xE [10] ar ?_ ?_
  ·intro hc N;exact zX 12 [] [11,16] rfl<|bE N λs1 hy N=>mD rfl hy<|yS [] [4] rfl<|yM<|zJ (ct N H)
  intro hc N;exact wG [] [(4,vF)]<|yM<|zJ (ct N H)
 intro t4 I0 le aw;refine zG<|yX ?_;obtain rfl:=zD aw;exact wU
def M.internal_stringslite_TrimSuffix(s:Str)(suffix0:Str):Option (Str):=do
 let y<-M.internal_stringslite_HasSuffix s suffix0
 if y then
  let s1<-sslc s 0 (W ((s.l.length:Int) - (suffix0.l.length:Int)))
  pure (id s1)
 else
  pure (id s)
theorem pK:∀s suffix0 r,M.internal_stringslite_TrimSuffix s suffix0=some r->∀{I:Imm} ,RT 227 [vT s.l,vT suffix0.l] I [] (yI  r):=by
 intro s suffix0 r N I;unfold M.internal_stringslite_TrimSuffix at N;refine yK func227 λB=>tK []<|yL<|yH<|zX 2 [] [5,6] rfl<|bE N λy hy N=>sD (pO s suffix0 _ hy ) λI0 le=>zV rfl<|zG<|yJ N ?_ ?_
 ·intro hc N;refine yH<|zX 6 [] [8,13] rfl<|bE N λs1 au N=>mD rfl au<|yS [] [4] rfl<|xP<|zF ?_;obtain rfl:=zD N;exact wU
 intro hc N;refine zO<|qN [4] rfl<|zG<|yX ?_;obtain rfl:=zD N;exact wU
def uT(s:Str)(suffix0:Str):Option (Str):=do
 let y<-M.internal_stringslite_TrimSuffix s suffix0
 pure (id y)
theorem pY:∀s suffix0 r,uT s suffix0=some r->∀{I:Imm} ,RT 187 [vT s.l,vT suffix0.l] I [] (yI  r):=by
 intro s suffix0 r N I;unfold uT at N;refine yK func187 λB=>tK []<|yW<|zX 2 [] [5,6] rfl<|bE N λy hy N=>xS (pK s suffix0 _ hy ) ?_;rintro I0 aj v2 k2 le - ⟨v0,rfl,rfl,rfl⟩ -;refine yS [] [4] rfl<|zG<|yX ?_;obtain rfl:=zD N;exact wU
def zT(rest:Str)(x:zA)(Coefs:List Int)(Const:Int):Option (Out (zA×List Int×Int) (zA×Bool)):=do
 if(!(rest.l==([]:List UInt8))) then
  let t30<-(do
   let b2<-sidx rest 0
   if((b2.toNat:Int)==43) then
    pure true
   else
    let b3<-sidx rest 0
    pure ((b3.toNat:Int)==45)
     : Option Bool)
  let (rest1,by0)<-(do
   if t30 then
    let b4<-sidx rest 0
    let by01<-(do
     if((b4.toNat:Int)==45) then
      pure (-1)
     else
      pure (id 1)
       : Option Int)
    let s<-sslc rest 1 (rest.l.length:Int)
    pure (s,by01)
   else
    pure (rest,1)
     : Option (Str×Int))
  let y1<-sQ rest1 (⟨[43,45]⟩:Str)
  let end0<-(do
   if(decide (y1<0)) then
    pure (rest1.l.length:Int)
   else
    pure (id y1)
     : Option Int)
  let s1<-sslc rest1 0 end0
  let s2<-sslc rest1 end0 (rest1.l.length:Int)
  let y2<-sR s1 (⟨[48,49,50,51,52,53,54,55,56,57,42]⟩:Str)
  let y3<-uT s1 y2
  let y4<-uT y3 (⟨[42]⟩:Str)
  match<-(do
   if(!(y4.l==([]:List UInt8))) then
    let (y6,y7)<-uN y4
    let t66<-(do
     if y7 then
      pure true
     else
      pure (decide (y6>1000))
       : Option Bool)
    if t66 then
     pure (.ret ((zA.mk ([]:List Int) 0),false))
    else
     pure (.done (y6,x))
   else
    pure (.done (1,x))
     : Option (Out (Int×zA) (zA×Bool))) with
  | .ret r0=>pure (.ret r0)
  | .done (n0,x2)=>
   let y8<-rB (⟨[105,106,107,108]⟩:Str) y2
   match<-(do
    if(y2.l==([]:List UInt8)) then
     pure (.done (x2,Coefs,(W (Const+(W (by0*n0))))))
    else
     let t82<-(do
      if((y2.l.length:Int)==1) then
       pure (decide (y8>=0))
      else
       pure false
        : Option Bool)
     if t82 then
      let x4<-idx Coefs y8
      let x5<-idx Coefs y8
      let l<-pure (Coefs.set y8.toNat (W (x4+(W (by0*n0)))))
      pure (.done (x2,l,Const))
     else
      pure (.ret ((zA.mk ([]:List Int) 0),false))
      : Option (Out (zA×List Int×Int) (zA×Bool))) with
   | .ret r0=>pure (.ret r0)
   | .done (x3,Coefs2,Const2)=>
    zT s2 x3 Coefs2 Const2
 else
  pure (.done (x,Coefs,Const))
 partial_fixpoint
theorem kY :∀(rest:Str) (x:zA) (Coefs:List Int) (Const:Int) (o:Out (zA×List Int×Int) (zA×Bool)),zT rest x Coefs Const=some o->∀{B}{I0 I:Imm}{Q}{ak:Str}{b:Nat}{b1:Nat}{p1 c1 p2 c2 aH},I0.le I->(GH Tryz.prog I)->(S4 I p1 x.Coefs c1)->(RL I aH Coefs)->NG Q->NO Q->(∀(I':Imm) (x1:zA) (Coefs1:List Int) (Const1:Int) (p3:Option Addr) (c3:Nat) (p4:Option Addr) (c4:Nat) (aX:List Value),o=(.done (x1,Coefs1,Const1))->I0.le I'->(S4 I' p3 x1.Coefs c3)->(RL I' aX Coefs1)->T 111 B Q (.exit 0) I' [hB b1 [vS p4 Coefs1 c4,vI Const1],hO Int (vS p4 Coefs1 c4) aX,hB b (cAff x1 p3 c3)] [(0,vT ak.l),(2,vP b 0),(4,vP b1 0)])->(∀r I' ag m',o=(.ret r)->I0.le I'->RS Tryz.prog f129 B (qO  r) I' ag m'->T 111 B Q .ret I' ag m')->J Tryz.prog 111 B (nav (bodyOf f129) [1,1,1,0,1,0]) Q I [hB b1 [vS p2 Coefs c2,vI Const],hO Int (vS p2 Coefs c2) aH,hB b (cAff x p1 c1)] [(0,vT ak.l),(2,vP b 0),(4,vP b1 0),(5,vT rest.l)]:=by
 refine zT.partial_correctness  _ λaW ih rest x Coefs Const o N B I0 I Q ak b b1 p1 c1 p2 c2 aH H hG h1 h2 hg ho hx hr=>uQ hg ho<|yB<|xB [22] rfl<|zG<|yJ N ?_ ?_
 ·intro ay N;refine zO<|rX<|xB [6] rfl<|yL<|yB ?_;refine wT N [hB b1 [vS p2 Coefs c2,vI Const],hO Int (vS p2 Coefs c2) aH,hB b (cAff x p1 c1)] (λt30=>[(0,vT ak.l),(2,vP b 0),(4,vP b1 0),(5,vT rest.l),(6,vI 1),(30,.bool t30)]) (λo0 ar=>?_) ?_
  ·have H:=iS I;refine zI<|zX 1 [] [23] rfl ?_;obtain⟨b2,au,N⟩:=zC ar;refine pW rfl rfl au<|zX 4 [] [26] rfl<|xE [26] N ?_ ?_
   ·intro aJ N;exact wG [] [(30,vY)]<|yM<|zJ (ct N H)
   intro aJ N;exact zX 5 [] [27] rfl<|bE N λb3 aB N=>pW rfl rfl aB<|yS [] [30] rfl<|yM<|zJ (ct N H)
  intro t30 aI ai aw;have ⟨h2,h1,hG,H⟩:=m4 ai h2 h1 hG H;refine zG ?_;obtain⟨aS,ax,hMc1⟩:=zC aw;refine rR (λI' ag m'=>∃(rest1:Str) (by0:Int),aS=(rest1,by0)/\aI.le I'/\ag=[hB b1 [vS p2 Coefs c2,vI Const],hO Int (vS p2 Coefs c2) aH,hB b (cAff x p1 c1)]/\m'=[(0,vT ak.l),(2,vP b 0),(4,vP b1 0),(5,vT rest1.l),(6,vI by0)]) ?_ ?_
  ·have H:=iS aI;refine yJ ax ?_ ?_
   ·intro bd N;refine yB<|yH<|zX 1 [] [31] rfl<|bE N λb4 aK N=>pW rfl rfl aK<|yS [] [33] rfl<|zG ?_;refine wT N [hB b1 [vS p2 Coefs c2,vI Const],hO Int (vS p2 Coefs c2) aH,hB b (cAff x p1 c1)] (λby01=>[(0,vT ak.l),(2,vP b 0),(4,vP b1 0),(5,vT rest.l),(6,vI by01)]) (λo02 ho02=>?_) ?_
    ·have H:=iS aI;refine yJ ho02 ?_ ?_
     ·intro bn N;exact zI<|yS [] [6] rfl<|yM<|zJ (ct N H)
     intro bn N;exact zO<|yM<|zJ (ct N H)
    intro by01 aZ aG hMc2;have H:=H.trans aG;refine zG<|zI<|zX 1 [] [34] rfl ?_;obtain⟨s,aY,N⟩:=zC hMc2;exact mD rfl aY<|yS [] [5] rfl<|yM<|zJ ⟨_,_,(zD N).symm,H,rfl,rfl⟩
   intro bd N;exact zO<|yM<|zJ ⟨_,_,(zD N).symm,H,rfl,rfl⟩
  rintro aP aj m2 ⟨rest1,by0,heq2,aL,rfl,rfl⟩;subst aS;have ⟨h2,h1,hG,H⟩:=m4 aL h2 h1 hG H;refine yW<|zX 1 [] [36] rfl ?_;obtain⟨y1,bo,N⟩:=zC hMc1;refine zAD (fH rest1 (⟨[43,45]⟩:Str) _ bo ) ?_;intro bq aV;have ⟨h2,h1,hG,H⟩:=m4 aV h2 h1 hG H;refine yS [] [7] rfl<|yL<|xB [39] rfl<|zG ?_;refine wT N [hB b1 [vS p2 Coefs c2,vI Const],hO Int (vS p2 Coefs c2) aH,hB b (cAff x p1 c1)] (λend0=>[(0,vT ak.l),(2,vP b 0),(4,vP b1 0),(5,vT rest1.l),(6,vI by0),(7,vI end0)]) (λo03 ho03=>?_) ?_
  ·have H:=iS bq;refine yJ ho03 ?_ ?_
   ·intro hc5 N;exact zI<|yS [] [7] rfl<|yM<|zJ (ct N H)
   intro hc5 N;exact zO<|yM<|zJ (ct N H)
  intro end0 bu bj hMc3;have ⟨h2,h1,hG,H⟩:=m4 bj h2 h1 hG H;refine yW<|zX 2 [] [42,43] rfl ?_;obtain⟨s1,hy6,N⟩:=zC hMc3;refine mD rfl hy6<|yS [] [8] rfl<|yW<|zX 2 [] [45,46] rfl<|bE N λs2 hy7 N=>mD rfl hy7<|yS [] [5] rfl<|yW<|zX 1 [] [48] rfl<|bE N λy2 hy8 N=>xS (fI s1 (⟨[48,49,50,51,52,53,54,55,56,57,42]⟩:Str) _ hy8 ) ?_;rintro I06 aj v2 k2 bt - ⟨v01,rfl,rfl,rfl⟩ -;have ⟨h2,h1,hG,H⟩:=m4 bt h2 h1 hG H;refine yS [] [9] rfl<|qN [10] rfl<|yL<|yH<|zX 2 [] [50,51] rfl<|bE N λy3 hy9 N=>xS (pY s1 y2 _ hy9 ) ?_;rintro I07 aj v2 k2 le7 - ⟨v02,rfl,rfl,rfl⟩ -;have ⟨h2,h1,hG,H⟩:=m4 le7 h2 h1 hG H;obtain⟨y4,hy10,N⟩:=zC N;refine xS (pY y3 (⟨[42]⟩:Str) _ hy10 ) ?_;rintro I08 aj v2 k2 le8 - ⟨v03,rfl,rfl,rfl⟩ -;have ⟨h2,h1,hG,H⟩:=m4 le8 h2 h1 hG H;refine yS [] [11] rfl<|qN [55] rfl<|zG ?_;obtain⟨o04,ho04,hMc4⟩:=zC N;refine rR (λI' ag m'=>∃(n0:Int) (x2:zA) (p5:Option Addr) (c5:Nat),o04=.done (n0,x2)/\I08.le I'/\(S4 I' p5 x2.Coefs c5)/\ag=[hB b1 [vS p2 Coefs c2,vI Const],hO Int (vS p2 Coefs c2) aH,hB b (cAff x2 p5 c5)]/\m'=[(0,vT ak.l),(2,vP b 0),(4,vP b1 0),(5,vT s2.l),(6,vI by0),(9,vT y2.l),(10,vI n0)]) ?_ ?_
  ·have hle04:=H;have H:=iS I08;refine yJ ho04 ?_ ?_
   ·intro hc6 N;refine yH<|zX 1 [] [57] rfl ?_;obtain⟨⟨y6,y7⟩,hy11,N⟩:=zC N;refine xS (jK y4 _ hy11 hG) ?_;rintro bI aj v2 k2 le9 - ⟨v04,v05,rfl,rfl,rfl,h11⟩ -;have ⟨h1,H⟩:=m2 le9 h1 H;refine yS [] [12,13] rfl<|yL<|yB ?_;refine wT N [hB b1 [vS p2 Coefs c2,vI Const],hO Int (vS p2 Coefs c2) aH,hB b (cAff x p1 c1)] (λt66=>[(0,vT ak.l),(2,vP b 0),(4,vP b1 0),(5,vT s2.l),(6,vI by0),(9,vT y2.l),(12,vI y6),(66,.bool t66)]) (λo05 ho05=>?_) ?_
    ·have H:=iS bI;refine zI<|sW 1 [] [(61,v05)]<|zIB h11 rfl<|zX 3 [] [63] rfl<|xE [63] ho05 ?_ ?_
     ·intro hc7 N;exact wG [] [(66,vY)]<|yM<|zJ (ct N H)
     intro hc7 N;exact yS [] [66] rfl<|yM<|zJ (ct N H)
    intro t66 bJ le10 hMc5;have ⟨h1,H⟩:=m2 le10 h1 H;refine zG<|yJ hMc5 ?_ ?_
    ·intro hc8 N;refine yH<|zX 1 [] [67] rfl<|yT 2 [z0,vI 0] rfl<|wG [] [(3,vF)]<|xP<|zF<|zF<|zF<|zS<|zF ?_;obtain rfl:=zD N;exact hr _ _ _ _ (zD hMc4).symm (hle04.trans H) ⟨_,_,(.cell 2 rfl rfl (by kernel_rfl) (.tmp rfl ResV.nil)),zH,⟨_,_,rfl,rfl,⟨_,rfl,(zZ ⟨_,rfl,(SL.nil _)⟩)⟩,rfl⟩⟩
    intro hc8 N;exact zO<|zG<|zI<|yS [] [10] rfl<|yM<|zJ ⟨_,_,_,_,(zD N).symm,H,h1,rfl,rfl⟩
   intro hc6 N;exact zO<|yM<|zJ ⟨_,_,_,_,(zD N).symm,H,h1,rfl,rfl⟩
  rintro I09 aj m2 ⟨n0,x2,p5,c5,heq5,le11,h9,rfl,rfl⟩;subst o04;have ⟨h2,hG,H⟩:=m3 le11 h2 hG H;refine yW<|zX 1 [] [69] rfl ?_;obtain⟨y8,hy12,N⟩:=zC hMc4;refine zAD (zAT (⟨[105,106,107,108]⟩:Str) y2 _ hy12 hG) ?_;intro bG le12;have ⟨h2,h9,hG,H⟩:=m4 le12 h2 h9 hG H;refine yS [] [14] rfl<|rX<|xB [72] rfl<|zG ?_;obtain⟨o06,ho06,hMc6⟩:=zC N;refine rR (λI' ag m'=>∃(x3:zA) (Coefs2:List Int) (Const2:Int) (p6:Option Addr) (c6:Nat) (p7:Option Addr) (c7:Nat) (br:List Value),o06=.done (x3,Coefs2,Const2)/\bG.le I'/\(S4 I' p6 x3.Coefs c6)/\(RL I' br Coefs2)/\ag=[hB b1 [vS p7 Coefs2 c7,vI Const2],hO Int (vS p7 Coefs2 c7) br,hB b (cAff x3 p6 c6)]/\m'=[(0,vT ak.l),(2,vP b 0),(4,vP b1 0),(5,vT s2.l)]) ?_ ?_
  ·have hle06:=H;have H:=iS bG;refine yJ ho06 ?_ ?_
   ·intro hc9 N;exact zI<|zX 7 [0] [80,81] rfl<|yT 0 [vS p2 Coefs c2,vI (W (Const+(W (by0*n0))))] rfl<|zV rfl<|yM<|zJ ⟨_,_,_,_,_,_,_,_,(zD N).symm,H,h9,h2,rfl,rfl⟩
   intro hc9 N;refine yB ?_;refine wT N [hB b1 [vS p2 Coefs c2,vI Const],hO Int (vS p2 Coefs c2) aH,hB b (cAff x2 p5 c5)] (λt82=>[(0,vT ak.l),(2,vP b 0),(4,vP b1 0),(5,vT s2.l),(6,vI by0),(10,vI n0),(14,vI y8),(82,.bool t82)]) (λo07 ho07=>?_) ?_
   ·have H:=iS bG;refine zI<|zX 4 [] [86] rfl<|xE [86] ho07 ?_ ?_
    ·intro hc10 N;exact yS [] [82] rfl<|yM<|zJ (ct N H)
    intro hc10 N;exact wG [] [(82,vF)]<|yM<|zJ (ct N H)
   intro t82 I014 le13 hMc7;have ⟨h2,h9,H⟩:=m3 le13 h2 h9 H;refine zG<|yJ hMc7 ?_ ?_
   ·intro hc11 N;refine zI<|zX 3 [0] [91,92] rfl<|bE N λx4 hy13 N=>zCO 1 rfl rfl rfl h2 hy13 ?_;intro ad aA az bL ap;obtain rfl:=ap;refine zHm 1 0 az bL [vI x4] (vI x4) rfl rfl<|zX 9 [] [98] rfl<|bE N λx5 hy14 N=>zCO 1 rfl rfl rfl h2 hy14 ?_;intro ad1 bv aQ hcc1 aN;obtain rfl:=aN;obtain⟨l,hy15,N⟩:=zC N;refine kQ (c:=[vI (W (x4+(W (by0*n0))))]) (x':=(W (x4+(W (by0*n0))))) 1 0 rfl rfl rfl aQ rfl rfl hcc1 (by kernel_rfl) (by kernel_rfl) (by kernel_rfl) h2 hy14 (by kernel_rfl) rfl ?_;rw[show Coefs.set y8.toNat (W (x4+(W (by0*n0))))=l from zD hy15];intro bM h15 hl0;exact mW (m':=[(0,vT ak.l),(2,vP b 0),(4,vP b1 0),(5,vT s2.l),(91,vS p2 Coefs c2),(92,vI y8),(98,vI (W (x4+(W (by0*n0)))))]) ⟨rfl,rfl,rfl,rfl,rfl,rfl,rfl,trivial⟩<|zCa (ag:=[hB b1 [vS p2 l c2,vI Const],hO Int (vS p2 l c2) bM,hB b (cAff x2 p5 c5)]) (m':=[(0,vT ak.l),(2,vP b 0),(4,vP b1 0),(5,vT s2.l),(91,vS p2 l c2),(92,vI y8),(98,vI (W (x4+(W (by0*n0)))))]) (by first|rfl|simp only[vS,hl0,cq,cy,ec,dt,dy,dz]) (by first|rfl|simp only[vS,hl0])<|zV rfl<|yM<|zJ ⟨_,_,_,_,_,_,_,_,(zD N).symm,H,h9,h15,rfl,rfl⟩
   intro hc11 N;refine yH<|zX 1 [] [71] rfl<|yT 2 [z0,vI 0] rfl<|wG [] [(3,vF)]<|xP<|zF<|zS<|zS<|zF ?_;obtain rfl:=zD N;exact hr _ _ _ _ (zD hMc6).symm (hle06.trans H) ⟨_,_,(.cell 2 rfl rfl (by kernel_rfl) (.tmp rfl ResV.nil)),zH,⟨_,_,rfl,rfl,⟨_,rfl,(zZ ⟨_,rfl,(SL.nil _)⟩)⟩,rfl⟩⟩
  rintro I013 aj m2 ⟨x3,Coefs2,Const2,p6,c6,p7,c7,br,heq7,le14,h13,h14,rfl,rfl⟩;subst o06;have ⟨hG,H⟩:=m2 le14 hG H;exact zQ<|zQ<|uK<|fW<|ih s2 x3 Coefs2 Const2 _ hMc6 H hG h13 h14 hg ho hx hr
 intro ay N;exact pG<|yM<|hx _ _ _ _ _ _ _ _ _ (zD N).symm H h1 h2
def tQ(ak:Str):Option (zA×Bool):=do
 let y<-pF 0
 if(decide ((ak.l.length:Int)>100)) then
  pure ((zA.mk ([]:List Int) 0),false)
 else
  match<-zT ak (zA.mk ([]:List Int) 0) y.Coefs y.Const with
  | .ret r0=>pure r0
  | .done (x1,Coefs1,Const1)=>
   let t108<-(do
    let y9<-vU (zA.mk Coefs1 Const1)
    if(!y9) then
     pure true
    else
     let y10<-uY (zA.mk Coefs1 Const1)
     pure (!(y10.l==ak.l))
      : Option Bool)
   if t108 then
    pure ((zA.mk ([]:List Int) 0),false)
   else
    pure ((zA.mk Coefs1 Const1),true)
theorem nG:∀ak r,tQ ak=some r->∀{I:Imm} ,(GH Tryz.prog I)->RT 129 [vT ak.l] I [] (qO  r):=by
 intro ak r N I  hG;unfold tQ at N;refine yK func129 λB=>?_;have H:=iS I;refine yH<|uF [z0,vI 0] ?_;intro b hb;refine wG [] []<|yW<|bE N λy hy N=>xS (zAU 0 _ hy ) ?_;rintro I0 aj v2 k2 le - ⟨p,c,cs,rfl,rfl,h⟩ -;have ⟨hG,H⟩:=m2 le hG H;refine uF [z0,vI 0] ?_;intro b1 hb1;refine yT 0 (cAff y p c) rfl<|zV rfl<|yL<|xB [18] rfl<|zG<|yJ N ?_ ?_
 ·intro hc N;refine yH<|zX 1 [] [19] rfl<|yT 2 [z0,vI 0] rfl<|wG [] [(3,vF)]<|xP<|zF ?_;obtain rfl:=zD N;exact xN ⟨_,_,(.cell 2 rfl rfl (by kernel_rfl) (.tmp rfl ResV.nil)),zH,⟨_,_,rfl,rfl,⟨_,rfl,(zZ ⟨_,rfl,(SL.nil _)⟩)⟩,rfl⟩⟩
 intro hc N;refine zO<|yL<|xB [5] rfl<|rX<|gY [(0,vT ak.l),(2,vP b 0),(4,vP b1 0),(5,vT ak.l)] ?_;obtain⟨o08,ho08,aM⟩:=zC N;refine kY ak (zA.mk ([]:List Int) 0) y.Coefs y.Const o08 ho08 iR hG (SL.nil _) h (λ_ _ _ h=>h) (λ_ _ h=>h) ?_ ?_
 ·intro I015 x1 Coefs1 Const1 p3 c3 p4 c4 aX heq8 le15 h3 h4;subst o08;have ⟨hG,H⟩:=m2 le15 hG H;refine yF<|yL<|yB<|eK 1 rfl ?_;intro I016 le16 hl01;have h16:=SL.of_frozen hl01 le16 h4;have ⟨hG,H⟩:=m2 le16 hG H;refine wT aM [hB b1 [vS p4 Coefs1 c4,vI Const1],hB b (cAff x1 p3 c3)] (λt108=>[(2,vP b 0),(4,vP b1 0),(108,.bool t108)]) (λo09 ho09=>?_) ?_
  ·have H:=iS I016;refine zI<|sW 1 [0] [(100,vA [vS p4 Coefs1 c4,vI Const1])] ?_;obtain⟨y9,hy16,N⟩:=zC ho09;refine sD (rO (zA.mk Coefs1 Const1) _ hy16 h16) ?_;intro I018 le17;have ⟨h16,hG,H⟩:=m3 le17 h16 hG H;refine zX 4 [] [103] rfl<|xE [103] N ?_ ?_
   ·intro hc12 N;exact wG [] [(108,vY)]<|yM<|zJ (ct N H)
   intro hc12 N;refine sW 5 [0] [(104,vA [vS p4 Coefs1 c4,vI Const1])]<|bE N λy10 hy17 N=>xS (pI (zA.mk Coefs1 Const1) _ hy17 h16 hG) ?_;rintro I019 aj v2 k2 le18 - ⟨v08,rfl,rfl,rfl⟩ -;have H:=H.trans le18;exact yS [] [108] rfl<|yM<|zJ (ct N H)
  intro t108 I017 le19 hMc8;have h16:=h16.mono le19;refine zG<|yJ hMc8 ?_ ?_
  ·intro hc13 N;refine yH<|zX 1 [] [109] rfl<|yT 1 [z0,vI 0] rfl<|wG [] [(3,vF)]<|xP<|zF ?_;obtain rfl:=zD N;exact xN ⟨_,_,(.cell 1 rfl rfl (by kernel_rfl) (.tmp rfl ResV.nil)),zH,⟨_,_,rfl,rfl,⟨_,rfl,(zZ ⟨_,rfl,(SL.nil _)⟩)⟩,rfl⟩⟩
  intro hc13 N;refine zO<|yW<|sW 1 [0] [(110,vA [vS p4 Coefs1 c4,vI Const1])]<|yT 1 [vS p4 Coefs1 c4,vI Const1] rfl<|wG [] [(3,vY)]<|zG<|yX ?_;obtain rfl:=zD N;exact xN ⟨_,_,(.cell 1 rfl rfl (by kernel_rfl) (.tmp rfl ResV.nil)),zH,⟨_,_,rfl,rfl,⟨_,rfl,(zZ ⟨_,rfl,h16⟩)⟩,rfl⟩⟩
 intro r0 I9 hs9 m9 bb le9 bc;subst bb;refine zS<|zF ?_;obtain rfl:=zD aM;exact xN bc
def pZ(r:(List zA)×Bool):KT:=λkk I' ag v=>
 ∃v0 v1,ag=[]/\v=tupV [v0,v1]/\SL I' v0 r.1/\v1=.bool r.2
def wK(y:(List Str))(aF:List zA)(t12:Int):Option (Out (List zA) ((List zA)×Bool)):=do
 if(decide (t12<(y.length:Int))) then
  let x<-idx y t12
  let (y2,y3)<-tQ x
  let t27<-(do
   if(!y3) then
    pure true
   else
    pure ((aF.length:Int)==2)
     : Option Bool)
  if t27 then
   pure (.ret (([]:List zA),false))
  else
   let aO<-app 32 aF ([y2]:List zA)
   wK y aO (W (t12+1))
 else
  pure (.done aF)
 partial_fixpoint
theorem kZ(y:(List Str)):∀(aF:List zA) (t12:Int) (o:Out (List zA) ((List zA)×Bool)),wK y aF t12=some o->∀{B}{I0 I:Imm}{Q p c p1 c1 cs},I0.le I->(S4 I p y c)->(GH Tryz.prog I)->(RL I cs aF)->NG Q->NO Q->(∀(I':Imm) (aC:List zA) (p2:Option Addr) (c2:Nat) (aH:List Value),o=(.done aC)->I0.le I'->(RL I' aH aC)->T 34 B Q (.exit 0) I' [hO zA (vS p2 aC c2) aH] [(4,vS p2 aC c2)])->(∀r I' ag m',o=(.ret r)->I0.le I'->RS Tryz.prog f111 B (pZ  r) I' ag m'->T 34 B Q .ret I' ag m')->J Tryz.prog 34 B (nav (bodyOf f111) [1,1,0,1,0]) Q I [hO zA (vS p1 aF c1) cs] [(4,vS p1 aF c1),(10,vS p y c),(11,vI (y.length:Int)),(12,vI t12)]:=by
 refine wK.partial_correctness y _ λaW ih aF t12 o N B I0 I Q p c p1 c1 cs H h hG h2 hg ho hx hr=>uQ hg ho<|xB [13] rfl<|yL<|yJ N ?_ ?_
 ·intro hc N;refine zO<|yL<|wM<|yH<|bE N λx au N=>qY rfl rfl h au ?_;intro ad aA az ap;obtain rfl:=ap;refine qU 0 az [vT x.l] (vT x.l) rfl<|yS [] [6] rfl<|yW<|zX 1 [] [17] rfl ?_;obtain⟨⟨y2,y3⟩,aB,N⟩:=zC N;refine xS (nG x _ aB hG) ?_;rintro aI aj v2 k2 ai - ⟨v01,v02,rfl,rfl,⟨aX,rfl,h4⟩,rfl⟩ -;have ⟨h2,h,hG,H⟩:=m4 ai h2 h hG H;obtain⟨p3,c3,rfl,h6⟩:=yP h4;refine zX 5 [] [19,20] rfl<|uF [z0,vI 0] ?_;intro b hb;refine yT 0 (cAff y2 p3 c3) rfl<|yS [] [8] rfl<|yL<|yB ?_;refine wT N [hB b (cAff y2 p3 c3),hO zA (vS p1 aF c1) cs] (λt27=>[(4,vS p1 aF c1),(7,vP b 0),(10,vS p y c),(11,vI (y.length:Int)),(12,vI t12),(27,.bool t27)]) (λo0 ar=>?_) ?_
  ·have H:=iS aI;refine zI<|zX 3 [] [23] rfl<|xE [23] ar ?_ ?_
   ·intro ay N;exact wG [] [(27,vY)]<|yM<|zJ (ct N H)
   intro ay N;exact yS [] [27] rfl<|yM<|zJ (ct N H)
  intro t27 aP aG aw;have ⟨h2,h,h6,hG,H⟩:=m5 aG h2 h h6 hG H;refine zG<|yJ aw ?_ ?_
  ·intro aJ N;exact xB [2,3] rfl<|xP<|zF<|zS<|zF<|zF<|hr _ _ _ _ (zD N).symm H ⟨_,_,(.tmp rfl (.tmp rfl ResV.nil)),zH,⟨_,_,rfl,rfl,(SL.nil _),rfl⟩⟩
  intro aJ N;refine zO<|zG<|zI<|sW 2 [0] [(28,vS p1 aF c1),(29,vA (cAff y2 p3 c3))]<|jL (cAff y2 p3 c3) zA ?_;intro b1 hb1;have h7:RL aP (cAff y2 p3 c3) ([y2]:List zA):=⟨(cAff y2 p3 c3),_,rfl,rfl,(zZ ⟨_,rfl,h6⟩),rfl⟩;obtain⟨aO,aK,N⟩:=zC N;exact zAA 50 2 2 rfl rfl rfl h2 (.inr ⟨0,rfl⟩) h7 aK λp4 c4 br h8=>oW (yR [1,2] (ag:=[hB b (cAff y2 p3 c3),hO zA (vS p4 aO c4) br]))<|yS [] [4] rfl<|zQ<|zG<|zI<|yS [] [12] rfl<|uK<|zBv (zN [1] rfl (by decide))<|fW<|ih aO (W (t12+1)) _ N H h hG h8 hg ho hx hr
 intro hc N;exact pG<|yM<|hx _ _ _ _ _ (zD N).symm H h2
def sS(ak:Str):Option ((List zA)×Bool):=do
 let y<-qH ak (⟨[44]⟩:Str)
 match<-wK y ([]:List zA) 0 with
 | .ret r0=>pure r0
 | .done aC=>
  pure (aC,true)
theorem fJ:∀ak r,sS ak=some r->∀{I:Imm} ,(GH Tryz.prog I)->RT 111 [vT ak.l] I [] (pZ  r):=by
 intro ak r N I  hG;unfold sS at N;refine yK func111 λB=>tK []<|zEz [(4,z0)]<|yL<|yH<|zX 1 [] [9] rfl<|bE N λy hy N=>xS (zAS ak (⟨[44]⟩:Str) _ hy hG) ?_;rintro I0 aj v2 k2 le - ⟨v0,rfl,rfl,h⟩ -;have hG:=hG.mono le;obtain⟨p,c,rfl⟩:=h.form;refine yS [] [11,12] rfl<|rX<|gY [(4,z0),(10,vS p y c),(11,vI (y.length:Int)),(12,vI 0)]<|zED zA λh1=>?_;obtain⟨aS,ax,aM⟩:=zC N;refine kZ y ([]:List zA) 0 aS ax iR h hG h1 (λ_ _ _ h=>h) (λ_ _ h=>h) ?_ ?_
 ·intro aZ aC p2 c2 aH heq1 aL h3;subst aS;refine yF<|qN [2,3] rfl<|xP<|tY 0 rfl ?_;intro bq aV hl0;have h9:=SL.of_frozen hl0 aV h3;obtain rfl:=zD aM;exact xN ⟨_,_,(.tmp rfl (.tmp rfl ResV.nil)),zH,⟨_,_,rfl,rfl,h9,rfl⟩⟩
 intro r0 I9 hs9 m9 bb le9 bc;subst bb;refine zS<|zF ?_;obtain rfl:=zD aM;exact xN bc
def zAV(b0:Nat)(r:Str×zK):KT:=λkk I' ag v=>
 ∃v0 k0,ag=[.blk b0 ⟨k0⟩]/\v=tupV [v0]/\v0=.string ⟨⟨r.1.l⟩⟩/\Rp.rep I' k0 r.2
def pC(r0:zK)(s:Str)(bits:(List Str)):Option (Str×zK):=do
 let (t15,x)<-(do
  if((s.l.length:Int)==0) then
   pure (true,r0)
  else
   let (y1,y2)<-yV r0 2
   pure ((y1==0),y2)
    : Option (Bool×zK))
 if t15 then
  pure (s,x)
 else
  let (y4,y5)<-yV x (s.l.length:Int)
  let s1<-sslc s 0 y4
  let (y7,y8)<-sI y5 bits
  let s2<-cat s1 y7
  let (y10,y11)<-yV y8 2
  let s3<-sslc s (W (y4+y10)) (s.l.length:Int)
  let s4<-cat s2 s3
  pure (s4,y11)
theorem zBY:∀r0 s bits r,pC r0 s bits=some r->∀{I:Imm}{al:Nat}{p c p1 c1},(S4 I p r0.b c)->(S4 I p1 bits c1)->RT 53 [vP al 0,vT s.l,vS p1 bits c1] I [hB al (cRd r0 p c)] (zAV al r):=by
 intro r0 s bits r N I al p c p1 c1 h h1;unfold pC at N;refine yK func53 λB=>?_;have H:=iS I;refine tK []<|yL<|yB ?_;obtain⟨o0,ar,aw⟩:=zC N;refine rR (λI' ag m'=>∃(t15:Bool) (x:zK) (p2:Option Addr) (c2:Nat),o0=(t15,x)/\I.le I'/\(S4 I' p2 x.b c2)/\ag=[hB al (cRd x p2 c2)]/\m'=[(0,vP al 0),(1,vT s.l),(2,vS p1 bits c1),(15,.bool t15)]) ?_ ?_
 ·have H:=iS I;refine zI<|zX 4 [] [11] rfl<|xE [11] ar ?_ ?_
  ·intro hc N;exact wG [] [(15,vY)]<|yM<|zJ ⟨_,_,_,_,(zD N).symm,H,h,rfl,rfl⟩
  intro hc N;refine zX 5 [] [12] rfl ?_;obtain⟨⟨y1,y2⟩,hy,N⟩:=zC N;refine tT (xT r0 2 _ hy h) rfl ?_;rintro aI aj v2 k2 le - ⟨v0,kk,rfl,rfl,rfl,h4⟩ -;have H:=H.trans le;obtain⟨p3,c3,rfl,h5⟩:=zW h4;exact yS [] [15] rfl<|yM<|zJ ⟨_,_,_,_,(zD N).symm,H,h5,rfl,rfl⟩
 rintro I0 aj m2 ⟨t15,x,p2,c2,heq,ai,h2,rfl,rfl⟩;subst o0;have ⟨h1,H⟩:=m2 ai h1 H;refine zG<|yJ aw ?_ ?_
 ·intro ay N;refine xB [6] rfl<|xP<|zF ?_;obtain rfl:=zD N;exact xN ⟨_,_,(.tmp rfl ResV.nil),(zN [0] rfl (by decide)),⟨_,_,rfl,rfl,rfl,(xH ⟨_,rfl,h2⟩)⟩⟩
 intro ay N;refine zO<|yW<|zX 3 [] [17,19] rfl ?_;obtain⟨⟨y4,y5⟩,au,N⟩:=zC N;refine tT (xT x (s.l.length:Int) _ au h2) rfl ?_;rintro aP aj v2 k2 aG - ⟨v02,kk1,rfl,rfl,rfl,h7⟩ -;have ⟨h1,H⟩:=m2 aG h1 H;obtain⟨p4,c4,rfl,h8⟩:=zW h7;refine yS [] [7] rfl<|zG<|yB ?_;obtain⟨s1,aB,N⟩:=zC N;obtain⟨⟨y7,y8⟩,aK,N⟩:=zC N;obtain⟨s2,aY,N⟩:=zC N;obtain⟨⟨y10,y11⟩,bo,N⟩:=zC N;obtain⟨s3,hy6,N⟩:=zC N;obtain⟨s4,hy7,N⟩:=zC N;refine sU [.p (vT s.l) [],.p (vI y4) [],.q (vT s1.l),.p (vP al 0) [],.p (vS p1 bits c1) [],.x (λI' v hx=>∃p5 c5,v=vT y7.l/\hx=[hB al (cRd y8 p5 c5)]/\(S4 I' p5 y8.b c5)),.q (vT s2.l),.p (vT s.l) [],.p (vI y4) [],.p (vP al 0) [],.x (λI' v hx=>∃p6 c6,v=vI y10/\hx=[hB al (cRd y11 p6 c6)]/\(S4 I' p6 y11.b c6)),.q (vI (W (y4+y10))),.q (vT s3.l),.q (vT s4.l)] [[],[],[(0,false),(1,false)],[],[],[(3,false),(4,false),(15,true)],[(2,false),(5,false)],[],[],[],[(9,false),(5,true)],[(8,false),(10,false)],[(7,false),(11,false)],[(6,false),(12,false)]] [] [[hB al (cRd y5 p4 c4)]] [(10,true),(13,false)] (yR [0]) ?_ ?_
 ·refine Op<|Op<|Oq ?_<|Op<|Op<|Ox ?_<|Oq ?_<|Op<|Op<|Op<|Ox ?_<|Oq ?_<|Oq ?_<|Oq ?_<|On
  ·intro I1 hf ai;exact vQ [21,22] rfl<|mD rfl aB<|vD iR
  ·rintro I1 hf ai _ _ ⟨rfl,rfl⟩ _ _ ⟨rfl,rfl⟩ _ _ rfl;refine vQ [24,25] rfl ?_;have H:=iS I1;have ⟨h1,h8⟩:=m2 ai h1 h8;refine tT (oG y5 bits _ aK h8 h1) rfl ?_;rintro aZ aj v2 k2 aL - ⟨v04,kk2,rfl,rfl,rfl,h10⟩ -;have H:=H.trans aL;obtain⟨p5,c5,rfl,h11⟩:=zW h10;exact tS [hB al (cRd y8 p5 c5)] H ⟨_,_,rfl,rfl,h11⟩
  ·rintro I1 hf ai _ _ ⟨rfl,rfl⟩ _ _ ⟨p5,c5,rfl,rfl,h11⟩;exact vQ [23,26] rfl<|rM rfl aY<|vD iR
  ·rintro I1 hf ai _ _ ⟨rfl,rfl⟩ _ _ ⟨p5,c5,rfl,rfl,h11⟩;refine vQ [30] rfl ?_;have H:=iS I1;refine tT (xT y8 2 _ bo h11) rfl ?_;rintro bq aj v2 k2 aV - ⟨v06,kk3,rfl,rfl,rfl,h13⟩ -;have H:=H.trans aV;obtain⟨p6,c6,rfl,h14⟩:=zW h13;exact tS [hB al (cRd y11 p6 c6)] H ⟨_,_,rfl,rfl,h14⟩
  ·rintro I1 hf ai _ _ ⟨rfl,rfl⟩ _ _ ⟨p6,c6,rfl,rfl,h14⟩;exact vQ [29,31] rfl<|R_p 12 [(32,vI (W (y4+y10)))]<|vD iR
  ·intro I1 hf ai;exact vQ [28,32] rfl<|mD rfl hy6<|vD iR
  intro I1 hf ai;exact vQ [27,33] rfl<|rM rfl hy7<|vD iR
 rintro bu bj _ _ ⟨p6,c6,rfl,rfl,h14⟩;refine vQ [34] rfl ?_;refine yS [] [6] rfl<|zG<|yX ?_;obtain rfl:=zD N;exact xN ⟨_,_,(.tmp rfl ResV.nil),(zN [0] rfl (by decide)),⟨_,_,rfl,rfl,rfl,(xH ⟨_,rfl,h14⟩)⟩⟩
def kL(r:zL×Int):KT:=λkk I' ag v=>
 ∃v0 v1,ag=[]/\v=tupV [v0,v1]/\(∃cs,v0=.agg ⟨cs⟩/\Rp.rep I' cs r.1)/\v1=.int .i64 r.2
def sB(code:(List UInt8)):Option (zL×Int):=do
 let y<-rV code
 let (y2,y3)<-yV y 4
 let (y5,y6)<-qK y3 y2
 let (y8,y9)<-qG y6 y5
 let (y11,y12)<-xC y9 ([2,1,3,0,4,(-1),5]:List Int)
 pure (y8,y11)
theorem jQ:∀code r,sB code=some r->∀{I:Imm}{p c},(S4 I p code c)->RT 72 [vS p code c] I [] (kL  r):=by
 intro code r N I p c h;unfold sB at N;refine yK func72 λB=>?_;have H:=iS I;refine yH<|uF [vT ([]),z0,vI 0,vI 0,z0,vI 0,vT ([]),z0,z0] ?_;intro b hb;refine wG [] []<|yW<|zX 1 [] [6] rfl<|bE N λy hy N=>xS (jH code _ hy h) ?_;rintro I0 aj v2 k2 le - ⟨b1,p1,c1,rfl,rfl,h1⟩ -;have H:=H.trans le;refine yS [] [4] rfl<|yW<|zX 3 [] [8,9,10] rfl ?_;obtain⟨⟨y2,y3⟩,au,N⟩:=zC N;refine tT (xT y 4 _ au h1) rfl ?_;rintro aI aj v2 k2 ai - ⟨v0,kk,rfl,rfl,rfl,h3⟩ -;have H:=H.trans ai;obtain⟨p2,c2,rfl,h4⟩:=zW h3;obtain⟨⟨y5,y6⟩,aB,N⟩:=zC N;refine tT (gJ y3 y2 _ aB h4) rfl ?_;rintro aP aj v2 k2 aG - ⟨v02,kk1,rfl,rfl,⟨cs,rfl,h5⟩,h6⟩ -;have H:=H.trans aG;obtain⟨p3,c3,p4,c4,p5,c5,p6,c6,rfl,h7,h8,h9,h10⟩:=rD h5;obtain⟨p7,c7,rfl,h11⟩:=zW h6;obtain⟨⟨y8,y9⟩,aK,N⟩:=zC N;refine tT (zAR y6 y5 _ aK h11 h7 h8 h9 h10) rfl ?_;rintro aZ aj v2 k2 aL - ⟨v08,kk2,rfl,rfl,⟨aH,rfl,h12⟩,h13⟩ -;have H:=H.trans aL;obtain⟨p8,c8,p9,c9,bg,bf,aR,aT,rfl,h14,h15,h16,h17⟩:=rD h12;obtain⟨bD,bC,rfl,h18⟩:=zW h13;refine uF [vT ([]),z0,vI 0,vI 0,z0,vI 0,vT ([]),z0,z0] ?_;intro b2 hb1;refine yT 0 (cStmt y8 p8 c8 p9 c9 bg bf aR aT) rfl<|zV rfl<|zG<|yB ?_;obtain⟨⟨y11,y12⟩,aY,N⟩:=zC N;refine sU [.p (vA (cStmt y8 p8 c8 p9 c9 bg bf aR aT)) [0],.p (vP b1 0) [],.x (λI' v hx=>∃b3,v=vS (some ⟨b3,0,none⟩) ([2,1,3,0,4,(-1),5]:List Int) 7/\hx=[]/\(SL I' (vS (some ⟨b3,0,none⟩) ([2,1,3,0,4,(-1),5]:List Int) 7) ([2,1,3,0,4,(-1),5]:List Int))),.x (λI' v hx=>∃bB bz,v=vI y11/\hx=[hB b1 (cRd y12 bB bz)]/\(S4 I' bB y12.b bz)),.x (λI' v hx=>hx=[hB b (cStmt y8 p8 c8 p9 c9 bg bf aR aT)])] [[],[],[],[(1,false),(2,false),(6,true)],[(0,false),(7,true)]] [hB b2 (cStmt y8 p8 c8 p9 c9 bg bf aR aT)] [[hB b1 (cRd y9 bD bC)],[hB b [vT ([]),z0,vI 0,vI 0,z0,vI 0,vT ([]),z0,z0]]] [(3,true),(4,true)] (yR [0,1,2]) ?_ ?_
 ·refine Op<|Op<|Ox ?_<|Ox ?_<|Ox ?_<|On
  ·intro I1 hf ai;refine I_h [] ?_;have H:=iS I1;refine mY (rI [2,1,3,0,4,(-1),5]) ?_;intro b3 bq aV h20;have H:=H.trans aV;exact tS [] H ⟨_,rfl,rfl,h20⟩
  ·rintro I1 hf ai _ _ ⟨rfl,rfl⟩ _ _ ⟨b3,rfl,rfl,h20⟩ _ _ rfl;refine vQ [15,16] rfl ?_;have H:=iS I1;have h18:=h18.mono ai;refine tT (wC y9 ([2,1,3,0,4,(-1),5]:List Int) _ aY h18 h20) rfl ?_;rintro bu aj v2 k2 bj - ⟨v014,kk3,rfl,rfl,rfl,h22⟩ -;have H:=H.trans bj;obtain⟨bB,bz,rfl,h23⟩:=zW h22;exact tS [hB b1 (cRd y12 bB bz)] H ⟨_,_,rfl,rfl,h23⟩
  rintro I1 hf ai _ _ ⟨rfl,rfl⟩ _ _ rfl;refine vQ [2,14] rfl ?_;have H:=iS I1;exact zBO 0 (cStmt y8 p8 c8 p9 c9 bg bf aR aT) (hB b (cStmt y8 p8 c8 p9 c9 bg bf aR aT)::hB b2 (cStmt y8 p8 c8 p9 c9 bg bf aR aT)::hf) rfl rfl rfl rfl<|zDM (hx:=[hB b (cStmt y8 p8 c8 p9 c9 bg bf aR aT)]) rfl H rfl (zDN (v:=undef)) rfl
 rintro I06 bt _ _ ⟨bB,bz,rfl,rfl,h23⟩ _ _ rfl;refine vQ [2,17] rfl ?_;have ⟨h14,h15,h16,h17⟩:=m4 bt h14 h15 h16 h17;refine yS [] [3] rfl<|zG<|yX ?_;obtain rfl:=zD N;exact xN ⟨_,_,(.cell 0 rfl rfl (by kernel_rfl) (.tmp rfl ResV.nil)),zH,⟨_,_,rfl,rfl,⟨_,rfl,(wZ ⟨_,_,_,_,rfl,h14,h15,h16,h17⟩)⟩,rfl⟩⟩
def mU(r:zL):KT:=λkk I' ag v=>
 ∃v0,ag=[]/\v=tupV [v0]/\(∃cs,v0=.agg ⟨cs⟩/\Rp.rep I' cs r)
def tL(code:(List UInt8)):Option (zL):=do
 let (y1,y2)<-sB code
 pure (id y1)
theorem jA:∀code r,tL code=some r->∀{I:Imm}{p c},(S4 I p code c)->RT 27 [vS p code c] I [] (mU  r):=by
 intro code r N I p c h;unfold tL at N;refine yK func27 λB=>yH<|uF [vT ([]),z0,vI 0,vI 0,z0,vI 0,vT ([]),z0,z0] ?_;intro b hb;refine zV rfl<|yW<|zX 1 [] [6] rfl ?_;obtain⟨⟨y1,y2⟩,hy,N⟩:=zC N;refine xS (jQ code _ hy h) ?_;rintro I0 aj v2 k2 le - ⟨v0,v01,rfl,rfl,⟨cs,rfl,h1⟩,rfl⟩ -;obtain⟨p1,c1,p2,c2,p3,c3,p4,c4,rfl,h3,h4,h5,h6⟩:=rD h1;refine zX 5 [] [8,9] rfl<|uF [vT ([]),z0,vI 0,vI 0,z0,vI 0,vT ([]),z0,z0] ?_;intro b1 hb1;refine yT 0 (cStmt y1 p1 c1 p2 c2 p3 c3 p4 c4) rfl<|wG [] []<|yW<|sW 1 [0] [(10,vA (cStmt y1 p1 c1 p2 c2 p3 c3 p4 c4))]<|yT 1 (cStmt y1 p1 c1 p2 c2 p3 c3 p4 c4) rfl<|zV rfl<|zG<|yX ?_;obtain rfl:=zD N;exact xN ⟨_,_,(.cell 1 rfl rfl (by kernel_rfl) ResV.nil),zH,⟨_,rfl,rfl,⟨_,rfl,(wZ ⟨_,_,_,_,rfl,h3,h4,h5,h6⟩)⟩⟩⟩
def qL(s:zL):Option (Bool):=do
 let y<-tN s 4
 pure (id y)
theorem gK:∀s r,qL s=some r->∀{I:Imm}{p c p1 c1 p2 c2 p3 c3},(S4 I p s.Write.Subs c)->(S4 I p1 s.Value.Index.Coefs c1)->(S4 I p2 s.Value.Read.Subs c2)->(S4 I p3 s.Value.Kids c3)->RT 73 [vA (cStmt s p c p1 c1 p2 c2 p3 c3)] I [] (zP  r):=by
 intro s r N I p c p1 c1 p2 c2 p3 c3 h h1 h2 h3;unfold qL at N;refine yK func73 λB=>yH<|sM (cStmt s p c p1 c1 p2 c2 p3 c3) ?_;intro b hb;refine wG [] []<|yW<|sW 1 [0] [(3,vA (cStmt s p c p1 c1 p2 c2 p3 c3))]<|bE N λy hy N=>sD (pS s 4 _ hy h h1 h2 h3) λI0 le=>wG [] [(2,.bool y)]<|zG<|yX ?_;obtain rfl:=zD N;exact wU
def tE(s:zL):Option (Str):=do
 let y<-qL s
 if(!y) then
  pure (⟨[]⟩:Str)
 else
  let y1<-sZ s
  pure (id y1)
theorem nY:∀s r,tE s=some r->∀{I:Imm}{p c p1 c1 p2 c2 p3 c3},(S4 I p s.Write.Subs c)->(S4 I p1 s.Value.Index.Coefs c1)->(S4 I p2 s.Value.Read.Subs c2)->(S4 I p3 s.Value.Kids c3)->(GH Tryz.prog I)->RT 28 [vA (cStmt s p c p1 c1 p2 c2 p3 c3)] I [] (yI  r):=by
 intro s r N I p c p1 c1 p2 c2 p3 c3 h h1 h2 h3 hG;unfold tE at N;refine yK func28 λB=>yH<|sM (cStmt s p c p1 c1 p2 c2 p3 c3) ?_;intro b hb;refine wG [] []<|yL<|yH<|sW 1 [0] [(3,vA (cStmt s p c p1 c1 p2 c2 p3 c3))]<|bE N λy hy N=>sD (gK s _ hy h h1 h2 h3) ?_;intro I0 le;have ⟨h,h1,h2,h3,hG⟩:=m5 le h h1 h2 h3 hG;refine yS [] [5] rfl<|zG<|yJ N ?_ ?_
 ·intro hc N;refine xB [2] rfl<|xP<|zF ?_;obtain rfl:=zD N;exact wU
 intro hc N;refine zO<|yW<|sW 1 [0] [(6,vA (cStmt s p c p1 c1 p2 c2 p3 c3))]<|bE N λy1 au N=>xS (kC s _ au h h1 h2 h3 hG) ?_;rintro aI aj v2 k2 ai - ⟨v01,rfl,rfl,rfl⟩ -;refine yS [] [2] rfl<|zG<|yX ?_;obtain rfl:=zD N;exact wU
def jR(b0:Nat)(r:UInt8×zR):KT:=λkk I' ag v=>
 ∃v0 k0,ag=[.blk b0 ⟨k0⟩]/\v=tupV [v0]/\v0=.int .u8 (r.1.toNat:Int)/\Rp.rep I' k0 r.2
def xG(r0:zR):Option (UInt8×zR):=do
 let t13<-(do
  if r0.bad then
   pure true
  else
   pure (r0.s.l==([]:List UInt8))
    : Option Bool)
 if t13 then
  pure ((0:UInt8),r0)
 else
  let b<-sidx r0.s 0
  pure (b,r0)
theorem nH:∀r0 r,xG r0=some r->∀{I:Imm}{al:Nat},RT 128 [vP al 0] I [hB al [vT r0.s.l,.bool r0.bad]] (jR al r):=by
 intro r0 r N I al;unfold xG at N;refine yK func128 λB=>?_;have H:=iS I;refine tK []<|yL<|yB ?_;refine wT N [hB al [vT r0.s.l,.bool r0.bad]] (λt13=>[(0,vP al 0),(13,.bool t13)]) (λo0 ar=>?_) ?_
 ·have H:=iS I;refine zI<|zX 5 [0] [7] rfl<|xE [7] ar ?_ ?_
  ·intro hc N;exact wG [] [(13,vY)]<|yM<|zJ (ct N H)
  intro hc N;exact yS [0] [13] rfl<|yM<|zJ (ct N H)
 intro t13 I0 le aw;refine zG<|yJ aw ?_ ?_
 ·intro ay N;refine xB [2] rfl<|xP<|zF ?_;obtain rfl:=zD N;exact xN ⟨_,_,(.tmp rfl ResV.nil),(zN [0] rfl (by decide)),⟨_,_,rfl,rfl,rfl,(xX rfl)⟩⟩
 intro ay N;refine zO<|yW<|zX 4 [0] [17] rfl<|bE N λb hy N=>pW rfl rfl hy<|yS [] [2] rfl<|zG<|yX ?_;obtain rfl:=zD N;exact xN ⟨_,_,(.tmp rfl ResV.nil),(zN [0] rfl (by decide)),⟨_,_,rfl,rfl,rfl,(xX rfl)⟩⟩
def gL(b0:Nat)(r:UInt8×zR):KT:=λkk I' ag v=>
 ∃v0 k0,ag=[.blk b0 ⟨k0⟩]/\v=tupV [v0]/\v0=.int .u8 (r.1.toNat:Int)/\Rp.rep I' k0 r.2
def wE(r0:zR):Option (UInt8×zR):=do
 let (y1,y2)<-xG r0
 if((y1.toNat:Int)==0) then
  pure ((0:UInt8),(zR.mk y2.s true))
 else
  let s<-sslc y2.s 1 (y2.s.l.length:Int)
  pure (y1,(zR.mk s y2.bad))
theorem sT:∀r0 r,wE r0=some r->∀{I:Imm}{al:Nat},RT 126 [vP al 0] I [hB al [vT r0.s.l,.bool r0.bad]] (gL al r):=by
 intro r0 r N I al;unfold wE at N;refine yK func126 λB=>tK []<|yW<|zX 1 [] [4] rfl ?_;obtain⟨⟨y1,y2⟩,hy,N⟩:=zC N;refine tT (nH r0 _ hy ) rfl ?_;rintro I0 aj v2 k2 le - ⟨v0,kk,rfl,rfl,rfl,h1⟩ -;obtain rfl:=yY h1;refine yS [] [3] rfl<|yL<|xB [7] rfl<|zG<|yJ N ?_ ?_
 ·intro hc N;refine yH<|zX 3 [] [10] rfl<|yT 0 [vT y2.s.l,vY] rfl<|zV rfl<|qN [2] rfl<|xP<|zF ?_;obtain rfl:=zD N;exact xN ⟨_,_,(.tmp rfl ResV.nil),(zN [0] rfl (by decide)),⟨_,_,rfl,rfl,rfl,(xX rfl)⟩⟩
 intro hc N;refine zO<|yW<|zX 5 [0] [11,15] rfl ?_;obtain⟨s,au,N⟩:=zC N;refine mD rfl au<|zX 8 [] [18] rfl<|yT 0 [vT s.l,.bool y2.bad] rfl<|zV rfl<|qN [2] rfl<|zG<|yX ?_;obtain rfl:=zD N;exact xN ⟨_,_,(.tmp rfl ResV.nil),(zN [0] rfl (by decide)),⟨_,_,rfl,rfl,rfl,(xX rfl)⟩⟩
def jS(b0:Nat)(r:zR):KT:=λkk I' ag v=>
 ∃k0,ag=[.blk b0 ⟨k0⟩]/\v=tupV []/\Rp.rep I' k0 r
def wY(r0:zR)(b:UInt8):Option (zR):=do
 let x<-(do
  let (y1,y2)<-wE r0
  if((y1.toNat:Int) != (b.toNat:Int)) then
   pure (zR.mk y2.s true)
  else
   pure (id y2)
    : Option zR)
 pure (id x)
theorem pA:∀r0 b r,wY r0 b=some r->∀{I:Imm}{al:Nat},RT 76 [vP al 0,.int .u8 (b.toNat:Int)] I [hB al [vT r0.s.l,.bool r0.bad]] (jS al r):=by
 intro r0 b r N I al;unfold wY at N;refine yK func76 λB=>?_;have H:=iS I;obtain⟨o0,ar,aw⟩:=zC N;refine rR (λI' ag m'=>∃(x:zR),o0=x/\I.le I'/\ag=[hB al [vT x.s.l,.bool x.bad]]/\m'=[]) ?_ ?_
 ·have H:=iS I;refine zI<|zX 2 [] [4,5] rfl ?_;obtain⟨⟨y1,y2⟩,hy,N⟩:=zC ar;refine tT (sT r0 _ hy ) rfl ?_;rintro aI aj v2 k2 le - ⟨v0,kk,rfl,rfl,rfl,h1⟩ -;have H:=H.trans le;obtain rfl:=yY h1;refine zX 6 [] [9] rfl<|xE [9] N ?_ ?_
  ·intro hc N;exact zX 13 [] [14,16] rfl<|yT 0 [vT y2.s.l,vY] rfl<|zV rfl<|yM<|zJ (ct N H)
  intro hc N;exact zX 13 [0] [14,16] rfl<|yT 0 [vT y2.s.l,.bool y2.bad] rfl<|zV rfl<|yM<|zJ (ct N H)
 rintro I0 aj m2 ⟨x,heq,ai,rfl,rfl⟩;subst o0;obtain rfl:=zD aw;exact zHG ⟨_,_,ResV.nil,(zN [0] rfl (by decide)),⟨_,rfl,rfl,(xX rfl)⟩⟩
def zAW(r:Str×Str×Bool):KT:=λkk I' ag v=>
 ∃(v0 v1 v2:Value),ag=[]/\v=tupV [v0,v1,v2]/\v0=.string ⟨⟨r.1.l⟩⟩/\v1=.string ⟨⟨r.2.1.l⟩⟩/\v2=.bool r.2.2
def pD(s:Str)(sep:Str):Option (Str×Str×Bool):=if s.l.length<4294967281 then some (⟨(Lib.cut s.l sep.l).1⟩,⟨(Lib.cut s.l sep.l).2.1⟩,(Lib.cut s.l sep.l).2.2) else none
theorem zBZ:∀(s sep:Str) r,pD s sep=some r->∀{I:Imm},GH Tryz.prog I->RT 89 [vT s.l,vT sep.l] I [] (zAW r):=by
 intro s sep r N I hG;unfold pD at N;split at N
 ·rename_i hi;cases N
  obtain ⟨g,hg,m,hm⟩:=hG.ml;obtain rfl:g=0:=(Option.some.inj ((show Tryz.prog.globalNamed "internal/bytealg.MaxLen"=some 0 by kernel_rfl).symm.trans hg)).symm;exact oC (fun w g=>(Tryz.strings_Cut ⟨⟨s.l⟩⟩ ⟨⟨sep.l⟩⟩ m w hi (g.cell hm)).mono fun e w' ⟨h1,n,h2⟩=>⟨h1,h2 ▸ ⟨rfl,rfl,rfl,Nat.le_refl _,fun _ _=>rfl⟩⟩) fun k=>⟨_,_,_,rfl,rfl,rfl,rfl,rfl⟩
 cases N
def jT(b0:Nat)(r:Str×zR):KT:=λkk I' ag v=>
 ∃v0 k0,ag=[.blk b0 ⟨k0⟩]/\v=tupV [v0]/\v0=.string ⟨⟨r.1.l⟩⟩/\Rp.rep I' k0 r.2
def vZ(r0:zR)(b:UInt8):Option (Str×zR):=do
 let (y1,y2,y3)<-pD r0.s (⟨([b]:List UInt8)⟩:Str)
 let x<-(do
  if r0.bad then
   pure (zR.mk y2 true)
  else
   pure (zR.mk y2 (!y3))
    : Option zR)
 pure (y1,x)
theorem nI:∀r0 b r,vZ r0 b=some r->∀{I:Imm}{al:Nat},(GH Tryz.prog I)->RT 127 [vP al 0,.int .u8 (b.toNat:Int)] I [hB al [vT r0.s.l,.bool r0.bad]] (jT al r):=by
 intro r0 b r N I al hG;unfold vZ at N;refine yK func127 λB=>?_;have H:=iS I;refine tK []<|zG<|yB ?_;obtain⟨⟨y1,y2,y3⟩,hy,N⟩:=zC N;refine sU [.p (vP al 0) [],.p (vP al 0) [],.p (vP al 0) [],.p (vT r0.s.l) [0],.p (.int .u8 (b.toNat:Int)) [],.x (λI' v hx=>∃b1,v=vS (some ⟨b1,0,none⟩) ([b]:List UInt8) 1/\hx=[]/\(SL I' (vS (some ⟨b1,0,none⟩) ([b]:List UInt8) 1) ([b]:List UInt8))),.q (vT ([b]:List UInt8)),.q (.tuple ⟨[vT y1.l,vT y2.l,.bool y3]⟩),.p (.tuple ⟨[vT y1.l,vT y2.l,.bool y3]⟩) [],.p (vT y1.l) [],.p (vT y2.l) [],.p (.bool y3) [],.p (vT y1.l) [],.p (vT y2.l) []] [[],[(0,false)],[(1,false)],[(2,false)],[],[(4,false)],[(5,false)],[(3,false),(6,false)],[(7,false)],[(8,false)],[(8,false)],[(8,false)],[(9,false)],[(10,false)]] [hB al [vT r0.s.l,.bool r0.bad]] [] [(11,false),(12,false),(13,false)] (yR [0]) ?_ ?_
 ·refine Op<|Op<|Op<|Op<|Op<|Ox ?_<|Oq ?_<|Oq ?_<|Op<|Op<|Op<|Op<|Op<|Op<|On
  ·intro I1 hf ai;refine vQ [13] rfl ?_;have H:=iS I1;refine mY (rc b rfl rN) ?_;intro b1 I0 le h1;have H:=H.trans le;exact tS [] H ⟨_,rfl,rfl,h1⟩
  ·rintro I1 hf ai _ _ ⟨b1,rfl,rfl,h1⟩;refine vQ [14] rfl ?_;obtain⟨_,k0,k01⟩:=id h1;exact zAw (l:=([b]:List UInt8)) rfl rfl rfl rfl (by kernel_rfl) (by kernel_rfl) (.inl k0) k01<|vD iR
  intro I1 hf ai;refine vQ [12,15] rfl ?_;have H:=iS I1;have hG:=hG.mono ai;refine xS (zBZ r0.s (⟨([b]:List UInt8)⟩:Str) _ hy hG) ?_;rintro aI aj v2 k2 ai - ⟨v0,v01,v02,rfl,rfl,rfl,rfl,rfl⟩ -;have H:=H.trans ai;exact vD H
 intro aP aG;refine vQ [0,5,6,19] rfl ?_;have H:=H.trans aG;refine yS [] [7] rfl<|zG<|yB ?_;obtain⟨o0,ar,aw⟩:=zC N;refine rR (λI' ag m'=>∃(x:zR),o0=x/\aP.le I'/\ag=[hB al [vT x.s.l,.bool x.bad]]/\m'=[(5,vT y1.l)]) ?_ ?_
 ·have H:=iS aP;refine zI<|zX 8 [0] [20,21,22,27] rfl<|xE [27] ar ?_ ?_
  ·intro hc N;exact zX 13 [] [30,32] rfl<|yT 0 [vT y2.l,.bool r0.bad] rfl<|zX 16 [] [34] rfl<|yT 0 [vT y2.l,vY] rfl<|zV rfl<|yM<|zJ (ct N H)
  intro hc N;exact zX 13 [] [30,32] rfl<|yT 0 [vT y2.l,.bool r0.bad] rfl<|zX 16 [] [34] rfl<|yT 0 [vT y2.l,.bool (!y3)] rfl<|zV rfl<|yM<|zJ (ct N H)
 rintro aZ aj m2 ⟨x,heq,aL,rfl,rfl⟩;subst o0;refine qN [4] rfl<|zG<|yX ?_;obtain rfl:=zD aw;exact xN ⟨_,_,(.tmp rfl ResV.nil),(zN [0] rfl (by decide)),⟨_,_,rfl,rfl,rfl,(xX rfl)⟩⟩
def kM(b0:Nat)(r:zE×zR):KT:=λkk I' ag v=>
 ∃v0 k0,ag=[.blk b0 ⟨k0⟩]/\v=tupV [v0]/\(∃cs,v0=.agg ⟨cs⟩/\Rp.rep I' cs r.1)/\Rp.rep I' k0 r.2
def wF(r0:zR):Option (zE×zR):=do
 let (y1,y2)<-wE r0
 let y3<-wY y2 (91:UInt8)
 let (y5,y6)<-vZ y3 (93:UInt8)
 let (y8,y9)<-sS y5
 let (bad,Subs)<-(do
  if y6.bad then
   pure (true,y8)
  else
   pure ((!y9),y8)
    : Option (Bool×List zA))
 pure ((zE.mk (⟨([y1]:List UInt8)⟩:Str) Subs),(zR.mk y6.s bad))
theorem oA:∀r0 r,wF r0=some r->∀{I:Imm}{al:Nat},(GH Tryz.prog I)->RT 75 [vP al 0] I [hB al [vT r0.s.l,.bool r0.bad]] (kM al r):=by
 intro r0 r N I al hG;unfold wF at N;refine yK func75 λB=>?_;have H:=iS I;refine yH<|uF [vT ([]),z0] ?_;intro b hb;refine zV rfl<|yW<|zX 1 [] [6] rfl<|oW (yR [1,0] (ag:=[hB al [vT r0.s.l,.bool r0.bad],hB b [vT ([]),z0]])) ?_;obtain⟨⟨y1,y2⟩,hy,N⟩:=zC N;refine tT (sT r0 _ hy ) rfl ?_;rintro I0 aj v2 k2 le - ⟨v0,kk,rfl,rfl,rfl,h1⟩ -;have ⟨hG,H⟩:=m2 le hG H;obtain rfl:=yY h1;refine jL [.int .u8 (y1.toNat:Int)] UInt8 ?_;intro b1 hb1;have h2:RL I0 [.int .u8 (y1.toNat:Int)] ([y1]:List UInt8):=⟨[.int .u8 (y1.toNat:Int)],_,rfl,rfl,rfl,rfl⟩;refine zAw (l:=([y1]:List UInt8)) rfl rfl rfl rfl (by kernel_rfl) (by kernel_rfl) (.inr ⟨0,rfl⟩) h2<|zX 5 [] [10] rfl<|uF [vT ([]),z0] ?_;intro b2 hb2;refine yT 0 [vT ([y1]:List UInt8),z0] rfl<|zV rfl<|yW<|zX 1 [] [11] rfl<|oW (yR [2,0,1,3] (ag:=[hB al [vT y2.s.l,.bool y2.bad],hB b2 [vT ([y1]:List UInt8),z0],hO UInt8 (vS (some ⟨b1,0,none⟩) ([y1]:List UInt8) 1) [.int .u8 (y1.toNat:Int)],hB b [vT ([]),z0]]))<|bE N λy3 au N=>tT (pA y2 (91:UInt8) _ au ) rfl ?_;rintro aI aj v2 k2 ai - ⟨kk1,rfl,rfl,h3⟩ -;have ⟨hG,H⟩:=m2 ai hG H;obtain rfl:=yY h3;refine zV rfl<|yW<|zX 1 [] [14] rfl ?_;obtain⟨⟨y5,y6⟩,aB,N⟩:=zC N;refine tT (nI y3 (93:UInt8) _ aB hG) rfl ?_;rintro aP aj v2 k2 aG - ⟨v01,kk2,rfl,rfl,rfl,h5⟩ -;have ⟨hG,H⟩:=m2 aG hG H;obtain rfl:=yY h5;obtain⟨⟨y8,y9⟩,aK,N⟩:=zC N;refine xS (fJ y5 _ aK hG) ?_;rintro aZ aj v2 k2 aL - ⟨v02,v03,rfl,rfl,h6,rfl⟩ -;have H:=H.trans aL;obtain⟨p,c,rfl⟩:=h6.form;refine yS [] [4,5] rfl<|zG<|yB ?_;obtain⟨o0,ar,aw⟩:=zC N;refine rR (λI' ag m'=>∃(bad:Bool) (Subs:List zA) (p1:Option Addr) (c1:Nat),o0=(bad,Subs)/\aZ.le I'/\(S4 I' p1 Subs c1)/\ag=[hB al [vT y6.s.l,.bool bad],hB b2 [vT ([y1]:List UInt8),vS p1 Subs c1],hB b [vT ([]),z0]]/\m'=[(2,vP b 0),(3,vP b2 0)]) ?_ ?_
 ·have H:=iS aZ;refine zI<|zX 7 [0] [19,20,25] rfl<|xE [25] ar ?_ ?_
  ·intro hc N;exact zX 11 [] [28,29] rfl<|yT 1 [vT ([y1]:List UInt8),vS p y8 c] rfl<|zX 14 [] [31] rfl<|yT 0 [vT y6.s.l,vY] rfl<|zV rfl<|xW (zN [0,1,3] rfl (by decide))<|yM<|zJ ⟨_,_,_,_,(zD N).symm,H,h6,rfl,rfl⟩
  intro hc N;exact zX 11 [] [28,29] rfl<|yT 1 [vT ([y1]:List UInt8),vS p y8 c] rfl<|zX 14 [] [31] rfl<|yT 0 [vT y6.s.l,.bool (!y9)] rfl<|zV rfl<|xW (zN [0,1,3] rfl (by decide))<|yM<|zJ ⟨_,_,_,_,(zD N).symm,H,h6,rfl,rfl⟩
 rintro bq aj m2 ⟨bad,Subs,p1,c1,heq,aV,h8,rfl,rfl⟩;subst o0;refine yW<|sW 1 [1] [(32,vA [vT ([y1]:List UInt8),vS p1 Subs c1])]<|yT 2 [vT ([y1]:List UInt8),vS p1 Subs c1] rfl<|zV rfl<|zG<|yX ?_;obtain rfl:=zD aw;exact xN ⟨_,_,(.cell 2 rfl rfl (by kernel_rfl) ResV.nil),(zN [0] rfl (by decide)),⟨_,_,rfl,rfl,⟨_,rfl,(qV ⟨_,rfl,h8⟩)⟩,(xX rfl)⟩⟩
def rP(s:Str)(c:UInt8):Option Int:=some (Lib.indexByte s.l c)
theorem gN:∀s c r,rP s c=some r->∀{I:Imm},RT 130 [vT s.l,.int .u8 (c.toNat:Int)] I [] (yZ r):=by
 intro s c r N I;unfold rP at N;cases N
 refine oC (λw g=>(Tryz.strings_IndexByte ⟨⟨s.l⟩⟩ (c.toNat:Int) w).mono λe w' ⟨h1,h2⟩=>⟨?_,h2 ▸ RowKit.Below.refl _ _⟩) λk=>⟨_,rfl,rfl,rfl⟩;rw[h1];simp;rfl
def jU(b0:Nat)(r:zB×zR):KT:=λkk I' ag v=>
 ∃v0 k0,ag=[.blk b0 ⟨k0⟩]/\v=tupV [v0]/\(∃cs,v0=.agg ⟨cs⟩/\Rp.rep I' cs r.1)/\Rp.rep I' k0 r.2
def wL(y2:zR)(n0:Int):Option (Int):=do
 let t63<-(do
  if(decide (n0<(y2.s.l.length:Int))) then
   if(decide (n0<3)) then
    let b1<-sidx y2.s n0
    if(decide ((b1.toNat:Int)>=48)) then
     let b2<-sidx y2.s n0
     pure (decide ((b2.toNat:Int)<=57))
    else
     pure false
   else
    pure false
  else
   pure false
    : Option Bool)
 if t63 then
  wL y2 (W (n0+1))
 else
  pure (id n0)
 partial_fixpoint
theorem jB(y2:zR):∀(n0:Int) (o:Int),wL y2 n0=some o->∀{B}{I0 I:Imm}{Q}  {al:Nat}{b:Nat},I0.le I->(GH Tryz.prog I)->NG Q->NO Q->(∀(I':Imm) (n01:Int),o=n01->I0.le I'->T 149 B Q (.exit 1) I' [hB al [vT y2.s.l,.bool y2.bad],hB b zExpr] [(0,vP al 0),(4,vP b 0),(6,vI n01)])->J Tryz.prog 149 B (nav (bodyOf f77) [1,1,0,1,0,1,1,1,0,1,0,0]) Q I [hB al [vT y2.s.l,.bool y2.bad],hB b zExpr] [(0,vP al 0),(4,vP b 0),(6,vI n0)]:=by
 refine wL.partial_correctness y2 _ λaW ih n0 o N B I0 I Q al b H hG hg ho hx=>uQ hg ho<|yB<|yB ?_;refine wT N [hB al [vT y2.s.l,.bool y2.bad],hB b zExpr] (λt63=>[(0,vP al 0),(4,vP b 0),(6,vI n0),(63,.bool t63)]) (λo02 ho02=>?_) ?_
 ·have H:=iS I;refine zI<|zX 8 [0] [42] rfl<|xE [42] ho02 ?_ ?_
  ·intro bn N;refine zX 12 [] [46] rfl<|xE [46] N ?_ ?_
   ·intro hc5 N;refine zX 17 [0] [50,51] rfl<|bE N λb1 au N=>pW rfl rfl au<|zX 21 [] [55] rfl<|xE [55] N ?_ ?_
    ·intro hc6 N;exact zX 26 [0] [59,60] rfl<|bE N λb2 aB N=>pW rfl rfl aB<|yS [] [63] rfl<|yM<|zJ (ct N H)
    intro hc6 N;exact wG [] [(63,vF)]<|yM<|zJ (ct N H)
   intro hc5 N;exact wG [] [(63,vF)]<|yM<|zJ (ct N H)
  intro bn N;exact wG [] [(63,vF)]<|yM<|zJ (ct N H)
 intro t63 aZ aL hMc2;have ⟨hG,H⟩:=m2 aL hG H;refine zG<|yJ hMc2 ?_ ?_
 ·intro hc7 N;exact zO<|rX<|zI<|yS [] [6] rfl<|zQ<|uK<|fW<|ih (W (n0+1)) _ N H hG hg ho hx
 intro hc7 N;exact pG<|yM<|hx _ _ (zD N).symm H
def yA(r0:zR)(deep:Int):Option (zB×zR):=do
 let bad<-(do
  if(decide (deep>5)) then
   pure true
  else
   pure r0.bad
    : Option Bool)
 let (y1,y2)<-xG (zR.mk r0.s bad)
 if((y1.toNat:Int)==0) then
  pure ((zB.mk 0 0 (zA.mk ([]:List Int) 0) (zE.mk (⟨[]⟩:Str) ([]:List zA)) ([]:List zB)),(zR.mk y2.s true))
 else
  let t28<-(do
   if(decide ((y1.toNat:Int)>=48)) then
    pure (decide ((y1.toNat:Int)<=57))
   else
    pure false
     : Option Bool)
  if t28 then
   let n01<-wL y2 0
   let s<-sslc y2.s 0 n01
   let (y4,y5)<-uN s
   let s1<-sslc y2.s n01 (y2.s.l.length:Int)
   pure ((zB.mk 1 y4 (zA.mk ([]:List Int) 0) (zE.mk (⟨[]⟩:Str) ([]:List zA)) ([]:List zB)),(zR.mk s1 y2.bad))
  else
   if((y1.toNat:Int)==123) then
    let (y7,y8)<-wE y2
    let (y10,y11)<-vZ y8 (125:UInt8)
    let (y13,y14)<-tQ y10
    let bad1<-(do
     if y11.bad then
      pure true
     else
      pure (!y14)
       : Option Bool)
    pure ((zB.mk 2 0 y13 (zE.mk (⟨[]⟩:Str) ([]:List zA)) ([]:List zB)),(zR.mk y11.s bad1))
   else
    if((y1.toNat:Int)==40) then
     let (y16,y17)<-wE y2
     let (y19,y20)<-yA (same y17) (W (deep+1))
     let (y22,y23)<-wE y20
     let y24<-rP (⟨[43,45,42]⟩:Str) y22
     let (y26,y27)<-yA (same y23) (W (deep+1))
     let y28<-wY y27 (41:UInt8)
     let bad2<-(do
      if y28.bad then
       pure true
      else
       pure (decide (y24<0))
        : Option Bool)
     pure ((zB.mk (W (4+y24)) 0 (zA.mk ([]:List Int) 0) (zE.mk (⟨[]⟩:Str) ([]:List zA)) ([y19,y26]:List zB)),(zR.mk y28.s bad2))
    else
     let (y30,y31)<-wF y2
     pure ((zB.mk 3 0 (zA.mk ([]:List Int) 0) y30 ([]:List zB)),y31)
 partial_fixpoint
theorem fK:∀r0 deep r,yA r0 deep=some r->∀{I:Imm}{al:Nat},(GH Tryz.prog I)->RT 77 [vP al 0,vI deep] I [hB al [vT r0.s.l,.bool r0.bad]] (jU al r):=by
 refine yA.partial_correctness _ λF_impl_reader_expr ih_impl_reader_expr r0 deep r N I al hG=>yK func77 λB=>?_;have H:=iS I;refine yH<|uF zExpr ?_;intro b hb;refine zV rfl<|yL<|xB [15] rfl<|zG ?_;obtain⟨o0,ar,aw⟩:=zC N;refine rR (λI' ag m'=>∃(bad:Bool),o0=bad/\I.le I'/\ag=[hB b zExpr,hB al [vT r0.s.l,.bool bad]]/\m'=[(0,vP al 0),(1,vI deep),(4,vP b 0)]) ?_ ?_
 ·have H:=iS I;refine yJ ar ?_ ?_
  ·intro hc N;exact zI<|zX 3 [] [18] rfl<|yT 1 [vT r0.s.l,vY] rfl<|zV rfl<|yM<|zJ (ct N H)
  intro hc N;exact zO<|yM<|zJ (ct N H)
 rintro I0 aj m2 ⟨bad,heq,le,rfl,rfl⟩;subst o0;have ⟨hG,H⟩:=m2 le hG H;refine yL<|yH<|zX 1 [] [19] rfl<|oW (yR [1,0] (ag:=[hB al [vT r0.s.l,.bool bad],hB b zExpr])) ?_;obtain⟨⟨y1,y2⟩,hy,N⟩:=zC aw;refine tT (nH (zR.mk r0.s bad) _ hy ) rfl ?_;rintro aI aj v2 k2 ai - ⟨v0,kk,rfl,rfl,rfl,h1⟩ -;have ⟨hG,H⟩:=m2 ai hG H;obtain rfl:=yY h1;refine yS [] [5] rfl<|rX<|xB [21] rfl<|zG<|yJ N ?_ ?_
 ·intro ay N;refine yH<|zX 3 [] [26] rfl<|yT 0 [vT y2.s.l,vY] rfl<|zV rfl<|yW<|zX 1 [] [27] rfl<|zBO 1 zExpr [hB al [vT y2.s.l,vY],hB b zExpr] rfl rfl rfl rfl<|zV rfl<|xP<|zS<|zF ?_;obtain rfl:=zD N;exact xN ⟨_,_,(.cell 1 rfl rfl (by kernel_rfl) ResV.nil),(zN [0] rfl (by decide)),⟨_,_,rfl,rfl,⟨_,rfl,(yG ⟨_,_,_,rfl,(SL.nil _),(SL.nil _),(SL.nil _)⟩)⟩,(xX rfl)⟩⟩
 intro ay N;refine yB ?_;refine wT N [hB al [vT y2.s.l,.bool y2.bad],hB b zExpr] (λt28=>[(0,vP al 0),(1,vI deep),(4,vP b 0),(5,.int .u8 (y1.toNat:Int)),(28,.bool t28)]) (λaS ax=>?_) ?_
 ·have H:=iS aI;refine zI<|zX 3 [] [31] rfl<|xE [31] ax ?_ ?_
  ·intro aJ N;exact yS [] [28] rfl<|yM<|zJ (ct N H)
  intro aJ N;exact wG [] [(28,vF)]<|yM<|zJ (ct N H)
 intro t28 aP aG hMc1;have ⟨hG,H⟩:=m2 aG hG H;refine zG<|yJ hMc1 ?_ ?_
 ·intro bd N;refine xB [6] rfl<|yL<|wM<|gY [(0,vP al 0),(4,vP b 0),(6,vI 0)] ?_;obtain⟨o03,ho03,aM⟩:=zC N;refine jB y2 0 o03 ho03 iR hG (λ_ _ _ h=>h) (λ_ _ h=>h) ?_;intro bq n01 heq3 aV;subst o03;have hG:=hG.mono aV;refine yF<|yW<|zX 5 [0] [70,71] rfl ?_;obtain⟨s,aK,N⟩:=zC aM;refine mD rfl aK ?_;obtain⟨⟨y4,y5⟩,aY,N⟩:=zC N;refine xS (jK s _ aY hG) ?_;rintro bu aj v2 k2 bj - ⟨v01,v02,rfl,rfl,rfl,h3⟩ -;refine yS [] [7] rfl<|yW<|zX 6 [0] [76,80,81] rfl ?_;obtain⟨s1,bo,N⟩:=zC N;refine mD rfl bo<|zX 9 [] [84] rfl<|yT 0 [vT s1.l,.bool y2.bad] rfl<|zV rfl<|yW<|zX 2 [] [86] rfl<|yT 1 [vI 1,vI y4,z0,vI 0,vT ([]),z0,z0] rfl<|zV rfl<|xP<|zS<|zF ?_;obtain rfl:=zD N;exact xN ⟨_,_,(.cell 1 rfl rfl (by kernel_rfl) ResV.nil),(zN [0] rfl (by decide)),⟨_,_,rfl,rfl,⟨_,rfl,(yG ⟨_,_,_,rfl,(SL.nil _),(SL.nil _),(SL.nil _)⟩)⟩,(xX rfl)⟩⟩
 intro bd N;refine xB [87] rfl<|zG<|yJ N ?_ ?_
 ·intro hc8 N;refine yH<|zX 1 [] [90] rfl ?_;obtain⟨⟨y7,y8⟩,hy6,N⟩:=zC N;refine tT (sT y2 _ hy6 ) rfl ?_;rintro I06 aj v2 k2 bt - ⟨v03,kk1,rfl,rfl,rfl,h5⟩ -;have ⟨hG,H⟩:=m2 bt hG H;obtain rfl:=yY h5;refine zV rfl<|yW<|zX 1 [] [93] rfl ?_;obtain⟨⟨y10,y11⟩,hy7,N⟩:=zC N;refine tT (nI y8 (125:UInt8) _ hy7 hG) rfl ?_;rintro I07 aj v2 k2 le7 - ⟨v04,kk2,rfl,rfl,rfl,h7⟩ -;have ⟨hG,H⟩:=m2 le7 hG H;obtain rfl:=yY h7;obtain⟨⟨y13,y14⟩,hy8,N⟩:=zC N;refine xS (nG y10 _ hy8 hG) ?_;rintro I08 aj v2 k2 le8 - ⟨v05,v06,rfl,rfl,⟨cs,rfl,h8⟩,rfl⟩ -;have H:=H.trans le8;obtain⟨p,c,rfl,h10⟩:=yP h8;refine zX 6 [] [96,97] rfl<|uF [z0,vI 0] ?_;intro b3 hb1;refine yT 0 (cAff y13 p c) rfl<|yS [] [10] rfl<|zG<|yB ?_;obtain⟨o04,ho04,hMc3⟩:=zC N;refine rR (λI' ag m'=>∃(bad1:Bool),o04=bad1/\I08.le I'/\ag=[hB b3 (cAff y13 p c),hB al [vT y11.s.l,.bool bad1],hB b zExpr]/\m'=[(4,vP b 0),(9,vP b3 0)]) ?_ ?_
  ·have H:=iS I08;refine zI<|zX 6 [1] [98,103] rfl<|xE [103] ho04 ?_ ?_
   ·intro hc9 N;exact zX 11 [] [106,108] rfl<|yT 1 [vT y11.s.l,vY] rfl<|zV rfl<|yM<|zJ (ct N H)
   intro hc9 N;exact zX 11 [] [106,108] rfl<|yT 1 [vT y11.s.l,.bool (!y14)] rfl<|zV rfl<|yM<|zJ (ct N H)
  rintro I09 aj m2 ⟨bad1,heq4,le9,rfl,rfl⟩;subst o04;have h10:=h10.mono le9;refine yW<|sW 2 [0] [(110,vA [vI 2,vI 0,vS p y13.Coefs c,vI y13.Const,vT ([]),z0,z0])]<|yT 2 [vI 2,vI 0,vS p y13.Coefs c,vI y13.Const,vT ([]),z0,z0] rfl<|zV rfl<|xP<|zS<|zF ?_;obtain rfl:=zD hMc3;exact xN ⟨_,_,(.cell 2 rfl rfl (by kernel_rfl) ResV.nil),(zN [1] rfl (by decide)),⟨_,_,rfl,rfl,⟨_,rfl,(yG ⟨_,_,_,rfl,h10,(SL.nil _),(SL.nil _)⟩)⟩,(xX rfl)⟩⟩
 intro hc8 N;refine xB [111] rfl<|zG<|yJ N ?_ ?_
 ·intro hc10 N;refine yH<|zX 1 [] [114] rfl ?_;obtain⟨⟨y16,y17⟩,hy9,N⟩:=zC N;refine tT (sT y2 _ hy9 ) rfl ?_;rintro bI aj v2 k2 le10 - ⟨v08,kk3,rfl,rfl,rfl,h12⟩ -;have ⟨hG,H⟩:=m2 le10 hG H;obtain rfl:=yY h12;refine zV rfl<|yW<|zX 3 [] [116,118] rfl ?_;obtain⟨⟨y19,y20⟩,hy10,N⟩:=zC N;refine tT (ih_impl_reader_expr y17 (W (deep+1)) _ hy10 hG) rfl ?_;rintro bJ aj v2 k2 le11 - ⟨v09,kk4,rfl,rfl,⟨aH,rfl,h13⟩,h14⟩ -;have ⟨hG,H⟩:=m2 le11 hG H;obtain⟨p1,c1,p2,c2,p3,c3,rfl,h15,h16,h17⟩:=xK h13;obtain rfl:=yY h14;refine uF zExpr ?_;intro b4 hb2;refine yT 0 (cExpr y19 p1 c1 p2 c2 p3 c3) rfl<|zV rfl<|yW<|zX 1 [] [120] rfl<|oW (yR [1,0,2] (ag:=[hB al [vT y20.s.l,.bool y20.bad],hB b4 (cExpr y19 p1 c1 p2 c2 p3 c3),hB b zExpr])) ?_;obtain⟨⟨y22,y23⟩,hy11,N⟩:=zC N;refine tT (sT y20 _ hy11 ) rfl ?_;rintro bG aj v2 k2 le12 - ⟨v013,kk5,rfl,rfl,rfl,h19⟩ -;have ⟨h15,h16,h17,hG,H⟩:=m5 le12 h15 h16 h17 hG H;obtain rfl:=yY h19;obtain⟨y24,hy12,N⟩:=zC N;refine zAD (gN (⟨[43,45,42]⟩:Str) y22 _ hy12 ) ?_;intro I013 le13;have ⟨h15,h16,h17,hG,H⟩:=m5 le13 h15 h16 h17 hG H;refine yS [] [12] rfl<|yW<|zX 3 [] [123,125] rfl ?_;obtain⟨⟨y26,y27⟩,hy13,N⟩:=zC N;refine tT (ih_impl_reader_expr y23 (W (deep+1)) _ hy13 hG) rfl ?_;rintro I014 aj v2 k2 le14 - ⟨v015,kk6,rfl,rfl,⟨aX,rfl,h21⟩,h22⟩ -;have ⟨h15,h16,h17,H⟩:=m4 le14 h15 h16 h17 H;obtain⟨p4,c4,p5,c5,p6,c6,rfl,h23,h24,h25⟩:=xK h21;obtain rfl:=yY h22;refine uF zExpr ?_;intro b5 hb3;refine yT 0 (cExpr y26 p4 c4 p5 c5 p6 c6) rfl<|zV rfl<|yW<|zX 1 [] [127] rfl<|oW (yR [1,0,2,3] (ag:=[hB al [vT y27.s.l,.bool y27.bad],hB b5 (cExpr y26 p4 c4 p5 c5 p6 c6),hB b4 (cExpr y19 p1 c1 p2 c2 p3 c3),hB b zExpr]))<|bE N λy28 hy14 N=>tT (pA y27 (41:UInt8) _ hy14 ) rfl ?_;rintro I015 aj v2 k2 le15 - ⟨kk7,rfl,rfl,h26⟩ -;have ⟨h23,h24,h25,h15,h16,h17⟩:=m6 le15 h23 h24 h25 h15 h16 h17;have H:=H.trans le15;obtain rfl:=yY h26;refine zV rfl<|zG<|yB ?_;obtain⟨o05,ho05,hMc4⟩:=zC N;refine rR (λI' ag m'=>∃(bad2:Bool),o05=bad2/\I015.le I'/\ag=[hB al [vT y28.s.l,.bool bad2],hB b5 (cExpr y26 p4 c4 p5 c5 p6 c6),hB b4 (cExpr y19 p1 c1 p2 c2 p3 c3),hB b zExpr]/\m'=[(4,vP b 0),(11,vP b4 0),(12,vI y24),(13,vP b5 0)]) ?_ ?_
  ·have H:=iS I015;refine zI<|zX 6 [0] [129,134] rfl<|xE [134] ho05 ?_ ?_
   ·intro hc11 N;exact zX 11 [] [137,139] rfl<|yT 0 [vT y28.s.l,vY] rfl<|zV rfl<|yM<|zJ (ct N H)
   intro hc11 N;exact zX 11 [] [137,139] rfl<|yT 0 [vT y28.s.l,.bool (decide (y24<0))] rfl<|zV rfl<|yM<|zJ (ct N H)
  rintro I016 aj m2 ⟨bad2,heq5,le16,rfl,rfl⟩;subst o05;have ⟨h23,h24,h25,h15,h16,h17⟩:=m6 le16 h23 h24 h25 h15 h16 h17;refine yW<|sW 4 [2,1] [(141,vI (W (4+y24))),(142,vA (cExpr y19 p1 c1 p2 c2 p3 c3)),(143,vA (cExpr y26 p4 c4 p5 c5 p6 c6))]<|jL [vI y19.Kind,vI y19.Num,vS p1 y19.Index.Coefs c1,vI y19.Index.Const,vT y19.Read.Array.l,vS p2 y19.Read.Subs c2,vS p3 y19.Kids c3,vI y26.Kind,vI y26.Num,vS p4 y26.Index.Coefs c4,vI y26.Index.Const,vT y26.Read.Array.l,vS p5 y26.Read.Subs c5,vS p6 y26.Kids c6] zB ?_;intro b6 hb4;have h27:RL I016 [vI y19.Kind,vI y19.Num,vS p1 y19.Index.Coefs c1,vI y19.Index.Const,vT y19.Read.Array.l,vS p2 y19.Read.Subs c2,vS p3 y19.Kids c3,vI y26.Kind,vI y26.Num,vS p4 y26.Index.Coefs c4,vI y26.Index.Const,vT y26.Read.Array.l,vS p5 y26.Read.Subs c5,vS p6 y26.Kids c6] ([y19,y26]:List zB):=⟨(cExpr y19 p1 c1 p2 c2 p3 c3),_,rfl,rfl,(yG ⟨_,_,_,rfl,h15,h16,h17⟩),⟨(cExpr y26 p4 c4 p5 c5 p6 c6),_,rfl,rfl,(yG ⟨_,_,_,rfl,h23,h24,h25⟩),rfl⟩⟩;refine zX 6 [] [145] rfl<|yT 4 [vI (W (4+y24)),vI 0,z0,vI 0,vT ([]),z0,vS (some ⟨b6,0,none⟩) ([y19,y26]:List zB) 2] rfl<|zV rfl<|xP<|zS<|zF<|tY 0 rfl ?_;intro I017 le17 hl0;have h28:=SL.of_frozen hl0 le17 h27;obtain rfl:=zD hMc4;exact xN ⟨_,_,(.cell 3 rfl rfl (by kernel_rfl) ResV.nil),(zN [0] rfl (by decide)),⟨_,_,rfl,rfl,⟨_,rfl,(yG ⟨_,_,_,rfl,(SL.nil _),(SL.nil _),h28⟩)⟩,(xX rfl)⟩⟩
 intro hc10 N;refine zO<|zQ<|yW<|zX 1 [] [146] rfl ?_;obtain⟨⟨y30,y31⟩,hy15,N⟩:=zC N;refine tT (oA y2 _ hy15 hG) rfl ?_;rintro I018 aj v2 k2 le18 - ⟨v019,kk8,rfl,rfl,⟨br,rfl,h29⟩,h30⟩ -;obtain⟨p7,c7,rfl,h31⟩:=rS h29;obtain rfl:=yY h30;refine zX 3 [] [148] rfl<|yT 1 [vI 3,vI 0,z0,vI 0,vT y30.Array.l,vS p7 y30.Subs c7,z0] rfl<|zV rfl<|zG<|yX ?_;obtain rfl:=zD N;exact xN ⟨_,_,(.cell 1 rfl rfl (by kernel_rfl) ResV.nil),(zN [0] rfl (by decide)),⟨_,_,rfl,rfl,⟨_,rfl,(yG ⟨_,_,_,rfl,(SL.nil _),h31,(SL.nil _)⟩)⟩,(xX rfl)⟩⟩
end Go.LN
