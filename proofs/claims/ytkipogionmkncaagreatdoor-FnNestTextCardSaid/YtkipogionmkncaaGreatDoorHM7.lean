/- Helper of the proof (see the last text). -/
import Derived.Test.YtkipogionmkncaaGreatDoorHM6
set_option linter.unusedVariables false
set_option linter.unusedSimpArgs false
namespace Go.LN
open Go.Proofs Go.Proofs.Tryz
set_option maxRecDepth 20000
def uQ(code:(List UInt8)):Option ((List zB)):=do
 let y<-sJ code
 let (y2,y3)<-tH y
 let (y5,y6)<-sT y3 y2
 pure (id y5)
theorem mF:∀code r,uQ code=some r->∀{I:Imm}{p c},(S4 I p code c)->RT 57 [vS p code c] I [] (nA  r):=by
 intro code r N I p c h;unfold uQ at N;refine yN func57 λB=>vO []<|xF<|yE 1 [] [4] rfl<|bE N λy hy N=>xT (nY code _ hy h) ?_;rintro I0 aw v2 k2 le - ⟨b,p1,c1,rfl,rfl,h1⟩ -;refine yO [] [3] rfl<|xF<|yE 2 [] [6,7] rfl ?_;obtain⟨⟨y2,y3⟩,aA,N⟩:=zC N;refine pT (mY y _ aA h1) rfl ?_;rintro aQ aw v2 k2 ah - ⟨v0,kk,rfl,rfl,h2,h3⟩ -;obtain⟨p2,c2,rfl⟩:=h2.form;obtain⟨p3,c3,rfl,h4⟩:=yG h3;obtain⟨⟨y5,y6⟩,aL,N⟩:=zC N;refine pT (fK y3 y2 _ aL h4 h2) rfl ?_;rintro aW aw v2 k2 aH - ⟨v02,kk1,rfl,rfl,h5,h6⟩ -;obtain⟨p4,c4,rfl⟩:=h5.form;obtain⟨p5,c5,rfl,h7⟩:=yG h6;refine yO [] [2] rfl<|zE<|xL ?_;obtain rfl:=zD N;exact wJ ⟨_,_,(.tmp rfl ResV.nil),zN,⟨_,rfl,rfl,h5⟩⟩
def uC(code:(List UInt8)):Option ((List zB)):=do
 let y<-uQ code
 pure (id y)
theorem nO:∀code r,uC code=some r->∀{I:Imm}{p c},(S4 I p code c)->RT 16 [vS p code c] I [] (nA  r):=by
 intro code r N I p c h;unfold uC at N;refine yN func16 λB=>vO []<|xF<|yE 1 [] [3] rfl<|bE N λy hy N=>xT (mF code _ hy h) ?_;rintro I0 aw v2 k2 le - ⟨v0,rfl,rfl,h1⟩ -;obtain⟨p1,c1,rfl⟩:=h1.form;refine yO [] [2] rfl<|zE<|xL ?_;obtain rfl:=zD N;exact wJ ⟨_,_,(.tmp rfl ResV.nil),zN,⟨_,rfl,rfl,h1⟩⟩
def uU(ae:(List zB)):Option (Str):=do
 let y<-vH ae
 if(!y) then
  pure (⟨[]⟩:Str)
 else
  let y1<-tS ae
  pure (id y1)
theorem pQ:∀ae r,uU ae=some r->∀{I:Imm}{p c},(S4 I p ae c)->(GH Tryz.prog I)->RT 17 [vS p ae c] I [] (yA  r):=by
 intro ae r N I p c h hG;unfold uU at N;refine yN func17 λB=>vO []<|yC<|xH<|yE 1 [] [3] rfl<|bE N λy hy N=>pE (rA ae _ hy h) ?_;intro I0 le;have ⟨h,hG⟩:=m2 le h hG;refine yO [] [5] rfl<|zE<|yI N ?_ ?_
 ·intro hc N;refine yL [2] rfl<|vG<|zG ?_;obtain rfl:=zD N;exact tD
 intro hc N;refine zO<|xF<|yE 1 [] [6] rfl<|bE N λy1 aA N=>xT (oU ae _ aA h hG) ?_;rintro aQ aw v2 k2 ah - ⟨v01,rfl,rfl,rfl⟩ -;refine yO [] [2] rfl<|zE<|xL ?_;obtain rfl:=zD N;exact tD
def jK(r:List Str):KT:=λkk I' af v=>
 ∃v0,af=[]/\v=tupV [v0]/\SL I' v0 r
def uX(s:Str)(sep:Str):Option (List Str):=if s.l.length<4294967281/\1<=sep.l.length then some (splitM s sep) else none
theorem qQ:∀(s sep:Str) r,uX s sep=some r->∀{I:Imm},GH Tryz.prog I->RT 37 [vT s.l,vT sep.l] I [] (jK r):=by
 intro s sep r N I hG;unfold uX at N;split at N
 ·rename_i hi;cases N
  obtain ⟨g,hg,hm⟩:=hG.ml;obtain rfl:g=0:=(Option.some.inj ((show Tryz.prog.globalNamed "internal/bytealg.MaxLen"=some 0 by kernel_rfl).symm.trans hg)).symm;exact zCw hi.1 hi.2 hm Tryz.strings_Split fun k I' a c hl h=>⟨_,rfl,rfl,h⟩
 cases N
def gK(r:Int×Bool):KT:=λkk I' af v=>
 ∃(v0 v1:Value),af=[]/\v=tupV [v0,v1]/\v0=.int .i64 r.1/\ErrV v1 r.2
def rE(s:Str):Option (Int×Bool):=if s.l.length<=281474976710656 then some (atoiM s) else none
theorem eO:∀s r,rE s=some r->∀{I:Imm},GH Tryz.prog I->RT 90 [vT s.l] I [] (gK r):=by
 intro s r N I hG;unfold rE at N;split at N
 ·rename_i hi;cases N
  obtain ⟨g,hg,h1⟩:=hG.es;obtain rfl:g=1:=(Option.some.inj ((show Tryz.prog.globalNamed "strconv.ErrSyntax"=some 1 by kernel_rfl).symm.trans hg)).symm;obtain ⟨g,hg,h2⟩:=hG.er;obtain rfl:g=2:=(Option.some.inj ((show Tryz.prog.globalNamed "strconv.ErrRange"=some 2 by kernel_rfl).symm.trans hg)).symm;exact zDe hi h1 h2 Tryz.strconv_Atoi_ok Tryz.strconv_Atoi_syntax Tryz.strconv_Atoi_range fun k v h=>⟨_,_,rfl,rfl,rfl,h⟩
 cases N
def tU(s:Str)(substr:Str):Option Int:=if s.l.length<4294967281 then some (Lib.index s.l substr.l) else none
theorem fL:∀(s substr:Str) r,tU s substr=some r->∀{I:Imm},GH Tryz.prog I->RT 150 [vT s.l,vT substr.l] I [] (vR r):=by
 intro s substr r N I hG;unfold tU at N;split at N
 ·rename_i hi;cases N
  obtain ⟨g,hg,m,hm⟩:=hG.ml;obtain rfl:g=0:=(Option.some.inj ((show Tryz.prog.globalNamed "internal/bytealg.MaxLen"=some 0 by kernel_rfl).symm.trans hg)).symm;exact kL (fun w g=>(Tryz.strings_Index ⟨⟨s.l⟩⟩ ⟨⟨substr.l⟩⟩ m w hi (g.cell hm)).mono fun e w' ⟨h1,h2⟩=>⟨h1,h2 ▸ RowKit.Below.refl _ _⟩) fun k=>⟨_,rfl,rfl,rfl⟩
 cases N
def rO(n0:Int):Option (zA):=do
 let l<-mkrow 8 4 (0:Int)
 pure (zA.mk l n0)
theorem fM:∀n0 r,rO n0=some r->∀{I:Imm} ,RT 184 [vI n0] I [] (qP  r):=by
 intro n0 r N I;unfold rO at N;refine yN func184 λB=>xH<|rF [z0,vI 0] ?_;intro b hb;refine xA rfl<|xF<|bE N λl hy N=>zFY 8 [vI 0] rfl hy rfl ?_;intro b1 cs h;refine yE 3 [] [5] rfl<|uE 1 [vS (some ⟨b1,0,none⟩) l l.length,vI n0] rfl<|xA rfl<|zE<|xL ?_;obtain rfl:=zD N;exact wJ ⟨_,_,(.cell 1 rfl rfl (by kernel_rfl) ResV.nil),(yS [0] rfl (by decide)),⟨_,_,_,rfl,rfl,h⟩⟩
def tK(s:Str)(chars:Str):Option Int:=if(s.l.length<4294967281/\chars.l.length<4294967281)/\asc s.l=true/\asc chars.l=true then some (Lib.indexAny s.l chars.l) else none
theorem kT:∀(s chars:Str) r,tK s chars=some r->∀{I:Imm},RT 185 [vT s.l,vT chars.l] I [] (vR r):=by
 intro s chars r N I;unfold tK at N;split at N
 ·rename_i hi;cases N
  exact kL (λw g=>Tryz.strings_IndexAny_laid ⟨⟨s.l⟩⟩ ⟨⟨chars.l⟩⟩ w hi.1.1 hi.1.2 (zCJ hi.2.1) (zCJ hi.2.2)) λk=>⟨_,rfl,rfl,rfl⟩
 cases N
def tL(s:Str)(cutset:Str):Option Str:=if cutset.l.length<4294967281/\asc cutset.l=true then some ⟨Lib.trimLeftS s.l cutset.l⟩ else none
theorem kU:∀(s cutset:Str) r,tL s cutset=some r->∀{I:Imm},RT 186 [vT s.l,vT cutset.l] I [] (yA r):=by
 intro s cutset r N I;unfold tL at N;split at N
 ·rename_i hi;cases N
  exact kL (λw g=>Tryz.strings_TrimLeft_laid ⟨⟨s.l⟩⟩ ⟨⟨cutset.l⟩⟩ w hi.1 (zCJ hi.2)) λk=>⟨_,rfl,rfl,rfl⟩
 cases N
def M.internal_stringslite_HasSuffix(s:Str)(suffix0:Str):Option (Bool):=do
 let t4<-(do
  if(decide ((s.l.length:Int)>=(suffix0.l.length:Int))) then
   let s1<-sslc s (W ((s.l.length:Int) - (suffix0.l.length:Int))) (s.l.length:Int)
   pure (s1.l==suffix0.l)
  else
   pure false
    : Option Bool)
 pure (id t4)
theorem rY:∀s suffix0 r,M.internal_stringslite_HasSuffix s suffix0=some r->∀{I:Imm} ,RT 248 [vT s.l,vT suffix0.l] I [] (zU  r):=by
 intro s suffix0 r N I;unfold M.internal_stringslite_HasSuffix at N;refine yN func248 λB=>?_;have H:=iS I;refine vO []<|zE<|yK ?_;refine tA N [] (λt4=>[(4,.bool t4)]) (λo0 aC=>?_) ?_
 ·have H:=iS I;refine zF<|yE 6 [] [10] rfl<|uF [10] aC ?_ ?_
  ·intro hc N;exact yE 12 [] [11,16] rfl<|bE N λs1 hy N=>jV rfl hy<|yO [] [4] rfl<|xC<|zL (ct N H)
  intro hc N;exact sG [] [(4,vF)]<|xC<|zL (ct N H)
 intro t4 I0 le aN;refine zE<|xL ?_;obtain rfl:=zD aN;exact tD
def M.internal_stringslite_TrimSuffix(s:Str)(suffix0:Str):Option (Str):=do
 let y<-M.internal_stringslite_HasSuffix s suffix0
 if y then
  let s1<-sslc s 0 (W ((s.l.length:Int) - (suffix0.l.length:Int)))
  pure (id s1)
 else
  pure (id s)
theorem rQ:∀s suffix0 r,M.internal_stringslite_TrimSuffix s suffix0=some r->∀{I:Imm} ,RT 227 [vT s.l,vT suffix0.l] I [] (yA  r):=by
 intro s suffix0 r N I;unfold M.internal_stringslite_TrimSuffix at N;refine yN func227 λB=>vO []<|yC<|xH<|yE 2 [] [5,6] rfl<|bE N λy hy N=>pE (rY s suffix0 _ hy ) λI0 le=>xA rfl<|zE<|yI N ?_ ?_
 ·intro hc N;refine xH<|yE 6 [] [8,13] rfl<|bE N λs1 aA N=>jV rfl aA<|yO [] [4] rfl<|vG<|zG ?_;obtain rfl:=zD N;exact tD
 intro hc N;refine zO<|sH [4] rfl<|zE<|xL ?_;obtain rfl:=zD N;exact tD
def vK(s:Str)(suffix0:Str):Option (Str):=do
 let y<-M.internal_stringslite_TrimSuffix s suffix0
 pure (id y)
theorem qL:∀s suffix0 r,vK s suffix0=some r->∀{I:Imm} ,RT 187 [vT s.l,vT suffix0.l] I [] (yA  r):=by
 intro s suffix0 r N I;unfold vK at N;refine yN func187 λB=>vO []<|xF<|yE 2 [] [5,6] rfl<|bE N λy hy N=>xT (rQ s suffix0 _ hy ) ?_;rintro I0 aw v2 k2 le - ⟨v0,rfl,rfl,rfl⟩ -;refine yO [] [4] rfl<|zE<|xL ?_;obtain rfl:=zD N;exact tD
def zP(rest:Str)(x:zA)(Coefs:List Int)(Const:Int):Option (Out (zA×List Int×Int) (zA×Bool)):=do
 if(!(rest.l==([]:List UInt8))) then
  let t30<-(do
   let b2<-sidx rest 0
   if((b2.toNat:Int)==43) then
    pure true
   else
    let b3<-sidx rest 0
    pure ((b3.toNat:Int)==45)
     : Option Bool)
  let (rest1,by0)<-(do
   if t30 then
    let b4<-sidx rest 0
    let by01<-(do
     if((b4.toNat:Int)==45) then
      pure (-1)
     else
      pure (id 1)
       : Option Int)
    let s<-sslc rest 1 (rest.l.length:Int)
    pure (s,by01)
   else
    pure (rest,1)
     : Option (Str×Int))
  let y1<-tK rest1 (⟨[43,45]⟩:Str)
  let end0<-(do
   if(decide (y1<0)) then
    pure (rest1.l.length:Int)
   else
    pure (id y1)
     : Option Int)
  let s1<-sslc rest1 0 end0
  let s2<-sslc rest1 end0 (rest1.l.length:Int)
  let y2<-tL s1 (⟨[48,49,50,51,52,53,54,55,56,57,42]⟩:Str)
  let y3<-vK s1 y2
  let y4<-vK y3 (⟨[42]⟩:Str)
  match<-(do
   if(!(y4.l==([]:List UInt8))) then
    let (y6,y7)<-rE y4
    let t66<-(do
     if y7 then
      pure true
     else
      pure (decide (y6>1000))
       : Option Bool)
    if t66 then
     pure (.ret ((zA.mk ([]:List Int) 0),false))
    else
     pure (.done (y6,x))
   else
    pure (.done (1,x))
     : Option (Out (Int×zA) (zA×Bool))) with
  | .ret r0=>pure (.ret r0)
  | .done (n0,x2)=>
   let y8<-tU (⟨[105,106,107,108]⟩:Str) y2
   match<-(do
    if(y2.l==([]:List UInt8)) then
     pure (.done (x2,Coefs,(W (Const+(W (by0*n0))))))
    else
     let t82<-(do
      if((y2.l.length:Int)==1) then
       pure (decide (y8>=0))
      else
       pure false
        : Option Bool)
     if t82 then
      let x4<-idx Coefs y8
      let x5<-idx Coefs y8
      let l<-pure (Coefs.set y8.toNat (W (x4+(W (by0*n0)))))
      pure (.done (x2,l,Const))
     else
      pure (.ret ((zA.mk ([]:List Int) 0),false))
      : Option (Out (zA×List Int×Int) (zA×Bool))) with
   | .ret r0=>pure (.ret r0)
   | .done (x3,Coefs2,Const2)=>
    zP s2 x3 Coefs2 Const2
 else
  pure (.done (x,Coefs,Const))
 partial_fixpoint
theorem nP :∀(rest:Str) (x:zA) (Coefs:List Int) (Const:Int) (o:Out (zA×List Int×Int) (zA×Bool)),zP rest x Coefs Const=some o->∀{B}{I0 I:Imm}{Q}{am:Str}{b:Nat}{b1:Nat}{p1 c1 p2 c2 aF},I0.le I->(GH Tryz.prog I)->(S4 I p1 x.Coefs c1)->(RL I aF Coefs)->NG Q->NO Q->(∀(I':Imm) (x1:zA) (Coefs1:List Int) (Const1:Int) (p3:Option Addr) (c3:Nat) (p4:Option Addr) (c4:Nat) (bf:List Value),o=(.done (x1,Coefs1,Const1))->I0.le I'->(S4 I' p3 x1.Coefs c3)->(RL I' bf Coefs1)->T 111 B Q (.exit 0) I' [hB b1 [vS p4 Coefs1 c4,vI Const1],hO Int (vS p4 Coefs1 c4) bf,hB b (cAff x1 p3 c3)] [(0,vT am.l),(2,vP b 0),(4,vP b1 0)])->(∀r I' af m',o=(.ret r)->I0.le I'->RS Tryz.prog f129 B (sZ  r) I' af m'->T 111 B Q .ret I' af m')->J Tryz.prog 111 B (nav (bodyOf f129) [1,1,1,0,1,0]) Q I [hB b1 [vS p2 Coefs c2,vI Const],hO Int (vS p2 Coefs c2) aF,hB b (cAff x p1 c1)] [(0,vT am.l),(2,vP b 0),(4,vP b1 0),(5,vT rest.l)]:=by
 refine zP.partial_correctness  _ λaO ih rest x Coefs Const o N B I0 I Q am b b1 p1 c1 p2 c2 aF H hG h1 h2 hg ho hx hr=>wI hg ho<|yK<|yL [22] rfl<|zE<|yI N ?_ ?_
 ·intro aG N;refine zO<|sR<|yL [6] rfl<|yC<|yK ?_;refine tA N [hB b1 [vS p2 Coefs c2,vI Const],hO Int (vS p2 Coefs c2) aF,hB b (cAff x p1 c1)] (λt30=>[(0,vT am.l),(2,vP b 0),(4,vP b1 0),(5,vT rest.l),(6,vI 1),(30,.bool t30)]) (λo0 aC=>?_) ?_
  ·have H:=iS I;refine zF<|yE 1 [] [23] rfl ?_;obtain⟨b2,aA,N⟩:=zC aC;refine mA rfl rfl aA<|yE 4 [] [26] rfl<|uF [26] N ?_ ?_
   ·intro aR N;exact sG [] [(30,vY)]<|xC<|zL (ct N H)
   intro aR N;exact yE 5 [] [27] rfl<|bE N λb3 aL N=>mA rfl rfl aL<|yO [] [30] rfl<|xC<|zL (ct N H)
  intro t30 aQ ah aN;have ⟨h2,h1,hG,H⟩:=m4 ah h2 h1 hG H;refine zE ?_;obtain⟨aI,aB,hMc1⟩:=zC aN;refine rZ (λI' af m'=>∃(rest1:Str) (by0:Int),aI=(rest1,by0)/\aQ.le I'/\af=[hB b1 [vS p2 Coefs c2,vI Const],hO Int (vS p2 Coefs c2) aF,hB b (cAff x p1 c1)]/\m'=[(0,vT am.l),(2,vP b 0),(4,vP b1 0),(5,vT rest1.l),(6,vI by0)]) ?_ ?_
  ·have H:=iS aQ;refine yI aB ?_ ?_
   ·intro bq N;refine yK<|xH<|yE 1 [] [31] rfl<|bE N λb4 aS N=>mA rfl rfl aS<|yO [] [33] rfl<|zE ?_;refine tA N [hB b1 [vS p2 Coefs c2,vI Const],hO Int (vS p2 Coefs c2) aF,hB b (cAff x p1 c1)] (λby01=>[(0,vT am.l),(2,vP b 0),(4,vP b1 0),(5,vT rest.l),(6,vI by01)]) (λo02 ho02=>?_) ?_
    ·have H:=iS aQ;refine yI ho02 ?_ ?_
     ·intro bx N;exact zF<|yO [] [6] rfl<|xC<|zL (ct N H)
     intro bx N;exact zO<|xC<|zL (ct N H)
    intro by01 a6 aH hMc2;have H:=H.trans aH;refine zE<|zF<|yE 1 [] [34] rfl ?_;obtain⟨s,bg,N⟩:=zC hMc2;exact jV rfl bg<|yO [] [5] rfl<|xC<|zL ⟨_,_,(zD N).symm,H,rfl,rfl⟩
   intro bq N;exact zO<|xC<|zL ⟨_,_,(zD N).symm,H,rfl,rfl⟩
  rintro aW aw m2 ⟨rest1,by0,heq2,aK,rfl,rfl⟩;subst aI;have ⟨h2,h1,hG,H⟩:=m4 aK h2 h1 hG H;refine xF<|yE 1 [] [36] rfl ?_;obtain⟨y1,bj,N⟩:=zC hMc1;refine zDb (kT rest1 (⟨[43,45]⟩:Str) _ bj ) ?_;intro bu aV;have ⟨h2,h1,hG,H⟩:=m4 aV h2 h1 hG H;refine yO [] [7] rfl<|yC<|yL [39] rfl<|zE ?_;refine tA N [hB b1 [vS p2 Coefs c2,vI Const],hO Int (vS p2 Coefs c2) aF,hB b (cAff x p1 c1)] (λend0=>[(0,vT am.l),(2,vP b 0),(4,vP b1 0),(5,vT rest1.l),(6,vI by0),(7,vI end0)]) (λo03 ho03=>?_) ?_
  ·have H:=iS bu;refine yI ho03 ?_ ?_
   ·intro hc5 N;exact zF<|yO [] [7] rfl<|xC<|zL (ct N H)
   intro hc5 N;exact zO<|xC<|zL (ct N H)
  intro end0 bG bm hMc3;have ⟨h2,h1,hG,H⟩:=m4 bm h2 h1 hG H;refine xF<|yE 2 [] [42,43] rfl ?_;obtain⟨s1,hy6,N⟩:=zC hMc3;refine jV rfl hy6<|yO [] [8] rfl<|xF<|yE 2 [] [45,46] rfl<|bE N λs2 hy7 N=>jV rfl hy7<|yO [] [5] rfl<|xF<|yE 1 [] [48] rfl<|bE N λy2 hy8 N=>xT (kU s1 (⟨[48,49,50,51,52,53,54,55,56,57,42]⟩:Str) _ hy8 ) ?_;rintro I06 aw v2 k2 bp - ⟨v01,rfl,rfl,rfl⟩ -;have ⟨h2,h1,hG,H⟩:=m4 bp h2 h1 hG H;refine yO [] [9] rfl<|sH [10] rfl<|yC<|xH<|yE 2 [] [50,51] rfl<|bE N λy3 hy9 N=>xT (qL s1 y2 _ hy9 ) ?_;rintro I07 aw v2 k2 le7 - ⟨v02,rfl,rfl,rfl⟩ -;have ⟨h2,h1,hG,H⟩:=m4 le7 h2 h1 hG H;obtain⟨y4,hy10,N⟩:=zC N;refine xT (qL y3 (⟨[42]⟩:Str) _ hy10 ) ?_;rintro I08 aw v2 k2 le8 - ⟨v03,rfl,rfl,rfl⟩ -;have ⟨h2,h1,hG,H⟩:=m4 le8 h2 h1 hG H;refine yO [] [11] rfl<|sH [55] rfl<|zE ?_;obtain⟨o04,ho04,hMc4⟩:=zC N;refine rZ (λI' af m'=>∃(n0:Int) (x2:zA) (p5:Option Addr) (c5:Nat),o04=.done (n0,x2)/\I08.le I'/\(S4 I' p5 x2.Coefs c5)/\af=[hB b1 [vS p2 Coefs c2,vI Const],hO Int (vS p2 Coefs c2) aF,hB b (cAff x2 p5 c5)]/\m'=[(0,vT am.l),(2,vP b 0),(4,vP b1 0),(5,vT s2.l),(6,vI by0),(9,vT y2.l),(10,vI n0)]) ?_ ?_
  ·have hle04:=H;have H:=iS I08;refine yI ho04 ?_ ?_
   ·intro hc6 N;refine xH<|yE 1 [] [57] rfl ?_;obtain⟨⟨y6,y7⟩,hy11,N⟩:=zC N;refine xT (eO y4 _ hy11 hG) ?_;rintro bI aw v2 k2 le9 - ⟨v04,v05,rfl,rfl,rfl,h11⟩ -;have ⟨h1,H⟩:=m2 le9 h1 H;refine yO [] [12,13] rfl<|yC<|yK ?_;refine tA N [hB b1 [vS p2 Coefs c2,vI Const],hO Int (vS p2 Coefs c2) aF,hB b (cAff x p1 c1)] (λt66=>[(0,vT am.l),(2,vP b 0),(4,vP b1 0),(5,vT s2.l),(6,vI by0),(9,vT y2.l),(12,vI y6),(66,.bool t66)]) (λo05 ho05=>?_) ?_
    ·have H:=iS bI;refine zF<|gX 1 [] [(61,v05)]<|zF0 h11 rfl<|yE 3 [] [63] rfl<|uF [63] ho05 ?_ ?_
     ·intro hc7 N;exact sG [] [(66,vY)]<|xC<|zL (ct N H)
     intro hc7 N;exact yO [] [66] rfl<|xC<|zL (ct N H)
    intro t66 bP le10 hMc5;have ⟨h1,H⟩:=m2 le10 h1 H;refine zE<|yI hMc5 ?_ ?_
    ·intro hc8 N;refine xH<|yE 1 [] [67] rfl<|uE 2 [z0,vI 0] rfl<|sG [] [(3,vF)]<|vG<|zG<|zG<|zG<|yD<|zG ?_;obtain rfl:=zD N;exact hr _ _ _ _ (zD hMc4).symm (hle04.trans H) ⟨_,_,(.cell 2 rfl rfl (by kernel_rfl) (.tmp rfl ResV.nil)),zN,⟨_,_,rfl,rfl,⟨_,rfl,(zQ ⟨_,rfl,(SL.nil _)⟩)⟩,rfl⟩⟩
    intro hc8 N;exact zO<|zE<|zF<|yO [] [10] rfl<|xC<|zL ⟨_,_,_,_,(zD N).symm,H,h1,rfl,rfl⟩
   intro hc6 N;exact zO<|xC<|zL ⟨_,_,_,_,(zD N).symm,H,h1,rfl,rfl⟩
  rintro I09 aw m2 ⟨n0,x2,p5,c5,heq5,le11,h9,rfl,rfl⟩;subst o04;have ⟨h2,hG,H⟩:=m3 le11 h2 hG H;refine xF<|yE 1 [] [69] rfl ?_;obtain⟨y8,hy12,N⟩:=zC hMc4;refine zDb (fL (⟨[105,106,107,108]⟩:Str) y2 _ hy12 hG) ?_;intro bD le12;have ⟨h2,h9,hG,H⟩:=m4 le12 h2 h9 hG H;refine yO [] [14] rfl<|sR<|yL [72] rfl<|zE ?_;obtain⟨o06,ho06,hMc6⟩:=zC N;refine rZ (λI' af m'=>∃(x3:zA) (Coefs2:List Int) (Const2:Int) (p6:Option Addr) (c6:Nat) (p7:Option Addr) (c7:Nat) (aZ:List Value),o06=.done (x3,Coefs2,Const2)/\bD.le I'/\(S4 I' p6 x3.Coefs c6)/\(RL I' aZ Coefs2)/\af=[hB b1 [vS p7 Coefs2 c7,vI Const2],hO Int (vS p7 Coefs2 c7) aZ,hB b (cAff x3 p6 c6)]/\m'=[(0,vT am.l),(2,vP b 0),(4,vP b1 0),(5,vT s2.l)]) ?_ ?_
  ·have hle06:=H;have H:=iS bD;refine yI ho06 ?_ ?_
   ·intro hc9 N;exact zF<|yE 7 [0] [80,81] rfl<|uE 0 [vS p2 Coefs c2,vI (W (Const+(W (by0*n0))))] rfl<|xA rfl<|xC<|zL ⟨_,_,_,_,_,_,_,_,(zD N).symm,H,h9,h2,rfl,rfl⟩
   intro hc9 N;refine yK ?_;refine tA N [hB b1 [vS p2 Coefs c2,vI Const],hO Int (vS p2 Coefs c2) aF,hB b (cAff x2 p5 c5)] (λt82=>[(0,vT am.l),(2,vP b 0),(4,vP b1 0),(5,vT s2.l),(6,vI by0),(10,vI n0),(14,vI y8),(82,.bool t82)]) (λo07 ho07=>?_) ?_
   ·have H:=iS bD;refine zF<|yE 4 [] [86] rfl<|uF [86] ho07 ?_ ?_
    ·intro hc10 N;exact yO [] [82] rfl<|xC<|zL (ct N H)
    intro hc10 N;exact sG [] [(82,vF)]<|xC<|zL (ct N H)
   intro t82 I014 le13 hMc7;have ⟨h2,h9,H⟩:=m3 le13 h2 h9 H;refine zE<|yI hMc7 ?_ ?_
   ·intro hc11 N;refine zF<|yE 3 [0] [91,92] rfl<|bE N λx4 hy13 N=>nW 1 rfl rfl rfl h2 hy13 ?_;intro ad az au bo al;obtain rfl:=al;refine zD9 1 0 au bo [vI x4] (vI x4) rfl rfl<|yE 9 [] [98] rfl<|bE N λx5 hy14 N=>nW 1 rfl rfl rfl h2 hy14 ?_;intro ad1 bh aJ hcc1 aD;obtain rfl:=aD;obtain⟨l,hy15,N⟩:=zC N;refine rP (c:=[vI (W (x4+(W (by0*n0))))]) (x':=(W (x4+(W (by0*n0))))) 1 0 rfl rfl rfl aJ rfl rfl hcc1 (by kernel_rfl) (by kernel_rfl) (by kernel_rfl) h2 hy14 (by kernel_rfl) rfl ?_;rw[show Coefs.set y8.toNat (W (x4+(W (by0*n0))))=l from zD hy15];intro bL h15 hl0;exact oM (m':=[(0,vT am.l),(2,vP b 0),(4,vP b1 0),(5,vT s2.l),(91,vS p2 Coefs c2),(92,vI y8),(98,vI (W (x4+(W (by0*n0)))))]) ⟨rfl,rfl,rfl,rfl,rfl,rfl,rfl,trivial⟩<|zCG (af:=[hB b1 [vS p2 l c2,vI Const],hO Int (vS p2 l c2) bL,hB b (cAff x2 p5 c5)]) (m':=[(0,vT am.l),(2,vP b 0),(4,vP b1 0),(5,vT s2.l),(91,vS p2 l c2),(92,vI y8),(98,vI (W (x4+(W (by0*n0)))))]) (by first|rfl|simp only[vS,hl0,cx,cO,List.set_cons_zero,ee,List.eraseIdx_cons_zero,List.eraseIdx_cons_succ]) (by first|rfl|simp only[vS,hl0])<|xA rfl<|xC<|zL ⟨_,_,_,_,_,_,_,_,(zD N).symm,H,h9,h15,rfl,rfl⟩
   intro hc11 N;refine xH<|yE 1 [] [71] rfl<|uE 2 [z0,vI 0] rfl<|sG [] [(3,vF)]<|vG<|zG<|yD<|yD<|zG ?_;obtain rfl:=zD N;exact hr _ _ _ _ (zD hMc6).symm (hle06.trans H) ⟨_,_,(.cell 2 rfl rfl (by kernel_rfl) (.tmp rfl ResV.nil)),zN,⟨_,_,rfl,rfl,⟨_,rfl,(zQ ⟨_,rfl,(SL.nil _)⟩)⟩,rfl⟩⟩
  rintro I013 aw m2 ⟨x3,Coefs2,Const2,p6,c6,p7,c7,aZ,heq7,le14,h13,h14,rfl,rfl⟩;subst o06;have ⟨hG,H⟩:=m2 le14 hG H;exact zJ<|zJ<|wD<|kK<|ih s2 x3 Coefs2 Const2 _ hMc6 H hG h13 h14 hg ho hx hr
 intro aG N;exact rG<|xC<|hx _ _ _ _ _ _ _ _ _ (zD N).symm H h1 h2
def tM(am:Str):Option (zA×Bool):=do
 let y<-rO 0
 if(decide ((am.l.length:Int)>100)) then
  pure ((zA.mk ([]:List Int) 0),false)
 else
  match<-zP am (zA.mk ([]:List Int) 0) y.Coefs y.Const with
  | .ret r0=>pure r0
  | .done (x1,Coefs1,Const1)=>
   let t108<-(do
    let y9<-uG (zA.mk Coefs1 Const1)
    if(!y9) then
     pure true
    else
     let y10<-uT (zA.mk Coefs1 Const1)
     pure (!(y10.l==am.l))
      : Option Bool)
   if t108 then
    pure ((zA.mk ([]:List Int) 0),false)
   else
    pure ((zA.mk Coefs1 Const1),true)
theorem kV:∀am r,tM am=some r->∀{I:Imm} ,(GH Tryz.prog I)->RT 129 [vT am.l] I [] (sZ  r):=by
 intro am r N I  hG;unfold tM at N;refine yN func129 λB=>?_;have H:=iS I;refine xH<|rF [z0,vI 0] ?_;intro b hb;refine sG [] []<|xF<|bE N λy hy N=>xT (fM 0 _ hy ) ?_;rintro I0 aw v2 k2 le - ⟨p,c,cs,rfl,rfl,h⟩ -;have ⟨hG,H⟩:=m2 le hG H;refine rF [z0,vI 0] ?_;intro b1 hb1;refine uE 0 (cAff y p c) rfl<|xA rfl<|yC<|yL [18] rfl<|zE<|yI N ?_ ?_
 ·intro hc N;refine xH<|yE 1 [] [19] rfl<|uE 2 [z0,vI 0] rfl<|sG [] [(3,vF)]<|vG<|zG ?_;obtain rfl:=zD N;exact wJ ⟨_,_,(.cell 2 rfl rfl (by kernel_rfl) (.tmp rfl ResV.nil)),zN,⟨_,_,rfl,rfl,⟨_,rfl,(zQ ⟨_,rfl,(SL.nil _)⟩)⟩,rfl⟩⟩
 intro hc N;refine zO<|yC<|yL [5] rfl<|sR<|pY [(0,vT am.l),(2,vP b 0),(4,vP b1 0),(5,vT am.l)] ?_;obtain⟨o08,ho08,aM⟩:=zC N;refine nP am (zA.mk ([]:List Int) 0) y.Coefs y.Const o08 ho08 iR hG (SL.nil _) h (λ_ _ _ h=>h) (λ_ _ h=>h) ?_ ?_
 ·intro I015 x1 Coefs1 Const1 p3 c3 p4 c4 bf heq8 le15 h3 h4;subst o08;have ⟨hG,H⟩:=m2 le15 hG H;refine zR<|yC<|yK<|rK 1 rfl ?_;intro I016 le16 hl01;have h16:=SL.of_frozen hl01 le16 h4;have ⟨hG,H⟩:=m2 le16 hG H;refine tA aM [hB b1 [vS p4 Coefs1 c4,vI Const1],hB b (cAff x1 p3 c3)] (λt108=>[(2,vP b 0),(4,vP b1 0),(108,.bool t108)]) (λo09 ho09=>?_) ?_
  ·have H:=iS I016;refine zF<|gX 1 [0] [(100,vA [vS p4 Coefs1 c4,vI Const1])] ?_;obtain⟨y9,hy16,N⟩:=zC ho09;refine pE (rJ (zA.mk Coefs1 Const1) _ hy16 h16) ?_;intro I018 le17;have ⟨h16,hG,H⟩:=m3 le17 h16 hG H;refine yE 4 [] [103] rfl<|uF [103] N ?_ ?_
   ·intro hc12 N;exact sG [] [(108,vY)]<|xC<|zL (ct N H)
   intro hc12 N;refine gX 5 [0] [(104,vA [vS p4 Coefs1 c4,vI Const1])]<|bE N λy10 hy17 N=>xT (pJ (zA.mk Coefs1 Const1) _ hy17 h16 hG) ?_;rintro I019 aw v2 k2 le18 - ⟨v08,rfl,rfl,rfl⟩ -;have H:=H.trans le18;exact yO [] [108] rfl<|xC<|zL (ct N H)
  intro t108 I017 le19 hMc8;have h16:=h16.mono le19;refine zE<|yI hMc8 ?_ ?_
  ·intro hc13 N;refine xH<|yE 1 [] [109] rfl<|uE 1 [z0,vI 0] rfl<|sG [] [(3,vF)]<|vG<|zG ?_;obtain rfl:=zD N;exact wJ ⟨_,_,(.cell 1 rfl rfl (by kernel_rfl) (.tmp rfl ResV.nil)),zN,⟨_,_,rfl,rfl,⟨_,rfl,(zQ ⟨_,rfl,(SL.nil _)⟩)⟩,rfl⟩⟩
  intro hc13 N;refine zO<|xF<|gX 1 [0] [(110,vA [vS p4 Coefs1 c4,vI Const1])]<|uE 1 [vS p4 Coefs1 c4,vI Const1] rfl<|sG [] [(3,vY)]<|zE<|xL ?_;obtain rfl:=zD N;exact wJ ⟨_,_,(.cell 1 rfl rfl (by kernel_rfl) (.tmp rfl ResV.nil)),zN,⟨_,_,rfl,rfl,⟨_,rfl,(zQ ⟨_,rfl,h16⟩)⟩,rfl⟩⟩
 intro r0 I9 hs9 m9 aT le9 aU;subst aT;refine yD<|zG ?_;obtain rfl:=zD aM;exact wJ aU
def qM(r:(List zA)×Bool):KT:=λkk I' af v=>
 ∃v0 v1,af=[]/\v=tupV [v0,v1]/\SL I' v0 r.1/\v1=.bool r.2
def xM(y:(List Str))(ak:List zA)(t12:Int):Option (Out (List zA) ((List zA)×Bool)):=do
 if(decide (t12<(y.length:Int))) then
  let x<-idx y t12
  let (y2,y3)<-tM x
  let t27<-(do
   if(!y3) then
    pure true
   else
    pure ((ak.length:Int)==2)
     : Option Bool)
  if t27 then
   pure (.ret (([]:List zA),false))
  else
   let ax<-app 32 ak ([y2]:List zA)
   xM y ax (W (t12+1))
 else
  pure (.done ak)
 partial_fixpoint
theorem nQ(y:(List Str)):∀(ak:List zA) (t12:Int) (o:Out (List zA) ((List zA)×Bool)),xM y ak t12=some o->∀{B}{I0 I:Imm}{Q p c p1 c1 cs},I0.le I->(S4 I p y c)->(GH Tryz.prog I)->(RL I cs ak)->NG Q->NO Q->(∀(I':Imm) (aj:List zA) (p2:Option Addr) (c2:Nat) (aF:List Value),o=(.done aj)->I0.le I'->(RL I' aF aj)->T 34 B Q (.exit 0) I' [hO zA (vS p2 aj c2) aF] [(4,vS p2 aj c2)])->(∀r I' af m',o=(.ret r)->I0.le I'->RS Tryz.prog f111 B (qM  r) I' af m'->T 34 B Q .ret I' af m')->J Tryz.prog 34 B (nav (bodyOf f111) [1,1,0,1,0]) Q I [hO zA (vS p1 ak c1) cs] [(4,vS p1 ak c1),(10,vS p y c),(11,vI (y.length:Int)),(12,vI t12)]:=by
 refine xM.partial_correctness y _ λaO ih ak t12 o N B I0 I Q p c p1 c1 cs H h hG h2 hg ho hx hr=>wI hg ho<|yL [13] rfl<|yC<|yI N ?_ ?_
 ·intro hc N;refine zO<|yC<|xK<|xH<|bE N λx aA N=>tO rfl rfl h aA ?_;intro ad az au al;obtain rfl:=al;refine tN 0 au [vT x.l] (vT x.l) rfl<|yO [] [6] rfl<|xF<|yE 1 [] [17] rfl ?_;obtain⟨⟨y2,y3⟩,aL,N⟩:=zC N;refine xT (kV x _ aL hG) ?_;rintro aQ aw v2 k2 ah - ⟨v01,v02,rfl,rfl,⟨bf,rfl,h4⟩,rfl⟩ -;have ⟨h2,h,hG,H⟩:=m4 ah h2 h hG H;obtain⟨p3,c3,rfl,h6⟩:=yB h4;refine yE 5 [] [19,20] rfl<|rF [z0,vI 0] ?_;intro b hb;refine uE 0 (cAff y2 p3 c3) rfl<|yO [] [8] rfl<|yC<|yK ?_;refine tA N [hB b (cAff y2 p3 c3),hO zA (vS p1 ak c1) cs] (λt27=>[(4,vS p1 ak c1),(7,vP b 0),(10,vS p y c),(11,vI (y.length:Int)),(12,vI t12),(27,.bool t27)]) (λo0 aC=>?_) ?_
  ·have H:=iS aQ;refine zF<|yE 3 [] [23] rfl<|uF [23] aC ?_ ?_
   ·intro aG N;exact sG [] [(27,vY)]<|xC<|zL (ct N H)
   intro aG N;exact yO [] [27] rfl<|xC<|zL (ct N H)
  intro t27 aW aH aN;have ⟨h2,h,h6,hG,H⟩:=m5 aH h2 h h6 hG H;refine zE<|yI aN ?_ ?_
  ·intro aR N;exact yL [2,3] rfl<|vG<|zG<|yD<|zG<|zG<|hr _ _ _ _ (zD N).symm H ⟨_,_,(.tmp rfl (.tmp rfl ResV.nil)),zN,⟨_,_,rfl,rfl,(SL.nil _),rfl⟩⟩
  intro aR N;refine zO<|zE<|zF<|gX 2 [0] [(28,vS p1 ak c1),(29,vA (cAff y2 p3 c3))]<|qC (cAff y2 p3 c3) zA ?_;intro b1 hb1;have h7:RL aW (cAff y2 p3 c3) ([y2]:List zA):=⟨(cAff y2 p3 c3),_,rfl,rfl,(zQ ⟨_,rfl,h6⟩),rfl⟩;obtain⟨ax,aS,N⟩:=zC N;exact oO 50 2 2 rfl rfl rfl h2 (.inr ⟨0,rfl⟩) h7 aS λp4 c4 aZ h8=>oI (xN [1,2] (af:=[hB b (cAff y2 p3 c3),hO zA (vS p4 ax c4) aZ]))<|yO [] [4] rfl<|zJ<|zE<|zF<|yO [] [12] rfl<|wD<|jR (yS [1] rfl (by decide))<|kK<|ih ax (W (t12+1)) _ N H h hG h8 hg ho hx hr
 intro hc N;exact rG<|xC<|hx _ _ _ _ _ (zD N).symm H h2
def uJ(am:Str):Option ((List zA)×Bool):=do
 let y<-uX am (⟨[44]⟩:Str)
 match<-xM y ([]:List zA) 0 with
 | .ret r0=>pure r0
 | .done aj=>
  pure (aj,true)
theorem pC:∀am r,uJ am=some r->∀{I:Imm} ,(GH Tryz.prog I)->RT 111 [vT am.l] I [] (qM  r):=by
 intro am r N I  hG;unfold uJ at N;refine yN func111 λB=>vO []<|zCu [(4,z0)]<|yC<|xH<|yE 1 [] [9] rfl<|bE N λy hy N=>xT (qQ am (⟨[44]⟩:Str) _ hy hG) ?_;rintro I0 aw v2 k2 le - ⟨v0,rfl,rfl,h⟩ -;have hG:=hG.mono le;obtain⟨p,c,rfl⟩:=h.form;refine yO [] [11,12] rfl<|sR<|pY [(4,z0),(10,vS p y c),(11,vI (y.length:Int)),(12,vI 0)]<|zCv zA λh1=>?_;obtain⟨aI,aB,aM⟩:=zC N;refine nQ y ([]:List zA) 0 aI aB iR h hG h1 (λ_ _ _ h=>h) (λ_ _ h=>h) ?_ ?_
 ·intro a6 aj p2 c2 aF heq1 aK h3;subst aI;refine zR<|sH [2,3] rfl<|vG<|uN 0 rfl ?_;intro bu aV hl0;have h9:=SL.of_frozen hl0 aV h3;obtain rfl:=zD aM;exact wJ ⟨_,_,(.tmp rfl (.tmp rfl ResV.nil)),zN,⟨_,_,rfl,rfl,h9,rfl⟩⟩
 intro r0 I9 hs9 m9 aT le9 aU;subst aT;refine yD<|zG ?_;obtain rfl:=zD aM;exact wJ aU
def jL(r:zB×Bool):KT:=λkk I' af v=>
 ∃v0 v1,af=[]/\v=tupV [v0,v1]/\(∃cs,v0=.agg ⟨cs⟩/\Rp.rep I' cs r.1)/\v1=.bool r.2
def sU(line:Str):Option (zB×Bool):=do
 let y<-uX line (⟨[32]⟩:Str)
 let t19<-(do
  if((y.length:Int) != 3) then
   pure true
  else
   let x<-idx y 0
   pure (!(x.l==([102,111,114]:List UInt8)))
    : Option Bool)
 if t19 then
  pure ((zB.mk ([]:List zA) ([]:List zA)),false)
 else
  let x1<-idx y 1
  let (y2,y3)<-uJ x1
  let x2<-idx y 2
  let (y5,y6)<-uJ x2
  let (t3,x3)<-(do
   if y3 then
    pure (y6,(zB.mk y2 y5))
   else
    pure (false,(zB.mk y2 y5))
     : Option (Bool×zB))
  pure (x3,t3)
theorem fN:∀line r,sU line=some r->∀{I:Imm} ,(GH Tryz.prog I)->RT 59 [vT line.l] I [] (jL  r):=by
 intro line r N I  hG;unfold sU at N;refine yN func59 λB=>?_;have H:=iS I;refine xH<|rF zTwo ?_;intro b hb;refine sG [] []<|xF<|yE 1 [] [9] rfl<|bE N λy hy N=>xT (qQ line (⟨[32]⟩:Str) _ hy hG) ?_;rintro I0 aw v2 k2 le - ⟨v0,rfl,rfl,h⟩ -;have ⟨hG,H⟩:=m2 le hG H;obtain⟨p,c,rfl⟩:=h.form;refine yO [] [4] rfl<|yC<|yK ?_;refine tA N [hB b zTwo] (λt19=>[(2,vP b 0),(4,vS p y c),(19,.bool t19)]) (λo0 aC=>?_) ?_
 ·have H:=iS I0;refine zF<|yE 4 [] [14] rfl<|uF [14] aC ?_ ?_
  ·intro hc N;exact sG [] [(19,vY)]<|xC<|zL (ct N H)
  intro hc N;refine yE 5 [] [15] rfl<|bE N λx aA N=>tO rfl rfl h aA ?_;intro ad az au al;obtain rfl:=al;exact tN 0 au [vT x.l] (vT x.l) rfl<|yO [] [19] rfl<|xC<|zL (ct N H)
 intro t19 aQ ah aN;have ⟨h,hG,H⟩:=m3 ah h hG H;refine zE<|yI aN ?_ ?_
 ·intro aG N;refine xH<|yE 1 [] [20] rfl<|zB9 0 zTwo [hB b zTwo] rfl rfl rfl rfl<|sG [] [(3,vF)]<|vG<|zG ?_;obtain rfl:=zD N;exact wJ ⟨_,_,(.cell 0 rfl rfl (by kernel_rfl) (.tmp rfl ResV.nil)),zN,⟨_,_,rfl,rfl,⟨_,rfl,(xO ⟨_,_,rfl,(SL.nil _),(SL.nil _)⟩)⟩,rfl⟩⟩
 intro aG N;refine zO<|xF<|yE 1 [] [22] rfl<|bE N λx1 aL N=>tO rfl rfl h aL ?_;intro ad1 bh aJ aD;obtain rfl:=aD;refine tN 0 aJ [vT x1.l] (vT x1.l) rfl ?_;obtain⟨⟨y2,y3⟩,aS,N⟩:=zC N;refine xT (pC x1 _ aS hG) ?_;rintro aW aw v2 k2 aH - ⟨v01,v02,rfl,rfl,h1,rfl⟩ -;have ⟨h,hG,H⟩:=m3 aH h hG H;obtain⟨p1,c1,rfl⟩:=h1.form;refine yO [] [5,6] rfl<|xF<|yE 1 [] [29] rfl<|bE N λx2 bg N=>tO rfl rfl h bg ?_;intro ad2 bO bw bB;obtain rfl:=bB;refine tN 0 bw [vT x2.l] (vT x2.l) rfl ?_;obtain⟨⟨y5,y6⟩,bj,N⟩:=zC N;refine xT (pC x2 _ bj hG) ?_;rintro a6 aw v2 k2 aK - ⟨v03,v04,rfl,rfl,h3,rfl⟩ -;have ⟨h1,H⟩:=m2 aK h1 H;obtain⟨p2,c2,rfl⟩:=h3.form;refine yO [] [7,8] rfl<|zE<|yK ?_;obtain⟨aI,aB,hMc1⟩:=zC N;refine rZ (λI' af m'=>∃(t3:Bool) (x3:zB) (p3:Option Addr) (c3:Nat) (p4:Option Addr) (c4:Nat),aI=(t3,x3)/\a6.le I'/\(S4 I' p3 x3.Lo c3)/\(S4 I' p4 x3.Hi c4)/\af=[hB b (cLoop x3 p3 c3 p4 c4)]/\m'=[(2,vP b 0),(3,.bool t3)]) ?_ ?_
 ·have H:=iS a6;refine zF<|yE 5 [] [37,39] rfl<|uF [39] aB ?_ ?_
  ·intro aR N;exact yE 7 [] [41] rfl<|uE 0 [vS p1 y2 c1,vS p2 y5 c2] rfl<|yO [] [3] rfl<|xC<|zL ⟨_,_,_,_,_,_,(zD N).symm,H,h1,h3,rfl,rfl⟩
  intro aR N;exact gX 7 [] [(41,vF)]<|uE 0 [vS p1 y2 c1,vS p2 y5 c2] rfl<|sG [] [(3,vF)]<|xC<|zL ⟨_,_,_,_,_,_,(zD N).symm,H,h1,h3,rfl,rfl⟩
 rintro bu aw m2 ⟨t3,x3,p3,c3,p4,c4,heq1,aV,h5,h6,rfl,rfl⟩;subst aI;refine zE<|xL ?_;obtain rfl:=zD hMc1;exact wJ ⟨_,_,(.cell 0 rfl rfl (by kernel_rfl) (.tmp rfl ResV.nil)),zN,⟨_,_,rfl,rfl,⟨_,rfl,(xO ⟨_,_,rfl,h5,h6⟩)⟩,rfl⟩⟩
def wB(l:List Str)(ak:List zB)(t29:Int):Option (Out (List zB) ((List zB)×Bool)):=do
 if(decide (t29<(l.length:Int))) then
  let x1<-idx l t29
  let (y2,y3)<-sU x1
  if(!y3) then
   pure (.ret (([]:List zB),false))
  else
   let ax<-app 48 ak ([y2]:List zB)
   wB l ax (W (t29+1))
 else
  pure (.done ak)
 partial_fixpoint
theorem mZ(l:List Str):∀(ak:List zB) (t29:Int) (o:Out (List zB) ((List zB)×Bool)),wB l ak t29=some o->∀{B}{I0 I:Imm}{Q}{am:Str}{p1 c1 p2 c2 cs},I0.le I->(S4 I p1 l c1)->(GH Tryz.prog I)->(RL I cs ak)->NG Q->NO Q->(∀(I':Imm) (aj:List zB) (p3:Option Addr) (c3:Nat) (aF:List Value),o=(.done aj)->I0.le I'->(RL I' aF aj)->T 55 B Q (.exit 0) I' [hO zB (vS p3 aj c3) aF] [(0,vT am.l),(6,vS p3 aj c3)])->(∀r I' af m',o=(.ret r)->I0.le I'->RS Tryz.prog f18 B (qI  r) I' af m'->T 55 B Q .ret I' af m')->J Tryz.prog 55 B (nav (bodyOf f18) [1,1,1,1,1,0,1,0]) Q I [hO zB (vS p2 ak c2) cs] [(0,vT am.l),(6,vS p2 ak c2),(27,vS p1 l c1),(28,vI (l.length:Int)),(29,vI t29)]:=by
 refine wB.partial_correctness l _ λaO ih ak t29 o N B I0 I Q am p1 c1 p2 c2 cs H h1 hG h3 hg ho hx hr=>wI hg ho<|yL [30] rfl<|yC<|yI N ?_ ?_
 ·intro aR N;refine zO<|yC<|xK<|xH<|bE N λx1 aS N=>tO rfl rfl h1 aS ?_;intro ad1 bh aJ aD;obtain rfl:=aD;refine tN 0 aJ [vT x1.l] (vT x1.l) rfl<|yO [] [8] rfl<|xF<|yE 1 [] [34] rfl ?_;obtain⟨⟨y2,y3⟩,bg,N⟩:=zC N;refine xT (fN x1 _ bg hG) ?_;rintro aW aw v2 k2 aH - ⟨v02,v03,rfl,rfl,⟨bf,rfl,h5⟩,rfl⟩ -;have ⟨h3,h1,hG,H⟩:=m4 aH h3 h1 hG H;obtain⟨p4,c4,p5,c5,rfl,h7,h8⟩:=yZ h5;refine yE 5 [] [36,37] rfl<|rF zTwo ?_;intro b hb;refine uE 0 (cLoop y2 p4 c4 p5 c5) rfl<|yO [] [10] rfl<|yC<|yL [39] rfl<|zE<|yI N ?_ ?_
  ·intro bq N;exact yL [2,3] rfl<|vG<|zG<|yD<|zG<|zG<|hr _ _ _ _ (zD N).symm H ⟨_,_,(.tmp rfl (.tmp rfl ResV.nil)),zN,⟨_,_,rfl,rfl,(SL.nil _),rfl⟩⟩
  intro bq N;refine zO<|zE<|zF<|gX 2 [0] [(40,vS p2 ak c2),(41,vA (cLoop y2 p4 c4 p5 c5))]<|qC (cLoop y2 p4 c4 p5 c5) zB ?_;intro b1 hb1;have h9:RL aW (cLoop y2 p4 c4 p5 c5) ([y2]:List zB):=⟨(cLoop y2 p4 c4 p5 c5),_,rfl,rfl,(xO ⟨_,_,rfl,h7,h8⟩),rfl⟩;obtain⟨ax,bj,N⟩:=zC N;exact oO 92 2 2 rfl rfl rfl h3 (.inr ⟨0,rfl⟩) h9 bj λp6 c6 aZ h10=>oI (xN [1,2] (af:=[hB b (cLoop y2 p4 c4 p5 c5),hO zB (vS p6 ax c6) aZ]))<|yO [] [6] rfl<|zJ<|zE<|zF<|yO [] [29] rfl<|wD<|jR (yS [1] rfl (by decide))<|kK<|ih ax (W (t29+1)) _ N H h1 hG h10 hg ho hx hr
 intro aR N;exact rG<|xC<|hx _ _ _ _ _ (zD N).symm H h3
def tI(am:Str):Option ((List zB)×Bool):=do
 let y<-uX am (⟨[10]⟩:Str)
 let t24<-(do
  let x<-idx y (W ((y.length:Int) - 1))
  if(!(x.l==([]:List UInt8))) then
   pure true
  else
   pure (decide ((W ((y.length:Int) - 1))>4))
    : Option Bool)
 if t24 then
  pure (([]:List zB),false)
 else
  let l<-slc y 0 (W ((y.length:Int) - 1))
  match<-wB l ([]:List zB) 0 with
  | .ret r0=>pure r0
  | .done aj=>
   let t53<-(do
    let y4<-vH aj
    if(!y4) then
     pure true
    else
     let y5<-tS aj
     pure (!(y5.l==am.l))
      : Option Bool)
   if t53 then
    pure (([]:List zB),false)
   else
    pure (aj,true)
theorem oA:∀am r,tI am=some r->∀{I:Imm} ,(GH Tryz.prog I)->RT 18 [vT am.l] I [] (qI  r):=by
 intro am r N I  hG;unfold tI at N;refine yN func18 λB=>?_;have H:=iS I;refine vO []<|xF<|yE 1 [] [11] rfl<|bE N λy hy N=>xT (qQ am (⟨[10]⟩:Str) _ hy hG) ?_;rintro I0 aw v2 k2 le - ⟨v0,rfl,rfl,h⟩ -;have ⟨hG,H⟩:=m2 le hG H;obtain⟨p,c,rfl⟩:=h.form;refine yO [] [4] rfl<|sH [5] rfl<|yC<|yK ?_;refine tA N [] (λt24=>[(0,vT am.l),(4,vS p y c),(5,vI (W ((y.length:Int) - 1))),(24,.bool t24)]) (λo0 aC=>?_) ?_
 ·have H:=iS I0;refine zF<|yE 2 [] [16,17] rfl ?_;obtain⟨x,aA,N⟩:=zC aC;refine tO rfl rfl h aA ?_;intro ad az au al;obtain rfl:=al;refine tN 0 au [vT x.l] (vT x.l) rfl<|yE 6 [] [21] rfl<|uF [21] N ?_ ?_
  ·intro hc N;exact sG [] [(24,vY)]<|xC<|zL (ct N H)
  intro hc N;exact yO [] [24] rfl<|xC<|zL (ct N H)
 intro t24 aQ ah aN;have ⟨h,hG,H⟩:=m3 ah h hG H;refine zE<|yI aN ?_ ?_
 ·intro aG N;refine yL [2,3] rfl<|vG<|zG ?_;obtain rfl:=zD N;exact wJ ⟨_,_,(.tmp rfl (.tmp rfl ResV.nil)),zN,⟨_,_,rfl,rfl,(SL.nil _),rfl⟩⟩
 intro aG N;refine zO<|zCu [(6,z0)]<|yC<|xH<|yE 2 [] [25,26] rfl<|bE N λl aL N=>zFM rfl h aL ?_;intro v01 h1;obtain⟨p1,c1,rfl⟩:=h1.form;refine yO [] [28,29] rfl<|sR<|pY [(0,vT am.l),(6,z0),(27,vS p1 l c1),(28,vI (l.length:Int)),(29,vI 0)]<|zCv zB λh2=>?_;obtain⟨aI,aB,aM⟩:=zC N;refine mZ l ([]:List zB) 0 aI aB iR h1 hG h2 (λ_ _ _ h=>h) (λ_ _ h=>h) ?_ ?_
 ·intro a6 aj p3 c3 aF heq1 aK h4;subst aI;have ⟨hG,H⟩:=m2 aK hG H;refine zR<|yC<|yK ?_;refine tA aM [hO zB (vS p3 aj c3) aF] (λt53=>[(6,vS p3 aj c3),(53,.bool t53)]) (λo02 ho02=>?_) ?_
  ·have H:=iS a6;refine zF<|yE 1 [] [45] rfl ?_;obtain⟨y4,hy6,N⟩:=zC ho02;refine pW (L:=[hO zB (vS p3 aj c3) aF]) (hs1:=[]) (rest:=[]) rfl rfl rfl rfl (by kernel_rfl) rfl rfl (λi1 ah hl1=>rA aj _ hy6 ⟨_,hl1 (hO zB (vS p3 aj c3) aF) (by simp),iM ah h4⟩) ?_;rintro - bG aw v2 k2 aV - - - ⟨v06,rfl,rfl,rfl⟩ -;have ⟨h4,hG,H⟩:=m3 aV h4 hG H;refine yE 4 [] [48] rfl<|uF [48] N ?_ ?_
   ·intro bx N;exact sG [] [(53,vY)]<|xC<|zL (ct N H)
   intro bx N;refine yE 5 [] [49] rfl<|bE N λy5 hy7 N=>pW (L:=[hO zB (vS p3 aj c3) aF]) (hs1:=[]) (rest:=[]) rfl rfl rfl rfl (by kernel_rfl) rfl rfl (λi1 ah hl1=>oU aj _ hy7 ⟨_,hl1 (hO zB (vS p3 aj c3) aF) (by simp),iM ah h4⟩ (hG.mono ah)) ?_;rintro - I06 aw v2 k2 bm - - - ⟨v07,rfl,rfl,rfl⟩ -;have H:=H.trans bm;exact yO [] [53] rfl<|xC<|zL (ct N H)
  intro t53 bu bp hMc1;have h4:=iM bp h4;refine zE<|yI hMc1 ?_ ?_
  ·intro hc5 N;refine yL [2,3] rfl<|vG<|zG ?_;obtain rfl:=zD N;exact wJ ⟨_,_,(.tmp rfl (.tmp rfl ResV.nil)),zN,⟨_,_,rfl,rfl,(SL.nil _),rfl⟩⟩
  intro hc5 N;refine zO<|sH [2,3] rfl<|vG<|uN 0 rfl ?_;intro I07 le7 hl0;have h13:=SL.of_frozen hl0 le7 h4;obtain rfl:=zD N;exact wJ ⟨_,_,(.tmp rfl (.tmp rfl ResV.nil)),zN,⟨_,_,rfl,rfl,h13,rfl⟩⟩
 intro r0 I9 hs9 m9 aT le9 aU;subst aT;refine yD<|zG ?_;obtain rfl:=zD aM;exact wJ aU
def uK(ae:(List zB))(ak:Str)(i:Int):Option (Str):=do
 if(decide (i<(ae.length:Int))) then
  let s<-cat ak (⟨[102,111,114,32]⟩:Str)
  let x<-idx ae i
  let y<-wV x.Lo
  let s1<-cat s y
  let s2<-cat s1 (⟨[32]⟩:Str)
  let x1<-idx ae i
  let y1<-wV x1.Hi
  let s3<-cat s2 y1
  let s4<-cat s3 (⟨[10]⟩:Str)
  uK ae s4 (W (i+1))
 else
  pure (id ak)
 partial_fixpoint
theorem gL(ae:(List zB)):∀(ak:Str) (i:Int) (o:Str),uK ae ak i=some o->∀{B}{I0 I:Imm}{Q p c},I0.le I->(S4 I p ae c)->NG Q->NO Q->(∀(I':Imm) (aj:Str),o=aj->I0.le I'->T 30 B Q (.exit 0) I' [] [(3,vT aj.l)])->J Tryz.prog 30 B (nav (bodyOf f40) [1,1,0,1,0]) Q I [] [(0,vS p ae c),(3,vT ak.l),(4,vI i)]:=by
 refine uK.partial_correctness ae _ λaO ih ak i o N B I0 I Q p c H h hg ho hx=>wI hg ho<|yK<|yL [8] rfl<|zE<|yI N ?_ ?_
 ·intro hc N;refine zO<|yC<|xK ?_;obtain⟨s,hy,N⟩:=zC N;obtain⟨x,aA,N⟩:=zC N;obtain⟨y,aL,N⟩:=zC N;obtain⟨s1,aS,N⟩:=zC N;obtain⟨s2,bg,N⟩:=zC N;obtain⟨x1,bj,N⟩:=zC N;obtain⟨y1,hy6,N⟩:=zC N;obtain⟨s3,hy7,N⟩:=zC N;obtain⟨s4,hy8,N⟩:=zC N;refine qA [.p (vT ak.l) [],.q (vT s.l),.p (vS p ae c) [],.p (vI i) [],.x (ePLoop x),.x (ePLoop x),.x (eS x.Lo),.q (vT y.l),.q (vT s1.l),.q (vT s2.l),.p (vS p ae c) [],.p (vI i) [],.x (ePLoop x1),.x (eQLoop 1 x1),.x (eS x1.Hi),.q (vT y1.l),.q (vT s3.l),.q (vT s4.l)] [[],[(0,false)],[],[],[(2,false),(3,false)],[(4,false)],[(5,false)],[(6,false)],[(1,false),(7,false)],[(8,false)],[],[],[(10,false),(11,false)],[(12,false)],[(13,false)],[(14,false)],[(9,false),(15,false)],[(16,false)]] [] [] [(17,false)] zN ?_ ?_
  ·refine Op<|Oq ?_<|Op<|Op<|Ox ?_<|Ox ?_<|Ox ?_<|Oq ?_<|Oq ?_<|Oq ?_<|Op<|Op<|Ox ?_<|Ox ?_<|Ox ?_<|Oq ?_<|Oq ?_<|Oq ?_<|On
   ·intro I1 hf ah;exact uS [11] rfl<|rX rfl hy<|tP iR
   ·intro I1 hf ah;refine uS [13,14] rfl ?_;have h:=h.mono ah;refine tO rfl rfl h aA ?_;intro ad az au al;obtain⟨p1,c1,p2,c2,rfl,h1,h2⟩:=yZ al;exact uP [] iR ⟨_,_,_,_,_,rfl,rfl,au,h1,h2⟩
   ·rintro I1 hf ah _ _ ⟨ad,p1,c1,p2,c2,rfl,rfl,au,h1,h2⟩;exact uS [15] rfl<|R_p 6 [(16,.pointer (some ad))]<|uP [] iR ⟨_,_,_,_,_,rfl,rfl,au,h1,h2⟩
   ·rintro I1 hf ah _ _ ⟨ad1,aX,aY,p21,c21,rfl,rfl,aJ,h11,h21⟩;exact uS [16] rfl<|tN 0 aJ [vS aX x.Lo aY] (vS aX x.Lo aY) rfl<|uP [] iR ⟨_,_,rfl,rfl,h11⟩
   ·rintro I1 hf ah _ _ ⟨p111,c111,rfl,rfl,h111⟩;refine uS [17] rfl ?_;have H:=iS I1;refine xT (pM x.Lo _ aL h111) ?_;rintro I0 aw v2 k2 le - ⟨v02,rfl,rfl,rfl⟩ -;have H:=H.trans le;exact tP H
   ·intro I1 hf ah;exact uS [12,18] rfl<|rX rfl aS<|tP iR
   ·intro I1 hf ah;exact uS [19] rfl<|rX rfl bg<|tP iR
   ·intro I1 hf ah;refine uS [21,22] rfl ?_;have h:=h.mono ah;refine tO rfl rfl h bj ?_;intro ad2 bh bw aD;obtain⟨p3,c3,p4,c4,rfl,h4,h5⟩:=yZ aD;exact uP [] iR ⟨_,_,_,_,_,rfl,rfl,bw,h4,h5⟩
   ·rintro I1 hf ah _ _ ⟨ad2,p3,c3,p4,c4,rfl,rfl,bw,h4,h5⟩;exact uS [23] rfl<|R_p 14 [(24,.pointer (some (ad2.add 1)))]<|uP [] iR ⟨_,_,_,_,_,rfl,rfl,bw,h4,h5⟩
   ·rintro I1 hf ah _ _ ⟨ad21,p31,c31,p41,c41,rfl,rfl,hat21,h41,h51⟩;exact uS [24] rfl<|tN 1 hat21 [vS p41 x1.Hi c41] (vS p41 x1.Hi c41) rfl<|uP [] iR ⟨_,_,rfl,rfl,h51⟩
   ·rintro I1 hf ah _ _ ⟨p411,c411,rfl,rfl,h511⟩;refine uS [25] rfl ?_;have H:=iS I1;refine xT (pM x1.Hi _ hy6 h511) ?_;rintro aQ aw v2 k2 ah - ⟨v05,rfl,rfl,rfl⟩ -;have H:=H.trans ah;exact tP H
   ·intro I1 hf ah;exact uS [20,26] rfl<|rX rfl hy7<|tP iR
   intro I1 hf ah;exact uS [27] rfl<|rX rfl hy8<|tP iR
  intro aW aH;refine uS [0,4,28] rfl ?_;have ⟨h,H⟩:=m2 aH h H;exact yO [] [3] rfl<|zJ<|zE<|zF<|yO [] [4] rfl<|wD<|kK<|ih s4 (W (i+1)) _ N H h hg ho hx
 intro hc N;exact rG<|xC<|hx _ _ (zD N).symm H
def sY(ae:(List zB)):Option (Str):=do
 let aj<-uK ae (⟨[]⟩:Str) 0
 pure (id aj)
theorem kA:∀ae r,sY ae=some r->∀{I:Imm}{p c},(S4 I p ae c)->RT 40 [vS p ae c] I [] (yA  r):=by
 intro ae r N I p c h;unfold sY at N;refine yN func40 λB=>vO []<|sH [3] rfl<|yC<|yL [4] rfl<|sR<|pY [(0,vS p ae c),(3,vT ([])),(4,vI 0)] ?_;obtain⟨o0,aC,aM⟩:=zC N;refine gL ae (⟨[]⟩:Str) 0 o0 aC iR h (λ_ _ _ h=>h) (λ_ _ h=>h) ?_;intro a6 aj heq aK;subst o0;refine zR<|sH [2] rfl<|zE<|xL ?_;obtain rfl:=zD aM;exact tD
def uV(ae:(List zB)):Option (Str):=do
 let y<-uI ae
 if(!y) then
  pure (⟨[]⟩:Str)
 else
  let y1<-sY ae
  pure (id y1)
theorem pR:∀ae r,uV ae=some r->∀{I:Imm}{p c},(S4 I p ae c)->RT 19 [vS p ae c] I [] (yA  r):=by
 intro ae r N I p c h;unfold uV at N;refine yN func19 λB=>vO []<|yC<|xH<|yE 1 [] [3] rfl<|bE N λy hy N=>pE (qG ae _ hy h) ?_;intro I0 le;have h:=h.mono le;refine yO [] [5] rfl<|zE<|yI N ?_ ?_
 ·intro hc N;refine yL [2] rfl<|vG<|zG ?_;obtain rfl:=zD N;exact tD
 intro hc N;refine zO<|xF<|yE 1 [] [6] rfl<|bE N λy1 aA N=>xT (kA ae _ aA h) ?_;rintro aQ aw v2 k2 ah - ⟨v01,rfl,rfl,rfl⟩ -;refine yO [] [2] rfl<|zE<|xL ?_;obtain rfl:=zD N;exact tD
def fO(b0:Nat)(r:Str×zH):KT:=λkk I' af v=>
 ∃v0 k0,af=[.blk b0 ⟨k0⟩]/\v=tupV [v0]/\v0=.string ⟨⟨r.1.l⟩⟩/\Rp.rep I' k0 r.2
def rM(r0:zH)(s:Str)(bits:(List Str)):Option (Str×zH):=do
 let (t15,x)<-(do
  if((s.l.length:Int)==0) then
   pure (true,r0)
  else
   let (y1,y2)<-yH r0 2
   pure ((y1==0),y2)
    : Option (Bool×zH))
 if t15 then
  pure (s,x)
 else
  let (y4,y5)<-yH x (s.l.length:Int)
  let s1<-sslc s 0 y4
  let (y7,y8)<-sS y5 bits
  let s2<-cat s1 y7
  let (y10,y11)<-yH y8 2
  let s3<-sslc s (W (y4+y10)) (s.l.length:Int)
  let s4<-cat s2 s3
  pure (s4,y11)
theorem zAB:∀r0 s bits r,rM r0 s bits=some r->∀{I:Imm}{aE:Nat}{p c p1 c1},(S4 I p r0.b c)->(S4 I p1 bits c1)->RT 53 [vP aE 0,vT s.l,vS p1 bits c1] I [hB aE (cRd r0 p c)] (fO aE r):=by
 intro r0 s bits r N I aE p c p1 c1 h h1;unfold rM at N;refine yN func53 λB=>?_;have H:=iS I;refine vO []<|yC<|yK ?_;obtain⟨o0,aC,aN⟩:=zC N;refine rZ (λI' af m'=>∃(t15:Bool) (x:zH) (p2:Option Addr) (c2:Nat),o0=(t15,x)/\I.le I'/\(S4 I' p2 x.b c2)/\af=[hB aE (cRd x p2 c2)]/\m'=[(0,vP aE 0),(1,vT s.l),(2,vS p1 bits c1),(15,.bool t15)]) ?_ ?_
 ·have H:=iS I;refine zF<|yE 4 [] [11] rfl<|uF [11] aC ?_ ?_
  ·intro hc N;exact sG [] [(15,vY)]<|xC<|zL ⟨_,_,_,_,(zD N).symm,H,h,rfl,rfl⟩
  intro hc N;refine yE 5 [] [12] rfl ?_;obtain⟨⟨y1,y2⟩,hy,N⟩:=zC N;refine pT (yY r0 2 _ hy h) rfl ?_;rintro aQ aw v2 k2 le - ⟨v0,kk,rfl,rfl,rfl,h4⟩ -;have H:=H.trans le;obtain⟨p3,c3,rfl,h5⟩:=yG h4;exact yO [] [15] rfl<|xC<|zL ⟨_,_,_,_,(zD N).symm,H,h5,rfl,rfl⟩
 rintro I0 aw m2 ⟨t15,x,p2,c2,heq,ah,h2,rfl,rfl⟩;subst o0;have ⟨h1,H⟩:=m2 ah h1 H;refine zE<|yI aN ?_ ?_
 ·intro aG N;refine yL [6] rfl<|vG<|zG ?_;obtain rfl:=zD N;exact wJ ⟨_,_,(.tmp rfl ResV.nil),(yS [0] rfl (by decide)),⟨_,_,rfl,rfl,rfl,(yR ⟨_,rfl,h2⟩)⟩⟩
 intro aG N;refine zO<|xF<|yE 3 [] [17,19] rfl ?_;obtain⟨⟨y4,y5⟩,aA,N⟩:=zC N;refine pT (yY x (s.l.length:Int) _ aA h2) rfl ?_;rintro aW aw v2 k2 aH - ⟨v02,kk1,rfl,rfl,rfl,h7⟩ -;have ⟨h1,H⟩:=m2 aH h1 H;obtain⟨p4,c4,rfl,h8⟩:=yG h7;refine yO [] [7] rfl<|zE<|yK ?_;obtain⟨s1,aL,N⟩:=zC N;obtain⟨⟨y7,y8⟩,aS,N⟩:=zC N;obtain⟨s2,bg,N⟩:=zC N;obtain⟨⟨y10,y11⟩,bj,N⟩:=zC N;obtain⟨s3,hy6,N⟩:=zC N;obtain⟨s4,hy7,N⟩:=zC N;refine qA [.p (vT s.l) [],.p (vI y4) [],.q (vT s1.l),.p (vP aE 0) [],.p (vS p1 bits c1) [],.x (λI' v hx=>∃p5 c5,v=vT y7.l/\hx=[hB aE (cRd y8 p5 c5)]/\(S4 I' p5 y8.b c5)),.q (vT s2.l),.p (vT s.l) [],.p (vI y4) [],.p (vP aE 0) [],.x (λI' v hx=>∃p6 c6,v=vI y10/\hx=[hB aE (cRd y11 p6 c6)]/\(S4 I' p6 y11.b c6)),.q (vI (W (y4+y10))),.q (vT s3.l),.q (vT s4.l)] [[],[],[(0,false),(1,false)],[],[],[(3,false),(4,false),(15,true)],[(2,false),(5,false)],[],[],[],[(9,false),(5,true)],[(8,false),(10,false)],[(7,false),(11,false)],[(6,false),(12,false)]] [] [[hB aE (cRd y5 p4 c4)]] [(10,true),(13,false)] (xN [0]) ?_ ?_
 ·refine Op<|Op<|Oq ?_<|Op<|Op<|Ox ?_<|Oq ?_<|Op<|Op<|Op<|Ox ?_<|Oq ?_<|Oq ?_<|Oq ?_<|On
  ·intro I1 hf ah;exact uS [21,22] rfl<|jV rfl aL<|tP iR
  ·rintro I1 hf ah _ _ ⟨rfl,rfl⟩ _ _ ⟨rfl,rfl⟩ _ _ rfl;refine uS [24,25] rfl ?_;have H:=iS I1;have ⟨h1,h8⟩:=m2 ah h1 h8;refine pT (fJ y5 bits _ aS h8 h1) rfl ?_;rintro a6 aw v2 k2 aK - ⟨v04,kk2,rfl,rfl,rfl,h10⟩ -;have H:=H.trans aK;obtain⟨p5,c5,rfl,h11⟩:=yG h10;exact uP [hB aE (cRd y8 p5 c5)] H ⟨_,_,rfl,rfl,h11⟩
  ·rintro I1 hf ah _ _ ⟨rfl,rfl⟩ _ _ ⟨p5,c5,rfl,rfl,h11⟩;exact uS [23,26] rfl<|rX rfl bg<|tP iR
  ·rintro I1 hf ah _ _ ⟨rfl,rfl⟩ _ _ ⟨p5,c5,rfl,rfl,h11⟩;refine uS [30] rfl ?_;have H:=iS I1;refine pT (yY y8 2 _ bj h11) rfl ?_;rintro bu aw v2 k2 aV - ⟨v06,kk3,rfl,rfl,rfl,h13⟩ -;have H:=H.trans aV;obtain⟨p6,c6,rfl,h14⟩:=yG h13;exact uP [hB aE (cRd y11 p6 c6)] H ⟨_,_,rfl,rfl,h14⟩
  ·rintro I1 hf ah _ _ ⟨rfl,rfl⟩ _ _ ⟨p6,c6,rfl,rfl,h14⟩;exact uS [29,31] rfl<|R_p 12 [(32,vI (W (y4+y10)))]<|tP iR
  ·intro I1 hf ah;exact uS [28,32] rfl<|jV rfl hy6<|tP iR
  intro I1 hf ah;exact uS [27,33] rfl<|rX rfl hy7<|tP iR
 rintro bG bm _ _ ⟨p6,c6,rfl,rfl,h14⟩;refine uS [34] rfl ?_;refine yO [] [6] rfl<|zE<|xL ?_;obtain rfl:=zD N;exact wJ ⟨_,_,(.tmp rfl ResV.nil),(yS [0] rfl (by decide)),⟨_,_,rfl,rfl,rfl,(yR ⟨_,rfl,h14⟩)⟩⟩
def uR(code:(List UInt8)):Option (Str):=do
 let y<-sJ code
 let (y2,y3)<-tH y
 let y4<-sY y2
 let (y6,y7)<-rM y3 y4 ([(⟨[]⟩:Str),(⟨[32]⟩:Str),(⟨[10]⟩:Str),(⟨[105]⟩:Str),(⟨[48]⟩:Str),(⟨[44]⟩:Str),(⟨[45]⟩:Str),(⟨[102,111,114]⟩:Str)]:List Str)
 pure (id y6)
theorem mG:∀code r,uR code=some r->∀{I:Imm}{p c},(S4 I p code c)->RT 23 [vS p code c] I [] (yA  r):=by
 intro code r N I p c h;unfold uR at N;refine yN func23 λB=>vO []<|xF<|yE 1 [] [4] rfl<|bE N λy hy N=>xT (nY code _ hy h) ?_;rintro I0 aw v2 k2 le - ⟨b,p1,c1,rfl,rfl,h1⟩ -;refine yO [] [3] rfl<|xF<|yE 2 [] [6,7] rfl ?_;obtain⟨⟨y2,y3⟩,aA,N⟩:=zC N;refine pT (mY y _ aA h1) rfl ?_;rintro aQ aw v2 k2 ah - ⟨v0,kk,rfl,rfl,h2,h3⟩ -;obtain⟨p2,c2,rfl⟩:=h2.form;obtain⟨p3,c3,rfl,h4⟩:=yG h3;obtain⟨y4,aL,N⟩:=zC N;refine xT (kA y2 _ aL h2) ?_;rintro aW aw v2 k2 aH - ⟨v02,rfl,rfl,rfl⟩ -;have h4:=h4.mono aH;refine dW (rT [(⟨[]⟩:Str),(⟨[32]⟩:Str),(⟨[10]⟩:Str),(⟨[105]⟩:Str),(⟨[48]⟩:Str),(⟨[44]⟩:Str),(⟨[45]⟩:Str),(⟨[102,111,114]⟩:Str)]) ?_;intro b1 a6 aK h7;have h4:=h4.mono aK;obtain⟨⟨y6,y7⟩,aS,N⟩:=zC N;refine pT (zAB y3 y4 ([(⟨[]⟩:Str),(⟨[32]⟩:Str),(⟨[10]⟩:Str),(⟨[105]⟩:Str),(⟨[48]⟩:Str),(⟨[44]⟩:Str),(⟨[45]⟩:Str),(⟨[102,111,114]⟩:Str)]:List Str) _ aS h4 h7) rfl ?_;rintro bu aw v2 k2 aV - ⟨v03,kk1,rfl,rfl,rfl,h9⟩ -;obtain⟨p4,c4,rfl,h10⟩:=yG h9;refine yO [] [2] rfl<|zE<|xL ?_;obtain rfl:=zD N;exact tD
def xJ(y:(List Str))(ak:List Str)(i:Int):Option (List Str):=do
 if(decide (i<(y.length:Int))) then
  let x<-idx y i
  let ax<-(do
   if(!(x.l==([]:List UInt8))) then
    let x1<-idx y i
    let bi<-app 16 ak ([x1]:List Str)
    pure (id bi)
   else
    pure (id ak)
     : Option (List Str))
  xJ y ax (W (i+1))
 else
  pure (id ak)
 partial_fixpoint
theorem kW(y:(List Str)):∀(ak:List Str) (i:Int) (o:List Str),xJ y ak i=some o->∀{B}{I0 I:Imm}{Q p c p1 c1 cs},I0.le I->(S4 I p y c)->(RL I cs ak)->NG Q->NO Q->(∀(I':Imm) (aj:List Str) (p2:Option Addr) (c2:Nat) (aF:List Value),o=aj->I0.le I'->(RL I' aF aj)->T 28 B Q (.exit 0) I' [hO Str (vS p2 aj c2) aF] [(4,vS p2 aj c2)])->J Tryz.prog 28 B (nav (bodyOf f107) [1,1,1,0,1,0]) Q I [hO Str (vS p1 ak c1) cs] [(3,vS p y c),(4,vS p1 ak c1),(5,vI i)]:=by
 refine xJ.partial_correctness y _ λaO ih ak i o N B I0 I Q p c p1 c1 cs H h h2 hg ho hx=>wI hg ho<|yK<|yL [12] rfl<|zE<|yI N ?_ ?_
 ·intro hc N;refine zO<|yC<|xK<|xH<|yE 2 [] [15,16] rfl<|bE N λx aA N=>tO rfl rfl h aA ?_;intro ad az au al;obtain rfl:=al;refine tN 0 au [vT x.l] (vT x.l) rfl<|yO [] [19] rfl<|zE ?_;obtain⟨o0,aC,aN⟩:=zC N;refine rZ (λI' af m'=>∃(ax:List Str) (p3:Option Addr) (c3:Nat) (bf:List Value),o0=ax/\I.le I'/\(RL I' bf ax)/\af=[hO Str (vS p3 ax c3) bf]/\m'=[(3,vS p y c),(4,vS p3 ax c3),(5,vI i)]) ?_ ?_
  ·have H:=iS I;refine yI aC ?_ ?_
   ·intro aG N;refine zF<|yE 3 [] [20,21,22] rfl<|bE N λx1 aL N=>tO rfl rfl h aL ?_;intro ad1 bh aJ aD;obtain rfl:=aD;refine tN 0 aJ [vT x1.l] (vT x1.l) rfl<|qC [vT x1.l] Str ?_;intro b1 hb1;have h5:RL I [vT x1.l] ([x1]:List Str):=rT [x1];obtain⟨bi,aS,N⟩:=zC N;exact oO 9 1 1 rfl rfl rfl h2 (.inr ⟨0,rfl⟩) h5 aS λp4 c4 aZ h6=>oI (xN [1] (af:=[hO Str (vS p4 bi c4) aZ]))<|yO [] [4] rfl<|xC<|zL ⟨_,_,_,_,(zD N).symm,H,h6,rfl,rfl⟩
   intro aG N;exact zO<|xC<|zL ⟨_,_,_,_,(zD N).symm,H,h2,rfl,rfl⟩
  rintro aQ aw m2 ⟨ax,p3,c3,bf,heq,ah,h4,rfl,rfl⟩;subst o0;have ⟨h,H⟩:=m2 ah h H;exact zJ<|zE<|zF<|yO [] [5] rfl<|wD<|kK<|ih ax (W (i+1)) _ aN H h h4 hg ho hx
 intro hc N;exact rG<|xC<|hx _ _ _ _ _ (zD N).symm H h2
def uY(s:Str):Option ((List Str)):=do
 let y<-uM s (32:UInt8)
 let aj<-xJ y ([]:List Str) 0
 pure (id aj)
theorem fP:∀s r,uY s=some r->∀{I:Imm} ,RT 107 [vT s.l] I [] (oZ  r):=by
 intro s r N I;unfold uY at N;refine yN func107 λB=>vO []<|xF<|yE 1 [] [6] rfl<|bE N λy hy N=>xT (pN s (32:UInt8) _ hy ) ?_;rintro I0 aw v2 k2 le - ⟨v0,rfl,rfl,h⟩ -;obtain⟨p,c,rfl⟩:=h.form;refine yO [] [3] rfl<|xF<|qC [] Str ?_;intro b hb;have h1:RL I0 [] ([]:List Str):=rfl;refine yO [] [4] rfl<|yC<|yL [5] rfl<|sR<|pY [(3,vS p y c),(4,vS (some ⟨b,0,none⟩) ([]:List Str) 0),(5,vI 0)] ?_;obtain⟨aI,aB,aM⟩:=zC N;refine kW y ([]:List Str) 0 aI aB iR h h1 (λ_ _ _ h=>h) (λ_ _ h=>h) ?_;intro aW aj p2 c2 aF heq1 aH h3;subst aI;refine zR<|sH [2] rfl<|vG<|uN 0 rfl ?_;intro a6 aK hl0;have h7:=SL.of_frozen hl0 aK h3;obtain rfl:=zD aM;exact wJ ⟨_,_,(.tmp rfl ResV.nil),zN,⟨_,rfl,rfl,h7⟩⟩
def fQ(r:zB):KT:=λkk I' af v=>
 ∃v0,af=[]/\v=tupV [v0]/\(∃cs,v0=.agg ⟨cs⟩/\Rp.rep I' cs r)
def sF(line:Str):Option (zB):=do
 let y<-uY line
 if((y.length:Int) != 3) then
  pure (zB.mk ([]:List zA) ([]:List zA))
 else
  let x<-idx y 1
  let y1<-wG x
  let x1<-idx y 2
  let y2<-wG x1
  pure (zB.mk y1 y2)
theorem zAC:∀line r,sF line=some r->∀{I:Imm} ,RT 67 [vT line.l] I [] (fQ  r):=by
 intro line r N I;unfold sF at N;refine yN func67 λB=>?_;have H:=iS I;refine xH<|rF zTwo ?_;intro b hb;refine xA rfl<|xF<|yE 1 [] [4] rfl<|bE N λy hy N=>xT (fP line _ hy ) ?_;rintro I0 aw v2 k2 le - ⟨v0,rfl,rfl,h⟩ -;have H:=H.trans le;obtain⟨p,c,rfl⟩:=h.form;refine yO [] [3] rfl<|yC<|yL [8] rfl<|zE<|yI N ?_ ?_
 ·intro hc N;refine xH<|yE 1 [] [9] rfl<|zB9 0 zTwo [hB b zTwo] rfl rfl rfl rfl<|xA rfl<|vG<|zG ?_;obtain rfl:=zD N;exact wJ ⟨_,_,(.cell 0 rfl rfl (by kernel_rfl) ResV.nil),zN,⟨_,rfl,rfl,⟨_,rfl,(xO ⟨_,_,rfl,(SL.nil _),(SL.nil _)⟩)⟩⟩⟩
 intro hc N;refine zO<|zE<|yK ?_;obtain⟨x,aA,N⟩:=zC N;obtain⟨y1,aL,N⟩:=zC N;obtain⟨x1,aS,N⟩:=zC N;obtain⟨y2,bg,N⟩:=zC N;refine qA [.p (vS p y c) [],.x (λI' v hx=>∃ad,v=.pointer (some ad)/\hx=[]/\(At I' ad [vT x.l])),.q (vT x.l),.x (eS y1),.p (vS p y c) [],.x (λI' v hx=>∃ad1,v=.pointer (some ad1)/\hx=[]/\(At I' ad1 [vT x1.l])),.q (vT x1.l),.x (eS y2),.x (λI' v hx=>∃aX aY p21 c21,v=vA [vS aX y1 aY,vS p21 y2 c21]/\hx=[]/\(S4 I' aX y1 aY)/\(S4 I' p21 y2 c21))] [[],[(0,false)],[(1,false)],[(2,false)],[],[(4,false)],[(5,false)],[(6,false)],[(3,false),(7,false)]] [hB b zTwo] [] [(8,false)] (xN [0]) ?_ ?_
 ·refine Op<|Ox ?_<|Oq ?_<|Ox ?_<|Op<|Ox ?_<|Oq ?_<|Ox ?_<|Ox ?_<|On
  ·intro I1 hf ah;refine uS [10] rfl ?_;have h:=h.mono ah;refine tO rfl rfl h aA ?_;intro ad az au al;obtain rfl:=al;exact uP [] iR ⟨_,rfl,rfl,au⟩
  ·rintro I1 hf ah _ _ ⟨ad,rfl,rfl,au⟩;exact uS [11] rfl<|tN 0 au [vT x.l] (vT x.l) rfl<|tP iR
  ·intro I1 hf ah;refine uS [12] rfl ?_;have H:=iS I1;refine xT (pB x _ aL ) ?_;rintro aQ aw v2 k2 ah - ⟨v01,rfl,rfl,h1⟩ -;have H:=H.trans ah;obtain⟨p1,c1,rfl⟩:=h1.form;exact uP [] H ⟨_,_,rfl,rfl,h1⟩
  ·intro I1 hf ah;refine uS [14] rfl ?_;have h:=h.mono ah;refine tO rfl rfl h aS ?_;intro ad1 bh aJ aD;obtain rfl:=aD;exact uP [] iR ⟨_,rfl,rfl,aJ⟩
  ·rintro I1 hf ah _ _ ⟨ad1,rfl,rfl,aJ⟩;exact uS [15] rfl<|tN 0 aJ [vT x1.l] (vT x1.l) rfl<|tP iR
  ·intro I1 hf ah;refine uS [16] rfl ?_;have H:=iS I1;refine xT (pB x1 _ bg ) ?_;rintro aW aw v2 k2 aH - ⟨v02,rfl,rfl,h2⟩ -;have H:=H.trans aH;obtain⟨p2,c2,rfl⟩:=h2.form;exact uP [] H ⟨_,_,rfl,rfl,h2⟩
  rintro I1 hf ah _ _ ⟨p1,c1,rfl,rfl,h1⟩ _ _ ⟨p2,c2,rfl,rfl,h2⟩;exact uS [13,17] rfl<|R_p 9 [(18,vA [vS p1 y1 c1,vS p2 y2 c2])]<|uP [] iR ⟨_,_,_,_,rfl,rfl,h1,h2⟩
 rintro a6 aK _ _ ⟨aX,aY,p21,c21,rfl,rfl,h11,h21⟩;refine uS [2,18] rfl ?_;refine uE 0 [vS aX y1 aY,vS p21 y2 c21] rfl<|xA rfl<|zE<|xL ?_;obtain rfl:=zD N;exact wJ ⟨_,_,(.cell 0 rfl rfl (by kernel_rfl) ResV.nil),zN,⟨_,rfl,rfl,⟨_,rfl,(xO ⟨_,_,rfl,h11,h21⟩)⟩⟩⟩
def wS(y:(List Str))(ak:List zB)(i:Int):Option (List zB):=do
 if(decide ((W (i+1))<(y.length:Int))) then
  let x<-idx y i
  let y1<-sF x
  let ax<-app 48 ak ([y1]:List zB)
  wS y ax (W (i+1))
 else
  pure (id ak)
 partial_fixpoint
theorem kB(y:(List Str)):∀(ak:List zB) (i:Int) (o:List zB),wS y ak i=some o->∀{B}{I0 I:Imm}{Q}{am:Str}{p c p1 c1 cs},I0.le I->(S4 I p y c)->(RL I cs ak)->NG Q->NO Q->(∀(I':Imm) (aj:List zB) (p2:Option Addr) (c2:Nat) (aF:List Value),o=aj->I0.le I'->(RL I' aF aj)->T 40 B Q (.exit 0) I' [hO zB (vS p2 aj c2) aF] [(0,vT am.l),(5,vS p2 aj c2)])->J Tryz.prog 40 B (nav (bodyOf f24) [1,1,1,1,0,1,0]) Q I [hO zB (vS p1 ak c1) cs] [(0,vT am.l),(4,vS p y c),(5,vS p1 ak c1),(6,vI i)]:=by
 refine wS.partial_correctness y _ λaO ih ak i o N B I0 I Q am p c p1 c1 cs H h h3 hg ho hx=>wI hg ho<|yK<|yL [18] rfl<|zE<|yI N ?_ ?_
 ·intro aG N;refine zO<|yC<|xK<|zF<|yE 3 [] [21,22,23] rfl<|bE N λx aA N=>tO rfl rfl h aA ?_;intro ad az au al;obtain rfl:=al;refine tN 0 au [vT x.l] (vT x.l) rfl<|bE N λy1 aL N=>xT (zAC x _ aL ) ?_;rintro aW aw v2 k2 aH - ⟨v01,rfl,rfl,⟨bf,rfl,h5⟩⟩ -;have ⟨h,h3,H⟩:=m3 aH h h3 H;obtain⟨p3,c3,p4,c4,rfl,h6,h7⟩:=yZ h5;refine qC (cLoop y1 p3 c3 p4 c4) zB ?_;intro b1 hb1;have h8:RL aW (cLoop y1 p3 c3 p4 c4) ([y1]:List zB):=⟨(cLoop y1 p3 c3 p4 c4),_,rfl,rfl,(xO ⟨_,_,rfl,h6,h7⟩),rfl⟩;obtain⟨ax,aS,N⟩:=zC N;exact oO 92 2 1 rfl rfl rfl h3 (.inr ⟨0,rfl⟩) h8 aS λp5 c5 aZ h9=>oI (xN [1] (af:=[hO zB (vS p5 ax c5) aZ]))<|yO [] [5] rfl<|zJ<|zE<|zF<|yO [] [6] rfl<|wD<|kK<|ih ax (W (i+1)) _ N H h h9 hg ho hx
 intro aG N;exact rG<|xC<|hx _ _ _ _ _ (zD N).symm H h3
def sK(am:Str):Option ((List zB)×Bool):=do
 let y<-uM am (10:UInt8)
 if(decide ((y.length:Int)>5)) then
  pure (([]:List zB),false)
 else
  let aj<-wS y ([]:List zB) 0
  let t37<-(do
   let y2<-uV aj
   if(!(y2.l==am.l)) then
    pure true
   else
    let y3<-uI aj
    pure (!y3)
     : Option Bool)
  if t37 then
   pure (([]:List zB),false)
  else
   pure (aj,true)
theorem gN:∀am r,sK am=some r->∀{I:Imm} ,RT 24 [vT am.l] I [] (qI  r):=by
 intro am r N I;unfold sK at N;refine yN func24 λB=>?_;have H:=iS I;refine vO []<|xF<|yE 1 [] [7] rfl<|bE N λy hy N=>xT (pN am (10:UInt8) _ hy ) ?_;rintro I0 aw v2 k2 le - ⟨v0,rfl,rfl,h⟩ -;have H:=H.trans le;obtain⟨p,c,rfl⟩:=h.form;refine yO [] [4] rfl<|xF<|qC [] zB ?_;intro b hb;have h1:RL I0 [] ([]:List zB):=rfl;refine yO [] [5] rfl<|yC<|yL [12] rfl<|zE<|yI N ?_ ?_
 ·intro hc N;refine yL [2,3] rfl<|vG<|zG<|uN 0 rfl ?_;intro aQ ah hl0;have h2:=SL.of_frozen hl0 ah h1;obtain rfl:=zD N;exact wJ ⟨_,_,(.tmp rfl (.tmp rfl ResV.nil)),zN,⟨_,_,rfl,rfl,h2,rfl⟩⟩
 intro hc N;refine zO<|yC<|yL [6] rfl<|sR<|pY [(0,vT am.l),(4,vS p y c),(5,vS (some ⟨b,0,none⟩) ([]:List zB) 0),(6,vI 0)] ?_;obtain⟨o0,aC,aM⟩:=zC N;refine kB y ([]:List zB) 0 o0 aC iR h h1 (λ_ _ _ h=>h) (λ_ _ h=>h) ?_;intro a6 aj p2 c2 aF heq aK h4;subst o0;have H:=H.trans aK;refine zR<|yC<|yK ?_;refine tA aM [hO zB (vS p2 aj c2) aF] (λt37=>[(5,vS p2 aj c2),(37,.bool t37)]) (λaI aB=>?_) ?_
 ·have H:=iS a6;refine zF<|yE 1 [] [29] rfl ?_;obtain⟨y2,bg,N⟩:=zC aB;refine pW (L:=[hO zB (vS p2 aj c2) aF]) (hs1:=[]) (rest:=[]) rfl rfl rfl rfl (by kernel_rfl) rfl rfl (λi1 ah hl1=>pR aj _ bg ⟨_,hl1 (hO zB (vS p2 aj c2) aF) (by simp),iM ah h4⟩) ?_;rintro - bG aw v2 k2 aV - - - ⟨v04,rfl,rfl,rfl⟩ -;have ⟨h4,H⟩:=m2 aV h4 H;refine yE 5 [] [33] rfl<|uF [33] N ?_ ?_
  ·intro aR N;exact sG [] [(37,vY)]<|xC<|zL (ct N H)
  intro aR N;refine yE 6 [] [34] rfl<|bE N λy3 bj N=>pW (L:=[hO zB (vS p2 aj c2) aF]) (hs1:=[]) (rest:=[]) rfl rfl rfl rfl (by kernel_rfl) rfl rfl (λi1 ah hl1=>qG aj _ bj ⟨_,hl1 (hO zB (vS p2 aj c2) aF) (by simp),iM ah h4⟩) ?_;rintro - I06 aw v2 k2 bm - - - ⟨v05,rfl,rfl,rfl⟩ -;have H:=H.trans bm;exact yO [] [37] rfl<|xC<|zL (ct N H)
 intro t37 bu bp aN;have h4:=iM bp h4;refine zE<|yI aN ?_ ?_
 ·intro bq N;refine xH<|qC [] zB ?_;intro b2 hb2;have h12:RL bu [] ([]:List zB):=rfl;refine yO [] [2,3] rfl<|vG<|zG<|uN 0 rfl ?_;intro I07 le7 hl01;have h13:=SL.of_frozen hl01 le7 h12;obtain rfl:=zD N;exact wJ ⟨_,_,(.tmp rfl (.tmp rfl ResV.nil)),zN,⟨_,_,rfl,rfl,h13,rfl⟩⟩
 intro bq N;refine zO<|sH [2,3] rfl<|vG<|uN 0 rfl ?_;intro I08 le8 hl02;have h14:=SL.of_frozen hl02 le8 h4;obtain rfl:=zD N;exact wJ ⟨_,_,(.tmp rfl (.tmp rfl ResV.nil)),zN,⟨_,_,rfl,rfl,h14,rfl⟩⟩
def rB(code:(List UInt8))(more:(List UInt8)):Option (Bool):=do
 let t21<-(do
  if(decide ((code.length:Int)>1048576)) then
   pure true
  else
   pure (decide ((more.length:Int)>1048576))
    : Option Bool)
 if t21 then
  pure true
 else
  let y<-uC code
  let y1<-uU y
  let (y3,y4)<-tI y1
  let t55<-(do
   let y5<-uV y
   if(!(y1.l==y5.l)) then
    pure true
   else
    let y6<-vH y
    let y7<-uI y
    if(!(y6==y7)) then
     pure true
    else
     if(!y4) then
      pure true
     else
      let y8<-vH y
      if y8 then
       let y9<-tT y3 y
       pure (!y9)
      else
       pure false
     : Option Bool)
  if t55 then
   pure false
  else
   let y10<-uR more
   let (y12,y13)<-tI y10
   let (y15,y16)<-sK y10
   let t4<-(do
    if(y13==y16) then
     let y17<-tT y12 y15
     if y17 then
      if(!y13) then
       pure true
      else
       let y18<-uU y12
       pure (y18.l==y10.l)
     else
      pure false
    else
     pure false
      : Option Bool)
   pure (id t4)
theorem zCK:∀code more r,rB code more=some r->∀{I:Imm}{p c p1 c1},(S4 I p code c)->(S4 I p1 more c1)->(GH Tryz.prog I)->RT 4 [vS p code c,vS p1 more c1] I [] (zU  r):=by
 intro code more r N I p c p1 c1 h h1 hG;unfold rB at N;refine yN func4 λB=>?_;have H:=iS I;refine vO []<|yC<|yK ?_;refine tA N [] (λt21=>[(0,vS p code c),(1,vS p1 more c1),(21,.bool t21)]) (λo0 aC=>?_) ?_
 ·have H:=iS I;refine zF<|yE 4 [] [17] rfl<|uF [17] aC ?_ ?_
  ·intro hc N;exact sG [] [(21,vY)]<|xC<|zL (ct N H)
  intro hc N;exact yO [] [21] rfl<|xC<|zL (ct N H)
 intro t21 I0 le aN;have ⟨h,h1,hG,H⟩:=m4 le h h1 hG H;refine zE<|yI aN ?_ ?_
 ·intro aG N;refine vO [(4,vY)]<|vG<|zG ?_;obtain rfl:=zD N;exact tD
 intro aG N;refine zO<|xF<|yE 1 [] [22] rfl<|bE N λy hy N=>xT (nO code _ hy h) ?_;rintro aQ aw v2 k2 ah - ⟨v0,rfl,rfl,h2⟩ -;have ⟨h1,hG,H⟩:=m3 ah h1 hG H;obtain⟨p2,c2,rfl⟩:=h2.form;refine yO [] [5] rfl<|xF<|yE 1 [] [24] rfl<|bE N λy1 aA N=>xT (pQ y _ aA h2 hG) ?_;rintro aW aw v2 k2 aH - ⟨v01,rfl,rfl,rfl⟩ -;have ⟨h1,h2,hG,H⟩:=m4 aH h1 h2 hG H;refine yO [] [6] rfl<|xF<|yE 1 [] [27] rfl ?_;obtain⟨⟨y3,y4⟩,aL,N⟩:=zC N;refine xT (oA y1 _ aL hG) ?_;rintro a6 aw v2 k2 aK - ⟨v02,v03,rfl,rfl,h4,rfl⟩ -;have ⟨h1,h2,hG,H⟩:=m4 aK h1 h2 hG H;obtain⟨p3,c3,rfl⟩:=h4.form;refine yO [] [7,8] rfl<|yC<|yK ?_;refine tA N [] (λt55=>[(1,vS p1 more c1),(55,.bool t55)]) (λaI aB=>?_) ?_
 ·have H:=iS a6;refine zF<|yE 2 [] [31,32] rfl ?_;obtain⟨y5,aS,N⟩:=zC aB;refine xT (pR y _ aS h2) ?_;rintro bG aw v2 k2 aV - ⟨v04,rfl,rfl,rfl⟩ -;have ⟨h2,h4,H⟩:=m3 aV h2 h4 H;refine yE 5 [] [35] rfl<|uF [35] N ?_ ?_
  ·intro aR N;exact sG [] [(55,vY)]<|xC<|zL (ct N H)
  intro aR N;refine yE 6 [] [36] rfl<|bE N λy6 bg N=>pE (rA y _ bg h2) ?_;intro I06 bm;have ⟨h2,h4,H⟩:=m3 bm h2 h4 H;refine yE 8 [] [38] rfl<|bE N λy7 bj N=>pE (qG y _ bj h2) ?_;intro I07 bp;have ⟨h2,h4,H⟩:=m3 bp h2 h4 H;refine yE 12 [] [42] rfl<|uF [42] N ?_ ?_
  ·intro bq N;exact sG [] [(55,vY)]<|xC<|zL (ct N H)
  intro bq N;refine yE 16 [] [46] rfl<|uF [46] N ?_ ?_
  ·intro bx N;exact sG [] [(55,vY)]<|xC<|zL (ct N H)
  intro bx N;refine yE 17 [] [47] rfl<|bE N λy8 hy6 N=>pE (rA y _ hy6 h2) ?_;intro I08 le7;have ⟨h2,h4,H⟩:=m3 le7 h2 h4 H;refine yE 19 [] [49] rfl<|uF [49] N ?_ ?_
  ·intro hc5 N;refine yE 21 [] [50,51] rfl<|bE N λy9 hy7 N=>pE (oW y3 y _ hy7 h4 h2) ?_;intro I09 le8;have H:=H.trans le8;exact yO [] [55] rfl<|xC<|zL (ct N H)
  intro hc5 N;exact sG [] [(55,vF)]<|xC<|zL (ct N H)
 intro t55 bu le9 hMc1;have ⟨h1,hG,H⟩:=m3 le9 h1 hG H;refine zE<|yI hMc1 ?_ ?_
 ·intro hc6 N;refine vO [(4,vF)]<|vG<|zG ?_;obtain rfl:=zD N;exact tD
 intro hc6 N;refine zO<|xF<|yE 1 [] [56] rfl<|bE N λy10 hy8 N=>xT (mG more _ hy8 h1) ?_;rintro bI aw v2 k2 le10 - ⟨v09,rfl,rfl,rfl⟩ -;have ⟨hG,H⟩:=m2 le10 hG H;refine yO [] [9] rfl<|xF<|yE 1 [] [59] rfl ?_;obtain⟨⟨y12,y13⟩,hy9,N⟩:=zC N;refine xT (oA y10 _ hy9 hG) ?_;rintro bP aw v2 k2 le11 - ⟨v010,v011,rfl,rfl,h12,rfl⟩ -;have ⟨hG,H⟩:=m2 le11 hG H;obtain⟨p4,c4,rfl⟩:=h12.form;refine yO [] [10,11] rfl<|xF<|yE 1 [] [64] rfl ?_;obtain⟨⟨y15,y16⟩,hy10,N⟩:=zC N;refine xT (gN y10 _ hy10 ) ?_;rintro bD aw v2 k2 le12 - ⟨v012,v013,rfl,rfl,h14,rfl⟩ -;have ⟨h12,hG,H⟩:=m3 le12 h12 hG H;obtain⟨p5,c5,rfl⟩:=h14.form;refine yO [] [12,13] rfl<|zE<|yK ?_;refine tA N [] (λt4=>[(4,.bool t4)]) (λo02 ho02=>?_) ?_
 ·have H:=iS bD;refine zF<|yE 4 [] [71] rfl<|uF [71] ho02 ?_ ?_
  ·intro hc7 N;refine yE 6 [] [72,73] rfl<|bE N λy17 hy11 N=>pE (oW y12 y15 _ hy11 h12 h14) ?_;intro I014 le13;have ⟨h12,hG,H⟩:=m3 le13 h12 hG H;refine yE 9 [] [76] rfl<|uF [76] N ?_ ?_
   ·intro hc8 N;refine yE 12 [] [79] rfl<|uF [79] N ?_ ?_
    ·intro hc9 N;exact sG [] [(4,vY)]<|xC<|zL (ct N H)
    intro hc9 N;refine yE 13 [] [80] rfl<|bE N λy18 hy12 N=>xT (pQ y12 _ hy12 h12 hG) ?_;rintro I015 aw v2 k2 le14 - ⟨v015,rfl,rfl,rfl⟩ -;have H:=H.trans le14;exact yO [] [4] rfl<|xC<|zL (ct N H)
   intro hc8 N;exact sG [] [(4,vF)]<|xC<|zL (ct N H)
  intro hc7 N;exact sG [] [(4,vF)]<|xC<|zL (ct N H)
 intro t4 I013 le15 hMc2;refine zE<|xL ?_;obtain rfl:=zD hMc2;exact tD
end Go.LN
