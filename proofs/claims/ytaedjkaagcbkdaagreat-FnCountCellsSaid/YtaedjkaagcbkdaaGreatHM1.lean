/- Helper of the proof (see the last text). -/
import Derived.Test.YtaedjkaagcbkdaaGreatLnTZ
import Derived.Test.YtaedjkaagcbkdaaGreatLnUZ
import Derived.Test.YtaedjkaagcbkdaaGreatLnY
import Derived.Test.YtaedjkaagcbkdaaGreatLnW
import Derived.Test.YtaedjkaagcbkdaaGreatTryzShelf
namespace Go.LN
set_option linter.unusedVariables false
set_option linter.unusedSimpArgs false
open Go.Proofs
set_option maxRecDepth 20000
def zBT (r:zO):Nat→Imm→List HA→Value→Prop:=fun kk imm' hs' v =>
  ∃ b_0 a0_0 c0_0,hs'=[.blk b_0 ⟨[.slice a0_0 r.b.length c0_0,.int .i64 r.p]⟩]∧v=tupV [(.pointer (some ⟨b_0,0,none⟩))]∧SL imm' (.slice a0_0 r.b.length c0_0) r.b
def nH (code:(List UInt8)):Option (zO):=do
 let code1←(do
   if (decide ((code.length:Int) > 2000)) then
    let l←slc code 0 2000
    pure (id l)
   else
    pure (id code)
     : Option (List UInt8))
 pure (zO.mk code1 0)
theorem zCo:∀ (code:(List UInt8)) r,nH code=some r→∀ {imm:Imm}{p c},(S4 imm p code c)→Ret Tryz.prog 60 [vS p code c] imm [] (zBT  r):=by
 intro code r hM imm p c h
 unfold nH at hM
 refine yF (fn:=Tryz.f60) (c:=(bodyOf Tryz.f60)) Tryz.func60 rfl rfl ?_
 rintro B - -
 have hle:imm.le imm:=Imm.le.refl _
 refine zF<|zB<|zY [] []<|zE<|zF<|zF<|zB<|zY [] [(5,.bool (decide ((code.length:Int) > 2000)))]<|zE ?_
 obtain ⟨o0,ho0,hMc⟩:=zC hM
 refine yT (fun imm' hs' m'=>∃ (code1:List UInt8) (p1:Option Addr) (c1:Nat),o0=code1∧imm.le imm'∧(S4 imm' p1 code1 c1)∧hs'=[]∧m'=[(0,vS p1 code1 c1)]) ?_ ?_
 · have hle0:=hle
   have hle:imm.le imm:=Imm.le.refl _
   refine yO ho0 ?_ ?_
   · intro hc hM
     refine zB<|yK 1 [] [(6,vS p code c)] ?_
     obtain ⟨l,hy,hM⟩:=zC hM
     refine zIo rfl h hy ?_
     intro v0 h2
     obtain ⟨p2,c2,rfl⟩:=h2.form
     exact zY [] [(0,vS p2 l c2)]<|yU [(0,vS p2 l c2)]<|yA ⟨_,_,_,(zD hM).symm,hle,h2,rfl,rfl⟩
   intro hc hM
   exact yD<|yU [(0,vS p code c)]<|yA ⟨_,_,_,(zD hM).symm,hle,h,rfl,rfl⟩
 rintro imm0 hs2 m2 ⟨code1,p1,c1,heq,le,h1,rfl,rfl⟩
 subst o0
 have hle:=hle.trans le
 refine zE<|zF<|zB<|yK 2 [] [(9,vA [vS p1 code1 c1,vI 0])]<|tS [vS p1 code1 c1,vI 0] ?_
 intro b hb
 refine zY [] [(2,vP b 0)]<|zE<|yI ?_
 obtain rfl:=zD hMc
 exact yP ⟨_,_,(.tmp rfl ResV.nil),(zK [0] rfl (by decide)),⟨_,_,_,rfl,rfl,h1⟩⟩
def dM (b0:Nat) (r:Int×zO):Nat→Imm→List HA→Value→Prop:=fun kk imm' hs' v =>
  ∃ v0 k0,hs'=[.blk b0 ⟨k0⟩]∧v=tupV [v0]∧v0=.int .i64 r.1∧Rp.rep imm' k0 r.2
def yW (r0:zO) (n0:Int):Option (Int×zO):=do
 let t24←(do
   if (decide (n0 < 1)) then
    pure true
   else
    pure ((r0.b.length:Int) == 0)
     : Option Bool)
 if t24 then
  pure (0,(zO.mk r0.b (W (r0.p + 1))))
 else
  if (decide ((W ((W (r0.p + 1)) - 1)) < (r0.b.length:Int))) then
   let x←idx r0.b (W ((W (r0.p + 1)) - 1))
   let q←rem (W (x.toNat:Int)) n0
   pure (q,(zO.mk r0.b (W (r0.p + 1))))
  else
   let q1←rem (W ((W (r0.p + 1)) - 1)) (r0.b.length:Int)
   let x1←idx r0.b q1
   let q2←rem (W ((W ((W ((W (r0.p + 1)) - 1)) * 7)) + 3)) (r0.b.length:Int)
   let x2←idx r0.b q2
   let q3←quo (W ((W (r0.p + 1)) - 1)) (r0.b.length:Int)
   let q4←rem (W (BitVec.ofInt IntKind.i64.bits (W ((W ((W ((W ((W (x1.toNat:Int)) * 131)) + (W ((W (x2.toNat:Int)) * 1117)))) + (W ((W ((W (r0.p + 1)) - 1)) * 29)))) + (W (q3 * 53)))) ^^^ BitVec.ofInt IntKind.i64.bits (W ((W ((W ((W ((W ((W (x1.toNat:Int)) * 131)) + (W ((W (x2.toNat:Int)) * 1117)))) + (W ((W ((W (r0.p + 1)) - 1)) * 29)))) + (W (q3 * 53)))).tdiv 64))).toNat) n0
   pure (q4,(zO.mk r0.b (W (r0.p + 1))))
theorem xK:∀ (r0:zO) (n0:Int) r,yW r0 n0=some r→∀ {imm:Imm}{r01:Nat}{p c},(S4 imm p r0.b c)→Ret Tryz.prog 64 [vP r01 0,vI n0] imm [hB r01 (cRd r0 p c)] (dM r01 r):=by
 intro r0 n0 r hM imm r01 p c h
 unfold yW at hM
 refine yF (fn:=Tryz.f64) (c:=(bodyOf Tryz.f64)) Tryz.func64 rfl rfl ?_
 rintro B - -
 have hle:imm.le imm:=Imm.le.refl _
 refine zF<|zB<|zY [] []<|zE<|zF<|zB<|yK 8 [0] [(12,vI (W (r0.p + 1))),(14,vP r01 1)]<|xI 0 [vS p r0.b c,vI (W (r0.p + 1))] [hB r01 [vS p r0.b c,vI (W (r0.p + 1))]] rfl rfl rfl rfl<|yN rfl<|zE<|zF<|zF ?_
 obtain ⟨o0,ho0,hMc⟩:=zC hM
 refine yT (fun imm' hs' m'=>∃ (t24:Bool),o0=t24∧imm.le imm'∧hs'=[hB r01 [vS p r0.b c,vI (W (r0.p + 1))]]∧m'=[(0,vP r01 0),(1,vI n0),(24,.bool t24)]) ?_ ?_
 · have hle0:=hle
   have hle:imm.le imm:=Imm.le.refl _
   refine zB<|yK 3 [] [(17,.bool (decide (n0 < 1)))] ?_
   cases hc:(decide (n0 < 1)) with
   | true =>
    have hM0:=zU hc ho0
    try rw [hc]
    exact zY [] [(24,.bool true)]<|yU [(0,vP r01 0),(1,vI n0),(24,.bool true)]<|yA ⟨_,(zD hM0).symm,hle,rfl,rfl⟩
   | false =>
    have hM01:=zS hc ho0
    try rw [hc]
    exact zY [0] [(24,.bool ((r0.b.length:Int) == 0))]<|yU [(0,vP r01 0),(1,vI n0),(24,.bool ((r0.b.length:Int) == 0))]<|yA ⟨_,(zD hM01).symm,hle,rfl,rfl⟩
 rintro imm0 hs2 m2 ⟨t24,heq,le,rfl,rfl⟩
 subst o0
 have h:=h.mono le
 have hle:=hle.trans le
 refine zE<|yO hMc ?_ ?_
 · intro hc1 hM
   refine zF<|zB<|zY [] [(4,vI 0)]<|zE<|yI<|zQ ?_
   obtain rfl:=zD hM
   exact yP ⟨_,_,(.tmp rfl ResV.nil),(zK [0] rfl (by decide)),⟨_,_,rfl,rfl,rfl,(yS ⟨_,rfl,h⟩)⟩⟩
 intro hc1 hM
 refine yD<|zE<|zF<|zB<|zY [0] [(5,vI (W ((W (r0.p + 1)) - 1)))]<|zE<|zF<|zF<|zB<|zY [0] [(36,.bool (decide ((W ((W (r0.p + 1)) - 1)) < (r0.b.length:Int))))]<|zE<|yO hM ?_ ?_
 · intro hc2 hM
   refine zF<|zB<|yK 5 [0] [(40,vS p r0.b c),(41,vI (W ((W (r0.p + 1)) - 1)))] ?_
   obtain ⟨x,hy,hM⟩:=zC hM
   refine wJ rfl rfl h hy ?_
   intro ad ccs hat hrep
   obtain rfl:=hrep
   refine xW 0 hat [.int .u8 (x.toNat:Int)] (.int .u8 (x.toNat:Int)) rfl<|yK 9 [] [(44,vI (W (x.toNat:Int))),(45,vI n0)] ?_
   obtain ⟨q,hy1,hM⟩:=zC hM
   refine zIq rfl hy1<|zY [] [(4,vI q)]<|zE<|yI<|zQ ?_
   obtain rfl:=zD hM
   exact yP ⟨_,_,(.tmp rfl ResV.nil),(zK [0] rfl (by decide)),⟨_,_,rfl,rfl,rfl,(yS ⟨_,rfl,h⟩)⟩⟩
 intro hc2 hM
 refine yD<|zE<|zF<|jG (by kernel_rfl) (by kernel_rfl)<|eV 10 [0,0] [(50,vS p r0.b c),(51,vI (W ((W (r0.p + 1)) - 1))),(56,vI (r0.b.length:Int))] ?_
 obtain ⟨q1,hy2,hM⟩:=zC hM
 refine zIQ rfl hy2 ?_
 obtain ⟨x1,hy3,hM⟩:=zC hM
 refine zD5 rfl rfl h hy3 ?_
 intro ad1 ccs1 hat1 hrep1
 obtain rfl:=hrep1
 refine zD4 0 hat1 [.int .u8 (x1.toNat:Int)] (.int .u8 (x1.toNat:Int)) rfl<|eV 27 [0,0] [(61,vI (W ((W (x1.toNat:Int)) * 131))),(65,vS p r0.b c),(68,vI (W ((W ((W ((W (r0.p + 1)) - 1)) * 7)) + 3))),(73,vI (r0.b.length:Int))] ?_
 obtain ⟨q2,hy4,hM⟩:=zC hM
 refine zIQ rfl hy4 ?_
 obtain ⟨x2,hy5,hM⟩:=zC hM
 refine zD5 rfl rfl h hy5 ?_
 intro ad2 ccs2 hat2 hrep2
 obtain rfl:=hrep2
 refine zD4 0 hat2 [.int .u8 (x2.toNat:Int)] (.int .u8 (x2.toNat:Int)) rfl<|eV 42 [0] [(82,vI (W ((W ((W ((W (x1.toNat:Int)) * 131)) + (W ((W (x2.toNat:Int)) * 1117)))) + (W ((W ((W (r0.p + 1)) - 1)) * 29))))),(83,vI (W ((W (r0.p + 1)) - 1))),(88,vI (r0.b.length:Int))] ?_
 obtain ⟨q3,hy6,hM⟩:=zC hM
 refine zIp rfl hy6<|zCn [] [(6,vI (W ((W ((W ((W ((W (x1.toNat:Int)) * 131)) + (W ((W (x2.toNat:Int)) * 1117)))) + (W ((W ((W (r0.p + 1)) - 1)) * 29)))) + (W (q3 * 53)))))]<|zE<|zF<|zB<|zY [] [(6,vI (W (BitVec.ofInt IntKind.i64.bits (W ((W ((W ((W ((W (x1.toNat:Int)) * 131)) + (W ((W (x2.toNat:Int)) * 1117)))) + (W ((W ((W (r0.p + 1)) - 1)) * 29)))) + (W (q3 * 53)))) ^^^ BitVec.ofInt IntKind.i64.bits (W ((W ((W ((W ((W ((W (x1.toNat:Int)) * 131)) + (W ((W (x2.toNat:Int)) * 1117)))) + (W ((W ((W (r0.p + 1)) - 1)) * 29)))) + (W (q3 * 53)))).tdiv 64))).toNat))]<|zE<|zF<|zB<|yK 2 [] [(96,vI (W (BitVec.ofInt IntKind.i64.bits (W ((W ((W ((W ((W (x1.toNat:Int)) * 131)) + (W ((W (x2.toNat:Int)) * 1117)))) + (W ((W ((W (r0.p + 1)) - 1)) * 29)))) + (W (q3 * 53)))) ^^^ BitVec.ofInt IntKind.i64.bits (W ((W ((W ((W ((W ((W (x1.toNat:Int)) * 131)) + (W ((W (x2.toNat:Int)) * 1117)))) + (W ((W ((W (r0.p + 1)) - 1)) * 29)))) + (W (q3 * 53)))).tdiv 64))).toNat)),(97,vI n0)] ?_
 obtain ⟨q4,hy7,hM⟩:=zC hM
 refine zIq rfl hy7<|zY [] [(4,vI q4)]<|zE<|yI ?_
 obtain rfl:=zD hM
 exact yP ⟨_,_,(.tmp rfl ResV.nil),(zK [0] rfl (by decide)),⟨_,_,rfl,rfl,rfl,(yS ⟨_,rfl,h⟩)⟩⟩
def zAn (b0:Nat) (r:Str×zO):Nat→Imm→List HA→Value→Prop:=fun kk imm' hs' v =>
  ∃ v0 k0,hs'=[.blk b0 ⟨k0⟩]∧v=tupV [v0]∧v0=.string ⟨⟨r.1.l⟩⟩∧Rp.rep imm' k0 r.2
def qF (r0:zO) (list:(List Str)):Option (Str×zO):=do
 let (y1,y2)←yW r0 (list.length:Int)
 let x←idx list y1
 pure (x,y2)
theorem mX:∀ (r0:zO) (list:(List Str)) r,qF r0 list=some r→∀ {imm:Imm}{r01:Nat}{p c p1 c1},(S4 imm p r0.b c)→(S4 imm p1 list c1)→Ret Tryz.prog 65 [vP r01 0,vS p1 list c1] imm [hB r01 (cRd r0 p c)] (zAn r01 r):=by
 intro r0 list r hM imm r01 p c p1 c1 h h1
 unfold qF at hM
 refine yF (fn:=Tryz.f65) (c:=(bodyOf Tryz.f65)) Tryz.func65 rfl rfl ?_
 rintro B - -
 have hle:imm.le imm:=Imm.le.refl _
 refine zF<|zB<|zY [] []<|zE<|zF<|zB<|yK 4 [] [(5,vS p1 list c1),(6,vP r01 0),(8,vI (list.length:Int))] ?_
 obtain ⟨⟨y1,y2⟩,hy,hM⟩:=zC hM
 refine tV [hB r01 (cRd r0 p c)] [] (xK r0 (list.length:Int) _ hy h) ?_
 rintro imm0 hs2 v2 k2 le - ⟨v0,kk,rfl,rfl,rfl,h3⟩ -
 have h1:=h1.mono le
 have hle:=hle.trans le
 obtain ⟨v01,rfl,h4⟩:=yH h3
 obtain ⟨p2,c2,rfl⟩:=h4.form
 obtain ⟨x,hy1,hM⟩:=zC hM
 refine wJ rfl rfl h1 hy1 ?_
 intro ad ccs hat hrep
 obtain rfl:=hrep
 refine xW 0 hat [vT x.l] (vT x.l) rfl<|zY [] [(4,vT x.l)]<|zE<|yI ?_
 obtain rfl:=zD hM
 exact yP ⟨_,_,(.tmp rfl ResV.nil),(zK [0] rfl (by decide)),⟨_,_,rfl,rfl,rfl,(yS ⟨_,rfl,h4⟩)⟩⟩
def zAW (b0:Nat) (r:Int×zO):Nat→Imm→List HA→Value→Prop:=fun kk imm' hs' v =>
  ∃ v0 k0,hs'=[.blk b0 ⟨k0⟩]∧v=tupV [v0]∧v0=.int .i64 r.1∧Rp.rep imm' k0 r.2
def yV (r0:zO) (list:(List Int)):Option (Int×zO):=do
 let (y1,y2)←yW r0 (list.length:Int)
 let x←idx list y1
 pure (x,y2)
theorem xC:∀ (r0:zO) (list:(List Int)) r,yV r0 list=some r→∀ {imm:Imm}{r01:Nat}{p c p1 c1},(S4 imm p r0.b c)→(S4 imm p1 list c1)→Ret Tryz.prog 66 [vP r01 0,vS p1 list c1] imm [hB r01 (cRd r0 p c)] (zAW r01 r):=by
 intro r0 list r hM imm r01 p c p1 c1 h h1
 unfold yV at hM
 refine yF (fn:=Tryz.f66) (c:=(bodyOf Tryz.f66)) Tryz.func66 rfl rfl ?_
 rintro B - -
 have hle:imm.le imm:=Imm.le.refl _
 refine zF<|zB<|zY [] []<|zE<|zF<|zB<|yK 4 [] [(5,vS p1 list c1),(6,vP r01 0),(8,vI (list.length:Int))] ?_
 obtain ⟨⟨y1,y2⟩,hy,hM⟩:=zC hM
 refine tV [hB r01 (cRd r0 p c)] [] (xK r0 (list.length:Int) _ hy h) ?_
 rintro imm0 hs2 v2 k2 le - ⟨v0,kk,rfl,rfl,rfl,h3⟩ -
 have h1:=h1.mono le
 have hle:=hle.trans le
 obtain ⟨v01,rfl,h4⟩:=yH h3
 obtain ⟨p2,c2,rfl⟩:=h4.form
 obtain ⟨x,hy1,hM⟩:=zC hM
 refine wJ rfl rfl h1 hy1 ?_
 intro ad ccs hat hrep
 obtain rfl:=hrep
 refine xW 0 hat [vI x] (vI x) rfl<|zY [] [(4,vI x)]<|zE<|yI ?_
 obtain rfl:=zD hM
 exact yP ⟨_,_,(.tmp rfl ResV.nil),(zK [0] rfl (by decide)),⟨_,_,rfl,rfl,rfl,(yS ⟨_,rfl,h4⟩)⟩⟩
def zCL (r:zA):Nat→Imm→List HA→Value→Prop:=fun kk imm' hs' v =>
  ∃ a0_0 c0_0 s0_0,hs'=[.osl (.slice a0_0 r.Coefs.length c0_0) (Rp.sz Int) s0_0]∧v=tupV [(.agg ⟨[.slice a0_0 r.Coefs.length c0_0,.int .i64 r.Const]⟩)]∧RepL (Rp.rep imm') (Rp.sz Int) s0_0 r.Coefs
def rU :Option (zA):=do
 pure (zA.mk ([0,0,0,0]:List Int) 0)
theorem oF:∀ r,rU =some r→∀ {imm:Imm} ,Ret Tryz.prog 146 [] imm [] (zCL  r):=by
 intro  r hM imm
 unfold rU at hM
 refine yF (fn:=Tryz.f146) (c:=(bodyOf Tryz.f146)) Tryz.func146 rfl rfl ?_
 rintro B - -
 have hle:imm.le imm:=Imm.le.refl _
 refine zF<|zB<|vV [.slice none 0 0,vI 0] ?_
 intro b hb
 refine yN rfl<|zE<|zF<|zB<|xV [vI 0,vI 0,vI 0,vI 0] Int ?_
 intro b1 hb1
 have h:RL imm [vI 0,vI 0,vI 0,vI 0] ([0,0,0,0]:List Int):=⟨[vI 0],_,rfl,rfl,rfl,⟨[vI 0],_,rfl,rfl,rfl,⟨[vI 0],_,rfl,rfl,rfl,⟨[vI 0],_,rfl,rfl,rfl,rfl⟩⟩⟩⟩
 refine yK 2 [] [(2,vA [vS (some ⟨b1,0,none⟩) ([0,0,0,0]:List Int) 4,vI 0])]<|xI 1 [vS (some ⟨b1,0,none⟩) ([0,0,0,0]:List Int) 4,vI 0] [hO Int (vS (some ⟨b1,0,none⟩) ([0,0,0,0]:List Int) 4) [vI 0,vI 0,vI 0,vI 0],hB b [vS (some ⟨b1,0,none⟩) ([0,0,0,0]:List Int) 4,vI 0]] rfl rfl rfl rfl<|yN rfl<|zE<|yI ?_
 obtain rfl:=zD hM
 exact yP ⟨_,_,(.cell 1 rfl rfl (by kernel_rfl) ResV.nil),(zK [0] rfl (by decide)),⟨_,_,_,rfl,rfl,h⟩⟩
def zCp (r:zA):Nat→Imm→List HA→Value→Prop:=fun kk imm' hs' v =>
  ∃ v0,hs'=[]∧v=tupV [v0]∧(∃ cs,v0=.agg ⟨cs⟩∧Rp.rep imm' cs r)
def qP (v0:Int):Option (zA):=do
 let y←rU
 let x←idx y.Coefs v0
 let l←pure (y.Coefs.set v0.toNat 1)
 pure (zA.mk l y.Const)
theorem nV:∀ (v0:Int) r,qP v0=some r→∀ {imm:Imm} ,Ret Tryz.prog 129 [vI v0] imm [] (zCp  r):=by
 intro v0 r hM imm
 unfold qP at hM
 refine yF (fn:=Tryz.f129) (c:=(bodyOf Tryz.f129)) Tryz.func129 rfl rfl ?_
 rintro B - -
 have hle:imm.le imm:=Imm.le.refl _
 refine zF<|zB<|vV [.slice none 0 0,vI 0] ?_
 intro b hb
 refine yN rfl<|zE<|zF<|zB ?_
 obtain ⟨y,hy,hM⟩:=zC hM
 refine yQ (oF  _ hy ) ?_
 rintro imm0 hs2 v2 k2 le - ⟨p,c,cs,rfl,rfl,h⟩ -
 have hle:=hle.trans le
 refine vV [.slice none 0 0,vI 0] ?_
 intro b1 hb1
 refine xI 0 (cAff y p c) [hB b1 (cAff y p c),hO Int (vS p y.Coefs c) cs,hB b [.slice none 0 0,vI 0]] rfl rfl rfl rfl<|yN rfl<|zE<|zF<|zB<|yK 3 [0] [(6,vS p y.Coefs c),(7,vI v0)] ?_
 obtain ⟨x,hy1,hM⟩:=zC hM
 refine nU 1 rfl rfl rfl h hy1 ?_
 intro ad ccs hat hcc hrep
 obtain rfl:=hrep
 obtain ⟨l,hy2,hM⟩:=zC hM
 refine pA (c:=[vI 1]) (x':=1) 1 0 rfl rfl rfl hat rfl rfl hcc (by kernel_rfl) (by kernel_rfl) (by kernel_rfl) h hy1 (by kernel_rfl) rfl ?_
 rw [show y.Coefs.set v0.toNat 1=l from zD hy2]
 intro cs1 h1 hl0
 refine kK (m':=[(2,vP b 0),(3,vP b1 0),(6,vS p y.Coefs c),(7,vI v0)]) ⟨rfl,rfl,rfl,rfl,trivial⟩<|zCH (hs':=[hB b1 [vS p l c,vI y.Const],hO Int (vS p l c) cs1,hB b [.slice none 0 0,vI 0]]) (m':=[(2,vP b 0),(3,vP b1 0),(6,vS p l c),(7,vI v0)]) (by first | rfl | simp only [vS,hl0,List.nil_append,List.cons_append,List.set_cons_zero,List.set_cons_succ,List.eraseIdx_cons_zero,List.eraseIdx_cons_succ]) (by first | rfl | simp only [vS,hl0])<|yN rfl<|zE<|zF<|zB<|yK 1 [0] [(9,vA [vS p l c,vI y.Const])]<|xI 2 [vS p l c,vI y.Const] [hB b1 [vS p l c,vI y.Const],hO Int (vS p l c) cs1,hB b [vS p l c,vI y.Const]] rfl rfl rfl rfl<|yN rfl<|zE<|yI<|xL 1 rfl ?_
 intro imm01 le1 hl01
 have h2:=SL.of_frozen hl01 le1 h1
 have hle:=hle.trans le1
 obtain rfl:=zD hM
 exact yP ⟨_,_,(.cell 1 rfl rfl (by kernel_rfl) ResV.nil),zW,⟨_,rfl,rfl,⟨_,rfl,(yR ⟨_,rfl,h2⟩)⟩⟩⟩
def fX (r:zA):Nat→Imm→List HA→Value→Prop:=fun kk imm' hs' v =>
  ∃ v0,hs'=[]∧v=tupV [v0]∧(∃ cs,v0=.agg ⟨cs⟩∧Rp.rep imm' cs r)
def uJ (a0:zA):Option (zA):=do
 if ((a0.Coefs.length:Int) == 0) then
  pure (zA.mk ([]:List Int) a0.Const)
 else
  let l←app 8 ([]:List Int) a0.Coefs
  pure (zA.mk l a0.Const)
theorem kL:∀ (a0:zA) r,uJ a0=some r→∀ {imm:Imm}{p c},(S4 imm p a0.Coefs c)→Ret Tryz.prog 195 [vA (cAff a0 p c)] imm [] (fX  r):=by
 intro a0 r hM imm p c h
 unfold uJ at hM
 refine yF (fn:=Tryz.f195) (c:=(bodyOf Tryz.f195)) Tryz.func195 rfl rfl ?_
 rintro B - -
 have hle:imm.le imm:=Imm.le.refl _
 refine zF<|zB<|tS (cAff a0 p c) ?_
 intro b hb
 refine vV [.slice none 0 0,vI 0] ?_
 intro b1 hb1
 refine yN rfl<|zE<|zF<|zF<|zB<|zY [1] [(6,.bool ((a0.Coefs.length:Int) == 0))]<|zE<|yO hM ?_ ?_
 · intro hc hM
   refine zF<|zB<|yK 3 [1] [(9,vA [.slice none 0 0,vI a0.Const])]<|xI 0 [.slice none 0 0,vI a0.Const] [hB b1 [.slice none 0 0,vI a0.Const],hB b (cAff a0 p c)] rfl rfl rfl rfl<|yN rfl<|zE<|yI<|zQ ?_
   obtain rfl:=zD hM
   exact yP ⟨_,_,(.cell 0 rfl rfl (by kernel_rfl) ResV.nil),zW,⟨_,rfl,rfl,⟨_,rfl,(yR ⟨_,rfl,(SL.nil _)⟩)⟩⟩⟩
 intro hc hM
 refine yD<|zE<|zF ?_
 obtain ⟨l,hy,hM⟩:=zC hM
 refine uD [.x (fun imm' v hx=>∃ b2,v=vS (some ⟨b2,0,none⟩) ([]:List Int) 0∧hx=[hO Int (vS (some ⟨b2,0,none⟩) ([]:List Int) 0) []]∧(RL imm' [] ([]:List Int))),.p (vP b 0) [],.p (vS p a0.Coefs c) [1],.x (fun imm' v hx=>∃ p1 c1 cs,v=vS p1 l c1∧hx=[hO Int (vS p1 l c1) cs]∧(RL imm' cs l)),.p (vP b 1) [],.p (vI a0.Const) [1],.x (fun imm' v hx=>∃ p11 c11 cs1,v=vA [vS p11 l c11,vI a0.Const]∧hx=[hO Int (vS p11 l c11) cs1]∧(RL imm' cs1 l))] [[],[],[(1,false)],[(0,true),(2,false)],[],[(4,false)],[(3,true),(5,false)]] [hB b1 [.slice none 0 0,vI 0],hB b (cAff a0 p c)] [] [(6,true)] (zK [0,1] rfl (by decide)) ?_ ?_
 · refine Ox ?_<|Op<|Op<|Ox ?_<|Op<|Op<|Ox ?_<|On
   · intro imm1 hf le1
     refine zN<|yG [] ?_
     have hle:=Imm.le.refl imm1
     refine xV [] Int ?_
     intro b2 hb2
     have h1:RL imm1 [] ([]:List Int):=rfl
     exact zZ (hx:=[hO Int (vS (some ⟨b2,0,none⟩) ([]:List Int) 0) []]) rfl hle rfl (zM rfl) ⟨_,rfl,rfl,h1⟩
   · intro imm1 hf le1
     refine zG ?_
     rintro _ _ ⟨b2,rfl,rfl,h1⟩
     refine zG ?_
     rintro _ _ ⟨rfl,rfl⟩
     refine zN<|yG [(10,vS (some ⟨b2,0,none⟩) ([]:List Int) 0),(12,vS p a0.Coefs c)] ?_
     have hle:=Imm.le.refl imm1
     have h:=h.mono le1
     obtain ⟨ccs,k0,k01⟩:=h
     have h:SL imm1 (vS p a0.Coefs c) a0.Coefs:=⟨_,k0,k01⟩
     refine pC 3 1 0 rfl rfl rfl h1 (.inl k0) k01 hy ?_
     intro p1 c1 cs h2
     exact vW (hs':=(hO Int (vS p1 l c1) cs::hB b1 [.slice none 0 0,vI 0]::hB b (cAff a0 p c)::hf)) rfl<|zZ (hx:=[hO Int (vS p1 l c1) cs]) rfl hle rfl (zM rfl) ⟨_,_,_,rfl,rfl,h2⟩
   intro imm1 hf le1
   refine zG ?_
   rintro _ _ ⟨p1,c1,cs,rfl,rfl,h2⟩
   refine zG ?_
   rintro _ _ ⟨rfl,rfl⟩
   refine zN<|yG [(13,vS p1 l c1),(15,vI a0.Const)] ?_
   have hle:=Imm.le.refl imm1
   exact qX 7 [(16,vA [vS p1 l c1,vI a0.Const])]<|zZ (hx:=[hO Int (vS p1 l c1) cs]) rfl hle rfl (zM rfl) ⟨_,_,_,rfl,rfl,h2⟩
 intro imm0 le
 refine zG ?_
 rintro _ _ ⟨p11,c11,cs1,rfl,rfl,h21⟩
 refine zN<|yG [(2,vP b1 0),(16,vA [vS p11 l c11,vI a0.Const])] ?_
 have h:=h.mono le
 have hle:=hle.trans le
 refine xI 1 [vS p11 l c11,vI a0.Const] [hO Int (vS p11 l c11) cs1,hB b1 [vS p11 l c11,vI a0.Const],hB b (cAff a0 p c)] rfl rfl rfl rfl<|yN rfl<|zE<|yI<|xL 0 rfl ?_
 intro imm01 le1 hl0
 have h3:=SL.of_frozen hl0 le1 h21
 have h:=h.mono le1
 have hle:=hle.trans le1
 obtain rfl:=zD hM
 exact yP ⟨_,_,(.cell 0 rfl rfl (by kernel_rfl) ResV.nil),zW,⟨_,rfl,rfl,⟨_,rfl,(yR ⟨_,rfl,h3⟩)⟩⟩⟩
def fY (r:zL):Nat→Imm→List HA→Value→Prop:=fun kk imm' hs' v =>
  ∃ a0_1 c0_1 s0_1,hs'=[.osl (.slice a0_1 r.Subs.length c0_1) (Rp.sz zA) s0_1]∧v=tupV [(.agg ⟨[.string ⟨⟨r.Array.l⟩⟩,.slice a0_1 r.Subs.length c0_1]⟩)]∧RepL (Rp.rep imm') (Rp.sz zA) s0_1 r.Subs
def xP (a0:zL) (i:Int) (Subs:List zA):Option (List zA):=do
 if (decide (i < (a0.Subs.length:Int))) then
  let x←idx a0.Subs i
  let y←uJ x
  let l←app 32 Subs ([y]:List zA)
  xP a0 (W (i + 1)) l
 else
  pure (id Subs)
 partial_fixpoint
theorem fC (a0:zL):∀ (i:Int) (Subs:List zA) (o:List zA),xP a0 i Subs=some o→∀ {B}{imm0 imm:Imm}{Q p c}{b:Nat}{b1:Nat}{b2:Nat}{p1 c1 cs},imm0.le imm→(S4 imm p a0.Subs c)→(RL imm cs Subs)→(∀ l a w,¬Q (.goto l) a w)→(∀ a w,¬Q .outgrown a w)→(∀ (imm':Imm) (Subs1:List zA) (p2:Option Addr) (c2:Nat) (cs1:List Value),o=Subs1→imm0.le imm'→(RL imm' cs1 Subs1)→T 27 B Q (.exit 0) imm' [hO zA (vS p2 Subs1 c2) cs1,hB b2 [vT a0.Array.l,vS p2 Subs1 c2],hB b1 [vT ([]),.slice none 0 0]] [(2,vP b1 0),(3,vP b2 0)])→J Tryz.prog 27 B (nav (bodyOf Tryz.f174) [1,1,0,1,0]) Q imm [hO zA (vS p1 Subs c1) cs,hB b2 [vT a0.Array.l,vS p1 Subs c1],hB b1 [vT ([]),.slice none 0 0],hB b (cAccess a0 p c)] [(1,vP b 0),(2,vP b1 0),(3,vP b2 0),(4,vI i)]:=by
 refine xP.partial_correctness a0 _ ?_
 intro self ih i Subs o hM B imm0 imm Q p c b b1 b2 p1 c1 cs hle h h2 hg ho hx
 refine xE hg ho<|zF<|zF<|zB<|zY [3] [(12,.bool (decide (i < (a0.Subs.length:Int))))]<|zE<|yO hM ?_ ?_
 · intro hc hM
   refine yD<|zE<|zF<|yB ?_
   obtain ⟨x,hy,hM⟩:=zC hM
   obtain ⟨y,hy1,hM⟩:=zC hM
   obtain ⟨l,hy2,hM⟩:=zC hM
   refine uD [.p (vP b2 1) [],.p (vS p1 Subs c1) [0],.p (vP b 1) [],.p (vS p a0.Subs c) [2],.p (vI i) [],.x (fun imm' v hx=>∃ ad p3 c3,v=.pointer (some ad)∧hx=[]∧(At imm' ad (cAff x p3 c3))∧(S4 imm' p3 x.Coefs c3)),.x (fun imm' v hx=>∃ p31 c31,v=vA (cAff x p31 c31)∧hx=[]∧(S4 imm' p31 x.Coefs c31)),.x (fun imm' v hx=>∃ p4 c4,v=vA (cAff y p4 c4)∧hx=[]∧(S4 imm' p4 y.Coefs c4)),.x (fun imm' v hx=>∃ b3,v=vS (some ⟨b3,0,none⟩) ([y]:List zA) 1∧hx=[]∧(SL imm' (vS (some ⟨b3,0,none⟩) ([y]:List zA) 1) ([y]:List zA))),.x (fun imm' v hx=>∃ p5 c5 cs3,v=vS p5 l c5∧hx=[hO zA (vS p5 l c5) cs3]∧(RL imm' cs3 l))] [[],[(0,false)],[],[(2,false)],[],[(3,false),(4,false)],[(5,false)],[(6,false)],[(7,false)],[(1,false),(8,false),(12,true)]] [hB b2 [vT a0.Array.l,vS p1 Subs c1],hB b1 [vT ([]),.slice none 0 0],hB b (cAccess a0 p c)] [[hO zA (vS p1 Subs c1) cs]] [(9,true)] (zK [1,2,3,0] rfl (by decide)) ?_ ?_
   · refine Op<|Op<|Op<|Op<|Op<|Ox ?_<|Ox ?_<|Ox ?_<|Ox ?_<|Ox ?_<|On
     · intro imm1 hf le1
       refine zG ?_
       rintro _ _ ⟨rfl,rfl⟩
       refine zG ?_
       rintro _ _ ⟨rfl,rfl⟩
       refine zN<|yG [(18,vS p a0.Subs c),(19,vI i)] ?_
       have hle:=Imm.le.refl imm1
       have h:=h.mono le1
       refine wJ rfl rfl h hy ?_
       intro ad ccs hat hrep
       obtain ⟨v0,rfl,h4⟩:=yM hrep
       obtain ⟨p3,c3,rfl⟩:=h4.form
       exact zZ (hx:=[]) rfl hle rfl (zM rfl) ⟨_,_,_,rfl,rfl,hat,h4⟩
     · intro imm1 hf le1
       refine zG ?_
       rintro _ _ ⟨ad,p3,c3,rfl,rfl,hat,h4⟩
       refine zN<|yG [(20,.pointer (some ad))] ?_
       have hle:=Imm.le.refl imm1
       exact xW 0 hat (cAff x p3 c3) (vA (cAff x p3 c3)) rfl<|zZ (hx:=[]) rfl hle rfl (zM rfl) ⟨_,_,rfl,rfl,h4⟩
     · intro imm1 hf le1
       refine zG ?_
       rintro _ _ ⟨p31,c31,rfl,rfl,h41⟩
       refine zN<|yG [(21,vA (cAff x p31 c31))] ?_
       have hle:=Imm.le.refl imm1
       have h2:=RepL.mono (fun _ _=>Rp.mono le1) h2
       have h:=h.mono le1
       refine yQ (kL x _ hy1 h41) ?_
       rintro imm0 hs2 v2 k2 le - ⟨v01,rfl,rfl,⟨cs2,rfl,h5⟩⟩ -
       have h41:=h41.mono le
       have h2:=RepL.mono (fun _ _=>Rp.mono le) h2
       have h:=h.mono le
       have hle:=hle.trans le
       obtain ⟨v02,rfl,h6⟩:=yM h5
       obtain ⟨p4,c4,rfl⟩:=h6.form
       exact zZ (hx:=[]) rfl hle rfl (zM rfl) ⟨_,_,rfl,rfl,h6⟩
     · intro imm1 hf le1
       refine zG ?_
       rintro _ _ ⟨p4,c4,rfl,rfl,h6⟩
       refine zN<|yG [(22,vA (cAff y p4 c4))] ?_
       have hle:=Imm.le.refl imm1
       have h2:=RepL.mono (fun _ _=>Rp.mono le1) h2
       have h:=h.mono le1
       refine xV (cAff y p4 c4) zA ?_
       intro b3 hb3
       have h7:RL imm1 (cAff y p4 c4) ([y]:List zA):=⟨(cAff y p4 c4),_,rfl,rfl,(yR ⟨_,rfl,h6⟩),rfl⟩
       refine yL 0 rfl ?_
       intro imm01 le1 hl0
       have h8:=SL.of_frozen hl0 le1 h7
       have h6:=h6.mono le1
       have h2:=RepL.mono (fun _ _=>Rp.mono le1) h2
       have h:=h.mono le1
       have hle:=hle.trans le1
       exact zZ (hx:=[]) rfl hle rfl (zM rfl) ⟨_,rfl,rfl,h8⟩
     intro imm1 hf le1
     refine zG ?_
     rintro _ _ ⟨rfl,rfl⟩
     refine zG ?_
     rintro _ _ ⟨b3,rfl,rfl,h8⟩
     refine zG ?_
     rintro _ _ rfl
     refine zN<|yG [(16,vS p1 Subs c1),(23,vS (some ⟨b3,0,none⟩) ([y]:List zA) 1)] ?_
     have hle:=Imm.le.refl imm1
     have h2:=RepL.mono (fun _ _=>Rp.mono le1) h2
     obtain ⟨ccs1,k0,k01⟩:=h8
     have h8:SL imm1 (vS (some ⟨b3,0,none⟩) ([y]:List zA) 1) ([y]:List zA):=⟨_,k0,k01⟩
     refine pC 45 2 0 rfl rfl rfl h2 (.inl k0) k01 hy2 ?_
     intro p5 c5 cs3 h9
     exact vW (hs':=(hO zA (vS p5 l c5) cs3::hB b2 [vT a0.Array.l,vS p1 Subs c1]::hB b1 [vT ([]),.slice none 0 0]::hB b (cAccess a0 p c)::hf)) rfl<|zZ (hx:=[hO zA (vS p5 l c5) cs3]) rfl hle rfl (zM rfl) ⟨_,_,_,rfl,rfl,h9⟩
   intro imm02 le2
   refine zG ?_
   rintro _ _ ⟨p5,c5,cs3,rfl,rfl,h9⟩
   refine zN<|yG [(1,vP b 0),(2,vP b1 0),(3,vP b2 0),(4,vI i),(24,vS p5 l c5)] ?_
   have h2:=RepL.mono (fun _ _=>Rp.mono le2) h2
   have h:=h.mono le2
   have hle:=hle.trans le2
   exact yK 11 [] [(25,vP b2 1)]<|xI 1 [vT a0.Array.l,vS p5 l c5] [hO zA (vS p5 l c5) cs3,hB b2 [vT a0.Array.l,vS p5 l c5],hB b1 [vT ([]),.slice none 0 0],hB b (cAccess a0 p c)] rfl rfl rfl rfl<|yN rfl<|zX<|zE<|zB<|zY [] [(4,vI (W (i + 1)))]<|xF<|vX [(1,vP b 0),(2,vP b1 0),(3,vP b2 0),(4,vI (W (i + 1)))]<|ih (W (i + 1)) l _ hM hle h h9 hg ho hx
 intro hc hM
 exact xA<|zT<|zT<|xZ (zK [0,1,2] rfl (by decide))<|yU [(2,vP b1 0),(3,vP b2 0)]<|hx _ _ _ _ _ (zD hM).symm hle h2
def wV (a0:zL):Option (zL):=do
 let Subs1←xP a0 0 ([]:List zA)
 pure (zL.mk a0.Array Subs1)
theorem nI:∀ (a0:zL) r,wV a0=some r→∀ {imm:Imm}{p c},(S4 imm p a0.Subs c)→Ret Tryz.prog 174 [vA (cAccess a0 p c)] imm [] (fY  r):=by
 intro a0 r hM imm p c h
 unfold wV at hM
 refine yF (fn:=Tryz.f174) (c:=(bodyOf Tryz.f174)) Tryz.func174 rfl rfl ?_
 rintro B - -
 have hle:imm.le imm:=Imm.le.refl _
 refine zF<|zB<|tS (cAccess a0 p c) ?_
 intro b hb
 refine vV [vT ([]),.slice none 0 0] ?_
 intro b1 hb1
 refine yN rfl<|zE<|zF<|zB<|yK 3 [1] [(7,vA [vT a0.Array.l,.slice none 0 0])]<|vV [vT ([]),.slice none 0 0] ?_
 intro b2 hb2
 refine xI 0 [vT a0.Array.l,.slice none 0 0] [hB b2 [vT a0.Array.l,.slice none 0 0],hB b1 [vT ([]),.slice none 0 0],hB b (cAccess a0 p c)] rfl rfl rfl rfl<|yN rfl<|zE<|zF<|zF<|zB<|zY [] [(4,vI 0)]<|zE<|yB<|vX [(1,vP b 0),(2,vP b1 0),(3,vP b2 0),(4,vI 0)]<|qU (tF (Rp.sz zA)) ?_
 have h1:RL imm [] ([]:List zA):=RepL.nil
 obtain ⟨o0,ho0,hMl⟩:=zC hM
 refine fC a0 0 ([]:List zA) o0 ho0 (Imm.le.refl _) h h1 (fun _ _ _ h=>h) (fun _ _ h=>h) ?_
 intro imm03 Subs1 p2 c2 cs1 heq le3 h3
 subst o0
 have hle:=hle.trans le3
 refine yC<|zE<|zF<|zB<|yK 1 [1] [(26,vA [vT a0.Array.l,vS p2 Subs1 c2])]<|xI 2 [vT a0.Array.l,vS p2 Subs1 c2] [hO zA (vS p2 Subs1 c2) cs1,hB b2 [vT a0.Array.l,vS p2 Subs1 c2],hB b1 [vT a0.Array.l,vS p2 Subs1 c2]] rfl rfl rfl rfl<|yN rfl<|zE<|yI ?_
 obtain rfl:=zD hMl
 exact yP ⟨_,_,(.cell 2 rfl rfl (by kernel_rfl) ResV.nil),(zK [0] rfl (by decide)),⟨_,_,_,rfl,rfl,h3⟩⟩
def nJ (r:zI):Nat→Imm→List HA→Value→Prop:=fun kk imm' hs' v =>
  ∃ a0_2 c0_2 a0_5 c0_5 a0_6 c0_6 s0_6,hs'=[.osl (.slice a0_6 r.Kids.length c0_6) (Rp.sz zI) s0_6]∧v=tupV [(.agg ⟨[.int .i64 r.Kind,.int .i64 r.Num,.slice a0_2 r.Index.Coefs.length c0_2,.int .i64 r.Index.Const,.string ⟨⟨r.Read.Array.l⟩⟩,.slice a0_5 r.Read.Subs.length c0_5,.slice a0_6 r.Kids.length c0_6]⟩)]∧SL imm' (.slice a0_2 r.Index.Coefs.length c0_2) r.Index.Coefs∧SL imm' (.slice a0_5 r.Read.Subs.length c0_5) r.Read.Subs∧RepL (Rp.rep imm') (Rp.sz zI) s0_6 r.Kids
mutual
def sJ (e0:zI):Option (zI):=do
 let y←uJ e0.Index
 let y1←wV e0.Read
 let Kids1←wN (same e0) (same 0) ([]:List zI)
 pure (zI.mk e0.Kind e0.Num y (zL.mk y1.Array y1.Subs) Kids1)
 partial_fixpoint
def wN (e0:zI) (i:Int) (Kids:List zI):Option (List zI):=do
 if (decide (i < (e0.Kids.length:Int))) then
  let x←idx e0.Kids i
  let y2←sJ (same x)
  let l←app 112 Kids ([y2]:List zI)
  wN (same e0) (W (i + 1)) (same l)
 else
  pure (id Kids)
 partial_fixpoint
end
theorem zAX:(∀ (e0:zI) r,sJ e0=some r→∀ {imm:Imm}{p c p1 c1 p2 c2},(S4 imm p e0.Index.Coefs c)→(S4 imm p1 e0.Read.Subs c1)→(S4 imm p2 e0.Kids c2)→Ret Tryz.prog 178 [vA (cExpr e0 p c p1 c1 p2 c2)] imm [] (nJ  r))∧(∀ (e0:zI) (i:Int) (Kids:List zI) o,wN e0 i Kids=some o→∀ {B}{imm0 imm:Imm}{Q}{y:zA}{y1:zL}{p c p1 c1 p2 c2}{b:Nat}{b1:Nat}{p31 c31 p41 c41 cs11}{b2:Nat}{p5 c5 cs2},imm0.le imm→(S4 imm p31 y.Coefs c31)→(RL imm cs11 y1.Subs)→(S4 imm p e0.Index.Coefs c)→(S4 imm p1 e0.Read.Subs c1)→(S4 imm p2 e0.Kids c2)→(RL imm cs2 Kids)→(∀ l a w,¬Q (.goto l) a w)→(∀ a w,¬Q .outgrown a w)→(∀ (imm':Imm) (Kids1:List zI) (p6:Option Addr) (c6:Nat) (cs3:List Value),o=Kids1→imm0.le imm'→(RL imm' cs3 Kids1)→T 35 B Q (.exit 0) imm' [hO zI (vS p6 Kids1 c6) cs3,hB b2 [vI e0.Kind,vI e0.Num,vS p31 y.Coefs c31,vI y.Const,vT y1.Array.l,vS p41 y1.Subs c41,vS p6 Kids1 c6],hO zA (vS p41 y1.Subs c41) cs11,hB b1 zExpr] [(2,vP b1 0),(3,vP b2 0)])→J Tryz.prog 35 B (nav (bodyOf Tryz.f178) [1,1,0,1,0]) Q imm [hO zI (vS p5 Kids c5) cs2,hB b2 [vI e0.Kind,vI e0.Num,vS p31 y.Coefs c31,vI y.Const,vT y1.Array.l,vS p41 y1.Subs c41,vS p5 Kids c5],hO zA (vS p41 y1.Subs c41) cs11,hB b1 zExpr,hB b (cExpr e0 p c p1 c1 p2 c2)] [(1,vP b 0),(2,vP b1 0),(3,vP b2 0),(4,vI i)]):=by
  refine sJ.mutual_partial_correctness (fun e0 r=>∀ {imm:Imm}{p c p1 c1 p2 c2},(S4 imm p e0.Index.Coefs c)→(S4 imm p1 e0.Read.Subs c1)→(S4 imm p2 e0.Kids c2)→Ret Tryz.prog 178 [vA (cExpr e0 p c p1 c1 p2 c2)] imm [] (nJ  r)) (fun e0 i Kids o=>∀ {B}{imm0 imm:Imm}{Q}{y:zA}{y1:zL}{p c p1 c1 p2 c2}{b:Nat}{b1:Nat}{p31 c31 p41 c41 cs11}{b2:Nat}{p5 c5 cs2},imm0.le imm→(S4 imm p31 y.Coefs c31)→(RL imm cs11 y1.Subs)→(S4 imm p e0.Index.Coefs c)→(S4 imm p1 e0.Read.Subs c1)→(S4 imm p2 e0.Kids c2)→(RL imm cs2 Kids)→(∀ l a w,¬Q (.goto l) a w)→(∀ a w,¬Q .outgrown a w)→(∀ (imm':Imm) (Kids1:List zI) (p6:Option Addr) (c6:Nat) (cs3:List Value),o=Kids1→imm0.le imm'→(RL imm' cs3 Kids1)→T 35 B Q (.exit 0) imm' [hO zI (vS p6 Kids1 c6) cs3,hB b2 [vI e0.Kind,vI e0.Num,vS p31 y.Coefs c31,vI y.Const,vT y1.Array.l,vS p41 y1.Subs c41,vS p6 Kids1 c6],hO zA (vS p41 y1.Subs c41) cs11,hB b1 zExpr] [(2,vP b1 0),(3,vP b2 0)])→J Tryz.prog 35 B (nav (bodyOf Tryz.f178) [1,1,0,1,0]) Q imm [hO zI (vS p5 Kids c5) cs2,hB b2 [vI e0.Kind,vI e0.Num,vS p31 y.Coefs c31,vI y.Const,vT y1.Array.l,vS p41 y1.Subs c41,vS p5 Kids c5],hO zA (vS p41 y1.Subs c41) cs11,hB b1 zExpr,hB b (cExpr e0 p c p1 c1 p2 c2)] [(1,vP b 0),(2,vP b1 0),(3,vP b2 0),(4,vI i)]) ?_ ?_
  · intro F_spec_l3CopyExpr_l1 ih_spec_l3CopyExpr_l1 e0 r hM imm p c p1 c1 p2 c2 h h1 h2
    refine yF (fn:=Tryz.f178) (c:=(bodyOf Tryz.f178)) Tryz.func178 rfl rfl ?_
    rintro B - -
    have hle:imm.le imm:=Imm.le.refl _
    refine zF<|zB<|tS (cExpr e0 p c p1 c1 p2 c2) ?_
    intro b hb
    refine vV zExpr ?_
    intro b1 hb1
    refine yN rfl<|zE<|zF ?_
    obtain ⟨y,hy,hM⟩:=zC hM
    obtain ⟨y1,hy1,hM⟩:=zC hM
    refine uD [.p (vP b 0) [],.p (vI e0.Kind) [1],.p (vP b 1) [],.p (vI e0.Num) [1],.p (vP b 2) [],.p (vA (cAff e0.Index p c)) [1],.x (fun imm' v hx=>∃ p3 c3,v=vA (cAff y p3 c3)∧hx=[]∧(S4 imm' p3 y.Coefs c3)),.p (vP b 4) [],.p (vA (cAccess e0.Read p1 c1)) [1],.x (fun imm' v hx=>∃ p4 c4 cs1,v=vA (cAccess y1 p4 c4)∧hx=[hO zA (vS p4 y1.Subs c4) cs1]∧(RL imm' cs1 y1.Subs)),.x (fun imm' v hx=>∃ p31 c31 p41 c41 cs11,v=vA [vI e0.Kind,vI e0.Num,vS p31 y.Coefs c31,vI y.Const,vT y1.Array.l,vS p41 y1.Subs c41,.slice none 0 0]∧hx=[hO zA (vS p41 y1.Subs c41) cs11]∧(S4 imm' p31 y.Coefs c31)∧(RL imm' cs11 y1.Subs)),.x (fun imm' v hx=>∃ b2,v=vP b2 0∧hx=[hB b2 zExpr])] [[],[(0,false)],[],[(2,false)],[],[(4,false)],[(5,false)],[],[(7,false)],[(8,false)],[(1,false),(3,false),(6,false),(9,true)],[]] [hB b1 zExpr,hB b (cExpr e0 p c p1 c1 p2 c2)] [] [(10,true),(11,true)] (zK [0,1] rfl (by decide)) ?_ ?_
    · refine Op<|Op<|Op<|Op<|Op<|Op<|Ox ?_<|Op<|Op<|Ox ?_<|Ox ?_<|Ox ?_<|On
      · intro imm1 hf le1
        refine zG ?_
        rintro _ _ ⟨rfl,rfl⟩
        refine zN<|yG [(10,vA (cAff e0.Index p c))] ?_
        have hle:=Imm.le.refl imm1
        have h:=h.mono le1
        have h1:=h1.mono le1
        have h2:=h2.mono le1
        refine yQ (kL e0.Index _ hy h) ?_
        rintro imm0 hs2 v2 k2 le - ⟨v0,rfl,rfl,⟨cs,rfl,h3⟩⟩ -
        have h:=h.mono le
        have h1:=h1.mono le
        have h2:=h2.mono le
        have hle:=hle.trans le
        obtain ⟨v01,rfl,h4⟩:=yM h3
        obtain ⟨p3,c3,rfl⟩:=h4.form
        exact zZ (hx:=[]) rfl hle rfl (zM rfl) ⟨_,_,rfl,rfl,h4⟩
      · intro imm1 hf le1
        refine zG ?_
        rintro _ _ ⟨rfl,rfl⟩
        refine zN<|yG [(13,vA (cAccess e0.Read p1 c1))] ?_
        have hle:=Imm.le.refl imm1
        have h:=h.mono le1
        have h1:=h1.mono le1
        have h2:=h2.mono le1
        refine yQ (nI e0.Read _ hy1 h1) ?_
        rintro imm01 hs2 v2 k2 le1 - ⟨p4,c4,cs1,rfl,rfl,h5⟩ -
        have h1:=h1.mono le1
        have h:=h.mono le1
        have h2:=h2.mono le1
        have hle:=hle.trans le1
        exact zZ (hx:=[hO zA (vS p4 y1.Subs c4) cs1]) rfl hle rfl (zM rfl) ⟨_,_,_,rfl,rfl,h5⟩
      · intro imm1 hf le1
        refine zG ?_
        rintro _ _ ⟨rfl,rfl⟩
        refine zG ?_
        rintro _ _ ⟨rfl,rfl⟩
        refine zG ?_
        rintro _ _ ⟨p3,c3,rfl,rfl,h4⟩
        refine zG ?_
        rintro _ _ ⟨p4,c4,cs1,rfl,rfl,h5⟩
        refine zN<|yG [(6,vI e0.Kind),(8,vI e0.Num),(11,vA (cAff y p3 c3)),(14,vA (cAccess y1 p4 c4))] ?_
        have hle:=Imm.le.refl imm1
        exact qX 11 [(15,vA [vI e0.Kind,vI e0.Num,vS p3 y.Coefs c3,vI y.Const,vT y1.Array.l,vS p4 y1.Subs c4,.slice none 0 0])]<|zZ (hx:=[hO zA (vS p4 y1.Subs c4) cs1]) rfl hle rfl (zM rfl) ⟨_,_,_,_,_,rfl,rfl,h4,h5⟩
      intro imm1 hf le1
      refine zN<|yG [] ?_
      have hle:=Imm.le.refl imm1
      refine vV zExpr ?_
      intro b2 hb2
      exact zZ (hx:=[hB b2 zExpr]) rfl hle rfl (zM rfl) ⟨_,rfl,rfl⟩
    intro imm02 le2
    refine zG ?_
    rintro _ _ ⟨p31,c31,p41,c41,cs11,rfl,rfl,h41,h51⟩
    refine zG ?_
    rintro _ _ ⟨b2,rfl,rfl⟩
    refine zN<|yG [(1,vP b 0),(2,vP b1 0),(3,vP b2 0),(15,vA [vI e0.Kind,vI e0.Num,vS p31 y.Coefs c31,vI y.Const,vT y1.Array.l,vS p41 y1.Subs c41,.slice none 0 0])] ?_
    have h:=h.mono le2
    have h1:=h1.mono le2
    have h2:=h2.mono le2
    have hle:=hle.trans le2
    refine xI 0 [vI e0.Kind,vI e0.Num,vS p31 y.Coefs c31,vI y.Const,vT y1.Array.l,vS p41 y1.Subs c41,.slice none 0 0] [hB b2 [vI e0.Kind,vI e0.Num,vS p31 y.Coefs c31,vI y.Const,vT y1.Array.l,vS p41 y1.Subs c41,.slice none 0 0],hO zA (vS p41 y1.Subs c41) cs11,hB b1 zExpr,hB b (cExpr e0 p c p1 c1 p2 c2)] rfl rfl rfl rfl<|yN rfl<|zE<|zF<|zF<|zB<|zY [] [(4,vI 0)]<|zE<|yB<|vX [(1,vP b 0),(2,vP b1 0),(3,vP b2 0),(4,vI 0)]<|qU (tF (Rp.sz zI)) ?_
    have h6:RL imm02 [] ([]:List zI):=RepL.nil
    obtain ⟨o0,ho0,hMl⟩:=zC hM
    refine ih_spec_l3CopyExpr_l1 e0 0 ([]:List zI) o0 ho0 (Imm.le.refl _) h41 h51 h h1 h2 h6 (fun _ _ _ h=>h) (fun _ _ h=>h) ?_
    intro imm07 Kids1 p6 c6 cs3 heq le7 h8
    subst o0
    have h41:=h41.mono le7
    have h51:=RepL.mono (fun _ _=>Rp.mono le7) h51
    have hle:=hle.trans le7
    refine yC<|zE<|zF<|zB<|yK 1 [1] [(34,vA [vI e0.Kind,vI e0.Num,vS p31 y.Coefs c31,vI y.Const,vT y1.Array.l,vS p41 y1.Subs c41,vS p6 Kids1 c6])]<|xI 3 [vI e0.Kind,vI e0.Num,vS p31 y.Coefs c31,vI y.Const,vT y1.Array.l,vS p41 y1.Subs c41,vS p6 Kids1 c6] [hO zI (vS p6 Kids1 c6) cs3,hB b2 [vI e0.Kind,vI e0.Num,vS p31 y.Coefs c31,vI y.Const,vT y1.Array.l,vS p41 y1.Subs c41,vS p6 Kids1 c6],hO zA (vS p41 y1.Subs c41) cs11,hB b1 [vI e0.Kind,vI e0.Num,vS p31 y.Coefs c31,vI y.Const,vT y1.Array.l,vS p41 y1.Subs c41,vS p6 Kids1 c6]] rfl rfl rfl rfl<|yN rfl<|zE<|yI<|xL 2 rfl ?_
    intro imm08 le8 hl02
    have h19:=SL.of_frozen hl02 le8 h51
    have h8:=RepL.mono (fun _ _=>Rp.mono le8) h8
    have h41:=h41.mono le8
    have hle:=hle.trans le8
    obtain rfl:=zD hMl
    exact yP ⟨_,_,(.cell 2 rfl rfl (by kernel_rfl) ResV.nil),(zK [0] rfl (by decide)),⟨_,_,_,_,_,_,_,rfl,rfl,h41,h19,h8⟩⟩
  intro F_spec_l3CopyExpr F_spec_l3CopyExpr_l1 ih_spec_l3CopyExpr ih_spec_l3CopyExpr_l1 e0 i Kids o hM B imm0 imm Q y y1 p c p1 c1 p2 c2 b b1 p31 c31 p41 c41 cs11 b2 p5 c5 cs2 hle h41 h51 h h1 h2 h7 hg ho hx
  refine xE hg ho<|zF<|zF<|zB<|zY [4] [(20,.bool (decide (i < (e0.Kids.length:Int))))]<|zE<|yO hM ?_ ?_
  · intro hc hM
    refine yD<|zE<|zF<|yB ?_
    obtain ⟨x,hy2,hM⟩:=zC hM
    obtain ⟨y2,hy3,hM⟩:=zC hM
    obtain ⟨l,hy4,hM⟩:=zC hM
    refine uD [.p (vP b2 6) [],.p (vS p5 Kids c5) [0],.p (vP b 6) [],.p (vS p2 e0.Kids c2) [3],.p (vI i) [],.x (fun imm' v hx=>∃ ad p7 c7 p8 c8 p9 c9,v=.pointer (some ad)∧hx=[]∧(At imm' ad (cExpr x p7 c7 p8 c8 p9 c9))∧(S4 imm' p7 x.Index.Coefs c7)∧(S4 imm' p8 x.Read.Subs c8)∧(S4 imm' p9 x.Kids c9)),.x (fun imm' v hx=>∃ p71 c71 p81 c81 p91 c91,v=vA (cExpr x p71 c71 p81 c81 p91 c91)∧hx=[]∧(S4 imm' p71 x.Index.Coefs c71)∧(S4 imm' p81 x.Read.Subs c81)∧(S4 imm' p91 x.Kids c91)),.x (fun imm' v hx=>∃ p10 c10 p11 c11 p12 c12 cs4,v=vA (cExpr y2 p10 c10 p11 c11 p12 c12)∧hx=[hO zI (vS p12 y2.Kids c12) cs4]∧(S4 imm' p10 y2.Index.Coefs c10)∧(S4 imm' p11 y2.Read.Subs c11)∧(RL imm' cs4 y2.Kids)),.x (fun imm' v hx=>∃ b3,v=vS (some ⟨b3,0,none⟩) ([y2]:List zI) 1∧hx=[]∧(SL imm' (vS (some ⟨b3,0,none⟩) ([y2]:List zI) 1) ([y2]:List zI))),.x (fun imm' v hx=>∃ p13 c13 cs5,v=vS p13 l c13∧hx=[hO zI (vS p13 l c13) cs5]∧(RL imm' cs5 l))] [[],[(0,false)],[],[(2,false)],[],[(3,false),(4,false)],[(5,false)],[(6,false)],[(7,true)],[(1,false),(8,false),(12,true)]] [hB b2 [vI e0.Kind,vI e0.Num,vS p31 y.Coefs c31,vI y.Const,vT y1.Array.l,vS p41 y1.Subs c41,vS p5 Kids c5],hO zA (vS p41 y1.Subs c41) cs11,hB b1 zExpr,hB b (cExpr e0 p c p1 c1 p2 c2)] [[hO zI (vS p5 Kids c5) cs2]] [(9,true)] (zK [1,2,3,4,0] rfl (by decide)) ?_ ?_
    · refine Op<|Op<|Op<|Op<|Op<|Ox ?_<|Ox ?_<|Ox ?_<|Ox ?_<|Ox ?_<|On
      · intro imm1 hf le1
        refine zG ?_
        rintro _ _ ⟨rfl,rfl⟩
        refine zG ?_
        rintro _ _ ⟨rfl,rfl⟩
        refine zN<|yG [(26,vS p2 e0.Kids c2),(27,vI i)] ?_
        have hle:=Imm.le.refl imm1
        have h2:=h2.mono le1
        refine wJ rfl rfl h2 hy2 ?_
        intro ad ccs hat hrep
        obtain ⟨v02,v03,v04,rfl,h9,h10,h11⟩:=wF hrep
        obtain ⟨p7,c7,rfl⟩:=h9.form
        obtain ⟨p8,c8,rfl⟩:=h10.form
        obtain ⟨p9,c9,rfl⟩:=h11.form
        exact zZ (hx:=[]) rfl hle rfl (zM rfl) ⟨_,_,_,_,_,_,_,rfl,rfl,hat,h9,h10,h11⟩
      · intro imm1 hf le1
        refine zG ?_
        rintro _ _ ⟨ad,p7,c7,p8,c8,p9,c9,rfl,rfl,hat,h9,h10,h11⟩
        refine zN<|yG [(28,.pointer (some ad))] ?_
        have hle:=Imm.le.refl imm1
        exact xW 0 hat (cExpr x p7 c7 p8 c8 p9 c9) (vA (cExpr x p7 c7 p8 c8 p9 c9)) rfl<|zZ (hx:=[]) rfl hle rfl (zM rfl) ⟨_,_,_,_,_,_,rfl,rfl,h9,h10,h11⟩
      · intro imm1 hf le1
        refine zG ?_
        rintro _ _ ⟨p71,c71,p81,c81,p91,c91,rfl,rfl,h91,h101,h111⟩
        refine zN<|yG [(29,vA (cExpr x p71 c71 p81 c81 p91 c91))] ?_
        have hle:=Imm.le.refl imm1
        have h7:=RepL.mono (fun _ _=>Rp.mono le1) h7
        have h41:=h41.mono le1
        have h51:=RepL.mono (fun _ _=>Rp.mono le1) h51
        have h:=h.mono le1
        have h1:=h1.mono le1
        have h2:=h2.mono le1
        refine yQ (ih_spec_l3CopyExpr x _ hy3 h91 h101 h111) ?_
        rintro imm03 hs2 v2 k2 le3 - ⟨p10,c10,p11,c11,p12,c12,cs4,rfl,rfl,h12,h13,h14⟩ -
        have h91:=h91.mono le3
        have h101:=h101.mono le3
        have h111:=h111.mono le3
        have h41:=h41.mono le3
        have h51:=RepL.mono (fun _ _=>Rp.mono le3) h51
        have h7:=RepL.mono (fun _ _=>Rp.mono le3) h7
        have h:=h.mono le3
        have h1:=h1.mono le3
        have h2:=h2.mono le3
        have hle:=hle.trans le3
        exact zZ (hx:=[hO zI (vS p12 y2.Kids c12) cs4]) rfl hle rfl (zM rfl) ⟨_,_,_,_,_,_,_,rfl,rfl,h12,h13,h14⟩
      · intro imm1 hf le1
        refine zG ?_
        rintro _ _ ⟨p10,c10,p11,c11,p12,c12,cs4,rfl,rfl,h12,h13,h14⟩
        refine zN<|yG [(30,vA (cExpr y2 p10 c10 p11 c11 p12 c12))] ?_
        have hle:=Imm.le.refl imm1
        have h7:=RepL.mono (fun _ _=>Rp.mono le1) h7
        have h41:=h41.mono le1
        have h51:=RepL.mono (fun _ _=>Rp.mono le1) h51
        have h:=h.mono le1
        have h1:=h1.mono le1
        have h2:=h2.mono le1
        refine yL 0 rfl ?_
        intro imm04 le4 hl0
        have h15:=SL.of_frozen hl0 le4 h14
        have h12:=h12.mono le4
        have h13:=h13.mono le4
        have h41:=h41.mono le4
        have h51:=RepL.mono (fun _ _=>Rp.mono le4) h51
        have h7:=RepL.mono (fun _ _=>Rp.mono le4) h7
        have h:=h.mono le4
        have h1:=h1.mono le4
        have h2:=h2.mono le4
        have hle:=hle.trans le4
        refine xV (cExpr y2 p10 c10 p11 c11 p12 c12) zI ?_
        intro b3 hb3
        have h16:RL imm04 (cExpr y2 p10 c10 p11 c11 p12 c12) ([y2]:List zI):=⟨(cExpr y2 p10 c10 p11 c11 p12 c12),_,rfl,rfl,(xM ⟨_,_,_,rfl,h12,h13,h15⟩),rfl⟩
        refine yL 0 rfl ?_
        intro imm05 le5 hl01
        have h17:=SL.of_frozen hl01 le5 h16
        have h12:=h12.mono le5
        have h13:=h13.mono le5
        have h15:=h15.mono le5
        have h41:=h41.mono le5
        have h51:=RepL.mono (fun _ _=>Rp.mono le5) h51
        have h7:=RepL.mono (fun _ _=>Rp.mono le5) h7
        have h:=h.mono le5
        have h1:=h1.mono le5
        have h2:=h2.mono le5
        have hle:=hle.trans le5
        exact zZ (hx:=[]) rfl hle rfl (zM rfl) ⟨_,rfl,rfl,h17⟩
      intro imm1 hf le1
      refine zG ?_
      rintro _ _ ⟨rfl,rfl⟩
      refine zG ?_
      rintro _ _ ⟨b3,rfl,rfl,h17⟩
      refine zG ?_
      rintro _ _ rfl
      refine zN<|yG [(24,vS p5 Kids c5),(31,vS (some ⟨b3,0,none⟩) ([y2]:List zI) 1)] ?_
      have hle:=Imm.le.refl imm1
      have h7:=RepL.mono (fun _ _=>Rp.mono le1) h7
      obtain ⟨ccs1,k0,k01⟩:=h17
      have h17:SL imm1 (vS (some ⟨b3,0,none⟩) ([y2]:List zI) 1) ([y2]:List zI):=⟨_,k0,k01⟩
      refine pC 69 7 0 rfl rfl rfl h7 (.inl k0) k01 hy4 ?_
      intro p13 c13 cs5 h18
      exact vW (hs':=(hO zI (vS p13 l c13) cs5::hB b2 [vI e0.Kind,vI e0.Num,vS p31 y.Coefs c31,vI y.Const,vT y1.Array.l,vS p41 y1.Subs c41,vS p5 Kids c5]::hO zA (vS p41 y1.Subs c41) cs11::hB b1 zExpr::hB b (cExpr e0 p c p1 c1 p2 c2)::hf)) rfl<|zZ (hx:=[hO zI (vS p13 l c13) cs5]) rfl hle rfl (zM rfl) ⟨_,_,_,rfl,rfl,h18⟩
    intro imm06 le6
    refine zG ?_
    rintro _ _ ⟨p13,c13,cs5,rfl,rfl,h18⟩
    refine zN<|yG [(1,vP b 0),(2,vP b1 0),(3,vP b2 0),(4,vI i),(32,vS p13 l c13)] ?_
    have h41:=h41.mono le6
    have h51:=RepL.mono (fun _ _=>Rp.mono le6) h51
    have h7:=RepL.mono (fun _ _=>Rp.mono le6) h7
    have h:=h.mono le6
    have h1:=h1.mono le6
    have h2:=h2.mono le6
    have hle:=hle.trans le6
    exact yK 11 [] [(33,vP b2 6)]<|xI 1 [vI e0.Kind,vI e0.Num,vS p31 y.Coefs c31,vI y.Const,vT y1.Array.l,vS p41 y1.Subs c41,vS p13 l c13] [hO zI (vS p13 l c13) cs5,hB b2 [vI e0.Kind,vI e0.Num,vS p31 y.Coefs c31,vI y.Const,vT y1.Array.l,vS p41 y1.Subs c41,vS p13 l c13],hO zA (vS p41 y1.Subs c41) cs11,hB b1 zExpr,hB b (cExpr e0 p c p1 c1 p2 c2)] rfl rfl rfl rfl<|yN rfl<|zX<|zE<|zB<|zY [] [(4,vI (W (i + 1)))]<|xF<|vX [(1,vP b 0),(2,vP b1 0),(3,vP b2 0),(4,vI (W (i + 1)))]<|ih_spec_l3CopyExpr_l1 e0 (W (i + 1)) l _ hM hle h41 h51 h h1 h2 h18 hg ho hx
  intro hc hM
  exact xA<|zT<|zT<|xZ (zK [0,1,2,3] rfl (by decide))<|yU [(2,vP b1 0),(3,vP b2 0)]<|hx _ _ _ _ _ (zD hM).symm hle h7
theorem zAo:∀ (e0:zI) r,sJ e0=some r→∀ {imm:Imm}{p c p1 c1 p2 c2},(S4 imm p e0.Index.Coefs c)→(S4 imm p1 e0.Read.Subs c1)→(S4 imm p2 e0.Kids c2)→Ret Tryz.prog 178 [vA (cExpr e0 p c p1 c1 p2 c2)] imm [] (nJ  r):=zAX.1
def zCM (r:zR):Nat→Imm→List HA→Value→Prop:=fun kk imm' hs' v =>
  ∃ a0_1 c0_1 s0_1 a0_4 c0_4 a0_7 c0_7 a0_8 c0_8 s0_8,hs'=[.osl (.slice a0_1 r.Write.Subs.length c0_1) (Rp.sz zA) s0_1,.osl (.slice a0_8 r.Value.Kids.length c0_8) (Rp.sz zI) s0_8]∧v=tupV [(.agg ⟨[.string ⟨⟨r.Write.Array.l⟩⟩,.slice a0_1 r.Write.Subs.length c0_1,.int .i64 r.Value.Kind,.int .i64 r.Value.Num,.slice a0_4 r.Value.Index.Coefs.length c0_4,.int .i64 r.Value.Index.Const,.string ⟨⟨r.Value.Read.Array.l⟩⟩,.slice a0_7 r.Value.Read.Subs.length c0_7,.slice a0_8 r.Value.Kids.length c0_8]⟩)]∧RepL (Rp.rep imm') (Rp.sz zA) s0_1 r.Write.Subs∧SL imm' (.slice a0_4 r.Value.Index.Coefs.length c0_4) r.Value.Index.Coefs∧SL imm' (.slice a0_7 r.Value.Read.Subs.length c0_7) r.Value.Read.Subs∧RepL (Rp.rep imm') (Rp.sz zI) s0_8 r.Value.Kids
def nA (s:zR):Option (zR):=do
 let y←wV s.Write
 let y1←sJ s.Value
 pure (zR.mk y y1)
theorem dN:∀ (s:zR) r,nA s=some r→∀ {imm:Imm}{p c p1 c1 p2 c2 p3 c3},(S4 imm p s.Write.Subs c)→(S4 imm p1 s.Value.Index.Coefs c1)→(S4 imm p2 s.Value.Read.Subs c2)→(S4 imm p3 s.Value.Kids c3)→Ret Tryz.prog 145 [vA (cStmt s p c p1 c1 p2 c2 p3 c3)] imm [] (zCM  r):=by
 intro s r hM imm p c p1 c1 p2 c2 p3 c3 h h1 h2 h3
 unfold nA at hM
 refine yF (fn:=Tryz.f145) (c:=(bodyOf Tryz.f145)) Tryz.func145 rfl rfl ?_
 rintro B - -
 have hle:imm.le imm:=Imm.le.refl _
 refine zF<|zB<|tS (cStmt s p c p1 c1 p2 c2 p3 c3) ?_
 intro b hb
 refine vV [vT ([]),.slice none 0 0,vI 0,vI 0,.slice none 0 0,vI 0,vT ([]),.slice none 0 0,.slice none 0 0] ?_
 intro b1 hb1
 refine yN rfl<|zE<|zF ?_
 obtain ⟨y,hy,hM⟩:=zC hM
 obtain ⟨y1,hy1,hM⟩:=zC hM
 refine uD [.p (vP b 0) [],.p (vA (cAccess s.Write p c)) [1],.x (fun imm' v hx=>∃ p4 c4 cs,v=vA (cAccess y p4 c4)∧hx=[hO zA (vS p4 y.Subs c4) cs]∧(RL imm' cs y.Subs)),.p (vP b 2) [],.p (vA (cExpr s.Value p1 c1 p2 c2 p3 c3)) [1],.x (fun imm' v hx=>∃ p5 c5 p6 c6 p7 c7 cs1,v=vA (cExpr y1 p5 c5 p6 c6 p7 c7)∧hx=[hO zI (vS p7 y1.Kids c7) cs1]∧(S4 imm' p5 y1.Index.Coefs c5)∧(S4 imm' p6 y1.Read.Subs c6)∧(RL imm' cs1 y1.Kids)),.x (fun imm' v hx=>∃ p41 c41 p51 c51 p61 c61 p71 c71 cs11 cs2,v=vA [vT y.Array.l,vS p41 y.Subs c41,vI y1.Kind,vI y1.Num,vS p51 y1.Index.Coefs c51,vI y1.Index.Const,vT y1.Read.Array.l,vS p61 y1.Read.Subs c61,vS p71 y1.Kids c71]∧hx=[hO zI (vS p71 y1.Kids c71) cs11,hO zA (vS p41 y.Subs c41) cs2]∧(RL imm' cs2 y.Subs)∧(S4 imm' p51 y1.Index.Coefs c51)∧(S4 imm' p61 y1.Read.Subs c61)∧(RL imm' cs11 y1.Kids))] [[],[(0,false)],[(1,false)],[],[(3,false)],[(4,false)],[(2,true),(5,true)]] [hB b1 [vT ([]),.slice none 0 0,vI 0,vI 0,.slice none 0 0,vI 0,vT ([]),.slice none 0 0,.slice none 0 0],hB b (cStmt s p c p1 c1 p2 c2 p3 c3)] [] [(6,true)] (zK [0,1] rfl (by decide)) ?_ ?_
 · refine Op<|Op<|Ox ?_<|Op<|Op<|Ox ?_<|Ox ?_<|On
   · intro imm1 hf le1
     refine zG ?_
     rintro _ _ ⟨rfl,rfl⟩
     refine zN<|yG [(4,vA (cAccess s.Write p c))] ?_
     have hle:=Imm.le.refl imm1
     have h:=h.mono le1
     have h1:=h1.mono le1
     have h2:=h2.mono le1
     have h3:=h3.mono le1
     refine yQ (nI s.Write _ hy h) ?_
     rintro imm0 hs2 v2 k2 le - ⟨p4,c4,cs,rfl,rfl,h4⟩ -
     have h:=h.mono le
     have h1:=h1.mono le
     have h2:=h2.mono le
     have h3:=h3.mono le
     have hle:=hle.trans le
     exact zZ (hx:=[hO zA (vS p4 y.Subs c4) cs]) rfl hle rfl (zM rfl) ⟨_,_,_,rfl,rfl,h4⟩
   · intro imm1 hf le1
     refine zG ?_
     rintro _ _ ⟨rfl,rfl⟩
     refine zN<|yG [(7,vA (cExpr s.Value p1 c1 p2 c2 p3 c3))] ?_
     have hle:=Imm.le.refl imm1
     have h:=h.mono le1
     have h1:=h1.mono le1
     have h2:=h2.mono le1
     have h3:=h3.mono le1
     refine yQ (zAo s.Value _ hy1 h1 h2 h3) ?_
     rintro imm01 hs2 v2 k2 le1 - ⟨p5,c5,p6,c6,p7,c7,cs1,rfl,rfl,h5,h6,h7⟩ -
     have h1:=h1.mono le1
     have h2:=h2.mono le1
     have h3:=h3.mono le1
     have h:=h.mono le1
     have hle:=hle.trans le1
     exact zZ (hx:=[hO zI (vS p7 y1.Kids c7) cs1]) rfl hle rfl (zM rfl) ⟨_,_,_,_,_,_,_,rfl,rfl,h5,h6,h7⟩
   intro imm1 hf le1
   refine zG ?_
   rintro _ _ ⟨p4,c4,cs,rfl,rfl,h4⟩
   refine zG ?_
   rintro _ _ ⟨p5,c5,p6,c6,p7,c7,cs1,rfl,rfl,h5,h6,h7⟩
   refine zN<|yG [(5,vA (cAccess y p4 c4)),(8,vA (cExpr y1 p5 c5 p6 c6 p7 c7))] ?_
   have hle:=Imm.le.refl imm1
   exact qX 7 [(9,vA [vT y.Array.l,vS p4 y.Subs c4,vI y1.Kind,vI y1.Num,vS p5 y1.Index.Coefs c5,vI y1.Index.Const,vT y1.Read.Array.l,vS p6 y1.Read.Subs c6,vS p7 y1.Kids c7])]<|zZ (hx:=[hO zI (vS p7 y1.Kids c7) cs1,hO zA (vS p4 y.Subs c4) cs]) rfl hle rfl (zM rfl) ⟨_,_,_,_,_,_,_,_,_,_,rfl,rfl,h4,h5,h6,h7⟩
 intro imm02 le2
 refine zG ?_
 rintro _ _ ⟨p41,c41,p51,c51,p61,c61,p71,c71,cs11,cs2,rfl,rfl,h41,h51,h61,h71⟩
 refine zN<|yG [(2,vP b1 0),(9,vA [vT y.Array.l,vS p41 y.Subs c41,vI y1.Kind,vI y1.Num,vS p51 y1.Index.Coefs c51,vI y1.Index.Const,vT y1.Read.Array.l,vS p61 y1.Read.Subs c61,vS p71 y1.Kids c71])] ?_
 have h:=h.mono le2
 have h1:=h1.mono le2
 have h2:=h2.mono le2
 have h3:=h3.mono le2
 have hle:=hle.trans le2
 refine xI 2 [vT y.Array.l,vS p41 y.Subs c41,vI y1.Kind,vI y1.Num,vS p51 y1.Index.Coefs c51,vI y1.Index.Const,vT y1.Read.Array.l,vS p61 y1.Read.Subs c61,vS p71 y1.Kids c71] [hO zI (vS p71 y1.Kids c71) cs11,hO zA (vS p41 y.Subs c41) cs2,hB b1 [vT y.Array.l,vS p41 y.Subs c41,vI y1.Kind,vI y1.Num,vS p51 y1.Index.Coefs c51,vI y1.Index.Const,vT y1.Read.Array.l,vS p61 y1.Read.Subs c61,vS p71 y1.Kids c71],hB b (cStmt s p c p1 c1 p2 c2 p3 c3)] rfl rfl rfl rfl<|yN rfl<|zE<|yI ?_
 obtain rfl:=zD hM
 exact yP ⟨_,_,(.cell 2 rfl rfl (by kernel_rfl) ResV.nil),(zK [1,0] rfl (by decide)),⟨_,_,_,_,_,_,_,_,_,_,rfl,rfl,h41,h51,h61,h71⟩⟩
def zAp (b0:Nat) (r:zR×zO):Nat→Imm→List HA→Value→Prop:=fun kk imm' hs' v =>
  ∃ v0 k0,hs'=[.blk b0 ⟨k0⟩]∧v=tupV [v0]∧(∃ cs,v0=.agg ⟨cs⟩∧Rp.rep imm' cs r.1)∧Rp.rep imm' k0 r.2
def uU (r0:zO) (s:zR):Option (zR×zO):=do
 let y←nA s
 let (y2,y3)←yW r0 40
 let (WriteArray,WriteSubs,ValueKind,ValueNum,ValueKids,x)←(do
   if (y2 == 0) then
    let (y5,y6)←qF y3 ([(⟨[69]⟩:Str),(⟨[]⟩:Str),(⟨[65,66]⟩:Str),(⟨[97]⟩:Str)]:List Str)
    pure (y5,y.Write.Subs,y.Value.Kind,y.Value.Num,y.Value.Kids,y6)
   else
    let (WriteSubs1,ValueKind1,ValueNum1,ValueKids1,x1)←(do
      if (y2 == 1) then
       let y7←qP 3
       let y8←rU
       let l←app 32 y.Write.Subs ([y7,y8]:List zA)
       pure (l,y.Value.Kind,y.Value.Num,y.Value.Kids,y3)
      else
       let (ValueKind2,ValueNum2,ValueKids2,x2)←(do
         if (y2 == 2) then
          let (y10,y11)←yV y3 ([0,7,1,4,2]:List Int)
          pure (y10,y.Value.Num,y.Value.Kids,y11)
         else
          let (ValueNum3,ValueKids3,x3)←(do
            if (y2 == 3) then
             let (y13,y14)←yV y3 ([100,(-1),1]:List Int)
             pure (y13,y.Value.Kids,y14)
            else
             let ValueKids4←(do
               if (y2 == 4) then
                let l1←app 112 y.Value.Kids ([(zI.mk 1 0 (zA.mk ([]:List Int) 0) (zL.mk (⟨[]⟩:Str) ([]:List zA)) ([]:List zI))]:List zI)
                pure (id l1)
               else
                pure y.Value.Kids
                 : Option (List zI))
             pure (y.Value.Num,ValueKids4,y3)
              : Option (Int×List zI×zO))
          pure (y.Value.Kind,ValueNum3,ValueKids3,x3)
           : Option (Int×Int×List zI×zO))
       pure (y.Write.Subs,ValueKind2,ValueNum2,ValueKids2,x2)
        : Option (List zA×Int×Int×List zI×zO))
    pure (y.Write.Array,WriteSubs1,ValueKind1,ValueNum1,ValueKids1,x1)
     : Option (Str×List zA×Int×Int×List zI×zO))
 pure ((zR.mk (zL.mk WriteArray WriteSubs) (zI.mk ValueKind ValueNum y.Value.Index y.Value.Read ValueKids)),x)
theorem mY:∀ (r0:zO) (s:zR) r,uU r0 s=some r→∀ {imm:Imm}{r01:Nat}{p c p1 c1 p2 c2 p3 c3 p4 c4},(S4 imm p r0.b c)→(S4 imm p1 s.Write.Subs c1)→(S4 imm p2 s.Value.Index.Coefs c2)→(S4 imm p3 s.Value.Read.Subs c3)→(S4 imm p4 s.Value.Kids c4)→Ret Tryz.prog 95 [vP r01 0,vA (cStmt s p1 c1 p2 c2 p3 c3 p4 c4)] imm [hB r01 (cRd r0 p c)] (zAp r01 r):=by
 intro r0 s r hM imm r01 p c p1 c1 p2 c2 p3 c3 p4 c4 h h1 h2 h3 h4
 unfold uU at hM
 refine yF (fn:=Tryz.f95) (c:=(bodyOf Tryz.f95)) Tryz.func95 rfl rfl ?_
 rintro B - -
 have hle:imm.le imm:=Imm.le.refl _
 refine zF<|zB<|tS (cStmt s p1 c1 p2 c2 p3 c3 p4 c4) ?_
 intro b hb
 refine vV [vT ([]),.slice none 0 0,vI 0,vI 0,.slice none 0 0,vI 0,vT ([]),.slice none 0 0,.slice none 0 0] ?_
 intro b1 hb1
 refine yN rfl<|zE<|zF<|zB<|yK 1 [1] [(6,vA (cStmt s p1 c1 p2 c2 p3 c3 p4 c4))] ?_
 obtain ⟨y,hy,hM⟩:=zC hM
 refine yQ (dN s _ hy h1 h2 h3 h4) ?_
 rintro imm0 hs2 v2 k2 le - ⟨p5,c5,cs,p6,c6,p7,c7,p8,c8,cs1,rfl,rfl,h5,h6,h7,h8⟩ -
 have h1:=h1.mono le
 have h2:=h2.mono le
 have h3:=h3.mono le
 have h4:=h4.mono le
 have h:=h.mono le
 have hle:=hle.trans le
 refine vV [vT ([]),.slice none 0 0,vI 0,vI 0,.slice none 0 0,vI 0,vT ([]),.slice none 0 0,.slice none 0 0] ?_
 intro b2 hb2
 refine xI 0 (cStmt y p5 c5 p6 c6 p7 c7 p8 c8) [hB b2 (cStmt y p5 c5 p6 c6 p7 c7 p8 c8),hO zA (vS p5 y.Write.Subs c5) cs,hO zI (vS p8 y.Value.Kids c8) cs1,hB b1 [vT ([]),.slice none 0 0,vI 0,vI 0,.slice none 0 0,vI 0,vT ([]),.slice none 0 0,.slice none 0 0],hB b (cStmt s p1 c1 p2 c2 p3 c3 p4 c4),hB r01 (cRd r0 p c)] rfl rfl rfl rfl<|yN rfl<|zE<|zF<|zF<|zB<|yK 1 [] [(8,vP r01 0)]<|qO (zK [5,0,1,2,3,4] (hs':=[hB r01 (cRd r0 p c),hB b2 (cStmt y p5 c5 p6 c6 p7 c7 p8 c8),hO zA (vS p5 y.Write.Subs c5) cs,hO zI (vS p8 y.Value.Kids c8) cs1,hB b1 [vT ([]),.slice none 0 0,vI 0,vI 0,.slice none 0 0,vI 0,vT ([]),.slice none 0 0,.slice none 0 0],hB b (cStmt s p1 c1 p2 c2 p3 c3 p4 c4)]) rfl (by decide)) ?_
 obtain ⟨⟨y2,y3⟩,hy1,hM⟩:=zC hM
 refine tV [hB r01 (cRd r0 p c)] [hB b2 (cStmt y p5 c5 p6 c6 p7 c7 p8 c8),hO zA (vS p5 y.Write.Subs c5) cs,hO zI (vS p8 y.Value.Kids c8) cs1,hB b1 [vT ([]),.slice none 0 0,vI 0,vI 0,.slice none 0 0,vI 0,vT ([]),.slice none 0 0,.slice none 0 0],hB b (cStmt s p1 c1 p2 c2 p3 c3 p4 c4)] (xK r0 40 _ hy1 h) ?_
 rintro imm01 hs2 v2 k2 le1 - ⟨v0,kk,rfl,rfl,rfl,h10⟩ -
 have h5:=RepL.mono (fun _ _=>Rp.mono le1) h5
 have h6:=h6.mono le1
 have h7:=h7.mono le1
 have h8:=RepL.mono (fun _ _=>Rp.mono le1) h8
 have h1:=h1.mono le1
 have h2:=h2.mono le1
 have h3:=h3.mono le1
 have h4:=h4.mono le1
 have hle:=hle.trans le1
 obtain ⟨v01,rfl,h11⟩:=yH h10
 obtain ⟨p9,c9,rfl⟩:=h11.form
 refine yN rfl<|zE<|yB<|zF<|zB<|zY [] [(10,.bool (y2 == 0))]<|zE<|qZ 5 rfl ?_
 intro imm02 le2 hl0
 have hat:At imm02 ⟨b,0,none⟩ (cStmt s p1 c1 p2 c2 p3 c3 p4 c4):=At.of_blk hl0
 have h11:=h11.mono le2
 have h5:=RepL.mono (fun _ _=>Rp.mono le2) h5
 have h6:=h6.mono le2
 have h7:=h7.mono le2
 have h8:=RepL.mono (fun _ _=>Rp.mono le2) h8
 have hle:=hle.trans le2
 obtain ⟨o0,ho0,hMc⟩:=zC hM
 refine yT (fun imm' hs' m'=>∃ (WriteArray:Str) (WriteSubs:List zA) (ValueKind:Int) (ValueNum:Int) (ValueKids:List zI) (x:zO) (p10:Option Addr) (c10:Nat) (cs2:List Value) (p11:Option Addr) (c11:Nat) (cs3:List Value) (p12:Option Addr) (c12:Nat),o0=(WriteArray,WriteSubs,ValueKind,ValueNum,ValueKids,x)∧imm02.le imm'∧(RL imm' cs2 WriteSubs)∧(RL imm' cs3 ValueKids)∧(S4 imm' p12 x.b c12)∧hs'=[hB r01 (cRd x p12 c12),hB b2 [vT WriteArray.l,vS p10 WriteSubs c10,vI ValueKind,vI ValueNum,vS p6 y.Value.Index.Coefs c6,vI y.Value.Index.Const,vT y.Value.Read.Array.l,vS p7 y.Value.Read.Subs c7,vS p11 ValueKids c11],hO zA (vS p10 WriteSubs c10) cs2,hO zI (vS p11 ValueKids c11) cs3,hB b1 [vT ([]),.slice none 0 0,vI 0,vI 0,.slice none 0 0,vI 0,vT ([]),.slice none 0 0,.slice none 0 0]]∧m'=[(4,vP b1 0),(5,vP b2 0)]) ?_ ?_
 · have hle0:=hle
   have hle:imm02.le imm02:=Imm.le.refl _
   refine yO ho0 ?_ ?_
   · intro hc hM
     refine zB<|yK 1 [] [(12,vP r01 0)]<|xV [vT ([69]),vT ([]),vT ([65,66]),vT ([97])] Str ?_
     intro b3 hb3
     have h15:RL imm02 [vT ([69]),vT ([]),vT ([65,66]),vT ([97])] ([(⟨[69]⟩:Str),(⟨[]⟩:Str),(⟨[65,66]⟩:Str),(⟨[97]⟩:Str)]:List Str):=⟨[vT ([69])],_,rfl,rfl,rfl,⟨[vT ([])],_,rfl,rfl,rfl,⟨[vT ([65,66])],_,rfl,rfl,rfl,⟨[vT ([97])],_,rfl,rfl,rfl,rfl⟩⟩⟩⟩
     refine yL 0 rfl ?_
     intro imm04 le3 hl01
     have h16:=SL.of_frozen hl01 le3 h15
     have h11:=h11.mono le3
     have h5:=RepL.mono (fun _ _=>Rp.mono le3) h5
     have h6:=h6.mono le3
     have h7:=h7.mono le3
     have h8:=RepL.mono (fun _ _=>Rp.mono le3) h8
     have hle:=hle.trans le3
     obtain ⟨⟨y5,y6⟩,hy2,hM⟩:=zC hM
     refine tV [hB r01 (cRd y3 p9 c9)] [hB b2 (cStmt y p5 c5 p6 c6 p7 c7 p8 c8),hO zA (vS p5 y.Write.Subs c5) cs,hO zI (vS p8 y.Value.Kids c8) cs1,hB b1 [vT ([]),.slice none 0 0,vI 0,vI 0,.slice none 0 0,vI 0,vT ([]),.slice none 0 0,.slice none 0 0]] (mX y3 ([(⟨[69]⟩:Str),(⟨[]⟩:Str),(⟨[65,66]⟩:Str),(⟨[97]⟩:Str)]:List Str) _ hy2 h11 h16) ?_
     rintro imm05 hs2 v2 k2 le4 - ⟨v02,kk1,rfl,rfl,rfl,h18⟩ -
     have h5:=RepL.mono (fun _ _=>Rp.mono le4) h5
     have h6:=h6.mono le4
     have h7:=h7.mono le4
     have h8:=RepL.mono (fun _ _=>Rp.mono le4) h8
     have hle:=hle.trans le4
     obtain ⟨v03,rfl,h19⟩:=yH h18
     obtain ⟨p13,c13,rfl⟩:=h19.form
     exact yK 5 [] [(16,vP b2 0)]<|xI 1 [vT y5.l,vS p5 y.Write.Subs c5,vI y.Value.Kind,vI y.Value.Num,vS p6 y.Value.Index.Coefs c6,vI y.Value.Index.Const,vT y.Value.Read.Array.l,vS p7 y.Value.Read.Subs c7,vS p8 y.Value.Kids c8] [hB r01 (cRd y6 p13 c13),hB b2 [vT y5.l,vS p5 y.Write.Subs c5,vI y.Value.Kind,vI y.Value.Num,vS p6 y.Value.Index.Coefs c6,vI y.Value.Index.Const,vT y.Value.Read.Array.l,vS p7 y.Value.Read.Subs c7,vS p8 y.Value.Kids c8],hO zA (vS p5 y.Write.Subs c5) cs,hO zI (vS p8 y.Value.Kids c8) cs1,hB b1 [vT ([]),.slice none 0 0,vI 0,vI 0,.slice none 0 0,vI 0,vT ([]),.slice none 0 0,.slice none 0 0]] rfl rfl rfl rfl<|yN rfl<|yU [(4,vP b1 0),(5,vP b2 0)]<|yA ⟨_,_,_,_,_,_,_,_,_,_,_,_,_,_,(zD hM).symm,hle,h5,h8,h19,rfl,rfl⟩
   intro hc hM
   refine zF<|zB<|zY [] [(17,.bool (y2 == 1))]<|zE ?_
   obtain ⟨o01,ho01,hMc1⟩:=zC hM
   refine yT (fun imm' hs' m'=>∃ (WriteSubs1:List zA) (ValueKind1:Int) (ValueNum1:Int) (ValueKids1:List zI) (x1:zO) (p14:Option Addr) (c14:Nat) (cs4:List Value) (p15:Option Addr) (c15:Nat) (cs5:List Value) (p16:Option Addr) (c16:Nat),o01=(WriteSubs1,ValueKind1,ValueNum1,ValueKids1,x1)∧imm02.le imm'∧(RL imm' cs4 WriteSubs1)∧(RL imm' cs5 ValueKids1)∧(S4 imm' p16 x1.b c16)∧hs'=[hB r01 (cRd x1 p16 c16),hB b2 [vT y.Write.Array.l,vS p14 WriteSubs1 c14,vI ValueKind1,vI ValueNum1,vS p6 y.Value.Index.Coefs c6,vI y.Value.Index.Const,vT y.Value.Read.Array.l,vS p7 y.Value.Read.Subs c7,vS p15 ValueKids1 c15],hO zA (vS p14 WriteSubs1 c14) cs4,hO zI (vS p15 ValueKids1 c15) cs5,hB b1 [vT ([]),.slice none 0 0,vI 0,vI 0,.slice none 0 0,vI 0,vT ([]),.slice none 0 0,.slice none 0 0]]∧m'=[(4,vP b1 0),(5,vP b2 0)]) ?_ ?_
   · have hle01:=hle
     have hle:imm02.le imm02:=Imm.le.refl _
     refine yO ho01 ?_ ?_
     · intro hc1 hM
       obtain ⟨y7,hy3,hM⟩:=zC hM
       obtain ⟨y8,hy4,hM⟩:=zC hM
       obtain ⟨l,hy5,hM⟩:=zC hM
       refine uD [.p (vP b2 0) [],.p (vP b2 1) [],.p (vS p5 y.Write.Subs c5) [1],.x (fun imm' v hx=>∃ p17 c17,v=vA (cAff y7 p17 c17)∧hx=[]∧(S4 imm' p17 y7.Coefs c17)),.x (fun imm' v hx=>∃ p18 c18 cs7,v=vA (cAff y8 p18 c18)∧hx=[hO Int (vS p18 y8.Coefs c18) cs7]∧(RL imm' cs7 y8.Coefs)),.x (fun imm' v hx=>∃ b4,v=vS (some ⟨b4,0,none⟩) ([y7,y8]:List zA) 2∧hx=[]∧(SL imm' (vS (some ⟨b4,0,none⟩) ([y7,y8]:List zA) 2) ([y7,y8]:List zA))),.x (fun imm' v hx=>∃ p19 c19 cs8,v=vS p19 l c19∧hx=[hO zA (vS p19 l c19) cs8]∧(RL imm' cs8 l))] [[],[(0,false)],[(1,false)],[],[],[(3,false),(4,true)],[(2,false),(5,false),(10,true)]] [hB r01 (cRd y3 p9 c9),hB b2 (cStmt y p5 c5 p6 c6 p7 c7 p8 c8),hO zI (vS p8 y.Value.Kids c8) cs1,hB b1 [vT ([]),.slice none 0 0,vI 0,vI 0,.slice none 0 0,vI 0,vT ([]),.slice none 0 0,.slice none 0 0]] [[hO zA (vS p5 y.Write.Subs c5) cs]] [(6,true)] (zK [0,1,3,4,2] rfl (by decide)) ?_ ?_
       · refine Op<|Op<|Op<|Ox ?_<|Ox ?_<|Ox ?_<|Ox ?_<|On
         · intro imm1 hf le1
           refine zN<|yG [] ?_
           have hle:=Imm.le.refl imm1
           have h11:=h11.mono le1
           have h5:=RepL.mono (fun _ _=>Rp.mono le1) h5
           have h6:=h6.mono le1
           have h7:=h7.mono le1
           have h8:=RepL.mono (fun _ _=>Rp.mono le1) h8
           refine yQ (nV 3 _ hy3 ) ?_
           rintro imm07 hs2 v2 k2 le5 - ⟨v04,rfl,rfl,⟨cs6,rfl,h23⟩⟩ -
           have h11:=h11.mono le5
           have h5:=RepL.mono (fun _ _=>Rp.mono le5) h5
           have h6:=h6.mono le5
           have h7:=h7.mono le5
           have h8:=RepL.mono (fun _ _=>Rp.mono le5) h8
           have hle:=hle.trans le5
           obtain ⟨v05,rfl,h24⟩:=yM h23
           obtain ⟨p17,c17,rfl⟩:=h24.form
           exact zZ (hx:=[]) rfl hle rfl (zM rfl) ⟨_,_,rfl,rfl,h24⟩
         · intro imm1 hf le1
           refine zN<|yG [] ?_
           have hle:=Imm.le.refl imm1
           have h11:=h11.mono le1
           have h5:=RepL.mono (fun _ _=>Rp.mono le1) h5
           have h6:=h6.mono le1
           have h7:=h7.mono le1
           have h8:=RepL.mono (fun _ _=>Rp.mono le1) h8
           refine yQ (oF  _ hy4 ) ?_
           rintro imm08 hs2 v2 k2 le6 - ⟨p18,c18,cs7,rfl,rfl,h25⟩ -
           have h11:=h11.mono le6
           have h5:=RepL.mono (fun _ _=>Rp.mono le6) h5
           have h6:=h6.mono le6
           have h7:=h7.mono le6
           have h8:=RepL.mono (fun _ _=>Rp.mono le6) h8
           have hle:=hle.trans le6
           exact zZ (hx:=[hO Int (vS p18 y8.Coefs c18) cs7]) rfl hle rfl (zM rfl) ⟨_,_,_,rfl,rfl,h25⟩
         · intro imm1 hf le1
           refine zG ?_
           rintro _ _ ⟨p17,c17,rfl,rfl,h24⟩
           refine zG ?_
           rintro _ _ ⟨p18,c18,cs7,rfl,rfl,h25⟩
           refine zN<|yG [(22,vA (cAff y7 p17 c17)),(23,vA (cAff y8 p18 c18))] ?_
           have hle:=Imm.le.refl imm1
           have h11:=h11.mono le1
           have h5:=RepL.mono (fun _ _=>Rp.mono le1) h5
           have h6:=h6.mono le1
           have h7:=h7.mono le1
           have h8:=RepL.mono (fun _ _=>Rp.mono le1) h8
           refine yL 0 rfl ?_
           intro imm09 le7 hl02
           have h26:=SL.of_frozen hl02 le7 h25
           have h24:=h24.mono le7
           have h11:=h11.mono le7
           have h5:=RepL.mono (fun _ _=>Rp.mono le7) h5
           have h6:=h6.mono le7
           have h7:=h7.mono le7
           have h8:=RepL.mono (fun _ _=>Rp.mono le7) h8
           have hle:=hle.trans le7
           refine xV [vS p17 y7.Coefs c17,vI y7.Const,vS p18 y8.Coefs c18,vI y8.Const] zA ?_
           intro b4 hb4
           have h27:RL imm09 [vS p17 y7.Coefs c17,vI y7.Const,vS p18 y8.Coefs c18,vI y8.Const] ([y7,y8]:List zA):=⟨(cAff y7 p17 c17),_,rfl,rfl,(yR ⟨_,rfl,h24⟩),⟨(cAff y8 p18 c18),_,rfl,rfl,(yR ⟨_,rfl,h26⟩),rfl⟩⟩
           refine yL 0 rfl ?_
           intro imm010 le8 hl03
           have h28:=SL.of_frozen hl03 le8 h27
           have h24:=h24.mono le8
           have h26:=h26.mono le8
           have h11:=h11.mono le8
           have h5:=RepL.mono (fun _ _=>Rp.mono le8) h5
           have h6:=h6.mono le8
           have h7:=h7.mono le8
           have h8:=RepL.mono (fun _ _=>Rp.mono le8) h8
           have hle:=hle.trans le8
           exact zZ (hx:=[]) rfl hle rfl (zM rfl) ⟨_,rfl,rfl,h28⟩
         intro imm1 hf le1
         refine zG ?_
         rintro _ _ ⟨rfl,rfl⟩
         refine zG ?_
         rintro _ _ ⟨b4,rfl,rfl,h28⟩
         refine zG ?_
         rintro _ _ rfl
         refine zN<|yG [(21,vS p5 y.Write.Subs c5),(24,vS (some ⟨b4,0,none⟩) ([y7,y8]:List zA) 2)] ?_
         have hle:=Imm.le.refl imm1
         have h5:=RepL.mono (fun _ _=>Rp.mono le1) h5
         obtain ⟨ccs,k0,k01⟩:=h28
         have h28:SL imm1 (vS (some ⟨b4,0,none⟩) ([y7,y8]:List zA) 2) ([y7,y8]:List zA):=⟨_,k0,k01⟩
         refine pC 45 2 0 rfl rfl rfl h5 (.inl k0) k01 hy5 ?_
         intro p19 c19 cs8 h29
         exact vW (hs':=(hO zA (vS p19 l c19) cs8::hB r01 (cRd y3 p9 c9)::hB b2 (cStmt y p5 c5 p6 c6 p7 c7 p8 c8)::hO zI (vS p8 y.Value.Kids c8) cs1::hB b1 [vT ([]),.slice none 0 0,vI 0,vI 0,.slice none 0 0,vI 0,vT ([]),.slice none 0 0,.slice none 0 0]::hf)) rfl<|zZ (hx:=[hO zA (vS p19 l c19) cs8]) rfl hle rfl (zM rfl) ⟨_,_,_,rfl,rfl,h29⟩
       intro imm011 le9
       refine zG ?_
       rintro _ _ ⟨p19,c19,cs8,rfl,rfl,h29⟩
       refine zN<|yG [(4,vP b1 0),(5,vP b2 0),(25,vS p19 l c19)] ?_
       have h11:=h11.mono le9
       have h5:=RepL.mono (fun _ _=>Rp.mono le9) h5
       have h6:=h6.mono le9
       have h7:=h7.mono le9
       have h8:=RepL.mono (fun _ _=>Rp.mono le9) h8
       have hle:=hle.trans le9
       exact yK 9 [] [(27,vP b2 1)]<|xI 2 [vT y.Write.Array.l,vS p19 l c19,vI y.Value.Kind,vI y.Value.Num,vS p6 y.Value.Index.Coefs c6,vI y.Value.Index.Const,vT y.Value.Read.Array.l,vS p7 y.Value.Read.Subs c7,vS p8 y.Value.Kids c8] [hO zA (vS p19 l c19) cs8,hB r01 (cRd y3 p9 c9),hB b2 [vT y.Write.Array.l,vS p19 l c19,vI y.Value.Kind,vI y.Value.Num,vS p6 y.Value.Index.Coefs c6,vI y.Value.Index.Const,vT y.Value.Read.Array.l,vS p7 y.Value.Read.Subs c7,vS p8 y.Value.Kids c8],hO zI (vS p8 y.Value.Kids c8) cs1,hB b1 [vT ([]),.slice none 0 0,vI 0,vI 0,.slice none 0 0,vI 0,vT ([]),.slice none 0 0,.slice none 0 0]] rfl rfl rfl rfl<|yN rfl<|xZ (zK [1,2,0,3,4] rfl (by decide))<|yU [(4,vP b1 0),(5,vP b2 0)]<|yA ⟨_,_,_,_,_,_,_,_,_,_,_,_,_,(zD hM).symm,hle,h29,h8,h11,rfl,rfl⟩
     intro hc1 hM
     refine zF<|zB<|zY [] [(28,.bool (y2 == 2))]<|zE ?_
     obtain ⟨o02,ho02,hMc2⟩:=zC hM
     refine yT (fun imm' hs' m'=>∃ (ValueKind2:Int) (ValueNum2:Int) (ValueKids2:List zI) (x2:zO) (p20:Option Addr) (c20:Nat) (cs9:List Value) (p21:Option Addr) (c21:Nat),o02=(ValueKind2,ValueNum2,ValueKids2,x2)∧imm02.le imm'∧(RL imm' cs9 ValueKids2)∧(S4 imm' p21 x2.b c21)∧hs'=[hB r01 (cRd x2 p21 c21),hB b2 [vT y.Write.Array.l,vS p5 y.Write.Subs c5,vI ValueKind2,vI ValueNum2,vS p6 y.Value.Index.Coefs c6,vI y.Value.Index.Const,vT y.Value.Read.Array.l,vS p7 y.Value.Read.Subs c7,vS p20 ValueKids2 c20],hO zA (vS p5 y.Write.Subs c5) cs,hO zI (vS p20 ValueKids2 c20) cs9,hB b1 [vT ([]),.slice none 0 0,vI 0,vI 0,.slice none 0 0,vI 0,vT ([]),.slice none 0 0,.slice none 0 0]]∧m'=[(4,vP b1 0),(5,vP b2 0)]) ?_ ?_
     · have hle02:=hle
       have hle:imm02.le imm02:=Imm.le.refl _
       refine yO ho02 ?_ ?_
       · intro hc2 hM
         refine zB<|yK 1 [] [(30,vP r01 0)]<|xV [vI 0,vI 7,vI 1,vI 4,vI 2] Int ?_
         intro b5 hb5
         have h32:RL imm02 [vI 0,vI 7,vI 1,vI 4,vI 2] ([0,7,1,4,2]:List Int):=⟨[vI 0],_,rfl,rfl,rfl,⟨[vI 7],_,rfl,rfl,rfl,⟨[vI 1],_,rfl,rfl,rfl,⟨[vI 4],_,rfl,rfl,rfl,⟨[vI 2],_,rfl,rfl,rfl,rfl⟩⟩⟩⟩⟩
         refine yL 0 rfl ?_
         intro imm013 le10 hl04
         have h33:=SL.of_frozen hl04 le10 h32
         have h11:=h11.mono le10
         have h5:=RepL.mono (fun _ _=>Rp.mono le10) h5
         have h6:=h6.mono le10
         have h7:=h7.mono le10
         have h8:=RepL.mono (fun _ _=>Rp.mono le10) h8
         have hle:=hle.trans le10
         obtain ⟨⟨y10,y11⟩,hy6,hM⟩:=zC hM
         refine tV [hB r01 (cRd y3 p9 c9)] [hB b2 (cStmt y p5 c5 p6 c6 p7 c7 p8 c8),hO zA (vS p5 y.Write.Subs c5) cs,hO zI (vS p8 y.Value.Kids c8) cs1,hB b1 [vT ([]),.slice none 0 0,vI 0,vI 0,.slice none 0 0,vI 0,vT ([]),.slice none 0 0,.slice none 0 0]] (xC y3 ([0,7,1,4,2]:List Int) _ hy6 h11 h33) ?_
         rintro imm014 hs2 v2 k2 le11 - ⟨v06,kk2,rfl,rfl,rfl,h35⟩ -
         have h5:=RepL.mono (fun _ _=>Rp.mono le11) h5
         have h6:=h6.mono le11
         have h7:=h7.mono le11
         have h8:=RepL.mono (fun _ _=>Rp.mono le11) h8
         have hle:=hle.trans le11
         obtain ⟨v07,rfl,h36⟩:=yH h35
         obtain ⟨p22,c22,rfl⟩:=h36.form
         exact yK 5 [] [(34,vP b2 2)]<|xI 1 [vT y.Write.Array.l,vS p5 y.Write.Subs c5,vI y10,vI y.Value.Num,vS p6 y.Value.Index.Coefs c6,vI y.Value.Index.Const,vT y.Value.Read.Array.l,vS p7 y.Value.Read.Subs c7,vS p8 y.Value.Kids c8] [hB r01 (cRd y11 p22 c22),hB b2 [vT y.Write.Array.l,vS p5 y.Write.Subs c5,vI y10,vI y.Value.Num,vS p6 y.Value.Index.Coefs c6,vI y.Value.Index.Const,vT y.Value.Read.Array.l,vS p7 y.Value.Read.Subs c7,vS p8 y.Value.Kids c8],hO zA (vS p5 y.Write.Subs c5) cs,hO zI (vS p8 y.Value.Kids c8) cs1,hB b1 [vT ([]),.slice none 0 0,vI 0,vI 0,.slice none 0 0,vI 0,vT ([]),.slice none 0 0,.slice none 0 0]] rfl rfl rfl rfl<|yN rfl<|yU [(4,vP b1 0),(5,vP b2 0)]<|yA ⟨_,_,_,_,_,_,_,_,_,(zD hM).symm,hle,h8,h36,rfl,rfl⟩
       intro hc2 hM
       refine zF<|zB<|zY [] [(35,.bool (y2 == 3))]<|zE ?_
       obtain ⟨o03,ho03,hMc3⟩:=zC hM
       refine yT (fun imm' hs' m'=>∃ (ValueNum3:Int) (ValueKids3:List zI) (x3:zO) (p23:Option Addr) (c23:Nat) (cs10:List Value) (p24:Option Addr) (c24:Nat),o03=(ValueNum3,ValueKids3,x3)∧imm02.le imm'∧(RL imm' cs10 ValueKids3)∧(S4 imm' p24 x3.b c24)∧hs'=[hB r01 (cRd x3 p24 c24),hB b2 [vT y.Write.Array.l,vS p5 y.Write.Subs c5,vI y.Value.Kind,vI ValueNum3,vS p6 y.Value.Index.Coefs c6,vI y.Value.Index.Const,vT y.Value.Read.Array.l,vS p7 y.Value.Read.Subs c7,vS p23 ValueKids3 c23],hO zA (vS p5 y.Write.Subs c5) cs,hO zI (vS p23 ValueKids3 c23) cs10,hB b1 [vT ([]),.slice none 0 0,vI 0,vI 0,.slice none 0 0,vI 0,vT ([]),.slice none 0 0,.slice none 0 0]]∧m'=[(4,vP b1 0),(5,vP b2 0)]) ?_ ?_
       · have hle03:=hle
         have hle:imm02.le imm02:=Imm.le.refl _
         refine yO ho03 ?_ ?_
         · intro hc3 hM
           refine zB<|yK 1 [] [(37,vP r01 0)]<|xV [vI 100,vI (-1),vI 1] Int ?_
           intro b6 hb6
           have h39:RL imm02 [vI 100,vI (-1),vI 1] ([100,(-1),1]:List Int):=⟨[vI 100],_,rfl,rfl,rfl,⟨[vI (-1)],_,rfl,rfl,rfl,⟨[vI 1],_,rfl,rfl,rfl,rfl⟩⟩⟩
           refine yL 0 rfl ?_
           intro imm016 le12 hl05
           have h40:=SL.of_frozen hl05 le12 h39
           have h11:=h11.mono le12
           have h5:=RepL.mono (fun _ _=>Rp.mono le12) h5
           have h6:=h6.mono le12
           have h7:=h7.mono le12
           have h8:=RepL.mono (fun _ _=>Rp.mono le12) h8
           have hle:=hle.trans le12
           obtain ⟨⟨y13,y14⟩,hy7,hM⟩:=zC hM
           refine tV [hB r01 (cRd y3 p9 c9)] [hB b2 (cStmt y p5 c5 p6 c6 p7 c7 p8 c8),hO zA (vS p5 y.Write.Subs c5) cs,hO zI (vS p8 y.Value.Kids c8) cs1,hB b1 [vT ([]),.slice none 0 0,vI 0,vI 0,.slice none 0 0,vI 0,vT ([]),.slice none 0 0,.slice none 0 0]] (xC y3 ([100,(-1),1]:List Int) _ hy7 h11 h40) ?_
           rintro imm017 hs2 v2 k2 le13 - ⟨v08,kk3,rfl,rfl,rfl,h42⟩ -
           have h5:=RepL.mono (fun _ _=>Rp.mono le13) h5
           have h6:=h6.mono le13
           have h7:=h7.mono le13
           have h8:=RepL.mono (fun _ _=>Rp.mono le13) h8
           have hle:=hle.trans le13
           obtain ⟨v09,rfl,h43⟩:=yH h42
           obtain ⟨p25,c25,rfl⟩:=h43.form
           exact yK 5 [] [(41,vP b2 3)]<|xI 1 [vT y.Write.Array.l,vS p5 y.Write.Subs c5,vI y.Value.Kind,vI y13,vS p6 y.Value.Index.Coefs c6,vI y.Value.Index.Const,vT y.Value.Read.Array.l,vS p7 y.Value.Read.Subs c7,vS p8 y.Value.Kids c8] [hB r01 (cRd y14 p25 c25),hB b2 [vT y.Write.Array.l,vS p5 y.Write.Subs c5,vI y.Value.Kind,vI y13,vS p6 y.Value.Index.Coefs c6,vI y.Value.Index.Const,vT y.Value.Read.Array.l,vS p7 y.Value.Read.Subs c7,vS p8 y.Value.Kids c8],hO zA (vS p5 y.Write.Subs c5) cs,hO zI (vS p8 y.Value.Kids c8) cs1,hB b1 [vT ([]),.slice none 0 0,vI 0,vI 0,.slice none 0 0,vI 0,vT ([]),.slice none 0 0,.slice none 0 0]] rfl rfl rfl rfl<|yN rfl<|yU [(4,vP b1 0),(5,vP b2 0)]<|yA ⟨_,_,_,_,_,_,_,_,(zD hM).symm,hle,h8,h43,rfl,rfl⟩
         intro hc3 hM
         refine zF<|zB<|zY [] [(42,.bool (y2 == 4))]<|zE ?_
         obtain ⟨o04,ho04,hMc4⟩:=zC hM
         refine yT (fun imm' hs' m'=>∃ (ValueKids4:List zI) (p26:Option Addr) (c26:Nat) (cs11:List Value),o04=ValueKids4∧imm02.le imm'∧(RL imm' cs11 ValueKids4)∧hs'=[hB r01 (cRd y3 p9 c9),hB b2 [vT y.Write.Array.l,vS p5 y.Write.Subs c5,vI y.Value.Kind,vI y.Value.Num,vS p6 y.Value.Index.Coefs c6,vI y.Value.Index.Const,vT y.Value.Read.Array.l,vS p7 y.Value.Read.Subs c7,vS p26 ValueKids4 c26],hO zA (vS p5 y.Write.Subs c5) cs,hO zI (vS p26 ValueKids4 c26) cs11,hB b1 [vT ([]),.slice none 0 0,vI 0,vI 0,.slice none 0 0,vI 0,vT ([]),.slice none 0 0,.slice none 0 0]]∧m'=[(4,vP b1 0),(5,vP b2 0)]) ?_ ?_
         · have hle04:=hle
           have hle:imm02.le imm02:=Imm.le.refl _
           refine yO ho04 ?_ ?_
           · intro hc4 hM
             refine zB<|yK 4 [1] [(46,vS p8 y.Value.Kids c8),(47,vA [vI 1,vI 0,.slice none 0 0,vI 0,vT ([]),.slice none 0 0,.slice none 0 0])]<|xV [vI 1,vI 0,.slice none 0 0,vI 0,vT ([]),.slice none 0 0,.slice none 0 0] zI ?_
             intro b7 hb7
             have h45:RL imm02 [vI 1,vI 0,.slice none 0 0,vI 0,vT ([]),.slice none 0 0,.slice none 0 0] ([(zI.mk 1 0 (zA.mk ([]:List Int) 0) (zL.mk (⟨[]⟩:Str) ([]:List zA)) ([]:List zI))]:List zI):=⟨[vI 1,vI 0,.slice none 0 0,vI 0,vT ([]),.slice none 0 0,.slice none 0 0],_,rfl,rfl,(xM ⟨_,_,_,rfl,(SL.nil _),(SL.nil _),(SL.nil _)⟩),rfl⟩
             obtain ⟨l1,hy8,hM⟩:=zC hM
             refine pC 69 7 4 rfl rfl rfl h8 (.inr ⟨0,rfl⟩) h45 hy8 ?_
             intro p27 c27 cs12 h46
             exact qO (zK [1,2,3,4,5] (hs':=[hB r01 (cRd y3 p9 c9),hB b2 (cStmt y p5 c5 p6 c6 p7 c7 p8 c8),hO zA (vS p5 y.Write.Subs c5) cs,hO zI (vS p27 l1 c27) cs12,hB b1 [vT ([]),.slice none 0 0,vI 0,vI 0,.slice none 0 0,vI 0,vT ([]),.slice none 0 0,.slice none 0 0]]) rfl (by decide))<|yK 8 [] [(51,vP b2 8)]<|xI 1 [vT y.Write.Array.l,vS p5 y.Write.Subs c5,vI y.Value.Kind,vI y.Value.Num,vS p6 y.Value.Index.Coefs c6,vI y.Value.Index.Const,vT y.Value.Read.Array.l,vS p7 y.Value.Read.Subs c7,vS p27 l1 c27] [hB r01 (cRd y3 p9 c9),hB b2 [vT y.Write.Array.l,vS p5 y.Write.Subs c5,vI y.Value.Kind,vI y.Value.Num,vS p6 y.Value.Index.Coefs c6,vI y.Value.Index.Const,vT y.Value.Read.Array.l,vS p7 y.Value.Read.Subs c7,vS p27 l1 c27],hO zA (vS p5 y.Write.Subs c5) cs,hO zI (vS p27 l1 c27) cs12,hB b1 [vT ([]),.slice none 0 0,vI 0,vI 0,.slice none 0 0,vI 0,vT ([]),.slice none 0 0,.slice none 0 0]] rfl rfl rfl rfl<|yN rfl<|yU [(4,vP b1 0),(5,vP b2 0)]<|yA ⟨_,_,_,_,(zD hM).symm,hle,h46,rfl,rfl⟩
           intro hc4 hM
           exact yD<|yU [(4,vP b1 0),(5,vP b2 0)]<|yA ⟨_,_,_,_,(zD hM).symm,hle,h8,rfl,rfl⟩
         rintro imm018 hs2 m2 ⟨ValueKids4,p26,c26,cs11,heq,le14,h44,rfl,rfl⟩
         subst o04
         have h11:=h11.mono le14
         have h5:=RepL.mono (fun _ _=>Rp.mono le14) h5
         have h6:=h6.mono le14
         have h7:=h7.mono le14
         have hle:=hle.trans le14
         exact yU [(4,vP b1 0),(5,vP b2 0)]<|yA ⟨_,_,_,_,_,_,_,_,(zD hMc4).symm,hle,h44,h11,rfl,rfl⟩
       rintro imm015 hs2 m2 ⟨ValueNum3,ValueKids3,x3,p23,c23,cs10,p24,c24,heq1,le15,h37,h38,rfl,rfl⟩
       subst o03
       have h5:=RepL.mono (fun _ _=>Rp.mono le15) h5
       have h6:=h6.mono le15
       have h7:=h7.mono le15
       have hle:=hle.trans le15
       exact yU [(4,vP b1 0),(5,vP b2 0)]<|yA ⟨_,_,_,_,_,_,_,_,_,(zD hMc3).symm,hle,h37,h38,rfl,rfl⟩
     rintro imm012 hs2 m2 ⟨ValueKind2,ValueNum2,ValueKids2,x2,p20,c20,cs9,p21,c21,heq2,le16,h30,h31,rfl,rfl⟩
     subst o02
     have h5:=RepL.mono (fun _ _=>Rp.mono le16) h5
     have h6:=h6.mono le16
     have h7:=h7.mono le16
     have hle:=hle.trans le16
     exact yU [(4,vP b1 0),(5,vP b2 0)]<|yA ⟨_,_,_,_,_,_,_,_,_,_,_,_,_,(zD hMc2).symm,hle,h5,h30,h31,rfl,rfl⟩
   rintro imm06 hs2 m2 ⟨WriteSubs1,ValueKind1,ValueNum1,ValueKids1,x1,p14,c14,cs4,p15,c15,cs5,p16,c16,heq3,le17,h20,h21,h22,rfl,rfl⟩
   subst o01
   have h6:=h6.mono le17
   have h7:=h7.mono le17
   have hle:=hle.trans le17
   exact yU [(4,vP b1 0),(5,vP b2 0)]<|yA ⟨_,_,_,_,_,_,_,_,_,_,_,_,_,_,(zD hMc1).symm,hle,h20,h21,h22,rfl,rfl⟩
 rintro imm03 hs2 m2 ⟨WriteArray,WriteSubs,ValueKind,ValueNum,ValueKids,x,p10,c10,cs2,p11,c11,cs3,p12,c12,heq4,le18,h12,h13,h14,rfl,rfl⟩
 subst o0
 have h6:=h6.mono le18
 have h7:=h7.mono le18
 have hle:=hle.trans le18
 refine zX<|zE<|zF<|zB<|yK 1 [1] [(52,vA [vT WriteArray.l,vS p10 WriteSubs c10,vI ValueKind,vI ValueNum,vS p6 y.Value.Index.Coefs c6,vI y.Value.Index.Const,vT y.Value.Read.Array.l,vS p7 y.Value.Read.Subs c7,vS p11 ValueKids c11])]<|xI 4 [vT WriteArray.l,vS p10 WriteSubs c10,vI ValueKind,vI ValueNum,vS p6 y.Value.Index.Coefs c6,vI y.Value.Index.Const,vT y.Value.Read.Array.l,vS p7 y.Value.Read.Subs c7,vS p11 ValueKids c11] [hB r01 (cRd x p12 c12),hB b2 [vT WriteArray.l,vS p10 WriteSubs c10,vI ValueKind,vI ValueNum,vS p6 y.Value.Index.Coefs c6,vI y.Value.Index.Const,vT y.Value.Read.Array.l,vS p7 y.Value.Read.Subs c7,vS p11 ValueKids c11],hO zA (vS p10 WriteSubs c10) cs2,hO zI (vS p11 ValueKids c11) cs3,hB b1 [vT WriteArray.l,vS p10 WriteSubs c10,vI ValueKind,vI ValueNum,vS p6 y.Value.Index.Coefs c6,vI y.Value.Index.Const,vT y.Value.Read.Array.l,vS p7 y.Value.Read.Subs c7,vS p11 ValueKids c11]] rfl rfl rfl rfl<|yN rfl<|zE<|yI<|xL 2 rfl ?_
 intro imm019 le19 hl06
 have h47:=SL.of_frozen hl06 le19 h12
 have h14:=h14.mono le19
 have h6:=h6.mono le19
 have h7:=h7.mono le19
 have h13:=RepL.mono (fun _ _=>Rp.mono le19) h13
 have hle:=hle.trans le19
 refine xL 2 rfl ?_
 intro imm020 le20 hl07
 have h48:=SL.of_frozen hl07 le20 h13
 have h14:=h14.mono le20
 have h47:=h47.mono le20
 have h6:=h6.mono le20
 have h7:=h7.mono le20
 have hle:=hle.trans le20
 obtain rfl:=zD hMc
 exact yP ⟨_,_,(.cell 2 rfl rfl (by kernel_rfl) ResV.nil),(zK [0] rfl (by decide)),⟨_,_,rfl,rfl,⟨_,rfl,(wM ⟨_,_,_,_,rfl,h47,h6,h7,h48⟩)⟩,(yS ⟨_,rfl,h14⟩)⟩⟩
def zCN (r:(List zJ)):Nat→Imm→List HA→Value→Prop:=fun kk imm' hs' v =>
  ∃ v0,hs'=[]∧v=tupV [v0]∧SL imm' v0 r
def uW (nest:(List zJ)) (i:Int) (k0:Int) (Lo:List zA):Option (List zA):=do
 let x←idx nest i
 if (decide (k0 < (x.Lo.length:Int))) then
  let x1←idx nest i
  let x2←idx x1.Lo k0
  let l←app 8 ([]:List Int) x2.Coefs
  let l1←app 32 Lo ([(zA.mk l x2.Const)]:List zA)
  uW nest i (W (k0 + 1)) l1
 else
  pure (id Lo)
 partial_fixpoint
theorem gD (nest:(List zJ)) (i:Int):∀ (k0:Int) (Lo:List zA) (o:List zA),uW nest i k0 Lo=some o→∀ {B}{imm0 imm:Imm}{Q}{τ:Type} [Rp τ] {out:List τ}{p c p1 c1 cs}{b1:Nat}{p3 c3 cs2},imm0.le imm→(S4 imm p nest c)→(RL imm cs out)→(RL imm cs2 Lo)→(∀ l a w,¬Q (.goto l) a w)→(∀ a w,¬Q .outgrown a w)→(∀ (imm':Imm) (Lo1:List zA) (p4:Option Addr) (c4:Nat) (cs3:List Value),o=Lo1→imm0.le imm'→(RL imm' cs3 Lo1)→T 83 B Q (.exit 2) imm' [hO zA (vS p4 Lo1 c4) cs3,hB b1 [vS p4 Lo1 c4,.slice none 0 0],hO τ (vS p1 out c1) cs] [(0,vS p nest c),(3,vS p1 out c1),(4,vI i),(5,vP b1 0)])→J Tryz.prog 83 B (nav (bodyOf Tryz.f167) [1,1,0,1,0,0,1,0,0,1,0,1,0]) Q imm [hO zA (vS p3 Lo c3) cs2,hB b1 [vS p3 Lo c3,.slice none 0 0],hO τ (vS p1 out c1) cs] [(0,vS p nest c),(3,vS p1 out c1),(4,vI i),(5,vP b1 0),(6,vI k0)]:=by
 refine uW.partial_correctness nest i _ ?_
 intro self ih k0 Lo o hM B imm0 imm Q τ _ out p c p1 c1 cs b1 p3 c3 cs2 hle h h2 h5 hg ho hx
 refine xE hg ho<|zF<|zF<|zB<|yK 3 [] [(18,vI k0),(19,vS p nest c),(20,vI i)] ?_
 obtain ⟨x,hy,hM⟩:=zC hM
 refine wJ rfl rfl h hy ?_
 intro ad ccs hat hrep
 obtain ⟨v0,v01,rfl,h7,h8⟩:=uE hrep
 obtain ⟨p5,c5,rfl⟩:=h7.form
 obtain ⟨p6,c6,rfl⟩:=h8.form
 refine yK 5 [] [(22,.pointer (some ad))]<|xW 0 hat [vS p5 x.Lo c5] (vS p5 x.Lo c5) rfl<|zY [] [(25,.bool (decide (k0 < (x.Lo.length:Int))))]<|zE<|yO hM ?_ ?_
 · intro hc1 hM
   refine yD<|zE<|zF<|yB<|zF<|zB<|yK 2 [] [(28,vS p nest c),(29,vI i)] ?_
   obtain ⟨x1,hy1,hM⟩:=zC hM
   refine wJ rfl rfl h hy1 ?_
   intro ad1 ccs1 hat1 hrep1
   obtain ⟨v02,v03,rfl,h9,h10⟩:=uE hrep1
   obtain ⟨p7,c7,rfl⟩:=h9.form
   obtain ⟨p8,c8,rfl⟩:=h10.form
   refine yK 4 [] [(31,.pointer (some ad1))]<|xW 0 hat1 [vS p7 x1.Lo c7] (vS p7 x1.Lo c7) rfl<|yK 6 [] [(33,vI k0)] ?_
   obtain ⟨x2,hy2,hM⟩:=zC hM
   refine wJ rfl rfl h9 hy2 ?_
   intro ad2 ccs2 hat2 hrep2
   obtain ⟨v04,rfl,h11⟩:=yM hrep2
   obtain ⟨p9,c9,rfl⟩:=h11.form
   refine xW 0 hat2 (cAff x2 p9 c9) (vA (cAff x2 p9 c9)) rfl<|vV [.slice none 0 0,vI 0] ?_
   intro b2 hb2
   refine xI 0 (cAff x2 p9 c9) [hB b2 (cAff x2 p9 c9),hO zA (vS p3 Lo c3) cs2,hB b1 [vS p3 Lo c3,.slice none 0 0],hO τ (vS p1 out c1) cs] rfl rfl rfl rfl<|yN rfl<|zE ?_
   obtain ⟨l,hy3,hM⟩:=zC hM
   obtain ⟨l1,hy4,hM⟩:=zC hM
   refine uD [.p (vP b1 0) [],.p (vS p3 Lo c3) [1],.x (fun imm' v hx=>∃ b3,v=vS (some ⟨b3,0,none⟩) ([]:List Int) 0∧hx=[hO Int (vS (some ⟨b3,0,none⟩) ([]:List Int) 0) []]∧(RL imm' [] ([]:List Int))),.p (vP b2 0) [],.p (vS p9 x2.Coefs c9) [0],.x (fun imm' v hx=>∃ p10 c10 cs4,v=vS p10 l c10∧hx=[hO Int (vS p10 l c10) cs4]∧(RL imm' cs4 l)),.p (vP b2 1) [],.p (vI x2.Const) [0],.x (fun imm' v hx=>∃ p101 c101 cs41,v=vA [vS p101 l c101,vI x2.Const]∧hx=[hO Int (vS p101 l c101) cs41]∧(RL imm' cs41 l)),.x (fun imm' v hx=>∃ b4,v=vS (some ⟨b4,0,none⟩) ([(zA.mk l x2.Const)]:List zA) 1∧hx=[]∧(SL imm' (vS (some ⟨b4,0,none⟩) ([(zA.mk l x2.Const)]:List zA) 1) ([(zA.mk l x2.Const)]:List zA))),.x (fun imm' v hx=>∃ p11 c11 cs5,v=vS p11 l1 c11∧hx=[hO zA (vS p11 l1 c11) cs5]∧(RL imm' cs5 l1))] [[],[(0,false)],[],[],[(3,false)],[(2,true),(4,false)],[],[(6,false)],[(5,true),(7,false)],[(8,true)],[(1,false),(9,false),(13,true)]] [hB b2 (cAff x2 p9 c9),hB b1 [vS p3 Lo c3,.slice none 0 0],hO τ (vS p1 out c1) cs] [[hO zA (vS p3 Lo c3) cs2]] [(10,true)] (zK [0,2,3,1] rfl (by decide)) ?_ ?_
   · refine Op<|Op<|Ox ?_<|Op<|Op<|Ox ?_<|Op<|Op<|Ox ?_<|Ox ?_<|Ox ?_<|On
     · intro imm1 hf le1
       refine zN<|yG [] ?_
       have hle:=Imm.le.refl imm1
       refine xV [] Int ?_
       intro b3 hb3
       have h12:RL imm1 [] ([]:List Int):=rfl
       exact zZ (hx:=[hO Int (vS (some ⟨b3,0,none⟩) ([]:List Int) 0) []]) rfl hle rfl (zM rfl) ⟨_,rfl,rfl,h12⟩
     · intro imm1 hf le1
       refine zG ?_
       rintro _ _ ⟨b3,rfl,rfl,h12⟩
       refine zG ?_
       rintro _ _ ⟨rfl,rfl⟩
       refine zN<|yG [(38,vS (some ⟨b3,0,none⟩) ([]:List Int) 0),(40,vS p9 x2.Coefs c9)] ?_
       have hle:=Imm.le.refl imm1
       have h11:=h11.mono le1
       obtain ⟨ccs3,k01,k02⟩:=h11
       have h11:SL imm1 (vS p9 x2.Coefs c9) x2.Coefs:=⟨_,k01,k02⟩
       refine pC 3 1 0 rfl rfl rfl h12 (.inl k01) k02 hy3 ?_
       intro p10 c10 cs4 h13
       exact vW (hs':=(hO Int (vS p10 l c10) cs4::hB b2 (cAff x2 p9 c9)::hB b1 [vS p3 Lo c3,.slice none 0 0]::hO τ (vS p1 out c1) cs::hf)) rfl<|zZ (hx:=[hO Int (vS p10 l c10) cs4]) rfl hle rfl (zM rfl) ⟨_,_,_,rfl,rfl,h13⟩
     · intro imm1 hf le1
       refine zG ?_
       rintro _ _ ⟨p10,c10,cs4,rfl,rfl,h13⟩
       refine zG ?_
       rintro _ _ ⟨rfl,rfl⟩
       refine zN<|yG [(41,vS p10 l c10),(43,vI x2.Const)] ?_
       have hle:=Imm.le.refl imm1
       exact qX 9 [(44,vA [vS p10 l c10,vI x2.Const])]<|zZ (hx:=[hO Int (vS p10 l c10) cs4]) rfl hle rfl (zM rfl) ⟨_,_,_,rfl,rfl,h13⟩
     · intro imm1 hf le1
       refine zG ?_
       rintro _ _ ⟨p101,c101,cs41,rfl,rfl,h131⟩
       refine zN<|yG [(44,vA [vS p101 l c101,vI x2.Const])] ?_
       have hle:=Imm.le.refl imm1
       have h2:=RepL.mono (fun _ _=>Rp.mono le1) h2
       have h11:=h11.mono le1
       have h5:=RepL.mono (fun _ _=>Rp.mono le1) h5
       refine yL 0 rfl ?_
       intro imm0 le hl0
       have h14:=SL.of_frozen hl0 le h131
       have h11:=h11.mono le
       have h5:=RepL.mono (fun _ _=>Rp.mono le) h5
       have h2:=RepL.mono (fun _ _=>Rp.mono le) h2
       have hle:=hle.trans le
       refine xV [vS p101 l c101,vI x2.Const] zA ?_
       intro b4 hb4
       have h15:RL imm0 [vS p101 l c101,vI x2.Const] ([(zA.mk l x2.Const)]:List zA):=⟨[vS p101 l c101,vI x2.Const],_,rfl,rfl,(yR ⟨_,rfl,h14⟩),rfl⟩
       refine yL 0 rfl ?_
       intro imm01 le1 hl01
       have h16:=SL.of_frozen hl01 le1 h15
       have h14:=h14.mono le1
       have h11:=h11.mono le1
       have h5:=RepL.mono (fun _ _=>Rp.mono le1) h5
       have h2:=RepL.mono (fun _ _=>Rp.mono le1) h2
       have hle:=hle.trans le1
       exact zZ (hx:=[]) rfl hle rfl (zM rfl) ⟨_,rfl,rfl,h16⟩
     intro imm1 hf le1
     refine zG ?_
     rintro _ _ ⟨rfl,rfl⟩
     refine zG ?_
     rintro _ _ ⟨b4,rfl,rfl,h16⟩
     refine zG ?_
     rintro _ _ rfl
     refine zN<|yG [(37,vS p3 Lo c3),(45,vS (some ⟨b4,0,none⟩) ([(zA.mk l x2.Const)]:List zA) 1)] ?_
     have hle:=Imm.le.refl imm1
     have h5:=RepL.mono (fun _ _=>Rp.mono le1) h5
     obtain ⟨ccs4,k03,k04⟩:=h16
     have h16:SL imm1 (vS (some ⟨b4,0,none⟩) ([(zA.mk l x2.Const)]:List zA) 1) ([(zA.mk l x2.Const)]:List zA):=⟨_,k03,k04⟩
     refine pC 45 2 0 rfl rfl rfl h5 (.inl k03) k04 hy4 ?_
     intro p11 c11 cs5 h17
     exact vW (hs':=(hO zA (vS p11 l1 c11) cs5::hB b2 (cAff x2 p9 c9)::hB b1 [vS p3 Lo c3,.slice none 0 0]::hO τ (vS p1 out c1) cs::hf)) rfl<|zZ (hx:=[hO zA (vS p11 l1 c11) cs5]) rfl hle rfl (zM rfl) ⟨_,_,_,rfl,rfl,h17⟩
   intro imm02 le2
   refine zG ?_
   rintro _ _ ⟨p11,c11,cs5,rfl,rfl,h17⟩
   refine zN<|yG [(0,vS p nest c),(3,vS p1 out c1),(4,vI i),(5,vP b1 0),(6,vI k0),(46,vS p11 l1 c11)] ?_
   have h:=h.mono le2
   have h2:=RepL.mono (fun _ _=>Rp.mono le2) h2
   have h11:=h11.mono le2
   have h5:=RepL.mono (fun _ _=>Rp.mono le2) h5
   have hle:=hle.trans le2
   exact yK 12 [] [(47,vP b1 0)]<|xI 2 [vS p11 l1 c11,.slice none 0 0] [hO zA (vS p11 l1 c11) cs5,hB b2 (cAff x2 p9 c9),hB b1 [vS p11 l1 c11,.slice none 0 0],hO τ (vS p1 out c1) cs] rfl rfl rfl rfl<|yN rfl<|zX<|zE<|zB<|zY [] [(6,vI (W (k0 + 1)))]<|xF<|qU (zK [0,2,3] rfl (by decide))<|vX [(0,vS p nest c),(3,vS p1 out c1),(4,vI i),(5,vP b1 0),(6,vI (W (k0 + 1)))]<|ih (W (k0 + 1)) l1 _ hM hle h h2 h17 hg ho hx
 intro hc1 hM
 exact xA<|zT<|zT<|yU [(0,vS p nest c),(3,vS p1 out c1),(4,vI i),(5,vP b1 0)]<|hx _ _ _ _ _ (zD hM).symm hle h5
def uX (nest:(List zJ)) (i:Int) (k05:Int) (Hi:List zA):Option (List zA):=do
 let x3←idx nest i
 if (decide (k05 < (x3.Hi.length:Int))) then
  let x4←idx nest i
  let x5←idx x4.Hi k05
  let l2←app 8 ([]:List Int) x5.Coefs
  let l3←app 32 Hi ([(zA.mk l2 x5.Const)]:List zA)
  uX nest i (W (k05 + 1)) l3
 else
  pure (id Hi)
 partial_fixpoint
theorem gE (nest:(List zJ)) (i:Int):∀ (k05:Int) (Hi:List zA) (o:List zA),uX nest i k05 Hi=some o→∀ {B}{imm0 imm:Imm}{Q}{τ:Type} [Rp τ] {out:List τ}{Lo1:List zA}{p c p1 c1 cs}{b1:Nat}{p4 c4 cs3 p12 c12 cs6},imm0.le imm→(S4 imm p nest c)→(RL imm cs out)→(RL imm cs3 Lo1)→(RL imm cs6 Hi)→(∀ l a w,¬Q (.goto l) a w)→(∀ a w,¬Q .outgrown a w)→(∀ (imm':Imm) (Hi1:List zA) (p13:Option Addr) (c13:Nat) (cs7:List Value),o=Hi1→imm0.le imm'→(RL imm' cs7 Hi1)→T 83 B Q (.exit 4) imm' [hO zA (vS p13 Hi1 c13) cs7,hO zA (vS p4 Lo1 c4) cs3,hB b1 [vS p4 Lo1 c4,vS p13 Hi1 c13],hO τ (vS p1 out c1) cs] [(0,vS p nest c),(3,vS p1 out c1),(4,vI i),(5,vP b1 0)])→J Tryz.prog 83 B (nav (bodyOf Tryz.f167) [1,1,0,1,0,0,1,0,0,1,1,0,1,0]) Q imm [hO zA (vS p12 Hi c12) cs6,hO zA (vS p4 Lo1 c4) cs3,hB b1 [vS p4 Lo1 c4,vS p12 Hi c12],hO τ (vS p1 out c1) cs] [(0,vS p nest c),(3,vS p1 out c1),(4,vI i),(5,vP b1 0),(8,vI k05)]:=by
 refine uX.partial_correctness nest i _ ?_
 intro self ih k05 Hi o hM B imm0 imm Q τ _ out Lo1 p c p1 c1 cs b1 p4 c4 cs3 p12 c12 cs6 hle h h2 h6 h19 hg ho hx
 refine xE hg ho<|zF<|zF<|zB<|yK 3 [] [(48,vI k05),(49,vS p nest c),(50,vI i)] ?_
 obtain ⟨x3,hy5,hM⟩:=zC hM
 refine wJ rfl rfl h hy5 ?_
 intro ad3 ccs5 hat3 hrep3
 obtain ⟨v05,v06,rfl,h21,h22⟩:=uE hrep3
 obtain ⟨p14,c14,rfl⟩:=h21.form
 obtain ⟨p15,c15,rfl⟩:=h22.form
 refine yK 5 [] [(52,.pointer (some (ad3.add 1)))]<|xW 1 hat3 [vS p15 x3.Hi c15] (vS p15 x3.Hi c15) rfl<|zY [] [(55,.bool (decide (k05 < (x3.Hi.length:Int))))]<|zE<|yO hM ?_ ?_
 · intro hc2 hM
   refine yD<|zE<|zF<|yB<|zF<|zB<|yK 2 [] [(58,vS p nest c),(59,vI i)] ?_
   obtain ⟨x4,hy6,hM⟩:=zC hM
   refine wJ rfl rfl h hy6 ?_
   intro ad4 ccs6 hat4 hrep4
   obtain ⟨v07,v08,rfl,h23,h24⟩:=uE hrep4
   obtain ⟨p16,c16,rfl⟩:=h23.form
   obtain ⟨p17,c17,rfl⟩:=h24.form
   refine yK 4 [] [(61,.pointer (some (ad4.add 1)))]<|xW 1 hat4 [vS p17 x4.Hi c17] (vS p17 x4.Hi c17) rfl<|yK 6 [] [(63,vI k05)] ?_
   obtain ⟨x5,hy7,hM⟩:=zC hM
   refine wJ rfl rfl h24 hy7 ?_
   intro ad5 ccs7 hat5 hrep5
   obtain ⟨v09,rfl,h25⟩:=yM hrep5
   obtain ⟨p18,c18,rfl⟩:=h25.form
   refine xW 0 hat5 (cAff x5 p18 c18) (vA (cAff x5 p18 c18)) rfl<|vV [.slice none 0 0,vI 0] ?_
   intro b5 hb5
   refine xI 0 (cAff x5 p18 c18) [hB b5 (cAff x5 p18 c18),hO zA (vS p12 Hi c12) cs6,hO zA (vS p4 Lo1 c4) cs3,hB b1 [vS p4 Lo1 c4,vS p12 Hi c12],hO τ (vS p1 out c1) cs] rfl rfl rfl rfl<|yN rfl<|zE ?_
   obtain ⟨l2,hy8,hM⟩:=zC hM
   obtain ⟨l3,hy9,hM⟩:=zC hM
   refine uD [.p (vP b1 1) [],.p (vS p12 Hi c12) [2],.x (fun imm' v hx=>∃ b6,v=vS (some ⟨b6,0,none⟩) ([]:List Int) 0∧hx=[hO Int (vS (some ⟨b6,0,none⟩) ([]:List Int) 0) []]∧(RL imm' [] ([]:List Int))),.p (vP b5 0) [],.p (vS p18 x5.Coefs c18) [0],.x (fun imm' v hx=>∃ p19 c19 cs8,v=vS p19 l2 c19∧hx=[hO Int (vS p19 l2 c19) cs8]∧(RL imm' cs8 l2)),.p (vP b5 1) [],.p (vI x5.Const) [0],.x (fun imm' v hx=>∃ p191 c191 cs81,v=vA [vS p191 l2 c191,vI x5.Const]∧hx=[hO Int (vS p191 l2 c191) cs81]∧(RL imm' cs81 l2)),.x (fun imm' v hx=>∃ b7,v=vS (some ⟨b7,0,none⟩) ([(zA.mk l2 x5.Const)]:List zA) 1∧hx=[]∧(SL imm' (vS (some ⟨b7,0,none⟩) ([(zA.mk l2 x5.Const)]:List zA) 1) ([(zA.mk l2 x5.Const)]:List zA))),.x (fun imm' v hx=>∃ p20 c20 cs9,v=vS p20 l3 c20∧hx=[hO zA (vS p20 l3 c20) cs9]∧(RL imm' cs9 l3))] [[],[(0,false)],[],[],[(3,false)],[(2,true),(4,false)],[],[(6,false)],[(5,true),(7,false)],[(8,true)],[(1,false),(9,false),(13,true)]] [hB b5 (cAff x5 p18 c18),hO zA (vS p4 Lo1 c4) cs3,hB b1 [vS p4 Lo1 c4,vS p12 Hi c12],hO τ (vS p1 out c1) cs] [[hO zA (vS p12 Hi c12) cs6]] [(10,true)] (zK [0,2,3,4,1] rfl (by decide)) ?_ ?_
   · refine Op<|Op<|Ox ?_<|Op<|Op<|Ox ?_<|Op<|Op<|Ox ?_<|Ox ?_<|Ox ?_<|On
     · intro imm1 hf le1
       refine zN<|yG [] ?_
       have hle:=Imm.le.refl imm1
       refine xV [] Int ?_
       intro b6 hb6
       have h26:RL imm1 [] ([]:List Int):=rfl
       exact zZ (hx:=[hO Int (vS (some ⟨b6,0,none⟩) ([]:List Int) 0) []]) rfl hle rfl (zM rfl) ⟨_,rfl,rfl,h26⟩
     · intro imm1 hf le1
       refine zG ?_
       rintro _ _ ⟨b6,rfl,rfl,h26⟩
       refine zG ?_
       rintro _ _ ⟨rfl,rfl⟩
       refine zN<|yG [(68,vS (some ⟨b6,0,none⟩) ([]:List Int) 0),(70,vS p18 x5.Coefs c18)] ?_
       have hle:=Imm.le.refl imm1
       have h25:=h25.mono le1
       obtain ⟨ccs8,k06,k07⟩:=h25
       have h25:SL imm1 (vS p18 x5.Coefs c18) x5.Coefs:=⟨_,k06,k07⟩
       refine pC 3 1 0 rfl rfl rfl h26 (.inl k06) k07 hy8 ?_
       intro p19 c19 cs8 h27
       exact vW (hs':=(hO Int (vS p19 l2 c19) cs8::hB b5 (cAff x5 p18 c18)::hO zA (vS p4 Lo1 c4) cs3::hB b1 [vS p4 Lo1 c4,vS p12 Hi c12]::hO τ (vS p1 out c1) cs::hf)) rfl<|zZ (hx:=[hO Int (vS p19 l2 c19) cs8]) rfl hle rfl (zM rfl) ⟨_,_,_,rfl,rfl,h27⟩
     · intro imm1 hf le1
       refine zG ?_
       rintro _ _ ⟨p19,c19,cs8,rfl,rfl,h27⟩
       refine zG ?_
       rintro _ _ ⟨rfl,rfl⟩
       refine zN<|yG [(71,vS p19 l2 c19),(73,vI x5.Const)] ?_
       have hle:=Imm.le.refl imm1
       exact qX 9 [(74,vA [vS p19 l2 c19,vI x5.Const])]<|zZ (hx:=[hO Int (vS p19 l2 c19) cs8]) rfl hle rfl (zM rfl) ⟨_,_,_,rfl,rfl,h27⟩
     · intro imm1 hf le1
       refine zG ?_
       rintro _ _ ⟨p191,c191,cs81,rfl,rfl,h271⟩
       refine zN<|yG [(74,vA [vS p191 l2 c191,vI x5.Const])] ?_
       have hle:=Imm.le.refl imm1
       have h2:=RepL.mono (fun _ _=>Rp.mono le1) h2
       have h25:=h25.mono le1
       have h19:=RepL.mono (fun _ _=>Rp.mono le1) h19
       have h6:=RepL.mono (fun _ _=>Rp.mono le1) h6
       refine yL 0 rfl ?_
       intro imm04 le4 hl02
       have h28:=SL.of_frozen hl02 le4 h271
       have h25:=h25.mono le4
       have h6:=RepL.mono (fun _ _=>Rp.mono le4) h6
       have h19:=RepL.mono (fun _ _=>Rp.mono le4) h19
       have h2:=RepL.mono (fun _ _=>Rp.mono le4) h2
       have hle:=hle.trans le4
       refine xV [vS p191 l2 c191,vI x5.Const] zA ?_
       intro b7 hb7
       have h29:RL imm04 [vS p191 l2 c191,vI x5.Const] ([(zA.mk l2 x5.Const)]:List zA):=⟨[vS p191 l2 c191,vI x5.Const],_,rfl,rfl,(yR ⟨_,rfl,h28⟩),rfl⟩
       refine yL 0 rfl ?_
       intro imm05 le5 hl03
       have h30:=SL.of_frozen hl03 le5 h29
       have h28:=h28.mono le5
       have h25:=h25.mono le5
       have h6:=RepL.mono (fun _ _=>Rp.mono le5) h6
       have h19:=RepL.mono (fun _ _=>Rp.mono le5) h19
       have h2:=RepL.mono (fun _ _=>Rp.mono le5) h2
       have hle:=hle.trans le5
       exact zZ (hx:=[]) rfl hle rfl (zM rfl) ⟨_,rfl,rfl,h30⟩
     intro imm1 hf le1
     refine zG ?_
     rintro _ _ ⟨rfl,rfl⟩
     refine zG ?_
     rintro _ _ ⟨b7,rfl,rfl,h30⟩
     refine zG ?_
     rintro _ _ rfl
     refine zN<|yG [(67,vS p12 Hi c12),(75,vS (some ⟨b7,0,none⟩) ([(zA.mk l2 x5.Const)]:List zA) 1)] ?_
     have hle:=Imm.le.refl imm1
     have h19:=RepL.mono (fun _ _=>Rp.mono le1) h19
     obtain ⟨ccs9,k08,k09⟩:=h30
     have h30:SL imm1 (vS (some ⟨b7,0,none⟩) ([(zA.mk l2 x5.Const)]:List zA) 1) ([(zA.mk l2 x5.Const)]:List zA):=⟨_,k08,k09⟩
     refine pC 45 2 0 rfl rfl rfl h19 (.inl k08) k09 hy9 ?_
     intro p20 c20 cs9 h31
     exact vW (hs':=(hO zA (vS p20 l3 c20) cs9::hB b5 (cAff x5 p18 c18)::hO zA (vS p4 Lo1 c4) cs3::hB b1 [vS p4 Lo1 c4,vS p12 Hi c12]::hO τ (vS p1 out c1) cs::hf)) rfl<|zZ (hx:=[hO zA (vS p20 l3 c20) cs9]) rfl hle rfl (zM rfl) ⟨_,_,_,rfl,rfl,h31⟩
   intro imm06 le6
   refine zG ?_
   rintro _ _ ⟨p20,c20,cs9,rfl,rfl,h31⟩
   refine zN<|yG [(0,vS p nest c),(3,vS p1 out c1),(4,vI i),(5,vP b1 0),(8,vI k05),(76,vS p20 l3 c20)] ?_
   have h:=h.mono le6
   have h2:=RepL.mono (fun _ _=>Rp.mono le6) h2
   have h25:=h25.mono le6
   have h6:=RepL.mono (fun _ _=>Rp.mono le6) h6
   have h19:=RepL.mono (fun _ _=>Rp.mono le6) h19
   have hle:=hle.trans le6
   exact yK 12 [] [(77,vP b1 1)]<|xI 3 [vS p4 Lo1 c4,vS p20 l3 c20] [hO zA (vS p20 l3 c20) cs9,hB b5 (cAff x5 p18 c18),hO zA (vS p4 Lo1 c4) cs3,hB b1 [vS p4 Lo1 c4,vS p20 l3 c20],hO τ (vS p1 out c1) cs] rfl rfl rfl rfl<|yN rfl<|zX<|zE<|zB<|zY [] [(8,vI (W (k05 + 1)))]<|xF<|qU (zK [0,2,3,4] rfl (by decide))<|vX [(0,vS p nest c),(3,vS p1 out c1),(4,vI i),(5,vP b1 0),(8,vI (W (k05 + 1)))]<|ih (W (k05 + 1)) l3 _ hM hle h h2 h6 h31 hg ho hx
 intro hc2 hM
 exact xA<|zT<|zT<|yU [(0,vS p nest c),(3,vS p1 out c1),(4,vI i),(5,vP b1 0)]<|hx _ _ _ _ _ (zD hM).symm hle h19
def wZ (nest:(List zJ)) (out:List zJ) (i:Int):Option (List zJ):=do
 if (decide (i < (nest.length:Int))) then
  let Lo1←uW nest i 0 ([]:List zA)
  let Hi1←uX nest i 0 ([]:List zA)
  let out2←app 48 out ([(zJ.mk Lo1 Hi1)]:List zJ)
  wZ nest out2 (W (i + 1))
 else
  pure (id out)
 partial_fixpoint
theorem zBU (nest:(List zJ)):∀ (out:List zJ) (i:Int) (o:List zJ),wZ nest out i=some o→∀ {B}{imm0 imm:Imm}{Q p c p1 c1 cs},imm0.le imm→(S4 imm p nest c)→(RL imm cs out)→(∀ l a w,¬Q (.goto l) a w)→(∀ a w,¬Q .outgrown a w)→(∀ (imm':Imm) (out1:List zJ) (p2:Option Addr) (c2:Nat) (cs1:List Value),o=out1→imm0.le imm'→(RL imm' cs1 out1)→T 83 B Q (.exit 0) imm' [hO zJ (vS p2 out1 c2) cs1] [(3,vS p2 out1 c2)])→J Tryz.prog 83 B (nav (bodyOf Tryz.f167) [1,1,0,1,0]) Q imm [hO zJ (vS p1 out c1) cs] [(0,vS p nest c),(3,vS p1 out c1),(4,vI i)]:=by
 refine wZ.partial_correctness nest _ ?_
 intro self ih out i o hM B imm0 imm Q p c p1 c1 cs hle h h2 hg ho hx
 refine xE hg ho<|zF<|zF<|zB<|zY [] [(14,.bool (decide (i < (nest.length:Int))))]<|zE<|yO hM ?_ ?_
 · intro hc hM
   refine yD<|zE<|zF<|yB<|zF<|zB<|yK 1 [] [(17,vA zTwo)]<|vV zTwo ?_
   intro b1 hb1
   refine xI 0 zTwo [hB b1 zTwo,hO zJ (vS p1 out c1) cs] rfl rfl rfl rfl<|yN rfl<|zE<|zF<|zF<|zB<|zY [] [(6,vI 0)]<|zE<|yB<|vX [(0,vS p nest c),(3,vS p1 out c1),(4,vI i),(5,vP b1 0),(6,vI 0)]<|qU (tF (Rp.sz zA)) ?_
   have h4:RL imm [] ([]:List zA):=RepL.nil
   obtain ⟨o0,ho0,hMl⟩:=zC hM
   refine gD nest i 0 ([]:List zA) o0 ho0 (Imm.le.refl _) h h2 h4 (fun _ _ _ h=>hg _ _ _ h) (fun _ _ h=>ho _ _ h) ?_
   intro imm03 Lo1 p4 c4 cs3 heq le3 h6
   subst o0
   have h:=h.mono le3
   have h2:=RepL.mono (fun _ _=>Rp.mono le3) h2
   have hle:=hle.trans le3
   refine yC<|zE<|zF<|zF<|zB<|zY [] [(8,vI 0)]<|zE<|yB<|vX [(0,vS p nest c),(3,vS p1 out c1),(4,vI i),(5,vP b1 0),(8,vI 0)]<|qU (tF (Rp.sz zA)) ?_
   have h18:RL imm03 [] ([]:List zA):=RepL.nil
   obtain ⟨o01,ho01,hMl1⟩:=zC hMl
   refine gE nest i 0 ([]:List zA) o01 ho01 (Imm.le.refl _) h h2 h6 h18 (fun _ _ _ h=>hg _ _ _ h) (fun _ _ h=>ho _ _ h) ?_
   intro imm07 Hi1 p13 c13 cs7 heq1 le7 h20
   subst o01
   have h:=h.mono le7
   have h2:=RepL.mono (fun _ _=>Rp.mono le7) h2
   have h6:=RepL.mono (fun _ _=>Rp.mono le7) h6
   have hle:=hle.trans le7
   refine yC<|zE<|zB<|yK 2 [2] [(78,vS p1 out c1),(79,vA [vS p4 Lo1 c4,vS p13 Hi1 c13])]<|yL 1 rfl ?_
   intro imm08 le8 hl04
   have h32:=SL.of_frozen hl04 le8 h6
   have h:=h.mono le8
   have h2:=RepL.mono (fun _ _=>Rp.mono le8) h2
   have h20:=RepL.mono (fun _ _=>Rp.mono le8) h20
   have hle:=hle.trans le8
   refine yL 0 rfl ?_
   intro imm09 le9 hl05
   have h33:=SL.of_frozen hl05 le9 h20
   have h:=h.mono le9
   have h2:=RepL.mono (fun _ _=>Rp.mono le9) h2
   have h32:=h32.mono le9
   have hle:=hle.trans le9
   refine xV [vS p4 Lo1 c4,vS p13 Hi1 c13] zJ ?_
   intro b8 hb8
   have h34:RL imm09 [vS p4 Lo1 c4,vS p13 Hi1 c13] ([(zJ.mk Lo1 Hi1)]:List zJ):=⟨[vS p4 Lo1 c4,vS p13 Hi1 c13],_,rfl,rfl,(pD ⟨_,_,rfl,h32,h33⟩),rfl⟩
   obtain ⟨out2,hy10,hM⟩:=zC hMl1
   refine pC 113 2 2 rfl rfl rfl h2 (.inr ⟨0,rfl⟩) h34 hy10 ?_
   intro p21 c21 cs10 h35
   exact qO (zK [1,2] (hs':=[hB b1 [vS p4 Lo1 c4,vS p13 Hi1 c13],hO zJ (vS p21 out2 c21) cs10]) rfl (by decide))<|zY [] [(3,vS p21 out2 c21)]<|zX<|zE<|zB<|zY [] [(4,vI (W (i + 1)))]<|xF<|qU (zK [1] rfl (by decide))<|vX [(0,vS p nest c),(3,vS p21 out2 c21),(4,vI (W (i + 1)))]<|ih out2 (W (i + 1)) _ hM hle h h35 hg ho hx
 intro hc hM
 exact xA<|zT<|zT<|yU [(3,vS p1 out c1)]<|hx _ _ _ _ _ (zD hM).symm hle h2
def qQ (nest:(List zJ)):Option ((List zJ)):=do
 let out1←wZ nest ([]:List zJ) 0
 pure (id out1)
theorem dO:∀ (nest:(List zJ)) r,qQ nest=some r→∀ {imm:Imm}{p c},(S4 imm p nest c)→Ret Tryz.prog 167 [vS p nest c] imm [] (zCN  r):=by
 intro nest r hM imm p c h
 unfold qQ at hM
 refine yF (fn:=Tryz.f167) (c:=(bodyOf Tryz.f167)) Tryz.func167 rfl rfl ?_
 rintro B - -
 have hle:imm.le imm:=Imm.le.refl _
 refine zF<|zB<|zY [] []<|zE<|zF<|zB<|xV [] zJ ?_
 intro b hb
 have h1:RL imm [] ([]:List zJ):=rfl
 refine zY [] [(3,vS (some ⟨b,0,none⟩) ([]:List zJ) 0)]<|zE<|zF<|zF<|zB<|zY [] [(4,vI 0)]<|zE<|yB<|vX [(0,vS p nest c),(3,vS (some ⟨b,0,none⟩) ([]:List zJ) 0),(4,vI 0)] ?_
 obtain ⟨o02,ho02,hMl2⟩:=zC hM
 refine zBU nest ([]:List zJ) 0 o02 ho02 (Imm.le.refl _) h h1 (fun _ _ _ h=>h) (fun _ _ h=>h) ?_
 intro imm010 out1 p2 c2 cs1 heq2 le10 h3
 subst o02
 have hle:=hle.trans le10
 refine yC<|zE<|zF<|zB<|zY [] [(2,vS p2 out1 c2)]<|zE<|yI<|xL 0 rfl ?_
 intro imm011 le11 hl06
 have h36:=SL.of_frozen hl06 le11 h3
 have hle:=hle.trans le11
 obtain rfl:=zD hMl2
 exact yP ⟨_,_,(.tmp rfl ResV.nil),zW,⟨_,rfl,rfl,h36⟩⟩
def zCO (r:zV):Nat→Imm→List HA→Value→Prop:=fun kk imm' hs' v =>
  ∃ a0_0 c0_0 s0_0 a0_1 c0_1 s0_1,hs'=[.osl (.slice a0_0 r.Arrays.length c0_0) (Rp.sz zH) s0_0,.osl (.slice a0_1 r.Parts.length c0_1) (Rp.sz zP) s0_1]∧v=tupV [(.agg ⟨[.slice a0_0 r.Arrays.length c0_0,.slice a0_1 r.Parts.length c0_1]⟩)]∧RepL (Rp.rep imm') (Rp.sz zH) s0_0 r.Arrays∧RepL (Rp.rep imm') (Rp.sz zP) s0_1 r.Parts
def uY (p:zV) (i:Int) (Arrays:List zH):Option (List zH):=do
 if (decide (i < (p.Arrays.length:Int))) then
  let x←idx p.Arrays i
  let x1←idx p.Arrays i
  let l←app 8 ([]:List Int) x1.Dims
  let l1←app 40 Arrays ([(zH.mk x.Name l)]:List zH)
  uY p (W (i + 1)) l1
 else
  pure (id Arrays)
 partial_fixpoint
theorem gF (p:zV):∀ (i:Int) (Arrays:List zH) (o:List zH),uY p i Arrays=some o→∀ {B}{imm0 imm:Imm}{Q p1 c p2 c1}{b:Nat}{b1:Nat}{b2:Nat}{p3 c2 cs},imm0.le imm→(S4 imm p1 p.Arrays c)→(S4 imm p2 p.Parts c1)→(RL imm cs Arrays)→(∀ l a w,¬Q (.goto l) a w)→(∀ a w,¬Q .outgrown a w)→(∀ (imm':Imm) (Arrays1:List zH) (p4:Option Addr) (c3:Nat) (cs1:List Value),o=Arrays1→imm0.le imm'→(RL imm' cs1 Arrays1)→T 84 B Q (.exit 0) imm' [hO zH (vS p4 Arrays1 c3) cs1,hB b2 [vS p4 Arrays1 c3,.slice none 0 0],hB b1 zTwo,hB b (cProg p p1 c p2 c1)] [(1,vP b 0),(2,vP b1 0),(3,vP b2 0)])→J Tryz.prog 84 B (nav (bodyOf Tryz.f123) [1,1,0,1,0]) Q imm [hO zH (vS p3 Arrays c2) cs,hB b2 [vS p3 Arrays c2,.slice none 0 0],hB b1 zTwo,hB b (cProg p p1 c p2 c1)] [(1,vP b 0),(2,vP b1 0),(3,vP b2 0),(4,vI i)]:=by
 refine uY.partial_correctness p _ ?_
 intro self ih i Arrays o hM B imm0 imm Q p1 c p2 c1 b b1 b2 p3 c2 cs hle h h1 h3 hg ho hx
 refine xE hg ho<|zF<|zF<|zB<|zY [3] [(13,.bool (decide (i < (p.Arrays.length:Int))))]<|zE<|yO hM ?_ ?_
 · intro hc hM
   refine yD<|zE<|zF<|yB ?_
   obtain ⟨x,hy,hM⟩:=zC hM
   obtain ⟨x1,hy1,hM⟩:=zC hM
   obtain ⟨l,hy2,hM⟩:=zC hM
   obtain ⟨l1,hy3,hM⟩:=zC hM
   refine uD [.p (vP b2 0) [],.p (vS p3 Arrays c2) [0],.p (vP b 0) [],.p (vS p1 p.Arrays c) [2],.p (vI i) [],.x (fun imm' v hx=>∃ ad p5 c4,v=.pointer (some ad)∧hx=[]∧(At imm' ad (cArr x p5 c4))∧(S4 imm' p5 x.Dims c4)),.x (fun imm' v hx=>∃ ad1 p51 c41,v=.pointer (some ad1)∧hx=[]∧(At imm' ad1 (cArr x p51 c41))∧(S4 imm' p51 x.Dims c41)),.q (vT x.Name.l),.x (fun imm' v hx=>∃ b3,v=vS (some ⟨b3,0,none⟩) ([]:List Int) 0∧hx=[hO Int (vS (some ⟨b3,0,none⟩) ([]:List Int) 0) []]∧(RL imm' [] ([]:List Int))),.p (vP b 0) [],.p (vS p1 p.Arrays c) [2],.p (vI i) [],.x (fun imm' v hx=>∃ ad2 p6 c5,v=.pointer (some ad2)∧hx=[]∧(At imm' ad2 (cArr x1 p6 c5))∧(S4 imm' p6 x1.Dims c5)),.x (fun imm' v hx=>∃ ad21 p61 c51,v=.pointer (some (ad21.add 1))∧hx=[]∧(At imm' ad21 (cArr x1 p61 c51))∧(S4 imm' p61 x1.Dims c51)),.x (fun imm' v hx=>∃ p611 c511,v=vS p611 x1.Dims c511∧hx=[]∧(S4 imm' p611 x1.Dims c511)),.x (fun imm' v hx=>∃ p7 c6 cs2,v=vS p7 l c6∧hx=[hO Int (vS p7 l c6) cs2]∧(RL imm' cs2 l)),.x (fun imm' v hx=>∃ p71 c61 cs21,v=vA [vT x.Name.l,vS p71 l c61]∧hx=[hO Int (vS p71 l c61) cs21]∧(RL imm' cs21 l)),.x (fun imm' v hx=>∃ b4,v=vS (some ⟨b4,0,none⟩) ([(zH.mk x.Name l)]:List zH) 1∧hx=[]∧(SL imm' (vS (some ⟨b4,0,none⟩) ([(zH.mk x.Name l)]:List zH) 1) ([(zH.mk x.Name l)]:List zH))),.x (fun imm' v hx=>∃ p8 c7 cs3,v=vS p8 l1 c7∧hx=[hO zH (vS p8 l1 c7) cs3]∧(RL imm' cs3 l1))] [[],[(0,false)],[],[(2,false)],[],[(3,false),(4,false)],[(5,false)],[(6,false)],[],[],[(9,false)],[],[(10,false),(11,false)],[(12,false)],[(13,false)],[(8,true),(14,false)],[(7,false),(15,true)],[(16,true)],[(1,false),(17,false),(21,true)]] [hB b2 [vS p3 Arrays c2,.slice none 0 0],hB b1 zTwo,hB b (cProg p p1 c p2 c1)] [[hO zH (vS p3 Arrays c2) cs]] [(18,true)] (zK [1,2,3,0] rfl (by decide)) ?_ ?_
   · refine Op<|Op<|Op<|Op<|Op<|Ox ?_<|Ox ?_<|Oq ?_<|Ox ?_<|Op<|Op<|Op<|Ox ?_<|Ox ?_<|Ox ?_<|Ox ?_<|Ox ?_<|Ox ?_<|Ox ?_<|On
     · intro imm1 hf le1
       refine zG ?_
       rintro _ _ ⟨rfl,rfl⟩
       refine zG ?_
       rintro _ _ ⟨rfl,rfl⟩
       refine zN<|yG [(19,vS p1 p.Arrays c),(20,vI i)] ?_
       have hle:=Imm.le.refl imm1
       have h:=h.mono le1
       refine wJ rfl rfl h hy ?_
       intro ad ccs hat hrep
       obtain ⟨v0,rfl,h5⟩:=xN hrep
       obtain ⟨p5,c4,rfl⟩:=h5.form
       exact zZ (hx:=[]) rfl hle rfl (zM rfl) ⟨_,_,_,rfl,rfl,hat,h5⟩
     · intro imm1 hf le1
       refine zG ?_
       rintro _ _ ⟨ad,p5,c4,rfl,rfl,hat,h5⟩
       refine zN<|yG [(21,.pointer (some ad))] ?_
       have hle:=Imm.le.refl imm1
       exact qX 7 [(22,.pointer (some ad))]<|zZ (hx:=[]) rfl hle rfl (zM rfl) ⟨_,_,_,rfl,rfl,hat,h5⟩
     · intro imm1 hf le1
       refine zG ?_
       rintro _ _ ⟨ad1,p51,c41,rfl,rfl,hat1,h51⟩
       refine zN<|yG [(22,.pointer (some ad1))] ?_
       have hle:=Imm.le.refl imm1
       exact xW 0 hat1 [vT x.Name.l] (vT x.Name.l) rfl<|zZ (hx:=[]) rfl hle rfl (zM rfl) ⟨rfl,rfl⟩
     · intro imm1 hf le1
       refine zN<|yG [] ?_
       have hle:=Imm.le.refl imm1
       refine xV [] Int ?_
       intro b3 hb3
       have h6:RL imm1 [] ([]:List Int):=rfl
       exact zZ (hx:=[hO Int (vS (some ⟨b3,0,none⟩) ([]:List Int) 0) []]) rfl hle rfl (zM rfl) ⟨_,rfl,rfl,h6⟩
     · intro imm1 hf le1
       refine zG ?_
       rintro _ _ ⟨rfl,rfl⟩
       refine zG ?_
       rintro _ _ ⟨rfl,rfl⟩
       refine zN<|yG [(26,vS p1 p.Arrays c),(27,vI i)] ?_
       have hle:=Imm.le.refl imm1
       have h:=h.mono le1
       refine wJ rfl rfl h hy1 ?_
       intro ad2 ccs1 hat2 hrep1
       obtain ⟨v01,rfl,h7⟩:=xN hrep1
       obtain ⟨p6,c5,rfl⟩:=h7.form
       exact zZ (hx:=[]) rfl hle rfl (zM rfl) ⟨_,_,_,rfl,rfl,hat2,h7⟩
     · intro imm1 hf le1
       refine zG ?_
       rintro _ _ ⟨ad2,p6,c5,rfl,rfl,hat2,h7⟩
       refine zN<|yG [(28,.pointer (some ad2))] ?_
       have hle:=Imm.le.refl imm1
       exact qX 14 [(29,.pointer (some (ad2.add 1)))]<|zZ (hx:=[]) rfl hle rfl (zM rfl) ⟨_,_,_,rfl,rfl,hat2,h7⟩
     · intro imm1 hf le1
       refine zG ?_
       rintro _ _ ⟨ad21,p61,c51,rfl,rfl,hat21,h71⟩
       refine zN<|yG [(29,.pointer (some (ad21.add 1)))] ?_
       have hle:=Imm.le.refl imm1
       exact xW 1 hat21 [vS p61 x1.Dims c51] (vS p61 x1.Dims c51) rfl<|zZ (hx:=[]) rfl hle rfl (zM rfl) ⟨_,_,rfl,rfl,h71⟩
     · intro imm1 hf le1
       refine zG ?_
       rintro _ _ ⟨b3,rfl,rfl,h6⟩
       refine zG ?_
       rintro _ _ ⟨p611,c511,rfl,rfl,h711⟩
       refine zN<|yG [(24,vS (some ⟨b3,0,none⟩) ([]:List Int) 0),(30,vS p611 x1.Dims c511)] ?_
       have hle:=Imm.le.refl imm1
       obtain ⟨ccs2,k0,k01⟩:=h711
       have h711:SL imm1 (vS p611 x1.Dims c511) x1.Dims:=⟨_,k0,k01⟩
       refine pC 3 1 0 rfl rfl rfl h6 (.inl k0) k01 hy2 ?_
       intro p7 c6 cs2 h8
       exact vW (hs':=(hO Int (vS p7 l c6) cs2::hB b2 [vS p3 Arrays c2,.slice none 0 0]::hB b1 zTwo::hB b (cProg p p1 c p2 c1)::hf)) rfl<|zZ (hx:=[hO Int (vS p7 l c6) cs2]) rfl hle rfl (zM rfl) ⟨_,_,_,rfl,rfl,h8⟩
     · intro imm1 hf le1
       refine zG ?_
       rintro _ _ ⟨rfl,rfl⟩
       refine zG ?_
       rintro _ _ ⟨p7,c6,cs2,rfl,rfl,h8⟩
       refine zN<|yG [(23,vT x.Name.l),(31,vS p7 l c6)] ?_
       have hle:=Imm.le.refl imm1
       exact qX 17 [(32,vA [vT x.Name.l,vS p7 l c6])]<|zZ (hx:=[hO Int (vS p7 l c6) cs2]) rfl hle rfl (zM rfl) ⟨_,_,_,rfl,rfl,h8⟩
     · intro imm1 hf le1
       refine zG ?_
       rintro _ _ ⟨p71,c61,cs21,rfl,rfl,h81⟩
       refine zN<|yG [(32,vA [vT x.Name.l,vS p71 l c61])] ?_
       have hle:=Imm.le.refl imm1
       have h3:=RepL.mono (fun _ _=>Rp.mono le1) h3
       have h:=h.mono le1
       have h1:=h1.mono le1
       refine yL 0 rfl ?_
       intro imm0 le hl0
       have h9:=SL.of_frozen hl0 le h81
       have h3:=RepL.mono (fun _ _=>Rp.mono le) h3
       have h:=h.mono le
       have h1:=h1.mono le
       have hle:=hle.trans le
       refine xV [vT x.Name.l,vS p71 l c61] zH ?_
       intro b4 hb4
       have h10:RL imm0 [vT x.Name.l,vS p71 l c61] ([(zH.mk x.Name l)]:List zH):=⟨[vT x.Name.l,vS p71 l c61],_,rfl,rfl,(qE ⟨_,rfl,h9⟩),rfl⟩
       refine yL 0 rfl ?_
       intro imm01 le1 hl01
       have h11:=SL.of_frozen hl01 le1 h10
       have h9:=h9.mono le1
       have h3:=RepL.mono (fun _ _=>Rp.mono le1) h3
       have h:=h.mono le1
       have h1:=h1.mono le1
       have hle:=hle.trans le1
       exact zZ (hx:=[]) rfl hle rfl (zM rfl) ⟨_,rfl,rfl,h11⟩
     intro imm1 hf le1
     refine zG ?_
     rintro _ _ ⟨rfl,rfl⟩
     refine zG ?_
     rintro _ _ ⟨b4,rfl,rfl,h11⟩
     refine zG ?_
     rintro _ _ rfl
     refine zN<|yG [(17,vS p3 Arrays c2),(33,vS (some ⟨b4,0,none⟩) ([(zH.mk x.Name l)]:List zH) 1)] ?_
     have hle:=Imm.le.refl imm1
     have h3:=RepL.mono (fun _ _=>Rp.mono le1) h3
     obtain ⟨ccs3,k02,k03⟩:=h11
     have h11:SL imm1 (vS (some ⟨b4,0,none⟩) ([(zH.mk x.Name l)]:List zH) 1) ([(zH.mk x.Name l)]:List zH):=⟨_,k02,k03⟩
     refine pC 42 2 0 rfl rfl rfl h3 (.inl k02) k03 hy3 ?_
     intro p8 c7 cs3 h12
     exact vW (hs':=(hO zH (vS p8 l1 c7) cs3::hB b2 [vS p3 Arrays c2,.slice none 0 0]::hB b1 zTwo::hB b (cProg p p1 c p2 c1)::hf)) rfl<|zZ (hx:=[hO zH (vS p8 l1 c7) cs3]) rfl hle rfl (zM rfl) ⟨_,_,_,rfl,rfl,h12⟩
   intro imm02 le2
   refine zG ?_
   rintro _ _ ⟨p8,c7,cs3,rfl,rfl,h12⟩
   refine zN<|yG [(1,vP b 0),(2,vP b1 0),(3,vP b2 0),(4,vI i),(34,vS p8 l1 c7)] ?_
   have h3:=RepL.mono (fun _ _=>Rp.mono le2) h3
   have h:=h.mono le2
   have h1:=h1.mono le2
   have hle:=hle.trans le2
   exact yK 20 [] [(35,vP b2 0)]<|xI 1 [vS p8 l1 c7,.slice none 0 0] [hO zH (vS p8 l1 c7) cs3,hB b2 [vS p8 l1 c7,.slice none 0 0],hB b1 zTwo,hB b (cProg p p1 c p2 c1)] rfl rfl rfl rfl<|yN rfl<|zX<|zE<|zB<|zY [] [(4,vI (W (i + 1)))]<|xF<|vX [(1,vP b 0),(2,vP b1 0),(3,vP b2 0),(4,vI (W (i + 1)))]<|ih (W (i + 1)) l1 _ hM hle h h1 h12 hg ho hx
 intro hc hM
 exact xA<|zT<|zT<|yU [(1,vP b 0),(2,vP b1 0),(3,vP b2 0)]<|hx _ _ _ _ _ (zD hM).symm hle h3
def uZ (p:zV) (i1:Int) (k04:Int) (Body:List zR):Option (List zR):=do
 let x3←idx p.Parts i1
 if (decide (k04 < (x3.Body.length:Int))) then
  let x4←idx p.Parts i1
  let x5←idx x4.Body k04
  let y1←nA x5
  let l2←app 152 Body ([y1]:List zR)
  uZ p i1 (W (k04 + 1)) l2
 else
  pure (id Body)
 partial_fixpoint
theorem gG (p:zV) (i1:Int):∀ (k04:Int) (Body:List zR) (o:List zR),uZ p i1 k04 Body=some o→∀ {B}{imm0 imm:Imm}{Q}{Arrays1:List zH}{Parts:List zP}{y:(List zJ)}{p1 c p2 c1}{b:Nat}{b1:Nat}{b2:Nat}{p4 c3 cs1 p9 c8 cs4 p13 c12}{b5:Nat}{p14 c13 cs6},imm0.le imm→(S4 imm p13 y c12)→(RL imm cs4 Parts)→(RL imm cs1 Arrays1)→(S4 imm p1 p.Arrays c)→(S4 imm p2 p.Parts c1)→(RL imm cs6 Body)→(∀ l a w,¬Q (.goto l) a w)→(∀ a w,¬Q .outgrown a w)→(∀ (imm':Imm) (Body1:List zR) (p15:Option Addr) (c14:Nat) (cs7:List Value),o=Body1→imm0.le imm'→(RL imm' cs7 Body1)→T 84 B Q (.exit 4) imm' [hO zR (vS p15 Body1 c14) cs7,hB b5 [vS p13 y c12,vS p15 Body1 c14],hO zP (vS p9 Parts c8) cs4,hO zH (vS p4 Arrays1 c3) cs1,hB b2 [vS p4 Arrays1 c3,vS p9 Parts c8],hB b1 zTwo,hB b (cProg p p1 c p2 c1)] [(1,vP b 0),(2,vP b1 0),(3,vP b2 0),(5,vI i1),(6,vP b5 0)])→J Tryz.prog 84 B (nav (bodyOf Tryz.f123) [1,1,1,0,1,0,0,1,0,0,1,0,1,0]) Q imm [hO zR (vS p14 Body c13) cs6,hB b5 [vS p13 y c12,vS p14 Body c13],hO zP (vS p9 Parts c8) cs4,hO zH (vS p4 Arrays1 c3) cs1,hB b2 [vS p4 Arrays1 c3,vS p9 Parts c8],hB b1 zTwo,hB b (cProg p p1 c p2 c1)] [(1,vP b 0),(2,vP b1 0),(3,vP b2 0),(5,vI i1),(6,vP b5 0),(7,vI k04)]:=by
 refine uZ.partial_correctness p i1 _ ?_
 intro self ih k04 Body o hM B imm0 imm Q Arrays1 Parts y p1 c p2 c1 b b1 b2 p4 c3 cs1 p9 c8 cs4 p13 c12 b5 p14 c13 cs6 hle h18 h14 h4 h h1 h20 hg ho hx
 refine xE hg ho<|zF<|zF<|zB<|yK 4 [6] [(51,vI k04),(53,vS p2 p.Parts c1),(54,vI i1)] ?_
 obtain ⟨x3,hy6,hM⟩:=zC hM
 refine wJ rfl rfl h1 hy6 ?_
 intro ad4 ccs5 hat4 hrep3
 obtain ⟨v05,v06,rfl,h22,h23⟩:=uO hrep3
 obtain ⟨p16,c15,rfl⟩:=h22.form
 obtain ⟨p17,c16,rfl⟩:=h23.form
 refine yK 6 [] [(56,.pointer (some (ad4.add 1)))]<|xW 1 hat4 [vS p17 x3.Body c16] (vS p17 x3.Body c16) rfl<|zY [] [(59,.bool (decide (k04 < (x3.Body.length:Int))))]<|zE<|yO hM ?_ ?_
 · intro hc2 hM
   refine yD<|zE<|zF<|yB ?_
   obtain ⟨x4,hy7,hM⟩:=zC hM
   obtain ⟨x5,hy8,hM⟩:=zC hM
   obtain ⟨y1,hy9,hM⟩:=zC hM
   obtain ⟨l2,hy10,hM⟩:=zC hM
   refine uD [.p (vP b5 1) [],.p (vS p14 Body c13) [0],.p (vP b 1) [],.p (vS p2 p.Parts c1) [5],.p (vI i1) [],.x (fun imm' v hx=>∃ ad5 p18 c17 p19 c18,v=.pointer (some ad5)∧hx=[]∧(At imm' ad5 (cPart x4 p18 c17 p19 c18))∧(S4 imm' p18 x4.Nest c17)∧(S4 imm' p19 x4.Body c18)),.x (fun imm' v hx=>∃ ad51 p181 c171 p191 c181,v=.pointer (some (ad51.add 1))∧hx=[]∧(At imm' ad51 (cPart x4 p181 c171 p191 c181))∧(S4 imm' p181 x4.Nest c171)∧(S4 imm' p191 x4.Body c181)),.x (fun imm' v hx=>∃ p1911 c1811,v=vS p1911 x4.Body c1811∧hx=[]∧(S4 imm' p1911 x4.Body c1811)),.p (vI k04) [],.x (fun imm' v hx=>∃ ad6 p20 c19 p21 c20 p22 c21 p23 c22,v=.pointer (some ad6)∧hx=[]∧(At imm' ad6 (cStmt x5 p20 c19 p21 c20 p22 c21 p23 c22))∧(S4 imm' p20 x5.Write.Subs c19)∧(S4 imm' p21 x5.Value.Index.Coefs c20)∧(S4 imm' p22 x5.Value.Read.Subs c21)∧(S4 imm' p23 x5.Value.Kids c22)),.x (fun imm' v hx=>∃ p201 c191 p211 c201 p221 c211 p231 c221,v=vA (cStmt x5 p201 c191 p211 c201 p221 c211 p231 c221)∧hx=[]∧(S4 imm' p201 x5.Write.Subs c191)∧(S4 imm' p211 x5.Value.Index.Coefs c201)∧(S4 imm' p221 x5.Value.Read.Subs c211)∧(S4 imm' p231 x5.Value.Kids c221)),.x (fun imm' v hx=>∃ p24 c23 p25 c24 p26 c25 p27 c26 cs8 cs9,v=vA (cStmt y1 p24 c23 p25 c24 p26 c25 p27 c26)∧hx=[hO zA (vS p24 y1.Write.Subs c23) cs8,hO zI (vS p27 y1.Value.Kids c26) cs9]∧(RL imm' cs8 y1.Write.Subs)∧(S4 imm' p25 y1.Value.Index.Coefs c24)∧(S4 imm' p26 y1.Value.Read.Subs c25)∧(RL imm' cs9 y1.Value.Kids)),.x (fun imm' v hx=>∃ b6,v=vS (some ⟨b6,0,none⟩) ([y1]:List zR) 1∧hx=[]∧(SL imm' (vS (some ⟨b6,0,none⟩) ([y1]:List zR) 1) ([y1]:List zR))),.x (fun imm' v hx=>∃ p28 c27 cs10,v=vS p28 l2 c27∧hx=[hO zR (vS p28 l2 c27) cs10]∧(RL imm' cs10 l2))] [[],[(0,false)],[],[(2,false)],[],[(3,false),(4,false)],[(5,false)],[(6,false)],[],[(7,false),(8,false)],[(9,false)],[(10,false)],[(11,true)],[(1,false),(12,false),(16,true)]] [hB b5 [vS p13 y c12,vS p14 Body c13],hO zP (vS p9 Parts c8) cs4,hO zH (vS p4 Arrays1 c3) cs1,hB b2 [vS p4 Arrays1 c3,vS p9 Parts c8],hB b1 zTwo,hB b (cProg p p1 c p2 c1)] [[hO zR (vS p14 Body c13) cs6]] [(13,true)] (zK [1,2,3,4,5,6,0] rfl (by decide)) ?_ ?_
   · refine Op<|Op<|Op<|Op<|Op<|Ox ?_<|Ox ?_<|Ox ?_<|Op<|Ox ?_<|Ox ?_<|Ox ?_<|Ox ?_<|Ox ?_<|On
     · intro imm1 hf le1
       refine zG ?_
       rintro _ _ ⟨rfl,rfl⟩
       refine zG ?_
       rintro _ _ ⟨rfl,rfl⟩
       refine zN<|yG [(65,vS p2 p.Parts c1),(66,vI i1)] ?_
       have hle:=Imm.le.refl imm1
       have h1:=h1.mono le1
       refine wJ rfl rfl h1 hy7 ?_
       intro ad5 ccs6 hat5 hrep4
       obtain ⟨v07,v08,rfl,h24,h25⟩:=uO hrep4
       obtain ⟨p18,c17,rfl⟩:=h24.form
       obtain ⟨p19,c18,rfl⟩:=h25.form
       exact zZ (hx:=[]) rfl hle rfl (zM rfl) ⟨_,_,_,_,_,rfl,rfl,hat5,h24,h25⟩
     · intro imm1 hf le1
       refine zG ?_
       rintro _ _ ⟨ad5,p18,c17,p19,c18,rfl,rfl,hat5,h24,h25⟩
       refine zN<|yG [(67,.pointer (some ad5))] ?_
       have hle:=Imm.le.refl imm1
       exact qX 7 [(68,.pointer (some (ad5.add 1)))]<|zZ (hx:=[]) rfl hle rfl (zM rfl) ⟨_,_,_,_,_,rfl,rfl,hat5,h24,h25⟩
     · intro imm1 hf le1
       refine zG ?_
       rintro _ _ ⟨ad51,p181,c171,p191,c181,rfl,rfl,hat51,h241,h251⟩
       refine zN<|yG [(68,.pointer (some (ad51.add 1)))] ?_
       have hle:=Imm.le.refl imm1
       exact xW 1 hat51 [vS p191 x4.Body c181] (vS p191 x4.Body c181) rfl<|zZ (hx:=[]) rfl hle rfl (zM rfl) ⟨_,_,rfl,rfl,h251⟩
     · intro imm1 hf le1
       refine zG ?_
       rintro _ _ ⟨p1911,c1811,rfl,rfl,h2511⟩
       refine zG ?_
       rintro _ _ ⟨rfl,rfl⟩
       refine zN<|yG [(69,vS p1911 x4.Body c1811),(70,vI k04)] ?_
       have hle:=Imm.le.refl imm1
       refine wJ rfl rfl h2511 hy8 ?_
       intro ad6 ccs7 hat6 hrep5
       obtain ⟨v09,v010,v011,v012,rfl,h26,h27,h28,h29⟩:=wL hrep5
       obtain ⟨p20,c19,rfl⟩:=h26.form
       obtain ⟨p21,c20,rfl⟩:=h27.form
       obtain ⟨p22,c21,rfl⟩:=h28.form
       obtain ⟨p23,c22,rfl⟩:=h29.form
       exact zZ (hx:=[]) rfl hle rfl (zM rfl) ⟨_,_,_,_,_,_,_,_,_,rfl,rfl,hat6,h26,h27,h28,h29⟩
     · intro imm1 hf le1
       refine zG ?_
       rintro _ _ ⟨ad6,p20,c19,p21,c20,p22,c21,p23,c22,rfl,rfl,hat6,h26,h27,h28,h29⟩
       refine zN<|yG [(71,.pointer (some ad6))] ?_
       have hle:=Imm.le.refl imm1
       exact xW 0 hat6 (cStmt x5 p20 c19 p21 c20 p22 c21 p23 c22) (vA (cStmt x5 p20 c19 p21 c20 p22 c21 p23 c22)) rfl<|zZ (hx:=[]) rfl hle rfl (zM rfl) ⟨_,_,_,_,_,_,_,_,rfl,rfl,h26,h27,h28,h29⟩
     · intro imm1 hf le1
       refine zG ?_
       rintro _ _ ⟨p201,c191,p211,c201,p221,c211,p231,c221,rfl,rfl,h261,h271,h281,h291⟩
       refine zN<|yG [(72,vA (cStmt x5 p201 c191 p211 c201 p221 c211 p231 c221))] ?_
       have hle:=Imm.le.refl imm1
       have h20:=RepL.mono (fun _ _=>Rp.mono le1) h20
       have h18:=h18.mono le1
       have h14:=RepL.mono (fun _ _=>Rp.mono le1) h14
       have h4:=RepL.mono (fun _ _=>Rp.mono le1) h4
       have h:=h.mono le1
       have h1:=h1.mono le1
       refine yQ (dN x5 _ hy9 h261 h271 h281 h291) ?_
       rintro imm05 hs2 v2 k2 le5 - ⟨p24,c23,cs8,p25,c24,p26,c25,p27,c26,cs9,rfl,rfl,h30,h31,h32,h33⟩ -
       have h261:=h261.mono le5
       have h271:=h271.mono le5
       have h281:=h281.mono le5
       have h291:=h291.mono le5
       have h18:=h18.mono le5
       have h20:=RepL.mono (fun _ _=>Rp.mono le5) h20
       have h14:=RepL.mono (fun _ _=>Rp.mono le5) h14
       have h4:=RepL.mono (fun _ _=>Rp.mono le5) h4
       have h:=h.mono le5
       have h1:=h1.mono le5
       have hle:=hle.trans le5
       exact zZ (hx:=[hO zA (vS p24 y1.Write.Subs c23) cs8,hO zI (vS p27 y1.Value.Kids c26) cs9]) rfl hle rfl (zM rfl) ⟨_,_,_,_,_,_,_,_,_,_,rfl,rfl,h30,h31,h32,h33⟩
     · intro imm1 hf le1
       refine zG ?_
       rintro _ _ ⟨p24,c23,p25,c24,p26,c25,p27,c26,cs8,cs9,rfl,rfl,h30,h31,h32,h33⟩
       refine zN<|yG [(73,vA (cStmt y1 p24 c23 p25 c24 p26 c25 p27 c26))] ?_
       have hle:=Imm.le.refl imm1
       have h20:=RepL.mono (fun _ _=>Rp.mono le1) h20
       have h18:=h18.mono le1
       have h14:=RepL.mono (fun _ _=>Rp.mono le1) h14
       have h4:=RepL.mono (fun _ _=>Rp.mono le1) h4
       have h:=h.mono le1
       have h1:=h1.mono le1
       refine yL 0 rfl ?_
       intro imm06 le6 hl02
       have h34:=SL.of_frozen hl02 le6 h30
       have h31:=h31.mono le6
       have h32:=h32.mono le6
       have h33:=RepL.mono (fun _ _=>Rp.mono le6) h33
       have h18:=h18.mono le6
       have h20:=RepL.mono (fun _ _=>Rp.mono le6) h20
       have h14:=RepL.mono (fun _ _=>Rp.mono le6) h14
       have h4:=RepL.mono (fun _ _=>Rp.mono le6) h4
       have h:=h.mono le6
       have h1:=h1.mono le6
       have hle:=hle.trans le6
       refine yL 0 rfl ?_
       intro imm07 le7 hl03
       have h35:=SL.of_frozen hl03 le7 h33
       have h34:=h34.mono le7
       have h31:=h31.mono le7
       have h32:=h32.mono le7
       have h18:=h18.mono le7
       have h20:=RepL.mono (fun _ _=>Rp.mono le7) h20
       have h14:=RepL.mono (fun _ _=>Rp.mono le7) h14
       have h4:=RepL.mono (fun _ _=>Rp.mono le7) h4
       have h:=h.mono le7
       have h1:=h1.mono le7
       have hle:=hle.trans le7
       refine xV (cStmt y1 p24 c23 p25 c24 p26 c25 p27 c26) zR ?_
       intro b6 hb6
       have h36:RL imm07 (cStmt y1 p24 c23 p25 c24 p26 c25 p27 c26) ([y1]:List zR):=⟨(cStmt y1 p24 c23 p25 c24 p26 c25 p27 c26),_,rfl,rfl,(wM ⟨_,_,_,_,rfl,h34,h31,h32,h35⟩),rfl⟩
       refine yL 0 rfl ?_
       intro imm08 le8 hl04
       have h37:=SL.of_frozen hl04 le8 h36
       have h34:=h34.mono le8
       have h31:=h31.mono le8
       have h32:=h32.mono le8
       have h35:=h35.mono le8
       have h18:=h18.mono le8
       have h20:=RepL.mono (fun _ _=>Rp.mono le8) h20
       have h14:=RepL.mono (fun _ _=>Rp.mono le8) h14
       have h4:=RepL.mono (fun _ _=>Rp.mono le8) h4
       have h:=h.mono le8
       have h1:=h1.mono le8
       have hle:=hle.trans le8
       exact zZ (hx:=[]) rfl hle rfl (zM rfl) ⟨_,rfl,rfl,h37⟩
     intro imm1 hf le1
     refine zG ?_
     rintro _ _ ⟨rfl,rfl⟩
     refine zG ?_
     rintro _ _ ⟨b6,rfl,rfl,h37⟩
     refine zG ?_
     rintro _ _ rfl
     refine zN<|yG [(63,vS p14 Body c13),(74,vS (some ⟨b6,0,none⟩) ([y1]:List zR) 1)] ?_
     have hle:=Imm.le.refl imm1
     have h20:=RepL.mono (fun _ _=>Rp.mono le1) h20
     obtain ⟨ccs8,k05,k06⟩:=h37
     have h37:SL imm1 (vS (some ⟨b6,0,none⟩) ([y1]:List zR) 1) ([y1]:List zR):=⟨_,k05,k06⟩
     refine pC 71 9 0 rfl rfl rfl h20 (.inl k05) k06 hy10 ?_
     intro p28 c27 cs10 h38
     exact vW (hs':=(hO zR (vS p28 l2 c27) cs10::hB b5 [vS p13 y c12,vS p14 Body c13]::hO zP (vS p9 Parts c8) cs4::hO zH (vS p4 Arrays1 c3) cs1::hB b2 [vS p4 Arrays1 c3,vS p9 Parts c8]::hB b1 zTwo::hB b (cProg p p1 c p2 c1)::hf)) rfl<|zZ (hx:=[hO zR (vS p28 l2 c27) cs10]) rfl hle rfl (zM rfl) ⟨_,_,_,rfl,rfl,h38⟩
   intro imm09 le9
   refine zG ?_
   rintro _ _ ⟨p28,c27,cs10,rfl,rfl,h38⟩
   refine zN<|yG [(1,vP b 0),(2,vP b1 0),(3,vP b2 0),(5,vI i1),(6,vP b5 0),(7,vI k04),(75,vS p28 l2 c27)] ?_
   have h18:=h18.mono le9
   have h20:=RepL.mono (fun _ _=>Rp.mono le9) h20
   have h14:=RepL.mono (fun _ _=>Rp.mono le9) h14
   have h4:=RepL.mono (fun _ _=>Rp.mono le9) h4
   have h:=h.mono le9
   have h1:=h1.mono le9
   have hle:=hle.trans le9
   exact yK 15 [] [(76,vP b5 1)]<|xI 1 [vS p13 y c12,vS p28 l2 c27] [hO zR (vS p28 l2 c27) cs10,hB b5 [vS p13 y c12,vS p28 l2 c27],hO zP (vS p9 Parts c8) cs4,hO zH (vS p4 Arrays1 c3) cs1,hB b2 [vS p4 Arrays1 c3,vS p9 Parts c8],hB b1 zTwo,hB b (cProg p p1 c p2 c1)] rfl rfl rfl rfl<|yN rfl<|zX<|zE<|zB<|zY [] [(7,vI (W (k04 + 1)))]<|xF<|vX [(1,vP b 0),(2,vP b1 0),(3,vP b2 0),(5,vI i1),(6,vP b5 0),(7,vI (W (k04 + 1)))]<|ih (W (k04 + 1)) l2 _ hM hle h18 h14 h4 h h1 h38 hg ho hx
 intro hc2 hM
 exact xA<|zT<|zT<|yU [(1,vP b 0),(2,vP b1 0),(3,vP b2 0),(5,vI i1),(6,vP b5 0)]<|hx _ _ _ _ _ (zD hM).symm hle h20
def vC (p:zV) (i1:Int) (Parts:List zP):Option (List zP):=do
 if (decide (i1 < (p.Parts.length:Int))) then
  let x2←idx p.Parts i1
  let y←qQ x2.Nest
  let Body1←uZ p i1 0 ([]:List zR)
  let l3←app 48 Parts ([(zP.mk y Body1)]:List zP)
  vC p (W (i1 + 1)) l3
 else
  pure (id Parts)
 partial_fixpoint
theorem zBV (p:zV):∀ (i1:Int) (Parts:List zP) (o:List zP),vC p i1 Parts=some o→∀ {B}{imm0 imm:Imm}{Q}{Arrays1:List zH}{p1 c p2 c1}{b:Nat}{b1:Nat}{b2:Nat}{p4 c3 cs1 p9 c8 cs4},imm0.le imm→(RL imm cs1 Arrays1)→(S4 imm p1 p.Arrays c)→(S4 imm p2 p.Parts c1)→(RL imm cs4 Parts)→(∀ l a w,¬Q (.goto l) a w)→(∀ a w,¬Q .outgrown a w)→(∀ (imm':Imm) (Parts1:List zP) (p10:Option Addr) (c9:Nat) (cs5:List Value),o=Parts1→imm0.le imm'→(RL imm' cs5 Parts1)→T 84 B Q (.exit 2) imm' [hO zP (vS p10 Parts1 c9) cs5,hO zH (vS p4 Arrays1 c3) cs1,hB b2 [vS p4 Arrays1 c3,vS p10 Parts1 c9],hB b1 zTwo] [(2,vP b1 0),(3,vP b2 0)])→J Tryz.prog 84 B (nav (bodyOf Tryz.f123) [1,1,1,0,1,0]) Q imm [hO zP (vS p9 Parts c8) cs4,hO zH (vS p4 Arrays1 c3) cs1,hB b2 [vS p4 Arrays1 c3,vS p9 Parts c8],hB b1 zTwo,hB b (cProg p p1 c p2 c1)] [(1,vP b 0),(2,vP b1 0),(3,vP b2 0),(5,vI i1)]:=by
 refine vC.partial_correctness p _ ?_
 intro self ih i1 Parts o hM B imm0 imm Q Arrays1 p1 c p2 c1 b b1 b2 p4 c3 cs1 p9 c8 cs4 hle h4 h h1 h14 hg ho hx
 refine xE hg ho<|zF<|zF<|zB<|zY [4] [(40,.bool (decide (i1 < (p.Parts.length:Int))))]<|zE<|yO hM ?_ ?_
 · intro hc1 hM
   refine yD<|zE<|zF<|yB<|zF<|zB<|yK 3 [4] [(44,vS p2 p.Parts c1),(45,vI i1)] ?_
   obtain ⟨x2,hy4,hM⟩:=zC hM
   refine wJ rfl rfl h1 hy4 ?_
   intro ad3 ccs4 hat3 hrep2
   obtain ⟨v02,v03,rfl,h16,h17⟩:=uO hrep2
   obtain ⟨p11,c10,rfl⟩:=h16.form
   obtain ⟨p12,c11,rfl⟩:=h17.form
   refine yK 5 [] [(47,.pointer (some ad3))]<|xW 0 hat3 [vS p11 x2.Nest c10] (vS p11 x2.Nest c10) rfl ?_
   obtain ⟨y,hy5,hM⟩:=zC hM
   refine yQ (dO x2.Nest _ hy5 h16) ?_
   rintro imm04 hs2 v2 k2 le4 - ⟨v04,rfl,rfl,h18⟩ -
   have h14:=RepL.mono (fun _ _=>Rp.mono le4) h14
   have h4:=RepL.mono (fun _ _=>Rp.mono le4) h4
   have h:=h.mono le4
   have h1:=h1.mono le4
   have hle:=hle.trans le4
   obtain ⟨p13,c12,rfl⟩:=h18.form
   refine yK 8 [] [(50,vA [vS p13 y c12,.slice none 0 0])]<|vV zTwo ?_
   intro b5 hb5
   refine xI 0 [vS p13 y c12,.slice none 0 0] [hB b5 [vS p13 y c12,.slice none 0 0],hO zP (vS p9 Parts c8) cs4,hO zH (vS p4 Arrays1 c3) cs1,hB b2 [vS p4 Arrays1 c3,vS p9 Parts c8],hB b1 zTwo,hB b (cProg p p1 c p2 c1)] rfl rfl rfl rfl<|yN rfl<|zE<|zF<|zF<|zB<|zY [] [(7,vI 0)]<|zE<|yB<|vX [(1,vP b 0),(2,vP b1 0),(3,vP b2 0),(5,vI i1),(6,vP b5 0),(7,vI 0)]<|qU (tF (Rp.sz zR)) ?_
   have h19:RL imm04 [] ([]:List zR):=RepL.nil
   obtain ⟨o01,ho01,hMl1⟩:=zC hM
   refine gG p i1 0 ([]:List zR) o01 ho01 (Imm.le.refl _) h18 h14 h4 h h1 h19 (fun _ _ _ h=>hg _ _ _ h) (fun _ _ h=>ho _ _ h) ?_
   intro imm010 Body1 p15 c14 cs7 heq1 le10 h21
   subst o01
   have h18:=h18.mono le10
   have h14:=RepL.mono (fun _ _=>Rp.mono le10) h14
   have h4:=RepL.mono (fun _ _=>Rp.mono le10) h4
   have h:=h.mono le10
   have h1:=h1.mono le10
   have hle:=hle.trans le10
   refine yC<|zE<|zB<|yK 3 [4,1] [(78,vS p9 Parts c8),(79,vA [vS p13 y c12,vS p15 Body1 c14])]<|yL 0 rfl ?_
   intro imm011 le11 hl05
   have h39:=SL.of_frozen hl05 le11 h21
   have h14:=RepL.mono (fun _ _=>Rp.mono le11) h14
   have h18:=h18.mono le11
   have h4:=RepL.mono (fun _ _=>Rp.mono le11) h4
   have h:=h.mono le11
   have h1:=h1.mono le11
   have hle:=hle.trans le11
   refine xV [vS p13 y c12,vS p15 Body1 c14] zP ?_
   intro b7 hb7
   have h40:RL imm011 [vS p13 y c12,vS p15 Body1 c14] ([(zP.mk y Body1)]:List zP):=⟨[vS p13 y c12,vS p15 Body1 c14],_,rfl,rfl,(sH ⟨_,_,rfl,h18,h39⟩),rfl⟩
   obtain ⟨l3,hy11,hM⟩:=zC hMl1
   refine pC 37 2 2 rfl rfl rfl h14 (.inr ⟨0,rfl⟩) h40 hy11 ?_
   intro p29 c28 cs11 h41
   exact qO (zK [1,2,3,4,5,6] (hs':=[hB b5 [vS p13 y c12,vS p15 Body1 c14],hO zP (vS p29 l3 c28) cs11,hO zH (vS p4 Arrays1 c3) cs1,hB b2 [vS p4 Arrays1 c3,vS p9 Parts c8],hB b1 zTwo,hB b (cProg p p1 c p2 c1)]) rfl (by decide))<|yK 6 [] [(82,vP b2 1)]<|xI 3 [vS p4 Arrays1 c3,vS p29 l3 c28] [hB b5 [vS p13 y c12,vS p15 Body1 c14],hO zP (vS p29 l3 c28) cs11,hO zH (vS p4 Arrays1 c3) cs1,hB b2 [vS p4 Arrays1 c3,vS p29 l3 c28],hB b1 zTwo,hB b (cProg p p1 c p2 c1)] rfl rfl rfl rfl<|yN rfl<|zX<|zE<|zB<|zY [] [(5,vI (W (i1 + 1)))]<|xF<|qU (zK [1,2,3,4,5] rfl (by decide))<|vX [(1,vP b 0),(2,vP b1 0),(3,vP b2 0),(5,vI (W (i1 + 1)))]<|ih (W (i1 + 1)) l3 _ hM hle h4 h h1 h41 hg ho hx
 intro hc1 hM
 exact xA<|zT<|zT<|xZ (zK [0,1,2,3] rfl (by decide))<|yU [(2,vP b1 0),(3,vP b2 0)]<|hx _ _ _ _ _ (zD hM).symm hle h14
def sD (p:zV):Option (zV):=do
 let Arrays1←uY p 0 ([]:List zH)
 let Parts1←vC p 0 ([]:List zP)
 pure (zV.mk Arrays1 Parts1)
theorem zD9:∀ (p:zV) r,sD p=some r→∀ {imm:Imm}{p1 c p2 c1},(S4 imm p1 p.Arrays c)→(S4 imm p2 p.Parts c1)→Ret Tryz.prog 123 [vA (cProg p p1 c p2 c1)] imm [] (zCO  r):=by
 intro p r hM imm p1 c p2 c1 h h1
 unfold sD at hM
 refine yF (fn:=Tryz.f123) (c:=(bodyOf Tryz.f123)) Tryz.func123 rfl rfl ?_
 rintro B - -
 have hle:imm.le imm:=Imm.le.refl _
 refine zF<|zB<|tS (cProg p p1 c p2 c1) ?_
 intro b hb
 refine vV zTwo ?_
 intro b1 hb1
 refine yN rfl<|zE<|zF<|zB<|yK 1 [] [(8,vA zTwo)]<|vV zTwo ?_
 intro b2 hb2
 refine xI 0 zTwo [hB b2 zTwo,hB b1 zTwo,hB b (cProg p p1 c p2 c1)] rfl rfl rfl rfl<|yN rfl<|zE<|zF<|zF<|zB<|zY [] [(4,vI 0)]<|zE<|yB<|vX [(1,vP b 0),(2,vP b1 0),(3,vP b2 0),(4,vI 0)]<|qU (tF (Rp.sz zH)) ?_
 have h2:RL imm [] ([]:List zH):=RepL.nil
 obtain ⟨o0,ho0,hMl⟩:=zC hM
 refine gF p 0 ([]:List zH) o0 ho0 (Imm.le.refl _) h h1 h2 (fun _ _ _ h=>h) (fun _ _ h=>h) ?_
 intro imm03 Arrays1 p4 c3 cs1 heq le3 h4
 subst o0
 have h:=h.mono le3
 have h1:=h1.mono le3
 have hle:=hle.trans le3
 refine yC<|zE<|zF<|zF<|zB<|zY [] [(5,vI 0)]<|zE<|yB<|vX [(1,vP b 0),(2,vP b1 0),(3,vP b2 0),(5,vI 0)]<|qU (tF (Rp.sz zP)) ?_
 have h13:RL imm03 [] ([]:List zP):=RepL.nil
 obtain ⟨o02,ho02,hMl2⟩:=zC hMl
 refine zBV p 0 ([]:List zP) o02 ho02 (Imm.le.refl _) h4 h h1 h13 (fun _ _ _ h=>h) (fun _ _ h=>h) ?_
 intro imm012 Parts1 p10 c9 cs5 heq2 le12 h15
 subst o02
 have h4:=RepL.mono (fun _ _=>Rp.mono le12) h4
 have hle:=hle.trans le12
 refine yC<|zE<|zF<|zB<|yK 1 [2] [(83,vA [vS p4 Arrays1 c3,vS p10 Parts1 c9])]<|xI 3 [vS p4 Arrays1 c3,vS p10 Parts1 c9] [hO zP (vS p10 Parts1 c9) cs5,hO zH (vS p4 Arrays1 c3) cs1,hB b2 [vS p4 Arrays1 c3,vS p10 Parts1 c9],hB b1 [vS p4 Arrays1 c3,vS p10 Parts1 c9]] rfl rfl rfl rfl<|yN rfl<|zE<|yI ?_
 obtain rfl:=zD hMl2
 exact yP ⟨_,_,(.cell 3 rfl rfl (by kernel_rfl) ResV.nil),(zK [1,0] rfl (by decide)),⟨_,_,_,_,_,_,rfl,rfl,h4,h15⟩⟩
def zBW (r:zA):Nat→Imm→List HA→Value→Prop:=fun kk imm' hs' v =>
  ∃ a0_0 c0_0 s0_0,hs'=[.osl (.slice a0_0 r.Coefs.length c0_0) (Rp.sz Int) s0_0]∧v=tupV [(.agg ⟨[.slice a0_0 r.Coefs.length c0_0,.int .i64 r.Const]⟩)]∧RepL (Rp.rep imm') (Rp.sz Int) s0_0 r.Coefs
def xX (n0:Int):Option (zA):=do
 let y←rU
 pure (zA.mk y.Coefs n0)
theorem wW:∀ (n0:Int) r,xX n0=some r→∀ {imm:Imm} ,Ret Tryz.prog 127 [vI n0] imm [] (zBW  r):=by
 intro n0 r hM imm
 unfold xX at hM
 refine yF (fn:=Tryz.f127) (c:=(bodyOf Tryz.f127)) Tryz.func127 rfl rfl ?_
 rintro B - -
 have hle:imm.le imm:=Imm.le.refl _
 refine zF<|zB<|vV [.slice none 0 0,vI 0] ?_
 intro b hb
 refine yN rfl<|zE<|zF<|zB ?_
 obtain ⟨y,hy,hM⟩:=zC hM
 refine yQ (oF  _ hy ) ?_
 rintro imm0 hs2 v2 k2 le - ⟨p,c,cs,rfl,rfl,h⟩ -
 have hle:=hle.trans le
 refine vV [.slice none 0 0,vI 0] ?_
 intro b1 hb1
 refine xI 0 (cAff y p c) [hB b1 (cAff y p c),hO Int (vS p y.Coefs c) cs,hB b [.slice none 0 0,vI 0]] rfl rfl rfl rfl<|yN rfl<|zE<|zF<|zB<|yK 2 [] [(5,vI n0),(6,vP b1 1)]<|xI 0 [vS p y.Coefs c,vI n0] [hB b1 [vS p y.Coefs c,vI n0],hO Int (vS p y.Coefs c) cs,hB b [.slice none 0 0,vI 0]] rfl rfl rfl rfl<|yN rfl<|zE<|zF<|zB<|yK 1 [0] [(7,vA [vS p y.Coefs c,vI n0])]<|xI 2 [vS p y.Coefs c,vI n0] [hB b1 [vS p y.Coefs c,vI n0],hO Int (vS p y.Coefs c) cs,hB b [vS p y.Coefs c,vI n0]] rfl rfl rfl rfl<|yN rfl<|zE<|yI ?_
 obtain rfl:=zD hM
 exact yP ⟨_,_,(.cell 2 rfl rfl (by kernel_rfl) ResV.nil),(zK [1] rfl (by decide)),⟨_,_,_,rfl,rfl,h⟩⟩
theorem zHX (xs:List NL) (x:NL):(x.ha ++ NLs xs).Perm (NLs (xs ++ [x])):=by
  simp only [NLs,List.flatMap_append,List.flatMap_cons,List.flatMap_nil,List.append_nil]
  exact List.perm_append_comm
theorem zAq (nest:(List zJ)):∀ (out:List zJ) (i:Int) (o:List zJ),wZ nest out i=some o→∀ {B}{imm0 imm:Imm}{Q p c p1 c1 cs}{xs:List NL},imm0.le imm→(S4 imm p nest c)→(RL imm cs (xs.map NL.raw))→out=xs.map NL.d→(∀ x ∈ xs,x.ok imm)→(∀ l a w,¬Q (.goto l) a w)→(∀ a w,¬Q .outgrown a w)→(∀ (imm':Imm) (p2:Option Addr) (c2:Nat) (cs1:List Value) (ys:List NL),imm0.le imm'→o=ys.map NL.d→(RL imm' cs1 (ys.map NL.raw))→(∀ x ∈ ys,x.ok imm')→T 83 B Q (.exit 0) imm' (hO Raw2 (vS p2 (ys.map NL.raw) c2) cs1::NLs ys) [(3,vS p2 (ys.map NL.raw) c2)])→J Tryz.prog 83 B (nav (bodyOf Tryz.f167) [1,1,0,1,0]) Q imm (hO Raw2 (vS p1 (xs.map NL.raw) c1) cs::NLs xs) [(0,vS p nest c),(3,vS p1 (xs.map NL.raw) c1),(4,vI i)]:=by
 refine wZ.partial_correctness nest _ ?_
 intro self ih out i o hM B imm0 imm Q p c p1 c1 cs xs hle h h2 hout hxs hg ho hx
 refine xE hg ho<|zF<|zF<|zB<|zY [] [(14,.bool (decide (i < (nest.length:Int))))]<|zE<|yO hM ?_ ?_
 · intro hc hM
   refine yD<|zE<|zF<|yB<|zF<|zB<|yK 1 [] [(17,vA zTwo)]<|vV zTwo ?_
   intro b1 hb1
   refine xI 0 zTwo (hB b1 zTwo::hO Raw2 (vS p1 (xs.map NL.raw) c1) cs::NLs xs) rfl rfl rfl rfl<|yN rfl<|zE<|zF<|zF<|zB<|zY [] [(6,vI 0)]<|zE<|yB<|vX [(0,vS p nest c),(3,vS p1 (xs.map NL.raw) c1),(4,vI i),(5,vP b1 0),(6,vI 0)]<|qU (tF (Rp.sz zA)) ?_
   have h4:RL imm [] ([]:List zA):=RepL.nil
   obtain ⟨o0,ho0,hMl⟩:=zC hM
   refine zIs (hs:=[hO zA (vS none ([]:List zA) 0) [],hB b1 zTwo,hO Raw2 (vS p1 (xs.map NL.raw) c1) cs]) (L:=NLs xs) (.exit 2) (fun imm' hs' m'=>∃ p4 c4 cs3,RL imm' cs3 o0∧hs'=[hO zA (vS p4 o0 c4) cs3,hB b1 [vS p4 o0 c4,.slice none 0 0],hO Raw2 (vS p1 (xs.map NL.raw) c1) cs]∧m'=[(0,vS p nest c),(3,vS p1 (xs.map NL.raw) c1),(4,vI i),(5,vP b1 0)]) (fun B'=>?_) ?_
   · refine gD nest i 0 ([]:List zA) o0 ho0 (Imm.le.refl _) h h2 h4 (fun _ _ _ h=>by cases h.1) (fun _ _ h=>by cases h.1) ?_
     intro imm03 Lo1 p4 c4 cs3 heq le3 h6
     subst o0
     exact zIt ⟨_,_,_,h6,rfl,rfl⟩
   rintro imm03 _ _ ⟨p4,c4,cs3,h6,rfl,rfl⟩ le3
   have h:=h.mono le3
   have h2:=RepL.mono (fun _ _=>Rp.mono le3) h2
   have hxs:=fun x hx=>(hxs x hx).mono le3
   have hle:=hle.trans le3
   refine yC<|zE<|zF<|zF<|zB<|zY [] [(8,vI 0)]<|zE<|yB<|vX [(0,vS p nest c),(3,vS p1 (xs.map NL.raw) c1),(4,vI i),(5,vP b1 0),(8,vI 0)]<|qU (tF (Rp.sz zA)) ?_
   have h18:RL imm03 [] ([]:List zA):=RepL.nil
   obtain ⟨o01,ho01,hMl1⟩:=zC hMl
   refine zIs (hs:=[hO zA (vS none ([]:List zA) 0) [],hO zA (vS p4 o0 c4) cs3,hB b1 [vS p4 o0 c4,.slice none 0 0],hO Raw2 (vS p1 (xs.map NL.raw) c1) cs]) (L:=NLs xs) (.exit 4) (fun imm' hs' m'=>∃ p13 c13 cs7,RL imm' cs7 o01∧hs'=[hO zA (vS p13 o01 c13) cs7,hO zA (vS p4 o0 c4) cs3,hB b1 [vS p4 o0 c4,vS p13 o01 c13],hO Raw2 (vS p1 (xs.map NL.raw) c1) cs]∧m'=[(0,vS p nest c),(3,vS p1 (xs.map NL.raw) c1),(4,vI i),(5,vP b1 0)]) (fun B'=>?_) ?_
   · refine gE nest i 0 ([]:List zA) o01 ho01 (Imm.le.refl _) h h2 h6 h18 (fun _ _ _ h=>by cases h.1) (fun _ _ h=>by cases h.1) ?_
     intro imm07 Hi1 p13 c13 cs7 heq1 le7 h20
     subst o01
     exact zIt ⟨_,_,_,h20,rfl,rfl⟩
   rintro imm07 _ _ ⟨p13,c13,cs7,h20,rfl,rfl⟩ le7
   have h:=h.mono le7
   have h2:=RepL.mono (fun _ _=>Rp.mono le7) h2
   have h6:=RepL.mono (fun _ _=>Rp.mono le7) h6
   have hxs:=fun x hx=>(hxs x hx).mono le7
   have hle:=hle.trans le7
   obtain ⟨out2,hy10,hM⟩:=zC hMl1
   have hy11:=zG3 (l':=xs.map NL.raw) (m':=[(⟨vS p4 o0 c4,vS p13 o01 c13⟩:Raw2)]) hy10 (by simp [hout]) rfl
   obtain ⟨_,rfl⟩:=gZ hy10
   have h34:RL imm07 [vS p4 o0 c4,vS p13 o01 c13] [(⟨vS p4 o0 c4,vS p13 o01 c13⟩:Raw2)]:=⟨[vS p4 o0 c4,vS p13 o01 c13],[],rfl,rfl,⟨rfl,rfl,rfl⟩,rfl⟩
   refine yC<|zE<|zB<|yK 2 [2] [(78,vS p1 (xs.map NL.raw) c1),(79,vA [vS p4 o0 c4,vS p13 o01 c13])]<|xV [vS p4 o0 c4,vS p13 o01 c13] Raw2 ?_
   intro b8 hb8
   refine pC 113 2 4 rfl rfl rfl h2 (.inr ⟨0,rfl⟩) h34 hy11 ?_
   intro p21 c21 cs10 h35
   have eR:xs.map NL.raw ++ [(⟨vS p4 o0 c4,vS p13 o01 c13⟩:Raw2)]=(xs ++ [(⟨p4,o0,c4,cs3,p13,o01,c13,cs7⟩:NL)]).map NL.raw:=by simp [NL.raw,NL.vl,NL.vh]
   have eD:out ++ [(⟨o0,o01⟩:zJ)]=(xs ++ [(⟨p4,o0,c4,cs3,p13,o01,c13,cs7⟩:NL)]).map NL.d:=by simp [hout,NL.d]
   rw [eR] at h35 ⊢
   refine zY [] [(3,vS p21 ((xs ++ [(⟨p4,o0,c4,cs3,p13,o01,c13,cs7⟩:NL)]).map NL.raw) c21)]<|zX<|zE<|zB<|zY [] [(4,vI (W (i + 1)))]<|xF<|qU (zCE 0 rfl)<|qU (zCE 2 rfl)<|zFA _ ?_<|vX [(0,vS p nest c),(3,vS p21 ((xs ++ [(⟨p4,o0,c4,cs3,p13,o01,c13,cs7⟩:NL)]).map NL.raw) c21),(4,vI (W (i + 1)))]<|ih _ (W (i + 1)) _ hM hle h h35 eD ?_ hg ho hx
   · show List.Perm _ (hO zA (vS p13 o01 c13) cs7::hO zA (vS p4 o0 c4) cs3::hO Raw2 (vS p21 ((xs ++ [(⟨p4,o0,c4,cs3,p13,o01,c13,cs7⟩:NL)]).map NL.raw) c21) cs10::NLs xs)
     exact List.Perm.trans ((zHX xs ⟨p4,o0,c4,cs3,p13,o01,c13,cs7⟩).symm.cons _)<|(List.Perm.swap _ _ _).trans (List.Perm.cons _ (List.Perm.swap _ _ _))
   intro x hx'
   rcases List.mem_append.1 hx' with hx' | hx'
   · exact hxs x hx'
   rw [List.mem_singleton.1 hx']; exact ⟨h6,h20⟩
 intro hc hM
 have:=zD hM
 simp only [id] at this
 exact xA<|zT<|zT<|yU [(3,vS p1 (xs.map NL.raw) c1)]<|hx _ _ _ _ _ hle (by rw [← this,hout]) h2 hxs
def zBX (r:(List zJ)):Nat→Imm→List HA→Value→Prop:=fun kk imm' hs' v =>
  ∃ (p:Option Addr) (c:Nat) (cs:List Value) (xs:List NL),hs'=hO Raw2 (vS p (xs.map NL.raw) c) cs::NLs xs∧v=tupV [vS p (xs.map NL.raw) c]∧RL imm' cs (xs.map NL.raw)∧r=xs.map NL.d∧∀ x ∈ xs,x.ok imm'
theorem zCq:∀ (nest:(List zJ)) r,qQ nest=some r→∀ {imm:Imm}{p c},(S4 imm p nest c)→Ret Tryz.prog 167 [vS p nest c] imm [] (zBX  r):=by
 intro nest r hM imm p c h
 unfold qQ at hM
 refine yF (fn:=Tryz.f167) (c:=(bodyOf Tryz.f167)) Tryz.func167 rfl rfl ?_
 rintro B - -
 have hle:imm.le imm:=Imm.le.refl _
 refine zF<|zB<|zY [] []<|zE<|zF<|zB<|xV [] zJ ?_
 intro b hb
 have h1:RL imm [] (([]:List NL).map NL.raw):=rfl
 refine zY [] [(3,vS (some ⟨b,0,none⟩) (([]:List NL).map NL.raw) 0)]<|zE<|zF<|zF<|zB<|zY [] [(4,vI 0)]<|zE<|yB<|vX [(0,vS p nest c),(3,vS (some ⟨b,0,none⟩) (([]:List NL).map NL.raw) 0),(4,vI 0)] ?_
 obtain ⟨o02,ho02,hMl2⟩:=zC hM
 refine zAq nest ([]:List zJ) 0 o02 ho02 (xs:=[]) (Imm.le.refl _) h h1 rfl (fun _ h=>by cases h) (fun _ _ _ h=>h) (fun _ _ h=>h) ?_
 intro imm1 p2 c2 cs1 ys le10 ho h3 hok
 have:=zD hMl2
 simp only [id] at this
 subst this
 exact yC<|zE<|zF<|zB<|zY [] [(2,vS p2 (ys.map NL.raw) c2)]<|zE<|yI<|yP ⟨_,_,(.tmp rfl ResV.nil),(fun _ g=>g),⟨_,_,_,ys,rfl,rfl,h3,ho,hok⟩⟩
def tW (out:List zJ):Option (List zJ):=do
 if (decide ((out.length:Int) ≤ 4)) then
  let x←idx out 0
  let l←app 48 out ([x]:List zJ)
  tW l
 else
  pure (id out)
 partial_fixpoint
def qG (r0:zO) (nest:(List zJ)):Option ((List zJ)×zO):=do
 let y←qQ nest
 if ((y.length:Int) == 0) then
  pure (y,r0)
 else
  let (y2,y3)←yW r0 40
  if (y2 == 0) then
   let x←idx y 0
   let (y5,y6)←yW y3 2
   let y7←qP y5
   let l←app 32 x.Lo ([y7]:List zA)
   pure (y.set 0 (zJ.mk l x.Hi),y6)
  else
   if (y2 == 1) then
    let x←idx y (W ((y.length:Int) - 1))
    pure (y.set (W ((y.length:Int) - 1)).toNat (zJ.mk x.Lo []),y3)
   else
    if (y2 == 2) then
     let x←idx y (W ((y.length:Int) - 1))
     let y7←xX 1
     let y8←xX 2
     let l←app 32 x.Hi ([y7,y8]:List zA)
     pure (y.set (W ((y.length:Int) - 1)).toNat (zJ.mk x.Lo l),y3)
    else
     if (y2 == 3) then
      let y7←xX 99
      let x←idx y 0
      pure (y.set 0 (zJ.mk x.Lo [y7]),y3)
     else
      if (y2 == 4) then
       let z←tW y
       pure (z,y3)
      else
       pure (y,y3)
theorem zAY:∀ (out:List zJ) (o:List zJ),tW out=some o→∀ {B}{imm0 imm:Imm}{Q}{K:HA}{p1 c1 cs},imm0.le imm→RL imm cs out→(∀ l a w,¬Q (.goto l) a w)→(∀ a w,¬Q .outgrown a w)→(∀ (imm':Imm) (p2:Option Addr) (c2:Nat) (cs1:List Value),imm0.le imm'→RL imm' cs1 o→T 73 B Q (.exit 1) imm' [hO zJ (vS p2 o c2) cs1,K] [(5,vS p2 o c2)])→J Tryz.prog 73 B (nav (bodyOf Tryz.f124) [1,1,1,1,0,1,0,1,1,1,1,1,1,1,1,1,0,0]) Q imm [hO zJ (vS p1 out c1) cs,K] [(5,vS p1 out c1)]:=by
 refine tW.partial_correctness _ ?_
 intro self ih out o hM B imm0 imm Q K p1 c1 cs hle h hg ho hx
 refine xE hg ho<|zF<|zF<|zB<|zY [] [(65,.bool (decide ((out.length:Int) ≤ 4)))]<|zE<|yO hM ?_ ?_
 · intro hc hM
   obtain ⟨x,hy,hM⟩:=zC hM
   obtain ⟨l,hy1,hM⟩:=zC hM
   refine yD<|zE<|yB<|zB<|yK 2 [] [(66,vS p1 out c1),(67,vS p1 out c1)]<|nU 0 rfl rfl rfl h hy ?_
   intro ad ccs hat hcc hrep
   obtain ⟨v0,v1,rfl,h1,h2⟩:=uE hrep
   obtain ⟨p3,c3,rfl⟩:=h1.form
   obtain ⟨p4,c4,rfl⟩:=h2.form
   refine zD6 0 0 hat hcc (cLoop x p3 c3 p4 c4) (vA (cLoop x p3 c3 p4 c4)) rfl rfl<|xV (cLoop x p3 c3 p4 c4) zJ ?_
   intro b2 hb2
   have h3:RL imm (cLoop x p3 c3 p4 c4) ([x]:List zJ):=⟨(cLoop x p3 c3 p4 c4),[],rfl,rfl,pD ⟨_,_,rfl,h1,h2⟩,rfl⟩
   refine pC 113 2 1 rfl rfl rfl h (.inr ⟨0,rfl⟩) h3 hy1 ?_
   intro p5 c5 cs5 h5
   exact zY [] [(5,vS p5 l c5)]<|zX<|xF<|qU (zCE 0 rfl)<|vX [(5,vS p5 l c5)]<|ih l _ hM hle h5 hg ho hx
 intro hc hM
 have:=zD hM
 simp only [id] at this
 subst this
 exact xA<|zT<|zT<|yU [(5,vS p1 out c1)]<|hx _ _ _ _ hle h
def jI (b0:Nat) (r:(List zJ)×zO):Nat→Imm→List HA→Value→Prop:=fun kk imm' hs' v =>
  ∃ v0 k0,hs'=[.blk b0 ⟨k0⟩]∧v=tupV [v0]∧SL imm' v0 r.1∧Rp.rep imm' k0 r.2
theorem fD {B:Base}{imm:Imm}{out:List zJ}{p1 c1 cs}{r01:Nat}{kl:List Value}{y3:zO} (h:RL imm cs out) (hk:Rp.rep imm kl y3) :
    J Tryz.prog 73 B (nav (bodyOf Tryz.f124) [1,1,1,1,1]) (QB Tryz.prog Tryz.f124 B (jI r01 (out,y3))) imm [hO zJ (vS p1 out c1) cs,hB r01 kl] [(5,vS p1 out c1)]:=by
 refine zF<|zB<|zY [] [(4,vS p1 out c1)]<|zE<|yI<|xL 0 rfl ?_
 intro imm1 le1 hl
 have h1:=SL.of_frozen hl le1 h
 exact yP ⟨_,_,(.tmp rfl ResV.nil),(fun _ g=>g),⟨_,_,rfl,rfl,h1,Rp.mono le1 hk⟩⟩
theorem zHY (xs:List NL):((xs.map NL.d).length:Int)=((xs.map NL.raw).length:Int):=by simp
theorem zIB {p c} (xs:List NL):vS p (xs.map NL.raw) c=vS p (xs.map NL.d) c:=by simp [vS]
theorem mZ:∀ (r0:zO) (nest:List zJ) r,qG r0 nest=some r→∀ {imm:Imm}{r01:Nat}{p c p1 c1},(S4 imm p r0.b c)→(S4 imm p1 nest c1)→Ret Tryz.prog 124 [vP r01 0,vS p1 nest c1] imm [hB r01 (cRd r0 p c)] (jI r01 r):=by
 intro r0 nest r hM imm r01 p c p1 c1 h h1
 unfold qG at hM
 refine yF (fn:=Tryz.f124) (c:=(bodyOf Tryz.f124)) Tryz.func124 rfl rfl ?_
 rintro B - -
 have hle:imm.le imm:=Imm.le.refl _
 obtain ⟨y,hy,hM⟩:=zC hM
 refine zF<|zB<|zY [] [(0,vP r01 0),(1,vS p1 nest c1)]<|zE<|zF<|zB<|yK 1 [] [(7,vS p1 nest c1)]<|yQ (zCq nest _ hy h1) ?_
 rintro imm1 hs2 v2 k2 le1 - ⟨p2,c2,cs,xs,rfl,rfl,h2,rfl,hxs⟩ -
 have h:=h.mono le1
 clear h1 hle
 simp only [zHY] at hM
 refine qO (hs':=hO Raw2 (vS p2 (xs.map NL.raw) c2) cs::hB r01 (cRd r0 p c)::NLs xs) (fun w g=>g.perm (List.Perm.cons _ (List.perm_append_comm (l₁:=[hB r01 (cRd r0 p c)]) (l₂:=NLs xs))))<|zY [] [(0,vP r01 0),(5,vS p2 (xs.map NL.raw) c2)]<|zE<|zF<|zB<|zY [] [(0,vP r01 0),(5,vS p2 (xs.map NL.raw) c2),(6,vI ((xs.map NL.raw).length:Int))]<|zE<|zF<|zF<|zB<|zY [] [(0,vP r01 0),(5,vS p2 (xs.map NL.raw) c2),(6,vI ((xs.map NL.raw).length:Int)),(12,.bool (((xs.map NL.raw).length:Int) == 0))]<|zE<|yO hM ?_ ?_
 · intro hc hM
   obtain rfl:=zD hM
   refine zFA (NLs xs ++ [hO Raw2 (vS p2 (xs.map NL.raw) c2) cs,hB r01 (cRd r0 p c)]) (List.perm_append_comm)<|fB xs hxs ?_
   intro imm2 le2 hfz
   have h:=h.mono le2
   have h3:=zD8 hfz
   rw [← nS h2] at h3
   refine zF<|zB<|zY [] [(4,vS p2 (xs.map NL.raw) c2)]<|zE<|yI<|zQ<|xL 0 rfl ?_
   intro imm3 le3 hl
   have h4:SL imm3 (vS p2 (xs.map NL.raw) c2) (xs.map NL.d):=SL.of_frozen (l:=xs.map NL.d) hl le3 h3
   exact yP ⟨_,_,(.tmp rfl ResV.nil),(fun _ g=>g),⟨_,_,rfl,rfl,h4,yS ⟨_,rfl,h.mono le3⟩⟩⟩
 intro hc hM
 obtain ⟨⟨y2,y3⟩,hy1,hM⟩:=zC hM
 refine yD<|zE<|zF<|zF<|zB<|yK 1 [] [(14,vP r01 0)]<|qO (hs':=hB r01 (cRd r0 p c)::hO Raw2 (vS p2 (xs.map NL.raw) c2) cs::NLs xs) (fun w g=>g.perm (List.Perm.swap _ _ _))<|tV [hB r01 (cRd r0 p c)] (hO Raw2 (vS p2 (xs.map NL.raw) c2) cs::NLs xs) (xK r0 40 _ hy1 h) ?_
 rintro imm2 hs2 v2 k2 le2 - ⟨v0,kk,rfl,rfl,rfl,h3⟩ -
 obtain ⟨v0,rfl,h4⟩:=yH h3
 obtain ⟨p3,c3,rfl⟩:=h4.form
 clear h3 h
 have h2:=RepL.mono (fun _ _=>Rp.mono le2) h2
 have hxs:=fun x hx=>(hxs x hx).mono le2
 refine zY [] [(0,vP r01 0),(5,vS p2 (xs.map NL.raw) c2),(6,vI ((xs.map NL.raw).length:Int)),(15,vI y2)]<|zE<|yB<|zF<|zB<|zY [] [(0,vP r01 0),(5,vS p2 (xs.map NL.raw) c2),(6,vI ((xs.map NL.raw).length:Int)),(15,vI y2),(16,.bool (y2 == 0))]<|zE<|zFA (NLs xs ++ [hO Raw2 (vS p2 (xs.map NL.raw) c2) cs,hB r01 (cRd y3 p3 c3)]) ((List.perm_append_comm).trans (List.Perm.swap _ _ _))<|yO hM ?_ ?_
 · intro hc0 hM
   obtain ⟨x,hx,hM⟩:=zC hM
   obtain ⟨⟨y5,y6⟩,hy5,hM⟩:=zC hM
   obtain ⟨y7,hy7,hM⟩:=zC hM
   obtain ⟨l,hl,hM⟩:=zC hM
   obtain ⟨x,hx2,rfl⟩:=zDP hx
   have hx:=hx2; clear hx2
   refine zHW hx hxs ?_
   intro imm3 le3 hfz
   obtain ⟨xlo,xhi⟩:=hxs x (sG hx |>.2.2 |> List.mem_of_getElem?)
   replace xlo:=RepL.mono (fun _ _=>Rp.mono le3) xlo
   replace xhi:=RepL.mono (fun _ _=>Rp.mono le3) xhi
   have h2:=RepL.mono (fun _ _=>Rp.mono le3) h2
   have h4:=h4.mono le3
   clear hxs
   refine qZ 0 rfl ?_
   intro imm4 le4 hl4
   have khi:=SL.of_frozen hl4 le4 xhi
   replace xlo:=RepL.mono (fun _ _=>Rp.mono le4) xlo
   have h2:=RepL.mono (fun _ _=>Rp.mono le4) h2
   have h4:=h4.mono le4
   have hfz:=fun j y hj hy=>(hfz j y hj hy).mono le4
   have hxr:=fW (f:=NL.raw) hx
   refine vX [(0,vP r01 0),(5,vS p2 (xs.map NL.raw) c2)]<|uD [.p (vS p2 (xs.map NL.raw) c2) [],.p (vS p2 (xs.map NL.raw) c2) [],.x (fun imm' v hx'=>∃ ad,v=.pointer (some ad)∧hx'=[]∧AtO (vS p2 (xs.map NL.raw) c2) 2 0 ad),.x (fun imm' v hx'=>∃ ad,v=.pointer (some ad)∧hx'=[]∧AtO (vS p2 (xs.map NL.raw) c2) 2 0 ad),.x (fun imm' v hx'=>v=x.vl∧hx'=[]),.p (vP r01 0) [],.x (fun imm' v hx'=>∃ kk,v=vI y5∧hx'=[hB r01 kk]∧Rp.rep imm' kk y6),.x (fun imm' v hx'=>∃ p5 c5,v=vA (cAff y7 p5 c5)∧hx'=[]∧SL imm' (vS p5 y7.Coefs c5) y7.Coefs),.x (fun imm' v hx'=>∃ b4,v=vS (some ⟨b4,0,none⟩) ([y7]:List zA) 1∧hx'=[]∧SL imm' (vS (some ⟨b4,0,none⟩) ([y7]:List zA) 1) ([y7]:List zA)),.x (fun imm' v hx'=>∃ p6 c6 cs6,v=vS p6 l c6∧hx'=[hO zA (vS p6 l c6) cs6]∧RL imm' cs6 l)]
     [[],[],[(1,false)],[(2,false)],[(3,false)],[],[(5,false),(13,true)],[(6,false)],[(7,false)],[(4,false),(8,false),(14,true)]]
     [hO Raw2 (vS p2 (xs.map NL.raw) c2) cs] [[hB r01 (cRd y3 p3 c3)],[hO zA x.vl x.csl]] [(0,false),(6,true),(9,true)] (zK [1,2,0] rfl (by decide)) ?_ ?_
   · refine Op<|Op<|Ox ?_<|Ox ?_<|Ox ?_<|Op<|Ox ?_<|Ox ?_<|Ox ?_<|Ox ?_<|On
     · intro imm1 hf le1
       refine zG ?_
       rintro _ _ ⟨rfl,rfl⟩
       refine zN<|yG [(19,vS p2 (xs.map NL.raw) c2)]<|nU 0 rfl rfl rfl (RepL.mono (fun _ _=>Rp.mono le1) h2) hxr ?_
       intro ad ccs hat hcc hrep
       exact zZ (hx:=[]) rfl (Imm.le.refl _) rfl (zM rfl) ⟨_,rfl,rfl,hat⟩
     · intro imm1 hf le1
       refine zG ?_
       rintro _ _ ⟨ad,rfl,rfl,hat⟩
       exact zN<|yG [(20,.pointer (some ad))]<|qX 4 [(21,.pointer (some ad))]<|zZ (hx:=[]) rfl (Imm.le.refl _) rfl (zM rfl) ⟨_,rfl,rfl,hat⟩
     · intro imm1 hf le1
       refine zG ?_
       rintro _ _ ⟨ad,rfl,rfl,hat⟩
       refine zN<|yG [(21,.pointer (some ad))] ?_
       have hrep:=h2.at (i:=0) (sG hxr).2.2
       obtain ⟨⟨hcc,o1,o2⟩,_⟩:=hrep
       exact zD6 0 0 hat hcc [x.vl] x.vl rfl rfl<|zZ (hx:=[]) rfl (Imm.le.refl _) rfl (zM rfl) ⟨rfl,rfl⟩
     · intro imm1 hf le1
       refine zG ?_
       rintro _ _ ⟨rfl,rfl⟩
       refine zG ?_
       rintro _ _ rfl
       refine zN<|yG [(23,vP r01 0)]<|tV [hB r01 (cRd y3 p3 c3)] (hO Raw2 (vS p2 (xs.map NL.raw) c2) cs::hf) (xK y3 2 _ hy5 (h4.mono le1)) ?_
       rintro imm02 hs2 v2 k2 le2 - ⟨v0,kk,rfl,rfl,rfl,h5⟩ -
       exact zZ (hx:=[hB r01 kk]) rfl le2 rfl (zM rfl) ⟨_,rfl,rfl,h5⟩
     · intro imm1 hf le1
       refine zG ?_
       rintro _ _ ⟨kk,rfl,rfl,h5⟩
       refine zN<|yG [(24,vI y5)]<|yQ (nV y5 _ hy7) ?_
       rintro imm02 hs2 v2 k2 le2 - ⟨v0,rfl,rfl,⟨cs2,rfl,h6⟩⟩ -
       obtain ⟨v02,rfl,h7⟩:=yM h6
       obtain ⟨p5,c5,rfl⟩:=h7.form
       exact zZ (hx:=[]) rfl le2 rfl (zM rfl) ⟨_,_,rfl,rfl,h7⟩
     · intro imm1 hf le1
       refine zG ?_
       rintro _ _ ⟨p5,c5,rfl,rfl,h7⟩
       refine zN<|yG [(25,vA (cAff y7 p5 c5))]<|xV (cAff y7 p5 c5) zA ?_
       intro b4 hb4
       have h15:RL imm1 (cAff y7 p5 c5) ([y7]:List zA):=⟨(cAff y7 p5 c5),_,rfl,rfl,(yR ⟨_,rfl,h7⟩),rfl⟩
       refine yL 0 rfl ?_
       intro imm01 le01 hl01
       exact zZ (hx:=[]) rfl le01 rfl (zM rfl) ⟨_,rfl,rfl,SL.of_frozen hl01 le01 h15⟩
     intro imm1 hf le1
     refine zG ?_
     rintro _ _ ⟨rfl,rfl⟩
     refine zG ?_
     rintro _ _ ⟨b4,rfl,rfl,h16⟩
     refine zG ?_
     rintro _ _ rfl
     refine zN<|yG [(22,x.vl),(26,vS (some ⟨b4,0,none⟩) ([y7]:List zA) 1)] ?_
     obtain ⟨ccs4,k03,k04⟩:=h16
     refine pC 45 2 0 rfl rfl rfl (RepL.mono (fun _ _=>Rp.mono le1) xlo) (.inl k03) k04 hl ?_
     intro p11 c11 cs5 h17
     exact vW (hs':=(hO zA (vS p11 l c11) cs5::hO Raw2 (vS p2 (xs.map NL.raw) c2) cs::hf)) rfl<|zZ (hx:=[hO zA (vS p11 l c11) cs5]) rfl (Imm.le.refl _) rfl (zM rfl) ⟨_,_,_,rfl,rfl,h17⟩
   intro imm5 le5
   refine zG ?_
   rintro _ _ ⟨rfl,rfl⟩
   refine zG ?_
   rintro _ _ ⟨kk,rfl,rfl,h5⟩
   refine zG ?_
   rintro _ _ ⟨p6,c6,cs6,rfl,rfl,h6⟩
   have h2:=RepL.mono (fun _ _=>Rp.mono le5) h2
   refine zN<|yG [(5,vS p2 (xs.map NL.raw) c2),(18,vS p2 (xs.map NL.raw) c2),(27,vS p6 l c6)]<|nU 2 rfl rfl rfl h2 hxr ?_
   intro ad ccs hat hcc hrep
   obtain ⟨rfl,o1,o2⟩:=hrep
   refine yK 12 [] [(29,.pointer (some ad))]<|pA (c:=[vS p6 l c6,x.vh]) (x':=(⟨vS p6 l c6,x.vh⟩:Raw2)) 2 0 rfl rfl rfl hat rfl rfl hcc (by kernel_rfl) (by kernel_rfl) (by kernel_rfl) h2 hxr (by kernel_rfl) ⟨rfl,rfl,rfl⟩ ?_
   intro cs7 h7 hlen
   refine vW (hs':=[hO zA (vS p6 l c6) cs6,hB r01 kk,hO Raw2 (vS p2 (xs.map NL.raw) c2) cs7]) rfl<|yL 0 rfl ?_
   intro imm6 le6 hl6
   have klo:=SL.of_frozen hl6 le6 h6
   have hpw:=zFB (r:=⟨vS p6 l c6,x.vh⟩) (d:=⟨l,x.hi⟩) (fun j y hj hy=>((hfz j y hj hy).mono le5).mono le6) ⟨klo,(khi.mono le5).mono le6⟩
   have h8:=hpw.rl
   have e8:=nS h7
   obtain rfl:=zD hM
   have eL:vS p2 (xs.map NL.raw) c2=vS p2 ((xs.map NL.d).set 0 (⟨l,x.hi⟩:zJ)) c2:=by simp [vS]
   rw [show (0:Int).toNat=0 from rfl] at e8 h8
   rw [← e8] at h8
   rw [eL]
   exact qO (zK [1,0] (hs':=[hO zJ (vS p2 ((xs.map NL.d).set 0 (⟨l,x.hi⟩:zJ)) c2) cs7,hB r01 kk]) rfl (by decide))<|zY [] [(5,vS p2 ((xs.map NL.d).set 0 (⟨l,x.hi⟩:zJ)) c2)]<|zX<|zE<|vX [(5,vS p2 ((xs.map NL.d).set 0 (⟨l,x.hi⟩:zJ)) c2)]<|fD h8 (Rp.mono le6 h5)
 intro hc0 hM
 refine zF<|zB<|zY [] [(0,vP r01 0),(5,vS p2 (xs.map NL.raw) c2),(6,vI ((xs.map NL.raw).length:Int)),(15,vI y2),(30,.bool (y2 == 1))]<|zE<|yO hM ?_ ?_
 · intro hc1 hM
   obtain ⟨x,hx,hM⟩:=zC hM
   obtain ⟨x,hx2,rfl⟩:=zDP hx
   have hx:=hx2; clear hx2
   have hxr:=fW (f:=NL.raw) hx
   refine fB xs hxs ?_
   intro imm3 le3 hfz
   obtain ⟨flo,fhi⟩:=hfz x (List.mem_of_getElem? (sG hx).2.2)
   have h2:=RepL.mono (fun _ _=>Rp.mono le3) h2
   have h4:=h4.mono le3
   refine zB<|yK 3 [] [(32,vS p2 (xs.map NL.raw) c2),(34,vI (W (((xs.map NL.raw).length:Int) - 1)))]<|nU 0 rfl rfl rfl h2 hxr ?_
   intro ad ccs hat hcc hrep
   obtain ⟨rfl,o1,o2⟩:=hrep
   refine yK 5 [] [(36,.pointer (some (ad.add 1)))]<|pA (c:=[x.vl,.slice none 0 0]) (x':=(⟨x.vl,.slice none 0 0⟩:Raw2)) 0 1 rfl rfl rfl hat rfl rfl hcc (by kernel_rfl) (by kernel_rfl) (by kernel_rfl) h2 hxr (by kernel_rfl) ⟨rfl,rfl,rfl⟩ ?_
   intro cs7 h7 hlen
   have hpw:=zFB (k:=(W (((xs.map NL.raw).length:Int) - 1)).toNat) (r:=⟨x.vl,.slice none 0 0⟩) (d:=⟨x.lo,[]⟩) (fun j y hj hy=>hfz y (List.mem_of_getElem? hy)) ⟨flo,SL.nil _⟩
   have h8:=hpw.rl
   rw [← nS h7] at h8
   obtain rfl:=zD hM
   have eL:vS p2 (xs.map NL.raw) c2=vS p2 ((xs.map NL.d).set (W (((xs.map NL.raw).length:Int) - 1)).toNat (⟨x.lo,[]⟩:zJ)) c2:=by simp only [vS,List.length_set,List.length_map]
   rw [eL]
   exact vW (hs':=[hO zJ (vS p2 ((xs.map NL.d).set (W (((xs.map NL.raw).length:Int) - 1)).toNat (⟨x.lo,[]⟩:zJ)) c2) cs7,hB r01 (cRd y3 p3 c3)]) rfl<|zY [] [(5,vS p2 ((xs.map NL.d).set (W (((xs.map NL.raw).length:Int) - 1)).toNat (⟨x.lo,[]⟩:zJ)) c2)]<|zX<|zE<|vX [(5,vS p2 ((xs.map NL.d).set (W (((xs.map NL.raw).length:Int) - 1)).toNat (⟨x.lo,[]⟩:zJ)) c2)]<|fD h8 (yS ⟨_,rfl,h4⟩)
 intro hc1 hM
 refine zF<|zB<|zY [] [(0,vP r01 0),(5,vS p2 (xs.map NL.raw) c2),(6,vI ((xs.map NL.raw).length:Int)),(15,vI y2),(37,.bool (y2 == 2))]<|zE<|yO hM ?_ ?_
 · intro hc2 hM
   obtain ⟨x,hx,hM⟩:=zC hM
   obtain ⟨y7,hy7,hM⟩:=zC hM
   obtain ⟨y8,hy8,hM⟩:=zC hM
   obtain ⟨l,hl,hM⟩:=zC hM
   obtain ⟨x,hx2,rfl⟩:=zDP hx
   have hx:=hx2; clear hx2
   refine zHW hx hxs ?_
   intro imm3 le3 hfz
   obtain ⟨xlo,xhi⟩:=hxs x (sG hx |>.2.2 |> List.mem_of_getElem?)
   replace xlo:=RepL.mono (fun _ _=>Rp.mono le3) xlo
   replace xhi:=RepL.mono (fun _ _=>Rp.mono le3) xhi
   have h2:=RepL.mono (fun _ _=>Rp.mono le3) h2
   have h4:=h4.mono le3
   clear hxs
   refine qZ 1 rfl ?_
   intro imm4 le4 hl4
   have klo:=SL.of_frozen hl4 le4 xlo
   replace xhi:=RepL.mono (fun _ _=>Rp.mono le4) xhi
   have h2:=RepL.mono (fun _ _=>Rp.mono le4) h2
   have h4:=h4.mono le4
   have hfz:=fun j y hj hy=>(hfz j y hj hy).mono le4
   have hxr:=fW (f:=NL.raw) hx
   refine vX [(5,vS p2 (xs.map NL.raw) c2),(6,vI ((xs.map NL.raw).length:Int))]<|uD [.p (vS p2 (xs.map NL.raw) c2) [],.p (vI ((xs.map NL.raw).length:Int)) [],.p (vI (W (((xs.map NL.raw).length:Int) - 1))) [],.p (vS p2 (xs.map NL.raw) c2) [],.p (vI ((xs.map NL.raw).length:Int)) [],.p (vI (W (((xs.map NL.raw).length:Int) - 1))) [],.x (fun imm' v hx'=>∃ ad,v=.pointer (some ad)∧hx'=[]∧AtO (vS p2 (xs.map NL.raw) c2) 2 (W (((xs.map NL.raw).length:Int) - 1)).toNat ad),.x (fun imm' v hx'=>∃ ad,v=.pointer (some (ad.add 1))∧hx'=[]∧AtO (vS p2 (xs.map NL.raw) c2) 2 (W (((xs.map NL.raw).length:Int) - 1)).toNat ad),.x (fun imm' v hx'=>v=x.vh∧hx'=[]),.x (fun imm' v hx'=>∃ p5 c5,v=vA (cAff y7 p5 c5)∧hx'=[]∧SL imm' (vS p5 y7.Coefs c5) y7.Coefs),.x (fun imm' v hx'=>∃ p5 c5,v=vA (cAff y8 p5 c5)∧hx'=[]∧SL imm' (vS p5 y8.Coefs c5) y8.Coefs),.x (fun imm' v hx'=>∃ b4,v=vS (some ⟨b4,0,none⟩) ([y7,y8]:List zA) 2∧hx'=[]∧SL imm' (vS (some ⟨b4,0,none⟩) ([y7,y8]:List zA) 2) ([y7,y8]:List zA)),.x (fun imm' v hx'=>∃ p6 c6 cs6,v=vS p6 l c6∧hx'=[hO zA (vS p6 l c6) cs6]∧RL imm' cs6 l)]
     [[],[],[(1,false)],[],[],[(4,false)],[(3,false),(5,false)],[(6,false)],[(7,false)],[],[],[(9,false),(10,false)],[(8,false),(11,false),(16,true)]]
     [hO Raw2 (vS p2 (xs.map NL.raw) c2) cs,hB r01 (cRd y3 p3 c3)] [[hO zA x.vh x.csh]] [(0,false),(2,false),(12,true)] (zK [1,2,0] rfl (by decide)) ?_ ?_
   · refine Op<|Op<|Op<|Op<|Op<|Op<|Ox ?_<|Ox ?_<|Ox ?_<|Ox ?_<|Ox ?_<|Ox ?_<|Ox ?_<|On
     · intro imm1 hf le1
       refine zG ?_
       rintro _ _ ⟨rfl,rfl⟩
       refine zG ?_
       rintro _ _ ⟨rfl,rfl⟩
       refine zN<|yG [(42,vS p2 (xs.map NL.raw) c2),(44,vI (W (((xs.map NL.raw).length:Int) - 1)))]<|nU 0 rfl rfl rfl (RepL.mono (fun _ _=>Rp.mono le1) h2) hxr ?_
       intro ad ccs hat hcc hrep
       exact zZ (hx:=[]) rfl (Imm.le.refl _) rfl (zM rfl) ⟨_,rfl,rfl,hat⟩
     · intro imm1 hf le1
       refine zG ?_
       rintro _ _ ⟨ad,rfl,rfl,hat⟩
       exact zN<|yG [(45,.pointer (some ad))]<|qX 8 [(46,.pointer (some (ad.add 1)))]<|zZ (hx:=[]) rfl (Imm.le.refl _) rfl (zM rfl) ⟨_,rfl,rfl,hat⟩
     · intro imm1 hf le1
       refine zG ?_
       rintro _ _ ⟨ad,rfl,rfl,hat⟩
       refine zN<|yG [(46,.pointer (some (ad.add 1)))] ?_
       have hrep:=h2.at (sG hxr).2.2
       obtain ⟨⟨hcc,o1,o2⟩,_⟩:=hrep
       exact zD6 0 1 hat hcc [x.vh] x.vh rfl rfl<|zZ (hx:=[]) rfl (Imm.le.refl _) rfl (zM rfl) ⟨rfl,rfl⟩
     · intro imm1 hf le1
       refine zN<|yG []<|yQ (wW 1 _ hy7) ?_
       rintro imm02 hs2 v2 k2 le2 - ⟨p5,c5,cs5,rfl,rfl,h5⟩ -
       refine yL 0 rfl ?_
       intro imm03 le3 hl3
       exact zZ (hx:=[]) rfl (le2.trans le3) rfl (zM rfl) ⟨_,_,rfl,rfl,SL.of_frozen hl3 le3 h5⟩
     · intro imm1 hf le1
       refine zN<|yG []<|yQ (wW 2 _ hy8) ?_
       rintro imm02 hs2 v2 k2 le2 - ⟨p5,c5,cs5,rfl,rfl,h5⟩ -
       refine yL 0 rfl ?_
       intro imm03 le3 hl3
       exact zZ (hx:=[]) rfl (le2.trans le3) rfl (zM rfl) ⟨_,_,rfl,rfl,SL.of_frozen hl3 le3 h5⟩
     · intro imm1 hf le1
       refine zG ?_
       rintro _ _ ⟨p5,c5,rfl,rfl,h7⟩
       refine zG ?_
       rintro _ _ ⟨p6,c6,rfl,rfl,h8⟩
       refine zN<|yG [(48,vA (cAff y7 p5 c5)),(49,vA (cAff y8 p6 c6))]<|xV [vS p5 y7.Coefs c5,vI y7.Const,vS p6 y8.Coefs c6,vI y8.Const] zA ?_
       intro b4 hb4
       have h15:RL imm1 [vS p5 y7.Coefs c5,vI y7.Const,vS p6 y8.Coefs c6,vI y8.Const] ([y7,y8]:List zA):=⟨(cAff y7 p5 c5),_,rfl,rfl,(yR ⟨_,rfl,h7⟩),⟨(cAff y8 p6 c6),_,rfl,rfl,(yR ⟨_,rfl,h8⟩),rfl⟩⟩
       refine yL 0 rfl ?_
       intro imm01 le01 hl01
       exact zZ (hx:=[]) rfl le01 rfl (zM rfl) ⟨_,rfl,rfl,SL.of_frozen hl01 le01 h15⟩
     intro imm1 hf le1
     refine zG ?_
     rintro _ _ ⟨rfl,rfl⟩
     refine zG ?_
     rintro _ _ ⟨b4,rfl,rfl,h16⟩
     refine zG ?_
     rintro _ _ rfl
     refine zN<|yG [(47,x.vh),(50,vS (some ⟨b4,0,none⟩) ([y7,y8]:List zA) 2)] ?_
     obtain ⟨ccs4,k03,k04⟩:=h16
     refine pC 45 2 0 rfl rfl rfl (RepL.mono (fun _ _=>Rp.mono le1) xhi) (.inl k03) k04 hl ?_
     intro p11 c11 cs5 h17
     exact vW (hs':=(hO zA (vS p11 l c11) cs5::hO Raw2 (vS p2 (xs.map NL.raw) c2) cs::hB r01 (cRd y3 p3 c3)::hf)) rfl<|zZ (hx:=[hO zA (vS p11 l c11) cs5]) rfl (Imm.le.refl _) rfl (zM rfl) ⟨_,_,_,rfl,rfl,h17⟩
   intro imm5 le5
   refine zG ?_
   rintro _ _ ⟨rfl,rfl⟩
   refine zG ?_
   rintro _ _ ⟨rfl,rfl⟩
   refine zG ?_
   rintro _ _ ⟨p6,c6,cs6,rfl,rfl,h6⟩
   have h2:=RepL.mono (fun _ _=>Rp.mono le5) h2
   refine zN<|yG [(5,vS p2 (xs.map NL.raw) c2),(39,vS p2 (xs.map NL.raw) c2),(41,vI (W (((xs.map NL.raw).length:Int) - 1))),(51,vS p6 l c6)]<|nU 1 rfl rfl rfl h2 hxr ?_
   intro ad ccs hat hcc hrep
   obtain ⟨rfl,o1,o2⟩:=hrep
   refine yK 15 [] [(53,.pointer (some (ad.add 1)))]<|pA (c:=[x.vl,vS p6 l c6]) (x':=(⟨x.vl,vS p6 l c6⟩:Raw2)) 1 1 rfl rfl rfl hat rfl rfl hcc (by kernel_rfl) (by kernel_rfl) (by kernel_rfl) h2 hxr (by kernel_rfl) ⟨rfl,rfl,rfl⟩ ?_
   intro cs7 h7 hlen
   refine vW (hs':=[hO zA (vS p6 l c6) cs6,hO Raw2 (vS p2 (xs.map NL.raw) c2) cs7,hB r01 (cRd y3 p3 c3)]) rfl<|yL 0 rfl ?_
   intro imm6 le6 hl6
   have khi:=SL.of_frozen hl6 le6 h6
   have hpw:=zFB (k:=(W (((xs.map NL.raw).length:Int) - 1)).toNat) (r:=⟨x.vl,vS p6 l c6⟩) (d:=⟨x.lo,l⟩) (fun j y hj hy=>((hfz j y hj hy).mono le5).mono le6) ⟨(klo.mono le5).mono le6,khi⟩
   have h8:=hpw.rl
   rw [← nS h7] at h8
   obtain rfl:=zD hM
   have eL:vS p2 (xs.map NL.raw) c2=vS p2 ((xs.map NL.d).set (W (((xs.map NL.raw).length:Int) - 1)).toNat (⟨x.lo,l⟩:zJ)) c2:=by simp only [vS,List.length_set,List.length_map]
   rw [eL]
   exact vW (hs':=[hO zJ (vS p2 ((xs.map NL.d).set (W (((xs.map NL.raw).length:Int) - 1)).toNat (⟨x.lo,l⟩:zJ)) c2) cs7,hB r01 (cRd y3 p3 c3)]) rfl<|zY [] [(5,vS p2 ((xs.map NL.d).set (W (((xs.map NL.raw).length:Int) - 1)).toNat (⟨x.lo,l⟩:zJ)) c2)]<|zX<|zE<|vX [(5,vS p2 ((xs.map NL.d).set (W (((xs.map NL.raw).length:Int) - 1)).toNat (⟨x.lo,l⟩:zJ)) c2)]<|fD h8 (yS ⟨_,rfl,(h4.mono le5).mono le6⟩)
 intro hc2 hM
 refine fB xs hxs ?_
 intro imm3 le3 hfz
 have h2:=RepL.mono (fun _ _=>Rp.mono le3) h2
 have h4:=h4.mono le3
 clear hxs
 refine zF<|zB<|zY [] [(0,vP r01 0),(5,vS p2 (xs.map NL.raw) c2),(6,vI ((xs.map NL.raw).length:Int)),(15,vI y2),(54,.bool (y2 == 3))]<|zE<|yO hM ?_ ?_
 · intro hc3 hM
   obtain ⟨y7,hy7,hM⟩:=zC hM
   obtain ⟨x,hx,hM⟩:=zC hM
   obtain ⟨x,hx2,rfl⟩:=zDP hx
   have hx:=hx2; clear hx2
   have hxr:=fW (f:=NL.raw) hx
   refine zB<|yK 1 [] [(56,vS p2 (xs.map NL.raw) c2)]<|yQ (wW 99 _ hy7) ?_
   rintro imm4 hs2 v2 k2 le4 - ⟨p5,c5,cs5,rfl,rfl,h5⟩ -
   refine yL 0 rfl ?_
   intro imm5 le5 hl5
   have h7:=SL.of_frozen hl5 le5 h5
   refine xV (cAff y7 p5 c5) zA ?_
   intro b4 hb4
   have h15:RL imm5 (cAff y7 p5 c5) ([y7]:List zA):=⟨(cAff y7 p5 c5),_,rfl,rfl,(yR ⟨_,rfl,h7⟩),rfl⟩
   refine yL 0 rfl ?_
   intro imm6 le6 hl6
   have khi:SL imm6 (vS (some ⟨b4,0,none⟩) ([y7]:List zA) 1) [y7]:=SL.of_frozen hl6 le6 h15
   have le:=(le4.trans le5).trans le6
   have h2:=RepL.mono (fun _ _=>Rp.mono le) h2
   have h4:=h4.mono le
   have hfz:=fun x hx=>(hfz x hx).mono le
   obtain ⟨flo,fhi⟩:=hfz x (List.mem_of_getElem? (sG hx).2.2)
   refine nU 0 rfl rfl rfl h2 hxr ?_
   intro ad ccs hat hcc hrep
   obtain ⟨rfl,o1,o2⟩:=hrep
   refine yK 5 [] [(60,.pointer (some (ad.add 1)))]<|pA (c:=[x.vl,vS (some ⟨b4,0,none⟩) ([y7]:List zA) 1]) (x':=(⟨x.vl,vS (some ⟨b4,0,none⟩) ([y7]:List zA) 1⟩:Raw2)) 0 1 rfl rfl rfl hat rfl rfl hcc (by kernel_rfl) (by kernel_rfl) (by kernel_rfl) h2 hxr (by kernel_rfl) ⟨rfl,rfl,rfl⟩ ?_
   intro cs7 h7 hlen
   have hpw:=zFB (k:=0) (r:=⟨x.vl,vS (some ⟨b4,0,none⟩) ([y7]:List zA) 1⟩) (d:=⟨x.lo,[y7]⟩) (fun j y hj hy=>hfz y (List.mem_of_getElem? hy)) ⟨flo,khi⟩
   have h8:=hpw.rl
   have e8:=nS h7
   rw [show (0:Int).toNat=0 from rfl] at e8
   rw [← e8] at h8
   obtain rfl:=zD hM
   have eL:vS p2 (xs.map NL.raw) c2=vS p2 ((xs.map NL.d).set 0 (⟨x.lo,[y7]⟩:zJ)) c2:=by simp only [vS,List.length_set,List.length_map]
   rw [eL]
   exact vW (hs':=[hO zJ (vS p2 ((xs.map NL.d).set 0 (⟨x.lo,[y7]⟩:zJ)) c2) cs7,hB r01 (cRd y3 p3 c3)]) rfl<|zY [] [(5,vS p2 ((xs.map NL.d).set 0 (⟨x.lo,[y7]⟩:zJ)) c2)]<|zX<|zE<|vX [(5,vS p2 ((xs.map NL.d).set 0 (⟨x.lo,[y7]⟩:zJ)) c2)]<|fD h8 (yS ⟨_,rfl,h4⟩)
 intro hc3 hM
 have h8:=zD8 hfz
 rw [← nS h2] at h8
 rw [zIB]
 refine zF<|zB<|zY [] [(0,vP r01 0),(5,vS p2 (xs.map NL.d) c2),(15,vI y2),(61,.bool (y2 == 4))]<|zE<|yO hM ?_ ?_
 · intro hc4 hM
   obtain ⟨z,hz,hM⟩:=zC hM
   obtain rfl:=zD hM
   refine yB<|vX [(5,vS p2 (xs.map NL.d) c2)]<|zAY (xs.map NL.d) z hz (Imm.le.refl _) h8 (fun _ _ _ h=>h) (fun _ _ h=>h) ?_
   intro imm4 p6 c6 cs6 le4 h9
   exact yC<|zX<|zE<|vX [(5,vS p6 z c6)]<|fD h9 (yS ⟨_,rfl,h4.mono le4⟩)
 intro hc4 hM
 obtain rfl:=zD hM
 exact yD<|zX<|zE<|vX [(5,vS p2 (xs.map NL.d) c2)]<|fD h8 (yS ⟨_,rfl,h4⟩)
end Go.LN
