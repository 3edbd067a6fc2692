/- Helper of the proof (see the last text). -/
import Derived.Test.YtkipogionmkncaaGreatDoorVB1
import Derived.Lib.SplitLaws
set_option linter.unusedVariables false
set_option linter.unusedSimpArgs false
namespace Go.LN
open Lib (itoa decDigits)
def digs:List UInt8->Int->Option Int
 | [],n=>some n
 | b::l,n=>if(decide ((b.toNat:Int)<48)||decide ((b.toNat:Int)>57)) then none else digs l (W ((W (n*10))+(W (IntKind.u8.wrap ((b.toNat:Int) - 48)))))
theorem zGk(s:Str)(hs:s.l.length<=1048576):∀j i n,i+j=s.l.length ->
 vG s n (i:Int)=some (match digs (s.l.drop i) n with|none=>.ret (0,false)|some v=>.done v):=by
 intro j
 induction j with
 | zero=>
  intro i n hi
  rw[vG]
  have:¬((i:Int)<(s.l.length:Int)):=by omega
  simp only[this,decide_false,bV,if_false]
  rw[ci.2 (by omega)]
  rfl
 | succ j ih=>
  intro i n hi
  rw[vG]
  have av:i<s.l.length:=by omega
  have h1:((i:Int)<(s.l.length:Int)):=by omega
  simp only[h1,decide_true,if_true,sidx,pE,bX av,Option.pure_def,Option.bind_eq_bind,Option.bind_some]
  rw[cf av,digs]
  by_cases ha:(s.l[i].toNat:Int)<48
  ·simp[ha]
  ·by_cases hb:(s.l[i].toNat:Int)>57
   ·simp[ha,hb]
   ·simp only[ha,hb,decide_false,bV,if_false,Option.bind_some,Bool.or_self]
    rw[pH (by omega),ih (i+1) _ (by omega)]
def numU(s:List UInt8):Int×Bool:=
 if s.length=0∨s.length>17 then(0,false)
 else if(match s with|[]=>false|b::t=>decide (b=48)&&decide (t.length>0)) then(0,false)
 else match digs s 0 with
  | none=>(0,false)
  | some n=>(n,true)
theorem zH5(s:Str)(hs:s.l.length<=1048576)(hn:s.l.head? ≠ some 45):rK s=some (numU s.l):=by
 obtain⟨s⟩:=s;simp only at hs hn;unfold rK numU;cases s with
 | nil=>rfl
 | cons b t=>
  have h45:b ≠ 45:=by simpa using hn
  have k45:((b.toNat:Int)==45)=decide (b=45):=pL b 45 (by omega);have k48:((b.toNat:Int)==48)=decide (b=48):=pL b 48 (by omega);have h0:(((b::t).length:Nat):Int)>0:=by simp
  have hl:(((b::t).length:Int)==0)=false:=by simp;omega
  have i0:sidx (⟨b::t⟩:Str) 0=some b:=rfl;simp only[h0,decide_true,if_true,i0,k45,h45,decide_false,bV,if_false,id,hl,Option.pure_def,Option.bind_eq_bind,Option.bind_some];by_cases h17:(b::t).length>17
  ·have:(((b::t).length:Nat):Int)>17:=by omega
   rw[if_pos (Or.inr h17)];simp only[this,decide_true,if_true,Option.bind_some]
  ·have:¬(((b::t).length:Nat):Int)>17:=by omega
   have hor:¬((b::t).length=0∨(b::t).length>17):=by simp only[bY] at h17 ⊢;omega
   rw[if_neg hor];have hd:=zGk ⟨b::t⟩ hs _ 0 0 (cO _);rw[cI,cS] at hd;simp only[this,decide_false,bV,if_false,k48,Option.bind_some];by_cases h48:b=48
   ·subst h48;by_cases ht:t.length>0
    ·have e1:(((((48:UInt8)::t).length:Nat):Int)>1):=by simp only[bY];omega
     simp only[e1,ht,decide_true,if_true,cW,Option.bind_some]
    ·have e1:¬(((((48:UInt8)::t).length:Nat):Int)>1):=by simp only[bY];omega
     simp only[e1,ht,decide_true,decide_false,if_true,bV,if_false,cW,Option.bind_some];rw[hd];cases digs (48::t) 0 <;> rfl
   ·simp only[h48,decide_false,bV,if_false,Bool.false_and,Option.bind_some];rw[hd];cases digs (b::t) 0 <;> rfl
def isDg(b:UInt8):Bool:=decide (48<=b.toNat)&&decide (b.toNat<=57)
def run:List UInt8->Nat->Nat
 | _,0=>0
 | [],_+1=>0
 | b::u,n+1=>if isDg b then 1+run u n else 0
theorem zEQ:∀(u:List UInt8) (n:Nat),run u n<=n/\run u n<=u.length
 | u,0=>by cases u <;> simp[run]
 | [],n+1=>by simp[run]
 | b::u,n+1=>by
  have:=zEQ u n
  rw[run]
  split
  ·simp;omega
  ·simp
theorem zH6(s:Str)(p:Nat)(hs:s.l.length<=1048576)(hp:p<=s.l.length):∀j i,i+j=2->p+i<=s.l.length->wJ s (p:Int) ((p+i:Nat):Int)=some ((p+i+run (s.l.drop (p+i)) j:Nat):Int):=by
 intro j
 induction j with
 | zero=>
  intro i hi hl;rw[wJ];have h2:¬(((p+i:Nat):Int)<W ((p:Int)+2)):=by rw[vM (by omega) (by omega)];omega
  have hr:run (s.l.drop (p+i)) 0=0:=by cases s.l.drop (p+i) <;> rfl
  rw[hr];by_cases h1:((p+i:Nat):Int)<(s.l.length:Int)
  ·simp only[h1,h2,decide_true,decide_false,if_true,bV,if_false,Option.pure_def,Option.bind_eq_bind,Option.bind_some,id];rfl
  ·simp only[h1,decide_false,bV,if_false,Option.pure_def,Option.bind_eq_bind,Option.bind_some,id];rfl
 | succ j ih=>
  intro i hi hl;rw[wJ];have h2:(((p+i:Nat):Int)<W ((p:Int)+2)):=by rw[vM (by omega) (by omega)];omega
  by_cases h1:p+i<s.l.length
  ·have h1':((p+i:Nat):Int)<(s.l.length:Int):=by omega
   simp only[h1',h2,decide_true,if_true,sidx,pE,bX h1,Option.pure_def,Option.bind_eq_bind,Option.bind_some];rw[cf h1,run];unfold isDg;by_cases ha:(48:Nat)<=s.l[p+i].toNat
   ·have ha':((s.l[p+i].toNat:Int)>=48):=by omega
    by_cases hb:s.l[p+i].toNat<=57
    ·have hb':((s.l[p+i].toNat:Int)<=57):=by omega
     simp only[ha,ha',hb,hb',decide_true,if_true,Option.bind_some,Bool.and_self];rw[pH (by omega)];have:=ih (i+1) (by omega) (by omega);rw[show p+(i+1)=p+i+1 by omega] at this;rw[this]
     congr 2
     omega
    ·have hb':¬((s.l[p+i].toNat:Int)<=57):=by omega
     simp only[ha,ha',hb,hb',decide_true,decide_false,if_true,bV,if_false,Option.bind_some,Bool.and_false,id];rfl
   ·have ha':¬((s.l[p+i].toNat:Int)>=48):=by omega
    simp only[ha,ha',decide_false,bV,if_false,Option.bind_some,Bool.false_and,id];rfl
  ·have h1':¬((p+i:Nat):Int)<(s.l.length:Int):=by omega
   rw[ci.2 (by omega),run];simp only[h1',decide_false,bV,if_false,Option.pure_def,Option.bind_eq_bind,Option.bind_some,id];rfl
theorem zEb:∀(u:List UInt8) (n:Nat),(u.take (run u n)).all isDg=true
 | u,0=>by cases u <;> simp[run]
 | [],n+1=>by simp[run]
 | b::u,n+1=>by
  rw[run]
  split
  ·rename_i h
   rw[Nat.add_comm,List.take_succ_cons,cG,h,zEb u n];rfl
  ·simp
theorem zFz{l:List UInt8}(h:l.all isDg=true):l.head? ≠ some 45:=by
 cases l with
 | nil=>simp
 | cons b l=>
  rw[cG,bW] at h;rintro e;simp only[List.head?_cons,Option.some.injEq] at e;subst e;exact absurd h.1 (by decide)
theorem zCX(s:Str)(p:Nat)(hs:s.l.length<=1048576)(hp:p<=s.l.length):
 uC s (p:Int)=some (if(numU ((s.l.drop p).take (run (s.l.drop p) 2))).2 then((numU ((s.l.drop p).take (run (s.l.drop p) 2))).1,((p+run (s.l.drop p) 2:Nat):Int)) else(1,(p:Int))):=by
 unfold uC
 have h:=zH6 s p hs hp 2 0 rfl (by omega)
 simp only[Nat.add_zero] at h
 have hr:=zEQ (s.l.drop p) 2
 rw[ce] at hr
 have hsl:sslc s (p:Int) ((p+run (s.l.drop p) 2:Nat):Int)=some ⟨(s.l.drop p).take (run (s.l.drop p) 2)⟩:=by
  rw[pV (by omega) (by omega),List.take_drop]
 have hnum:=zH5 ⟨(s.l.drop p).take (run (s.l.drop p) 2)⟩ (by show (List.take _ _).length<=_;rw[cd,ce];omega) (zFz (zEb _ _))
 rw[h]
 simp only[Option.bind_eq_bind,Option.bind_some,hsl,hnum]
 cases (numU ((s.l.drop p).take (run (s.l.drop p) 2))).2 <;> rfl
def nmOf(u:List UInt8):Int:=match u with|[]=>-1|b::_=>if b.toNat<105∨b.toNat>108 then -1 else(b.toNat:Int) - 105
theorem zGl(s:Str)(p:Nat)(hp:p<=s.l.length):sL s (p:Int)=some (nmOf (s.l.drop p)):=by
 unfold sL;by_cases h:p=s.l.length
 ·have h1:((p:Int)>=(s.l.length:Int)):=by omega
  simp only[h1,decide_true,if_true,Option.pure_def,Option.bind_eq_bind,Option.bind_some];rw[ci.2 (by omega)];rfl
 ·have h1:¬((p:Int)>=(s.l.length:Int)):=by omega
  have av:p<s.l.length:=by omega
  simp only[h1,decide_false,bV,if_false,sidx,pE,bX av,Option.pure_def,Option.bind_eq_bind,Option.bind_some];rw[cf av,nmOf];have hb:=s.l[p].toNat_lt;by_cases ha:s.l[p].toNat<105
  ·have:((s.l[p].toNat:Int)<105):=by omega
   simp[ha,this]
  ·have ha':¬((s.l[p].toNat:Int)<105):=by omega
   by_cases hc:s.l[p].toNat>108
   ·have:((s.l[p].toNat:Int)>108):=by omega
    simp[ha',hc,this]
   ·have hc':¬((s.l[p].toNat:Int)>108):=by omega
    simp only[ha',hc',ha,hc,decide_false,bV,if_false,Option.bind_some,or_self];rw[vM (x:=(s.l[p].toNat:Int)) (by omega) (by omega),vM (by omega) (by omega)]
def dgt(u:List UInt8):Int×Nat:=if(numU (u.take (run u 2))).2 then((numU (u.take (run u 2))).1,run u 2) else(1,0)
def star(u:List UInt8):Nat:=if 0<(dgt u).2/\(u.drop (dgt u).2).head?=some 42 then(dgt u).2+1 else(dgt u).2
theorem zER(u:List UInt8):(dgt u).2<=u.length:=by
 have:=zEQ u 2;unfold dgt;split
 ·exact this.2
 ·exact cN _
theorem zGm(u:List UInt8):star u<=u.length:=by
 have:=zER u;unfold star;split
 ·rename_i h;have:(u.drop (dgt u).2).length>0:=by
   cases hd:u.drop (dgt u).2 with
   | nil=>rw[hd] at h;cases h.2
   | cons b r=>simp
  rw[ce] at this;omega
 ·exact this
def sgo(u:List UInt8):Nat:=match u with|[]=>0|b::_=>if isSg b then 1 else 0
theorem zCr(a:zA)(s:Str)(hs:s.l.length<=1048576)(hC:a.Coefs.length=4)(sg:Int)(q:Nat)(ho:q<=s.l.length):
 (do
 let (y1,y2)<-uC s (q:Int)
 let t51<-(do
  if(decide (y2>(q:Int))) then
   if(decide (y2<(s.l.length:Int))) then
    let b5<-idx s.l y2
    pure ((b5.toNat:Int)==42)
   else
    pure false
  else
   pure false
    : Option Bool)
 let star<-(do
  if t51 then
   pure (W (y2+1))
  else
   pure (id y2)
    : Option Int)
 let y3<-sL s star
 let l<-app 8 ([]:List Int) a.Coefs
 let t75<-(do
  if(decide (y3>=0)) then
   if(decide (star>y2)) then
    pure true
   else
    pure (y2==(q:Int))
  else
   pure false
    : Option Bool)
 if t75 then
  let x<-idx l y3
  let x1<-idx l y3
  let l1<-pure (l.set y3.toNat (W (x+(W (sg*y1)))))
  pure ((zA.mk l1 a.Const),(W (star+1)))
 else
  if(y2==(q:Int)) then
   pure (a,(-1))
  else
   pure ((zA.mk l (W (a.Const+(W (sg*y1))))),y2):Option (zA×Int))=some (let u:=s.l.drop q
    if 0<=nmOf (u.drop (star u))/\((dgt u).2<star u∨(dgt u).2=0) then
     (⟨a.Coefs.set (nmOf (u.drop (star u))).toNat (W (a.Coefs.getD (nmOf (u.drop (star u))).toNat 0+W (sg*(dgt u).1))),a.Const⟩,((q+star u+1:Nat):Int))
    else if(dgt u).2=0 then(a,-1) else(⟨a.Coefs,W (a.Const+W (sg*(dgt u).1))⟩,((q+(dgt u).2:Nat):Int))):=by
  rw[zCX s q hs ho]
  have hdl:=zER (s.l.drop q)
  have hstl:=zGm (s.l.drop q)
  rw[ce] at hdl hstl
  have hdig:(if(numU ((s.l.drop q).take (run (s.l.drop q) 2))).2=true then((numU ((s.l.drop q).take (run (s.l.drop q) 2))).1,((q+run (s.l.drop q) 2:Nat):Int)) else(1,(q:Int)))=((dgt (s.l.drop q)).1,((q+(dgt (s.l.drop q)).2:Nat):Int)):=by
   unfold dgt
   split <;> rfl
  rw[hdig]
  simp only[Option.pure_def,Option.bind_eq_bind,Option.bind_some]
  have hstar:∀(f:Int->Option (zA×Int)),(Option.bind (if(decide (((q+(dgt (s.l.drop q)).2:Nat):Int)>(q:Int)))=true then
   (if(decide (((q+(dgt (s.l.drop q)).2:Nat):Int)<(s.l.length:Int)))=true then
    Option.bind (idx s.l ((q+(dgt (s.l.drop q)).2:Nat):Int)) λb5=>some ((b5.toNat:Int)==42)
   else some false) else some false) λt51=>Option.bind (if t51=true then some (W (((q+(dgt (s.l.drop q)).2:Nat):Int)+1)) else some (id ((q+(dgt (s.l.drop q)).2:Nat):Int))) f)=f ((q+star (s.l.drop q):Nat):Int):=by
   intro f
   unfold star
   rw[cF,pE]
   by_cases h0:0<(dgt (s.l.drop q)).2
   ·have h0':(((q+(dgt (s.l.drop q)).2:Nat):Int)>(q:Int)):=by omega
    by_cases h1:q+(dgt (s.l.drop q)).2<s.l.length
    ·have h1':(((q+(dgt (s.l.drop q)).2:Nat):Int)<(s.l.length:Int)):=by omega
     have k42:((s.l[q+(dgt (s.l.drop q)).2].toNat:Int)==42)=decide (s.l[q+(dgt (s.l.drop q)).2]=42):=pL _ 42 (by omega)
     have hhd:(s.l.drop (q+(dgt (s.l.drop q)).2)).head?=some (s.l[q+(dgt (s.l.drop q)).2]):=by rw[cf h1];rfl
     simp only[h0',h1',decide_true,if_true,bX h1,Option.bind_some,k42,h0,true_and,hhd,Option.some.injEq]
     by_cases h42:s.l[q+(dgt (s.l.drop q)).2]=42
     ·simp only[h42,decide_true,if_true,Option.bind_some]
      rw[pH (by omega)];rfl
     ·simp only[h42,decide_false,bV,if_false,Option.bind_some,id]
    ·have h1':¬(((q+(dgt (s.l.drop q)).2:Nat):Int)<(s.l.length:Int)):=by omega
     have hhd:(s.l.drop (q+(dgt (s.l.drop q)).2)).head?=none:=by
      rw[show s.l.drop (q+(dgt (s.l.drop q)).2)=[] from ci.2 (by omega)];rfl
     simp only[h0',h1',decide_true,decide_false,if_true,bV,if_false,Option.bind_some,hhd,reduceCtorEq,and_false,id]
   ·have h0':¬(((q+(dgt (s.l.drop q)).2:Nat):Int)>(q:Int)):=by omega
    simp only[h0',h0,decide_false,bV,if_false,Option.bind_some,false_and,id]
  refine(hstar _).trans ?_
  rw[zGl s _ (by omega),jD (by simp;omega),<- cF]
  simp only[Option.bind_some,cq]
  generalize hu:s.l.drop q=u at hdl hstl ⊢
  have hnm:nmOf (u.drop (star u))<4:=by
   unfold nmOf
   split
   ·omega
   ·split <;> omega
  generalize nmOf (u.drop (star u))=v at hnm ⊢
  by_cases hv:0<=v
  ·have hv':v>=0:=hv
   have hx:idx a.Coefs v=some (a.Coefs.getD v.toNat 0):=by
    rw[zFn hv,cE,bX (by omega)]
    rfl
   by_cases h1:(dgt u).2<star u
   ·have h1':(((q+star u:Nat):Int)>((q+(dgt u).2:Nat):Int)):=by omega
    simp only[hv,hv',h1,h1',decide_true,if_true,Option.bind_some,hx,true_or,and_self]
    rw[pH (by omega)]
   ·have h1':¬(((q+star u:Nat):Int)>((q+(dgt u).2:Nat):Int)):=by omega
    by_cases h2:(dgt u).2=0
    ·have h2':(((q+(dgt u).2:Nat):Int)==(q:Int))=true:=by simp;omega
     simp only[hv,hv',h1,h1',h2',decide_true,decide_false,if_true,bV,if_false,Option.bind_some,hx]
     rw[if_pos ⟨trivial,.inr h2⟩,pH (by omega)]
    ·have h2':(((q+(dgt u).2:Nat):Int)==(q:Int))=false:=by simp;omega
     simp only[hv,hv',h1,h1',h2',h2,decide_true,decide_false,if_true,bV,if_false,Option.bind_some,or_self,and_false]
  ·have hv':¬v>=0:=hv
   simp only[hv,hv',decide_false,bV,if_false,Option.bind_some,false_and]
   by_cases h2:(dgt u).2=0
   ·have h2':(((q+(dgt u).2:Nat):Int)==(q:Int))=true:=by simp;omega
    rw[if_pos h2',if_pos h2]
   ·have h2':(((q+(dgt u).2:Nat):Int)==(q:Int))=false:=by simp;omega
    rw[if_neg (by rw[h2'];simp),if_neg h2]
theorem zBf(a:zA)(s:Str)(p:Nat)(hs:s.l.length<=1048576)(hp:p<s.l.length)(hC:a.Coefs.length=4):
 uM a s (p:Int)=some (let u0:=s.l.drop p;let o:=sgo u0;let u:=s.l.drop (p+o)
  if 0<=nmOf (u.drop (star u))/\((dgt u).2<star u∨(dgt u).2=0) then
   (⟨a.Coefs.set (nmOf (u.drop (star u))).toNat (W (a.Coefs.getD (nmOf (u.drop (star u))).toNat 0+W (signOf u0*(dgt u).1))),a.Const⟩,((p+o+star u+1:Nat):Int))
  else if(dgt u).2=0 then(a,-1) else(⟨a.Coefs,W (a.Const+W (signOf u0*(dgt u).1))⟩,((p+o+(dgt u).2:Nat):Int))):=by
 unfold uM
 have hd0:=cf hp
 have k43:((s.l[p].toNat:Int)==43)=decide (s.l[p]=43):=pL _ 43 (by omega)
 have k45:((s.l[p].toNat:Int)==45)=decide (s.l[p]=45):=pL _ 45 (by omega)
 simp only[sidx,pE,bX hp,k43,k45,Option.pure_def,Option.bind_eq_bind,Option.bind_some]
 rw[hd0]
 simp only[sgo,signOf]
 have hs1:(if(decide (s.l[p]=45))=true then some (-1:Int) else some (id 1))=some (if s.l[p]=45 then -1 else 1):=by
  by_cases h:s.l[p]=45 <;> simp[h]
 have aj:(if(decide (s.l[p]=45))=true then some true else some (decide (s.l[p]=43)))=some (isSg s.l[p]):=by
  unfold isSg
  by_cases h:s.l[p]=45 <;> by_cases h':s.l[p]=43 <;> simp[h,h']
 rw[hs1]
 simp only[Option.bind_some]
 rw[aj]
 simp only[Option.bind_some]
 have az:(if isSg s.l[p]=true then some (W ((p:Int)+1)) else some (id (p:Int)))=some ((p+(if isSg s.l[p]=true then 1 else 0):Nat):Int):=by
  split
  ·rw[pH (by omega)]
  ·rfl
 rw[az]
 simp only[Option.bind_some]
 have ho:p+(if isSg s.l[p]=true then 1 else 0)<=s.l.length:=by split <;> omega
 exact zCr a s hs hC _ _ ho
end Go.LN
namespace Go.LN
open Lib (itoa decDigits)
def Sg(f:List UInt8)(sg:Int):Prop:=(f=[]/\sg=1)∨(f=[43]/\sg=1)∨(f=[45]/\sg=-1)
theorem zH7{b:UInt8}(h:isSg b=false):b ≠ 45:=by rintro rfl;cases h
theorem bodyU(k i:Nat)(hk:1<=k/\k<=9)(hi:i<4)(t:List UInt8):
 dgt (bodyV k i++t)=((k:Int),if k=1 then 0 else 1)/\star (bodyV k i++t)=(if k=1 then 0 else 2)/\nmOf ((bodyV k i++t).drop (if k=1 then 0 else 2))=(i:Int)/\(bodyV k i).length=(if k=1 then 1 else 3)/\isSg ((bodyV k i++t).headD 0)=false/\(bodyV k i++t).headD 0 ≠ 45/\bodyV k i ≠ []:=by
 obtain⟨h1,h2⟩:=hk
 have c1:k=1∨k=2∨k=3∨k=4∨k=5∨k=6∨k=7∨k=8∨k=9:=by omega
 have c2:i=0∨i=1∨i=2∨i=3:=by omega
 rcases c1 with rfl|rfl|rfl|rfl|rfl|rfl|rfl|rfl|rfl <;> rcases c2 with rfl|rfl|rfl|rfl <;> exact⟨rfl,rfl,rfl,rfl,rfl,zH7 rfl,by simp[bodyV,dtx]⟩
theorem dtxU:∀(k:Fin 100),dgt (dtx k.val)=((k.val:Int),(dtx k.val).length)/\star (dtx k.val)=(dtx k.val).length/\isSg ((dtx k.val).headD 0)=false/\(dtx k.val).headD 0 ≠ 45/\dtx k.val ≠ []:=by decide +kernel
theorem zEc{f:List UInt8}{sg:Int}(hf:Sg f sg){u:List UInt8}(hne:u ≠ [])(hu:isSg (u.headD 0)=false)(hn:u.headD 0 ≠ 45):sgo (f++u)=f.length/\signOf (f++u)=sg/\f++u ≠ []:=by
 rcases hf with⟨rfl,rfl⟩|⟨rfl,rfl⟩|⟨rfl,rfl⟩
 ·cases u with
  | nil=>exact absurd rfl hne
  | cons b r=>
   simp only[List.headD_cons] at hu hn;simp[sgo,signOf,hu,hn]
 ·exact⟨rfl,rfl,by simp⟩
 ·exact⟨rfl,rfl,by simp⟩
theorem stepV(T:Str)(hT:T.l.length<=1048576)(p:Nat)(f:List UInt8)(sg:Int)(hf:Sg f sg)(k i:Nat)(hk:1<=k/\k<=9)(hi:i<4)(t:List UInt8)
 (hd:T.l.drop p=f++(bodyV k i++t)) (C:List Int) (K:Int) (hC:C.length=4) :
 ∃q:Nat,uM ⟨C,K⟩ T (p:Int)=some (⟨C.set i (W (C.getD i 0+W (sg*(k:Int)))),K⟩,(q:Int))/\T.l.drop q=t/\p<T.l.length/\q<=T.l.length:=by
 obtain⟨b1,b2,b3,b4,b5,b6,b7⟩:=bodyU k i hk hi t
 obtain⟨s1,s2,s3⟩:=zEc hf (u:=bodyV k i++t) (by simp[b7]) b5 b6
 have hp:p<T.l.length:=by
  rcases cQ p T.l.length with h|h
  ·exact h
  ·rw[ci.2 h] at hd;exact absurd hd.symm s3
 have aE:=congrArg List.length hd
 rw[ce,ca,ca,b4] at aE
 have hu:T.l.drop (p+f.length)=bodyV k i++t:=by
  rw[<- cF,hd,List.drop_left]
 refine⟨p+f.length+(if k=1 then 0 else 2)+1,?_,?_,hp,?_⟩
 ·rw[zBf _ T p hT hp hC]
  simp only[hd,s1,hu,s2,b1,b2,b3,cP]
  rw[if_pos]
  refine⟨by omega,?_⟩
  by_cases h:k=1
  ·right;simp[h]
  ·left;simp[h]
 ·have:p+f.length+(if k=1 then 0 else 2)+1=p+f.length+(bodyV k i).length:=by rw[b4];split <;> omega
  rw[this,<- cF,hu,List.drop_left]
 ·split at aE <;> rename_i h <;> simp only[h,if_true,if_false] <;> omega
theorem stepK(T:Str)(hT:T.l.length<=1048576)(p:Nat)(f:List UInt8)(sg:Int)(hf:Sg f sg)(k:Nat)(hk:k<=99)
 (hd:T.l.drop p=f++dtx k) (C:List Int) (K:Int) (hC:C.length=4) :
 uM ⟨C,K⟩ T (p:Int)=some (⟨C,W (K+W (sg*(k:Int)))⟩,(T.l.length:Int))/\p<T.l.length:=by
 obtain⟨b1,b2,b5,b6,b7⟩:=dtxU ⟨k,by omega⟩
 simp only at b1 b2 b5 b6 b7
 obtain⟨s1,s2,s3⟩:=zEc hf (u:=dtx k) b7 b5 b6
 have hp:p<T.l.length:=by
  rcases cQ p T.l.length with h|h
  ·exact h
  ·rw[ci.2 h] at hd;exact absurd hd.symm s3
 have aE:=congrArg List.length hd
 rw[ce,ca] at aE
 have hu:T.l.drop (p+f.length)=dtx k:=by
  rw[<- cF,hd,List.drop_left]
 have hdl:=rQ k
 refine⟨?_,hp⟩
 rw[zBf _ T p hT hp hC]
 have hnm:nmOf ([]:List UInt8)=-1:=rfl
 simp only[hd,s1,hu,s2,b1,b2,d7,hnm]
 rw[if_neg (by omega),if_neg (by omega)]
 congr 3
 omega
theorem gO(T:Str)(p:Nat)(hp:T.l.length<=p)(x:zA):yO T (p:Int) x=some x:=by
 rw[yO];have h1:((p:Int)>=0):=by omega
 have h2:¬((p:Int)<(T.l.length:Int)):=by omega
 simp[h1,h2]
theorem zCs(T:Str)(p:Nat)(hp:p<T.l.length)(x y:zA)(q:Int)(h:uM x T (p:Int)=some (y,q)):yO T (p:Int) x=yO T q y:=by
 conv=>lhs;rw[yO]
 have h1:((p:Int)>=0):=by omega
 have h2:((p:Int)<(T.l.length:Int)):=by omega
 simp only[h1,h2,decide_true,if_true,Option.pure_def,Option.bind_eq_bind,Option.bind_some,h]
def st(f:Bool)(l:List UInt8):List UInt8:=if f then strip l else l
theorem zGA(f:Bool)(c:Int)(u:List UInt8):∃g,st f (sgn c::u)=g++u/\Sg g (if c<0 then -1 else 1):=by
 unfold st strip sgn;by_cases hc:c<0
 ·exact⟨[45],by simp[hc],by simp[Sg,hc]⟩
 ·cases f with
  | true=>exact⟨[],by simp[hc],by simp[Sg,hc]⟩
  | false=>exact⟨[43],by simp[hc],by simp[Sg,hc]⟩
theorem zDa(T:Str)(hT:T.l.length<=1048576)(k:Int)(hk:constB k=true):∀(cs pre:List Int) (f:Bool) (p:Nat),(∀c∈cs,coefB c=true)->pre.length+cs.length=4->p<=T.l.length ->
 T.l.drop p=st f (T0 cs pre.length++TK k)->yO T (p:Int) ⟨pre++List.replicate cs.length 0,0⟩=some ⟨pre++cs,k⟩:=by
 intro cs
 induction cs with
 | nil=>
  intro pre f p hc hl hp hd
  simp only[T0,cq,co,List.replicate_zero,cr] at hl hd ⊢
  simp only[constB,bW,decide_eq_true_eq] at hk
  by_cases h0:k=0
  ·subst h0
   have:T.l.length<=p:=by
    rw[TK,if_pos rfl] at hd
    have:st f []=[]:=by cases f <;> rfl
    rw[this] at hd
    exact ci.1 hd
   exact gO T p this _
  ·rw[TK,if_neg h0] at hd
   obtain⟨g,hg,hs⟩:=zGA f k (dtx k.natAbs)
   rw[hg] at hd
   obtain⟨e1,e2⟩:=stepK T hT p g _ hs k.natAbs (by omega) hd pre 0 hl
   rw[zCs T p e2 _ _ _ e1,dL k (by omega)]
   exact gO T _ (cu _) _
 | cons c cs ih=>
  intro pre f p hc hl hp hd
  have ay:=hc c (b9 ..)
  have aJ:∀y∈cs,coefB y=true:=λy hy=>hc y (bZ _ hy)
  simp only[coefB,bW,decide_eq_true_eq] at ay
  simp only[bY] at hl
  have ih':=λg q=>ih (pre++[c]) g q aJ (by simp;omega)
  simp only[ca,List.length_singleton,cA] at ih'
  by_cases h0:c=0
  ·subst h0
   rw[T0,if_pos rfl,cq] at hd
   simpa [de] using ih' f p hp hd
  ·rw[T0,if_neg h0,cA,cy] at hd
   obtain⟨g,hg,hs⟩:=zGA f c (bodyV c.natAbs pre.length++(T0 cs (pre.length+1)++TK k))
   rw[hg] at hd
   obtain⟨q,e1,e2,e3,e4⟩:=stepV T hT p g _ hs c.natAbs pre.length (by omega) (by omega) _ hd (pre++List.replicate (cs.length+1) 0) 0 (by simp;omega)
   have hgd:(pre++List.replicate (cs.length+1) (0:Int)).getD pre.length 0=0:=by
    rw[cE,dn (cu _),Nat.sub_self,de];rfl
   have hset:(pre++List.replicate (cs.length+1) (0:Int)).set pre.length c=pre++([c]++List.replicate cs.length 0):=by
    rw[List.set_append_right _ _ (cu _),Nat.sub_self,de];rfl
   rw[bY,zCs T p e3 _ _ _ e1,hgd,dL c (by omega),hset]
   exact ih' false q e4 e2
theorem jF(a:zA)(ha:validB a=true):yO ⟨tx a⟩ 0 ⟨[0,0,0,0],0⟩=some a:=by
 have hv:=ha;simp only[validB,bW,decide_eq_true_eq] at hv;obtain⟨⟨h4,hk⟩,hall⟩:=hv;have htl:=mV ha;have ap:List.replicate 4 (0:Int)=[0,0,0,0]:=rfl;have bm:=λc hc=>b8.1 hall c hc;by_cases hr:raw a=[]
 ·have key:=zDa ⟨[]⟩ (by simp) a.Const hk a.Coefs [] false 0 bm (by simp[h4]) (by simp) (by rw[co];exact hr.symm);rw[cq,cq,h4,ap] at key;have hend:=gO ⟨[]⟩ 0 (by simp) ⟨[0,0,0,0],0⟩;rw[hend] at key;have ea:(⟨[0,0,0,0],0⟩:zA)=a:=by
   simp only[Option.some.injEq] at key;exact key
  unfold tx;rw[if_pos hr];obtain⟨e1,e2⟩:=stepK ⟨[48]⟩ (by simp) 0 [] 1 (.inl ⟨rfl,rfl⟩) 0 (by omega) rfl [0,0,0,0] 0 rfl;have:=zCs ⟨[48]⟩ 0 e2 _ _ _ e1;rw[cS] at this;rw[this,gO _ _ (cu _),<- ea];rfl
 ·unfold tx at htl ⊢;rw[if_neg hr] at htl ⊢;have key:=zDa ⟨strip (raw a)⟩ (by simp only;omega) a.Const hk a.Coefs [] true 0 bm (by simp[h4]) (by simp) (by rw[co];rfl);rw[cq,cq,h4,ap] at key;exact key
theorem specFormat(a:zA)(h:a.Coefs.length<=1048576):uI a=some (if validB a then⟨tx a⟩ else⟨[]⟩):=by
 unfold uI;rw[specValid a h];cases hv:validB a with
 | false=>rfl
 | true=>simp[zA0 a hv]
theorem zHs(a:zA)(ha:validB a=true):tx a ≠ []:=by
 unfold tx;split
 ·simp
 ·rename_i h;rcases zCW a ha with h' | ⟨c,b,t,h',hb,hn⟩
  ·exact absurd h' h
  ·rw[h',strip];split
   ·simp[hn]
   ·simp
theorem zCt{a b:zA}(ha:validB a=true)(hb:validB b=true)(h:tx a=tx b):a=b:=by
 have e1:=jF a ha;rw[h,jF b hb,Option.some.injEq] at e1;exact e1.symm
theorem zCG(s:Str)(h0:s.l.length<=1000000):∃x,yO s 0 ⟨[0,0,0,0],0⟩=some x/\VA x:=by
 have:=(mC s h0 (s.l.length+2) 0 ⟨[0,0,0,0],0⟩).ok ⟨⟨by omega,by omega,by omega⟩,rfl,by simp[I64],by simp[I64]⟩ (λx=>VA x) (λx hx=>hx);exact this
theorem specParse(t:Str)(hl:t.l.length<=1000000):∃r,vW t=some r/\ResA t.l r:=by
 obtain⟨t⟩:=t;simp only at hl;unfold vW;have hz:tW=some ⟨[0,0,0,0],0⟩:=rfl;simp only[hz,Option.bind_eq_bind,Option.bind_some,Option.pure_def];by_cases h40:t.length>40
 ·have:((t.length:Nat):Int)>40:=by omega
  simp only[this,decide_true,if_true];exact⟨_,rfl,.inr ⟨rfl,rfl,λa hv e=>by have:=mV hv;rw[<- e] at this;omega⟩⟩
 ·have:¬((t.length:Nat):Int)>40:=by omega
  simp only[this,decide_false,bV,if_false];obtain⟨x,hx,hvx⟩:=zCG ⟨t⟩ hl;rw[hx];simp only[Option.bind_some];rw[specFormat x (by rw[hvx.1];decide)];simp only[Option.bind_some];have hval:∀a,validB a=true->t=tx a->a=x:=by
   rintro a hv rfl;rw[jF a hv,Option.some.injEq] at hx;exact hx
  cases hv:validB x with
  | false=>
   simp only[bV,if_false];have hno:∀a,validB a=true->t ≠ tx a:=λa hva e=>by rw[hval a hva e,hv] at hva;cases hva
   by_cases ht:t=[]
   ·exact absurd ht (by
     intro ht;subst ht;have:=gO ⟨[]⟩ 0 (by simp) ⟨[0,0,0,0],0⟩;rw[cS,hx,Option.some.injEq] at this;subst this;exact absurd hv (by decide))
   ·have:(([]:List UInt8)==t)=false:=by simpa using ht
    simp only[this,cB,if_true];exact⟨_,rfl,.inr ⟨rfl,rfl,hno⟩⟩
  | true=>
   simp only[if_true];cases he:tx x==t with
   | true=>
    simp only[cJ,bV,if_false];exact⟨_,rfl,.inl ⟨rfl,hv,(beq_iff_eq.1 he).symm⟩⟩
   | false=>
    simp only[cB,if_true];exact⟨_,rfl,.inr ⟨rfl,rfl,λa hva e=>by rw[hval a hva e] at e;rw[e] at he;simp at he⟩⟩
end Go.LN
namespace Go.LN
open Lib (itoa decDigits)
def pre(p:List UInt8):List (List UInt8)->List (List UInt8)
 | []=>[p]
 | h::t=>(p++h)::t
def cutS(c:UInt8):List UInt8->List (List UInt8)
 | []=>[[]]
 | b::l=>if b=c then[]::cutS c l else pre [b] (cutS c l)
theorem zGn(p q:List UInt8)(X:List (List UInt8)):pre p (pre q X)=pre (p++q) X:=by
 cases X <;> simp[pre]
theorem zH8(p:List UInt8)(X:List (List UInt8)):pre p X ≠ []:=by
 cases X <;> simp[pre]
theorem gP(c:UInt8):∀l,cutS c l ≠ []
 | []=>by simp[cutS]
 | b::l=>by
  unfold cutS
  split
  ·simp
  ·exact zH8 _ _
theorem zEd{X:List (List UInt8)}(h:X ≠ []):pre [] X=X:=by
 cases X with
 | nil=>exact absurd rfl h
 | cons=>simp[pre]
theorem zGo(p:List UInt8)(X:List (List UInt8))(h:X ≠ []):(pre p X).length=X.length:=by
 cases X with
 | nil=>exact absurd rfl h
 | cons=>simp[pre]
theorem zEe(c:UInt8):∀l,(cutS c l).length<=l.length+1
 | []=>by simp[cutS]
 | b::l=>by
  have:=zEe c l
  unfold cutS
  split
  ·simp;omega
  ·rw[zGo _ _ (gP c l)];simp;omega
theorem zBg{α:Type}(s:List α){f i:Nat}(hf:f<=i)(hi:i<s.length):(s.take (i+1)).drop f=(s.take i).drop f++[s[i]]:=by
 rw[cY,bX hi,List.drop_append_of_le_length (by rw[cd];omega)];rfl
theorem zH9(s:Str)(c:UInt8)(hs:s.l.length<=1048576):∀j i f (aF:List Str),i+j=s.l.length->f<=i->aF.length<=i ->
 wO s c aF (f:Int) (i:Int)=some (aF++(pre ((s.l.take i).drop f) (cutS c (s.l.drop i))).map Str.mk):=by
 intro j
 induction j with
 | zero=>
  intro i f aF hi hf ho
  rw[wO]
  have h1:((i:Int)<=(s.l.length:Int)):=by omega
  have h2:((i:Int)==(s.l.length:Int))=true:=by simp;omega
  simp only[h1,h2,decide_true,if_true,Option.pure_def,Option.bind_eq_bind,Option.bind_some,pV hf (by omega:i<=s.l.length)]
  rw[jD (by simp;omega)]
  simp only[Option.bind_some]
  rw[pH (by omega),wO]
  have h3:¬(((i+1:Nat):Int)<=(s.l.length:Int)):=by omega
  simp only[h3,decide_false,bV,if_false]
  rw[show s.l.drop i=[] from ci.2 (by omega)]
  simp[cutS,pre]
 | succ j ih=>
  intro i f aF hi hf ho
  rw[wO]
  have av:i<s.l.length:=by omega
  have h1:((i:Int)<=(s.l.length:Int)):=by omega
  have h2:((i:Int)==(s.l.length:Int))=false:=by simp;omega
  simp only[h1,h2,decide_true,if_true,bV,if_false,sidx,pE,bX av,Option.pure_def,Option.bind_eq_bind,Option.bind_some,zCS]
  rw[cf av]
  by_cases hc:s.l[i]=c
  ·simp only[hc,decide_true,if_true,pV hf (by omega:i<=s.l.length),Option.bind_some]
   rw[jD (by simp;omega)]
   simp only[Option.bind_some]
   rw[pH (by omega),ih (i+1) (i+1) _ (by omega) (by omega) (by simp;omega)]
   rw[ci.2 (show (s.l.take (i+1)).length<=i+1 by rw[cd];omega),zEd (gP _ _)]
   simp[cutS,pre]
  ·simp only[hc,decide_false,bV,if_false,Option.bind_some]
   rw[pH (by omega),ih (i+1) f aF (by omega) (by omega) (by omega)]
   rw[zBg _ hf av]
   conv=>rhs;unfold cutS
   rw[if_neg hc,zGn]
theorem zFN(s:Str)(c:UInt8)(hs:s.l.length<=1048576):rJ s c=some ((cutS c s.l).map Str.mk):=by
 unfold rJ;have:=zH9 s c hs s.l.length 0 0 [] (by omega) (by omega) (by simp);simp only[cS] at this;rw[this];simp[zEd (gP _ _)]
theorem zDb(c:UInt8):∀s:List UInt8,Lib.split s [c]=cutS c s
 | []=>by rw[Lib.split,Lib.count_miss (by simp[Lib.index])];rfl
 | b::l=>by
  have ih:=zDb c l
  unfold Lib.split at ih ⊢
  unfold cutS
  by_cases h:b=c
  ·subst h
   rw[if_pos rfl,Lib.count_cons_eq,<- ih,Nat.add_comm 1]
   have hix:Lib.index (b::l) [b]=0:=by rw[Lib.index];simp[List.isPrefixOf]
   rw[Lib.splitK,hix]
   simp
  ·rw[if_neg h,Lib.count_cons_ne b c l h,<- ih]
   have hp:([c]:List UInt8).isPrefixOf (b::l)=false:=by simp[List.isPrefixOf,Ne.symm h]
   have hix:Lib.index (b::l) [c]=if Lib.index l [c] == -1 then -1 else Lib.index l [c]+1:=by rw[Lib.index,hp];simp
   cases Lib.count l [c] with
   | zero=>rfl
   | succ k=>
    rw[Lib.splitK,Lib.splitK,hix]
    by_cases hm:Lib.index l [c]=-1
    ·simp[hm,pre]
    ·have hge:=Lib.index_ge l [c]
     obtain⟨j,hj⟩:∃j:Nat,Lib.index l [c]=j:=⟨(Lib.index l [c]).toNat,by omega⟩
     have e1:¬(Lib.index l [c] == -1)=true:=by simp[hm]
     rw[if_neg e1,if_neg e1,hj]
     have e2:¬(((j:Int)+1 == -1)=true):=by simp;omega
     rw[if_neg e2]
     have e3:((j:Int)+1).toNat=j+1:=by omega
     simp[pre,e3]
theorem zGB(s:Str)(c:UInt8)(hs:s.l.length<=1048576):qH s ⟨[c]⟩=some ((cutS c s.l).map Str.mk):=by
 unfold qH splitM;rw[if_pos ⟨by omega,by simp⟩,zDb]
theorem zBh{c:UInt8}:∀{w:List UInt8},c ∉ w->cutS c w=[w]
 | [],_=>rfl
 | b::w,h=>by
  rw[cutS,if_neg (λe=>h (by rw[e];exact b9 ..)),zBh (λe=>h (bZ _ e))]
  rfl
theorem dM{c:UInt8}{r:List UInt8}:∀{w:List UInt8},c ∉ w->cutS c (w++c::r)=w::cutS c r
 | [],_=>by simp[cutS]
 | b::w,h=>by
  rw[cy,cutS,if_neg (λe=>h (by rw[e];exact b9 ..)),dM (λe=>h (bZ _ e))]
  rfl
def joinS(c:UInt8):List (List UInt8)->List UInt8
 | []=>[]
 | [x]=>x
 | x::y::t=>x++c::joinS c (y::t)
theorem zGC(c:UInt8)(p:List UInt8):∀X,X ≠ []->joinS c (pre p X)=p++joinS c X
 | [],h=>absurd rfl h
 | [x],_=>rfl
 | x::y::t,_=>by simp[pre,joinS]
theorem zDc(c:UInt8):∀s,joinS c (cutS c s)=s
 | []=>rfl
 | b::l=>by
  have ih:=zDc c l
  unfold cutS
  split
  ·rename_i h
   subst h
   cases hx:cutS b l with
   | nil=>exact absurd hx (gP _ _)
   | cons x t=>rw[hx] at ih;simp[joinS,ih]
  ·rw[zGC _ _ _ (gP _ _),ih];rfl
theorem zCu{c:UInt8}:∀{s x},x∈cutS c s->x.length<=s.length
 | [],x,h=>by simp[cutS] at h;simp[h]
 | b::l,x,h=>by
  have ih:∀y∈cutS c l,y.length<=l.length:=λy hy=>zCu hy
  unfold cutS at h
  split at h
  ·rcases cg.1 h with rfl|h
   ·simp
   ·have:=ih _ h;simp;omega
  ·cases hx:cutS c l with
   | nil=>exact absurd hx (gP _ _)
   | cons y t=>
    rw[hx] at h ih
    rcases cg.1 h with rfl|h
    ·have:=ih y (b9 ..);simp;omega
    ·have:=ih x (bZ _ h);simp;omega
end Go.LN
namespace Go.LN
def afc(b:UInt8):Bool:=b==42||b==43||b==45||(decide (48<=b.toNat)&&decide (b.toNat<=57))||(decide (105<=b.toNat)&&decide (b.toNat<=108))
theorem zFO:∀(k:Fin 10) (i:Fin 4),(bodyV k.val i.val).all afc=true:=by decide +kernel
theorem zGp:∀k:Fin 100,(dtx k.val).all afc=true:=by decide +kernel
theorem zEf(c:Int):afc (sgn c)=true:=by unfold sgn;split <;> rfl
theorem zGD:∀(cs:List Int) (i:Nat),(∀c∈cs,coefB c=true)->i+cs.length<=4->(T0 cs i).all afc=true
 | [],_,_,_=>rfl
 | c::cs,i,h,hi=>by
  have h1:=h c (b9 ..)
  simp only[coefB,bW,decide_eq_true_eq] at h1
  simp only[bY] at hi
  have ih:=zGD cs (i+1) (λx hx=>h x (bZ _ hx)) (by omega)
  unfold T0
  by_cases h0:c=0
  ·simpa [h0] using ih
  ·have hb:=zFO ⟨c.natAbs,by omega⟩ ⟨i,by omega⟩
   simp only[h0,if_false,d9,cG]
   simp only at hb
   rw[zEf,hb,ih];rfl
theorem zHa(k:Int)(h:constB k=true):(TK k).all afc=true:=by
 simp only[constB,bW,decide_eq_true_eq] at h;unfold TK;split
 ·rfl
 ·have hb:=zGp ⟨k.natAbs,by omega⟩;simp only[cG];simp only at hb;rw[zEf,hb];rfl
theorem zFP{l:List UInt8}(h:l.all afc=true):(strip l).all afc=true:=by
 unfold strip;split
 ·rfl
 ·rw[cG,bW] at h;split
  ·exact h.2
  ·rw[cG,h.1,h.2];rfl
theorem zHb{a:zA}(ha:validB a=true):(tx a).all afc=true:=by
 simp only[validB,bW,decide_eq_true_eq] at ha;obtain⟨⟨h4,hk⟩,hall⟩:=ha;unfold tx;split
 ·rfl
 ·refine zFP ?_;unfold raw;rw[d9,zGD _ 0 (λc hc=>b8.1 hall c hc) (by omega),zHa _ hk];rfl
theorem zA4{a:zA}(ha:validB a=true){c:UInt8}(hc:afc c=false):c ∉ tx a:=λh=>by
 have:=b8.1 (zHb ha) c h;rw[hc] at this;cases this
theorem dO{c b:UInt8}:∀{X:List (List UInt8)},b∈joinS c X->b=c∨∃x∈X,b∈x
 | [],h=>by simp[joinS] at h
 | [x],h=>.inr ⟨x,b9 ..,h⟩
 | x::y::t,h=>by
  rcases cH.1 h with h|h
  ·exact .inr ⟨x,b9 ..,h⟩
  ·rcases cg.1 h with h|h
   ·exact .inl h
   ·rcases dO h with h|⟨z,hz,h⟩
    ·exact .inl h
    ·exact .inr ⟨z,bZ _ hz,h⟩
theorem zDd{c:UInt8}:∀{X:List (List UInt8)},X ≠ []->(∀x∈X,c ∉ x)->cutS c (joinS c X)=X
 | [],h,_=>absurd rfl h
 | [x],_,h=>zBh (h x (b9 ..))
 | x::y::t,_,h=>by
  rw[joinS,dM (h x (b9 ..)),zDd (by simp) λz hz=>h z (bZ _ hz)]
def sdT(l:List zA):List UInt8:=joinS 44 (l.map tx)
def allV(l:List zA):Prop:=l ≠ []/\∀a∈l,validB a=true
theorem zDe{l:List zA}{d:Int}(h:sideB l d=true):allV l/\l.length<=2:=by
 unfold sideB at h;simp only[bW,decide_eq_true_eq,b8] at h;obtain⟨⟨h1,h2⟩,h3⟩:=h;refine⟨⟨λe=>by rw[e] at h1;simp at h1,λa ha=>?_⟩,h2⟩;have:=h3 a ha;unfold okA at this;exact(bW _ _ ▸ this).1
theorem gQ{l:List zA}(h:allV l):cutS 44 (sdT l)=l.map tx:=by
 refine zDd (λe=>h.1 (List.map_eq_nil_iff.1 e)) λx hx=>?_;obtain⟨a,ha,rfl⟩:=dj.1 hx;exact zA4 (h.2 a ha) rfl
theorem oV{l:List zA}(h:allV l){c:UInt8}(hc:afc c=false)(h44:c ≠ 44):c ∉ sdT l:=λhm=>by
 rcases dO hm with e|⟨x,hx,hm⟩
 ·exact h44 e
 ·obtain⟨a,ha,rfl⟩:=dj.1 hx;exact zA4 (h.2 a ha) hc hm
theorem zBi:∀{l k:List zA},(∀a∈l,validB a=true)->(∀a∈k,validB a=true)->l.map tx=k.map tx->l=k
 | [],[],_,_,_=>rfl
 | [],_::_,_,_,h=>by cases h
 | _::_,[],_,_,h=>by cases h
 | a::l,b::k,h1,h2,h=>by
  rw[cM,cM,List.cons.injEq] at h
  rw[zCt (h1 a (b9 ..)) (h2 b (b9 ..)) h.1,zBi (λx hx=>h1 x (bZ _ hx)) (λx hx=>h2 x (bZ _ hx)) h.2]
theorem dP{l k:List zA}(h1:allV l)(h2:allV k)(h:sdT l=sdT k):l=k:=
 zBi h1.2 h2.2 (by rw[<- gQ h1,<- gQ h2,h])
def lpT(l:yD):List UInt8:=[102,111,114]++32::(sdT l.Lo++32::sdT l.Hi)
def ntT(n:List yD):List UInt8:=n.flatMap λl=>lpT l++[10]
def LV(l:yD):Prop:=allV l.Lo/\allV l.Hi
theorem zDf{l:yD}(h:LV l):cutS 32 (lpT l)=[[102,111,114],sdT l.Lo,sdT l.Hi]:=by
 unfold lpT;rw[dM (by decide),dM (oV h.1 rfl (by decide)),zBh (oV h.2 rfl (by decide))]
theorem zGE{l:yD}(h:LV l):(10:UInt8) ∉ lpT l:=λhm=>by
 unfold lpT at hm;simp only[cH,cg,List.mem_nil_iff,or_false] at hm;rcases hm with(hm|hm|hm)|hm|hm|hm|hm
 ·revert hm;decide
 ·revert hm;decide
 ·revert hm;decide
 ·revert hm;decide
 ·exact oV h.1 rfl (by decide) hm
 ·revert hm;decide
 ·exact oV h.2 rfl (by decide) hm
theorem zGF{l k:yD}(h1:LV l)(h2:LV k)(h:lpT l=lpT k):l=k:=by
 have e:=zDf h1;rw[h,zDf h2] at e;simp only[List.cons.injEq,and_true,true_and] at e;obtain⟨a,b⟩:=l;obtain⟨c,d⟩:=k;rw[show a=c from dP h1.1 h2.1 e.1.symm,show b=d from dP h1.2 h2.2 e.2.symm]
theorem zBj{r:List UInt8}:∀{n:List yD},(∀l∈n,LV l)->cutS 10 (ntT n++r)=n.map lpT++cutS 10 r
 | [],_=>rfl
 | l::n,h=>by
  have e:ntT (l::n)++r=lpT l++10::(ntT n++r):=by simp[ntT]
  rw[e,dM (zGE (h l (b9 ..))),zBj λx hx=>h x (bZ _ hx)];rfl
theorem zGq{n:List yD}(h:nestB n=true):n.length<=4/\∀l∈n,LV l/\l.Lo.length<=2/\l.Hi.length<=2:=by
 unfold nestB at h;simp only[bW,decide_eq_true_eq,b8,cw] at h;refine⟨h.1,λl hl=>?_⟩;obtain⟨i,hi,rfl⟩:=List.mem_iff_getElem.1 hl;have:=h.2 i hi;rw[cE,bX hi,Option.getD_some] at this;obtain⟨h1,h2⟩:=zDe this.1;obtain⟨h3,h4⟩:=zDe this.2;exact⟨⟨h1,h3⟩,h2,h4⟩
theorem zBk:∀{l k:List yD},(∀a∈l,LV a)->(∀a∈k,LV a)->l.map lpT=k.map lpT->l=k
 | [],[],_,_,_=>rfl
 | [],_::_,_,_,h=>by cases h
 | _::_,[],_,_,h=>by cases h
 | a::l,b::k,h1,h2,h=>by
  rw[cM,cM,List.cons.injEq] at h
  rw[zGF (h1 a (b9 ..)) (h2 b (b9 ..)) h.1,zBk (λx hx=>h1 x (bZ _ hx)) (λx hx=>h2 x (bZ _ hx)) h.2]
theorem zGG{n m:List yD}(h1:∀l∈n,LV l)(h2:∀l∈m,LV l)(h:ntT n=ntT m):n=m:=by
 have e1:=zBj (r:=[]) h1;have e2:=zBj (r:=[]) h2;rw[h,e2] at e1;exact zBk h1 h2 (List.append_cancel_right e1).symm
end Go.LN
namespace Go.LN
theorem zBl{c:UInt8}:∀{u v r s:List UInt8},c ∉ u->c ∉ v->u++c::r=v++c::s->u=v/\r=s
 | [],[],_,_,_,_,h=>⟨rfl,(List.cons.inj h).2⟩
 | [],b::v,_,_,_,h2,h=>by
  have:=(List.cons.inj h).1
  exact absurd (cg.2 (.inl this)) h2
 | a::u,[],_,_,h1,_,h=>by
  have:=(List.cons.inj h).1
  exact absurd (cg.2 (.inl this.symm)) h1
 | a::u,b::v,_,_,h1,h2,h=>by
  obtain⟨e1,e2⟩:=List.cons.inj h
  obtain⟨e3,e4⟩:=zBl (λhm=>h1 (bZ _ hm)) (λhm=>h2 (bZ _ hm)) e2
  exact⟨by rw[e1,e3],e4⟩
def acT(a:zE):List UInt8:=a.Array.l++91::(sdT a.Subs++[93])
theorem qT{a:zE}{d:Int}(h:accB a d=true):(∃c:UInt8,a.Array=⟨[c]⟩/\65<=c.toNat/\c.toNat<=68)/\allV a.Subs/\a.Subs.length<=2:=by
 unfold accB at h;simp only[bW,decide_eq_true_eq,b8] at h;obtain⟨⟨h1,h2,h3⟩,h4⟩:=h;refine⟨?_,⟨λe=>by rw[e] at h2;simp at h2,λx hx=>?_⟩,h3⟩
 ·obtain⟨⟨l⟩,s⟩:=a;simp only at h1
  match l,h1 with
  | [c],h1=>
   unfold nameL at h1;simp only[bW,decide_eq_true_eq] at h1;exact⟨c,rfl,h1.1,h1.2⟩
 ·have:=h4 x hx;unfold okA at this;exact(bW _ _ ▸ this).1
theorem zGH{a b:zE}{d d':Int}(ha:accB a d=true)(hb:accB b d'=true){r s:List UInt8}(h:acT a++r=acT b++s):a=b/\r=s:=by
 obtain⟨⟨c,e1,_⟩,v1,_⟩:=qT ha;obtain⟨⟨c',e2,_⟩,v2,_⟩:=qT hb;obtain⟨na,sa⟩:=a;obtain⟨nb,sb⟩:=b;simp only at e1 e2 v1 v2;subst e1;subst e2;have h:c::91::(sdT sa++93::r)=c'::91::(sdT sb++93::s):=by simpa [acT] using h
 rw[List.cons.injEq,List.cons.injEq] at h;obtain⟨h1,_,h2⟩:=h;obtain⟨h3,h4⟩:=zBl (oV v1 rfl (by decide)) (oV v2 rfl (by decide)) h2;subst h1;rw[dP v1 v2 h3];exact⟨rfl,h4⟩
theorem zGI{a:zE}{d:Int}(ha:accB a d=true):∃(c:UInt8) (t:List UInt8),acT a=c::t/\65<=c.toNat/\c.toNat<=68:=by
 obtain⟨⟨c,e1,h1,h2⟩,_⟩:=qT ha;exact⟨c,_,by unfold acT;rw[e1];rfl,h1,h2⟩
def opc(k:Int):UInt8:=if k=4 then 43 else if k=5 then 45 else 42
def exT:Nat->zB->List UInt8
 | 0,_=>[]
 | n+1,e=>if e.Kind=1 then dtx e.Num.toNat else if e.Kind=2 then 123::(tx e.Index++[125]) else if e.Kind=3 then acT e.Read
  else match e.Kids with
  | [x,y]=>40::(exT n x++opc e.Kind::(exT n y++[41]))
  | _=>[]
def isDig(b:UInt8):Bool:=decide (48<=b.toNat)&&decide (b.toNat<=57)
def noDig(r:List UInt8):Prop:=r=[]∨∃b t,r=b::t/\isDig b=false
theorem zEg:∀{u v r s:List UInt8},u.all isDig=true->v.all isDig=true->noDig r->noDig s->u++r=v++s->u=v/\r=s
 | [],[],_,_,_,_,_,_,h=>⟨rfl,h⟩
 | [],b::v,r,s,_,h2,h3,_,h=>by
  have h:r=b::(v++s):=h
  rcases h3 with e|⟨c,t,e,hc⟩
  ·rw[e] at h;cases h
  ·rw[e,List.cons.injEq] at h
   rw[h.1] at hc
   rw[cG,hc] at h2;cases h2
 | a::u,[],r,s,h1,_,_,h4,h=>by
  have h:a::(u++r)=s:=h
  rcases h4 with e|⟨c,t,e,hc⟩
  ·rw[e] at h;cases h
  ·rw[e,List.cons.injEq] at h
   rw[<- h.1] at hc
   rw[cG,hc] at h1;cases h1
 | a::u,b::v,r,s,h1,h2,h3,h4,h=>by
  rw[cy,cy,List.cons.injEq] at h
  rw[cG,bW] at h1 h2
  obtain⟨e1,e2⟩:=zEg h1.2 h2.2 h3 h4 h.2
  exact⟨by rw[h.1,e1],e2⟩
theorem dQ:∀k:Fin 100,(dtx k.val).all isDig=true/\dtx k.val ≠ []:=by decide +kernel
theorem zGr:∀(k m:Fin 100),dtx k.val=dtx m.val->k=m:=by
 intro k m h;have h1:=(gX k).1;rw[h,(gX m).1] at h1;have:(m.val:Int)=(k.val:Int):=Option.some.inj h1;exact Fin.ext (by omega)
theorem zES{a:zA}(h:noA a=true):a=⟨[],0⟩:=by
 unfold noA at h;simp only[bW,decide_eq_true_eq,beq_iff_eq] at h;obtain⟨c,k⟩:=a;have h1:c=[]:=di h.1;have h2:k=0:=h.2;rw[h1,h2]
theorem zET{a:zE}(h:noC a=true):a=⟨⟨[]⟩,[]⟩:=by
 unfold noC at h;simp only[bW,decide_eq_true_eq,beq_iff_eq] at h;obtain⟨⟨l⟩,s⟩:=a;simp only at h;rw[h.1,di h.2]
inductive Node (d:Int) (n:Nat):zB->Prop where
 | num (k:Nat) (h:k<=99):Node d n (.mk 1 k ⟨[],0⟩ ⟨⟨[]⟩,[]⟩ [])
 | ix (a:zA) (h:okA d a=true):Node d n (.mk 2 0 a ⟨⟨[]⟩,[]⟩ [])
 | rd (a:zE) (h:accB a d=true):Node d n (.mk 3 0 ⟨[],0⟩ a [])
 | op (k:Int) (x y:zB) (hk:k=4∨k=5∨k=6) (hx:shapeB d n x=true) (hy:shapeB d n y=true):Node d n (.mk k 0 ⟨[],0⟩ ⟨⟨[]⟩,[]⟩ [x,y])
theorem mN{d:Int}{n:Nat}{e:zB}(h:shapeB d (n+1) e=true):Node d n e:=by
 obtain⟨K,N,I,R,Q⟩:=e;unfold shapeB at h;simp only[bW,beq_iff_eq,b8] at h;obtain⟨⟨hk,ho⟩,hq⟩:=h;have hk:kidsN K=(Q.length:Int):=hk;have hq:∀x∈Q,shapeB d n x=true:=hq;unfold ownB at ho;have ho:(if K=2 then(N==0)&&noC R&&okA d I else if K=3 then(N==0)&&noA I&&accB R d else if K=1 then(decide (0<=N)&&decide (N<=99))&&noA I&&noC R else(N==0)&&noA I&&noC R)=true:=ho;have leaf:kidsN K=0->Q=[]:=λe=>di (by omega);by_cases k2:K=2
 ·subst k2;simp only[if_true,bW,beq_iff_eq] at ho;rw[leaf rfl,ho.1.1,zET ho.1.2];exact .ix I ho.2
 ·by_cases k3:K=3
  ·subst k3;rw[if_neg (by decide),if_pos rfl] at ho;simp only[bW,beq_iff_eq] at ho;rw[leaf rfl,ho.1.1,zES ho.1.2];exact .rd R ho.2
  ·rw[if_neg k2,if_neg k3] at ho;by_cases k1:K=1
   ·subst k1;rw[if_pos rfl] at ho;simp only[bW,decide_eq_true_eq] at ho;obtain⟨⟨⟨n1,n2⟩,n3⟩,n4⟩:=ho;obtain⟨k,rfl⟩:∃k:Nat,N=(k:Int):=⟨N.toNat,by omega⟩;rw[leaf rfl,zES n3,zET n4];exact .num k (by omega)
   ·rw[if_neg k1] at ho;simp only[bW,beq_iff_eq] at ho;have hkk:K=4∨K=5∨K=6:=by
     unfold kidsN at hk;rw[if_neg (by omega)] at hk;by_cases hh:K=4∨K=5∨K=6
     ·exact hh
     ·rw[if_neg hh] at hk;omega
    have hl:Q.length=2:=by
     unfold kidsN at hk;rw[if_neg (by omega),if_pos hkk] at hk;omega
    rw[ho.1.1,zES ho.1.2,zET ho.2]
    match Q,hl,hq with
    | [x,y],_,hq=>exact .op K x y hkk (hq x (by simp)) (hq y (by simp))
theorem gR{n k:Nat}{I:zA}{R:zE}{Q:List zB}:exT (n+1) (.mk 1 k I R Q)=dtx k:=by
 rw[exT];exact if_pos rfl
theorem zAb{n:Nat}{N:Int}{I:zA}{R:zE}{Q:List zB}:exT (n+1) (.mk 2 N I R Q)=123::(tx I++[125]):=by
 rw[exT];exact(if_neg (by decide:¬(2:Int)=1)).trans (if_pos rfl)
theorem zAc{n:Nat}{N:Int}{I:zA}{R:zE}{Q:List zB}:exT (n+1) (.mk 3 N I R Q)=acT R:=by
 rw[exT];exact(if_neg (by decide:¬(3:Int)=1)).trans ((if_neg (by decide:¬(3:Int)=2)).trans (if_pos rfl))
theorem zAd{n:Nat}{k N:Int}{I:zA}{R:zE}{x y:zB}(hk:k=4∨k=5∨k=6):exT (n+1) (.mk k N I R [x,y])=40::(exT n x++opc k::(exT n y++[41])):=by
 rw[exT];exact(if_neg (show ¬k=1 by omega)).trans ((if_neg (show ¬k=2 by omega)).trans (if_neg (show ¬k=3 by omega)))
theorem zBm{k:Nat}(h:k<=99):∃c t,dtx k=c::t/\isDig c=true:=by
 obtain⟨h1,h2⟩:=dQ ⟨k,by omega⟩;cases hd:dtx k with
 | nil=>exact absurd hd h2
 | cons c t=>
  refine⟨c,t,rfl,?_⟩;simp only at h1;rw[hd,cG,bW] at h1;exact h1.1
def hdK(c:UInt8):Nat:=if isDig c then 1 else if c=123 then 2 else if c=40 then 4 else 3
theorem zGs{c:UInt8}(h1:65<=c.toNat)(h2:c.toNat<=68):hdK c=3:=by
 unfold hdK isDig;have e1:¬c=123:=by rintro rfl;revert h2;decide
 have e2:¬c=40:=by rintro rfl;revert h1;decide
 have e3:(decide (48<=c.toNat)&&decide (c.toNat<=57))=false:=by
  rw[Bool.and_eq_false_iff];right;exact decide_eq_false (by omega)
 rw[e3,if_neg e1,if_neg e2];rfl
theorem zCv{k:Int}:isDig (opc k)=false:=by
 unfold opc;split
 ·rfl
 ·split <;> rfl
theorem zGt{k m:Int}(hk:k=4∨k=5∨k=6)(hm:m=4∨m=5∨m=6)(h:opc k=opc m):k=m:=by
 rcases hk with rfl|rfl|rfl <;> rcases hm with rfl|rfl|rfl <;> first|rfl|(exfalso;revert h;decide)
theorem zHM{d:Int}{n:Nat}{e:zB}(h:Node d n e):∃c t,exT (n+1) e=c::t/\hdK c=if e.Kind=1 then 1 else if e.Kind=2 then 2 else if e.Kind=3 then 3 else 4:=by
 cases h with
 | num k h=>
  obtain⟨c,t,e,hc⟩:=zBm h;exact⟨c,t,by rw[gR,e],by unfold hdK;rw[hc];rfl⟩
 | ix a h=>exact⟨123,_,zAb,rfl⟩
 | rd a h=>
  obtain⟨c,t,e,h1,h2⟩:=zGI h;exact⟨c,t,by rw[zAc,e],by rw[zGs h1 h2];rfl⟩
 | op k x y hk hx hy=>
  refine⟨40,_,zAd hk,?_⟩;show hdK 40=if k=1 then 1 else if k=2 then 2 else if k=3 then 3 else 4;rw[if_neg (by omega),if_neg (by omega),if_neg (by omega)];rfl
theorem zEU{d d':Int}:∀(n m:Nat) (e f:zB) (r s:List UInt8),shapeB d n e=true->shapeB d' m f=true->noDig r->noDig s->exT n e++r=exT m f++s->e=f/\r=s
 | 0,_,_,_,_,_,h,_,_,_,_=>by cases h
 | _+1,0,_,_,_,_,_,h,_,_,_=>by cases h
 | n+1,m+1,e,f,r,s,h1,h2,h3,h4,h=>by
  have N1:=mN h1
  have N2:=mN h2
  obtain⟨c,t,q1,q2⟩:=zHM N1
  obtain⟨c',t',q3,q4⟩:=zHM N2
  have hc:c=c':=by
   have h':=h
   rw[q1,q3,cy,cy,List.cons.injEq] at h'
   exact h'.1
  rw[<- hc,q2] at q4
  clear q1 q2 q3 hc c c' t t'
  cases N1 with
  | num k hk=>
   cases N2 with
   | num l hl=>
    rw[gR,gR] at h
    obtain⟨e1,e2⟩:=zEg (dQ ⟨k,by omega⟩).1 (dQ ⟨l,by omega⟩).1 h3 h4 h
    have:=zGr ⟨k,by omega⟩ ⟨l,by omega⟩ e1
    have:k=l:=by simpa using this
    rw[this];exact⟨rfl,e2⟩
   | ix a ha=>exact absurd (show (1:Nat)=2 from q4) (by decide)
   | rd a ha=>exact absurd (show (1:Nat)=3 from q4) (by decide)
   | op l x y hl hx hy=>
    have q4:(1:Nat)=if l=1 then 1 else if l=2 then 2 else if l=3 then 3 else 4:=q4
    rw[if_neg (by omega),if_neg (by omega),if_neg (by omega)] at q4;cases q4
  | ix a ha=>
   cases N2 with
   | num l hl=>exact absurd (show (2:Nat)=1 from q4) (by decide)
   | ix b hb=>
    rw[zAb,zAb] at h
    have h:tx a++125::r=tx b++125::s:=by simpa using h
    unfold okA at ha hb
    rw[bW] at ha hb
    obtain⟨e1,e2⟩:=zBl (zA4 ha.1 rfl) (zA4 hb.1 rfl) h
    rw[zCt ha.1 hb.1 e1];exact⟨rfl,e2⟩
   | rd b hb=>exact absurd (show (2:Nat)=3 from q4) (by decide)
   | op l x y hl hx hy=>
    have q4:(2:Nat)=if l=1 then 1 else if l=2 then 2 else if l=3 then 3 else 4:=q4
    rw[if_neg (by omega),if_neg (by omega),if_neg (by omega)] at q4;cases q4
  | rd a ha=>
   cases N2 with
   | num l hl=>exact absurd (show (3:Nat)=1 from q4) (by decide)
   | ix b hb=>exact absurd (show (3:Nat)=2 from q4) (by decide)
   | rd b hb=>
    rw[zAc,zAc] at h
    obtain⟨e1,e2⟩:=zGH ha hb h
    rw[e1];exact⟨rfl,e2⟩
   | op l x y hl hx hy=>
    have q4:(3:Nat)=if l=1 then 1 else if l=2 then 2 else if l=3 then 3 else 4:=q4
    rw[if_neg (by omega),if_neg (by omega),if_neg (by omega)] at q4;cases q4
  | op k x y hk hx hy=>
   have q4:(if k=1 then 1 else if k=2 then 2 else if k=3 then 3 else 4:Nat)=_:=q4
   rw[if_neg (by omega),if_neg (by omega),if_neg (by omega)] at q4
   cases N2 with
   | num l hl=>exact absurd (show (4:Nat)=1 from q4) (by decide)
   | ix b hb=>exact absurd (show (4:Nat)=2 from q4) (by decide)
   | rd b hb=>exact absurd (show (4:Nat)=3 from q4) (by decide)
   | op l u v hl hu hv=>
    rw[zAd hk,zAd hl] at h
    have h:exT n x++opc k::(exT n y++41::r)=exT m u++opc l::(exT m v++41::s):=by simpa using h
    obtain⟨e1,e2⟩:=zEU n m x u _ _ hx hu (.inr ⟨_,_,rfl,zCv⟩) (.inr ⟨_,_,rfl,zCv⟩) h
    rw[List.cons.injEq] at e2
    obtain⟨e3,e4⟩:=zEU n m y v _ _ hy hv (.inr ⟨_,_,rfl,rfl⟩) (.inr ⟨_,_,rfl,rfl⟩) e2.2
    rw[List.cons.injEq] at e4
    rw[e1,e3,zGt hk hl e2.1]
    exact⟨rfl,e4.2⟩
def stT(s:zL):List UInt8:=acT s.Write++61::exT 5 s.Value
theorem oK{s:zL}{d:Int}(h:stmtB s d=true):accB s.Write d=true/\shapeB d 5 s.Value=true:=by
 unfold stmtB at h;simp only[bW] at h;exact⟨h.1.2,h.2.1⟩
theorem zHc{s t:zL}{d d':Int}(hs:stmtB s d=true)(ht:stmtB t d'=true)(h:stT s=stT t):s=t:=by
 obtain⟨a1,a2⟩:=oK hs;obtain⟨b1,b2⟩:=oK ht;unfold stT at h;obtain⟨e1,e2⟩:=zGH a1 b1 h;rw[List.cons.injEq] at e2;obtain⟨e3,_⟩:=zEU 5 5 _ _ [] [] a2 b2 (.inl rfl) (.inl rfl) (by rw[cr,cr];exact e2.2);obtain⟨w,v⟩:=s;obtain⟨w',v'⟩:=t;simp only at e1 e3;rw[e1,e3]
end Go.LN
namespace Go.LN
def Sy(x:Option Bool)(p:Prop):Prop:=∃r:Bool,x=some r/\(r=true↔p)
theorem Sy.and{x y:Option Bool}{p q:Prop}(h:Sy x p)(k:Sy y q):Sy (x.bind λa=>if a=true then y else some false) (p/\q):=by
 obtain⟨r,rfl,hr⟩:=h;obtain⟨s,rfl,hs⟩:=k;cases r with
 | true=>exact⟨s,rfl,by rw[hs];exact⟨λh=>⟨hr.1 rfl,h⟩,λh=>h.2⟩⟩
 | false=>exact⟨false,rfl,⟨λh=>(by cases h),λh=>absurd (hr.2 h.1) (by decide)⟩⟩
theorem zGJ{α:Type}{a b:List α}(hl:a.length=b.length){f:Int->Option (Out Unit Bool)}(step:∀(i:Nat) (h1:i<a.length) (h2:i<b.length),∃r:Bool,(r=true↔a[i]=b[i])/\f (i:Int)=if r then f ((i+1:Nat):Int) else some (.ret false))(fin:f (a.length:Int)=some (.done ())):
 ∃r:Bool,f 0=some (if r then .done () else .ret false)/\(r=true↔a=b):=by
 have key:∀(j i:Nat),i+j=a.length->∃r:Bool,f (i:Int)=some (if r then .done () else .ret false)/\(r=true↔a.drop i=b.drop i):=by
  intro j
  induction j with
  | zero=>
   intro i hi
   refine⟨true,?_,?_⟩
   ·rw[show i=a.length by omega,fin];rfl
   ·rw[dN.2 (show a.length<=i by omega),dN.2 (show b.length<=i by omega)]
    simp
  | succ j ih=>
   intro i hi
   have h1:i<a.length:=by omega
   have h2:i<b.length:=by omega
   obtain⟨r,hr,hf⟩:=step i h1 h2
   obtain⟨s,hs,aj⟩:=ih (i+1) (by omega)
   rw[gC h1,gC h2,hf]
   cases r with
   | true=>exact⟨s,hs,by rw[aj,List.cons.injEq];exact⟨λh=>⟨hr.1 rfl,h⟩,λh=>h.2⟩⟩
   | false=>exact⟨false,rfl,⟨λh=>(by cases h),λh=>absurd (hr.2 (List.cons.inj h).1) (by decide)⟩⟩
 have:=key a.length 0 (cO _)
 rwa[nZ,cI,cI] at this
theorem lne{α:Type}{a b:List α}(h:a.length ≠ b.length):((a.length:Int) != (b.length:Int))=true/\¬a=b:=⟨by simp;omega,λe=>h (by rw[e])⟩
theorem leq{α:Type}{a b:List α}(h:a.length=b.length):((a.length:Int) != (b.length:Int))=false:=by simp[h]
theorem zHd{a b:Str}:(a.l==b.l)=true↔a=b:=by
 cases a;cases b;simp
theorem implAcY(a b:zE)(ha:BL a.Subs):Sy (sF a b) (a=b):=by
 refine⟨a.Array.l==b.Array.l&&eqL afB a.Subs b.Subs,?_,?_⟩
 ·unfold sF;rw[implSd _ _ ha];cases a.Array.l==b.Array.l <;> rfl
 ·rw[bA,zHd,zCk zE8];cases a;cases b;simp
theorem zGu{e f:zB}:e=f↔e.Kind=f.Kind/\e.Num=f.Num/\e.Index=f.Index/\e.Read=f.Read/\e.Kids=f.Kids:=by
 cases e;cases f
 simp only[zB.mk.injEq,zB.Kind,zB.Num,zB.Index,zB.Read,zB.Kids]
theorem implExY:∀(m:Nat) (e f:zB),BE m e->Sy (rA e f) (e=f)
 | m,e,f,h=>by
  obtain⟨h1,h2,h3⟩:=h.own
  have hb1:e.Index.Coefs.length<=1048576:=by unfold BA at h1;omega
  have hK:Sy (yE e.Kids f.Kids) (e.Kids=f.Kids):=by
   rw[yE]
   by_cases hl:e.Kids.length=f.Kids.length
   ·obtain⟨r,hr,hr2⟩:=zGJ hl (f:=zU e.Kids f.Kids) (λi q1 q2=>by
     obtain⟨m',hm,hm'⟩:=h.kid (gM q1)
     obtain⟨r,hr,hr2⟩:=implExY m' e.Kids[i] f.Kids[i] hm'
     refine⟨r,hr2,?_⟩
     rw[zU]
     have k1:((i:Int)<(e.Kids.length:Int)):=by omega
     simp only[k1,dT,if_true,tX q1,tX q2,oB,oS,same,hr]
     rw[qI (by omega)]
     cases r <;> rfl) (by rw[zU];simp)
    refine⟨r,?_,hr2⟩
    simp only[leq hl,bF,if_false,same,hr,oB,oS]
    cases r <;> rfl
   ·obtain⟨q1,q2⟩:=lne hl
    refine⟨false,?_,⟨λh=>(by cases h),λh=>absurd h q2⟩⟩
    simp only[q1,if_true];rfl
  obtain⟨ra,ha,ha2⟩:=implAcY e.Read f.Read h2
  obtain⟨rk,hk,hk2⟩:=hK
  refine⟨(e.Kind==f.Kind&&(e.Num==f.Num&&(afB e.Index f.Index&&(ra&&rk)))),?_,?_⟩
  ·rw[rA]
   simp only[implAff _ _ hb1,ha,hk,same]
   cases e.Kind==f.Kind <;> cases e.Num==f.Num <;> cases afB e.Index f.Index <;> cases ra <;> cases rk <;> rfl
  ·rw[zGu]
   simp only[bA,beq_iff_eq,zE8,ha2,hk2]
theorem implStY(s t:zL)(h:BS s):Sy (tH s t) (s=t):=by
 obtain⟨h1,m,h2⟩:=h;obtain⟨ra,ha,ha2⟩:=implAcY s.Write t.Write h1;obtain⟨re,he,he2⟩:=implExY m s.Value t.Value h2;refine⟨ra&&re,?_,?_⟩
 ·unfold tH;rw[ha,he];cases ra <;> cases re <;> rfl
 ·rw[bA,ha2,he2];cases s;cases t;simp
end Go.LN
namespace Go.LN
end Go.LN
namespace Go.LN
theorem zDg(c:UInt8):∀X:List (List UInt8),Lib.join X [c]=joinS c X
 | []=>rfl
 | [x]=>Lib.join_one x [c]
 | x::y::t=>by
  have:=zDg c (y::t)
  rw[joinS,<- this]
  simp[Lib.join,List.intercalate]
theorem zDh(c:UInt8):∀(X:List (List UInt8)) (n:Nat),(∀x∈X,x.length<=n)->(joinS c X).length<=(n+1)*X.length
 | [],n,h=>cN _
 | [x],n,h=>by
  have:=h x (b9 ..)
  show x.length<=(n+1)*1
  omega
 | x::y::t,n,h=>by
  have h1:=h x (b9 ..)
  have ih:=zDh c (y::t) n λz hz=>h z (bZ _ hz)
  rw[show (x::y::t).length=(y::t).length+1 from rfl,Nat.mul_succ,joinS,lA,bY]
  omega
theorem zA5{l:List zA}(h:∀a∈l,validB a=true):(sdT l).length<=24*l.length:=by
 have:=zDh 44 (l.map tx) 23 λx hx=>by
  obtain⟨a,ha,rfl⟩:=dj.1 hx;exact mV (h a ha)
 rw[lM] at this;exact this
theorem implAT(l:List zA)(h:∀a∈l,validB a=true)(hl:l.length<=100):sO l=some ⟨sdT l⟩:=by
 unfold sO;have key:∀(j i:Nat) (o:List Str),i+j=l.length->o=(l.take i).map (λa=>(⟨tx a⟩:Str))->vL l o (i:Int)=some (l.map λa=>(⟨tx a⟩:Str)):=by
  intro j
  induction j with
  | zero=>
   intro i o hi ho;rw[vL];have:¬((i:Int)<(l.length:Int)):=by omega
   simp only[this,dF,bF,if_false,ho];rw[cC (by omega)];rfl
  | succ j ih=>
   intro i o hi ho;rw[vL];have av:i<l.length:=by omega
   have hc:((i:Int)<(l.length:Int)):=by omega
   have ho':o.length=i:=by rw[ho,lM,cd];omega
   simp only[hc,dT,if_true,tX av,oB,oS,zA2 _ (h _ (gM av)),jD (show (o.length+[(⟨tx l[i]⟩:Str)].length)*16<=140737488355328 by simp;omega)];rw[qI (by omega)];exact ih (i+1) _ (by omega) (by rw[ho,cY,bX av,List.map_append];rfl)
 have h1:=key _ 0 [] (cO _) (by simp);rw[nZ] at h1;rw[h1];simp only[oB,oS];have e:(l.map λa=>(⟨tx a⟩:Str)).map (·.l)=l.map tx:=by rw[List.map_map];rfl
 have hj:Lib.join (l.map tx) (⟨[44]⟩:Str).l=sdT l:=zDg 44 _;have hb:=zA5 h;unfold pT;rw[e,hj,if_pos ⟨by rw[lM];omega,by omega⟩];rfl
theorem sJ{o:Str}{b:List UInt8}(h:o.l.length+b.length<=9223372036854775807):cat o ⟨b⟩=some ⟨o.l++b⟩:=qC h
theorem zCw{a:zE}{d:Int}(h:accB a d=true):(acT a).length<=51:=by
 obtain⟨⟨c,e,_⟩,h1,h2⟩:=qT h;have:=zA5 h1.2;unfold acT;rw[e];simp only[lA,bY,co];omega
theorem implAcT(a:zE){d:Int}(h:accB a d=true):sE a=some ⟨acT a⟩:=by
 obtain⟨⟨c,e,_⟩,h1,h2⟩:=qT h;have s1:=zA5 h1.2;have t1:=implAT _ h1.2 (by omega);unfold sE acT;rw[e];simp only[t1,oB,oS];generalize sdT a.Subs=u at s1 ⊢;rw[sJ (by simp)];simp only[oS];rw[sJ (by simp;omega)];simp only[oS];rw[sJ (by simp;omega)];simp
theorem zCY{k:Int}(hk:k=4∨k=5∨k=6):sslc (⟨[43,45,42]⟩:Str) (W (k - 4)) (W (W (k - 4)+1))=some ⟨[opc k]⟩:=by
 rcases hk with rfl|rfl|rfl <;> rfl
theorem implExT{d:Int}:∀(n:Nat) (e:zB),n<=10->shapeB d n e=true->uA e=some ⟨exT n e⟩/\(exT n e).length+3<=60*2 ^ n
 | 0,_,_,h=>by cases h
 | n+1,e,hn,h=>by
  have h2:1<=2 ^ n:=Nat.one_le_two_pow
  have h3:2 ^ n<=2 ^ 10:=Nat.pow_le_pow_right (by omega) (by omega)
  rw[Nat.pow_succ]
  cases mN h with
  | num k hk=>
   rw[uA,gR]
   have hd:=rQ k
   have t:=zAY k hk
   have e1:((zB.mk 1 k ⟨[],0⟩ ⟨⟨[]⟩,[]⟩ []).Kind==1)=true:=rfl
   have e2:(zB.mk 1 k ⟨[],0⟩ ⟨⟨[]⟩,[]⟩ []).Num=(k:Int):=rfl
   rw[if_pos e1,e2,t]
   exact⟨rfl,by omega⟩
  | ix a ha=>
   rw[uA,zAb]
   unfold okA at ha
   rw[bA] at ha
   have hl:=mV ha.1
   have t:=zA2 a ha.1
   have e1:((zB.mk 2 0 a ⟨⟨[]⟩,[]⟩ []).Kind==1)=false:=rfl
   have e2:((zB.mk 2 0 a ⟨⟨[]⟩,[]⟩ []).Kind==2)=true:=rfl
   have e3:(zB.mk 2 0 a ⟨⟨[]⟩,[]⟩ []).Index=a:=rfl
   rw[e1,e2,e3,t]
   generalize tx a=u at hl ⊢
   simp only[bF,if_false,if_true,oB,oS]
   rw[sJ (by simp;omega)];simp only[oS]
   rw[sJ (by simp;omega)]
   exact⟨rfl,by simp only[lA,bY,co];omega⟩
  | rd a ha=>
   rw[uA,zAc]
   have hl:=zCw ha
   have t:=implAcT a ha
   have e1:((zB.mk 3 0 ⟨[],0⟩ a []).Kind==1)=false:=rfl
   have e2:((zB.mk 3 0 ⟨[],0⟩ a []).Kind==2)=false:=rfl
   have e3:((zB.mk 3 0 ⟨[],0⟩ a []).Kind==3)=true:=rfl
   have e4:(zB.mk 3 0 ⟨[],0⟩ a []).Read=a:=rfl
   rw[e1,e2,e3,e4,t]
   exact⟨rfl,by omega⟩
  | op k x y hk hx hy=>
   rw[uA,zAd hk]
   obtain⟨t1,l1⟩:=implExT n x (by omega) hx
   obtain⟨t2,l2⟩:=implExT n y (by omega) hy
   have e1:((zB.mk k 0 ⟨[],0⟩ ⟨⟨[]⟩,[]⟩ [x,y]).Kind==1)=false:=by show (k==1)=false;rw[beq_eq_false_iff_ne];omega
   have e2:((zB.mk k 0 ⟨[],0⟩ ⟨⟨[]⟩,[]⟩ [x,y]).Kind==2)=false:=by show (k==2)=false;rw[beq_eq_false_iff_ne];omega
   have e3:((zB.mk k 0 ⟨[],0⟩ ⟨⟨[]⟩,[]⟩ [x,y]).Kind==3)=false:=by show (k==3)=false;rw[beq_eq_false_iff_ne];omega
   have e4:idx (zB.mk k 0 ⟨[],0⟩ ⟨⟨[]⟩,[]⟩ [x,y]).Kids 0=some x:=rfl
   have e5:idx (zB.mk k 0 ⟨[],0⟩ ⟨⟨[]⟩,[]⟩ [x,y]).Kids 1=some y:=rfl
   have e6:(zB.mk k 0 ⟨[],0⟩ ⟨⟨[]⟩,[]⟩ [x,y]).Kind=k:=rfl
   rw[e1,e2,e3,e4,e5,e6,zCY hk]
   simp only[bF,if_false,oB,oS,same,t1,t2]
   generalize exT n x=u at l1 ⊢
   generalize exT n y=v at l2 ⊢
   rw[sJ (by simp;omega)];simp only[oS]
   rw[sJ (by simp;omega)];simp only[oS]
   rw[sJ (by simp;omega)];simp only[oS]
   rw[sJ (by simp;omega)]
   refine⟨by simp,?_⟩
   simp only[lA,bY,co]
   omega
theorem zEV{s:zL}{d:Int}(h:stmtB s d=true):(stT s).length<=2000:=by
 obtain⟨a1,a2⟩:=oK h;have h1:=zCw a1;have h2:=(implExT 5 _ (by omega) a2).2;unfold stT;simp only[lA,bY];omega
theorem implStT(s:zL){d:Int}(h:stmtB s d=true):sZ s=some ⟨stT s⟩:=by
 obtain⟨a1,a2⟩:=oK h;have h1:=zCw a1;have h2:=implExT 5 _ (by omega) a2;obtain⟨h2,h3⟩:=h2;unfold sZ stT;simp only[implAcT _ a1,h2,oB,oS];generalize acT s.Write=u at h1 ⊢;generalize exT 5 s.Value=v at h3 ⊢;rw[sJ (by simp;omega)];simp only[oS];rw[sJ (by simp;omega)];simp
end Go.LN
namespace Go.LN
def ResL(t:List UInt8)(r:List zA×Bool):Prop:=(r.2=true/\allV r.1/\r.1.length<=2/\t=sdT r.1)∨(r.2=false/\r.1=[]/\∀l,allV l->l.length<=2->t ≠ sdT l)
theorem zEh{c:UInt8}:∀{s:List UInt8},asc s=true->∀x∈cutS c s,asc x=true
 | [],_,x,hx=>by
  rw[cutS,cm] at hx;rw[hx];rfl
 | b::s,h,x,hx=>by
  have h2:=zAz (a:=[b]) (b:=s) h
  have ih:=zEh (c:=c) h2.2
  unfold cutS at hx
  split at hx
  ·rcases cg.1 hx with rfl|hx
   ·rfl
   ·exact ih x hx
  ·cases hq:cutS c s with
   | nil=>exact absurd hq (gP c s)
   | cons y t=>
    rw[hq] at hx ih
    rcases cg.1 hx with rfl|hx
    ·exact kO h2.1 (ih y (b9 ..))
    ·exact ih x (bZ _ hx)
theorem zDi{X:List (List UInt8)}(hX:∀x∈X,asc x=true/\x.length<=1048576)(hl:X.length<=10000000):∀(j q:Nat) (o:List zA),q+j=X.length->o.length=q->q<=2->(∀a∈o,validB a=true)->X.take q=o.map tx ->
 (∃o2,wK (X.map Str.mk) o (q:Int)=some (.done o2)/\(∀a∈o2,validB a=true)/\o2.length<=2/\X=o2.map tx)∨(wK (X.map Str.mk) o (q:Int)=some (.ret ([],false))/\∀l:List zA,(∀a∈l,validB a=true)->l.length<=2->X ≠ l.map tx):=by
 intro j
 induction j with
 | zero=>
  intro q o hq ho h2 hv ht
  left
  refine⟨o,?_,hv,by omega,by rw[<- ht,cC (by omega)]⟩
  rw[wK]
  have:¬((q:Int)<((X.map Str.mk).length:Int)):=by rw[cp];omega
  simp only[this,decide_false,bV,if_false,Option.pure_def,id]
 | succ j ih=>
  intro q o hq ho h2 hv ht
  have av:q<X.length:=by omega
  have hc:((q:Int)<((X.map Str.mk).length:Int)):=by rw[cp];omega
  obtain⟨a1,a2⟩:=hX _ (List.getElem_mem av)
  have hx:idx (X.map Str.mk) (q:Int)=some ⟨X[q]⟩:=by rw[tX (by rw[cp];exact av),List.getElem_map]
  obtain⟨r,hr,hres⟩:=implParse ⟨X[q]⟩ a1 a2
  obtain⟨r1,r2⟩:=r
  rw[wK]
  simp only[hc,decide_true,if_true,hx,hr,Option.bind_eq_bind,Option.bind_some,Option.pure_def]
  rcases hres with⟨e1,e2,e3⟩|⟨e1,e2,e3⟩ <;> simp only at e1 e2 e3
  ·subst e1
   by_cases h22:q=2
   ·have hb:((o.length:Int)==2)=true:=by rw[ho,h22];rfl
    right
    simp only[cJ,bV,if_false,hb,if_true,Option.bind_some]
    exact⟨trivial,λl _ h3 e=>by rw[e,cp] at av;omega⟩
   ·have hb:((o.length:Int)==2)=false:=by
     rw[ho];simp;omega
    have hn:=ih (q+1) (o++[r1]) (by omega) (by rw[ca,ho];rfl) (by omega) (λa ha=>by
     rcases cH.1 ha with ha|ha
     ·exact hv a ha
     ·rw[cm.1 ha];exact e2) (by rw[List.map_append,<- ht,cY,bX av];simp[e3])
    simp only[cJ,bV,if_false,hb,Option.bind_some,jD (show (o.length+[r1].length)*32<=140737488355328 by simp;omega)]
    rw[qI (by omega)]
    exact hn
  ·subst e1
   right
   simp only[cB,if_true,Option.bind_some]
   refine⟨trivial,λl h1 h3 e=>?_⟩
   have:q<l.length:=by rw[e,cp] at av;exact av
   have h9:X[q]=tx l[q]:=by simp[e]
   exact e3 l[q] (h1 _ (List.getElem_mem this)) h9
theorem implAffs(t:Str)(ha:asc t.l=true)(hl:t.l.length<=1000000):∃r,sS t=some r/\ResL t.l r:=by
 obtain⟨t⟩:=t;simp only at ha hl;have bN:=zEe 44 t;have hX:∀x∈cutS 44 t,asc x=true/\x.length<=1048576:=λx hx=>⟨zEh ha x hx,by have:=zCu hx;omega⟩;have h1:=zDi hX (by omega) _ 0 [] (cO _) rfl (by omega) (λa h=>by cases h) rfl;rw[cS] at h1;unfold sS;rw[zGB ⟨t⟩ 44 (by show t.length<=_;omega)];simp only[Option.bind_eq_bind,Option.bind_some];rcases h1 with⟨o2,h1,h2,h3,h4⟩|⟨h1,h2⟩
 ·rw[h1];refine⟨(o2,true),rfl,.inl ⟨rfl,⟨λe=>?_,h2⟩,h3,?_⟩⟩
  ·have e:o2=[]:=e;rw[e] at h4;exact gP 44 t h4
  ·show t=sdT o2;unfold sdT;rw[<- h4,zDc]
 ·rw[h1];refine⟨([],false),rfl,.inr ⟨rfl,rfl,λl hv hl2 e=>?_⟩⟩;have e:t=sdT l:=e;exact h2 l hv.2 hl2 (by rw[e,gQ hv])
end Go.LN
namespace Go.LN
def NV(n:List yD):Prop:=∀l∈n,LV l/\l.Lo.length<=2/\l.Hi.length<=2
theorem NV.lv{n:List yD}(h:NV n):∀l∈n,LV l:=λl hl=>(h l hl).1
theorem zEi{n:List yD}(h:nestB n=true):NV n:=(zGq h).2
def ResN(t:List UInt8)(r:List yD×Bool):Prop:=(r.2=true/\nestB r.1=true/\t=ntT r.1)∨(r.2=false/\r.1=[]/\∀n,nestB n=true->t ≠ ntT n)
theorem ResN.uniq{t:List UInt8}{r s:List yD×Bool}(h:ResN t r)(k:ResN t s):r=s:=by
 obtain⟨r1,r2⟩:=r;obtain⟨s1,s2⟩:=s;rcases h with⟨h1,h2,h3⟩|⟨h1,h2,h3⟩ <;> rcases k with⟨k1,k2,k3⟩|⟨k1,k2,k3⟩ <;> simp only at h1 h2 h3 k1 k2 k3
 ·rw[h1,k1,zGG (zEi h2).lv (zEi k2).lv (h3.symm.trans k3)]
 ·exact absurd h3 (k3 _ h2)
 ·exact absurd k3 (h3 _ k2)
 ·rw[h1,h2,k1,k2]
end Go.LN
namespace Go.LN
theorem zCZ(c:UInt8):∀(X:List (List UInt8)) (x:List UInt8),X ≠ []->joinS c (X++[x])=joinS c X++c::x
 | [],_,h=>absurd rfl h
 | [y],x,_=>rfl
 | y::z::t,x,_=>by
  have ih:=zCZ c (z::t) x (by simp)
  show joinS c (y::((z::t)++[x]))=joinS c (y::z::t)++c::x
  have e:joinS c (y::((z::t)++[x]))=y++c::joinS c ((z::t)++[x]):=rfl
  rw[e,ih,joinS]
  simp
theorem specSideT(l:List zA)(h:∀a∈l,validB a=true)(hl:l.length<=100):tB l=some ⟨sdT l⟩:=by
 unfold tB;have key:∀(j i:Nat) (o:Str),i+j=l.length->o.l=sdT (l.take i)->xR l o (i:Int)=some ⟨sdT l⟩:=by
  intro j
  induction j with
  | zero=>
   intro i o hi ho;rw[xR];have:¬((i:Int)<(l.length:Int)):=by omega
   simp only[this,decide_false,bV,if_false];rw[cC (by omega)] at ho;rw[<- ho];rfl
  | succ j ih=>
   intro i o hi ho;rw[xR];have av:i<l.length:=by omega
   have hc:((i:Int)<(l.length:Int)):=by omega
   have hv:=h _ (List.getElem_mem av);have hb:=zA5 (l:=l.take i) λa ha=>h a (List.mem_of_mem_take ha);have hb2:(l.take i).length<=100:=by rw[cd];omega
   have ht:=mV hv;have hs:=zA0 _ hv;have hstep:sdT (l.take (i+1))=(if 0<i then o.l++[44] else o.l)++tx l[i]:=by
    unfold sdT;rw[cY,bX av,Option.toList_some,List.map_append];by_cases h0:0<i
    ·have hne:(l.take i).map tx ≠ []:=λe=>by
      have:=congrArg List.length e;rw[cp,cd] at this;simp only[co] at this;omega
     show joinS 44 ((l.take i).map tx++[tx l[i]])=_;rw[zCZ 44 _ _ hne,if_pos h0,ho];unfold sdT;simp
    ·have e:i=0:=by omega
     subst e;rw[if_neg h0,ho];rfl
   simp only[hc,decide_true,if_true,tX av,hs,Option.bind_eq_bind,Option.bind_some,Option.pure_def,id];by_cases h0:0<i
   ·have d0:((i:Int)>0):=by omega
    rw[if_pos h0] at hstep;simp only[d0,decide_true,if_true];rw[sJ (by rw[ho];simp;omega)];simp only[Option.bind_some];rw[sJ (by show (o.l++[44]).length+_<=_;rw[ho];simp;omega)];simp only[Option.bind_some];rw[qI (by omega)];exact ih (i+1) _ (by omega) hstep.symm
   ·have d0:¬((i:Int)>0):=by omega
    rw[if_neg h0] at hstep;simp only[d0,decide_false,bV,if_false,Option.bind_some];rw[sJ (by rw[ho];omega)];simp only[Option.bind_some];rw[qI (by omega)];exact ih (i+1) _ (by omega) hstep.symm
 have:=key _ 0 ⟨[]⟩ (cO _) rfl;rw[cS] at this;rw[this];rfl
theorem ResA.of_tx{a:zA}{r:zA×Bool}(ha:validB a=true)(h:ResA (tx a) r):r.1=a:=by
 rcases h with⟨h1,h2,h3⟩|⟨h1,h2,h3⟩
 ·exact(zCt ha h2 h3).symm
 ·exact absurd rfl (h3 a ha)
theorem ResA.ba{t:List UInt8}{r:zA×Bool}(h:ResA t r):BA r.1:=by
 rcases h with⟨h1,h2,h3⟩|⟨h1,h2,h3⟩
 ·simp only[validB,bW,decide_eq_true_eq] at h2;unfold BA;omega
 ·rw[h2];show (0:Nat)<=1000;omega
theorem zDj{X:List (List UInt8)}(hX:∀x∈X,x.length<=1000000):∀(j q:Nat) (o:List zA),q+j=3->o.length=q->(∀a∈o,BA a) ->
 ∃o2,xM (X.map Str.mk) o (q:Int)=some o2/\o2.length<=3/\(∀a∈o2,BA a)/\∀k:List zA,(∀a∈k,validB a=true)->k.length<=2->X=k.map tx->o=k.take q->o2=k:=by
 intro j
 induction j with
 | zero=>
  intro q o hq ho hv
  refine⟨o,?_,by omega,hv,λk _ h2 _ e=>by rw[e,cC (by omega)]⟩
  rw[xM]
  have h2:¬((q:Int)<=2):=by omega
  by_cases hc:(q:Int)<((X.map Str.mk).length:Int)
  ·simp only[hc,h2,decide_true,decide_false,if_true,bV,if_false,Option.pure_def,Option.bind_eq_bind,Option.bind_some,id]
  ·simp only[hc,decide_false,bV,if_false,Option.pure_def,Option.bind_eq_bind,Option.bind_some,id]
 | succ j ih=>
  intro q o hq ho hv
  rw[xM]
  have h2:((q:Int)<=2):=by omega
  by_cases av:q<X.length
  ·have hc:((q:Int)<((X.map Str.mk).length:Int)):=by rw[cp];omega
   have hx:idx (X.map Str.mk) (q:Int)=some ⟨X[q]⟩:=by rw[tX (by rw[cp];exact av),List.getElem_map]
   obtain⟨⟨r1,r2⟩,hr,hres⟩:=specParse ⟨X[q]⟩ (hX _ (List.getElem_mem av))
   obtain⟨o2,k1,k2,k3,k4⟩:=ih (q+1) (o++[r1]) (by omega) (by rw[ca,ho];rfl) (λa ha=>by
    rcases cH.1 ha with ha|ha
    ·exact hv a ha
    ·rw[cm.1 ha];exact hres.ba)
   refine⟨o2,?_,k2,k3,λk v1 v2 e1 e2=>k4 k v1 v2 e1 ?_⟩
   ·simp only[hc,h2,decide_true,if_true,hx,hr,Option.bind_eq_bind,Option.bind_some,Option.pure_def,jD (show (o.length+[r1].length)*32<=140737488355328 by simp;omega)]
    rw[qI (by omega)]
    exact k1
   ·have hk:q<k.length:=by rw[e1,cp] at av;exact av
    have h9:X[q]=tx k[q]:=by simp[e1]
    have hres':ResA (tx k[q]) (r1,r2):=by rw[<- h9];exact hres
    have:=ResA.of_tx (v1 _ (List.getElem_mem hk)) hres'
    rw[e2,cY,bX hk]
    simp only at this
    rw[this];rfl
  ·have hc:¬((q:Int)<((X.map Str.mk).length:Int)):=by rw[cp];omega
   refine⟨o,?_,by omega,hv,λk _ _ e1 e2=>by
    rw[e2,cC]
    have:=congrArg List.length e1
    rw[cp] at this
    omega⟩
   simp only[hc,decide_false,bV,if_false,Option.pure_def,Option.bind_eq_bind,Option.bind_some,id]
theorem specSideP(t:Str)(hl:t.l.length<=1000000):∃l,uR t=some l/\BL l/\∀k,allV k->k.length<=2->t.l=sdT k->l=k:=by
 obtain⟨o2,h1,h2,h3,h4⟩:=zDj (X:=cutS 44 t.l) (λx hx=>cT (zCu hx) hl) 3 0 [] rfl rfl (λ_ h=>by cases h);rw[cS] at h1;unfold uR;rw[zFN t 44 (by omega)];refine⟨o2,?_,⟨by omega,h3⟩,λk v1 v2 e=>h4 k v1.2 v2 (by rw[e,gQ v1]) rfl⟩;simp only[Option.bind_eq_bind,Option.bind_some,h1];rfl
theorem zHt{l:List zA}(h:allV l):sdT l ≠ []:=λe=>by
 have h1:=gQ h;rw[e] at h1
 match l,h with
 | [],h=>exact h.1 rfl
 | a::l,h=>
  rw[cM] at h1;have:tx a=[]:=((List.cons.inj h1).1).symm;exact zHs a (h.2 a (b9 ..)) this
end Go.LN
namespace Go.LN
def V2(l:List zA):Prop:=allV l/\l.length<=2
theorem V2.one{a:zA}(h:validB a=true):V2 [a]:=⟨⟨by simp,λx hx=>by rw[cm.1 hx];exact h⟩,by simp⟩
theorem V2.two{a b:zA}(h:validB a=true)(k:validB b=true):V2 [a,b]:=⟨⟨by simp,λx hx=>by
 rcases cg.1 hx with rfl|hx
 ·exact h
 ·rw[cm.1 hx];exact k⟩,by simp⟩
theorem zA6{l:List UInt8}(h:∀b∈l,b.toNat<128):asc l=true:=b8.2 λb hb=>decide_eq_true (h b hb)
theorem dR{l:List UInt8}(h:asc l=true){b:UInt8}(hb:b∈l):b.toNat<128:=of_decide_eq_true (b8.1 h b hb)
theorem zHe{l:List zA}(h:∀a∈l,validB a=true){b:UInt8}(hb:b∈sdT l):b.toNat<128:=by
 rcases dO hb with rfl|⟨x,hx,hb⟩
 ·decide
 ·obtain⟨a,ha,rfl⟩:=dj.1 hx;exact dR (zBe (h a ha)) hb
theorem zEj{l:List UInt8}(h:asc l=true)(n:Nat):asc (l.take n)=true:=zA6 λb hb=>dR h (List.mem_of_mem_take hb)
theorem zEk{l:List UInt8}(h:asc l=true)(n:Nat):asc (l.drop n)=true:=zA6 λb hb=>dR h (List.mem_of_mem_drop hb)
theorem zGK(r:zK)(s:Str)(bits:List Str)(hbn:0<bits.length/\bits.length<=1000)(hb:∀x∈bits,asc x.l=true/\x.l.length<=100)(h0:0<=r.p)(h1:r.p<=800000100)(hs:asc s.l=true)(hl:s.l.length<=5000):Ok (pC r s bits) (λy=>asc y.1.l=true/\y.1.l.length<=20000):=by
 unfold pC;refine Ok.bind (φ:=λp:Bool×zK=>(p.1=false->0<s.l.length)/\0<=p.2.p/\p.2.p<=800000110) ?_ λp hp=>?_
 ·refine Ok.ite_beq (λ_=>Ok.pure ⟨λh=>(by cases h),h0,(by show r.p<=_;omega)⟩) λh=>?_;refine Ok.call (mA r 2) ⟨h0,by omega⟩ λy s1 g1 g2 g3=>Ok.pure ⟨λ_=>by omega,by show 0<=s1.p;omega,by show s1.p<=_;omega⟩
 ·obtain⟨b,r1⟩:=p;simp only at hp;cases b with
  | true=>exact Ok.ite_tt (Ok.pure ⟨hs,by show s.l.length<=20000;omega⟩)
  | false=>
   have hpos:=hp.1 rfl;refine Ok.ite_ff ?_;refine Ok.call (mA r1 _) ⟨hp.2.1,by omega⟩ λy s1 g1 g2 g3=>?_;have hy:y<(s.l.length:Int):=by rcases g2 with h|h <;> omega
   refine Ok.sslc (by omega) (by omega) (by omega) λm1 e1 l1=>?_;refine Ok.call (jC s1 bits) ⟨hbn.1,by omega,by omega⟩ λy7 s2 g4 g5=>?_;obtain⟨a7,l7⟩:=hb y7 g4;refine Ok.cat (by omega) λm2 e2 l2=>?_;refine Ok.call (mA s2 2) ⟨by omega,by omega⟩ λy10 s3 g6 g7 g8=>?_;dsimp only;rw[vM (by omega) (by omega)];refine Ok.sslc (by omega) (by omega) (by omega) λm3 e3 l3=>?_;refine Ok.cat (by omega) λm4 e4 l4=>Ok.pure ⟨?_,by show m4.l.length<=_;omega⟩;show asc m4.l=true;rw[e4,e2,e1,e3];exact kO (kO (zEk (zEj hs _) _) a7) (zEk (zEj hs _) _)
end Go.LN
namespace Go.LN
theorem zDk{c:UInt8}{r:List UInt8}:∀{u:List UInt8},c ∉ u->Lib.index (u++c::r) [c]=(u.length:Int)
 | [],_=>by
  show Lib.index (c::r) [c]=0
  rw[Lib.index];simp[List.isPrefixOf]
 | b::u,h=>by
  have hb:c ≠ b:=λe=>h (by rw[e];exact b9 ..)
  have ih:=zDk (r:=r) (u:=u) λhm=>h (bZ _ hm)
  have hp:([c]:List UInt8).isPrefixOf (b::(u++c::r))=false:=by simp[List.isPrefixOf,hb]
  show Lib.index (b::(u++c::r)) [c]=_
  rw[Lib.index,hp,ih]
  have e:((u.length:Int) == -1)=false:=by rw[beq_eq_false_iff_ne];omega
  simp only[bV,if_false,e,bY]
  omega
theorem zHf{c:UInt8}{u r:List UInt8}(h:c ∉ u):Lib.cut (u++c::r) [c]=(u,r,true):=by
 unfold Lib.cut;rw[zDk h,if_pos (by omega)];simp
def RG(r:zR):Prop:=asc r.s.l=true/\r.s.l.length<=100000
theorem zDl{l:List UInt8}(h:asc l=true)(n:Nat):asc (l.take n)=true:=b8.2 λb hb=>b8.1 h b (List.mem_of_mem_take hb)
theorem zGL{l:List UInt8}(h:asc l=true)(n:Nat):asc (l.drop n)=true:=b8.2 λb hb=>b8.1 h b (List.mem_of_mem_drop hb)
theorem RG.drop{r:zR}(h:RG r)(n:Nat)(b:Bool):RG ⟨⟨r.s.l.drop n⟩,b⟩:=⟨zGL h.1 n,by have:=h.2;show (r.s.l.drop n).length<=_;rw[ce];omega⟩
theorem RG.bad{r:zR}(h:RG r)(b:Bool):RG ⟨r.s,b⟩:=h
theorem zEl(r:zR):∃c,xG r=some (c,r)/\(c.toNat ≠ 0->r.bad=false/\∃t,r.s.l=c::t):=by
 obtain⟨⟨l⟩,b⟩:=r;unfold xG;cases b with
 | true=>exact⟨0,rfl,λh=>absurd rfl h⟩
 | false=>
  cases l with
  | nil=>exact⟨0,rfl,λh=>absurd rfl h⟩
  | cons c t=>exact⟨c,rfl,λ_=>⟨rfl,t,rfl⟩⟩
theorem zDm(s:Str)(hs:0<s.l.length):sslc s 1 (s.l.length:Int)=some ⟨s.l.drop 1⟩:=by
 unfold sslc slc;rw[if_pos ⟨by omega,by omega,by omega⟩,cP,cV];rfl
theorem dS(r:zR)(h:RG r):Ok (wE r) (λo=>RG o.2):=by
 obtain⟨c,h1,h2⟩:=zEl r;unfold wE;rw[h1];by_cases hc:c.toNat=0
 ·have:((c.toNat:Int)==0)=true:=by rw[hc];rfl
  exact⟨(0,⟨r.s,true⟩),by simp only[Option.bind_eq_bind,Option.bind_some,this,if_true];rfl,h⟩
 ·obtain⟨hb,t,ht⟩:=h2 hc;have:((c.toNat:Int)==0)=false:=by rw[beq_eq_false_iff_ne];omega
  refine⟨(c,⟨⟨r.s.l.drop 1⟩,r.bad⟩),?_,h.drop 1 _⟩;simp only[Option.bind_eq_bind,Option.bind_some,this,bV,if_false,zDm r.s (by rw[ht];simp)];rfl
theorem zBn{c:UInt8}(hc:c.toNat ≠ 0)(t:List UInt8):wE ⟨⟨c::t⟩,false⟩=some (c,⟨⟨t⟩,false⟩):=by
 unfold wE;have e:xG ⟨⟨c::t⟩,false⟩=some (c,⟨⟨c::t⟩,false⟩):=rfl;have:((c.toNat:Int)==0)=false:=by rw[beq_eq_false_iff_ne];omega
 rw[e];simp only[Option.bind_eq_bind,Option.bind_some,this,bV,if_false,zDm ⟨c::t⟩ (by simp)];rfl
theorem zBo(r:zR)(b:UInt8)(h:RG r):Ok (wY r b) RG:=by
 unfold wY;refine Ok.bind (φ:=RG) ?_ λx hx=>Ok.pure hx;refine Ok.bind (dS r h) λo ho=>?_;obtain⟨y1,y2⟩:=o;cases hc:((y1.toNat:Int) != (b.toNat:Int)) with
 | true=>exact⟨⟨y2.s,true⟩,by simp only[hc,if_true];rfl,ho⟩
 | false=>exact⟨y2,by simp only[hc,bV,if_false];rfl,ho⟩
theorem zCx{c:UInt8}(hc:c.toNat ≠ 0)(t:List UInt8):wY ⟨⟨c::t⟩,false⟩ c=some ⟨⟨t⟩,false⟩:=by
 unfold wY;rw[zBn hc];simp
theorem zDn(r:zR)(b:UInt8)(h:RG r):Ok (vZ r b) (λo=>(asc o.1.l=true/\o.1.l.length<=100000)/\RG o.2):=by
 have hl:=h.2;unfold vZ pD;rw[if_pos (by omega)];have hcut:∃i j,(Lib.cut r.s.l [b]).1=r.s.l.take i/\(Lib.cut r.s.l [b]).2.1=r.s.l.drop j:=by
  unfold Lib.cut;split
  ·exact⟨_,_,rfl,rfl⟩
  ·exact⟨r.s.l.length,r.s.l.length,by rw[cV],by rw[d7]⟩
 obtain⟨i,j,e1,e2⟩:=hcut;obtain⟨rs,rb⟩:=r;cases rb with
 | true=>
  refine⟨(⟨(Lib.cut rs.l [b]).1⟩,⟨⟨(Lib.cut rs.l [b]).2.1⟩,true⟩),rfl,?_,?_⟩
  ·simp only at e1 ⊢;rw[e1];exact⟨zDl h.1 i,by rw[cd];simp only at hl;omega⟩
  ·show RG ⟨⟨(Lib.cut rs.l [b]).2.1⟩,true⟩;simp only at e2;rw[e2];exact h.drop j _
 | false=>
  refine⟨(⟨(Lib.cut rs.l [b]).1⟩,⟨⟨(Lib.cut rs.l [b]).2.1⟩,!(Lib.cut rs.l [b]).2.2⟩),rfl,?_,?_⟩
  ·simp only at e1 ⊢;rw[e1];exact⟨zDl h.1 i,by rw[cd];simp only at hl;omega⟩
  ·show RG ⟨⟨(Lib.cut rs.l [b]).2.1⟩,_⟩;simp only at e2;rw[e2];exact h.drop j _
theorem zEm{c:UInt8}{u:List UInt8}(h:c ∉ u)(t:List UInt8)(hl:(u++c::t).length<=100000):vZ ⟨⟨u++c::t⟩,false⟩ c=some (⟨u⟩,⟨⟨t⟩,false⟩):=by
 unfold vZ pD;rw[if_pos (by show (u++c::t).length<_;omega)];have e:Lib.cut (⟨u++c::t⟩:Str).l (⟨[c]⟩:Str).l=(u,t,true):=zHf h;rw[e];rfl
theorem ResL.bl{t:List UInt8}{r:List zA×Bool}(h:ResL t r):BL r.1:=by
 rcases h with⟨_,h1,h2,_⟩|⟨_,h1,_⟩
 ·exact⟨by omega,λa ha=>by
   have:=h1.2 a ha;simp only[validB,bW,decide_eq_true_eq] at this;unfold BA;omega⟩
 ·rw[h1];exact⟨by show (0:Nat)<=1000;omega,λ_ h=>by cases h⟩
theorem zBp(r:zR)(h:RG r):Ok (wF r) (λo=>BL o.1.Subs/\RG o.2):=by
 unfold wF;refine Ok.bind (dS r h) λo1 k1=>?_;obtain⟨y1,y2⟩:=o1;refine Ok.bind (zBo y2 91 k1) λy3 k3=>?_;refine Ok.bind (zDn y3 93 k3) λo5 k5=>?_;obtain⟨y5,y6⟩:=o5;obtain⟨⟨k5,k5'⟩,k6⟩:=k5;dsimp only at k5 k5' k6 ⊢;obtain⟨⟨y8,y9⟩,h8,hr⟩:=implAffs y5 k5 (by omega);rw[h8];refine Ok.bind_some ?_;have hb:=hr.bl;cases hbad:y6.bad with
 | true=>exact⟨(⟨⟨[y1]⟩,y8⟩,⟨y6.s,true⟩),by simp only[hbad,if_true];rfl,hb,k6⟩
 | false=>exact⟨(⟨⟨[y1]⟩,y8⟩,⟨y6.s,!y9⟩),by simp only[hbad,bV,if_false];rfl,hb,k6⟩
theorem zGv{l:List zA}(h:∀a∈l,validB a=true):asc (sdT l)=true:=b8.2 λb hb=>by
 rcases dO hb with rfl|⟨x,hx,hb⟩
 ·decide
 ·obtain⟨a,ha,rfl⟩:=dj.1 hx;exact b8.1 (zBe (h a ha)) b hb
theorem zHu{c:UInt8}(h1:65<=c.toNat):c.toNat ≠ 0:=by omega
theorem zC0{a:zE}{d:Int}(ha:accB a d=true)(t:List UInt8)(hl:(acT a++t).length<=100000):wF ⟨⟨acT a++t⟩,false⟩=some (a,⟨⟨t⟩,false⟩):=by
 obtain⟨⟨c,e1,g1,g2⟩,v1,v2⟩:=qT ha;obtain⟨n,s⟩:=a;simp only at e1 v1 v2;subst e1;have eT:acT ⟨⟨[c]⟩,s⟩++t=c::91::(sdT s++93::t):=by simp[acT]
 have hb:=zA5 v1.2;rw[eT] at hl ⊢;have hl2:(sdT s++93::t).length<=100000:=by simp only[bY] at hl;omega
 unfold wF;rw[zBn (zHu g1)];obtain⟨⟨r1,r2⟩,hr,hres⟩:=implAffs ⟨sdT s⟩ (zGv v1.2) (by show (sdT s).length<=_;omega);have hr12:r2=true/\r1=s:=by
  rcases hres with⟨q1,q2,q3,q4⟩|⟨q1,q2,q3⟩
  ·exact⟨q1,(dP v1 q2 q4).symm⟩
  ·exact absurd rfl (q3 s v1 v2)
 obtain⟨rfl,rfl⟩:=hr12;simp only[Option.bind_eq_bind,Option.bind_some];rw[zCx (by decide)];simp only[Option.bind_some];rw[zEm (oV v1 rfl (by decide)) t hl2];simp only[Option.bind_some,hr];rfl
end Go.LN
namespace Go.LN
def lead:Nat->List UInt8->Nat
 | 0,_=>0
 | _+1,[]=>0
 | n+1,c::t=>if isDig c then lead n t+1 else 0
theorem zEn:∀(n:Nat) (u:List UInt8),lead n u<=u.length/\lead n u<=n
 | 0,_=>⟨cN _,cu _⟩
 | _+1,[]=>⟨cu _,cN _⟩
 | n+1,c::t=>by
  unfold lead
  have:=zEn n t
  split
  ·exact⟨by rw[bY];omega,by omega⟩
  ·exact⟨cN _,cN _⟩
theorem zGw(s:Str)(b:Bool)(hs:s.l.length<=100000):∀j i:Nat,i+j=3->i<=s.l.length->wL ⟨s,b⟩ (i:Int)=some ((i+lead j (s.l.drop i):Nat):Int):=by
 intro j
 induction j with
 | zero=>
  intro i hi hl;rw[wL];have h3:¬((i:Int)<3):=by omega
  by_cases hc:(i:Int)<(s.l.length:Int)
  ·simp only[hc,h3,decide_true,decide_false,if_true,bV,if_false,Option.pure_def,Option.bind_eq_bind,Option.bind_some,id];rfl
  ·simp only[hc,decide_false,bV,if_false,Option.pure_def,Option.bind_eq_bind,Option.bind_some,id];rfl
 | succ j ih=>
  intro i hi hl;rw[wL];have h3:((i:Int)<3):=by omega
  by_cases av:i<s.l.length
  ·have hc:(i:Int)<(s.l.length:Int):=by omega
   have hx:sidx s (i:Int)=some s.l[i]:=by unfold sidx;exact tX av
   rw[cf av,lead];have hd:isDig s.l[i]=(decide (((s.l[i]).toNat:Int)>=48)&&decide (((s.l[i]).toNat:Int)<=57)):=by
    unfold isDig
    congr 1
    ·exact decide_eq_decide.2 (by omega)
    ·exact decide_eq_decide.2 (by omega)
   rw[hd];by_cases h1:((s.l[i]).toNat:Int)>=48
   ·by_cases h2:((s.l[i]).toNat:Int)<=57
    ·simp only[hc,h3,hx,h1,h2,decide_true,if_true,Option.pure_def,Option.bind_eq_bind,Option.bind_some,Bool.and_self];rw[qI (by omega),ih (i+1) (by omega) (by omega)]
     congr 2
     omega
    ·simp only[hc,h3,hx,h1,h2,decide_true,decide_false,if_true,Option.pure_def,Option.bind_eq_bind,Option.bind_some,Bool.and_false,bV,if_false,id];rfl
   ·simp only[hc,h3,hx,h1,decide_true,decide_false,if_true,Option.pure_def,Option.bind_eq_bind,Option.bind_some,Bool.false_and,bV,if_false,id];rfl
  ·have hc:¬((i:Int)<(s.l.length:Int)):=by omega
   rw[ci.2 (by omega)];simp only[hc,decide_false,bV,if_false,Option.pure_def,Option.bind_eq_bind,Option.bind_some,id];rfl
theorem zGM(s:Str)(b:Bool)(hs:s.l.length<=100000):wL ⟨s,b⟩ 0=some ((lead 3 s.l:Nat):Int):=by
 have:=zGw s b hs 3 0 rfl (cN _);rw[cS,cI,cO] at this;exact this
theorem cutN(s:Str)(n:Nat)(h:n<=s.l.length):sslc s 0 (n:Int)=some ⟨s.l.take n⟩/\sslc s (n:Int) (s.l.length:Int)=some ⟨s.l.drop n⟩:=by
 unfold sslc slc;constructor
 ·rw[if_pos ⟨by omega,by omega,by omega⟩,cP];rfl
 ·rw[if_pos ⟨by omega,by omega,by omega⟩,cP,cP,cV];rfl
theorem BE.leaf{n:Nat}{k v:Int}{a:zA}{r:zE}(ha:BA a)(hr:BL r.Subs):BE n (.mk k v a r []):=by
 cases n with
 | zero=>exact⟨ha,hr,rfl⟩
 | succ n=>exact⟨ha,hr,cN _,λ_ h=>by cases h⟩
theorem ba0:BA ⟨[],0⟩:=by show (0:Nat)<=1000;omega
theorem bl0:BL []:=⟨by show (0:Nat)<=1000;omega,λ_ h=>by cases h⟩
theorem zGN:∀(j:Nat) (r:zR),j<=5->RG r->Ok (yA r ((6 - j:Nat):Int)) (λo=>BE j o.1/\RG o.2):=by
 intro j
 induction j with
 | zero=>
  intro r hj h;rw[yA];have hd:((((6 - 0:Nat):Int))>5):=by omega
  have e:xG ⟨r.s,true⟩=some (0,⟨r.s,true⟩):=rfl;have e0:(((0:UInt8).toNat:Int)==0)=true:=rfl;refine⟨(.mk 0 0 ⟨[],0⟩ ⟨⟨[]⟩,[]⟩ [],⟨r.s,true⟩),?_,BE.leaf ba0 bl0,h⟩;simp only[hd,decide_true,if_true,Option.pure_def,Option.bind_eq_bind,Option.bind_some,e,e0]
 | succ j ih=>
  intro r hj h;rw[yA];have hd:¬((((6 - (j+1):Nat):Int))>5):=by omega
  have hW:W (((6 - (j+1):Nat):Int)+1)=((6 - j:Nat):Int):=by rw[vM (by omega) (by omega)];omega
  obtain⟨c,h1,h2⟩:=zEl r;have er:xG ⟨r.s,r.bad⟩=some (c,r):=h1;simp only[hd,decide_false,bV,if_false,Option.pure_def,hW];refine Ok.bind (φ:=λb=>b=r.bad) ⟨r.bad,rfl,rfl⟩ λb hb=>?_;subst hb;rw[er];refine Ok.bind_some ?_;refine Ok.ite_beq (λ_=>⟨_,rfl,BE.leaf ba0 bl0,h⟩) λ_=>?_;refine Ok.bind (φ:=λ_:Bool=>True) (Ok.ite_dec (λ_=>⟨_,rfl,trivial⟩) λ_=>⟨_,rfl,trivial⟩) λb _=>?_;refine Ok.ite (λ_=>?_) λ_=>?_
  ·obtain⟨rs,rb⟩:=r;rw[zGM rs rb h.2];refine Ok.bind_some ?_;obtain⟨k1,k2⟩:=zEn 3 rs.l;obtain⟨c1,c2⟩:=cutN rs _ k1;rw[c1];refine Ok.bind_some ?_;have hA:uN ⟨rs.l.take (lead 3 rs.l)⟩=some (atoiM ⟨rs.l.take (lead 3 rs.l)⟩):=by
    unfold uN;rw[if_pos (by show (rs.l.take _).length<=_;rw[cd];omega)]
   rw[hA];refine Ok.bind_some ?_;rw[c2];exact Ok.bind_some ⟨_,rfl,BE.leaf ba0 bl0,h.drop _ _⟩
  ·refine Ok.ite_beq (λ_=>?_) λ_=>?_
   ·refine Ok.bind (dS r h) λo1 k1=>?_;obtain⟨y7,y8⟩:=o1;refine Ok.bind (zDn y8 125 k1) λo5 k5=>?_;obtain⟨y10,y11⟩:=o5;obtain⟨⟨k5,k5'⟩,k6⟩:=k5;dsimp only at k5 k5' k6 ⊢;obtain⟨⟨y13,y14⟩,hp,hr⟩:=implParse y10 k5 (by omega);rw[hp];refine Ok.bind_some ?_;refine Ok.bind (φ:=λ_:Bool=>True) (Ok.ite (λ_=>⟨_,rfl,trivial⟩) λ_=>⟨_,rfl,trivial⟩) λb _=>?_;exact⟨_,rfl,BE.leaf hr.ba bl0,k6⟩
   ·refine Ok.ite_beq (λ_=>?_) λ_=>?_
    ·refine Ok.bind (dS r h) λo1 k1=>?_;obtain⟨y16,y17⟩:=o1;refine Ok.bind (ih y17 (by omega) k1) λo2 k2=>?_;obtain⟨y19,y20⟩:=o2;obtain⟨k2,k3⟩:=k2;refine Ok.bind (dS y20 k3) λo3 k4=>?_;obtain⟨y22,y23⟩:=o3;refine Ok.bind_some ?_;refine Ok.bind (ih y23 (by omega) k4) λo4 k5=>?_;obtain⟨y26,y27⟩:=o4;obtain⟨k5,k6⟩:=k5;refine Ok.bind (zBo y27 41 k6) λy28 k7=>?_;refine Ok.bind (φ:=λ_:Bool=>True) (Ok.ite (λ_=>⟨_,rfl,trivial⟩) λ_=>⟨_,rfl,trivial⟩) λb _=>?_;refine⟨_,rfl,⟨ba0,bl0,by show (2:Nat)<=1000;omega,λk hk=>?_⟩,k7⟩;rcases cg.1 hk with rfl|hk
     ·exact k2
     ·rw[cm.1 hk];exact k5
    ·refine Ok.bind (zBp r h) λo1 k1=>?_;obtain⟨y30,y31⟩:=o1;exact⟨_,rfl,BE.leaf ba0 k1.1,k1.2⟩
end Go.LN
namespace Go.LN
theorem zDo:∀(n:Nat) (u r:List UInt8),u.all isDig=true->noDig r->u.length<n->lead n (u++r)=u.length
 | 0,_,_,_,_,h=>absurd h (by omega)
 | n+1,[],r,_,hr,_=>by
  rcases hr with rfl|⟨b,t,rfl,hb⟩
  ·rfl
  ·show lead (n+1) (b::t)=0
   rw[lead,hb];rfl
 | n+1,c::u,r,hu,hr,hl=>by
  rw[cG,bW] at hu
  simp only[bY] at hl ⊢
  show lead (n+1) (c::(u++r))=_
  rw[lead,if_pos hu.1,zDo n u r hu.2 hr (by omega)]
theorem zGO:∀k:Fin 100,atoiM ⟨dtx k.val⟩=((k.val:Int),false):=by decide +kernel
theorem zGP{deep:Int}(hd:¬deep>5)(k:Nat)(hk:k<=99)(rest:List UInt8)(hr:noDig rest)(hl:(dtx k++rest).length<=100000):
 yA ⟨⟨dtx k++rest⟩,false⟩ deep=some (.mk 1 k ⟨[],0⟩ ⟨⟨[]⟩,[]⟩ [],⟨⟨rest⟩,false⟩):=by
 obtain⟨c,t,e,hc⟩:=zBm hk
 have hn:xG ⟨⟨dtx k++rest⟩,false⟩=some (c,⟨⟨dtx k++rest⟩,false⟩):=by rw[e];rfl
 unfold isDig at hc
 simp only[bW,decide_eq_true_eq] at hc
 have z1:((c.toNat:Int)==0)=false:=by rw[beq_eq_false_iff_ne];omega
 have z2:((c.toNat:Int)>=48):=by omega
 have z3:((c.toNat:Int)<=57):=by omega
 have hlead:lead 3 (dtx k++rest)=(dtx k).length:=zDo 3 _ _ (dQ ⟨k,by omega⟩).1 hr (by have:=rQ k;omega)
 have h0:=zGM ⟨dtx k++rest⟩ false hl
 rw[show (⟨dtx k++rest⟩:Str).l=dtx k++rest from rfl,hlead] at h0
 obtain⟨c1,c2⟩:=cutN ⟨dtx k++rest⟩ (dtx k).length (by show _<=(dtx k++rest).length;rw[ca];omega)
 rw[show (⟨dtx k++rest⟩:Str).l=dtx k++rest from rfl] at c1 c2
 rw[List.take_left' rfl] at c1
 rw[List.drop_left' rfl] at c2
 have hA:uN ⟨dtx k⟩=some ((k:Int),false):=by
  unfold uN
  rw[if_pos (by show (dtx k).length<=_;have:=rQ k;omega),zGO ⟨k,by omega⟩]
 rw[yA]
 simp only[hd,decide_false,bV,if_false,Option.pure_def,Option.bind_eq_bind,Option.bind_some,hn,z1,z2,z3,decide_true,if_true,h0,c1,c2,hA]
theorem zGx{deep:Int}(hd:¬deep>5)(a:zA)(ha:validB a=true)(rest:List UInt8)(hl:(123::(tx a++125::rest)).length<=100000):
 yA ⟨⟨123::(tx a++125::rest)⟩,false⟩ deep=some (.mk 2 0 a ⟨⟨[]⟩,[]⟩ [],⟨⟨rest⟩,false⟩):=by
 have h1:=zBn (c:=123) (by decide) (tx a++125::rest)
 have h2:=zEm (c:=125) (zA4 ha rfl) rest (by simp only[bY] at hl;omega)
 have hT:=mV ha
 obtain⟨⟨r1,r2⟩,hr,hres⟩:=implParse ⟨tx a⟩ (zBe ha) (by show (tx a).length<=_;omega)
 have hr12:r2=true/\r1=a:=by
  rcases hres with⟨q1,q2,q3⟩|⟨q1,q2,q3⟩
  ·exact⟨q1,(zCt ha q2 q3).symm⟩
  ·exact absurd rfl (q3 a ha)
 obtain⟨rfl,rfl⟩:=hr12
 obtain⟨c,hc⟩:∃c:UInt8,c=123:=⟨_,rfl⟩
 rw[<- hc] at h1 ⊢
 have hn:∀t,xG ⟨⟨c::t⟩,false⟩=some (c,⟨⟨c::t⟩,false⟩):=λt=>rfl
 have z1:((c.toNat:Int)==0)=false:=by rw[hc];rfl
 have z2:((c.toNat:Int)>=48):=by rw[hc];decide
 have z3:¬((c.toNat:Int)<=57):=by rw[hc];decide
 have z4:((c.toNat:Int)==123)=true:=by rw[hc];rfl
 rw[yA]
 simp only[hd,decide_false,bV,if_false,Option.pure_def,Option.bind_eq_bind,Option.bind_some,hn,z1,z2,z3,z4,decide_true,if_true,h1,h2,hr,cJ]
theorem zGy{deep:Int}(hd:¬deep>5)(a:zE){d:Int}(ha:accB a d=true)(rest:List UInt8)(hl:(acT a++rest).length<=100000):
 yA ⟨⟨acT a++rest⟩,false⟩ deep=some (.mk 3 0 ⟨[],0⟩ a [],⟨⟨rest⟩,false⟩):=by
 have h1:=zC0 ha rest hl
 obtain⟨c,t,e,g1,g2⟩:=zGI ha
 have hn:xG ⟨⟨acT a++rest⟩,false⟩=some (c,⟨⟨acT a++rest⟩,false⟩):=by rw[e];rfl
 have z1:((c.toNat:Int)==0)=false:=by rw[beq_eq_false_iff_ne];omega
 have z2:((c.toNat:Int)>=48):=by omega
 have z3:¬((c.toNat:Int)<=57):=by omega
 have z4:((c.toNat:Int)==123)=false:=by rw[beq_eq_false_iff_ne];omega
 have z5:((c.toNat:Int)==40)=false:=by rw[beq_eq_false_iff_ne];omega
 rw[yA]
 simp only[hd,decide_false,bV,if_false,Option.pure_def,Option.bind_eq_bind,Option.bind_some,hn,z1,z2,z3,z4,z5,decide_true,if_true,h1]
theorem zGz{deep:Int}(hd:¬deep>5){k:Int}(hk:k=4∨k=5∨k=6)(x y:zB)(u v rest:List UInt8)
 (hx:yA ⟨⟨u++opc k::(v++41::rest)⟩,false⟩ (W (deep+1))=some (x,⟨⟨opc k::(v++41::rest)⟩,false⟩))
 (hy:yA ⟨⟨v++41::rest⟩,false⟩ (W (deep+1))=some (y,⟨⟨41::rest⟩,false⟩)) :
 yA ⟨⟨40::(u++opc k::(v++41::rest))⟩,false⟩ deep=some (.mk k 0 ⟨[],0⟩ ⟨⟨[]⟩,[]⟩ [x,y],⟨⟨rest⟩,false⟩):=by
 have h1:=zBn (c:=40) (by decide) (u++opc k::(v++41::rest))
 have h2:=zBn (c:=opc k) (by rcases hk with rfl|rfl|rfl <;> decide) (v++41::rest)
 have h3:=zCx (c:=41) (by decide) rest
 have hI:rP ⟨[43,45,42]⟩ (opc k)=some (k - 4):=by rcases hk with rfl|rfl|rfl <;> rfl
 have hW:W (4+(k - 4))=k:=by rw[vM (by omega) (by omega)];omega
 have hneg:¬(k - 4<0):=by omega
 obtain⟨c,hc⟩:∃c:UInt8,c=40:=⟨_,rfl⟩
 rw[<- hc] at h1 ⊢
 have hn:∀t,xG ⟨⟨c::t⟩,false⟩=some (c,⟨⟨c::t⟩,false⟩):=λt=>rfl
 have z1:((c.toNat:Int)==0)=false:=by rw[hc];rfl
 have z2:¬((c.toNat:Int)>=48):=by rw[hc];decide
 have z4:((c.toNat:Int)==123)=false:=by rw[hc];rfl
 have z5:((c.toNat:Int)==40)=true:=by rw[hc];rfl
 rw[yA]
 simp only[hd,decide_false,bV,if_false,Option.pure_def,Option.bind_eq_bind,Option.bind_some,hn,z1,z2,z4,z5,decide_true,if_true,h1,same,hx,h2,hI,hy,h3,hneg,hW]
theorem zGQ{d:Int}:∀(n:Nat) (e:zB) (rest:List UInt8),n<=5->shapeB d n e=true->noDig rest->(exT n e++rest).length<=100000 ->
 yA ⟨⟨exT n e++rest⟩,false⟩ ((6 - n:Nat):Int)=some (e,⟨⟨rest⟩,false⟩):=by
 intro n
 induction n with
 | zero=>intro e rest _ h;cases h
 | succ n ih=>
  intro e rest hn h hr hl
  have hd:¬(((6 - (n+1):Nat):Int)>5):=by omega
  have hW:W (((6 - (n+1):Nat):Int)+1)=((6 - n:Nat):Int):=by rw[vM (by omega) (by omega)];omega
  cases mN h with
  | num k hk=>rw[gR] at hl ⊢;exact zGP hd k hk rest hr hl
  | ix a ha=>
   unfold okA at ha
   rw[bW] at ha
   have e1:exT (n+1) (.mk 2 0 a ⟨⟨[]⟩,[]⟩ [])++rest=123::(tx a++125::rest):=by rw[zAb];simp
   rw[e1] at hl ⊢
   exact zGx hd a ha.1 rest hl
  | rd a ha=>rw[zAc] at hl ⊢;exact zGy hd a ha rest hl
  | op k x y hk hx hy=>
   have e1:exT (n+1) (.mk k 0 ⟨[],0⟩ ⟨⟨[]⟩,[]⟩ [x,y])++rest=40::(exT n x++opc k::(exT n y++41::rest)):=by rw[zAd hk];simp
   rw[e1] at hl ⊢
   simp only[bY,ca] at hl
   refine zGz hd hk x y _ _ rest ?_ ?_
   ·rw[hW];exact ih x _ (by omega) hx (.inr ⟨_,_,rfl,zCv⟩) (by simp only[bY,ca];omega)
   ·rw[hW];exact ih y _ (by omega) hy (.inr ⟨_,_,rfl,rfl⟩) (by simp only[bY,ca];omega)
def stm0:zL:=⟨⟨⟨[]⟩,[]⟩,.mk 0 0 ⟨[],0⟩ ⟨⟨[]⟩,[]⟩ []⟩
def ResS(t:List UInt8)(r:zL×Bool):Prop:=(r.2=true/\stmtB r.1 4=true/\t=stT r.1)∨(r.2=false/\r.1=stm0/\∀s,stmtB s 4=true->t ≠ stT s)
theorem ResS.uniq{t:List UInt8}{r s:zL×Bool}(h:ResS t r)(k:ResS t s):r=s:=by
 obtain⟨r1,r2⟩:=r;obtain⟨s1,s2⟩:=s;rcases h with⟨h1,h2,h3⟩|⟨h1,h2,h3⟩ <;> rcases k with⟨k1,k2,k3⟩|⟨k1,k2,k3⟩ <;> simp only at h1 h2 h3 k1 k2 k3
 ·rw[h1,k1,zHc h2 k2 (h3.symm.trans k3)]
 ·exact absurd h3 (k3 _ h2)
 ·exact absurd k3 (h3 _ k2)
 ·rw[h1,h2,k1,k2]
theorem implIsS(s:zL)(h:BS s):qL s=some (stmtB s 4):=by
 unfold qL;rw[implStmt s 4 h];rfl
theorem zBA{s:zL}{d:Int}(h:stmtB s d=true):BS s:=by
 obtain⟨a1,a2⟩:=oK h;have hac:∀{a:zE},accB a d=true->BL a.Subs:=λ{a} ha=>by
  obtain⟨_,v,hl⟩:=qT ha;exact⟨by omega,λx hx=>by
   have:=v.2 x hx;simp only[validB,bW,decide_eq_true_eq] at this;unfold BA;omega⟩
 have hex:∀(n:Nat) (e:zB),shapeB d n e=true->BE n e:=by
  intro n
  induction n with
  | zero=>intro e h;cases h
  | succ n ih=>
   intro e h;cases mN h with
   | num k hk=>exact BE.leaf ba0 bl0
   | ix a ha=>
    unfold okA at ha;rw[bW] at ha;have:=ha.1;simp only[validB,bW,decide_eq_true_eq] at this;exact BE.leaf (by unfold BA;omega) bl0
   | rd a ha=>exact BE.leaf ba0 (hac ha)
   | op k x y hk hx hy=>
    refine⟨ba0,bl0,by show (2:Nat)<=1000;omega,λz hz=>?_⟩;rcases cg.1 hz with rfl|hz
    ·exact ih _ hx
    ·rw[cm.1 hz];exact ih _ hy
 exact⟨hac a1,5,hex 5 _ a2⟩
theorem zC1{s:zL}(h:stmtB s 4=true):uU ⟨stT s⟩=some (s,true):=by
 have hl:=zEV h;obtain⟨a1,a2⟩:=oK h;have h1:=zC0 a1 (61::exT 5 s.Value) (by show (stT s).length<=_;omega);have h2:=zCx (c:=61) (by decide) (exT 5 s.Value);have hl5:(exT 5 s.Value++[]).length<=100000:=by
  unfold stT at hl;simp only[ca,bY,co] at hl ⊢;omega
 have h3:=zGQ 5 s.Value [] (cu _) a2 (.inl rfl) hl5;rw[cr] at h3;have h3:yA ⟨⟨exT 5 s.Value⟩,false⟩ 1=some (s.Value,⟨⟨[]⟩,false⟩):=h3;have h1:wF ⟨⟨stT s⟩,false⟩=some (s.Write,⟨⟨61::exT 5 s.Value⟩,false⟩):=h1;have hc:¬(((⟨stT s⟩:Str).l.length:Int)>2000):=by show ¬(((stT s).length:Int)>2000);omega
 have hs:(⟨s.Write,s.Value⟩:zL)=s:=rfl;have hq:((([]:List UInt8)==[]))=true:=rfl;unfold uU;simp only[hc,decide_false,bV,if_false,Option.bind_eq_bind,Option.bind_some,h1,h2,h3,hq,cJ,hs,implIsS s (zBA h),h,implStT s h,beq_self_eq_true,Option.pure_def]
theorem implParseS(t:Str)(ha:asc t.l=true)(hl:t.l.length<=100000):∃r,uU t=some r/\ResS t.l r:=by
 by_cases hex:∃s,stmtB s 4=true/\t.l=stT s
 ·obtain⟨s,h1,h2⟩:=hex;refine⟨(s,true),?_,.inl ⟨rfl,h1,h2⟩⟩;have:=zC1 h1;rw[<- h2] at this;exact this
 have hno:∀s,stmtB s 4=true->t.l ≠ stT s:=λs h1 h2=>hex ⟨s,h1,h2⟩;refine⟨(stm0,false),?_,.inr ⟨rfl,rfl,hno⟩⟩;unfold uU;by_cases hc:(t.l.length:Int)>2000
 ·rw[decide_eq_true hc];rfl
 obtain⟨⟨y1,y2⟩,h1,k1,k2⟩:=zBp ⟨t,false⟩ ⟨ha,hl⟩;obtain⟨y3,h3,k3⟩:=zBo y2 61 k2;obtain⟨⟨y5,y6⟩,h5,k5,k6⟩:=zGN 5 y3 (cu _) k3;have h5:yA y3 1=some (y5,y6):=h5;have hBS:BS ⟨y1,y5⟩:=⟨k1,5,k5⟩;simp only[hc,decide_false,bV,if_false,Option.bind_eq_bind,Option.bind_some,h1,h3,h5,implIsS _ hBS,Option.pure_def];cases hb:y6.bad with
 | true=>rfl
 | false=>
  by_cases hz:y6.s.l=[]
  ·have e1:(y6.s.l==[])=true:=by rw[hz];rfl
   cases hv:stmtB ⟨y1,y5⟩ 4 with
   | false=>simp only[e1,cJ,cB,bV,if_false,if_true,Option.bind_some];rfl
   | true=>
    have e2:(stT ⟨y1,y5⟩==t.l)=false:=by
     rw[beq_eq_false_iff_ne];exact λe=>hno _ hv e.symm
    simp only[e1,cJ,cB,bV,if_false,if_true,Option.bind_some,implStT _ hv,e2];rfl
  ·have e1:(y6.s.l==[])=false:=by simpa using hz
   simp only[e1,cB,bV,if_false,if_true,Option.bind_some];rfl
theorem implFS(s:zL)(h:BS s):tE s=some (if stmtB s 4 then⟨stT s⟩ else⟨[]⟩):=by
 unfold tE;rw[implIsS s h];cases hb:stmtB s 4 with
 | false=>rfl
 | true=>
  have:=implStT s hb;simp only[Option.bind_eq_bind,Option.bind_some,cJ,bV,if_false,this,if_true];rfl
end Go.LN
