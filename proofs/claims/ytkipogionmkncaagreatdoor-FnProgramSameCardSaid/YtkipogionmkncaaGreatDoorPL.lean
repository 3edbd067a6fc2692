/- Helper of the proof (see the last text). -/
import Derived.Test.YtkipogionmkncaaGreatDoorVB1
import Derived.Lib.SplitLaws
set_option linter.unusedVariables false
set_option linter.unusedSimpArgs false
namespace Go.LN
open Lib (itoa decDigits)
def digs:List UInt8->Int->Option Int
 | [],n=>some n
 | b::l,n=>if(decide ((b.toNat:Int)<48)||decide ((b.toNat:Int)>57)) then none else digs l (W ((W (n*10))+(W (IntKind.u8.wrap ((b.toNat:Int) - 48)))))
theorem zLO(s:Str)(hs:s.l.length<=1048576):∀j i n,i+j=s.l.length ->
 uV s n (i:Int)=some (match digs (s.l.drop i) n with|none=>.ret (0,false)|some v=>.done v):=by
 intro j
 induction j with
 | zero=>
  intro i n hi
  rw[uV]
  have:¬((i:Int)<(s.l.length:Int)):=by omega
  simp only[this,decide_false,cj,if_false]
  rw[cE.2 (by omega)]
  rfl
 | succ j ih=>
  intro i n hi
  rw[uV]
  have aV:i<s.l.length:=by omega
  have h1:((i:Int)<(s.l.length:Int)):=by omega
  simp only[h1,decide_true,if_true,sidx,fO,ce aV,Option.pure_def,Option.bind_eq_bind,Option.bind_some]
  rw[cC aV,digs]
  by_cases ha:(s.l[i].toNat:Int)<48
  ·simp[ha]
  ·by_cases hb:(s.l[i].toNat:Int)>57
   ·simp[ha,hb]
   ·simp only[ha,hb,decide_false,cj,if_false,Option.bind_some,Bool.or_self]
    rw[eV (by omega),ih (i+1) _ (by omega)]
def numU(s:List UInt8):Int×Bool:=
 if s.length=0∨s.length>17 then(0,false)
 else if(match s with|[]=>false|b::t=>decide (b=48)&&decide (t.length>0)) then(0,false)
 else match digs s 0 with
  | none=>(0,false)
  | some n=>(n,true)
theorem zLw(s:Str)(hs:s.l.length<=1048576)(hn:s.l.head? ≠ some 45):kG s=some (numU s.l):=by
 obtain⟨s⟩:=s;simp only at hs hn;unfold kG numU;cases s with
 | nil=>rfl
 | cons b t=>
  have h45:b ≠ 45:=by simpa using hn
  have k45:((b.toNat:Int)==45)=decide (b=45):=zAA b 45 (by omega);have k48:((b.toNat:Int)==48)=decide (b=48):=zAA b 48 (by omega);have h0:(((b::t).length:Nat):Int)>0:=by simp
  have hl:(((b::t).length:Int)==0)=false:=by simp;omega
  have i0:sidx (⟨b::t⟩:Str) 0=some b:=rfl;simp only[h0,decide_true,if_true,i0,k45,h45,decide_false,cj,if_false,id,hl,Option.pure_def,Option.bind_eq_bind,Option.bind_some];by_cases h17:(b::t).length>17
  ·have:(((b::t).length:Nat):Int)>17:=by omega
   rw[if_pos (Or.inr h17)];simp only[this,decide_true,if_true,Option.bind_some]
  ·have:¬(((b::t).length:Nat):Int)>17:=by omega
   have hor:¬((b::t).length=0∨(b::t).length>17):=by simp only[co] at h17 ⊢;omega
   rw[if_neg hor];have hd:=zLO ⟨b::t⟩ hs _ 0 0 (cO _);rw[cz,Int.natCast_zero] at hd;simp only[this,decide_false,cj,if_false,k48,Option.bind_some];by_cases h48:b=48
   ·subst h48;by_cases ht:t.length>0
    ·have e1:(((((48:UInt8)::t).length:Nat):Int)>1):=by simp only[co];omega
     simp only[e1,ht,decide_true,if_true,cP,Option.bind_some]
    ·have e1:¬(((((48:UInt8)::t).length:Nat):Int)>1):=by simp only[co];omega
     simp only[e1,ht,decide_true,decide_false,if_true,cj,if_false,cP,Option.bind_some];rw[hd];cases digs (48::t) 0 <;> rfl
   ·simp only[h48,decide_false,cj,if_false,Bool.false_and,Option.bind_some];rw[hd];cases digs (b::t) 0 <;> rfl
def isDg(b:UInt8):Bool:=decide (48<=b.toNat)&&decide (b.toNat<=57)
def run:List UInt8->Nat->Nat
 | _,0=>0
 | [],_+1=>0
 | b::u,n+1=>if isDg b then 1+run u n else 0
theorem zI8:∀(u:List UInt8) (n:Nat),run u n<=n/\run u n<=u.length
 | u,0=>by cases u <;> simp[run]
 | [],n+1=>by simp[run]
 | b::u,n+1=>by
  have:=zI8 u n
  rw[run]
  split
  ·simp;omega
  ·simp
theorem zLx(s:Str)(p:Nat)(hs:s.l.length<=1048576)(hp:p<=s.l.length):∀j i,i+j=2->p+i<=s.l.length->uD s (p:Int) ((p+i:Nat):Int)=some ((p+i+run (s.l.drop (p+i)) j:Nat):Int):=by
 intro j
 induction j with
 | zero=>
  intro i hi hl;rw[uD];have h2:¬(((p+i:Nat):Int)<W ((p:Int)+2)):=by rw[oM (by omega) (by omega)];omega
  have hr:run (s.l.drop (p+i)) 0=0:=by cases s.l.drop (p+i) <;> rfl
  rw[hr];by_cases h1:((p+i:Nat):Int)<(s.l.length:Int)
  ·simp only[h1,h2,decide_true,decide_false,if_true,cj,if_false,Option.pure_def,Option.bind_eq_bind,Option.bind_some,id];rfl
  ·simp only[h1,decide_false,cj,if_false,Option.pure_def,Option.bind_eq_bind,Option.bind_some,id];rfl
 | succ j ih=>
  intro i hi hl;rw[uD];have h2:(((p+i:Nat):Int)<W ((p:Int)+2)):=by rw[oM (by omega) (by omega)];omega
  by_cases h1:p+i<s.l.length
  ·have h1':((p+i:Nat):Int)<(s.l.length:Int):=by omega
   simp only[h1',h2,decide_true,if_true,sidx,fO,ce h1,Option.pure_def,Option.bind_eq_bind,Option.bind_some];rw[cC h1,run];unfold isDg;by_cases ha:(48:Nat)<=s.l[p+i].toNat
   ·have ha':((s.l[p+i].toNat:Int)>=48):=by omega
    by_cases hb:s.l[p+i].toNat<=57
    ·have hb':((s.l[p+i].toNat:Int)<=57):=by omega
     simp only[ha,ha',hb,hb',decide_true,if_true,Option.bind_some,Bool.and_self];rw[eV (by omega)];have:=ih (i+1) (by omega) (by omega);rw[show p+(i+1)=p+i+1 by omega] at this;rw[this]
     congr 2
     omega
    ·have hb':¬((s.l[p+i].toNat:Int)<=57):=by omega
     simp only[ha,ha',hb,hb',decide_true,decide_false,if_true,cj,if_false,Option.bind_some,Bool.and_false,id];rfl
   ·have ha':¬((s.l[p+i].toNat:Int)>=48):=by omega
    simp only[ha,ha',decide_false,cj,if_false,Option.bind_some,Bool.false_and,id];rfl
  ·have h1':¬((p+i:Nat):Int)<(s.l.length:Int):=by omega
   rw[cE.2 (by omega),run];simp only[h1',decide_false,cj,if_false,Option.pure_def,Option.bind_eq_bind,Option.bind_some,id];rfl
theorem zJF:∀(u:List UInt8) (n:Nat),(u.take (run u n)).all isDg=true
 | u,0=>by cases u <;> simp[run]
 | [],n+1=>by simp[run]
 | b::u,n+1=>by
  rw[run]
  split
  ·rename_i h
   rw[Nat.add_comm,List.take_succ_cons,da,h,zJF u n];rfl
  ·simp
theorem zKY{l:List UInt8}(h:l.all isDg=true):l.head? ≠ some 45:=by
 cases l with
 | nil=>simp
 | cons b l=>
  rw[da,cg] at h;rintro e;simp only[List.head?_cons,Option.some.injEq] at e;subst e;exact absurd h.1 (by decide)
theorem zJ8(s:Str)(p:Nat)(hs:s.l.length<=1048576)(hp:p<=s.l.length):
 sX s (p:Int)=some (if(numU ((s.l.drop p).take (run (s.l.drop p) 2))).2 then((numU ((s.l.drop p).take (run (s.l.drop p) 2))).1,((p+run (s.l.drop p) 2:Nat):Int)) else(1,(p:Int))):=by
 unfold sX
 have h:=zLx s p hs hp 2 0 rfl (by omega)
 simp only[Nat.add_zero] at h
 have hr:=zI8 (s.l.drop p) 2
 rw[cp] at hr
 have hsl:sslc s (p:Int) ((p+run (s.l.drop p) 2:Nat):Int)=some ⟨(s.l.drop p).take (run (s.l.drop p) 2)⟩:=by
  rw[zIt (by omega) (by omega),List.take_drop]
 have hnum:=zLw ⟨(s.l.drop p).take (run (s.l.drop p) 2)⟩ (by show (List.take _ _).length<=_;rw[cr,cp];omega) (zKY (zJF _ _))
 rw[h]
 simp only[Option.bind_eq_bind,Option.bind_some,hsl,hnum]
 cases (numU ((s.l.drop p).take (run (s.l.drop p) 2))).2 <;> rfl
def nmOf(u:List UInt8):Int:=match u with|[]=>-1|b::_=>if b.toNat<105∨b.toNat>108 then -1 else(b.toNat:Int) - 105
theorem zLP(s:Str)(p:Nat)(hp:p<=s.l.length):nO s (p:Int)=some (nmOf (s.l.drop p)):=by
 unfold nO;by_cases h:p=s.l.length
 ·have h1:((p:Int)>=(s.l.length:Int)):=by omega
  simp only[h1,decide_true,if_true,Option.pure_def,Option.bind_eq_bind,Option.bind_some];rw[cE.2 (by omega)];rfl
 ·have h1:¬((p:Int)>=(s.l.length:Int)):=by omega
  have aV:p<s.l.length:=by omega
  simp only[h1,decide_false,cj,if_false,sidx,fO,ce aV,Option.pure_def,Option.bind_eq_bind,Option.bind_some];rw[cC aV,nmOf];have hb:=s.l[p].toNat_lt;by_cases ha:s.l[p].toNat<105
  ·have:((s.l[p].toNat:Int)<105):=by omega
   simp[ha,this]
  ·have ha':¬((s.l[p].toNat:Int)<105):=by omega
   by_cases hc:s.l[p].toNat>108
   ·have:((s.l[p].toNat:Int)>108):=by omega
    simp[ha',hc,this]
   ·have hc':¬((s.l[p].toNat:Int)>108):=by omega
    simp only[ha',hc',ha,hc,decide_false,cj,if_false,Option.bind_some,or_self];rw[oM (x:=(s.l[p].toNat:Int)) (by omega) (by omega),oM (by omega) (by omega)]
def dgt(u:List UInt8):Int×Nat:=if(numU (u.take (run u 2))).2 then((numU (u.take (run u 2))).1,run u 2) else(1,0)
def star(u:List UInt8):Nat:=if 0<(dgt u).2/\(u.drop (dgt u).2).head?=some 42 then(dgt u).2+1 else(dgt u).2
theorem zKZ(u:List UInt8):(dgt u).2<=u.length:=by
 have:=zI8 u 2;unfold dgt;split
 ·exact this.2
 ·exact d9 _
theorem zLQ(u:List UInt8):star u<=u.length:=by
 have:=zKZ u;unfold star;split
 ·rename_i h;have:(u.drop (dgt u).2).length>0:=by
   cases hd:u.drop (dgt u).2 with
   | nil=>rw[hd] at h;cases h.2
   | cons b r=>simp
  rw[cp] at this;omega
 ·exact this
def sgo(u:List UInt8):Nat:=match u with|[]=>0|b::_=>if isSg b then 1 else 0
theorem zHK(a:zA)(s:Str)(hs:s.l.length<=1048576)(hC:a.Coefs.length=4)(sg:Int)(q:Nat)(ho:q<=s.l.length):
 (do
 let (y1,y2)<-sX s (q:Int)
 let t51<-(do
  if(decide (y2>(q:Int))) then
   if(decide (y2<(s.l.length:Int))) then
    let b5<-idx s.l y2
    pure ((b5.toNat:Int)==42)
   else
    pure false
  else
   pure false
    : Option Bool)
 let star<-(do
  if t51 then
   pure (W (y2+1))
  else
   pure (id y2)
    : Option Int)
 let y3<-nO s star
 let l<-app 8 ([]:List Int) a.Coefs
 let t75<-(do
  if(decide (y3>=0)) then
   if(decide (star>y2)) then
    pure true
   else
    pure (y2==(q:Int))
  else
   pure false
    : Option Bool)
 if t75 then
  let x<-idx l y3
  let x1<-idx l y3
  let l1<-pure (l.set y3.toNat (W (x+(W (sg*y1)))))
  pure ((zA.mk l1 a.Const),(W (star+1)))
 else
  if(y2==(q:Int)) then
   pure (a,(-1))
  else
   pure ((zA.mk l (W (a.Const+(W (sg*y1))))),y2):Option (zA×Int))=some (let u:=s.l.drop q
    if 0<=nmOf (u.drop (star u))/\((dgt u).2<star u∨(dgt u).2=0) then
     (⟨a.Coefs.set (nmOf (u.drop (star u))).toNat (W (a.Coefs.getD (nmOf (u.drop (star u))).toNat 0+W (sg*(dgt u).1))),a.Const⟩,((q+star u+1:Nat):Int))
    else if(dgt u).2=0 then(a,-1) else(⟨a.Coefs,W (a.Const+W (sg*(dgt u).1))⟩,((q+(dgt u).2:Nat):Int))):=by
  rw[zJ8 s q hs ho]
  have hdl:=zKZ (s.l.drop q)
  have hstl:=zLQ (s.l.drop q)
  rw[cp] at hdl hstl
  have hdig:(if(numU ((s.l.drop q).take (run (s.l.drop q) 2))).2=true then((numU ((s.l.drop q).take (run (s.l.drop q) 2))).1,((q+run (s.l.drop q) 2:Nat):Int)) else(1,(q:Int)))=((dgt (s.l.drop q)).1,((q+(dgt (s.l.drop q)).2:Nat):Int)):=by
   unfold dgt
   split <;> rfl
  rw[hdig]
  simp only[Option.pure_def,Option.bind_eq_bind,Option.bind_some]
  have hstar:∀(f:Int->Option (zA×Int)),(Option.bind (if(decide (((q+(dgt (s.l.drop q)).2:Nat):Int)>(q:Int)))=true then
   (if(decide (((q+(dgt (s.l.drop q)).2:Nat):Int)<(s.l.length:Int)))=true then
    Option.bind (idx s.l ((q+(dgt (s.l.drop q)).2:Nat):Int)) λb5=>some ((b5.toNat:Int)==42)
   else some false) else some false) λt51=>Option.bind (if t51=true then some (W (((q+(dgt (s.l.drop q)).2:Nat):Int)+1)) else some (id ((q+(dgt (s.l.drop q)).2:Nat):Int))) f)=f ((q+star (s.l.drop q):Nat):Int):=by
   intro f
   unfold star
   rw[cR,fO]
   by_cases h0:0<(dgt (s.l.drop q)).2
   ·have h0':(((q+(dgt (s.l.drop q)).2:Nat):Int)>(q:Int)):=by omega
    by_cases h1:q+(dgt (s.l.drop q)).2<s.l.length
    ·have h1':(((q+(dgt (s.l.drop q)).2:Nat):Int)<(s.l.length:Int)):=by omega
     have k42:((s.l[q+(dgt (s.l.drop q)).2].toNat:Int)==42)=decide (s.l[q+(dgt (s.l.drop q)).2]=42):=zAA _ 42 (by omega)
     have hhd:(s.l.drop (q+(dgt (s.l.drop q)).2)).head?=some (s.l[q+(dgt (s.l.drop q)).2]):=by rw[cC h1];rfl
     simp only[h0',h1',decide_true,if_true,ce h1,Option.bind_some,k42,h0,true_and,hhd,Option.some.injEq]
     by_cases h42:s.l[q+(dgt (s.l.drop q)).2]=42
     ·simp only[h42,decide_true,if_true,Option.bind_some]
      rw[eV (by omega)];rfl
     ·simp only[h42,decide_false,cj,if_false,Option.bind_some,id]
    ·have h1':¬(((q+(dgt (s.l.drop q)).2:Nat):Int)<(s.l.length:Int)):=by omega
     have hhd:(s.l.drop (q+(dgt (s.l.drop q)).2)).head?=none:=by
      rw[show s.l.drop (q+(dgt (s.l.drop q)).2)=[] from cE.2 (by omega)];rfl
     simp only[h0',h1',decide_true,decide_false,if_true,cj,if_false,Option.bind_some,hhd,reduceCtorEq,and_false,id]
   ·have h0':¬(((q+(dgt (s.l.drop q)).2:Nat):Int)>(q:Int)):=by omega
    simp only[h0',h0,decide_false,cj,if_false,Option.bind_some,false_and,id]
  refine(hstar _).trans ?_
  rw[zLP s _ (by omega),gV (by simp;omega),<- cR]
  simp only[Option.bind_some,cM]
  generalize hu:s.l.drop q=u at hdl hstl ⊢
  have hnm:nmOf (u.drop (star u))<4:=by
   unfold nmOf
   split
   ·omega
   ·split <;> omega
  generalize nmOf (u.drop (star u))=v at hnm ⊢
  by_cases hv:0<=v
  ·have hv':v>=0:=hv
   have hx:idx a.Coefs v=some (a.Coefs.getD v.toNat 0):=by
    rw[zLc hv,cZ,ce (by omega)]
    rfl
   by_cases h1:(dgt u).2<star u
   ·have h1':(((q+star u:Nat):Int)>((q+(dgt u).2:Nat):Int)):=by omega
    simp only[hv,hv',h1,h1',decide_true,if_true,Option.bind_some,hx,true_or,and_self]
    rw[eV (by omega)]
   ·have h1':¬(((q+star u:Nat):Int)>((q+(dgt u).2:Nat):Int)):=by omega
    by_cases h2:(dgt u).2=0
    ·have h2':(((q+(dgt u).2:Nat):Int)==(q:Int))=true:=by simp;omega
     simp only[hv,hv',h1,h1',h2',decide_true,decide_false,if_true,cj,if_false,Option.bind_some,hx]
     rw[if_pos ⟨trivial,.inr h2⟩,eV (by omega)]
    ·have h2':(((q+(dgt u).2:Nat):Int)==(q:Int))=false:=by simp;omega
     simp only[hv,hv',h1,h1',h2',h2,decide_true,decide_false,if_true,cj,if_false,Option.bind_some,or_self,and_false]
  ·have hv':¬v>=0:=hv
   simp only[hv,hv',decide_false,cj,if_false,Option.bind_some,false_and]
   by_cases h2:(dgt u).2=0
   ·have h2':(((q+(dgt u).2:Nat):Int)==(q:Int))=true:=by simp;omega
    rw[if_pos h2',if_pos h2]
   ·have h2':(((q+(dgt u).2:Nat):Int)==(q:Int))=false:=by simp;omega
    rw[if_neg (by rw[h2'];simp),if_neg h2]
theorem zFx(a:zA)(s:Str)(p:Nat)(hs:s.l.length<=1048576)(hp:p<s.l.length)(hC:a.Coefs.length=4):
 sS a s (p:Int)=some (let u0:=s.l.drop p;let o:=sgo u0;let u:=s.l.drop (p+o)
  if 0<=nmOf (u.drop (star u))/\((dgt u).2<star u∨(dgt u).2=0) then
   (⟨a.Coefs.set (nmOf (u.drop (star u))).toNat (W (a.Coefs.getD (nmOf (u.drop (star u))).toNat 0+W (signOf u0*(dgt u).1))),a.Const⟩,((p+o+star u+1:Nat):Int))
  else if(dgt u).2=0 then(a,-1) else(⟨a.Coefs,W (a.Const+W (signOf u0*(dgt u).1))⟩,((p+o+(dgt u).2:Nat):Int))):=by
 unfold sS
 have hd0:=cC hp
 have k43:((s.l[p].toNat:Int)==43)=decide (s.l[p]=43):=zAA _ 43 (by omega)
 have k45:((s.l[p].toNat:Int)==45)=decide (s.l[p]=45):=zAA _ 45 (by omega)
 simp only[sidx,fO,ce hp,k43,k45,Option.pure_def,Option.bind_eq_bind,Option.bind_some]
 rw[hd0]
 simp only[sgo,signOf]
 have hs1:(if(decide (s.l[p]=45))=true then some (-1:Int) else some (id 1))=some (if s.l[p]=45 then -1 else 1):=by
  by_cases h:s.l[p]=45 <;> simp[h]
 have ax:(if(decide (s.l[p]=45))=true then some true else some (decide (s.l[p]=43)))=some (isSg s.l[p]):=by
  unfold isSg
  by_cases h:s.l[p]=45 <;> by_cases h':s.l[p]=43 <;> simp[h,h']
 rw[hs1]
 simp only[Option.bind_some]
 rw[ax]
 simp only[Option.bind_some]
 have ar:(if isSg s.l[p]=true then some (W ((p:Int)+1)) else some (id (p:Int)))=some ((p+(if isSg s.l[p]=true then 1 else 0):Nat):Int):=by
  split
  ·rw[eV (by omega)]
  ·rfl
 rw[ar]
 simp only[Option.bind_some]
 have ho:p+(if isSg s.l[p]=true then 1 else 0)<=s.l.length:=by split <;> omega
 exact zHK a s hs hC _ _ ho
end Go.LN
namespace Go.LN
open Lib (itoa decDigits)
def Sg(f:List UInt8)(sg:Int):Prop:=(f=[]/\sg=1)∨(f=[43]/\sg=1)∨(f=[45]/\sg=-1)
theorem zLy{b:UInt8}(h:isSg b=false):b ≠ 45:=by rintro rfl;cases h
theorem bodyU(k i:Nat)(hk:1<=k/\k<=9)(hi:i<4)(t:List UInt8):
 dgt (bodyV k i++t)=((k:Int),if k=1 then 0 else 1)/\star (bodyV k i++t)=(if k=1 then 0 else 2)/\nmOf ((bodyV k i++t).drop (if k=1 then 0 else 2))=(i:Int)/\(bodyV k i).length=(if k=1 then 1 else 3)/\isSg ((bodyV k i++t).headD 0)=false/\(bodyV k i++t).headD 0 ≠ 45/\bodyV k i ≠ []:=by
 obtain⟨h1,h2⟩:=hk
 have c1:k=1∨k=2∨k=3∨k=4∨k=5∨k=6∨k=7∨k=8∨k=9:=by omega
 have c2:i=0∨i=1∨i=2∨i=3:=by omega
 rcases c1 with rfl|rfl|rfl|rfl|rfl|rfl|rfl|rfl|rfl <;> rcases c2 with rfl|rfl|rfl|rfl <;> exact⟨rfl,rfl,rfl,rfl,rfl,zLy rfl,by simp[bodyV,dtx]⟩
theorem dtxU:∀(k:Fin 100),dgt (dtx k.val)=((k.val:Int),(dtx k.val).length)/\star (dtx k.val)=(dtx k.val).length/\isSg ((dtx k.val).headD 0)=false/\(dtx k.val).headD 0 ≠ 45/\dtx k.val ≠ []:=by decide +kernel
theorem zJG{f:List UInt8}{sg:Int}(hf:Sg f sg){u:List UInt8}(hne:u ≠ [])(hu:isSg (u.headD 0)=false)(hn:u.headD 0 ≠ 45):sgo (f++u)=f.length/\signOf (f++u)=sg/\f++u ≠ []:=by
 rcases hf with⟨rfl,rfl⟩|⟨rfl,rfl⟩|⟨rfl,rfl⟩
 ·cases u with
  | nil=>exact absurd rfl hne
  | cons b r=>
   simp only[List.headD_cons] at hu hn;simp[sgo,signOf,hu,hn]
 ·exact⟨rfl,rfl,by simp⟩
 ·exact⟨rfl,rfl,by simp⟩
theorem stepV(T:Str)(hT:T.l.length<=1048576)(p:Nat)(f:List UInt8)(sg:Int)(hf:Sg f sg)(k i:Nat)(hk:1<=k/\k<=9)(hi:i<4)(t:List UInt8)
 (hd:T.l.drop p=f++(bodyV k i++t)) (C:List Int) (K:Int) (hC:C.length=4) :
 ∃q:Nat,sS ⟨C,K⟩ T (p:Int)=some (⟨C.set i (W (C.getD i 0+W (sg*(k:Int)))),K⟩,(q:Int))/\T.l.drop q=t/\p<T.l.length/\q<=T.l.length:=by
 obtain⟨b1,b2,b3,b4,b5,b6,b7⟩:=bodyU k i hk hi t
 obtain⟨s1,s2,s3⟩:=zJG hf (u:=bodyV k i++t) (by simp[b7]) b5 b6
 have hp:p<T.l.length:=by
  rcases db p T.l.length with h|h
  ·exact h
  ·rw[cE.2 h] at hd;exact absurd hd.symm s3
 have bo:=congrArg List.length hd
 rw[cp,cw,cw,b4] at bo
 have hu:T.l.drop (p+f.length)=bodyV k i++t:=by
  rw[<- cR,hd,List.drop_left]
 refine⟨p+f.length+(if k=1 then 0 else 2)+1,?_,?_,hp,?_⟩
 ·rw[zFx _ T p hT hp hC]
  simp only[hd,s1,hu,s2,b1,b2,b3,fc]
  rw[if_pos]
  refine⟨by omega,?_⟩
  by_cases h:k=1
  ·right;simp[h]
  ·left;simp[h]
 ·have:p+f.length+(if k=1 then 0 else 2)+1=p+f.length+(bodyV k i).length:=by rw[b4];split <;> omega
  rw[this,<- cR,hu,List.drop_left]
 ·split at bo <;> rename_i h <;> simp only[h,if_true,if_false] <;> omega
theorem stepK(T:Str)(hT:T.l.length<=1048576)(p:Nat)(f:List UInt8)(sg:Int)(hf:Sg f sg)(k:Nat)(hk:k<=99)
 (hd:T.l.drop p=f++dtx k) (C:List Int) (K:Int) (hC:C.length=4) :
 sS ⟨C,K⟩ T (p:Int)=some (⟨C,W (K+W (sg*(k:Int)))⟩,(T.l.length:Int))/\p<T.l.length:=by
 obtain⟨b1,b2,b5,b6,b7⟩:=dtxU ⟨k,by omega⟩
 simp only at b1 b2 b5 b6 b7
 obtain⟨s1,s2,s3⟩:=zJG hf (u:=dtx k) b7 b5 b6
 have hp:p<T.l.length:=by
  rcases db p T.l.length with h|h
  ·exact h
  ·rw[cE.2 h] at hd;exact absurd hd.symm s3
 have bo:=congrArg List.length hd
 rw[cp,cw] at bo
 have hu:T.l.drop (p+f.length)=dtx k:=by
  rw[<- cR,hd,List.drop_left]
 have hdl:=zBG k
 refine⟨?_,hp⟩
 rw[zFx _ T p hT hp hC]
 have hnm:nmOf ([]:List UInt8)=-1:=rfl
 simp only[hd,s1,hu,s2,b1,b2,List.drop_length,hnm]
 rw[if_neg (by omega),if_neg (by omega)]
 congr 3
 omega
theorem zDk(T:Str)(p:Nat)(hp:T.l.length<=p)(x:zA):xZ T (p:Int) x=some x:=by
 rw[xZ];have h1:((p:Int)>=0):=by omega
 have h2:¬((p:Int)<(T.l.length:Int)):=by omega
 simp[h1,h2]
theorem zHL(T:Str)(p:Nat)(hp:p<T.l.length)(x y:zA)(q:Int)(h:sS x T (p:Int)=some (y,q)):xZ T (p:Int) x=xZ T q y:=by
 conv=>lhs;rw[xZ]
 have h1:((p:Int)>=0):=by omega
 have h2:((p:Int)<(T.l.length:Int)):=by omega
 simp only[h1,h2,decide_true,if_true,Option.pure_def,Option.bind_eq_bind,Option.bind_some,h]
def st(f:Bool)(l:List UInt8):List UInt8:=if f then strip l else l
theorem zK0(f:Bool)(c:Int)(u:List UInt8):∃g,st f (sgn c::u)=g++u/\Sg g (if c<0 then -1 else 1):=by
 unfold st strip sgn;by_cases hc:c<0
 ·exact⟨[45],by simp[hc],by simp[Sg,hc]⟩
 ·cases f with
  | true=>exact⟨[],by simp[hc],by simp[Sg,hc]⟩
  | false=>exact⟨[43],by simp[hc],by simp[Sg,hc]⟩
theorem zHu(T:Str)(hT:T.l.length<=1048576)(k:Int)(hk:constB k=true):∀(cs pre:List Int) (f:Bool) (p:Nat),(∀c∈cs,coefB c=true)->pre.length+cs.length=4->p<=T.l.length ->
 T.l.drop p=st f (T0 cs pre.length++TK k)->xZ T (p:Int) ⟨pre++List.replicate cs.length 0,0⟩=some ⟨pre++cs,k⟩:=by
 intro cs
 induction cs with
 | nil=>
  intro pre f p hc hl hp hd
  simp only[T0,cM,cx,List.replicate_zero,cq] at hl hd ⊢
  simp only[constB,cg,decide_eq_true_eq] at hk
  by_cases h0:k=0
  ·subst h0
   have:T.l.length<=p:=by
    rw[TK,if_pos rfl] at hd
    have:st f []=[]:=by cases f <;> rfl
    rw[this] at hd
    exact cE.1 hd
   exact zDk T p this _
  ·rw[TK,if_neg h0] at hd
   obtain⟨g,hg,hs⟩:=zK0 f k (dtx k.natAbs)
   rw[hg] at hd
   obtain⟨e1,e2⟩:=stepK T hT p g _ hs k.natAbs (by omega) hd pre 0 hl
   rw[zHL T p e2 _ _ _ e1,zHt k (by omega)]
   exact zDk T _ (cU _) _
 | cons c cs ih=>
  intro pre f p hc hl hp hd
  have aD:=hc c (cf ..)
  have aQ:∀y∈cs,coefB y=true:=λy hy=>hc y (cd _ hy)
  simp only[coefB,cg,decide_eq_true_eq] at aD
  simp only[co] at hl
  have ih':=λg q=>ih (pre++[c]) g q aQ (by simp;omega)
  simp only[cw,ep,cI] at ih'
  by_cases h0:c=0
  ·subst h0
   rw[T0,if_pos rfl,cM] at hd
   simpa [List.replicate_succ] using ih' f p hp hd
  ·rw[T0,if_neg h0,cI,cy] at hd
   obtain⟨g,hg,hs⟩:=zK0 f c (bodyV c.natAbs pre.length++(T0 cs (pre.length+1)++TK k))
   rw[hg] at hd
   obtain⟨q,e1,e2,e3,e4⟩:=stepV T hT p g _ hs c.natAbs pre.length (by omega) (by omega) _ hd (pre++List.replicate (cs.length+1) 0) 0 (by simp;omega)
   have hgd:(pre++List.replicate (cs.length+1) (0:Int)).getD pre.length 0=0:=by
    rw[cZ,ew (cU _),Nat.sub_self,List.replicate_succ];rfl
   have hset:(pre++List.replicate (cs.length+1) (0:Int)).set pre.length c=pre++([c]++List.replicate cs.length 0):=by
    rw[List.set_append_right _ _ (cU _),Nat.sub_self,List.replicate_succ];rfl
   rw[co,zHL T p e3 _ _ _ e1,hgd,zHt c (by omega),hset]
   exact ih' false q e4 e2
theorem zDl(a:zA)(ha:validB a=true):xZ ⟨tx a⟩ 0 ⟨[0,0,0,0],0⟩=some a:=by
 have hv:=ha;simp only[validB,cg,decide_eq_true_eq] at hv;obtain⟨⟨h4,hk⟩,hall⟩:=hv;have htl:=zI7 ha;have al:List.replicate 4 (0:Int)=[0,0,0,0]:=rfl;have bS:=λc hc=>ci.1 hall c hc;by_cases hr:raw a=[]
 ·have key:=zHu ⟨[]⟩ (by simp) a.Const hk a.Coefs [] false 0 bS (by simp[h4]) (by simp) (by rw[cx];exact hr.symm);rw[cM,cM,h4,al] at key;have hend:=zDk ⟨[]⟩ 0 (by simp) ⟨[0,0,0,0],0⟩;rw[hend] at key;have ea:(⟨[0,0,0,0],0⟩:zA)=a:=by
   simp only[Option.some.injEq] at key;exact key
  unfold tx;rw[if_pos hr];obtain⟨e1,e2⟩:=stepK ⟨[48]⟩ (by simp) 0 [] 1 (.inl ⟨rfl,rfl⟩) 0 (by omega) rfl [0,0,0,0] 0 rfl;have:=zHL ⟨[48]⟩ 0 e2 _ _ _ e1;rw[Int.natCast_zero] at this;rw[this,zDk _ _ (cU _),<- ea];rfl
 ·unfold tx at htl ⊢;rw[if_neg hr] at htl ⊢;have key:=zHu ⟨strip (raw a)⟩ (by simp only;omega) a.Const hk a.Coefs [] true 0 bS (by simp[h4]) (by simp) (by rw[cx];rfl);rw[cM,cM,h4,al] at key;exact key
theorem zK1{a b:zA}(ha:validB a=true)(hb:validB b=true)(h:tx a=tx b):a=b:=by
 have e1:=zDl a ha;rw[h,zDl b hb,Option.some.injEq] at e1;exact e1.symm
end Go.LN
namespace Go.LN
open Lib (itoa decDigits)
def pre(p:List UInt8):List (List UInt8)->List (List UInt8)
 | []=>[p]
 | h::t=>(p++h)::t
def cutS(c:UInt8):List UInt8->List (List UInt8)
 | []=>[[]]
 | b::l=>if b=c then[]::cutS c l else pre [b] (cutS c l)
theorem zFy{c:UInt8}:∀{w:List UInt8},c ∉ w->cutS c w=[w]
 | [],_=>rfl
 | b::w,h=>by
  rw[cutS,if_neg (λe=>h (by rw[e];exact cf ..)),zFy (λe=>h (cd _ e))]
  rfl
theorem zDm{c:UInt8}{r:List UInt8}:∀{w:List UInt8},c ∉ w->cutS c (w++c::r)=w::cutS c r
 | [],_=>by simp[cutS]
 | b::w,h=>by
  rw[cy,cutS,if_neg (λe=>h (by rw[e];exact cf ..)),zDm (λe=>h (cd _ e))]
  rfl
def joinS(c:UInt8):List (List UInt8)->List UInt8
 | []=>[]
 | [x]=>x
 | x::y::t=>x++c::joinS c (y::t)
end Go.LN
namespace Go.LN
def afc(b:UInt8):Bool:=b==42||b==43||b==45||(decide (48<=b.toNat)&&decide (b.toNat<=57))||(decide (105<=b.toNat)&&decide (b.toNat<=108))
theorem zJ9:∀(k:Fin 10) (i:Fin 4),(bodyV k.val i.val).all afc=true:=by decide +kernel
theorem zHM:∀k:Fin 100,(dtx k.val).all afc=true:=by decide +kernel
theorem zJH(c:Int):afc (sgn c)=true:=by unfold sgn;split <;> rfl
theorem zK2:∀(cs:List Int) (i:Nat),(∀c∈cs,coefB c=true)->i+cs.length<=4->(T0 cs i).all afc=true
 | [],_,_,_=>rfl
 | c::cs,i,h,hi=>by
  have h1:=h c (cf ..)
  simp only[coefB,cg,decide_eq_true_eq] at h1
  simp only[co] at hi
  have ih:=zK2 cs (i+1) (λx hx=>h x (cd _ hx)) (by omega)
  unfold T0
  by_cases h0:c=0
  ·simpa [h0] using ih
  ·have hb:=zJ9 ⟨c.natAbs,by omega⟩ ⟨i,by omega⟩
   simp only[h0,if_false,List.all_append,da]
   simp only at hb
   rw[zJH,hb,ih];rfl
theorem zLz(k:Int)(h:constB k=true):(TK k).all afc=true:=by
 simp only[constB,cg,decide_eq_true_eq] at h;unfold TK;split
 ·rfl
 ·have hb:=zHM ⟨k.natAbs,by omega⟩;simp only[da];simp only at hb;rw[zJH,hb];rfl
theorem zJa{l:List UInt8}(h:l.all afc=true):(strip l).all afc=true:=by
 unfold strip;split
 ·rfl
 ·rw[da,cg] at h;split
  ·exact h.2
  ·rw[da,h.1,h.2];rfl
theorem zMA{a:zA}(ha:validB a=true):(tx a).all afc=true:=by
 simp only[validB,cg,decide_eq_true_eq] at ha;obtain⟨⟨h4,hk⟩,hall⟩:=ha;unfold tx;split
 ·rfl
 ·refine zJa ?_;unfold raw;rw[List.all_append,zK2 _ 0 (λc hc=>ci.1 hall c hc) (by omega),zLz _ hk];rfl
theorem zFz{a:zA}(ha:validB a=true){c:UInt8}(hc:afc c=false):c ∉ tx a:=λh=>by
 have:=ci.1 (zMA ha) c h;rw[hc] at this;cases this
theorem zHv{c b:UInt8}:∀{X:List (List UInt8)},b∈joinS c X->b=c∨∃x∈X,b∈x
 | [],h=>by simp[joinS] at h
 | [x],h=>.inr ⟨x,cf ..,h⟩
 | x::y::t,h=>by
  rcases cF.1 h with h|h
  ·exact .inr ⟨x,cf ..,h⟩
  ·rcases cv.1 h with h|h
   ·exact .inl h
   ·rcases zHv h with h|⟨z,hz,h⟩
    ·exact .inl h
    ·exact .inr ⟨z,cd _ hz,h⟩
theorem zHw{c:UInt8}:∀{X:List (List UInt8)},X ≠ []->(∀x∈X,c ∉ x)->cutS c (joinS c X)=X
 | [],h,_=>absurd rfl h
 | [x],_,h=>zFy (h x (cf ..))
 | x::y::t,_,h=>by
  rw[joinS,zDm (h x (cf ..)),zHw (by simp) λz hz=>h z (cd _ hz)]
def sdT(l:List zA):List UInt8:=joinS 44 (l.map tx)
def allV(l:List zA):Prop:=l ≠ []/\∀a∈l,validB a=true
theorem zHx{l:List zA}{d:Int}(h:sideB l d=true):allV l/\l.length<=2:=by
 unfold sideB at h;simp only[cg,decide_eq_true_eq,ci] at h;obtain⟨⟨h1,h2⟩,h3⟩:=h;refine⟨⟨λe=>by rw[e] at h1;simp at h1,λa ha=>?_⟩,h2⟩;have:=h3 a ha;unfold okA at this;exact(cg _ _ ▸ this).1
theorem zHy{l:List zA}(h:allV l):cutS 44 (sdT l)=l.map tx:=by
 refine zHw (λe=>h.1 (List.map_eq_nil_iff.1 e)) λx hx=>?_;obtain⟨a,ha,rfl⟩:=cY.1 hx;exact zFz (h.2 a ha) rfl
theorem zAC{l:List zA}(h:allV l){c:UInt8}(hc:afc c=false)(h44:c ≠ 44):c ∉ sdT l:=λhm=>by
 rcases zHv hm with e|⟨x,hx,hm⟩
 ·exact h44 e
 ·obtain⟨a,ha,rfl⟩:=cY.1 hx;exact zFz (h.2 a ha) hc hm
theorem zGA:∀{l k:List zA},(∀a∈l,validB a=true)->(∀a∈k,validB a=true)->l.map tx=k.map tx->l=k
 | [],[],_,_,_=>rfl
 | [],_::_,_,_,h=>by cases h
 | _::_,[],_,_,h=>by cases h
 | a::l,b::k,h1,h2,h=>by
  rw[cS,cS,List.cons.injEq] at h
  rw[zK1 (h1 a (cf ..)) (h2 b (cf ..)) h.1,zGA (λx hx=>h1 x (cd _ hx)) (λx hx=>h2 x (cd _ hx)) h.2]
theorem zGB{l k:List zA}(h1:allV l)(h2:allV k)(h:sdT l=sdT k):l=k:=
 zGA h1.2 h2.2 (by rw[<- zHy h1,<- zHy h2,h])
def lpT(l:zE):List UInt8:=[102,111,114]++32::(sdT l.Lo++32::sdT l.Hi)
def ntT(n:List zE):List UInt8:=n.flatMap λl=>lpT l++[10]
def LV(l:zE):Prop:=allV l.Lo/\allV l.Hi
theorem zHz{l:zE}(h:LV l):cutS 32 (lpT l)=[[102,111,114],sdT l.Lo,sdT l.Hi]:=by
 unfold lpT;rw[zDm (by decide),zDm (zAC h.1 rfl (by decide)),zFy (zAC h.2 rfl (by decide))]
theorem zK3{l:zE}(h:LV l):(10:UInt8) ∉ lpT l:=λhm=>by
 unfold lpT at hm;simp only[cF,cv,List.mem_nil_iff,or_false] at hm;rcases hm with(hm|hm|hm)|hm|hm|hm|hm
 ·revert hm;decide
 ·revert hm;decide
 ·revert hm;decide
 ·revert hm;decide
 ·exact zAC h.1 rfl (by decide) hm
 ·revert hm;decide
 ·exact zAC h.2 rfl (by decide) hm
theorem zK4{l k:zE}(h1:LV l)(h2:LV k)(h:lpT l=lpT k):l=k:=by
 have e:=zHz h1;rw[h,zHz h2] at e;simp only[List.cons.injEq,and_true,true_and] at e;obtain⟨a,b⟩:=l;obtain⟨c,d⟩:=k;rw[show a=c from zGB h1.1 h2.1 e.1.symm,show b=d from zGB h1.2 h2.2 e.2.symm]
theorem zJI{n:List zE}(h:nestB n=true):n.length<=4/\∀l∈n,LV l/\l.Lo.length<=2/\l.Hi.length<=2:=by
 unfold nestB at h;simp only[cg,decide_eq_true_eq,ci,cG] at h;refine⟨h.1,λl hl=>?_⟩;obtain⟨i,hi,rfl⟩:=ec.1 hl;have:=h.2 i hi;rw[cZ,ce hi,Option.getD_some] at this;obtain⟨h1,h2⟩:=zHx this.1;obtain⟨h3,h4⟩:=zHx this.2;exact⟨⟨h1,h3⟩,h2,h4⟩
theorem zGC:∀{l k:List zE},(∀a∈l,LV a)->(∀a∈k,LV a)->l.map lpT=k.map lpT->l=k
 | [],[],_,_,_=>rfl
 | [],_::_,_,_,h=>by cases h
 | _::_,[],_,_,h=>by cases h
 | a::l,b::k,h1,h2,h=>by
  rw[cS,cS,List.cons.injEq] at h
  rw[zK4 (h1 a (cf ..)) (h2 b (cf ..)) h.1,zGC (λx hx=>h1 x (cd _ hx)) (λx hx=>h2 x (cd _ hx)) h.2]
end Go.LN
namespace Go.LN
theorem zGD{c:UInt8}:∀{u v r s:List UInt8},c ∉ u->c ∉ v->u++c::r=v++c::s->u=v/\r=s
 | [],[],_,_,_,_,h=>⟨rfl,(List.cons.inj h).2⟩
 | [],b::v,_,_,_,h2,h=>by
  have:=(List.cons.inj h).1
  exact absurd (cv.2 (.inl this)) h2
 | a::u,[],_,_,h1,_,h=>by
  have:=(List.cons.inj h).1
  exact absurd (cv.2 (.inl this.symm)) h1
 | a::u,b::v,_,_,h1,h2,h=>by
  obtain⟨e1,e2⟩:=List.cons.inj h
  obtain⟨e3,e4⟩:=zGD (λhm=>h1 (cd _ hm)) (λhm=>h2 (cd _ hm)) e2
  exact⟨by rw[e1,e3],e4⟩
def acT(a:zH):List UInt8:=a.Array.l++91::(sdT a.Subs++[93])
theorem zAj{a:zH}{d:Int}(h:accB a d=true):(∃c:UInt8,a.Array=⟨[c]⟩/\65<=c.toNat/\c.toNat<=68)/\allV a.Subs/\a.Subs.length<=2:=by
 unfold accB at h;simp only[cg,decide_eq_true_eq,ci] at h;obtain⟨⟨h1,h2,h3⟩,h4⟩:=h;refine⟨?_,⟨λe=>by rw[e] at h2;simp at h2,λx hx=>?_⟩,h3⟩
 ·obtain⟨⟨l⟩,s⟩:=a;simp only at h1
  match l,h1 with
  | [c],h1=>
   unfold nameL at h1;simp only[cg,decide_eq_true_eq] at h1;exact⟨c,rfl,h1.1,h1.2⟩
 ·have:=h4 x hx;unfold okA at this;exact(cg _ _ ▸ this).1
theorem zK5{a b:zH}{d d':Int}(ha:accB a d=true)(hb:accB b d'=true){r s:List UInt8}(h:acT a++r=acT b++s):a=b/\r=s:=by
 obtain⟨⟨c,e1,_⟩,v1,_⟩:=zAj ha;obtain⟨⟨c',e2,_⟩,v2,_⟩:=zAj hb;obtain⟨na,sa⟩:=a;obtain⟨nb,sb⟩:=b;simp only at e1 e2 v1 v2;subst e1;subst e2;have h:c::91::(sdT sa++93::r)=c'::91::(sdT sb++93::s):=by simpa [acT] using h
 rw[List.cons.injEq,List.cons.injEq] at h;obtain⟨h1,_,h2⟩:=h;obtain⟨h3,h4⟩:=zGD (zAC v1 rfl (by decide)) (zAC v2 rfl (by decide)) h2;subst h1;rw[zGB v1 v2 h3];exact⟨rfl,h4⟩
theorem zL0{a:zH}{d:Int}(ha:accB a d=true):∃(c:UInt8) (t:List UInt8),acT a=c::t/\65<=c.toNat/\c.toNat<=68:=by
 obtain⟨⟨c,e1,h1,h2⟩,_⟩:=zAj ha;exact⟨c,_,by unfold acT;rw[e1];rfl,h1,h2⟩
def opc(k:Int):UInt8:=if k=4 then 43 else if k=5 then 45 else 42
def exT:Nat->zD->List UInt8
 | 0,_=>[]
 | n+1,e=>if e.Kind=1 then dtx e.Num.toNat else if e.Kind=2 then 123::(tx e.Index++[125]) else if e.Kind=3 then acT e.Read
  else match e.Kids with
  | [x,y]=>40::(exT n x++opc e.Kind::(exT n y++[41]))
  | _=>[]
def isDig(b:UInt8):Bool:=decide (48<=b.toNat)&&decide (b.toNat<=57)
def noDig(r:List UInt8):Prop:=r=[]∨∃b t,r=b::t/\isDig b=false
theorem zHN:∀{u v r s:List UInt8},u.all isDig=true->v.all isDig=true->noDig r->noDig s->u++r=v++s->u=v/\r=s
 | [],[],_,_,_,_,_,_,h=>⟨rfl,h⟩
 | [],b::v,r,s,_,h2,h3,_,h=>by
  have h:r=b::(v++s):=h
  rcases h3 with e|⟨c,t,e,hc⟩
  ·rw[e] at h;cases h
  ·rw[e,List.cons.injEq] at h
   rw[h.1] at hc
   rw[da,hc] at h2;cases h2
 | a::u,[],r,s,h1,_,_,h4,h=>by
  have h:a::(u++r)=s:=h
  rcases h4 with e|⟨c,t,e,hc⟩
  ·rw[e] at h;cases h
  ·rw[e,List.cons.injEq] at h
   rw[<- h.1] at hc
   rw[da,hc] at h1;cases h1
 | a::u,b::v,r,s,h1,h2,h3,h4,h=>by
  rw[cy,cy,List.cons.injEq] at h
  rw[da,cg] at h1 h2
  obtain⟨e1,e2⟩:=zHN h1.2 h2.2 h3 h4 h.2
  exact⟨by rw[h.1,e1],e2⟩
theorem zDn:∀k:Fin 100,(dtx k.val).all isDig=true/\dtx k.val ≠ []:=by decide +kernel
theorem zJJ:∀(k m:Fin 100),dtx k.val=dtx m.val->k=m:=by
 intro k m h;have h1:=(zJE k).1;rw[h,(zJE m).1] at h1;have:(m.val:Int)=(k.val:Int):=Option.some.inj h1;exact Fin.ext (by omega)
theorem zI9{a:zA}(h:noA a=true):a=⟨[],0⟩:=by
 unfold noA at h;simp only[cg,decide_eq_true_eq,beq_iff_eq] at h;obtain⟨c,k⟩:=a;have h1:c=[]:=dz h.1;have h2:k=0:=h.2;rw[h1,h2]
theorem zIa{a:zH}(h:noC a=true):a=⟨⟨[]⟩,[]⟩:=by
 unfold noC at h;simp only[cg,decide_eq_true_eq,beq_iff_eq] at h;obtain⟨⟨l⟩,s⟩:=a;simp only at h;rw[h.1,dz h.2]
inductive Node (d:Int) (n:Nat):zD->Prop where
 | num (k:Nat) (h:k<=99):Node d n (.mk 1 k ⟨[],0⟩ ⟨⟨[]⟩,[]⟩ [])
 | ix (a:zA) (h:okA d a=true):Node d n (.mk 2 0 a ⟨⟨[]⟩,[]⟩ [])
 | rd (a:zH) (h:accB a d=true):Node d n (.mk 3 0 ⟨[],0⟩ a [])
 | op (k:Int) (x y:zD) (hk:k=4∨k=5∨k=6) (hx:shapeB d n x=true) (hy:shapeB d n y=true):Node d n (.mk k 0 ⟨[],0⟩ ⟨⟨[]⟩,[]⟩ [x,y])
theorem zFG{d:Int}{n:Nat}{e:zD}(h:shapeB d (n+1) e=true):Node d n e:=by
 obtain⟨K,N,I,R,Q⟩:=e;unfold shapeB at h;simp only[cg,beq_iff_eq,ci] at h;obtain⟨⟨hk,ho⟩,hq⟩:=h;have hk:kidsN K=(Q.length:Int):=hk;have hq:∀x∈Q,shapeB d n x=true:=hq;unfold ownB at ho;have ho:(if K=2 then(N==0)&&noC R&&okA d I else if K=3 then(N==0)&&noA I&&accB R d else if K=1 then(decide (0<=N)&&decide (N<=99))&&noA I&&noC R else(N==0)&&noA I&&noC R)=true:=ho;have leaf:kidsN K=0->Q=[]:=λe=>dz (by omega);by_cases k2:K=2
 ·subst k2;simp only[if_true,cg,beq_iff_eq] at ho;rw[leaf rfl,ho.1.1,zIa ho.1.2];exact .ix I ho.2
 ·by_cases k3:K=3
  ·subst k3;rw[if_neg (by decide),if_pos rfl] at ho;simp only[cg,beq_iff_eq] at ho;rw[leaf rfl,ho.1.1,zI9 ho.1.2];exact .rd R ho.2
  ·rw[if_neg k2,if_neg k3] at ho;by_cases k1:K=1
   ·subst k1;rw[if_pos rfl] at ho;simp only[cg,decide_eq_true_eq] at ho;obtain⟨⟨⟨n1,n2⟩,n3⟩,n4⟩:=ho;obtain⟨k,rfl⟩:∃k:Nat,N=(k:Int):=⟨N.toNat,by omega⟩;rw[leaf rfl,zI9 n3,zIa n4];exact .num k (by omega)
   ·rw[if_neg k1] at ho;simp only[cg,beq_iff_eq] at ho;have hkk:K=4∨K=5∨K=6:=by
     unfold kidsN at hk;rw[if_neg (by omega)] at hk;by_cases hh:K=4∨K=5∨K=6
     ·exact hh
     ·rw[if_neg hh] at hk;omega
    have hl:Q.length=2:=by
     unfold kidsN at hk;rw[if_neg (by omega),if_pos hkk] at hk;omega
    rw[ho.1.1,zI9 ho.1.2,zIa ho.2]
    match Q,hl,hq with
    | [x,y],_,hq=>exact .op K x y hkk (hq x (by simp)) (hq y (by simp))
theorem zGE{n k:Nat}{I:zA}{R:zH}{Q:List zD}:exT (n+1) (.mk 1 k I R Q)=dtx k:=by
 rw[exT];exact if_pos rfl
theorem zIA{n:Nat}{N:Int}{I:zA}{R:zH}{Q:List zD}:exT (n+1) (.mk 2 N I R Q)=123::(tx I++[125]):=by
 rw[exT];exact(if_neg (by decide:¬(2:Int)=1)).trans (if_pos rfl)
theorem zIB{n:Nat}{N:Int}{I:zA}{R:zH}{Q:List zD}:exT (n+1) (.mk 3 N I R Q)=acT R:=by
 rw[exT];exact(if_neg (by decide:¬(3:Int)=1)).trans ((if_neg (by decide:¬(3:Int)=2)).trans (if_pos rfl))
theorem zIC{n:Nat}{k N:Int}{I:zA}{R:zH}{x y:zD}(hk:k=4∨k=5∨k=6):exT (n+1) (.mk k N I R [x,y])=40::(exT n x++opc k::(exT n y++[41])):=by
 rw[exT];exact(if_neg (show ¬k=1 by omega)).trans ((if_neg (show ¬k=2 by omega)).trans (if_neg (show ¬k=3 by omega)))
theorem zK6{k:Nat}(h:k<=99):∃c t,dtx k=c::t/\isDig c=true:=by
 obtain⟨h1,h2⟩:=zDn ⟨k,by omega⟩;cases hd:dtx k with
 | nil=>exact absurd hd h2
 | cons c t=>
  refine⟨c,t,rfl,?_⟩;simp only at h1;rw[hd,da,cg] at h1;exact h1.1
def hdK(c:UInt8):Nat:=if isDig c then 1 else if c=123 then 2 else if c=40 then 4 else 3
theorem zLR{c:UInt8}(h1:65<=c.toNat)(h2:c.toNat<=68):hdK c=3:=by
 unfold hdK isDig;have e1:¬c=123:=by rintro rfl;revert h2;decide
 have e2:¬c=40:=by rintro rfl;revert h1;decide
 have e3:(decide (48<=c.toNat)&&decide (c.toNat<=57))=false:=by
  rw[Bool.and_eq_false_iff];right;exact decide_eq_false (by omega)
 rw[e3,if_neg e1,if_neg e2];rfl
theorem zK7{k:Int}:isDig (opc k)=false:=by
 unfold opc;split
 ·rfl
 ·split <;> rfl
theorem zLS{k m:Int}(hk:k=4∨k=5∨k=6)(hm:m=4∨m=5∨m=6)(h:opc k=opc m):k=m:=by
 rcases hk with rfl|rfl|rfl <;> rcases hm with rfl|rfl|rfl <;> first|rfl|(exfalso;revert h;decide)
theorem zL1{d:Int}{n:Nat}{e:zD}(h:Node d n e):∃c t,exT (n+1) e=c::t/\hdK c=if e.Kind=1 then 1 else if e.Kind=2 then 2 else if e.Kind=3 then 3 else 4:=by
 cases h with
 | num k h=>
  obtain⟨c,t,e,hc⟩:=zK6 h;exact⟨c,t,by rw[zGE,e],by unfold hdK;rw[hc];rfl⟩
 | ix a h=>exact⟨123,_,zIA,rfl⟩
 | rd a h=>
  obtain⟨c,t,e,h1,h2⟩:=zL0 h;exact⟨c,t,by rw[zIB,e],by rw[zLR h1 h2];rfl⟩
 | op k x y hk hx hy=>
  refine⟨40,_,zIC hk,?_⟩;show hdK 40=if k=1 then 1 else if k=2 then 2 else if k=3 then 3 else 4;rw[if_neg (by omega),if_neg (by omega),if_neg (by omega)];rfl
theorem zIb{d d':Int}:∀(n m:Nat) (e f:zD) (r s:List UInt8),shapeB d n e=true->shapeB d' m f=true->noDig r->noDig s->exT n e++r=exT m f++s->e=f/\r=s
 | 0,_,_,_,_,_,h,_,_,_,_=>by cases h
 | _+1,0,_,_,_,_,_,h,_,_,_=>by cases h
 | n+1,m+1,e,f,r,s,h1,h2,h3,h4,h=>by
  have N1:=zFG h1
  have N2:=zFG h2
  obtain⟨c,t,q1,q2⟩:=zL1 N1
  obtain⟨c',t',q3,q4⟩:=zL1 N2
  have hc:c=c':=by
   have h':=h
   rw[q1,q3,cy,cy,List.cons.injEq] at h'
   exact h'.1
  rw[<- hc,q2] at q4
  clear q1 q2 q3 hc c c' t t'
  cases N1 with
  | num k hk=>
   cases N2 with
   | num l hl=>
    rw[zGE,zGE] at h
    obtain⟨e1,e2⟩:=zHN (zDn ⟨k,by omega⟩).1 (zDn ⟨l,by omega⟩).1 h3 h4 h
    have:=zJJ ⟨k,by omega⟩ ⟨l,by omega⟩ e1
    have:k=l:=by simpa using this
    rw[this];exact⟨rfl,e2⟩
   | ix a ha=>exact absurd (show (1:Nat)=2 from q4) (by decide)
   | rd a ha=>exact absurd (show (1:Nat)=3 from q4) (by decide)
   | op l x y hl hx hy=>
    have q4:(1:Nat)=if l=1 then 1 else if l=2 then 2 else if l=3 then 3 else 4:=q4
    rw[if_neg (by omega),if_neg (by omega),if_neg (by omega)] at q4;cases q4
  | ix a ha=>
   cases N2 with
   | num l hl=>exact absurd (show (2:Nat)=1 from q4) (by decide)
   | ix b hb=>
    rw[zIA,zIA] at h
    have h:tx a++125::r=tx b++125::s:=by simpa using h
    unfold okA at ha hb
    rw[cg] at ha hb
    obtain⟨e1,e2⟩:=zGD (zFz ha.1 rfl) (zFz hb.1 rfl) h
    rw[zK1 ha.1 hb.1 e1];exact⟨rfl,e2⟩
   | rd b hb=>exact absurd (show (2:Nat)=3 from q4) (by decide)
   | op l x y hl hx hy=>
    have q4:(2:Nat)=if l=1 then 1 else if l=2 then 2 else if l=3 then 3 else 4:=q4
    rw[if_neg (by omega),if_neg (by omega),if_neg (by omega)] at q4;cases q4
  | rd a ha=>
   cases N2 with
   | num l hl=>exact absurd (show (3:Nat)=1 from q4) (by decide)
   | ix b hb=>exact absurd (show (3:Nat)=2 from q4) (by decide)
   | rd b hb=>
    rw[zIB,zIB] at h
    obtain⟨e1,e2⟩:=zK5 ha hb h
    rw[e1];exact⟨rfl,e2⟩
   | op l x y hl hx hy=>
    have q4:(3:Nat)=if l=1 then 1 else if l=2 then 2 else if l=3 then 3 else 4:=q4
    rw[if_neg (by omega),if_neg (by omega),if_neg (by omega)] at q4;cases q4
  | op k x y hk hx hy=>
   have q4:(if k=1 then 1 else if k=2 then 2 else if k=3 then 3 else 4:Nat)=_:=q4
   rw[if_neg (by omega),if_neg (by omega),if_neg (by omega)] at q4
   cases N2 with
   | num l hl=>exact absurd (show (4:Nat)=1 from q4) (by decide)
   | ix b hb=>exact absurd (show (4:Nat)=2 from q4) (by decide)
   | rd b hb=>exact absurd (show (4:Nat)=3 from q4) (by decide)
   | op l u v hl hu hv=>
    rw[zIC hk,zIC hl] at h
    have h:exT n x++opc k::(exT n y++41::r)=exT m u++opc l::(exT m v++41::s):=by simpa using h
    obtain⟨e1,e2⟩:=zIb n m x u _ _ hx hu (.inr ⟨_,_,rfl,zK7⟩) (.inr ⟨_,_,rfl,zK7⟩) h
    rw[List.cons.injEq] at e2
    obtain⟨e3,e4⟩:=zIb n m y v _ _ hy hv (.inr ⟨_,_,rfl,rfl⟩) (.inr ⟨_,_,rfl,rfl⟩) e2.2
    rw[List.cons.injEq] at e4
    rw[e1,e3,zLS hk hl e2.1]
    exact⟨rfl,e4.2⟩
def stT(s:zM):List UInt8:=acT s.Write++61::exT 5 s.Value
theorem zCB{s:zM}{d:Int}(h:stmtB s d=true):accB s.Write d=true/\shapeB d 5 s.Value=true:=by
 unfold stmtB at h;simp only[cg] at h;exact⟨h.1.2,h.2.1⟩
theorem zMB{s t:zM}{d d':Int}(hs:stmtB s d=true)(ht:stmtB t d'=true)(h:stT s=stT t):s=t:=by
 obtain⟨a1,a2⟩:=zCB hs;obtain⟨b1,b2⟩:=zCB ht;unfold stT at h;obtain⟨e1,e2⟩:=zK5 a1 b1 h;rw[List.cons.injEq] at e2;obtain⟨e3,_⟩:=zIb 5 5 _ _ [] [] a2 b2 (.inl rfl) (.inl rfl) (by rw[cq,cq];exact e2.2);obtain⟨w,v⟩:=s;obtain⟨w',v'⟩:=t;simp only at e1 e3;rw[e1,e3]
theorem zK8{a:zH}{d:Int}(ha:accB a d=true){c:UInt8}(hc:afc c=false)(h1:c ≠ 44)(h2:c ≠ 91)(h3:c ≠ 93)(h4:¬(65<=c.toNat/\c.toNat<=68)):c ∉ acT a:=λhm=>by
 obtain⟨⟨x,e1,g1,g2⟩,v1,_⟩:=zAj ha;unfold acT at hm;rw[e1] at hm;simp only[cF,cv,List.mem_nil_iff,or_false] at hm;rcases hm with rfl|rfl|hm|rfl
 ·exact h4 ⟨g1,g2⟩
 ·exact h2 rfl
 ·exact zAC v1 hc h1 hm
 ·exact h3 rfl
theorem zIc{d:Int}{c:UInt8}(hc:afc c=false)(h1:c ≠ 44)(h2:c ≠ 91)(h3:c ≠ 93)(h4:¬(65<=c.toNat/\c.toNat<=68))(h5:c ≠ 40)(h6:c ≠ 41)(h7:c ≠ 123)(h8:c ≠ 125):∀(n:Nat) (e:zD),shapeB d n e=true->c ∉ exT n e
 | 0,_,h=>by cases h
 | n+1,e,h=>by
  cases zFG h with
  | num k hk=>
   rw[zGE]
   intro hm
   have:=ci.1 (zHM ⟨k,by omega⟩) c hm
   rw[hc] at this;cases this
  | ix a ha=>
   rw[zIA]
   unfold okA at ha
   rw[cg] at ha
   intro hm
   simp only[cF,cv,List.mem_nil_iff,or_false] at hm
   rcases hm with rfl|hm|rfl
   ·exact h7 rfl
   ·exact zFz ha.1 hc hm
   ·exact h8 rfl
  | rd a ha=>rw[zIB];exact zK8 ha hc h1 h2 h3 h4
  | op k x y hk hx hy=>
   rw[zIC hk]
   intro hm
   simp only[cF,cv,List.mem_nil_iff,or_false] at hm
   rcases hm with rfl|hm|hm|hm|rfl
   ·exact h5 rfl
   ·exact zIc hc h1 h2 h3 h4 h5 h6 h7 h8 n x hx hm
   ·rw[hm] at hc
    unfold opc at hc
    split at hc
    ·cases hc
    ·split at hc <;> cases hc
   ·exact zIc hc h1 h2 h3 h4 h5 h6 h7 h8 n y hy hm
   ·exact h6 rfl
theorem zMC{s:zM}{d:Int}(hs:stmtB s d=true){c:UInt8}(hc:c=10∨c=32):c ∉ stT s:=λhm=>by
 obtain⟨a1,a2⟩:=zCB hs;unfold stT at hm;rcases hc with rfl|rfl <;>
 ·simp only[cF,cv] at hm;rcases hm with hm|hm|hm
  ·exact zK8 a1 rfl (by decide) (by decide) (by decide) (by decide) hm
  ·revert hm;decide
  ·exact zIc rfl (by decide) (by decide) (by decide) (by decide) (by decide) (by decide) (by decide) (by decide) _ _ a2 hm
theorem zMW{s:zM}{d:Int}(hs:stmtB s d=true):∃(c:UInt8) (t:List UInt8),stT s=c::t/\65<=c.toNat/\c.toNat<=68:=by
 obtain⟨c,t,e,h1,h2⟩:=zL0 (zCB hs).1;exact⟨c,_,by unfold stT;rw[e];rfl,h1,h2⟩
def arL(a:zG):List UInt8:=[97,114,114,97,121,32]++(a.Name.l++a.Dims.flatMap λn=>32::dtx n.toNat)
def prL(x:zJ):List (List UInt8):=[112,97,114,116]::(x.Nest.map lpT++x.Body.map stT)
def pgL(P:zP):List (List UInt8):=P.Arrays.map arL++P.Parts.flatMap prL
def pgT(P:zP):List UInt8:=([112,114,111,103,114,97,109]::pgL P).flatMap λl=>l++[10]
theorem zE6:∀{X:List (List UInt8)},(∀x∈X,(10:UInt8) ∉ x)->cutS 10 (X.flatMap λl=>l++[10])=X++[[]]
 | [],_=>rfl
 | x::X,h=>by
  have e:((x::X).flatMap λl=>l++[10])=x++10::(X.flatMap λl=>l++[10]):=by simp
  rw[e,zDm (h x (cf ..)),zE6 λy hy=>h y (cd _ hy)];rfl
theorem seg{p:List UInt8->Bool}:∀{X Y r s:List (List UInt8)},(∀x∈X,p x=true)->(∀x∈Y,p x=true)->(r=[]∨∃x t,r=x::t/\p x=false)->(s=[]∨∃x t,s=x::t/\p x=false)->X++r=Y++s->X=Y/\r=s
 | [],[],_,_,_,_,_,_,h=>⟨rfl,h⟩
 | [],b::Y,r,s,_,h2,h3,_,h=>by
  have h:r=b::(Y++s):=h
  have hb:=h2 b (cf ..)
  rcases h3 with e|⟨c,t,e,hc⟩
  ·rw[e] at h;cases h
  ·rw[e,List.cons.injEq] at h
   rw[h.1,hb] at hc;cases hc
 | a::X,[],r,s,h1,_,_,h4,h=>by
  have h:a::(X++r)=s:=h
  have ha:=h1 a (cf ..)
  rcases h4 with e|⟨c,t,e,hc⟩
  ·rw[e] at h;cases h
  ·rw[e,List.cons.injEq] at h
   rw[<- h.1,ha] at hc;cases hc
 | a::X,b::Y,r,s,h1,h2,h3,h4,h=>by
  rw[cy,cy,List.cons.injEq] at h
  obtain⟨e1,e2⟩:=seg (λx hx=>h1 x (cd _ hx)) (λx hx=>h2 x (cd _ hx)) h3 h4 h.2
  exact⟨by rw[h.1,e1],e2⟩
def hdIs(p:UInt8->Bool):List UInt8->Bool
 | []=>false
 | b::_=>p b
def isUp(b:UInt8):Bool:=decide (65<=b.toNat)&&decide (b.toNat<=68)
theorem zCv{α:Type}{f:α->List UInt8}:∀{l k:List α},(∀a∈l,∀b∈k,f a=f b->a=b)->l.map f=k.map f->l=k
 | [],[],_,_=>rfl
 | [],_::_,_,h=>by cases h
 | _::_,[],_,h=>by cases h
 | a::l,b::k,h1,h=>by
  rw[cS,cS,List.cons.injEq] at h
  rw[h1 a (cf ..) b (cf ..) h.1,zCv (λx hx y hy=>h1 x (cd _ hx) y (cd _ hy)) h.2]
def PV(x:zJ):Prop:=(∀l∈x.Nest,LV l)/\∀s∈x.Body,∃d:Int,stmtB s d=true
def AV1(a:zG):Prop:=(∃c:UInt8,a.Name=⟨[c]⟩/\65<=c.toNat/\c.toNat<=68)/\∀n∈a.Dims,1<=n/\n<=6
theorem zID:∀{l k:List Int},(∀n∈l,1<=n/\n<=6)->(∀n∈k,1<=n/\n<=6)->(l.flatMap λn=>32::dtx n.toNat)=(k.flatMap λn=>32::dtx n.toNat)->l=k
 | [],[],_,_,_=>rfl
 | [],_::_,_,_,h=>by cases h
 | _::_,[],_,_,h=>by cases h
 | a::l,b::k,h1,h2,h=>by
  have a1:=h1 a (cf ..)
  have b1:=h2 b (cf ..)
  rw[ck,ck,cy,cy,List.cons.injEq] at h
  have nd:∀l:List Int,noDig (l.flatMap λn=>32::dtx n.toNat):=λl=>by
   cases l with
   | nil=>exact .inl rfl
   | cons x l=>exact .inr ⟨32,_,rfl,rfl⟩
  obtain⟨e1,e2⟩:=zHN (zDn ⟨a.toNat,by omega⟩).1 (zDn ⟨b.toNat,by omega⟩).1 (nd l) (nd k) h.2
  have:=zJJ ⟨a.toNat,by omega⟩ ⟨b.toNat,by omega⟩ e1
  have:a.toNat=b.toNat:=by simpa using this
  rw[show a=b by omega,zID (λx hx=>h1 x (cd _ hx)) (λx hx=>h2 x (cd _ hx)) e2]
theorem zMD{a b:zG}(ha:AV1 a)(hb:AV1 b)(h:arL a=arL b):a=b:=by
 obtain⟨⟨c,e1,_⟩,h1⟩:=ha;obtain⟨⟨c',e2,_⟩,h2⟩:=hb;obtain⟨n,l⟩:=a;obtain⟨m,k⟩:=b;simp only at e1 e2 h1 h2;subst e1;subst e2;unfold arL at h;have h:=List.append_cancel_left h;have h:c::(l.flatMap λn=>32::dtx n.toNat)=c'::(k.flatMap λn=>32::dtx n.toNat):=h;rw[List.cons.injEq] at h;rw[h.1,zID h1 h2 h.2]
theorem zId(X:List zJ):X.flatMap prL=[]∨∃x t,X.flatMap prL=x::t/\hdIs (λb=>b==97) x=false/\hdIs (λb=>b==102) x=false/\hdIs isUp x=false:=by
 cases X with
 | nil=>exact .inl rfl
 | cons x X=>exact .inr ⟨_,_,rfl,rfl,rfl,rfl⟩
theorem zL2(l:zE):hdIs (λb=>b==102) (lpT l)=true:=rfl
theorem zIe{X:List zM}(h:∀s∈X,∃d:Int,stmtB s d=true):∀x∈X.map stT,hdIs isUp x=true/\hdIs (λb=>b==102) x=false:=λx hx=>by
 obtain⟨s,hs,rfl⟩:=cY.1 hx;obtain⟨d,hd⟩:=h s hs;obtain⟨c,t,e,h1,h2⟩:=zMW hd;rw[e];refine⟨by show isUp c=true;unfold isUp;simp[h1,h2],?_⟩;show (c==102)=false;rw[beq_eq_false_iff_ne];rintro rfl;revert h2;decide
theorem zJK:∀{X Y:List zJ},(∀x∈X,PV x)->(∀x∈Y,PV x)->X.flatMap prL=Y.flatMap prL->X=Y
 | [],[],_,_,_=>rfl
 | [],_::_,_,_,h=>by cases h
 | _::_,[],_,_,h=>by cases h
 | x::X,y::Y,h1,h2,h=>by
  obtain⟨x1,x2⟩:=h1 x (cf ..)
  obtain⟨y1,y2⟩:=h2 y (cf ..)
  rw[ck,ck] at h
  have h:x.Nest.map lpT++(x.Body.map stT++X.flatMap prL)=y.Nest.map lpT++(y.Body.map stT++Y.flatMap prL):=by
   have:=(List.cons.inj h).2
   simpa using this
  have hd2:∀(B:List zM) (Z:List zJ),(∀s∈B,∃d:Int,stmtB s d=true)->(B.map stT++Z.flatMap prL=[]∨∃u t,B.map stT++Z.flatMap prL=u::t/\hdIs (λb=>b==102) u=false):=λB Z hB=>by
   cases B with
   | nil=>
    rcases zId Z with e|⟨u,t,e,_,g,_⟩
    ·exact .inl e
    ·exact .inr ⟨u,t,e,g⟩
   | cons s B=>exact .inr ⟨stT s,B.map stT++Z.flatMap prL,rfl,(zIe hB _ (cY.2 ⟨s,cf ..,rfl⟩)).2⟩
  obtain⟨e1,e2⟩:=seg (p:=hdIs λb=>b==102) (λz hz=>by obtain⟨l,_,rfl⟩:=cY.1 hz;exact zL2 l) (λz hz=>by obtain⟨l,_,rfl⟩:=cY.1 hz;exact zL2 l) (hd2 _ _ x2) (hd2 _ _ y2) h
  have pz:∀Z:List zJ,Z.flatMap prL=[]∨∃u t,Z.flatMap prL=u::t/\hdIs isUp u=false:=λZ=>by
   rcases zId Z with e|⟨u,t,e,_,_,g⟩
   ·exact .inl e
   ·exact .inr ⟨u,t,e,g⟩
  obtain⟨e3,e4⟩:=seg (p:=hdIs isUp) (λz hz=>(zIe x2 z hz).1) (λz hz=>(zIe y2 z hz).1) (pz X) (pz Y) e2
  have n1:=zGC x1 y1 e1
  have n2:x.Body=y.Body:=zCv (λs hs t ht e=>by
   obtain⟨d,hd⟩:=x2 s hs
   obtain⟨d',hd'⟩:=y2 t ht
   exact zMB hd hd' e) e3
  obtain⟨a,b⟩:=x
  obtain⟨a',b'⟩:=y
  simp only at n1 n2
  rw[n1,n2,zJK (λz hz=>h1 z (cd _ hz)) (λz hz=>h2 z (cd _ hz)) e4]
theorem zME{a:zG}(h:AV1 a):(10:UInt8) ∉ arL a:=λhm=>by
 obtain⟨⟨c,e1,g1,g2⟩,h1⟩:=h;unfold arL at hm;rw[e1] at hm;rcases cF.1 hm with hm|hm
 ·revert hm;decide
 ·rcases cF.1 hm with hm|hm
  ·have:=cA.1 hm;rw[<- this] at g1;revert g1;decide
  ·obtain⟨n,hn,hm⟩:=cD.1 hm;rcases cv.1 hm with hm|hm
   ·revert hm;decide
   ·have:=h1 n hn;have:=ci.1 (zHM ⟨n.toNat,by omega⟩) 10 hm;cases this
theorem zIE{P:zP}(h1:∀a∈P.Arrays,AV1 a)(h2:∀x∈P.Parts,PV x):∀l∈pgL P,(10:UInt8) ∉ l:=λl hl=>by
 rcases cF.1 hl with hl|hl
 ·obtain⟨a,ha,rfl⟩:=cY.1 hl;exact zME (h1 a ha)
 ·obtain⟨x,hx,hl⟩:=cD.1 hl;obtain⟨p1,p2⟩:=h2 x hx;rcases cv.1 hl with rfl|hl
  ·decide
  ·rcases cF.1 hl with hl|hl
   ·obtain⟨n,hn,rfl⟩:=cY.1 hl;exact zK3 (p1 n hn)
   ·obtain⟨s,hs,rfl⟩:=cY.1 hl;obtain⟨d,hd⟩:=p2 s hs;exact zMC hd (.inl rfl)
theorem zMF{P Q:zP}(h1:∀a∈P.Arrays,AV1 a)(h2:∀x∈P.Parts,PV x)(h3:∀a∈Q.Arrays,AV1 a)(h4:∀x∈Q.Parts,PV x)(h:pgT P=pgT Q):P=Q:=by
 have c1:=zE6 (X:=[112,114,111,103,114,97,109]::pgL P) (λl hl=>by
  rcases cv.1 hl with rfl|hl
  ·decide
  ·exact zIE h1 h2 l hl)
 have c2:=zE6 (X:=[112,114,111,103,114,97,109]::pgL Q) (λl hl=>by
  rcases cv.1 hl with rfl|hl
  ·decide
  ·exact zIE h3 h4 l hl)
 unfold pgT at h;rw[h,c2] at c1;have e:=(List.cons.inj (List.append_cancel_right c1)).2;unfold pgL at e;have pa:∀Z:List zJ,Z.flatMap prL=[]∨∃u t,Z.flatMap prL=u::t/\hdIs (λb=>b==97) u=false:=λZ=>by
  rcases zId Z with e|⟨u,t,e,g,_,_⟩
  ·exact .inl e
  ·exact .inr ⟨u,t,e,g⟩
 obtain⟨e1,e2⟩:=seg (p:=hdIs λb=>b==97) (λz hz=>by obtain⟨l,_,rfl⟩:=cY.1 hz;rfl) (λz hz=>by obtain⟨l,_,rfl⟩:=cY.1 hz;rfl) (pa Q.Parts) (pa P.Parts) e;have n1:Q.Arrays=P.Arrays:=zCv (λa ha b hb e=>zMD (h3 a ha) (h1 b hb) e) e1;have n2:=zJK h4 h2 e2;obtain⟨a,b⟩:=P;obtain⟨a',b'⟩:=Q;simp only at n1 n2;rw[n1,n2]
end Go.LN
namespace Go.LN
def Sy(x:Option Bool)(p:Prop):Prop:=∃r:Bool,x=some r/\(r=true↔p)
theorem Sy.of{x:Option Bool}{r:Bool}{p:Prop}(h:x=some r)(hp:r=true↔p):Sy x p:=⟨r,h,hp⟩
theorem Sy.and{x y:Option Bool}{p q:Prop}(h:Sy x p)(k:Sy y q):Sy (x.bind λa=>if a=true then y else some false) (p/\q):=by
 obtain⟨r,rfl,hr⟩:=h;obtain⟨s,rfl,hs⟩:=k;cases r with
 | true=>exact⟨s,rfl,by rw[hs];exact⟨λh=>⟨hr.1 rfl,h⟩,λh=>h.2⟩⟩
 | false=>exact⟨false,rfl,⟨λh=>(by cases h),λh=>absurd (hr.2 h.1) (by decide)⟩⟩
theorem eU{α:Type}{a b:List α}(hl:a.length=b.length){f:Int->Option (Out Unit Bool)}(step:∀(i:Nat) (h1:i<a.length) (h2:i<b.length),∃r:Bool,(r=true↔a[i]=b[i])/\f (i:Int)=if r then f ((i+1:Nat):Int) else some (.ret false))(fin:f (a.length:Int)=some (.done ())):
 ∃r:Bool,f 0=some (if r then .done () else .ret false)/\(r=true↔a=b):=by
 have key:∀(j i:Nat),i+j=a.length->∃r:Bool,f (i:Int)=some (if r then .done () else .ret false)/\(r=true↔a.drop i=b.drop i):=by
  intro j
  induction j with
  | zero=>
   intro i hi
   refine⟨true,?_,?_⟩
   ·rw[show i=a.length by omega,fin];rfl
   ·rw[dN.2 (show a.length<=i by omega),dN.2 (show b.length<=i by omega)]
    simp
  | succ j ih=>
   intro i hi
   have h1:i<a.length:=by omega
   have h2:i<b.length:=by omega
   obtain⟨r,hr,hf⟩:=step i h1 h2
   obtain⟨s,hs,ax⟩:=ih (i+1) (by omega)
   rw[gC h1,gC h2,hf]
   cases r with
   | true=>exact⟨s,hs,by rw[ax,List.cons.injEq];exact⟨λh=>⟨hr.1 rfl,h⟩,λh=>h.2⟩⟩
   | false=>exact⟨false,rfl,⟨λh=>(by cases h),λh=>absurd (hr.2 (List.cons.inj h).1) (by decide)⟩⟩
 have:=key a.length 0 (cO _)
 rwa[nZ,cz,cz] at this
theorem lne{α:Type}{a b:List α}(h:a.length ≠ b.length):((a.length:Int) != (b.length:Int))=true/\¬a=b:=⟨by simp;omega,λe=>h (by rw[e])⟩
theorem leq{α:Type}{a b:List α}(h:a.length=b.length):((a.length:Int) != (b.length:Int))=false:=by simp[h]
theorem zHO{a b:Str}:(a.l==b.l)=true↔a=b:=by
 cases a;cases b;simp
theorem implAcY(a b:zH)(ha:BL a.Subs):Sy (oW a b) (a=b):=by
 refine⟨a.Array.l==b.Array.l&&eqL afB a.Subs b.Subs,?_,?_⟩
 ·unfold oW;rw[implSd _ _ ha];cases a.Array.l==b.Array.l <;> rfl
 ·rw[bA,zHO,zBF zBz];cases a;cases b;simp
theorem specAcY(a b:zH)(ha:BL a.Subs):Sy (pC a b) (a=b):=by
 refine⟨a.Array.l==b.Array.l&&eqL afB a.Subs b.Subs,?_,?_⟩
 ·unfold pC;rw[specSd _ _ ha];cases a.Array.l==b.Array.l <;> rfl
 ·rw[bA,zHO,zBF zBz];cases a;cases b;simp
theorem zJL{e f:zD}:e=f↔e.Kind=f.Kind/\e.Num=f.Num/\e.Index=f.Index/\e.Read=f.Read/\e.Kids=f.Kids:=by
 cases e;cases f
 simp only[zD.mk.injEq,zD.Kind,zD.Num,zD.Index,zD.Read,zD.Kids]
theorem implExY:∀(m:Nat) (e f:zD),BE m e->Sy (mK e f) (e=f)
 | m,e,f,h=>by
  obtain⟨h1,h2,h3⟩:=h.own
  have hb1:e.Index.Coefs.length<=1048576:=by unfold BA at h1;omega
  have hK:Sy (xG e.Kids f.Kids) (e.Kids=f.Kids):=by
   rw[xG]
   by_cases hl:e.Kids.length=f.Kids.length
   ·obtain⟨r,hr,hr2⟩:=eU hl (f:=yU e.Kids f.Kids) (λi q1 q2=>by
     obtain⟨m',hm,hm'⟩:=h.kid (gM q1)
     obtain⟨r,hr,hr2⟩:=implExY m' e.Kids[i] f.Kids[i] hm'
     refine⟨r,hr2,?_⟩
     rw[yU]
     have k1:((i:Int)<(e.Kids.length:Int)):=by omega
     simp only[k1,dT,if_true,xK q1,xK q2,oB,oS,same,hr]
     rw[sT (by omega)]
     cases r <;> rfl) (by rw[yU];simp)
    refine⟨r,?_,hr2⟩
    simp only[leq hl,bF,if_false,same,hr,oB,oS]
    cases r <;> rfl
   ·obtain⟨q1,q2⟩:=lne hl
    refine⟨false,?_,⟨λh=>(by cases h),λh=>absurd h q2⟩⟩
    simp only[q1,if_true];rfl
  obtain⟨ra,ha,ha2⟩:=implAcY e.Read f.Read h2
  obtain⟨rk,hk,hk2⟩:=hK
  refine⟨(e.Kind==f.Kind&&(e.Num==f.Num&&(afB e.Index f.Index&&(ra&&rk)))),?_,?_⟩
  ·rw[mK]
   simp only[implAff _ _ hb1,ha,hk,same]
   cases e.Kind==f.Kind <;> cases e.Num==f.Num <;> cases afB e.Index f.Index <;> cases ra <;> cases rk <;> rfl
  ·rw[zJL]
   simp only[bA,beq_iff_eq,zBz,ha2,hk2]
theorem specExY:∀(m:Nat) (e f:zD),BE m e->Sy (sO e f) (e=f)
 | m,e,f,h=>by
  obtain⟨h1,h2,h3⟩:=h.own
  have hb1:e.Index.Coefs.length<=1048576:=by unfold BA at h1;omega
  obtain⟨ra,ha,ha2⟩:=specAcY e.Read f.Read h2
  by_cases hl:e.Kids.length=f.Kids.length
  ·obtain⟨r,hr,hr2⟩:=eU hl (f:=rQ e f) (λi q1 q2=>by
    obtain⟨m',hm,hm'⟩:=h.kid (gM q1)
    obtain⟨r,hr,hr2⟩:=specExY m' e.Kids[i] f.Kids[i] hm'
    refine⟨r,hr2,?_⟩
    rw[rQ]
    have k1:((i:Int)<(e.Kids.length:Int)):=by omega
    simp only[k1,dT,if_true,xK q1,xK q2,oB,oS,same,hr]
    rw[sT (by omega)]
    cases r <;> rfl) (by rw[rQ];simp)
   refine⟨(e.Kind==f.Kind&&(e.Num==f.Num&&(afB e.Index f.Index&&(ra&&r)))),?_,?_⟩
   ·rw[sO]
    have e1:(e.Kind != f.Kind)=!(e.Kind==f.Kind):=rfl
    have e2:(e.Num != f.Num)=!(e.Num==f.Num):=rfl
    simp only[e1,e2,leq hl,specAff _ _ hb1,ha,hr,same]
    cases e.Kind==f.Kind <;> cases e.Num==f.Num <;> cases afB e.Index f.Index <;> cases ra <;> cases r <;> rfl
   ·rw[zJL]
    simp only[bA,beq_iff_eq,zBz,ha2,hr2]
  ·obtain⟨q1,q2⟩:=lne hl
   refine⟨false,?_,⟨λh=>(by cases h),λh=>absurd (by rw[h]) q2⟩⟩
   rw[sO]
   have e1:(e.Kind != f.Kind)=!(e.Kind==f.Kind):=rfl
   have e2:(e.Num != f.Num)=!(e.Num==f.Num):=rfl
   simp only[e1,e2,q1,specAff _ _ hb1,ha,same]
   cases e.Kind==f.Kind <;> cases e.Num==f.Num <;> rfl
theorem implStY(s t:zM)(h:BS s):Sy (sV s t) (s=t):=by
 obtain⟨h1,m,h2⟩:=h;obtain⟨ra,ha,ha2⟩:=implAcY s.Write t.Write h1;obtain⟨re,he,he2⟩:=implExY m s.Value t.Value h2;refine⟨ra&&re,?_,?_⟩
 ·unfold sV;rw[ha,he];cases ra <;> cases re <;> rfl
 ·rw[bA,ha2,he2];cases s;cases t;simp
theorem specStY(s t:zM)(h:BS s):Sy (jO s t) (s=t):=by
 obtain⟨h1,m,h2⟩:=h;obtain⟨ra,ha,ha2⟩:=specAcY s.Write t.Write h1;obtain⟨re,he,he2⟩:=specExY m s.Value t.Value h2;refine⟨ra&&re,?_,?_⟩
 ·unfold jO;rw[ha,he];cases ra <;> cases re <;> rfl
 ·rw[bA,ha2,he2];cases s;cases t;simp
end Go.LN
namespace Go.LN
theorem implArsY(a b:List zG)(h:BR a):Sy (xB a b vW) (a=b):=by
 obtain⟨h1,h2⟩:=h;unfold xB;by_cases hl:a.length=b.length
 ·obtain⟨r,hr,hr2⟩:=eU hl (f:=yI a b vW) (λi q1 q2=>by
   have hd:=h2 _ (gM q1);refine⟨a[i].Name.l==b[i].Name.l&&eqI a[i].Dims b[i].Dims,?_,?_⟩
   ·rw[bA,zHO,zHG];cases a[i];cases b[i];simp
   ·rw[yI];have k1:((i:Int)<(a.length:Int)):=by omega
    have e:vW a[i] b[i]=some (a[i].Name.l==b[i].Name.l&&eqI a[i].Dims b[i].Dims):=by
     unfold vW;rw[implEqI _ _ (by omega)];cases a[i].Name.l==b[i].Name.l <;> rfl
    simp only[k1,dT,if_true,xK q1,xK q2,e,oB,oS];rw[sT (by omega)];cases a[i].Name.l==b[i].Name.l&&eqI a[i].Dims b[i].Dims <;> rfl) (by rw[yI];simp)
  refine⟨r,?_,hr2⟩;simp only[leq hl,bF,if_false,hr,oB,oS];cases r <;> rfl
 ·obtain⟨q1,q2⟩:=lne hl;refine⟨false,?_,⟨λh=>(by cases h),λh=>absurd h q2⟩⟩;simp only[q1,if_true];rfl
theorem implBodY(a b:List zM)(hl0:a.length<=100000)(h:∀s∈a,BS s):Sy (xH a b sV) (a=b):=by
 unfold xH;by_cases hl:a.length=b.length
 ·obtain⟨r,hr,hr2⟩:=eU hl (f:=yM a b sV) (λi q1 q2=>by
   obtain⟨r,hr,hr2⟩:=implStY a[i] b[i] (h _ (gM q1));refine⟨r,hr2,?_⟩;rw[yM];have k1:((i:Int)<(a.length:Int)):=by omega
   simp only[k1,dT,if_true,xK q1,xK q2,hr,oB,oS];rw[sT (by omega)];cases r <;> rfl) (by rw[yM];simp)
  refine⟨r,?_,hr2⟩;simp only[leq hl,bF,if_false,hr,oB,oS];cases r <;> rfl
 ·obtain⟨q1,q2⟩:=lne hl;refine⟨false,?_,⟨λh=>(by cases h),λh=>absurd h q2⟩⟩;simp only[q1,if_true];rfl
theorem zJM{x y:zJ}:x=y↔x.Nest=y.Nest/\x.Body=y.Body:=by
 cases x;cases y;simp
theorem implPartY(x y:zJ)(h:BP x):Sy (vX x y) (x=y):=by
 obtain⟨x1,x2,x3⟩:=h;obtain⟨r,hr,hr2⟩:=implBodY x.Body y.Body (by omega) x3;refine⟨eqL lpB x.Nest y.Nest&&r,?_,?_⟩
 ·unfold vX;rw[implNs _ _ x1,hr];cases eqL lpB x.Nest y.Nest <;> cases r <;> rfl
 ·rw[bA,zJA,hr2,zJM]
theorem implPgY(P Q:zP)(h:BG P):Sy (rF P Q) (P=Q):=by
 obtain⟨a1,p1,p2⟩:=h;have hA:=implArsY P.Arrays Q.Arrays a1;have hP:Sy (xI P.Parts Q.Parts vX) (P.Parts=Q.Parts):=by
  unfold xI;by_cases hl:P.Parts.length=Q.Parts.length
  ·obtain⟨r,hr,hr2⟩:=eU hl (f:=yN P.Parts Q.Parts vX) (λi q1 q2=>by
    obtain⟨r,hr,hr2⟩:=implPartY P.Parts[i] Q.Parts[i] (p2 _ (gM q1));refine⟨r,hr2,?_⟩;rw[yN];have k1:((i:Int)<(P.Parts.length:Int)):=by omega
    simp only[k1,dT,if_true,xK q1,xK q2,hr,oB,oS];rw[sT (by omega)];cases r <;> rfl) (by rw[yN];simp)
   refine⟨r,?_,hr2⟩;simp only[leq hl,bF,if_false,hr,oB,oS];cases r <;> rfl
  ·obtain⟨q1,q2⟩:=lne hl;refine⟨false,?_,⟨λh=>(by cases h),λh=>absurd h q2⟩⟩;simp only[q1,if_true];rfl
 obtain⟨ra,ha,ha2⟩:=hA;obtain⟨rp,hp,hp2⟩:=hP;refine⟨ra&&rp,?_,?_⟩
 ·unfold rF;rw[ha,hp];cases ra <;> cases rp <;> rfl
 ·rw[bA,ha2,hp2];cases P;cases Q;simp
end Go.LN
namespace Go.LN
theorem zIF(c:UInt8):∀X:List (List UInt8),Lib.join X [c]=joinS c X
 | []=>rfl
 | [x]=>Lib.join_one x [c]
 | x::y::t=>by
  have:=zIF c (y::t)
  rw[joinS,<- this]
  simp[Lib.join,List.intercalate]
theorem zIG(c:UInt8):∀(X:List (List UInt8)) (n:Nat),(∀x∈X,x.length<=n)->(joinS c X).length<=(n+1)*X.length
 | [],n,h=>d9 _
 | [x],n,h=>by
  have:=h x (cf ..)
  show x.length<=(n+1)*1
  omega
 | x::y::t,n,h=>by
  have h1:=h x (cf ..)
  have ih:=zIG c (y::t) n λz hz=>h z (cd _ hz)
  rw[show (x::y::t).length=(y::t).length+1 from rfl,Nat.mul_succ,joinS,lA,co]
  omega
theorem zCw{l:List zA}(h:∀a∈l,validB a=true):(sdT l).length<=24*l.length:=by
 have:=zIG 44 (l.map tx) 23 λx hx=>by
  obtain⟨a,ha,rfl⟩:=cY.1 hx;exact zI7 (h a ha)
 rw[lM] at this;exact this
theorem zAk{α:Type}{l:List α}{f:Str->Int->Option Str}{g:α->List UInt8}{C B:Nat}
 (step:∀(i:Nat) (h:i<l.length) (o:Str),o.l.length<=C+B*i->(g l[i]).length<=B/\f o (i:Int)=f ⟨o.l++g l[i]⟩ ((i+1:Nat):Int))
 (fin:∀o,f o (l.length:Int)=some o) (o:Str) (ho:o.l.length<=C):f o 0=some ⟨o.l++l.flatMap g⟩/\(l.flatMap g).length<=B*l.length:=by
 have key:∀(j i:Nat) (o:Str),i+j=l.length->o.l.length<=C+B*i->f o (i:Int)=some ⟨o.l++(l.drop i).flatMap g⟩/\((l.drop i).flatMap g).length<=B*j:=by
  intro j
  induction j with
  | zero=>
   intro i o hi ho
   rw[show i=l.length by omega,fin,dN.2 (cU _)]
   simp
  | succ j ih=>
   intro i o hi ho
   have aV:i<l.length:=by omega
   obtain⟨h1,h2⟩:=step i aV o ho
   obtain⟨k1,k2⟩:=ih (i+1) ⟨o.l++g l[i]⟩ (by omega) (by rw[Nat.mul_succ];simp only[lA];omega)
   rw[h2,k1,gC aV,ck,lA,Nat.mul_succ]
   exact⟨by simp,by omega⟩
 have:=key l.length 0 o (cO _) (by omega)
 rwa[nZ,cz] at this
theorem implAT(l:List zA)(h:∀a∈l,validB a=true)(hl:l.length<=100):rC l=some ⟨sdT l⟩:=by
 unfold rC;have key:∀(j i:Nat) (o:List Str),i+j=l.length->o=(l.take i).map (λa=>(⟨tx a⟩:Str))->tA l o (i:Int)=some (l.map λa=>(⟨tx a⟩:Str)):=by
  intro j
  induction j with
  | zero=>
   intro i o hi ho;rw[tA];have:¬((i:Int)<(l.length:Int)):=by omega
   simp only[this,dF,bF,if_false,ho];rw[dk (by omega)];rfl
  | succ j ih=>
   intro i o hi ho;rw[tA];have aV:i<l.length:=by omega
   have hc:((i:Int)<(l.length:Int)):=by omega
   have ho':o.length=i:=by rw[ho,lM,cr];omega
   simp only[hc,dT,if_true,xK aV,oB,oS,zGm _ (h _ (gM aV)),gV (show (o.length+[(⟨tx l[i]⟩:Str)].length)*16<=140737488355328 by simp;omega)];rw[sT (by omega)];exact ih (i+1) _ (by omega) (by rw[ho,fa,ce aV,List.map_append];rfl)
 have h1:=key _ 0 [] (cO _) (by simp);rw[nZ] at h1;rw[h1];simp only[oB,oS];have e:(l.map λa=>(⟨tx a⟩:Str)).map (·.l)=l.map tx:=by rw[List.map_map];rfl
 have hj:Lib.join (l.map tx) (⟨[44]⟩:Str).l=sdT l:=zIF 44 _;have hb:=zCw h;unfold fR;rw[e,hj,if_pos ⟨by rw[lM];omega,by omega⟩];rfl
theorem zMG{l:zE}(h:LV l/\l.Lo.length<=2/\l.Hi.length<=2):(lpT l).length<=101:=by
 obtain⟨⟨h1,h2⟩,h3,h4⟩:=h;have s1:=zCw h1.2;have s2:=zCw h2.2;unfold lpT;simp only[lA,co,cx];omega
theorem nG{o:Str}{b:List UInt8}(h:o.l.length+b.length<=9223372036854775807):cat o ⟨b⟩=some ⟨o.l++b⟩:=zB5 h
theorem implNT(n:List zE)(h:∀l∈n,LV l/\l.Lo.length<=2/\l.Hi.length<=2)(hn:n.length<=4):jJ n=some ⟨ntT n⟩/\(ntT n).length<=408:=by
 have hl:=zAk (l:=n) (f:=rD n) (g:=λl=>lpT l++[10]) (C:=0) (B:=102) (λi hi o ho=>by
  have hh:=h _ (gM hi);have hL:=zMG hh;obtain⟨⟨h1,h2⟩,h3,h4⟩:=hh;have s1:=zCw h1.2;have s2:=zCw h2.2;have t1:=implAT _ h1.2 (by omega);have t2:=implAT _ h2.2 (by omega);refine⟨by simp only[lA,co,cx];omega,?_⟩;have hc:((i:Int)<(n.length:Int)):=by omega
  rw[rD];simp only[hc,dT,if_true,xK hi,oB,oS,t1,t2];have e:lpT n[i]++[10]=([102,111,114,32]++sdT n[i].Lo++[32]++sdT n[i].Hi)++[10]:=by unfold lpT;simp
  rw[e];generalize sdT n[i].Lo=u at s1 ⊢;generalize sdT n[i].Hi=v at s2 ⊢;rw[nG (by simp;omega)];simp only[oS];rw[nG (by simp;omega)];simp only[oS];rw[nG (by simp;omega)];simp only[oS];rw[nG (by simp;omega)];simp only[oS];rw[nG (by simp;omega)];simp only[oS];rw[sT (by omega)]) (λo=>by
  rw[rD];simp) ⟨[]⟩ (cU _)
 obtain⟨h1,h2⟩:=hl;unfold jJ;rw[h1];refine⟨rfl,?_⟩;have:(ntT n).length<=102*n.length:=h2;omega
theorem zIf{a:zH}{d:Int}(h:accB a d=true):(acT a).length<=51:=by
 obtain⟨⟨c,e,_⟩,h1,h2⟩:=zAj h;have:=zCw h1.2;unfold acT;rw[e];simp only[lA,co,cx];omega
theorem implAcT(a:zH){d:Int}(h:accB a d=true):oV a=some ⟨acT a⟩:=by
 obtain⟨⟨c,e,_⟩,h1,h2⟩:=zAj h;have s1:=zCw h1.2;have t1:=implAT _ h1.2 (by omega);unfold oV acT;rw[e];simp only[t1,oB,oS];generalize sdT a.Subs=u at s1 ⊢;rw[nG (by simp)];simp only[oS];rw[nG (by simp;omega)];simp only[oS];rw[nG (by simp;omega)];simp
theorem zJb{k:Int}(hk:k=4∨k=5∨k=6):sslc (⟨[43,45,42]⟩:Str) (W (k - 4)) (W (W (k - 4)+1))=some ⟨[opc k]⟩:=by
 rcases hk with rfl|rfl|rfl <;> rfl
theorem implExT{d:Int}:∀(n:Nat) (e:zD),n<=10->shapeB d n e=true->tQ e=some ⟨exT n e⟩/\(exT n e).length+3<=60*2 ^ n
 | 0,_,_,h=>by cases h
 | n+1,e,hn,h=>by
  have h2:1<=2 ^ n:=Nat.one_le_two_pow
  have h3:2 ^ n<=2 ^ 10:=Nat.pow_le_pow_right (by omega) (by omega)
  rw[Nat.pow_succ]
  cases zFG h with
  | num k hk=>
   rw[tQ,zGE]
   have hd:=zBG k
   have t:=zCA k hk
   have e1:((zD.mk 1 k ⟨[],0⟩ ⟨⟨[]⟩,[]⟩ []).Kind==1)=true:=rfl
   have e2:(zD.mk 1 k ⟨[],0⟩ ⟨⟨[]⟩,[]⟩ []).Num=(k:Int):=rfl
   rw[if_pos e1,e2,t]
   exact⟨rfl,by omega⟩
  | ix a ha=>
   rw[tQ,zIA]
   unfold okA at ha
   rw[bA] at ha
   have hl:=zI7 ha.1
   have t:=zGm a ha.1
   have e1:((zD.mk 2 0 a ⟨⟨[]⟩,[]⟩ []).Kind==1)=false:=rfl
   have e2:((zD.mk 2 0 a ⟨⟨[]⟩,[]⟩ []).Kind==2)=true:=rfl
   have e3:(zD.mk 2 0 a ⟨⟨[]⟩,[]⟩ []).Index=a:=rfl
   rw[e1,e2,e3,t]
   generalize tx a=u at hl ⊢
   simp only[bF,if_false,if_true,oB,oS]
   rw[nG (by simp;omega)];simp only[oS]
   rw[nG (by simp;omega)]
   exact⟨rfl,by simp only[lA,co,cx];omega⟩
  | rd a ha=>
   rw[tQ,zIB]
   have hl:=zIf ha
   have t:=implAcT a ha
   have e1:((zD.mk 3 0 ⟨[],0⟩ a []).Kind==1)=false:=rfl
   have e2:((zD.mk 3 0 ⟨[],0⟩ a []).Kind==2)=false:=rfl
   have e3:((zD.mk 3 0 ⟨[],0⟩ a []).Kind==3)=true:=rfl
   have e4:(zD.mk 3 0 ⟨[],0⟩ a []).Read=a:=rfl
   rw[e1,e2,e3,e4,t]
   exact⟨rfl,by omega⟩
  | op k x y hk hx hy=>
   rw[tQ,zIC hk]
   obtain⟨t1,l1⟩:=implExT n x (by omega) hx
   obtain⟨t2,l2⟩:=implExT n y (by omega) hy
   have e1:((zD.mk k 0 ⟨[],0⟩ ⟨⟨[]⟩,[]⟩ [x,y]).Kind==1)=false:=by show (k==1)=false;rw[beq_eq_false_iff_ne];omega
   have e2:((zD.mk k 0 ⟨[],0⟩ ⟨⟨[]⟩,[]⟩ [x,y]).Kind==2)=false:=by show (k==2)=false;rw[beq_eq_false_iff_ne];omega
   have e3:((zD.mk k 0 ⟨[],0⟩ ⟨⟨[]⟩,[]⟩ [x,y]).Kind==3)=false:=by show (k==3)=false;rw[beq_eq_false_iff_ne];omega
   have e4:idx (zD.mk k 0 ⟨[],0⟩ ⟨⟨[]⟩,[]⟩ [x,y]).Kids 0=some x:=rfl
   have e5:idx (zD.mk k 0 ⟨[],0⟩ ⟨⟨[]⟩,[]⟩ [x,y]).Kids 1=some y:=rfl
   have e6:(zD.mk k 0 ⟨[],0⟩ ⟨⟨[]⟩,[]⟩ [x,y]).Kind=k:=rfl
   rw[e1,e2,e3,e4,e5,e6,zJb hk]
   simp only[bF,if_false,oB,oS,same,t1,t2]
   generalize exT n x=u at l1 ⊢
   generalize exT n y=v at l2 ⊢
   rw[nG (by simp;omega)];simp only[oS]
   rw[nG (by simp;omega)];simp only[oS]
   rw[nG (by simp;omega)];simp only[oS]
   rw[nG (by simp;omega)]
   refine⟨by simp,?_⟩
   simp only[lA,co,cx]
   omega
theorem zMH{s:zM}{d:Int}(h:stmtB s d=true):(stT s).length<=2000:=by
 obtain⟨a1,a2⟩:=zCB h;have h1:=zIf a1;have h2:=(implExT 5 _ (by omega) a2).2;unfold stT;simp only[lA,co];omega
theorem implStT(s:zM){d:Int}(h:stmtB s d=true):jK s=some ⟨stT s⟩:=by
 obtain⟨a1,a2⟩:=zCB h;have h1:=zIf a1;have h2:=implExT 5 _ (by omega) a2;obtain⟨h2,h3⟩:=h2;unfold jK stT;simp only[implAcT _ a1,h2,oB,oS];generalize acT s.Write=u at h1 ⊢;generalize exT 5 s.Value=v at h3 ⊢;rw[nG (by simp;omega)];simp only[oS];rw[nG (by simp;omega)];simp
theorem zJc{l:List UInt8}(h:nameL l=true):∃c:UInt8,l=[c]/\65<=c.toNat/\c.toNat<=68:=by
 match l,h with
 | [c],h=>
  unfold nameL at h;simp only[bA,decide_eq_true_eq] at h;exact⟨c,rfl,h.1,h.2⟩
theorem zMI{A:List zG}(h:arrB A=true):A.length<=4/\∀a∈A,AV1 a/\a.Dims.length<=2:=by
 unfold arrB at h;simp only[bA,decide_eq_true_eq,ci,cG] at h;refine⟨h.1,λa ha=>?_⟩;obtain⟨i,hi,rfl⟩:=ec.1 ha;have:=h.2 i hi;unfold arrI at this;rw[cZ,ce hi,Option.getD_some] at this;simp only[bA,decide_eq_true_eq,ci] at this;obtain⟨⟨⟨k1,_⟩,_,k2⟩,k3⟩:=this;obtain⟨c,e,c1,c2⟩:=zJc k1;refine⟨⟨⟨c,?_,c1,c2⟩,λn hn=>?_⟩,k2⟩
 ·exact(show ∀s:Str,s.l=[c]->s=⟨[c]⟩ from λs h=>by cases s with|mk l=>exact congrArg Str.mk h) _ e
 ·have:=k3 n hn;unfold dimB at this;simpa using this
theorem zK9{A:List zG}{x:zJ}(h:partB A x=true):nestB x.Nest=true/\x.Body.length<=4/\∀s∈x.Body,stmtB s (x.Nest.length:Int)=true:=by
 unfold partB at h;simp only[bA] at h;obtain⟨⟨h1,h2⟩,_⟩:=h;refine⟨?_,?_⟩
 ·unfold nestPts at h1;split at h1
  ·rename_i hh;exact hh.1
  ·cases h1
 ·unfold bodyB at h2;simp only[bA,decide_eq_true_eq,ci] at h2;exact⟨h2.1.2,h2.2⟩
theorem zJN{A:List zG}{x:zJ}(h:partB A x=true):PV x:=by
 obtain⟨h1,_,h2⟩:=zK9 h;exact⟨λl hl=>((zJI h1).2 l hl).1,λs hs=>⟨_,h2 s hs⟩⟩
theorem zGF{P:zP}(h:validP P=true):(P.Arrays.length<=4/\∀a∈P.Arrays,AV1 a/\a.Dims.length<=2)/\P.Parts.length<=4/\∀x∈P.Parts,partB P.Arrays x=true:=by
 simp only[validP,progB,bA,decide_eq_true_eq] at h;obtain⟨⟨⟨h1,h2⟩,h3⟩,_⟩:=h;refine⟨zMI h1,h2,λx hx=>?_⟩;obtain⟨i,hi,rfl⟩:=ec.1 hx;have:=ci.1 h3 i (List.mem_range'_1.2 ⟨d9 _,by omega⟩);rwa[show gP P i=P.Parts[i] by simp[gP,hi]] at this
def arN(a:zG):List UInt8:=a.Dims.flatMap λn=>32::dtx n.toNat
theorem implDm(a:zG)(h:∀n∈a.Dims,1<=n/\n<=6)(hl:a.Dims.length<=2)(o:Str)(ho:o.l.length<=100000):uE a o 0=some ⟨o.l++arN a⟩/\(arN a).length<=6:=by
 have:=zAk (l:=a.Dims) (f:=uE a) (g:=λn=>32::dtx n.toNat) (C:=100000) (B:=3) (λi hi o ho=>by
  have hd:=h _ (gM hi);have hl1:=zBG a.Dims[i].toNat;refine⟨by simp only[co];omega,?_⟩;have hc:((i:Int)<(a.Dims.length:Int)):=by omega
  have t:=zCA a.Dims[i].toNat (by omega);rw[show ((a.Dims[i].toNat:Nat):Int)=a.Dims[i] by omega] at t;rw[uE];simp only[hc,dT,if_true,xK hi,oB,oS,t];generalize dtx a.Dims[i].toNat=u at hl1 ⊢;rw[nG (by simp;omega)];simp only[oS];rw[nG (by simp;omega)];simp only[oS];rw[sT (by omega)];rfl) (λo=>by rw[uE];simp) o ho
 obtain⟨h1,h2⟩:=this;exact⟨h1,by unfold arN;omega⟩
theorem implPgT(P:zP)(hv:validP P=true):nY P=some ⟨pgT P⟩:=by
 obtain⟨⟨a0,a1⟩,p0,p1⟩:=zGF hv;have hA:=zAk (l:=P.Arrays) (f:=tB P) (g:=λa=>arL a++[10]) (C:=8) (B:=20) (λi hi o ho=>by
  obtain⟨⟨⟨c,e,_⟩,k2⟩,k3⟩:=a1 _ (gM hi);have hm:=implDm _ k2 k3 ⟨o.l++([97,114,114,97,121,32]++[c])⟩ (by simp;omega);obtain⟨m1,m2⟩:=hm;have eL:arL P.Arrays[i]++[10]=[97,114,114,97,121,32]++[c]++arN P.Arrays[i]++[10]:=by unfold arL arN;rw[e];simp
  rw[eL];refine⟨by simp;omega,?_⟩;have hc:((i:Int)<(P.Arrays.length:Int)):=by omega
  rw[tB];simp only[hc,dT,if_true,xK hi,oB,oS,e];rw[nG (by simp)];simp only[oS];rw[nG (by simp;omega)];simp only[oS];rw[m1];simp only[oS];generalize arN P.Arrays[i]=u at m2 ⊢;rw[nG (by simp;omega)];simp only[oS];rw[sT (by omega)];simp) (λo=>by rw[tB];simp) ⟨[112,114,111,103,114,97,109,10]⟩ (by simp)
 obtain⟨A1,A2⟩:=hA;have hP:=zAk (l:=P.Parts) (f:=tD P) (g:=λx=>[112,97,114,116,10]++ntT x.Nest++x.Body.flatMap λs=>stT s++[10]) (C:=100) (B:=10000) (λi hi o ho=>by
  obtain⟨n1,n2,n3⟩:=zK9 (p1 _ (gM hi));obtain⟨v1,v2⟩:=zJI n1;obtain⟨t1,t2⟩:=implNT _ v2 v1;have hB:=zAk (l:=P.Parts[i].Body) (f:=tC P.Parts[i]) (g:=λs=>stT s++[10]) (C:=100000) (B:=2001) (λj hj o ho=>by
   have q1:=n3 _ (gM hj);have q2:=implStT _ q1;have q3:=zMH q1;refine⟨by simp;omega,?_⟩;have hc:((j:Int)<(P.Parts[i].Body.length:Int)):=by omega
   rw[tC];simp only[hc,dT,if_true,xK hj,oB,oS,q2];generalize stT P.Parts[i].Body[j]=u at q3 ⊢;rw[nG (by simp;omega)];simp only[oS];rw[nG (by simp;omega)];simp only[oS];rw[sT (by omega)]) (λo=>by rw[tC];simp) ⟨o.l++([112,97,114,116,10]++ntT P.Parts[i].Nest)⟩ (by simp;omega)
  obtain⟨B1,B2⟩:=hB;refine⟨by simp only[lA,co,cx];omega,?_⟩;have hc:((i:Int)<(P.Parts.length:Int)):=by omega
  rw[tD];simp only[hc,dT,if_true,xK hi,oB,oS,t1];generalize hu:ntT P.Parts[i].Nest=u at t2 B1 ⊢;rw[nG (by simp;omega)];simp only[oS];rw[nG (by simp;omega)];simp only[oS];rw[B1];simp only[oS];rw[sT (by omega)];simp) (λo=>by rw[tD];simp) ⟨[112,114,111,103,114,97,109,10]++P.Arrays.flatMap λa=>arL a++[10]⟩ (by simp only[lA,co,cx];omega)
 unfold nY;rw[A1];simp only[oB,oS];rw[hP.1];simp only[oS,oP,id]
 congr 2
 unfold pgT pgL;rw[ck,cX,er,List.flatMap_assoc];have e:(λx=>([112,97,114,116,10]++ntT x.Nest++x.Body.flatMap λs=>stT s++[10]:List UInt8))=λx=>(prL x).flatMap λl=>l++[10]:=by
  funext x
  unfold prL ntT;rw[ck,cX,er,er];simp
 rw[e];simp
theorem implFP(P:zP)(h:BG P):rO P=some (if validP P then⟨pgT P⟩ else⟨[]⟩):=by
 unfold rO;rw[implValidP P h];cases hv:validP P with
 | false=>rfl
 | true=>
  rw[implPgT P hv];rfl
theorem zIg(P:zP):pgT P ≠ []:=by
 unfold pgT;rw[ck];exact λe=>by cases (en.1 (en.1 e).1).1
theorem zIh{P Q:zP}(hP:validP P=true)(hQ:validP Q=true):pgT P=pgT Q↔P=Q:=by
 refine⟨λh=>?_,λh=>by rw[h]⟩;obtain⟨⟨_,a1⟩,_,p1⟩:=zGF hP;obtain⟨⟨_,b1⟩,_,q1⟩:=zGF hQ;exact zMF (λa ha=>(a1 a ha).1) (λx hx=>zJN (p1 x hx)) (λa ha=>(b1 a ha).1) (λx hx=>zJN (q1 x hx)) h
end Go.LN
namespace Go.LN
theorem specPartY(x y:zJ)(h:BP x):Sy (oZ x y) (x=y):=by
 obtain⟨x1,x2,x3⟩:=h;by_cases hl:x.Body.length=y.Body.length
 ·obtain⟨r,hr,hr2⟩:=eU hl (f:=tP x y) (λi q1 q2=>by
   obtain⟨r,hr,hr2⟩:=specStY x.Body[i] y.Body[i] (x3 _ (gM q1));refine⟨r,hr2,?_⟩;rw[tP];have k1:((i:Int)<(x.Body.length:Int)):=by omega
   simp only[k1,dT,if_true,xK q1,xK q2,hr,oB,oS];rw[sT (by omega)];cases r <;> rfl) (by rw[tP];simp)
  refine⟨eqL lpB x.Nest y.Nest&&r,?_,?_⟩
  ·unfold oZ;rw[specNs _ _ x1,hr,leq hl];cases eqL lpB x.Nest y.Nest <;> cases r <;> rfl
  ·rw[bA,zJA,hr2,zJM]
 ·obtain⟨q1,q2⟩:=lne hl;refine⟨false,?_,⟨λh=>(by cases h),λh=>absurd (by rw[h]) q2⟩⟩;unfold oZ;rw[specNs _ _ x1,q1];cases eqL lpB x.Nest y.Nest <;> rfl
theorem specPgY(P Q:zP)(h:BG P):Sy (rM P Q) (P=Q):=by
 obtain⟨⟨a1,a2⟩,p1,p2⟩:=h;by_cases hl:P.Arrays.length=Q.Arrays.length
 ·by_cases hm:P.Parts.length=Q.Parts.length
  ·obtain⟨r,hr,hr2⟩:=eU hl (f:=tG P Q) (λi q1 q2=>by
    have hd:=a2 _ (gM q1);refine⟨P.Arrays[i].Name.l==Q.Arrays[i].Name.l&&eqI P.Arrays[i].Dims Q.Arrays[i].Dims,?_,?_⟩
    ·rw[bA,zHO,zHG];cases P.Arrays[i];cases Q.Arrays[i];simp
    ·rw[tG];have k1:((i:Int)<(P.Arrays.length:Int)):=by omega
     simp only[k1,dT,if_true,xK q1,xK q2,specEqI _ _ (show P.Arrays[i].Dims.length<=1048576 by omega),oB,oS];rw[sT (by omega)];cases P.Arrays[i].Name.l==Q.Arrays[i].Name.l <;> cases eqI P.Arrays[i].Dims Q.Arrays[i].Dims <;> rfl) (by rw[tG];simp)
   obtain⟨s,hs,ax⟩:=eU hm (f:=tH P Q) (λi q1 q2=>by
    obtain⟨r,hr,hr2⟩:=specPartY P.Parts[i] Q.Parts[i] (p2 _ (gM q1));refine⟨r,hr2,?_⟩;rw[tH];have k1:((i:Int)<(P.Parts.length:Int)):=by omega
    simp only[k1,dT,if_true,xK q1,xK q2,hr,oB,oS];rw[sT (by omega)];cases r <;> rfl) (by rw[tH];simp)
   refine⟨r&&s,?_,?_⟩
   ·unfold rM;rw[hr,hs,leq hl,leq hm];cases r <;> cases s <;> rfl
   ·rw[bA,hr2,ax];cases P;cases Q;simp
  ·obtain⟨q1,q2⟩:=lne hm;refine⟨false,?_,⟨λh=>(by cases h),λh=>absurd (by rw[h]) q2⟩⟩;unfold rM;rw[q1,leq hl];rfl
 ·obtain⟨q1,q2⟩:=lne hl;refine⟨false,?_,⟨λh=>(by cases h),λh=>absurd (by rw[h]) q2⟩⟩;unfold rM;rw[q1];rfl
def DXq(q:Nat)(x:zJ):Prop:=QN q x.Nest/\x.Body.length<=1000/\∀s∈x.Body,QS q s
def DQ(q:Nat)(P:zP):Prop:=(P.Arrays.length<=1000+q/\∀a∈P.Arrays,a.Dims.length<=1000)/\P.Parts.length<=1000/\∀x∈P.Parts,DXq q x
theorem DXq.up{q r:Nat}{x:zJ}(h:DXq q x)(hr:q<=r):DXq r x:=⟨h.1.up hr,h.2.1,λs hs=>(h.2.2 s hs).up hr⟩
theorem DXq.bp{q:Nat}{x:zJ}(h:DXq q x)(hq:q<=300):BP x:=⟨h.1.bn (by omega),by have:=h.2.1;omega,λs hs=>(h.2.2 s hs).bs (by omega)⟩
theorem DQ.bg{q:Nat}{P:zP}(h:DQ q P)(hq:q<=300):BG P:=⟨⟨by have:=h.1.1;omega,h.1.2⟩,by have:=h.2.1;omega,λx hx=>(h.2.2 x hx).bp hq⟩
def PBq(q:Nat)(l:List zJ):Prop:=l.length<=1000/\∀x∈l,DXq q x
theorem PBq.set{q:Nat}{l:List zJ}(h:PBq q l){x:zJ}(hx:DXq q x)(k:Nat):PBq q (l.set k x):=⟨by rw[cQ];exact h.1,zBw h.2 hx k⟩
def ARq(q:Nat)(l:List zG):Prop:=l.length<=1000+q/\∀a∈l,a.Dims.length<=1000
def RDq(p:Int)(s:zK):Prop:=0<=s.p/\s.p<=p+20
theorem mut4q(q:Nat)(hq:q<=200)(r:zK)(P:zP)(h:DQ q P)(h0:0<=r.p)(h1:r.p<=700000000):Ok (tS r P) (λy=>DQ (q+6) y.1/\RDq r.p y.2):=by
 obtain⟨⟨a1,a2⟩,p1,p2⟩:=id h;have hA:ARq (q+6) P.Arrays:=⟨by omega,a2⟩;have hP:PBq (q+6) P.Parts:=⟨p1,λx hx=>(p2 x hx).up (by omega)⟩;have hW:0<P.Parts.length->W ((P.Parts.length:Int) - 1)=((P.Parts.length - 1:Nat):Int):=λhp=>by rw[oM (by omega) (by omega)];omega
 unfold tS;rw[copyProg P (h.bg (by omega))];refine Ok.bind_some (Ok.call (fE r 60) ⟨h0,by omega⟩ λy2 y3 g1 g2 g3=>?_);have hR:RDq r.p y3:=⟨by omega,by omega⟩;refine Ok.bind (φ:=λo:List zG×List zJ×zK=>ARq (q+6) o.1/\PBq (q+6) o.2.1/\RDq r.p o.2.2) ?_ λo ho=>by
  obtain⟨o1,o2,o3⟩:=o;exact Ok.pure ⟨⟨ho.1,ho.2.1⟩,ho.2.2⟩
 refine Ok.ite_beq (λ_=>?_) λ_=>?_
 ·refine Ok.call (zBC y3 _) ⟨by decide,by omega,by omega⟩ λz t _ k3=>Ok.call (uM t _) ⟨by decide,by omega,by omega,by decide⟩ λz2 t2 _ _ k4=>Ok.app (by show (_+1)*40<=_;omega) (Ok.pure ⟨⟨by show (_++_:List zG).length<=_;rw[lA];show _+1<=_;omega,λa ha=>?_⟩,hP,⟨by dsimp only;omega,by dsimp only;omega⟩⟩);rcases cF.1 ha with ha|ha
  ·exact a2 a ha
  ·rw[cA.1 ha];show 1<=1000;omega
 refine Ok.bind (φ:=λo:List zG×List zJ×zK=>ARq (q+6) o.1/\PBq (q+6) o.2.1/\RDq r.p o.2.2) ?_ λo ho=>by
  obtain⟨o1,o2,o3⟩:=o;exact Ok.pure ho
 refine Ok.ite_beq (λ_=>?_) λ_=>?_
 ·refine Ok.bind (φ:=λo:List zG×zK=>ARq (q+6) o.1/\RDq r.p o.2) ?_ λo ho=>by
   obtain⟨o1,o3⟩:=o;exact Ok.pure ⟨ho.1,hP,ho.2⟩
  refine Ok.ite_dec (λhc=>?_) λ_=>Ok.pure ⟨hA,hR⟩;refine Ok.call (uM y3 _) ⟨by decide,by omega,by omega,by decide⟩ λz t _ _ k3=>Ok.idx (by omega) (by omega) λx hx _=>Ok.bind_pure (Ok.pure ⟨⟨by show (List.set _ _ _).length<=_;rw[cQ];exact hA.1,zBw hA.2 (show ([z]:List Int).length<=1000 by simp) _⟩,⟨by dsimp only;omega,by dsimp only;omega⟩⟩)
 refine Ok.bind (φ:=λo:List zJ×zK=>PBq (q+6) o.1/\RDq r.p o.2) ?_ λo ho=>by
  obtain⟨o1,o3⟩:=o;exact Ok.pure ⟨hA,ho⟩
 refine Ok.ite_beq (λ_=>?_) λ_=>?_
 ·refine Ok.bind (φ:=λo:List zJ×zK=>PBq (q+6) o.1/\RDq r.p o.2) ?_ λo ho=>by
   obtain⟨o1,o3⟩:=o;exact Ok.pure ho
  refine Ok.ite_dec (λhc=>?_) λ_=>Ok.pure ⟨hP,hR⟩;refine Ok.idx (by omega) (by omega) λx hx _=>?_;refine Ok.bind (mut2 q (by omega) y3 x.Nest (p2 x hx).1 (by omega) (by omega)) λq1 k1=>?_;obtain⟨n1,s1⟩:=q1;obtain⟨c1,c2,c3⟩:=k1;refine Ok.bind (mut2 (q+2) (by omega) s1 n1 c1 c2 (by dsimp only at c3;omega)) λq2 k2=>?_;obtain⟨n2,s2⟩:=q2;obtain⟨d1,d2,d3⟩:=k2;refine Ok.bind (mut2 (q+2+2) (by omega) s2 n2 d1 d2 (by dsimp only at c3 d3;omega)) λq3 k3=>?_;obtain⟨n,s⟩:=q3;have hn:=k3.1;refine Ok.idx (by omega) (by omega) λx7 hx7 _=>Ok.bind_pure (Ok.pure ⟨hP.set (x:=⟨n,x7.Body⟩) ⟨hn,(hP.2 x7 hx7).2.1,(hP.2 x7 hx7).2.2⟩ _,⟨k3.2.1,by have:=k3.2.2;dsimp only at this c3 d3 ⊢;omega⟩⟩)
 refine Ok.bind (φ:=λo:List zJ×zK=>PBq (q+6) o.1/\RDq r.p o.2) ?_ λo ho=>by
  obtain⟨o1,o3⟩:=o;exact Ok.pure ho
 refine Ok.ite_beq (λ_=>?_) λ_=>?_
 ·refine Ok.bind (φ:=λb=>b=true->0<P.Parts.length/\∀x,P.Parts[P.Parts.length - 1]?=some x->0<x.Body.length) ?_ λb hb=>?_
  ·refine Ok.ite_dec (λhc=>?_) λ_=>Ok.pure (λh=>by cases h);have hp:0<P.Parts.length:=by omega
   rw[hW hp];refine Ok.idx (by omega) (by omega) λx hx he=>Ok.pure λhd=>⟨hp,λx' hx'=>?_⟩;rw[iN] at he;rw[he] at hx';cases hx'
   have:=of_decide_eq_true hd;omega
  ·refine Ok.bind (φ:=λo:List zJ×zK=>PBq (q+6) o.1/\RDq r.p o.2) ?_ λo ho=>by
    obtain⟨o1,o3⟩:=o;exact Ok.pure ho
   refine Ok.ite (λhc=>?_) λ_=>Ok.pure ⟨hP,hR⟩;obtain⟨hp,hbody⟩:=hb hc;rw[hW hp];refine Ok.idx (by omega) (by omega) λx hx he=>?_;rw[iN] at he;have hb0:=hbody x he;have hdx:=p2 x hx;have hdy:=hP.2 x hx;refine Ok.idx (by omega) (by omega) λx0 hx0 _=>?_;refine Ok.bind (mut3 q (by omega) y3 x0 (hdx.2.2 x0 hx0) (by omega) (by omega)) λq1 k1=>?_;obtain⟨n1,s1⟩:=q1;obtain⟨c1,c2,c3⟩:=k1;refine Ok.bind (mut3 (q+2) (by omega) s1 n1 c1 c2 (by dsimp only at c3;omega)) λq2 k2=>?_;obtain⟨n2,s2⟩:=q2;obtain⟨d1,d2,d3⟩:=k2;refine Ok.bind (mut3 (q+2+2) (by omega) s2 n2 d1 d2 (by dsimp only at c3 d3;omega)) λq3 k3=>?_;obtain⟨n,s⟩:=q3;have hn:=k3.1;refine Ok.bind_pure (Ok.pure ⟨hP.set (x:=⟨x.Nest,x.Body.set 0 n⟩) ⟨hdy.1,by show (List.set _ _ _).length<=_;rw[cQ];exact hdx.2.1,zBw hdy.2.2 hn _⟩ _,⟨k3.2.1,by have:=k3.2.2;dsimp only at this c3 d3 ⊢;omega⟩⟩)
 refine Ok.bind (φ:=λo:List zJ=>PBq (q+6) o) ?_ λo ho=>Ok.pure ⟨ho,hR⟩;refine Ok.ite_beq (λ_=>?_) λ_=>Ok.pure hP;refine Ok.bind (φ:=λo:List zJ=>PBq (q+6) o) ?_ λo ho=>Ok.pure ho;refine Ok.ite_dec (λhc=>?_) λ_=>Ok.pure hP;have hp:0<P.Parts.length:=by omega
 rw[hW hp];refine Ok.idx (by omega) (by omega) λx hx he=>Ok.bind_pure (Ok.pure (hP.set (x:=⟨x.Nest,[]⟩) ⟨(hP.2 x hx).1,by show 0<=1000;omega,λ_ h=>by cases h⟩ _))
theorem SG.dq{P:zP}(h:SG 1000 P):DQ 100 P:=by
 obtain⟨⟨h1,h2⟩,h3,h4⟩:=h.dp;exact⟨⟨by omega,h2⟩,h3,h4⟩
theorem drawSame(code:List UInt8):Ok (qV code) (λy=>BG y.1/\BG y.2):=by
 unfold qV;refine Ok.call (zHi code) trivial λs hs=>Ok.call (zFr s) ⟨by omega,by omega⟩ λa t g1 g2 g3=>?_;have ha:=g1.dq.bg (by omega);refine Ok.call (fE t 2) ⟨by omega,by omega⟩ λy u k1 k2 k3=>?_;refine Ok.ite_beq (λ_=>?_) λ_=>?_
 ·exact Ok.call (zFr u) ⟨by omega,by omega⟩ λb v m1 m2 m3=>Ok.pure ⟨ha,m1.dq.bg (by omega)⟩
 ·refine Ok.bind (mut4q 100 (by omega) u a g1.dq (by omega) (by omega)) λq1 c1=>?_;obtain⟨n1,s1⟩:=q1;obtain⟨c1,c2,c3⟩:=c1;refine Ok.bind (mut4q (100+6) (by omega) s1 n1 c1 c2 (by dsimp only at c3;omega)) λq2 d1=>?_;obtain⟨n2,s2⟩:=q2;obtain⟨d1,d2,d3⟩:=d1;refine Ok.bind (mut4q (100+6+6) (by omega) s2 n2 d1 d2 (by dsimp only at c3 d3;omega)) λq3 e1=>?_;obtain⟨n3,s3⟩:=q3;exact Ok.pure ⟨ha,e1.1.bg (by omega)⟩
theorem zJk(code:List UInt8):∃r,mT code=some r/\r=true:=by
 obtain⟨⟨a,b⟩,hy,h1,h2⟩:=drawSame code;refine⟨true,?_,rfl⟩;unfold mT;by_cases hc:(code.length:Int)>1048576
 ·rw[decide_eq_true hc];rfl
 ·obtain⟨r,e1,q1⟩:=implPgY a b h1;obtain⟨s,e2,q2⟩:=specPgY a b h1;obtain⟨t,e3,q3⟩:=implPgY b a h2;obtain⟨u,e4,q4⟩:=implPgY a a h1;have hs:s=r:=eu.2 (q2.trans q1.symm);have ht:t=r:=eu.2 (q3.trans ((show b=a↔a=b from⟨Eq.symm,Eq.symm⟩).trans q1.symm));have hu:u=true:=q4.2 rfl;subst hs;subst ht;subst hu;simp only[decide_eq_false hc,hy,bF,if_false,oB,oS,e1,e2,e3,e4,implFP a h1,implFP b h2,bT,oP,bne_self_eq_false,bQ];cases va:validP a with
  | false=>rfl
  | true=>
   cases vb:validP b with
   | false=>
    have e5:(pgT a==[])=false:=by simpa using zIg a
    simp[e5]
   | true=>
    have e5:(pgT a==[])=false:=by simpa using zIg a
    have e6:(pgT b==[])=false:=by simpa using zIg b
    have e7:(pgT a==pgT b)=t:=by rw[eu,beq_iff_eq,zIh va vb];exact q1.symm
    simp[e5,e6,e7]
end Go.LN
