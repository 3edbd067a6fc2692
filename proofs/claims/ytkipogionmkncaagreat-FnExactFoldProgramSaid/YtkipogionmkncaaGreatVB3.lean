/- Helper of the proof (see the last text). -/
import Derived.Test.YtkipogionmkncaaGreatTD
set_option linter.unusedVariables false
set_option linter.unusedSimpArgs false
namespace Go.LN
def rngK:Nat->Int->List Int
 | 0,_=>[]
 | k+1,v=>v::rngK k (v+1)
def rng(lo hi:Int):List Int:=rngK (hi - lo).toNat lo
def wrk:List zL->List Int->Nat
 | [],_=>1
 | l::ls,p=>1+((rng (loF l p) (hiF l p)).map λv=>wrk ls (p++[v])).sum
def pts:List zL->List Int->List (List Int)
 | [],p=>[p]
 | l::ls,p=>(rng (loF l p) (hiF l p)).flatMap λv=>pts ls (p++[v])
def OL(x:zL):Prop:=OV x.Lo/\OV x.Hi
theorem zKd:∀(ls:List zL) (p:List Int),1<=wrk ls p
 | [],_=>cH _
 | _::_,_=>Nat.le_add_right ..
theorem zAY{b:Nat}(p:List Int)(h:p.length*b<=140737488355328):app b ([]:List Int) p=some p:=by
 rw[nE (by simpa using h)];rfl
theorem zFb{α:Type}{nest:List α}{n:Nat}{l:α}{ls:List α}(h:nest.drop n=l::ls):∃hn:n<nest.length,nest[n]=l/\nest.drop (n+1)=ls:=by
 have hn:n<nest.length:=by
  rcases dd n nest.length with h' | h'
  ·exact h'
  ·rw[dN.2 h'] at h;cases h
 rw[gC hn] at h;injection h with h1 h2;exact⟨hn,h1,h2⟩
theorem specWork:∀(ls nest:List zL) (p:List Int) (m:Nat),(∀x∈ls,OL x)->nest.drop p.length=ls->p.length+ls.length=nest.length->nest.length<=4->m<=1200->nQ nest p (m:Int)=some ((min (wrk ls p) (m+1):Nat):Int)
 | [],nest,p,m,hv,hd,hl,h4,hm=>by
  rw[nQ]
  have:((p.length:Int)==(nest.length:Int))=true:=by simp at hl;simp;omega
  simp only[this,if_true,wrk,id,oP]
  rw[show min 1 (m+1)=1 by omega];rfl
 | l::ls,nest,p,m,hv,hd,hl,h4,hm=>by
  rw[nQ]
  obtain⟨hn,hnl,hd'⟩:=zFb hd
  have hne:((p.length:Int)==(nest.length:Int))=false:=by simp;omega
  have hp4:p.length<=4:=by omega
  obtain⟨o1,o2⟩:=hv l (ci ..)
  simp only[hne,bF,if_false,xJ hn,hnl,oB,oS,specSpan l p hp4 o1 o2,same,oP]
  have hlo:=zHk p o1
  have hhi:=zHl p o2
  have key:∀(k:Nat) (n:Nat) (v:Int),(hiF l p - v).toNat=k->J64 v->n<=m+1->nX nest p (m:Int) (hiF l p) (n:Int) v=some ((min (n+((rngK k v).map λv=>wrk ls (p++[v])).sum) (m+1):Nat):Int):=by
   intro k
   induction k with
   | zero=>
    intro n v hk hv' hn'
    rw[nX]
    have:¬(v<hiF l p):=by omega
    simp only[this,dF,bF,if_false,oP,oB,oS,rngK,ee,List.sum_nil,id]
    congr 1;omega
   | succ k ih=>
    intro n v hk hv' hn'
    rw[nX]
    have aH:v<hiF l p:=by omega
    have aU:(p++[v]).length=p.length+1:=by simp
    by_cases ap:n<=m
    ·have h1:((n:Int)<=(m:Int)):=by omega
     have e1:W ((m:Int) - (n:Int))=((m - n:Nat):Int):=by rw[mG (by omega) (by omega)];omega
     have hw:=specWork ls nest (p++[v]) (m - n) (λx hx=>hv x (cd _ hx)) (by rw[aU];exact hd') (by rw[aU];simp only[cx] at hl;omega) h4 (by omega)
     have hpp:app 8 p [v]=some (p++[v]):=nE (by simp;omega)
     have hpn:app 8 ([]:List Int) p=some p:=zAY p (by omega)
     simp only[aH,h1,dT,if_true,oP,oB,oS,hpn,hpp,same,e1,hw]
     generalize hww:wrk ls (p++[v])=w at hw ⊢
     have e2:W ((n:Int)+((min w (m - n+1):Nat):Int))=((n+min w (m - n+1):Nat):Int):=by rw[mG (by omega) (by omega)];omega
     have e3:W (v+1)=v+1:=mG (by unfold J64 at hv';omega) (by unfold J64 at hhi;omega)
     rw[e2,e3,ih _ _ (by omega) (by unfold J64 at hv' hhi ⊢;omega) (by omega),rngK,cA,cY,hww]
     rw[show min (n+min w (m - n+1)+((rngK k (v+1)).map λv=>wrk ls (p++[v])).sum) (m+1)=min (n+(w+((rngK k (v+1)).map λv=>wrk ls (p++[v])).sum)) (m+1) by omega]
    ·have h1:¬((n:Int)<=(m:Int)):=by omega
     simp only[aH,h1,dT,dF,bF,if_false,if_true,oP,oB,oS,id]
     congr 1;omega
  have:=key _ 1 (loF l p) rfl hlo (by omega)
  rw[Int.natCast_one] at this
  rw[this]
  rfl
theorem zJa(a b:List (List Int))(n:Nat):((a.take n)++b).take n=(a++b).take n:=by
 rw[List.take_append,List.take_append,du,Nat.min_self,cv];rcases Nat.le_total a.length n with h|h
 ·rw[Nat.min_eq_right h]
 ·rw[Nat.min_eq_left h,Nat.sub_self,show n - a.length=0 by omega]
theorem specPts:∀(ls nest:List zL) (p:List Int) (out:List (List Int)),(∀x∈ls,OL x)->nest.drop p.length=ls->p.length+ls.length=nest.length->nest.length<=4->out.length<=120->pJ out nest p=some ((out++pts ls p).take 121)
 | [],nest,p,out,hv,hd,hl,h4,ho=>by
  rw[pJ]
  have:((p.length:Int)==(nest.length:Int))=true:=by simp at hl;simp;omega
  have hp4:p.length<=4:=by simp at hl;omega
  have happ:app 24 out [p]=some (out++[p]):=nE (by simp;omega)
  have hpn:app 8 ([]:List Int) p=some p:=zAY p (by omega)
  simp only[this,if_true,pts,id,oP,oB,oS,hpn,happ]
  rw[cT (by simp;omega)]
 | l::ls,nest,p,out,hv,hd,hl,h4,ho=>by
  rw[pJ]
  obtain⟨hn,hnl,hd'⟩:=zFb hd
  have hne:((p.length:Int)==(nest.length:Int))=false:=by simp;omega
  have hp4:p.length<=4:=by omega
  obtain⟨o1,o2⟩:=hv l (ci ..)
  simp only[hne,bF,if_false,xJ hn,hnl,oB,oS,specSpan l p hp4 o1 o2,same,oP]
  have hlo:=zHk p o1
  have hhi:=zHl p o2
  have key:∀(k:Nat) (out:List (List Int)) (v:Int),(hiF l p - v).toNat=k->J64 v->out.length<=121->pW nest p (hiF l p) out v=some ((out++(rngK k v).flatMap λv=>pts ls (p++[v])).take 121):=by
   intro k
   induction k with
   | zero=>
    intro out v hk hv' ho'
    rw[pW]
    have:¬(v<hiF l p):=by omega
    simp only[this,dF,bF,if_false,oP,oB,oS,rngK,ej,ce,id]
    rw[cT ho']
   | succ k ih=>
    intro out v hk hv' ho'
    rw[pW]
    have aH:v<hiF l p:=by omega
    have aU:(p++[v]).length=p.length+1:=by simp
    by_cases ap:out.length<=120
    ·have h1:((out.length:Int)<=120):=by omega
     have hw:=specPts ls nest (p++[v]) out (λx hx=>hv x (cd _ hx)) (by rw[aU];exact hd') (by rw[aU];simp only[cx] at hl;omega) h4 ap
     have hpp:app 8 p [v]=some (p++[v]):=nE (by simp;omega)
     have e3:W (v+1)=v+1:=mG (by unfold J64 at hv';omega) (by unfold J64 at hhi;omega)
     have hpn:app 8 ([]:List Int) p=some p:=zAY p (by omega)
     simp only[aH,h1,dT,if_true,oP,oB,oS,hpn,hpp,same,hw,e3]
     rw[ih _ _ (by omega) (by unfold J64 at hv' hhi ⊢;omega) (by rw[cv];omega),zJa,rngK,cg,bZ]
    ·have h1:¬((out.length:Int)<=120):=by omega
     simp only[aH,h1,dT,dF,bF,if_false,if_true,oP,oB,oS,id]
     rw[List.take_left' (by omega)]
  have:=key _ out (loF l p) rfl hlo (by omega)
  rw[this]
  rfl
theorem zDJ(p:List Int)(h:p.length<=1048576):wU p=some p:=zAY p (by omega)
theorem implWalk:∀(ls nest:List zL) (p:List Int) (steps:Nat) (out:List (List Int)),(∀x∈ls,OL x)->nest.drop p.length=ls->p.length+ls.length=nest.length->nest.length<=4->steps<=1199->out.length<=120 ->
 ∃r w,tF ⟨nest,(steps:Int),out⟩ p=some (r,w)/\(steps+wrk ls p<=1200/\out.length+(pts ls p).length<=120->r=true/\w=⟨nest,((steps+wrk ls p - 1:Nat):Int),out++pts ls p⟩)/\(¬(steps+wrk ls p<=1200/\out.length+(pts ls p).length<=120)->r=false)
 | [],nest,p,steps,out,hv,hd,hl,h4,hs,ho=>by
  rw[tF]
  have:((p.length:Int)==(nest.length:Int))=true:=by simp at hl;simp;omega
  have hp4:p.length<=4:=by simp at hl;omega
  have happ:app 24 out [p]=some (out++[p]):=nE (by simp;omega)
  simp only[this,if_true,oP,oB,oS,zDJ p (by omega),happ]
  refine⟨_,_,rfl,λh=>?_,λh=>?_⟩
  ·simp only[wrk,pts,List.length_singleton] at h ⊢
   refine⟨by simp;omega,?_⟩
   rw[show steps+1 - 1=steps by omega]
  ·simp only[wrk,pts,List.length_singleton] at h
   simp;omega
 | l::ls,nest,p,steps,out,hv,hd,hl,h4,hs,ho=>by
  rw[tF]
  obtain⟨hn,hnl,hd'⟩:=zFb hd
  have hne:((p.length:Int)==(nest.length:Int))=false:=by simp;omega
  have hp4:p.length<=4:=by omega
  obtain⟨o1,o2⟩:=hv l (ci ..)
  simp only[hne,bF,if_false,xJ hn,hnl,oB,oS,implSpan l p hp4 o1 o2,same,oP]
  have hlo:=zHk p o1
  have hhi:=zHl p o2
  have key:∀(k:Nat) (steps:Nat) (out:List (List Int)) (v:Int),(hiF l p - v).toNat=k->J64 v->steps<=1199->out.length<=120 ->
   ∃o,sI p (hiF l p) v nest (steps:Int) out=some o/\(steps+((rngK k v).map λv=>wrk ls (p++[v])).sum<=1199/\out.length+((rngK k v).flatMap λv=>pts ls (p++[v])).length<=120 ->
    o=.done (nest,((steps+((rngK k v).map λv=>wrk ls (p++[v])).sum:Nat):Int),out++(rngK k v).flatMap λv=>pts ls (p++[v])))/\(¬(steps+((rngK k v).map λv=>wrk ls (p++[v])).sum<=1199/\out.length+((rngK k v).flatMap λv=>pts ls (p++[v])).length<=120)->∃w,o=.ret (false,w)):=by
   intro k
   induction k with
   | zero=>
    intro steps out v hk hv' aj ho'
    rw[sI]
    have:¬(v<hiF l p):=by omega
    simp only[this,dF,bF,if_false,oP]
    simp only[rngK,ee,List.sum_nil,ej,ce,cm,Nat.add_zero]
    exact⟨_,rfl,λ_=>rfl,λh=>absurd ⟨aj,ho'⟩ h⟩
   | succ k ih=>
    intro steps out v hk hv' aj ho'
    rw[sI]
    have aH:v<hiF l p:=by omega
    have aU:(p++[v]).length=p.length+1:=by simp
    have e1:W ((steps:Int)+1)=((steps+1:Nat):Int):=rC (by omega)
    have e2:W (((steps+1:Nat):Int)+1)=((steps+2:Nat):Int):=rC (by omega)
    have e3:W (v+1)=v+1:=mG (by unfold J64 at hv';omega) (by unfold J64 at hhi;omega)
    have hpos:=zKd ls (p++[v])
    simp only[rngK,cA,cY,cg,lA]
    by_cases ap:steps+2>1200
    ·have h1:(((steps+2:Nat):Int)>1200):=by omega
     simp only[aH,e1,e2,h1,dT,if_true,oP,oB,oS]
     exact⟨_,rfl,λh=>absurd h.1 (by omega),λ_=>⟨_,rfl⟩⟩
    ·have h1:¬(((steps+2:Nat):Int)>1200):=by omega
     have hpp:app 8 p [v]=some (p++[v]):=nE (by simp;omega)
     obtain⟨r,w,hw,hc⟩:=implWalk ls nest (p++[v]) (steps+1) out (λx hx=>hv x (cd _ hx)) (by rw[aU];exact hd') (by rw[aU];simp only[cx] at hl;omega) h4 (by omega) ho'
     simp only[aH,e1,e2,h1,dT,dF,bF,if_false,if_true,oP,oB,oS,zDJ p (by omega),hpp,same,hw,e3]
     generalize hW:wrk ls (p++[v])=wv at hc hpos ⊢
     generalize hP:pts ls (p++[v])=pv at hc ⊢
     by_cases bP:steps+1+wv<=1200/\out.length+pv.length<=120
     ·obtain⟨rfl,rfl⟩:=hc.1 bP
      simp only[bT,bF,if_false]
      rw[show steps+1+wv - 1=steps+wv by omega]
      obtain⟨o,ho1,ho2⟩:=ih (steps+wv) (out++pv) (v+1) (by omega) (by unfold J64 at hv' hhi ⊢;omega) (by omega) (by rw[lA];omega)
      refine⟨o,ho1,?_⟩
      rw[lA,dr,dr,bZ] at ho2
      exact ho2
     ·obtain rfl:=hc.2 bP
      simp only[df,if_true]
      exact⟨_,rfl,λh=>absurd h (by omega),λ_=>⟨_,rfl⟩⟩
  obtain⟨o,ho1,ho2⟩:=key _ steps out (loF l p) rfl hlo (by omega) ho
  rw[ho1]
  simp only[wrk,pts,rng]
  by_cases hc:steps+((rngK (hiF l p - loF l p).toNat (loF l p)).map λv=>wrk ls (p++[v])).sum<=1199/\out.length+((rngK (hiF l p - loF l p).toNat (loF l p)).flatMap λv=>pts ls (p++[v])).length<=120
  ·obtain rfl:=ho2.1 hc
   refine⟨_,_,rfl,λ_=>⟨rfl,?_⟩,λh=>absurd ⟨by omega,hc.2⟩ h⟩
   rw[show steps+(1+((rngK (hiF l p - loF l p).toNat (loF l p)).map λv=>wrk ls (p++[v])).sum) - 1=steps+((rngK (hiF l p - loF l p).toNat (loF l p)).map λv=>wrk ls (p++[v])).sum by omega]
  ·obtain⟨w,rfl⟩:=ho2.2 hc
   exact⟨_,_,rfl,λh=>absurd ⟨by omega,h.2⟩ hc,λ_=>rfl⟩
def nestPts(nest:List zL):List (List Int)×Bool:=if nestB nest=true/\wrk nest []<=1200/\(pts nest []).length<=120 then(pts nest [],true) else([],false)
theorem zJL{l:List zC}{d:Int}(h:sideB l d=true):OV l:=by
 simp only[sideB,bA,decide_eq_true_eq] at h;obtain⟨⟨h1,h2⟩,h3⟩:=h;refine⟨by rintro rfl;simp at h1,by omega,λa ha=>?_⟩;have:=cb.1 h3 a ha;simp only[okA,validB,constB,bA,decide_eq_true_eq] at this;exact⟨this.1.1.1,by unfold J64;omega⟩
theorem zHm{nest:List zL}(h:nestB nest=true):nest.length<=4/\∀x∈nest,OL x:=by
 simp only[nestB,bA,decide_eq_true_eq] at h;refine⟨h.1,λx hx=>?_⟩;obtain⟨i,hi,rfl⟩:=dv.1 hx;have:=cb.1 h.2 i (cD.2 hi);rw[bA] at this;have hg:nest.getD i ⟨[],[]⟩=nest[i]:=by simp[hi]
 rw[hg] at this;exact⟨zJL this.1,zJL this.2⟩
theorem implPoints(nest:List zL)(h:BN nest):kZ nest=some (nestPts nest):=by
 unfold kZ nestPts;rw[implNest nest h];cases hb:nestB nest with
 | false=>simp
 | true=>
  obtain⟨h4,hv⟩:=zHm hb;obtain⟨r,w,hw,hc⟩:=implWalk nest nest [] 0 [] hv rfl (by simp) h4 (by omega) (by simp);rw[nZ] at hw;simp only[bT,bF,if_false,oB,oS,hw,true_and];simp only[cu,cm,cj] at hc;by_cases bP:wrk nest []<=1200/\(pts nest []).length<=120
  ·obtain⟨rfl,rfl⟩:=hc.1 bP;rw[if_pos bP];rfl
  ·obtain rfl:=hc.2 bP;rw[if_neg bP];rfl
theorem specPoints(nest:List zL)(h:BN nest):kX nest=some (nestPts nest):=by
 unfold kX nestPts;rw[specNest nest h];cases hb:nestB nest with
 | false=>simp
 | true=>
  obtain⟨h4,hv⟩:=zHm hb;have hw:=specWork nest nest [] 1200 hv rfl (by simp) h4 (by omega);have hp:=specPts nest nest [] [] hv rfl (by simp) h4 (by simp);rw[show ((1200:Nat):Int)=1200 from rfl] at hw;simp only[bT,bF,if_false,oB,oS,hw,hp,true_and,oP,cj];generalize wrk nest []=w;generalize pts nest []=P;by_cases h1:w<=1200
  ·have e:¬(((min w (1200+1):Nat):Int)>1200):=by omega
   simp only[e,dF,bF,if_false,h1,true_and,cv];by_cases h2:P.length<=120
   ·have e2:¬(((min 121 P.length:Nat):Int)>120):=by omega
    simp only[e2,h2,dF,bF,if_false,if_true];rw[cT (by omega)]
   ·have e2:(((min 121 P.length:Nat):Int)>120):=by omega
    simp only[e2,h2,dT,if_true,if_false]
  ·have e:(((min w (1200+1):Nat):Int)>1200):=by omega
   simp only[e,dT,if_true,h1,false_and,if_false]
def nameL:List UInt8->Bool
 | [c]=>decide (65<=c.toNat)&&decide (c.toNat<=68)
 | _=>false
theorem zKI{P:UInt8->Prop}(h:∀n:Fin 256,P (UInt8.ofNat n.val))(c:UInt8):P c:=by
 have:=h ⟨c.toNat,c.toNat_lt⟩;simpa using this
theorem zKe(c:UInt8):decide (0<=Lib.indexByte [65,66,67,68] c)=nameL [c]:=
 zKI (P:=λc=>decide (0<=Lib.indexByte [65,66,67,68] c)=nameL [c]) (by decide +kernel) c
theorem zKf(c:UInt8):(!(Op.bytesLess [c] [65])&&(Op.bytesLess [c] [68]||[c]==[68]))=nameL [c]:=
 zKI (P:=λc=>(!(Op.bytesLess [c] [65])&&(Op.bytesLess [c] [68]||[c]==[68]))=nameL [c]) (by decide +kernel) c
theorem implIsArray(s:Str):jO s=some (nameL s.l):=by
 obtain⟨l⟩:=s;unfold jO
 match l with
 | []=>rfl
 | [c]=>
  have:gL ⟨[65,66,67,68]⟩ ⟨[c]⟩=some (decide (0<=Lib.indexByte [65,66,67,68] c)):=rfl;simp only[this,zKe];rfl
 | c::d::r=>
  have:(((c::d::r).length:Int)==1)=false:=by simp;omega
  simp only[this,bF,if_false];rfl
def BR(l:List zI):Prop:=l.length<=1048576/\∀a∈l,a.Dims.length<=1048576
def dimB(n:Int):Bool:=decide (1<=n)&&decide (n<=6)
def arrI(l:List zI)(i:Nat):Bool:=
 nameL (l.getD i ⟨⟨[]⟩,[]⟩).Name.l&&(decide (i=0)||Op.bytesLess (l.getD (i - 1) ⟨⟨[]⟩,[]⟩).Name.l (l.getD i ⟨⟨[]⟩,[]⟩).Name.l)&&(decide (1<=(l.getD i ⟨⟨[]⟩,[]⟩).Dims.length)&&decide ((l.getD i ⟨⟨[]⟩,[]⟩).Dims.length<=2))&&(l.getD i ⟨⟨[]⟩,[]⟩).Dims.all dimB
def arrB(l:List zI):Bool:=decide (l.length<=4)&&(List.range l.length).all (arrI l)
theorem implDims(d:List Int)(h:d.length<=1048576):xG d uN=some (!(d.all dimB)):=by
 rw[zDI (p:=λx=>!(dimB x)) d (λx _=>by unfold uN;rw[oI];rfl) (by omega)]
 congr 1
 rw[Bool.eq_iff_iff];simp
theorem len12(n:Nat):(decide ((1:Int)<=(n:Int))&&decide ((n:Int)<=2))=(decide (1<=n)&&decide (n<=2)):=by
 have e1:decide ((1:Int)<=(n:Int))=decide (1<=n):=by simp;omega
 have e2:decide ((n:Int)<=2)=decide (n<=2):=by simp;omega
 rw[e1,e2]
theorem implArrays(l:List zI)(h:BR l):gU l=some (arrB l):=by
 unfold gU arrB;have aU:=h.1;have hl:=zAL (n:=l.length) (f:=rO l) (P:=arrI l) (λi hi=>by
  rw[rO];have h1:((i:Int)<(l.length:Int)):=by omega
  have ha:=h.2 _ (gM hi);have hg:l.getD i ⟨⟨[]⟩,[]⟩=l[i]:=by simp[hi]
  simp only[h1,dT,if_true,xJ hi,oB,oS,implIsArray,arrI,hg];rw[rC (by omega)];cases hn:nameL l[i].Name.l with
  | false=>simp
  | true=>
   have hwd:wH (l[i].Dims.length:Int) 1 2=some (decide (1<=l[i].Dims.length)&&decide (l[i].Dims.length<=2)):=by rw[oI,len12]
   by_cases h0:i=0
   ·subst h0;have hz:¬(((0:Nat):Int)>0):=by omega
    simp only[hz,dF,dT,bF,if_false,bT,hwd,oS,Bool.true_or,cq,oP,implDims _ ha,id];cases (decide (1<=l[0].Dims.length)&&decide (l[0].Dims.length<=2)) with
    | false=>simp
    | true=>cases l[0].Dims.all dimB <;> simp
   ·have hz:((i:Int)>0):=by omega
    have hW:W ((i:Int) - 1)=((i - 1:Nat):Int):=by rw[mG (by omega) (by omega)];omega
    have hi1:i - 1<l.length:=by omega
    have hg1:l.getD (i - 1) ⟨⟨[]⟩,[]⟩=l[i - 1]:=by simp[hi1]
    simp only[hz,h0,hW,xJ hi1,hg1,dF,dT,bF,if_false,if_true,bT,hwd,oS,en,cq,oP,implDims _ ha,id];cases Op.bytesLess l[i - 1].Name.l l[i].Name.l with
    | false=>simp
    | true=>
     cases (decide (1<=l[i].Dims.length)&&decide (l[i].Dims.length<=2)) with
     | false=>simp
     | true=>cases l[i].Dims.all dimB <;> simp) (by
  rw[rO];simp)
 rw[hl];have e2:decide ((l.length:Int)<=4)=decide (l.length<=4):=by simp;omega
 cases hb:(List.range l.length).all (arrI l) with
 | false=>simp
 | true=>simp[e2]
theorem specDims(x:zI)(h:x.Dims.length<=1048576):tT x 0=some (if x.Dims.all dimB then .done () else .ret false):=by
 have hl:=zAL (n:=x.Dims.length) (f:=tT x) (P:=λi=>dimB (x.Dims.getD i 0)) (λi hi=>by
  rw[tT];have h1:((i:Int)<(x.Dims.length:Int)):=by omega
  have hg:x.Dims.getD i 0=x.Dims[i]:=by simp[hi]
  simp only[h1,dT,if_true,xJ hi,oB,oS,hg,dimB];rw[rC (by omega)];by_cases k1:x.Dims[i]<1
  ·have:¬(1<=x.Dims[i]):=by omega
   simp[k1,this]
  ·have:(1<=x.Dims[i]):=by omega
   by_cases k2:x.Dims[i]>6
   ·have:¬(x.Dims[i]<=6):=by omega
    simp[k1,k2,this]
   ·have k3:(x.Dims[i]<=6):=by omega
    simp[k1,k2,this,k3]) (by
  rw[tT];simp)
 rw[hl,zAU x.Dims dimB]
theorem zJb(n:Nat):(if decide ((n:Int)<1)=true then some true else some (decide ((n:Int)>2)))=some (!(decide (1<=n)&&decide (n<=2))):=by
 by_cases h1:n<1
 ·have k1:((n:Int)<1):=by omega
  have k2:¬(1<=n):=by omega
  simp[k1,k2]
 ·have k1:¬((n:Int)<1):=by omega
  have k2:(1<=n):=by omega
  by_cases h2:n<=2
  ·have k3:¬((n:Int)>2):=by omega
   simp[k1,k2,k3,h2]
  ·have k3:((n:Int)>2):=by omega
   simp[k1,k2,k3,h2]
theorem zFe(l:List UInt8):(nameL l=false/\((l.length:Int) != 1)=true)∨(((l.length:Int) != 1)=false/\nameL l=(!(Op.bytesLess l [65])&&(Op.bytesLess l [68]||l==[68]))):=by
 match l with
 | []=>exact .inl ⟨rfl,rfl⟩
 | [c]=>exact .inr ⟨rfl,(zKf c).symm⟩
 | c::d::r=>exact .inl ⟨rfl,by simp;omega⟩
theorem specArrays(l:List zI)(h:BR l):gT l=some (arrB l):=by
 unfold gT arrB;have aU:=h.1;have hl:=zAL (n:=l.length) (f:=rK l) (P:=arrI l) (λi hi=>by
  rw[rK];have h1:((i:Int)<(l.length:Int)):=by omega
  have ha:=h.2 _ (gM hi);have hg:l.getD i ⟨⟨[]⟩,[]⟩=l[i]:=by simp[hi]
  simp only[h1,dT,if_true,xJ hi,oB,oS,arrI,hg,oP,zJb,specDims _ ha];rw[rC (by omega)];rcases zFe l[i].Name.l with⟨n1,n2⟩|⟨n1,n2⟩
  ·simp[n1,n2]
  ·simp only[n1,n2,bF,if_false];cases k1:Op.bytesLess l[i].Name.l [65] with
   | true=>simp
   | false=>
    cases k2:(Op.bytesLess l[i].Name.l [68]||l[i].Name.l==[68]) with
    | false=>simp
    | true=>
     by_cases h0:i=0
     ·subst h0;have hz:¬(((0:Nat):Int)>0):=by omega
      simp only[hz,dF,dT,bF,if_false,bT,df,oS,Bool.true_or,cq,Bool.and_self];cases (decide (1<=l[0].Dims.length)&&decide (l[0].Dims.length<=2)) with
      | false=>simp
      | true=>cases l[0].Dims.all dimB <;> simp
     ·have hz:((i:Int)>0):=by omega
      have hW:W ((i:Int) - 1)=((i - 1:Nat):Int):=by rw[mG (by omega) (by omega)];omega
      have hi1:i - 1<l.length:=by omega
      have hg1:l.getD (i - 1) ⟨⟨[]⟩,[]⟩=l[i - 1]:=by simp[hi1]
      simp only[hz,h0,hW,xJ hi1,hg1,dF,dT,bF,if_false,if_true,bT,df,oS,en,cq,Bool.and_self];cases Op.bytesLess l[i - 1].Name.l l[i].Name.l with
      | false=>simp
      | true=>
       cases (decide (1<=l[i].Dims.length)&&decide (l[i].Dims.length<=2)) with
       | false=>simp
       | true=>cases l[i].Dims.all dimB <;> simp) (by
  rw[rK];simp)
 rw[hl];have e2:decide ((l.length:Int)<=4)=decide (l.length<=4):=by simp;omega
 cases hb:(List.range l.length).all (arrI l) with
 | false=>simp
 | true=>simp[e2]
def accB(a:zK)(d:Int):Bool:=nameL a.Array.l&&(decide (1<=a.Subs.length)&&decide (a.Subs.length<=2))&&a.Subs.all (okA d)
theorem implAcc1(a:zC)(h:BA a)(d:Int):qT a d=some (!(okA d a)):=implBound a h d
theorem implAccess(a:zK)(h:BL a.Subs)(d:Int):kG a d=some (accB a d):=by
 unfold kG accB;rw[implIsArray,oI,len12];have hc:=zFI (f:=λx0=>qT x0 d) (p:=λx=>!(okA d x)) a.Subs (λx hx=>implAcc1 x (h.2 x hx) d) (by have:=h.1;omega);cases nameL a.Array.l with
 | false=>rfl
 | true=>
  cases hb:(decide (1<=a.Subs.length)&&decide (a.Subs.length<=2)) with
  | false=>rfl
  | true=>
   simp only[oB,oS,if_true,hc,oP,id,cq];rw[dn];simp
theorem specAccess(a:zK)(h:BL a.Subs)(d:Int):mZ a d=some (accB a d):=by
 unfold mZ accB;have aU:=h.1;have hl:=zAL (n:=a.Subs.length) (f:=rM a d) (P:=λi=>okA d (a.Subs.getD i ⟨[],0⟩)) (λi hi=>by
  rw[rM];have h1:((i:Int)<(a.Subs.length:Int)):=by omega
  have ha:a.Subs[i].Coefs.length<=1048576:=by have:=h.2 _ (gM hi);unfold BA at this;omega
  have hg:a.Subs.getD i ⟨[],0⟩=a.Subs[i]:=by simp[hi]
  simp only[h1,dT,if_true,xJ hi,oB,oS,specValid _ ha,specDepth _ ha,hg,okA];rw[rC (by omega)];cases validB a.Subs[i] with
  | false=>rfl
  | true=>
   by_cases hd:(depF a.Subs[i]:Int)<=d
   ·have:¬((depF a.Subs[i]:Int)>d):=by omega
    simp[hd,this]
   ·have:((depF a.Subs[i]:Int)>d):=by omega
    simp[hd,this]) (by
  rw[rM];simp)
 rw[hl,zAU a.Subs (okA d)];cases hb:a.Subs.all (okA d) with
 | false=>simp
 | true=>
  simp only[if_true,oB,oS,Bool.and_true];rcases zFe a.Array.l with⟨n1,n2⟩|⟨n1,n2⟩
  ·have:((a.Array.l.length:Int)==1)=false:=by simpa [bne] using n2
   simp[n1,this]
  ·have:((a.Array.l.length:Int)==1)=true:=by simpa [bne] using n1
   simp only[this,if_true,n2];cases Op.bytesLess a.Array.l [65] with
   | true=>simp
   | false=>
    cases (Op.bytesLess a.Array.l [68]||a.Array.l==[68]) with
    | false=>simp
    | true=>
     by_cases e1:1<=a.Subs.length
     ·have:((a.Subs.length:Int)>=1):=by omega
      have e2:decide ((a.Subs.length:Int)<=2)=decide (a.Subs.length<=2):=by simp;omega
      simp[this,e1,e2]
     ·have:¬((a.Subs.length:Int)>=1):=by omega
      simp[this,e1]
def noA(a:zC):Bool:=decide (a.Coefs.length=0)&&(a.Const==0)
def noC(a:zK):Bool:=(a.Array.l==[])&&decide (a.Subs.length=0)
theorem len0(n:Nat):((n:Int)==0)=decide (n=0):=by
 by_cases h:n=0
 ·simp[h]
 ·have:¬(n:Int)=0:=by omega
  simp[h]
theorem implNoA(a:zC):kH a=some (noA a):=by
 unfold kH noA;rw[len0];by_cases h:a.Coefs.length=0 <;> simp[h]
theorem specNoA(a:zC):jE a=some (noA a):=by
 unfold jE noA;rw[len0];by_cases h:a.Coefs.length=0 <;> simp[h]
theorem implNoC(a:zK):pL a=some (noC a):=by
 unfold pL noC;rw[len0];cases h:(a.Array.l==[]) <;> simp
theorem specNoC(a:zK):mH a=some (noC a):=by
 unfold mH noC;rw[len0];cases h:(a.Array.l==[]) <;> simp
def BE:Nat->zD->Prop
 | 0,e=>BA e.Index/\BL e.Read.Subs/\e.Kids=[]
 | n+1,e=>BA e.Index/\BL e.Read.Subs/\e.Kids.length<=1048576/\∀k∈e.Kids,BE n k
theorem BE.own{n:Nat}{e:zD}(h:BE n e):BA e.Index/\BL e.Read.Subs/\e.Kids.length<=1048576:=by
 cases n with
 | zero=>obtain⟨h1,h2,h3⟩:=h;exact⟨h1,h2,by simp[h3]⟩
 | succ n=>exact⟨h.1,h.2.1,h.2.2.1⟩
theorem BE.kid{n:Nat}{e k:zD}(h:BE n e)(hk:k∈e.Kids):∃m,n=m+1/\BE m k:=by
 cases n with
 | zero=>obtain⟨_,_,h3⟩:=h;rw[h3] at hk;cases hk
 | succ n=>exact⟨n,rfl,h.2.2.2 k hk⟩
def kidsN(k:Int):Int:=if k=1∨k=2∨k=3 then 0 else if k=4∨k=5∨k=6 then 2 else -1
def ownB(e:zD)(d:Int):Bool:=
 if e.Kind=2 then(e.Num==0)&&noC e.Read&&okA d e.Index
 else if e.Kind=3 then(e.Num==0)&&noA e.Index&&accB e.Read d
 else if e.Kind=1 then(decide (0<=e.Num)&&decide (e.Num<=99))&&noA e.Index&&noC e.Read
 else(e.Num==0)&&noA e.Index&&noC e.Read
theorem specKids(k:Int):dB k=some (kidsN k):=by
 unfold dB kidsN;by_cases h1:k=1
 ·subst h1;rfl
 ·by_cases h2:k=2
  ·subst h2;rfl
  ·by_cases h3:k=3
   ·subst h3;rfl
   ·by_cases h4:k=4
    ·subst h4;rfl
    ·by_cases h5:k=5
     ·subst h5;rfl
     ·by_cases h6:k=6
      ·subst h6;rfl
      ·simp[h1,h2,h3,h4,h5,h6]
theorem zKJ(a:zC)(d:Int):okA d a=(validB a&&decide ((depF a:Int)<=d)):=rfl
theorem specOwn(e:zD)(d:Int)(h1:BA e.Index)(h2:BL e.Read.Subs):zAC e d=some (ownB e d):=by
 unfold zAC ownB;have h':e.Index.Coefs.length<=1048576:=by unfold BA at h1;omega
 simp only[specNoC,specNoA,specValid _ h',specDepth _ h',specAccess _ h2,oB,oS,oP,id];by_cases k2:e.Kind=2
 ·have:(e.Kind==2)=true:=by simpa using k2
  simp only[this,if_true,k2];cases (e.Num==0) with
  | false=>simp
  | true=>
   cases noC e.Read with
   | false=>simp
   | true=>rw[zKJ];cases validB e.Index <;> simp
 ·have q2:(e.Kind==2)=false:=by simpa using k2
  by_cases k3:e.Kind=3
  ·have:(e.Kind==3)=true:=by simpa using k3
   simp only[q2,k2,this,if_true,k3,bF,if_false];cases (e.Num==0) with
   | false=>simp
   | true=>cases noA e.Index <;> simp
  ·have q3:(e.Kind==3)=false:=by simpa using k3
   by_cases k1:e.Kind=1
   ·have:(e.Kind==1)=true:=by simpa using k1
    simp only[q2,k2,q3,k3,this,if_true,k1,bF,if_false];by_cases n0:0<=e.Num
    ·have n0':e.Num>=0:=n0;by_cases n9:e.Num<=99
     ·simp only[n0,n0',n9,dT,if_true,cq];cases noA e.Index <;> simp
     ·simp[n0,n0',n9]
    ·have n0':¬e.Num>=0:=n0;simp[n0,n0']
   ·have q1:(e.Kind==1)=false:=by simpa using k1
    simp only[q2,k2,q3,k3,q1,k1,bF,if_false];cases (e.Num==0) with
    | false=>simp
    | true=>cases noA e.Index <;> simp
def shapeB(d:Int):Nat->zD->Bool
 | 0,_=>false
 | n+1,e=>(kidsN e.Kind==(e.Kids.length:Int))&&ownB e d&&e.Kids.all (shapeB d n)
def cnt:Nat->zD->Nat
 | 0,_=>1
 | n+1,e=>1+(e.Kids.map (cnt n)).sum
theorem specShape(d:Int):∀(n m:Nat) (e:zD),n<=100->BE m e->oU e d (n:Int)=some (shapeB d n e)
 | 0,m,e,hn,hb=>by
  rw[oU]
  rfl
 | n+1,m,e,hn,hb=>by
  rw[oU]
  obtain⟨b1,b2,b3⟩:=hb.own
  have h1:¬(((n+1:Nat):Int)<1):=by omega
  have hW:W (((n+1:Nat):Int) - 1)=(n:Int):=by rw[mG (by omega) (by omega)];omega
  have hl:=zAL (n:=e.Kids.length) (f:=oX e d ((n+1:Nat):Int)) (P:=λi=>shapeB d n (e.Kids.getD i e)) (λi hi=>by
   rw[oX]
   have k1:((i:Int)<(e.Kids.length:Int)):=by omega
   have hg:e.Kids.getD i e=e.Kids[i]:=by simp[hi]
   obtain⟨m',_,hm'⟩:=hb.kid (gM hi)
   simp only[k1,dT,if_true,xJ hi,oB,oS,same,hW,specShape d n m' _ (by omega) hm',hg]
   rw[rC (by omega)]
   cases shapeB d n e.Kids[i] <;> rfl) (by
   rw[oX];simp)
  simp only[h1,dF,bF,if_false,oB,oS,specKids,specOwn e d b1 b2,shapeB,same,hl,zAU e.Kids (shapeB d n)]
  cases hk:(kidsN e.Kind==(e.Kids.length:Int)) with
  | false=>
   have:(kidsN e.Kind != (e.Kids.length:Int))=true:=by simp[bne,hk]
   simp[this]
  | true=>
   have:(kidsN e.Kind != (e.Kids.length:Int))=false:=by simp[bne,hk]
   simp only[this,bF,if_false,oP,oS,cq]
   cases ownB e d with
   | false=>simp
   | true=>cases e.Kids.all (shapeB d n) <;> simp
theorem nF{d:Int}{n:Nat}{e:zD}(h:shapeB d (n+1) e=true):(e.Kids=[]∨∃a b,e.Kids=[a,b])/\∀k∈e.Kids,shapeB d n k=true:=by
 simp only[shapeB,bA] at h;refine⟨?_,cb.1 h.2⟩;have:=eq_of_beq h.1.1;unfold kidsN at this
 match hk:e.Kids with
 | []=>exact .inl rfl
 | [a]=>rw[hk] at this;simp at this;split at this <;> (try split at this) <;> omega
 | [a,b]=>exact .inr ⟨a,b,rfl⟩
 | a::b::c::r=>rw[hk] at this;simp at this;split at this <;> (try split at this) <;> omega
theorem zIs{d:Int}:∀(n:Nat) (e:zD),shapeB d n e=true->cnt n e+1<=2 ^ n
 | 0,e,h=>by cases h
 | n+1,e,h=>by
  obtain⟨h1,h2⟩:=nF h
  rw[cnt,Nat.pow_succ]
  rcases h1 with hk|⟨a,b,hk⟩
  ·rw[hk]
   have:=Nat.one_le_two_pow (n:=n)
   simp;omega
  ·rw[hk] at h2 ⊢
   have ha:=zIs n a (h2 a (by simp))
   have hb:=zIs n b (h2 b (by simp))
   simp only[cA,ee,cY,List.sum_nil]
   omega
theorem specCount(d:Int):∀(n m:Nat) (e:zD),shapeB d n e=true->n<=m->n<=10->m<=100->mI e (m:Int)=some ((cnt n e:Nat):Int)
 | 0,m,e,h,_,_,_=>by cases h
 | n+1,m,e,h,hm,h10,h100=>by
  have hc:=zIs (n+1) e h
  have hpw:2 ^ (n+1)<=2 ^ 10:=Nat.pow_le_pow_right (by omega) h10
  obtain⟨h1,h2⟩:=nF h
  have hpos:((m:Int)>0):=by omega
  have hW:W ((m:Int) - 1)=((m - 1:Nat):Int):=by rw[mG (by omega) (by omega)];omega
  rw[mI]
  simp only[same,cnt] at hc ⊢
  rcases h1 with hk|⟨a,b,hk⟩
  ·rw[qM]
   simp[hk]
  ·rw[hk] at h2 hc ⊢
   have ha:=specCount d n (m - 1) a (h2 a (by simp)) (by omega) (by omega) (by omega)
   have hb:=specCount d n (m - 1) b (h2 b (by simp)) (by omega) (by omega) (by omega)
   simp only[cA,ee,cY,List.sum_nil] at hc ⊢
   have l0:((0:Int)<(e.Kids.length:Int)):=by rw[hk];simp
   have l1:((1:Int)<(e.Kids.length:Int)):=by rw[hk];simp
   have l2:¬((2:Int)<(e.Kids.length:Int)):=by rw[hk];simp
   have i0:idx e.Kids 0=some a:=by rw[hk];rfl
   have i1:idx e.Kids 1=some b:=by rw[hk];rfl
   have w0:W ((0:Int)+1)=1:=by rw[mG (by omega) (by omega)];rfl
   have w1:W ((1:Int)+1)=2:=by rw[mG (by omega) (by omega)];rfl
   rw[qM]
   simp only[l0,hpos,dT,if_true,oP,oB,oS,i0,same,hW,ha,w0]
   rw[qM]
   simp only[l1,hpos,dT,if_true,oP,oB,oS,i1,same,hW,hb,w1]
   rw[qM]
   simp only[l2,dF,bF,if_false,oP,oB,oS,id]
   generalize cnt n a=x at hc ⊢
   generalize cnt n b=y at hc ⊢
   have e1:W ((1:Int)+(x:Int))=((1+x:Nat):Int):=by rw[mG (by omega) (by omega)];omega
   have e2:W (((1+x:Nat):Int)+(y:Int))=((1+x+y:Nat):Int):=by rw[mG (by omega) (by omega)];omega
   rw[e1,e2]
   congr 2
   omega
def headB(e:zD)(d:Int):Bool:=(kidsN e.Kind==(e.Kids.length:Int))&&ownB e d
theorem zJc(e:zD)(d deep c:Int)(h1:BA e.Index)(h2:BL e.Read.Subs)(hc:¬(W (c+1)>12))(hd:¬(deep>5)):
 uG e d deep c=if headB e d=true then(if e.Kids.length=0 then some (true,W (c+1)) else(do
  let x1<-idx e.Kids 0
  let (y12,y13)<-uG x1 d (W (deep+1)) (W (c+1))
  if y12 then
   let x2<-idx e.Kids 1
   let (y15,y16)<-uG x2 d (W (deep+1)) y13
   pure (y15,y16)
  else
   pure (false,y13))) else some (false,W (c+1)):=by
 have h':e.Index.Coefs.length<=1048576:=by unfold BA at h1;omega
 have hop:nR e.Kind=some (decide (4<=e.Kind)&&decide (e.Kind<=6)):=by unfold nR;rw[oI];rfl
 rw[uG]
 simp only[hc,hd,dF,bF,if_false,oP,oB,oS,implNoA,implNoC,implValid _ h',implDepth _ h',implAccess _ h2,hop,oI,len0,same,headB,ownB]
 by_cases k1:e.Kind=1
 ·have hk:kidsN e.Kind=0:=by rw[k1];rfl
  have b1:(e.Kind != 1)=false:=by simp[k1]
  have b1':(e.Kind==1)=true:=by simp[k1]
  have b2:(e.Kind != 2)=true:=by simp[k1]
  have b3:(e.Kind != 3)=true:=by simp[k1]
  have n2:¬e.Kind=2:=by omega
  have n3:¬e.Kind=3:=by omega
  have hz:((0:Int)==(e.Kids.length:Int))=decide (e.Kids.length=0):=by rw[<- len0];exact Bool.beq_comm
  simp only[b1,b1',b2,b3,hk,hz,n2,n3,k1,show kidsN 1=0 from rfl,if_true,if_false,bF]
  cases noA e.Index <;> cases noC e.Read <;> cases (decide (0<=e.Num)&&decide (e.Num<=99)) <;> by_cases hl:e.Kids.length=0 <;> simp[hl]
 ·have b1:(e.Kind != 1)=true:=by simp[k1]
  have b1':(e.Kind==1)=false:=by simp[k1]
  by_cases k2:e.Kind=2
  ·have hk:kidsN e.Kind=0:=by rw[k2];rfl
   have b2:(e.Kind != 2)=false:=by simp[k2]
   have b2':(e.Kind==2)=true:=by simp[k2]
   have b3:(e.Kind != 3)=true:=by simp[k2]
   have hz:((0:Int)==(e.Kids.length:Int))=decide (e.Kids.length=0):=by rw[<- len0];exact Bool.beq_comm
   simp only[b1,b1',b2,b2',b3,hk,hz,k2,show kidsN 2=0 from rfl,if_true,if_false,bF,zKJ,bne]
   cases (e.Num==0) <;> cases noC e.Read <;> cases validB e.Index <;> by_cases hdd:(depF e.Index:Int)<=d <;> by_cases hl:e.Kids.length=0 <;> simp[hl,hdd]
  ·have b2:(e.Kind != 2)=true:=by simp[k2]
   have b2':(e.Kind==2)=false:=by simp[k2]
   by_cases k3:e.Kind=3
   ·have hk:kidsN e.Kind=0:=by rw[k3];rfl
    have b3:(e.Kind != 3)=false:=by simp[k3]
    have b3':(e.Kind==3)=true:=by simp[k3]
    have hz:((0:Int)==(e.Kids.length:Int))=decide (e.Kids.length=0):=by rw[<- len0];exact Bool.beq_comm
    simp only[b1,b1',b2,b2',b3,b3',hk,hz,k3,k2,show kidsN 3=0 from rfl,if_true,if_false,bF,bne]
    cases (e.Num==0) <;> cases noA e.Index <;> cases accB e.Read d <;> by_cases hl:e.Kids.length=0 <;> simp[hl]
   ·have b3:(e.Kind != 3)=true:=by simp[k3]
    have b3':(e.Kind==3)=false:=by simp[k3]
    simp only[b1,b1',b2,b2',b3,b3',k1,k2,k3,if_true,if_false,bF,bne]
    by_cases ho:4<=e.Kind/\e.Kind<=6
    ·have hk:kidsN e.Kind=2:=by unfold kidsN;rw[if_neg (by omega),if_pos (by omega)]
     have hz:((2:Int)==(e.Kids.length:Int))=decide (e.Kids.length=2):=by
      by_cases hl:e.Kids.length=2
      ·simp[hl]
      ·have:¬(2:Int)=(e.Kids.length:Int):=by omega
       simp[hl,this]
     have hz':((e.Kids.length:Int)==2)=decide (e.Kids.length=2):=by rw[<- hz];exact Bool.beq_comm
     simp only[hk,hz,hz',ho.1,ho.2,dT,cq]
     have eta:∀(o:Option (Bool×Int)),(o.bind λx=>some (x.fst,x.snd))=o:=by rintro(_|⟨a,b⟩) <;> rfl
     cases (e.Num==0) <;> cases noA e.Index <;> cases noC e.Read <;> by_cases hl:e.Kids.length=2 <;> first|(simp[hl];done)|(simp[hl];exact eta _)
    ·have hk:kidsN e.Kind=-1:=by unfold kidsN;rw[if_neg (by omega),if_neg (by omega)]
     have hz:((-1:Int)==(e.Kids.length:Int))=false:=beq_false_of_ne (by omega)
     have ho':(decide (4<=e.Kind)&&decide (e.Kind<=6))=false:=by
      rw[Bool.and_eq_false_iff];simp;omega
     simp only[hk,hz,ho']
     cases (e.Num==0) <;> cases noA e.Index <;> cases noC e.Read <;> simp
theorem implScan(d:Int):∀(L m:Nat) (e:zD) (c:Nat),L<=5->BE m e->c<=12->∃r c',uG e d (6 - (L:Int)) (c:Int)=some (r,c')/\(shapeB d L e=true/\c+cnt L e<=12->r=true/\c'=((c+cnt L e:Nat):Int))/\(¬(shapeB d L e=true/\c+cnt L e<=12)->r=false)
 | 0,m,e,c,hL,hb,hc=>by
  have hw:W ((c:Int)+1)=((c+1:Nat):Int):=rC (by omega)
  rw[uG]
  have hd:((6:Int) - ((0:Nat):Int)>5):=by omega
  simp only[hd,dT,oP]
  refine⟨false,W ((c:Int)+1),?_,⟨λh=>(by cases h.1),λ_=>rfl⟩⟩
  by_cases h:W ((c:Int)+1)>12 <;> simp[h]
 | L+1,m,e,c,hL,hb,hc=>by
  have hw:W ((c:Int)+1)=((c+1:Nat):Int):=rC (by omega)
  obtain⟨b1,b2,b3⟩:=hb.own
  have hd:¬((6:Int) - ((L+1:Nat):Int)>5):=by omega
  have hdw:W ((6:Int) - ((L+1:Nat):Int)+1)=6 - (L:Int):=by rw[mG (by omega) (by omega)];omega
  have hcp:1<=cnt (L+1) e:=by rw[cnt];omega
  by_cases hc12:c+1>12
  ·rw[uG]
   have h12:(W ((c:Int)+1)>12):=by rw[hw];omega
   simp only[h12,dT,if_true,oP,oB,oS]
   exact⟨false,_,rfl,λh=>absurd h.2 (by omega),λ_=>rfl⟩
  ·have h12:¬(W ((c:Int)+1)>12):=by rw[hw];omega
   rw[zJc e d _ _ b1 b2 h12 hd]
   by_cases hh:headB e d=true
   ·rw[if_pos hh]
    have hsh:shapeB d (L+1) e=e.Kids.all (shapeB d L):=by
     unfold headB at hh
     rw[shapeB,hh,cq]
    by_cases hl:e.Kids.length=0
    ·rw[if_pos hl]
     have hn:e.Kids=[]:=dq.1 hl
     refine⟨true,_,rfl,λ_=>⟨rfl,?_⟩,λh=>absurd ⟨by rw[hsh,hn];rfl,by rw[cnt,hn];simp;omega⟩ h⟩
     rw[hw,cnt,hn];rfl
    ·rw[if_neg hl]
     have hkn:∃a b,e.Kids=[a,b]:=by
      simp only[headB,bA] at hh
      have:=eq_of_beq hh.1
      unfold kidsN at this
      match hk:e.Kids with
      | []=>rw[hk] at hl;simp at hl
      | [a]=>rw[hk] at this;simp at this;split at this <;> (try split at this) <;> omega
      | [a,b]=>exact⟨a,b,rfl⟩
      | a::b::c::r=>rw[hk] at this;simp at this;split at this <;> (try split at this) <;> omega
     obtain⟨a,b,hk⟩:=hkn
     obtain⟨m1,_,hba⟩:=hb.kid (k:=a) (by rw[hk];simp)
     obtain⟨m2,_,hbb⟩:=hb.kid (k:=b) (by rw[hk];simp)
     have i0:idx e.Kids 0=some a:=by rw[hk];rfl
     have i1:idx e.Kids 1=some b:=by rw[hk];rfl
     have hcnt:cnt (L+1) e=1+(cnt L a+cnt L b):=by rw[cnt,hk];simp
     have hsh2:shapeB d (L+1) e=(shapeB d L a&&shapeB d L b):=by rw[hsh,hk];simp
     rw[hdw,hw]
     obtain⟨r1,c1,e1,k1,k2⟩:=implScan d L m1 a (c+1) (by omega) hba (by omega)
     simp only[i0,i1,e1,oB,oS,oP]
     by_cases q1:shapeB d L a=true/\c+1+cnt L a<=12
     ·obtain⟨rfl,rfl⟩:=k1 q1
      obtain⟨r2,c2,e2,k3,k4⟩:=implScan d L m2 b (c+1+cnt L a) (by omega) hbb q1.2
      simp only[if_true,e2,oS]
      refine⟨r2,c2,rfl,λh=>?_,λh=>?_⟩
      ·rw[hsh2,hcnt,bA] at h
       obtain⟨rfl,rfl⟩:=k3 ⟨h.1.2,by omega⟩
       refine⟨rfl,?_⟩
       rw[hcnt];congr 1;omega
      ·refine k4 λh'=>h ⟨by rw[hsh2,q1.1,h'.1];rfl,by rw[hcnt];omega⟩
     ·obtain rfl:=k2 q1
      simp only[bF,if_false]
      refine⟨false,c1,rfl,λh=>?_,λ_=>rfl⟩
      rw[hsh2,hcnt,bA] at h
      exact absurd ⟨h.1.1,by omega⟩ q1
   ·rw[if_neg hh]
    refine⟨false,_,rfl,λh=>?_,λ_=>rfl⟩
    have:=h.1
    unfold headB at hh
    rw[shapeB,bA] at this
    exact absurd this.1 hh
def BS(s:zJ):Prop:=BL s.Write.Subs/\∃m,BE m s.Value
def stmtB(s:zJ)(d:Int):Bool:=(decide (0<=d)&&decide (d<=4))&&accB s.Write d&&(shapeB d 5 s.Value&&decide (cnt 5 s.Value<=12))
theorem implStmt(s:zJ)(d:Int)(h:BS s):jS s d=some (stmtB s d):=by
 obtain⟨h1,m,h2⟩:=h;unfold jS stmtB;rw[oI,implAccess _ h1];obtain⟨r,c',e1,k1,k2⟩:=implScan d 5 m s.Value 0 (by omega) h2 (by omega);rw[show (6:Int) - ((5:Nat):Int)=1 by omega,nZ] at e1;rw[e1];simp only[cu] at k1 k2;have hr:r=(shapeB d 5 s.Value&&decide (cnt 5 s.Value<=12)):=by
  by_cases q:shapeB d 5 s.Value=true/\cnt 5 s.Value<=12
  ·rw[(k1 q).1,q.1];simp[q.2]
  ·rw[k2 q];cases hs:shapeB d 5 s.Value with
   | false=>rfl
   | true=>
    have:¬cnt 5 s.Value<=12:=λh=>q ⟨hs,h⟩;simp[this]
 rw[hr];cases (decide (0<=d)&&decide (d<=4)) <;> cases accB s.Write d <;> simp
theorem specStmt(s:zJ)(d:Int)(h:BS s):nW s d=some (stmtB s d):=by
 obtain⟨h1,m,h2⟩:=h;unfold nW stmtB;have hs:=specShape d 5 m s.Value (by omega) h2;rw[show ((5:Nat):Int)=5 from rfl] at hs;rw[specAccess _ h1,hs];by_cases d0:0<=d
 ·have d0':¬d<0:=by omega
  by_cases d4:d<=4
  ·have d4':¬d>4:=by omega
   cases accB s.Write d with
   | false=>simp[d0,d0',d4,d4']
   | true=>
    cases hsh:shapeB d 5 s.Value with
    | false=>simp[d0,d0',d4,d4']
    | true=>
     have hc:=specCount d 5 5 s.Value hsh (by omega) (by omega) (by omega);rw[show ((5:Nat):Int)=5 from rfl] at hc;have e:decide (((cnt 5 s.Value:Nat):Int)<=12)=decide (cnt 5 s.Value<=12):=by simp;omega
     simp[d0,d0',d4,d4',hc,e]
  ·have d4':d>4:=by omega
   simp[d0,d0',d4,d4']
 ·have d0':d<0:=by omega
  simp[d0,d0']
def szL:List Int->Int->Int
 | [],n=>n
 | d::l,n=>szL l (W (n*d))
def sizeF(a:zI):Int:=szL a.Dims 1
theorem zIX(a:zI)(h:a.Dims.length<=1048576):∀(j i:Nat) (n:Int),i+j=a.Dims.length->tV a n (i:Int)=some (szL (a.Dims.drop i) n):=by
 intro j
 induction j with
 | zero=>
  intro i n hi;rw[tV];have:¬((i:Int)<(a.Dims.length:Int)):=by omega
  simp only[this,dF,bF,if_false];rw[dN.2 (by omega)];rfl
 | succ j ih=>
  intro i n hi;rw[tV];have aH:i<a.Dims.length:=by omega
  have h1:((i:Int)<(a.Dims.length:Int)):=by omega
  simp only[h1,dT,if_true,xJ aH,oB,oS];rw[rC (by omega),ih (i+1) _ (by omega),gC aH,szL]
theorem implSize(a:zI)(h:a.Dims.length<=1048576):jA a=some (sizeF a):=by
 unfold jA sizeF;have:=zIX a h _ 0 1 (cu _);rw[nZ,co] at this;rw[this];rfl
theorem zIY(a:zI)(h:a.Dims.length<=1048576):∀(j i:Nat) (n:Int),i+j=a.Dims.length->pX a n (i:Int)=some (szL (a.Dims.drop i) n):=by
 intro j
 induction j with
 | zero=>
  intro i n hi;rw[pX];have:¬((i:Int)<(a.Dims.length:Int)):=by omega
  simp only[this,dF,bF,if_false];rw[dN.2 (by omega)];rfl
 | succ j ih=>
  intro i n hi;rw[pX];have aH:i<a.Dims.length:=by omega
  have h1:((i:Int)<(a.Dims.length:Int)):=by omega
  simp only[h1,dT,if_true,xJ aH,oB,oS];rw[rC (by omega),ih (i+1) _ (by omega),gC aH,szL]
theorem specSize(a:zI)(h:a.Dims.length<=1048576):dC a=some (sizeF a):=by
 unfold dC sizeF;have:=zIY a h _ 0 1 (cu _);rw[nZ,co] at this;rw[this];rfl
def cellS(p:List Int):List Int->List zC->Int->Option Int
 | _,[],n=>some n
 | [],_::_,_=>none
 | d::ds,s::ss,n=>if 0<=evA s p/\evA s p<d then cellS p ds ss (W (W (n*d)+evA s p)) else none
def cellF(a:zK)(p:List Int):List zI->Int->Int
 | [],_=>-1
 | x::l,first=>if x.Name.l=a.Array.l then(if a.Subs.length=x.Dims.length then(match cellS p x.Dims a.Subs 0 with|none=>-1|some n=>W (first+n)) else -1) else cellF a p l (W (first+sizeF x))
def AV(a:zK):Prop:=a.Subs ≠ []/\a.Subs.length<=2/\∀s∈a.Subs,s.Coefs.length=4
def RVa(l:List zI):Prop:=l.length<=1048576/\∀x∈l,x.Dims.length<=1048576/\∀d∈x.Dims,dimB d=true
theorem AV.of{a:zK}{d:Int}(h:accB a d=true):AV a:=by
 simp only[accB,bA,decide_eq_true_eq] at h;obtain⟨⟨h1,h2,h3⟩,h4⟩:=h;refine⟨by intro e;rw[e] at h2;simp at h2,h3,λs hs=>?_⟩;have:=cb.1 h4 s hs;simp only[okA,validB,bA,decide_eq_true_eq] at this;exact this.1.1.1
theorem RVa.of{l:List zI}(h:BR l)(hb:arrB l=true):RVa l:=by
 refine⟨h.1,λx hx=>⟨h.2 x hx,?_⟩⟩;simp only[arrB,bA] at hb;obtain⟨i,hi,rfl⟩:=dv.1 hx;have:=cb.1 hb.2 i (cD.2 hi);have hg:l.getD i ⟨⟨[]⟩,[]⟩=l[i]:=by simp[hi]
 simp only[arrI,hg,bA] at this;exact cb.1 this.2
theorem zIZ(a:zK)(p:List Int)(x:zI)(ha:AV a)(hp:p.length<=4)(hx:x.Dims.length<=1048576/\∀d∈x.Dims,dimB d=true)(hl:a.Subs.length=x.Dims.length):
 ∀(j i:Nat) (n:Int),i+j=a.Subs.length->uV a p x n (i:Int)=some (match cellS p (x.Dims.drop i) (a.Subs.drop i) n with|none=>.ret (-1)|some m=>.done m):=by
 obtain⟨a1,a2,a3⟩:=ha
 intro j
 induction j with
 | zero=>
  intro i n hi
  rw[uV]
  have:¬((i:Int)<(a.Subs.length:Int)):=by omega
  simp only[this,dF,bF,if_false]
  rw[show a.Subs.drop i=[] from dN.2 (by omega),cellS];rfl
 | succ j ih=>
  intro i n hi
  rw[uV]
  have aH:i<a.Subs.length:=by omega
  have hlt2:i<x.Dims.length:=by omega
  have h1:((i:Int)<(a.Subs.length:Int)):=by omega
  have hc:=a3 _ (gM aH)
  have hd:=hx.2 _ (gM hlt2)
  simp only[dimB,bA,decide_eq_true_eq] at hd
  have hW:W (x.Dims[i] - 1)=x.Dims[i] - 1:=mG (by omega) (by omega)
  simp only[h1,dT,if_true,xJ aH,xJ hlt2,oB,oS,implEval _ _ (show p.length<=a.Subs[i].Coefs.length by omega) (by omega),hW,oI]
  rw[rC (by omega),gC aH,gC hlt2,cellS]
  by_cases hv:0<=evA a.Subs[i] p/\evA a.Subs[i] p<x.Dims[i]
  ·have e1:(decide (0<=evA a.Subs[i] p)&&decide (evA a.Subs[i] p<=x.Dims[i] - 1))=true:=by
    rw[bA,decide_eq_true_eq,decide_eq_true_eq];omega
   simp only[e1,bT,bF,if_false]
   rw[if_pos hv]
   exact ih (i+1) _ (by omega)
  ·have e1:(decide (0<=evA a.Subs[i] p)&&decide (evA a.Subs[i] p<=x.Dims[i] - 1))=false:=by
    rw[Bool.and_eq_false_iff,decide_eq_false_iff_not,decide_eq_false_iff_not];omega
   simp only[e1,df,if_true]
   rw[if_neg hv];rfl
theorem zI0(P:zV)(a:zK)(p:List Int)(ha:AV a)(hp:p.length<=4)(hR:RVa P.Arrays):∀(j i:Nat) (first:Int),i+j=P.Arrays.length ->
 (match vU P a p first (i:Int) with|none=>none|some (.ret r)=>some r|some (.done _)=>some (-1))=some (cellF a p (P.Arrays.drop i) first):=by
 obtain⟨r1,r2⟩:=hR
 intro j
 induction j with
 | zero=>
  intro i first hi
  rw[vU]
  have:¬((i:Int)<(P.Arrays.length:Int)):=by omega
  simp only[this,dF,bF,if_false]
  rw[dN.2 (by omega)];rfl
 | succ j ih=>
  intro i first hi
  rw[vU]
  have aH:i<P.Arrays.length:=by omega
  have h1:((i:Int)<(P.Arrays.length:Int)):=by omega
  have hx:=r2 _ (gM aH)
  simp only[h1,dT,if_true,xJ aH,oB,oS,implSize _ (show P.Arrays[i].Dims.length<=1048576 by omega)]
  rw[rC (by omega),gC aH,cellF]
  by_cases hn:P.Arrays[i].Name.l=a.Array.l
  ·have hb:(P.Arrays[i].Name.l==a.Array.l)=true:=by simpa using hn
   rw[if_pos hn]
   simp only[hb,bT,bF,if_false]
   clear hb hn
   by_cases hl:a.Subs.length=P.Arrays[i].Dims.length
   ·have hl':((a.Subs.length:Int) != (P.Arrays[i].Dims.length:Int))=false:=by simp[hl]
    have h2:=zIZ a p P.Arrays[i] ha hp hx hl _ 0 0 (cu _)
    rw[nZ,co,co] at h2
    rw[if_pos hl]
    simp only[hl',bF,if_false,h2,oS]
    cases cellS p P.Arrays[i].Dims a.Subs 0 <;> rfl
   ·have hl':((a.Subs.length:Int) != (P.Arrays[i].Dims.length:Int))=true:=by simp;omega
    rw[if_neg hl]
    simp only[hl',if_true]
    rfl
  ·have hb:(P.Arrays[i].Name.l==a.Array.l)=false:=by simpa using hn
   rw[if_neg hn]
   simp only[hb,df,if_true]
   exact ih (i+1) _ (by omega)
theorem implCell(P:zV)(a:zK)(p:List Int)(ha:AV a)(hp:p.length<=4)(hR:RVa P.Arrays):pH P a p=some (cellF a p P.Arrays 0):=by
 unfold pH;have:=zI0 P a p ha hp hR _ 0 0 (cu _);rw[nZ,co] at this;cases h:vU P a p 0 0 with
 | none=>rw[h] at this;cases this
 | some o=>
  rw[h] at this;cases o with
  | ret r=>exact this
  | done u=>exact this
theorem zI1(l:List zI)(a:zK)(p:List Int)(q:Nat)(hq:q<l.length)(ha:AV a)(hp:p.length<=4)(hx:l[q].Dims.length<=1048576/\∀d∈l[q].Dims,dimB d=true)(hl:a.Subs.length=l[q].Dims.length):
 ∀(j i:Nat) (n:Int),i+j=a.Subs.length->rZ l a p (q:Int) n (i:Int)=some (match cellS p (l[q].Dims.drop i) (a.Subs.drop i) n with|none=>.ret (-1)|some m=>.done m):=by
 obtain⟨a1,a2,a3⟩:=ha
 intro j
 induction j with
 | zero=>
  intro i n hi
  rw[rZ]
  have:¬((i:Int)<(a.Subs.length:Int)):=by omega
  simp only[this,dF,bF,if_false]
  rw[show a.Subs.drop i=[] from dN.2 (by omega),cellS];rfl
 | succ j ih=>
  intro i n hi
  rw[rZ]
  have aH:i<a.Subs.length:=by omega
  have hlt2:i<l[q].Dims.length:=by omega
  have h1:((i:Int)<(a.Subs.length:Int)):=by omega
  have hc:=a3 _ (gM aH)
  have hl':((a.Subs.length:Int) != (l[q].Dims.length:Int))=false:=by simp[hl]
  simp only[h1,dT,if_true,xJ aH,xJ hq,xJ hlt2,hl',bF,if_false,oB,oS,specEval _ _ (show p.length<=a.Subs[i].Coefs.length by omega) (by omega),oP]
  rw[rC (by omega),gC aH,gC hlt2,cellS]
  by_cases h0:0<=evA a.Subs[i] p
  ·have h0':¬(evA a.Subs[i] p<0):=by omega
   by_cases hd:evA a.Subs[i] p<l[q].Dims[i]
   ·have hd':¬(evA a.Subs[i] p>=l[q].Dims[i]):=by omega
    simp only[h0,h0',hd,hd',dF,bF,if_false,oS,and_self,if_true]
    exact ih (i+1) _ (by omega)
   ·have hd':(evA a.Subs[i] p>=l[q].Dims[i]):=by omega
    simp only[h0,h0',hd,hd',dF,dT,bF,if_false,oS,and_false,if_true]
  ·have h0':(evA a.Subs[i] p<0):=by omega
   simp only[h0,h0',dT,if_true,oS,false_and,if_false]
theorem zI2(l:List zI)(a:zK)(p:List Int)(ha:AV a)(hp:p.length<=4)(hR:RVa l):∀(j i:Nat) (first:Int),i+j=l.length ->
 (match qA l a p first (i:Int) with|none=>none|some (.ret r)=>some r|some (.done _)=>some (-1))=some (cellF a p (l.drop i) first):=by
 obtain⟨r1,r2⟩:=hR
 intro j
 induction j with
 | zero=>
  intro i first hi
  rw[qA]
  have:¬((i:Int)<(l.length:Int)):=by omega
  simp only[this,dF,bF,if_false]
  rw[dN.2 (by omega)];rfl
 | succ j ih=>
  intro i first hi
  rw[qA]
  have aH:i<l.length:=by omega
  have h1:((i:Int)<(l.length:Int)):=by omega
  have hx:=r2 _ (gM aH)
  simp only[h1,dT,if_true,xJ aH,oB,oS,specSize _ (show l[i].Dims.length<=1048576 by omega)]
  rw[rC (by omega),gC aH,cellF]
  by_cases hn:l[i].Name.l=a.Array.l
  ·have hb:(l[i].Name.l==a.Array.l)=true:=by simpa using hn
   rw[if_pos hn]
   simp only[hb,bT,bF,if_false]
   clear hb hn
   by_cases hl:a.Subs.length=l[i].Dims.length
   ·have h2:=zI1 l a p i aH ha hp hx hl _ 0 0 (cu _)
    rw[nZ,co,co] at h2
    rw[if_pos hl]
    simp only[h2,oS]
    cases cellS p l[i].Dims a.Subs 0 <;> rfl
   ·have hl':((a.Subs.length:Int) != (l[i].Dims.length:Int))=true:=by simp;omega
    have hpos:((0:Int)<(a.Subs.length:Int)):=by
     have:=List.length_pos_iff.2 ha.1;omega
    rw[rZ]
    rw[if_neg hl]
    simp only[hpos,dT,if_true,xJ aH,oB,oS,hl']
    rfl
  ·have hb:(l[i].Name.l==a.Array.l)=false:=by simpa using hn
   rw[if_neg hn]
   simp only[hb,df,if_true]
   exact ih (i+1) _ (by omega)
theorem specCell(l:List zI)(a:zK)(p:List Int)(ha:AV a)(hp:p.length<=4)(hR:RVa l):fA l a p=some (cellF a p l 0):=by
 unfold fA;have:=zI2 l a p ha hp hR _ 0 0 (cu _);rw[nZ,co] at this;cases h:qA l a p 0 0 with
 | none=>rw[h] at this;cases this
 | some o=>
  rw[h] at this;cases o with
  | ret r=>exact this
  | done u=>exact this
theorem specCopyAff(a:zC)(h:BA a):sK a=some a:=by
 obtain⟨C,k⟩:=a;unfold sK BA at *;simp only[len0] at h ⊢;by_cases h0:C.length=0
 ·have:C=[]:=dq.1 h0;subst this;rfl
 ·have hpn:app 8 ([]:List Int) C=some C:=zAY C (by omega);simp only[h0,dF,bF,if_false,hpn,oB,oS];rfl
theorem zGt(a:zK)(h:BL a.Subs):∀(j i:Nat) (o:List zC),i+j=a.Subs.length->o.length=i->uR a (i:Int) o=some (o++a.Subs.drop i):=by
 obtain⟨h1,h2⟩:=h;intro j
 induction j with
 | zero=>
  intro i o hi ho;rw[uR];have:¬((i:Int)<(a.Subs.length:Int)):=by omega
  simp only[this,dF,bF,if_false];rw[show a.Subs.drop i=[] from dN.2 (by omega),ce];rfl
 | succ j ih=>
  intro i o hi ho;rw[uR];have aH:i<a.Subs.length:=by omega
  have hc:((i:Int)<(a.Subs.length:Int)):=by omega
  have happ:app 32 o [a.Subs[i]]=some (o++[a.Subs[i]]):=nE (by simp;omega);simp only[hc,dT,if_true,xJ aH,oB,oS,specCopyAff _ (h2 _ (gM aH)),happ];rw[rC (by omega),ih (i+1) _ (by omega) (by simp[ho]),bZ,List.singleton_append,<- gC aH]
theorem specCopyAcc(a:zK)(h:BL a.Subs):uE a=some a:=by
 unfold uE;have:=zGt a h _ 0 [] (cu _) rfl;rw[nZ,co,cj] at this;rw[this];rfl
def readsF:Nat->zD->List zK
 | 0,_=>[]
 | n+1,e=>if e.Kind=3 then[e.Read] else e.Kids.flatMap (readsF n)
theorem zEY{d:Int}{n:Nat}{e:zD}(h:shapeB d (n+1) e=true)(h3:e.Kind=3):e.Kids=[]/\accB e.Read d=true:=by
 simp only[shapeB,bA] at h;have hk:=eq_of_beq h.1.1;rw[h3,show kidsN 3=0 from rfl] at hk;refine⟨dq.1 (by omega),?_⟩;have ho:=h.1.2;simp only[ownB,h3,show ¬(3:Int)=2 by decide,if_false,if_true,bA] at ho;exact ho.2
theorem zGu{d:Int}:∀(n:Nat) (e:zD),shapeB d n e=true->∀a∈readsF n e,accB a d=true
 | 0,e,h,a,ha=>by cases ha
 | n+1,e,h,a,ha=>by
  rw[readsF] at ha
  by_cases h3:e.Kind=3
  ·rw[if_pos h3] at ha
   rw[dc.1 ha]
   exact(zEY h h3).2
  ·rw[if_neg h3] at ha
   obtain⟨k,hk,hk'⟩:=cB.1 ha
   exact zGu n k ((nF h).2 k hk) a hk'
theorem dU{d:Int}:∀(n:Nat) (e:zD),shapeB d n e=true->(readsF n e).length<=2 ^ n
 | 0,e,h=>by cases h
 | n+1,e,h=>by
  have hp:=Nat.one_le_two_pow (n:=n)
  rw[readsF,Nat.pow_succ]
  by_cases h3:e.Kind=3
  ·rw[if_pos h3];simp;omega
  ·rw[if_neg h3]
   obtain⟨h1,h2⟩:=nF h
   rcases h1 with hk|⟨a,b,hk⟩
   ·rw[hk];simp
   ·rw[hk] at h2 ⊢
    have ha:=dU n a (h2 a (by simp))
    have hb:=dU n b (h2 b (by simp))
    simp only[cg,ej,ce,lA]
    omega
theorem implReads{d:Int}:∀(n:Nat) (e:zD),shapeB d n e=true->n<=10->gR e=some (readsF n e)
 | 0,e,h,_=>by cases h
 | n+1,e,h,hn=>by
  have hpw:2 ^ n<=2 ^ 10:=Nat.pow_le_pow_right (by omega) (by omega)
  rw[gR,readsF]
  by_cases h3:e.Kind=3
  ·have:(e.Kind==3)=true:=by simpa using h3
   rw[if_pos h3,if_pos this];rfl
  ·have:(e.Kind==3)=false:=by simpa using h3
   rw[if_neg h3]
   simp only[this,bF,if_false,same]
   obtain⟨h1,h2⟩:=nF h
   rcases h1 with hk|⟨a,b,hk⟩
   ·rw[nC]
    simp[hk]
   ·rw[hk] at h2 ⊢
    have ra:=implReads n a (h2 a (by simp)) (by omega)
    have rb:=implReads n b (h2 b (by simp)) (by omega)
    have la:=dU n a (h2 a (by simp))
    have lb:=dU n b (h2 b (by simp))
    have l0:((0:Int)<(e.Kids.length:Int)):=by rw[hk];simp
    have l1:((1:Int)<(e.Kids.length:Int)):=by rw[hk];simp
    have l2:¬((2:Int)<(e.Kids.length:Int)):=by rw[hk];simp
    have i0:idx e.Kids 0=some a:=by rw[hk];rfl
    have i1:idx e.Kids 1=some b:=by rw[hk];rfl
    have w0:W ((0:Int)+1)=1:=by rw[mG (by omega) (by omega)];rfl
    have w1:W ((1:Int)+1)=2:=by rw[mG (by omega) (by omega)];rfl
    have p0:app 40 ([]:List zK) (readsF n a)=some (readsF n a):=by rw[nE (by simp;omega)];rfl
    have p1:app 40 (readsF n a) (readsF n b)=some (readsF n a++readsF n b):=nE (by omega)
    rw[nC]
    simp only[l0,dT,if_true,oB,oS,i0,same,ra,p0,w0]
    rw[nC]
    simp only[l1,dT,if_true,oB,oS,i1,same,rb,p1,w1]
    rw[nC]
    simp only[l2,dF,bF,if_false,oP,oS,id,cg,ej,ce]
theorem specReads{d:Int}:∀(n m:Nat) (e:zD) (out:List zK),shapeB d n e=true->BE m e->n<=10->out.length<=1000000 - 2 ^ n->mJ out e=some (out++readsF n e)
 | 0,m,e,out,h,_,_,_=>by cases h
 | n+1,m,e,out,h,hb,hn,ho=>by
  have hpw:2 ^ n<=2 ^ 10:=Nat.pow_le_pow_right (by omega) (by omega)
  have hps:2 ^ (n+1)=2 ^ n*2:=Nat.pow_succ ..
  have hp:=Nat.one_le_two_pow (n:=n)
  rw[mJ,readsF]
  by_cases h3:e.Kind=3
  ·have:(e.Kind==3)=true:=by simpa using h3
   obtain⟨hk,_⟩:=zEY h h3
   have hpa:app 40 out [e.Read]=some (out++[e.Read]):=nE (by simp;omega)
   rw[if_pos h3]
   simp only[this,if_true,oB,oS,specCopyAcc _ hb.own.2.1,hpa,oP,id,same]
   rw[sY]
   simp[hk]
  ·have:(e.Kind==3)=false:=by simpa using h3
   rw[if_neg h3]
   simp only[this,bF,if_false,oB,oS,oP,id,same]
   obtain⟨h1,h2⟩:=nF h
   rcases h1 with hk|⟨a,b,hk⟩
   ·rw[sY]
    simp[hk]
   ·obtain⟨m1,_,hba⟩:=hb.kid (k:=a) (by rw[hk];simp)
    obtain⟨m2,_,hbb⟩:=hb.kid (k:=b) (by rw[hk];simp)
    rw[hk] at h2 ⊢
    have la:=dU n a (h2 a (by simp))
    have ra:=specReads n m1 a out (h2 a (by simp)) hba (by omega) (by omega)
    have rb:=specReads n m2 b (out++readsF n a) (h2 b (by simp)) hbb (by omega) (by rw[lA];omega)
    have l0:((0:Int)<(e.Kids.length:Int)):=by rw[hk];simp
    have l1:((1:Int)<(e.Kids.length:Int)):=by rw[hk];simp
    have l2:¬((2:Int)<(e.Kids.length:Int)):=by rw[hk];simp
    have i0:idx e.Kids 0=some a:=by rw[hk];rfl
    have i1:idx e.Kids 1=some b:=by rw[hk];rfl
    have w0:W ((0:Int)+1)=1:=by rw[mG (by omega) (by omega)];rfl
    have w1:W ((1:Int)+1)=2:=by rw[mG (by omega) (by omega)];rfl
    rw[sY]
    simp only[l0,dT,if_true,oB,oS,i0,same,ra,w0]
    rw[sY]
    simp only[l1,dT,if_true,oB,oS,i1,same,rb,w1]
    rw[sY]
    simp only[l2,dF,bF,if_false,oP,oS,id,cg,ej,ce,bZ]
def cellA(A:List zI)(p:List Int)(a:zK):Int:=cellF a p A 0
def stOk(A:List zI)(s:zJ)(p:List Int):Bool:=decide (0<=cellA A p s.Write)&&(readsF 5 s.Value).all λa=>decide (0<=cellA A p a)
theorem eT{s:zJ}{d:Int}(h:stmtB s d=true):AV s.Write/\shapeB d 5 s.Value=true/\∀a∈readsF 5 s.Value,AV a:=by
 simp only[stmtB,bA] at h;exact⟨AV.of h.1.2,h.2.1,λa ha=>AV.of (zGu 5 _ h.2.1 a ha)⟩
theorem implStmtOk(P:zV)(s:zJ)(p:List Int){d:Int}(h:stmtB s d=true)(hp:p.length<=4)(hR:RVa P.Arrays):pS P s p=some (stOk P.Arrays s p):=by
 obtain⟨h1,h2,h3⟩:=eT h;have hl:=dU 5 _ h2;unfold pS stOk;have hc:=zHh (f:=λx0=>uL x0 P p) (p:=λa=>!(decide (0<=cellA P.Arrays p a))) (readsF 5 s.Value) (λa ha=>by
  unfold uL;rw[implCell P a p (h3 a ha) hp hR];simp only[oB,oS,oP,cellA];by_cases q:0<=cellF a p P.Arrays 0
  ·have:¬cellF a p P.Arrays 0<0:=by omega
   simp[q,this]
  ·have:cellF a p P.Arrays 0<0:=by omega
   simp[q,this]) (by omega)
 rw[implCell P s.Write p h1 hp hR,implReads 5 s.Value h2 (by omega)];simp only[oB,oS,hc,oP,cellA];by_cases q:0<=cellF s.Write p P.Arrays 0
 ·have:cellF s.Write p P.Arrays 0>=0:=q;simp only[this,q,dT,if_true,oS,id,cq];rw[dn];simp
 ·have:¬cellF s.Write p P.Arrays 0>=0:=q;simp[this,q]
theorem zHn(l:List zI)(p:List Int)(ys:List zK)(hy:ys.length<=1048576)(ha:∀a∈ys,AV a)(hp:p.length<=4)(hR:RVa l):∀(j i:Nat) (o:List Int),i+j=ys.length->o.length=i ->
 qP l p ys o (i:Int)=some (if(ys.drop i).all (λa=>decide (0<=cellA l p a)) then .done (o++(ys.drop i).map (cellA l p)) else .ret ([],0,false)):=by
 intro j
 induction j with
 | zero=>
  intro i o hi ho
  rw[qP]
  have:¬((i:Int)<(ys.length:Int)):=by omega
  simp only[this,dF,bF,if_false]
  rw[show ys.drop i=[] from dN.2 (by omega)]
  simp
 | succ j ih=>
  intro i o hi ho
  rw[qP]
  have aH:i<ys.length:=by omega
  have hc:((i:Int)<(ys.length:Int)):=by omega
  have happ:∀v:Int,app 8 o [v]=some (o++[v]):=λv=>nE (by simp;omega)
  simp only[hc,dT,if_true,xJ aH,oB,oS,specCell l _ p (ha _ (gM aH)) hp hR,happ]
  rw[rC (by omega),gC aH,cV,cA]
  by_cases q:0<=cellA l p ys[i]
  ·have:¬cellF ys[i] p l 0<0:=by unfold cellA at q;omega
   simp only[this,q,dF,dT,bF,if_false,cq]
   rw[ih (i+1) _ (by omega) (by simp[ho]),bZ,List.singleton_append]
   rfl
  ·have:cellF ys[i] p l 0<0:=by unfold cellA at q;omega
   simp only[this,q,dF,dT,if_true,Bool.false_and,bF,if_false]
   rfl
theorem specCells(l:List zI)(s:zJ)(p:List Int){d:Int}(h:stmtB s d=true)(hs:BS s)(hp:p.length<=4)(hR:RVa l):fX l s p=some (if stOk l s p then((readsF 5 s.Value).map (cellA l p),cellA l p s.Write,true) else([],0,false)):=by
 obtain⟨h1,h2,h3⟩:=eT h;obtain⟨_,m,hb⟩:=hs;have hl:=dU 5 _ h2;unfold fX stOk;have hr:=specReads 5 m s.Value [] h2 hb (by omega) (by simp);rw[cj] at hr;have hc:=zHn l p (readsF 5 s.Value) (by omega) h3 hp hR _ 0 [] (cu _) rfl;rw[nZ,co,cj] at hc;rw[hr];simp only[oB,oS,hc];cases hA:(readsF 5 s.Value).all λa=>decide (0<=cellA l p a) with
 | false=>simp
 | true=>
  simp only[if_true,oS,specCell l s.Write p h1 hp hR,Bool.and_true,oP];by_cases q:0<=cellA l p s.Write
  ·have:¬cellF s.Write p l 0<0:=by unfold cellA at q;omega
   have q':0<=cellF s.Write p l 0:=q;simp[this,q',cellA]
  ·have:cellF s.Write p l 0<0:=by unfold cellA at q;omega
   simp[this,q]
def ptB(p:List Int):Bool:=decide (p.length<=4)&&p.all λn=>decide (-9999<=n)&&decide (n<=9999)
theorem implPoint(p:List Int)(h:p.length<=1048576):fZ p=some (ptB p):=by
 unfold fZ ptB;have hc:=zDI (f:=pY) (p:=λn=>!(decide (-9999<=n)&&decide (n<=9999))) p (λx _=>by unfold pY;rw[oI];rfl) (by omega);have e:decide ((p.length:Int)<=4)=decide (p.length<=4):=by simp;omega
 rw[e];by_cases h4:p.length<=4
 ·simp only[h4,dT,if_true,hc,oB,oS,oP,id,cq];rw[dn];simp
 ·simp[h4]
theorem specPoint(p:List Int)(h:p.length<=1048576):fY p=some (ptB p):=by
 unfold fY ptB;have hl:=zAL (n:=p.length) (f:=qQ p) (P:=λi=>decide (-9999<=p.getD i 0)&&decide (p.getD i 0<=9999)) (λi hi=>by
  rw[qQ];have h1:((i:Int)<(p.length:Int)):=by omega
  have hg:p.getD i 0=p[i]:=by simp[hi]
  have hw:tB p[i] 9999=some (decide (-9999<=p[i])&&decide (p[i]<=9999)):=by
   unfold tB;rw[show W (0 - 9999)=-9999 by rw[mG (by omega) (by omega)];rfl];by_cases q:-9999<=p[i]
   ·have:p[i] >= -9999:=q;simp[q,this]
   ·have:¬p[i] >= -9999:=q;simp[q,this]
  simp only[h1,dT,if_true,xJ hi,oB,oS,hg,hw];rw[rC (by omega)];cases (decide (-9999<=p[i])&&decide (p[i]<=9999)) <;> rfl) (by
  rw[qQ];simp)
 rw[hl,zAU p (λn=>decide (-9999<=n)&&decide (n<=9999))];have e:decide ((p.length:Int)<=4)=decide (p.length<=4):=by simp;omega
 cases p.all λn=>decide (-9999<=n)&&decide (n<=9999) with
 | false=>simp
 | true=>simp[e]
theorem zJM:∀(ls:List zL) (p q:List Int),q∈pts ls p->q.length=p.length+ls.length
 | [],p,q,h=>by rw[pts,dc] at h;subst h;rfl
 | l::ls,p,q,h=>by
  rw[pts] at h
  obtain⟨v,_,hv⟩:=cB.1 h
  have:=zJM ls (p++[v]) q hv
  rw[this];simp;omega
theorem zDK{nest:List zL}:(nestPts nest).1.length<=120/\∀q∈(nestPts nest).1,q.length<=4:=by
 unfold nestPts;split
 ·rename_i h;refine⟨h.2.2,λq hq=>?_⟩;have:=zJM nest [] q hq;have:=(zHm h.1).1;simp at *;omega
 ·exact⟨by simp,λq hq=>by cases hq⟩
def BP(x:zN):Prop:=BN x.Nest/\x.Body.length<=1048576/\∀s∈x.Body,BS s
def bodyB(x:zN):Bool:=(decide (1<=x.Body.length)&&decide (x.Body.length<=4))&&x.Body.all λs=>stmtB s (x.Nest.length:Int)
def partB(A:List zI)(x:zN):Bool:=(nestPts x.Nest).2&&bodyB x&&(nestPts x.Nest).1.all λq=>ptB q&&x.Body.all λs=>stOk A s q
def instR(k:Int)(q:List Int)(i j:Nat):List yC:=(List.range' i j).map λ(i:Nat)=>⟨k,(i:Int),q⟩
theorem zHS(k:Int)(q:List Int)(i j:Nat):(instR k q i j).length=j:=by simp[instR]
theorem len14(n:Nat):(decide ((1:Int)<=(n:Int))&&decide ((n:Int)<=4))=(decide (1<=n)&&decide (n<=4)):=by
 have e1:decide ((1:Int)<=(n:Int))=decide (1<=n):=by simp;omega
 have e2:decide ((n:Int)<=4)=decide (n<=4):=by simp;omega
 rw[e1,e2]
theorem zKg(P:zV)(k:Int)(x:zN)(q:List Int)(hq:q.length<=4)(hb:x.Body.length<=4)(hs:∀s∈x.Body,stmtB s (x.Nest.length:Int)=true)(hR:RVa P.Arrays):
 ∀(j i:Nat) (o:List yC),i+j=x.Body.length->o.length+j<=1000000->wY P k x q o (i:Int)=some (if(x.Body.drop i).all (λs=>stOk P.Arrays s q) then .done (o++instR k q i j) else .ret ([],false)):=by
 intro j
 induction j with
 | zero=>
  intro i o hi ho
  rw[wY]
  have:¬((i:Int)<(x.Body.length:Int)):=by omega
  simp only[this,dF,bF,if_false]
  rw[show x.Body.drop i=[] from dN.2 (by omega)]
  simp[instR]
 | succ j ih=>
  intro i o hi ho
  rw[wY]
  have aH:i<x.Body.length:=by omega
  have hc:((i:Int)<(x.Body.length:Int)):=by omega
  have happ:app 40 o [(⟨k,(i:Int),q⟩:yC)]=some (o++[⟨k,(i:Int),q⟩]):=nE (by simp;omega)
  simp only[hc,dT,if_true,xJ aH,oB,oS,implStmtOk P _ q (hs _ (gM aH)) hq hR,zDJ q (by omega),happ]
  rw[rC (by omega),gC aH,cV]
  cases stOk P.Arrays x.Body[i] q with
  | false=>rfl
  | true=>
   simp only[bT,bF,if_false,cq]
   rw[ih (i+1) _ (by omega) (by simp;omega),bZ]
   simp only[instR,ei,cA,List.singleton_append]
def ptOk(A:List zI)(x:zN)(q:List Int):Bool:=ptB q&&x.Body.all λs=>stOk A s q
theorem zKh(P:zV)(k:Int)(x:zN)(qs:List (List Int))(hq:∀q∈qs,q.length<=4)(hql:qs.length<=120)(hb:x.Body.length<=4)(hs:∀s∈x.Body,stmtB s (x.Nest.length:Int)=true)(hR:RVa P.Arrays):
 ∀(j i:Nat) (o:List yC),i+j=qs.length->o.length+4*j<=1000000->wZ P k x qs o (i:Int)=some (if(qs.drop i).all (ptOk P.Arrays x) then .done (o++(qs.drop i).flatMap λq=>instR k q 0 x.Body.length) else .ret ([],false)):=by
 intro j
 induction j with
 | zero=>
  intro i o hi ho
  rw[wZ]
  have:¬((i:Int)<(qs.length:Int)):=by omega
  simp only[this,dF,bF,if_false]
  rw[show qs.drop i=[] from dN.2 (by omega)]
  simp
 | succ j ih=>
  intro i o hi ho
  rw[wZ]
  have aH:i<qs.length:=by omega
  have hc:((i:Int)<(qs.length:Int)):=by omega
  have hq4:=hq _ (gM aH)
  have h3:=zKg P k x qs[i] hq4 hb hs hR x.Body.length 0 o (cu _) (by omega)
  rw[nZ,co] at h3
  simp only[hc,dT,if_true,xJ aH,oB,oS,implPoint _ (show qs[i].length<=1048576 by omega),h3]
  rw[rC (by omega),gC aH,cV,cg,ptOk]
  cases ptB qs[i] with
  | false=>rfl
  | true=>
   simp only[bT,bF,if_false,cq]
   cases x.Body.all λs=>stOk P.Arrays s qs[i] with
   | false=>rfl
   | true=>
    simp only[if_true,oS,cq]
    rw[ih (i+1) _ (by omega) (by rw[lA,zHS];omega),bZ]
def partI(k:Int)(x:zN):List yC:=(nestPts x.Nest).1.flatMap λq=>instR k q 0 x.Body.length
theorem zI3(k:Int)(b:Nat):∀qs:List (List Int),(qs.flatMap λq=>instR k q 0 b).length=qs.length*b
 | []=>by simp
 | q::qs=>by rw[cg,lA,zHS,zI3 k b qs,cx,dk];omega
theorem zHT(k:Int)(x:zN):(partI k x).length=(nestPts x.Nest).1.length*x.Body.length:=zI3 _ _ _
theorem zAV{x:zN}(h:bodyB x=true):1<=x.Body.length/\x.Body.length<=4/\∀s∈x.Body,stmtB s (x.Nest.length:Int)=true:=by
 simp only[bodyB,bA,decide_eq_true_eq] at h;exact⟨h.1.1,h.1.2,cb.1 h.2⟩
theorem zI4(k:Int){A:List zI}{x:zN}(h:partB A x=true):(partI k x).length<=480:=by
 simp only[partB,bA] at h;obtain⟨h1,h2,_⟩:=zAV h.1.2;have:=(zDK (nest:=x.Nest)).1;rw[zHT];exact Nat.mul_le_mul this h2
def gP(P:zV)(i:Nat):zN:=P.Parts.getD i ⟨[],[]⟩
theorem zKi(P:zV)(hP:P.Parts.length<=4)(hb:∀x∈P.Parts,BP x)(hR:RVa P.Arrays):
 ∀(j i:Nat) (o:List yC),i+j=P.Parts.length->o.length<=480*i->vC P o (i:Int)=some (if(List.range' i j).all (λi=>partB P.Arrays (gP P i)) then .done (o++(List.range' i j).flatMap λ(i:Nat)=>partI (i:Int) (gP P i)) else .ret ([],false)):=by
 intro j
 induction j with
 | zero=>
  intro i o hi ho
  rw[vC]
  have:¬((i:Int)<(P.Parts.length:Int)):=by omega
  simp only[this,dF,bF,if_false]
  simp
 | succ j ih=>
  intro i o hi ho
  rw[vC]
  have aH:i<P.Parts.length:=by omega
  have hc:((i:Int)<(P.Parts.length:Int)):=by omega
  obtain⟨b1,b2,b3⟩:=hb _ (gM aH)
  have hg:gP P i=P.Parts[i]:=by simp[gP,aH]
  have bN:=zHf (f:=λx0=>vE x0 P.Parts[i]) (p:=λs=>!(stmtB s (P.Parts[i].Nest.length:Int))) P.Parts[i].Body (λs hs=>by
   unfold vE
   rw[implStmt s _ (b3 s hs)];rfl) (by omega)
  simp only[hc,dT,if_true,xJ aH,oB,oS,implPoints _ b1,oI,len14,bN,oP,id]
  rw[rC (by omega),ei,cV,cg,hg]
  have hnl:=zDK (nest:=P.Parts[i].Nest)
  cases hn:(nestPts P.Parts[i].Nest).2 with
  | false=>simp[partB,hn]
  | true=>
   cases hb4:(decide (1<=P.Parts[i].Body.length)&&decide (P.Parts[i].Body.length<=4)) with
   | false=>simp[partB,bodyB,hb4]
   | true=>
    have hany:(P.Parts[i].Body.any λs=>!(stmtB s (P.Parts[i].Nest.length:Int)))=!(P.Parts[i].Body.all λs=>stmtB s (P.Parts[i].Nest.length:Int)):=by
     rw[Bool.eq_iff_iff];simp
    simp only[bT,bF,if_false,oS,hany]
    cases hall:P.Parts[i].Body.all λs=>stmtB s (P.Parts[i].Nest.length:Int) with
    | false=>simp[partB,bodyB,hall]
    | true=>
     have hbb:bodyB P.Parts[i]=true:=by rw[bodyB,hb4,hall];rfl
     obtain⟨q1,q2,q3⟩:=zAV hbb
     have h2:=zKh P (i:Int) P.Parts[i] (nestPts P.Parts[i].Nest).1 hnl.2 hnl.1 q2 q3 hR _ 0 o (cu _) (by have:=hnl.1;omega)
     rw[nZ,co] at h2
     simp only[bT,bF,if_false,h2]
     have hpB:partB P.Arrays P.Parts[i]=(nestPts P.Parts[i].Nest).1.all (ptOk P.Arrays P.Parts[i]):=by rw[partB,hn,hbb];rfl
     rw[hpB]
     cases hpt:(nestPts P.Parts[i].Nest).1.all (ptOk P.Arrays P.Parts[i]) with
     | false=>simp
     | true=>
      have ap:=zI4 (i:Int) (A:=P.Arrays) (x:=P.Parts[i]) (by rw[hpB,hpt])
      simp only[if_true,oS,cq]
      rw[show (o++(nestPts P.Parts[i].Nest).1.flatMap λq=>instR (i:Int) q 0 P.Parts[i].Body.length)=o++partI (i:Int) P.Parts[i] from rfl]
      rw[ih (i+1) _ (by omega) (by rw[lA];omega),bZ]
def BG(P:zV):Prop:=BR P.Arrays/\P.Parts.length<=1048576/\∀x∈P.Parts,BP x
def progB(P:zV):Bool:=arrB P.Arrays&&decide (P.Parts.length<=4)&&(List.range' 0 P.Parts.length).all λi=>partB P.Arrays (gP P i)
def progI(P:zV):List yC:=(List.range' 0 P.Parts.length).flatMap λ(i:Nat)=>partI (i:Int) (gP P i)
def validP(P:zV):Bool:=progB P&&decide ((progI P).length<=120)
theorem implInstances(P:zV)(h:BG P):rF P=some (if progB P then(progI P,decide ((progI P).length<=120)) else([],false)):=by
 obtain⟨h1,h2,h3⟩:=h;unfold rF progB;rw[implArrays _ h1];cases ha:arrB P.Arrays with
 | false=>simp
 | true=>
  by_cases h4:P.Parts.length<=4
  ·have e:¬((P.Parts.length:Int)>4):=by omega
   have hl:=zKi P h4 h3 (RVa.of h1 ha) _ 0 [] (cu _) (by simp);rw[nZ,cj] at hl;simp only[bT,bF,if_false,e,dF,oP,oB,oS,hl,h4,dT,cq];cases hA:(List.range' 0 P.Parts.length).all λi=>partB P.Arrays (gP P i) with
   | false=>simp
   | true=>
    simp only[if_true,progI]
    congr 2
    simp;omega
  ·have e:((P.Parts.length:Int)>4):=by omega
   simp[e,h4]
theorem implValidP(P:zV)(h:BG P):nJ P=some (validP P):=by
 unfold nJ validP;rw[implInstances P h];cases progB P <;> rfl
theorem zHU{R:Type}{r0:R}{n:Nat}{f:Int->Option (Out Unit R)}{P:Nat->Bool}(step:∀i,i<n->f (i:Int)=if P i then f ((i+1:Nat):Int) else some (.ret r0))(fin:f (n:Int)=some (.done ())):f 0=some (if(List.range n).all P then .done () else .ret r0):=by
 have key:∀j i,i+j=n->f (i:Int)=some (if(List.range' i j).all P then .done () else .ret r0):=by
  intro j
  induction j with
  | zero=>intro i hi;rw[show i=n by omega,fin];rfl
  | succ j ih=>
   intro i hi;rw[step i (by omega),ei,cV];cases hP:P i with
   | false=>simp
   | true=>simp only[if_true,cq];exact ih (i+1) (by omega)
 have:=key n 0 (by omega);rw[List.range_eq_range'];exact this
theorem zI5(A:List zI)(x:zN)(qs:List (List Int))(hq:∀q∈qs,q.length<=4)(hql:qs.length<=120)(i:Nat)(hi:i<x.Body.length)(hs:stmtB x.Body[i] (x.Nest.length:Int)=true)(hbs:BS x.Body[i])(hR:RVa A):
 qB A x qs (i:Int) 0=some (if qs.all (λq=>stOk A x.Body[i] q&&ptB q) then .done () else .ret (0,false)):=by
 have hl:=zHU (r0:=((0:Int),false)) (n:=qs.length) (f:=qB A x qs (i:Int)) (P:=λk=>stOk A x.Body[i] (qs.getD k [])&&ptB (qs.getD k [])) (λk hk=>by
  rw[qB]
  have h1:((k:Int)<(qs.length:Int)):=by omega
  have hg:qs.getD k []=qs[k]:=by simp[hk]
  have hk4:=hq _ (gM hk)
  simp only[h1,dT,if_true,xJ hi,xJ hk,oB,oS,specCells A _ qs[k] hs hbs hk4 hR,specPoint _ (show qs[k].length<=1048576 by omega),hg]
  rw[rC (by omega)]
  cases stOk A x.Body[i] qs[k] with
  | false=>simp
  | true=>cases ptB qs[k] <;> simp) (by
  rw[qB];simp)
 rw[hl,zAU qs (λq=>stOk A x.Body[i] q&&ptB q)]
def EXz:zD:=zD.mk 0 0 (zC.mk [] 0) (zK.mk ⟨[]⟩ []) []
theorem zI6(A:List zI)(x:zN)(hx:BP x)(qs:List (List Int))(hq:∀q∈qs,q.length<=4)(hql:qs.length<=120)(hR:RVa A):
 qC A x qs 0=some (if x.Body.all (λs=>stmtB s (x.Nest.length:Int)&&qs.all (λq=>stOk A s q&&ptB q)) then .done () else .ret (0,false)):=by
 obtain⟨b1,b2,b3⟩:=hx
 have hl:=zHU (r0:=((0:Int),false)) (n:=x.Body.length) (f:=qC A x qs) (P:=λi=>(λs=>stmtB s (x.Nest.length:Int)&&qs.all (λq=>stOk A s q&&ptB q)) (x.Body.getD i ⟨⟨⟨[]⟩,[]⟩,EXz⟩)) (λi hi=>by
  rw[qC]
  have h1:((i:Int)<(x.Body.length:Int)):=by omega
  have hg:x.Body.getD i ⟨⟨⟨[]⟩,[]⟩,EXz⟩=x.Body[i]:=by simp[hi]
  have hbs:=b3 _ (gM hi)
  simp only[h1,dT,if_true,xJ hi,oB,oS,specStmt _ _ hbs,hg]
  rw[rC (by omega)]
  cases hst:stmtB x.Body[i] (x.Nest.length:Int) with
  | false=>simp
  | true=>
   simp only[bT,bF,if_false,zI5 A x qs hq hql i hi hst hbs hR,cq]
   cases qs.all (λq=>stOk A x.Body[i] q&&ptB q) <;> simp) (by
  rw[qC];simp)
 rw[hl,zAU x.Body (λs=>stmtB s (x.Nest.length:Int)&&qs.all (λq=>stOk A s q&&ptB q))]
theorem zKK{A:List zI}{x:zN}{qs:List (List Int)}(h1:1<=x.Body.length):
 (x.Body.all (λs=>stmtB s (x.Nest.length:Int)&&qs.all (λq=>stOk A s q&&ptB q)))=((x.Body.all λs=>stmtB s (x.Nest.length:Int))&&qs.all (ptOk A x)):=by
 rw[Bool.eq_iff_iff,bA,cb,cb,cb]
 constructor
 ·intro h
  refine⟨λs hs=>((bA _ _).mp (h s hs)).1,λq hq=>?_⟩
  have hall:∀s∈x.Body,stOk A s q=true/\ptB q=true:=λs hs=>by
   have:=((bA _ _).mp (h s hs)).2
   have:=cb.1 this q hq
   rwa[bA] at this
  rw[ptOk,bA,cb]
  exact⟨(hall x.Body[0] (gM (by omega))).2,λs hs=>(hall s hs).1⟩
 ·rintro⟨h2,h3⟩ s hs
  rw[bA,cb]
  refine⟨h2 s hs,λq hq=>?_⟩
  have:=h3 q hq
  rw[ptOk,bA,cb] at this
  rw[bA]
  exact⟨this.2 s hs,this.1⟩
theorem specPart(A:List zI)(x:zN)(hx:BP x)(hR:RVa A):dD A x=some (if partB A x then(((nestPts x.Nest).1.length*x.Body.length:Nat):Int) else 0,partB A x):=by
 have hnl:=zDK (nest:=x.Nest);have hl:=zI6 A x hx (nestPts x.Nest).1 hnl.2 hnl.1 hR;obtain⟨b1,b2,b3⟩:=hx;unfold dD partB;rw[specPoints _ b1];cases hn:(nestPts x.Nest).2 with
 | false=>simp[hn]
 | true=>
  by_cases q1:1<=x.Body.length
  ·have q1':¬((x.Body.length:Int)<1):=by omega
   by_cases q2:x.Body.length<=4
   ·have q2':¬((x.Body.length:Int)>4):=by omega
    have hm:(nestPts x.Nest).1.length*x.Body.length<=120*4:=Nat.mul_le_mul hnl.1 q2;have hW:W (((nestPts x.Nest).1.length:Int)*(x.Body.length:Int))=(((nestPts x.Nest).1.length*x.Body.length:Nat):Int):=by
     rw[<- Int.natCast_mul];exact mG (by omega) (by omega)
    have hb:bodyB x=x.Body.all λs=>stmtB s (x.Nest.length:Int):=by simp[bodyB,q1,q2]
    have hsw:=zKK (A:=A) (qs:=(nestPts x.Nest).1) q1;rw[hsw] at hl;have hpt:((nestPts x.Nest).1.all λq=>ptB q&&x.Body.all λs=>stOk A s q)=(nestPts x.Nest).1.all (ptOk A x):=rfl;simp only[hn,bT,bF,if_false,q1',q2',dF,oP,oB,oS,hl,hb,hpt,hW,cq];cases ((x.Body.all λs=>stmtB s (x.Nest.length:Int))&&(nestPts x.Nest).1.all (ptOk A x)) <;> simp
   ·have q2':((x.Body.length:Int)>4):=by omega
    have hb:bodyB x=false:=by simp[bodyB,q2]
    simp[hn,q1',q2',hb]
  ·have q1':((x.Body.length:Int)<1):=by omega
   have hb:bodyB x=false:=by simp[bodyB,q1]
   simp[hn,q1',hb]
theorem zGv(P:zV)(hP:P.Parts.length<=4)(hb:∀x∈P.Parts,BP x)(hR:RVa P.Arrays):
 ∀(j i t:Nat),i+j=P.Parts.length->t<=480*i->uS P (t:Int) (i:Int)=some (if(List.range' i j).all (λi=>partB P.Arrays (gP P i)) then .done (((t+((List.range' i j).flatMap λ(i:Nat)=>partI (i:Int) (gP P i)).length:Nat)):Int) else .ret false):=by
 intro j
 induction j with
 | zero=>
  intro i t hi ht
  rw[uS]
  have:¬((i:Int)<(P.Parts.length:Int)):=by omega
  simp only[this,dF,bF,if_false]
  simp
 | succ j ih=>
  intro i t hi ht
  rw[uS]
  have aH:i<P.Parts.length:=by omega
  have hc:((i:Int)<(P.Parts.length:Int)):=by omega
  have hg:gP P i=P.Parts[i]:=by simp[gP,aH]
  simp only[hc,dT,if_true,xJ aH,oB,oS,specPart P.Arrays _ (hb _ (gM aH)) hR]
  rw[rC (by omega),ei,cV,cg,hg]
  cases hp:partB P.Arrays P.Parts[i] with
  | false=>simp
  | true=>
   have ap:=zI4 (i:Int) hp
   have hpl:=zHT (i:Int) P.Parts[i]
   rw[hpl] at ap
   have hW:W ((t:Int)+(((nestPts P.Parts[i].Nest).1.length*P.Parts[i].Body.length:Nat):Int))=((t+(nestPts P.Parts[i].Nest).1.length*P.Parts[i].Body.length:Nat):Int):=by
    rw[mG (by omega) (by omega)];omega
   simp only[if_true,bT,bF,if_false,cq,hW]
   rw[ih (i+1) _ (by omega) (by omega),lA,hpl,dr]
theorem specValidP(P:zV)(h:BG P):nG P=some (validP P):=by
 obtain⟨h1,h2,h3⟩:=h;unfold nG validP progB;rw[specArrays _ h1];cases ha:arrB P.Arrays with
 | false=>simp
 | true=>
  by_cases h4:P.Parts.length<=4
  ·have e:¬((P.Parts.length:Int)>4):=by omega
   have hl:=zGv P h4 h3 (RVa.of h1 ha) _ 0 0 (cu _) (by simp);rw[nZ,cu] at hl;simp only[bT,bF,if_false,e,dF,oP,oB,oS,hl,h4,dT,cq];cases hA:(List.range' 0 P.Parts.length).all λi=>partB P.Arrays (gP P i) with
   | false=>simp
   | true=>
    simp only[if_true,progI,cq]
    congr 1
    simp;omega
  ·have e:((P.Parts.length:Int)>4):=by omega
   simp[e,h4]
theorem dX{α:Type}{l:List α}{f:Int->List α->Option (List α)}(step:∀(i:Nat) (h:i<l.length) (o:List α),o.length=i->f (i:Int) o=f ((i+1:Nat):Int) (o++[l[i]]))(fin:∀o,f (l.length:Int) o=some o):f 0 []=some l:=by
 have key:∀j i,i+j=l.length->f (i:Int) (l.take i)=some l:=by
  intro j
  induction j with
  | zero=>
   intro i hi;rw[show i=l.length by omega,fin,cT (cH _)]
  | succ j ih=>
   intro i hi;have aH:i<l.length:=by omega
   have:=ih (i+1) (by omega);rw[List.take_add_one,b9 aH,Option.toList_some] at this;rw[step i aH _ (by rw[cv];omega)];exact this
 exact key _ 0 (cu _)
theorem copyExpr:∀(m:Nat) (e:zD),BE m e->qR e=some e
 | m,e,h=>by
  obtain⟨h1,h2,h3⟩:=h.own
  rw[qR]
  have hl:=dX (l:=e.Kids) (f:=λi o=>vO e i o) (λi hi o ho=>by
   show vO e (i:Int) o=_
   rw[vO]
   have k1:((i:Int)<(e.Kids.length:Int)):=by omega
   obtain⟨m',hm,hm'⟩:=h.kid (gM hi)
   have happ:app 112 o [e.Kids[i]]=some (o++[e.Kids[i]]):=nE (by simp;omega)
   have hr:=copyExpr m' e.Kids[i] hm'
   simp only[k1,dT,if_true,xJ hi,oB,oS,same,hr,happ]
   rw[rC (by omega)]) (λo=>by
   show vO e (e.Kids.length:Int) o=_
   rw[vO];simp)
  simp only[specCopyAff _ h1,specCopyAcc _ h2,oB,oS,same]
  rw[show vO e 0 []=some e.Kids from hl]
  clear hl h h1 h2 h3
  cases e;rfl
theorem copyStmt(s:zJ)(h:BS s):dG s=some s:=by
 obtain⟨h1,m,h2⟩:=h;unfold dG;rw[specCopyAcc _ h1,copyExpr m _ h2];rfl
theorem copyNest(nest:List zL)(h:BN nest):dE nest=some nest:=by
 obtain⟨h1,h2⟩:=h;unfold dE;have hl:=dX (l:=nest) (f:=λi o=>sD nest o i) (λi hi o ho=>by
  show sD nest o (i:Int)=_;rw[sD];have k1:((i:Int)<(nest.length:Int)):=by omega
  obtain⟨⟨q1,q2⟩,q3,q4⟩:=h2 _ (gM hi);have happ:app 48 o [nest[i]]=some (o++[nest[i]]):=nE (by simp;omega);have hlo:=dX (l:=nest[i].Lo) (f:=λk o=>sB nest (i:Int) k o) (λk hk o ho=>by
   show sB nest (i:Int) (k:Int) o=_;rw[sB];have k2:((k:Int)<(nest[i].Lo.length:Int)):=by omega
   have hp:app 32 o [nest[i].Lo[k]]=some (o++[nest[i].Lo[k]]):=nE (by simp;omega);have ha:=q2 _ (gM hk);have hpn:app 8 ([]:List Int) nest[i].Lo[k].Coefs=some nest[i].Lo[k].Coefs:=zAY _ (by unfold BA at ha;omega);simp only[xJ hi,k2,dT,if_true,xJ hk,oB,oS,hpn,hp];rw[rC (by omega)]) (λo=>by
   show sB nest (i:Int) (nest[i].Lo.length:Int) o=_;rw[sB];simp[xJ hi])
  have hhi:=dX (l:=nest[i].Hi) (f:=λk o=>sC nest (i:Int) k o) (λk hk o ho=>by
   show sC nest (i:Int) (k:Int) o=_;rw[sC];have k2:((k:Int)<(nest[i].Hi.length:Int)):=by omega
   have hp:app 32 o [nest[i].Hi[k]]=some (o++[nest[i].Hi[k]]):=nE (by simp;omega);have ha:=q4 _ (gM hk);have hpn:app 8 ([]:List Int) nest[i].Hi[k].Coefs=some nest[i].Hi[k].Coefs:=zAY _ (by unfold BA at ha;omega);simp only[xJ hi,k2,dT,if_true,xJ hk,oB,oS,hpn,hp];rw[rC (by omega)]) (λo=>by
   show sC nest (i:Int) (nest[i].Hi.length:Int) o=_;rw[sC];simp[xJ hi])
  simp only[k1,dT,if_true,oB,oS,hlo,hhi,happ];rw[rC (by omega)]) (λo=>by
  show sD nest o (nest.length:Int)=_;rw[sD];simp)
 rw[hl];rfl
theorem copyProg(P:zV)(h:BG P):dH P=some P:=by
 obtain⟨⟨h1,h1'⟩,h2,h3⟩:=h;unfold dH;have ha:=dX (l:=P.Arrays) (f:=λi o=>sE P i o) (λi hi o ho=>by
  show sE P (i:Int) o=_;rw[sE];have k1:((i:Int)<(P.Arrays.length:Int)):=by omega
  have hd:=h1' _ (gM hi);have happ:app 40 o [P.Arrays[i]]=some (o++[P.Arrays[i]]):=nE (by simp;omega);have hpn:app 8 ([]:List Int) P.Arrays[i].Dims=some P.Arrays[i].Dims:=zAY _ (by omega);simp only[k1,dT,if_true,xJ hi,oB,oS,hpn,happ];rw[rC (by omega)]) (λo=>by
  show sE P (P.Arrays.length:Int) o=_;rw[sE];simp)
 have hp:=dX (l:=P.Parts) (f:=λi o=>sG P i o) (λi hi o ho=>by
  show sG P (i:Int) o=_;rw[sG];have k1:((i:Int)<(P.Parts.length:Int)):=by omega
  obtain⟨b1,b2,b3⟩:=h3 _ (gM hi);have happ:app 48 o [P.Parts[i]]=some (o++[P.Parts[i]]):=nE (by simp;omega);have hb:=dX (l:=P.Parts[i].Body) (f:=λk o=>sF P (i:Int) k o) (λk hk o ho=>by
   show sF P (i:Int) (k:Int) o=_;rw[sF];have k2:((k:Int)<(P.Parts[i].Body.length:Int)):=by omega
   have hp:app 152 o [P.Parts[i].Body[k]]=some (o++[P.Parts[i].Body[k]]):=nE (by simp;omega);simp only[xJ hi,k2,dT,if_true,xJ hk,oB,oS,copyStmt _ (b3 _ (gM hk)),hp];rw[rC (by omega)]) (λo=>by
   show sF P (i:Int) (P.Parts[i].Body.length:Int) o=_;rw[sF];simp[xJ hi])
  simp only[k1,dT,if_true,xJ hi,oB,oS,copyNest _ b1,hb,happ];rw[rC (by omega)]) (λo=>by
  show sG P (P.Parts.length:Int) o=_;rw[sG];simp)
 rw[ha,hp];rfl
theorem zFf{P:zV}(h:validP P=true):arrB P.Arrays=true/\P.Parts.length<=4/\(∀i,i<P.Parts.length->partB P.Arrays (gP P i)=true)/\(progI P).length<=120:=by
 simp only[validP,progB,bA,decide_eq_true_eq] at h;obtain⟨⟨⟨h1,h2⟩,h3⟩,h4⟩:=h;exact⟨h1,h2,λi hi=>cb.1 h3 i (List.mem_range'_1.2 ⟨ex _,by omega⟩),h4⟩
theorem zIt{d:Int}{n:Nat}{e:zD}(h:shapeB d (n+1) e=true):(e.Kind=1∨e.Kind=2∨e.Kind=3)∨((e.Kind=4∨e.Kind=5∨e.Kind=6)/\∃a b,e.Kids=[a,b]):=by
 simp only[shapeB,bA] at h;have hk:=eq_of_beq h.1.1;unfold kidsN at hk;by_cases h1:e.Kind=1∨e.Kind=2∨e.Kind=3
 ·exact .inl h1
 ·rw[if_neg h1] at hk;by_cases h2:e.Kind=4∨e.Kind=5∨e.Kind=6
  ·rw[if_pos h2] at hk;refine .inr ⟨h2,?_⟩;have hl:e.Kids.length=2:=by omega
   match e.Kids,hl with
   | [a,b],_=>exact⟨a,b,rfl⟩
  ·rw[if_neg h2] at hk;omega
theorem zI7{d:Int}{n:Nat}{e:zD}(h:shapeB d (n+1) e=true)(h2:e.Kind=2):okA d e.Index=true:=by
 simp only[shapeB,bA] at h;have ho:=h.1.2;simp only[ownB,h2,if_true,bA] at ho;exact ho.2
theorem zKL{d d2:Int}(h:d<=d2){a:zC}(k:okA d a=true):okA d2 a=true:=by
 simp only[okA,bA,decide_eq_true_eq] at k ⊢;exact⟨k.1,by omega⟩
theorem zLA{d d2:Int}(h:d<=d2){a:zK}(k:accB a d=true):accB a d2=true:=by
 simp only[accB,bA,cb] at k ⊢;exact⟨k.1,λs hs=>zKL h (k.2 s hs)⟩
theorem zI8{d d2:Int}(h:d<=d2):∀(n:Nat) (e:zD),shapeB d n e=true->shapeB d2 n e=true
 | 0,e,k=>by cases k
 | n+1,e,k=>by
  simp only[shapeB,bA,cb] at k ⊢
  refine⟨⟨k.1.1,?_⟩,λy hy=>zI8 h n y (k.2 y hy)⟩
  have ho:=k.1.2
  unfold ownB at ho ⊢
  by_cases h2:e.Kind=2
  ·rw[if_pos h2,bA] at ho ⊢
   exact⟨ho.1,zKL h ho.2⟩
  ·rw[if_neg h2] at ho ⊢
   by_cases h3:e.Kind=3
   ·rw[if_pos h3,bA] at ho ⊢
    exact⟨ho.1,zLA h ho.2⟩
   ·rw[if_neg h3] at ho ⊢
    exact ho
theorem AV.bl{a:zK}(h:AV a):BL a.Subs:=⟨by have:=h.2.1;omega,λs hs=>by have:=h.2.2 s hs;unfold BA;omega⟩
def mpA(f:zC->zC)(a:zK):zK:=⟨a.Array,a.Subs.map f⟩
theorem zLB{f:zC->zC}(a:zK)(hs:a.Subs.length<=1048576)(ha:∀s∈a.Subs,vL s=some (f s)):∀(j i:Nat) (o:List zC),i+j=a.Subs.length->o.length=i->sX a (i:Int) o=some (o++(a.Subs.drop i).map f):=by
 intro j
 induction j with
 | zero=>
  intro i o hi ho;rw[sX];have:¬((i:Int)<(a.Subs.length:Int)):=by omega
  simp only[this,dF,bF,if_false,oP,id];rw[dN.2 (by omega),ee,ce]
 | succ j ih=>
  intro i o hi ho;rw[sX];have aH:i<a.Subs.length:=by omega
  have hc:((i:Int)<(a.Subs.length:Int)):=by omega
  rw[gC aH,cA];simp only[hc,dT,if_true,xJ aH,ha _ (gM aH),nE (show (o.length+[f a.Subs[i]].length)*32<=140737488355328 by simp;omega),oB,oS];rw[rC (by omega),ih (i+1) _ (by omega) (by rw[lA];simp;omega),bZ];rfl
theorem mpAV{d:Int}{f:zC->zC}(hch:∀a,okA d a=true->vL a=some (f a)){a:zK}(h:accB a d=true):mA a=some (mpA f a):=by
 have hv:=AV.of h;have hs:∀s∈a.Subs,vL s=some (f s):=λs hs=>by
  simp only[accB,bA,cb] at h;exact hch s (h.2 s hs)
 have h2:=hv.2.1;have hl:=zLB a (by omega) hs _ 0 [] (cu _) rfl;rw[nZ,co,cj] at hl;unfold mA;simp only[hl,oB,oS,oP];rfl
def mpE(f:zC->zC):Nat->zD->zD
 | 0,e=>e
 | n+1,e=>.mk e.Kind e.Num (if e.Kind=2 then f e.Index else⟨[],0⟩) (if e.Kind=3 then mpA f e.Read else⟨⟨[]⟩,[]⟩) (e.Kids.map (mpE f n))
theorem mpEV{d:Int}{f:zC->zC}(hch:∀a,okA d a=true->vL a=some (f a)):∀(n:Nat) (e:zD),shapeB d n e=true->mO e=some (mpE f n e)
 | 0,e,h=>by cases h
 | n+1,e,h=>by
  rw[mO,mpE]
  obtain⟨h1,h2⟩:=nF h
  have hkl:rA e 0 []=some (e.Kids.map (mpE f n)):=by
   rcases h1 with hk|⟨a,b,hk⟩
   ·rw[rA]
    simp[hk]
   ·have ra:=mpEV hch n a (h2 a (by rw[hk];simp))
    have rb:=mpEV hch n b (h2 b (by rw[hk];simp))
    have l0:((0:Int)<(e.Kids.length:Int)):=by rw[hk];simp
    have l1:((1:Int)<(e.Kids.length:Int)):=by rw[hk];simp
    have l2:¬((2:Int)<(e.Kids.length:Int)):=by rw[hk];simp
    have i0:idx e.Kids 0=some a:=by rw[hk];rfl
    have i1:idx e.Kids 1=some b:=by rw[hk];rfl
    have w0:W ((0:Int)+1)=1:=by rw[mG (by omega) (by omega)];rfl
    have w1:W ((1:Int)+1)=2:=by rw[mG (by omega) (by omega)];rfl
    have p0:app 112 ([]:List zD) [mpE f n a]=some [mpE f n a]:=by rw[nE (by simp)];rfl
    have p1:app 112 [mpE f n a] [mpE f n b]=some [mpE f n a,mpE f n b]:=by rw[nE (by simp)];rfl
    rw[rA]
    simp only[l0,dT,if_true,oB,oS,i0,same,ra,p0,w0]
    rw[rA]
    simp only[l1,dT,if_true,oB,oS,i1,same,rb,p1,w1]
    rw[rA]
    simp only[l2,dF,bF,if_false,oP,id]
    rw[hk];rfl
  rcases zIt h with hk|⟨hk,_⟩
  ·rcases hk with k|k|k
   ·have e2:(e.Kind==2)=false:=by simp;omega
    have e3:(e.Kind==3)=false:=by simp;omega
    rw[if_neg (show ¬e.Kind=2 by omega),if_neg (show ¬e.Kind=3 by omega)]
    simp[e2,e3,same,hkl]
   ·have e2:(e.Kind==2)=true:=by simpa using k
    rw[if_pos k,if_neg (show ¬e.Kind=3 by omega)]
    simp[e2,same,hkl,hch _ (zI7 h k)]
   ·have e2:(e.Kind==2)=false:=by simp;omega
    have e3:(e.Kind==3)=true:=by simpa using k
    rw[if_neg (show ¬e.Kind=2 by omega),if_pos k]
    simp[e2,e3,same,hkl,mpAV hch (zEY h k).2]
  ·have e2:(e.Kind==2)=false:=by simp;omega
   have e3:(e.Kind==3)=false:=by simp;omega
   rw[if_neg (show ¬e.Kind=2 by omega),if_neg (show ¬e.Kind=3 by omega)]
   simp[e2,e3,same,hkl]
def mpS(f:zC->zC)(s:zJ):zJ:=⟨mpA f s.Write,mpE f 5 s.Value⟩
theorem mpSV{d:Int}{f:zC->zC}(hch:∀a,okA d a=true->vL a=some (f a)){s:zJ}(h:stmtB s d=true):eN s=some (mpS f s):=by
 have hw:accB s.Write d=true:=by simp only[stmtB,bA] at h;exact h.1.2
 unfold eN;simp only[mpAV hch hw,mpEV hch 5 _ (eT h).2.1,oB,oS,oP];rfl
def leD:List Int->List Int->Prop
 | [],[]=>True
 | x::xs,y::ys=>x<=y/\leD xs ys
 | [],_::_=>False
 | _::_,[]=>False
theorem leD.trans:∀{a b c:List Int},leD a b->leD b c->leD a c
 | [],[],[],_,_=>trivial
 | x::a,y::b,z::c,h,k=>⟨Int.le_trans h.1 k.1,leD.trans h.2 k.2⟩
theorem ownAf(a:zC)(h:BA a):vL a=some a:=by
 unfold vL;rw[zDJ a.Coefs (by unfold BA at h;omega)];rfl
theorem zBA{α:Type}{l:List α}{f:Int->List α->Option (List α)}(k:Nat)(g:α->Option α)(hl:l.length<=1048576)(hk:k<=1000)(heq:∀(i:Int) o,f i o=if decide (i<(l.length:Int))=true then(idx l i).bind λx=>(g x).bind λy=>(app k o [y]).bind λo'=>f (W (i+1)) o' else some o)(hg:∀x∈l,g x=some x):f 0 []=some l:=by
 refine dX (λi hi o ho=>?_) (λo=>?_)
 ·rw[heq];have k1:((i:Int)<(l.length:Int)):=by omega
  have hm:(o.length+1)*k<=1048576*1000:=Nat.mul_le_mul (by omega) hk;have happ:app k o [l[i]]=some (o++[l[i]]):=nE (by simp;omega);simp only[k1,dT,if_true,xJ hi,oS,hg _ (gM hi),happ];rw[rC (by omega)]
 ·rw[heq];simp
theorem ownAfs(l:List zC)(h:BL l):rB l=some l:=by
 unfold rB;rw[show tY l [] 0=some l from zBA (f:=λi o=>tY l o i) 32 _ (by have:=h.1;omega) (by omega) (λi o=>by rw[tY];rfl) λx hx=>ownAf x (h.2 x hx)];rfl
theorem ownNs(l:List zL)(h:BN l):eO l=some l:=by
 unfold eO;rw[show pD l [] 0=some l from zBA (f:=λi o=>pD l o i) 48 (λx=>(rB x.Lo).bind λy=>(rB x.Hi).bind λz=>some ⟨y,z⟩) h.1 (by omega) (λi o=>by rw[pD];simp only[oB,Option.bind_assoc,oS,oP,id]) λx hx=>by
  rw[ownAfs _ (h.2 x hx).1,ownAfs _ (h.2 x hx).2];rfl];rfl
theorem zEZ{a:zC}(h:noA a=true):a=⟨[],0⟩:=by
 simp only[noA,bA,decide_eq_true_eq,beq_iff_eq] at h;obtain⟨C,k⟩:=a;obtain⟨h1,h2⟩:=h;have:=dq.1 h1;simp only at this h2;rw[this,h2]
theorem zE0{a:zK}(h:noC a=true):a=⟨⟨[]⟩,[]⟩:=by
 simp only[noC,bA,decide_eq_true_eq,beq_iff_eq] at h;obtain⟨⟨N⟩,S⟩:=a;obtain⟨h1,h2⟩:=h;have:=dq.1 h2;simp only at this h1;rw[this,h1]
theorem zKM(a:zK):mpA (λa=>a) a=a:=by unfold mpA;rw[List.map_id']
theorem zKN{d:Int}:∀(n:Nat) (e:zD),shapeB d n e=true->mpE (λa=>a) n e=e
 | 0,e,h=>rfl
 | n+1,e,h=>by
  obtain⟨_,h2⟩:=nF h
  have hk:e.Kids.map (mpE (λa=>a) n)=e.Kids:=by
   rw[List.map_congr_left (g:=λk=>k) (λk hk=>zKN n k (h2 k hk))];exact List.map_id' _
  simp only[shapeB,bA] at h
  have ho:=h.1.2
  rw[mpE,hk]
  have hI:(if e.Kind=2 then e.Index else(⟨[],0⟩:zC))=e.Index:=by
   by_cases h2:e.Kind=2
   ·rw[if_pos h2]
   ·rw[if_neg h2]
    unfold ownB at ho
    rw[if_neg h2] at ho
    by_cases h3:e.Kind=3
    ·rw[if_pos h3,bA,bA] at ho
     exact(zEZ ho.1.2).symm
    ·rw[if_neg h3] at ho
     by_cases h1:e.Kind=1
     ·rw[if_pos h1,bA,bA] at ho
      exact(zEZ ho.1.2).symm
     ·rw[if_neg h1,bA,bA] at ho
      exact(zEZ ho.1.2).symm
  have hR:(if e.Kind=3 then mpA (λa=>a) e.Read else(⟨⟨[]⟩,[]⟩:zK))=e.Read:=by
   by_cases h3:e.Kind=3
   ·rw[if_pos h3,zKM]
   ·rw[if_neg h3]
    unfold ownB at ho
    by_cases h2:e.Kind=2
    ·rw[if_pos h2,bA,bA] at ho
     exact(zE0 ho.1.2).symm
    ·rw[if_neg h2,if_neg h3] at ho
     by_cases h1:e.Kind=1
     ·rw[if_pos h1,bA,bA] at ho
      exact(zE0 ho.2).symm
     ·rw[if_neg h1,bA,bA] at ho
      exact(zE0 ho.2).symm
  rw[hI,hR]
  clear hI hR hk ho h h2
  cases e;rfl
theorem zLC{s:zJ}{d:Int}(h:stmtB s d=true):mpS (λa=>a) s=s:=by
 unfold mpS;rw[zKM,zKN 5 _ (eT h).2.1]
theorem ownSt{s:zJ}{d:Int}(h:stmtB s d=true):gD s=some s:=by
 unfold gD;rw[mpSV (d:=d) (f:=λa=>a) (λb hb=>ownAf b (by
  simp only[okA,validB,bA,decide_eq_true_eq] at hb;have:=hb.1.1.1;unfold BA;omega)) h,zLC h]
 rfl
theorem ownPt{x:zN}(hb:BP x)(h:bodyB x=true):eQ x=some x:=by
 obtain⟨b1,b2,b3⟩:=zAV h;unfold eQ;rw[show pE x 0 []=some x.Body from zBA (f:=λi o=>pE x i o) 152 _ (by omega) (by omega) (λi o=>by rw[pE];rfl) λs hs=>ownSt (b3 s hs),ownNs _ hb.1];rfl
theorem ownPg{P:zV}(hb:BG P)(hv:validP P=true):mQ P=some P:=by
 obtain⟨⟨a1,a2⟩,p1,p2⟩:=hb;unfold mQ;rw[show tM P 0 []=some P.Arrays from zBA (f:=λi o=>tM P i o) 40 (λx=>(wU x.Dims).bind λy=>some ⟨x.Name,y⟩) a1 (by omega) (λi o=>by rw[tM];simp only[oB,Option.bind_assoc,oS,oP,id]) λx hx=>by
  rw[zDJ x.Dims (by have:=a2 x hx;omega)];rfl]
 simp only[oB,oS];rw[show tN P 0 []=some P.Parts from zBA (f:=λi o=>tN P i o) 48 _ p1 (by omega) (λi o=>by rw[tN];rfl) λx hx=>by
  obtain⟨i,hi,rfl⟩:=dv.1 hx;have hp:=(zFf hv).2.2.1 i hi;rw[show gP P i=P.Parts[i] by simp[gP,hi]] at hp;simp only[partB,bA] at hp;exact ownPt (p2 _ hx) hp.1.2]
 rfl
theorem sowAf(a:zC)(h:BA a):pF a=some a:=by
 unfold pF;rw[zAY a.Coefs (by unfold BA at h;omega)];rfl
theorem sowAfs(l:List zC)(h:BL l):uK l=some l:=by
 unfold uK;rw[show vD l [] 0=some l from zBA (f:=λi o=>vD l o i) 32 _ (by have:=h.1;omega) (by omega) (λi o=>by rw[vD];rfl) λx hx=>sowAf x (h.2 x hx)];rfl
theorem sowNs(l:List zL)(h:BN l):pQ l=some l:=by
 unfold pQ;rw[show vV l [] 0=some l from zBA (f:=λi o=>vV l o i) 48 _ h.1 (by omega) (λi o=>by rw[vV];rfl) λx hx=>by
  unfold fO;rw[sowAfs _ (h.2 x hx).1,sowAfs _ (h.2 x hx).2];rfl];rfl
theorem sowAc(a:zK)(h:BL a.Subs):pG a=some a:=by
 unfold pG;rw[sowAfs _ h];rfl
theorem sowE:∀(m:Nat) (e:zD),BE m e->qK e=some e
 | m,e,h=>by
  obtain⟨h1,h2,h3⟩:=h.own
  rw[qK]
  have hL:pR e.Kids=some e.Kids:=by
   rw[pR]
   simp only[same]
   rw[show tC e.Kids [] 0=some e.Kids from zBA (f:=λi o=>tC e.Kids o i) 112 qK (by omega) (by omega) (λi o=>by rw[tC];rfl) λx hx=>by
    obtain⟨m',hm,hm'⟩:=h.kid hx
    exact sowE m' x hm'];rfl
  simp only[sowAf _ h1,sowAc _ h2,hL,oB,oS,oP]
  clear hL h h1 h2 h3
  cases e;rfl
theorem sowSt(s:zJ)(h:BS s):kV s=some s:=by
 obtain⟨h1,m,h2⟩:=h;unfold kV;rw[sowAc _ h1,sowE m _ h2];rfl
theorem sowPt(x:zN)(h:BP x):kW x=some x:=by
 obtain⟨b1,b2,b3⟩:=h;unfold kW mT;rw[show vW x.Body [] 0=some x.Body from zBA (f:=λi o=>vW x.Body o i) 152 _ b2 (by omega) (λi o=>by rw[vW];rfl) λs hs=>sowSt s (b3 s hs),sowNs _ b1];rfl
theorem sowPg(P:zV)(h:BG P):oR P=some P:=by
 obtain⟨⟨a1,a2⟩,p1,p2⟩:=h;unfold oR nO mU;rw[show vK P.Arrays [] 0=some P.Arrays from zBA (f:=λi o=>vK P.Arrays o i) 40 _ a1 (by omega) (λi o=>by rw[vK];rfl) λx hx=>by
  unfold gK;rw[zAY x.Dims (by have:=a2 x hx;omega)];rfl,show vX P.Parts [] 0=some P.Parts from zBA (f:=λi o=>vX P.Parts o i) 48 _ p1 (by omega) (λi o=>by rw[vX];rfl) λx hx=>sowPt x (p2 x hx)]
 rfl
theorem xK(a b c d e):(zD.mk a b c d e).Kind=a:=rfl
theorem xN(a b c d e):(zD.mk a b c d e).Num=b:=rfl
theorem xI(a b c d e):(zD.mk a b c d e).Index=c:=rfl
theorem xR(a b c d e):(zD.mk a b c d e).Read=d:=rfl
theorem xC(a b c d e):(zD.mk a b c d e).Kids=e:=rfl
def numE(n:Int):zD:=⟨1,n,⟨[],0⟩,⟨⟨[]⟩,[]⟩,[]⟩
def opE(k:Int)(x y:zD):zD:=⟨k,0,⟨[],0⟩,⟨⟨[]⟩,[]⟩,[x,y]⟩
def isN(x:zD)(n:Int):Bool:=(x.Kind==1)&&(x.Num==n)
def opN(k x y:Int):Int:=if k=5 then x - y else if k=6 then x*y else x+y
def opF(k:Int)(x y:zD):zD:=
 if x.Kind=1/\y.Kind=1 then(if 0<=opN k x.Num y.Num/\opN k x.Num y.Num<=99 then numE (opN k x.Num y.Num) else opE k x y)
 else if(k ≠ 6/\isN y 0=true)∨(k=6/\isN y 1=true) then x
 else if(k=4/\isN x 0=true)∨(k=6/\isN x 1=true) then y
 else if k=6/\(isN x 0=true∨isN y 0=true) then numE 0
 else opE k x y
def foE:Nat->zD->zD
 | 0,e=>e
 | n+1,e=>if e.Kind=2/\depF e.Index=0/\0<=e.Index.Const then numE e.Index.Const
  else match e.Kids with
   | [a,b]=>opF e.Kind (foE n a) (foE n b)
   | _=>e
def nuB(x:zD):Prop:=x.Kind=1->0<=x.Num/\x.Num<=99
theorem numV(n:Int):zAT n=some (numE n):=rfl
theorem sNumV(n:Int):fB n=some (numE n):=rfl
theorem isNV(x:zD)(n:Int):rG x n=some (isN x n):=by
 unfold rG isN;cases h:(x.Kind==1) <;> simp
theorem sIsV(x:zD)(n:Int):oM x n=some (isN x n):=by
 unfold oM isN;cases h:(x.Kind==1) <;> simp
theorem zJN{k x y:Int}(hx:0<=x/\x<=99)(hy:0<=y/\y<=99):W (x - y)=x - y/\W (x*y)=x*y/\W (x+y)=x+y:=by
 have h1:0<=x*y:=Int.mul_nonneg hx.1 hy.1;have h2:x*y<=99*99:=Int.mul_le_mul hx.2 hy.2 hy.1 (by omega);exact⟨mG (by omega) (by omega),mG (by omega) (by omega),mG (by omega) (by omega)⟩
theorem zGw{d:Int}:∀(n:Nat) (e:zD),shapeB d n e=true->shapeB d (n+1) e=true
 | 0,e,h=>by simp[shapeB] at h
 | n+1,e,h=>by
  rw[shapeB] at h ⊢
  simp only[bA,cb] at h ⊢
  exact⟨h.1,λk hk=>zGw n k (h.2 k hk)⟩
theorem zIu{d:Int}:∀(n:Nat) (e:zD),shapeB d n e=true->cnt (n+1) e=cnt n e
 | 0,e,h=>by simp[shapeB] at h
 | n+1,e,h=>by
  have hk:=(nF h).2
  rw[cnt,cnt]
  rw[List.map_congr_left (λk hk'=>zIu n k (hk k hk'))]
theorem zGx{d:Int}:∀(n:Nat) (e:zD),shapeB d n e=true->readsF (n+1) e=readsF n e
 | 0,e,h=>by simp[shapeB] at h
 | n+1,e,h=>by
  have hk:=(nF h).2
  rw[readsF,readsF]
  have:=List.map_congr_left (λk hk'=>zGx n k (hk k hk'))
  simp only[List.flatMap_def,this]
theorem zHV{d:Int}{n:Nat}{v:Int}(h:0<=v/\v<=99):shapeB d (n+1) (numE v)=true:=by
 simp[shapeB,numE,kidsN,ownB,noA,noC,h.1,h.2,xK,xN,xI,xR,xC]
theorem zJO{n:Nat}{v:Int}:cnt (n+1) (numE v)=1:=by simp[cnt,numE,xC]
theorem zHW{n:Nat}{v:Int}:readsF (n+1) (numE v)=[]:=by simp[readsF,numE,xC,xK]
theorem zKO{d:Int}{n:Nat}{k:Int}{x y:zD}(hk:k=4∨k=5∨k=6)(hx:shapeB d n x=true)(hy:shapeB d n y=true):shapeB d (n+1) (opE k x y)=true:=by
 rcases hk with rfl|rfl|rfl <;> simp[shapeB,opE,kidsN,ownB,noA,noC,hx,hy,xK,xN,xI,xR,xC]
theorem zKP{n:Nat}{k:Int}{x y:zD}:cnt (n+1) (opE k x y)=1+(cnt n x+cnt n y):=by simp[cnt,opE,xC]
theorem zI9{n:Nat}{k:Int}{x y:zD}(hk:k=4∨k=5∨k=6):readsF (n+1) (opE k x y)=readsF n x++readsF n y:=by
 rcases hk with rfl|rfl|rfl <;> simp[readsF,opE,xC,xK]
theorem zFK{d:Int}{n:Nat}{e:zD}(h:shapeB d n e=true):nuB e:=by
 intro h1;cases n with
 | zero=>simp[shapeB] at h
 | succ n=>
  rw[shapeB] at h;simp only[bA] at h;have:=h.1.2;unfold ownB at this;rw[if_neg (by omega),if_neg (by omega),if_pos h1] at this;simp only[bA,decide_eq_true_eq] at this;exact this.1.1
theorem zGy{d:Int}{n:Nat}{e:zD}(h:shapeB d (n+1) e=true):(e.Kids=[]/\(e.Kind=1∨e.Kind=2∨e.Kind=3))∨(∃a b,e.Kids=[a,b]/\(e.Kind=4∨e.Kind=5∨e.Kind=6)/\e=opE e.Kind a b/\shapeB d n a=true/\shapeB d n b=true):=by
 have hk:=nF h;rw[shapeB] at h;simp only[bA] at h;have h1:=eq_of_beq h.1.1;have ho:=h.1.2;rcases hk.1 with e0|⟨a,b,e0⟩
 ·rw[e0] at h1;left;refine⟨e0,?_⟩;unfold kidsN at h1;by_cases c:e.Kind=1∨e.Kind=2∨e.Kind=3
  ·exact c
  ·rw[if_neg c] at h1;split at h1 <;> simp at h1
 ·rw[e0] at h1;right;have hkd:e.Kind=4∨e.Kind=5∨e.Kind=6:=by
   unfold kidsN at h1;split at h1
   ·simp at h1
   ·rename_i c;split at h1
    ·assumption
    ·simp at h1
  refine⟨a,b,e0,hkd,?_,hk.2 a (by rw[e0];simp),hk.2 b (by rw[e0];simp)⟩;unfold ownB at ho;rw[if_neg (by omega),if_neg (by omega),if_neg (by omega)] at ho;simp only[bA] at ho;have hn:e.Num=0:=eq_of_beq ho.1.1;have hI:=zEZ ho.1.2;have hR:=zE0 ho.2;clear ho h1 h hk;cases e
  simp only[xN,xI,xR,xC] at hn hI hR e0;subst hn hI hR e0;rfl
theorem zKj{d:Int}{n:Nat}{k:Int}{x y:zD}(hk:k=4∨k=5∨k=6)(hx:shapeB d n x=true)(hy:shapeB d n y=true):
 shapeB d (n+1) (opF k x y)=true/\cnt (n+1) (opF k x y)<=1+(cnt n x+cnt n y)/\∀a∈readsF (n+1) (opF k x y),a∈readsF n x∨a∈readsF n y:=by
 have hop:shapeB d (n+1) (opE k x y)=true/\cnt (n+1) (opE k x y)<=1+(cnt n x+cnt n y)/\∀a∈readsF (n+1) (opE k x y),a∈readsF n x∨a∈readsF n y:=
  ⟨zKO hk hx hy,by rw[zKP];omega,λa ha=>by rw[zI9 hk] at ha;exact dj.1 ha⟩
 have hnu:∀v,0<=v/\v<=99->shapeB d (n+1) (numE v)=true/\cnt (n+1) (numE v)<=1+(cnt n x+cnt n y)/\∀a∈readsF (n+1) (numE v),a∈readsF n x∨a∈readsF n y:=
  λv hv=>⟨zHV hv,by rw[zJO];omega,λa ha=>by rw[zHW] at ha;cases ha⟩
 unfold opF
 split
 ·split
  ·rename_i h;exact hnu _ h
  ·exact hop
 ·split
  ·exact⟨zGw n x hx,by rw[zIu n x hx];omega,λa ha=>.inl (by rw[zGx n x hx] at ha;exact ha)⟩
  ·split
   ·exact⟨zGw n y hy,by rw[zIu n y hy];omega,λa ha=>.inr (by rw[zGx n y hy] at ha;exact ha)⟩
   ·split
    ·exact hnu 0 (by omega)
    ·exact hop
theorem zIa{e:zD}{d:Int}{n:Nat}(h:shapeB d (n+1) e=true)(h2:e.Kind=2)(h0:0<=e.Index.Const):0<=e.Index.Const/\e.Index.Const<=99:=by
 rw[shapeB] at h;simp only[bA] at h;have:=h.1.2;unfold ownB at this;rw[if_pos h2] at this;simp only[bA,okA,validB,constB,decide_eq_true_eq] at this;omega
theorem zCL{d:Int}:∀(n:Nat) (e:zD),shapeB d n e=true->shapeB d n (foE n e)=true/\cnt n (foE n e)<=cnt n e/\∀a∈readsF n (foE n e),a∈readsF n e
 | 0,e,h=>by simp[shapeB] at h
 | n+1,e,h=>by
  rw[foE]
  by_cases hc:e.Kind=2/\depF e.Index=0/\0<=e.Index.Const
  ·rw[if_pos hc]
   exact⟨zHV (zIa h hc.1 hc.2.2),by rw[zJO,cnt];omega,λa ha=>by rw[zHW] at ha;cases ha⟩
  ·rw[if_neg hc]
   rcases zGy h with⟨e0,hk0⟩|⟨a,b,e0,hk,he,ha,hb⟩
   ·rw[e0]
    exact⟨h,cH _,λa ha=>ha⟩
   ·rw[e0]
    show shapeB d (n+1) (opF e.Kind (foE n a) (foE n b))=true/\cnt (n+1) (opF e.Kind (foE n a) (foE n b))<=_/\_
    obtain⟨a1,a2,a3⟩:=zCL n a ha
    obtain⟨b1,b2,b3⟩:=zCL n b hb
    obtain⟨o1,o2,o3⟩:=zKj (k:=e.Kind) hk a1 b1
    have hce:cnt (n+1) e=1+(cnt n a+cnt n b):=by rw[he];exact zKP
    have hre:readsF (n+1) e=readsF n a++readsF n b:=by rw[he];exact zI9 hk
    refine⟨o1,by omega,λz hz=>?_⟩
    rw[hre]
    rcases o3 z hz with h|h
    ·exact cI _ (a3 z h)
    ·exact cR _ (b3 z h)
theorem implFold{d:Int}:∀(n:Nat) (e:zD),shapeB d n e=true->(∃m,BE m e)->eR e=some (foE n e)
 | 0,e,h,_=>by simp[shapeB] at h
 | n+1,e,h,⟨m,hm⟩=>by
  have hI:=(hm.own).1
  rw[eR,foE]
  rcases zGy h with⟨e0,hk⟩|⟨a,b,e0,hk,he,ha,hb⟩
  ·have hop:nR e.Kind=some false:=by
    unfold nR
    rw[oI]
    have:¬(4<=e.Kind):=by omega
    simp[this]
   rw[e0]
   by_cases h2:e.Kind=2
   ·simp only[h2,bQ,if_true,implDepth _ (show e.Index.Coefs.length<=1048576 by unfold BA at hI;omega),oB,oS,oP,true_and,numV,id]
    by_cases h3:depF e.Index=0
    ·by_cases h4:0<=e.Index.Const
     ·simp[h3,h4]
     ·rw[h2] at hop
      simp[h3,h4,hop]
    ·have:¬((depF e.Index:Int)=0):=by omega
     rw[h2] at hop
     simp[h3,hop]
   ·simp[h2,hop]
  ·obtain⟨m',rfl,ha'⟩:=hm.kid (k:=a) (by rw[e0];simp)
   obtain⟨m2,e2,hb'⟩:=hm.kid (k:=b) (by rw[e0];simp)
   have h2:¬e.Kind=2:=by omega
   have hop:nR e.Kind=some true:=by
    unfold nR
    rw[oI]
    have h5:4<=e.Kind:=by omega
    have h6:e.Kind<=6:=by omega
    simp[h5,h6]
   have i0:idx [a,b] 0=some a:=rfl
   have i1:idx [a,b] 1=some b:=rfl
   have nx:=zFK (zCL n a ha).1
   have ny:=zFK (zCL n b hb).1
   simp only[same,h2,false_and,if_false,beq_iff_eq,oB,oS,oP,hop,i0,i1,implFold n a ha ⟨_,ha'⟩,implFold n b hb ⟨_,hb'⟩,numV,isNV,oI,id,e0,bT,bF]
   generalize foE n a=x at nx ⊢
   generalize foE n b=y at ny ⊢
   unfold opF
   by_cases hxy:x.Kind=1/\y.Kind=1
   ·obtain⟨w1,w2,w3⟩:=zJN (k:=0) (nx hxy.1) (ny hxy.2)
    rw[if_pos hxy]
    simp only[hxy.1,hxy.2,bQ,if_true,w1,w2,w3,oS]
    rcases hk with k4|k4|k4 <;> simp[k4,opN,opE]
    all_goals (split <;> rfl)
   ·rw[if_neg hxy]
    have hb9:(if x.Kind=1 then some (y.Kind==1) else some false)=some false:=by
     by_cases hx:x.Kind=1
     ·rw[if_pos hx]
      have:¬y.Kind=1:=λh=>hxy ⟨hx,h⟩
      simp[this]
     ·rw[if_neg hx]
    rw[hb9]
    rcases hk with k4|k4|k4 <;> cases hx0:isN x 0 <;> cases hx1:isN x 1 <;> cases hy0:isN y 0 <;> cases aw:isN y 1 <;> simp[k4,opE]
end Go.LN
