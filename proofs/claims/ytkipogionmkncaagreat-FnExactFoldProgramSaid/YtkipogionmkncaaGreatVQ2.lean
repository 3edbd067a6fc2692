/- Helper of the proof (see the last text). -/
import Derived.Test.YtkipogionmkncaaGreatVB3
import Derived.Test.YtkipogionmkncaaGreatLnO
import Derived.Test.YtkipogionmkncaaGreatLnDP
import Derived.Test.YtkipogionmkncaaGreatTD
set_option linter.unusedVariables false
set_option linter.unusedSimpArgs false
namespace Go.LN
theorem BE.kids{m:Nat}{e:zD}(h:BE m e):BA e.Index/\BL e.Read.Subs/\∀k∈e.Kids,∃j,BE j k:=by
 refine⟨h.own.1,h.own.2.1,λk hk=>?_⟩;obtain⟨j,_,h2⟩:=h.kid hk;exact⟨j,h2⟩
theorem nodeV{e:zD}(hI:BA e.Index)(h0:e.Kids=[]):mK e=some (if e.Kind=2/\depF e.Index=0/\0<=e.Index.Const then numE e.Index.Const else e):=by
 unfold mK;by_cases h2:e.Kind=2
 ·simp only[h2,bQ,if_true,specDepth _ (show e.Index.Coefs.length<=1048576 by unfold BA at hI;omega),oB,oS,oP,true_and,sNumV,id];by_cases h3:depF e.Index=0
  ·by_cases h4:0<=e.Index.Const <;> simp[h3,h4,h0]
  ·simp[h3,h0]
 ·simp[h2,h0]
theorem nodeO{k:Int}{x y:zD}(hk:k=4∨k=5∨k=6)(nx:nuB x)(ny:nuB y):mK (opE k x y)=some (opF k x y):=by
 have h2:¬k=2:=by omega
 have i0:idx [x,y] 0=some x:=rfl;have i1:idx [x,y] 1=some y:=rfl;have hl:¬((([x,y]:List zD).length:Int)=0):=by simp
 unfold mK;simp only[opE,xK,xC,h2,hl,if_false,beq_iff_eq,oB,oS,oP,i0,i1,sNumV,sIsV,id,bF];unfold opF;by_cases hxy:x.Kind=1/\y.Kind=1
 ·obtain⟨w1,w2,w3⟩:=zJN (k:=0) (nx hxy.1) (ny hxy.2);rw[if_pos hxy];simp only[hxy.1,hxy.2,bQ,if_true,oS];unfold zAX;simp only[xK,oB,oS,oP,w1,w2,w3,sNumV,id,beq_iff_eq];have key:∀(v:Int) (e:zD),(Option.bind (if decide (v<0)=true then some true else some (decide (v>99))) λt=>if t=true then some e else some (numE v))=some (if 0<=v/\v<=99 then numE v else e):=by
   intro v e;by_cases hv:v<0
   ·simp[hv,show ¬(0<=v) by omega]
   ·by_cases h9:v>99
    ·simp[hv,h9,show ¬(v<=99) by omega]
    ·simp[hv,h9,show 0<=v by omega,show v<=99 by omega]
  rcases hk with k4|k4|k4 <;> subst k4
  ·exact(Option.bind_fun_some _).trans (key (x.Num+y.Num) _)
  ·exact(Option.bind_fun_some _).trans (key (x.Num - y.Num) _)
  ·exact(Option.bind_fun_some _).trans (key (x.Num*y.Num) _)
 ·rw[if_neg hxy];have hb9:(if x.Kind=1 then some (y.Kind==1) else some false)=some false:=by
   by_cases hx:x.Kind=1
   ·rw[if_pos hx];have:¬y.Kind=1:=λh=>hxy ⟨hx,h⟩;simp[this]
   ·rw[if_neg hx]
  rw[hb9];rcases hk with k4|k4|k4 <;> cases hx0:isN x 0 <;> cases hx1:isN x 1 <;> cases hy0:isN y 0 <;> cases aw:isN y 1 <;> simp[k4,opE]
theorem specFold{d:Int}:∀(n:Nat) (e:zD),shapeB d n e=true->(∃m,BE m e)->mM e=some (foE n e)
 | 0,e,h,_=>by simp[shapeB] at h
 | n+1,e,h,⟨m,hm⟩=>by
  obtain⟨hI,hR,hkid⟩:=hm.kids
  rw[mM,foE,specCopyAff _ hI,specCopyAcc _ hR]
  rcases zGy h with⟨e0,hk⟩|⟨a,b,e0,hk,he,ha,hb⟩
  ·have l0:vQ (same e) (same 0) []=some []:=by
    rw[vQ];simp[same,e0]
   simp only[l0,oB,oS,oP,id]
   rw[e0]
   have hee:(zD.mk e.Kind e.Num e.Index (zK.mk e.Read.Array e.Read.Subs) [])=e:=by cases e;simp only[xC] at e0;subst e0;rfl
   rw[hee,nodeV hI e0];rfl
  ·obtain⟨j1,hb1⟩:=hkid a (by rw[e0];simp)
   obtain⟨j2,hb2⟩:=hkid b (by rw[e0];simp)
   have h2:¬e.Kind=2:=by omega
   have i0:idx e.Kids 0=some a:=by rw[e0];rfl
   have i1:idx e.Kids 1=some b:=by rw[e0];rfl
   have l2:vQ e 2 [foE n a,foE n b]=some [foE n a,foE n b]:=by
    rw[vQ];simp[e0]
   have l1:vQ e 1 [foE n a]=some [foE n a,foE n b]:=by
    rw[vQ,e0,if_pos (show decide ((1:Int)<(([a,b]:List zD).length:Int))=true from rfl)]
    simp only[show idx [a,b] 1=some b from rfl,oB,oS,same,specFold n b hb ⟨_,hb2⟩]
    rw[show app 112 [foE n a] [foE n b]=some [foE n a,foE n b] from nE (by simp)]
    exact l2
   have l0:vQ (same e) (same 0) []=some [foE n a,foE n b]:=by
    simp only[same]
    rw[vQ,e0,if_pos (show decide ((0:Int)<(([a,b]:List zD).length:Int))=true from rfl)]
    simp only[show idx [a,b] 0=some a from rfl,oB,oS,same,specFold n a ha ⟨_,hb1⟩]
    rw[show app 112 [] [foE n a]=some [foE n a] from nE (by simp)]
    exact l1
   simp only[l0,oB,oS,oP,id]
   have hee:(zD.mk e.Kind e.Num e.Index (zK.mk e.Read.Array e.Read.Subs) [foE n a,foE n b])=opE e.Kind (foE n a) (foE n b):=by
    have h3:e.Num=0/\e.Index=⟨[],0⟩/\e.Read=⟨⟨[]⟩,[]⟩:=by rw[he];exact⟨rfl,rfl,rfl⟩
    rw[h3.1,h3.2.1,h3.2.2];rfl
   rw[hee,nodeO hk (zFK (zCL n a ha).1) (zFK (zCL n b hb).1),if_neg (by omega),e0]
   rfl
def foS(s:zJ):zJ:=⟨s.Write,foE 5 s.Value⟩
def foX(x:zN):zN:=⟨x.Nest,x.Body.map foS⟩
def foP(P:zV):zV:=⟨P.Arrays,P.Parts.map foX⟩
theorem implFoS{s:zJ}{d:Int}(h:stmtB s d=true)(hb:BS s):dP s=some (foS s):=by
 unfold dP;rw[ownSt h];simp only[oB,oS];rw[implFold 5 _ (eT h).2.1 hb.2];rfl
theorem zLD{a:zC}{d:Int}(hd:d<=4)(h:okA d a=true):okA 4 a=true:=by
 simp only[okA,bA,decide_eq_true_eq] at h ⊢;exact⟨h.1,by omega⟩
theorem zKk{a:zK}{d:Int}(hd:d<=4)(h:accB a d=true):accB a 4=true:=by
 unfold accB at h ⊢;simp only[bA,cb] at h ⊢;exact⟨h.1,λx hx=>zLD hd (h.2 x hx)⟩
theorem stmt4{s:zJ}{d:Int}(h:stmtB s d=true):stmtB s 4=true:=by
 unfold stmtB at h ⊢;simp only[bA,decide_eq_true_eq] at h ⊢;exact⟨⟨by omega,zKk h.1.1.2 h.1.2⟩,zI8 h.1.1.2 5 _ h.2.1,h.2.2⟩
theorem specFoS{s:zJ}{d:Int}(h:stmtB s d=true)(hb:BS s):kC s=some (foS s,true):=by
 unfold kC;rw[specStmt s 4 hb,stmt4 h,specCopyAcc _ hb.1,specFold 5 _ (eT h).2.1 hb.2];rfl
theorem zJP{α:Type}{F:List α->Int->Option (List α)}(l:List α)(g:α->Option α)(h:α->α)(hl:l.length<=1048576)(heq:∀o (k:Int),F o k=if decide (k<(l.length:Int))=true then(idx o k).bind λs=>(g s).bind λy=>F (o.set k.toNat y) (W (k+1)) else some o)(hg:∀s∈l,g s=some (h s)):F l 0=some (l.map h):=by
 have main:∀j k:Nat,k+j=l.length->F ((l.take k).map h++l.drop k) (k:Int)=some (l.map h):=by
  intro j
  induction j with
  | zero=>
   intro k hk;rw[heq,if_neg (by simp;omega),show l.drop k=[] from dN.2 (by omega),cT (by omega),ce]
  | succ j ih=>
   intro k hk;have aH:k<l.length:=by omega
   have e1:((l.take k).map h).length=k:=by simp;omega
   rw[heq,if_pos (by simp;omega),gC aH];have hi:idx ((l.take k).map h++l[k]::l.drop (k+1)) (k:Int)=some l[k]:=by
    rw[xJ (by simp;omega)]
    congr 1
    rw[List.getElem_append_right (by omega)];simp only[e1,Nat.sub_self,List.getElem_cons_zero]
   rw[hi];simp only[oS];rw[hg _ (gM aH)];simp only[oS];rw[rC (by omega),iN,List.set_append_right _ _ (by omega),e1,Nat.sub_self,List.set_cons_zero];rw[<- ih (k+1) (by omega)]
   congr 1
   rw[List.take_succ_eq_append_getElem aH,ep,bZ];rfl
 have:=main l.length 0 (cu _);simpa using this
theorem implFoX{x:zN}{A:List zI}(hb:BP x)(h:bodyB x=true):uC (x.Body.length:Int) x.Body 0=some (x.Body.map foS):=by
 obtain⟨b1,b2,b3⟩:=zAV h;exact zJP (F:=λo k=>uC (x.Body.length:Int) o k) x.Body _ foS (by omega) (λo k=>by rw[uC];rfl) λs hs=>implFoS (b3 s hs) (hb.2.2 s hs)
theorem specFoX{x:zN}{A:List zI}(hb:BP x)(h:bodyB x=true):uB (x.Body.length:Int) x.Body 0=some (x.Body.map foS):=by
 obtain⟨b1,b2,b3⟩:=zAV h;exact zJP (F:=λo k=>uB (x.Body.length:Int) o k) x.Body (λs=>(kC s).bind λy=>some y.1) foS (by omega) (λo k=>by rw[uB];simp only[oB,Option.bind_assoc,oS,oP,id]) λs hs=>by rw[specFoS (b3 s hs) (hb.2.2 s hs)];rfl
theorem zHo{P:zV}(hb:BG P)(hv:validP P=true){x:zN}(hx:x∈P.Parts):BP x/\partB P.Arrays x=true:=by
 obtain⟨i,hi,rfl⟩:=dv.1 hx;have hp:=(zFf hv).2.2.1 i hi;rw[show gP P i=P.Parts[i] by simp[gP,hi]] at hp;exact⟨hb.2.2 _ hx,hp⟩
theorem zE1{A:List zI}{x:zN}(h:partB A x=true):bodyB x=true:=by
 simp only[partB,bA] at h;exact h.1.2
def foF(P:zV):zV×Bool:=if validP P then(foP P,true) else(⟨[],[]⟩,false)
theorem implFo(P:zV)(hb:BG P):oG P=some (foF P):=by
 unfold oG foF;rw[implValidP P hb];cases hv:validP P with
 | false=>rfl
 | true=>
  simp only[oB,oS,bT,bF,if_false,if_true,ownPg hb hv,oP];rw[show tO (P.Parts.length:Int) P.Parts 0=some (P.Parts.map foX) from
   zJP (F:=λo k=>tO (P.Parts.length:Int) o k) P.Parts (λx=>(uC (x.Body.length:Int) x.Body 0).bind λb=>some ⟨x.Nest,b⟩) foX hb.2.1 (λo k=>by rw[tO];simp only[oB,Option.bind_assoc,oS,oP,id]) λx hx=>by
    obtain⟨h1,h2⟩:=zHo hb hv hx;rw[implFoX (A:=P.Arrays) h1 (zE1 h2)];rfl]
  rfl
theorem specFo(P:zV)(hb:BG P):mN P=some (foF P):=by
 unfold mN foF;rw[sowPg P hb];simp only[oB,oS];rw[specValidP P hb];cases hv:validP P with
 | false=>rfl
 | true=>
  simp only[oS,bT,bF,if_false,if_true,copyProg P hb,oP];rw[show tI (P.Parts.length:Int) P.Parts 0=some (P.Parts.map foX) from
   zJP (F:=λo k=>tI (P.Parts.length:Int) o k) P.Parts (λx=>(uB (x.Body.length:Int) x.Body 0).bind λb=>some ⟨x.Nest,b⟩) foX hb.2.1 (λo k=>by rw[tI];simp only[oB,Option.bind_assoc,oS,oP,id]) λx hx=>by
    obtain⟨h1,h2⟩:=zHo hb hv hx;rw[specFoX (A:=P.Arrays) h1 (zE1 h2)];rfl]
  rfl
theorem zKQ{s:zJ}{d:Int}(h:stmtB s d=true):stmtB (foS s) d=true/\∀a∈readsF 5 (foS s).Value,a∈readsF 5 s.Value:=by
 have hf:=zCL 5 s.Value (eT h).2.1;refine⟨?_,hf.2.2⟩;unfold stmtB at h ⊢;simp only[bA,decide_eq_true_eq] at h ⊢;exact⟨h.1,hf.1,by show cnt 5 (foE 5 s.Value)<=12;omega⟩
theorem zIb{d:Int}:∀(n:Nat) (e:zD),shapeB d n e=true->BE n e
 | 0,e,h=>by simp[shapeB] at h
 | n+1,e,h=>by
  have hk:=nF h
  have hb:BA e.Index/\BL e.Read.Subs:=by
   rw[shapeB] at h
   simp only[bA] at h
   have ho:=h.1.2
   have bz:BA (⟨[],0⟩:zC):=by unfold BA;simp
   have bl:BL ([]:List zC):=⟨by simp,λ_ h=>by cases h⟩
   have ba:∀a,okA d a=true->BA a:=λa ha=>by
    simp only[okA,validB,bA,decide_eq_true_eq] at ha
    have:=ha.1.1.1
    unfold BA;omega
   unfold ownB at ho
   split at ho
   ·simp only[bA] at ho
    rw[zE0 ho.1.2]
    exact⟨ba _ ho.2,bl⟩
   ·split at ho
    ·simp only[bA] at ho
     rw[zEZ ho.1.2]
     have ha:=ho.2
     unfold accB at ha
     simp only[bA,cb,decide_eq_true_eq] at ha
     exact⟨bz,by omega,λa ha'=>ba a (by simp_all)⟩
    ·split at ho
     ·simp only[bA] at ho
      rw[zEZ ho.1.2,zE0 ho.2];exact⟨bz,bl⟩
     ·simp only[bA] at ho
      rw[zEZ ho.1.2,zE0 ho.2];exact⟨bz,bl⟩
  refine⟨hb.1,hb.2,?_,λk hk'=>zIb n k (hk.2 k hk')⟩
  rcases hk.1 with e0|⟨a,b,e0⟩ <;> rw[e0] <;> simp
theorem zLO{P:zV}(hb:BG P)(hv:validP P=true):BG (foP P):=by
 refine⟨hb.1,by show (P.Parts.map foX).length<=_;rw[lM];exact hb.2.1,λy hy=>?_⟩;obtain⟨x,hx,rfl⟩:=de.1 hy;obtain⟨h1,h2⟩:=zHo hb hv hx;obtain⟨b1,b2,b3⟩:=zAV (zE1 h2);refine⟨h1.1,by show (x.Body.map foS).length<=_;rw[lM];exact h1.2.1,λs hs=>?_⟩;obtain⟨t,ht,rfl⟩:=de.1 hs;exact⟨(h1.2.2 t ht).1,5,zIb 5 _ (eT (zKQ (b3 t ht)).1).2.1⟩
section
variable {α β : Type}
theorem pzI(pre : List α)(x : α)(suf : List α): idx (pre++x :: suf) (pre.length : Int) = some x:=by
 unfold idx
 rw[if_pos (by omega)]
 simp
theorem pzJ{pre : List α}{po : List β}(h : po.length = pre.length)(x : β)(suf : List β): idx (po++x :: suf) (pre.length : Int) = some x:=by rw[<- h];exact pzI po x suf
theorem pzS(pre : List α)(x : α)(suf : List α)(y : α): (pre++x :: suf).set (pre.length : Int).toNat y = pre++y :: suf:=by simp
theorem pzT{pre : List α}{po : List β}(h : po.length = pre.length)(x : β)(suf : List β)(y : β): (po++x :: suf).set (pre.length : Int).toNat y = po++y :: suf:=by rw[<- h];exact pzS po x suf y
theorem pzL(pre : List α)(x : α)(suf : List α): decide ((pre.length : Int)<((pre++x :: suf).length : Int)) = true:=by
 rw[decide_eq_true_eq,cO,cx];omega
theorem pzE(pre : List α): decide ((pre.length : Int)<(pre.length : Int)) = false:=by simp
theorem pzW{pre : List α}{x : α}{suf : List α}(h : (pre++x :: suf).length<=1048576): W ((pre.length : Int)+1) = ((pre.length+1 : Nat) : Int):=by
 rw[cO,cx] at h
 rw[mG (by omega) (by omega)];omega
theorem pzN(pre : List α)(x : α): (pre++[x]).length = pre.length+1:=by simp
theorem pzA(pre : List α)(x : α)(suf : List α): (pre++[x])++suf = pre++x :: suf:=by rw[bZ];rfl
theorem zBS{F : List α -> List β -> Int -> Option (List β)}{c : α -> β}{p : α -> Prop}
 (step : ∀(pre : List α) (x : α) (suf : List α) (po : List β) (z : β) (zs : List β),p x -> po.length = pre.length -> (pre++x :: suf).length<=1048576 -> F (pre++x :: suf) (po++z :: zs) (pre.length : Int) = F (pre++x :: suf) (po++c x :: zs) ((pre.length+1 : Nat) : Int))
 (fin : ∀(pre : List α) (po : List β),F pre po (pre.length : Int) = some po) :
 ∀(suf : List α) (pre : List α) (po zs : List β),(∀x∈suf,p x) -> po.length = pre.length -> zs.length = suf.length -> (pre++suf).length<=1048576 -> F (pre++suf) (po++zs) (pre.length : Int) = some (po++suf.map c)
 | [],pre,po,zs,_,h0,h,_=>by
  have : zs = []:=by simpa using h
  subst this
  rw[ce,ce]
  exact(fin pre po).trans (by simp)
 | x :: suf,pre,po,[],_,_,h,_=>by simp at h
 | x :: suf,pre,po,z :: zs,hp,h1,h2,hl=>by
  rw[step pre x suf po z zs (hp x (ci ..)) h1 hl]
  have:=zBS step fin suf (pre++[x]) (po++[c x]) zs (λy hy=>hp y (cd _ hy)) (by rw[pzN,pzN,h1]) (by simpa using h2) (by rw[pzA];exact hl)
  rw[pzN,pzA,pzA,pzA] at this
  exact this
theorem zBT{F : List α -> List α -> Int -> Option (Out Unit Bool)}{p : α -> Prop}
 (step : ∀(pre : List α) (x : α) (suf : List α),p x -> (pre++x :: suf).length<=1048576 -> F (pre++x :: suf) (pre++x :: suf) (pre.length : Int) = F (pre++x :: suf) (pre++x :: suf) ((pre.length+1 : Nat) : Int))
 (fin : ∀pre : List α,F pre pre (pre.length : Int) = some (.done ())) :
 ∀(suf pre : List α),(∀x∈suf,p x) -> (pre++suf).length<=1048576 -> F (pre++suf) (pre++suf) (pre.length : Int) = some (.done ())
 | [],pre,_,_=>by rw[ce];exact fin pre
 | x :: suf,pre,hp,hl=>by
  rw[step pre x suf (hp x (ci ..)) hl]
  have:=zBT step fin suf (pre++[x]) (λy hy=>hp y (cd _ hy)) (by rw[pzA];exact hl)
  rw[pzN,pzA] at this
  exact this
theorem pzR{by' n : Nat}(a : α)(hn : n<=1048576)(hb : by'<=1000): mkrow by' (n : Int) a = some (List.replicate n a):=by
 unfold mkrow
 rw[Int.toNat_natCast,if_pos ⟨by omega,dx (Nat.mul_le_mul hn hb) (by decide)⟩]
end
def cvF(a : yX): zC:=⟨a.Coefs,a.Const⟩
def cvR(a : wQ): zI:=⟨a.Name,a.Dims⟩
def cvL(a : vZ): zL:=⟨a.Lo.map cvF,a.Hi.map cvF⟩
def cvC(a : tS): zK:=⟨a.Array,a.Subs.map cvF⟩
mutual
def cvE : yB -> zD
 | .mk K N I R Q=>.mk K N (cvF I) (cvC R) (cvEs Q)
def cvEs : List yB -> List zD
 | []=>[]
 | e :: es=>cvE e :: cvEs es
end
theorem zGz : ∀l : List yB,cvEs l = l.map cvE
 | []=>by simp[cvEs]
 | e :: es=>by simp[cvEs,zGz es]
def cvS(a : vG): zJ:=⟨cvC a.Write,cvE a.Value⟩
def cvX(a : vH): zN:=⟨a.Nest.map cvL,a.Body.map cvS⟩
def cvP(a : wT): zV:=⟨a.Arrays.map cvR,a.Parts.map cvX⟩
def mF(a : yX): Prop:=a.Coefs.length<=1048576
def mFs(l : List yX): Prop:=l.length<=1048576 /\ ∀a∈l,mF a
def mR(a : wQ): Prop:=a.Dims.length<=1048576
def mL(a : vZ): Prop:=mFs a.Lo /\ mFs a.Hi
mutual
def mE : yB -> Prop
 | .mk K N I R Q=>mF I /\ mFs R.Subs /\ Q.length<=1048576 /\ mEs Q
def mEs : List yB -> Prop
 | []=>True
 | e :: es=>mE e /\ mEs es
end
def mS(a : vG): Prop:=mFs a.Write.Subs /\ mE a.Value
def mX(a : vH): Prop:=(a.Nest.length<=1048576 /\ ∀x∈a.Nest,mL x) /\ a.Body.length<=1048576 /\ ∀s∈a.Body,mS s
def mP(a : wT): Prop:=(a.Arrays.length<=1048576 /\ ∀x∈a.Arrays,mR x) /\ a.Parts.length<=1048576 /\ ∀x∈a.Parts,mX x
theorem zGK : ∀{l : List yB},mEs l ↔ ∀e∈l,mE e
 | []=>by simp[mEs]
 | e :: es=>by simp[mEs,zGK (l:=es)]
theorem toI(l : List Int)(h : l.length<=1048576): fL l = some l:=by
 unfold fL
 rw[pzR _ h (by decide)]
 have:=zBS (F:=oD) (c:=id) (p:=λ_=>True) (λpre x suf po z zs _ hp hl=>by
  rw[oD]
  simp only[pzL,if_true,pzI,pzJ hp,pzT hp,pzW hl,Option.bind_eq_bind,Option.bind_some,Option.pure_def,id]) (λpre po=>by
  rw[oD]
  simp only[pzE,bY,if_false,Option.pure_def,id]) l [] [] (List.replicate l.length 0) (λ_ _=>trivial) rfl (by simp) h
 simp only[cj,cm,cr,List.map_id] at this
 simp only[Option.bind_eq_bind,Option.bind_some,this,Option.pure_def,id]
theorem toR(a : wQ)(h : mR a): eI a = some (cvR a):=by
 unfold eI
 rw[toI _ h];rfl
theorem toF(a : yX)(h : mF a): kM a = some (cvF a):=by
 unfold kM
 rw[toI _ h];rfl
theorem toFs(l : List yX)(h : l.length<=1048576)(hl : ∀x∈l,mF x): oE l = some (l.map cvF):=by
 unfold oE
 rw[pzR _ h (by decide)]
 have:=zBS (F:=sT) (c:=cvF) (p:=mF) (λpre x suf po z zs hx hp hl=>by
  rw[sT]
  simp only[pzL,if_true,pzI,pzJ hp,pzT hp,pzW hl,toF x hx,Option.bind_eq_bind,Option.bind_some,Option.pure_def,id]) (λpre po=>by
  rw[sT]
  simp only[pzE,bY,if_false,Option.pure_def,id]) l [] [] (List.replicate l.length (zC.mk ([] : List Int) 0)) hl rfl (cK ..) h
 simp only[cj,cm,cr] at this
 simp only[Option.bind_eq_bind,Option.bind_some,this,Option.pure_def,id]
theorem toL(a : vZ)(h : mL a): dL a = some (cvL a):=by
 unfold dL
 rw[toFs _ h.1.1 h.1.2,toFs _ h.2.1 h.2.2];rfl
theorem toC(a : tS)(h : mFs a.Subs): kO a = some (cvC a):=by
 unfold kO
 rw[toFs _ h.1 h.2];rfl
theorem toE : ∀(n : Nat) (e : yB),SizeOf.sizeOf e<=n -> mE e -> nS e = some (cvE e)
 | 0,.mk K N I R Q,hn,_=>by simp at hn
 | n+1,.mk K N I R Q,hn,h=>by
  simp only[mE] at h
  obtain⟨h1,h2,h3,h4⟩:=h
  have hk : ∀k∈Q,nS k = some (cvE k):=λk hk=>toE n k (by
   have:=eh hk
   simp only[yB.mk.sizeOf_spec] at hn
   omega) (zGK.1 h4 k hk)
  have hq : eK Q = some (cvEs Q):=by
   rw[eK,pzR _ h3 (by decide)]
   have:=zBS (F:=nA) (c:=cvE) (p:=λk=>nS k = some (cvE k)) (λpre x suf po z zs hx hp hl=>by
    rw[nA]
    simp only[same,pzL,if_true,pzI,pzJ hp,pzT hp,pzW hl,hx,Option.bind_eq_bind,Option.bind_some,Option.pure_def,id]) (λpre po=>by
    rw[nA]
    simp only[same,pzE,bY,if_false,Option.pure_def,id]) Q [] [] (List.replicate Q.length (zD.mk 0 0 (zC.mk ([] : List Int) 0) (zK.mk (⟨[]⟩ : Str) ([] : List zC)) ([] : List zD))) hk rfl (by simp) h3
   simp only[cj,cm,cr] at this
   simp only[same,Option.bind_eq_bind,Option.bind_some,this,Option.pure_def,id,zGz]
  rw[nS]
  simp only[yB.Index,yB.Read,yB.Kids,yB.Kind,yB.Num,toF _ h1,toC _ h2,hq,Option.bind_eq_bind,Option.bind_some,Option.pure_def]
  simp only[cvE]
theorem toS(a : vG)(h : mS a): dM a = some (cvS a):=by
 unfold dM
 rw[toC _ h.1,toE _ _ (cH _) h.2];rfl
theorem toRs(l : List wQ)(h : l.length<=1048576)(hl : ∀x∈l,mR x): gX l = some (l.map cvR):=by
 unfold gX
 rw[pzR _ h (by decide)]
 have:=zBS (F:=rU) (c:=cvR) (p:=mR) (λpre x suf po z zs hx hp hl=>by
  rw[rU]
  simp only[pzL,if_true,pzI,pzJ hp,pzT hp,pzW hl,toR x hx,Option.bind_eq_bind,Option.bind_some,Option.pure_def,id]) (λpre po=>by
  rw[rU]
  simp only[pzE,bY,if_false,Option.pure_def,id]) l [] [] (List.replicate l.length (zI.mk (⟨[]⟩ : Str) ([] : List Int))) hl rfl (cK ..) h
 simp only[cj,cm,cr] at this
 simp only[Option.bind_eq_bind,Option.bind_some,this,Option.pure_def,id]
theorem toLs(l : List vZ)(h : l.length<=1048576)(hl : ∀x∈l,mL x): eJ l = some (l.map cvL):=by
 unfold eJ
 rw[pzR _ h (by decide)]
 have:=zBS (F:=pA) (c:=cvL) (p:=mL) (λpre x suf po z zs hx hp hl=>by
  rw[pA]
  simp only[pzL,if_true,pzI,pzJ hp,pzT hp,pzW hl,toL x hx,Option.bind_eq_bind,Option.bind_some,Option.pure_def,id]) (λpre po=>by
  rw[pA]
  simp only[pzE,bY,if_false,Option.pure_def,id]) l [] [] (List.replicate l.length (zL.mk ([] : List zC) ([] : List zC))) hl rfl (cK ..) h
 simp only[cj,cm,cr] at this
 simp only[Option.bind_eq_bind,Option.bind_some,this,Option.pure_def,id]
theorem toSs(l : List vG)(h : l.length<=1048576)(hl : ∀x∈l,mS x): eL l = some (l.map cvS):=by
 unfold eL
 rw[pzR _ h (by decide)]
 have:=zBS (F:=pB) (c:=cvS) (p:=mS) (λpre x suf po z zs hx hp hl=>by
  rw[pB]
  simp only[pzL,if_true,pzI,pzJ hp,pzT hp,pzW hl,toS x hx,Option.bind_eq_bind,Option.bind_some,Option.pure_def,id]) (λpre po=>by
  rw[pB]
  simp only[pzE,bY,if_false,Option.pure_def,id]) l [] [] (List.replicate l.length (zJ.mk (zK.mk (⟨[]⟩ : Str) ([] : List zC)) (zD.mk 0 0 (zC.mk ([] : List Int) 0) (zK.mk (⟨[]⟩ : Str) ([] : List zC)) ([] : List zD)))) hl rfl (cK ..) h
 simp only[cj,cm,cr] at this
 simp only[Option.bind_eq_bind,Option.bind_some,this,Option.pure_def,id]
theorem toX(a : vH)(h : mX a): dO a = some (cvX a):=by
 unfold dO
 rw[toLs _ h.1.1 h.1.2,toSs _ h.2.1 h.2.2];rfl
theorem toXs(l : List vH)(h : l.length<=1048576)(hl : ∀x∈l,mX x): eM l = some (l.map cvX):=by
 unfold eM
 rw[pzR _ h (by decide)]
 have:=zBS (F:=pC) (c:=cvX) (p:=mX) (λpre x suf po z zs hx hp hl=>by
  rw[pC]
  simp only[pzL,if_true,pzI,pzJ hp,pzT hp,pzW hl,toX x hx,Option.bind_eq_bind,Option.bind_some,Option.pure_def,id]) (λpre po=>by
  rw[pC]
  simp only[pzE,bY,if_false,Option.pure_def,id]) l [] [] (List.replicate l.length (zN.mk ([] : List zL) ([] : List zJ))) hl rfl (cK ..) h
 simp only[cj,cm,cr] at this
 simp only[Option.bind_eq_bind,Option.bind_some,this,Option.pure_def,id]
theorem toP(a : wT)(h : mP a): qG a = some (cvP a):=by
 unfold qG
 rw[toRs _ h.1.1 h.1.2,toXs _ h.2.1 h.2.2];rfl
theorem eqI(l : List Int)(h : l.length<=1048576): fD l l = some true:=by
 unfold fD
 have:=zBT (F:=pZ) (p:=λ_=>True) (λpre x suf _ hl=>by
  rw[pZ]
  simp only[pzL,if_true,pzI,bne_self_eq_false,bY,if_false,pzW hl,Option.bind_eq_bind,Option.bind_some]) (λpre=>by
  rw[pZ]
  simp only[pzE,bY,if_false,Option.pure_def]) l [] (λ_ _=>trivial) h
 simp only[cj,cm,cr] at this
 simp only[bne_self_eq_false,bY,if_false,this,Option.bind_eq_bind,Option.bind_some,Option.pure_def]
theorem eqR(a : zI)(h : a.Dims.length<=1048576): eB a a = some true:=by
 unfold eB
 simp only[beq_self_eq_true,cL,bY,if_false,eqI _ h,Option.bind_eq_bind,Option.bind_some,Option.pure_def]
theorem eqF(a : zC)(h : BA a): kI a a = some true:=by
 unfold kI
 simp only[eqI _ h,bne_self_eq_false,cL,bY,if_false,Option.bind_eq_bind,Option.bind_some,Option.pure_def]
theorem eqFs(l : List zC)(h : l.length<=1048576)(hl : ∀x∈l,BA x): oA l l = some true:=by
 unfold oA
 have:=zBT (F:=sO) (p:=BA) (λpre x suf hx hl=>by
  rw[sO]
  simp only[pzL,if_true,pzI,eqF x hx,cL,bY,if_false,pzW hl,Option.bind_eq_bind,Option.bind_some]) (λpre=>by
  rw[sO]
  simp only[pzE,bY,if_false,Option.pure_def]) l [] hl h
 simp only[cj,cm,cr] at this
 simp only[bne_self_eq_false,bY,if_false,this,Option.bind_eq_bind,Option.bind_some,Option.pure_def]
theorem eqL(a : zL)(h : BL a.Lo /\ BL a.Hi): dI a a = some true:=by
 unfold dI
 simp only[eqFs _ h.1.1 h.1.2,eqFs _ h.2.1 h.2.2,cL,bY,if_false,Option.bind_eq_bind,Option.bind_some,Option.pure_def]
theorem eqC(a : zK)(h : BL a.Subs): kJ a a = some true:=by
 unfold kJ
 simp only[beq_self_eq_true,eqFs _ h.1 h.2,cL,bY,if_false,Option.bind_eq_bind,Option.bind_some,Option.pure_def]
theorem eqE1(e : zD)(hI : BA e.Index)(hR : BL e.Read.Subs)(hl : e.Kids.length<=1048576)(hk : ∀k∈e.Kids,oN k k = some true): oN e e = some true:=by
 have hq : eD e.Kids e.Kids = some true:=by
  rw[eD]
  have:=zBT (F:=oY) (p:=λk=>oN k k = some true) (λpre x suf hx hl=>by
   rw[oY]
   simp only[same,pzL,if_true,pzI,hx,cL,bY,if_false,pzW hl,Option.bind_eq_bind,Option.bind_some]) (λpre=>by
   rw[oY]
   simp only[same,pzE,bY,if_false,Option.pure_def]) e.Kids [] hk hl
  simp only[cj,cm,cr] at this
  simp only[same,bne_self_eq_false,bY,if_false,this,Option.bind_eq_bind,Option.bind_some,Option.pure_def]
 rw[oN]
 simp only[bne_self_eq_false,eqF _ hI,eqC _ hR,hq,cL,bY,if_false,Option.bind_eq_bind,Option.bind_some,Option.pure_def]
theorem eqE : ∀(n : Nat) (e : zD),BE n e -> oN e e = some true
 | 0,e,⟨h1,h2,h3⟩=>eqE1 e h1 h2 (by rw[h3];simp) (by rw[h3];simp)
 | n+1,e,⟨h1,h2,h3,h4⟩=>eqE1 e h1 h2 h3 λk hk=>eqE n k (h4 k hk)
theorem eqS(a : zJ)(h : BS a): dJ a a = some true:=by
 obtain⟨h1,n,h2⟩:=h
 unfold dJ
 simp only[eqC _ h1,eqE n _ h2,cL,bY,if_false,Option.bind_eq_bind,Option.bind_some,Option.pure_def]
theorem eqRs(l : List zI)(h : l.length<=1048576)(hl : ∀x∈l,(λa=>a.Dims.length<=1048576) x): gV l l = some true:=by
 unfold gV
 have:=zBT (F:=rQ) (p:=(λa=>a.Dims.length<=1048576)) (λpre x suf hx hl=>by
  rw[rQ]
  simp only[pzL,if_true,pzI,eqR x hx,cL,bY,if_false,pzW hl,Option.bind_eq_bind,Option.bind_some]) (λpre=>by
  rw[rQ]
  simp only[pzE,bY,if_false,Option.pure_def]) l [] hl h
 simp only[cj,cm,cr] at this
 simp only[bne_self_eq_false,bY,if_false,this,Option.bind_eq_bind,Option.bind_some,Option.pure_def]
theorem eqLs(l : List zL)(h : l.length<=1048576)(hl : ∀x∈l,(λa=>BL a.Lo/\BL a.Hi) x): eC l l = some true:=by
 unfold eC
 have:=zBT (F:=qU) (p:=(λa=>BL a.Lo/\BL a.Hi)) (λpre x suf hx hl=>by
  rw[qU]
  simp only[pzL,if_true,pzI,eqL x hx,cL,bY,if_false,pzW hl,Option.bind_eq_bind,Option.bind_some]) (λpre=>by
  rw[qU]
  simp only[pzE,bY,if_false,Option.pure_def]) l [] hl h
 simp only[cj,cm,cr] at this
 simp only[bne_self_eq_false,bY,if_false,this,Option.bind_eq_bind,Option.bind_some,Option.pure_def]
theorem eqSs(l : List zJ)(h : l.length<=1048576)(hl : ∀x∈l,BS x): eE l l = some true:=by
 unfold eE
 have:=zBT (F:=qV) (p:=BS) (λpre x suf hx hl=>by
  rw[qV]
  simp only[pzL,if_true,pzI,eqS x hx,cL,bY,if_false,pzW hl,Option.bind_eq_bind,Option.bind_some]) (λpre=>by
  rw[qV]
  simp only[pzE,bY,if_false,Option.pure_def]) l [] hl h
 simp only[cj,cm,cr] at this
 simp only[bne_self_eq_false,bY,if_false,this,Option.bind_eq_bind,Option.bind_some,Option.pure_def]
theorem eqX(a : zN)(h : BP a): dK a a = some true:=by
 unfold dK
 simp only[eqLs _ h.1.1 h.1.2,eqSs _ h.2.1 h.2.2,cL,bY,if_false,Option.bind_eq_bind,Option.bind_some,Option.pure_def]
theorem eqXs(l : List zN)(h : l.length<=1048576)(hl : ∀x∈l,BP x): eF l l = some true:=by
 unfold eF
 have:=zBT (F:=qW) (p:=BP) (λpre x suf hx hl=>by
  rw[qW]
  simp only[pzL,if_true,pzI,eqX x hx,cL,bY,if_false,pzW hl,Option.bind_eq_bind,Option.bind_some]) (λpre=>by
  rw[qW]
  simp only[pzE,bY,if_false,Option.pure_def]) l [] hl h
 simp only[cj,cm,cr] at this
 simp only[bne_self_eq_false,bY,if_false,this,Option.bind_eq_bind,Option.bind_some,Option.pure_def]
theorem eqP(a : zV)(h : BG a): qE a a = some true:=by
 unfold qE
 simp only[eqRs _ h.1.1 h.1.2,eqXs _ h.2.1 h.2.2,cL,bY,if_false,Option.bind_eq_bind,Option.bind_some,Option.pure_def]
theorem zKR : ∀(n : Nat) (k : Int) (out : Str),0<=k -> k<(10 : Int) ^ n -> k<=4611686018427387904 -> out.l.length+n<=1000 -> ∃s,rR k out = some s /\ s.l.length<=1000
 | 0,k,out,h0,h1,_,h2=>by
  have : k = 0:=by
   have : (10 : Int) ^ 0 = 1:=rfl
   omega
  subst this
  rw[rR]
  exact⟨out,rfl,by omega⟩
 | n+1,k,out,h0,h1,hb,h2=>by
  rw[rR]
  by_cases hk : k>0
  ·have ht : k.tdiv 10 = k / 10:=Int.tdiv_eq_ediv_of_nonneg h0
   have hp : (10 : Int) ^ (n+1) = (10 : Int) ^ n*10:=Int.pow_succ ..
   have hc : ∀c : UInt8,cat (⟨[c]⟩ : Str) out = some ⟨c :: out.l⟩:=λc=>by
    unfold cat
    rw[if_pos (by simp;omega)];rfl
   obtain⟨s,h3,h4⟩:=zKR n (k / 10) ⟨u8 (W (48+k.tmod 10)) :: out.l⟩ (by omega) (by omega) (by omega) (by simp;omega)
   refine⟨s,?_,h4⟩
   simp only[hk,decide_true,if_true,hc,ht,mG (x:=k / 10) (by omega) (by omega),Option.bind_eq_bind,Option.bind_some]
   exact h3
  ·simp only[hk,decide_false,bY,if_false,Option.pure_def,id]
   exact⟨out,rfl,by omega⟩
theorem txtV(k : Int)(h0 : 1<=k)(h1 : k<=4611686018427387904): ∃s,uH k = some s:=by
 unfold uH
 obtain⟨s,h2,h3⟩:=zKR 19 k ⟨[]⟩ (by omega) (Int.lt_of_le_of_lt h1 (by decide)) h1 (by simp)
 have hc : cat (⟨[109]⟩ : Str) s = some ⟨109 :: s.l⟩:=by
  unfold cat
  rw[if_pos (by simp;omega)];rfl
 have hk : ¬ k<=0:=by omega
 simp only[hk,decide_false,bY,if_false,h2,hc,Option.bind_eq_bind,Option.bind_some,Option.pure_def,id]
 exact⟨_,rfl⟩
section
variable {α : Type}
theorem zBU{F : List α -> Int -> Int -> Option (Int × List α)}{H : List α -> Int -> Int -> Option (Out Int Int)}{w : α -> Nat}{p : α -> Prop}
 (step : ∀(x : α) (k : Int),p x -> 1<=k -> k+(w x : Int)<=4611686018427387904 -> ∃y,
  (∀pre suf : List α,(pre++x :: suf).length<=1048576 -> F (pre++x :: suf) k (pre.length : Int) = F (pre++y :: suf) (k+(w x : Int)) ((pre.length+1 : Nat) : Int)) /\
  ∀pre suf : List α,(pre++y :: suf).length<=1048576 -> H (pre++y :: suf) k (pre.length : Int) = H (pre++y :: suf) (k+(w x : Int)) ((pre.length+1 : Nat) : Int))
 (fF : ∀(pre : List α) (k : Int),F pre k (pre.length : Int) = some (k,pre)) (fH : ∀(pre : List α) (k : Int),H pre k (pre.length : Int) = some (.done k)) :
 ∀(suf : List α) (k : Int),(∀x∈suf,p x) -> 1<=k -> k+(((suf.map w).sum : Nat) : Int)<=4611686018427387904 -> ∃suf',suf'.length = suf.length /\
   (∀pre : List α,(pre++suf).length<=1048576 -> F (pre++suf) k (pre.length : Int) = some (k+(((suf.map w).sum : Nat) : Int),pre++suf')) /\
   ∀pre : List α,(pre++suf').length<=1048576 -> H (pre++suf') k (pre.length : Int) = some (.done (k+(((suf.map w).sum : Nat) : Int)))
 | [],k,_,_,_=>⟨[],rfl,λpre _=>by rw[ce,fF];simp,λpre _=>by rw[ce,fH];simp⟩
 | x :: suf,k,hp,h1,h2=>by
  have e : (((x :: suf).map w).sum) = w x+(suf.map w).sum:=by simp
  rw[e] at h2 ⊢
  obtain⟨y,s1,s2⟩:=step x k (hp x (ci ..)) h1 (by omega)
  obtain⟨suf',g0,g1,g2⟩:=zBU step fF fH suf (k+(w x : Int)) (λz hz=>hp z (cd _ hz)) (by omega) (by omega)
  have ek : k+(w x : Int)+(((suf.map w).sum : Nat) : Int) = k+((w x+(suf.map w).sum : Nat) : Int):=by omega
  refine⟨y :: suf',by simp[g0],λpre hl => ?_,λpre hl => ?_⟩
  ·have:=g1 (pre++[y]) (by simp at hl ⊢;omega)
   rw[pzN,pzA,pzA,ek] at this
   rw[s1 pre suf hl,this]
  ·have:=g2 (pre++[y]) (by rw[pzA];exact hl)
   rw[pzN,pzA,ek] at this
   rw[s2 pre suf' hl,this]
def MkS(mark : List α -> Int -> Option (Int × List α))(held : List α -> Int -> Option Int)(l : List α)(w : Nat): Prop:=
 ∀k : Int,1<=k -> k+(w : Int)<=4611686018427387904 -> ∃l',l'.length = l.length /\ mark l k = some (k+(w : Int),l') /\ held l' k = some (k+(w : Int))
end
theorem nonneg{k : Int}(h : 1<=k)(n : Nat): decide (k+(n : Int)<0) = false:=by rw[decide_eq_false_iff_not];omega
theorem sum1{α : Type}(l : List α): (l.map λ_=>1).sum = l.length:=by
 induction l with
 | nil=>rfl
 | cons x l ih=>simp[ih];omega
theorem mkI(l : List Int)(h : l.length<=1048576): MkS kQ pM l l.length:=by
 intro k h1 h2
 obtain⟨l',g0,g1,g2⟩:=zBU (F:=rV) (H:=rS) (w:=λ_=>1) (p:=λ_=>True) (λx k _ h1 h2=>by
  have e : W (k+1) = k+((1 : Nat) : Int):=by rw[mG (by omega) (by omega)];rfl
  refine⟨k,λpre suf hl => ?_,λpre suf hl => ?_⟩
  ·rw[rV]
   simp only[pzL,if_true,pzI,pzS,pzW hl,e,Option.bind_eq_bind,Option.bind_some]
  ·rw[rS]
   simp only[pzL,if_true,pzI,bne_self_eq_false,bY,if_false,pzW hl,e,Option.bind_eq_bind,Option.bind_some]) (λpre k=>by
  rw[rV]
  simp only[pzE,bY,if_false,Option.pure_def]) (λpre k=>by
  rw[rS]
  simp only[pzE,bY,if_false,Option.pure_def]) l k (λ_ _=>trivial) h1 (by rw[sum1];exact h2)
 have g1:=g1 [] h
 have g2:=g2 [] (by rw[cj,g0];exact h)
 rw[sum1] at g1 g2
 simp only[cj,cm,cr] at g1 g2
 refine⟨l',g0,g1,?_⟩
 unfold pM
 simp only[g2,Option.bind_eq_bind,Option.bind_some,Option.pure_def,id]
theorem mkFs(l : List zC)(h : l.length<=1048576)(hl : ∀x∈l,BA x): MkS rW uW l (l.map (λx=>x.Coefs.length+1)).sum:=by
 intro k h1 h2
 obtain⟨l',g0,g1,g2⟩:=zBU (F:=tL) (H:=tK) (w:=(λx=>x.Coefs.length+1)) (p:=BA) (λx k hx h1 h2=>by
  obtain⟨l1,n1,m1,q1⟩:=mkI x.Coefs hx k h1 (by omega)
  have e1 : W (k+(x.Coefs.length : Int)+1) = k+((x.Coefs.length+1 : Nat) : Int):=by rw[mG (by omega) (by omega)];omega
  refine⟨⟨l1,k+(x.Coefs.length : Int)⟩,λpre suf hl => ?_,λpre suf hl => ?_⟩
  ·rw[tL]
   simp only[pzL,if_true,pzI,pzS,pzW hl,m1,e1,Option.bind_eq_bind,Option.bind_some]
  ·rw[tK]
   simp only[pzL,if_true,pzI,pzW hl,q1,e1,nonneg h1,bne_self_eq_false,bY,if_false,Option.bind_eq_bind,Option.bind_some]) (λpre k=>by
  rw[tL]
  simp only[pzE,bY,if_false,Option.pure_def]) (λpre k=>by
  rw[tK]
  simp only[pzE,bY,if_false,Option.pure_def]) l k hl h1 h2
 have g1:=g1 [] h
 have g2:=g2 [] (by rw[cj,g0];exact h)
 simp only[cj,cm,cr] at g1 g2
 refine⟨l',g0,g1,?_⟩
 unfold uW
 simp only[g2,Option.bind_eq_bind,Option.bind_some,Option.pure_def,id]
def kF(l : List zC): Nat:=(l.map λx=>x.Coefs.length+1).sum
theorem mkRs(l : List zI)(h : l.length<=1048576)(hl : ∀x∈l,(λx=>x.Dims.length<=1048576) x): MkS zAJ jB l (l.map (λx=>x.Dims.length+1)).sum:=by
 intro k h1 h2
 obtain⟨l',g0,g1,g2⟩:=zBU (F:=tX) (H:=tW) (w:=(λx=>x.Dims.length+1)) (p:=(λx=>x.Dims.length<=1048576)) (λx k hx h1 h2=>by
  have e1 : W (k+1) = k+1:=mG (by omega) (by omega)
  obtain⟨s,hs⟩:=txtV k h1 (by omega)
  obtain⟨l1,n1,m1,q1⟩:=mkI x.Dims hx (k+1) (by omega) (by omega)
  have e2 : k+1+(x.Dims.length : Int) = k+((x.Dims.length+1 : Nat) : Int):=by omega
  rw[e2] at m1 q1
  refine⟨⟨s,l1⟩,λpre suf hl => ?_,λpre suf hl => ?_⟩
  ·rw[tX]
   simp only[pzL,if_true,pzI,pzS,pzW hl,hs,m1,e1,Option.bind_eq_bind,Option.bind_some]
  ·rw[tW]
   simp only[pzL,if_true,pzI,pzW hl,hs,q1,e1,nonneg h1,beq_self_eq_true,cL,bne_self_eq_false,bY,if_false,Option.bind_eq_bind,Option.bind_some]) (λpre k=>by
  rw[tX]
  simp only[pzE,bY,if_false,Option.pure_def]) (λpre k=>by
  rw[tW]
  simp only[pzE,bY,if_false,Option.pure_def]) l k hl h1 h2
 have g1:=g1 [] h
 have g2:=g2 [] (by rw[cj,g0];exact h)
 simp only[cj,cm,cr] at g1 g2
 refine⟨l',g0,g1,?_⟩
 unfold jB
 simp only[g2,Option.bind_eq_bind,Option.bind_some,Option.pure_def,id]
def kR(l : List zI): Nat:=(l.map λx=>x.Dims.length+1).sum
theorem mkLs(l : List zL)(h : l.length<=1048576)(hl : ∀x∈l,(λx=>BL x.Lo/\BL x.Hi) x): MkS zAQ jT l (l.map (λx=>kF x.Lo+kF x.Hi)).sum:=by
 intro k h1 h2
 obtain⟨l',g0,g1,g2⟩:=zBU (F:=sU) (H:=sP) (w:=(λx=>kF x.Lo+kF x.Hi)) (p:=(λx=>BL x.Lo/\BL x.Hi)) (λx k hx h1 h2=>by
  obtain⟨l1,n1,m1,q1⟩:=mkFs x.Lo hx.1.1 hx.1.2 k h1 (by unfold kF at h2;omega)
  obtain⟨l2,n2,m2,q2⟩:=mkFs x.Hi hx.2.1 hx.2.2 (k+((kF x.Lo : Nat) : Int)) (by omega) (by unfold kF at h2 ⊢;omega)
  have e2 : k+((kF x.Lo : Nat) : Int)+((kF x.Hi : Nat) : Int) = k+((kF x.Lo+kF x.Hi : Nat) : Int):=by omega
  change _ = some (k+((kF x.Lo : Nat) : Int),l1) at m1
  change _ = some (k+((kF x.Lo : Nat) : Int)) at q1
  change _ = some (k+((kF x.Lo : Nat) : Int)+((kF x.Hi : Nat) : Int),l2) at m2
  change _ = some (k+((kF x.Lo : Nat) : Int)+((kF x.Hi : Nat) : Int)) at q2
  rw[e2] at m2 q2
  refine⟨⟨l1,l2⟩,λpre suf hl => ?_,λpre suf hl => ?_⟩
  ·rw[sU]
   simp only[pzL,if_true,pzI,pzS,pzW hl,m1,m2,Option.bind_eq_bind,Option.bind_some]
  ·rw[sP]
   simp only[pzL,if_true,pzI,pzW hl,q1,q2,nonneg h1,bne_self_eq_false,bY,if_false,Option.bind_eq_bind,Option.bind_some]) (λpre k=>by
  rw[sU]
  simp only[pzE,bY,if_false,Option.pure_def]) (λpre k=>by
  rw[sP]
  simp only[pzE,bY,if_false,Option.pure_def]) l k hl h1 h2
 have g1:=g1 [] h
 have g2:=g2 [] (by rw[cj,g0];exact h)
 simp only[cj,cm,cr] at g1 g2
 refine⟨l',g0,g1,?_⟩
 unfold jT
 simp only[g2,Option.bind_eq_bind,Option.bind_some,Option.pure_def,id]
mutual
def kE : zD -> Nat
 | .mk K N I R Q=>4+I.Coefs.length+kF R.Subs+kEs Q
def kEs : List zD -> Nat
 | []=>0
 | e :: es=>kE e+kEs es
end
theorem zJQ : ∀l : List zD,kEs l = (l.map kE).sum
 | []=>by simp[kEs]
 | e :: es=>by simp[kEs,zJQ es]
theorem zJR(e : zD): kE e = 4+e.Index.Coefs.length+kF e.Read.Subs+kEs e.Kids:=by
 obtain⟨K,N,I,R,Q⟩:=e
 simp only[kE,xI,xR,xC]
theorem zFL(l : List zD)(h : l.length<=1048576)(hl : ∀x∈l,BA x.Index /\ BL x.Read.Subs /\ MkS oF uM x.Kids (kEs x.Kids)): MkS oF uM l (kEs l):=by
 intro k h1 h2
 rw[zJQ] at h2 ⊢
 obtain⟨l',g0,g1,g2⟩:=zBU (F:=uF) (H:=pI) (w:=kE) (p:=λx=>BA x.Index /\ BL x.Read.Subs /\ MkS oF uM x.Kids (kEs x.Kids)) (λx k hx h1 h2=>by
  rw[zJR] at h2 ⊢
  have e1 : W (k+1) = k+1:=mG (by omega) (by omega)
  have e2 : W (k+1+1) = k+2:=by rw[mG (by omega) (by omega)];omega
  obtain⟨l1,n1,m1,q1⟩:=mkI x.Index.Coefs hx.1 (k+2) (by omega) (by omega)
  have e3 : W (k+2+(x.Index.Coefs.length : Int)+1) = k+3+(x.Index.Coefs.length : Int):=by rw[mG (by omega) (by omega)];omega
  have e4 : W (k+3+(x.Index.Coefs.length : Int)+1) = k+4+(x.Index.Coefs.length : Int):=by rw[mG (by omega) (by omega)];omega
  obtain⟨s,hs⟩:=txtV (k+3+(x.Index.Coefs.length : Int)) (by omega) (by omega)
  obtain⟨l2,n2,m2,q2⟩:=mkFs x.Read.Subs hx.2.1.1 hx.2.1.2 (k+4+(x.Index.Coefs.length : Int)) (by omega) (by unfold kF at h2;omega)
  change _ = some (k+4+(x.Index.Coefs.length : Int)+((kF x.Read.Subs : Nat) : Int),l2) at m2
  change _ = some (k+4+(x.Index.Coefs.length : Int)+((kF x.Read.Subs : Nat) : Int)) at q2
  obtain⟨l3,n3,m3,q3⟩:=hx.2.2 (k+4+(x.Index.Coefs.length : Int)+((kF x.Read.Subs : Nat) : Int)) (by omega) (by omega)
  have e5 : k+4+(x.Index.Coefs.length : Int)+((kF x.Read.Subs : Nat) : Int)+((kEs x.Kids : Nat) : Int) = k+((4+x.Index.Coefs.length+kF x.Read.Subs+kEs x.Kids : Nat) : Int):=by omega
  rw[e5] at m3 q3
  have m3 : uF x.Kids (k+4+(x.Index.Coefs.length : Int)+((kF x.Read.Subs : Nat) : Int)) 0 = _:=m3
  have d1 : decide (k+2+(x.Index.Coefs.length : Int)<0) = false:=by rw[decide_eq_false_iff_not];omega
  have d2 : decide (k+4+(x.Index.Coefs.length : Int)+((kF x.Read.Subs : Nat) : Int)<0) = false:=by rw[decide_eq_false_iff_not];omega
  refine⟨.mk k (k+1) ⟨l1,k+2+(x.Index.Coefs.length : Int)⟩ ⟨s,l2⟩ l3,λpre suf hl => ?_,λpre suf hl => ?_⟩
  ·rw[uF]
   simp only[pzL,if_true,pzI,pzS,pzW hl,e1,e2,m1,e3,hs,e4,m2,m3,Option.bind_eq_bind,Option.bind_some]
  ·rw[pI]
   simp only[same,pzL,if_true,pzI,pzW hl,xK,xN,xI,xR,xC,e1,e2,q1,e3,hs,e4,q2,q3,d1,d2,nonneg h1,beq_self_eq_true,cL,bne_self_eq_false,bY,if_false,Option.bind_eq_bind,Option.bind_some]) (λpre k=>by
  rw[uF]
  simp only[pzE,bY,if_false,Option.pure_def]) (λpre k=>by
  rw[pI]
  simp only[same,pzE,bY,if_false,Option.pure_def]) l k hl h1 h2
 have g1:=g1 [] h
 have g2:=g2 [] (by rw[cj,g0];exact h)
 simp only[cj,cm,cr] at g1 g2
 refine⟨l',g0,g1,?_⟩
 rw[uM]
 simp only[same,g2,Option.bind_eq_bind,Option.bind_some,Option.pure_def,id]
theorem mkEs : ∀(n : Nat) (l : List zD),l.length<=1048576 -> (∀e∈l,BE n e) -> MkS oF uM l (kEs l)
 | 0,l,h,hl=>zFL l h λx hx=>by
  obtain⟨h1,h2,h3⟩:=hl x hx
  exact⟨h1,h2,by rw[h3];exact zFL [] (by simp) (by simp)⟩
 | n+1,l,h,hl=>zFL l h λx hx=>by
  obtain⟨h1,h2,h3,h4⟩:=hl x hx
  exact⟨h1,h2,mkEs n x.Kids h3 h4⟩
def kS(x : zJ): Nat:=1+kF x.Write.Subs+kE x.Value
theorem mkSs(l : List zJ)(h : l.length<=1048576)(hl : ∀x∈l,BS x): MkS zAR jU l (l.map kS).sum:=by
 intro k h1 h2
 obtain⟨l',g0,g1,g2⟩:=zBU (F:=sV) (H:=sQ) (w:=kS) (p:=BS) (λx k hx h1 h2=>by
  obtain⟨hw,n,hv⟩:=hx
  have hkid : MkS oF uM x.Value.Kids (kEs x.Value.Kids):=by
   obtain⟨a1,a2,a3⟩:=hv.kids
   cases n with
   | zero=>
    obtain⟨_,_,h3⟩:=hv
    rw[h3];exact zFL [] (by simp) (by simp)
   | succ n=>
    obtain⟨_,_,h3,h4⟩:=hv
    exact mkEs n _ h3 h4
  obtain⟨hI,hR,_⟩:=hv.own
  unfold kS at h2 ⊢
  rw[zJR] at h2 ⊢
  have e1 : W (k+1) = k+1:=mG (by omega) (by omega)
  obtain⟨s,hs⟩:=txtV k (by omega) (by omega)
  obtain⟨l0,n0,m0,q0⟩:=mkFs x.Write.Subs hw.1 hw.2 (k+1) (by omega) (by unfold kF at h2;omega)
  change _ = some (k+1+((kF x.Write.Subs : Nat) : Int),l0) at m0
  change _ = some (k+1+((kF x.Write.Subs : Nat) : Int)) at q0
  generalize hz : k+1+((kF x.Write.Subs : Nat) : Int) = z at m0 q0
  have z1 : W (z+1) = z+1:=mG (by omega) (by omega)
  have z2 : W (z+1+1) = z+2:=by rw[mG (by omega) (by omega)];omega
  obtain⟨l1,n1,m1,q1⟩:=mkI x.Value.Index.Coefs hI (z+2) (by omega) (by omega)
  have e3 : W (z+2+(x.Value.Index.Coefs.length : Int)+1) = z+3+(x.Value.Index.Coefs.length : Int):=by rw[mG (by omega) (by omega)];omega
  have e4 : W (z+3+(x.Value.Index.Coefs.length : Int)+1) = z+4+(x.Value.Index.Coefs.length : Int):=by rw[mG (by omega) (by omega)];omega
  obtain⟨s2,aK⟩:=txtV (z+3+(x.Value.Index.Coefs.length : Int)) (by omega) (by omega)
  obtain⟨l2,n2,m2,q2⟩:=mkFs x.Value.Read.Subs hR.1 hR.2 (z+4+(x.Value.Index.Coefs.length : Int)) (by omega) (by unfold kF at h2;unfold kF at hz;omega)
  change _ = some (z+4+(x.Value.Index.Coefs.length : Int)+((kF x.Value.Read.Subs : Nat) : Int),l2) at m2
  change _ = some (z+4+(x.Value.Index.Coefs.length : Int)+((kF x.Value.Read.Subs : Nat) : Int)) at q2
  obtain⟨l3,n3,m3,q3⟩:=hkid (z+4+(x.Value.Index.Coefs.length : Int)+((kF x.Value.Read.Subs : Nat) : Int)) (by omega) (by omega)
  have e5 : z+4+(x.Value.Index.Coefs.length : Int)+((kF x.Value.Read.Subs : Nat) : Int)+((kEs x.Value.Kids : Nat) : Int) = k+((1+kF x.Write.Subs+(4+x.Value.Index.Coefs.length+kF x.Value.Read.Subs+kEs x.Value.Kids) : Nat) : Int):=by omega
  rw[e5] at m3 q3
  have d0 : decide (z<0) = false:=by rw[decide_eq_false_iff_not];omega
  have d1 : decide (z+2+(x.Value.Index.Coefs.length : Int)<0) = false:=by rw[decide_eq_false_iff_not];omega
  have d2 : decide (z+4+(x.Value.Index.Coefs.length : Int)+((kF x.Value.Read.Subs : Nat) : Int)<0) = false:=by rw[decide_eq_false_iff_not];omega
  refine⟨⟨⟨s,l0⟩,.mk z (z+1) ⟨l1,z+2+(x.Value.Index.Coefs.length : Int)⟩ ⟨s2,l2⟩ l3⟩,λpre suf hl => ?_,λpre suf hl => ?_⟩
  ·rw[sV]
   simp only[pzL,if_true,pzI,pzS,pzW hl,hs,e1,m0,z1,z2,m1,e3,aK,e4,m2,m3,Option.bind_eq_bind,Option.bind_some]
  ·rw[sQ]
   simp only[pzL,if_true,pzI,pzW hl,hs,e1,q0,z1,z2,q1,e3,aK,e4,q2,q3,d0,d1,d2,nonneg h1,xK,xN,xI,xR,xC,beq_self_eq_true,cL,bne_self_eq_false,bY,if_false,Option.bind_eq_bind,Option.bind_some]) (λpre k=>by
  rw[sV]
  simp only[pzE,bY,if_false,Option.pure_def]) (λpre k=>by
  rw[sQ]
  simp only[pzE,bY,if_false,Option.pure_def]) l k hl h1 h2
 have g1:=g1 [] h
 have g2:=g2 [] (by rw[cj,g0];exact h)
 simp only[cj,cm,cr] at g1 g2
 refine⟨l',g0,g1,?_⟩
 unfold jU
 simp only[g2,Option.bind_eq_bind,Option.bind_some,Option.pure_def,id]
def kN(l : List zL): Nat:=(l.map λx=>kF x.Lo+kF x.Hi).sum
def kB(l : List zJ): Nat:=(l.map kS).sum
theorem mkXs(l : List zN)(h : l.length<=1048576)(hl : ∀x∈l,BP x): MkS zAS jV l (l.map (λx=>kN x.Nest+kB x.Body)).sum:=by
 intro k h1 h2
 obtain⟨l',g0,g1,g2⟩:=zBU (F:=sW) (H:=sR) (w:=(λx=>kN x.Nest+kB x.Body)) (p:=BP) (λx k hx h1 h2=>by
  obtain⟨l1,n1,m1,q1⟩:=mkLs x.Nest hx.1.1 hx.1.2 k h1 (by unfold kN at h2;omega)
  change _ = some (k+((kN x.Nest : Nat) : Int),l1) at m1
  change _ = some (k+((kN x.Nest : Nat) : Int)) at q1
  obtain⟨l2,n2,m2,q2⟩:=mkSs x.Body hx.2.1 hx.2.2 (k+((kN x.Nest : Nat) : Int)) (by omega) (by unfold kB at h2;omega)
  have e2 : k+((kN x.Nest : Nat) : Int)+((kB x.Body : Nat) : Int) = k+((kN x.Nest+kB x.Body : Nat) : Int):=by omega
  change _ = some (k+((kN x.Nest : Nat) : Int)+((kB x.Body : Nat) : Int),l2) at m2
  change _ = some (k+((kN x.Nest : Nat) : Int)+((kB x.Body : Nat) : Int)) at q2
  rw[e2] at m2 q2
  refine⟨⟨l1,l2⟩,λpre suf hl => ?_,λpre suf hl => ?_⟩
  ·rw[sW]
   simp only[pzL,if_true,pzI,pzS,pzW hl,m1,m2,Option.bind_eq_bind,Option.bind_some]
  ·rw[sR]
   simp only[pzL,if_true,pzI,pzW hl,q1,q2,nonneg h1,bne_self_eq_false,bY,if_false,Option.bind_eq_bind,Option.bind_some]) (λpre k=>by
  rw[sW]
  simp only[pzE,bY,if_false,Option.pure_def]) (λpre k=>by
  rw[sR]
  simp only[pzE,bY,if_false,Option.pure_def]) l k hl h1 h2
 have g1:=g1 [] h
 have g2:=g2 [] (by rw[cj,g0];exact h)
 simp only[cj,cm,cr] at g1 g2
 refine⟨l',g0,g1,?_⟩
 unfold jV
 simp only[g2,Option.bind_eq_bind,Option.bind_some,Option.pure_def,id]
def kP(P : zV): Nat:=kR P.Arrays+(P.Parts.map λx=>kN x.Nest+kB x.Body).sum
theorem mkP(P : zV)(h : BG P)(hk : 1+(kP P : Int)<=4611686018427387904): ∃P',oH P 1 = some (1+(kP P : Int),P') /\ oC P' 1 = some (1+(kP P : Int)):=by
 unfold kP at hk ⊢
 obtain⟨l1,n1,m1,q1⟩:=mkRs P.Arrays h.1.1 h.1.2 1 (by omega) (by unfold kR at hk;omega)
 change _ = some (1+((kR P.Arrays : Nat) : Int),l1) at m1
 change _ = some (1+((kR P.Arrays : Nat) : Int)) at q1
 obtain⟨l2,n2,m2,q2⟩:=mkXs P.Parts h.2.1 h.2.2 (1+((kR P.Arrays : Nat) : Int)) (by omega) (by omega)
 have e2 : ∀n : Nat,1+((kR P.Arrays : Nat) : Int)+(n : Int) = 1+((kR P.Arrays+n : Nat) : Int):=by omega
 rw[e2] at m2 q2
 refine⟨⟨l1,l2⟩,?_,?_⟩
 ·unfold oH
  simp only[m1,m2,Option.bind_eq_bind,Option.bind_some,Option.pure_def]
 ·unfold oC
  simp only[q1,q2,nonneg (Int.le_refl 1),bY,if_false,Option.bind_eq_bind,Option.bind_some,Option.pure_def,id]
section
variable {α : Type}
theorem zCM{w : α -> Nat}: ∀{l : List α} {x : α},x∈l -> w x<=(l.map w).sum
 | y :: l,x,h=>by
  rw[cA,cY]
  rcases cP.1 h with rfl|h
  ·omega
  ·have:=zCM (w:=w) h
   omega
theorem zE2{f g : α -> Nat}: ∀{l : List α},(∀x∈l,f x<=g x) -> (l.map f).sum<=(l.map g).sum
 | [],_=>cH _
 | y :: l,h=>by
  rw[cA,cY,cA,cY]
  have h1:=h y (ci ..)
  have h2:=zE2 λx hx=>h x (cd y hx)
  omega
theorem zHp(f g : α -> Nat): ∀l : List α,(l.map λx=>f x+g x).sum = (l.map f).sum+(l.map g).sum
 | []=>rfl
 | y :: l=>by
  rw[cA,cY,cA,cY,cA,cY,zHp f g l]
  omega
theorem zHq(c : Nat)(w : α -> Nat): ∀l : List α,(l.map λx=>c+c*w x).sum = c*(l.length+(l.map w).sum)
 | []=>rfl
 | y :: l=>by
  rw[cA,cY,cA,cY,zHq c w l,cx]
  simp only[Nat.mul_add,Nat.mul_one]
  omega
end
def lF(a : yX): Prop:=a.Coefs.length<=9223372036854775807
def lFs(l : List yX): Prop:=l.length<=9223372036854775807 /\ ∀a∈l,lF a
def lR(a : wQ): Prop:=a.Name.l.length<=9223372036854775807 /\ a.Dims.length<=9223372036854775807
def lC(a : tS): Prop:=a.Array.l.length<=9223372036854775807 /\ lFs a.Subs
def lL(a : vZ): Prop:=lFs a.Lo /\ lFs a.Hi
mutual
def lE : yB -> Prop
 | .mk K N I R Q=>lF I /\ lC R /\ Q.length<=9223372036854775807 /\ lEs Q
def lEs : List yB -> Prop
 | []=>True
 | e :: es=>lE e /\ lEs es
end
def lS(a : vG): Prop:=lC a.Write /\ lE a.Value
def lX(a : vH): Prop:=(a.Nest.length<=9223372036854775807 /\ ∀x∈a.Nest,lL x) /\ a.Body.length<=9223372036854775807 /\ ∀s∈a.Body,lS s
def lP(a : wT): Prop:=(a.Arrays.length<=9223372036854775807 /\ ∀x∈a.Arrays,lR x) /\ a.Parts.length<=9223372036854775807 /\ ∀x∈a.Parts,lX x
theorem zJS : ∀{l : List yB},lEs l ↔ ∀e∈l,lE e
 | []=>by simp[lEs]
 | e :: es=>by simp[lEs,zJS (l:=es)]
def wF(a : yX): Nat:=a.Coefs.length
def wFs(l : List yX): Nat:=l.length+(l.map wF).sum
def wR(a : wQ): Nat:=a.Name.l.length+a.Dims.length
def wC(a : tS): Nat:=a.Array.l.length+wFs a.Subs
def wL(a : vZ): Nat:=wFs a.Lo+wFs a.Hi
mutual
def wE : yB -> Nat
 | .mk K N I R Q=>wF I+(wC R+(Q.length+wEs Q))
def wEs : List yB -> Nat
 | []=>0
 | e :: es=>wE e+wEs es
end
theorem zHr : ∀l : List yB,wEs l = (l.map wE).sum
 | []=>by simp[wEs]
 | e :: es=>by simp[wEs,zHr es]
def wS(a : vG): Nat:=wC a.Write+wE a.Value
def wX(a : vH): Nat:=(a.Nest.length+(a.Nest.map wL).sum)+(a.Body.length+(a.Body.map wS).sum)
def wP(a : wT): Nat:=(a.Arrays.length+(a.Arrays.map wR).sum)+(a.Parts.length+(a.Parts.map wX).sum)
def SR(o : Option Int)(left : Int)(w : Nat): Prop := ∃y : Int,o = some y /\ (y = -1∨(0<=y /\ y+(w : Int) = left))
theorem SR.seq{o : Option Int}{left : Int}{w1 w2 : Nat}{g : Int -> Option Int}(h : SR o left w1)(hl : left<=1048576)(hg : ∀y : Int,0<=y -> y<=1048576 -> SR (g y) y w2):
 SR (o.bind λy=>if decide (y<0) = true then some (-1) else g y) left (w1+w2):=by
 obtain⟨y,rfl,h⟩:=h
 rcases h with rfl|⟨h0,h1⟩
 ·exact⟨-1,rfl,.inl rfl⟩
 ·obtain⟨z,e,h2⟩:=hg y h0 (by omega)
  have hd : decide (y<0) = false:=by rw[decide_eq_false_iff_not];omega
  refine⟨z,by simp only[Option.bind_some,hd,bY,if_false,e],?_⟩
  rcases h2 with rfl|⟨h2,h3⟩
  ·exact .inl rfl
  ·exact .inr ⟨h2,by omega⟩
theorem SR.fin{o : Option Int}{left : Int}{w : Nat}(h : SR o left w): SR (o.bind λy=>if decide (y<0) = true then some (-1) else some y) left w:=by
 obtain⟨y,rfl,h⟩:=h
 rcases h with rfl|⟨h0,h1⟩
 ·exact⟨-1,rfl,.inl rfl⟩
 ·have hd : decide (y<0) = false:=by rw[decide_eq_false_iff_not];omega
  exact⟨y,by simp only[Option.bind_some,hd,bY,if_false],.inr ⟨h0,h1⟩⟩
theorem SR.len{left : Int}{n w : Nat}{g : Int -> Option Int}(hn : n<=9223372036854775807)(h0 : 0<=left)(hl : left<=1048576)(hg : ∀y : Int,0<=y -> y<=1048576 -> y+(n : Int) = left -> SR (g y) y w):
 SR (if decide (W (left - (n : Int))<0) = true then some (-1) else g (W (left - (n : Int)))) left (n+w):=by
 have e : W (left - (n : Int)) = left - (n : Int):=mG (by omega) (by omega)
 rw[e]
 by_cases h : left - (n : Int)<0
 ·rw[if_pos (by simpa using h)];exact⟨-1,rfl,.inl rfl⟩
 ·rw[if_neg (by simpa using h)]
  obtain⟨z,e,h2⟩:=hg (left - (n : Int)) (by omega) (by omega) (by omega)
  refine⟨z,e,?_⟩
  rcases h2 with rfl|⟨h2,h3⟩
  ·exact .inl rfl
  ·exact .inr ⟨h2,by omega⟩
section
variable {α : Type}
theorem zJT{F : List α -> Int -> Int -> Option (Out Int Int)}{w : α -> Nat}{p : α -> Prop}{f : α -> Int -> Option Int}(hf : ∀x,p x -> ∀left : Int,0<=left -> left<=1048576 -> SR (f x left) left (w x))
 (step : ∀(pre : List α) (x : α) (suf : List α) (left y : Int),f x left = some y -> (pre++x :: suf).length<=1048576 -> F (pre++x :: suf) left (pre.length : Int) = if decide (y<0) = true then some (.ret (-1)) else F (pre++x :: suf) y ((pre.length+1 : Nat) : Int))
 (fin : ∀(pre : List α) (left : Int),F pre left (pre.length : Int) = some (.done left)) :
 ∀(suf pre : List α) (left : Int),(∀x∈suf,p x) -> 0<=left -> left<=1048576 -> (pre++suf).length<=1048576 -> F (pre++suf) left (pre.length : Int) = some (.ret (-1)) ∨ ∃y : Int,0<=y /\ y+(((suf.map w).sum : Nat) : Int) = left /\ F (pre++suf) left (pre.length : Int) = some (.done y)
 | [],pre,left,_,h0,_,_=>.inr ⟨left,h0,by simp,by rw[ce];exact fin pre left⟩
 | x :: suf,pre,left,hp,h0,h1,hl=>by
  obtain⟨y,e,h⟩:=hf x (hp x (ci ..)) left h0 h1
  rw[step pre x suf left y e hl]
  rcases h with rfl|⟨h2,h3⟩
  ·exact .inl rfl
  ·have hd : decide (y<0) = false:=by rw[decide_eq_false_iff_not];omega
   rw[hd]
   have:=zJT hf step fin suf (pre++[x]) y (λz hz=>hp z (cd _ hz)) h2 (by omega) (by rw[pzA];exact hl)
   rw[pzN,pzA] at this
   have es : (((x :: suf).map w).sum) = w x+(suf.map w).sum:=by simp
   rw[es]
   rcases this with h|⟨z,g1,g2,g3⟩
   ·exact .inl h
   ·exact .inr ⟨z,g1,by omega,g3⟩
theorem zDQ{F : List α -> Int -> Int -> Option (Out Int Int)}{S : List α -> Int -> Option Int}{w : α -> Nat}{p : α -> Prop}{f : α -> Int -> Option Int}
 (hS : ∀l left,S l left = if decide (W (left - (l.length : Int))<0) = true then some (-1) else(F l (W (left - (l.length : Int))) 0).bind λo=>match o with|.ret r=>some r|.done y=>some y)
 (hf : ∀x,p x -> ∀left : Int,0<=left -> left<=1048576 -> SR (f x left) left (w x))
 (step : ∀(pre : List α) (x : α) (suf : List α) (left y : Int),f x left = some y -> (pre++x :: suf).length<=1048576 -> F (pre++x :: suf) left (pre.length : Int) = if decide (y<0) = true then some (.ret (-1)) else F (pre++x :: suf) y ((pre.length+1 : Nat) : Int))
 (fin : ∀(pre : List α) (left : Int),F pre left (pre.length : Int) = some (.done left)) (l : List α) (hl : l.length<=9223372036854775807) (hp : ∀x∈l,p x) (left : Int) (h0 : 0<=left) (h1 : left<=1048576) :
 SR (S l left) left (l.length+(l.map w).sum):=by
 rw[hS]
 refine SR.len (g:=λz=>(F l z 0).bind λo=>match o with|.ret r=>some r|.done y=>some y) hl h0 h1 λy hy aw hyl => ?_
 have:=zJT hf step fin l [] y hp hy aw (by rw[cj];omega)
 simp only[cj,cm,cr] at this
 rcases this with h|⟨z,g1,g2,g3⟩
 ·exact⟨-1,by rw[h];rfl,.inl rfl⟩
 ·exact⟨z,by rw[g3];rfl,.inr ⟨g1,g2⟩⟩
end
theorem szI(l : List Int)(hl : l.length<=9223372036854775807)(left : Int)(h0 : 0<=left)(h1 : left<=1048576): SR (fE l left) left l.length:=by
 unfold fE
 exact SR.len (w:=0) (g:=λz=>some z) hl h0 h1 λy hy _ _=>⟨y,rfl,.inr ⟨hy,by omega⟩⟩
theorem szR(a : wQ)(h : lR a)(left : Int)(h0 : 0<=left)(h1 : left<=1048576): SR (jW a left) left (wR a):=by
 unfold jW wR
 exact SR.len h.1 h0 h1 λy hy aw _=>SR.fin (szI _ h.2 y hy aw)
theorem szF(a : yX)(h : lF a)(left : Int)(h0 : 0<=left)(h1 : left<=1048576): SR (nD a left) left (wF a):=by
 unfold nD wF
 exact SR.fin (szI _ h left h0 h1)
theorem szFs(l : List yX)(hl : l.length<=9223372036854775807)(hp : ∀x∈l,lF x)(left : Int)(h0 : 0<=left)(h1 : left<=1048576): SR (sJ l left) left (l.length+(l.map wF).sum):=
 zDQ (F:=sS) (S:=sJ) (f:=nD) (p:=lF) (λl left=>by
  unfold sJ
  rfl) szF (λpre x suf left y hy hl=>by
  rw[sS]
  simp only[pzL,if_true,pzI,hy,pzW hl,Option.bind_eq_bind,Option.bind_some,Option.pure_def]) (λpre left=>by
  rw[sS]
  simp only[pzE,bY,if_false,Option.pure_def]) l hl hp left h0 h1
theorem szFl(l : List yX)(h : lFs l)(left : Int)(h0 : 0<=left)(h1 : left<=1048576): SR (sJ l left) left (wFs l):=szFs l h.1 h.2 left h0 h1
theorem szC(a : tS)(h : lC a)(left : Int)(h0 : 0<=left)(h1 : left<=1048576): SR (kL a left) left (wC a):=by
 unfold kL wC
 exact SR.len h.1 h0 h1 λy hy aw _=>SR.fin (szFl _ h.2 y hy aw)
theorem szLp(a : vZ)(h : lL a)(left : Int)(h0 : 0<=left)(h1 : left<=1048576): SR (fG a left) left (wL a):=by
 unfold fG wL
 exact SR.seq (szFl _ h.1 left h0 h1) h1 λy hy aw=>SR.fin (szFl _ h.2 y hy aw)
theorem szE : ∀(n : Nat) (e : yB),SizeOf.sizeOf e<=n -> lE e -> ∀left : Int,0<=left -> left<=1048576 -> SR (jI e left) left (wE e)
 | 0,.mk K N I R Q,hn,_=>by simp at hn
 | n+1,.mk K N I R Q,hn,h=>by
  intro left h0 h1
  simp only[lE] at h
  obtain⟨hI,hR,hQ,hE⟩:=h
  have hk : ∀k∈Q,lE k /\ SizeOf.sizeOf k<=n:=λk hk=>⟨zJS.1 hE k hk,by
   have:=eh hk
   simp only[yB.mk.sizeOf_spec] at hn
   omega⟩
  rw[jI]
  simp only[wE,yB.Index,yB.Read,yB.Kids]
  refine SR.seq (szF _ hI left h0 h1) h1 λy hy aw=>SR.seq (szC _ hR y hy aw) aw λz hz hz1=>SR.fin ?_
  rw[zHr]
  exact zDQ (F:=oZ) (S:=eG) (f:=jI) (p:=λk=>lE k /\ SizeOf.sizeOf k<=n) (λl left=>by
   rw[eG]
   rfl) (λx hx left h0 h1=>szE n x hx.2 hx.1 left h0 h1) (λpre x suf left y hy hl=>by
   rw[oZ]
   simp only[same,pzL,if_true,pzI,hy,pzW hl,Option.bind_eq_bind,Option.bind_some,Option.pure_def]) (λpre left=>by
   rw[oZ]
   simp only[same,pzE,bY,if_false,Option.pure_def]) Q hQ hk z hz hz1
theorem szS(a : vG)(h : lS a)(left : Int)(h0 : 0<=left)(h1 : left<=1048576): SR (fI a left) left (wS a):=by
 unfold fI wS
 exact SR.seq (szC _ h.1 left h0 h1) h1 λy hy aw=>SR.fin (szE _ _ (cH _) h.2 y hy aw)
theorem szRs(l : List wQ)(hl : l.length<=9223372036854775807)(hp : ∀x∈l,lR x)(left : Int)(h0 : 0<=left)(h1 : left<=1048576): SR (kK l left) left (l.length+(l.map wR).sum):=
 zDQ (F:=rT) (S:=kK) (f:=jW) (p:=lR) (λl left=>by
  unfold kK
  rfl) szR (λpre x suf left y hy hl=>by
  rw[rT]
  simp only[pzL,if_true,pzI,hy,pzW hl,Option.bind_eq_bind,Option.bind_some,Option.pure_def]) (λpre left=>by
  rw[rT]
  simp only[pzE,bY,if_false,Option.pure_def]) l hl hp left h0 h1
theorem szLs(l : List vZ)(hl : l.length<=9223372036854775807)(hp : ∀x∈l,lL x)(left : Int)(h0 : 0<=left)(h1 : left<=1048576): SR (jX l left) left (l.length+(l.map wL).sum):=
 zDQ (F:=qX) (S:=jX) (f:=fG) (p:=lL) (λl left=>by
  unfold jX
  rfl) szLp (λpre x suf left y hy hl=>by
  rw[qX]
  simp only[pzL,if_true,pzI,hy,pzW hl,Option.bind_eq_bind,Option.bind_some,Option.pure_def]) (λpre left=>by
  rw[qX]
  simp only[pzE,bY,if_false,Option.pure_def]) l hl hp left h0 h1
theorem szSs(l : List vG)(hl : l.length<=9223372036854775807)(hp : ∀x∈l,lS x)(left : Int)(h0 : 0<=left)(h1 : left<=1048576): SR (jY l left) left (l.length+(l.map wS).sum):=
 zDQ (F:=qY) (S:=jY) (f:=fI) (p:=lS) (λl left=>by
  unfold jY
  rfl) szS (λpre x suf left y hy hl=>by
  rw[qY]
  simp only[pzL,if_true,pzI,hy,pzW hl,Option.bind_eq_bind,Option.bind_some,Option.pure_def]) (λpre left=>by
  rw[qY]
  simp only[pzE,bY,if_false,Option.pure_def]) l hl hp left h0 h1
theorem szX(a : vH)(h : lX a)(left : Int)(h0 : 0<=left)(h1 : left<=1048576): SR (fJ a left) left (wX a):=by
 unfold fJ wX
 exact SR.seq (szLs _ h.1.1 h.1.2 left h0 h1) h1 λy hy aw=>SR.fin (szSs _ h.2.1 h.2.2 y hy aw)
theorem szXs(l : List vH)(hl : l.length<=9223372036854775807)(hp : ∀x∈l,lX x)(left : Int)(h0 : 0<=left)(h1 : left<=1048576): SR (jZ l left) left (l.length+(l.map wX).sum):=
 zDQ (F:=qZ) (S:=jZ) (f:=fJ) (p:=lX) (λl left=>by
  unfold jZ
  rfl) szX (λpre x suf left y hy hl=>by
  rw[qZ]
  simp only[pzL,if_true,pzI,hy,pzW hl,Option.bind_eq_bind,Option.bind_some,Option.pure_def]) (λpre left=>by
  rw[qZ]
  simp only[pzE,bY,if_false,Option.pure_def]) l hl hp left h0 h1
theorem szP(a : wT)(h : lP a)(left : Int)(h0 : 0<=left)(h1 : left<=1048576): SR (gA a left) left (wP a):=by
 unfold gA wP
 exact SR.seq (szRs _ h.1.1 h.1.2 left h0 h1) h1 λy hy aw=>SR.fin (szXs _ h.2.1 h.2.2 y hy aw)
theorem zHs{l : List yX}(h : wFs l<=1048576): mFs l:=⟨by unfold wFs at h;omega,λa ha=>by
 have:=zCM (w:=wF) ha
 unfold wFs at h
 show wF a<=1048576
 omega⟩
theorem zKm : ∀(n : Nat) (e : yB),SizeOf.sizeOf e<=n -> wE e<=1048576 -> mE e
 | 0,.mk K N I R Q,hn,_=>by simp at hn
 | n+1,.mk K N I R Q,hn,h=>by
  simp only[wE,wC] at h
  simp only[mE]
  refine⟨by show wF I<=_;omega,zHs (by omega),by omega,zGK.2 λk hk=>zKm n k ?_ ?_⟩
  ·have:=eh hk
   simp only[yB.mk.sizeOf_spec] at hn
   omega
  ·have:=zCM (w:=wE) hk
   rw[zHr] at h
   omega
theorem zLP{a : vG}(h : wS a<=1048576): mS a:=by
 unfold wS wC at h
 exact⟨zHs (by omega),zKm _ _ (cH _) (by omega)⟩
theorem zLQ{a : vH}(h : wX a<=1048576): mX a:=by
 unfold wX at h
 refine⟨⟨by omega,λx hx => ?_⟩,by omega,λx hx => ?_⟩
 ·have:=zCM (w:=wL) hx
  have e : wL x = wFs x.Lo+wFs x.Hi:=rfl
  exact⟨zHs (by omega),zHs (by omega)⟩
 ·have:=zCM (w:=wS) hx
  exact zLP (by omega)
theorem zLR{a : wT}(h : wP a<=1048576): mP a:=by
 unfold wP at h
 refine⟨⟨by omega,λx hx => ?_⟩,by omega,λx hx => ?_⟩
 ·have:=zCM (w:=wR) hx
  have e : wR x = x.Name.l.length+x.Dims.length:=rfl
  show x.Dims.length<=_
  omega
 ·have:=zCM (w:=wX) hx
  exact zLQ (by omega)
theorem zJU{l : List yX}(h : mFs l): BL (l.map cvF):=⟨by rw[cM];exact h.1,λa ha=>by
 obtain⟨x,hx,rfl⟩:=de.1 ha
 exact h.2 x hx⟩
theorem zKn : ∀(n : Nat) (e : yB),SizeOf.sizeOf e<=n -> mE e -> BE n (cvE e)
 | 0,.mk K N I R Q,hn,_=>by simp at hn
 | n+1,.mk K N I R Q,hn,h=>by
  simp only[mE] at h
  obtain⟨hI,hR,hQ,hE⟩:=h
  simp only[cvE,BE,xI,xR,xC,zGz]
  refine⟨hI,zJU hR,by rw[cM];exact hQ,λk hk => ?_⟩
  obtain⟨x,hx,rfl⟩:=de.1 hk
  exact zKn n x (by
   have:=eh hx
   simp only[yB.mk.sizeOf_spec] at hn
   omega) (zGK.1 hE x hx)
theorem zLS{a : wT}(h : mP a): BG (cvP a):=by
 refine⟨⟨by simp only[cvP,cM];exact h.1.1,λx hx => ?_⟩,by simp only[cvP,cM];exact h.2.1,λx hx => ?_⟩
 ·obtain⟨y,hy,rfl⟩:=de.1 hx
  exact h.1.2 y hy
 ·obtain⟨y,hy,rfl⟩:=de.1 hx
  obtain⟨⟨h1,h2⟩,h3,h4⟩:=h.2.2 y hy
  refine⟨⟨by simp only[cvX,cM];exact h1,λz hz => ?_⟩,by simp only[cvX,cM];exact h3,λz hz => ?_⟩
  ·obtain⟨q,hq,rfl⟩:=de.1 hz
   exact⟨zJU (h2 q hq).1,zJU (h2 q hq).2⟩
  ·obtain⟨q,hq,rfl⟩:=de.1 hz
   exact⟨zJU (h4 q hq).1,_,zKn _ _ (cH _) (h4 q hq).2⟩
theorem zKS(l : List yX): kF (l.map cvF) = wFs l:=by
 unfold kF wFs
 rw[dy]
 have:=zHp wF (λ_=>1) l
 rw[sum1] at this
 rw[Nat.add_comm,<- this];rfl
mutual
theorem zKo : ∀e : yB,kE (cvE e)<=4+4*wE e
 | .mk K N I R Q=>by
  have h:=zKT Q
  simp only[cvE,kE,wE,cvC,zKS,wC]
  have : (cvF I).Coefs.length = wF I:=rfl
  omega
theorem zKT : ∀l : List yB,kEs (cvEs l)<=4*(l.length+wEs l)
 | []=>by simp[cvEs,kEs]
 | e :: es=>by
  have h1:=zKo e
  have h2:=zKT es
  simp only[cvEs,kEs,wEs,cx]
  omega
end
theorem zLT(a : vG): kS (cvS a)<=5+5*wS a:=by
 have:=zKo a.Value
 have e : kF (cvS a).Write.Subs = wFs a.Write.Subs:=zKS _
 have e2 : (cvS a).Value = cvE a.Value:=rfl
 unfold kS wS wC
 rw[e,e2]
 omega
theorem zLU(a : vH): kN (cvX a).Nest+kB (cvX a).Body<=5+5*wX a:=by
 have h1 : kN (cvX a).Nest<=(a.Nest.map wL).sum:=by
  unfold kN
  simp only[cvX,dy]
  refine zE2 λx _ => ?_
  simp only[Function.comp,cvL,zKS,wL]
  exact cH _
 have h2 : kB (cvX a).Body<=5*(a.Body.length+(a.Body.map wS).sum):=by
  unfold kB
  rw[<- zHq]
  simp only[cvX,dy]
  exact zE2 λx _=>zLT x
 unfold wX
 omega
theorem zLV(a : wT): kP (cvP a)<=5*wP a:=by
 have h1 : kR (cvP a).Arrays<=a.Arrays.length+(a.Arrays.map wR).sum:=by
  unfold kR
  simp only[cvP,dy]
  have:=zHp wR (λ_=>1) a.Arrays
  rw[sum1] at this
  rw[Nat.add_comm,<- this]
  refine zE2 λx _ => ?_
  simp only[Function.comp,cvR,wR]
  omega
 have h2 : ((cvP a).Parts.map λx=>kN x.Nest+kB x.Body).sum<=5*(a.Parts.length+(a.Parts.map wX).sum):=by
  rw[<- zHq]
  simp only[cvP,dy]
  exact zE2 λx _=>zLU x
 unfold kP wP
 omega
theorem zIv(n : Int): kE (numE n) = 4:=rfl
theorem zKU(k : Int)(x y : zD): kE (opE k x y) = 4+kE x+kE y:=by
 simp only[opE,kE,kEs,kF,ee,List.sum_nil,cm]
 omega
theorem zLW(k : Int)(x y : zD): kE (opF k x y)<=4+kE x+kE y:=by
 unfold opF
 split
 ·split
  ·rw[zIv];omega
  ·rw[zKU];omega
 ·split
  ·omega
  ·split
   ·omega
   ·split
    ·rw[zIv];omega
    ·rw[zKU];omega
theorem zKV : ∀(n : Nat) (e : zD),kE (foE n e)<=kE e
 | 0,e=>cH _
 | n+1,e=>by
  rw[foE]
  split
  ·rw[zIv,zJR];omega
  ·split
   ·rename_i a b hk
    have h1:=zKV n a
    have h2:=zKV n b
    have h3:=zLW e.Kind (foE n a) (foE n b)
    rw[zJR e,hk]
    simp only[kEs]
    omega
   ·exact cH _
theorem zLX(P : zV): kP (foP P)<=kP P:=by
 unfold kP foP
 simp only[dy]
 refine Nat.add_le_add_left (zE2 λx _ => ?_) _
 show kN x.Nest+kB (x.Body.map foS)<=kN x.Nest+kB x.Body
 refine Nat.add_le_add_left ?_ _
 unfold kB
 rw[dy]
 refine zE2 λs _ => ?_
 show 1+kF s.Write.Subs+kE (foE 5 s.Value)<=1+kF s.Write.Subs+kE s.Value
 exact Nat.add_le_add_left (zKV 5 _) _
theorem zLE : BG ⟨[],[]⟩:=⟨⟨ex _,λ_ h=>by cases h⟩,ex _,λ_ h=>by cases h⟩
theorem zKX(a : wT)(h : lP a): pO a = some true:=by
 unfold pO
 obtain⟨y,hy,hw⟩:=szP a h 1048576 (by omega) (by omega)
 rw[hy]
 rcases hw with rfl|⟨h0,h1⟩
 ·rfl
 have hd : decide (y<0) = false:=by rw[decide_eq_false_iff_not];omega
 have hm:=zLR (a:=a) (by omega)
 have hb:=zLS hm
 have ht:=toP a hm
 have hk:=zLV a
 have hI:=implFo _ hb
 have hS:=specFo _ hb
 obtain⟨G,b,hG,hbG,hkG⟩ : ∃G b,foF (cvP a) = (G,b) /\ BG G /\ kP G<=kP (cvP a):=by
  unfold foF
  cases hv : validP (cvP a) with
  | true=>exact⟨_,_,rfl,zLO hb hv,zLX _⟩
  | false=>exact⟨_,_,rfl,zLE,ex _⟩
 rw[hG] at hI hS
 obtain⟨X,x1,x2⟩:=mkP (cvP a) hb (by omega)
 obtain⟨K,k1,k2⟩:=mkP G hbG (by omega)
 have d1 : ∀n : Nat,decide (1+(n : Int)<0) = false:=λn=>by rw[decide_eq_false_iff_not];omega
 simp only[hd,ht,hI,hS,eqP _ hbG,eqP _ hb,x1,k1,k2,d1,beq_self_eq_true,bne_self_eq_false,cL,bY,if_false,Option.bind_eq_bind,Option.bind_some,Option.pure_def]
end Go.LN
