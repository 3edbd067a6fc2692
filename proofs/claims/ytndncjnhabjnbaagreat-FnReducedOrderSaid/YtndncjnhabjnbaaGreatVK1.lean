/- Helper of the proof (see the last text). -/
import Derived.Test.YtndncjnhabjnbaaGreatVC1
set_option linter.unusedVariables false
set_option linter.unusedSimpArgs false
namespace Go.LN
theorem zOn{s:List zR}{f:zR->Option Bool}{p:zR->Bool}(hf:∀d∈s,f d=some (p d))(hl:s.length<=1000000):∀(j q:Nat),q+j=s.length ->
 (∃k:Nat,q<=k/\k<s.length/\(∀h:k<s.length,p s[k]=true)/\(∀(i:Nat) (h:i<s.length),q<=i->i<k->p s[i]=false)/\yC s f (q:Int)=some (.ret (k:Int))) ∨
 ((∀(i:Nat) (h:i<s.length),q<=i->p s[i]=false)/\yC s f (q:Int)=some (.done ())):=by
 intro j
 induction j with
 | zero=>
  intro q hq
  refine .inr ⟨λi h h1=>by omega,?_⟩
  rw[yC]
  have:¬((q:Int)<(s.length:Int)):=by omega
  simp only[this,dF,bF,if_false,oP]
 | succ j ih=>
  intro q hq
  have ax:q<s.length:=by omega
  have hc:((q:Int)<(s.length:Int)):=by omega
  have hx:=hf s[q] (gM ax)
  cases hp:p s[q] with
  | true=>
   refine .inl ⟨q,cI _,ax,λ_=>hp,λi h h1 h2=>by omega,?_⟩
   rw[yC]
   simp only[hc,dT,if_true,yO ax,hx,hp,oB,oS,oP]
  | false=>
   have e:yC s f (q:Int)=yC s f ((q+1:Nat):Int):=by
    rw[yC]
    simp only[hc,dT,if_true,yO ax,hx,hp,bF,if_false,oB,oS]
    rw[wD (by omega)]
   rw[e]
   rcases ih (q+1) (by omega) with⟨k,h1,h2,h3,h4,h5⟩|⟨h1,h2⟩
   ·refine .inl ⟨k,by omega,h2,h3,λi h g1 g2=>?_,h5⟩
    by_cases hi:i=q
    ·subst hi;exact hp
    ·exact h4 i h (by omega) g2
   ·refine .inr ⟨λi h g1=>?_,h2⟩
    by_cases hi:i=q
    ·subst hi;exact hp
    ·exact h1 i h (by omega)
theorem zJW{α:Type}{l:List α}{i:Nat}{x:α}(h:i<l.length):(l.set i x).take (i+1)=l.take i++[x]:=by
 rw[List.take_add_one,List.getElem?_set_self h,List.take_set_of_le (cI _)];rfl
theorem zQd{s:List zR}{f:zR->Option Bool}{p:zR->Bool}(hf:∀d∈s,f d=some (p d))(hl:s.length<=1000000):∀(r j:Nat) (s1:List zR) (i:Nat),j+r=s.length->s1.length=s.length->i<j->s1.drop j=s.drop j ->
 ∃(s2:List zR) (i2:Nat),xP f s1 (i:Int) (j:Int)=some (s2,(i2:Int))/\i2<=s2.length/\s2.length=s.length/\s2.take i2=s1.take i++(s.drop j).filter λd=>!p d:=by
 intro r
 induction r with
 | zero=>
  intro j s1 i hj h1 hi hd
  refine⟨s1,i,?_,by omega,h1,?_⟩
  ·rw[xP]
   have:¬((j:Int)<(s1.length:Int)):=by omega
   simp only[this,dF,bF,if_false,oP]
  ·rw[dN.2 (show s.length<=j by omega)];simp
 | succ r ih=>
  intro j s1 i hj h1 hi hd
  have ax:j<s.length:=by omega
  have hlt1:j<s1.length:=by omega
  have hc:((j:Int)<(s1.length:Int)):=by omega
  have e0:s1[j]=s[j]:=by
   have g1:(s1.drop j)[0]?=(s.drop j)[0]?:=by rw[hd]
   rw[dq,dq,gk,cd hlt1,cd ax] at g1
   exact Option.some.inj g1
  have hd2:s1.drop (j+1)=s.drop (j+1):=by
   have:(s1.drop j).drop 1=(s.drop j).drop 1:=by rw[hd]
   rwa[db,db] at this
  have hx:=hf s[j] (gM ax)
  rw[xP,gC ax]
  simp only[hc,dT,if_true,yO hlt1,e0,hx,oB,oS,oP]
  cases hp:p s[j] with
  | false=>
   have hii:i<s1.length:=by omega
   simp only[cT,if_true,yO hii,oS,iN]
   rw[wD (show i<9223372036854775807 by omega),wD (show j<9223372036854775807 by omega)]
   obtain⟨s2,i2,g1,g2,g3,g4⟩:=ih (j+1) (s1.set i s[j]) (i+1) (by omega) (by rw[cJ];exact h1) (by omega) (by rw[List.drop_set_of_lt (by omega)];exact hd2)
   refine⟨s2,i2,g1,g2,g3,?_⟩
   rw[g4,zJW hii,gb,hp]
   simp
  | true=>
   simp only[bT,bF,if_false,oS]
   rw[wD (show j<9223372036854775807 by omega)]
   obtain⟨s2,i2,g1,g2,g3,g4⟩:=ih (j+1) s1 i (by omega) h1 (by omega) hd2
   refine⟨s2,i2,g1,g2,g3,?_⟩
   rw[g4,gb,hp]
   simp
theorem delV{s:List zR}{f:zR->Option Bool}{p:zR->Bool}(hf:∀d∈s,f d=some (p d))(hl:s.length<=1000000):wX s f=some (s.filter λd=>!p d):=by
 unfold wX xO;rcases zOn hf hl _ 0 (cm _) with⟨k,_,h2,h3,h4,h5⟩|⟨h1,h2⟩
 ·rw[nZ] at h5;have e:((k:Int) == -1)=false:=by simp
  obtain⟨s2,i2,g1,g2,g3,g4⟩:=zQd hf hl _ (k+1) s k (Nat.add_sub_cancel' (by omega)) rfl (by omega) rfl;have ec:clrL s2 (i2:Int) (zR.mk 0 0 0)=some (s2.take i2++List.replicate (s2.length - i2) (zR.mk 0 0 0)):=by
   unfold clrL;rw[if_pos ⟨by omega,by omega⟩];rfl
  have es:slc (s2.take i2++List.replicate (s2.length - i2) (zR.mk 0 0 0)) 0 (i2:Int)=some (s2.take i2):=by
   unfold slc;rw[if_pos ⟨by omega,by omega,by simp;omega⟩,iN,List.take_append_of_le_length (by rw[cx];omega),ep,Nat.min_self];rfl
  simp only[h5,oB,oS,oP,e,bF,if_false,id];rw[wD (show k<9223372036854775807 by omega)];simp only[g1,oS,ec,es];refine congrArg some ?_;rw[g4];have e1:s=s.take k++s[k]::s.drop (k+1):=by rw[<- gC h2,f5]
  have e2:(s.take k).filter (λd=>!p d)=s.take k:=by
   refine List.filter_eq_self.2 λd hd=>?_;obtain⟨i,hi,rfl⟩:=dr.1 hd;rw[cx] at hi;rw[List.getElem_take,h4 i (by omega) (by omega) (by omega)];rfl
  conv=>rhs;rw[e1]
  rw[List.filter_append,gb,h3 h2,e2];simp
 ·rw[nZ] at h2;simp only[h2,oB,oS,oP,bQ,if_true,id];refine congrArg some (List.filter_eq_self.2 λd hd=>?_).symm;obtain⟨i,hi,rfl⟩:=dr.1 hd;rw[h1 i hi (by omega)];rfl
def kpD(P:zC)(d:zR):Bool:=(namF P (zIns P d.From.toNat)).l==[] || !((namF P (zIns P d.From.toNat)).l==(namF P (zIns P d.To.toNat)).l)
def sdF(P:zC):List zR:=(dpF P).filter (kpD P)
theorem zPz{P:zC}{z:zN}(hz:InP P z):((stI P z).Write.Array.l==[])=false:=by
 obtain⟨d,hd⟩:=hz.st;have hw:accB (stI P z).Write d=true:=by simp only[stmtB,bA] at hd;exact hd.1.2
 cases hl:(stI P z).Write.Array.l with
 | nil=>
  simp only[accB,bA] at hw;rw[hl] at hw;exact absurd hw.1.1 (by decide)
 | cons x l=>rfl
theorem zOo{P:zC}{a b:zN}(ha:InP P a)(hb:InP P b):((namF P a).l==[] || !((namF P a).l==(namF P b).l))=!(redB (stI P a)&&(redB (stI P b)&&((stI P a).Write.Array.l==(stI P b).Write.Array.l))):=by
 have h1:=zPz ha;have h2:=zPz hb;unfold namF;cases redB (stI P a) with
 | false=>rfl
 | true=>
  cases redB (stI P b) with
  | false=>simp only[if_true,bF,if_false,h1,eo,fb,gt]
  | true=>simp only[if_true,h1,eo,cv]
theorem zIx{P:zC}{i:Nat}(h:i<(progI P).length):idx (progI P) (i:Int)=some (zIns P i):=by rw[yO h,zHV h]
theorem predSD{P:zC}(hb:BG P)(hv:validP P=true){d:zR}(hd:d∈dpF P):qJ d (trcP P)=some (!kpD P d):=by
 have e:dpF P=depA P 0 (progI P).length:=by unfold dpF;rw[hv];rfl
 rw[e] at hd;obtain⟨i,k,rfl,h1,h2,_⟩:=zEO hd;have hi:i<(progI P).length:=by omega
 have ha:=zFX hb hv (zKL hi);have hk:=zFX hb hv (zKL h2);obtain⟨d1,hd1⟩:=ha.st;obtain⟨d2,hd2⟩:=hk.st;have eT:(trcP P).list=progI P:=rfl;have eP:(trcP P).Program=P:=rfl;unfold qJ qF kpD;simp only[eT,eP,zIx hi,zIx h2,ha.idxP,ha.idxS,hk.idxP,hk.idxS,implRed _ hd1,implRed _ hd2,oB,oS,oP,id,iN];rw[zOo ha hk,Bool.not_not];cases redB (stI P (zIns P i)) <;> cases redB (stI P (zIns P k)) <;> rfl
theorem implSD(P:zC)(hb:BG P):mT P=some (sdF P):=by
 unfold mT sdF;rw[implTrace P hb];cases hv:validP P with
 | false=>
  have e:dpF P=[]:=by unfold dpF;rw[hv];rfl
  rw[e];rfl
 | true=>
  have hdp:=implDeps P hb;unfold pK at hdp;rw[implTrace P hb,hv] at hdp;simp only[if_true,oB,oS,bT,bF,if_false,oP,id] at hdp ⊢;cases hd:nL (trcP P) with
  | none=>rw[hd] at hdp;cases hdp
  | some y=>
   rw[hd] at hdp;have hy:y=dpF P:=Option.some.inj hdp;have aJ:=zKi (P:=P);rw[oS,hy,delV (λd hd=>predSD hb hv hd) (by omega)];rw[oS];refine congrArg some (List.filter_congr λd _=>?_);rw[Bool.not_not]
theorem namesV{P:zC}(hb:BG P)(hv:validP P=true):eA P=some ((progI P).map (namF P)):=by
 have h:=zOm hb hv _ 0 [] (cm _) rfl;rw[nZ,cq,cu] at h;unfold eA;simp only[specInsts P hv,h,oB,oS,oP,id]
theorem zMy{P:zC}{i:Nat}(h:i<(progI P).length):idx ((progI P).map (namF P)) (i:Int)=some (namF P (zIns P i)):=by
 rw[yO (by rw[lM];exact h),List.getElem_map,zHV h]
theorem zNf{P:zC}{D:List zR}(hD:∀d∈D,∃i k:Nat,d.From=(i:Int)/\d.To=(k:Int)/\i<(progI P).length/\k<(progI P).length)(hl:D.length<=1000000):∀(j q:Nat) (o:List zR),q+j=D.length->o.length<=q->rH ((progI P).map (namF P)) D o (q:Int)=some (o++(D.drop q).filter (kpD P)):=by
 intro j
 induction j with
 | zero=>
  intro q o hq ho;rw[rH];have:¬((q:Int)<(D.length:Int)):=by omega
  simp only[this,dF,bF,if_false,oP,id];rw[dN.2 (by omega)];simp
 | succ j ih=>
  intro q o hq ho;have ax:q<D.length:=by omega
  have hc:((q:Int)<(D.length:Int)):=by omega
  obtain⟨i,k,e1,e2,h1,h2⟩:=hD D[q] (gM ax);rw[rH,gC ax,gb];have ek:kpD P D[q]=((namF P (zIns P i)).l==[] || !((namF P (zIns P i)).l==(namF P (zIns P k)).l)):=by unfold kpD;rw[e1,e2,iN,iN]
  rw[ek];simp only[hc,dT,if_true,yO ax,e1,e2,zMy h1,zMy h2,oB,oS,oP,id];have et:(if((namF P (zIns P i)).l==[])=true then some true else some (!((namF P (zIns P i)).l==(namF P (zIns P k)).l)))=some ((namF P (zIns P i)).l==[] || !((namF P (zIns P i)).l==(namF P (zIns P k)).l)):=by
   cases (namF P (zIns P i)).l==[] <;> rfl
  rw[et,oS];cases ((namF P (zIns P i)).l==[] || !((namF P (zIns P i)).l==(namF P (zIns P k)).l)) with
  | true=>
   simp only[if_true,qL (show (o.length+[D[q]].length)*24<=140737488355328 by simp;omega),oS];rw[wD (by omega),ih (q+1) _ (by omega) (by rw[lA];simp;omega),cr];rfl
  | false=>
   simp only[bF,if_false,oS];rw[wD (by omega),ih (q+1) _ (by omega) (by omega)]
theorem zOp{P:zC}:∀d∈depA P 0 (progI P).length,∃i k:Nat,d.From=(i:Int)/\d.To=(k:Int)/\i<(progI P).length/\k<(progI P).length:=by
 intro d hd;obtain⟨i,k,rfl,h1,h2,_⟩:=zEO hd;exact⟨i,k,rfl,rfl,by omega,h2⟩
theorem specSD(P:zC)(hb:BG P):gA P=some (sdF P):=by
 unfold gA sdF;rw[specValidP P hb];cases hv:validP P with
 | false=>
  have e:dpF P=[]:=by unfold dpF;rw[hv];rfl
  rw[e];rfl
 | true=>
  have e:dpF P=depA P 0 (progI P).length:=by unfold dpF;rw[hv];rfl
  have aJ:=zKi (P:=P);rw[e] at aJ ⊢;have h:=zNf zOp (by omega) _ 0 [] (cm (depA P 0 (progI P).length).length) (cI 0);rw[nZ,cq,cu] at h;simp only[bT,bF,if_false,namesV hb hv,specDeps6 P hb hv,h,oB,oS,oP,id]
theorem drawSD(code:List UInt8):Ok (nH code) BG:=by
 unfold nH;refine Ok.call (zH4 code) trivial λs hs=>Ok.call (zLs s) ⟨by omega,by omega⟩ λa t g1 g2 g3=>?_;refine Ok.bind (mut4 t a g1.dp (by omega) (by omega)) λp hp=>?_;obtain⟨P,r⟩:=p;exact Ok.pure hp.1.1
theorem zKm{P:zC}:(sdF P).length<=14400:=cX (List.length_filter_le _ _) zKi
end Go.LN
namespace Go.LN
def chF(cs:List Int)(n0 many:Nat):Int:=if cs.length=0 then 0 else if(cs.getD (n0 % cs.length) 0).tmod (many:Int)>0 then(cs.getD (n0 % cs.length) 0).tmod (many:Int) else 0
theorem zPl(cs:List Int)(n0:Nat){many:Nat}(hm:0<many):0<=chF cs n0 many/\chF cs n0 many<(many:Int):=by
 unfold chF;have ax:=Int.tmod_lt_of_pos (cs.getD (n0 % cs.length) 0) (show (0:Int)<(many:Int) by omega);split
 ·omega
 ·split <;> omega
theorem zLt{cs:List Int}(h:¬cs.length=0)(n0:Nat){many:Nat}(hm:0<many):rem (n0:Int) (cs.length:Int)=some ((n0 % cs.length:Nat):Int)/\idx cs ((n0 % cs.length:Nat):Int)=some (cs.getD (n0 % cs.length) 0)/\rem (cs.getD (n0 % cs.length) 0) (many:Int)=some ((cs.getD (n0 % cs.length) 0).tmod (many:Int)):=by
 have hq:n0 % cs.length<cs.length:=Nat.mod_lt _ (by omega);refine⟨?_,?_,?_⟩
 ·unfold rem;rw[if_neg (by omega)];rfl
 ·rw[yO hq];simp[hq]
 ·unfold rem;rw[if_neg (by omega)]
theorem implCh(cs:List Int)(n0:Nat){many:Nat}(hm:0<many):zAP cs (n0:Int) (many:Int)=some (chF cs n0 many):=by
 unfold zAP chF;by_cases h:cs.length=0
 ·have e:((cs.length:Int)==0)=true:=by simp[h]
  rw[if_pos e,if_pos h];rfl
 ·have e:¬(((cs.length:Int)==0)=true):=by simp;intro e;exact h (by rw[e];rfl)
  obtain⟨h1,h2,h3⟩:=zLt h n0 hm;rw[if_neg e,if_neg h];simp only[h1,h2,h3,oB,oS,oP,id]
theorem specCh(cs:List Int)(n0:Nat){many:Nat}(hm:0<many):eC cs (n0:Int) (many:Int)=some (chF cs n0 many):=by
 unfold eC chF;by_cases h:cs.length=0
 ·have e:((cs.length:Int)==0)=true:=by simp[h]
  rw[if_pos e,if_pos h];rfl
 ·have e:¬(((cs.length:Int)==0)=true):=by simp;intro e;exact h (by rw[e];rfl)
  obtain⟨h1,h2,h3⟩:=zLt h n0 hm;rw[if_neg e,if_neg h];simp only[h1,h2,h3,oB,oS,oP,id];generalize (cs.getD (n0 % cs.length) 0).tmod (many:Int)=q;by_cases h4:q<0
  ·rw[if_pos (by simpa using h4),if_neg (by omega)]
  ·rw[if_neg (by simpa using h4)];by_cases h5:q>0
   ·rw[if_pos h5]
   ·rw[if_neg h5];exact congrArg some (by omega)
def pkF(D:List zR)(n:Nat)(cs:List Int)(n0:Nat)(dn:Nat->Bool):Nat:=((choF (stBo n (rdF D dn)) 0).getD (chF cs n0 (choF (stBo n (rdF D dn)) 0).length).toNat 0).toNat
def grd(D:List zR)(n:Nat)(cs:List Int):Nat->Nat->(Nat->Bool)->List Int
 | 0,_,_=>[]
 | j+1,n0,dn=>((pkF D n cs n0 dn:Nat):Int)::grd D n cs j (n0+1) λy=>dn y||y==pkF D n cs n0 dn
theorem zKn{D:List zR}{n:Nat}(ax:∀d∈D,d.From.toNat<d.To.toNat){dn:Nat->Bool}(h:0<cntU dn n):0<(choF (stBo n (rdF D dn)) 0).length:=by
 obtain⟨x,x1,x2,x3⟩:=zJS h;have hmem:((x:Nat):Int)∈choF (stBo n (rdF D dn)) 0:=by
  refine zKl.2 ⟨x,by omega,?_⟩;rw[zLr,if_pos x1];unfold rdF;rw[x2,cT,cv,ck];intro d hd;by_cases e:x=d.To.toNat
  ·rw[x3 _ (by have:=ax d hd;omega),Bool.true_or]
  ·have:(x==d.To.toNat)=false:=by simpa using e
   rw[this];simp
 exact List.length_pos_of_mem hmem
theorem zOq{D:List zR}{n:Nat}(ax:∀d∈D,d.From.toNat<d.To.toNat){dn:Nat->Bool}(h:0<cntU dn n)(cs:List Int)(n0:Nat):idx (choF (stBo n (rdF D dn)) 0) (chF cs n0 (choF (stBo n (rdF D dn)) 0).length)=some ((pkF D n cs n0 dn:Nat):Int)/\pkF D n cs n0 dn<n/\rdF D dn (pkF D n cs n0 dn)=true:=by
 obtain⟨c0,c1⟩:=zPl cs n0 (zKn ax h);unfold pkF;generalize hr:choF (stBo n (rdF D dn)) 0=r at c0 c1;obtain⟨k,hk⟩:∃k:Nat,chF cs n0 r.length=(k:Int):=⟨(chF cs n0 r.length).toNat,by omega⟩;have hkl:k<r.length:=by omega
 rw[hk,iN];have hg:r.getD k 0=r[k]:=by simp[hkl]
 rw[hg];have hm:r[k]∈choF (stBo n (rdF D dn)) 0:=by rw[hr];exact gM hkl
 obtain⟨m,m1,m2⟩:=zKl.1 hm;rw[zLr] at m2;rw[cm] at m1;rw[yO hkl,m1,iN];by_cases hmn:m<n
 ·rw[if_pos hmn] at m2;exact⟨rfl,hmn,m2⟩
 ·rw[if_neg hmn] at m2;cases m2
theorem zM5{D:List zR}{dn:Nat->Bool}{m:Nat}(h:rdF D dn m=true):dn m=false/\∀d∈D,d.To.toNat=m->dn d.From.toNat=true:=by
 unfold rdF at h;rw[bA,ck] at h;refine⟨by simpa using h.1,λd hd e=>?_⟩;have:=h.2 d hd;rw[<- e,bQ] at this;simpa using this
theorem zPm{n:Nat}{dn:Nat->Bool}(t:Nat){D:List zR}(hD:∀d∈D,DB n d)(hl:D.length<=1000000):∀(j q:Nat),q+j=D.length->∃r,yC D (λx0=>pC x0 (t:Int) (stBo n dn)) (q:Int)=some r/\((r=.done ()/\((D.drop q).all λd=>dn d.From.toNat || !(t==d.To.toNat))=true)∨∃k:Nat,r=.ret (k:Int)/\((D.drop q).all λd=>dn d.From.toNat || !(t==d.To.toNat))=false):=by
 intro j
 induction j with
 | zero=>
  intro q hq;rw[yC];have:¬((q:Int)<(D.length:Int)):=by omega
  refine⟨_,by simp only[this,dF,bF,if_false,oP],.inl ⟨rfl,?_⟩⟩;rw[dN.2 (by omega)];rfl
 | succ j ih=>
  intro q hq;rw[yC];have ax:q<D.length:=by omega
  have hc:((q:Int)<(D.length:Int)):=by omega
  obtain⟨i,k,e1,e2,h1,h2⟩:=hD D[q] (gM ax);have hb:pC D[q] (t:Int) (stBo n dn)=some (!(dn i || !(t==k))):=by
   unfold pC;simp only[e1,e2,zB6 h1,oB,oS,oP,id];by_cases e:k=t
   ·subst e;simp
   ·have a1:((k:Int)==(t:Int))=false:=by simp;omega
    have a2:(t==k)=false:=by simp;omega
    rw[a1,a2];simp
  rw[gC ax,d5,e1,e2,iN,iN];cases hk:(dn i || !(t==k)) with
  | false=>exact⟨_,by simp only[hc,dT,if_true,yO ax,hb,hk,cT,oB,oS,oP],.inr ⟨q,rfl,rfl⟩⟩
  | true=>
   obtain⟨r,hr,aV⟩:=ih (q+1) (by omega);refine⟨r,?_,by simpa using aV⟩;simp only[hc,dT,if_true,yO ax,hb,hk,bT,oB,oS,oP,bF,if_false];rw[wD (by omega),hr]
theorem waitV{n:Nat}{dn:Nat->Bool}(t:Nat){D:List zR}(hD:∀d∈D,DB n d)(hl:D.length<=1000000):wO D (λx0=>pC x0 (t:Int) (stBo n dn))=some (!(D.all λd=>dn d.From.toNat || !(t==d.To.toNat))):=by
 obtain⟨r,hr,hc⟩:=zPm (dn:=dn) t hD hl _ 0 (cm D.length);rw[nZ] at hr;rw[cq] at hc;unfold wO xO;rw[hr];rcases hc with⟨rfl,h⟩|⟨k,rfl,h⟩
 ·rw[h];rfl
 ·rw[h];have:((k:Int)>=0):=by omega
  simp[this]
theorem zQe{D:List zR}{n:Nat}(hD:∀d∈D,DB n d)(hl:D.length<=1000000)(hn:n<=120)(dn:Nat->Bool):∀(j i:Nat) (o:List Int),i+j=n->o.length<=i->mD D (n:Int) (stBo n dn) o (i:Int)=some (o++choF ((stBo n (rdF D dn)).drop i) i):=by
 intro j
 induction j with
 | zero=>
  intro i o hi ho;rw[mD];have:¬((i:Int)<(n:Int)):=by omega
  simp only[this,dF,bF,if_false,oP,id];rw[dN.2 (by rw[kL];omega),choF,co]
 | succ j ih=>
  intro i o hi ho;rw[mD];have hc:((i:Int)<(n:Int)):=by omega
  have ax:i<n:=by omega
  rw[gC (show i<(stBo n (rdF D dn)).length by rw[kL];exact ax),choF,zCv];simp only[hc,dT,if_true,waitV (dn:=dn) i hD hl,zB6 ax,oB,oS,oP,id,qL (show (o.length+[(i:Int)].length)*8<=140737488355328 by simp;omega),Bool.not_not];rw[wD (by omega)];have er:rdF D dn i=(!dn i&&D.all λd=>dn d.From.toNat || !(i==d.To.toNat)):=rfl;rw[er];cases dn i with
  | true=>
   simp only[bT,fb,bF,if_false,oS,cu];exact ih (i+1) o (by omega) (by omega)
  | false=>
   simp only[cT,cv,if_true,oS];cases D.all λd=>dn d.From.toNat || !(i==d.To.toNat) with
   | false=>
    simp only[bF,if_false,oS,cu];exact ih (i+1) o (by omega) (by omega)
   | true=>
    simp only[if_true,oS];rw[ih (i+1) _ (by omega) (by rw[lA];simp;omega),cr]
theorem zMz{D:List zR}{n:Nat}(hD:∀d∈D,DB n d)(ax:∀d∈D,d.From.toNat<d.To.toNat)(hl:D.length<=1000000)(hn:n<=120)(cs:List Int):∀(j n0:Nat) (dn:Nat->Bool) (o:List Int),n0+j=n->cntU dn n=j->o.length=n0->tQ D (n:Int) cs o (n0:Int) (stBo n dn)=some (o++grd D n cs j n0 dn):=by
 intro j
 induction j with
 | zero=>
  intro n0 dn o h1 h2 h3;rw[tQ];have:¬((n0:Int)<(n:Int)):=by omega
  simp only[this,dF,bF,if_false,oP,id,grd,co]
 | succ j ih=>
  intro n0 dn o h1 h2 h3;rw[tQ];have hc:((n0:Int)<(n:Int)):=by omega
  obtain⟨p1,p2,p3⟩:=zOq ax (show 0<cntU dn n by omega) cs n0;have hdm:=(zM5 p3).1;have hr:=zQe hD hl hn dn n 0 [] (cm _) (cI _);rw[nZ,cq,cu] at hr;simp only[hc,dT,if_true,hr,implCh cs n0 (zKn ax (show 0<cntU dn n by omega)),p1,zB6 p2,oB,oS,oP,iN,zLp p2,qL (show (o.length+[((pkF D n cs n0 dn:Nat):Int)].length)*8<=140737488355328 by simp;omega)];have:=zG3 hdm p2;rw[wD (by omega),ih (n0+1) _ _ (by omega) (by omega) (by rw[lA];simp;omega),cr];rfl
theorem zKo{D:List zR}{n:Nat}(hD:∀d∈D,DB n d)(ax:∀d∈D,d.From.toNat<d.To.toNat)(cs:List Int):∀(j n0:Nat) (dn:Nat->Bool),cntU dn n=j ->
 (∀x∈grd D n cs j n0 dn,0<=x/\x<(n:Int)/\dn x.toNat=false)/\(grd D n cs j n0 dn).Nodup/\(grd D n cs j n0 dn).length=j /\
 ∀d∈D,∀b:Nat,(grd D n cs j n0 dn)[b]?=some d.To->dn d.From.toNat=true∨∃a,a<b/\(grd D n cs j n0 dn)[a]?=some d.From
 | 0,n0,dn,_=>⟨λx h=>(by cases h),List.nodup_nil,rfl,λd _ b h=>by simp[grd] at h⟩
 | j+1,n0,dn,h=>by
  obtain⟨p1,p2,p3⟩:=zOq ax (show 0<cntU dn n by omega) cs n0
  obtain⟨q1,q2⟩:=zM5 p3
  have hs:=zG3 q1 p2
  obtain⟨i1,i2,i3,i4⟩:=zKo hD ax cs j (n0+1) (λy=>dn y||y==pkF D n cs n0 dn) (by omega)
  rw[grd]
  generalize pkF D n cs n0 dn=m at p1 p2 p3 q1 q2 hs i1 i2 i3 i4
  refine⟨λx hx=>?_,eh.2 ⟨λhm=>?_,i2⟩,by rw[cy,i3],λd hd b hb=>?_⟩
  ·rcases cz.1 hx with rfl|hx
   ·exact⟨by omega,by omega,by rw[iN];exact q1⟩
   ·obtain⟨k1,k2,k3⟩:=i1 x hx
    exact⟨k1,k2,(Bool.or_eq_false_iff.1 k3).1⟩
  ·have:=(i1 _ hm).2.2
   rw[iN] at this
   simp at this
  ·cases b with
   | zero=>
    have hb:(m:Int)=d.To:=by simpa using hb
    exact .inl (q2 d hd (by rw[<- hb,iN]))
   | succ b=>
    have hb:(grd D n cs j (n0+1) λy=>dn y||y==m)[b]?=some d.To:=by simpa using hb
    rcases i4 d hd b hb with h1|⟨a,h1,h2⟩
    ·rcases d7 _ _ ▸ h1 with h1|h1
     ·exact .inl h1
     ·refine .inr ⟨0,by omega,?_⟩
      obtain⟨i,k,e1,_,_,_⟩:=hD d hd
      have:d.From.toNat=m:=by simpa using h1
      rw[e1,iN] at this
      rw[e1,this];rfl
    ·exact .inr ⟨a+1,by omega,by simpa using h2⟩
def grF(P:zC)(cs:List Int):List Int:=if validP P then grd (depA P 0 (progI P).length) (progI P).length cs (progI P).length 0 (λ_=>false) else[]
theorem zCw{P:zC}:∀d∈depA P 0 (progI P).length,d.From.toNat<d.To.toNat:=by
 intro d hd;obtain⟨i,k,rfl,k1,_⟩:=zEO hd;show ((i:Nat):Int).toNat<((k:Nat):Int).toNat;rw[iN,iN];exact k1
theorem implGr(P:zC)(hb:BG P)(cs:List Int):jD P cs=some (grF P cs):=by
 unfold jD eK grF;rw[implDeps P hb,implInstP P hb];unfold dpF;cases hv:validP P with
 | false=>
  have h1:tQ [] 0 cs [] 0 []=some []:=by rw[tQ];simp
  simp only[bF,if_false,oB,oS];rw[show ((([]:List zN).length:Int))=((0:Nat):Int) from rfl,zEA 0 (by omega)];simp[h1]
 | true=>
  have aJ:=(uV hv).2.2.2;have hl0:=zMw aJ;have h1:=zMz (zBN (P:=P)) zCw (by omega) aJ cs (progI P).length 0 (λ_=>false) [] (cm _) (zB7 _) rfl;rw[<- zG1,nZ,cu] at h1;simp only[if_true,zEA (progI P).length (by omega),h1,oB,oS,oP,id]
theorem zLu:∀(m:Nat) (o:List Int) (x:zO),0<=x.p->x.p+20*(m:Int)<=900000000->o.length+m<=1000->Ok (uL o (m:Int) x) (λ_=>True)
 | 0,o,x,h0,h1,ho=>by
  rw[uL]
  exact⟨o,rfl,trivial⟩
 | m+1,o,x,h0,h1,ho=>by
  rw[uL]
  have hc:((m+1:Nat):Int)>0:=by omega
  rw[if_pos (by simp)]
  refine Ok.call (uI x _) ⟨by decide,h0,by omega,by decide⟩ λy s g1 g2 g3=>Ok.app (by show (_+1)*8<=_;omega) ?_
  rw[show W (((m+1:Nat):Int) - 1)=(m:Int) by rw[rA (by omega) (by omega)];omega]
  exact zLu m _ s (by omega) (by omega) (by rw[lA];simp;omega)
theorem drawGr(code:List UInt8):Ok (oO code) (λy=>BG y.1):=by
 unfold oO;refine Ok.call (zH4 code) trivial λs hs=>Ok.call (zJH s) ⟨by omega,by omega⟩ λa t g1 g2 g3=>?_;refine Ok.bind (mut4 t a g1.dp (by omega) (by omega)) λp hp=>?_;obtain⟨P,r⟩:=p;have h0:0<=r.p:=hp.2.1;have h1:r.p<=700001000:=hp.2.2;refine Ok.call (uI r _) ⟨by decide,h0,by omega,by decide⟩ λy s2 g1 g2 g3=>?_;obtain⟨m,hm⟩:∃m:Nat,y=(m:Int)/\m<=5:=by
  simp only[cz,List.mem_nil_iff,or_false] at g1;exact⟨y.toNat,by omega,by omega⟩
 rw[hm.1];exact Ok.bind (zLu m [] s2 (by omega) (by omega) (by simp;omega)) λo _=>Ok.pure hp.1.1
end Go.LN
namespace Go.LN
open Go.Sort Go.Proofs
def nums(n:Nat):List Int:=(List.range' 0 n).map λ(x:Nat)=>(x:Int)
theorem zG6(n:Nat):(nums n).length=n:=by unfold nums;rw[lM,List.length_range']
theorem zKp{n i:Nat}(h:i<(nums n).length):(nums n)[i]=(i:Int):=by simp[nums]
theorem zG7{n:Nat}{x:Int}(h:x∈nums n):∃m:Nat,x=(m:Int)/\m<n:=by
 obtain⟨i,hi,e⟩:=dr.1 h;rw[zKp hi] at e;rw[zG6] at hi;exact⟨i,e.symm,hi⟩
theorem zPn(n:Nat):(nums n).Pairwise (· < ·):=by
 rw[fq];intro i j hi hj hij;rw[zKp,zKp];omega
theorem zOr{x:List Int}{φ:Int->Int->Option Int}(lv:Int->Int)(hφ:∀a∈x,∀b∈x,∃r,φ a b=some r/\(r<0↔lv a<lv b))(hA:x.Pairwise (· < ·)):
 (srS x φ).Pairwise (λa b=>lv a<lv b∨(lv a=lv b/\a<b))/\∀a∈srS x φ,a∈x:=by
 cases x with
 | nil=>exact⟨List.Pairwise.nil,λa h=>h⟩
 | cons y ys=>
  obtain⟨s,I,hS,hres⟩:∃(s:List Int) (I:Inhabited (Nm s)),s=y::ys/\srS (y::ys) φ=(@stA _ I (ltOf (cfN φ)) (rowN s) s.length).toList.map (·.val):=⟨y::ys,inhN y ys,rfl,rfl⟩
  rw[hres,<- hS]
  rw[<- hS] at hφ hA
  clear hres
  have ax:ltOf (cfN φ)=ltV (λa:Nm s=>lv a.val):=by
   funext a b
   obtain⟨r,h1,h2⟩:=hφ a.val a.property b.val b.property
   unfold ltOf ltV cfN
   rw[h1]
   exact decide_eq_decide.2 h2
  have hg:∀p (h:p<s.length),((rowN s)[p]!).val=s[p]:=λp h=>by
   rw[getElem!_pos (rowN s) p (by rw[zBO];exact h)]
   simp[rowN]
  have h:=zQP (λa:Nm s=>lv a.val) (λa=>a.val) (rowN s) (λp q h1 h2 h3 h4=>by
   rw[zBO] at h4
   show ((rowN s)[p]!).val<((rowN s)[q]!).val
   rw[hg p (by omega),hg q h4]
   exact fq.1 hA p q (by omega) h4 h2)
  rw[zBO,<- ax] at h
  obtain⟨hw,hs⟩:=h
  refine⟨?_,λa ha=>?_⟩
  ·rw[List.pairwise_map,fq]
   intro i j hi hj hij
   have hz:=hw.sz
   rw[zBO] at hz
   rw[df,hz] at hi hj
   have:=hs i j (fj _) hij hj
   rw[getElem!_pos _ i (by rw[hz];exact hi),getElem!_pos _ j (by rw[hz];exact hj)] at this
   rw[gg,gg]
   exact this
  ·obtain⟨b,_,e⟩:=fl.1 ha
   rw[<- e];exact b.property
theorem zOs{g:Nat->Int}:∀{l k:List Int},l.Pairwise (RR g)->k.Pairwise (RR g)->(∀x,x∈l↔x∈k)->l=k
 | [],[],_,_,_=>rfl
 | [],b::k,_,_,h=>by have:=(h b).2 (ci ..);cases this
 | a::l,[],_,_,h=>by have:=(h a).1 (ci ..);cases this
 | a::l,b::k,h1,h2,h=>by
  have no:∀{u v:Int},RR g u v->RR g v u->False:=λh h'=>by unfold RR at h h';omega
  have p1:∀{x},x∈l->RR g a x:=λhx=>List.rel_of_pairwise_cons h1 hx
  have p2:∀{x},x∈k->RR g b x:=λhx=>List.rel_of_pairwise_cons h2 hx
  have e:a=b:=by
   rcases cz.1 ((h a).1 (ci ..)) with e|m1
   ·exact e
   ·rcases cz.1 ((h b).2 (ci ..)) with e|m2
    ·exact e.symm
    ·exact(no (p2 m1) (p1 m2)).elim
  subst e
  rw[zOs h1.of_cons h2.of_cons λx=>⟨λhx=>?_,λhx=>?_⟩]
  ·rcases cz.1 ((h x).1 (cg _ hx)) with rfl|m
   ·exact(no (p1 hx) (p1 hx)).elim
   ·exact m
  ·rcases cz.1 ((h x).2 (cg _ hx)) with rfl|m
   ·exact(no (p2 hx) (p2 hx)).elim
   ·exact m
theorem zQf{g:Nat->Int}{n:Nat}(hg:∀m,m<n->0<=g m/\g m<1000):∀a∈nums n,∀b∈nums n,∃r,wP a b (stL n g)=some r/\(r<0↔g a.toNat<g b.toNat):=λa ha b hb=>by
 obtain⟨i,rfl,hi⟩:=zG7 ha;obtain⟨k,rfl,hk⟩:=zG7 hb;have h1:=hg i hi;have h2:=hg k hk;refine⟨g i - g k,?_,?_⟩
 ·unfold wP;simp only[zCu hi,zCu hk,oB,oS,oP];rw[rA (by omega) (by omega)]
 ·rw[iN,iN];omega
theorem zNA{g:Nat->Int}{n c:Nat}(hn:n<=120)(hc:c<=121)(hg:∀m,m<n->0<=g m/\g m<(c:Int)):wJ (nums n) (λx0 x1=>wP x0 x1 (stL n g))=some (ordA g n 0 c):=by
 have hcmp:=zQf (n:=n) (g:=g) λm hm=>by have:=hg m hm;omega
 unfold wJ;rw[if_pos ⟨by rw[zG6];omega,λa ha b hb=>by obtain⟨r,h1,_⟩:=hcmp a ha b hb;show (wP a b (stL n g)).isSome=true;rw[h1];rfl⟩];obtain⟨h1,h2⟩:=zOr (λx=>g x.toNat) hcmp (zPn n);refine congrArg some (zOs h1 (zIJ g n c 0) λx=>?_);have hp:permB n (srS (nums n) λx0 x1=>wP x0 x1 (stL n g))=true:=by
  refine(zAj _ _).2 ⟨⟨λx hx=>?_,h1.imp λh e=>?_⟩,by rw[zEl,zG6]⟩
  ·obtain⟨m,rfl,hm⟩:=zG7 (h2 x hx);omega
  ·subst e;omega
 constructor
 ·intro hx;obtain⟨m,rfl,hm⟩:=zG7 (h2 x hx);have:=hg m hm;exact zEB.2 ⟨m,rfl,hm,by omega,by omega⟩
 ·intro hx;obtain⟨m,rfl,hm,_⟩:=zEB.1 hx;obtain⟨j,hj,e⟩:=zG4 hp hm;rw[<- e];exact gM hj
theorem zQz{y:List Int}(hy:y.length<=1000):∀(j q:Nat),q+j=y.length->tY y (nums q) (q:Int)=some (nums y.length):=by
 intro j
 induction j with
 | zero=>
  intro q hq;rw[tY];have:¬((q:Int)<(y.length:Int)):=by omega
  simp only[this,dF,bF,if_false,oP,id];rw[show q=y.length by omega]
 | succ j ih=>
  intro q hq;rw[tY];have hc:((q:Int)<(y.length:Int)):=by omega
  have e:nums q++[(q:Int)]=nums (q+1):=by unfold nums;rw[List.range'_concat,List.map_append];simp
  simp only[hc,dT,if_true,oB,oS,qL (show ((nums q).length+[(q:Int)].length)*8<=140737488355328 by rw[zG6];simp;omega),e];rw[wD (by omega),ih (q+1) (by omega)]
def lvO(P:zC):List Int:=if validP P then ordA (lev P) (progI P).length 0 (crt P).toNat else[]
theorem zKq{P:zC}(hv:validP P=true):∀m,m<(progI P).length->0<=lev P m/\lev P m<(((crt P).toNat:Nat):Int):=λm hm=>by
 have h1:=(zKj P m).1;have h2:lev P m∈lsF P:=by
  unfold lsF;rw[hv];exact fl.2 ⟨m,cA.2 hm,rfl⟩
 have h3:=zQb h2;omega
theorem zPo{P:zC}:(lvO P).length<=120:=by
 unfold lvO;split
 ·rename_i hv;have aJ:=(uV hv).2.2.2;rw[zJR _ _ _ (zKq hv)];exact aJ
 ·simp
theorem implLO(P:zC)(hb:BG P):jW P=some (lvO P):=by
 unfold jW;have hl:=zPg (P:=P);have h1:=zQz (y:=lsF P) (by omega) _ 0 (cm _);rw[nZ] at h1;have h1:tY (lsF P) [] 0=some (nums (lsF P).length):=h1;simp only[implLevels P hb,h1,oB,oS,oP,id];cases hv:validP P with
 | true=>
  have aJ:=(uV hv).2.2.2;have hcr:=zPj P;have e:lsF P=stL (progI P).length (lev P):=by unfold lsF;rw[hv];rfl
  have e2:lvO P=ordA (lev P) (progI P).length 0 (crt P).toNat:=by unfold lvO;rw[hv];rfl
  rw[e,zEN,e2,zNA aJ (by omega) (zKq hv)];rfl
 | false=>
  have e:lsF P=[]:=by unfold lsF;rw[hv];rfl
  have e2:lvO P=[]:=by unfold lvO;rw[hv];rfl
  rw[e,e2];have h9:=zNA (g:=λ_=>0) (n:=0) (c:=0) (by omega) (by omega) (λm hm=>by omega);have h8:ordA (λ_=>0) 0 0 0=[]:=rfl;rw[h8] at h9;have h7:wJ (nums 0) (λx0 x1=>wP x0 x1 [])=some []:=h9;show (wJ (nums 0) (λx0 x1=>wP x0 x1 [])).bind _=_;rw[h7];rfl
theorem zQg{g:Nat->Int}{n:Nat}{o:List Int}(hp:permB n o=true)(ho:o.Pairwise λx y=>g x.toNat<=g y.toNat){i k:Nat}(hi:i<n)(hk:k<n)(hl:g i<g k):plo o i<plo o k:=by
 obtain⟨⟨p1,p2⟩,p3⟩:=(zAj _ _).1 hp;obtain⟨a,ha,ea⟩:=zG4 hp hi;obtain⟨b,hb,eb⟩:=zG4 hp hk;have q1:=zJQ _ 0 (λ_=>0) p2 (λx hx=>(p1 x hx).1) a ha;have q2:=zJQ _ 0 (λ_=>0) p2 (λx hx=>(p1 x hx).1) b hb;rw[ea,iN] at q1;rw[eb,iN] at q2;unfold plo;rw[q1,q2];rcases Nat.lt_trichotomy a b with hab|hab|hab
 ·omega
 ·subst hab;have:(i:Int)=(k:Int):=ea.symm.trans eb;have:i=k:=by omega
  subst this;omega
 ·have:=fq.1 ho b a hb ha hab;rw[ea,eb,iN,iN] at this;omega
theorem zOt{P:zC}(hv:validP P=true){o:List Int}(hp:permB (progI P).length o=true)(ho:o.Pairwise λx y=>lev P x.toNat<=lev P y.toNat):brF P o=none:=by
 unfold brF;rw[fx];intro d hd;have e3:dpF P=depA P 0 (progI P).length:=by unfold dpF;rw[hv];rfl
 rw[e3] at hd;have hlv:=zPi hd;obtain⟨a,k,rfl,k1,k2,k3⟩:=zEO hd;have hlv:lev P ((a:Nat):Int).toNat<lev P ((k:Nat):Int).toNat:=hlv;rw[iN,iN] at hlv;have h3:=zQg hp ho (show a<(progI P).length by omega) k2 hlv;unfold brk;show ¬(decide (plo _ ((k:Nat):Int).toNat<plo _ ((a:Nat):Int).toNat)=true);rw[iN,iN,decide_eq_true_eq];omega
end Go.LN
namespace Go.LN
theorem zPp{D:List zR}{n:Nat}(hD:∀d∈D,DB n d)(ax:∀d∈D,d.From.toNat<d.To.toNat)(hl:D.length<=1000000)(hn:n<=120)(cs:List Int):∀(j n0:Nat) (dn:Nat->Bool) (o:List Int),n0+j=n->cntU dn n=j->o.length=n0->uB cs D o (stBo n dn) (n0:Int)=some (o++grd D n cs j n0 dn):=by
 intro j
 induction j with
 | zero=>
  intro n0 dn o h1 h2 h3;rw[uB];have:¬((n0:Int)<((stBo n dn).length:Int)):=by rw[kL];omega
  simp only[this,dF,bF,if_false,oP,id,grd,co]
 | succ j ih=>
  intro n0 dn o h1 h2 h3;rw[uB];have hc:((n0:Int)<((stBo n dn).length:Int)):=by rw[kL];omega
  obtain⟨p1,p2,p3⟩:=zOq ax (show 0<cntU dn n by omega) cs n0;have hdm:=(zM5 p3).1;simp only[hc,dT,if_true,readyV hD hl (show n<=1000000 by omega) dn,specCh cs n0 (zKn ax (show 0<cntU dn n by omega)),p1,zB6 p2,oB,oS,oP,iN,zLp p2,qL (show (o.length+[((pkF D n cs n0 dn:Nat):Int)].length)*8<=140737488355328 by simp;omega)];have:=zG3 hdm p2;rw[wD (by omega),ih (n0+1) _ _ (by omega) (by omega) (by rw[lA];simp;omega),cr];rfl
theorem zB8{P:zC}(hv:validP P=true){d:zR}(h:d∈sdF P):d∈depA P 0 (progI P).length:=by
 have e:dpF P=depA P 0 (progI P).length:=by unfold dpF;rw[hv];rfl
 rw[<- e];exact(ff.1 h).1
def redF(P:zC)(cs:List Int):List Int:=if validP P then grd (sdF P) (progI P).length cs (progI P).length 0 (λ_=>false) else[]
theorem implRO(P:zC)(hb:BG P)(cs:List Int):kJ P cs=some (redF P cs):=by
 unfold kJ eK redF;rw[implSD P hb,implInstP P hb];cases hv:validP P with
 | false=>
  have e:sdF P=[]:=by unfold sdF dpF;rw[hv];rfl
  have h1:tQ [] 0 cs [] 0 []=some []:=by rw[tQ];simp
  rw[e];simp only[bF,if_false,oB,oS];rw[show ((([]:List zN).length:Int))=((0:Nat):Int) from rfl,zEA 0 (by omega)];simp[h1]
 | true=>
  have aJ:=(uV hv).2.2.2;have hl0:=zKm (P:=P);have h1:=zMz (D:=sdF P) (λd hd=>zBN d (zB8 hv hd)) (λd hd=>zCw d (zB8 hv hd)) (by omega) aJ cs (progI P).length 0 (λ_=>false) [] (cm _) (zB7 _) rfl;rw[<- zG1,nZ,cu] at h1;simp only[if_true,zEA (progI P).length (by omega),h1,oB,oS,oP,id]
theorem specRO(P:zC)(hb:BG P)(cs:List Int):oX P cs=some (redF P cs):=by
 unfold oX redF;rw[specSD P hb,specInstP P hb];cases hv:validP P with
 | false=>
  have e:sdF P=[]:=by unfold sdF dpF;rw[hv];rfl
  have h1:uB cs [] [] [] 0=some []:=by rw[uB];simp
  rw[e];simp only[bF,if_false,oB,oS];rw[show ((([]:List zN).length:Int))=((0:Nat):Int) from rfl,zEA 0 (by omega)];simp[h1]
 | true=>
  have aJ:=(uV hv).2.2.2;have hl0:=zKm (P:=P);have h1:=zPp (D:=sdF P) (λd hd=>zBN d (zB8 hv hd)) (λd hd=>zCw d (zB8 hv hd)) (by omega) aJ cs (progI P).length 0 (λ_=>false) [] (cm _) (zB7 _) rfl;rw[<- zG1,nZ,cu] at h1;simp only[if_true,zEA (progI P).length (by omega),h1,oB,oS,oP,id]
def brS(P:zC)(o:List Int):Option zR:=(sdF P).find? (brk (plo o))
theorem implRLg(P:zC)(hb:BG P)(o:List Int)(ho:o.length<=1048576):uH P o=some (validP P&&permB (progI P).length o&&(brS P o).isNone):=by
 unfold uH zBL;simp only[implOrd P hb o ho,implSD P hb,oB,oS,oP,id];cases hv:validP P with
 | false=>rfl
 | true=>
  have aJ:=(uV hv).2.2.2;have hl:=zKm (P:=P);cases hp:permB (progI P).length o with
  | false=>rfl
  | true=>
   unfold brS;rcases implBrk (D:=sdF P) (λd hd=>zBN d (zB8 hv hd)) (by omega) (show (progI P).length<=1000000 by omega) hp with⟨h1,h2⟩|⟨k,hk,h1,h2⟩
   ·rw[h2];simp[h1]
   ·rw[h2];simp[h1]
theorem zJX{D:List zR}{n:Nat}(hD:∀d∈D,DB n d)(ax:∀d∈D,d.From.toNat<d.To.toNat)(cs:List Int):permB n (grd D n cs n 0 λ_=>false)=true:=by
 obtain⟨k1,k2,k3,k4⟩:=zKo hD ax cs _ 0 _ (zB7 n);exact(zAj _ _).2 ⟨⟨λx hx=>⟨(k1 x hx).1,(k1 x hx).2.1⟩,k2⟩,k3⟩
theorem zNB{D:List zR}{n:Nat}(hD:∀d∈D,DB n d)(ax:∀d∈D,d.From.toNat<d.To.toNat)(cs:List Int):∀d∈D,¬brk (plo (grd D n cs n 0 λ_=>false)) d=true:=by
 obtain⟨k1,k2,k3,k4⟩:=zKo hD ax cs _ 0 _ (zB7 n);have hp:=zJX hD ax cs;intro d hd;obtain⟨i,k,f1,f2,f3,f4⟩:=hD d hd;obtain⟨b,hb2,q2⟩:=zG4 hp f4;have q2':(grd D n cs n 0 λ_=>false)[b]?=some d.To:=by rw[cd hb2,q2,f2]
 rcases k4 d hd b q2' with h|⟨a,h,q1⟩
 ·cases h
 ·obtain⟨ha,q1⟩:=cj.1 q1;have g0:∀x∈(grd D n cs n 0 λ_=>false),0<=x:=λx hx=>(k1 x hx).1;have g3:=zJQ (grd D n cs n 0 λ_=>false) 0 (λ_=>0) k2 g0 a ha;have g4:=zJQ (grd D n cs n 0 λ_=>false) 0 (λ_=>0) k2 g0 b hb2;rw[q1] at g3;rw[q2,<- f2] at g4;unfold brk plo;rw[g3,g4,decide_eq_true_eq];omega
theorem drawRO(code:List UInt8):Ok (pT code) (λy=>BG y.1):=by
 unfold pT;refine Ok.bind (drawSD code) λP hP=>Ok.bind (drawGr code) λq _=>?_;obtain⟨q1,q2⟩:=q;exact Ok.pure hP
theorem zNg(code:List UInt8):∃r,jH code=some r/\r=true:=by
 obtain⟨⟨P,cs⟩,hy,hb⟩:=drawRO code;dsimp only at hb;unfold jH;refine⟨true,?_,rfl⟩;by_cases h1:(code.length:Int)>1048576
 ·simp[h1]
 ·have ax:(redF P cs).length<=120:=by
   unfold redF;split
   ·rename_i hv;have aJ:=(uV hv).2.2.2;rw[(zKo (D:=sdF P) (λd hd=>zBN d (zB8 hv hd)) (λd hd=>zCw d (zB8 hv hd)) cs _ 0 _ (zB7 _)).2.2.1];exact aJ
   ·simp
  have hr:=zN1 (redF P cs) (by omega);simp only[h1,dF,bF,if_false,hy,implRO P hb,specRO P hb,implValidP P hb,hr,bT,oP,oB,oS,id];cases hv:validP P with
  | false=>simp only[cT,if_true]
  | true=>
   have aJ:=(uV hv).2.2.2;have hD:∀d∈sdF P,DB (progI P).length d:=λd hd=>zBN d (zB8 hv hd);have hL:∀d∈sdF P,d.From.toNat<d.To.toNat:=λd hd=>zCw d (zB8 hv hd);have e1:redF P cs=grd (sdF P) (progI P).length cs (progI P).length 0 (λ_=>false):=by unfold redF;rw[hv];rfl
   have e2:grF P cs=grd (depA P 0 (progI P).length) (progI P).length cs (progI P).length 0 (λ_=>false):=by unfold grF;rw[hv];rfl
   have e3:lvO P=ordA (lev P) (progI P).length 0 (crt P).toNat:=by unfold lvO;rw[hv];rfl
   have a1:uH P (redF P cs)=some true:=by
    rw[implRLg P hb _ (by omega),hv,e1,zJX hD hL];have:brS P (grd (sdF P) (progI P).length cs (progI P).length 0 λ_=>false)=none:=fx.2 (zNB hD hL cs);rw[this];rfl
   have a2:uH P (grF P cs)=some true:=by
    have hg:=zJX (zBN (P:=P)) zCw cs;rw[implRLg P hb _ (by rw[e2,((zAj _ _).1 hg).2];omega),hv,e2,hg];have:brS P (grd (depA P 0 (progI P).length) (progI P).length cs (progI P).length 0 λ_=>false)=none:=fx.2 λd hd=>zNB zBN zCw cs d (zB8 hv hd);rw[this];rfl
   have a3:uH P (lvO P)=some true:=by
    have hp:permB (progI P).length (lvO P)=true:=by rw[e3];exact zNe (zKq hv)
    have bK:(lvO P).Pairwise λx z=>lev P x.toNat<=lev P z.toNat:=by rw[e3];exact(zIJ _ _ _ _).imp λh=>by unfold RR at h;omega
    have hbr:=zOt hv hp bK;have e4:dpF P=depA P 0 (progI P).length:=by unfold dpF;rw[hv];rfl
    rw[implRLg P hb _ (by have:=zPo (P:=P);omega),hv,hp];have:brS P (lvO P)=none:=fx.2 λd hd=>fx.1 hbr d (by rw[e4];exact zB8 hv hd);rw[this];rfl
   simp only[bT,bF,if_false,a1,a2,a3,implGr P hb,implLO P hb,if_true,oS]
end Go.LN
