/- Helper of the proof (see the last text). -/
import Derived.Test.YtcmjkmdecmabaaaGreatLnYP
import Derived.Test.YtcmjkmdecmabaaaGreatLnP
import Derived.Test.YtcmjkmdecmabaaaGreatTryzShelf
set_option linter.unusedVariables false
set_option linter.unusedSimpArgs false
namespace Go.LN
open Go.Proofs Go.Proofs.Tryz
set_option maxRecDepth 20000
def ers(l:List Raw2)(i:Nat):List Raw2:=l.take i++l.drop (i+1)
theorem zOH{l:List Raw2}{i:Nat}(h:i<l.length):(ers l i).length=i+(l.length - (i+1)):=by
 unfold ers;rw[cA,ci,co];omega
def zK7(imm:Imm)(r:List Raw2):Nat->Imm->List HA->Value->Prop:=λkk ap ag v=>
 ∃(p':Option Addr) (c':Nat) (cs':List Value),v=tupV [vS p' r c']/\ag=[hO Raw2 (vS p' r c') cs']/\imm.le ap/\RL ap cs' r
theorem zOI(xs:List Raw2)(i j:Int)(h0:0<=i)(h1:i<(xs.length:Int))(hij:j=i+1)(hb:xs.length<=1000){imm:Imm}{p:Option Addr}{c:Nat}{cs:List Value}(hr:RL imm cs xs):
 Ret Tryz.prog 69 [vS p xs c,vI i,vI j] imm [hO Raw2 (vS p xs c) cs] (zK7 imm (ers xs i.toNat)):=by
 refine zIL (fn:=f69) (c:=(bodyOf f69)) func69 rfl rfl ?_
 rintro B - -
 have bf:cs.length=xs.length*2:=hr.length
 refine zJu (λw gd=>zI0 gd (j:=0) rfl) ?_
 rintro⟨hlc,hM,hnil⟩
 refine zOh (λw gd=>gd.openB (j:=0) rfl (λh=>by have:=(hnil h).1;omega)) ?_
 rintro⟨b,off,all⟩ ⟨rfl,himm,ob⟩
 simp only[cT]
 obtain⟨ofit,ole,ocl,oat,omax⟩:=ob
 simp only[show Rp.sz Raw2=2 from rfl] at ofit ocl oat
 have bM:∀v∈cs,v.oneCell'=true:=RepL.one (λ_ _ h=>Rp.one h) hr
 have hne:(i==j)=false:=by simp;omega
 refine yC<|zL<|wM [] [(6,.slice none 0 0)]<|zK<|yC<|zL<|uW 5 [] [(8,vS (some ⟨b,off,none⟩) xs c),(9,vI i),(10,vI j),(12,vI (xs.length:Int))]<|zPH (p:=some ⟨b,off,none⟩) (len:=xs.length) (ki:=.i64) (kk:=.i64) (kq:=.i64) (cap:=c) (i:=i) (k:=j) (q:=(xs.length:Int)) 2 rfl ⟨h0,by omega,by omega,by omega⟩ (λv=>?_)
 refine zY rfl<|zK<|yC<|yC<|zL<|wM [] [(16,.bool (i==j))] ?_
 rw[hne]
 refine zK<|kE rfl<|zT<|zK<|yC<|zL<|wM [] [(7,vI (xs.length:Int))]<|zK<|yC ?_
 generalize hn1:i.toNat+(xs.length - j.toNat)=n1
 generalize ha1:wr all (off+i.toNat*2) (cs.drop (j.toNat*2))=all1
 have hdl:(cs.drop (j.toNat*2)).length=(xs.length - j.toNat)*2:=by rw[co,bf,fl]
 have hn1':n1=xs.length - 1:=by omega
 refine wP [.p (vS (some ⟨b,off,none⟩) xs c) [],.p (vI i) [],.q (.slice (some ⟨b,off,none⟩) i.toNat c),.p (vS (some ⟨b,off,none⟩) xs c) [],.p (vI j) [],.q (.slice (some ⟨b,if c=j.toNat then off else off+j.toNat*2,none⟩) (xs.length - j.toNat) (c - j.toNat)),.x (λap v hx=>v=.slice (some ⟨b,off,none⟩) n1 c/\hx=[.blk b all1])]
  [[],[],[(0,false),(1,false)],[],[],[(3,false),(4,false)],[(2,false),(5,false),(8,true)]] [] [[.blk b all]] [(6,true)] (λw gd=>gd) ?_ ?_
 ·refine Op<|Op<|Oq ?_<|Op<|Op<|Oq ?_<|Ox ?_<|On
  ·intro imm1 hf aa
   refine xG ?_
   rintro _ _ ⟨rfl,rfl⟩
   refine xG ?_
   rintro _ _ ⟨rfl,rfl⟩
   refine uB<|zCB hf [(20,vS (some ⟨b,off,none⟩) xs c),(21,vI i)] ?_
   refine zC7 (p:=some ⟨b,off,none⟩) (len:=xs.length) (cap:=c) (i:=0) (k:=i) 2 rfl ⟨by omega,by omega,by omega⟩ ?_
   rw[show (0:Int).toNat=0 from rfl,zIZ]
   exact zAb (hx:=[]) rfl (Imm.le.refl _) rfl (gI rfl) ⟨rfl,rfl⟩
  ·intro imm1 hf aa
   refine xG ?_
   rintro _ _ ⟨rfl,rfl⟩
   refine xG ?_
   rintro _ _ ⟨rfl,rfl⟩
   refine uB<|zCB hf [(23,vS (some ⟨b,off,none⟩) xs c),(24,vI j)] ?_
   refine zC7 (p:=some ⟨b,off,none⟩) (len:=xs.length) (cap:=c) (i:=j) (k:=(xs.length:Int)) 2 rfl ⟨by omega,by omega,by omega⟩ ?_
   rw[zAf]
   exact zAb (hx:=[]) rfl (Imm.le.refl _) rfl (gI rfl) ⟨rfl,rfl⟩
  ·intro imm1 hf aa
   refine xG ?_
   rintro _ _ ⟨rfl,rfl⟩
   refine xG ?_
   rintro _ _ ⟨rfl,rfl⟩
   refine xG ?_
   rintro _ _ rfl
   refine uB<|zCB (.blk b all::hf) [(22,.slice (some ⟨b,off,none⟩) i.toNat c),(25,.slice (some ⟨b,if c=j.toNat then off else off+j.toNat*2,none⟩) (xs.length - j.toNat) (c - j.toNat))] ?_
   have hnews:(all.toList.drop (if c=j.toNat then off else off+j.toNat*2)).take ((xs.length - j.toNat)*2)=cs.drop (j.toNat*2):=by
    split
    ·rw[show xs.length - j.toNat=0 by omega,Nat.zero_mul,List.take_zero,List.drop_eq_nil_of_le (by omega)]
    ·rw[<- oat,d8,dh,<- fl]
   have hfit2:(if c=j.toNat then off else off+j.toNat*2)+(xs.length - j.toNat)*2<=all.size:=by
    split
    ·rw[show xs.length - j.toNat=0 by omega];omega
    ·omega
   have hfc:FC Tryz.prog B imm1 (.blk b all::hf) (.slice (some ⟨b,if c=j.toNat then off else off+j.toNat*2,none⟩) (xs.length - j.toNat) (c - j.toNat)) 2 (xs.length - j.toNat) (xs.length - j.toNat) (cs.drop (j.toNat*2)):=by
    rw[<- hnews];exact FC.win (j:=0) rfl hfit2
   refine zPI 2 0 rfl rfl (by omega) hfc (λv hv=>bM v (dy hv)) (by rw[hdl];omega) ?_ rfl rfl
   rw[cT,ha1,hn1]
   exact zAb (hx:=[.blk b all1]) rfl (Imm.le.refl _) rfl (gI rfl) ⟨rfl,rfl⟩
 ·intro imm2 aC
  refine xG ?_
  rintro _ _ ⟨rfl,rfl⟩
  refine uB<|zCB [.blk b all1] [(26,.slice (some ⟨b,off,none⟩) n1 c),(7,vI (xs.length:Int))] ?_
  refine wM [] [(0,.slice (some ⟨b,off,none⟩) n1 c)]<|zK<|yC<|zL<|uW 4 [] [(27,.slice (some ⟨b,off,none⟩) n1 c),(29,vI (n1:Int)),(30,vI (xs.length:Int))]<|zC7 (p:=some ⟨b,off,none⟩) (len:=n1) (cap:=c) (i:=(n1:Int)) (k:=(xs.length:Int)) 2 rfl ⟨by omega,by omega,by omega⟩ ?_
  rw[cL,cL,zAf,if_neg (by omega),show xs.length - n1=0+1 by omega]
  have hz0:(Builtin.zeroCells ⟨[.slice none 0 0,.slice none 0 0]⟩ (0+1)).toList=[.slice none 0 0,.slice none 0 0]:=by kernel_rfl
  have hs1:all1.size=all.size:=by rw[<- ha1,zBz]
  refine zPJ [.slice none 0 0,.slice none 0 0] 2 0 rfl rfl (by rw[hz0];decide) (by rw[hz0,hs1];simp only[cj,cK];omega) ?_ rfl
  rw[hz0,cT]
  refine zY rfl<|zK<|yC<|zL<|wM [] [(6,.slice (some ⟨b,off,none⟩) n1 c)]<|zK<|xD ?_
  have hl:=zOH (l:=xs) (i:=i.toNat) (by omega)
  have hv:Value.slice (some ⟨b,off,none⟩) n1 c=vS (some ⟨b,off,none⟩) (ers xs i.toNat) c:=by
   simp only[vS,hl];congr 1;omega
  have bV:RL imm2 (cs.take (i.toNat*2)++cs.drop (j.toNat*2)) (ers xs i.toNat):=by
   unfold ers
   rw[show i.toNat+1=j.toNat by omega]
   exact RepL.mono (λ_ _=>Rp.mono aC) ((hr.take i.toNat).append (hr.drop j.toNat))
  have bX:(cs.take (i.toNat*2)++cs.drop (j.toNat*2)).length=n1*2:=by rw[cA,hdl,ci,bf,<- hn1];omega
  have aq:((wr all1 (off+n1*2) [.slice none 0 0,.slice none 0 0]).toList.drop off).take (n1*2)=cs.take (i.toNat*2)++cs.drop (j.toNat*2):=by
   rw[zLt (by rw[hs1];simp only[cj,cK];omega) (cW _),<- ha1]
   have e1:n1*2=i.toNat*2+(cs.drop (j.toNat*2)).length:=by rw[hdl,<- hn1];omega
   rw[e1,zJt (by rw[hdl];omega)]
   congr 1
   rw[<- oat,d6]
   congr 1
   omega
  refine wK (ag:=[.osl (.slice (some ⟨b,off,none⟩) n1 c) 2 (cs.take (i.toNat*2)++cs.drop (j.toNat*2))]) (λw gd=>gd.shutB (j:=0) rfl ⟨by rw[zBz,hs1];exact ofit,by omega,bX,aq,omax⟩) ?_
  rw[hv]
  exact jW ⟨_,_,(.tmp rfl ResV.nil),(λ_ h=>h),⟨_,_,_,rfl,rfl,aC,bV⟩⟩
section
variable {n:Nat}{B:Base}{af:List Oper}{Q:Exit->Act->World->Prop}{pc:Nat}{imm:Imm}{hs:List HA}{m:FM}{d:Nat}
 {ty:TypeId}{pos:String}{after:Array Edge}{g:Option (Nat×Bool)}
theorem ov1:(Tryz.f96.name == "runtime.NumGoroutine")=false:=by kernel_rfl
theorem ov2:f96.body.isNone=true:=by kernel_rfl
theorem ov3:Extern.findNext f96=none:=by kernel_rfl
theorem ov4:Extern.find f96=some (Extern.SlicesOverlaps.overlaps #[24,24] #[4]):=by kernel_rfl
theorem ov5:Tryz.prog.underlying 24=some (.slice 47):=by kernel_rfl
theorem ov6:sizeT Tryz.prog 47=some 2:=by kernel_rfl
theorem zPv(x y:Operand){ts:Array TypeId}{b o vb vo la ca lb cb szv:Nat}{all:Array Value}{cv:List Value}(j j2:Nat)
 (ho:af[pc]?=some ⟨some d,.call { callee:=.value (.func 96),args:=#[x,y],argTypes:=ts },ty,pos,after,g⟩) (hj:hs[j]?=some (.blk b all)) (hj2:hs[j2]?=some (.osl (.slice (some ⟨vb,vo,none⟩) la ca) szv cv)) (hne:j ≠ j2) (h0:all.size ≠ 0)
 (next:R Tryz.prog n B af Q (pc+1) imm hs ((d,.bool false)::m)) (hx:val m x=some (.slice (some ⟨vb,vo,none⟩) la ca)) (hy:val m y=some (.slice (some ⟨b,o,none⟩) lb cb)) (hg:guardB af m g=some true:=by kernel_rfl) (hn:Nat.blt d n=true:=by kernel_rfl):R Tryz.prog n B af Q pc imm hs m:=
 zPk (P:=Tryz.prog) (fn:=f96) j j2 ho hj hj2 hne h0 func96 ov1 ov2 ov3 ov4 ov5 ov6 next hx hy hg hn
end
def insL(l:List Raw2)(i:Nat)(x:Raw2):List Raw2:=l.take i++x::l.drop i
theorem zNJ{l:List Raw2}{i:Nat}{x:Raw2}(h:i<=l.length):(insL l i x).length=l.length+1:=by
 unfold insL;rw[cA,ci,cj,co];omega
theorem zOJ{imm:Imm}{cs csv:List Value}{xs:List Raw2}{x:Raw2}(hr:RL imm cs xs)(hv:RL imm csv [x])(i:Nat):RL imm (cs.take (i*2)++csv++cs.drop (i*2)) (insL xs i x):=by
 have h:=((hr.take i).append hv).append (hr.drop i);unfold insL;rw[show xs.take i++x::xs.drop i=xs.take i++[x]++xs.drop i by simp];exact h
theorem zOK(xs:List Raw2)(x:Raw2)(i:Int)(h0:0<=i)(h1:i<=(xs.length:Int))(hb:xs.length<=1000){imm:Imm}{p pv:Option Addr}{c cv:Nat}{cs csv:List Value}(hr:RL imm cs xs)(hv:RL imm csv [x]):
 Ret Tryz.prog 54 [vS p xs c,vI i,vS pv [x] cv] imm [hO Raw2 (vS p xs c) cs,hO Raw2 (vS pv [x] cv) csv] (zK7 imm (insL xs i.toNat x)):=by
 refine zIL (fn:=f54) (c:=(bodyOf f54)) func54 rfl rfl ?_
 rintro B - -
 have bf:cs.length=xs.length*2:=hr.length
 have hvl:csv.length=1*2:=hv.length
 have bM:∀v∈cs,v.oneCell'=true:=RepL.one (λ_ _ h=>Rp.one h) hr
 have honev:∀v∈csv,v.oneCell'=true:=RepL.one (λ_ _ h=>Rp.one h) hv
 refine zJu (λw gd=>zI0 gd (j:=0) rfl) ?_
 rintro⟨hlc,hM,hnil⟩
 have hW1:W ((xs.length:Int)+1)=((xs.length+1:Nat):Int):=by rw[rE (by omega) (by omega)];omega
 have hW2:W (i+1)=((i.toNat+1:Nat):Int):=by rw[rE (by omega) (by omega)];omega
 have hrl:=zOJ hr hv i.toNat
 refine yC<|zL<|wM [] [(6,.slice none 0 0)]<|zK<|yC<|zL<|uW 2 [] [(10,vS p xs c),(11,vI i)]<|zC7 (p:=p) (len:=xs.length) (cap:=c) (i:=i) (k:=(xs.length:Int)) 2 rfl ⟨h0,h1,by omega⟩ ?_
 refine zY rfl<|zK<|yC<|zL<|wM [] [(7,vI 1)]<|zK<|yC<|yC<|zL<|wM [] [(16,.bool false)]<|zK<|kE rfl<|zT<|zK<|yC<|zL<|wM [] [(8,vI (xs.length:Int))]<|zK<|yC<|yC<|zL<|wM [] [(22,.bool (i==(xs.length:Int)))]<|zK ?_
 by_cases hin:i=(xs.length:Int)
 ·have hc:(i==(xs.length:Int))=true:=by simpa using hin
  rw[hc]
  have e:insL xs i.toNat x=xs++[x]:=by
   unfold insL
   rw[show i.toNat=xs.length by omega,fa,List.drop_length]
  rw[e]
  refine nN rfl<|yC<|zL<|uW 2 [] [(23,vS p xs c),(24,vS pv [x] cv)]<|sW (α:=Raw2) 47 2 0 rfl rfl rfl hr (.inr ⟨1,rfl⟩) hv (show app 48 xs [x]=some (xs++[x]) by unfold app;rw[if_pos (by simp only[cj,cK];omega)]) ?_
  intro a' c' cs' h'
  refine wM [] [(6,vS a' (xs++[x]) c')]<|zK<|xD<|zJ ?_
  exact jW ⟨_,_,(.tmp rfl ResV.nil),(zX [0] rfl (by decide)),⟨_,_,_,rfl,rfl,Imm.le.refl _,h'⟩⟩
 ·have hc:(i==(xs.length:Int))=false:=by simpa using hin
  rw[hc]
  have aK:i.toNat<xs.length:=by omega
  have hil:=zNJ (l:=xs) (i:=i.toNat) (x:=x) (by omega)
  have hdl:(cs.drop (i.toNat*2)).length=(xs.length - i.toNat)*2:=by rw[co,bf,fl]
  have bX:(cs.take (i.toNat*2)++csv++cs.drop (i.toNat*2)).length=(xs.length+1)*2:=by rw[cA,cA,hdl,ci,bf,hvl];omega
  refine kE rfl<|zT<|zK ?_
  refine zOh (λw gd=>gd.openB (j:=0) rfl (λh=>by have:=(hnil h).1;omega)) ?_
  rintro⟨b,off,all⟩ ⟨rfl,himm,ob⟩
  simp only[cT]
  obtain⟨ofit,ole,ocl,oat,omax⟩:=ob
  simp only[show Rp.sz Raw2=2 from rfl] at ofit ocl oat
  refine zJu (λw gd=>zMX gd (j:=1) rfl (by simp)) ?_
  rintro⟨⟨vb,vo⟩,rfl⟩
  have hold:(all.toList.drop off).take (i.toNat*2)=cs.take (i.toNat*2):=by
   rw[<- oat,d6];congr 1;omega
  have hnews:(all.toList.drop (off+i.toNat*2)).take ((xs.length - i.toNat)*2)=cs.drop (i.toNat*2):=by
   rw[<- oat,d8,dh,<- fl]
  refine yC<|yC<|zL<|uW 4 [] [(28,vI (W ((xs.length:Int)+1))),(29,vS (some ⟨b,off,none⟩) xs c)]<|zPj (sz:=2) (p:=some ⟨b,off,none⟩) (len:=xs.length) (cap:=c) rfl ?_
  rw[hW1]
  refine wM [] [(31,.bool (decide (((xs.length+1:Nat):Int)>(c:Int))))]<|zK ?_
  by_cases hg:((xs.length+1:Nat):Int)>(c:Int)
  ·rw[show decide (((xs.length+1:Nat):Int)>(c:Int))=true from decide_eq_true hg]
   refine nN rfl<|yC<|zL<|uW 2 [] [(32,vS (some ⟨b,off,none⟩) xs c),(33,vI i)]<|zC7 (p:=some ⟨b,off,none⟩) (len:=xs.length) (cap:=c) (i:=0) (k:=i) 2 rfl ⟨by omega,by omega,by omega⟩ ?_
   rw[show (0:Int).toNat=0 from rfl,zIZ]
   refine uW 8 [] [(39,vI (W (W ((xs.length:Int)+1) - i)))] ?_
   rw[hW1,show W (((xs.length+1:Nat):Int) - i)=((xs.length+1 - i.toNat:Nat):Int) by rw[rE (by omega) (by omega)];omega]
   have hfc:FC Tryz.prog B imm [.blk b all,hO Raw2 (vS (some ⟨vb,vo,none⟩) [x] cv) csv] (.slice (some ⟨b,off,none⟩) i.toNat c) 2 i.toNat i.toNat (cs.take (i.toNat*2)):=by
    rw[<- hold];exact FC.win (j:=0) rfl (by omega)
   refine zOF (e:=47) (by':=48) (kq:=.i64) (kn:=.i64) (zc:=⟨[.slice none 0 0,.slice none 0 0]⟩) 2 rfl hfc (by omega) (by omega) (by omega) (by omega) (by kernel_rfl) (by kernel_rfl) (by kernel_rfl) rfl (by decide) (by rw[ci,bf];omega) (by kernel_rfl) (by kernel_rfl) ?_ rfl rfl
   intro b2 all2 cap2 q1 q2 q3 q4
   rw[show i.toNat+(xs.length+1 - i.toNat)=xs.length+1 by omega] at q1 ⊢
   generalize hN:xs.length+1=N at *
   refine wM [] [(9,.slice (some ⟨b2,0,none⟩) N cap2)]<|zK<|yC<|zL<|uW 2 [] [(41,.slice (some ⟨b2,0,none⟩) N cap2),(42,vI i)]<|zC7 (p:=some ⟨b2,0,none⟩) (len:=N) (cap:=cap2) (i:=i) (k:=(N:Int)) 2 rfl ⟨by omega,by omega,by omega⟩ ?_
   rw[zAf,if_neg (by omega),cL]
   refine uW 4 [] [(44,vS (some ⟨vb,vo,none⟩) [x] cv)] ?_
   have hmin:Nat.min 1 (N - i.toNat)=1:=Nat.min_eq_left (by omega)
   have hfc2:FC Tryz.prog B imm [.blk b2 all2,.blk b all,hO Raw2 (vS (some ⟨vb,vo,none⟩) [x] cv) csv] (vS (some ⟨vb,vo,none⟩) [x] cv) 2 1 1 csv:=FC.src (.inr ⟨2,rfl⟩) hvl (by decide)
   refine zIA 2 0 rfl rfl hmin hfc2 honev (by omega) (λv=>?_) rfl rfl
   rw[cT]
   refine zY rfl<|zK<|yC ?_
   generalize ha3:wr all2 (0+i.toNat*2) csv=all3
   have hs3:all3.size=all2.size:=by rw[<- ha3,zBz]
   generalize ha4:wr all3 (0+(i.toNat+1)*2) (cs.drop (i.toNat*2))=all4
   refine wP [.p (.slice (some ⟨b2,0,none⟩) N cap2) [],.p (vI i) [],.p (vI 1) [],.q (vI ((i.toNat+1:Nat):Int)),.q (.slice (some ⟨b2,0+(i.toNat+1)*2,none⟩) (N - (i.toNat+1)) (cap2 - (i.toNat+1))),.p (vS (some ⟨b,off,none⟩) xs c) [],.p (vI i) [],.q (.slice (some ⟨b,off+i.toNat*2,none⟩) (xs.length - i.toNat) (c - i.toNat)),.x (λap v hx=>hx=[.blk b2 all4,.blk b all])]
    [[],[],[],[(1,false),(2,false)],[(0,false),(3,false)],[],[],[(5,false),(6,false)],[(4,false),(7,false),(9,true)]] [] [[.blk b2 all3,.blk b all]] [(8,true)] (zX [0,1] rfl (by decide)) ?_ ?_
   ·refine Op<|Op<|Op<|Oq ?_<|Oq ?_<|Op<|Op<|Oq ?_<|Ox ?_<|On
    ·intro imm1 hf aa
     refine xG ?_
     rintro _ _ ⟨rfl,rfl⟩
     refine xG ?_
     rintro _ _ ⟨rfl,rfl⟩
     refine uB<|zCB hf [(47,vI i),(48,vI 1)] ?_
     refine oN 4 [(49,vI (W (i+1)))] ?_
     rw[hW2]
     exact zAb (hx:=[]) rfl (Imm.le.refl _) rfl (gI rfl) ⟨rfl,rfl⟩
    ·intro imm1 hf aa
     refine xG ?_
     rintro _ _ ⟨rfl,rfl⟩
     refine xG ?_
     rintro _ _ ⟨rfl,rfl⟩
     refine uB<|zCB hf [(46,.slice (some ⟨b2,0,none⟩) N cap2),(49,vI ((i.toNat+1:Nat):Int))] ?_
     refine zC7 (p:=some ⟨b2,0,none⟩) (len:=N) (cap:=cap2) (i:=((i.toNat+1:Nat):Int)) (k:=(N:Int)) 2 rfl ⟨by omega,by omega,by omega⟩ ?_
     rw[zAf,cL,cL,if_neg (by omega)]
     exact zAb (hx:=[]) rfl (Imm.le.refl _) rfl (gI rfl) ⟨rfl,rfl⟩
    ·intro imm1 hf aa
     refine xG ?_
     rintro _ _ ⟨rfl,rfl⟩
     refine xG ?_
     rintro _ _ ⟨rfl,rfl⟩
     refine uB<|zCB hf [(51,vS (some ⟨b,off,none⟩) xs c),(52,vI i)] ?_
     refine zC7 (p:=some ⟨b,off,none⟩) (len:=xs.length) (cap:=c) (i:=i) (k:=(xs.length:Int)) 2 rfl ⟨by omega,by omega,by omega⟩ ?_
     rw[zAf,cL,if_neg (by omega)]
     exact zAb (hx:=[]) rfl (Imm.le.refl _) rfl (gI rfl) ⟨rfl,rfl⟩
    ·intro imm1 hf aa
     refine xG ?_
     rintro _ _ ⟨rfl,rfl⟩
     refine xG ?_
     rintro _ _ ⟨rfl,rfl⟩
     refine xG ?_
     rintro _ _ rfl
     refine uB<|zCB (.blk b2 all3::.blk b all::hf) [(50,.slice (some ⟨b2,0+(i.toNat+1)*2,none⟩) (N - (i.toNat+1)) (cap2 - (i.toNat+1))),(53,.slice (some ⟨b,off+i.toNat*2,none⟩) (xs.length - i.toNat) (c - i.toNat))] ?_
     have hmin:Nat.min (xs.length - i.toNat) (N - (i.toNat+1))=xs.length - i.toNat:=Nat.min_eq_left (by omega)
     have hfc3:FC Tryz.prog B imm1 (.blk b2 all3::.blk b all::hf) (.slice (some ⟨b,off+i.toNat*2,none⟩) (xs.length - i.toNat) (c - i.toNat)) 2 (xs.length - i.toNat) (xs.length - i.toNat) (cs.drop (i.toNat*2)):=by
      rw[<- hnews];exact FC.win (j:=1) rfl (by omega)
     refine zIA 2 0 rfl rfl hmin hfc3 (λv hv=>bM v (dy hv)) (by rw[hdl,hs3];omega) (λv=>?_) rfl rfl
     rw[cT,ha4]
     exact zAb (hx:=[.blk b2 all4,.blk b all]) rfl (Imm.le.refl _) rfl (gI rfl) rfl
   ·intro imm2 aC
    refine xG ?_
    rintro _ _ rfl
    refine uB<|zCB [.blk b2 all4,.blk b all] [(9,.slice (some ⟨b2,0,none⟩) N cap2)] ?_
    refine wM [] []<|zK<|yC<|zL<|wM [] [(6,.slice (some ⟨b2,0,none⟩) N cap2)]<|zK<|xD<|zJ ?_
    have hs4:all4.size=all2.size:=by rw[<- ha4,zBz,hs3]
    have aq:(all4.toList.drop 0).take (N*2)=cs.take (i.toNat*2)++csv++cs.drop (i.toNat*2):=by
     have e1:N*2=(i.toNat+1)*2+(cs.drop (i.toNat*2)).length:=by rw[hdl];omega
     have e2:(i.toNat+1)*2=i.toNat*2+csv.length:=by rw[hvl];omega
     rw[<- ha4,e1,zJt (by rw[hdl,hs3];omega),e2,<- ha3,zJt (by rw[hvl];omega),cr,q4]
    refine wK (ag:=[.osl (.slice (some ⟨b2,0,none⟩) N cap2) 2 (cs.take (i.toNat*2)++csv++cs.drop (i.toNat*2)),.blk b all]) (λw gd=>gd.shutB (j:=0) rfl ⟨by rw[hs4,q3];omega,q1,bX,aq,q2⟩) ?_
    have hvv:Value.slice (some ⟨b2,0,none⟩) N cap2=vS (some ⟨b2,0,none⟩) (insL xs i.toNat x) cap2:=by simp only[vS,hil]
    rw[hvv]
    exact jW ⟨_,_,(.tmp rfl ResV.nil),(zX [0] rfl (by decide)),⟨_,_,_,rfl,rfl,aC,RepL.mono (λ_ _=>Rp.mono aC) hrl⟩⟩
  ·rw[show decide (((xs.length+1:Nat):Int)>(c:Int))=false from decide_eq_false hg]
   generalize hN:xs.length+1=N at *
   refine kE rfl<|zT<|zK<|yC<|zL<|uW 4 [] [(56,vS (some ⟨b,off,none⟩) xs c),(59,vI (W ((xs.length:Int)+1)))] ?_
   rw[hW1]
   refine zC7 (p:=some ⟨b,off,none⟩) (len:=xs.length) (cap:=c) (i:=0) (k:=(N:Int)) 2 rfl ⟨by omega,by omega,by omega⟩ ?_
   rw[show (0:Int).toNat=0 from rfl,zIZ,cL]
   refine wM [] [(0,.slice (some ⟨b,off,none⟩) N c)]<|zK<|yC<|yC<|zL<|uW 5 [] [(61,vS (some ⟨vb,vo,none⟩) [x] cv),(62,.slice (some ⟨b,off,none⟩) N c),(65,vI (W (i+1)))] ?_
   rw[hW2]
   refine zC7 (p:=some ⟨b,off,none⟩) (len:=N) (cap:=c) (i:=((i.toNat+1:Nat):Int)) (k:=(N:Int)) 2 rfl ⟨by omega,by omega,by omega⟩ ?_
   rw[zAf,cL,cL,if_neg (by omega)]
   refine zPv (.tmp 61) (.tmp 66) (szv:=2) 0 1 rfl rfl rfl (by decide) (show all.size ≠ 0 by omega) ?_ rfl rfl
   refine wM [] [(68,.bool true)]<|zK<|nN rfl<|yC ?_
   generalize ha3:wr all (off+(i.toNat+1)*2) (cs.drop (i.toNat*2))=all3
   have hs3:all3.size=all.size:=by rw[<- ha3,zBz]
   refine wP [.p (.slice (some ⟨b,off,none⟩) N c) [],.p (vI i) [],.p (vI 1) [],.q (vI ((i.toNat+1:Nat):Int)),.q (.slice (some ⟨b,off+(i.toNat+1)*2,none⟩) (N - (i.toNat+1)) (c - (i.toNat+1))),.p (.slice (some ⟨b,off,none⟩) N c) [],.p (vI i) [],.q (.slice (some ⟨b,off+i.toNat*2,none⟩) (N - i.toNat) (c - i.toNat)),.x (λap v hx=>hx=[.blk b all3])]
    [[],[],[],[(1,false),(2,false)],[(0,false),(3,false)],[],[],[(5,false),(6,false)],[(4,false),(7,false),(9,true)]] [hO Raw2 (vS (some ⟨vb,vo,none⟩) [x] cv) csv] [[.blk b all]] [(8,true)] (zX [1,0] rfl (by decide)) ?_ ?_
   ·refine Op<|Op<|Op<|Oq ?_<|Oq ?_<|Op<|Op<|Oq ?_<|Ox ?_<|On
    ·intro imm1 hf aa
     refine xG ?_
     rintro _ _ ⟨rfl,rfl⟩
     refine xG ?_
     rintro _ _ ⟨rfl,rfl⟩
     refine uB<|zCB (hO Raw2 (vS (some ⟨vb,vo,none⟩) [x] cv) csv::hf) [(70,vI i),(71,vI 1)] ?_
     refine oN 4 [(72,vI (W (i+1)))] ?_
     rw[hW2]
     exact zAb (hx:=[]) rfl (Imm.le.refl _) rfl (gI rfl) ⟨rfl,rfl⟩
    ·intro imm1 hf aa
     refine xG ?_
     rintro _ _ ⟨rfl,rfl⟩
     refine xG ?_
     rintro _ _ ⟨rfl,rfl⟩
     refine uB<|zCB (hO Raw2 (vS (some ⟨vb,vo,none⟩) [x] cv) csv::hf) [(69,.slice (some ⟨b,off,none⟩) N c),(72,vI ((i.toNat+1:Nat):Int))] ?_
     refine zC7 (p:=some ⟨b,off,none⟩) (len:=N) (cap:=c) (i:=((i.toNat+1:Nat):Int)) (k:=(N:Int)) 2 rfl ⟨by omega,by omega,by omega⟩ ?_
     rw[zAf,cL,cL,if_neg (by omega)]
     exact zAb (hx:=[]) rfl (Imm.le.refl _) rfl (gI rfl) ⟨rfl,rfl⟩
    ·intro imm1 hf aa
     refine xG ?_
     rintro _ _ ⟨rfl,rfl⟩
     refine xG ?_
     rintro _ _ ⟨rfl,rfl⟩
     refine uB<|zCB (hO Raw2 (vS (some ⟨vb,vo,none⟩) [x] cv) csv::hf) [(74,.slice (some ⟨b,off,none⟩) N c),(75,vI i)] ?_
     refine zC7 (p:=some ⟨b,off,none⟩) (len:=N) (cap:=c) (i:=i) (k:=(N:Int)) 2 rfl ⟨by omega,by omega,by omega⟩ ?_
     rw[zAf,cL,if_neg (by omega)]
     exact zAb (hx:=[]) rfl (Imm.le.refl _) rfl (gI rfl) ⟨rfl,rfl⟩
    ·intro imm1 hf aa
     refine xG ?_
     rintro _ _ ⟨rfl,rfl⟩
     refine xG ?_
     rintro _ _ ⟨rfl,rfl⟩
     refine xG ?_
     rintro _ _ rfl
     refine uB<|zCB (.blk b all::hO Raw2 (vS (some ⟨vb,vo,none⟩) [x] cv) csv::hf) [(73,.slice (some ⟨b,off+(i.toNat+1)*2,none⟩) (N - (i.toNat+1)) (c - (i.toNat+1))),(76,.slice (some ⟨b,off+i.toNat*2,none⟩) (N - i.toNat) (c - i.toNat))] ?_
     have hmin:Nat.min (N - i.toNat) (N - (i.toNat+1))=xs.length - i.toNat:=(Nat.min_eq_right (by omega)).trans (by omega)
     have hfc3:FC Tryz.prog B imm1 (.blk b all::hO Raw2 (vS (some ⟨vb,vo,none⟩) [x] cv) csv::hf) (.slice (some ⟨b,off+i.toNat*2,none⟩) (N - i.toNat) (c - i.toNat)) 2 (N - i.toNat) (xs.length - i.toNat) (cs.drop (i.toNat*2)):=by
      rw[<- hnews];exact FC.win (j:=0) rfl (by omega)
     refine zIA 2 0 rfl rfl hmin hfc3 (λv hv=>bM v (dy hv)) (by rw[hdl];omega) (λv=>?_) rfl rfl
     rw[cT,ha3]
     exact zAb (hx:=[.blk b all3]) rfl (Imm.le.refl _) rfl (gI rfl) rfl
   ·intro imm2 aC
    refine xG ?_
    rintro _ _ rfl
    refine uB<|zCB [.blk b all3,hO Raw2 (vS (some ⟨vb,vo,none⟩) [x] cv) csv] [(0,.slice (some ⟨b,off,none⟩) N c),(1,vI i),(2,vS (some ⟨vb,vo,none⟩) [x] cv)] ?_
    refine wM [] []<|zK<|yC<|zL<|uW 2 [] [(78,.slice (some ⟨b,off,none⟩) N c),(79,vI i)]<|zC7 (p:=some ⟨b,off,none⟩) (len:=N) (cap:=c) (i:=i) (k:=(N:Int)) 2 rfl ⟨by omega,by omega,by omega⟩ ?_
    rw[zAf,cL,if_neg (by omega)]
    refine uW 4 [] [(81,vS (some ⟨vb,vo,none⟩) [x] cv)] ?_
    have hmin:Nat.min 1 (N - i.toNat)=1:=Nat.min_eq_left (by omega)
    have hfc2:FC Tryz.prog B imm2 [.blk b all3,hO Raw2 (vS (some ⟨vb,vo,none⟩) [x] cv) csv] (vS (some ⟨vb,vo,none⟩) [x] cv) 2 1 1 csv:=FC.src (.inr ⟨1,rfl⟩) hvl (by decide)
    refine zIA 2 0 rfl rfl hmin hfc2 honev (by rw[hs3];omega) (λv=>?_) rfl rfl
    rw[cT]
    refine zY rfl<|zK<|yC<|zL<|wM [] [(6,.slice (some ⟨b,off,none⟩) N c)]<|zK<|xD<|zJ ?_
    generalize ha4:wr all3 (off+i.toNat*2) csv=all4
    have hs4:all4.size=all.size:=by rw[<- ha4,zBz,hs3]
    have aq:(all4.toList.drop off).take (N*2)=cs.take (i.toNat*2)++csv++cs.drop (i.toNat*2):=by
     have e1:N*2=(i.toNat+1)*2+(cs.drop (i.toNat*2)).length:=by rw[hdl];omega
     rw[<- ha4,zOE (by rw[hvl,hs3];omega) (by rw[hvl];omega),<- ha3,zLt (by rw[hdl];omega) (by omega),hold]
     congr 1
     rw[e1,zJt (by rw[hdl];omega),List.drop_append,List.drop_eq_nil_of_le (by rw[ci,hvl];omega),cC]
     have e3:((all.toList.drop off).take ((i.toNat+1)*2)).length=i.toNat*2+csv.length:=by
      rw[ci,co,db,hvl];omega
     rw[e3,Nat.sub_self,cr]
    refine wK (ag:=[.osl (.slice (some ⟨b,off,none⟩) N c) 2 (cs.take (i.toNat*2)++csv++cs.drop (i.toNat*2)),hO Raw2 (vS (some ⟨vb,vo,none⟩) [x] cv) csv]) (λw gd=>gd.shutB (j:=0) rfl ⟨by rw[hs4];exact ofit,by omega,bX,aq,omax⟩) ?_
    have hvv:Value.slice (some ⟨b,off,none⟩) N c=vS (some ⟨b,off,none⟩) (insL xs i.toNat x) c:=by simp only[vS,hil]
    rw[hvv]
    exact jW ⟨_,_,(.tmp rfl ResV.nil),(zX [0] rfl (by decide)),⟨_,_,_,rfl,rfl,aC,RepL.mono (λ_ _=>Rp.mono aC) hrl⟩⟩
def dI(r:List zF):Nat->Imm->List HA->Value->Prop:=λkk ap ag v=>
 ∃(a0:Option Addr) (c0:Nat) (s0:List Value),ag=[.osl (.slice a0 r.length c0) (Rp.sz zF) s0]/\v=tupV [(.slice a0 r.length c0)]/\RepL (Rp.rep ap) (Rp.sz zF) s0 r
def uM(s:List zF)(i:Int)(v:List zF):Option (List zF):=if 0<=i/\i<=(s.length:Int)/\s.length<=1000/\v.length=1 then some (s.take i.toNat++v++s.drop i.toNat) else none
theorem zAM:∀(s:List zF) (i:Int) (v:List zF) r,uM s i v=some r->∀{imm:Imm}{p:Option Addr}{c:Nat}{cs:List Value}{p1:Option Addr}{c1:Nat}{au:List Value},(RL imm cs s)->(RL imm au v)->Ret Tryz.prog 54 [vS p s c,vI i,vS p1 v c1] imm [hO zF (vS p s c) cs,hO zF (vS p1 v c1) au] (dI r):=by
 intro s i v r hM imm p c cs p1 c1 au h h1;unfold uM at hM;split at hM
 ·rename_i hc;cases hM
  obtain⟨h0,h2,h3,h4⟩:=hc;obtain⟨rs,k1,k2⟩:=PRl.of h;obtain⟨rv,k3,k4⟩:=PRl.of h1;have l1:=k2.len;have l2:=k4.len;obtain⟨y,rfl⟩:∃y,rv=[y]:=List.length_eq_one_iff.1 (by omega);have key:=zOK rs y i h0 (by omega) (by omega) (p:=p) (pv:=p1) (c:=c) (cv:=c1) k1 k3;rw[zI1 (α:=Raw2) (β:=zF) (l':=s) rfl l1,zI1 (α:=Raw2) (β:=zF) (l':=v) rfl l2,show vS p rs c=vS p s c by simp only[vS,l1],show vS p1 [y] c1=vS p1 v c1 by simp only[vS,l2]] at key;refine key.mono ?_;rintro k im hs u ⟨p',c',cs',rfl,rfl,bH,hr⟩;have hP:PRl im (insL rs i.toNat y) (s.take i.toNat++v++s.drop i.toNat):=by
   have:=((k2.take i.toNat).append k4).append (k2.drop i.toNat);unfold insL;rw[show rs.take i.toNat++y::rs.drop i.toNat=rs.take i.toNat++[y]++rs.drop i.toNat by simp];exact this.mono bH
  refine⟨p',c',cs',?_,?_,hP.rl hr⟩
  ·rw[zI1 (α:=Raw2) (β:=zF) rfl hP.len]
  ·simp only[vS,hP.len]
 ·cases hM
def dJ(r:List zF):Nat->Imm->List HA->Value->Prop:=λkk ap ag v=>
 ∃(a0:Option Addr) (c0:Nat) (s0:List Value),ag=[.osl (.slice a0 r.length c0) (Rp.sz zF) s0]/\v=tupV [(.slice a0 r.length c0)]/\RepL (Rp.rep ap) (Rp.sz zF) s0 r
def uN(s:List zF)(i:Int)(j:Int):Option (List zF):=if 0<=i/\i<(s.length:Int)/\j=i+1/\s.length<=1000 then some (s.take i.toNat++s.drop (i.toNat+1)) else none
theorem zAN:∀(s:List zF) (i j:Int) r,uN s i j=some r->∀{imm:Imm}{p:Option Addr}{c:Nat}{cs:List Value},(RL imm cs s)->Ret Tryz.prog 69 [vS p s c,vI i,vI j] imm [hO zF (vS p s c) cs] (dJ r):=by
 intro s i j r hM imm p c cs h;unfold uN at hM;split at hM
 ·rename_i hc;cases hM
  obtain⟨h0,h2,h3,h4⟩:=hc;obtain⟨rs,k1,k2⟩:=PRl.of h;have l1:=k2.len;have key:=zOI rs i j h0 (by omega) h3 (by omega) (p:=p) (c:=c) k1;rw[zI1 (α:=Raw2) (β:=zF) (l':=s) rfl l1,show vS p rs c=vS p s c by simp only[vS,l1]] at key;refine key.mono ?_;rintro k im hs u ⟨p',c',cs',rfl,rfl,bH,hr⟩;have hP:PRl im (ers rs i.toNat) (s.take i.toNat++s.drop (i.toNat+1)):=((k2.take i.toNat).append (k2.drop (i.toNat+1))).mono bH;refine⟨p',c',cs',?_,?_,hP.rl hr⟩
  ·rw[zI1 (α:=Raw2) (β:=zF) rfl hP.len]
  ·simp only[vS,hP.len]
 ·cases hM
end Go.LN
