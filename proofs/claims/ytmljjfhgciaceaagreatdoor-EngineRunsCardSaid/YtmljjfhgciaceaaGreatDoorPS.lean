/- Lemmas of the proof. -/
import Derived.Test.YtmljjfhgciaceaaGreatDoorHd
import Derived.Test.YtmljjfhgciaceaaGreatDoorCz
import Derived.Test.YtmljjfhgciaceaaGreatDoorSX
import Derived.Test.YtmljjfhgciaceaaGreatDoorBK
import Derived.Test.YtmljjfhgciaceaaGreatDoorAW
import Derived.Test.YtmljjfhgciaceaaGreatDoorKG
set_option maxRecDepth 100000
set_option maxHeartbeats 1000000
namespace Go.Proofs.YtmljjfhgciaceaaGreatDoor
open Go.RowKit
section
variable {s:ByteArray} {xs:List ByteArray} {w:World}
theorem El {va vb:Value} {xs ys:List aH} (ha:cX w va xs) (hb:cX w vb ys) :
  Calls Tryz.prog 104 #[va,vb] w fun e w'=>e = .returned (.bool (decide (xs=ys)))/\aq w w':=by
 obtain⟨ao,ca,rfl,a1,a2,a3,a4,a5⟩:=ha;obtain⟨bo,cb,rfl,b1,b2,b3,b4,b5⟩:=hb;by_cases hl:xs=ys.length
 ·have hl':((xs.length:Int) != (ys.length:Int))=false:=by simp [hl]
  have HL:=ag hl;clear hl;go_enter Tryz.func104,Tryz.ntmps104;go_wp2_with fail
  go_loopg [13] xs (fun g i wr=>∃k:Nat,k<=xs/\g=xs-k/\i=af k/\Hid (xs.take k=ys.take k)/\aq w wr)
  case atStart=>exact⟨0,eY _,rfl,rfl,ag bh,aW _ _⟩
  case round=>
   obtain⟨k,hk,rfl,rfl,HE,cT⟩:=hrel;by_cases hlt:k<xs
   ·obtain⟨ab,aR,rfl,qy,ac⟩:=a5 ai;obtain⟨bb,Vz,rfl,Zg,bc⟩:=b5 (by have:=HL.out;omega);have ir:k<ys:=(by have:=HL.out;omega);obtain⟨c0,c1,c2,c3,c4,c5,c6⟩:=br cT qy ac hlt;obtain⟨d0,d1,d2,d3,d4,d5,d6⟩:=br cT Zg bc ir;clear ac bc a5 b5;obtain⟨e,he⟩:=bG (xs[k]);obtain⟨f,hf⟩:=bG (ys[k]);rw [he]at c0 c1 c2 c3 c4 c5 c6;rw [hf]at d0 d1 d2 d3 d4 d5 d6;have EE:=ag he;have FF:=ag hf;clear he hf;have hne:=Ak e f;by_cases DM:e=f
    ·have RQ:(decide (e=f))=true:=(by simp [DM]);have Tk:=ag DM;clear DM;go_wp2;go_quiet (fail);go_wp2;go_roundg (xs-(k+1))
     case measure=>omega
     case rel=>exact⟨k+1,ai,rfl,by go_num,ag (pB HE.out hlt ir (by rw [EE,FF,Tk])),iZ⟩
    ·have RQ:(decide (e=f))=false:=(by simp [DM]);have hxy:decide (xs=ys)=false:=(by simpa using zy hlt ir (by rw [EE,FF];exact DM));clear DM;go_wp2;go_quiet (fail);go_wp2;go_ret;exact⟨bz hxy.symm,iZ⟩
   ·have hxy:decide (xs=ys)=true:=by
     have h1:=HE.out;have h2:=HL.out;rw [iM ai,iM ai]at h1;simpa using h1
    go_wp2;go_ret;exact⟨bz hxy.symm,iZ⟩
 ·have hl':((xs.length:Int) != (ys.length:Int))=true:=by simp;omega
  have hxy:decide (xs=ys)=false:=by simp;intro h;subst h;exact hl rfl
  clear hl;go_enter Tryz.func104,Tryz.ntmps104;go_wp2_with fail;go_ret;exact⟨bz hxy.symm,iZ⟩
def bt (xs:List ByteArray) (s:ByteArray):Int:=if xs.findIdx (fun x=>decide (x=s))<xs.length then((xs.findIdx fun x=>decide (x=s):Nat):Int)else -1
theorem ux {k:Nat} (hk:k<xs) (h:xs[k]=s) (hb:∀j (_hj:j<k) (hjn:j<xs.length),xs[j]≠s):bt xs s=k:=by
 have:xs.findIdx (fun x=>decide (x=s))=k:=(List.findIdx_eq hk).2 ⟨by simp [h],fun j hj=>by have:=hb j hj ai;simpa using this⟩;unfold bt;rw [this,aw hk]
theorem xa (hb:∀j (hj:j<xs.length),xs[j]≠s):bt xs s = -1:=by
 have:xs.findIdx (fun x=>decide (x=s))=xs.length:=List.findIdx_eq_length_of_false fun x hx=>by
  obtain⟨j,hj,rfl⟩:=nr hx;have:=hb j hj;simpa using this
 unfold bt;rw [this,ar ai]
theorem iE (xs:List ByteArray) (s:ByteArray):(∃(k:Nat) (hk:k<xs),bt xs s=k/\xs[k]=s/\∀j (_hj:j<k) (hjn:j<xs.length),xs[j]≠s)\/(bt xs s = -1/\∀j (hj:j<xs.length),xs[j]≠s):=by
 by_cases h:xs.findIdx (fun x=>decide (x=s))<xs.length
 ·have h2:=(List.findIdx_eq (p:=fun x=>decide (x=s)) h).1 rfl;have h3:∀j (hj:j<xs.findIdx (fun x=>decide (x=s))) (hjn:j<xs.length),xs[j]≠s:=fun j hj hjn=>by have:=h2.2 j hj;simpa using this
  have h4:xs[xs.findIdx (fun x=>decide (x=s))]=s:=by simpa using h2.1
  exact .inl ⟨_,h,ux h h4 h3,h4,h3⟩
 ·refine .inr ?_;have h3:∀j (hj:j<xs.length),xs[j]≠s:=fun j hj=>by
   have:=List.not_of_lt_findIdx (p:=fun x=>decide (x=s)) (xs:=xs) (i:=j) ai;simpa using this
  exact⟨xa h3,h3⟩
theorem fX.take {sa:Option Addr} {n sc i:Nat} (h:fX w (ah sa n sc) xs) (hi:i<=xs):fX w (ah sa i sc) (xs.take i):=by
 obtain⟨ao,cap,hv,h1,h2,h3,h4,h5⟩:=h;injection hv with e1 e2 e3;subst e1 e2 e3;have hl:(xs.take i).length=i:=by rw [gh];omega
 refine⟨sa,sc,by rw [hl],ai,h2,ai,h4,fun h0=>?_⟩;obtain⟨b,off,e,hb,hc⟩:=h5 ai;refine⟨b,off,e,hb,fun k x hx=>hc k x ?_⟩;rw [rF]at hx
 split at hx
 ·exact hx
 ·cases hx
theorem pE {v:Value} (h:fX w v xs) :
  Calls Tryz.prog 69 #[v, .string s] w fun e w'=>e = .returned (af (bt xs s))/\aq w w':=by
 obtain⟨ao,cap,rfl,a1,a2,a3,a4,a5⟩:=h;go_enter Tryz.func69,Tryz.ntmps69;go_wp2_with fail
 go_loopg [8] xs (fun g i wr=>∃k:Nat,k<=xs/\g=xs-k/\i=af k/\Hid (∀j (hj:j<k) (hjn:j<xs.length),xs[j]≠s)/\aq w wr)
 case atStart=>exact⟨0,eY _,rfl,rfl,ag (fun j hj=>ai),aW _ _⟩
 case round=>
  obtain⟨k,hk,rfl,rfl,HN,hb⟩:=hrel;by_cases hlt:k<xs
  ·obtain⟨ab,aR,rfl,qy,ac⟩:=a5 ai;have e0:=nE hb qy ac hlt;obtain⟨y,hy⟩:=bG (xs[k]);rw [hy]at e0;have HY:=ag hy;have jA:=fun w'=>qV (ab:=ab) (aR:=aR) (n:=xs.length) (cap:=cap) (show (k:Int)=((k:Nat):Int) by rfl) hlt w';have CL:=BU s y;clear ac a5 hy;by_cases DL:s=y
   ·have HP:=ag (ux hlt (HY.trans DL.symm) HN.out);have CM:decide (s=y)=true:=(by simp [DL]);rw [CM]at CL;clear DL CM;go_wp2;go_ret;rw [HP];exact⟨rfl,hb⟩
   ·have GZ:=ag (show ∀j (hj:j<k+1) (hjn:j<xs.length),xs[j]≠s from fun j hj hjn=>by
     by_cases hjk:j=k
     ·subst hjk;rw [HY];exact fun h=>DL h.symm
     ·exact HN.out j ai hjn)
    have CM:decide (s=y)=false:=(by simp [DL]);rw [CM]at CL;clear DL CM;go_wp2;go_roundg (xs-(k+1))
    case measure=>omega
    case rel=>exact⟨k+1,ai,rfl,by go_num,GZ,hb⟩
  ·have HP:=ag (xa (xs:=xs) (s:=s) fun j hj=>HN.out j ai hj);go_wp2;go_ret;rw [HP];exact⟨rfl,hb⟩
theorem Bf {v:Value} (h:fX w v xs) :
  Calls Tryz.prog 101 #[v, .string s] w fun e w'=>e = .returned (.bool (decide (0<=bt xs s)))/\aq w w':=by
 have HI:=ag (pE (s:=s) h);obtain⟨p,hp⟩:=bG (bt xs s);rw [hp]at HI ⊢;clear hp;go_enter Tryz.func101,Tryz.ntmps101;go_wp2_with ((go_at_call 69;(with_reducible refine HI.out.mono ?_);rintro e w2 ⟨rfl,hb2⟩));go_ret;exact⟨rfl,hb2⟩
end
theorem K6 {v:Value} {b:Ba} {w:World} (h:bR w v b) :
  Calls Tryz.prog 102 #[v] w (nX w w (cx b)):=by
 obtain⟨sa,sc,g0,l0,p0,g1,l1,p1,g2,l2,p2,rfl,hn,_,T0,_,_⟩:=h.open;obtain⟨W0,hW0⟩:=cd (w.alloc (.cells (aL sa b.names sc g0 l0 p0 g1 l1 p1 g2 l2 p2 b) 30));have hb0:aq w W0:=by rw [hW0];exact aj
 have hz0:W0=w.heap.size+1:=by rw [hW0];simp
 have k0:W0.heap[w.heap.size]?=some (.cells (aL sa b.names sc g0 l0 p0 g1 l1 p1 g2 l2 p2 b) 30):=by rw [hW0];exact au _ _ rfl
 have HX:=ag fun w' (hb:aq W0 w')=>(by
  have b0:w'.heap[w.heap.size]?=_:=(hb.block _ ai).trans k0;simp [World.cell?,b0] :
  w'.cell? (w,0)=some (ah sa b.names sc)/\(w',w.heap.size,7,b.floor))
 have HB:=ag fun w' (hb:aq W0 w')=>(aF hb0 hb hb0.size:aq w w');have HA:=ag ((lq (lo:=0) (hi:=1099511627776) (T0 W0 hb0)).mono fun e w' hp=>kG.allT hp);obtain⟨c1,c2⟩:W0.cell? (w,1)=some (ah g0 l0 p0)/\(W0,w.heap.size,2,b.t0.root):=by simp [World.cell?,k0]
 clear T0;go_enter Tryz.func102,Tryz.ntmps102;go_upto_region 1 with (fail);rw [<-hW0];clear hW0 k0
 cases hT:allT b.t0 with
 |none=>
  have HN:=ag (Ff hT);rw [hT]at HA;clear hT;go_wp2_with ((go_at_call 74;(with_reducible refine HA.out.mono ?_);rintro e w1 ⟨hb1,E,hE,rfl⟩;have cT:=HB _ hb1))
  go_ret2
  rw [HN];exact⟨cT,rfl⟩
 |some l=>
  have HT:=ag hT;have HG:=ag (fg hT);have hlen:l.length<=50000:=(fg hT).2.2.2;rw [hT]at HA;clear hT;go_upto_region 4 with ((go_at_call 74;(with_reducible refine HA.out.mono ?_);rintro e w1 ⟨hb1,v1,rfl,tW⟩;obtain⟨s1,d1,rfl⟩:=tW.isSlice));have HL:=ag (tW.at ai);have HO:=ag tW;have hz1:=hb1.size;clear c1 c2 tW;go_wp2_with fail
  go_loopg [20] l (fun g i wr=>∃k:Nat,k<=l/\g=l-k/\i=af k/\Hid ((l.take k).all (iu b)=true)/\aq w1 wr)
  case atStart=>exact⟨0,eY _,rfl,rfl,ag rfl,aW _ _⟩
  case round=>
   obtain⟨k,hk,rfl,rfl,HR,hb⟩:=hrel;have hsz:=hb.size;have F6:aq W0 wr:=aF hb1 hb hz1;obtain⟨x0,x7⟩:=HX _ F6;by_cases hlt:k<l
   ·obtain⟨_,_,hv,-,-,-,-,h5⟩:=HL.out;injection hv with hv1 _ hv3;subst hv3;obtain⟨eb,cM,ll,pq,jF⟩:=h5 ai;subst ll;subst hv1;obtain⟨y0,y1,y2,y3,y4,y5,y6⟩:=br hb pq jF hlt;obtain⟨y,hy⟩:=bG (l[k]);rw [hy]at y0 y1 y2 y3 y4 y5 y6;have wG:y∈l:=(by rw [<-hy];exact eZ hlt);obtain⟨iy,hk1⟩:=HG.2.2.1 y wG;have qA:=ag fun(h:iu b y=false)=>JN HT hlt (by rw [hy];exact h);have uY:=ag fun(h:iu b y=true)=>(by rw [ja hlt,List.all_append,HR.out,hy];simp [h]:(l.take (k+1)).all (iu b)=true);obtain⟨M,hM⟩:=bG (y.key%1048576);obtain⟨Q,hQ⟩:=bG (y.key/1048576);have Jd:0<=M/\M<1048576:=ai;have hQ0:0<=Q/\Q<1048576:=ai;have m1:y.key.tmod 1048576=M:=(by rw [tJ iy];exact hM);have m2:y.key.tdiv 1048576=Q:=(by rw [Dw iy];exact hQ);have m3:IntKind.i64.wrap M=M:=bI _ ai;have m4:IntKind.i64.wrap Q=Q:=bI _ ai;have qK:=ag (show iu b y=(decide (Q<b.names) && decide (b.floor<=M) && decide (y.is.t=M)) by simp [iu,hM,hQ]);have jA:=fun w'=>cN (ab:=eb) (aR:=cM) (n:=l.length) (cap:=d1) (show (k:Int)=((k:Nat):Int) by rfl) hlt w';have hwz:eb<wr:=ai;have YM:aq w wr:=HB _ F6;obtain⟨W1,hW1⟩:=cd (wr.alloc (.cells #[af y.key,af y.is.c,af y.is.s,af y.is.mi,af y.is.ma,af y.is.t,af y.is.l] 107));have hb1:aq wr W1:=(by rw [hW1];exact aj);have k1:W1.heap[wr.heap.size]?=some (.cells #[af y.key,af y.is.c,af y.is.s,af y.is.mi,af y.is.ma,af y.is.t,af y.is.l] 107):=(by rw [hW1];exact au _ _ rfl);have xj:aq w1 W1:=aF hb hb1 hsz;have amB:aq w W1:=aF YM hb1 YM.size;obtain⟨z0,z7⟩:=HX _ (aF F6 hb1 F6.size);obtain⟨q0,q5⟩:(W1,wr.heap.size,0,y.key)/\(W1,wr.heap.size,5,y.is.t):=(by simp [World.cell?,k1]);clear jF h5 hy wG hM hQ Jd hQ0 F6;go_upto_region 7 with (fail);rw [<-hW1];clear hW1 k1 x0 x7 y0 y1 y2 y3 y4 y5 y6;by_cases i1:Q<b.names
    ·have e1:decide ((b.names.length:Int)<=Q)=false:=(by simp;omega);by_cases i2:b.floor<=M
     ·have e2:decide (M<b.floor)=false:=(by simp;omega);by_cases i3:y.is.t=M
      ·have e3:(y.is.t != M)=false:=(by simp [i3]);have HGD:=ag (uY (by rw [qK];simp [i1,i2,i3]));clear i1 i2 i3 uY qA qK;go_wp2;go_roundg (l-(k+1))
       case measure=>omega
       case rel=>exact⟨k+1,ai,rfl,by go_num,HGD,aj⟩
      ·have e3:(y.is.t != M)=true:=(by simp [i3]);have DV:=ag (qA (by rw [qK];simp [i3]));clear i1 i2 i3 uY qA qK;go_wp2
       go_ret2
       rw [DV];exact⟨aj,rfl⟩
     ·have e2:decide (M<b.floor)=true:=(by simp;omega);have DV:=ag (qA (by rw [qK];simp [i2]));clear i1 i2 uY qA qK;go_wp2
      go_ret2
      rw [DV];exact⟨aj,rfl⟩
    ·have e1:decide ((b.names.length:Int)<=Q)=true:=(by simp;omega);have DV:=ag (qA (by rw [qK];simp [i1]));clear i1 uY qA qK;go_wp2
     go_ret2
     rw [DV];exact⟨aj,rfl⟩
   ·have HN:=ag (vV HT (by have:=HR.out;rw [iM ai]at this;exact this));have YM:aq w wr:=HB _ F6;have ho:=(HO.below hb aO).mono (show w<=W0.heap.size by omega);clear F6;go_wp2
    go_ret2
    rw [HN];exact⟨YM,_,rfl,ho⟩
section
variable {b:Ba} {a z:Int} {l:List aH}
theorem uB {p:Int->Bool} (l:List aH) (k:Int):look (l.filter fun e=>p e.key) k=if p k=true then look l k else ax.zero:=by
 induction l with
 |nil=>simp [look]
 |cons e l ih=>
  by_cases h:p e.key=true
  ·rw [uS (by simpa using h)];simp only [look];by_cases hk:e.key=k
   ·rw [aw hk,aw hk,ih];subst hk;rw [aw h,aw h]
   ·rw [ar hk,ar hk,ih]
  ·rw [uR (by simpa using h),ih];simp only [look];by_cases hk:e.key=k
   ·subst hk;rw [ar h,ar h]
   ·rw [ar hk]
theorem D7 (h:aY l) (p:aH->Bool):aY (l.filter p):=List.Pairwise.sublist List.filter_sublist h
theorem mQ (h:bQ l) (p:aH->Bool):bQ (l.filter p):=fun e he=>h e (nt.1 he).1
theorem uN {es:List aH} (hl:Checked l) (h:ft l=some es) (p:Int->Bool):ft (l.filter fun e=>p e.key)=some (es.filter fun e=>p e.key):=by
 obtain⟨h1,h2,_,_,h5⟩:=fL hl h;have hs:Small (l.filter fun e=>p e.key):=fun k=>by
  rw [uB]
  split
  ·exact h2 k
  ·decide
 rw [ky (iX hl),aw hs]
 congr 1
 refine uC (eW (mQ hl.cp _)) (D7 h5 _) (gU (mQ hl.cp _)) (mQ (by rw [h1];exact gU hl.cp) _) fun k=>?_;rw [iG (mQ hl.cp _),uB,uB,h1,iG hl.cp]
theorem JY {t:Tr} {m:List aH} (h:allT t=some m) (lo hi:Int):aC t=0/\mz t lo hi=some (m.filter (aV lo hi)):=by
 unfold allT at h
 split at h
 ·rename_i hf
  refine⟨hf,?_⟩;obtain⟨_,hv⟩:=cZ hf;unfold mz at *;have hall:t.all.filter (aV 0 1099511627776)=t.all:=List.filter_eq_self.2 fun e he=>by
   have:=nZ hv e he;simp [aV];omega
  rw [hall]at h;exact uN (cP hv) h fun k=>decide (lo<=k) && decide (k<hi)
 ·cases h
theorem fJ (h:aS b=true):∃l,cx b=some l/\aY l/\dX l/\∀k,k<3->∃m,bw l (bp k)=some m/\allT (b.tree k)=some m:=by
 obtain⟨l,hl,ht⟩:=(dJ h).trees;refine⟨l,hl,(fI hl).1,(fI hl).2,fun k hk=>?_⟩;have:=ht k hk;unfold kK at this
 cases h1:bw l (bp k) with
 |none=>rw [h1]at this;cases this
 |some a=>
  cases h2:allT (b.tree k) with
  |none=>rw [h1,h2]at this;cases this
  |some c=>
   rw [h1,h2]at this;have hac:a=c:=by simpa using this
   exact⟨a,rfl,by rw [hac]⟩
noncomputable def cj (b:Ba) (s:ByteArray):Int:=if aS b=true then(if bt b.names s<0 then 6 else 0)else 7
def im (p a z:Int) (e:aH):Bool:=decide (e.key/1048576=p) && mn (e.key%1048576) a z
def rowOf (e:aH):aH:=⟨e.key%1048576,e.is⟩
def dA (a z:Int):Prop:=0<=a/\a<=z/\z<=1048575
instance (a z:Int):Decidable (dA a z):=by unfold dA;infer_instance
noncomputable def rP (b:Ba) (s:ByteArray) (size a z:Int):List aH:=
 match cx b with|none=>[]|some l=>match bw l size with|none=>[]|some m=>(m.filter (im (bt b.names s) a z)).map rowOf
noncomputable def eD (b:Ba) (s:ByteArray) (size a z:Int):Int:=
 if cj b s≠0 then cj b s else if size≠1/\size≠60/\size≠3600 then 3 else if ¬dA a z then 2 else if 500<(rP b s size a z).length then 1 else 0
noncomputable def pn (b:Ba) (s:ByteArray) (size a z:Int):List aH:=if eD b s size a z=0 then rP b s size a z else []
theorem yl {p:Int} (h:dA a z) (e:aH):im p a z e=aV (p*1048576+a) (p*1048576+z+1) e:=by
 obtain⟨h1,h2,h3⟩:=h;unfold im aV mn;rw [Bool.eq_iff_iff];simp only [Bool.and_eq_true,Du];omega
theorem jx (b:Ba) (s:ByteArray):(cj b s=7/\aS b=false)\/(cj b s=6/\aS b=true/\bt b.names s = -1)\/(cj b s=0/\aS b=true/\∃k:Nat,k<16/\bt b.names s=k):=by
 unfold cj
 cases h:aS b with
 |false=>exact .inl ⟨bh,rfl⟩
 |true=>
  rcases iE b.names s with ⟨k,hk,e,_⟩|⟨e,_⟩
  ·have:=(dJ h).n16;exact .inr (.inr ⟨by simp only [if_true];rw [ar ai],rfl,k,ai,e⟩)
  ·exact .inr (.inl ⟨by simp only [if_true];rw [aw ai],rfl,e⟩)
theorem Hl {s:ByteArray} {k:Nat} (h:aS b=true) (hk:k<3) (hr:dA a z) :
  ∃m,rP b s (bp k) a z=(m.filter (aV (bt b.names s*1048576+a) (bt b.names s*1048576+z+1))).map rowOf/\aC (b.tree k)=0 /\
   mz (b.tree k) (bt b.names s*1048576+a) (bt b.names s*1048576+z+1)=some (m.filter (aV (bt b.names s*1048576+a) (bt b.names s*1048576+z+1)))/\aY m/\dX m:=by
 obtain⟨l,hl,_,hg,ht⟩:=fJ h;obtain⟨m,h1,h2⟩:=ht k hk;obtain⟨h3,h4⟩:=JY h2 (bt b.names s*1048576+a) (bt b.names s*1048576+z+1);refine⟨m,?_,h3,h4,(fg h2).1,(fg h2).2⟩;unfold rP;rw [hl];simp only;rw [h1];simp only
 congr 1
 exact List.filter_congr fun e _=>yl hr e
end
section
variable {a:Act} {ops:Array Oper} {Q:Exit->Act->World->Prop} {es:List aH} {B C:Nat} {o:Oper} {w w':World}
theorem Tryz.abm:(Tryz.prog.info? 77).map (fun i=>(i.zero.map (fun z=>z.cells.size),i.size,i.bytes))=some (some 7,7,56):=cV
theorem Tryz.afr:Tryz.prog.underlying 77=some (.struct (Tryz.prog.fieldsOf 77)):=cV
theorem Tryz.ahi:Tryz.prog.stoodInHeld 77=false:=cV
structure OwnRows (B:Nat) (w:World) (v:Value) (es:List aH):Prop where
 row:w.ownsRow B 77 7 v es (es.flatMap bu)
theorem OwnRows.nil (B:Nat) (w:World):OwnRows B w (az 0 0) []:=⟨oV _ _ _ _⟩
theorem OwnRows.alloc {v:Value} (h:OwnRows B w v es) (o:Obj):OwnRows B (w.alloc o) v es:=⟨Dn h.row o⟩
theorem OwnRows.block {v:Value} (h:OwnRows B w v es) (hb:∀g,v.ownBlock=some g->w'.heap[g]?=w.heap[g]?):OwnRows B w' v es:=by
 obtain⟨hl,⟨rfl,h0⟩|⟨g,cap,cur,rfl,hB,hg,h1,h2,h3,h4⟩⟩:=h.row
 ·exact⟨⟨hl, .inl ⟨rfl,h0⟩⟩⟩
 ·exact⟨⟨hl, .inr ⟨g,cap,cur,rfl,hB,(hb g rfl).trans hg,h1,h2,h3,h4⟩⟩⟩
theorem OwnRows.drew {v:Value} (h:OwnRows B w v es):OwnRows B w.drew v es:=h.block fun _ _=>rfl
theorem OwnRows.drewN {v:Value} (h:OwnRows B w v es) (n:Nat):OwnRows B (w.drewN n) v es:=h.block fun _ _=>rfl
theorem OwnRows.lt {v:Value} (h:OwnRows B w v es):∀g,v.ownBlock=some g->B<=g/\g<w.heap.size:=World.ownsRow.lt h.row
theorem OwnRows.below {v:Value} (h:OwnRows B w v es) (hb:Below C w w') (hC:w<=C):OwnRows B w' v es:=h.block fun g hg=>hb.block g (by have:=(h.lt g hg).2;omega)
theorem OwnRows.mono {v:Value} (h:OwnRows B w v es) (hC:C<=B):OwnRows C w v es:=by
 obtain⟨hl,⟨rfl,h0⟩|⟨g,cap,cur,rfl,hB,hg,h1,h2,h3,h4⟩⟩:=h.row
 ·exact⟨⟨hl, .inl ⟨rfl,h0⟩⟩⟩
 ·exact⟨⟨hl, .inr ⟨g,cap,cur,rfl,ai,hg,h1,h2,h3,h4⟩⟩⟩
theorem OwnRows.at {v:Value} (h:OwnRows B w v es) (hs:es.length<=1000000):cX w v es:=ct.owned cO h.row rfl ai
theorem OwnRows.isSlice {v:Value} (h:OwnRows B w v es):∃ao cap,v=ah ao es cap:=by
 obtain⟨hl,⟨rfl,h0⟩|⟨g,cap,cur,rfl,_⟩⟩:=h.row
 ·exact⟨none,0,by rw [h0]⟩
 ·exact⟨_,_,rfl⟩
theorem xH {rest:List Oper} (hgd:o.guard=none) (s x:Operand)
  (ho:o.op = .call { callee:= .builtin .append,args:=#[s,x],argTypes:=#[40,40] }) (B:Nat) (v:Value) (es:List aH) (hs:a.eval s=v) (hown:OwnRows B w v es)
  (ad:Addr) (e:aH) (hx:a.eval x=ah (some ad) 1 1) (hnews:∀j u,(bu e)[j]?=some u->w.cell? (ad.add j)=some u) (hlen:es.length<=1000000) (hbase:B<=w)
  (h:∀v' w',OwnRows B w' v' (es++[e])->(∀C W,Below C W w->C<=B->Below C W w')->wpList Tryz.prog ops Q rest (a.put o.dst v') w'):wpList Tryz.prog ops Q (o::rest) a w:=by
 obtain⟨i0,z,hi,hz,hz1,hz2,hz3⟩:=cG Tryz.abm;refine wpList_append_own w hgd s x 40 ho B 77 i0 z 7 56 Tryz.underlying40 hi hz hz1 hz2 hz3 bY v es _ hs hown.row ad 1 1 (bu e) hx rfl hnews (iW [e] |> fun h u hu=>h u (by simpa using hu)) iI ai hbase ?_;intro v' w' hown' hg _;refine h v' w' ?_ fun C W hb hC=>nP hb hg ai (fun j hj=>by have:=(hown.lt j hj).1;omega);have:(es++[e]).flatMap bu=es.flatMap bu++bu e:=bh;refine⟨?_⟩;rw [this,dF];exact hown'
theorem AX (d:Nat) (e f:aH) (w:World):(Op.equalIn (d+3) 77 (.agg #[af e.key,af e.is.c,af e.is.s,af e.is.mi,af e.is.ma,af e.is.t,af e.is.l]) (.agg #[af f.key,af f.is.c,af f.is.s,af f.is.mi,af f.is.ma,af f.is.t,af f.is.l])).run Tryz.prog w = .ok (decide (e=f)) w:=by
 have u3:=Tryz.underlying3;have hr:=fun w=>rO d e.is f.is w;rw [run_equalIn_struct w (d+2) 77 _ _ Tryz.afr Tryz.ahi];simp only [Program.fieldsOf,Tryz.underlying77];go_simp;obtain⟨e0,e1⟩:=e;obtain⟨f0,f1⟩:=f;simp only [aH.mk.injEq];by_cases h0:e0=f0
 ·by_cases h1:e1=f1 <;> simp [h0,h1]
 ·simp [h0]
theorem Hh (e f:aH) (w:World):(binOp .neq 77 (.agg #[af e.key,af e.is.c,af e.is.s,af e.is.mi,af e.is.ma,af e.is.t,af e.is.l]) (.agg #[af f.key,af f.is.c,af f.is.s,af f.is.mi,af f.is.ma,af f.is.t,af f.is.l])).run Tryz.prog w = .ok (.bool (!decide (e=f))) w:=by
 rw [run_neq_struct,AX 9997];rfl
theorem A5 {va vb:Value} {xs ys:List aH} (ha:cX w va xs) (hb:cX w vb ys) :
  Calls Tryz.prog 8 #[va,vb] w fun e w'=>e = .returned (.bool (decide (xs=ys)))/\aq w w':=by
 obtain⟨ao,ca,rfl,a1,a2,a3,a4,a5⟩:=ha;obtain⟨bo,cb,rfl,b1,b2,b3,b4,b5⟩:=hb;by_cases hl:xs=ys.length
 ·have hl':((xs.length:Int) != (ys.length:Int))=false:=by simp [hl]
  go_enter Tryz.func8,Tryz.ntmps8;go_wp2_with fail
  go_loopg [5] xs (fun g i wr=>∃k:Nat,k<=xs/\g=xs-k/\i=af k/\Hid (xs.take k=ys.take k)/\aq w wr)
  case atStart=>exact⟨0,eY _,rfl,rfl,ag bh,aW _ _⟩
  case round=>
   obtain⟨k,hk,rfl,rfl,HE,cT⟩:=hrel;by_cases hlt:k<xs
   ·obtain⟨ab,aR,rfl,qy,ac⟩:=a5 ai;obtain⟨bb,Vz,rfl,Zg,bc⟩:=b5 ai;have ir:k<ys:=ai;obtain⟨c0,c1,c2,c3,c4,c5,c6⟩:=br cT qy ac hlt;obtain⟨d0,d1,d2,d3,d4,d5,d6⟩:=br cT Zg bc ir;clear ac bc a5 b5;obtain⟨e,he⟩:=bG (xs[k]);obtain⟨f,hf⟩:=bG (ys[k]);rw [he]at c0 c1 c2 c3 c4 c5 c6;rw [hf]at d0 d1 d2 d3 d4 d5 d6;have EE:=ag he;have FF:=ag hf;have HL:=ag hl;clear he hf hl;have hne:=Hh e f;by_cases DM:e=f
    ·have RQ:(decide (e=f))=true:=(by simp [DM]);have Tk:=ag DM;clear DM;go_wp2;go_quiet (fail);go_wp2;go_roundg (xs-(k+1))
     case measure=>omega
     case rel=>exact⟨k+1,ai,rfl,by go_num,ag (pB HE.out hlt ir (by rw [EE,FF,Tk])),iZ⟩
    ·have RQ:(decide (e=f))=false:=(by simp [DM]);have hxy:decide (xs=ys)=false:=(by simpa using zy hlt ir (by rw [EE,FF];exact DM));clear DM;go_wp2;go_quiet (fail);go_wp2;go_ret;exact⟨bz hxy.symm,iZ⟩
   ·have hxy:decide (xs=ys)=true:=by
     have h1:=HE.out;rw [iM ai,iM ai]at h1;simpa using h1
    have HL:=ag hl;clear hl;go_wp2;go_ret;exact⟨bz hxy.symm,iZ⟩
 ·have hl':((xs.length:Int) != (ys.length:Int))=true:=by simp;omega
  have hxy:decide (xs=ys)=false:=by simp;intro h;subst h;exact hl rfl
  clear hl;go_enter Tryz.func8,Tryz.ntmps8;go_wp2_with fail;go_ret;exact⟨bz hxy.symm,iZ⟩
theorem AU {K:Act->World->Prop} {E:Prop} (hgd:o.guard=none) (s x:Operand)
  (ho:o.op = .call { callee:= .builtin .append,args:=#[s,x],argTypes:=#[40,40] }) (B:Nat) (v:Value) (es:List aH) (hs:a.eval s=v) (hown:OwnRows B w v es)
  (ad:Addr) (e:aH) (hx:a.eval x=ah (some ad) 1 1) (hnews:∀j u,(bu e)[j]?=some u->w.cell? (ad.add j)=some u) (hlen:es.length<=1000000) (hbase:B<=w)
  (h:∀v' w',OwnRows B w' v' (es++[e])->(∀C W,Below C W w->C<=B->Below C W w')->K (a.put o.dst v') w'):if Region.wanted o (yielded ops a.tmps)=true then Oper.wp Tryz.prog o a w K Q else E:=by
 have hw:Region.wanted o (yielded ops a.tmps)=true:=by simp [Region.wanted,hgd]
 rw [aw hw];obtain⟨i0,z,hi,hz,hz1,hz2,hz3⟩:=cG Tryz.abm;obtain⟨v',w',hrun,r1,r2,_⟩:=run_append_own (P:=Tryz.prog) w B 40 o.type 77 i0 z 7 56 Tryz.underlying40 hi hz hz1 hz2 hz3 bY v es _ hown.row ad 1 1 (bu e) rfl hnews (fun u hu=>iW [e] u (by simpa using hu)) iI ai hbase;unfold Oper.wp;simp [execOp,ho,resolve,invoke,builtin,hs,hx,hrun,Result.andThen];refine h v' w' ?_ fun C W hb hC=>nP hb r2 ai (fun j hj=>by have:=(hown.lt j hj).1;omega);have:(es++[e]).flatMap bu=es.flatMap bu++bu e:=bh;refine⟨?_⟩;rw [this,dF];exact r1
end
end Go.Proofs.YtmljjfhgciaceaaGreatDoor
