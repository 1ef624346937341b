/- Lemmas of the proof. -/
import Derived.Test.YtmljjfhgciaceaaGreatDoorHd
import Derived.Test.YtmljjfhgciaceaaGreatDoorCz
import Derived.Test.YtmljjfhgciaceaaGreatDoorPS
import Derived.Test.YtmljjfhgciaceaaGreatDoorPC
import Derived.Deep.RegionLaw
import Derived.Test.YtmljjfhgciaceaaGreatDoorSO
set_option maxRecDepth 100000
set_option maxHeartbeats 4000000
namespace Go.Proofs.YtmljjfhgciaceaaGreatDoor
open Go.RowKit
section
variable {b:Ba} {s:ByteArray} {w:World}
theorem lR {v:Value} {xs:List ByteArray} (h:fX w v xs) :
  Calls Tryz.prog 48 #[v, .string s] w fun e w'=>e = .returned (af (bt xs s))/\w'=w:=by
 obtain⟨ao,cap,rfl,a1,a2,a3,a4,a5⟩:=h;go_enter Tryz.func48,Tryz.ntmps48;go_wp2_with fail
 go_loopg [5] xs (fun g i wr=>∃k:Nat,k<=xs/\g=xs-k/\i=af k/\Hid (∀j (hj:j<k) (hjn:j<xs.length),xs[j]≠s)/\wr=w)
 case atStart=>exact⟨0,eY _,rfl,rfl,ag (fun j hj=>ai),rfl⟩
 case round=>
  obtain⟨k,hk,rfl,rfl,HN,rfl⟩:=hrel;by_cases hlt:k<xs
  ·obtain⟨ab,aR,rfl,qy,ac⟩:=a5 ai;have e0:=nE (aW _ _) qy ac hlt;obtain⟨y,hy⟩:=bG (xs[k]);rw [hy]at e0;have HY:=ag hy;have jA:=fun w'=>qV (ab:=ab) (aR:=aR) (n:=xs.length) (cap:=cap) (show (k:Int)=((k:Nat):Int) by rfl) hlt w';have CL:=BU y s;clear ac a5 hy;by_cases DL:y=s
   ·have HP:=ag (ux hlt (HY.trans DL) HN.out);have CM:decide (y=s)=true:=(by simp [DL]);rw [CM]at CL;clear DL CM;go_wp2;go_ret;rw [HP];exact⟨rfl,rfl⟩
   ·have GZ:=ag (show ∀j (hj:j<k+1) (hjn:j<xs.length),xs[j]≠s from fun j hj hjn=>by
     by_cases hjk:j=k
     ·subst hjk;rw [HY];exact DL
     ·exact HN.out j ai hjn)
    have CM:decide (y=s)=false:=(by simp [DL]);rw [CM]at CL;clear DL CM;go_wp2;go_roundg (xs-(k+1))
    case measure=>omega
    case rel=>exact⟨k+1,ai,rfl,by go_num,GZ,rfl⟩
  ·have HP:=ag (xa (xs:=xs) (s:=s) fun j hj=>HN.out j ai hj);go_wp2;go_ret;rw [HP];exact⟨rfl,rfl⟩
noncomputable def jq (b:Ba) (s:ByteArray):Int:=if cj b s=0 then bt b.names s else 0
theorem BX {v:Value} (h:bR w v b) (hst:∀s∈b.names,s.size<=140737488351232) (hsz:cI w) :
  Calls Tryz.prog 71 #[v, .string s] w fun e w'=>e = .returned (.tuple #[af (jq b s),af (cj b s)])/\aq w w':=by
 have HC:=ag fun w' (hb:aq w w')=>gP (h.below hb) hst (hsz.below hb);obtain⟨sa,sc,g0,l0,p0,g1,l1,p1,g2,l2,p2,rfl,hn,dE,T0,T1,T2⟩:=h.open;obtain⟨W0,hW0⟩:=cd (w.alloc (.cells (aL sa b.names sc g0 l0 p0 g1 l1 p1 g2 l2 p2 b) 30));have hb0:aq w W0:=by rw [hW0];exact aj
 have hz0:W0=w.heap.size+1:=by rw [hW0];simp
 have k0:W0.heap[w.heap.size]?=some (.cells (aL sa b.names sc g0 l0 p0 g1 l1 p1 g2 l2 p2 b) 30):=by rw [hW0];exact au _ _ rfl
 have HX:=ag fun w' (hb:aq W0 w')=>(by
  have b0:w'.heap[w.heap.size]?=_:=(hb.block _ ai).trans k0;simp [World.cell?,b0] :
  w'.cell? (w,0)=some (ah sa b.names sc)/\w'.cell? (w,1)=some (ah g0 l0 p0)/\(w',w.heap.size,2,b.t0.root)/\w'.cell? (w,3)=some (ah g1 l1 p1)/\(w',w.heap.size,4,b.t1.root)/\w'.cell? (w,5)=some (ah g2 l2 p2)/\(w',w.heap.size,6,b.t2.root)/\(w',w.heap.size,7,b.floor))
 have HB:=ag fun w' (hb:aq W0 w')=>(aF hb0 hb hb0.size:aq w w');obtain⟨x0,x1,x2,x3,x4,x5,x6,x7⟩:=HX W0 (aW _ _);have DC:=ag fun w' (hb:aq W0 w')=>pE (s:=s) (dE.below (HB w' hb) aO);clear h hst hsz dE T0 T1 T2;go_enter Tryz.func71,Tryz.ntmps71;go_upto_region 1 with (fail);rw [<-hW0];clear hW0 k0;rcases jx b s with ⟨e1,e2⟩|⟨e1,e2,e3⟩|⟨e1,e2,k,hk,e3⟩
 ·have hc:mS b=7:=iA e2;have HI:=ag (show jq b s=0 by unfold jq;rw [ar ai]);have HE:=ag e1;rw [hc]at HC;clear hc e1 e2;go_wp2_with ((go_at_call 66;(with_reducible refine(HC.out _ hb0).mono ?_);rintro e w1 ⟨rfl,hb1⟩))
  go_ret2
  rw [HI,HE];exact⟨rfl,HB _ hb1⟩
 ·have hc:mS b=0:=eU e2;have HI:=ag (show jq b s=0 by unfold jq;rw [ar ai]);have HE:=ag e1;rw [hc]at HC;rw [e3]at DC;clear hc e1 e2 e3;go_wp2_with (first|(go_at_call 66;(with_reducible refine(HC.out _ hb0).mono ?_);rintro e w1 ⟨rfl,hb1⟩;obtain⟨x0,-⟩:=HX _ hb1)|(go_at_call 69;(with_reducible refine(DC.out _ hb1).mono ?_);rintro e w2 ⟨rfl,hb2⟩;have hb3:=aF hb1 hb2 hb1.size))
  go_ret2
  rw [HI,HE];exact⟨rfl,HB _ hb3⟩
 ·have hc:mS b=0:=eU e2;have HI:=ag (show jq b s=k by unfold jq;rw [aw e1];exact e3);have HE:=ag e1;have iy:decide ((k:Int)<0)=false:=bh;rw [hc]at HC;rw [e3]at DC;clear hc e1 e2 e3;go_wp2_with (first|(go_at_call 66;(with_reducible refine(HC.out _ hb0).mono ?_);rintro e w1 ⟨rfl,hb1⟩;obtain⟨x0,-⟩:=HX _ hb1)|(go_at_call 69;(with_reducible refine(DC.out _ hb1).mono ?_);rintro e w2 ⟨rfl,hb2⟩;have hb3:=aF hb1 hb2 hb1.size))
  go_ret2
  rw [HI,HE];exact⟨rfl,HB _ hb3⟩
theorem tP {v:Value} (h:bR w v b) (hst:∀s∈b.names,s.size<=140737488351232) :
  Calls Tryz.prog 50 #[v, .string s] w fun e w'=>e = .returned (af (cj b s))/\aq w w':=by
 have HC:=ag fun w' (hb:aq w w')=>rp (h.below hb) hst;obtain⟨sa,sc,g0,l0,p0,g1,l1,p1,g2,l2,p2,rfl,hn,dE,T0,T1,T2⟩:=h.open;obtain⟨W0,hW0⟩:=cd (w.alloc (.cells (aL sa b.names sc g0 l0 p0 g1 l1 p1 g2 l2 p2 b) 30));have hb0:aq w W0:=by rw [hW0];exact aj
 have hz0:W0=w.heap.size+1:=by rw [hW0];simp
 have k0:W0.heap[w.heap.size]?=some (.cells (aL sa b.names sc g0 l0 p0 g1 l1 p1 g2 l2 p2 b) 30):=by rw [hW0];exact au _ _ rfl
 have HX:=ag fun w' (hb:aq W0 w')=>(by
  have b0:w'.heap[w.heap.size]?=_:=(hb.block _ ai).trans k0;simp [World.cell?,b0] :
  w'.cell? (w,0)=some (ah sa b.names sc)/\w'.cell? (w,1)=some (ah g0 l0 p0)/\(w',w.heap.size,2,b.t0.root)/\w'.cell? (w,3)=some (ah g1 l1 p1)/\(w',w.heap.size,4,b.t1.root)/\w'.cell? (w,5)=some (ah g2 l2 p2)/\(w',w.heap.size,6,b.t2.root)/\(w',w.heap.size,7,b.floor))
 have HB:=ag fun w' (hb:aq W0 w')=>(aF hb0 hb hb0.size:aq w w');obtain⟨x0,x1,x2,x3,x4,x5,x6,x7⟩:=HX W0 (aW _ _);have DC:=ag fun w' (hb:aq W0 w')=>lR (s:=s) (dE.below (HB w' hb) aO);clear h hst dE T0 T1 T2;go_enter Tryz.func50,Tryz.ntmps50;go_upto_region 1 with (fail);rw [<-hW0];clear hW0 k0;rcases jx b s with ⟨e1,e2⟩|⟨e1,e2,e3⟩|⟨e1,e2,k,hk,e3⟩
 ·have HE:=ag e1;rw [e2]at HC;clear e1 e2;go_wp2_with ((go_at_call 24;(with_reducible refine(HC.out _ hb0).mono ?_);rintro e w1 ⟨rfl,hb1⟩));go_ret;rw [HE];exact⟨rfl,HB _ hb1⟩
 ·have HE:=ag e1;rw [e2]at HC;rw [e3]at DC;clear e1 e2 e3;go_wp2_with (first|(go_at_call 24;(with_reducible refine(HC.out _ hb0).mono ?_);rintro e w1 ⟨rfl,hb1⟩;obtain⟨x0,-⟩:=HX _ hb1)|(go_at_call 48;(with_reducible refine(DC.out _ hb1).mono ?_);rintro e w2 ⟨rfl,rfl⟩));go_ret;rw [HE];exact⟨rfl,HB _ hb1⟩
 ·have HE:=ag e1;have iy:decide ((k:Int)<0)=false:=bh;rw [e2]at HC;rw [e3]at DC;clear e1 e2 e3;go_wp2_with (first|(go_at_call 24;(with_reducible refine(HC.out _ hb0).mono ?_);rintro e w1 ⟨rfl,hb1⟩;obtain⟨x0,-⟩:=HX _ hb1)|(go_at_call 48;(with_reducible refine(DC.out _ hb1).mono ?_);rintro e w2 ⟨rfl,rfl⟩));go_ret;rw [HE];exact⟨rfl,HB _ hb1⟩
theorem EB (a z:Int) (w:World):Calls Tryz.prog 73 #[af a,af z] w fun e w'=>e = .returned (.bool (decide (dA a z)))/\w'=w:=by
 by_cases h1:0<=a
 ·have e1:decide (0<=a)=true:=by simp [h1]
  by_cases h2:z<=1048575
  ·have e2:decide (z<=1048575)=true:=by simp [h2]
   by_cases h3:a<=z
   ·have e3:decide (a<=z)=true:=(by simp [h3]);have HR:=ag (show true=decide (dA a z) by simp [dA,h1,h2,h3]);clear h1 h2 h3;go_enter Tryz.func73,Tryz.ntmps73;go_wp2;go_ret;exact⟨bz HR,rfl⟩
   ·have e3:decide (a<=z)=false:=(by simp;omega);have HR:=ag (show false=decide (dA a z) by simp [dA,h3]);clear h1 h2 h3;go_enter Tryz.func73,Tryz.ntmps73;go_wp2;go_ret;exact⟨bz HR,rfl⟩
  ·have e2:decide (z<=1048575)=false:=by simp;omega
   have HR:=ag (show false=decide (dA a z) by simp [dA,h2]);clear h1 h2;go_enter Tryz.func73,Tryz.ntmps73;go_wp2;go_ret;exact⟨bz HR,rfl⟩
 ·have e1:decide (0<=a)=false:=by simp;omega
  have HR:=ag (show false=decide (dA a z) by simp [dA,h1]);clear h1;go_enter Tryz.func73,Tryz.ntmps73;go_wp2;go_ret;exact⟨bz HR,rfl⟩
def Aj (n:Int):Int:=if n=1 then 0 else if n=60 then 1 else if n=3600 then 2 else -1
theorem Ai (n:Int):(n=1/\Aj n=0)\/(n=60/\Aj n=1)\/(n=3600/\Aj n=2)\/(n≠1/\n≠60/\n≠3600/\Aj n = -1):=by
 unfold Aj;by_cases h1:n=1
 ·exact .inl ⟨h1,by rw [aw h1]⟩
 ·by_cases h2:n=60
  ·exact .inr (.inl ⟨h2,by rw [ar h1,aw h2]⟩)
  ·by_cases h3:n=3600
   ·exact .inr (.inr (.inl ⟨h3,by rw [ar h1,ar h2,aw h3]⟩))
   ·exact .inr (.inr (.inr ⟨h1,h2,h3,by rw [ar h1,ar h2,ar h3]⟩))
theorem Ee (n:Int) (h:cI w) :
  Calls Tryz.prog 72 #[.slice (some ⟨0,0,none⟩) 3 3, .int .i64 n] w fun e w'=>e = .returned (.int .i64 (Aj n))/\w'=w:=by
 obtain⟨-,c0,c1,c2⟩:=h;rcases Ai n with ⟨h1,h2⟩|⟨h1,h2⟩|⟨h1,h2⟩|⟨h1,h3,h4,h2⟩
 ·rw [h2];clear h2;subst h1;go_enter Tryz.func72,Tryz.ntmps72;go_wp2_with fail
  go_loopg [8] 3 (fun g i wr=>i = .int .i64 0/\wr=w)
  case atStart=>exact⟨rfl,rfl⟩
  case round=>
   obtain⟨rfl,rfl⟩:=hrel;go_wp2;go_ret;exact⟨rfl,rfl⟩
 ·rw [h2];clear h2;subst h1;go_enter Tryz.func72,Tryz.ntmps72;go_wp2_with fail
  go_loopg [8] 3 (fun g i wr=>∃k:Nat,k<=1/\g=3-k/\i = .int .i64 k/\wr=w)
  case atStart=>exact⟨0,ai,rfl,rfl,rfl⟩
  case round=>
   obtain⟨k,hk,rfl,rfl,rfl⟩:=hrel;obtain rfl|rfl:k=0\/k=1:=ai
   ·go_wp2;go_roundg 2
    case measure=>omega
    case rel=>exact⟨1,ai,rfl,by go_num,rfl⟩
   ·go_wp2;go_ret;exact⟨rfl,rfl⟩
 ·rw [h2];clear h2;subst h1;go_enter Tryz.func72,Tryz.ntmps72;go_wp2_with fail
  go_loopg [8] 3 (fun g i wr=>∃k:Nat,k<=2/\g=3-k/\i = .int .i64 k/\wr=w)
  case atStart=>exact⟨0,ai,rfl,rfl,rfl⟩
  case round=>
   obtain⟨k,hk,rfl,rfl,rfl⟩:=hrel;obtain rfl|rfl|rfl:k=0\/k=1\/k=2:=ai
   ·go_wp2;go_roundg 2
    case measure=>omega
    case rel=>exact⟨1,ai,rfl,by go_num,rfl⟩
   ·go_wp2;go_roundg 1
    case measure=>omega
    case rel=>exact⟨2,ai,rfl,by go_num,rfl⟩
   ·go_wp2;go_ret;exact⟨rfl,rfl⟩
 ·rw [h2];clear h2;have n1:(n == 1)=false:=by simpa using h1
  have n2:(n == 60)=false:=by simpa using h3
  have n3:(n == 3600)=false:=by simpa using h4
  clear h1 h3 h4;go_enter Tryz.func72,Tryz.ntmps72;go_wp2_with fail
  go_loopg [8] 3 (fun g i wr=>∃k:Nat,k<=3/\g=3-k/\i = .int .i64 k/\wr=w)
  case atStart=>exact⟨0,ai,rfl,rfl,rfl⟩
  case round=>
   obtain⟨k,hk,rfl,rfl,rfl⟩:=hrel;obtain rfl|rfl|rfl|rfl:k=0\/k=1\/k=2\/k=3:=ai
   ·go_wp2;go_roundg 2
    case measure=>omega
    case rel=>exact⟨1,ai,rfl,by go_num,rfl⟩
   ·go_wp2;go_roundg 1
    case measure=>omega
    case rel=>exact⟨2,ai,rfl,by go_num,rfl⟩
   ·go_wp2;go_roundg 0
    case measure=>omega
    case rel=>exact⟨3,ai,rfl,by go_num,rfl⟩
   ·go_wp2;go_ret;exact⟨rfl,rfl⟩
end
section
variable {b:Ba} {s:ByteArray} {n a z:Int}
def J3 (B:Nat) (w:World) (out:List aH) (E:Int) (e:Ending) (w':World):Prop:=Below B w w'/\∃v,e = .returned (.tuple #[v,af E])/\OwnRows B w' v out
theorem ly {k:Nat} (hk:k<3) (h:n=bp k):n=1\/n=60\/n=3600:=by
 obtain rfl|rfl|rfl:k=0\/k=1\/k=2:=ai
 ·exact .inl h
 ·exact .inr (.inl h)
 ·exact .inr (.inr h)
theorem uq (n:Int):(∃k,k<3/\n=bp k/\Aj n=k)\/(n≠1/\n≠60/\n≠3600/\Aj n = -1):=by
 rcases Ai n with ⟨h1,h2⟩|⟨h1,h2⟩|⟨h1,h2⟩|h
 ·exact .inl ⟨0,bY,h1,h2⟩
 ·exact .inl ⟨1,bY,h1,h2⟩
 ·exact .inl ⟨2,bY,h1,h2⟩
 ·exact .inr h
theorem mL (h:cj b s≠0):eD b s n a z=cj b s/\pn b s n a z=[]:=by
 have h1:eD b s n a z=cj b s:=by unfold eD;rw [aw h]
 exact⟨h1,by unfold pn;rw [ar (by rw [h1];exact h)]⟩
theorem wX (h:cj b s=0) (hn:n≠1/\n≠60/\n≠3600):eD b s n a z=3/\pn b s n a z=[]:=by
 have h1:eD b s n a z=3:=by unfold eD;rw [ar (jw h),aw hn]
 exact⟨h1,by unfold pn;rw [ar (by rw [h1];decide)]⟩
theorem uu {k:Nat} (h:cj b s=0) (hk:k<3) (hn:n=bp k) (hr:¬dA a z):eD b s n a z=2/\pn b s n a z=[]:=by
 have h0:=ly hk hn;have h1:eD b s n a z=2:=by unfold eD;rw [ar (jw h),ar ai,aw hr]
 exact⟨h1,by unfold pn;rw [ar (by rw [h1];decide)]⟩
theorem Cb {k:Nat} (h:cj b s=0) (hk:k<3) (hn:n=bp k) (hr:dA a z) (hl:500<(rP b s n a z).length):eD b s n a z=1/\pn b s n a z=[]:=by
 have h0:=ly hk hn;have h1:eD b s n a z=1:=by unfold eD;rw [ar (jw h),ar ai,ar (jw hr),aw hl]
 exact⟨h1,by unfold pn;rw [ar (by rw [h1];decide)]⟩
theorem Hm {k:Nat} (h:cj b s=0) (hk:k<3) (hn:n=bp k) (hr:dA a z) (hl:¬500<(rP b s n a z).length):eD b s n a z=0/\pn b s n a z=rP b s n a z:=by
 have h0:=ly hk hn;have h1:eD b s n a z=0:=by unfold eD;rw [ar (jw h),ar ai,ar (jw hr),ar hl]
 exact⟨h1,by unfold pn;rw [aw h1]⟩
theorem QD {v:Value} {w:World} (h:bR w v b) (hst:∀s∈b.names,s.size<=140737488351232) (hsz:cI w) :
  Calls Tryz.prog 36 #[v, .string s,af n,af a,af z] w (J3 w w (pn b s n a z) (eD b s n a z)):=by
 have tM:=ag fun w' (hb:aq w w')=>BX (s:=s) (h.below hb) hst (hsz.below hb);obtain⟨sa,sc,g0,l0,p0,g1,l1,p1,g2,l2,p2,rfl,hn,dE,T0,T1,T2⟩:=h.open;obtain⟨W0,hW0⟩:=cd (w.alloc (.cells (aL sa b.names sc g0 l0 p0 g1 l1 p1 g2 l2 p2 b) 30));have hb0:aq w W0:=by rw [hW0];exact aj
 have hz0:W0=w.heap.size+1:=by rw [hW0];simp
 have k0:W0.heap[w.heap.size]?=some (.cells (aL sa b.names sc g0 l0 p0 g1 l1 p1 g2 l2 p2 b) 30):=by rw [hW0];exact au _ _ rfl
 have HX:=ag fun w' (hb:aq W0 w')=>(by
  have b0:w'.heap[w.heap.size]?=_:=(hb.block _ ai).trans k0;simp [World.cell?,b0] :
  w'.cell? (w,0)=some (ah sa b.names sc)/\w'.cell? (w,1)=some (ah g0 l0 p0)/\(w',w.heap.size,2,b.t0.root)/\w'.cell? (w,3)=some (ah g1 l1 p1)/\(w',w.heap.size,4,b.t1.root)/\w'.cell? (w,5)=some (ah g2 l2 p2)/\(w',w.heap.size,6,b.t2.root)/\(w',w.heap.size,7,b.floor))
 have HB:=ag fun w' (hb:aq W0 w')=>(aF hb0 hb hb0.size:aq w w');obtain⟨x0,x1,x2,x3,x4,x5,x6,x7⟩:=HX W0 (aW _ _);have ry:=ag fun w' (hb:aq W0 w')=>(hsz.below (HB w' hb):cI w');have PY:=ag fun w' (hb:aq W0 w')=>Ee n (ry w' hb);have Qg:=ag fun w' lo hi (hb:aq W0 w')=>lq (lo:=lo) (hi:=hi) (T0 w' (HB w' hb));have S9:=ag fun w' lo hi (hb:aq W0 w')=>lq (lo:=lo) (hi:=hi) (T1 w' (HB w' hb));have uW:=ag fun w' lo hi (hb:aq W0 w')=>lq (lo:=lo) (hi:=hi) (T2 w' (HB w' hb));clear h hst hsz dE T0 T1 T2;go_enter Tryz.func36,Tryz.ntmps36;go_upto_region 1 with (fail);rw [<-hW0];clear hW0 k0;rcases jx b s with ⟨e1,e2⟩|⟨e1,e2,e3⟩|⟨e1,e2,p,hp,e3⟩
 ·obtain⟨r1,r2⟩:=mL (n:=n) (a:=a) (z:=z) (show cj b s≠0 by omega);have HR:=ag (aJ (r1.trans e1) r2);rw [e1]at tM;clear e1 e2 r1 r2;go_wp2_with ((go_at_call 71;(with_reducible refine(tM.out _ hb0).mono ?_);rintro e w1 ⟨rfl,hb1⟩))
  go_ret2
  rw [HR.1,HR.2];exact⟨HB _ hb1,_,rfl,OwnRows.nil _ _⟩
 ·obtain⟨r1,r2⟩:=mL (n:=n) (a:=a) (z:=z) (show cj b s≠0 by omega);have HR:=ag (aJ (r1.trans e1) r2);rw [e1]at tM;clear e1 e2 e3 r1 r2;go_wp2_with ((go_at_call 71;(with_reducible refine(tM.out _ hb0).mono ?_);rintro e w1 ⟨rfl,hb1⟩))
  go_ret2
  rw [HR.1,HR.2];exact⟨HB _ hb1,_,rfl,OwnRows.nil _ _⟩
 ·have hI:jq b s=p:=by unfold jq;rw [aw e1];exact e3
  rw [e1,hI]at tM;clear hI;go_upto_region 4 with ((go_at_call 71;(with_reducible refine(tM.out _ hb0).mono ?_);rintro e w1 ⟨rfl,hb1⟩;obtain⟨x0,x1,x2,x3,x4,x5,x6,x7⟩:=HX _ hb1));have xh:=HB _ hb1;rcases uq n with ⟨k,hk,FW,hi⟩|⟨n1,n2,n3,hi⟩
  ·rw [hi]at PY;have Yo:decide ((k:Int)<0)=false:=bh;have HT:=ag (EB a z);by_cases hr:dA a z
   ·have htd:decide (dA a z)=true:=(by simp [hr]);rw [htd]at HT;obtain⟨m,q1,q2,q3,q4,q5⟩:=Hl (s:=s) e2 hk hr;rw [e3]at q1 q3;rw [<-FW]at q1;obtain⟨hr1,hr2,hr3⟩:=id hr;obtain⟨lo,hlo⟩:=bG ((p:Int)*1048576+a);obtain⟨hi',hhi⟩:=bG ((p:Int)*1048576+z+1);rw [hlo,hhi]at q1 q3;have m1:IntKind.i64.wrap ((p:Int)*1048576)=(p:Int)*1048576:=bI _ ai;have m2:IntKind.i64.wrap ((p:Int)*1048576+a)=lo:=(by rw [hlo];exact bI _ ai);have m3:IntKind.i64.wrap ((p:Int)*1048576+z)=(p:Int)*1048576+z:=bI _ ai;have m4:IntKind.i64.wrap ((p:Int)*1048576+z+1)=hi':=(by rw [hhi];exact bI _ ai);obtain⟨ms,hms⟩:=bG (m.filter (aV lo hi'));have hmk:∀y∈ms,0<=y.key/\y.key<1099511627776:=fun y hy=>(by rw [<-hms]at hy;exact q5.2.1 y (nt.1 hy).1);have zH:ms.length<=50000:=(by rw [<-hms];exact fZ (ub _ _) q5.2.2);rw [hms]at q1 q3;have HL:=ag q1;have HMK:=ag hmk;have Dz:=ag e1;have VP:=ag FW;have rM:=ag hr;have TY:=ag q2;have Kw:=ag q3;have iy:(0:Int)<=(k:Int):=ai;have hk3:(k:Int)<3:=ai;clear q1 q2 q3 q4 q5 hms hlo hhi hr htd hr1 hr2 hr3 e1 e2 e3 hmk FW hi tM;go_upto_region 9 with (first|(go_at_call 72;(with_reducible refine(PY.out _ hb1).mono ?_);rintro e w2 ⟨rfl,hw2⟩;obtain rfl:=hw2.symm)|(go_at_call 73;(with_reducible refine(HT.out _).mono ?_);rintro e w2 ⟨rfl,hw2⟩;obtain rfl:=hw2.symm));go_cut [15,13] (fun u c wx=>∃su sd,u=ah su ms sd/\c=af 0/\ay w1 wx (ah su ms sd) ms/\aq w1 wx)
    case first=>
     obtain rfl|rfl|rfl:k=0\/k=1\/k=2:=ai
     ·have HA:=ag (Qg w1 lo hi' hb1);go_wp2_with ((go_at_call 74;(with_reducible refine HA.out.mono ?_);rintro e w3 ⟨hb3,-,hok⟩;have hok:=hok TY;rw [show mz b.t0 lo hi'=some ms from Kw]at hok;obtain⟨v3,rfl,mC⟩:=hok;obtain⟨su,sd,rfl⟩:=mC.isSlice));go_meet;exact⟨_,_,rfl,rfl,mC,hb3⟩
     ·have HA:=ag (S9 w1 lo hi' hb1);go_wp2_with ((go_at_call 74;(with_reducible refine HA.out.mono ?_);rintro e w3 ⟨hb3,-,hok⟩;have hok:=hok TY;rw [show mz b.t1 lo hi'=some ms from Kw]at hok;obtain⟨v3,rfl,mC⟩:=hok;obtain⟨su,sd,rfl⟩:=mC.isSlice));go_meet;exact⟨_,_,rfl,rfl,mC,hb3⟩
     ·have HA:=ag (uW w1 lo hi' hb1);go_wp2_with ((go_at_call 74;(with_reducible refine HA.out.mono ?_);rintro e w3 ⟨hb3,-,hok⟩;have hok:=hok TY;rw [show mz b.t2 lo hi'=some ms from Kw]at hok;obtain⟨v3,rfl,mC⟩:=hok;obtain⟨su,sd,rfl⟩:=mC.isSlice));go_meet;exact⟨_,_,rfl,rfl,mC,hb3⟩
    case rest=>
     obtain⟨su,sd,rfl,rfl,mC,hb3⟩:=hcut
     rename World=>w3
     have zJ:aq w w3:=aF xh hb3 xh.size;clear x0 x1 x2 x3 x4 x5 x6 x7 m1 m2 m3 m4 PY HT;by_cases hl:500<ms.length
     ·have O9:decide ((500:Int)<(ms.length:Int))=true:=(by simp;omega);have HR:=ag (Cb Dz hk VP rM (by rw [HL,oX];exact hl));clear hl;go_wp2
      go_ret2
      rw [HR.1,HR.2];exact⟨zJ,_,rfl,OwnRows.nil _ _⟩
     ·have O9:decide ((500:Int)<(ms.length:Int))=false:=(by simp;omega);have HR:=ag (Hm Dz hk VP rM (by rw [HL,oX];exact hl));clear hl;have DG:=ag (mC.at ai);clear mC;go_wp2_with fail;clear O9
      go_loopg [16,62] ms (fun g out i wr=>∃j:Nat,j<=ms/\g=ms-j/\i=af j/\OwnRows w3 wr out ((ms.take j).map rowOf)/\aq w3 wr)
      case atStart=>exact⟨0,eY _,rfl,rfl,OwnRows.nil _ _,aW _ _⟩
      case round=>
       obtain⟨j,hj,rfl,rfl,hown,hb⟩:=hrel;have hzb:=hb.size;have cT:=aF zJ hb zJ.size;by_cases hlt:j<ms
       ·obtain⟨_,_,hv,-,-,-,-,h5⟩:=DG.out;injection hv with hv1 _ hv3;subst hv1 hv3;obtain⟨eb,cM,ll,pq,jF⟩:=h5 ai;subst ll;obtain⟨y0,y1,y2,y3,y4,y5,y6⟩:=br hb pq jF hlt;obtain⟨y,hy⟩:=bG (ms[j]);rw [hy]at y0 y1 y2 y3 y4 y5 y6;obtain⟨iy,hk1⟩:=HMK y (by rw [<-hy];exact eZ hlt);obtain⟨M,hM⟩:=bG (y.key%1048576);have Ev:=ag (show (ms.take (j+1)).map rowOf=(ms.take j).map rowOf++[⟨M,y.is⟩] by rw [ja hlt,sH,hy];simp [rowOf,hM]);have m1:y.key.tmod 1048576=M:=(by rw [tJ iy];exact hM);have m4:IntKind.i64.wrap M=M:=bI _ ai;have hlo:((ms.take j).map rowOf).length<=1000000:=(by rw [oX,gh];omega);have jA:=fun w'=>cN (ab:=eb) (aR:=cM) (n:=ms.length) (cap:=sd) (show (j:Int)=((j:Nat):Int) by rfl) hlt w';have hwz:eb<wr:=ai;obtain⟨os,hos⟩:=bG ((ms.take j).map rowOf);rw [hos]at hown Ev hlo;obtain⟨so,sc2,rfl⟩:=hown.isSlice;obtain⟨W1,hW1⟩:=cd (wr.alloc (.cells #[af y.key,af y.is.c,af y.is.s,af y.is.mi,af y.is.ma,af y.is.t,af y.is.l] 107));have hb1:aq wr W1:=(by rw [hW1];exact aj);have k1:W1.heap[wr.heap.size]?=some (.cells #[af y.key,af y.is.c,af y.is.s,af y.is.mi,af y.is.ma,af y.is.t,af y.is.l] 107):=(by rw [hW1];exact au _ _ rfl);have xj:aq w3 W1:=aF hb hb1 hzb;have hzn:=xj.size;obtain⟨q0,q1,q2,q3,q4,q5,q6⟩:(W1,wr.heap.size,0,y.key)/\(W1,wr.heap.size,1,y.is.c)/\(W1,wr.heap.size,2,y.is.s)/\(W1,wr.heap.size,3,y.is.mi)/\(W1,wr.heap.size,4,y.is.ma)/\(W1,wr.heap.size,5,y.is.t)/\(W1,wr.heap.size,6,y.is.l):=(by simp [World.cell?,k1]);have hown1:OwnRows w3 W1 (ah so os sc2) os:=hown.below hb1 aO;clear jF h5 hy hM hos;go_upto_region 18 with (fail);rw [<-hW1];clear hW1 k1 hown y0 y1 y2 y3 y4 y5 y6;go_wp2_with ((at_builtin;refine xH rfl (.tmp 66) (.tmp 73) rfl w3 _ os rfl Gm ⟨_,0,none⟩ ⟨M,y.is⟩ rfl (fun j u h=>ik h) hlo dI ?_;intro v4 w4 Cl hg4;have hb4:=hg4 w3 w3 aj aO));go_roundg (ms-(j+1))
        case measure=>omega
        case rel=>exact⟨j+1,ai,rfl,by go_num,by rw [Ev];exact Cl,hb4⟩
       ·have hall:ms.take j=ms:=iM ai;rw [hall]at hown;clear hall;go_wp2
        go_ret2
        rw [HR.1,HR.2,HL];exact⟨cT,_,rfl,hown.mono zJ.size⟩
   ·have htd:decide (dA a z)=false:=(by simp [hr]);rw [htd]at HT;have HR:=ag (uu (s:=s) e1 hk FW hr);clear e1 e2 e3 hr htd FW;go_wp2_with (first|(go_at_call 72;(with_reducible refine(PY.out _ hb1).mono ?_);rintro e w2 ⟨rfl,hw2⟩;obtain rfl:=hw2.symm)|(go_at_call 73;(with_reducible refine(HT.out _).mono ?_);rintro e w2 ⟨rfl,hw2⟩;obtain rfl:=hw2.symm))
    go_ret2
    rw [HR.1,HR.2];exact⟨xh,_,rfl,OwnRows.nil _ _⟩
  ·have HR:=ag (wX (a:=a) (z:=z) e1 ⟨n1,n2,n3⟩);rw [hi]at PY;clear e1 e2 e3 n1 n2 n3 hi;go_wp2_with ((go_at_call 72;(with_reducible refine(PY.out _ hb1).mono ?_);rintro e w2 ⟨rfl,hw2⟩;obtain rfl:=hw2.symm))
   go_ret2
   rw [HR.1,HR.2];exact⟨xh,_,rfl,OwnRows.nil _ _⟩
end
section
variable {b:Ba} {s:ByteArray} {n a z:Int} {m:List aH}
theorem QE {l:List aH} (h1:cx b=some l) (h2:bw l n=some m):rP b s n a z=(m.filter (im (bt b.names s) a z)).map rowOf:=by
 unfold rP;rw [h1];simp only;rw [h2]
theorem Br (n a z:Int) (w:World):Calls Tryz.prog 51 #[af n,af a,af z] w fun e w'=>e = .returned (.bool (mn n a z))/\w'=w:=(dH n a z w).mono fun _ _ h=>⟨h.1,h.2.symm⟩
theorem AA {f:aH->Bool} {j:Nat} (hj:j<m):(m.take (j+1)).filter f=(m.take j).filter f++(if f m[j]=true then [m[j]]else []):=by
 rw [ja hj,qH]
 congr 1
 by_cases h:f m[j]=true
 ·rw [aw h,uS h,List.filter_nil]
 ·rw [ar h,uR h,List.filter_nil]
theorem Hu {v:Value} {w:World} (h:bR w v b) (hst:∀s∈b.names,s.size<=140737488351232) :
  Calls Tryz.prog 21 #[v, .string s,af n,af a,af z] w (J3 w w (pn b s n a z) (eD b s n a z)):=by
 have tM:=ag fun w' (hb:aq w w')=>tP (s:=s) (h.below hb) hst;have Ew:=ag fun w' (hb:aq w w')=>sy (h.below hb);obtain⟨sa,sc,g0,l0,p0,g1,l1,p1,g2,l2,p2,rfl,hn,dE,T0,T1,T2⟩:=h.open;obtain⟨W0,hW0⟩:=cd (w.alloc (.cells (aL sa b.names sc g0 l0 p0 g1 l1 p1 g2 l2 p2 b) 30));have hb0:aq w W0:=by rw [hW0];exact aj
 have hz0:W0=w.heap.size+1:=by rw [hW0];simp
 have k0:W0.heap[w.heap.size]?=some (.cells (aL sa b.names sc g0 l0 p0 g1 l1 p1 g2 l2 p2 b) 30):=by rw [hW0];exact au _ _ rfl
 have HX:=ag fun w' (hb:aq W0 w')=>(by
  have b0:w'.heap[w.heap.size]?=_:=(hb.block _ ai).trans k0;simp [World.cell?,b0] :
  w'.cell? (w,0)=some (ah sa b.names sc)/\w'.cell? (w,1)=some (ah g0 l0 p0)/\(w',w.heap.size,2,b.t0.root)/\w'.cell? (w,3)=some (ah g1 l1 p1)/\(w',w.heap.size,4,b.t1.root)/\w'.cell? (w,5)=some (ah g2 l2 p2)/\(w',w.heap.size,6,b.t2.root)/\(w',w.heap.size,7,b.floor))
 have HB:=ag fun w' (hb:aq W0 w')=>(aF hb0 hb hb0.size:aq w w');obtain⟨x0,x1,x2,x3,x4,x5,x6,x7⟩:=HX W0 (aW _ _);have tU:=ag fun w' (hb:aq W0 w')=>lR (s:=s) (dE.below (HB w' hb) aO);clear h hst dE T0 T1 T2;go_enter Tryz.func21,Tryz.ntmps21;go_upto_region 1 with (fail);rw [<-hW0];clear hW0 k0;rcases jx b s with ⟨e1,e2⟩|⟨e1,e2,e3⟩|⟨e1,e2,p,hp,e3⟩
 ·obtain⟨r1,r2⟩:=mL (n:=n) (a:=a) (z:=z) (show cj b s≠0 by omega);have HR:=ag (aJ (r1.trans e1) r2);rw [e1]at tM;clear e1 e2 r1 r2;go_wp2_with ((go_at_call 50;(with_reducible refine(tM.out _ hb0).mono ?_);rintro e w1 ⟨rfl,hb1⟩))
  go_ret2
  rw [HR.1,HR.2];exact⟨HB _ hb1,_,rfl,OwnRows.nil _ _⟩
 ·obtain⟨r1,r2⟩:=mL (n:=n) (a:=a) (z:=z) (show cj b s≠0 by omega);have HR:=ag (aJ (r1.trans e1) r2);rw [e1]at tM;clear e1 e2 e3 r1 r2;go_wp2_with ((go_at_call 50;(with_reducible refine(tM.out _ hb0).mono ?_);rintro e w1 ⟨rfl,hb1⟩))
  go_ret2
  rw [HR.1,HR.2];exact⟨HB _ hb1,_,rfl,OwnRows.nil _ _⟩
 ·rw [e1]at tM;go_upto_region 2 with ((go_at_call 50;(with_reducible refine(tM.out _ hb0).mono ?_);rintro e w1 ⟨rfl,hb1⟩;obtain⟨x0,x1,x2,x3,x4,x5,x6,x7⟩:=HX _ hb1));have xh:=HB _ hb1;rcases uq n with ⟨k,hk,FW,hi⟩|⟨n1,n2,n3,hi⟩
  ·have Dz:=ag e1;have lu:=fun w'=>Br a 0 z w';by_cases hr:dA a z
   ·obtain⟨hr1,hr2,hr3⟩:=id hr;have i1:mn a 0 z=true:=(by simp [mn];omega);have i2:decide ((1048575:Int)<z)=false:=(by simp;omega);rw [i1]at lu;have HI:=ag lu;obtain⟨l,hl,hlr,Qa,hlt⟩:=fJ e2;obtain⟨m,q1,q2⟩:=hlt k hk;rw [<-FW]at q1;have HL:=ag (show rP b s n a z=(m.filter (im p a z)).map rowOf by rw [QE hl q1,e3]);have HMG:=ag (fg q2);have zH:m.length<=50000:=(fg q2).2.2.2;have Tm:=ag (Ew w1 xh);rw [hl]at Tm;have Th:=ag Qa;have hll:l.length<=50000:=Qa.2.2;have Zz:=ag fun w' v (h:cX w' v l)=>pY (size:=n) h Th (by have:=ly hk FW;omega) (by have:=ly hk FW;omega);rw [q1]at Zz;have VP:=ag FW;have rM:=ag hr;rw [e3]at tU;clear hl hlr Qa hlt q1 q2 i1 lu hr hr1 hr2 hr3 e1 e2 e3 hi tM Ew FW;go_cut [12,33] (fun c t wx=>c=af 0/\t = .bool false/\wx=w1)
    case first=>
     have h3:=ly hk VP;clear VP HL Zz rM;rcases h3 with rfl|rfl|rfl
     all_goals
      go_wp2;go_meet;exact⟨rfl,rfl,rfl⟩
    case rest=>
     obtain⟨rfl,rfl,hwc⟩:=hcut;obtain rfl:=hwc.symm;go_upto_region 9 with (first|(go_at_call 51;(with_reducible refine(HI.out _).mono ?_);rintro e w2 ⟨rfl,hw2⟩;obtain rfl:=hw2.symm)|(go_at_call 25;(with_reducible refine Tm.out.mono ?_);rintro e w5 ⟨cy,v5,rfl,fY⟩;have lI:=aF hb1 cy hb1.size;obtain⟨s5,c5,rfl⟩:=fY.isSlice;have HRW:=ag (Zz w5 _ (fY.at ai))));clear x0 x1 x2 x3 x4 x5 x6 x7;go_upto_region 12 with ((go_at_call 43;(with_reducible refine HRW.out.mono ?_);rintro e w6 ⟨ji,v6,rfl,sM⟩;have R7:=aF lI ji lI.size;obtain⟨s6,c6,rfl⟩:=sM.isSlice));have DG:=ag (sM.at ai);have YJ:=HB _ R7;clear sM
     go_loopg [15,16] m (fun g out i wr=>∃j:Nat,j<=m/\g=m-j/\i=af j/\OwnRows w6 wr out (((m.take j).filter (im p a z)).map rowOf)/\aq w6 wr)
     case atStart=>exact⟨0,eY _,rfl,rfl,OwnRows.nil _ _,aW _ _⟩
     case round=>
      obtain⟨j,hj,rfl,rfl,hown,hb⟩:=hrel;have hzb:=hb.size;have cT:=aF YJ hb YJ.size;have Po:=aF R7 hb R7.size;obtain⟨x0,-⟩:=HX _ Po;by_cases hlt:j<m
      ·obtain⟨_,_,hv,-,-,-,-,h5⟩:=DG.out;injection hv with hv1 _ hv3;subst hv1 hv3;obtain⟨eb,cM,ll,pq,jF⟩:=h5 ai;subst ll;obtain⟨y0,y1,y2,y3,y4,y5,y6⟩:=br hb pq jF hlt;obtain⟨y,hy⟩:=bG (m[j]);rw [hy]at y0 y1 y2 y3 y4 y5 y6;obtain⟨iy,hk1⟩:=HMG.2.2.1 y (by rw [<-hy];exact eZ hlt);have zZ:=ag (AA (f:=im p a z) hlt);rw [hy]at zZ;obtain⟨M,hM⟩:=bG (y.key%1048576);obtain⟨Q,hQ⟩:=bG (y.key/1048576);have hinr:im p a z y=(decide (Q=p) && mn M a z):=(by simp [im,hM,hQ]);have m1:y.key.tmod 1048576=M:=(by rw [tJ iy];exact hM);have m2:y.key.tdiv 1048576=Q:=(by rw [Dw iy];exact hQ);have m4:IntKind.i64.wrap M=M:=bI _ ai;have m5:IntKind.i64.wrap Q=Q:=bI _ ai;have hlo:(((m.take j).filter (im p a z)).map rowOf).length<=1000000:=by
        rw [oX];have:=ub (im p a z) (m.take j);rw [gh]at this;omega
       have jA:=fun w'=>cN (ab:=eb) (aR:=cM) (n:=m.length) (cap:=c6) (show (j:Int)=((j:Nat):Int) by rfl) hlt w';have hwz:eb<wr:=ai;obtain⟨os,hos⟩:=bG (((m.take j).filter (im p a z)).map rowOf);rw [hos]at hown hlo;obtain⟨so,sc2,rfl⟩:=hown.isSlice;have MQ:=fun w'=>Br M a z w';by_cases hq:Q=p
       ·have e1:(Q == (p:Int))=true:=(by simp [hq]);by_cases hm:mn M a z=true
        ·have Ev:=ag (show ((m.take (j+1)).filter (im p a z)).map rowOf=os++[⟨M,y.is⟩] by rw [zZ,aw (by rw [hinr];simp [hq,hm]),sH,hos];simp [rowOf,hM]);rw [hm]at MQ;have MP:=ag MQ;clear jF h5 hy hM hQ hos hq hm hinr MQ;go_upto_region 14 with (fail);go_quiet (first|(go_at_call 48;refine Calls.quiet_of_same (tU _ ?_);exact aj)|(go_at_call 51;exact Calls.quiet_of_same (MP _)));go_upto_region 15 with (fail);generalize hW2:wr.drewN _=W2;have hown2:OwnRows w6 W2 (ah so os sc2) os:=(by rw [<-hW2];exact hown.drewN _);have hb2:aq w6 W2:=(by rw [<-hW2];exact aj);have hz2:=hb2.size;have z0:W2.cell? (eb,cM+j*7)=some (af y.key):=(by rw [<-hW2];exact y0);have z1:W2.cell? (eb,cM+j*7+1)=some (af y.is.c):=(by rw [<-hW2];exact y1);have z2:W2.cell? (eb,cM+j*7+2)=some (af y.is.s):=(by rw [<-hW2];exact y2);have z3:W2.cell? (eb,cM+j*7+3)=some (af y.is.mi):=(by rw [<-hW2];exact y3);have z4:W2.cell? (eb,cM+j*7+4)=some (af y.is.ma):=(by rw [<-hW2];exact y4);have z5:W2.cell? (eb,cM+j*7+5)=some (af y.is.t):=(by rw [<-hW2];exact y5);have z6:W2.cell? (eb,cM+j*7+6)=some (af y.is.l):=(by rw [<-hW2];exact y6);clear hW2 hown y0 y1 y2 y3 y4 y5 y6 x0 e1
         go_region_law (refine AU rfl (.tmp 88) (.tmp 101) rfl w6 _ os rfl Gm ⟨_,0,none⟩ ⟨M,y.is⟩ rfl (fun j u h=>ik h) hlo dI ?_;intro v4 w4 Cl hg4;have hb4:=hg4 w6 w6 aj aO)
         all_goals
          go_wp2;go_roundg (m-(j+1))
          case measure=>omega
          case rel=>exact⟨j+1,ai,rfl,by go_num,by rw [Ev];exact Cl,hb4⟩
        ·have hm:mn M a z=false:=(by simpa using hm);have Ev:=ag (show ((m.take (j+1)).filter (im p a z)).map rowOf=os by rw [zZ,ar (by rw [hinr];simp [hm]),nQ,hos]);rw [hm]at MQ;have MP:=ag MQ;clear jF h5 hy hM hQ hos hq hm hinr MQ;go_upto_region 14 with (fail);go_quiet (first|(go_at_call 48;refine Calls.quiet_of_same (tU _ ?_);exact aj)|(go_at_call 51;exact Calls.quiet_of_same (MP _)));go_wp2;go_roundg (m-(j+1))
         case measure=>omega
         case rel=>exact⟨j+1,ai,rfl,by go_num,by rw [Ev];exact Gm,aj⟩
       ·have e1:(Q == (p:Int))=false:=(by simp [hq]);have Ev:=ag (show ((m.take (j+1)).filter (im p a z)).map rowOf=os by rw [zZ,ar (by rw [hinr];simp [hq]),nQ,hos]);clear jF h5 hy hM hQ hos hq hinr MQ;go_upto_region 14 with (fail);go_quiet (first|(go_at_call 48;refine Calls.quiet_of_same (tU _ ?_);exact aj)|fail);go_wp2;go_roundg (m-(j+1))
        case measure=>omega
        case rel=>exact⟨j+1,ai,rfl,by go_num,by rw [Ev];exact Gm,aj⟩
      ·have hall:m.take j=m:=iM ai;rw [hall]at hown;obtain⟨os,hos⟩:=bG ((m.filter (im p a z)).map rowOf);have HOS:=ag (HL.trans hos);rw [hos]at hown;obtain⟨so,sc2,rfl⟩:=hown.isSlice;clear hall hos;by_cases hl:500<os.length
       ·have O9:decide ((500:Int)<(os.length:Int))=true:=(by simp;omega);have HR:=ag (Cb Dz hk VP rM (by rw [HOS];exact hl));clear hl;go_wp2
        go_ret2
        rw [HR.1,HR.2];exact⟨cT,_,rfl,OwnRows.nil _ _⟩
       ·have O9:decide ((500:Int)<(os.length:Int))=false:=(by simp;omega);have HR:=ag (Hm Dz hk VP rM (by rw [HOS];exact hl));clear hl;go_wp2
        go_ret2
        rw [HR.1,HR.2,HOS];exact⟨cT,_,rfl,hown.mono YJ.size⟩
   ·have HR:=ag (uu (s:=s) e1 hk FW hr);have h3:=ly hk FW;by_cases i1:mn a 0 z=true
    ·have i2:decide ((1048575:Int)<z)=true:=by
      have:0<=a/\a<=z:=(by simpa [mn] using i1);simp;exact Int.not_le.1 fun h=>hr ⟨this.1,this.2,h⟩
     rw [i1]at lu;have HI:=ag lu;clear e1 e2 e3 hr FW i1 lu;rcases h3 with rfl|rfl|rfl
     all_goals
      go_wp2_with ((go_at_call 51;(with_reducible refine(HI.out _).mono ?_);rintro e w2 ⟨rfl,hw2⟩;obtain rfl:=hw2.symm))
      go_ret2
      rw [HR.1,HR.2];exact⟨xh,_,rfl,OwnRows.nil _ _⟩
    ·have i1:mn a 0 z=false:=(by simpa using i1);rw [i1]at lu;have HI:=ag lu;clear e1 e2 e3 hr FW i1 lu;rcases h3 with rfl|rfl|rfl
     all_goals
      go_wp2_with ((go_at_call 51;(with_reducible refine(HI.out _).mono ?_);rintro e w2 ⟨rfl,hw2⟩;obtain rfl:=hw2.symm))
      go_ret2
      rw [HR.1,HR.2];exact⟨xh,_,rfl,OwnRows.nil _ _⟩
  ·have HR:=ag (wX (a:=a) (z:=z) e1 ⟨n1,n2,n3⟩);have g1:(n != 1)=true:=by simpa using n1
   have g2:(n != 60)=true:=by simpa using n2
   have g3:(n != 3600)=true:=by simpa using n3
   clear e1 e2 e3 n1 n2 n3 hi;go_wp2
   go_ret2
   rw [HR.1,HR.2];exact⟨xh,_,rfl,OwnRows.nil _ _⟩
end
section
variable {p lo hi:Int} {l:List aH} {a T U:ax}
def bj:List aH->ax
 |[]=>ax.zero
 |e::l=>e.is.join (bj l)
theorem dg (h:je l):(bj l).kO:=by
 induction l with
 |nil=>exact zM
 |cons e l ih=>exact kq h.cons.1 (ih h.cons.2)
theorem mO {a b:List aH} (ha:je a) (hb:je b):bj (a++b)=(bj a).join (bj b):=by
 induction a with
 |nil=>exact(fB (dg hb)).symm
 |cons e l ih=>
  have:=ha.cons;simp only [List.cons_append,bj];rw [ih this.2,join_assoc this.1 (dg this.2) (dg hb)]
theorem IJ {x:aH} (h:je l) (hx:x.is.kO):bj (ins l x)=(bj l).join x.is:=by
 induction l with
 |nil=>simp only [ins,bj];rw [dN,fB hx]
 |cons e l ih=>
  have hc:=h.cons;have hf:=dg hc.2;unfold ins
  split
  ·simp only [bj];rw [ih hc.2,join_assoc hc.1 hf hx]
  ·split
   ·simp only [bj];rw [join_assoc hc.1 hx hf,join_assoc hc.1 hf hx,join_comm hx hf]
   ·simp only [bj];rw [join_comm (kq hc.1 hf) hx]
theorem Ed:∀{m:List aH},aY m/\bQ m->bQ l->bj (l.foldl ins m)=(bj m).join (bj l):=by
 induction l with
 |nil=>intro m hm _;simp only [List.foldl_nil,bj];rw [dN]
 |cons x l ih=>
  intro m hm hl;have hc:=hl.cons;rw [List.foldl_cons,ih ⟨lH hm.1,lV hm.2 hc.1⟩ hc.2,IJ hm.2.dV (.inr hc.1)];simp only [bj];rw [join_assoc (dg hm.2.dV) (.inr hc.1) (dg hc.2.dV)]
theorem IK (h:bQ l):bj (pH l)=bj l:=by
 have:=Ed (m:=[]) ⟨List.Pairwise.nil,fun _ h=>by cases h⟩ h;unfold pH;rw [this];exact fB (dg h.dV)
theorem II {f:aH->aH} (hf:∀e,(f e).is=e.is) (l:List aH):bj (l.map f)=bj l:=by
 induction l with
 |nil=>rfl
 |cons e l ih=>simp only [List.map_cons,bj];rw [ih,hf]
theorem tC (h:je l) (p:aH->Bool):je (l.filter p):=fun e he=>h e (nt.1 he).1
theorem Ec (h:je l) {p q r:aH->Bool} (hr:∀e∈l,r e=(p e || q e)) (hd:∀e∈l,¬(p e=true/\q e=true)) :
  bj (l.filter r)=(bj (l.filter p)).join (bj (l.filter q)):=by
 induction l with
 |nil=>simp only [List.filter_nil,bj];rw [dN]
 |cons e l ih=>
  have hc:=h.cons;have ih:=ih hc.2 (fun x hx=>hr x (by simp [hx])) (fun x hx=>hd x (by simp [hx]));have h1:=hr e bh;have h2:=hd e bh;have fp:=dg (tC hc.2 p);have fq:=dg (tC hc.2 q)
  cases hp:p e with
  |true=>
   cases hq:q e with
   |true=>exact absurd ⟨hp,hq⟩ h2
   |false=>
    rw [hp,hq]at h1;rw [uS (by simpa using h1),uS hp,uR (by simp [hq])];simp only [bj];rw [ih,join_assoc hc.1 fp fq]
  |false=>
   cases hq:q e with
   |true=>
    rw [hp,hq]at h1;rw [uS (by simpa using h1),uR (by simp [hp]),uS hq];simp only [bj];rw [ih,<-join_assoc fp hc.1 fq,join_comm fp hc.1,join_assoc hc.1 fp fq]
   |false=>
    rw [hp,hq]at h1;rw [uR (by simp [h1]),uR (by simp [hp]),uR (by simp [hq]),ih]
def gS (l:List aH) (p lo hi:Int):ax:=bj (l.filter (aV (p*1048576+lo) (p*1048576+hi)))
theorem Oy (h:hi<=lo):gS l p lo hi=ax.zero:=by
 unfold gS;rw [List.filter_eq_nil_iff.2 fun e _=>by simp [aV];omega];rfl
theorem vG (h:je l) (p lo hi:Int):(gS l p lo hi).kO:=dg (tC h _)
theorem Cj (h:je l) {mid:Int} (h1:lo<=mid) (h2:mid<=hi):gS l p lo hi=(gS l p lo mid).join (gS l p mid hi):=by
 unfold gS;refine Ec h (fun e _=>?_) fun e _=>?_
 ·rw [Bool.eq_iff_iff];simp [aV];omega
 ·simp [aV];omega
theorem Ao {m:List aH} {k:Nat} (hg:dX l) (hm:bw l (bp k)=some m) (h0:0<=lo) (h1:hi<=1048576) (h2:lo%bp k=0) (h3:hi%bp k=0) :
  bj (m.filter (aV (p*1048576+lo) (p*1048576+hi)))=gS l p lo hi:=by
 unfold bw at hm;have hgb:=eF (eB k) hg;have hb:=uN hgb.1 hm fun x=>decide (p*1048576+lo<=x) && decide (x<p*1048576+hi);obtain⟨h4,_,_,_,_⟩:=fL (iX hgb.1) hb;have e1:m.filter (aV (p*1048576+lo) (p*1048576+hi))=m.filter (fun e=>decide (p*1048576+lo<=e.key) && decide (e.key<p*1048576+hi)):=rfl;rw [e1,h4,IK (mQ hgb.1.cp _),List.filter_map,II (f:=bucket (bp k)) (fun _=>rfl)];unfold gS
 congr 1
 refine List.filter_congr fun e he=>?_;have hk:=hg.2.1 e he;show (decide (p*1048576+lo<=e.key-e.key%1048576%bp k) && decide (e.key-e.key%1048576%bp k<p*1048576+hi))=aV _ _ e;unfold aV;rw [Bool.eq_iff_iff];simp only [Bool.and_eq_true,Du];have hm0:=Int.emod_nonneg e.key (show (1048576:Int)≠0 by decide);have LP:=Int.emod_lt_of_pos e.key (show (0:Int)<1048576 by decide);have hr0:=Int.emod_nonneg (e.key%1048576) (show bp k≠0 by have:=eB k;omega);have hr1:=mod_le hm0 (eB k);rcases Int.lt_trichotomy (e.key/1048576) p with h|h|h
 ·omega
 ·subst h;have e2:e.key=e.key/1048576*1048576+e.key%1048576:=ai;generalize e.key/1048576=q at *;generalize e.key%1048576=m at *;rw [e2];unfold bp at *
  split at h2
  ·rename_i iy;rw [aw iy]at *;omega
  ·rename_i iy
   split at h2
   ·rename_i hk1;rw [ar iy,aw hk1]at *;omega
   ·rename_i hk1;rw [ar iy,ar hk1]at *;omega
 ·omega
def bZ (a T:ax):Option ax:=if a.c+T.c<=1073741824 then some (a.join T)else none
theorem Ar (ha:a.kO) (hT:T.kO) (hU:U.kO):(bZ a T).bind (fun r=>bZ r U)=bZ a (T.join U):=by
 have h1:=dO a T;have h2:=dO T U;have h3:=hU.pos;unfold bZ;by_cases h:a.c+T.c<=1073741824
 ·rw [aw h];show (if (a.join T).c+U.c<=1073741824 then _ else _)=_;rw [h1,h2,join_assoc ha hT hU];by_cases h':a.c+T.c+U.c<=1073741824
  ·rw [aw h',aw ai]
  ·rw [ar h',ar ai]
 ·rw [ar h,ar ai];rfl
theorem ye (hU:U.kO) (h:bZ a T=none):bZ a (T.join U)=none:=by
 have h2:=dO T U;have h3:=hU.pos;unfold bZ at *
 split at h
 ·cases h
 ·rw [ar ai]
theorem FO (h:a.c<=1073741824):bZ a ax.zero=some a:=by
 unfold bZ;rw [aw (by show a.c+0<=1073741824;omega),dN]
theorem xZ {r:ax} (ha:a.kO) (hT:T.kO) (h:bZ a T=some r):r.kO/\r.c<=1073741824:=by
 unfold bZ at h
 split at h
 ·simp only [iJ]at h;subst h;exact⟨kq ha hT,by rw [dO];omega⟩
 ·cases h
noncomputable def mH (b:Ba) (s:ByteArray) (a z:Int):Int:=
 if cj b s≠0 then cj b s else if ¬dA a z then 2 else match cx b with|none=>0|some l=>match bZ ax.zero (gS l (bt b.names s) a (z+1)) with|none=>1|some _=>0
noncomputable def mG (b:Ba) (s:ByteArray) (a z:Int):ax:=
 if cj b s≠0 then ax.zero else if ¬dA a z then ax.zero else match cx b with|none=>ax.zero|some l=>match bZ ax.zero (gS l (bt b.names s) a (z+1)) with|none=>ax.zero|some r=>r
end
section
variable {b:Ba} {lo hi:Int} {l:List aH} {ob:Nat} {w:World}
structure SV (W:World) (bb ib ob:Nat) (b:Ba) (l:List aH) (p:Nat) (sa:Option Addr) (sc:Nat) (g0:Option Addr) (l0 p0:Nat) (g1:Option Addr) (l1 p1:Nat) (g2:Option Addr) (l2 p2:Nat):Prop where
 bo:bb<ob
 io:ib<ob
 oW:ob<W
 base:W.heap[bb]?=some (.cells (aL sa b.names sc g0 l0 p0 g1 l1 p1 g2 l2 p2 b) 30)
 ix:W.heap[ib]?=some (.cells #[af p] 3)
 tr0:∀w',Below ob W w'->di w' (.agg #[ah g0 l0 p0,af b.t0.root]) b.t0
 tr1:∀w',Below ob W w'->di w' (.agg #[ah g1 l1 p1,af b.t1.root]) b.t1
 tr2:∀w',Below ob W w'->di w' (.agg #[ah g2 l2 p2,af b.t2.root]) b.t2
 sizes:∀w',Below ob W w'->cI w'
 may:aS b=true
 book:cx b=some l
 small:p<16
def J2 (W:World) (ob:Nat) (r:ax) (w:World):Prop:=Below ob W w/\w.heap[ob]?=some (.cells #[af r.c,af r.s,af r.mi,af r.ma,af r.t,af r.l] 39)
def gL (W:World) (ob:Nat) (a T:ax) (e:Ending) (w':World):Prop:=
 ∃r,J2 W ob r w'/\match bZ a T with|none=>e = .returned (af 1)|some r'=>r'=r/\e = .returned (af 0)
theorem aA.at {a:World} (h:aA (fun x=>x=ob) a w) (o:Nat) (u:Value):aA (fun x=>x=ob) a (w.setCell (ob,o) u):=h.setCell (.inl rfl) u
theorem A7 (h:je l) (j:Nat):(bj (l.take j)).c<=(bj l).c:=by
 have h1:bj l=(bj (l.take j)).join (bj (l.drop j)):=by
  conv=>lhs;rw [<-rG j l]
  exact mO (fun e he=>h e (uQ he)) (fun e he=>h e (uP he))
 have h2:=(dg (l:=l.drop j) fun e he=>h e (uP he)).pos;rw [h1,dO];omega
theorem FP (h:je l) {j:Nat} (hj:j<l):bj (l.take (j+1))=(bj (l.take j)).join l[j].is:=by
 rw [ja hj,mO (fun e he=>h e (uQ he)) (fun e he=>by simp at he;subst he;exact h _ (eZ _))];simp only [bj];rw [dN]
theorem Qu {k p:Nat} (hm:aS b=true) (hl:cx b=some l) (hk:k<3) (h0:0<=lo) (h1:hi<=1048576) (h2:lo%bp k=0/\hi%bp k=0) :
  ∃ms,aC (b.tree k)=0/\mz (b.tree k) ((p:Int)*1048576+lo) ((p:Int)*1048576+hi)=some ms/\bj ms=gS l p lo hi/\(∀e∈ms,av e.is=0)/\ms.length<=50000:=by
 obtain⟨l',hl',_,hg,ht⟩:=fJ hm;rw [hl]at hl';simp only [iJ]at hl';subst hl';obtain⟨m,e1,e2⟩:=ht k hk;obtain⟨e3,e4⟩:=JY e2 ((p:Int)*1048576+lo) ((p:Int)*1048576+hi);refine⟨_,e3,e4,Ao hg e1 h0 h1 h2.1 h2.2,fun e he=>((fg e2).2.1 e (nt.1 he).1).2,fZ (ub _ _) (fg e2).2.2.2⟩
theorem BS {W:World} {bb ib:Nat} {p:Nat} {sa:Option Addr} {sc:Nat} {g0:Option Addr} {l0 p0:Nat} {g1:Option Addr} {l1 p1:Nat} {g2:Option Addr} {l2 p2:Nat}
  (HW:SV W bb ib ob b l p sa sc g0 l0 p0 g1 l1 p1 g2 l2 p2) {k:Nat} (hk:k<3) (h0:0<=lo) (hlo:lo<=1048576) (h1:0<=hi) (hhi:hi<=1048576) (h2:lo<hi->lo%bp k=0/\hi%bp k=0) {a:ax} (ha:av a=0) (hs:J2 W ob a w) :
  Calls Tryz.prog 75 #[af k,af lo,af hi, .pointer (some (bb,0)), .pointer (some (ib,0)), .pointer (some (ob,0))] w (gL W ob a (gS l p lo hi)):=by
 obtain⟨cT,ni⟩:=id hs;obtain⟨Ko,hio,hoW,hbase,jA,tr0,tr1,tr2,-,tX,yF,hsm⟩:=HW;have Wo:=cT.size;have HS:=ag hs;have HA:=ag ha;by_cases hlt:lo<hi
 ·have O9:decide (hi<=lo)=false:=by simp;omega
  obtain⟨ms,q1,q2,q3,q4,q5⟩:=Qu (p:=p) tX yF hk h0 hhi (h2 hlt);obtain⟨lo',Yj⟩:=bG ((p:Int)*1048576+lo);obtain⟨hi',Yt⟩:=bG ((p:Int)*1048576+hi);rw [Yj,Yt]at q2;have m1:IntKind.i64.wrap ((p:Int)*1048576)=(p:Int)*1048576:=bI _ ai;have m2:IntKind.i64.wrap ((p:Int)*1048576+lo)=lo':=by rw [Yj];exact bI _ ai
  have m3:IntKind.i64.wrap ((p:Int)*1048576+hi)=hi':=by rw [Yt];exact bI _ ai
  have HQ1:=ag q1;have TY:=ag q2;have Kw:=ag q3;have HQ4:=ag q4;have MS:=ag (show je ms from fun e he=>((fG _).1 (q4 e he)).1);have HFA:=ag ((fG a).1 ha);obtain⟨b0,b1,b2,b3,b4,b5⟩:w.cell? (bb,1)=some (ah g0 l0 p0)/\(w,bb,2,b.t0.root)/\w.cell? (bb,3)=some (ah g1 l1 p1)/\(w,bb,4,b.t1.root)/\w.cell? (bb,5)=some (ah g2 l2 p2)/\(w,bb,6,b.t2.root):=by
   have b0:w.heap[bb]?=_:=(cT.block _ Ko).trans hbase;simp [World.cell?,b0]
  have i0:w.cell? (ib,0)=some (af p):=by
   have b0:w.heap[ib]?=_:=(cT.block _ hio).trans jA;simp [World.cell?,b0]
  have Qg:=ag fun w' lo hi (hb:Below ob W w')=>lq (lo:=lo) (hi:=hi) (tr0 w' hb);have S9:=ag fun w' lo hi (hb:Below ob W w')=>lq (lo:=lo) (hi:=hi) (tr1 w' hb);have uW:=ag fun w' lo hi (hb:Below ob W w')=>lq (lo:=lo) (hi:=hi) (tr2 w' hb);clear q1 q2 q3 q4 Yj Yt hlt h0 hlo h1 hhi h2 tX yF hbase jA tr0 tr1 tr2 hs ha;go_enter Tryz.func75,Tryz.ntmps75;go_upto_region 3 with (fail);clear O9;go_cut [10,11] (fun u c wx=>∃su sd,u=ah su ms sd/\c=af 0/\ay w wx (ah su ms sd) ms/\aq w wx)
  case first=>
   obtain rfl|rfl|rfl:k=0\/k=1\/k=2:=ai
   ·have GI:=ag (Qg w.drew lo' hi' cT.drew);refine iw 12 _ rfl cV cV ?_
    (simp only [List.take_succ_cons,List.take_zero,List.drop_succ_cons,List.drop_zero];(repeat ((with_reducible refine qx (fun K hK=>?_));go_simp;(with_reducible refine hK _ ?_);clear hK K));(with_reducible refine qw ?_))
    intro K hK;go_simp
    (with_reducible refine GI.out.mono ?_);rintro e w5 ⟨cy,-,hok⟩
    have hok:=hok HQ1;rw [show mz b.t0 lo' hi'=some ms from TY]at hok;obtain⟨v5,rfl,fY⟩:=hok;obtain⟨su,sd,rfl⟩:=fY.isSlice;go_simp;refine hK _ _ ?_;clear hK K
    ((repeat ((with_reducible refine qx (fun K hK=>?_));go_simp;(with_reducible refine hK _ ?_);clear hK K));(with_reducible refine qw ?_))
    all_goals
     go_wp2;go_meet;exact⟨_,_,rfl,rfl,fY,aF (aW _ _).drew cy aO⟩
   ·have GI:=ag (S9 w.drew lo' hi' cT.drew);refine iw 12 _ rfl cV cV ?_
    (simp only [List.take_succ_cons,List.take_zero,List.drop_succ_cons,List.drop_zero];(repeat ((with_reducible refine qx (fun K hK=>?_));go_simp;(with_reducible refine hK _ ?_);clear hK K));(with_reducible refine qw ?_))
    intro K hK;go_simp
    (with_reducible refine GI.out.mono ?_);rintro e w5 ⟨cy,-,hok⟩
    have hok:=hok HQ1;rw [show mz b.t1 lo' hi'=some ms from TY]at hok;obtain⟨v5,rfl,fY⟩:=hok;obtain⟨su,sd,rfl⟩:=fY.isSlice;go_simp;refine hK _ _ ?_;clear hK K
    ((repeat ((with_reducible refine qx (fun K hK=>?_));go_simp;(with_reducible refine hK _ ?_);clear hK K));(with_reducible refine qw ?_))
    all_goals
     go_wp2;go_meet;exact⟨_,_,rfl,rfl,fY,aF (aW _ _).drew cy aO⟩
   ·have GI:=ag (uW w.drew lo' hi' cT.drew);refine iw 12 _ rfl cV cV ?_
    (simp only [List.take_succ_cons,List.take_zero,List.drop_succ_cons,List.drop_zero];(repeat ((with_reducible refine qx (fun K hK=>?_));go_simp;(with_reducible refine hK _ ?_);clear hK K));(with_reducible refine qw ?_))
    intro K hK;go_simp
    (with_reducible refine GI.out.mono ?_);rintro e w5 ⟨cy,-,hok⟩
    have hok:=hok HQ1;rw [show mz b.t2 lo' hi'=some ms from TY]at hok;obtain⟨v5,rfl,fY⟩:=hok;obtain⟨su,sd,rfl⟩:=fY.isSlice;go_simp;refine hK _ _ ?_;clear hK K
    ((repeat ((with_reducible refine qx (fun K hK=>?_));go_simp;(with_reducible refine hK _ ?_);clear hK K));(with_reducible refine qw ?_))
    all_goals
     go_wp2;go_meet;exact⟨_,_,rfl,rfl,fY,aF (aW _ _).drew cy aO⟩
  case rest=>
   obtain⟨su,sd,rfl,rfl,mC,hb3⟩:=hcut
   rename World=>w3
   clear b0 b1 b2 b3 b4 b5 i0 m1 m2 m3;have hz3:=hb3.size;have DG:=ag (mC.at ai);have agn:w3.heap[ob]?=_:=(hb3.block _ ai).trans ni;have ahb:Below ob W w3:=aF cT hb3 ai;have HOW:=ag mC;clear mC ni;go_upto_region 5 with (fail)
   go_loopg [11,35] ms (fun g ec i wr=>∃(j:Nat) (ok:Bool) (r:ax),j<=ms/\g=ms-j/\i=af j/\ec=af (if ok=true then 0 else 1)/\Hid (if ok=true then r=a.join (bj (ms.take j))/\r.c<=1073741824 else bZ a (bj ms)=none)/\Hid (wr.heap[ob]?=some (.cells #[af r.c,af r.s,af r.mi,af r.ma,af r.t,af r.l] 39))/\Hid (aA (fun x=>x=ob) w3 wr))
   case atStart=>exact⟨0,true,a,eY _,rfl,rfl,rfl,ag (by rw [aw rfl];exact⟨by simp only [List.take_zero,bj];rw [dN],HFA.2⟩),ag agn,ag (aA.refl _ _)⟩
   case round=>
    obtain⟨j,ok,r,hj,rfl,rfl,rfl,qK,Qj,PW⟩:=hrel;have Z9:=PW.out.size;have hbr:Below ob W wr:=PW.out.below ahb ai (fun i hi=>ai);by_cases hjl:j<ms
    ·obtain⟨_,_,hv,-,-,-,-,h5⟩:=DG.out;injection hv with hv1 _ hv3;subst hv1 hv3;obtain⟨eb,cM,ll,pq,jF⟩:=h5 ai;subst ll;have agX:eb≠ob:=by
      obtain⟨-,⟨-,h0'⟩|⟨g,_,_,hv',hBg,-⟩⟩:=HOW.row
      ·omega
      ·injection hv' with XX _ _;injection XX with XX;injection XX with h1 _;omega
     obtain⟨y0,y1,y2,y3,y4,y5,y6⟩:=br (aW _ _) pq jF hjl;obtain⟨y,hy⟩:=bG (ms[j]);rw [hy]at y0 y1 y2 y3 y4 y5 y6;rw [<-PW.out.cell pq agX]at y0 y1 y2 y3 y4 y5 y6;have NY:=ag (HQ4 y (by rw [<-hy];exact eZ hjl));have zZ:=ag (FP MS hjl);rw [hy]at zZ;have I6:=fun w'=>cN (ab:=eb) (aR:=cM) (n:=ms.length) (cap:=sd) (show (j:Int)=((j:Nat):Int) by rfl) hjl w';have hwz:eb<wr:=ai;obtain⟨W1,hW1⟩:=cd (wr.alloc (.cells #[af y.key,af y.is.c,af y.is.s,af y.is.mi,af y.is.ma,af y.is.t,af y.is.l] 107));have ht1:aA (fun x=>x=ob) w3 W1:=(by rw [hW1];exact PW.out.alloc _);have hz1:W1=wr.heap.size+1:=(by rw [hW1];simp);have hb1:aq wr W1:=(by rw [hW1];exact aj);have k1:W1.heap[wr.heap.size]?=some (.cells #[af y.key,af y.is.c,af y.is.s,af y.is.mi,af y.is.ma,af y.is.t,af y.is.l] 107):=(by rw [hW1];exact au _ _ rfl);obtain⟨q1,q2,q3,q4,q5,q6⟩:(W1,wr.heap.size,1,y.is.c)/\(W1,wr.heap.size,2,y.is.s)/\(W1,wr.heap.size,3,y.is.mi)/\(W1,wr.heap.size,4,y.is.ma)/\(W1,wr.heap.size,5,y.is.t)/\(W1,wr.heap.size,6,y.is.l):=(by simp [World.cell?,k1]);have Xg:=ag ((hb1.block _ ai).trans Qj.out:W1.heap[ob]?=_);obtain⟨o0,o1,o2,o3,o4,o5,-⟩:=cJ Xg;clear jF h5 hy;go_upto_region 7 with (fail);rw [<-hW1];clear hW1 k1 y0 y1 y2 y3 y4 y5 y6
     cases ok with
     |false=>
      go_wp2;go_roundg (ms-(j+1))
      case measure=>omega
      case rel=>exact⟨j+1,false,r,ai,rfl,by go_num,rfl,qK,Xg,ag ht1⟩
     |true=>
      obtain⟨hr1,hr2⟩:=qK.out;have hrc:av r=0:=(fG r).2 ⟨by rw [hr1];exact kq HFA.1 (dg fun e he=>MS e (uQ he)),hr2⟩;by_cases hcc:r.c+y.is.c<=1073741824
      ·have HM:=ag fun w'=>(by have:=lT r y.is w';rw [(qh hrc NY hcc).1]at this;exact this :
        Calls Tryz.prog 15 #[.agg #[af r.c,af r.s,af r.mi,af r.ma,af r.t,af r.l], .agg #[af y.is.c,af y.is.s,af y.is.mi,af y.is.ma,af y.is.t,af y.is.l]] w' fun e' w5=>e' = .returned (.tuple #[.agg #[af (r.join y.is).c,af (r.join y.is).s,af (r.join y.is).mi,af (r.join y.is).ma,af (r.join y.is).t,af (r.join y.is).l],af 0])/\aq w' w5)
       have Bh:=ag (show r.join y.is=a.join (bj (ms.take (j+1)))/\(r.join y.is).c<=1073741824 from ⟨by
        rw [zZ,hr1,join_assoc HFA.1 (dg fun e he=>MS e (uQ he)) ((fG _).1 NY).1],by rw [dO];exact hcc⟩)
       generalize r.join y.is=J at *;clear hr1 hr2 hrc hcc qK;go_wp2_with ((go_at_call 15;(with_reducible refine(HM.out _).mono ?_);rintro e' w5 ⟨rfl,cy⟩;have ud:=ht1.trans (aA.of cy aO);have fY:w5.heap[ob]?=_:=(cy.block _ ai).trans Xg;obtain⟨z0,z1,z2,z3,z4,z5,zf⟩:=cJ fY));go_roundg (ms-(j+1))
       case measure=>omega
       case rel=>exact⟨j+1,true,J,ai,rfl,by go_num,rfl,ag (by rw [aw rfl];exact Bh),ag (by with_reducible exact jB fY),ag NR⟩
      ·have HM:=ag fun w'=>(by have:=lT r y.is w';rw [(iL hrc NY).trans (ar hcc)]at this;exact this :
        Calls Tryz.prog 15 #[.agg #[af r.c,af r.s,af r.mi,af r.ma,af r.t,af r.l], .agg #[af y.is.c,af y.is.s,af y.is.mi,af y.is.ma,af y.is.t,af y.is.l]] w' fun e' w5=>e' = .returned (.tuple #[.agg #[af ax.zero.c,af ax.zero.s,af ax.zero.mi,af ax.zero.ma,af ax.zero.t,af ax.zero.l],af 1])/\aq w' w5)
       have Bh:=ag (show bZ a (bj ms)=none by
        have e1:=A7 MS (j+1);have e2:=dO (bj (ms.take j)) y.is;have e3:=dO a (bj (ms.take j));rw [zZ]at e1;rw [<-hr1]at e3;unfold bZ;rw [ar ai])
       generalize ax.zero=J at *;clear hr1 hr2 hrc hcc qK;go_wp2_with ((go_at_call 15;(with_reducible refine(HM.out _).mono ?_);rintro e' w5 ⟨rfl,cy⟩;have ud:=ht1.trans (aA.of cy aO);have fY:w5.heap[ob]?=_:=(cy.block _ ai).trans Xg;obtain⟨z0,z1,z2,z3,z4,z5,zf⟩:=cJ fY));go_roundg (ms-(j+1))
       case measure=>omega
       case rel=>exact⟨j+1,false,J,ai,rfl,by go_num,rfl,ag (by rw [ar bY];exact Bh),ag (by with_reducible exact jB fY),ag NR⟩
    ·have hall:ms.take j=ms:=iM ai
     cases ok with
     |false=>
      have jQ:=ag (show bZ a (gS l p lo hi)=none by rw [<-Kw];exact qK.out);go_wp2;go_ret;refine⟨r,⟨hbr,Qj.out⟩,?_⟩;rw [jQ];exact rfl
     |true=>
      have jQ:=ag (show bZ a (gS l p lo hi)=some r by
       obtain⟨hr1,hr2⟩:=qK.out;rw [hall,Kw]at hr1;have:=dO a (gS l p lo hi);unfold bZ;rw [hr1]at hr2 ⊢;rw [aw ai])
      clear hall;go_wp2;go_ret;refine⟨r,⟨hbr,Qj.out⟩,?_⟩;rw [jQ];exact⟨rfl,rfl⟩
 ·have O9:decide (hi<=lo)=true:=by simp;omega
  have jQ:=ag (show bZ a (gS l p lo hi)=some a by rw [Oy ai];exact FO ((fG a).1 ha).2);clear hlt h0 hlo h1 hhi h2 tX yF hbase jA tr0 tr1 tr2 ha;go_enter Tryz.func75,Tryz.ntmps75;go_wp2;go_ret;refine⟨a,hs,?_⟩;rw [jQ];exact⟨rfl,rfl⟩
end
section
variable {e:Ending} {ob:Nat} {a T r:ax} {W w':World}
theorem gL.gNo (h:gL W ob a T e w') (hm:bZ a T=none):e = .returned (af 1)/\∃r,J2 W ob r w':=by
 obtain⟨r,h1,h2⟩:=h;rw [hm]at h2;exact⟨h2,r,h1⟩
theorem gL.F9 (h:gL W ob a T e w') (hm:bZ a T=some r):e = .returned (af 0)/\J2 W ob r w':=by
 obtain⟨r',h1,h2⟩:=h;rw [hm]at h2;obtain⟨rfl,h3⟩:=h2;exact⟨h3,h1⟩
theorem gL.no (hm:bZ a T=none) (h:∃r,J2 W ob r w'):gL W ob a T (.returned (af 1)) w':=by
 obtain⟨r,h⟩:=h;exact⟨r,h,by rw [hm]⟩
theorem gL.yes (hm:bZ a T=some r) (h:J2 W ob r w'):gL W ob a T (.returned (af 0)) w':=⟨r,h,by rw [hm];exact⟨rfl,rfl⟩⟩
abbrev afj (bb ib ob:Nat):Value:= .func (.func 75) #[] #[.pointer (some (bb,0)), .pointer (some (ib,0)), .pointer (some (ob,0))]
def GJ (W:World) (bb ib ob:Nat) (l:List aH) (p:Nat) (n:Int):Prop:=∀(lo hi:Int),0<=lo->lo<=hi->hi<=1048576->∀a,av a=0->∀w,J2 W ob a w ->
 Calls Tryz.prog 76 #[af n,af lo,af hi,afj bb ib ob] w (gL W ob a (gS l p lo hi))
section
variable {W:World} {bb ib ob:Nat} {b:Ba} {l:List aH} {p:Nat} {sa:Option Addr} {sc:Nat} {g0:Option Addr} {l0 p0:Nat} {g1:Option Addr} {l1 p1:Nat} {g2:Option Addr} {l2 p2:Nat}
theorem Mq (HW:SV W bb ib ob b l p sa sc g0 l0 p0 g1 l1 p1 g2 l2 p2):GJ W bb ib ob l p 0:=by
 intro lo hi h0 h1 h2 a ha w hs;have HT:=ag (show Calls Tryz.prog 75 #[af 0,af lo,af hi, .pointer (some (bb,0)), .pointer (some (ib,0)), .pointer (some (ob,0))] w (gL W ob a (gS l p lo hi)) from
  BS HW (k:=0) bY h0 ai ai h2 (fun _=>⟨Int.emod_one lo,Int.emod_one hi⟩) ha hs)
 cases hm:bZ a (gS l p lo hi) with
 |none=>
  have HM:=ag hm;clear hm;go_enter Tryz.func76,Tryz.ntmps76;go_wp2_with ((go_at_call 75;(with_reducible refine HT.out.mono ?_);intro e w5 h5;obtain⟨rfl,hs5⟩:=h5.gNo HM));go_ret;exact gL.no HM hs5
 |some r=>
  have HM:=ag hm;clear hm;go_enter Tryz.func76,Tryz.ntmps76;go_wp2_with ((go_at_call 75;(with_reducible refine HT.out.mono ?_);intro e w5 h5;obtain⟨rfl,hs5⟩:=h5.F9 HM));go_ret;exact gL.yes HM hs5
theorem Db (HW:SV W bb ib ob b l p sa sc g0 l0 p0 g1 l1 p1 g2 l2 p2) {k:Nat} (hk:k=1\/k=2) {M:Int} (hM:(k:Int)-1=M) (IH:GJ W bb ib ob l p M):GJ W bb ib ob l p k:=by
 intro lo hi h0 h1 h2 a ha w hs;obtain⟨sz,hsz⟩:=bG (bp k);have abz:sz=60\/sz=3600:=by rcases hk with rfl|rfl;exact .inl hsz.symm;exact .inr hsz.symm
 have hs0:(sz == 0)=false:=by simp;omega
 obtain⟨F,hF⟩:=bG ((lo+sz-1)/sz);obtain⟨G,hG⟩:=bG (hi/sz);obtain⟨A,hA⟩:=bG (F*sz);obtain⟨Z,hZ⟩:=bG (G*sz);have hA1:lo<=A/\A<=lo+sz-1:=by
  rw [<-hA,<-hF];have e1:=Int.ediv_mul_le (lo+sz-1) (show sz≠0 by omega);have e2:=Int.lt_ediv_add_one_mul_self (lo+sz-1) (show 0<sz by omega);rw [Int.add_mul,Int.one_mul]at e2;omega
 have hA2:A%sz=0:=by rw [<-hA];exact Int.mul_emod_left F sz
 have Sb:Z<=hi/\0<=Z:=by
  rw [<-hZ,<-hG];exact⟨Int.ediv_mul_le hi ai,Int.mul_nonneg (Int.ediv_nonneg ai ai) ai⟩
 have hZ2:Z%sz=0:=by rw [<-hZ];exact Int.mul_emod_left G sz
 have TJ:0<=F/\F<=lo+sz-1:=by rw [<-hF];exact⟨Int.ediv_nonneg ai ai,Int.ediv_le_self _ ai⟩
 have hG0:0<=G/\G<=hi:=by rw [<-hG];exact⟨Int.ediv_nonneg ai ai,Int.ediv_le_self _ ai⟩
 have m1:IntKind.i64.wrap (lo+sz)=lo+sz:=bI _ ai;have m2:IntKind.i64.wrap (lo+sz-1)=lo+sz-1:=bI _ ai;have m3:(lo+sz-1).tdiv sz=F:=by rw [Dw ai];exact hF
 have m4:IntKind.i64.wrap F=F:=bI _ ai;have m5:IntKind.i64.wrap (F*sz)=A:=by rw [hA];exact bI _ ai
 have m6:hi.tdiv sz=G:=by rw [Dw ai];exact hG
 have m7:IntKind.i64.wrap G=G:=bI _ ai;have m8:IntKind.i64.wrap (G*sz)=Z:=by rw [hZ];exact bI _ ai
 have m9:IntKind.i64.wrap ((k:Int)-1)=M:=by rw [hM];exact bI _ ai
 have Yo:((k:Int) == 0)=false:=by simp;omega
 obtain⟨-,c0,c1,c2⟩:=HW.sizes w hs.1;have MS:=ag (show je l from (fI HW.book).2.1.cp.dV);have HFA:=ag ((fG a).1 ha);have Uh:=ag IH;have HT:=ag fun lo hi (h0:0<=lo) (h1:lo<=1048576) (h2:0<=hi) (h3:hi<=1048576) (h4:lo<hi->lo%sz=0/\hi%sz=0) a (ha:av a=0) w (hs:J2 W ob a w)=>BS HW (k:=k) ai h0 h1 h2 h3 (by rw [hsz];exact h4) ha hs;have ry:=ag hsz;have HK:=ag hk;have HSV:=ag abz;have HHA:=ag ha;clear hsz hF hG hA hZ hM TJ hG0 ha IH HW;go_enter Tryz.func76,Tryz.ntmps76;go_upto_region 3 with (fail);go_cut [9] (fun s wx=>s=af sz/\wx=w)
 case first=>
  rcases HK.out with rfl|rfl
  ·obtain rfl:60=sz:=ry.out;go_wp2;go_meet;exact⟨rfl,rfl⟩
  ·obtain rfl:3600=sz:=ry.out;go_wp2;go_meet;exact⟨rfl,rfl⟩
 case rest=>
  obtain⟨rfl,hwc⟩:=hcut;obtain rfl:=hwc.symm;clear c0 c1 c2 abz hk;by_cases hAZ:Z<=A
  ·have hd:decide (Z<=A)=true:=by simp [hAZ]
   have HC:=ag (Uh lo hi h0 h1 h2 a HHA w hs);clear hAZ
   cases hm:bZ a (gS l p lo hi) with
   |none=>
    have HM:=ag hm;clear hm;go_wp2_with ((go_at_call 76;(with_reducible refine HC.out.mono ?_);intro e w5 h5;obtain⟨rfl,hs5⟩:=h5.gNo HM));go_ret;exact gL.no HM hs5
   |some r=>
    have HM:=ag hm;clear hm;go_wp2_with ((go_at_call 76;(with_reducible refine HC.out.mono ?_);intro e w5 h5;obtain⟨rfl,hs5⟩:=h5.F9 HM));go_ret;exact gL.yes HM hs5
  ·have hd:decide (Z<=A)=false:=by simp;omega
   have h3:A<Z:=ai;have HP:=ag (show gS l p lo hi=(gS l p lo A).join ((gS l p A Z).join (gS l p Z hi)) by
    rw [Cj MS (p:=p) (show lo<=A from hA1.1) (show A<=hi by omega),Cj MS (p:=p) (show A<=Z by omega) Sb.1])
   have HC1:=ag (Uh lo A h0 hA1.1 ai a HHA w hs);have hf1:=vG MS p lo A;have hf2:=vG MS p A Z;have hf3:=vG MS p Z hi
   cases LP:bZ a (gS l p lo A) with
   |none=>
    have HM1:=ag LP;have HM:=ag (show bZ a (gS l p lo hi)=none by rw [HP];exact ye (kq hf2 hf3) LP);clear LP hAZ;go_wp2_with ((go_at_call 76;(with_reducible refine HC1.out.mono ?_);intro e w5 h5;obtain⟨rfl,hs5⟩:=h5.gNo HM1));go_ret;exact gL.no HM hs5
   |some r1=>
    have HM1:=ag LP;have hr1:=xZ HFA.1 hf1 LP;have HR1:=ag ((fG r1).2 hr1);have uW:=ag fun w hs=>HT A Z ai ai ai ai (fun _=>⟨hA2,hZ2⟩) r1 HR1 w hs;have HQ:=ag (show bZ a (gS l p lo hi)=bZ r1 ((gS l p A Z).join (gS l p Z hi)) by
     rw [HP,<-Ar HFA.1 hf1 (kq hf2 hf3),LP];rfl)
    cases hm2:bZ r1 (gS l p A Z) with
    |none=>
     have HM2:=ag hm2;have HM:=ag (show bZ a (gS l p lo hi)=none by rw [HQ];exact ye hf3 hm2);clear LP hm2 hAZ hr1;go_wp2_with (first|(go_at_call 76;(with_reducible refine HC1.out.mono ?_);intro e w5 h5;obtain⟨rfl,hs5⟩:=h5.F9 HM1)|(go_at_call 75;(with_reducible refine(uW.out _ hs5).mono ?_);intro e w6 h6;obtain⟨rfl,hs6⟩:=h6.gNo HM2));go_ret;exact gL.no HM hs6
    |some r2=>
     have HM2:=ag hm2;have hr2:=xZ hr1.1 hf2 hm2;have HC3:=ag fun w hs=>Uh Z hi Sb.2 Sb.1 h2 r2 ((fG r2).2 hr2) w hs;have TY:=ag (show bZ a (gS l p lo hi)=bZ r2 (gS l p Z hi) by
      rw [HQ,<-Ar hr1.1 hf2 hf3,hm2];rfl)
     cases hm3:bZ r2 (gS l p Z hi) with
     |none=>
      have HM3:=ag hm3;have HM:=ag (TY.trans hm3);clear LP hm2 hm3 hAZ hr1 hr2;go_wp2_with (first|(go_at_call 76;(with_reducible refine HC1.out.mono ?_);intro e w5 h5;obtain⟨rfl,hs5⟩:=h5.F9 HM1)|(go_at_call 75;(with_reducible refine(uW.out _ hs5).mono ?_);intro e w6 h6;obtain⟨rfl,hs6⟩:=h6.F9 HM2)|(go_at_call 76;(with_reducible refine(HC3.out _ hs6).mono ?_);intro e w7 h7;obtain⟨rfl,hs7⟩:=h7.gNo HM3));go_ret;exact gL.no HM hs7
     |some r3=>
      have HM3:=ag hm3;have HM:=ag (TY.trans hm3);clear LP hm2 hm3 hAZ hr1 hr2;go_wp2_with (first|(go_at_call 76;(with_reducible refine HC1.out.mono ?_);intro e w5 h5;obtain⟨rfl,hs5⟩:=h5.F9 HM1)|(go_at_call 75;(with_reducible refine(uW.out _ hs5).mono ?_);intro e w6 h6;obtain⟨rfl,hs6⟩:=h6.F9 HM2)|(go_at_call 76;(with_reducible refine(HC3.out _ hs6).mono ?_);intro e w7 h7;obtain⟨rfl,hs7⟩:=h7.F9 HM3));go_ret;exact gL.yes HM hs7
theorem PI (HW:SV W bb ib ob b l p sa sc g0 l0 p0 g1 l1 p1 g2 l2 p2):GJ W bb ib ob l p 2:=
 Db (k:=2) HW (.inr rfl) (M:=1) bY (Db (k:=1) HW (.inl rfl) (M:=0) bY (Mq HW))
end
end
section
variable {b:Ba} {s:ByteArray} {a z p:Int} {l:List aH}
def Fk (B:Nat) (w:World) (r:ax) (E:Int) (e:Ending) (w':World):Prop:=Below B w w'/\e = .returned (.tuple #[r.v,af E])
theorem mF (h:cj b s≠0):mH b s a z=cj b s/\mG b s a z=ax.zero:=by
 unfold mH mG;rw [aw h,aw h];exact⟨rfl,rfl⟩
theorem um (h:cj b s=0) (hr:¬dA a z):mH b s a z=2/\mG b s a z=ax.zero:=by
 unfold mH mG;rw [ar (jw h),ar (jw h),aw hr,aw hr];exact⟨rfl,rfl⟩
theorem BR (h:cj b s=0) (hr:dA a z) (hl:cx b=some l) (hp:bt b.names s=p) (hm:bZ ax.zero (gS l p a (z+1))=none):mH b s a z=1/\mG b s a z=ax.zero:=by
 subst hp;unfold mH mG;rw [ar (jw h),ar (jw h),ar (jw hr),ar (jw hr),hl];simp only;rw [hm];exact⟨rfl,rfl⟩
theorem BQ {r:ax} (h:cj b s=0) (hr:dA a z) (hl:cx b=some l) (hp:bt b.names s=p) (hm:bZ ax.zero (gS l p a (z+1))=some r):mH b s a z=0/\mG b s a z=r:=by
 subst hp;unfold mH mG;rw [ar (jw h),ar (jw h),ar (jw hr),ar (jw hr),hl];simp only;rw [hm];exact⟨rfl,rfl⟩
theorem Og {v:Value} {w:World} (h:bR w v b) (hst:∀s∈b.names,s.size<=140737488351232) (hsz:cI w) :
  Calls Tryz.prog 37 #[v, .string s,af a,af z] w (Fk w w (mG b s a z) (mH b s a z)):=by
 have tM:=ag fun w' (hb:aq w w')=>BX (s:=s) (h.below hb) hst (hsz.below hb);obtain⟨sa,sc,g0,l0,p0,g1,l1,p1,g2,l2,p2,rfl,hn,dE,T0,T1,T2⟩:=h.open;obtain⟨W0,hW0⟩:=cd ((w.alloc (.cells (aL sa b.names sc g0 l0 p0 g1 l1 p1 g2 l2 p2 b) 30)).alloc (.cells #[af 0,af 0,af 0,af 0,af 0,af 0] 39));have hb0:aq w W0:=by rw [hW0];exact aj
 have hz0:W0=w.heap.size+2:=by rw [hW0];simp
 have k0:W0.heap[w.heap.size]?=some (.cells (aL sa b.names sc g0 l0 p0 g1 l1 p1 g2 l2 p2 b) 30):=by rw [hW0,gy _ _ _ bh];exact au _ _ rfl
 have k1:W0.heap[w.heap.size+1]?=some (.cells #[af 0,af 0,af 0,af 0,af 0,af 0] 39):=by rw [hW0];exact au _ _ bh
 have HZ:=ag fun w' (hb:aq W0 w')=>cJ ((hb.block _ ai).trans k1);have HX:=ag fun w' (hb:aq W0 w')=>(by
  have b0:w'.heap[w.heap.size]?=_:=(hb.block _ ai).trans k0;simp [World.cell?,b0] :
  w'.cell? (w,0)=some (ah sa b.names sc)/\w'.cell? (w,1)=some (ah g0 l0 p0)/\(w',w.heap.size,2,b.t0.root)/\w'.cell? (w,3)=some (ah g1 l1 p1)/\(w',w.heap.size,4,b.t1.root)/\w'.cell? (w,5)=some (ah g2 l2 p2)/\(w',w.heap.size,6,b.t2.root)/\(w',w.heap.size,7,b.floor))
 have HB:=ag fun w' (hb:aq W0 w')=>(aF hb0 hb hb0.size:aq w w');obtain⟨x0,x1,x2,x3,x4,x5,x6,x7⟩:=HX W0 (aW _ _);have ry:=ag hsz;have Qg:=ag T0;have S9:=ag T1;have uW:=ag T2;have VM:=ag dE;have hmf:∀(fn:Fn) (first cap:Array Value) (w:World),(Instr.makeFunc fn first cap).run Tryz.prog w = .ok (.func fn first cap) w:=fun _ _ _ _=>rfl;have MO:=ag k0;clear h hst hsz dE T0 T1 T2 k0;go_enter Tryz.func37,Tryz.ntmps37;go_upto_region 1 with (fail);rw [<-hW0];clear hW0 k1;rcases jx b s with ⟨e1,e2⟩|⟨e1,e2,e3⟩|⟨e1,e2,p,hp,e3⟩
 ·obtain⟨r1,r2⟩:=mF (a:=a) (z:=z) (show cj b s≠0 by omega);have HR:=ag (aJ (r1.trans e1) r2);rw [e1]at tM;clear e1 e2 r1 r2;go_upto_region 2 with ((go_at_call 71;(with_reducible refine(tM.out _ hb0).mono ?_);rintro e w1 ⟨rfl,hb1⟩));obtain⟨W2,hW2⟩:=cd (w1.alloc (.cells #[af (jq b s)] 3));have hz1:=hb1.size;have hz2:W2=w1.heap.size+1:=by rw [hW2];simp
  have hb2:aq w1 W2:=by rw [hW2];exact aj
  have k2:W2.heap[w1.heap.size]?=some (.cells #[af (jq b s)] 3):=by rw [hW2];exact au _ _ rfl
  have qo:aq W0 W2:=aF hb1 hb2 hz1;have cT:=HB _ qo;obtain⟨z0,z1,z2,z3,z4,z5,zf⟩:=HZ _ qo;rw [<-hW2];clear hW2;clear k2;go_wp2;exact bW (v:= .tuple #[.agg #[af 0,af 0,af 0,af 0,af 0,af 0],af 7]) (by simp [results,Tryz.results37,go_sem, *]) rfl ⟨aj,by rw [HR.1,HR.2];rfl⟩
 ·obtain⟨r1,r2⟩:=mF (a:=a) (z:=z) (show cj b s≠0 by omega);have HR:=ag (aJ (r1.trans e1) r2);rw [e1]at tM;clear e1 e2 e3 r1 r2;go_upto_region 2 with ((go_at_call 71;(with_reducible refine(tM.out _ hb0).mono ?_);rintro e w1 ⟨rfl,hb1⟩));obtain⟨W2,hW2⟩:=cd (w1.alloc (.cells #[af (jq b s)] 3));have hz1:=hb1.size;have hz2:W2=w1.heap.size+1:=by rw [hW2];simp
  have hb2:aq w1 W2:=by rw [hW2];exact aj
  have k2:W2.heap[w1.heap.size]?=some (.cells #[af (jq b s)] 3):=by rw [hW2];exact au _ _ rfl
  have qo:aq W0 W2:=aF hb1 hb2 hz1;have cT:=HB _ qo;obtain⟨z0,z1,z2,z3,z4,z5,zf⟩:=HZ _ qo;rw [<-hW2];clear hW2;clear k2;go_wp2;exact bW (v:= .tuple #[.agg #[af 0,af 0,af 0,af 0,af 0,af 0],af 6]) (by simp [results,Tryz.results37,go_sem, *]) rfl ⟨aj,by rw [HR.1,HR.2];rfl⟩
 ·have hI:jq b s=p:=by unfold jq;rw [aw e1];exact e3
  rw [e1,hI]at tM;clear hI;go_upto_region 2 with ((go_at_call 71;(with_reducible refine(tM.out _ hb0).mono ?_);rintro e w1 ⟨rfl,hb1⟩));obtain⟨W2,hW2⟩:=cd (w1.alloc (.cells #[af ((p:Int))] 3));have hz1:=hb1.size;have hz2:W2=w1.heap.size+1:=by rw [hW2];simp
  have hb2:aq w1 W2:=by rw [hW2];exact aj
  have k2:W2.heap[w1.heap.size]?=some (.cells #[af ((p:Int))] 3):=by rw [hW2];exact au _ _ rfl
  have qo:aq W0 W2:=aF hb1 hb2 hz1;have cT:=HB _ qo;obtain⟨z0,z1,z2,z3,z4,z5,zf⟩:=HZ _ qo;rw [<-hW2];clear hW2;have HT:=ag (EB a z);by_cases hr:dA a z
  ·have htd:decide (dA a z)=true:=by simp [hr]
   rw [htd]at HT;obtain⟨hr1,hr2,hr3⟩:=id hr;obtain⟨l,hl,-⟩:=fJ e2;have m1:IntKind.i64.wrap (z+1)=z+1:=bI _ ai;have Dz:=ag e1;have mY:=ag e2;have tU:=ag e3;have HL:=ag hl;have rM:=ag hr;clear e1 e2 e3 hl htd hr hr1 hr2 hr3;clear z0 z1 z2 z3 z4 z5 zf;go_upto_region 8 with ((go_at_call 73;(with_reducible refine(HT.out _).mono ?_);rintro e w2 ⟨rfl,hw2⟩;obtain rfl:=hw2.symm));obtain⟨W4,yH⟩:=cd (W2.alloc (.cells #[af 0,af 0,af 0,af 0,af 0,af 0] 39));have hz4:W4=W2.heap.size+1:=by rw [yH];simp
   have hb4:aq W2 W4:=by rw [yH];exact aj
   have k4:W4.heap[w1.heap.size]?=some (.cells #[af p] 3):=(hb4.block _ ai).trans k2;have k5:W4.heap[W2.heap.size]?=some (.cells #[af 0,af 0,af 0,af 0,af 0,af 0] 39):=by rw [yH];exact au _ _ rfl
   have acr:aq W0 W4:=aF qo hb4 qo.size;have hbW:=ag fun w' (hb:Below W2 W4 w')=>(acr.trans (hb.mono ai):aq W0 w');have Zt:SV W4 w w1 W2 b l p sa sc g0 l0 p0 g1 l1 p1 g2 l2 p2:=
    ⟨ai,ai,ai,(acr.block _ ai).trans MO,k4,fun w' hb=>Qg w' (HB _ (hbW w' hb)),fun w' hb=>S9 w' (HB _ (hbW w' hb)),fun w' hb=>uW w' (HB _ (hbW w' hb)),fun w' hb=>ry.below (HB _ (hbW w' hb)),mY,HL,hp⟩
   have HCV:=ag (PI Zt a (z+1) rM.1 (by have:=rM.2.1;omega) (by have:=rM.2.2;omega) ax.zero bY W4 ⟨aW _ _,k5⟩);rw [hz2]at HCV hbW;clear k2 k4 k5 Zt;rw [<-yH];clear yH
   cases hm:bZ ax.zero (gS l p a (z+1)) with
   |none=>
    have HM:=ag hm;have HR:=ag (BR Dz rM HL tU hm);clear hm;go_wp2_with ((go_at_call 76;(with_reducible refine HCV.out.mono ?_);intro e w5 h5;obtain⟨rfl,r5,cy,-⟩:=h5.gNo HM;have yG:=hbW _ cy;have Pn:=HB _ yG;obtain⟨z0,z1,z2,z3,z4,z5,zf⟩:=HZ _ yG));exact bW (v:= .tuple #[.agg #[af 0,af 0,af 0,af 0,af 0,af 0],af 1]) (by simp [results,Tryz.results37,go_sem, *]) rfl ⟨aj,by rw [HR.1,HR.2];rfl⟩
   |some r=>
    have HM:=ag hm;have HR:=ag (BQ Dz rM HL tU hm);clear hm;go_wp2_with ((go_at_call 76;(with_reducible refine HCV.out.mono ?_);intro e w5 h5;obtain⟨rfl,cy,fY⟩:=h5.F9 HM;have yG:=hbW _ cy;have Pn:=HB _ yG;obtain⟨z0,z1,z2,z3,z4,z5,zf⟩:=HZ _ yG;obtain⟨o0,o1,o2,o3,o4,o5,of⟩:=cJ fY));exact bW (v:= .tuple #[.agg #[af r.c,af r.s,af r.mi,af r.ma,af r.t,af r.l],af 0]) (by simp [results,Tryz.results37,go_sem, *]) rfl ⟨aj,by rw [HR.1,HR.2]⟩
  ·have htd:decide (dA a z)=false:=by simp [hr]
   rw [htd]at HT;have HR:=ag (um (s:=s) e1 hr);clear e1 e2 e3 hr htd;clear k2;go_wp2_with ((go_at_call 73;(with_reducible refine(HT.out _).mono ?_);rintro e w2 ⟨rfl,hw2⟩;obtain rfl:=hw2.symm));exact bW (v:= .tuple #[.agg #[af 0,af 0,af 0,af 0,af 0,af 0],af 2]) (by simp [results,Tryz.results37,go_sem, *]) rfl ⟨aj,by rw [HR.1,HR.2];rfl⟩
end
section
variable {a z:Int} {l:List aH}
theorem Ci {p:Int} (h:dA a z):gS l p a (z+1)=bj (l.filter (im p a z)):=by
 unfold gS
 congr 1
 refine List.filter_congr fun e _=>?_;rw [yl h,Int.add_assoc]
theorem wj (h:je l) {f:aH->Bool} {j:Nat} (hj:j<l):bj ((l.take (j+1)).filter f)=if f l[j]=true then(bj ((l.take j).filter f)).join l[j].is else bj ((l.take j).filter f):=by
 rw [AA hj]
 split
 ·rw [mO (fun e he=>h e (uQ (nt.1 he).1)) (fun e he=>by simp at he;subst he;exact h _ (eZ _))];simp only [bj];rw [dN]
 ·rw [nQ]
theorem yi (h:je l) (f:aH->Bool) (j:Nat):(bj ((l.take j).filter f)).c<=(bj (l.filter f)).c:=by
 have h1:bj (l.filter f)=(bj ((l.take j).filter f)).join (bj ((l.drop j).filter f)):=by
  conv=>lhs;rw [<-rG j l,qH]
  exact mO (fun e he=>h e (uQ (nt.1 he).1)) (fun e he=>h e (uP (nt.1 he).1))
 have h2:=(dg (l:=(l.drop j).filter f) fun e he=>h e (uP (nt.1 he).1)).pos;rw [h1,dO];omega
theorem FL {v:Value} {b:Ba} {s:ByteArray} {w:World} (h:bR w v b) (hst:∀s∈b.names,s.size<=140737488351232) :
  Calls Tryz.prog 22 #[v, .string s,af a,af z] w (Fk w w (mG b s a z) (mH b s a z)):=by
 have tM:=ag fun w' (hb:aq w w')=>tP (s:=s) (h.below hb) hst;have Ew:=ag fun w' (hb:aq w w')=>sy (h.below hb);obtain⟨sa,sc,g0,l0,p0,g1,l1,p1,g2,l2,p2,rfl,hn,dE,T0,T1,T2⟩:=h.open;obtain⟨W0,hW0⟩:=cd ((w.alloc (.cells (aL sa b.names sc g0 l0 p0 g1 l1 p1 g2 l2 p2 b) 30)).alloc (.cells #[af 0,af 0,af 0,af 0,af 0,af 0] 39));have hb0:aq w W0:=by rw [hW0];exact aj
 have hz0:W0=w.heap.size+2:=by rw [hW0];simp
 have k0:W0.heap[w.heap.size]?=some (.cells (aL sa b.names sc g0 l0 p0 g1 l1 p1 g2 l2 p2 b) 30):=by rw [hW0,gy _ _ _ bh];exact au _ _ rfl
 have k1:W0.heap[w.heap.size+1]?=some (.cells #[af 0,af 0,af 0,af 0,af 0,af 0] 39):=by rw [hW0];exact au _ _ bh
 have HZ:=ag fun w' (hb:aq W0 w')=>cJ ((hb.block _ ai).trans k1);have HX:=ag fun w' (hb:aq W0 w')=>(by
  have b0:w'.heap[w.heap.size]?=_:=(hb.block _ ai).trans k0;simp [World.cell?,b0] :
  w'.cell? (w,0)=some (ah sa b.names sc)/\w'.cell? (w,1)=some (ah g0 l0 p0)/\(w',w.heap.size,2,b.t0.root)/\w'.cell? (w,3)=some (ah g1 l1 p1)/\(w',w.heap.size,4,b.t1.root)/\w'.cell? (w,5)=some (ah g2 l2 p2)/\(w',w.heap.size,6,b.t2.root)/\(w',w.heap.size,7,b.floor))
 have HB:=ag fun w' (hb:aq W0 w')=>(aF hb0 hb hb0.size:aq w w');obtain⟨x0,x1,x2,x3,x4,x5,x6,x7⟩:=HX W0 (aW _ _);have tU:=ag fun w' (hb:aq W0 w')=>lR (s:=s) (dE.below (HB w' hb) aO);clear h hst dE T0 T1 T2 k0;go_enter Tryz.func22,Tryz.ntmps22;go_upto_region 1 with (fail);rw [<-hW0];clear hW0 k1;rcases jx b s with ⟨e1,e2⟩|⟨e1,e2,e3⟩|⟨e1,e2,p,hp,e3⟩
 ·obtain⟨r1,r2⟩:=mF (a:=a) (z:=z) (show cj b s≠0 by omega);have HR:=ag (aJ (r1.trans e1) r2);rw [e1]at tM;clear e1 e2 r1 r2;go_wp2_with ((go_at_call 50;(with_reducible refine(tM.out _ hb0).mono ?_);rintro e w1 ⟨rfl,hb1⟩;have cT:=HB _ hb1;obtain⟨z0,z1,z2,z3,z4,z5,zf⟩:=HZ _ hb1));exact bW (v:= .tuple #[.agg #[af 0,af 0,af 0,af 0,af 0,af 0],af 7]) (by simp [results,Tryz.results22,go_sem, *]) rfl ⟨aj,by rw [HR.1,HR.2];rfl⟩
 ·obtain⟨r1,r2⟩:=mF (a:=a) (z:=z) (show cj b s≠0 by omega);have HR:=ag (aJ (r1.trans e1) r2);rw [e1]at tM;clear e1 e2 e3 r1 r2;go_wp2_with ((go_at_call 50;(with_reducible refine(tM.out _ hb0).mono ?_);rintro e w1 ⟨rfl,hb1⟩;have cT:=HB _ hb1;obtain⟨z0,z1,z2,z3,z4,z5,zf⟩:=HZ _ hb1));exact bW (v:= .tuple #[.agg #[af 0,af 0,af 0,af 0,af 0,af 0],af 6]) (by simp [results,Tryz.results22,go_sem, *]) rfl ⟨aj,by rw [HR.1,HR.2];rfl⟩
 ·rw [e1]at tM;go_upto_region 2 with ((go_at_call 50;(with_reducible refine(tM.out _ hb0).mono ?_);rintro e w1 ⟨rfl,hb1⟩;obtain⟨x0,x1,x2,x3,x4,x5,x6,x7⟩:=HX _ hb1));have xh:=HB _ hb1;have Dz:=ag e1;have lu:=fun w'=>Br a 0 z w';by_cases hr:dA a z
  ·obtain⟨hr1,hr2,hr3⟩:=id hr;have i1:mn a 0 z=true:=by simp [mn];omega
   have i2:decide ((1048575:Int)<z)=false:=by simp;omega
   rw [i1]at lu;have HI:=ag lu;obtain⟨l,hl,hlr,Qa,-⟩:=fJ e2;have Tm:=ag (Ew w1 xh);rw [hl]at Tm;have HL:=ag hl;have Th:=ag Qa;have MS:=ag Qa.1.cp.dV;have hll:l.length<=50000:=Qa.2.2;have rM:=ag hr;have HPI:=ag e3;rw [e3]at tU;clear hl hlr Qa i1 lu hr hr1 hr2 hr3 e1 e2 e3 tM Ew;go_upto_region 7 with (first|(go_at_call 51;(with_reducible refine(HI.out _).mono ?_);rintro e w2 ⟨rfl,hw2⟩;obtain rfl:=hw2.symm)|(go_at_call 25;(with_reducible refine Tm.out.mono ?_);rintro e w5 ⟨cy,v5,rfl,fY⟩;have lI:=aF hb1 cy hb1.size;obtain⟨s5,c5,rfl⟩:=fY.isSlice));have DG:=ag (fY.at ai);have vQ:=lI.size;have Pn:=HB _ lI;clear x0 x1 x2 x3 x4 x5 x6 x7 fY i2;obtain⟨ob,RB⟩:=bG (w5.heap.size);obtain⟨W6,rL⟩:=cd (w5.alloc (.cells #[af ax.zero.c,af ax.zero.s,af ax.zero.mi,af ax.zero.ma,af ax.zero.t,af ax.zero.l] 39));have ji:Below ob w5 W6:=by rw [rL];subst RB;exact aj
   have DK:ob<W6:=by rw [rL];simp;omega
   have k6:W6.heap[ob]?=some (.cells #[af ax.zero.c,af ax.zero.s,af ax.zero.mi,af ax.zero.ma,af ax.zero.t,af ax.zero.l] 39):=by rw [rL];exact au _ _ RB.symm
   go_upto_region 9 with (fail);rw [show (w5.alloc (.cells #[af 0,af 0,af 0,af 0,af 0,af 0] 39))=W6 from rL.symm];clear rL
   try rw [RB]
   have HOE:=ag RB;clear RB
   go_loopg [10,14] l (fun g c i wr=>∃(j:Nat) (r:ax),j<=l/\g=l-j/\c=af 0/\i=af j/\Hid (r=bj ((l.take j).filter (im p a z))/\r.c<=1073741824)/\Hid (wr.heap[ob]?=some (.cells #[af r.c,af r.s,af r.mi,af r.ma,af r.t,af r.l] 39))/\ob<wr/\Below ob w5 wr)
   case atStart=>exact⟨0,ax.zero,eY _,rfl,rfl,rfl,ag ⟨by simp [bj],bY⟩,ag k6,DK,ji⟩
   case round=>
    obtain⟨j,r,hj,rfl,rfl,rfl,HJ,Qj,Z9,hb⟩:=hrel;have hb':aq w5 wr:=hb.mono (by have:=HOE.out;omega);have Po:aq W0 wr:=aF lI hb' vQ;have cT:=HB _ Po;obtain⟨x0,-⟩:=HX _ Po;by_cases hlt:j<l
    ·obtain⟨_,_,hv,-,-,-,-,h5⟩:=DG.out;injection hv with hv1 _ hv3;subst hv1 hv3;obtain⟨eb,cM,ll,pq,jF⟩:=h5 ai;subst ll;obtain⟨y0,y1,y2,y3,y4,y5,y6⟩:=br hb' pq jF hlt;obtain⟨y,hy⟩:=bG (l[j]);rw [hy]at y0 y1 y2 y3 y4 y5 y6;have wG:y∈l:=(by rw [<-hy];exact eZ hlt);obtain⟨iy,hk1⟩:=Th.2.1 y wG;have NY:=ag (Th.1 y wG).2;have zZ:=ag (wj MS (f:=im p a z) hlt);rw [hy]at zZ;obtain⟨M,hM⟩:=bG (y.key%1048576);obtain⟨Q,hQ⟩:=bG (y.key/1048576);have hinr:im p a z y=(decide (Q=p) && mn M a z):=(by simp [im,hM,hQ]);have m1:y.key.tmod 1048576=M:=(by rw [tJ iy];exact hM);have m2:y.key.tdiv 1048576=Q:=(by rw [Dw iy];exact hQ);have m4:IntKind.i64.wrap M=M:=bI _ ai;have m5:IntKind.i64.wrap Q=Q:=bI _ ai;have jA:=fun w'=>cN (ab:=eb) (aR:=cM) (n:=l.length) (cap:=c5) (show (j:Int)=((j:Nat):Int) by rfl) hlt w';have hwz:eb<wr:=(by have:=hb'.size;omega);have hwo:eb<ob:=(by have:=HOE.out;omega);have MQ:=fun w'=>Br M a z w';by_cases hq:Q=p
     ·have e1:(Q == (p:Int))=true:=(by simp [hq]);by_cases hm:mn M a z=true
      ·have PX:=ag (zZ.trans (aw (by rw [hinr];simp [hq,hm])));rw [hm]at MQ;have MP:=ag MQ;clear jF h5 hy wG hM hQ hq hm hinr MQ;go_upto_region 11 with (fail);go_quiet (first|(go_at_call 48;refine Calls.quiet_of_same (tU _ ?_);exact aj)|(go_at_call 51;exact Calls.quiet_of_same (MP _)));go_upto_region 12 with (fail);generalize hW2:wr.drewN _=W2;have hb2:Below ob w5 W2:=(by rw [<-hW2];exact oG hb _);have hz2:ob<W2:=(by rw [<-hW2];exact Z9);have I4:W2.heap[ob]?=some (.cells #[af r.c,af r.s,af r.mi,af r.ma,af r.t,af r.l] 39):=(by rw [<-hW2];exact Qj.out);obtain⟨o0,o1,o2,o3,o4,o5,of⟩:=cJ I4;have z1:W2.cell? (eb,cM+j*7+1)=some (af y.is.c):=(by rw [<-hW2];exact y1);have z2:W2.cell? (eb,cM+j*7+2)=some (af y.is.s):=(by rw [<-hW2];exact y2);have z3:W2.cell? (eb,cM+j*7+3)=some (af y.is.mi):=(by rw [<-hW2];exact y3);have z4:W2.cell? (eb,cM+j*7+4)=some (af y.is.ma):=(by rw [<-hW2];exact y4);have z5:W2.cell? (eb,cM+j*7+5)=some (af y.is.t):=(by rw [<-hW2];exact y5);have z6:W2.cell? (eb,cM+j*7+6)=some (af y.is.l):=(by rw [<-hW2];exact y6);have O2:eb<W2:=ai;clear hW2 y0 y1 y2 y3 y4 y5 y6 x0 e1 m1 m2 m4 m5 hb' Po cT Qj hwz;have HS:=ag fun w' (hb:aq W2 w')=>(by
        have gc:∀b o,b<W2.heap.size->w'.cell? ⟨b,o,none⟩=W2.cell? ⟨b,o,none⟩:=fun b o h=>hb.cell (p:=⟨b,o,none⟩) h;rw [gc _ _ hz2,gc _ _ hz2,gc _ _ hz2,gc _ _ hz2,gc _ _ hz2,gc _ _ hz2,gc _ _ O2,gc _ _ O2,gc _ _ O2,gc _ _ O2,gc _ _ O2,gc _ _ O2];exact⟨o0,o1,o2,o3,o4,o5,z1,z2,z3,z4,z5,z6⟩:(w',ob,0,r.c)/\(w',ob,1,r.s)/\(w',ob,2,r.mi)/\(w',ob,3,r.ma)/\(w',ob,4,r.t)/\(w',ob,5,r.l)/\(w',eb,cM+j*7+1,y.is.c)/\(w',eb,cM+j*7+2,y.is.s)/\(w',eb,cM+j*7+3,y.is.mi)/\(w',eb,cM+j*7+4,y.is.ma)/\(w',eb,cM+j*7+5,y.is.t)/\(w',eb,cM+j*7+6,y.is.l))
       have ZL:=ag I4;have hs0:=HS _ (aW _ W2).drew;obtain⟨hr1,hr2⟩:=HJ.out;have hrc:av r=0:=(fG r).2 ⟨by rw [hr1];exact dg fun e he=>MS e (uQ (nt.1 he).1),hr2⟩;clear I4 o0 o1 o2 o3 o4 o5 of z1 z2 z3 z4 z5 z6;obtain⟨J,E,CW⟩:∃J E,bF r y.is=(J,E):=⟨_,_,rfl⟩;have HM:=ag fun w'=>(by have:=xU r y.is w';rw [CW]at this;exact this :
        Calls Tryz.prog 52 #[.agg #[af r.c,af r.s,af r.mi,af r.ma,af r.t,af r.l], .agg #[af y.is.c,af y.is.s,af y.is.mi,af y.is.ma,af y.is.t,af y.is.l]] w' fun e' w5=>e' = .returned (.tuple #[.agg #[af J.c,af J.s,af J.mi,af J.ma,af J.t,af J.l],af E])/\aq w' w5)
       have ze:=ag CW;have HRC:=ag hrc;clear hr1 hr2 CW hrc;go_cut [10] (fun c wx=>c=af E/\wx.heap[ob]?=some (.cells #[af J.c,af J.s,af J.mi,af J.ma,af J.t,af J.l] 39)/\ob<wx/\Below ob w5 wx)
       case first=>
        obtain⟨o0,o1,o2,o3,o4,o5,z1,z2,z3,z4,z5,z6⟩:=HS _ (aW _ W2)
        go_region_law (go_simp;go_at_call 52;(with_reducible refine(HM.out _).mono ?_);rintro e' w6 ⟨rfl,BE⟩;have ji:aq W2 w6:=aF (show aq W2 W2.drew from (aW _ _).drew) BE aO;have sM:w6.heap[ob]?=_:=(ji.block _ hz2).trans ZL;obtain⟨p0,p1,p2,p3,p4,p5,pf⟩:=cJ sM;have ow:=hb2.trans (ji.mono (Nat.le_of_lt hz2));have E0:=oI hz2 ji.size)
        all_goals
         go_wp2_with fail;go_meet;refine⟨rfl,?_,?_,?_⟩
         ·with_reducible exact jB sM
         ·simp;omega
         ·exact oF
       case rest=>
        obtain⟨rfl,hoc,hzc,hbc⟩:=hcut;have aha:aq w5 wc:=hbc.mono (by have:=HOE.out;omega);have ack:aq W0 wc:=aF lI aha vQ;have amA:=HB _ ack;by_cases hcc:r.c+y.is.c<=1073741824
        ·obtain⟨rfl,rfl⟩:=Prod.mk.inj (ze.symm.trans (qh HRC NY hcc).1);have Bh:=ag (show r.join y.is=bj ((l.take (j+1)).filter (im p a z))/\(r.join y.is).c<=1073741824 from ⟨by rw [PX,HJ.out.1],by rw [dO];exact hcc⟩);generalize r.join y.is=J at *;have HOC:=ag hoc;clear hcc hoc HS hs0 HM ze;go_wp2;go_roundg (l-(j+1))
         case measure=>omega
         case rel=>exact⟨j+1,J,ai,rfl,rfl,by go_num,Bh,HOC,hzc,hbc⟩
        ·obtain⟨rfl,rfl⟩:=Prod.mk.inj (ze.symm.trans ((iL HRC NY).trans (ar hcc)));have HR:=ag (BR Dz rM HL HPI (by
          have e1:=yi MS (im p a z) (j+1);have e2:=dO (bj ((l.take j).filter (im p a z))) y.is;have e3:=HJ.out.1;rw [PX]at e1;rw [<-e3]at e1 e2;unfold bZ;rw [Ci rM,ar (by show ¬(0:Int)+_<=_;omega)]))
         obtain⟨z0,z1,z2,z3,z4,z5,zf⟩:=HZ _ ack;clear hcc hoc HS hs0 HM ze;go_wp2;exact bW (v:= .tuple #[.agg #[af 0,af 0,af 0,af 0,af 0,af 0],af 1]) (by simp [results,Tryz.results22,go_sem, *]) rfl ⟨aj,by rw [HR.1,HR.2];rfl⟩
      ·have hm:mn M a z=false:=(by simpa using hm);have PX:=ag (zZ.trans (ar (by rw [hinr];simp [hm])));rw [hm]at MQ;have MP:=ag MQ;clear jF h5 hy wG hM hQ hq hm hinr MQ;go_upto_region 11 with (fail);go_quiet (first|(go_at_call 48;refine Calls.quiet_of_same (tU _ ?_);exact aj)|(go_at_call 51;exact Calls.quiet_of_same (MP _)));go_wp2;go_roundg (l-(j+1))
       case measure=>omega
       case rel=>exact⟨j+1,r,ai,rfl,rfl,by go_num,ag ⟨HJ.out.1.trans PX.symm,HJ.out.2⟩,ag Qj.out,Z9,oG hb _⟩
     ·have e1:(Q == (p:Int))=false:=(by simp [hq]);have PX:=ag (zZ.trans (ar (by rw [hinr];simp [hq])));clear jF h5 hy wG hM hQ hq hinr MQ;go_upto_region 11 with (fail);go_quiet (first|(go_at_call 48;refine Calls.quiet_of_same (tU _ ?_);exact aj)|fail);go_wp2;go_roundg (l-(j+1))
      case measure=>omega
      case rel=>exact⟨j+1,r,ai,rfl,rfl,by go_num,ag ⟨HJ.out.1.trans PX.symm,HJ.out.2⟩,ag Qj.out,Z9,oG hb _⟩
    ·have HR:=ag (BQ (r:=r) Dz rM HL HPI (by
      obtain⟨h1,h2⟩:=HJ.out;rw [iM ai]at h1;unfold bZ;rw [Ci rM,<-h1,aw (by show (0:Int)+_<=_;omega),fB (by rw [h1];exact dg fun e he=>MS e (nt.1 he).1)]))
     obtain⟨o0,o1,o2,o3,o4,o5,of⟩:=cJ Qj.out;obtain⟨z0,z1,z2,z3,z4,z5,zf⟩:=HZ _ Po;go_wp2;exact bW (v:= .tuple #[.agg #[af r.c,af r.s,af r.mi,af r.ma,af r.t,af r.l],af 0]) (by simp [results,Tryz.results22,go_sem, *]) rfl ⟨aj,by rw [HR.1,HR.2]⟩
  ·have HR:=ag (um (s:=s) e1 hr);by_cases i1:mn a 0 z=true
   ·have i2:decide ((1048575:Int)<z)=true:=by
     have:0<=a/\a<=z:=(by simpa [mn] using i1);simp;exact Int.not_le.1 fun h=>hr ⟨this.1,this.2,h⟩
    rw [i1]at lu;have HI:=ag lu;obtain⟨z0,z1,z2,z3,z4,z5,zf⟩:=HZ _ hb1;clear e1 e2 e3 hr i1 lu;go_wp2_with ((go_at_call 51;(with_reducible refine(HI.out _).mono ?_);rintro e w2 ⟨rfl,hw2⟩;obtain rfl:=hw2.symm));exact bW (v:= .tuple #[.agg #[af 0,af 0,af 0,af 0,af 0,af 0],af 2]) (by simp [results,Tryz.results22,go_sem, *]) rfl ⟨aj,by rw [HR.1,HR.2];rfl⟩
   ·have i1:mn a 0 z=false:=(by simpa using i1);rw [i1]at lu;have HI:=ag lu;obtain⟨z0,z1,z2,z3,z4,z5,zf⟩:=HZ _ hb1;clear e1 e2 e3 hr i1 lu;go_wp2_with ((go_at_call 51;(with_reducible refine(HI.out _).mono ?_);rintro e w2 ⟨rfl,hw2⟩;obtain rfl:=hw2.symm));exact bW (v:= .tuple #[.agg #[af 0,af 0,af 0,af 0,af 0,af 0],af 2]) (by simp [results,Tryz.results22,go_sem, *]) rfl ⟨aj,by rw [HR.1,HR.2];rfl⟩
end
end Go.Proofs.YtmljjfhgciaceaaGreatDoor
