/- Texts of mine that come as one: Series ProRows TotalP TotalA TotalB ProTotal. -/
import Derived.Test.YtmljjfhgciaceaaDoorHd
import Derived.Test.YtmljjfhgciaceaaDoorPS
import Derived.Test.YtmljjfhgciaceaaDoorPC
import Derived.Test.YtmljjfhgciaceaaDoorSO
namespace Go.Proofs.YtmljjfhgciaceaaDoor
open Go.RowKit
section
set_option maxRecDepth 100000
set_option maxHeartbeats 1000000
variable {w:World}
noncomputable def gY (b:Ba) (s:ByteArray):Int:=if bT b s=0 then aG b.names s else 0
theorem yD {v:Value} {b:Ba} {s:ByteArray} (h:bN w v b) (hst:∀s∈b.names,s.size<=140737488351232) (hsz:bS w) :
  Calls Tryd.prog 100 #[v, .string s] w fun e w'=>e = .returned (.tuple #[.int .i64 (gY b s), .int .i64 (bT b s)])/\ah w w':=by
 have HC:=hdd fun w' (hb:ah w w')=>fG (h.below hb) hst (hsz.below hb)
 obtain⟨sa,sc,g0,l0,p0,g1,l1,p1,g2,l2,p2,rfl,hn,jk,T0,T1,T2⟩:=h.open
 obtain⟨W0,hW0⟩:=bQ (w.alloc (.cells (aH sa b.names.length sc g0 l0 p0 g1 l1 p1 g2 l2 p2 b) 35))
 have hb0:ah w W0:=by rw [hW0];exact ag
 have hz0:W0.heap.size=w.heap.size+1:=by rw [hW0];simp
 have k0:W0.heap[w.heap.size]?=some (.cells (aH sa b.names.length sc g0 l0 p0 g1 l1 p1 g2 l2 p2 b) 35):=by rw [hW0];exact aq _ _ rfl
 have HX:=hdd fun w' (hb:ah W0 w')=>(by
  have b0:w'.heap[w.heap.size]?=_:=(hb.block _ af).trans k0
  simp [World.cell?,b0] :
  w'.cell? ⟨w.heap.size,0,none⟩=some (.slice sa b.names.length sc)/\w'.cell? ⟨w.heap.size,1,none⟩=some (.slice g0 l0 p0)/\w'.cell? ⟨w.heap.size,2,none⟩=some (.int .i64 b.t0.root)/\w'.cell? ⟨w.heap.size,3,none⟩=some (.slice g1 l1 p1)/\w'.cell? ⟨w.heap.size,4,none⟩=some (.int .i64 b.t1.root)/\w'.cell? ⟨w.heap.size,5,none⟩=some (.slice g2 l2 p2)/\w'.cell? ⟨w.heap.size,6,none⟩=some (.int .i64 b.t2.root)/\w'.cell? ⟨w.heap.size,7,none⟩=some (.int .i64 b.floor))
 have HB:=hdd fun w' (hb:ah W0 w')=>(Below.trans' hb0 hb hb0.size:ah w w')
 obtain⟨x0,x1,x2,x3,x4,x5,x6,x7⟩:=HX.out W0 (aJ _ _)
 have CN:=hdd fun w' (hb:ah W0 w')=>mQ (s:=s) (jk.below (HB.out w' hb) aI)
 clear h hst hsz jk T0 T1 T2
 go_enter Tryd.func100,Tryd.ntmps100
 go_upto_region 1 with (fail)
 rw [<-hW0]
 clear hW0 k0
 rcases ou b s with ⟨e1,e2⟩|⟨e1,e2,e3⟩|⟨e1,e2,k,hk,e3⟩
 ·have hc:kF b=7:=cS e2
  have HI:=hdd (show gY b s=0 by unfold gY;rw [ai af])
  have HE:=hdd e1
  rw [hc]at HC
  clear hc e1 e2
  go_wp2_with ((go_at_call 31;(with_reducible refine(HC.out _ hb0).mono ?_);rintro e w1 ⟨rfl,hb1⟩))
  go_ret2
  rw [HI.out,HE.out]
  exact⟨rfl,HB.out _ hb1⟩
 ·have hc:kF b=0:=dW e2
  have HI:=hdd (show gY b s=0 by unfold gY;rw [ai af])
  have HE:=hdd e1
  rw [hc]at HC
  rw [e3]at CN
  clear hc e1 e2 e3
  go_wp2_with (first|(go_at_call 31;(with_reducible refine(HC.out _ hb0).mono ?_);rintro e w1 ⟨rfl,hb1⟩;obtain⟨x0,-⟩:=HX.out _ hb1)|(go_at_call 41;(with_reducible refine(CN.out _ hb1).mono ?_);rintro e w2 ⟨rfl,hb2⟩;have hb3:=Below.trans' hb1 hb2 hb1.size))
  go_ret2
  rw [HI.out,HE.out]
  exact⟨rfl,HB.out _ hb3⟩
 ·have hc:kF b=0:=dW e2
  have HI:=hdd (show gY b s=k by unfold gY;rw [ar e1];exact e3)
  have HE:=hdd e1
  have ie:decide ((k:Int)<0)=false:=bq
  rw [hc]at HC
  rw [e3]at CN
  clear hc e1 e2 e3
  go_wp2_with (first|(go_at_call 31;(with_reducible refine(HC.out _ hb0).mono ?_);rintro e w1 ⟨rfl,hb1⟩;obtain⟨x0,-⟩:=HX.out _ hb1)|(go_at_call 41;(with_reducible refine(CN.out _ hb1).mono ?_);rintro e w2 ⟨rfl,hb2⟩;have hb3:=Below.trans' hb1 hb2 hb1.size))
  go_ret2
  rw [HI.out,HE.out]
  exact⟨rfl,HB.out _ hb3⟩
theorem AL (a z:Int) (w:World):Calls Tryd.prog 102 #[.int .i64 a, .int .i64 z] w fun e w'=>e = .returned (.bool (decide (cO a z)))/\w'=w:=by
 by_cases h1:0<=a
 ·have e1:decide (0<=a)=true:=by simp [h1]
  by_cases h2:z<=1048575
  ·have e2:decide (z<=1048575)=true:=by simp [h2]
   by_cases h3:a<=z
   ·have e3:decide (a<=z)=true:=by simp [h3]
    have HR:=hdd (show true=decide (cO a z) by simp [cO,h1,h2,h3])
    clear h1 h2 h3
    go_enter Tryd.func102,Tryd.ntmps102
    go_wp2
    go_ret
    exact⟨dQ HR.out,rfl⟩
   ·have e3:decide (a<=z)=false:=by simp;omega
    have HR:=hdd (show false=decide (cO a z) by simp [cO,h3])
    clear h1 h2 h3
    go_enter Tryd.func102,Tryd.ntmps102
    go_wp2
    go_ret
    exact⟨dQ HR.out,rfl⟩
  ·have e2:decide (z<=1048575)=false:=by simp;omega
   have HR:=hdd (show false=decide (cO a z) by simp [cO,h2])
   clear h1 h2
   go_enter Tryd.func102,Tryd.ntmps102
   go_wp2
   go_ret
   exact⟨dQ HR.out,rfl⟩
 ·have e1:decide (0<=a)=false:=by simp;omega
  have HR:=hdd (show false=decide (cO a z) by simp [cO,h1])
  clear h1
  go_enter Tryd.func102,Tryd.ntmps102
  go_wp2
  go_ret
  exact⟨dQ HR.out,rfl⟩
def wX (n:Int):Int:=if n=1 then 0 else if n=60 then 1 else if n=3600 then 2 else -1
theorem wW (n:Int):(n=1/\wX n=0)\/(n=60/\wX n=1)\/(n=3600/\wX n=2)\/(n≠1/\n≠60/\n≠3600/\wX n = -1):=by
 unfold wX
 by_cases h1:n=1
 ·exact .inl ⟨h1,by rw [ar h1]⟩
 ·by_cases h2:n=60
  ·exact .inr (.inl ⟨h2,by rw [ai h1,ar h2]⟩)
  ·by_cases h3:n=3600
   ·exact .inr (.inr (.inl ⟨h3,by rw [ai h1,ai h2,ar h3]⟩))
   ·exact .inr (.inr (.inr ⟨h1,h2,h3,by rw [ai h1,ai h2,ai h3]⟩))
theorem Al (n:Int) (h:bS w) :
  Calls Tryd.prog 101 #[.slice (some ⟨0,0,none⟩) 3 3, .int .i64 n] w fun e w'=>e = .returned (.int .i64 (wX n))/\w'=w:=by
 obtain⟨-,c0,c1,c2⟩:=h
 rcases wW n with ⟨h1,h2⟩|⟨h1,h2⟩|⟨h1,h2⟩|⟨h1,h3,h4,h2⟩
 ·rw [h2];clear h2;subst h1
  go_enter Tryd.func101,Tryd.ntmps101
  go_wp2_with fail
  go_loopg [8] 3 (fun g i wr=>i = .int .i64 0/\wr=w)
  case atStart=>exact⟨rfl,rfl⟩
  case round=>
   obtain⟨rfl,rfl⟩:=hrel
   go_wp2
   go_ret
   exact⟨rfl,rfl⟩
 ·rw [h2];clear h2;subst h1
  go_enter Tryd.func101,Tryd.ntmps101
  go_wp2_with fail
  go_loopg [8] 3 (fun g i wr=>∃k:Nat,k<=1/\g=3-k/\i = .int .i64 k/\wr=w)
  case atStart=>exact⟨0,af,rfl,rfl,rfl⟩
  case round=>
   obtain⟨k,hk,rfl,rfl,rfl⟩:=hrel
   obtain rfl|rfl:k=0\/k=1:=af
   ·go_wp2
    go_roundg 2
    case measure=>omega
    case rel=>exact⟨1,af,rfl,by go_num,rfl⟩
   ·go_wp2
    go_ret
    exact⟨rfl,rfl⟩
 ·rw [h2];clear h2;subst h1
  go_enter Tryd.func101,Tryd.ntmps101
  go_wp2_with fail
  go_loopg [8] 3 (fun g i wr=>∃k:Nat,k<=2/\g=3-k/\i = .int .i64 k/\wr=w)
  case atStart=>exact⟨0,af,rfl,rfl,rfl⟩
  case round=>
   obtain⟨k,hk,rfl,rfl,rfl⟩:=hrel
   obtain rfl|rfl|rfl:k=0\/k=1\/k=2:=af
   ·go_wp2
    go_roundg 2
    case measure=>omega
    case rel=>exact⟨1,af,rfl,by go_num,rfl⟩
   ·go_wp2
    go_roundg 1
    case measure=>omega
    case rel=>exact⟨2,af,rfl,by go_num,rfl⟩
   ·go_wp2
    go_ret
    exact⟨rfl,rfl⟩
 ·rw [h2];clear h2
  have n1:(n == 1)=false:=by simpa using h1
  have n2:(n == 60)=false:=by simpa using h3
  have n3:(n == 3600)=false:=by simpa using h4
  clear h1 h3 h4
  go_enter Tryd.func101,Tryd.ntmps101
  go_wp2_with fail
  go_loopg [8] 3 (fun g i wr=>∃k:Nat,k<=3/\g=3-k/\i = .int .i64 k/\wr=w)
  case atStart=>exact⟨0,af,rfl,rfl,rfl⟩
  case round=>
   obtain⟨k,hk,rfl,rfl,rfl⟩:=hrel
   obtain rfl|rfl|rfl|rfl:k=0\/k=1\/k=2\/k=3:=af
   ·go_wp2
    go_roundg 2
    case measure=>omega
    case rel=>exact⟨1,af,rfl,by go_num,rfl⟩
   ·go_wp2
    go_roundg 1
    case measure=>omega
    case rel=>exact⟨2,af,rfl,by go_num,rfl⟩
   ·go_wp2
    go_roundg 0
    case measure=>omega
    case rel=>exact⟨3,af,rfl,by go_num,rfl⟩
   ·go_wp2
    go_ret
    exact⟨rfl,rfl⟩
end
section
set_option maxRecDepth 100000
set_option maxHeartbeats 4000000
variable {b:Ba} {s:ByteArray} {n a z:Int} {k:Nat}
def NS (B:Nat) (w:World) (out:List aA) (E:Int) (e:Ending) (w':World):Prop:=Below B w w'/\∃v,e = .returned (.tuple #[v, .int .i64 E])/\OwnRows B w' v out
theorem sV (hk:k<3) (h:n=aR k):n=1\/n=60\/n=3600:=by
 obtain rfl|rfl|rfl:k=0\/k=1\/k=2:=af
 ·exact .inl h
 ·exact .inr (.inl h)
 ·exact .inr (.inr h)
theorem wV (n:Int):(∃k,k<3/\n=aR k/\wX n=k)\/(n≠1/\n≠60/\n≠3600/\wX n = -1):=by
 rcases wW n with ⟨h1,h2⟩|⟨h1,h2⟩|⟨h1,h2⟩|h
 ·exact .inl ⟨0,aW,h1,h2⟩
 ·exact .inl ⟨1,aW,h1,h2⟩
 ·exact .inl ⟨2,aW,h1,h2⟩
 ·exact .inr h
theorem pL (h:bT b s≠0):ey b s n a z=bT b s/\nR b s n a z=[]:=by
 have h1:ey b s n a z=bT b s:=by unfold ey;rw [ar h]
 exact⟨h1,by unfold nR;rw [ai (by rw [h1];exact h)]⟩
theorem yF (h:bT b s=0) (hn:n≠1/\n≠60/\n≠3600):ey b s n a z=3/\nR b s n a z=[]:=by
 have h1:ey b s n a z=3:=by unfold ey;rw [ai (iF h),ar hn]
 exact⟨h1,by unfold nR;rw [ai (by rw [h1];decide)]⟩
theorem wY (h:bT b s=0) (hk:k<3) (hn:n=aR k) (hr:¬cO a z):ey b s n a z=2/\nR b s n a z=[]:=by
 have h0:=sV hk hn
 have h1:ey b s n a z=2:=by unfold ey;rw [ai (iF h),ai af,ar hr]
 exact⟨h1,by unfold nR;rw [ai (by rw [h1];decide)]⟩
theorem FJ (h:bT b s=0) (hk:k<3) (hn:n=aR k) (hr:cO a z) (hl:500<(sG b s n a z).length):ey b s n a z=1/\nR b s n a z=[]:=by
 have h0:=sV hk hn
 have h1:ey b s n a z=1:=by unfold ey;rw [ai (iF h),ai af,ai (iF hr),ar hl]
 exact⟨h1,by unfold nR;rw [ai (by rw [h1];decide)]⟩
theorem Ls (h:bT b s=0) (hk:k<3) (hn:n=aR k) (hr:cO a z) (hl:¬500<(sG b s n a z).length):ey b s n a z=0/\nR b s n a z=sG b s n a z:=by
 have h0:=sV hk hn
 have h1:ey b s n a z=0:=by unfold ey;rw [ai (iF h),ai af,ai (iF hr),ai hl]
 exact⟨h1,by unfold nR;rw [ar h1]⟩
theorem Lp {v:Value} {w:World} (h:bN w v b) (hst:∀s∈b.names,s.size<=140737488351232) (hsz:bS w) :
  Calls Tryd.prog 83 #[v, .string s, .int .i64 n, .int .i64 a, .int .i64 z] w (NS w.heap.size w (nR b s n a z) (ey b s n a z)):=by
 have qD:=hdd fun w' (hb:ah w w')=>yD (s:=s) (h.below hb) hst (hsz.below hb)
 obtain⟨sa,sc,g0,l0,p0,g1,l1,p1,g2,l2,p2,rfl,hn,jk,T0,T1,T2⟩:=h.open
 obtain⟨W0,hW0⟩:=bQ (w.alloc (.cells (aH sa b.names.length sc g0 l0 p0 g1 l1 p1 g2 l2 p2 b) 35))
 have hb0:ah w W0:=by rw [hW0];exact ag
 have hz0:W0.heap.size=w.heap.size+1:=by rw [hW0];simp
 have k0:W0.heap[w.heap.size]?=some (.cells (aH sa b.names.length sc g0 l0 p0 g1 l1 p1 g2 l2 p2 b) 35):=by rw [hW0];exact aq _ _ rfl
 have HX:=hdd fun w' (hb:ah W0 w')=>(by
  have b0:w'.heap[w.heap.size]?=_:=(hb.block _ af).trans k0
  simp [World.cell?,b0] :
  w'.cell? ⟨w.heap.size,0,none⟩=some (.slice sa b.names.length sc)/\w'.cell? ⟨w.heap.size,1,none⟩=some (.slice g0 l0 p0)/\w'.cell? ⟨w.heap.size,2,none⟩=some (.int .i64 b.t0.root)/\w'.cell? ⟨w.heap.size,3,none⟩=some (.slice g1 l1 p1)/\w'.cell? ⟨w.heap.size,4,none⟩=some (.int .i64 b.t1.root)/\w'.cell? ⟨w.heap.size,5,none⟩=some (.slice g2 l2 p2)/\w'.cell? ⟨w.heap.size,6,none⟩=some (.int .i64 b.t2.root)/\w'.cell? ⟨w.heap.size,7,none⟩=some (.int .i64 b.floor))
 have HB:=hdd fun w' (hb:ah W0 w')=>(Below.trans' hb0 hb hb0.size:ah w w')
 obtain⟨x0,x1,x2,x3,x4,x5,x6,x7⟩:=HX.out W0 (aJ _ _)
 have sy:=hdd fun w' (hb:ah W0 w')=>(hsz.below (HB.out w' hb):bS w')
 have KH:=hdd fun w' (hb:ah W0 w')=>Al n (sy.out w' hb)
 have KZ:=hdd fun w' lo hi (hb:ah W0 w')=>iK (lo:=lo) (hi:=hi) (T0 w' (HB.out w' hb))
 have N1:=hdd fun w' lo hi (hb:ah W0 w')=>iK (lo:=lo) (hi:=hi) (T1 w' (HB.out w' hb))
 have rD:=hdd fun w' lo hi (hb:ah W0 w')=>iK (lo:=lo) (hi:=hi) (T2 w' (HB.out w' hb))
 clear h hst hsz jk T0 T1 T2
 go_enter Tryd.func83,Tryd.ntmps83
 go_upto_region 1 with (fail)
 rw [<-hW0]
 clear hW0 k0
 rcases ou b s with ⟨e1,e2⟩|⟨e1,e2,e3⟩|⟨e1,e2,p,hp,e3⟩
 ·obtain⟨r1,r2⟩:=pL (n:=n) (a:=a) (z:=z) (show bT b s≠0 by omega)
  have HR:=hdd (aM (r1.trans e1) r2)
  rw [e1]at qD
  clear e1 e2 r1 r2
  go_wp2_with ((go_at_call 100;(with_reducible refine(qD.out _ hb0).mono ?_);rintro e w1 ⟨rfl,hb1⟩))
  go_ret2
  rw [HR.out.1,HR.out.2]
  exact⟨HB.out _ hb1,_,rfl,OwnRows.nil _ _⟩
 ·obtain⟨r1,r2⟩:=pL (n:=n) (a:=a) (z:=z) (show bT b s≠0 by omega)
  have HR:=hdd (aM (r1.trans e1) r2)
  rw [e1]at qD
  clear e1 e2 e3 r1 r2
  go_wp2_with ((go_at_call 100;(with_reducible refine(qD.out _ hb0).mono ?_);rintro e w1 ⟨rfl,hb1⟩))
  go_ret2
  rw [HR.out.1,HR.out.2]
  exact⟨HB.out _ hb1,_,rfl,OwnRows.nil _ _⟩
 ·have hI:gY b s=p:=by unfold gY;rw [ar e1];exact e3
  rw [e1,hI]at qD
  clear hI
  go_upto_region 4 with ((go_at_call 100;(with_reducible refine(qD.out _ hb0).mono ?_);rintro e w1 ⟨rfl,hb1⟩;obtain⟨x0,x1,x2,x3,x4,x5,x6,x7⟩:=HX.out _ hb1))
  have D8:=HB.out _ hb1
  rcases wV n with ⟨k,hk,U4,hi⟩|⟨n1,n2,n3,hi⟩
  ·rw [hi]at KH
   have SY:decide ((k:Int)<0)=false:=bq
   have HT:=hdd (AL a z)
   by_cases hr:cO a z
   ·have htd:decide (cO a z)=true:=by simp [hr]
    rw [htd]at HT
    obtain⟨m,q1,q2,q3,q4,q5⟩:=C5 (s:=s) e2 hk hr
    rw [e3]at q1 q3
    rw [<-U4]at q1
    obtain⟨hr1,hr2,hr3⟩:=id hr
    obtain⟨lo,hlo⟩:=bw ((p:Int)*1048576+a)
    obtain⟨hi',hhi⟩:=bw ((p:Int)*1048576+z+1)
    rw [hlo,hhi]at q1 q3
    have m1:IntKind.i64.wrap ((p:Int)*1048576)=(p:Int)*1048576:=IntWalk.i64_in _ af
    have m2:IntKind.i64.wrap ((p:Int)*1048576+a)=lo:=by rw [hlo];exact IntWalk.i64_in _ af
    have m3:IntKind.i64.wrap ((p:Int)*1048576+z)=(p:Int)*1048576+z:=IntWalk.i64_in _ af
    have m4:IntKind.i64.wrap ((p:Int)*1048576+z+1)=hi':=by rw [hhi];exact IntWalk.i64_in _ af
    obtain⟨ms,YR⟩:=bw (m.filter (aU lo hi'))
    have hmk:∀y∈ms,0<=y.key/\y.key<1099511627776:=fun y hy=>by rw [<-YR]at hy;exact q5.2.1 y (js.1 hy).1
    have CJ:ms.length<=50000:=by rw [<-YR];exact gT (tO _ _) q5.2.2
    rw [YR]at q1 q3
    have HL:=hdd q1
    have Yd:=hdd hmk
    have N4:=hdd e1
    have HN3:=hdd U4
    have n7:=hdd hr
    have OS:=hdd q2
    have Fe:=hdd q3
    have ie:(0:Int)<=(k:Int):=af
    have hk3:(k:Int)<3:=af
    clear q1 q2 q3 q4 q5 YR hlo hhi hr htd hr1 hr2 hr3 e1 e2 e3 hmk U4 hi qD
    go_upto_region 9 with (first|(go_at_call 101;(with_reducible refine(KH.out _ hb1).mono ?_);rintro e w2 ⟨rfl,hw2⟩;obtain rfl:=hw2.symm)|(go_at_call 102;(with_reducible refine(HT.out _).mono ?_);rintro e w2 ⟨rfl,hw2⟩;obtain rfl:=hw2.symm))
    go_cut [15,13] (fun u c wx=>∃su sd,u = .slice su ms.length sd/\c = .int .i64 0/\av w1.heap.size wx (.slice su ms.length sd) ms/\ah w1 wx)
    case first=>
     obtain rfl|rfl|rfl:k=0\/k=1\/k=2:=af
     ·have HA:=hdd (KZ.out w1 lo hi' hb1)
      go_wp2_with ((go_at_call 55;(with_reducible refine HA.out.mono ?_);rintro e w3 ⟨hb3,-,hok⟩;have hok:=hok OS.out;rw [show kH b.t0 lo hi'=some ms from Fe.out]at hok;obtain⟨v3,rfl,kY⟩:=hok;obtain⟨su,sd,rfl⟩:=kY.isSlice))
      go_meet
      exact⟨_,_,rfl,rfl,kY,hb3⟩
     ·have HA:=hdd (N1.out w1 lo hi' hb1)
      go_wp2_with ((go_at_call 55;(with_reducible refine HA.out.mono ?_);rintro e w3 ⟨hb3,-,hok⟩;have hok:=hok OS.out;rw [show kH b.t1 lo hi'=some ms from Fe.out]at hok;obtain⟨v3,rfl,kY⟩:=hok;obtain⟨su,sd,rfl⟩:=kY.isSlice))
      go_meet
      exact⟨_,_,rfl,rfl,kY,hb3⟩
     ·have HA:=hdd (rD.out w1 lo hi' hb1)
      go_wp2_with ((go_at_call 55;(with_reducible refine HA.out.mono ?_);rintro e w3 ⟨hb3,-,hok⟩;have hok:=hok OS.out;rw [show kH b.t2 lo hi'=some ms from Fe.out]at hok;obtain⟨v3,rfl,kY⟩:=hok;obtain⟨su,sd,rfl⟩:=kY.isSlice))
      go_meet
      exact⟨_,_,rfl,rfl,kY,hb3⟩
    case rest=>
     obtain⟨su,sd,rfl,rfl,kY,hb3⟩:=hcut
     rename World=>w3
     have vW:ah w w3:=Below.trans' D8 hb3 D8.size
     clear x0 x1 x2 x3 x4 x5 x6 x7 m1 m2 m3 m4 KH HT
     by_cases hl:500<ms.length
     ·have MG:decide ((500:Int)<(ms.length:Int))=true:=by simp;omega
      have HR:=hdd (FJ N4.out hk HN3.out n7.out (by rw [HL.out,nA];exact hl))
      clear hl
      go_wp2
      go_ret2
      rw [HR.out.1,HR.out.2]
      exact⟨vW,_,rfl,OwnRows.nil _ _⟩
     ·have MG:decide ((500:Int)<(ms.length:Int))=false:=by simp;omega
      have HR:=hdd (Ls N4.out hk HN3.out n7.out (by rw [HL.out,nA];exact hl))
      clear hl
      have RH:=hdd (kY.at af)
      clear kY
      go_wp2_with fail
      clear MG
      go_loopg [16,62] ms.length (fun g out i wr=>∃j:Nat,j<=ms.length/\g=ms.length-j/\i = .int .i64 j/\OwnRows w3.heap.size wr out ((ms.take j).map rowOf)/\ah w3 wr)
      case atStart=>exact⟨0,iN _,rfl,rfl,OwnRows.nil _ _,aJ _ _⟩
      case round=>
       obtain⟨j,hj,rfl,rfl,hown,hb⟩:=hrel
       have hzb:=hb.size
       have di:=Below.trans' vW hb vW.size
       by_cases hlt:j<ms.length
       ·obtain⟨_,_,hv,-,-,-,-,h5⟩:=RH.out
        injection hv with hv1 _ hv3
        subst hv1 hv3
        obtain⟨eb,bZ,lR,rW,nH⟩:=h5 af
        subst lR
        obtain⟨y0,y1,y2,y3,y4,y5,y6⟩:=bR hb rW nH hlt
        obtain⟨y,hy⟩:=bw (ms[j])
        rw [hy]at y0 y1 y2 y3 y4 y5 y6
        obtain⟨ie,hk1⟩:=Yd.out y (by rw [<-hy];exact fO hlt)
        obtain⟨M,hM⟩:=bw (y.key%1048576)
        have Bv:=hdd (show (ms.take (j+1)).map rowOf=(ms.take j).map rowOf++[⟨M,y.is⟩] by rw [mn hlt,tL,hy];simp [rowOf,hM])
        have m1:y.key.tmod 1048576=M:=by rw [xO ie];exact hM
        have m4:IntKind.i64.wrap M=M:=IntWalk.i64_in _ af
        have hlo:((ms.take j).map rowOf).length<=1000000:=by rw [nA,fw];omega
        have kS:=fun w'=>dD (ab:=eb) (aY:=bZ) (n:=ms.length) (cap:=sd) (show (j:Int)=((j:Nat):Int) by rfl) hlt w'
        have hwz:eb<wr.heap.size:=af
        obtain⟨os,hos⟩:=bw ((ms.take j).map rowOf)
        rw [hos]at hown Bv hlo
        obtain⟨so,sc2,rfl⟩:=hown.isSlice
        obtain⟨W1,hW1⟩:=bQ (wr.alloc (.cells #[.int .i64 y.key, .int .i64 y.is.c, .int .i64 y.is.s, .int .i64 y.is.mi, .int .i64 y.is.ma, .int .i64 y.is.t, .int .i64 y.is.l] 96))
        have hb1:ah wr W1:=by rw [hW1];exact ag
        have k1:W1.heap[wr.heap.size]?=some (.cells #[.int .i64 y.key, .int .i64 y.is.c, .int .i64 y.is.s, .int .i64 y.is.mi, .int .i64 y.is.ma, .int .i64 y.is.t, .int .i64 y.is.l] 96):=by rw [hW1];exact aq _ _ rfl
        have vz:ah w3 W1:=Below.trans' hb hb1 hzb
        have hzn:=vz.size
        obtain⟨q0,q1,q2,q3,q4,q5,q6⟩:W1.cell? ⟨wr.heap.size,0,none⟩=some (.int .i64 y.key)/\W1.cell? ⟨wr.heap.size,1,none⟩=some (.int .i64 y.is.c)/\W1.cell? ⟨wr.heap.size,2,none⟩=some (.int .i64 y.is.s)/\W1.cell? ⟨wr.heap.size,3,none⟩=some (.int .i64 y.is.mi)/\W1.cell? ⟨wr.heap.size,4,none⟩=some (.int .i64 y.is.ma)/\W1.cell? ⟨wr.heap.size,5,none⟩=some (.int .i64 y.is.t)/\W1.cell? ⟨wr.heap.size,6,none⟩=some (.int .i64 y.is.l):=by simp [World.cell?,k1]
        have hown1:OwnRows w3.heap.size W1 (.slice so os.length sc2) os:=hown.below hb1 aI
        clear nH h5 hy hM hos
        go_upto_region 18 with (fail)
        rw [<-hW1]
        clear hW1 k1 hown y0 y1 y2 y3 y4 y5 y6
        go_wp2_with ((at_builtin;refine tY rfl (.tmp 66) (.tmp 73) rfl w3.heap.size _ os rfl (by repeat (first|assumption|with_reducible refine OwnRows.alloc ?_ _|with_reducible refine OwnRows.drewN ?_ _|with_reducible refine OwnRows.drew ?_)) ⟨_,0,none⟩ ⟨M,y.is⟩ rfl (fun j u h=>mR h) hlo (by first|omega|(simp;done)|(simp;omega)|(simp [aL];done)|(simp [aL];omega)) ?_;intro v4 w4 BP hg4;have hb4:=hg4 w3.heap.size w3 ag aI))
        go_roundg (ms.length-(j+1))
        case measure=>omega
        case rel=>exact⟨j+1,af,rfl,by go_num,by rw [Bv.out];exact BP,hb4⟩
       ·have hall:ms.take j=ms:=kJ af
        rw [hall]at hown
        clear hall
        go_wp2
        go_ret2
        rw [HR.out.1,HR.out.2,HL.out]
        exact⟨di,_,rfl,hown.mono vW.size⟩
   ·have htd:decide (cO a z)=false:=by simp [hr]
    rw [htd]at HT
    have HR:=hdd (wY (s:=s) e1 hk U4 hr)
    clear e1 e2 e3 hr htd U4
    go_wp2_with (first|(go_at_call 101;(with_reducible refine(KH.out _ hb1).mono ?_);rintro e w2 ⟨rfl,hw2⟩;obtain rfl:=hw2.symm)|(go_at_call 102;(with_reducible refine(HT.out _).mono ?_);rintro e w2 ⟨rfl,hw2⟩;obtain rfl:=hw2.symm))
    go_ret2
    rw [HR.out.1,HR.out.2]
    exact⟨D8,_,rfl,OwnRows.nil _ _⟩
  ·have HR:=hdd (yF (a:=a) (z:=z) e1 ⟨n1,n2,n3⟩)
   rw [hi]at KH
   clear e1 e2 e3 n1 n2 n3 hi
   go_wp2_with ((go_at_call 101;(with_reducible refine(KH.out _ hb1).mono ?_);rintro e w2 ⟨rfl,hw2⟩;obtain rfl:=hw2.symm))
   go_ret2
   rw [HR.out.1,HR.out.2]
   exact⟨D8,_,rfl,OwnRows.nil _ _⟩
end
end Go.Proofs.YtmljjfhgciaceaaDoor
namespace Go.Proofs.YtmljjfhgciaceaaDoor
section
variable {p lo hi:Int} {l:List aA} {a T U:au}
def aN:List aA->au
 |[]=>au.zero
 |e::l=>e.is.join (aN l)
theorem cg (h:ir l):(aN l).iu:=by
 induction l with
 |nil=>exact rZ
 |cons e l ih=>exact iy h.cons.1 (ih h.cons.2)
theorem qT {a b:List aA} (ha:ir a) (hb:ir b):aN (a++b)=(aN a).join (aN b):=by
 induction a with
 |nil=>exact(eH (cg hb)).symm
 |cons e l ih=>
  have:=ha.cons
  simp only [List.cons_append,aN]
  rw [ih this.2,join_assoc this.1 (cg this.2) (cg hb)]
theorem DI {x:aA} (h:ir l) (hx:x.is.iu):aN (ins l x)=(aN l).join x.is:=by
 induction l with
 |nil=>simp only [ins,aN];rw [cZ,eH hx]
 |cons e l ih=>
  have hc:=h.cons
  have hf:=cg hc.2
  unfold ins
  split
  ·simp only [aN];rw [ih hc.2,join_assoc hc.1 hf hx]
  ·split
   ·simp only [aN];rw [join_assoc hc.1 hx hf,join_assoc hc.1 hf hx,join_comm hx hf]
   ·simp only [aN];rw [join_comm (iy hc.1 hf) hx]
theorem Ak:∀{m:List aA},aV m/\aT m->aT l->aN (l.foldl ins m)=(aN m).join (aN l):=by
 induction l with
 |nil=>intro m hm _;simp only [List.foldl_nil,aN];rw [cZ]
 |cons x l ih=>
  intro m hm hl
  have hc:=hl.cons
  rw [List.foldl_cons,ih ⟨jF hm.1,jc hm.2 hc.1⟩ hc.2,DI hm.2.dm (.inr hc.1)]
  simp only [aN]
  rw [join_assoc (cg hm.2.dm) (.inr hc.1) (cg hc.2.dm)]
theorem xg (h:aT l):aN (jJ l)=aN l:=by
 have:=Ak (m:=[]) ⟨List.Pairwise.nil,fun _ h=>by cases h⟩ h
 unfold jJ;rw [this];exact eH (cg h.dm)
theorem xe {f:aA->aA} (hf:∀e,(f e).is=e.is) (l:List aA):aN (l.map f)=aN l:=by
 induction l with
 |nil=>rfl
 |cons e l ih=>simp only [List.map_cons,aN];rw [ih,hf]
theorem pU (h:ir l) (p:aA->Bool):ir (l.filter p):=fun e he=>h e (js.1 he).1
theorem Aj (h:ir l) {p q r:aA->Bool} (hr:∀e∈l,r e=(p e || q e)) (hd:∀e∈l,¬(p e=true/\q e=true)) :
  aN (l.filter r)=(aN (l.filter p)).join (aN (l.filter q)):=by
 induction l with
 |nil=>simp only [List.filter_nil,aN];rw [cZ]
 |cons e l ih=>
  have hc:=h.cons
  have ih:=ih hc.2 (fun x hx=>hr x (by simp [hx])) (fun x hx=>hd x (by simp [hx]))
  have h1:=hr e bq
  have h2:=hd e bq
  have fp:=cg (pU hc.2 p)
  have fq:=cg (pU hc.2 q)
  cases hp:p e with
  |true=>
   cases hq:q e with
   |true=>exact absurd ⟨hp,hq⟩ h2
   |false=>
    rw [hp,hq]at h1
    rw [tN (by simpa using h1),tN hp,sx (by simp [hq])]
    simp only [aN]
    rw [ih,join_assoc hc.1 fp fq]
  |false=>
   cases hq:q e with
   |true=>
    rw [hp,hq]at h1
    rw [tN (by simpa using h1),sx (by simp [hp]),tN hq]
    simp only [aN]
    rw [ih,<-join_assoc fp hc.1 fq,join_comm fp hc.1,join_assoc hc.1 fp fq]
   |false=>
    rw [hp,hq]at h1
    rw [sx (by simp [h1]),sx (by simp [hp]),sx (by simp [hq]),ih]
def eF (l:List aA) (p lo hi:Int):au:=aN (l.filter (aU (p*1048576+lo) (p*1048576+hi)))
theorem Jv (h:hi<=lo):eF l p lo hi=au.zero:=by
 unfold eF
 rw [List.filter_eq_nil_iff.2 fun e _=>by simp [aU];omega];rfl
theorem rN (h:ir l) (p lo hi:Int):(eF l p lo hi).iu:=cg (pU h _)
theorem yJ (h:ir l) {mid:Int} (h1:lo<=mid) (h2:mid<=hi):eF l p lo hi=(eF l p lo mid).join (eF l p mid hi):=by
 unfold eF
 refine Aj h (fun e _=>?_) fun e _=>?_
 ·rw [Bool.eq_iff_iff];simp [aU];omega
 ·simp [aU];omega
theorem qP {m:List aA} {k:Nat} (hg:dY l) (hm:bU l (aR k)=some m) (h0:0<=lo) (h1:hi<=1048576) (h2:lo%aR k=0) (h3:hi%aR k=0) :
  aN (m.filter (aU (p*1048576+lo) (p*1048576+hi)))=eF l p lo hi:=by
 unfold bU at hm
 have hgb:=eB (gJ k) hg
 have hb:=rq hgb.1 hm fun x=>decide (p*1048576+lo<=x) && decide (x<p*1048576+hi)
 obtain⟨h4,_,_,_,_⟩:=fT (iU hgb.1) hb
 have e1:m.filter (aU (p*1048576+lo) (p*1048576+hi))=m.filter (fun e=>decide (p*1048576+lo<=e.key) && decide (e.key<p*1048576+hi)):=rfl
 rw [e1,h4,xg (ky hgb.1.bJ _),List.filter_map,xe (f:=bucket (aR k)) (fun _=>rfl)]
 unfold eF
 congr 1
 refine List.filter_congr fun e he=>?_
 have hk:=hg.2.1 e he
 show (decide (p*1048576+lo<=e.key-e.key%1048576%aR k) && decide (e.key-e.key%1048576%aR k<p*1048576+hi))=aU _ _ e
 unfold aU
 rw [Bool.eq_iff_iff]
 simp only [Bool.and_eq_true,sk]
 have hm0:=Int.emod_nonneg e.key (show (1048576:Int)≠0 by decide)
 have Gz:=Int.emod_lt_of_pos e.key (show (0:Int)<1048576 by decide)
 have PR:=Int.emod_nonneg (e.key%1048576) (show aR k≠0 by have:=gJ k;omega)
 have hr1:=mod_le hm0 (gJ k)
 rcases Int.lt_trichotomy (e.key/1048576) p with h|h|h
 ·omega
 ·subst h
  have e2:e.key=e.key/1048576*1048576+e.key%1048576:=af
  generalize e.key/1048576=q at *
  generalize e.key%1048576=m at *
  rw [e2]
  unfold aR at *
  split at h2
  ·rename_i ie;rw [ar ie]at *;omega
  ·rename_i ie
   split at h2
   ·rename_i hk1;rw [ai ie,ar hk1]at *;omega
   ·rename_i hk1;rw [ai ie,ai hk1]at *;omega
 ·omega
def bH (a T:au):Option au:=if a.c+T.c<=1073741824 then some (a.join T)else none
theorem xd (ha:a.iu) (hT:T.iu) (hU:U.iu):(bH a T).bind (fun r=>bH r U)=bH a (T.join U):=by
 have h1:=dC a T
 have h2:=dC T U
 have h3:=hU.pos
 unfold bH
 by_cases h:a.c+T.c<=1073741824
 ·rw [ar h]
  show (if (a.join T).c+U.c<=1073741824 then _ else _)=_
  rw [h1,h2,join_assoc ha hT hU]
  by_cases h':a.c+T.c+U.c<=1073741824
  ·rw [ar h',ar af]
  ·rw [ai h',ai af]
 ·rw [ai h,ai af];rfl
theorem uy (hU:U.iu) (h:bH a T=none):bH a (T.join U)=none:=by
 have h2:=dC T U
 have h3:=hU.pos
 unfold bH at *
 split at h
 ·cases h
 ·rw [ai af]
theorem BS (h:a.c<=1073741824):bH a au.zero=some a:=by
 unfold bH
 rw [ar (by show a.c+0<=1073741824;omega),cZ]
theorem ux {r:au} (ha:a.iu) (hT:T.iu) (h:bH a T=some r):r.iu/\r.c<=1073741824:=by
 unfold bH at h
 split at h
 ·simp only [iE]at h
  subst h
  exact⟨iy ha hT,by rw [dC];omega⟩
 ·cases h
noncomputable def mA (b:Ba) (s:ByteArray) (a z:Int):Int:=
 if bT b s≠0 then bT b s else if ¬cO a z then 2 else match bW b with|none=>0|some l=>match bH au.zero (eF l (aG b.names s) a (z+1)) with|none=>1|some _=>0
noncomputable def mz (b:Ba) (s:ByteArray) (a z:Int):au:=
 if bT b s≠0 then au.zero else if ¬cO a z then au.zero else match bW b with|none=>au.zero|some l=>match bH au.zero (eF l (aG b.names s) a (z+1)) with|none=>au.zero|some r=>r
end
open Go.RowKit
section
set_option maxRecDepth 100000
set_option maxHeartbeats 4000000
variable {b:Ba} {lo hi:Int} {l:List aA} {ob k p:Nat} {w:World}
structure NP (W:World) (bb ib ob:Nat) (b:Ba) (l:List aA) (p:Nat) (sa:Option Addr) (sc:Nat) (g0:Option Addr) (l0 p0:Nat) (g1:Option Addr) (l1 p1:Nat) (g2:Option Addr) (l2 p2:Nat):Prop where
 bo:bb<ob
 io:ib<ob
 oW:ob<W.heap.size
 base:W.heap[bb]?=some (.cells (aH sa b.names.length sc g0 l0 p0 g1 l1 p1 g2 l2 p2 b) 35)
 ix:W.heap[ib]?=some (.cells #[.int .i64 p] 3)
 YC:∀w',Below ob W w'->bL w' (.agg #[.slice g0 l0 p0, .int .i64 b.t0.root]) b.t0
 YB:∀w',Below ob W w'->bL w' (.agg #[.slice g1 l1 p1, .int .i64 b.t1.root]) b.t1
 YA:∀w',Below ob W w'->bL w' (.agg #[.slice g2 l2 p2, .int .i64 b.t2.root]) b.t2
 sizes:∀w',Below ob W w'->bS w'
 may:aQ b=true
 book:bW b=some l
 small:p<16
def EU (W:World) (ob:Nat) (r:au) (w:World):Prop:=Below ob W w/\w.heap[ob]?=some (.cells #[.int .i64 r.c, .int .i64 r.s, .int .i64 r.mi, .int .i64 r.ma, .int .i64 r.t, .int .i64 r.l] 42)
def fD (W:World) (ob:Nat) (a T:au) (e:Ending) (w':World):Prop:=
 ∃r,EU W ob r w'/\match bH a T with|none=>e = .returned (.int .i64 1)|some r'=>r'=r/\e = .returned (.int .i64 0)
theorem aw.at {a:World} (h:aw (fun x=>x=ob) a w) (o:Nat) (u:Value):aw (fun x=>x=ob) a (w.setCell ⟨ob,o,none⟩ u):=h.setCell (.inl rfl) u
theorem mB (h:ir l) (j:Nat):(aN (l.take j)).c<=(aN l).c:=by
 have h1:aN l=(aN (l.take j)).join (aN (l.drop j)):=by
  conv=>lhs;rw [<-wG j l]
  exact qT (fun e he=>h e (wH he)) (fun e he=>h e (ve he))
 have h2:=(cg (l:=l.drop j) fun e he=>h e (ve he)).pos
 rw [h1,dC];omega
theorem uB (h:ir l) {j:Nat} (hj:j<l.length):aN (l.take (j+1))=(aN (l.take j)).join l[j].is:=by
 rw [mn hj,qT (fun e he=>h e (wH he)) (fun e he=>by simp at he;subst he;exact h _ (fO _))]
 simp only [aN];rw [cZ]
theorem Lb (hm:aQ b=true) (hl:bW b=some l) (hk:k<3) (h0:0<=lo) (h1:hi<=1048576) (h2:lo%aR k=0/\hi%aR k=0) :
  ∃ms,ax (b.tree k)=0/\kH (b.tree k) ((p:Int)*1048576+lo) ((p:Int)*1048576+hi)=some ms/\aN ms=eF l p lo hi/\(∀e∈ms,aj e.is=0)/\ms.length<=50000:=by
 obtain⟨l',hl',_,hg,ht⟩:=iW hm
 rw [hl]at hl'
 simp only [iE]at hl'
 subst hl'
 obtain⟨m,e1,e2⟩:=ht k hk
 obtain⟨e3,e4⟩:=ER e2 ((p:Int)*1048576+lo) ((p:Int)*1048576+hi)
 refine⟨_,e3,e4,qP hg e1 h0 h1 h2.1 h2.2,fun e he=>((fI e2).2.1 e (js.1 he).1).2,gT (tO _ _) (fI e2).2.2.2⟩
theorem yz {W:World} {bb ib:Nat} {sa:Option Addr} {sc:Nat} {g0:Option Addr} {l0 p0:Nat} {g1:Option Addr} {l1 p1:Nat} {g2:Option Addr} {l2 p2:Nat}
  (HW:NP W bb ib ob b l p sa sc g0 l0 p0 g1 l1 p1 g2 l2 p2) (hk:k<3) (h0:0<=lo) (hlo:lo<=1048576) (h1:0<=hi) (hhi:hi<=1048576) (h2:lo<hi->lo%aR k=0/\hi%aR k=0) {a:au} (ha:aj a=0) (hs:EU W ob a w) :
  Calls Tryd.prog 103 #[.int .i64 k, .int .i64 lo, .int .i64 hi, .pointer (some ⟨bb,0,none⟩), .pointer (some ⟨ib,0,none⟩), .pointer (some ⟨ob,0,none⟩)] w (fD W ob a (eF l p lo hi)):=by
 obtain⟨di,oN⟩:=id hs
 obtain⟨Bf,YU,hoW,hbase,kS,YC,YB,YA,-,qz,uK,hsm⟩:=HW
 have UU:=di.size
 have HS:=hdd hs
 have HA:=hdd ha
 by_cases hlt:lo<hi
 ·have MG:decide (hi<=lo)=false:=by simp;omega
  obtain⟨ms,q1,q2,q3,q4,q5⟩:=Lb (p:=p) qz uK hk h0 hhi (h2 hlt)
  obtain⟨lo',SR⟩:=bw ((p:Int)*1048576+lo)
  obtain⟨hi',S5⟩:=bw ((p:Int)*1048576+hi)
  rw [SR,S5]at q2
  have m1:IntKind.i64.wrap ((p:Int)*1048576)=(p:Int)*1048576:=IntWalk.i64_in _ af
  have m2:IntKind.i64.wrap ((p:Int)*1048576+lo)=lo':=by rw [SR];exact IntWalk.i64_in _ af
  have m3:IntKind.i64.wrap ((p:Int)*1048576+hi)=hi':=by rw [S5];exact IntWalk.i64_in _ af
  have HQ1:=hdd q1
  have OS:=hdd q2
  have Fe:=hdd q3
  have HQ4:=hdd q4
  have OY:=hdd (show ir ms from fun e he=>((fk _).1 (q4 e he)).1)
  have Vt:=hdd ((fk a).1 ha)
  obtain⟨b0,b1,b2,b3,b4,b5⟩:w.cell? ⟨bb,1,none⟩=some (.slice g0 l0 p0)/\w.cell? ⟨bb,2,none⟩=some (.int .i64 b.t0.root)/\w.cell? ⟨bb,3,none⟩=some (.slice g1 l1 p1)/\w.cell? ⟨bb,4,none⟩=some (.int .i64 b.t1.root)/\w.cell? ⟨bb,5,none⟩=some (.slice g2 l2 p2)/\w.cell? ⟨bb,6,none⟩=some (.int .i64 b.t2.root):=by
   have b0:w.heap[bb]?=_:=(di.block _ Bf).trans hbase
   simp [World.cell?,b0]
  have i0:w.cell? ⟨ib,0,none⟩=some (.int .i64 p):=by
   have b0:w.heap[ib]?=_:=(di.block _ YU).trans kS
   simp [World.cell?,b0]
  have KZ:=hdd fun w' lo hi (hb:Below ob W w')=>iK (lo:=lo) (hi:=hi) (YC w' hb)
  have N1:=hdd fun w' lo hi (hb:Below ob W w')=>iK (lo:=lo) (hi:=hi) (YB w' hb)
  have rD:=hdd fun w' lo hi (hb:Below ob W w')=>iK (lo:=lo) (hi:=hi) (YA w' hb)
  clear q1 q2 q3 q4 SR S5 hlt h0 hlo h1 hhi h2 qz uK hbase kS YC YB YA hs ha
  go_enter Tryd.func103,Tryd.ntmps103
  go_upto_region 3 with (fail)
  clear MG
  go_cut [10,11] (fun u c wx=>∃su sd,u = .slice su ms.length sd/\c = .int .i64 0/\av w.heap.size wx (.slice su ms.length sd) ms/\ah w wx)
  case first=>
   obtain rfl|rfl|rfl:k=0\/k=1\/k=2:=af
   ·have qh:=hdd (KZ.out w.drew lo' hi' di.drew)
    refine fS 12 _ rfl cy cy ?_
    (simp only [List.take_succ_cons,List.take_zero,List.drop_succ_cons,List.drop_zero];(repeat ((with_reducible refine wpStill_step (fun K hK=>?_));go_simp;(with_reducible refine hK _ ?_);clear hK K));(with_reducible refine wpStill_nil ?_))
    intro K hK
    go_simp
    (with_reducible refine qh.out.mono ?_);rintro e w5 ⟨cx,-,hok⟩
    have hok:=hok HQ1.out
    rw [show kH b.t0 lo' hi'=some ms from OS.out]at hok
    obtain⟨v5,rfl,iD⟩:=hok
    obtain⟨su,sd,rfl⟩:=iD.isSlice
    go_simp
    refine hK _ _ ?_
    clear hK K
    ((repeat ((with_reducible refine wpStill_step (fun K hK=>?_));go_simp;(with_reducible refine hK _ ?_);clear hK K));(with_reducible refine wpStill_nil ?_))
    all_goals
     go_wp2
     go_meet
     exact⟨_,_,rfl,rfl,iD,Below.trans' (aJ _ _).drew cx aI⟩
   ·have qh:=hdd (N1.out w.drew lo' hi' di.drew)
    refine fS 12 _ rfl cy cy ?_
    (simp only [List.take_succ_cons,List.take_zero,List.drop_succ_cons,List.drop_zero];(repeat ((with_reducible refine wpStill_step (fun K hK=>?_));go_simp;(with_reducible refine hK _ ?_);clear hK K));(with_reducible refine wpStill_nil ?_))
    intro K hK
    go_simp
    (with_reducible refine qh.out.mono ?_);rintro e w5 ⟨cx,-,hok⟩
    have hok:=hok HQ1.out
    rw [show kH b.t1 lo' hi'=some ms from OS.out]at hok
    obtain⟨v5,rfl,iD⟩:=hok
    obtain⟨su,sd,rfl⟩:=iD.isSlice
    go_simp
    refine hK _ _ ?_
    clear hK K
    ((repeat ((with_reducible refine wpStill_step (fun K hK=>?_));go_simp;(with_reducible refine hK _ ?_);clear hK K));(with_reducible refine wpStill_nil ?_))
    all_goals
     go_wp2
     go_meet
     exact⟨_,_,rfl,rfl,iD,Below.trans' (aJ _ _).drew cx aI⟩
   ·have qh:=hdd (rD.out w.drew lo' hi' di.drew)
    refine fS 12 _ rfl cy cy ?_
    (simp only [List.take_succ_cons,List.take_zero,List.drop_succ_cons,List.drop_zero];(repeat ((with_reducible refine wpStill_step (fun K hK=>?_));go_simp;(with_reducible refine hK _ ?_);clear hK K));(with_reducible refine wpStill_nil ?_))
    intro K hK
    go_simp
    (with_reducible refine qh.out.mono ?_);rintro e w5 ⟨cx,-,hok⟩
    have hok:=hok HQ1.out
    rw [show kH b.t2 lo' hi'=some ms from OS.out]at hok
    obtain⟨v5,rfl,iD⟩:=hok
    obtain⟨su,sd,rfl⟩:=iD.isSlice
    go_simp
    refine hK _ _ ?_
    clear hK K
    ((repeat ((with_reducible refine wpStill_step (fun K hK=>?_));go_simp;(with_reducible refine hK _ ?_);clear hK K));(with_reducible refine wpStill_nil ?_))
    all_goals
     go_wp2
     go_meet
     exact⟨_,_,rfl,rfl,iD,Below.trans' (aJ _ _).drew cx aI⟩
  case rest=>
   obtain⟨su,sd,rfl,rfl,kY,hb3⟩:=hcut
   rename World=>w3
   clear b0 b1 b2 b3 b4 b5 i0 m1 m2 m3
   have hz3:=hb3.size
   have RH:=hdd (kY.at af)
   have aaH:w3.heap[ob]?=_:=(hb3.block _ af).trans oN
   have abt:Below ob W w3:=Below.trans' di hb3 af
   have HOW:=hdd kY
   clear kY oN
   go_upto_region 5 with (fail)
   go_loopg [11,35] ms.length (fun g ec i wr=>∃(j:Nat) (ok:Bool) (r:au),j<=ms.length/\g=ms.length-j/\i = .int .i64 j/\ec = .int .i64 (if ok=true then 0 else 1)/\Hid (if ok=true then r=a.join (aN (ms.take j))/\r.c<=1073741824 else bH a (aN ms)=none)/\Hid (wr.heap[ob]?=some (.cells #[.int .i64 r.c, .int .i64 r.s, .int .i64 r.mi, .int .i64 r.ma, .int .i64 r.t, .int .i64 r.l] 42))/\Hid (aw (fun x=>x=ob) w3 wr))
   case atStart=>exact⟨0,true,a,iN _,rfl,rfl,rfl,hdd (by rw [ar rfl];exact⟨by simp only [List.take_zero,aN];rw [cZ],Vt.out.2⟩),hdd aaH,hdd (aw.refl _ _)⟩
   case round=>
    obtain⟨j,ok,r,hj,rfl,rfl,rfl,pC,Vm,KG⟩:=hrel
    have UW:=KG.out.size
    have hbr:Below ob W wr:=KG.out.below abt af (fun i hi=>af)
    by_cases hjl:j<ms.length
    ·obtain⟨_,_,hv,-,-,-,-,h5⟩:=RH.out
     injection hv with hv1 _ hv3
     subst hv1 hv3
     obtain⟨eb,bZ,lR,rW,nH⟩:=h5 af
     subst lR
     have abf:eb≠ob:=by
      obtain⟨-,⟨-,h0'⟩|⟨g,_,_,hv',hBg,-⟩⟩:=HOW.out.row
      ·omega
      ·injection hv' with Sm _ _
       injection Sm with Sm
       injection Sm with h1 _
       omega
     obtain⟨y0,y1,y2,y3,y4,y5,y6⟩:=bR (aJ _ _) rW nH hjl
     obtain⟨y,hy⟩:=bw (ms[j])
     rw [hy]at y0 y1 y2 y3 y4 y5 y6
     rw [<-KG.out.cell rW abf]at y0 y1 y2 y3 y4 y5 y6
     have NY:=hdd (HQ4.out y (by rw [<-hy];exact fO hjl))
     have Ui:=hdd (uB OY.out hjl)
     rw [hy]at Ui
     have GC:=fun w'=>dD (ab:=eb) (aY:=bZ) (n:=ms.length) (cap:=sd) (show (j:Int)=((j:Nat):Int) by rfl) hjl w'
     have hwz:eb<wr.heap.size:=af
     obtain⟨W1,hW1⟩:=bQ (wr.alloc (.cells #[.int .i64 y.key, .int .i64 y.is.c, .int .i64 y.is.s, .int .i64 y.is.mi, .int .i64 y.is.ma, .int .i64 y.is.t, .int .i64 y.is.l] 96))
     have ht1:aw (fun x=>x=ob) w3 W1:=by rw [hW1];exact KG.out.alloc _
     have hz1:W1.heap.size=wr.heap.size+1:=by rw [hW1];simp
     have hb1:ah wr W1:=by rw [hW1];exact ag
     have k1:W1.heap[wr.heap.size]?=some (.cells #[.int .i64 y.key, .int .i64 y.is.c, .int .i64 y.is.s, .int .i64 y.is.mi, .int .i64 y.is.ma, .int .i64 y.is.t, .int .i64 y.is.l] 96):=by rw [hW1];exact aq _ _ rfl
     obtain⟨q1,q2,q3,q4,q5,q6⟩:W1.cell? ⟨wr.heap.size,1,none⟩=some (.int .i64 y.is.c)/\W1.cell? ⟨wr.heap.size,2,none⟩=some (.int .i64 y.is.s)/\W1.cell? ⟨wr.heap.size,3,none⟩=some (.int .i64 y.is.mi)/\W1.cell? ⟨wr.heap.size,4,none⟩=some (.int .i64 y.is.ma)/\W1.cell? ⟨wr.heap.size,5,none⟩=some (.int .i64 y.is.t)/\W1.cell? ⟨wr.heap.size,6,none⟩=some (.int .i64 y.is.l):=by simp [World.cell?,k1]
     have K3:=hdd ((hb1.block _ af).trans Vm.out:W1.heap[ob]?=_)
     obtain⟨o0,o1,o2,o3,o4,o5,-⟩:=cG K3.out
     clear nH h5 hy
     go_upto_region 7 with (fail)
     rw [<-hW1]
     clear hW1 k1 y0 y1 y2 y3 y4 y5 y6
     cases ok with
     |false=>
      go_wp2
      go_roundg (ms.length-(j+1))
      case measure=>omega
      case rel=>exact⟨j+1,false,r,af,rfl,by go_num,rfl,pC,K3,hdd ht1⟩
     |true=>
      obtain⟨hr1,hr2⟩:=pC.out
      have hrc:aj r=0:=(fk r).2 ⟨by rw [hr1];exact iy Vt.out.1 (cg fun e he=>OY.out e (wH he)),hr2⟩
      by_cases hcc:r.c+y.is.c<=1073741824
      ·have HM:=hdd fun w'=>(by have:=ja r y.is w';rw [(o8 hrc NY.out hcc).1]at this;exact this :
        Calls Tryd.prog 18 #[.agg #[.int .i64 r.c, .int .i64 r.s, .int .i64 r.mi, .int .i64 r.ma, .int .i64 r.t, .int .i64 r.l], .agg #[.int .i64 y.is.c, .int .i64 y.is.s, .int .i64 y.is.mi, .int .i64 y.is.ma, .int .i64 y.is.t, .int .i64 y.is.l]] w' fun e' w5=>e' = .returned (.tuple #[.agg #[.int .i64 (r.join y.is).c, .int .i64 (r.join y.is).s, .int .i64 (r.join y.is).mi, .int .i64 (r.join y.is).ma, .int .i64 (r.join y.is).t, .int .i64 (r.join y.is).l], .int .i64 0])/\ah w' w5)
       have zZ:=hdd (show r.join y.is=a.join (aN (ms.take (j+1)))/\(r.join y.is).c<=1073741824 from ⟨by
        rw [Ui.out,hr1,join_assoc Vt.out.1 (cg fun e he=>OY.out e (wH he)) ((fk _).1 NY.out).1],by rw [dC];exact hcc⟩)
       generalize r.join y.is=J at *
       clear hr1 hr2 hrc hcc pC
       go_wp2_with ((go_at_call 18;(with_reducible refine(HM.out _).mono ?_);rintro e' w5 ⟨rfl,cx⟩;have qq:=ht1.trans (aw.of cx aI);have iD:w5.heap[ob]?=_:=(cx.block _ af).trans K3.out;obtain⟨z0,z1,z2,z3,z4,z5,zf⟩:=cG iD))
       go_roundg (ms.length-(j+1))
       case measure=>omega
       case rel=>exact⟨j+1,true,J,af,rfl,by go_num,rfl,hdd (by rw [ar rfl];exact zZ.out),hdd (by with_reducible exact jO iD),hdd (by repeat (first|with_reducible exact aw.refl _ _|with_reducible assumption|with_reducible refine aw.drewN ?_ _|with_reducible refine aw.drew ?_|with_reducible refine aw.alloc ?_ _|with_reducible refine aw.at ?_ _ _))⟩
      ·have HM:=hdd fun w'=>(by have:=ja r y.is w';rw [(iP hrc NY.out).trans (ai hcc)]at this;exact this :
        Calls Tryd.prog 18 #[.agg #[.int .i64 r.c, .int .i64 r.s, .int .i64 r.mi, .int .i64 r.ma, .int .i64 r.t, .int .i64 r.l], .agg #[.int .i64 y.is.c, .int .i64 y.is.s, .int .i64 y.is.mi, .int .i64 y.is.ma, .int .i64 y.is.t, .int .i64 y.is.l]] w' fun e' w5=>e' = .returned (.tuple #[.agg #[.int .i64 au.zero.c, .int .i64 au.zero.s, .int .i64 au.zero.mi, .int .i64 au.zero.ma, .int .i64 au.zero.t, .int .i64 au.zero.l], .int .i64 1])/\ah w' w5)
       have zZ:=hdd (show bH a (aN ms)=none by
        have e1:=mB OY.out (j+1)
        have e2:=dC (aN (ms.take j)) y.is
        have e3:=dC a (aN (ms.take j))
        rw [Ui.out]at e1
        rw [<-hr1]at e3
        unfold bH
        rw [ai af])
       generalize au.zero=J at *
       clear hr1 hr2 hrc hcc pC
       go_wp2_with ((go_at_call 18;(with_reducible refine(HM.out _).mono ?_);rintro e' w5 ⟨rfl,cx⟩;have qq:=ht1.trans (aw.of cx aI);have iD:w5.heap[ob]?=_:=(cx.block _ af).trans K3.out;obtain⟨z0,z1,z2,z3,z4,z5,zf⟩:=cG iD))
       go_roundg (ms.length-(j+1))
       case measure=>omega
       case rel=>exact⟨j+1,false,J,af,rfl,by go_num,rfl,hdd (by rw [ai aW];exact zZ.out),hdd (by with_reducible exact jO iD),hdd (by repeat (first|with_reducible exact aw.refl _ _|with_reducible assumption|with_reducible refine aw.drewN ?_ _|with_reducible refine aw.drew ?_|with_reducible refine aw.alloc ?_ _|with_reducible refine aw.at ?_ _ _))⟩
    ·have hall:ms.take j=ms:=kJ af
     cases ok with
     |false=>
      have kN:=hdd (show bH a (eF l p lo hi)=none by rw [<-Fe.out];exact pC.out)
      go_wp2
      go_ret
      refine⟨r,⟨hbr,Vm.out⟩,?_⟩
      rw [kN.out]
      exact rfl
     |true=>
      have kN:=hdd (show bH a (eF l p lo hi)=some r by
       obtain⟨hr1,hr2⟩:=pC.out
       rw [hall,Fe.out]at hr1
       have:=dC a (eF l p lo hi)
       unfold bH
       rw [hr1]at hr2 ⊢
       rw [ar af])
      clear hall
      go_wp2
      go_ret
      refine⟨r,⟨hbr,Vm.out⟩,?_⟩
      rw [kN.out]
      exact⟨rfl,rfl⟩
 ·have MG:decide (hi<=lo)=true:=by simp;omega
  have kN:=hdd (show bH a (eF l p lo hi)=some a by rw [Jv af];exact BS ((fk a).1 ha).2)
  clear hlt h0 hlo h1 hhi h2 qz uK hbase kS YC YB YA ha
  go_enter Tryd.func103,Tryd.ntmps103
  go_wp2
  go_ret
  refine⟨a,hs,?_⟩
  rw [kN.out]
  exact⟨rfl,rfl⟩
end
section
set_option maxRecDepth 100000
set_option maxHeartbeats 2000000
variable {e:Ending} {ob:Nat} {a T r:au} {W w':World}
theorem fD.Vi (h:fD W ob a T e w') (hm:bH a T=none):e = .returned (.int .i64 1)/\∃r,EU W ob r w':=by
 obtain⟨r,h1,h2⟩:=h
 rw [hm]at h2
 exact⟨h2,r,h1⟩
theorem fD.Cj (h:fD W ob a T e w') (hm:bH a T=some r):e = .returned (.int .i64 0)/\EU W ob r w':=by
 obtain⟨r',h1,h2⟩:=h
 rw [hm]at h2
 obtain⟨rfl,h3⟩:=h2
 exact⟨h3,h1⟩
theorem fD.no (hm:bH a T=none) (h:∃r,EU W ob r w'):fD W ob a T (.returned (.int .i64 1)) w':=by
 obtain⟨r,h⟩:=h
 exact⟨r,h,by rw [hm]⟩
theorem fD.yes (hm:bH a T=some r) (h:EU W ob r w'):fD W ob a T (.returned (.int .i64 0)) w':=⟨r,h,by rw [hm];exact⟨rfl,rfl⟩⟩
abbrev ZN (bb ib ob:Nat):Value:= .func (.func 103) #[] #[.pointer (some ⟨bb,0,none⟩), .pointer (some ⟨ib,0,none⟩), .pointer (some ⟨ob,0,none⟩)]
def CF (W:World) (bb ib ob:Nat) (l:List aA) (p:Nat) (n:Int):Prop:=∀(lo hi:Int),0<=lo->lo<=hi->hi<=1048576->∀a,aj a=0->∀w,EU W ob a w ->
 Calls Tryd.prog 104 #[.int .i64 n, .int .i64 lo, .int .i64 hi,ZN bb ib ob] w (fD W ob a (eF l p lo hi))
section
variable {W:World} {bb ib ob:Nat} {b:Ba} {l:List aA} {p:Nat} {sa:Option Addr} {sc:Nat} {g0:Option Addr} {l0 p0:Nat} {g1:Option Addr} {l1 p1:Nat} {g2:Option Addr} {l2 p2:Nat}
theorem Hc (HW:NP W bb ib ob b l p sa sc g0 l0 p0 g1 l1 p1 g2 l2 p2):CF W bb ib ob l p 0:=by
 intro lo hi h0 h1 h2 a ha w hs
 have HT:=hdd (show Calls Tryd.prog 103 #[.int .i64 0, .int .i64 lo, .int .i64 hi, .pointer (some ⟨bb,0,none⟩), .pointer (some ⟨ib,0,none⟩), .pointer (some ⟨ob,0,none⟩)] w (fD W ob a (eF l p lo hi)) from
  yz HW (k:=0) aW h0 af af h2 (fun _=>⟨Int.emod_one lo,Int.emod_one hi⟩) ha hs)
 cases hm:bH a (eF l p lo hi) with
 |none=>
  have HM:=hdd hm
  clear hm
  go_enter Tryd.func104,Tryd.ntmps104
  go_wp2_with ((go_at_call 103;(with_reducible refine HT.out.mono ?_);intro e w5 h5;obtain⟨rfl,hs5⟩:=h5.Vi HM.out))
  go_ret
  exact fD.no HM.out hs5
 |some r=>
  have HM:=hdd hm
  clear hm
  go_enter Tryd.func104,Tryd.ntmps104
  go_wp2_with ((go_at_call 103;(with_reducible refine HT.out.mono ?_);intro e w5 h5;obtain⟨rfl,hs5⟩:=h5.Cj HM.out))
  go_ret
  exact fD.yes HM.out hs5
theorem zH (HW:NP W bb ib ob b l p sa sc g0 l0 p0 g1 l1 p1 g2 l2 p2) {k:Nat} (hk:k=1\/k=2) {M:Int} (hM:(k:Int)-1=M) (IH:CF W bb ib ob l p M):CF W bb ib ob l p k:=by
 intro lo hi h0 h1 h2 a ha w hs
 obtain⟨sz,hsz⟩:=bw (aR k)
 have Wf:sz=60\/sz=3600:=by rcases hk with rfl|rfl;exact .inl hsz.symm;exact .inr hsz.symm
 have hs0:(sz == 0)=false:=by simp;omega
 obtain⟨F,hF⟩:=bw ((lo+sz-1)/sz)
 obtain⟨G,hG⟩:=bw (hi/sz)
 obtain⟨A,hA⟩:=bw (F*sz)
 obtain⟨Z,hZ⟩:=bw (G*sz)
 have XK:lo<=A/\A<=lo+sz-1:=by
  rw [<-hA,<-hF]
  have e1:=Int.ediv_mul_le (lo+sz-1) (show sz≠0 by omega)
  have e2:=Int.lt_ediv_add_one_mul_self (lo+sz-1) (show 0<sz by omega)
  rw [Int.add_mul,Int.one_mul]at e2
  omega
 have Y9:A%sz=0:=by rw [<-hA];exact Int.mul_emod_left F sz
 have M6:Z<=hi/\0<=Z:=by
  rw [<-hZ,<-hG]
  exact⟨Int.ediv_mul_le hi af,Int.mul_nonneg (Int.ediv_nonneg af af) af⟩
 have hZ2:Z%sz=0:=by rw [<-hZ];exact Int.mul_emod_left G sz
 have hF0:0<=F/\F<=lo+sz-1:=by rw [<-hF];exact⟨Int.ediv_nonneg af af,Int.ediv_le_self _ af⟩
 have hG0:0<=G/\G<=hi:=by rw [<-hG];exact⟨Int.ediv_nonneg af af,Int.ediv_le_self _ af⟩
 have m1:IntKind.i64.wrap (lo+sz)=lo+sz:=IntWalk.i64_in _ af
 have m2:IntKind.i64.wrap (lo+sz-1)=lo+sz-1:=IntWalk.i64_in _ af
 have m3:(lo+sz-1).tdiv sz=F:=by rw [AB af];exact hF
 have m4:IntKind.i64.wrap F=F:=IntWalk.i64_in _ af
 have m5:IntKind.i64.wrap (F*sz)=A:=by rw [hA];exact IntWalk.i64_in _ af
 have m6:hi.tdiv sz=G:=by rw [AB af];exact hG
 have m7:IntKind.i64.wrap G=G:=IntWalk.i64_in _ af
 have m8:IntKind.i64.wrap (G*sz)=Z:=by rw [hZ];exact IntWalk.i64_in _ af
 have m9:IntKind.i64.wrap ((k:Int)-1)=M:=by rw [hM];exact IntWalk.i64_in _ af
 have SY:((k:Int) == 0)=false:=by simp;omega
 obtain⟨-,c0,c1,c2⟩:=HW.sizes w hs.1
 have OY:=hdd (show ir l from (gq HW.book).2.1.bJ.dm)
 have Vt:=hdd ((fk a).1 ha)
 have Uy:=hdd IH
 have HT:=hdd fun lo hi (h0:0<=lo) (h1:lo<=1048576) (h2:0<=hi) (h3:hi<=1048576) (h4:lo<hi->lo%sz=0/\hi%sz=0) a (ha:aj a=0) w (hs:EU W ob a w)=>yz HW (k:=k) af h0 h1 h2 h3 (by rw [hsz];exact h4) ha hs
 have sy:=hdd hsz
 have HK:=hdd hk
 have HSV:=hdd Wf
 have Zy:=hdd ha
 clear hsz hF hG hA hZ hM hF0 hG0 ha IH HW
 go_enter Tryd.func104,Tryd.ntmps104
 go_upto_region 3 with (fail)
 go_cut [9] (fun s wx=>s = .int .i64 sz/\wx=w)
 case first=>
  rcases HK.out with rfl|rfl
  ·obtain rfl:60=sz:=sy.out
   go_wp2
   go_meet
   exact⟨rfl,rfl⟩
  ·obtain rfl:3600=sz:=sy.out
   go_wp2
   go_meet
   exact⟨rfl,rfl⟩
 case rest=>
  obtain⟨rfl,hwc⟩:=hcut
  obtain rfl:=hwc.symm
  clear c0 c1 c2 Wf hk
  by_cases Vf:Z<=A
  ·have hd:decide (Z<=A)=true:=by simp [Vf]
   have HC:=hdd (Uy.out lo hi h0 h1 h2 a Zy.out w hs)
   clear Vf
   cases hm:bH a (eF l p lo hi) with
   |none=>
    have HM:=hdd hm
    clear hm
    go_wp2_with ((go_at_call 104;(with_reducible refine HC.out.mono ?_);intro e w5 h5;obtain⟨rfl,hs5⟩:=h5.Vi HM.out))
    go_ret
    exact fD.no HM.out hs5
   |some r=>
    have HM:=hdd hm
    clear hm
    go_wp2_with ((go_at_call 104;(with_reducible refine HC.out.mono ?_);intro e w5 h5;obtain⟨rfl,hs5⟩:=h5.Cj HM.out))
    go_ret
    exact fD.yes HM.out hs5
  ·have hd:decide (Z<=A)=false:=by simp;omega
   have h3:A<Z:=af
   have HP:=hdd (show eF l p lo hi=(eF l p lo A).join ((eF l p A Z).join (eF l p Z hi)) by
    rw [yJ OY.out (p:=p) (show lo<=A from XK.1) (show A<=hi by omega),yJ OY.out (p:=p) (show A<=Z by omega) M6.1])
   have Vx:=hdd (Uy.out lo A h0 XK.1 af a Zy.out w hs)
   have hf1:=rN OY.out p lo A
   have hf2:=rN OY.out p A Z
   have hf3:=rN OY.out p Z hi
   cases Gz:bH a (eF l p lo A) with
   |none=>
    have Ye:=hdd Gz
    have HM:=hdd (show bH a (eF l p lo hi)=none by rw [HP.out];exact uy (iy hf2 hf3) Gz)
    clear Gz Vf
    go_wp2_with ((go_at_call 104;(with_reducible refine Vx.out.mono ?_);intro e w5 h5;obtain⟨rfl,hs5⟩:=h5.Vi Ye.out))
    go_ret
    exact fD.no HM.out hs5
   |some r1=>
    have Ye:=hdd Gz
    have hr1:=ux Vt.out.1 hf1 Gz
    have Zn:=hdd ((fk r1).2 hr1)
    have rD:=hdd fun w hs=>HT.out A Z af af af af (fun _=>⟨Y9,hZ2⟩) r1 Zn.out w hs
    have HQ:=hdd (show bH a (eF l p lo hi)=bH r1 ((eF l p A Z).join (eF l p Z hi)) by
     rw [HP.out,<-xd Vt.out.1 hf1 (iy hf2 hf3),Gz];rfl)
    cases hm2:bH r1 (eF l p A Z) with
    |none=>
     have Zv:=hdd hm2
     have HM:=hdd (show bH a (eF l p lo hi)=none by rw [HQ.out];exact uy hf3 hm2)
     clear Gz hm2 Vf hr1
     go_wp2_with (first|(go_at_call 104;(with_reducible refine Vx.out.mono ?_);intro e w5 h5;obtain⟨rfl,hs5⟩:=h5.Cj Ye.out)|(go_at_call 103;(with_reducible refine(rD.out _ hs5).mono ?_);intro e w6 h6;obtain⟨rfl,Wn⟩:=h6.Vi Zv.out))
     go_ret
     exact fD.no HM.out Wn
    |some r2=>
     have Zv:=hdd hm2
     have hr2:=ux hr1.1 hf2 hm2
     have O1:=hdd fun w hs=>Uy.out Z hi M6.2 M6.1 h2 r2 ((fk r2).2 hr2) w hs
     have OS:=hdd (show bH a (eF l p lo hi)=bH r2 (eF l p Z hi) by
      rw [HQ.out,<-xd hr1.1 hf2 hf3,hm2];rfl)
     cases U5:bH r2 (eF l p Z hi) with
     |none=>
      have HM3:=hdd U5
      have HM:=hdd (OS.out.trans U5)
      clear Gz hm2 U5 Vf hr1 hr2
      go_wp2_with (first|(go_at_call 104;(with_reducible refine Vx.out.mono ?_);intro e w5 h5;obtain⟨rfl,hs5⟩:=h5.Cj Ye.out)|(go_at_call 103;(with_reducible refine(rD.out _ hs5).mono ?_);intro e w6 h6;obtain⟨rfl,Wn⟩:=h6.Cj Zv.out)|(go_at_call 104;(with_reducible refine(O1.out _ Wn).mono ?_);intro e w7 h7;obtain⟨rfl,hs7⟩:=h7.Vi HM3.out))
      go_ret
      exact fD.no HM.out hs7
     |some r3=>
      have HM3:=hdd U5
      have HM:=hdd (OS.out.trans U5)
      clear Gz hm2 U5 Vf hr1 hr2
      go_wp2_with (first|(go_at_call 104;(with_reducible refine Vx.out.mono ?_);intro e w5 h5;obtain⟨rfl,hs5⟩:=h5.Cj Ye.out)|(go_at_call 103;(with_reducible refine(rD.out _ hs5).mono ?_);intro e w6 h6;obtain⟨rfl,Wn⟩:=h6.Cj Zv.out)|(go_at_call 104;(with_reducible refine(O1.out _ Wn).mono ?_);intro e w7 h7;obtain⟨rfl,hs7⟩:=h7.Cj HM3.out))
      go_ret
      exact fD.yes HM.out hs7
theorem Ki (HW:NP W bb ib ob b l p sa sc g0 l0 p0 g1 l1 p1 g2 l2 p2):CF W bb ib ob l p 2:=
 zH (k:=2) HW (.inr rfl) (M:=1) aW (zH (k:=1) HW (.inl rfl) (M:=0) aW (Hc HW))
end
end
section
set_option maxRecDepth 100000
set_option maxHeartbeats 4000000
variable {b:Ba} {s:ByteArray} {a z p:Int} {l:List aA}
def KA (B:Nat) (w:World) (r:au) (E:Int) (e:Ending) (w':World):Prop:=Below B w w'/\e = .returned (.tuple #[r.v, .int .i64 E])
theorem pI (h:bT b s≠0):mA b s a z=bT b s/\mz b s a z=au.zero:=by
 unfold mA mz;rw [ar h,ar h];exact⟨rfl,rfl⟩
theorem wU (h:bT b s=0) (hr:¬cO a z):mA b s a z=2/\mz b s a z=au.zero:=by
 unfold mA mz;rw [ai (iF h),ai (iF h),ar hr,ar hr];exact⟨rfl,rfl⟩
theorem Fq (h:bT b s=0) (hr:cO a z) (hl:bW b=some l) (hp:aG b.names s=p) (hm:bH au.zero (eF l p a (z+1))=none):mA b s a z=1/\mz b s a z=au.zero:=by
 subst hp
 unfold mA mz;rw [ai (iF h),ai (iF h),ai (iF hr),ai (iF hr),hl];simp only;rw [hm];exact⟨rfl,rfl⟩
theorem Fp {r:au} (h:bT b s=0) (hr:cO a z) (hl:bW b=some l) (hp:aG b.names s=p) (hm:bH au.zero (eF l p a (z+1))=some r):mA b s a z=0/\mz b s a z=r:=by
 subst hp
 unfold mA mz;rw [ai (iF h),ai (iF h),ai (iF hr),ai (iF hr),hl];simp only;rw [hm];exact⟨rfl,rfl⟩
theorem Ji {v:Value} {w:World} (h:bN w v b) (hst:∀s∈b.names,s.size<=140737488351232) (hsz:bS w) :
  Calls Tryd.prog 84 #[v, .string s, .int .i64 a, .int .i64 z] w (KA w.heap.size w (mz b s a z) (mA b s a z)):=by
 have qD:=hdd fun w' (hb:ah w w')=>yD (s:=s) (h.below hb) hst (hsz.below hb)
 obtain⟨sa,sc,g0,l0,p0,g1,l1,p1,g2,l2,p2,rfl,hn,jk,T0,T1,T2⟩:=h.open
 obtain⟨W0,hW0⟩:=bQ ((w.alloc (.cells (aH sa b.names.length sc g0 l0 p0 g1 l1 p1 g2 l2 p2 b) 35)).alloc (.cells #[.int .i64 0, .int .i64 0, .int .i64 0, .int .i64 0, .int .i64 0, .int .i64 0] 42))
 have hb0:ah w W0:=by rw [hW0];exact ag
 have hz0:W0.heap.size=w.heap.size+2:=by rw [hW0];simp
 have k0:W0.heap[w.heap.size]?=some (.cells (aH sa b.names.length sc g0 l0 p0 g1 l1 p1 g2 l2 p2 b) 35):=by rw [hW0,lJ _ _ _ bq];exact aq _ _ rfl
 have k1:W0.heap[w.heap.size+1]?=some (.cells #[.int .i64 0, .int .i64 0, .int .i64 0, .int .i64 0, .int .i64 0, .int .i64 0] 42):=by rw [hW0];exact aq _ _ bq
 have HZ:=hdd fun w' (hb:ah W0 w')=>cG ((hb.block _ af).trans k1)
 have HX:=hdd fun w' (hb:ah W0 w')=>(by
  have b0:w'.heap[w.heap.size]?=_:=(hb.block _ af).trans k0
  simp [World.cell?,b0] :
  w'.cell? ⟨w.heap.size,0,none⟩=some (.slice sa b.names.length sc)/\w'.cell? ⟨w.heap.size,1,none⟩=some (.slice g0 l0 p0)/\w'.cell? ⟨w.heap.size,2,none⟩=some (.int .i64 b.t0.root)/\w'.cell? ⟨w.heap.size,3,none⟩=some (.slice g1 l1 p1)/\w'.cell? ⟨w.heap.size,4,none⟩=some (.int .i64 b.t1.root)/\w'.cell? ⟨w.heap.size,5,none⟩=some (.slice g2 l2 p2)/\w'.cell? ⟨w.heap.size,6,none⟩=some (.int .i64 b.t2.root)/\w'.cell? ⟨w.heap.size,7,none⟩=some (.int .i64 b.floor))
 have HB:=hdd fun w' (hb:ah W0 w')=>(Below.trans' hb0 hb hb0.size:ah w w')
 obtain⟨x0,x1,x2,x3,x4,x5,x6,x7⟩:=HX.out W0 (aJ _ _)
 have sy:=hdd hsz
 have KZ:=hdd T0
 have N1:=hdd T1
 have rD:=hdd T2
 have XY:=hdd jk
 have YS:∀(fn:Fn) (first cap:Array Value) (w:World),(Instr.makeFunc fn first cap).run Tryd.prog w = .ok (.func fn first cap) w:=fun _ _ _ _=>rfl
 have OX:=hdd k0
 clear h hst hsz jk T0 T1 T2 k0
 go_enter Tryd.func84,Tryd.ntmps84
 go_upto_region 1 with (fail)
 rw [<-hW0]
 clear hW0 k1
 rcases ou b s with ⟨e1,e2⟩|⟨e1,e2,e3⟩|⟨e1,e2,p,hp,e3⟩
 ·obtain⟨r1,r2⟩:=pI (a:=a) (z:=z) (show bT b s≠0 by omega)
  have HR:=hdd (aM (r1.trans e1) r2)
  rw [e1]at qD
  clear e1 e2 r1 r2
  go_upto_region 2 with ((go_at_call 100;(with_reducible refine(qD.out _ hb0).mono ?_);rintro e w1 ⟨rfl,hb1⟩))
  obtain⟨W2,hW2⟩:=bQ (w1.alloc (.cells #[.int .i64 (gY b s)] 3))
  have hz1:=hb1.size
  have hz2:W2.heap.size=w1.heap.size+1:=by rw [hW2];simp
  have hb2:ah w1 W2:=by rw [hW2];exact ag
  have k2:W2.heap[w1.heap.size]?=some (.cells #[.int .i64 (gY b s)] 3):=by rw [hW2];exact aq _ _ rfl
  have tB:ah W0 W2:=Below.trans' hb1 hb2 hz1
  have di:=HB.out _ tB
  obtain⟨z0,z1,z2,z3,z4,z5,zf⟩:=HZ.out _ tB
  rw [<-hW2]
  clear hW2
  clear k2
  go_wp2
  exact bodyPost_ret (v:= .tuple #[.agg #[.int .i64 0, .int .i64 0, .int .i64 0, .int .i64 0, .int .i64 0, .int .i64 0], .int .i64 7]) (by simp [results,Tryd.results84,go_sem, *]) rfl ⟨ag,by rw [HR.out.1,HR.out.2];rfl⟩
 ·obtain⟨r1,r2⟩:=pI (a:=a) (z:=z) (show bT b s≠0 by omega)
  have HR:=hdd (aM (r1.trans e1) r2)
  rw [e1]at qD
  clear e1 e2 e3 r1 r2
  go_upto_region 2 with ((go_at_call 100;(with_reducible refine(qD.out _ hb0).mono ?_);rintro e w1 ⟨rfl,hb1⟩))
  obtain⟨W2,hW2⟩:=bQ (w1.alloc (.cells #[.int .i64 (gY b s)] 3))
  have hz1:=hb1.size
  have hz2:W2.heap.size=w1.heap.size+1:=by rw [hW2];simp
  have hb2:ah w1 W2:=by rw [hW2];exact ag
  have k2:W2.heap[w1.heap.size]?=some (.cells #[.int .i64 (gY b s)] 3):=by rw [hW2];exact aq _ _ rfl
  have tB:ah W0 W2:=Below.trans' hb1 hb2 hz1
  have di:=HB.out _ tB
  obtain⟨z0,z1,z2,z3,z4,z5,zf⟩:=HZ.out _ tB
  rw [<-hW2]
  clear hW2
  clear k2
  go_wp2
  exact bodyPost_ret (v:= .tuple #[.agg #[.int .i64 0, .int .i64 0, .int .i64 0, .int .i64 0, .int .i64 0, .int .i64 0], .int .i64 6]) (by simp [results,Tryd.results84,go_sem, *]) rfl ⟨ag,by rw [HR.out.1,HR.out.2];rfl⟩
 ·have hI:gY b s=p:=by unfold gY;rw [ar e1];exact e3
  rw [e1,hI]at qD
  clear hI
  go_upto_region 2 with ((go_at_call 100;(with_reducible refine(qD.out _ hb0).mono ?_);rintro e w1 ⟨rfl,hb1⟩))
  obtain⟨W2,hW2⟩:=bQ (w1.alloc (.cells #[.int .i64 ((p:Int))] 3))
  have hz1:=hb1.size
  have hz2:W2.heap.size=w1.heap.size+1:=by rw [hW2];simp
  have hb2:ah w1 W2:=by rw [hW2];exact ag
  have k2:W2.heap[w1.heap.size]?=some (.cells #[.int .i64 ((p:Int))] 3):=by rw [hW2];exact aq _ _ rfl
  have tB:ah W0 W2:=Below.trans' hb1 hb2 hz1
  have di:=HB.out _ tB
  obtain⟨z0,z1,z2,z3,z4,z5,zf⟩:=HZ.out _ tB
  rw [<-hW2]
  clear hW2
  have HT:=hdd (AL a z)
  by_cases hr:cO a z
  ·have htd:decide (cO a z)=true:=by simp [hr]
   rw [htd]at HT
   obtain⟨hr1,hr2,hr3⟩:=id hr
   obtain⟨l,hl,-⟩:=iW e2
   have m1:IntKind.i64.wrap (z+1)=z+1:=IntWalk.i64_in _ af
   have N4:=hdd e1
   have CB:=hdd e2
   have HPL:=hdd e3
   have HL:=hdd hl
   have n7:=hdd hr
   clear e1 e2 e3 hl htd hr hr1 hr2 hr3
   clear z0 z1 z2 z3 z4 z5 zf
   go_upto_region 8 with ((go_at_call 102;(with_reducible refine(HT.out _).mono ?_);rintro e w2 ⟨rfl,hw2⟩;obtain rfl:=hw2.symm))
   obtain⟨W4,GL⟩:=bQ (W2.alloc (.cells #[.int .i64 0, .int .i64 0, .int .i64 0, .int .i64 0, .int .i64 0, .int .i64 0] 42))
   have YM:W4.heap.size=W2.heap.size+1:=by rw [GL];simp
   have hb4:ah W2 W4:=by rw [GL];exact ag
   have k4:W4.heap[w1.heap.size]?=some (.cells #[.int .i64 p] 3):=(hb4.block _ af).trans k2
   have k5:W4.heap[W2.heap.size]?=some (.cells #[.int .i64 0, .int .i64 0, .int .i64 0, .int .i64 0, .int .i64 0, .int .i64 0] 42):=by rw [GL];exact aq _ _ rfl
   have Xh:ah W0 W4:=Below.trans' tB hb4 tB.size
   have hbW:=hdd fun w' (hb:Below W2.heap.size W4 w')=>(Xh.trans (hb.mono af):ah W0 w')
   have Ug:NP W4 w.heap.size w1.heap.size W2.heap.size b l p sa sc g0 l0 p0 g1 l1 p1 g2 l2 p2:=
    ⟨af,af,af,(Xh.block _ af).trans OX.out,k4,fun w' hb=>KZ.out w' (HB.out _ (hbW.out w' hb)),fun w' hb=>N1.out w' (HB.out _ (hbW.out w' hb)),fun w' hb=>rD.out w' (HB.out _ (hbW.out w' hb)),fun w' hb=>sy.out.below (HB.out _ (hbW.out w' hb)),CB.out,HL.out,hp⟩
   have HCV:=hdd (Ki Ug a (z+1) n7.out.1 (by have:=n7.out.2.1;omega) (by have:=n7.out.2.2;omega) au.zero aW W4 ⟨aJ _ _,k5⟩)
   rw [hz2]at HCV hbW
   clear k2 k4 k5 Ug
   rw [<-GL]
   clear GL
   cases hm:bH au.zero (eF l p a (z+1)) with
   |none=>
    have HM:=hdd hm
    have HR:=hdd (Fq N4.out n7.out HL.out HPL.out hm)
    clear hm
    go_wp2_with ((go_at_call 104;(with_reducible refine HCV.out.mono ?_);intro e w5 h5;obtain⟨rfl,r5,cx,-⟩:=h5.Vi HM.out;have Eb:=hbW.out _ cx;have abo:=HB.out _ Eb;obtain⟨z0,z1,z2,z3,z4,z5,zf⟩:=HZ.out _ Eb))
    exact bodyPost_ret (v:= .tuple #[.agg #[.int .i64 0, .int .i64 0, .int .i64 0, .int .i64 0, .int .i64 0, .int .i64 0], .int .i64 1]) (by simp [results,Tryd.results84,go_sem, *]) rfl ⟨ag,by rw [HR.out.1,HR.out.2];rfl⟩
   |some r=>
    have HM:=hdd hm
    have HR:=hdd (Fp N4.out n7.out HL.out HPL.out hm)
    clear hm
    go_wp2_with ((go_at_call 104;(with_reducible refine HCV.out.mono ?_);intro e w5 h5;obtain⟨rfl,cx,iD⟩:=h5.Cj HM.out;have Eb:=hbW.out _ cx;have abo:=HB.out _ Eb;obtain⟨z0,z1,z2,z3,z4,z5,zf⟩:=HZ.out _ Eb;obtain⟨o0,o1,o2,o3,o4,o5,of⟩:=cG iD))
    exact bodyPost_ret (v:= .tuple #[.agg #[.int .i64 r.c, .int .i64 r.s, .int .i64 r.mi, .int .i64 r.ma, .int .i64 r.t, .int .i64 r.l], .int .i64 0]) (by simp [results,Tryd.results84,go_sem, *]) rfl ⟨ag,by rw [HR.out.1,HR.out.2]⟩
  ·have htd:decide (cO a z)=false:=by simp [hr]
   rw [htd]at HT
   have HR:=hdd (wU (s:=s) e1 hr)
   clear e1 e2 e3 hr htd
   clear k2
   go_wp2_with ((go_at_call 102;(with_reducible refine(HT.out _).mono ?_);rintro e w2 ⟨rfl,hw2⟩;obtain rfl:=hw2.symm))
   exact bodyPost_ret (v:= .tuple #[.agg #[.int .i64 0, .int .i64 0, .int .i64 0, .int .i64 0, .int .i64 0, .int .i64 0], .int .i64 2]) (by simp [results,Tryd.results84,go_sem, *]) rfl ⟨ag,by rw [HR.out.1,HR.out.2];rfl⟩
end
end Go.Proofs.YtmljjfhgciaceaaDoor
