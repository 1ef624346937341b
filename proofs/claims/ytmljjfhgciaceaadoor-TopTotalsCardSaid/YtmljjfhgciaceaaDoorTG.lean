/- Texts of mine that come as one: Series ProRows TotalP TotalA TotalB ProTotal. -/
import Derived.Test.YtmljjfhgciaceaaDoorHd
import Derived.Test.YtmljjfhgciaceaaDoorPS
import Derived.Test.YtmljjfhgciaceaaDoorPC
import Derived.Test.YtmljjfhgciaceaaDoorSO
namespace Go.Proofs.YtmljjfhgciaceaaDoor
open Go.RowKit
section
set_option maxRecDepth 100000
set_option maxHeartbeats 1000000
variable {w:World}
noncomputable def gY (b:Ba) (s:ByteArray):Int:=if bV b s=0 then aS b.names s else 0
theorem yX {v:Value} {b:Ba} {s:ByteArray} (h:bO w v b) (hst:∀s∈b.names,s.size<=140737488351232) (hsz:bL w) :
  Calls Tryd.prog 100 #[v, .string s] w fun e w'=>e = .returned (.tuple #[.int .i64 (gY b s), .int .i64 (bV b s)])/\ah w w':=by
 have HC:=hdd fun w' (hb:ah w w')=>eO (h.below hb) hst (hsz.below hb)
 obtain⟨sa,sc,g0,l0,p0,g1,l1,p1,g2,l2,p2,rfl,hn,jl,T0,T1,T2⟩:=h.open
 obtain⟨W0,hW0⟩:=bP (w.alloc (.cells (aG sa b.names.length sc g0 l0 p0 g1 l1 p1 g2 l2 p2 b) 35))
 have hb0:ah w W0:=by rw [hW0];exact ag
 have hz0:W0.heap.size=w.heap.size+1:=by rw [hW0];simp
 have k0:W0.heap[w.heap.size]?=some (.cells (aG sa b.names.length sc g0 l0 p0 g1 l1 p1 g2 l2 p2 b) 35):=by rw [hW0];exact aj _ _ rfl
 have HX:=hdd fun w' (hb:ah W0 w')=>(by
  have b0:w'.heap[w.heap.size]?=_:=(hb.block _ af).trans k0
  simp [World.cell?,b0] :
  w'.cell? ⟨w.heap.size,0,none⟩=some (.slice sa b.names.length sc)/\w'.cell? ⟨w.heap.size,1,none⟩=some (.slice g0 l0 p0)/\w'.cell? ⟨w.heap.size,2,none⟩=some (.int .i64 b.t0.root)/\w'.cell? ⟨w.heap.size,3,none⟩=some (.slice g1 l1 p1)/\w'.cell? ⟨w.heap.size,4,none⟩=some (.int .i64 b.t1.root)/\w'.cell? ⟨w.heap.size,5,none⟩=some (.slice g2 l2 p2)/\w'.cell? ⟨w.heap.size,6,none⟩=some (.int .i64 b.t2.root)/\w'.cell? ⟨w.heap.size,7,none⟩=some (.int .i64 b.floor))
 have HB:=hdd fun w' (hb:ah W0 w')=>(Below.trans' hb0 hb hb0.size:ah w w')
 obtain⟨x0,x1,x2,x3,x4,x5,x6,x7⟩:=HX.out W0 (aI _ _)
 have Bh:=hdd fun w' (hb:ah W0 w')=>mK (s:=s) (jl.below (HB.out w' hb) aH)
 clear h hst hsz jl T0 T1 T2
 go_enter Tryd.func100,Tryd.ntmps100
 go_upto_region 1 with (fail)
 rw [<-hW0]
 clear hW0 k0
 rcases oq b s with ⟨e1,e2⟩|⟨e1,e2,e3⟩|⟨e1,e2,k,hk,e3⟩
 ·have hc:jL b=7:=cN e2
  have HI:=hdd (show gY b s=0 by unfold gY;rw [ai af])
  have HE:=hdd e1
  rw [hc]at HC
  clear hc e1 e2
  go_wp2_with ((go_at_call 31;(with_reducible refine(HC.out _ hb0).mono ?_);rintro e w1 ⟨rfl,hb1⟩))
  go_ret2
  rw [HI.out,HE.out]
  exact⟨rfl,HB.out _ hb1⟩
 ·have hc:jL b=0:=dG e2
  have HI:=hdd (show gY b s=0 by unfold gY;rw [ai af])
  have HE:=hdd e1
  rw [hc]at HC
  rw [e3]at Bh
  clear hc e1 e2 e3
  go_wp2_with (first|(go_at_call 31;(with_reducible refine(HC.out _ hb0).mono ?_);rintro e w1 ⟨rfl,hb1⟩;obtain⟨x0,-⟩:=HX.out _ hb1)|(go_at_call 41;(with_reducible refine(Bh.out _ hb1).mono ?_);rintro e w2 ⟨rfl,hb2⟩;have hb3:=Below.trans' hb1 hb2 hb1.size))
  go_ret2
  rw [HI.out,HE.out]
  exact⟨rfl,HB.out _ hb3⟩
 ·have hc:jL b=0:=dG e2
  have HI:=hdd (show gY b s=k by unfold gY;rw [ar e1];exact e3)
  have HE:=hdd e1
  have im:decide ((k:Int)<0)=false:=bj
  rw [hc]at HC
  rw [e3]at Bh
  clear hc e1 e2 e3
  go_wp2_with (first|(go_at_call 31;(with_reducible refine(HC.out _ hb0).mono ?_);rintro e w1 ⟨rfl,hb1⟩;obtain⟨x0,-⟩:=HX.out _ hb1)|(go_at_call 41;(with_reducible refine(Bh.out _ hb1).mono ?_);rintro e w2 ⟨rfl,hb2⟩;have hb3:=Below.trans' hb1 hb2 hb1.size))
  go_ret2
  rw [HI.out,HE.out]
  exact⟨rfl,HB.out _ hb3⟩
theorem Bn (a z:Int) (w:World):Calls Tryd.prog 102 #[.int .i64 a, .int .i64 z] w fun e w'=>e = .returned (.bool (decide (cT a z)))/\w'=w:=by
 by_cases h1:0<=a
 ·have e1:decide (0<=a)=true:=by simp [h1]
  by_cases h2:z<=1048575
  ·have e2:decide (z<=1048575)=true:=by simp [h2]
   by_cases h3:a<=z
   ·have e3:decide (a<=z)=true:=by simp [h3]
    have HR:=hdd (show true=decide (cT a z) by simp [cT,h1,h2,h3])
    clear h1 h2 h3
    go_enter Tryd.func102,Tryd.ntmps102
    go_wp2
    go_ret
    exact⟨dP HR.out,rfl⟩
   ·have e3:decide (a<=z)=false:=by simp;omega
    have HR:=hdd (show false=decide (cT a z) by simp [cT,h3])
    clear h1 h2 h3
    go_enter Tryd.func102,Tryd.ntmps102
    go_wp2
    go_ret
    exact⟨dP HR.out,rfl⟩
  ·have e2:decide (z<=1048575)=false:=by simp;omega
   have HR:=hdd (show false=decide (cT a z) by simp [cT,h2])
   clear h1 h2
   go_enter Tryd.func102,Tryd.ntmps102
   go_wp2
   go_ret
   exact⟨dP HR.out,rfl⟩
 ·have e1:decide (0<=a)=false:=by simp;omega
  have HR:=hdd (show false=decide (cT a z) by simp [cT,h1])
  clear h1
  go_enter Tryd.func102,Tryd.ntmps102
  go_wp2
  go_ret
  exact⟨dP HR.out,rfl⟩
def xm (n:Int):Int:=if n=1 then 0 else if n=60 then 1 else if n=3600 then 2 else -1
theorem xj (n:Int):(n=1/\xm n=0)\/(n=60/\xm n=1)\/(n=3600/\xm n=2)\/(n≠1/\n≠60/\n≠3600/\xm n = -1):=by
 unfold xm
 by_cases h1:n=1
 ·exact .inl ⟨h1,by rw [ar h1]⟩
 ·by_cases h2:n=60
  ·exact .inr (.inl ⟨h2,by rw [ai h1,ar h2]⟩)
  ·by_cases h3:n=3600
   ·exact .inr (.inr (.inl ⟨h3,by rw [ai h1,ai h2,ar h3]⟩))
   ·exact .inr (.inr (.inr ⟨h1,h2,h3,by rw [ai h1,ai h2,ai h3]⟩))
theorem AR (n:Int) (h:bL w) :
  Calls Tryd.prog 101 #[.slice (some ⟨0,0,none⟩) 3 3, .int .i64 n] w fun e w'=>e = .returned (.int .i64 (xm n))/\w'=w:=by
 obtain⟨-,c0,c1,c2⟩:=h
 rcases xj n with ⟨h1,h2⟩|⟨h1,h2⟩|⟨h1,h2⟩|⟨h1,h3,h4,h2⟩
 ·rw [h2];clear h2;subst h1
  go_enter Tryd.func101,Tryd.ntmps101
  go_wp2_with fail
  go_loopg [8] 3 (fun g i wr=>i = .int .i64 0/\wr=w)
  case atStart=>exact⟨rfl,rfl⟩
  case round=>
   obtain⟨rfl,rfl⟩:=hrel
   go_wp2
   go_ret
   exact⟨rfl,rfl⟩
 ·rw [h2];clear h2;subst h1
  go_enter Tryd.func101,Tryd.ntmps101
  go_wp2_with fail
  go_loopg [8] 3 (fun g i wr=>∃k:Nat,k<=1/\g=3-k/\i = .int .i64 k/\wr=w)
  case atStart=>exact⟨0,af,rfl,rfl,rfl⟩
  case round=>
   obtain⟨k,hk,rfl,rfl,rfl⟩:=hrel
   obtain rfl|rfl:k=0\/k=1:=af
   ·go_wp2
    go_roundg 2
    case measure=>omega
    case rel=>exact⟨1,af,rfl,by go_num,rfl⟩
   ·go_wp2
    go_ret
    exact⟨rfl,rfl⟩
 ·rw [h2];clear h2;subst h1
  go_enter Tryd.func101,Tryd.ntmps101
  go_wp2_with fail
  go_loopg [8] 3 (fun g i wr=>∃k:Nat,k<=2/\g=3-k/\i = .int .i64 k/\wr=w)
  case atStart=>exact⟨0,af,rfl,rfl,rfl⟩
  case round=>
   obtain⟨k,hk,rfl,rfl,rfl⟩:=hrel
   obtain rfl|rfl|rfl:k=0\/k=1\/k=2:=af
   ·go_wp2
    go_roundg 2
    case measure=>omega
    case rel=>exact⟨1,af,rfl,by go_num,rfl⟩
   ·go_wp2
    go_roundg 1
    case measure=>omega
    case rel=>exact⟨2,af,rfl,by go_num,rfl⟩
   ·go_wp2
    go_ret
    exact⟨rfl,rfl⟩
 ·rw [h2];clear h2
  have n1:(n == 1)=false:=by simpa using h1
  have n2:(n == 60)=false:=by simpa using h3
  have n3:(n == 3600)=false:=by simpa using h4
  clear h1 h3 h4
  go_enter Tryd.func101,Tryd.ntmps101
  go_wp2_with fail
  go_loopg [8] 3 (fun g i wr=>∃k:Nat,k<=3/\g=3-k/\i = .int .i64 k/\wr=w)
  case atStart=>exact⟨0,af,rfl,rfl,rfl⟩
  case round=>
   obtain⟨k,hk,rfl,rfl,rfl⟩:=hrel
   obtain rfl|rfl|rfl|rfl:k=0\/k=1\/k=2\/k=3:=af
   ·go_wp2
    go_roundg 2
    case measure=>omega
    case rel=>exact⟨1,af,rfl,by go_num,rfl⟩
   ·go_wp2
    go_roundg 1
    case measure=>omega
    case rel=>exact⟨2,af,rfl,by go_num,rfl⟩
   ·go_wp2
    go_roundg 0
    case measure=>omega
    case rel=>exact⟨3,af,rfl,by go_num,rfl⟩
   ·go_wp2
    go_ret
    exact⟨rfl,rfl⟩
end
section
set_option maxRecDepth 100000
set_option maxHeartbeats 4000000
variable {b:Ba} {s:ByteArray} {n a z:Int} {k:Nat}
def NT (B:Nat) (w:World) (out:List aC) (E:Int) (e:Ending) (w':World):Prop:=Below B w w'/\∃v,e = .returned (.tuple #[v, .int .i64 E])/\OwnRows B w' v out
theorem td (hk:k<3) (h:n=aQ k):n=1\/n=60\/n=3600:=by
 obtain rfl|rfl|rfl:k=0\/k=1\/k=2:=af
 ·exact .inl h
 ·exact .inr (.inl h)
 ·exact .inr (.inr h)
theorem xh (n:Int):(∃k,k<3/\n=aQ k/\xm n=k)\/(n≠1/\n≠60/\n≠3600/\xm n = -1):=by
 rcases xj n with ⟨h1,h2⟩|⟨h1,h2⟩|⟨h1,h2⟩|h
 ·exact .inl ⟨0,aW,h1,h2⟩
 ·exact .inl ⟨1,aW,h1,h2⟩
 ·exact .inl ⟨2,aW,h1,h2⟩
 ·exact .inr h
theorem pI (h:bV b s≠0):eQ b s n a z=bV b s/\nR b s n a z=[]:=by
 have h1:eQ b s n a z=bV b s:=by unfold eQ;rw [ar h]
 exact⟨h1,by unfold nR;rw [ai (by rw [h1];exact h)]⟩
theorem za (h:bV b s=0) (hn:n≠1/\n≠60/\n≠3600):eQ b s n a z=3/\nR b s n a z=[]:=by
 have h1:eQ b s n a z=3:=by unfold eQ;rw [ai (jo h),ar hn]
 exact⟨h1,by unfold nR;rw [ai (by rw [h1];decide)]⟩
theorem xq (h:bV b s=0) (hk:k<3) (hn:n=aQ k) (hr:¬cT a z):eQ b s n a z=2/\nR b s n a z=[]:=by
 have h0:=td hk hn
 have h1:eQ b s n a z=2:=by unfold eQ;rw [ai (jo h),ai af,ar hr]
 exact⟨h1,by unfold nR;rw [ai (by rw [h1];decide)]⟩
theorem F6 (h:bV b s=0) (hk:k<3) (hn:n=aQ k) (hr:cT a z) (hl:500<(sJ b s n a z).length):eQ b s n a z=1/\nR b s n a z=[]:=by
 have h0:=td hk hn
 have h1:eQ b s n a z=1:=by unfold eQ;rw [ai (jo h),ai af,ai (jo hr),ar hl]
 exact⟨h1,by unfold nR;rw [ai (by rw [h1];decide)]⟩
theorem LG (h:bV b s=0) (hk:k<3) (hn:n=aQ k) (hr:cT a z) (hl:¬500<(sJ b s n a z).length):eQ b s n a z=0/\nR b s n a z=sJ b s n a z:=by
 have h0:=td hk hn
 have h1:eQ b s n a z=0:=by unfold eQ;rw [ai (jo h),ai af,ai (jo hr),ai hl]
 exact⟨h1,by unfold nR;rw [ar h1]⟩
theorem LF {v:Value} {w:World} (h:bO w v b) (hst:∀s∈b.names,s.size<=140737488351232) (hsz:bL w) :
  Calls Tryd.prog 83 #[v, .string s, .int .i64 n, .int .i64 a, .int .i64 z] w (NT w.heap.size w (nR b s n a z) (eQ b s n a z)):=by
 have qF:=hdd fun w' (hb:ah w w')=>yX (s:=s) (h.below hb) hst (hsz.below hb)
 obtain⟨sa,sc,g0,l0,p0,g1,l1,p1,g2,l2,p2,rfl,hn,jl,T0,T1,T2⟩:=h.open
 obtain⟨W0,hW0⟩:=bP (w.alloc (.cells (aG sa b.names.length sc g0 l0 p0 g1 l1 p1 g2 l2 p2 b) 35))
 have hb0:ah w W0:=by rw [hW0];exact ag
 have hz0:W0.heap.size=w.heap.size+1:=by rw [hW0];simp
 have k0:W0.heap[w.heap.size]?=some (.cells (aG sa b.names.length sc g0 l0 p0 g1 l1 p1 g2 l2 p2 b) 35):=by rw [hW0];exact aj _ _ rfl
 have HX:=hdd fun w' (hb:ah W0 w')=>(by
  have b0:w'.heap[w.heap.size]?=_:=(hb.block _ af).trans k0
  simp [World.cell?,b0] :
  w'.cell? ⟨w.heap.size,0,none⟩=some (.slice sa b.names.length sc)/\w'.cell? ⟨w.heap.size,1,none⟩=some (.slice g0 l0 p0)/\w'.cell? ⟨w.heap.size,2,none⟩=some (.int .i64 b.t0.root)/\w'.cell? ⟨w.heap.size,3,none⟩=some (.slice g1 l1 p1)/\w'.cell? ⟨w.heap.size,4,none⟩=some (.int .i64 b.t1.root)/\w'.cell? ⟨w.heap.size,5,none⟩=some (.slice g2 l2 p2)/\w'.cell? ⟨w.heap.size,6,none⟩=some (.int .i64 b.t2.root)/\w'.cell? ⟨w.heap.size,7,none⟩=some (.int .i64 b.floor))
 have HB:=hdd fun w' (hb:ah W0 w')=>(Below.trans' hb0 hb hb0.size:ah w w')
 obtain⟨x0,x1,x2,x3,x4,x5,x6,x7⟩:=HX.out W0 (aI _ _)
 have nN:=hdd fun w' (hb:ah W0 w')=>(hsz.below (HB.out w' hb):bL w')
 have KU:=hdd fun w' (hb:ah W0 w')=>AR n (nN.out w' hb)
 have Lc:=hdd fun w' lo hi (hb:ah W0 w')=>iH (lo:=lo) (hi:=hi) (T0 w' (HB.out w' hb))
 have N1:=hdd fun w' lo hi (hb:ah W0 w')=>iH (lo:=lo) (hi:=hi) (T1 w' (HB.out w' hb))
 have rK:=hdd fun w' lo hi (hb:ah W0 w')=>iH (lo:=lo) (hi:=hi) (T2 w' (HB.out w' hb))
 clear h hst hsz jl T0 T1 T2
 go_enter Tryd.func83,Tryd.ntmps83
 go_upto_region 1 with (fail)
 rw [<-hW0]
 clear hW0 k0
 rcases oq b s with ⟨e1,e2⟩|⟨e1,e2,e3⟩|⟨e1,e2,p,hp,e3⟩
 ·obtain⟨r1,r2⟩:=pI (n:=n) (a:=a) (z:=z) (show bV b s≠0 by omega)
  have HR:=hdd (aL (r1.trans e1) r2)
  rw [e1]at qF
  clear e1 e2 r1 r2
  go_wp2_with ((go_at_call 100;(with_reducible refine(qF.out _ hb0).mono ?_);rintro e w1 ⟨rfl,hb1⟩))
  go_ret2
  rw [HR.out.1,HR.out.2]
  exact⟨HB.out _ hb1,_,rfl,OwnRows.nil _ _⟩
 ·obtain⟨r1,r2⟩:=pI (n:=n) (a:=a) (z:=z) (show bV b s≠0 by omega)
  have HR:=hdd (aL (r1.trans e1) r2)
  rw [e1]at qF
  clear e1 e2 e3 r1 r2
  go_wp2_with ((go_at_call 100;(with_reducible refine(qF.out _ hb0).mono ?_);rintro e w1 ⟨rfl,hb1⟩))
  go_ret2
  rw [HR.out.1,HR.out.2]
  exact⟨HB.out _ hb1,_,rfl,OwnRows.nil _ _⟩
 ·have hI:gY b s=p:=by unfold gY;rw [ar e1];exact e3
  rw [e1,hI]at qF
  clear hI
  go_upto_region 4 with ((go_at_call 100;(with_reducible refine(qF.out _ hb0).mono ?_);rintro e w1 ⟨rfl,hb1⟩;obtain⟨x0,x1,x2,x3,x4,x5,x6,x7⟩:=HX.out _ hb1))
  have Et:=HB.out _ hb1
  rcases xh n with ⟨k,hk,U5,hi⟩|⟨n1,n2,n3,hi⟩
  ·rw [hi]at KU
   have S3:decide ((k:Int)<0)=false:=bj
   have HT:=hdd (Bn a z)
   by_cases hr:cT a z
   ·have htd:decide (cT a z)=true:=by simp [hr]
    rw [htd]at HT
    obtain⟨m,q1,q2,q3,q4,q5⟩:=Dq (s:=s) e2 hk hr
    rw [e3]at q1 q3
    rw [<-U5]at q1
    obtain⟨hr1,hr2,hr3⟩:=id hr
    obtain⟨lo,hlo⟩:=bt ((p:Int)*1048576+a)
    obtain⟨hi',hhi⟩:=bt ((p:Int)*1048576+z+1)
    rw [hlo,hhi]at q1 q3
    have m1:IntKind.i64.wrap ((p:Int)*1048576)=(p:Int)*1048576:=IntWalk.i64_in _ af
    have m2:IntKind.i64.wrap ((p:Int)*1048576+a)=lo:=by rw [hlo];exact IntWalk.i64_in _ af
    have m3:IntKind.i64.wrap ((p:Int)*1048576+z)=(p:Int)*1048576+z:=IntWalk.i64_in _ af
    have m4:IntKind.i64.wrap ((p:Int)*1048576+z+1)=hi':=by rw [hhi];exact IntWalk.i64_in _ af
    obtain⟨ms,YP⟩:=bt (m.filter (aR lo hi'))
    have hmk:∀y∈ms,0<=y.key/\y.key<1099511627776:=fun y hy=>by rw [<-YP]at hy;exact q5.2.1 y (mn.1 hy).1
    have AX:ms.length<=50000:=by rw [<-YP];exact ik (sH _ _) q5.2.2
    rw [YP]at q1 q3
    have HL:=hdd q1
    have X0:=hdd hmk
    have N4:=hdd e1
    have HN3:=hdd U5
    have nY:=hdd hr
    have OS:=hdd q2
    have FC:=hdd q3
    have im:(0:Int)<=(k:Int):=af
    have hk3:(k:Int)<3:=af
    clear q1 q2 q3 q4 q5 YP hlo hhi hr htd hr1 hr2 hr3 e1 e2 e3 hmk U5 hi qF
    go_upto_region 9 with (first|(go_at_call 101;(with_reducible refine(KU.out _ hb1).mono ?_);rintro e w2 ⟨rfl,hw2⟩;obtain rfl:=hw2.symm)|(go_at_call 102;(with_reducible refine(HT.out _).mono ?_);rintro e w2 ⟨rfl,hw2⟩;obtain rfl:=hw2.symm))
    go_cut [15,13] (fun u c wx=>∃su sd,u = .slice su ms.length sd/\c = .int .i64 0/\au w1.heap.size wx (.slice su ms.length sd) ms/\ah w1 wx)
    case first=>
     obtain rfl|rfl|rfl:k=0\/k=1\/k=2:=af
     ·have HA:=hdd (Lc.out w1 lo hi' hb1)
      go_wp2_with ((go_at_call 55;(with_reducible refine HA.out.mono ?_);rintro e w3 ⟨hb3,-,hok⟩;have hok:=hok OS.out;rw [show kI b.t0 lo hi'=some ms from FC.out]at hok;obtain⟨v3,rfl,kj⟩:=hok;obtain⟨su,sd,rfl⟩:=kj.isSlice))
      go_meet
      exact⟨_,_,rfl,rfl,kj,hb3⟩
     ·have HA:=hdd (N1.out w1 lo hi' hb1)
      go_wp2_with ((go_at_call 55;(with_reducible refine HA.out.mono ?_);rintro e w3 ⟨hb3,-,hok⟩;have hok:=hok OS.out;rw [show kI b.t1 lo hi'=some ms from FC.out]at hok;obtain⟨v3,rfl,kj⟩:=hok;obtain⟨su,sd,rfl⟩:=kj.isSlice))
      go_meet
      exact⟨_,_,rfl,rfl,kj,hb3⟩
     ·have HA:=hdd (rK.out w1 lo hi' hb1)
      go_wp2_with ((go_at_call 55;(with_reducible refine HA.out.mono ?_);rintro e w3 ⟨hb3,-,hok⟩;have hok:=hok OS.out;rw [show kI b.t2 lo hi'=some ms from FC.out]at hok;obtain⟨v3,rfl,kj⟩:=hok;obtain⟨su,sd,rfl⟩:=kj.isSlice))
      go_meet
      exact⟨_,_,rfl,rfl,kj,hb3⟩
    case rest=>
     obtain⟨su,sd,rfl,rfl,kj,hb3⟩:=hcut
     rename World=>w3
     have wh:ah w w3:=Below.trans' Et hb3 Et.size
     clear x0 x1 x2 x3 x4 x5 x6 x7 m1 m2 m3 m4 KU HT
     by_cases hl:500<ms.length
     ·have Q8:decide ((500:Int)<(ms.length:Int))=true:=by simp;omega
      have HR:=hdd (F6 N4.out hk HN3.out nY.out (by rw [HL.out,oJ];exact hl))
      clear hl
      go_wp2
      go_ret2
      rw [HR.out.1,HR.out.2]
      exact⟨wh,_,rfl,OwnRows.nil _ _⟩
     ·have Q8:decide ((500:Int)<(ms.length:Int))=false:=by simp;omega
      have HR:=hdd (LG N4.out hk HN3.out nY.out (by rw [HL.out,oJ];exact hl))
      clear hl
      have RL:=hdd (kj.at af)
      clear kj
      go_wp2_with fail
      clear Q8
      go_loopg [16,62] ms.length (fun g out i wr=>∃j:Nat,j<=ms.length/\g=ms.length-j/\i = .int .i64 j/\OwnRows w3.heap.size wr out ((ms.take j).map rowOf)/\ah w3 wr)
      case atStart=>exact⟨0,jd _,rfl,rfl,OwnRows.nil _ _,aI _ _⟩
      case round=>
       obtain⟨j,hj,rfl,rfl,hown,hb⟩:=hrel
       have hzb:=hb.size
       have cZ:=Below.trans' wh hb wh.size
       by_cases hlt:j<ms.length
       ·obtain⟨_,_,hv,-,-,-,-,h5⟩:=RL.out
        injection hv with hv1 _ hv3
        subst hv1 hv3
        obtain⟨eb,eB,lA,si,nE⟩:=h5 af
        subst lA
        obtain⟨y0,y1,y2,y3,y4,y5,y6⟩:=bU hb si nE hlt
        obtain⟨y,hy⟩:=bt (ms[j])
        rw [hy]at y0 y1 y2 y3 y4 y5 y6
        obtain⟨im,hk1⟩:=X0.out y (by rw [<-hy];exact fP hlt)
        obtain⟨M,hM⟩:=bt (y.key%1048576)
        have sS:=hdd (show (ms.take (j+1)).map rowOf=(ms.take j).map rowOf++[⟨M,y.is⟩] by rw [kK hlt,Ap,hy];simp [rowOf,hM])
        have m1:y.key.tmod 1048576=M:=by rw [yj im];exact hM
        have m4:IntKind.i64.wrap M=M:=IntWalk.i64_in _ af
        have hlo:((ms.take j).map rowOf).length<=1000000:=by rw [oJ,eP];omega
        have jS:=fun w'=>dw (ab:=eb) (aV:=eB) (n:=ms.length) (cap:=sd) (show (j:Int)=((j:Nat):Int) by rfl) hlt w'
        have hwz:eb<wr.heap.size:=af
        obtain⟨os,hos⟩:=bt ((ms.take j).map rowOf)
        rw [hos]at hown sS hlo
        obtain⟨so,sc2,rfl⟩:=hown.isSlice
        obtain⟨W1,hW1⟩:=bP (wr.alloc (.cells #[.int .i64 y.key, .int .i64 y.is.c, .int .i64 y.is.s, .int .i64 y.is.mi, .int .i64 y.is.ma, .int .i64 y.is.t, .int .i64 y.is.l] 96))
        have hb1:ah wr W1:=by rw [hW1];exact ag
        have k1:W1.heap[wr.heap.size]?=some (.cells #[.int .i64 y.key, .int .i64 y.is.c, .int .i64 y.is.s, .int .i64 y.is.mi, .int .i64 y.is.ma, .int .i64 y.is.t, .int .i64 y.is.l] 96):=by rw [hW1];exact aj _ _ rfl
        have vC:ah w3 W1:=Below.trans' hb hb1 hzb
        have hzn:=vC.size
        obtain⟨q0,q1,q2,q3,q4,q5,q6⟩:W1.cell? ⟨wr.heap.size,0,none⟩=some (.int .i64 y.key)/\W1.cell? ⟨wr.heap.size,1,none⟩=some (.int .i64 y.is.c)/\W1.cell? ⟨wr.heap.size,2,none⟩=some (.int .i64 y.is.s)/\W1.cell? ⟨wr.heap.size,3,none⟩=some (.int .i64 y.is.mi)/\W1.cell? ⟨wr.heap.size,4,none⟩=some (.int .i64 y.is.ma)/\W1.cell? ⟨wr.heap.size,5,none⟩=some (.int .i64 y.is.t)/\W1.cell? ⟨wr.heap.size,6,none⟩=some (.int .i64 y.is.l):=by simp [World.cell?,k1]
        have hown1:OwnRows w3.heap.size W1 (.slice so os.length sc2) os:=hown.below hb1 aH
        clear nE h5 hy hM hos
        go_upto_region 18 with (fail)
        rw [<-hW1]
        clear hW1 k1 hown y0 y1 y2 y3 y4 y5 y6
        go_wp2_with ((at_builtin;refine tZ rfl (.tmp 66) (.tmp 73) rfl w3.heap.size _ os rfl (by repeat (first|assumption|with_reducible refine OwnRows.alloc ?_ _|with_reducible refine OwnRows.drewN ?_ _|with_reducible refine OwnRows.drew ?_)) ⟨_,0,none⟩ ⟨M,y.is⟩ rfl (fun j u h=>mO h) hlo (by first|omega|(simp;done)|(simp;omega)|(simp [aJ];done)|(simp [aJ];omega)) ?_;intro v4 w4 pN hg4;have hb4:=hg4 w3.heap.size w3 ag aH))
        go_roundg (ms.length-(j+1))
        case measure=>omega
        case rel=>exact⟨j+1,af,rfl,by go_num,by rw [sS.out];exact pN,hb4⟩
       ·have hall:ms.take j=ms:=lI af
        rw [hall]at hown
        clear hall
        go_wp2
        go_ret2
        rw [HR.out.1,HR.out.2,HL.out]
        exact⟨cZ,_,rfl,hown.mono wh.size⟩
   ·have htd:decide (cT a z)=false:=by simp [hr]
    rw [htd]at HT
    have HR:=hdd (xq (s:=s) e1 hk U5 hr)
    clear e1 e2 e3 hr htd U5
    go_wp2_with (first|(go_at_call 101;(with_reducible refine(KU.out _ hb1).mono ?_);rintro e w2 ⟨rfl,hw2⟩;obtain rfl:=hw2.symm)|(go_at_call 102;(with_reducible refine(HT.out _).mono ?_);rintro e w2 ⟨rfl,hw2⟩;obtain rfl:=hw2.symm))
    go_ret2
    rw [HR.out.1,HR.out.2]
    exact⟨Et,_,rfl,OwnRows.nil _ _⟩
  ·have HR:=hdd (za (a:=a) (z:=z) e1 ⟨n1,n2,n3⟩)
   rw [hi]at KU
   clear e1 e2 e3 n1 n2 n3 hi
   go_wp2_with ((go_at_call 101;(with_reducible refine(KU.out _ hb1).mono ?_);rintro e w2 ⟨rfl,hw2⟩;obtain rfl:=hw2.symm))
   go_ret2
   rw [HR.out.1,HR.out.2]
   exact⟨Et,_,rfl,OwnRows.nil _ _⟩
end
end Go.Proofs.YtmljjfhgciaceaaDoor
namespace Go.Proofs.YtmljjfhgciaceaaDoor
section
variable {p lo hi:Int} {l:List aC} {a T U:aw}
def bq:List aC->aw
 |[]=>aw.zero
 |e::l=>e.is.join (bq l)
theorem cW (h:iz l):(bq l).jr:=by
 induction l with
 |nil=>exact wu
 |cons e l ih=>exact ja h.cons.1 (ih h.cons.2)
theorem qZ {a b:List aC} (ha:iz a) (hb:iz b):bq (a++b)=(bq a).join (bq b):=by
 induction a with
 |nil=>exact(eV (cW hb)).symm
 |cons e l ih=>
  have:=ha.cons
  simp only [List.cons_append,bq]
  rw [ih this.2,join_assoc this.1 (cW this.2) (cW hb)]
theorem D8 {x:aC} (h:iz l) (hx:x.is.jr):bq (ins l x)=(bq l).join x.is:=by
 induction l with
 |nil=>simp only [ins,bq];rw [dn,eV hx]
 |cons e l ih=>
  have hc:=h.cons
  have hf:=cW hc.2
  unfold ins
  split
  ·simp only [bq];rw [ih hc.2,join_assoc hc.1 hf hx]
  ·split
   ·simp only [bq];rw [join_assoc hc.1 hx hf,join_assoc hc.1 hf hx,join_comm hx hf]
   ·simp only [bq];rw [join_comm (ja hc.1 hf) hx]
theorem AQ:∀{m:List aC},aT m/\bh m->bh l->bq (l.foldl ins m)=(bq m).join (bq l):=by
 induction l with
 |nil=>intro m hm _;simp only [List.foldl_nil,bq];rw [dn]
 |cons x l ih=>
  intro m hm hl
  have hc:=hl.cons
  rw [List.foldl_cons,ih ⟨jH hm.1,jR hm.2 hc.1⟩ hc.2,D8 hm.2.dD (.inr hc.1)]
  simp only [bq]
  rw [join_assoc (cW hm.2.dD) (.inr hc.1) (cW hc.2.dD)]
theorem D9 (h:bh l):bq (oG l)=bq l:=by
 have:=AQ (m:=[]) ⟨List.Pairwise.nil,fun _ h=>by cases h⟩ h
 unfold oG;rw [this];exact eV (cW h.dD)
theorem D7 {f:aC->aC} (hf:∀e,(f e).is=e.is) (l:List aC):bq (l.map f)=bq l:=by
 induction l with
 |nil=>rfl
 |cons e l ih=>simp only [List.map_cons,bq];rw [ih,hf]
theorem pU (h:iz l) (p:aC->Bool):iz (l.filter p):=fun e he=>h e (mn.1 he).1
theorem AP (h:iz l) {p q r:aC->Bool} (hr:∀e∈l,r e=(p e || q e)) (hd:∀e∈l,¬(p e=true/\q e=true)) :
  bq (l.filter r)=(bq (l.filter p)).join (bq (l.filter q)):=by
 induction l with
 |nil=>simp only [List.filter_nil,bq];rw [dn]
 |cons e l ih=>
  have hc:=h.cons
  have ih:=ih hc.2 (fun x hx=>hr x (by simp [hx])) (fun x hx=>hd x (by simp [hx]))
  have h1:=hr e bj
  have h2:=hd e bj
  have fp:=cW (pU hc.2 p)
  have fq:=cW (pU hc.2 q)
  cases hp:p e with
  |true=>
   cases hq:q e with
   |true=>exact absurd ⟨hp,hq⟩ h2
   |false=>
    rw [hp,hq]at h1
    rw [rG (by simpa using h1),rG hp,qB (by simp [hq])]
    simp only [bq]
    rw [ih,join_assoc hc.1 fp fq]
  |false=>
   cases hq:q e with
   |true=>
    rw [hp,hq]at h1
    rw [rG (by simpa using h1),qB (by simp [hp]),rG hq]
    simp only [bq]
    rw [ih,<-join_assoc fp hc.1 fq,join_comm fp hc.1,join_assoc hc.1 fp fq]
   |false=>
    rw [hp,hq]at h1
    rw [qB (by simp [h1]),qB (by simp [hp]),qB (by simp [hq]),ih]
def fL (l:List aC) (p lo hi:Int):aw:=bq (l.filter (aR (p*1048576+lo) (p*1048576+hi)))
theorem JD (h:hi<=lo):fL l p lo hi=aw.zero:=by
 unfold fL
 rw [List.filter_eq_nil_iff.2 fun e _=>by simp [aR];omega];rfl
theorem rV (h:iz l) (p lo hi:Int):(fL l p lo hi).jr:=cW (pU h _)
theorem zh (h:iz l) {mid:Int} (h1:lo<=mid) (h2:mid<=hi):fL l p lo hi=(fL l p lo mid).join (fL l p mid hi):=by
 unfold fL
 refine AP h (fun e _=>?_) fun e _=>?_
 ·rw [Bool.eq_iff_iff];simp [aR];omega
 ·simp [aR];omega
theorem xu {m:List aC} {k:Nat} (hg:dX l) (hm:bW l (aQ k)=some m) (h0:0<=lo) (h1:hi<=1048576) (h2:lo%aQ k=0) (h3:hi%aQ k=0) :
  bq (m.filter (aR (p*1048576+lo) (p*1048576+hi)))=fL l p lo hi:=by
 unfold bW at hm
 have hgb:=eu (ir k) hg
 have hb:=rC hgb.1 hm fun x=>decide (p*1048576+lo<=x) && decide (x<p*1048576+hi)
 obtain⟨h4,_,_,_,_⟩:=fR (iT hgb.1) hb
 have e1:m.filter (aR (p*1048576+lo) (p*1048576+hi))=m.filter (fun e=>decide (p*1048576+lo<=e.key) && decide (e.key<p*1048576+hi)):=rfl
 rw [e1,h4,D9 (kD hgb.1.bQ _),List.filter_map,D7 (f:=bucket (aQ k)) (fun _=>rfl)]
 unfold fL
 congr 1
 refine List.filter_congr fun e he=>?_
 have hk:=hg.2.1 e he
 show (decide (p*1048576+lo<=e.key-e.key%1048576%aQ k) && decide (e.key-e.key%1048576%aQ k<p*1048576+hi))=aR _ _ e
 unfold aR
 rw [Bool.eq_iff_iff]
 simp only [Bool.and_eq_true,yi]
 have hm0:=Int.emod_nonneg e.key (show (1048576:Int)≠0 by decide)
 have GV:=Int.emod_lt_of_pos e.key (show (0:Int)<1048576 by decide)
 have U2:=Int.emod_nonneg (e.key%1048576) (show aQ k≠0 by have:=ir k;omega)
 have hr1:=mod_le hm0 (ir k)
 rcases Int.lt_trichotomy (e.key/1048576) p with h|h|h
 ·omega
 ·subst h
  have e2:e.key=e.key/1048576*1048576+e.key%1048576:=af
  generalize e.key/1048576=q at *
  generalize e.key%1048576=m at *
  rw [e2]
  unfold aQ at *
  split at h2
  ·rename_i im;rw [ar im]at *;omega
  ·rename_i im
   split at h2
   ·rename_i hk1;rw [ai im,ar hk1]at *;omega
   ·rename_i hk1;rw [ai im,ai hk1]at *;omega
 ·omega
def bI (a T:aw):Option aw:=if a.c+T.c<=1073741824 then some (a.join T)else none
theorem xy (ha:a.jr) (hT:T.jr) (hU:U.jr):(bI a T).bind (fun r=>bI r U)=bI a (T.join U):=by
 have h1:=dF a T
 have h2:=dF T U
 have h3:=hU.pos
 unfold bI
 by_cases h:a.c+T.c<=1073741824
 ·rw [ar h]
  show (if (a.join T).c+U.c<=1073741824 then _ else _)=_
  rw [h1,h2,join_assoc ha hT hU]
  by_cases h':a.c+T.c+U.c<=1073741824
  ·rw [ar h',ar af]
  ·rw [ai h',ai af]
 ·rw [ai h,ai af];rfl
theorem uy (hU:U.jr) (h:bI a T=none):bI a (T.join U)=none:=by
 have h2:=dF T U
 have h3:=hU.pos
 unfold bI at *
 split at h
 ·cases h
 ·rw [ai af]
theorem Cv (h:a.c<=1073741824):bI a aw.zero=some a:=by
 unfold bI
 rw [ar (by show a.c+0<=1073741824;omega),dn]
theorem ux {r:aw} (ha:a.jr) (hT:T.jr) (h:bI a T=some r):r.jr/\r.c<=1073741824:=by
 unfold bI at h
 split at h
 ·simp only [iw]at h
  subst h
  exact⟨ja ha hT,by rw [dF];omega⟩
 ·cases h
noncomputable def mh (b:Ba) (s:ByteArray) (a z:Int):Int:=
 if bV b s≠0 then bV b s else if ¬cT a z then 2 else match bY b with|none=>0|some l=>match bI aw.zero (fL l (aS b.names s) a (z+1)) with|none=>1|some _=>0
noncomputable def mf (b:Ba) (s:ByteArray) (a z:Int):aw:=
 if bV b s≠0 then aw.zero else if ¬cT a z then aw.zero else match bY b with|none=>aw.zero|some l=>match bI aw.zero (fL l (aS b.names s) a (z+1)) with|none=>aw.zero|some r=>r
end
open Go.RowKit
section
set_option maxRecDepth 100000
set_option maxHeartbeats 4000000
variable {b:Ba} {lo hi:Int} {l:List aC} {ob k p:Nat} {w:World}
structure NQ (W:World) (bb ib ob:Nat) (b:Ba) (l:List aC) (p:Nat) (sa:Option Addr) (sc:Nat) (g0:Option Addr) (l0 p0:Nat) (g1:Option Addr) (l1 p1:Nat) (g2:Option Addr) (l2 p2:Nat):Prop where
 bo:bb<ob
 io:ib<ob
 oW:ob<W.heap.size
 base:W.heap[bb]?=some (.cells (aG sa b.names.length sc g0 l0 p0 g1 l1 p1 g2 l2 p2 b) 35)
 ix:W.heap[ib]?=some (.cells #[.int .i64 p] 3)
 Yz:∀w',Below ob W w'->bM w' (.agg #[.slice g0 l0 p0, .int .i64 b.t0.root]) b.t0
 Yy:∀w',Below ob W w'->bM w' (.agg #[.slice g1 l1 p1, .int .i64 b.t1.root]) b.t1
 Yx:∀w',Below ob W w'->bM w' (.agg #[.slice g2 l2 p2, .int .i64 b.t2.root]) b.t2
 sizes:∀w',Below ob W w'->bL w'
 may:aO b=true
 book:bY b=some l
 small:p<16
def Fg (W:World) (ob:Nat) (r:aw) (w:World):Prop:=Below ob W w/\w.heap[ob]?=some (.cells #[.int .i64 r.c, .int .i64 r.s, .int .i64 r.mi, .int .i64 r.ma, .int .i64 r.t, .int .i64 r.l] 42)
def ft (W:World) (ob:Nat) (a T:aw) (e:Ending) (w':World):Prop:=
 ∃r,Fg W ob r w'/\match bI a T with|none=>e = .returned (.int .i64 1)|some r'=>r'=r/\e = .returned (.int .i64 0)
theorem aa0.at {a:World} (h:aa0 (fun x=>x=ob) a w) (o:Nat) (u:Value):aa0 (fun x=>x=ob) a (w.setCell ⟨ob,o,none⟩ u):=h.setCell (.inl rfl) u
theorem xZ (h:iz l) (j:Nat):(bq (l.take j)).c<=(bq l).c:=by
 have h1:bq l=(bq (l.take j)).join (bq (l.drop j)):=by
  conv=>lhs;rw [<-wL j l]
  exact qZ (fun e he=>h e (wM he)) (fun e he=>h e (uZ he))
 have h2:=(cW (l:=l.drop j) fun e he=>h e (uZ he)).pos
 rw [h1,dF];omega
theorem Cw (h:iz l) {j:Nat} (hj:j<l.length):bq (l.take (j+1))=(bq (l.take j)).join l[j].is:=by
 rw [kK hj,qZ (fun e he=>h e (wM he)) (fun e he=>by simp at he;subst he;exact h _ (fP _))]
 simp only [bq];rw [dn]
theorem Lm (hm:aO b=true) (hl:bY b=some l) (hk:k<3) (h0:0<=lo) (h1:hi<=1048576) (h2:lo%aQ k=0/\hi%aQ k=0) :
  ∃ms,ax (b.tree k)=0/\kI (b.tree k) ((p:Int)*1048576+lo) ((p:Int)*1048576+hi)=some ms/\bq ms=fL l p lo hi/\(∀e∈ms,aq e.is=0)/\ms.length<=50000:=by
 obtain⟨l',hl',_,hg,ht⟩:=iV hm
 rw [hl]at hl'
 simp only [iw]at hl'
 subst hl'
 obtain⟨m,e1,e2⟩:=ht k hk
 obtain⟨e3,e4⟩:=Fb e2 ((p:Int)*1048576+lo) ((p:Int)*1048576+hi)
 refine⟨_,e3,e4,xu hg e1 h0 h1 h2.1 h2.2,fun e he=>((fB e2).2.1 e (mn.1 he).1).2,ik (sH _ _) (fB e2).2.2.2⟩
theorem yQ {W:World} {bb ib:Nat} {sa:Option Addr} {sc:Nat} {g0:Option Addr} {l0 p0:Nat} {g1:Option Addr} {l1 p1:Nat} {g2:Option Addr} {l2 p2:Nat}
  (HW:NQ W bb ib ob b l p sa sc g0 l0 p0 g1 l1 p1 g2 l2 p2) (hk:k<3) (h0:0<=lo) (hlo:lo<=1048576) (h1:0<=hi) (hhi:hi<=1048576) (h2:lo<hi->lo%aQ k=0/\hi%aQ k=0) {a:aw} (ha:aq a=0) (hs:Fg W ob a w) :
  Calls Tryd.prog 103 #[.int .i64 k, .int .i64 lo, .int .i64 hi, .pointer (some ⟨bb,0,none⟩), .pointer (some ⟨ib,0,none⟩), .pointer (some ⟨ob,0,none⟩)] w (ft W ob a (fL l p lo hi)):=by
 obtain⟨cZ,oP⟩:=id hs
 obtain⟨Fy,YS,hoW,hbase,jS,Yz,Yy,Yx,-,qy,uJ,hsm⟩:=HW
 have UW:=cZ.size
 have HS:=hdd hs
 have HA:=hdd ha
 by_cases hlt:lo<hi
 ·have Q8:decide (hi<=lo)=false:=by simp;omega
  obtain⟨ms,q1,q2,q3,q4,q5⟩:=Lm (p:=p) qy uJ hk h0 hhi (h2 hlt)
  obtain⟨Sg,SU⟩:=bt ((p:Int)*1048576+lo)
  obtain⟨hi',S7⟩:=bt ((p:Int)*1048576+hi)
  rw [SU,S7]at q2
  have m1:IntKind.i64.wrap ((p:Int)*1048576)=(p:Int)*1048576:=IntWalk.i64_in _ af
  have m2:IntKind.i64.wrap ((p:Int)*1048576+lo)=Sg:=by rw [SU];exact IntWalk.i64_in _ af
  have m3:IntKind.i64.wrap ((p:Int)*1048576+hi)=hi':=by rw [S7];exact IntWalk.i64_in _ af
  have HQ1:=hdd q1
  have OS:=hdd q2
  have FC:=hdd q3
  have HQ4:=hdd q4
  have OX:=hdd (show iz ms from fun e he=>((eY _).1 (q4 e he)).1)
  have Vu:=hdd ((eY a).1 ha)
  obtain⟨b0,b1,b2,b3,b4,b5⟩:w.cell? ⟨bb,1,none⟩=some (.slice g0 l0 p0)/\w.cell? ⟨bb,2,none⟩=some (.int .i64 b.t0.root)/\w.cell? ⟨bb,3,none⟩=some (.slice g1 l1 p1)/\w.cell? ⟨bb,4,none⟩=some (.int .i64 b.t1.root)/\w.cell? ⟨bb,5,none⟩=some (.slice g2 l2 p2)/\w.cell? ⟨bb,6,none⟩=some (.int .i64 b.t2.root):=by
   have b0:w.heap[bb]?=_:=(cZ.block _ Fy).trans hbase
   simp [World.cell?,b0]
  have i0:w.cell? ⟨ib,0,none⟩=some (.int .i64 p):=by
   have b0:w.heap[ib]?=_:=(cZ.block _ YS).trans jS
   simp [World.cell?,b0]
  have Lc:=hdd fun w' lo hi (hb:Below ob W w')=>iH (lo:=lo) (hi:=hi) (Yz w' hb)
  have N1:=hdd fun w' lo hi (hb:Below ob W w')=>iH (lo:=lo) (hi:=hi) (Yy w' hb)
  have rK:=hdd fun w' lo hi (hb:Below ob W w')=>iH (lo:=lo) (hi:=hi) (Yx w' hb)
  clear q1 q2 q3 q4 SU S7 hlt h0 hlo h1 hhi h2 qy uJ hbase jS Yz Yy Yx hs ha
  go_enter Tryd.func103,Tryd.ntmps103
  go_upto_region 3 with (fail)
  clear Q8
  go_cut [10,11] (fun u c wx=>∃su sd,u = .slice su ms.length sd/\c = .int .i64 0/\au w.heap.size wx (.slice su ms.length sd) ms/\ah w wx)
  case first=>
   obtain rfl|rfl|rfl:k=0\/k=1\/k=2:=af
   ·have rM:=hdd (Lc.out w.drew Sg hi' cZ.drew)
    refine fQ 12 _ rfl bT bT ?_
    (simp only [List.take_succ_cons,List.take_zero,List.drop_succ_cons,List.drop_zero];(repeat ((with_reducible refine wpStill_step (fun K hK=>?_));go_simp;(with_reducible refine hK _ ?_);clear hK K));(with_reducible refine wpStill_nil ?_))
    intro K hK
    go_simp
    (with_reducible refine rM.out.mono ?_);rintro e w5 ⟨cu,-,hok⟩
    have hok:=hok HQ1.out
    rw [show kI b.t0 Sg hi'=some ms from OS.out]at hok
    obtain⟨v5,rfl,iD⟩:=hok
    obtain⟨su,sd,rfl⟩:=iD.isSlice
    go_simp
    refine hK _ _ ?_
    clear hK K
    ((repeat ((with_reducible refine wpStill_step (fun K hK=>?_));go_simp;(with_reducible refine hK _ ?_);clear hK K));(with_reducible refine wpStill_nil ?_))
    all_goals
     go_wp2
     go_meet
     exact⟨_,_,rfl,rfl,iD,Below.trans' (aI _ _).drew cu aH⟩
   ·have rM:=hdd (N1.out w.drew Sg hi' cZ.drew)
    refine fQ 12 _ rfl bT bT ?_
    (simp only [List.take_succ_cons,List.take_zero,List.drop_succ_cons,List.drop_zero];(repeat ((with_reducible refine wpStill_step (fun K hK=>?_));go_simp;(with_reducible refine hK _ ?_);clear hK K));(with_reducible refine wpStill_nil ?_))
    intro K hK
    go_simp
    (with_reducible refine rM.out.mono ?_);rintro e w5 ⟨cu,-,hok⟩
    have hok:=hok HQ1.out
    rw [show kI b.t1 Sg hi'=some ms from OS.out]at hok
    obtain⟨v5,rfl,iD⟩:=hok
    obtain⟨su,sd,rfl⟩:=iD.isSlice
    go_simp
    refine hK _ _ ?_
    clear hK K
    ((repeat ((with_reducible refine wpStill_step (fun K hK=>?_));go_simp;(with_reducible refine hK _ ?_);clear hK K));(with_reducible refine wpStill_nil ?_))
    all_goals
     go_wp2
     go_meet
     exact⟨_,_,rfl,rfl,iD,Below.trans' (aI _ _).drew cu aH⟩
   ·have rM:=hdd (rK.out w.drew Sg hi' cZ.drew)
    refine fQ 12 _ rfl bT bT ?_
    (simp only [List.take_succ_cons,List.take_zero,List.drop_succ_cons,List.drop_zero];(repeat ((with_reducible refine wpStill_step (fun K hK=>?_));go_simp;(with_reducible refine hK _ ?_);clear hK K));(with_reducible refine wpStill_nil ?_))
    intro K hK
    go_simp
    (with_reducible refine rM.out.mono ?_);rintro e w5 ⟨cu,-,hok⟩
    have hok:=hok HQ1.out
    rw [show kI b.t2 Sg hi'=some ms from OS.out]at hok
    obtain⟨v5,rfl,iD⟩:=hok
    obtain⟨su,sd,rfl⟩:=iD.isSlice
    go_simp
    refine hK _ _ ?_
    clear hK K
    ((repeat ((with_reducible refine wpStill_step (fun K hK=>?_));go_simp;(with_reducible refine hK _ ?_);clear hK K));(with_reducible refine wpStill_nil ?_))
    all_goals
     go_wp2
     go_meet
     exact⟨_,_,rfl,rfl,iD,Below.trans' (aI _ _).drew cu aH⟩
  case rest=>
   obtain⟨su,sd,rfl,rfl,kj,hb3⟩:=hcut
   rename World=>w3
   clear b0 b1 b2 b3 b4 b5 i0 m1 m2 m3
   have hz3:=hb3.size
   have RL:=hdd (kj.at af)
   have aaB:w3.heap[ob]?=_:=(hb3.block _ af).trans oP
   have abn:Below ob W w3:=Below.trans' cZ hb3 af
   have HOW:=hdd kj
   clear kj oP
   go_upto_region 5 with (fail)
   go_loopg [11,35] ms.length (fun g ec i wr=>∃(j:Nat) (ok:Bool) (r:aw),j<=ms.length/\g=ms.length-j/\i = .int .i64 j/\ec = .int .i64 (if ok=true then 0 else 1)/\Hid (if ok=true then r=a.join (bq (ms.take j))/\r.c<=1073741824 else bI a (bq ms)=none)/\Hid (wr.heap[ob]?=some (.cells #[.int .i64 r.c, .int .i64 r.s, .int .i64 r.mi, .int .i64 r.ma, .int .i64 r.t, .int .i64 r.l] 42))/\Hid (aa0 (fun x=>x=ob) w3 wr))
   case atStart=>exact⟨0,true,a,jd _,rfl,rfl,rfl,hdd (by rw [ar rfl];exact⟨by simp only [List.take_zero,bq];rw [dn],Vu.out.2⟩),hdd aaB,hdd (aa0.refl _ _)⟩
   case round=>
    obtain⟨j,ok,r,hj,rfl,rfl,rfl,nA,Vn,KR⟩:=hrel
    have UX:=KR.out.size
    have hbr:Below ob W wr:=KR.out.below abn af (fun i hi=>af)
    by_cases hjl:j<ms.length
    ·obtain⟨_,_,hv,-,-,-,-,h5⟩:=RL.out
     injection hv with hv1 _ hv3
     subst hv1 hv3
     obtain⟨eb,eB,lA,si,nE⟩:=h5 af
     subst lA
     have ab7:eb≠ob:=by
      obtain⟨-,⟨-,h0'⟩|⟨g,_,_,hv',hBg,-⟩⟩:=HOW.out.row
      ·omega
      ·injection hv' with Sn _ _
       injection Sn with Sn
       injection Sn with h1 _
       omega
     obtain⟨y0,y1,y2,y3,y4,y5,y6⟩:=bU (aI _ _) si nE hjl
     obtain⟨y,hy⟩:=bt (ms[j])
     rw [hy]at y0 y1 y2 y3 y4 y5 y6
     rw [<-KR.out.cell si ab7]at y0 y1 y2 y3 y4 y5 y6
     have NY:=hdd (HQ4.out y (by rw [<-hy];exact fP hjl))
     have Uk:=hdd (Cw OX.out hjl)
     rw [hy]at Uk
     have GY:=fun w'=>dw (ab:=eb) (aV:=eB) (n:=ms.length) (cap:=sd) (show (j:Int)=((j:Nat):Int) by rfl) hjl w'
     have hwz:eb<wr.heap.size:=af
     obtain⟨W1,hW1⟩:=bP (wr.alloc (.cells #[.int .i64 y.key, .int .i64 y.is.c, .int .i64 y.is.s, .int .i64 y.is.mi, .int .i64 y.is.ma, .int .i64 y.is.t, .int .i64 y.is.l] 96))
     have ht1:aa0 (fun x=>x=ob) w3 W1:=by rw [hW1];exact KR.out.alloc _
     have hz1:W1.heap.size=wr.heap.size+1:=by rw [hW1];simp
     have hb1:ah wr W1:=by rw [hW1];exact ag
     have k1:W1.heap[wr.heap.size]?=some (.cells #[.int .i64 y.key, .int .i64 y.is.c, .int .i64 y.is.s, .int .i64 y.is.mi, .int .i64 y.is.ma, .int .i64 y.is.t, .int .i64 y.is.l] 96):=by rw [hW1];exact aj _ _ rfl
     obtain⟨q1,q2,q3,q4,q5,q6⟩:W1.cell? ⟨wr.heap.size,1,none⟩=some (.int .i64 y.is.c)/\W1.cell? ⟨wr.heap.size,2,none⟩=some (.int .i64 y.is.s)/\W1.cell? ⟨wr.heap.size,3,none⟩=some (.int .i64 y.is.mi)/\W1.cell? ⟨wr.heap.size,4,none⟩=some (.int .i64 y.is.ma)/\W1.cell? ⟨wr.heap.size,5,none⟩=some (.int .i64 y.is.t)/\W1.cell? ⟨wr.heap.size,6,none⟩=some (.int .i64 y.is.l):=by simp [World.cell?,k1]
     have FD:=hdd ((hb1.block _ af).trans Vn.out:W1.heap[ob]?=_)
     obtain⟨o0,o1,o2,o3,o4,o5,-⟩:=cF FD.out
     clear nE h5 hy
     go_upto_region 7 with (fail)
     rw [<-hW1]
     clear hW1 k1 y0 y1 y2 y3 y4 y5 y6
     cases ok with
     |false=>
      go_wp2
      go_roundg (ms.length-(j+1))
      case measure=>omega
      case rel=>exact⟨j+1,false,r,af,rfl,by go_num,rfl,nA,FD,hdd ht1⟩
     |true=>
      obtain⟨hr1,hr2⟩:=nA.out
      have hrc:aq r=0:=(eY r).2 ⟨by rw [hr1];exact ja Vu.out.1 (cW fun e he=>OX.out e (wM he)),hr2⟩
      by_cases hcc:r.c+y.is.c<=1073741824
      ·have HM:=hdd fun w'=>(by have:=jQ r y.is w';rw [(qU hrc NY.out hcc).1]at this;exact this :
        Calls Tryd.prog 18 #[.agg #[.int .i64 r.c, .int .i64 r.s, .int .i64 r.mi, .int .i64 r.ma, .int .i64 r.t, .int .i64 r.l], .agg #[.int .i64 y.is.c, .int .i64 y.is.s, .int .i64 y.is.mi, .int .i64 y.is.ma, .int .i64 y.is.t, .int .i64 y.is.l]] w' fun e' w5=>e' = .returned (.tuple #[.agg #[.int .i64 (r.join y.is).c, .int .i64 (r.join y.is).s, .int .i64 (r.join y.is).mi, .int .i64 (r.join y.is).ma, .int .i64 (r.join y.is).t, .int .i64 (r.join y.is).l], .int .i64 0])/\ah w' w5)
       have AE:=hdd (show r.join y.is=a.join (bq (ms.take (j+1)))/\(r.join y.is).c<=1073741824 from ⟨by
        rw [Uk.out,hr1,join_assoc Vu.out.1 (cW fun e he=>OX.out e (wM he)) ((eY _).1 NY.out).1],by rw [dF];exact hcc⟩)
       generalize r.join y.is=J at *
       clear hr1 hr2 hrc hcc nA
       go_wp2_with ((go_at_call 18;(with_reducible refine(HM.out _).mono ?_);rintro e' w5 ⟨rfl,cu⟩;have qq:=ht1.trans (aa0.of cu aH);have iD:w5.heap[ob]?=_:=(cu.block _ af).trans FD.out;obtain⟨z0,z1,z2,z3,z4,z5,zf⟩:=cF iD))
       go_roundg (ms.length-(j+1))
       case measure=>omega
       case rel=>exact⟨j+1,true,J,af,rfl,by go_num,rfl,hdd (by rw [ar rfl];exact AE.out),hdd (by with_reducible exact jT iD),hdd (by repeat (first|with_reducible exact aa0.refl _ _|with_reducible assumption|with_reducible refine aa0.drewN ?_ _|with_reducible refine aa0.drew ?_|with_reducible refine aa0.alloc ?_ _|with_reducible refine aa0.at ?_ _ _))⟩
      ·have HM:=hdd fun w'=>(by have:=jQ r y.is w';rw [(iO hrc NY.out).trans (ai hcc)]at this;exact this :
        Calls Tryd.prog 18 #[.agg #[.int .i64 r.c, .int .i64 r.s, .int .i64 r.mi, .int .i64 r.ma, .int .i64 r.t, .int .i64 r.l], .agg #[.int .i64 y.is.c, .int .i64 y.is.s, .int .i64 y.is.mi, .int .i64 y.is.ma, .int .i64 y.is.t, .int .i64 y.is.l]] w' fun e' w5=>e' = .returned (.tuple #[.agg #[.int .i64 aw.zero.c, .int .i64 aw.zero.s, .int .i64 aw.zero.mi, .int .i64 aw.zero.ma, .int .i64 aw.zero.t, .int .i64 aw.zero.l], .int .i64 1])/\ah w' w5)
       have AE:=hdd (show bI a (bq ms)=none by
        have e1:=xZ OX.out (j+1)
        have e2:=dF (bq (ms.take j)) y.is
        have e3:=dF a (bq (ms.take j))
        rw [Uk.out]at e1
        rw [<-hr1]at e3
        unfold bI
        rw [ai af])
       generalize aw.zero=J at *
       clear hr1 hr2 hrc hcc nA
       go_wp2_with ((go_at_call 18;(with_reducible refine(HM.out _).mono ?_);rintro e' w5 ⟨rfl,cu⟩;have qq:=ht1.trans (aa0.of cu aH);have iD:w5.heap[ob]?=_:=(cu.block _ af).trans FD.out;obtain⟨z0,z1,z2,z3,z4,z5,zf⟩:=cF iD))
       go_roundg (ms.length-(j+1))
       case measure=>omega
       case rel=>exact⟨j+1,false,J,af,rfl,by go_num,rfl,hdd (by rw [ai aW];exact AE.out),hdd (by with_reducible exact jT iD),hdd (by repeat (first|with_reducible exact aa0.refl _ _|with_reducible assumption|with_reducible refine aa0.drewN ?_ _|with_reducible refine aa0.drew ?_|with_reducible refine aa0.alloc ?_ _|with_reducible refine aa0.at ?_ _ _))⟩
    ·have hall:ms.take j=ms:=lI af
     cases ok with
     |false=>
      have kN:=hdd (show bI a (fL l p lo hi)=none by rw [<-FC.out];exact nA.out)
      go_wp2
      go_ret
      refine⟨r,⟨hbr,Vn.out⟩,?_⟩
      rw [kN.out]
      exact rfl
     |true=>
      have kN:=hdd (show bI a (fL l p lo hi)=some r by
       obtain⟨hr1,hr2⟩:=nA.out
       rw [hall,FC.out]at hr1
       have:=dF a (fL l p lo hi)
       unfold bI
       rw [hr1]at hr2 ⊢
       rw [ar af])
      clear hall
      go_wp2
      go_ret
      refine⟨r,⟨hbr,Vn.out⟩,?_⟩
      rw [kN.out]
      exact⟨rfl,rfl⟩
 ·have Q8:decide (hi<=lo)=true:=by simp;omega
  have kN:=hdd (show bI a (fL l p lo hi)=some a by rw [JD af];exact Cv ((eY a).1 ha).2)
  clear hlt h0 hlo h1 hhi h2 qy uJ hbase jS Yz Yy Yx ha
  go_enter Tryd.func103,Tryd.ntmps103
  go_wp2
  go_ret
  refine⟨a,hs,?_⟩
  rw [kN.out]
  exact⟨rfl,rfl⟩
end
section
set_option maxRecDepth 100000
set_option maxHeartbeats 2000000
variable {e:Ending} {ob:Nat} {a T r:aw} {W w':World}
theorem ft.Vj (h:ft W ob a T e w') (hm:bI a T=none):e = .returned (.int .i64 1)/\∃r,Fg W ob r w':=by
 obtain⟨r,h1,h2⟩:=h
 rw [hm]at h2
 exact⟨h2,r,h1⟩
theorem ft.CI (h:ft W ob a T e w') (hm:bI a T=some r):e = .returned (.int .i64 0)/\Fg W ob r w':=by
 obtain⟨r',h1,h2⟩:=h
 rw [hm]at h2
 obtain⟨rfl,h3⟩:=h2
 exact⟨h3,h1⟩
theorem ft.no (hm:bI a T=none) (h:∃r,Fg W ob r w'):ft W ob a T (.returned (.int .i64 1)) w':=by
 obtain⟨r,h⟩:=h
 exact⟨r,h,by rw [hm]⟩
theorem ft.yes (hm:bI a T=some r) (h:Fg W ob r w'):ft W ob a T (.returned (.int .i64 0)) w':=⟨r,h,by rw [hm];exact⟨rfl,rfl⟩⟩
abbrev ZG (bb ib ob:Nat):Value:= .func (.func 103) #[] #[.pointer (some ⟨bb,0,none⟩), .pointer (some ⟨ib,0,none⟩), .pointer (some ⟨ob,0,none⟩)]
def C3 (W:World) (bb ib ob:Nat) (l:List aC) (p:Nat) (n:Int):Prop:=∀(lo hi:Int),0<=lo->lo<=hi->hi<=1048576->∀a,aq a=0->∀w,Fg W ob a w ->
 Calls Tryd.prog 104 #[.int .i64 n, .int .i64 lo, .int .i64 hi,ZG bb ib ob] w (ft W ob a (fL l p lo hi))
section
variable {W:World} {bb ib ob:Nat} {b:Ba} {l:List aC} {p:Nat} {sa:Option Addr} {sc:Nat} {g0:Option Addr} {l0 p0:Nat} {g1:Option Addr} {l1 p1:Nat} {g2:Option Addr} {l2 p2:Nat}
theorem Hr (HW:NQ W bb ib ob b l p sa sc g0 l0 p0 g1 l1 p1 g2 l2 p2):C3 W bb ib ob l p 0:=by
 intro lo hi h0 h1 h2 a ha w hs
 have HT:=hdd (show Calls Tryd.prog 103 #[.int .i64 0, .int .i64 lo, .int .i64 hi, .pointer (some ⟨bb,0,none⟩), .pointer (some ⟨ib,0,none⟩), .pointer (some ⟨ob,0,none⟩)] w (ft W ob a (fL l p lo hi)) from
  yQ HW (k:=0) aW h0 af af h2 (fun _=>⟨Int.emod_one lo,Int.emod_one hi⟩) ha hs)
 cases hm:bI a (fL l p lo hi) with
 |none=>
  have HM:=hdd hm
  clear hm
  go_enter Tryd.func104,Tryd.ntmps104
  go_wp2_with ((go_at_call 103;(with_reducible refine HT.out.mono ?_);intro e w5 h5;obtain⟨rfl,hs5⟩:=h5.Vj HM.out))
  go_ret
  exact ft.no HM.out hs5
 |some r=>
  have HM:=hdd hm
  clear hm
  go_enter Tryd.func104,Tryd.ntmps104
  go_wp2_with ((go_at_call 103;(with_reducible refine HT.out.mono ?_);intro e w5 h5;obtain⟨rfl,hs5⟩:=h5.CI HM.out))
  go_ret
  exact ft.yes HM.out hs5
theorem Af (HW:NQ W bb ib ob b l p sa sc g0 l0 p0 g1 l1 p1 g2 l2 p2) {k:Nat} (hk:k=1\/k=2) {M:Int} (hM:(k:Int)-1=M) (IH:C3 W bb ib ob l p M):C3 W bb ib ob l p k:=by
 intro lo hi h0 h1 h2 a ha w hs
 obtain⟨sz,hsz⟩:=bt (aQ k)
 have V9:sz=60\/sz=3600:=by rcases hk with rfl|rfl;exact .inl hsz.symm;exact .inr hsz.symm
 have hs0:(sz == 0)=false:=by simp;omega
 obtain⟨F,hF⟩:=bt ((lo+sz-1)/sz)
 obtain⟨G,hG⟩:=bt (hi/sz)
 obtain⟨A,hA⟩:=bt (F*sz)
 obtain⟨Z,hZ⟩:=bt (G*sz)
 have Xz:lo<=A/\A<=lo+sz-1:=by
  rw [<-hA,<-hF]
  have e1:=Int.ediv_mul_le (lo+sz-1) (show sz≠0 by omega)
  have e2:=Int.lt_ediv_add_one_mul_self (lo+sz-1) (show 0<sz by omega)
  rw [Int.add_mul,Int.one_mul]at e2
  omega
 have Y7:A%sz=0:=by rw [<-hA];exact Int.mul_emod_left F sz
 have Nc:Z<=hi/\0<=Z:=by
  rw [<-hZ,<-hG]
  exact⟨Int.ediv_mul_le hi af,Int.mul_nonneg (Int.ediv_nonneg af af) af⟩
 have hZ2:Z%sz=0:=by rw [<-hZ];exact Int.mul_emod_left G sz
 have hF0:0<=F/\F<=lo+sz-1:=by rw [<-hF];exact⟨Int.ediv_nonneg af af,Int.ediv_le_self _ af⟩
 have hG0:0<=G/\G<=hi:=by rw [<-hG];exact⟨Int.ediv_nonneg af af,Int.ediv_le_self _ af⟩
 have m1:IntKind.i64.wrap (lo+sz)=lo+sz:=IntWalk.i64_in _ af
 have m2:IntKind.i64.wrap (lo+sz-1)=lo+sz-1:=IntWalk.i64_in _ af
 have m3:(lo+sz-1).tdiv sz=F:=by rw [Bf af];exact hF
 have m4:IntKind.i64.wrap F=F:=IntWalk.i64_in _ af
 have m5:IntKind.i64.wrap (F*sz)=A:=by rw [hA];exact IntWalk.i64_in _ af
 have m6:hi.tdiv sz=G:=by rw [Bf af];exact hG
 have m7:IntKind.i64.wrap G=G:=IntWalk.i64_in _ af
 have m8:IntKind.i64.wrap (G*sz)=Z:=by rw [hZ];exact IntWalk.i64_in _ af
 have m9:IntKind.i64.wrap ((k:Int)-1)=M:=by rw [hM];exact IntWalk.i64_in _ af
 have S3:((k:Int) == 0)=false:=by simp;omega
 obtain⟨-,c0,c1,c2⟩:=HW.sizes w hs.1
 have OX:=hdd (show iz l from (gw HW.book).2.1.bQ.dD)
 have Vu:=hdd ((eY a).1 ha)
 have UC:=hdd IH
 have HT:=hdd fun lo hi (h0:0<=lo) (h1:lo<=1048576) (h2:0<=hi) (h3:hi<=1048576) (h4:lo<hi->lo%sz=0/\hi%sz=0) a (ha:aq a=0) w (hs:Fg W ob a w)=>yQ HW (k:=k) af h0 h1 h2 h3 (by rw [hsz];exact h4) ha hs
 have nN:=hdd hsz
 have HK:=hdd hk
 have HSV:=hdd V9
 have Zt:=hdd ha
 clear hsz hF hG hA hZ hM hF0 hG0 ha IH HW
 go_enter Tryd.func104,Tryd.ntmps104
 go_upto_region 3 with (fail)
 go_cut [9] (fun s wx=>s = .int .i64 sz/\wx=w)
 case first=>
  rcases HK.out with rfl|rfl
  ·obtain rfl:60=sz:=nN.out
   go_wp2
   go_meet
   exact⟨rfl,rfl⟩
  ·obtain rfl:3600=sz:=nN.out
   go_wp2
   go_meet
   exact⟨rfl,rfl⟩
 case rest=>
  obtain⟨rfl,hwc⟩:=hcut
  obtain rfl:=hwc.symm
  clear c0 c1 c2 V9 hk
  by_cases Vg:Z<=A
  ·have hd:decide (Z<=A)=true:=by simp [Vg]
   have HC:=hdd (UC.out lo hi h0 h1 h2 a Zt.out w hs)
   clear Vg
   cases hm:bI a (fL l p lo hi) with
   |none=>
    have HM:=hdd hm
    clear hm
    go_wp2_with ((go_at_call 104;(with_reducible refine HC.out.mono ?_);intro e w5 h5;obtain⟨rfl,hs5⟩:=h5.Vj HM.out))
    go_ret
    exact ft.no HM.out hs5
   |some r=>
    have HM:=hdd hm
    clear hm
    go_wp2_with ((go_at_call 104;(with_reducible refine HC.out.mono ?_);intro e w5 h5;obtain⟨rfl,hs5⟩:=h5.CI HM.out))
    go_ret
    exact ft.yes HM.out hs5
  ·have hd:decide (Z<=A)=false:=by simp;omega
   have h3:A<Z:=af
   have HP:=hdd (show fL l p lo hi=(fL l p lo A).join ((fL l p A Z).join (fL l p Z hi)) by
    rw [zh OX.out (p:=p) (show lo<=A from Xz.1) (show A<=hi by omega),zh OX.out (p:=p) (show A<=Z by omega) Nc.1])
   have Vx:=hdd (UC.out lo A h0 Xz.1 af a Zt.out w hs)
   have hf1:=rV OX.out p lo A
   have hf2:=rV OX.out p A Z
   have hf3:=rV OX.out p Z hi
   cases GV:bI a (fL l p lo A) with
   |none=>
    have X3:=hdd GV
    have HM:=hdd (show bI a (fL l p lo hi)=none by rw [HP.out];exact uy (ja hf2 hf3) GV)
    clear GV Vg
    go_wp2_with ((go_at_call 104;(with_reducible refine Vx.out.mono ?_);intro e w5 h5;obtain⟨rfl,hs5⟩:=h5.Vj X3.out))
    go_ret
    exact ft.no HM.out hs5
   |some r1=>
    have X3:=hdd GV
    have hr1:=ux Vu.out.1 hf1 GV
    have Uq:=hdd ((eY r1).2 hr1)
    have rK:=hdd fun w hs=>HT.out A Z af af af af (fun _=>⟨Y7,hZ2⟩) r1 Uq.out w hs
    have HQ:=hdd (show bI a (fL l p lo hi)=bI r1 ((fL l p A Z).join (fL l p Z hi)) by
     rw [HP.out,<-xy Vu.out.1 hf1 (ja hf2 hf3),GV];rfl)
    cases hm2:bI r1 (fL l p A Z) with
    |none=>
     have Zr:=hdd hm2
     have HM:=hdd (show bI a (fL l p lo hi)=none by rw [HQ.out];exact uy hf3 hm2)
     clear GV hm2 Vg hr1
     go_wp2_with (first|(go_at_call 104;(with_reducible refine Vx.out.mono ?_);intro e w5 h5;obtain⟨rfl,hs5⟩:=h5.CI X3.out)|(go_at_call 103;(with_reducible refine(rK.out _ hs5).mono ?_);intro e w6 h6;obtain⟨rfl,Wf⟩:=h6.Vj Zr.out))
     go_ret
     exact ft.no HM.out Wf
    |some r2=>
     have Zr:=hdd hm2
     have hr2:=ux hr1.1 hf2 hm2
     have O0:=hdd fun w hs=>UC.out Z hi Nc.2 Nc.1 h2 r2 ((eY r2).2 hr2) w hs
     have OS:=hdd (show bI a (fL l p lo hi)=bI r2 (fL l p Z hi) by
      rw [HQ.out,<-xy hr1.1 hf2 hf3,hm2];rfl)
     cases U6:bI r2 (fL l p Z hi) with
     |none=>
      have HM3:=hdd U6
      have HM:=hdd (OS.out.trans U6)
      clear GV hm2 U6 Vg hr1 hr2
      go_wp2_with (first|(go_at_call 104;(with_reducible refine Vx.out.mono ?_);intro e w5 h5;obtain⟨rfl,hs5⟩:=h5.CI X3.out)|(go_at_call 103;(with_reducible refine(rK.out _ hs5).mono ?_);intro e w6 h6;obtain⟨rfl,Wf⟩:=h6.CI Zr.out)|(go_at_call 104;(with_reducible refine(O0.out _ Wf).mono ?_);intro e w7 h7;obtain⟨rfl,hs7⟩:=h7.Vj HM3.out))
      go_ret
      exact ft.no HM.out hs7
     |some r3=>
      have HM3:=hdd U6
      have HM:=hdd (OS.out.trans U6)
      clear GV hm2 U6 Vg hr1 hr2
      go_wp2_with (first|(go_at_call 104;(with_reducible refine Vx.out.mono ?_);intro e w5 h5;obtain⟨rfl,hs5⟩:=h5.CI X3.out)|(go_at_call 103;(with_reducible refine(rK.out _ hs5).mono ?_);intro e w6 h6;obtain⟨rfl,Wf⟩:=h6.CI Zr.out)|(go_at_call 104;(with_reducible refine(O0.out _ Wf).mono ?_);intro e w7 h7;obtain⟨rfl,hs7⟩:=h7.CI HM3.out))
      go_ret
      exact ft.yes HM.out hs7
theorem Ks (HW:NQ W bb ib ob b l p sa sc g0 l0 p0 g1 l1 p1 g2 l2 p2):C3 W bb ib ob l p 2:=
 Af (k:=2) HW (.inr rfl) (M:=1) aW (Af (k:=1) HW (.inl rfl) (M:=0) aW (Hr HW))
end
end
section
set_option maxRecDepth 100000
set_option maxHeartbeats 4000000
variable {b:Ba} {s:ByteArray} {a z p:Int} {l:List aC}
def KO (B:Nat) (w:World) (r:aw) (E:Int) (e:Ending) (w':World):Prop:=Below B w w'/\e = .returned (.tuple #[r.v, .int .i64 E])
theorem pG (h:bV b s≠0):mh b s a z=bV b s/\mf b s a z=aw.zero:=by
 unfold mh mf;rw [ar h,ar h];exact⟨rfl,rfl⟩
theorem xg (h:bV b s=0) (hr:¬cT a z):mh b s a z=2/\mf b s a z=aw.zero:=by
 unfold mh mf;rw [ai (jo h),ai (jo h),ar hr,ar hr];exact⟨rfl,rfl⟩
theorem FN (h:bV b s=0) (hr:cT a z) (hl:bY b=some l) (hp:aS b.names s=p) (hm:bI aw.zero (fL l p a (z+1))=none):mh b s a z=1/\mf b s a z=aw.zero:=by
 subst hp
 unfold mh mf;rw [ai (jo h),ai (jo h),ai (jo hr),ai (jo hr),hl];simp only;rw [hm];exact⟨rfl,rfl⟩
theorem FM {r:aw} (h:bV b s=0) (hr:cT a z) (hl:bY b=some l) (hp:aS b.names s=p) (hm:bI aw.zero (fL l p a (z+1))=some r):mh b s a z=0/\mf b s a z=r:=by
 subst hp
 unfold mh mf;rw [ai (jo h),ai (jo h),ai (jo hr),ai (jo hr),hl];simp only;rw [hm];exact⟨rfl,rfl⟩
theorem Ju {v:Value} {w:World} (h:bO w v b) (hst:∀s∈b.names,s.size<=140737488351232) (hsz:bL w) :
  Calls Tryd.prog 84 #[v, .string s, .int .i64 a, .int .i64 z] w (KO w.heap.size w (mf b s a z) (mh b s a z)):=by
 have qF:=hdd fun w' (hb:ah w w')=>yX (s:=s) (h.below hb) hst (hsz.below hb)
 obtain⟨sa,sc,g0,l0,p0,g1,l1,p1,g2,l2,p2,rfl,hn,jl,T0,T1,T2⟩:=h.open
 obtain⟨W0,hW0⟩:=bP ((w.alloc (.cells (aG sa b.names.length sc g0 l0 p0 g1 l1 p1 g2 l2 p2 b) 35)).alloc (.cells #[.int .i64 0, .int .i64 0, .int .i64 0, .int .i64 0, .int .i64 0, .int .i64 0] 42))
 have hb0:ah w W0:=by rw [hW0];exact ag
 have hz0:W0.heap.size=w.heap.size+2:=by rw [hW0];simp
 have k0:W0.heap[w.heap.size]?=some (.cells (aG sa b.names.length sc g0 l0 p0 g1 l1 p1 g2 l2 p2 b) 35):=by rw [hW0,kW _ _ _ bj];exact aj _ _ rfl
 have k1:W0.heap[w.heap.size+1]?=some (.cells #[.int .i64 0, .int .i64 0, .int .i64 0, .int .i64 0, .int .i64 0, .int .i64 0] 42):=by rw [hW0];exact aj _ _ bj
 have HZ:=hdd fun w' (hb:ah W0 w')=>cF ((hb.block _ af).trans k1)
 have HX:=hdd fun w' (hb:ah W0 w')=>(by
  have b0:w'.heap[w.heap.size]?=_:=(hb.block _ af).trans k0
  simp [World.cell?,b0] :
  w'.cell? ⟨w.heap.size,0,none⟩=some (.slice sa b.names.length sc)/\w'.cell? ⟨w.heap.size,1,none⟩=some (.slice g0 l0 p0)/\w'.cell? ⟨w.heap.size,2,none⟩=some (.int .i64 b.t0.root)/\w'.cell? ⟨w.heap.size,3,none⟩=some (.slice g1 l1 p1)/\w'.cell? ⟨w.heap.size,4,none⟩=some (.int .i64 b.t1.root)/\w'.cell? ⟨w.heap.size,5,none⟩=some (.slice g2 l2 p2)/\w'.cell? ⟨w.heap.size,6,none⟩=some (.int .i64 b.t2.root)/\w'.cell? ⟨w.heap.size,7,none⟩=some (.int .i64 b.floor))
 have HB:=hdd fun w' (hb:ah W0 w')=>(Below.trans' hb0 hb hb0.size:ah w w')
 obtain⟨x0,x1,x2,x3,x4,x5,x6,x7⟩:=HX.out W0 (aI _ _)
 have nN:=hdd hsz
 have Lc:=hdd T0
 have N1:=hdd T1
 have rK:=hdd T2
 have XL:=hdd jl
 have YQ:∀(fn:Fn) (first cap:Array Value) (w:World),(Instr.makeFunc fn first cap).run Tryd.prog w = .ok (.func fn first cap) w:=fun _ _ _ _=>rfl
 have OW:=hdd k0
 clear h hst hsz jl T0 T1 T2 k0
 go_enter Tryd.func84,Tryd.ntmps84
 go_upto_region 1 with (fail)
 rw [<-hW0]
 clear hW0 k1
 rcases oq b s with ⟨e1,e2⟩|⟨e1,e2,e3⟩|⟨e1,e2,p,hp,e3⟩
 ·obtain⟨r1,r2⟩:=pG (a:=a) (z:=z) (show bV b s≠0 by omega)
  have HR:=hdd (aL (r1.trans e1) r2)
  rw [e1]at qF
  clear e1 e2 r1 r2
  go_upto_region 2 with ((go_at_call 100;(with_reducible refine(qF.out _ hb0).mono ?_);rintro e w1 ⟨rfl,hb1⟩))
  obtain⟨W2,hW2⟩:=bP (w1.alloc (.cells #[.int .i64 (gY b s)] 3))
  have hz1:=hb1.size
  have hz2:W2.heap.size=w1.heap.size+1:=by rw [hW2];simp
  have hb2:ah w1 W2:=by rw [hW2];exact ag
  have k2:W2.heap[w1.heap.size]?=some (.cells #[.int .i64 (gY b s)] 3):=by rw [hW2];exact aj _ _ rfl
  have tH:ah W0 W2:=Below.trans' hb1 hb2 hz1
  have cZ:=HB.out _ tH
  obtain⟨z0,z1,z2,z3,z4,z5,zf⟩:=HZ.out _ tH
  rw [<-hW2]
  clear hW2
  clear k2
  go_wp2
  exact bodyPost_ret (v:= .tuple #[.agg #[.int .i64 0, .int .i64 0, .int .i64 0, .int .i64 0, .int .i64 0, .int .i64 0], .int .i64 7]) (by simp [results,Tryd.results84,go_sem, *]) rfl ⟨ag,by rw [HR.out.1,HR.out.2];rfl⟩
 ·obtain⟨r1,r2⟩:=pG (a:=a) (z:=z) (show bV b s≠0 by omega)
  have HR:=hdd (aL (r1.trans e1) r2)
  rw [e1]at qF
  clear e1 e2 e3 r1 r2
  go_upto_region 2 with ((go_at_call 100;(with_reducible refine(qF.out _ hb0).mono ?_);rintro e w1 ⟨rfl,hb1⟩))
  obtain⟨W2,hW2⟩:=bP (w1.alloc (.cells #[.int .i64 (gY b s)] 3))
  have hz1:=hb1.size
  have hz2:W2.heap.size=w1.heap.size+1:=by rw [hW2];simp
  have hb2:ah w1 W2:=by rw [hW2];exact ag
  have k2:W2.heap[w1.heap.size]?=some (.cells #[.int .i64 (gY b s)] 3):=by rw [hW2];exact aj _ _ rfl
  have tH:ah W0 W2:=Below.trans' hb1 hb2 hz1
  have cZ:=HB.out _ tH
  obtain⟨z0,z1,z2,z3,z4,z5,zf⟩:=HZ.out _ tH
  rw [<-hW2]
  clear hW2
  clear k2
  go_wp2
  exact bodyPost_ret (v:= .tuple #[.agg #[.int .i64 0, .int .i64 0, .int .i64 0, .int .i64 0, .int .i64 0, .int .i64 0], .int .i64 6]) (by simp [results,Tryd.results84,go_sem, *]) rfl ⟨ag,by rw [HR.out.1,HR.out.2];rfl⟩
 ·have hI:gY b s=p:=by unfold gY;rw [ar e1];exact e3
  rw [e1,hI]at qF
  clear hI
  go_upto_region 2 with ((go_at_call 100;(with_reducible refine(qF.out _ hb0).mono ?_);rintro e w1 ⟨rfl,hb1⟩))
  obtain⟨W2,hW2⟩:=bP (w1.alloc (.cells #[.int .i64 ((p:Int))] 3))
  have hz1:=hb1.size
  have hz2:W2.heap.size=w1.heap.size+1:=by rw [hW2];simp
  have hb2:ah w1 W2:=by rw [hW2];exact ag
  have k2:W2.heap[w1.heap.size]?=some (.cells #[.int .i64 ((p:Int))] 3):=by rw [hW2];exact aj _ _ rfl
  have tH:ah W0 W2:=Below.trans' hb1 hb2 hz1
  have cZ:=HB.out _ tH
  obtain⟨z0,z1,z2,z3,z4,z5,zf⟩:=HZ.out _ tH
  rw [<-hW2]
  clear hW2
  have HT:=hdd (Bn a z)
  by_cases hr:cT a z
  ·have htd:decide (cT a z)=true:=by simp [hr]
   rw [htd]at HT
   obtain⟨hr1,hr2,hr3⟩:=id hr
   obtain⟨l,hl,-⟩:=iV e2
   have m1:IntKind.i64.wrap (z+1)=z+1:=IntWalk.i64_in _ af
   have N4:=hdd e1
   have C0:=hdd e2
   have HPL:=hdd e3
   have HL:=hdd hl
   have nY:=hdd hr
   clear e1 e2 e3 hl htd hr hr1 hr2 hr3
   clear z0 z1 z2 z3 z4 z5 zf
   go_upto_region 8 with ((go_at_call 102;(with_reducible refine(HT.out _).mono ?_);rintro e w2 ⟨rfl,hw2⟩;obtain rfl:=hw2.symm))
   obtain⟨W4,BM⟩:=bP (W2.alloc (.cells #[.int .i64 0, .int .i64 0, .int .i64 0, .int .i64 0, .int .i64 0, .int .i64 0] 42))
   have YK:W4.heap.size=W2.heap.size+1:=by rw [BM];simp
   have hb4:ah W2 W4:=by rw [BM];exact ag
   have k4:W4.heap[w1.heap.size]?=some (.cells #[.int .i64 p] 3):=(hb4.block _ af).trans k2
   have k5:W4.heap[W2.heap.size]?=some (.cells #[.int .i64 0, .int .i64 0, .int .i64 0, .int .i64 0, .int .i64 0, .int .i64 0] 42):=by rw [BM];exact aj _ _ rfl
   have WV:ah W0 W4:=Below.trans' tH hb4 tH.size
   have hbW:=hdd fun w' (hb:Below W2.heap.size W4 w')=>(WV.trans (hb.mono af):ah W0 w')
   have Ui:NQ W4 w.heap.size w1.heap.size W2.heap.size b l p sa sc g0 l0 p0 g1 l1 p1 g2 l2 p2:=
    ⟨af,af,af,(WV.block _ af).trans OW.out,k4,fun w' hb=>Lc.out w' (HB.out _ (hbW.out w' hb)),fun w' hb=>N1.out w' (HB.out _ (hbW.out w' hb)),fun w' hb=>rK.out w' (HB.out _ (hbW.out w' hb)),fun w' hb=>nN.out.below (HB.out _ (hbW.out w' hb)),C0.out,HL.out,hp⟩
   have HCV:=hdd (Ks Ui a (z+1) nY.out.1 (by have:=nY.out.2.1;omega) (by have:=nY.out.2.2;omega) aw.zero aW W4 ⟨aI _ _,k5⟩)
   rw [hz2]at HCV hbW
   clear k2 k4 k5 Ui
   rw [<-BM]
   clear BM
   cases hm:bI aw.zero (fL l p a (z+1)) with
   |none=>
    have HM:=hdd hm
    have HR:=hdd (FN N4.out nY.out HL.out HPL.out hm)
    clear hm
    go_wp2_with ((go_at_call 104;(with_reducible refine HCV.out.mono ?_);intro e w5 h5;obtain⟨rfl,r5,cu,-⟩:=h5.Vj HM.out;have Ew:=hbW.out _ cu;have abj:=HB.out _ Ew;obtain⟨z0,z1,z2,z3,z4,z5,zf⟩:=HZ.out _ Ew))
    exact bodyPost_ret (v:= .tuple #[.agg #[.int .i64 0, .int .i64 0, .int .i64 0, .int .i64 0, .int .i64 0, .int .i64 0], .int .i64 1]) (by simp [results,Tryd.results84,go_sem, *]) rfl ⟨ag,by rw [HR.out.1,HR.out.2];rfl⟩
   |some r=>
    have HM:=hdd hm
    have HR:=hdd (FM N4.out nY.out HL.out HPL.out hm)
    clear hm
    go_wp2_with ((go_at_call 104;(with_reducible refine HCV.out.mono ?_);intro e w5 h5;obtain⟨rfl,cu,iD⟩:=h5.CI HM.out;have Ew:=hbW.out _ cu;have abj:=HB.out _ Ew;obtain⟨z0,z1,z2,z3,z4,z5,zf⟩:=HZ.out _ Ew;obtain⟨o0,o1,o2,o3,o4,o5,of⟩:=cF iD))
    exact bodyPost_ret (v:= .tuple #[.agg #[.int .i64 r.c, .int .i64 r.s, .int .i64 r.mi, .int .i64 r.ma, .int .i64 r.t, .int .i64 r.l], .int .i64 0]) (by simp [results,Tryd.results84,go_sem, *]) rfl ⟨ag,by rw [HR.out.1,HR.out.2]⟩
  ·have htd:decide (cT a z)=false:=by simp [hr]
   rw [htd]at HT
   have HR:=hdd (xg (s:=s) e1 hr)
   clear e1 e2 e3 hr htd
   clear k2
   go_wp2_with ((go_at_call 102;(with_reducible refine(HT.out _).mono ?_);rintro e w2 ⟨rfl,hw2⟩;obtain rfl:=hw2.symm))
   exact bodyPost_ret (v:= .tuple #[.agg #[.int .i64 0, .int .i64 0, .int .i64 0, .int .i64 0, .int .i64 0, .int .i64 0], .int .i64 2]) (by simp [results,Tryd.results84,go_sem, *]) rfl ⟨ag,by rw [HR.out.1,HR.out.2];rfl⟩
end
end Go.Proofs.YtmljjfhgciaceaaDoor
