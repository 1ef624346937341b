/- Texts of mine that come as one: Series ProRows TotalP TotalA TotalB ProTotal. -/
import Derived.Test.YtmljjfhgciaceaaGreatDoorHd
import Derived.Test.YtmljjfhgciaceaaGreatDoorPS
import Derived.Test.YtmljjfhgciaceaaGreatDoorPC
import Derived.Test.YtmljjfhgciaceaaGreatDoorSO
namespace Go.Proofs.YtmljjfhgciaceaaGreatDoor
open Go.RowKit
section
set_option maxRecDepth 100000
set_option maxHeartbeats 1000000
variable {w:World}
noncomputable def gY (b:Ba) (s:ByteArray):Int:=if bU b s=0 then aG b.names s else 0
theorem yJ {v:Value} {b:Ba} {s:ByteArray} (h:bQ w v b) (hst:∀s∈b.names,s.size<=140737488351232) (hsz:bS w) :
  Calls Tryz.prog 71 #[v, .string s] w fun e w'=>e = .returned (.tuple #[.int .i64 (gY b s), .int .i64 (bU b s)])/\ah w w':=by
 have HC:=hdd fun w' (hb:ah w w')=>fH (h.below hb) hst (hsz.below hb)
 obtain⟨sa,sc,g0,l0,p0,g1,l1,p1,g2,l2,p2,rfl,hn,jk,T0,T1,T2⟩:=h.open
 obtain⟨W0,hW0⟩:=bR (w.alloc (.cells (aJ sa b.names.length sc g0 l0 p0 g1 l1 p1 g2 l2 p2 b) 30))
 have hb0:ah w W0:=by rw [hW0];exact ag
 have hz0:W0.heap.size=w.heap.size+1:=by rw [hW0];simp
 have k0:W0.heap[w.heap.size]?=some (.cells (aJ sa b.names.length sc g0 l0 p0 g1 l1 p1 g2 l2 p2 b) 30):=by rw [hW0];exact aq _ _ rfl
 have HX:=hdd fun w' (hb:ah W0 w')=>(by
  have b0:w'.heap[w.heap.size]?=_:=(hb.block _ af).trans k0
  simp [World.cell?,b0] :
  w'.cell? ⟨w.heap.size,0,none⟩=some (.slice sa b.names.length sc)/\w'.cell? ⟨w.heap.size,1,none⟩=some (.slice g0 l0 p0)/\w'.cell? ⟨w.heap.size,2,none⟩=some (.int .i64 b.t0.root)/\w'.cell? ⟨w.heap.size,3,none⟩=some (.slice g1 l1 p1)/\w'.cell? ⟨w.heap.size,4,none⟩=some (.int .i64 b.t1.root)/\w'.cell? ⟨w.heap.size,5,none⟩=some (.slice g2 l2 p2)/\w'.cell? ⟨w.heap.size,6,none⟩=some (.int .i64 b.t2.root)/\w'.cell? ⟨w.heap.size,7,none⟩=some (.int .i64 b.floor))
 have HB:=hdd fun w' (hb:ah W0 w')=>(Below.trans' hb0 hb hb0.size:ah w w')
 obtain⟨x0,x1,x2,x3,x4,x5,x6,x7⟩:=HX.out W0 (aL _ _)
 have CT:=hdd fun w' (hb:ah W0 w')=>mN (s:=s) (jk.below (HB.out w' hb) aI)
 clear h hst hsz jk T0 T1 T2
 go_enter Tryz.func71,Tryz.ntmps71
 go_upto_region 1 with (fail)
 rw [<-hW0]
 clear hW0 k0
 rcases od b s with ⟨e1,e2⟩|⟨e1,e2,e3⟩|⟨e1,e2,k,hk,e3⟩
 ·have hc:kE b=7:=cS e2
  have HI:=hdd (show gY b s=0 by unfold gY;rw [ai af])
  have HE:=hdd e1
  rw [hc]at HC
  clear hc e1 e2
  go_wp2_with ((go_at_call 66;(with_reducible refine(HC.out _ hb0).mono ?_);rintro e w1 ⟨rfl,hb1⟩))
  go_ret2
  rw [HI.out,HE.out]
  exact⟨rfl,HB.out _ hb1⟩
 ·have hc:kE b=0:=dW e2
  have HI:=hdd (show gY b s=0 by unfold gY;rw [ai af])
  have HE:=hdd e1
  rw [hc]at HC
  rw [e3]at CT
  clear hc e1 e2 e3
  go_wp2_with (first|(go_at_call 66;(with_reducible refine(HC.out _ hb0).mono ?_);rintro e w1 ⟨rfl,hb1⟩;obtain⟨x0,-⟩:=HX.out _ hb1)|(go_at_call 69;(with_reducible refine(CT.out _ hb1).mono ?_);rintro e w2 ⟨rfl,hb2⟩;have hb3:=Below.trans' hb1 hb2 hb1.size))
  go_ret2
  rw [HI.out,HE.out]
  exact⟨rfl,HB.out _ hb3⟩
 ·have hc:kE b=0:=dW e2
  have HI:=hdd (show gY b s=k by unfold gY;rw [ar e1];exact e3)
  have HE:=hdd e1
  have ie:decide ((k:Int)<0)=false:=bt
  rw [hc]at HC
  rw [e3]at CT
  clear hc e1 e2 e3
  go_wp2_with (first|(go_at_call 66;(with_reducible refine(HC.out _ hb0).mono ?_);rintro e w1 ⟨rfl,hb1⟩;obtain⟨x0,-⟩:=HX.out _ hb1)|(go_at_call 69;(with_reducible refine(CT.out _ hb1).mono ?_);rintro e w2 ⟨rfl,hb2⟩;have hb3:=Below.trans' hb1 hb2 hb1.size))
  go_ret2
  rw [HI.out,HE.out]
  exact⟨rfl,HB.out _ hb3⟩
theorem AW (a z:Int) (w:World):Calls Tryz.prog 73 #[.int .i64 a, .int .i64 z] w fun e w'=>e = .returned (.bool (decide (cO a z)))/\w'=w:=by
 by_cases h1:0<=a
 ·have e1:decide (0<=a)=true:=by simp [h1]
  by_cases h2:z<=1048575
  ·have e2:decide (z<=1048575)=true:=by simp [h2]
   by_cases h3:a<=z
   ·have e3:decide (a<=z)=true:=by simp [h3]
    have HR:=hdd (show true=decide (cO a z) by simp [cO,h1,h2,h3])
    clear h1 h2 h3
    go_enter Tryz.func73,Tryz.ntmps73
    go_wp2
    go_ret
    exact⟨dB HR.out,rfl⟩
   ·have e3:decide (a<=z)=false:=by simp;omega
    have HR:=hdd (show false=decide (cO a z) by simp [cO,h3])
    clear h1 h2 h3
    go_enter Tryz.func73,Tryz.ntmps73
    go_wp2
    go_ret
    exact⟨dB HR.out,rfl⟩
  ·have e2:decide (z<=1048575)=false:=by simp;omega
   have HR:=hdd (show false=decide (cO a z) by simp [cO,h2])
   clear h1 h2
   go_enter Tryz.func73,Tryz.ntmps73
   go_wp2
   go_ret
   exact⟨dB HR.out,rfl⟩
 ·have e1:decide (0<=a)=false:=by simp;omega
  have HR:=hdd (show false=decide (cO a z) by simp [cO,h1])
  clear h1
  go_enter Tryz.func73,Tryz.ntmps73
  go_wp2
  go_ret
  exact⟨dB HR.out,rfl⟩
def wY (n:Int):Int:=if n=1 then 0 else if n=60 then 1 else if n=3600 then 2 else -1
theorem wX (n:Int):(n=1/\wY n=0)\/(n=60/\wY n=1)\/(n=3600/\wY n=2)\/(n≠1/\n≠60/\n≠3600/\wY n = -1):=by
 unfold wY
 by_cases h1:n=1
 ·exact .inl ⟨h1,by rw [ar h1]⟩
 ·by_cases h2:n=60
  ·exact .inr (.inl ⟨h2,by rw [ai h1,ar h2]⟩)
  ·by_cases h3:n=3600
   ·exact .inr (.inr (.inl ⟨h3,by rw [ai h1,ai h2,ar h3]⟩))
   ·exact .inr (.inr (.inr ⟨h1,h2,h3,by rw [ai h1,ai h2,ai h3]⟩))
theorem Aw (n:Int) (h:bS w) :
  Calls Tryz.prog 72 #[.slice (some ⟨0,0,none⟩) 3 3, .int .i64 n] w fun e w'=>e = .returned (.int .i64 (wY n))/\w'=w:=by
 obtain⟨-,c0,c1,c2⟩:=h
 rcases wX n with ⟨h1,h2⟩|⟨h1,h2⟩|⟨h1,h2⟩|⟨h1,h3,h4,h2⟩
 ·rw [h2];clear h2;subst h1
  go_enter Tryz.func72,Tryz.ntmps72
  go_wp2_with fail
  go_loopg [8] 3 (fun g i wr=>i = .int .i64 0/\wr=w)
  case atStart=>exact⟨rfl,rfl⟩
  case round=>
   obtain⟨rfl,rfl⟩:=hrel
   go_wp2
   go_ret
   exact⟨rfl,rfl⟩
 ·rw [h2];clear h2;subst h1
  go_enter Tryz.func72,Tryz.ntmps72
  go_wp2_with fail
  go_loopg [8] 3 (fun g i wr=>∃k:Nat,k<=1/\g=3-k/\i = .int .i64 k/\wr=w)
  case atStart=>exact⟨0,af,rfl,rfl,rfl⟩
  case round=>
   obtain⟨k,hk,rfl,rfl,rfl⟩:=hrel
   obtain rfl|rfl:k=0\/k=1:=af
   ·go_wp2
    go_roundg 2
    case measure=>omega
    case rel=>exact⟨1,af,rfl,by go_num,rfl⟩
   ·go_wp2
    go_ret
    exact⟨rfl,rfl⟩
 ·rw [h2];clear h2;subst h1
  go_enter Tryz.func72,Tryz.ntmps72
  go_wp2_with fail
  go_loopg [8] 3 (fun g i wr=>∃k:Nat,k<=2/\g=3-k/\i = .int .i64 k/\wr=w)
  case atStart=>exact⟨0,af,rfl,rfl,rfl⟩
  case round=>
   obtain⟨k,hk,rfl,rfl,rfl⟩:=hrel
   obtain rfl|rfl|rfl:k=0\/k=1\/k=2:=af
   ·go_wp2
    go_roundg 2
    case measure=>omega
    case rel=>exact⟨1,af,rfl,by go_num,rfl⟩
   ·go_wp2
    go_roundg 1
    case measure=>omega
    case rel=>exact⟨2,af,rfl,by go_num,rfl⟩
   ·go_wp2
    go_ret
    exact⟨rfl,rfl⟩
 ·rw [h2];clear h2
  have n1:(n == 1)=false:=by simpa using h1
  have n2:(n == 60)=false:=by simpa using h3
  have n3:(n == 3600)=false:=by simpa using h4
  clear h1 h3 h4
  go_enter Tryz.func72,Tryz.ntmps72
  go_wp2_with fail
  go_loopg [8] 3 (fun g i wr=>∃k:Nat,k<=3/\g=3-k/\i = .int .i64 k/\wr=w)
  case atStart=>exact⟨0,af,rfl,rfl,rfl⟩
  case round=>
   obtain⟨k,hk,rfl,rfl,rfl⟩:=hrel
   obtain rfl|rfl|rfl|rfl:k=0\/k=1\/k=2\/k=3:=af
   ·go_wp2
    go_roundg 2
    case measure=>omega
    case rel=>exact⟨1,af,rfl,by go_num,rfl⟩
   ·go_wp2
    go_roundg 1
    case measure=>omega
    case rel=>exact⟨2,af,rfl,by go_num,rfl⟩
   ·go_wp2
    go_roundg 0
    case measure=>omega
    case rel=>exact⟨3,af,rfl,by go_num,rfl⟩
   ·go_wp2
    go_ret
    exact⟨rfl,rfl⟩
end
section
set_option maxRecDepth 100000
set_option maxHeartbeats 4000000
variable {b:Ba} {s:ByteArray} {n a z:Int} {k:Nat}
def NU (B:Nat) (w:World) (out:List aA) (E:Int) (e:Ending) (w':World):Prop:=Below B w w'/\∃v,e = .returned (.tuple #[v, .int .i64 E])/\OwnRows B w' v out
theorem sY (hk:k<3) (h:n=aS k):n=1\/n=60\/n=3600:=by
 obtain rfl|rfl|rfl:k=0\/k=1\/k=2:=af
 ·exact .inl h
 ·exact .inr (.inl h)
 ·exact .inr (.inr h)
theorem wW (n:Int):(∃k,k<3/\n=aS k/\wY n=k)\/(n≠1/\n≠60/\n≠3600/\wY n = -1):=by
 rcases wX n with ⟨h1,h2⟩|⟨h1,h2⟩|⟨h1,h2⟩|h
 ·exact .inl ⟨0,aY,h1,h2⟩
 ·exact .inl ⟨1,aY,h1,h2⟩
 ·exact .inl ⟨2,aY,h1,h2⟩
 ·exact .inr h
theorem pJ (h:bU b s≠0):eX b s n a z=bU b s/\nM b s n a z=[]:=by
 have h1:eX b s n a z=bU b s:=by unfold eX;rw [ar h]
 exact⟨h1,by unfold nM;rw [ai (by rw [h1];exact h)]⟩
theorem yK (h:bU b s=0) (hn:n≠1/\n≠60/\n≠3600):eX b s n a z=3/\nM b s n a z=[]:=by
 have h1:eX b s n a z=3:=by unfold eX;rw [ai (iM h),ar hn]
 exact⟨h1,by unfold nM;rw [ai (by rw [h1];decide)]⟩
theorem wZ (h:bU b s=0) (hk:k<3) (hn:n=aS k) (hr:¬cO a z):eX b s n a z=2/\nM b s n a z=[]:=by
 have h0:=sY hk hn
 have h1:eX b s n a z=2:=by unfold eX;rw [ai (iM h),ai af,ar hr]
 exact⟨h1,by unfold nM;rw [ai (by rw [h1];decide)]⟩
theorem FM (h:bU b s=0) (hk:k<3) (hn:n=aS k) (hr:cO a z) (hl:500<(sL b s n a z).length):eX b s n a z=1/\nM b s n a z=[]:=by
 have h0:=sY hk hn
 have h1:eX b s n a z=1:=by unfold eX;rw [ai (iM h),ai af,ai (iM hr),ar hl]
 exact⟨h1,by unfold nM;rw [ai (by rw [h1];decide)]⟩
theorem Ls (h:bU b s=0) (hk:k<3) (hn:n=aS k) (hr:cO a z) (hl:¬500<(sL b s n a z).length):eX b s n a z=0/\nM b s n a z=sL b s n a z:=by
 have h0:=sY hk hn
 have h1:eX b s n a z=0:=by unfold eX;rw [ai (iM h),ai af,ai (iM hr),ai hl]
 exact⟨h1,by unfold nM;rw [ar h1]⟩
theorem Lr {v:Value} {w:World} (h:bQ w v b) (hst:∀s∈b.names,s.size<=140737488351232) (hsz:bS w) :
  Calls Tryz.prog 36 #[v, .string s, .int .i64 n, .int .i64 a, .int .i64 z] w (NU w.heap.size w (nM b s n a z) (eX b s n a z)):=by
 have qH:=hdd fun w' (hb:ah w w')=>yJ (s:=s) (h.below hb) hst (hsz.below hb)
 obtain⟨sa,sc,g0,l0,p0,g1,l1,p1,g2,l2,p2,rfl,hn,jk,T0,T1,T2⟩:=h.open
 obtain⟨W0,hW0⟩:=bR (w.alloc (.cells (aJ sa b.names.length sc g0 l0 p0 g1 l1 p1 g2 l2 p2 b) 30))
 have hb0:ah w W0:=by rw [hW0];exact ag
 have hz0:W0.heap.size=w.heap.size+1:=by rw [hW0];simp
 have k0:W0.heap[w.heap.size]?=some (.cells (aJ sa b.names.length sc g0 l0 p0 g1 l1 p1 g2 l2 p2 b) 30):=by rw [hW0];exact aq _ _ rfl
 have HX:=hdd fun w' (hb:ah W0 w')=>(by
  have b0:w'.heap[w.heap.size]?=_:=(hb.block _ af).trans k0
  simp [World.cell?,b0] :
  w'.cell? ⟨w.heap.size,0,none⟩=some (.slice sa b.names.length sc)/\w'.cell? ⟨w.heap.size,1,none⟩=some (.slice g0 l0 p0)/\w'.cell? ⟨w.heap.size,2,none⟩=some (.int .i64 b.t0.root)/\w'.cell? ⟨w.heap.size,3,none⟩=some (.slice g1 l1 p1)/\w'.cell? ⟨w.heap.size,4,none⟩=some (.int .i64 b.t1.root)/\w'.cell? ⟨w.heap.size,5,none⟩=some (.slice g2 l2 p2)/\w'.cell? ⟨w.heap.size,6,none⟩=some (.int .i64 b.t2.root)/\w'.cell? ⟨w.heap.size,7,none⟩=some (.int .i64 b.floor))
 have HB:=hdd fun w' (hb:ah W0 w')=>(Below.trans' hb0 hb hb0.size:ah w w')
 obtain⟨x0,x1,x2,x3,x4,x5,x6,x7⟩:=HX.out W0 (aL _ _)
 have sI:=hdd fun w' (hb:ah W0 w')=>(hsz.below (HB.out w' hb):bS w')
 have KJ:=hdd fun w' (hb:ah W0 w')=>Aw n (sI.out w' hb)
 have K4:=hdd fun w' lo hi (hb:ah W0 w')=>iJ (lo:=lo) (hi:=hi) (T0 w' (HB.out w' hb))
 have N4:=hdd fun w' lo hi (hb:ah W0 w')=>iJ (lo:=lo) (hi:=hi) (T1 w' (HB.out w' hb))
 have rI:=hdd fun w' lo hi (hb:ah W0 w')=>iJ (lo:=lo) (hi:=hi) (T2 w' (HB.out w' hb))
 clear h hst hsz jk T0 T1 T2
 go_enter Tryz.func36,Tryz.ntmps36
 go_upto_region 1 with (fail)
 rw [<-hW0]
 clear hW0 k0
 rcases od b s with ⟨e1,e2⟩|⟨e1,e2,e3⟩|⟨e1,e2,p,hp,e3⟩
 ·obtain⟨r1,r2⟩:=pJ (n:=n) (a:=a) (z:=z) (show bU b s≠0 by omega)
  have HR:=hdd (aO (r1.trans e1) r2)
  rw [e1]at qH
  clear e1 e2 r1 r2
  go_wp2_with ((go_at_call 71;(with_reducible refine(qH.out _ hb0).mono ?_);rintro e w1 ⟨rfl,hb1⟩))
  go_ret2
  rw [HR.out.1,HR.out.2]
  exact⟨HB.out _ hb1,_,rfl,OwnRows.nil _ _⟩
 ·obtain⟨r1,r2⟩:=pJ (n:=n) (a:=a) (z:=z) (show bU b s≠0 by omega)
  have HR:=hdd (aO (r1.trans e1) r2)
  rw [e1]at qH
  clear e1 e2 e3 r1 r2
  go_wp2_with ((go_at_call 71;(with_reducible refine(qH.out _ hb0).mono ?_);rintro e w1 ⟨rfl,hb1⟩))
  go_ret2
  rw [HR.out.1,HR.out.2]
  exact⟨HB.out _ hb1,_,rfl,OwnRows.nil _ _⟩
 ·have hI:gY b s=p:=by unfold gY;rw [ar e1];exact e3
  rw [e1,hI]at qH
  clear hI
  go_upto_region 4 with ((go_at_call 71;(with_reducible refine(qH.out _ hb0).mono ?_);rintro e w1 ⟨rfl,hb1⟩;obtain⟨x0,x1,x2,x3,x4,x5,x6,x7⟩:=HX.out _ hb1))
  have Eb:=HB.out _ hb1
  rcases wW n with ⟨k,hk,Ve,hi⟩|⟨n1,n2,n3,hi⟩
  ·rw [hi]at KJ
   have Tc:decide ((k:Int)<0)=false:=bt
   have HT:=hdd (AW a z)
   by_cases hr:cO a z
   ·have htd:decide (cO a z)=true:=by simp [hr]
    rw [htd]at HT
    obtain⟨m,q1,q2,q3,q4,q5⟩:=Da (s:=s) e2 hk hr
    rw [e3]at q1 q3
    rw [<-Ve]at q1
    obtain⟨hr1,hr2,hr3⟩:=id hr
    obtain⟨lo,hlo⟩:=bC ((p:Int)*1048576+a)
    obtain⟨hi',hhi⟩:=bC ((p:Int)*1048576+z+1)
    rw [hlo,hhi]at q1 q3
    have m1:IntKind.i64.wrap ((p:Int)*1048576)=(p:Int)*1048576:=IntWalk.i64_in _ af
    have m2:IntKind.i64.wrap ((p:Int)*1048576+a)=lo:=by rw [hlo];exact IntWalk.i64_in _ af
    have m3:IntKind.i64.wrap ((p:Int)*1048576+z)=(p:Int)*1048576+z:=IntWalk.i64_in _ af
    have m4:IntKind.i64.wrap ((p:Int)*1048576+z+1)=hi':=by rw [hhi];exact IntWalk.i64_in _ af
    obtain⟨ms,YY⟩:=bC (m.filter (aT lo hi'))
    have hmk:∀y∈ms,0<=y.key/\y.key<1099511627776:=fun y hy=>by rw [<-YY]at hy;exact q5.2.1 y (ju.1 hy).1
    have CP:ms.length<=50000:=by rw [<-YY];exact im (tQ _ _) q5.2.2
    rw [YY]at q1 q3
    have HL:=hdd q1
    have Yh:=hdd hmk
    have N6:=hdd e1
    have HN3:=hdd Ve
    have nW:=hdd hr
    have OV:=hdd q2
    have Fg:=hdd q3
    have ie:(0:Int)<=(k:Int):=af
    have hk3:(k:Int)<3:=af
    clear q1 q2 q3 q4 q5 YY hlo hhi hr htd hr1 hr2 hr3 e1 e2 e3 hmk Ve hi qH
    go_upto_region 9 with (first|(go_at_call 72;(with_reducible refine(KJ.out _ hb1).mono ?_);rintro e w2 ⟨rfl,hw2⟩;obtain rfl:=hw2.symm)|(go_at_call 73;(with_reducible refine(HT.out _).mono ?_);rintro e w2 ⟨rfl,hw2⟩;obtain rfl:=hw2.symm))
    go_cut [15,13] (fun u c wx=>∃su sd,u = .slice su ms.length sd/\c = .int .i64 0/\au w1.heap.size wx (.slice su ms.length sd) ms/\ah w1 wx)
    case first=>
     obtain rfl|rfl|rfl:k=0\/k=1\/k=2:=af
     ·have HA:=hdd (K4.out w1 lo hi' hb1)
      go_wp2_with ((go_at_call 74;(with_reducible refine HA.out.mono ?_);rintro e w3 ⟨hb3,-,hok⟩;have hok:=hok OV.out;rw [show kG b.t0 lo hi'=some ms from Fg.out]at hok;obtain⟨v3,rfl,kW⟩:=hok;obtain⟨su,sd,rfl⟩:=kW.isSlice))
      go_meet
      exact⟨_,_,rfl,rfl,kW,hb3⟩
     ·have HA:=hdd (N4.out w1 lo hi' hb1)
      go_wp2_with ((go_at_call 74;(with_reducible refine HA.out.mono ?_);rintro e w3 ⟨hb3,-,hok⟩;have hok:=hok OV.out;rw [show kG b.t1 lo hi'=some ms from Fg.out]at hok;obtain⟨v3,rfl,kW⟩:=hok;obtain⟨su,sd,rfl⟩:=kW.isSlice))
      go_meet
      exact⟨_,_,rfl,rfl,kW,hb3⟩
     ·have HA:=hdd (rI.out w1 lo hi' hb1)
      go_wp2_with ((go_at_call 74;(with_reducible refine HA.out.mono ?_);rintro e w3 ⟨hb3,-,hok⟩;have hok:=hok OV.out;rw [show kG b.t2 lo hi'=some ms from Fg.out]at hok;obtain⟨v3,rfl,kW⟩:=hok;obtain⟨su,sd,rfl⟩:=kW.isSlice))
      go_meet
      exact⟨_,_,rfl,rfl,kW,hb3⟩
    case rest=>
     obtain⟨su,sd,rfl,rfl,kW,hb3⟩:=hcut
     rename World=>w3
     have vZ:ah w w3:=Below.trans' Eb hb3 Eb.size
     clear x0 x1 x2 x3 x4 x5 x6 x7 m1 m2 m3 m4 KJ HT
     by_cases hl:500<ms.length
     ·have MI:decide ((500:Int)<(ms.length:Int))=true:=by simp;omega
      have HR:=hdd (FM N6.out hk HN3.out nW.out (by rw [HL.out,po];exact hl))
      clear hl
      go_wp2
      go_ret2
      rw [HR.out.1,HR.out.2]
      exact⟨vZ,_,rfl,OwnRows.nil _ _⟩
     ·have MI:decide ((500:Int)<(ms.length:Int))=false:=by simp;omega
      have HR:=hdd (Ls N6.out hk HN3.out nW.out (by rw [HL.out,po];exact hl))
      clear hl
      have RU:=hdd (kW.at af)
      clear kW
      go_wp2_with fail
      clear MI
      go_loopg [16,62] ms.length (fun g out i wr=>∃j:Nat,j<=ms.length/\g=ms.length-j/\i = .int .i64 j/\OwnRows w3.heap.size wr out ((ms.take j).map rowOf)/\ah w3 wr)
      case atStart=>exact⟨0,jf _,rfl,rfl,OwnRows.nil _ _,aL _ _⟩
      case round=>
       obtain⟨j,hj,rfl,rfl,hown,hb⟩:=hrel
       have hzb:=hb.size
       have dh:=Below.trans' vZ hb vZ.size
       by_cases hlt:j<ms.length
       ·obtain⟨_,_,hv,-,-,-,-,h5⟩:=RU.out
        injection hv with hv1 _ hv3
        subst hv1 hv3
        obtain⟨eb,aH,lQ,r8,nD⟩:=h5 af
        subst lQ
        obtain⟨y0,y1,y2,y3,y4,y5,y6⟩:=bT hb r8 nD hlt
        obtain⟨y,hy⟩:=bC (ms[j])
        rw [hy]at y0 y1 y2 y3 y4 y5 y6
        obtain⟨ie,hk1⟩:=Yh.out y (by rw [<-hy];exact gj hlt)
        obtain⟨M,hM⟩:=bC (y.key%1048576)
        have BG:=hdd (show (ms.take (j+1)).map rowOf=(ms.take j).map rowOf++[⟨M,y.is⟩] by rw [mf hlt,wJ,hy];simp [rowOf,hM])
        have m1:y.key.tmod 1048576=M:=by rw [xR ie];exact hM
        have m4:IntKind.i64.wrap M=M:=IntWalk.i64_in _ af
        have hlo:((ms.take j).map rowOf).length<=1000000:=by rw [po,fx];omega
        have lA:=fun w'=>dC (ab:=eb) (bp:=aH) (n:=ms.length) (cap:=sd) (show (j:Int)=((j:Nat):Int) by rfl) hlt w'
        have hwz:eb<wr.heap.size:=af
        obtain⟨os,hos⟩:=bC ((ms.take j).map rowOf)
        rw [hos]at hown BG hlo
        obtain⟨so,sc2,rfl⟩:=hown.isSlice
        obtain⟨W1,hW1⟩:=bR (wr.alloc (.cells #[.int .i64 y.key, .int .i64 y.is.c, .int .i64 y.is.s, .int .i64 y.is.mi, .int .i64 y.is.ma, .int .i64 y.is.t, .int .i64 y.is.l] 107))
        have hb1:ah wr W1:=by rw [hW1];exact ag
        have k1:W1.heap[wr.heap.size]?=some (.cells #[.int .i64 y.key, .int .i64 y.is.c, .int .i64 y.is.s, .int .i64 y.is.mi, .int .i64 y.is.ma, .int .i64 y.is.t, .int .i64 y.is.l] 107):=by rw [hW1];exact aq _ _ rfl
        have vC:ah w3 W1:=Below.trans' hb hb1 hzb
        have hzn:=vC.size
        obtain⟨q0,q1,q2,q3,q4,q5,q6⟩:W1.cell? ⟨wr.heap.size,0,none⟩=some (.int .i64 y.key)/\W1.cell? ⟨wr.heap.size,1,none⟩=some (.int .i64 y.is.c)/\W1.cell? ⟨wr.heap.size,2,none⟩=some (.int .i64 y.is.s)/\W1.cell? ⟨wr.heap.size,3,none⟩=some (.int .i64 y.is.mi)/\W1.cell? ⟨wr.heap.size,4,none⟩=some (.int .i64 y.is.ma)/\W1.cell? ⟨wr.heap.size,5,none⟩=some (.int .i64 y.is.t)/\W1.cell? ⟨wr.heap.size,6,none⟩=some (.int .i64 y.is.l):=by simp [World.cell?,k1]
        have hown1:OwnRows w3.heap.size W1 (.slice so os.length sc2) os:=hown.below hb1 aI
        clear nD h5 hy hM hos
        go_upto_region 18 with (fail)
        rw [<-hW1]
        clear hW1 k1 hown y0 y1 y2 y3 y4 y5 y6
        go_wp2_with ((at_builtin;refine ub rfl (.tmp 66) (.tmp 73) rfl w3.heap.size _ os rfl (by repeat (first|assumption|with_reducible refine OwnRows.alloc ?_ _|with_reducible refine OwnRows.drewN ?_ _|with_reducible refine OwnRows.drew ?_)) ⟨_,0,none⟩ ⟨M,y.is⟩ rfl (fun j u h=>mP h) hlo (by first|omega|(simp;done)|(simp;omega)|(simp [aN];done)|(simp [aN];omega)) ?_;intro v4 w4 Sn hg4;have hb4:=hg4 w3.heap.size w3 ag aI))
        go_roundg (ms.length-(j+1))
        case measure=>omega
        case rel=>exact⟨j+1,af,rfl,by go_num,by rw [BG.out];exact Sn,hb4⟩
       ·have hall:ms.take j=ms:=kI af
        rw [hall]at hown
        clear hall
        go_wp2
        go_ret2
        rw [HR.out.1,HR.out.2,HL.out]
        exact⟨dh,_,rfl,hown.mono vZ.size⟩
   ·have htd:decide (cO a z)=false:=by simp [hr]
    rw [htd]at HT
    have HR:=hdd (wZ (s:=s) e1 hk Ve hr)
    clear e1 e2 e3 hr htd Ve
    go_wp2_with (first|(go_at_call 72;(with_reducible refine(KJ.out _ hb1).mono ?_);rintro e w2 ⟨rfl,hw2⟩;obtain rfl:=hw2.symm)|(go_at_call 73;(with_reducible refine(HT.out _).mono ?_);rintro e w2 ⟨rfl,hw2⟩;obtain rfl:=hw2.symm))
    go_ret2
    rw [HR.out.1,HR.out.2]
    exact⟨Eb,_,rfl,OwnRows.nil _ _⟩
  ·have HR:=hdd (yK (a:=a) (z:=z) e1 ⟨n1,n2,n3⟩)
   rw [hi]at KJ
   clear e1 e2 e3 n1 n2 n3 hi
   go_wp2_with ((go_at_call 72;(with_reducible refine(KJ.out _ hb1).mono ?_);rintro e w2 ⟨rfl,hw2⟩;obtain rfl:=hw2.symm))
   go_ret2
   rw [HR.out.1,HR.out.2]
   exact⟨Eb,_,rfl,OwnRows.nil _ _⟩
end
end Go.Proofs.YtmljjfhgciaceaaGreatDoor
namespace Go.Proofs.YtmljjfhgciaceaaGreatDoor
section
variable {p lo hi:Int} {l:List aA} {a T U:av}
def bj:List aA->av
 |[]=>av.zero
 |e::l=>e.is.join (bj l)
theorem cg (h:iy l):(bj l).iq:=by
 induction l with
 |nil=>exact si
 |cons e l ih=>exact iA h.cons.1 (ih h.cons.2)
theorem qY {a b:List aA} (ha:iy a) (hb:iy b):bj (a++b)=(bj a).join (bj b):=by
 induction a with
 |nil=>exact(eF (cg hb)).symm
 |cons e l ih=>
  have:=ha.cons
  simp only [List.cons_append,bj]
  rw [ih this.2,join_assoc this.1 (cg this.2) (cg hb)]
theorem DM {x:aA} (h:iy l) (hx:x.is.iq):bj (ins l x)=(bj l).join x.is:=by
 induction l with
 |nil=>simp only [ins,bj];rw [cY,eF hx]
 |cons e l ih=>
  have hc:=h.cons
  have hf:=cg hc.2
  unfold ins
  split
  ·simp only [bj];rw [ih hc.2,join_assoc hc.1 hf hx]
  ·split
   ·simp only [bj];rw [join_assoc hc.1 hx hf,join_assoc hc.1 hf hx,join_comm hx hf]
   ·simp only [bj];rw [join_comm (iA hc.1 hf) hx]
theorem Av:∀{m:List aA},aX m/\aW m->aW l->bj (l.foldl ins m)=(bj m).join (bj l):=by
 induction l with
 |nil=>intro m hm _;simp only [List.foldl_nil,bj];rw [cY]
 |cons x l ih=>
  intro m hm hl
  have hc:=hl.cons
  rw [List.foldl_cons,ih ⟨jI hm.1,jQ hm.2 hc.1⟩ hc.2,DM hm.2.dD (.inr hc.1)]
  simp only [bj]
  rw [join_assoc (cg hm.2.dD) (.inr hc.1) (cg hc.2.dD)]
theorem xh (h:aW l):bj (mo l)=bj l:=by
 have:=Av (m:=[]) ⟨List.Pairwise.nil,fun _ h=>by cases h⟩ h
 unfold mo;rw [this];exact eF (cg h.dD)
theorem DL {f:aA->aA} (hf:∀e,(f e).is=e.is) (l:List aA):bj (l.map f)=bj l:=by
 induction l with
 |nil=>rfl
 |cons e l ih=>simp only [List.map_cons,bj];rw [ih,hf]
theorem pT (h:iy l) (p:aA->Bool):iy (l.filter p):=fun e he=>h e (ju.1 he).1
theorem Au (h:iy l) {p q r:aA->Bool} (hr:∀e∈l,r e=(p e || q e)) (hd:∀e∈l,¬(p e=true/\q e=true)) :
  bj (l.filter r)=(bj (l.filter p)).join (bj (l.filter q)):=by
 induction l with
 |nil=>simp only [List.filter_nil,bj];rw [cY]
 |cons e l ih=>
  have hc:=h.cons
  have ih:=ih hc.2 (fun x hx=>hr x (by simp [hx])) (fun x hx=>hd x (by simp [hx]))
  have h1:=hr e bt
  have h2:=hd e bt
  have fp:=cg (pT hc.2 p)
  have fq:=cg (pT hc.2 q)
  cases hp:p e with
  |true=>
   cases hq:q e with
   |true=>exact absurd ⟨hp,hq⟩ h2
   |false=>
    rw [hp,hq]at h1
    rw [tP (by simpa using h1),tP hp,sH (by simp [hq])]
    simp only [bj]
    rw [ih,join_assoc hc.1 fp fq]
  |false=>
   cases hq:q e with
   |true=>
    rw [hp,hq]at h1
    rw [tP (by simpa using h1),sH (by simp [hp]),tP hq]
    simp only [bj]
    rw [ih,<-join_assoc fp hc.1 fq,join_comm fp hc.1,join_assoc hc.1 fp fq]
   |false=>
    rw [hp,hq]at h1
    rw [sH (by simp [h1]),sH (by simp [hp]),sH (by simp [hq]),ih]
def eT (l:List aA) (p lo hi:Int):av:=bj (l.filter (aT (p*1048576+lo) (p*1048576+hi)))
theorem Jy (h:hi<=lo):eT l p lo hi=av.zero:=by
 unfold eT
 rw [List.filter_eq_nil_iff.2 fun e _=>by simp [aT];omega];rfl
theorem rS (h:iy l) (p lo hi:Int):(eT l p lo hi).iq:=cg (pT h _)
theorem tu (h:iy l) {mid:Int} (h1:lo<=mid) (h2:mid<=hi):eT l p lo hi=(eT l p lo mid).join (eT l p mid hi):=by
 unfold eT
 refine Au h (fun e _=>?_) fun e _=>?_
 ·rw [Bool.eq_iff_iff];simp [aT];omega
 ·simp [aT];omega
theorem xc {m:List aA} {k:Nat} (hg:dY l) (hm:bV l (aS k)=some m) (h0:0<=lo) (h1:hi<=1048576) (h2:lo%aS k=0) (h3:hi%aS k=0) :
  bj (m.filter (aT (p*1048576+lo) (p*1048576+hi)))=eT l p lo hi:=by
 unfold bV at hm
 have hgb:=eA (iu k) hg
 have hb:=rB hgb.1 hm fun x=>decide (p*1048576+lo<=x) && decide (x<p*1048576+hi)
 obtain⟨h4,_,_,_,_⟩:=fT (iU hgb.1) hb
 have e1:m.filter (aT (p*1048576+lo) (p*1048576+hi))=m.filter (fun e=>decide (p*1048576+lo<=e.key) && decide (e.key<p*1048576+hi)):=rfl
 rw [e1,h4,xh (ku hgb.1.bP _),List.filter_map,DL (f:=bucket (aS k)) (fun _=>rfl)]
 unfold eT
 congr 1
 refine List.filter_congr fun e he=>?_
 have hk:=hg.2.1 e he
 show (decide (p*1048576+lo<=e.key-e.key%1048576%aS k) && decide (e.key-e.key%1048576%aS k<p*1048576+hi))=aT _ _ e
 unfold aT
 rw [Bool.eq_iff_iff]
 simp only [Bool.and_eq_true,wI]
 have hm0:=Int.emod_nonneg e.key (show (1048576:Int)≠0 by decide)
 have GC:=Int.emod_lt_of_pos e.key (show (0:Int)<1048576 by decide)
 have Vb:=Int.emod_nonneg (e.key%1048576) (show aS k≠0 by have:=iu k;omega)
 have hr1:=mod_le hm0 (iu k)
 rcases Int.lt_trichotomy (e.key/1048576) p with h|h|h
 ·omega
 ·subst h
  have e2:e.key=e.key/1048576*1048576+e.key%1048576:=af
  generalize e.key/1048576=q at *
  generalize e.key%1048576=m at *
  rw [e2]
  unfold aS at *
  split at h2
  ·rename_i ie;rw [ar ie]at *;omega
  ·rename_i ie
   split at h2
   ·rename_i hk1;rw [ai ie,ar hk1]at *;omega
   ·rename_i hk1;rw [ai ie,ai hk1]at *;omega
 ·omega
def bM (a T:av):Option av:=if a.c+T.c<=1073741824 then some (a.join T)else none
theorem xg (ha:a.iq) (hT:T.iq) (hU:U.iq):(bM a T).bind (fun r=>bM r U)=bM a (T.join U):=by
 have h1:=dJ a T
 have h2:=dJ T U
 have h3:=hU.pos
 unfold bM
 by_cases h:a.c+T.c<=1073741824
 ·rw [ar h]
  show (if (a.join T).c+U.c<=1073741824 then _ else _)=_
  rw [h1,h2,join_assoc ha hT hU]
  by_cases h':a.c+T.c+U.c<=1073741824
  ·rw [ar h',ar af]
  ·rw [ai h',ai af]
 ·rw [ai h,ai af];rfl
theorem uA (hU:U.iq) (h:bM a T=none):bM a (T.join U)=none:=by
 have h2:=dJ T U
 have h3:=hU.pos
 unfold bM at *
 split at h
 ·cases h
 ·rw [ai af]
theorem Cb (h:a.c<=1073741824):bM a av.zero=some a:=by
 unfold bM
 rw [ar (by show a.c+0<=1073741824;omega),cY]
theorem uz {r:av} (ha:a.iq) (hT:T.iq) (h:bM a T=some r):r.iq/\r.c<=1073741824:=by
 unfold bM at h
 split at h
 ·simp only [iE]at h
  subst h
  exact⟨iA ha hT,by rw [dJ];omega⟩
 ·cases h
noncomputable def mz (b:Ba) (s:ByteArray) (a z:Int):Int:=
 if bU b s≠0 then bU b s else if ¬cO a z then 2 else match bX b with|none=>0|some l=>match bM av.zero (eT l (aG b.names s) a (z+1)) with|none=>1|some _=>0
noncomputable def mv (b:Ba) (s:ByteArray) (a z:Int):av:=
 if bU b s≠0 then av.zero else if ¬cO a z then av.zero else match bX b with|none=>av.zero|some l=>match bM av.zero (eT l (aG b.names s) a (z+1)) with|none=>av.zero|some r=>r
end
open Go.RowKit
section
set_option maxRecDepth 100000
set_option maxHeartbeats 4000000
variable {b:Ba} {lo hi:Int} {l:List aA} {ob k p:Nat} {w:World}
structure NR (W:World) (bb ib ob:Nat) (b:Ba) (l:List aA) (p:Nat) (sa:Option Addr) (sc:Nat) (g0:Option Addr) (l0 p0:Nat) (g1:Option Addr) (l1 p1:Nat) (g2:Option Addr) (l2 p2:Nat):Prop where
 bo:bb<ob
 io:ib<ob
 oW:ob<W.heap.size
 base:W.heap[bb]?=some (.cells (aJ sa b.names.length sc g0 l0 p0 g1 l1 p1 g2 l2 p2 b) 30)
 ix:W.heap[ib]?=some (.cells #[.int .i64 p] 3)
 YJ:∀w',Below ob W w'->bN w' (.agg #[.slice g0 l0 p0, .int .i64 b.t0.root]) b.t0
 YI:∀w',Below ob W w'->bN w' (.agg #[.slice g1 l1 p1, .int .i64 b.t1.root]) b.t1
 YH:∀w',Below ob W w'->bN w' (.agg #[.slice g2 l2 p2, .int .i64 b.t2.root]) b.t2
 sizes:∀w',Below ob W w'->bS w'
 may:aR b=true
 book:bX b=some l
 small:p<16
def EX (W:World) (ob:Nat) (r:av) (w:World):Prop:=Below ob W w/\w.heap[ob]?=some (.cells #[.int .i64 r.c, .int .i64 r.s, .int .i64 r.mi, .int .i64 r.ma, .int .i64 r.t, .int .i64 r.l] 39)
def fE (W:World) (ob:Nat) (a T:av) (e:Ending) (w':World):Prop:=
 ∃r,EX W ob r w'/\match bM a T with|none=>e = .returned (.int .i64 1)|some r'=>r'=r/\e = .returned (.int .i64 0)
theorem aw.at {a:World} (h:aw (fun x=>x=ob) a w) (o:Nat) (u:Value):aw (fun x=>x=ob) a (w.setCell ⟨ob,o,none⟩ u):=h.setCell (.inl rfl) u
theorem xL (h:iy l) (j:Nat):(bj (l.take j)).c<=(bj l).c:=by
 have h1:bj l=(bj (l.take j)).join (bj (l.drop j)):=by
  conv=>lhs;rw [<-wL j l]
  exact qY (fun e he=>h e (xP he)) (fun e he=>h e (vg he))
 have h2:=(cg (l:=l.drop j) fun e he=>h e (vg he)).pos
 rw [h1,dJ];omega
theorem Cc (h:iy l) {j:Nat} (hj:j<l.length):bj (l.take (j+1))=(bj (l.take j)).join l[j].is:=by
 rw [mf hj,qY (fun e he=>h e (xP he)) (fun e he=>by simp at he;subst he;exact h _ (gj _))]
 simp only [bj];rw [cY]
theorem Ld (hm:aR b=true) (hl:bX b=some l) (hk:k<3) (h0:0<=lo) (h1:hi<=1048576) (h2:lo%aS k=0/\hi%aS k=0) :
  ∃ms,ax (b.tree k)=0/\kG (b.tree k) ((p:Int)*1048576+lo) ((p:Int)*1048576+hi)=some ms/\bj ms=eT l p lo hi/\(∀e∈ms,aj e.is=0)/\ms.length<=50000:=by
 obtain⟨l',hl',_,hg,ht⟩:=iW hm
 rw [hl]at hl'
 simp only [iE]at hl'
 subst hl'
 obtain⟨m,e1,e2⟩:=ht k hk
 obtain⟨e3,e4⟩:=ET e2 ((p:Int)*1048576+lo) ((p:Int)*1048576+hi)
 refine⟨_,e3,e4,xc hg e1 h0 h1 h2.1 h2.2,fun e he=>((fJ e2).2.1 e (ju.1 he).1).2,im (tQ _ _) (fJ e2).2.2.2⟩
theorem yE {W:World} {bb ib:Nat} {sa:Option Addr} {sc:Nat} {g0:Option Addr} {l0 p0:Nat} {g1:Option Addr} {l1 p1:Nat} {g2:Option Addr} {l2 p2:Nat}
  (HW:NR W bb ib ob b l p sa sc g0 l0 p0 g1 l1 p1 g2 l2 p2) (hk:k<3) (h0:0<=lo) (hlo:lo<=1048576) (h1:0<=hi) (hhi:hi<=1048576) (h2:lo<hi->lo%aS k=0/\hi%aS k=0) {a:av} (ha:aj a=0) (hs:EX W ob a w) :
  Calls Tryz.prog 75 #[.int .i64 k, .int .i64 lo, .int .i64 hi, .pointer (some ⟨bb,0,none⟩), .pointer (some ⟨ib,0,none⟩), .pointer (some ⟨ob,0,none⟩)] w (fE W ob a (eT l p lo hi)):=by
 obtain⟨dh,oI⟩:=id hs
 obtain⟨yj,Y1,hoW,hbase,lA,YJ,YI,YH,-,qA,uM,hsm⟩:=HW
 have U4:=dh.size
 have HS:=hdd hs
 have HA:=hdd ha
 by_cases hlt:lo<hi
 ·have MI:decide (hi<=lo)=false:=by simp;omega
  obtain⟨ms,q1,q2,q3,q4,q5⟩:=Ld (p:=p) qA uM hk h0 hhi (h2 hlt)
  obtain⟨Sr,S7⟩:=bC ((p:Int)*1048576+lo)
  obtain⟨hi',Tg⟩:=bC ((p:Int)*1048576+hi)
  rw [S7,Tg]at q2
  have m1:IntKind.i64.wrap ((p:Int)*1048576)=(p:Int)*1048576:=IntWalk.i64_in _ af
  have m2:IntKind.i64.wrap ((p:Int)*1048576+lo)=Sr:=by rw [S7];exact IntWalk.i64_in _ af
  have m3:IntKind.i64.wrap ((p:Int)*1048576+hi)=hi':=by rw [Tg];exact IntWalk.i64_in _ af
  have HQ1:=hdd q1
  have OV:=hdd q2
  have Fg:=hdd q3
  have HQ4:=hdd q4
  have O1:=hdd (show iy ms from fun e he=>((fh _).1 (q4 e he)).1)
  have VD:=hdd ((fh a).1 ha)
  obtain⟨b0,b1,b2,b3,b4,b5⟩:w.cell? ⟨bb,1,none⟩=some (.slice g0 l0 p0)/\w.cell? ⟨bb,2,none⟩=some (.int .i64 b.t0.root)/\w.cell? ⟨bb,3,none⟩=some (.slice g1 l1 p1)/\w.cell? ⟨bb,4,none⟩=some (.int .i64 b.t1.root)/\w.cell? ⟨bb,5,none⟩=some (.slice g2 l2 p2)/\w.cell? ⟨bb,6,none⟩=some (.int .i64 b.t2.root):=by
   have b0:w.heap[bb]?=_:=(dh.block _ yj).trans hbase
   simp [World.cell?,b0]
  have i0:w.cell? ⟨ib,0,none⟩=some (.int .i64 p):=by
   have b0:w.heap[ib]?=_:=(dh.block _ Y1).trans lA
   simp [World.cell?,b0]
  have K4:=hdd fun w' lo hi (hb:Below ob W w')=>iJ (lo:=lo) (hi:=hi) (YJ w' hb)
  have N4:=hdd fun w' lo hi (hb:Below ob W w')=>iJ (lo:=lo) (hi:=hi) (YI w' hb)
  have rI:=hdd fun w' lo hi (hb:Below ob W w')=>iJ (lo:=lo) (hi:=hi) (YH w' hb)
  clear q1 q2 q3 q4 S7 Tg hlt h0 hlo h1 hhi h2 qA uM hbase lA YJ YI YH hs ha
  go_enter Tryz.func75,Tryz.ntmps75
  go_upto_region 3 with (fail)
  clear MI
  go_cut [10,11] (fun u c wx=>∃su sd,u = .slice su ms.length sd/\c = .int .i64 0/\au w.heap.size wx (.slice su ms.length sd) ms/\ah w wx)
  case first=>
   obtain rfl|rfl|rfl:k=0\/k=1\/k=2:=af
   ·have rK:=hdd (K4.out w.drew Sr hi' dh.drew)
    refine fS 12 _ rfl cv cv ?_
    (simp only [List.take_succ_cons,List.take_zero,List.drop_succ_cons,List.drop_zero];(repeat ((with_reducible refine wpStill_step (fun K hK=>?_));go_simp;(with_reducible refine hK _ ?_);clear hK K));(with_reducible refine wpStill_nil ?_))
    intro K hK
    go_simp
    (with_reducible refine rK.out.mono ?_);rintro e w5 ⟨cz,-,hok⟩
    have hok:=hok HQ1.out
    rw [show kG b.t0 Sr hi'=some ms from OV.out]at hok
    obtain⟨v5,rfl,iD⟩:=hok
    obtain⟨su,sd,rfl⟩:=iD.isSlice
    go_simp
    refine hK _ _ ?_
    clear hK K
    ((repeat ((with_reducible refine wpStill_step (fun K hK=>?_));go_simp;(with_reducible refine hK _ ?_);clear hK K));(with_reducible refine wpStill_nil ?_))
    all_goals
     go_wp2
     go_meet
     exact⟨_,_,rfl,rfl,iD,Below.trans' (aL _ _).drew cz aI⟩
   ·have rK:=hdd (N4.out w.drew Sr hi' dh.drew)
    refine fS 12 _ rfl cv cv ?_
    (simp only [List.take_succ_cons,List.take_zero,List.drop_succ_cons,List.drop_zero];(repeat ((with_reducible refine wpStill_step (fun K hK=>?_));go_simp;(with_reducible refine hK _ ?_);clear hK K));(with_reducible refine wpStill_nil ?_))
    intro K hK
    go_simp
    (with_reducible refine rK.out.mono ?_);rintro e w5 ⟨cz,-,hok⟩
    have hok:=hok HQ1.out
    rw [show kG b.t1 Sr hi'=some ms from OV.out]at hok
    obtain⟨v5,rfl,iD⟩:=hok
    obtain⟨su,sd,rfl⟩:=iD.isSlice
    go_simp
    refine hK _ _ ?_
    clear hK K
    ((repeat ((with_reducible refine wpStill_step (fun K hK=>?_));go_simp;(with_reducible refine hK _ ?_);clear hK K));(with_reducible refine wpStill_nil ?_))
    all_goals
     go_wp2
     go_meet
     exact⟨_,_,rfl,rfl,iD,Below.trans' (aL _ _).drew cz aI⟩
   ·have rK:=hdd (rI.out w.drew Sr hi' dh.drew)
    refine fS 12 _ rfl cv cv ?_
    (simp only [List.take_succ_cons,List.take_zero,List.drop_succ_cons,List.drop_zero];(repeat ((with_reducible refine wpStill_step (fun K hK=>?_));go_simp;(with_reducible refine hK _ ?_);clear hK K));(with_reducible refine wpStill_nil ?_))
    intro K hK
    go_simp
    (with_reducible refine rK.out.mono ?_);rintro e w5 ⟨cz,-,hok⟩
    have hok:=hok HQ1.out
    rw [show kG b.t2 Sr hi'=some ms from OV.out]at hok
    obtain⟨v5,rfl,iD⟩:=hok
    obtain⟨su,sd,rfl⟩:=iD.isSlice
    go_simp
    refine hK _ _ ?_
    clear hK K
    ((repeat ((with_reducible refine wpStill_step (fun K hK=>?_));go_simp;(with_reducible refine hK _ ?_);clear hK K));(with_reducible refine wpStill_nil ?_))
    all_goals
     go_wp2
     go_meet
     exact⟨_,_,rfl,rfl,iD,Below.trans' (aL _ _).drew cz aI⟩
  case rest=>
   obtain⟨su,sd,rfl,rfl,kW,hb3⟩:=hcut
   rename World=>w3
   clear b0 b1 b2 b3 b4 b5 i0 m1 m2 m3
   have hz3:=hb3.size
   have RU:=hdd (kW.at af)
   have aaL:w3.heap[ob]?=_:=(hb3.block _ af).trans oI
   have aby:Below ob W w3:=Below.trans' dh hb3 af
   have HOW:=hdd kW
   clear kW oI
   go_upto_region 5 with (fail)
   go_loopg [11,35] ms.length (fun g ec i wr=>∃(j:Nat) (ok:Bool) (r:av),j<=ms.length/\g=ms.length-j/\i = .int .i64 j/\ec = .int .i64 (if ok=true then 0 else 1)/\Hid (if ok=true then r=a.join (bj (ms.take j))/\r.c<=1073741824 else bM a (bj ms)=none)/\Hid (wr.heap[ob]?=some (.cells #[.int .i64 r.c, .int .i64 r.s, .int .i64 r.mi, .int .i64 r.ma, .int .i64 r.t, .int .i64 r.l] 39))/\Hid (aw (fun x=>x=ob) w3 wr))
   case atStart=>exact⟨0,true,a,jf _,rfl,rfl,rfl,hdd (by rw [ar rfl];exact⟨by simp only [List.take_zero,bj];rw [cY],VD.out.2⟩),hdd aaL,hdd (aw.refl _ _)⟩
   case round=>
    obtain⟨j,ok,r,hj,rfl,rfl,rfl,pB,Vw,KI⟩:=hrel
    have U5:=KI.out.size
    have hbr:Below ob W wr:=KI.out.below aby af (fun i hi=>af)
    by_cases hjl:j<ms.length
    ·obtain⟨_,_,hv,-,-,-,-,h5⟩:=RU.out
     injection hv with hv1 _ hv3
     subst hv1 hv3
     obtain⟨eb,aH,lQ,r8,nD⟩:=h5 af
     subst lQ
     have abl:eb≠ob:=by
      obtain⟨-,⟨-,h0'⟩|⟨g,_,_,hv',hBg,-⟩⟩:=HOW.out.row
      ·omega
      ·injection hv' with SB _ _
       injection SB with SB
       injection SB with h1 _
       omega
     obtain⟨y0,y1,y2,y3,y4,y5,y6⟩:=bT (aL _ _) r8 nD hjl
     obtain⟨y,hy⟩:=bC (ms[j])
     rw [hy]at y0 y1 y2 y3 y4 y5 y6
     rw [<-KI.out.cell r8 abl]at y0 y1 y2 y3 y4 y5 y6
     have N0:=hdd (HQ4.out y (by rw [<-hy];exact gj hjl))
     have Uu:=hdd (Cc O1.out hjl)
     rw [hy]at Uu
     have GG:=fun w'=>dC (ab:=eb) (bp:=aH) (n:=ms.length) (cap:=sd) (show (j:Int)=((j:Nat):Int) by rfl) hjl w'
     have hwz:eb<wr.heap.size:=af
     obtain⟨W1,hW1⟩:=bR (wr.alloc (.cells #[.int .i64 y.key, .int .i64 y.is.c, .int .i64 y.is.s, .int .i64 y.is.mi, .int .i64 y.is.ma, .int .i64 y.is.t, .int .i64 y.is.l] 107))
     have ht1:aw (fun x=>x=ob) w3 W1:=by rw [hW1];exact KI.out.alloc _
     have hz1:W1.heap.size=wr.heap.size+1:=by rw [hW1];simp
     have hb1:ah wr W1:=by rw [hW1];exact ag
     have k1:W1.heap[wr.heap.size]?=some (.cells #[.int .i64 y.key, .int .i64 y.is.c, .int .i64 y.is.s, .int .i64 y.is.mi, .int .i64 y.is.ma, .int .i64 y.is.t, .int .i64 y.is.l] 107):=by rw [hW1];exact aq _ _ rfl
     obtain⟨q1,q2,q3,q4,q5,q6⟩:W1.cell? ⟨wr.heap.size,1,none⟩=some (.int .i64 y.is.c)/\W1.cell? ⟨wr.heap.size,2,none⟩=some (.int .i64 y.is.s)/\W1.cell? ⟨wr.heap.size,3,none⟩=some (.int .i64 y.is.mi)/\W1.cell? ⟨wr.heap.size,4,none⟩=some (.int .i64 y.is.ma)/\W1.cell? ⟨wr.heap.size,5,none⟩=some (.int .i64 y.is.t)/\W1.cell? ⟨wr.heap.size,6,none⟩=some (.int .i64 y.is.l):=by simp [World.cell?,k1]
     have RM:=hdd ((hb1.block _ af).trans Vw.out:W1.heap[ob]?=_)
     obtain⟨o0,o1,o2,o3,o4,o5,-⟩:=cI RM.out
     clear nD h5 hy
     go_upto_region 7 with (fail)
     rw [<-hW1]
     clear hW1 k1 y0 y1 y2 y3 y4 y5 y6
     cases ok with
     |false=>
      go_wp2
      go_roundg (ms.length-(j+1))
      case measure=>omega
      case rel=>exact⟨j+1,false,r,af,rfl,by go_num,rfl,pB,RM,hdd ht1⟩
     |true=>
      obtain⟨hr1,hr2⟩:=pB.out
      have hrc:aj r=0:=(fh r).2 ⟨by rw [hr1];exact iA VD.out.1 (cg fun e he=>O1.out e (xP he)),hr2⟩
      by_cases hcc:r.c+y.is.c<=1073741824
      ·have HM:=hdd fun w'=>(by have:=jb r y.is w';rw [(oU hrc N0.out hcc).1]at this;exact this :
        Calls Tryz.prog 15 #[.agg #[.int .i64 r.c, .int .i64 r.s, .int .i64 r.mi, .int .i64 r.ma, .int .i64 r.t, .int .i64 r.l], .agg #[.int .i64 y.is.c, .int .i64 y.is.s, .int .i64 y.is.mi, .int .i64 y.is.ma, .int .i64 y.is.t, .int .i64 y.is.l]] w' fun e' w5=>e' = .returned (.tuple #[.agg #[.int .i64 (r.join y.is).c, .int .i64 (r.join y.is).s, .int .i64 (r.join y.is).mi, .int .i64 (r.join y.is).ma, .int .i64 (r.join y.is).t, .int .i64 (r.join y.is).l], .int .i64 0])/\ah w' w5)
       have Ah:=hdd (show r.join y.is=a.join (bj (ms.take (j+1)))/\(r.join y.is).c<=1073741824 from ⟨by
        rw [Uu.out,hr1,join_assoc VD.out.1 (cg fun e he=>O1.out e (xP he)) ((fh _).1 N0.out).1],by rw [dJ];exact hcc⟩)
       generalize r.join y.is=J at *
       clear hr1 hr2 hrc hcc pB
       go_wp2_with ((go_at_call 15;(with_reducible refine(HM.out _).mono ?_);rintro e' w5 ⟨rfl,cz⟩;have qo:=ht1.trans (aw.of cz aI);have iD:w5.heap[ob]?=_:=(cz.block _ af).trans RM.out;obtain⟨z0,z1,z2,z3,z4,z5,zf⟩:=cI iD))
       go_roundg (ms.length-(j+1))
       case measure=>omega
       case rel=>exact⟨j+1,true,J,af,rfl,by go_num,rfl,hdd (by rw [ar rfl];exact Ah.out),hdd (by with_reducible exact jR iD),hdd (by repeat (first|with_reducible exact aw.refl _ _|with_reducible assumption|with_reducible refine aw.drewN ?_ _|with_reducible refine aw.drew ?_|with_reducible refine aw.alloc ?_ _|with_reducible refine aw.at ?_ _ _))⟩
      ·have HM:=hdd fun w'=>(by have:=jb r y.is w';rw [(iP hrc N0.out).trans (ai hcc)]at this;exact this :
        Calls Tryz.prog 15 #[.agg #[.int .i64 r.c, .int .i64 r.s, .int .i64 r.mi, .int .i64 r.ma, .int .i64 r.t, .int .i64 r.l], .agg #[.int .i64 y.is.c, .int .i64 y.is.s, .int .i64 y.is.mi, .int .i64 y.is.ma, .int .i64 y.is.t, .int .i64 y.is.l]] w' fun e' w5=>e' = .returned (.tuple #[.agg #[.int .i64 av.zero.c, .int .i64 av.zero.s, .int .i64 av.zero.mi, .int .i64 av.zero.ma, .int .i64 av.zero.t, .int .i64 av.zero.l], .int .i64 1])/\ah w' w5)
       have Ah:=hdd (show bM a (bj ms)=none by
        have e1:=xL O1.out (j+1)
        have e2:=dJ (bj (ms.take j)) y.is
        have e3:=dJ a (bj (ms.take j))
        rw [Uu.out]at e1
        rw [<-hr1]at e3
        unfold bM
        rw [ai af])
       generalize av.zero=J at *
       clear hr1 hr2 hrc hcc pB
       go_wp2_with ((go_at_call 15;(with_reducible refine(HM.out _).mono ?_);rintro e' w5 ⟨rfl,cz⟩;have qo:=ht1.trans (aw.of cz aI);have iD:w5.heap[ob]?=_:=(cz.block _ af).trans RM.out;obtain⟨z0,z1,z2,z3,z4,z5,zf⟩:=cI iD))
       go_roundg (ms.length-(j+1))
       case measure=>omega
       case rel=>exact⟨j+1,false,J,af,rfl,by go_num,rfl,hdd (by rw [ai aY];exact Ah.out),hdd (by with_reducible exact jR iD),hdd (by repeat (first|with_reducible exact aw.refl _ _|with_reducible assumption|with_reducible refine aw.drewN ?_ _|with_reducible refine aw.drew ?_|with_reducible refine aw.alloc ?_ _|with_reducible refine aw.at ?_ _ _))⟩
    ·have hall:ms.take j=ms:=kI af
     cases ok with
     |false=>
      have jq:=hdd (show bM a (eT l p lo hi)=none by rw [<-Fg.out];exact pB.out)
      go_wp2
      go_ret
      refine⟨r,⟨hbr,Vw.out⟩,?_⟩
      rw [jq.out]
      exact rfl
     |true=>
      have jq:=hdd (show bM a (eT l p lo hi)=some r by
       obtain⟨hr1,hr2⟩:=pB.out
       rw [hall,Fg.out]at hr1
       have:=dJ a (eT l p lo hi)
       unfold bM
       rw [hr1]at hr2 ⊢
       rw [ar af])
      clear hall
      go_wp2
      go_ret
      refine⟨r,⟨hbr,Vw.out⟩,?_⟩
      rw [jq.out]
      exact⟨rfl,rfl⟩
 ·have MI:decide (hi<=lo)=true:=by simp;omega
  have jq:=hdd (show bM a (eT l p lo hi)=some a by rw [Jy af];exact Cb ((fh a).1 ha).2)
  clear hlt h0 hlo h1 hhi h2 qA uM hbase lA YJ YI YH ha
  go_enter Tryz.func75,Tryz.ntmps75
  go_wp2
  go_ret
  refine⟨a,hs,?_⟩
  rw [jq.out]
  exact⟨rfl,rfl⟩
end
section
set_option maxRecDepth 100000
set_option maxHeartbeats 2000000
variable {e:Ending} {ob:Nat} {a T r:av} {W w':World}
theorem fE.Vs (h:fE W ob a T e w') (hm:bM a T=none):e = .returned (.int .i64 1)/\∃r,EX W ob r w':=by
 obtain⟨r,h1,h2⟩:=h
 rw [hm]at h2
 exact⟨h2,r,h1⟩
theorem fE.Cr (h:fE W ob a T e w') (hm:bM a T=some r):e = .returned (.int .i64 0)/\EX W ob r w':=by
 obtain⟨r',h1,h2⟩:=h
 rw [hm]at h2
 obtain⟨rfl,h3⟩:=h2
 exact⟨h3,h1⟩
theorem fE.no (hm:bM a T=none) (h:∃r,EX W ob r w'):fE W ob a T (.returned (.int .i64 1)) w':=by
 obtain⟨r,h⟩:=h
 exact⟨r,h,by rw [hm]⟩
theorem fE.yes (hm:bM a T=some r) (h:EX W ob r w'):fE W ob a T (.returned (.int .i64 0)) w':=⟨r,h,by rw [hm];exact⟨rfl,rfl⟩⟩
abbrev ZR (bb ib ob:Nat):Value:= .func (.func 75) #[] #[.pointer (some ⟨bb,0,none⟩), .pointer (some ⟨ib,0,none⟩), .pointer (some ⟨ob,0,none⟩)]
def CK (W:World) (bb ib ob:Nat) (l:List aA) (p:Nat) (n:Int):Prop:=∀(lo hi:Int),0<=lo->lo<=hi->hi<=1048576->∀a,aj a=0->∀w,EX W ob a w ->
 Calls Tryz.prog 76 #[.int .i64 n, .int .i64 lo, .int .i64 hi,ZR bb ib ob] w (fE W ob a (eT l p lo hi))
section
variable {W:World} {bb ib ob:Nat} {b:Ba} {l:List aA} {p:Nat} {sa:Option Addr} {sc:Nat} {g0:Option Addr} {l0 p0:Nat} {g1:Option Addr} {l1 p1:Nat} {g2:Option Addr} {l2 p2:Nat}
theorem Hf (HW:NR W bb ib ob b l p sa sc g0 l0 p0 g1 l1 p1 g2 l2 p2):CK W bb ib ob l p 0:=by
 intro lo hi h0 h1 h2 a ha w hs
 have HT:=hdd (show Calls Tryz.prog 75 #[.int .i64 0, .int .i64 lo, .int .i64 hi, .pointer (some ⟨bb,0,none⟩), .pointer (some ⟨ib,0,none⟩), .pointer (some ⟨ob,0,none⟩)] w (fE W ob a (eT l p lo hi)) from
  yE HW (k:=0) aY h0 af af h2 (fun _=>⟨Int.emod_one lo,Int.emod_one hi⟩) ha hs)
 cases hm:bM a (eT l p lo hi) with
 |none=>
  have HM:=hdd hm
  clear hm
  go_enter Tryz.func76,Tryz.ntmps76
  go_wp2_with ((go_at_call 75;(with_reducible refine HT.out.mono ?_);intro e w5 h5;obtain⟨rfl,hs5⟩:=h5.Vs HM.out))
  go_ret
  exact fE.no HM.out hs5
 |some r=>
  have HM:=hdd hm
  clear hm
  go_enter Tryz.func76,Tryz.ntmps76
  go_wp2_with ((go_at_call 75;(with_reducible refine HT.out.mono ?_);intro e w5 h5;obtain⟨rfl,hs5⟩:=h5.Cr HM.out))
  go_ret
  exact fE.yes HM.out hs5
theorem zN (HW:NR W bb ib ob b l p sa sc g0 l0 p0 g1 l1 p1 g2 l2 p2) {k:Nat} (hk:k=1\/k=2) {M:Int} (hM:(k:Int)-1=M) (IH:CK W bb ib ob l p M):CK W bb ib ob l p k:=by
 intro lo hi h0 h1 h2 a ha w hs
 obtain⟨sz,hsz⟩:=bC (aS k)
 have Wm:sz=60\/sz=3600:=by rcases hk with rfl|rfl;exact .inl hsz.symm;exact .inr hsz.symm
 have hs0:(sz == 0)=false:=by simp;omega
 obtain⟨F,hF⟩:=bC ((lo+sz-1)/sz)
 obtain⟨G,hG⟩:=bC (hi/sz)
 obtain⟨A,hA⟩:=bC (F*sz)
 obtain⟨Z,hZ⟩:=bC (G*sz)
 have XP:lo<=A/\A<=lo+sz-1:=by
  rw [<-hA,<-hF]
  have e1:=Int.ediv_mul_le (lo+sz-1) (show sz≠0 by omega)
  have e2:=Int.lt_ediv_add_one_mul_self (lo+sz-1) (show 0<sz by omega)
  rw [Int.add_mul,Int.one_mul]at e2
  omega
 have Zf:A%sz=0:=by rw [<-hA];exact Int.mul_emod_left F sz
 have M8:Z<=hi/\0<=Z:=by
  rw [<-hZ,<-hG]
  exact⟨Int.ediv_mul_le hi af,Int.mul_nonneg (Int.ediv_nonneg af af) af⟩
 have hZ2:Z%sz=0:=by rw [<-hZ];exact Int.mul_emod_left G sz
 have hF0:0<=F/\F<=lo+sz-1:=by rw [<-hF];exact⟨Int.ediv_nonneg af af,Int.ediv_le_self _ af⟩
 have hG0:0<=G/\G<=hi:=by rw [<-hG];exact⟨Int.ediv_nonneg af af,Int.ediv_le_self _ af⟩
 have m1:IntKind.i64.wrap (lo+sz)=lo+sz:=IntWalk.i64_in _ af
 have m2:IntKind.i64.wrap (lo+sz-1)=lo+sz-1:=IntWalk.i64_in _ af
 have m3:(lo+sz-1).tdiv sz=F:=by rw [AO af];exact hF
 have m4:IntKind.i64.wrap F=F:=IntWalk.i64_in _ af
 have m5:IntKind.i64.wrap (F*sz)=A:=by rw [hA];exact IntWalk.i64_in _ af
 have m6:hi.tdiv sz=G:=by rw [AO af];exact hG
 have m7:IntKind.i64.wrap G=G:=IntWalk.i64_in _ af
 have m8:IntKind.i64.wrap (G*sz)=Z:=by rw [hZ];exact IntWalk.i64_in _ af
 have m9:IntKind.i64.wrap ((k:Int)-1)=M:=by rw [hM];exact IntWalk.i64_in _ af
 have Tc:((k:Int) == 0)=false:=by simp;omega
 obtain⟨-,c0,c1,c2⟩:=HW.sizes w hs.1
 have O1:=hdd (show iy l from (gw HW.book).2.1.bP.dD)
 have VD:=hdd ((fh a).1 ha)
 have UJ:=hdd IH
 have HT:=hdd fun lo hi (h0:0<=lo) (h1:lo<=1048576) (h2:0<=hi) (h3:hi<=1048576) (h4:lo<hi->lo%sz=0/\hi%sz=0) a (ha:aj a=0) w (hs:EX W ob a w)=>yE HW (k:=k) af h0 h1 h2 h3 (by rw [hsz];exact h4) ha hs
 have sI:=hdd hsz
 have HK:=hdd hk
 have HSV:=hdd Wm
 have ZG:=hdd ha
 clear hsz hF hG hA hZ hM hF0 hG0 ha IH HW
 go_enter Tryz.func76,Tryz.ntmps76
 go_upto_region 3 with (fail)
 go_cut [9] (fun s wx=>s = .int .i64 sz/\wx=w)
 case first=>
  rcases HK.out with rfl|rfl
  ·obtain rfl:60=sz:=sI.out
   go_wp2
   go_meet
   exact⟨rfl,rfl⟩
  ·obtain rfl:3600=sz:=sI.out
   go_wp2
   go_meet
   exact⟨rfl,rfl⟩
 case rest=>
  obtain⟨rfl,hwc⟩:=hcut
  obtain rfl:=hwc.symm
  clear c0 c1 c2 Wm hk
  by_cases Vp:Z<=A
  ·have hd:decide (Z<=A)=true:=by simp [Vp]
   have HC:=hdd (UJ.out lo hi h0 h1 h2 a ZG.out w hs)
   clear Vp
   cases hm:bM a (eT l p lo hi) with
   |none=>
    have HM:=hdd hm
    clear hm
    go_wp2_with ((go_at_call 76;(with_reducible refine HC.out.mono ?_);intro e w5 h5;obtain⟨rfl,hs5⟩:=h5.Vs HM.out))
    go_ret
    exact fE.no HM.out hs5
   |some r=>
    have HM:=hdd hm
    clear hm
    go_wp2_with ((go_at_call 76;(with_reducible refine HC.out.mono ?_);intro e w5 h5;obtain⟨rfl,hs5⟩:=h5.Cr HM.out))
    go_ret
    exact fE.yes HM.out hs5
  ·have hd:decide (Z<=A)=false:=by simp;omega
   have h3:A<Z:=af
   have HP:=hdd (show eT l p lo hi=(eT l p lo A).join ((eT l p A Z).join (eT l p Z hi)) by
    rw [tu O1.out (p:=p) (show lo<=A from XP.1) (show A<=hi by omega),tu O1.out (p:=p) (show A<=Z by omega) M8.1])
   have VG:=hdd (UJ.out lo A h0 XP.1 af a ZG.out w hs)
   have hf1:=rS O1.out p lo A
   have hf2:=rS O1.out p A Z
   have hf3:=rS O1.out p Z hi
   cases GC:bM a (eT l p lo A) with
   |none=>
    have Yi:=hdd GC
    have HM:=hdd (show bM a (eT l p lo hi)=none by rw [HP.out];exact uA (iA hf2 hf3) GC)
    clear GC Vp
    go_wp2_with ((go_at_call 76;(with_reducible refine VG.out.mono ?_);intro e w5 h5;obtain⟨rfl,hs5⟩:=h5.Vs Yi.out))
    go_ret
    exact fE.no HM.out hs5
   |some r1=>
    have Yi:=hdd GC
    have hr1:=uz VD.out.1 hf1 GC
    have Zu:=hdd ((fh r1).2 hr1)
    have rI:=hdd fun w hs=>HT.out A Z af af af af (fun _=>⟨Zf,hZ2⟩) r1 Zu.out w hs
    have HQ:=hdd (show bM a (eT l p lo hi)=bM r1 ((eT l p A Z).join (eT l p Z hi)) by
     rw [HP.out,<-xg VD.out.1 hf1 (iA hf2 hf3),GC];rfl)
    cases hm2:bM r1 (eT l p A Z) with
    |none=>
     have ZC:=hdd hm2
     have HM:=hdd (show bM a (eT l p lo hi)=none by rw [HQ.out];exact uA hf3 hm2)
     clear GC hm2 Vp hr1
     go_wp2_with (first|(go_at_call 76;(with_reducible refine VG.out.mono ?_);intro e w5 h5;obtain⟨rfl,hs5⟩:=h5.Cr Yi.out)|(go_at_call 75;(with_reducible refine(rI.out _ hs5).mono ?_);intro e w6 h6;obtain⟨rfl,Wt⟩:=h6.Vs ZC.out))
     go_ret
     exact fE.no HM.out Wt
    |some r2=>
     have ZC:=hdd hm2
     have hr2:=uz hr1.1 hf2 hm2
     have O5:=hdd fun w hs=>UJ.out Z hi M8.2 M8.1 h2 r2 ((fh r2).2 hr2) w hs
     have OV:=hdd (show bM a (eT l p lo hi)=bM r2 (eT l p Z hi) by
      rw [HQ.out,<-xg hr1.1 hf2 hf3,hm2];rfl)
     cases Vf:bM r2 (eT l p Z hi) with
     |none=>
      have HM3:=hdd Vf
      have HM:=hdd (OV.out.trans Vf)
      clear GC hm2 Vf Vp hr1 hr2
      go_wp2_with (first|(go_at_call 76;(with_reducible refine VG.out.mono ?_);intro e w5 h5;obtain⟨rfl,hs5⟩:=h5.Cr Yi.out)|(go_at_call 75;(with_reducible refine(rI.out _ hs5).mono ?_);intro e w6 h6;obtain⟨rfl,Wt⟩:=h6.Cr ZC.out)|(go_at_call 76;(with_reducible refine(O5.out _ Wt).mono ?_);intro e w7 h7;obtain⟨rfl,hs7⟩:=h7.Vs HM3.out))
      go_ret
      exact fE.no HM.out hs7
     |some r3=>
      have HM3:=hdd Vf
      have HM:=hdd (OV.out.trans Vf)
      clear GC hm2 Vf Vp hr1 hr2
      go_wp2_with (first|(go_at_call 76;(with_reducible refine VG.out.mono ?_);intro e w5 h5;obtain⟨rfl,hs5⟩:=h5.Cr Yi.out)|(go_at_call 75;(with_reducible refine(rI.out _ hs5).mono ?_);intro e w6 h6;obtain⟨rfl,Wt⟩:=h6.Cr ZC.out)|(go_at_call 76;(with_reducible refine(O5.out _ Wt).mono ?_);intro e w7 h7;obtain⟨rfl,hs7⟩:=h7.Cr HM3.out))
      go_ret
      exact fE.yes HM.out hs7
theorem Kk (HW:NR W bb ib ob b l p sa sc g0 l0 p0 g1 l1 p1 g2 l2 p2):CK W bb ib ob l p 2:=
 zN (k:=2) HW (.inr rfl) (M:=1) aY (zN (k:=1) HW (.inl rfl) (M:=0) aY (Hf HW))
end
end
section
set_option maxRecDepth 100000
set_option maxHeartbeats 4000000
variable {b:Ba} {s:ByteArray} {a z p:Int} {l:List aA}
def KF (B:Nat) (w:World) (r:av) (E:Int) (e:Ending) (w':World):Prop:=Below B w w'/\e = .returned (.tuple #[r.v, .int .i64 E])
theorem pG (h:bU b s≠0):mz b s a z=bU b s/\mv b s a z=av.zero:=by
 unfold mz mv;rw [ar h,ar h];exact⟨rfl,rfl⟩
theorem wV (h:bU b s=0) (hr:¬cO a z):mz b s a z=2/\mv b s a z=av.zero:=by
 unfold mz mv;rw [ai (iM h),ai (iM h),ar hr,ar hr];exact⟨rfl,rfl⟩
theorem Fv (h:bU b s=0) (hr:cO a z) (hl:bX b=some l) (hp:aG b.names s=p) (hm:bM av.zero (eT l p a (z+1))=none):mz b s a z=1/\mv b s a z=av.zero:=by
 subst hp
 unfold mz mv;rw [ai (iM h),ai (iM h),ai (iM hr),ai (iM hr),hl];simp only;rw [hm];exact⟨rfl,rfl⟩
theorem Fu {r:av} (h:bU b s=0) (hr:cO a z) (hl:bX b=some l) (hp:aG b.names s=p) (hm:bM av.zero (eT l p a (z+1))=some r):mz b s a z=0/\mv b s a z=r:=by
 subst hp
 unfold mz mv;rw [ai (iM h),ai (iM h),ai (iM hr),ai (iM hr),hl];simp only;rw [hm];exact⟨rfl,rfl⟩
theorem Jk {v:Value} {w:World} (h:bQ w v b) (hst:∀s∈b.names,s.size<=140737488351232) (hsz:bS w) :
  Calls Tryz.prog 37 #[v, .string s, .int .i64 a, .int .i64 z] w (KF w.heap.size w (mv b s a z) (mz b s a z)):=by
 have qH:=hdd fun w' (hb:ah w w')=>yJ (s:=s) (h.below hb) hst (hsz.below hb)
 obtain⟨sa,sc,g0,l0,p0,g1,l1,p1,g2,l2,p2,rfl,hn,jk,T0,T1,T2⟩:=h.open
 obtain⟨W0,hW0⟩:=bR ((w.alloc (.cells (aJ sa b.names.length sc g0 l0 p0 g1 l1 p1 g2 l2 p2 b) 30)).alloc (.cells #[.int .i64 0, .int .i64 0, .int .i64 0, .int .i64 0, .int .i64 0, .int .i64 0] 39))
 have hb0:ah w W0:=by rw [hW0];exact ag
 have hz0:W0.heap.size=w.heap.size+2:=by rw [hW0];simp
 have k0:W0.heap[w.heap.size]?=some (.cells (aJ sa b.names.length sc g0 l0 p0 g1 l1 p1 g2 l2 p2 b) 30):=by rw [hW0,lI _ _ _ bt];exact aq _ _ rfl
 have k1:W0.heap[w.heap.size+1]?=some (.cells #[.int .i64 0, .int .i64 0, .int .i64 0, .int .i64 0, .int .i64 0, .int .i64 0] 39):=by rw [hW0];exact aq _ _ bt
 have HZ:=hdd fun w' (hb:ah W0 w')=>cI ((hb.block _ af).trans k1)
 have HX:=hdd fun w' (hb:ah W0 w')=>(by
  have b0:w'.heap[w.heap.size]?=_:=(hb.block _ af).trans k0
  simp [World.cell?,b0] :
  w'.cell? ⟨w.heap.size,0,none⟩=some (.slice sa b.names.length sc)/\w'.cell? ⟨w.heap.size,1,none⟩=some (.slice g0 l0 p0)/\w'.cell? ⟨w.heap.size,2,none⟩=some (.int .i64 b.t0.root)/\w'.cell? ⟨w.heap.size,3,none⟩=some (.slice g1 l1 p1)/\w'.cell? ⟨w.heap.size,4,none⟩=some (.int .i64 b.t1.root)/\w'.cell? ⟨w.heap.size,5,none⟩=some (.slice g2 l2 p2)/\w'.cell? ⟨w.heap.size,6,none⟩=some (.int .i64 b.t2.root)/\w'.cell? ⟨w.heap.size,7,none⟩=some (.int .i64 b.floor))
 have HB:=hdd fun w' (hb:ah W0 w')=>(Below.trans' hb0 hb hb0.size:ah w w')
 obtain⟨x0,x1,x2,x3,x4,x5,x6,x7⟩:=HX.out W0 (aL _ _)
 have sI:=hdd hsz
 have K4:=hdd T0
 have N4:=hdd T1
 have rI:=hdd T2
 have X4:=hdd jk
 have YZ:∀(fn:Fn) (first cap:Array Value) (w:World),(Instr.makeFunc fn first cap).run Tryz.prog w = .ok (.func fn first cap) w:=fun _ _ _ _=>rfl
 have O0:=hdd k0
 clear h hst hsz jk T0 T1 T2 k0
 go_enter Tryz.func37,Tryz.ntmps37
 go_upto_region 1 with (fail)
 rw [<-hW0]
 clear hW0 k1
 rcases od b s with ⟨e1,e2⟩|⟨e1,e2,e3⟩|⟨e1,e2,p,hp,e3⟩
 ·obtain⟨r1,r2⟩:=pG (a:=a) (z:=z) (show bU b s≠0 by omega)
  have HR:=hdd (aO (r1.trans e1) r2)
  rw [e1]at qH
  clear e1 e2 r1 r2
  go_upto_region 2 with ((go_at_call 71;(with_reducible refine(qH.out _ hb0).mono ?_);rintro e w1 ⟨rfl,hb1⟩))
  obtain⟨W2,hW2⟩:=bR (w1.alloc (.cells #[.int .i64 (gY b s)] 3))
  have hz1:=hb1.size
  have hz2:W2.heap.size=w1.heap.size+1:=by rw [hW2];simp
  have hb2:ah w1 W2:=by rw [hW2];exact ag
  have k2:W2.heap[w1.heap.size]?=some (.cells #[.int .i64 (gY b s)] 3):=by rw [hW2];exact aq _ _ rfl
  have tF:ah W0 W2:=Below.trans' hb1 hb2 hz1
  have dh:=HB.out _ tF
  obtain⟨z0,z1,z2,z3,z4,z5,zf⟩:=HZ.out _ tF
  rw [<-hW2]
  clear hW2
  clear k2
  go_wp2
  exact bodyPost_ret (v:= .tuple #[.agg #[.int .i64 0, .int .i64 0, .int .i64 0, .int .i64 0, .int .i64 0, .int .i64 0], .int .i64 7]) (by simp [results,Tryz.results37,go_sem, *]) rfl ⟨ag,by rw [HR.out.1,HR.out.2];rfl⟩
 ·obtain⟨r1,r2⟩:=pG (a:=a) (z:=z) (show bU b s≠0 by omega)
  have HR:=hdd (aO (r1.trans e1) r2)
  rw [e1]at qH
  clear e1 e2 e3 r1 r2
  go_upto_region 2 with ((go_at_call 71;(with_reducible refine(qH.out _ hb0).mono ?_);rintro e w1 ⟨rfl,hb1⟩))
  obtain⟨W2,hW2⟩:=bR (w1.alloc (.cells #[.int .i64 (gY b s)] 3))
  have hz1:=hb1.size
  have hz2:W2.heap.size=w1.heap.size+1:=by rw [hW2];simp
  have hb2:ah w1 W2:=by rw [hW2];exact ag
  have k2:W2.heap[w1.heap.size]?=some (.cells #[.int .i64 (gY b s)] 3):=by rw [hW2];exact aq _ _ rfl
  have tF:ah W0 W2:=Below.trans' hb1 hb2 hz1
  have dh:=HB.out _ tF
  obtain⟨z0,z1,z2,z3,z4,z5,zf⟩:=HZ.out _ tF
  rw [<-hW2]
  clear hW2
  clear k2
  go_wp2
  exact bodyPost_ret (v:= .tuple #[.agg #[.int .i64 0, .int .i64 0, .int .i64 0, .int .i64 0, .int .i64 0, .int .i64 0], .int .i64 6]) (by simp [results,Tryz.results37,go_sem, *]) rfl ⟨ag,by rw [HR.out.1,HR.out.2];rfl⟩
 ·have hI:gY b s=p:=by unfold gY;rw [ar e1];exact e3
  rw [e1,hI]at qH
  clear hI
  go_upto_region 2 with ((go_at_call 71;(with_reducible refine(qH.out _ hb0).mono ?_);rintro e w1 ⟨rfl,hb1⟩))
  obtain⟨W2,hW2⟩:=bR (w1.alloc (.cells #[.int .i64 ((p:Int))] 3))
  have hz1:=hb1.size
  have hz2:W2.heap.size=w1.heap.size+1:=by rw [hW2];simp
  have hb2:ah w1 W2:=by rw [hW2];exact ag
  have k2:W2.heap[w1.heap.size]?=some (.cells #[.int .i64 ((p:Int))] 3):=by rw [hW2];exact aq _ _ rfl
  have tF:ah W0 W2:=Below.trans' hb1 hb2 hz1
  have dh:=HB.out _ tF
  obtain⟨z0,z1,z2,z3,z4,z5,zf⟩:=HZ.out _ tF
  rw [<-hW2]
  clear hW2
  have HT:=hdd (AW a z)
  by_cases hr:cO a z
  ·have htd:decide (cO a z)=true:=by simp [hr]
   rw [htd]at HT
   obtain⟨hr1,hr2,hr3⟩:=id hr
   obtain⟨l,hl,-⟩:=iW e2
   have m1:IntKind.i64.wrap (z+1)=z+1:=IntWalk.i64_in _ af
   have N6:=hdd e1
   have CH:=hdd e2
   have HPL:=hdd e3
   have HL:=hdd hl
   have nW:=hdd hr
   clear e1 e2 e3 hl htd hr hr1 hr2 hr3
   clear z0 z1 z2 z3 z4 z5 zf
   go_upto_region 8 with ((go_at_call 73;(with_reducible refine(HT.out _).mono ?_);rintro e w2 ⟨rfl,hw2⟩;obtain rfl:=hw2.symm))
   obtain⟨W4,GQ⟩:=bR (W2.alloc (.cells #[.int .i64 0, .int .i64 0, .int .i64 0, .int .i64 0, .int .i64 0, .int .i64 0] 39))
   have YU:W4.heap.size=W2.heap.size+1:=by rw [GQ];simp
   have hb4:ah W2 W4:=by rw [GQ];exact ag
   have k4:W4.heap[w1.heap.size]?=some (.cells #[.int .i64 p] 3):=(hb4.block _ af).trans k2
   have k5:W4.heap[W2.heap.size]?=some (.cells #[.int .i64 0, .int .i64 0, .int .i64 0, .int .i64 0, .int .i64 0, .int .i64 0] 39):=by rw [GQ];exact aq _ _ rfl
   have Xl:ah W0 W4:=Below.trans' tF hb4 tF.size
   have hbW:=hdd fun w' (hb:Below W2.heap.size W4 w')=>(Xl.trans (hb.mono af):ah W0 w')
   have Us:NR W4 w.heap.size w1.heap.size W2.heap.size b l p sa sc g0 l0 p0 g1 l1 p1 g2 l2 p2:=
    ⟨af,af,af,(Xl.block _ af).trans O0.out,k4,fun w' hb=>K4.out w' (HB.out _ (hbW.out w' hb)),fun w' hb=>N4.out w' (HB.out _ (hbW.out w' hb)),fun w' hb=>rI.out w' (HB.out _ (hbW.out w' hb)),fun w' hb=>sI.out.below (HB.out _ (hbW.out w' hb)),CH.out,HL.out,hp⟩
   have Ol:=hdd (Kk Us a (z+1) nW.out.1 (by have:=nW.out.2.1;omega) (by have:=nW.out.2.2;omega) av.zero aY W4 ⟨aL _ _,k5⟩)
   rw [hz2]at Ol hbW
   clear k2 k4 k5 Us
   rw [<-GQ]
   clear GQ
   cases hm:bM av.zero (eT l p a (z+1)) with
   |none=>
    have HM:=hdd hm
    have HR:=hdd (Fv N6.out nW.out HL.out HPL.out hm)
    clear hm
    go_wp2_with ((go_at_call 76;(with_reducible refine Ol.out.mono ?_);intro e w5 h5;obtain⟨rfl,r5,cz,-⟩:=h5.Vs HM.out;have Ee:=hbW.out _ cz;have abu:=HB.out _ Ee;obtain⟨z0,z1,z2,z3,z4,z5,zf⟩:=HZ.out _ Ee))
    exact bodyPost_ret (v:= .tuple #[.agg #[.int .i64 0, .int .i64 0, .int .i64 0, .int .i64 0, .int .i64 0, .int .i64 0], .int .i64 1]) (by simp [results,Tryz.results37,go_sem, *]) rfl ⟨ag,by rw [HR.out.1,HR.out.2];rfl⟩
   |some r=>
    have HM:=hdd hm
    have HR:=hdd (Fu N6.out nW.out HL.out HPL.out hm)
    clear hm
    go_wp2_with ((go_at_call 76;(with_reducible refine Ol.out.mono ?_);intro e w5 h5;obtain⟨rfl,cz,iD⟩:=h5.Cr HM.out;have Ee:=hbW.out _ cz;have abu:=HB.out _ Ee;obtain⟨z0,z1,z2,z3,z4,z5,zf⟩:=HZ.out _ Ee;obtain⟨o0,o1,o2,o3,o4,o5,of⟩:=cI iD))
    exact bodyPost_ret (v:= .tuple #[.agg #[.int .i64 r.c, .int .i64 r.s, .int .i64 r.mi, .int .i64 r.ma, .int .i64 r.t, .int .i64 r.l], .int .i64 0]) (by simp [results,Tryz.results37,go_sem, *]) rfl ⟨ag,by rw [HR.out.1,HR.out.2]⟩
  ·have htd:decide (cO a z)=false:=by simp [hr]
   rw [htd]at HT
   have HR:=hdd (wV (s:=s) e1 hr)
   clear e1 e2 e3 hr htd
   clear k2
   go_wp2_with ((go_at_call 73;(with_reducible refine(HT.out _).mono ?_);rintro e w2 ⟨rfl,hw2⟩;obtain rfl:=hw2.symm))
   exact bodyPost_ret (v:= .tuple #[.agg #[.int .i64 0, .int .i64 0, .int .i64 0, .int .i64 0, .int .i64 0, .int .i64 0], .int .i64 2]) (by simp [results,Tryz.results37,go_sem, *]) rfl ⟨ag,by rw [HR.out.1,HR.out.2];rfl⟩
end
end Go.Proofs.YtmljjfhgciaceaaGreatDoor
