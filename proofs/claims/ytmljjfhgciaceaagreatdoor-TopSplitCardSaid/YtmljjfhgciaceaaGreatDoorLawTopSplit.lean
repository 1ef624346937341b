import Derived.Test.YtmljjfhgciaceaaGreatDoorHd
import Derived.Test.YtmljjfhgciaceaaGreatDoorTopZ
import Derived.Test.YtmljjfhgciaceaaGreatDoorTopS
import Derived.Test.YtmljjfhgciaceaaGreatDoorTopY
import Derived.Test.YtmljjfhgciaceaaGreatDoorSort3
import Derived.Test.YtmljjfhgciaceaaGreatDoorSO
namespace Go.Proofs.YtmljjfhgciaceaaGreatDoor
open Go.RowKit
set_option maxRecDepth 100000
set_option maxHeartbeats 4000000
variable {s:ByteArray} {a z:Int} {w:World}
theorem NF:Calls Tryz.prog 13 #[.string s, .int .i64 a, .int .i64 z] w fun e w'=>e = .returned (.agg #[.int .i64 3, .string s, .int .i64 a, .int .i64 z, .int .i64 0, .int .i64 0])/\ah w w':=by
 obtain⟨W0,hW0⟩:=bR (w.alloc (.cells #[.int .i64 0, .string ⟨#[]⟩, .int .i64 0, .int .i64 0, .int .i64 0, .int .i64 0] 46))
 have hb0:ah w W0:=by rw [hW0];exact ag
 have k1:W0.heap[w.heap.size]?=some (.cells #[.int .i64 0, .string ⟨#[]⟩, .int .i64 0, .int .i64 0, .int .i64 0, .int .i64 0] 46):=by rw [hW0];exact aq _ _ rfl
 obtain⟨z0,z1,z2,z3,z4,z5,zf⟩:W0.cell? ⟨w.heap.size,0,none⟩=some (.int .i64 0)/\W0.cell? ⟨w.heap.size,1,none⟩=some (.string ⟨#[]⟩)/\W0.cell? ⟨w.heap.size,2,none⟩=some (.int .i64 0)/\W0.cell? ⟨w.heap.size,3,none⟩=some (.int .i64 0)/\W0.cell? ⟨w.heap.size,4,none⟩=some (.int .i64 0)/\W0.cell? ⟨w.heap.size,5,none⟩=some (.int .i64 0)/\∀o,W0.frozen? ⟨w.heap.size,o,none⟩=false:=by simp [World.cell?,World.frozen?,k1]
 have HE:=hdd (eB hb0 aI (.int .i64 3) (.string s) (.int .i64 a) (.int .i64 z) (.int .i64 0) (.int .i64 0))
 go_enter Tryz.func13,Tryz.ntmps13
 go_upto_region 1 with (fail)
 rw [<-hW0]
 clear hW0 hb0 k1
 go_wp2_with fail
 exact bodyPost_ret (v:= .agg #[.int .i64 3, .string s, .int .i64 a, .int .i64 z, .int .i64 0, .int .i64 0]) (by simp [results,Tryz.results13,go_sem, *]) rfl ⟨rfl,HE.out⟩
def EI:ByteArray:=⟨#[99,112,117]⟩
theorem Qo:EI∈iG:=by simp [iG,EI]
theorem Lj {l:List Ac} {x y:Int} {A:An} {P Q:av} {qs:List qu} (h:lu St.zero (l++qP s x y z)=lu St.zero l++[A,⟨0,P,[]⟩,⟨0,Q,[]⟩,⟨0,P.join Q,[]⟩]) (hq:qs.map qu.an=lu St.zero (l++qP s x y z)) {K:Nat} (hK:l.length+1=K) (hl:K+2<qs.length) :
  (∃h,qs[K]'h=⟨⟨0,P,[]⟩,qs[K].so,qs[K].n,qs[K].c⟩)/\(∃h,qs[K+1]'h=⟨⟨0,Q,[]⟩,qs[K+1].so,qs[K+1].n,qs[K+1].c⟩)/\∃h,qs[K+2]'h=⟨⟨0,P.join Q,[]⟩,qs[K+2].so,qs[K+2].n,qs[K+2].c⟩:=by
 subst hK
 have g:∀j (hj:j<3) (hl':l.length+1+j<qs.length),qs[l.length+1+j].an=[(⟨0,P,[]⟩:An),⟨0,Q,[]⟩,⟨0,P.join Q,[]⟩][j]'(by simpa using hj):=fun j hj hl'=>by
  have h1:(qs.map qu.an)[l.length+1+j]?=some qs[l.length+1+j].an:=by simp [hl']
  rw [hq,h,List.getElem?_append_right (by rw [na];omega),na,show l.length+1+j-l.length=j+1 by omega]at h1
  obtain rfl|rfl|rfl:j=0\/j=1\/j=2:=af
  all_goals (simp at h1;simp [<-h1])
 refine⟨⟨af,?_⟩,⟨af,?_⟩,⟨af,?_⟩⟩
 ·have:=g 0 af af;simp only [Nat.add_zero]at this;rw [<-show qs[l.length+1].an=⟨0,P,[]⟩from this]
 ·have:=g 1 af af;rw [<-show qs[l.length+1+1].an=⟨0,Q,[]⟩from this]
 ·have:=g 2 af af;rw [<-show qs[l.length+1+2].an=⟨0,P.join Q,[]⟩from this]
theorem BP {v:Value} {xs:List Rw} {b c:Int} (h:I7 w v xs) (hx:∀a∈xs,a.ok) (ha:i64 a) (hb:i64 b) (hc:i64 c) (hsz:bS w) :
  Calls Tryz.prog 4 #[v, .int .i64 a, .int .i64 b, .int .i64 c] w fun e w'=>e = .returned (.bool true)/\ah w w':=by
 obtain⟨ao,cap,rfl⟩:=h.isSlice
 have HA:=hdd fun W (hb:ah w W)=>(show Calls Tryz.prog 12 #[.slice ao xs.length cap, .int .i64 40] W _ from NN (most:=40) (h.below hb aI) hx aY)
 have sI:=hdd hsz
 have OY:=hdd (NL (xs:=xs) (most:=40))
 have Zp:=hdd (Ht (xs:=xs) (most:=40))
 have HGA:=hdd (Hu (xs:=xs) (most:=40))
 have HPA:=hdd fun W=>qV (w:=W) (m:=12000) ha aY aY
 have HPB:=hdd fun W=>qV (w:=W) (m:=12000) hb aY aY
 have Vv:=hdd fun W=>qV (w:=W) (m:=12000) hc aY aY
 have Va:=cx (n:=a) (m:=12000) aY
 have CO:=cx (n:=b) (m:=12000) aY
 have hrc:=cx (n:=c) (m:=12000) aY
 obtain⟨a0,ha0⟩:=bC (picked a 12000)
 obtain⟨b0,hb0⟩:=bC (picked b 12000)
 obtain⟨c0,hc0⟩:=bC (picked c 12000)
 rw [ha0]at HPA Va
 rw [hb0]at HPB CO
 rw [hc0]at Vv hrc
 have HRG:=hdd (aO Va (aO CO hrc))
 have HK:=hdd fun s a z W=>NF (s:=s) (a:=a) (z:=z) (w:=W)
 clear h hx hsz ha hb hc Va CO hrc ha0 hb0 hc0
 go_enter Tryz.func4,Tryz.ntmps4
 go_upto_region 2 with (first
  |(go_at_call 10;(with_reducible refine(HPA.out _).mono ?_);rintro e w1 ⟨rfl,hb1⟩)
  |(go_at_call 10;(with_reducible refine(HPB.out _).mono ?_);rintro e w2 ⟨rfl,hb2⟩)
  |(go_at_call 10;(with_reducible refine(Vv.out _).mono ?_);rintro e w3 ⟨rfl,hb3⟩))
 have h3:=Below.trans' (Below.trans' hb1 hb2 hb1.size) hb3 (Below.trans' hb1 hb2 hb1.size).size
 obtain⟨W3,hW3⟩:=bR (w3.alloc (.cells #[.int .i64 a0, .int .i64 b0, .int .i64 c0] 3))
 have k3:W3.heap[w3.heap.size]?=some (.cells #[.int .i64 a0, .int .i64 b0, .int .i64 c0] 3):=by rw [hW3];exact aq _ _ rfl
 have TG:ah w3 W3:=by rw [hW3];exact ag
 have RF:=hdd (Jm (cap:=3) (Q:=fun q=>0<=q/\q<12000) (show gp W3 w3.heap.size (fun q=>0<=q/\q<12000) W3 a0 b0 c0 from ⟨k3,HRG.out.1,HRG.out.2.1,HRG.out.2.2,aL _ _,fun _ _=>rfl,rfl⟩))
 have xF:=hdd (Below.trans' h3 (TG.mono aI) h3.size)
 have HLT:=hdd (show w3.heap.size<W3.heap.size by rw [hW3];simp)
 have HL3:=hdd h3.size
 rw [<-hW3]
 clear hW3 k3 TG h3 hb1 hb2 hb3
 go_upto_region 3 with (go_at_call 11;(with_reducible refine RF.out.mono ?_);rintro e w4 ⟨rfl,x,y,z,hrow,hxy,hyz⟩)
 obtain⟨nb,hnb⟩:=bC (w3.heap.size)
 rw [hnb]at hrow HLT HL3 ⊢
 have Ai:=hdd (Below.trans xF.out (hrow.below.mono HL3.out))
 have HN:=hdd (aO hrow.qx (aO hrow.qz (aO hxy hyz)))
 have hwy:IntKind.i64.wrap (y+1)=y+1:=IntWalk.i64_in _ (by have:=HN.out.1;have:=HN.out.2.1;omega)
 have hwz:IntKind.i64.wrap (z+1)=z+1:=IntWalk.i64_in _ (by have:=HN.out.1;have:=HN.out.2.1;omega)
 have Fl:=hdd fun W (hb:ah w4 W)=>(by
  have b0:=(hb.block nb (by have:=hrow.size;have:=HLT.out;omega)).trans hrow.box
  simp [World.cell?,b0]:W.cell? ⟨nb,0,none⟩=some (.int .i64 x)/\W.cell? ⟨nb,1,none⟩=some (.int .i64 y)/\W.cell? ⟨nb,2,none⟩=some (.int .i64 z))
 clear hnb hrow hxy hyz
 refine bH [(0,1),(2,1),(3,1),(4,1),(5,0),(6,1),(7,1),(8,0),(10,1),(11,1),(12,0),(13,1),(14,1),(15,1),(16,0),(17,1),(19,1),(20,1),(21,0),(22,1),(23,1),(24,0),(25,1),(1,2),(9,2),(18,2),(26,2),(27,2),(28,3),(29,1)] 28 (fun W=>W.cell? ⟨nb,0,none⟩=some (.int .i64 x)/\W.cell? ⟨nb,1,none⟩=some (.int .i64 y)/\W.cell? ⟨nb,2,none⟩=some (.int .i64 z)) cv cv (Fl.out _ (aL _ _).drew) ?_
 (simp only [bF,List.filterMap_cons,List.filterMap_nil,List.getElem?_cons_zero,List.getElem?_cons_succ,Option.map_some])
 (repeat first|refine aV ?_|refine aU ?_)
 refine aM rfl (fun K hK=>?_)
 go_simp
 (with_reducible refine(HA.out _ Ai.out.drew).mono ?_);rintro e w5 ⟨cz,oa,oc,rfl,hown⟩
 have Qz:=hdd (show ah w4 w5 from Below.trans' (aL _ w4).drew cz aI)
 have HO5:=hdd (hown.mono (C:=w4.heap.size) aI)
 go_simp
 refine hK _ _ (Fl.out _ Qz.out) ?_
 clear hK K cz hown
 (repeat first|refine aV ?_|refine aU ?_)
 refine aM rfl (fun K hK=>?_)
 go_simp
 (with_reducible refine(HK.out _ _ _ _).mono ?_);rintro e w6 ⟨rfl,jt⟩
 have HW6:=hdd (Below.trans' Qz.out jt Qz.out.size)
 have HO6:=hdd (HO5.out.below jt aI)
 go_simp
 refine hK _ _ (Fl.out _ HW6.out) ?_
 clear hK K jt
 (repeat first|refine aV ?_|refine aU ?_)
 refine aM rfl (fun K hK=>?_)
 go_simp
 (with_reducible refine(HK.out _ _ _ _).mono ?_);rintro e w7 ⟨rfl,qG⟩
 have X0:=hdd (Below.trans' HW6.out qG HW6.out.size)
 have HO7:=hdd (HO6.out.below qG aI)
 go_simp
 refine hK _ _ (Fl.out _ X0.out) ?_
 clear hK K qG
 (repeat first|refine aV ?_|refine aU ?_)
 refine aM rfl (fun K hK=>?_)
 go_simp
 (with_reducible refine(HK.out _ _ _ _).mono ?_);rintro e w8 ⟨rfl,kQ⟩
 have Ur:=hdd (Below.trans' X0.out kQ X0.out.size)
 have Zw:=hdd (HO7.out.below kQ aI)
 go_simp
 refine hK _ _ (Fl.out _ Ur.out) ?_
 clear hK K kQ
 (repeat first|refine aV ?_|refine aU ?_)
 refine aM rfl (fun K hK=>?_)
 go_simp
 refine hK _ _ (Fl.out _ (Ur.out.alloc Ur.out.size _)) ?_
 clear hK K
 (repeat first|refine aV ?_|refine aU ?_)
 refine bn rfl (fun K hK=>?_)
 refine yz (.tmp 27) (.tmp 53) rfl w4.heap.size _ (kJ xs 40) (qP EI x y z) rfl (Zw.out.alloc _) w8.heap.size 4 _ rfl (aq _ _ rfl) rfl (by have:=OY.out;have:(qP EI x y z).length=4:=rfl;omega) (by have:=Ur.out.size;simp;omega) ?_
 intro v9 w9 sM OD
 have Zm:=hdd (show ah w4 w9 from Below.grown (Ur.out.alloc Ur.out.size _) OD (by have:=Ur.out.size;simp;omega) (fun j hj=>(Zw.out.lt j hj).1))
 have pA:=hdd (Below.trans' Ai.out Zm.out Ai.out.size)
 obtain⟨L,hL⟩:=bC (kJ xs 40)
 rw [hL]at sM OY Zp HGA
 obtain⟨D,hD⟩:=bC (L++qP EI x y z)
 rw [hD]at sM
 have HD:=hdd hD
 have MI:D.length=L.length+4:=by rw [<-hD,eO];rfl
 have tY:=hdd (Fw (sM.at (by have:=OY.out;omega)) (fun a ha=>by
  rw [<-hD]at ha
  rcases kH.1 ha with ha|ha
  ·exact Zp.out a ha
  ·simp only [qP,eZ,List.not_mem_nil,or_false]at ha
   rcases ha with rfl|rfl|rfl|rfl <;> (show EI.size<=_;decide)) (by have:=OY.out;omega) (sI.out.below pA.out))
 obtain⟨da,dc,rfl⟩:=sM.isSlice
 have QD:=hdd MI
 refine hK _ _ ?_
 clear hK K sM OD hL hD MI
 (repeat first|refine aV ?_|refine aU ?_)
 refine cj ?_
 go_upto_region 5 with (go_at_call 14;(with_reducible refine tY.out.mono ?_);rintro e mG ⟨uN,oo,ocp,qs,b,sa,sd,g0,l0,p0,g1,l1,p1,g2,l2,p2,rfl,YX,hown,hrows,-,-,hok⟩)
 have Wy:(iL St.zero (L++[⟨1,EI,11999,0,0,0⟩])).m.Ok (L.length+1):=by
  have h1:=hok (L.length+1) (by rw [QD.out];omega)
  have e:D.take (L.length+1)=L++[⟨1,EI,11999,0,0,0⟩]:=by
   rw [<-HD.out,List.take_append,kI af,show L.length+1-L.length=1 by omega];rfl
  rw [e]at h1;exact h1
 obtain⟨A,P,Q,hpl,hmg⟩:=Jl HGA.out Qo HN.out.1.1 HN.out.2.2.1 HN.out.2.2.2 HN.out.2.1.2 (N:=L.length+1) (by have:=OY.out;omega) Wy
 have hq4:qs.length=L.length+4:=by
  have:=congrArg List.length YX
  rw [po,na]at this
  rw [this];exact QD.out
 obtain⟨a5,-⟩:=Uk YX hown hrows hok (by have:=QD.out;have:=OY.out;omega) (W:=mG) (aL _ _)
 obtain⟨K,hK⟩:=bC (L.length+1)
 obtain⟨⟨_,e0⟩,⟨_,e1⟩,⟨_,e2⟩⟩:=Lj hpl (by rw [YX,<-HD.out]) hK af
 have hqk:qs.length=K+3:=af
 have agh:K<=41:=by have:=OY.out;omega
 have hwk:IntKind.i64.wrap ((qs.length:Int)-3)=(K:Int):=by
  rw [show (qs.length:Int)-3=(K:Int) by omega]
  exact IntWalk.i64_in _ af
 have hw1:IntKind.i64.wrap ((K:Int)+1)=(K:Int)+1:=IntWalk.i64_in _ af
 have hw2:IntKind.i64.wrap ((K:Int)+2)=(K:Int)+2:=IntWalk.i64_in _ af
 have ie:(K:Int)<(qs.length:Int):=af
 have hk1:(K:Int)+1<(qs.length:Int):=af
 have hk2:(K:Int)+2<(qs.length:Int):=af
 have hn0:K<qs.length:=af
 have Cm:K+1<qs.length:=af
 have tW:K+2<qs.length:=af
 obtain⟨_,_,hv,-,-,-,-,e5⟩:=a5
 injection hv with hv1 _ hv3
 subst hv1 hv3
 obtain⟨eb,aH,rfl,ebb,ec⟩:=e5 af
 have P6:=fun w'=>Cj (ab:=eb) (bp:=aH) (n:=qs.length) (cap:=ocp) (show (K:Int)=((K:Nat):Int) by rfl) hn0 w'
 have Tf:=fun w'=>Cj (ab:=eb) (bp:=aH) (n:=qs.length) (cap:=ocp) (show (K:Int)+1=((K+1:Nat):Int) by omega) Cm w'
 have JZ:=fun w'=>Cj (ab:=eb) (bp:=aH) (n:=qs.length) (cap:=ocp) (show (K:Int)+2=((K+2:Nat):Int) by omega) tW w'
 have HC:=hdd fun W (h:ah mG W)=>(by
  have cc:∀{k:Nat} (hk:k<qs.length),_:=fun {k} hk=>KR (w:=W) (b:=eb) (off:=aH) (xs:=qs) (fun i x hi j u hu=>(h.cell (p:=⟨eb,_,none⟩) ebb).trans (ec i x hi j u hu)) hk
  have c0:=cc hn0
  have c1:=cc Cm
  have c2:=cc tW
  rw [e0]at c0
  rw [e1]at c1
  rw [e2]at c2
  exact⟨⟨c0.1,c1.1,c2.1⟩,⟨c0.2.1,c0.2.2.1,c0.2.2.2.1,c0.2.2.2.2.1,c0.2.2.2.2.2.1,c0.2.2.2.2.2.2.1⟩,⟨c1.2.1,c1.2.2.1,c1.2.2.2.1,c1.2.2.2.2.1,c1.2.2.2.2.2.1,c1.2.2.2.2.2.2.1⟩,⟨c2.2.1,c2.2.2.1,c2.2.2.2.1,c2.2.2.2.2.1,c2.2.2.2.2.2.1,c2.2.2.2.2.2.2.1⟩⟩:(W.cell? ⟨eb,aH+K*8,none⟩=some (.int .i64 0)/\W.cell? ⟨eb,aH+(K+1)*8,none⟩=some (.int .i64 0)/\W.cell? ⟨eb,aH+(K+2)*8,none⟩=some (.int .i64 0))/\(W.cell? ⟨eb,aH+K*8+1,none⟩=some (.int .i64 P.c)/\W.cell? ⟨eb,aH+K*8+2,none⟩=some (.int .i64 P.s)/\W.cell? ⟨eb,aH+K*8+3,none⟩=some (.int .i64 P.mi)/\W.cell? ⟨eb,aH+K*8+4,none⟩=some (.int .i64 P.ma)/\W.cell? ⟨eb,aH+K*8+5,none⟩=some (.int .i64 P.t)/\W.cell? ⟨eb,aH+K*8+6,none⟩=some (.int .i64 P.l))/\(W.cell? ⟨eb,aH+(K+1)*8+1,none⟩=some (.int .i64 Q.c)/\W.cell? ⟨eb,aH+(K+1)*8+2,none⟩=some (.int .i64 Q.s)/\W.cell? ⟨eb,aH+(K+1)*8+3,none⟩=some (.int .i64 Q.mi)/\W.cell? ⟨eb,aH+(K+1)*8+4,none⟩=some (.int .i64 Q.ma)/\W.cell? ⟨eb,aH+(K+1)*8+5,none⟩=some (.int .i64 Q.t)/\W.cell? ⟨eb,aH+(K+1)*8+6,none⟩=some (.int .i64 Q.l))/\W.cell? ⟨eb,aH+(K+2)*8+1,none⟩=some (.int .i64 (P.join Q).c)/\W.cell? ⟨eb,aH+(K+2)*8+2,none⟩=some (.int .i64 (P.join Q).s)/\W.cell? ⟨eb,aH+(K+2)*8+3,none⟩=some (.int .i64 (P.join Q).mi)/\W.cell? ⟨eb,aH+(K+2)*8+4,none⟩=some (.int .i64 (P.join Q).ma)/\W.cell? ⟨eb,aH+(K+2)*8+5,none⟩=some (.int .i64 (P.join Q).t)/\W.cell? ⟨eb,aH+(K+2)*8+6,none⟩=some (.int .i64 (P.join Q).l))
 have QH:=hdd (Below.trans' pA.out uN pA.out.size)
 obtain⟨J,hJ⟩:=bC (P.join Q)
 rw [hJ]at HC hmg
 have HM:=hdd fun W=>(show Calls Tryz.prog 15 #[.agg #[.int .i64 P.c, .int .i64 P.s, .int .i64 P.mi, .int .i64 P.ma, .int .i64 P.t, .int .i64 P.l], .agg #[.int .i64 Q.c, .int .i64 Q.s, .int .i64 Q.mi, .int .i64 Q.ma, .int .i64 Q.t, .int .i64 Q.l]] W fun e w'=>e = .returned (.tuple #[.agg #[.int .i64 J.c, .int .i64 J.s, .int .i64 J.mi, .int .i64 J.ma, .int .i64 J.t, .int .i64 J.l], .int .i64 0])/\ah W w' by
  have:=jb P Q W
  rw [hmg]at this
  exact this)
 clear ec e5 YX hown hrows hok uN hq4 hK hqk hJ hmg hpl e0 e1 e2 Wy hn0 Cm tW
 go_upto_region 8 with (fail)
 obtain⟨V,hV⟩:=bR (mG.alloc (.cells (aJ sa b.names.length sd g0 l0 p0 g1 l1 p1 g2 l2 p2 b) 30))
 have HV:=hdd (show ah mG V by rw [hV];exact ag)
 rw [<-hV]
 clear hV
 have Ol:=hdd fun W (h:ah V W)=>HC.out W (Below.trans' HV.out h HV.out.size)
 refine eW (lL.of [(0,1),(1,1),(2,1),(3,1),(4,0),(5,1),(6,1),(7,1),(8,1),(9,1),(10,0)] (.fork 11 15 (lL.of [(12,1),(13,1),(14,1)] (lL.of [(15,2),(16,3),(17,1)] .nil)) (lL.of [(11,2),(12,1),(13,1),(14,1),(16,3),(17,1)] .nil))) 16 (fun W=>(W.cell? ⟨eb,aH+K*8,none⟩=some (.int .i64 0)/\W.cell? ⟨eb,aH+(K+1)*8,none⟩=some (.int .i64 0)/\W.cell? ⟨eb,aH+(K+2)*8,none⟩=some (.int .i64 0))/\(W.cell? ⟨eb,aH+K*8+1,none⟩=some (.int .i64 P.c)/\W.cell? ⟨eb,aH+K*8+2,none⟩=some (.int .i64 P.s)/\W.cell? ⟨eb,aH+K*8+3,none⟩=some (.int .i64 P.mi)/\W.cell? ⟨eb,aH+K*8+4,none⟩=some (.int .i64 P.ma)/\W.cell? ⟨eb,aH+K*8+5,none⟩=some (.int .i64 P.t)/\W.cell? ⟨eb,aH+K*8+6,none⟩=some (.int .i64 P.l))/\(W.cell? ⟨eb,aH+(K+1)*8+1,none⟩=some (.int .i64 Q.c)/\W.cell? ⟨eb,aH+(K+1)*8+2,none⟩=some (.int .i64 Q.s)/\W.cell? ⟨eb,aH+(K+1)*8+3,none⟩=some (.int .i64 Q.mi)/\W.cell? ⟨eb,aH+(K+1)*8+4,none⟩=some (.int .i64 Q.ma)/\W.cell? ⟨eb,aH+(K+1)*8+5,none⟩=some (.int .i64 Q.t)/\W.cell? ⟨eb,aH+(K+1)*8+6,none⟩=some (.int .i64 Q.l))/\W.cell? ⟨eb,aH+(K+2)*8+1,none⟩=some (.int .i64 J.c)/\W.cell? ⟨eb,aH+(K+2)*8+2,none⟩=some (.int .i64 J.s)/\W.cell? ⟨eb,aH+(K+2)*8+3,none⟩=some (.int .i64 J.mi)/\W.cell? ⟨eb,aH+(K+2)*8+4,none⟩=some (.int .i64 J.ma)/\W.cell? ⟨eb,aH+(K+2)*8+5,none⟩=some (.int .i64 J.t)/\W.cell? ⟨eb,aH+(K+2)*8+6,none⟩=some (.int .i64 J.l)) cv cv (Ol.out _ (aL _ _).drew) ?_
 (repeat first|refine bJ ?_|refine bI ?_)
 refine gP rfl rfl rfl rfl (fun K hK=>?_) (fun K hK=>?_)
 ·skip
  go_simp
  (with_reducible refine(HM.out _).mono ?_);rintro e wm ⟨rfl,Tz⟩
  go_simp
  have Hz:=hdd (show ah V wm from Below.trans' (aL V.heap.size V).drew Tz (aL V.heap.size V).drew.size)
  have RA:=hdd Tz
  refine hK _ _ (Ol.out _ Hz.out) ?_
  clear hK K Tz
  (repeat first|refine bJ ?_|refine bI ?_)
  refine br rfl rfl (fun K hK=>?_)
  go_simp
  obtain⟨Wa,M9⟩:=bR (wm.alloc (.cells #[.int .i64 0, .int .i64 0, .int .i64 0, .int .i64 0, .int .i64 0, .int .i64 0] 39))
  have KP:=hdd (show ah V Wa by rw [M9];exact Hz.out.alloc Hz.out.size _)
  have VI:=hdd (show Wa.heap[wm.heap.size]?=some (.cells #[.int .i64 0, .int .i64 0, .int .i64 0, .int .i64 0, .int .i64 0, .int .i64 0] 39) by rw [M9];exact aq _ _ rfl)
  have Fj:=hdd Hz.out.size
  obtain⟨bo,yj⟩:=bC (wm.heap.size)
  rw [yj]at VI Fj
  rw [<-M9,yj]
  refine hK _ _ (Ol.out _ KP.out) ?_
  clear hK K M9 yj
  (repeat first|refine bJ ?_|refine bI ?_)
  obtain⟨z0,z1,z2,z3,z4,z5,zf⟩:Wa.cell? ⟨bo,0,none⟩=some (.int .i64 0)/\Wa.cell? ⟨bo,1,none⟩=some (.int .i64 0)/\Wa.cell? ⟨bo,2,none⟩=some (.int .i64 0)/\Wa.cell? ⟨bo,3,none⟩=some (.int .i64 0)/\Wa.cell? ⟨bo,4,none⟩=some (.int .i64 0)/\Wa.cell? ⟨bo,5,none⟩=some (.int .i64 0)/\∀o,Wa.frozen? ⟨bo,o,none⟩=false:=by have:=VI.out;simp [World.cell?,World.frozen?,this]
  refine cZ rfl rfl (fun K hK=>?_)
  go_simp
  refine hK _ _ ?_
  clear hK K
  (repeat first|refine bJ ?_|refine bI ?_)
  refine dU ?_
  obtain⟨U,hU⟩:=bR (((((((Wa.setCell ⟨bo,0,none⟩ (.int .i64 J.c)).setCell ⟨bo,1,none⟩ (.int .i64 J.s)).setCell ⟨bo,2,none⟩ (.int .i64 J.mi)).setCell ⟨bo,3,none⟩ (.int .i64 J.ma)).setCell ⟨bo,4,none⟩ (.int .i64 J.t)).setCell ⟨bo,5,none⟩ (.int .i64 J.l)))
  have UO:=hdd (show ah V U by rw [hU];exact eB KP.out Fj.out _ _ _ _ _ _)
  have HKU:=hdd (show vw U bo J by rw [hU];exact⟨yM VI.out⟩)
  rw [<-hU]
  clear hU z0 z1 z2 z3 z4 z5 zf
  have HFU:=hdd fun W (h:ah U W)=>(aO (Ol.out W (Below.trans' UO.out h UO.out.size)) (HKU.out.later h).cells:((W.cell? ⟨eb,aH+K*8,none⟩=some (.int .i64 0)/\W.cell? ⟨eb,aH+(K+1)*8,none⟩=some (.int .i64 0)/\W.cell? ⟨eb,aH+(K+2)*8,none⟩=some (.int .i64 0))/\(W.cell? ⟨eb,aH+K*8+1,none⟩=some (.int .i64 P.c)/\W.cell? ⟨eb,aH+K*8+2,none⟩=some (.int .i64 P.s)/\W.cell? ⟨eb,aH+K*8+3,none⟩=some (.int .i64 P.mi)/\W.cell? ⟨eb,aH+K*8+4,none⟩=some (.int .i64 P.ma)/\W.cell? ⟨eb,aH+K*8+5,none⟩=some (.int .i64 P.t)/\W.cell? ⟨eb,aH+K*8+6,none⟩=some (.int .i64 P.l))/\(W.cell? ⟨eb,aH+(K+1)*8+1,none⟩=some (.int .i64 Q.c)/\W.cell? ⟨eb,aH+(K+1)*8+2,none⟩=some (.int .i64 Q.s)/\W.cell? ⟨eb,aH+(K+1)*8+3,none⟩=some (.int .i64 Q.mi)/\W.cell? ⟨eb,aH+(K+1)*8+4,none⟩=some (.int .i64 Q.ma)/\W.cell? ⟨eb,aH+(K+1)*8+5,none⟩=some (.int .i64 Q.t)/\W.cell? ⟨eb,aH+(K+1)*8+6,none⟩=some (.int .i64 Q.l))/\W.cell? ⟨eb,aH+(K+2)*8+1,none⟩=some (.int .i64 J.c)/\W.cell? ⟨eb,aH+(K+2)*8+2,none⟩=some (.int .i64 J.s)/\W.cell? ⟨eb,aH+(K+2)*8+3,none⟩=some (.int .i64 J.mi)/\W.cell? ⟨eb,aH+(K+2)*8+4,none⟩=some (.int .i64 J.ma)/\W.cell? ⟨eb,aH+(K+2)*8+5,none⟩=some (.int .i64 J.t)/\W.cell? ⟨eb,aH+(K+2)*8+6,none⟩=some (.int .i64 J.l))/\W.cell? ⟨bo,0,none⟩=some (.int .i64 J.c)/\W.cell? ⟨bo,1,none⟩=some (.int .i64 J.s)/\W.cell? ⟨bo,2,none⟩=some (.int .i64 J.mi)/\W.cell? ⟨bo,3,none⟩=some (.int .i64 J.ma)/\W.cell? ⟨bo,4,none⟩=some (.int .i64 J.t)/\W.cell? ⟨bo,5,none⟩=some (.int .i64 J.l))
  go_upto_region 9 with (fail)
  refine cV [(0,1),(1,1),(2,1),(3,1),(4,0),(5,1),(6,1),(7,1),(8,1),(9,1),(10,1),(11,1),(12,0),(13,1),(14,1),(15,1),(16,1),(17,1),(18,1),(19,1),(20,1),(21,0),(22,1),(23,1),(24,1),(25,1),(26,1),(27,1),(28,1),(29,0),(30,1),(31,1),(32,1),(33,1),(34,1),(35,0),(36,1),(37,1),(38,3)] 38 (fun W=>((W.cell? ⟨eb,aH+K*8,none⟩=some (.int .i64 0)/\W.cell? ⟨eb,aH+(K+1)*8,none⟩=some (.int .i64 0)/\W.cell? ⟨eb,aH+(K+2)*8,none⟩=some (.int .i64 0))/\(W.cell? ⟨eb,aH+K*8+1,none⟩=some (.int .i64 P.c)/\W.cell? ⟨eb,aH+K*8+2,none⟩=some (.int .i64 P.s)/\W.cell? ⟨eb,aH+K*8+3,none⟩=some (.int .i64 P.mi)/\W.cell? ⟨eb,aH+K*8+4,none⟩=some (.int .i64 P.ma)/\W.cell? ⟨eb,aH+K*8+5,none⟩=some (.int .i64 P.t)/\W.cell? ⟨eb,aH+K*8+6,none⟩=some (.int .i64 P.l))/\(W.cell? ⟨eb,aH+(K+1)*8+1,none⟩=some (.int .i64 Q.c)/\W.cell? ⟨eb,aH+(K+1)*8+2,none⟩=some (.int .i64 Q.s)/\W.cell? ⟨eb,aH+(K+1)*8+3,none⟩=some (.int .i64 Q.mi)/\W.cell? ⟨eb,aH+(K+1)*8+4,none⟩=some (.int .i64 Q.ma)/\W.cell? ⟨eb,aH+(K+1)*8+5,none⟩=some (.int .i64 Q.t)/\W.cell? ⟨eb,aH+(K+1)*8+6,none⟩=some (.int .i64 Q.l))/\W.cell? ⟨eb,aH+(K+2)*8+1,none⟩=some (.int .i64 J.c)/\W.cell? ⟨eb,aH+(K+2)*8+2,none⟩=some (.int .i64 J.s)/\W.cell? ⟨eb,aH+(K+2)*8+3,none⟩=some (.int .i64 J.mi)/\W.cell? ⟨eb,aH+(K+2)*8+4,none⟩=some (.int .i64 J.ma)/\W.cell? ⟨eb,aH+(K+2)*8+5,none⟩=some (.int .i64 J.t)/\W.cell? ⟨eb,aH+(K+2)*8+6,none⟩=some (.int .i64 J.l))/\W.cell? ⟨bo,0,none⟩=some (.int .i64 J.c)/\W.cell? ⟨bo,1,none⟩=some (.int .i64 J.s)/\W.cell? ⟨bo,2,none⟩=some (.int .i64 J.mi)/\W.cell? ⟨bo,3,none⟩=some (.int .i64 J.ma)/\W.cell? ⟨bo,4,none⟩=some (.int .i64 J.t)/\W.cell? ⟨bo,5,none⟩=some (.int .i64 J.l)) cv cv (HFU.out _ (aL _ _).drew) ?_
  (simp only [bF,List.filterMap_cons,List.filterMap_nil,List.getElem?_cons_zero,List.getElem?_cons_succ,Option.map_some])
  (repeat (first|refine jA ?_|refine jz ?_|refine jy ?_);(try simp only [Act.put,List.setIfInBounds_toArray,List.set_cons_zero,List.set_cons_succ]))
  refine fX ?_ (fun K hK=>?_)
  (focus (first|exact bg rfl _|exact dP rfl rfl rfl rfl))
  go_simp
  refine hK _ _ ?_
  clear hK K
  refine gZ ?_
  have jq:=hdd (Below.trans' QH.out (Below.trans' HV.out UO.out.drew HV.out.size) QH.out.size)
  go_wp2_with fail
  go_ret
  exact⟨rfl,jq.out⟩
 ·skip
  go_simp
  obtain⟨Wa,M9⟩:=bR ((V.alloc (.cells #[.int .i64 0, .int .i64 0, .int .i64 0, .int .i64 0, .int .i64 0, .int .i64 0] 39)).drew)
  have KP:=hdd (show ah V Wa by rw [M9];exact((aL _ V).alloc aI _).drew)
  have UR:=hdd (show Wa.heap[V.heap.size]?=some (.cells #[.int .i64 0, .int .i64 0, .int .i64 0, .int .i64 0, .int .i64 0, .int .i64 0] 39) by rw [M9];exact aq _ _ rfl)
  obtain⟨bo,yj⟩:=bC (V.heap.size)
  have Fj:=hdd (show V.heap.size<=bo by omega)
  rw [yj]at UR
  rw [<-M9,yj]
  refine hK _ _ (Ol.out _ KP.out) ?_
  clear hK K M9 yj
  (repeat first|refine bJ ?_|refine bI ?_)
  refine br rfl rfl (fun K hK=>?_)
  go_simp
  (with_reducible refine(HM.out _).mono ?_);rintro e wm ⟨rfl,Tz⟩
  go_simp
  have Hz:=hdd (show ah V wm from Below.trans' KP.out Tz KP.out.size)
  have RA:=hdd Tz
  refine hK _ _ (Ol.out _ Hz.out) ?_
  clear hK K Tz
  (repeat first|refine bJ ?_|refine bI ?_)
  have VI:=hdd ((RA.out.block bo (eP.1 UR.out).1).trans UR.out)
  obtain⟨z0,z1,z2,z3,z4,z5,zf⟩:wm.cell? ⟨bo,0,none⟩=some (.int .i64 0)/\wm.cell? ⟨bo,1,none⟩=some (.int .i64 0)/\wm.cell? ⟨bo,2,none⟩=some (.int .i64 0)/\wm.cell? ⟨bo,3,none⟩=some (.int .i64 0)/\wm.cell? ⟨bo,4,none⟩=some (.int .i64 0)/\wm.cell? ⟨bo,5,none⟩=some (.int .i64 0)/\∀o,wm.frozen? ⟨bo,o,none⟩=false:=by have:=VI.out;simp [World.cell?,World.frozen?,this]
  refine cZ rfl rfl (fun K hK=>?_)
  go_simp
  refine hK _ _ ?_
  clear hK K
  (repeat first|refine bJ ?_|refine bI ?_)
  refine dU ?_
  obtain⟨U,hU⟩:=bR (((((((wm.setCell ⟨bo,0,none⟩ (.int .i64 J.c)).setCell ⟨bo,1,none⟩ (.int .i64 J.s)).setCell ⟨bo,2,none⟩ (.int .i64 J.mi)).setCell ⟨bo,3,none⟩ (.int .i64 J.ma)).setCell ⟨bo,4,none⟩ (.int .i64 J.t)).setCell ⟨bo,5,none⟩ (.int .i64 J.l)))
  have UO:=hdd (show ah V U by rw [hU];exact eB Hz.out Fj.out _ _ _ _ _ _)
  have HKU:=hdd (show vw U bo J by rw [hU];exact⟨yM VI.out⟩)
  rw [<-hU]
  clear hU z0 z1 z2 z3 z4 z5 zf
  have HFU:=hdd fun W (h:ah U W)=>(aO (Ol.out W (Below.trans' UO.out h UO.out.size)) (HKU.out.later h).cells:((W.cell? ⟨eb,aH+K*8,none⟩=some (.int .i64 0)/\W.cell? ⟨eb,aH+(K+1)*8,none⟩=some (.int .i64 0)/\W.cell? ⟨eb,aH+(K+2)*8,none⟩=some (.int .i64 0))/\(W.cell? ⟨eb,aH+K*8+1,none⟩=some (.int .i64 P.c)/\W.cell? ⟨eb,aH+K*8+2,none⟩=some (.int .i64 P.s)/\W.cell? ⟨eb,aH+K*8+3,none⟩=some (.int .i64 P.mi)/\W.cell? ⟨eb,aH+K*8+4,none⟩=some (.int .i64 P.ma)/\W.cell? ⟨eb,aH+K*8+5,none⟩=some (.int .i64 P.t)/\W.cell? ⟨eb,aH+K*8+6,none⟩=some (.int .i64 P.l))/\(W.cell? ⟨eb,aH+(K+1)*8+1,none⟩=some (.int .i64 Q.c)/\W.cell? ⟨eb,aH+(K+1)*8+2,none⟩=some (.int .i64 Q.s)/\W.cell? ⟨eb,aH+(K+1)*8+3,none⟩=some (.int .i64 Q.mi)/\W.cell? ⟨eb,aH+(K+1)*8+4,none⟩=some (.int .i64 Q.ma)/\W.cell? ⟨eb,aH+(K+1)*8+5,none⟩=some (.int .i64 Q.t)/\W.cell? ⟨eb,aH+(K+1)*8+6,none⟩=some (.int .i64 Q.l))/\W.cell? ⟨eb,aH+(K+2)*8+1,none⟩=some (.int .i64 J.c)/\W.cell? ⟨eb,aH+(K+2)*8+2,none⟩=some (.int .i64 J.s)/\W.cell? ⟨eb,aH+(K+2)*8+3,none⟩=some (.int .i64 J.mi)/\W.cell? ⟨eb,aH+(K+2)*8+4,none⟩=some (.int .i64 J.ma)/\W.cell? ⟨eb,aH+(K+2)*8+5,none⟩=some (.int .i64 J.t)/\W.cell? ⟨eb,aH+(K+2)*8+6,none⟩=some (.int .i64 J.l))/\W.cell? ⟨bo,0,none⟩=some (.int .i64 J.c)/\W.cell? ⟨bo,1,none⟩=some (.int .i64 J.s)/\W.cell? ⟨bo,2,none⟩=some (.int .i64 J.mi)/\W.cell? ⟨bo,3,none⟩=some (.int .i64 J.ma)/\W.cell? ⟨bo,4,none⟩=some (.int .i64 J.t)/\W.cell? ⟨bo,5,none⟩=some (.int .i64 J.l))
  go_upto_region 9 with (fail)
  refine cV [(0,1),(1,1),(2,1),(3,1),(4,0),(5,1),(6,1),(7,1),(8,1),(9,1),(10,1),(11,1),(12,0),(13,1),(14,1),(15,1),(16,1),(17,1),(18,1),(19,1),(20,1),(21,0),(22,1),(23,1),(24,1),(25,1),(26,1),(27,1),(28,1),(29,0),(30,1),(31,1),(32,1),(33,1),(34,1),(35,0),(36,1),(37,1),(38,3)] 38 (fun W=>((W.cell? ⟨eb,aH+K*8,none⟩=some (.int .i64 0)/\W.cell? ⟨eb,aH+(K+1)*8,none⟩=some (.int .i64 0)/\W.cell? ⟨eb,aH+(K+2)*8,none⟩=some (.int .i64 0))/\(W.cell? ⟨eb,aH+K*8+1,none⟩=some (.int .i64 P.c)/\W.cell? ⟨eb,aH+K*8+2,none⟩=some (.int .i64 P.s)/\W.cell? ⟨eb,aH+K*8+3,none⟩=some (.int .i64 P.mi)/\W.cell? ⟨eb,aH+K*8+4,none⟩=some (.int .i64 P.ma)/\W.cell? ⟨eb,aH+K*8+5,none⟩=some (.int .i64 P.t)/\W.cell? ⟨eb,aH+K*8+6,none⟩=some (.int .i64 P.l))/\(W.cell? ⟨eb,aH+(K+1)*8+1,none⟩=some (.int .i64 Q.c)/\W.cell? ⟨eb,aH+(K+1)*8+2,none⟩=some (.int .i64 Q.s)/\W.cell? ⟨eb,aH+(K+1)*8+3,none⟩=some (.int .i64 Q.mi)/\W.cell? ⟨eb,aH+(K+1)*8+4,none⟩=some (.int .i64 Q.ma)/\W.cell? ⟨eb,aH+(K+1)*8+5,none⟩=some (.int .i64 Q.t)/\W.cell? ⟨eb,aH+(K+1)*8+6,none⟩=some (.int .i64 Q.l))/\W.cell? ⟨eb,aH+(K+2)*8+1,none⟩=some (.int .i64 J.c)/\W.cell? ⟨eb,aH+(K+2)*8+2,none⟩=some (.int .i64 J.s)/\W.cell? ⟨eb,aH+(K+2)*8+3,none⟩=some (.int .i64 J.mi)/\W.cell? ⟨eb,aH+(K+2)*8+4,none⟩=some (.int .i64 J.ma)/\W.cell? ⟨eb,aH+(K+2)*8+5,none⟩=some (.int .i64 J.t)/\W.cell? ⟨eb,aH+(K+2)*8+6,none⟩=some (.int .i64 J.l))/\W.cell? ⟨bo,0,none⟩=some (.int .i64 J.c)/\W.cell? ⟨bo,1,none⟩=some (.int .i64 J.s)/\W.cell? ⟨bo,2,none⟩=some (.int .i64 J.mi)/\W.cell? ⟨bo,3,none⟩=some (.int .i64 J.ma)/\W.cell? ⟨bo,4,none⟩=some (.int .i64 J.t)/\W.cell? ⟨bo,5,none⟩=some (.int .i64 J.l)) cv cv (HFU.out _ (aL _ _).drew) ?_
  (simp only [bF,List.filterMap_cons,List.filterMap_nil,List.getElem?_cons_zero,List.getElem?_cons_succ,Option.map_some])
  (repeat (first|refine jA ?_|refine jz ?_|refine jy ?_);(try simp only [Act.put,List.setIfInBounds_toArray,List.set_cons_zero,List.set_cons_succ]))
  refine fX ?_ (fun K hK=>?_)
  (focus (first|exact bg rfl _|exact dP rfl rfl rfl rfl))
  go_simp
  refine hK _ _ ?_
  clear hK K
  refine gZ ?_
  have jq:=hdd (Below.trans' QH.out (Below.trans' HV.out UO.out.drew HV.out.size) QH.out.size)
  go_wp2_with fail
  go_ret
  exact⟨rfl,jq.out⟩
end Go.Proofs.YtmljjfhgciaceaaGreatDoor
