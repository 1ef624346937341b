/- Texts of mine that come as one: AddG AddAny. -/
import Derived.Test.YtmljjfhgciaceaaDoorHd
import Derived.Test.YtmljjfhgciaceaaDoorAK
import Derived.Test.YtmljjfhgciaceaaDoorSO
namespace Go.Proofs.YtmljjfhgciaceaaDoor
open Go.RowKit
section
set_option maxRecDepth 100000
set_option maxHeartbeats 4000000
variable {b:Ba} {s:ByteArray} {time value rt:Int} {l:List aA} {k B n c sc l0 p0 l1 p1 l2 p2:Nat} {so sa g0 g1 g2:Option Addr} {w' w:World}
def Oo (b:Ba) (s:ByteArray) (time value:Int) (B:Nat) (x:Ending) (w':World):Prop:=
 (∃E,E=1/\x = .returned (.tuple #[dH, .int .i64 E])/\(jL b s time value=1\/(jL b s time value=0/\∃k,k<3/\3001<nE (b.tree k)))) \/
 (jL b s time value=0/\∃b' sa sc g0 l0 p0 g1 l1 p1 g2 l2 p2,x = .returned (.tuple #[.agg (aH sa b'.names.length sc g0 l0 p0 g1 l1 p1 g2 l2 p2 b'), .int .i64 0])/\(∀w'',aP B w' w''->bN w'' (.agg (aH sa b'.names.length sc g0 l0 p0 g1 l1 p1 g2 l2 p2 b')) b') /\
  b'.names=bA b s/\b'.floor=b.floor/\aQ b'=true/\bW b'=some (ET b s time value)/\∀k,k<3->nE (b'.tree k)<=nE (b.tree k)+1)
theorem NH (h:jt b s time value=0):jL b s time value=0\/jL b s time value=1:=by
 unfold jL
 rw [ai (by simp [h])]
 split
 ·exact .inl rfl
 ·split
  ·exact .inr rfl
  ·split
   ·exact .inr rfl
   ·exact .inl rfl
theorem Cv {E2:Int} (hF:jt b s time value=0) (hl:bW b=some l) (hk:k<3)
  (h:fP B (b.tree k) (dX b s time value k).key (dX b s time value k).is w' so n c rt E2) (h0:E2≠0):E2=1/\(jL b s time value=1\/(jL b s time value=0/\∃k,k<3/\3001<nE (b.tree k))):=by
 rcases h with ⟨h1,h2⟩|⟨h1,t2,h2,l2,g1,g2,g3,⟨g4,-⟩|⟨g4,g5⟩⟩
 ·rcases (kj hF hl hk).1 with ⟨p1,-⟩|⟨p1,p2⟩
  ·exact absurd p1 h1
  ·exact⟨h2.trans p1, .inl (NI hF hl hk p2)⟩
 ·exact absurd g4 h0
 ·refine⟨g4,(NH hF).symm.imp id fun h=>⟨h,k,hk,?_⟩⟩
  have:=g1.grown g5
  omega
theorem Hm (hF:jt b s time value=0) (hl:bW b=some l) (hk:k<3)
  (h:fP B (b.tree k) (dX b s time value k).key (dX b s time value k).is w' so n c rt 0):∃t',(∀w'',aP B w' w''->bL w'' (.agg #[.slice so n c, .int .i64 rt]) t')/\ax t'=0/\gI t'.all (dX b s time value k::(b.tree k).all)/\nE t'<=nE (b.tree k)+1/\Small (dX b s time value k::(b.tree k).all):=by
 rcases h with ⟨h1,h2⟩|⟨h1,t2,h2,l2,g1,g2,g3,⟨-,g5,-,g7⟩|⟨g4,g5⟩⟩
 ·omega
 ·refine⟨t2,g7,g5,g2,g3,?_⟩
  rcases (kj hF hl hk).1 with ⟨-,p2⟩|⟨p1,p2⟩
  ·exact p2
  ·have:(1:Int)=0:=p1.symm.trans h1
   omega
 ·omega
theorem NF (h:bN w (.agg (aH sa b.names.length sc g0 l0 p0 g1 l1 p1 g2 l2 p2 b)) b)
  (hst:∀s∈b.names,s.size<=140737488351232) (xh:s.size<=140737488351232) (hsz:bS w) (hm:aQ b=true) (hn:dG s=true) (hr:0<=time/\time<=1048575/\-1000000<=value/\value<=1000000) (hf:b.floor<=time) (hp:aG b.names s = -1) (Qe:b.names.length=16) :
  Calls Tryd.prog 22 #[.agg (aH sa b.names.length sc g0 l0 p0 g1 l1 p1 g2 l2 p2 b), .agg #[.string s, .int .i64 time, .int .i64 value]] w fun x w'=>ah w w'/\x = .returned (.tuple #[dH, .int .i64 1]):=by
 obtain⟨W0,hW0⟩:=bQ (((w.alloc (.cells (aH sa b.names.length sc g0 l0 p0 g1 l1 p1 g2 l2 p2 b) 35)).alloc (.cells #[.string s, .int .i64 time, .int .i64 value] 59)).alloc (.cells cN 35))
 have h0:=kP.start hW0
 have tW:=hdd h0
 have z0:=h0.size
 have iB:=hdd (fG (h.below h0.below) hst (hsz.below h0.below))
 have xE:=hdd fun w'=>uv s w' xh
 have n7:=hdd fun w'=>FU time value w'
 rw [dW hm]at iB
 rw [hn]at xE
 rw [show eJ time value=(⟨1,value,value,value,time,value⟩,0)from ar hr]at n7
 have HH:=hdd (show bN w (.agg (aH sa b.names.length sc g0 l0 p0 g1 l1 p1 g2 l2 p2 b)) b from h)
 have H16:=hdd (aM hp Qe)
 clear hm hn hr hp Qe
 obtain⟨y0,y1,y2,y3,y4,y5,y6,y7,yf⟩:=h0.bs
 clear h hst xh hsz h0
 go_enter Tryd.func22,Tryd.ntmps22
 go_upto_region 1 with (fail)
 rw [<-hW0]
 clear hW0
 go_upto_region 7 with (first|(go_at_call 31;(with_reducible refine iB.out.mono ?_);rintro e w1 ⟨rfl,hb1⟩;have gw:=hdd (tW.out.later hb1 z0);have z1:=gw.out.size;clear y0 y1 y2 y3 y4 y5 y6 y7 yf;obtain⟨y0,y1,y2,y3,y4,y5,y6,y7,yf⟩:=gw.out.bs;obtain⟨q0,q1,q2⟩:=gw.out.lO;obtain⟨r0,r1,r2,r3,r4,r5,r6,r7,rf⟩:=gw.out.zs;clear hb1)|(go_at_call 39;(with_reducible refine(xE.out w1).mono ?_);rintro e w2 ⟨rfl,hb2⟩;have nJ:=hdd (gw.out.later hb2 z1);have z2:=nJ.out.size;clear y0 y1 y2 y3 y4 y5 y6 y7 yf q0 q1 q2 r0 r1 r2 r3 r4 r5 r6 r7 rf;obtain⟨y0,y1,y2,y3,y4,y5,y6,y7,yf⟩:=nJ.out.bs;obtain⟨q0,q1,q2⟩:=nJ.out.lO;obtain⟨r0,r1,r2,r3,r4,r5,r6,r7,rf⟩:=nJ.out.zs;clear hb2)|(go_at_call 17;(with_reducible refine(n7.out w2).mono ?_);rintro e w3 ⟨rfl,hb3⟩))
 obtain⟨W3,hW3⟩:=bQ (w3.alloc (.cells #[.int .i64 1, .int .i64 value, .int .i64 value, .int .i64 value, .int .i64 time, .int .i64 value] 42))
 have wO:=hdd (show ah w2 W3 from by rw [hW3];exact Below.trans' hb3 ((aJ _ _).alloc aI _) hb3.size)
 have vA:=hdd (nJ.out.later wO.out z2)
 have UI:W3.heap.size=w3.heap.size+1:=by rw [hW3];simp
 have z3:w.heap.size+3<=w3.heap.size:=by have:=hb3.size;omega
 have E3:=hdd (show W3.heap[w3.heap.size]?=some (.cells #[.int .i64 1, .int .i64 value, .int .i64 value, .int .i64 value, .int .i64 time, .int .i64 value] 42) by rw [hW3];exact aq _ _ rfl)
 rw [<-hW3]
 clear hW3 hb3 y0 y1 y2 y3 y4 y5 y6 y7 yf q0 q1 q2 r0 r1 r2 r3 r4 r5 r6 r7 rf
 obtain⟨y0,y1,y2,y3,y4,y5,y6,y7,yf⟩:=vA.out.bs
 obtain⟨q0,q1,q2⟩:=vA.out.lO
 obtain⟨r0,r1,r2,r3,r4,r5,r6,r7,rf⟩:=vA.out.zs
 have RI:=hdd (oH (HH.out.below vA.out.below))
 go_upto_region 12 with ((go_at_call 40;(with_reducible refine RI.out.mono ?_);rintro e w4 ⟨hb4,sn,sF,a0,m0,n0,a1,m1,n1,a2,m2,n2,rfl,hown,M,hM1,hM2,XD,MC,ku⟩;have XB:=vA.out.later hb4 af;have I7:=hdd XB;have Aa:=hdd hb4;have Ff:=hdd (aM hown (aM XD (aM MC ku)));have YM:=hb4.size;clear hown XD MC ku hb4 XB y0 y1 y2 y3 y4 y5 y6 y7 yf q0 q1 q2 r0 r1 r2 r3 r4 r5 r6 r7 rf;obtain⟨y0,y1,y2,y3,y4,y5,y6,y7,yf⟩:=I7.out.bs))
 obtain⟨W5,oC⟩:=bQ ((((((((w4.setCell ⟨w.heap.size,0,none⟩ (.slice sn b.names.length sF)).setCell ⟨w.heap.size,1,none⟩ (.slice a0 m0 n0)).setCell ⟨w.heap.size,2,none⟩ (.int .i64 b.t0.root)).setCell ⟨w.heap.size,3,none⟩ (.slice a1 m1 n1)).setCell ⟨w.heap.size,4,none⟩ (.int .i64 b.t1.root)).setCell ⟨w.heap.size,5,none⟩ (.slice a2 m2 n2)).setCell ⟨w.heap.size,6,none⟩ (.int .i64 b.t2.root)).setCell ⟨w.heap.size,7,none⟩ (.int .i64 b.floor))
 have M8:∀q,q≠w.heap.size->W5.heap[q]?=w4.heap[q]?:=fun q hq=>by rw [oC];exact fo hq
 have h5s:W5.heap.size=w4.heap.size:=by rw [oC];simp only [ay]
 have XL:ah w W5:=by
  have:=I7.out.below
  rw [oC]
  exact(((((((this.setCell aI _).setCell aI _).setCell aI _).setCell aI _).setCell aI _).setCell aI _).setCell aI _).setCell aI _
 have K2:=hdd (show kP w #[.slice sn b.names.length sF, .slice a0 m0 n0, .int .i64 b.t0.root, .slice a1 m1 n1, .int .i64 b.t1.root, .slice a2 m2 n2, .int .i64 b.t2.root, .int .i64 b.floor] s time value W5 from
  ⟨XL,by rw [h5s];exact I7.out.size,by rw [oC];exact jd I7.out.box,(M8 _ af).trans I7.out.pt,(M8 _ af).trans I7.out.res⟩)
 have Yj:=hdd (show ∀N,w.heap.size<N->aP N w4 W5 from fun N hN=>⟨af,fun q hq _=>M8 q af⟩)
 have KI:=hdd (show W5.heap[w3.heap.size]?=some (.cells #[.int .i64 1, .int .i64 value, .int .i64 value, .int .i64 value, .int .i64 time, .int .i64 value] 42)from (M8 _ af).trans ((Aa.out.block _ af).trans E3.out))
 have CN:=hdd (mQ (s:=s) (w:=W5) (v:= .slice sn b.names.length sF) (xs:=b.names) (by
  obtain⟨nv,x0,x1,x2,e,hs,-⟩:=Ff.out.2.2.2 W5 (Yj.out _ af)
  have e:=congrArg (fun v=>match v with | .agg a=>a[0]?|_=>none) e
  simp at e
  rw [e];exact hs))
 rw [<-oC]
 clear oC M8 XL y0 y1 y2 y3 y4 y5 y6 y7 yf
 obtain⟨y0,y1,y2,y3,y4,y5,y6,y7,yf⟩:=K2.out.bs
 obtain⟨q0,q1,q2⟩:=K2.out.lO
 obtain⟨hp,Qe⟩:=H16.out
 rw [hp]at CN
 have agD:((b.names.length:Int) == 16)=true:=by simp [Qe]
 clear hp Qe
 go_wp2_with ((go_at_call 41;(with_reducible refine CN.out.mono ?_);rintro e w6 ⟨rfl,jY⟩;have OU:=hdd (K2.out.later jY K2.out.size);obtain⟨Jb,y1',Yy,y3',y4',y5',y6',y7',yf'⟩:=OU.out.bs;obtain⟨r0,r1,r2,r3,r4,r5,r6,r7,rf⟩:=OU.out.zs))
 have di:=OU.out.below
 exact bodyPost_ret (v:= .tuple #[dH, .int .i64 1]) (by simp [results,Tryd.results22,go_sem, *]) rfl ⟨ag,rfl⟩
theorem Uc (h:bN w (.agg (aH sa b.names.length sc g0 l0 p0 g1 l1 p1 g2 l2 p2 b)) b)
  (hst:∀s∈b.names,s.size<=140737488351232) (xh:s.size<=140737488351232) (hsz:bS w) (hF:jt b s time value=0) :
  Calls Tryd.prog 22 #[.agg (aH sa b.names.length sc g0 l0 p0 g1 l1 p1 g2 l2 p2 b), .agg #[.string s, .int .i64 time, .int .i64 value]] w fun x w'=>ah w w'/\Oo b s time value w.heap.size x w':=by
 obtain⟨W0,hW0⟩:=bQ (((w.alloc (.cells (aH sa b.names.length sc g0 l0 p0 g1 l1 p1 g2 l2 p2 b) 35)).alloc (.cells #[.string s, .int .i64 time, .int .i64 value] 59)).alloc (.cells cN 35))
 have h0:=kP.start hW0
 have tW:=hdd h0
 have z0:=h0.size
 have iB:=hdd (fG (h.below h0.below) hst (hsz.below h0.below))
 have xE:=hdd fun w'=>uv s w' xh
 have n7:=hdd fun w'=>FU time value w'
 obtain⟨hm,hn,hro,ht0,ht1,hv0,hv1,hfl,hi0,hi1,hnl⟩:=mU hF
 rw [dW hm]at iB
 rw [hn]at xE
 rw [hro]at n7
 have HF:=hdd hF
 have HH:=hdd (show bN w (.agg (aH sa b.names.length sc g0 l0 p0 g1 l1 p1 g2 l2 p2 b)) b/\bS w from ⟨h,hsz⟩)
 have Zr:=hdd hnl
 clear hm hn hro hF hnl hv0 hv1
 obtain⟨y0,y1,y2,y3,y4,y5,y6,y7,yf⟩:=h0.bs
 clear h hst xh hsz h0
 go_enter Tryd.func22,Tryd.ntmps22
 go_upto_region 1 with (fail)
 rw [<-hW0]
 clear hW0
 go_upto_region 7 with (first|(go_at_call 31;(with_reducible refine iB.out.mono ?_);rintro e w1 ⟨rfl,hb1⟩;have gw:=hdd (tW.out.later hb1 z0);have z1:=gw.out.size;clear y0 y1 y2 y3 y4 y5 y6 y7 yf;obtain⟨y0,y1,y2,y3,y4,y5,y6,y7,yf⟩:=gw.out.bs;obtain⟨q0,q1,q2⟩:=gw.out.lO;obtain⟨r0,r1,r2,r3,r4,r5,r6,r7,rf⟩:=gw.out.zs;clear hb1)|(go_at_call 39;(with_reducible refine(xE.out w1).mono ?_);rintro e w2 ⟨rfl,hb2⟩;have nJ:=hdd (gw.out.later hb2 z1);have z2:=nJ.out.size;clear y0 y1 y2 y3 y4 y5 y6 y7 yf q0 q1 q2 r0 r1 r2 r3 r4 r5 r6 r7 rf;obtain⟨y0,y1,y2,y3,y4,y5,y6,y7,yf⟩:=nJ.out.bs;obtain⟨q0,q1,q2⟩:=nJ.out.lO;obtain⟨r0,r1,r2,r3,r4,r5,r6,r7,rf⟩:=nJ.out.zs;clear hb2)|(go_at_call 17;(with_reducible refine(n7.out w2).mono ?_);rintro e w3 ⟨rfl,hb3⟩))
 obtain⟨W3,hW3⟩:=bQ (w3.alloc (.cells #[.int .i64 1, .int .i64 value, .int .i64 value, .int .i64 value, .int .i64 time, .int .i64 value] 42))
 have wO:=hdd (show ah w2 W3 from by rw [hW3];exact Below.trans' hb3 ((aJ _ _).alloc aI _) hb3.size)
 have vA:=hdd (nJ.out.later wO.out z2)
 have UI:W3.heap.size=w3.heap.size+1:=by rw [hW3];simp
 have z3:w.heap.size+3<=w3.heap.size:=by have:=hb3.size;omega
 have E3:=hdd (show W3.heap[w3.heap.size]?=some (.cells #[.int .i64 1, .int .i64 value, .int .i64 value, .int .i64 value, .int .i64 time, .int .i64 value] 42) by rw [hW3];exact aq _ _ rfl)
 rw [<-hW3]
 clear hW3 hb3 y0 y1 y2 y3 y4 y5 y6 y7 yf q0 q1 q2 r0 r1 r2 r3 r4 r5 r6 r7 rf
 obtain⟨y0,y1,y2,y3,y4,y5,y6,y7,yf⟩:=vA.out.bs
 obtain⟨q0,q1,q2⟩:=vA.out.lO
 obtain⟨r0,r1,r2,r3,r4,r5,r6,r7,rf⟩:=vA.out.zs
 have RI:=hdd (oH (HH.out.1.below vA.out.below))
 go_upto_region 12 with ((go_at_call 40;(with_reducible refine RI.out.mono ?_);rintro e w4 ⟨hb4,sn,sF,a0,m0,n0,a1,m1,n1,a2,m2,n2,rfl,hown,M,hM1,hM2,XD,MC,ku⟩;have XB:=vA.out.later hb4 af;have I7:=hdd XB;have Aa:=hdd hb4;have Ff:=hdd (aM hown (aM XD (aM MC ku)));have YM:=hb4.size;clear hown XD MC ku hb4 XB y0 y1 y2 y3 y4 y5 y6 y7 yf q0 q1 q2 r0 r1 r2 r3 r4 r5 r6 r7 rf;obtain⟨y0,y1,y2,y3,y4,y5,y6,y7,yf⟩:=I7.out.bs))
 obtain⟨W5,oC⟩:=bQ ((((((((w4.setCell ⟨w.heap.size,0,none⟩ (.slice sn b.names.length sF)).setCell ⟨w.heap.size,1,none⟩ (.slice a0 m0 n0)).setCell ⟨w.heap.size,2,none⟩ (.int .i64 b.t0.root)).setCell ⟨w.heap.size,3,none⟩ (.slice a1 m1 n1)).setCell ⟨w.heap.size,4,none⟩ (.int .i64 b.t1.root)).setCell ⟨w.heap.size,5,none⟩ (.slice a2 m2 n2)).setCell ⟨w.heap.size,6,none⟩ (.int .i64 b.t2.root)).setCell ⟨w.heap.size,7,none⟩ (.int .i64 b.floor))
 have M8:∀q,q≠w.heap.size->W5.heap[q]?=w4.heap[q]?:=fun q hq=>by rw [oC];exact fo hq
 have h5s:W5.heap.size=w4.heap.size:=by rw [oC];simp only [ay]
 have XL:ah w W5:=by
  have:=I7.out.below
  rw [oC]
  exact(((((((this.setCell aI _).setCell aI _).setCell aI _).setCell aI _).setCell aI _).setCell aI _).setCell aI _).setCell aI _
 have K2:=hdd (show kP w #[.slice sn b.names.length sF, .slice a0 m0 n0, .int .i64 b.t0.root, .slice a1 m1 n1, .int .i64 b.t1.root, .slice a2 m2 n2, .int .i64 b.t2.root, .int .i64 b.floor] s time value W5 from
  ⟨XL,by rw [h5s];exact I7.out.size,by rw [oC];exact jd I7.out.box,(M8 _ af).trans I7.out.pt,(M8 _ af).trans I7.out.res⟩)
 have Yj:=hdd (show ∀N,w.heap.size<N->aP N w4 W5 from fun N hN=>⟨af,fun q hq _=>M8 q af⟩)
 have KI:=hdd (show W5.heap[w3.heap.size]?=some (.cells #[.int .i64 1, .int .i64 value, .int .i64 value, .int .i64 value, .int .i64 time, .int .i64 value] 42)from (M8 _ af).trans ((Aa.out.block _ af).trans E3.out))
 have CN:=hdd (mQ (s:=s) (w:=W5) (v:= .slice sn b.names.length sF) (xs:=b.names) (by
  obtain⟨nv,x0,x1,x2,e,hs,-⟩:=Ff.out.2.2.2 W5 (Yj.out _ af)
  have e:=congrArg (fun v=>match v with | .agg a=>a[0]?|_=>none) e
  simp at e
  rw [e];exact hs))
 rw [<-oC]
 clear oC M8 XL y0 y1 y2 y3 y4 y5 y6 y7 yf
 obtain⟨y0,y1,y2,y3,y4,y5,y6,y7,yf⟩:=K2.out.bs
 obtain⟨q0,q1,q2⟩:=K2.out.lO
 go_upto_region 13 with ((go_at_call 41;(with_reducible refine CN.out.mono ?_);rintro e w6 ⟨rfl,jY⟩))
 have tQ:=hdd jY
 have OU:=hdd (K2.out.later jY K2.out.size)
 have z6:=jY.size
 clear jY y0 y1 y2 y3 y4 y5 y6 y7 yf q0 q1 q2
 obtain⟨y0,y1,y2,y3,y4,y5,y6,y7,yf⟩:=OU.out.bs
 obtain⟨q0,q1,q2⟩:=OU.out.lO
 have Wz:b.names.length<=16:=(dJ (mU HF.out).1).n16
 have hK6:∀N,w.heap.size<N->aP N w4 w6:=fun N hN=>(Yj.out N hN).trans ⟨tQ.out.size,fun q _ hq=>tQ.out.block q hq⟩
 have HOW:=hdd (show w6.ownsRow (W3.heap.size+2) 9 1 (.slice sn b.names.length sF) b.names.length (b.names.flatMap jg)from oX Ff.out.1 (hK6 _ af) aI)
 have Yi:=hdd hK6
 have Zm:=hdd ((tQ.out.block _ (by have:=KI.out;exact(eW.1 this).1)).trans KI.out)
 clear hK6
 go_upto_if 51 with (fail)
 go_cut [9] (fun i wx=>∃(YF:Option Addr) (YG:Nat),i = .int .i64 (jZ b s)/\Hid (kP w #[.slice YF (bA b s).length YG, .slice a0 m0 n0, .int .i64 b.t0.root, .slice a1 m1 n1, .int .i64 b.t1.root, .slice a2 m2 n2, .int .i64 b.t2.root, .int .i64 b.floor] s time value wx/\aP M w4 wx/\wx.heap[w3.heap.size]?=some (.cells #[.int .i64 1, .int .i64 value, .int .i64 value, .int .i64 value, .int .i64 time, .int .i64 value] 42) /\
  wx.ownsRow (W3.heap.size+2) 9 1 (.slice YF (bA b s).length YG) (bA b s).length ((bA b s).flatMap jg)))
 case first=>
  rcases eX b.names s with ⟨pk,hpk,hp,-⟩|⟨hp,-⟩
  ·have HA:=hdd (show jZ b s=pk/\bA b s=b.names from ⟨by unfold jZ;rw [hp,ai af],by unfold bA;rw [hp,ai af]⟩)
   rw [hp]
   clear hp
   go_wp2_with fail
   go_meet
   rw [HA.out.1,HA.out.2]
   exact⟨sn,sF,rfl,hdd ⟨OU.out,Yi.out _ af,Zm.out,HOW.out⟩⟩
  ·have HA:=hdd (show jZ b s=b.names.length/\bA b s=b.names++[s]from ⟨by unfold jZ;rw [hp,ar af],by unfold bA;rw [hp,ar af]⟩)
   have adp:=Zr.out (by rw [hp];decide)
   rw [hp]
   clear hp
   obtain⟨W7,jz⟩:=bQ (w6.alloc (.cells #[.string s] 9))
   have sI:ah w6 W7:=by rw [jz];exact ag
   have k7:W7.heap[w6.heap.size]?=some (.cells #[.string s] 9):=by rw [jz];exact aq _ _ rfl
   have DU:W7.heap.size=w6.heap.size+1:=by rw [jz];simp
   have Ur:=hdd (gp HOW.out sI)
   have OT:=hdd (OU.out.later sI (by have:=OU.out.size;omega))
   have c7:W7.cell? ⟨w6.heap.size,0,none⟩=some (.string s):=by simp [World.cell?,k7]
   have hne:(b.names.length:Int)≠16:=af
   have hnb:((b.names.length:Int) == 16)=false:=by simp;omega
   have CD:=hdd sI
   have HG8:=hdd fun(w8:World) (Ta:W7.grownBy w8 (Value.slice sn b.names.length sF).ownBlock)=>(by
    have hq:∀q,q<W3.heap.size+2->w8.heap[q]?=W7.heap[q]?:=fun q hq=>Ta.block q (by have:=OT.out.size;omega) (fun e=>by have:=(Ur.out.lt q e.symm).1;omega)
    have h7:=OT.out
    refine⟨⟨Below.grown h7.below Ta h7.below.size (fun j hj=>by have:=(Ur.out.lt j hj).1;omega),by have:=Ta.size;have:=h7.size;omega,(hq _ af).trans h7.box,(hq _ af).trans h7.pt,(hq _ af).trans h7.res⟩,(hq _ af).trans ((CD.out.block _ (by have:=(eW.1 Zm.out).1;omega)).trans Zm.out),((Yi.out M af).trans (aP.of CD.out aI)).trans ⟨Ta.size,fun q hqM hq=>Ta.block q hq fun e=>by have:=Ff.out.2.1 q e.symm;omega⟩⟩ :
    kP w #[.slice sn b.names.length sF, .slice a0 m0 n0, .int .i64 b.t0.root, .slice a1 m1 n1, .int .i64 b.t1.root, .slice a2 m2 n2, .int .i64 b.t2.root, .int .i64 b.floor] s time value w8/\w8.heap[w3.heap.size]?=some (.cells #[.int .i64 1, .int .i64 value, .int .i64 value, .int .i64 value, .int .i64 time, .int .i64 value] 42)/\aP M w4 w8)
   clear sI k7
   go_wp2_with ((at_builtin;refine mY rfl (.tmp 59) (.tmp 62) rfl (W3.heap.size+2) (.slice sn b.names.length sF) b.names rfl (jz▸Ur.out) ⟨w6.heap.size,0,none⟩ s rfl (jz▸c7) af (by simp;omega) ?_;rw [<-jz];intro v8 w8 VJ Ta hv8;obtain⟨s8,c8,rfl⟩:=dI VJ;have WN:=HG8.out _ Ta;obtain⟨ags,-,-,-,-,-,-,-,agm⟩:=WN.1.bs))
   go_meet
   obtain⟨XJ,Y1,hK8⟩:=WN
   rw [HA.out.1,HA.out.2]
   have KS:(b.names++[s]).length=b.names.length+1:=bq
   rw [KS]
   have SN:∀q,q≠w.heap.size->(w8.setCell ⟨w.heap.size,0,none⟩ (.slice s8 (b.names.length+1) c8)).heap[q]?=w8.heap[q]?:=fun q hq=>heap_setCell_other _ ⟨w.heap.size,_,none⟩ q _ hq
   refine⟨s8,c8,rfl,hdd ⟨⟨XJ.below.setCell aI _,by simp only [ay];exact XJ.size,?_,(SN _ af).trans XJ.pt,(SN _ af).trans XJ.res⟩,hK8.set (by show w.heap.size<M;omega) _,(SN _ af).trans Y1,oz VJ af _⟩⟩
   have:=heap_setCell_same (off:=0) (v:= .slice s8 (b.names.length+1) c8) XJ.box
   simpa using this
 case rest=>
  obtain⟨YF,YG,rfl,HC⟩:=hcut
  have ag2:(bA b s).length<=17:=by
   unfold bA
   split
   ·rw [eP,List.length_singleton];omega
   ·omega
  have HST:=hdd (show vv w b s time value w3.heap.size 0 YF YG a0 m0 n0 b.t0.root a1 m1 n1 b.t1.root a2 m2 n2 b.t2.root (fun j=>b.tree j) wc from by
   obtain⟨c1,c2,c3,c4⟩:=HC.out
   have hn:=Ff.out.2.2.1
   exact⟨c1,c3,z3,fun w'' hk=>dN.owned kD (oX c4 hk af) rfl af,fun w'' hk=>⟨_,rfl,(hn w'' (c2.trans (hk.mono af))).1⟩,fun w'' hk=>⟨_,rfl,(hn w'' (c2.trans (hk.mono af))).2.1⟩,fun w'' hk=>⟨_,rfl,(hn w'' (c2.trans (hk.mono af))).2.2⟩,fun j hj=>af,fun j _ _=>rfl⟩)
  obtain⟨l,hl⟩:∃l,bW b=some l:=by obtain⟨l,hl,-⟩:=qa (mU HF.out).1;exact⟨l,hl⟩
  have HL:=hdd hl
  obtain⟨-,s0,s1,s2⟩:=HH.out.2.below HST.out.at'.below
  clear HC Ff HOW Yi Zm tQ OU CN KI Yj K2 Aa I7 RI E3 vA wO nJ gw tW iB xE n7 hl Zr Wz y0 y1 y2 y3 y4 y5 y6 y7 yf q0 q1 q2
  obtain⟨rb,IC⟩:=bw (w3.heap.size)
  rw [IC]at HST ⊢
  clear IC
  obtain⟨I,hI⟩:=bw (jZ b s)
  rw [hI]at hi0 hi1
  rw [hI]
  have HI:=hdd hI
  clear hI
  go_wp2_with fail
  clear s0 s1 s2
  go_loopg [66] 3 (fun g i wr=>∃k,k<=3/\g=3-k/\i = .int .i64 k/\Hid (∃sn sc g0 l0 p0 r0 g1 l1 p1 r1 g2 l2 p2 r2 T,vv w b s time value rb k sn sc g0 l0 p0 r0 g1 l1 p1 r1 g2 l2 p2 r2 T wr))
  case atStart=>exact⟨0,af,rfl,rfl,hdd ⟨_,_,_,_,_,_,_,_,_,_,_,_,_,_,_,HST.out⟩⟩
  case round=>
   clear HST
   obtain⟨k,hk,rfl,rfl,HR⟩:=hrel
   obtain⟨sn,sc,g0,l0,p0,r0,g1,l1,p1,r1,g2,l2,p2,r2,T,hA⟩:=HR.out
   by_cases hlt:k<3
   ·obtain rfl|rfl|rfl:k=0\/k=1\/k=2:=af
    ·have Rh:=hA.rest 0 aI aW
     have Rs:=hdd (show ∀w'',aP (w.heap.size+3) wr w''->bL w'' (.agg #[.slice g0 l0 p0, .int .i64 r0]) (b.tree 0)from fun w'' hk=>by rw [<-Rh];exact hA.t0 w'' hk)
     have UW:=hA.at'.size
     obtain⟨y0,y1,y2,y3,y4,y5,y6,y7,yf⟩:=hA.at'.bs
     obtain⟨q0,q1,q2⟩:=hA.at'.lO
     have zg:=hA.Lv
     have hrl:=(eW.1 zg).1
     have HA:=hdd hA
     have kT:=za
     obtain⟨Q,hQ⟩:=bw (time/1)
     have Vb:0<=Q/\Q<=1048575/\0<=Q/\Q<=time:=by rw [<-hQ];omega
     have ht1:time.tdiv 1=Q:=by rw [AB af];exact hQ
     have ht2:IntKind.i64.wrap Q=Q:=IntWalk.i64_in _ af
     have Ow:IntKind.i64.wrap (Q)=Q:=IntWalk.i64_in _ af
     have U0:IntKind.i64.wrap (I*1048576)=I*1048576:=IntWalk.i64_in _ af
     have qq:IntKind.i64.wrap (I*1048576+Q)=I*1048576+Q:=IntWalk.i64_in _ af
     have HKEY:=hdd (show (dX b s time value 0).key=I*1048576+Q from by show jZ b s*1048576+time/1*1=_;rw [HI.out,hQ];try rw [Int.mul_one])
     have Ry:=hdd fun(W:World) (hb:ah wr W)=>(by
      have h1:=mL (w:=W) (key:=(dX b s time value 0).key) (r:=(dX b s time value 0).is) (Rs.out W (aP.of hb aI)) (fun h0=>by
       rcases (kj HF.out HL.out (k:=0) aW).1 with ⟨-,p2⟩|⟨p1,-⟩
       ·exact p2
       ·have:(0:Int)=1:=h0.symm.trans p1
        omega)
      have h2:(fun x w'=>ah W w'/\∃so n c rt E2,x=Ending.returned (.tuple #[.agg #[.slice so n c, .int .i64 rt], .int .i64 E2])/\fP W.heap.size (b.tree 0) (dX b s time value 0).key (dX b s time value 0).is w' so n c rt E2)=(fun x w'=>ah W w'/\∃so n c rt E2,x=Ending.returned (.tuple #[.agg #[.slice so n c, .int .i64 rt], .int .i64 E2])/\fP W.heap.size (b.tree 0) (dX b s time value 0).key (dX b s time value 0).is w' so n c rt E2):=rfl
      rw [HKEY.out]at h1
      rw [HKEY.out]
      exact h1:Calls Tryd.prog 42 #[.agg #[.slice g0 l0 p0, .int .i64 r0], .int .i64 (I*1048576+Q), .agg #[.int .i64 1, .int .i64 value, .int .i64 value, .int .i64 value, .int .i64 time, .int .i64 value]] W fun x w'=>ah W w'/\∃so n c rt E2,x = .returned (.tuple #[.agg #[.slice so n c, .int .i64 rt], .int .i64 E2])/\fP W.heap.size (b.tree 0) (dX b s time value 0).key (dX b s time value 0).is w' so n c rt E2)
     have HS:=hdd fun(W:World) (hb:ah wr W)=>(by
      have c:∀g o,g<wr.heap.size->W.cell? ⟨g,o,none⟩=wr.cell? ⟨g,o,none⟩:=fun g o h=>hb.cell (p:=⟨g,o,none⟩) h
      have hr:=(hb.block rb hrl).trans zg
      exact⟨(c _ _ af).trans y1,(c _ _ af).trans y2,(c _ _ af).trans q1,by simp [World.cell?,hr],by simp [World.cell?,hr],by simp [World.cell?,hr],by simp [World.cell?,hr],by simp [World.cell?,hr],by simp [World.cell?,hr]⟩ :
      W.cell? ⟨w.heap.size,1,none⟩=some (.slice g0 l0 p0)/\W.cell? ⟨w.heap.size,2,none⟩=some (.int .i64 r0)/\W.cell? ⟨w.heap.size+1,1,none⟩=some (.int .i64 time)/\W.cell? ⟨rb,0,none⟩=some (.int .i64 1)/\W.cell? ⟨rb,1,none⟩=some (.int .i64 value)/\W.cell? ⟨rb,2,none⟩=some (.int .i64 value)/\W.cell? ⟨rb,3,none⟩=some (.int .i64 value)/\W.cell? ⟨rb,4,none⟩=some (.int .i64 time)/\W.cell? ⟨rb,5,none⟩=some (.int .i64 value))
     clear hA Rh zg hQ HR HKEY Rs hi0 hi1 ht0 hfl
     go_upto_region 21 with (fail)
     clear y0 y1 y2 y3 y4 y5 y6 y7 yf q0 q1 q2 kT
     go_cut [12,13] (fun p c wx=>∃(tb:Nat) (so:Option Addr) (n c6:Nat) (rt E2:Int),p = .pointer (some ⟨tb,0,none⟩)/\c = .int .i64 E2/\Hid (ah wr wx/\wr.heap.size<=tb/\wx.heap[tb]?=some (.cells #[.slice so n c6, .int .i64 rt] 32)/\fP wr.heap.size (b.tree 0) (dX b s time value 0).key (dX b s time value 0).is wx so n c6 rt E2))
     case first=>
      have T0:ah wr wr.drew:=(aJ _ _).drew
      refine fJ (mF.of [(0,1),(1,1),(2,1),(3,0),(4,1),(5,1),(6,1),(7,0),(8,1),(9,1),(10,1),(11,1),(12,1),(13,0)] (.fork 14 18 (mF.of [(15,1),(16,1),(17,1),(18,2),(19,3),(20,1)] .nil) (mF.of [(14,2),(15,1),(16,1),(17,1),(19,3),(20,1)] .nil))) 19
       (fun W=>W.cell? ⟨w.heap.size,1,none⟩=some (.slice g0 l0 p0)/\W.cell? ⟨w.heap.size,2,none⟩=some (.int .i64 r0)/\W.cell? ⟨w.heap.size+1,1,none⟩=some (.int .i64 time)/\W.cell? ⟨rb,0,none⟩=some (.int .i64 1)/\W.cell? ⟨rb,1,none⟩=some (.int .i64 value)/\W.cell? ⟨rb,2,none⟩=some (.int .i64 value)/\W.cell? ⟨rb,3,none⟩=some (.int .i64 value)/\W.cell? ⟨rb,4,none⟩=some (.int .i64 time)/\W.cell? ⟨rb,5,none⟩=some (.int .i64 value)) cy cy (HS.out _ T0) ?_
      simp only [mF.of]
      (repeat first|refine bP ?_|refine bO ?_)
      refine iz rfl rfl rfl rfl (fun K hK=>?_) (fun K hK=>?_)
      ·go_simp
       (with_reducible refine(Ry.out _ T0).mono ?_);rintro x w6 ⟨jY,so,n6,c6,rt,E2,rfl,ID⟩
       have B6:ah wr w6:=Below.trans' T0 jY aI
       go_simp
       refine hK _ _ (HS.out _ B6) ?_
       clear hK K T0
       (repeat first|refine bP ?_|refine bO ?_)
       refine bz rfl rfl (fun K hK=>?_)
       go_simp
       obtain⟨W7,jz⟩:=bQ (w6.alloc (.cells #[.slice none 0 0, .int .i64 0] 32))
       have sI:ah w6 W7:=by rw [jz];exact ag
       have k7:W7.heap[w6.heap.size]?=some (.cells #[.slice none 0 0, .int .i64 0] 32):=by rw [jz];exact aq _ _ rfl
       have B7:ah wr W7:=Below.trans' B6 sI B6.size
       rw [<-jz]
       refine hK _ _ (HS.out _ B7) ?_
       clear hK K jz
       have d0:W7.cell? ⟨w6.heap.size,0,none⟩=some (.slice none 0 0):=by simp [World.cell?,k7]
       have d1:W7.cell? ⟨w6.heap.size,1,none⟩=some (.int .i64 0):=by simp [World.cell?,k7]
       have df:∀o,W7.frozen? ⟨w6.heap.size,o,none⟩=false:=fun o=>by simp [World.frozen?,k7]
       (repeat first|refine bP ?_|refine bO ?_)
       refine dK rfl rfl (fun K hK=>?_)
       go_simp
       refine hK _ _ ?_
       clear hK K
       (repeat first|refine bP ?_|refine bO ?_)
       refine eY ?_
       go_wp2_with fail
       go_meet
       have uC:=B6.size
       have e2:((W7.setCell ⟨w6.heap.size,0,none⟩ (.slice so n6 c6)).setCell ⟨w6.heap.size,1,none⟩ (.int .i64 rt)).heap[w6.heap.size]?=some (.cells #[.slice so n6 c6, .int .i64 rt] 32):=by
        have:=heap_setCell_same (off:=1) (v:= .int .i64 rt) (heap_setCell_same (off:=0) (v:= .slice so n6 c6) k7)
        simpa using this
       have KX:aP wr.heap.size w6 ((W7.setCell ⟨w6.heap.size,0,none⟩ (.slice so n6 c6)).setCell ⟨w6.heap.size,1,none⟩ (.int .i64 rt)):=⟨by simp only [ay];exact sI.size,fun q _ hq=>((heap_setCell_other _ ⟨w6.heap.size,_,none⟩ q _ (by show q≠w6.heap.size;omega)).trans (heap_setCell_other _ ⟨w6.heap.size,_,none⟩ q _ (by show q≠w6.heap.size;omega))).trans (sI.block q hq)⟩
       exact⟨w6.heap.size,so,n6,c6,rt,E2,rfl,rfl,hdd ⟨(B7.setCell uC _).setCell uC _,uC,e2,ID.keep (B':=wr.heap.size) KX aI⟩⟩
      ·go_simp
       obtain⟨W7,jz⟩:=bQ ((wr.alloc (.cells #[.slice none 0 0, .int .i64 0] 32)).drew)
       have B7:ah wr W7:=by rw [jz];exact ag
       have k7:W7.heap[wr.heap.size]?=some (.cells #[.slice none 0 0, .int .i64 0] 32):=by rw [jz];exact aq _ _ rfl
       have DU:W7.heap.size=wr.heap.size+1:=by rw [jz];simp
       rw [<-jz]
       refine hK _ _ (HS.out _ B7) ?_
       clear hK K jz T0
       (repeat first|refine bP ?_|refine bO ?_)
       refine bz rfl rfl (fun K hK=>?_)
       go_simp
       (with_reducible refine(Ry.out _ B7).mono ?_);rintro x w6 ⟨jY,so,n6,c6,rt,E2,rfl,ID⟩
       have B6:ah wr w6:=Below.trans' B7 jY B7.size
       have k6:=(jY.block wr.heap.size af).trans k7
       go_simp
       refine hK _ _ (HS.out _ B6) ?_
       clear hK K
       have d0:w6.cell? ⟨wr.heap.size,0,none⟩=some (.slice none 0 0):=by simp [World.cell?,k6]
       have d1:w6.cell? ⟨wr.heap.size,1,none⟩=some (.int .i64 0):=by simp [World.cell?,k6]
       have df:∀o,w6.frozen? ⟨wr.heap.size,o,none⟩=false:=fun o=>by simp [World.frozen?,k6]
       have uC:=jY.size
       clear k7
       (repeat first|refine bP ?_|refine bO ?_)
       refine dK rfl rfl (fun K hK=>?_)
       go_simp
       refine hK _ _ ?_
       clear hK K
       (repeat first|refine bP ?_|refine bO ?_)
       refine eY ?_
       go_wp2_with fail
       go_meet
       have e2:((w6.setCell ⟨wr.heap.size,0,none⟩ (.slice so n6 c6)).setCell ⟨wr.heap.size,1,none⟩ (.int .i64 rt)).heap[wr.heap.size]?=some (.cells #[.slice so n6 c6, .int .i64 rt] 32):=by
        have:=heap_setCell_same (off:=1) (v:= .int .i64 rt) (heap_setCell_same (off:=0) (v:= .slice so n6 c6) k6)
        simpa using this
       have KX:aP W7.heap.size w6 ((w6.setCell ⟨wr.heap.size,0,none⟩ (.slice so n6 c6)).setCell ⟨wr.heap.size,1,none⟩ (.int .i64 rt)):=((aP.refl _ _).set (by show wr.heap.size<_;omega) _).set (by show wr.heap.size<_;omega) _
       exact⟨wr.heap.size,so,n6,c6,rt,E2,rfl,rfl,hdd ⟨(B6.setCell aI _).setCell aI _,kK _,e2,ID.keep (B':=wr.heap.size) KX af⟩⟩
     case rest=>
      obtain⟨tb,so,n,c6,rt,E2,rfl,rfl,HX⟩:=hcut
      have H7:=hdd (HA.out.later HX.out.1)
      obtain⟨y0,y1,y2,y3,y4,y5,y6,y7,yf⟩:=H7.out.at'.bs
      obtain⟨RY,RX,RV,RU,RT,RS,RQ,RP,RO⟩:=H7.out.at'.zs
      obtain⟨q0,q1⟩:wc.cell? ⟨tb,0,none⟩=some (.slice so n c6)/\wc.cell? ⟨tb,1,none⟩=some (.int .i64 rt):=by
       have:=HX.out.2.2.1
       simp [World.cell?,this]
      by_cases h0:E2=0
      ·subst h0
       go_wp2_with fail
       go_roundg (3-(0+1))
       case measure=>omega
       case rel=>
        obtain⟨t',m1,m2,m3,m4,m5⟩:=Hm HF.out HL.out (k:=0) aW HX.out.2.2.2
        exact⟨0+1,af,rfl,by go_num,hdd ⟨_,_,_,_,_,_,_,_,_,_,_,_,_,_,_,HA.out.step0 HX.out.1 m1 m2 m3 m4 m5⟩⟩
      ·have d2:(E2 != 0)=true:=by simp [h0]
       obtain⟨WU,Q9⟩:=Cv HF.out HL.out (k:=0) aW HX.out.2.2.2 h0
       have HE:=hdd Q9
       subst WU
       clear Q9 h0
       go_wp2_with fail
       have di:=H7.out.at'.below
       exact bodyPost_ret (v:= .tuple #[dH, .int .i64 1]) (by simp [results,Tryd.results22,go_sem, *]) rfl ⟨ag, .inl ⟨1,rfl,rfl,HE.out⟩⟩
    ·have Rh:=hA.rest 1 aI aW
     have Rs:=hdd (show ∀w'',aP (w.heap.size+3) wr w''->bL w'' (.agg #[.slice g1 l1 p1, .int .i64 r1]) (b.tree 1)from fun w'' hk=>by rw [<-Rh];exact hA.t1 w'' hk)
     have UW:=hA.at'.size
     obtain⟨y0,y1,y2,y3,y4,y5,y6,y7,yf⟩:=hA.at'.bs
     obtain⟨q0,q1,q2⟩:=hA.at'.lO
     have zg:=hA.Lv
     have hrl:=(eW.1 zg).1
     have HA:=hdd hA
     have kT:=yZ
     obtain⟨Q,hQ⟩:=bw (time/60)
     have Vb:0<=Q/\Q<=1048575/\0<=Q*60/\Q*60<=time:=by rw [<-hQ];omega
     have ht1:time.tdiv 60=Q:=by rw [AB af];exact hQ
     have ht2:IntKind.i64.wrap Q=Q:=IntWalk.i64_in _ af
     have Ow:IntKind.i64.wrap (Q*60)=Q*60:=IntWalk.i64_in _ af
     have U0:IntKind.i64.wrap (I*1048576)=I*1048576:=IntWalk.i64_in _ af
     have qq:IntKind.i64.wrap (I*1048576+Q*60)=I*1048576+Q*60:=IntWalk.i64_in _ af
     have HKEY:=hdd (show (dX b s time value 1).key=I*1048576+Q*60 from by show jZ b s*1048576+time/60*60=_;rw [HI.out,hQ];try rw [Int.mul_one])
     have Ry:=hdd fun(W:World) (hb:ah wr W)=>(by
      have h1:=mL (w:=W) (key:=(dX b s time value 1).key) (r:=(dX b s time value 1).is) (Rs.out W (aP.of hb aI)) (fun h0=>by
       rcases (kj HF.out HL.out (k:=1) aW).1 with ⟨-,p2⟩|⟨p1,-⟩
       ·exact p2
       ·have:(0:Int)=1:=h0.symm.trans p1
        omega)
      have h2:(fun x w'=>ah W w'/\∃so n c rt E2,x=Ending.returned (.tuple #[.agg #[.slice so n c, .int .i64 rt], .int .i64 E2])/\fP W.heap.size (b.tree 1) (dX b s time value 1).key (dX b s time value 1).is w' so n c rt E2)=(fun x w'=>ah W w'/\∃so n c rt E2,x=Ending.returned (.tuple #[.agg #[.slice so n c, .int .i64 rt], .int .i64 E2])/\fP W.heap.size (b.tree 1) (dX b s time value 1).key (dX b s time value 1).is w' so n c rt E2):=rfl
      rw [HKEY.out]at h1
      rw [HKEY.out]
      exact h1:Calls Tryd.prog 42 #[.agg #[.slice g1 l1 p1, .int .i64 r1], .int .i64 (I*1048576+Q*60), .agg #[.int .i64 1, .int .i64 value, .int .i64 value, .int .i64 value, .int .i64 time, .int .i64 value]] W fun x w'=>ah W w'/\∃so n c rt E2,x = .returned (.tuple #[.agg #[.slice so n c, .int .i64 rt], .int .i64 E2])/\fP W.heap.size (b.tree 1) (dX b s time value 1).key (dX b s time value 1).is w' so n c rt E2)
     have HS:=hdd fun(W:World) (hb:ah wr W)=>(by
      have c:∀g o,g<wr.heap.size->W.cell? ⟨g,o,none⟩=wr.cell? ⟨g,o,none⟩:=fun g o h=>hb.cell (p:=⟨g,o,none⟩) h
      have hr:=(hb.block rb hrl).trans zg
      exact⟨(c _ _ af).trans y3,(c _ _ af).trans y4,(c _ _ af).trans q1,by simp [World.cell?,hr],by simp [World.cell?,hr],by simp [World.cell?,hr],by simp [World.cell?,hr],by simp [World.cell?,hr],by simp [World.cell?,hr]⟩ :
      W.cell? ⟨w.heap.size,3,none⟩=some (.slice g1 l1 p1)/\W.cell? ⟨w.heap.size,4,none⟩=some (.int .i64 r1)/\W.cell? ⟨w.heap.size+1,1,none⟩=some (.int .i64 time)/\W.cell? ⟨rb,0,none⟩=some (.int .i64 1)/\W.cell? ⟨rb,1,none⟩=some (.int .i64 value)/\W.cell? ⟨rb,2,none⟩=some (.int .i64 value)/\W.cell? ⟨rb,3,none⟩=some (.int .i64 value)/\W.cell? ⟨rb,4,none⟩=some (.int .i64 time)/\W.cell? ⟨rb,5,none⟩=some (.int .i64 value))
     clear hA Rh zg hQ HR HKEY Rs hi0 hi1 ht0 hfl
     go_upto_region 21 with (fail)
     clear y0 y1 y2 y3 y4 y5 y6 y7 yf q0 q1 q2 kT
     go_cut [12,13] (fun p c wx=>∃(tb:Nat) (so:Option Addr) (n c6:Nat) (rt E2:Int),p = .pointer (some ⟨tb,0,none⟩)/\c = .int .i64 E2/\Hid (ah wr wx/\wr.heap.size<=tb/\wx.heap[tb]?=some (.cells #[.slice so n c6, .int .i64 rt] 32)/\fP wr.heap.size (b.tree 1) (dX b s time value 1).key (dX b s time value 1).is wx so n c6 rt E2))
     case first=>
      have T0:ah wr wr.drew:=(aJ _ _).drew
      refine fJ (mF.of [(0,1),(1,1),(2,1),(3,0),(4,1),(5,1),(6,1),(7,0),(8,1),(9,1),(10,1),(11,1),(12,1),(13,0)] (.fork 14 18 (mF.of [(15,1),(16,1),(17,1),(18,2),(19,3),(20,1)] .nil) (mF.of [(14,2),(15,1),(16,1),(17,1),(19,3),(20,1)] .nil))) 19
       (fun W=>W.cell? ⟨w.heap.size,3,none⟩=some (.slice g1 l1 p1)/\W.cell? ⟨w.heap.size,4,none⟩=some (.int .i64 r1)/\W.cell? ⟨w.heap.size+1,1,none⟩=some (.int .i64 time)/\W.cell? ⟨rb,0,none⟩=some (.int .i64 1)/\W.cell? ⟨rb,1,none⟩=some (.int .i64 value)/\W.cell? ⟨rb,2,none⟩=some (.int .i64 value)/\W.cell? ⟨rb,3,none⟩=some (.int .i64 value)/\W.cell? ⟨rb,4,none⟩=some (.int .i64 time)/\W.cell? ⟨rb,5,none⟩=some (.int .i64 value)) cy cy (HS.out _ T0) ?_
      simp only [mF.of]
      (repeat first|refine bP ?_|refine bO ?_)
      refine iz rfl rfl rfl rfl (fun K hK=>?_) (fun K hK=>?_)
      ·go_simp
       (with_reducible refine(Ry.out _ T0).mono ?_);rintro x w6 ⟨jY,so,n6,c6,rt,E2,rfl,ID⟩
       have B6:ah wr w6:=Below.trans' T0 jY aI
       go_simp
       refine hK _ _ (HS.out _ B6) ?_
       clear hK K T0
       (repeat first|refine bP ?_|refine bO ?_)
       refine bz rfl rfl (fun K hK=>?_)
       go_simp
       obtain⟨W7,jz⟩:=bQ (w6.alloc (.cells #[.slice none 0 0, .int .i64 0] 32))
       have sI:ah w6 W7:=by rw [jz];exact ag
       have k7:W7.heap[w6.heap.size]?=some (.cells #[.slice none 0 0, .int .i64 0] 32):=by rw [jz];exact aq _ _ rfl
       have B7:ah wr W7:=Below.trans' B6 sI B6.size
       rw [<-jz]
       refine hK _ _ (HS.out _ B7) ?_
       clear hK K jz
       have d0:W7.cell? ⟨w6.heap.size,0,none⟩=some (.slice none 0 0):=by simp [World.cell?,k7]
       have d1:W7.cell? ⟨w6.heap.size,1,none⟩=some (.int .i64 0):=by simp [World.cell?,k7]
       have df:∀o,W7.frozen? ⟨w6.heap.size,o,none⟩=false:=fun o=>by simp [World.frozen?,k7]
       (repeat first|refine bP ?_|refine bO ?_)
       refine dK rfl rfl (fun K hK=>?_)
       go_simp
       refine hK _ _ ?_
       clear hK K
       (repeat first|refine bP ?_|refine bO ?_)
       refine eY ?_
       go_wp2_with fail
       go_meet
       have uC:=B6.size
       have e2:((W7.setCell ⟨w6.heap.size,0,none⟩ (.slice so n6 c6)).setCell ⟨w6.heap.size,1,none⟩ (.int .i64 rt)).heap[w6.heap.size]?=some (.cells #[.slice so n6 c6, .int .i64 rt] 32):=by
        have:=heap_setCell_same (off:=1) (v:= .int .i64 rt) (heap_setCell_same (off:=0) (v:= .slice so n6 c6) k7)
        simpa using this
       have KX:aP wr.heap.size w6 ((W7.setCell ⟨w6.heap.size,0,none⟩ (.slice so n6 c6)).setCell ⟨w6.heap.size,1,none⟩ (.int .i64 rt)):=⟨by simp only [ay];exact sI.size,fun q _ hq=>((heap_setCell_other _ ⟨w6.heap.size,_,none⟩ q _ (by show q≠w6.heap.size;omega)).trans (heap_setCell_other _ ⟨w6.heap.size,_,none⟩ q _ (by show q≠w6.heap.size;omega))).trans (sI.block q hq)⟩
       exact⟨w6.heap.size,so,n6,c6,rt,E2,rfl,rfl,hdd ⟨(B7.setCell uC _).setCell uC _,uC,e2,ID.keep (B':=wr.heap.size) KX aI⟩⟩
      ·go_simp
       obtain⟨W7,jz⟩:=bQ ((wr.alloc (.cells #[.slice none 0 0, .int .i64 0] 32)).drew)
       have B7:ah wr W7:=by rw [jz];exact ag
       have k7:W7.heap[wr.heap.size]?=some (.cells #[.slice none 0 0, .int .i64 0] 32):=by rw [jz];exact aq _ _ rfl
       have DU:W7.heap.size=wr.heap.size+1:=by rw [jz];simp
       rw [<-jz]
       refine hK _ _ (HS.out _ B7) ?_
       clear hK K jz T0
       (repeat first|refine bP ?_|refine bO ?_)
       refine bz rfl rfl (fun K hK=>?_)
       go_simp
       (with_reducible refine(Ry.out _ B7).mono ?_);rintro x w6 ⟨jY,so,n6,c6,rt,E2,rfl,ID⟩
       have B6:ah wr w6:=Below.trans' B7 jY B7.size
       have k6:=(jY.block wr.heap.size af).trans k7
       go_simp
       refine hK _ _ (HS.out _ B6) ?_
       clear hK K
       have d0:w6.cell? ⟨wr.heap.size,0,none⟩=some (.slice none 0 0):=by simp [World.cell?,k6]
       have d1:w6.cell? ⟨wr.heap.size,1,none⟩=some (.int .i64 0):=by simp [World.cell?,k6]
       have df:∀o,w6.frozen? ⟨wr.heap.size,o,none⟩=false:=fun o=>by simp [World.frozen?,k6]
       have uC:=jY.size
       clear k7
       (repeat first|refine bP ?_|refine bO ?_)
       refine dK rfl rfl (fun K hK=>?_)
       go_simp
       refine hK _ _ ?_
       clear hK K
       (repeat first|refine bP ?_|refine bO ?_)
       refine eY ?_
       go_wp2_with fail
       go_meet
       have e2:((w6.setCell ⟨wr.heap.size,0,none⟩ (.slice so n6 c6)).setCell ⟨wr.heap.size,1,none⟩ (.int .i64 rt)).heap[wr.heap.size]?=some (.cells #[.slice so n6 c6, .int .i64 rt] 32):=by
        have:=heap_setCell_same (off:=1) (v:= .int .i64 rt) (heap_setCell_same (off:=0) (v:= .slice so n6 c6) k6)
        simpa using this
       have KX:aP W7.heap.size w6 ((w6.setCell ⟨wr.heap.size,0,none⟩ (.slice so n6 c6)).setCell ⟨wr.heap.size,1,none⟩ (.int .i64 rt)):=((aP.refl _ _).set (by show wr.heap.size<_;omega) _).set (by show wr.heap.size<_;omega) _
       exact⟨wr.heap.size,so,n6,c6,rt,E2,rfl,rfl,hdd ⟨(B6.setCell aI _).setCell aI _,kK _,e2,ID.keep (B':=wr.heap.size) KX af⟩⟩
     case rest=>
      obtain⟨tb,so,n,c6,rt,E2,rfl,rfl,HX⟩:=hcut
      have H7:=hdd (HA.out.later HX.out.1)
      obtain⟨y0,y1,y2,y3,y4,y5,y6,y7,yf⟩:=H7.out.at'.bs
      obtain⟨RY,RX,RV,RU,RT,RS,RQ,RP,RO⟩:=H7.out.at'.zs
      obtain⟨q0,q1⟩:wc.cell? ⟨tb,0,none⟩=some (.slice so n c6)/\wc.cell? ⟨tb,1,none⟩=some (.int .i64 rt):=by
       have:=HX.out.2.2.1
       simp [World.cell?,this]
      by_cases h0:E2=0
      ·subst h0
       go_wp2_with fail
       go_roundg (3-(1+1))
       case measure=>omega
       case rel=>
        obtain⟨t',m1,m2,m3,m4,m5⟩:=Hm HF.out HL.out (k:=1) aW HX.out.2.2.2
        exact⟨1+1,af,rfl,by go_num,hdd ⟨_,_,_,_,_,_,_,_,_,_,_,_,_,_,_,HA.out.CU HX.out.1 m1 m2 m3 m4 m5⟩⟩
      ·have d2:(E2 != 0)=true:=by simp [h0]
       obtain⟨WU,Q9⟩:=Cv HF.out HL.out (k:=1) aW HX.out.2.2.2 h0
       have HE:=hdd Q9
       subst WU
       clear Q9 h0
       go_wp2_with fail
       have di:=H7.out.at'.below
       exact bodyPost_ret (v:= .tuple #[dH, .int .i64 1]) (by simp [results,Tryd.results22,go_sem, *]) rfl ⟨ag, .inl ⟨1,rfl,rfl,HE.out⟩⟩
    ·have Rh:=hA.rest 2 aI aW
     have Rs:=hdd (show ∀w'',aP (w.heap.size+3) wr w''->bL w'' (.agg #[.slice g2 l2 p2, .int .i64 r2]) (b.tree 2)from fun w'' hk=>by rw [<-Rh];exact hA.t2 w'' hk)
     have UW:=hA.at'.size
     obtain⟨y0,y1,y2,y3,y4,y5,y6,y7,yf⟩:=hA.at'.bs
     obtain⟨q0,q1,q2⟩:=hA.at'.lO
     have zg:=hA.Lv
     have hrl:=(eW.1 zg).1
     have HA:=hdd hA
     have kT:=yY
     obtain⟨Q,hQ⟩:=bw (time/3600)
     have Vb:0<=Q/\Q<=1048575/\0<=Q*3600/\Q*3600<=time:=by rw [<-hQ];omega
     have ht1:time.tdiv 3600=Q:=by rw [AB af];exact hQ
     have ht2:IntKind.i64.wrap Q=Q:=IntWalk.i64_in _ af
     have Ow:IntKind.i64.wrap (Q*3600)=Q*3600:=IntWalk.i64_in _ af
     have U0:IntKind.i64.wrap (I*1048576)=I*1048576:=IntWalk.i64_in _ af
     have qq:IntKind.i64.wrap (I*1048576+Q*3600)=I*1048576+Q*3600:=IntWalk.i64_in _ af
     have HKEY:=hdd (show (dX b s time value 2).key=I*1048576+Q*3600 from by show jZ b s*1048576+time/3600*3600=_;rw [HI.out,hQ];try rw [Int.mul_one])
     have Ry:=hdd fun(W:World) (hb:ah wr W)=>(by
      have h1:=mL (w:=W) (key:=(dX b s time value 2).key) (r:=(dX b s time value 2).is) (Rs.out W (aP.of hb aI)) (fun h0=>by
       rcases (kj HF.out HL.out (k:=2) aW).1 with ⟨-,p2⟩|⟨p1,-⟩
       ·exact p2
       ·have:(0:Int)=1:=h0.symm.trans p1
        omega)
      have h2:(fun x w'=>ah W w'/\∃so n c rt E2,x=Ending.returned (.tuple #[.agg #[.slice so n c, .int .i64 rt], .int .i64 E2])/\fP W.heap.size (b.tree 2) (dX b s time value 2).key (dX b s time value 2).is w' so n c rt E2)=(fun x w'=>ah W w'/\∃so n c rt E2,x=Ending.returned (.tuple #[.agg #[.slice so n c, .int .i64 rt], .int .i64 E2])/\fP W.heap.size (b.tree 2) (dX b s time value 2).key (dX b s time value 2).is w' so n c rt E2):=rfl
      rw [HKEY.out]at h1
      rw [HKEY.out]
      exact h1:Calls Tryd.prog 42 #[.agg #[.slice g2 l2 p2, .int .i64 r2], .int .i64 (I*1048576+Q*3600), .agg #[.int .i64 1, .int .i64 value, .int .i64 value, .int .i64 value, .int .i64 time, .int .i64 value]] W fun x w'=>ah W w'/\∃so n c rt E2,x = .returned (.tuple #[.agg #[.slice so n c, .int .i64 rt], .int .i64 E2])/\fP W.heap.size (b.tree 2) (dX b s time value 2).key (dX b s time value 2).is w' so n c rt E2)
     have HS:=hdd fun(W:World) (hb:ah wr W)=>(by
      have c:∀g o,g<wr.heap.size->W.cell? ⟨g,o,none⟩=wr.cell? ⟨g,o,none⟩:=fun g o h=>hb.cell (p:=⟨g,o,none⟩) h
      have hr:=(hb.block rb hrl).trans zg
      exact⟨(c _ _ af).trans y5,(c _ _ af).trans y6,(c _ _ af).trans q1,by simp [World.cell?,hr],by simp [World.cell?,hr],by simp [World.cell?,hr],by simp [World.cell?,hr],by simp [World.cell?,hr],by simp [World.cell?,hr]⟩ :
      W.cell? ⟨w.heap.size,5,none⟩=some (.slice g2 l2 p2)/\W.cell? ⟨w.heap.size,6,none⟩=some (.int .i64 r2)/\W.cell? ⟨w.heap.size+1,1,none⟩=some (.int .i64 time)/\W.cell? ⟨rb,0,none⟩=some (.int .i64 1)/\W.cell? ⟨rb,1,none⟩=some (.int .i64 value)/\W.cell? ⟨rb,2,none⟩=some (.int .i64 value)/\W.cell? ⟨rb,3,none⟩=some (.int .i64 value)/\W.cell? ⟨rb,4,none⟩=some (.int .i64 time)/\W.cell? ⟨rb,5,none⟩=some (.int .i64 value))
     clear hA Rh zg hQ HR HKEY Rs hi0 hi1 ht0 hfl
     go_upto_region 21 with (fail)
     clear y0 y1 y2 y3 y4 y5 y6 y7 yf q0 q1 q2 kT
     go_cut [12,13] (fun p c wx=>∃(tb:Nat) (so:Option Addr) (n c6:Nat) (rt E2:Int),p = .pointer (some ⟨tb,0,none⟩)/\c = .int .i64 E2/\Hid (ah wr wx/\wr.heap.size<=tb/\wx.heap[tb]?=some (.cells #[.slice so n c6, .int .i64 rt] 32)/\fP wr.heap.size (b.tree 2) (dX b s time value 2).key (dX b s time value 2).is wx so n c6 rt E2))
     case first=>
      have T0:ah wr wr.drew:=(aJ _ _).drew
      refine fJ (mF.of [(0,1),(1,1),(2,1),(3,0),(4,1),(5,1),(6,1),(7,0),(8,1),(9,1),(10,1),(11,1),(12,1),(13,0)] (.fork 14 18 (mF.of [(15,1),(16,1),(17,1),(18,2),(19,3),(20,1)] .nil) (mF.of [(14,2),(15,1),(16,1),(17,1),(19,3),(20,1)] .nil))) 19
       (fun W=>W.cell? ⟨w.heap.size,5,none⟩=some (.slice g2 l2 p2)/\W.cell? ⟨w.heap.size,6,none⟩=some (.int .i64 r2)/\W.cell? ⟨w.heap.size+1,1,none⟩=some (.int .i64 time)/\W.cell? ⟨rb,0,none⟩=some (.int .i64 1)/\W.cell? ⟨rb,1,none⟩=some (.int .i64 value)/\W.cell? ⟨rb,2,none⟩=some (.int .i64 value)/\W.cell? ⟨rb,3,none⟩=some (.int .i64 value)/\W.cell? ⟨rb,4,none⟩=some (.int .i64 time)/\W.cell? ⟨rb,5,none⟩=some (.int .i64 value)) cy cy (HS.out _ T0) ?_
      simp only [mF.of]
      (repeat first|refine bP ?_|refine bO ?_)
      refine iz rfl rfl rfl rfl (fun K hK=>?_) (fun K hK=>?_)
      ·go_simp
       (with_reducible refine(Ry.out _ T0).mono ?_);rintro x w6 ⟨jY,so,n6,c6,rt,E2,rfl,ID⟩
       have B6:ah wr w6:=Below.trans' T0 jY aI
       go_simp
       refine hK _ _ (HS.out _ B6) ?_
       clear hK K T0
       (repeat first|refine bP ?_|refine bO ?_)
       refine bz rfl rfl (fun K hK=>?_)
       go_simp
       obtain⟨W7,jz⟩:=bQ (w6.alloc (.cells #[.slice none 0 0, .int .i64 0] 32))
       have sI:ah w6 W7:=by rw [jz];exact ag
       have k7:W7.heap[w6.heap.size]?=some (.cells #[.slice none 0 0, .int .i64 0] 32):=by rw [jz];exact aq _ _ rfl
       have B7:ah wr W7:=Below.trans' B6 sI B6.size
       rw [<-jz]
       refine hK _ _ (HS.out _ B7) ?_
       clear hK K jz
       have d0:W7.cell? ⟨w6.heap.size,0,none⟩=some (.slice none 0 0):=by simp [World.cell?,k7]
       have d1:W7.cell? ⟨w6.heap.size,1,none⟩=some (.int .i64 0):=by simp [World.cell?,k7]
       have df:∀o,W7.frozen? ⟨w6.heap.size,o,none⟩=false:=fun o=>by simp [World.frozen?,k7]
       (repeat first|refine bP ?_|refine bO ?_)
       refine dK rfl rfl (fun K hK=>?_)
       go_simp
       refine hK _ _ ?_
       clear hK K
       (repeat first|refine bP ?_|refine bO ?_)
       refine eY ?_
       go_wp2_with fail
       go_meet
       have uC:=B6.size
       have e2:((W7.setCell ⟨w6.heap.size,0,none⟩ (.slice so n6 c6)).setCell ⟨w6.heap.size,1,none⟩ (.int .i64 rt)).heap[w6.heap.size]?=some (.cells #[.slice so n6 c6, .int .i64 rt] 32):=by
        have:=heap_setCell_same (off:=1) (v:= .int .i64 rt) (heap_setCell_same (off:=0) (v:= .slice so n6 c6) k7)
        simpa using this
       have KX:aP wr.heap.size w6 ((W7.setCell ⟨w6.heap.size,0,none⟩ (.slice so n6 c6)).setCell ⟨w6.heap.size,1,none⟩ (.int .i64 rt)):=⟨by simp only [ay];exact sI.size,fun q _ hq=>((heap_setCell_other _ ⟨w6.heap.size,_,none⟩ q _ (by show q≠w6.heap.size;omega)).trans (heap_setCell_other _ ⟨w6.heap.size,_,none⟩ q _ (by show q≠w6.heap.size;omega))).trans (sI.block q hq)⟩
       exact⟨w6.heap.size,so,n6,c6,rt,E2,rfl,rfl,hdd ⟨(B7.setCell uC _).setCell uC _,uC,e2,ID.keep (B':=wr.heap.size) KX aI⟩⟩
      ·go_simp
       obtain⟨W7,jz⟩:=bQ ((wr.alloc (.cells #[.slice none 0 0, .int .i64 0] 32)).drew)
       have B7:ah wr W7:=by rw [jz];exact ag
       have k7:W7.heap[wr.heap.size]?=some (.cells #[.slice none 0 0, .int .i64 0] 32):=by rw [jz];exact aq _ _ rfl
       have DU:W7.heap.size=wr.heap.size+1:=by rw [jz];simp
       rw [<-jz]
       refine hK _ _ (HS.out _ B7) ?_
       clear hK K jz T0
       (repeat first|refine bP ?_|refine bO ?_)
       refine bz rfl rfl (fun K hK=>?_)
       go_simp
       (with_reducible refine(Ry.out _ B7).mono ?_);rintro x w6 ⟨jY,so,n6,c6,rt,E2,rfl,ID⟩
       have B6:ah wr w6:=Below.trans' B7 jY B7.size
       have k6:=(jY.block wr.heap.size af).trans k7
       go_simp
       refine hK _ _ (HS.out _ B6) ?_
       clear hK K
       have d0:w6.cell? ⟨wr.heap.size,0,none⟩=some (.slice none 0 0):=by simp [World.cell?,k6]
       have d1:w6.cell? ⟨wr.heap.size,1,none⟩=some (.int .i64 0):=by simp [World.cell?,k6]
       have df:∀o,w6.frozen? ⟨wr.heap.size,o,none⟩=false:=fun o=>by simp [World.frozen?,k6]
       have uC:=jY.size
       clear k7
       (repeat first|refine bP ?_|refine bO ?_)
       refine dK rfl rfl (fun K hK=>?_)
       go_simp
       refine hK _ _ ?_
       clear hK K
       (repeat first|refine bP ?_|refine bO ?_)
       refine eY ?_
       go_wp2_with fail
       go_meet
       have e2:((w6.setCell ⟨wr.heap.size,0,none⟩ (.slice so n6 c6)).setCell ⟨wr.heap.size,1,none⟩ (.int .i64 rt)).heap[wr.heap.size]?=some (.cells #[.slice so n6 c6, .int .i64 rt] 32):=by
        have:=heap_setCell_same (off:=1) (v:= .int .i64 rt) (heap_setCell_same (off:=0) (v:= .slice so n6 c6) k6)
        simpa using this
       have KX:aP W7.heap.size w6 ((w6.setCell ⟨wr.heap.size,0,none⟩ (.slice so n6 c6)).setCell ⟨wr.heap.size,1,none⟩ (.int .i64 rt)):=((aP.refl _ _).set (by show wr.heap.size<_;omega) _).set (by show wr.heap.size<_;omega) _
       exact⟨wr.heap.size,so,n6,c6,rt,E2,rfl,rfl,hdd ⟨(B6.setCell aI _).setCell aI _,kK _,e2,ID.keep (B':=wr.heap.size) KX af⟩⟩
     case rest=>
      obtain⟨tb,so,n,c6,rt,E2,rfl,rfl,HX⟩:=hcut
      have H7:=hdd (HA.out.later HX.out.1)
      obtain⟨y0,y1,y2,y3,y4,y5,y6,y7,yf⟩:=H7.out.at'.bs
      obtain⟨RY,RX,RV,RU,RT,RS,RQ,RP,RO⟩:=H7.out.at'.zs
      obtain⟨q0,q1⟩:wc.cell? ⟨tb,0,none⟩=some (.slice so n c6)/\wc.cell? ⟨tb,1,none⟩=some (.int .i64 rt):=by
       have:=HX.out.2.2.1
       simp [World.cell?,this]
      by_cases h0:E2=0
      ·subst h0
       go_wp2_with fail
       go_roundg (3-(2+1))
       case measure=>omega
       case rel=>
        obtain⟨t',m1,m2,m3,m4,m5⟩:=Hm HF.out HL.out (k:=2) aW HX.out.2.2.2
        exact⟨2+1,af,rfl,by go_num,hdd ⟨_,_,_,_,_,_,_,_,_,_,_,_,_,_,_,HA.out.CT HX.out.1 m1 m2 m3 m4 m5⟩⟩
      ·have d2:(E2 != 0)=true:=by simp [h0]
       obtain⟨WU,Q9⟩:=Cv HF.out HL.out (k:=2) aW HX.out.2.2.2 h0
       have HE:=hdd Q9
       subst WU
       clear Q9 h0
       go_wp2_with fail
       have di:=H7.out.at'.below
       exact bodyPost_ret (v:= .tuple #[dH, .int .i64 1]) (by simp [results,Tryd.results22,go_sem, *]) rfl ⟨ag, .inl ⟨1,rfl,rfl,HE.out⟩⟩
   ·obtain rfl:k=3:=af
    have HD:=hdd hA.done
    have HA:=hdd hA
    obtain⟨y0,y1,y2,y3,y4,y5,y6,y7,yf⟩:=hA.at'.bs
    obtain⟨RY,RX,RV,RU,RT,RS,RQ,RP,RO⟩:=hA.at'.zs
    have rt:∀{so:Option Addr} {n c:Nat} {r:Int} {t:Tr},bL wr (.agg #[.slice so n c, .int .i64 r]) t->r=t.root:=fun {so n c r t} h=>by
     obtain⟨nv,e,-⟩:=h
     have e:=congrArg (fun v=>match v with | .agg a=>a[1]?|_=>none) e
     simpa using e
    have e0:=rt (hA.t0 wr (aP.refl _ _))
    have e1:=rt (hA.t1 wr (aP.refl _ _))
    have e2:=rt (hA.t2 wr (aP.refl _ _))
    subst e0 e1 e2
    have nd:∀{w'':World} {so:Option Addr} {n c:Nat} {t:Tr},bL w'' (.agg #[.slice so n c, .int .i64 t.root]) t->bu w'' (.slice so n c) t.nodes:=fun {w'' so n c t} h=>by
     obtain⟨nv,e,hn⟩:=h
     have e:=congrArg (fun v=>match v with | .agg a=>a[0]?|_=>none) e
     simp at e
     rw [e];exact hn
    have HB:=hdd (show ∀w'',aP (w.heap.size+3) wr w''->bN w'' (.agg (aH sn (bA b s).length sc g0 l0 p0 g1 l1 p1 g2 l2 p2 ⟨bA b s,T 0,T 1,T 2,b.floor⟩)) ⟨bA b s,T 0,T 1,T 2,b.floor⟩from fun w'' hk=>⟨_,_,_,_,rfl,HA.out.names w'' hk,nd (HA.out.t0 w'' hk),nd (HA.out.t1 w'' hk),nd (HA.out.t2 w'' hk)⟩)
    have HS:=hdd (show ∀j,j<3->Small (dX b s time value j::(b.tree j).all)from fun j hj=>(HD.out j hj).2.2.2)
    have Vr:=hdd (Ub (T:=T) HF.out HL.out HS.out fun j hj=>⟨(HD.out j hj).1,(HD.out j hj).2.1⟩)
    have HG:=hdd (wI HF.out HL.out HS.out).1
    clear rt nd hA
    go_wp2_with fail
    have di:=HA.out.at'.below
    refine bodyPost_ret (v:= .tuple #[.agg #[.slice sn (bA b s).length sc, .slice g0 l0 p0, .int .i64 (T 0).root, .slice g1 l1 p1, .int .i64 (T 1).root, .slice g2 l2 p2, .int .i64 (T 2).root, .int .i64 b.floor], .int .i64 0]) (by simp [results,Tryd.results22,go_sem, *]) rfl ⟨ag, .inr ⟨HG.out,⟨bA b s,T 0,T 1,T 2,b.floor⟩,sn,sc,g0,l0,p0,g1,l1,p1,g2,l2,p2,rfl,fun w'' hk=>HB.out w'' (aP.trans ?_ (hk.mono af)),rfl,rfl,Vr.out.1,Vr.out.2,fun j hj=>?_⟩⟩
    ·repeat (first|with_reducible exact aP.refl _ _|with_reducible refine aP.set ?_ (by show w.heap.size+2<w.heap.size+3;omega) _)
    ·have h3:j=0\/j=1\/j=2:=af
     have:=(HD.out j hj).2.2.1
     rcases h3 with rfl|rfl|rfl <;> exact this
end
theorem xx {v:Value} {b:Ba} {s:ByteArray} {time value:Int} {w:World} (h:bN w v b) (hst:∀s∈b.names,s.size<=140737488351232) (xh:s.size<=140737488351232) (hsz:bS w) :
  Calls Tryd.prog 22 #[v, .agg #[.string s, .int .i64 time, .int .i64 value]] w fun x w'=>ah w w' /\
   ((jt b s time value≠0/\x = .returned (.tuple #[dH, .int .i64 (jt b s time value)]))\/(jt b s time value=0/\Oo b s time value w.heap.size x w')):=by
 obtain⟨sa,sc,g0,l0,p0,g1,l1,p1,g2,l2,p2,rfl,-⟩:=h.open
 have er:∀{k:Int},jt b s time value=k->k≠0->Calls Tryd.prog 22 #[.agg (aH sa b.names.length sc g0 l0 p0 g1 l1 p1 g2 l2 p2 b), .agg #[.string s, .int .i64 time, .int .i64 value]] w (fun x w'=>ah w w'/\x = .returned (.tuple #[dH, .int .i64 k])) ->
   Calls Tryd.prog 22 #[.agg (aH sa b.names.length sc g0 l0 p0 g1 l1 p1 g2 l2 p2 b), .agg #[.string s, .int .i64 time, .int .i64 value]] w (fun x w'=>ah w w'/\((jt b s time value≠0/\x = .returned (.tuple #[dH, .int .i64 (jt b s time value)]))\/(jt b s time value=0/\Oo b s time value w.heap.size x w'))):=fun {k} e hk hc=>by
  subst e
  exact hc.mono fun x w' ⟨h1,h2⟩=>⟨h1, .inl ⟨hk,h2⟩⟩
 by_cases hm:aQ b=true
 ·by_cases hn:dG s=true
  ·by_cases hr:0<=time/\time<=1048575/\-1000000<=value/\value<=1000000
   ·have hro:(eJ time value).2=0:=by unfold eJ;rw [ar hr]
    by_cases hf:time<b.floor
    ·exact er (by unfold jt;rw [ai (by simp [hm]),ai (by simp [hn]),ai (by simp [hro]),ar hf]) aW (yo h hst xh hsz (.inr (.inr (.inr ⟨hm,hn,hr,hf,rfl⟩))))
    ·by_cases hp:aG b.names s<0/\16<=b.names.length
     ·have Qe:=(dJ hm).n16
      have hp1:aG b.names s = -1:=by
       rcases eX b.names s with ⟨k,-,e,-⟩|⟨e,-⟩
       ·omega
       ·exact e
      exact er (by unfold jt;rw [ai (by simp [hm]),ai (by simp [hn]),ai (by simp [hro]),ai hf,ar hp]) aW (NF h hst xh hsz hm hn hr af hp1 af)
     ·have h0:jt b s time value=0:=by unfold jt;rw [ai (by simp [hm]),ai (by simp [hn]),ai (by simp [hro]),ai hf,ai hp]
      exact(Uc h hst xh hsz h0).mono fun x w' ⟨h1,h2⟩=>⟨h1, .inr ⟨h0,h2⟩⟩
   ·have hro:(eJ time value).2=2:=by unfold eJ;rw [ai hr]
    exact er (by unfold jt;rw [ai (by simp [hm]),ai (by simp [hn]),ar (by simp [hro]),hro]) aW (yo h hst xh hsz (.inr (.inr (.inl ⟨hm,hn,hr,rfl⟩))))
  ·have hn:dG s=false:=by simpa using hn
   exact er (by unfold jt;rw [ai (by simp [hm]),ar hn]) aW (yo h hst xh hsz (.inr (.inl ⟨hm,hn,rfl⟩)))
 ·have hm:aQ b=false:=by simpa using hm
  exact er (by unfold jt;rw [ar hm]) aW (yo h hst xh hsz (.inl ⟨hm,rfl⟩))
end Go.Proofs.YtmljjfhgciaceaaDoor
