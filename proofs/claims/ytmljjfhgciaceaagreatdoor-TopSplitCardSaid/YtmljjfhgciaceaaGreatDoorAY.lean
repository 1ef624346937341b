/- Texts of mine that come as one: AddG AddAny. -/
import Derived.Test.YtmljjfhgciaceaaGreatDoorHd
import Derived.Test.YtmljjfhgciaceaaGreatDoorAK
import Derived.Test.YtmljjfhgciaceaaGreatDoorSO
namespace Go.Proofs.YtmljjfhgciaceaaGreatDoor
open Go.RowKit
section
set_option maxRecDepth 100000
set_option maxHeartbeats 4000000
variable {b:Ba} {s:ByteArray} {time value rt:Int} {l:List aA} {k B n c sc l0 p0 l1 p1 l2 p2:Nat} {so sa g0 g1 g2:Option Addr} {w' w:World}
def Oq (b:Ba) (s:ByteArray) (time value:Int) (B:Nat) (x:Ending) (w':World):Prop:=
 (∃E,E=1/\x = .returned (.tuple #[dH, .int .i64 E])/\(jN b s time value=1\/(jN b s time value=0/\∃k,k<3/\3001<nB (b.tree k)))) \/
 (jN b s time value=0/\∃b' sa sc g0 l0 p0 g1 l1 p1 g2 l2 p2,x = .returned (.tuple #[.agg (aJ sa b'.names.length sc g0 l0 p0 g1 l1 p1 g2 l2 p2 b'), .int .i64 0])/\(∀w'',aQ B w' w''->bQ w'' (.agg (aJ sa b'.names.length sc g0 l0 p0 g1 l1 p1 g2 l2 p2 b')) b') /\
  b'.names=bA b s/\b'.floor=b.floor/\aR b'=true/\bX b'=some (EW b s time value)/\∀k,k<3->nB (b'.tree k)<=nB (b.tree k)+1)
theorem NJ (h:jv b s time value=0):jN b s time value=0\/jN b s time value=1:=by
 unfold jN
 rw [ai (by simp [h])]
 split
 ·exact .inl rfl
 ·split
  ·exact .inr rfl
  ·split
   ·exact .inr rfl
   ·exact .inl rfl
theorem CB {E2:Int} (hF:jv b s time value=0) (hl:bX b=some l) (hk:k<3)
  (h:fO B (b.tree k) (dX b s time value k).key (dX b s time value k).is w' so n c rt E2) (h0:E2≠0):E2=1/\(jN b s time value=1\/(jN b s time value=0/\∃k,k<3/\3001<nB (b.tree k))):=by
 rcases h with ⟨h1,h2⟩|⟨h1,t2,h2,l2,g1,g2,g3,⟨g4,-⟩|⟨g4,g5⟩⟩
 ·rcases (km hF hl hk).1 with ⟨p1,-⟩|⟨p1,p2⟩
  ·exact absurd p1 h1
  ·exact⟨h2.trans p1, .inl (NK hF hl hk p2)⟩
 ·exact absurd g4 h0
 ·refine⟨g4,(NJ hF).symm.imp id fun h=>⟨h,k,hk,?_⟩⟩
  have:=g1.grown g5
  omega
theorem Hr (hF:jv b s time value=0) (hl:bX b=some l) (hk:k<3)
  (h:fO B (b.tree k) (dX b s time value k).key (dX b s time value k).is w' so n c rt 0):∃t',(∀w'',aQ B w' w''->bN w'' (.agg #[.slice so n c, .int .i64 rt]) t')/\ax t'=0/\ir t'.all (dX b s time value k::(b.tree k).all)/\nB t'<=nB (b.tree k)+1/\Small (dX b s time value k::(b.tree k).all):=by
 rcases h with ⟨h1,h2⟩|⟨h1,t2,h2,l2,g1,g2,g3,⟨-,g5,-,g7⟩|⟨g4,g5⟩⟩
 ·omega
 ·refine⟨t2,g7,g5,g2,g3,?_⟩
  rcases (km hF hl hk).1 with ⟨-,p2⟩|⟨p1,p2⟩
  ·exact p2
  ·have:(1:Int)=0:=p1.symm.trans h1
   omega
 ·omega
theorem NH (h:bQ w (.agg (aJ sa b.names.length sc g0 l0 p0 g1 l1 p1 g2 l2 p2 b)) b)
  (hst:∀s∈b.names,s.size<=140737488351232) (xj:s.size<=140737488351232) (hsz:bS w) (hm:aR b=true) (hn:dG s=true) (hr:0<=time/\time<=1048575/\-1000000<=value/\value<=1000000) (hf:b.floor<=time) (hp:aG b.names s = -1) (Qj:b.names.length=16) :
  Calls Tryz.prog 35 #[.agg (aJ sa b.names.length sc g0 l0 p0 g1 l1 p1 g2 l2 p2 b), .agg #[.string s, .int .i64 time, .int .i64 value]] w fun x w'=>ah w w'/\x = .returned (.tuple #[dH, .int .i64 1]):=by
 obtain⟨W0,hW0⟩:=bR (((w.alloc (.cells (aJ sa b.names.length sc g0 l0 p0 g1 l1 p1 g2 l2 p2 b) 30)).alloc (.cells #[.string s, .int .i64 time, .int .i64 value] 70)).alloc (.cells cN 30))
 have h0:=kN.start hW0
 have tZ:=hdd h0
 have z0:=h0.size
 have iC:=hdd (fH (h.below h0.below) hst (hsz.below h0.below))
 have xE:=hdd fun w'=>ux s w' xj
 have nW:=hdd fun w'=>FX time value w'
 rw [dW hm]at iC
 rw [hn]at xE
 rw [show eH time value=(⟨1,value,value,value,time,value⟩,0)from ar hr]at nW
 have HH:=hdd (show bQ w (.agg (aJ sa b.names.length sc g0 l0 p0 g1 l1 p1 g2 l2 p2 b)) b from h)
 have H16:=hdd (aO hp Qj)
 clear hm hn hr hp Qj
 obtain⟨y0,y1,y2,y3,y4,y5,y6,y7,yf⟩:=h0.bs
 clear h hst xj hsz h0
 go_enter Tryz.func35,Tryz.ntmps35
 go_upto_region 1 with (fail)
 rw [<-hW0]
 clear hW0
 go_upto_region 7 with (first|(go_at_call 66;(with_reducible refine iC.out.mono ?_);rintro e w1 ⟨rfl,hb1⟩;have gD:=hdd (tZ.out.later hb1 z0);have z1:=gD.out.size;clear y0 y1 y2 y3 y4 y5 y6 y7 yf;obtain⟨y0,y1,y2,y3,y4,y5,y6,y7,yf⟩:=gD.out.bs;obtain⟨q0,q1,q2⟩:=gD.out.lN;obtain⟨r0,r1,r2,r3,r4,r5,r6,r7,rf⟩:=gD.out.zs;clear hb1)|(go_at_call 67;(with_reducible refine(xE.out w1).mono ?_);rintro e w2 ⟨rfl,hb2⟩;have nG:=hdd (gD.out.later hb2 z1);have z2:=nG.out.size;clear y0 y1 y2 y3 y4 y5 y6 y7 yf q0 q1 q2 r0 r1 r2 r3 r4 r5 r6 r7 rf;obtain⟨y0,y1,y2,y3,y4,y5,y6,y7,yf⟩:=nG.out.bs;obtain⟨q0,q1,q2⟩:=nG.out.lN;obtain⟨r0,r1,r2,r3,r4,r5,r6,r7,rf⟩:=nG.out.zs;clear hb2)|(go_at_call 68;(with_reducible refine(nW.out w2).mono ?_);rintro e w3 ⟨rfl,hb3⟩))
 obtain⟨W3,hW3⟩:=bR (w3.alloc (.cells #[.int .i64 1, .int .i64 value, .int .i64 value, .int .i64 value, .int .i64 time, .int .i64 value] 39))
 have xF:=hdd (show ah w2 W3 from by rw [hW3];exact Below.trans' hb3 ((aL _ _).alloc aI _) hb3.size)
 have vF:=hdd (nG.out.later xF.out z2)
 have UW:W3.heap.size=w3.heap.size+1:=by rw [hW3];simp
 have z3:w.heap.size+3<=w3.heap.size:=by have:=hb3.size;omega
 have E5:=hdd (show W3.heap[w3.heap.size]?=some (.cells #[.int .i64 1, .int .i64 value, .int .i64 value, .int .i64 value, .int .i64 time, .int .i64 value] 39) by rw [hW3];exact aq _ _ rfl)
 rw [<-hW3]
 clear hW3 hb3 y0 y1 y2 y3 y4 y5 y6 y7 yf q0 q1 q2 r0 r1 r2 r3 r4 r5 r6 r7 rf
 obtain⟨y0,y1,y2,y3,y4,y5,y6,y7,yf⟩:=vF.out.bs
 obtain⟨q0,q1,q2⟩:=vF.out.lN
 obtain⟨r0,r1,r2,r3,r4,r5,r6,r7,rf⟩:=vF.out.zs
 have RV:=hdd (oz (HH.out.below vF.out.below))
 go_upto_region 12 with ((go_at_call 18;(with_reducible refine RV.out.mono ?_);rintro e w4 ⟨hb4,sn,sJ,a0,m0,n0,a1,m1,n1,a2,m2,n2,rfl,hown,M,hM1,hM2,XH,ME,kY⟩;have XF:=vF.out.later hb4 af;have I9:=hdd XF;have Ai:=hdd hb4;have Fh:=hdd (aO hown (aO XH (aO ME kY)));have YU:=hb4.size;clear hown XH ME kY hb4 XF y0 y1 y2 y3 y4 y5 y6 y7 yf q0 q1 q2 r0 r1 r2 r3 r4 r5 r6 r7 rf;obtain⟨y0,y1,y2,y3,y4,y5,y6,y7,yf⟩:=I9.out.bs))
 obtain⟨W5,oq⟩:=bR ((((((((w4.setCell ⟨w.heap.size,0,none⟩ (.slice sn b.names.length sJ)).setCell ⟨w.heap.size,1,none⟩ (.slice a0 m0 n0)).setCell ⟨w.heap.size,2,none⟩ (.int .i64 b.t0.root)).setCell ⟨w.heap.size,3,none⟩ (.slice a1 m1 n1)).setCell ⟨w.heap.size,4,none⟩ (.int .i64 b.t1.root)).setCell ⟨w.heap.size,5,none⟩ (.slice a2 m2 n2)).setCell ⟨w.heap.size,6,none⟩ (.int .i64 b.t2.root)).setCell ⟨w.heap.size,7,none⟩ (.int .i64 b.floor))
 have Nb:∀q,q≠w.heap.size->W5.heap[q]?=w4.heap[q]?:=fun q hq=>by rw [oq];exact fk hq
 have h5s:W5.heap.size=w4.heap.size:=by rw [oq];simp only [ay]
 have XQ:ah w W5:=by
  have:=I9.out.below
  rw [oq]
  exact(((((((this.setCell aI _).setCell aI _).setCell aI _).setCell aI _).setCell aI _).setCell aI _).setCell aI _).setCell aI _
 have K5:=hdd (show kN w #[.slice sn b.names.length sJ, .slice a0 m0 n0, .int .i64 b.t0.root, .slice a1 m1 n1, .int .i64 b.t1.root, .slice a2 m2 n2, .int .i64 b.t2.root, .int .i64 b.floor] s time value W5 from
  ⟨XQ,by rw [h5s];exact I9.out.size,by rw [oq];exact jd I9.out.box,(Nb _ af).trans I9.out.pt,(Nb _ af).trans I9.out.res⟩)
 have Yn:=hdd (show ∀N,w.heap.size<N->aQ N w4 W5 from fun N hN=>⟨af,fun q hq _=>Nb q af⟩)
 have OU:=hdd (show W5.heap[w3.heap.size]?=some (.cells #[.int .i64 1, .int .i64 value, .int .i64 value, .int .i64 value, .int .i64 time, .int .i64 value] 39)from (Nb _ af).trans ((Ai.out.block _ af).trans E5.out))
 have CT:=hdd (mN (s:=s) (w:=W5) (v:= .slice sn b.names.length sJ) (xs:=b.names) (by
  obtain⟨nv,x0,x1,x2,e,hs,-⟩:=Fh.out.2.2.2 W5 (Yn.out _ af)
  have e:=congrArg (fun v=>match v with | .agg a=>a[0]?|_=>none) e
  simp at e
  rw [e];exact hs))
 rw [<-oq]
 clear oq Nb XQ y0 y1 y2 y3 y4 y5 y6 y7 yf
 obtain⟨y0,y1,y2,y3,y4,y5,y6,y7,yf⟩:=K5.out.bs
 obtain⟨q0,q1,q2⟩:=K5.out.lN
 obtain⟨hp,Qj⟩:=H16.out
 rw [hp]at CT
 have agM:((b.names.length:Int) == 16)=true:=by simp [Qj]
 clear hp Qj
 go_wp2_with ((go_at_call 69;(with_reducible refine CT.out.mono ?_);rintro e w6 ⟨rfl,jt⟩;have OX:=hdd (K5.out.later jt K5.out.size);obtain⟨Jd,YF,YE,y3',y4',y5',y6',y7',yf'⟩:=OX.out.bs;obtain⟨r0,r1,r2,r3,r4,r5,r6,r7,rf⟩:=OX.out.zs))
 have dh:=OX.out.below
 exact bodyPost_ret (v:= .tuple #[dH, .int .i64 1]) (by simp [results,Tryz.results35,go_sem, *]) rfl ⟨ag,rfl⟩
theorem Um (h:bQ w (.agg (aJ sa b.names.length sc g0 l0 p0 g1 l1 p1 g2 l2 p2 b)) b)
  (hst:∀s∈b.names,s.size<=140737488351232) (xj:s.size<=140737488351232) (hsz:bS w) (hF:jv b s time value=0) :
  Calls Tryz.prog 35 #[.agg (aJ sa b.names.length sc g0 l0 p0 g1 l1 p1 g2 l2 p2 b), .agg #[.string s, .int .i64 time, .int .i64 value]] w fun x w'=>ah w w'/\Oq b s time value w.heap.size x w':=by
 obtain⟨W0,hW0⟩:=bR (((w.alloc (.cells (aJ sa b.names.length sc g0 l0 p0 g1 l1 p1 g2 l2 p2 b) 30)).alloc (.cells #[.string s, .int .i64 time, .int .i64 value] 70)).alloc (.cells cN 30))
 have h0:=kN.start hW0
 have tZ:=hdd h0
 have z0:=h0.size
 have iC:=hdd (fH (h.below h0.below) hst (hsz.below h0.below))
 have xE:=hdd fun w'=>ux s w' xj
 have nW:=hdd fun w'=>FX time value w'
 obtain⟨hm,hn,hro,ht0,ht1,hv0,hv1,hfl,hi0,hi1,hnl⟩:=mS hF
 rw [dW hm]at iC
 rw [hn]at xE
 rw [hro]at nW
 have HF:=hdd hF
 have HH:=hdd (show bQ w (.agg (aJ sa b.names.length sc g0 l0 p0 g1 l1 p1 g2 l2 p2 b)) b/\bS w from ⟨h,hsz⟩)
 have Zy:=hdd hnl
 clear hm hn hro hF hnl hv0 hv1
 obtain⟨y0,y1,y2,y3,y4,y5,y6,y7,yf⟩:=h0.bs
 clear h hst xj hsz h0
 go_enter Tryz.func35,Tryz.ntmps35
 go_upto_region 1 with (fail)
 rw [<-hW0]
 clear hW0
 go_upto_region 7 with (first|(go_at_call 66;(with_reducible refine iC.out.mono ?_);rintro e w1 ⟨rfl,hb1⟩;have gD:=hdd (tZ.out.later hb1 z0);have z1:=gD.out.size;clear y0 y1 y2 y3 y4 y5 y6 y7 yf;obtain⟨y0,y1,y2,y3,y4,y5,y6,y7,yf⟩:=gD.out.bs;obtain⟨q0,q1,q2⟩:=gD.out.lN;obtain⟨r0,r1,r2,r3,r4,r5,r6,r7,rf⟩:=gD.out.zs;clear hb1)|(go_at_call 67;(with_reducible refine(xE.out w1).mono ?_);rintro e w2 ⟨rfl,hb2⟩;have nG:=hdd (gD.out.later hb2 z1);have z2:=nG.out.size;clear y0 y1 y2 y3 y4 y5 y6 y7 yf q0 q1 q2 r0 r1 r2 r3 r4 r5 r6 r7 rf;obtain⟨y0,y1,y2,y3,y4,y5,y6,y7,yf⟩:=nG.out.bs;obtain⟨q0,q1,q2⟩:=nG.out.lN;obtain⟨r0,r1,r2,r3,r4,r5,r6,r7,rf⟩:=nG.out.zs;clear hb2)|(go_at_call 68;(with_reducible refine(nW.out w2).mono ?_);rintro e w3 ⟨rfl,hb3⟩))
 obtain⟨W3,hW3⟩:=bR (w3.alloc (.cells #[.int .i64 1, .int .i64 value, .int .i64 value, .int .i64 value, .int .i64 time, .int .i64 value] 39))
 have xF:=hdd (show ah w2 W3 from by rw [hW3];exact Below.trans' hb3 ((aL _ _).alloc aI _) hb3.size)
 have vF:=hdd (nG.out.later xF.out z2)
 have UW:W3.heap.size=w3.heap.size+1:=by rw [hW3];simp
 have z3:w.heap.size+3<=w3.heap.size:=by have:=hb3.size;omega
 have E5:=hdd (show W3.heap[w3.heap.size]?=some (.cells #[.int .i64 1, .int .i64 value, .int .i64 value, .int .i64 value, .int .i64 time, .int .i64 value] 39) by rw [hW3];exact aq _ _ rfl)
 rw [<-hW3]
 clear hW3 hb3 y0 y1 y2 y3 y4 y5 y6 y7 yf q0 q1 q2 r0 r1 r2 r3 r4 r5 r6 r7 rf
 obtain⟨y0,y1,y2,y3,y4,y5,y6,y7,yf⟩:=vF.out.bs
 obtain⟨q0,q1,q2⟩:=vF.out.lN
 obtain⟨r0,r1,r2,r3,r4,r5,r6,r7,rf⟩:=vF.out.zs
 have RV:=hdd (oz (HH.out.1.below vF.out.below))
 go_upto_region 12 with ((go_at_call 18;(with_reducible refine RV.out.mono ?_);rintro e w4 ⟨hb4,sn,sJ,a0,m0,n0,a1,m1,n1,a2,m2,n2,rfl,hown,M,hM1,hM2,XH,ME,kY⟩;have XF:=vF.out.later hb4 af;have I9:=hdd XF;have Ai:=hdd hb4;have Fh:=hdd (aO hown (aO XH (aO ME kY)));have YU:=hb4.size;clear hown XH ME kY hb4 XF y0 y1 y2 y3 y4 y5 y6 y7 yf q0 q1 q2 r0 r1 r2 r3 r4 r5 r6 r7 rf;obtain⟨y0,y1,y2,y3,y4,y5,y6,y7,yf⟩:=I9.out.bs))
 obtain⟨W5,oq⟩:=bR ((((((((w4.setCell ⟨w.heap.size,0,none⟩ (.slice sn b.names.length sJ)).setCell ⟨w.heap.size,1,none⟩ (.slice a0 m0 n0)).setCell ⟨w.heap.size,2,none⟩ (.int .i64 b.t0.root)).setCell ⟨w.heap.size,3,none⟩ (.slice a1 m1 n1)).setCell ⟨w.heap.size,4,none⟩ (.int .i64 b.t1.root)).setCell ⟨w.heap.size,5,none⟩ (.slice a2 m2 n2)).setCell ⟨w.heap.size,6,none⟩ (.int .i64 b.t2.root)).setCell ⟨w.heap.size,7,none⟩ (.int .i64 b.floor))
 have Nb:∀q,q≠w.heap.size->W5.heap[q]?=w4.heap[q]?:=fun q hq=>by rw [oq];exact fk hq
 have h5s:W5.heap.size=w4.heap.size:=by rw [oq];simp only [ay]
 have XQ:ah w W5:=by
  have:=I9.out.below
  rw [oq]
  exact(((((((this.setCell aI _).setCell aI _).setCell aI _).setCell aI _).setCell aI _).setCell aI _).setCell aI _).setCell aI _
 have K5:=hdd (show kN w #[.slice sn b.names.length sJ, .slice a0 m0 n0, .int .i64 b.t0.root, .slice a1 m1 n1, .int .i64 b.t1.root, .slice a2 m2 n2, .int .i64 b.t2.root, .int .i64 b.floor] s time value W5 from
  ⟨XQ,by rw [h5s];exact I9.out.size,by rw [oq];exact jd I9.out.box,(Nb _ af).trans I9.out.pt,(Nb _ af).trans I9.out.res⟩)
 have Yn:=hdd (show ∀N,w.heap.size<N->aQ N w4 W5 from fun N hN=>⟨af,fun q hq _=>Nb q af⟩)
 have OU:=hdd (show W5.heap[w3.heap.size]?=some (.cells #[.int .i64 1, .int .i64 value, .int .i64 value, .int .i64 value, .int .i64 time, .int .i64 value] 39)from (Nb _ af).trans ((Ai.out.block _ af).trans E5.out))
 have CT:=hdd (mN (s:=s) (w:=W5) (v:= .slice sn b.names.length sJ) (xs:=b.names) (by
  obtain⟨nv,x0,x1,x2,e,hs,-⟩:=Fh.out.2.2.2 W5 (Yn.out _ af)
  have e:=congrArg (fun v=>match v with | .agg a=>a[0]?|_=>none) e
  simp at e
  rw [e];exact hs))
 rw [<-oq]
 clear oq Nb XQ y0 y1 y2 y3 y4 y5 y6 y7 yf
 obtain⟨y0,y1,y2,y3,y4,y5,y6,y7,yf⟩:=K5.out.bs
 obtain⟨q0,q1,q2⟩:=K5.out.lN
 go_upto_region 13 with ((go_at_call 69;(with_reducible refine CT.out.mono ?_);rintro e w6 ⟨rfl,jt⟩))
 have tS:=hdd jt
 have OX:=hdd (K5.out.later jt K5.out.size)
 have z6:=jt.size
 clear jt y0 y1 y2 y3 y4 y5 y6 y7 yf q0 q1 q2
 obtain⟨y0,y1,y2,y3,y4,y5,y6,y7,yf⟩:=OX.out.bs
 obtain⟨q0,q1,q2⟩:=OX.out.lN
 have WH:b.names.length<=16:=(dK (mS HF.out).1).n16
 have hK6:∀N,w.heap.size<N->aQ N w4 w6:=fun N hN=>(Yn.out N hN).trans ⟨tS.out.size,fun q _ hq=>tS.out.block q hq⟩
 have HOW:=hdd (show w6.ownsRow (W3.heap.size+2) 9 1 (.slice sn b.names.length sJ) b.names.length (b.names.flatMap jg)from oO Fh.out.1 (hK6 _ af) aI)
 have Ym:=hdd hK6
 have Zt:=hdd ((tS.out.block _ (by have:=OU.out;exact(eP.1 this).1)).trans OU.out)
 clear hK6
 go_upto_if 51 with (fail)
 go_cut [9] (fun i wx=>∃(YM:Option Addr) (YN:Nat),i = .int .i64 (j6 b s)/\Hid (kN w #[.slice YM (bA b s).length YN, .slice a0 m0 n0, .int .i64 b.t0.root, .slice a1 m1 n1, .int .i64 b.t1.root, .slice a2 m2 n2, .int .i64 b.t2.root, .int .i64 b.floor] s time value wx/\aQ M w4 wx/\wx.heap[w3.heap.size]?=some (.cells #[.int .i64 1, .int .i64 value, .int .i64 value, .int .i64 value, .int .i64 time, .int .i64 value] 39) /\
  wx.ownsRow (W3.heap.size+2) 9 1 (.slice YM (bA b s).length YN) (bA b s).length ((bA b s).flatMap jg)))
 case first=>
  rcases eY b.names s with ⟨pk,hpk,hp,-⟩|⟨hp,-⟩
  ·have HA:=hdd (show j6 b s=pk/\bA b s=b.names from ⟨by unfold j6;rw [hp,ai af],by unfold bA;rw [hp,ai af]⟩)
   rw [hp]
   clear hp
   go_wp2_with fail
   go_meet
   rw [HA.out.1,HA.out.2]
   exact⟨sn,sJ,rfl,hdd ⟨OX.out,Ym.out _ af,Zt.out,HOW.out⟩⟩
  ·have HA:=hdd (show j6 b s=b.names.length/\bA b s=b.names++[s]from ⟨by unfold j6;rw [hp,ar af],by unfold bA;rw [hp,ar af]⟩)
   have ady:=Zy.out (by rw [hp];decide)
   rw [hp]
   clear hp
   obtain⟨W7,jC⟩:=bR (w6.alloc (.cells #[.string s] 9))
   have qG:ah w6 W7:=by rw [jC];exact ag
   have k7:W7.heap[w6.heap.size]?=some (.cells #[.string s] 9):=by rw [jC];exact aq _ _ rfl
   have DX:W7.heap.size=w6.heap.size+1:=by rw [jC];simp
   have UC:=hdd (gu HOW.out qG)
   have OW:=hdd (OX.out.later qG (by have:=OX.out.size;omega))
   have c7:W7.cell? ⟨w6.heap.size,0,none⟩=some (.string s):=by simp [World.cell?,k7]
   have hne:(b.names.length:Int)≠16:=af
   have hnb:((b.names.length:Int) == 16)=false:=by simp;omega
   have CJ:=hdd qG
   have HG8:=hdd fun(w8:World) (Tk:W7.grownBy w8 (Value.slice sn b.names.length sJ).ownBlock)=>(by
    have hq:∀q,q<W3.heap.size+2->w8.heap[q]?=W7.heap[q]?:=fun q hq=>Tk.block q (by have:=OW.out.size;omega) (fun e=>by have:=(UC.out.lt q e.symm).1;omega)
    have h7:=OW.out
    refine⟨⟨Below.grown h7.below Tk h7.below.size (fun j hj=>by have:=(UC.out.lt j hj).1;omega),by have:=Tk.size;have:=h7.size;omega,(hq _ af).trans h7.box,(hq _ af).trans h7.pt,(hq _ af).trans h7.res⟩,(hq _ af).trans ((CJ.out.block _ (by have:=(eP.1 Zt.out).1;omega)).trans Zt.out),((Ym.out M af).trans (aQ.of CJ.out aI)).trans ⟨Tk.size,fun q hqM hq=>Tk.block q hq fun e=>by have:=Fh.out.2.1 q e.symm;omega⟩⟩ :
    kN w #[.slice sn b.names.length sJ, .slice a0 m0 n0, .int .i64 b.t0.root, .slice a1 m1 n1, .int .i64 b.t1.root, .slice a2 m2 n2, .int .i64 b.t2.root, .int .i64 b.floor] s time value w8/\w8.heap[w3.heap.size]?=some (.cells #[.int .i64 1, .int .i64 value, .int .i64 value, .int .i64 value, .int .i64 time, .int .i64 value] 39)/\aQ M w4 w8)
   clear qG k7
   go_wp2_with ((at_builtin;refine mX rfl (.tmp 59) (.tmp 62) rfl (W3.heap.size+2) (.slice sn b.names.length sJ) b.names rfl (jC▸UC.out) ⟨w6.heap.size,0,none⟩ s rfl (jC▸c7) af (by simp;omega) ?_;rw [<-jC];intro v8 w8 VR Tk hv8;obtain⟨s8,c8,rfl⟩:=dI VR;have WS:=HG8.out _ Tk;obtain⟨agC,-,-,-,-,-,-,-,agw⟩:=WS.1.bs))
   go_meet
   obtain⟨XO,Y7,hK8⟩:=WS
   rw [HA.out.1,HA.out.2]
   have P5:(b.names++[s]).length=b.names.length+1:=bt
   rw [P5]
   have S4:∀q,q≠w.heap.size->(w8.setCell ⟨w.heap.size,0,none⟩ (.slice s8 (b.names.length+1) c8)).heap[q]?=w8.heap[q]?:=fun q hq=>heap_setCell_other _ ⟨w.heap.size,_,none⟩ q _ hq
   refine⟨s8,c8,rfl,hdd ⟨⟨XO.below.setCell aI _,by simp only [ay];exact XO.size,?_,(S4 _ af).trans XO.pt,(S4 _ af).trans XO.res⟩,hK8.set (by show w.heap.size<M;omega) _,(S4 _ af).trans Y7,om VR af _⟩⟩
   have:=heap_setCell_same (off:=0) (v:= .slice s8 (b.names.length+1) c8) XO.box
   simpa using this
 case rest=>
  obtain⟨YM,YN,rfl,HC⟩:=hcut
  have agc:(bA b s).length<=17:=by
   unfold bA
   split
   ·rw [eO,List.length_singleton];omega
   ·omega
  have HST:=hdd (show vz w b s time value w3.heap.size 0 YM YN a0 m0 n0 b.t0.root a1 m1 n1 b.t1.root a2 m2 n2 b.t2.root (fun j=>b.tree j) wc from by
   obtain⟨c1,c2,c3,c4⟩:=HC.out
   have hn:=Fh.out.2.2.1
   exact⟨c1,c3,z3,fun w'' hk=>dN.owned kC (oO c4 hk af) rfl af,fun w'' hk=>⟨_,rfl,(hn w'' (c2.trans (hk.mono af))).1⟩,fun w'' hk=>⟨_,rfl,(hn w'' (c2.trans (hk.mono af))).2.1⟩,fun w'' hk=>⟨_,rfl,(hn w'' (c2.trans (hk.mono af))).2.2⟩,fun j hj=>af,fun j _ _=>rfl⟩)
  obtain⟨l,hl⟩:∃l,bX b=some l:=by obtain⟨l,hl,-⟩:=qc (mS HF.out).1;exact⟨l,hl⟩
  have HL:=hdd hl
  obtain⟨-,s0,s1,s2⟩:=HH.out.2.below HST.out.at'.below
  clear HC Fh HOW Ym Zt tS OX CT OU Yn K5 Ai I9 RV E5 vF xF nG gD tZ iC xE nW hl Zy WH y0 y1 y2 y3 y4 y5 y6 y7 yf q0 q1 q2
  obtain⟨rb,CO⟩:=bC (w3.heap.size)
  rw [CO]at HST ⊢
  clear CO
  obtain⟨I,hI⟩:=bC (j6 b s)
  rw [hI]at hi0 hi1
  rw [hI]
  have HI:=hdd hI
  clear hI
  go_wp2_with fail
  clear s0 s1 s2
  go_loopg [66] 3 (fun g i wr=>∃k,k<=3/\g=3-k/\i = .int .i64 k/\Hid (∃sn sc g0 l0 p0 r0 g1 l1 p1 r1 g2 l2 p2 r2 T,vz w b s time value rb k sn sc g0 l0 p0 r0 g1 l1 p1 r1 g2 l2 p2 r2 T wr))
  case atStart=>exact⟨0,af,rfl,rfl,hdd ⟨_,_,_,_,_,_,_,_,_,_,_,_,_,_,_,HST.out⟩⟩
  case round=>
   clear HST
   obtain⟨k,hk,rfl,rfl,HR⟩:=hrel
   obtain⟨sn,sc,g0,l0,p0,r0,g1,l1,p1,r1,g2,l2,p2,r2,T,hA⟩:=HR.out
   by_cases hlt:k<3
   ·obtain rfl|rfl|rfl:k=0\/k=1\/k=2:=af
    ·have Ro:=hA.rest 0 aI aY
     have RD:=hdd (show ∀w'',aQ (w.heap.size+3) wr w''->bN w'' (.agg #[.slice g0 l0 p0, .int .i64 r0]) (b.tree 0)from fun w'' hk=>by rw [<-Ro];exact hA.t0 w'' hk)
     have U5:=hA.at'.size
     obtain⟨y0,y1,y2,y3,y4,y5,y6,y7,yf⟩:=hA.at'.bs
     obtain⟨q0,q1,q2⟩:=hA.at'.lN
     have zm:=hA.Lv
     have hrl:=(eP.1 zm).1
     have HA:=hdd hA
     have kX:=zj
     obtain⟨Q,hQ⟩:=bC (time/1)
     have Vl:0<=Q/\Q<=1048575/\0<=Q/\Q<=time:=by rw [<-hQ];omega
     have ht1:time.tdiv 1=Q:=by rw [AO af];exact hQ
     have ht2:IntKind.i64.wrap Q=Q:=IntWalk.i64_in _ af
     have Ox:IntKind.i64.wrap (Q)=Q:=IntWalk.i64_in _ af
     have U9:IntKind.i64.wrap (I*1048576)=I*1048576:=IntWalk.i64_in _ af
     have qo:IntKind.i64.wrap (I*1048576+Q)=I*1048576+Q:=IntWalk.i64_in _ af
     have HKEY:=hdd (show (dX b s time value 0).key=I*1048576+Q from by show j6 b s*1048576+time/1*1=_;rw [HI.out,hQ];try rw [Int.mul_one])
     have RL:=hdd fun(W:World) (hb:ah wr W)=>(by
      have h1:=mI (w:=W) (key:=(dX b s time value 0).key) (r:=(dX b s time value 0).is) (RD.out W (aQ.of hb aI)) (fun h0=>by
       rcases (km HF.out HL.out (k:=0) aY).1 with ⟨-,p2⟩|⟨p1,-⟩
       ·exact p2
       ·have:(0:Int)=1:=h0.symm.trans p1
        omega)
      have h2:(fun x w'=>ah W w'/\∃so n c rt E2,x=Ending.returned (.tuple #[.agg #[.slice so n c, .int .i64 rt], .int .i64 E2])/\fO W.heap.size (b.tree 0) (dX b s time value 0).key (dX b s time value 0).is w' so n c rt E2)=(fun x w'=>ah W w'/\∃so n c rt E2,x=Ending.returned (.tuple #[.agg #[.slice so n c, .int .i64 rt], .int .i64 E2])/\fO W.heap.size (b.tree 0) (dX b s time value 0).key (dX b s time value 0).is w' so n c rt E2):=rfl
      rw [HKEY.out]at h1
      rw [HKEY.out]
      exact h1:Calls Tryz.prog 70 #[.agg #[.slice g0 l0 p0, .int .i64 r0], .int .i64 (I*1048576+Q), .agg #[.int .i64 1, .int .i64 value, .int .i64 value, .int .i64 value, .int .i64 time, .int .i64 value]] W fun x w'=>ah W w'/\∃so n c rt E2,x = .returned (.tuple #[.agg #[.slice so n c, .int .i64 rt], .int .i64 E2])/\fO W.heap.size (b.tree 0) (dX b s time value 0).key (dX b s time value 0).is w' so n c rt E2)
     have HS:=hdd fun(W:World) (hb:ah wr W)=>(by
      have c:∀g o,g<wr.heap.size->W.cell? ⟨g,o,none⟩=wr.cell? ⟨g,o,none⟩:=fun g o h=>hb.cell (p:=⟨g,o,none⟩) h
      have hr:=(hb.block rb hrl).trans zm
      exact⟨(c _ _ af).trans y1,(c _ _ af).trans y2,(c _ _ af).trans q1,by simp [World.cell?,hr],by simp [World.cell?,hr],by simp [World.cell?,hr],by simp [World.cell?,hr],by simp [World.cell?,hr],by simp [World.cell?,hr]⟩ :
      W.cell? ⟨w.heap.size,1,none⟩=some (.slice g0 l0 p0)/\W.cell? ⟨w.heap.size,2,none⟩=some (.int .i64 r0)/\W.cell? ⟨w.heap.size+1,1,none⟩=some (.int .i64 time)/\W.cell? ⟨rb,0,none⟩=some (.int .i64 1)/\W.cell? ⟨rb,1,none⟩=some (.int .i64 value)/\W.cell? ⟨rb,2,none⟩=some (.int .i64 value)/\W.cell? ⟨rb,3,none⟩=some (.int .i64 value)/\W.cell? ⟨rb,4,none⟩=some (.int .i64 time)/\W.cell? ⟨rb,5,none⟩=some (.int .i64 value))
     clear hA Ro zm hQ HR HKEY RD hi0 hi1 ht0 hfl
     go_upto_region 21 with (fail)
     clear y0 y1 y2 y3 y4 y5 y6 y7 yf q0 q1 q2 kX
     go_cut [12,13] (fun p c wx=>∃(tb:Nat) (so:Option Addr) (n c6:Nat) (rt E2:Int),p = .pointer (some ⟨tb,0,none⟩)/\c = .int .i64 E2/\Hid (ah wr wx/\wr.heap.size<=tb/\wx.heap[tb]?=some (.cells #[.slice so n c6, .int .i64 rt] 27)/\fO wr.heap.size (b.tree 0) (dX b s time value 0).key (dX b s time value 0).is wx so n c6 rt E2))
     case first=>
      have T0:ah wr wr.drew:=(aL _ _).drew
      refine eW (lL.of [(0,1),(1,1),(2,1),(3,0),(4,1),(5,1),(6,1),(7,0),(8,1),(9,1),(10,1),(11,1),(12,1),(13,0)] (.fork 14 18 (lL.of [(15,1),(16,1),(17,1),(18,2),(19,3),(20,1)] .nil) (lL.of [(14,2),(15,1),(16,1),(17,1),(19,3),(20,1)] .nil))) 19
       (fun W=>W.cell? ⟨w.heap.size,1,none⟩=some (.slice g0 l0 p0)/\W.cell? ⟨w.heap.size,2,none⟩=some (.int .i64 r0)/\W.cell? ⟨w.heap.size+1,1,none⟩=some (.int .i64 time)/\W.cell? ⟨rb,0,none⟩=some (.int .i64 1)/\W.cell? ⟨rb,1,none⟩=some (.int .i64 value)/\W.cell? ⟨rb,2,none⟩=some (.int .i64 value)/\W.cell? ⟨rb,3,none⟩=some (.int .i64 value)/\W.cell? ⟨rb,4,none⟩=some (.int .i64 time)/\W.cell? ⟨rb,5,none⟩=some (.int .i64 value)) cv cv (HS.out _ T0) ?_
      simp only [lL.of]
      (repeat first|refine bJ ?_|refine bI ?_)
      refine gP rfl rfl rfl rfl (fun K hK=>?_) (fun K hK=>?_)
      ·go_simp
       (with_reducible refine(RL.out _ T0).mono ?_);rintro x w6 ⟨jt,so,n6,c6,rt,E2,rfl,IK⟩
       have B6:ah wr w6:=Below.trans' T0 jt aI
       go_simp
       refine hK _ _ (HS.out _ B6) ?_
       clear hK K T0
       (repeat first|refine bJ ?_|refine bI ?_)
       refine br rfl rfl (fun K hK=>?_)
       go_simp
       obtain⟨W7,jC⟩:=bR (w6.alloc (.cells #[.slice none 0 0, .int .i64 0] 27))
       have qG:ah w6 W7:=by rw [jC];exact ag
       have k7:W7.heap[w6.heap.size]?=some (.cells #[.slice none 0 0, .int .i64 0] 27):=by rw [jC];exact aq _ _ rfl
       have B7:ah wr W7:=Below.trans' B6 qG B6.size
       rw [<-jC]
       refine hK _ _ (HS.out _ B7) ?_
       clear hK K jC
       have d0:W7.cell? ⟨w6.heap.size,0,none⟩=some (.slice none 0 0):=by simp [World.cell?,k7]
       have d1:W7.cell? ⟨w6.heap.size,1,none⟩=some (.int .i64 0):=by simp [World.cell?,k7]
       have df:∀o,W7.frozen? ⟨w6.heap.size,o,none⟩=false:=fun o=>by simp [World.frozen?,k7]
       (repeat first|refine bJ ?_|refine bI ?_)
       refine cZ rfl rfl (fun K hK=>?_)
       go_simp
       refine hK _ _ ?_
       clear hK K
       (repeat first|refine bJ ?_|refine bI ?_)
       refine dU ?_
       go_wp2_with fail
       go_meet
       have uE:=B6.size
       have e2:((W7.setCell ⟨w6.heap.size,0,none⟩ (.slice so n6 c6)).setCell ⟨w6.heap.size,1,none⟩ (.int .i64 rt)).heap[w6.heap.size]?=some (.cells #[.slice so n6 c6, .int .i64 rt] 27):=by
        have:=heap_setCell_same (off:=1) (v:= .int .i64 rt) (heap_setCell_same (off:=0) (v:= .slice so n6 c6) k7)
        simpa using this
       have KX:aQ wr.heap.size w6 ((W7.setCell ⟨w6.heap.size,0,none⟩ (.slice so n6 c6)).setCell ⟨w6.heap.size,1,none⟩ (.int .i64 rt)):=⟨by simp only [ay];exact qG.size,fun q _ hq=>((heap_setCell_other _ ⟨w6.heap.size,_,none⟩ q _ (by show q≠w6.heap.size;omega)).trans (heap_setCell_other _ ⟨w6.heap.size,_,none⟩ q _ (by show q≠w6.heap.size;omega))).trans (qG.block q hq)⟩
       exact⟨w6.heap.size,so,n6,c6,rt,E2,rfl,rfl,hdd ⟨(B7.setCell uE _).setCell uE _,uE,e2,IK.keep (B':=wr.heap.size) KX aI⟩⟩
      ·go_simp
       obtain⟨W7,jC⟩:=bR ((wr.alloc (.cells #[.slice none 0 0, .int .i64 0] 27)).drew)
       have B7:ah wr W7:=by rw [jC];exact ag
       have k7:W7.heap[wr.heap.size]?=some (.cells #[.slice none 0 0, .int .i64 0] 27):=by rw [jC];exact aq _ _ rfl
       have DX:W7.heap.size=wr.heap.size+1:=by rw [jC];simp
       rw [<-jC]
       refine hK _ _ (HS.out _ B7) ?_
       clear hK K jC T0
       (repeat first|refine bJ ?_|refine bI ?_)
       refine br rfl rfl (fun K hK=>?_)
       go_simp
       (with_reducible refine(RL.out _ B7).mono ?_);rintro x w6 ⟨jt,so,n6,c6,rt,E2,rfl,IK⟩
       have B6:ah wr w6:=Below.trans' B7 jt B7.size
       have k6:=(jt.block wr.heap.size af).trans k7
       go_simp
       refine hK _ _ (HS.out _ B6) ?_
       clear hK K
       have d0:w6.cell? ⟨wr.heap.size,0,none⟩=some (.slice none 0 0):=by simp [World.cell?,k6]
       have d1:w6.cell? ⟨wr.heap.size,1,none⟩=some (.int .i64 0):=by simp [World.cell?,k6]
       have df:∀o,w6.frozen? ⟨wr.heap.size,o,none⟩=false:=fun o=>by simp [World.frozen?,k6]
       have uE:=jt.size
       clear k7
       (repeat first|refine bJ ?_|refine bI ?_)
       refine cZ rfl rfl (fun K hK=>?_)
       go_simp
       refine hK _ _ ?_
       clear hK K
       (repeat first|refine bJ ?_|refine bI ?_)
       refine dU ?_
       go_wp2_with fail
       go_meet
       have e2:((w6.setCell ⟨wr.heap.size,0,none⟩ (.slice so n6 c6)).setCell ⟨wr.heap.size,1,none⟩ (.int .i64 rt)).heap[wr.heap.size]?=some (.cells #[.slice so n6 c6, .int .i64 rt] 27):=by
        have:=heap_setCell_same (off:=1) (v:= .int .i64 rt) (heap_setCell_same (off:=0) (v:= .slice so n6 c6) k6)
        simpa using this
       have KX:aQ W7.heap.size w6 ((w6.setCell ⟨wr.heap.size,0,none⟩ (.slice so n6 c6)).setCell ⟨wr.heap.size,1,none⟩ (.int .i64 rt)):=((aQ.refl _ _).set (by show wr.heap.size<_;omega) _).set (by show wr.heap.size<_;omega) _
       exact⟨wr.heap.size,so,n6,c6,rt,E2,rfl,rfl,hdd ⟨(B6.setCell aI _).setCell aI _,kT _,e2,IK.keep (B':=wr.heap.size) KX af⟩⟩
     case rest=>
      obtain⟨tb,so,n,c6,rt,E2,rfl,rfl,HX⟩:=hcut
      have Ie:=hdd (HA.out.later HX.out.1)
      obtain⟨y0,y1,y2,y3,y4,y5,y6,y7,yf⟩:=Ie.out.at'.bs
      obtain⟨Sc,Sb,Sa,R9,R8,R7,R6,R5,RZ⟩:=Ie.out.at'.zs
      obtain⟨q0,q1⟩:wc.cell? ⟨tb,0,none⟩=some (.slice so n c6)/\wc.cell? ⟨tb,1,none⟩=some (.int .i64 rt):=by
       have:=HX.out.2.2.1
       simp [World.cell?,this]
      by_cases h0:E2=0
      ·subst h0
       go_wp2_with fail
       go_roundg (3-(0+1))
       case measure=>omega
       case rel=>
        obtain⟨t',m1,m2,m3,m4,m5⟩:=Hr HF.out HL.out (k:=0) aY HX.out.2.2.2
        exact⟨0+1,af,rfl,by go_num,hdd ⟨_,_,_,_,_,_,_,_,_,_,_,_,_,_,_,HA.out.step0 HX.out.1 m1 m2 m3 m4 m5⟩⟩
      ·have d2:(E2 != 0)=true:=by simp [h0]
       obtain⟨WY,Rh⟩:=CB HF.out HL.out (k:=0) aY HX.out.2.2.2 h0
       have HE:=hdd Rh
       subst WY
       clear Rh h0
       go_wp2_with fail
       have dh:=Ie.out.at'.below
       exact bodyPost_ret (v:= .tuple #[dH, .int .i64 1]) (by simp [results,Tryz.results35,go_sem, *]) rfl ⟨ag, .inl ⟨1,rfl,rfl,HE.out⟩⟩
    ·have Ro:=hA.rest 1 aI aY
     have RD:=hdd (show ∀w'',aQ (w.heap.size+3) wr w''->bN w'' (.agg #[.slice g1 l1 p1, .int .i64 r1]) (b.tree 1)from fun w'' hk=>by rw [<-Ro];exact hA.t1 w'' hk)
     have U5:=hA.at'.size
     obtain⟨y0,y1,y2,y3,y4,y5,y6,y7,yf⟩:=hA.at'.bs
     obtain⟨q0,q1,q2⟩:=hA.at'.lN
     have zm:=hA.Lv
     have hrl:=(eP.1 zm).1
     have HA:=hdd hA
     have kX:=zi
     obtain⟨Q,hQ⟩:=bC (time/60)
     have Vl:0<=Q/\Q<=1048575/\0<=Q*60/\Q*60<=time:=by rw [<-hQ];omega
     have ht1:time.tdiv 60=Q:=by rw [AO af];exact hQ
     have ht2:IntKind.i64.wrap Q=Q:=IntWalk.i64_in _ af
     have Ox:IntKind.i64.wrap (Q*60)=Q*60:=IntWalk.i64_in _ af
     have U9:IntKind.i64.wrap (I*1048576)=I*1048576:=IntWalk.i64_in _ af
     have qo:IntKind.i64.wrap (I*1048576+Q*60)=I*1048576+Q*60:=IntWalk.i64_in _ af
     have HKEY:=hdd (show (dX b s time value 1).key=I*1048576+Q*60 from by show j6 b s*1048576+time/60*60=_;rw [HI.out,hQ];try rw [Int.mul_one])
     have RL:=hdd fun(W:World) (hb:ah wr W)=>(by
      have h1:=mI (w:=W) (key:=(dX b s time value 1).key) (r:=(dX b s time value 1).is) (RD.out W (aQ.of hb aI)) (fun h0=>by
       rcases (km HF.out HL.out (k:=1) aY).1 with ⟨-,p2⟩|⟨p1,-⟩
       ·exact p2
       ·have:(0:Int)=1:=h0.symm.trans p1
        omega)
      have h2:(fun x w'=>ah W w'/\∃so n c rt E2,x=Ending.returned (.tuple #[.agg #[.slice so n c, .int .i64 rt], .int .i64 E2])/\fO W.heap.size (b.tree 1) (dX b s time value 1).key (dX b s time value 1).is w' so n c rt E2)=(fun x w'=>ah W w'/\∃so n c rt E2,x=Ending.returned (.tuple #[.agg #[.slice so n c, .int .i64 rt], .int .i64 E2])/\fO W.heap.size (b.tree 1) (dX b s time value 1).key (dX b s time value 1).is w' so n c rt E2):=rfl
      rw [HKEY.out]at h1
      rw [HKEY.out]
      exact h1:Calls Tryz.prog 70 #[.agg #[.slice g1 l1 p1, .int .i64 r1], .int .i64 (I*1048576+Q*60), .agg #[.int .i64 1, .int .i64 value, .int .i64 value, .int .i64 value, .int .i64 time, .int .i64 value]] W fun x w'=>ah W w'/\∃so n c rt E2,x = .returned (.tuple #[.agg #[.slice so n c, .int .i64 rt], .int .i64 E2])/\fO W.heap.size (b.tree 1) (dX b s time value 1).key (dX b s time value 1).is w' so n c rt E2)
     have HS:=hdd fun(W:World) (hb:ah wr W)=>(by
      have c:∀g o,g<wr.heap.size->W.cell? ⟨g,o,none⟩=wr.cell? ⟨g,o,none⟩:=fun g o h=>hb.cell (p:=⟨g,o,none⟩) h
      have hr:=(hb.block rb hrl).trans zm
      exact⟨(c _ _ af).trans y3,(c _ _ af).trans y4,(c _ _ af).trans q1,by simp [World.cell?,hr],by simp [World.cell?,hr],by simp [World.cell?,hr],by simp [World.cell?,hr],by simp [World.cell?,hr],by simp [World.cell?,hr]⟩ :
      W.cell? ⟨w.heap.size,3,none⟩=some (.slice g1 l1 p1)/\W.cell? ⟨w.heap.size,4,none⟩=some (.int .i64 r1)/\W.cell? ⟨w.heap.size+1,1,none⟩=some (.int .i64 time)/\W.cell? ⟨rb,0,none⟩=some (.int .i64 1)/\W.cell? ⟨rb,1,none⟩=some (.int .i64 value)/\W.cell? ⟨rb,2,none⟩=some (.int .i64 value)/\W.cell? ⟨rb,3,none⟩=some (.int .i64 value)/\W.cell? ⟨rb,4,none⟩=some (.int .i64 time)/\W.cell? ⟨rb,5,none⟩=some (.int .i64 value))
     clear hA Ro zm hQ HR HKEY RD hi0 hi1 ht0 hfl
     go_upto_region 21 with (fail)
     clear y0 y1 y2 y3 y4 y5 y6 y7 yf q0 q1 q2 kX
     go_cut [12,13] (fun p c wx=>∃(tb:Nat) (so:Option Addr) (n c6:Nat) (rt E2:Int),p = .pointer (some ⟨tb,0,none⟩)/\c = .int .i64 E2/\Hid (ah wr wx/\wr.heap.size<=tb/\wx.heap[tb]?=some (.cells #[.slice so n c6, .int .i64 rt] 27)/\fO wr.heap.size (b.tree 1) (dX b s time value 1).key (dX b s time value 1).is wx so n c6 rt E2))
     case first=>
      have T0:ah wr wr.drew:=(aL _ _).drew
      refine eW (lL.of [(0,1),(1,1),(2,1),(3,0),(4,1),(5,1),(6,1),(7,0),(8,1),(9,1),(10,1),(11,1),(12,1),(13,0)] (.fork 14 18 (lL.of [(15,1),(16,1),(17,1),(18,2),(19,3),(20,1)] .nil) (lL.of [(14,2),(15,1),(16,1),(17,1),(19,3),(20,1)] .nil))) 19
       (fun W=>W.cell? ⟨w.heap.size,3,none⟩=some (.slice g1 l1 p1)/\W.cell? ⟨w.heap.size,4,none⟩=some (.int .i64 r1)/\W.cell? ⟨w.heap.size+1,1,none⟩=some (.int .i64 time)/\W.cell? ⟨rb,0,none⟩=some (.int .i64 1)/\W.cell? ⟨rb,1,none⟩=some (.int .i64 value)/\W.cell? ⟨rb,2,none⟩=some (.int .i64 value)/\W.cell? ⟨rb,3,none⟩=some (.int .i64 value)/\W.cell? ⟨rb,4,none⟩=some (.int .i64 time)/\W.cell? ⟨rb,5,none⟩=some (.int .i64 value)) cv cv (HS.out _ T0) ?_
      simp only [lL.of]
      (repeat first|refine bJ ?_|refine bI ?_)
      refine gP rfl rfl rfl rfl (fun K hK=>?_) (fun K hK=>?_)
      ·go_simp
       (with_reducible refine(RL.out _ T0).mono ?_);rintro x w6 ⟨jt,so,n6,c6,rt,E2,rfl,IK⟩
       have B6:ah wr w6:=Below.trans' T0 jt aI
       go_simp
       refine hK _ _ (HS.out _ B6) ?_
       clear hK K T0
       (repeat first|refine bJ ?_|refine bI ?_)
       refine br rfl rfl (fun K hK=>?_)
       go_simp
       obtain⟨W7,jC⟩:=bR (w6.alloc (.cells #[.slice none 0 0, .int .i64 0] 27))
       have qG:ah w6 W7:=by rw [jC];exact ag
       have k7:W7.heap[w6.heap.size]?=some (.cells #[.slice none 0 0, .int .i64 0] 27):=by rw [jC];exact aq _ _ rfl
       have B7:ah wr W7:=Below.trans' B6 qG B6.size
       rw [<-jC]
       refine hK _ _ (HS.out _ B7) ?_
       clear hK K jC
       have d0:W7.cell? ⟨w6.heap.size,0,none⟩=some (.slice none 0 0):=by simp [World.cell?,k7]
       have d1:W7.cell? ⟨w6.heap.size,1,none⟩=some (.int .i64 0):=by simp [World.cell?,k7]
       have df:∀o,W7.frozen? ⟨w6.heap.size,o,none⟩=false:=fun o=>by simp [World.frozen?,k7]
       (repeat first|refine bJ ?_|refine bI ?_)
       refine cZ rfl rfl (fun K hK=>?_)
       go_simp
       refine hK _ _ ?_
       clear hK K
       (repeat first|refine bJ ?_|refine bI ?_)
       refine dU ?_
       go_wp2_with fail
       go_meet
       have uE:=B6.size
       have e2:((W7.setCell ⟨w6.heap.size,0,none⟩ (.slice so n6 c6)).setCell ⟨w6.heap.size,1,none⟩ (.int .i64 rt)).heap[w6.heap.size]?=some (.cells #[.slice so n6 c6, .int .i64 rt] 27):=by
        have:=heap_setCell_same (off:=1) (v:= .int .i64 rt) (heap_setCell_same (off:=0) (v:= .slice so n6 c6) k7)
        simpa using this
       have KX:aQ wr.heap.size w6 ((W7.setCell ⟨w6.heap.size,0,none⟩ (.slice so n6 c6)).setCell ⟨w6.heap.size,1,none⟩ (.int .i64 rt)):=⟨by simp only [ay];exact qG.size,fun q _ hq=>((heap_setCell_other _ ⟨w6.heap.size,_,none⟩ q _ (by show q≠w6.heap.size;omega)).trans (heap_setCell_other _ ⟨w6.heap.size,_,none⟩ q _ (by show q≠w6.heap.size;omega))).trans (qG.block q hq)⟩
       exact⟨w6.heap.size,so,n6,c6,rt,E2,rfl,rfl,hdd ⟨(B7.setCell uE _).setCell uE _,uE,e2,IK.keep (B':=wr.heap.size) KX aI⟩⟩
      ·go_simp
       obtain⟨W7,jC⟩:=bR ((wr.alloc (.cells #[.slice none 0 0, .int .i64 0] 27)).drew)
       have B7:ah wr W7:=by rw [jC];exact ag
       have k7:W7.heap[wr.heap.size]?=some (.cells #[.slice none 0 0, .int .i64 0] 27):=by rw [jC];exact aq _ _ rfl
       have DX:W7.heap.size=wr.heap.size+1:=by rw [jC];simp
       rw [<-jC]
       refine hK _ _ (HS.out _ B7) ?_
       clear hK K jC T0
       (repeat first|refine bJ ?_|refine bI ?_)
       refine br rfl rfl (fun K hK=>?_)
       go_simp
       (with_reducible refine(RL.out _ B7).mono ?_);rintro x w6 ⟨jt,so,n6,c6,rt,E2,rfl,IK⟩
       have B6:ah wr w6:=Below.trans' B7 jt B7.size
       have k6:=(jt.block wr.heap.size af).trans k7
       go_simp
       refine hK _ _ (HS.out _ B6) ?_
       clear hK K
       have d0:w6.cell? ⟨wr.heap.size,0,none⟩=some (.slice none 0 0):=by simp [World.cell?,k6]
       have d1:w6.cell? ⟨wr.heap.size,1,none⟩=some (.int .i64 0):=by simp [World.cell?,k6]
       have df:∀o,w6.frozen? ⟨wr.heap.size,o,none⟩=false:=fun o=>by simp [World.frozen?,k6]
       have uE:=jt.size
       clear k7
       (repeat first|refine bJ ?_|refine bI ?_)
       refine cZ rfl rfl (fun K hK=>?_)
       go_simp
       refine hK _ _ ?_
       clear hK K
       (repeat first|refine bJ ?_|refine bI ?_)
       refine dU ?_
       go_wp2_with fail
       go_meet
       have e2:((w6.setCell ⟨wr.heap.size,0,none⟩ (.slice so n6 c6)).setCell ⟨wr.heap.size,1,none⟩ (.int .i64 rt)).heap[wr.heap.size]?=some (.cells #[.slice so n6 c6, .int .i64 rt] 27):=by
        have:=heap_setCell_same (off:=1) (v:= .int .i64 rt) (heap_setCell_same (off:=0) (v:= .slice so n6 c6) k6)
        simpa using this
       have KX:aQ W7.heap.size w6 ((w6.setCell ⟨wr.heap.size,0,none⟩ (.slice so n6 c6)).setCell ⟨wr.heap.size,1,none⟩ (.int .i64 rt)):=((aQ.refl _ _).set (by show wr.heap.size<_;omega) _).set (by show wr.heap.size<_;omega) _
       exact⟨wr.heap.size,so,n6,c6,rt,E2,rfl,rfl,hdd ⟨(B6.setCell aI _).setCell aI _,kT _,e2,IK.keep (B':=wr.heap.size) KX af⟩⟩
     case rest=>
      obtain⟨tb,so,n,c6,rt,E2,rfl,rfl,HX⟩:=hcut
      have Ie:=hdd (HA.out.later HX.out.1)
      obtain⟨y0,y1,y2,y3,y4,y5,y6,y7,yf⟩:=Ie.out.at'.bs
      obtain⟨Sc,Sb,Sa,R9,R8,R7,R6,R5,RZ⟩:=Ie.out.at'.zs
      obtain⟨q0,q1⟩:wc.cell? ⟨tb,0,none⟩=some (.slice so n c6)/\wc.cell? ⟨tb,1,none⟩=some (.int .i64 rt):=by
       have:=HX.out.2.2.1
       simp [World.cell?,this]
      by_cases h0:E2=0
      ·subst h0
       go_wp2_with fail
       go_roundg (3-(1+1))
       case measure=>omega
       case rel=>
        obtain⟨t',m1,m2,m3,m4,m5⟩:=Hr HF.out HL.out (k:=1) aY HX.out.2.2.2
        exact⟨1+1,af,rfl,by go_num,hdd ⟨_,_,_,_,_,_,_,_,_,_,_,_,_,_,_,HA.out.CZ HX.out.1 m1 m2 m3 m4 m5⟩⟩
      ·have d2:(E2 != 0)=true:=by simp [h0]
       obtain⟨WY,Rh⟩:=CB HF.out HL.out (k:=1) aY HX.out.2.2.2 h0
       have HE:=hdd Rh
       subst WY
       clear Rh h0
       go_wp2_with fail
       have dh:=Ie.out.at'.below
       exact bodyPost_ret (v:= .tuple #[dH, .int .i64 1]) (by simp [results,Tryz.results35,go_sem, *]) rfl ⟨ag, .inl ⟨1,rfl,rfl,HE.out⟩⟩
    ·have Ro:=hA.rest 2 aI aY
     have RD:=hdd (show ∀w'',aQ (w.heap.size+3) wr w''->bN w'' (.agg #[.slice g2 l2 p2, .int .i64 r2]) (b.tree 2)from fun w'' hk=>by rw [<-Ro];exact hA.t2 w'' hk)
     have U5:=hA.at'.size
     obtain⟨y0,y1,y2,y3,y4,y5,y6,y7,yf⟩:=hA.at'.bs
     obtain⟨q0,q1,q2⟩:=hA.at'.lN
     have zm:=hA.Lv
     have hrl:=(eP.1 zm).1
     have HA:=hdd hA
     have kX:=zh
     obtain⟨Q,hQ⟩:=bC (time/3600)
     have Vl:0<=Q/\Q<=1048575/\0<=Q*3600/\Q*3600<=time:=by rw [<-hQ];omega
     have ht1:time.tdiv 3600=Q:=by rw [AO af];exact hQ
     have ht2:IntKind.i64.wrap Q=Q:=IntWalk.i64_in _ af
     have Ox:IntKind.i64.wrap (Q*3600)=Q*3600:=IntWalk.i64_in _ af
     have U9:IntKind.i64.wrap (I*1048576)=I*1048576:=IntWalk.i64_in _ af
     have qo:IntKind.i64.wrap (I*1048576+Q*3600)=I*1048576+Q*3600:=IntWalk.i64_in _ af
     have HKEY:=hdd (show (dX b s time value 2).key=I*1048576+Q*3600 from by show j6 b s*1048576+time/3600*3600=_;rw [HI.out,hQ];try rw [Int.mul_one])
     have RL:=hdd fun(W:World) (hb:ah wr W)=>(by
      have h1:=mI (w:=W) (key:=(dX b s time value 2).key) (r:=(dX b s time value 2).is) (RD.out W (aQ.of hb aI)) (fun h0=>by
       rcases (km HF.out HL.out (k:=2) aY).1 with ⟨-,p2⟩|⟨p1,-⟩
       ·exact p2
       ·have:(0:Int)=1:=h0.symm.trans p1
        omega)
      have h2:(fun x w'=>ah W w'/\∃so n c rt E2,x=Ending.returned (.tuple #[.agg #[.slice so n c, .int .i64 rt], .int .i64 E2])/\fO W.heap.size (b.tree 2) (dX b s time value 2).key (dX b s time value 2).is w' so n c rt E2)=(fun x w'=>ah W w'/\∃so n c rt E2,x=Ending.returned (.tuple #[.agg #[.slice so n c, .int .i64 rt], .int .i64 E2])/\fO W.heap.size (b.tree 2) (dX b s time value 2).key (dX b s time value 2).is w' so n c rt E2):=rfl
      rw [HKEY.out]at h1
      rw [HKEY.out]
      exact h1:Calls Tryz.prog 70 #[.agg #[.slice g2 l2 p2, .int .i64 r2], .int .i64 (I*1048576+Q*3600), .agg #[.int .i64 1, .int .i64 value, .int .i64 value, .int .i64 value, .int .i64 time, .int .i64 value]] W fun x w'=>ah W w'/\∃so n c rt E2,x = .returned (.tuple #[.agg #[.slice so n c, .int .i64 rt], .int .i64 E2])/\fO W.heap.size (b.tree 2) (dX b s time value 2).key (dX b s time value 2).is w' so n c rt E2)
     have HS:=hdd fun(W:World) (hb:ah wr W)=>(by
      have c:∀g o,g<wr.heap.size->W.cell? ⟨g,o,none⟩=wr.cell? ⟨g,o,none⟩:=fun g o h=>hb.cell (p:=⟨g,o,none⟩) h
      have hr:=(hb.block rb hrl).trans zm
      exact⟨(c _ _ af).trans y5,(c _ _ af).trans y6,(c _ _ af).trans q1,by simp [World.cell?,hr],by simp [World.cell?,hr],by simp [World.cell?,hr],by simp [World.cell?,hr],by simp [World.cell?,hr],by simp [World.cell?,hr]⟩ :
      W.cell? ⟨w.heap.size,5,none⟩=some (.slice g2 l2 p2)/\W.cell? ⟨w.heap.size,6,none⟩=some (.int .i64 r2)/\W.cell? ⟨w.heap.size+1,1,none⟩=some (.int .i64 time)/\W.cell? ⟨rb,0,none⟩=some (.int .i64 1)/\W.cell? ⟨rb,1,none⟩=some (.int .i64 value)/\W.cell? ⟨rb,2,none⟩=some (.int .i64 value)/\W.cell? ⟨rb,3,none⟩=some (.int .i64 value)/\W.cell? ⟨rb,4,none⟩=some (.int .i64 time)/\W.cell? ⟨rb,5,none⟩=some (.int .i64 value))
     clear hA Ro zm hQ HR HKEY RD hi0 hi1 ht0 hfl
     go_upto_region 21 with (fail)
     clear y0 y1 y2 y3 y4 y5 y6 y7 yf q0 q1 q2 kX
     go_cut [12,13] (fun p c wx=>∃(tb:Nat) (so:Option Addr) (n c6:Nat) (rt E2:Int),p = .pointer (some ⟨tb,0,none⟩)/\c = .int .i64 E2/\Hid (ah wr wx/\wr.heap.size<=tb/\wx.heap[tb]?=some (.cells #[.slice so n c6, .int .i64 rt] 27)/\fO wr.heap.size (b.tree 2) (dX b s time value 2).key (dX b s time value 2).is wx so n c6 rt E2))
     case first=>
      have T0:ah wr wr.drew:=(aL _ _).drew
      refine eW (lL.of [(0,1),(1,1),(2,1),(3,0),(4,1),(5,1),(6,1),(7,0),(8,1),(9,1),(10,1),(11,1),(12,1),(13,0)] (.fork 14 18 (lL.of [(15,1),(16,1),(17,1),(18,2),(19,3),(20,1)] .nil) (lL.of [(14,2),(15,1),(16,1),(17,1),(19,3),(20,1)] .nil))) 19
       (fun W=>W.cell? ⟨w.heap.size,5,none⟩=some (.slice g2 l2 p2)/\W.cell? ⟨w.heap.size,6,none⟩=some (.int .i64 r2)/\W.cell? ⟨w.heap.size+1,1,none⟩=some (.int .i64 time)/\W.cell? ⟨rb,0,none⟩=some (.int .i64 1)/\W.cell? ⟨rb,1,none⟩=some (.int .i64 value)/\W.cell? ⟨rb,2,none⟩=some (.int .i64 value)/\W.cell? ⟨rb,3,none⟩=some (.int .i64 value)/\W.cell? ⟨rb,4,none⟩=some (.int .i64 time)/\W.cell? ⟨rb,5,none⟩=some (.int .i64 value)) cv cv (HS.out _ T0) ?_
      simp only [lL.of]
      (repeat first|refine bJ ?_|refine bI ?_)
      refine gP rfl rfl rfl rfl (fun K hK=>?_) (fun K hK=>?_)
      ·go_simp
       (with_reducible refine(RL.out _ T0).mono ?_);rintro x w6 ⟨jt,so,n6,c6,rt,E2,rfl,IK⟩
       have B6:ah wr w6:=Below.trans' T0 jt aI
       go_simp
       refine hK _ _ (HS.out _ B6) ?_
       clear hK K T0
       (repeat first|refine bJ ?_|refine bI ?_)
       refine br rfl rfl (fun K hK=>?_)
       go_simp
       obtain⟨W7,jC⟩:=bR (w6.alloc (.cells #[.slice none 0 0, .int .i64 0] 27))
       have qG:ah w6 W7:=by rw [jC];exact ag
       have k7:W7.heap[w6.heap.size]?=some (.cells #[.slice none 0 0, .int .i64 0] 27):=by rw [jC];exact aq _ _ rfl
       have B7:ah wr W7:=Below.trans' B6 qG B6.size
       rw [<-jC]
       refine hK _ _ (HS.out _ B7) ?_
       clear hK K jC
       have d0:W7.cell? ⟨w6.heap.size,0,none⟩=some (.slice none 0 0):=by simp [World.cell?,k7]
       have d1:W7.cell? ⟨w6.heap.size,1,none⟩=some (.int .i64 0):=by simp [World.cell?,k7]
       have df:∀o,W7.frozen? ⟨w6.heap.size,o,none⟩=false:=fun o=>by simp [World.frozen?,k7]
       (repeat first|refine bJ ?_|refine bI ?_)
       refine cZ rfl rfl (fun K hK=>?_)
       go_simp
       refine hK _ _ ?_
       clear hK K
       (repeat first|refine bJ ?_|refine bI ?_)
       refine dU ?_
       go_wp2_with fail
       go_meet
       have uE:=B6.size
       have e2:((W7.setCell ⟨w6.heap.size,0,none⟩ (.slice so n6 c6)).setCell ⟨w6.heap.size,1,none⟩ (.int .i64 rt)).heap[w6.heap.size]?=some (.cells #[.slice so n6 c6, .int .i64 rt] 27):=by
        have:=heap_setCell_same (off:=1) (v:= .int .i64 rt) (heap_setCell_same (off:=0) (v:= .slice so n6 c6) k7)
        simpa using this
       have KX:aQ wr.heap.size w6 ((W7.setCell ⟨w6.heap.size,0,none⟩ (.slice so n6 c6)).setCell ⟨w6.heap.size,1,none⟩ (.int .i64 rt)):=⟨by simp only [ay];exact qG.size,fun q _ hq=>((heap_setCell_other _ ⟨w6.heap.size,_,none⟩ q _ (by show q≠w6.heap.size;omega)).trans (heap_setCell_other _ ⟨w6.heap.size,_,none⟩ q _ (by show q≠w6.heap.size;omega))).trans (qG.block q hq)⟩
       exact⟨w6.heap.size,so,n6,c6,rt,E2,rfl,rfl,hdd ⟨(B7.setCell uE _).setCell uE _,uE,e2,IK.keep (B':=wr.heap.size) KX aI⟩⟩
      ·go_simp
       obtain⟨W7,jC⟩:=bR ((wr.alloc (.cells #[.slice none 0 0, .int .i64 0] 27)).drew)
       have B7:ah wr W7:=by rw [jC];exact ag
       have k7:W7.heap[wr.heap.size]?=some (.cells #[.slice none 0 0, .int .i64 0] 27):=by rw [jC];exact aq _ _ rfl
       have DX:W7.heap.size=wr.heap.size+1:=by rw [jC];simp
       rw [<-jC]
       refine hK _ _ (HS.out _ B7) ?_
       clear hK K jC T0
       (repeat first|refine bJ ?_|refine bI ?_)
       refine br rfl rfl (fun K hK=>?_)
       go_simp
       (with_reducible refine(RL.out _ B7).mono ?_);rintro x w6 ⟨jt,so,n6,c6,rt,E2,rfl,IK⟩
       have B6:ah wr w6:=Below.trans' B7 jt B7.size
       have k6:=(jt.block wr.heap.size af).trans k7
       go_simp
       refine hK _ _ (HS.out _ B6) ?_
       clear hK K
       have d0:w6.cell? ⟨wr.heap.size,0,none⟩=some (.slice none 0 0):=by simp [World.cell?,k6]
       have d1:w6.cell? ⟨wr.heap.size,1,none⟩=some (.int .i64 0):=by simp [World.cell?,k6]
       have df:∀o,w6.frozen? ⟨wr.heap.size,o,none⟩=false:=fun o=>by simp [World.frozen?,k6]
       have uE:=jt.size
       clear k7
       (repeat first|refine bJ ?_|refine bI ?_)
       refine cZ rfl rfl (fun K hK=>?_)
       go_simp
       refine hK _ _ ?_
       clear hK K
       (repeat first|refine bJ ?_|refine bI ?_)
       refine dU ?_
       go_wp2_with fail
       go_meet
       have e2:((w6.setCell ⟨wr.heap.size,0,none⟩ (.slice so n6 c6)).setCell ⟨wr.heap.size,1,none⟩ (.int .i64 rt)).heap[wr.heap.size]?=some (.cells #[.slice so n6 c6, .int .i64 rt] 27):=by
        have:=heap_setCell_same (off:=1) (v:= .int .i64 rt) (heap_setCell_same (off:=0) (v:= .slice so n6 c6) k6)
        simpa using this
       have KX:aQ W7.heap.size w6 ((w6.setCell ⟨wr.heap.size,0,none⟩ (.slice so n6 c6)).setCell ⟨wr.heap.size,1,none⟩ (.int .i64 rt)):=((aQ.refl _ _).set (by show wr.heap.size<_;omega) _).set (by show wr.heap.size<_;omega) _
       exact⟨wr.heap.size,so,n6,c6,rt,E2,rfl,rfl,hdd ⟨(B6.setCell aI _).setCell aI _,kT _,e2,IK.keep (B':=wr.heap.size) KX af⟩⟩
     case rest=>
      obtain⟨tb,so,n,c6,rt,E2,rfl,rfl,HX⟩:=hcut
      have Ie:=hdd (HA.out.later HX.out.1)
      obtain⟨y0,y1,y2,y3,y4,y5,y6,y7,yf⟩:=Ie.out.at'.bs
      obtain⟨Sc,Sb,Sa,R9,R8,R7,R6,R5,RZ⟩:=Ie.out.at'.zs
      obtain⟨q0,q1⟩:wc.cell? ⟨tb,0,none⟩=some (.slice so n c6)/\wc.cell? ⟨tb,1,none⟩=some (.int .i64 rt):=by
       have:=HX.out.2.2.1
       simp [World.cell?,this]
      by_cases h0:E2=0
      ·subst h0
       go_wp2_with fail
       go_roundg (3-(2+1))
       case measure=>omega
       case rel=>
        obtain⟨t',m1,m2,m3,m4,m5⟩:=Hr HF.out HL.out (k:=2) aY HX.out.2.2.2
        exact⟨2+1,af,rfl,by go_num,hdd ⟨_,_,_,_,_,_,_,_,_,_,_,_,_,_,_,HA.out.CY HX.out.1 m1 m2 m3 m4 m5⟩⟩
      ·have d2:(E2 != 0)=true:=by simp [h0]
       obtain⟨WY,Rh⟩:=CB HF.out HL.out (k:=2) aY HX.out.2.2.2 h0
       have HE:=hdd Rh
       subst WY
       clear Rh h0
       go_wp2_with fail
       have dh:=Ie.out.at'.below
       exact bodyPost_ret (v:= .tuple #[dH, .int .i64 1]) (by simp [results,Tryz.results35,go_sem, *]) rfl ⟨ag, .inl ⟨1,rfl,rfl,HE.out⟩⟩
   ·obtain rfl:k=3:=af
    have HD:=hdd hA.done
    have HA:=hdd hA
    obtain⟨y0,y1,y2,y3,y4,y5,y6,y7,yf⟩:=hA.at'.bs
    obtain⟨Sc,Sb,Sa,R9,R8,R7,R6,R5,RZ⟩:=hA.at'.zs
    have rt:∀{so:Option Addr} {n c:Nat} {r:Int} {t:Tr},bN wr (.agg #[.slice so n c, .int .i64 r]) t->r=t.root:=fun {so n c r t} h=>by
     obtain⟨nv,e,-⟩:=h
     have e:=congrArg (fun v=>match v with | .agg a=>a[1]?|_=>none) e
     simpa using e
    have e0:=rt (hA.t0 wr (aQ.refl _ _))
    have e1:=rt (hA.t1 wr (aQ.refl _ _))
    have e2:=rt (hA.t2 wr (aQ.refl _ _))
    subst e0 e1 e2
    have nd:∀{w'':World} {so:Option Addr} {n c:Nat} {t:Tr},bN w'' (.agg #[.slice so n c, .int .i64 t.root]) t->bz w'' (.slice so n c) t.nodes:=fun {w'' so n c t} h=>by
     obtain⟨nv,e,hn⟩:=h
     have e:=congrArg (fun v=>match v with | .agg a=>a[0]?|_=>none) e
     simp at e
     rw [e];exact hn
    have HB:=hdd (show ∀w'',aQ (w.heap.size+3) wr w''->bQ w'' (.agg (aJ sn (bA b s).length sc g0 l0 p0 g1 l1 p1 g2 l2 p2 ⟨bA b s,T 0,T 1,T 2,b.floor⟩)) ⟨bA b s,T 0,T 1,T 2,b.floor⟩from fun w'' hk=>⟨_,_,_,_,rfl,HA.out.names w'' hk,nd (HA.out.t0 w'' hk),nd (HA.out.t1 w'' hk),nd (HA.out.t2 w'' hk)⟩)
    have HS:=hdd (show ∀j,j<3->Small (dX b s time value j::(b.tree j).all)from fun j hj=>(HD.out j hj).2.2.2)
    have VB:=hdd (Ul (T:=T) HF.out HL.out HS.out fun j hj=>⟨(HD.out j hj).1,(HD.out j hj).2.1⟩)
    have HG:=hdd (wM HF.out HL.out HS.out).1
    clear rt nd hA
    go_wp2_with fail
    have dh:=HA.out.at'.below
    refine bodyPost_ret (v:= .tuple #[.agg #[.slice sn (bA b s).length sc, .slice g0 l0 p0, .int .i64 (T 0).root, .slice g1 l1 p1, .int .i64 (T 1).root, .slice g2 l2 p2, .int .i64 (T 2).root, .int .i64 b.floor], .int .i64 0]) (by simp [results,Tryz.results35,go_sem, *]) rfl ⟨ag, .inr ⟨HG.out,⟨bA b s,T 0,T 1,T 2,b.floor⟩,sn,sc,g0,l0,p0,g1,l1,p1,g2,l2,p2,rfl,fun w'' hk=>HB.out w'' (aQ.trans ?_ (hk.mono af)),rfl,rfl,VB.out.1,VB.out.2,fun j hj=>?_⟩⟩
    ·repeat (first|with_reducible exact aQ.refl _ _|with_reducible refine aQ.set ?_ (by show w.heap.size+2<w.heap.size+3;omega) _)
    ·have h3:j=0\/j=1\/j=2:=af
     have:=(HD.out j hj).2.2.1
     rcases h3 with rfl|rfl|rfl <;> exact this
end
theorem xx {v:Value} {b:Ba} {s:ByteArray} {time value:Int} {w:World} (h:bQ w v b) (hst:∀s∈b.names,s.size<=140737488351232) (xj:s.size<=140737488351232) (hsz:bS w) :
  Calls Tryz.prog 35 #[v, .agg #[.string s, .int .i64 time, .int .i64 value]] w fun x w'=>ah w w' /\
   ((jv b s time value≠0/\x = .returned (.tuple #[dH, .int .i64 (jv b s time value)]))\/(jv b s time value=0/\Oq b s time value w.heap.size x w')):=by
 obtain⟨sa,sc,g0,l0,p0,g1,l1,p1,g2,l2,p2,rfl,-⟩:=h.open
 have er:∀{k:Int},jv b s time value=k->k≠0->Calls Tryz.prog 35 #[.agg (aJ sa b.names.length sc g0 l0 p0 g1 l1 p1 g2 l2 p2 b), .agg #[.string s, .int .i64 time, .int .i64 value]] w (fun x w'=>ah w w'/\x = .returned (.tuple #[dH, .int .i64 k])) ->
   Calls Tryz.prog 35 #[.agg (aJ sa b.names.length sc g0 l0 p0 g1 l1 p1 g2 l2 p2 b), .agg #[.string s, .int .i64 time, .int .i64 value]] w (fun x w'=>ah w w'/\((jv b s time value≠0/\x = .returned (.tuple #[dH, .int .i64 (jv b s time value)]))\/(jv b s time value=0/\Oq b s time value w.heap.size x w'))):=fun {k} e hk hc=>by
  subst e
  exact hc.mono fun x w' ⟨h1,h2⟩=>⟨h1, .inl ⟨hk,h2⟩⟩
 by_cases hm:aR b=true
 ·by_cases hn:dG s=true
  ·by_cases hr:0<=time/\time<=1048575/\-1000000<=value/\value<=1000000
   ·have hro:(eH time value).2=0:=by unfold eH;rw [ar hr]
    by_cases hf:time<b.floor
    ·exact er (by unfold jv;rw [ai (by simp [hm]),ai (by simp [hn]),ai (by simp [hro]),ar hf]) aY (yu h hst xj hsz (.inr (.inr (.inr ⟨hm,hn,hr,hf,rfl⟩))))
    ·by_cases hp:aG b.names s<0/\16<=b.names.length
     ·have Qj:=(dK hm).n16
      have hp1:aG b.names s = -1:=by
       rcases eY b.names s with ⟨k,-,e,-⟩|⟨e,-⟩
       ·omega
       ·exact e
      exact er (by unfold jv;rw [ai (by simp [hm]),ai (by simp [hn]),ai (by simp [hro]),ai hf,ar hp]) aY (NH h hst xj hsz hm hn hr af hp1 af)
     ·have h0:jv b s time value=0:=by unfold jv;rw [ai (by simp [hm]),ai (by simp [hn]),ai (by simp [hro]),ai hf,ai hp]
      exact(Um h hst xj hsz h0).mono fun x w' ⟨h1,h2⟩=>⟨h1, .inr ⟨h0,h2⟩⟩
   ·have hro:(eH time value).2=2:=by unfold eH;rw [ai hr]
    exact er (by unfold jv;rw [ai (by simp [hm]),ai (by simp [hn]),ar (by simp [hro]),hro]) aY (yu h hst xj hsz (.inr (.inr (.inl ⟨hm,hn,hr,rfl⟩))))
  ·have hn:dG s=false:=by simpa using hn
   exact er (by unfold jv;rw [ai (by simp [hm]),ar hn]) aY (yu h hst xj hsz (.inr (.inl ⟨hm,hn,rfl⟩)))
 ·have hm:aR b=false:=by simpa using hm
  exact er (by unfold jv;rw [ar hm]) aY (yu h hst xj hsz (.inl ⟨hm,rfl⟩))
end Go.Proofs.YtmljjfhgciaceaaGreatDoor
