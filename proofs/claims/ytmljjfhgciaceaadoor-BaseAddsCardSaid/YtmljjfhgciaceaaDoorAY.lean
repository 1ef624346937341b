/- Texts of mine that come as one: AddG AddAny. -/
import Derived.Test.YtmljjfhgciaceaaDoorHd
import Derived.Test.YtmljjfhgciaceaaDoorAK
import Derived.Test.YtmljjfhgciaceaaDoorSO
namespace Go.Proofs.YtmljjfhgciaceaaDoor
open Go.RowKit
section
set_option maxRecDepth 100000
set_option maxHeartbeats 4000000
variable {b:Ba} {s:ByteArray} {time value rt:Int} {l:List aC} {k B n c sc l0 p0 l1 p1 l2 p2:Nat} {so sa g0 g1 g2:Option Addr} {w' w:World}
def Ol (b:Ba) (s:ByteArray) (time value:Int) (B:Nat) (x:Ending) (w':World):Prop:=
 (∃E,E=1/\x = .returned (.tuple #[dC, .int .i64 E])/\(ny b s time value=1\/(ny b s time value=0/\∃k,k<3/\3001<nC (b.tree k)))) \/
 (ny b s time value=0/\∃b' sa sc g0 l0 p0 g1 l1 p1 g2 l2 p2,x = .returned (.tuple #[.agg (aG sa b'.names.length sc g0 l0 p0 g1 l1 p1 g2 l2 p2 b'), .int .i64 0])/\(∀w'',aM B w' w''->bO w'' (.agg (aG sa b'.names.length sc g0 l0 p0 g1 l1 p1 g2 l2 p2 b')) b') /\
  b'.names=bC b s/\b'.floor=b.floor/\aO b'=true/\bY b'=some (Ff b s time value)/\∀k,k<3->nC (b'.tree k)<=nC (b.tree k)+1)
theorem NJ (h:jw b s time value=0):ny b s time value=0\/ny b s time value=1:=by
 unfold ny
 rw [ai (by simp [h])]
 split
 ·exact .inl rfl
 ·split
  ·exact .inr rfl
  ·split
   ·exact .inr rfl
   ·exact .inl rfl
theorem CU {E2:Int} (hF:jw b s time value=0) (hl:bY b=some l) (hk:k<3)
  (h:fJ B (b.tree k) (dW b s time value k).key (dW b s time value k).is w' so n c rt E2) (h0:E2≠0):E2=1/\(ny b s time value=1\/(ny b s time value=0/\∃k,k<3/\3001<nC (b.tree k))):=by
 rcases h with ⟨h1,h2⟩|⟨h1,t2,h2,l2,g1,g2,g3,⟨g4,-⟩|⟨g4,g5⟩⟩
 ·rcases (kr hF hl hk).1 with ⟨p1,-⟩|⟨p1,p2⟩
  ·exact absurd p1 h1
  ·exact⟨h2.trans p1, .inl (NK hF hl hk p2)⟩
 ·exact absurd g4 h0
 ·refine⟨g4,(NJ hF).symm.imp id fun h=>⟨h,k,hk,?_⟩⟩
  have:=g1.grown g5
  omega
theorem H6 (hF:jw b s time value=0) (hl:bY b=some l) (hk:k<3)
  (h:fJ B (b.tree k) (dW b s time value k).key (dW b s time value k).is w' so n c rt 0):∃t',(∀w'',aM B w' w''->bM w'' (.agg #[.slice so n c, .int .i64 rt]) t')/\ax t'=0/\il t'.all (dW b s time value k::(b.tree k).all)/\nC t'<=nC (b.tree k)+1/\Small (dW b s time value k::(b.tree k).all):=by
 rcases h with ⟨h1,h2⟩|⟨h1,t2,h2,l2,g1,g2,g3,⟨-,g5,-,g7⟩|⟨g4,g5⟩⟩
 ·omega
 ·refine⟨t2,g7,g5,g2,g3,?_⟩
  rcases (kr hF hl hk).1 with ⟨-,p2⟩|⟨p1,p2⟩
  ·exact p2
  ·have:(1:Int)=0:=p1.symm.trans h1
   omega
 ·omega
theorem NH (h:bO w (.agg (aG sa b.names.length sc g0 l0 p0 g1 l1 p1 g2 l2 p2 b)) b)
  (hst:∀s∈b.names,s.size<=140737488351232) (xB:s.size<=140737488351232) (hsz:bL w) (hm:aO b=true) (hn:dL s=true) (hr:0<=time/\time<=1048575/\-1000000<=value/\value<=1000000) (hf:b.floor<=time) (hp:aS b.names s = -1) (Qf:b.names.length=16) :
  Calls Tryd.prog 22 #[.agg (aG sa b.names.length sc g0 l0 p0 g1 l1 p1 g2 l2 p2 b), .agg #[.string s, .int .i64 time, .int .i64 value]] w fun x w'=>ah w w'/\x = .returned (.tuple #[dC, .int .i64 1]):=by
 obtain⟨W0,hW0⟩:=bP (((w.alloc (.cells (aG sa b.names.length sc g0 l0 p0 g1 l1 p1 g2 l2 p2 b) 35)).alloc (.cells #[.string s, .int .i64 time, .int .i64 value] 59)).alloc (.cells cL 35))
 have h0:=kP.start hW0
 have tW:=hdd h0
 have z0:=h0.size
 have iq:=hdd (eO (h.below h0.below) hst (hsz.below h0.below))
 have xR:=hdd fun w'=>uv s w' xB
 have nY:=hdd fun w'=>Gf time value w'
 rw [dG hm]at iq
 rw [hn]at xR
 rw [show fF time value=(⟨1,value,value,value,time,value⟩,0)from ar hr]at nY
 have HH:=hdd (show bO w (.agg (aG sa b.names.length sc g0 l0 p0 g1 l1 p1 g2 l2 p2 b)) b from h)
 have H16:=hdd (aL hp Qf)
 clear hm hn hr hp Qf
 obtain⟨y0,y1,y2,y3,y4,y5,y6,y7,yf⟩:=h0.bs
 clear h hst xB hsz h0
 go_enter Tryd.func22,Tryd.ntmps22
 go_upto_region 1 with (fail)
 rw [<-hW0]
 clear hW0
 go_upto_region 7 with (first|(go_at_call 31;(with_reducible refine iq.out.mono ?_);rintro e w1 ⟨rfl,hb1⟩;have gD:=hdd (tW.out.later hb1 z0);have z1:=gD.out.size;clear y0 y1 y2 y3 y4 y5 y6 y7 yf;obtain⟨y0,y1,y2,y3,y4,y5,y6,y7,yf⟩:=gD.out.bs;obtain⟨q0,q1,q2⟩:=gD.out.oO;obtain⟨r0,r1,r2,r3,r4,r5,r6,r7,rf⟩:=gD.out.zs;clear hb1)|(go_at_call 39;(with_reducible refine(xR.out w1).mono ?_);rintro e w2 ⟨rfl,hb2⟩;have nH:=hdd (gD.out.later hb2 z1);have z2:=nH.out.size;clear y0 y1 y2 y3 y4 y5 y6 y7 yf q0 q1 q2 r0 r1 r2 r3 r4 r5 r6 r7 rf;obtain⟨y0,y1,y2,y3,y4,y5,y6,y7,yf⟩:=nH.out.bs;obtain⟨q0,q1,q2⟩:=nH.out.oO;obtain⟨r0,r1,r2,r3,r4,r5,r6,r7,rf⟩:=nH.out.zs;clear hb2)|(go_at_call 17;(with_reducible refine(nY.out w2).mono ?_);rintro e w3 ⟨rfl,hb3⟩))
 obtain⟨W3,hW3⟩:=bP (w3.alloc (.cells #[.int .i64 1, .int .i64 value, .int .i64 value, .int .i64 value, .int .i64 time, .int .i64 value] 42))
 have sU:=hdd (show ah w2 W3 from by rw [hW3];exact Below.trans' hb3 ((aI _ _).alloc aH _) hb3.size)
 have vG:=hdd (nH.out.later sU.out z2)
 have UL:W3.heap.size=w3.heap.size+1:=by rw [hW3];simp
 have z3:w.heap.size+3<=w3.heap.size:=by have:=hb3.size;omega
 have Fp:=hdd (show W3.heap[w3.heap.size]?=some (.cells #[.int .i64 1, .int .i64 value, .int .i64 value, .int .i64 value, .int .i64 time, .int .i64 value] 42) by rw [hW3];exact aj _ _ rfl)
 rw [<-hW3]
 clear hW3 hb3 y0 y1 y2 y3 y4 y5 y6 y7 yf q0 q1 q2 r0 r1 r2 r3 r4 r5 r6 r7 rf
 obtain⟨y0,y1,y2,y3,y4,y5,y6,y7,yf⟩:=vG.out.bs
 obtain⟨q0,q1,q2⟩:=vG.out.oO
 obtain⟨r0,r1,r2,r3,r4,r5,r6,r7,rf⟩:=vG.out.zs
 have RM:=hdd (oF (HH.out.below vG.out.below))
 go_upto_region 12 with ((go_at_call 40;(with_reducible refine RM.out.mono ?_);rintro e w4 ⟨hb4,sn,sI,a0,m0,n0,a1,m1,n1,a2,m2,n2,rfl,hown,M,hM1,hM2,Xr,MI,je⟩;have Xp:=vG.out.later hb4 af;have Ji:=hdd Xp;have wV:=hdd hb4;have FE:=hdd (aL hown (aL Xr (aL MI je)));have YK:=hb4.size;clear hown Xr MI je hb4 Xp y0 y1 y2 y3 y4 y5 y6 y7 yf q0 q1 q2 r0 r1 r2 r3 r4 r5 r6 r7 rf;obtain⟨y0,y1,y2,y3,y4,y5,y6,y7,yf⟩:=Ji.out.bs))
 obtain⟨W5,mN⟩:=bP ((((((((w4.setCell ⟨w.heap.size,0,none⟩ (.slice sn b.names.length sI)).setCell ⟨w.heap.size,1,none⟩ (.slice a0 m0 n0)).setCell ⟨w.heap.size,2,none⟩ (.int .i64 b.t0.root)).setCell ⟨w.heap.size,3,none⟩ (.slice a1 m1 n1)).setCell ⟨w.heap.size,4,none⟩ (.int .i64 b.t1.root)).setCell ⟨w.heap.size,5,none⟩ (.slice a2 m2 n2)).setCell ⟨w.heap.size,6,none⟩ (.int .i64 b.t2.root)).setCell ⟨w.heap.size,7,none⟩ (.int .i64 b.floor))
 have Ng:∀q,q≠w.heap.size->W5.heap[q]?=w4.heap[q]?:=fun q hq=>by rw [mN];exact aac hq
 have h5s:W5.heap.size=w4.heap.size:=by rw [mN];simp only [aA]
 have XA:ah w W5:=by
  have:=Ji.out.below
  rw [mN]
  exact(((((((this.setCell aH _).setCell aH _).setCell aH _).setCell aH _).setCell aH _).setCell aH _).setCell aH _).setCell aH _
 have Fq:=hdd (show kP w #[.slice sn b.names.length sI, .slice a0 m0 n0, .int .i64 b.t0.root, .slice a1 m1 n1, .int .i64 b.t1.root, .slice a2 m2 n2, .int .i64 b.t2.root, .int .i64 b.floor] s time value W5 from
  ⟨XA,by rw [h5s];exact Ji.out.size,by rw [mN];exact jb Ji.out.box,(Ng _ af).trans Ji.out.pt,(Ng _ af).trans Ji.out.res⟩)
 have Ya:=hdd (show ∀N,w.heap.size<N->aM N w4 W5 from fun N hN=>⟨af,fun q hq _=>Ng q af⟩)
 have OP:=hdd (show W5.heap[w3.heap.size]?=some (.cells #[.int .i64 1, .int .i64 value, .int .i64 value, .int .i64 value, .int .i64 time, .int .i64 value] 42)from (Ng _ af).trans ((wV.out.block _ af).trans Fp.out))
 have Bh:=hdd (mK (s:=s) (w:=W5) (v:= .slice sn b.names.length sI) (xs:=b.names) (by
  obtain⟨nv,x0,x1,x2,e,hs,-⟩:=FE.out.2.2.2 W5 (Ya.out _ af)
  have e:=congrArg (fun v=>match v with | .agg a=>a[0]?|_=>none) e
  simp at e
  rw [e];exact hs))
 rw [<-mN]
 clear mN Ng XA y0 y1 y2 y3 y4 y5 y6 y7 yf
 obtain⟨y0,y1,y2,y3,y4,y5,y6,y7,yf⟩:=Fq.out.bs
 obtain⟨q0,q1,q2⟩:=Fq.out.oO
 obtain⟨hp,Qf⟩:=H16.out
 rw [hp]at Bh
 have agF:((b.names.length:Int) == 16)=true:=by simp [Qf]
 clear hp Qf
 go_wp2_with ((go_at_call 41;(with_reducible refine Bh.out.mono ?_);rintro e w6 ⟨rfl,jf⟩;have OU:=hdd (Fq.out.later jf Fq.out.size);obtain⟨Jn,Yv,Yu,y3',y4',y5',y6',y7',yf'⟩:=OU.out.bs;obtain⟨r0,r1,r2,r3,r4,r5,r6,r7,rf⟩:=OU.out.zs))
 have cZ:=OU.out.below
 exact bodyPost_ret (v:= .tuple #[dC, .int .i64 1]) (by simp [results,Tryd.results22,go_sem, *]) rfl ⟨ag,rfl⟩
theorem Ue (h:bO w (.agg (aG sa b.names.length sc g0 l0 p0 g1 l1 p1 g2 l2 p2 b)) b)
  (hst:∀s∈b.names,s.size<=140737488351232) (xB:s.size<=140737488351232) (hsz:bL w) (hF:jw b s time value=0) :
  Calls Tryd.prog 22 #[.agg (aG sa b.names.length sc g0 l0 p0 g1 l1 p1 g2 l2 p2 b), .agg #[.string s, .int .i64 time, .int .i64 value]] w fun x w'=>ah w w'/\Ol b s time value w.heap.size x w':=by
 obtain⟨W0,hW0⟩:=bP (((w.alloc (.cells (aG sa b.names.length sc g0 l0 p0 g1 l1 p1 g2 l2 p2 b) 35)).alloc (.cells #[.string s, .int .i64 time, .int .i64 value] 59)).alloc (.cells cL 35))
 have h0:=kP.start hW0
 have tW:=hdd h0
 have z0:=h0.size
 have iq:=hdd (eO (h.below h0.below) hst (hsz.below h0.below))
 have xR:=hdd fun w'=>uv s w' xB
 have nY:=hdd fun w'=>Gf time value w'
 obtain⟨hm,hn,hro,ht0,ht1,hv0,hv1,hfl,hi0,hi1,hnl⟩:=mS hF
 rw [dG hm]at iq
 rw [hn]at xR
 rw [hro]at nY
 have HF:=hdd hF
 have HH:=hdd (show bO w (.agg (aG sa b.names.length sc g0 l0 p0 g1 l1 p1 g2 l2 p2 b)) b/\bL w from ⟨h,hsz⟩)
 have Zn:=hdd hnl
 clear hm hn hro hF hnl hv0 hv1
 obtain⟨y0,y1,y2,y3,y4,y5,y6,y7,yf⟩:=h0.bs
 clear h hst xB hsz h0
 go_enter Tryd.func22,Tryd.ntmps22
 go_upto_region 1 with (fail)
 rw [<-hW0]
 clear hW0
 go_upto_region 7 with (first|(go_at_call 31;(with_reducible refine iq.out.mono ?_);rintro e w1 ⟨rfl,hb1⟩;have gD:=hdd (tW.out.later hb1 z0);have z1:=gD.out.size;clear y0 y1 y2 y3 y4 y5 y6 y7 yf;obtain⟨y0,y1,y2,y3,y4,y5,y6,y7,yf⟩:=gD.out.bs;obtain⟨q0,q1,q2⟩:=gD.out.oO;obtain⟨r0,r1,r2,r3,r4,r5,r6,r7,rf⟩:=gD.out.zs;clear hb1)|(go_at_call 39;(with_reducible refine(xR.out w1).mono ?_);rintro e w2 ⟨rfl,hb2⟩;have nH:=hdd (gD.out.later hb2 z1);have z2:=nH.out.size;clear y0 y1 y2 y3 y4 y5 y6 y7 yf q0 q1 q2 r0 r1 r2 r3 r4 r5 r6 r7 rf;obtain⟨y0,y1,y2,y3,y4,y5,y6,y7,yf⟩:=nH.out.bs;obtain⟨q0,q1,q2⟩:=nH.out.oO;obtain⟨r0,r1,r2,r3,r4,r5,r6,r7,rf⟩:=nH.out.zs;clear hb2)|(go_at_call 17;(with_reducible refine(nY.out w2).mono ?_);rintro e w3 ⟨rfl,hb3⟩))
 obtain⟨W3,hW3⟩:=bP (w3.alloc (.cells #[.int .i64 1, .int .i64 value, .int .i64 value, .int .i64 value, .int .i64 time, .int .i64 value] 42))
 have sU:=hdd (show ah w2 W3 from by rw [hW3];exact Below.trans' hb3 ((aI _ _).alloc aH _) hb3.size)
 have vG:=hdd (nH.out.later sU.out z2)
 have UL:W3.heap.size=w3.heap.size+1:=by rw [hW3];simp
 have z3:w.heap.size+3<=w3.heap.size:=by have:=hb3.size;omega
 have Fp:=hdd (show W3.heap[w3.heap.size]?=some (.cells #[.int .i64 1, .int .i64 value, .int .i64 value, .int .i64 value, .int .i64 time, .int .i64 value] 42) by rw [hW3];exact aj _ _ rfl)
 rw [<-hW3]
 clear hW3 hb3 y0 y1 y2 y3 y4 y5 y6 y7 yf q0 q1 q2 r0 r1 r2 r3 r4 r5 r6 r7 rf
 obtain⟨y0,y1,y2,y3,y4,y5,y6,y7,yf⟩:=vG.out.bs
 obtain⟨q0,q1,q2⟩:=vG.out.oO
 obtain⟨r0,r1,r2,r3,r4,r5,r6,r7,rf⟩:=vG.out.zs
 have RM:=hdd (oF (HH.out.1.below vG.out.below))
 go_upto_region 12 with ((go_at_call 40;(with_reducible refine RM.out.mono ?_);rintro e w4 ⟨hb4,sn,sI,a0,m0,n0,a1,m1,n1,a2,m2,n2,rfl,hown,M,hM1,hM2,Xr,MI,je⟩;have Xp:=vG.out.later hb4 af;have Ji:=hdd Xp;have wV:=hdd hb4;have FE:=hdd (aL hown (aL Xr (aL MI je)));have YK:=hb4.size;clear hown Xr MI je hb4 Xp y0 y1 y2 y3 y4 y5 y6 y7 yf q0 q1 q2 r0 r1 r2 r3 r4 r5 r6 r7 rf;obtain⟨y0,y1,y2,y3,y4,y5,y6,y7,yf⟩:=Ji.out.bs))
 obtain⟨W5,mN⟩:=bP ((((((((w4.setCell ⟨w.heap.size,0,none⟩ (.slice sn b.names.length sI)).setCell ⟨w.heap.size,1,none⟩ (.slice a0 m0 n0)).setCell ⟨w.heap.size,2,none⟩ (.int .i64 b.t0.root)).setCell ⟨w.heap.size,3,none⟩ (.slice a1 m1 n1)).setCell ⟨w.heap.size,4,none⟩ (.int .i64 b.t1.root)).setCell ⟨w.heap.size,5,none⟩ (.slice a2 m2 n2)).setCell ⟨w.heap.size,6,none⟩ (.int .i64 b.t2.root)).setCell ⟨w.heap.size,7,none⟩ (.int .i64 b.floor))
 have Ng:∀q,q≠w.heap.size->W5.heap[q]?=w4.heap[q]?:=fun q hq=>by rw [mN];exact aac hq
 have h5s:W5.heap.size=w4.heap.size:=by rw [mN];simp only [aA]
 have XA:ah w W5:=by
  have:=Ji.out.below
  rw [mN]
  exact(((((((this.setCell aH _).setCell aH _).setCell aH _).setCell aH _).setCell aH _).setCell aH _).setCell aH _).setCell aH _
 have Fq:=hdd (show kP w #[.slice sn b.names.length sI, .slice a0 m0 n0, .int .i64 b.t0.root, .slice a1 m1 n1, .int .i64 b.t1.root, .slice a2 m2 n2, .int .i64 b.t2.root, .int .i64 b.floor] s time value W5 from
  ⟨XA,by rw [h5s];exact Ji.out.size,by rw [mN];exact jb Ji.out.box,(Ng _ af).trans Ji.out.pt,(Ng _ af).trans Ji.out.res⟩)
 have Ya:=hdd (show ∀N,w.heap.size<N->aM N w4 W5 from fun N hN=>⟨af,fun q hq _=>Ng q af⟩)
 have OP:=hdd (show W5.heap[w3.heap.size]?=some (.cells #[.int .i64 1, .int .i64 value, .int .i64 value, .int .i64 value, .int .i64 time, .int .i64 value] 42)from (Ng _ af).trans ((wV.out.block _ af).trans Fp.out))
 have Bh:=hdd (mK (s:=s) (w:=W5) (v:= .slice sn b.names.length sI) (xs:=b.names) (by
  obtain⟨nv,x0,x1,x2,e,hs,-⟩:=FE.out.2.2.2 W5 (Ya.out _ af)
  have e:=congrArg (fun v=>match v with | .agg a=>a[0]?|_=>none) e
  simp at e
  rw [e];exact hs))
 rw [<-mN]
 clear mN Ng XA y0 y1 y2 y3 y4 y5 y6 y7 yf
 obtain⟨y0,y1,y2,y3,y4,y5,y6,y7,yf⟩:=Fq.out.bs
 obtain⟨q0,q1,q2⟩:=Fq.out.oO
 go_upto_region 13 with ((go_at_call 41;(with_reducible refine Bh.out.mono ?_);rintro e w6 ⟨rfl,jf⟩))
 have pA:=hdd jf
 have OU:=hdd (Fq.out.later jf Fq.out.size)
 have z6:=jf.size
 clear jf y0 y1 y2 y3 y4 y5 y6 y7 yf q0 q1 q2
 obtain⟨y0,y1,y2,y3,y4,y5,y6,y7,yf⟩:=OU.out.bs
 obtain⟨q0,q1,q2⟩:=OU.out.oO
 have Wp:b.names.length<=16:=(dH (mS HF.out).1).n16
 have hK6:∀N,w.heap.size<N->aM N w4 w6:=fun N hN=>(Ya.out N hN).trans ⟨pA.out.size,fun q _ hq=>pA.out.block q hq⟩
 have HOW:=hdd (show w6.ownsRow (W3.heap.size+2) 9 1 (.slice sn b.names.length sI) b.names.length (b.names.flatMap jg)from oY FE.out.1 (hK6 _ af) aH)
 have X9:=hdd hK6
 have Zi:=hdd ((pA.out.block _ (by have:=OP.out;exact(eI.1 this).1)).trans OP.out)
 clear hK6
 go_upto_if 51 with (fail)
 go_cut [9] (fun i wx=>∃(YD:Option Addr) (YE:Nat),i = .int .i64 (aaj b s)/\Hid (kP w #[.slice YD (bC b s).length YE, .slice a0 m0 n0, .int .i64 b.t0.root, .slice a1 m1 n1, .int .i64 b.t1.root, .slice a2 m2 n2, .int .i64 b.t2.root, .int .i64 b.floor] s time value wx/\aM M w4 wx/\wx.heap[w3.heap.size]?=some (.cells #[.int .i64 1, .int .i64 value, .int .i64 value, .int .i64 value, .int .i64 time, .int .i64 value] 42) /\
  wx.ownsRow (W3.heap.size+2) 9 1 (.slice YD (bC b s).length YE) (bC b s).length ((bC b s).flatMap jg)))
 case first=>
  rcases fW b.names s with ⟨pk,hpk,hp,-⟩|⟨hp,-⟩
  ·have HA:=hdd (show aaj b s=pk/\bC b s=b.names from ⟨by unfold aaj;rw [hp,ai af],by unfold bC;rw [hp,ai af]⟩)
   rw [hp]
   clear hp
   go_wp2_with fail
   go_meet
   rw [HA.out.1,HA.out.2]
   exact⟨sn,sI,rfl,hdd ⟨OU.out,X9.out _ af,Zi.out,HOW.out⟩⟩
  ·have HA:=hdd (show aaj b s=b.names.length/\bC b s=b.names++[s]from ⟨by unfold aaj;rw [hp,ar af],by unfold bC;rw [hp,ar af]⟩)
   have ads:=Zn.out (by rw [hp];decide)
   rw [hp]
   clear hp
   obtain⟨W7,jA⟩:=bP (w6.alloc (.cells #[.string s] 9))
   have qE:ah w6 W7:=by rw [jA];exact ag
   have k7:W7.heap[w6.heap.size]?=some (.cells #[.string s] 9):=by rw [jA];exact aj _ _ rfl
   have Ef:W7.heap.size=w6.heap.size+1:=by rw [jA];simp
   have Uu:=hdd (gu HOW.out qE)
   have OT:=hdd (OU.out.later qE (by have:=OU.out.size;omega))
   have c7:W7.cell? ⟨w6.heap.size,0,none⟩=some (.string s):=by simp [World.cell?,k7]
   have hne:(b.names.length:Int)≠16:=af
   have hnb:((b.names.length:Int) == 16)=false:=by simp;omega
   have xS:=hdd qE
   have HG8:=hdd fun(w8:World) (Tc:W7.grownBy w8 (Value.slice sn b.names.length sI).ownBlock)=>(by
    have hq:∀q,q<W3.heap.size+2->w8.heap[q]?=W7.heap[q]?:=fun q hq=>Tc.block q (by have:=OT.out.size;omega) (fun e=>by have:=(Uu.out.lt q e.symm).1;omega)
    have h7:=OT.out
    refine⟨⟨Below.grown h7.below Tc h7.below.size (fun j hj=>by have:=(Uu.out.lt j hj).1;omega),by have:=Tc.size;have:=h7.size;omega,(hq _ af).trans h7.box,(hq _ af).trans h7.pt,(hq _ af).trans h7.res⟩,(hq _ af).trans ((xS.out.block _ (by have:=(eI.1 Zi.out).1;omega)).trans Zi.out),((X9.out M af).trans (aM.of xS.out aH)).trans ⟨Tc.size,fun q hqM hq=>Tc.block q hq fun e=>by have:=FE.out.2.1 q e.symm;omega⟩⟩ :
    kP w #[.slice sn b.names.length sI, .slice a0 m0 n0, .int .i64 b.t0.root, .slice a1 m1 n1, .int .i64 b.t1.root, .slice a2 m2 n2, .int .i64 b.t2.root, .int .i64 b.floor] s time value w8/\w8.heap[w3.heap.size]?=some (.cells #[.int .i64 1, .int .i64 value, .int .i64 value, .int .i64 value, .int .i64 time, .int .i64 value] 42)/\aM M w4 w8)
   clear qE k7
   go_wp2_with ((at_builtin;refine mX rfl (.tmp 59) (.tmp 62) rfl (W3.heap.size+2) (.slice sn b.names.length sI) b.names rfl (jA▸Uu.out) ⟨w6.heap.size,0,none⟩ s rfl (jA▸c7) af (by simp;omega) ?_;rw [<-jA];intro v8 w8 VH Tc VV;obtain⟨s8,c8,rfl⟩:=dE VH;have WC:=HG8.out _ Tc;obtain⟨agu,-,-,-,-,-,-,-,ago⟩:=WC.1.bs))
   go_meet
   obtain⟨Xy,YY,hK8⟩:=WC
   rw [HA.out.1,HA.out.2]
   have Eo:(b.names++[s]).length=b.names.length+1:=bj
   rw [Eo]
   have SQ:∀q,q≠w.heap.size->(w8.setCell ⟨w.heap.size,0,none⟩ (.slice s8 (b.names.length+1) c8)).heap[q]?=w8.heap[q]?:=fun q hq=>heap_setCell_other _ ⟨w.heap.size,_,none⟩ q _ hq
   refine⟨s8,c8,rfl,hdd ⟨⟨Xy.below.setCell aH _,by simp only [aA];exact Xy.size,?_,(SQ _ af).trans Xy.pt,(SQ _ af).trans Xy.res⟩,hK8.set (by show w.heap.size<M;omega) _,(SQ _ af).trans YY,ow VH af _⟩⟩
   have:=heap_setCell_same (off:=0) (v:= .slice s8 (b.names.length+1) c8) Xy.box
   simpa using this
 case rest=>
  obtain⟨YD,YE,rfl,HC⟩:=hcut
  have ag5:(bC b s).length<=17:=by
   unfold bC
   split
   ·rw [dO,List.length_singleton];omega
   ·omega
  have HST:=hdd (show vw w b s time value w3.heap.size 0 YD YE a0 m0 n0 b.t0.root a1 m1 n1 b.t1.root a2 m2 n2 b.t2.root (fun j=>b.tree j) wc from by
   obtain⟨c1,c2,c3,c4⟩:=HC.out
   have hn:=FE.out.2.2.1
   exact⟨c1,c3,z3,fun w'' hk=>dK.owned kF (oY c4 hk af) rfl af,fun w'' hk=>⟨_,rfl,(hn w'' (c2.trans (hk.mono af))).1⟩,fun w'' hk=>⟨_,rfl,(hn w'' (c2.trans (hk.mono af))).2.1⟩,fun w'' hk=>⟨_,rfl,(hn w'' (c2.trans (hk.mono af))).2.2⟩,fun j hj=>af,fun j _ _=>rfl⟩)
  obtain⟨l,hl⟩:∃l,bY b=some l:=by obtain⟨l,hl,-⟩:=aaK (mS HF.out).1;exact⟨l,hl⟩
  have HL:=hdd hl
  obtain⟨-,s0,s1,s2⟩:=HH.out.2.below HST.out.at'.below
  clear HC FE HOW X9 Zi pA OU Bh OP Ya Fq wV Ji RM Fp vG sU nH gD tW iq xR nY hl Zn Wp y0 y1 y2 y3 y4 y5 y6 y7 yf q0 q1 q2
  obtain⟨rb,IX⟩:=bt (w3.heap.size)
  rw [IX]at HST ⊢
  clear IX
  obtain⟨I,hI⟩:=bt (aaj b s)
  rw [hI]at hi0 hi1
  rw [hI]
  have HI:=hdd hI
  clear hI
  go_wp2_with fail
  clear s0 s1 s2
  go_loopg [66] 3 (fun g i wr=>∃k,k<=3/\g=3-k/\i = .int .i64 k/\Hid (∃sn sc g0 l0 p0 r0 g1 l1 p1 r1 g2 l2 p2 r2 T,vw w b s time value rb k sn sc g0 l0 p0 r0 g1 l1 p1 r1 g2 l2 p2 r2 T wr))
  case atStart=>exact⟨0,af,rfl,rfl,hdd ⟨_,_,_,_,_,_,_,_,_,_,_,_,_,_,_,HST.out⟩⟩
  case round=>
   clear HST
   obtain⟨k,hk,rfl,rfl,HR⟩:=hrel
   obtain⟨sn,sc,g0,l0,p0,r0,g1,l1,p1,r1,g2,l2,p2,r2,T,hA⟩:=HR.out
   by_cases hlt:k<3
   ·obtain rfl|rfl|rfl:k=0\/k=1\/k=2:=af
    ·have Rm:=hA.rest 0 aH aW
     have Ry:=hdd (show ∀w'',aM (w.heap.size+3) wr w''->bM w'' (.agg #[.slice g0 l0 p0, .int .i64 r0]) (b.tree 0)from fun w'' hk=>by rw [<-Rm];exact hA.t0 w'' hk)
     have UX:=hA.at'.size
     obtain⟨y0,y1,y2,y3,y4,y5,y6,y7,yf⟩:=hA.at'.bs
     obtain⟨q0,q1,q2⟩:=hA.at'.oO
     have zE:=hA.LK
     have hrl:=(eI.1 zE).1
     have HA:=hdd hA
     have kZ:=zB
     obtain⟨Q,hQ⟩:=bt (time/1)
     have Vc:0<=Q/\Q<=1048575/\0<=Q/\Q<=time:=by rw [<-hQ];omega
     have ht1:time.tdiv 1=Q:=by rw [Bf af];exact hQ
     have ht2:IntKind.i64.wrap Q=Q:=IntWalk.i64_in _ af
     have Ot:IntKind.i64.wrap (Q)=Q:=IntWalk.i64_in _ af
     have U1:IntKind.i64.wrap (I*1048576)=I*1048576:=IntWalk.i64_in _ af
     have qq:IntKind.i64.wrap (I*1048576+Q)=I*1048576+Q:=IntWalk.i64_in _ af
     have HKEY:=hdd (show (dW b s time value 0).key=I*1048576+Q from by show aaj b s*1048576+time/1*1=_;rw [HI.out,hQ];try rw [Int.mul_one])
     have RD:=hdd fun(W:World) (hb:ah wr W)=>(by
      have h1:=mD (w:=W) (key:=(dW b s time value 0).key) (r:=(dW b s time value 0).is) (Ry.out W (aM.of hb aH)) (fun h0=>by
       rcases (kr HF.out HL.out (k:=0) aW).1 with ⟨-,p2⟩|⟨p1,-⟩
       ·exact p2
       ·have:(0:Int)=1:=h0.symm.trans p1
        omega)
      have h2:(fun x w'=>ah W w'/\∃so n c rt E2,x=Ending.returned (.tuple #[.agg #[.slice so n c, .int .i64 rt], .int .i64 E2])/\fJ W.heap.size (b.tree 0) (dW b s time value 0).key (dW b s time value 0).is w' so n c rt E2)=(fun x w'=>ah W w'/\∃so n c rt E2,x=Ending.returned (.tuple #[.agg #[.slice so n c, .int .i64 rt], .int .i64 E2])/\fJ W.heap.size (b.tree 0) (dW b s time value 0).key (dW b s time value 0).is w' so n c rt E2):=rfl
      rw [HKEY.out]at h1
      rw [HKEY.out]
      exact h1:Calls Tryd.prog 42 #[.agg #[.slice g0 l0 p0, .int .i64 r0], .int .i64 (I*1048576+Q), .agg #[.int .i64 1, .int .i64 value, .int .i64 value, .int .i64 value, .int .i64 time, .int .i64 value]] W fun x w'=>ah W w'/\∃so n c rt E2,x = .returned (.tuple #[.agg #[.slice so n c, .int .i64 rt], .int .i64 E2])/\fJ W.heap.size (b.tree 0) (dW b s time value 0).key (dW b s time value 0).is w' so n c rt E2)
     have HS:=hdd fun(W:World) (hb:ah wr W)=>(by
      have c:∀g o,g<wr.heap.size->W.cell? ⟨g,o,none⟩=wr.cell? ⟨g,o,none⟩:=fun g o h=>hb.cell (p:=⟨g,o,none⟩) h
      have hr:=(hb.block rb hrl).trans zE
      exact⟨(c _ _ af).trans y1,(c _ _ af).trans y2,(c _ _ af).trans q1,by simp [World.cell?,hr],by simp [World.cell?,hr],by simp [World.cell?,hr],by simp [World.cell?,hr],by simp [World.cell?,hr],by simp [World.cell?,hr]⟩ :
      W.cell? ⟨w.heap.size,1,none⟩=some (.slice g0 l0 p0)/\W.cell? ⟨w.heap.size,2,none⟩=some (.int .i64 r0)/\W.cell? ⟨w.heap.size+1,1,none⟩=some (.int .i64 time)/\W.cell? ⟨rb,0,none⟩=some (.int .i64 1)/\W.cell? ⟨rb,1,none⟩=some (.int .i64 value)/\W.cell? ⟨rb,2,none⟩=some (.int .i64 value)/\W.cell? ⟨rb,3,none⟩=some (.int .i64 value)/\W.cell? ⟨rb,4,none⟩=some (.int .i64 time)/\W.cell? ⟨rb,5,none⟩=some (.int .i64 value))
     clear hA Rm zE hQ HR HKEY Ry hi0 hi1 ht0 hfl
     go_upto_region 21 with (fail)
     clear y0 y1 y2 y3 y4 y5 y6 y7 yf q0 q1 q2 kZ
     go_cut [12,13] (fun p c wx=>∃(tb:Nat) (so:Option Addr) (n c6:Nat) (rt E2:Int),p = .pointer (some ⟨tb,0,none⟩)/\c = .int .i64 E2/\Hid (ah wr wx/\wr.heap.size<=tb/\wx.heap[tb]?=some (.cells #[.slice so n c6, .int .i64 rt] 32)/\fJ wr.heap.size (b.tree 0) (dW b s time value 0).key (dW b s time value 0).is wx so n c6 rt E2))
     case first=>
      have T0:ah wr wr.drew:=(aI _ _).drew
      refine fD (mo.of [(0,1),(1,1),(2,1),(3,0),(4,1),(5,1),(6,1),(7,0),(8,1),(9,1),(10,1),(11,1),(12,1),(13,0)] (.fork 14 18 (mo.of [(15,1),(16,1),(17,1),(18,2),(19,3),(20,1)] .nil) (mo.of [(14,2),(15,1),(16,1),(17,1),(19,3),(20,1)] .nil))) 19
       (fun W=>W.cell? ⟨w.heap.size,1,none⟩=some (.slice g0 l0 p0)/\W.cell? ⟨w.heap.size,2,none⟩=some (.int .i64 r0)/\W.cell? ⟨w.heap.size+1,1,none⟩=some (.int .i64 time)/\W.cell? ⟨rb,0,none⟩=some (.int .i64 1)/\W.cell? ⟨rb,1,none⟩=some (.int .i64 value)/\W.cell? ⟨rb,2,none⟩=some (.int .i64 value)/\W.cell? ⟨rb,3,none⟩=some (.int .i64 value)/\W.cell? ⟨rb,4,none⟩=some (.int .i64 time)/\W.cell? ⟨rb,5,none⟩=some (.int .i64 value)) bT bT (HS.out _ T0) ?_
      simp only [mo.of]
      (repeat first|refine bS ?_|refine bR ?_)
      refine iB rfl rfl rfl rfl (fun K hK=>?_) (fun K hK=>?_)
      ·go_simp
       (with_reducible refine(RD.out _ T0).mono ?_);rintro x w6 ⟨jf,so,n6,c6,rt,E2,rfl,IY⟩
       have B6:ah wr w6:=Below.trans' T0 jf aH
       go_simp
       refine hK _ _ (HS.out _ B6) ?_
       clear hK K T0
       (repeat first|refine bS ?_|refine bR ?_)
       refine bA rfl rfl (fun K hK=>?_)
       go_simp
       obtain⟨W7,jA⟩:=bP (w6.alloc (.cells #[.slice none 0 0, .int .i64 0] 32))
       have qE:ah w6 W7:=by rw [jA];exact ag
       have k7:W7.heap[w6.heap.size]?=some (.cells #[.slice none 0 0, .int .i64 0] 32):=by rw [jA];exact aj _ _ rfl
       have B7:ah wr W7:=Below.trans' B6 qE B6.size
       rw [<-jA]
       refine hK _ _ (HS.out _ B7) ?_
       clear hK K jA
       have d0:W7.cell? ⟨w6.heap.size,0,none⟩=some (.slice none 0 0):=by simp [World.cell?,k7]
       have d1:W7.cell? ⟨w6.heap.size,1,none⟩=some (.int .i64 0):=by simp [World.cell?,k7]
       have df:∀o,W7.frozen? ⟨w6.heap.size,o,none⟩=false:=fun o=>by simp [World.frozen?,k7]
       (repeat first|refine bS ?_|refine bR ?_)
       refine dI rfl rfl (fun K hK=>?_)
       go_simp
       refine hK _ _ ?_
       clear hK K
       (repeat first|refine bS ?_|refine bR ?_)
       refine ac3 ?_
       go_wp2_with fail
       go_meet
       have uB:=B6.size
       have e2:((W7.setCell ⟨w6.heap.size,0,none⟩ (.slice so n6 c6)).setCell ⟨w6.heap.size,1,none⟩ (.int .i64 rt)).heap[w6.heap.size]?=some (.cells #[.slice so n6 c6, .int .i64 rt] 32):=by
        have:=heap_setCell_same (off:=1) (v:= .int .i64 rt) (heap_setCell_same (off:=0) (v:= .slice so n6 c6) k7)
        simpa using this
       have KX:aM wr.heap.size w6 ((W7.setCell ⟨w6.heap.size,0,none⟩ (.slice so n6 c6)).setCell ⟨w6.heap.size,1,none⟩ (.int .i64 rt)):=⟨by simp only [aA];exact qE.size,fun q _ hq=>((heap_setCell_other _ ⟨w6.heap.size,_,none⟩ q _ (by show q≠w6.heap.size;omega)).trans (heap_setCell_other _ ⟨w6.heap.size,_,none⟩ q _ (by show q≠w6.heap.size;omega))).trans (qE.block q hq)⟩
       exact⟨w6.heap.size,so,n6,c6,rt,E2,rfl,rfl,hdd ⟨(B7.setCell uB _).setCell uB _,uB,e2,IY.keep (B':=wr.heap.size) KX aH⟩⟩
      ·go_simp
       obtain⟨W7,jA⟩:=bP ((wr.alloc (.cells #[.slice none 0 0, .int .i64 0] 32)).drew)
       have B7:ah wr W7:=by rw [jA];exact ag
       have k7:W7.heap[wr.heap.size]?=some (.cells #[.slice none 0 0, .int .i64 0] 32):=by rw [jA];exact aj _ _ rfl
       have Ef:W7.heap.size=wr.heap.size+1:=by rw [jA];simp
       rw [<-jA]
       refine hK _ _ (HS.out _ B7) ?_
       clear hK K jA T0
       (repeat first|refine bS ?_|refine bR ?_)
       refine bA rfl rfl (fun K hK=>?_)
       go_simp
       (with_reducible refine(RD.out _ B7).mono ?_);rintro x w6 ⟨jf,so,n6,c6,rt,E2,rfl,IY⟩
       have B6:ah wr w6:=Below.trans' B7 jf B7.size
       have k6:=(jf.block wr.heap.size af).trans k7
       go_simp
       refine hK _ _ (HS.out _ B6) ?_
       clear hK K
       have d0:w6.cell? ⟨wr.heap.size,0,none⟩=some (.slice none 0 0):=by simp [World.cell?,k6]
       have d1:w6.cell? ⟨wr.heap.size,1,none⟩=some (.int .i64 0):=by simp [World.cell?,k6]
       have df:∀o,w6.frozen? ⟨wr.heap.size,o,none⟩=false:=fun o=>by simp [World.frozen?,k6]
       have uB:=jf.size
       clear k7
       (repeat first|refine bS ?_|refine bR ?_)
       refine dI rfl rfl (fun K hK=>?_)
       go_simp
       refine hK _ _ ?_
       clear hK K
       (repeat first|refine bS ?_|refine bR ?_)
       refine ac3 ?_
       go_wp2_with fail
       go_meet
       have e2:((w6.setCell ⟨wr.heap.size,0,none⟩ (.slice so n6 c6)).setCell ⟨wr.heap.size,1,none⟩ (.int .i64 rt)).heap[wr.heap.size]?=some (.cells #[.slice so n6 c6, .int .i64 rt] 32):=by
        have:=heap_setCell_same (off:=1) (v:= .int .i64 rt) (heap_setCell_same (off:=0) (v:= .slice so n6 c6) k6)
        simpa using this
       have KX:aM W7.heap.size w6 ((w6.setCell ⟨wr.heap.size,0,none⟩ (.slice so n6 c6)).setCell ⟨wr.heap.size,1,none⟩ (.int .i64 rt)):=((aM.refl _ _).set (by show wr.heap.size<_;omega) _).set (by show wr.heap.size<_;omega) _
       exact⟨wr.heap.size,so,n6,c6,rt,E2,rfl,rfl,hdd ⟨(B6.setCell aH _).setCell aH _,km _,e2,IY.keep (B':=wr.heap.size) KX af⟩⟩
     case rest=>
      obtain⟨tb,so,n,c6,rt,E2,rfl,rfl,HX⟩:=hcut
      have Ip:=hdd (HA.out.later HX.out.1)
      obtain⟨y0,y1,y2,y3,y4,y5,y6,y7,yf⟩:=Ip.out.at'.bs
      obtain⟨RZ,RY,RX,RV,RU,RT,RS,RQ,RP⟩:=Ip.out.at'.zs
      obtain⟨q0,q1⟩:wc.cell? ⟨tb,0,none⟩=some (.slice so n c6)/\wc.cell? ⟨tb,1,none⟩=some (.int .i64 rt):=by
       have:=HX.out.2.2.1
       simp [World.cell?,this]
      by_cases h0:E2=0
      ·subst h0
       go_wp2_with fail
       go_roundg (3-(0+1))
       case measure=>omega
       case rel=>
        obtain⟨t',m1,m2,m3,m4,m5⟩:=H6 HF.out HL.out (k:=0) aW HX.out.2.2.2
        exact⟨0+1,af,rfl,by go_num,hdd ⟨_,_,_,_,_,_,_,_,_,_,_,_,_,_,_,HA.out.step0 HX.out.1 m1 m2 m3 m4 m5⟩⟩
      ·have d2:(E2 != 0)=true:=by simp [h0]
       obtain⟨PY,K7⟩:=CU HF.out HL.out (k:=0) aW HX.out.2.2.2 h0
       have HE:=hdd K7
       subst PY
       clear K7 h0
       go_wp2_with fail
       have cZ:=Ip.out.at'.below
       exact bodyPost_ret (v:= .tuple #[dC, .int .i64 1]) (by simp [results,Tryd.results22,go_sem, *]) rfl ⟨ag, .inl ⟨1,rfl,rfl,HE.out⟩⟩
    ·have Rm:=hA.rest 1 aH aW
     have Ry:=hdd (show ∀w'',aM (w.heap.size+3) wr w''->bM w'' (.agg #[.slice g1 l1 p1, .int .i64 r1]) (b.tree 1)from fun w'' hk=>by rw [<-Rm];exact hA.t1 w'' hk)
     have UX:=hA.at'.size
     obtain⟨y0,y1,y2,y3,y4,y5,y6,y7,yf⟩:=hA.at'.bs
     obtain⟨q0,q1,q2⟩:=hA.at'.oO
     have zE:=hA.LK
     have hrl:=(eI.1 zE).1
     have HA:=hdd hA
     have kZ:=zA
     obtain⟨Q,hQ⟩:=bt (time/60)
     have Vc:0<=Q/\Q<=1048575/\0<=Q*60/\Q*60<=time:=by rw [<-hQ];omega
     have ht1:time.tdiv 60=Q:=by rw [Bf af];exact hQ
     have ht2:IntKind.i64.wrap Q=Q:=IntWalk.i64_in _ af
     have Ot:IntKind.i64.wrap (Q*60)=Q*60:=IntWalk.i64_in _ af
     have U1:IntKind.i64.wrap (I*1048576)=I*1048576:=IntWalk.i64_in _ af
     have qq:IntKind.i64.wrap (I*1048576+Q*60)=I*1048576+Q*60:=IntWalk.i64_in _ af
     have HKEY:=hdd (show (dW b s time value 1).key=I*1048576+Q*60 from by show aaj b s*1048576+time/60*60=_;rw [HI.out,hQ];try rw [Int.mul_one])
     have RD:=hdd fun(W:World) (hb:ah wr W)=>(by
      have h1:=mD (w:=W) (key:=(dW b s time value 1).key) (r:=(dW b s time value 1).is) (Ry.out W (aM.of hb aH)) (fun h0=>by
       rcases (kr HF.out HL.out (k:=1) aW).1 with ⟨-,p2⟩|⟨p1,-⟩
       ·exact p2
       ·have:(0:Int)=1:=h0.symm.trans p1
        omega)
      have h2:(fun x w'=>ah W w'/\∃so n c rt E2,x=Ending.returned (.tuple #[.agg #[.slice so n c, .int .i64 rt], .int .i64 E2])/\fJ W.heap.size (b.tree 1) (dW b s time value 1).key (dW b s time value 1).is w' so n c rt E2)=(fun x w'=>ah W w'/\∃so n c rt E2,x=Ending.returned (.tuple #[.agg #[.slice so n c, .int .i64 rt], .int .i64 E2])/\fJ W.heap.size (b.tree 1) (dW b s time value 1).key (dW b s time value 1).is w' so n c rt E2):=rfl
      rw [HKEY.out]at h1
      rw [HKEY.out]
      exact h1:Calls Tryd.prog 42 #[.agg #[.slice g1 l1 p1, .int .i64 r1], .int .i64 (I*1048576+Q*60), .agg #[.int .i64 1, .int .i64 value, .int .i64 value, .int .i64 value, .int .i64 time, .int .i64 value]] W fun x w'=>ah W w'/\∃so n c rt E2,x = .returned (.tuple #[.agg #[.slice so n c, .int .i64 rt], .int .i64 E2])/\fJ W.heap.size (b.tree 1) (dW b s time value 1).key (dW b s time value 1).is w' so n c rt E2)
     have HS:=hdd fun(W:World) (hb:ah wr W)=>(by
      have c:∀g o,g<wr.heap.size->W.cell? ⟨g,o,none⟩=wr.cell? ⟨g,o,none⟩:=fun g o h=>hb.cell (p:=⟨g,o,none⟩) h
      have hr:=(hb.block rb hrl).trans zE
      exact⟨(c _ _ af).trans y3,(c _ _ af).trans y4,(c _ _ af).trans q1,by simp [World.cell?,hr],by simp [World.cell?,hr],by simp [World.cell?,hr],by simp [World.cell?,hr],by simp [World.cell?,hr],by simp [World.cell?,hr]⟩ :
      W.cell? ⟨w.heap.size,3,none⟩=some (.slice g1 l1 p1)/\W.cell? ⟨w.heap.size,4,none⟩=some (.int .i64 r1)/\W.cell? ⟨w.heap.size+1,1,none⟩=some (.int .i64 time)/\W.cell? ⟨rb,0,none⟩=some (.int .i64 1)/\W.cell? ⟨rb,1,none⟩=some (.int .i64 value)/\W.cell? ⟨rb,2,none⟩=some (.int .i64 value)/\W.cell? ⟨rb,3,none⟩=some (.int .i64 value)/\W.cell? ⟨rb,4,none⟩=some (.int .i64 time)/\W.cell? ⟨rb,5,none⟩=some (.int .i64 value))
     clear hA Rm zE hQ HR HKEY Ry hi0 hi1 ht0 hfl
     go_upto_region 21 with (fail)
     clear y0 y1 y2 y3 y4 y5 y6 y7 yf q0 q1 q2 kZ
     go_cut [12,13] (fun p c wx=>∃(tb:Nat) (so:Option Addr) (n c6:Nat) (rt E2:Int),p = .pointer (some ⟨tb,0,none⟩)/\c = .int .i64 E2/\Hid (ah wr wx/\wr.heap.size<=tb/\wx.heap[tb]?=some (.cells #[.slice so n c6, .int .i64 rt] 32)/\fJ wr.heap.size (b.tree 1) (dW b s time value 1).key (dW b s time value 1).is wx so n c6 rt E2))
     case first=>
      have T0:ah wr wr.drew:=(aI _ _).drew
      refine fD (mo.of [(0,1),(1,1),(2,1),(3,0),(4,1),(5,1),(6,1),(7,0),(8,1),(9,1),(10,1),(11,1),(12,1),(13,0)] (.fork 14 18 (mo.of [(15,1),(16,1),(17,1),(18,2),(19,3),(20,1)] .nil) (mo.of [(14,2),(15,1),(16,1),(17,1),(19,3),(20,1)] .nil))) 19
       (fun W=>W.cell? ⟨w.heap.size,3,none⟩=some (.slice g1 l1 p1)/\W.cell? ⟨w.heap.size,4,none⟩=some (.int .i64 r1)/\W.cell? ⟨w.heap.size+1,1,none⟩=some (.int .i64 time)/\W.cell? ⟨rb,0,none⟩=some (.int .i64 1)/\W.cell? ⟨rb,1,none⟩=some (.int .i64 value)/\W.cell? ⟨rb,2,none⟩=some (.int .i64 value)/\W.cell? ⟨rb,3,none⟩=some (.int .i64 value)/\W.cell? ⟨rb,4,none⟩=some (.int .i64 time)/\W.cell? ⟨rb,5,none⟩=some (.int .i64 value)) bT bT (HS.out _ T0) ?_
      simp only [mo.of]
      (repeat first|refine bS ?_|refine bR ?_)
      refine iB rfl rfl rfl rfl (fun K hK=>?_) (fun K hK=>?_)
      ·go_simp
       (with_reducible refine(RD.out _ T0).mono ?_);rintro x w6 ⟨jf,so,n6,c6,rt,E2,rfl,IY⟩
       have B6:ah wr w6:=Below.trans' T0 jf aH
       go_simp
       refine hK _ _ (HS.out _ B6) ?_
       clear hK K T0
       (repeat first|refine bS ?_|refine bR ?_)
       refine bA rfl rfl (fun K hK=>?_)
       go_simp
       obtain⟨W7,jA⟩:=bP (w6.alloc (.cells #[.slice none 0 0, .int .i64 0] 32))
       have qE:ah w6 W7:=by rw [jA];exact ag
       have k7:W7.heap[w6.heap.size]?=some (.cells #[.slice none 0 0, .int .i64 0] 32):=by rw [jA];exact aj _ _ rfl
       have B7:ah wr W7:=Below.trans' B6 qE B6.size
       rw [<-jA]
       refine hK _ _ (HS.out _ B7) ?_
       clear hK K jA
       have d0:W7.cell? ⟨w6.heap.size,0,none⟩=some (.slice none 0 0):=by simp [World.cell?,k7]
       have d1:W7.cell? ⟨w6.heap.size,1,none⟩=some (.int .i64 0):=by simp [World.cell?,k7]
       have df:∀o,W7.frozen? ⟨w6.heap.size,o,none⟩=false:=fun o=>by simp [World.frozen?,k7]
       (repeat first|refine bS ?_|refine bR ?_)
       refine dI rfl rfl (fun K hK=>?_)
       go_simp
       refine hK _ _ ?_
       clear hK K
       (repeat first|refine bS ?_|refine bR ?_)
       refine ac3 ?_
       go_wp2_with fail
       go_meet
       have uB:=B6.size
       have e2:((W7.setCell ⟨w6.heap.size,0,none⟩ (.slice so n6 c6)).setCell ⟨w6.heap.size,1,none⟩ (.int .i64 rt)).heap[w6.heap.size]?=some (.cells #[.slice so n6 c6, .int .i64 rt] 32):=by
        have:=heap_setCell_same (off:=1) (v:= .int .i64 rt) (heap_setCell_same (off:=0) (v:= .slice so n6 c6) k7)
        simpa using this
       have KX:aM wr.heap.size w6 ((W7.setCell ⟨w6.heap.size,0,none⟩ (.slice so n6 c6)).setCell ⟨w6.heap.size,1,none⟩ (.int .i64 rt)):=⟨by simp only [aA];exact qE.size,fun q _ hq=>((heap_setCell_other _ ⟨w6.heap.size,_,none⟩ q _ (by show q≠w6.heap.size;omega)).trans (heap_setCell_other _ ⟨w6.heap.size,_,none⟩ q _ (by show q≠w6.heap.size;omega))).trans (qE.block q hq)⟩
       exact⟨w6.heap.size,so,n6,c6,rt,E2,rfl,rfl,hdd ⟨(B7.setCell uB _).setCell uB _,uB,e2,IY.keep (B':=wr.heap.size) KX aH⟩⟩
      ·go_simp
       obtain⟨W7,jA⟩:=bP ((wr.alloc (.cells #[.slice none 0 0, .int .i64 0] 32)).drew)
       have B7:ah wr W7:=by rw [jA];exact ag
       have k7:W7.heap[wr.heap.size]?=some (.cells #[.slice none 0 0, .int .i64 0] 32):=by rw [jA];exact aj _ _ rfl
       have Ef:W7.heap.size=wr.heap.size+1:=by rw [jA];simp
       rw [<-jA]
       refine hK _ _ (HS.out _ B7) ?_
       clear hK K jA T0
       (repeat first|refine bS ?_|refine bR ?_)
       refine bA rfl rfl (fun K hK=>?_)
       go_simp
       (with_reducible refine(RD.out _ B7).mono ?_);rintro x w6 ⟨jf,so,n6,c6,rt,E2,rfl,IY⟩
       have B6:ah wr w6:=Below.trans' B7 jf B7.size
       have k6:=(jf.block wr.heap.size af).trans k7
       go_simp
       refine hK _ _ (HS.out _ B6) ?_
       clear hK K
       have d0:w6.cell? ⟨wr.heap.size,0,none⟩=some (.slice none 0 0):=by simp [World.cell?,k6]
       have d1:w6.cell? ⟨wr.heap.size,1,none⟩=some (.int .i64 0):=by simp [World.cell?,k6]
       have df:∀o,w6.frozen? ⟨wr.heap.size,o,none⟩=false:=fun o=>by simp [World.frozen?,k6]
       have uB:=jf.size
       clear k7
       (repeat first|refine bS ?_|refine bR ?_)
       refine dI rfl rfl (fun K hK=>?_)
       go_simp
       refine hK _ _ ?_
       clear hK K
       (repeat first|refine bS ?_|refine bR ?_)
       refine ac3 ?_
       go_wp2_with fail
       go_meet
       have e2:((w6.setCell ⟨wr.heap.size,0,none⟩ (.slice so n6 c6)).setCell ⟨wr.heap.size,1,none⟩ (.int .i64 rt)).heap[wr.heap.size]?=some (.cells #[.slice so n6 c6, .int .i64 rt] 32):=by
        have:=heap_setCell_same (off:=1) (v:= .int .i64 rt) (heap_setCell_same (off:=0) (v:= .slice so n6 c6) k6)
        simpa using this
       have KX:aM W7.heap.size w6 ((w6.setCell ⟨wr.heap.size,0,none⟩ (.slice so n6 c6)).setCell ⟨wr.heap.size,1,none⟩ (.int .i64 rt)):=((aM.refl _ _).set (by show wr.heap.size<_;omega) _).set (by show wr.heap.size<_;omega) _
       exact⟨wr.heap.size,so,n6,c6,rt,E2,rfl,rfl,hdd ⟨(B6.setCell aH _).setCell aH _,km _,e2,IY.keep (B':=wr.heap.size) KX af⟩⟩
     case rest=>
      obtain⟨tb,so,n,c6,rt,E2,rfl,rfl,HX⟩:=hcut
      have Ip:=hdd (HA.out.later HX.out.1)
      obtain⟨y0,y1,y2,y3,y4,y5,y6,y7,yf⟩:=Ip.out.at'.bs
      obtain⟨RZ,RY,RX,RV,RU,RT,RS,RQ,RP⟩:=Ip.out.at'.zs
      obtain⟨q0,q1⟩:wc.cell? ⟨tb,0,none⟩=some (.slice so n c6)/\wc.cell? ⟨tb,1,none⟩=some (.int .i64 rt):=by
       have:=HX.out.2.2.1
       simp [World.cell?,this]
      by_cases h0:E2=0
      ·subst h0
       go_wp2_with fail
       go_roundg (3-(1+1))
       case measure=>omega
       case rel=>
        obtain⟨t',m1,m2,m3,m4,m5⟩:=H6 HF.out HL.out (k:=1) aW HX.out.2.2.2
        exact⟨1+1,af,rfl,by go_num,hdd ⟨_,_,_,_,_,_,_,_,_,_,_,_,_,_,_,HA.out.Dh HX.out.1 m1 m2 m3 m4 m5⟩⟩
      ·have d2:(E2 != 0)=true:=by simp [h0]
       obtain⟨PY,K7⟩:=CU HF.out HL.out (k:=1) aW HX.out.2.2.2 h0
       have HE:=hdd K7
       subst PY
       clear K7 h0
       go_wp2_with fail
       have cZ:=Ip.out.at'.below
       exact bodyPost_ret (v:= .tuple #[dC, .int .i64 1]) (by simp [results,Tryd.results22,go_sem, *]) rfl ⟨ag, .inl ⟨1,rfl,rfl,HE.out⟩⟩
    ·have Rm:=hA.rest 2 aH aW
     have Ry:=hdd (show ∀w'',aM (w.heap.size+3) wr w''->bM w'' (.agg #[.slice g2 l2 p2, .int .i64 r2]) (b.tree 2)from fun w'' hk=>by rw [<-Rm];exact hA.t2 w'' hk)
     have UX:=hA.at'.size
     obtain⟨y0,y1,y2,y3,y4,y5,y6,y7,yf⟩:=hA.at'.bs
     obtain⟨q0,q1,q2⟩:=hA.at'.oO
     have zE:=hA.LK
     have hrl:=(eI.1 zE).1
     have HA:=hdd hA
     have kZ:=zy
     obtain⟨Q,hQ⟩:=bt (time/3600)
     have Vc:0<=Q/\Q<=1048575/\0<=Q*3600/\Q*3600<=time:=by rw [<-hQ];omega
     have ht1:time.tdiv 3600=Q:=by rw [Bf af];exact hQ
     have ht2:IntKind.i64.wrap Q=Q:=IntWalk.i64_in _ af
     have Ot:IntKind.i64.wrap (Q*3600)=Q*3600:=IntWalk.i64_in _ af
     have U1:IntKind.i64.wrap (I*1048576)=I*1048576:=IntWalk.i64_in _ af
     have qq:IntKind.i64.wrap (I*1048576+Q*3600)=I*1048576+Q*3600:=IntWalk.i64_in _ af
     have HKEY:=hdd (show (dW b s time value 2).key=I*1048576+Q*3600 from by show aaj b s*1048576+time/3600*3600=_;rw [HI.out,hQ];try rw [Int.mul_one])
     have RD:=hdd fun(W:World) (hb:ah wr W)=>(by
      have h1:=mD (w:=W) (key:=(dW b s time value 2).key) (r:=(dW b s time value 2).is) (Ry.out W (aM.of hb aH)) (fun h0=>by
       rcases (kr HF.out HL.out (k:=2) aW).1 with ⟨-,p2⟩|⟨p1,-⟩
       ·exact p2
       ·have:(0:Int)=1:=h0.symm.trans p1
        omega)
      have h2:(fun x w'=>ah W w'/\∃so n c rt E2,x=Ending.returned (.tuple #[.agg #[.slice so n c, .int .i64 rt], .int .i64 E2])/\fJ W.heap.size (b.tree 2) (dW b s time value 2).key (dW b s time value 2).is w' so n c rt E2)=(fun x w'=>ah W w'/\∃so n c rt E2,x=Ending.returned (.tuple #[.agg #[.slice so n c, .int .i64 rt], .int .i64 E2])/\fJ W.heap.size (b.tree 2) (dW b s time value 2).key (dW b s time value 2).is w' so n c rt E2):=rfl
      rw [HKEY.out]at h1
      rw [HKEY.out]
      exact h1:Calls Tryd.prog 42 #[.agg #[.slice g2 l2 p2, .int .i64 r2], .int .i64 (I*1048576+Q*3600), .agg #[.int .i64 1, .int .i64 value, .int .i64 value, .int .i64 value, .int .i64 time, .int .i64 value]] W fun x w'=>ah W w'/\∃so n c rt E2,x = .returned (.tuple #[.agg #[.slice so n c, .int .i64 rt], .int .i64 E2])/\fJ W.heap.size (b.tree 2) (dW b s time value 2).key (dW b s time value 2).is w' so n c rt E2)
     have HS:=hdd fun(W:World) (hb:ah wr W)=>(by
      have c:∀g o,g<wr.heap.size->W.cell? ⟨g,o,none⟩=wr.cell? ⟨g,o,none⟩:=fun g o h=>hb.cell (p:=⟨g,o,none⟩) h
      have hr:=(hb.block rb hrl).trans zE
      exact⟨(c _ _ af).trans y5,(c _ _ af).trans y6,(c _ _ af).trans q1,by simp [World.cell?,hr],by simp [World.cell?,hr],by simp [World.cell?,hr],by simp [World.cell?,hr],by simp [World.cell?,hr],by simp [World.cell?,hr]⟩ :
      W.cell? ⟨w.heap.size,5,none⟩=some (.slice g2 l2 p2)/\W.cell? ⟨w.heap.size,6,none⟩=some (.int .i64 r2)/\W.cell? ⟨w.heap.size+1,1,none⟩=some (.int .i64 time)/\W.cell? ⟨rb,0,none⟩=some (.int .i64 1)/\W.cell? ⟨rb,1,none⟩=some (.int .i64 value)/\W.cell? ⟨rb,2,none⟩=some (.int .i64 value)/\W.cell? ⟨rb,3,none⟩=some (.int .i64 value)/\W.cell? ⟨rb,4,none⟩=some (.int .i64 time)/\W.cell? ⟨rb,5,none⟩=some (.int .i64 value))
     clear hA Rm zE hQ HR HKEY Ry hi0 hi1 ht0 hfl
     go_upto_region 21 with (fail)
     clear y0 y1 y2 y3 y4 y5 y6 y7 yf q0 q1 q2 kZ
     go_cut [12,13] (fun p c wx=>∃(tb:Nat) (so:Option Addr) (n c6:Nat) (rt E2:Int),p = .pointer (some ⟨tb,0,none⟩)/\c = .int .i64 E2/\Hid (ah wr wx/\wr.heap.size<=tb/\wx.heap[tb]?=some (.cells #[.slice so n c6, .int .i64 rt] 32)/\fJ wr.heap.size (b.tree 2) (dW b s time value 2).key (dW b s time value 2).is wx so n c6 rt E2))
     case first=>
      have T0:ah wr wr.drew:=(aI _ _).drew
      refine fD (mo.of [(0,1),(1,1),(2,1),(3,0),(4,1),(5,1),(6,1),(7,0),(8,1),(9,1),(10,1),(11,1),(12,1),(13,0)] (.fork 14 18 (mo.of [(15,1),(16,1),(17,1),(18,2),(19,3),(20,1)] .nil) (mo.of [(14,2),(15,1),(16,1),(17,1),(19,3),(20,1)] .nil))) 19
       (fun W=>W.cell? ⟨w.heap.size,5,none⟩=some (.slice g2 l2 p2)/\W.cell? ⟨w.heap.size,6,none⟩=some (.int .i64 r2)/\W.cell? ⟨w.heap.size+1,1,none⟩=some (.int .i64 time)/\W.cell? ⟨rb,0,none⟩=some (.int .i64 1)/\W.cell? ⟨rb,1,none⟩=some (.int .i64 value)/\W.cell? ⟨rb,2,none⟩=some (.int .i64 value)/\W.cell? ⟨rb,3,none⟩=some (.int .i64 value)/\W.cell? ⟨rb,4,none⟩=some (.int .i64 time)/\W.cell? ⟨rb,5,none⟩=some (.int .i64 value)) bT bT (HS.out _ T0) ?_
      simp only [mo.of]
      (repeat first|refine bS ?_|refine bR ?_)
      refine iB rfl rfl rfl rfl (fun K hK=>?_) (fun K hK=>?_)
      ·go_simp
       (with_reducible refine(RD.out _ T0).mono ?_);rintro x w6 ⟨jf,so,n6,c6,rt,E2,rfl,IY⟩
       have B6:ah wr w6:=Below.trans' T0 jf aH
       go_simp
       refine hK _ _ (HS.out _ B6) ?_
       clear hK K T0
       (repeat first|refine bS ?_|refine bR ?_)
       refine bA rfl rfl (fun K hK=>?_)
       go_simp
       obtain⟨W7,jA⟩:=bP (w6.alloc (.cells #[.slice none 0 0, .int .i64 0] 32))
       have qE:ah w6 W7:=by rw [jA];exact ag
       have k7:W7.heap[w6.heap.size]?=some (.cells #[.slice none 0 0, .int .i64 0] 32):=by rw [jA];exact aj _ _ rfl
       have B7:ah wr W7:=Below.trans' B6 qE B6.size
       rw [<-jA]
       refine hK _ _ (HS.out _ B7) ?_
       clear hK K jA
       have d0:W7.cell? ⟨w6.heap.size,0,none⟩=some (.slice none 0 0):=by simp [World.cell?,k7]
       have d1:W7.cell? ⟨w6.heap.size,1,none⟩=some (.int .i64 0):=by simp [World.cell?,k7]
       have df:∀o,W7.frozen? ⟨w6.heap.size,o,none⟩=false:=fun o=>by simp [World.frozen?,k7]
       (repeat first|refine bS ?_|refine bR ?_)
       refine dI rfl rfl (fun K hK=>?_)
       go_simp
       refine hK _ _ ?_
       clear hK K
       (repeat first|refine bS ?_|refine bR ?_)
       refine ac3 ?_
       go_wp2_with fail
       go_meet
       have uB:=B6.size
       have e2:((W7.setCell ⟨w6.heap.size,0,none⟩ (.slice so n6 c6)).setCell ⟨w6.heap.size,1,none⟩ (.int .i64 rt)).heap[w6.heap.size]?=some (.cells #[.slice so n6 c6, .int .i64 rt] 32):=by
        have:=heap_setCell_same (off:=1) (v:= .int .i64 rt) (heap_setCell_same (off:=0) (v:= .slice so n6 c6) k7)
        simpa using this
       have KX:aM wr.heap.size w6 ((W7.setCell ⟨w6.heap.size,0,none⟩ (.slice so n6 c6)).setCell ⟨w6.heap.size,1,none⟩ (.int .i64 rt)):=⟨by simp only [aA];exact qE.size,fun q _ hq=>((heap_setCell_other _ ⟨w6.heap.size,_,none⟩ q _ (by show q≠w6.heap.size;omega)).trans (heap_setCell_other _ ⟨w6.heap.size,_,none⟩ q _ (by show q≠w6.heap.size;omega))).trans (qE.block q hq)⟩
       exact⟨w6.heap.size,so,n6,c6,rt,E2,rfl,rfl,hdd ⟨(B7.setCell uB _).setCell uB _,uB,e2,IY.keep (B':=wr.heap.size) KX aH⟩⟩
      ·go_simp
       obtain⟨W7,jA⟩:=bP ((wr.alloc (.cells #[.slice none 0 0, .int .i64 0] 32)).drew)
       have B7:ah wr W7:=by rw [jA];exact ag
       have k7:W7.heap[wr.heap.size]?=some (.cells #[.slice none 0 0, .int .i64 0] 32):=by rw [jA];exact aj _ _ rfl
       have Ef:W7.heap.size=wr.heap.size+1:=by rw [jA];simp
       rw [<-jA]
       refine hK _ _ (HS.out _ B7) ?_
       clear hK K jA T0
       (repeat first|refine bS ?_|refine bR ?_)
       refine bA rfl rfl (fun K hK=>?_)
       go_simp
       (with_reducible refine(RD.out _ B7).mono ?_);rintro x w6 ⟨jf,so,n6,c6,rt,E2,rfl,IY⟩
       have B6:ah wr w6:=Below.trans' B7 jf B7.size
       have k6:=(jf.block wr.heap.size af).trans k7
       go_simp
       refine hK _ _ (HS.out _ B6) ?_
       clear hK K
       have d0:w6.cell? ⟨wr.heap.size,0,none⟩=some (.slice none 0 0):=by simp [World.cell?,k6]
       have d1:w6.cell? ⟨wr.heap.size,1,none⟩=some (.int .i64 0):=by simp [World.cell?,k6]
       have df:∀o,w6.frozen? ⟨wr.heap.size,o,none⟩=false:=fun o=>by simp [World.frozen?,k6]
       have uB:=jf.size
       clear k7
       (repeat first|refine bS ?_|refine bR ?_)
       refine dI rfl rfl (fun K hK=>?_)
       go_simp
       refine hK _ _ ?_
       clear hK K
       (repeat first|refine bS ?_|refine bR ?_)
       refine ac3 ?_
       go_wp2_with fail
       go_meet
       have e2:((w6.setCell ⟨wr.heap.size,0,none⟩ (.slice so n6 c6)).setCell ⟨wr.heap.size,1,none⟩ (.int .i64 rt)).heap[wr.heap.size]?=some (.cells #[.slice so n6 c6, .int .i64 rt] 32):=by
        have:=heap_setCell_same (off:=1) (v:= .int .i64 rt) (heap_setCell_same (off:=0) (v:= .slice so n6 c6) k6)
        simpa using this
       have KX:aM W7.heap.size w6 ((w6.setCell ⟨wr.heap.size,0,none⟩ (.slice so n6 c6)).setCell ⟨wr.heap.size,1,none⟩ (.int .i64 rt)):=((aM.refl _ _).set (by show wr.heap.size<_;omega) _).set (by show wr.heap.size<_;omega) _
       exact⟨wr.heap.size,so,n6,c6,rt,E2,rfl,rfl,hdd ⟨(B6.setCell aH _).setCell aH _,km _,e2,IY.keep (B':=wr.heap.size) KX af⟩⟩
     case rest=>
      obtain⟨tb,so,n,c6,rt,E2,rfl,rfl,HX⟩:=hcut
      have Ip:=hdd (HA.out.later HX.out.1)
      obtain⟨y0,y1,y2,y3,y4,y5,y6,y7,yf⟩:=Ip.out.at'.bs
      obtain⟨RZ,RY,RX,RV,RU,RT,RS,RQ,RP⟩:=Ip.out.at'.zs
      obtain⟨q0,q1⟩:wc.cell? ⟨tb,0,none⟩=some (.slice so n c6)/\wc.cell? ⟨tb,1,none⟩=some (.int .i64 rt):=by
       have:=HX.out.2.2.1
       simp [World.cell?,this]
      by_cases h0:E2=0
      ·subst h0
       go_wp2_with fail
       go_roundg (3-(2+1))
       case measure=>omega
       case rel=>
        obtain⟨t',m1,m2,m3,m4,m5⟩:=H6 HF.out HL.out (k:=2) aW HX.out.2.2.2
        exact⟨2+1,af,rfl,by go_num,hdd ⟨_,_,_,_,_,_,_,_,_,_,_,_,_,_,_,HA.out.Dg HX.out.1 m1 m2 m3 m4 m5⟩⟩
      ·have d2:(E2 != 0)=true:=by simp [h0]
       obtain⟨PY,K7⟩:=CU HF.out HL.out (k:=2) aW HX.out.2.2.2 h0
       have HE:=hdd K7
       subst PY
       clear K7 h0
       go_wp2_with fail
       have cZ:=Ip.out.at'.below
       exact bodyPost_ret (v:= .tuple #[dC, .int .i64 1]) (by simp [results,Tryd.results22,go_sem, *]) rfl ⟨ag, .inl ⟨1,rfl,rfl,HE.out⟩⟩
   ·obtain rfl:k=3:=af
    have HD:=hdd hA.done
    have HA:=hdd hA
    obtain⟨y0,y1,y2,y3,y4,y5,y6,y7,yf⟩:=hA.at'.bs
    obtain⟨RZ,RY,RX,RV,RU,RT,RS,RQ,RP⟩:=hA.at'.zs
    have rt:∀{so:Option Addr} {n c:Nat} {r:Int} {t:Tr},bM wr (.agg #[.slice so n c, .int .i64 r]) t->r=t.root:=fun {so n c r t} h=>by
     obtain⟨nv,e,-⟩:=h
     have e:=congrArg (fun v=>match v with | .agg a=>a[1]?|_=>none) e
     simpa using e
    have e0:=rt (hA.t0 wr (aM.refl _ _))
    have e1:=rt (hA.t1 wr (aM.refl _ _))
    have e2:=rt (hA.t2 wr (aM.refl _ _))
    subst e0 e1 e2
    have nd:∀{w'':World} {so:Option Addr} {n c:Nat} {t:Tr},bM w'' (.agg #[.slice so n c, .int .i64 t.root]) t->bz w'' (.slice so n c) t.nodes:=fun {w'' so n c t} h=>by
     obtain⟨nv,e,hn⟩:=h
     have e:=congrArg (fun v=>match v with | .agg a=>a[0]?|_=>none) e
     simp at e
     rw [e];exact hn
    have HB:=hdd (show ∀w'',aM (w.heap.size+3) wr w''->bO w'' (.agg (aG sn (bC b s).length sc g0 l0 p0 g1 l1 p1 g2 l2 p2 ⟨bC b s,T 0,T 1,T 2,b.floor⟩)) ⟨bC b s,T 0,T 1,T 2,b.floor⟩from fun w'' hk=>⟨_,_,_,_,rfl,HA.out.names w'' hk,nd (HA.out.t0 w'' hk),nd (HA.out.t1 w'' hk),nd (HA.out.t2 w'' hk)⟩)
    have HS:=hdd (show ∀j,j<3->Small (dW b s time value j::(b.tree j).all)from fun j hj=>(HD.out j hj).2.2.2)
    have Vs:=hdd (Ud (T:=T) HF.out HL.out HS.out fun j hj=>⟨(HD.out j hj).1,(HD.out j hj).2.1⟩)
    have HG:=hdd (wP HF.out HL.out HS.out).1
    clear rt nd hA
    go_wp2_with fail
    have cZ:=HA.out.at'.below
    refine bodyPost_ret (v:= .tuple #[.agg #[.slice sn (bC b s).length sc, .slice g0 l0 p0, .int .i64 (T 0).root, .slice g1 l1 p1, .int .i64 (T 1).root, .slice g2 l2 p2, .int .i64 (T 2).root, .int .i64 b.floor], .int .i64 0]) (by simp [results,Tryd.results22,go_sem, *]) rfl ⟨ag, .inr ⟨HG.out,⟨bC b s,T 0,T 1,T 2,b.floor⟩,sn,sc,g0,l0,p0,g1,l1,p1,g2,l2,p2,rfl,fun w'' hk=>HB.out w'' (aM.trans ?_ (hk.mono af)),rfl,rfl,Vs.out.1,Vs.out.2,fun j hj=>?_⟩⟩
    ·repeat (first|with_reducible exact aM.refl _ _|with_reducible refine aM.set ?_ (by show w.heap.size+2<w.heap.size+3;omega) _)
    ·have h3:j=0\/j=1\/j=2:=af
     have:=(HD.out j hj).2.2.1
     rcases h3 with rfl|rfl|rfl <;> exact this
end
theorem xL {v:Value} {b:Ba} {s:ByteArray} {time value:Int} {w:World} (h:bO w v b) (hst:∀s∈b.names,s.size<=140737488351232) (xB:s.size<=140737488351232) (hsz:bL w) :
  Calls Tryd.prog 22 #[v, .agg #[.string s, .int .i64 time, .int .i64 value]] w fun x w'=>ah w w' /\
   ((jw b s time value≠0/\x = .returned (.tuple #[dC, .int .i64 (jw b s time value)]))\/(jw b s time value=0/\Ol b s time value w.heap.size x w')):=by
 obtain⟨sa,sc,g0,l0,p0,g1,l1,p1,g2,l2,p2,rfl,-⟩:=h.open
 have er:∀{k:Int},jw b s time value=k->k≠0->Calls Tryd.prog 22 #[.agg (aG sa b.names.length sc g0 l0 p0 g1 l1 p1 g2 l2 p2 b), .agg #[.string s, .int .i64 time, .int .i64 value]] w (fun x w'=>ah w w'/\x = .returned (.tuple #[dC, .int .i64 k])) ->
   Calls Tryd.prog 22 #[.agg (aG sa b.names.length sc g0 l0 p0 g1 l1 p1 g2 l2 p2 b), .agg #[.string s, .int .i64 time, .int .i64 value]] w (fun x w'=>ah w w'/\((jw b s time value≠0/\x = .returned (.tuple #[dC, .int .i64 (jw b s time value)]))\/(jw b s time value=0/\Ol b s time value w.heap.size x w'))):=fun {k} e hk hc=>by
  subst e
  exact hc.mono fun x w' ⟨h1,h2⟩=>⟨h1, .inl ⟨hk,h2⟩⟩
 by_cases hm:aO b=true
 ·by_cases hn:dL s=true
  ·by_cases hr:0<=time/\time<=1048575/\-1000000<=value/\value<=1000000
   ·have hro:(fF time value).2=0:=by unfold fF;rw [ar hr]
    by_cases hf:time<b.floor
    ·exact er (by unfold jw;rw [ai (by simp [hm]),ai (by simp [hn]),ai (by simp [hro]),ar hf]) aW (yJ h hst xB hsz (.inr (.inr (.inr ⟨hm,hn,hr,hf,rfl⟩))))
    ·by_cases hp:aS b.names s<0/\16<=b.names.length
     ·have Qf:=(dH hm).n16
      have hp1:aS b.names s = -1:=by
       rcases fW b.names s with ⟨k,-,e,-⟩|⟨e,-⟩
       ·omega
       ·exact e
      exact er (by unfold jw;rw [ai (by simp [hm]),ai (by simp [hn]),ai (by simp [hro]),ai hf,ar hp]) aW (NH h hst xB hsz hm hn hr af hp1 af)
     ·have h0:jw b s time value=0:=by unfold jw;rw [ai (by simp [hm]),ai (by simp [hn]),ai (by simp [hro]),ai hf,ai hp]
      exact(Ue h hst xB hsz h0).mono fun x w' ⟨h1,h2⟩=>⟨h1, .inr ⟨h0,h2⟩⟩
   ·have hro:(fF time value).2=2:=by unfold fF;rw [ai hr]
    exact er (by unfold jw;rw [ai (by simp [hm]),ai (by simp [hn]),ar (by simp [hro]),hro]) aW (yJ h hst xB hsz (.inr (.inr (.inl ⟨hm,hn,hr,rfl⟩))))
  ·have hn:dL s=false:=by simpa using hn
   exact er (by unfold jw;rw [ai (by simp [hm]),ar hn]) aW (yJ h hst xB hsz (.inr (.inl ⟨hm,hn,rfl⟩)))
 ·have hm:aO b=false:=by simpa using hm
  exact er (by unfold jw;rw [ar hm]) aW (yJ h hst xB hsz (.inl ⟨hm,rfl⟩))
end Go.Proofs.YtmljjfhgciaceaaDoor
