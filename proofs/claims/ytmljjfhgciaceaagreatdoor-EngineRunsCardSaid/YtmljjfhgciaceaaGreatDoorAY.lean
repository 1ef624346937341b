/- Lemmas of the proof. -/
import Derived.Test.YtmljjfhgciaceaaGreatDoorHd
import Derived.Test.YtmljjfhgciaceaaGreatDoorCz
import Derived.Test.YtmljjfhgciaceaaGreatDoorAK
import Derived.Test.YtmljjfhgciaceaaGreatDoorSO
set_option maxRecDepth 100000
set_option maxHeartbeats 4000000
namespace Go.Proofs.YtmljjfhgciaceaaGreatDoor
open Go.RowKit
section
variable {b:Ba} {s:ByteArray} {time value rt:Int} {l:List aH} {B n c sc l0 p0 l1 p1 l2 p2:Nat} {so sa g0 g1 g2:Option Addr} {w' w:World}
theorem OY (k:Nat) (hk:k<3) (w:World):(Instr.index 127 (.agg #[af 1,af 60,af 3600]) (af k)).run Tryz.prog w = .ok (af (bp k)) w:=by
 obtain rfl|rfl|rfl:k=0\/k=1\/k=2:=ai
 ·exact CF w
 ·exact CE w
 ·exact CD w
def Tt (b:Ba) (s:ByteArray) (time value:Int) (B:Nat) (x:Ending) (w':World):Prop:=
 (∃E,E=1/\x = .returned (.tuple #[ey,af E])/\(fU b s time value=1\/(fU b s time value=0/\∃k,k<3/\3001<qE (b.tree k)))) \/
 (fU b s time value=0/\∃b' sa sc g0 l0 p0 g1 l1 p1 g2 l2 p2,x = .returned (.tuple #[.agg (aL sa b'.names sc g0 l0 p0 g1 l1 p1 g2 l2 p2 b'),af 0])/\(∀w'',aQ B w' w''->bR w'' (.agg (aL sa b'.names sc g0 l0 p0 g1 l1 p1 g2 l2 p2 b')) b') /\
  b'.names=bH b s/\b'.floor=b.floor/\aS b'=true/\cx b'=some (xB b s time value)/\∀k,k<3->qE (b'.tree k)<=qE (b.tree k)+1)
theorem SR (h:gK b s time value=0):fU b s time value=0\/fU b s time value=1:=by
 unfold fU;rw [ar (by simp [h])]
 split
 ·exact .inl rfl
 ·split
  ·exact .inr rfl
  ·split
   ·exact .inr rfl
   ·exact .inl rfl
theorem VF {k:Nat} {E2:Int} (hF:gK b s time value=0) (hl:cx b=some l) (hk:k<3)
  (h:ru B (b.tree k) (j6 b s time value k).key (j6 b s time value k).is w' so n c rt E2) (h0:E2≠0):E2=1/\(fU b s time value=1\/(fU b s time value=0/\∃k,k<3/\3001<qE (b.tree k))):=by
 rcases h with ⟨h1,h2⟩|⟨h1,t2,h2,l2,g1,g2,g3,⟨g4,-⟩|⟨g4,g5⟩⟩
 ·rcases (qa hF hl hk).1 with ⟨p1,-⟩|⟨p1,p2⟩
  ·exact absurd p1 h1
  ·exact⟨h2.trans p1, .inl (SS hF hl hk p2)⟩
 ·exact absurd g4 h0
 ·refine⟨g4,(SR hF).symm.imp id fun h=>⟨h,k,hk,?_⟩⟩;have:=g1.grown g5;omega
theorem Zk {k:Nat} (hF:gK b s time value=0) (hl:cx b=some l) (hk:k<3)
  (h:ru B (b.tree k) (j6 b s time value k).key (j6 b s time value k).is w' so n c rt 0):∃t',(∀w'',aQ B w' w''->di w'' (.agg #[ah so n c,af rt]) t')/\aC t'=0/\jv t'.all (j6 b s time value k::(b.tree k).all)/\qE t'<=qE (b.tree k)+1/\Small (j6 b s time value k::(b.tree k).all):=by
 rcases h with ⟨h1,h2⟩|⟨h1,t2,h2,l2,g1,g2,g3,⟨-,g5,-,g7⟩|⟨g4,g5⟩⟩
 ·omega
 ·refine⟨t2,g7,g5,g2,g3,?_⟩;rcases (qa hF hl hk).1 with ⟨-,p2⟩|⟨p1,p2⟩
  ·exact p2
  ·have:(1:Int)=0:=p1.symm.trans h1;omega
 ·omega
theorem SP (h:bR w (.agg (aL sa b.names sc g0 l0 p0 g1 l1 p1 g2 l2 p2 b)) b)
  (hst:∀s∈b.names,s.size<=140737488351232) (tu:s.size<=140737488351232) (hsz:cI w) (hm:aS b=true) (hn:dt s=true) (hr:0<=time/\time<=1048575/\-1000000<=value/\value<=1000000) (hf:b.floor<=time) (hp:bt b.names s = -1) (Kq:b.names.length=16) :
  Calls Tryz.prog 35 #[.agg (aL sa b.names sc g0 l0 p0 g1 l1 p1 g2 l2 p2 b), .agg #[.string s,af time,af value]] w fun x w'=>aq w w'/\x = .returned (.tuple #[ey,af 1]):=by
 obtain⟨W0,hW0⟩:=cd (((w.alloc (.cells (aL sa b.names sc g0 l0 p0 g1 l1 p1 g2 l2 p2 b) 30)).alloc (.cells #[.string s,af time,af value] 70)).alloc (.cells cz 30));have h0:=ng.start hW0;have uX:=ag h0;have z0:=h0.size;have jD:=ag (gP (h.below h0.below) hst (hsz.below h0.below));have vZ:=ag fun w'=>xX s w' tu;have rM:=ag fun w'=>K9 time value w';rw [eU hm]at jD;rw [hn]at vZ;rw [show ej time value=(⟨1,value,value,value,time,value⟩,0)from aw hr]at rM;have HH:=ag (show bR w (.agg (aL sa b.names sc g0 l0 p0 g1 l1 p1 g2 l2 p2 b)) b from h);have H16:=ag (aJ hp Kq);clear hm hn hr hp Kq;obtain⟨y0,y1,y2,y3,y4,y5,y6,y7,yf⟩:=h0.bs;clear h hst tu hsz h0;go_enter Tryz.func35,Tryz.ntmps35;go_upto_region 1 with (fail);rw [<-hW0];clear hW0;go_upto_region 7 with (first|(go_at_call 66;(with_reducible refine jD.out.mono ?_);rintro e w1 ⟨rfl,hb1⟩;have iN:=ag (uX.later hb1 z0);have z1:=iN.size;clear y0 y1 y2 y3 y4 y5 y6 y7 yf;obtain⟨y0,y1,y2,y3,y4,y5,y6,y7,yf⟩:=iN.bs;obtain⟨q0,q1,q2⟩:=iN.rR;obtain⟨r0,r1,r2,r3,r4,r5,r6,r7,rf⟩:=iN.zs;clear hb1)|(go_at_call 67;(with_reducible refine(vZ.out w1).mono ?_);rintro e w2 ⟨rfl,hb2⟩;have qC:=ag (iN.later hb2 z1);have z2:=qC.size;clear y0 y1 y2 y3 y4 y5 y6 y7 yf q0 q1 q2 r0 r1 r2 r3 r4 r5 r6 r7 rf;obtain⟨y0,y1,y2,y3,y4,y5,y6,y7,yf⟩:=qC.bs;obtain⟨q0,q1,q2⟩:=qC.rR;obtain⟨r0,r1,r2,r3,r4,r5,r6,r7,rf⟩:=qC.zs;clear hb2)|(go_at_call 68;(with_reducible refine(rM.out w2).mono ?_);rintro e w3 ⟨rfl,hb3⟩));obtain⟨W3,hW3⟩:=cd (w3.alloc (.cells #[af 1,af value,af value,af value,af time,af value] 39));have sL:=ag (show aq w2 W3 from by rw [hW3];exact aF hb3 ((aW _ _).alloc aO _) hb3.size);have zm:=ag (qC.later sL z2);have Z3:W3=w3.heap.size+1:=by rw [hW3];simp
 have z3:w+3<=w3.heap.size:=by have:=hb3.size;omega
 have pL:=ag (show W3.heap[w3.heap.size]?=some (.cells #[af 1,af value,af value,af value,af time,af value] 39) by rw [hW3];exact au _ _ rfl);rw [<-hW3];clear hW3 hb3 y0 y1 y2 y3 y4 y5 y6 y7 yf q0 q1 q2 r0 r1 r2 r3 r4 r5 r6 r7 rf;obtain⟨y0,y1,y2,y3,y4,y5,y6,y7,yf⟩:=zm.bs;obtain⟨q0,q1,q2⟩:=zm.rR;obtain⟨r0,r1,r2,r3,r4,r5,r6,r7,rf⟩:=zm.zs;have Uj:=ag (rC (HH.below zm.below));go_upto_region 12 with ((go_at_call 18;(with_reducible refine Uj.out.mono ?_);rintro e w4 ⟨hb4,sn,wF,a0,m0,n0,a1,m1,n1,a2,m2,n2,rfl,hown,M,hM1,hM2,hM3,RG,wJ⟩;have hP4:=zm.later hb4 ai;have N0:=ag hP4;have BH:=ag hb4;have GY:=ag (aJ hown (aJ hM3 (aJ RG wJ)));have hz4:=hb4.size;clear hown hM3 RG wJ hb4 hP4 y0 y1 y2 y3 y4 y5 y6 y7 yf q0 q1 q2 r0 r1 r2 r3 r4 r5 r6 r7 rf;obtain⟨y0,y1,y2,y3,y4,y5,y6,y7,yf⟩:=N0.bs));obtain⟨W5,mD⟩:=cd ((((((((w4.setCell (w,0) (ah sn b.names wF)).setCell (w,1) (ah a0 m0 n0)).setCell (w,2) (af b.t0.root)).setCell (w,3) (ah a1 m1 n1)).setCell (w,4) (af b.t1.root)).setCell (w,5) (ah a2 m2 n2)).setCell (w,6) (af b.t2.root)).setCell (w,7) (af b.floor));have Sg:∀q,q≠w.heap.size->W5.heap[q]?=w4.heap[q]?:=fun q hq=>by rw [mD];exact dZ hq
 have h5s:W5=w4.heap.size:=by rw [mD];simp only [aG]
 have h5b:aq w W5:=by
  have:=N0.below;rw [mD];exact(((((((this.setCell aO _).setCell aO _).setCell aO _).setCell aO _).setCell aO _).setCell aO _).setCell aO _).setCell aO _
 have Qi:=ag (show ng w #[ah sn b.names wF,ah a0 m0 n0,af b.t0.root,ah a1 m1 n1,af b.t1.root,ah a2 m2 n2,af b.t2.root,af b.floor] s time value W5 from
  ⟨h5b,by rw [h5s];exact N0.size,by rw [mD];exact kr N0.box,(Sg _ ai).trans N0.pt,(Sg _ ai).trans N0.res⟩)
 have ZU:=ag (show ∀N,w.heap.size<N->aQ N w4 W5 from fun N hN=>⟨ai,fun q hq _=>Sg q ai⟩);have TW:=ag (show W5.heap[w3.heap.size]?=some (.cells #[af 1,af value,af value,af value,af time,af value] 39)from (Sg _ ai).trans ((BH.block _ ai).trans pL));have DC:=ag (pE (s:=s) (w:=W5) (v:=ah sn b.names wF) (xs:=b.names) (by
  obtain⟨nv,x0,x1,x2,e,hs,-⟩:=GY.2.2.2 W5 (ZU _ ai);have e:=congrArg (fun v=>match v with | .agg a=>a[0]?|_=>none) e;simp at e;rw [e];exact hs))
 rw [<-mD];clear mD Sg h5b y0 y1 y2 y3 y4 y5 y6 y7 yf;obtain⟨y0,y1,y2,y3,y4,y5,y6,y7,yf⟩:=Qi.bs;obtain⟨q0,q1,q2⟩:=Qi.rR;obtain⟨hp,Kq⟩:=H16.out;rw [hp]at DC;have amF:((b.names.length:Int) == 16)=true:=by simp [Kq]
 clear hp Kq;go_wp2_with ((go_at_call 69;(with_reducible refine DC.out.mono ?_);rintro e w6 ⟨rfl,ji⟩;have Ua:=ag (Qi.later ji Qi.size);obtain⟨Um,y1',y2',y3',y4',y5',y6',y7',yf'⟩:=Ua.bs;obtain⟨r0,r1,r2,r3,r4,r5,r6,r7,rf⟩:=Ua.zs));have cT:=Ua.below;exact bW (v:= .tuple #[ey,af 1]) (by simp [results,Tryz.results35,go_sem, *]) rfl ⟨aj,rfl⟩
theorem Zm (h:bR w (.agg (aL sa b.names sc g0 l0 p0 g1 l1 p1 g2 l2 p2 b)) b)
  (hst:∀s∈b.names,s.size<=140737488351232) (tu:s.size<=140737488351232) (hsz:cI w) (hF:gK b s time value=0) :
  Calls Tryz.prog 35 #[.agg (aL sa b.names sc g0 l0 p0 g1 l1 p1 g2 l2 p2 b), .agg #[.string s,af time,af value]] w fun x w'=>aq w w'/\Tt b s time value w x w':=by
 obtain⟨W0,hW0⟩:=cd (((w.alloc (.cells (aL sa b.names sc g0 l0 p0 g1 l1 p1 g2 l2 p2 b) 30)).alloc (.cells #[.string s,af time,af value] 70)).alloc (.cells cz 30));have h0:=ng.start hW0;have uX:=ag h0;have z0:=h0.size;have jD:=ag (gP (h.below h0.below) hst (hsz.below h0.below));have vZ:=ag fun w'=>xX s w' tu;have rM:=ag fun w'=>K9 time value w';obtain⟨hm,hn,hro,ht0,ht1,hv0,hv1,hfl,hi0,hi1,hnl⟩:=kE hF;rw [eU hm]at jD;rw [hn]at vZ;rw [hro]at rM;have HF:=ag hF;have HH:=ag (show bR w (.agg (aL sa b.names sc g0 l0 p0 g1 l1 p1 g2 l2 p2 b)) b/\cI w from ⟨h,hsz⟩);have HNL:=ag hnl;clear hm hn hro hF hnl hv0 hv1;obtain⟨y0,y1,y2,y3,y4,y5,y6,y7,yf⟩:=h0.bs;clear h hst tu hsz h0;go_enter Tryz.func35,Tryz.ntmps35;go_upto_region 1 with (fail);rw [<-hW0];clear hW0;go_upto_region 7 with (first|(go_at_call 66;(with_reducible refine jD.out.mono ?_);rintro e w1 ⟨rfl,hb1⟩;have iN:=ag (uX.later hb1 z0);have z1:=iN.size;clear y0 y1 y2 y3 y4 y5 y6 y7 yf;obtain⟨y0,y1,y2,y3,y4,y5,y6,y7,yf⟩:=iN.bs;obtain⟨q0,q1,q2⟩:=iN.rR;obtain⟨r0,r1,r2,r3,r4,r5,r6,r7,rf⟩:=iN.zs;clear hb1)|(go_at_call 67;(with_reducible refine(vZ.out w1).mono ?_);rintro e w2 ⟨rfl,hb2⟩;have qC:=ag (iN.later hb2 z1);have z2:=qC.size;clear y0 y1 y2 y3 y4 y5 y6 y7 yf q0 q1 q2 r0 r1 r2 r3 r4 r5 r6 r7 rf;obtain⟨y0,y1,y2,y3,y4,y5,y6,y7,yf⟩:=qC.bs;obtain⟨q0,q1,q2⟩:=qC.rR;obtain⟨r0,r1,r2,r3,r4,r5,r6,r7,rf⟩:=qC.zs;clear hb2)|(go_at_call 68;(with_reducible refine(rM.out w2).mono ?_);rintro e w3 ⟨rfl,hb3⟩));obtain⟨W3,hW3⟩:=cd (w3.alloc (.cells #[af 1,af value,af value,af value,af time,af value] 39));have sL:=ag (show aq w2 W3 from by rw [hW3];exact aF hb3 ((aW _ _).alloc aO _) hb3.size);have zm:=ag (qC.later sL z2);have Z3:W3=w3.heap.size+1:=by rw [hW3];simp
 have z3:w+3<=w3.heap.size:=by have:=hb3.size;omega
 have pL:=ag (show W3.heap[w3.heap.size]?=some (.cells #[af 1,af value,af value,af value,af time,af value] 39) by rw [hW3];exact au _ _ rfl);rw [<-hW3];clear hW3 hb3 y0 y1 y2 y3 y4 y5 y6 y7 yf q0 q1 q2 r0 r1 r2 r3 r4 r5 r6 r7 rf;obtain⟨y0,y1,y2,y3,y4,y5,y6,y7,yf⟩:=zm.bs;obtain⟨q0,q1,q2⟩:=zm.rR;obtain⟨r0,r1,r2,r3,r4,r5,r6,r7,rf⟩:=zm.zs;have Uj:=ag (rC (HH.1.below zm.below));go_upto_region 12 with ((go_at_call 18;(with_reducible refine Uj.out.mono ?_);rintro e w4 ⟨hb4,sn,wF,a0,m0,n0,a1,m1,n1,a2,m2,n2,rfl,hown,M,hM1,hM2,hM3,RG,wJ⟩;have hP4:=zm.later hb4 ai;have N0:=ag hP4;have BH:=ag hb4;have GY:=ag (aJ hown (aJ hM3 (aJ RG wJ)));have hz4:=hb4.size;clear hown hM3 RG wJ hb4 hP4 y0 y1 y2 y3 y4 y5 y6 y7 yf q0 q1 q2 r0 r1 r2 r3 r4 r5 r6 r7 rf;obtain⟨y0,y1,y2,y3,y4,y5,y6,y7,yf⟩:=N0.bs));obtain⟨W5,mD⟩:=cd ((((((((w4.setCell (w,0) (ah sn b.names wF)).setCell (w,1) (ah a0 m0 n0)).setCell (w,2) (af b.t0.root)).setCell (w,3) (ah a1 m1 n1)).setCell (w,4) (af b.t1.root)).setCell (w,5) (ah a2 m2 n2)).setCell (w,6) (af b.t2.root)).setCell (w,7) (af b.floor));have Sg:∀q,q≠w.heap.size->W5.heap[q]?=w4.heap[q]?:=fun q hq=>by rw [mD];exact dZ hq
 have h5s:W5=w4.heap.size:=by rw [mD];simp only [aG]
 have h5b:aq w W5:=by
  have:=N0.below;rw [mD];exact(((((((this.setCell aO _).setCell aO _).setCell aO _).setCell aO _).setCell aO _).setCell aO _).setCell aO _).setCell aO _
 have Qi:=ag (show ng w #[ah sn b.names wF,ah a0 m0 n0,af b.t0.root,ah a1 m1 n1,af b.t1.root,ah a2 m2 n2,af b.t2.root,af b.floor] s time value W5 from
  ⟨h5b,by rw [h5s];exact N0.size,by rw [mD];exact kr N0.box,(Sg _ ai).trans N0.pt,(Sg _ ai).trans N0.res⟩)
 have ZU:=ag (show ∀N,w.heap.size<N->aQ N w4 W5 from fun N hN=>⟨ai,fun q hq _=>Sg q ai⟩);have TW:=ag (show W5.heap[w3.heap.size]?=some (.cells #[af 1,af value,af value,af value,af time,af value] 39)from (Sg _ ai).trans ((BH.block _ ai).trans pL));have DC:=ag (pE (s:=s) (w:=W5) (v:=ah sn b.names wF) (xs:=b.names) (by
  obtain⟨nv,x0,x1,x2,e,hs,-⟩:=GY.2.2.2 W5 (ZU _ ai);have e:=congrArg (fun v=>match v with | .agg a=>a[0]?|_=>none) e;simp at e;rw [e];exact hs))
 rw [<-mD];clear mD Sg h5b y0 y1 y2 y3 y4 y5 y6 y7 yf;obtain⟨y0,y1,y2,y3,y4,y5,y6,y7,yf⟩:=Qi.bs;obtain⟨q0,q1,q2⟩:=Qi.rR;go_upto_region 13 with ((go_at_call 69;(with_reducible refine DC.out.mono ?_);rintro e w6 ⟨rfl,ji⟩));have pM:=ag ji;have Ua:=ag (Qi.later ji Qi.size);have z6:=ji.size;clear ji y0 y1 y2 y3 y4 y5 y6 y7 yf q0 q1 q2;obtain⟨y0,y1,y2,y3,y4,y5,y6,y7,yf⟩:=Ua.bs;obtain⟨q0,q1,q2⟩:=Ua.rR;have abS:b.names.length<=16:=(dJ (kE HF).1).n16;have hK6:∀N,w.heap.size<N->aQ N w4 w6:=fun N hN=>(ZU N hN).trans ⟨pM.size,fun q _ hq=>pM.block q hq⟩;have HOW:=ag (show w6.ownsRow (W3+2) 9 1 (ah sn b.names wF) b.names (b.names.flatMap jN)from iU GY.1 (hK6 _ ai) aO);have HK6:=ag hK6;have HR6:=ag ((pM.block _ (by have:=TW.out;exact(eJ.1 this).1)).trans TW);clear hK6;go_upto_if 51 with (fail);go_cut [9] (fun i wx=>∃(sn9:Option Addr) (sc9:Nat),i=af (jG b s)/\Hid (ng w #[ah sn9 (bH b s).length sc9,ah a0 m0 n0,af b.t0.root,ah a1 m1 n1,af b.t1.root,ah a2 m2 n2,af b.t2.root,af b.floor] s time value wx/\aQ M w4 wx/\wx.heap[w3.heap.size]?=some (.cells #[af 1,af value,af value,af value,af time,af value] 39) /\
  wx.ownsRow (W3+2) 9 1 (ah sn9 (bH b s).length sc9) (bH b s).length ((bH b s).flatMap jN)))
 case first=>
  rcases iE b.names s with ⟨pk,hpk,hp,-⟩|⟨hp,-⟩
  ·have HA:=ag (show jG b s=pk/\bH b s=b.names from ⟨by unfold jG;rw [hp,ar ai],by unfold bH;rw [hp,ar ai]⟩);rw [hp];clear hp;go_wp2_with fail;go_meet;rw [HA.1,HA.2];exact⟨sn,wF,rfl,ag ⟨Ua,HK6 _ ai,HR6,HOW⟩⟩
  ·have HA:=ag (show jG b s=b.names/\bH b s=b.names++[s]from ⟨by unfold jG;rw [hp,aw ai],by unfold bH;rw [hp,aw ai]⟩);have aj7:=HNL (by rw [hp];decide);rw [hp];clear hp;obtain⟨W7,pF⟩:=cd (w6.alloc (.cells #[.string s] 9));have ow:aq w6 W7:=by rw [pF];exact aj
   have k7:W7.heap[w6.heap.size]?=some (.cells #[.string s] 9):=by rw [pF];exact au _ _ rfl
   have E0:W7=w6.heap.size+1:=by rw [pF];simp
   have ZH:=ag (cL HOW ow);have TZ:=ag (Ua.later ow (by have:=Ua.size;omega));have c7:W7.cell? (w6,0)=some (.string s):=by simp [World.cell?,k7]
   have hne:(b.names.length:Int)≠16:=ai;have hnb:((b.names.length:Int) == 16)=false:=by simp;omega
   have zn:=ag ow;have HG8:=ag fun(w8:World) (Qd:W7.grownBy w8 (ah sn b.names wF).ownBlock)=>(by
    have hq:∀q,q<W3.heap.size+2->w8.heap[q]?=W7.heap[q]?:=fun q hq=>Qd.block q (by have:=TZ.size;omega) (fun e=>by have:=(ZH.lt q e.symm).1;omega);have h7:=TZ.out;refine⟨⟨nP h7.below Qd h7.below.size (fun j hj=>by have:=(ZH.lt j hj).1;omega),by have:=Qd.size;have:=h7.size;omega,(hq _ ai).trans h7.box,(hq _ ai).trans h7.pt,(hq _ ai).trans h7.res⟩,(hq _ ai).trans ((zn.block _ (by have:=(eJ.1 HR6).1;omega)).trans HR6),((HK6 M ai).trans (aQ.of zn aO)).trans ⟨Qd.size,fun q hqM hq=>Qd.block q hq fun e=>by have:=GY.2.1 q e.symm;omega⟩⟩ :
    ng w #[ah sn b.names wF,ah a0 m0 n0,af b.t0.root,ah a1 m1 n1,af b.t1.root,ah a2 m2 n2,af b.t2.root,af b.floor] s time value w8/\w8.heap[w3.heap.size]?=some (.cells #[af 1,af value,af value,af value,af time,af value] 39)/\aQ M w4 w8)
   clear ow k7;go_wp2_with ((at_builtin;refine jm rfl (.tmp 59) (.tmp 62) rfl (W3+2) (ah sn b.names wF) b.names rfl (pF▸ZH.out) (w6,0) s rfl (pF▸c7) ai fk ?_;rw [<-pF];intro v8 w8 ab3 Qd hv8;obtain⟨s8,c8,rfl⟩:=aU ab3;have ac4:=HG8 _ Qd;obtain⟨amr,-,-,-,-,-,-,-,aml⟩:=ac4.1.bs));go_meet;obtain⟨hA8,hR8,hK8⟩:=ac4;rw [HA.1,HA.2];have RJ:(b.names++[s]).length=b.names+1:=bh;rw [RJ];have Ye:∀q,q≠w.heap.size->(w8.setCell (w,0) (ah s8 (b.names+1) c8)).heap[q]?=w8.heap[q]?:=fun q hq=>cH _ ⟨w.heap.size,_,none⟩ q _ hq;refine⟨s8,c8,rfl,ag ⟨⟨hA8.below.setCell aO _,by simp only [aG];exact hA8.size,?_,(Ye _ ai).trans hA8.pt,(Ye _ ai).trans hA8.res⟩,hK8.set (by show w<M;omega) _,(Ye _ ai).trans hR8,jy ab3 ai _⟩⟩;have:=aM (off:=0) (v:=ah s8 (b.names+1) c8) hA8.box;simpa using this
 case rest=>
  obtain⟨sn9,sc9,rfl,HC⟩:=hcut;have am3:(bH b s).length<=17:=by
   unfold bH
   split
   ·rw [dF,List.length_singleton];omega
   ·omega
  have HST:=ag (show Bi w b s time value w3 0 sn9 sc9 (ny a0 a1 a2) (ny m0 m1 m2) (ny n0 n1 n2) (ny b.t0.root b.t1.root b.t2.root) (fun j=>b.tree j) wc from by
   obtain⟨c1,c2,c3,c4⟩:=HC.out;have hn:=GY.2.2.1;refine⟨c1,c3,z3,fun w'' hk=>ct.owned dD (iU c4 hk ai) rfl ai,fun j hj w'' hk=>?_,fun j hj=>ai,fun j _ _=>rfl⟩;have:=hn w'' (c2.trans (hk.mono ai));obtain rfl|rfl|rfl:j=0\/j=1\/j=2:=ai
   ·exact⟨_,rfl,this.1⟩
   ·exact⟨_,rfl,this.2.1⟩
   ·exact⟨_,rfl,this.2.2⟩)
  obtain⟨l,hl⟩:∃l,cx b=some l:=by obtain⟨l,hl,-⟩:=qq (kE HF).1;exact⟨l,hl⟩
  have HL:=ag hl;obtain⟨-,s0,s1,s2⟩:=HH.2.below HST.at'.below;clear HC GY HOW HK6 HR6 pM Ua DC TW ZU Qi BH N0 Uj pL zm sL qC iN uX jD vZ rM hl HNL abS y0 y1 y2 y3 y4 y5 y6 y7 yf q0 q1 q2;obtain⟨rb,Wv⟩:=bG (w3.heap.size);rw [Wv]at HST ⊢;clear Wv;obtain⟨I,hI⟩:=bG (jG b s);rw [hI]at hi0 hi1;rw [hI];have HI:=ag hI;clear hI;go_wp2_with fail;clear s0 s1 s2
  go_loopg [66] 3 (fun g i wr=>∃k,k<=3/\g=3-k/\i=af k/\Hid (∃sn sc g n c r T,Bi w b s time value rb k sn sc g n c r T wr))
  case atStart=>exact⟨0,ai,rfl,rfl,ag ⟨_,_,_,_,_,_,_,HST⟩⟩
  case round=>
   clear HST;obtain⟨k,hk,rfl,rfl,HR⟩:=hrel;obtain⟨sn,sc,g,n,c,r,T,hA⟩:=HR.out;by_cases hlt:k<3
   ·have tz:(k:Int)<3:=ai;have hTk:=hA.rest k aO hlt;have HTA:=ag (show ∀w'',aQ (w+3) wr w''->di w'' (.agg #[ah (g k) (n k) (c k),af (r k)]) (b.tree k)from fun w'' hk=>by rw [<-hTk];exact hA.tr k hlt w'' hk);have Z9:=hA.at'.size;obtain⟨yA,yB⟩:=hA.cells hlt;obtain⟨gk,E3⟩:=bG (g k);obtain⟨lk,hlk⟩:=bG (n k);obtain⟨pk,hpk⟩:=bG (c k);obtain⟨rk,LI⟩:=bG (r k);rw [E3,hlk,hpk,LI]at HTA;rw [E3,hlk,hpk]at yA;rw [LI]at yB;obtain⟨q0,q1,q2⟩:=hA.at'.rR;have X5:=hA.rol;have hrl:=(eJ.1 X5).1;have HA:=ag hA;have ou:=OY k hlt;have hsp:=eB k;obtain⟨S,hS⟩:=bG (bp k);rw [hS]at ou hsp;obtain⟨Q,hQ⟩:=bG (time/S);obtain⟨P,hP⟩:=bG (Q*S);have hQ0:0<=Q/\Q<=time/\0<=P/\P<=time:=by
     have h1:0<=Q:=(by rw [<-hQ];exact Int.ediv_nonneg ht0 (Int.le_of_lt hsp));exact⟨h1,by rw [<-hQ];exact Int.ediv_le_self _ ht0,by rw [<-hP];exact Int.mul_nonneg h1 (Int.le_of_lt hsp),by rw [<-hP,<-hQ];exact Int.ediv_mul_le _ ai⟩
    have hs0:(S == 0)=false:=(by simp;omega);have abG:¬S=0:=ai;have ht6:time.tdiv S=Q:=(by rw [Dw ht0];exact hQ);have ht2:IntKind.i64.wrap Q=Q:=bI _ ai;have Ws:IntKind.i64.wrap (Q*S)=P:=(by rw [hP];exact bI _ ai);have ht4:IntKind.i64.wrap (I*1048576)=I*1048576:=bI _ ai;have ud:IntKind.i64.wrap (I*1048576+P)=I*1048576+P:=bI _ ai;have HKEY:=ag (show (j6 b s time value k).key=I*1048576+P from by show jG b s*1048576+time/bp k*bp k=_;rw [HI,hS,hQ,hP]);have HPU:=ag fun(W:World) (hb:aq wr W)=>(by
     have h1:=xK (w:=W) (key:=(j6 b s time value k).key) (r:=(j6 b s time value k).is) (HTA W (aQ.of hb aO)) (fun h0=>by
      rcases (qa HF HL (k:=k) hlt).1 with ⟨-,p2⟩|⟨p1,-⟩
      ·exact p2
      ·have:(0:Int)=1:=h0.symm.trans p1;omega)
     rw [HKEY]at h1;rw [HKEY];exact h1:Calls Tryz.prog 70 #[.agg #[ah gk lk pk,af rk],af (I*1048576+P), .agg #[af 1,af value,af value,af value,af time,af value]] W fun x w'=>aq W w'/\∃so n c rt E2,x = .returned (.tuple #[.agg #[ah so n c,af rt],af E2])/\ru W (b.tree k) (j6 b s time value k).key (j6 b s time value k).is w' so n c rt E2)
    have HS:=ag fun(W:World) (hb:aq wr W)=>(by
     have c:∀g o,g<wr.heap.size->W.cell? ⟨g,o,none⟩=wr.cell? ⟨g,o,none⟩:=fun g o h=>hb.cell (p:=⟨g,o,none⟩) h;have hr:=(hb.block rb hrl).trans X5;exact⟨(c _ _ ai).trans yA,(c _ _ ai).trans yB,(c _ _ ai).trans q1,by simp [World.cell?,hr],by simp [World.cell?,hr],by simp [World.cell?,hr],by simp [World.cell?,hr],by simp [World.cell?,hr],by simp [World.cell?,hr]⟩ :
     W.cell? (w,1+k*2)=some (ah gk lk pk)/\(W,w.heap.size,1+k*2+1,rk)/\(W,w.heap.size+1,1,time)/\W.cell? (rb,0)=some (af 1)/\(W,rb,1,value)/\(W,rb,2,value)/\(W,rb,3,value)/\(W,rb,4,time)/\(W,rb,5,value))
    clear hA hTk X5 hQ hP hS E3 hlk hpk LI HR HKEY HTA hi0 hi1 ht0 hfl;go_upto_region 21 with (fail);clear yA yB q0 q1 q2 ou;go_cut [12,13] (fun p c wx=>∃(tb:Nat) (so:Option Addr) (nn c6:Nat) (rt E2:Int),p = .pointer (some (tb,0))/\c=af E2/\Hid (aq wr wx/\wr<=tb/\wx.heap[tb]?=some (.cells #[ah so nn c6,af rt] 27)/\ru wr (b.tree k) (j6 b s time value k).key (j6 b s time value k).is wx so nn c6 rt E2))
    case first=>
     have T0:aq wr wr.drew:=(aW _ _).drew;refine jR (tK.of [(0,1),(1,1),(2,1),(3,0),(4,1),(5,1),(6,1),(7,0),(8,1),(9,1),(10,1),(11,1),(12,1),(13,0)] (.fork 14 18 (tK.of [(15,1),(16,1),(17,1),(18,2),(19,3),(20,1)] .nil) (tK.of [(14,2),(15,1),(16,1),(17,1),(19,3),(20,1)] .nil))) 19
      (fun W=>W.cell? (w,1+k*2)=some (ah gk lk pk)/\(W,w.heap.size,1+k*2+1,rk)/\(W,w.heap.size+1,1,time)/\W.cell? (rb,0)=some (af 1)/\(W,rb,1,value)/\(W,rb,2,value)/\(W,rb,3,value)/\(W,rb,4,time)/\(W,rb,5,value)) cV cV (HS _ T0) ?_
     simp only [tK.of]
     (repeat first|refine gZ ?_|refine gY ?_)
     refine rZ rfl rfl rfl rfl (fun K hK=>?_) (fun K hK=>?_)
     ·go_simp
      (with_reducible refine(HPU.out _ T0).mono ?_);rintro x w6 ⟨ji,so,n6,c6,rt,E2,rfl,hpf⟩
      have B6:aq wr w6:=aF T0 ji aO;go_simp;refine hK _ _ (HS _ B6) ?_;clear hK K T0
      (repeat first|refine gZ ?_|refine gY ?_)
      refine gq rfl rfl (fun K hK=>?_);go_simp;obtain⟨W7,pF⟩:=cd (w6.alloc (.cells #[az 0 0,af 0] 27));have ow:aq w6 W7:=(by rw [pF];exact aj);have k7:W7.heap[w6.heap.size]?=some (.cells #[az 0 0,af 0] 27):=(by rw [pF];exact au _ _ rfl);have B7:aq wr W7:=aF B6 ow B6.size;rw [<-pF];refine hK _ _ (HS _ B7) ?_;clear hK K pF;have d0:W7.cell? (w6,0)=some (az 0 0):=(by simp [World.cell?,k7]);have d1:W7.cell? (w6,1)=some (af 0):=(by simp [World.cell?,k7]);have df:∀o,W7.frozen? ⟨w6.heap.size,o,none⟩=false:=fun o=>by simp [World.frozen?,k7]
      (repeat first|refine gZ ?_|refine gY ?_)
      refine jC rfl rfl (fun K hK=>?_);go_simp;refine hK _ _ ?_;clear hK K
      (repeat first|refine gZ ?_|refine gY ?_)
      refine kT ?_;go_wp2_with fail;go_meet;have DK:=B6.size;have e2:((W7.setCell (w6,0) (ah so n6 c6)).setCell (w6,1) (af rt)).heap[w6.heap.size]?=some (.cells #[ah so n6 c6,af rt] 27):=by
       have:=aM (off:=1) (v:=af rt) (aM (off:=0) (v:=ah so n6 c6) k7);simpa using this
      have KX:aQ wr w6 ((W7.setCell (w6,0) (ah so n6 c6)).setCell (w6,1) (af rt)):=⟨by simp only [aG];exact ow.size,fun q _ hq=>((cH _ ⟨w6.heap.size,_,none⟩ q _ (by show q≠w6.heap.size;omega)).trans (cH _ ⟨w6.heap.size,_,none⟩ q _ (by show q≠w6.heap.size;omega))).trans (ow.block q hq)⟩;exact⟨w6.heap.size,so,n6,c6,rt,E2,rfl,rfl,ag ⟨(B7.setCell DK _).setCell DK _,DK,e2,hpf.keep (B':=wr.heap.size) KX aO⟩⟩
     ·go_simp;obtain⟨W7,pF⟩:=cd ((wr.alloc (.cells #[az 0 0,af 0] 27)).drew);have B7:aq wr W7:=(by rw [pF];exact aj);have k7:W7.heap[wr.heap.size]?=some (.cells #[az 0 0,af 0] 27):=(by rw [pF];exact au _ _ rfl);have E0:W7=wr.heap.size+1:=(by rw [pF];simp);rw [<-pF];refine hK _ _ (HS _ B7) ?_;clear hK K pF T0
      (repeat first|refine gZ ?_|refine gY ?_)
      refine gq rfl rfl (fun K hK=>?_);go_simp
      (with_reducible refine(HPU.out _ B7).mono ?_);rintro x w6 ⟨ji,so,n6,c6,rt,E2,rfl,hpf⟩
      have B6:aq wr w6:=aF B7 ji B7.size;have k6:=(ji.block wr ai).trans k7;go_simp;refine hK _ _ (HS _ B6) ?_;clear hK K;have d0:w6.cell? (wr,0)=some (az 0 0):=(by simp [World.cell?,k6]);have d1:w6.cell? (wr,1)=some (af 0):=(by simp [World.cell?,k6]);have df:∀o,w6.frozen? ⟨wr.heap.size,o,none⟩=false:=fun o=>(by simp [World.frozen?,k6]);have DK:=ji.size;clear k7
      (repeat first|refine gZ ?_|refine gY ?_)
      refine jC rfl rfl (fun K hK=>?_);go_simp;refine hK _ _ ?_;clear hK K
      (repeat first|refine gZ ?_|refine gY ?_)
      refine kT ?_;go_wp2_with fail;go_meet;have e2:((w6.setCell (wr,0) (ah so n6 c6)).setCell (wr,1) (af rt)).heap[wr.heap.size]?=some (.cells #[ah so n6 c6,af rt] 27):=by
       have:=aM (off:=1) (v:=af rt) (aM (off:=0) (v:=ah so n6 c6) k6);simpa using this
      have KX:aQ W7 w6 ((w6.setCell (wr,0) (ah so n6 c6)).setCell (wr,1) (af rt)):=((aQ.refl _ _).set (by show wr.heap.size<_;omega) _).set (by show wr.heap.size<_;omega) _;exact⟨wr.heap.size,so,n6,c6,rt,E2,rfl,rfl,ag ⟨(B6.setCell aO _).setCell aO _,nu _,e2,hpf.keep (B':=wr.heap.size) KX ai⟩⟩
    case rest=>
     obtain⟨tb,so,nn,c6,rt,E2,rfl,rfl,HX⟩:=hcut;have Xq:=ag (HA.later HX.out.1);obtain⟨yA,yB⟩:=Xq.cells hlt;obtain⟨-,-,-,-,-,-,-,-,yf⟩:=Xq.at'.bs;obtain⟨z0',z1',z2',z3',z4',z5',z6',z7',zf'⟩:=Xq.at'.zs;obtain⟨q0,q1⟩:wc.cell? (tb,0)=some (ah so nn c6)/\(wc,tb,1,rt):=by
      have:=HX.out.2.2.1;simp [World.cell?,this]
     by_cases h0:E2=0
     ·subst h0;go_wp2_with fail;go_roundg (3-(k+1))
      case measure=>omega
      case rel=>
       obtain⟨t',m1,m2,m3,m4,m5⟩:=Zk HF HL (k:=k) hlt HX.out.2.2.2;exact⟨k+1,ai,rfl,by go_num,ag ⟨_,_,_,_,_,_,_,HA.step hlt HX.out.1 m1 ⟨m2,m3,m4,m5⟩⟩⟩
     ·have d2:(E2 != 0)=true:=(by simp [h0]);obtain⟨WK,he2⟩:=VF HF HL (k:=k) hlt HX.out.2.2.2 h0;have HE:=ag he2;subst WK;clear he2 h0;go_wp2_with fail;have cT:=Xq.at'.below;exact bW (v:= .tuple #[ey,af 1]) (by simp [results,Tryz.results35,go_sem, *]) rfl ⟨aj, .inl ⟨1,rfl,rfl,HE⟩⟩
   ·obtain rfl:k=3:=ai;have HD:=ag hA.done;have HA:=ag hA;obtain⟨y0,y1,y2,y3,y4,y5,y6,y7,yf⟩:=hA.at'.bs;obtain⟨z0',z1',z2',z3',z4',z5',z6',z7',zf'⟩:=hA.at'.zs;obtain⟨e0,e1,e2,hB⟩:=hA.base;rw [e0]at y2;rw [e1]at y4;rw [e2]at y6;have HB:=ag hB;have HS:=ag (show ∀j,j<3->Small (j6 b s time value j::(b.tree j).all)from fun j hj=>(HD j hj).2.2.2);have ZW:=ag (Zl (T:=T) HF HL HS fun j hj=>⟨(HD j hj).1,(HD j hj).2.1⟩);have HG:=ag (vY HF HL HS).1;clear hA hB e0 e1 e2;go_wp2_with fail;have cT:=HA.at'.below;refine bW (v:= .tuple #[.agg #[ah sn (bH b s).length sc,ah (g 0) (n 0) (c 0),af (T 0).root,ah (g 1) (n 1) (c 1),af (T 1).root,ah (g 2) (n 2) (c 2),af (T 2).root,af b.floor],af 0]) (by simp [results,Tryz.results35,go_sem, *]) rfl ⟨aj, .inr ⟨HG,⟨bH b s,T 0,T 1,T 2,b.floor⟩,sn,sc,g 0,n 0,c 0,g 1,n 1,c 1,g 2,n 2,c 2,rfl,fun w'' hk=>HB w'' (aQ.trans ?_ (hk.mono ai)),rfl,rfl,ZW.1,ZW.2,fun j hj=>?_⟩⟩
    ·repeat (first|with_reducible exact aQ.refl _ _|with_reducible refine aQ.set ?_ (by show w+2<w.heap.size+3;omega) _)
    ·have h3:j=0\/j=1\/j=2:=ai;have:=(HD j hj).2.2.1;rcases h3 with rfl|rfl|rfl <;> exact this
end
theorem AJ {v:Value} {b:Ba} {s:ByteArray} {time value:Int} {w:World} (h:bR w v b) (hst:∀s∈b.names,s.size<=140737488351232) (tu:s.size<=140737488351232) (hsz:cI w) :
  Calls Tryz.prog 35 #[v, .agg #[.string s,af time,af value]] w fun x w'=>aq w w' /\
   ((gK b s time value≠0/\x = .returned (.tuple #[ey,af (gK b s time value)]))\/(gK b s time value=0/\Tt b s time value w x w')):=by
 obtain⟨sa,sc,g0,l0,p0,g1,l1,p1,g2,l2,p2,rfl,-⟩:=h.open;have er:∀{k:Int},gK b s time value=k->k≠0->Calls Tryz.prog 35 #[.agg (aL sa b.names sc g0 l0 p0 g1 l1 p1 g2 l2 p2 b), .agg #[.string s,af time,af value]] w (fun x w'=>aq w w'/\x = .returned (.tuple #[ey,af k])) ->
   Calls Tryz.prog 35 #[.agg (aL sa b.names sc g0 l0 p0 g1 l1 p1 g2 l2 p2 b), .agg #[.string s,af time,af value]] w (fun x w'=>aq w w'/\((gK b s time value≠0/\x = .returned (.tuple #[ey,af (gK b s time value)]))\/(gK b s time value=0/\Tt b s time value w x w'))):=fun {k} e hk hc=>by
  subst e;exact hc.mono fun x w' ⟨h1,h2⟩=>⟨h1, .inl ⟨hk,h2⟩⟩
 by_cases hm:aS b=true
 ·by_cases hn:dt s=true
  ·by_cases hr:0<=time/\time<=1048575/\-1000000<=value/\value<=1000000
   ·have hro:(ej time value).2=0:=(by unfold ej;rw [aw hr]);by_cases hf:time<b.floor
    ·exact er (by unfold gK;rw [ar (by simp [hm]),ar (by simp [hn]),ar (by simp [hro]),aw hf]) bY (BC h hst tu hsz (.inr (.inr (.inr ⟨hm,hn,hr,hf,rfl⟩))))
    ·by_cases hp:bt b.names s<0/\16<=b.names.length
     ·have Kq:=(dJ hm).n16;have hp1:bt b.names s = -1:=by
       rcases iE b.names s with ⟨k,-,e,-⟩|⟨e,-⟩
       ·omega
       ·exact e
      exact er (by unfold gK;rw [ar (by simp [hm]),ar (by simp [hn]),ar (by simp [hro]),ar hf,aw hp]) bY (SP h hst tu hsz hm hn hr ai hp1 ai)
     ·have h0:gK b s time value=0:=(by unfold gK;rw [ar (by simp [hm]),ar (by simp [hn]),ar (by simp [hro]),ar hf,ar hp]);exact(Zm h hst tu hsz h0).mono fun x w' ⟨h1,h2⟩=>⟨h1, .inr ⟨h0,h2⟩⟩
   ·have hro:(ej time value).2=2:=(by unfold ej;rw [ar hr]);exact er (by unfold gK;rw [ar (by simp [hm]),ar (by simp [hn]),aw (by simp [hro]),hro]) bY (BC h hst tu hsz (.inr (.inr (.inl ⟨hm,hn,hr,rfl⟩))))
  ·have hn:dt s=false:=by simpa using hn
   exact er (by unfold gK;rw [ar (by simp [hm]),aw hn]) bY (BC h hst tu hsz (.inr (.inl ⟨hm,hn,rfl⟩)))
 ·have hm:aS b=false:=by simpa using hm
  exact er (by unfold gK;rw [aw hm]) bY (BC h hst tu hsz (.inl ⟨hm,rfl⟩))
end Go.Proofs.YtmljjfhgciaceaaGreatDoor
