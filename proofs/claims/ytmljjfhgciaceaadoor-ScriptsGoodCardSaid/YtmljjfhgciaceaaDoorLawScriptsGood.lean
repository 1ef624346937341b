import Derived.Test.YtmljjfhgciaceaaDoorHd
import Derived.Test.YtmljjfhgciaceaaDoorTopW
import Derived.Test.YtmljjfhgciaceaaDoorEG
namespace Go.Proofs.YtmljjfhgciaceaaDoor
open Go.RowKit
set_option maxRecDepth 100000
set_option maxHeartbeats 4000000
theorem xW {v:Value} {xs:List Rw} {n:Int} {w:World} (h:Ar w v xs) (hx:∀a∈xs,a.ok) (hn:i64 n) (hsz:bL w) :
  Calls Tryd.prog 7 #[v, .int .i64 n] w fun e w'=>e = .returned (.bool true)/\ah w w':=by
 obtain⟨ao,cap,rfl⟩:=h.isSlice
 have HA:=hdd (show Calls Tryd.prog 12 #[.slice ao xs.length cap, .int .i64 50] w _ from vg (most:=50) h hx aW)
 have nN:=hdd hsz
 have Aw:=hdd (ve (xs:=xs) (most:=50))
 have KS:=hdd (qh (xs:=xs) (most:=50))
 have HPI:=hdd fun W=>iL n 9 W hn.1 hn.2 aW aW
 have hpr:=cU (n:=n) (m:=9) aW
 obtain⟨J,hJ⟩:=bt (picked n 9)
 rw [hJ]at HPI hpr
 have hw7:IntKind.i64.wrap (7+J)=7+J:=IntWalk.i64_in _ af
 have HJR:=hdd hpr
 clear h hx hsz hn hJ hpr
 go_enter Tryd.func7,Tryd.ntmps7
 go_upto_region 2 with (go_at_call 12;(with_reducible refine HA.out.mono ?_);rintro e w1 ⟨hb1,oa,oc,rfl,hown⟩)
 obtain⟨L,hL⟩:=bt (jh xs 50)
 rw [hL]at hown Aw KS ⊢
 have tX:=hdd hb1
 have FD:=hdd hown
 have Uq:=hdd (Cr (hown.at (by have:=Aw.out;omega)) KS.out (by have:=Aw.out;omega) (nN.out.below hb1))
 clear hL hb1 HA hown
 go_upto_region 3 with (go_at_call 28;(with_reducible refine Uq.out.mono ?_);rintro e w2 ⟨hb2,xa,xc,qs,b,sa,sc,g0,l0,p0,g1,l1,p1,g2,l2,p2,rfl,Rk,-,-,je,Ep,hok⟩;have gI:=hdd hb2;have HP:=hdd (aL Rk (aL je (aL Ep hok)));clear hb2 Rk je Ep hok)
 obtain⟨W2,hW2⟩:=bP (w2.alloc (.cells (aG sa b.names.length sc g0 l0 p0 g1 l1 p1 g2 l2 p2 b) 35))
 have wj:ah w2 W2:=by rw [hW2];exact ag
 have k2:W2.heap[w2.heap.size]?=some (.cells (aG sa b.names.length sc g0 l0 p0 g1 l1 p1 g2 l2 p2 b) 35):=by rw [hW2];exact aj _ _ rfl
 have K2:=hdd fun W (hb:ah W2 W)=>fh ((hb.block _ (by rw [hW2];simp)).trans k2)
 have QB:=hdd (Below.trans' tX.out (Below.trans' gI.out wj gI.out.size) tX.out.size)
 have K3:=hdd fun W (hb:ah W2 W)=>HP.out.2.1 W ((aM.of (Below.trans' gI.out wj gI.out.size |> fun _=>wj) aH).trans (aM.of hb aH))
 have wU:=hdd (FD.out.below (Below.trans' gI.out wj gI.out.size) aH)
 have yr:=hdd (EZ (wU.out.at (by have:=Aw.out;omega)))
 have Fk:=hdd wj.size
 rw [<-hW2]
 obtain⟨tb,BH⟩:=bt (w2.heap.size)
 rw [BH]at K2 ⊢
 clear hW2 wj k2 BH Uq
 go_upto_region 4 with (first
  |(go_at_call 15;(with_reducible refine yr.out.mono ?_);rintro e w3 ⟨v3,rfl,kj,hb3⟩;obtain⟨so3,sc3,rfl⟩:=kj.isSlice;have hs3:=hb3.size)
  |(go_at_call 29;(with_reducible refine(HPI.out _).mono ?_);rintro e _ ⟨rfl,rfl⟩)
  |(at_builtin;refine fT rfl (.tmp 26) (.tmp 31) rfl W2.heap.size _ L rfl (kj.alloc _) ⟨_,0,none⟩ ⟨7+J,ByteArray.empty,0,0,0,0⟩ rfl (fun j u h=>vz h) (by have:=Aw.out;omega) (by simp;omega) ?_;intro v4 w4 pN hg4 hv4;obtain⟨M,hM⟩:=bt (L++[⟨7+J,ByteArray.empty,0,0,0,0⟩]);rw [hM]at pN;have HM:=hdd hM;have hb4:ah W2 w4:=Below.grown (hb3.alloc hb3.size _) hg4 (by simp;omega) (fun j hj=>(kj.lt j hj).1);have wV:=hdd hb4;obtain⟨so4,sc4,rfl⟩:=pN.isSlice;have AX:M.length<=51:=(by rw [<-hM,dO];have:=Aw.out;simp;omega);have HML:=hdd AX;have OQ:=hdd (Cr (pN.at af) (fun a ha=>by rw [<-hM]at ha;rcases kJ.1 ha with ha|ha;exact KS.out a ha;rw [mR.1 ha];exact(show (0:Nat)<=140737488351232 by decide)) af (nN.out.below (Below.trans' QB.out hb4 QB.out.size)));clear hM pN hg4 hv4 hb4 AX)
  |(go_at_call 28;(with_reducible refine OQ.out.mono ?_);rintro e w5 ⟨cu,ya,yc,rs,c,ca,cc,z0,m0,q0,z1,m1,q1,z2,m2,q2,rfl,Rk,hown,-,je,Ep,-⟩;have Cc:=hdd cu;have Fq:=hdd (aL Rk (aL je (aL Ep hown)));clear cu Rk je Ep hown))
 obtain⟨W5,mN⟩:=bP (w5.alloc (.cells (aG ca c.names.length cc z0 m0 q0 z1 m1 q1 z2 m2 q2 c) 35))
 have eK:ah w5 W5:=by rw [mN];exact ag
 have k5:W5.heap[w5.heap.size]?=some (.cells (aG ca c.names.length cc z0 m0 q0 z1 m1 q1 z2 m2 q2 c) 35):=by rw [mN];exact aj _ _ rfl
 have HCX:=hdd fun W (hb:ah W5 W)=>fh ((hb.block _ (by rw [mN];simp)).trans k5)
 have XB:ah W2 W5:=Below.trans' wV.out (Below.trans' Cc.out eK Cc.out.size) wV.out.size
 have Zz:=hdd fun W (hb:ah W5 W)=>(Below.trans' XB hb XB.size:ah W2 W)
 have OJ:=hdd fun W (hb:ah W5 W)=>(Below.trans' QB.out (Below.trans' XB hb XB.size) QB.out.size:ah w W)
 have HCA:=hdd fun W (hb:ah W5 W)=>Fq.out.2.1 W ((aM.of eK aH).trans (aM.of hb aH))
 have YN:gK St.zero M=gK St.zero L/\sy St.zero M=sy St.zero L++[⟨3,aw.zero,[]⟩]:=by
  obtain⟨o1,o2⟩:=NN (x:=gK St.zero L) (a:=⟨7+J,ByteArray.empty,0,0,0,0⟩) (by have:=HJR.out;show ¬(1<=7+J/\7+J<=6);omega)
  rw [<-HM.out,rU,Bu,o1,o2]
  exact⟨rfl,rfl⟩
 have HRM:=hdd YN
 have Ep:=HP.out.2.2.1
 have hic:Is c (gK St.zero L).m M.length:=by rw [<-YN.1];exact Fq.out.2.2.1
 have hok:=(Ep.ok (by have:=Aw.out;omega)).wH (by have:=Aw.out;omega)
 have PY:=fun W (hb:ah W5 W)=>CO Ep (by have:=Aw.out;omega) (K3.out W (Zz.out W hb)) (nN.out.below (OJ.out W hb))
 have K7:=fun W (hb:ah W5 W)=>CO hic (by have:=HML.out;omega) (HCA.out W hb) (nN.out.below (OJ.out W hb))
 have Es:=fun W (hb:ah W5 W)=>(by
  have h1:=eO (K3.out W (Zz.out W hb)) Ep.small (nN.out.below (OJ.out W hb))
  rw [show jL b=0 from dG Ep.st.may]at h1
  exact h1:Calls Tryd.prog 31 #[.agg (aG sa b.names.length sc g0 l0 p0 g1 l1 p1 g2 l2 p2 b)] W fun e w'=>e = .returned (.int .i64 0)/\ah W w')
 obtain⟨X,hX⟩:=bt ((gK St.zero L).m.bytes)
 simp only [hX]at PY K7
 rw [hX]at hok
 have HE1:=hdd PY
 have Yh:=hdd K7
 have iq:=hdd Es
 have nA:=hdd hok
 have YO:qs.length=L.length:=by have h1:=congrArg List.length HP.out.1;rw [oJ,uj]at h1;exact h1
 have hrs:rs.map qG.an=(qs.map qG.an)++[⟨3,aw.zero,[]⟩]:=by rw [Fq.out.1,HP.out.1,YN.2]
 have hrl:rs.length=L.length+1:=by have h1:=congrArg List.length hrs;rw [oJ,dO,oJ,YO]at h1;exact h1
 have h3:∀h:L.length<rs.length,rs[L.length].an.code=3:=fun hlt=>by
  have h1:(rs.map qG.an)[L.length]?=some ⟨3,aw.zero,[]⟩:=by rw [hrs,List.getElem?_append_right (by rw [oJ];omega),oJ,YO,Nat.sub_self];rfl
  rw [List.getElem?_map,nL hlt]at h1
  simp only [Option.map_some,iw]at h1
  rw [h1]
 have Ld:=hdd hrl
 have H3:=hdd h3
 obtain⟨c0,c1,c2,c3,c4,c5,c6,c7,-⟩:=K2.out W5 (Zz.out W5 (aI _ _))
 have HQ:=hdd YO
 rw [<-mN]
 obtain⟨ub,hub⟩:=bt (w5.heap.size)
 rw [hub]at HCX ⊢
 have Zl:=hdd (Fq.out.2.2.2.below eK aH)
 clear mN eK k5 XB YN Ep hic hok PY K7 Es hX YO hrs hrl h3 hub hb3 kj hs3 OQ
 go_upto_region 5 with (go_at_call 30;(with_reducible refine(HE1.out _ (aI _ _)).mono ?_);rintro e w6 ⟨jf,xo,xd,rfl,Ow⟩)
 have pA:=hdd jf
 have XY:=hdd Ow
 clear c0 c1 c2 c3 c4 c5 c6 c7 Ow
 obtain⟨c0,c1,c2,c3,c4,c5,c6,c7,-⟩:=HCX.out w6 jf
 clear jf
 go_upto_region 6 with (go_at_call 30;(with_reducible refine(Yh.out _ pA.out).mono ?_);rintro e w7 ⟨qE,yo,yd,rfl,QY⟩)
 have xS:=hdd (Below.trans' pA.out qE pA.out.size)
 have ac9:=hdd (XY.out.below qE aH)
 have ac8:=hdd QY
 clear c0 c1 c2 c3 c4 c5 c6 c7 QY qE
 obtain⟨c0,c1,c2,c3,c4,c5,c6,c7,-⟩:=K2.out w7 (Zz.out w7 xS.out)
 obtain⟨g1',o1',rfl,hs1⟩:=ac9.out.str nA.out.1 nA.out.2
 obtain⟨g2',o2',rfl,hs2⟩:=ac8.out.str nA.out.1 nA.out.2
 obtain⟨S,hS⟩:=bt (strOfNums X)
 rw [hS]at hs1 hs2
 have yl:=hdd hs1
 have Ul:=hdd hs2
 obtain⟨_,_,hv,-,-,-,-,q5⟩:=Zl.out.at (by have:=Ld.out;have:=Aw.out;omega)
 obtain⟨ab,aV,ha,sO,ac⟩:=q5 (by have:=Ld.out;omega)
 injection hv with hv1 _ hv3
 subst hv1 hv3 ha
 have hlt:L.length<rs.length:=by have:=Ld.out;omega
 have HAC:=hdd fun W (hb:ah W5 W)=>(by
  have h1:=(K4 ac hlt).1
  rw [H3.out hlt]at h1
  exact(hb.cell (p:=⟨ab,_,none⟩) sO).trans h1:W.cell? ⟨ab,aV+L.length*8,none⟩=some (.int .i64 3))
 have jS:=fun w'=>PE (ab:=ab) (aV:=aV) (n:=rs.length) (cap:=yc) (show (L.length:Int)=((L.length:Nat):Int) by rfl) hlt w'
 have hq2:(((qs.length:Nat):Int) == ((L.length:Nat):Int))=true:=by simp [HQ.out]
 clear hS hs1 hs2 q5 ac hlt
 go_wp2_with (go_at_call 31;(with_reducible refine(iq.out _ xS.out).mono ?_);rintro e w8 ⟨rfl,kS⟩;have hs1:=yl.out w8 kS;have hs2:=Ul.out w8 kS;have ha1:=HAC.out w8 (Below.trans' xS.out kS xS.out.size))
 go_ret
 exact⟨rfl,OJ.out _ (Below.trans' xS.out kS xS.out.size)⟩
end Go.Proofs.YtmljjfhgciaceaaDoor
