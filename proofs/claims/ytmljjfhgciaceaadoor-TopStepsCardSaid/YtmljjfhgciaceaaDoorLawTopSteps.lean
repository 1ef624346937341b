import Derived.Test.YtmljjfhgciaceaaDoorHd
import Derived.Test.YtmljjfhgciaceaaDoorTopY
import Derived.Test.YtmljjfhgciaceaaDoorSameA
import Derived.Test.YtmljjfhgciaceaaDoorSO
namespace Go.Proofs.YtmljjfhgciaceaaDoor
open Go.RowKit
set_option maxRecDepth 100000
set_option maxHeartbeats 4000000
theorem abW {v:Value} {xs:List Rw} {n:Int} {w:World} (h:Ar w v xs) (hx:∀a∈xs,a.ok) (hn:i64 n) (hsz:bL w) :
  Calls Tryd.prog 9 #[v, .int .i64 n] w fun e w'=>e = .returned (.bool true)/\ah w w':=by
 obtain⟨ao,cap,rfl⟩:=h.isSlice
 have HA:=hdd (show Calls Tryd.prog 12 #[.slice ao xs.length cap, .int .i64 50] w _ from vg (most:=50) h hx aW)
 have nN:=hdd hsz
 have HLA:=hdd (ve (xs:=xs) (most:=50))
 have HSA:=hdd (qh (xs:=xs) (most:=50))
 have HN:=hdd hn
 clear h hx hsz hn
 go_enter Tryd.func9,Tryd.ntmps9
 go_upto_region 2 with (go_at_call 12;(with_reducible refine HA.out.mono ?_);rintro e w1 ⟨hb1,oa,oc,rfl,hown⟩)
 obtain⟨A,hA⟩:=bt (jh xs 50)
 rw [hA]at hown HLA HSA ⊢
 have tX:=hdd hb1
 have FD:=hdd hown
 have lA:A.length<=50:=HLA.out
 have hw1:IntKind.i64.wrap ((A.length:Int)+1)=(A.length:Int)+1:=IntWalk.i64_in _ af
 have HP:=hdd (aas (n:=n) (m:=(A.length:Int)+1) (w:=w1) HN.out af af)
 have hpr:=cU (n:=n) (m:=(A.length:Int)+1) af
 obtain⟨k,hk⟩:∃k:Nat,picked n ((A.length:Int)+1)=(k:Int):=⟨(picked n ((A.length:Int)+1)).toNat,af⟩
 rw [hk]at HP hpr
 have hkl:k<=A.length:=af
 clear hA hown hb1 HA hk hpr
 go_upto_region 3 with (go_at_call 13;(with_reducible refine HP.out.mono ?_);rintro e w2 ⟨rfl,hb2⟩)
 have gI:=hdd (Below.trans' tX.out hb2 tX.out.size)
 have wU:=hdd (FD.out.below hb2 aH)
 have OV:=hdd hkl
 have Uq:=hdd (FO (wU.out.at (by have:=HLA.out;omega)) HSA.out (by have:=HLA.out;omega) (nN.out.below gI.out))
 clear hb2 hw1 FD HP lA hkl
 go_upto_region 4 with (go_at_call 14;(with_reducible refine Uq.out.mono ?_);rintro e w3 ⟨hb3,ra,rc,qs,b,sa,sc,g0,l0,p0,g1,l1,p1,g2,l2,p2,rfl,YO,hown,hrows,-,-,hok⟩)
 have HQ:=hdd (aL YO (aL hown (aL hrows hok)))
 obtain⟨W3,hW3⟩:=bP (w3.alloc (.cells (aG sa b.names.length sc g0 l0 p0 g1 l1 p1 g2 l2 p2 b) 35))
 have agE:ah w3 W3:=by rw [hW3];exact ag
 have sU:=hdd (Below.trans' gI.out (Below.trans' hb3 agE hb3.size) gI.out.size)
 have aex:=hdd agE
 have Vo:=hdd (wU.out.below (Below.trans' hb3 agE hb3.size) aH)
 rw [<-hW3]
 clear hW3 hb3 agE YO hown hrows hok Uq wU
 have Le:=hdd (dK.take' (Vo.out.at (by have:=HLA.out;omega)) OV.out)
 have hkl:=OV.out
 have hkz:(A.take k).length=k:=by rw [eP];omega
 have N7:=hdd (FO Le.out (fun a ha=>HSA.out a (wM ha)) (by have:=HLA.out;omega) (nN.out.below sU.out))
 have Od:=hdd (show (A.take k).length<=500 by have:=HLA.out;omega)
 clear hkz
 have aed:k<=oc:=by
  obtain⟨_,_,hv,h1,-⟩:=Vo.out.at (by have:=HLA.out;omega)
  injection hv with _ _ e3
  omega
 have hsl:∀W,(Instr.sliceAt 23 (.slice oa A.length oc) none (some (.int .i64 (k:Int))) none).run Tryd.prog W = .ok (.slice oa k oc) W:=fun W=>by
  have h0:(0:Int)<=(k:Int):=af
  have h1:(k:Int)<=(oc:Int):=af
  cases oa <;> simp [go_sem,h0,h1,sliced]
 go_upto_region 5 with (go_at_call 14;(with_reducible refine N7.out.mono ?_);rintro e w4 ⟨hb4,ta,tc,us,d,ea,ec,y0,j0,n0,y1,j1,n1,y2,j2,n2,rfl,YO,hown,hrows,-,-,hok⟩)
 have HU:=hdd (aL YO (aL hown (aL hrows hok)))
 obtain⟨W4,BM⟩:=bP (w4.alloc (.cells (aG ea d.names.length ec y0 j0 n0 y1 j1 n1 y2 j2 n2 d) 35))
 have M9:ah w4 W4:=by rw [BM];exact ag
 have adH:=hdd (Below.trans' hb4 M9 hb4.size)
 have wV:=hdd (Below.trans' sU.out adH.out sU.out.size)
 have Ym:=hdd M9
 have Fp:=hdd (FO ((Vo.out.below adH.out aH).at (by have:=HLA.out;omega)) HSA.out (by have:=HLA.out;omega) (nN.out.below wV.out))
 rw [<-BM]
 clear BM hb4 M9 YO hown hrows hok N7 hsl aed
 go_upto_region 6 with (go_at_call 14;(with_reducible refine Fp.out.mono ?_);rintro e w5 ⟨cu,sa',sI,zs,f,fa,fc,i0,m0,x0,i1,m1,x1,i2,m2,x2,rfl,YO,hown,hrows,-,-,hok⟩)
 have HZ:=hdd (aL YO (aL hown (aL hrows hok)))
 obtain⟨W5,mN⟩:=bP (w5.alloc (.cells (aG fa f.names.length fc i0 m0 x0 i1 m1 x1 i2 m2 x2 f) 35))
 have eK:ah w5 W5:=by rw [mN];exact ag
 have Yl:=hdd (Below.trans' cu eK cu.size)
 have aev:=hdd eK
 have Cc:=hdd (Below.trans' wV.out Yl.out wV.out.size)
 have HP9:=hdd (aas (n:=n) (m:=9) (w:=W5) HN.out aW aW)
 have hpr:=cU (n:=n) (m:=9) aW
 obtain⟨j,hj⟩:∃j:Nat,picked n 9=(j:Int):=⟨(picked n 9).toNat,af⟩
 rw [hj]at HP9 hpr
 have qx:IntKind.i64.wrap (501+(j:Int))=501+(j:Int):=IntWalk.i64_in _ af
 rw [<-mN]
 clear mN cu eK YO hown hrows hok Fp hj
 obtain⟨ti,tz,hti,htz,aeS,aea,-⟩:=cj Tryd.PH
 obtain⟨C,hC⟩:=bt (madeCells tz.cells ((501+(j:Int)).toNat*ti.size))
 have hmk:∀W,(Instr.makeSlice 23 (.int .i64 (501+(j:Int))) (.int .i64 (501+(j:Int)))).run Tryd.prog W = .ok (.slice (some ⟨W.heap.size,0,none⟩) (501+j) (501+j)) (W.alloc (.cells C 26)):=fun W=>by
  have:=run_make (P:=Tryd.prog) W 23 26 ti tz Tryd.underlying23 hti htz .i64 .i64 (501+(j:Int)) (501+(j:Int)) af (Int.le_refl _) (by rw [aea];omega) af
  rw [hC,show (501+(j:Int)).toNat=501+j by omega]at this
  exact this
 have HJ:=hdd (show 500<501+j by omega)
 clear hC hti htz aeS aea hpr
 go_upto_region 7 with (first
  |(go_at_call 13;(with_reducible refine HP9.out.mono ?_);rintro e w6 ⟨rfl,jf⟩)
  |(go_at_call 14;(with_reducible refine(ac7 HJ.out).mono ?_);rintro e w7 ⟨qE,rfl⟩))
 obtain⟨V,hV⟩:=bP (w7.alloc (.cells cL 35))
 have h6c:ah W5 (w6.alloc (.cells C 26)):=jf.alloc jf.size _
 have h67:=Below.trans' h6c qE h6c.size
 have h5V:ah W5 V:=by rw [hV];exact h67.alloc h67.size _
 have h4V:=Below.trans' Yl.out h5V Yl.out.size
 have h3V:=Below.trans' adH.out h4V adH.out.size
 have vr:=hdd (Below.trans' Cc.out h5V Cc.out.size)
 obtain⟨q1,q2,q3,q4⟩:=HQ.out
 obtain⟨a1,a2⟩:=abw q1 q2 q3 q4 (by have:=HLA.out;omega) (W:=V) (Below.trans' aex.out h3V aex.out.size)
 obtain⟨u1,u2,u3,u4⟩:=HU.out
 obtain⟨b1,b2⟩:=abw u1 u2 u3 u4 Od.out (W:=V) (Below.trans' Ym.out h4V Ym.out.size)
 obtain⟨z1,z2,z3,z4⟩:=HZ.out
 obtain⟨d1,d2⟩:=abw z1 z2 z3 z4 (by have:=HLA.out;omega) (W:=V) (Below.trans' aev.out h5V aev.out.size)
 have PR:qs.length=A.length:=by
  have:=congrArg List.length q1
  rwa [oJ,uj]at this
 have hkq:k<=qs.length:=af
 have hkc:k<=rc:=by
  obtain⟨_,_,hv,h1,-⟩:=a1
  injection hv with _ _ e3
  omega
 have hsl:∀W,(Instr.sliceAt 28 (.slice ra qs.length rc) none (some (.int .i64 (k:Int))) none).run Tryd.prog W = .ok (.slice ra k rc) W:=fun W=>by
  have h0:(0:Int)<=(k:Int):=af
  have h1:(k:Int)<=(rc:Int):=af
  cases ra <;> simp [go_sem,h0,h1,sliced]
 have yl:=hdd fun W (hb:ah V W)=>abH ((dK.take' a1 hkq).below hb aH) (b1.below hb aH) (by rw [List.map_take,q1,u1,acQ]) (fun p hp=>(a2 p (wM hp)).below hb aH) (fun p hp=>(b2 p hp).below hb aH) (by rw [eP];have:=HLA.out;omega)
 have Ul:=hdd fun W (hb:ah V W)=>abH (a1.below hb aH) (d1.below hb aH) (q1.trans z1.symm) (fun p hp=>(a2 p hp).below hb aH) (fun p hp=>(d2 p hp).below hb aH) (by have:=HLA.out;omega)
 rw [<-hV]
 clear hV h6c h67 h5V h4V h3V q1 q2 q3 q4 u1 u2 u3 u4 z1 z2 z3 z4 a1 a2 b1 b2 d1 d2 jf qE PR hkq hkc hmk hkl
 go_wp2_with (first
  |(go_at_call 34;(with_reducible refine(yl.out _ (aI _ _)).mono ?_);rintro x wB ⟨rfl,Tt⟩;have HBB:=hdd Tt;clear Tt)
  |(go_at_call 34;(with_reducible refine(Ul.out _ HBB.out).mono ?_);rintro x wC ⟨rfl,hbC⟩;have HBC:=hdd (Below.trans' HBB.out hbC HBB.out.size);clear hbC))
 go_ret
 exact⟨rfl,Below.trans' vr.out HBC.out vr.out.size⟩
end Go.Proofs.YtmljjfhgciaceaaDoor
