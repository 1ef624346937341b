import Derived.Test.YtmljjfhgciaceaaGreatDoorHd
import Derived.Test.YtmljjfhgciaceaaGreatDoorEG
import Derived.Test.YtmljjfhgciaceaaGreatDoorSO
import Derived.Test.YtmljjfhgciaceaaGreatDoorKT
import Derived.Deep.CutBlock
namespace Go.Proofs.YtmljjfhgciaceaaGreatDoor
open Go.RowKit
set_option maxRecDepth 100000
set_option maxHeartbeats 4000000
variable {xs:List Rw} {most B:Nat} {v0 v1 v2 v3 v4 v5:Value} {w:World}
def kJ (xs:List Rw) (most:Nat):List Ac:=(xs.take most).map pz
theorem Hu:∀a∈kJ xs most,tU a:=fun a ha=>by
 obtain⟨r,-,rfl⟩:=pn.1 ha
 exact BF r
structure jW (rb pb qb:Nat) (x:Rw) (p:sk) (a:Ac) (W:World):Prop where
 raw:W.heap[rb]?=some (.cells #[.int .i64 x.k, .int .i64 x.a, .int .i64 x.b, .int .i64 x.c] 85)
 pt:W.heap[pb]?=some (.cells #[.string p.s, .int .i64 p.t, .int .i64 p.v] 70)
 ac:W.heap[qb]?=some (.cells #[.int .i64 a.k, .string a.s, .int .i64 a.t, .int .i64 a.z, .int .i64 a.sz, .int .i64 a.v] 46)
 n1:rb≠qb
 n2:pb≠qb
section
variable {rb pb qb:Nat} {x:Rw} {p:sk} {a:Ac} {W W':World}
theorem jW.VQ (h:jW rb pb qb x p a W):W.cell? ⟨rb,0,none⟩=some (.int .i64 x.k)/\W.cell? ⟨rb,1,none⟩=some (.int .i64 x.a)/\W.cell? ⟨rb,2,none⟩=some (.int .i64 x.b)/\W.cell? ⟨rb,3,none⟩=some (.int .i64 x.c):=by
 have h1:=h.raw
 simp [World.cell?,h1]
theorem jW.ptC (h:jW rb pb qb x p a W):W.cell? ⟨pb,0,none⟩=some (.string p.s)/\W.cell? ⟨pb,1,none⟩=some (.int .i64 p.t)/\W.cell? ⟨pb,2,none⟩=some (.int .i64 p.v):=by
 have h1:=h.pt
 simp [World.cell?,h1]
theorem jW.OJ (h:jW rb pb qb x p a W):W.cell? ⟨qb,0,none⟩=some (.int .i64 a.k)/\W.cell? ⟨qb,1,none⟩=some (.string a.s)/\W.cell? ⟨qb,2,none⟩=some (.int .i64 a.t)/\W.cell? ⟨qb,3,none⟩=some (.int .i64 a.z)/\W.cell? ⟨qb,4,none⟩=some (.int .i64 a.sz)/\W.cell? ⟨qb,5,none⟩=some (.int .i64 a.v)/\∀o,W.frozen? ⟨qb,o,none⟩=false:=by
 have h1:=h.ac
 simp [World.cell?,World.frozen?,h1]
theorem jW.below (h:jW rb pb qb x p a W) (hb:ah W W'):jW rb pb qb x p a W':=
 ⟨(hb.block _ (eP.1 h.raw).1).trans h.raw,(hb.block _ (eP.1 h.pt).1).trans h.pt,(hb.block _ (eP.1 h.ac).1).trans h.ac,h.n1,h.n2⟩
theorem ig {a0 a1 a2 a3 a4 a5:Value} {e:TypeId} {fr:Nat×Nat} (h:w.heap[B]?=some (.cells #[a0,a1,a2,a3,a4,a5] e fr)) :
  ((((((w.setCell ⟨B,0,none⟩ v0).setCell ⟨B,1,none⟩ v1).setCell ⟨B,2,none⟩ v2).setCell ⟨B,3,none⟩ v3).setCell ⟨B,4,none⟩ v4).setCell ⟨B,5,none⟩ v5).heap[B]?=some (.cells #[v0,v1,v2,v3,v4,v5] e fr):=yM h
theorem bG {b:Nat} (h:b≠B):((((((w.setCell ⟨B,0,none⟩ v0).setCell ⟨B,1,none⟩ v1).setCell ⟨B,2,none⟩ v2).setCell ⟨B,3,none⟩ v3).setCell ⟨B,4,none⟩ v4).setCell ⟨B,5,none⟩ v5).heap[b]?=w.heap[b]?:=by
 rw [heap_setCell_other _ ⟨B,_,none⟩ b _ h,heap_setCell_other _ ⟨B,_,none⟩ b _ h,heap_setCell_other _ ⟨B,_,none⟩ b _ h,heap_setCell_other _ ⟨B,_,none⟩ b _ h,heap_setCell_other _ ⟨B,_,none⟩ b _ h,heap_setCell_other _ ⟨B,_,none⟩ b _ h]
theorem eB {xb:Nat} {w0:World} (h:Below B w w0) (hx:B<=xb) (v0 v1 v2 v3 v4 v5:Value):Below B w ((((((w0.setCell ⟨xb,0,none⟩ v0).setCell ⟨xb,1,none⟩ v1).setCell ⟨xb,2,none⟩ v2).setCell ⟨xb,3,none⟩ v3).setCell ⟨xb,4,none⟩ v4).setCell ⟨xb,5,none⟩ v5):=
 (((((h.setCell hx _).setCell hx _).setCell hx _).setCell hx _).setCell hx _).setCell hx _
end
theorem NN {v:Value} (h:I7 w v xs) (hx:∀a∈xs,a.ok) (hm:most<=100) :
  Calls Tryz.prog 12 #[v, .int .i64 most] w fun e w'=>ah w w'/\∃ao c,e = .returned (.slice ao (kJ xs most).length c)/\cy w.heap.size w' (.slice ao (kJ xs most).length c) (kJ xs most):=by
 obtain⟨ao,cap,rfl,a1,a2,a3,a4,a5⟩:=h
 go_enter Tryz.func12,Tryz.ntmps12
 go_wp2_with fail
 go_loopg [5,6] (min xs.length most) (fun g ov i wr=>∃k:Nat,k<=min xs.length most/\g=min xs.length most-k/\i = .int .i64 k/\cy w.heap.size wr ov (kJ xs k)/\ah w wr)
 case atStart=>exact⟨0,jf _,rfl,rfl,cy.nil _ _,aL _ _⟩
 case round=>
  obtain⟨k,hk,rfl,rfl,ho,hb⟩:=hrel
  obtain⟨so,sc,rfl⟩:=ho.isSlice
  have hlk:(kJ xs k).length=k:=by unfold kJ;rw [po,fx];omega
  have hsz:=hb.size
  by_cases hlt:k<xs.length/\k<most
  ·obtain⟨GF,jK⟩:=hlt
   have GD:(k:Int)<(xs.length:Int):=af
   have ag6:(k:Int)<(most:Int):=af
   obtain⟨ab,bp,rfl,xD,ac⟩:=a5 af
   obtain⟨c0,c1,c2,c3⟩:=Lp hb xD ac GF
   have PN:=hx xs[k] (gj GF)
   have htk:kJ xs (k+1)=kJ xs k++[pz xs[k]]:=by unfold kJ;rw [mf GF,wJ];rfl
   obtain⟨x,hxk⟩:=bC (xs[k])
   rw [hxk]at c0 c1 c2 c3 PN htk
   obtain⟨p,hp⟩:=bC (ko x)
   have HPT:=hdd fun W=>Jz (w:=W) PN hp
   have HP:=hdd hp
   have OO:=hdd PN
   have BG:=hdd htk
   have lA:=fun w'=>PI (ab:=ab) (bp:=bp) (n:=xs.length) (cap:=cap) (show (k:Int)=((k:Nat):Int) by rfl) GF w'
   have HK:=hdd (cx (n:=x.c) (m:=16) aY)
   obtain⟨K,hK⟩:=bC (picked x.c 16)
   have HPK:=hdd fun W=>jF x.c 16 W PN.2.2.2.1 PN.2.2.2.2 aY aY
   rw [hK]at HPK HK
   have BI:=hdd hK
   have HO:=hdd ho
   have Og:=hdd hlk
   obtain⟨L,hL⟩:=bC (kJ xs k)
   rw [hL]at HO BG Og ⊢
   clear PN hxk htk hp hK ac a5 ho hlk hL
   go_upto_region 6 with (fail)
   obtain⟨W1,hW1⟩:=bR (wr.alloc (.cells #[.int .i64 x.k, .int .i64 x.a, .int .i64 x.b, .int .i64 x.c] 85))
   have hb1:ah wr W1:=by rw [hW1];exact ag
   have k1:W1.heap[wr.heap.size]?=some (.cells #[.int .i64 x.k, .int .i64 x.a, .int .i64 x.b, .int .i64 x.c] 85):=by rw [hW1];exact aq _ _ rfl
   have hz1:W1.heap.size=wr.heap.size+1:=by rw [hW1];simp
   obtain⟨x0,x1,x2,x3⟩:W1.cell? ⟨wr.heap.size,0,none⟩=some (.int .i64 x.k)/\W1.cell? ⟨wr.heap.size,1,none⟩=some (.int .i64 x.a)/\W1.cell? ⟨wr.heap.size,2,none⟩=some (.int .i64 x.b)/\W1.cell? ⟨wr.heap.size,3,none⟩=some (.int .i64 x.c):=by simp [World.cell?,k1]
   have OM:=hdd hz1
   rw [<-hW1]
   clear hW1 hz1 c0 c1 c2 c3 lA
   go_upto_region 7 with (go_at_call 30;(with_reducible refine(HPT.out _).mono ?_);rintro e w2 ⟨rfl,hb2⟩)
   obtain⟨W2,hW2⟩:=bR (w2.alloc (.cells #[.string p.s, .int .i64 p.t, .int .i64 p.v] 70))
   have J5:ah w2 W2:=by rw [hW2];exact ag
   have k2:W2.heap[w2.heap.size]?=some (.cells #[.string p.s, .int .i64 p.t, .int .i64 p.v] 70):=by rw [hW2];exact aq _ _ rfl
   have hz2:W2.heap.size=w2.heap.size+1:=by rw [hW2];simp
   have hs2:=hb2.size
   obtain⟨y0,y1,y2⟩:W2.cell? ⟨w2.heap.size,0,none⟩=some (.string p.s)/\W2.cell? ⟨w2.heap.size,1,none⟩=some (.int .i64 p.t)/\W2.cell? ⟨w2.heap.size,2,none⟩=some (.int .i64 p.v):=by simp [World.cell?,k2]
   have OL:=hdd hz2
   rw [<-hW2]
   clear hW2 hz2
   go_upto_region 8 with (fail)
   obtain⟨W3,hW3⟩:=bR (W2.alloc (.cells #[.int .i64 1, .string p.s, .int .i64 p.t, .int .i64 0, .int .i64 0, .int .i64 p.v] 46))
   have hb3:ah W2 W3:=by rw [hW3];exact ag
   have k3:W3.heap[W2.heap.size]?=some (.cells #[.int .i64 1, .string p.s, .int .i64 p.t, .int .i64 0, .int .i64 0, .int .i64 p.v] 46):=by rw [hW3];exact aq _ _ rfl
   have hz3:W3.heap.size=W2.heap.size+1:=by rw [hW3];simp
   have hz1:=OM.out
   have hz2:=OL.out
   have GM:ah wr W2:=Below.trans' hb1 (Below.trans' hb2 J5 hs2) hb1.size
   have hbr:ah wr W3:=Below.trans' GM hb3 GM.size
   have hR:jW wr.heap.size w2.heap.size W2.heap.size x p ⟨1,p.s,p.t,0,0,p.v⟩ W3:=
    ⟨(hb3.block _ af).trans ((J5.block _ af).trans ((hb2.block _ af).trans k1)),(hb3.block _ af).trans k2,k3,af,af⟩
   have tY:=hdd fun W (dh:ah W3 W)=>hR.below dh
   have xU:=hdd fun W (dh:ah W3 W)=>(Below.trans' hb (Below.trans' hbr dh hbr.size) hsz:ah w W)
   have HOW:=hdd fun W (dh:ah W3 W)=>HO.out.below (Below.trans' hbr dh hbr.size) aI
   have HQ:=hdd (show w.heap.size<=wr.heap.size/\wr.heap.size<W2.heap.size/\W2.heap.size<W3.heap.size by omega)
   obtain⟨VK,ZO,ZN,ZM⟩:=hR.VQ
   obtain⟨Jd,YF,YE⟩:=hR.ptC
   obtain⟨z0,z1,z2,z3,z4,z5,zf⟩:=hR.OJ
   rw [<-hW3]
   obtain⟨rb,CO⟩:=bC (wr.heap.size)
   obtain⟨pb,hpb⟩:=bC (w2.heap.size)
   obtain⟨qb,Oz⟩:=bC (W2.heap.size)
   rw [CO,hpb,Oz]at tY
   rw [CO]at VK ZO ZN ZM ⊢
   rw [hpb]at Jd YF YE ⊢
   rw [Oz]at z0 z1 z2 z3 z4 z5 zf ⊢
   rw [CO,Oz]at HQ
   have HZR:=CO
   clear hW3 hb1 hb2 J5 k1 k2 k3 hz1 hz2 hz3 hs2 hb3 GM hbr hR x0 x1 x2 x3 y0 y1 y2 CO hpb Oz hb hsz
   have Ag:=hdd HZR
   clear HZR
   go_upto_block 2 with (go_at_call 27;(with_reducible refine(HPK.out _).mono ?_);rintro e w4 ⟨rfl,rfl⟩)
   go_cut []from 38 to 103 (fun wx=>Hid (∃a,jW rb pb qb x p a wx/\ah w wx/\cy w.heap.size wx (.slice so L.length sc) L/\pz x=a))
   case first=>
    have SK:=cx (n:=x.a) (m:=6000) aY
    obtain⟨A6,hA6⟩:=bC (picked x.a 6000)
    have SQ:=fun W=>jF x.a 6000 W OO.out.2.1.1 OO.out.2.1.2 aY aY
    rw [hA6]at SQ SK
    have H7:=hdd SQ
    have KO:=hdd hA6
    have acj:=hdd SK
    clear SK hA6 SQ
    have SI:=cx (n:=x.b) (m:=9000) aY
    obtain⟨B9,TX⟩:=bC (picked x.b 9000)
    have SN:=fun W=>jF x.b 9000 W OO.out.2.2.1.1 OO.out.2.2.1.2 aY aY
    rw [TX]at SN SI
    have Oa:=hdd SN
    have KM:=hdd TX
    have aci:=hdd SI
    clear SI TX SN
    have SJ:=cx (n:=x.b) (m:=3) aY
    obtain⟨B3,XM⟩:=bC (picked x.b 3)
    have SP:=fun W=>jF x.b 3 W OO.out.2.2.1.1 OO.out.2.2.1.2 aY aY
    rw [XM]at SP SJ
    have H6:=hdd SP
    have KN:=hdd XM
    have Ux:=hdd SJ
    clear SJ XM SP
    have SL:=cx (n:=x.a) (m:=4) aY
    obtain⟨A4,Vq⟩:=bC (picked x.a 4)
    have SR:=fun W=>jF x.a 4 W OO.out.2.1.1 OO.out.2.1.2 aY aY
    rw [Vq]at SR SL
    have Ye:=hdd SR
    have Yt:=hdd Vq
    have ahA:=hdd SL
    clear SL Vq SR
    have SM:=cx (n:=x.a) (m:=3) aY
    obtain⟨A3,Vr⟩:=bC (picked x.a 3)
    have SS:=fun W=>jF x.a 3 W OO.out.2.1.1 OO.out.2.1.2 aY aY
    rw [Vr]at SS SM
    have Yf:=hdd SS
    have Yu:=hdd Vr
    have ahB:=hdd SM
    clear SM Vr SS
    have QO:ah W3 W3.drew:=(aL _ _).drew
    have HS:=hdd fun W (dh:ah W3 W)=>(by
     obtain⟨x0,x1,x2,x3⟩:=(tY.out W dh).VQ
     obtain⟨y0,y1,y2⟩:=(tY.out W dh).ptC
     exact⟨x0,x1,x2,x3,y0,y1,y2⟩:W.cell? ⟨rb,0,none⟩=some (.int .i64 x.k)/\W.cell? ⟨rb,1,none⟩=some (.int .i64 x.a)/\W.cell? ⟨rb,2,none⟩=some (.int .i64 x.b)/\W.cell? ⟨rb,3,none⟩=some (.int .i64 x.c)/\W.cell? ⟨pb,0,none⟩=some (.string p.s)/\W.cell? ⟨pb,1,none⟩=some (.int .i64 p.t)/\W.cell? ⟨pb,2,none⟩=some (.int .i64 p.v))
    have hwr:IntKind.i64.wrap (A6+B9)=A6+B9:=IntWalk.i64_in _ (by have:=acj.out;have:=aci.out;omega)
    have Rs:=HK.out
    by_cases ie:K=0
    ·subst ie
     obtain⟨j,hj⟩:∃j:Nat,B3=j:=⟨B3.toNat,by have:=Ux.out;omega⟩
     have hj3:j<3:=by have:=Ux.out;omega
     have HJ:=hdd hj
     rw [hj]at H6
     clear hj Rs
     have hx3:=fun(g cap:Nat) w'=>(by have h1:=lO (ab:=g) (bp:=0) (n:=3) (cap:=cap) (show (j:Int)=((j:Nat):Int) by rfl) hj3 w';rw [iX]at h1;exact h1:(Instr.indexAt 52 (.slice (some ⟨g,0,none⟩) 3 cap) (.int .i64 (j:Int))).run Tryz.prog w' = .ok (.pointer (some ⟨g,j,none⟩)) w')
     have hc3:∀(g:Nat) (W:World),g=W.heap.size->(W.alloc (.cells #[.int .i64 1, .int .i64 60, .int .i64 3600] 3)).cell? ⟨g,j,none⟩=some (.int .i64 (aS j)):=fun g W hg=>by
      have k:=aq W (.cells #[.int .i64 1, .int .i64 60, .int .i64 3600] 3) hg
      obtain rfl|rfl|rfl:j=0\/j=1\/j=2:=af
      all_goals simp [World.cell?,k,aS]
     have O5:=hdd hc3
     clear hc3 VK ZO ZN ZM Jd YF YE
     go_upto_region 10 with (fail)
     refine eW (lL.of [(0,1),(1,0),(2,1),(3,0),(5,1),(6,0),(8,1),(9,0),(13,1),(14,0)] (.fork 4 12 (.fork 7 12 (.fork 10 12 (lL.of [(11,1)] (.fork 12 15 (lL.of [(15,2),(16,1),(17,2),(18,1),(19,3)] .nil) (lL.of [(12,2),(16,1),(17,2),(18,1),(19,3)] .nil))) (lL.of [(10,2),(11,1),(15,2),(16,1),(17,2),(18,1),(19,3)] .nil)) (lL.of [(7,2),(10,2),(11,1),(15,2),(16,1),(17,2),(18,1),(19,3)] .nil)) (lL.of [(4,2),(7,2),(10,2),(11,1),(15,2),(16,1),(17,2),(18,1),(19,3)] .nil))) 19 (fun W=>W.cell? ⟨rb,0,none⟩=some (.int .i64 x.k)/\W.cell? ⟨rb,1,none⟩=some (.int .i64 x.a)/\W.cell? ⟨rb,2,none⟩=some (.int .i64 x.b)/\W.cell? ⟨rb,3,none⟩=some (.int .i64 x.c)/\W.cell? ⟨pb,0,none⟩=some (.string p.s)/\W.cell? ⟨pb,1,none⟩=some (.int .i64 p.t)/\W.cell? ⟨pb,2,none⟩=some (.int .i64 p.v)) cv cv (HS.out _ QO) ?_
     simp only [lL.of]
     (repeat first|refine bJ ?_|refine bI ?_)
     clear z0 z1 z2 z3 z4 z5 zf
     refine gP rfl rfl rfl rfl (fun K hK=>?_) (fun K hK=>?_)
     ·skip
      go_simp
      (with_reducible refine(H7.out _).mono ?_)
      rintro e _ ⟨rfl,rfl⟩
      go_simp
      refine hK _ _ (HS.out _ QO) ?_
      clear hK K
      (repeat first|refine bJ ?_|refine bI ?_)
      refine gP rfl rfl rfl rfl (fun K hK=>?_) (fun K hK=>?_)
      ·skip
       go_simp
       (with_reducible refine(H7.out _).mono ?_)
       rintro e _ ⟨rfl,rfl⟩
       go_simp
       refine hK _ _ (HS.out _ QO) ?_
       clear hK K
       (repeat first|refine bJ ?_|refine bI ?_)
       refine gP rfl rfl rfl rfl (fun K hK=>?_) (fun K hK=>?_)
       ·skip
        go_simp
        (with_reducible refine(Oa.out _).mono ?_)
        rintro e _ ⟨rfl,rfl⟩
        go_simp
        refine hK _ _ (HS.out _ QO) ?_
        clear hK K
        (repeat first|refine bJ ?_|refine bI ?_)
        refine gP rfl rfl rfl rfl (fun K hK=>?_) (fun K hK=>?_)
        ·skip
         go_simp
         obtain⟨W9,jB⟩:=bR ((W3.alloc (.cells #[.int .i64 1, .int .i64 60, .int .i64 3600] 3)).drew)
         have c3:W9.cell? ⟨W3.heap.size,j,none⟩=some (.int .i64 (aS j)):=by rw [jB];exact O5.out _ W3 rfl
         have qi:ah W3 W9:=by rw [jB];exact((aL _ _).alloc aI _).drew
         rw [<-jB]
         refine hK _ _ (HS.out _ qi) ?_
         clear hK K jB
         (repeat first|refine bJ ?_|refine bI ?_)
         refine br rfl rfl (fun K hK=>?_)
         go_simp
         (with_reducible refine(H6.out _).mono ?_)
         rintro e _ ⟨rfl,rfl⟩
         go_simp
         refine hK _ _ (HS.out _ qi) ?_
         clear hK K
         (repeat first|refine bJ ?_|refine bI ?_)
         refine br rfl rfl (fun K hK=>?_)
         go_simp
         refine hK _ _ (HS.out _ qi) ?_
         clear hK K
         (repeat first|refine bJ ?_|refine bI ?_)
         obtain⟨z0,z1,z2,z3,z4,z5,zf⟩:=(tY.out _ qi).OJ
         have pA:=hdd qi
         clear qi c3
         refine cZ rfl rfl (fun K hK=>?_)
         go_simp
         refine hK _ _ ?_
         clear hK K
         refine dU ?_
         obtain⟨V,hV⟩:=bR ((((((W9.setCell ⟨qb,0,none⟩ (.int .i64 2)).setCell ⟨qb,1,none⟩ (.string p.s)).setCell ⟨qb,2,none⟩ (.int .i64 A6)).setCell ⟨qb,3,none⟩ (.int .i64 (A6+B9))).setCell ⟨qb,4,none⟩ (.int .i64 (aS j))).setCell ⟨qb,5,none⟩ (.int .i64 0))
         have wQ:=hdd (show jW rb pb qb x p ⟨2,p.s,A6,A6+B9,aS j,0⟩ V by
          have h1:=tY.out _ pA.out
          rw [hV]
          exact⟨(bG h1.n1).trans h1.raw,(bG h1.n2).trans h1.pt,ig h1.ac,h1.n1,h1.n2⟩)
         have vr:=hdd (show ah w V by rw [hV];exact eB (xU.out _ pA.out) (by have:=HQ.out;omega) _ _ _ _ _ _)
         have vG:=hdd (show cy w.heap.size V (.slice so L.length sc) L by rw [hV];exact(HOW.out _ pA.out).block fun g hg=>bG (by have h1:=(HO.out.lt g hg).2;have:=HQ.out;have:=Ag.out;omega))
         clear z0 z1 z2 z3 z4 z5 zf
         go_wp2_with fail
         go_meet
         rw [<-hV]
         exact hdd ⟨⟨2,p.s,A6,A6+B9,aS j,0⟩,wQ.out,vr.out,vG.out,by unfold pz;rw [BI.out,ar rfl,HP.out,KO.out,KM.out,KN.out,HJ.out];rfl⟩
        ·skip
         go_simp
         (with_reducible refine(H6.out _).mono ?_)
         rintro e _ ⟨rfl,rfl⟩
         go_simp
         refine hK _ _ (HS.out _ QO) ?_
         clear hK K
         (repeat first|refine bJ ?_|refine bI ?_)
         refine br rfl rfl (fun K hK=>?_)
         go_simp
         obtain⟨W9,jB⟩:=bR ((W3.alloc (.cells #[.int .i64 1, .int .i64 60, .int .i64 3600] 3)).drew)
         have c3:W9.cell? ⟨W3.heap.size,j,none⟩=some (.int .i64 (aS j)):=by rw [jB];exact O5.out _ W3 rfl
         have qi:ah W3 W9:=by rw [jB];exact((aL _ _).alloc aI _).drew
         rw [<-jB]
         refine hK _ _ (HS.out _ qi) ?_
         clear hK K jB
         (repeat first|refine bJ ?_|refine bI ?_)
         refine br rfl rfl (fun K hK=>?_)
         go_simp
         refine hK _ _ (HS.out _ qi) ?_
         clear hK K
         (repeat first|refine bJ ?_|refine bI ?_)
         obtain⟨z0,z1,z2,z3,z4,z5,zf⟩:=(tY.out _ qi).OJ
         have pA:=hdd qi
         clear qi c3
         refine cZ rfl rfl (fun K hK=>?_)
         go_simp
         refine hK _ _ ?_
         clear hK K
         refine dU ?_
         obtain⟨V,hV⟩:=bR ((((((W9.setCell ⟨qb,0,none⟩ (.int .i64 2)).setCell ⟨qb,1,none⟩ (.string p.s)).setCell ⟨qb,2,none⟩ (.int .i64 A6)).setCell ⟨qb,3,none⟩ (.int .i64 (A6+B9))).setCell ⟨qb,4,none⟩ (.int .i64 (aS j))).setCell ⟨qb,5,none⟩ (.int .i64 0))
         have wQ:=hdd (show jW rb pb qb x p ⟨2,p.s,A6,A6+B9,aS j,0⟩ V by
          have h1:=tY.out _ pA.out
          rw [hV]
          exact⟨(bG h1.n1).trans h1.raw,(bG h1.n2).trans h1.pt,ig h1.ac,h1.n1,h1.n2⟩)
         have vr:=hdd (show ah w V by rw [hV];exact eB (xU.out _ pA.out) (by have:=HQ.out;omega) _ _ _ _ _ _)
         have vG:=hdd (show cy w.heap.size V (.slice so L.length sc) L by rw [hV];exact(HOW.out _ pA.out).block fun g hg=>bG (by have h1:=(HO.out.lt g hg).2;have:=HQ.out;have:=Ag.out;omega))
         clear z0 z1 z2 z3 z4 z5 zf
         go_wp2_with fail
         go_meet
         rw [<-hV]
         exact hdd ⟨⟨2,p.s,A6,A6+B9,aS j,0⟩,wQ.out,vr.out,vG.out,by unfold pz;rw [BI.out,ar rfl,HP.out,KO.out,KM.out,KN.out,HJ.out];rfl⟩
       ·skip
        go_simp
        obtain⟨W9,jB⟩:=bR ((W3.alloc (.cells #[.int .i64 1, .int .i64 60, .int .i64 3600] 3)).drew)
        have c3:W9.cell? ⟨W3.heap.size,j,none⟩=some (.int .i64 (aS j)):=by rw [jB];exact O5.out _ W3 rfl
        have qi:ah W3 W9:=by rw [jB];exact((aL _ _).alloc aI _).drew
        rw [<-jB]
        refine hK _ _ (HS.out _ qi) ?_
        clear hK K jB
        (repeat first|refine bJ ?_|refine bI ?_)
        refine br rfl rfl (fun K hK=>?_)
        go_simp
        (with_reducible refine(Oa.out _).mono ?_)
        rintro e _ ⟨rfl,rfl⟩
        go_simp
        refine hK _ _ (HS.out _ qi) ?_
        clear hK K
        (repeat first|refine bJ ?_|refine bI ?_)
        refine br rfl rfl (fun K hK=>?_)
        go_simp
        (with_reducible refine(H6.out _).mono ?_)
        rintro e _ ⟨rfl,rfl⟩
        go_simp
        refine hK _ _ (HS.out _ qi) ?_
        clear hK K
        (repeat first|refine bJ ?_|refine bI ?_)
        refine br rfl rfl (fun K hK=>?_)
        go_simp
        refine hK _ _ (HS.out _ qi) ?_
        clear hK K
        (repeat first|refine bJ ?_|refine bI ?_)
        obtain⟨z0,z1,z2,z3,z4,z5,zf⟩:=(tY.out _ qi).OJ
        have pA:=hdd qi
        clear qi c3
        refine cZ rfl rfl (fun K hK=>?_)
        go_simp
        refine hK _ _ ?_
        clear hK K
        refine dU ?_
        obtain⟨V,hV⟩:=bR ((((((W9.setCell ⟨qb,0,none⟩ (.int .i64 2)).setCell ⟨qb,1,none⟩ (.string p.s)).setCell ⟨qb,2,none⟩ (.int .i64 A6)).setCell ⟨qb,3,none⟩ (.int .i64 (A6+B9))).setCell ⟨qb,4,none⟩ (.int .i64 (aS j))).setCell ⟨qb,5,none⟩ (.int .i64 0))
        have wQ:=hdd (show jW rb pb qb x p ⟨2,p.s,A6,A6+B9,aS j,0⟩ V by
         have h1:=tY.out _ pA.out
         rw [hV]
         exact⟨(bG h1.n1).trans h1.raw,(bG h1.n2).trans h1.pt,ig h1.ac,h1.n1,h1.n2⟩)
        have vr:=hdd (show ah w V by rw [hV];exact eB (xU.out _ pA.out) (by have:=HQ.out;omega) _ _ _ _ _ _)
        have vG:=hdd (show cy w.heap.size V (.slice so L.length sc) L by rw [hV];exact(HOW.out _ pA.out).block fun g hg=>bG (by have h1:=(HO.out.lt g hg).2;have:=HQ.out;have:=Ag.out;omega))
        clear z0 z1 z2 z3 z4 z5 zf
        go_wp2_with fail
        go_meet
        rw [<-hV]
        exact hdd ⟨⟨2,p.s,A6,A6+B9,aS j,0⟩,wQ.out,vr.out,vG.out,by unfold pz;rw [BI.out,ar rfl,HP.out,KO.out,KM.out,KN.out,HJ.out];rfl⟩
      ·skip
       go_simp
       obtain⟨W9,jB⟩:=bR ((W3.alloc (.cells #[.int .i64 1, .int .i64 60, .int .i64 3600] 3)).drew)
       have c3:W9.cell? ⟨W3.heap.size,j,none⟩=some (.int .i64 (aS j)):=by rw [jB];exact O5.out _ W3 rfl
       have qi:ah W3 W9:=by rw [jB];exact((aL _ _).alloc aI _).drew
       rw [<-jB]
       refine hK _ _ (HS.out _ qi) ?_
       clear hK K jB
       (repeat first|refine bJ ?_|refine bI ?_)
       refine br rfl rfl (fun K hK=>?_)
       go_simp
       (with_reducible refine(H7.out _).mono ?_)
       rintro e _ ⟨rfl,rfl⟩
       go_simp
       refine hK _ _ (HS.out _ qi) ?_
       clear hK K
       (repeat first|refine bJ ?_|refine bI ?_)
       refine br rfl rfl (fun K hK=>?_)
       go_simp
       (with_reducible refine(Oa.out _).mono ?_)
       rintro e _ ⟨rfl,rfl⟩
       go_simp
       refine hK _ _ (HS.out _ qi) ?_
       clear hK K
       (repeat first|refine bJ ?_|refine bI ?_)
       refine br rfl rfl (fun K hK=>?_)
       go_simp
       (with_reducible refine(H6.out _).mono ?_)
       rintro e _ ⟨rfl,rfl⟩
       go_simp
       refine hK _ _ (HS.out _ qi) ?_
       clear hK K
       (repeat first|refine bJ ?_|refine bI ?_)
       refine br rfl rfl (fun K hK=>?_)
       go_simp
       refine hK _ _ (HS.out _ qi) ?_
       clear hK K
       (repeat first|refine bJ ?_|refine bI ?_)
       obtain⟨z0,z1,z2,z3,z4,z5,zf⟩:=(tY.out _ qi).OJ
       have pA:=hdd qi
       clear qi c3
       refine cZ rfl rfl (fun K hK=>?_)
       go_simp
       refine hK _ _ ?_
       clear hK K
       refine dU ?_
       obtain⟨V,hV⟩:=bR ((((((W9.setCell ⟨qb,0,none⟩ (.int .i64 2)).setCell ⟨qb,1,none⟩ (.string p.s)).setCell ⟨qb,2,none⟩ (.int .i64 A6)).setCell ⟨qb,3,none⟩ (.int .i64 (A6+B9))).setCell ⟨qb,4,none⟩ (.int .i64 (aS j))).setCell ⟨qb,5,none⟩ (.int .i64 0))
       have wQ:=hdd (show jW rb pb qb x p ⟨2,p.s,A6,A6+B9,aS j,0⟩ V by
        have h1:=tY.out _ pA.out
        rw [hV]
        exact⟨(bG h1.n1).trans h1.raw,(bG h1.n2).trans h1.pt,ig h1.ac,h1.n1,h1.n2⟩)
       have vr:=hdd (show ah w V by rw [hV];exact eB (xU.out _ pA.out) (by have:=HQ.out;omega) _ _ _ _ _ _)
       have vG:=hdd (show cy w.heap.size V (.slice so L.length sc) L by rw [hV];exact(HOW.out _ pA.out).block fun g hg=>bG (by have h1:=(HO.out.lt g hg).2;have:=HQ.out;have:=Ag.out;omega))
       clear z0 z1 z2 z3 z4 z5 zf
       go_wp2_with fail
       go_meet
       rw [<-hV]
       exact hdd ⟨⟨2,p.s,A6,A6+B9,aS j,0⟩,wQ.out,vr.out,vG.out,by unfold pz;rw [BI.out,ar rfl,HP.out,KO.out,KM.out,KN.out,HJ.out];rfl⟩
     ·skip
      go_simp
      obtain⟨W9,jB⟩:=bR ((W3.alloc (.cells #[.int .i64 1, .int .i64 60, .int .i64 3600] 3)).drew)
      have c3:W9.cell? ⟨W3.heap.size,j,none⟩=some (.int .i64 (aS j)):=by rw [jB];exact O5.out _ W3 rfl
      have qi:ah W3 W9:=by rw [jB];exact((aL _ _).alloc aI _).drew
      rw [<-jB]
      refine hK _ _ (HS.out _ qi) ?_
      clear hK K jB
      (repeat first|refine bJ ?_|refine bI ?_)
      refine br rfl rfl (fun K hK=>?_)
      go_simp
      (with_reducible refine(H7.out _).mono ?_)
      rintro e _ ⟨rfl,rfl⟩
      go_simp
      refine hK _ _ (HS.out _ qi) ?_
      clear hK K
      (repeat first|refine bJ ?_|refine bI ?_)
      refine br rfl rfl (fun K hK=>?_)
      go_simp
      (with_reducible refine(H7.out _).mono ?_)
      rintro e _ ⟨rfl,rfl⟩
      go_simp
      refine hK _ _ (HS.out _ qi) ?_
      clear hK K
      (repeat first|refine bJ ?_|refine bI ?_)
      refine br rfl rfl (fun K hK=>?_)
      go_simp
      (with_reducible refine(Oa.out _).mono ?_)
      rintro e _ ⟨rfl,rfl⟩
      go_simp
      refine hK _ _ (HS.out _ qi) ?_
      clear hK K
      (repeat first|refine bJ ?_|refine bI ?_)
      refine br rfl rfl (fun K hK=>?_)
      go_simp
      (with_reducible refine(H6.out _).mono ?_)
      rintro e _ ⟨rfl,rfl⟩
      go_simp
      refine hK _ _ (HS.out _ qi) ?_
      clear hK K
      (repeat first|refine bJ ?_|refine bI ?_)
      refine br rfl rfl (fun K hK=>?_)
      go_simp
      refine hK _ _ (HS.out _ qi) ?_
      clear hK K
      (repeat first|refine bJ ?_|refine bI ?_)
      obtain⟨z0,z1,z2,z3,z4,z5,zf⟩:=(tY.out _ qi).OJ
      have pA:=hdd qi
      clear qi c3
      refine cZ rfl rfl (fun K hK=>?_)
      go_simp
      refine hK _ _ ?_
      clear hK K
      refine dU ?_
      obtain⟨V,hV⟩:=bR ((((((W9.setCell ⟨qb,0,none⟩ (.int .i64 2)).setCell ⟨qb,1,none⟩ (.string p.s)).setCell ⟨qb,2,none⟩ (.int .i64 A6)).setCell ⟨qb,3,none⟩ (.int .i64 (A6+B9))).setCell ⟨qb,4,none⟩ (.int .i64 (aS j))).setCell ⟨qb,5,none⟩ (.int .i64 0))
      have wQ:=hdd (show jW rb pb qb x p ⟨2,p.s,A6,A6+B9,aS j,0⟩ V by
       have h1:=tY.out _ pA.out
       rw [hV]
       exact⟨(bG h1.n1).trans h1.raw,(bG h1.n2).trans h1.pt,ig h1.ac,h1.n1,h1.n2⟩)
      have vr:=hdd (show ah w V by rw [hV];exact eB (xU.out _ pA.out) (by have:=HQ.out;omega) _ _ _ _ _ _)
      have vG:=hdd (show cy w.heap.size V (.slice so L.length sc) L by rw [hV];exact(HOW.out _ pA.out).block fun g hg=>bG (by have h1:=(HO.out.lt g hg).2;have:=HQ.out;have:=Ag.out;omega))
      clear z0 z1 z2 z3 z4 z5 zf
      go_wp2_with fail
      go_meet
      rw [<-hV]
      exact hdd ⟨⟨2,p.s,A6,A6+B9,aS j,0⟩,wQ.out,vr.out,vG.out,by unfold pz;rw [BI.out,ar rfl,HP.out,KO.out,KM.out,KN.out,HJ.out];rfl⟩
    by_cases zt:K<3
    ·skip
     have d0:(K == 0)=false:=by simpa using ie
     have d12:decide (K<3)=true:=by simpa using zt
     have HD:=hdd (aO ie zt)
     clear ie zt Rs VK ZO ZN ZM Jd YF YE
     go_upto_region 12 with (fail)
     refine eG [(0,1),(1,0),(2,1),(3,0),(5,1),(6,0),(8,1),(9,0),(4,2),(7,2),(10,2),(11,1),(12,1),(13,3)] 13 (fun W=>W.cell? ⟨rb,0,none⟩=some (.int .i64 x.k)/\W.cell? ⟨rb,1,none⟩=some (.int .i64 x.a)/\W.cell? ⟨rb,2,none⟩=some (.int .i64 x.b)/\W.cell? ⟨rb,3,none⟩=some (.int .i64 x.c)/\W.cell? ⟨pb,0,none⟩=some (.string p.s)/\W.cell? ⟨pb,1,none⟩=some (.int .i64 p.t)/\W.cell? ⟨pb,2,none⟩=some (.int .i64 p.v)) cv cv (HS.out _ QO) ?_
     (simp only [bF,List.filterMap_cons,List.filterMap_nil,List.getElem?_cons_zero,List.getElem?_cons_succ,Option.map_some])
     (repeat first|refine aV ?_|refine aU ?_)
     refine aM rfl (fun K hK=>?_)
     go_simp
     (with_reducible refine(H7.out _).mono ?_)
     rintro e _ ⟨rfl,rfl⟩
     go_simp
     refine hK _ _ (HS.out _ QO) ?_
     clear hK K
     (repeat first|refine aV ?_|refine aU ?_)
     refine aM rfl (fun K hK=>?_)
     go_simp
     (with_reducible refine(H7.out _).mono ?_)
     rintro e _ ⟨rfl,rfl⟩
     go_simp
     refine hK _ _ (HS.out _ QO) ?_
     clear hK K
     (repeat first|refine aV ?_|refine aU ?_)
     refine aM rfl (fun K hK=>?_)
     go_simp
     (with_reducible refine(Oa.out _).mono ?_)
     rintro e _ ⟨rfl,rfl⟩
     go_simp
     refine hK _ _ (HS.out _ QO) ?_
     clear hK K
     (repeat first|refine aV ?_|refine aU ?_)
     refine bn rfl (fun K hK=>?_)
     go_simp
     refine hK _ _ ?_
     clear hK K
     refine cj ?_
     obtain⟨W9,jB⟩:=bR (W3)
     have pA:=hdd (show ah W3 W9 by rw [jB];exact aL _ _)
     rw [<-jB]
     clear jB
     obtain⟨V,hV⟩:=bR ((((((W9.setCell ⟨qb,0,none⟩ (.int .i64 3)).setCell ⟨qb,1,none⟩ (.string p.s)).setCell ⟨qb,2,none⟩ (.int .i64 A6)).setCell ⟨qb,3,none⟩ (.int .i64 (A6+B9))).setCell ⟨qb,4,none⟩ (.int .i64 0)).setCell ⟨qb,5,none⟩ (.int .i64 0))
     have wQ:=hdd (show jW rb pb qb x p ⟨3,p.s,A6,A6+B9,0,0⟩ V by
      have h1:=tY.out _ pA.out
      rw [hV]
      exact⟨(bG h1.n1).trans h1.raw,(bG h1.n2).trans h1.pt,ig h1.ac,h1.n1,h1.n2⟩)
     have vr:=hdd (show ah w V by rw [hV];exact eB (xU.out _ pA.out) (by have:=HQ.out;omega) _ _ _ _ _ _)
     have vG:=hdd (show cy w.heap.size V (.slice so L.length sc) L by rw [hV];exact(HOW.out _ pA.out).block fun g hg=>bG (by have h1:=(HO.out.lt g hg).2;have:=HQ.out;have:=Ag.out;omega))
     clear z0 z1 z2 z3 z4 z5 zf
     go_wp2_with fail
     go_meet
     rw [<-hV]
     exact hdd ⟨⟨3,p.s,A6,A6+B9,0,0⟩,wQ.out.below ((aL _ _).drew),vr.out.drew,vG.out.block fun _ _=>rfl,by unfold pz;rw [BI.out,ai HD.out.1,ar HD.out.2,HP.out,KO.out,KM.out]⟩
    have d0:(K == 0)=false:=by simpa using ie
    have d12:decide (K<3)=false:=by simpa using zt
    obtain⟨W9,jB⟩:=bR (W3)
    have pA:=hdd (show ah W3 W9 by rw [jB];exact aL _ _)
    by_cases hk3:K=3
    ·subst hk3
     by_cases h4:A4=0
     ·skip
      have d4:(A4 == 0)=true:=by simp [h4]
      have hw3:IntKind.i64.wrap (3600*B3)=3600*B3:=IntWalk.i64_in _ (by have:=Ux.out;omega)
      have H4:=hdd h4
      clear h4 Rs ie zt
      go_wp2_with (first|(go_at_call 27;(with_reducible refine(Ye.out _).mono ?_);rintro e _ ⟨rfl,rfl⟩)|(go_at_call 27;(with_reducible refine(H6.out _).mono ?_);rintro e _ ⟨rfl,rfl⟩))
      rw [<-jB]
      clear jB
      obtain⟨V,hV⟩:=bR ((((((W9.setCell ⟨qb,0,none⟩ (.int .i64 4)).setCell ⟨qb,1,none⟩ (.string ⟨#[]⟩)).setCell ⟨qb,2,none⟩ (.int .i64 (3600*B3))).setCell ⟨qb,3,none⟩ (.int .i64 0)).setCell ⟨qb,4,none⟩ (.int .i64 0)).setCell ⟨qb,5,none⟩ (.int .i64 0))
      have wQ:=hdd (show jW rb pb qb x p ⟨4,ByteArray.empty,3600*B3,0,0,0⟩ V by
       have h1:=tY.out _ pA.out
       rw [hV]
       exact⟨(bG h1.n1).trans h1.raw,(bG h1.n2).trans h1.pt,ig h1.ac,h1.n1,h1.n2⟩)
      have vr:=hdd (show ah w V by rw [hV];exact eB (xU.out _ pA.out) (by have:=HQ.out;omega) _ _ _ _ _ _)
      have vG:=hdd (show cy w.heap.size V (.slice so L.length sc) L by rw [hV];exact(HOW.out _ pA.out).block fun g hg=>bG (by have h1:=(HO.out.lt g hg).2;have:=HQ.out;have:=Ag.out;omega))
      clear z0 z1 z2 z3 z4 z5 zf
      go_meet
      rw [<-hV]
      exact hdd ⟨⟨4,ByteArray.empty,3600*B3,0,0,0⟩,wQ.out,vr.out,vG.out,by unfold pz;rw [BI.out,ai aY,ai aY,Yt.out,ar ⟨rfl,H4.out⟩,KN.out]⟩
     ·skip
      have d4:(A4 == 0)=false:=by simpa using h4
      have H4:=hdd h4
      clear h4 Rs ie zt jB
      go_wp2_with (go_at_call 27;(with_reducible refine(Ye.out _).mono ?_);rintro e _ ⟨rfl,rfl⟩)
      have wQ:=hdd (tY.out W3 (aL _ _))
      have vr:=hdd (xU.out W3 (aL _ _))
      have vG:=hdd (HOW.out W3 (aL _ _))
      clear z0 z1 z2 z3 z4 z5 zf
      go_meet
      exact hdd ⟨⟨1,p.s,p.t,0,0,p.v⟩,wQ.out,vr.out,vG.out,by unfold pz;rw [BI.out,ai aY,ai aY,Yt.out,ai (fun hn=>H4.out hn.2),ai aY,ai (fun hn=>by have:=hn.1;omega),HP.out]⟩
    by_cases hk4:K=4
    ·subst hk4
     clear Rs ie zt hk3
     go_wp2_with (fail)
     rw [<-jB]
     clear jB
     obtain⟨V,hV⟩:=bR ((((((W9.setCell ⟨qb,0,none⟩ (.int .i64 5)).setCell ⟨qb,1,none⟩ (.string ⟨#[]⟩)).setCell ⟨qb,2,none⟩ (.int .i64 0)).setCell ⟨qb,3,none⟩ (.int .i64 0)).setCell ⟨qb,4,none⟩ (.int .i64 0)).setCell ⟨qb,5,none⟩ (.int .i64 0))
     have wQ:=hdd (show jW rb pb qb x p ⟨5,ByteArray.empty,0,0,0,0⟩ V by
      have h1:=tY.out _ pA.out
      rw [hV]
      exact⟨(bG h1.n1).trans h1.raw,(bG h1.n2).trans h1.pt,ig h1.ac,h1.n1,h1.n2⟩)
     have vr:=hdd (show ah w V by rw [hV];exact eB (xU.out _ pA.out) (by have:=HQ.out;omega) _ _ _ _ _ _)
     have vG:=hdd (show cy w.heap.size V (.slice so L.length sc) L by rw [hV];exact(HOW.out _ pA.out).block fun g hg=>bG (by have h1:=(HO.out.lt g hg).2;have:=HQ.out;have:=Ag.out;omega))
     clear z0 z1 z2 z3 z4 z5 zf
     go_meet
     rw [<-hV]
     exact hdd ⟨⟨5,ByteArray.empty,0,0,0,0⟩,wQ.out,vr.out,vG.out,by unfold pz;rw [BI.out,ai aY,ai aY,ai (fun hn=>by have:=hn.1;omega),ar rfl]⟩
    by_cases Y0:K=5
    ·subst Y0
     by_cases h3:A3=0
     ·skip
      have d3:(A3 == 0)=true:=by simp [h3]
      have H3:=hdd h3
      clear h3 Rs ie zt hk3 hk4
      go_wp2_with (go_at_call 27;(with_reducible refine(Yf.out _).mono ?_);rintro e _ ⟨rfl,rfl⟩)
      rw [<-jB]
      clear jB
      obtain⟨V,hV⟩:=bR ((((((W9.setCell ⟨qb,0,none⟩ (.int .i64 6)).setCell ⟨qb,1,none⟩ (.string ⟨#[]⟩)).setCell ⟨qb,2,none⟩ (.int .i64 0)).setCell ⟨qb,3,none⟩ (.int .i64 0)).setCell ⟨qb,4,none⟩ (.int .i64 0)).setCell ⟨qb,5,none⟩ (.int .i64 0))
      have wQ:=hdd (show jW rb pb qb x p ⟨6,ByteArray.empty,0,0,0,0⟩ V by
       have h1:=tY.out _ pA.out
       rw [hV]
       exact⟨(bG h1.n1).trans h1.raw,(bG h1.n2).trans h1.pt,ig h1.ac,h1.n1,h1.n2⟩)
      have vr:=hdd (show ah w V by rw [hV];exact eB (xU.out _ pA.out) (by have:=HQ.out;omega) _ _ _ _ _ _)
      have vG:=hdd (show cy w.heap.size V (.slice so L.length sc) L by rw [hV];exact(HOW.out _ pA.out).block fun g hg=>bG (by have h1:=(HO.out.lt g hg).2;have:=HQ.out;have:=Ag.out;omega))
      clear z0 z1 z2 z3 z4 z5 zf
      go_meet
      rw [<-hV]
      exact hdd ⟨⟨6,ByteArray.empty,0,0,0,0⟩,wQ.out,vr.out,vG.out,by unfold pz;rw [BI.out,ai aY,ai aY,ai (fun hn=>by have:=hn.1;omega),ai aY,Yu.out,ar ⟨rfl,H3.out⟩]⟩
     ·skip
      have d3:(A3 == 0)=false:=by simpa using h3
      have H3:=hdd h3
      clear h3 Rs ie zt hk3 hk4 jB
      go_wp2_with (go_at_call 27;(with_reducible refine(Yf.out _).mono ?_);rintro e _ ⟨rfl,rfl⟩)
      have wQ:=hdd (tY.out W3 (aL _ _))
      have vr:=hdd (xU.out W3 (aL _ _))
      have vG:=hdd (HOW.out W3 (aL _ _))
      clear z0 z1 z2 z3 z4 z5 zf
      go_meet
      exact hdd ⟨⟨1,p.s,p.t,0,0,p.v⟩,wQ.out,vr.out,vG.out,by unfold pz;rw [BI.out,ai aY,ai aY,ai (fun hn=>by have:=hn.1;omega),ai aY,Yu.out,ai (fun hn=>H3.out hn.2),HP.out]⟩
    have d3:(K == 3)=false:=by simpa using hk3
    have d4:(K == 4)=false:=by simpa using hk4
    have d5:(K == 5)=false:=by simpa using Y0
    have HN:=hdd (aO ie (aO zt (aO hk3 (aO hk4 Y0))))
    clear Rs ie zt hk3 hk4 Y0 jB
    go_wp2_with (fail)
    have wQ:=hdd (tY.out W3 (aL _ _))
    have vr:=hdd (xU.out W3 (aL _ _))
    have vG:=hdd (HOW.out W3 (aL _ _))
    clear z0 z1 z2 z3 z4 z5 zf
    go_meet
    exact hdd ⟨⟨1,p.s,p.t,0,0,p.v⟩,wQ.out,vr.out,vG.out,by unfold pz;rw [BI.out,ai HN.out.1,ai (by have:=HN.out.2.1;omega),ai (fun hn=>HN.out.2.2.1 hn.1),ai HN.out.2.2.2.1,ai (fun hn=>HN.out.2.2.2.2 hn.1),HP.out]⟩
   case rest=>
    obtain⟨a,Va,KP,HOA,haa⟩:=hcut.out
    obtain⟨q0,q1,q2,q3,q4,q5,-⟩:=Va.OJ
    have HAC:=hdd haa
    have vr:=hdd KP
    have vG:=hdd HOA
    clear Va KP HOA haa hcut
    go_wp2_with (at_builtin;refine uf rfl (.tmp 104) (.tmp 106) rfl w.heap.size _ L rfl (vG.out.alloc _) ⟨_,0,none⟩ a rfl (fun j u h=>QQ h) (by have:=Og.out;omega) (by have h1:=vr.out.size;simp;omega) ?_;intro v5 w5 Pt Tm U6)
    go_roundg (min xs.length most-(k+1))
    case measure=>omega
    case rel=>exact⟨k+1,af,rfl,by go_num,by rw [BG.out,HAC.out];exact Pt,Below.grown (vr.out.alloc vr.out.size _) Tm (by have h1:=vr.out.size;simp;omega) (fun j hj=>(vG.out.lt j hj).1)⟩
  ·have hcond:¬(k<xs.length/\k<most):=hlt
   have HE:=hdd (show kJ xs k=kJ xs most by unfold kJ;congr 1;rw [List.take_eq_take_iff];omega)
   by_cases h1:k<xs.length
   ·have h3:(k:Int)<(xs.length:Int):=af
    have h4:¬(k:Int)<(most:Int):=af
    clear hcond hlt h1 a5 hlk
    go_wp2_with fail
    go_ret
    exact⟨hb,so,sc,by rw [<-HE.out];rfl,by rw [<-HE.out];exact ho⟩
   ·have h3:¬(k:Int)<(xs.length:Int):=af
    clear hcond hlt h1 a5 hlk
    go_wp2_with fail
    go_ret
    exact⟨hb,so,sc,by rw [<-HE.out];rfl,by rw [<-HE.out];exact ho⟩
end Go.Proofs.YtmljjfhgciaceaaGreatDoor
