import Derived.Test.YtmljjfhgciaceaaDoorHd
import Derived.Test.YtmljjfhgciaceaaDoorEG
import Derived.Test.YtmljjfhgciaceaaDoorSO
import Derived.Test.YtmljjfhgciaceaaDoorKT
import Derived.Deep.CutBlock
namespace Go.Proofs.YtmljjfhgciaceaaDoor
open Go.RowKit
set_option maxRecDepth 100000
set_option maxHeartbeats 4000000
variable {xs:List Rw} {most B:Nat} {v0 v1 v2 v3 v4 v5:Value} {w:World}
def jT (xs:List Rw) (most:Nat):List Ac:=(xs.take most).map pB
theorem Hp:∀a∈jT xs most,tS a:=fun a ha=>by
 obtain⟨r,-,rfl⟩:=lI.1 ha
 exact Bu r
structure jU (rb pb qb:Nat) (x:Rw) (p:r9) (a:Ac) (W:World):Prop where
 raw:W.heap[rb]?=some (.cells #[.int .i64 x.k, .int .i64 x.a, .int .i64 x.b, .int .i64 x.c] 75)
 pt:W.heap[pb]?=some (.cells #[.string p.s, .int .i64 p.t, .int .i64 p.v] 59)
 ac:W.heap[qb]?=some (.cells #[.int .i64 a.k, .string a.s, .int .i64 a.t, .int .i64 a.z, .int .i64 a.sz, .int .i64 a.v] 26)
 n1:rb≠qb
 n2:pb≠qb
section
variable {rb pb qb:Nat} {x:Rw} {p:r9} {a:Ac} {W W':World}
theorem jU.VH (h:jU rb pb qb x p a W):W.cell? ⟨rb,0,none⟩=some (.int .i64 x.k)/\W.cell? ⟨rb,1,none⟩=some (.int .i64 x.a)/\W.cell? ⟨rb,2,none⟩=some (.int .i64 x.b)/\W.cell? ⟨rb,3,none⟩=some (.int .i64 x.c):=by
 have h1:=h.raw
 simp [World.cell?,h1]
theorem jU.ptC (h:jU rb pb qb x p a W):W.cell? ⟨pb,0,none⟩=some (.string p.s)/\W.cell? ⟨pb,1,none⟩=some (.int .i64 p.t)/\W.cell? ⟨pb,2,none⟩=some (.int .i64 p.v):=by
 have h1:=h.pt
 simp [World.cell?,h1]
theorem jU.OH (h:jU rb pb qb x p a W):W.cell? ⟨qb,0,none⟩=some (.int .i64 a.k)/\W.cell? ⟨qb,1,none⟩=some (.string a.s)/\W.cell? ⟨qb,2,none⟩=some (.int .i64 a.t)/\W.cell? ⟨qb,3,none⟩=some (.int .i64 a.z)/\W.cell? ⟨qb,4,none⟩=some (.int .i64 a.sz)/\W.cell? ⟨qb,5,none⟩=some (.int .i64 a.v)/\∀o,W.frozen? ⟨qb,o,none⟩=false:=by
 have h1:=h.ac
 simp [World.cell?,World.frozen?,h1]
theorem jU.below (h:jU rb pb qb x p a W) (hb:ah W W'):jU rb pb qb x p a W':=
 ⟨(hb.block _ (eW.1 h.raw).1).trans h.raw,(hb.block _ (eW.1 h.pt).1).trans h.pt,(hb.block _ (eW.1 h.ac).1).trans h.ac,h.n1,h.n2⟩
theorem ig {a0 a1 a2 a3 a4 a5:Value} {e:TypeId} {fr:Nat×Nat} (h:w.heap[B]?=some (.cells #[a0,a1,a2,a3,a4,a5] e fr)) :
  ((((((w.setCell ⟨B,0,none⟩ v0).setCell ⟨B,1,none⟩ v1).setCell ⟨B,2,none⟩ v2).setCell ⟨B,3,none⟩ v3).setCell ⟨B,4,none⟩ v4).setCell ⟨B,5,none⟩ v5).heap[B]?=some (.cells #[v0,v1,v2,v3,v4,v5] e fr):=C8 h
theorem bC {b:Nat} (h:b≠B):((((((w.setCell ⟨B,0,none⟩ v0).setCell ⟨B,1,none⟩ v1).setCell ⟨B,2,none⟩ v2).setCell ⟨B,3,none⟩ v3).setCell ⟨B,4,none⟩ v4).setCell ⟨B,5,none⟩ v5).heap[b]?=w.heap[b]?:=by
 rw [heap_setCell_other _ ⟨B,_,none⟩ b _ h,heap_setCell_other _ ⟨B,_,none⟩ b _ h,heap_setCell_other _ ⟨B,_,none⟩ b _ h,heap_setCell_other _ ⟨B,_,none⟩ b _ h,heap_setCell_other _ ⟨B,_,none⟩ b _ h,heap_setCell_other _ ⟨B,_,none⟩ b _ h]
theorem eZ {xb:Nat} {w0:World} (h:Below B w w0) (hx:B<=xb) (v0 v1 v2 v3 v4 v5:Value):Below B w ((((((w0.setCell ⟨xb,0,none⟩ v0).setCell ⟨xb,1,none⟩ v1).setCell ⟨xb,2,none⟩ v2).setCell ⟨xb,3,none⟩ v3).setCell ⟨xb,4,none⟩ v4).setCell ⟨xb,5,none⟩ v5):=
 (((((h.setCell hx _).setCell hx _).setCell hx _).setCell hx _).setCell hx _).setCell hx _
end
theorem NK {v:Value} (h:I5 w v xs) (hx:∀a∈xs,a.ok) (hm:most<=100) :
  Calls Tryd.prog 12 #[v, .int .i64 most] w fun e w'=>ah w w'/\∃ao c,e = .returned (.slice ao (jT xs most).length c)/\cp w.heap.size w' (.slice ao (jT xs most).length c) (jT xs most):=by
 obtain⟨ao,cap,rfl,a1,a2,a3,a4,a5⟩:=h
 go_enter Tryd.func12,Tryd.ntmps12
 go_wp2_with fail
 go_loopg [5,6] (min xs.length most) (fun g ov i wr=>∃k:Nat,k<=min xs.length most/\g=min xs.length most-k/\i = .int .i64 k/\cp w.heap.size wr ov (jT xs k)/\ah w wr)
 case atStart=>exact⟨0,iN _,rfl,rfl,cp.nil _ _,aJ _ _⟩
 case round=>
  obtain⟨k,hk,rfl,rfl,ho,hb⟩:=hrel
  obtain⟨so,sc,rfl⟩:=ho.isSlice
  have hlk:(jT xs k).length=k:=by unfold jT;rw [nA,fw];omega
  have hsz:=hb.size
  by_cases hlt:k<xs.length/\k<most
  ·obtain⟨GA,jH⟩:=hlt
   have Cf:(k:Int)<(xs.length:Int):=af
   have afU:(k:Int)<(most:Int):=af
   obtain⟨ab,aY,rfl,xD,ac⟩:=a5 af
   obtain⟨c0,c1,c2,c3⟩:=Lm hb xD ac GA
   have PJ:=hx xs[k] (fO GA)
   have htk:jT xs (k+1)=jT xs k++[pB xs[k]]:=by unfold jT;rw [mn GA,tL];rfl
   obtain⟨x,hxk⟩:=bw (xs[k])
   rw [hxk]at c0 c1 c2 c3 PJ htk
   obtain⟨p,hp⟩:=bw (km x)
   have HPT:=hdd fun W=>Jx (w:=W) PJ hp
   have HP:=hdd hp
   have OL:=hdd PJ
   have Bv:=hdd htk
   have kS:=fun w'=>PE (ab:=ab) (aY:=aY) (n:=xs.length) (cap:=cap) (show (k:Int)=((k:Nat):Int) by rfl) GA w'
   have HK:=hdd (cX (n:=x.c) (m:=16) aW)
   obtain⟨K,hK⟩:=bw (picked x.c 16)
   have HPK:=hdd fun W=>jC x.c 16 W PJ.2.2.2.1 PJ.2.2.2.2 aW aW
   rw [hK]at HPK HK
   have Bx:=hdd hK
   have HO:=hdd ho
   have Oe:=hdd hlk
   obtain⟨L,hL⟩:=bw (jT xs k)
   rw [hL]at HO Bv Oe ⊢
   clear PJ hxk htk hp hK ac a5 ho hlk hL
   go_upto_region 6 with (fail)
   obtain⟨W1,hW1⟩:=bQ (wr.alloc (.cells #[.int .i64 x.k, .int .i64 x.a, .int .i64 x.b, .int .i64 x.c] 75))
   have hb1:ah wr W1:=by rw [hW1];exact ag
   have k1:W1.heap[wr.heap.size]?=some (.cells #[.int .i64 x.k, .int .i64 x.a, .int .i64 x.b, .int .i64 x.c] 75):=by rw [hW1];exact aq _ _ rfl
   have hz1:W1.heap.size=wr.heap.size+1:=by rw [hW1];simp
   obtain⟨x0,x1,x2,x3⟩:W1.cell? ⟨wr.heap.size,0,none⟩=some (.int .i64 x.k)/\W1.cell? ⟨wr.heap.size,1,none⟩=some (.int .i64 x.a)/\W1.cell? ⟨wr.heap.size,2,none⟩=some (.int .i64 x.b)/\W1.cell? ⟨wr.heap.size,3,none⟩=some (.int .i64 x.c):=by simp [World.cell?,k1]
   have OJ:=hdd hz1
   rw [<-hW1]
   clear hW1 hz1 c0 c1 c2 c3 kS
   go_upto_region 7 with (go_at_call 33;(with_reducible refine(HPT.out _).mono ?_);rintro e w2 ⟨rfl,hb2⟩)
   obtain⟨W2,hW2⟩:=bQ (w2.alloc (.cells #[.string p.s, .int .i64 p.t, .int .i64 p.v] 59))
   have J3:ah w2 W2:=by rw [hW2];exact ag
   have k2:W2.heap[w2.heap.size]?=some (.cells #[.string p.s, .int .i64 p.t, .int .i64 p.v] 59):=by rw [hW2];exact aq _ _ rfl
   have hz2:W2.heap.size=w2.heap.size+1:=by rw [hW2];simp
   have hs2:=hb2.size
   obtain⟨y0,y1,y2⟩:W2.cell? ⟨w2.heap.size,0,none⟩=some (.string p.s)/\W2.cell? ⟨w2.heap.size,1,none⟩=some (.int .i64 p.t)/\W2.cell? ⟨w2.heap.size,2,none⟩=some (.int .i64 p.v):=by simp [World.cell?,k2]
   have OI:=hdd hz2
   rw [<-hW2]
   clear hW2 hz2
   go_upto_region 8 with (fail)
   obtain⟨W3,hW3⟩:=bQ (W2.alloc (.cells #[.int .i64 1, .string p.s, .int .i64 p.t, .int .i64 0, .int .i64 0, .int .i64 p.v] 26))
   have hb3:ah W2 W3:=by rw [hW3];exact ag
   have k3:W3.heap[W2.heap.size]?=some (.cells #[.int .i64 1, .string p.s, .int .i64 p.t, .int .i64 0, .int .i64 0, .int .i64 p.v] 26):=by rw [hW3];exact aq _ _ rfl
   have hz3:W3.heap.size=W2.heap.size+1:=by rw [hW3];simp
   have hz1:=OJ.out
   have hz2:=OI.out
   have GJ:ah wr W2:=Below.trans' hb1 (Below.trans' hb2 J3 hs2) hb1.size
   have hbr:ah wr W3:=Below.trans' GJ hb3 GJ.size
   have hR:jU wr.heap.size w2.heap.size W2.heap.size x p ⟨1,p.s,p.t,0,0,p.v⟩ W3:=
    ⟨(hb3.block _ af).trans ((J3.block _ af).trans ((hb2.block _ af).trans k1)),(hb3.block _ af).trans k2,k3,af,af⟩
   have tV:=hdd fun W (di:ah W3 W)=>hR.below di
   have xQ:=hdd fun W (di:ah W3 W)=>(Below.trans' hb (Below.trans' hbr di hbr.size) hsz:ah w W)
   have HOW:=hdd fun W (di:ah W3 W)=>HO.out.below (Below.trans' hbr di hbr.size) aI
   have HQ:=hdd (show w.heap.size<=wr.heap.size/\wr.heap.size<W2.heap.size/\W2.heap.size<W3.heap.size by omega)
   obtain⟨VB,ZI,ZH,ZG⟩:=hR.VH
   obtain⟨Jb,y1',Yy⟩:=hR.ptC
   obtain⟨z0,z1,z2,z3,z4,z5,zf⟩:=hR.OH
   rw [<-hW3]
   obtain⟨rb,IC⟩:=bw (wr.heap.size)
   obtain⟨pb,hpb⟩:=bw (w2.heap.size)
   obtain⟨qb,Oy⟩:=bw (W2.heap.size)
   rw [IC,hpb,Oy]at tV
   rw [IC]at VB ZI ZH ZG ⊢
   rw [hpb]at Jb y1' Yy ⊢
   rw [Oy]at z0 z1 z2 z3 z4 z5 zf ⊢
   rw [IC,Oy]at HQ
   have HZR:=IC
   clear hW3 hb1 hb2 J3 k1 k2 k3 hz1 hz2 hz3 hs2 hb3 GJ hbr hR x0 x1 x2 x3 y0 y1 y2 IC hpb Oy hb hsz
   have zY:=hdd HZR
   clear HZR
   go_upto_block 2 with (go_at_call 29;(with_reducible refine(HPK.out _).mono ?_);rintro e w4 ⟨rfl,rfl⟩)
   go_cut []from 38 to 103 (fun wx=>Hid (∃a,jU rb pb qb x p a wx/\ah w wx/\cp w.heap.size wx (.slice so L.length sc) L/\pB x=a))
   case first=>
    have Sy:=cX (n:=x.a) (m:=6000) aW
    obtain⟨A6,hA6⟩:=bw (picked x.a 6000)
    have SE:=fun W=>jC x.a 6000 W OL.out.2.1.1 OL.out.2.1.2 aW aW
    rw [hA6]at SE Sy
    have Hy:=hdd SE
    have KN:=hdd hA6
    have ace:=hdd Sy
    clear Sy hA6 SE
    have Sv:=cX (n:=x.b) (m:=9000) aW
    obtain⟨B9,TJ⟩:=bw (picked x.b 9000)
    have SC:=fun W=>jC x.b 9000 W OL.out.2.2.1.1 OL.out.2.2.1.2 aW aW
    rw [TJ]at SC Sv
    have N8:=hdd SC
    have KL:=hdd TJ
    have acd:=hdd Sv
    clear Sv TJ SC
    have Sw:=cX (n:=x.b) (m:=3) aW
    obtain⟨B3,XI⟩:=bw (picked x.b 3)
    have SD:=fun W=>jC x.b 3 W OL.out.2.2.1.1 OL.out.2.2.1.2 aW aW
    rw [XI]at SD Sw
    have Hw:=hdd SD
    have KM:=hdd XI
    have Ul:=hdd Sw
    clear Sw XI SD
    have Sz:=cX (n:=x.a) (m:=4) aW
    obtain⟨A4,Vg⟩:=bw (picked x.a 4)
    have SF:=fun W=>jC x.a 4 W OL.out.2.1.1 OL.out.2.1.2 aW aW
    rw [Vg]at SF Sz
    have Ya:=hdd SF
    have Yn:=hdd Vg
    have ahr:=hdd Sz
    clear Sz Vg SF
    have SB:=cX (n:=x.a) (m:=3) aW
    obtain⟨A3,Vh⟩:=bw (picked x.a 3)
    have SG:=fun W=>jC x.a 3 W OL.out.2.1.1 OL.out.2.1.2 aW aW
    rw [Vh]at SG SB
    have Yb:=hdd SG
    have Yo:=hdd Vh
    have ahs:=hdd SB
    clear SB Vh SG
    have QH:ah W3 W3.drew:=(aJ _ _).drew
    have HS:=hdd fun W (di:ah W3 W)=>(by
     obtain⟨x0,x1,x2,x3⟩:=(tV.out W di).VH
     obtain⟨y0,y1,y2⟩:=(tV.out W di).ptC
     exact⟨x0,x1,x2,x3,y0,y1,y2⟩:W.cell? ⟨rb,0,none⟩=some (.int .i64 x.k)/\W.cell? ⟨rb,1,none⟩=some (.int .i64 x.a)/\W.cell? ⟨rb,2,none⟩=some (.int .i64 x.b)/\W.cell? ⟨rb,3,none⟩=some (.int .i64 x.c)/\W.cell? ⟨pb,0,none⟩=some (.string p.s)/\W.cell? ⟨pb,1,none⟩=some (.int .i64 p.t)/\W.cell? ⟨pb,2,none⟩=some (.int .i64 p.v))
    have hwr:IntKind.i64.wrap (A6+B9)=A6+B9:=IntWalk.i64_in _ (by have:=ace.out;have:=acd.out;omega)
    have Rk:=HK.out
    by_cases ie:K=0
    ·subst ie
     obtain⟨j,hj⟩:∃j:Nat,B3=j:=⟨B3.toNat,by have:=Ul.out;omega⟩
     have hj3:j<3:=by have:=Ul.out;omega
     have HJ:=hdd hj
     rw [hj]at Hw
     clear hj Rk
     have hx3:=fun(g cap:Nat) w'=>(by have h1:=lQ (ab:=g) (aY:=0) (n:=3) (cap:=cap) (show (j:Int)=((j:Nat):Int) by rfl) hj3 w';rw [iM]at h1;exact h1:(Instr.indexAt 82 (.slice (some ⟨g,0,none⟩) 3 cap) (.int .i64 (j:Int))).run Tryd.prog w' = .ok (.pointer (some ⟨g,j,none⟩)) w')
     have hc3:∀(g:Nat) (W:World),g=W.heap.size->(W.alloc (.cells #[.int .i64 1, .int .i64 60, .int .i64 3600] 3)).cell? ⟨g,j,none⟩=some (.int .i64 (aR j)):=fun g W hg=>by
      have k:=aq W (.cells #[.int .i64 1, .int .i64 60, .int .i64 3600] 3) hg
      obtain rfl|rfl|rfl:j=0\/j=1\/j=2:=af
      all_goals simp [World.cell?,k,aR]
     have O1:=hdd hc3
     clear hc3 VB ZI ZH ZG Jb y1' Yy
     go_upto_region 10 with (fail)
     refine fJ (mF.of [(0,1),(1,0),(2,1),(3,0),(5,1),(6,0),(8,1),(9,0),(13,1),(14,0)] (.fork 4 12 (.fork 7 12 (.fork 10 12 (mF.of [(11,1)] (.fork 12 15 (mF.of [(15,2),(16,1),(17,2),(18,1),(19,3)] .nil) (mF.of [(12,2),(16,1),(17,2),(18,1),(19,3)] .nil))) (mF.of [(10,2),(11,1),(15,2),(16,1),(17,2),(18,1),(19,3)] .nil)) (mF.of [(7,2),(10,2),(11,1),(15,2),(16,1),(17,2),(18,1),(19,3)] .nil)) (mF.of [(4,2),(7,2),(10,2),(11,1),(15,2),(16,1),(17,2),(18,1),(19,3)] .nil))) 19 (fun W=>W.cell? ⟨rb,0,none⟩=some (.int .i64 x.k)/\W.cell? ⟨rb,1,none⟩=some (.int .i64 x.a)/\W.cell? ⟨rb,2,none⟩=some (.int .i64 x.b)/\W.cell? ⟨rb,3,none⟩=some (.int .i64 x.c)/\W.cell? ⟨pb,0,none⟩=some (.string p.s)/\W.cell? ⟨pb,1,none⟩=some (.int .i64 p.t)/\W.cell? ⟨pb,2,none⟩=some (.int .i64 p.v)) cy cy (HS.out _ QH) ?_
     simp only [mF.of]
     (repeat first|refine bP ?_|refine bO ?_)
     clear z0 z1 z2 z3 z4 z5 zf
     refine iz rfl rfl rfl rfl (fun K hK=>?_) (fun K hK=>?_)
     ·skip
      go_simp
      (with_reducible refine(Hy.out _).mono ?_)
      rintro e _ ⟨rfl,rfl⟩
      go_simp
      refine hK _ _ (HS.out _ QH) ?_
      clear hK K
      (repeat first|refine bP ?_|refine bO ?_)
      refine iz rfl rfl rfl rfl (fun K hK=>?_) (fun K hK=>?_)
      ·skip
       go_simp
       (with_reducible refine(Hy.out _).mono ?_)
       rintro e _ ⟨rfl,rfl⟩
       go_simp
       refine hK _ _ (HS.out _ QH) ?_
       clear hK K
       (repeat first|refine bP ?_|refine bO ?_)
       refine iz rfl rfl rfl rfl (fun K hK=>?_) (fun K hK=>?_)
       ·skip
        go_simp
        (with_reducible refine(N8.out _).mono ?_)
        rintro e _ ⟨rfl,rfl⟩
        go_simp
        refine hK _ _ (HS.out _ QH) ?_
        clear hK K
        (repeat first|refine bP ?_|refine bO ?_)
        refine iz rfl rfl rfl rfl (fun K hK=>?_) (fun K hK=>?_)
        ·skip
         go_simp
         obtain⟨W9,je⟩:=bQ ((W3.alloc (.cells #[.int .i64 1, .int .i64 60, .int .i64 3600] 3)).drew)
         have c3:W9.cell? ⟨W3.heap.size,j,none⟩=some (.int .i64 (aR j)):=by rw [je];exact O1.out _ W3 rfl
         have qj:ah W3 W9:=by rw [je];exact((aJ _ _).alloc aI _).drew
         rw [<-je]
         refine hK _ _ (HS.out _ qj) ?_
         clear hK K je
         (repeat first|refine bP ?_|refine bO ?_)
         refine bz rfl rfl (fun K hK=>?_)
         go_simp
         (with_reducible refine(Hw.out _).mono ?_)
         rintro e _ ⟨rfl,rfl⟩
         go_simp
         refine hK _ _ (HS.out _ qj) ?_
         clear hK K
         (repeat first|refine bP ?_|refine bO ?_)
         refine bz rfl rfl (fun K hK=>?_)
         go_simp
         refine hK _ _ (HS.out _ qj) ?_
         clear hK K
         (repeat first|refine bP ?_|refine bO ?_)
         obtain⟨z0,z1,z2,z3,z4,z5,zf⟩:=(tV.out _ qj).OH
         have pD:=hdd qj
         clear qj c3
         refine dK rfl rfl (fun K hK=>?_)
         go_simp
         refine hK _ _ ?_
         clear hK K
         refine eY ?_
         obtain⟨V,hV⟩:=bQ ((((((W9.setCell ⟨qb,0,none⟩ (.int .i64 2)).setCell ⟨qb,1,none⟩ (.string p.s)).setCell ⟨qb,2,none⟩ (.int .i64 A6)).setCell ⟨qb,3,none⟩ (.int .i64 (A6+B9))).setCell ⟨qb,4,none⟩ (.int .i64 (aR j))).setCell ⟨qb,5,none⟩ (.int .i64 0))
         have wN:=hdd (show jU rb pb qb x p ⟨2,p.s,A6,A6+B9,aR j,0⟩ V by
          have h1:=tV.out _ pD.out
          rw [hV]
          exact⟨(bC h1.n1).trans h1.raw,(bC h1.n2).trans h1.pt,ig h1.ac,h1.n1,h1.n2⟩)
         have vp:=hdd (show ah w V by rw [hV];exact eZ (xQ.out _ pD.out) (by have:=HQ.out;omega) _ _ _ _ _ _)
         have vC:=hdd (show cp w.heap.size V (.slice so L.length sc) L by rw [hV];exact(HOW.out _ pD.out).block fun g hg=>bC (by have h1:=(HO.out.lt g hg).2;have:=HQ.out;have:=zY.out;omega))
         clear z0 z1 z2 z3 z4 z5 zf
         go_wp2_with fail
         go_meet
         rw [<-hV]
         exact hdd ⟨⟨2,p.s,A6,A6+B9,aR j,0⟩,wN.out,vp.out,vC.out,by unfold pB;rw [Bx.out,ar rfl,HP.out,KN.out,KL.out,KM.out,HJ.out];rfl⟩
        ·skip
         go_simp
         (with_reducible refine(Hw.out _).mono ?_)
         rintro e _ ⟨rfl,rfl⟩
         go_simp
         refine hK _ _ (HS.out _ QH) ?_
         clear hK K
         (repeat first|refine bP ?_|refine bO ?_)
         refine bz rfl rfl (fun K hK=>?_)
         go_simp
         obtain⟨W9,je⟩:=bQ ((W3.alloc (.cells #[.int .i64 1, .int .i64 60, .int .i64 3600] 3)).drew)
         have c3:W9.cell? ⟨W3.heap.size,j,none⟩=some (.int .i64 (aR j)):=by rw [je];exact O1.out _ W3 rfl
         have qj:ah W3 W9:=by rw [je];exact((aJ _ _).alloc aI _).drew
         rw [<-je]
         refine hK _ _ (HS.out _ qj) ?_
         clear hK K je
         (repeat first|refine bP ?_|refine bO ?_)
         refine bz rfl rfl (fun K hK=>?_)
         go_simp
         refine hK _ _ (HS.out _ qj) ?_
         clear hK K
         (repeat first|refine bP ?_|refine bO ?_)
         obtain⟨z0,z1,z2,z3,z4,z5,zf⟩:=(tV.out _ qj).OH
         have pD:=hdd qj
         clear qj c3
         refine dK rfl rfl (fun K hK=>?_)
         go_simp
         refine hK _ _ ?_
         clear hK K
         refine eY ?_
         obtain⟨V,hV⟩:=bQ ((((((W9.setCell ⟨qb,0,none⟩ (.int .i64 2)).setCell ⟨qb,1,none⟩ (.string p.s)).setCell ⟨qb,2,none⟩ (.int .i64 A6)).setCell ⟨qb,3,none⟩ (.int .i64 (A6+B9))).setCell ⟨qb,4,none⟩ (.int .i64 (aR j))).setCell ⟨qb,5,none⟩ (.int .i64 0))
         have wN:=hdd (show jU rb pb qb x p ⟨2,p.s,A6,A6+B9,aR j,0⟩ V by
          have h1:=tV.out _ pD.out
          rw [hV]
          exact⟨(bC h1.n1).trans h1.raw,(bC h1.n2).trans h1.pt,ig h1.ac,h1.n1,h1.n2⟩)
         have vp:=hdd (show ah w V by rw [hV];exact eZ (xQ.out _ pD.out) (by have:=HQ.out;omega) _ _ _ _ _ _)
         have vC:=hdd (show cp w.heap.size V (.slice so L.length sc) L by rw [hV];exact(HOW.out _ pD.out).block fun g hg=>bC (by have h1:=(HO.out.lt g hg).2;have:=HQ.out;have:=zY.out;omega))
         clear z0 z1 z2 z3 z4 z5 zf
         go_wp2_with fail
         go_meet
         rw [<-hV]
         exact hdd ⟨⟨2,p.s,A6,A6+B9,aR j,0⟩,wN.out,vp.out,vC.out,by unfold pB;rw [Bx.out,ar rfl,HP.out,KN.out,KL.out,KM.out,HJ.out];rfl⟩
       ·skip
        go_simp
        obtain⟨W9,je⟩:=bQ ((W3.alloc (.cells #[.int .i64 1, .int .i64 60, .int .i64 3600] 3)).drew)
        have c3:W9.cell? ⟨W3.heap.size,j,none⟩=some (.int .i64 (aR j)):=by rw [je];exact O1.out _ W3 rfl
        have qj:ah W3 W9:=by rw [je];exact((aJ _ _).alloc aI _).drew
        rw [<-je]
        refine hK _ _ (HS.out _ qj) ?_
        clear hK K je
        (repeat first|refine bP ?_|refine bO ?_)
        refine bz rfl rfl (fun K hK=>?_)
        go_simp
        (with_reducible refine(N8.out _).mono ?_)
        rintro e _ ⟨rfl,rfl⟩
        go_simp
        refine hK _ _ (HS.out _ qj) ?_
        clear hK K
        (repeat first|refine bP ?_|refine bO ?_)
        refine bz rfl rfl (fun K hK=>?_)
        go_simp
        (with_reducible refine(Hw.out _).mono ?_)
        rintro e _ ⟨rfl,rfl⟩
        go_simp
        refine hK _ _ (HS.out _ qj) ?_
        clear hK K
        (repeat first|refine bP ?_|refine bO ?_)
        refine bz rfl rfl (fun K hK=>?_)
        go_simp
        refine hK _ _ (HS.out _ qj) ?_
        clear hK K
        (repeat first|refine bP ?_|refine bO ?_)
        obtain⟨z0,z1,z2,z3,z4,z5,zf⟩:=(tV.out _ qj).OH
        have pD:=hdd qj
        clear qj c3
        refine dK rfl rfl (fun K hK=>?_)
        go_simp
        refine hK _ _ ?_
        clear hK K
        refine eY ?_
        obtain⟨V,hV⟩:=bQ ((((((W9.setCell ⟨qb,0,none⟩ (.int .i64 2)).setCell ⟨qb,1,none⟩ (.string p.s)).setCell ⟨qb,2,none⟩ (.int .i64 A6)).setCell ⟨qb,3,none⟩ (.int .i64 (A6+B9))).setCell ⟨qb,4,none⟩ (.int .i64 (aR j))).setCell ⟨qb,5,none⟩ (.int .i64 0))
        have wN:=hdd (show jU rb pb qb x p ⟨2,p.s,A6,A6+B9,aR j,0⟩ V by
         have h1:=tV.out _ pD.out
         rw [hV]
         exact⟨(bC h1.n1).trans h1.raw,(bC h1.n2).trans h1.pt,ig h1.ac,h1.n1,h1.n2⟩)
        have vp:=hdd (show ah w V by rw [hV];exact eZ (xQ.out _ pD.out) (by have:=HQ.out;omega) _ _ _ _ _ _)
        have vC:=hdd (show cp w.heap.size V (.slice so L.length sc) L by rw [hV];exact(HOW.out _ pD.out).block fun g hg=>bC (by have h1:=(HO.out.lt g hg).2;have:=HQ.out;have:=zY.out;omega))
        clear z0 z1 z2 z3 z4 z5 zf
        go_wp2_with fail
        go_meet
        rw [<-hV]
        exact hdd ⟨⟨2,p.s,A6,A6+B9,aR j,0⟩,wN.out,vp.out,vC.out,by unfold pB;rw [Bx.out,ar rfl,HP.out,KN.out,KL.out,KM.out,HJ.out];rfl⟩
      ·skip
       go_simp
       obtain⟨W9,je⟩:=bQ ((W3.alloc (.cells #[.int .i64 1, .int .i64 60, .int .i64 3600] 3)).drew)
       have c3:W9.cell? ⟨W3.heap.size,j,none⟩=some (.int .i64 (aR j)):=by rw [je];exact O1.out _ W3 rfl
       have qj:ah W3 W9:=by rw [je];exact((aJ _ _).alloc aI _).drew
       rw [<-je]
       refine hK _ _ (HS.out _ qj) ?_
       clear hK K je
       (repeat first|refine bP ?_|refine bO ?_)
       refine bz rfl rfl (fun K hK=>?_)
       go_simp
       (with_reducible refine(Hy.out _).mono ?_)
       rintro e _ ⟨rfl,rfl⟩
       go_simp
       refine hK _ _ (HS.out _ qj) ?_
       clear hK K
       (repeat first|refine bP ?_|refine bO ?_)
       refine bz rfl rfl (fun K hK=>?_)
       go_simp
       (with_reducible refine(N8.out _).mono ?_)
       rintro e _ ⟨rfl,rfl⟩
       go_simp
       refine hK _ _ (HS.out _ qj) ?_
       clear hK K
       (repeat first|refine bP ?_|refine bO ?_)
       refine bz rfl rfl (fun K hK=>?_)
       go_simp
       (with_reducible refine(Hw.out _).mono ?_)
       rintro e _ ⟨rfl,rfl⟩
       go_simp
       refine hK _ _ (HS.out _ qj) ?_
       clear hK K
       (repeat first|refine bP ?_|refine bO ?_)
       refine bz rfl rfl (fun K hK=>?_)
       go_simp
       refine hK _ _ (HS.out _ qj) ?_
       clear hK K
       (repeat first|refine bP ?_|refine bO ?_)
       obtain⟨z0,z1,z2,z3,z4,z5,zf⟩:=(tV.out _ qj).OH
       have pD:=hdd qj
       clear qj c3
       refine dK rfl rfl (fun K hK=>?_)
       go_simp
       refine hK _ _ ?_
       clear hK K
       refine eY ?_
       obtain⟨V,hV⟩:=bQ ((((((W9.setCell ⟨qb,0,none⟩ (.int .i64 2)).setCell ⟨qb,1,none⟩ (.string p.s)).setCell ⟨qb,2,none⟩ (.int .i64 A6)).setCell ⟨qb,3,none⟩ (.int .i64 (A6+B9))).setCell ⟨qb,4,none⟩ (.int .i64 (aR j))).setCell ⟨qb,5,none⟩ (.int .i64 0))
       have wN:=hdd (show jU rb pb qb x p ⟨2,p.s,A6,A6+B9,aR j,0⟩ V by
        have h1:=tV.out _ pD.out
        rw [hV]
        exact⟨(bC h1.n1).trans h1.raw,(bC h1.n2).trans h1.pt,ig h1.ac,h1.n1,h1.n2⟩)
       have vp:=hdd (show ah w V by rw [hV];exact eZ (xQ.out _ pD.out) (by have:=HQ.out;omega) _ _ _ _ _ _)
       have vC:=hdd (show cp w.heap.size V (.slice so L.length sc) L by rw [hV];exact(HOW.out _ pD.out).block fun g hg=>bC (by have h1:=(HO.out.lt g hg).2;have:=HQ.out;have:=zY.out;omega))
       clear z0 z1 z2 z3 z4 z5 zf
       go_wp2_with fail
       go_meet
       rw [<-hV]
       exact hdd ⟨⟨2,p.s,A6,A6+B9,aR j,0⟩,wN.out,vp.out,vC.out,by unfold pB;rw [Bx.out,ar rfl,HP.out,KN.out,KL.out,KM.out,HJ.out];rfl⟩
     ·skip
      go_simp
      obtain⟨W9,je⟩:=bQ ((W3.alloc (.cells #[.int .i64 1, .int .i64 60, .int .i64 3600] 3)).drew)
      have c3:W9.cell? ⟨W3.heap.size,j,none⟩=some (.int .i64 (aR j)):=by rw [je];exact O1.out _ W3 rfl
      have qj:ah W3 W9:=by rw [je];exact((aJ _ _).alloc aI _).drew
      rw [<-je]
      refine hK _ _ (HS.out _ qj) ?_
      clear hK K je
      (repeat first|refine bP ?_|refine bO ?_)
      refine bz rfl rfl (fun K hK=>?_)
      go_simp
      (with_reducible refine(Hy.out _).mono ?_)
      rintro e _ ⟨rfl,rfl⟩
      go_simp
      refine hK _ _ (HS.out _ qj) ?_
      clear hK K
      (repeat first|refine bP ?_|refine bO ?_)
      refine bz rfl rfl (fun K hK=>?_)
      go_simp
      (with_reducible refine(Hy.out _).mono ?_)
      rintro e _ ⟨rfl,rfl⟩
      go_simp
      refine hK _ _ (HS.out _ qj) ?_
      clear hK K
      (repeat first|refine bP ?_|refine bO ?_)
      refine bz rfl rfl (fun K hK=>?_)
      go_simp
      (with_reducible refine(N8.out _).mono ?_)
      rintro e _ ⟨rfl,rfl⟩
      go_simp
      refine hK _ _ (HS.out _ qj) ?_
      clear hK K
      (repeat first|refine bP ?_|refine bO ?_)
      refine bz rfl rfl (fun K hK=>?_)
      go_simp
      (with_reducible refine(Hw.out _).mono ?_)
      rintro e _ ⟨rfl,rfl⟩
      go_simp
      refine hK _ _ (HS.out _ qj) ?_
      clear hK K
      (repeat first|refine bP ?_|refine bO ?_)
      refine bz rfl rfl (fun K hK=>?_)
      go_simp
      refine hK _ _ (HS.out _ qj) ?_
      clear hK K
      (repeat first|refine bP ?_|refine bO ?_)
      obtain⟨z0,z1,z2,z3,z4,z5,zf⟩:=(tV.out _ qj).OH
      have pD:=hdd qj
      clear qj c3
      refine dK rfl rfl (fun K hK=>?_)
      go_simp
      refine hK _ _ ?_
      clear hK K
      refine eY ?_
      obtain⟨V,hV⟩:=bQ ((((((W9.setCell ⟨qb,0,none⟩ (.int .i64 2)).setCell ⟨qb,1,none⟩ (.string p.s)).setCell ⟨qb,2,none⟩ (.int .i64 A6)).setCell ⟨qb,3,none⟩ (.int .i64 (A6+B9))).setCell ⟨qb,4,none⟩ (.int .i64 (aR j))).setCell ⟨qb,5,none⟩ (.int .i64 0))
      have wN:=hdd (show jU rb pb qb x p ⟨2,p.s,A6,A6+B9,aR j,0⟩ V by
       have h1:=tV.out _ pD.out
       rw [hV]
       exact⟨(bC h1.n1).trans h1.raw,(bC h1.n2).trans h1.pt,ig h1.ac,h1.n1,h1.n2⟩)
      have vp:=hdd (show ah w V by rw [hV];exact eZ (xQ.out _ pD.out) (by have:=HQ.out;omega) _ _ _ _ _ _)
      have vC:=hdd (show cp w.heap.size V (.slice so L.length sc) L by rw [hV];exact(HOW.out _ pD.out).block fun g hg=>bC (by have h1:=(HO.out.lt g hg).2;have:=HQ.out;have:=zY.out;omega))
      clear z0 z1 z2 z3 z4 z5 zf
      go_wp2_with fail
      go_meet
      rw [<-hV]
      exact hdd ⟨⟨2,p.s,A6,A6+B9,aR j,0⟩,wN.out,vp.out,vC.out,by unfold pB;rw [Bx.out,ar rfl,HP.out,KN.out,KL.out,KM.out,HJ.out];rfl⟩
    by_cases zl:K<3
    ·skip
     have d0:(K == 0)=false:=by simpa using ie
     have d12:decide (K<3)=true:=by simpa using zl
     have HD:=hdd (aM ie zl)
     clear ie zl Rk VB ZI ZH ZG Jb y1' Yy
     go_upto_region 12 with (fail)
     refine eI [(0,1),(1,0),(2,1),(3,0),(5,1),(6,0),(8,1),(9,0),(4,2),(7,2),(10,2),(11,1),(12,1),(13,3)] 13 (fun W=>W.cell? ⟨rb,0,none⟩=some (.int .i64 x.k)/\W.cell? ⟨rb,1,none⟩=some (.int .i64 x.a)/\W.cell? ⟨rb,2,none⟩=some (.int .i64 x.b)/\W.cell? ⟨rb,3,none⟩=some (.int .i64 x.c)/\W.cell? ⟨pb,0,none⟩=some (.string p.s)/\W.cell? ⟨pb,1,none⟩=some (.int .i64 p.t)/\W.cell? ⟨pb,2,none⟩=some (.int .i64 p.v)) cy cy (HS.out _ QH) ?_
     (simp only [bF,List.filterMap_cons,List.filterMap_nil,List.getElem?_cons_zero,List.getElem?_cons_succ,Option.map_some])
     (repeat first|refine bg ?_|refine aZ ?_)
     refine aS rfl (fun K hK=>?_)
     go_simp
     (with_reducible refine(Hy.out _).mono ?_)
     rintro e _ ⟨rfl,rfl⟩
     go_simp
     refine hK _ _ (HS.out _ QH) ?_
     clear hK K
     (repeat first|refine bg ?_|refine aZ ?_)
     refine aS rfl (fun K hK=>?_)
     go_simp
     (with_reducible refine(Hy.out _).mono ?_)
     rintro e _ ⟨rfl,rfl⟩
     go_simp
     refine hK _ _ (HS.out _ QH) ?_
     clear hK K
     (repeat first|refine bg ?_|refine aZ ?_)
     refine aS rfl (fun K hK=>?_)
     go_simp
     (with_reducible refine(N8.out _).mono ?_)
     rintro e _ ⟨rfl,rfl⟩
     go_simp
     refine hK _ _ (HS.out _ QH) ?_
     clear hK K
     (repeat first|refine bg ?_|refine aZ ?_)
     refine bp rfl (fun K hK=>?_)
     go_simp
     refine hK _ _ ?_
     clear hK K
     refine cv ?_
     obtain⟨W9,je⟩:=bQ (W3)
     have pD:=hdd (show ah W3 W9 by rw [je];exact aJ _ _)
     rw [<-je]
     clear je
     obtain⟨V,hV⟩:=bQ ((((((W9.setCell ⟨qb,0,none⟩ (.int .i64 3)).setCell ⟨qb,1,none⟩ (.string p.s)).setCell ⟨qb,2,none⟩ (.int .i64 A6)).setCell ⟨qb,3,none⟩ (.int .i64 (A6+B9))).setCell ⟨qb,4,none⟩ (.int .i64 0)).setCell ⟨qb,5,none⟩ (.int .i64 0))
     have wN:=hdd (show jU rb pb qb x p ⟨3,p.s,A6,A6+B9,0,0⟩ V by
      have h1:=tV.out _ pD.out
      rw [hV]
      exact⟨(bC h1.n1).trans h1.raw,(bC h1.n2).trans h1.pt,ig h1.ac,h1.n1,h1.n2⟩)
     have vp:=hdd (show ah w V by rw [hV];exact eZ (xQ.out _ pD.out) (by have:=HQ.out;omega) _ _ _ _ _ _)
     have vC:=hdd (show cp w.heap.size V (.slice so L.length sc) L by rw [hV];exact(HOW.out _ pD.out).block fun g hg=>bC (by have h1:=(HO.out.lt g hg).2;have:=HQ.out;have:=zY.out;omega))
     clear z0 z1 z2 z3 z4 z5 zf
     go_wp2_with fail
     go_meet
     rw [<-hV]
     exact hdd ⟨⟨3,p.s,A6,A6+B9,0,0⟩,wN.out.below ((aJ _ _).drew),vp.out.drew,vC.out.block fun _ _=>rfl,by unfold pB;rw [Bx.out,ai HD.out.1,ar HD.out.2,HP.out,KN.out,KL.out]⟩
    have d0:(K == 0)=false:=by simpa using ie
    have d12:decide (K<3)=false:=by simpa using zl
    obtain⟨W9,je⟩:=bQ (W3)
    have pD:=hdd (show ah W3 W9 by rw [je];exact aJ _ _)
    by_cases hk3:K=3
    ·subst hk3
     by_cases h4:A4=0
     ·skip
      have d4:(A4 == 0)=true:=by simp [h4]
      have hw3:IntKind.i64.wrap (3600*B3)=3600*B3:=IntWalk.i64_in _ (by have:=Ul.out;omega)
      have H4:=hdd h4
      clear h4 Rk ie zl
      go_wp2_with (first|(go_at_call 29;(with_reducible refine(Ya.out _).mono ?_);rintro e _ ⟨rfl,rfl⟩)|(go_at_call 29;(with_reducible refine(Hw.out _).mono ?_);rintro e _ ⟨rfl,rfl⟩))
      rw [<-je]
      clear je
      obtain⟨V,hV⟩:=bQ ((((((W9.setCell ⟨qb,0,none⟩ (.int .i64 4)).setCell ⟨qb,1,none⟩ (.string ⟨#[]⟩)).setCell ⟨qb,2,none⟩ (.int .i64 (3600*B3))).setCell ⟨qb,3,none⟩ (.int .i64 0)).setCell ⟨qb,4,none⟩ (.int .i64 0)).setCell ⟨qb,5,none⟩ (.int .i64 0))
      have wN:=hdd (show jU rb pb qb x p ⟨4,ByteArray.empty,3600*B3,0,0,0⟩ V by
       have h1:=tV.out _ pD.out
       rw [hV]
       exact⟨(bC h1.n1).trans h1.raw,(bC h1.n2).trans h1.pt,ig h1.ac,h1.n1,h1.n2⟩)
      have vp:=hdd (show ah w V by rw [hV];exact eZ (xQ.out _ pD.out) (by have:=HQ.out;omega) _ _ _ _ _ _)
      have vC:=hdd (show cp w.heap.size V (.slice so L.length sc) L by rw [hV];exact(HOW.out _ pD.out).block fun g hg=>bC (by have h1:=(HO.out.lt g hg).2;have:=HQ.out;have:=zY.out;omega))
      clear z0 z1 z2 z3 z4 z5 zf
      go_meet
      rw [<-hV]
      exact hdd ⟨⟨4,ByteArray.empty,3600*B3,0,0,0⟩,wN.out,vp.out,vC.out,by unfold pB;rw [Bx.out,ai aW,ai aW,Yn.out,ar ⟨rfl,H4.out⟩,KM.out]⟩
     ·skip
      have d4:(A4 == 0)=false:=by simpa using h4
      have H4:=hdd h4
      clear h4 Rk ie zl je
      go_wp2_with (go_at_call 29;(with_reducible refine(Ya.out _).mono ?_);rintro e _ ⟨rfl,rfl⟩)
      have wN:=hdd (tV.out W3 (aJ _ _))
      have vp:=hdd (xQ.out W3 (aJ _ _))
      have vC:=hdd (HOW.out W3 (aJ _ _))
      clear z0 z1 z2 z3 z4 z5 zf
      go_meet
      exact hdd ⟨⟨1,p.s,p.t,0,0,p.v⟩,wN.out,vp.out,vC.out,by unfold pB;rw [Bx.out,ai aW,ai aW,Yn.out,ai (fun hn=>H4.out hn.2),ai aW,ai (fun hn=>by have:=hn.1;omega),HP.out]⟩
    by_cases hk4:K=4
    ·subst hk4
     clear Rk ie zl hk3
     go_wp2_with (fail)
     rw [<-je]
     clear je
     obtain⟨V,hV⟩:=bQ ((((((W9.setCell ⟨qb,0,none⟩ (.int .i64 5)).setCell ⟨qb,1,none⟩ (.string ⟨#[]⟩)).setCell ⟨qb,2,none⟩ (.int .i64 0)).setCell ⟨qb,3,none⟩ (.int .i64 0)).setCell ⟨qb,4,none⟩ (.int .i64 0)).setCell ⟨qb,5,none⟩ (.int .i64 0))
     have wN:=hdd (show jU rb pb qb x p ⟨5,ByteArray.empty,0,0,0,0⟩ V by
      have h1:=tV.out _ pD.out
      rw [hV]
      exact⟨(bC h1.n1).trans h1.raw,(bC h1.n2).trans h1.pt,ig h1.ac,h1.n1,h1.n2⟩)
     have vp:=hdd (show ah w V by rw [hV];exact eZ (xQ.out _ pD.out) (by have:=HQ.out;omega) _ _ _ _ _ _)
     have vC:=hdd (show cp w.heap.size V (.slice so L.length sc) L by rw [hV];exact(HOW.out _ pD.out).block fun g hg=>bC (by have h1:=(HO.out.lt g hg).2;have:=HQ.out;have:=zY.out;omega))
     clear z0 z1 z2 z3 z4 z5 zf
     go_meet
     rw [<-hV]
     exact hdd ⟨⟨5,ByteArray.empty,0,0,0,0⟩,wN.out,vp.out,vC.out,by unfold pB;rw [Bx.out,ai aW,ai aW,ai (fun hn=>by have:=hn.1;omega),ar rfl]⟩
    by_cases YT:K=5
    ·subst YT
     by_cases h3:A3=0
     ·skip
      have d3:(A3 == 0)=true:=by simp [h3]
      have H3:=hdd h3
      clear h3 Rk ie zl hk3 hk4
      go_wp2_with (go_at_call 29;(with_reducible refine(Yb.out _).mono ?_);rintro e _ ⟨rfl,rfl⟩)
      rw [<-je]
      clear je
      obtain⟨V,hV⟩:=bQ ((((((W9.setCell ⟨qb,0,none⟩ (.int .i64 6)).setCell ⟨qb,1,none⟩ (.string ⟨#[]⟩)).setCell ⟨qb,2,none⟩ (.int .i64 0)).setCell ⟨qb,3,none⟩ (.int .i64 0)).setCell ⟨qb,4,none⟩ (.int .i64 0)).setCell ⟨qb,5,none⟩ (.int .i64 0))
      have wN:=hdd (show jU rb pb qb x p ⟨6,ByteArray.empty,0,0,0,0⟩ V by
       have h1:=tV.out _ pD.out
       rw [hV]
       exact⟨(bC h1.n1).trans h1.raw,(bC h1.n2).trans h1.pt,ig h1.ac,h1.n1,h1.n2⟩)
      have vp:=hdd (show ah w V by rw [hV];exact eZ (xQ.out _ pD.out) (by have:=HQ.out;omega) _ _ _ _ _ _)
      have vC:=hdd (show cp w.heap.size V (.slice so L.length sc) L by rw [hV];exact(HOW.out _ pD.out).block fun g hg=>bC (by have h1:=(HO.out.lt g hg).2;have:=HQ.out;have:=zY.out;omega))
      clear z0 z1 z2 z3 z4 z5 zf
      go_meet
      rw [<-hV]
      exact hdd ⟨⟨6,ByteArray.empty,0,0,0,0⟩,wN.out,vp.out,vC.out,by unfold pB;rw [Bx.out,ai aW,ai aW,ai (fun hn=>by have:=hn.1;omega),ai aW,Yo.out,ar ⟨rfl,H3.out⟩]⟩
     ·skip
      have d3:(A3 == 0)=false:=by simpa using h3
      have H3:=hdd h3
      clear h3 Rk ie zl hk3 hk4 je
      go_wp2_with (go_at_call 29;(with_reducible refine(Yb.out _).mono ?_);rintro e _ ⟨rfl,rfl⟩)
      have wN:=hdd (tV.out W3 (aJ _ _))
      have vp:=hdd (xQ.out W3 (aJ _ _))
      have vC:=hdd (HOW.out W3 (aJ _ _))
      clear z0 z1 z2 z3 z4 z5 zf
      go_meet
      exact hdd ⟨⟨1,p.s,p.t,0,0,p.v⟩,wN.out,vp.out,vC.out,by unfold pB;rw [Bx.out,ai aW,ai aW,ai (fun hn=>by have:=hn.1;omega),ai aW,Yo.out,ai (fun hn=>H3.out hn.2),HP.out]⟩
    have d3:(K == 3)=false:=by simpa using hk3
    have d4:(K == 4)=false:=by simpa using hk4
    have d5:(K == 5)=false:=by simpa using YT
    have HN:=hdd (aM ie (aM zl (aM hk3 (aM hk4 YT))))
    clear Rk ie zl hk3 hk4 YT je
    go_wp2_with (fail)
    have wN:=hdd (tV.out W3 (aJ _ _))
    have vp:=hdd (xQ.out W3 (aJ _ _))
    have vC:=hdd (HOW.out W3 (aJ _ _))
    clear z0 z1 z2 z3 z4 z5 zf
    go_meet
    exact hdd ⟨⟨1,p.s,p.t,0,0,p.v⟩,wN.out,vp.out,vC.out,by unfold pB;rw [Bx.out,ai HN.out.1,ai (by have:=HN.out.2.1;omega),ai (fun hn=>HN.out.2.2.1 hn.1),ai HN.out.2.2.2.1,ai (fun hn=>HN.out.2.2.2.2 hn.1),HP.out]⟩
   case rest=>
    obtain⟨a,hra,Oj,HOA,haa⟩:=hcut.out
    obtain⟨q0,q1,q2,q3,q4,q5,-⟩:=hra.OH
    have HAC:=hdd haa
    have vp:=hdd Oj
    have vC:=hdd HOA
    clear hra Oj HOA haa hcut
    go_wp2_with (at_builtin;refine ua rfl (.tmp 104) (.tmp 106) rfl w.heap.size _ L rfl (vC.out.alloc _) ⟨_,0,none⟩ a rfl (fun j u h=>QJ h) (by have:=Oe.out;omega) (by have h1:=vp.out.size;simp;omega) ?_;intro v5 w5 Po Tb UX)
    go_roundg (min xs.length most-(k+1))
    case measure=>omega
    case rel=>exact⟨k+1,af,rfl,by go_num,by rw [Bv.out,HAC.out];exact Po,Below.grown (vp.out.alloc vp.out.size _) Tb (by have h1:=vp.out.size;simp;omega) (fun j hj=>(vC.out.lt j hj).1)⟩
  ·have hcond:¬(k<xs.length/\k<most):=hlt
   have HE:=hdd (show jT xs k=jT xs most by unfold jT;congr 1;rw [List.take_eq_take_iff];omega)
   by_cases h1:k<xs.length
   ·have h3:(k:Int)<(xs.length:Int):=af
    have h4:¬(k:Int)<(most:Int):=af
    clear hcond hlt h1 a5 hlk
    go_wp2_with fail
    go_ret
    exact⟨hb,so,sc,by rw [<-HE.out];rfl,by rw [<-HE.out];exact ho⟩
   ·have h3:¬(k:Int)<(xs.length:Int):=af
    clear hcond hlt h1 a5 hlk
    go_wp2_with fail
    go_ret
    exact⟨hb,so,sc,by rw [<-HE.out];rfl,by rw [<-HE.out];exact ho⟩
end Go.Proofs.YtmljjfhgciaceaaDoor
