import Derived.Test.YtmljjfhgciaceaaDoorHd
import Derived.Test.YtmljjfhgciaceaaDoorEG
import Derived.Test.YtmljjfhgciaceaaDoorSO
import Derived.Test.YtmljjfhgciaceaaDoorKT
import Derived.Deep.CutBlock
namespace Go.Proofs.YtmljjfhgciaceaaDoor
open Go.RowKit
set_option maxRecDepth 100000
set_option maxHeartbeats 4000000
variable {xs:List Rw} {most B:Nat} {v0 v1 v2 v3 v4 v5:Value} {w:World}
def jh (xs:List Rw) (most:Nat):List Ac:=(xs.take most).map pz
theorem acH:∀a∈jh xs most,AA a:=fun a ha=>by
 obtain⟨r,-,rfl⟩:=wN.1 ha
 exact KN r
structure jY (rb pb qb:Nat) (x:Rw) (p:C9) (a:Ac) (W:World):Prop where
 raw:W.heap[rb]?=some (.cells #[.int .i64 x.k, .int .i64 x.a, .int .i64 x.b, .int .i64 x.c] 75)
 pt:W.heap[pb]?=some (.cells #[.string p.s, .int .i64 p.t, .int .i64 p.v] 59)
 ac:W.heap[qb]?=some (.cells #[.int .i64 a.k, .string a.s, .int .i64 a.t, .int .i64 a.z, .int .i64 a.sz, .int .i64 a.v] 26)
 n1:rb≠qb
 n2:pb≠qb
section
variable {rb pb qb:Nat} {x:Rw} {p:C9} {a:Ac} {W W':World}
theorem jY.VG (h:jY rb pb qb x p a W):W.cell? ⟨rb,0,none⟩=some (.int .i64 x.k)/\W.cell? ⟨rb,1,none⟩=some (.int .i64 x.a)/\W.cell? ⟨rb,2,none⟩=some (.int .i64 x.b)/\W.cell? ⟨rb,3,none⟩=some (.int .i64 x.c):=by
 have h1:=h.raw
 simp [World.cell?,h1]
theorem jY.ptC (h:jY rb pb qb x p a W):W.cell? ⟨pb,0,none⟩=some (.string p.s)/\W.cell? ⟨pb,1,none⟩=some (.int .i64 p.t)/\W.cell? ⟨pb,2,none⟩=some (.int .i64 p.v):=by
 have h1:=h.pt
 simp [World.cell?,h1]
theorem jY.OE (h:jY rb pb qb x p a W):W.cell? ⟨qb,0,none⟩=some (.int .i64 a.k)/\W.cell? ⟨qb,1,none⟩=some (.string a.s)/\W.cell? ⟨qb,2,none⟩=some (.int .i64 a.t)/\W.cell? ⟨qb,3,none⟩=some (.int .i64 a.z)/\W.cell? ⟨qb,4,none⟩=some (.int .i64 a.sz)/\W.cell? ⟨qb,5,none⟩=some (.int .i64 a.v)/\∀o,W.frozen? ⟨qb,o,none⟩=false:=by
 have h1:=h.ac
 simp [World.cell?,World.frozen?,h1]
theorem jY.below (h:jY rb pb qb x p a W) (hb:ah W W'):jY rb pb qb x p a W':=
 ⟨(hb.block _ (eI.1 h.raw).1).trans h.raw,(hb.block _ (eI.1 h.pt).1).trans h.pt,(hb.block _ (eI.1 h.ac).1).trans h.ac,h.n1,h.n2⟩
theorem ic {a0 a1 a2 a3 a4 a5:Value} {e:TypeId} {fr:Nat×Nat} (h:w.heap[B]?=some (.cells #[a0,a1,a2,a3,a4,a5] e fr)) :
  ((((((w.setCell ⟨B,0,none⟩ v0).setCell ⟨B,1,none⟩ v1).setCell ⟨B,2,none⟩ v2).setCell ⟨B,3,none⟩ v3).setCell ⟨B,4,none⟩ v4).setCell ⟨B,5,none⟩ v5).heap[B]?=some (.cells #[v0,v1,v2,v3,v4,v5] e fr):=LI h
theorem bF {b:Nat} (h:b≠B):((((((w.setCell ⟨B,0,none⟩ v0).setCell ⟨B,1,none⟩ v1).setCell ⟨B,2,none⟩ v2).setCell ⟨B,3,none⟩ v3).setCell ⟨B,4,none⟩ v4).setCell ⟨B,5,none⟩ v5).heap[b]?=w.heap[b]?:=by
 rw [heap_setCell_other _ ⟨B,_,none⟩ b _ h,heap_setCell_other _ ⟨B,_,none⟩ b _ h,heap_setCell_other _ ⟨B,_,none⟩ b _ h,heap_setCell_other _ ⟨B,_,none⟩ b _ h,heap_setCell_other _ ⟨B,_,none⟩ b _ h,heap_setCell_other _ ⟨B,_,none⟩ b _ h]
theorem gj {xb:Nat} {w0:World} (h:Below B w w0) (hx:B<=xb) (v0 v1 v2 v3 v4 v5:Value):Below B w ((((((w0.setCell ⟨xb,0,none⟩ v0).setCell ⟨xb,1,none⟩ v1).setCell ⟨xb,2,none⟩ v2).setCell ⟨xb,3,none⟩ v3).setCell ⟨xb,4,none⟩ v4).setCell ⟨xb,5,none⟩ v5):=
 (((((h.setCell hx _).setCell hx _).setCell hx _).setCell hx _).setCell hx _).setCell hx _
end
theorem vg {v:Value} (h:Ar w v xs) (hx:∀a∈xs,a.ok) (hm:most<=100) :
  Calls Tryd.prog 12 #[v, .int .i64 most] w fun e w'=>ah w w'/\∃ao c,e = .returned (.slice ao (jh xs most).length c)/\bN w.heap.size w' (.slice ao (jh xs most).length c) (jh xs most):=by
 obtain⟨ao,cap,rfl,a1,a2,a3,a4,a5⟩:=h
 go_enter Tryd.func12,Tryd.ntmps12
 go_wp2_with fail
 go_loopg [5,6] (min xs.length most) (fun g ov i wr=>∃k:Nat,k<=min xs.length most/\g=min xs.length most-k/\i = .int .i64 k/\bN w.heap.size wr ov (jh xs k)/\ah w wr)
 case atStart=>exact⟨0,jd _,rfl,rfl,bN.nil _ _,aI _ _⟩
 case round=>
  obtain⟨k,hk,rfl,rfl,ho,hb⟩:=hrel
  obtain⟨so,sc,rfl⟩:=ho.isSlice
  have hlk:(jh xs k).length=k:=by unfold jh;rw [oJ,eP];omega
  have hsz:=hb.size
  by_cases hlt:k<xs.length/\k<most
  ·obtain⟨GX,jJ⟩:=hlt
   have zJ:(k:Int)<(xs.length:Int):=af
   have afY:(k:Int)<(most:Int):=af
   obtain⟨ab,aV,rfl,sO,ac⟩:=a5 af
   obtain⟨c0,c1,c2,c3⟩:=LC hb sO ac GX
   have PJ:=hx xs[k] (fP GX)
   have htk:jh xs (k+1)=jh xs k++[pz xs[k]]:=by unfold jh;rw [kK GX,Ap];rfl
   obtain⟨x,hxk⟩:=bt (xs[k])
   rw [hxk]at c0 c1 c2 c3 PJ htk
   obtain⟨p,hp⟩:=bt (ku x)
   have HPT:=hdd fun W=>JE (w:=W) PJ hp
   have HP:=hdd hp
   have OH:=hdd PJ
   have sS:=hdd htk
   have jS:=fun w'=>PD (ab:=ab) (aV:=aV) (n:=xs.length) (cap:=cap) (show (k:Int)=((k:Nat):Int) by rfl) GX w'
   have HK:=hdd (cU (n:=x.c) (m:=16) aW)
   obtain⟨K,hK⟩:=bt (picked x.c 16)
   have HPK:=hdd fun W=>iL x.c 16 W PJ.2.2.2.1 PJ.2.2.2.2 aW aW
   rw [hK]at HPK HK
   have Cb:=hdd hK
   have HO:=hdd ho
   have Od:=hdd hlk
   obtain⟨L,hL⟩:=bt (jh xs k)
   rw [hL]at HO sS Od ⊢
   clear PJ hxk htk hp hK ac a5 ho hlk hL
   go_upto_region 6 with (fail)
   obtain⟨W1,hW1⟩:=bP (wr.alloc (.cells #[.int .i64 x.k, .int .i64 x.a, .int .i64 x.b, .int .i64 x.c] 75))
   have hb1:ah wr W1:=by rw [hW1];exact ag
   have k1:W1.heap[wr.heap.size]?=some (.cells #[.int .i64 x.k, .int .i64 x.a, .int .i64 x.b, .int .i64 x.c] 75):=by rw [hW1];exact aj _ _ rfl
   have hz1:W1.heap.size=wr.heap.size+1:=by rw [hW1];simp
   obtain⟨x0,x1,x2,x3⟩:W1.cell? ⟨wr.heap.size,0,none⟩=some (.int .i64 x.k)/\W1.cell? ⟨wr.heap.size,1,none⟩=some (.int .i64 x.a)/\W1.cell? ⟨wr.heap.size,2,none⟩=some (.int .i64 x.b)/\W1.cell? ⟨wr.heap.size,3,none⟩=some (.int .i64 x.c):=by simp [World.cell?,k1]
   have OG:=hdd hz1
   rw [<-hW1]
   clear hW1 hz1 c0 c1 c2 c3 jS
   go_upto_region 7 with (go_at_call 33;(with_reducible refine(HPT.out _).mono ?_);rintro e w2 ⟨rfl,hb2⟩)
   obtain⟨W2,hW2⟩:=bP (w2.alloc (.cells #[.string p.s, .int .i64 p.t, .int .i64 p.v] 59))
   have wj:ah w2 W2:=by rw [hW2];exact ag
   have k2:W2.heap[w2.heap.size]?=some (.cells #[.string p.s, .int .i64 p.t, .int .i64 p.v] 59):=by rw [hW2];exact aj _ _ rfl
   have hz2:W2.heap.size=w2.heap.size+1:=by rw [hW2];simp
   have hs2:=hb2.size
   obtain⟨y0,y1,y2⟩:W2.cell? ⟨w2.heap.size,0,none⟩=some (.string p.s)/\W2.cell? ⟨w2.heap.size,1,none⟩=some (.int .i64 p.t)/\W2.cell? ⟨w2.heap.size,2,none⟩=some (.int .i64 p.v):=by simp [World.cell?,k2]
   have Fk:=hdd hz2
   rw [<-hW2]
   clear hW2 hz2
   go_upto_region 8 with (fail)
   obtain⟨W3,hW3⟩:=bP (W2.alloc (.cells #[.int .i64 1, .string p.s, .int .i64 p.t, .int .i64 0, .int .i64 0, .int .i64 p.v] 26))
   have hb3:ah W2 W3:=by rw [hW3];exact ag
   have k3:W3.heap[W2.heap.size]?=some (.cells #[.int .i64 1, .string p.s, .int .i64 p.t, .int .i64 0, .int .i64 0, .int .i64 p.v] 26):=by rw [hW3];exact aj _ _ rfl
   have hz3:W3.heap.size=W2.heap.size+1:=by rw [hW3];simp
   have hz1:=OG.out
   have hz2:=Fk.out
   have G6:ah wr W2:=Below.trans' hb1 (Below.trans' hb2 wj hs2) hb1.size
   have hbr:ah wr W3:=Below.trans' G6 hb3 G6.size
   have hR:jY wr.heap.size w2.heap.size W2.heap.size x p ⟨1,p.s,p.t,0,0,p.v⟩ W3:=
    ⟨(hb3.block _ af).trans ((wj.block _ af).trans ((hb2.block _ af).trans k1)),(hb3.block _ af).trans k2,k3,af,af⟩
   have vF:=hdd fun W (cZ:ah W3 W)=>hR.below cZ
   have vp:=hdd fun W (cZ:ah W3 W)=>(Below.trans' hb (Below.trans' hbr cZ hbr.size) hsz:ah w W)
   have HOW:=hdd fun W (cZ:ah W3 W)=>HO.out.below (Below.trans' hbr cZ hbr.size) aH
   have HQ:=hdd (show w.heap.size<=wr.heap.size/\wr.heap.size<W2.heap.size/\W2.heap.size<W3.heap.size by omega)
   obtain⟨VA,ZC,ZB,ZA⟩:=hR.VG
   obtain⟨Jn,Yv,Yu⟩:=hR.ptC
   obtain⟨z0,z1,z2,z3,z4,z5,zf⟩:=hR.OE
   rw [<-hW3]
   obtain⟨rb,IX⟩:=bt (wr.heap.size)
   obtain⟨pb,hpb⟩:=bt (w2.heap.size)
   obtain⟨qb,Ov⟩:=bt (W2.heap.size)
   rw [IX,hpb,Ov]at vF
   rw [IX]at VA ZC ZB ZA ⊢
   rw [hpb]at Jn Yv Yu ⊢
   rw [Ov]at z0 z1 z2 z3 z4 z5 zf ⊢
   rw [IX,Ov]at HQ
   have HZR:=IX
   clear hW3 hb1 hb2 wj k1 k2 k3 hz1 hz2 hz3 hs2 hb3 G6 hbr hR x0 x1 x2 x3 y0 y1 y2 IX hpb Ov hb hsz
   have AB:=hdd HZR
   clear HZR
   go_upto_block 2 with (go_at_call 29;(with_reducible refine(HPK.out _).mono ?_);rintro e w4 ⟨rfl,rfl⟩)
   go_cut []from 38 to 103 (fun wx=>Hid (∃a,jY rb pb qb x p a wx/\ah w wx/\bN w.heap.size wx (.slice so L.length sc) L/\pz x=a))
   case first=>
    have SB:=cU (n:=x.a) (m:=6000) aW
    obtain⟨A6,hA6⟩:=bt (picked x.a 6000)
    have SG:=fun W=>iL x.a 6000 W OH.out.2.1.1 OH.out.2.1.2 aW aW
    rw [hA6]at SG SB
    have Ii:=hdd SG
    have KZ:=hdd hA6
    have ac5:=hdd SB
    clear SB hA6 SG
    have Sy:=cU (n:=x.b) (m:=9000) aW
    obtain⟨B9,TP⟩:=bt (picked x.b 9000)
    have SE:=fun W=>iL x.b 9000 W OH.out.2.2.1.1 OH.out.2.2.1.2 aW aW
    rw [TP]at SE Sy
    have N8:=hdd SE
    have KW:=hdd TP
    have ac4:=hdd Sy
    clear Sy TP SE
    have Sz:=cU (n:=x.b) (m:=3) aW
    obtain⟨B3,Xx⟩:=bt (picked x.b 3)
    have SF:=fun W=>iL x.b 3 W OH.out.2.2.1.1 OH.out.2.2.1.2 aW aW
    rw [Xx]at SF Sz
    have Ih:=hdd SF
    have KY:=hdd Xx
    have Uo:=hdd Sz
    clear Sz Xx SF
    have SC:=cU (n:=x.a) (m:=4) aW
    obtain⟨A4,Vh⟩:=bt (picked x.a 4)
    have SH:=fun W=>iL x.a 4 W OH.out.2.1.1 OH.out.2.1.2 aW aW
    rw [Vh]at SH SC
    have XV:=hdd SH
    have Ye:=hdd Vh
    have ahv:=hdd SC
    clear SC Vh SH
    have SD:=cU (n:=x.a) (m:=3) aW
    obtain⟨A3,Vi⟩:=bt (picked x.a 3)
    have SI:=fun W=>iL x.a 3 W OH.out.2.1.1 OH.out.2.1.2 aW aW
    rw [Vi]at SI SD
    have XW:=hdd SI
    have Yf:=hdd Vi
    have ahw:=hdd SD
    clear SD Vi SI
    have QI:ah W3 W3.drew:=(aI _ _).drew
    have HS:=hdd fun W (cZ:ah W3 W)=>(by
     obtain⟨x0,x1,x2,x3⟩:=(vF.out W cZ).VG
     obtain⟨y0,y1,y2⟩:=(vF.out W cZ).ptC
     exact⟨x0,x1,x2,x3,y0,y1,y2⟩:W.cell? ⟨rb,0,none⟩=some (.int .i64 x.k)/\W.cell? ⟨rb,1,none⟩=some (.int .i64 x.a)/\W.cell? ⟨rb,2,none⟩=some (.int .i64 x.b)/\W.cell? ⟨rb,3,none⟩=some (.int .i64 x.c)/\W.cell? ⟨pb,0,none⟩=some (.string p.s)/\W.cell? ⟨pb,1,none⟩=some (.int .i64 p.t)/\W.cell? ⟨pb,2,none⟩=some (.int .i64 p.v))
    have hwr:IntKind.i64.wrap (A6+B9)=A6+B9:=IntWalk.i64_in _ (by have:=ac5.out;have:=ac4.out;omega)
    have Rp:=HK.out
    by_cases im:K=0
    ·subst im
     obtain⟨j,hj⟩:∃j:Nat,B3=j:=⟨B3.toNat,by have:=Uo.out;omega⟩
     have hj3:j<3:=by have:=Uo.out;omega
     have HJ:=hdd hj
     rw [hj]at Ih
     clear hj Rp
     have hx3:=fun(g cap:Nat) w'=>(by have h1:=lQ (ab:=g) (aV:=0) (n:=3) (cap:=cap) (show (j:Int)=((j:Nat):Int) by rfl) hj3 w';rw [iW]at h1;exact h1:(Instr.indexAt 82 (.slice (some ⟨g,0,none⟩) 3 cap) (.int .i64 (j:Int))).run Tryd.prog w' = .ok (.pointer (some ⟨g,j,none⟩)) w')
     have hc3:∀(g:Nat) (W:World),g=W.heap.size->(W.alloc (.cells #[.int .i64 1, .int .i64 60, .int .i64 3600] 3)).cell? ⟨g,j,none⟩=some (.int .i64 (aQ j)):=fun g W hg=>by
      have k:=aj W (.cells #[.int .i64 1, .int .i64 60, .int .i64 3600] 3) hg
      obtain rfl|rfl|rfl:j=0\/j=1\/j=2:=af
      all_goals simp [World.cell?,k,aQ]
     have O0:=hdd hc3
     clear hc3 VA ZC ZB ZA Jn Yv Yu
     go_upto_region 10 with (fail)
     refine fD (mo.of [(0,1),(1,0),(2,1),(3,0),(5,1),(6,0),(8,1),(9,0),(13,1),(14,0)] (.fork 4 12 (.fork 7 12 (.fork 10 12 (mo.of [(11,1)] (.fork 12 15 (mo.of [(15,2),(16,1),(17,2),(18,1),(19,3)] .nil) (mo.of [(12,2),(16,1),(17,2),(18,1),(19,3)] .nil))) (mo.of [(10,2),(11,1),(15,2),(16,1),(17,2),(18,1),(19,3)] .nil)) (mo.of [(7,2),(10,2),(11,1),(15,2),(16,1),(17,2),(18,1),(19,3)] .nil)) (mo.of [(4,2),(7,2),(10,2),(11,1),(15,2),(16,1),(17,2),(18,1),(19,3)] .nil))) 19 (fun W=>W.cell? ⟨rb,0,none⟩=some (.int .i64 x.k)/\W.cell? ⟨rb,1,none⟩=some (.int .i64 x.a)/\W.cell? ⟨rb,2,none⟩=some (.int .i64 x.b)/\W.cell? ⟨rb,3,none⟩=some (.int .i64 x.c)/\W.cell? ⟨pb,0,none⟩=some (.string p.s)/\W.cell? ⟨pb,1,none⟩=some (.int .i64 p.t)/\W.cell? ⟨pb,2,none⟩=some (.int .i64 p.v)) bT bT (HS.out _ QI) ?_
     simp only [mo.of]
     (repeat first|refine bS ?_|refine bR ?_)
     clear z0 z1 z2 z3 z4 z5 zf
     refine iB rfl rfl rfl rfl (fun K hK=>?_) (fun K hK=>?_)
     ·skip
      go_simp
      (with_reducible refine(Ii.out _).mono ?_)
      rintro e _ ⟨rfl,rfl⟩
      go_simp
      refine hK _ _ (HS.out _ QI) ?_
      clear hK K
      (repeat first|refine bS ?_|refine bR ?_)
      refine iB rfl rfl rfl rfl (fun K hK=>?_) (fun K hK=>?_)
      ·skip
       go_simp
       (with_reducible refine(Ii.out _).mono ?_)
       rintro e _ ⟨rfl,rfl⟩
       go_simp
       refine hK _ _ (HS.out _ QI) ?_
       clear hK K
       (repeat first|refine bS ?_|refine bR ?_)
       refine iB rfl rfl rfl rfl (fun K hK=>?_) (fun K hK=>?_)
       ·skip
        go_simp
        (with_reducible refine(N8.out _).mono ?_)
        rintro e _ ⟨rfl,rfl⟩
        go_simp
        refine hK _ _ (HS.out _ QI) ?_
        clear hK K
        (repeat first|refine bS ?_|refine bR ?_)
        refine iB rfl rfl rfl rfl (fun K hK=>?_) (fun K hK=>?_)
        ·skip
         go_simp
         obtain⟨W9,jz⟩:=bP ((W3.alloc (.cells #[.int .i64 1, .int .i64 60, .int .i64 3600] 3)).drew)
         have c3:W9.cell? ⟨W3.heap.size,j,none⟩=some (.int .i64 (aQ j)):=by rw [jz];exact O0.out _ W3 rfl
         have ql:ah W3 W9:=by rw [jz];exact((aI _ _).alloc aH _).drew
         rw [<-jz]
         refine hK _ _ (HS.out _ ql) ?_
         clear hK K jz
         (repeat first|refine bS ?_|refine bR ?_)
         refine bA rfl rfl (fun K hK=>?_)
         go_simp
         (with_reducible refine(Ih.out _).mono ?_)
         rintro e _ ⟨rfl,rfl⟩
         go_simp
         refine hK _ _ (HS.out _ ql) ?_
         clear hK K
         (repeat first|refine bS ?_|refine bR ?_)
         refine bA rfl rfl (fun K hK=>?_)
         go_simp
         refine hK _ _ (HS.out _ ql) ?_
         clear hK K
         (repeat first|refine bS ?_|refine bR ?_)
         obtain⟨z0,z1,z2,z3,z4,z5,zf⟩:=(vF.out _ ql).OE
         have qD:=hdd ql
         clear ql c3
         refine dI rfl rfl (fun K hK=>?_)
         go_simp
         refine hK _ _ ?_
         clear hK K
         refine eT ?_
         obtain⟨V,hV⟩:=bP ((((((W9.setCell ⟨qb,0,none⟩ (.int .i64 2)).setCell ⟨qb,1,none⟩ (.string p.s)).setCell ⟨qb,2,none⟩ (.int .i64 A6)).setCell ⟨qb,3,none⟩ (.int .i64 (A6+B9))).setCell ⟨qb,4,none⟩ (.int .i64 (aQ j))).setCell ⟨qb,5,none⟩ (.int .i64 0))
         have wT:=hdd (show jY rb pb qb x p ⟨2,p.s,A6,A6+B9,aQ j,0⟩ V by
          have h1:=vF.out _ qD.out
          rw [hV]
          exact⟨(bF h1.n1).trans h1.raw,(bF h1.n2).trans h1.pt,ic h1.ac,h1.n1,h1.n2⟩)
         have vr:=hdd (show ah w V by rw [hV];exact gj (vp.out _ qD.out) (by have:=HQ.out;omega) _ _ _ _ _ _)
         have vH:=hdd (show bN w.heap.size V (.slice so L.length sc) L by rw [hV];exact(HOW.out _ qD.out).block fun g hg=>bF (by have h1:=(HO.out.lt g hg).2;have:=HQ.out;have:=AB.out;omega))
         clear z0 z1 z2 z3 z4 z5 zf
         go_wp2_with fail
         go_meet
         rw [<-hV]
         exact hdd ⟨⟨2,p.s,A6,A6+B9,aQ j,0⟩,wT.out,vr.out,vH.out,by unfold pz;rw [Cb.out,ar rfl,HP.out,KZ.out,KW.out,KY.out,HJ.out];rfl⟩
        ·skip
         go_simp
         (with_reducible refine(Ih.out _).mono ?_)
         rintro e _ ⟨rfl,rfl⟩
         go_simp
         refine hK _ _ (HS.out _ QI) ?_
         clear hK K
         (repeat first|refine bS ?_|refine bR ?_)
         refine bA rfl rfl (fun K hK=>?_)
         go_simp
         obtain⟨W9,jz⟩:=bP ((W3.alloc (.cells #[.int .i64 1, .int .i64 60, .int .i64 3600] 3)).drew)
         have c3:W9.cell? ⟨W3.heap.size,j,none⟩=some (.int .i64 (aQ j)):=by rw [jz];exact O0.out _ W3 rfl
         have ql:ah W3 W9:=by rw [jz];exact((aI _ _).alloc aH _).drew
         rw [<-jz]
         refine hK _ _ (HS.out _ ql) ?_
         clear hK K jz
         (repeat first|refine bS ?_|refine bR ?_)
         refine bA rfl rfl (fun K hK=>?_)
         go_simp
         refine hK _ _ (HS.out _ ql) ?_
         clear hK K
         (repeat first|refine bS ?_|refine bR ?_)
         obtain⟨z0,z1,z2,z3,z4,z5,zf⟩:=(vF.out _ ql).OE
         have qD:=hdd ql
         clear ql c3
         refine dI rfl rfl (fun K hK=>?_)
         go_simp
         refine hK _ _ ?_
         clear hK K
         refine eT ?_
         obtain⟨V,hV⟩:=bP ((((((W9.setCell ⟨qb,0,none⟩ (.int .i64 2)).setCell ⟨qb,1,none⟩ (.string p.s)).setCell ⟨qb,2,none⟩ (.int .i64 A6)).setCell ⟨qb,3,none⟩ (.int .i64 (A6+B9))).setCell ⟨qb,4,none⟩ (.int .i64 (aQ j))).setCell ⟨qb,5,none⟩ (.int .i64 0))
         have wT:=hdd (show jY rb pb qb x p ⟨2,p.s,A6,A6+B9,aQ j,0⟩ V by
          have h1:=vF.out _ qD.out
          rw [hV]
          exact⟨(bF h1.n1).trans h1.raw,(bF h1.n2).trans h1.pt,ic h1.ac,h1.n1,h1.n2⟩)
         have vr:=hdd (show ah w V by rw [hV];exact gj (vp.out _ qD.out) (by have:=HQ.out;omega) _ _ _ _ _ _)
         have vH:=hdd (show bN w.heap.size V (.slice so L.length sc) L by rw [hV];exact(HOW.out _ qD.out).block fun g hg=>bF (by have h1:=(HO.out.lt g hg).2;have:=HQ.out;have:=AB.out;omega))
         clear z0 z1 z2 z3 z4 z5 zf
         go_wp2_with fail
         go_meet
         rw [<-hV]
         exact hdd ⟨⟨2,p.s,A6,A6+B9,aQ j,0⟩,wT.out,vr.out,vH.out,by unfold pz;rw [Cb.out,ar rfl,HP.out,KZ.out,KW.out,KY.out,HJ.out];rfl⟩
       ·skip
        go_simp
        obtain⟨W9,jz⟩:=bP ((W3.alloc (.cells #[.int .i64 1, .int .i64 60, .int .i64 3600] 3)).drew)
        have c3:W9.cell? ⟨W3.heap.size,j,none⟩=some (.int .i64 (aQ j)):=by rw [jz];exact O0.out _ W3 rfl
        have ql:ah W3 W9:=by rw [jz];exact((aI _ _).alloc aH _).drew
        rw [<-jz]
        refine hK _ _ (HS.out _ ql) ?_
        clear hK K jz
        (repeat first|refine bS ?_|refine bR ?_)
        refine bA rfl rfl (fun K hK=>?_)
        go_simp
        (with_reducible refine(N8.out _).mono ?_)
        rintro e _ ⟨rfl,rfl⟩
        go_simp
        refine hK _ _ (HS.out _ ql) ?_
        clear hK K
        (repeat first|refine bS ?_|refine bR ?_)
        refine bA rfl rfl (fun K hK=>?_)
        go_simp
        (with_reducible refine(Ih.out _).mono ?_)
        rintro e _ ⟨rfl,rfl⟩
        go_simp
        refine hK _ _ (HS.out _ ql) ?_
        clear hK K
        (repeat first|refine bS ?_|refine bR ?_)
        refine bA rfl rfl (fun K hK=>?_)
        go_simp
        refine hK _ _ (HS.out _ ql) ?_
        clear hK K
        (repeat first|refine bS ?_|refine bR ?_)
        obtain⟨z0,z1,z2,z3,z4,z5,zf⟩:=(vF.out _ ql).OE
        have qD:=hdd ql
        clear ql c3
        refine dI rfl rfl (fun K hK=>?_)
        go_simp
        refine hK _ _ ?_
        clear hK K
        refine eT ?_
        obtain⟨V,hV⟩:=bP ((((((W9.setCell ⟨qb,0,none⟩ (.int .i64 2)).setCell ⟨qb,1,none⟩ (.string p.s)).setCell ⟨qb,2,none⟩ (.int .i64 A6)).setCell ⟨qb,3,none⟩ (.int .i64 (A6+B9))).setCell ⟨qb,4,none⟩ (.int .i64 (aQ j))).setCell ⟨qb,5,none⟩ (.int .i64 0))
        have wT:=hdd (show jY rb pb qb x p ⟨2,p.s,A6,A6+B9,aQ j,0⟩ V by
         have h1:=vF.out _ qD.out
         rw [hV]
         exact⟨(bF h1.n1).trans h1.raw,(bF h1.n2).trans h1.pt,ic h1.ac,h1.n1,h1.n2⟩)
        have vr:=hdd (show ah w V by rw [hV];exact gj (vp.out _ qD.out) (by have:=HQ.out;omega) _ _ _ _ _ _)
        have vH:=hdd (show bN w.heap.size V (.slice so L.length sc) L by rw [hV];exact(HOW.out _ qD.out).block fun g hg=>bF (by have h1:=(HO.out.lt g hg).2;have:=HQ.out;have:=AB.out;omega))
        clear z0 z1 z2 z3 z4 z5 zf
        go_wp2_with fail
        go_meet
        rw [<-hV]
        exact hdd ⟨⟨2,p.s,A6,A6+B9,aQ j,0⟩,wT.out,vr.out,vH.out,by unfold pz;rw [Cb.out,ar rfl,HP.out,KZ.out,KW.out,KY.out,HJ.out];rfl⟩
      ·skip
       go_simp
       obtain⟨W9,jz⟩:=bP ((W3.alloc (.cells #[.int .i64 1, .int .i64 60, .int .i64 3600] 3)).drew)
       have c3:W9.cell? ⟨W3.heap.size,j,none⟩=some (.int .i64 (aQ j)):=by rw [jz];exact O0.out _ W3 rfl
       have ql:ah W3 W9:=by rw [jz];exact((aI _ _).alloc aH _).drew
       rw [<-jz]
       refine hK _ _ (HS.out _ ql) ?_
       clear hK K jz
       (repeat first|refine bS ?_|refine bR ?_)
       refine bA rfl rfl (fun K hK=>?_)
       go_simp
       (with_reducible refine(Ii.out _).mono ?_)
       rintro e _ ⟨rfl,rfl⟩
       go_simp
       refine hK _ _ (HS.out _ ql) ?_
       clear hK K
       (repeat first|refine bS ?_|refine bR ?_)
       refine bA rfl rfl (fun K hK=>?_)
       go_simp
       (with_reducible refine(N8.out _).mono ?_)
       rintro e _ ⟨rfl,rfl⟩
       go_simp
       refine hK _ _ (HS.out _ ql) ?_
       clear hK K
       (repeat first|refine bS ?_|refine bR ?_)
       refine bA rfl rfl (fun K hK=>?_)
       go_simp
       (with_reducible refine(Ih.out _).mono ?_)
       rintro e _ ⟨rfl,rfl⟩
       go_simp
       refine hK _ _ (HS.out _ ql) ?_
       clear hK K
       (repeat first|refine bS ?_|refine bR ?_)
       refine bA rfl rfl (fun K hK=>?_)
       go_simp
       refine hK _ _ (HS.out _ ql) ?_
       clear hK K
       (repeat first|refine bS ?_|refine bR ?_)
       obtain⟨z0,z1,z2,z3,z4,z5,zf⟩:=(vF.out _ ql).OE
       have qD:=hdd ql
       clear ql c3
       refine dI rfl rfl (fun K hK=>?_)
       go_simp
       refine hK _ _ ?_
       clear hK K
       refine eT ?_
       obtain⟨V,hV⟩:=bP ((((((W9.setCell ⟨qb,0,none⟩ (.int .i64 2)).setCell ⟨qb,1,none⟩ (.string p.s)).setCell ⟨qb,2,none⟩ (.int .i64 A6)).setCell ⟨qb,3,none⟩ (.int .i64 (A6+B9))).setCell ⟨qb,4,none⟩ (.int .i64 (aQ j))).setCell ⟨qb,5,none⟩ (.int .i64 0))
       have wT:=hdd (show jY rb pb qb x p ⟨2,p.s,A6,A6+B9,aQ j,0⟩ V by
        have h1:=vF.out _ qD.out
        rw [hV]
        exact⟨(bF h1.n1).trans h1.raw,(bF h1.n2).trans h1.pt,ic h1.ac,h1.n1,h1.n2⟩)
       have vr:=hdd (show ah w V by rw [hV];exact gj (vp.out _ qD.out) (by have:=HQ.out;omega) _ _ _ _ _ _)
       have vH:=hdd (show bN w.heap.size V (.slice so L.length sc) L by rw [hV];exact(HOW.out _ qD.out).block fun g hg=>bF (by have h1:=(HO.out.lt g hg).2;have:=HQ.out;have:=AB.out;omega))
       clear z0 z1 z2 z3 z4 z5 zf
       go_wp2_with fail
       go_meet
       rw [<-hV]
       exact hdd ⟨⟨2,p.s,A6,A6+B9,aQ j,0⟩,wT.out,vr.out,vH.out,by unfold pz;rw [Cb.out,ar rfl,HP.out,KZ.out,KW.out,KY.out,HJ.out];rfl⟩
     ·skip
      go_simp
      obtain⟨W9,jz⟩:=bP ((W3.alloc (.cells #[.int .i64 1, .int .i64 60, .int .i64 3600] 3)).drew)
      have c3:W9.cell? ⟨W3.heap.size,j,none⟩=some (.int .i64 (aQ j)):=by rw [jz];exact O0.out _ W3 rfl
      have ql:ah W3 W9:=by rw [jz];exact((aI _ _).alloc aH _).drew
      rw [<-jz]
      refine hK _ _ (HS.out _ ql) ?_
      clear hK K jz
      (repeat first|refine bS ?_|refine bR ?_)
      refine bA rfl rfl (fun K hK=>?_)
      go_simp
      (with_reducible refine(Ii.out _).mono ?_)
      rintro e _ ⟨rfl,rfl⟩
      go_simp
      refine hK _ _ (HS.out _ ql) ?_
      clear hK K
      (repeat first|refine bS ?_|refine bR ?_)
      refine bA rfl rfl (fun K hK=>?_)
      go_simp
      (with_reducible refine(Ii.out _).mono ?_)
      rintro e _ ⟨rfl,rfl⟩
      go_simp
      refine hK _ _ (HS.out _ ql) ?_
      clear hK K
      (repeat first|refine bS ?_|refine bR ?_)
      refine bA rfl rfl (fun K hK=>?_)
      go_simp
      (with_reducible refine(N8.out _).mono ?_)
      rintro e _ ⟨rfl,rfl⟩
      go_simp
      refine hK _ _ (HS.out _ ql) ?_
      clear hK K
      (repeat first|refine bS ?_|refine bR ?_)
      refine bA rfl rfl (fun K hK=>?_)
      go_simp
      (with_reducible refine(Ih.out _).mono ?_)
      rintro e _ ⟨rfl,rfl⟩
      go_simp
      refine hK _ _ (HS.out _ ql) ?_
      clear hK K
      (repeat first|refine bS ?_|refine bR ?_)
      refine bA rfl rfl (fun K hK=>?_)
      go_simp
      refine hK _ _ (HS.out _ ql) ?_
      clear hK K
      (repeat first|refine bS ?_|refine bR ?_)
      obtain⟨z0,z1,z2,z3,z4,z5,zf⟩:=(vF.out _ ql).OE
      have qD:=hdd ql
      clear ql c3
      refine dI rfl rfl (fun K hK=>?_)
      go_simp
      refine hK _ _ ?_
      clear hK K
      refine eT ?_
      obtain⟨V,hV⟩:=bP ((((((W9.setCell ⟨qb,0,none⟩ (.int .i64 2)).setCell ⟨qb,1,none⟩ (.string p.s)).setCell ⟨qb,2,none⟩ (.int .i64 A6)).setCell ⟨qb,3,none⟩ (.int .i64 (A6+B9))).setCell ⟨qb,4,none⟩ (.int .i64 (aQ j))).setCell ⟨qb,5,none⟩ (.int .i64 0))
      have wT:=hdd (show jY rb pb qb x p ⟨2,p.s,A6,A6+B9,aQ j,0⟩ V by
       have h1:=vF.out _ qD.out
       rw [hV]
       exact⟨(bF h1.n1).trans h1.raw,(bF h1.n2).trans h1.pt,ic h1.ac,h1.n1,h1.n2⟩)
      have vr:=hdd (show ah w V by rw [hV];exact gj (vp.out _ qD.out) (by have:=HQ.out;omega) _ _ _ _ _ _)
      have vH:=hdd (show bN w.heap.size V (.slice so L.length sc) L by rw [hV];exact(HOW.out _ qD.out).block fun g hg=>bF (by have h1:=(HO.out.lt g hg).2;have:=HQ.out;have:=AB.out;omega))
      clear z0 z1 z2 z3 z4 z5 zf
      go_wp2_with fail
      go_meet
      rw [<-hV]
      exact hdd ⟨⟨2,p.s,A6,A6+B9,aQ j,0⟩,wT.out,vr.out,vH.out,by unfold pz;rw [Cb.out,ar rfl,HP.out,KZ.out,KW.out,KY.out,HJ.out];rfl⟩
    by_cases zK:K<3
    ·skip
     have d0:(K == 0)=false:=by simpa using im
     have d12:decide (K<3)=true:=by simpa using zK
     have HD:=hdd (aL im zK)
     clear im zK Rp VA ZC ZB ZA Jn Yv Yu
     go_upto_region 12 with (fail)
     refine eF [(0,1),(1,0),(2,1),(3,0),(5,1),(6,0),(8,1),(9,0),(4,2),(7,2),(10,2),(11,1),(12,1),(13,3)] 13 (fun W=>W.cell? ⟨rb,0,none⟩=some (.int .i64 x.k)/\W.cell? ⟨rb,1,none⟩=some (.int .i64 x.a)/\W.cell? ⟨rb,2,none⟩=some (.int .i64 x.b)/\W.cell? ⟨rb,3,none⟩=some (.int .i64 x.c)/\W.cell? ⟨pb,0,none⟩=some (.string p.s)/\W.cell? ⟨pb,1,none⟩=some (.int .i64 p.t)/\W.cell? ⟨pb,2,none⟩=some (.int .i64 p.v)) bT bT (HS.out _ QI) ?_
     (simp only [bG,List.filterMap_cons,List.filterMap_nil,List.getElem?_cons_zero,List.getElem?_cons_succ,Option.map_some])
     (repeat first|refine aY ?_|refine aX ?_)
     refine aP rfl (fun K hK=>?_)
     go_simp
     (with_reducible refine(Ii.out _).mono ?_)
     rintro e _ ⟨rfl,rfl⟩
     go_simp
     refine hK _ _ (HS.out _ QI) ?_
     clear hK K
     (repeat first|refine aY ?_|refine aX ?_)
     refine aP rfl (fun K hK=>?_)
     go_simp
     (with_reducible refine(Ii.out _).mono ?_)
     rintro e _ ⟨rfl,rfl⟩
     go_simp
     refine hK _ _ (HS.out _ QI) ?_
     clear hK K
     (repeat first|refine aY ?_|refine aX ?_)
     refine aP rfl (fun K hK=>?_)
     go_simp
     (with_reducible refine(N8.out _).mono ?_)
     rintro e _ ⟨rfl,rfl⟩
     go_simp
     refine hK _ _ (HS.out _ QI) ?_
     clear hK K
     (repeat first|refine aY ?_|refine aX ?_)
     refine bn rfl (fun K hK=>?_)
     go_simp
     refine hK _ _ ?_
     clear hK K
     refine cy ?_
     obtain⟨W9,jz⟩:=bP (W3)
     have qD:=hdd (show ah W3 W9 by rw [jz];exact aI _ _)
     rw [<-jz]
     clear jz
     obtain⟨V,hV⟩:=bP ((((((W9.setCell ⟨qb,0,none⟩ (.int .i64 3)).setCell ⟨qb,1,none⟩ (.string p.s)).setCell ⟨qb,2,none⟩ (.int .i64 A6)).setCell ⟨qb,3,none⟩ (.int .i64 (A6+B9))).setCell ⟨qb,4,none⟩ (.int .i64 0)).setCell ⟨qb,5,none⟩ (.int .i64 0))
     have wT:=hdd (show jY rb pb qb x p ⟨3,p.s,A6,A6+B9,0,0⟩ V by
      have h1:=vF.out _ qD.out
      rw [hV]
      exact⟨(bF h1.n1).trans h1.raw,(bF h1.n2).trans h1.pt,ic h1.ac,h1.n1,h1.n2⟩)
     have vr:=hdd (show ah w V by rw [hV];exact gj (vp.out _ qD.out) (by have:=HQ.out;omega) _ _ _ _ _ _)
     have vH:=hdd (show bN w.heap.size V (.slice so L.length sc) L by rw [hV];exact(HOW.out _ qD.out).block fun g hg=>bF (by have h1:=(HO.out.lt g hg).2;have:=HQ.out;have:=AB.out;omega))
     clear z0 z1 z2 z3 z4 z5 zf
     go_wp2_with fail
     go_meet
     rw [<-hV]
     exact hdd ⟨⟨3,p.s,A6,A6+B9,0,0⟩,wT.out.below ((aI _ _).drew),vr.out.drew,vH.out.block fun _ _=>rfl,by unfold pz;rw [Cb.out,ai HD.out.1,ar HD.out.2,HP.out,KZ.out,KW.out]⟩
    have d0:(K == 0)=false:=by simpa using im
    have d12:decide (K<3)=false:=by simpa using zK
    obtain⟨W9,jz⟩:=bP (W3)
    have qD:=hdd (show ah W3 W9 by rw [jz];exact aI _ _)
    by_cases hk3:K=3
    ·subst hk3
     by_cases h4:A4=0
     ·skip
      have d4:(A4 == 0)=true:=by simp [h4]
      have hw3:IntKind.i64.wrap (3600*B3)=3600*B3:=IntWalk.i64_in _ (by have:=Uo.out;omega)
      have H4:=hdd h4
      clear h4 Rp im zK
      go_wp2_with (first|(go_at_call 29;(with_reducible refine(XV.out _).mono ?_);rintro e _ ⟨rfl,rfl⟩)|(go_at_call 29;(with_reducible refine(Ih.out _).mono ?_);rintro e _ ⟨rfl,rfl⟩))
      rw [<-jz]
      clear jz
      obtain⟨V,hV⟩:=bP ((((((W9.setCell ⟨qb,0,none⟩ (.int .i64 4)).setCell ⟨qb,1,none⟩ (.string ⟨#[]⟩)).setCell ⟨qb,2,none⟩ (.int .i64 (3600*B3))).setCell ⟨qb,3,none⟩ (.int .i64 0)).setCell ⟨qb,4,none⟩ (.int .i64 0)).setCell ⟨qb,5,none⟩ (.int .i64 0))
      have wT:=hdd (show jY rb pb qb x p ⟨4,ByteArray.empty,3600*B3,0,0,0⟩ V by
       have h1:=vF.out _ qD.out
       rw [hV]
       exact⟨(bF h1.n1).trans h1.raw,(bF h1.n2).trans h1.pt,ic h1.ac,h1.n1,h1.n2⟩)
      have vr:=hdd (show ah w V by rw [hV];exact gj (vp.out _ qD.out) (by have:=HQ.out;omega) _ _ _ _ _ _)
      have vH:=hdd (show bN w.heap.size V (.slice so L.length sc) L by rw [hV];exact(HOW.out _ qD.out).block fun g hg=>bF (by have h1:=(HO.out.lt g hg).2;have:=HQ.out;have:=AB.out;omega))
      clear z0 z1 z2 z3 z4 z5 zf
      go_meet
      rw [<-hV]
      exact hdd ⟨⟨4,ByteArray.empty,3600*B3,0,0,0⟩,wT.out,vr.out,vH.out,by unfold pz;rw [Cb.out,ai aW,ai aW,Ye.out,ar ⟨rfl,H4.out⟩,KY.out]⟩
     ·skip
      have d4:(A4 == 0)=false:=by simpa using h4
      have H4:=hdd h4
      clear h4 Rp im zK jz
      go_wp2_with (go_at_call 29;(with_reducible refine(XV.out _).mono ?_);rintro e _ ⟨rfl,rfl⟩)
      have wT:=hdd (vF.out W3 (aI _ _))
      have vr:=hdd (vp.out W3 (aI _ _))
      have vH:=hdd (HOW.out W3 (aI _ _))
      clear z0 z1 z2 z3 z4 z5 zf
      go_meet
      exact hdd ⟨⟨1,p.s,p.t,0,0,p.v⟩,wT.out,vr.out,vH.out,by unfold pz;rw [Cb.out,ai aW,ai aW,Ye.out,ai (fun hn=>H4.out hn.2),ai aW,ai (fun hn=>by have:=hn.1;omega),HP.out]⟩
    by_cases hk4:K=4
    ·subst hk4
     clear Rp im zK hk3
     go_wp2_with (fail)
     rw [<-jz]
     clear jz
     obtain⟨V,hV⟩:=bP ((((((W9.setCell ⟨qb,0,none⟩ (.int .i64 5)).setCell ⟨qb,1,none⟩ (.string ⟨#[]⟩)).setCell ⟨qb,2,none⟩ (.int .i64 0)).setCell ⟨qb,3,none⟩ (.int .i64 0)).setCell ⟨qb,4,none⟩ (.int .i64 0)).setCell ⟨qb,5,none⟩ (.int .i64 0))
     have wT:=hdd (show jY rb pb qb x p ⟨5,ByteArray.empty,0,0,0,0⟩ V by
      have h1:=vF.out _ qD.out
      rw [hV]
      exact⟨(bF h1.n1).trans h1.raw,(bF h1.n2).trans h1.pt,ic h1.ac,h1.n1,h1.n2⟩)
     have vr:=hdd (show ah w V by rw [hV];exact gj (vp.out _ qD.out) (by have:=HQ.out;omega) _ _ _ _ _ _)
     have vH:=hdd (show bN w.heap.size V (.slice so L.length sc) L by rw [hV];exact(HOW.out _ qD.out).block fun g hg=>bF (by have h1:=(HO.out.lt g hg).2;have:=HQ.out;have:=AB.out;omega))
     clear z0 z1 z2 z3 z4 z5 zf
     go_meet
     rw [<-hV]
     exact hdd ⟨⟨5,ByteArray.empty,0,0,0,0⟩,wT.out,vr.out,vH.out,by unfold pz;rw [Cb.out,ai aW,ai aW,ai (fun hn=>by have:=hn.1;omega),ar rfl]⟩
    by_cases YR:K=5
    ·subst YR
     by_cases h3:A3=0
     ·skip
      have d3:(A3 == 0)=true:=by simp [h3]
      have H3:=hdd h3
      clear h3 Rp im zK hk3 hk4
      go_wp2_with (go_at_call 29;(with_reducible refine(XW.out _).mono ?_);rintro e _ ⟨rfl,rfl⟩)
      rw [<-jz]
      clear jz
      obtain⟨V,hV⟩:=bP ((((((W9.setCell ⟨qb,0,none⟩ (.int .i64 6)).setCell ⟨qb,1,none⟩ (.string ⟨#[]⟩)).setCell ⟨qb,2,none⟩ (.int .i64 0)).setCell ⟨qb,3,none⟩ (.int .i64 0)).setCell ⟨qb,4,none⟩ (.int .i64 0)).setCell ⟨qb,5,none⟩ (.int .i64 0))
      have wT:=hdd (show jY rb pb qb x p ⟨6,ByteArray.empty,0,0,0,0⟩ V by
       have h1:=vF.out _ qD.out
       rw [hV]
       exact⟨(bF h1.n1).trans h1.raw,(bF h1.n2).trans h1.pt,ic h1.ac,h1.n1,h1.n2⟩)
      have vr:=hdd (show ah w V by rw [hV];exact gj (vp.out _ qD.out) (by have:=HQ.out;omega) _ _ _ _ _ _)
      have vH:=hdd (show bN w.heap.size V (.slice so L.length sc) L by rw [hV];exact(HOW.out _ qD.out).block fun g hg=>bF (by have h1:=(HO.out.lt g hg).2;have:=HQ.out;have:=AB.out;omega))
      clear z0 z1 z2 z3 z4 z5 zf
      go_meet
      rw [<-hV]
      exact hdd ⟨⟨6,ByteArray.empty,0,0,0,0⟩,wT.out,vr.out,vH.out,by unfold pz;rw [Cb.out,ai aW,ai aW,ai (fun hn=>by have:=hn.1;omega),ai aW,Yf.out,ar ⟨rfl,H3.out⟩]⟩
     ·skip
      have d3:(A3 == 0)=false:=by simpa using h3
      have H3:=hdd h3
      clear h3 Rp im zK hk3 hk4 jz
      go_wp2_with (go_at_call 29;(with_reducible refine(XW.out _).mono ?_);rintro e _ ⟨rfl,rfl⟩)
      have wT:=hdd (vF.out W3 (aI _ _))
      have vr:=hdd (vp.out W3 (aI _ _))
      have vH:=hdd (HOW.out W3 (aI _ _))
      clear z0 z1 z2 z3 z4 z5 zf
      go_meet
      exact hdd ⟨⟨1,p.s,p.t,0,0,p.v⟩,wT.out,vr.out,vH.out,by unfold pz;rw [Cb.out,ai aW,ai aW,ai (fun hn=>by have:=hn.1;omega),ai aW,Yf.out,ai (fun hn=>H3.out hn.2),HP.out]⟩
    have d3:(K == 3)=false:=by simpa using hk3
    have d4:(K == 4)=false:=by simpa using hk4
    have d5:(K == 5)=false:=by simpa using YR
    have HN:=hdd (aL im (aL zK (aL hk3 (aL hk4 YR))))
    clear Rp im zK hk3 hk4 YR jz
    go_wp2_with (fail)
    have wT:=hdd (vF.out W3 (aI _ _))
    have vr:=hdd (vp.out W3 (aI _ _))
    have vH:=hdd (HOW.out W3 (aI _ _))
    clear z0 z1 z2 z3 z4 z5 zf
    go_meet
    exact hdd ⟨⟨1,p.s,p.t,0,0,p.v⟩,wT.out,vr.out,vH.out,by unfold pz;rw [Cb.out,ai HN.out.1,ai (by have:=HN.out.2.1;omega),ai (fun hn=>HN.out.2.2.1 hn.1),ai HN.out.2.2.2.1,ai (fun hn=>HN.out.2.2.2.2 hn.1),HP.out]⟩
   case rest=>
    obtain⟨a,hra,K3,Zk,haa⟩:=hcut.out
    obtain⟨q0,q1,q2,q3,q4,q5,-⟩:=hra.OE
    have HAC:=hdd haa
    have vr:=hdd K3
    have vH:=hdd Zk
    clear hra K3 Zk haa hcut
    go_wp2_with (at_builtin;refine fT rfl (.tmp 104) (.tmp 106) rfl w.heap.size _ L rfl (vH.out.alloc _) ⟨_,0,none⟩ a rfl (fun j u h=>vz h) (by have:=Od.out;omega) (by have h1:=vr.out.size;simp;omega) ?_;intro v5 w5 Pn Td UY)
    go_roundg (min xs.length most-(k+1))
    case measure=>omega
    case rel=>exact⟨k+1,af,rfl,by go_num,by rw [sS.out,HAC.out];exact Pn,Below.grown (vr.out.alloc vr.out.size _) Td (by have h1:=vr.out.size;simp;omega) (fun j hj=>(vH.out.lt j hj).1)⟩
  ·have hcond:¬(k<xs.length/\k<most):=hlt
   have HE:=hdd (show jh xs k=jh xs most by unfold jh;congr 1;rw [List.take_eq_take_iff];omega)
   by_cases h1:k<xs.length
   ·have h3:(k:Int)<(xs.length:Int):=af
    have h4:¬(k:Int)<(most:Int):=af
    clear hcond hlt h1 a5 hlk
    go_wp2_with fail
    go_ret
    exact⟨hb,so,sc,by rw [<-HE.out];rfl,by rw [<-HE.out];exact ho⟩
   ·have h3:¬(k:Int)<(xs.length:Int):=af
    clear hcond hlt h1 a5 hlk
    go_wp2_with fail
    go_ret
    exact⟨hb,so,sc,by rw [<-HE.out];rfl,by rw [<-HE.out];exact ho⟩
end Go.Proofs.YtmljjfhgciaceaaDoor
