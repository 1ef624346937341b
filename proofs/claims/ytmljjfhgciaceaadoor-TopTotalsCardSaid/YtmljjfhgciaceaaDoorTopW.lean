import Derived.Test.YtmljjfhgciaceaaDoorHd
import Derived.Test.YtmljjfhgciaceaaDoorEG
import Derived.Test.YtmljjfhgciaceaaDoorActs
namespace Go.Proofs.YtmljjfhgciaceaaDoor
open Go.RowKit
set_option maxRecDepth 100000
set_option maxHeartbeats 4000000
variable {xs:List Ac} {most:Nat} {w:World}
theorem FO {v:Value} (h:Jk w v xs) (hs:∀a∈xs,a.s.size<=140737488351232) (hl:xs.length<=500) (hsz:bL w) :
  Calls Tryd.prog 14 #[v] w (yK xs w):=by
 obtain⟨ao,cap,rfl⟩:=h.isSlice
 obtain⟨W0,hW0⟩:=bP (w.alloc (.cells cL 35))
 have hb0:ah w W0:=by rw [hW0];exact ag
 have hz0:W0.heap.size=w.heap.size+1:=by rw [hW0];simp
 have k0:W0.heap[w.heap.size]?=some (.cells cL 35):=by rw [hW0];exact aj _ _ rfl
 have HR:=hdd (Cr (h.below hb0 aH) hs hl (hsz.below hb0))
 have Io:=hdd (aL hb0 (aL hz0 k0))
 clear h hs hl hsz hb0 hz0 k0
 go_enter Tryd.func14,Tryd.ntmps14
 go_upto_region 1 with (fail)
 rw [<-hW0]
 clear hW0
 go_upto_region 2 with (go_at_call 28;(with_reducible refine HR.out.mono ?_);rintro e w1 ⟨hb1,oa,oc,qs,b,sa,sc,g0,l0,p0,g1,l1,p1,g2,l2,p2,rfl,Rk,hown,hrows,je,Ep,hok⟩;have tX:=hdd hb1;have HP:=hdd (aL Rk (aL hown (aL hrows (aL je (aL Ep hok)))));clear hb1 Rk hown hrows je Ep hok)
 obtain⟨W1,hW1⟩:=bP (w1.alloc (.cells (aG sa b.names.length sc g0 l0 p0 g1 l1 p1 g2 l2 p2 b) 35))
 have mL:ah w1 W1:=by rw [hW1];exact ag
 have k1:W1.heap[w1.heap.size]?=some (.cells (aG sa b.names.length sc g0 l0 p0 g1 l1 p1 g2 l2 p2 b) 35):=by rw [hW1];exact aj _ _ rfl
 obtain⟨c0,c1,c2,c3,c4,c5,c6,c7,-⟩:=fh k1
 have k0:W1.heap[w.heap.size]?=some (.cells cL 35):=(mL.block _ (by have:=tX.out.size;have:=Io.out.2.1;omega)).trans ((tX.out.block _ (by have:=Io.out.2.1;omega)).trans Io.out.2.2)
 obtain⟨r0,r1,r2,r3,r4,r5,r6,r7,rf⟩:=fh k0
 have OW:=hdd k0
 have vp:=hdd (aL mL (Below.trans' (Below.trans' Io.out.1 tX.out Io.out.1.size) mL (by have:=tX.out.size;have:=Io.out.2.1;omega)))
 have PR:qs.length=xs.length:=by
  have h1:=congrArg List.length HP.out.1
  rw [oJ,uj]at h1
  exact h1
 have hd:(((qs.length:Nat):Int) != ((xs.length:Nat):Int))=false:=by simp [PR]
 rw [<-hW1]
 clear hW1 mL k1 k0 PR
 go_upto_region 4 with (fail)
 refine bJ [(0,1),(1,0),(2,1),(3,1),(4,3),(5,1)] 4 (fun W=>W.cell? ⟨w1.heap.size,0,none⟩=some (.slice sa b.names.length sc)/\W.cell? ⟨w1.heap.size,1,none⟩=some (.slice g0 l0 p0)/\W.cell? ⟨w1.heap.size,2,none⟩=some (.int .i64 b.t0.root)/\W.cell? ⟨w1.heap.size,3,none⟩=some (.slice g1 l1 p1)/\W.cell? ⟨w1.heap.size,4,none⟩=some (.int .i64 b.t1.root)/\W.cell? ⟨w1.heap.size,5,none⟩=some (.slice g2 l2 p2)/\W.cell? ⟨w1.heap.size,6,none⟩=some (.int .i64 b.t2.root)/\W.cell? ⟨w1.heap.size,7,none⟩=some (.int .i64 b.floor)) bT bT ⟨c0,c1,c2,c3,c4,c5,c6,c7⟩ ?_
 (simp only [bG,List.filterMap_cons,List.filterMap_nil,List.getElem?_cons_zero,List.getElem?_cons_succ,Option.map_some])
 (repeat first|refine aY ?_|refine aX ?_)
 refine bn rfl (fun K hK=>?_)
 go_simp
 refine hK _ _ ?_
 clear hK K
 (repeat first|refine aY ?_|refine aX ?_)
 refine cy ?_
 obtain⟨V,hV⟩:=bP (((((((((W1.setCell ⟨w.heap.size,0,none⟩ (.slice sa b.names.length sc)).setCell ⟨w.heap.size,1,none⟩ (.slice g0 l0 p0)).setCell ⟨w.heap.size,2,none⟩ (.int .i64 b.t0.root)).setCell ⟨w.heap.size,3,none⟩ (.slice g1 l1 p1)).setCell ⟨w.heap.size,4,none⟩ (.int .i64 b.t1.root)).setCell ⟨w.heap.size,5,none⟩ (.slice g2 l2 p2)).setCell ⟨w.heap.size,6,none⟩ (.int .i64 b.t2.root)).setCell ⟨w.heap.size,7,none⟩ (.int .i64 b.floor)))
 have P8:ah w V:=by rw [hV];exact cC vp.out.2 aH _ _ _ _ _ _ _ _
 have Xu:aM W0.heap.size W1 V:=by rw [hV];exact r9 (by have:=Io.out.2.1;omega) _ _ _ _ _ _ _ _
 have hK1:aM W0.heap.size w1 V:=(aM.of vp.out.1 aH).trans Xu
 have hbk:∀g,W0.heap.size<=g->g<w1.heap.size->V.heap[g]?=w1.heap[g]?:=fun g h1 h2=>hK1.block g h1 h2
 have kV:V.heap[w.heap.size]?=some (.cells (aG sa b.names.length sc g0 l0 p0 g1 l1 p1 g2 l2 p2 b) 35):=by rw [hV];exact jb OW.out
 obtain⟨p1',YH,YG,p4',p5',p6'⟩:=HP.out
 have hz0:=Io.out.2.1
 have kN:=hdd (show yK xs w (.returned (.tuple #[.slice oa qs.length oc, .agg (aG sa b.names.length sc g0 l0 p0 g1 l1 p1 g2 l2 p2 b), .int .i64 0])) V.drew from
  ⟨P8.drew,oa,oc,qs,b,sa,sc,g0,l0,p0,g1,l1,p1,g2,l2,p2,rfl,p1',eA.mono (B:=W0.heap.size) (YH.block fun g hg=>hbk g (YH.lt g hg).1 (YH.lt g hg).2) af,
   fun q hq=>OwnRows.mono (B:=W0.heap.size) ((YG q hq).block fun g hg=>hbk g ((YG q hq).lt g hg).1 ((YG q hq).lt g hg).2) af,
   fun w'' hw=>p4' w'' (hK1.trans ((aM.refl _ V).drew.trans (hw.mono af))),p5',p6'⟩)
 obtain⟨r0',ZU,r2',r3',r4',r5',r6',r7',-⟩:=fh (w:=V.drew) kV
 rw [<-hV]
 clear hV P8 Xu hK1 hbk kV p1' YH YG p4' p5' p6' hz0 r0 r1 r2 r3 r4 r5 r6 r7 rf c0 c1 c2 c3 c4 c5 c6 c7
 go_wp2_with fail
 exact bodyPost_ret (v:= .tuple #[.slice oa qs.length oc, .agg (aG sa b.names.length sc g0 l0 p0 g1 l1 p1 g2 l2 p2 b), .int .i64 0]) (by simp [results,Tryd.results14,aG,go_sem, *]) rfl kN.out
def C5 (xs:List Ac) (w:World) (e:Ending) (w':World):Prop:=ah w w'/\∃ao c,e = .returned (.tuple #[.slice ao (gK St.zero xs).m.bytes.length c, .bool true])/\az w.heap.size w' (.slice ao (gK St.zero xs).m.bytes.length c) (gK St.zero xs).m.bytes/\(gK St.zero xs).m.Ok xs.length
theorem mF {v:Value} (h:Jk w v xs) (hs:∀a∈xs,a.s.size<=140737488351232) (hl:xs.length<=500) (hsz:bL w) :
  Calls Tryd.prog 20 #[v] w (C5 xs w):=by
 obtain⟨ao,cap,rfl⟩:=h.isSlice
 have HR:=hdd (FO h hs hl hsz)
 have nN:=hdd hsz
 have HL:=hdd hl
 clear h hs hl hsz
 go_enter Tryd.func20,Tryd.ntmps20
 go_upto_region 2 with (go_at_call 14;(with_reducible refine HR.out.mono ?_);rintro e w1 ⟨hb1,oa,oc,qs,b,sa,sc,g0,l0,p0,g1,l1,p1,g2,l2,p2,rfl,-,-,-,je,Ep,hok⟩;have tX:=hdd hb1;have HP:=hdd (aL je (aL Ep hok));clear hb1 je Ep hok)
 obtain⟨W1,hW1⟩:=bP (w1.alloc (.cells (aG sa b.names.length sc g0 l0 p0 g1 l1 p1 g2 l2 p2 b) 35))
 have mL:ah w1 W1:=by rw [hW1];exact ag
 have k1:W1.heap[w1.heap.size]?=some (.cells (aG sa b.names.length sc g0 l0 p0 g1 l1 p1 g2 l2 p2 b) 35):=by rw [hW1];exact aj _ _ rfl
 obtain⟨c0,c1,c2,c3,c4,c5,c6,c7,-⟩:=fh k1
 have vp:=hdd (Below.trans' tX.out mL tX.out.size)
 have HE:=hdd (CO HP.out.2.1 (by have:=HL.out;omega) (HP.out.1 W1 (aM.of mL aH)) (nN.out.below vp.out))
 have nA:=hdd (by have h1:=HP.out.2.2 xs.length aH;rw [List.take_length]at h1;exact h1:(gK St.zero xs).m.Ok xs.length)
 have HZ:=hdd vp.out.size
 rw [<-hW1]
 clear hW1 mL k1
 obtain⟨X,hX⟩:=bt ((gK St.zero xs).m.bytes)
 rw [hX]at HE
 have HX:=hdd hX
 clear hX
 go_wp2_with (go_at_call 30;(with_reducible refine HE.out.mono ?_);rintro e w2 ⟨hb2,ro,rc,rfl,hro⟩;have gI:=hdd (aL hb2 hro);clear hb2 hro)
 go_ret2
 refine⟨Below.trans' vp.out gI.out.1 HZ.out,ro,rc,?_,?_,nA.out⟩
 ·rw [HX.out];rfl
 ·rw [HX.out];exact gI.out.2.mono HZ.out
theorem az.str {B:Nat} {ao:Option Addr} {c:Nat} {X:List Int} (h:az B w (.slice ao X.length c) X) (hl:X.length<=1000000) (hp:0<X.length) :
  ∃g o,ao=some ⟨g,o,none⟩/\∀w',ah w w'->(convert 54 9 (.slice (some ⟨g,o,none⟩) X.length c)).run Tryd.prog w' = .ok (.string (strOfNums X)) w':=by
 obtain⟨_,_,hv,-,-,-,-,q5⟩:=h.at hl
 obtain⟨g,o,ha,-⟩:=q5 hp
 injection hv with hv1 _ hv3
 subst hv1 hv3 ha
 exact⟨g,o,rfl,fun w' hb=>fw.str ((h.below hb aH).at hl)⟩
theorem Mo.Ok.wH {m:Mo} {N:Nat} (h:m.Ok N) (hN:N<=500):m.bytes.length<=1000000/\0<m.bytes.length:=by
 have h1:=h.len
 have h2:=h.fit.short af
 have h3:=Ai m.ns m.fl m.L
 have e:m.bytes.length=(dz m.ns m.fl m.L++ju (dz m.ns m.fl m.L)).length:=rfl
 have e2:(dz m.ns m.fl m.L++ju (dz m.ns m.fl m.L)).length=(dz m.ns m.fl m.L).length+4:=by rw [dO,yZ]
 omega
theorem AA.small {a:Ac} (_h:AA a) (hs:a.s=ByteArray.empty\/a.s∈jP):a.s.size<=140737488351232:=by
 rcases hs with h1|h1
 ·rw [h1];decide
 ·exact Gp _ h1
theorem KM (r:Rw):(pz r).s=ByteArray.empty\/(pz r).s∈jP:=by
 have h1:=(Bw r).1
 unfold pz
 split
 ·exact .inr h1
 ·split
  ·exact .inr h1
  ·split
   ·exact .inl rfl
   ·split
    ·exact .inl rfl
    ·split
     ·exact .inl rfl
     ·exact .inr h1
theorem qh {xs:List Rw}:∀a∈jh xs most,a.s.size<=140737488351232:=fun a ha=>by
 obtain⟨r,-,rfl⟩:=wN.1 ha
 exact(KN r).small (KM r)
theorem ve {xs:List Rw}:(jh xs most).length<=most:=by
 unfold jh
 rw [oJ,eP]
 omega
end Go.Proofs.YtmljjfhgciaceaaDoor
