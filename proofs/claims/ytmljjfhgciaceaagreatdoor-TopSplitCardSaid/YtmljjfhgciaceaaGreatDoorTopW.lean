import Derived.Test.YtmljjfhgciaceaaGreatDoorHd
import Derived.Test.YtmljjfhgciaceaaGreatDoorEG
import Derived.Test.YtmljjfhgciaceaaGreatDoorActs
namespace Go.Proofs.YtmljjfhgciaceaaGreatDoor
open Go.RowKit
set_option maxRecDepth 100000
set_option maxHeartbeats 4000000
variable {xs:List Rw} {most:Nat} {w:World}
theorem Fw {v:Value} {xs:List Ac} (h:Ot w v xs) (hs:∀a∈xs,a.s.size<=140737488351232) (hl:xs.length<=500) (hsz:bS w) :
  Calls Tryz.prog 14 #[v] w (yw xs w):=by
 obtain⟨ao,cap,rfl⟩:=h.isSlice
 obtain⟨W0,hW0⟩:=bR (w.alloc (.cells cN 30))
 have hb0:ah w W0:=by rw [hW0];exact ag
 have hz0:W0.heap.size=w.heap.size+1:=by rw [hW0];simp
 have k0:W0.heap[w.heap.size]?=some (.cells cN 30):=by rw [hW0];exact aq _ _ rfl
 have HR:=hdd (Pk (h.below hb0 aI) hs hl (hsz.below hb0))
 have Ic:=hdd (aO hb0 (aO hz0 k0))
 clear h hs hl hsz hb0 hz0 k0
 go_enter Tryz.func14,Tryz.ntmps14
 go_upto_region 1 with (fail)
 rw [<-hW0]
 clear hW0
 go_upto_region 2 with (go_at_call 5;(with_reducible refine HR.out.mono ?_);rintro e w1 ⟨hb1,oa,oc,qs,b,sa,sc,g0,l0,p0,g1,l1,p1,g2,l2,p2,rfl,han,hown,hrows,kY,his,hok⟩;have KQ:=hdd hb1;have HP:=hdd (aO han (aO hown (aO hrows (aO kY (aO his hok)))));clear hb1 han hown hrows kY his hok)
 obtain⟨W1,hW1⟩:=bR (w1.alloc (.cells (aJ sa b.names.length sc g0 l0 p0 g1 l1 p1 g2 l2 p2 b) 30))
 have o8:ah w1 W1:=by rw [hW1];exact ag
 have k1:W1.heap[w1.heap.size]?=some (.cells (aJ sa b.names.length sc g0 l0 p0 g1 l1 p1 g2 l2 p2 b) 30):=by rw [hW1];exact aq _ _ rfl
 obtain⟨c0,c1,c2,c3,c4,c5,c6,c7,-⟩:=gS k1
 have k0:W1.heap[w.heap.size]?=some (.cells cN 30):=(o8.block _ (by have:=KQ.out.size;have:=Ic.out.2.1;omega)).trans ((KQ.out.block _ (by have:=Ic.out.2.1;omega)).trans Ic.out.2.2)
 obtain⟨r0,r1,r2,r3,r4,r5,r6,r7,rf⟩:=gS k0
 have O0:=hdd k0
 have xU:=hdd (aO o8 (Below.trans' (Below.trans' Ic.out.1 KQ.out Ic.out.1.size) o8 (by have:=KQ.out.size;have:=Ic.out.2.1;omega)))
 have PV:qs.length=xs.length:=by
  have h1:=congrArg List.length HP.out.1
  rw [po,na]at h1
  exact h1
 have hd:(((qs.length:Nat):Int) != ((xs.length:Nat):Int))=false:=by simp [PV]
 rw [<-hW1]
 clear hW1 o8 k1 k0 PV
 go_upto_region 4 with (fail)
 refine bH [(0,1),(1,0),(2,1),(3,1),(4,3),(5,1)] 4 (fun W=>W.cell? ⟨w1.heap.size,0,none⟩=some (.slice sa b.names.length sc)/\W.cell? ⟨w1.heap.size,1,none⟩=some (.slice g0 l0 p0)/\W.cell? ⟨w1.heap.size,2,none⟩=some (.int .i64 b.t0.root)/\W.cell? ⟨w1.heap.size,3,none⟩=some (.slice g1 l1 p1)/\W.cell? ⟨w1.heap.size,4,none⟩=some (.int .i64 b.t1.root)/\W.cell? ⟨w1.heap.size,5,none⟩=some (.slice g2 l2 p2)/\W.cell? ⟨w1.heap.size,6,none⟩=some (.int .i64 b.t2.root)/\W.cell? ⟨w1.heap.size,7,none⟩=some (.int .i64 b.floor)) cv cv ⟨c0,c1,c2,c3,c4,c5,c6,c7⟩ ?_
 (simp only [bF,List.filterMap_cons,List.filterMap_nil,List.getElem?_cons_zero,List.getElem?_cons_succ,Option.map_some])
 (repeat first|refine aV ?_|refine aU ?_)
 refine bn rfl (fun K hK=>?_)
 go_simp
 refine hK _ _ ?_
 clear hK K
 (repeat first|refine aV ?_|refine aU ?_)
 refine cj ?_
 obtain⟨V,hV⟩:=bR (((((((((W1.setCell ⟨w.heap.size,0,none⟩ (.slice sa b.names.length sc)).setCell ⟨w.heap.size,1,none⟩ (.slice g0 l0 p0)).setCell ⟨w.heap.size,2,none⟩ (.int .i64 b.t0.root)).setCell ⟨w.heap.size,3,none⟩ (.slice g1 l1 p1)).setCell ⟨w.heap.size,4,none⟩ (.int .i64 b.t1.root)).setCell ⟨w.heap.size,5,none⟩ (.slice g2 l2 p2)).setCell ⟨w.heap.size,6,none⟩ (.int .i64 b.t2.root)).setCell ⟨w.heap.size,7,none⟩ (.int .i64 b.floor)))
 have Qc:ah w V:=by rw [hV];exact cH xU.out.2 aI _ _ _ _ _ _ _ _
 have XJ:aQ W0.heap.size W1 V:=by rw [hV];exact rY (by have:=Ic.out.2.1;omega) _ _ _ _ _ _ _ _
 have hK1:aQ W0.heap.size w1 V:=(aQ.of xU.out.1 aI).trans XJ
 have hbk:∀g,W0.heap.size<=g->g<w1.heap.size->V.heap[g]?=w1.heap[g]?:=fun g h1 h2=>hK1.block g h1 h2
 have kV:V.heap[w.heap.size]?=some (.cells (aJ sa b.names.length sc g0 l0 p0 g1 l1 p1 g2 l2 p2 b) 30):=by rw [hV];exact jd O0.out
 obtain⟨p1',YR,YQ,p4',p5',p6'⟩:=HP.out
 have hz0:=Ic.out.2.1
 have jq:=hdd (show yw xs w (.returned (.tuple #[.slice oa qs.length oc, .agg (aJ sa b.names.length sc g0 l0 p0 g1 l1 p1 g2 l2 p2 b), .int .i64 0])) V.drew from
  ⟨Qc.drew,oa,oc,qs,b,sa,sc,g0,l0,p0,g1,l1,p1,g2,l2,p2,rfl,p1',dZ.mono (B:=W0.heap.size) (YR.block fun g hg=>hbk g (YR.lt g hg).1 (YR.lt g hg).2) af,
   fun q hq=>OwnRows.mono (B:=W0.heap.size) ((YQ q hq).block fun g hg=>hbk g ((YQ q hq).lt g hg).1 ((YQ q hq).lt g hg).2) af,
   fun w'' hw=>p4' w'' (hK1.trans ((aQ.refl _ V).drew.trans (hw.mono af))),p5',p6'⟩)
 obtain⟨r0',Z4,r2',r3',r4',r5',r6',r7',-⟩:=gS (w:=V.drew) kV
 rw [<-hV]
 clear hV Qc XJ hK1 hbk kV p1' YR YQ p4' p5' p6' hz0 r0 r1 r2 r3 r4 r5 r6 r7 rf c0 c1 c2 c3 c4 c5 c6 c7
 go_wp2_with fail
 exact bodyPost_ret (v:= .tuple #[.slice oa qs.length oc, .agg (aJ sa b.names.length sc g0 l0 p0 g1 l1 p1 g2 l2 p2 b), .int .i64 0]) (by simp [results,Tryz.results14,aJ,go_sem, *]) rfl jq.out
theorem aC.str {B:Nat} {ao:Option Addr} {c:Nat} {X:List Int} (h:aC B w (.slice ao X.length c) X) (hl:X.length<=1000000) (hp:0<X.length) :
  ∃g o,ao=some ⟨g,o,none⟩/\∀w',ah w w'->(convert 61 9 (.slice (some ⟨g,o,none⟩) X.length c)).run Tryz.prog w' = .ok (.string (strOfNums X)) w':=by
 obtain⟨_,_,hv,-,-,-,-,q5⟩:=h.at hl
 obtain⟨g,o,ha,-⟩:=q5 hp
 injection hv with hv1 _ hv3
 subst hv1 hv3 ha
 exact⟨g,o,rfl,fun w' hb=>fF.str ((h.below hb aI).at hl)⟩
theorem tU.small {a:Ac} (_h:tU a) (hs:a.s=ByteArray.empty\/a.s∈iG):a.s.size<=140737488351232:=by
 rcases hs with h1|h1
 ·rw [h1];decide
 ·exact F9 _ h1
theorem KA (r:Rw):(pz r).s=ByteArray.empty\/(pz r).s∈iG:=by
 have h1:=(A9 r).1
 unfold pz
 split
 ·exact .inr h1
 ·split
  ·exact .inr h1
  ·split
   ·exact .inl rfl
   ·split
    ·exact .inl rfl
    ·split
     ·exact .inl rfl
     ·exact .inr h1
theorem Ht:∀a∈kJ xs most,a.s.size<=140737488351232:=fun a ha=>by
 obtain⟨r,-,rfl⟩:=pn.1 ha
 exact(BF r).small (KA r)
theorem NL:(kJ xs most).length<=most:=by
 unfold kJ
 rw [po,fx]
 omega
end Go.Proofs.YtmljjfhgciaceaaGreatDoor
