import Derived.Test.YtmljjfhgciaceaaDoorHd
import Derived.Test.YtmljjfhgciaceaaDoorEG
import Derived.Test.YtmljjfhgciaceaaDoorActs
namespace Go.Proofs.YtmljjfhgciaceaaDoor
open Go.RowKit
set_option maxRecDepth 100000
set_option maxHeartbeats 4000000
variable {xs:List Rw} {most:Nat} {w:World}
theorem Fs {v:Value} {xs:List Ac} (h:Oq w v xs) (hs:∀a∈xs,a.s.size<=140737488351232) (hl:xs.length<=500) (hsz:bS w) :
  Calls Tryd.prog 14 #[v] w (yq xs w):=by
 obtain⟨ao,cap,rfl⟩:=h.isSlice
 obtain⟨W0,hW0⟩:=bQ (w.alloc (.cells cN 35))
 have hb0:ah w W0:=by rw [hW0];exact ag
 have hz0:W0.heap.size=w.heap.size+1:=by rw [hW0];simp
 have k0:W0.heap[w.heap.size]?=some (.cells cN 35):=by rw [hW0];exact aq _ _ rfl
 have HR:=hdd (Pf (h.below hb0 aI) hs hl (hsz.below hb0))
 have H6:=hdd (aM hb0 (aM hz0 k0))
 clear h hs hl hsz hb0 hz0 k0
 go_enter Tryd.func14,Tryd.ntmps14
 go_upto_region 1 with (fail)
 rw [<-hW0]
 clear hW0
 go_upto_region 2 with (go_at_call 28;(with_reducible refine HR.out.mono ?_);rintro e w1 ⟨hb1,oa,oc,qs,b,sa,sc,g0,l0,p0,g1,l1,p1,g2,l2,p2,rfl,han,hown,hrows,ku,his,hok⟩;have CE:=hdd hb1;have HP:=hdd (aM han (aM hown (aM hrows (aM ku (aM his hok)))));clear hb1 han hown hrows ku his hok)
 obtain⟨W1,hW1⟩:=bQ (w1.alloc (.cells (aH sa b.names.length sc g0 l0 p0 g1 l1 p1 g2 l2 p2 b) 35))
 have pj:ah w1 W1:=by rw [hW1];exact ag
 have k1:W1.heap[w1.heap.size]?=some (.cells (aH sa b.names.length sc g0 l0 p0 g1 l1 p1 g2 l2 p2 b) 35):=by rw [hW1];exact aq _ _ rfl
 obtain⟨c0,c1,c2,c3,c4,c5,c6,c7,-⟩:=gQ k1
 have k0:W1.heap[w.heap.size]?=some (.cells cN 35):=(pj.block _ (by have:=CE.out.size;have:=H6.out.2.1;omega)).trans ((CE.out.block _ (by have:=H6.out.2.1;omega)).trans H6.out.2.2)
 obtain⟨r0,r1,r2,r3,r4,r5,r6,r7,rf⟩:=gQ k0
 have OX:=hdd k0
 have xQ:=hdd (aM pj (Below.trans' (Below.trans' H6.out.1 CE.out H6.out.1.size) pj (by have:=CE.out.size;have:=H6.out.2.1;omega)))
 have PS:qs.length=xs.length:=by
  have h1:=congrArg List.length HP.out.1
  rw [nA,ng]at h1
  exact h1
 have hd:(((qs.length:Nat):Int) != ((xs.length:Nat):Int))=false:=by simp [PS]
 rw [<-hW1]
 clear hW1 pj k1 k0 PS
 go_upto_region 4 with (fail)
 refine bI [(0,1),(1,0),(2,1),(3,1),(4,3),(5,1)] 4 (fun W=>W.cell? ⟨w1.heap.size,0,none⟩=some (.slice sa b.names.length sc)/\W.cell? ⟨w1.heap.size,1,none⟩=some (.slice g0 l0 p0)/\W.cell? ⟨w1.heap.size,2,none⟩=some (.int .i64 b.t0.root)/\W.cell? ⟨w1.heap.size,3,none⟩=some (.slice g1 l1 p1)/\W.cell? ⟨w1.heap.size,4,none⟩=some (.int .i64 b.t1.root)/\W.cell? ⟨w1.heap.size,5,none⟩=some (.slice g2 l2 p2)/\W.cell? ⟨w1.heap.size,6,none⟩=some (.int .i64 b.t2.root)/\W.cell? ⟨w1.heap.size,7,none⟩=some (.int .i64 b.floor)) cy cy ⟨c0,c1,c2,c3,c4,c5,c6,c7⟩ ?_
 (simp only [bF,List.filterMap_cons,List.filterMap_nil,List.getElem?_cons_zero,List.getElem?_cons_succ,Option.map_some])
 (repeat first|refine bg ?_|refine aZ ?_)
 refine bp rfl (fun K hK=>?_)
 go_simp
 refine hK _ _ ?_
 clear hK K
 (repeat first|refine bg ?_|refine aZ ?_)
 refine cv ?_
 obtain⟨V,hV⟩:=bQ (((((((((W1.setCell ⟨w.heap.size,0,none⟩ (.slice sa b.names.length sc)).setCell ⟨w.heap.size,1,none⟩ (.slice g0 l0 p0)).setCell ⟨w.heap.size,2,none⟩ (.int .i64 b.t0.root)).setCell ⟨w.heap.size,3,none⟩ (.slice g1 l1 p1)).setCell ⟨w.heap.size,4,none⟩ (.int .i64 b.t1.root)).setCell ⟨w.heap.size,5,none⟩ (.slice g2 l2 p2)).setCell ⟨w.heap.size,6,none⟩ (.int .i64 b.t2.root)).setCell ⟨w.heap.size,7,none⟩ (.int .i64 b.floor)))
 have P7:ah w V:=by rw [hV];exact cF xQ.out.2 aI _ _ _ _ _ _ _ _
 have XF:aP W0.heap.size W1 V:=by rw [hV];exact rT (by have:=H6.out.2.1;omega) _ _ _ _ _ _ _ _
 have hK1:aP W0.heap.size w1 V:=(aP.of xQ.out.1 aI).trans XF
 have hbk:∀g,W0.heap.size<=g->g<w1.heap.size->V.heap[g]?=w1.heap[g]?:=fun g h1 h2=>hK1.block g h1 h2
 have kV:V.heap[w.heap.size]?=some (.cells (aH sa b.names.length sc g0 l0 p0 g1 l1 p1 g2 l2 p2 b) 35):=by rw [hV];exact jd OX.out
 obtain⟨VI,Sb,YJ,p4',p5',p6'⟩:=HP.out
 have hz0:=H6.out.2.1
 have kN:=hdd (show yq xs w (.returned (.tuple #[.slice oa qs.length oc, .agg (aH sa b.names.length sc g0 l0 p0 g1 l1 p1 g2 l2 p2 b), .int .i64 0])) V.drew from
  ⟨P7.drew,oa,oc,qs,b,sa,sc,g0,l0,p0,g1,l1,p1,g2,l2,p2,rfl,VI,dZ.mono (B:=W0.heap.size) (Sb.block fun g hg=>hbk g (Sb.lt g hg).1 (Sb.lt g hg).2) af,
   fun q hq=>OwnRows.mono (B:=W0.heap.size) ((YJ q hq).block fun g hg=>hbk g ((YJ q hq).lt g hg).1 ((YJ q hq).lt g hg).2) af,
   fun w'' hw=>p4' w'' (hK1.trans ((aP.refl _ V).drew.trans (hw.mono af))),p5',p6'⟩)
 obtain⟨r0',Z1,r2',r3',r4',r5',r6',r7',-⟩:=gQ (w:=V.drew) kV
 rw [<-hV]
 clear hV P7 XF hK1 hbk kV VI Sb YJ p4' p5' p6' hz0 r0 r1 r2 r3 r4 r5 r6 r7 rf c0 c1 c2 c3 c4 c5 c6 c7
 go_wp2_with fail
 exact bodyPost_ret (v:= .tuple #[.slice oa qs.length oc, .agg (aH sa b.names.length sc g0 l0 p0 g1 l1 p1 g2 l2 p2 b), .int .i64 0]) (by simp [results,Tryd.results14,aH,go_sem, *]) rfl kN.out
theorem aC.str {B:Nat} {ao:Option Addr} {c:Nat} {X:List Int} (h:aC B w (.slice ao X.length c) X) (hl:X.length<=1000000) (hp:0<X.length) :
  ∃g o,ao=some ⟨g,o,none⟩/\∀w',ah w w'->(convert 54 9 (.slice (some ⟨g,o,none⟩) X.length c)).run Tryd.prog w' = .ok (.string (strOfNums X)) w':=by
 obtain⟨_,_,hv,-,-,-,-,q5⟩:=h.at hl
 obtain⟨g,o,ha,-⟩:=q5 hp
 injection hv with hv1 _ hv3
 subst hv1 hv3 ha
 exact⟨g,o,rfl,fun w' hb=>fE.str ((h.below hb aI).at hl)⟩
theorem tS.small {a:Ac} (_h:tS a) (hs:a.s=ByteArray.empty\/a.s∈iH):a.s.size<=140737488351232:=by
 rcases hs with h1|h1
 ·rw [h1];decide
 ·exact F6 _ h1
theorem Ky (r:Rw):(pB r).s=ByteArray.empty\/(pB r).s∈iH:=by
 have h1:=(AX r).1
 unfold pB
 split
 ·exact .inr h1
 ·split
  ·exact .inr h1
  ·split
   ·exact .inl rfl
   ·split
    ·exact .inl rfl
    ·split
     ·exact .inl rfl
     ·exact .inr h1
theorem Ho:∀a∈jT xs most,a.s.size<=140737488351232:=fun a ha=>by
 obtain⟨r,-,rfl⟩:=lI.1 ha
 exact(Bu r).small (Ky r)
theorem NJ:(jT xs most).length<=most:=by
 unfold jT
 rw [nA,fw]
 omega
end Go.Proofs.YtmljjfhgciaceaaDoor
