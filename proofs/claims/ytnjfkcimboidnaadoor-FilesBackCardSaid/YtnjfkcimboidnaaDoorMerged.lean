/- The walk of tree.merged over a row of one's own. -/
import Derived.Test.YtnjfkcimboidnaaDoorPA
import Derived.Test.YtnjfkcimboidnaaDoorIG
import Derived.Test.YtnjfkcimboidnaaDoorGT
import Derived.Test.YtnjfkcimboidnaaDoorSR
import Derived.Test.YtnjfkcimboidnaaDoorKG
namespace Go.Proofs.YtnjfkcimboidnaaDoor
open Go.RowKit
def MergedPost (B:Nat) (w:World) (v:Value) (es:List Ent) (r:Option (List Ent)) (e:Ending) (w':World):Prop:=
 Turn (fun b=>v.ownBlock=some b) w w'∧(match r with|none=>e = .returned (.tuple #[v, .int .i64 1])∧OwnEnts B w' v es|some l=>∃v',e = .returned (.tuple #[v', .int .i64 0])∧OwnEnts B w' v' l∧∀b,v'.ownBlock=some b→v.ownBlock=some b∨w.heap.size≤b)
theorem flat_set1 (e:Ent) (R:List Value) (i j:Nat) (u:Value):(enEnt e++R).set ((i+1)*7+j) u=enEnt e++R.set (i*7+j) u:=by
 rw [show (i+1)*7+j=i*7+j+7 from by omega];rfl
theorem flat_set {y:Roll}:∀{es:List Ent} {i:Nat} (hi:i<es.length),(es.set i ⟨es[i].key,y⟩).flatMap enEnt =
  (((((((es.flatMap enEnt).set (i*7+1) (.int .i64 y.c)).set (i*7+2) (.int .i64 y.s)).set (i*7+3) (.int .i64 y.mi)).set (i*7+4) (.int .i64 y.ma)).set (i*7+5) (.int .i64 y.t)).set (i*7+6) (.int .i64 y.l))
 |[],i,hi=>by simp at hi
 |e::es,0,_=>rfl
 |e::es,i+1,hi=>by
  have ih:=flat_set (y:=y) (es:=es) (i:=i) (by simpa using hi)
  simp only [List.set_cons_succ,List.getElem_cons_succ,List.flatMap_cons]
  rw [flat_set1,flat_set1,flat_set1,flat_set1,flat_set1,flat_set1,ih]
theorem OwnEnts.set {B:Nat} {w:World} {g cap:Nat} {es:List Ent} {i:Nat} {y:Roll} (h:OwnEnts B w (.slice (some ⟨g,0,none⟩) es.length cap) es) (hi:i<es.length) :
  OwnEnts B ((((((w.setCell ⟨g,i*7+1,none⟩ (.int .i64 y.c)).setCell ⟨g,i*7+2,none⟩ (.int .i64 y.s)).setCell ⟨g,i*7+3,none⟩ (.int .i64 y.mi)).setCell ⟨g,i*7+4,none⟩ (.int .i64 y.ma)).setCell ⟨g,i*7+5,none⟩ (.int .i64 y.t)).setCell ⟨g,i*7+6,none⟩ (.int .i64 y.l)) (.slice (some ⟨g,0,none⟩) es.length cap) (es.set i ⟨es[i].key,y⟩):=by
 refine⟨?_⟩
 rw [flat_set hi,List.length_set]
 exact(World.ownsRow.stored (World.ownsRow.stored (World.ownsRow.stored (World.ownsRow.stored (World.ownsRow.stored (World.ownsRow.stored h.row _ _).1 _ _).1 _ _).1 _ _).1 _ _).1 _ _).1
set_option maxRecDepth 100000 in
set_option maxHeartbeats 1000000 in
theorem merged_any {B:Nat} {w:World} {v:Value} {es:List Ent} {x:Ent} (hown:OwnEnts B w v es) (hB:B≤w.heap.size) (hlen:es.length≤100000) (hs:Rising es) (hc:∀e∈es,rollCheck e.is=0) (hx:rollCheck x.is=0)
  (hk:∀e∈es,0≤e.key∧e.key<1099511627776) (hxk:0≤x.key∧x.key<1099511627776) :
  Calls Tryd.prog 73 #[v, .agg #[.int .i64 x.key, .int .i64 x.is.c, .int .i64 x.is.s, .int .i64 x.is.mi, .int .i64 x.is.ma, .int .i64 x.is.t, .int .i64 x.is.l]] w (MergedPost B w v es (insC es x)):=by
 obtain⟨so,sc,rfl⟩:=hown.isSlice
 obtain⟨W0,hW0⟩:∃W0,W0=w.alloc (.cells #[.int .i64 x.key, .int .i64 x.is.c, .int .i64 x.is.s, .int .i64 x.is.mi, .int .i64 x.is.ma, .int .i64 x.is.t, .int .i64 x.is.l] 96):=⟨_,rfl⟩
 have hb0:Below w.heap.size w W0:=by rw [hW0];exact belowAuto
 have hz0:W0.heap.size=w.heap.size+1:=by rw [hW0];simp
 have k0:W0.heap[w.heap.size]?=some (.cells #[.int .i64 x.key, .int .i64 x.is.c, .int .i64 x.is.s, .int .i64 x.is.mi, .int .i64 x.is.ma, .int .i64 x.is.t, .int .i64 x.is.l] 96):=by rw [hW0];exact heap_new _ _ rfl
 have hown0:OwnEnts B W0 (.slice so es.length sc) es:=hown.below hb0 (Nat.le_refl _)
 have HX:=Lib.hid fun w' (hb:Below W0.heap.size W0 w')=>(by
  have b0:w'.heap[w.heap.size]?=_:=(hb.block _ (by omega)).trans k0
  simp [World.cell?,b0]:w'.cell? ⟨w.heap.size,0,none⟩=some (.int .i64 x.key)∧w'.cell? ⟨w.heap.size,1,none⟩=some (.int .i64 x.is.c)∧w'.cell? ⟨w.heap.size,2,none⟩=some (.int .i64 x.is.s)∧w'.cell? ⟨w.heap.size,3,none⟩=some (.int .i64 x.is.mi)∧w'.cell? ⟨w.heap.size,4,none⟩=some (.int .i64 x.is.ma)∧w'.cell? ⟨w.heap.size,5,none⟩=some (.int .i64 x.is.t)∧w'.cell? ⟨w.heap.size,6,none⟩=some (.int .i64 x.is.l))
 have HAT:=Lib.hid (at_any (x:=x.key) (w:=W0) (hown0.at (by omega)) hs (fun e he=>by have:=hk e he;omega))
 obtain⟨hs',hhs⟩:∃hs',hasE es x.key=hs':=⟨_,rfl⟩
 obtain⟨ps,hps⟩:∃ps,posE es x.key=ps:=⟨_,rfl⟩
 rw [hhs,hps]at HAT
 have hpl:ps≤es.length:=by rw [←hps];exact(posE_spec hs).1
 obtain⟨q0,-⟩:=HX.out _ (Below.refl _ _)
 go_enter Tryd.func73,Tryd.ntmps73
 go_upto_region 1 with (fail)
 rw [←hW0]
 clear hW0 k0
 cases hs' with
 |false=>
  have HI:=Lib.hid (insC_new hs hhs)
  rw [hps]at HI
  go_upto_region 3 with ((go_at_call 76;(with_reducible refine HAT.out.mono ?_);rintro e w1 ⟨rfl,hb1⟩))
  obtain⟨x0,x1,x2,x3,x4,x5,x6⟩:=HX.out _ hb1
  have hown1:OwnEnts B w1 (.slice so es.length sc) es:=hown0.below hb1 (Nat.le_refl _)
  have ht1:Turn (fun b=>(Value.slice so es.length sc).ownBlock=some b) w w1:=Turn.of (Below.trans' hb0 hb1 hb0.size) (Nat.le_refl _)
  have hs1:B≤w1.heap.size:=by have:=hb1.size;omega
  obtain⟨W2,hW2⟩:∃W2,W2=w1.alloc (.cells #[.int .i64 x.key, .int .i64 x.is.c, .int .i64 x.is.s, .int .i64 x.is.mi, .int .i64 x.is.ma, .int .i64 x.is.t, .int .i64 x.is.l] 96):=⟨_,rfl⟩
  have HINS:=Lib.hid (insertE_any (B:=B) (w:=W2) (v:= .slice so es.length sc) (es:=es) (i:=ps) (vb:=w1.heap.size) (x:=x) (by rw [hW2];exact hown1.alloc _) hpl (by rw [hW2];simp;omega) hlen (by rw [hW2];exact heap_new _ _ rfl) (fun h=>by have:=(hown1.lt _ h).2;omega))
  have ht2:Turn (fun b=>(Value.slice so es.length sc).ownBlock=some b) w W2:=by rw [hW2];exact ht1.alloc _
  rw [hW2]at HINS
  clear hc hk hs hhs hps HAT HX
  go_wp2_with ((go_at_call 86;(with_reducible refine HINS.out.mono ?_);rintro e w3 ⟨v3,rfl,ho3,hg3,hl3⟩))
  go_ret2
  rw [HI.out]
  have hs2:w.heap.size≤W2.heap.size:=ht2.size
  exact⟨Turn.grown (hW2▸ht2) hg3 (fun k hk=> .inl hk),v3,rfl,ho3,fun b hb=>by
   rcases hl3 with h|h
   ·exact .inl (h.symm.trans hb)
   ·rw [←hW2,hb]at h;injection h with h;exact .inr (by omega)⟩
 |true=>
  obtain⟨i,hi,hp,hkk,-⟩:=hasE_true hs hhs
  obtain rfl:i=ps:=hp.symm.trans hps
  have HI:=Lib.hid (insC_old hi hs hp hkk)
  have HCI:=Lib.hid (hc _ (List.getElem_mem hi))
  have HKK:=Lib.hid hkk
  obtain⟨hl,⟨h0,h0'⟩|⟨g,cap,cur,hv,hBg,hg,-⟩⟩:=id hown.row
  ·omega
  injection hv with hv1 _ hv3
  subst hv1 hv3
  go_upto_region 4 with ((go_at_call 76;(with_reducible refine HAT.out.mono ?_);rintro e w9 ⟨rfl,hb1⟩))
  have hown9:OwnEnts B w9 (.slice (some ⟨g,0,none⟩) es.length sc) es:=hown0.below hb1 (Nat.le_refl _)
  have ht9:Turn (fun b=>(Value.slice (some ⟨g,0,none⟩) es.length sc).ownBlock=some b) w w9:=Turn.of (Below.trans' hb0 hb1 hb0.size) (Nat.le_refl _)
  have hs9:w.heap.size+1≤w9.heap.size:=by have:=hb1.size;omega
  have hg9:g<w9.heap.size:=(hown9.lt g rfl).2
  obtain⟨_,_,hv,-,-,-,-,h5⟩:=hown9.at (by omega)
  injection hv with hv1 _ hv3
  subst hv3
  obtain⟨eb,eoff,hla,heb,hec⟩:=h5 (by omega)
  rw [←hv1]at hla
  obtain⟨rfl,rfl⟩:g=eb∧0=eoff:=by injection hla with hla;injection hla with a1 a2;exact⟨a1,a2⟩
  obtain⟨-,y1,y2,y3,y4,y5,y6⟩:=ent_cells (Below.refl _ _) heb hec hi
  simp only [Nat.zero_add]at y1 y2 y3 y4 y5 y6
  obtain⟨y,hy⟩:∃y,es[i].is=y:=⟨_,rfl⟩
  rw [hy]at y1 y2 y3 y4 y5 y6 HI HCI
  obtain⟨J,E,hJE⟩:∃J E,rollMerge y x.is=(J,E):=⟨_,_,rfl⟩
  have HJE:=Lib.hid hJE
  have HM:=Lib.hid fun w'=>(by have:=merge_any y x.is w';rw [hJE]at this;exact this :
   Calls Tryd.prog 19 #[.agg #[.int .i64 y.c, .int .i64 y.s, .int .i64 y.mi, .int .i64 y.ma, .int .i64 y.t, .int .i64 y.l], .agg #[.int .i64 x.is.c, .int .i64 x.is.s, .int .i64 x.is.mi, .int .i64 x.is.ma, .int .i64 x.is.t, .int .i64 x.is.l]] w' fun e' w5=>e' = .returned (.tuple #[.agg #[.int .i64 J.c, .int .i64 J.s, .int .i64 J.mi, .int .i64 J.ma, .int .i64 J.t, .int .i64 J.l], .int .i64 E])∧Below w'.heap.size w' w5)
  obtain⟨-,x1,x2,x3,x4,x5,x6⟩:=HX.out _ hb1
  have hixe:=fun w'=>idx_ents (ab:=g) (aoff:=0) (n:=es.length) (cap:=sc) (show (i:Int)=((i:Nat):Int) by rfl) hi w'
  simp only [Nat.zero_add]at hixe
  have HS:=Lib.hid fun w' (hb:Below w9.heap.size w9 w')=>(by
   have gc:∀b o,b<w9.heap.size→w'.cell? ⟨b,o,none⟩=w9.cell? ⟨b,o,none⟩:=fun b o h=>hb.cell (p:=⟨b,o,none⟩) h
   have hxw:w.heap.size<w9.heap.size:=by omega
   rw [gc _ _ hxw,gc _ _ hxw,gc _ _ hxw,gc _ _ hxw,gc _ _ hxw,gc _ _ hxw,gc _ _ hg9,gc _ _ hg9,gc _ _ hg9,gc _ _ hg9,gc _ _ hg9,gc _ _ hg9]
   exact⟨x1,x2,x3,x4,x5,x6,y1,y2,y3,y4,y5,y6⟩:w'.cell? ⟨w.heap.size,1,none⟩=some (.int .i64 x.is.c)∧w'.cell? ⟨w.heap.size,2,none⟩=some (.int .i64 x.is.s)∧w'.cell? ⟨w.heap.size,3,none⟩=some (.int .i64 x.is.mi)∧w'.cell? ⟨w.heap.size,4,none⟩=some (.int .i64 x.is.ma)∧w'.cell? ⟨w.heap.size,5,none⟩=some (.int .i64 x.is.t)∧w'.cell? ⟨w.heap.size,6,none⟩=some (.int .i64 x.is.l)∧w'.cell? ⟨g,i*7+1,none⟩=some (.int .i64 y.c)∧w'.cell? ⟨g,i*7+2,none⟩=some (.int .i64 y.s)∧w'.cell? ⟨g,i*7+3,none⟩=some (.int .i64 y.mi)∧w'.cell? ⟨g,i*7+4,none⟩=some (.int .i64 y.ma)∧w'.cell? ⟨g,i*7+5,none⟩=some (.int .i64 y.t)∧w'.cell? ⟨g,i*7+6,none⟩=some (.int .i64 y.l))
  have b0:Below w9.heap.size w9 w9.drew:=(Below.refl _ _).drew
  have hs0:=HS.out _ b0
  clear hec h5 hJE hy y1 y2 y3 y4 y5 y6 x1 x2 x3 x4 x5 x6 hkk hp hps hhs HAT HX hc hk hs hla hv1 hl
  go_cut [8,9] (fun p c wx=>∃g2:Nat,p = .pointer (some ⟨g2,0,none⟩)∧c = .int .i64 E∧wx.heap[g2]?=some (.cells #[.int .i64 J.c, .int .i64 J.s, .int .i64 J.mi, .int .i64 J.ma, .int .i64 J.t, .int .i64 J.l] 42)∧w9.heap.size≤g2∧Below w9.heap.size w9 wx)
  case first=>
   go_region_held3 (fun w'=>w'.cell? ⟨w.heap.size,1,none⟩=some (.int .i64 x.is.c)∧w'.cell? ⟨w.heap.size,2,none⟩=some (.int .i64 x.is.s)∧w'.cell? ⟨w.heap.size,3,none⟩=some (.int .i64 x.is.mi)∧w'.cell? ⟨w.heap.size,4,none⟩=some (.int .i64 x.is.ma)∧w'.cell? ⟨w.heap.size,5,none⟩=some (.int .i64 x.is.t)∧w'.cell? ⟨w.heap.size,6,none⟩=some (.int .i64 x.is.l)∧w'.cell? ⟨g,i*7+1,none⟩=some (.int .i64 y.c)∧w'.cell? ⟨g,i*7+2,none⟩=some (.int .i64 y.s)∧w'.cell? ⟨g,i*7+3,none⟩=some (.int .i64 y.mi)∧w'.cell? ⟨g,i*7+4,none⟩=some (.int .i64 y.ma)∧w'.cell? ⟨g,i*7+5,none⟩=some (.int .i64 y.t)∧w'.cell? ⟨g,i*7+6,none⟩=some (.int .i64 y.l))
    (first|with_reducible exact hs0|(with_reducible refine HS.out _ ?_;exact belowAuto))
    (first
     |(go_at_call 19;(with_reducible refine(HM.out _).mono ?_);rintro e' w5 ⟨rfl,BE⟩;guard_hyp BE:Below w9.drew.heap.size w9.drew w5;have hb5:Below w9.heap.size w9 w5:=Below.trans' (show Below w9.heap.size w9 _ from belowAuto) BE (by first|omega|(simp;done)|(simp;omega)|(simp [drew_size];done)|(simp [drew_size];omega));have hsz5:=hb5.size)
     |(go_at_call 19;(with_reducible refine(HM.out _).mono ?_);rintro e' w5 ⟨rfl,BE⟩;obtain⟨q5,z0,z1,z2,z3,z4,z5,zf⟩:=zero_roll BE;have hb5:Below w9.heap.size w9 w5:=Below.trans' (show Below w9.heap.size w9 _ from belowAuto) BE (by first|omega|(simp;done)|(simp;omega)|(simp [drew_size];done)|(simp [drew_size];omega));have hsz5:=hb5.size))
   all_goals
    go_wp2_with fail
    go_meet
    refine⟨_,rfl,rfl,?_,?_,?_⟩
    ·first
     |with_reducible exact heap_new _ _ rfl
     |with_reducible exact heap_set6 q5
    ·(first|omega|(simp;done)|(simp;omega))
    ·exact belowAuto
  case rest=>
   obtain⟨g2,rfl,rfl,hg2,hgg,hbc⟩:=hcut
   have hownc:OwnEnts B wc (.slice (some ⟨g,0,none⟩) es.length sc) es:=hown9.below hbc (Nat.le_refl _)
   have htc:Turn (fun b=>(Value.slice (some ⟨g,0,none⟩) es.length sc).ownBlock=some b) w wc:=ht9.trans (Turn.of hbc (Nat.le_refl _))
   obtain⟨j0,j1,j2,j3,j4,j5,-⟩:=zero_cells hg2
   obtain⟨-,-,-,-,-,-,o1,o2,o3,o4,o5,o6⟩:=HS.out _ hbc
   have hfr:∀o,wc.frozen? ⟨g,o,none⟩=false:=World.ownsRow.frozenAt hownc.row
   clear hs0 b0 hown0 hown hown9 ht9 hbc hg2
   by_cases hcc:y.c+x.is.c≤1073741824
   ·obtain⟨rfl,rfl⟩:=Prod.mk.inj (HJE.out.symm.trans (merge_ok HCI.out hx hcc).1)
    have HI':=Lib.hid (HI.out.trans (if_pos hcc))
    generalize y.join x.is=J at *
    have HSET:=Lib.hid (hownc.set (y:=J) hi)
    rw [HKK.out]at HSET
    clear hcc HJE HM HI
    go_wp2
    go_ret2
    rw [HI'.out]
    refine⟨?_,_,rfl,HSET.out,fun b hb=> .inl hb⟩
    have hgo:(Value.slice (some ⟨g,0,none⟩) es.length sc).ownBlock=some g:=rfl
    exact Turn.setCell (Turn.setCell (Turn.setCell (Turn.setCell (Turn.setCell (Turn.setCell htc (.inl hgo) _) (.inl hgo) _) (.inl hgo) _) (.inl hgo) _) (.inl hgo) _) (.inl hgo) _
   ·obtain⟨rfl,rfl⟩:=Prod.mk.inj (HJE.out.symm.trans ((merge_fine HCI.out hx).trans (if_neg hcc)))
    have HI':=Lib.hid (HI.out.trans (if_neg hcc))
    clear hcc HJE HM HI
    go_wp2
    go_ret2
    rw [HI'.out]
    exact⟨htc,rfl,hownc⟩
end Go.Proofs.YtnjfkcimboidnaaDoor
