/- Texts of mine that come as one: Rest SplitA SplitB SplitC SplitD Split. -/
import Derived.Test.YtnjfkcimboidnaaDoorDG
import Derived.Test.YtnjfkcimboidnaaDoorIG
import Derived.Test.YtnjfkcimboidnaaDoorSO
import Derived.Test.YtnjfkcimboidnaaDoorAW
/- The walk of builder.rest: what was to go down stays. -/
namespace Go.Proofs.YtnjfkcimboidnaaDoor
open Go.RowKit
theorem restF_some {n:Int} {t t':Tr} {e:Ent} (h:restF n t e=some t'):∃x b,t.at? n=some x∧RowOk x.buf∧EntOk e∧insC x.buf e=some b∧t'=setN t n { x with buf:=b }:=by
 unfold restF at h
 split at h
 ·cases h
 ·rename_i x hx
  obtain⟨b,hb,rfl⟩:=Option.map_eq_some_iff.1 h
  unfold insG at hb
  split at hb
  ·rename_i hg
   exact⟨x,b,hx,hg.1,hg.2,hb,rfl⟩
  ·cases hb
theorem own_stay {B:Nat} {F F':Nat→Prop} {w w':World} {v:Value} {es:List Ent} (h:OwnEnts B w v es) (hs:Stp F F' w w') (hF:∀b,v.ownBlock=some b→¬F b):OwnEnts B w' v es∧∀b,v.ownBlock=some b→¬F' b:=
 ⟨h.block fun g hg=>(hs.stay (h.lt g hg).2 (hF g hg)).1,fun b hb=>(hs.stay (h.lt b hb).2 (hF b hb)).2⟩
def BdPost (M:Nat) (bb:Nat) (F:Nat→Prop) (w:World) (t':Tr) (w':World):Prop:=∃nv' rs',Bd M w' bb nv' rs' t'∧Stp F (Foot bb nv' rs') w w'
set_option maxRecDepth 100000 in
set_option maxHeartbeats 4000000 in
theorem rest_any {M:Nat} {w:World} {bb:Nat} {nv:Value} {rs:List Raw} {t t':Tr} {n key:Int} {dv:Value} {all:List Ent} (h:Bd M w bb nv rs t) (hd:OwnEnts M w dv all) (hdF:∀b,dv.ownBlock=some b→¬Foot bb nv rs b) (hl:all.length≤20)
  (hF:(all.filter fun d=>decide (key<d.key)).foldlM (restF n) t=some t') :
  Calls Tryd.prog 102 #[.pointer (some ⟨bb,0,none⟩), .int .i64 n,dv, .int .i64 key] w fun e w'=>e = .returned (.tuple #[])∧BdPost M bb (Foot bb nv rs) w t' w':=by
 obtain⟨ds,dc,rfl⟩:=hd.isSlice
 have HST:=Lib.hid (And.intro h (And.intro hd (And.intro hdF hF)))
 clear h hd hdF hF
 go_enter Tryd.func102,Tryd.ntmps102
 go_wp2_with fail
 go_loopg [12] all.length (fun g i wr=>∃k:Nat,k≤all.length∧g=all.length-k∧i = .int .i64 k∧Hid (∃nv' rs' tk,Bd M wr bb nv' rs' tk∧Stp (Foot bb nv rs) (Foot bb nv' rs') w wr∧OwnEnts M wr (.slice ds all.length dc) all∧(∀b,(Value.slice ds all.length dc).ownBlock=some b→¬Foot bb nv' rs' b)∧((all.drop k).filter fun d=>decide (key<d.key)).foldlM (restF n) tk=some t'))
 case atStart=>exact⟨0,Nat.zero_le _,rfl,rfl,Lib.hid ⟨nv,rs,t,HST.out.1,Stp.refl _ _,HST.out.2.1,HST.out.2.2.1,HST.out.2.2.2⟩⟩
 case round=>
  clear HST
  obtain⟨k,hk,rfl,rfl,HR⟩:=hrel
  obtain⟨nv',rs',tk,hB,hS,ho,hoF,hf⟩:=HR.out
  by_cases hlt2:k<all.length
  ·obtain⟨_,_,hv,-,-,-,-,h5⟩:=ho.at (by omega)
   injection hv with hv1 _ hv3
   subst hv3
   obtain⟨eb,eoff,hla,heb,hec⟩:=h5 (by omega)
   subst hla
   subst hv1
   obtain⟨y0,y1,y2,y3,y4,y5,y6⟩:=ent_cells (Below.refl _ _) heb hec hlt2
   obtain⟨y,hy⟩:∃y,all[k]=y:=⟨_,rfl⟩
   rw [hy]at y0 y1 y2 y3 y4 y5 y6
   rw [List.drop_eq_getElem_cons hlt2,hy]at hf
   obtain⟨W8,hW8⟩:∃W8,W8=wr.alloc (.cells #[.int .i64 y.key, .int .i64 y.is.c, .int .i64 y.is.s, .int .i64 y.is.mi, .int .i64 y.is.ma, .int .i64 y.is.t, .int .i64 y.is.l] 96):=⟨_,rfl⟩
   have hb8:Below wr.heap.size wr W8:=by rw [hW8];exact belowAuto
   have hz8:W8.heap.size=wr.heap.size+1:=by rw [hW8];simp
   have k8:W8.heap[wr.heap.size]?=some (.cells #[.int .i64 y.key, .int .i64 y.is.c, .int .i64 y.is.s, .int .i64 y.is.mi, .int .i64 y.is.ma, .int .i64 y.is.t, .int .i64 y.is.l] 96):=by rw [hW8];exact heap_new _ _ rfl
   have hB8:=hB.below hb8 (Nat.le_refl _)
   have hS8:=hS.trans (Stp.of (F:=Foot bb nv' rs') hb8 (Nat.le_refl _))
   have ho8:=ho.below hb8 (Nat.le_refl _)
   have hF8:¬Foot bb nv' rs' wr.heap.size:=fun hf=>by have:=(hB.lt _ hf).2;omega
   have hix:=fun w'=>idx_ents (ab:=eb) (aoff:=eoff) (n:=all.length) (cap:=dc) (show (k:Int)=((k:Nat):Int) by rfl) hlt2 w'
   have s0:W8.cell? ⟨wr.heap.size,0,none⟩=some (.int .i64 y.key):=by simp [World.cell?,k8]
   have HK8:=Lib.hid k8
   have HALL:=Lib.hid (And.intro hB8 (And.intro hS8 (And.intro ho8 hoF)))
   have HF8:=Lib.hid hF8
   go_upto_region 3 with (fail)
   rw [←hW8]
   clear hB hS ho hoF hW8 hB8 hS8 ho8 hec h5 hy y0 y1 y2 y3 y4 y5 y6 k8 hix HR hF8
   by_cases i1:key<y.key
   ·rw [List.filter_cons_of_pos (by simpa using i1),List.foldlM_cons]at hf
    cases hr:restF n tk y with
    |none=>rw [hr]at hf;cases hf
    |some t1=>
     rw [hr]at hf
     have HREST:=Lib.hid (show ((all.drop (k+1)).filter fun d=>decide (key<d.key)).foldlM (restF n) t1=some t' from hf)
     obtain⟨x,b,hx,hrow,hent,hins,ht1⟩:=restF_some hr
     obtain⟨hB8,hS8,ho8,hoF⟩:=HALL.out
     obtain⟨j,nb,cap,r,rfl,rfl,hrj,hxj,hjl,hown⟩:=hB8.place hx
     obtain⟨c0,-,-,-,-,c4,cfn,cfb,hbl,hnl,hbn⟩:=hB8.cells hrj
     obtain⟨bs,bc,hbv⟩:=hown.buf.isSlice
     rw [hbv]at c4
     have hm:=merged_any (w:=W8.drew) (x:=y) (OwnEnts.drew (hbv▸hown.buf)) (by have:=hB8.low;show M≤W8.heap.size;omega) (by have:=hrow.2.2.2;omega) hrow.1 (fun e he=>(hrow.2.1 e he).2) hent.2.1 hrow.2.2.1 hent.2.2
     rw [hins]at hm
     have HM:=Lib.hid hm
     have hixn:=fun w'=>idx_node (ab:=nb) (aoff:=0) (n:=rs'.length) (cap:=cap) (show (j:Int)=((j:Nat):Int) by rfl) hjl w'
     simp only [Nat.zero_add]at hixn
     have HSW:=Lib.hid fun(W:World) (hT:Turn (fun b=>(Value.slice bs x.buf.length bc).ownBlock=some b) W8 W)=>(by
      have g1:∀b,b<W8.heap.size→(Value.slice bs x.buf.length bc).ownBlock≠some b→∀o,W.cell? ⟨b,o,none⟩=W8.cell? ⟨b,o,none⟩:=fun b hb hne o=>hT.cell hb hne o
      have hsl:∀b,(Value.slice bs x.buf.length bc).ownBlock=some b→b≠bb∧b≠nb∧b≠wr.heap.size:=fun b hb=>by
       rw [←hbv]at hb
       have:=hB8.off j r 3 b hrj hb
       exact⟨this.1,fun e=>this.2 (by rw [e];rfl),fun e=>HF8.out (by rw [←e];exact .inr (.inr ⟨j,r,3,hrj,hb⟩))⟩
      have e1:=g1 bb hbl (fun h=>(hsl bb h).1 rfl)
      have e2:=g1 nb hnl (fun h=>(hsl nb h).2.1 rfl)
      have e3:=g1 wr.heap.size (by omega) (fun h=>(hsl _ h).2.2 rfl)
      refine⟨(e1 0).trans c0,(e2 _).trans c4,?_⟩
      rw [e3,e3,e3,e3,e3,e3,e3]
      simp [World.cell?,HK8.out]:W.cell? ⟨bb,0,none⟩=some (.slice (some ⟨nb,0,none⟩) rs'.length cap)∧W.cell? ⟨nb,j*5+4,none⟩=some (.slice bs x.buf.length bc)∧W.cell? ⟨wr.heap.size,0,none⟩=some (.int .i64 y.key)∧W.cell? ⟨wr.heap.size,1,none⟩=some (.int .i64 y.is.c)∧W.cell? ⟨wr.heap.size,2,none⟩=some (.int .i64 y.is.s)∧W.cell? ⟨wr.heap.size,3,none⟩=some (.int .i64 y.is.mi)∧W.cell? ⟨wr.heap.size,4,none⟩=some (.int .i64 y.is.ma)∧W.cell? ⟨wr.heap.size,5,none⟩=some (.int .i64 y.is.t)∧W.cell? ⟨wr.heap.size,6,none⟩=some (.int .i64 y.is.l))
     have HFZ:=Lib.hid fun(W:World) (hT:Turn (fun b=>(Value.slice bs x.buf.length bc).ownBlock=some b) W8 W)=>(by
      have hne:(Value.slice bs x.buf.length bc).ownBlock≠some nb:=fun h=>by rw [←hbv]at h;exact(hB8.off j r 3 nb hrj h).2 rfl
      exact fun o=>(hT.frozen hnl hne o).trans (cfn o):∀o,W.frozen? ⟨nb,o,none⟩=false)
     have HNX:=Lib.hid fun(W:World) (v':Value) (hT:Turn (fun b=>(Value.slice bs x.buf.length bc).ownBlock=some b) W8 W) (hv:OwnEnts M W v' b) (hv':∀b,v'.ownBlock=some b→(Value.slice bs x.buf.length bc).ownBlock=some b∨W8.heap.size≤b)=>(by
      obtain⟨q1,q2⟩:=hB8.field (f:=3) rfl hrj hxj (by omega) (w1:=W) (v':=v') (x':={ x with buf:=b }) (by show Turn (fun b=>r.bv.ownBlock=some b) W8 W;rw [hbv];exact hT) hv.row (by show ∀b,v'.ownBlock=some b→r.bv.ownBlock=some b∨_;rw [hbv];exact hv') rfl (fun g hg=>by
       rcases Nat.lt_or_ge g 4 with h4|h4
       ·rcases lt4 h4 with rfl|rfl|rfl|rfl <;> first|exact⟨rfl,rfl⟩|exact absurd rfl hg
       ·obtain⟨k,rfl⟩:∃k,g=k+4:=⟨g-4,by omega⟩;exact⟨rfl,rfl⟩) rfl
      obtain⟨q3,q4⟩:=own_stay ho8 q2 hoF
      exact⟨_,_,t1,ht1▸q1,hS8.trans q2,q3,q4,HREST.out⟩:∃nv' rs' tk,Bd M (W.setCell ⟨nb,j*5+4,none⟩ v') bb nv' rs' tk∧Stp (Foot bb nv rs) (Foot bb nv' rs') w (W.setCell ⟨nb,j*5+4,none⟩ v')∧OwnEnts M (W.setCell ⟨nb,j*5+4,none⟩ v') (.slice (some ⟨eb,eoff,none⟩) all.length dc) all∧(∀b,(Value.slice (some ⟨eb,eoff,none⟩) all.length dc).ownBlock=some b→¬Foot bb nv' rs' b)∧((all.drop (k+1)).filter fun d=>decide (key<d.key)).foldlM (restF (j:Int)) tk=some t')
     clear hB8 hS8 ho8 hoF hx hrow hent hins ht1 hrj hxj hown hbv c0 c4 cfn cfb hm hr hf
     go_wp2_with fail
     refine wp_region_sched [(0,1),(1,1),(2,1),(3,1),(4,0),(5,1),(6,1),(7,1),(8,1),(9,1),(10,0),(11,1),(12,1),(13,1),(14,0),(15,0),(16,2),(17,1),(18,1),(19,1),(20,1),(21,1),(22,3)] 22
      (fun W=>W.cell? ⟨bb,0,none⟩=some (.slice (some ⟨nb,0,none⟩) rs'.length cap)∧W.cell? ⟨nb,j*5+4,none⟩=some (.slice bs x.buf.length bc)∧W.cell? ⟨wr.heap.size,0,none⟩=some (.int .i64 y.key)∧W.cell? ⟨wr.heap.size,1,none⟩=some (.int .i64 y.is.c)∧W.cell? ⟨wr.heap.size,2,none⟩=some (.int .i64 y.is.s)∧W.cell? ⟨wr.heap.size,3,none⟩=some (.int .i64 y.is.mi)∧W.cell? ⟨wr.heap.size,4,none⟩=some (.int .i64 y.is.ma)∧W.cell? ⟨wr.heap.size,5,none⟩=some (.int .i64 y.is.t)∧W.cell? ⟨wr.heap.size,6,none⟩=some (.int .i64 y.is.l)) (by kernel_rfl) (by kernel_rfl) (HSW.out _ (Turn.drew (Turn.refl _ _))) ?_
     (simp only [pickS,List.filterMap_cons,List.filterMap_nil,List.getElem?_cons_zero,List.getElem?_cons_succ,Option.map_some])
     (repeat (first|((refine sched_pure (v:=?_) rfl (fun W=>?_) ?_);rotate_left;focus (go_simp;(try with_reducible rfl);done))|((refine sched_read (v:=?_) rfl (fun W hW=>?_) ?_);rotate_left;focus ((try dsimp only at hW);go_simp;(try with_reducible rfl);done))))
     refine sched_does rfl (fun K hK=>?_)
     go_simp
     (with_reducible refine HM.out.mono ?_);rintro e w5 ⟨ht5,v5,rfl,ho5,hv5⟩
     have ht5':Turn (fun b=>(Value.slice bs x.buf.length bc).ownBlock=some b) W8 w5:=(Turn.drew (Turn.refl _ _)).trans ht5
     go_simp
     refine hK _ _ (HSW.out _ ht5') ?_
     clear hK K
     have HV:=Lib.hid (HNX.out w5 v5 ht5' ho5 hv5)
     have hfz:=HFZ.out _ ht5' (j*5+4)
     obtain⟨-,hc4,-⟩:=HSW.out _ ht5'
     obtain⟨s5,c5,rfl⟩:=ho5.isSlice
     clear ht5 ho5 hv5
     (repeat (first|((refine sched_pure (v:=?_) rfl (fun W=>?_) ?_);rotate_left;focus (go_simp;(try with_reducible rfl);done))|((refine sched_read (v:=?_) rfl (fun W hW=>?_) ?_);rotate_left;focus ((try dsimp only at hW);go_simp;(try with_reducible rfl);done))))
     refine sched_last rfl (fun K hK=>?_)
     go_simp
     refine hK _ _ ?_
     clear hK K
     refine sched_end ?_
     go_wp2
     go_roundg (all.length-(k+1))
     case measure=>omega
     case rel=>exact⟨k+1,by omega,rfl,by go_num,HV⟩
   ·rw [List.filter_cons_of_neg (by simpa using i1)]at hf
    have HV:=Lib.hid (by exact⟨_,_,tk,HALL.out.1,HALL.out.2.1,HALL.out.2.2.1,HALL.out.2.2.2,hf⟩:∃nv' rs' tk,Bd M W8 bb nv' rs' tk∧Stp (Foot bb nv rs) (Foot bb nv' rs') w W8∧OwnEnts M W8 (.slice (some ⟨eb,eoff,none⟩) all.length dc) all∧(∀b,(Value.slice (some ⟨eb,eoff,none⟩) all.length dc).ownBlock=some b→¬Foot bb nv' rs' b)∧((all.drop (k+1)).filter fun d=>decide (key<d.key)).foldlM (restF n) tk=some t')
    have i1':y.key≤key:=by omega
    clear hf i1
    go_wp2
    go_roundg (all.length-(k+1))
    case measure=>omega
    case rel=>exact⟨k+1,by omega,rfl,by go_num,HV⟩
  ·rw [List.drop_eq_nil_of_le (by omega)]at hf
   obtain rfl:=Option.some.inj hf
   have HV:=Lib.hid (show BdPost M bb (Foot bb nv rs) w tk wr from ⟨_,_,hB,hS⟩)
   clear hB hS ho hoF HR hf
   go_wp2
   go_end0
   exact⟨rfl,HV.out⟩
end Go.Proofs.YtnjfkcimboidnaaDoor

/- The walk of builder.split: where nothing is split; a leaf. -/
namespace Go.Proofs.YtnjfkcimboidnaaDoor
open Go.RowKit
theorem own_drop {M:Nat} {w:World} {g c i:Nat} {es:List Ent} (h:OwnEnts M w (.slice (some ⟨g,0,none⟩) es.length c) es) (hl:es.length≤1000) (hi:i≤es.length) (o:Nat) (ho:i<es.length→o=i*7) :
  EntsAt w (.slice (some ⟨g,o,none⟩) (es.length-i) (c-i)) (es.drop i):=by
 obtain⟨ao,cap,hv,h1,h2,h3,h4,h5⟩:=h.at (by omega)
 injection hv with hv1 _ hv3
 subst hv3
 refine⟨_,_,by rw [List.length_drop],by rw [List.length_drop];omega,by omega,by rw [List.length_drop];omega,by simp,fun h0=>?_⟩
 rw [List.length_drop]at h0
 obtain rfl:=ho (by omega)
 obtain⟨b,off,hb,hlt,hc⟩:=h5 (by omega)
 rw [←hv1]at hb
 injection hb with hb;injection hb with e1 e2
 subst e1 e2
 refine⟨g,i*7,rfl,hlt,fun k x hk j u hu=>?_⟩
 rw [List.getElem?_drop]at hk
 have:=hc (i+k) x hk j u hu
 rw [←this];congr 2;omega
theorem own_take {M:Nat} {w:World} {g c i:Nat} {es:List Ent} (h:OwnEnts M w (.slice (some ⟨g,0,none⟩) es.length c) es) (hl:es.length≤1000) (hi:i≤es.length) :
  EntsAt w (.slice (some ⟨g,0,none⟩) i c) (es.take i):=by
 obtain⟨ao,cap,hv,h1,h2,h3,h4,h5⟩:=h.at (by omega)
 injection hv with hv1 _ hv3
 subst hv3
 refine⟨_,_,by rw [List.length_take,Nat.min_eq_left hi],by rw [List.length_take,Nat.min_eq_left hi];omega,by omega,by rw [List.length_take,Nat.min_eq_left hi];omega,by simp,fun h0=>?_⟩
 rw [List.length_take,Nat.min_eq_left hi]at h0
 obtain⟨b,off,hb,hlt,hc⟩:=h5 (by omega)
 rw [←hv1]at hb
 injection hb with hb;injection hb with e1 e2
 subst e1 e2
 refine⟨g,0,rfl,hlt,fun k x hk j u hu=>hc k x ?_ j u hu⟩
 rw [List.getElem?_take]at hk
 split at hk
 ·exact hk
 ·cases hk
theorem ownI_drop {M:Nat} {w:World} {g c i:Nat} {es:List Int} (h:OwnInts M w (.slice (some ⟨g,0,none⟩) es.length c) es) (hl:es.length≤1000) (hi:i≤es.length) (o:Nat) (ho:i<es.length→o=i) :
  IntsAt w (.slice (some ⟨g,o,none⟩) (es.length-i) (c-i)) (es.drop i):=by
 obtain⟨ao,cap,hv,h1,h2,h3,h4,h5⟩:=h.at (by omega)
 injection hv with hv1 _ hv3
 subst hv3
 refine⟨_,_,by rw [List.length_drop],by rw [List.length_drop];omega,by omega,by rw [List.length_drop];omega,by simp,fun h0=>?_⟩
 rw [List.length_drop]at h0
 obtain rfl:=ho (by omega)
 obtain⟨b,off,hb,hlt,hc⟩:=h5 (by omega)
 rw [←hv1]at hb
 injection hb with hb;injection hb with e1 e2
 subst e1 e2
 refine⟨g,o,rfl,hlt,fun k x hk j u hu=>?_⟩
 rw [List.getElem?_drop]at hk
 have:=hc (o+k) x hk j u hu
 rw [←this];congr 2;omega
theorem ownI_take {M:Nat} {w:World} {g c i:Nat} {es:List Int} (h:OwnInts M w (.slice (some ⟨g,0,none⟩) es.length c) es) (hl:es.length≤1000) (hi:i≤es.length) :
  IntsAt w (.slice (some ⟨g,0,none⟩) i c) (es.take i):=by
 obtain⟨ao,cap,hv,h1,h2,h3,h4,h5⟩:=h.at (by omega)
 injection hv with hv1 _ hv3
 subst hv3
 refine⟨_,_,by rw [List.length_take,Nat.min_eq_left hi],by rw [List.length_take,Nat.min_eq_left hi];omega,by omega,by rw [List.length_take,Nat.min_eq_left hi];omega,by simp,fun h0=>?_⟩
 rw [List.length_take,Nat.min_eq_left hi]at h0
 obtain⟨b,off,hb,hlt,hc⟩:=h5 (by omega)
 rw [←hv1]at hb
 injection hb with hb;injection hb with e1 e2
 subst e1 e2
 refine⟨g,0,rfl,hlt,fun k x hk j u hu=>hc k x ?_ j u hu⟩
 rw [List.getElem?_take]at hk
 split at hk
 ·exact hk
 ·cases hk
theorem NdOwn.keys {M:Nat} {w:World} {r:Raw} {x:Nd} (h:NdOwn M w r x):OwnInts M w r.kv x.keys:=⟨h.row 1⟩
theorem NdOwn.kids {M:Nat} {w:World} {r:Raw} {x:Nd} (h:NdOwn M w r x):OwnInts M w r.dv x.kids:=⟨h.row 2⟩
set_option maxRecDepth 100000 in
set_option maxHeartbeats 4000000 in
theorem split_none {M:Nat} {w:World} {bb:Nat} {nv:Value} {rs:List Raw} {t:Tr} {n:Int} {x:Nd} (h:Bd M w bb nv rs t) (hx:t.at? n=some x) (hs:(x.leaf=true∧x.ents.length≤6)∨(x.leaf=false∧x.kids.length≤4)) :
  Calls Tryd.prog 89 #[.pointer (some ⟨bb,0,none⟩), .int .i64 n] w fun e w'=>e = .returned (.tuple #[.int .i64 (-1), .int .i64 0])∧BdPost M bb (Foot bb nv rs) w t w':=by
 obtain⟨j,nb,cap,r,rfl,rfl,hrj,hxj,hjl,hown⟩:=h.place hx
 obtain⟨c0,k0,k1,k2,k3,k4,cfn,cfb,hbl,hnl,hbn⟩:=h.cells hrj
 have HB:=Lib.hid fun w' (hb:Below w.heap.size w w')=>(⟨_,_,h.below hb (Nat.le_refl _),Stp.of hb (Nat.le_refl _)⟩:BdPost M bb (Foot bb (.slice (some ⟨nb,0,none⟩) rs.length cap) rs) w t w')
 obtain⟨es,ec,hev⟩:=hown.ents.isSlice
 obtain⟨ks,kc,hkv⟩:=hown.keys.isSlice
 obtain⟨ds,dc,hdv⟩:=hown.kids.isSlice
 obtain⟨bs,bc,hbv⟩:=hown.buf.isSlice
 rw [hown.leaf]at k0
 rw [hev]at k1
 rw [hkv]at k2
 rw [hdv]at k3
 rw [hbv]at k4
 have hixn:=fun w'=>idx_node (ab:=nb) (aoff:=0) (n:=rs.length) (cap:=cap) (show (j:Int)=((j:Nat):Int) by rfl) hjl w'
 simp only [Nat.zero_add]at hixn
 rcases hs with ⟨hl,hs⟩|⟨hl,hs⟩
 ·rw [hl]at k0
  have hs':(x.ents.length:Int)≤6:=by omega
  clear h hx hrj hxj hown hev hkv hdv hbv cfn cfb hl hs
  go_enter Tryd.func89,Tryd.ntmps89
  go_wp2
  go_ret2
  exact⟨rfl,HB.out _ belowAuto⟩
 ·rw [hl]at k0
  have hs':(x.kids.length:Int)≤4:=by omega
  clear h hx hrj hxj hown hev hkv hdv hbv cfn cfb hl hs
  go_enter Tryd.func89,Tryd.ntmps89
  go_wp2
  go_ret2
  exact⟨rfl,HB.out _ belowAuto⟩
end Go.Proofs.YtnjfkcimboidnaaDoor

/- The walk of builder.split: a leaf. -/
namespace Go.Proofs.YtnjfkcimboidnaaDoor
open Go.RowKit
theorem iNode_some:∃i0 z,Tryd.prog.info? 133=some i0∧i0.zero=some z∧i0.size=5∧i0.bytes=104∧z.cells.size=5:=by
 obtain⟨i0,z,hi,hz,hz1,hz2,hz3⟩:=info_some Tryd.iNode
 exact⟨i0,z,hi,hz,hz1,hz2,hz3⟩
theorem nil_own (M:Nat) (w:World) (e:TypeId) (k:Nat):w.ownsRow M e k (.slice none 0 0) 0 []:=World.ownsRow_nil _ _ _ _
set_option maxRecDepth 100000 in
set_option maxHeartbeats 4000000 in
theorem split_leaf {M:Nat} {w:World} {bb:Nat} {nv:Value} {rs:List Raw} {t:Tr} {n:Int} {x:Nd} (h:Bd M w bb nv rs t) (hx:t.at? n=some x) (hl:x.leaf=true) (h7:x.ents.length=7) (hm:t.nodes.length≤1000000000000) :
  Calls Tryd.prog 89 #[.pointer (some ⟨bb,0,none⟩), .int .i64 n] w fun e w'=>e = .returned (.tuple #[.int .i64 t.nodes.length, .int .i64 (x.ents.getD 3 default).key]) ∧
   BdPost M bb (Foot bb nv rs) w (setN (addN t ⟨true,x.ents.drop 3,[],[],[]⟩) n { x with ents:=x.ents.take 3 }) w':=by
 obtain⟨j,nb,cap,r,rfl,rfl,hrj,hxj,hjl,hown⟩:=h.place hx
 obtain⟨c0,k0,k1,k2,k3,k4,cfn,cfb,hbl,hnl,hbn⟩:=h.cells hrj
 obtain⟨es,ec,hev⟩:=hown.ents.isSlice
 obtain⟨ks,kc,hkv⟩:=hown.keys.isSlice
 obtain⟨ds,dc,hdv⟩:=hown.kids.isSlice
 obtain⟨bs,bc,hbv⟩:=hown.buf.isSlice
 have ho0:=hown.ents
 rw [hev]at ho0
 obtain⟨eb,ec',hes,-,-⟩:=World.ownsRow.form ho0.row (by omega)
 injection hes with hes1 _ hes3
 subst hes1 hes3
 have hec:7≤ec:=by obtain⟨_,_,hv,h1,_⟩:=ho0.at (by omega);injection hv with _ _ hv3;omega
 have heo:=h.off j r 0 eb hrj (by show r.ev.ownBlock=_;rw [hev];rfl)
 have hne1:eb≠bb:=heo.1
 have hne2:eb≠nb:=fun e=>heo.2 (by rw [e];rfl)
 have helt:eb<w.heap.size:=(ho0.lt eb rfl).2
 have hM:M≤w.heap.size:=by have:=(h.lt bb (.inl rfl)).1;omega
 rw [hown.leaf,hl]at k0
 rw [hev,h7]at k1
 rw [hkv]at k2
 rw [hdv]at k3
 rw [hbv]at k4
 have hixn:=fun w'=>idx_node (ab:=nb) (aoff:=0) (n:=rs.length) (cap:=cap) (show (j:Int)=((j:Nat):Int) by rfl) hjl w'
 simp only [Nat.zero_add]at hixn
 obtain⟨y,hy⟩:∃y,x.ents[3]?=some y:=⟨x.ents[3],by simp [h7]⟩
 have hyd:(x.ents.getD 3 default)=y:=by rw [List.getD_eq_getElem?_getD,hy];rfl
 have hycell:w.cell? ⟨eb,21,none⟩=some (.int .i64 y.key):=by
  obtain⟨ao,c,hv,h1,h2,h3,h4,h5⟩:=ho0.at (by omega)
  injection hv with hv1 _ hv3
  obtain⟨b,off,hb,hlt,hc⟩:=h5 (by omega)
  rw [←hv1]at hb
  injection hb with hb;injection hb with e1 e2
  subst e1 e2
  have:=hc 3 y hy 0 (.int .i64 y.key) rfl
  simpa using this
 rw [hyd]
 obtain⟨W1,hW1⟩:∃W1,W1=w.alloc (.cells #[.bool true, .slice (some ⟨eb,0,none⟩) 7 ec, .slice ks x.keys.length kc, .slice ds x.kids.length dc, .slice bs x.buf.length bc] 133):=⟨_,rfl⟩
 have hb1:Below w.heap.size w W1:=by rw [hW1];exact belowAuto
 have hz1:W1.heap.size=w.heap.size+1:=by rw [hW1];simp
 have kx:W1.heap[w.heap.size]?=some (.cells #[.bool true, .slice (some ⟨eb,0,none⟩) 7 ec, .slice ks x.keys.length kc, .slice ds x.kids.length dc, .slice bs x.buf.length bc] 133):=by rw [hW1];exact heap_new _ _ rfl
 have hB1:=h.below hb1 (Nat.le_refl _)
 have hS1:Stp (Foot bb (.slice (some ⟨nb,0,none⟩) rs.length cap) rs) (Foot bb (.slice (some ⟨nb,0,none⟩) rs.length cap) rs) w W1:=Stp.of hb1 (Nat.le_refl _)
 have ho1:=ho0.below hb1 (Nat.le_refl _)
 -- what no step of this function turns
 have HX:=Lib.hid fun(W:World) (hT:Turn (fun b=>b=bb∨b=nb) W1 W)=>(by
  have e1:W.heap[w.heap.size]?=_:=(hT.block _ (by omega) (by rintro(e|e) <;> omega)).trans kx
  have e2:W.heap[eb]?=w.heap[eb]?:=(hT.block eb (by omega) (by rintro(e|e) <;> contradiction)).trans (hb1.block eb helt)
  exact⟨by simp [World.cell?,e1],by simp [World.cell?,e1],by rw [World.cell?_of_block (a:=⟨eb,21,none⟩) e2];exact hycell,ho0.block fun g hg=>by injection hg with hg;subst hg;exact e2⟩ :
  W.cell? ⟨w.heap.size,0,none⟩=some (.bool true)∧W.cell? ⟨w.heap.size,1,none⟩=some (.slice (some ⟨eb,0,none⟩) 7 ec)∧W.cell? ⟨eb,21,none⟩=some (.int .i64 y.key)∧OwnEnts M W (.slice (some ⟨eb,0,none⟩) x.ents.length ec) x.ents)
 have HC:=Lib.hid fun(W:World) (hT:Turn (fun b=>b=bb∨b=nb) W1 W)=>(by
  have o:=(HX.out W hT).2.2.2
  have h1:=own_drop (i:=3) o (by omega) (by omega) 21 (fun _=>rfl)
  have h2:=own_take (i:=3) o (by omega) (by omega)
  rw [h7]at h1
  have c1:=cloneEnt_any h1
  have c2:=cloneEnt_any h2
  exact⟨c1,c2⟩:Calls Tryd.prog 72 #[.slice (some ⟨eb,21,none⟩) (7-3) (ec-3)] W (fun e w'=>∃v',e = .returned v'∧w'.ownsRow W.heap.size 96 7 v' (x.ents.drop 3).length ((x.ents.drop 3).flatMap enEnt)∧Below W.heap.size W w') ∧
   Calls Tryd.prog 72 #[.slice (some ⟨eb,0,none⟩) 3 ec] W (fun e w'=>∃v',e = .returned v'∧w'.ownsRow W.heap.size 96 7 v' (x.ents.take 3).length ((x.ents.take 3).flatMap enEnt)∧Below W.heap.size W w'))
 obtain⟨DR,hDR⟩:∃DR,x.ents.drop 3=DR:=⟨_,rfl⟩
 obtain⟨TK,hTK⟩:∃TK,x.ents.take 3=TK:=⟨_,rfl⟩
 rw [hDR,hTK]at HC ⊢
 clear hDR hTK
 obtain⟨i0,z0,hi0,hz0,hz1',hz2',hz3'⟩:=iNode_some
 have hlen:rs.length=t.nodes.length:=h.len
 have hrl:rs.length≤1000000000000:=by omega
 have HALL:=Lib.hid (And.intro hB1 (And.intro hS1 (And.intro hrj (And.intro hxj hev))))
 have hg2:¬(ec=3):=by omega
 have hg3:(3:Int)≤(ec:Int):=by omega
 have hbl1:bb<W1.heap.size:=by omega
 have hnl1:nb<W1.heap.size:=by omega
 have c0':W1.cell? ⟨bb,0,none⟩=some (.slice (some ⟨nb,0,none⟩) rs.length cap):=(hb1.cell (p:=⟨bb,0,none⟩) hbl).trans c0
 obtain⟨q0,q1,-⟩:=HX.out W1 (Turn.refl _ _)
 have HYK:=Lib.hid hy
 clear h hx hown hev hkv hdv hbv hl hlen ho0 ho1 hB1 hS1 heo hrj hxj hyd hy hycell
 go_enter Tryd.func89,Tryd.ntmps89
 go_upto_region 3 with (fail)
 rw [←hW1]
 clear hW1 k0 k1 k2 k3 k4 cfn c0 kx
 have HSW:=Lib.hid fun(W:World) (hT:Turn (fun b=>b=nb) W1 W)=>(⟨(hT.cell hbl1 hbn 0).trans c0',(HX.out W (hT.mono fun _ _ h=> .inr h)).2.1⟩:W.cell? ⟨bb,0,none⟩=some (.slice (some ⟨nb,0,none⟩) rs.length cap)∧W.cell? ⟨w.heap.size,1,none⟩=some (.slice (some ⟨eb,0,none⟩) 7 ec))
 have T0:Turn (fun b=>b=nb) W1 W1.drew:=(Turn.refl _ _).drew
 clear c0' q0 q1
 have q1:=(HSW.out W1 (Turn.refl _ _)).2
 go_wp2_with fail
 clear q1
 refine wp_region_sched [(0,1),(1,1),(2,1),(3,1),(4,1),(5,0),(6,1),(7,0),(8,1),(9,1),(10,2),(11,1),(12,2),(13,2),(14,1),(15,1),(16,1),(17,3)] 17 (fun W=>W.cell? ⟨bb,0,none⟩=some (.slice (some ⟨nb,0,none⟩) rs.length cap)∧W.cell? ⟨w.heap.size,1,none⟩=some (.slice (some ⟨eb,0,none⟩) 7 ec)) (by kernel_rfl) (by kernel_rfl) (HSW.out _ T0) ?_
 (simp only [pickS,List.filterMap_cons,List.filterMap_nil,List.getElem?_cons_zero,List.getElem?_cons_succ,Option.map_some])
 (repeat (first|((refine sched_pure (v:=?_) rfl (fun W=>?_) ?_);rotate_left;focus (go_simp;(try with_reducible rfl);done))|((refine sched_read (v:=?_) rfl (fun W hW=>?_) ?_);rotate_left;focus ((try dsimp only at hW);go_simp;(try with_reducible rfl);done))))
 refine sched_does rfl (fun K hK=>?_)
 go_simp
 (with_reducible refine(HC.out _ (T0.mono fun _ _ h=> .inr h)).1.mono ?_);rintro e w5 ⟨v5,rfl,ho5,hb5⟩
 obtain⟨s5,c5,rfl⟩:=(OwnEnts.mk ho5).isSlice
 have T5:Turn (fun b=>b=nb) W1 w5:=T0.trans (Turn.of hb5 (Nat.le_refl _))
 go_simp
 refine hK _ _ (HSW.out _ T5) ?_
 clear hK K
 (repeat (first|((refine sched_pure (v:=?_) rfl (fun W=>?_) ?_);rotate_left;focus (go_simp;(try with_reducible rfl);done))|((refine sched_read (v:=?_) rfl (fun W hW=>?_) ?_);rotate_left;focus ((try dsimp only at hW);go_simp;(try with_reducible rfl);done))))
 refine sched_does rfl (fun K hK=>?_)
 go_simp
 obtain⟨W6,hW6⟩:∃W6,W6=w5.alloc (.cells #[.bool true,(.slice s5 DR.length c5), .slice none 0 0, .slice none 0 0, .slice none 0 0] 133):=⟨_,rfl⟩
 have hb6:Below w5.heap.size w5 W6:=by rw [hW6];exact belowAuto
 have k6:W6.heap[w5.heap.size]?=some (.cells #[.bool true,(.slice s5 DR.length c5), .slice none 0 0, .slice none 0 0, .slice none 0 0] 133):=by rw [hW6];exact heap_new _ _ rfl
 have hz6:W6.heap.size=w5.heap.size+1:=by rw [hW6];simp
 rw [←hW6]
 have T6:Turn (fun b=>b=nb) W1 W6:=T5.trans (Turn.of hb6 (Nat.le_refl _))
 refine hK _ _ (HSW.out _ T6) ?_
 clear hK K hW6
 have hz5:W1.heap.size≤w5.heap.size:=T5.size
 have hB6:Below W1.heap.size W1 W6:=Below.trans' (show Below W1.heap.size W1 w5 from ⟨hb5.os,hb5.tape,hb5.output,hb5.size,hb5.block⟩) hb6 hz5
 have hrow6:=(HALL.out.1.below hB6 (Nat.le_refl _)).row
 refine sched_does rfl (fun K hK=>?_)
 refine wp_append_lies _ (.tmp 38) (.tmp 45) 30 rfl M 133 i0 z0 5 104 Tryd.underlying30 hi0 hz0 hz1' hz2' hz3' (by decide) _ rs.length _ rfl hrow6 ⟨w5.heap.size,0,none⟩ 1 1 (enRaw ⟨true,(.slice s5 DR.length c5), .slice none 0 0, .slice none 0 0, .slice none 0 0⟩) rfl rfl (World.news_of_block k6) ?hone (by decide) (by unfold maxLen;omega) (by omega) (by omega) W6.heap.size rfl ?_
 case hone=>
  intro u hu
  simp [enRaw]at hu
  rcases hu with rfl|rfl|rfl <;> rfl
 intro g cap' w7 hrow7 hgr7 hg7 hlt7
 have T7:Turn (fun b=>b=nb) W1 w7:=Turn.grown T6 hgr7 (fun k hk=> .inl (by injection hk with hk;exact hk.symm))
 refine hK _ _ (HSW.out _ T7) ?_
 clear hK K
 have hg7':g=nb∨g=W6.heap.size:=hg7.imp (fun h=>(Option.some.inj h).symm) id
 have hz7:=hgr7.size
 have HPUSH:=Lib.hid (HALL.out.1.push (w1:=w7) (nv':= .slice (some ⟨g,0,none⟩) (rs.length+1) cap') (r:=⟨true,(.slice s5 DR.length c5), .slice none 0 0, .slice none 0 0, .slice none 0 0⟩) (x:=⟨true,DR,[],[],[]⟩) (T7.mono fun b _ h=>by rw [h];rfl) hrow7 (fun b hb=>by
   have hb:g=b:=Option.some.inj hb
   subst hb
   rcases hg7' with e|e
   ·left;rw [e];rfl
   ·right;rw [e];omega) (by
   have hv5:∀b,(Value.slice s5 DR.length c5).ownBlock=some b→W1.heap.size≤b∧b<w5.heap.size:=fun b hb=>ho5.lt b hb
   refine⟨NdOwn.of rfl (owns_block (owns_mono ho5 (by show M≤W1.heap.size;omega)) fun b hb=>?_) (nil_own _ _ _ _) (nil_own _ _ _ _) (nil_own _ _ _ _),fun f b hb=>?_,fun f g b hb hb'=>?_⟩
   ·have:=hv5 b hb
    exact(hgr7.block b (by omega) (fun e=>by have e:b=nb:=Option.some.inj e;omega)).trans (hb6.block b (by omega))
   ·rcases Nat.lt_or_ge f 4 with h4|h4
    ·rcases lt4 h4 with rfl|rfl|rfl|rfl
     ·have:=hv5 b hb;omega
     ·cases hb
     ·cases hb
     ·cases hb
    ·rw [Raw.fld_big _ h4]at hb;cases hb
   ·have z:∀f b,(Raw.fld ⟨true,(.slice s5 DR.length c5), .slice none 0 0, .slice none 0 0, .slice none 0 0⟩ f).ownBlock=some b→f=0:=fun f b hb=>by
     rcases Nat.lt_or_ge f 4 with h4|h4
     ·rcases lt4 h4 with rfl|rfl|rfl|rfl <;> first|rfl|cases hb
     ·rw [Raw.fld_big _ h4]at hb;cases hb
    rw [z f b hb,z g b hb']) (fun f b hb e=>by
   have e:g=b:=Option.some.inj e
   rcases Nat.lt_or_ge f 4 with h4|h4
   ·rcases lt4 h4 with rfl|rfl|rfl|rfl
    ·have:=ho5.lt b hb
     have:W1.heap.size≤b:=this.1
     omega
    ·cases hb
    ·cases hb
    ·cases hb
   ·rw [Raw.fld_big _ h4]at hb;cases hb))
 obtain⟨d0,-⟩:=HSW.out _ T7
 have d1:w7.frozen? ⟨bb,0,none⟩=false:=(T7.frozen hbl1 hbn 0).trans ((hb1.frozen (p:=⟨bb,0,none⟩) hbl).trans (cfb 0))
 (repeat (first|((refine sched_pure (v:=?_) rfl (fun W=>?_) ?_);rotate_left;focus (go_simp;(try with_reducible rfl);done))|((refine sched_read (v:=?_) rfl (fun W hW=>?_) ?_);rotate_left;focus ((try dsimp only at hW);go_simp;(try with_reducible rfl);done))))
 refine sched_last rfl (fun K hK=>?_)
 go_simp
 refine hK _ _ ?_
 clear hK K
 refine sched_end ?_
 have T8:Turn (fun b=>b=bb∨b=nb) W1 (w7.setCell ⟨bb,0,none⟩ (.slice (some ⟨g,0,none⟩) (rs.length+1) cap')):=(T7.mono fun _ _ h=> .inr h).setCell (.inl (.inl rfl)) _
 generalize w7.setCell ⟨bb,0,none⟩ (.slice (some ⟨g,0,none⟩) (rs.length+1) cap')=W8 at HPUSH T8 ⊢
 clear HSW T0 T5 T6 T7 hb5 ho5 hb6 hB6 hrow6 k6 hrow7 hgr7 hg7 hlt7 d0 d1
 have hrj8:(rs++[(⟨true,(.slice s5 DR.length c5), .slice none 0 0, .slice none 0 0, .slice none 0 0⟩:Raw)])[j]?=some r:=by rw [List.getElem?_append_left hjl];exact HALL.out.2.2.1
 have hxj8:(addN t ⟨true,DR,[],[],[]⟩).nodes[j]?=some x:=by
  have:=HALL.out.2.2.2.1
  exact(List.getElem?_append_left (List.getElem?_eq_some_iff.1 this).1).trans this
 have hl8:(rs++[(⟨true,(.slice s5 DR.length c5), .slice none 0 0, .slice none 0 0, .slice none 0 0⟩:Raw)]).length=rs.length+1:=by simp
 have hcells:=HPUSH.out.1
 rw [←hl8]at hcells
 obtain⟨e0,-,e1,-,-,-,efn,-,e2,e3,e4⟩:=hcells.cells hrj8
 rw [hl8]at e0
 have hixg:=fun w'=>idx_node (ab:=g) (aoff:=0) (n:=rs.length+1) (cap:=cap') (show (j:Int)=((j:Nat):Int) by rfl) (by omega) w'
 simp only [Nat.zero_add]at hixg
 have HSW:=Lib.hid fun(W:World) (hT:Below W8.heap.size W8 W)=>(⟨(hT.cell (p:=⟨bb,0,none⟩) e2).trans e0,(HX.out W (T8.trans (Turn.of hT (Nat.le_refl _)))).2.1⟩:W.cell? ⟨bb,0,none⟩=some (.slice (some ⟨g,0,none⟩) (rs.length+1) cap')∧W.cell? ⟨w.heap.size,1,none⟩=some (.slice (some ⟨eb,0,none⟩) 7 ec))
 have T0:Below W8.heap.size W8 W8.drew:=(Below.refl _ _).drew
 have HE1:=Lib.hid e1
 have HEF:=Lib.hid efn
 have HHC:=Lib.hid hcells
 clear hcells e0 e1 efn hixn
 go_wp2_with fail
 refine wp_region_sched [(0,1),(1,1),(2,1),(3,1),(4,0),(5,1),(6,1),(7,0),(8,1),(9,1),(10,2),(11,1),(12,1),(13,3)] 13 (fun W=>W.cell? ⟨bb,0,none⟩=some (.slice (some ⟨g,0,none⟩) (rs.length+1) cap')∧W.cell? ⟨w.heap.size,1,none⟩=some (.slice (some ⟨eb,0,none⟩) 7 ec)) (by kernel_rfl) (by kernel_rfl) (HSW.out _ T0) ?_
 (simp only [pickS,List.filterMap_cons,List.filterMap_nil,List.getElem?_cons_zero,List.getElem?_cons_succ,Option.map_some])
 (repeat (first|((refine sched_pure (v:=?_) rfl (fun W=>?_) ?_);rotate_left;focus (go_simp;(try with_reducible rfl);done))|((refine sched_read (v:=?_) rfl (fun W hW=>?_) ?_);rotate_left;focus ((try dsimp only at hW);go_simp;(try with_reducible rfl);done))))
 refine sched_does rfl (fun K hK=>?_)
 go_simp
 (with_reducible refine(HC.out _ (T8.trans (Turn.of T0 (Nat.le_refl _)))).2.mono ?_);rintro e w9 ⟨v9,rfl,ho9,hb9⟩
 obtain⟨s9,c9',rfl⟩:=(OwnEnts.mk ho9).isSlice
 have B9:Below W8.heap.size W8 w9:=Below.trans' T0 hb9 (Nat.le_refl _)
 go_simp
 refine hK _ _ (HSW.out _ B9) ?_
 clear hK K
 have d3:w9.cell? ⟨g,j*5+1,none⟩=some r.ev:=(B9.cell (p:=⟨g,_,none⟩) e3).trans HE1.out
 have d4:w9.frozen? ⟨g,j*5+1,none⟩=false:=(B9.frozen (p:=⟨g,_,none⟩) e3).trans (HEF.out _)
 have hz8:=T8.size
 have HFLD:=Lib.hid (HHC.out.field (f:=0) (n:=j) (w1:=w9) (v':= .slice s9 TK.length c9') (x':={ x with ents:=TK }) rfl hrj8 hxj8 (by omega) (Turn.of B9 (Nat.le_refl _)) (owns_mono ho9 (by show M≤W8.heap.size;omega)) (fun b hb=> .inr (ho9.lt b hb).1) rfl (fun g hg=>by
  rcases Nat.lt_or_ge g 4 with h4|h4
  ·rcases lt4 h4 with rfl|rfl|rfl|rfl <;> first|exact⟨rfl,rfl⟩|exact absurd rfl hg
  ·obtain⟨k,rfl⟩:∃k,g=k+4:=⟨g-4,by omega⟩;exact⟨rfl,rfl⟩) (o:=j*5+1) rfl)
 (repeat (first|((refine sched_pure (v:=?_) rfl (fun W=>?_) ?_);rotate_left;focus (go_simp;(try with_reducible rfl);done))|((refine sched_read (v:=?_) rfl (fun W hW=>?_) ?_);rotate_left;focus ((try dsimp only at hW);go_simp;(try with_reducible rfl);done))))
 refine sched_last rfl (fun K hK=>?_)
 go_simp
 refine hK _ _ ?_
 clear hK K
 refine sched_end ?_
 have hgE:eb≠g:=by
  rcases hg7' with e|e
  ·rw [e];exact hne2
  ·omega
 have hgX:w.heap.size≠g:=by
  rcases hg7' with e|e
  ·rw [e];omega
  ·omega
 have c9:=HSW.out _ B9
 have x9:=HX.out _ (T8.trans (Turn.of B9 (Nat.le_refl _)))
 have f0:(w9.setCell ⟨g,j*5+1,none⟩ (.slice s9 TK.length c9')).cell? ⟨bb,0,none⟩=some (.slice (some ⟨g,0,none⟩) (rs.length+1) cap'):=by rw [World.cell?_of_block (a:=⟨bb,0,none⟩) (heap_setCell_other w9 ⟨g,_,none⟩ bb (.slice s9 TK.length c9') e4)];exact c9.1
 have f1:(w9.setCell ⟨g,j*5+1,none⟩ (.slice s9 TK.length c9')).cell? ⟨w.heap.size,1,none⟩=some (.slice (some ⟨eb,0,none⟩) 7 ec):=by rw [World.cell?_of_block (a:=⟨w.heap.size,1,none⟩) (heap_setCell_other w9 ⟨g,_,none⟩ _ (.slice s9 TK.length c9') hgX)];exact c9.2
 have f2:(w9.setCell ⟨g,j*5+1,none⟩ (.slice s9 TK.length c9')).cell? ⟨eb,21,none⟩=some (.int .i64 y.key):=by rw [World.cell?_of_block (a:=⟨eb,21,none⟩) (heap_setCell_other w9 ⟨g,_,none⟩ _ (.slice s9 TK.length c9') hgE)];exact x9.2.2.1
 generalize w9.setCell ⟨g,j*5+1,none⟩ (.slice s9 TK.length c9')=WA at HFLD f0 f1 f2 ⊢
 clear HSW d3 d4 c9 x9 ho9 hb9 B9 T0 T8 HC HX
 have hw0:IntKind.i64.wrap ((rs.length:Int)+1-1)=(rs.length:Int)+1-1:=IntWalk.i64_in _ (by omega)
 have hw1:IntKind.i64.wrap ((rs.length:Int)+1-1)=(rs.length:Int):=by rw [hw0];omega
 clear hw0
 have hlen:rs.length=t.nodes.length:=HALL.out.1.len
 go_wp2_with fail
 go_quiet (fail)
 go_wp2
 go_ret2
 have hbA:Below WA.heap.size WA WA:=Below.refl _ _
 exact⟨rfl,_,_,HFLD.out.1.below (show Below WA.heap.size WA _ from belowAuto) (Nat.le_refl _),((HALL.out.2.1.trans HPUSH.out.2).trans HFLD.out.2).trans (Stp.of (show Below WA.heap.size WA _ from belowAuto) (Nat.le_refl _))⟩
end Go.Proofs.YtnjfkcimboidnaaDoor

/- The walk of builder.split: an inner node. -/
namespace Go.Proofs.YtnjfkcimboidnaaDoor
open Go.RowKit
theorem fresh5 {M H:Nat} {w:World} {lf:Bool} {x:Nd} {v1 v2 v3:Value} {a b c:Nat} (hl:x.leaf=lf) (he:x.ents=[]) (h1:w.ownsRow M 3 1 v1 x.keys.length (x.keys.flatMap enInt)) (h2:w.ownsRow M 3 1 v2 x.kids.length (x.kids.flatMap enInt))
  (h3:w.ownsRow M 96 7 v3 x.buf.length (x.buf.flatMap enEnt)) (k1:∀g,v1.ownBlock=some g→H≤g∧g<a) (k2:∀g,v2.ownBlock=some g→a≤g∧g<b) (k3:∀g,v3.ownBlock=some g→b≤g∧g<c) (hab:H≤a) (hbc:a≤b) (hc:b≤c) (hcw:c≤w.heap.size) :
  Fresh M H w ⟨lf, .slice none 0 0,v1,v2,v3⟩ x∧∀f g,(Raw.fld ⟨lf, .slice none 0 0,v1,v2,v3⟩ f).ownBlock=some g→H≤g∧g<c:=by
 have src:∀f g,(Raw.fld ⟨lf, .slice none 0 0,v1,v2,v3⟩ f).ownBlock=some g→(f=1∧H≤g∧g<a)∨(f=2∧a≤g∧g<b)∨(f=3∧b≤g∧g<c):=fun f g hg=>by
  rcases Nat.lt_or_ge f 4 with h4|h4
  ·rcases lt4 h4 with rfl|rfl|rfl|rfl
   ·cases hg
   ·exact .inl ⟨rfl,k1 g hg⟩
   ·exact .inr (.inl ⟨rfl,k2 g hg⟩)
   ·exact .inr (.inr ⟨rfl,k3 g hg⟩)
  ·rw [Raw.fld_big _ h4]at hg;cases hg
 refine⟨⟨NdOwn.of hl.symm (by rw [he];exact nil_own _ _ _ _) h1 h2 h3,fun f g hg=>?_,fun f f' g hg hg'=>?_⟩,fun f g hg=>?_⟩
 ·rcases src f g hg with h|h|h <;> omega
 ·rcases src f g hg with h|h|h <;> rcases src f' g hg' with h'|h'|h' <;> omega
 ·rcases src f g hg with h|h|h <;> omega
set_option maxRecDepth 100000 in
set_option maxHeartbeats 6000000 in
theorem split_inner_own {M:Nat} {w:World} {bb nb cap j:Nat} {rs:List Raw} {t:Tr} {x:Nd} {r:Raw} {gb bl bc o:Nat} (h:Bd M w bb (.slice (some ⟨nb,0,none⟩) rs.length cap) rs t) (hrj:rs[j]?=some r) (hxj:t.nodes[j]?=some x) (hjl:j<rs.length) (hown:NdOwn M w r x) (hbv:r.bv = .slice (some ⟨gb,0,none⟩) bl bc)
  (hl:x.leaf=false) (h5:x.kids.length=5) (h4:x.keys.length=4) (hrow:RowOk x.buf) (hkr:0≤x.keys.getD 1 0∧x.keys.getD 1 0≤1099511627776) (hm:t.nodes.length≤1000000000000) (hbl0:x.buf.length=bl) (hsel:(if bc=posE x.buf (x.keys.getD 1 0)then some (⟨gb,0,none⟩:Addr)else some ⟨gb,posE x.buf (x.keys.getD 1 0)*7,none⟩)=some ⟨gb,o,none⟩) :
  Calls Tryd.prog 89 #[.pointer (some ⟨bb,0,none⟩), .int .i64 (j:Int)] w fun e w'=>e = .returned (.tuple #[.int .i64 t.nodes.length, .int .i64 (x.keys.getD 1 0)]) ∧
   BdPost M bb (Foot bb (.slice (some ⟨nb,0,none⟩) rs.length cap) rs) w (setN (addN t ⟨false,[],x.keys.drop 2,x.kids.drop 2,x.buf.drop (posE x.buf (x.keys.getD 1 0))⟩) j ⟨false,[],x.keys.take 1,x.kids.take 2,x.buf.take (posE x.buf (x.keys.getD 1 0))⟩) w':=by
 obtain⟨c0,k0,k1,k2,k3,k4,cfn,cfb,hbl,hnl,hbn⟩:=h.cells hrj
 obtain⟨es,ec,hev⟩:=hown.ents.isSlice
 obtain⟨ks,kc,hkv⟩:=hown.keys.isSlice
 obtain⟨ds,dc,hdv⟩:=hown.kids.isSlice
 have hok:=hown.keys
 have hod:=hown.kids
 have hob:=hown.buf
 rw [hkv]at hok
 rw [hdv]at hod
 rw [hbv]at hob
 obtain⟨kb,kc',hks,-,-⟩:=World.ownsRow.form hok.row (by omega)
 injection hks with hks1 _ hks3
 subst hks1 hks3
 obtain⟨db,dc',hds,-,-⟩:=World.ownsRow.form hod.row (by omega)
 injection hds with hds1 _ hds3
 subst hds1 hds3
 have hkc:4≤kc:=by obtain⟨_,_,hv,h1,_⟩:=hok.at (by omega);injection hv with _ _ hv3;omega
 have hdc:5≤dc:=by obtain⟨_,_,hv,h1,_⟩:=hod.at (by omega);injection hv with _ _ hv3;omega
 have hko:=h.off j r 1 kb hrj (by show r.kv.ownBlock=_;rw [hkv];rfl)
 have hdo:=h.off j r 2 db hrj (by show r.dv.ownBlock=_;rw [hdv];rfl)
 have hbo:∀g,(Value.slice (some ⟨gb,0,none⟩) bl bc).ownBlock=some g→g≠bb∧g≠nb:=fun g hg=>by
  have:=h.off j r 3 g hrj (by show r.bv.ownBlock=_;rw [hbv];exact hg)
  exact⟨this.1,fun e=>this.2 (by rw [e];rfl)⟩
 have hk2:kb≠nb:=fun e=>hko.2 (by rw [e];rfl)
 have hd2:db≠nb:=fun e=>hdo.2 (by rw [e];rfl)
 have hkl:kb<w.heap.size:=(hok.lt kb rfl).2
 have hdl:db<w.heap.size:=(hod.lt db rfl).2
 have hM:M≤w.heap.size:=by have:=(h.lt bb (.inl rfl)).1;omega
 rw [hown.leaf,hl]at k0
 rw [hev]at k1
 rw [hkv,h4]at k2
 rw [hdv,h5]at k3
 rw [hbv]at k4
 have hixn:=fun w'=>idx_node (ab:=nb) (aoff:=0) (n:=rs.length) (cap:=cap) (show (j:Int)=((j:Nat):Int) by rfl) hjl w'
 simp only [Nat.zero_add]at hixn
 obtain⟨key,hy⟩:∃y,x.keys[1]?=some y:=⟨x.keys[1],by simp [h4]⟩
 have hyd:x.keys.getD 1 0=key:=by rw [List.getD_eq_getElem?_getD,hy];rfl
 obtain⟨_,_,_,hgk,-,hyc⟩:=IntsAt.get (hok.at (by omega)) hy
 injection hgk with hgk _ hgk3
 subst hgk3
 injection hgk with hgk
 injection hgk with hgk1 hgk2
 subst hgk1 hgk2
 simp only [Nat.zero_add]at hyc
 rw [hyd]at hkr ⊢
 rw [hyd]at hsel
 obtain⟨i,hi⟩:∃i,posE x.buf key=i:=⟨_,rfl⟩
 have hil:i≤x.buf.length:=by rw [←hi];exact(posE_spec hrow.1).1
 rw [hi]at hsel ⊢
 obtain⟨W1,hW1⟩:∃W1,W1=w.alloc (.cells #[.bool false, .slice es x.ents.length ec, .slice (some ⟨kb,0,none⟩) 4 kc, .slice (some ⟨db,0,none⟩) 5 dc, .slice (some ⟨gb,0,none⟩) bl bc] 133):=⟨_,rfl⟩
 have hb1:Below w.heap.size w W1:=by rw [hW1];exact belowAuto
 have hz1:W1.heap.size=w.heap.size+1:=by rw [hW1];simp
 have kx:W1.heap[w.heap.size]?=some (.cells #[.bool false, .slice es x.ents.length ec, .slice (some ⟨kb,0,none⟩) 4 kc, .slice (some ⟨db,0,none⟩) 5 dc, .slice (some ⟨gb,0,none⟩) bl bc] 133):=by rw [hW1];exact heap_new _ _ rfl
 have hB1:=h.below hb1 (Nat.le_refl _)
 have hS1:Stp (Foot bb (.slice (some ⟨nb,0,none⟩) rs.length cap) rs) (Foot bb (.slice (some ⟨nb,0,none⟩) rs.length cap) rs) w W1:=Stp.of hb1 (Nat.le_refl _)
 have HX:=Lib.hid fun(W:World) (hT:Turn (fun b=>b=bb∨b=nb) W1 W)=>(by
  have e1:W.heap[w.heap.size]?=_:=(hT.block _ (by omega) (by rintro(e|e) <;> omega)).trans kx
  have e2:W.heap[kb]?=w.heap[kb]?:=(hT.block kb (by omega) (by rintro(e|e);exact hko.1 e;exact hk2 e)).trans (hb1.block kb hkl)
  have e3:W.heap[db]?=w.heap[db]?:=(hT.block db (by omega) (by rintro(e|e);exact hdo.1 e;exact hd2 e)).trans (hb1.block db hdl)
  have e4:∀g,(Value.slice (some ⟨gb,0,none⟩) bl bc).ownBlock=some g→W.heap[g]?=w.heap[g]?:=fun g hg=>(hT.block g (by have:=(hob.lt g hg).2;omega) (by rintro(e|e);exact(hbo g hg).1 e;exact(hbo g hg).2 e)).trans (hb1.block g (hob.lt g hg).2)
  refine⟨by simp [World.cell?,e1],by simp [World.cell?,e1],by simp [World.cell?,e1],by simp [World.cell?,e1],by rw [World.cell?_of_block (a:=⟨kb,1,none⟩) e2];exact hyc,hok.block fun g hg=>?_,hod.block fun g hg=>?_,hob.block e4⟩
  ·injection hg with hg;subst hg;exact e2
  ·injection hg with hg;subst hg;exact e3 :
  W.cell? ⟨w.heap.size,0,none⟩=some (.bool false)∧W.cell? ⟨w.heap.size,2,none⟩=some (.slice (some ⟨kb,0,none⟩) 4 kc)∧W.cell? ⟨w.heap.size,3,none⟩=some (.slice (some ⟨db,0,none⟩) 5 dc)∧W.cell? ⟨w.heap.size,4,none⟩=some (Value.slice (some ⟨gb,0,none⟩) bl bc)∧W.cell? ⟨kb,1,none⟩=some (.int .i64 key) ∧
  OwnInts M W (.slice (some ⟨kb,0,none⟩) x.keys.length kc) x.keys∧OwnInts M W (.slice (some ⟨db,0,none⟩) x.kids.length dc) x.kids∧OwnEnts M W (Value.slice (some ⟨gb,0,none⟩) bl bc) x.buf)
 have HC:=Lib.hid fun(W:World) (hT:Turn (fun b=>b=bb∨b=nb) W1 W)=>(by
  obtain⟨-,-,-,-,-,o1,o2,o3⟩:=HX.out W hT
  have a1:=ownI_drop (i:=2) o1 (by omega) (by omega) 2 (fun _=>rfl)
  have a2:=ownI_take (i:=1) o1 (by omega) (by omega)
  have b1:=ownI_drop (i:=2) o2 (by omega) (by omega) 2 (fun _=>rfl)
  have b2:=ownI_take (i:=2) o2 (by omega) (by omega)
  rw [h4]at a1
  rw [h5]at b1
  have hbc:x.buf.length≤bc:=by obtain⟨_,_,hv,h1,_⟩:=o3.at (by have:=hrow.2.2.2;omega);injection hv with _ _ hv3;omega
  rw [←hbl0]at o3 ⊢
  have c1:=own_drop (i:=i) o3 (by have:=hrow.2.2.2;omega) hil o (fun h=>by
   by_cases hb:bc=i
   ·omega
   ·rw [if_neg hb]at hsel;injection hsel with hsel;injection hsel with _ hs2;exact hs2.symm)
  have c2:=own_take (i:=i) o3 (by have:=hrow.2.2.2;omega) hil
  exact⟨cloneInt_any a1,cloneInt_any b1,cloneEnt_any c1,cloneInt_any a2,cloneInt_any b2,cloneEnt_any c2⟩ :
  Calls Tryd.prog 88 #[.slice (some ⟨kb,2,none⟩) (4-2) (kc-2)] W (fun e w'=>∃v',e = .returned v'∧w'.ownsRow W.heap.size 3 1 v' (x.keys.drop 2).length ((x.keys.drop 2).flatMap enInt)∧Below W.heap.size W w') ∧
  Calls Tryd.prog 88 #[.slice (some ⟨db,2,none⟩) (5-2) (dc-2)] W (fun e w'=>∃v',e = .returned v'∧w'.ownsRow W.heap.size 3 1 v' (x.kids.drop 2).length ((x.kids.drop 2).flatMap enInt)∧Below W.heap.size W w') ∧
  Calls Tryd.prog 72 #[.slice (some ⟨gb,o,none⟩) (bl-i) (bc-i)] W (fun e w'=>∃v',e = .returned v'∧w'.ownsRow W.heap.size 96 7 v' (x.buf.drop i).length ((x.buf.drop i).flatMap enEnt)∧Below W.heap.size W w') ∧
  Calls Tryd.prog 88 #[.slice (some ⟨kb,0,none⟩) 1 kc] W (fun e w'=>∃v',e = .returned v'∧w'.ownsRow W.heap.size 3 1 v' (x.keys.take 1).length ((x.keys.take 1).flatMap enInt)∧Below W.heap.size W w') ∧
  Calls Tryd.prog 88 #[.slice (some ⟨db,0,none⟩) 2 dc] W (fun e w'=>∃v',e = .returned v'∧w'.ownsRow W.heap.size 3 1 v' (x.kids.take 2).length ((x.kids.take 2).flatMap enInt)∧Below W.heap.size W w') ∧
  Calls Tryd.prog 72 #[.slice (some ⟨gb,0,none⟩) i bc] W (fun e w'=>∃v',e = .returned v'∧w'.ownsRow W.heap.size 96 7 v' (x.buf.take i).length ((x.buf.take i).flatMap enEnt)∧Below W.heap.size W w'))
 have HATT:=Lib.hid fun(W:World) (hT:Turn (fun b=>b=bb∨b=nb) W1 W)=>(by
  have:=at_any (x:=key) ((HX.out W hT).2.2.2.2.2.2.2.at (by have:=hrow.2.2.2;omega)) hrow.1 (fun e he=>by have:=hrow.2.2.1 e he;omega)
  rw [hi]at this
  exact this:Calls Tryd.prog 76 #[.slice (some ⟨gb,0,none⟩) bl bc, .int .i64 key] W fun r w'=>r = .returned (.tuple #[.int .i64 (i:Int), .bool (hasE x.buf key)])∧Below W.heap.size W w')
 obtain⟨hs,hhs⟩:∃hs,hasE x.buf key=hs:=⟨_,rfl⟩
 rw [hhs]at HATT
 clear hhs
 obtain⟨KD,hKD⟩:∃DR,x.keys.drop 2=DR:=⟨_,rfl⟩
 obtain⟨KT,hKT⟩:∃DR,x.keys.take 1=DR:=⟨_,rfl⟩
 obtain⟨DD,hDD⟩:∃DR,x.kids.drop 2=DR:=⟨_,rfl⟩
 obtain⟨DT,hDT⟩:∃DR,x.kids.take 2=DR:=⟨_,rfl⟩
 obtain⟨BD,hBD⟩:∃DR,x.buf.drop i=DR:=⟨_,rfl⟩
 obtain⟨BT,hBT⟩:∃DR,x.buf.take i=DR:=⟨_,rfl⟩
 rw [hKD,hKT,hDD,hDT,hBD,hBT]at HC
 rw [hKD,hKT,hDD,hDT,hBD,hBT]
 clear hKD hKT hDD hDT hBD hBT
 obtain⟨i0,z0,hi0,hz0,hz1',hz2',hz3'⟩:=iNode_some
 have hlen:rs.length=t.nodes.length:=h.len
 have hrl:rs.length≤1000000000000:=by omega
 have HALL:=Lib.hid (And.intro hB1 (And.intro hS1 (And.intro hrj hxj)))
 have hg2:¬(kc=2):=by omega
 have hg3:(2:Int)≤(kc:Int):=by omega
 have hg4:(1:Int)≤(kc:Int):=by omega
 have hg5:¬(dc=2):=by omega
 have hg6:(2:Int)≤(dc:Int):=by omega
 have hbc:bl≤bc:=by
  rw [hbl0]at hil
  have:=hrow.2.2.2
  obtain⟨_,_,hv,h1,_⟩:=hob.at (by omega)
  injection hv with _ _ hv3;omega
 have hbl9:bl≤20:=by rw [←hbl0];exact hrow.2.2.2
 rw [hbl0]at hil
 have hb1':(i:Int)≤(bl:Int):=by omega
 have hb2':(i:Int)≤(bc:Int):=by omega
 have hb3':i≤bc:=by omega
 clear hbl0
 have hbl1:bb<W1.heap.size:=by omega
 have hnl1:nb<W1.heap.size:=by omega
 have c0':W1.cell? ⟨bb,0,none⟩=some (.slice (some ⟨nb,0,none⟩) rs.length cap):=(hb1.cell (p:=⟨bb,0,none⟩) hbl).trans c0
 obtain⟨q0,q2,q3,q4,qk,-⟩:=HX.out W1 (Turn.refl _ _)
 clear h hown hev hkv hdv hbv hl hlen hok hod hob hB1 hS1 hko hdo hbo hrj hxj hyd hy hyc hrow hi hkr
 go_enter Tryd.func89,Tryd.ntmps89
 go_upto_region 2 with (fail)
 rw [←hW1]
 clear hW1 k0 k1 k2 k3 k4 cfn c0 kx
 have HSW:=Lib.hid fun(W:World) (hT:Turn (fun b=>b=nb) W1 W)=>(by
  obtain⟨-,g2,g3,g4,-⟩:=HX.out W (hT.mono fun _ _ h=> .inr h)
  exact⟨(hT.cell hbl1 hbn 0).trans c0',g2,g3,g4⟩:W.cell? ⟨bb,0,none⟩=some (.slice (some ⟨nb,0,none⟩) rs.length cap)∧W.cell? ⟨w.heap.size,2,none⟩=some (.slice (some ⟨kb,0,none⟩) 4 kc)∧W.cell? ⟨w.heap.size,3,none⟩=some (.slice (some ⟨db,0,none⟩) 5 dc)∧W.cell? ⟨w.heap.size,4,none⟩=some (Value.slice (some ⟨gb,0,none⟩) bl bc))
 clear c0'
 go_wp2_with ((go_at_call 76;(with_reducible refine(HATT.out _ (Turn.refl _ _)).mono ?_);rintro e w2 ⟨rfl,hb2⟩))
 clear q0 q2 q3 q4 qk
 have T2:Turn (fun b=>b=nb) W1 w2:=Turn.of hb2 (Nat.le_refl _)
 have T0:Turn (fun b=>b=nb) W1 w2.drew:=T2.drew
 refine wp_region_sched [(0,1),(1,1),(2,1),(3,1),(4,1),(5,0),(6,1),(7,0),(8,1),(9,1),(11,1),(12,0),(13,1),(14,1),(16,1),(17,0),(18,1),(19,1),(10,2),(15,2),(20,2),(21,1),(22,2),(23,2),(24,1),(25,1),(26,1),(27,3)] 27 (fun W=>W.cell? ⟨bb,0,none⟩=some (.slice (some ⟨nb,0,none⟩) rs.length cap)∧W.cell? ⟨w.heap.size,2,none⟩=some (.slice (some ⟨kb,0,none⟩) 4 kc)∧W.cell? ⟨w.heap.size,3,none⟩=some (.slice (some ⟨db,0,none⟩) 5 dc)∧W.cell? ⟨w.heap.size,4,none⟩=some (Value.slice (some ⟨gb,0,none⟩) bl bc)) (by kernel_rfl) (by kernel_rfl) (HSW.out _ T0) ?_
 (simp only [pickS,List.filterMap_cons,List.filterMap_nil,List.getElem?_cons_zero,List.getElem?_cons_succ,Option.map_some])
 (repeat (first|((refine sched_pure (v:=?_) rfl (fun W=>?_) ?_);rotate_left;focus (go_simp;(try with_reducible rfl);done))|((refine sched_read (v:=?_) rfl (fun W hW=>?_) ?_);rotate_left;focus ((try dsimp only at hW);go_simp;(try with_reducible rfl);done))))
 refine sched_does rfl (fun K hK=>?_)
 go_simp
 (with_reducible refine(HC.out _ (T0.mono fun _ _ h=> .inr h)).1.mono ?_);rintro e w3 ⟨v3,rfl,ho3,hb3⟩
 obtain⟨s3,c3,rfl⟩:=(OwnInts.mk ho3).isSlice
 have T3:Turn (fun b=>b=nb) W1 w3:=T0.trans (Turn.of hb3 (Nat.le_refl _))
 go_simp
 refine hK _ _ (HSW.out _ T3) ?_
 clear hK K
 (repeat (first|((refine sched_pure (v:=?_) rfl (fun W=>?_) ?_);rotate_left;focus (go_simp;(try with_reducible rfl);done))|((refine sched_read (v:=?_) rfl (fun W hW=>?_) ?_);rotate_left;focus ((try dsimp only at hW);go_simp;(try with_reducible rfl);done))))
 refine sched_does rfl (fun K hK=>?_)
 go_simp
 (with_reducible refine(HC.out _ (T3.mono fun _ _ h=> .inr h)).2.1.mono ?_);rintro e w4 ⟨v4,rfl,ho4,hb4⟩
 obtain⟨s4,c4,rfl⟩:=(OwnInts.mk ho4).isSlice
 have T4:Turn (fun b=>b=nb) W1 w4:=T3.trans (Turn.of hb4 (Nat.le_refl _))
 go_simp
 refine hK _ _ (HSW.out _ T4) ?_
 clear hK K
 (repeat (first|((refine sched_pure (v:=?_) rfl (fun W=>?_) ?_);rotate_left;focus (go_simp;(try with_reducible rfl);done))|((refine sched_read (v:=?_) rfl (fun W hW=>?_) ?_);rotate_left;focus ((try dsimp only at hW);go_simp;(try with_reducible rfl);done))))
 refine sched_does rfl (fun K hK=>?_)
 go_simp
 (with_reducible refine(HC.out _ (T4.mono fun _ _ h=> .inr h)).2.2.1.mono ?_);rintro e w5 ⟨v5,rfl,ho5,hb5⟩
 obtain⟨s5,c5,rfl⟩:=(OwnEnts.mk ho5).isSlice
 have T5:Turn (fun b=>b=nb) W1 w5:=T4.trans (Turn.of hb5 (Nat.le_refl _))
 go_simp
 refine hK _ _ (HSW.out _ T5) ?_
 clear hK K
 (repeat (first|((refine sched_pure (v:=?_) rfl (fun W=>?_) ?_);rotate_left;focus (go_simp;(try with_reducible rfl);done))|((refine sched_read (v:=?_) rfl (fun W hW=>?_) ?_);rotate_left;focus ((try dsimp only at hW);go_simp;(try with_reducible rfl);done))))
 refine sched_does rfl (fun K hK=>?_)
 go_simp
 obtain⟨W6,hW6⟩:∃W6,W6=w5.alloc (.cells #[.bool false, .slice none 0 0, .slice s3 KD.length c3, .slice s4 DD.length c4, .slice s5 BD.length c5] 133):=⟨_,rfl⟩
 have hb6:Below w5.heap.size w5 W6:=by rw [hW6];exact belowAuto
 have k6:W6.heap[w5.heap.size]?=some (.cells #[.bool false, .slice none 0 0, .slice s3 KD.length c3, .slice s4 DD.length c4, .slice s5 BD.length c5] 133):=by rw [hW6];exact heap_new _ _ rfl
 have hz6:W6.heap.size=w5.heap.size+1:=by rw [hW6];simp
 rw [←hW6]
 have T6:Turn (fun b=>b=nb) W1 W6:=T5.trans (Turn.of hb6 (Nat.le_refl _))
 refine hK _ _ (HSW.out _ T6) ?_
 clear hK K hW6
 have z2:W1.heap.size≤w2.heap.size:=T2.size
 have z3:w2.heap.size≤w3.heap.size:=hb3.size
 have z4:w3.heap.size≤w4.heap.size:=hb4.size
 have z5:w4.heap.size≤w5.heap.size:=hb5.size
 have B3:Below w2.heap.size w2 w3:=⟨hb3.os,hb3.tape,hb3.output,hb3.size,hb3.block⟩
 have B6:Below W1.heap.size W1 W6:=Below.trans' (Below.trans' (Below.trans' (Below.trans' hb2 B3 z2) hb4 (by omega)) hb5 (by omega)) hb6 (by omega)
 have hrow6:=(HALL.out.1.below B6 (Nat.le_refl _)).row
 refine sched_does rfl (fun K hK=>?_)
 refine wp_append_lies _ (.tmp 108) (.tmp 125) 30 rfl M 133 i0 z0 5 104 Tryd.underlying30 hi0 hz0 hz1' hz2' hz3' (by decide) _ rs.length _ rfl hrow6 ⟨w5.heap.size,0,none⟩ 1 1 (enRaw ⟨false, .slice none 0 0, .slice s3 KD.length c3, .slice s4 DD.length c4, .slice s5 BD.length c5⟩) rfl rfl (World.news_of_block k6) ?hone (by decide) (by unfold maxLen;omega) (by omega) (by omega) W6.heap.size rfl ?_
 case hone=>
  intro u hu
  simp [enRaw]at hu
  rcases hu with rfl|rfl|rfl|rfl|rfl <;> rfl
 intro g cap' w7 hrow7 hgr7 hg7 hlt7
 have T7:Turn (fun b=>b=nb) W1 w7:=Turn.grown T6 hgr7 (fun k hk=> .inl (by injection hk with hk;exact hk.symm))
 refine hK _ _ (HSW.out _ T7) ?_
 clear hK K
 have hg7':g=nb∨g=W6.heap.size:=hg7.imp (fun h=>(Option.some.inj h).symm) id
 have hz7:=hgr7.size
 have keep7:∀b,W1.heap.size≤b→b<w5.heap.size→w7.heap[b]?=w5.heap[b]?:=fun b h1 h2=>(hgr7.block b (by omega) (fun e=>by have e:b=nb:=Option.some.inj e;omega)).trans (hb6.block b h2)
 have p3:∀g,(Value.slice s3 KD.length c3).ownBlock=some g→w2.heap.size≤g∧g<w3.heap.size:=fun g hg=>(ho3.lt g hg)
 have p4:∀g,(Value.slice s4 DD.length c4).ownBlock=some g→w3.heap.size≤g∧g<w4.heap.size:=fun g hg=>ho4.lt g hg
 have p5:∀g,(Value.slice s5 BD.length c5).ownBlock=some g→w4.heap.size≤g∧g<w5.heap.size:=fun g hg=>ho5.lt g hg
 have o3:w7.ownsRow M 3 1 (.slice s3 KD.length c3) KD.length (KD.flatMap enInt):=owns_block (owns_mono ho3 (by show M≤w2.heap.size;omega)) fun b hb=>by
  have:=p3 b hb
  exact(keep7 b (by omega) (by omega)).trans ((hb5.block b (by omega)).trans (hb4.block b (by omega)))
 have o4:w7.ownsRow M 3 1 (.slice s4 DD.length c4) DD.length (DD.flatMap enInt):=owns_block (owns_mono ho4 (by omega)) fun b hb=>by
  have:=p4 b hb
  exact(keep7 b (by omega) (by omega)).trans (hb5.block b (by omega))
 have o5:w7.ownsRow M 96 7 (.slice s5 BD.length c5) BD.length (BD.flatMap enEnt):=owns_block (owns_mono ho5 (by omega)) fun b hb=>by
  have:=p5 b hb
  exact keep7 b (by omega) (by omega)
 obtain⟨hfr,hfb⟩:=fresh5 (M:=M) (H:=W1.heap.size) (w:=w7) (lf:=false) (x:=⟨false,[],KD,DD,BD⟩) (v1:= .slice s3 KD.length c3) (v2:= .slice s4 DD.length c4) (v3:= .slice s5 BD.length c5) (a:=w3.heap.size) (b:=w4.heap.size) (c:=w5.heap.size) rfl rfl o3 o4 o5 (fun g hg=>by have:=p3 g hg;omega) p4 p5 (by omega) z4 z5 (by omega)
 have HPUSH:=Lib.hid (HALL.out.1.push (w1:=w7) (nv':= .slice (some ⟨g,0,none⟩) (rs.length+1) cap') (T7.mono fun b _ h=>by rw [h];rfl) hrow7 (fun b hb=>by
   have hb:g=b:=Option.some.inj hb
   subst hb
   rcases hg7' with e|e
   ·left;rw [e];rfl
   ·right;rw [e];omega) hfr (fun f b hb e=>by
   have e:g=b:=Option.some.inj e
   have:=hfb f b hb
   rcases hg7' with e'|e' <;> omega))
 obtain⟨d0,-⟩:=HSW.out _ T7
 have d1:w7.frozen? ⟨bb,0,none⟩=false:=(T7.frozen hbl1 hbn 0).trans ((hb1.frozen (p:=⟨bb,0,none⟩) hbl).trans (cfb 0))
 (repeat (first|((refine sched_pure (v:=?_) rfl (fun W=>?_) ?_);rotate_left;focus (go_simp;(try with_reducible rfl);done))|((refine sched_read (v:=?_) rfl (fun W hW=>?_) ?_);rotate_left;focus ((try dsimp only at hW);go_simp;(try with_reducible rfl);done))))
 refine sched_last rfl (fun K hK=>?_)
 go_simp
 refine hK _ _ ?_
 clear hK K
 refine sched_end ?_
 have T8:Turn (fun b=>b=bb∨b=nb) W1 (w7.setCell ⟨bb,0,none⟩ (.slice (some ⟨g,0,none⟩) (rs.length+1) cap')):=(T7.mono fun _ _ h=> .inr h).setCell (.inl (.inl rfl)) _
 generalize w7.setCell ⟨bb,0,none⟩ (.slice (some ⟨g,0,none⟩) (rs.length+1) cap')=W8 at HPUSH T8 ⊢
 have hgX:w.heap.size≠g:=by
  rcases hg7' with e|e
  ·rw [e];omega
  ·omega
 have hrn:∃rn:Raw,(⟨false, .slice none 0 0, .slice s3 KD.length c3, .slice s4 DD.length c4, .slice s5 BD.length c5⟩:Raw)=rn:=⟨_,rfl⟩
 obtain⟨rn,hrn⟩:=hrn
 rw [hrn]at HPUSH
 clear HSW T0 T2 T3 T4 T5 T6 T7 hb2 hb3 hb4 hb5 ho3 ho4 ho5 hb6 B3 B6 hrow6 k6 hrow7 hgr7 hg7 hlt7 d0 d1 keep7 p3 p4 p5 o3 o4 o5 hfr hfb hrn z2 z3 z4 z5 hz6 hz7 hg7'
 have hrj8:(rs++[rn])[j]?=some r:=by rw [List.getElem?_append_left hjl];exact HALL.out.2.2.1
 have hl8:(rs++[rn]).length=rs.length+1:=by simp
 have hcells:=HPUSH.out.1
 rw [←hl8]at hcells
 obtain⟨e0,-,-,-,-,-,efn,-,e2,e3,e4⟩:=hcells.cells hrj8
 obtain⟨f0,f1,f2,f3,f4,-⟩:=hcells.cells hrj8 |>.2
 rw [hl8]at e0
 have hixg:=fun w'=>idx_node (ab:=g) (aoff:=0) (n:=rs.length+1) (cap:=cap') (show (j:Int)=((j:Nat):Int) by rfl) (by omega) w'
 simp only [Nat.zero_add]at hixg
 have HSW:=Lib.hid fun(W:World) (hT:Below W8.heap.size W8 W)=>(by
  obtain⟨-,g2,g3,g4,-⟩:=HX.out W (T8.trans (Turn.of hT (Nat.le_refl _)))
  exact⟨(hT.cell (p:=⟨bb,0,none⟩) e2).trans e0,g2,g3,g4⟩:W.cell? ⟨bb,0,none⟩=some (.slice (some ⟨g,0,none⟩) (rs.length+1) cap')∧W.cell? ⟨w.heap.size,2,none⟩=some (.slice (some ⟨kb,0,none⟩) 4 kc)∧W.cell? ⟨w.heap.size,3,none⟩=some (.slice (some ⟨db,0,none⟩) 5 dc)∧W.cell? ⟨w.heap.size,4,none⟩=some (Value.slice (some ⟨gb,0,none⟩) bl bc))
 have T0:Below W8.heap.size W8 W8.drew:=(Below.refl _ _).drew
 have HEF:=Lib.hid efn
 have HE5:=Lib.hid (And.intro f0 (And.intro f1 (And.intro f2 (And.intro f3 f4))))
 have HHC:=Lib.hid hcells
 have hwr1:IntKind.i64.wrap (1:Int)=1:=IntWalk.i64_in _ (by omega)
 clear hcells e0 efn hixn f0 f1 f2 f3 f4
 go_wp2_with fail
 refine wp_region_sched [(0,1),(1,1),(2,1),(3,1),(4,0),(5,1),(6,1),(7,0),(8,1),(9,1),(10,1),(12,1),(13,0),(14,1),(15,1),(17,1),(18,0),(19,1),(20,1),(11,2),(16,2),(21,2),(22,1),(23,1),(24,3)] 24 (fun W=>W.cell? ⟨bb,0,none⟩=some (.slice (some ⟨g,0,none⟩) (rs.length+1) cap')∧W.cell? ⟨w.heap.size,2,none⟩=some (.slice (some ⟨kb,0,none⟩) 4 kc)∧W.cell? ⟨w.heap.size,3,none⟩=some (.slice (some ⟨db,0,none⟩) 5 dc)∧W.cell? ⟨w.heap.size,4,none⟩=some (Value.slice (some ⟨gb,0,none⟩) bl bc)) (by kernel_rfl) (by kernel_rfl) (HSW.out _ T0) ?_
 (simp only [pickS,List.filterMap_cons,List.filterMap_nil,List.getElem?_cons_zero,List.getElem?_cons_succ,Option.map_some])
 (repeat (first|((refine sched_pure (v:=?_) rfl (fun W=>?_) ?_);rotate_left;focus (go_simp;(try with_reducible rfl);done))|((refine sched_read (v:=?_) rfl (fun W hW=>?_) ?_);rotate_left;focus ((try dsimp only at hW);go_simp;(try with_reducible rfl);done))))
 refine sched_does rfl (fun K hK=>?_)
 go_simp
 (with_reducible refine(HC.out _ (T8.trans (Turn.of T0 (Nat.le_refl _)))).2.2.2.1.mono ?_);rintro e w3 ⟨v3,rfl,ho3,hb3⟩
 obtain⟨s3,c3,rfl⟩:=(OwnInts.mk ho3).isSlice
 have B3:Below W8.heap.size W8 w3:=Below.trans' T0 hb3 (Nat.le_refl _)
 go_simp
 refine hK _ _ (HSW.out _ B3) ?_
 clear hK K
 (repeat (first|((refine sched_pure (v:=?_) rfl (fun W=>?_) ?_);rotate_left;focus (go_simp;(try with_reducible rfl);done))|((refine sched_read (v:=?_) rfl (fun W hW=>?_) ?_);rotate_left;focus ((try dsimp only at hW);go_simp;(try with_reducible rfl);done))))
 refine sched_does rfl (fun K hK=>?_)
 go_simp
 (with_reducible refine(HC.out _ (T8.trans (Turn.of B3 (Nat.le_refl _)))).2.2.2.2.1.mono ?_);rintro e w4 ⟨v4,rfl,ho4,hb4⟩
 obtain⟨s4,c4,rfl⟩:=(OwnInts.mk ho4).isSlice
 have B4:Below W8.heap.size W8 w4:=Below.trans' B3 hb4 B3.size
 go_simp
 refine hK _ _ (HSW.out _ B4) ?_
 clear hK K
 (repeat (first|((refine sched_pure (v:=?_) rfl (fun W=>?_) ?_);rotate_left;focus (go_simp;(try with_reducible rfl);done))|((refine sched_read (v:=?_) rfl (fun W hW=>?_) ?_);rotate_left;focus ((try dsimp only at hW);go_simp;(try with_reducible rfl);done))))
 refine sched_does rfl (fun K hK=>?_)
 go_simp
 (with_reducible refine(HC.out _ (T8.trans (Turn.of B4 (Nat.le_refl _)))).2.2.2.2.2.mono ?_);rintro e w5 ⟨v5,rfl,ho5,hb5⟩
 obtain⟨s5,c5,rfl⟩:=(OwnEnts.mk ho5).isSlice
 have B5:Below W8.heap.size W8 w5:=Below.trans' B4 hb5 B4.size
 go_simp
 refine hK _ _ (HSW.out _ B5) ?_
 clear hK K
 have hz8:=T8.size
 have z3:W8.heap.size≤w3.heap.size:=hb3.size
 have z4:w3.heap.size≤w4.heap.size:=hb4.size
 have z5:w4.heap.size≤w5.heap.size:=hb5.size
 have p3:∀g,(Value.slice s3 KT.length c3).ownBlock=some g→W8.heap.size≤g∧g<w3.heap.size:=fun g hg=>(ho3.lt g hg)
 have p4:∀g,(Value.slice s4 DT.length c4).ownBlock=some g→w3.heap.size≤g∧g<w4.heap.size:=fun g hg=>ho4.lt g hg
 have p5:∀g,(Value.slice s5 BT.length c5).ownBlock=some g→w4.heap.size≤g∧g<w5.heap.size:=fun g hg=>ho5.lt g hg
 have o3:w5.ownsRow M 3 1 (.slice s3 KT.length c3) KT.length (KT.flatMap enInt):=owns_block (owns_mono ho3 (by show M≤W8.heap.size;omega)) fun b hb=>by
  have:=p3 b hb
  exact(hb5.block b (by omega)).trans (hb4.block b (by omega))
 have o4:w5.ownsRow M 3 1 (.slice s4 DT.length c4) DT.length (DT.flatMap enInt):=owns_block (owns_mono ho4 (by omega)) fun b hb=>by
  have:=p4 b hb
  exact hb5.block b (by omega)
 have o5:w5.ownsRow M 96 7 (.slice s5 BT.length c5) BT.length (BT.flatMap enEnt):=owns_mono ho5 (by omega)
 obtain⟨hfr,-⟩:=fresh5 (M:=M) (H:=W8.heap.size) (w:=w5) (lf:=false) (x:=⟨false,[],KT,DT,BT⟩) (v1:= .slice s3 KT.length c3) (v2:= .slice s4 DT.length c4) (v3:= .slice s5 BT.length c5) (a:=w3.heap.size) (b:=w4.heap.size) (c:=w5.heap.size) rfl rfl o3 o4 o5 p3 p4 p5 z3 z4 z5 (Nat.le_refl _)
 have HWH:=Lib.hid (HHC.out.whole (n:=j) rfl (by rw [hl8];omega) B5 hfr)
 obtain⟨m0,m1,m2,m3,m4⟩:=HE5.out
 have d0:=(B5.cell (p:=⟨g,_,none⟩) e3).trans m0
 have d1:=(B5.cell (p:=⟨g,_,none⟩) e3).trans m1
 have d2:=(B5.cell (p:=⟨g,_,none⟩) e3).trans m2
 have d3:=(B5.cell (p:=⟨g,_,none⟩) e3).trans m3
 have d4:=(B5.cell (p:=⟨g,_,none⟩) e3).trans m4
 have df:∀o,w5.frozen? ⟨g,o,none⟩=false:=fun o=>(B5.frozen (p:=⟨g,_,none⟩) e3).trans (HEF.out _)
 have c9:=(HSW.out _ B5).1
 clear m0 m1 m2 m3 m4 HSW ho3 ho4 ho5 hb3 hb4 hb5 B3 B4 B5 p3 p4 p5 o3 o4 o5 hfr T0 T8 HC HX HATT
 (repeat (first|((refine sched_pure (v:=?_) rfl (fun W=>?_) ?_);rotate_left;focus (go_simp;(try with_reducible rfl);done))|((refine sched_read (v:=?_) rfl (fun W hW=>?_) ?_);rotate_left;focus ((try dsimp only at hW);go_simp;(try with_reducible rfl);done))))
 refine sched_last rfl (fun K hK=>?_)
 go_simp
 refine hK _ _ ?_
 clear hK K
 refine sched_end ?_
 have f0:(((((w5.setCell ⟨g,j*5,none⟩ (.bool false)).setCell ⟨g,j*5+1,none⟩ (.slice none 0 0)).setCell ⟨g,j*5+2,none⟩ (.slice s3 KT.length c3)).setCell ⟨g,j*5+3,none⟩ (.slice s4 DT.length c4)).setCell ⟨g,j*5+4,none⟩ (.slice s5 BT.length c5)).cell? ⟨bb,0,none⟩=some (.slice (some ⟨g,0,none⟩) (rs.length+1) cap'):=by
  rw [World.cell?_of_block (a:=⟨bb,0,none⟩) (block_set5 e4)];exact c9
 generalize ((((w5.setCell ⟨g,j*5,none⟩ (.bool false)).setCell ⟨g,j*5+1,none⟩ (.slice none 0 0)).setCell ⟨g,j*5+2,none⟩ (.slice s3 KT.length c3)).setCell ⟨g,j*5+3,none⟩ (.slice s4 DT.length c4)).setCell ⟨g,j*5+4,none⟩ (.slice s5 BT.length c5)=WA at HWH f0 ⊢
 clear d0 d1 d2 d3 d4 df c9
 have hw0:IntKind.i64.wrap ((rs.length:Int)+1-1)=(rs.length:Int)+1-1:=IntWalk.i64_in _ (by omega)
 have hw1:IntKind.i64.wrap ((rs.length:Int)+1-1)=(rs.length:Int):=by rw [hw0];omega
 clear hw0
 have hlen:rs.length=t.nodes.length:=HALL.out.1.len
 go_wp2
 go_ret2
 exact⟨rfl,_,_,HWH.out.1.below (show Below WA.heap.size WA _ from belowAuto) (Nat.le_refl _),((HALL.out.2.1.trans HPUSH.out.2).trans HWH.out.2).trans (Stp.of (show Below WA.heap.size WA _ from belowAuto) (Nat.le_refl _))⟩
end Go.Proofs.YtnjfkcimboidnaaDoor

/- The walk of builder.split: an inner node in which nothing waits. -/
namespace Go.Proofs.YtnjfkcimboidnaaDoor
open Go.RowKit
set_option maxRecDepth 100000 in
set_option maxHeartbeats 6000000 in
theorem split_inner_nil {M:Nat} {w:World} {bb nb cap j:Nat} {rs:List Raw} {t:Tr} {x:Nd} {r:Raw} (h:Bd M w bb (.slice (some ⟨nb,0,none⟩) rs.length cap) rs t) (hrj:rs[j]?=some r) (hxj:t.nodes[j]?=some x) (hjl:j<rs.length) (hown:NdOwn M w r x) (hbv:r.bv = .slice none 0 0)
  (hl:x.leaf=false) (h5:x.kids.length=5) (h4:x.keys.length=4) (hrow:RowOk x.buf) (hkr:0≤x.keys.getD 1 0∧x.keys.getD 1 0≤1099511627776) (hm:t.nodes.length≤1000000000000) (hbl0:x.buf=[]) :
  Calls Tryd.prog 89 #[.pointer (some ⟨bb,0,none⟩), .int .i64 (j:Int)] w fun e w'=>e = .returned (.tuple #[.int .i64 t.nodes.length, .int .i64 (x.keys.getD 1 0)]) ∧
   BdPost M bb (Foot bb (.slice (some ⟨nb,0,none⟩) rs.length cap) rs) w (setN (addN t ⟨false,[],x.keys.drop 2,x.kids.drop 2,x.buf.drop (posE x.buf (x.keys.getD 1 0))⟩) j ⟨false,[],x.keys.take 1,x.kids.take 2,x.buf.take (posE x.buf (x.keys.getD 1 0))⟩) w':=by
 obtain⟨c0,k0,k1,k2,k3,k4,cfn,cfb,hbl,hnl,hbn⟩:=h.cells hrj
 obtain⟨es,ec,hev⟩:=hown.ents.isSlice
 obtain⟨ks,kc,hkv⟩:=hown.keys.isSlice
 obtain⟨ds,dc,hdv⟩:=hown.kids.isSlice
 have hok:=hown.keys
 have hod:=hown.kids
 have hob:=hown.buf
 rw [hkv]at hok
 rw [hdv]at hod
 rw [hbv]at hob
 obtain⟨kb,kc',hks,-,-⟩:=World.ownsRow.form hok.row (by omega)
 injection hks with hks1 _ hks3
 subst hks1 hks3
 obtain⟨db,dc',hds,-,-⟩:=World.ownsRow.form hod.row (by omega)
 injection hds with hds1 _ hds3
 subst hds1 hds3
 have hkc:4≤kc:=by obtain⟨_,_,hv,h1,_⟩:=hok.at (by omega);injection hv with _ _ hv3;omega
 have hdc:5≤dc:=by obtain⟨_,_,hv,h1,_⟩:=hod.at (by omega);injection hv with _ _ hv3;omega
 have hko:=h.off j r 1 kb hrj (by show r.kv.ownBlock=_;rw [hkv];rfl)
 have hdo:=h.off j r 2 db hrj (by show r.dv.ownBlock=_;rw [hdv];rfl)
 have hbo:∀g,(Value.slice none 0 0).ownBlock=some g→g≠bb∧g≠nb:=fun g hg=>by
  have:=h.off j r 3 g hrj (by show r.bv.ownBlock=_;rw [hbv];exact hg)
  exact⟨this.1,fun e=>this.2 (by rw [e];rfl)⟩
 have hk2:kb≠nb:=fun e=>hko.2 (by rw [e];rfl)
 have hd2:db≠nb:=fun e=>hdo.2 (by rw [e];rfl)
 have hkl:kb<w.heap.size:=(hok.lt kb rfl).2
 have hdl:db<w.heap.size:=(hod.lt db rfl).2
 have hM:M≤w.heap.size:=by have:=(h.lt bb (.inl rfl)).1;omega
 rw [hown.leaf,hl]at k0
 rw [hev]at k1
 rw [hkv,h4]at k2
 rw [hdv,h5]at k3
 rw [hbv]at k4
 have hixn:=fun w'=>idx_node (ab:=nb) (aoff:=0) (n:=rs.length) (cap:=cap) (show (j:Int)=((j:Nat):Int) by rfl) hjl w'
 simp only [Nat.zero_add]at hixn
 obtain⟨key,hy⟩:∃y,x.keys[1]?=some y:=⟨x.keys[1],by simp [h4]⟩
 have hyd:x.keys.getD 1 0=key:=by rw [List.getD_eq_getElem?_getD,hy];rfl
 obtain⟨_,_,_,hgk,-,hyc⟩:=IntsAt.get (hok.at (by omega)) hy
 injection hgk with hgk _ hgk3
 subst hgk3
 injection hgk with hgk
 injection hgk with hgk1 hgk2
 subst hgk1 hgk2
 simp only [Nat.zero_add]at hyc
 rw [hyd]at hkr ⊢
 obtain⟨i,hi⟩:∃i,posE x.buf key=i:=⟨_,rfl⟩
 have hil:i≤x.buf.length:=by rw [←hi];exact(posE_spec hrow.1).1
 rw [hi]
 obtain⟨W1,hW1⟩:∃W1,W1=w.alloc (.cells #[.bool false, .slice es x.ents.length ec, .slice (some ⟨kb,0,none⟩) 4 kc, .slice (some ⟨db,0,none⟩) 5 dc, .slice none 0 0] 133):=⟨_,rfl⟩
 have hb1:Below w.heap.size w W1:=by rw [hW1];exact belowAuto
 have hz1:W1.heap.size=w.heap.size+1:=by rw [hW1];simp
 have kx:W1.heap[w.heap.size]?=some (.cells #[.bool false, .slice es x.ents.length ec, .slice (some ⟨kb,0,none⟩) 4 kc, .slice (some ⟨db,0,none⟩) 5 dc, .slice none 0 0] 133):=by rw [hW1];exact heap_new _ _ rfl
 have hB1:=h.below hb1 (Nat.le_refl _)
 have hS1:Stp (Foot bb (.slice (some ⟨nb,0,none⟩) rs.length cap) rs) (Foot bb (.slice (some ⟨nb,0,none⟩) rs.length cap) rs) w W1:=Stp.of hb1 (Nat.le_refl _)
 have HX:=Lib.hid fun(W:World) (hT:Turn (fun b=>b=bb∨b=nb) W1 W)=>(by
  have e1:W.heap[w.heap.size]?=_:=(hT.block _ (by omega) (by rintro(e|e) <;> omega)).trans kx
  have e2:W.heap[kb]?=w.heap[kb]?:=(hT.block kb (by omega) (by rintro(e|e);exact hko.1 e;exact hk2 e)).trans (hb1.block kb hkl)
  have e3:W.heap[db]?=w.heap[db]?:=(hT.block db (by omega) (by rintro(e|e);exact hdo.1 e;exact hd2 e)).trans (hb1.block db hdl)
  have e4:∀g,(Value.slice none 0 0).ownBlock=some g→W.heap[g]?=w.heap[g]?:=fun g hg=>(hT.block g (by have:=(hob.lt g hg).2;omega) (by rintro(e|e);exact(hbo g hg).1 e;exact(hbo g hg).2 e)).trans (hb1.block g (hob.lt g hg).2)
  refine⟨by simp [World.cell?,e1],by simp [World.cell?,e1],by simp [World.cell?,e1],by simp [World.cell?,e1],by rw [World.cell?_of_block (a:=⟨kb,1,none⟩) e2];exact hyc,hok.block fun g hg=>?_,hod.block fun g hg=>?_,hob.block e4⟩
  ·injection hg with hg;subst hg;exact e2
  ·injection hg with hg;subst hg;exact e3 :
  W.cell? ⟨w.heap.size,0,none⟩=some (.bool false)∧W.cell? ⟨w.heap.size,2,none⟩=some (.slice (some ⟨kb,0,none⟩) 4 kc)∧W.cell? ⟨w.heap.size,3,none⟩=some (.slice (some ⟨db,0,none⟩) 5 dc)∧W.cell? ⟨w.heap.size,4,none⟩=some (.slice none 0 0)∧W.cell? ⟨kb,1,none⟩=some (.int .i64 key) ∧
  OwnInts M W (.slice (some ⟨kb,0,none⟩) x.keys.length kc) x.keys∧OwnInts M W (.slice (some ⟨db,0,none⟩) x.kids.length dc) x.kids∧OwnEnts M W (.slice none 0 0) x.buf)
 have HC:=Lib.hid fun(W:World) (hT:Turn (fun b=>b=bb∨b=nb) W1 W)=>(by
  obtain⟨-,-,-,-,-,o1,o2,o3⟩:=HX.out W hT
  have a1:=ownI_drop (i:=2) o1 (by omega) (by omega) 2 (fun _=>rfl)
  have a2:=ownI_take (i:=1) o1 (by omega) (by omega)
  have b1:=ownI_drop (i:=2) o2 (by omega) (by omega) 2 (fun _=>rfl)
  have b2:=ownI_take (i:=2) o2 (by omega) (by omega)
  rw [h4]at a1
  rw [h5]at b1
  have c1:EntsAt W (.slice none 0 0) (x.buf.drop i):=by rw [hbl0,List.drop_nil];exact SlAt.nil _ _ _ _
  have c2:EntsAt W (.slice none 0 0) (x.buf.take i):=by rw [hbl0,List.take_nil];exact SlAt.nil _ _ _ _
  exact⟨cloneInt_any a1,cloneInt_any b1,cloneEnt_any c1,cloneInt_any a2,cloneInt_any b2,cloneEnt_any c2⟩ :
  Calls Tryd.prog 88 #[.slice (some ⟨kb,2,none⟩) (4-2) (kc-2)] W (fun e w'=>∃v',e = .returned v'∧w'.ownsRow W.heap.size 3 1 v' (x.keys.drop 2).length ((x.keys.drop 2).flatMap enInt)∧Below W.heap.size W w') ∧
  Calls Tryd.prog 88 #[.slice (some ⟨db,2,none⟩) (5-2) (dc-2)] W (fun e w'=>∃v',e = .returned v'∧w'.ownsRow W.heap.size 3 1 v' (x.kids.drop 2).length ((x.kids.drop 2).flatMap enInt)∧Below W.heap.size W w') ∧
  Calls Tryd.prog 72 #[.slice none 0 0] W (fun e w'=>∃v',e = .returned v'∧w'.ownsRow W.heap.size 96 7 v' (x.buf.drop i).length ((x.buf.drop i).flatMap enEnt)∧Below W.heap.size W w') ∧
  Calls Tryd.prog 88 #[.slice (some ⟨kb,0,none⟩) 1 kc] W (fun e w'=>∃v',e = .returned v'∧w'.ownsRow W.heap.size 3 1 v' (x.keys.take 1).length ((x.keys.take 1).flatMap enInt)∧Below W.heap.size W w') ∧
  Calls Tryd.prog 88 #[.slice (some ⟨db,0,none⟩) 2 dc] W (fun e w'=>∃v',e = .returned v'∧w'.ownsRow W.heap.size 3 1 v' (x.kids.take 2).length ((x.kids.take 2).flatMap enInt)∧Below W.heap.size W w') ∧
  Calls Tryd.prog 72 #[.slice none 0 0] W (fun e w'=>∃v',e = .returned v'∧w'.ownsRow W.heap.size 96 7 v' (x.buf.take i).length ((x.buf.take i).flatMap enEnt)∧Below W.heap.size W w'))
 have HATT:=Lib.hid fun(W:World) (hT:Turn (fun b=>b=bb∨b=nb) W1 W)=>(by
  have:=at_any (x:=key) ((HX.out W hT).2.2.2.2.2.2.2.at (by have:=hrow.2.2.2;omega)) hrow.1 (fun e he=>by have:=hrow.2.2.1 e he;omega)
  rw [hi]at this
  exact this:Calls Tryd.prog 76 #[.slice none 0 0, .int .i64 key] W fun r w'=>r = .returned (.tuple #[.int .i64 (i:Int), .bool (hasE x.buf key)])∧Below W.heap.size W w')
 obtain⟨hs,hhs⟩:∃hs,hasE x.buf key=hs:=⟨_,rfl⟩
 rw [hhs]at HATT
 clear hhs
 obtain⟨KD,hKD⟩:∃DR,x.keys.drop 2=DR:=⟨_,rfl⟩
 obtain⟨KT,hKT⟩:∃DR,x.keys.take 1=DR:=⟨_,rfl⟩
 obtain⟨DD,hDD⟩:∃DR,x.kids.drop 2=DR:=⟨_,rfl⟩
 obtain⟨DT,hDT⟩:∃DR,x.kids.take 2=DR:=⟨_,rfl⟩
 obtain⟨BD,hBD⟩:∃DR,x.buf.drop i=DR:=⟨_,rfl⟩
 obtain⟨BT,hBT⟩:∃DR,x.buf.take i=DR:=⟨_,rfl⟩
 rw [hKD,hKT,hDD,hDT,hBD,hBT]at HC
 rw [hKD,hKT,hDD,hDT,hBD,hBT]
 clear hKD hKT hDD hDT hBD hBT
 obtain⟨i0,z0,hi0,hz0,hz1',hz2',hz3'⟩:=iNode_some
 have hlen:rs.length=t.nodes.length:=h.len
 have hrl:rs.length≤1000000000000:=by omega
 have HALL:=Lib.hid (And.intro hB1 (And.intro hS1 (And.intro hrj hxj)))
 have hg2:¬(kc=2):=by omega
 have hg3:(2:Int)≤(kc:Int):=by omega
 have hg4:(1:Int)≤(kc:Int):=by omega
 have hg5:¬(dc=2):=by omega
 have hg6:(2:Int)≤(dc:Int):=by omega
 have hi9:i=0:=by rw [hbl0]at hil;simpa using hil
 subst hi9
 clear hbl0 hil
 have hbl1:bb<W1.heap.size:=by omega
 have hnl1:nb<W1.heap.size:=by omega
 have c0':W1.cell? ⟨bb,0,none⟩=some (.slice (some ⟨nb,0,none⟩) rs.length cap):=(hb1.cell (p:=⟨bb,0,none⟩) hbl).trans c0
 obtain⟨q0,q2,q3,q4,qk,-⟩:=HX.out W1 (Turn.refl _ _)
 clear h hown hev hkv hdv hbv hl hlen hok hod hob hB1 hS1 hko hdo hbo hrj hxj hyd hy hyc hrow hi hkr
 go_enter Tryd.func89,Tryd.ntmps89
 go_upto_region 2 with (fail)
 rw [←hW1]
 clear hW1 k0 k1 k2 k3 k4 cfn c0 kx
 have HSW:=Lib.hid fun(W:World) (hT:Turn (fun b=>b=nb) W1 W)=>(by
  obtain⟨-,g2,g3,g4,-⟩:=HX.out W (hT.mono fun _ _ h=> .inr h)
  exact⟨(hT.cell hbl1 hbn 0).trans c0',g2,g3,g4⟩:W.cell? ⟨bb,0,none⟩=some (.slice (some ⟨nb,0,none⟩) rs.length cap)∧W.cell? ⟨w.heap.size,2,none⟩=some (.slice (some ⟨kb,0,none⟩) 4 kc)∧W.cell? ⟨w.heap.size,3,none⟩=some (.slice (some ⟨db,0,none⟩) 5 dc)∧W.cell? ⟨w.heap.size,4,none⟩=some (.slice none 0 0))
 clear c0'
 go_wp2_with ((go_at_call 76;(with_reducible refine(HATT.out _ (Turn.refl _ _)).mono ?_);rintro e w2 ⟨rfl,hb2⟩))
 clear q0 q2 q3 q4 qk
 have T2:Turn (fun b=>b=nb) W1 w2:=Turn.of hb2 (Nat.le_refl _)
 have T0:Turn (fun b=>b=nb) W1 w2.drew:=T2.drew
 refine wp_region_sched [(0,1),(1,1),(2,1),(3,1),(4,1),(5,0),(6,1),(7,0),(8,1),(9,1),(11,1),(12,0),(13,1),(14,1),(16,1),(17,0),(18,1),(19,1),(10,2),(15,2),(20,2),(21,1),(22,2),(23,2),(24,1),(25,1),(26,1),(27,3)] 27 (fun W=>W.cell? ⟨bb,0,none⟩=some (.slice (some ⟨nb,0,none⟩) rs.length cap)∧W.cell? ⟨w.heap.size,2,none⟩=some (.slice (some ⟨kb,0,none⟩) 4 kc)∧W.cell? ⟨w.heap.size,3,none⟩=some (.slice (some ⟨db,0,none⟩) 5 dc)∧W.cell? ⟨w.heap.size,4,none⟩=some (.slice none 0 0)) (by kernel_rfl) (by kernel_rfl) (HSW.out _ T0) ?_
 (simp only [pickS,List.filterMap_cons,List.filterMap_nil,List.getElem?_cons_zero,List.getElem?_cons_succ,Option.map_some])
 (repeat (first|((refine sched_pure (v:=?_) rfl (fun W=>?_) ?_);rotate_left;focus (go_simp;(try with_reducible rfl);done))|((refine sched_read (v:=?_) rfl (fun W hW=>?_) ?_);rotate_left;focus ((try dsimp only at hW);go_simp;(try with_reducible rfl);done))))
 refine sched_does rfl (fun K hK=>?_)
 go_simp
 (with_reducible refine(HC.out _ (T0.mono fun _ _ h=> .inr h)).1.mono ?_);rintro e w3 ⟨v3,rfl,ho3,hb3⟩
 obtain⟨s3,c3,rfl⟩:=(OwnInts.mk ho3).isSlice
 have T3:Turn (fun b=>b=nb) W1 w3:=T0.trans (Turn.of hb3 (Nat.le_refl _))
 go_simp
 refine hK _ _ (HSW.out _ T3) ?_
 clear hK K
 (repeat (first|((refine sched_pure (v:=?_) rfl (fun W=>?_) ?_);rotate_left;focus (go_simp;(try with_reducible rfl);done))|((refine sched_read (v:=?_) rfl (fun W hW=>?_) ?_);rotate_left;focus ((try dsimp only at hW);go_simp;(try with_reducible rfl);done))))
 refine sched_does rfl (fun K hK=>?_)
 go_simp
 (with_reducible refine(HC.out _ (T3.mono fun _ _ h=> .inr h)).2.1.mono ?_);rintro e w4 ⟨v4,rfl,ho4,hb4⟩
 obtain⟨s4,c4,rfl⟩:=(OwnInts.mk ho4).isSlice
 have T4:Turn (fun b=>b=nb) W1 w4:=T3.trans (Turn.of hb4 (Nat.le_refl _))
 go_simp
 refine hK _ _ (HSW.out _ T4) ?_
 clear hK K
 (repeat (first|((refine sched_pure (v:=?_) rfl (fun W=>?_) ?_);rotate_left;focus (go_simp;(try with_reducible rfl);done))|((refine sched_read (v:=?_) rfl (fun W hW=>?_) ?_);rotate_left;focus ((try dsimp only at hW);go_simp;(try with_reducible rfl);done))))
 refine sched_does rfl (fun K hK=>?_)
 go_simp
 (with_reducible refine(HC.out _ (T4.mono fun _ _ h=> .inr h)).2.2.1.mono ?_);rintro e w5 ⟨v5,rfl,ho5,hb5⟩
 obtain⟨s5,c5,rfl⟩:=(OwnEnts.mk ho5).isSlice
 have T5:Turn (fun b=>b=nb) W1 w5:=T4.trans (Turn.of hb5 (Nat.le_refl _))
 go_simp
 refine hK _ _ (HSW.out _ T5) ?_
 clear hK K
 (repeat (first|((refine sched_pure (v:=?_) rfl (fun W=>?_) ?_);rotate_left;focus (go_simp;(try with_reducible rfl);done))|((refine sched_read (v:=?_) rfl (fun W hW=>?_) ?_);rotate_left;focus ((try dsimp only at hW);go_simp;(try with_reducible rfl);done))))
 refine sched_does rfl (fun K hK=>?_)
 go_simp
 obtain⟨W6,hW6⟩:∃W6,W6=w5.alloc (.cells #[.bool false, .slice none 0 0, .slice s3 KD.length c3, .slice s4 DD.length c4, .slice s5 BD.length c5] 133):=⟨_,rfl⟩
 have hb6:Below w5.heap.size w5 W6:=by rw [hW6];exact belowAuto
 have k6:W6.heap[w5.heap.size]?=some (.cells #[.bool false, .slice none 0 0, .slice s3 KD.length c3, .slice s4 DD.length c4, .slice s5 BD.length c5] 133):=by rw [hW6];exact heap_new _ _ rfl
 have hz6:W6.heap.size=w5.heap.size+1:=by rw [hW6];simp
 rw [←hW6]
 have T6:Turn (fun b=>b=nb) W1 W6:=T5.trans (Turn.of hb6 (Nat.le_refl _))
 refine hK _ _ (HSW.out _ T6) ?_
 clear hK K hW6
 have z2:W1.heap.size≤w2.heap.size:=T2.size
 have z3:w2.heap.size≤w3.heap.size:=hb3.size
 have z4:w3.heap.size≤w4.heap.size:=hb4.size
 have z5:w4.heap.size≤w5.heap.size:=hb5.size
 have B3:Below w2.heap.size w2 w3:=⟨hb3.os,hb3.tape,hb3.output,hb3.size,hb3.block⟩
 have B6:Below W1.heap.size W1 W6:=Below.trans' (Below.trans' (Below.trans' (Below.trans' hb2 B3 z2) hb4 (by omega)) hb5 (by omega)) hb6 (by omega)
 have hrow6:=(HALL.out.1.below B6 (Nat.le_refl _)).row
 refine sched_does rfl (fun K hK=>?_)
 refine wp_append_lies _ (.tmp 108) (.tmp 125) 30 rfl M 133 i0 z0 5 104 Tryd.underlying30 hi0 hz0 hz1' hz2' hz3' (by decide) _ rs.length _ rfl hrow6 ⟨w5.heap.size,0,none⟩ 1 1 (enRaw ⟨false, .slice none 0 0, .slice s3 KD.length c3, .slice s4 DD.length c4, .slice s5 BD.length c5⟩) rfl rfl (World.news_of_block k6) ?hone (by decide) (by unfold maxLen;omega) (by omega) (by omega) W6.heap.size rfl ?_
 case hone=>
  intro u hu
  simp [enRaw]at hu
  rcases hu with rfl|rfl|rfl|rfl|rfl <;> rfl
 intro g cap' w7 hrow7 hgr7 hg7 hlt7
 have T7:Turn (fun b=>b=nb) W1 w7:=Turn.grown T6 hgr7 (fun k hk=> .inl (by injection hk with hk;exact hk.symm))
 refine hK _ _ (HSW.out _ T7) ?_
 clear hK K
 have hg7':g=nb∨g=W6.heap.size:=hg7.imp (fun h=>(Option.some.inj h).symm) id
 have hz7:=hgr7.size
 have keep7:∀b,W1.heap.size≤b→b<w5.heap.size→w7.heap[b]?=w5.heap[b]?:=fun b h1 h2=>(hgr7.block b (by omega) (fun e=>by have e:b=nb:=Option.some.inj e;omega)).trans (hb6.block b h2)
 have p3:∀g,(Value.slice s3 KD.length c3).ownBlock=some g→w2.heap.size≤g∧g<w3.heap.size:=fun g hg=>(ho3.lt g hg)
 have p4:∀g,(Value.slice s4 DD.length c4).ownBlock=some g→w3.heap.size≤g∧g<w4.heap.size:=fun g hg=>ho4.lt g hg
 have p5:∀g,(Value.slice s5 BD.length c5).ownBlock=some g→w4.heap.size≤g∧g<w5.heap.size:=fun g hg=>ho5.lt g hg
 have o3:w7.ownsRow M 3 1 (.slice s3 KD.length c3) KD.length (KD.flatMap enInt):=owns_block (owns_mono ho3 (by show M≤w2.heap.size;omega)) fun b hb=>by
  have:=p3 b hb
  exact(keep7 b (by omega) (by omega)).trans ((hb5.block b (by omega)).trans (hb4.block b (by omega)))
 have o4:w7.ownsRow M 3 1 (.slice s4 DD.length c4) DD.length (DD.flatMap enInt):=owns_block (owns_mono ho4 (by omega)) fun b hb=>by
  have:=p4 b hb
  exact(keep7 b (by omega) (by omega)).trans (hb5.block b (by omega))
 have o5:w7.ownsRow M 96 7 (.slice s5 BD.length c5) BD.length (BD.flatMap enEnt):=owns_block (owns_mono ho5 (by omega)) fun b hb=>by
  have:=p5 b hb
  exact keep7 b (by omega) (by omega)
 obtain⟨hfr,hfb⟩:=fresh5 (M:=M) (H:=W1.heap.size) (w:=w7) (lf:=false) (x:=⟨false,[],KD,DD,BD⟩) (v1:= .slice s3 KD.length c3) (v2:= .slice s4 DD.length c4) (v3:= .slice s5 BD.length c5) (a:=w3.heap.size) (b:=w4.heap.size) (c:=w5.heap.size) rfl rfl o3 o4 o5 (fun g hg=>by have:=p3 g hg;omega) p4 p5 (by omega) z4 z5 (by omega)
 have HPUSH:=Lib.hid (HALL.out.1.push (w1:=w7) (nv':= .slice (some ⟨g,0,none⟩) (rs.length+1) cap') (T7.mono fun b _ h=>by rw [h];rfl) hrow7 (fun b hb=>by
   have hb:g=b:=Option.some.inj hb
   subst hb
   rcases hg7' with e|e
   ·left;rw [e];rfl
   ·right;rw [e];omega) hfr (fun f b hb e=>by
   have e:g=b:=Option.some.inj e
   have:=hfb f b hb
   rcases hg7' with e'|e' <;> omega))
 obtain⟨d0,-⟩:=HSW.out _ T7
 have d1:w7.frozen? ⟨bb,0,none⟩=false:=(T7.frozen hbl1 hbn 0).trans ((hb1.frozen (p:=⟨bb,0,none⟩) hbl).trans (cfb 0))
 (repeat (first|((refine sched_pure (v:=?_) rfl (fun W=>?_) ?_);rotate_left;focus (go_simp;(try with_reducible rfl);done))|((refine sched_read (v:=?_) rfl (fun W hW=>?_) ?_);rotate_left;focus ((try dsimp only at hW);go_simp;(try with_reducible rfl);done))))
 refine sched_last rfl (fun K hK=>?_)
 go_simp
 refine hK _ _ ?_
 clear hK K
 refine sched_end ?_
 have T8:Turn (fun b=>b=bb∨b=nb) W1 (w7.setCell ⟨bb,0,none⟩ (.slice (some ⟨g,0,none⟩) (rs.length+1) cap')):=(T7.mono fun _ _ h=> .inr h).setCell (.inl (.inl rfl)) _
 generalize w7.setCell ⟨bb,0,none⟩ (.slice (some ⟨g,0,none⟩) (rs.length+1) cap')=W8 at HPUSH T8 ⊢
 have hgX:w.heap.size≠g:=by
  rcases hg7' with e|e
  ·rw [e];omega
  ·omega
 have hrn:∃rn:Raw,(⟨false, .slice none 0 0, .slice s3 KD.length c3, .slice s4 DD.length c4, .slice s5 BD.length c5⟩:Raw)=rn:=⟨_,rfl⟩
 obtain⟨rn,hrn⟩:=hrn
 rw [hrn]at HPUSH
 clear HSW T0 T2 T3 T4 T5 T6 T7 hb2 hb3 hb4 hb5 ho3 ho4 ho5 hb6 B3 B6 hrow6 k6 hrow7 hgr7 hg7 hlt7 d0 d1 keep7 p3 p4 p5 o3 o4 o5 hfr hfb hrn z2 z3 z4 z5 hz6 hz7 hg7'
 have hrj8:(rs++[rn])[j]?=some r:=by rw [List.getElem?_append_left hjl];exact HALL.out.2.2.1
 have hl8:(rs++[rn]).length=rs.length+1:=by simp
 have hcells:=HPUSH.out.1
 rw [←hl8]at hcells
 obtain⟨e0,-,-,-,-,-,efn,-,e2,e3,e4⟩:=hcells.cells hrj8
 obtain⟨f0,f1,f2,f3,f4,-⟩:=hcells.cells hrj8 |>.2
 rw [hl8]at e0
 have hixg:=fun w'=>idx_node (ab:=g) (aoff:=0) (n:=rs.length+1) (cap:=cap') (show (j:Int)=((j:Nat):Int) by rfl) (by omega) w'
 simp only [Nat.zero_add]at hixg
 have HSW:=Lib.hid fun(W:World) (hT:Below W8.heap.size W8 W)=>(by
  obtain⟨-,g2,g3,g4,-⟩:=HX.out W (T8.trans (Turn.of hT (Nat.le_refl _)))
  exact⟨(hT.cell (p:=⟨bb,0,none⟩) e2).trans e0,g2,g3,g4⟩:W.cell? ⟨bb,0,none⟩=some (.slice (some ⟨g,0,none⟩) (rs.length+1) cap')∧W.cell? ⟨w.heap.size,2,none⟩=some (.slice (some ⟨kb,0,none⟩) 4 kc)∧W.cell? ⟨w.heap.size,3,none⟩=some (.slice (some ⟨db,0,none⟩) 5 dc)∧W.cell? ⟨w.heap.size,4,none⟩=some (.slice none 0 0))
 have T0:Below W8.heap.size W8 W8.drew:=(Below.refl _ _).drew
 have HEF:=Lib.hid efn
 have HE5:=Lib.hid (And.intro f0 (And.intro f1 (And.intro f2 (And.intro f3 f4))))
 have HHC:=Lib.hid hcells
 have hwr1:IntKind.i64.wrap (1:Int)=1:=IntWalk.i64_in _ (by omega)
 clear hcells e0 efn hixn f0 f1 f2 f3 f4
 go_wp2_with fail
 refine wp_region_sched [(0,1),(1,1),(2,1),(3,1),(4,0),(5,1),(6,1),(7,0),(8,1),(9,1),(10,1),(12,1),(13,0),(14,1),(15,1),(17,1),(18,0),(19,1),(20,1),(11,2),(16,2),(21,2),(22,1),(23,1),(24,3)] 24 (fun W=>W.cell? ⟨bb,0,none⟩=some (.slice (some ⟨g,0,none⟩) (rs.length+1) cap')∧W.cell? ⟨w.heap.size,2,none⟩=some (.slice (some ⟨kb,0,none⟩) 4 kc)∧W.cell? ⟨w.heap.size,3,none⟩=some (.slice (some ⟨db,0,none⟩) 5 dc)∧W.cell? ⟨w.heap.size,4,none⟩=some (.slice none 0 0)) (by kernel_rfl) (by kernel_rfl) (HSW.out _ T0) ?_
 (simp only [pickS,List.filterMap_cons,List.filterMap_nil,List.getElem?_cons_zero,List.getElem?_cons_succ,Option.map_some])
 (repeat (first|((refine sched_pure (v:=?_) rfl (fun W=>?_) ?_);rotate_left;focus (go_simp;(try with_reducible rfl);done))|((refine sched_read (v:=?_) rfl (fun W hW=>?_) ?_);rotate_left;focus ((try dsimp only at hW);go_simp;(try with_reducible rfl);done))))
 refine sched_does rfl (fun K hK=>?_)
 go_simp
 (with_reducible refine(HC.out _ (T8.trans (Turn.of T0 (Nat.le_refl _)))).2.2.2.1.mono ?_);rintro e w3 ⟨v3,rfl,ho3,hb3⟩
 obtain⟨s3,c3,rfl⟩:=(OwnInts.mk ho3).isSlice
 have B3:Below W8.heap.size W8 w3:=Below.trans' T0 hb3 (Nat.le_refl _)
 go_simp
 refine hK _ _ (HSW.out _ B3) ?_
 clear hK K
 (repeat (first|((refine sched_pure (v:=?_) rfl (fun W=>?_) ?_);rotate_left;focus (go_simp;(try with_reducible rfl);done))|((refine sched_read (v:=?_) rfl (fun W hW=>?_) ?_);rotate_left;focus ((try dsimp only at hW);go_simp;(try with_reducible rfl);done))))
 refine sched_does rfl (fun K hK=>?_)
 go_simp
 (with_reducible refine(HC.out _ (T8.trans (Turn.of B3 (Nat.le_refl _)))).2.2.2.2.1.mono ?_);rintro e w4 ⟨v4,rfl,ho4,hb4⟩
 obtain⟨s4,c4,rfl⟩:=(OwnInts.mk ho4).isSlice
 have B4:Below W8.heap.size W8 w4:=Below.trans' B3 hb4 B3.size
 go_simp
 refine hK _ _ (HSW.out _ B4) ?_
 clear hK K
 (repeat (first|((refine sched_pure (v:=?_) rfl (fun W=>?_) ?_);rotate_left;focus (go_simp;(try with_reducible rfl);done))|((refine sched_read (v:=?_) rfl (fun W hW=>?_) ?_);rotate_left;focus ((try dsimp only at hW);go_simp;(try with_reducible rfl);done))))
 refine sched_does rfl (fun K hK=>?_)
 go_simp
 (with_reducible refine(HC.out _ (T8.trans (Turn.of B4 (Nat.le_refl _)))).2.2.2.2.2.mono ?_);rintro e w5 ⟨v5,rfl,ho5,hb5⟩
 obtain⟨s5,c5,rfl⟩:=(OwnEnts.mk ho5).isSlice
 have B5:Below W8.heap.size W8 w5:=Below.trans' B4 hb5 B4.size
 go_simp
 refine hK _ _ (HSW.out _ B5) ?_
 clear hK K
 have hz8:=T8.size
 have z3:W8.heap.size≤w3.heap.size:=hb3.size
 have z4:w3.heap.size≤w4.heap.size:=hb4.size
 have z5:w4.heap.size≤w5.heap.size:=hb5.size
 have p3:∀g,(Value.slice s3 KT.length c3).ownBlock=some g→W8.heap.size≤g∧g<w3.heap.size:=fun g hg=>(ho3.lt g hg)
 have p4:∀g,(Value.slice s4 DT.length c4).ownBlock=some g→w3.heap.size≤g∧g<w4.heap.size:=fun g hg=>ho4.lt g hg
 have p5:∀g,(Value.slice s5 BT.length c5).ownBlock=some g→w4.heap.size≤g∧g<w5.heap.size:=fun g hg=>ho5.lt g hg
 have o3:w5.ownsRow M 3 1 (.slice s3 KT.length c3) KT.length (KT.flatMap enInt):=owns_block (owns_mono ho3 (by show M≤W8.heap.size;omega)) fun b hb=>by
  have:=p3 b hb
  exact(hb5.block b (by omega)).trans (hb4.block b (by omega))
 have o4:w5.ownsRow M 3 1 (.slice s4 DT.length c4) DT.length (DT.flatMap enInt):=owns_block (owns_mono ho4 (by omega)) fun b hb=>by
  have:=p4 b hb
  exact hb5.block b (by omega)
 have o5:w5.ownsRow M 96 7 (.slice s5 BT.length c5) BT.length (BT.flatMap enEnt):=owns_mono ho5 (by omega)
 obtain⟨hfr,-⟩:=fresh5 (M:=M) (H:=W8.heap.size) (w:=w5) (lf:=false) (x:=⟨false,[],KT,DT,BT⟩) (v1:= .slice s3 KT.length c3) (v2:= .slice s4 DT.length c4) (v3:= .slice s5 BT.length c5) (a:=w3.heap.size) (b:=w4.heap.size) (c:=w5.heap.size) rfl rfl o3 o4 o5 p3 p4 p5 z3 z4 z5 (Nat.le_refl _)
 have HWH:=Lib.hid (HHC.out.whole (n:=j) rfl (by rw [hl8];omega) B5 hfr)
 obtain⟨m0,m1,m2,m3,m4⟩:=HE5.out
 have d0:=(B5.cell (p:=⟨g,_,none⟩) e3).trans m0
 have d1:=(B5.cell (p:=⟨g,_,none⟩) e3).trans m1
 have d2:=(B5.cell (p:=⟨g,_,none⟩) e3).trans m2
 have d3:=(B5.cell (p:=⟨g,_,none⟩) e3).trans m3
 have d4:=(B5.cell (p:=⟨g,_,none⟩) e3).trans m4
 have df:∀o,w5.frozen? ⟨g,o,none⟩=false:=fun o=>(B5.frozen (p:=⟨g,_,none⟩) e3).trans (HEF.out _)
 have c9:=(HSW.out _ B5).1
 clear m0 m1 m2 m3 m4 HSW ho3 ho4 ho5 hb3 hb4 hb5 B3 B4 B5 p3 p4 p5 o3 o4 o5 hfr T0 T8 HC HX HATT
 (repeat (first|((refine sched_pure (v:=?_) rfl (fun W=>?_) ?_);rotate_left;focus (go_simp;(try with_reducible rfl);done))|((refine sched_read (v:=?_) rfl (fun W hW=>?_) ?_);rotate_left;focus ((try dsimp only at hW);go_simp;(try with_reducible rfl);done))))
 refine sched_last rfl (fun K hK=>?_)
 go_simp
 refine hK _ _ ?_
 clear hK K
 refine sched_end ?_
 have f0:(((((w5.setCell ⟨g,j*5,none⟩ (.bool false)).setCell ⟨g,j*5+1,none⟩ (.slice none 0 0)).setCell ⟨g,j*5+2,none⟩ (.slice s3 KT.length c3)).setCell ⟨g,j*5+3,none⟩ (.slice s4 DT.length c4)).setCell ⟨g,j*5+4,none⟩ (.slice s5 BT.length c5)).cell? ⟨bb,0,none⟩=some (.slice (some ⟨g,0,none⟩) (rs.length+1) cap'):=by
  rw [World.cell?_of_block (a:=⟨bb,0,none⟩) (block_set5 e4)];exact c9
 generalize ((((w5.setCell ⟨g,j*5,none⟩ (.bool false)).setCell ⟨g,j*5+1,none⟩ (.slice none 0 0)).setCell ⟨g,j*5+2,none⟩ (.slice s3 KT.length c3)).setCell ⟨g,j*5+3,none⟩ (.slice s4 DT.length c4)).setCell ⟨g,j*5+4,none⟩ (.slice s5 BT.length c5)=WA at HWH f0 ⊢
 clear d0 d1 d2 d3 d4 df c9
 have hw0:IntKind.i64.wrap ((rs.length:Int)+1-1)=(rs.length:Int)+1-1:=IntWalk.i64_in _ (by omega)
 have hw1:IntKind.i64.wrap ((rs.length:Int)+1-1)=(rs.length:Int):=by rw [hw0];omega
 clear hw0
 have hlen:rs.length=t.nodes.length:=HALL.out.1.len
 go_wp2
 go_ret2
 exact⟨rfl,_,_,HWH.out.1.below (show Below WA.heap.size WA _ from belowAuto) (Nat.le_refl _),((HALL.out.2.1.trans HPUSH.out.2).trans HWH.out.2).trans (Stp.of (show Below WA.heap.size WA _ from belowAuto) (Nat.le_refl _))⟩
end Go.Proofs.YtnjfkcimboidnaaDoor

/- builder.split, at every node. -/
namespace Go.Proofs.YtnjfkcimboidnaaDoor
open Go.RowKit
theorem split_any {M:Nat} {w:World} {bb:Nat} {nv:Value} {rs:List Raw} {t t':Tr} {n more key:Int} (h:Bd M w bb nv rs t) (hF:splitF t n=some (t',more,key)) :
  Calls Tryd.prog 89 #[.pointer (some ⟨bb,0,none⟩), .int .i64 n] w fun e w'=>e = .returned (.tuple #[.int .i64 more, .int .i64 key])∧BdPost M bb (Foot bb nv rs) w t' w':=by
 unfold splitF at hF
 split at hF
 ·cases hF
 ·rename_i x hx
  split at hF
  ·rename_i hl
   split at hF
   ·rename_i h6
    injection hF with hF
    injection hF with h1 h2
    injection h2 with h2 h3
    subst h1 h2 h3
    exact split_none h hx (.inl ⟨hl,h6⟩)
   ·split at hF
    ·rename_i hg
     injection hF with hF
     injection hF with h1 h2
     injection h2 with h2 h3
     subst h1 h2 h3
     exact split_leaf h hx hl hg.1 hg.2
    ·cases hF
  ·rename_i hl
   have hl:x.leaf=false:=by simpa using hl
   split at hF
   ·rename_i h4
    injection hF with hF
    injection hF with h1 h2
    injection h2 with h2 h3
    subst h1 h2 h3
    exact split_none h hx (.inr ⟨hl,h4⟩)
   ·split at hF
    ·rename_i hg
     obtain⟨g1,g2,g3,g4,g5⟩:=hg
     injection hF with hF
     injection hF with h1 h2
     injection h2 with h2 h3
     subst h1 h2 h3
     obtain⟨j,nb,cap,r,rfl,rfl,hrj,hxj,hjl,hown⟩:=h.place hx
     obtain⟨-,⟨hbv,hb0⟩|⟨gb,bc,cur,hbv,-⟩⟩:=hown.buf.row
     ·exact split_inner_nil h hrj hxj hjl hown hbv hl g1 g2 g3 g4 g5 (List.eq_nil_of_length_eq_zero hb0)
     ·by_cases hc:bc=posE x.buf (x.keys.getD 1 0)
      ·exact split_inner_own (o:=0) h hrj hxj hjl hown hbv hl g1 g2 g3 g4 g5 rfl (by rw [if_pos hc])
      ·exact split_inner_own h hrj hxj hjl hown hbv hl g1 g2 g3 g4 g5 rfl (by rw [if_neg hc])
    ·cases hF
end Go.Proofs.YtnjfkcimboidnaaDoor
