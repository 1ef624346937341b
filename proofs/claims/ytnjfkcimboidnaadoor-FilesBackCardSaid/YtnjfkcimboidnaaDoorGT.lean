/- Texts of mine that come as one: Got GetW. -/
import Derived.Test.YtnjfkcimboidnaaDoorSX
import Derived.Test.YtnjfkcimboidnaaDoorBK
import Derived.Test.YtnjfkcimboidnaaDoorPA
import Derived.Test.YtnjfkcimboidnaaDoorIG
import Derived.Test.YtnjfkcimboidnaaDoorNC
import Derived.Test.YtnjfkcimboidnaaDoorKG
/- The walk of the document's GotOf. -/
namespace Go.Proofs.YtnjfkcimboidnaaDoor
open Go.RowKit
noncomputable def gotS (t:Tr) (key:Int):Roll×Int:=if treeFault t=0 then(if 0≤key∧key≤1099511627775 then getR t key else(Roll.zero,2)) else(Roll.zero,treeFault t)
theorem zero_cells {w:World} {b:Nat} {a0 a1 a2 a3 a4 a5:Value} {T:TypeId} (h:w.heap[b]?=some (.cells #[a0,a1,a2,a3,a4,a5] T)) :
  w.cell? ⟨b,0,none⟩=some a0∧w.cell? ⟨b,1,none⟩=some a1∧w.cell? ⟨b,2,none⟩=some a2∧w.cell? ⟨b,3,none⟩=some a3∧w.cell? ⟨b,4,none⟩=some a4∧w.cell? ⟨b,5,none⟩=some a5∧∀o,w.frozen? ⟨b,o,none⟩=false:=by
 simp [World.cell?,World.frozen?,h]
end Go.Proofs.YtnjfkcimboidnaaDoor

/- The walk of tree.Get. -/
namespace Go.Proofs.YtnjfkcimboidnaaDoor
open Go.RowKit
structure GetAt (w:World) (ob:Nat) (tv:Value) (root:Int) (wr:World) (r:Roll):Prop where
 below:Below w.heap.size w wr
 box:wr.heap[w.heap.size]?=some (.cells #[tv, .int .i64 root] 32)
 res:wr.heap[w.heap.size+1]?=some (.cells #[.int .i64 0, .int .i64 0, .int .i64 0, .int .i64 0, .int .i64 0, .int .i64 0] 42)
 lt:w.heap.size+1<ob
 out:wr.heap[ob]?=some (.cells #[.int .i64 r.c, .int .i64 r.s, .int .i64 r.mi, .int .i64 r.ma, .int .i64 r.t, .int .i64 r.l] 42)
theorem GetAt.later {w:World} {ob:Nat} {tv:Value} {root:Int} {wr wr':World} {r:Roll} (h:GetAt w ob tv root wr r) {C:Nat} (hb:Below C wr wr') (hC:wr.heap.size≤C):GetAt w ob tv root wr' r:=by
 have l0:=(Array.getElem?_eq_some_iff.1 h.box).1
 have l1:=(Array.getElem?_eq_some_iff.1 h.res).1
 have l2:=(Array.getElem?_eq_some_iff.1 h.out).1
 exact⟨Below.trans' h.below (hb.mono hC) h.below.size,(hb.block _ (by omega)).trans h.box,(hb.block _ (by omega)).trans h.res,h.lt,(hb.block _ (by omega)).trans h.out⟩
theorem gotS_eq (t:Tr) (key:Int):gotS t key=if treeFault t=0 then(if 0≤key∧key≤1099511627775 then getS t key else(Roll.zero,2)) else(Roll.zero,treeFault t):=by
 unfold gotS
 by_cases hf:treeFault t=0
 ·rw [if_pos hf,if_pos hf]
  by_cases hr:0≤key∧key≤1099511627775
  ·rw [if_pos hr,if_pos hr,getR_eq (treeFault_ok hf).2,getS_eq (treeFault_ok hf).2 hr.1 (by omega)]
  ·rw [if_neg hr,if_neg hr]
 ·rw [if_neg hf,if_neg hf]
theorem block_set6 {w:World} {B b:Nat} {v0 v1 v2 v3 v4 v5:Value} (h:b≠B) :
  ((((((w.setCell ⟨B,0,none⟩ v0).setCell ⟨B,1,none⟩ v1).setCell ⟨B,2,none⟩ v2).setCell ⟨B,3,none⟩ v3).setCell ⟨B,4,none⟩ v4).setCell ⟨B,5,none⟩ v5).heap[b]?=w.heap[b]?:=by
 have g:∀(w:World) (o:Nat) (v:Value),(w.setCell ⟨B,o,none⟩ v).heap[b]?=w.heap[b]?:=fun w o v=>Below.heap_setCell w ⟨B,o,none⟩ v b h
 rw [g,g,g,g,g,g]
theorem GetAt.set {w:World} {ob:Nat} {tv:Value} {root:Int} {wr:World} {r:Roll} (h:GetAt w ob tv root wr r) (q:Roll) :
  GetAt w ob tv root ((((((wr.setCell ⟨ob,0,none⟩ (.int .i64 q.c)).setCell ⟨ob,1,none⟩ (.int .i64 q.s)).setCell ⟨ob,2,none⟩ (.int .i64 q.mi)).setCell ⟨ob,3,none⟩ (.int .i64 q.ma)).setCell ⟨ob,4,none⟩ (.int .i64 q.t)).setCell ⟨ob,5,none⟩ (.int .i64 q.l)) q:=by
 have hl:=h.lt
 have hb:=h.below
 exact⟨belowAuto,by rw [block_set6 (by omega)];exact h.box,by rw [block_set6 (by omega)];exact h.res,hl,heap_set6 h.out⟩
set_option maxRecDepth 100000 in
set_option maxHeartbeats 1000000 in
theorem get_any {v:Value} {t:Tr} {key:Int} {w:World} (h:TreeAt w v t) :
  Calls Tryd.prog 50 #[v, .int .i64 key] w fun e w'=>e = .returned (.tuple #[(gotS t key).1.v, .int .i64 (gotS t key).2])∧Below w.heap.size w w':=by
 obtain⟨nv,rfl,hn⟩:=h
 obtain⟨⟨ao,cap,rfl⟩,hlen⟩:=hn.len
 obtain⟨W0,hW0⟩:∃W0,W0=(w.alloc (.cells #[.slice ao t.nodes.length cap, .int .i64 t.root] 32)).alloc (.cells #[.int .i64 0, .int .i64 0, .int .i64 0, .int .i64 0, .int .i64 0, .int .i64 0] 42):=⟨_,rfl⟩
 have hb0:Below w.heap.size w W0:=by rw [hW0];exact belowAuto
 have hz0:W0.heap.size=w.heap.size+2:=by rw [hW0];simp
 have k0:W0.heap[w.heap.size]?=some (.cells #[.slice ao t.nodes.length cap, .int .i64 t.root] 32):=by
  rw [hW0,Below.heap_alloc _ _ _ (by simp)];exact heap_new _ _ rfl
 have k1:W0.heap[w.heap.size+1]?=some (.cells #[.int .i64 0, .int .i64 0, .int .i64 0, .int .i64 0, .int .i64 0, .int .i64 0] 42):=by
  rw [hW0];exact heap_new _ _ (by simp)
 have hn0:=hn.below hb0 (Nat.le_refl _)
 have HCK:=Lib.hid (treeCheck_any (t:=t) (w:=W0) (v:= .agg #[.slice ao t.nodes.length cap, .int .i64 t.root]) ⟨_,rfl,hn0⟩)
 obtain⟨q0,q1⟩:W0.cell? ⟨w.heap.size,0,none⟩=some (.slice ao t.nodes.length cap)∧W0.cell? ⟨w.heap.size,1,none⟩=some (.int .i64 t.root):=by simp [World.cell?,k0]
 go_enter Tryd.func50,Tryd.ntmps50
 go_upto_region 1 with (fail)
 rw [←hW0]
 clear hW0
 by_cases hf:treeFault t=0
 ·by_cases hr:0≤key∧key≤1099511627775
  ·have HGS:=Lib.hid (show gotS t key=getS t key by rw [gotS_eq,if_pos hf,if_pos hr])
   rw [hf]at HCK
   have hr1:key<1099511627776:=by omega
   have hr0:0≤key:=hr.1
   go_upto_region 6 with ((go_at_call 70;(with_reducible refine HCK.out.mono ?_);rintro e w1 ⟨rfl,hb1⟩))
   have k10:w1.heap[w.heap.size]?=_:=(hb1.block _ (by omega)).trans k0
   have k11:w1.heap[w.heap.size+1]?=_:=(hb1.block _ (by omega)).trans k1
   have hbw1:Below w.heap.size w w1:=Below.trans' hb0 hb1 hb0.size
   have hs1:w.heap.size+2≤w1.heap.size:=by have:=hb1.size;omega
   obtain⟨q0',q1'⟩:w1.cell? ⟨w.heap.size,0,none⟩=some (.slice ao t.nodes.length cap)∧w1.cell? ⟨w.heap.size,1,none⟩=some (.int .i64 t.root):=by simp [World.cell?,k10]
   clear q0 q1 k0 k1 hb1 HCK hn0
   have n1:w.heap.size<w1.heap.size:=by omega
   obtain⟨ob,hob⟩:∃ob,ob=w1.heap.size:=⟨_,rfl⟩
   obtain⟨W2,hW2⟩:∃W2,W2=w1.alloc (.cells #[.int .i64 0, .int .i64 0, .int .i64 0, .int .i64 0, .int .i64 0, .int .i64 0] 42):=⟨_,rfl⟩
   have hst:GetAt w ob (.slice ao t.nodes.length cap) t.root W2 Roll.zero:=by
    rw [hW2,hob]
    exact⟨belowAuto,by rw [Below.heap_alloc _ _ _ (by omega)];exact k10,by rw [Below.heap_alloc _ _ _ (by omega)];exact k11,by omega,heap_new _ _ rfl⟩
   have HST:=Lib.hid hst
   go_upto_region 8 with (fail)
   rw [←hob,←hW2]
   obtain⟨lv,hv0,e0,-,-⟩:=(treeFault_ok hf).2
   have HV:=Lib.hid e0
   have HF:=Lib.hid hf
   clear hst hW2 k10 k11 q0' q1' n1 hs1 hbw1 hob e0 hf
   have HN:=Lib.hid hn
   go_loopg [8] 11 (fun g nv wr=>∃(f:Nat) (n a b:Int) (l:List Int) (h:Nat) (r:Roll),f≤11∧g=f+0∧nv = .int .i64 n∧Hid (vis t (f+1) n a b=some (l,h)∧a≤key∧key<b)∧Hid (GetRel t key r (pathL t key (f+1) n))∧Hid (GetAt w ob (.slice ao t.nodes.length cap) t.root wr r))
   case atStart=>exact⟨11,t.root,0,1099511627776,lv,hv0,Roll.zero,Nat.le_refl _,rfl,rfl,Lib.hid ⟨HV.out,hr0,hr1⟩,Lib.hid getRel_start,HST⟩
   case round=>
    obtain⟨f,n,a,b,l,h,r,hf,rfl,rfl,HVI,HREL,HAT⟩:=hrel
    obtain⟨x,hx⟩:=vis_at HVI.out.1
    obtain⟨hn0,hn1,hn2⟩:=at?_get hx
    obtain⟨j,hj⟩:∃j:Nat,n=j:=⟨n.toNat,by omega⟩
    subst hj
    rw [Int.toNat_natCast]at hn1 hn2
    obtain⟨nb,noff,c,ev,kv,dv,bv,e0,hnb,hE,hK,hD,hB,c0,c1,c2,c3,c4⟩:=node_later HN.out HAT.out.below hn2
    injection e0 with e0 _ e2
    subst e0 e2
    obtain⟨ae,ne,rfl⟩:=hE.isSlice
    obtain⟨ak,nk,rfl⟩:=hK.isSlice
    obtain⟨ad,ndd,rfl⟩:=hD.isSlice
    obtain⟨ab,nbb,rfl⟩:=hB.isSlice
    have HNODE:=Lib.hid (get_node HF.out HVI.out.1 hx HVI.out.2.1 HVI.out.2.2)
    obtain⟨q0,q1⟩:wr.cell? ⟨w.heap.size,0,none⟩=some (.slice (some ⟨nb,noff,none⟩) t.nodes.length cap)∧wr.cell? ⟨w.heap.size,1,none⟩=some (.int .i64 t.root):=by simp [World.cell?,HAT.out.box]
    have hbz:=HAT.out.below.size
    have hixn:=fun w'=>idx_node (ab:=nb) (aoff:=noff) (n:=t.nodes.length) (cap:=cap) (show (j:Int)=((j:Nat):Int) by rfl) hn1 w'
    have n0:nb<wr.heap.size:=by omega
    have HE:=Lib.hid hE
    have HB:=Lib.hid hB
    have HKK:=Lib.hid hK
    have HDD:=Lib.hid hD
    clear hE hB hK hD hx hn0
    obtain⟨W8,hW8⟩:∃W8,W8=wr.alloc (.cells #[.bool x.leaf, .slice ae x.ents.length ne, .slice ak x.keys.length nk, .slice ad x.kids.length ndd, .slice ab x.buf.length nbb] 133):=⟨_,rfl⟩
    have hb8:Below wr.heap.size wr W8:=by rw [hW8];exact belowAuto
    have k8:W8.heap[wr.heap.size]?=some (.cells #[.bool x.leaf, .slice ae x.ents.length ne, .slice ak x.keys.length nk, .slice ad x.kids.length ndd, .slice ab x.buf.length nbb] 133):=by rw [hW8];exact heap_new _ _ rfl
    have HAT8:=Lib.hid (HAT.out.later hb8 (Nat.le_refl _))
    go_upto_region 9 with (fail)
    rw [←hW8]
    clear hW8 q0 q1 c0 c1 c2 c3 c4 hixn
    obtain⟨x0,x1,x2,x3,x4⟩:W8.cell? ⟨wr.heap.size,0,none⟩=some (.bool x.leaf)∧W8.cell? ⟨wr.heap.size,1,none⟩=some (.slice ae x.ents.length ne)∧W8.cell? ⟨wr.heap.size,2,none⟩=some (.slice ak x.keys.length nk)∧W8.cell? ⟨wr.heap.size,3,none⟩=some (.slice ad x.kids.length ndd)∧W8.cell? ⟨wr.heap.size,4,none⟩=some (.slice ab x.buf.length nbb):=by simp [World.cell?,k8]
    obtain⟨L,hL⟩:∃L,x.own=L:=⟨_,rfl⟩
    rw [hL]at HNODE
    obtain⟨la,lc,hLV⟩:∃la lc,(x.leaf=true→la=ae∧lc=ne∧L=x.ents)∧(x.leaf=false→la=ab∧lc=nbb∧L=x.buf):=by
     cases hl:x.leaf with
     |true=>exact⟨ae,ne,fun _=>⟨rfl,rfl,by rw [←hL];simp [Nd.own,hl]⟩,fun h=>by cases h⟩
     |false=>exact⟨ab,nbb,fun h=>(by cases h),fun _=>⟨rfl,rfl,by rw [←hL];simp [Nd.own,hl]⟩⟩
    have HLV:=Lib.hid hLV
    have HLA:=Lib.hid (show EntsAt w (.slice la L.length lc) L by
     cases hl:x.leaf with
     |true=>obtain⟨rfl,rfl,rfl⟩:=hLV.1 hl;exact HE.out
     |false=>obtain⟨rfl,rfl,rfl⟩:=hLV.2 hl;exact HB.out)
    clear hL hLV
    go_upto_if 39 with (fail)
    go_cut [10] (fun v wx=>v = .slice la L.length lc∧W8=wx)
    case first=>
     cases hl:x.leaf with
     |true=>
      have h1:=HLV.out.1 hl
      rw [hl]at x0
      obtain⟨g1,g2,g3⟩:=h1
      have HG3:=Lib.hid g3
      subst g1 g2
      clear g3 hl
      go_wp2
      go_meet
      exact⟨by rw [HG3.out],rfl⟩
     |false=>
      have h1:=HLV.out.2 hl
      rw [hl]at x0
      obtain⟨g1,g2,g3⟩:=h1
      have HG3:=Lib.hid g3
      subst g1 g2
      clear g3 hl
      go_wp2
      go_meet
      exact⟨by rw [HG3.out],rfl⟩
    case rest=>
     obtain⟨rfl,rfl⟩:=hcut
     have HA:=Lib.hid (at_any (x:=key) (w:=W8) (HLA.out.below HAT8.out.below (Nat.le_refl _)) HNODE.out.1 (fun e he=>by have:=HNODE.out.2.2.1 e he;omega))
     obtain⟨hs,hhs⟩:∃hs,hasE L key=hs:=⟨_,rfl⟩
     obtain⟨ps,hps⟩:∃ps,posE L key=ps:=⟨_,rfl⟩
     rw [hhs,hps]at HA
     have HHS:=Lib.hid hhs
     have HPS:=Lib.hid hps
     obtain⟨TL,hTL⟩:∃TL,TL=(if x.leaf=true then []else pathL t key gk (x.kids.getD (kidIx x.keys key) 0)):=⟨_,rfl⟩
     have HREL':=Lib.hid (show GetRel t key r (L.filter (fun e=>decide (e.key=key))++TL) by
      have:=HREL.out;rw [HNODE.out.2.2.2.1]at this;rw [hTL];exact this)
     have HTL:=Lib.hid hTL
     clear hhs hps hTL x0 x1 x2 x3 x4 HREL
     go_upto_if 48 with ((go_at_call 76;(with_reducible refine HA.out.mono ?_);rintro e w9 ⟨rfl,hb9⟩))
     have k9:w9.heap[wr.heap.size]?=_:=(hb9.block _ (Array.getElem?_eq_some_iff.1 k8).1).trans k8
     have HAT9:=Lib.hid (HAT8.out.later hb9 (Nat.le_refl _))
     have hob9:ob<w9.heap.size:=(Array.getElem?_eq_some_iff.1 HAT9.out.out).1
     have hwr9:wr.heap.size<w9.heap.size:=(Array.getElem?_eq_some_iff.1 k9).1
     have hbw9:w.heap.size≤w9.heap.size:=HAT9.out.below.size
     have hobr:ob<wr.heap.size:=(Array.getElem?_eq_some_iff.1 HAT.out.out).1
     clear k8 hb8 hb9 HA
     go_cut [] (fun wx=>∃r',Hid (GetAt w ob (.slice (some ⟨nb,noff,none⟩) t.nodes.length cap) t.root wx r')∧wx.heap[wr.heap.size]?=some (.cells #[.bool x.leaf, .slice ae x.ents.length ne, .slice ak x.keys.length nk, .slice ad x.kids.length ndd, .slice ab x.buf.length nbb] 133)∧Hid (GetRel t key r' TL))
     case first=>
      cases hs with
      |false=>
       go_wp2
       go_meet
       exact⟨r,HAT9,k9,Lib.hid (getRel_skip HHS.out HREL'.out)⟩
      |true=>
       obtain⟨i,hi,hp,-,hfl⟩:=hasE_true HNODE.out.1 HHS.out
       obtain rfl:i=ps:=hp.symm.trans HPS.out
       have hps':i<L.length:=hi
       obtain⟨_,_,hv,-,-,-,-,h5⟩:=HLA.out
       injection hv with g1 _ g3
       subst g1 g3
       obtain⟨eb,eoff,hla,heb,hec⟩:=h5 (by omega)
       subst hla
       obtain⟨-,y1,y2,y3,y4,y5,y6⟩:=ent_cells HAT9.out.below heb hec hi
       have HTAKE:=Lib.hid (getRel_take (hi:=hi) (HNODE.out.2.1 _ (List.getElem_mem hi)).2 hfl HREL'.out)
       obtain⟨y,hy⟩:∃y,L[i].is=y:=⟨_,rfl⟩
       rw [hy]at y1 y2 y3 y4 y5 y6 HTAKE
       obtain⟨J,E,hJE⟩:∃J E,rollMerge r y=(J,E):=⟨_,_,rfl⟩
       have HJE:=Lib.hid hJE
       have HM:=Lib.hid fun w'=>(by have:=merge_any r y w';rw [hJE]at this;exact this :
        Calls Tryd.prog 19 #[.agg #[.int .i64 r.c, .int .i64 r.s, .int .i64 r.mi, .int .i64 r.ma, .int .i64 r.t, .int .i64 r.l], .agg #[.int .i64 y.c, .int .i64 y.s, .int .i64 y.mi, .int .i64 y.ma, .int .i64 y.t, .int .i64 y.l]] w' fun e' w5=>e' = .returned (.tuple #[.agg #[.int .i64 J.c, .int .i64 J.s, .int .i64 J.mi, .int .i64 J.ma, .int .i64 J.t, .int .i64 J.l], .int .i64 E])∧Below w'.heap.size w' w5)
       obtain⟨o0,o1,o2,o3,o4,o5,-⟩:=zero_cells HAT9.out.out
       have hixe:=fun w'=>idx_ents (ab:=eb) (aoff:=eoff) (n:=L.length) (cap:=lc) (show (i:Int)=((i:Nat):Int) by rfl) hi w'
       have HS:=Lib.hid fun w' (hb:Below w9.heap.size w9 w')=>(by
        have gc:∀b o,b<w9.heap.size→w'.cell? ⟨b,o,none⟩=w9.cell? ⟨b,o,none⟩:=fun b o h=>hb.cell (p:=⟨b,o,none⟩) h
        have hebw:eb<w9.heap.size:=by omega
        rw [gc _ _ hob9,gc _ _ hob9,gc _ _ hob9,gc _ _ hob9,gc _ _ hob9,gc _ _ hob9,gc _ _ hebw,gc _ _ hebw,gc _ _ hebw,gc _ _ hebw,gc _ _ hebw,gc _ _ hebw]
        exact⟨o0,o1,o2,o3,o4,o5,y1,y2,y3,y4,y5,y6⟩:w'.cell? ⟨ob,0,none⟩=some (.int .i64 r.c)∧w'.cell? ⟨ob,1,none⟩=some (.int .i64 r.s)∧w'.cell? ⟨ob,2,none⟩=some (.int .i64 r.mi)∧w'.cell? ⟨ob,3,none⟩=some (.int .i64 r.ma)∧w'.cell? ⟨ob,4,none⟩=some (.int .i64 r.t)∧w'.cell? ⟨ob,5,none⟩=some (.int .i64 r.l)∧w'.cell? ⟨eb,eoff+i*7+1,none⟩=some (.int .i64 y.c)∧w'.cell? ⟨eb,eoff+i*7+2,none⟩=some (.int .i64 y.s)∧w'.cell? ⟨eb,eoff+i*7+3,none⟩=some (.int .i64 y.mi)∧w'.cell? ⟨eb,eoff+i*7+4,none⟩=some (.int .i64 y.ma)∧w'.cell? ⟨eb,eoff+i*7+5,none⟩=some (.int .i64 y.t)∧w'.cell? ⟨eb,eoff+i*7+6,none⟩=some (.int .i64 y.l))
       have b0:Below w9.heap.size w9 w9.drew:=(Below.refl _ _).drew
       have hs0:=HS.out _ b0
       clear hec h5 hfl hp hJE hy y1 y2 y3 y4 y5 y6 o0 o1 o2 o3 o4 o5
       go_upto_region 14 with (fail)
       go_cut [13,14] (fun p c wx=>∃g:Nat,p = .pointer (some ⟨g,0,none⟩)∧c = .int .i64 E∧wx.heap[g]?=some (.cells #[.int .i64 J.c, .int .i64 J.s, .int .i64 J.mi, .int .i64 J.ma, .int .i64 J.t, .int .i64 J.l] 42)∧w9.heap.size≤g∧Below w9.heap.size w9 wx)
       case first=>
        go_region_held3 (fun w'=>w'.cell? ⟨ob,0,none⟩=some (.int .i64 r.c)∧w'.cell? ⟨ob,1,none⟩=some (.int .i64 r.s)∧w'.cell? ⟨ob,2,none⟩=some (.int .i64 r.mi)∧w'.cell? ⟨ob,3,none⟩=some (.int .i64 r.ma)∧w'.cell? ⟨ob,4,none⟩=some (.int .i64 r.t)∧w'.cell? ⟨ob,5,none⟩=some (.int .i64 r.l)∧w'.cell? ⟨eb,eoff+i*7+1,none⟩=some (.int .i64 y.c)∧w'.cell? ⟨eb,eoff+i*7+2,none⟩=some (.int .i64 y.s)∧w'.cell? ⟨eb,eoff+i*7+3,none⟩=some (.int .i64 y.mi)∧w'.cell? ⟨eb,eoff+i*7+4,none⟩=some (.int .i64 y.ma)∧w'.cell? ⟨eb,eoff+i*7+5,none⟩=some (.int .i64 y.t)∧w'.cell? ⟨eb,eoff+i*7+6,none⟩=some (.int .i64 y.l))
         (first|with_reducible exact hs0|(with_reducible refine HS.out _ ?_;exact belowAuto))
         (first
          |(go_at_call 19;(with_reducible refine(HM.out _).mono ?_);rintro e' w5 ⟨rfl,BE⟩;guard_hyp BE:Below w9.drew.heap.size w9.drew w5;have hb5:Below w9.heap.size w9 w5:=Below.trans' (show Below w9.heap.size w9 _ from belowAuto) BE (by first|omega|(simp;done)|(simp;omega)|(simp [drew_size];done)|(simp [drew_size];omega));have hsz5:=hb5.size)
          |(go_at_call 19;(with_reducible refine(HM.out _).mono ?_);rintro e' w5 ⟨rfl,BE⟩;obtain⟨q5,z0,z1,z2,z3,z4,z5,zf⟩:=zero_roll BE;have hb5:Below w9.heap.size w9 w5:=Below.trans' (show Below w9.heap.size w9 _ from belowAuto) BE (by first|omega|(simp;done)|(simp;omega)|(simp [drew_size];done)|(simp [drew_size];omega));have hsz5:=hb5.size))
        all_goals
         go_wp2_with fail
         go_meet
         refine⟨_,rfl,rfl,?_,?_,?_⟩
         ·first
          |with_reducible exact heap_new _ _ rfl
          |with_reducible exact heap_set6 q5
         ·(first|omega|(simp;done)|(simp;omega))
         ·exact belowAuto
       case rest=>
        obtain⟨g,rfl,rfl,hg,hg9,hbc⟩:=hcut
        have HATC:=Lib.hid (HAT9.out.later hbc (Nat.le_refl _))
        have kc:wc.heap[wr.heap.size]?=_:=(hbc.block _ hwr9).trans k9
        obtain⟨j0,j1,j2,j3,j4,j5,-⟩:=zero_cells hg
        obtain⟨o0,o1,o2,o3,o4,o5,of⟩:=zero_cells HATC.out.out
        obtain⟨z0,z1,z2,z3,z4,z5,zf⟩:=zero_cells HATC.out.res
        have hbwc:=HATC.out.below
        clear hs0 b0 k9
        by_cases hcc:r.c+y.c≤1073741824
        ·obtain⟨t1,t2⟩:=HTAKE.out.1 hcc
         obtain⟨rfl,rfl⟩:=Prod.mk.inj (HJE.out.symm.trans t1)
         have HT2:=Lib.hid t2
         generalize r.join y=J at *
         clear t1 t2 hcc HTAKE HJE HM
         go_wp2
         go_meet
         exact⟨J,Lib.hid (HATC.out.set J),by rw [block_set6 (by omega)];exact kc,HT2⟩
        ·obtain⟨t1,t2⟩:=HTAKE.out.2 hcc
         obtain⟨rfl,rfl⟩:=Prod.mk.inj (HJE.out.symm.trans t1)
         have HT2:=Lib.hid (HGS.out.trans t2)
         clear t1 t2 hcc HTAKE HJE HM
         go_wp2
         rw [HT2.out]
         exact bodyPost_ret (v:= .tuple #[.agg #[.int .i64 0, .int .i64 0, .int .i64 0, .int .i64 0, .int .i64 0, .int .i64 0], .int .i64 1]) (by simp [results,Tryd.results50,go_sem, *]) rfl ⟨rfl,belowAuto⟩
     case rest=>
      obtain⟨r',HATR,kn,HRELR⟩:=hcut
      clear HAT9 k9 HAT8 HAT HREL'
      have hwrc:wr.heap.size<wc.heap.size:=(Array.getElem?_eq_some_iff.1 kn).1
      obtain⟨x0,x1,x2,x3,x4⟩:wc.cell? ⟨wr.heap.size,0,none⟩=some (.bool x.leaf)∧wc.cell? ⟨wr.heap.size,1,none⟩=some (.slice ae x.ents.length ne)∧wc.cell? ⟨wr.heap.size,2,none⟩=some (.slice ak x.keys.length nk)∧wc.cell? ⟨wr.heap.size,3,none⟩=some (.slice ad x.kids.length ndd)∧wc.cell? ⟨wr.heap.size,4,none⟩=some (.slice ab x.buf.length nbb):=by simp [World.cell?,kn]
      have hbwc:=HATR.out.below
      cases hl:x.leaf with
      |true=>
       rw [hl]at x0
       have HR:=Lib.hid (HGS.out.trans (getRel_end (by have:=HRELR.out;rw [HTL.out,if_pos hl]at this;exact this)))
       obtain⟨o0,o1,o2,o3,o4,o5,of⟩:=zero_cells HATR.out.out
       obtain⟨z0,z1,z2,z3,z4,z5,zf⟩:=zero_cells HATR.out.res
       clear hl kn
       go_wp2
       rw [HR.out]
       exact bodyPost_ret (v:= .tuple #[.agg #[.int .i64 r'.c, .int .i64 r'.s, .int .i64 r'.mi, .int .i64 r'.ma, .int .i64 r'.t, .int .i64 r'.l], .int .i64 0]) (by simp [results,Tryd.results50,go_sem, *]) rfl ⟨rfl,belowAuto⟩
      |false=>
       obtain⟨hks,hkl,f',a',b',l',h',hgk,hvis,ha',hb'⟩:=HNODE.out.2.2.2.2 hl
       have HRELN:=Lib.hid (show GetRel t key r' (pathL t key gk (x.kids.getD (kidIx x.keys key) 0)) by have:=HRELR.out;rw [HTL.out,if_neg (by simp [hl])]at this;exact this)
       rw [hl]at x0
       obtain⟨m,hm⟩:∃m,kidIx x.keys key=m:=⟨_,rfl⟩
       rw [hm]at hkl hvis HRELN
       obtain⟨K,hK⟩:∃K,x.kids[m]?=some K:=⟨x.kids[m],by simp [hkl]⟩
       have hKd:x.kids.getD m 0=K:=by rw [List.getD_eq_getElem?_getD,hK];rfl
       rw [hKd]at hvis HRELN
       have HVN:=Lib.hid (And.intro hvis (And.intro ha' hb'))
       have HGK:=Lib.hid hgk
       have HKD:=Lib.hid fun w' (hb:Below w.heap.size w w')=>(by have:=kid_any (lf:=false) (ev:= .slice ae x.ents.length ne) (dv:= .slice ad x.kids.length ndd) (bv:= .slice ab x.buf.length nbb) (x:=key) (HKK.out.below hb (Nat.le_refl _)) hks;rw [hm]at this;exact this :
        Calls Tryd.prog 77 #[.agg #[.bool false, .slice ae x.ents.length ne, .slice ak x.keys.length nk, .slice ad x.kids.length ndd, .slice ab x.buf.length nbb], .int .i64 key] w' fun r w''=>r = .returned (.int .i64 m)∧Below w'.heap.size w' w'')
       obtain⟨kb,koff,kcap,ke,hkb,hkc⟩:=IntsAt.get (HDD.out.below hbwc (Nat.le_refl _)) hK
       injection ke with ke1 _ ke3
       subst ke1 ke3
       have HS:=Lib.hid fun w' (hb:Below wc.heap.size wc w')=>(by
        have gc:∀b o,b<wc.heap.size→w'.cell? ⟨b,o,none⟩=wc.cell? ⟨b,o,none⟩:=fun b o h=>hb.cell (p:=⟨b,o,none⟩) h
        rw [gc _ _ hwrc,gc _ _ hwrc,gc _ _ hwrc,gc _ _ hwrc,gc _ _ hwrc,gc _ _ hkb]
        exact⟨x0,x1,x2,x3,x4,hkc⟩:w'.cell? ⟨wr.heap.size,0,none⟩=some (.bool false)∧w'.cell? ⟨wr.heap.size,1,none⟩=some (.slice ae x.ents.length ne)∧w'.cell? ⟨wr.heap.size,2,none⟩=some (.slice ak x.keys.length nk)∧w'.cell? ⟨wr.heap.size,3,none⟩=some (.slice (some ⟨kb,koff,none⟩) x.kids.length ndd)∧w'.cell? ⟨wr.heap.size,4,none⟩=some (.slice ab x.buf.length nbb)∧w'.cell? ⟨kb,koff+m,none⟩=some (.int .i64 K))
       have hixk:=fun w'=>idx_int (ab:=kb) (aoff:=koff) (n:=x.kids.length) (cap:=ndd) (show (m:Int)=((m:Nat):Int) by rfl) hkl w'
       have b0:Below wc.heap.size wc wc.drew:=(Below.refl _ _).drew
       have hs0:=HS.out _ b0
       clear hl hks hm hK hKd hvis ha' hb' hgk x1 x2 x3 x4 hkc kn
       go_wp2_with fail
       go_region_held3 (fun w'=>w'.cell? ⟨wr.heap.size,0,none⟩=some (.bool false)∧w'.cell? ⟨wr.heap.size,1,none⟩=some (.slice ae x.ents.length ne)∧w'.cell? ⟨wr.heap.size,2,none⟩=some (.slice ak x.keys.length nk)∧w'.cell? ⟨wr.heap.size,3,none⟩=some (.slice (some ⟨kb,koff,none⟩) x.kids.length ndd)∧w'.cell? ⟨wr.heap.size,4,none⟩=some (.slice ab x.buf.length nbb)∧w'.cell? ⟨kb,koff+m,none⟩=some (.int .i64 K))
        (first|with_reducible exact hs0|(with_reducible refine HS.out _ ?_;exact belowAuto))
        (first
         |(go_at_call 77;(with_reducible refine(HKD.out _ ?_).mono ?_);(exact Below.trans' hbwc b0 hbwc.size);rintro e' w5 ⟨rfl,BE⟩;have hb5:Below wc.heap.size wc w5:=Below.trans' b0 BE (Nat.le_refl _)))
       all_goals
        go_wp2_with fail
        go_roundg f'
        case measure=>have:=HGK.out;omega
        case rel=>exact⟨f',K,a',b',l',h',r',by have:=HGK.out;omega,rfl,rfl,HVN,(by have:=HRELN.out;rw [HGK.out]at this;exact Lib.hid this),Lib.hid (HATR.out.later hb5 (Nat.le_refl _))⟩
  ·have HR:=Lib.hid (show gotS t key=(Roll.zero,2) by rw [gotS_eq,if_pos hf,if_neg hr])
   rw [hf]at HCK
   obtain⟨z0,z1,z2,z3,z4,z5,zf⟩:=zero_cells k1
   have HZ:=Lib.hid fun w' (hb:Below W0.heap.size W0 w')=>(hb.block (w.heap.size+1) (by omega)).trans k1
   have HB:=Lib.hid fun w' (hb:Below W0.heap.size W0 w')=>(Below.trans' hb0 hb hb0.size:Below w.heap.size w w')
   clear z0 z1 z2 z3 z4 z5 zf hf k0 k1
   by_cases hr0:key<0
   ·clear hr
    go_wp2_with ((go_at_call 70;(with_reducible refine HCK.out.mono ?_);rintro e w1 ⟨rfl,hb1⟩;have hz:=HZ.out _ hb1;obtain⟨z0,z1,z2,z3,z4,z5,zf⟩:=zero_cells hz;have hbw:=HB.out _ hb1))
    rw [HR.out]
    exact bodyPost_ret (v:= .tuple #[.agg #[.int .i64 0, .int .i64 0, .int .i64 0, .int .i64 0, .int .i64 0, .int .i64 0], .int .i64 2]) (by simp [results,Tryd.results50,go_sem, *]) rfl ⟨rfl,belowAuto⟩
   ·have hr1:1099511627776≤key:=by omega
    clear hr
    go_wp2_with ((go_at_call 70;(with_reducible refine HCK.out.mono ?_);rintro e w1 ⟨rfl,hb1⟩;have hz:=HZ.out _ hb1;obtain⟨z0,z1,z2,z3,z4,z5,zf⟩:=zero_cells hz;have hbw:=HB.out _ hb1))
    rw [HR.out]
    exact bodyPost_ret (v:= .tuple #[.agg #[.int .i64 0, .int .i64 0, .int .i64 0, .int .i64 0, .int .i64 0, .int .i64 0], .int .i64 2]) (by simp [results,Tryd.results50,go_sem, *]) rfl ⟨rfl,belowAuto⟩
 ·have HR:=Lib.hid (show gotS t key=(Roll.zero,treeFault t) by rw [gotS_eq,if_neg hf])
  have d2:(treeFault t != 0)=true:=by simp [hf]
  obtain⟨F,hF⟩:∃F,treeFault t=F:=⟨_,rfl⟩
  rw [hF]at HCK HR d2
  have HZ:=Lib.hid fun w' (hb:Below W0.heap.size W0 w')=>(hb.block (w.heap.size+1) (by omega)).trans k1
  have HB:=Lib.hid fun w' (hb:Below W0.heap.size W0 w')=>(Below.trans' hb0 hb hb0.size:Below w.heap.size w w')
  clear hf hF k0 k1
  go_wp2_with ((go_at_call 70;(with_reducible refine HCK.out.mono ?_);rintro e w1 ⟨rfl,hb1⟩;have hz:=HZ.out _ hb1;obtain⟨z0,z1,z2,z3,z4,z5,zf⟩:=zero_cells hz;have hbw:=HB.out _ hb1))
  rw [HR.out]
  exact bodyPost_ret (v:= .tuple #[.agg #[.int .i64 0, .int .i64 0, .int .i64 0, .int .i64 0, .int .i64 0, .int .i64 0], .int .i64 F]) (by simp [results,Tryd.results50,go_sem, *]) rfl ⟨rfl,belowAuto⟩
end Go.Proofs.YtnjfkcimboidnaaDoor
