import Derived.Test.YtmljjfhgciaceaaDoorHd
import Derived.Test.YtmljjfhgciaceaaDoorRefCopy
import Derived.Test.YtmljjfhgciaceaaDoorSO
import Derived.Test.YtmljjfhgciaceaaDoorBK
import Derived.Test.YtmljjfhgciaceaaDoorDG
import Derived.Test.YtmljjfhgciaceaaDoorAK
namespace Go.Proofs.YtmljjfhgciaceaaDoor
open Go.RowKit
set_option maxRecDepth 100000
set_option maxHeartbeats 4000000
variable {xb:Nat} {w:World}
theorem adJ {a0 a1 a2 a3 a4 a5 a6 a7:Value} {T:TypeId} (h:w.heap[xb]?=some (.cells #[a0,a1,a2,a3,a4,a5,a6,a7] T)) :
  w.cell? ⟨xb,0,none⟩=some a0/\w.cell? ⟨xb,1,none⟩=some a1/\w.cell? ⟨xb,2,none⟩=some a2/\w.cell? ⟨xb,3,none⟩=some a3/\w.cell? ⟨xb,4,none⟩=some a4/\w.cell? ⟨xb,5,none⟩=some a5/\w.cell? ⟨xb,6,none⟩=some a6/\w.cell? ⟨xb,7,none⟩=some a7/\∀o,w.frozen? ⟨xb,o,none⟩=false:=by simp [World.cell?,World.frozen?,h]
theorem aek {B:Nat} {w0:World} (h:Below B w w0) (hx:B<=xb) (v0 v1 v2 v3 v4 v5 v6 v7:Value):Below B w ((((((((w0.setCell ⟨xb,0,none⟩ v0).setCell ⟨xb,1,none⟩ v1).setCell ⟨xb,2,none⟩ v2).setCell ⟨xb,3,none⟩ v3).setCell ⟨xb,4,none⟩ v4).setCell ⟨xb,5,none⟩ v5).setCell ⟨xb,6,none⟩ v6).setCell ⟨xb,7,none⟩ v7):=
 (((((((h.setCell hx _).setCell hx _).setCell hx _).setCell hx _).setCell hx _).setCell hx _).setCell hx _).setCell hx _
structure aeF (w:World) (b:Ba) (cs:Array Value) (ob M:Nat) (nv a0 a1 a2:Value) (i0 i1 i2:Int) (k:Nat) (wr:World):Prop where
 below:ah w wr
 lo:w.heap.size+2<=ob
 hi:ob<M
 size:M<=wr.heap.size
 box:wr.heap[w.heap.size]?=some (.cells cs 35)
 res:wr.heap[w.heap.size+1]?=some (.cells #[.slice none 0 0, .slice none 0 0, .int .i64 0, .slice none 0 0, .int .i64 0, .slice none 0 0, .int .i64 0, .int .i64 0] 35)
 out:wr.heap[ob]?=some (.cells #[nv,a0, .int .i64 i0,a1, .int .i64 i1,a2, .int .i64 i2, .int .i64 b.floor] 35)
 names:∀w'',wr.heap.size<=w''.heap.size->(∀q,w.heap.size+2<=q->q<wr.heap.size->q≠ob->w''.heap[q]?=wr.heap[q]?)->jN w'' nv b.names
 n0:0<k->i0=b.t0.root/\∀w'',aM M wr w''->bz w'' a0 b.t0.nodes
 n1:1<k->i1=b.t1.root/\∀w'',aM M wr w''->bz w'' a1 b.t1.nodes
 n2:2<k->i2=b.t2.root/\∀w'',aM M wr w''->bz w'' a2 b.t2.nodes
section
variable {w:World} {b:Ba} {cs:Array Value} {ob M:Nat} {nv a0 a1 a2 a':Value} {i0 i1 i2:Int} {k:Nat} {wr w5:World}
theorem aeF.keep (h:aeF w b cs ob M nv a0 a1 a2 i0 i1 i2 k wr) (cu:ah wr w5) (o:Nat) (u v:Value):aM M wr ((w5.setCell ⟨ob,o,none⟩ u).setCell ⟨ob,o+1,none⟩ v):=
 ((aM.of cu aH).set (by exact h.hi) _).set (by exact h.hi) _
theorem aeF.rest (h:aeF w b cs ob M nv a0 a1 a2 i0 i1 i2 k wr) (cu:ah wr w5) (o:Nat) (u v:Value) {wx:World} (hx:wx=(w5.setCell ⟨ob,o,none⟩ u).setCell ⟨ob,o+1,none⟩ v) :
  ah w wx/\M<=wx.heap.size/\wx.heap[w.heap.size]?=some (.cells cs 35)/\wx.heap[w.heap.size+1]?=some (.cells #[.slice none 0 0, .slice none 0 0, .int .i64 0, .slice none 0 0, .int .i64 0, .slice none 0 0, .int .i64 0, .int .i64 0] 35) /\
  ∀w'',wx.heap.size<=w''.heap.size->(∀q,w.heap.size+2<=q->q<wx.heap.size->q≠ob->w''.heap[q]?=wx.heap[q]?)->jN w'' nv b.names:=by
 have hlo:=h.lo
 have hhi:=h.hi
 have hs:=h.size
 have hs5:=cu.size
 have hz:wx.heap.size=w5.heap.size:=by rw [hx];simp
 have hq:∀q,q≠ob->wx.heap[q]?=w5.heap[q]?:=fun q hq=>by
  rw [hx];exact(heap_setCell_other _ ⟨ob,_,none⟩ q _ hq).trans (heap_setCell_other _ ⟨ob,_,none⟩ q _ hq)
 refine⟨by rw [hx];exact((Below.trans' h.below cu h.below.size).setCell (by show w.heap.size<=ob;omega) _).setCell (by show w.heap.size<=ob;omega) _,af,?_,?_,fun w'' h1 h2=>h.names w'' af fun q q1 q2 q3=>?_⟩
 ·rw [hq _ af];exact(cu.block _ af).trans h.box
 ·rw [hq _ af];exact(cu.block _ af).trans h.res
 ·rw [h2 q q1 af q3,hq _ q3];exact cu.block _ q2
theorem aeF.step0 (h:aeF w b cs ob M nv a0 a1 a2 i0 i1 i2 0 wr) (cu:ah wr w5) (HK:∀w'',aM wr.heap.size w5 w''->bz w'' a' b.t0.nodes) :
  aeF w b cs ob M nv a' a1 a2 b.t0.root i1 i2 1 ((w5.setCell ⟨ob,1,none⟩ a').setCell ⟨ob,2,none⟩ (.int .i64 b.t0.root)):=by
 obtain⟨wx,hx⟩:=bP ((w5.setCell ⟨ob,1,none⟩ a').setCell ⟨ob,2,none⟩ (.int .i64 b.t0.root))
 obtain⟨r1,r2,r3,r4,r5⟩:=h.rest cu 1 a' (.int .i64 b.t0.root) hx
 have hs:=h.size
 have hhi:ob<wr.heap.size:=mQ h.hi hs
 have oP:=(cu.block ob hhi).trans h.out
 have h0:=heap_setCell_same (off:=2) (v:= .int .i64 b.t0.root) (heap_setCell_same (off:=1) (v:=a') oP)
 rw [<-hx]at h0 ⊢
 exact⟨r1,h.lo,h.hi,r2,r3,r4,by simpa using h0,r5,fun _=>⟨rfl,fun w'' hk=>HK w'' ((hx▸((aM.refl wr.heap.size w5).set (by exact hhi) _).set (by exact hhi) _:aM wr.heap.size w5 wx).trans (hk.mono hs))⟩,fun h=>absurd h af,fun h=>absurd h af⟩
theorem aeF.Dh (h:aeF w b cs ob M nv a0 a1 a2 i0 i1 i2 1 wr) (cu:ah wr w5) (HK:∀w'',aM wr.heap.size w5 w''->bz w'' a' b.t1.nodes) :
  aeF w b cs ob M nv a0 a' a2 i0 b.t1.root i2 2 ((w5.setCell ⟨ob,3,none⟩ a').setCell ⟨ob,4,none⟩ (.int .i64 b.t1.root)):=by
 obtain⟨wx,hx⟩:=bP ((w5.setCell ⟨ob,3,none⟩ a').setCell ⟨ob,4,none⟩ (.int .i64 b.t1.root))
 obtain⟨r1,r2,r3,r4,r5⟩:=h.rest cu 3 a' (.int .i64 b.t1.root) hx
 have hs:=h.size
 have hhi:ob<wr.heap.size:=mQ h.hi hs
 have oP:=(cu.block ob hhi).trans h.out
 have h0:=heap_setCell_same (off:=4) (v:= .int .i64 b.t1.root) (heap_setCell_same (off:=3) (v:=a') oP)
 rw [<-hx]at h0 ⊢
 exact⟨r1,h.lo,h.hi,r2,r3,r4,by simpa using h0,r5,fun _=>⟨(h.n0 af).1,fun w'' hk=>(h.n0 af).2 w'' ((hx▸h.keep cu 3 a' (.int .i64 b.t1.root):aM M wr wx).trans hk)⟩,fun _=>⟨rfl,fun w'' hk=>HK w'' ((hx▸((aM.refl wr.heap.size w5).set (by exact hhi) _).set (by exact hhi) _:aM wr.heap.size w5 wx).trans (hk.mono hs))⟩,fun h=>absurd h af⟩
theorem aeF.Dg (h:aeF w b cs ob M nv a0 a1 a2 i0 i1 i2 2 wr) (cu:ah wr w5) (HK:∀w'',aM wr.heap.size w5 w''->bz w'' a' b.t2.nodes) :
  aeF w b cs ob M nv a0 a1 a' i0 i1 b.t2.root 3 ((w5.setCell ⟨ob,5,none⟩ a').setCell ⟨ob,6,none⟩ (.int .i64 b.t2.root)):=by
 obtain⟨wx,hx⟩:=bP ((w5.setCell ⟨ob,5,none⟩ a').setCell ⟨ob,6,none⟩ (.int .i64 b.t2.root))
 obtain⟨r1,r2,r3,r4,r5⟩:=h.rest cu 5 a' (.int .i64 b.t2.root) hx
 have hs:=h.size
 have hhi:ob<wr.heap.size:=mQ h.hi hs
 have oP:=(cu.block ob hhi).trans h.out
 have h0:=heap_setCell_same (off:=6) (v:= .int .i64 b.t2.root) (heap_setCell_same (off:=5) (v:=a') oP)
 rw [<-hx]at h0 ⊢
 exact⟨r1,h.lo,h.hi,r2,r3,r4,by simpa using h0,r5,fun _=>⟨(h.n0 af).1,fun w'' hk=>(h.n0 af).2 w'' ((hx▸h.keep cu 5 a' (.int .i64 b.t2.root):aM M wr wx).trans hk)⟩,fun _=>⟨(h.n1 af).1,fun w'' hk=>(h.n1 af).2 w'' ((hx▸h.keep cu 5 a' (.int .i64 b.t2.root):aM M wr wx).trans hk)⟩,fun _=>⟨rfl,fun w'' hk=>HK w'' ((hx▸((aM.refl wr.heap.size w5).set (by exact hhi) _).set (by exact hhi) _:aM wr.heap.size w5 wx).trans (hk.mono hs))⟩⟩
end
theorem aia {v:Value} {b:Ba} (h:bO w v b) :
  Calls Tryd.prog 21 #[v] w fun e w'=>ah w w'/\∃sa sc g0 l0 p0 g1 l1 p1 g2 l2 p2,e = .returned (.agg #[.slice sa b.names.length sc, .slice g0 l0 p0, .int .i64 b.t0.root, .slice g1 l1 p1, .int .i64 b.t1.root, .slice g2 l2 p2, .int .i64 b.t2.root, .int .i64 b.floor])/\bO w' (.agg #[.slice sa b.names.length sc, .slice g0 l0 p0, .int .i64 b.t0.root, .slice g1 l1 p1, .int .i64 b.t1.root, .slice g2 l2 p2, .int .i64 b.t2.root, .int .i64 b.floor]) b:=by
 obtain⟨sa,sc,g0,l0,p0,g1,l1,p1,g2,l2,p2,rfl,hn,jl,h0,h1,h2⟩:=h.open
 have xR:=hdd jl
 have Lc:=hdd h0
 have ym:=hdd h1
 have bf:=hdd h2
 obtain⟨W0,hW0⟩:=bP ((w.alloc (.cells #[.slice sa b.names.length sc, .slice g0 l0 p0, .int .i64 b.t0.root, .slice g1 l1 p1, .int .i64 b.t1.root, .slice g2 l2 p2, .int .i64 b.t2.root, .int .i64 b.floor] 35)).alloc (.cells #[.slice none 0 0, .slice none 0 0, .int .i64 0, .slice none 0 0, .int .i64 0, .slice none 0 0, .int .i64 0, .int .i64 0] 35))
 have hb0:ah w W0:=by rw [hW0];exact ag
 have hz0:W0.heap.size=w.heap.size+2:=by rw [hW0];simp
 have k0:W0.heap[w.heap.size]?=some (.cells #[.slice sa b.names.length sc, .slice g0 l0 p0, .int .i64 b.t0.root, .slice g1 l1 p1, .int .i64 b.t1.root, .slice g2 l2 p2, .int .i64 b.t2.root, .int .i64 b.floor] 35):=by rw [hW0,kW _ _ _ bj];exact aj _ _ rfl
 have k1:W0.heap[w.heap.size+1]?=some (.cells #[.slice none 0 0, .slice none 0 0, .int .i64 0, .slice none 0 0, .int .i64 0, .slice none 0 0, .int .i64 0, .int .i64 0] 35):=by rw [hW0];exact aj _ _ bj
 have K2:=hdd fun W (hb:ah W0 W)=>(by
  have e1:=(hb.block w.heap.size af).trans k0
  simp [World.cell?,e1]:W.cell? ⟨w.heap.size,0,none⟩=some (.slice sa b.names.length sc)/\W.cell? ⟨w.heap.size,7,none⟩=some (.int .i64 b.floor))
 have OW:=hdd (aL k0 k1)
 have Io:=hdd hb0
 have HZ0:=hdd hz0
 obtain⟨ii,iz,s1,s2,s3,s4,s5⟩:=cj Tryd.VY
 have cp:=hdd (aL s1 (aL s2 (aL s3 (aL s4 s5))))
 clear h jl h0 h1 h2 hb0 hz0 k0 k1 s1 s2 s3 s4 s5
 go_enter Tryd.func21,Tryd.ntmps21
 go_upto_region 1 with (fail)
 rw [<-hW0]
 clear hW0
 go_cut [3] (fun p wx=>∃ob vo vc,p = .pointer (some ⟨ob,0,none⟩)/\Hid (aeF w b #[.slice sa b.names.length sc, .slice g0 l0 p0, .int .i64 b.t0.root, .slice g1 l1 p1, .int .i64 b.t1.root, .slice g2 l2 p2, .int .i64 b.t2.root, .int .i64 b.floor] ob wx.heap.size (.slice vo b.names.length vc) (.slice none 0 0) (.slice none 0 0) (.slice none 0 0) 0 0 0 0 wx))
 case first=>
  refine fD (mo.of [(0,1),(1,0),(3,1),(4,0)] (.fork 2 6 (mo.of [(5,1)] (mo.of [(6,2),(7,3)] .nil)) (mo.of [(2,2),(5,1),(7,3)] .nil))) 7 (fun W=>W.cell? ⟨w.heap.size,0,none⟩=some (.slice sa b.names.length sc)/\W.cell? ⟨w.heap.size,7,none⟩=some (.int .i64 b.floor)) bT bT (K2.out _ (aI _ _).drew) ?_
  (repeat first|refine bS ?_|refine bR ?_)
  refine iB rfl rfl rfl rfl (fun K hK=>?_) (fun K hK=>?_)
  ·skip
   refine adt (.const (.slice none 0 0)) (.tmp 6) rfl ii iz Tryd.underlying29 cp.out.1 cp.out.2.1 cp.out.2.2.1 cp.out.2.2.2.1 cp.out.2.2.2.2 aW aW kF _ b.names (BR _) rfl rfl (xR.out.below (Below.trans' Io.out (aI W0.heap.size W0).drew Io.out.size) aH) ?_
   intro v1 w1 AW hb1
   obtain⟨vo,vc,rfl⟩:=dE AW
   have ah1:=hdd (Below.trans' (aI W0.heap.size W0).drew hb1 (aI W0.heap.size W0).drew.size)
   have FD:=hdd (aL AW hb1)
   refine hK _ _ (K2.out _ ah1.out) ?_
   clear hK K AW hb1
   (repeat first|refine bS ?_|refine bR ?_)
   refine bA rfl rfl (fun K hK=>?_)
   go_simp
   obtain⟨Wa,eo⟩:=bP (w1.alloc (.cells #[.slice none 0 0, .slice none 0 0, .int .i64 0, .slice none 0 0, .int .i64 0, .slice none 0 0, .int .i64 0, .int .i64 0] 35))
   have K3:=hdd (show ah W0 Wa by rw [eo];exact ah1.out.alloc ah1.out.size _)
   have pc:=hdd (show Wa.heap[w1.heap.size]?=some (.cells #[.slice none 0 0, .slice none 0 0, .int .i64 0, .slice none 0 0, .int .i64 0, .slice none 0 0, .int .i64 0, .int .i64 0] 35) by rw [eo];exact aj _ _ rfl)
   have Oc:=hdd ah1.out.size
   have qo:=hdd (show ah w1 Wa by rw [eo];exact ag)
   have Vn:=hdd (show w1.heap.size<Wa.heap.size by rw [eo];simp)
   obtain⟨ob,Fy⟩:=bt (w1.heap.size)
   rw [Fy]at pc Oc Vn
   rw [<-eo,Fy]
   have HOE:=hdd Fy
   refine hK _ _ (K2.out _ K3.out) ?_
   clear hK K eo Fy
   (repeat first|refine bS ?_|refine bR ?_)
   obtain⟨z0,z1,z2,z3,z4,z5,z6,z7,zf⟩:=adJ pc.out
   refine dI rfl rfl (fun K hK=>?_)
   go_simp
   refine hK _ _ ?_
   clear hK K
   (repeat first|refine bS ?_|refine bR ?_)
   refine ac3 ?_
   obtain⟨U,hU⟩:=bP (((((((((Wa.setCell ⟨ob,0,none⟩ (.slice vo b.names.length vc)).setCell ⟨ob,1,none⟩ (.slice none 0 0)).setCell ⟨ob,2,none⟩ (.int .i64 0)).setCell ⟨ob,3,none⟩ (.slice none 0 0)).setCell ⟨ob,4,none⟩ (.int .i64 0)).setCell ⟨ob,5,none⟩ (.slice none 0 0)).setCell ⟨ob,6,none⟩ (.int .i64 0)).setCell ⟨ob,7,none⟩ (.int .i64 b.floor)))
   have tz:ah W0 U:=by rw [hU];exact aek K3.out Oc.out _ _ _ _ _ _ _ _
   have qc:U.heap[ob]?=some (.cells #[.slice vo b.names.length vc, .slice none 0 0, .int .i64 0, .slice none 0 0, .int .i64 0, .slice none 0 0, .int .i64 0, .int .i64 b.floor] 35):=by rw [hU];exact jb pc.out
   have fc:U.heap.size=Wa.heap.size:=by rw [hU];simp
   have rp:∀q,q≠ob->U.heap[q]?=Wa.heap[q]?:=fun q hq=>by rw [hU];exact aac hq
   rw [<-hU]
   clear hU z0 z1 z2 z3 z4 z5 z6 z7 zf
   have HU:=hdd (aL tz (aL qc (aL fc rp)))
   clear tz qc fc rp
   go_wp2_with fail
   go_meet
   obtain⟨tz,qc,fc,rp⟩:=HU.out
   have hz:=HZ0.out
   have oP:=Vn.out
   have hlo:=Oc.out
   refine⟨ob,vo,vc,rfl,hdd ⟨Below.trans' Io.out tz Io.out.size,af,af,km _,(tz.block _ af).trans OW.out.1,(tz.block _ af).trans OW.out.2,qc,fun w'' h1 h2=>?_,fun h=>absurd h af,fun h=>absurd h af,fun h=>absurd h af⟩⟩
   refine dK.owned kF (bZ FD.out.1 fun g hg=>?_) rfl xR.out.size
   have hgl:=FD.out.1.lt g hg
   have hoe:=HOE.out
   rw [h2 g (by have:=hgl.1;have:W0.drew.heap.size=W0.heap.size:=rfl;omega) (by have:=qo.out.size;omega) af,rp g af]
   exact qo.out.block g hgl.2
  ·skip
   go_simp
   obtain⟨Wa,eo⟩:=bP ((W0.alloc (.cells #[.slice none 0 0, .slice none 0 0, .int .i64 0, .slice none 0 0, .int .i64 0, .slice none 0 0, .int .i64 0, .int .i64 0] 35)).drew)
   have K3:=hdd (show ah W0 Wa by rw [eo];exact((aI _ W0).alloc aH _).drew)
   have ajt:=hdd (show Wa.heap[W0.heap.size]?=some (.cells #[.slice none 0 0, .slice none 0 0, .int .i64 0, .slice none 0 0, .int .i64 0, .slice none 0 0, .int .i64 0, .int .i64 0] 35) by rw [eo];exact aj _ _ rfl)
   have ai4:=hdd (show W0.heap.size<Wa.heap.size by rw [eo];show _<(W0.alloc _).heap.size;simp)
   obtain⟨ob,Fy⟩:=bt (W0.heap.size)
   have Oc:=hdd (show W0.heap.size<=ob by omega)
   rw [Fy]at ajt ai4
   rw [<-eo,Fy]
   refine hK _ _ (K2.out _ K3.out) ?_
   clear hK K eo Fy
   (repeat first|refine bS ?_|refine bR ?_)
   refine bA rfl rfl (fun K hK=>?_)
   refine adt (.const (.slice none 0 0)) (.tmp 6) rfl ii iz Tryd.underlying29 cp.out.1 cp.out.2.1 cp.out.2.2.1 cp.out.2.2.2.1 cp.out.2.2.2.2 aW aW kF _ b.names (BR _) rfl rfl (xR.out.below (Below.trans' Io.out K3.out Io.out.size) aH) ?_
   intro v1 w1 AW hb1
   obtain⟨vo,vc,rfl⟩:=dE AW
   have ah1:=hdd (Below.trans' K3.out hb1 K3.out.size)
   have FD:=hdd (aL AW hb1)
   refine hK _ _ (K2.out _ ah1.out) ?_
   clear hK K AW hb1
   (repeat first|refine bS ?_|refine bR ?_)
   have pc:=hdd ((FD.out.2.block ob ai4.out).trans ajt.out)
   have Vn:=hdd (mQ ai4.out FD.out.2.size)
   obtain⟨z0,z1,z2,z3,z4,z5,z6,z7,zf⟩:=adJ pc.out
   refine dI rfl rfl (fun K hK=>?_)
   go_simp
   refine hK _ _ ?_
   clear hK K
   (repeat first|refine bS ?_|refine bR ?_)
   refine ac3 ?_
   obtain⟨U,hU⟩:=bP (((((((((w1.setCell ⟨ob,0,none⟩ (.slice vo b.names.length vc)).setCell ⟨ob,1,none⟩ (.slice none 0 0)).setCell ⟨ob,2,none⟩ (.int .i64 0)).setCell ⟨ob,3,none⟩ (.slice none 0 0)).setCell ⟨ob,4,none⟩ (.int .i64 0)).setCell ⟨ob,5,none⟩ (.slice none 0 0)).setCell ⟨ob,6,none⟩ (.int .i64 0)).setCell ⟨ob,7,none⟩ (.int .i64 b.floor)))
   have tz:ah W0 U:=by rw [hU];exact aek ah1.out Oc.out _ _ _ _ _ _ _ _
   have qc:U.heap[ob]?=some (.cells #[.slice vo b.names.length vc, .slice none 0 0, .int .i64 0, .slice none 0 0, .int .i64 0, .slice none 0 0, .int .i64 0, .int .i64 b.floor] 35):=by rw [hU];exact jb pc.out
   have fc:U.heap.size=w1.heap.size:=by rw [hU];simp
   have rp:∀q,q≠ob->U.heap[q]?=w1.heap[q]?:=fun q hq=>by rw [hU];exact aac hq
   rw [<-hU]
   clear hU z0 z1 z2 z3 z4 z5 z6 z7 zf
   have HU:=hdd (aL tz (aL qc (aL fc rp)))
   clear tz qc fc rp
   go_wp2_with fail
   go_meet
   obtain⟨tz,qc,fc,rp⟩:=HU.out
   have hz:=HZ0.out
   have oP:=Vn.out
   have hlo:=Oc.out
   refine⟨ob,vo,vc,rfl,hdd ⟨Below.trans' Io.out tz Io.out.size,af,af,km _,(tz.block _ af).trans OW.out.1,(tz.block _ af).trans OW.out.2,qc,fun w'' h1 h2=>?_,fun h=>absurd h af,fun h=>absurd h af,fun h=>absurd h af⟩⟩
   refine dK.owned kF (bZ FD.out.1 fun g hg=>?_) rfl xR.out.size
   have hgl:=FD.out.1.lt g hg
   have apd:=ai4.out
   rw [h2 g (by have:=hgl.1;have:=K3.out.size;omega) af af,rp g af]
 case rest=>
  obtain⟨ob,vo,vc,rfl,AB⟩:=hcut
  obtain⟨M,hM⟩:=bt (wc.heap.size)
  rw [hM]at AB
  clear hM
  go_upto_region 3 with (fail)
  go_loopg [4] 3 (fun g iv wr=>∃(k:Nat) (a0 a1 a2:Value) (i0 i1 i2:Int),k<=3/\g=3-k/\iv = .int .i64 k/\Hid (aeF w b #[.slice sa b.names.length sc, .slice g0 l0 p0, .int .i64 b.t0.root, .slice g1 l1 p1, .int .i64 b.t1.root, .slice g2 l2 p2, .int .i64 b.t2.root, .int .i64 b.floor] ob M (.slice vo b.names.length vc) a0 a1 a2 i0 i1 i2 k wr))
  case atStart=>exact⟨0,_,_,_,_,_,_,af,rfl,rfl,AB⟩
  case round=>
   obtain⟨k,a0,a1,a2,i0,i1,i2,hk,rfl,rfl,HR⟩:=hrel
   clear AB
   obtain⟨b0,b1,b2,b3,b4,b5,b6,b7,-⟩:=adJ HR.out.box
   have hhi:=HR.out.hi
   have hMs:=HR.out.size
   by_cases hlt:k<3
   ·obtain rfl|rfl|rfl:k=0\/k=1\/k=2:=af
    ·have HT:=hdd (ae7 (r0:=b.t0.root) (show bz wr (.slice g0 l0 p0) b.t0.nodes by obtain⟨nv,hv,hn⟩:=Lc.out wr HR.out.below;cases hv;exact hn))
     go_wp2_with ((go_at_call 38;(with_reducible refine HT.out.mono ?_);rintro e w5 ⟨a',rfl,HK,cu⟩;obtain⟨g',l',p',rfl⟩:=aa9 (HK w5 (aM.refl _ _));obtain⟨z0,z1,z2,z3,z4,z5,z6,z7,zf⟩:=adJ ((cu.block ob af).trans HR.out.out)))
     go_roundg 2
     case measure=>omega
     case rel=>exact⟨1,(.slice g' l' p'),a1,a2,_,i1,i2,af,rfl,by go_num,hdd (HR.out.step0 cu HK)⟩
    ·have HT:=hdd (ae7 (r0:=b.t1.root) (show bz wr (.slice g1 l1 p1) b.t1.nodes by obtain⟨nv,hv,hn⟩:=ym.out wr HR.out.below;cases hv;exact hn))
     go_wp2_with ((go_at_call 38;(with_reducible refine HT.out.mono ?_);rintro e w5 ⟨a',rfl,HK,cu⟩;obtain⟨g',l',p',rfl⟩:=aa9 (HK w5 (aM.refl _ _));obtain⟨z0,z1,z2,z3,z4,z5,z6,z7,zf⟩:=adJ ((cu.block ob af).trans HR.out.out)))
     go_roundg 1
     case measure=>omega
     case rel=>exact⟨2,a0,(.slice g' l' p'),a2,i0,_,i2,af,rfl,by go_num,hdd (HR.out.Dh cu HK)⟩
    ·have HT:=hdd (ae7 (r0:=b.t2.root) (show bz wr (.slice g2 l2 p2) b.t2.nodes by obtain⟨nv,hv,hn⟩:=bf.out wr HR.out.below;cases hv;exact hn))
     go_wp2_with ((go_at_call 38;(with_reducible refine HT.out.mono ?_);rintro e w5 ⟨a',rfl,HK,cu⟩;obtain⟨g',l',p',rfl⟩:=aa9 (HK w5 (aM.refl _ _));obtain⟨z0,z1,z2,z3,z4,z5,z6,z7,zf⟩:=adJ ((cu.block ob af).trans HR.out.out)))
     go_roundg 0
     case measure=>omega
     case rel=>exact⟨3,a0,a1,(.slice g' l' p'),i0,i1,_,af,rfl,by go_num,hdd (HR.out.Dg cu HK)⟩
   ·obtain rfl:k=3:=af
    obtain⟨rfl,N0⟩:=HR.out.n0 aW
    obtain⟨rfl,N1⟩:=HR.out.n1 aW
    obtain⟨rfl,N2⟩:=HR.out.n2 aW
    obtain⟨g0',og,mg,rfl⟩:=aa9 (N0 wr (aM.refl _ _))
    obtain⟨g1',oa,wC,rfl⟩:=aa9 (N1 wr (aM.refl _ _))
    obtain⟨g2',mr,YH,rfl⟩:=aa9 (N2 wr (aM.refl _ _))
    obtain⟨o0,o1,o2,o3,o4,o5,o6,o7,-⟩:=adJ HR.out.out
    obtain⟨q0,q1,q2,q3,q4,q5,q6,q7,qf⟩:=adJ HR.out.res
    have HN:=hdd (aL N0 (aL N1 N2))
    obtain⟨U,hU⟩:=bP (((((((((wr.setCell ⟨w.heap.size+1,0,none⟩ (.slice vo b.names.length vc)).setCell ⟨w.heap.size+1,1,none⟩ (.slice g0' og mg)).setCell ⟨w.heap.size+1,2,none⟩ (.int .i64 b.t0.root)).setCell ⟨w.heap.size+1,3,none⟩ (.slice g1' oa wC)).setCell ⟨w.heap.size+1,4,none⟩ (.int .i64 b.t1.root)).setCell ⟨w.heap.size+1,5,none⟩ (.slice g2' mr YH)).setCell ⟨w.heap.size+1,6,none⟩ (.int .i64 b.t2.root)).setCell ⟨w.heap.size+1,7,none⟩ (.int .i64 b.floor)))
    have hlo:=HR.out.lo
    have rp:∀q,q≠w.heap.size+1->U.heap[q]?=wr.heap[q]?:=fun q hq=>by rw [hU];exact aac hq
    have fc:U.heap.size=wr.heap.size:=by rw [hU];simp
    have qc:aM M wr U:=⟨af,fun q h1 _=>rp q af⟩
    have kN:=hdd (show ah w U/\bO U (.agg (aG vo b.names.length vc g0' og mg g1' oa wC g2' mr YH b)) b from
     ⟨by rw [hU];exact aek HR.out.below af _ _ _ _ _ _ _ _,_,_,_,_,rfl,HR.out.names U af (fun q h1 _ _=>rp q af),N0 U qc,N1 U qc,N2 U qc⟩)
    have kU:U.heap[w.heap.size+1]?=some (.cells #[.slice vo b.names.length vc, .slice g0' og mg, .int .i64 b.t0.root, .slice g1' oa wC, .int .i64 b.t1.root, .slice g2' mr YH, .int .i64 b.t2.root, .int .i64 b.floor] 35):=by rw [hU];exact jb HR.out.res
    obtain⟨r0',ZU,r2',r3',r4',r5',r6',r7',-⟩:=adJ kU
    clear rp fc qc kU N0 N1 N2 b0 b1 b2 b3 b4 b5 b6 b7
    go_wp2_with fail
    rw [<-hU]
    exact bodyPost_ret (v:= .agg (aG vo b.names.length vc g0' og mg g1' oa wC g2' mr YH b)) (by simp [results,Tryd.results21,aG,go_sem, *]) rfl ⟨kN.out.1,vo,vc,g0',og,mg,g1',oa,wC,g2',mr,YH,rfl,kN.out.2⟩
end Go.Proofs.YtmljjfhgciaceaaDoor
