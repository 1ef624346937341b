/- Texts of mine that come as one: BaseOk KBase Bx KKnown. -/
import Derived.Test.YtnjfkcimboidnaaDoorKC
import Derived.Test.YtnjfkcimboidnaaDoorAY
import Derived.Test.YtnjfkcimboidnaaDoorKT
import Derived.Test.YtnjfkcimboidnaaDoorOG
/- base.Add on a base that may be and is not great: a point more is taken. -/
namespace Go.Proofs.YtnjfkcimboidnaaDoor
open Go.RowKit
theorem baseAdd_ok {v:Value} {b:Ba} {L:List Ent} {N:Nat} {s:ByteArray} {time value:Int} {w:World} (h:BaseAt w v b) (hst:∀s∈b.names,s.size≤140737488351232) (hss:s.size≤140737488351232) (hsz:SizesAt w)
  (hb:Bst b L N) (hN:N≤2900) (hn:nameMay s=true) (h0:0≤time) (h1:time≤1048575) (h2 : -1000000≤value) (h3:value≤1000000) (hf:b.floor≤time) (hp:placeI b.names s<0→b.names.length<16) :
  Calls Tryd.prog 51 #[v, .agg #[.string s, .int .i64 time, .int .i64 value]] w fun x w'=>Below w.heap.size w w' ∧
   ∃b' sa sc g0 l0 p0 g1 l1 p1 g2 l2 p2,x = .returned (.tuple #[.agg (baCells sa b'.names.length sc g0 l0 p0 g1 l1 p1 g2 l2 p2 b'), .int .i64 0])∧(∀w'',Keep w.heap.size w' w''→BaseAt w'' (.agg (baCells sa b'.names.length sc g0 l0 p0 g1 l1 p1 g2 l2 p2 b')) b') ∧
    b'.names=addNames b s∧b'.floor=b.floor∧Bst b' (ins L (addEnt b s time ⟨1,value,value,value,time,value⟩)) (N+1):=by
 obtain⟨a1,a2,-,a4⟩:=hb.add hN hn h0 h1 h2 h3 hf hp
 refine(baseAdd_any h hst hss hsz).mono ?_
 rintro x w' ⟨hw,⟨g1,-⟩|⟨-,⟨E,-,-,g2|⟨-,k,hk,g3⟩⟩|⟨-,b',sa,sc,q0,l0,p0,q1,l1,p1,q2,l2,p2,rfl,hat,r1,r2,r3,r4,r5⟩⟩⟩
 ·exact absurd a1 g1
 ·omega
 ·have:=hb.wt k hk;omega
 ·exact⟨hw,b',sa,sc,q0,l0,p0,q1,l1,p1,q2,l2,p2,rfl,hat,r1,r2,a4 b' r3 r4 r5⟩
end Go.Proofs.YtnjfkcimboidnaaDoor

/- winnowerkeep.Base at any raw things: a base that points were added to, and the points. -/
namespace Go.Proofs.YtnjfkcimboidnaaDoor
open Go.RowKit
structure KbAt (w:World) (tb:Nat) (xs:List Rw) (k:Nat) (sa:Option Addr) (sc:Nat) (g0:Option Addr) (l0 p0:Nat) (g1:Option Addr) (l1 p1:Nat) (g2:Option Addr) (l2 p2:Nat) (b:Ba) (pv:Value) (pts:List Pnt) (wr:World):Prop where
 below:Below w.heap.size w wr
 size:w.heap.size<tb
 lt:tb<wr.heap.size
 box:wr.heap[tb]?=some (.cells (baCells sa b.names.length sc g0 l0 p0 g1 l1 p1 g2 l2 p2 b) 35)
 res:wr.heap[w.heap.size]?=some (.cells #[.slice none 0 0, .slice none 0 0, .int .i64 0, .slice none 0 0, .int .i64 0, .slice none 0 0, .int .i64 0, .int .i64 0] 35)
 base:∃M wA,w.heap.size<M∧(tb<M∨wA.heap.size≤tb)∧Keep M wA wr∧(∀g,pv.ownBlock=some g→g<M∨wA.heap.size≤g)∧∀w'',Keep M wA w''→BaseAt w'' (.agg (baCells sa b.names.length sc g0 l0 p0 g1 l1 p1 g2 l2 p2 b)) b
 own:OwnPts (w.heap.size+1) wr pv pts
 kb:KB pts b
 eq:pts=(xs.take k).map pointF
 ne:∀g,pv.ownBlock=some g→g≠tb
theorem KbAt.at {w:World} {tb:Nat} {xs:List Rw} {k:Nat} {sa:Option Addr} {sc:Nat} {g0:Option Addr} {l0 p0:Nat} {g1:Option Addr} {l1 p1:Nat} {g2:Option Addr} {l2 p2:Nat} {b:Ba} {pv:Value} {pts:List Pnt} {wr:World} (h:KbAt w tb xs k sa sc g0 l0 p0 g1 l1 p1 g2 l2 p2 b pv pts wr) {W:World} (hb:Below wr.heap.size wr W):BaseAt W (.agg (baCells sa b.names.length sc g0 l0 p0 g1 l1 p1 g2 l2 p2 b)) b:=by
 obtain⟨M,wA,-,-,h1,-,h2⟩:=h.base
 exact h2 W (h1.trans (Keep.of hb (Nat.le_refl _)))
def KbPost (xs:List Rw) (most:Nat) (w:World) (x:Ending) (w':World):Prop:=Below w.heap.size w w'∧∃sa sc g0 l0 p0 g1 l1 p1 g2 l2 p2 b pa pc pts,x = .returned (.tuple #[.agg (baCells sa b.names.length sc g0 l0 p0 g1 l1 p1 g2 l2 p2 b), .slice pa pts.length pc]) ∧
 (∀w'',Keep (w.heap.size+1) w' w''→BaseAt w'' (.agg (baCells sa b.names.length sc g0 l0 p0 g1 l1 p1 g2 l2 p2 b)) b)∧OwnPts (w.heap.size+1) w' (.slice pa pts.length pc) pts∧KB pts b∧pts=(xs.take most).map pointF
theorem kb_start:KB [] newB:=⟨rfl,rfl,⟨(by have h:=newB_is;unfold baseIs at h;simp only [Bool.and_eq_true]at h;exact h.1.1.1),newB_book,fun k hk=>by
 have:newB.tree k=newT:=by rcases (by omega:k=0∨k=1∨k=2)with rfl|rfl|rfl <;> rfl
 rw [this];show wtT newT≤_;exact Nat.le_of_eq (show wtT newT=3 from rfl),by simp [allC,bag]⟩,fun p hp=>by cases hp⟩
theorem nameL_size:∀s∈nameL,s.size≤140737488351232:=fun s hs=>by have:=(nameL_may s hs).2;omega
set_option maxRecDepth 100000 in
set_option maxHeartbeats 4000000 in
theorem kBase_any {v:Value} {xs:List Rw} {most:Nat} {w:World} (h:RwsAt w v xs) (hx:∀a∈xs,a.ok) (hm:most≤100) (hsz:SizesAt w):Calls Tryd.prog 25 #[v, .int .i64 most] w (KbPost xs most w):=by
 obtain⟨ao,cap,rfl,a1,a2,a3,a4,a5⟩:=h
 obtain⟨W0,hW0⟩:∃W0,W0=w.alloc (.cells #[.slice none 0 0, .slice none 0 0, .int .i64 0, .slice none 0 0, .int .i64 0, .slice none 0 0, .int .i64 0, .int .i64 0] 35):=⟨_,rfl⟩
 have hb0:Below w.heap.size w W0:=by rw [hW0];exact belowAuto
 have hz0:W0.heap.size=w.heap.size+1:=by rw [hW0];simp
 have k0:W0.heap[w.heap.size]?=some (.cells #[.slice none 0 0, .slice none 0 0, .int .i64 0, .slice none 0 0, .int .i64 0, .slice none 0 0, .int .i64 0, .int .i64 0] 35):=by rw [hW0];exact heap_new _ _ rfl
 have HN:=Lib.hid (baseNew_keep W0)
 have HSZ:=Lib.hid hsz
 clear hsz
 go_enter Tryd.func25,Tryd.ntmps25
 go_upto_region 1 with (fail)
 rw [←hW0]
 clear hW0
 go_upto_region 2 with (go_at_call 52;(with_reducible refine HN.out.mono ?_);rintro e w1 ⟨⟨v1,rfl,hbn⟩,hb1⟩;obtain⟨sa,sc,g0,l0,p0,g1,l1,p1,g2,l2,p2,rfl,-⟩:=(hbn w1 (Keep.refl _ _)).open)
 obtain⟨W1,hW1⟩:∃W1,W1=w1.alloc (.cells (baCells sa newB.names.length sc g0 l0 p0 g1 l1 p1 g2 l2 p2 newB) 35):=⟨_,rfl⟩
 have hb1':Below w1.heap.size w1 W1:=by rw [hW1];exact belowAuto
 have k1:W1.heap[w1.heap.size]?=some (.cells (baCells sa newB.names.length sc g0 l0 p0 g1 l1 p1 g2 l2 p2 newB) 35):=by rw [hW1];exact heap_new _ _ rfl
 have hs1:=hb1.size
 have hz1:W1.heap.size=w1.heap.size+1:=by rw [hW1];simp
 have k01:=(hb1'.block w.heap.size (by omega)).trans ((hb1.block w.heap.size (by omega)).trans k0)
 have HI:=Lib.hid (show KbAt w w1.heap.size xs 0 sa sc g0 l0 p0 g1 l1 p1 g2 l2 p2 newB (.slice none 0 0) [] W1 from
  ⟨Below.trans' (Below.trans' hb0 hb1 hb0.size) hb1' (by omega),by omega,by omega,k1,k01,⟨W0.heap.size+2,w1,by omega, .inr (Nat.le_refl _),Keep.of hb1' (Nat.le_refl _),(fun g hg=>by cases hg),hbn⟩,OwnPts.nil _ _,kb_start,rfl,(fun g hg=>by cases hg)⟩)
 rw [←hW1]
 obtain⟨tb,htb⟩:∃tb,w1.heap.size=tb:=⟨_,rfl⟩
 rw [htb]at HI ⊢
 clear hW1 k1 hs1 hz1 k01 k0 hb1 hb1' hb0 htb hbn HN
 go_wp2_with fail
 go_loopg [7,8] (min xs.length most) (fun g pv i wr=>∃k:Nat,k≤min xs.length most∧g=min xs.length most-k∧i = .int .i64 k∧Hid (∃sa sc g0 l0 p0 g1 l1 p1 g2 l2 p2 b pts,KbAt w tb xs k sa sc g0 l0 p0 g1 l1 p1 g2 l2 p2 b pv pts wr))
 case atStart=>exact⟨0,Nat.zero_le _,rfl,rfl,Lib.hid ⟨_,_,_,_,_,_,_,_,_,_,_,_,_,HI.out⟩⟩
 case round=>
  clear HI
  obtain⟨k,hk,rfl,rfl,HR⟩:=hrel
  obtain⟨sa,sc,g0,l0,p0,g1,l1,p1,g2,l2,p2,b,pts,hA⟩:=HR.out
  obtain⟨pa,pc,rfl⟩:=hA.own.isSlice
  clear HR
  by_cases hlt:k<xs.length∧k<most
  ·obtain⟨hlt1,hlt2⟩:=hlt
   have hlt3:(k:Int)<(xs.length:Int):=by omega
   have hlt4:(k:Int)<(most:Int):=by omega
   obtain⟨ab,aoff,rfl,abb,ac⟩:=a5 (by omega)
   obtain⟨c0,c1,c2,c3⟩:=rw_cells hA.below abb ac hlt1
   have hxo:=hx xs[k] (List.getElem_mem hlt1)
   have hpk:=pointF_ok xs[k]
   have htk:(xs.take (k+1)).map pointF=(xs.take k).map pointF++[pointF xs[k]]:=by rw [List.take_succ_eq_append_getElem hlt1,List.map_append];rfl
   obtain⟨x,hxk⟩:∃x,xs[k]=x:=⟨_,rfl⟩
   rw [hxk]at c0 c1 c2 c3 hxo hpk htk
   obtain⟨p,hp⟩:∃p,pointF x=p:=⟨_,rfl⟩
   rw [hp]at hpk htk
   have HPT:=Lib.hid fun W=>point_any (w:=W) hxo hp
   have HA:=Lib.hid hA
   have HPK:=Lib.hid (And.intro hpk htk)
   have hix:=fun w'=>idx_rws (ab:=ab) (aoff:=aoff) (n:=xs.length) (cap:=cap) (show (k:Int)=((k:Nat):Int) by rfl) hlt1 w'
   clear hA hxo hxk hp hpk htk ac a5
   go_upto_region 7 with (go_at_call 34;(with_reducible refine(HPT.out _).mono ?_);rintro e w2 ⟨rfl,hb2⟩)
   obtain⟨W2,hW2⟩:∃W',W'=w2.alloc (.cells #[.string p.s, .int .i64 p.t, .int .i64 p.v] 76):=⟨_,rfl⟩
   have hb2':Below w2.heap.size w2 W2:=by rw [hW2];exact belowAuto
   have k2:W2.heap[w2.heap.size]?=some (.cells #[.string p.s, .int .i64 p.t, .int .i64 p.v] 76):=by rw [hW2];exact heap_new _ _ rfl
   have hbr:=Below.trans' hb2 hb2' hb2.size
   have hs2:=hb2.size
   have hz2:W2.heap.size=w2.heap.size+1:=by rw [hW2];simp
   have HBR:=Lib.hid hbr
   have htb2:tb<w2.heap.size:=Nat.lt_of_lt_of_le HA.out.lt hs2
   have e2:=(hbr.block tb HA.out.lt).trans HA.out.box
   have hws:=HA.out.below.size
   obtain⟨hn4,hnL⟩:=HA.out.kb.few (fun q hq=>by
    rw [HA.out.eq]at hq
    obtain⟨r,-,rfl⟩:=List.mem_map.1 hq
    exact(pointF_ok r).1)
   have hnm:=nameL_may _ HPK.out.1.1
   have hln:pts.length=k:=by rw [HA.out.eq,List.length_map,List.length_take];omega
   have HADD:=Lib.hid (baseAdd_ok (s:=p.s) (time:=p.t) (value:=p.v) (HA.out.at hbr) (fun s hs=>nameL_size s (hnL s hs)) (by omega) (HSZ.out.below (Below.trans' HA.out.below hbr HA.out.below.size)) HA.out.kb.st (by omega) hnm.1 (by have:=HPK.out.1;omega) (by have:=HPK.out.1;omega) (by have:=HPK.out.1;omega) (by have:=HPK.out.1;omega) (by rw [HA.out.kb.floor];have:=HPK.out.1;omega) (fun _=>by omega))
   have HLN:=Lib.hid hln
   have HK2:=Lib.hid k2
   obtain⟨q0,q1,q2⟩:W2.cell? ⟨w2.heap.size,0,none⟩=some (.string p.s)∧W2.cell? ⟨w2.heap.size,1,none⟩=some (.int .i64 p.t)∧W2.cell? ⟨w2.heap.size,2,none⟩=some (.int .i64 p.v):=by simp [World.cell?,k2]
   obtain⟨b0,b1,b2,b3,b4,b5,b6,b7⟩:W2.cell? ⟨tb,0,none⟩=some (.slice sa b.names.length sc)∧W2.cell? ⟨tb,1,none⟩=some (.slice g0 l0 p0)∧W2.cell? ⟨tb,2,none⟩=some (.int .i64 b.t0.root)∧W2.cell? ⟨tb,3,none⟩=some (.slice g1 l1 p1)∧W2.cell? ⟨tb,4,none⟩=some (.int .i64 b.t1.root)∧W2.cell? ⟨tb,5,none⟩=some (.slice g2 l2 p2)∧W2.cell? ⟨tb,6,none⟩=some (.int .i64 b.t2.root)∧W2.cell? ⟨tb,7,none⟩=some (.int .i64 b.floor):=by simp [World.cell?,e2,baCells]
   rw [←hW2]
   obtain⟨qb,hqb⟩:∃qb,w2.heap.size=qb:=⟨_,rfl⟩
   rw [hqb]at HK2 hz2 htb2 hs2 q0 q1 q2 ⊢
   clear hW2 hb2 hb2' k2 hbr e2 hnm hn4 hnL hln c0 c1 c2 c3 hix hqb
   go_upto_region 8 with (go_at_call 51;(with_reducible refine HADD.out.mono ?_);rintro e w3 ⟨hb3,bb,sax,scx,g0x,l0x,p0x,g1x,l1x,p1x,g2x,l2x,p2x,rfl,hbat,hbn,hbf,hbst⟩;have HBB:=Lib.hid (And.intro hbat (And.intro hbn (And.intro hbf hbst)));clear hbat hbn hbf hbst)
   obtain⟨W3,hW3⟩:∃W',W'=w3.alloc (.cells (baCells sax bb.names.length scx g0x l0x p0x g1x l1x p1x g2x l2x p2x bb) 35):=⟨_,rfl⟩
   have hb3':Below w3.heap.size w3 W3:=by rw [hW3];exact belowAuto
   have k3:W3.heap[w3.heap.size]?=some (.cells (baCells sax bb.names.length scx g0x l0x p0x g1x l1x p1x g2x l2x p2x bb) 35):=by rw [hW3];exact heap_new _ _ rfl
   have hs3:=hb3.size
   have hz3:W3.heap.size=w3.heap.size+1:=by rw [hW3];simp
   have h23:=Below.trans' hb3 hb3' hs3
   have HB3:=Lib.hid (And.intro hb3 (And.intro hb3' h23))
   have e3:=(h23.block tb (by omega)).trans ((HBR.out.block tb HA.out.lt).trans HA.out.box)
   have HE3:=Lib.hid e3
   have HBA:=Lib.hid (And.intro HBB.out.1 (HA.out.kb.add HBB.out.2.1 HBB.out.2.2.1 HBB.out.2.2.2))
   obtain⟨d0,d1,d2,d3,d4,d5,d6,d7⟩:W3.cell? ⟨w3.heap.size,0,none⟩=some (.slice sax bb.names.length scx)∧W3.cell? ⟨w3.heap.size,1,none⟩=some (.slice g0x l0x p0x)∧W3.cell? ⟨w3.heap.size,2,none⟩=some (.int .i64 bb.t0.root)∧W3.cell? ⟨w3.heap.size,3,none⟩=some (.slice g1x l1x p1x)∧W3.cell? ⟨w3.heap.size,4,none⟩=some (.int .i64 bb.t1.root)∧W3.cell? ⟨w3.heap.size,5,none⟩=some (.slice g2x l2x p2x)∧W3.cell? ⟨w3.heap.size,6,none⟩=some (.int .i64 bb.t2.root)∧W3.cell? ⟨w3.heap.size,7,none⟩=some (.int .i64 bb.floor):=by simp [World.cell?,k3,baCells]
   obtain⟨b0',b1',b2',b3',b4',b5',b6',b7',bf'⟩:W3.cell? ⟨tb,0,none⟩=some (.slice sa b.names.length sc)∧W3.cell? ⟨tb,1,none⟩=some (.slice g0 l0 p0)∧W3.cell? ⟨tb,2,none⟩=some (.int .i64 b.t0.root)∧W3.cell? ⟨tb,3,none⟩=some (.slice g1 l1 p1)∧W3.cell? ⟨tb,4,none⟩=some (.int .i64 b.t1.root)∧W3.cell? ⟨tb,5,none⟩=some (.slice g2 l2 p2)∧W3.cell? ⟨tb,6,none⟩=some (.int .i64 b.t2.root)∧W3.cell? ⟨tb,7,none⟩=some (.int .i64 b.floor)∧∀o,W3.frozen? ⟨tb,o,none⟩=false:=by simp [World.cell?,World.frozen?,e3,baCells]
   have r3:=(h23.block qb (by omega)).trans HK2.out
   have HR3:=Lib.hid r3
   rw [←hW3]
   clear hW3 hb3 hb3' k3 h23 e3 b0 b1 b2 b3 b4 b5 b6 b7 q0 q1 q2 r3 HADD
   go_upto_region 10 with (fail)
   obtain⟨W4,hW4⟩:∃W',W'=((((((((W3.setCell ⟨tb,0,none⟩ (.slice sax bb.names.length scx)).setCell ⟨tb,1,none⟩ (.slice g0x l0x p0x)).setCell ⟨tb,2,none⟩ (.int .i64 bb.t0.root)).setCell ⟨tb,3,none⟩ (.slice g1x l1x p1x)).setCell ⟨tb,4,none⟩ (.int .i64 bb.t1.root)).setCell ⟨tb,5,none⟩ (.slice g2x l2x p2x)).setCell ⟨tb,6,none⟩ (.int .i64 bb.t2.root)).setCell ⟨tb,7,none⟩ (.int .i64 bb.floor)):=⟨_,rfl⟩
   have k4:W4.heap[tb]?=some (.cells (baCells sax bb.names.length scx g0x l0x p0x g1x l1x p1x g2x l2x p2x bb) 35):=by rw [hW4];exact heap_set8 HE3.out
   have hob4:∀c,c≠tb→W4.heap[c]?=W3.heap[c]?:=fun c hc=>by
    rw [hW4]
    exact(heap_setCell_other _ ⟨tb,_,none⟩ c _ hc).trans ((heap_setCell_other _ ⟨tb,_,none⟩ c _ hc).trans ((heap_setCell_other _ ⟨tb,_,none⟩ c _ hc).trans ((heap_setCell_other _ ⟨tb,_,none⟩ c _ hc).trans ((heap_setCell_other _ ⟨tb,_,none⟩ c _ hc).trans ((heap_setCell_other _ ⟨tb,_,none⟩ c _ hc).trans ((heap_setCell_other _ ⟨tb,_,none⟩ c _ hc).trans ((heap_setCell_other _ ⟨tb,_,none⟩ c _ hc))))))))
   have hz4:W4.heap.size=W3.heap.size:=by rw [hW4];simp only [heap_setCell_size]
   have hb4:Below w.heap.size w W4:=by
    have h0:Below w.heap.size w W3:=Below.trans' (Below.trans' HA.out.below HBR.out HA.out.below.size) HB3.out.2.2 (by omega)
    have ht:w.heap.size≤tb:=by have:=HA.out.size;omega
    rw [hW4]
    exact((((((((h0.setCell ht _).setCell ht _).setCell ht _).setCell ht _).setCell ht _).setCell ht _).setCell ht _).setCell ht _)
   have H4:=Lib.hid (And.intro k4 (And.intro hob4 hb4))
   have r4:=(hob4 qb (by omega)).trans HR3.out
   obtain⟨q0,q1,q2⟩:W4.cell? ⟨qb,0,none⟩=some (.string p.s)∧W4.cell? ⟨qb,1,none⟩=some (.int .i64 p.t)∧W4.cell? ⟨qb,2,none⟩=some (.int .i64 p.v):=by simp [World.cell?,r4]
   rw [←hW4]
   clear hW4 k4 hob4 hb4 r4 d0 d1 d2 d3 d4 d5 d6 d7 b0' b1' b2' b3' b4' b5' b6' b7' bf'
   have htl:=HA.out.size
   have HLT:=Lib.hid HA.out.own.lt
   have HOW:=Lib.hid (show OwnPts (w.heap.size+1) (W4.alloc (.cells #[.string p.s, .int .i64 p.t, .int .i64 p.v] 76)) (.slice pa pts.length pc) pts from HA.out.own.block fun g hg=>by
    have h1:=(HA.out.own.lt g hg).2
    have h2:=HA.out.ne g hg
    have h3:g<W4.heap.size:=by omega
    have h4:g<W2.heap.size:=by omega
    exact(Below.heap_alloc _ _ _ h3).trans ((H4.out.2.1 g h2).trans ((HB3.out.2.2.block g h4).trans (HBR.out.block g h1))))
   have HZZ:=Lib.hid (And.intro hz4 hz3)
   have hw4:=H4.out.2.2.size
   clear hz4 hz3
   go_wp2_with ((at_builtin;refine wpList_append_pt rfl (.tmp 38) (.tmp 40) rfl (w.heap.size+1) _ pts rfl HOW.out ⟨_,0,none⟩ p rfl (fun j u h=>pt_new h) (by rw [HLN.out];omega) (by simp;omega) ?_;intro v5 w5 own5 hg5 hl5))
   have HG5:=Lib.hid (And.intro own5 (And.intro hg5 hl5))
   clear own5 hg5 hl5 q0 q1 q2
   go_roundg (min xs.length most-(k+1))
   case measure=>omega
   case rel=>
    obtain⟨own5,hg5,hl5⟩:=HG5.out
    obtain⟨hz4,hz3⟩:=HZZ.out
    have hlt0:=HA.out.lt
    obtain⟨k4,hob4,hb4⟩:=H4.out
    have hsa:(W4.alloc (.cells #[.string p.s, .int .i64 p.t, .int .i64 p.v] 76)).heap.size=W4.heap.size+1:=by simp
    have hg5s:=hg5.size
    have hch:∀c,(Value.slice pa pts.length pc).ownBlock≠some c→c≠tb→c<W3.heap.size→w5.heap[c]?=W3.heap[c]?:=fun c h1 h2 h3=>
     (hg5.block c (by omega) (fun e=>h1 e.symm)).trans ((Below.heap_alloc _ _ _ (by omega)).trans (hob4 c h2))
    have hnt:(Value.slice pa pts.length pc).ownBlock≠some tb:=fun h=>HA.out.ne tb h rfl
    have hnr:(Value.slice pa pts.length pc).ownBlock≠some w.heap.size:=fun h=>by have:=(HLT.out _ h).1;omega
    refine⟨k+1,by omega,rfl,by go_num,Lib.hid ⟨sax,scx,g0x,l0x,p0x,g1x,l1x,p1x,g2x,l2x,p2x,bb,pts++[p],?_⟩⟩
    refine⟨Below.grown (hb4.alloc (by omega) _) hg5 (by omega) (fun j hj=>by have:=(HLT.out j hj).1;omega),htl,by omega,(hg5.block tb (by omega) (fun e=>hnt e.symm)).trans ((Below.heap_alloc _ _ _ (by omega)).trans k4),(hch _ hnr (by omega) (by omega)).trans ((HB3.out.2.2.block w.heap.size (by omega)).trans ((HBR.out.block w.heap.size (by omega)).trans HA.out.res)),
     ⟨W2.heap.size,w3,by omega, .inl (by omega),⟨by omega,fun c c1 c2=>?_⟩,fun g hg=>?_,HBA.out.1⟩,own5,HBA.out.2,by rw [HA.out.eq,HPK.out.2],fun g hg=>?_⟩
    ·exact(hch c (fun h=>by have:=(HLT.out c h).2;omega) (by omega) (by omega)).trans (HB3.out.2.1.block c c2)
    ·rcases hl5 with h5|h5
     ·rw [h5]at hg;have:=(HLT.out g hg).2;left;omega
     ·rw [h5]at hg;cases hg;right;omega
    ·rcases hl5 with h5|h5
     ·rw [h5]at hg;exact HA.out.ne g hg
     ·rw [h5]at hg;cases hg;omega
  ·have HA:=Lib.hid hA
   have hbox:=hA.box
   have hres:=hA.res
   have htl:=hA.size
   obtain⟨b0,b1,b2,b3,b4,b5,b6,b7⟩:wr.cell? ⟨tb,0,none⟩=some (.slice sa b.names.length sc)∧wr.cell? ⟨tb,1,none⟩=some (.slice g0 l0 p0)∧wr.cell? ⟨tb,2,none⟩=some (.int .i64 b.t0.root)∧wr.cell? ⟨tb,3,none⟩=some (.slice g1 l1 p1)∧wr.cell? ⟨tb,4,none⟩=some (.int .i64 b.t1.root)∧wr.cell? ⟨tb,5,none⟩=some (.slice g2 l2 p2)∧wr.cell? ⟨tb,6,none⟩=some (.int .i64 b.t2.root)∧wr.cell? ⟨tb,7,none⟩=some (.int .i64 b.floor):=by simp [World.cell?,hbox,baCells]
   obtain⟨z0,z1,z2,z3,z4,z5,z6,z7,zf⟩:wr.cell? ⟨w.heap.size,0,none⟩=some (.slice none 0 0)∧wr.cell? ⟨w.heap.size,1,none⟩=some (.slice none 0 0)∧wr.cell? ⟨w.heap.size,2,none⟩=some (.int .i64 0)∧wr.cell? ⟨w.heap.size,3,none⟩=some (.slice none 0 0)∧wr.cell? ⟨w.heap.size,4,none⟩=some (.int .i64 0)∧wr.cell? ⟨w.heap.size,5,none⟩=some (.slice none 0 0)∧wr.cell? ⟨w.heap.size,6,none⟩=some (.int .i64 0)∧wr.cell? ⟨w.heap.size,7,none⟩=some (.int .i64 0)∧∀o,wr.frozen? ⟨w.heap.size,o,none⟩=false:=by simp [World.cell?,World.frozen?,hres]
   clear hA hbox hres
   have HPP:=Lib.hid (show ∀w',w'=((((((((wr.setCell ⟨w.heap.size,0,none⟩ (.slice sa b.names.length sc)).setCell ⟨w.heap.size,1,none⟩ (.slice g0 l0 p0)).setCell ⟨w.heap.size,2,none⟩ (.int .i64 b.t0.root)).setCell ⟨w.heap.size,3,none⟩ (.slice g1 l1 p1)).setCell ⟨w.heap.size,4,none⟩ (.int .i64 b.t1.root)).setCell ⟨w.heap.size,5,none⟩ (.slice g2 l2 p2)).setCell ⟨w.heap.size,6,none⟩ (.int .i64 b.t2.root)).setCell ⟨w.heap.size,7,none⟩ (.int .i64 b.floor))→KbPost xs most w (.returned (.tuple #[.agg (baCells sa b.names.length sc g0 l0 p0 g1 l1 p1 g2 l2 p2 b), .slice pa pts.length pc])) w' from fun w' hw'=>by
    have hob:∀c,c≠w.heap.size→w'.heap[c]?=wr.heap[c]?:=fun c hc=>by
     rw [hw']
     exact(heap_setCell_other _ ⟨w.heap.size,_,none⟩ c _ hc).trans ((heap_setCell_other _ ⟨w.heap.size,_,none⟩ c _ hc).trans ((heap_setCell_other _ ⟨w.heap.size,_,none⟩ c _ hc).trans ((heap_setCell_other _ ⟨w.heap.size,_,none⟩ c _ hc).trans ((heap_setCell_other _ ⟨w.heap.size,_,none⟩ c _ hc).trans ((heap_setCell_other _ ⟨w.heap.size,_,none⟩ c _ hc).trans ((heap_setCell_other _ ⟨w.heap.size,_,none⟩ c _ hc).trans ((heap_setCell_other _ ⟨w.heap.size,_,none⟩ c _ hc))))))))
    have hsz:w'.heap.size=wr.heap.size:=by rw [hw'];simp only [heap_setCell_size]
    have h0:=HA.out.below
    have ht:w.heap.size≤w.heap.size:=Nat.le_refl _
    refine⟨by rw [hw'];exact((((((((h0.setCell ht _).setCell ht _).setCell ht _).setCell ht _).setCell ht _).setCell ht _).setCell ht _).setCell ht _),_,_,_,_,_,_,_,_,_,_,_,b,pa,pc,pts,rfl,fun w'' hK=>?_,HA.out.own.block fun g hg=>hob g (by have:=(HA.out.own.lt g hg).1;omega),HA.out.kb,?_⟩
    ·obtain⟨M,wA,m1,m2,m3,m4,m5⟩:=HA.out.base
     refine m5 w'' (Keep.trans m3 ⟨by have:=hK.size;omega,fun c c1 c2=>?_⟩)
     exact(hK.block c (by omega) (by omega)).trans (hob c (by omega))
    ·rw [HA.out.eq]
     congr 1
     by_cases h1:k<xs.length
     ·have:k=most:=by omega
      rw [this]
     ·rw [List.take_of_length_le (by omega),List.take_of_length_le (by omega)])
   by_cases h1:k<xs.length
   ·have h2:¬k<most:=fun h=>hlt ⟨h1,h⟩
    have h1':(k:Int)<(xs.length:Int):=by omega
    have h2':¬(k:Int)<(most:Int):=by omega
    go_wp2_with fail
    exact bodyPost_ret (v:= .tuple #[.agg (baCells sa b.names.length sc g0 l0 p0 g1 l1 p1 g2 l2 p2 b), .slice pa pts.length pc]) (by simp [results,Tryd.results25,go_sem, *]) rfl (HPP.out _ rfl)
   ·have h1':¬(k:Int)<(xs.length:Int):=by omega
    go_wp2_with fail
    exact bodyPost_ret (v:= .tuple #[.agg (baCells sa b.names.length sc g0 l0 p0 g1 l1 p1 g2 l2 p2 b), .slice pa pts.length pc]) (by simp [results,Tryd.results25,go_sem, *]) rfl (HPP.out _ rfl)
end Go.Proofs.YtnjfkcimboidnaaDoor

/- A base in a box of memory. -/
namespace Go.Proofs.YtnjfkcimboidnaaDoor
open Go.RowKit
structure BxAt (w:World) (tb:Nat) (sa:Option Addr) (sc:Nat) (g0:Option Addr) (l0 p0:Nat) (g1:Option Addr) (l1 p1:Nat) (g2:Option Addr) (l2 p2:Nat) (b:Ba):Prop where
 box:w.heap[tb]?=some (.cells (baCells sa b.names.length sc g0 l0 p0 g1 l1 p1 g2 l2 p2 b) 35)
 at':BaseAt w (.agg (baCells sa b.names.length sc g0 l0 p0 g1 l1 p1 g2 l2 p2 b)) b
section
variable {w w':World} {tb:Nat} {sa:Option Addr} {sc:Nat} {g0:Option Addr} {l0 p0:Nat} {g1:Option Addr} {l1 p1:Nat} {g2:Option Addr} {l2 p2:Nat} {b:Ba}
theorem BxAt.lt (h:BxAt w tb sa sc g0 l0 p0 g1 l1 p1 g2 l2 p2 b):tb<w.heap.size:=(Array.getElem?_eq_some_iff.1 h.box).1
theorem BxAt.later (h:BxAt w tb sa sc g0 l0 p0 g1 l1 p1 g2 l2 p2 b) (hb:Below w.heap.size w w'):BxAt w' tb sa sc g0 l0 p0 g1 l1 p1 g2 l2 p2 b:=
 ⟨(hb.block _ h.lt).trans h.box,h.at'.below hb⟩
theorem BxAt.cells (h:BxAt w tb sa sc g0 l0 p0 g1 l1 p1 g2 l2 p2 b) :
  w.cell? ⟨tb,0,none⟩=some (.slice sa b.names.length sc)∧w.cell? ⟨tb,1,none⟩=some (.slice g0 l0 p0)∧w.cell? ⟨tb,2,none⟩=some (.int .i64 b.t0.root)∧w.cell? ⟨tb,3,none⟩=some (.slice g1 l1 p1)∧w.cell? ⟨tb,4,none⟩=some (.int .i64 b.t1.root)∧w.cell? ⟨tb,5,none⟩=some (.slice g2 l2 p2)∧w.cell? ⟨tb,6,none⟩=some (.int .i64 b.t2.root)∧w.cell? ⟨tb,7,none⟩=some (.int .i64 b.floor):=by
 have h1:=h.box
 simp [World.cell?,h1,baCells]
theorem BxAt.new {B:Nat} (h:∀w'',Keep B w w''→BaseAt w'' (.agg (baCells sa b.names.length sc g0 l0 p0 g1 l1 p1 g2 l2 p2 b)) b):BxAt (w.alloc (.cells (baCells sa b.names.length sc g0 l0 p0 g1 l1 p1 g2 l2 p2 b) 35)) w.heap.size sa sc g0 l0 p0 g1 l1 p1 g2 l2 p2 b:=
 ⟨heap_new _ _ rfl,h _ (Keep.of (B:=w.heap.size) (M:=B) (belowAuto) (Nat.le_refl _))⟩
theorem BxAt.names (h:BxAt w tb sa sc g0 l0 p0 g1 l1 p1 g2 l2 p2 b):StrsAt w (.slice sa b.names.length sc) b.names:=by
 obtain⟨sa',sc',g0',l0',p0',g1',l1',p1',g2',l2',p2',e,-,hs,-⟩:=h.at'.open
 simp only [baCells,Value.agg.injEq,Array.mk.injEq,List.cons.injEq,Value.slice.injEq]at e
 obtain⟨⟨rfl,-,rfl⟩,-⟩:=e
 exact hs
structure KxAt (w:World) (tb:Nat) (sa:Option Addr) (sc:Nat) (g0:Option Addr) (l0 p0:Nat) (g1:Option Addr) (l1 p1:Nat) (g2:Option Addr) (l2 p2:Nat) (b:Ba) (pv:Value) (pts:List Pnt) (wr:World):Prop where
 below:Below w.heap.size w wr
 bx:BxAt wr tb sa sc g0 l0 p0 g1 l1 p1 g2 l2 p2 b
 own:OwnPts (w.heap.size+1) wr pv pts
variable {pv:Value} {pts:List Pnt} {wr wx:World}
theorem KxAt.later (h:KxAt w tb sa sc g0 l0 p0 g1 l1 p1 g2 l2 p2 b pv pts wr) (hb:Below wr.heap.size wr wx):KxAt w tb sa sc g0 l0 p0 g1 l1 p1 g2 l2 p2 b pv pts wx:=
 ⟨Below.trans' h.below hb h.below.size,h.bx.later hb,h.own.below hb (Nat.le_refl _)⟩
end
theorem roll_cells {w:World} {B:Nat} {r:Roll} (h:w.heap[B]?=some (.cells #[.int .i64 r.c, .int .i64 r.s, .int .i64 r.mi, .int .i64 r.ma, .int .i64 r.t, .int .i64 r.l] 42)) :
  w.cell? ⟨B,0,none⟩=some (.int .i64 r.c)∧w.cell? ⟨B,1,none⟩=some (.int .i64 r.s)∧w.cell? ⟨B,2,none⟩=some (.int .i64 r.mi)∧w.cell? ⟨B,3,none⟩=some (.int .i64 r.ma)∧w.cell? ⟨B,4,none⟩=some (.int .i64 r.t)∧w.cell? ⟨B,5,none⟩=some (.int .i64 r.l):=by simp [World.cell?,h]
end Go.Proofs.YtnjfkcimboidnaaDoor

/- winnowerkeep.known: what the points of a series within times come to. -/
namespace Go.Proofs.YtnjfkcimboidnaaDoor
open Go.RowKit
def rollP (p:Pnt):Roll:=⟨1,p.v,p.v,p.v,p.t,p.v⟩
def isIn (s:ByteArray) (a z:Int) (p:Pnt):Bool:=decide (p.s=s) && decide (a≤p.t) && decide (p.t≤z)
def knownF (ps:List Pnt) (s:ByteArray) (a z:Int):Roll:=ps.foldl (fun r p=>if isIn s a z p then r.join (rollP p)else r) Roll.zero
theorem knownF_snoc (ps:List Pnt) (p:Pnt) (s:ByteArray) (a z:Int):knownF (ps++[p]) s a z=if isIn s a z p then(knownF ps s a z).join (rollP p)else knownF ps s a z:=by
 unfold knownF;rw [List.foldl_append];rfl
def PtOk (p:Pnt):Prop:=0≤p.t∧p.t≤1048575∧-1000000≤p.v∧p.v≤1000000
theorem rollP_check {p:Pnt} (h:PtOk p):rollCheck (rollP p)=0:=pt_check h.1 h.2.1 h.2.2.1 h.2.2.2
theorem foldK_ok {s:ByteArray} {a z:Int}:∀{ps:List Pnt} {r:Roll},ps.length≤1000000→(∀p∈ps,PtOk p)→rollCheck r=0→0≤r.c→r.c+ps.length≤1000000 →
  rollCheck (ps.foldl (fun r p=>if isIn s a z p then r.join (rollP p)else r) r)=0∧(ps.foldl (fun r p=>if isIn s a z p then r.join (rollP p)else r) r).c≤r.c+ps.length∧0≤(ps.foldl (fun r p=>if isIn s a z p then r.join (rollP p)else r) r).c
 |[],r,_,_,h1,h2,_=>⟨h1,by simp,h2⟩
 |p::ps,r,hl,hp,h1,h2,h3=>by
  have hlc:(p::ps).length=ps.length+1:=List.length_cons
  rw [hlc]at hl h3 ⊢
  rw [List.foldl_cons]
  have hr:=rollP_check (hp p (by simp))
  have hc:(rollP p).c=1:=rfl
  by_cases hi:isIn s a z p=true
  ·rw [if_pos hi]
   have hj:(r.join (rollP p)).c=r.c+1:=by rw [join_c,hc]
   obtain⟨g1,g2,g3⟩:=foldK_ok (s:=s) (a:=a) (z:=z) (ps:=ps) (r:=r.join (rollP p)) (by omega) (fun q hq=>hp q (by simp [hq])) (merge_ok h1 hr (by rw [hc];omega)).2 (by omega) (by omega)
   exact⟨g1,by push_cast;omega,g3⟩
  ·rw [if_neg hi]
   obtain⟨g1,g2,g3⟩:=foldK_ok (s:=s) (a:=a) (z:=z) (ps:=ps) (r:=r) (by omega) (fun q hq=>hp q (by simp [hq])) h1 h2 (by omega)
   exact⟨g1,by push_cast;omega,g3⟩
theorem knownF_ok {ps:List Pnt} {s:ByteArray} {a z:Int} (hl:ps.length≤1000000) (hp:∀p∈ps,PtOk p):rollCheck (knownF ps s a z)=0∧(knownF ps s a z).c≤ps.length∧0≤(knownF ps s a z).c:=by
 have h0:(Roll.zero:Roll).c=0:=rfl
 obtain⟨h1,h2,h3⟩:=foldK_ok (s:=s) (a:=a) (z:=z) (r:=Roll.zero) hl hp (by decide) (by decide) (by rw [h0];omega)
 exact⟨h1,by rw [h0]at h2;unfold knownF;omega,h3⟩
set_option maxRecDepth 100000 in
set_option maxHeartbeats 4000000 in
theorem known_any {v:Value} {ps:List Pnt} {s:ByteArray} {a z:Int} {w:World} (h:PtsAt w v ps) (hl:ps.length≤1000000) (hp:∀p∈ps,PtOk p) :
  Calls Tryd.prog 29 #[v, .string s, .int .i64 a, .int .i64 z] w fun e w'=>e = .returned (knownF ps s a z).v∧Below w.heap.size w w':=by
 obtain⟨ao,cap,rfl,a1,a2,a3,a4,a5⟩:=h
 obtain⟨W0,hW0⟩:∃W0,W0=(w.alloc (.cells #[.int .i64 0, .int .i64 0, .int .i64 0, .int .i64 0, .int .i64 0, .int .i64 0] 42)).alloc (.cells #[.int .i64 0, .int .i64 0, .int .i64 0, .int .i64 0, .int .i64 0, .int .i64 0] 42):=⟨_,rfl⟩
 have hb0:Below w.heap.size w W0:=by rw [hW0];exact belowAuto
 have hz0:W0.heap.size=w.heap.size+2:=by rw [hW0];simp
 have k0:BoxAt W0 w.heap.size Roll.zero:=⟨by rw [hW0,Below.heap_alloc _ _ _ (by simp)];exact heap_new _ _ rfl⟩
 have k1:BoxAt W0 (w.heap.size+1) Roll.zero:=⟨by rw [hW0];exact heap_new _ _ (by simp)⟩
 have HI:=Lib.hid (And.intro hb0 (And.intro hz0 (And.intro k0 k1)))
 clear k0 k1 hb0 hz0
 go_enter Tryd.func29,Tryd.ntmps29
 go_upto_region 2 with (fail)
 rw [←hW0]
 clear hW0
 go_wp2_with fail
 go_loopg [17] ps.length (fun g i wr=>∃k:Nat,k≤ps.length∧g=ps.length-k∧i = .int .i64 k∧Hid (Below w.heap.size w wr∧w.heap.size+2≤wr.heap.size∧BoxAt wr w.heap.size Roll.zero∧BoxAt wr (w.heap.size+1) (knownF (ps.take k) s a z)))
 case atStart=>exact⟨0,Nat.zero_le _,rfl,rfl,Lib.hid ⟨HI.out.1,by have:=HI.out.2.1;omega,HI.out.2.2.1,HI.out.2.2.2⟩⟩
 case round=>
  clear HI
  obtain⟨k,hk,rfl,rfl,HR⟩:=hrel
  by_cases hlt:k<ps.length
  ·obtain⟨ab,aoff,rfl,abb,ac⟩:=a5 (by omega)
   obtain⟨c0,c1,c2⟩:=pt_cells HR.out.1 abb ac hlt
   have htk:=List.take_succ_eq_append_getElem hlt
   have hpo:=hp _ (List.getElem_mem hlt)
   obtain⟨p,hpk⟩:∃p,ps[k]=p:=⟨_,rfl⟩
   rw [hpk]at c0 c1 c2 htk hpo
   have HTK:=Lib.hid (show knownF (ps.take (k+1)) s a z=if isIn s a z p then(knownF (ps.take k) s a z).join (rollP p)else knownF (ps.take k) s a z by rw [htk,knownF_snoc])
   have HK:=Lib.hid (knownF_ok (ps:=ps.take k) (s:=s) (a:=a) (z:=z) (by rw [List.length_take];omega) fun q hq=>hp q (List.mem_of_mem_take hq))
   have hix:=fun w'=>idx_pts (ab:=ab) (aoff:=aoff) (n:=ps.length) (cap:=cap) (show (k:Int)=((k:Nat):Int) by rfl) hlt w'
   have HPO:=Lib.hid hpo
   clear ac a5 htk hpk hpo
   go_upto_region 5 with (fail)
   obtain⟨W5,hW5⟩:∃W',W'=wr.alloc (.cells #[.string p.s, .int .i64 p.t, .int .i64 p.v] 76):=⟨_,rfl⟩
   have hb5:Below wr.heap.size wr W5:=by rw [hW5];exact belowAuto
   have k5:W5.heap[wr.heap.size]?=some (.cells #[.string p.s, .int .i64 p.t, .int .i64 p.v] 76):=by rw [hW5];exact heap_new _ _ rfl
   have hz5:W5.heap.size=wr.heap.size+1:=by rw [hW5];simp
   have HP5:=Lib.hid fun W (hb:Below W5.heap.size W5 W)=>(show W.cell? ⟨wr.heap.size,0,none⟩=some (.string p.s)∧W.cell? ⟨wr.heap.size,1,none⟩=some (.int .i64 p.t)∧W.cell? ⟨wr.heap.size,2,none⟩=some (.int .i64 p.v)from by
    have b0:=(hb.block wr.heap.size (by omega)).trans k5
    simp [World.cell?,b0])
   obtain⟨h1,h2,h3,h4⟩:=HR.out
   have HB5:=Lib.hid (And.intro (Below.trans' h1 hb5 h1.size) (And.intro (h3.later hb5) (h4.later hb5)))
   have HS2:=Lib.hid (show w.heap.size+2≤W5.heap.size by omega)
   obtain⟨q0,q1,q2⟩:=HP5.out _ (Below.refl _ _)
   rw [←hW5]
   clear hW5 hb5 k5 h1 h2 h3 h4 c0 c1 c2 hix
   have hse:=str_eq p.s s
   obtain⟨R,hR⟩:∃R,knownF (ps.take k) s a z=R:=⟨_,rfl⟩
   rw [hR]at HB5 HK HTK
   by_cases g1:p.s=s
   ·have d1:decide (p.s=s)=true:=decide_eq_true g1
    rw [d1]at hse
    by_cases g2:a≤p.t
    ·have d2:decide (a≤p.t)=true:=decide_eq_true g2
     by_cases g3:p.t≤z
     ·have d3:decide (p.t≤z)=true:=decide_eq_true g3
      have HT:=Lib.hid (show knownF (ps.take (k+1)) s a z=R.join (rollP p) by rw [HTK.out,if_pos (by simp [isIn,g1,g2,g3])])
      clear g1 d1 hR
      have HOF:=Lib.hid (show Calls Tryd.prog 18 #[.int .i64 p.t, .int .i64 p.v] W5 fun e w'=>e = .returned (.tuple #[.agg #[.int .i64 1, .int .i64 p.v, .int .i64 p.v, .int .i64 p.v, .int .i64 p.t, .int .i64 p.v], .int .i64 0])∧Below W5.heap.size W5 w' by
       have:=of_any p.t p.v W5
       rw [show rollOf p.t p.v=(rollP p,0)from if_pos HPO.out]at this
       exact this)
      go_upto_region 7 with (go_at_call 18;(with_reducible refine HOF.out.mono ?_);rintro e w6 ⟨rfl,hb6⟩)
      obtain⟨W6,hW6⟩:∃W',W'=w6.alloc (.cells #[.int .i64 1, .int .i64 p.v, .int .i64 p.v, .int .i64 p.v, .int .i64 p.t, .int .i64 p.v] 42):=⟨_,rfl⟩
      have hb6':Below w6.heap.size w6 W6:=by rw [hW6];exact belowAuto
      have k6:BoxAt W6 w6.heap.size (rollP p):=by rw [hW6];exact BoxAt.new _ (rollP p)
      have h56:=Below.trans' hb6 hb6' hb6.size
      have HB6:=Lib.hid (And.intro (Below.trans' HB5.out.1 h56 HB5.out.1.size) (And.intro (HB5.out.2.1.later h56) (HB5.out.2.2.later h56)))
      have HS6:=Lib.hid (Nat.le_trans HS2.out h56.size)
      have hmg:=(merge_ok HK.out.1 (rollP_check HPO.out) (by have h1:=HK.out.2.1;have h2:(rollP p).c=1:=rfl;rw [List.length_take]at h1;omega)).1
      obtain⟨J,hJ⟩:∃J,R.join (rollP p)=J:=⟨_,rfl⟩
      rw [hJ]at hmg HT
      have HM:=Lib.hid (show Calls Tryd.prog 19 #[.agg #[.int .i64 R.c, .int .i64 R.s, .int .i64 R.mi, .int .i64 R.ma, .int .i64 R.t, .int .i64 R.l], .agg #[.int .i64 1, .int .i64 p.v, .int .i64 p.v, .int .i64 p.v, .int .i64 p.t, .int .i64 p.v]] W6 fun e w'=>e = .returned (.tuple #[.agg #[.int .i64 J.c, .int .i64 J.s, .int .i64 J.mi, .int .i64 J.ma, .int .i64 J.t, .int .i64 J.l], .int .i64 0])∧Below W6.heap.size W6 w' by
       have:=merge_any R (rollP p) W6
       rw [hmg]at this
       exact this)
      obtain⟨x0,x1,x2,x3,x4,x5⟩:=HB6.out.2.2.cells
      obtain⟨y0,y1,y2,y3,y4,y5⟩:W6.cell? ⟨w6.heap.size,0,none⟩=some (.int .i64 1)∧W6.cell? ⟨w6.heap.size,1,none⟩=some (.int .i64 p.v)∧W6.cell? ⟨w6.heap.size,2,none⟩=some (.int .i64 p.v)∧W6.cell? ⟨w6.heap.size,3,none⟩=some (.int .i64 p.v)∧W6.cell? ⟨w6.heap.size,4,none⟩=some (.int .i64 p.t)∧W6.cell? ⟨w6.heap.size,5,none⟩=some (.int .i64 p.v):=k6.cells
      rw [←hW6]
      clear hW6 hb6 hb6' k6 h56 hmg hJ q0 q1 q2 HOF
      go_wp2_with (go_at_call 19;(with_reducible refine HM.out.mono ?_);rintro e w7 ⟨rfl,hb7⟩;have k7:=(HB6.out.2.2.later hb7).box;obtain⟨z0,z1,z2,z3,z4,z5,zf⟩:w7.cell? ⟨w.heap.size+1,0,none⟩=some (.int .i64 R.c)∧w7.cell? ⟨w.heap.size+1,1,none⟩=some (.int .i64 R.s)∧w7.cell? ⟨w.heap.size+1,2,none⟩=some (.int .i64 R.mi)∧w7.cell? ⟨w.heap.size+1,3,none⟩=some (.int .i64 R.ma)∧w7.cell? ⟨w.heap.size+1,4,none⟩=some (.int .i64 R.t)∧w7.cell? ⟨w.heap.size+1,5,none⟩=some (.int .i64 R.l)∧∀o,w7.frozen? ⟨w.heap.size+1,o,none⟩=false:=by simp [World.cell?,World.frozen?,k7])
      go_roundg (ps.length-(k+1))
      case measure=>omega
      case rel=>
       have h7:=Below.trans' HB6.out.1 hb7 HB6.out.1.size
       have hlo:w.heap.size≤w.heap.size+1:=by omega
       refine⟨k+1,by omega,rfl,by go_num,Lib.hid ⟨(((((h7.setCell hlo _).setCell hlo _).setCell hlo _).setCell hlo _).setCell hlo _).setCell hlo _,by simp only [heap_setCell_size];have:=hb7.size;have:=HS6.out;omega,⟨?_⟩,⟨by rw [HT.out];exact roll_box k7⟩⟩⟩
       have hne:w.heap.size≠w.heap.size+1:=by omega
       exact(heap_setCell_other _ ⟨w.heap.size+1,_,none⟩ _ _ hne).trans ((heap_setCell_other _ ⟨w.heap.size+1,_,none⟩ _ _ hne).trans ((heap_setCell_other _ ⟨w.heap.size+1,_,none⟩ _ _ hne).trans ((heap_setCell_other _ ⟨w.heap.size+1,_,none⟩ _ _ hne).trans ((heap_setCell_other _ ⟨w.heap.size+1,_,none⟩ _ _ hne).trans ((heap_setCell_other _ ⟨w.heap.size+1,_,none⟩ _ _ hne).trans (HB6.out.2.1.later hb7).box)))))
     ·have HT:=Lib.hid (show knownF (ps.take (k+1)) s a z=R by rw [HTK.out,if_neg (by simp [isIn,g3])])
      have d3:decide (p.t≤z)=false:=decide_eq_false g3;clear g1 d1 hR
      go_wp2_with fail
      go_roundg (ps.length-(k+1))
      case measure=>omega
      case rel=>exact⟨k+1,by omega,rfl,by go_num,Lib.hid ⟨HB5.out.1,HS2.out,HB5.out.2.1,by rw [HT.out];exact HB5.out.2.2⟩⟩
    ·have HT:=Lib.hid (show knownF (ps.take (k+1)) s a z=R by rw [HTK.out,if_neg (by simp [isIn,g2])])
     have d2:decide (a≤p.t)=false:=decide_eq_false g2;clear g1 d1 hR
     go_wp2_with fail
     go_roundg (ps.length-(k+1))
     case measure=>omega
     case rel=>exact⟨k+1,by omega,rfl,by go_num,Lib.hid ⟨HB5.out.1,HS2.out,HB5.out.2.1,by rw [HT.out];exact HB5.out.2.2⟩⟩
   ·have HT:=Lib.hid (show knownF (ps.take (k+1)) s a z=R by rw [HTK.out,if_neg (by simp [isIn,g1])])
    have d1:decide (p.s=s)=false:=decide_eq_false g1;rw [d1]at hse;clear g1 d1 hR
    go_wp2_with fail
    go_roundg (ps.length-(k+1))
    case measure=>omega
    case rel=>exact⟨k+1,by omega,rfl,by go_num,Lib.hid ⟨HB5.out.1,HS2.out,HB5.out.2.1,by rw [HT.out];exact HB5.out.2.2⟩⟩
  ·obtain⟨h1,h2,h3,h4⟩:=HR.out
   have htk:ps.take k=ps:=List.take_of_length_le (by omega)
   rw [htk]at h4
   have HE:=Lib.hid h1
   obtain⟨R,hR⟩:∃R,knownF ps s a z=R:=⟨_,rfl⟩
   rw [hR]at h4
   have HRR:=Lib.hid hR
   obtain⟨x0,x1,x2,x3,x4,x5⟩:=h4.cells
   have b3:=h3.box
   obtain⟨z0,z1,z2,z3,z4,z5,zf⟩:wr.cell? ⟨w.heap.size,0,none⟩=some (.int .i64 0)∧wr.cell? ⟨w.heap.size,1,none⟩=some (.int .i64 0)∧wr.cell? ⟨w.heap.size,2,none⟩=some (.int .i64 0)∧wr.cell? ⟨w.heap.size,3,none⟩=some (.int .i64 0)∧wr.cell? ⟨w.heap.size,4,none⟩=some (.int .i64 0)∧wr.cell? ⟨w.heap.size,5,none⟩=some (.int .i64 0)∧∀o,wr.frozen? ⟨w.heap.size,o,none⟩=false:=by simp [World.cell?,World.frozen?,b3];decide
   clear h1 h2 h3 h4 b3 hR htk HR
   go_wp2_with fail
   have hb:=HE.out
   exact bodyPost_ret (v:=R.v) (by simp [results,Tryd.results29,go_sem,Roll.v, *]) rfl ⟨congrArg (fun r=>Ending.returned (Roll.v r)) HRR.out.symm,belowAuto⟩
end Go.Proofs.YtnjfkcimboidnaaDoor
