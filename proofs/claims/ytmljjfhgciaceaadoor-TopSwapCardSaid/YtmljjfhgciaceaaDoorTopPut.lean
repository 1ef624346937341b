import Derived.Test.YtmljjfhgciaceaaDoorHd
import Derived.Test.YtmljjfhgciaceaaDoorEG
import Derived.Test.YtmljjfhgciaceaaDoorActs
namespace Go.Proofs.YtmljjfhgciaceaaDoor
open Go.RowKit
set_option maxRecDepth 100000
set_option maxHeartbeats 1000000
theorem abE {r:Rw} {w:World} (hr:r.ok) :
  Calls Tryd.prog 32 #[.agg #[.int .i64 r.k, .int .i64 r.a, .int .i64 r.b, .int .i64 r.c]] w fun e w'=>e = .returned (.agg (aae (ku r)).cs)/\ah w w':=by
 obtain⟨p,hp⟩:=bt (ku r)
 obtain⟨W0,hW0⟩:=bP ((w.alloc (.cells #[.int .i64 r.k, .int .i64 r.a, .int .i64 r.b, .int .i64 r.c] 75)).alloc (.cells #[.int .i64 0, .string ⟨#[]⟩, .int .i64 0, .int .i64 0, .int .i64 0, .int .i64 0] 26))
 have hb0:ah w W0:=by rw [hW0];exact ag
 have hz0:W0.heap.size=w.heap.size+2:=by rw [hW0];simp
 have k0:W0.heap[w.heap.size]?=some (.cells #[.int .i64 r.k, .int .i64 r.a, .int .i64 r.b, .int .i64 r.c] 75):=by rw [hW0,kW _ _ _ bj];exact aj _ _ rfl
 have k1:W0.heap[w.heap.size+1]?=some (.cells #[.int .i64 0, .string ⟨#[]⟩, .int .i64 0, .int .i64 0, .int .i64 0, .int .i64 0] 26):=by rw [hW0];exact aj _ _ bj
 obtain⟨x0,x1,x2,x3⟩:W0.cell? ⟨w.heap.size,0,none⟩=some (.int .i64 r.k)/\W0.cell? ⟨w.heap.size,1,none⟩=some (.int .i64 r.a)/\W0.cell? ⟨w.heap.size,2,none⟩=some (.int .i64 r.b)/\W0.cell? ⟨w.heap.size,3,none⟩=some (.int .i64 r.c):=by simp [World.cell?,k0]
 have HP:=hdd (JE (w:=W0) hr hp)
 have Io:=hdd (aL hb0 (aL hz0 k1))
 rw [hp]
 clear hp hb0 hz0 k0 k1
 go_enter Tryd.func32,Tryd.ntmps32
 go_upto_region 1 with (fail)
 rw [<-hW0]
 clear hW0
 go_upto_region 2 with (go_at_call 33;(with_reducible refine HP.out.mono ?_);rintro e w1 ⟨rfl,hb1⟩)
 obtain⟨W1,hW1⟩:=bP (w1.alloc (.cells #[.string p.s, .int .i64 p.t, .int .i64 p.v] 59))
 have mL:ah w1 W1:=by rw [hW1];exact ag
 have h01:=Below.trans' hb1 mL hb1.size
 have k2:W1.heap[w1.heap.size]?=some (.cells #[.string p.s, .int .i64 p.t, .int .i64 p.v] 59):=by rw [hW1];exact aj _ _ rfl
 have k3:=(h01.block (w.heap.size+1) (by have:=Io.out.2.1;omega)).trans Io.out.2.2
 obtain⟨y0,y1,y2⟩:W1.cell? ⟨w1.heap.size,0,none⟩=some (.string p.s)/\W1.cell? ⟨w1.heap.size,1,none⟩=some (.int .i64 p.t)/\W1.cell? ⟨w1.heap.size,2,none⟩=some (.int .i64 p.v):=by simp [World.cell?,k2]
 obtain⟨z0,z1,z2,z3,z4,z5,zf⟩:W1.cell? ⟨w.heap.size+1,0,none⟩=some (.int .i64 0)/\W1.cell? ⟨w.heap.size+1,1,none⟩=some (.string ⟨#[]⟩)/\W1.cell? ⟨w.heap.size+1,2,none⟩=some (.int .i64 0)/\W1.cell? ⟨w.heap.size+1,3,none⟩=some (.int .i64 0)/\W1.cell? ⟨w.heap.size+1,4,none⟩=some (.int .i64 0)/\W1.cell? ⟨w.heap.size+1,5,none⟩=some (.int .i64 0)/\∀o,W1.frozen? ⟨w.heap.size+1,o,none⟩=false:=by simp [World.cell?,World.frozen?,k3]
 have HE:=hdd (Below.trans' Io.out.1 h01 Io.out.1.size)
 have hlo:w.heap.size<=w.heap.size+1:=af
 have Yh:=hdd (gj HE.out hlo (.int .i64 1) (.string p.s) (.int .i64 p.t) (.int .i64 0) (.int .i64 0) (.int .i64 p.v))
 rw [<-hW1]
 clear hW1 mL h01 k2 k3 hb1 x0 x1 x2 x3
 go_wp2_with fail
 exact bodyPost_ret (v:= .agg (aae p).cs) (by simp [results,Tryd.results32,go_sem,aae, *]) rfl ⟨rfl,Yh.out⟩
end Go.Proofs.YtmljjfhgciaceaaDoor
