/- Texts of mine that come as one: ExpP ExpA Exp ExpK ExpG ExpAny. -/
import Derived.Test.YtnjfkcimboidnaaDoorAQ
import Derived.Test.YtnjfkcimboidnaaDoorMerged
import Derived.Test.YtnjfkcimboidnaaDoorIG
import Derived.Test.YtnjfkcimboidnaaDoorSP
import Derived.Test.YtnjfkcimboidnaaDoorPG
import Derived.Test.YtnjfkcimboidnaaDoorBK
import Derived.Test.YtnjfkcimboidnaaDoorPC
import Derived.Test.YtnjfkcimboidnaaDoorKG
import Derived.Test.YtnjfkcimboidnaaDoorOG
import Derived.Test.YtnjfkcimboidnaaDoorSO
/- What base.Expire makes of a base: plain. No program in sight. -/
namespace Go.Proofs.YtnjfkcimboidnaaDoor
def young (time:Int) (e:Ent):Bool:=decide (time≤e.key%1048576)
end Go.Proofs.YtnjfkcimboidnaaDoor

/- The walks of slices.IndexFunc and slices.DeleteFunc at base.Expire's inner function. -/
namespace Go.Proofs.YtnjfkcimboidnaaDoor
open Go.RowKit
theorem flat_put {x:Ent}:∀{es:List Ent} {i:Nat} (_:i<es.length),(es.set i x).flatMap enEnt =
  ((((((((es.flatMap enEnt).set (i*7) (.int .i64 x.key)).set (i*7+1) (.int .i64 x.is.c)).set (i*7+2) (.int .i64 x.is.s)).set (i*7+3) (.int .i64 x.is.mi)).set (i*7+4) (.int .i64 x.is.ma)).set (i*7+5) (.int .i64 x.is.t)).set (i*7+6) (.int .i64 x.is.l))
 |[],i,hi=>by simp at hi
 |e::es,0,_=>rfl
 |e::es,i+1,hi=>by
  have ih:=flat_put (x:=x) (es:=es) (i:=i) (by simpa using hi)
  simp only [List.set_cons_succ,List.flatMap_cons]
  have e0:(enEnt e++es.flatMap enEnt).set ((i+1)*7) (.int .i64 x.key)=enEnt e++(es.flatMap enEnt).set (i*7) (.int .i64 x.key):=flat_set1 e _ i 0 _
  rw [e0,flat_set1,flat_set1,flat_set1,flat_set1,flat_set1,flat_set1,ih]
theorem OwnEnts.place {B:Nat} {w:World} {g cap n:Nat} {es:List Ent} {i:Nat} {x:Ent} (h:OwnEnts B w (.slice (some ⟨g,0,none⟩) n cap) es) (hn:n=es.length) (hi:i<es.length) :
  OwnEnts B (((((((w.setCell ⟨g,i*7,none⟩ (.int .i64 x.key)).setCell ⟨g,i*7+1,none⟩ (.int .i64 x.is.c)).setCell ⟨g,i*7+2,none⟩ (.int .i64 x.is.s)).setCell ⟨g,i*7+3,none⟩ (.int .i64 x.is.mi)).setCell ⟨g,i*7+4,none⟩ (.int .i64 x.is.ma)).setCell ⟨g,i*7+5,none⟩ (.int .i64 x.is.t)).setCell ⟨g,i*7+6,none⟩ (.int .i64 x.is.l)) (.slice (some ⟨g,0,none⟩) n cap) (es.set i x):=by
 subst hn
 refine⟨?_⟩
 rw [flat_put hi,List.length_set]
 exact(World.ownsRow.stored (World.ownsRow.stored (World.ownsRow.stored (World.ownsRow.stored (World.ownsRow.stored (World.ownsRow.stored (World.ownsRow.stored h.row _ _).1 _ _).1 _ _).1 _ _).1 _ _).1 _ _).1 _ _).1
end Go.Proofs.YtnjfkcimboidnaaDoor

/- The walk of base.Expire: what it begins with; where something is wrong ahead. -/
namespace Go.Proofs.YtnjfkcimboidnaaDoor
open Go.RowKit
structure ExpAt (w:World) (cs:Array Value) (time:Int) (w':World):Prop where
 below:Below w.heap.size w w'
 size:w.heap.size+3≤w'.heap.size
 box:w'.heap[w.heap.size]?=some (.cells cs 35)
 tm:w'.heap[w.heap.size+1]?=some (.cells #[.int .i64 time] 3)
 res:w'.heap[w.heap.size+2]?=some (.cells zeroBC 35)
theorem ExpAt.later {w:World} {cs:Array Value} {time:Int} {w1 w2:World} {B:Nat} (h:ExpAt w cs time w1) (hb:Below B w1 w2) (hB:w.heap.size+3≤B):ExpAt w cs time w2:=
 ⟨⟨hb.os.trans h.below.os,hb.tape.trans h.below.tape,hb.output.trans h.below.output,Nat.le_trans h.below.size hb.size,fun k hk=>(hb.block k (by omega)).trans (h.below.block k hk)⟩,by have:=hb.size;have:=h.size;omega,
  (hb.block _ (by omega)).trans h.box,(hb.block _ (by omega)).trans h.tm,(hb.block _ (by omega)).trans h.res⟩
theorem ExpAt.all {w:World} {v0 v1 v2 v3 v4 v5 v6 v7:Value} {time:Int} {w1:World} (h:ExpAt w #[v0,v1,v2,v3,v4,v5,v6,v7] time w1) :
  w1.cell? ⟨w.heap.size,0,none⟩=some v0∧w1.cell? ⟨w.heap.size,1,none⟩=some v1∧w1.cell? ⟨w.heap.size,2,none⟩=some v2∧w1.cell? ⟨w.heap.size,3,none⟩=some v3∧w1.cell? ⟨w.heap.size,4,none⟩=some v4∧w1.cell? ⟨w.heap.size,5,none⟩=some v5∧w1.cell? ⟨w.heap.size,6,none⟩=some v6∧w1.cell? ⟨w.heap.size,7,none⟩=some v7∧w1.cell? ⟨w.heap.size+1,0,none⟩=some (.int .i64 time):=by
 have h1:=h.box
 have h2:=h.tm
 simp [World.cell?,h1,h2]
theorem ExpAt.zs {w:World} {cs:Array Value} {time:Int} {w1:World} (h:ExpAt w cs time w1) :
  w1.cell? ⟨w.heap.size+2,0,none⟩=some (.slice none 0 0)∧w1.cell? ⟨w.heap.size+2,1,none⟩=some (.slice none 0 0)∧w1.cell? ⟨w.heap.size+2,2,none⟩=some (.int .i64 0)∧w1.cell? ⟨w.heap.size+2,3,none⟩=some (.slice none 0 0)∧w1.cell? ⟨w.heap.size+2,4,none⟩=some (.int .i64 0)∧w1.cell? ⟨w.heap.size+2,5,none⟩=some (.slice none 0 0)∧w1.cell? ⟨w.heap.size+2,6,none⟩=some (.int .i64 0)∧w1.cell? ⟨w.heap.size+2,7,none⟩=some (.int .i64 0)∧∀o,w1.frozen? ⟨w.heap.size+2,o,none⟩=false:=by
 have h1:=h.res
 simp [World.cell?,World.frozen?,h1]
end Go.Proofs.YtnjfkcimboidnaaDoor

/- What base.Expire's loop keeps. -/
namespace Go.Proofs.YtnjfkcimboidnaaDoor
open Go.RowKit
structure Kp (lo ob:Nat) (w w':World):Prop where
 size:w.heap.size≤w'.heap.size
 block:∀q,lo≤q→q≠ob→q<w.heap.size→w'.heap[q]?=w.heap[q]?
theorem Kp.refl (lo ob:Nat) (w:World):Kp lo ob w w:=⟨Nat.le_refl _,fun _ _ _ _=>rfl⟩
theorem Kp.trans {lo ob:Nat} {w w1 w2:World} (h:Kp lo ob w w1) (h':Kp lo ob w1 w2):Kp lo ob w w2:=
 ⟨Nat.le_trans h.size h'.size,fun q ho hq hl=>(h'.block q ho hq (Nat.lt_of_lt_of_le hl h.size)).trans (h.block q ho hq hl)⟩
theorem Kp.of {lo ob B:Nat} {w w':World} (h:Below B w w') (hB:w.heap.size≤B):Kp lo ob w w':=⟨h.size,fun q _ _ hl=>h.block q (by omega)⟩
theorem Kp.set {lo ob o:Nat} {w w':World} (h:Kp lo ob w w') (u:Value):Kp lo ob w (w'.setCell ⟨ob,o,none⟩ u):=
 ⟨by simp only [heap_setCell_size];exact h.size,fun q ho hq hl=>(heap_setCell_other _ ⟨ob,_,none⟩ q _ hq).trans (h.block q ho hq hl)⟩
theorem Kp.low {lo ob c o:Nat} {w w':World} (h:Kp lo ob w w') (hc:c<lo) (u:Value):Kp lo ob w (w'.setCell ⟨c,o,none⟩ u):=
 ⟨by simp only [heap_setCell_size];exact h.size,fun q ho hq hl=>(heap_setCell_other _ ⟨c,_,none⟩ q _ (by show q≠c;omega)).trans (h.block q ho hq hl)⟩
theorem Kp.keep {lo ob B:Nat} {w w':World} (h:Kp lo ob w w') (hB:ob<B) (hl:lo≤B):Keep B w w':=⟨h.size,fun q hq hs=>h.block q (by omega) (by omega) hs⟩
noncomputable def expM (b:Ba) (time:Int) (k:Nat):List Ent:=match allT (b.tree k) with|none=>[]|some m=>m.filter (young time)
structure ExpK (w:World) (cs:Array Value) (b:Ba) (time:Int) (ob k:Nat) (sn:Option Addr) (sc:Nat) (g0:Option Addr) (l0 p0:Nat) (r0:Int) (g1:Option Addr) (l1 p1:Nat) (r1:Int) (g2:Option Addr) (l2 p2:Nat) (r2:Int) (T:Nat→Tr) (wr:World):Prop where
 at':ExpAt w cs time wr
 lo:w.heap.size+3≤ob
 out:wr.heap[ob]?=some (.cells #[.slice sn b.names.length sc, .slice g0 l0 p0, .int .i64 r0, .slice g1 l1 p1, .int .i64 r1, .slice g2 l2 p2, .int .i64 r2, .int .i64 time] 35)
 names:∀w'',Kp (w.heap.size+3) ob wr w''→StrsAt w'' (.slice sn b.names.length sc) b.names
 t0:0<k→Made (expM b time 0) (T 0)∧∀w'',Kp (w.heap.size+3) ob wr w''→TreeAt w'' (.agg #[.slice g0 l0 p0, .int .i64 r0]) (T 0)
 t1:1<k→Made (expM b time 1) (T 1)∧∀w'',Kp (w.heap.size+3) ob wr w''→TreeAt w'' (.agg #[.slice g1 l1 p1, .int .i64 r1]) (T 1)
 t2:2<k→Made (expM b time 2) (T 2)∧∀w'',Kp (w.heap.size+3) ob wr w''→TreeAt w'' (.agg #[.slice g2 l2 p2, .int .i64 r2]) (T 2)
variable {w:World} {cs:Array Value} {b:Ba} {time:Int} {ob k:Nat} {sn:Option Addr} {sc:Nat} {g0:Option Addr} {l0 p0:Nat} {r0:Int} {g1:Option Addr} {l1 p1:Nat} {r1:Int} {g2:Option Addr} {l2 p2:Nat} {r2:Int} {T:Nat→Tr} {wr wx:World}
theorem ExpK.lt (h:ExpK w cs b time ob k sn sc g0 l0 p0 r0 g1 l1 p1 r1 g2 l2 p2 r2 T wr):ob<wr.heap.size:=(Array.getElem?_eq_some_iff.1 h.out).1
theorem ExpK.later (h:ExpK w cs b time ob k sn sc g0 l0 p0 r0 g1 l1 p1 r1 g2 l2 p2 r2 T wr) (hb:Below wr.heap.size wr wx):ExpK w cs b time ob k sn sc g0 l0 p0 r0 g1 l1 p1 r1 g2 l2 p2 r2 T wx:=by
 have hk:=Kp.of (lo:=w.heap.size+3) (ob:=ob) hb (Nat.le_refl _)
 exact⟨h.at'.later hb h.at'.size,h.lo,(hb.block _ h.lt).trans h.out,fun w'' hw=>h.names w'' (hk.trans hw),fun hh=>⟨(h.t0 hh).1,fun w'' hw=>(h.t0 hh).2 w'' (hk.trans hw)⟩,fun hh=>⟨(h.t1 hh).1,fun w'' hw=>(h.t1 hh).2 w'' (hk.trans hw)⟩,fun hh=>⟨(h.t2 hh).1,fun w'' hw=>(h.t2 hh).2 w'' (hk.trans hw)⟩⟩
theorem ExpK.cells (h:ExpK w cs b time ob k sn sc g0 l0 p0 r0 g1 l1 p1 r1 g2 l2 p2 r2 T wr) :
  wr.cell? ⟨ob,0,none⟩=some (.slice sn b.names.length sc)∧wr.cell? ⟨ob,1,none⟩=some (.slice g0 l0 p0)∧wr.cell? ⟨ob,2,none⟩=some (.int .i64 r0)∧wr.cell? ⟨ob,3,none⟩=some (.slice g1 l1 p1)∧wr.cell? ⟨ob,4,none⟩=some (.int .i64 r1)∧wr.cell? ⟨ob,5,none⟩=some (.slice g2 l2 p2)∧wr.cell? ⟨ob,6,none⟩=some (.int .i64 r2)∧wr.cell? ⟨ob,7,none⟩=some (.int .i64 time)∧∀o,wr.frozen? ⟨ob,o,none⟩=false:=by
 have h1:=h.out
 simp [World.cell?,World.frozen?,h1]
theorem ExpAt.put {o:Nat} (h:ExpAt w cs time wx) (hob:w.heap.size+3≤ob) (u:Value):ExpAt w cs time (wx.setCell ⟨ob,o,none⟩ u):=
 ⟨h.below.setCell (by show w.heap.size≤ob;omega) _,by simp only [heap_setCell_size];exact h.size,(heap_setCell_other _ ⟨ob,_,none⟩ _ _ (by show w.heap.size≠ob;omega)).trans h.box,(heap_setCell_other _ ⟨ob,_,none⟩ _ _ (by show w.heap.size+1≠ob;omega)).trans h.tm,(heap_setCell_other _ ⟨ob,_,none⟩ _ _ (by show w.heap.size+2≠ob;omega)).trans h.res⟩
theorem ExpK.step0 {B:Nat} {so:Option Addr} {n c:Nat} {rt:Int} {t':Tr} (h:ExpK w cs b time ob 0 sn sc g0 l0 p0 r0 g1 l1 p1 r1 g2 l2 p2 r2 T wr) (hb:Below wr.heap.size wr wx) (hB:ob<B)
  (htr:∀w'',Keep B wx w''→TreeAt w'' (.agg #[.slice so n c, .int .i64 rt]) t') (hm:Made (expM b time 0) t') :
  ExpK w cs b time ob 1 sn sc so n c rt g1 l1 p1 r1 g2 l2 p2 r2 (fun j=>if j=0 then t' else T j) ((wx.setCell ⟨ob,1,none⟩ (.slice so n c)).setCell ⟨ob,2,none⟩ (.int .i64 rt)):=by
 have hx:=h.later hb
 have hk:Kp (w.heap.size+3) ob wx ((wx.setCell ⟨ob,1,none⟩ (.slice so n c)).setCell ⟨ob,2,none⟩ (.int .i64 rt)):=((Kp.refl _ _ _).set _).set _
 refine⟨(hx.at'.put h.lo _).put h.lo _,h.lo,?_,fun w'' hw=>hx.names w'' (hk.trans hw),fun _=>⟨by rw [if_pos rfl];exact hm,fun w'' hw=>by rw [if_pos rfl];exact htr w'' ((hk.trans hw).keep hB (by have:=h.lo;omega))⟩,fun hh=>absurd hh (by decide),fun hh=>absurd hh (by decide)⟩
 have:=heap_setCell_same (off:=2) (v:= .int .i64 rt) (heap_setCell_same (off:=1) (v:= .slice so n c) hx.out)
 simpa using this
theorem ExpK.step1 {B:Nat} {so:Option Addr} {n c:Nat} {rt:Int} {t':Tr} (h:ExpK w cs b time ob 1 sn sc g0 l0 p0 r0 g1 l1 p1 r1 g2 l2 p2 r2 T wr) (hb:Below wr.heap.size wr wx) (hB:ob<B)
  (htr:∀w'',Keep B wx w''→TreeAt w'' (.agg #[.slice so n c, .int .i64 rt]) t') (hm:Made (expM b time 1) t') :
  ExpK w cs b time ob 2 sn sc g0 l0 p0 r0 so n c rt g2 l2 p2 r2 (fun j=>if j=1 then t' else T j) ((wx.setCell ⟨ob,3,none⟩ (.slice so n c)).setCell ⟨ob,4,none⟩ (.int .i64 rt)):=by
 have hx:=h.later hb
 have hk:Kp (w.heap.size+3) ob wx ((wx.setCell ⟨ob,3,none⟩ (.slice so n c)).setCell ⟨ob,4,none⟩ (.int .i64 rt)):=((Kp.refl _ _ _).set _).set _
 refine⟨(hx.at'.put h.lo _).put h.lo _,h.lo,?_,fun w'' hw=>hx.names w'' (hk.trans hw),fun _=>?_,fun _=>⟨by rw [if_pos rfl];exact hm,fun w'' hw=>by rw [if_pos rfl];exact htr w'' ((hk.trans hw).keep hB (by have:=h.lo;omega))⟩,fun hh=>absurd hh (by decide)⟩
 ·have:=heap_setCell_same (off:=4) (v:= .int .i64 rt) (heap_setCell_same (off:=3) (v:= .slice so n c) hx.out)
  simpa using this
 ·rw [if_neg (by decide)]
  obtain⟨q1,q2⟩:=hx.t0 (by decide)
  exact⟨q1,fun w'' hw=>q2 w'' (hk.trans hw)⟩
theorem ExpK.step2 {B:Nat} {so:Option Addr} {n c:Nat} {rt:Int} {t':Tr} (h:ExpK w cs b time ob 2 sn sc g0 l0 p0 r0 g1 l1 p1 r1 g2 l2 p2 r2 T wr) (hb:Below wr.heap.size wr wx) (hB:ob<B)
  (htr:∀w'',Keep B wx w''→TreeAt w'' (.agg #[.slice so n c, .int .i64 rt]) t') (hm:Made (expM b time 2) t') :
  ExpK w cs b time ob 3 sn sc g0 l0 p0 r0 g1 l1 p1 r1 so n c rt (fun j=>if j=2 then t' else T j) ((wx.setCell ⟨ob,5,none⟩ (.slice so n c)).setCell ⟨ob,6,none⟩ (.int .i64 rt)):=by
 have hx:=h.later hb
 have hk:Kp (w.heap.size+3) ob wx ((wx.setCell ⟨ob,5,none⟩ (.slice so n c)).setCell ⟨ob,6,none⟩ (.int .i64 rt)):=((Kp.refl _ _ _).set _).set _
 refine⟨(hx.at'.put h.lo _).put h.lo _,h.lo,?_,fun w'' hw=>hx.names w'' (hk.trans hw),fun _=>?_,fun _=>?_,fun _=>⟨by rw [if_pos rfl];exact hm,fun w'' hw=>by rw [if_pos rfl];exact htr w'' ((hk.trans hw).keep hB (by have:=h.lo;omega))⟩⟩
 ·have:=heap_setCell_same (off:=6) (v:= .int .i64 rt) (heap_setCell_same (off:=5) (v:= .slice so n c) hx.out)
  simpa using this
 ·rw [if_neg (by decide)]
  obtain⟨q1,q2⟩:=hx.t0 (by decide)
  exact⟨q1,fun w'' hw=>q2 w'' (hk.trans hw)⟩
 ·rw [if_neg (by decide)]
  obtain⟨q1,q2⟩:=hx.t1 (by decide)
  exact⟨q1,fun w'' hw=>q2 w'' (hk.trans hw)⟩
end Go.Proofs.YtnjfkcimboidnaaDoor

/- The walk of base.Expire, where nothing is wrong ahead. -/
namespace Go.Proofs.YtnjfkcimboidnaaDoor
open Go.RowKit
end Go.Proofs.YtnjfkcimboidnaaDoor

/- base.Expire, at every base and time. -/
namespace Go.Proofs.YtnjfkcimboidnaaDoor
open Go.RowKit
end Go.Proofs.YtnjfkcimboidnaaDoor
