/- Texts of mine that come as one: Picked Rollup Box. -/
import Derived.Test.YtmljjfhgciaceaaDoorHd
import Derived.Test.YtmljjfhgciaceaaDoorKG
import Derived.Test.YtmljjfhgciaceaaDoorPG
namespace Go.Proofs.YtmljjfhgciaceaaDoor
open Go.RowKit
def picked (n m:Int):Int:=(if n<0 then -(n+1)else n)%m
theorem cX {n m:Int} (hm:0<m):0<=picked n m/\picked n m<m:=⟨Int.emod_nonneg _ af,Int.emod_lt_of_pos _ hm⟩
theorem jC (n m:Int) (w:World) (h0 : -9223372036854775808<=n) (h1:n<=9223372036854775807) (hm:1<=m) (hm2:m<=9223372036854775807) :
  Calls Tryd.prog 29 #[.int .i64 n, .int .i64 m] w fun e w'=>e = .returned (.int .i64 (picked n m))/\w=w':=by
 by_cases h:n<0
 ·have e1:IntKind.i64.wrap (n+1)=n+1:=IntWalk.i64_in _ af
  go_enter Tryd.func29,Tryd.ntmps29
  go_wp2
  go_ret
  refine⟨ia ?_,rfl⟩
  unfold picked
  rw [ar h]
  rw [<-Int.neg_tmod]
  exact xO af
 ·go_enter Tryd.func29,Tryd.ntmps29
  go_wp2
  go_ret
  refine⟨ia ?_,rfl⟩
  unfold picked
  rw [ai af]
theorem LI {time value:Int} (h0:0<=time) (h1:time<=1048575) (h2 : -1000000<=value) (h3:value<=1000000):aj ⟨1,value,value,value,time,value⟩=0:=by
 refine YH ⟨?_,?_,?_,?_,?_,?_,?_,?_,?_,?_,?_,?_⟩ bq ⟨?_,?_,?_,?_⟩ <;> simp only <;> omega
theorem nV (n m:Int) (w:World) (h0 : -9223372036854775808<=n) (h1:n<=9223372036854775807) (hm:1<=m) (hm2:m<=9223372036854775807) :
  Calls Tryd.prog 29 #[.int .i64 n, .int .i64 m] w fun e w'=>e = .returned (.int .i64 (picked n m))/\ah w w':=(jC n m w h0 h1 hm hm2).mono fun _ _ h=>⟨h.1,by rw [<-h.2];exact aJ _ _⟩
theorem C8 {w:World} {tb:Nat} {a0 a1 a2 a3 a4 a5 v0 v1 v2 v3 v4 v5:Value} {T:TypeId} {fr:Nat×Nat} (h:w.heap[tb]?=some (.cells #[a0,a1,a2,a3,a4,a5] T fr)) :
  ((((((w.setCell ⟨tb,0,none⟩ v0).setCell ⟨tb,1,none⟩ v1).setCell ⟨tb,2,none⟩ v2).setCell ⟨tb,3,none⟩ v3).setCell ⟨tb,4,none⟩ v4).setCell ⟨tb,5,none⟩ v5).heap[tb]?=some (.cells #[v0,v1,v2,v3,v4,v5] T fr):=by
 have h:=heap_setCell_same (off:=5) (v:=v5) (heap_setCell_same (off:=4) (v:=v4) (heap_setCell_same (off:=3) (v:=v3) (heap_setCell_same (off:=2) (v:=v2) (heap_setCell_same (off:=1) (v:=v1) (heap_setCell_same (off:=0) (v:=v0) h)))))
 simpa using h
section
variable {k a b c:Int} {q:Nat} {r:au} {w w':World}
structure rH (w:World) (q:Nat) (r:au):Prop where
 box:w.heap[q]?=some (.cells #[.int .i64 r.c, .int .i64 r.s, .int .i64 r.mi, .int .i64 r.ma, .int .i64 r.t, .int .i64 r.l] 42)
theorem rH.later (h:rH w q r) (hb:ah w w'):rH w' q r:=⟨(hb.block q (eW.1 h.box).1).trans h.box⟩
theorem rH.cells (h:rH w q r):w.cell? ⟨q,0,none⟩=some (.int .i64 r.c)/\w.cell? ⟨q,1,none⟩=some (.int .i64 r.s)/\w.cell? ⟨q,2,none⟩=some (.int .i64 r.mi)/\w.cell? ⟨q,3,none⟩=some (.int .i64 r.ma)/\w.cell? ⟨q,4,none⟩=some (.int .i64 r.t)/\w.cell? ⟨q,5,none⟩=some (.int .i64 r.l):=by
 have:=h.box
 simp [World.cell?,this]
theorem rH.new (w:World) (r:au):rH (w.alloc (.cells #[.int .i64 r.c, .int .i64 r.s, .int .i64 r.mi, .int .i64 r.ma, .int .i64 r.t, .int .i64 r.l] 42)) w.heap.size r:=⟨aq _ _ rfl⟩
structure EX (w:World) (q:Nat) (k a b c:Int):Prop where
 box:w.heap[q]?=some (.cells #[.int .i64 k, .int .i64 a, .int .i64 b, .int .i64 c] 75)
theorem EX.later (h:EX w q k a b c) (hb:ah w w'):EX w' q k a b c:=⟨(hb.block q (eW.1 h.box).1).trans h.box⟩
theorem EX.cells (h:EX w q k a b c):w.cell? ⟨q,0,none⟩=some (.int .i64 k)/\w.cell? ⟨q,1,none⟩=some (.int .i64 a)/\w.cell? ⟨q,2,none⟩=some (.int .i64 b)/\w.cell? ⟨q,3,none⟩=some (.int .i64 c):=by
 have:=h.box
 simp [World.cell?,this]
end
end Go.Proofs.YtmljjfhgciaceaaDoor
