/- Lemmas of the proof. -/
import Derived.Test.YtmljjfhgciaceaaGreatDoorHd
import Derived.Test.YtmljjfhgciaceaaGreatDoorCz
import Derived.Test.YtmljjfhgciaceaaGreatDoorKC
import Derived.Test.YtmljjfhgciaceaaGreatDoorAY
import Derived.Test.YtmljjfhgciaceaaGreatDoorKT
import Derived.Test.YtmljjfhgciaceaaGreatDoorOG
namespace Go.Proofs.YtmljjfhgciaceaaGreatDoor
open Go.RowKit
theorem MF {v:Value} {b:Ba} {L:List aH} {N:Nat} {s:ByteArray} {time value:Int} {w:World} (h:bR w v b) (hst:∀s∈b.names,s.size<=140737488351232) (tu:s.size<=140737488351232) (hsz:cI w)
  (hb:Ky b L N) (hN:N<=2900) (hn:dt s=true) (h0:0<=time) (h1:time<=1048575) (h2 : -1000000<=value) (h3:value<=1000000) (hf:b.floor<=time) (hp:bt b.names s<0->b.names.length<16) :
  Calls Tryz.prog 35 #[v, .agg #[.string s,af time,af value]] w fun x w'=>aq w w' /\
   ∃b' sa sc g0 l0 p0 g1 l1 p1 g2 l2 p2,x = .returned (.tuple #[.agg (aL sa b'.names sc g0 l0 p0 g1 l1 p1 g2 l2 p2 b'),af 0])/\(∀w'',aQ w w' w''->bR w'' (.agg (aL sa b'.names sc g0 l0 p0 g1 l1 p1 g2 l2 p2 b')) b') /\
    b'.names=bH b s/\b'.floor=b.floor/\Ky b' (ins L (cW b s time ⟨1,value,value,value,time,value⟩)) (N+1):=by
 obtain⟨a1,a2,-,a4⟩:=hb.add hN hn h0 h1 h2 h3 hf hp;refine(AJ h hst tu hsz).mono ?_;rintro x w' ⟨hw,⟨g1,-⟩|⟨-,⟨E,-,-,g2|⟨-,k,hk,g3⟩⟩|⟨-,b',sa,sc,q0,l0,p0,q1,l1,p1,q2,l2,p2,rfl,hat,r1,r2,r3,r4,r5⟩⟩⟩
 ·exact absurd a1 g1
 ·omega
 ·have:=hb.wt k hk;omega
 ·exact⟨hw,b',sa,sc,q0,l0,p0,q1,l1,p1,q2,l2,p2,rfl,hat,r1,r2,a4 b' r3 r4 r5⟩
structure adb (w:World) (tb:Nat) (xs:List Rw) (k:Nat) (sa:Option Addr) (sc:Nat) (g0:Option Addr) (l0 p0:Nat) (g1:Option Addr) (l1 p1:Nat) (g2:Option Addr) (l2 p2:Nat) (b:Ba) (pv:Value) (rR:List Kt) (wr:World):Prop where
 below:aq w wr
 size:w<tb
 lt:tb<wr
 box:wr.heap[tb]?=some (.cells (aL sa b.names sc g0 l0 p0 g1 l1 p1 g2 l2 p2 b) 30)
 res:wr.heap[w.heap.size]?=some (.cells #[az 0 0,az 0 0,af 0,az 0 0,af 0,az 0 0,af 0,af 0] 30)
 base:∃M wA,w.heap.size<M/\(tb<M\/wA.heap.size<=tb)/\aQ M wA wr/\(∀g,pv.ownBlock=some g->g<M\/wA.heap.size<=g)/\∀w'',aQ M wA w''->bR w'' (.agg (aL sa b.names.length sc g0 l0 p0 g1 l1 p1 g2 l2 p2 b)) b
 own:jH (w+1) wr pv rR
 kb:KB rR b
 eq:rR=(xs.take k).map XE
 ne:∀g,pv.ownBlock=some g->g≠tb
theorem adb.at {w:World} {tb:Nat} {xs:List Rw} {k:Nat} {sa:Option Addr} {sc:Nat} {g0:Option Addr} {l0 p0:Nat} {g1:Option Addr} {l1 p1:Nat} {g2:Option Addr} {l2 p2:Nat} {b:Ba} {pv:Value} {rR:List Kt} {wr:World} (h:adb w tb xs k sa sc g0 l0 p0 g1 l1 p1 g2 l2 p2 b pv rR wr) {W:World} (hb:aq wr W):bR W (.agg (aL sa b.names sc g0 l0 p0 g1 l1 p1 g2 l2 p2 b)) b:=by
 obtain⟨M,wA,-,-,h1,-,h2⟩:=h.base;exact h2 W (h1.trans (aQ.of hb aO))
theorem Rc:KB [] mM:=⟨rfl,rfl,⟨(by have h:=UL;unfold qu at h;simp only [Bool.and_eq_true]at h;exact h.1.1.1),zx,fun k hk=>by
 have:mM.tree k=xd:=by rcases (by omega:k=0\/k=1\/k=2)with rfl|rfl|rfl <;> rfl
 rw [this];show qE xd<=_;exact Nat.le_of_eq (show qE xd=3 from rfl),by simp [gw,pH]⟩,fun p hp=>by cases hp⟩
end Go.Proofs.YtmljjfhgciaceaaGreatDoor
