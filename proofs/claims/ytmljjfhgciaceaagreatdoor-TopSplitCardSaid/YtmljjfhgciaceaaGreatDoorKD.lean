/- Texts of mine that come as one: BaseOk KBase KKnown. -/
import Derived.Test.YtmljjfhgciaceaaGreatDoorHd
import Derived.Test.YtmljjfhgciaceaaGreatDoorKC
import Derived.Test.YtmljjfhgciaceaaGreatDoorAY
import Derived.Test.YtmljjfhgciaceaaGreatDoorKT
import Derived.Test.YtmljjfhgciaceaaGreatDoorOG
namespace Go.Proofs.YtmljjfhgciaceaaGreatDoor
open Go.RowKit
theorem Hp {v:Value} {b:Ba} {L:List aA} {N:Nat} {s:ByteArray} {time value:Int} {w:World} (h:bQ w v b) (hst:∀s∈b.names,s.size<=140737488351232) (xj:s.size<=140737488351232) (hsz:bS w)
  (hb:Fp b L N) (hN:N<=2900) (hn:dG s=true) (h0:0<=time) (h1:time<=1048575) (h2 : -1000000<=value) (h3:value<=1000000) (hf:b.floor<=time) (hp:aG b.names s<0->b.names.length<16) :
  Calls Tryz.prog 35 #[v, .agg #[.string s, .int .i64 time, .int .i64 value]] w fun x w'=>ah w w' /\
   ∃b' sa sc g0 l0 p0 g1 l1 p1 g2 l2 p2,x = .returned (.tuple #[.agg (aJ sa b'.names.length sc g0 l0 p0 g1 l1 p1 g2 l2 p2 b'), .int .i64 0])/\(∀w'',aQ w.heap.size w' w''->bQ w'' (.agg (aJ sa b'.names.length sc g0 l0 p0 g1 l1 p1 g2 l2 p2 b')) b') /\
    b'.names=bA b s/\b'.floor=b.floor/\Fp b' (ins L (cu b s time ⟨1,value,value,value,time,value⟩)) (N+1):=by
 obtain⟨a1,a2,-,a4⟩:=hb.add hN hn h0 h1 h2 h3 hf hp
 refine(xx h hst xj hsz).mono ?_
 rintro x w' ⟨hw,⟨g1,-⟩|⟨-,⟨E,-,-,g2|⟨-,k,hk,g3⟩⟩|⟨-,b',sa,sc,q0,l0,p0,q1,l1,p1,q2,l2,p2,rfl,hat,r1,r2,r3,r4,r5⟩⟩⟩
 ·exact absurd a1 g1
 ·omega
 ·have:=hb.wt k hk;omega
 ·exact⟨hw,b',sa,sc,q0,l0,p0,q1,l1,p1,q2,l2,p2,rfl,hat,r1,r2,a4 b' r3 r4 r5⟩
structure XY (w:World) (tb:Nat) (xs:List Rw) (k:Nat) (sa:Option Addr) (sc:Nat) (g0:Option Addr) (l0 p0:Nat) (g1:Option Addr) (l1 p1:Nat) (g2:Option Addr) (l2 p2:Nat) (b:Ba) (pv:Value) (lN:List sk) (wr:World):Prop where
 below:ah w wr
 size:w.heap.size<tb
 lt:tb<wr.heap.size
 box:wr.heap[tb]?=some (.cells (aJ sa b.names.length sc g0 l0 p0 g1 l1 p1 g2 l2 p2 b) 30)
 res:wr.heap[w.heap.size]?=some (.cells #[.slice none 0 0, .slice none 0 0, .int .i64 0, .slice none 0 0, .int .i64 0, .slice none 0 0, .int .i64 0, .int .i64 0] 30)
 base:∃M wA,w.heap.size<M/\(tb<M\/wA.heap.size<=tb)/\aQ M wA wr/\(∀g,pv.ownBlock=some g->g<M\/wA.heap.size<=g)/\∀w'',aQ M wA w''->bQ w'' (.agg (aJ sa b.names.length sc g0 l0 p0 g1 l1 p1 g2 l2 p2 b)) b
 own:iF (w.heap.size+1) wr pv lN
 kb:KB lN b
 eq:lN=(xs.take k).map ko
 ne:∀g,pv.ownBlock=some g->g≠tb
theorem XY.at {w:World} {tb:Nat} {xs:List Rw} {k:Nat} {sa:Option Addr} {sc:Nat} {g0:Option Addr} {l0 p0:Nat} {g1:Option Addr} {l1 p1:Nat} {g2:Option Addr} {l2 p2:Nat} {b:Ba} {pv:Value} {lN:List sk} {wr:World} (h:XY w tb xs k sa sc g0 l0 p0 g1 l1 p1 g2 l2 p2 b pv lN wr) {W:World} (hb:ah wr W):bQ W (.agg (aJ sa b.names.length sc g0 l0 p0 g1 l1 p1 g2 l2 p2 b)) b:=by
 obtain⟨M,wA,-,-,h1,-,h2⟩:=h.base
 exact h2 W (h1.trans (aQ.of hb aI))
theorem Mg:KB [] kq:=⟨rfl,rfl,⟨(by have h:=Pz;unfold Cy at h;simp only [Bool.and_eq_true]at h;exact h.1.1.1),vU,fun k hk=>by
 have:kq.tree k=tC:=by rcases (by omega:k=0\/k=1\/k=2)with rfl|rfl|rfl <;> rfl
 rw [this];show nB tC<=_;exact Nat.le_of_eq (show nB tC=3 from rfl),by simp [fB,mo]⟩,fun p hp=>by cases hp⟩
theorem F9:∀s∈iG,s.size<=140737488351232:=fun s hs=>by have:=(Bg s hs).2;omega
def A7 (p:sk):av:=⟨1,p.v,p.v,p.v,p.t,p.v⟩
def Gp (s:ByteArray) (a z:Int) (p:sk):Bool:=decide (p.s=s) && decide (a<=p.t) && decide (p.t<=z)
def Gh (ps:List sk) (s:ByteArray) (a z:Int):av:=ps.foldl (fun r p=>if Gp s a z p then r.join (A7 p)else r) av.zero
def NV (p:sk):Prop:=0<=p.t/\p.t<=1048575/\-1000000<=p.v/\p.v<=1000000
theorem nN {p:sk} (h:NV p):aj (A7 p)=0:=LI h.1 h.2.1 h.2.2.1 h.2.2.2
end Go.Proofs.YtmljjfhgciaceaaGreatDoor
