/- Texts of mine that come as one: BaseOk KBase KKnown. -/
import Derived.Test.YtmljjfhgciaceaaDoorHd
import Derived.Test.YtmljjfhgciaceaaDoorKC
import Derived.Test.YtmljjfhgciaceaaDoorAY
import Derived.Test.YtmljjfhgciaceaaDoorKT
import Derived.Test.YtmljjfhgciaceaaDoorOG
namespace Go.Proofs.YtmljjfhgciaceaaDoor
open Go.RowKit
theorem Hk {v:Value} {b:Ba} {L:List aA} {N:Nat} {s:ByteArray} {time value:Int} {w:World} (h:bN w v b) (hst:∀s∈b.names,s.size<=140737488351232) (xh:s.size<=140737488351232) (hsz:bS w)
  (hb:Fk b L N) (hN:N<=2900) (hn:dG s=true) (h0:0<=time) (h1:time<=1048575) (h2 : -1000000<=value) (h3:value<=1000000) (hf:b.floor<=time) (hp:aG b.names s<0->b.names.length<16) :
  Calls Tryd.prog 22 #[v, .agg #[.string s, .int .i64 time, .int .i64 value]] w fun x w'=>ah w w' /\
   ∃b' sa sc g0 l0 p0 g1 l1 p1 g2 l2 p2,x = .returned (.tuple #[.agg (aH sa b'.names.length sc g0 l0 p0 g1 l1 p1 g2 l2 p2 b'), .int .i64 0])/\(∀w'',aP w.heap.size w' w''->bN w'' (.agg (aH sa b'.names.length sc g0 l0 p0 g1 l1 p1 g2 l2 p2 b')) b') /\
    b'.names=bA b s/\b'.floor=b.floor/\Fk b' (ins L (cu b s time ⟨1,value,value,value,time,value⟩)) (N+1):=by
 obtain⟨a1,a2,-,a4⟩:=hb.add hN hn h0 h1 h2 h3 hf hp
 refine(xx h hst xh hsz).mono ?_
 rintro x w' ⟨hw,⟨g1,-⟩|⟨-,⟨E,-,-,g2|⟨-,k,hk,g3⟩⟩|⟨-,b',sa,sc,q0,l0,p0,q1,l1,p1,q2,l2,p2,rfl,hat,r1,r2,r3,r4,r5⟩⟩⟩
 ·exact absurd a1 g1
 ·omega
 ·have:=hb.wt k hk;omega
 ·exact⟨hw,b',sa,sc,q0,l0,p0,q1,l1,p1,q2,l2,p2,rfl,hat,r1,r2,a4 b' r3 r4 r5⟩
structure XU (w:World) (tb:Nat) (xs:List Rw) (k:Nat) (sa:Option Addr) (sc:Nat) (g0:Option Addr) (l0 p0:Nat) (g1:Option Addr) (l1 p1:Nat) (g2:Option Addr) (l2 p2:Nat) (b:Ba) (pv:Value) (lO:List r9) (wr:World):Prop where
 below:ah w wr
 size:w.heap.size<tb
 lt:tb<wr.heap.size
 box:wr.heap[tb]?=some (.cells (aH sa b.names.length sc g0 l0 p0 g1 l1 p1 g2 l2 p2 b) 35)
 res:wr.heap[w.heap.size]?=some (.cells #[.slice none 0 0, .slice none 0 0, .int .i64 0, .slice none 0 0, .int .i64 0, .slice none 0 0, .int .i64 0, .int .i64 0] 35)
 base:∃M wA,w.heap.size<M/\(tb<M\/wA.heap.size<=tb)/\aP M wA wr/\(∀g,pv.ownBlock=some g->g<M\/wA.heap.size<=g)/\∀w'',aP M wA w''->bN w'' (.agg (aH sa b.names.length sc g0 l0 p0 g1 l1 p1 g2 l2 p2 b)) b
 own:iG (w.heap.size+1) wr pv lO
 kb:KB lO b
 eq:lO=(xs.take k).map km
 ne:∀g,pv.ownBlock=some g->g≠tb
theorem XU.at {w:World} {tb:Nat} {xs:List Rw} {k:Nat} {sa:Option Addr} {sc:Nat} {g0:Option Addr} {l0 p0:Nat} {g1:Option Addr} {l1 p1:Nat} {g2:Option Addr} {l2 p2:Nat} {b:Ba} {pv:Value} {lO:List r9} {wr:World} (h:XU w tb xs k sa sc g0 l0 p0 g1 l1 p1 g2 l2 p2 b pv lO wr) {W:World} (hb:ah wr W):bN W (.agg (aH sa b.names.length sc g0 l0 p0 g1 l1 p1 g2 l2 p2 b)) b:=by
 obtain⟨M,wA,-,-,h1,-,h2⟩:=h.base
 exact h2 W (h1.trans (aP.of hb aI))
theorem Me:KB [] ko:=⟨rfl,rfl,⟨(by have h:=Pv;unfold Cs at h;simp only [Bool.and_eq_true]at h;exact h.1.1.1),vR,fun k hk=>by
 have:ko.tree k=tu:=by rcases (by omega:k=0\/k=1\/k=2)with rfl|rfl|rfl <;> rfl
 rw [this];show nE tu<=_;exact Nat.le_of_eq (show nE tu=3 from rfl),by simp [fA,jJ]⟩,fun p hp=>by cases hp⟩
theorem F6:∀s∈iH,s.size<=140737488351232:=fun s hs=>by have:=(A7 s hs).2;omega
def AV (p:r9):au:=⟨1,p.v,p.v,p.v,p.t,p.v⟩
def Gl (s:ByteArray) (a z:Int) (p:r9):Bool:=decide (p.s=s) && decide (a<=p.t) && decide (p.t<=z)
def Ge (ps:List r9) (s:ByteArray) (a z:Int):au:=ps.foldl (fun r p=>if Gl s a z p then r.join (AV p)else r) au.zero
def NT (p:r9):Prop:=0<=p.t/\p.t<=1048575/\-1000000<=p.v/\p.v<=1000000
theorem nS {p:r9} (h:NT p):aj (AV p)=0:=LI h.1 h.2.1 h.2.2.1 h.2.2.2
end Go.Proofs.YtmljjfhgciaceaaDoor
