/- Texts of mine that come as one: BaseOk KBase KKnown. -/
import Derived.Test.YtmljjfhgciaceaaDoorHd
import Derived.Test.YtmljjfhgciaceaaDoorKC
import Derived.Test.YtmljjfhgciaceaaDoorAY
import Derived.Test.YtmljjfhgciaceaaDoorKT
import Derived.Test.YtmljjfhgciaceaaDoorOG
namespace Go.Proofs.YtmljjfhgciaceaaDoor
open Go.RowKit
theorem H2 {v:Value} {b:Ba} {L:List aC} {N:Nat} {s:ByteArray} {time value:Int} {w:World} (h:bO w v b) (hst:∀s∈b.names,s.size<=140737488351232) (xB:s.size<=140737488351232) (hsz:bL w)
  (hb:FK b L N) (hN:N<=2900) (hn:dL s=true) (h0:0<=time) (h1:time<=1048575) (h2 : -1000000<=value) (h3:value<=1000000) (hf:b.floor<=time) (hp:aS b.names s<0->b.names.length<16) :
  Calls Tryd.prog 22 #[v, .agg #[.string s, .int .i64 time, .int .i64 value]] w fun x w'=>ah w w' /\
   ∃b' sa sc g0 l0 p0 g1 l1 p1 g2 l2 p2,x = .returned (.tuple #[.agg (aG sa b'.names.length sc g0 l0 p0 g1 l1 p1 g2 l2 p2 b'), .int .i64 0])/\(∀w'',aM w.heap.size w' w''->bO w'' (.agg (aG sa b'.names.length sc g0 l0 p0 g1 l1 p1 g2 l2 p2 b')) b') /\
    b'.names=bC b s/\b'.floor=b.floor/\FK b' (ins L (cv b s time ⟨1,value,value,value,time,value⟩)) (N+1):=by
 obtain⟨a1,a2,-,a4⟩:=hb.add hN hn h0 h1 h2 h3 hf hp
 refine(xL h hst xB hsz).mono ?_
 rintro x w' ⟨hw,⟨g1,-⟩|⟨-,⟨E,-,-,g2|⟨-,k,hk,g3⟩⟩|⟨-,b',sa,sc,q0,l0,p0,q1,l1,p1,q2,l2,p2,rfl,hat,r1,r2,r3,r4,r5⟩⟩⟩
 ·exact absurd a1 g1
 ·omega
 ·have:=hb.wt k hk;omega
 ·exact⟨hw,b',sa,sc,q0,l0,p0,q1,l1,p1,q2,l2,p2,rfl,hat,r1,r2,a4 b' r3 r4 r5⟩
structure XI (w:World) (tb:Nat) (xs:List Rw) (k:Nat) (sa:Option Addr) (sc:Nat) (g0:Option Addr) (l0 p0:Nat) (g1:Option Addr) (l1 p1:Nat) (g2:Option Addr) (l2 p2:Nat) (b:Ba) (pv:Value) (oO:List C9) (wr:World):Prop where
 below:ah w wr
 size:w.heap.size<tb
 lt:tb<wr.heap.size
 box:wr.heap[tb]?=some (.cells (aG sa b.names.length sc g0 l0 p0 g1 l1 p1 g2 l2 p2 b) 35)
 res:wr.heap[w.heap.size]?=some (.cells #[.slice none 0 0, .slice none 0 0, .int .i64 0, .slice none 0 0, .int .i64 0, .slice none 0 0, .int .i64 0, .int .i64 0] 35)
 base:∃M wA,w.heap.size<M/\(tb<M\/wA.heap.size<=tb)/\aM M wA wr/\(∀g,pv.ownBlock=some g->g<M\/wA.heap.size<=g)/\∀w'',aM M wA w''->bO w'' (.agg (aG sa b.names.length sc g0 l0 p0 g1 l1 p1 g2 l2 p2 b)) b
 own:iE (w.heap.size+1) wr pv oO
 kb:KB oO b
 eq:oO=(xs.take k).map ku
 ne:∀g,pv.ownBlock=some g->g≠tb
theorem XI.at {w:World} {tb:Nat} {xs:List Rw} {k:Nat} {sa:Option Addr} {sc:Nat} {g0:Option Addr} {l0 p0:Nat} {g1:Option Addr} {l1 p1:Nat} {g2:Option Addr} {l2 p2:Nat} {b:Ba} {pv:Value} {oO:List C9} {wr:World} (h:XI w tb xs k sa sc g0 l0 p0 g1 l1 p1 g2 l2 p2 b pv oO wr) {W:World} (hb:ah wr W):bO W (.agg (aG sa b.names.length sc g0 l0 p0 g1 l1 p1 g2 l2 p2 b)) b:=by
 obtain⟨M,wA,-,-,h1,-,h2⟩:=h.base
 exact h2 W (h1.trans (aM.of hb aH))
theorem Mm:KB [] ky:=⟨rfl,rfl,⟨(by have h:=Pt;unfold CR at h;simp only [Bool.and_eq_true]at h;exact h.1.1.1),vV,fun k hk=>by
 have:ky.tree k=tE:=by rcases (by omega:k=0\/k=1\/k=2)with rfl|rfl|rfl <;> rfl
 rw [this];show nC tE<=_;exact Nat.le_of_eq (show nC tE=3 from rfl),by simp [fH,oG]⟩,fun p hp=>by cases hp⟩
theorem Gp:∀s∈jP,s.size<=140737488351232:=fun s hs=>by have:=(JO s hs).2;omega
def aar (p:C9):aw:=⟨1,p.v,p.v,p.v,p.t,p.v⟩
def abf (s:ByteArray) (a z:Int) (p:C9):Bool:=decide (p.s=s) && decide (a<=p.t) && decide (p.t<=z)
def aao (ps:List C9) (s:ByteArray) (a z:Int):aw:=ps.foldl (fun r p=>if abf s a z p then r.join (aar p)else r) aw.zero
theorem acw (ps:List C9) (p:C9) (s:ByteArray) (a z:Int):aao (ps++[p]) s a z=if abf s a z p then(aao ps s a z).join (aar p)else aao ps s a z:=by
 unfold aao;rw [List.foldl_append];rfl
def acy (p:C9):Prop:=0<=p.t/\p.t<=1048575/\-1000000<=p.v/\p.v<=1000000
theorem aam {p:C9} (h:acy p):aq (aar p)=0:=acs h.1 h.2.1 h.2.2.1 h.2.2.2
theorem abJ {s:ByteArray} {a z:Int}:∀{ps:List C9} {r:aw},ps.length<=1000000->(∀p∈ps,acy p)->aq r=0->0<=r.c->r.c+ps.length<=1000000 ->
  aq (ps.foldl (fun r p=>if abf s a z p then r.join (aar p)else r) r)=0/\(ps.foldl (fun r p=>if abf s a z p then r.join (aar p)else r) r).c<=r.c+ps.length/\0<=(ps.foldl (fun r p=>if abf s a z p then r.join (aar p)else r) r).c
 |[],r,_,_,h1,h2,_=>⟨h1,bj,h2⟩
 |p::ps,r,hl,hp,h1,h2,h3=>by
  have hlc:(p::ps).length=ps.length+1:=gp
  rw [hlc]at hl h3 ⊢
  rw [List.foldl_cons]
  have hr:=aam (hp p bj)
  have hc:(aar p).c=1:=rfl
  by_cases hi:abf s a z p=true
  ·rw [ar hi]
   have hj:(r.join (aar p)).c=r.c+1:=by rw [dF,hc]
   obtain⟨g1,g2,g3⟩:=abJ (s:=s) (a:=a) (z:=z) (ps:=ps) (r:=r.join (aar p)) af (fun q hq=>hp q (by simp [hq])) (qU h1 hr (by rw [hc];omega)).2 af af
   exact⟨g1,by push_cast;omega,g3⟩
  ·rw [ai hi]
   obtain⟨g1,g2,g3⟩:=abJ (s:=s) (a:=a) (z:=z) (ps:=ps) (r:=r) af (fun q hq=>hp q (by simp [hq])) h1 h2 af
   exact⟨g1,by push_cast;omega,g3⟩
theorem acU {ps:List C9} {s:ByteArray} {a z:Int} (hl:ps.length<=1000000) (hp:∀p∈ps,acy p):aq (aao ps s a z)=0/\(aao ps s a z).c<=ps.length/\0<=(aao ps s a z).c:=by
 have h0:(aw.zero:aw).c=0:=rfl
 obtain⟨h1,h2,h3⟩:=abJ (s:=s) (a:=a) (z:=z) (r:=aw.zero) hl hp aW aW (by rw [h0];omega)
 exact⟨h1,by rw [h0]at h2;unfold aao;omega,h3⟩
end Go.Proofs.YtmljjfhgciaceaaDoor
