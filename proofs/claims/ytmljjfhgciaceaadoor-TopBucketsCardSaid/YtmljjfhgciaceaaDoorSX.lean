/- Texts of mine that come as one: Ents Same NodeGet With Rolled May Height HeightB HeightC Fault AllOf. -/
import Derived.Test.YtmljjfhgciaceaaDoorHd
import Derived.Test.YtmljjfhgciaceaaDoorKG
import Derived.Test.YtmljjfhgciaceaaDoorPA
import Derived.Deep.RegionHeld3
import Derived.StillTailTactics
import Derived.Deep.CutBlock
import Derived.Laws.OwnMore
import Derived.OwnWalk
namespace Go.Proofs.YtmljjfhgciaceaaDoor
open Go.RowKit
section
variable {b off k:Nat} {α:Type} {w wr:World}
theorem bR {xs:List aA} (hb:ah w wr) (hbb:b<w.heap.size)
  (h:∀i x,xs[i]?=some x->∀j u,(bj x)[j]?=some u->w.cell? ⟨b,off+i*7+j,none⟩=some u) (hk:k<xs.length) :
  wr.cell? ⟨b,off+k*7,none⟩=some (.int .i64 xs[k].key)/\wr.cell? ⟨b,off+k*7+1,none⟩=some (.int .i64 xs[k].is.c)/\wr.cell? ⟨b,off+k*7+2,none⟩=some (.int .i64 xs[k].is.s) /\
  wr.cell? ⟨b,off+k*7+3,none⟩=some (.int .i64 xs[k].is.mi)/\wr.cell? ⟨b,off+k*7+4,none⟩=some (.int .i64 xs[k].is.ma)/\wr.cell? ⟨b,off+k*7+5,none⟩=some (.int .i64 xs[k].is.t) /\
  wr.cell? ⟨b,off+k*7+6,none⟩=some (.int .i64 xs[k].is.l):=by
 have g:∀j u,(bj xs[k])[j]?=some u->wr.cell? ⟨b,off+k*7+j,none⟩=some u:=fun j u hu=>
  (hb.cell (p:=⟨b,_,none⟩) hbb).trans (h k xs[k] (by simp [hk]) j u hu)
 exact⟨by simpa using g 0 _ rfl,g 1 _ rfl,g 2 _ rfl,g 3 _ rfl,g 4 _ rfl,g 5 _ rfl,g 6 _ rfl⟩
theorem Mg {xs:List Int} (hb:ah w wr) (hbb:b<w.heap.size)
  (h:∀i x,xs[i]?=some x->∀j u,(bV x)[j]?=some u->w.cell? ⟨b,off+i*1+j,none⟩=some u) (hk:k<xs.length) :
  wr.cell? ⟨b,off+k,none⟩=some (.int .i64 xs[k]):=by
 have:=(hb.cell (p:=⟨b,_,none⟩) hbb).trans (h k xs[k] (by simp [hk]) 0 _ rfl)
 simpa using this
theorem BH {xs ys:List α} (h:xs.take k=ys.take k) (hx:k<xs.length) (hy:k<ys.length) (he:xs[k]=ys[k]):xs.take (k+1)=ys.take (k+1):=by
 rw [mn hx,mn hy,h,he]
theorem JF {xs ys:List α} (hx:k<xs.length) (hy:k<ys.length) (he:xs[k]≠ys[k]):xs≠ys:=by
 intro h;subst h;exact he rfl
end
section
variable {i:Int} {xs:List Nd} {ab aY n cap j:Nat} {x:Nd} {t:Tr} {nv:Value} {w:World}
theorem dS (h:i=j) (hj:j<n) (w:World):(Instr.indexAt 30 (.slice (some ⟨ab,aY,none⟩) n cap) (.int .i64 i)).run Tryd.prog w = .ok (.pointer (some ⟨ab,aY+j*5,none⟩)) w:=by
 subst h
 go_simp
theorem lQ (h:i=j) (hj:j<n) (w:World):(Instr.indexAt 82 (.slice (some ⟨ab,aY,none⟩) n cap) (.int .i64 i)).run Tryd.prog w = .ok (.pointer (some ⟨ab,aY+j,none⟩)) w:=by
 subst h
 go_simp
theorem dD (h:i=j) (hj:j<n) (w:World):(Instr.indexAt 63 (.slice (some ⟨ab,aY,none⟩) n cap) (.int .i64 i)).run Tryd.prog w = .ok (.pointer (some ⟨ab,aY+j*7,none⟩)) w:=by
 subst h
 go_simp
theorem bu.get (h:bu w nv xs) {i:Nat} (hi:xs[i]?=some x) :
  ∃nb gL cap r,nv = .slice (some ⟨nb,gL,none⟩) xs.length cap/\nb<w.heap.size/\lN w r x /\
   w.cell? ⟨nb,gL+i*5,none⟩=some (.bool r.leaf)/\w.cell? ⟨nb,gL+i*5+1,none⟩=some r.ev/\w.cell? ⟨nb,gL+i*5+2,none⟩=some r.kv/\w.cell? ⟨nb,gL+i*5+3,none⟩=some r.dv/\w.cell? ⟨nb,gL+i*5+4,none⟩=some r.bv:=by
 obtain⟨rs,⟨ao,cap,rfl,h1,h2,h3,h4,h5⟩,hl,hn⟩:=h
 have kS:=(gH.1 hi).1
 obtain⟨nb,gL,rfl,hb,hc⟩:=h5 af
 have hr:rs[i]?=some (rs[i]'(by omega)):=bq
 have g:=hc i _ hr
 exact⟨nb,gL,cap,rs[i]'(by omega),by rw [hl],hb,hn i _ x hr hi,by simpa using g 0 _ rfl,g 1 _ rfl,g 2 _ rfl,g 3 _ rfl,g 4 _ rfl⟩
theorem bu.len (h:bu w nv xs):(∃ao cap,nv = .slice ao xs.length cap)/\xs.length<=9223372036854775806:=by
 obtain⟨rs,hs,hl,hn⟩:=h
 obtain⟨ao,cap,rfl⟩:=hs.isSlice
 refine⟨⟨ao,cap,by rw [hl]⟩,?_⟩
 obtain⟨_,_,_,_,_,h,_⟩:=hs
 omega
theorem gu.get {v:Value} {xs:List Int} (h:gu w v xs) {i:Nat} {x:Int} (hi:xs[i]?=some x) :
  ∃b off cap,v = .slice (some ⟨b,off,none⟩) xs.length cap/\b<w.heap.size/\w.cell? ⟨b,off+i,none⟩=some (.int .i64 x):=by
 obtain⟨ao,cap,rfl,h1,h2,h3,h4,h5⟩:=h
 have kS:=(gH.1 hi).1
 obtain⟨nb,gL,rfl,hb,hc⟩:=h5 af
 exact⟨nb,gL,cap,rfl,hb,by simpa using hc i x hi 0 _ rfl⟩
theorem dN.len {α:Type} {k sz:Nat} {en:α->List Value} {v:Value} {xs:List α} (h:dN k sz en w v xs) (hsz:0<sz):xs.length<=140737488351232:=by
 obtain⟨ao,cap,rfl,h1,h2,h3,h4,h5⟩:=h
 have:xs.length*1<=xs.length*sz:=Nat.mul_le_mul_left _ hsz
 omega
theorem vd {n:Int} (h:t.dn n=some x):0<=n/\n.toNat<t.nodes.length/\t.nodes[n.toNat]?=some x:=by
 unfold Tr.dn at h
 split at h
 ·exact⟨‹_›,(gH.1 h).1,h⟩
 ·cases h
theorem NB {n:Int} (h:t.dn n=none):n<0\/(t.nodes.length:Int)<=n:=by
 unfold Tr.dn at h
 split at h
 ·have:=List.getElem?_eq_none_iff.1 h;omega
 ·omega
end
theorem vF {W w5:World} {T:TypeId} (BE:Below (W.alloc (.cells #[.int .i64 0, .int .i64 0, .int .i64 0, .int .i64 0, .int .i64 0, .int .i64 0] T)).drew.heap.size (W.alloc (.cells #[.int .i64 0, .int .i64 0, .int .i64 0, .int .i64 0, .int .i64 0, .int .i64 0] T)).drew w5) :
  w5.heap[W.heap.size]?=some (.cells #[.int .i64 0, .int .i64 0, .int .i64 0, .int .i64 0, .int .i64 0, .int .i64 0] T)/\w5.cell? ⟨W.heap.size,0,none⟩=some (.int .i64 0)/\w5.cell? ⟨W.heap.size,1,none⟩=some (.int .i64 0)/\w5.cell? ⟨W.heap.size,2,none⟩=some (.int .i64 0)/\w5.cell? ⟨W.heap.size,3,none⟩=some (.int .i64 0)/\w5.cell? ⟨W.heap.size,4,none⟩=some (.int .i64 0)/\w5.cell? ⟨W.heap.size,5,none⟩=some (.int .i64 0)/\∀o,w5.frozen? ⟨W.heap.size,o,none⟩=false:=by
 have h:w5.heap[W.heap.size]?=some (.cells #[.int .i64 0, .int .i64 0, .int .i64 0, .int .i64 0, .int .i64 0, .int .i64 0] T):=(BE.block _ bq).trans (aq _ _ rfl)
 simp [h,World.cell?,World.frozen?]
def Qp (B:Nat) (w:World) (r:Option (List aA)) (e:Ending) (w':World):Prop:=
 Below B w w'/\(match r with|none=>e = .returned (.tuple #[.slice none 0 0, .bool false])|some l=>∃v',e = .returned (.tuple #[v', .bool true])/\av B w' v' l)
section
variable {S:List Int} {sb N:Nat} {w:World}
def wJ (w:World) (sb N:Nat) (S:List Int):Prop:=sb<w.heap.size/\∀i:Nat,i<N->w.cell? ⟨sb,i,none⟩=some (.int .i64 (if (i:Int)∈S then 1 else 0))/\w.frozen? ⟨sb,i,none⟩=false
theorem wJ.turn {w':World} (h:wJ w sb N S) {X:Nat->Prop} (ht:aw X w w') (hx:¬X sb):wJ w' sb N S:=
 ⟨mE h.1 ht.size,fun i hi=>⟨(ht.cell h.1 hx i).trans (h.2 i hi).1,(ht.frozen h.1 hx i).trans (h.2 i hi).2⟩⟩
theorem wJ.set (h:wJ w sb N S) {n:Int} {j:Nat} (hj:n=j) (hn:j<N):wJ (w.setCell ⟨sb,j,none⟩ (.int .i64 1)) sb N (n::S):=by
 refine⟨by rw [ay];exact h.1,fun i hi=>?_⟩
 by_cases hij:i=j
 ·subst hij
  refine⟨?_,?_⟩
  ·rw [World.cell?_setCell_same' _ _ _ (by rw [(h.2 i hi).1];rfl),ar (by simp [hj])]
  ·rw [<-(h.2 i hi).2];simp [World.frozen?,World.setCell,Array.getElem?_modify]
   cases w.heap[sb]? with
   |none=>rfl
   |some o=>cases o <;> rfl
 ·refine⟨?_,?_⟩
  ·rw [World.cell?_setCell_other _ _ _ _ bq,(h.2 i hi).1]
   have:((i:Int)∈n::S)↔(i:Int)∈S:=by simp [hj];omega
   simp only [this]
  ·rw [<-(h.2 i hi).2];simp [World.frozen?,World.setCell,Array.getElem?_modify]
   cases w.heap[sb]? with
   |none=>rfl
   |some o=>cases o <;> rfl
theorem pQ {w0:World} {nv:Value} {xs:List Nd} (h:bu w0 nv xs) (hb:ah w0 w) {i:Nat} {x:Nd} (hi:xs[i]?=some x) :
  ∃nb gL cap ev kv dv bv,nv = .slice (some ⟨nb,gL,none⟩) xs.length cap/\nb<w0.heap.size/\eQ w0 ev x.aF/\gu w0 kv x.keys/\gu w0 dv x.kids/\eQ w0 bv x.buf /\
   w.cell? ⟨nb,gL+i*5,none⟩=some (.bool x.leaf)/\w.cell? ⟨nb,gL+i*5+1,none⟩=some ev/\w.cell? ⟨nb,gL+i*5+2,none⟩=some kv/\w.cell? ⟨nb,gL+i*5+3,none⟩=some dv/\w.cell? ⟨nb,gL+i*5+4,none⟩=some bv:=by
 obtain⟨nb,gL,cap,r,e,hnb,⟨h1,h2,h3,h4,h5⟩,c0,c1,c2,c3,c4⟩:=h.get hi
 have g:∀o,w.cell? ⟨nb,o,none⟩=w0.cell? ⟨nb,o,none⟩:=fun o=>hb.cell (p:=⟨nb,o,none⟩) hnb
 exact⟨nb,gL,cap,r.ev,r.kv,r.dv,r.bv,e,hnb,h2,h3,h4,h5,by rw [g,c0,h1],by rw [g,c1],by rw [g,c2],by rw [g,c3],by rw [g,c4]⟩
end
def n9 (B:Nat) (w:World) (f:Int) (r:Option (List aA)) (e:Ending) (w':World):Prop:=
 Below B w w'/\(f≠0->e = .returned (.tuple #[.slice none 0 0, .int .i64 f]))/\(f=0->match r with|none=>e = .returned (.tuple #[.slice none 0 0, .int .i64 1])|some l=>∃v',e = .returned (.tuple #[v', .int .i64 0])/\av B w' v' l)
end Go.Proofs.YtmljjfhgciaceaaDoor
