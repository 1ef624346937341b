/- Texts of mine that come as one: FlushA PutW Flush. -/
import Derived.Test.YtmljjfhgciaceaaGreatDoorHd
import Derived.Test.YtmljjfhgciaceaaGreatDoorSP
import Derived.Test.YtmljjfhgciaceaaGreatDoorPU
import Derived.Maps.AppendAt
namespace Go.Proofs.YtmljjfhgciaceaaGreatDoor
open Go.RowKit
section
variable {y:aA} {n:Int} {rs:List Raw} {i b k ow B bb j f g o M xb eb:Nat} {F:Nat->Prop} {x:Nd} {r:Raw} {t t' t2:Tr} {dv nv:Value} {w wr w3 w9 mG a wx wy:World}
theorem mY {ops:Array Oper} {rest:List Oper} {o:Oper} {a:Act} {Q:Exit->Act->World->Prop} (hgd:o.guard=none) (s x:Operand)
  (ho:o.op = .call { callee:= .builtin .append,args:=#[s,x],argTypes:=#[35,35] }) (B:Nat) (v:Value) (es:List aA) (hs:a.eval s=v) (hown:au B w v es)
  (ad:Addr) (e:aA) (hx:a.eval x = .slice (some ad) 1 1) (hnews:∀j u,(bh e)[j]?=some u->w.cell? (ad.add j)=some u) (hlen:es.length<=1000000) (hbase:B<=w.heap.size)
  (h:∀v' w',au B w' v' (es++[e])->w.grownBy w' v.ownBlock->(v'.ownBlock=v.ownBlock\/v'.ownBlock=some w.heap.size)->wpList Tryz.prog ops Q rest (a.put o.dst v') w'):wpList Tryz.prog ops Q (o::rest) a w:=by
 obtain⟨i0,z,hi,hz,hz1,hz2,hz3⟩:=cG Tryz.Gs
 refine wpList_append_own_at w hgd s x 35 ho B 107 i0 z 7 56 Tryz.underlying35 hi hz hz1 hz2 hz3 aY v es.length _ hs hown.row ad 1 1 (bh e) hx rfl hnews (je [e] |> fun h u hu=>h u (by simpa using hu)) (by unfold maxLen;omega) af hbase ?_
 intro v' w' hown' hg _ h4
 refine h v' w' ?_ hg h4
 have:(es++[e]).flatMap bh=es.flatMap bh++bh e:=bt
 refine⟨?_⟩
 rw [this,eO]
 exact hown'
def Qw (f:Nat):Prop:=∀{M:Nat} {w:World} {bb:Nat} {nv:Value} {rs:List Raw} {t t':Tr} {n:Int} {e:aA} {more key:Int},Bd M w bb nv rs t->qU f t n e=some (t',more,key) ->
 Calls Tryz.prog 109 #[.pointer (some ⟨bb,0,none⟩), .int .i64 n, .agg #[.int .i64 e.key, .int .i64 e.is.c, .int .i64 e.is.s, .int .i64 e.is.mi, .int .i64 e.is.ma, .int .i64 e.is.t, .int .i64 e.is.l]] w
  fun x w'=>x = .returned (.tuple #[.int .i64 more, .int .i64 key])/\kM M bb (dE bb nv rs) w t' w'
theorem PD (h:i<=3):i=0\/i=1\/i=2\/i=3:=af
theorem J2 {a0 a1 a2 a3 v:Value} {T:TypeId} {fr:Nat×Nat} (h:w.heap[b]?=some (.cells #[a0,a1,a2,a3] T fr)) (hi:i<=3) :
  (w.setCell ⟨b,i,none⟩ v).heap[b]?=some (.cells #[if 0=i then v else a0,if 1=i then v else a1,if 2=i then v else a2,if 3=i then v else a3] T fr):=by
 have h:=heap_setCell_same (off:=i) (v:=v) h
 rw [h]
 rcases PD hi with rfl|rfl|rfl|rfl <;> simp
theorem Mn {m:Nat->Nat} (hk:k<4) (w:World):(Instr.index 189 (.agg #[.int .i64 (m 0:Nat), .int .i64 (m 1:Nat), .int .i64 (m 2:Nat), .int .i64 (m 3:Nat)]) (.int .i64 (k:Nat))).run Tryz.prog w = .ok (.int .i64 (m k:Nat)) w:=by
 unfold Instr.index
 rcases vA hk with rfl|rfl|rfl|rfl <;> simp [go_sem]
theorem EN (m:Nat->Nat):∀k,k<=4->iV m k<=3
 |0,_=>by unfold iV;omega
 |k+1,h=>by
  have:=EN m k af
  unfold iV
  split <;> omega
def cnt (x:Nd) (k j:Nat):Nat:=((x.buf.take k).filter fun e=>decide (aZ x.keys e.key=j)).length
theorem Ej {put:Tr->Int->aA->Option (Tr×Int×Int)} (hF:ou put t n=some t'):∃x,t.dm n=some x/\x.keys.Pairwise (·<·)/\x.keys.length<=3/\x.buf.length<=20/\Checked x.buf /\
  sP put n (x.buf.filter fun e=>decide (aZ x.keys e.key=iV (iQ x) 4)) (x.buf.filter fun e=>decide (aZ x.keys e.key=iV (iQ x) 4))
    (cJ t n { x with buf:=x.buf.filter fun e=>!decide (aZ x.keys e.key=iV (iQ x) 4) })=some t':=by
 unfold ou at hF
 split at hF
 ·cases hF
 ·rename_i x hx
  split at hF
  ·rename_i hg
   exact⟨x,hx,hg.1,hg.2.1,hg.2.2.1,hg.2.2.2,hF⟩
  ·cases hF
theorem Ny (hk:k<x.buf.length) (j:Nat):cnt x (k+1) j=if j=aZ x.keys x.buf[k].key then cnt x k j+1 else cnt x k j:=by
 unfold cnt
 rw [mf hk,sG,eO]
 by_cases h:aZ x.keys x.buf[k].key=j
 ·rw [ar h.symm,tP (by simpa using h)];simp
 ·rw [ai (Ne.symm h),sH (by simpa using h)];simp
theorem Uh (x:Nd) (k j:Nat):cnt x k j<=x.buf.length:=by
 unfold cnt
 exact im (tQ _ _) (by rw [fx];omega)
theorem yr (x:Nd) (j:Nat):cnt x x.buf.length j=iQ x j:=by unfold cnt iQ;rw [List.take_length]
def E8 (x:Nd) (k:Nat):Array Value:=#[.int .i64 (cnt x k 0:Nat), .int .i64 (cnt x k 1:Nat), .int .i64 (cnt x k 2:Nat), .int .i64 (cnt x k 3:Nat)]
def R3 (x:Nd) (ow B:Nat) (wr w3:World) (k:Nat) (dv sv:Value):Prop:=
 Below B wr w3/\au B w3 dv ((x.buf.take k).filter fun e=>decide (aZ x.keys e.key=ow))/\au B w3 sv ((x.buf.take k).filter fun e=>!decide (aZ x.keys e.key=ow))/\∀b,sv.ownBlock=some b->dv.ownBlock≠some b
theorem R3.down {sv v:Value} (h:R3 x ow B wr w3 k dv sv) (hB:B<=wr.heap.size) (hlt:k<x.buf.length) (hk:aZ x.keys x.buf[k].key=ow) (h9:ah w3 w9)
  (ho:au B mG v (((x.buf.take k).filter fun e=>decide (aZ x.keys e.key=ow))++[x.buf[k]])) (hg:w9.grownBy mG dv.ownBlock) (hv:v.ownBlock=dv.ownBlock\/v.ownBlock=some w9.heap.size):R3 x ow B wr mG (k+1) v sv:=by
 obtain⟨h1,h2,h3,h4⟩:=h
 have hs1:=h1.size
 have hs9:=h9.size
 refine⟨Below.grown (Below.trans' h1 h9 af) hg af fun j hj=>(h2.lt j hj).1,?_,?_,fun b hb hb'=>?_⟩
 ·rw [mf hlt,sG,tP (by simpa using hk)]
  exact ho
 ·rw [mf hlt,sG,sH (by simpa using hk),List.filter_nil,pq]
  exact h3.block fun b hb=>(hg.block b (by have:=(h3.lt b hb).2;omega) (fun e=>h4 b hb e.symm)).trans (h9.block b (h3.lt b hb).2)
 ·rcases hv with hv|hv
  ·exact h4 b hb (hv▸hb')
  ·have:=(h3.lt b hb).2
   rw [hv]at hb';injection hb' with hb';omega
theorem R3.stay {sv v:Value} (h:R3 x ow B wr w3 k dv sv) (hB:B<=wr.heap.size) (hlt:k<x.buf.length) (hk:¬aZ x.keys x.buf[k].key=ow) (h9:ah w3 w9)
  (ho:au B mG v (((x.buf.take k).filter fun e=>!decide (aZ x.keys e.key=ow))++[x.buf[k]])) (hg:w9.grownBy mG sv.ownBlock) (hv:v.ownBlock=sv.ownBlock\/v.ownBlock=some w9.heap.size):R3 x ow B wr mG (k+1) dv v:=by
 obtain⟨h1,h2,h3,h4⟩:=h
 have hs1:=h1.size
 have hs9:=h9.size
 refine⟨Below.grown (Below.trans' h1 h9 af) hg af fun j hj=>(h3.lt j hj).1,?_,?_,fun b hb hb'=>?_⟩
 ·rw [mf hlt,sG,sH (by simpa using hk),List.filter_nil,pq]
  exact h2.block fun b hb=>(hg.block b (by have:=(h2.lt b hb).2;omega) (fun e=>h4 b e.symm hb)).trans (h9.block b (h2.lt b hb).2)
 ·rw [mf hlt,sG,tP (by simpa using hk)]
  exact ho
 ·rcases hv with hv|hv
  ·exact h4 b (hv▸hb) hb'
  ·have:=(h2.lt b hb').2
   rw [hv]at hb;injection hb with hb;omega
theorem Bp {v:Value} (hr:rs[j]?=some r) (hf:f<4) (h:dE bb nv (rs.set j (r.sw f v)) b):dE bb nv rs b\/v.ownBlock=some b:=by
 rcases h with rfl|h|⟨i,s,g,hs,hb⟩
 ·exact .inl (.inl rfl)
 ·exact .inl (.inr (.inl h))
 ·by_cases hi:i=j
  ·subst hi
   rw [List.getElem?_set_self (gJ.1 hr).1]at hs
   obtain rfl:=dt hs
   by_cases hg:g=f
   ·subst hg;rw [Raw.vL r hf]at hb;exact .inr hb
   ·rw [Raw.BV r hf v hg]at hb;exact .inl (.inr (.inr ⟨i,r,g,hr,hb⟩))
  ·rw [AK (Ne.symm hi)]at hs;exact .inl (.inr (.inr ⟨i,s,g,hs,hb⟩))
theorem IC (x:Nd) (B:List aA):∀g,g≠3->Nd.fN { x with buf:=B } g=x.fN g/\Nd.fC { x with buf:=B } g=x.fC g:=fun g hg=>by
 rcases lH g 4 with h4|h4
 ·rcases vA h4 with rfl|rfl|rfl|rfl <;> first|exact⟨rfl,rfl⟩|exact absurd rfl hg
 ·obtain⟨k,rfl⟩:∃k,g=k+4:=⟨g-4,af⟩;exact⟨rfl,rfl⟩
theorem PB (x:Nd) (B:List Int):∀g,g≠1->Nd.fN { x with keys:=B } g=x.fN g/\Nd.fC { x with keys:=B } g=x.fC g:=fun g hg=>by
 rcases lH g 4 with h4|h4
 ·rcases vA h4 with rfl|rfl|rfl|rfl <;> first|exact⟨rfl,rfl⟩|exact absurd rfl hg
 ·obtain⟨k,rfl⟩:∃k,g=k+4:=⟨g-4,af⟩;exact⟨rfl,rfl⟩
theorem PA (x:Nd) (B:List Int):∀g,g≠2->Nd.fN { x with kids:=B } g=x.fN g/\Nd.fC { x with kids:=B } g=x.fC g:=fun g hg=>by
 rcases lH g 4 with h4|h4
 ·rcases vA h4 with rfl|rfl|rfl|rfl <;> first|exact⟨rfl,rfl⟩|exact absurd rfl hg
 ·obtain⟨k,rfl⟩:∃k,g=k+4:=⟨g-4,af⟩;exact⟨rfl,rfl⟩
theorem Jp (t:Tr) (n:Int) (x y:Nd):cJ (cJ t n x) n y=cJ t n y:=by simp [cJ]
theorem Hd {put:Tr->Int->aA->Option (Tr×Int×Int)} {all ds:List aA} {e:aA} (h:sP put n all (e::ds) t=some t'):∃x k t1 more key t2 z,t.dm n=some x/\(x.keys.Pairwise (·<·)/\x.keys.length<=20/\x.kids.length<=20) /\
  x.kids[aZ x.keys e.key]?=some k/\put t k e=some (t1,more,key)/\Gn t1 n (aZ x.keys e.key) more key=some t2/\t2.dm n=some z /\
  ((z.kids.length<=4/\sP put n all ds t2=some t')\/(¬z.kids.length<=4/\(all.filter fun d=>decide (e.key<d.key)).foldlM (oL n) t2=some t')):=by
 unfold sP at h
 split at h
 ·cases h
 rename_i x hx
 by_cases hk:x.keys.Pairwise (·<·)/\x.keys.length<=20/\x.kids.length<=20
 ·rw [ar hk]at h
  split at h
  ·cases h
  rename_i k hk2
  split at h
  ·cases h
  rename_i t1 more key hp
  split at h
  ·cases h
  rename_i t2 ht2
  split at h
  ·cases h
  rename_i z hz
  refine⟨x,k,t1,more,key,t2,z,hx,hk,hk2,hp,ht2,hz,?_⟩
  by_cases h4:z.kids.length<=4
  ·rw [ar h4]at h;exact .inl ⟨h4,h⟩
  ·rw [ai h4]at h;exact .inr ⟨h4,h⟩
 ·rw [ai hk]at h;cases h
theorem JP {t1:Tr} {more key:Int} (h:Gn t1 n i more key=some t2):(more<0/\t2=t1)\/(0<=more/\∃y,t1.dm n=some y/\i<=y.keys.length/\i+1<=y.kids.length/\y.kids.length<=20/\y.keys.length<=20 /\
  t2=cJ t1 n { y with keys:=y.keys.take i++key::y.keys.drop i,kids:=y.kids.take (i+1)++more::y.kids.drop (i+1) }):=by
 unfold Gn at h
 by_cases hm:more<0
 ·rw [ar hm]at h;exact .inl ⟨hm,(dt h).symm⟩
 ·rw [ai hm]at h
  split at h
  ·cases h
  rename_i y hy
  split at h
  ·rename_i hg
   exact .inr ⟨af,y,hy,hg.1,hg.2.1,hg.2.2.1,hg.2.2.2,(dt h).symm⟩
  ·cases h
theorem oJ (h:aw (fun b=>b=g) a w) (v:Value):aw (fun b=>b=g) a (w.setCell ⟨g,o,none⟩ v):=aw.setCell (p:=⟨g,o,none⟩) h (Or.inl (Eq.refl g)) v
theorem Jj (h:aw (fun b=>b=g) a w) (v0 v1 v2 v3 v4:Value):aw (fun b=>b=g) a (((((w.setCell ⟨g,0,none⟩ v0).setCell ⟨g,1,none⟩ v1).setCell ⟨g,2,none⟩ v2).setCell ⟨g,3,none⟩ v3).setCell ⟨g,4,none⟩ v4):=
 oJ (oJ (oJ (oJ (oJ h v0) v1) v2) v3) v4
def R4 (M bb:Nat) (F:Nat->Prop) (w wr:World) (xb:Nat) (dv:Value) (put:Tr->Int->aA->Option (Tr×Int×Int)) (n:Int) (down rest:List aA) (t':Tr):Prop:=
 ∃kU fQ tk a0 a1 a2 a3 a4,Bd M wr bb kU fQ tk/\nE F (dE bb kU fQ) w wr/\au M wr dv down/\(∀b,dv.ownBlock=some b->¬dE bb kU fQ b)/\wr.heap[xb]?=some (.cells #[a0,a1,a2,a3,a4] 125)/\¬dE bb kU fQ xb/\dv.ownBlock≠some xb/\sP put n down rest tk=some t'
structure Q5 (M bb:Nat) (F:Nat->Prop) (w wx:World) (xb eb:Nat) (dv:Value) (down:List aA) (y:aA) (nv:Value) (rs:List Raw) (t:Tr):Prop where
 bd:Bd M wx bb nv rs t
 ZV:nE F (dE bb nv rs) w wx
 own:au M wx dv down
 off:∀b,dv.ownBlock=some b->¬dE bb nv rs b
 box:∃a0 a1 a2 a3 a4,wx.heap[xb]?=some (.cells #[a0,a1,a2,a3,a4] 125)
 gL:¬dE bb nv rs xb
 dx:dv.ownBlock≠some xb
 Vt:wx.heap[eb]?=some (.cells #[.int .i64 y.key, .int .i64 y.is.c, .int .i64 y.is.s, .int .i64 y.is.mi, .int .i64 y.is.ma, .int .i64 y.is.t, .int .i64 y.is.l] 107)
 aH:¬dE bb nv rs eb
theorem Q5.step {down:List aA} {VT:Value} {Ou:List Raw} (h:Q5 M bb F w wx xb eb dv down y nv rs t) (hB:Bd M wy bb VT Ou t2)
  (hS:nE (dE bb nv rs) (dE bb VT Ou) wx wy):Q5 M bb F w wy xb eb dv down y VT Ou t2:=by
 obtain⟨o1,o2⟩:=Di h.own hS h.off
 obtain⟨a0,a1,a2,a3,a4,hb⟩:=h.box
 obtain⟨x1,x2⟩:=hS.stay (eP.1 hb).1 h.gL
 obtain⟨e1,e2⟩:=hS.stay (eP.1 h.Vt).1 h.aH
 exact⟨hB,h.ZV.trans hS,o1,o2,⟨a0,a1,a2,a3,a4,x1.trans hb⟩,x2,h.dx,e1.trans h.Vt,e2⟩
theorem Q5.below {down:List aA} (h:Q5 M bb F w wx xb eb dv down y nv rs t) (hb:ah wx wy) :
  Q5 M bb F w wy xb eb dv down y nv rs t:=h.step (h.bd.below hb aI) (nE.of hb aI)
theorem Q5.r4 {down rest:List aA} {put:Tr->Int->aA->Option (Tr×Int×Int)} (h:Q5 M bb F w wx xb eb dv down y nv rs t)
  (hd:sP put n down rest t=some t'):R4 M bb F w wx xb dv put n down rest t':=by
 obtain⟨a0,a1,a2,a3,a4,hb⟩:=h.box
 exact⟨_,_,_,_,_,_,_,_,h.bd,h.ZV,h.own,h.off,hb,h.gL,h.dx,hd⟩
theorem Bd.insert {W5:World} {nb cap vb:Nat} {key:Int} {x':Nd} {es:List Int} (h:Bd M w bb (.slice (some ⟨nb,0,none⟩) rs.length cap) rs t) (hr:rs[j]?=some r) (hx:t.nodes[j]?=some x) (hf:f=1\/f=2)
  (hes:bw M w (r.lR f) es) (hi:i<=es.length) (hlen:es.length<=100000) (h5:ah w W5) (hvb:W5.heap[vb]?=some (.cells #[.int .i64 key] 3)) (hvl:w.heap.size<=vb)
  (hl:x'.leaf=x.leaf) (ho:∀g,g≠f->x'.fN g=x.fN g/\x'.fC g=x.fC g) (hN:x'.fN f=(es.take i++key::es.drop i).length) (hC:x'.fC f=(es.take i++key::es.drop i).flatMap bW) (hoff:o=j*5+(f+1)) :
  Calls Tryz.prog 127 #[r.lR f, .int .i64 i, .slice (some ⟨vb,0,none⟩) 1 1] W5 fun e w'=>∃so n sc,e = .returned (.slice so n sc)/\aw (fun b=>(r.lR f).ownBlock=some b) w w' /\
   Bd M (w'.setCell ⟨nb,o,none⟩ (.slice so n sc)) bb (.slice (some ⟨nb,0,none⟩) rs.length cap) (rs.set j (r.sw f (.slice so n sc))) (cJ t j x') /\
   nE (dE bb (.slice (some ⟨nb,0,none⟩) rs.length cap) rs) (dE bb (.slice (some ⟨nb,0,none⟩) rs.length cap) (rs.set j (r.sw f (.slice so n sc)))) w (w'.setCell ⟨nb,o,none⟩ (.slice so n sc)):=by
 have qB:=(h.lt bb (.inl rfl)).1
 have hbl:=(h.lt bb (.inl rfl)).2
 have hs5:=h5.size
 have he5:=hes.below h5 aI
 refine(DN (x:=key) he5 hi af hlen hvb (fun e=>by have:=(hes.lt vb e).2;omega)).mono ?_
 rintro e w' ⟨v',rfl,hown,hg,hv⟩
 obtain⟨so,sc,rfl⟩:=hown.isSlice
 have hT:aw (fun b=>(r.lR f).ownBlock=some b) w w':=(aw.of h5 aI).trans ⟨hg.os,hg.tape,hg.output,hg.size,fun b hb hne=>hg.block b hb fun e=>hne e.symm⟩
 obtain⟨q1,q2⟩:=h.field (f:=f) rfl hr hx af hT (v':= .slice so (es.take i++key::es.drop i).length sc) (x':=x') (by
   have:=hown.row
   rw [hN,hC]
   rcases hf with rfl|rfl <;> exact this) (fun b hb=>by
   rcases hv with e|e
   ·exact .inl (e▸hb)
   ·rw [e]at hb;injection hb with hb;exact .inr af) hl ho hoff
 exact⟨so,_,sc,rfl,hT,q1,q2⟩
end
section
set_option maxRecDepth 100000
set_option maxHeartbeats 4000000
variable {e:aA} {n:Int} {L:List aA} {rs:List Raw} {M bb f o b:Nat} {x:Nd} {t t':Tr} {nv:Value} {w:World}
theorem Bd.merge {W5:World} {nb cap j:Nat} {r:Raw} {x':Nd} {es:List aA} (h:Bd M w bb (.slice (some ⟨nb,0,none⟩) rs.length cap) rs t) (hr:rs[j]?=some r) (hx:t.nodes[j]?=some x) (hf:f=0\/f=3)
  (hes:au M w (r.lR f) es) (hrow:vp es) (hent:jX e) (hins:jJ es e=some L) (h5:ah w W5)
  (hl:x'.leaf=x.leaf) (ho:∀g,g≠f->x'.fN g=x.fN g/\x'.fC g=x.fC g) (hN:x'.fN f=L.length) (hC:x'.fC f=L.flatMap bh) (hoff:o=j*5+(f+1)) :
  Calls Tryz.prog 111 #[r.lR f, .agg #[.int .i64 e.key, .int .i64 e.is.c, .int .i64 e.is.s, .int .i64 e.is.mi, .int .i64 e.is.ma, .int .i64 e.is.t, .int .i64 e.is.l]] W5 fun y w'=>∃so sc,y = .returned (.tuple #[.slice so L.length sc, .int .i64 0])/\aw (fun b=>(r.lR f).ownBlock=some b) w w' /\
   Bd M (w'.setCell ⟨nb,o,none⟩ (.slice so L.length sc)) bb (.slice (some ⟨nb,0,none⟩) rs.length cap) (rs.set j (r.sw f (.slice so L.length sc))) (cJ t j x') /\
   nE (dE bb (.slice (some ⟨nb,0,none⟩) rs.length cap) rs) (dE bb (.slice (some ⟨nb,0,none⟩) rs.length cap) (rs.set j (r.sw f (.slice so L.length sc)))) w (w'.setCell ⟨nb,o,none⟩ (.slice so L.length sc)):=by
 have qB:=(h.lt bb (.inl rfl)).1
 have hbl:=(h.lt bb (.inl rfl)).2
 have hs5:=h5.size
 have hm:=tD (w:=W5) (x:=e) (hes.below h5 aI) af (by have:=hrow.2.2.2;omega) hrow.1 (fun e he=>(hrow.2.1 e he).2) hent.2.1 hrow.2.2.1 hent.2.2
 rw [hins]at hm
 refine hm.mono ?_
 rintro y w' ⟨ht,v',rfl,hown,hv⟩
 obtain⟨so,sc,rfl⟩:=hown.isSlice
 have hT:aw (fun b=>(r.lR f).ownBlock=some b) w w':=(aw.of h5 aI).trans ht
 obtain⟨q1,q2⟩:=h.field (f:=f) rfl hr hx af hT (v':= .slice so L.length sc) (x':=x') (by
   have:=hown.row
   rw [hN,hC]
   rcases hf with rfl|rfl <;> exact this) (fun b hb=>by
   rcases hv b hb with e|e
   ·exact .inl e
   ·exact .inr af) hl ho hoff
 exact⟨so,sc,rfl,hT,q1,q2⟩
theorem Bj {l:List aA} (h:xM l e=some L):vp l/\jX e/\jJ l e=some L:=by
 unfold xM at h
 split at h
 ·rename_i hg;exact⟨hg.1,hg.2,h⟩
 ·cases h
theorem Jw {more key:Int} (h:qU (f+1) t n e=some (t',more,key)):∃x,t.dm n=some x /\
  ((x.leaf=true/\∃L,xM x.aF e=some L/\gW (cJ t n { x with aF:=L }) n=some (t',more,key)) \/
  (x.leaf=false/\∃L,xM x.buf e=some L/\((L.length<=8/\gW (cJ t n { x with buf:=L }) n=some (t',more,key)) \/
    (¬L.length<=8/\∃t2,ou (qU f) (cJ t n { x with buf:=L }) n=some t2/\gW t2 n=some (t',more,key))))):=by
 unfold qU at h
 split at h
 ·cases h
 rename_i x hx
 refine⟨x,hx,?_⟩
 split at h
 ·rename_i hl
  split at h
  ·cases h
  rename_i L hL
  exact .inl ⟨hl,L,hL,h⟩
 ·rename_i hl
  split at h
  ·cases h
  rename_i L hL
  refine .inr ⟨by simpa using hl,L,hL,?_⟩
  split at h
  ·rename_i h8;exact .inl ⟨h8,h⟩
  ·rename_i h8
   split at h
   ·cases h
   rename_i t2 ht2
   exact .inr ⟨h8,t2,ht2,h⟩
theorem jU {o':Nat} {v u:Value} (h:o≠o') (hq:w.cell? ⟨b,o',none⟩=some u):(w.setCell ⟨b,o,none⟩ v).cell? ⟨b,o',none⟩=some u:=by
 unfold World.cell? at hq ⊢
 simp only at hq ⊢
 split at hq
 ·rename_i c e fr hb
  rw [heap_setCell_same hb]
  simp only [Option.isSome_none]at hq ⊢
  rw [ai bt]at hq ⊢
  rw [Array.getElem?_setIfInBounds_ne h];exact hq
 ·cases hq
theorem kF {v u:Value} (hq:w.cell? ⟨b,o,none⟩=some u):(w.setCell ⟨b,o,none⟩ v).cell? ⟨b,o,none⟩=some v:=by
 unfold World.cell? at hq ⊢
 simp only at hq ⊢
 split at hq
 ·rename_i c e fr hb
  rw [heap_setCell_same hb]
  simp only [Option.isSome_none]at hq ⊢
  rw [ai bt]at hq ⊢
  have:=(eP.1 hq).1
  simp [this]
 ·cases hq
theorem PC (x:Nd) (B:List aA):∀g,g≠0->Nd.fN { x with aF:=B } g=x.fN g/\Nd.fC { x with aF:=B } g=x.fC g:=fun g hg=>by
 rcases lH g 4 with h4|h4
 ·rcases vA h4 with rfl|rfl|rfl|rfl <;> first|exact⟨rfl,rfl⟩|exact absurd rfl hg
 ·obtain⟨k,rfl⟩:∃k,g=k+4:=⟨g-4,af⟩;exact⟨rfl,rfl⟩
def Ii (f:Nat):Prop:=∀{M:Nat} {w:World} {bb:Nat} {nv:Value} {rs:List Raw} {t t':Tr} {n:Int},Bd M w bb nv rs t->ou (qU f) t n=some t' ->
  Calls Tryz.prog 120 #[.pointer (some ⟨bb,0,none⟩), .int .i64 n] w fun e w'=>e = .returned (.tuple #[])/\kM M bb (dE bb nv rs) w t' w'
theorem LC {more key:Int} (h:Bd M w bb nv rs t) (hx:t.dm n=some x) (OA:x.leaf=true) (hins:xM x.aF e=some L)
  (hF:gW (cJ t n { x with aF:=L }) n=some (t',more,key)) :
  Calls Tryz.prog 109 #[.pointer (some ⟨bb,0,none⟩), .int .i64 n, .agg #[.int .i64 e.key, .int .i64 e.is.c, .int .i64 e.is.s, .int .i64 e.is.mi, .int .i64 e.is.ma, .int .i64 e.is.t, .int .i64 e.is.l]] w
  fun y w'=>y = .returned (.tuple #[.int .i64 more, .int .i64 key])/\kM M bb (dE bb nv rs) w t' w':=by
 obtain⟨hrow,hent,hins⟩:=Bj hins
 obtain⟨j,nb,cap,r,rfl,rfl,kP,sx,hjl,hown⟩:=h.place hx
 have hvl:=hown.leaf
 rw [OA]at hvl
 obtain⟨so,sc,hev⟩:=hown.aF.isSlice
 obtain⟨W1,hW1⟩:=bR (w.alloc (.cells #[.int .i64 e.key, .int .i64 e.is.c, .int .i64 e.is.s, .int .i64 e.is.mi, .int .i64 e.is.ma, .int .i64 e.is.t, .int .i64 e.is.l] 107))
 have hb1:ah w W1:=by rw [hW1];exact ag
 have hz1:W1.heap.size=w.heap.size+1:=by rw [hW1];simp
 have k1:W1.heap[w.heap.size]?=some (.cells #[.int .i64 e.key, .int .i64 e.is.c, .int .i64 e.is.s, .int .i64 e.is.mi, .int .i64 e.is.ma, .int .i64 e.is.t, .int .i64 e.is.l] 107):=by rw [hW1];exact aq _ _ rfl
 have h1:=h.below hb1 aI
 obtain⟨c0,l0,e1,e2,e3,e4,wG,Fe,hbl,hnl,vC⟩:=h1.cells kP
 rw [hvl]at l0
 have cR:=e1
 rw [hev]at cR
 have HCF:=hdd wG
 have hen:w.heap.size≠nb:=fun e=>by have:=(h.lt nb (.inr (.inl rfl))).2;omega
 have iw:=fun w'=>dR (ab:=nb) (bp:=0) (n:=rs.length) (cap:=cap) (show (j:Int)=((j:Nat):Int) by rfl) hjl w'
 simp only [iX]at iw
 have HM:=hdd fun(W5:World) (h5:ah W1 W5)=>h1.merge (j:=j) (f:=0) (x':={ x with aF:=L }) kP sx (.inl rfl) (h1.Ca j r x kP sx).aF hrow hent hins h5 rfl (PC x L) rfl rfl (o:=j*5+1) rfl
 have N5:=hdd (aO hb1 (aO h1 (aO kP sx)))
 have H8:=hdd k1
 have HEV:=hdd hev
 have UF:=hdd (show (Value.slice so x.aF.length sc).ownBlock≠some nb from fun hh=>(h1.off j r 0 nb kP (by show r.ev.ownBlock=_;rw [hev];exact hh)).2 rfl)
 have RO:=hdd (show (Value.slice so x.aF.length sc).ownBlock≠some w.heap.size from fun hh=>by have:=(h.lt w.heap.size (.inr (.inr ⟨j,r,0,kP,by show r.ev.ownBlock=_;rw [hev];exact hh⟩))).2;omega)
 have HFL:=hdd hF
 clear h h1 hx hins hrow hent kP sx hown hb1 e1 e2 e3 e4 Fe hvl OA k1 hev hF wG
 go_enter Tryz.func109,Tryz.ntmps109
 go_upto_region 1 with (fail)
 rw [<-hW1]
 clear hW1
 go_upto_region 5 with (fail)
 have KV:∀(W:World),W.heap[w.heap.size]?=W1.heap[w.heap.size]?->(W.cell? ⟨w.heap.size,0,none⟩=some (.int .i64 e.key)/\W.cell? ⟨w.heap.size,1,none⟩=some (.int .i64 e.is.c)/\W.cell? ⟨w.heap.size,2,none⟩=some (.int .i64 e.is.s)/\W.cell? ⟨w.heap.size,3,none⟩=some (.int .i64 e.is.mi)/\W.cell? ⟨w.heap.size,4,none⟩=some (.int .i64 e.is.ma)/\W.cell? ⟨w.heap.size,5,none⟩=some (.int .i64 e.is.t)/\W.cell? ⟨w.heap.size,6,none⟩=some (.int .i64 e.is.l)):=fun W hW=>by
  have:=hW.trans H8.out
  simp [World.cell?,this]
 have Xw:=KV W1.drew rfl
 clear KV
 refine bH [(0,1),(1,1),(2,0),(3,0),(4,3),(5,1),(6,1),(7,1),(8,1),(9,1)] 4
  (fun W=>W.cell? ⟨nb,j*5+1,none⟩=some (.slice so x.aF.length sc)/\W.cell? ⟨w.heap.size,0,none⟩=some (.int .i64 e.key)/\W.cell? ⟨w.heap.size,1,none⟩=some (.int .i64 e.is.c)/\W.cell? ⟨w.heap.size,2,none⟩=some (.int .i64 e.is.s)/\W.cell? ⟨w.heap.size,3,none⟩=some (.int .i64 e.is.mi)/\W.cell? ⟨w.heap.size,4,none⟩=some (.int .i64 e.is.ma)/\W.cell? ⟨w.heap.size,5,none⟩=some (.int .i64 e.is.t)/\W.cell? ⟨w.heap.size,6,none⟩=some (.int .i64 e.is.l)) cv cv ⟨cR,Xw⟩ ?_
 clear Xw
 (simp only [bF,List.filterMap_cons,List.filterMap_nil,List.getElem?_cons_zero,List.getElem?_cons_succ,Option.map_some])
 (repeat first|refine aV ?_|refine aU ?_)
 refine bn rfl (fun K hK=>?_)
 go_simp
 have Oe:=HM.out W1.drew (aL _ _).drew
 rw [show r.lR 0 = .slice so x.aF.length sc from HEV.out]at Oe
 (with_reducible refine Oe.mono ?_);rintro y w5 ⟨s5,c5,rfl,qo,XL,Xv⟩
 clear Oe
 go_simp
 refine hK _ _ ?_
 clear hK K
 (repeat first|refine aV ?_|refine aU ?_)
 refine cj ?_
 have q4:w5.cell? ⟨nb,j*5+1,none⟩=some (.slice so x.aF.length sc):=(qo.cell hnl UF.out _).trans cR
 have qf:w5.frozen? ⟨nb,j*5+1,none⟩=false:=(qo.frozen hnl UF.out _).trans (HCF.out _)
 have q0:w5.cell? ⟨nb,j*5,none⟩=some (.bool true):=(qo.cell hnl UF.out _).trans l0
 have Ib:=hdd (aO XL Xv)
 clear qo XL Xv cR l0 c0
 go_upto_region 10 with (fail)
 obtain⟨W6,tX⟩:=bR (w5.setCell ⟨nb,j*5+1,none⟩ (.slice s5 L.length c5))
 have l6:W6.cell? ⟨nb,j*5,none⟩=some (.bool true):=by
  rw [tX];exact jU af q0
 have HC:=hdd (vJ (tX▸Ib.out.1) HFL.out)
 have Zq:=hdd (tX▸Ib.out.2)
 rw [<-tX]
 clear tX q4 qf q0
 go_wp2_with (go_at_call 119;(with_reducible refine HC.out.mono ?_);rintro y w7 ⟨rfl,Wx⟩)
 go_ret2
 obtain⟨kU,fQ,p1,p2⟩:=Wx
 exact⟨rfl,kU,fQ,p1,((nE.of N5.out.1 aI).trans Zq.out).trans p2⟩
theorem Jv (GJ:Ii f) {more key:Int} (h:Bd M w bb nv rs t) (hx:t.dm n=some x) (OA:x.leaf=false) (hins:xM x.buf e=some L)
  (hF:(L.length<=8/\gW (cJ t n { x with buf:=L }) n=some (t',more,key))\/(¬L.length<=8/\∃t2,ou (qU f) (cJ t n { x with buf:=L }) n=some t2/\gW t2 n=some (t',more,key))) :
  Calls Tryz.prog 109 #[.pointer (some ⟨bb,0,none⟩), .int .i64 n, .agg #[.int .i64 e.key, .int .i64 e.is.c, .int .i64 e.is.s, .int .i64 e.is.mi, .int .i64 e.is.ma, .int .i64 e.is.t, .int .i64 e.is.l]] w
  fun y w'=>y = .returned (.tuple #[.int .i64 more, .int .i64 key])/\kM M bb (dE bb nv rs) w t' w':=by
 obtain⟨hrow,hent,hins⟩:=Bj hins
 obtain⟨j,nb,cap,r,rfl,rfl,kP,sx,hjl,hown⟩:=h.place hx
 have hvl:=hown.leaf
 rw [OA]at hvl
 obtain⟨so,sc,hev⟩:=hown.buf.isSlice
 obtain⟨W1,hW1⟩:=bR (w.alloc (.cells #[.int .i64 e.key, .int .i64 e.is.c, .int .i64 e.is.s, .int .i64 e.is.mi, .int .i64 e.is.ma, .int .i64 e.is.t, .int .i64 e.is.l] 107))
 have hb1:ah w W1:=by rw [hW1];exact ag
 have hz1:W1.heap.size=w.heap.size+1:=by rw [hW1];simp
 have k1:W1.heap[w.heap.size]?=some (.cells #[.int .i64 e.key, .int .i64 e.is.c, .int .i64 e.is.s, .int .i64 e.is.mi, .int .i64 e.is.ma, .int .i64 e.is.t, .int .i64 e.is.l] 107):=by rw [hW1];exact aq _ _ rfl
 have h1:=h.below hb1 aI
 obtain⟨c0,l0,e1,e2,e3,e4,wG,Fe,hbl,hnl,vC⟩:=h1.cells kP
 rw [hvl]at l0
 have cR:=e4
 rw [hev]at cR
 have HCF:=hdd wG
 have hen:w.heap.size≠nb:=fun e=>by have:=(h.lt nb (.inr (.inl rfl))).2;omega
 have iw:=fun w'=>dR (ab:=nb) (bp:=0) (n:=rs.length) (cap:=cap) (show (j:Int)=((j:Nat):Int) by rfl) hjl w'
 simp only [iX]at iw
 have HM:=hdd fun(W5:World) (h5:ah W1 W5)=>h1.merge (j:=j) (f:=3) (x':={ x with buf:=L }) kP sx (.inr rfl) (h1.Ca j r x kP sx).buf hrow hent hins h5 rfl (IC x L) rfl rfl (o:=j*5+4) rfl
 have N5:=hdd (aO hb1 (aO h1 (aO kP sx)))
 have H8:=hdd k1
 have HEV:=hdd hev
 have UF:=hdd (show (Value.slice so x.buf.length sc).ownBlock≠some nb from fun hh=>(h1.off j r 3 nb kP (by show r.bv.ownBlock=_;rw [hev];exact hh)).2 rfl)
 have RO:=hdd (show (Value.slice so x.buf.length sc).ownBlock≠some w.heap.size from fun hh=>by have:=(h.lt w.heap.size (.inr (.inr ⟨j,r,3,kP,by show r.bv.ownBlock=_;rw [hev];exact hh⟩))).2;omega)
 have HFL:=hdd hF
 clear h h1 hx hins hrow hent kP sx hown hb1 e1 e2 e3 e4 Fe hvl OA k1 hev hF wG
 go_enter Tryz.func109,Tryz.ntmps109
 go_upto_region 1 with (fail)
 rw [<-hW1]
 clear hW1
 go_upto_region 5 with (fail)
 have KV:∀(W:World),W.heap[w.heap.size]?=W1.heap[w.heap.size]?->(W.cell? ⟨w.heap.size,0,none⟩=some (.int .i64 e.key)/\W.cell? ⟨w.heap.size,1,none⟩=some (.int .i64 e.is.c)/\W.cell? ⟨w.heap.size,2,none⟩=some (.int .i64 e.is.s)/\W.cell? ⟨w.heap.size,3,none⟩=some (.int .i64 e.is.mi)/\W.cell? ⟨w.heap.size,4,none⟩=some (.int .i64 e.is.ma)/\W.cell? ⟨w.heap.size,5,none⟩=some (.int .i64 e.is.t)/\W.cell? ⟨w.heap.size,6,none⟩=some (.int .i64 e.is.l)):=fun W hW=>by
  have:=hW.trans H8.out
  simp [World.cell?,this]
 have Xw:=KV W1.drew rfl
 clear KV
 refine bH [(0,1),(1,1),(2,0),(3,0),(4,3),(5,1),(6,1),(7,1),(8,1),(9,1)] 4
  (fun W=>W.cell? ⟨nb,j*5+4,none⟩=some (.slice so x.buf.length sc)/\W.cell? ⟨w.heap.size,0,none⟩=some (.int .i64 e.key)/\W.cell? ⟨w.heap.size,1,none⟩=some (.int .i64 e.is.c)/\W.cell? ⟨w.heap.size,2,none⟩=some (.int .i64 e.is.s)/\W.cell? ⟨w.heap.size,3,none⟩=some (.int .i64 e.is.mi)/\W.cell? ⟨w.heap.size,4,none⟩=some (.int .i64 e.is.ma)/\W.cell? ⟨w.heap.size,5,none⟩=some (.int .i64 e.is.t)/\W.cell? ⟨w.heap.size,6,none⟩=some (.int .i64 e.is.l)) cv cv ⟨cR,Xw⟩ ?_
 clear Xw
 (simp only [bF,List.filterMap_cons,List.filterMap_nil,List.getElem?_cons_zero,List.getElem?_cons_succ,Option.map_some])
 (repeat first|refine aV ?_|refine aU ?_)
 refine bn rfl (fun K hK=>?_)
 go_simp
 have Oe:=HM.out W1.drew (aL _ _).drew
 rw [show r.lR 3 = .slice so x.buf.length sc from HEV.out]at Oe
 (with_reducible refine Oe.mono ?_);rintro y w5 ⟨s5,c5,rfl,qo,XL,Xv⟩
 clear Oe
 go_simp
 refine hK _ _ ?_
 clear hK K
 (repeat first|refine aV ?_|refine aU ?_)
 refine cj ?_
 have q4:w5.cell? ⟨nb,j*5+4,none⟩=some (.slice so x.buf.length sc):=(qo.cell hnl UF.out _).trans cR
 have qf:w5.frozen? ⟨nb,j*5+4,none⟩=false:=(qo.frozen hnl UF.out _).trans (HCF.out _)
 have q0:w5.cell? ⟨nb,j*5,none⟩=some (.bool false):=(qo.cell hnl UF.out _).trans l0
 have Ib:=hdd (aO XL Xv)
 clear qo XL Xv cR l0 c0
 go_upto_region 10 with (fail)
 obtain⟨W6,tX⟩:=bR (w5.setCell ⟨nb,j*5+4,none⟩ (.slice s5 L.length c5))
 have l6:W6.cell? ⟨nb,j*5,none⟩=some (.bool false):=by
  rw [tX];exact jU af q0
 have b6:W6.cell? ⟨nb,j*5+4,none⟩=some (.slice s5 L.length c5):=by rw [tX];exact kF q4
 have tS:=hdd (tX▸Ib.out.1)
 have Zq:=hdd (tX▸Ib.out.2)
 rw [<-tX]
 clear tX q4 qf q0
 rcases HFL.out with ⟨h8,hF⟩|⟨h8,t2,hF1,hF2⟩
 ·have HC:=hdd (vJ tS.out hF)
  go_wp2_with (go_at_call 119;(with_reducible refine HC.out.mono ?_);rintro y w7 ⟨rfl,Wx⟩)
  go_ret2
  obtain⟨kU,fQ,p1,p2⟩:=Wx
  exact⟨rfl,kU,fQ,p1,((nE.of N5.out.1 aI).trans Zq.out).trans p2⟩
 ·have HC:=hdd (GJ tS.out hF1)
  go_wp2_with (first
   |(go_at_call 120;(with_reducible refine HC.out.mono ?_);rintro y w7 ⟨rfl,Wx⟩;obtain⟨nv7,U0,p1,p2⟩:=Wx;have OW:=hdd (aO p1 p2);clear p1 p2)
   |(go_at_call 119;(with_reducible refine(vJ OW.out.1 hF2).mono ?_);rintro y w8 ⟨rfl,hp8⟩))
  go_ret2
  obtain⟨kU,fQ,p1,p2⟩:=hp8
  exact⟨rfl,kU,fQ,p1,(((nE.of N5.out.1 aI).trans Zq.out).trans OW.out.2).trans p2⟩
theorem LB (GJ:Ii f):Qw (f+1):=fun h hF=>by
 obtain⟨x,hx,⟨hl,L,hL,hs⟩|⟨hl,L,hL,hs⟩⟩:=Jw hF
 ·exact LC h hx hl hL hs
 ·exact Jv GJ h hx hl hL hs
end
section
set_option maxRecDepth 100000
set_option maxHeartbeats 6000000
theorem J8 {f:Nat} (hput:Qw f) {M:Nat} {w:World} {bb:Nat} {nv:Value} {rs:List Raw} {t t':Tr} {n:Int} (h:Bd M w bb nv rs t) (hF:ou (qU f) t n=some t') :
  Calls Tryz.prog 120 #[.pointer (some ⟨bb,0,none⟩), .int .i64 n] w fun e w'=>e = .returned (.tuple #[])/\kM M bb (dE bb nv rs) w t' w':=by
 obtain⟨x,hx,hks,hkl,adK,IQ,hF⟩:=Ej hF
 obtain⟨ow,M4⟩:=bC (iV (iQ x) 4)
 rw [M4]at hF
 obtain⟨j,nb,cap,r,rfl,rfl,kP,sx,hjl,hown⟩:=h.place hx
 obtain⟨c0,k0,k1,k2,k3,k4,wG,Fe,hbl,hnl,vC⟩:=h.cells kP
 obtain⟨es,ec,hev⟩:=hown.aF.isSlice
 obtain⟨ks,kc,yh⟩:=hown.keys.isSlice
 obtain⟨ds,dc,Bl⟩:=hown.kids.isSlice
 obtain⟨bs,bc,r9⟩:=hown.buf.isSlice
 have hok:=hown.keys
 have oI:=hown.buf
 rw [yh]at hok
 rw [r9]at oI
 rw [hev]at k1
 rw [yh]at k2
 rw [Bl]at k3
 rw [r9]at k4
 have hM:M<=w.heap.size:=by have:=(h.lt bb (.inl rfl)).1;omega
 have iw:=fun w'=>dR (ab:=nb) (bp:=0) (n:=rs.length) (cap:=cap) (show (j:Int)=((j:Nat):Int) by rfl) hjl w'
 simp only [iX]at iw
 obtain⟨W1,hW1⟩:=bR (w.alloc (.cells #[.bool r.leaf, .slice es x.aF.length ec, .slice ks x.keys.length kc, .slice ds x.kids.length dc, .slice bs x.buf.length bc] 125))
 obtain⟨W2,hW2⟩:=bR (W1.alloc (.cells #[.int .i64 0, .int .i64 0, .int .i64 0, .int .i64 0] 189))
 have hz1:W1.heap.size=w.heap.size+1:=by rw [hW1];simp
 have hz2:W2.heap.size=w.heap.size+2:=by rw [hW2];simp [hz1]
 have hb1:ah w W1:=by rw [hW1];exact ag
 have hb2:ah w W2:=hb1.trans (by rw [hW2];exact(aL _ _).alloc af _)
 have kx:W2.heap[w.heap.size]?=some (.cells #[.bool r.leaf, .slice es x.aF.length ec, .slice ks x.keys.length kc, .slice ds x.kids.length dc, .slice bs x.buf.length bc] 125):=by
  rw [hW2]
  refine((aL W1.heap.size W1).alloc aI _).block _ af |>.trans ?_
  rw [hW1];exact aq _ _ rfl
 have ka:W2.heap[w.heap.size+1]?=some (.cells #[.int .i64 0, .int .i64 0, .int .i64 0, .int .i64 0] 189):=by rw [<-hz1,hW2];exact aq _ _ rfl
 have Fm:=hdd (aO h (aO kP (aO sx (aO hown (aO hF M4)))))
 have vr:=hdd (aO r9 (aO yh (aO Bl hev)))
 clear h kP sx hown hF M4 r9 yh Bl hev hx
 go_enter Tryz.func120,Tryz.ntmps120
 go_upto_region 2 with (fail)
 rw [<-hW1,<-hW2]
 clear hW1 hW2 c0 k0 k1 k2 k3 k4 wG Fe iw
 have hX4:W2.cell? ⟨w.heap.size,4,none⟩=some (.slice bs x.buf.length bc):=by simp [World.cell?,kx]
 have mq:=hdd hb2
 have Yk:=hdd kx
 have HKA:=hdd ka
 have Vw:=hdd (aO hok oI)
 have CT:=hdd (aO hks hkl)
 clear hb1 hb2 kx ka hok oI hks hkl
 go_wp2_with fail
 clear hX4
 go_loopg [31] x.buf.length (fun g i wr=>∃k:Nat,k<=x.buf.length/\g=x.buf.length-k/\i = .int .i64 k/\Hid (ah w wr/\w.heap.size+2<=wr.heap.size/\wr.heap[w.heap.size]?=some (.cells #[.bool r.leaf, .slice es x.aF.length ec, .slice ks x.keys.length kc, .slice ds x.kids.length dc, .slice bs x.buf.length bc] 125)/\wr.heap[w.heap.size+1]?=some (.cells (E8 x k) 189)))
 case atStart=>exact⟨0,jf _,rfl,rfl,hdd ⟨mq.out,af,Yk.out,HKA.out⟩⟩
 case round=>
  clear mq Yk HKA
  obtain⟨k,hk,rfl,rfl,HR⟩:=hrel
  by_cases jK:k<x.buf.length
  ·obtain⟨dh,U4,kx,ka⟩:=HR.out
   obtain⟨hok,oI⟩:=Vw.out
   obtain⟨hks,hkl⟩:=CT.out
   obtain⟨_,_,hv,-,-,-,-,h5⟩:=oI.at af
   injection hv with hv1 _ hv3
   subst hv3
   obtain⟨eb,aH,lQ,r8,nD⟩:=h5 af
   subst lQ
   subst hv1
   obtain⟨y0,y1,y2,y3,y4,y5,y6⟩:=bT dh r8 nD jK
   have hcs:=fun i=>Ny jK i
   obtain⟨y,hy⟩:=bC (x.buf[k])
   rw [hy]at y0 y1 y2 y3 y4 y5 y6 hcs
   have MJ:aZ x.keys y.key<=3:=by have:=qX x.keys y.key;omega
   have xS:=hdd fun(W:World) (hW:ah w W)=>xY (lf:=r.leaf) (ev:= .slice es x.aF.length ec) (dv:= .slice ds x.kids.length dc) (bv:= .slice (some ⟨eb,aH,none⟩) x.buf.length bc) (x:=y.key) ((hok.at af).below hW aI) hks
   obtain⟨i,hi⟩:=bC (aZ x.keys y.key)
   rw [hi]at hcs MJ xS
   have ZJ:=hdd hcs
   obtain⟨W8,mO⟩:=bR (wr.alloc (.cells #[.int .i64 y.key, .int .i64 y.is.c, .int .i64 y.is.s, .int .i64 y.is.mi, .int .i64 y.is.ma, .int .i64 y.is.t, .int .i64 y.is.l] 107))
   have kQ:ah wr W8:=by rw [mO];exact ag
   have DW:W8.heap.size=wr.heap.size+1:=by rw [mO];simp
   have k8:W8.heap[wr.heap.size]?=some (.cells #[.int .i64 y.key, .int .i64 y.is.c, .int .i64 y.is.s, .int .i64 y.is.mi, .int .i64 y.is.ma, .int .i64 y.is.t, .int .i64 y.is.l] 107):=by rw [mO];exact aq _ _ rfl
   have DC:=(kQ.block w.heap.size af).trans kx
   have V9:=(kQ.block (w.heap.size+1) af).trans ka
   have uJ:=Below.trans' dh kQ dh.size
   have lA:=fun w'=>dC (ab:=eb) (bp:=aH) (n:=x.buf.length) (cap:=bc) (show (k:Int)=((k:Nat):Int) by rfl) jK w'
   have s0:W8.cell? ⟨wr.heap.size,0,none⟩=some (.int .i64 y.key):=by simp [World.cell?,k8]
   have x0:W8.cell? ⟨w.heap.size,0,none⟩=some (.bool r.leaf):=by simp [World.cell?,DC]
   have x1:W8.cell? ⟨w.heap.size,1,none⟩=some (.slice es x.aF.length ec):=by simp [World.cell?,DC]
   have x2:W8.cell? ⟨w.heap.size,2,none⟩=some (.slice ks x.keys.length kc):=by simp [World.cell?,DC]
   have x3:W8.cell? ⟨w.heap.size,3,none⟩=some (.slice ds x.kids.length dc):=by simp [World.cell?,DC]
   have x4:W8.cell? ⟨w.heap.size,4,none⟩=some (.slice (some ⟨eb,aH,none⟩) x.buf.length bc):=by simp [World.cell?,DC]
   have fc:=hdd (aO uJ (aO DC V9))
   clear dh kx ka hok oI hks hkl h5 nD hy hi hcs k8 DC V9 HR
   go_upto_region 5 with (fail)
   rw [<-mO]
   clear mO kQ y0 y1 y2 y3 y4 y5 y6 lA uJ
   have aaf:w.heap.size≠w.heap.size+1:=af
   go_wp2_with ((go_at_call 118;(with_reducible refine(xS.out _ fc.out.1).mono ?_);rintro e w9 ⟨rfl,pR⟩;obtain⟨uJ,DC,V9⟩:=fc.out;have aas:=uJ.size;have JK:=(pR.block w.heap.size af).trans DC;have U2:=(pR.block (w.heap.size+1) af).trans V9;have M0:=Below.trans' uJ pR uJ.size;have SC:w.heap.size+2<=w9.heap.size:=(by have:=pR.size;omega);have hfz:∀o,w9.frozen? ⟨w.heap.size+1,o,none⟩=false:=(fun o=>by simp [World.frozen?,U2,E8]);obtain⟨ci,Xe⟩:=bC (cnt x k i);have hcl:ci<=20:=(by have:=Uh x k i;omega);have hai:w9.cell? ⟨w.heap.size+1,i,none⟩=some (.int .i64 (ci:Int)):=(by rw [<-Xe];rcases PD MJ with rfl|rfl|rfl|rfl <;> simp [World.cell?,U2,E8]);have O4:=hdd (aO Xe (aO JK (aO U2 (aO M0 SC))));clear Xe JK U2 M0 SC uJ DC V9 aas pR))
   go_roundg (x.buf.length-(k+1))
   case measure=>omega
   case rel=>
    obtain⟨Xe,JK,U2,M0,SC⟩:=O4.out
    refine⟨k+1,af,rfl,by go_num,hdd ⟨?_,?_,?_,?_⟩⟩
    ·exact Below.setCell M0 (by show w.heap.size<=w.heap.size+1;omega) _
    ·simp;omega
    ·exact(heap_setCell_other _ ⟨_,_,none⟩ _ _ aaf).trans JK
    ·have hs:=J2 (v:= .int .i64 ((ci:Int)+1)) U2 MJ
     refine hs.trans ?_
     unfold E8
     rw [ZJ.out 0,ZJ.out 1,ZJ.out 2,ZJ.out 3]
     subst Xe
     rcases PD MJ with rfl|rfl|rfl|rfl <;> simp
  ·obtain rfl:k=x.buf.length:=af
   obtain⟨dh,U4,kx,ka⟩:=HR.out
   have a0:wr.cell? ⟨w.heap.size+1,0,none⟩=some (.int .i64 (iQ x 0:Nat)):=by rw [<-yr];simp [World.cell?,ka,E8]
   have a1:wr.cell? ⟨w.heap.size+1,1,none⟩=some (.int .i64 (iQ x 1:Nat)):=by rw [<-yr];simp [World.cell?,ka,E8]
   have a2:wr.cell? ⟨w.heap.size+1,2,none⟩=some (.int .i64 (iQ x 2:Nat)):=by rw [<-yr];simp [World.cell?,ka,E8]
   have a3:wr.cell? ⟨w.heap.size+1,3,none⟩=some (.int .i64 (iQ x 3:Nat)):=by rw [<-yr];simp [World.cell?,ka,E8]
   have HP:=hdd (aO dh (aO U4 kx))
   clear dh U4 kx ka HR hk
   have hab:∀b,b<=3->wr.cell? ⟨w.heap.size+1,b,none⟩=some (.int .i64 (iQ x b:Nat)):=fun b hb=>by rcases PD hb with rfl|rfl|rfl|rfl <;> assumption
   obtain⟨m,hm⟩:=bC (iQ x)
   rw [hm]at a0 a1 a2 a3 hab Fm
   have Om:=hdd hab
   clear hab
   go_wp2_with fail
   clear a0 a1 a2 a3
   go_loopg [45,8] 4 (fun g i b w2=>∃k:Nat,k<=4/\g=4-k/\i = .int .i64 k/\b = .int .i64 (iV m k:Nat)/\w2=wr)
   case atStart=>exact⟨0,af,rfl,rfl,rfl,rfl⟩
   case round=>
    obtain⟨k,hk,rfl,rfl,rfl,rfl⟩:=hrel
    by_cases WL:k<4
    ·have lA:=fun w'=>Mn (m:=m) WL w'
     have hb3:=EN m k hk
     have Mz:iV m (k+1)=if m (iV m k)<m k then k else iV m k:=rfl
     obtain⟨b,hb⟩:=bC (iV m k)
     rw [hb]at hb3 Mz ⊢
     have hab:=Om.out b hb3
     obtain⟨mk,hmk⟩:=bC (m k)
     obtain⟨mb,hmb⟩:=bC (m b)
     rw [hmk]at lA Mz
     rw [hmb]at hab Mz
     have HSB:=hdd Mz
     clear Mz hb hmk hmb
     by_cases i1:mb<mk
     ·go_wp2_with fail
      go_roundg (4-(k+1))
      case measure=>omega
      case rel=>exact⟨k+1,af,rfl,by go_num,by rw [HSB.out,ar i1],rfl⟩
     ·go_wp2_with fail
      go_roundg (4-(k+1))
      case measure=>omega
      case rel=>exact⟨k+1,af,rfl,by go_num,by rw [HSB.out,ai i1],rfl⟩
    ·obtain rfl:k=4:=af
     clear hk WL
     have hbb:iV m 4=ow:=Fm.out.2.2.2.2.2
     rw [hbb]
     obtain⟨Wa,M9⟩:=bR (wr)
     subst M9
     have hX4:Wa.cell? ⟨w.heap.size,4,none⟩=some (.slice bs x.buf.length bc):=by simp [World.cell?,HP.out.2.2]
     go_wp2_with fail
     clear hX4
     go_loopg [59,12,11] x.buf.length (fun g i dv sv w3=>∃k:Nat,k<=x.buf.length/\g=x.buf.length-k/\i = .int .i64 k/\Hid (R3 x ow Wa.heap.size Wa w3 k dv sv))
     case atStart=>exact⟨0,af,rfl,rfl,hdd ⟨aL _ _,au.nil _ _,au.nil _ _,fun b hb=>by cases hb⟩⟩
     case round=>
      obtain⟨k,hk,rfl,rfl,HR⟩:=hrel
      by_cases jK:k<x.buf.length
      ·obtain⟨dh,sN,hos,hap⟩:=HR.out
       obtain⟨hb0,U4,kx⟩:=HP.out
       have SE:=hb0.size
       have hsw:=dh.size
       obtain⟨hok,oI⟩:=Vw.out
       obtain⟨hks,hkl⟩:=CT.out
       obtain⟨_,_,hv,-,-,-,-,h5⟩:=oI.at af
       injection hv with hv1 _ hv3
       subst hv3
       obtain⟨eb,aH,lQ,r8,nD⟩:=h5 af
       subst lQ
       subst hv1
       have vZ:=Below.trans' hb0 dh SE
       have VZ:=(dh.block w.heap.size af).trans kx
       obtain⟨y0,y1,y2,y3,y4,y5,y6⟩:=bT vZ r8 nD jK
       have MJ:aZ x.keys x.buf[k].key<=3:=by have:=qX x.keys x.buf[k].key;omega
       have Rj:=fun(w9 mG:World) (v:Value) (hk:aZ x.keys x.buf[k].key=ow) (h9:ah wr w9)=>R3.down (mG:=mG) (v:=v) HR.out aI jK hk h9
       have Gv:=fun(w9 mG:World) (v:Value) (hk:¬aZ x.keys x.buf[k].key=ow) (h9:ah wr w9)=>R3.stay (mG:=mG) (v:=v) HR.out aI jK hk h9
       obtain⟨y,hy⟩:=bC (x.buf[k])
       rw [hy]at y0 y1 y2 y3 y4 y5 y6 MJ Rj Gv
       have xS:=hdd fun(W:World) (hW:ah w W)=>xY (lf:=r.leaf) (ev:= .slice es x.aF.length ec) (dv:= .slice ds x.kids.length dc) (bv:= .slice (some ⟨eb,aH,none⟩) x.buf.length bc) (x:=y.key) ((hok.at af).below hW aI) hks
       obtain⟨i,hi⟩:=bC (aZ x.keys y.key)
       rw [hi]at MJ xS Rj Gv
       obtain⟨LD,Rq⟩:=bC (((x.buf.take k).filter fun e=>decide (aZ x.keys e.key=ow)))
       obtain⟨LS,Rp⟩:=bC (((x.buf.take k).filter fun e=>!decide (aZ x.keys e.key=ow)))
       have XI:LD.length<=20:=by rw [<-Rq];exact im (tQ _ _) (by rw [fx];omega)
       have abP:LS.length<=20:=by rw [<-Rp];exact im (tQ _ _) (by rw [fx];omega)
       rw [Rq]at sN Rj
       rw [Rp]at hos Gv
       obtain⟨Zi,Rv,rfl⟩:=sN.isSlice
       obtain⟨YK,YL,rfl⟩:=hos.isSlice
       obtain⟨W8,mO⟩:=bR (wr.alloc (.cells #[.int .i64 y.key, .int .i64 y.is.c, .int .i64 y.is.s, .int .i64 y.is.mi, .int .i64 y.is.ma, .int .i64 y.is.t, .int .i64 y.is.l] 107))
       have kQ:ah wr W8:=by rw [mO];exact ag
       have DW:W8.heap.size=wr.heap.size+1:=by rw [mO];simp
       have k8:W8.heap[wr.heap.size]?=some (.cells #[.int .i64 y.key, .int .i64 y.is.c, .int .i64 y.is.s, .int .i64 y.is.mi, .int .i64 y.is.ma, .int .i64 y.is.t, .int .i64 y.is.l] 107):=by rw [mO];exact aq _ _ rfl
       have DC:=(kQ.block w.heap.size af).trans VZ
       have uJ:=Below.trans' vZ kQ vZ.size
       have lA:=fun w'=>dC (ab:=eb) (bp:=aH) (n:=x.buf.length) (cap:=bc) (show (k:Int)=((k:Nat):Int) by rfl) jK w'
       have s0:W8.cell? ⟨wr.heap.size,0,none⟩=some (.int .i64 y.key):=by simp [World.cell?,k8]
       have x0:W8.cell? ⟨w.heap.size,0,none⟩=some (.bool r.leaf):=by simp [World.cell?,DC]
       have x1:W8.cell? ⟨w.heap.size,1,none⟩=some (.slice es x.aF.length ec):=by simp [World.cell?,DC]
       have x2:W8.cell? ⟨w.heap.size,2,none⟩=some (.slice ks x.keys.length kc):=by simp [World.cell?,DC]
       have x3:W8.cell? ⟨w.heap.size,3,none⟩=some (.slice ds x.kids.length dc):=by simp [World.cell?,DC]
       have x4:W8.cell? ⟨w.heap.size,4,none⟩=some (.slice (some ⟨eb,aH,none⟩) x.buf.length bc):=by simp [World.cell?,DC]
       have Gy:=sN.below kQ aI
       have Gx:=hos.below kQ aI
       have fc:=hdd (aO uJ (aO k8 (aO kQ (aO Gy Gx))))
       have HST:=hdd (aO Rj (aO Gv hy))
       clear dh kx hok oI hks hkl h5 nD hy hi k8 DC HR Rj Gv sN hos Gy Gx hap Rq Rp vZ VZ hb0 r8
       go_upto_region 18 with (fail)
       rw [<-mO]
       clear mO kQ y0 y1 y2 y3 y4 y5 y6 lA uJ
       by_cases i1:i=ow
       ·go_wp2_with (first
         |(go_at_call 118;(with_reducible refine(xS.out _ fc.out.1).mono ?_);rintro e w9 ⟨rfl,pR⟩;obtain⟨uJ,k8,kQ,Gy,Gx⟩:=fc.out;have SV:=Gy.below pR aI;have PM:wr.heap.size+1<=w9.heap.size:=(by have:=pR.size;omega);have k9:=(pR.block wr.heap.size af).trans k8;obtain⟨y0,y1,y2,y3,y4,y5,y6⟩:=(show w9.cell? ⟨wr.heap.size,0,none⟩=some (.int .i64 y.key)/\w9.cell? ⟨wr.heap.size,1,none⟩=some (.int .i64 y.is.c)/\w9.cell? ⟨wr.heap.size,2,none⟩=some (.int .i64 y.is.s)/\w9.cell? ⟨wr.heap.size,3,none⟩=some (.int .i64 y.is.mi)/\w9.cell? ⟨wr.heap.size,4,none⟩=some (.int .i64 y.is.ma)/\w9.cell? ⟨wr.heap.size,5,none⟩=some (.int .i64 y.is.t)/\w9.cell? ⟨wr.heap.size,6,none⟩=some (.int .i64 y.is.l)from (by simp [World.cell?,k9]));have pA:=hdd (show ah wr w9 from Below.trans' kQ pR af);clear uJ k8 kQ Gy Gx pR k9)
         |(at_builtin;refine mY rfl (.tmp 69) (.tmp 71) rfl Wa.heap.size (.slice Zi LD.length Rv) LD rfl (by repeat (first|assumption|with_reducible refine au.alloc ?_ _|with_reducible refine au.drewN ?_ _|with_reducible refine au.drew ?_)) ⟨_,0,none⟩ y rfl (fun j u h=>mP h) af (by first|omega|(simp;done)|(simp;omega)|(simp [aN];done)|(simp [aN];omega)) ?_;intro v10 mG LU zu Sz))
        go_roundg (x.buf.length-(k+1))
        case measure=>omega
        case rel=>
         obtain⟨Rj,Gv,hy⟩:=HST.out
         exact⟨k+1,af,rfl,by go_num,hdd (Rj _ mG v10 i1 (pA.out.alloc af _) LU zu Sz)⟩
       ·go_wp2_with (first
         |(go_at_call 118;(with_reducible refine(xS.out _ fc.out.1).mono ?_);rintro e w9 ⟨rfl,pR⟩;obtain⟨uJ,k8,kQ,Gy,Gx⟩:=fc.out;have afX:=Gx.below pR aI;have PM:wr.heap.size+1<=w9.heap.size:=(by have:=pR.size;omega);have k9:=(pR.block wr.heap.size af).trans k8;obtain⟨y0,y1,y2,y3,y4,y5,y6⟩:=(show w9.cell? ⟨wr.heap.size,0,none⟩=some (.int .i64 y.key)/\w9.cell? ⟨wr.heap.size,1,none⟩=some (.int .i64 y.is.c)/\w9.cell? ⟨wr.heap.size,2,none⟩=some (.int .i64 y.is.s)/\w9.cell? ⟨wr.heap.size,3,none⟩=some (.int .i64 y.is.mi)/\w9.cell? ⟨wr.heap.size,4,none⟩=some (.int .i64 y.is.ma)/\w9.cell? ⟨wr.heap.size,5,none⟩=some (.int .i64 y.is.t)/\w9.cell? ⟨wr.heap.size,6,none⟩=some (.int .i64 y.is.l)from (by simp [World.cell?,k9]));have pA:=hdd (show ah wr w9 from Below.trans' kQ pR af);clear uJ k8 kQ Gy Gx pR k9)
         |(at_builtin;refine mY rfl (.tmp 73) (.tmp 75) rfl Wa.heap.size (.slice YK LS.length YL) LS rfl (by repeat (first|assumption|with_reducible refine au.alloc ?_ _|with_reducible refine au.drewN ?_ _|with_reducible refine au.drew ?_)) ⟨_,0,none⟩ y rfl (fun j u h=>mP h) af (by first|omega|(simp;done)|(simp;omega)|(simp [aN];done)|(simp [aN];omega)) ?_;intro v10 mG LU zu Sz))
        go_roundg (x.buf.length-(k+1))
        case measure=>omega
        case rel=>
         obtain⟨Rj,Gv,hy⟩:=HST.out
         exact⟨k+1,af,rfl,by go_num,hdd (Gv _ mG v10 i1 (pA.out.alloc af _) LU zu Sz)⟩
      ·obtain rfl:k=x.buf.length:=af
       obtain⟨h,kP,sx,hown,-,-⟩:=Fm.out
       obtain⟨dh,sN,hos,hap⟩:=HR.out
       obtain⟨hb0,U4,kx⟩:=HP.out
       have SE:=hb0.size
       have hsw:=dh.size
       rw [List.take_length]at sN hos
       have vZ:=Below.trans' hb0 dh SE
       have VZ:=(dh.block w.heap.size af).trans kx
       obtain⟨LD,Rq⟩:=bC ((x.buf.filter fun e=>decide (aZ x.keys e.key=ow)))
       obtain⟨LS,Rp⟩:=bC ((x.buf.filter fun e=>!decide (aZ x.keys e.key=ow)))
       have XI:LD.length<=20:=by rw [<-Rq];exact im (tQ _ _) af
       have abP:LS.length<=20:=by rw [<-Rp];exact im (tQ _ _) af
       rw [Rq]at sN
       rw [Rp]at hos
       obtain⟨Zi,Rv,rfl⟩:=sN.isSlice
       obtain⟨YK,YL,rfl⟩:=hos.isSlice
       have h3:=h.below vZ aI
       obtain⟨c0,-,-,-,-,c4,wG,-⟩:=h3.cells kP
       have iw:=fun w'=>dR (ab:=nb) (bp:=0) (n:=rs.length) (cap:=cap) (show (j:Int)=((j:Nat):Int) by rfl) hjl w'
       simp only [iX]at iw
       obtain⟨q1,q2⟩:=h.field (f:=3) rfl kP sx af (w1:=wr) (v':= .slice YK LS.length YL) (x':={ x with buf:=LS }) (aw.of vZ aI) (hos.mono af).row (fun b hb=> .inr (by have:=(hos.lt b hb).1;omega)) rfl (IC x LS) rfl
       have HN:=hdd (show R4 M bb (dE bb (.slice (some ⟨nb,0,none⟩) rs.length cap) rs) w (wr.setCell ⟨nb,j*5+4,none⟩ (.slice YK LS.length YL)) w.heap.size (.slice Zi LD.length Rv) (qU f) j LD (LD.drop 0) t' from by
        have hft:∀b,dE bb (.slice (some ⟨nb,0,none⟩) rs.length cap) rs b->b<w.heap.size:=fun b hb=>(h.lt b hb).2
        refine⟨_,_,_,_,_,_,_,_,q1,q2,(sN.mono af).block fun g hg=>heap_setCell_other _ ⟨nb,_,none⟩ _ _ (fun e=>by have:=(sN.lt g hg).1;have e:g=nb:=e;omega),fun b hb hf=>?_,(heap_setCell_other _ ⟨nb,_,none⟩ _ _ (by show w.heap.size≠nb;omega)).trans VZ,fun hf=>?_,fun hb=>?_,?_⟩
        ·rcases Bp kP af hf with h1|h1
         ·have:=hft b h1;have:=(sN.lt b hb).1;omega
         ·exact hap b h1 hb
        ·rcases Bp kP af hf with h1|h1
         ·have:=hft _ h1;omega
         ·have:=(hos.lt _ h1).1;omega
        ·have:=(sN.lt _ hb).1;omega
        ·have hF:=Fm.out.2.2.2.2.1
         rw [Rq,Rp]at hF
         exact hF)
       clear q1 q2 h3 hown dh sN hos hap hb0 kx vZ VZ Rq Rp HR HP IQ
       go_wp2_with fail
       clear c0 c4 wG iw
       go_loopg [89] LD.length (fun g i w3=>∃k:Nat,k<=LD.length/\g=LD.length-k/\i = .int .i64 k/\Hid (R4 M bb (dE bb (.slice (some ⟨nb,0,none⟩) rs.length cap) rs) w w3 w.heap.size (.slice Zi LD.length Rv) (qU f) j LD (LD.drop k) t'))
       case atStart=>exact⟨0,af,rfl,rfl,HN⟩
       case round=>
        clear HN
        obtain⟨k,hk,rfl,rfl,HR⟩:=hrel
        by_cases GD:k<LD.length
        ·obtain⟨kU,fQ,tk,a0,a1,a2,a3,a4,hB,hS,sN,hdF,QY,YV,hdx,hD⟩:=HR.out
         obtain⟨y,hy⟩:=bC (LD[k])
         rw [vh GD,hy]at hD
         obtain⟨z,kd,t1,more,key,t2,z2,hz,⟨hzk,afB,adh⟩,Tc,hp,hkf,hz2,hrest⟩:=Hd hD
         obtain⟨j',YS,cap',r',hjj,rfl,MA,hzj,ab0,hown'⟩:=hB.place hz
         obtain rfl:j'=j:=af
         obtain⟨es',Vu,WW⟩:=hown'.aF.isSlice
         obtain⟨ks',Ss,S9⟩:=hown'.keys.isSlice
         obtain⟨ds',OI,P8⟩:=hown'.kids.isSlice
         obtain⟨bs',XU,Xg⟩:=hown'.buf.isSlice
         obtain⟨i,hi⟩:=bC (aZ z.keys y.key)
         rw [hi]at Tc hkf
         have hil:i<z.kids.length:=(gJ.1 Tc).1
         obtain⟨db,zM,aY,Xc,abn,MO⟩:=gy.get (hown'.kids.at af) Tc
         rw [P8]at Xc
         injection Xc with abp _ abo
         subst abp abo
         obtain⟨_,_,hv,-,-,-,-,h5⟩:=sN.at af
         injection hv with hv1 _ hv3
         subst hv3
         obtain⟨eb,aH,lQ,r8,nD⟩:=h5 af
         subst lQ
         subst hv1
         obtain⟨y0,y1,y2,y3,y4,y5,y6⟩:=bT (aL _ _) r8 nD GD
         rw [hy]at y0 y1 y2 y3 y4 y5 y6
         have aag:w.heap.size<wr.heap.size:=(eP.1 QY).1
         obtain⟨W8,mO⟩:=bR (wr.alloc (.cells #[.int .i64 y.key, .int .i64 y.is.c, .int .i64 y.is.s, .int .i64 y.is.mi, .int .i64 y.is.ma, .int .i64 y.is.t, .int .i64 y.is.l] 107))
         have kQ:ah wr W8:=by rw [mO];exact ag
         have DW:W8.heap.size=wr.heap.size+1:=by rw [mO];simp
         have k8:W8.heap[wr.heap.size]?=some (.cells #[.int .i64 y.key, .int .i64 y.is.c, .int .i64 y.is.s, .int .i64 y.is.mi, .int .i64 y.is.ma, .int .i64 y.is.t, .int .i64 y.is.l] 107):=by rw [mO];exact aq _ _ rfl
         have IU:=hB.below kQ aI
         have D5:=(kQ.block _ aag).trans QY
         obtain⟨c0,n0,n1,n2,n3,n4,-,-,agK,ag2,agI⟩:=IU.cells MA
         rw [WW]at n1
         rw [S9]at n2
         rw [P8]at n3
         rw [Xg]at n4
         have x0:W8.cell? ⟨w.heap.size,0,none⟩=some a0:=by simp [World.cell?,D5]
         have x1:W8.cell? ⟨w.heap.size,1,none⟩=some a1:=by simp [World.cell?,D5]
         have x2:W8.cell? ⟨w.heap.size,2,none⟩=some a2:=by simp [World.cell?,D5]
         have x3:W8.cell? ⟨w.heap.size,3,none⟩=some a3:=by simp [World.cell?,D5]
         have x4:W8.cell? ⟨w.heap.size,4,none⟩=some a4:=by simp [World.cell?,D5]
         have xf:∀o,W8.frozen? ⟨w.heap.size,o,none⟩=false:=fun o=>by simp [World.frozen?,D5]
         obtain⟨W9,jB⟩:=bR (((((W8.setCell ⟨w.heap.size,0,none⟩ (.bool r'.leaf)).setCell ⟨w.heap.size,1,none⟩ (.slice es' z.aF.length Vu)).setCell ⟨w.heap.size,2,none⟩ (.slice ks' z.keys.length Ss)).setCell ⟨w.heap.size,3,none⟩ (.slice (some ⟨db,zM,none⟩) z.kids.length OI)).setCell ⟨w.heap.size,4,none⟩ (.slice bs' z.buf.length XU))
         have PM:W9.heap.size=wr.heap.size+1:=by rw [jB];simp [DW]
         have JK:W9.heap[w.heap.size]?=some (.cells #[.bool r'.leaf, .slice es' z.aF.length Vu, .slice ks' z.keys.length Ss, .slice (some ⟨db,zM,none⟩) z.kids.length OI, .slice bs' z.buf.length XU] 125):=by
          rw [jB]
          have:=heap_setCell_same (off:=4) (v:= .slice bs' z.buf.length XU) (heap_setCell_same (off:=3) (v:= .slice (some ⟨db,zM,none⟩) z.kids.length OI) (heap_setCell_same (off:=2) (v:= .slice ks' z.keys.length Ss) (heap_setCell_same (off:=1) (v:= .slice es' z.aF.length Vu) (heap_setCell_same (off:=0) (v:= .bool r'.leaf) D5))))
          simpa using this
         have h9:∀b,b≠w.heap.size->W9.heap[b]?=W8.heap[b]?:=fun b hb=>by rw [jB];exact lF (i:=0) hb
         have lA:=fun w'=>dC (ab:=eb) (bp:=aH) (n:=LD.length) (cap:=Rv) (show (k:Int)=((k:Nat):Int) by rfl) GD w'
         have iw:=fun w'=>dR (ab:=YS) (bp:=0) (n:=fQ.length) (cap:=cap') (show (j':Int)=((j':Nat):Int) by rfl) ab0 w'
         simp only [iX]at iw
         have TX:Bd M W9 bb (.slice (some ⟨YS,0,none⟩) fQ.length cap') fQ tk:=IU.world fun b hb=>h9 b (fun e=>YV (e▸hb))
         have TJ:aw (fun b=>b=w.heap.size) wr W9:=by
          rw [jB]
          exact Jj (aw.of kQ aI) _ _ _ _ _
         have hS9:nE (dE bb (.slice (some ⟨nb,0,none⟩) rs.length cap) rs) (dE bb (.slice (some ⟨YS,0,none⟩) fQ.length cap') fQ) w W9:=⟨hS.turn.trans' TJ (fun i hi e=>af),hS.new⟩
         have SV:au M W9 (.slice (some ⟨eb,aH,none⟩) LD.length Rv) LD:=sN.block fun g hg=>(h9 g (fun e=>hdx (by rw [hg,e]))).trans (kQ.block g (sN.lt g hg).2)
         have ke9:=(h9 wr.heap.size af).trans k8
         have XE:Q5 M bb (dE bb (.slice (some ⟨nb,0,none⟩) rs.length cap) rs) w W9 w.heap.size wr.heap.size (.slice (some ⟨eb,aH,none⟩) LD.length Rv) LD y (.slice (some ⟨YS,0,none⟩) fQ.length cap') fQ tk:=
          ⟨TX,hS9,SV,hdF,⟨_,_,_,_,_,JK⟩,YV,hdx,ke9,fun hf=>by have:=(hB.lt _ hf).2;omega⟩
         have MN:W9.cell? ⟨db,zM+i,none⟩=some (.int .i64 kd):=(World.cell?_of_block ((h9 db (fun e=>YV (by rw [<-e];exact .inr (.inr ⟨j',r',2,MA,by show r'.dv.ownBlock=_;rw [P8];rfl⟩)))).trans (kQ.block db abn))).trans MO
         have Xd:db<W9.heap.size:=af
         have xS:=hdd (xY (lf:=r'.leaf) (ev:= .slice es' z.aF.length Vu) (dv:= .slice (some ⟨db,zM,none⟩) z.kids.length OI) (bv:= .slice bs' z.buf.length XU) (x:=y.key) ((show bw M W9 (.slice ks' z.keys.length Ss) z.keys from S9▸(TX.Ca j' r' z MA hzj).keys).at af) hzk)
         rw [hi]at xS
         have HQ:=hdd (aO XE (aO MN Xd))
         have Yk:=hdd JK
         have HF:=hdd (aO hp (aO hkf (aO hz2 hrest)))
         have s9:W9.cell? ⟨wr.heap.size,0,none⟩=some (.int .i64 y.key):=by simp [World.cell?,ke9]
         have u0:W9.cell? ⟨w.heap.size,0,none⟩=some (.bool r'.leaf):=by simp [World.cell?,JK]
         have u1:W9.cell? ⟨w.heap.size,1,none⟩=some (.slice es' z.aF.length Vu):=by simp [World.cell?,JK]
         have u2:W9.cell? ⟨w.heap.size,2,none⟩=some (.slice ks' z.keys.length Ss):=by simp [World.cell?,JK]
         have u3:W9.cell? ⟨w.heap.size,3,none⟩=some (.slice (some ⟨db,zM,none⟩) z.kids.length OI):=by simp [World.cell?,JK]
         have u4:W9.cell? ⟨w.heap.size,4,none⟩=some (.slice bs' z.buf.length XU):=by simp [World.cell?,JK]
         have HRZ:=hdd (aO MA hzj)
         clear hB hS sN hdF QY YV hdx hD hz hzk Tc hp hkf hz2 hrest MA hzj hown' WW S9 P8 Xg MO h5 r8 nD kQ IU D5 h9 TX TJ hS9 SV XE MN JK ke9 HR hi k8 hy
         have Zm:=hdd jB
         have HI1:=hdd iw
         clear jB
         go_upto_region 26 with (fail)
         rw [<-mO]
         clear y0 y1 y2 y3 y4 y5 y6 lA mO
         go_upto_region 27 with (fail)
         rw [<-Zm.out]
         clear c0 n0 n1 n2 n3 n4 x0 x1 x2 x3 x4 xf Zm iw
         go_upto_region 28 with ((go_at_call 118;(with_reducible refine xS.out.mono ?_);rintro e mG ⟨rfl,uN⟩))
         clear s9 u0 u1 u2 u3 u4
         obtain⟨XE,MN,-⟩:=HQ.out
         have Mq:=uN.size
         have Qg:=XE.below uN
         have Rb:=(uN.block w.heap.size af).trans Yk.out
         have Ri:=(uN.cell (p:=⟨db,zM+i,none⟩) Xd).trans MN
         have q3:mG.cell? ⟨w.heap.size,3,none⟩=some (.slice (some ⟨db,zM,none⟩) z.kids.length OI):=by simp [World.cell?,Rb]
         obtain⟨s0,s1,s2,s3,s4,s5,s6⟩:=(show mG.cell? ⟨wr.heap.size,0,none⟩=some (.int .i64 y.key)/\mG.cell? ⟨wr.heap.size,1,none⟩=some (.int .i64 y.is.c)/\mG.cell? ⟨wr.heap.size,2,none⟩=some (.int .i64 y.is.s)/\mG.cell? ⟨wr.heap.size,3,none⟩=some (.int .i64 y.is.mi)/\mG.cell? ⟨wr.heap.size,4,none⟩=some (.int .i64 y.is.ma)/\mG.cell? ⟨wr.heap.size,5,none⟩=some (.int .i64 y.is.t)/\mG.cell? ⟨wr.heap.size,6,none⟩=some (.int .i64 y.is.l)from by simp [World.cell?,Qg.Vt])
         have Yb:=hdd Qg
         have KL:=hdd (hput (Qg.bd.drew) HF.out.1)
         clear XE MN Qg Rb uN
         have ab3:=fun w'=>lO (ab:=db) (bp:=zM) (n:=z.kids.length) (cap:=OI) (show (i:Int)=((i:Nat):Int) by rfl) hil w'
         refine bH [(0,1),(1,1),(2,0),(3,1),(4,1),(5,0),(6,0),(7,3),(8,1),(9,1),(10,1),(11,1),(12,1)] 7
          (fun W=>W.cell? ⟨w.heap.size,3,none⟩=some (.slice (some ⟨db,zM,none⟩) z.kids.length OI)/\W.cell? ⟨db,zM+i,none⟩=some (.int .i64 kd)/\W.cell? ⟨wr.heap.size,0,none⟩=some (.int .i64 y.key)/\W.cell? ⟨wr.heap.size,1,none⟩=some (.int .i64 y.is.c)/\W.cell? ⟨wr.heap.size,2,none⟩=some (.int .i64 y.is.s)/\W.cell? ⟨wr.heap.size,3,none⟩=some (.int .i64 y.is.mi)/\W.cell? ⟨wr.heap.size,4,none⟩=some (.int .i64 y.is.ma)/\W.cell? ⟨wr.heap.size,5,none⟩=some (.int .i64 y.is.t)/\W.cell? ⟨wr.heap.size,6,none⟩=some (.int .i64 y.is.l)) cv cv ⟨q3,Ri,s0,s1,s2,s3,s4,s5,s6⟩ ?_
         clear q3 Ri s0 s1 s2 s3 s4 s5 s6
         (simp only [bF,List.filterMap_cons,List.filterMap_nil,List.getElem?_cons_zero,List.getElem?_cons_succ,Option.map_some])
         (repeat first|refine aV ?_|refine aU ?_)
         refine bn rfl (fun K hK=>?_)
         go_simp
         (with_reducible refine KL.out.mono ?_);rintro e VM ⟨rfl,aaH⟩
         obtain⟨VT,Ou,p1,p2⟩:=aaH
         have H5:=hdd ((Yb.out.below (wy:=mG.drew) (aL _ _).drew).step p1 p2)
         clear p1 p2 ab3
         go_simp
         refine hK _ _ ?_
         clear hK K
         (repeat first|refine aV ?_|refine aU ?_)
         refine cj ?_
         go_upto_if 117 with (fail)
         have HFK:=JP HF.out.2.1
         go_cut [] (fun wx=>∃nv3 Sj,Hid (Q5 M bb (dE bb (.slice (some ⟨nb,0,none⟩) rs.length cap) rs) w wx w.heap.size wr.heap.size (.slice (some ⟨eb,aH,none⟩) LD.length Rv) LD y nv3 Sj t2))
         case first=>
          rcases HFK with ⟨GC,rfl⟩|⟨GC,yy,hyy,ab6,ab5,adk,adj,rfl⟩
          ·have hm2:¬0<=more:=af
           clear GC
           go_wp2_with fail
           go_meet
           exact⟨VT,Ou,H5⟩
          ·obtain⟨j2,Ow,cap2,r2,ab1,aaN,hr2,hx2,aaZ,hown2⟩:=H5.out.bd.place hyy
           obtain rfl:j2=j':=af
           subst aaN
           obtain⟨c0,-,-,c2,-,-,wG,-,TA,WC,agH⟩:=H5.out.bd.cells hr2
           have Ck:=hown2.keys
           obtain⟨ks2,kc2,S8⟩:=Ck.isSlice
           rw [S8]at c2
           have IM:=H5.out.bd.off j2 r2 1
           have iK:=hdd fun(W:World) (hT:aw (fun b=>(r2.lR 1).ownBlock=some b) VM W)=>(⟨(hT.cell TA (fun h=>(IM bb hr2 h).1 rfl) 0).trans c0,(hT.cell WC (fun h=>(IM Ow hr2 h).2 rfl) _).trans c2⟩:W.cell? ⟨bb,0,none⟩=some (.slice (some ⟨Ow,0,none⟩) Ou.length cap2)/\W.cell? ⟨Ow,j2*5+2,none⟩=some (.slice ks2 yy.keys.length kc2))
           have H9:=hdd fun(W:World) (hT:aw (fun b=>(r2.lR 1).ownBlock=some b) VM W)=>(fun o=>(hT.frozen WC (fun h=>(IM Ow hr2 h).2 rfl) o).trans (wG o):∀o,W.frozen? ⟨Ow,o,none⟩=false)
           have Ad:=hdd (H5.out.bd.insert (W5:=(VM.alloc (.cells #[.int .i64 key] 3)).drew) (f:=1) (i:=i) (vb:=VM.heap.size) (key:=key) (x':={ yy with keys:=yy.keys.take i++key::yy.keys.drop i }) hr2 hx2 (.inl rfl) Ck ab6 af (ag) (aq _ _ rfl) aI rfl (PB yy _) rfl rfl (o:=j2*5+2) rfl)
           rw [show r2.lR 1 = .slice ks2 yy.keys.length kc2 from S8]at Ad iK H9
           have iw:=fun w'=>dR (ab:=Ow) (bp:=0) (n:=Ou.length) (cap:=cap2) (show (j2:Int)=((j2:Nat):Int) by rfl) aaZ w'
           simp only [iX]at iw
           have HYY:=hdd hyy
           clear c0 c2 wG Ck S8 IM hr2 hx2 hown2 hyy ab1
           go_upto_region 30 with (fail)
           refine bH [(0,1),(1,1),(2,1),(3,1),(4,0),(5,1),(6,1),(7,1),(8,1),(9,1),(10,0),(11,1),(12,1),(13,1),(14,0),(15,1),(16,1),(17,2),(18,2),(19,1),(20,1),(21,3)] 21
            (fun W=>W.cell? ⟨bb,0,none⟩=some (.slice (some ⟨Ow,0,none⟩) Ou.length cap2)/\W.cell? ⟨Ow,j2*5+2,none⟩=some (.slice ks2 yy.keys.length kc2)) cv cv (iK.out _ (aw.refl _ _).drew) ?_
           (simp only [bF,List.filterMap_cons,List.filterMap_nil,List.getElem?_cons_zero,List.getElem?_cons_succ,Option.map_some])
           (repeat first|refine aV ?_|refine aU ?_)
           refine aM rfl (fun K hK=>?_)
           go_simp
           refine hK _ _ (iK.out _ ((aw.refl _ _).alloc _).drew) ?_
           clear hK K
           refine aM rfl (fun K hK=>?_)
           go_simp
           (with_reducible refine Ad.out.mono ?_);rintro e w12 ⟨s12,n12,c12,rfl,PT,Xk,Wv⟩
           go_simp
           refine hK _ _ (iK.out _ PT) ?_
           clear hK K
           have hfz:=H9.out _ PT (j2*5+2)
           have Y2:=(iK.out _ PT).2
           have CG:=hdd (H5.out.step Xk Wv)
           clear PT Xk Wv iK H9
           (repeat first|refine aV ?_|refine aU ?_)
           refine bn rfl (fun K hK=>?_)
           go_simp
           refine hK _ _ ?_
           clear hK K
           refine cj ?_
           clear hfz Y2 iw Ad
           generalize w12.setCell ⟨Ow,j2*5+2,none⟩ (.slice s12 n12 c12)=WA at CG ⊢
           generalize Ou.set j2 (r2.sw 1 (.slice s12 n12 c12))=Sj at CG
           generalize Value.slice (some ⟨Ow,0,none⟩) Ou.length cap2=nv3 at CG
           obtain⟨y3,QX⟩:=bR ({ yy with keys:=yy.keys.take i++key::yy.keys.drop i })
           have hk3:y3.kids=yy.kids:=by rw [QX]
           have N3:=hdd (show ∀D,cJ t1 j2 { yy with keys:=yy.keys.take i++key::yy.keys.drop i,kids:=D }=cJ (cJ t1 j2 y3) j2 { y3 with kids:=D } from fun D=>by rw [Jp,QX])
           rw [<-QX]at CG
           have Wh:(cJ t1 j2 y3).dm j2=some y3:=tN HYY.out
           clear QX
           obtain⟨j3,L8,Nz,r3,Te,S0,hr3,hx3,Td,uG⟩:=CG.out.bd.place Wh
           obtain rfl:j3=j2:=af
           subst S0
           obtain⟨c0,-,-,-,c3,-,wG,-,abx,Wz,agG⟩:=CG.out.bd.cells hr3
           have SU:=uG.kids
           obtain⟨ds3,Zj,J3⟩:=SU.isSlice
           rw [J3]at c3
           have IL:=CG.out.bd.off j3 r3 2
           have iK:=hdd fun(W:World) (hT:aw (fun b=>(r3.lR 2).ownBlock=some b) WA W)=>(⟨(hT.cell abx (fun h=>(IL bb hr3 h).1 rfl) 0).trans c0,(hT.cell Wz (fun h=>(IL L8 hr3 h).2 rfl) _).trans c3⟩:W.cell? ⟨bb,0,none⟩=some (.slice (some ⟨L8,0,none⟩) Sj.length Nz)/\W.cell? ⟨L8,j3*5+3,none⟩=some (.slice ds3 y3.kids.length Zj))
           have H9:=hdd fun(W:World) (hT:aw (fun b=>(r3.lR 2).ownBlock=some b) WA W)=>(fun o=>(hT.frozen Wz (fun h=>(IL L8 hr3 h).2 rfl) o).trans (wG o):∀o,W.frozen? ⟨L8,o,none⟩=false)
           have Ad:=hdd (CG.out.bd.insert (W5:=(WA.alloc (.cells #[.int .i64 more] 3)).drew) (f:=2) (i:=i+1) (vb:=WA.heap.size) (key:=more) (x':={ y3 with kids:=y3.kids.take (i+1)++more::y3.kids.drop (i+1) }) hr3 hx3 (.inr rfl) SU (by rw [hk3];exact ab5) (by rw [hk3];omega) (ag) (aq _ _ rfl) aI rfl (PA y3 _) rfl rfl (o:=j3*5+3) rfl)
           rw [show r3.lR 2 = .slice ds3 y3.kids.length Zj from J3]at Ad iK H9
           have agp:i<=20:=af
           rw [show ((i+1:Nat):Int)=IntKind.i64.wrap ((i:Int)+1)from by rw [IntWalk.i64_in _ af];omega]at Ad
           have iw:=fun w'=>dR (ab:=L8) (bp:=0) (n:=Sj.length) (cap:=Nz) (show (j3:Int)=((j3:Nat):Int) by rfl) Td w'
           simp only [iX]at iw
           have VA:=hdd hk3
           clear c0 c3 wG SU J3 IL hr3 hx3 uG Wh Te hk3
           go_upto_region 31 with (fail)
           refine bH [(0,1),(1,1),(2,1),(3,1),(4,0),(5,1),(6,1),(7,1),(8,1),(9,1),(10,0),(11,1),(12,1),(13,1),(14,0),(15,1),(16,1),(17,1),(18,2),(19,2),(20,1),(21,1),(22,3)] 22
            (fun W=>W.cell? ⟨bb,0,none⟩=some (.slice (some ⟨L8,0,none⟩) Sj.length Nz)/\W.cell? ⟨L8,j3*5+3,none⟩=some (.slice ds3 y3.kids.length Zj)) cv cv (iK.out _ (aw.refl _ _).drew) ?_
           (simp only [bF,List.filterMap_cons,List.filterMap_nil,List.getElem?_cons_zero,List.getElem?_cons_succ,Option.map_some])
           (repeat first|refine aV ?_|refine aU ?_)
           refine aM rfl (fun K hK=>?_)
           go_simp
           refine hK _ _ (iK.out _ ((aw.refl _ _).alloc _).drew) ?_
           clear hK K
           refine aM rfl (fun K hK=>?_)
           go_simp
           (with_reducible refine Ad.out.mono ?_);rintro e w13 ⟨s13,n13,c13,rfl,PS,Xj,Wu⟩
           go_simp
           refine hK _ _ (iK.out _ PS) ?_
           clear hK K
           have hfz:=H9.out _ PS (j3*5+3)
           have Y2:=(iK.out _ PS).2
           have Uz:=hdd (CG.out.step Xj Wu)
           rw [VA.out,<-N3.out]at Uz
           clear PS Xj Wu iK H9
           (repeat first|refine aV ?_|refine aU ?_)
           refine bn rfl (fun K hK=>?_)
           go_simp
           refine hK _ _ ?_
           clear hK K
           refine cj ?_
           clear hfz Y2 iw Ad
           generalize w13.setCell ⟨L8,j3*5+3,none⟩ (.slice s13 n13 c13)=WB at Uz ⊢
           go_wp2_with fail
           go_meet
           exact⟨_,_,Uz⟩
         case rest=>
          obtain⟨nv3,Sj,Fg⟩:=hcut
          clear H5 Yb HQ Yk xS HRZ HI1 KL HFK
          obtain⟨-,-,hz2,hgo⟩:=HF.out
          obtain⟨j3,L8,Nz,r3,Te,S0,hr3,hx3,Td,uG⟩:=Fg.out.bd.place hz2
          obtain rfl:j3=j':=af
          subst S0
          obtain⟨c0,-,-,-,c3,-,-,-,-,-,-⟩:=Fg.out.bd.cells hr3
          have cb:wc.cell? ⟨bb,2,none⟩=some (.int .i64 0):=by simp [World.cell?,Fg.out.bd.box]
          obtain⟨ds3,Zj,J3⟩:=uG.kids.isSlice
          rw [J3]at c3
          have ck:wc.cell? ⟨wr.heap.size,0,none⟩=some (.int .i64 y.key):=by simp [World.cell?,Fg.out.Vt]
          have iw:=fun w'=>dR (ab:=L8) (bp:=0) (n:=Sj.length) (cap:=Nz) (show (j3:Int)=((j3:Nat):Int) by rfl) Td w'
          simp only [iX]at iw
          have RT:=hdd hgo
          clear hz2 hgo hr3 hx3 uG J3 Te
          rcases RT.out with ⟨h4,hd⟩|⟨h4,hd⟩
          ·have Uy:=hdd (Fg.out.r4 hd)
           clear hd
           go_wp2_with fail
           go_roundg (LD.length-(k+1))
           case measure=>omega
           case rel=>exact⟨k+1,af,rfl,by go_num,Uy⟩
          ·have OS:=hdd (Lx Fg.out.bd Fg.out.own Fg.out.off XI hd)
           clear hd
           go_wp2_with (go_at_call 128;(with_reducible refine OS.out.mono ?_);rintro e w14 ⟨rfl,aaG⟩)
           refine bodyPost_ret (results_none rfl _ _ _) rfl ?_
           obtain⟨nv4,rs4,p1,p2⟩:=aaG
           exact⟨rfl,nv4,rs4,p1,Fg.out.ZV.trans p2⟩
        ·obtain⟨kU,fQ,tk,a0,a1,a2,a3,a4,hB,hS,-,-,-,-,-,hD⟩:=HR.out
         rw [AL af]at hD
         have HV:=hdd (show kM M bb (dE bb (.slice (some ⟨nb,0,none⟩) rs.length cap) rs) w t' wr from ⟨_,_,(dt hD)▸hB,hS⟩)
         clear hB hS hD HR
         go_wp2
         go_end0
         exact⟨rfl,HV.out⟩
theorem Ua {f:Nat} (hput:Qw f):Ii f:=fun h hF=>J8 hput h hF
theorem Iz:∀f,Qw f
 |0=>fun _ hF=>by cases hF
 |f+1=>LB (Ua (Iz f))
end
end Go.Proofs.YtmljjfhgciaceaaGreatDoor
