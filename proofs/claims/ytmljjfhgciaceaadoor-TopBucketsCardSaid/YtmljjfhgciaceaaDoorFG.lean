/- Texts of mine that come as one: FlushA PutW Flush. -/
import Derived.Test.YtmljjfhgciaceaaDoorHd
import Derived.Test.YtmljjfhgciaceaaDoorSP
import Derived.Test.YtmljjfhgciaceaaDoorPU
import Derived.Maps.AppendAt
namespace Go.Proofs.YtmljjfhgciaceaaDoor
open Go.RowKit
section
variable {y:aA} {n:Int} {rs:List Raw} {i b k oG B bb j f g o M xb eb:Nat} {F:Nat->Prop} {x:Nd} {r:Raw} {t t' t2:Tr} {dv nv:Value} {w wr w3 w9 nQ a wx wy:World}
theorem mZ {ops:Array Oper} {rest:List Oper} {o:Oper} {a:Act} {Q:Exit->Act->World->Prop} (hgd:o.guard=none) (s x:Operand)
  (ho:o.op = .call { callee:= .builtin .append,args:=#[s,x],argTypes:=#[63,63] }) (B:Nat) (v:Value) (es:List aA) (hs:a.eval s=v) (hown:av B w v es)
  (ad:Addr) (e:aA) (hx:a.eval x = .slice (some ad) 1 1) (hnews:∀j u,(bj e)[j]?=some u->w.cell? (ad.add j)=some u) (hlen:es.length<=1000000) (hbase:B<=w.heap.size)
  (h:∀v' w',av B w' v' (es++[e])->w.grownBy w' v.ownBlock->(v'.ownBlock=v.ownBlock\/v'.ownBlock=some w.heap.size)->wpList Tryd.prog ops Q rest (a.put o.dst v') w'):wpList Tryd.prog ops Q (o::rest) a w:=by
 obtain⟨i0,z,hi,hz,hz1,hz2,hz3⟩:=cC Tryd.Gp
 refine wpList_append_own_at w hgd s x 63 ho B 96 i0 z 7 56 Tryd.underlying63 hi hz hz1 hz2 hz3 aW v es.length _ hs hown.row ad 1 1 (bj e) hx rfl hnews (jf [e] |> fun h u hu=>h u (by simpa using hu)) (by unfold maxLen;omega) af hbase ?_
 intro v' w' hown' hg _ h4
 refine h v' w' ?_ hg h4
 have:(es++[e]).flatMap bj=es.flatMap bj++bj e:=bq
 refine⟨?_⟩
 rw [this,eP]
 exact hown'
def Qq (f:Nat):Prop:=∀{M:Nat} {w:World} {bb:Nat} {nv:Value} {rs:List Raw} {t t':Tr} {n:Int} {e:aA} {more key:Int},Bd M w bb nv rs t->qO f t n e=some (t',more,key) ->
 Calls Tryd.prog 75 #[.pointer (some ⟨bb,0,none⟩), .int .i64 n, .agg #[.int .i64 e.key, .int .i64 e.is.c, .int .i64 e.is.s, .int .i64 e.is.mi, .int .i64 e.is.ma, .int .i64 e.is.t, .int .i64 e.is.l]] w
  fun x w'=>x = .returned (.tuple #[.int .i64 more, .int .i64 key])/\kO M bb (dE bb nv rs) w t' w'
theorem PA (h:i<=3):i=0\/i=1\/i=2\/i=3:=af
theorem J0 {a0 a1 a2 a3 v:Value} {T:TypeId} {fr:Nat×Nat} (h:w.heap[b]?=some (.cells #[a0,a1,a2,a3] T fr)) (hi:i<=3) :
  (w.setCell ⟨b,i,none⟩ v).heap[b]?=some (.cells #[if 0=i then v else a0,if 1=i then v else a1,if 2=i then v else a2,if 3=i then v else a3] T fr):=by
 have h:=heap_setCell_same (off:=i) (v:=v) h
 rw [h]
 rcases PA hi with rfl|rfl|rfl|rfl <;> simp
theorem Ml {m:Nat->Nat} (hk:k<4) (w:World):(Instr.index 174 (.agg #[.int .i64 (m 0:Nat), .int .i64 (m 1:Nat), .int .i64 (m 2:Nat), .int .i64 (m 3:Nat)]) (.int .i64 (k:Nat))).run Tryd.prog w = .ok (.int .i64 (m k:Nat)) w:=by
 unfold Instr.index
 rcases vw hk with rfl|rfl|rfl|rfl <;> simp [go_sem]
theorem EK (m:Nat->Nat):∀k,k<=4->iV m k<=3
 |0,_=>by unfold iV;omega
 |k+1,h=>by
  have:=EK m k af
  unfold iV
  split <;> omega
def cnt (x:Nd) (k j:Nat):Nat:=((x.buf.take k).filter fun e=>decide (aX x.keys e.key=j)).length
theorem Eg {put:Tr->Int->aA->Option (Tr×Int×Int)} (hF:oF put t n=some t'):∃x,t.dn n=some x/\x.keys.Pairwise (·<·)/\x.keys.length<=3/\x.buf.length<=20/\Checked x.buf /\
  sL put n (x.buf.filter fun e=>decide (aX x.keys e.key=iV (iQ x) 4)) (x.buf.filter fun e=>decide (aX x.keys e.key=iV (iQ x) 4))
    (cH t n { x with buf:=x.buf.filter fun e=>!decide (aX x.keys e.key=iV (iQ x) 4) })=some t':=by
 unfold oF at hF
 split at hF
 ·cases hF
 ·rename_i x hx
  split at hF
  ·rename_i hg
   exact⟨x,hx,hg.1,hg.2.1,hg.2.2.1,hg.2.2.2,hF⟩
  ·cases hF
theorem Nw (hk:k<x.buf.length) (j:Nat):cnt x (k+1) j=if j=aX x.keys x.buf[k].key then cnt x k j+1 else cnt x k j:=by
 unfold cnt
 rw [mn hk,sw,eP]
 by_cases h:aX x.keys x.buf[k].key=j
 ·rw [ar h.symm,tN (by simpa using h)];simp
 ·rw [ai (Ne.symm h),sx (by simpa using h)];simp
theorem TW (x:Nd) (k j:Nat):cnt x k j<=x.buf.length:=by
 unfold cnt
 exact gT (tO _ _) (by rw [fw];omega)
theorem yj (x:Nd) (j:Nat):cnt x x.buf.length j=iQ x j:=by unfold cnt iQ;rw [List.take_length]
def E6 (x:Nd) (k:Nat):Array Value:=#[.int .i64 (cnt x k 0:Nat), .int .i64 (cnt x k 1:Nat), .int .i64 (cnt x k 2:Nat), .int .i64 (cnt x k 3:Nat)]
def R3 (x:Nd) (oG B:Nat) (wr w3:World) (k:Nat) (dv sv:Value):Prop:=
 Below B wr w3/\av B w3 dv ((x.buf.take k).filter fun e=>decide (aX x.keys e.key=oG))/\av B w3 sv ((x.buf.take k).filter fun e=>!decide (aX x.keys e.key=oG))/\∀b,sv.ownBlock=some b->dv.ownBlock≠some b
theorem R3.down {sv v:Value} (h:R3 x oG B wr w3 k dv sv) (hB:B<=wr.heap.size) (hlt:k<x.buf.length) (hk:aX x.keys x.buf[k].key=oG) (h9:ah w3 w9)
  (ho:av B nQ v (((x.buf.take k).filter fun e=>decide (aX x.keys e.key=oG))++[x.buf[k]])) (hg:w9.grownBy nQ dv.ownBlock) (hv:v.ownBlock=dv.ownBlock\/v.ownBlock=some w9.heap.size):R3 x oG B wr nQ (k+1) v sv:=by
 obtain⟨h1,h2,h3,h4⟩:=h
 have hs1:=h1.size
 have hs9:=h9.size
 refine⟨Below.grown (Below.trans' h1 h9 af) hg af fun j hj=>(h2.lt j hj).1,?_,?_,fun b hb hb'=>?_⟩
 ·rw [mn hlt,sw,tN (by simpa using hk)]
  exact ho
 ·rw [mn hlt,sw,sx (by simpa using hk),List.filter_nil,nM]
  exact h3.block fun b hb=>(hg.block b (by have:=(h3.lt b hb).2;omega) (fun e=>h4 b hb e.symm)).trans (h9.block b (h3.lt b hb).2)
 ·rcases hv with hv|hv
  ·exact h4 b hb (hv▸hb')
  ·have:=(h3.lt b hb).2
   rw [hv]at hb';injection hb' with hb';omega
theorem R3.stay {sv v:Value} (h:R3 x oG B wr w3 k dv sv) (hB:B<=wr.heap.size) (hlt:k<x.buf.length) (hk:¬aX x.keys x.buf[k].key=oG) (h9:ah w3 w9)
  (ho:av B nQ v (((x.buf.take k).filter fun e=>!decide (aX x.keys e.key=oG))++[x.buf[k]])) (hg:w9.grownBy nQ sv.ownBlock) (hv:v.ownBlock=sv.ownBlock\/v.ownBlock=some w9.heap.size):R3 x oG B wr nQ (k+1) dv v:=by
 obtain⟨h1,h2,h3,h4⟩:=h
 have hs1:=h1.size
 have hs9:=h9.size
 refine⟨Below.grown (Below.trans' h1 h9 af) hg af fun j hj=>(h3.lt j hj).1,?_,?_,fun b hb hb'=>?_⟩
 ·rw [mn hlt,sw,sx (by simpa using hk),List.filter_nil,nM]
  exact h2.block fun b hb=>(hg.block b (by have:=(h2.lt b hb).2;omega) (fun e=>h4 b e.symm hb)).trans (h9.block b (h2.lt b hb).2)
 ·rw [mn hlt,sw,tN (by simpa using hk)]
  exact ho
 ·rcases hv with hv|hv
  ·exact h4 b (hv▸hb) hb'
  ·have:=(h2.lt b hb').2
   rw [hv]at hb;injection hb with hb;omega
theorem Bi {v:Value} (hr:rs[j]?=some r) (hf:f<4) (h:dE bb nv (rs.set j (r.sf f v)) b):dE bb nv rs b\/v.ownBlock=some b:=by
 rcases h with rfl|h|⟨i,s,g,hs,hb⟩
 ·exact .inl (.inl rfl)
 ·exact .inl (.inr (.inl h))
 ·by_cases hi:i=j
  ·subst hi
   rw [List.getElem?_set_self (gH.1 hr).1]at hs
   obtain rfl:=dw hs
   by_cases hg:g=f
   ·subst hg;rw [Raw.vI r hf]at hb;exact .inr hb
   ·rw [Raw.BM r hf v hg]at hb;exact .inl (.inr (.inr ⟨i,r,g,hr,hb⟩))
  ·rw [Az (Ne.symm hi)]at hs;exact .inl (.inr (.inr ⟨i,s,g,hs,hb⟩))
theorem Iu (x:Nd) (B:List aA):∀g,g≠3->Nd.fN { x with buf:=B } g=x.fN g/\Nd.fC { x with buf:=B } g=x.fC g:=fun g hg=>by
 rcases lH g 4 with h4|h4
 ·rcases vw h4 with rfl|rfl|rfl|rfl <;> first|exact⟨rfl,rfl⟩|exact absurd rfl hg
 ·obtain⟨k,rfl⟩:∃k,g=k+4:=⟨g-4,af⟩;exact⟨rfl,rfl⟩
theorem Px (x:Nd) (B:List Int):∀g,g≠1->Nd.fN { x with keys:=B } g=x.fN g/\Nd.fC { x with keys:=B } g=x.fC g:=fun g hg=>by
 rcases lH g 4 with h4|h4
 ·rcases vw h4 with rfl|rfl|rfl|rfl <;> first|exact⟨rfl,rfl⟩|exact absurd rfl hg
 ·obtain⟨k,rfl⟩:∃k,g=k+4:=⟨g-4,af⟩;exact⟨rfl,rfl⟩
theorem Pw (x:Nd) (B:List Int):∀g,g≠2->Nd.fN { x with kids:=B } g=x.fN g/\Nd.fC { x with kids:=B } g=x.fC g:=fun g hg=>by
 rcases lH g 4 with h4|h4
 ·rcases vw h4 with rfl|rfl|rfl|rfl <;> first|exact⟨rfl,rfl⟩|exact absurd rfl hg
 ·obtain⟨k,rfl⟩:∃k,g=k+4:=⟨g-4,af⟩;exact⟨rfl,rfl⟩
theorem Jl (t:Tr) (n:Int) (x y:Nd):cH (cH t n x) n y=cH t n y:=by simp [cH]
theorem Ha {put:Tr->Int->aA->Option (Tr×Int×Int)} {all ds:List aA} {e:aA} (h:sL put n all (e::ds) t=some t'):∃x k t1 more key t2 z,t.dn n=some x/\(x.keys.Pairwise (·<·)/\x.keys.length<=20/\x.kids.length<=20) /\
  x.kids[aX x.keys e.key]?=some k/\put t k e=some (t1,more,key)/\Gk t1 n (aX x.keys e.key) more key=some t2/\t2.dn n=some z /\
  ((z.kids.length<=4/\sL put n all ds t2=some t')\/(¬z.kids.length<=4/\(all.filter fun d=>decide (e.key<d.key)).foldlM (oQ n) t2=some t')):=by
 unfold sL at h
 split at h
 ·cases h
 rename_i x hx
 by_cases hk:x.keys.Pairwise (·<·)/\x.keys.length<=20/\x.kids.length<=20
 ·rw [ar hk]at h
  split at h
  ·cases h
  rename_i k hk2
  split at h
  ·cases h
  rename_i t1 more key hp
  split at h
  ·cases h
  rename_i t2 ht2
  split at h
  ·cases h
  rename_i z hz
  refine⟨x,k,t1,more,key,t2,z,hx,hk,hk2,hp,ht2,hz,?_⟩
  by_cases h4:z.kids.length<=4
  ·rw [ar h4]at h;exact .inl ⟨h4,h⟩
  ·rw [ai h4]at h;exact .inr ⟨h4,h⟩
 ·rw [ai hk]at h;cases h
theorem JN {t1:Tr} {more key:Int} (h:Gk t1 n i more key=some t2):(more<0/\t2=t1)\/(0<=more/\∃y,t1.dn n=some y/\i<=y.keys.length/\i+1<=y.kids.length/\y.kids.length<=20/\y.keys.length<=20 /\
  t2=cH t1 n { y with keys:=y.keys.take i++key::y.keys.drop i,kids:=y.kids.take (i+1)++more::y.kids.drop (i+1) }):=by
 unfold Gk at h
 by_cases hm:more<0
 ·rw [ar hm]at h;exact .inl ⟨hm,(dw h).symm⟩
 ·rw [ai hm]at h
  split at h
  ·cases h
  rename_i y hy
  split at h
  ·rename_i hg
   exact .inr ⟨af,y,hy,hg.1,hg.2.1,hg.2.2.1,hg.2.2.2,(dw h).symm⟩
  ·cases h
theorem oP (h:aw (fun b=>b=g) a w) (v:Value):aw (fun b=>b=g) a (w.setCell ⟨g,o,none⟩ v):=aw.setCell (p:=⟨g,o,none⟩) h (Or.inl (Eq.refl g)) v
theorem Jh (h:aw (fun b=>b=g) a w) (v0 v1 v2 v3 v4:Value):aw (fun b=>b=g) a (((((w.setCell ⟨g,0,none⟩ v0).setCell ⟨g,1,none⟩ v1).setCell ⟨g,2,none⟩ v2).setCell ⟨g,3,none⟩ v3).setCell ⟨g,4,none⟩ v4):=
 oP (oP (oP (oP (oP h v0) v1) v2) v3) v4
def R4 (M bb:Nat) (F:Nat->Prop) (w wr:World) (xb:Nat) (dv:Value) (put:Tr->Int->aA->Option (Tr×Int×Int)) (n:Int) (down rest:List aA) (t':Tr):Prop:=
 ∃kX rs' tk a0 a1 a2 a3 a4,Bd M wr bb kX rs' tk/\nI F (dE bb kX rs') w wr/\av M wr dv down/\(∀b,dv.ownBlock=some b->¬dE bb kX rs' b)/\wr.heap[xb]?=some (.cells #[a0,a1,a2,a3,a4] 119)/\¬dE bb kX rs' xb/\dv.ownBlock≠some xb/\sL put n down rest tk=some t'
structure Q5 (M bb:Nat) (F:Nat->Prop) (w wx:World) (xb eb:Nat) (dv:Value) (down:List aA) (y:aA) (nv:Value) (rs:List Raw) (t:Tr):Prop where
 bd:Bd M wx bb nv rs t
 ZQ:nI F (dE bb nv rs) w wx
 own:av M wx dv down
 off:∀b,dv.ownBlock=some b->¬dE bb nv rs b
 box:∃a0 a1 a2 a3 a4,wx.heap[xb]?=some (.cells #[a0,a1,a2,a3,a4] 119)
 gL:¬dE bb nv rs xb
 dx:dv.ownBlock≠some xb
 Vj:wx.heap[eb]?=some (.cells #[.int .i64 y.key, .int .i64 y.is.c, .int .i64 y.is.s, .int .i64 y.is.mi, .int .i64 y.is.ma, .int .i64 y.is.t, .int .i64 y.is.l] 96)
 bZ:¬dE bb nv rs eb
theorem Q5.step {down:List aA} {VL:Value} {Ot:List Raw} (h:Q5 M bb F w wx xb eb dv down y nv rs t) (hB:Bd M wy bb VL Ot t2)
  (hS:nI (dE bb nv rs) (dE bb VL Ot) wx wy):Q5 M bb F w wy xb eb dv down y VL Ot t2:=by
 obtain⟨o1,o2⟩:=Df h.own hS h.off
 obtain⟨a0,a1,a2,a3,a4,hb⟩:=h.box
 obtain⟨x1,x2⟩:=hS.stay (eW.1 hb).1 h.gL
 obtain⟨e1,e2⟩:=hS.stay (eW.1 h.Vj).1 h.bZ
 exact⟨hB,h.ZQ.trans hS,o1,o2,⟨a0,a1,a2,a3,a4,x1.trans hb⟩,x2,h.dx,e1.trans h.Vj,e2⟩
theorem Q5.below {down:List aA} (h:Q5 M bb F w wx xb eb dv down y nv rs t) (hb:ah wx wy) :
  Q5 M bb F w wy xb eb dv down y nv rs t:=h.step (h.bd.below hb aI) (nI.of hb aI)
theorem Q5.r4 {down rest:List aA} {put:Tr->Int->aA->Option (Tr×Int×Int)} (h:Q5 M bb F w wx xb eb dv down y nv rs t)
  (hd:sL put n down rest t=some t'):R4 M bb F w wx xb dv put n down rest t':=by
 obtain⟨a0,a1,a2,a3,a4,hb⟩:=h.box
 exact⟨_,_,_,_,_,_,_,_,h.bd,h.ZQ,h.own,h.off,hb,h.gL,h.dx,hd⟩
theorem Bd.insert {W5:World} {nb cap vb:Nat} {key:Int} {x':Nd} {es:List Int} (h:Bd M w bb (.slice (some ⟨nb,0,none⟩) rs.length cap) rs t) (hr:rs[j]?=some r) (hx:t.nodes[j]?=some x) (hf:f=1\/f=2)
  (hes:bt M w (r.lS f) es) (hi:i<=es.length) (hlen:es.length<=100000) (h5:ah w W5) (hvb:W5.heap[vb]?=some (.cells #[.int .i64 key] 3)) (hvl:w.heap.size<=vb)
  (hl:x'.leaf=x.leaf) (ho:∀g,g≠f->x'.fN g=x.fN g/\x'.fC g=x.fC g) (hN:x'.fN f=(es.take i++key::es.drop i).length) (hC:x'.fC f=(es.take i++key::es.drop i).flatMap bV) (hoff:o=j*5+(f+1)) :
  Calls Tryd.prog 118 #[r.lS f, .int .i64 i, .slice (some ⟨vb,0,none⟩) 1 1] W5 fun e w'=>∃so n sc,e = .returned (.slice so n sc)/\aw (fun b=>(r.lS f).ownBlock=some b) w w' /\
   Bd M (w'.setCell ⟨nb,o,none⟩ (.slice so n sc)) bb (.slice (some ⟨nb,0,none⟩) rs.length cap) (rs.set j (r.sf f (.slice so n sc))) (cH t j x') /\
   nI (dE bb (.slice (some ⟨nb,0,none⟩) rs.length cap) rs) (dE bb (.slice (some ⟨nb,0,none⟩) rs.length cap) (rs.set j (r.sf f (.slice so n sc)))) w (w'.setCell ⟨nb,o,none⟩ (.slice so n sc)):=by
 have qA:=(h.lt bb (.inl rfl)).1
 have hbl:=(h.lt bb (.inl rfl)).2
 have hs5:=h5.size
 have he5:=hes.below h5 aI
 refine(DJ (x:=key) he5 hi af hlen hvb (fun e=>by have:=(hes.lt vb e).2;omega)).mono ?_
 rintro e w' ⟨v',rfl,hown,hg,hv⟩
 obtain⟨so,sc,rfl⟩:=hown.isSlice
 have hT:aw (fun b=>(r.lS f).ownBlock=some b) w w':=(aw.of h5 aI).trans ⟨hg.os,hg.tape,hg.output,hg.size,fun b hb hne=>hg.block b hb fun e=>hne e.symm⟩
 obtain⟨q1,q2⟩:=h.field (f:=f) rfl hr hx af hT (v':= .slice so (es.take i++key::es.drop i).length sc) (x':=x') (by
   have:=hown.row
   rw [hN,hC]
   rcases hf with rfl|rfl <;> exact this) (fun b hb=>by
   rcases hv with e|e
   ·exact .inl (e▸hb)
   ·rw [e]at hb;injection hb with hb;exact .inr af) hl ho hoff
 exact⟨so,_,sc,rfl,hT,q1,q2⟩
end
section
set_option maxRecDepth 100000
set_option maxHeartbeats 4000000
variable {e:aA} {n:Int} {L:List aA} {rs:List Raw} {M bb f o b:Nat} {x:Nd} {t t':Tr} {nv:Value} {w:World}
theorem Bd.merge {W5:World} {nb cap j:Nat} {r:Raw} {x':Nd} {es:List aA} (h:Bd M w bb (.slice (some ⟨nb,0,none⟩) rs.length cap) rs t) (hr:rs[j]?=some r) (hx:t.nodes[j]?=some x) (hf:f=0\/f=3)
  (hes:av M w (r.lS f) es) (hrow:vk es) (hent:jV e) (hins:jG es e=some L) (h5:ah w W5)
  (hl:x'.leaf=x.leaf) (ho:∀g,g≠f->x'.fN g=x.fN g/\x'.fC g=x.fC g) (hN:x'.fN f=L.length) (hC:x'.fC f=L.flatMap bj) (hoff:o=j*5+(f+1)) :
  Calls Tryd.prog 89 #[r.lS f, .agg #[.int .i64 e.key, .int .i64 e.is.c, .int .i64 e.is.s, .int .i64 e.is.mi, .int .i64 e.is.ma, .int .i64 e.is.t, .int .i64 e.is.l]] W5 fun y w'=>∃so sc,y = .returned (.tuple #[.slice so L.length sc, .int .i64 0])/\aw (fun b=>(r.lS f).ownBlock=some b) w w' /\
   Bd M (w'.setCell ⟨nb,o,none⟩ (.slice so L.length sc)) bb (.slice (some ⟨nb,0,none⟩) rs.length cap) (rs.set j (r.sf f (.slice so L.length sc))) (cH t j x') /\
   nI (dE bb (.slice (some ⟨nb,0,none⟩) rs.length cap) rs) (dE bb (.slice (some ⟨nb,0,none⟩) rs.length cap) (rs.set j (r.sf f (.slice so L.length sc)))) w (w'.setCell ⟨nb,o,none⟩ (.slice so L.length sc)):=by
 have qA:=(h.lt bb (.inl rfl)).1
 have hbl:=(h.lt bb (.inl rfl)).2
 have hs5:=h5.size
 have hm:=tz (w:=W5) (x:=e) (hes.below h5 aI) af (by have:=hrow.2.2.2;omega) hrow.1 (fun e he=>(hrow.2.1 e he).2) hent.2.1 hrow.2.2.1 hent.2.2
 rw [hins]at hm
 refine hm.mono ?_
 rintro y w' ⟨ht,v',rfl,hown,hv⟩
 obtain⟨so,sc,rfl⟩:=hown.isSlice
 have hT:aw (fun b=>(r.lS f).ownBlock=some b) w w':=(aw.of h5 aI).trans ht
 obtain⟨q1,q2⟩:=h.field (f:=f) rfl hr hx af hT (v':= .slice so L.length sc) (x':=x') (by
   have:=hown.row
   rw [hN,hC]
   rcases hf with rfl|rfl <;> exact this) (fun b hb=>by
   rcases hv b hb with e|e
   ·exact .inl e
   ·exact .inr af) hl ho hoff
 exact⟨so,sc,rfl,hT,q1,q2⟩
theorem Bb {l:List aA} (h:xK l e=some L):vk l/\jV e/\jG l e=some L:=by
 unfold xK at h
 split at h
 ·rename_i hg;exact⟨hg.1,hg.2,h⟩
 ·cases h
theorem Jt {more key:Int} (h:qO (f+1) t n e=some (t',more,key)):∃x,t.dn n=some x /\
  ((x.leaf=true/\∃L,xK x.aF e=some L/\gW (cH t n { x with aF:=L }) n=some (t',more,key)) \/
  (x.leaf=false/\∃L,xK x.buf e=some L/\((L.length<=8/\gW (cH t n { x with buf:=L }) n=some (t',more,key)) \/
    (¬L.length<=8/\∃t2,oF (qO f) (cH t n { x with buf:=L }) n=some t2/\gW t2 n=some (t',more,key))))):=by
 unfold qO at h
 split at h
 ·cases h
 rename_i x hx
 refine⟨x,hx,?_⟩
 split at h
 ·rename_i hl
  split at h
  ·cases h
  rename_i L hL
  exact .inl ⟨hl,L,hL,h⟩
 ·rename_i hl
  split at h
  ·cases h
  rename_i L hL
  refine .inr ⟨by simpa using hl,L,hL,?_⟩
  split at h
  ·rename_i h8;exact .inl ⟨h8,h⟩
  ·rename_i h8
   split at h
   ·cases h
   rename_i t2 ht2
   exact .inr ⟨h8,t2,ht2,h⟩
theorem jR {o':Nat} {v u:Value} (h:o≠o') (hq:w.cell? ⟨b,o',none⟩=some u):(w.setCell ⟨b,o,none⟩ v).cell? ⟨b,o',none⟩=some u:=by
 unfold World.cell? at hq ⊢
 simp only at hq ⊢
 split at hq
 ·rename_i c e fr hb
  rw [heap_setCell_same hb]
  simp only [Option.isSome_none]at hq ⊢
  rw [ai bq]at hq ⊢
  rw [Array.getElem?_setIfInBounds_ne h];exact hq
 ·cases hq
theorem kG {v u:Value} (hq:w.cell? ⟨b,o,none⟩=some u):(w.setCell ⟨b,o,none⟩ v).cell? ⟨b,o,none⟩=some v:=by
 unfold World.cell? at hq ⊢
 simp only at hq ⊢
 split at hq
 ·rename_i c e fr hb
  rw [heap_setCell_same hb]
  simp only [Option.isSome_none]at hq ⊢
  rw [ai bq]at hq ⊢
  have:=(eW.1 hq).1
  simp [this]
 ·cases hq
theorem Py (x:Nd) (B:List aA):∀g,g≠0->Nd.fN { x with aF:=B } g=x.fN g/\Nd.fC { x with aF:=B } g=x.fC g:=fun g hg=>by
 rcases lH g 4 with h4|h4
 ·rcases vw h4 with rfl|rfl|rfl|rfl <;> first|exact⟨rfl,rfl⟩|exact absurd rfl hg
 ·obtain⟨k,rfl⟩:∃k,g=k+4:=⟨g-4,af⟩;exact⟨rfl,rfl⟩
def Ia (f:Nat):Prop:=∀{M:Nat} {w:World} {bb:Nat} {nv:Value} {rs:List Raw} {t t':Tr} {n:Int},Bd M w bb nv rs t->oF (qO f) t n=some t' ->
  Calls Tryd.prog 97 #[.pointer (some ⟨bb,0,none⟩), .int .i64 n] w fun e w'=>e = .returned (.tuple #[])/\kO M bb (dE bb nv rs) w t' w'
theorem LC {more key:Int} (h:Bd M w bb nv rs t) (hx:t.dn n=some x) (Oz:x.leaf=true) (hins:xK x.aF e=some L)
  (hF:gW (cH t n { x with aF:=L }) n=some (t',more,key)) :
  Calls Tryd.prog 75 #[.pointer (some ⟨bb,0,none⟩), .int .i64 n, .agg #[.int .i64 e.key, .int .i64 e.is.c, .int .i64 e.is.s, .int .i64 e.is.mi, .int .i64 e.is.ma, .int .i64 e.is.t, .int .i64 e.is.l]] w
  fun y w'=>y = .returned (.tuple #[.int .i64 more, .int .i64 key])/\kO M bb (dE bb nv rs) w t' w':=by
 obtain⟨hrow,hent,hins⟩:=Bb hins
 obtain⟨j,nb,cap,r,rfl,rfl,kR,si,hjl,hown⟩:=h.place hx
 have hvl:=hown.leaf
 rw [Oz]at hvl
 obtain⟨so,sc,hev⟩:=hown.aF.isSlice
 obtain⟨W1,hW1⟩:=bQ (w.alloc (.cells #[.int .i64 e.key, .int .i64 e.is.c, .int .i64 e.is.s, .int .i64 e.is.mi, .int .i64 e.is.ma, .int .i64 e.is.t, .int .i64 e.is.l] 96))
 have hb1:ah w W1:=by rw [hW1];exact ag
 have hz1:W1.heap.size=w.heap.size+1:=by rw [hW1];simp
 have k1:W1.heap[w.heap.size]?=some (.cells #[.int .i64 e.key, .int .i64 e.is.c, .int .i64 e.is.s, .int .i64 e.is.mi, .int .i64 e.is.ma, .int .i64 e.is.t, .int .i64 e.is.l] 96):=by rw [hW1];exact aq _ _ rfl
 have h1:=h.below hb1 aI
 obtain⟨c0,l0,e1,e2,e3,e4,wm,Fa,hbl,hnl,vz⟩:=h1.cells kR
 rw [hvl]at l0
 have cR:=e1
 rw [hev]at cR
 have HCF:=hdd wm
 have hen:w.heap.size≠nb:=fun e=>by have:=(h.lt nb (.inr (.inl rfl))).2;omega
 have im:=fun w'=>dS (ab:=nb) (aY:=0) (n:=rs.length) (cap:=cap) (show (j:Int)=((j:Nat):Int) by rfl) hjl w'
 simp only [iM]at im
 have HM:=hdd fun(W5:World) (h5:ah W1 W5)=>h1.merge (j:=j) (f:=0) (x':={ x with aF:=L }) kR si (.inl rfl) (h1.BR j r x kR si).aF hrow hent hins h5 rfl (Py x L) rfl rfl (o:=j*5+1) rfl
 have N3:=hdd (aM hb1 (aM h1 (aM kR si)))
 have Hz:=hdd k1
 have HEV:=hdd hev
 have Uu:=hdd (show (Value.slice so x.aF.length sc).ownBlock≠some nb from fun hh=>(h1.off j r 0 nb kR (by show r.ev.ownBlock=_;rw [hev];exact hh)).2 rfl)
 have Rz:=hdd (show (Value.slice so x.aF.length sc).ownBlock≠some w.heap.size from fun hh=>by have:=(h.lt w.heap.size (.inr (.inr ⟨j,r,0,kR,by show r.ev.ownBlock=_;rw [hev];exact hh⟩))).2;omega)
 have HFL:=hdd hF
 clear h h1 hx hins hrow hent kR si hown hb1 e1 e2 e3 e4 Fa hvl Oz k1 hev hF wm
 go_enter Tryd.func75,Tryd.ntmps75
 go_upto_region 1 with (fail)
 rw [<-hW1]
 clear hW1
 go_upto_region 5 with (fail)
 have KQ:∀(W:World),W.heap[w.heap.size]?=W1.heap[w.heap.size]?->(W.cell? ⟨w.heap.size,0,none⟩=some (.int .i64 e.key)/\W.cell? ⟨w.heap.size,1,none⟩=some (.int .i64 e.is.c)/\W.cell? ⟨w.heap.size,2,none⟩=some (.int .i64 e.is.s)/\W.cell? ⟨w.heap.size,3,none⟩=some (.int .i64 e.is.mi)/\W.cell? ⟨w.heap.size,4,none⟩=some (.int .i64 e.is.ma)/\W.cell? ⟨w.heap.size,5,none⟩=some (.int .i64 e.is.t)/\W.cell? ⟨w.heap.size,6,none⟩=some (.int .i64 e.is.l)):=fun W hW=>by
  have:=hW.trans Hz.out
  simp [World.cell?,this]
 have Xr:=KQ W1.drew rfl
 clear KQ
 refine bI [(0,1),(1,1),(2,0),(3,0),(4,3),(5,1),(6,1),(7,1),(8,1),(9,1)] 4
  (fun W=>W.cell? ⟨nb,j*5+1,none⟩=some (.slice so x.aF.length sc)/\W.cell? ⟨w.heap.size,0,none⟩=some (.int .i64 e.key)/\W.cell? ⟨w.heap.size,1,none⟩=some (.int .i64 e.is.c)/\W.cell? ⟨w.heap.size,2,none⟩=some (.int .i64 e.is.s)/\W.cell? ⟨w.heap.size,3,none⟩=some (.int .i64 e.is.mi)/\W.cell? ⟨w.heap.size,4,none⟩=some (.int .i64 e.is.ma)/\W.cell? ⟨w.heap.size,5,none⟩=some (.int .i64 e.is.t)/\W.cell? ⟨w.heap.size,6,none⟩=some (.int .i64 e.is.l)) cy cy ⟨cR,Xr⟩ ?_
 clear Xr
 (simp only [bF,List.filterMap_cons,List.filterMap_nil,List.getElem?_cons_zero,List.getElem?_cons_succ,Option.map_some])
 (repeat first|refine bg ?_|refine aZ ?_)
 refine bp rfl (fun K hK=>?_)
 go_simp
 have Oc:=HM.out W1.drew (aJ _ _).drew
 rw [show r.lS 0 = .slice so x.aF.length sc from HEV.out]at Oc
 (with_reducible refine Oc.mono ?_);rintro y w5 ⟨s5,c5,rfl,qq,XH,Xq⟩
 clear Oc
 go_simp
 refine hK _ _ ?_
 clear hK K
 (repeat first|refine bg ?_|refine aZ ?_)
 refine cv ?_
 have q4:w5.cell? ⟨nb,j*5+1,none⟩=some (.slice so x.aF.length sc):=(qq.cell hnl Uu.out _).trans cR
 have qf:w5.frozen? ⟨nb,j*5+1,none⟩=false:=(qq.frozen hnl Uu.out _).trans (HCF.out _)
 have q0:w5.cell? ⟨nb,j*5,none⟩=some (.bool true):=(qq.cell hnl Uu.out _).trans l0
 have CO:=hdd (aM XH Xq)
 clear qq XH Xq cR l0 c0
 go_upto_region 10 with (fail)
 obtain⟨W6,tU⟩:=bQ (w5.setCell ⟨nb,j*5+1,none⟩ (.slice s5 L.length c5))
 have l6:W6.cell? ⟨nb,j*5,none⟩=some (.bool true):=by
  rw [tU];exact jR af q0
 have HC:=hdd (vH (tU▸CO.out.1) HFL.out)
 have Zk:=hdd (tU▸CO.out.2)
 rw [<-tU]
 clear tU q4 qf q0
 go_wp2_with (go_at_call 96;(with_reducible refine HC.out.mono ?_);rintro y w7 ⟨rfl,Ws⟩)
 go_ret2
 obtain⟨kX,rs',p1,p2⟩:=Ws
 exact⟨rfl,kX,rs',p1,((nI.of N3.out.1 aI).trans Zk.out).trans p2⟩
theorem Js (GG:Ia f) {more key:Int} (h:Bd M w bb nv rs t) (hx:t.dn n=some x) (Oz:x.leaf=false) (hins:xK x.buf e=some L)
  (hF:(L.length<=8/\gW (cH t n { x with buf:=L }) n=some (t',more,key))\/(¬L.length<=8/\∃t2,oF (qO f) (cH t n { x with buf:=L }) n=some t2/\gW t2 n=some (t',more,key))) :
  Calls Tryd.prog 75 #[.pointer (some ⟨bb,0,none⟩), .int .i64 n, .agg #[.int .i64 e.key, .int .i64 e.is.c, .int .i64 e.is.s, .int .i64 e.is.mi, .int .i64 e.is.ma, .int .i64 e.is.t, .int .i64 e.is.l]] w
  fun y w'=>y = .returned (.tuple #[.int .i64 more, .int .i64 key])/\kO M bb (dE bb nv rs) w t' w':=by
 obtain⟨hrow,hent,hins⟩:=Bb hins
 obtain⟨j,nb,cap,r,rfl,rfl,kR,si,hjl,hown⟩:=h.place hx
 have hvl:=hown.leaf
 rw [Oz]at hvl
 obtain⟨so,sc,hev⟩:=hown.buf.isSlice
 obtain⟨W1,hW1⟩:=bQ (w.alloc (.cells #[.int .i64 e.key, .int .i64 e.is.c, .int .i64 e.is.s, .int .i64 e.is.mi, .int .i64 e.is.ma, .int .i64 e.is.t, .int .i64 e.is.l] 96))
 have hb1:ah w W1:=by rw [hW1];exact ag
 have hz1:W1.heap.size=w.heap.size+1:=by rw [hW1];simp
 have k1:W1.heap[w.heap.size]?=some (.cells #[.int .i64 e.key, .int .i64 e.is.c, .int .i64 e.is.s, .int .i64 e.is.mi, .int .i64 e.is.ma, .int .i64 e.is.t, .int .i64 e.is.l] 96):=by rw [hW1];exact aq _ _ rfl
 have h1:=h.below hb1 aI
 obtain⟨c0,l0,e1,e2,e3,e4,wm,Fa,hbl,hnl,vz⟩:=h1.cells kR
 rw [hvl]at l0
 have cR:=e4
 rw [hev]at cR
 have HCF:=hdd wm
 have hen:w.heap.size≠nb:=fun e=>by have:=(h.lt nb (.inr (.inl rfl))).2;omega
 have im:=fun w'=>dS (ab:=nb) (aY:=0) (n:=rs.length) (cap:=cap) (show (j:Int)=((j:Nat):Int) by rfl) hjl w'
 simp only [iM]at im
 have HM:=hdd fun(W5:World) (h5:ah W1 W5)=>h1.merge (j:=j) (f:=3) (x':={ x with buf:=L }) kR si (.inr rfl) (h1.BR j r x kR si).buf hrow hent hins h5 rfl (Iu x L) rfl rfl (o:=j*5+4) rfl
 have N3:=hdd (aM hb1 (aM h1 (aM kR si)))
 have Hz:=hdd k1
 have HEV:=hdd hev
 have Uu:=hdd (show (Value.slice so x.buf.length sc).ownBlock≠some nb from fun hh=>(h1.off j r 3 nb kR (by show r.bv.ownBlock=_;rw [hev];exact hh)).2 rfl)
 have Rz:=hdd (show (Value.slice so x.buf.length sc).ownBlock≠some w.heap.size from fun hh=>by have:=(h.lt w.heap.size (.inr (.inr ⟨j,r,3,kR,by show r.bv.ownBlock=_;rw [hev];exact hh⟩))).2;omega)
 have HFL:=hdd hF
 clear h h1 hx hins hrow hent kR si hown hb1 e1 e2 e3 e4 Fa hvl Oz k1 hev hF wm
 go_enter Tryd.func75,Tryd.ntmps75
 go_upto_region 1 with (fail)
 rw [<-hW1]
 clear hW1
 go_upto_region 5 with (fail)
 have KQ:∀(W:World),W.heap[w.heap.size]?=W1.heap[w.heap.size]?->(W.cell? ⟨w.heap.size,0,none⟩=some (.int .i64 e.key)/\W.cell? ⟨w.heap.size,1,none⟩=some (.int .i64 e.is.c)/\W.cell? ⟨w.heap.size,2,none⟩=some (.int .i64 e.is.s)/\W.cell? ⟨w.heap.size,3,none⟩=some (.int .i64 e.is.mi)/\W.cell? ⟨w.heap.size,4,none⟩=some (.int .i64 e.is.ma)/\W.cell? ⟨w.heap.size,5,none⟩=some (.int .i64 e.is.t)/\W.cell? ⟨w.heap.size,6,none⟩=some (.int .i64 e.is.l)):=fun W hW=>by
  have:=hW.trans Hz.out
  simp [World.cell?,this]
 have Xr:=KQ W1.drew rfl
 clear KQ
 refine bI [(0,1),(1,1),(2,0),(3,0),(4,3),(5,1),(6,1),(7,1),(8,1),(9,1)] 4
  (fun W=>W.cell? ⟨nb,j*5+4,none⟩=some (.slice so x.buf.length sc)/\W.cell? ⟨w.heap.size,0,none⟩=some (.int .i64 e.key)/\W.cell? ⟨w.heap.size,1,none⟩=some (.int .i64 e.is.c)/\W.cell? ⟨w.heap.size,2,none⟩=some (.int .i64 e.is.s)/\W.cell? ⟨w.heap.size,3,none⟩=some (.int .i64 e.is.mi)/\W.cell? ⟨w.heap.size,4,none⟩=some (.int .i64 e.is.ma)/\W.cell? ⟨w.heap.size,5,none⟩=some (.int .i64 e.is.t)/\W.cell? ⟨w.heap.size,6,none⟩=some (.int .i64 e.is.l)) cy cy ⟨cR,Xr⟩ ?_
 clear Xr
 (simp only [bF,List.filterMap_cons,List.filterMap_nil,List.getElem?_cons_zero,List.getElem?_cons_succ,Option.map_some])
 (repeat first|refine bg ?_|refine aZ ?_)
 refine bp rfl (fun K hK=>?_)
 go_simp
 have Oc:=HM.out W1.drew (aJ _ _).drew
 rw [show r.lS 3 = .slice so x.buf.length sc from HEV.out]at Oc
 (with_reducible refine Oc.mono ?_);rintro y w5 ⟨s5,c5,rfl,qq,XH,Xq⟩
 clear Oc
 go_simp
 refine hK _ _ ?_
 clear hK K
 (repeat first|refine bg ?_|refine aZ ?_)
 refine cv ?_
 have q4:w5.cell? ⟨nb,j*5+4,none⟩=some (.slice so x.buf.length sc):=(qq.cell hnl Uu.out _).trans cR
 have qf:w5.frozen? ⟨nb,j*5+4,none⟩=false:=(qq.frozen hnl Uu.out _).trans (HCF.out _)
 have q0:w5.cell? ⟨nb,j*5,none⟩=some (.bool false):=(qq.cell hnl Uu.out _).trans l0
 have CO:=hdd (aM XH Xq)
 clear qq XH Xq cR l0 c0
 go_upto_region 10 with (fail)
 obtain⟨W6,tU⟩:=bQ (w5.setCell ⟨nb,j*5+4,none⟩ (.slice s5 L.length c5))
 have l6:W6.cell? ⟨nb,j*5,none⟩=some (.bool false):=by
  rw [tU];exact jR af q0
 have b6:W6.cell? ⟨nb,j*5+4,none⟩=some (.slice s5 L.length c5):=by rw [tU];exact kG q4
 have tQ:=hdd (tU▸CO.out.1)
 have Zk:=hdd (tU▸CO.out.2)
 rw [<-tU]
 clear tU q4 qf q0
 rcases HFL.out with ⟨h8,hF⟩|⟨h8,t2,hF1,hF2⟩
 ·have HC:=hdd (vH tQ.out hF)
  go_wp2_with (go_at_call 96;(with_reducible refine HC.out.mono ?_);rintro y w7 ⟨rfl,Ws⟩)
  go_ret2
  obtain⟨kX,rs',p1,p2⟩:=Ws
  exact⟨rfl,kX,rs',p1,((nI.of N3.out.1 aI).trans Zk.out).trans p2⟩
 ·have HC:=hdd (GG tQ.out hF1)
  go_wp2_with (first
   |(go_at_call 97;(with_reducible refine HC.out.mono ?_);rintro y w7 ⟨rfl,Ws⟩;obtain⟨Z6,UM,p1,p2⟩:=Ws;have OT:=hdd (aM p1 p2);clear p1 p2)
   |(go_at_call 96;(with_reducible refine(vH OT.out.1 hF2).mono ?_);rintro y w8 ⟨rfl,hp8⟩))
  go_ret2
  obtain⟨kX,rs',p1,p2⟩:=hp8
  exact⟨rfl,kX,rs',p1,(((nI.of N3.out.1 aI).trans Zk.out).trans OT.out.2).trans p2⟩
theorem LB (GG:Ia f):Qq (f+1):=fun h hF=>by
 obtain⟨x,hx,⟨hl,L,hL,hs⟩|⟨hl,L,hL,hs⟩⟩:=Jt hF
 ·exact LC h hx hl hL hs
 ·exact Js GG h hx hl hL hs
end
section
set_option maxRecDepth 100000
set_option maxHeartbeats 6000000
theorem J6 {f:Nat} (hput:Qq f) {M:Nat} {w:World} {bb:Nat} {nv:Value} {rs:List Raw} {t t':Tr} {n:Int} (h:Bd M w bb nv rs t) (hF:oF (qO f) t n=some t') :
  Calls Tryd.prog 97 #[.pointer (some ⟨bb,0,none⟩), .int .i64 n] w fun e w'=>e = .returned (.tuple #[])/\kO M bb (dE bb nv rs) w t' w':=by
 obtain⟨x,hx,hks,hkl,adB,IL,hF⟩:=Eg hF
 obtain⟨oG,M0⟩:=bw (iV (iQ x) 4)
 rw [M0]at hF
 obtain⟨j,nb,cap,r,rfl,rfl,kR,si,hjl,hown⟩:=h.place hx
 obtain⟨c0,k0,k1,k2,k3,k4,wm,Fa,hbl,hnl,vz⟩:=h.cells kR
 obtain⟨es,ec,hev⟩:=hown.aF.isSlice
 obtain⟨ks,kc,xZ⟩:=hown.keys.isSlice
 obtain⟨ds,dc,Be⟩:=hown.kids.isSlice
 obtain⟨bs,bc,rX⟩:=hown.buf.isSlice
 have hok:=hown.keys
 have oN:=hown.buf
 rw [xZ]at hok
 rw [rX]at oN
 rw [hev]at k1
 rw [xZ]at k2
 rw [Be]at k3
 rw [rX]at k4
 have hM:M<=w.heap.size:=by have:=(h.lt bb (.inl rfl)).1;omega
 have im:=fun w'=>dS (ab:=nb) (aY:=0) (n:=rs.length) (cap:=cap) (show (j:Int)=((j:Nat):Int) by rfl) hjl w'
 simp only [iM]at im
 obtain⟨W1,hW1⟩:=bQ (w.alloc (.cells #[.bool r.leaf, .slice es x.aF.length ec, .slice ks x.keys.length kc, .slice ds x.kids.length dc, .slice bs x.buf.length bc] 119))
 obtain⟨W2,hW2⟩:=bQ (W1.alloc (.cells #[.int .i64 0, .int .i64 0, .int .i64 0, .int .i64 0] 174))
 have hz1:W1.heap.size=w.heap.size+1:=by rw [hW1];simp
 have hz2:W2.heap.size=w.heap.size+2:=by rw [hW2];simp [hz1]
 have hb1:ah w W1:=by rw [hW1];exact ag
 have hb2:ah w W2:=hb1.trans (by rw [hW2];exact(aJ _ _).alloc af _)
 have kx:W2.heap[w.heap.size]?=some (.cells #[.bool r.leaf, .slice es x.aF.length ec, .slice ks x.keys.length kc, .slice ds x.kids.length dc, .slice bs x.buf.length bc] 119):=by
  rw [hW2]
  refine((aJ W1.heap.size W1).alloc aI _).block _ af |>.trans ?_
  rw [hW1];exact aq _ _ rfl
 have ka:W2.heap[w.heap.size+1]?=some (.cells #[.int .i64 0, .int .i64 0, .int .i64 0, .int .i64 0] 174):=by rw [<-hz1,hW2];exact aq _ _ rfl
 have Fj:=hdd (aM h (aM kR (aM si (aM hown (aM hF M0)))))
 have vp:=hdd (aM rX (aM xZ (aM Be hev)))
 clear h kR si hown hF M0 rX xZ Be hev hx
 go_enter Tryd.func97,Tryd.ntmps97
 go_upto_region 2 with (fail)
 rw [<-hW1,<-hW2]
 clear hW1 hW2 c0 k0 k1 k2 k3 k4 wm Fa im
 have hX4:W2.cell? ⟨w.heap.size,4,none⟩=some (.slice bs x.buf.length bc):=by simp [World.cell?,kx]
 have mv:=hdd hb2
 have Yg:=hdd kx
 have HKA:=hdd ka
 have Vm:=hdd (aM hok oN)
 have CN:=hdd (aM hks hkl)
 clear hb1 hb2 kx ka hok oN hks hkl
 go_wp2_with fail
 clear hX4
 go_loopg [31] x.buf.length (fun g i wr=>∃k:Nat,k<=x.buf.length/\g=x.buf.length-k/\i = .int .i64 k/\Hid (ah w wr/\w.heap.size+2<=wr.heap.size/\wr.heap[w.heap.size]?=some (.cells #[.bool r.leaf, .slice es x.aF.length ec, .slice ks x.keys.length kc, .slice ds x.kids.length dc, .slice bs x.buf.length bc] 119)/\wr.heap[w.heap.size+1]?=some (.cells (E6 x k) 174)))
 case atStart=>exact⟨0,iN _,rfl,rfl,hdd ⟨mv.out,af,Yg.out,HKA.out⟩⟩
 case round=>
  clear mv Yg HKA
  obtain⟨k,hk,rfl,rfl,HR⟩:=hrel
  by_cases jH:k<x.buf.length
  ·obtain⟨di,UU,kx,ka⟩:=HR.out
   obtain⟨hok,oN⟩:=Vm.out
   obtain⟨hks,hkl⟩:=CN.out
   obtain⟨_,_,hv,-,-,-,-,h5⟩:=oN.at af
   injection hv with hv1 _ hv3
   subst hv3
   obtain⟨eb,bZ,lR,rW,nH⟩:=h5 af
   subst lR
   subst hv1
   obtain⟨y0,y1,y2,y3,y4,y5,y6⟩:=bR di rW nH jH
   have hcs:=fun i=>Nw jH i
   obtain⟨y,hy⟩:=bw (x.buf[k])
   rw [hy]at y0 y1 y2 y3 y4 y5 y6 hcs
   have MH:aX x.keys y.key<=3:=by have:=qR x.keys y.key;omega
   have xP:=hdd fun(W:World) (hW:ah w W)=>xV (lf:=r.leaf) (ev:= .slice es x.aF.length ec) (dv:= .slice ds x.kids.length dc) (bv:= .slice (some ⟨eb,bZ,none⟩) x.buf.length bc) (x:=y.key) ((hok.at af).below hW aI) hks
   obtain⟨i,hi⟩:=bw (aX x.keys y.key)
   rw [hi]at hcs MH xP
   have ZC:=hdd hcs
   obtain⟨W8,mf⟩:=bQ (wr.alloc (.cells #[.int .i64 y.key, .int .i64 y.is.c, .int .i64 y.is.s, .int .i64 y.is.mi, .int .i64 y.is.ma, .int .i64 y.is.t, .int .i64 y.is.l] 96))
   have kZ:ah wr W8:=by rw [mf];exact ag
   have DN:W8.heap.size=wr.heap.size+1:=by rw [mf];simp
   have k8:W8.heap[wr.heap.size]?=some (.cells #[.int .i64 y.key, .int .i64 y.is.c, .int .i64 y.is.s, .int .i64 y.is.mi, .int .i64 y.is.ma, .int .i64 y.is.t, .int .i64 y.is.l] 96):=by rw [mf];exact aq _ _ rfl
   have Dz:=(kZ.block w.heap.size af).trans kx
   have VY:=(kZ.block (w.heap.size+1) af).trans ka
   have uH:=Below.trans' di kZ di.size
   have kS:=fun w'=>dD (ab:=eb) (aY:=bZ) (n:=x.buf.length) (cap:=bc) (show (k:Int)=((k:Nat):Int) by rfl) jH w'
   have s0:W8.cell? ⟨wr.heap.size,0,none⟩=some (.int .i64 y.key):=by simp [World.cell?,k8]
   have x0:W8.cell? ⟨w.heap.size,0,none⟩=some (.bool r.leaf):=by simp [World.cell?,Dz]
   have x1:W8.cell? ⟨w.heap.size,1,none⟩=some (.slice es x.aF.length ec):=by simp [World.cell?,Dz]
   have x2:W8.cell? ⟨w.heap.size,2,none⟩=some (.slice ks x.keys.length kc):=by simp [World.cell?,Dz]
   have x3:W8.cell? ⟨w.heap.size,3,none⟩=some (.slice ds x.kids.length dc):=by simp [World.cell?,Dz]
   have x4:W8.cell? ⟨w.heap.size,4,none⟩=some (.slice (some ⟨eb,bZ,none⟩) x.buf.length bc):=by simp [World.cell?,Dz]
   have fe:=hdd (aM uH (aM Dz VY))
   clear di kx ka hok oN hks hkl h5 nH hy hi hcs k8 Dz VY HR
   go_upto_region 5 with (fail)
   rw [<-mf]
   clear mf kZ y0 y1 y2 y3 y4 y5 y6 kS uH
   have aa8:w.heap.size≠w.heap.size+1:=af
   go_wp2_with ((go_at_call 95;(with_reducible refine(xP.out _ fe.out.1).mono ?_);rintro e w9 ⟨rfl,oO⟩;obtain⟨uH,Dz,VY⟩:=fe.out;have aan:=uH.size;have JI:=(oO.block w.heap.size af).trans Dz;have UQ:=(oO.block (w.heap.size+1) af).trans VY;have MX:=Below.trans' uH oO uH.size;have Sn:w.heap.size+2<=w9.heap.size:=(by have:=oO.size;omega);have hfz:∀o,w9.frozen? ⟨w.heap.size+1,o,none⟩=false:=(fun o=>by simp [World.frozen?,UQ,E6]);obtain⟨ci,Xa⟩:=bw (cnt x k i);have hcl:ci<=20:=(by have:=TW x k i;omega);have hai:w9.cell? ⟨w.heap.size+1,i,none⟩=some (.int .i64 (ci:Int)):=(by rw [<-Xa];rcases PA MH with rfl|rfl|rfl|rfl <;> simp [World.cell?,UQ,E6]);have O0:=hdd (aM Xa (aM JI (aM UQ (aM MX Sn))));clear Xa JI UQ MX Sn uH Dz VY aan oO))
   go_roundg (x.buf.length-(k+1))
   case measure=>omega
   case rel=>
    obtain⟨Xa,JI,UQ,MX,Sn⟩:=O0.out
    refine⟨k+1,af,rfl,by go_num,hdd ⟨?_,?_,?_,?_⟩⟩
    ·exact Below.setCell MX (by show w.heap.size<=w.heap.size+1;omega) _
    ·simp;omega
    ·exact(heap_setCell_other _ ⟨_,_,none⟩ _ _ aa8).trans JI
    ·have hs:=J0 (v:= .int .i64 ((ci:Int)+1)) UQ MH
     refine hs.trans ?_
     unfold E6
     rw [ZC.out 0,ZC.out 1,ZC.out 2,ZC.out 3]
     subst Xa
     rcases PA MH with rfl|rfl|rfl|rfl <;> simp
  ·obtain rfl:k=x.buf.length:=af
   obtain⟨di,UU,kx,ka⟩:=HR.out
   have a0:wr.cell? ⟨w.heap.size+1,0,none⟩=some (.int .i64 (iQ x 0:Nat)):=by rw [<-yj];simp [World.cell?,ka,E6]
   have a1:wr.cell? ⟨w.heap.size+1,1,none⟩=some (.int .i64 (iQ x 1:Nat)):=by rw [<-yj];simp [World.cell?,ka,E6]
   have a2:wr.cell? ⟨w.heap.size+1,2,none⟩=some (.int .i64 (iQ x 2:Nat)):=by rw [<-yj];simp [World.cell?,ka,E6]
   have a3:wr.cell? ⟨w.heap.size+1,3,none⟩=some (.int .i64 (iQ x 3:Nat)):=by rw [<-yj];simp [World.cell?,ka,E6]
   have HP:=hdd (aM di (aM UU kx))
   clear di UU kx ka HR hk
   have hab:∀b,b<=3->wr.cell? ⟨w.heap.size+1,b,none⟩=some (.int .i64 (iQ x b:Nat)):=fun b hb=>by rcases PA hb with rfl|rfl|rfl|rfl <;> assumption
   obtain⟨m,hm⟩:=bw (iQ x)
   rw [hm]at a0 a1 a2 a3 hab Fj
   have Ol:=hdd hab
   clear hab
   go_wp2_with fail
   clear a0 a1 a2 a3
   go_loopg [45,8] 4 (fun g i b w2=>∃k:Nat,k<=4/\g=4-k/\i = .int .i64 k/\b = .int .i64 (iV m k:Nat)/\w2=wr)
   case atStart=>exact⟨0,af,rfl,rfl,rfl,rfl⟩
   case round=>
    obtain⟨k,hk,rfl,rfl,rfl,rfl⟩:=hrel
    by_cases WG:k<4
    ·have kS:=fun w'=>Ml (m:=m) WG w'
     have hb3:=EK m k hk
     have Mx:iV m (k+1)=if m (iV m k)<m k then k else iV m k:=rfl
     obtain⟨b,hb⟩:=bw (iV m k)
     rw [hb]at hb3 Mx ⊢
     have hab:=Ol.out b hb3
     obtain⟨mk,hmk⟩:=bw (m k)
     obtain⟨mb,hmb⟩:=bw (m b)
     rw [hmk]at kS Mx
     rw [hmb]at hab Mx
     have HSB:=hdd Mx
     clear Mx hb hmk hmb
     by_cases i1:mb<mk
     ·go_wp2_with fail
      go_roundg (4-(k+1))
      case measure=>omega
      case rel=>exact⟨k+1,af,rfl,by go_num,by rw [HSB.out,ar i1],rfl⟩
     ·go_wp2_with fail
      go_roundg (4-(k+1))
      case measure=>omega
      case rel=>exact⟨k+1,af,rfl,by go_num,by rw [HSB.out,ai i1],rfl⟩
    ·obtain rfl:k=4:=af
     clear hk WG
     have hbb:iV m 4=oG:=Fj.out.2.2.2.2.2
     rw [hbb]
     obtain⟨Wa,Tt⟩:=bQ (wr)
     subst Tt
     have hX4:Wa.cell? ⟨w.heap.size,4,none⟩=some (.slice bs x.buf.length bc):=by simp [World.cell?,HP.out.2.2]
     go_wp2_with fail
     clear hX4
     go_loopg [59,12,11] x.buf.length (fun g i dv sv w3=>∃k:Nat,k<=x.buf.length/\g=x.buf.length-k/\i = .int .i64 k/\Hid (R3 x oG Wa.heap.size Wa w3 k dv sv))
     case atStart=>exact⟨0,af,rfl,rfl,hdd ⟨aJ _ _,av.nil _ _,av.nil _ _,fun b hb=>by cases hb⟩⟩
     case round=>
      obtain⟨k,hk,rfl,rfl,HR⟩:=hrel
      by_cases jH:k<x.buf.length
      ·obtain⟨di,sH,hos,hap⟩:=HR.out
       obtain⟨hb0,UU,kx⟩:=HP.out
       have Sq:=hb0.size
       have hsw:=di.size
       obtain⟨hok,oN⟩:=Vm.out
       obtain⟨hks,hkl⟩:=CN.out
       obtain⟨_,_,hv,-,-,-,-,h5⟩:=oN.at af
       injection hv with hv1 _ hv3
       subst hv3
       obtain⟨eb,bZ,lR,rW,nH⟩:=h5 af
       subst lR
       subst hv1
       have vW:=Below.trans' hb0 di Sq
       have VS:=(di.block w.heap.size af).trans kx
       obtain⟨y0,y1,y2,y3,y4,y5,y6⟩:=bR vW rW nH jH
       have MH:aX x.keys x.buf[k].key<=3:=by have:=qR x.keys x.buf[k].key;omega
       have Rb:=fun(w9 nQ:World) (v:Value) (hk:aX x.keys x.buf[k].key=oG) (h9:ah wr w9)=>R3.down (nQ:=nQ) (v:=v) HR.out aI jH hk h9
       have Gs:=fun(w9 nQ:World) (v:Value) (hk:¬aX x.keys x.buf[k].key=oG) (h9:ah wr w9)=>R3.stay (nQ:=nQ) (v:=v) HR.out aI jH hk h9
       obtain⟨y,hy⟩:=bw (x.buf[k])
       rw [hy]at y0 y1 y2 y3 y4 y5 y6 MH Rb Gs
       have xP:=hdd fun(W:World) (hW:ah w W)=>xV (lf:=r.leaf) (ev:= .slice es x.aF.length ec) (dv:= .slice ds x.kids.length dc) (bv:= .slice (some ⟨eb,bZ,none⟩) x.buf.length bc) (x:=y.key) ((hok.at af).below hW aI) hks
       obtain⟨i,hi⟩:=bw (aX x.keys y.key)
       rw [hi]at MH xP Rb Gs
       obtain⟨LD,Rj⟩:=bw (((x.buf.take k).filter fun e=>decide (aX x.keys e.key=oG)))
       obtain⟨LS,Ri⟩:=bw (((x.buf.take k).filter fun e=>!decide (aX x.keys e.key=oG)))
       have XE:LD.length<=20:=by rw [<-Rj];exact gT (tO _ _) (by rw [fw];omega)
       have abK:LS.length<=20:=by rw [<-Ri];exact gT (tO _ _) (by rw [fw];omega)
       rw [Rj]at sH Rb
       rw [Ri]at hos Gs
       obtain⟨Zc,Rn,rfl⟩:=sH.isSlice
       obtain⟨YD,YE,rfl⟩:=hos.isSlice
       obtain⟨W8,mf⟩:=bQ (wr.alloc (.cells #[.int .i64 y.key, .int .i64 y.is.c, .int .i64 y.is.s, .int .i64 y.is.mi, .int .i64 y.is.ma, .int .i64 y.is.t, .int .i64 y.is.l] 96))
       have kZ:ah wr W8:=by rw [mf];exact ag
       have DN:W8.heap.size=wr.heap.size+1:=by rw [mf];simp
       have k8:W8.heap[wr.heap.size]?=some (.cells #[.int .i64 y.key, .int .i64 y.is.c, .int .i64 y.is.s, .int .i64 y.is.mi, .int .i64 y.is.ma, .int .i64 y.is.t, .int .i64 y.is.l] 96):=by rw [mf];exact aq _ _ rfl
       have Dz:=(kZ.block w.heap.size af).trans VS
       have uH:=Below.trans' vW kZ vW.size
       have kS:=fun w'=>dD (ab:=eb) (aY:=bZ) (n:=x.buf.length) (cap:=bc) (show (k:Int)=((k:Nat):Int) by rfl) jH w'
       have s0:W8.cell? ⟨wr.heap.size,0,none⟩=some (.int .i64 y.key):=by simp [World.cell?,k8]
       have x0:W8.cell? ⟨w.heap.size,0,none⟩=some (.bool r.leaf):=by simp [World.cell?,Dz]
       have x1:W8.cell? ⟨w.heap.size,1,none⟩=some (.slice es x.aF.length ec):=by simp [World.cell?,Dz]
       have x2:W8.cell? ⟨w.heap.size,2,none⟩=some (.slice ks x.keys.length kc):=by simp [World.cell?,Dz]
       have x3:W8.cell? ⟨w.heap.size,3,none⟩=some (.slice ds x.kids.length dc):=by simp [World.cell?,Dz]
       have x4:W8.cell? ⟨w.heap.size,4,none⟩=some (.slice (some ⟨eb,bZ,none⟩) x.buf.length bc):=by simp [World.cell?,Dz]
       have Gv:=sH.below kZ aI
       have Gu:=hos.below kZ aI
       have fe:=hdd (aM uH (aM k8 (aM kZ (aM Gv Gu))))
       have HST:=hdd (aM Rb (aM Gs hy))
       clear di kx hok oN hks hkl h5 nH hy hi k8 Dz HR Rb Gs sH hos Gv Gu hap Rj Ri vW VS hb0 rW
       go_upto_region 18 with (fail)
       rw [<-mf]
       clear mf kZ y0 y1 y2 y3 y4 y5 y6 kS uH
       by_cases i1:i=oG
       ·go_wp2_with (first
         |(go_at_call 95;(with_reducible refine(xP.out _ fe.out.1).mono ?_);rintro e w9 ⟨rfl,oO⟩;obtain⟨uH,k8,kZ,Gv,Gu⟩:=fe.out;have SI:=Gv.below oO aI;have PI:wr.heap.size+1<=w9.heap.size:=(by have:=oO.size;omega);have k9:=(oO.block wr.heap.size af).trans k8;obtain⟨y0,y1,y2,y3,y4,y5,y6⟩:=(show w9.cell? ⟨wr.heap.size,0,none⟩=some (.int .i64 y.key)/\w9.cell? ⟨wr.heap.size,1,none⟩=some (.int .i64 y.is.c)/\w9.cell? ⟨wr.heap.size,2,none⟩=some (.int .i64 y.is.s)/\w9.cell? ⟨wr.heap.size,3,none⟩=some (.int .i64 y.is.mi)/\w9.cell? ⟨wr.heap.size,4,none⟩=some (.int .i64 y.is.ma)/\w9.cell? ⟨wr.heap.size,5,none⟩=some (.int .i64 y.is.t)/\w9.cell? ⟨wr.heap.size,6,none⟩=some (.int .i64 y.is.l)from (by simp [World.cell?,k9]));have pD:=hdd (show ah wr w9 from Below.trans' kZ oO af);clear uH k8 kZ Gv Gu oO k9)
         |(at_builtin;refine mZ rfl (.tmp 69) (.tmp 71) rfl Wa.heap.size (.slice Zc LD.length Rn) LD rfl (by repeat (first|assumption|with_reducible refine av.alloc ?_ _|with_reducible refine av.drewN ?_ _|with_reducible refine av.drew ?_)) ⟨_,0,none⟩ y rfl (fun j u h=>mR h) af (by first|omega|(simp;done)|(simp;omega)|(simp [aL];done)|(simp [aL];omega)) ?_;intro v10 nQ LR zm Sl))
        go_roundg (x.buf.length-(k+1))
        case measure=>omega
        case rel=>
         obtain⟨Rb,Gs,hy⟩:=HST.out
         exact⟨k+1,af,rfl,by go_num,hdd (Rb _ nQ v10 i1 (pD.out.alloc af _) LR zm Sl)⟩
       ·go_wp2_with (first
         |(go_at_call 95;(with_reducible refine(xP.out _ fe.out.1).mono ?_);rintro e w9 ⟨rfl,oO⟩;obtain⟨uH,k8,kZ,Gv,Gu⟩:=fe.out;have afL:=Gu.below oO aI;have PI:wr.heap.size+1<=w9.heap.size:=(by have:=oO.size;omega);have k9:=(oO.block wr.heap.size af).trans k8;obtain⟨y0,y1,y2,y3,y4,y5,y6⟩:=(show w9.cell? ⟨wr.heap.size,0,none⟩=some (.int .i64 y.key)/\w9.cell? ⟨wr.heap.size,1,none⟩=some (.int .i64 y.is.c)/\w9.cell? ⟨wr.heap.size,2,none⟩=some (.int .i64 y.is.s)/\w9.cell? ⟨wr.heap.size,3,none⟩=some (.int .i64 y.is.mi)/\w9.cell? ⟨wr.heap.size,4,none⟩=some (.int .i64 y.is.ma)/\w9.cell? ⟨wr.heap.size,5,none⟩=some (.int .i64 y.is.t)/\w9.cell? ⟨wr.heap.size,6,none⟩=some (.int .i64 y.is.l)from (by simp [World.cell?,k9]));have pD:=hdd (show ah wr w9 from Below.trans' kZ oO af);clear uH k8 kZ Gv Gu oO k9)
         |(at_builtin;refine mZ rfl (.tmp 73) (.tmp 75) rfl Wa.heap.size (.slice YD LS.length YE) LS rfl (by repeat (first|assumption|with_reducible refine av.alloc ?_ _|with_reducible refine av.drewN ?_ _|with_reducible refine av.drew ?_)) ⟨_,0,none⟩ y rfl (fun j u h=>mR h) af (by first|omega|(simp;done)|(simp;omega)|(simp [aL];done)|(simp [aL];omega)) ?_;intro v10 nQ LR zm Sl))
        go_roundg (x.buf.length-(k+1))
        case measure=>omega
        case rel=>
         obtain⟨Rb,Gs,hy⟩:=HST.out
         exact⟨k+1,af,rfl,by go_num,hdd (Gs _ nQ v10 i1 (pD.out.alloc af _) LR zm Sl)⟩
      ·obtain rfl:k=x.buf.length:=af
       obtain⟨h,kR,si,hown,-,-⟩:=Fj.out
       obtain⟨di,sH,hos,hap⟩:=HR.out
       obtain⟨hb0,UU,kx⟩:=HP.out
       have Sq:=hb0.size
       have hsw:=di.size
       rw [List.take_length]at sH hos
       have vW:=Below.trans' hb0 di Sq
       have VS:=(di.block w.heap.size af).trans kx
       obtain⟨LD,Rj⟩:=bw ((x.buf.filter fun e=>decide (aX x.keys e.key=oG)))
       obtain⟨LS,Ri⟩:=bw ((x.buf.filter fun e=>!decide (aX x.keys e.key=oG)))
       have XE:LD.length<=20:=by rw [<-Rj];exact gT (tO _ _) af
       have abK:LS.length<=20:=by rw [<-Ri];exact gT (tO _ _) af
       rw [Rj]at sH
       rw [Ri]at hos
       obtain⟨Zc,Rn,rfl⟩:=sH.isSlice
       obtain⟨YD,YE,rfl⟩:=hos.isSlice
       have h3:=h.below vW aI
       obtain⟨c0,-,-,-,-,c4,wm,-⟩:=h3.cells kR
       have im:=fun w'=>dS (ab:=nb) (aY:=0) (n:=rs.length) (cap:=cap) (show (j:Int)=((j:Nat):Int) by rfl) hjl w'
       simp only [iM]at im
       obtain⟨q1,q2⟩:=h.field (f:=3) rfl kR si af (w1:=wr) (v':= .slice YD LS.length YE) (x':={ x with buf:=LS }) (aw.of vW aI) (hos.mono af).row (fun b hb=> .inr (by have:=(hos.lt b hb).1;omega)) rfl (Iu x LS) rfl
       have HN:=hdd (show R4 M bb (dE bb (.slice (some ⟨nb,0,none⟩) rs.length cap) rs) w (wr.setCell ⟨nb,j*5+4,none⟩ (.slice YD LS.length YE)) w.heap.size (.slice Zc LD.length Rn) (qO f) j LD (LD.drop 0) t' from by
        have hft:∀b,dE bb (.slice (some ⟨nb,0,none⟩) rs.length cap) rs b->b<w.heap.size:=fun b hb=>(h.lt b hb).2
        refine⟨_,_,_,_,_,_,_,_,q1,q2,(sH.mono af).block fun g hg=>heap_setCell_other _ ⟨nb,_,none⟩ _ _ (fun e=>by have:=(sH.lt g hg).1;have e:g=nb:=e;omega),fun b hb hf=>?_,(heap_setCell_other _ ⟨nb,_,none⟩ _ _ (by show w.heap.size≠nb;omega)).trans VS,fun hf=>?_,fun hb=>?_,?_⟩
        ·rcases Bi kR af hf with h1|h1
         ·have:=hft b h1;have:=(sH.lt b hb).1;omega
         ·exact hap b h1 hb
        ·rcases Bi kR af hf with h1|h1
         ·have:=hft _ h1;omega
         ·have:=(hos.lt _ h1).1;omega
        ·have:=(sH.lt _ hb).1;omega
        ·have hF:=Fj.out.2.2.2.2.1
         rw [Rj,Ri]at hF
         exact hF)
       clear q1 q2 h3 hown di sH hos hap hb0 kx vW VS Rj Ri HR HP IL
       go_wp2_with fail
       clear c0 c4 wm im
       go_loopg [89] LD.length (fun g i w3=>∃k:Nat,k<=LD.length/\g=LD.length-k/\i = .int .i64 k/\Hid (R4 M bb (dE bb (.slice (some ⟨nb,0,none⟩) rs.length cap) rs) w w3 w.heap.size (.slice Zc LD.length Rn) (qO f) j LD (LD.drop k) t'))
       case atStart=>exact⟨0,af,rfl,rfl,HN⟩
       case round=>
        clear HN
        obtain⟨k,hk,rfl,rfl,HR⟩:=hrel
        by_cases Cf:k<LD.length
        ·obtain⟨kX,rs',tk,a0,a1,a2,a3,a4,hB,hS,sH,hdF,QR,YN,hdx,hD⟩:=HR.out
         obtain⟨y,hy⟩:=bw (LD[k])
         rw [vg Cf,hy]at hD
         obtain⟨z,kd,t1,more,key,t2,z2,hz,⟨hzk,afp,ad6⟩,SY,hp,hkf,hz2,hrest⟩:=Ha hD
         obtain⟨j',YK,cap',r',hjj,rfl,My,hzj,aaV,hown'⟩:=hB.place hz
         obtain rfl:j'=j:=af
         obtain⟨es',Vk,WS⟩:=hown'.aF.isSlice
         obtain⟨ks',Sg,SU⟩:=hown'.keys.isSlice
         obtain⟨ds',OG,PZ⟩:=hown'.kids.isSlice
         obtain⟨bs',XQ,Xc⟩:=hown'.buf.isSlice
         obtain⟨i,hi⟩:=bw (aX z.keys y.key)
         rw [hi]at SY hkf
         have hil:i<z.kids.length:=(gH.1 SY).1
         obtain⟨db,zG,aW,WX,abh,ML⟩:=gu.get (hown'.kids.at af) SY
         rw [PZ]at WX
         injection WX with abk _ abj
         subst abk abj
         obtain⟨_,_,hv,-,-,-,-,h5⟩:=sH.at af
         injection hv with hv1 _ hv3
         subst hv3
         obtain⟨eb,bZ,lR,rW,nH⟩:=h5 af
         subst lR
         subst hv1
         obtain⟨y0,y1,y2,y3,y4,y5,y6⟩:=bR (aJ _ _) rW nH Cf
         rw [hy]at y0 y1 y2 y3 y4 y5 y6
         have aa9:w.heap.size<wr.heap.size:=(eW.1 QR).1
         obtain⟨W8,mf⟩:=bQ (wr.alloc (.cells #[.int .i64 y.key, .int .i64 y.is.c, .int .i64 y.is.s, .int .i64 y.is.mi, .int .i64 y.is.ma, .int .i64 y.is.t, .int .i64 y.is.l] 96))
         have kZ:ah wr W8:=by rw [mf];exact ag
         have DN:W8.heap.size=wr.heap.size+1:=by rw [mf];simp
         have k8:W8.heap[wr.heap.size]?=some (.cells #[.int .i64 y.key, .int .i64 y.is.c, .int .i64 y.is.s, .int .i64 y.is.mi, .int .i64 y.is.ma, .int .i64 y.is.t, .int .i64 y.is.l] 96):=by rw [mf];exact aq _ _ rfl
         have IM:=hB.below kZ aI
         have DY:=(kZ.block _ aa9).trans QR
         obtain⟨c0,n0,n1,n2,n3,n4,-,-,agA,afQ,agy⟩:=IM.cells My
         rw [WS]at n1
         rw [SU]at n2
         rw [PZ]at n3
         rw [Xc]at n4
         have x0:W8.cell? ⟨w.heap.size,0,none⟩=some a0:=by simp [World.cell?,DY]
         have x1:W8.cell? ⟨w.heap.size,1,none⟩=some a1:=by simp [World.cell?,DY]
         have x2:W8.cell? ⟨w.heap.size,2,none⟩=some a2:=by simp [World.cell?,DY]
         have x3:W8.cell? ⟨w.heap.size,3,none⟩=some a3:=by simp [World.cell?,DY]
         have x4:W8.cell? ⟨w.heap.size,4,none⟩=some a4:=by simp [World.cell?,DY]
         have xf:∀o,W8.frozen? ⟨w.heap.size,o,none⟩=false:=fun o=>by simp [World.frozen?,DY]
         obtain⟨W9,je⟩:=bQ (((((W8.setCell ⟨w.heap.size,0,none⟩ (.bool r'.leaf)).setCell ⟨w.heap.size,1,none⟩ (.slice es' z.aF.length Vk)).setCell ⟨w.heap.size,2,none⟩ (.slice ks' z.keys.length Sg)).setCell ⟨w.heap.size,3,none⟩ (.slice (some ⟨db,zG,none⟩) z.kids.length OG)).setCell ⟨w.heap.size,4,none⟩ (.slice bs' z.buf.length XQ))
         have PI:W9.heap.size=wr.heap.size+1:=by rw [je];simp [DN]
         have JI:W9.heap[w.heap.size]?=some (.cells #[.bool r'.leaf, .slice es' z.aF.length Vk, .slice ks' z.keys.length Sg, .slice (some ⟨db,zG,none⟩) z.kids.length OG, .slice bs' z.buf.length XQ] 119):=by
          rw [je]
          have:=heap_setCell_same (off:=4) (v:= .slice bs' z.buf.length XQ) (heap_setCell_same (off:=3) (v:= .slice (some ⟨db,zG,none⟩) z.kids.length OG) (heap_setCell_same (off:=2) (v:= .slice ks' z.keys.length Sg) (heap_setCell_same (off:=1) (v:= .slice es' z.aF.length Vk) (heap_setCell_same (off:=0) (v:= .bool r'.leaf) DY))))
          simpa using this
         have h9:∀b,b≠w.heap.size->W9.heap[b]?=W8.heap[b]?:=fun b hb=>by rw [je];exact lF (i:=0) hb
         have kS:=fun w'=>dD (ab:=eb) (aY:=bZ) (n:=LD.length) (cap:=Rn) (show (k:Int)=((k:Nat):Int) by rfl) Cf w'
         have im:=fun w'=>dS (ab:=YK) (aY:=0) (n:=rs'.length) (cap:=cap') (show (j':Int)=((j':Nat):Int) by rfl) aaV w'
         simp only [iM]at im
         have TJ:Bd M W9 bb (.slice (some ⟨YK,0,none⟩) rs'.length cap') rs' tk:=IM.world fun b hb=>h9 b (fun e=>YN (e▸hb))
         have Tv:aw (fun b=>b=w.heap.size) wr W9:=by
          rw [je]
          exact Jh (aw.of kZ aI) _ _ _ _ _
         have hS9:nI (dE bb (.slice (some ⟨nb,0,none⟩) rs.length cap) rs) (dE bb (.slice (some ⟨YK,0,none⟩) rs'.length cap') rs') w W9:=⟨hS.turn.trans' Tv (fun i hi e=>af),hS.new⟩
         have SI:av M W9 (.slice (some ⟨eb,bZ,none⟩) LD.length Rn) LD:=sH.block fun g hg=>(h9 g (fun e=>hdx (by rw [hg,e]))).trans (kZ.block g (sH.lt g hg).2)
         have Z9:=(h9 wr.heap.size af).trans k8
         have XA:Q5 M bb (dE bb (.slice (some ⟨nb,0,none⟩) rs.length cap) rs) w W9 w.heap.size wr.heap.size (.slice (some ⟨eb,bZ,none⟩) LD.length Rn) LD y (.slice (some ⟨YK,0,none⟩) rs'.length cap') rs' tk:=
          ⟨TJ,hS9,SI,hdF,⟨_,_,_,_,_,JI⟩,YN,hdx,Z9,fun hf=>by have:=(hB.lt _ hf).2;omega⟩
         have MK:W9.cell? ⟨db,zG+i,none⟩=some (.int .i64 kd):=(World.cell?_of_block ((h9 db (fun e=>YN (by rw [<-e];exact .inr (.inr ⟨j',r',2,My,by show r'.dv.ownBlock=_;rw [PZ];rfl⟩)))).trans (kZ.block db abh))).trans ML
         have WY:db<W9.heap.size:=af
         have xP:=hdd (xV (lf:=r'.leaf) (ev:= .slice es' z.aF.length Vk) (dv:= .slice (some ⟨db,zG,none⟩) z.kids.length OG) (bv:= .slice bs' z.buf.length XQ) (x:=y.key) ((show bt M W9 (.slice ks' z.keys.length Sg) z.keys from SU▸(TJ.BR j' r' z My hzj).keys).at af) hzk)
         rw [hi]at xP
         have HQ:=hdd (aM XA (aM MK WY))
         have Yg:=hdd JI
         have HF:=hdd (aM hp (aM hkf (aM hz2 hrest)))
         have s9:W9.cell? ⟨wr.heap.size,0,none⟩=some (.int .i64 y.key):=by simp [World.cell?,Z9]
         have u0:W9.cell? ⟨w.heap.size,0,none⟩=some (.bool r'.leaf):=by simp [World.cell?,JI]
         have u1:W9.cell? ⟨w.heap.size,1,none⟩=some (.slice es' z.aF.length Vk):=by simp [World.cell?,JI]
         have u2:W9.cell? ⟨w.heap.size,2,none⟩=some (.slice ks' z.keys.length Sg):=by simp [World.cell?,JI]
         have u3:W9.cell? ⟨w.heap.size,3,none⟩=some (.slice (some ⟨db,zG,none⟩) z.kids.length OG):=by simp [World.cell?,JI]
         have u4:W9.cell? ⟨w.heap.size,4,none⟩=some (.slice bs' z.buf.length XQ):=by simp [World.cell?,JI]
         have HRZ:=hdd (aM My hzj)
         clear hB hS sH hdF QR YN hdx hD hz hzk SY hp hkf hz2 hrest My hzj hown' WS SU PZ Xc ML h5 rW nH kZ IM DY h9 TJ Tv hS9 SI XA MK JI Z9 HR hi k8 hy
         have HW9:=hdd je
         have HI1:=hdd im
         clear je
         go_upto_region 26 with (fail)
         rw [<-mf]
         clear y0 y1 y2 y3 y4 y5 y6 kS mf
         go_upto_region 27 with (fail)
         rw [<-HW9.out]
         clear c0 n0 n1 n2 n3 n4 x0 x1 x2 x3 x4 xf HW9 im
         go_upto_region 28 with ((go_at_call 95;(with_reducible refine xP.out.mono ?_);rintro e nQ ⟨rfl,zr⟩))
         clear s9 u0 u1 u2 u3 u4
         obtain⟨XA,MK,-⟩:=HQ.out
         have Mn:=zr.size
         have Qb:=XA.below zr
         have Q3:=(zr.block w.heap.size af).trans Yg.out
         have Ra:=(zr.cell (p:=⟨db,zG+i,none⟩) WY).trans MK
         have q3:nQ.cell? ⟨w.heap.size,3,none⟩=some (.slice (some ⟨db,zG,none⟩) z.kids.length OG):=by simp [World.cell?,Q3]
         obtain⟨s0,s1,s2,s3,s4,s5,s6⟩:=(show nQ.cell? ⟨wr.heap.size,0,none⟩=some (.int .i64 y.key)/\nQ.cell? ⟨wr.heap.size,1,none⟩=some (.int .i64 y.is.c)/\nQ.cell? ⟨wr.heap.size,2,none⟩=some (.int .i64 y.is.s)/\nQ.cell? ⟨wr.heap.size,3,none⟩=some (.int .i64 y.is.mi)/\nQ.cell? ⟨wr.heap.size,4,none⟩=some (.int .i64 y.is.ma)/\nQ.cell? ⟨wr.heap.size,5,none⟩=some (.int .i64 y.is.t)/\nQ.cell? ⟨wr.heap.size,6,none⟩=some (.int .i64 y.is.l)from by simp [World.cell?,Qb.Vj])
         have X7:=hdd Qb
         have KJ:=hdd (hput (Qb.bd.drew) HF.out.1)
         clear XA MK Qb Q3 zr
         have aaZ:=fun w'=>lQ (ab:=db) (aY:=zG) (n:=z.kids.length) (cap:=OG) (show (i:Int)=((i:Nat):Int) by rfl) hil w'
         refine bI [(0,1),(1,1),(2,0),(3,1),(4,1),(5,0),(6,0),(7,3),(8,1),(9,1),(10,1),(11,1),(12,1)] 7
          (fun W=>W.cell? ⟨w.heap.size,3,none⟩=some (.slice (some ⟨db,zG,none⟩) z.kids.length OG)/\W.cell? ⟨db,zG+i,none⟩=some (.int .i64 kd)/\W.cell? ⟨wr.heap.size,0,none⟩=some (.int .i64 y.key)/\W.cell? ⟨wr.heap.size,1,none⟩=some (.int .i64 y.is.c)/\W.cell? ⟨wr.heap.size,2,none⟩=some (.int .i64 y.is.s)/\W.cell? ⟨wr.heap.size,3,none⟩=some (.int .i64 y.is.mi)/\W.cell? ⟨wr.heap.size,4,none⟩=some (.int .i64 y.is.ma)/\W.cell? ⟨wr.heap.size,5,none⟩=some (.int .i64 y.is.t)/\W.cell? ⟨wr.heap.size,6,none⟩=some (.int .i64 y.is.l)) cy cy ⟨q3,Ra,s0,s1,s2,s3,s4,s5,s6⟩ ?_
         clear q3 Ra s0 s1 s2 s3 s4 s5 s6
         (simp only [bF,List.filterMap_cons,List.filterMap_nil,List.getElem?_cons_zero,List.getElem?_cons_succ,Option.map_some])
         (repeat first|refine bg ?_|refine aZ ?_)
         refine bp rfl (fun K hK=>?_)
         go_simp
         (with_reducible refine KJ.out.mono ?_);rintro e VD ⟨rfl,aaD⟩
         obtain⟨VL,Ot,p1,p2⟩:=aaD
         have Hv:=hdd ((X7.out.below (wy:=nQ.drew) (aJ _ _).drew).step p1 p2)
         clear p1 p2 aaZ
         go_simp
         refine hK _ _ ?_
         clear hK K
         (repeat first|refine bg ?_|refine aZ ?_)
         refine cv ?_
         go_upto_if 117 with (fail)
         have HFK:=JN HF.out.2.1
         go_cut [] (fun wx=>∃Z7 R7,Hid (Q5 M bb (dE bb (.slice (some ⟨nb,0,none⟩) rs.length cap) rs) w wx w.heap.size wr.heap.size (.slice (some ⟨eb,bZ,none⟩) LD.length Rn) LD y Z7 R7 t2))
         case first=>
          rcases HFK with ⟨Gz,rfl⟩|⟨Gz,yy,hyy,ab2,ab1,ad8,ad7,rfl⟩
          ·have hm2:¬0<=more:=af
           clear Gz
           go_wp2_with fail
           go_meet
           exact⟨VL,Ot,Hv⟩
          ·obtain⟨j2,Ov,cap2,r2,aaW,aaJ,hr2,hx2,aaU,hown2⟩:=Hv.out.bd.place hyy
           obtain rfl:j2=j':=af
           subst aaJ
           obtain⟨c0,-,-,c2,-,-,wm,-,Tm,Wv,agx⟩:=Hv.out.bd.cells hr2
           have Cc:=hown2.keys
           obtain⟨Z8,kc2,SS⟩:=Cc.isSlice
           rw [SS]at c2
           have II:=Hv.out.bd.off j2 r2 1
           have iL:=hdd fun(W:World) (hT:aw (fun b=>(r2.lS 1).ownBlock=some b) VD W)=>(⟨(hT.cell Tm (fun h=>(II bb hr2 h).1 rfl) 0).trans c0,(hT.cell Wv (fun h=>(II Ov hr2 h).2 rfl) _).trans c2⟩:W.cell? ⟨bb,0,none⟩=some (.slice (some ⟨Ov,0,none⟩) Ot.length cap2)/\W.cell? ⟨Ov,j2*5+2,none⟩=some (.slice Z8 yy.keys.length kc2))
           have H0:=hdd fun(W:World) (hT:aw (fun b=>(r2.lS 1).ownBlock=some b) VD W)=>(fun o=>(hT.frozen Wv (fun h=>(II Ov hr2 h).2 rfl) o).trans (wm o):∀o,W.frozen? ⟨Ov,o,none⟩=false)
           have zV:=hdd (Hv.out.bd.insert (W5:=(VD.alloc (.cells #[.int .i64 key] 3)).drew) (f:=1) (i:=i) (vb:=VD.heap.size) (key:=key) (x':={ yy with keys:=yy.keys.take i++key::yy.keys.drop i }) hr2 hx2 (.inl rfl) Cc ab2 af (ag) (aq _ _ rfl) aI rfl (Px yy _) rfl rfl (o:=j2*5+2) rfl)
           rw [show r2.lS 1 = .slice Z8 yy.keys.length kc2 from SS]at zV iL H0
           have im:=fun w'=>dS (ab:=Ov) (aY:=0) (n:=Ot.length) (cap:=cap2) (show (j2:Int)=((j2:Nat):Int) by rfl) aaU w'
           simp only [iM]at im
           have HYY:=hdd hyy
           clear c0 c2 wm Cc SS II hr2 hx2 hown2 hyy aaW
           go_upto_region 30 with (fail)
           refine bI [(0,1),(1,1),(2,1),(3,1),(4,0),(5,1),(6,1),(7,1),(8,1),(9,1),(10,0),(11,1),(12,1),(13,1),(14,0),(15,1),(16,1),(17,2),(18,2),(19,1),(20,1),(21,3)] 21
            (fun W=>W.cell? ⟨bb,0,none⟩=some (.slice (some ⟨Ov,0,none⟩) Ot.length cap2)/\W.cell? ⟨Ov,j2*5+2,none⟩=some (.slice Z8 yy.keys.length kc2)) cy cy (iL.out _ (aw.refl _ _).drew) ?_
           (simp only [bF,List.filterMap_cons,List.filterMap_nil,List.getElem?_cons_zero,List.getElem?_cons_succ,Option.map_some])
           (repeat first|refine bg ?_|refine aZ ?_)
           refine aS rfl (fun K hK=>?_)
           go_simp
           refine hK _ _ (iL.out _ ((aw.refl _ _).alloc _).drew) ?_
           clear hK K
           refine aS rfl (fun K hK=>?_)
           go_simp
           (with_reducible refine zV.out.mono ?_);rintro e w12 ⟨s12,n12,c12,rfl,PO,Xg,Wp⟩
           go_simp
           refine hK _ _ (iL.out _ PO) ?_
           clear hK K
           have hfz:=H0.out _ PO (j2*5+2)
           have YW:=(iL.out _ PO).2
           have CA:=hdd (Hv.out.step Xg Wp)
           clear PO Xg Wp iL H0
           (repeat first|refine bg ?_|refine aZ ?_)
           refine bp rfl (fun K hK=>?_)
           go_simp
           refine hK _ _ ?_
           clear hK K
           refine cv ?_
           clear hfz YW im zV
           generalize w12.setCell ⟨Ov,j2*5+2,none⟩ (.slice s12 n12 c12)=WA at CA ⊢
           generalize Ot.set j2 (r2.sf 1 (.slice s12 n12 c12))=R7 at CA
           generalize Value.slice (some ⟨Ov,0,none⟩) Ot.length cap2=Z7 at CA
           obtain⟨y3,QQ⟩:=bQ ({ yy with keys:=yy.keys.take i++key::yy.keys.drop i })
           have hk3:y3.kids=yy.kids:=by rw [QQ]
           have N0:=hdd (show ∀D,cH t1 j2 { yy with keys:=yy.keys.take i++key::yy.keys.drop i,kids:=D }=cH (cH t1 j2 y3) j2 { y3 with kids:=D } from fun D=>by rw [Jl,QQ])
           rw [<-QQ]at CA
           have V9:(cH t1 j2 y3).dn j2=some y3:=tK HYY.out
           clear QQ
           obtain⟨j3,L6,Nx,r3,S3,SL,hr3,hx3,S0,uE⟩:=CA.out.bd.place V9
           obtain rfl:j3=j2:=af
           subst SL
           obtain⟨c0,-,-,-,c3,-,wm,-,abr,Wu,agw⟩:=CA.out.bd.cells hr3
           have SH:=uE.kids
           obtain⟨ds3,Zd,J1⟩:=SH.isSlice
           rw [J1]at c3
           have IG:=CA.out.bd.off j3 r3 2
           have iL:=hdd fun(W:World) (hT:aw (fun b=>(r3.lS 2).ownBlock=some b) WA W)=>(⟨(hT.cell abr (fun h=>(IG bb hr3 h).1 rfl) 0).trans c0,(hT.cell Wu (fun h=>(IG L6 hr3 h).2 rfl) _).trans c3⟩:W.cell? ⟨bb,0,none⟩=some (.slice (some ⟨L6,0,none⟩) R7.length Nx)/\W.cell? ⟨L6,j3*5+3,none⟩=some (.slice ds3 y3.kids.length Zd))
           have H0:=hdd fun(W:World) (hT:aw (fun b=>(r3.lS 2).ownBlock=some b) WA W)=>(fun o=>(hT.frozen Wu (fun h=>(IG L6 hr3 h).2 rfl) o).trans (wm o):∀o,W.frozen? ⟨L6,o,none⟩=false)
           have zV:=hdd (CA.out.bd.insert (W5:=(WA.alloc (.cells #[.int .i64 more] 3)).drew) (f:=2) (i:=i+1) (vb:=WA.heap.size) (key:=more) (x':={ y3 with kids:=y3.kids.take (i+1)++more::y3.kids.drop (i+1) }) hr3 hx3 (.inr rfl) SH (by rw [hk3];exact ab1) (by rw [hk3];omega) (ag) (aq _ _ rfl) aI rfl (Pw y3 _) rfl rfl (o:=j3*5+3) rfl)
           rw [show r3.lS 2 = .slice ds3 y3.kids.length Zd from J1]at zV iL H0
           have age:i<=20:=af
           rw [show ((i+1:Nat):Int)=IntKind.i64.wrap ((i:Int)+1)from by rw [IntWalk.i64_in _ af];omega]at zV
           have im:=fun w'=>dS (ab:=L6) (aY:=0) (n:=R7.length) (cap:=Nx) (show (j3:Int)=((j3:Nat):Int) by rfl) S0 w'
           simp only [iM]at im
           have Vq:=hdd hk3
           clear c0 c3 wm SH J1 IG hr3 hx3 uE V9 S3 hk3
           go_upto_region 31 with (fail)
           refine bI [(0,1),(1,1),(2,1),(3,1),(4,0),(5,1),(6,1),(7,1),(8,1),(9,1),(10,0),(11,1),(12,1),(13,1),(14,0),(15,1),(16,1),(17,1),(18,2),(19,2),(20,1),(21,1),(22,3)] 22
            (fun W=>W.cell? ⟨bb,0,none⟩=some (.slice (some ⟨L6,0,none⟩) R7.length Nx)/\W.cell? ⟨L6,j3*5+3,none⟩=some (.slice ds3 y3.kids.length Zd)) cy cy (iL.out _ (aw.refl _ _).drew) ?_
           (simp only [bF,List.filterMap_cons,List.filterMap_nil,List.getElem?_cons_zero,List.getElem?_cons_succ,Option.map_some])
           (repeat first|refine bg ?_|refine aZ ?_)
           refine aS rfl (fun K hK=>?_)
           go_simp
           refine hK _ _ (iL.out _ ((aw.refl _ _).alloc _).drew) ?_
           clear hK K
           refine aS rfl (fun K hK=>?_)
           go_simp
           (with_reducible refine zV.out.mono ?_);rintro e w13 ⟨s13,n13,c13,rfl,PN,Xf,Wo⟩
           go_simp
           refine hK _ _ (iL.out _ PN) ?_
           clear hK K
           have hfz:=H0.out _ PN (j3*5+3)
           have YW:=(iL.out _ PN).2
           have Un:=hdd (CA.out.step Xf Wo)
           rw [Vq.out,<-N0.out]at Un
           clear PN Xf Wo iL H0
           (repeat first|refine bg ?_|refine aZ ?_)
           refine bp rfl (fun K hK=>?_)
           go_simp
           refine hK _ _ ?_
           clear hK K
           refine cv ?_
           clear hfz YW im zV
           generalize w13.setCell ⟨L6,j3*5+3,none⟩ (.slice s13 n13 c13)=WB at Un ⊢
           go_wp2_with fail
           go_meet
           exact⟨_,_,Un⟩
         case rest=>
          obtain⟨Z7,R7,Fe⟩:=hcut
          clear Hv X7 HQ Yg xP HRZ HI1 KJ HFK
          obtain⟨-,-,hz2,hgo⟩:=HF.out
          obtain⟨j3,L6,Nx,r3,S3,SL,hr3,hx3,S0,uE⟩:=Fe.out.bd.place hz2
          obtain rfl:j3=j':=af
          subst SL
          obtain⟨c0,-,-,-,c3,-,-,-,-,-,-⟩:=Fe.out.bd.cells hr3
          have cb:wc.cell? ⟨bb,2,none⟩=some (.int .i64 0):=by simp [World.cell?,Fe.out.bd.box]
          obtain⟨ds3,Zd,J1⟩:=uE.kids.isSlice
          rw [J1]at c3
          have ck:wc.cell? ⟨wr.heap.size,0,none⟩=some (.int .i64 y.key):=by simp [World.cell?,Fe.out.Vj]
          have im:=fun w'=>dS (ab:=L6) (aY:=0) (n:=R7.length) (cap:=Nx) (show (j3:Int)=((j3:Nat):Int) by rfl) S0 w'
          simp only [iM]at im
          have RG:=hdd hgo
          clear hz2 hgo hr3 hx3 uE J1 S3
          rcases RG.out with ⟨h4,hd⟩|⟨h4,hd⟩
          ·have Um:=hdd (Fe.out.r4 hd)
           clear hd
           go_wp2_with fail
           go_roundg (LD.length-(k+1))
           case measure=>omega
           case rel=>exact⟨k+1,af,rfl,by go_num,Um⟩
          ·have OP:=hdd (Lx Fe.out.bd Fe.out.own Fe.out.off XE hd)
           clear hd
           go_wp2_with (go_at_call 119;(with_reducible refine OP.out.mono ?_);rintro e w14 ⟨rfl,aaC⟩)
           refine bodyPost_ret (results_none rfl _ _ _) rfl ?_
           obtain⟨nv4,rs4,p1,p2⟩:=aaC
           exact⟨rfl,nv4,rs4,p1,Fe.out.ZQ.trans p2⟩
        ·obtain⟨kX,rs',tk,a0,a1,a2,a3,a4,hB,hS,-,-,-,-,-,hD⟩:=HR.out
         rw [AA af]at hD
         have HV:=hdd (show kO M bb (dE bb (.slice (some ⟨nb,0,none⟩) rs.length cap) rs) w t' wr from ⟨_,_,(dw hD)▸hB,hS⟩)
         clear hB hS hD HR
         go_wp2
         go_end0
         exact⟨rfl,HV.out⟩
theorem TP {f:Nat} (hput:Qq f):Ia f:=fun h hF=>J6 hput h hF
theorem Ip:∀f,Qq f
 |0=>fun _ hF=>by cases hF
 |f+1=>LB (TP (Ip f))
end
end Go.Proofs.YtmljjfhgciaceaaDoor
