/- Texts of mine that come as one: FlushA PutW Flush. -/
import Derived.Test.YtnjfkcimboidnaaDoorSP
import Derived.Test.YtnjfkcimboidnaaDoorPU
import Derived.Maps.AppendAt
/- For the walk of builder.flush: what it does, its contracts. -/
namespace Go.Proofs.YtnjfkcimboidnaaDoor
open Go.RowKit
theorem wpList_append_ent2 {w:World} {ops:Array Oper} {rest:List Oper} {o:Oper} {a:Act} {Q:Exit→Act→World→Prop} (hgd:o.guard=none) (s x:Operand)
  (ho:o.op = .call { callee:= .builtin .append,args:=#[s,x],argTypes:=#[94,94] }) (B:Nat) (v:Value) (es:List Ent) (hs:a.eval s=v) (hown:OwnEnts B w v es)
  (ad:Addr) (e:Ent) (hx:a.eval x = .slice (some ad) 1 1) (hnews:∀j u,(enEnt e)[j]?=some u→w.cell? (ad.add j)=some u) (hlen:es.length≤1000000) (hbase:B≤w.heap.size)
  (h:∀v' w',OwnEnts B w' v' (es++[e])→w.grownBy w' v.ownBlock→(v'.ownBlock=v.ownBlock∨v'.ownBlock=some w.heap.size)→wpList Tryd.prog ops Q rest (a.put o.dst v') w'):wpList Tryd.prog ops Q (o::rest) a w:=by
 obtain⟨i0,z,hi,hz,hz1,hz2,hz3⟩:=info_some Tryd.iEnt
 refine wpList_append_own_at w hgd s x 94 ho B 96 i0 z 7 56 Tryd.underlying94 hi hz hz1 hz2 hz3 (by decide) v es.length _ hs hown.row ad 1 1 (enEnt e) hx rfl hnews (enEnt_one [e] |> fun h u hu=>h u (by simpa using hu)) (by unfold maxLen;omega) (by omega) hbase ?_
 intro v' w' hown' hg _ h4
 refine h v' w' ?_ hg h4
 have:(es++[e]).flatMap enEnt=es.flatMap enEnt++enEnt e:=by simp
 refine⟨?_⟩
 rw [this,List.length_append]
 exact hown'
def PutC (f:Nat):Prop:=∀{M:Nat} {w:World} {bb:Nat} {nv:Value} {rs:List Raw} {t t':Tr} {n:Int} {e:Ent} {more key:Int},Bd M w bb nv rs t→putF f t n e=some (t',more,key) →
 Calls Tryd.prog 75 #[.pointer (some ⟨bb,0,none⟩), .int .i64 n, .agg #[.int .i64 e.key, .int .i64 e.is.c, .int .i64 e.is.s, .int .i64 e.is.mi, .int .i64 e.is.ma, .int .i64 e.is.t, .int .i64 e.is.l]] w
  fun x w'=>x = .returned (.tuple #[.int .i64 more, .int .i64 key])∧BdPost M bb (Foot bb nv rs) w t' w'
theorem lt4' {i:Nat} (h:i≤3):i=0∨i=1∨i=2∨i=3:=by omega
theorem heap_set4 {w:World} {b i:Nat} {a0 a1 a2 a3 v:Value} {T:TypeId} {fr:Nat×Nat} (h:w.heap[b]?=some (.cells #[a0,a1,a2,a3] T fr)) (hi:i≤3) :
  (w.setCell ⟨b,i,none⟩ v).heap[b]?=some (.cells #[if 0=i then v else a0,if 1=i then v else a1,if 2=i then v else a2,if 3=i then v else a3] T fr):=by
 have h:=heap_setCell_same (off:=i) (v:=v) h
 rw [h]
 rcases lt4' hi with rfl|rfl|rfl|rfl <;> simp
theorem idx_arr4 {m:Nat→Nat} {k:Nat} (hk:k<4) (w:World):(Instr.index 173 (.agg #[.int .i64 (m 0:Nat), .int .i64 (m 1:Nat), .int .i64 (m 2:Nat), .int .i64 (m 3:Nat)]) (.int .i64 (k:Nat))).run Tryd.prog w = .ok (.int .i64 (m k:Nat)) w:=by
 unfold Instr.index
 rcases lt4 hk with rfl|rfl|rfl|rfl <;> simp [go_sem]
theorem bestF_le (m:Nat→Nat):∀k,k≤4→bestF m k≤3
 |0,_=>by unfold bestF;omega
 |k+1,h=>by
  have:=bestF_le m k (by omega)
  unfold bestF
  split <;> omega
def cnt (x:Nd) (k j:Nat):Nat:=((x.buf.take k).filter fun e=>decide (kidIx x.keys e.key=j)).length
theorem flushF_some {put:Tr→Int→Ent→Option (Tr×Int×Int)} {t t':Tr} {n:Int} (hF:flushF put t n=some t'):∃x,t.at? n=some x∧x.keys.Pairwise (·<·)∧x.keys.length≤3∧x.buf.length≤20∧Checked x.buf ∧
  downF put n (x.buf.filter fun e=>decide (kidIx x.keys e.key=bestF (manyF x) 4)) (x.buf.filter fun e=>decide (kidIx x.keys e.key=bestF (manyF x) 4))
    (setN t n { x with buf:=x.buf.filter fun e=>!decide (kidIx x.keys e.key=bestF (manyF x) 4) })=some t':=by
 unfold flushF at hF
 split at hF
 ·cases hF
 ·rename_i x hx
  split at hF
  ·rename_i hg
   exact⟨x,hx,hg.1,hg.2.1,hg.2.2.1,hg.2.2.2,hF⟩
  ·cases hF
theorem cnt_succ {x:Nd} {k:Nat} (hk:k<x.buf.length) (j:Nat):cnt x (k+1) j=if j=kidIx x.keys x.buf[k].key then cnt x k j+1 else cnt x k j:=by
 unfold cnt
 rw [List.take_succ_eq_append_getElem hk,List.filter_append,List.length_append]
 by_cases h:kidIx x.keys x.buf[k].key=j
 ·rw [if_pos h.symm,List.filter_cons_of_pos (by simpa using h)];simp
 ·rw [if_neg (Ne.symm h),List.filter_cons_of_neg (by simpa using h)];simp
theorem cnt_le (x:Nd) (k j:Nat):cnt x k j≤x.buf.length:=by
 unfold cnt
 exact Nat.le_trans (List.length_filter_le _ _) (by rw [List.length_take];omega)
theorem cnt_all (x:Nd) (j:Nat):cnt x x.buf.length j=manyF x j:=by unfold cnt manyF;rw [List.take_length]
def Cnt4 (x:Nd) (k:Nat):Array Value:=#[.int .i64 (cnt x k 0:Nat), .int .i64 (cnt x k 1:Nat), .int .i64 (cnt x k 2:Nat), .int .i64 (cnt x k 3:Nat)]
def R3 (x:Nd) (best B:Nat) (wr w3:World) (k:Nat) (dv sv:Value):Prop:=
 Below B wr w3∧OwnEnts B w3 dv ((x.buf.take k).filter fun e=>decide (kidIx x.keys e.key=best))∧OwnEnts B w3 sv ((x.buf.take k).filter fun e=>!decide (kidIx x.keys e.key=best))∧∀b,sv.ownBlock=some b→dv.ownBlock≠some b
theorem R3.down {x:Nd} {best B k:Nat} {wr w3 w9 w10:World} {dv sv v:Value} (h:R3 x best B wr w3 k dv sv) (hB:B≤wr.heap.size) (hlt:k<x.buf.length) (hk:kidIx x.keys x.buf[k].key=best) (h9:Below w3.heap.size w3 w9)
  (ho:OwnEnts B w10 v (((x.buf.take k).filter fun e=>decide (kidIx x.keys e.key=best))++[x.buf[k]])) (hg:w9.grownBy w10 dv.ownBlock) (hv:v.ownBlock=dv.ownBlock∨v.ownBlock=some w9.heap.size):R3 x best B wr w10 (k+1) v sv:=by
 obtain⟨h1,h2,h3,h4⟩:=h
 have hs1:=h1.size
 have hs9:=h9.size
 refine⟨Below.grown (Below.trans' h1 h9 (by omega)) hg (by omega) fun j hj=>(h2.lt j hj).1,?_,?_,fun b hb hb'=>?_⟩
 ·rw [List.take_succ_eq_append_getElem hlt,List.filter_append,List.filter_cons_of_pos (by simpa using hk)]
  exact ho
 ·rw [List.take_succ_eq_append_getElem hlt,List.filter_append,List.filter_cons_of_neg (by simpa using hk),List.filter_nil,List.append_nil]
  exact h3.block fun b hb=>(hg.block b (by have:=(h3.lt b hb).2;omega) (fun e=>h4 b hb e.symm)).trans (h9.block b (h3.lt b hb).2)
 ·rcases hv with hv|hv
  ·exact h4 b hb (hv▸hb')
  ·have:=(h3.lt b hb).2
   rw [hv]at hb';injection hb' with hb';omega
theorem R3.stay {x:Nd} {best B k:Nat} {wr w3 w9 w10:World} {dv sv v:Value} (h:R3 x best B wr w3 k dv sv) (hB:B≤wr.heap.size) (hlt:k<x.buf.length) (hk:¬kidIx x.keys x.buf[k].key=best) (h9:Below w3.heap.size w3 w9)
  (ho:OwnEnts B w10 v (((x.buf.take k).filter fun e=>!decide (kidIx x.keys e.key=best))++[x.buf[k]])) (hg:w9.grownBy w10 sv.ownBlock) (hv:v.ownBlock=sv.ownBlock∨v.ownBlock=some w9.heap.size):R3 x best B wr w10 (k+1) dv v:=by
 obtain⟨h1,h2,h3,h4⟩:=h
 have hs1:=h1.size
 have hs9:=h9.size
 refine⟨Below.grown (Below.trans' h1 h9 (by omega)) hg (by omega) fun j hj=>(h3.lt j hj).1,?_,?_,fun b hb hb'=>?_⟩
 ·rw [List.take_succ_eq_append_getElem hlt,List.filter_append,List.filter_cons_of_neg (by simpa using hk),List.filter_nil,List.append_nil]
  exact h2.block fun b hb=>(hg.block b (by have:=(h2.lt b hb).2;omega) (fun e=>h4 b e.symm hb)).trans (h9.block b (h2.lt b hb).2)
 ·rw [List.take_succ_eq_append_getElem hlt,List.filter_append,List.filter_cons_of_pos (by simpa using hk)]
  exact ho
 ·rcases hv with hv|hv
  ·exact h4 b (hv▸hb) hb'
  ·have:=(h2.lt b hb').2
   rw [hv]at hb;injection hb with hb;omega
theorem foot_setF {bb j f:Nat} {nv v:Value} {rs:List Raw} {r:Raw} (hr:rs[j]?=some r) (hf:f<4) {b:Nat} (h:Foot bb nv (rs.set j (r.setF f v)) b):Foot bb nv rs b∨v.ownBlock=some b:=by
 rcases h with rfl|h|⟨i,s,g,hs,hb⟩
 ·exact .inl (.inl rfl)
 ·exact .inl (.inr (.inl h))
 ·by_cases hi:i=j
  ·subst hi
   rw [List.getElem?_set_self (List.getElem?_eq_some_iff.1 hr).1]at hs
   obtain rfl:=Option.some.inj hs
   by_cases hg:g=f
   ·subst hg;rw [Raw.setF_self r hf]at hb;exact .inr hb
   ·rw [Raw.setF_ne r hf v hg]at hb;exact .inl (.inr (.inr ⟨i,r,g,hr,hb⟩))
  ·rw [List.getElem?_set_ne (Ne.symm hi)]at hs;exact .inl (.inr (.inr ⟨i,s,g,hs,hb⟩))
theorem nd_set3 (x:Nd) (B:List Ent):∀g,g≠3→Nd.fN { x with buf:=B } g=x.fN g∧Nd.fC { x with buf:=B } g=x.fC g:=fun g hg=>by
 rcases Nat.lt_or_ge g 4 with h4|h4
 ·rcases lt4 h4 with rfl|rfl|rfl|rfl <;> first|exact⟨rfl,rfl⟩|exact absurd rfl hg
 ·obtain⟨k,rfl⟩:∃k,g=k+4:=⟨g-4,by omega⟩;exact⟨rfl,rfl⟩
theorem nd_set1 (x:Nd) (B:List Int):∀g,g≠1→Nd.fN { x with keys:=B } g=x.fN g∧Nd.fC { x with keys:=B } g=x.fC g:=fun g hg=>by
 rcases Nat.lt_or_ge g 4 with h4|h4
 ·rcases lt4 h4 with rfl|rfl|rfl|rfl <;> first|exact⟨rfl,rfl⟩|exact absurd rfl hg
 ·obtain⟨k,rfl⟩:∃k,g=k+4:=⟨g-4,by omega⟩;exact⟨rfl,rfl⟩
theorem nd_set2 (x:Nd) (B:List Int):∀g,g≠2→Nd.fN { x with kids:=B } g=x.fN g∧Nd.fC { x with kids:=B } g=x.fC g:=fun g hg=>by
 rcases Nat.lt_or_ge g 4 with h4|h4
 ·rcases lt4 h4 with rfl|rfl|rfl|rfl <;> first|exact⟨rfl,rfl⟩|exact absurd rfl hg
 ·obtain⟨k,rfl⟩:∃k,g=k+4:=⟨g-4,by omega⟩;exact⟨rfl,rfl⟩
theorem setN_setN (t:Tr) (n:Int) (x y:Nd):setN (setN t n x) n y=setN t n y:=by simp [setN]
theorem downF_cons {put:Tr→Int→Ent→Option (Tr×Int×Int)} {n:Int} {all ds:List Ent} {e:Ent} {t t':Tr} (h:downF put n all (e::ds) t=some t'):∃x k t1 more key t2 z,t.at? n=some x∧(x.keys.Pairwise (·<·)∧x.keys.length≤20∧x.kids.length≤20) ∧
  x.kids[kidIx x.keys e.key]?=some k∧put t k e=some (t1,more,key)∧kidF t1 n (kidIx x.keys e.key) more key=some t2∧t2.at? n=some z ∧
  ((z.kids.length≤4∧downF put n all ds t2=some t')∨(¬z.kids.length≤4∧(all.filter fun d=>decide (e.key<d.key)).foldlM (restF n) t2=some t')):=by
 unfold downF at h
 split at h
 ·cases h
 rename_i x hx
 by_cases hk:x.keys.Pairwise (·<·)∧x.keys.length≤20∧x.kids.length≤20
 ·rw [if_pos hk]at h
  split at h
  ·cases h
  rename_i k hk2
  split at h
  ·cases h
  rename_i t1 more key hp
  split at h
  ·cases h
  rename_i t2 ht2
  split at h
  ·cases h
  rename_i z hz
  refine⟨x,k,t1,more,key,t2,z,hx,hk,hk2,hp,ht2,hz,?_⟩
  by_cases h4:z.kids.length≤4
  ·rw [if_pos h4]at h;exact .inl ⟨h4,h⟩
  ·rw [if_neg h4]at h;exact .inr ⟨h4,h⟩
 ·rw [if_neg hk]at h;cases h
theorem kidF_some {t1 t2:Tr} {n more key:Int} {i:Nat} (h:kidF t1 n i more key=some t2):(more<0∧t2=t1)∨(0≤more∧∃y,t1.at? n=some y∧i≤y.keys.length∧i+1≤y.kids.length∧y.kids.length≤20∧y.keys.length≤20 ∧
  t2=setN t1 n { y with keys:=y.keys.take i++key::y.keys.drop i,kids:=y.kids.take (i+1)++more::y.kids.drop (i+1) }):=by
 unfold kidF at h
 by_cases hm:more<0
 ·rw [if_pos hm]at h;exact .inl ⟨hm,(Option.some.inj h).symm⟩
 ·rw [if_neg hm]at h
  split at h
  ·cases h
  rename_i y hy
  split at h
  ·rename_i hg
   exact .inr ⟨by omega,y,hy,hg.1,hg.2.1,hg.2.2.1,hg.2.2.2,(Option.some.inj h).symm⟩
  ·cases h
theorem turn_set1 {g o:Nat} {a w:World} (h:Turn (fun b=>b=g) a w) (v:Value):Turn (fun b=>b=g) a (w.setCell ⟨g,o,none⟩ v):=Turn.setCell (p:=⟨g,o,none⟩) h (Or.inl (Eq.refl g)) v
theorem turn_set5 {g:Nat} {a w:World} (h:Turn (fun b=>b=g) a w) (v0 v1 v2 v3 v4:Value):Turn (fun b=>b=g) a (((((w.setCell ⟨g,0,none⟩ v0).setCell ⟨g,1,none⟩ v1).setCell ⟨g,2,none⟩ v2).setCell ⟨g,3,none⟩ v3).setCell ⟨g,4,none⟩ v4):=
 turn_set1 (turn_set1 (turn_set1 (turn_set1 (turn_set1 h v0) v1) v2) v3) v4
def R4 (M bb:Nat) (F:Nat→Prop) (w wr:World) (xb:Nat) (dv:Value) (put:Tr→Int→Ent→Option (Tr×Int×Int)) (n:Int) (down rest:List Ent) (t':Tr):Prop:=
 ∃nv' rs' tk a0 a1 a2 a3 a4,Bd M wr bb nv' rs' tk∧Stp F (Foot bb nv' rs') w wr∧OwnEnts M wr dv down∧(∀b,dv.ownBlock=some b→¬Foot bb nv' rs' b)∧wr.heap[xb]?=some (.cells #[a0,a1,a2,a3,a4] 133)∧¬Foot bb nv' rs' xb∧dv.ownBlock≠some xb∧downF put n down rest tk=some t'
structure Q5 (M bb:Nat) (F:Nat→Prop) (w wx:World) (xb eb:Nat) (dv:Value) (down:List Ent) (y:Ent) (nv:Value) (rs:List Raw) (t:Tr):Prop where
 bd:Bd M wx bb nv rs t
 stp:Stp F (Foot bb nv rs) w wx
 own:OwnEnts M wx dv down
 off:∀b,dv.ownBlock=some b→¬Foot bb nv rs b
 box:∃a0 a1 a2 a3 a4,wx.heap[xb]?=some (.cells #[a0,a1,a2,a3,a4] 133)
 noff:¬Foot bb nv rs xb
 dx:dv.ownBlock≠some xb
 ent:wx.heap[eb]?=some (.cells #[.int .i64 y.key, .int .i64 y.is.c, .int .i64 y.is.s, .int .i64 y.is.mi, .int .i64 y.is.ma, .int .i64 y.is.t, .int .i64 y.is.l] 96)
 eoff:¬Foot bb nv rs eb
theorem Q5.step {M bb:Nat} {F:Nat→Prop} {w wx wy:World} {xb eb:Nat} {dv:Value} {down:List Ent} {y:Ent} {nv nv2:Value} {rs rs2:List Raw} {t t2:Tr} (h:Q5 M bb F w wx xb eb dv down y nv rs t) (hB:Bd M wy bb nv2 rs2 t2)
  (hS:Stp (Foot bb nv rs) (Foot bb nv2 rs2) wx wy):Q5 M bb F w wy xb eb dv down y nv2 rs2 t2:=by
 obtain⟨o1,o2⟩:=own_stay h.own hS h.off
 obtain⟨a0,a1,a2,a3,a4,hb⟩:=h.box
 obtain⟨x1,x2⟩:=hS.stay (Array.getElem?_eq_some_iff.1 hb).1 h.noff
 obtain⟨e1,e2⟩:=hS.stay (Array.getElem?_eq_some_iff.1 h.ent).1 h.eoff
 exact⟨hB,h.stp.trans hS,o1,o2,⟨a0,a1,a2,a3,a4,x1.trans hb⟩,x2,h.dx,e1.trans h.ent,e2⟩
theorem Q5.below {M bb:Nat} {F:Nat→Prop} {w wx wy:World} {xb eb:Nat} {dv:Value} {down:List Ent} {y:Ent} {nv:Value} {rs:List Raw} {t:Tr} (h:Q5 M bb F w wx xb eb dv down y nv rs t) (hb:Below wx.heap.size wx wy) :
  Q5 M bb F w wy xb eb dv down y nv rs t:=h.step (h.bd.below hb (Nat.le_refl _)) (Stp.of hb (Nat.le_refl _))
theorem Q5.r4 {M bb:Nat} {F:Nat→Prop} {w wx:World} {xb eb:Nat} {dv:Value} {down rest:List Ent} {y:Ent} {nv:Value} {rs:List Raw} {t t':Tr} {put:Tr→Int→Ent→Option (Tr×Int×Int)} {n:Int} (h:Q5 M bb F w wx xb eb dv down y nv rs t)
  (hd:downF put n down rest t=some t'):R4 M bb F w wx xb dv put n down rest t':=by
 obtain⟨a0,a1,a2,a3,a4,hb⟩:=h.box
 exact⟨_,_,_,_,_,_,_,_,h.bd,h.stp,h.own,h.off,hb,h.noff,h.dx,hd⟩
theorem Bd.insert {M:Nat} {w W5:World} {bb nb cap j f i vb:Nat} {key:Int} {rs:List Raw} {t:Tr} {r:Raw} {x x':Nd} {es:List Int} (h:Bd M w bb (.slice (some ⟨nb,0,none⟩) rs.length cap) rs t) (hr:rs[j]?=some r) (hx:t.nodes[j]?=some x) (hf:f=1∨f=2)
  (hes:OwnInts M w (r.fld f) es) (hi:i≤es.length) (hlen:es.length≤100000) (h5:Below w.heap.size w W5) (hvb:W5.heap[vb]?=some (.cells #[.int .i64 key] 3)) (hvl:w.heap.size≤vb)
  (hl:x'.leaf=x.leaf) (ho:∀g,g≠f→x'.fN g=x.fN g∧x'.fC g=x.fC g) (hN:x'.fN f=(es.take i++key::es.drop i).length) (hC:x'.fC f=(es.take i++key::es.drop i).flatMap enInt) {o:Nat} (hoff:o=j*5+(f+1)) :
  Calls Tryd.prog 101 #[r.fld f, .int .i64 i, .slice (some ⟨vb,0,none⟩) 1 1] W5 fun e w'=>∃so n sc,e = .returned (.slice so n sc)∧Turn (fun b=>(r.fld f).ownBlock=some b) w w' ∧
   Bd M (w'.setCell ⟨nb,o,none⟩ (.slice so n sc)) bb (.slice (some ⟨nb,0,none⟩) rs.length cap) (rs.set j (r.setF f (.slice so n sc))) (setN t j x') ∧
   Stp (Foot bb (.slice (some ⟨nb,0,none⟩) rs.length cap) rs) (Foot bb (.slice (some ⟨nb,0,none⟩) rs.length cap) (rs.set j (r.setF f (.slice so n sc)))) w (w'.setCell ⟨nb,o,none⟩ (.slice so n sc)):=by
 have hlow:=(h.lt bb (.inl rfl)).1
 have hbl:=(h.lt bb (.inl rfl)).2
 have hs5:=h5.size
 have he5:=hes.below h5 (Nat.le_refl _)
 refine(insertI_any (x:=key) he5 hi (by omega) hlen hvb (fun e=>by have:=(hes.lt vb e).2;omega)).mono ?_
 rintro e w' ⟨v',rfl,hown,hg,hv⟩
 obtain⟨so,sc,rfl⟩:=hown.isSlice
 have hT:Turn (fun b=>(r.fld f).ownBlock=some b) w w':=(Turn.of h5 (Nat.le_refl _)).trans ⟨hg.os,hg.tape,hg.output,hg.size,fun b hb hne=>hg.block b hb fun e=>hne e.symm⟩
 obtain⟨q1,q2⟩:=h.field (f:=f) rfl hr hx (by omega) hT (v':= .slice so (es.take i++key::es.drop i).length sc) (x':=x') (by
   have:=hown.row
   rw [hN,hC]
   rcases hf with rfl|rfl <;> exact this) (fun b hb=>by
   rcases hv with e|e
   ·exact .inl (e▸hb)
   ·rw [e]at hb;injection hb with hb;exact .inr (by omega)) hl ho hoff
 exact⟨so,_,sc,rfl,hT,q1,q2⟩
end Go.Proofs.YtnjfkcimboidnaaDoor

/- The walk of builder.put: the contract at one height more. -/
namespace Go.Proofs.YtnjfkcimboidnaaDoor
open Go.RowKit
theorem Bd.merge {M:Nat} {w W5:World} {bb nb cap j f:Nat} {rs:List Raw} {t:Tr} {r:Raw} {x x':Nd} {es L:List Ent} {e:Ent} (h:Bd M w bb (.slice (some ⟨nb,0,none⟩) rs.length cap) rs t) (hr:rs[j]?=some r) (hx:t.nodes[j]?=some x) (hf:f=0∨f=3)
  (hes:OwnEnts M w (r.fld f) es) (hrow:RowOk es) (hent:EntOk e) (hins:insC es e=some L) (h5:Below w.heap.size w W5)
  (hl:x'.leaf=x.leaf) (ho:∀g,g≠f→x'.fN g=x.fN g∧x'.fC g=x.fC g) (hN:x'.fN f=L.length) (hC:x'.fC f=L.flatMap enEnt) {o:Nat} (hoff:o=j*5+(f+1)) :
  Calls Tryd.prog 73 #[r.fld f, .agg #[.int .i64 e.key, .int .i64 e.is.c, .int .i64 e.is.s, .int .i64 e.is.mi, .int .i64 e.is.ma, .int .i64 e.is.t, .int .i64 e.is.l]] W5 fun y w'=>∃so sc,y = .returned (.tuple #[.slice so L.length sc, .int .i64 0])∧Turn (fun b=>(r.fld f).ownBlock=some b) w w' ∧
   Bd M (w'.setCell ⟨nb,o,none⟩ (.slice so L.length sc)) bb (.slice (some ⟨nb,0,none⟩) rs.length cap) (rs.set j (r.setF f (.slice so L.length sc))) (setN t j x') ∧
   Stp (Foot bb (.slice (some ⟨nb,0,none⟩) rs.length cap) rs) (Foot bb (.slice (some ⟨nb,0,none⟩) rs.length cap) (rs.set j (r.setF f (.slice so L.length sc)))) w (w'.setCell ⟨nb,o,none⟩ (.slice so L.length sc)):=by
 have hlow:=(h.lt bb (.inl rfl)).1
 have hbl:=(h.lt bb (.inl rfl)).2
 have hs5:=h5.size
 have hm:=merged_any (w:=W5) (x:=e) (hes.below h5 (Nat.le_refl _)) (by omega) (by have:=hrow.2.2.2;omega) hrow.1 (fun e he=>(hrow.2.1 e he).2) hent.2.1 hrow.2.2.1 hent.2.2
 rw [hins]at hm
 refine hm.mono ?_
 rintro y w' ⟨ht,v',rfl,hown,hv⟩
 obtain⟨so,sc,rfl⟩:=hown.isSlice
 have hT:Turn (fun b=>(r.fld f).ownBlock=some b) w w':=(Turn.of h5 (Nat.le_refl _)).trans ht
 obtain⟨q1,q2⟩:=h.field (f:=f) rfl hr hx (by omega) hT (v':= .slice so L.length sc) (x':=x') (by
   have:=hown.row
   rw [hN,hC]
   rcases hf with rfl|rfl <;> exact this) (fun b hb=>by
   rcases hv b hb with e|e
   ·exact .inl e
   ·exact .inr (by omega)) hl ho hoff
 exact⟨so,sc,rfl,hT,q1,q2⟩
theorem insG_some {l L:List Ent} {e:Ent} (h:insG l e=some L):RowOk l∧EntOk e∧insC l e=some L:=by
 unfold insG at h
 split at h
 ·rename_i hg;exact⟨hg.1,hg.2,h⟩
 ·cases h
theorem putF_some {f:Nat} {t t':Tr} {n more key:Int} {e:Ent} (h:putF (f+1) t n e=some (t',more,key)):∃x,t.at? n=some x ∧
  ((x.leaf=true∧∃L,insG x.ents e=some L∧splitF (setN t n { x with ents:=L }) n=some (t',more,key)) ∨
  (x.leaf=false∧∃L,insG x.buf e=some L∧((L.length≤8∧splitF (setN t n { x with buf:=L }) n=some (t',more,key)) ∨
    (¬L.length≤8∧∃t2,flushF (putF f) (setN t n { x with buf:=L }) n=some t2∧splitF t2 n=some (t',more,key))))):=by
 unfold putF at h
 split at h
 ·cases h
 rename_i x hx
 refine⟨x,hx,?_⟩
 split at h
 ·rename_i hl
  split at h
  ·cases h
  rename_i L hL
  exact .inl ⟨hl,L,hL,h⟩
 ·rename_i hl
  split at h
  ·cases h
  rename_i L hL
  refine .inr ⟨by simpa using hl,L,hL,?_⟩
  split at h
  ·rename_i h8;exact .inl ⟨h8,h⟩
  ·rename_i h8
   split at h
   ·cases h
   rename_i t2 ht2
   exact .inr ⟨h8,t2,ht2,h⟩
theorem cell_setOff {w:World} {b o o':Nat} {v u:Value} (h:o≠o') (hq:w.cell? ⟨b,o',none⟩=some u):(w.setCell ⟨b,o,none⟩ v).cell? ⟨b,o',none⟩=some u:=by
 unfold World.cell? at hq ⊢
 simp only at hq ⊢
 split at hq
 ·rename_i c e fr hb
  rw [heap_setCell_same hb]
  simp only [Option.isSome_none]at hq ⊢
  rw [if_neg (by simp)]at hq ⊢
  rw [Array.getElem?_setIfInBounds_ne h];exact hq
 ·cases hq
theorem cell_setSame {w:World} {b o:Nat} {v u:Value} (hq:w.cell? ⟨b,o,none⟩=some u):(w.setCell ⟨b,o,none⟩ v).cell? ⟨b,o,none⟩=some v:=by
 unfold World.cell? at hq ⊢
 simp only at hq ⊢
 split at hq
 ·rename_i c e fr hb
  rw [heap_setCell_same hb]
  simp only [Option.isSome_none]at hq ⊢
  rw [if_neg (by simp)]at hq ⊢
  have:=(Array.getElem?_eq_some_iff.1 hq).1
  simp [this]
 ·cases hq
theorem nd_set0 (x:Nd) (B:List Ent):∀g,g≠0→Nd.fN { x with ents:=B } g=x.fN g∧Nd.fC { x with ents:=B } g=x.fC g:=fun g hg=>by
 rcases Nat.lt_or_ge g 4 with h4|h4
 ·rcases lt4 h4 with rfl|rfl|rfl|rfl <;> first|exact⟨rfl,rfl⟩|exact absurd rfl hg
 ·obtain⟨k,rfl⟩:∃k,g=k+4:=⟨g-4,by omega⟩;exact⟨rfl,rfl⟩
def FlushC (f:Nat):Prop:=∀{M:Nat} {w:World} {bb:Nat} {nv:Value} {rs:List Raw} {t t':Tr} {n:Int},Bd M w bb nv rs t→flushF (putF f) t n=some t' →
  Calls Tryd.prog 90 #[.pointer (some ⟨bb,0,none⟩), .int .i64 n] w fun e w'=>e = .returned (.tuple #[])∧BdPost M bb (Foot bb nv rs) w t' w'
set_option maxRecDepth 100000 in
set_option maxHeartbeats 4000000 in
theorem put_leaf {M:Nat} {w:World} {bb:Nat} {nv:Value} {rs:List Raw} {t t':Tr} {n:Int} {e:Ent} {more key:Int} {x:Nd} {L:List Ent} (h:Bd M w bb nv rs t) (hx:t.at? n=some x) (hlf:x.leaf=true) (hins:insG x.ents e=some L)
  (hF:splitF (setN t n { x with ents:=L }) n=some (t',more,key)) :
  Calls Tryd.prog 75 #[.pointer (some ⟨bb,0,none⟩), .int .i64 n, .agg #[.int .i64 e.key, .int .i64 e.is.c, .int .i64 e.is.s, .int .i64 e.is.mi, .int .i64 e.is.ma, .int .i64 e.is.t, .int .i64 e.is.l]] w
  fun y w'=>y = .returned (.tuple #[.int .i64 more, .int .i64 key])∧BdPost M bb (Foot bb nv rs) w t' w':=by
 obtain⟨hrow,hent,hins⟩:=insG_some hins
 obtain⟨j,nb,cap,r,rfl,rfl,hrj,hxj,hjl,hown⟩:=h.place hx
 have hvl:=hown.leaf
 rw [hlf]at hvl
 obtain⟨so,sc,hev⟩:=hown.ents.isSlice
 obtain⟨W1,hW1⟩:∃W1,W1=w.alloc (.cells #[.int .i64 e.key, .int .i64 e.is.c, .int .i64 e.is.s, .int .i64 e.is.mi, .int .i64 e.is.ma, .int .i64 e.is.t, .int .i64 e.is.l] 96):=⟨_,rfl⟩
 have hb1:Below w.heap.size w W1:=by rw [hW1];exact belowAuto
 have hz1:W1.heap.size=w.heap.size+1:=by rw [hW1];simp
 have k1:W1.heap[w.heap.size]?=some (.cells #[.int .i64 e.key, .int .i64 e.is.c, .int .i64 e.is.s, .int .i64 e.is.mi, .int .i64 e.is.ma, .int .i64 e.is.t, .int .i64 e.is.l] 96):=by rw [hW1];exact heap_new _ _ rfl
 have h1:=h.below hb1 (Nat.le_refl _)
 obtain⟨c0,l0,e1,e2,e3,e4,cfn,cfb,hbl,hnl,hbn⟩:=h1.cells hrj
 rw [hvl]at l0
 have cR:=e1
 rw [hev]at cR
 have HCF:=Lib.hid cfn
 have hen:w.heap.size≠nb:=fun e=>by have:=(h.lt nb (.inr (.inl rfl))).2;omega
 have hixn:=fun w'=>idx_node (ab:=nb) (aoff:=0) (n:=rs.length) (cap:=cap) (show (j:Int)=((j:Nat):Int) by rfl) hjl w'
 simp only [Nat.zero_add]at hixn
 have HM:=Lib.hid fun(W5:World) (h5:Below W1.heap.size W1 W5)=>h1.merge (j:=j) (f:=0) (x':={ x with ents:=L }) hrj hxj (.inl rfl) (h1.nds j r x hrj hxj).ents hrow hent hins h5 rfl (nd_set0 x L) rfl rfl (o:=j*5+1) rfl
 have HSP:=Lib.hid (And.intro hb1 (And.intro h1 (And.intro hrj hxj)))
 have HK1:=Lib.hid k1
 have HEV:=Lib.hid hev
 have HNE:=Lib.hid (show (Value.slice so x.ents.length sc).ownBlock≠some nb from fun hh=>(h1.off j r 0 nb hrj (by show r.ev.ownBlock=_;rw [hev];exact hh)).2 rfl)
 have HNW:=Lib.hid (show (Value.slice so x.ents.length sc).ownBlock≠some w.heap.size from fun hh=>by have:=(h.lt w.heap.size (.inr (.inr ⟨j,r,0,hrj,by show r.ev.ownBlock=_;rw [hev];exact hh⟩))).2;omega)
 have HFL:=Lib.hid hF
 clear h h1 hx hins hrow hent hrj hxj hown hb1 e1 e2 e3 e4 cfb hvl hlf k1 hev hF cfn
 go_enter Tryd.func75,Tryd.ntmps75
 go_upto_region 1 with (fail)
 rw [←hW1]
 clear hW1
 go_upto_region 5 with (fail)
 have hse:∀(W:World),W.heap[w.heap.size]?=W1.heap[w.heap.size]?→(W.cell? ⟨w.heap.size,0,none⟩=some (.int .i64 e.key)∧W.cell? ⟨w.heap.size,1,none⟩=some (.int .i64 e.is.c)∧W.cell? ⟨w.heap.size,2,none⟩=some (.int .i64 e.is.s)∧W.cell? ⟨w.heap.size,3,none⟩=some (.int .i64 e.is.mi)∧W.cell? ⟨w.heap.size,4,none⟩=some (.int .i64 e.is.ma)∧W.cell? ⟨w.heap.size,5,none⟩=some (.int .i64 e.is.t)∧W.cell? ⟨w.heap.size,6,none⟩=some (.int .i64 e.is.l)):=fun W hW=>by
  have:=hW.trans HK1.out
  simp [World.cell?,this]
 have hS0:=hse W1.drew rfl
 clear hse
 refine wp_region_sched [(0,1),(1,1),(2,0),(3,0),(4,3),(5,1),(6,1),(7,1),(8,1),(9,1)] 4
  (fun W=>W.cell? ⟨nb,j*5+1,none⟩=some (.slice so x.ents.length sc)∧W.cell? ⟨w.heap.size,0,none⟩=some (.int .i64 e.key)∧W.cell? ⟨w.heap.size,1,none⟩=some (.int .i64 e.is.c)∧W.cell? ⟨w.heap.size,2,none⟩=some (.int .i64 e.is.s)∧W.cell? ⟨w.heap.size,3,none⟩=some (.int .i64 e.is.mi)∧W.cell? ⟨w.heap.size,4,none⟩=some (.int .i64 e.is.ma)∧W.cell? ⟨w.heap.size,5,none⟩=some (.int .i64 e.is.t)∧W.cell? ⟨w.heap.size,6,none⟩=some (.int .i64 e.is.l)) (by kernel_rfl) (by kernel_rfl) ⟨cR,hS0⟩ ?_
 clear hS0
 (simp only [pickS,List.filterMap_cons,List.filterMap_nil,List.getElem?_cons_zero,List.getElem?_cons_succ,Option.map_some])
 (repeat (first|((refine sched_pure (v:=?_) rfl (fun W=>?_) ?_);rotate_left;focus (go_simp;(try with_reducible rfl);done))|((refine sched_read (v:=?_) rfl (fun W hW=>?_) ?_);rotate_left;focus ((try dsimp only at hW);go_simp;(try with_reducible rfl);done))))
 refine sched_last rfl (fun K hK=>?_)
 go_simp
 have HMC:=HM.out W1.drew (Below.refl _ _).drew
 rw [show r.fld 0 = .slice so x.ents.length sc from HEV.out]at HMC
 (with_reducible refine HMC.mono ?_);rintro y w5 ⟨s5,c5,rfl,ht5,hB5,hS5⟩
 clear HMC
 go_simp
 refine hK _ _ ?_
 clear hK K
 (repeat (first|((refine sched_pure (v:=?_) rfl (fun W=>?_) ?_);rotate_left;focus (go_simp;(try with_reducible rfl);done))|((refine sched_read (v:=?_) rfl (fun W hW=>?_) ?_);rotate_left;focus ((try dsimp only at hW);go_simp;(try with_reducible rfl);done))))
 refine sched_end ?_
 have q4:w5.cell? ⟨nb,j*5+1,none⟩=some (.slice so x.ents.length sc):=(ht5.cell hnl HNE.out _).trans cR
 have qf:w5.frozen? ⟨nb,j*5+1,none⟩=false:=(ht5.frozen hnl HNE.out _).trans (HCF.out _)
 have q0:w5.cell? ⟨nb,j*5,none⟩=some (.bool true):=(ht5.cell hnl HNE.out _).trans l0
 have HB5:=Lib.hid (And.intro hB5 hS5)
 clear ht5 hB5 hS5 cR l0 c0
 go_upto_region 10 with (fail)
 obtain⟨W6,hW6⟩:∃W6,W6=w5.setCell ⟨nb,j*5+1,none⟩ (.slice s5 L.length c5):=⟨_,rfl⟩
 have l6:W6.cell? ⟨nb,j*5,none⟩=some (.bool true):=by
  rw [hW6];exact cell_setOff (by omega) q0
 have HC:=Lib.hid (split_any (hW6▸HB5.out.1) HFL.out)
 have HS6:=Lib.hid (hW6▸HB5.out.2)
 rw [←hW6]
 clear hW6 q4 qf q0
 go_wp2_with (go_at_call 89;(with_reducible refine HC.out.mono ?_);rintro y w7 ⟨rfl,hp7⟩)
 go_ret2
 obtain⟨nv',rs',p1,p2⟩:=hp7
 exact⟨rfl,nv',rs',p1,((Stp.of HSP.out.1 (Nat.le_refl _)).trans HS6.out).trans p2⟩
set_option maxRecDepth 100000 in
set_option maxHeartbeats 4000000 in
theorem put_inner {f:Nat} (hflush:FlushC f) {M:Nat} {w:World} {bb:Nat} {nv:Value} {rs:List Raw} {t t':Tr} {n:Int} {e:Ent} {more key:Int} {x:Nd} {L:List Ent} (h:Bd M w bb nv rs t) (hx:t.at? n=some x) (hlf:x.leaf=false) (hins:insG x.buf e=some L)
  (hF:(L.length≤8∧splitF (setN t n { x with buf:=L }) n=some (t',more,key))∨(¬L.length≤8∧∃t2,flushF (putF f) (setN t n { x with buf:=L }) n=some t2∧splitF t2 n=some (t',more,key))) :
  Calls Tryd.prog 75 #[.pointer (some ⟨bb,0,none⟩), .int .i64 n, .agg #[.int .i64 e.key, .int .i64 e.is.c, .int .i64 e.is.s, .int .i64 e.is.mi, .int .i64 e.is.ma, .int .i64 e.is.t, .int .i64 e.is.l]] w
  fun y w'=>y = .returned (.tuple #[.int .i64 more, .int .i64 key])∧BdPost M bb (Foot bb nv rs) w t' w':=by
 obtain⟨hrow,hent,hins⟩:=insG_some hins
 obtain⟨j,nb,cap,r,rfl,rfl,hrj,hxj,hjl,hown⟩:=h.place hx
 have hvl:=hown.leaf
 rw [hlf]at hvl
 obtain⟨so,sc,hev⟩:=hown.buf.isSlice
 obtain⟨W1,hW1⟩:∃W1,W1=w.alloc (.cells #[.int .i64 e.key, .int .i64 e.is.c, .int .i64 e.is.s, .int .i64 e.is.mi, .int .i64 e.is.ma, .int .i64 e.is.t, .int .i64 e.is.l] 96):=⟨_,rfl⟩
 have hb1:Below w.heap.size w W1:=by rw [hW1];exact belowAuto
 have hz1:W1.heap.size=w.heap.size+1:=by rw [hW1];simp
 have k1:W1.heap[w.heap.size]?=some (.cells #[.int .i64 e.key, .int .i64 e.is.c, .int .i64 e.is.s, .int .i64 e.is.mi, .int .i64 e.is.ma, .int .i64 e.is.t, .int .i64 e.is.l] 96):=by rw [hW1];exact heap_new _ _ rfl
 have h1:=h.below hb1 (Nat.le_refl _)
 obtain⟨c0,l0,e1,e2,e3,e4,cfn,cfb,hbl,hnl,hbn⟩:=h1.cells hrj
 rw [hvl]at l0
 have cR:=e4
 rw [hev]at cR
 have HCF:=Lib.hid cfn
 have hen:w.heap.size≠nb:=fun e=>by have:=(h.lt nb (.inr (.inl rfl))).2;omega
 have hixn:=fun w'=>idx_node (ab:=nb) (aoff:=0) (n:=rs.length) (cap:=cap) (show (j:Int)=((j:Nat):Int) by rfl) hjl w'
 simp only [Nat.zero_add]at hixn
 have HM:=Lib.hid fun(W5:World) (h5:Below W1.heap.size W1 W5)=>h1.merge (j:=j) (f:=3) (x':={ x with buf:=L }) hrj hxj (.inr rfl) (h1.nds j r x hrj hxj).buf hrow hent hins h5 rfl (nd_set3 x L) rfl rfl (o:=j*5+4) rfl
 have HSP:=Lib.hid (And.intro hb1 (And.intro h1 (And.intro hrj hxj)))
 have HK1:=Lib.hid k1
 have HEV:=Lib.hid hev
 have HNE:=Lib.hid (show (Value.slice so x.buf.length sc).ownBlock≠some nb from fun hh=>(h1.off j r 3 nb hrj (by show r.bv.ownBlock=_;rw [hev];exact hh)).2 rfl)
 have HNW:=Lib.hid (show (Value.slice so x.buf.length sc).ownBlock≠some w.heap.size from fun hh=>by have:=(h.lt w.heap.size (.inr (.inr ⟨j,r,3,hrj,by show r.bv.ownBlock=_;rw [hev];exact hh⟩))).2;omega)
 have HFL:=Lib.hid hF
 clear h h1 hx hins hrow hent hrj hxj hown hb1 e1 e2 e3 e4 cfb hvl hlf k1 hev hF cfn
 go_enter Tryd.func75,Tryd.ntmps75
 go_upto_region 1 with (fail)
 rw [←hW1]
 clear hW1
 go_upto_region 5 with (fail)
 have hse:∀(W:World),W.heap[w.heap.size]?=W1.heap[w.heap.size]?→(W.cell? ⟨w.heap.size,0,none⟩=some (.int .i64 e.key)∧W.cell? ⟨w.heap.size,1,none⟩=some (.int .i64 e.is.c)∧W.cell? ⟨w.heap.size,2,none⟩=some (.int .i64 e.is.s)∧W.cell? ⟨w.heap.size,3,none⟩=some (.int .i64 e.is.mi)∧W.cell? ⟨w.heap.size,4,none⟩=some (.int .i64 e.is.ma)∧W.cell? ⟨w.heap.size,5,none⟩=some (.int .i64 e.is.t)∧W.cell? ⟨w.heap.size,6,none⟩=some (.int .i64 e.is.l)):=fun W hW=>by
  have:=hW.trans HK1.out
  simp [World.cell?,this]
 have hS0:=hse W1.drew rfl
 clear hse
 refine wp_region_sched [(0,1),(1,1),(2,0),(3,0),(4,3),(5,1),(6,1),(7,1),(8,1),(9,1)] 4
  (fun W=>W.cell? ⟨nb,j*5+4,none⟩=some (.slice so x.buf.length sc)∧W.cell? ⟨w.heap.size,0,none⟩=some (.int .i64 e.key)∧W.cell? ⟨w.heap.size,1,none⟩=some (.int .i64 e.is.c)∧W.cell? ⟨w.heap.size,2,none⟩=some (.int .i64 e.is.s)∧W.cell? ⟨w.heap.size,3,none⟩=some (.int .i64 e.is.mi)∧W.cell? ⟨w.heap.size,4,none⟩=some (.int .i64 e.is.ma)∧W.cell? ⟨w.heap.size,5,none⟩=some (.int .i64 e.is.t)∧W.cell? ⟨w.heap.size,6,none⟩=some (.int .i64 e.is.l)) (by kernel_rfl) (by kernel_rfl) ⟨cR,hS0⟩ ?_
 clear hS0
 (simp only [pickS,List.filterMap_cons,List.filterMap_nil,List.getElem?_cons_zero,List.getElem?_cons_succ,Option.map_some])
 (repeat (first|((refine sched_pure (v:=?_) rfl (fun W=>?_) ?_);rotate_left;focus (go_simp;(try with_reducible rfl);done))|((refine sched_read (v:=?_) rfl (fun W hW=>?_) ?_);rotate_left;focus ((try dsimp only at hW);go_simp;(try with_reducible rfl);done))))
 refine sched_last rfl (fun K hK=>?_)
 go_simp
 have HMC:=HM.out W1.drew (Below.refl _ _).drew
 rw [show r.fld 3 = .slice so x.buf.length sc from HEV.out]at HMC
 (with_reducible refine HMC.mono ?_);rintro y w5 ⟨s5,c5,rfl,ht5,hB5,hS5⟩
 clear HMC
 go_simp
 refine hK _ _ ?_
 clear hK K
 (repeat (first|((refine sched_pure (v:=?_) rfl (fun W=>?_) ?_);rotate_left;focus (go_simp;(try with_reducible rfl);done))|((refine sched_read (v:=?_) rfl (fun W hW=>?_) ?_);rotate_left;focus ((try dsimp only at hW);go_simp;(try with_reducible rfl);done))))
 refine sched_end ?_
 have q4:w5.cell? ⟨nb,j*5+4,none⟩=some (.slice so x.buf.length sc):=(ht5.cell hnl HNE.out _).trans cR
 have qf:w5.frozen? ⟨nb,j*5+4,none⟩=false:=(ht5.frozen hnl HNE.out _).trans (HCF.out _)
 have q0:w5.cell? ⟨nb,j*5,none⟩=some (.bool false):=(ht5.cell hnl HNE.out _).trans l0
 have HB5:=Lib.hid (And.intro hB5 hS5)
 clear ht5 hB5 hS5 cR l0 c0
 go_upto_region 10 with (fail)
 obtain⟨W6,hW6⟩:∃W6,W6=w5.setCell ⟨nb,j*5+4,none⟩ (.slice s5 L.length c5):=⟨_,rfl⟩
 have l6:W6.cell? ⟨nb,j*5,none⟩=some (.bool false):=by
  rw [hW6];exact cell_setOff (by omega) q0
 have b6:W6.cell? ⟨nb,j*5+4,none⟩=some (.slice s5 L.length c5):=by rw [hW6];exact cell_setSame q4
 have HB6:=Lib.hid (hW6▸HB5.out.1)
 have HS6:=Lib.hid (hW6▸HB5.out.2)
 rw [←hW6]
 clear hW6 q4 qf q0
 rcases HFL.out with ⟨h8,hF⟩|⟨h8,t2,hF1,hF2⟩
 ·have HC:=Lib.hid (split_any HB6.out hF)
  go_wp2_with (go_at_call 89;(with_reducible refine HC.out.mono ?_);rintro y w7 ⟨rfl,hp7⟩)
  go_ret2
  obtain⟨nv',rs',p1,p2⟩:=hp7
  exact⟨rfl,nv',rs',p1,((Stp.of HSP.out.1 (Nat.le_refl _)).trans HS6.out).trans p2⟩
 ·have HC:=Lib.hid (hflush HB6.out hF1)
  go_wp2_with (first
   |(go_at_call 90;(with_reducible refine HC.out.mono ?_);rintro y w7 ⟨rfl,hp7⟩;obtain⟨nv7,rs7,p1,p2⟩:=hp7;have HP7:=Lib.hid (And.intro p1 p2);clear p1 p2)
   |(go_at_call 89;(with_reducible refine(split_any HP7.out.1 hF2).mono ?_);rintro y w8 ⟨rfl,hp8⟩))
  go_ret2
  obtain⟨nv',rs',p1,p2⟩:=hp8
  exact⟨rfl,nv',rs',p1,(((Stp.of HSP.out.1 (Nat.le_refl _)).trans HS6.out).trans HP7.out.2).trans p2⟩
theorem put_step {f:Nat} (hflush:FlushC f):PutC (f+1):=fun h hF=>by
 obtain⟨x,hx,⟨hl,L,hL,hs⟩|⟨hl,L,hL,hs⟩⟩:=putF_some hF
 ·exact put_leaf h hx hl hL hs
 ·exact put_inner hflush h hx hl hL hs
end Go.Proofs.YtnjfkcimboidnaaDoor

/- The walk of builder.flush. -/
namespace Go.Proofs.YtnjfkcimboidnaaDoor
open Go.RowKit
set_option maxRecDepth 100000 in
set_option maxHeartbeats 6000000 in
theorem flush_any {f:Nat} (hput:PutC f) {M:Nat} {w:World} {bb:Nat} {nv:Value} {rs:List Raw} {t t':Tr} {n:Int} (h:Bd M w bb nv rs t) (hF:flushF (putF f) t n=some t') :
  Calls Tryd.prog 90 #[.pointer (some ⟨bb,0,none⟩), .int .i64 n] w fun e w'=>e = .returned (.tuple #[])∧BdPost M bb (Foot bb nv rs) w t' w':=by
 obtain⟨x,hx,hks,hkl,hbl20,hck,hF⟩:=flushF_some hF
 obtain⟨best,hbest⟩:∃b,bestF (manyF x) 4=b:=⟨_,rfl⟩
 rw [hbest]at hF
 obtain⟨j,nb,cap,r,rfl,rfl,hrj,hxj,hjl,hown⟩:=h.place hx
 obtain⟨c0,k0,k1,k2,k3,k4,cfn,cfb,hbl,hnl,hbn⟩:=h.cells hrj
 obtain⟨es,ec,hev⟩:=hown.ents.isSlice
 obtain⟨ks,kc,hkv⟩:=hown.keys.isSlice
 obtain⟨ds,dc,hdv⟩:=hown.kids.isSlice
 obtain⟨bs,bc,hbv⟩:=hown.buf.isSlice
 have hok:=hown.keys
 have hob:=hown.buf
 rw [hkv]at hok
 rw [hbv]at hob
 rw [hev]at k1
 rw [hkv]at k2
 rw [hdv]at k3
 rw [hbv]at k4
 have hM:M≤w.heap.size:=by have:=(h.lt bb (.inl rfl)).1;omega
 have hixn:=fun w'=>idx_node (ab:=nb) (aoff:=0) (n:=rs.length) (cap:=cap) (show (j:Int)=((j:Nat):Int) by rfl) hjl w'
 simp only [Nat.zero_add]at hixn
 obtain⟨W1,hW1⟩:∃W1,W1=w.alloc (.cells #[.bool r.leaf, .slice es x.ents.length ec, .slice ks x.keys.length kc, .slice ds x.kids.length dc, .slice bs x.buf.length bc] 133):=⟨_,rfl⟩
 obtain⟨W2,hW2⟩:∃W2,W2=W1.alloc (.cells #[.int .i64 0, .int .i64 0, .int .i64 0, .int .i64 0] 173):=⟨_,rfl⟩
 have hz1:W1.heap.size=w.heap.size+1:=by rw [hW1];simp
 have hz2:W2.heap.size=w.heap.size+2:=by rw [hW2];simp [hz1]
 have hb1:Below w.heap.size w W1:=by rw [hW1];exact belowAuto
 have hb2:Below w.heap.size w W2:=hb1.trans (by rw [hW2];exact(Below.refl _ _).alloc (by omega) _)
 have kx:W2.heap[w.heap.size]?=some (.cells #[.bool r.leaf, .slice es x.ents.length ec, .slice ks x.keys.length kc, .slice ds x.kids.length dc, .slice bs x.buf.length bc] 133):=by
  rw [hW2]
  refine((Below.refl W1.heap.size W1).alloc (Nat.le_refl _) _).block _ (by omega) |>.trans ?_
  rw [hW1];exact heap_new _ _ rfl
 have ka:W2.heap[w.heap.size+1]?=some (.cells #[.int .i64 0, .int .i64 0, .int .i64 0, .int .i64 0] 173):=by rw [←hz1,hW2];exact heap_new _ _ rfl
 have HBD:=Lib.hid (And.intro h (And.intro hrj (And.intro hxj (And.intro hown (And.intro hF hbest)))))
 have HBV:=Lib.hid (And.intro hbv (And.intro hkv (And.intro hdv hev)))
 clear h hrj hxj hown hF hbest hbv hkv hdv hev hx
 go_enter Tryd.func90,Tryd.ntmps90
 go_upto_region 2 with (fail)
 rw [←hW1,←hW2]
 clear hW1 hW2 c0 k0 k1 k2 k3 k4 cfn cfb hixn
 have hX4:W2.cell? ⟨w.heap.size,4,none⟩=some (.slice bs x.buf.length bc):=by simp [World.cell?,kx]
 have HB2:=Lib.hid hb2
 have HKX:=Lib.hid kx
 have HKA:=Lib.hid ka
 have HOB:=Lib.hid (And.intro hok hob)
 have HIX:=Lib.hid (And.intro hks hkl)
 clear hb1 hb2 kx ka hok hob hks hkl
 go_wp2_with fail
 clear hX4
 go_loopg [31] x.buf.length (fun g i wr=>∃k:Nat,k≤x.buf.length∧g=x.buf.length-k∧i = .int .i64 k∧Hid (Below w.heap.size w wr∧w.heap.size+2≤wr.heap.size∧wr.heap[w.heap.size]?=some (.cells #[.bool r.leaf, .slice es x.ents.length ec, .slice ks x.keys.length kc, .slice ds x.kids.length dc, .slice bs x.buf.length bc] 133)∧wr.heap[w.heap.size+1]?=some (.cells (Cnt4 x k) 173)))
 case atStart=>exact⟨0,Nat.zero_le _,rfl,rfl,Lib.hid ⟨HB2.out,by omega,HKX.out,HKA.out⟩⟩
 case round=>
  clear HB2 HKX HKA
  obtain⟨k,hk,rfl,rfl,HR⟩:=hrel
  by_cases hlt2:k<x.buf.length
  ·obtain⟨hbw,hzw,kx,ka⟩:=HR.out
   obtain⟨hok,hob⟩:=HOB.out
   obtain⟨hks,hkl⟩:=HIX.out
   obtain⟨_,_,hv,-,-,-,-,h5⟩:=hob.at (by omega)
   injection hv with hv1 _ hv3
   subst hv3
   obtain⟨eb,eoff,hla,heb,hec⟩:=h5 (by omega)
   subst hla
   subst hv1
   obtain⟨y0,y1,y2,y3,y4,y5,y6⟩:=ent_cells hbw heb hec hlt2
   have hcs:=fun i=>cnt_succ hlt2 i
   obtain⟨y,hy⟩:∃y,x.buf[k]=y:=⟨_,rfl⟩
   rw [hy]at y0 y1 y2 y3 y4 y5 y6 hcs
   have hki:kidIx x.keys y.key≤3:=by have:=kidIx_le x.keys y.key;omega
   have HKID:=Lib.hid fun(W:World) (hW:Below w.heap.size w W)=>kid_any (lf:=r.leaf) (ev:= .slice es x.ents.length ec) (dv:= .slice ds x.kids.length dc) (bv:= .slice (some ⟨eb,eoff,none⟩) x.buf.length bc) (x:=y.key) ((hok.at (by omega)).below hW (Nat.le_refl _)) hks
   obtain⟨i,hi⟩:∃i,kidIx x.keys y.key=i:=⟨_,rfl⟩
   rw [hi]at hcs hki HKID
   have HCS:=Lib.hid hcs
   obtain⟨W8,hW8⟩:∃W8,W8=wr.alloc (.cells #[.int .i64 y.key, .int .i64 y.is.c, .int .i64 y.is.s, .int .i64 y.is.mi, .int .i64 y.is.ma, .int .i64 y.is.t, .int .i64 y.is.l] 96):=⟨_,rfl⟩
   have hb8:Below wr.heap.size wr W8:=by rw [hW8];exact belowAuto
   have hz8:W8.heap.size=wr.heap.size+1:=by rw [hW8];simp
   have k8:W8.heap[wr.heap.size]?=some (.cells #[.int .i64 y.key, .int .i64 y.is.c, .int .i64 y.is.s, .int .i64 y.is.mi, .int .i64 y.is.ma, .int .i64 y.is.t, .int .i64 y.is.l] 96):=by rw [hW8];exact heap_new _ _ rfl
   have kx8:=(hb8.block w.heap.size (by omega)).trans kx
   have ka8:=(hb8.block (w.heap.size+1) (by omega)).trans ka
   have hbw8:=Below.trans' hbw hb8 hbw.size
   have hix:=fun w'=>idx_ents (ab:=eb) (aoff:=eoff) (n:=x.buf.length) (cap:=bc) (show (k:Int)=((k:Nat):Int) by rfl) hlt2 w'
   have s0:W8.cell? ⟨wr.heap.size,0,none⟩=some (.int .i64 y.key):=by simp [World.cell?,k8]
   have x0:W8.cell? ⟨w.heap.size,0,none⟩=some (.bool r.leaf):=by simp [World.cell?,kx8]
   have x1:W8.cell? ⟨w.heap.size,1,none⟩=some (.slice es x.ents.length ec):=by simp [World.cell?,kx8]
   have x2:W8.cell? ⟨w.heap.size,2,none⟩=some (.slice ks x.keys.length kc):=by simp [World.cell?,kx8]
   have x3:W8.cell? ⟨w.heap.size,3,none⟩=some (.slice ds x.kids.length dc):=by simp [World.cell?,kx8]
   have x4:W8.cell? ⟨w.heap.size,4,none⟩=some (.slice (some ⟨eb,eoff,none⟩) x.buf.length bc):=by simp [World.cell?,kx8]
   have HALL:=Lib.hid (And.intro hbw8 (And.intro kx8 ka8))
   clear hbw kx ka hok hob hks hkl h5 hec hy hi hcs k8 kx8 ka8 HR
   go_upto_region 5 with (fail)
   rw [←hW8]
   clear hW8 hb8 y0 y1 y2 y3 y4 y5 y6 hix hbw8
   have hxn1:w.heap.size≠w.heap.size+1:=by omega
   go_wp2_with ((go_at_call 77;(with_reducible refine(HKID.out _ HALL.out.1).mono ?_);rintro e w9 ⟨rfl,hb9⟩;obtain⟨hbw8,kx8,ka8⟩:=HALL.out;have hsw9:=hbw8.size;have kx9:=(hb9.block w.heap.size (by omega)).trans kx8;have ka9:=(hb9.block (w.heap.size+1) (by omega)).trans ka8;have hbw9:=Below.trans' hbw8 hb9 hbw8.size;have hsz9:w.heap.size+2≤w9.heap.size:=(by have:=hb9.size;omega);have hfz:∀o,w9.frozen? ⟨w.heap.size+1,o,none⟩=false:=(fun o=>by simp [World.frozen?,ka9,Cnt4]);obtain⟨ci,hci⟩:∃ci,cnt x k i=ci:=⟨_,rfl⟩;have hcl:ci≤20:=(by have:=cnt_le x k i;omega);have hai:w9.cell? ⟨w.heap.size+1,i,none⟩=some (.int .i64 (ci:Int)):=(by rw [←hci];rcases lt4' hki with rfl|rfl|rfl|rfl <;> simp [World.cell?,ka9,Cnt4]);have HCI:=Lib.hid (And.intro hci (And.intro kx9 (And.intro ka9 (And.intro hbw9 hsz9))));clear hci kx9 ka9 hbw9 hsz9 hbw8 kx8 ka8 hsw9 hb9))
   go_roundg (x.buf.length-(k+1))
   case measure=>omega
   case rel=>
    obtain⟨hci,kx9,ka9,hbw9,hsz9⟩:=HCI.out
    refine⟨k+1,by omega,rfl,by go_num,Lib.hid ⟨?_,?_,?_,?_⟩⟩
    ·exact Below.setCell hbw9 (by show w.heap.size≤w.heap.size+1;omega) _
    ·simp;omega
    ·exact(heap_setCell_other _ ⟨_,_,none⟩ _ _ hxn1).trans kx9
    ·have hs:=heap_set4 (v:= .int .i64 ((ci:Int)+1)) ka9 hki
     refine hs.trans ?_
     unfold Cnt4
     rw [HCS.out 0,HCS.out 1,HCS.out 2,HCS.out 3]
     subst hci
     rcases lt4' hki with rfl|rfl|rfl|rfl <;> simp
  ·obtain rfl:k=x.buf.length:=by omega
   obtain⟨hbw,hzw,kx,ka⟩:=HR.out
   have a0:wr.cell? ⟨w.heap.size+1,0,none⟩=some (.int .i64 (manyF x 0:Nat)):=by rw [←cnt_all];simp [World.cell?,ka,Cnt4]
   have a1:wr.cell? ⟨w.heap.size+1,1,none⟩=some (.int .i64 (manyF x 1:Nat)):=by rw [←cnt_all];simp [World.cell?,ka,Cnt4]
   have a2:wr.cell? ⟨w.heap.size+1,2,none⟩=some (.int .i64 (manyF x 2:Nat)):=by rw [←cnt_all];simp [World.cell?,ka,Cnt4]
   have a3:wr.cell? ⟨w.heap.size+1,3,none⟩=some (.int .i64 (manyF x 3:Nat)):=by rw [←cnt_all];simp [World.cell?,ka,Cnt4]
   have HP:=Lib.hid (And.intro hbw (And.intro hzw kx))
   clear hbw hzw kx ka HR hk
   have hab:∀b,b≤3→wr.cell? ⟨w.heap.size+1,b,none⟩=some (.int .i64 (manyF x b:Nat)):=fun b hb=>by rcases lt4' hb with rfl|rfl|rfl|rfl <;> assumption
   obtain⟨m,hm⟩:∃m,manyF x=m:=⟨_,rfl⟩
   rw [hm]at a0 a1 a2 a3 hab HBD
   have HAB:=Lib.hid hab
   clear hab
   go_wp2_with fail
   clear a0 a1 a2 a3
   go_loopg [45,8] 4 (fun g i b w2=>∃k:Nat,k≤4∧g=4-k∧i = .int .i64 k∧b = .int .i64 (bestF m k:Nat)∧w2=wr)
   case atStart=>exact⟨0,by omega,rfl,rfl,rfl,rfl⟩
   case round=>
    obtain⟨k,hk,rfl,rfl,rfl,rfl⟩:=hrel
    by_cases hltb:k<4
    ·have hix:=fun w'=>idx_arr4 (m:=m) hltb w'
     have hb3:=bestF_le m k hk
     have hsb:bestF m (k+1)=if m (bestF m k)<m k then k else bestF m k:=rfl
     obtain⟨b,hb⟩:∃b,bestF m k=b:=⟨_,rfl⟩
     rw [hb]at hb3 hsb ⊢
     have hab:=HAB.out b hb3
     obtain⟨mk,hmk⟩:∃mk,m k=mk:=⟨_,rfl⟩
     obtain⟨mb,hmb⟩:∃mb,m b=mb:=⟨_,rfl⟩
     rw [hmk]at hix hsb
     rw [hmb]at hab hsb
     have HSB:=Lib.hid hsb
     clear hsb hb hmk hmb
     by_cases i1:mb<mk
     ·go_wp2_with fail
      go_roundg (4-(k+1))
      case measure=>omega
      case rel=>exact⟨k+1,by omega,rfl,by go_num,by rw [HSB.out,if_pos i1],rfl⟩
     ·go_wp2_with fail
      go_roundg (4-(k+1))
      case measure=>omega
      case rel=>exact⟨k+1,by omega,rfl,by go_num,by rw [HSB.out,if_neg i1],rfl⟩
    ·obtain rfl:k=4:=by omega
     clear hk hltb
     have hbb:bestF m 4=best:=HBD.out.2.2.2.2.2
     rw [hbb]
     obtain⟨Wa,hWa⟩:∃Wa,Wa=wr:=⟨_,rfl⟩
     subst hWa
     have hX4:Wa.cell? ⟨w.heap.size,4,none⟩=some (.slice bs x.buf.length bc):=by simp [World.cell?,HP.out.2.2]
     go_wp2_with fail
     clear hX4
     go_loopg [59,12,11] x.buf.length (fun g i dv sv w3=>∃k:Nat,k≤x.buf.length∧g=x.buf.length-k∧i = .int .i64 k∧Hid (R3 x best Wa.heap.size Wa w3 k dv sv))
     case atStart=>exact⟨0,by omega,rfl,rfl,Lib.hid ⟨Below.refl _ _,OwnEnts.nil _ _,OwnEnts.nil _ _,fun b hb=>by cases hb⟩⟩
     case round=>
      obtain⟨k,hk,rfl,rfl,HR⟩:=hrel
      by_cases hlt2:k<x.buf.length
      ·obtain⟨hbw,hod,hos,hap⟩:=HR.out
       obtain⟨hb0,hzw,kx⟩:=HP.out
       have hsw0:=hb0.size
       have hsw:=hbw.size
       obtain⟨hok,hob⟩:=HOB.out
       obtain⟨hks,hkl⟩:=HIX.out
       obtain⟨_,_,hv,-,-,-,-,h5⟩:=hob.at (by omega)
       injection hv with hv1 _ hv3
       subst hv3
       obtain⟨eb,eoff,hla,heb,hec⟩:=h5 (by omega)
       subst hla
       subst hv1
       have hbw3:=Below.trans' hb0 hbw hsw0
       have kx3:=(hbw.block w.heap.size (by omega)).trans kx
       obtain⟨y0,y1,y2,y3,y4,y5,y6⟩:=ent_cells hbw3 heb hec hlt2
       have hki:kidIx x.keys x.buf[k].key≤3:=by have:=kidIx_le x.keys x.buf[k].key;omega
       have hdn:=fun(w9 w10:World) (v:Value) (hk:kidIx x.keys x.buf[k].key=best) (h9:Below wr.heap.size wr w9)=>R3.down (w10:=w10) (v:=v) HR.out (Nat.le_refl _) hlt2 hk h9
       have hsy:=fun(w9 w10:World) (v:Value) (hk:¬kidIx x.keys x.buf[k].key=best) (h9:Below wr.heap.size wr w9)=>R3.stay (w10:=w10) (v:=v) HR.out (Nat.le_refl _) hlt2 hk h9
       obtain⟨y,hy⟩:∃y,x.buf[k]=y:=⟨_,rfl⟩
       rw [hy]at y0 y1 y2 y3 y4 y5 y6 hki hdn hsy
       have HKID:=Lib.hid fun(W:World) (hW:Below w.heap.size w W)=>kid_any (lf:=r.leaf) (ev:= .slice es x.ents.length ec) (dv:= .slice ds x.kids.length dc) (bv:= .slice (some ⟨eb,eoff,none⟩) x.buf.length bc) (x:=y.key) ((hok.at (by omega)).below hW (Nat.le_refl _)) hks
       obtain⟨i,hi⟩:∃i,kidIx x.keys y.key=i:=⟨_,rfl⟩
       rw [hi]at hki HKID hdn hsy
       obtain⟨LD,hLD⟩:∃LD,((x.buf.take k).filter fun e=>decide (kidIx x.keys e.key=best))=LD:=⟨_,rfl⟩
       obtain⟨LS,hLS⟩:∃LS,((x.buf.take k).filter fun e=>!decide (kidIx x.keys e.key=best))=LS:=⟨_,rfl⟩
       have hLDl:LD.length≤20:=by rw [←hLD];exact Nat.le_trans (List.length_filter_le _ _) (by rw [List.length_take];omega)
       have hLSl:LS.length≤20:=by rw [←hLS];exact Nat.le_trans (List.length_filter_le _ _) (by rw [List.length_take];omega)
       rw [hLD]at hod hdn
       rw [hLS]at hos hsy
       obtain⟨dvo,dvc,rfl⟩:=hod.isSlice
       obtain⟨svo,svc,rfl⟩:=hos.isSlice
       obtain⟨W8,hW8⟩:∃W8,W8=wr.alloc (.cells #[.int .i64 y.key, .int .i64 y.is.c, .int .i64 y.is.s, .int .i64 y.is.mi, .int .i64 y.is.ma, .int .i64 y.is.t, .int .i64 y.is.l] 96):=⟨_,rfl⟩
       have hb8:Below wr.heap.size wr W8:=by rw [hW8];exact belowAuto
       have hz8:W8.heap.size=wr.heap.size+1:=by rw [hW8];simp
       have k8:W8.heap[wr.heap.size]?=some (.cells #[.int .i64 y.key, .int .i64 y.is.c, .int .i64 y.is.s, .int .i64 y.is.mi, .int .i64 y.is.ma, .int .i64 y.is.t, .int .i64 y.is.l] 96):=by rw [hW8];exact heap_new _ _ rfl
       have kx8:=(hb8.block w.heap.size (by omega)).trans kx3
       have hbw8:=Below.trans' hbw3 hb8 hbw3.size
       have hix:=fun w'=>idx_ents (ab:=eb) (aoff:=eoff) (n:=x.buf.length) (cap:=bc) (show (k:Int)=((k:Nat):Int) by rfl) hlt2 w'
       have s0:W8.cell? ⟨wr.heap.size,0,none⟩=some (.int .i64 y.key):=by simp [World.cell?,k8]
       have x0:W8.cell? ⟨w.heap.size,0,none⟩=some (.bool r.leaf):=by simp [World.cell?,kx8]
       have x1:W8.cell? ⟨w.heap.size,1,none⟩=some (.slice es x.ents.length ec):=by simp [World.cell?,kx8]
       have x2:W8.cell? ⟨w.heap.size,2,none⟩=some (.slice ks x.keys.length kc):=by simp [World.cell?,kx8]
       have x3:W8.cell? ⟨w.heap.size,3,none⟩=some (.slice ds x.kids.length dc):=by simp [World.cell?,kx8]
       have x4:W8.cell? ⟨w.heap.size,4,none⟩=some (.slice (some ⟨eb,eoff,none⟩) x.buf.length bc):=by simp [World.cell?,kx8]
       have hod8:=hod.below hb8 (Nat.le_refl _)
       have hos8:=hos.below hb8 (Nat.le_refl _)
       have HALL:=Lib.hid (And.intro hbw8 (And.intro k8 (And.intro hb8 (And.intro hod8 hos8))))
       have HST:=Lib.hid (And.intro hdn (And.intro hsy hy))
       clear hbw kx hok hob hks hkl h5 hec hy hi k8 kx8 HR hdn hsy hod hos hod8 hos8 hap hLD hLS hbw3 kx3 hb0 heb
       go_upto_region 18 with (fail)
       rw [←hW8]
       clear hW8 hb8 y0 y1 y2 y3 y4 y5 y6 hix hbw8
       by_cases i1:i=best
       ·go_wp2_with (first
         |(go_at_call 77;(with_reducible refine(HKID.out _ HALL.out.1).mono ?_);rintro e w9 ⟨rfl,hb9⟩;obtain⟨hbw8,k8,hb8,hod8,hos8⟩:=HALL.out;have hod9:=hod8.below hb9 (Nat.le_refl _);have hz9:wr.heap.size+1≤w9.heap.size:=(by have:=hb9.size;omega);have k9:=(hb9.block wr.heap.size (by omega)).trans k8;obtain⟨y0,y1,y2,y3,y4,y5,y6⟩:=(show w9.cell? ⟨wr.heap.size,0,none⟩=some (.int .i64 y.key)∧w9.cell? ⟨wr.heap.size,1,none⟩=some (.int .i64 y.is.c)∧w9.cell? ⟨wr.heap.size,2,none⟩=some (.int .i64 y.is.s)∧w9.cell? ⟨wr.heap.size,3,none⟩=some (.int .i64 y.is.mi)∧w9.cell? ⟨wr.heap.size,4,none⟩=some (.int .i64 y.is.ma)∧w9.cell? ⟨wr.heap.size,5,none⟩=some (.int .i64 y.is.t)∧w9.cell? ⟨wr.heap.size,6,none⟩=some (.int .i64 y.is.l)from (by simp [World.cell?,k9]));have HB9:=Lib.hid (show Below wr.heap.size wr w9 from Below.trans' hb8 hb9 (by omega));clear hbw8 k8 hb8 hod8 hos8 hb9 k9)
         |(at_builtin;refine wpList_append_ent2 rfl (.tmp 69) (.tmp 71) rfl Wa.heap.size (.slice dvo LD.length dvc) LD rfl (by repeat (first|assumption|with_reducible refine OwnEnts.alloc ?_ _|with_reducible refine OwnEnts.drewN ?_ _|with_reducible refine OwnEnts.drew ?_)) ⟨_,0,none⟩ y rfl (fun j u h=>ent_new h) (by omega) (by first|omega|(simp;done)|(simp;omega)|(simp [drew_size];done)|(simp [drew_size];omega)) ?_;intro v10 w10 own10 hg10 hv10))
        go_roundg (x.buf.length-(k+1))
        case measure=>omega
        case rel=>
         obtain⟨hdn,hsy,hy⟩:=HST.out
         exact⟨k+1,by omega,rfl,by go_num,Lib.hid (hdn _ w10 v10 i1 (HB9.out.alloc (by omega) _) own10 hg10 hv10)⟩
       ·go_wp2_with (first
         |(go_at_call 77;(with_reducible refine(HKID.out _ HALL.out.1).mono ?_);rintro e w9 ⟨rfl,hb9⟩;obtain⟨hbw8,k8,hb8,hod8,hos8⟩:=HALL.out;have hos9:=hos8.below hb9 (Nat.le_refl _);have hz9:wr.heap.size+1≤w9.heap.size:=(by have:=hb9.size;omega);have k9:=(hb9.block wr.heap.size (by omega)).trans k8;obtain⟨y0,y1,y2,y3,y4,y5,y6⟩:=(show w9.cell? ⟨wr.heap.size,0,none⟩=some (.int .i64 y.key)∧w9.cell? ⟨wr.heap.size,1,none⟩=some (.int .i64 y.is.c)∧w9.cell? ⟨wr.heap.size,2,none⟩=some (.int .i64 y.is.s)∧w9.cell? ⟨wr.heap.size,3,none⟩=some (.int .i64 y.is.mi)∧w9.cell? ⟨wr.heap.size,4,none⟩=some (.int .i64 y.is.ma)∧w9.cell? ⟨wr.heap.size,5,none⟩=some (.int .i64 y.is.t)∧w9.cell? ⟨wr.heap.size,6,none⟩=some (.int .i64 y.is.l)from (by simp [World.cell?,k9]));have HB9:=Lib.hid (show Below wr.heap.size wr w9 from Below.trans' hb8 hb9 (by omega));clear hbw8 k8 hb8 hod8 hos8 hb9 k9)
         |(at_builtin;refine wpList_append_ent2 rfl (.tmp 73) (.tmp 75) rfl Wa.heap.size (.slice svo LS.length svc) LS rfl (by repeat (first|assumption|with_reducible refine OwnEnts.alloc ?_ _|with_reducible refine OwnEnts.drewN ?_ _|with_reducible refine OwnEnts.drew ?_)) ⟨_,0,none⟩ y rfl (fun j u h=>ent_new h) (by omega) (by first|omega|(simp;done)|(simp;omega)|(simp [drew_size];done)|(simp [drew_size];omega)) ?_;intro v10 w10 own10 hg10 hv10))
        go_roundg (x.buf.length-(k+1))
        case measure=>omega
        case rel=>
         obtain⟨hdn,hsy,hy⟩:=HST.out
         exact⟨k+1,by omega,rfl,by go_num,Lib.hid (hsy _ w10 v10 i1 (HB9.out.alloc (by omega) _) own10 hg10 hv10)⟩
      ·obtain rfl:k=x.buf.length:=by omega
       obtain⟨h,hrj,hxj,hown,-,-⟩:=HBD.out
       obtain⟨hbw,hod,hos,hap⟩:=HR.out
       obtain⟨hb0,hzw,kx⟩:=HP.out
       have hsw0:=hb0.size
       have hsw:=hbw.size
       rw [List.take_length]at hod hos
       have hbw3:=Below.trans' hb0 hbw hsw0
       have kx3:=(hbw.block w.heap.size (by omega)).trans kx
       obtain⟨LD,hLD⟩:∃LD,(x.buf.filter fun e=>decide (kidIx x.keys e.key=best))=LD:=⟨_,rfl⟩
       obtain⟨LS,hLS⟩:∃LS,(x.buf.filter fun e=>!decide (kidIx x.keys e.key=best))=LS:=⟨_,rfl⟩
       have hLDl:LD.length≤20:=by rw [←hLD];exact Nat.le_trans (List.length_filter_le _ _) (by omega)
       have hLSl:LS.length≤20:=by rw [←hLS];exact Nat.le_trans (List.length_filter_le _ _) (by omega)
       rw [hLD]at hod
       rw [hLS]at hos
       obtain⟨dvo,dvc,rfl⟩:=hod.isSlice
       obtain⟨svo,svc,rfl⟩:=hos.isSlice
       have h3:=h.below hbw3 (Nat.le_refl _)
       obtain⟨c0,-,-,-,-,c4,cfn,-⟩:=h3.cells hrj
       have hixn:=fun w'=>idx_node (ab:=nb) (aoff:=0) (n:=rs.length) (cap:=cap) (show (j:Int)=((j:Nat):Int) by rfl) hjl w'
       simp only [Nat.zero_add]at hixn
       obtain⟨q1,q2⟩:=h.field (f:=3) rfl hrj hxj (by omega) (w1:=wr) (v':= .slice svo LS.length svc) (x':={ x with buf:=LS }) (Turn.of hbw3 (Nat.le_refl _)) (hos.mono (by omega)).row (fun b hb=> .inr (by have:=(hos.lt b hb).1;omega)) rfl (nd_set3 x LS) rfl
       have HN:=Lib.hid (show R4 M bb (Foot bb (.slice (some ⟨nb,0,none⟩) rs.length cap) rs) w (wr.setCell ⟨nb,j*5+4,none⟩ (.slice svo LS.length svc)) w.heap.size (.slice dvo LD.length dvc) (putF f) j LD (LD.drop 0) t' from by
        have hft:∀b,Foot bb (.slice (some ⟨nb,0,none⟩) rs.length cap) rs b→b<w.heap.size:=fun b hb=>(h.lt b hb).2
        refine⟨_,_,_,_,_,_,_,_,q1,q2,(hod.mono (by omega)).block fun g hg=>heap_setCell_other _ ⟨nb,_,none⟩ _ _ (fun e=>by have:=(hod.lt g hg).1;have e:g=nb:=e;omega),fun b hb hf=>?_,(heap_setCell_other _ ⟨nb,_,none⟩ _ _ (by show w.heap.size≠nb;omega)).trans kx3,fun hf=>?_,fun hb=>?_,?_⟩
        ·rcases foot_setF hrj (by omega) hf with h1|h1
         ·have:=hft b h1;have:=(hod.lt b hb).1;omega
         ·exact hap b h1 hb
        ·rcases foot_setF hrj (by omega) hf with h1|h1
         ·have:=hft _ h1;omega
         ·have:=(hos.lt _ h1).1;omega
        ·have:=(hod.lt _ hb).1;omega
        ·have hF:=HBD.out.2.2.2.2.1
         rw [hLD,hLS]at hF
         exact hF)
       clear q1 q2 h3 hown hbw hod hos hap hb0 kx hbw3 kx3 hLD hLS HR HP hck
       go_wp2_with fail
       clear c0 c4 cfn hixn
       go_loopg [89] LD.length (fun g i w3=>∃k:Nat,k≤LD.length∧g=LD.length-k∧i = .int .i64 k∧Hid (R4 M bb (Foot bb (.slice (some ⟨nb,0,none⟩) rs.length cap) rs) w w3 w.heap.size (.slice dvo LD.length dvc) (putF f) j LD (LD.drop k) t'))
       case atStart=>exact⟨0,by omega,rfl,rfl,HN⟩
       case round=>
        clear HN
        obtain⟨k,hk,rfl,rfl,HR⟩:=hrel
        by_cases hlt3:k<LD.length
        ·obtain⟨nv',rs',tk,a0,a1,a2,a3,a4,hB,hS,hod,hdF,hxb,hxF,hdx,hD⟩:=HR.out
         obtain⟨y,hy⟩:∃y,LD[k]=y:=⟨_,rfl⟩
         rw [List.drop_eq_getElem_cons hlt3,hy]at hD
         obtain⟨z,kd,t1,more,key,t2,z2,hz,⟨hzk,hz20,hzd20⟩,hkd,hp,hkf,hz2,hrest⟩:=downF_cons hD
         obtain⟨j',nb',cap',r',hjj,rfl,hrj',hzj,hjl',hown'⟩:=hB.place hz
         obtain rfl:j'=j:=by omega
         obtain⟨es',ec',hev'⟩:=hown'.ents.isSlice
         obtain⟨ks',kc',hkv'⟩:=hown'.keys.isSlice
         obtain⟨ds',dc',hdv'⟩:=hown'.kids.isSlice
         obtain⟨bs',bc',hbv'⟩:=hown'.buf.isSlice
         obtain⟨i,hi⟩:∃i,kidIx z.keys y.key=i:=⟨_,rfl⟩
         rw [hi]at hkd hkf
         have hil:i<z.kids.length:=(List.getElem?_eq_some_iff.1 hkd).1
         obtain⟨db,doff,dcc,hdeq,hdlt,hdcell⟩:=IntsAt.get (hown'.kids.at (by omega)) hkd
         rw [hdv']at hdeq
         injection hdeq with hde1 _ hde3
         subst hde1 hde3
         obtain⟨_,_,hv,-,-,-,-,h5⟩:=hod.at (by omega)
         injection hv with hv1 _ hv3
         subst hv3
         obtain⟨eb,eoff,hla,heb,hec⟩:=h5 (by omega)
         subst hla
         subst hv1
         obtain⟨y0,y1,y2,y3,y4,y5,y6⟩:=ent_cells (Below.refl _ _) heb hec hlt3
         rw [hy]at y0 y1 y2 y3 y4 y5 y6
         have hxlt:w.heap.size<wr.heap.size:=(Array.getElem?_eq_some_iff.1 hxb).1
         obtain⟨W8,hW8⟩:∃W8,W8=wr.alloc (.cells #[.int .i64 y.key, .int .i64 y.is.c, .int .i64 y.is.s, .int .i64 y.is.mi, .int .i64 y.is.ma, .int .i64 y.is.t, .int .i64 y.is.l] 96):=⟨_,rfl⟩
         have hb8:Below wr.heap.size wr W8:=by rw [hW8];exact belowAuto
         have hz8:W8.heap.size=wr.heap.size+1:=by rw [hW8];simp
         have k8:W8.heap[wr.heap.size]?=some (.cells #[.int .i64 y.key, .int .i64 y.is.c, .int .i64 y.is.s, .int .i64 y.is.mi, .int .i64 y.is.ma, .int .i64 y.is.t, .int .i64 y.is.l] 96):=by rw [hW8];exact heap_new _ _ rfl
         have hB8:=hB.below hb8 (Nat.le_refl _)
         have hxb8:=(hb8.block _ hxlt).trans hxb
         obtain⟨c0,n0,n1,n2,n3,n4,-,-,hbl',hnl',hbn'⟩:=hB8.cells hrj'
         rw [hev']at n1
         rw [hkv']at n2
         rw [hdv']at n3
         rw [hbv']at n4
         have x0:W8.cell? ⟨w.heap.size,0,none⟩=some a0:=by simp [World.cell?,hxb8]
         have x1:W8.cell? ⟨w.heap.size,1,none⟩=some a1:=by simp [World.cell?,hxb8]
         have x2:W8.cell? ⟨w.heap.size,2,none⟩=some a2:=by simp [World.cell?,hxb8]
         have x3:W8.cell? ⟨w.heap.size,3,none⟩=some a3:=by simp [World.cell?,hxb8]
         have x4:W8.cell? ⟨w.heap.size,4,none⟩=some a4:=by simp [World.cell?,hxb8]
         have xf:∀o,W8.frozen? ⟨w.heap.size,o,none⟩=false:=fun o=>by simp [World.frozen?,hxb8]
         obtain⟨W9,hW9⟩:∃W9,W9=((((W8.setCell ⟨w.heap.size,0,none⟩ (.bool r'.leaf)).setCell ⟨w.heap.size,1,none⟩ (.slice es' z.ents.length ec')).setCell ⟨w.heap.size,2,none⟩ (.slice ks' z.keys.length kc')).setCell ⟨w.heap.size,3,none⟩ (.slice (some ⟨db,doff,none⟩) z.kids.length dc')).setCell ⟨w.heap.size,4,none⟩ (.slice bs' z.buf.length bc'):=⟨_,rfl⟩
         have hz9:W9.heap.size=wr.heap.size+1:=by rw [hW9];simp [hz8]
         have kx9:W9.heap[w.heap.size]?=some (.cells #[.bool r'.leaf, .slice es' z.ents.length ec', .slice ks' z.keys.length kc', .slice (some ⟨db,doff,none⟩) z.kids.length dc', .slice bs' z.buf.length bc'] 133):=by
          rw [hW9]
          have:=heap_setCell_same (off:=4) (v:= .slice bs' z.buf.length bc') (heap_setCell_same (off:=3) (v:= .slice (some ⟨db,doff,none⟩) z.kids.length dc') (heap_setCell_same (off:=2) (v:= .slice ks' z.keys.length kc') (heap_setCell_same (off:=1) (v:= .slice es' z.ents.length ec') (heap_setCell_same (off:=0) (v:= .bool r'.leaf) hxb8))))
          simpa using this
         have h9:∀b,b≠w.heap.size→W9.heap[b]?=W8.heap[b]?:=fun b hb=>by rw [hW9];exact block_set5 (i:=0) hb
         have hix:=fun w'=>idx_ents (ab:=eb) (aoff:=eoff) (n:=LD.length) (cap:=dvc) (show (k:Int)=((k:Nat):Int) by rfl) hlt3 w'
         have hixn:=fun w'=>idx_node (ab:=nb') (aoff:=0) (n:=rs'.length) (cap:=cap') (show (j':Int)=((j':Nat):Int) by rfl) hjl' w'
         simp only [Nat.zero_add]at hixn
         have hB9:Bd M W9 bb (.slice (some ⟨nb',0,none⟩) rs'.length cap') rs' tk:=hB8.world fun b hb=>h9 b (fun e=>hxF (e▸hb))
         have hT9:Turn (fun b=>b=w.heap.size) wr W9:=by
          rw [hW9]
          exact turn_set5 (Turn.of hb8 (Nat.le_refl _)) _ _ _ _ _
         have hS9:Stp (Foot bb (.slice (some ⟨nb,0,none⟩) rs.length cap) rs) (Foot bb (.slice (some ⟨nb',0,none⟩) rs'.length cap') rs') w W9:=⟨hS.turn.trans' hT9 (fun i hi e=>by omega),hS.new⟩
         have hod9:OwnEnts M W9 (.slice (some ⟨eb,eoff,none⟩) LD.length dvc) LD:=hod.block fun g hg=>(h9 g (fun e=>hdx (by rw [hg,e]))).trans (hb8.block g (hod.lt g hg).2)
         have ke9:=(h9 wr.heap.size (by omega)).trans k8
         have hQ9:Q5 M bb (Foot bb (.slice (some ⟨nb,0,none⟩) rs.length cap) rs) w W9 w.heap.size wr.heap.size (.slice (some ⟨eb,eoff,none⟩) LD.length dvc) LD y (.slice (some ⟨nb',0,none⟩) rs'.length cap') rs' tk:=
          ⟨hB9,hS9,hod9,hdF,⟨_,_,_,_,_,kx9⟩,hxF,hdx,ke9,fun hf=>by have:=(hB.lt _ hf).2;omega⟩
         have hdn9:W9.cell? ⟨db,doff+i,none⟩=some (.int .i64 kd):=(World.cell?_of_block ((h9 db (fun e=>hxF (by rw [←e];exact .inr (.inr ⟨j',r',2,hrj',by show r'.dv.ownBlock=_;rw [hdv'];rfl⟩)))).trans (hb8.block db hdlt))).trans hdcell
         have hdb9:db<W9.heap.size:=by omega
         have HKID:=Lib.hid (kid_any (lf:=r'.leaf) (ev:= .slice es' z.ents.length ec') (dv:= .slice (some ⟨db,doff,none⟩) z.kids.length dc') (bv:= .slice bs' z.buf.length bc') (x:=y.key) ((show OwnInts M W9 (.slice ks' z.keys.length kc') z.keys from hkv'▸(hB9.nds j' r' z hrj' hzj).keys).at (by omega)) hzk)
         rw [hi]at HKID
         have HQ:=Lib.hid (And.intro hQ9 (And.intro hdn9 hdb9))
         have HKX:=Lib.hid kx9
         have HF:=Lib.hid (And.intro hp (And.intro hkf (And.intro hz2 hrest)))
         have s9:W9.cell? ⟨wr.heap.size,0,none⟩=some (.int .i64 y.key):=by simp [World.cell?,ke9]
         have u0:W9.cell? ⟨w.heap.size,0,none⟩=some (.bool r'.leaf):=by simp [World.cell?,kx9]
         have u1:W9.cell? ⟨w.heap.size,1,none⟩=some (.slice es' z.ents.length ec'):=by simp [World.cell?,kx9]
         have u2:W9.cell? ⟨w.heap.size,2,none⟩=some (.slice ks' z.keys.length kc'):=by simp [World.cell?,kx9]
         have u3:W9.cell? ⟨w.heap.size,3,none⟩=some (.slice (some ⟨db,doff,none⟩) z.kids.length dc'):=by simp [World.cell?,kx9]
         have u4:W9.cell? ⟨w.heap.size,4,none⟩=some (.slice bs' z.buf.length bc'):=by simp [World.cell?,kx9]
         have HRZ:=Lib.hid (And.intro hrj' hzj)
         clear hB hS hod hdF hxb hxF hdx hD hz hzk hkd hp hkf hz2 hrest hrj' hzj hown' hev' hkv' hdv' hbv' hdcell h5 heb hec hb8 hB8 hxb8 h9 hB9 hT9 hS9 hod9 hQ9 hdn9 kx9 ke9 HR hi k8 hy
         have HW9:=Lib.hid hW9
         have HI1:=Lib.hid hixn
         clear hW9
         go_upto_region 26 with (fail)
         rw [←hW8]
         clear y0 y1 y2 y3 y4 y5 y6 hix hW8
         go_upto_region 27 with (fail)
         rw [←HW9.out]
         clear c0 n0 n1 n2 n3 n4 x0 x1 x2 x3 x4 xf HW9 hixn
         go_upto_region 28 with ((go_at_call 77;(with_reducible refine HKID.out.mono ?_);rintro e w10 ⟨rfl,hb10⟩))
         clear s9 u0 u1 u2 u3 u4
         obtain⟨hQ9,hdn9,-⟩:=HQ.out
         have hz10:=hb10.size
         have hQ10:=hQ9.below hb10
         have hkx10:=(hb10.block w.heap.size (by omega)).trans HKX.out
         have hdn10:=(hb10.cell (p:=⟨db,doff+i,none⟩) hdb9).trans hdn9
         have q3:w10.cell? ⟨w.heap.size,3,none⟩=some (.slice (some ⟨db,doff,none⟩) z.kids.length dc'):=by simp [World.cell?,hkx10]
         obtain⟨s0,s1,s2,s3,s4,s5,s6⟩:=(show w10.cell? ⟨wr.heap.size,0,none⟩=some (.int .i64 y.key)∧w10.cell? ⟨wr.heap.size,1,none⟩=some (.int .i64 y.is.c)∧w10.cell? ⟨wr.heap.size,2,none⟩=some (.int .i64 y.is.s)∧w10.cell? ⟨wr.heap.size,3,none⟩=some (.int .i64 y.is.mi)∧w10.cell? ⟨wr.heap.size,4,none⟩=some (.int .i64 y.is.ma)∧w10.cell? ⟨wr.heap.size,5,none⟩=some (.int .i64 y.is.t)∧w10.cell? ⟨wr.heap.size,6,none⟩=some (.int .i64 y.is.l)from by simp [World.cell?,hQ10.ent])
         have HQ10:=Lib.hid hQ10
         have HPUT:=Lib.hid (hput (hQ10.bd.drew) HF.out.1)
         clear hQ9 hdn9 hQ10 hkx10 hb10
         have hixd:=fun w'=>idx_int (ab:=db) (aoff:=doff) (n:=z.kids.length) (cap:=dc') (show (i:Int)=((i:Nat):Int) by rfl) hil w'
         refine wp_region_sched [(0,1),(1,1),(2,0),(3,1),(4,1),(5,0),(6,0),(7,3),(8,1),(9,1),(10,1),(11,1),(12,1)] 7
          (fun W=>W.cell? ⟨w.heap.size,3,none⟩=some (.slice (some ⟨db,doff,none⟩) z.kids.length dc')∧W.cell? ⟨db,doff+i,none⟩=some (.int .i64 kd)∧W.cell? ⟨wr.heap.size,0,none⟩=some (.int .i64 y.key)∧W.cell? ⟨wr.heap.size,1,none⟩=some (.int .i64 y.is.c)∧W.cell? ⟨wr.heap.size,2,none⟩=some (.int .i64 y.is.s)∧W.cell? ⟨wr.heap.size,3,none⟩=some (.int .i64 y.is.mi)∧W.cell? ⟨wr.heap.size,4,none⟩=some (.int .i64 y.is.ma)∧W.cell? ⟨wr.heap.size,5,none⟩=some (.int .i64 y.is.t)∧W.cell? ⟨wr.heap.size,6,none⟩=some (.int .i64 y.is.l)) (by kernel_rfl) (by kernel_rfl) ⟨q3,hdn10,s0,s1,s2,s3,s4,s5,s6⟩ ?_
         clear q3 hdn10 s0 s1 s2 s3 s4 s5 s6
         (simp only [pickS,List.filterMap_cons,List.filterMap_nil,List.getElem?_cons_zero,List.getElem?_cons_succ,Option.map_some])
         (repeat (first|((refine sched_pure (v:=?_) rfl (fun W=>?_) ?_);rotate_left;focus (go_simp;(try with_reducible rfl);done))|((refine sched_read (v:=?_) rfl (fun W hW=>?_) ?_);rotate_left;focus ((try dsimp only at hW);go_simp;(try with_reducible rfl);done))))
         refine sched_last rfl (fun K hK=>?_)
         go_simp
         (with_reducible refine HPUT.out.mono ?_);rintro e w11 ⟨rfl,hp11⟩
         obtain⟨nv2,rs2,p1,p2⟩:=hp11
         have HQ11:=Lib.hid ((HQ10.out.below (wy:=w10.drew) (Below.refl _ _).drew).step p1 p2)
         clear p1 p2 hixd
         go_simp
         refine hK _ _ ?_
         clear hK K
         (repeat (first|((refine sched_pure (v:=?_) rfl (fun W=>?_) ?_);rotate_left;focus (go_simp;(try with_reducible rfl);done))|((refine sched_read (v:=?_) rfl (fun W hW=>?_) ?_);rotate_left;focus ((try dsimp only at hW);go_simp;(try with_reducible rfl);done))))
         refine sched_end ?_
         go_upto_if 117 with (fail)
         have HFK:=kidF_some HF.out.2.1
         go_cut [] (fun wx=>∃nv3 rs3,Hid (Q5 M bb (Foot bb (.slice (some ⟨nb,0,none⟩) rs.length cap) rs) w wx w.heap.size wr.heap.size (.slice (some ⟨eb,eoff,none⟩) LD.length dvc) LD y nv3 rs3 t2))
         case first=>
          rcases HFK with ⟨hm1,rfl⟩|⟨hm1,yy,hyy,hil2,hil3,hyd20,hyk20,rfl⟩
          ·have hm2:¬0≤more:=by omega
           clear hm1
           go_wp2_with fail
           go_meet
           exact⟨nv2,rs2,HQ11⟩
          ·obtain⟨j2,nb2,cap2,r2,hjj2,hnv2,hr2,hx2,hjl2,hown2⟩:=HQ11.out.bd.place hyy
           obtain rfl:j2=j':=by omega
           subst hnv2
           obtain⟨c0,-,-,c2,-,-,cfn,-,hbl2,hnl2,hbn2⟩:=HQ11.out.bd.cells hr2
           have hok2:=hown2.keys
           obtain⟨ks2,kc2,hkv2⟩:=hok2.isSlice
           rw [hkv2]at c2
           have hoff2:=HQ11.out.bd.off j2 r2 1
           have HSW:=Lib.hid fun(W:World) (hT:Turn (fun b=>(r2.fld 1).ownBlock=some b) w11 W)=>(⟨(hT.cell hbl2 (fun h=>(hoff2 bb hr2 h).1 rfl) 0).trans c0,(hT.cell hnl2 (fun h=>(hoff2 nb2 hr2 h).2 rfl) _).trans c2⟩:W.cell? ⟨bb,0,none⟩=some (.slice (some ⟨nb2,0,none⟩) rs2.length cap2)∧W.cell? ⟨nb2,j2*5+2,none⟩=some (.slice ks2 yy.keys.length kc2))
           have HFZ:=Lib.hid fun(W:World) (hT:Turn (fun b=>(r2.fld 1).ownBlock=some b) w11 W)=>(fun o=>(hT.frozen hnl2 (fun h=>(hoff2 nb2 hr2 h).2 rfl) o).trans (cfn o):∀o,W.frozen? ⟨nb2,o,none⟩=false)
           have HINS:=Lib.hid (HQ11.out.bd.insert (W5:=(w11.alloc (.cells #[.int .i64 key] 3)).drew) (f:=1) (i:=i) (vb:=w11.heap.size) (key:=key) (x':={ yy with keys:=yy.keys.take i++key::yy.keys.drop i }) hr2 hx2 (.inl rfl) hok2 hil2 (by omega) (belowAuto) (heap_new _ _ rfl) (Nat.le_refl _) rfl (nd_set1 yy _) rfl rfl (o:=j2*5+2) rfl)
           rw [show r2.fld 1 = .slice ks2 yy.keys.length kc2 from hkv2]at HINS HSW HFZ
           have hixn:=fun w'=>idx_node (ab:=nb2) (aoff:=0) (n:=rs2.length) (cap:=cap2) (show (j2:Int)=((j2:Nat):Int) by rfl) hjl2 w'
           simp only [Nat.zero_add]at hixn
           have HYY:=Lib.hid hyy
           clear c0 c2 cfn hok2 hkv2 hoff2 hr2 hx2 hown2 hyy hjj2
           go_upto_region 30 with (fail)
           refine wp_region_sched [(0,1),(1,1),(2,1),(3,1),(4,0),(5,1),(6,1),(7,1),(8,1),(9,1),(10,0),(11,1),(12,1),(13,1),(14,0),(15,1),(16,1),(17,2),(18,2),(19,1),(20,1),(21,3)] 21
            (fun W=>W.cell? ⟨bb,0,none⟩=some (.slice (some ⟨nb2,0,none⟩) rs2.length cap2)∧W.cell? ⟨nb2,j2*5+2,none⟩=some (.slice ks2 yy.keys.length kc2)) (by kernel_rfl) (by kernel_rfl) (HSW.out _ (Turn.refl _ _).drew) ?_
           (simp only [pickS,List.filterMap_cons,List.filterMap_nil,List.getElem?_cons_zero,List.getElem?_cons_succ,Option.map_some])
           (repeat (first|((refine sched_pure (v:=?_) rfl (fun W=>?_) ?_);rotate_left;focus (go_simp;(try with_reducible rfl);done))|((refine sched_read (v:=?_) rfl (fun W hW=>?_) ?_);rotate_left;focus ((try dsimp only at hW);go_simp;(try with_reducible rfl);done))))
           refine sched_does rfl (fun K hK=>?_)
           go_simp
           refine hK _ _ (HSW.out _ ((Turn.refl _ _).alloc _).drew) ?_
           clear hK K
           refine sched_does rfl (fun K hK=>?_)
           go_simp
           (with_reducible refine HINS.out.mono ?_);rintro e w12 ⟨s12,n12,c12,rfl,ht12,hb12,hs12⟩
           go_simp
           refine hK _ _ (HSW.out _ ht12) ?_
           clear hK K
           have hfz:=HFZ.out _ ht12 (j2*5+2)
           have hc4:=(HSW.out _ ht12).2
           have HQ12:=Lib.hid (HQ11.out.step hb12 hs12)
           clear ht12 hb12 hs12 HSW HFZ
           (repeat (first|((refine sched_pure (v:=?_) rfl (fun W=>?_) ?_);rotate_left;focus (go_simp;(try with_reducible rfl);done))|((refine sched_read (v:=?_) rfl (fun W hW=>?_) ?_);rotate_left;focus ((try dsimp only at hW);go_simp;(try with_reducible rfl);done))))
           refine sched_last rfl (fun K hK=>?_)
           go_simp
           refine hK _ _ ?_
           clear hK K
           refine sched_end ?_
           clear hfz hc4 hixn HINS
           generalize w12.setCell ⟨nb2,j2*5+2,none⟩ (.slice s12 n12 c12)=WA at HQ12 ⊢
           generalize rs2.set j2 (r2.setF 1 (.slice s12 n12 c12))=rs3 at HQ12
           generalize Value.slice (some ⟨nb2,0,none⟩) rs2.length cap2=nv3 at HQ12
           obtain⟨y3,hy3⟩:∃y3,y3={ yy with keys:=yy.keys.take i++key::yy.keys.drop i }:=⟨_,rfl⟩
           have hk3:y3.kids=yy.kids:=by rw [hy3]
           have HT3:=Lib.hid (show ∀D,setN t1 j2 { yy with keys:=yy.keys.take i++key::yy.keys.drop i,kids:=D }=setN (setN t1 j2 y3) j2 { y3 with kids:=D } from fun D=>by rw [setN_setN,hy3])
           rw [←hy3]at HQ12
           have hyy3:(setN t1 j2 y3).at? j2=some y3:=at_set HYY.out
           clear hy3
           obtain⟨j3,nb3,cap3,r3,hjj3,hnv3,hr3,hx3,hjl3,hown3⟩:=HQ12.out.bd.place hyy3
           obtain rfl:j3=j2:=by omega
           subst hnv3
           obtain⟨c0,-,-,-,c3,-,cfn,-,hbl3,hnl3,hbn3⟩:=HQ12.out.bd.cells hr3
           have hok3:=hown3.kids
           obtain⟨ds3,dc3,hdv3⟩:=hok3.isSlice
           rw [hdv3]at c3
           have hoff3:=HQ12.out.bd.off j3 r3 2
           have HSW:=Lib.hid fun(W:World) (hT:Turn (fun b=>(r3.fld 2).ownBlock=some b) WA W)=>(⟨(hT.cell hbl3 (fun h=>(hoff3 bb hr3 h).1 rfl) 0).trans c0,(hT.cell hnl3 (fun h=>(hoff3 nb3 hr3 h).2 rfl) _).trans c3⟩:W.cell? ⟨bb,0,none⟩=some (.slice (some ⟨nb3,0,none⟩) rs3.length cap3)∧W.cell? ⟨nb3,j3*5+3,none⟩=some (.slice ds3 y3.kids.length dc3))
           have HFZ:=Lib.hid fun(W:World) (hT:Turn (fun b=>(r3.fld 2).ownBlock=some b) WA W)=>(fun o=>(hT.frozen hnl3 (fun h=>(hoff3 nb3 hr3 h).2 rfl) o).trans (cfn o):∀o,W.frozen? ⟨nb3,o,none⟩=false)
           have HINS:=Lib.hid (HQ12.out.bd.insert (W5:=(WA.alloc (.cells #[.int .i64 more] 3)).drew) (f:=2) (i:=i+1) (vb:=WA.heap.size) (key:=more) (x':={ y3 with kids:=y3.kids.take (i+1)++more::y3.kids.drop (i+1) }) hr3 hx3 (.inr rfl) hok3 (by rw [hk3];exact hil3) (by rw [hk3];omega) (belowAuto) (heap_new _ _ rfl) (Nat.le_refl _) rfl (nd_set2 y3 _) rfl rfl (o:=j3*5+3) rfl)
           rw [show r3.fld 2 = .slice ds3 y3.kids.length dc3 from hdv3]at HINS HSW HFZ
           have hi20:i≤20:=by omega
           rw [show ((i+1:Nat):Int)=IntKind.i64.wrap ((i:Int)+1)from by rw [IntWalk.i64_in _ (by omega)];omega]at HINS
           have hixn:=fun w'=>idx_node (ab:=nb3) (aoff:=0) (n:=rs3.length) (cap:=cap3) (show (j3:Int)=((j3:Nat):Int) by rfl) hjl3 w'
           simp only [Nat.zero_add]at hixn
           have HK3:=Lib.hid hk3
           clear c0 c3 cfn hok3 hdv3 hoff3 hr3 hx3 hown3 hyy3 hjj3 hk3
           go_upto_region 31 with (fail)
           refine wp_region_sched [(0,1),(1,1),(2,1),(3,1),(4,0),(5,1),(6,1),(7,1),(8,1),(9,1),(10,0),(11,1),(12,1),(13,1),(14,0),(15,1),(16,1),(17,1),(18,2),(19,2),(20,1),(21,1),(22,3)] 22
            (fun W=>W.cell? ⟨bb,0,none⟩=some (.slice (some ⟨nb3,0,none⟩) rs3.length cap3)∧W.cell? ⟨nb3,j3*5+3,none⟩=some (.slice ds3 y3.kids.length dc3)) (by kernel_rfl) (by kernel_rfl) (HSW.out _ (Turn.refl _ _).drew) ?_
           (simp only [pickS,List.filterMap_cons,List.filterMap_nil,List.getElem?_cons_zero,List.getElem?_cons_succ,Option.map_some])
           (repeat (first|((refine sched_pure (v:=?_) rfl (fun W=>?_) ?_);rotate_left;focus (go_simp;(try with_reducible rfl);done))|((refine sched_read (v:=?_) rfl (fun W hW=>?_) ?_);rotate_left;focus ((try dsimp only at hW);go_simp;(try with_reducible rfl);done))))
           refine sched_does rfl (fun K hK=>?_)
           go_simp
           refine hK _ _ (HSW.out _ ((Turn.refl _ _).alloc _).drew) ?_
           clear hK K
           refine sched_does rfl (fun K hK=>?_)
           go_simp
           (with_reducible refine HINS.out.mono ?_);rintro e w13 ⟨s13,n13,c13,rfl,ht13,hb13,hs13⟩
           go_simp
           refine hK _ _ (HSW.out _ ht13) ?_
           clear hK K
           have hfz:=HFZ.out _ ht13 (j3*5+3)
           have hc4:=(HSW.out _ ht13).2
           have HQ13:=Lib.hid (HQ12.out.step hb13 hs13)
           rw [HK3.out,←HT3.out]at HQ13
           clear ht13 hb13 hs13 HSW HFZ
           (repeat (first|((refine sched_pure (v:=?_) rfl (fun W=>?_) ?_);rotate_left;focus (go_simp;(try with_reducible rfl);done))|((refine sched_read (v:=?_) rfl (fun W hW=>?_) ?_);rotate_left;focus ((try dsimp only at hW);go_simp;(try with_reducible rfl);done))))
           refine sched_last rfl (fun K hK=>?_)
           go_simp
           refine hK _ _ ?_
           clear hK K
           refine sched_end ?_
           clear hfz hc4 hixn HINS
           generalize w13.setCell ⟨nb3,j3*5+3,none⟩ (.slice s13 n13 c13)=WB at HQ13 ⊢
           go_wp2_with fail
           go_meet
           exact⟨_,_,HQ13⟩
         case rest=>
          obtain⟨nv3,rs3,HQ3⟩:=hcut
          clear HQ11 HQ10 HQ HKX HKID HRZ HI1 HPUT HFK
          obtain⟨-,-,hz2,hgo⟩:=HF.out
          obtain⟨j3,nb3,cap3,r3,hjj3,hnv3,hr3,hx3,hjl3,hown3⟩:=HQ3.out.bd.place hz2
          obtain rfl:j3=j':=by omega
          subst hnv3
          obtain⟨c0,-,-,-,c3,-,-,-,-,-,-⟩:=HQ3.out.bd.cells hr3
          have cb:wc.cell? ⟨bb,2,none⟩=some (.int .i64 0):=by simp [World.cell?,HQ3.out.bd.box]
          obtain⟨ds3,dc3,hdv3⟩:=hown3.kids.isSlice
          rw [hdv3]at c3
          have ck:wc.cell? ⟨wr.heap.size,0,none⟩=some (.int .i64 y.key):=by simp [World.cell?,HQ3.out.ent]
          have hixn:=fun w'=>idx_node (ab:=nb3) (aoff:=0) (n:=rs3.length) (cap:=cap3) (show (j3:Int)=((j3:Nat):Int) by rfl) hjl3 w'
          simp only [Nat.zero_add]at hixn
          have HGO:=Lib.hid hgo
          clear hz2 hgo hr3 hx3 hown3 hdv3 hjj3
          rcases HGO.out with ⟨h4,hd⟩|⟨h4,hd⟩
          ·have HR4:=Lib.hid (HQ3.out.r4 hd)
           clear hd
           go_wp2_with fail
           go_roundg (LD.length-(k+1))
           case measure=>omega
           case rel=>exact⟨k+1,by omega,rfl,by go_num,HR4⟩
          ·have HRS:=Lib.hid (rest_any HQ3.out.bd HQ3.out.own HQ3.out.off hLDl hd)
           clear hd
           go_wp2_with (go_at_call 102;(with_reducible refine HRS.out.mono ?_);rintro e w14 ⟨rfl,hp14⟩)
           refine bodyPost_ret (results_none rfl _ _ _) rfl ?_
           obtain⟨nv4,rs4,p1,p2⟩:=hp14
           exact⟨rfl,nv4,rs4,p1,HQ3.out.stp.trans p2⟩
        ·obtain⟨nv',rs',tk,a0,a1,a2,a3,a4,hB,hS,-,-,-,-,-,hD⟩:=HR.out
         rw [List.drop_eq_nil_of_le (by omega)]at hD
         have HV:=Lib.hid (show BdPost M bb (Foot bb (.slice (some ⟨nb,0,none⟩) rs.length cap) rs) w t' wr from ⟨_,_,(Option.some.inj hD)▸hB,hS⟩)
         clear hB hS hD HR
         go_wp2
         go_end0
         exact⟨rfl,HV.out⟩
theorem flushC {f:Nat} (hput:PutC f):FlushC f:=fun h hF=>flush_any hput h hF
theorem put_any:∀f,PutC f
 |0=>fun _ hF=>by cases hF
 |f+1=>put_step (flushC (put_any f))
end Go.Proofs.YtnjfkcimboidnaaDoor
